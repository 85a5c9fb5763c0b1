/- Part 1 of the proof of HouseShopsMatchSpec. -/
import Derived.StillTail
import Derived.OwnWalk
import Derived.WalkKit
import Derived.Lib.Hide
import Derived.Below
import Derived.Laws.IdiomRangeMap
import Derived.MapKept
set_option linter.unusedVariables false
set_option linter.unusedSimpArgs false
set_option maxRecDepth 100000
set_option maxHeartbeats 8000000
namespace Go
abbrev cr:=@Bool.eq_false_iff
abbrev bq:=@Nat.eq_of_beq_eq_true
abbrev uR:=@Go.World.cell?_of_block
abbrev aC:=@Nat.le_refl
abbrev bM:=@Nat.le_trans
abbrev bg:=@Nat.lt_of_lt_of_le
abbrev aj:=@List.mem_of_getElem?
abbrev cL:=@List.getElem?_eq_some_iff
abbrev cB:=@List.getElem?_take
abbrev lU:=@Array.getD_eq_getD_getElem?
abbrev fg:=@Array.getElem?_setIfInBounds
abbrev af:=@if_neg
abbrev cC:=@List.all_eq_true
abbrev ao:=@List.getElem?_map
abbrev bE:=@Array.getElem?_eq_getElem
abbrev gU:=@Bool.eq_iff_iff
abbrev dS:=@decide_eq_true_eq
abbrev uS:=@Go.ByteArray.toList_eq
abbrev gV:=@Array.ext'
abbrev az:=@Option.map_eq_some_iff
abbrev aI:=@Go.Sem.run_bind
abbrev gW:=@Go.Addr.add_lit
abbrev aM:=@List.getElem?_eq_getElem
abbrev fh:=@List.mem_map
abbrev dT:=@List.mem_range
abbrev fG:=@List.getElem?_range
abbrev cV:=@List.getElem?_drop
abbrev Tj:=@Nat.le_of_ble_eq_true
abbrev ae:=@Nat.zero_add
abbrev br:=@Nat.add_assoc
abbrev ct:=@List.length_map
abbrev qH:=@if_pos
abbrev nH:=@Go.Result.andThen_ok
abbrev jS:=@Go.Sem.run_pure
abbrev jT:=@List.mem_of_mem_drop
abbrev eM:=@List.mem_of_mem_take
abbrev uT:=@Nat.add_zero
abbrev qI:=@Nat.add_mul
abbrev cW:=@Option.map_some
abbrev dU:=@Array.getElem?_map
abbrev cX:=@Array.mem_of_getElem?
abbrev gw:=@List.eq_nil_of_length_eq_zero
abbrev jU:=@Iff.rfl
abbrev cD:=@List.mem_append
abbrev fH:=@Bool.and_eq_true
abbrev aP:=@Go.RowKit.Below.heap_alloc
abbrev qJ:=@List.length_nil
abbrev bw:=@List.length_cons
abbrev gX:=@Nat.sub_self
abbrev bQ:=@List.getElem?_set_self
abbrev gY:=@List.getElem?_cons_succ
abbrev bY:=@List.getElem?_set_ne
abbrev bR:=@List.append_assoc
abbrev ba:=@List.getElem?_append_left
abbrev aF:=@List.getElem?_take_of_lt
abbrev bd:=@List.getElem?_append_right
abbrev lV:=@Nat.succ_mul
abbrev bZ:=@Nat.mul_le_mul_right
abbrev cu:=@List.length_set
abbrev nI:=@Nat.zero_le
abbrev Tk:=@List.size_toArray
abbrev fj:=@List.length_append
abbrev dI:=@List.length_take
abbrev cw:=@List.length_drop
abbrev cf:=@Array.length_toList
abbrev lW:=@List.ext_getElem?
abbrev dy:=@List.getElem?_eq_none
abbrev nJ:=@List.mem_or_eq_of_mem_set
abbrev uU:=@List.mem_iff_getElem?
abbrev jV:=@Nat.lt_or_gt_of_ne
abbrev uV:=@Nat.succ_le_of_lt
abbrev aw:=@List.length_singleton
abbrev qK:=@Array.toList_setIfInBounds
abbrev bD:=@Nat.min_eq_left
abbrev fm:=@Nat.le_of_lt
abbrev lX:=@List.cons_append
abbrev uW:=@List.nil_append
abbrev qL:=@Array.size_setIfInBounds
abbrev nK:=@Array.mem_toList_iff
abbrev qM:=@Array.toArray_toList
abbrev aB:=@Go.MapKept.run_getObj_map
abbrev Al:=@List.getElem_mem
abbrev aR:=@Nat.sub_mul
abbrev di:=@Nat.mod_lt
abbrev qN:=@List.eq_of_mem_replicate
abbrev aV:=@List.exists_mem_of_ne_nil
abbrev uX:=@List.length_replicate
abbrev uY:=@List.foldl_cons
abbrev qO:=@List.map_cons
abbrev Am:=@List.mapM_cons
abbrev Uw:=@Go.World.ownsRow_lit
abbrev uZ:=@Array.getElem?_toList
abbrev aW:=@Array.toList_map
abbrev cg:=@Nat.le_mul_of_pos_right
abbrev qP:=@Go.MapKept.bytes_beq
abbrev dJ:=@List.mem_cons_self
abbrev An:=@List.mem_cons_of_mem
abbrev Ub:=@List.all_cons
abbrev aa:=@List.map_append
abbrev jW:=@List.pairwise_append
abbrev qQ:=@List.pairwise_singleton
abbrev qR:=@Array.getElem?_modify
abbrev iX:=@congrArg
abbrev qU:=@Bool.false_eq_true
abbrev aK:=@Array.eq_empty_of_size_eq_zero
abbrev fK:=@List.append_nil
abbrev ca:=@List.take_append_drop
abbrev nZ:=@List.take_take
abbrev vm:=@List.take_of_length_le
end Go
namespace Go.AM
open Go.RowKit
inductive MK where
 | str
 | int (k:IntKind)
 | st (sh:List Nat)
inductive PV where
 | im (x:Value)
 | ag (cs:List PV)
 | sl (es:List (List PV))
 | ip (cs:List PV)
 | fn (f:FuncId) (cap:List PV)
 | mp (mk:MK) (es:List (Value×Value))
 | ifc (t:TypeId) (x:PV)
inductive AV where
 | p (x:PV)
 | nl
 | ow (id:Nat)
 | rp (id i off:Nat)
 | bx (id off:Nat)
 | vw (id lo hi:Nat)
 | fn (f:FuncId) (cap:List AV)
 | tu (xs:List AV)
 | st (xs:List AV)
 | ifp (t:TypeId) (a:AV)
 | junk
def yr:Nat->Value->Prop
 | 0,.string _=>True
 | 1,.int k _=>k=.i64
 | 2,.bool _=>True
 | _,_=>False
def gZ:List Nat->List Value->Prop
 | [],[]=>True
 | n::s,v::r=>yr n v/\gZ s r
 | _,_=>False
def MK.ok:MK->Value->Prop
 | .str,.string _=>True
 | .int k,.int k' _=>k'=k
 | .st sh,.agg xs=>gZ sh xs.toList
 | _,_=>False
inductive HC where
 | p (x:PV)
 | row (e:TypeId) (es:List (List PV))
def HC.isRow:HC->Prop
 | .row ..=>True
 | _=>False
inductive HX where
 | av (x:AV)
 | row (e:TypeId) (es:List (List PV))
abbrev FX:=Option Nat
inductive AB where
 | none
 | row (e:TypeId) (es:List (List PV))
 | f_ (es:List (List PV))
 | box (cs:List AV)
 | eN (ty:TypeId) (cs:List AV)
 | jt (cs:List PV)
 | map (mk:MK) (es:List (Value×PV))
 | aA (cs:List HC)
 | ai (e:TypeId) (es:List (List HX))
 | iter (mk:MK) (es:List (Value×Value)) (k:Nat) (cur:Option (Value×Value))
 | cell (c0:Array Value) (ty:TypeId) (a:AV)
 | fam (l:List (Nat×List HC)) (out:List (Nat×FX))
def AB.live:AB->Prop
 | .row .. | .box .. | .eN .. | .map .. | .aA .. | .ai .. | .iter .. | .cell .. | .fam ..=>True
 | _=>False
def AB.fD:AB->Option TypeId
 | .row e _=>some e
 | .ai e _=>some e
 | _=>Option.none
def AB.there:AB->Prop
 | .none=>False
 | _=>True
structure AS where
 t:Nat->AV
 h:Nat->AB
def ax{α:Type}(f:Nat->α)(i:Nat)(x:α)(j:Nat):α:=match Nat.beq j i with | true=>x | false=>f j
variable {α:Type}
theorem ak(f:Nat->α)(i:Nat)(x:α):ax f i x i=x:=by simp[ax]
theorem au(f:Nat->α){i j:Nat}(x:α)(h:j≠i):ax f i x j=f j:=by
 unfold ax;have:Nat.beq j i=false:=by rw[cr];intro e;exact h (bq e)
 rw[this]
theorem eX(f:Nat->α)(i:Nat)(x:α)(h:f i=x):ax f i x=f:=by
 funext j;by_cases e:j=i
 ·subst e;rw[ak,h]
 rw[au _ _ e]
def jX(ms:Array MapEntry)(clock:Nat):Prop:=(ms.toList.map (·.born)).Pairwise (· < ·)/\∀m∈ms.toList,m.born<clock
def C9(mk:MK)(es:List (Value×Value))(ms:Array MapEntry)(clock:Nat):Prop:=ms.size=es.length/\(∀(i:Nat) p m,es[i]?=some p->ms[i]?=some m->m.key=p.1/\mk.ok p.1/\m.val=p.2)/\jX ms clock
inductive ay(S:Nat->Prop)(w:World):PV->Value->Prop
 | im (x:Value):ay S w (.im x) x
 | ag (cs:List PV) (vs:Array Value) (hl:cs.length=vs.size) (h1:∀u∈vs.toList,u.oneCell'=true) (h:∀(i:Nat) c v,cs[i]?=some c->vs[i]?=some v->ay S w c v):ay S w (.ag cs) (.agg vs)
 | nil (a:Option Addr) (c:Nat):ay S w (.sl []) (.slice a 0 c)
 | sl (es:List (List PV)) (k b off c:Nat) (U:Nat->Nat->Value) (hc:es.length<=c) (hS:S b) (hk:∀e∈es,e.length=k)
   (hcell:∀(i:Nat) e (j:Nat) x,es[i]?=some e->e[j]?=some x->w.cell? ⟨b,off+i*k+j,none⟩=some (U i j)/\(U i j).oneCell'=true)
   (h:∀(i:Nat) e (j:Nat) x,es[i]?=some e->e[j]?=some x->ay S w x (U i j)):ay S w (.sl es) (.slice (some ⟨b,off,none⟩) es.length c)
 | ip (cs:List PV) (b off:Nat) (U:Nat->Value) (hS:S b) (hcell:∀(j:Nat) x,cs[j]?=some x->w.cell? ⟨b,off+j,none⟩=some (U j)/\(U j).oneCell'=true)
   (h:∀(j:Nat) x,cs[j]?=some x->ay S w x (U j)):ay S w (.ip cs) (.pointer (some ⟨b,off,none⟩))
 | fn (f:FuncId) (cap:List PV) (vs:Array Value) (hl:cap.length=vs.size) (h:∀(i:Nat) c v,cap[i]?=some c->vs[i]?=some v->ay S w c v):ay S w (.fn f cap) (.func (.func f) #[] vs)
 | mp (mk:MK) (es:List (Value×Value)) (g:Nat) (ms:Array MapEntry) (clock:Nat) (hS:S g) (hb:w.heap[g]?=some (.map ms clock)) (h:C9 mk es ms clock):ay S w (.mp mk es) (.map (some g))
 | ifc (t:TypeId) (x:PV) (v:Value) (h:ay S w x v):ay S w (.ifc t x) (.iface t v)
variable {w':World}
theorem ay.mono{S S':Nat->Prop}{w:World}{x:PV}{v:Value}(h:ay S w x v)(hS:∀b,S b->S' b)(D:∀b,S b->w'.heap[b]?=w.heap[b]?):ay S' w' x v:=by
 induction h with
 | im x=>exact .im x
 | ag cs vs hl z h ih=>exact .ag cs vs hl z ih
 | nil a c=>exact .nil a c
 | sl es k b off c U hc hb hk hcell h ih=>exact .sl es k b off c U hc (hS b hb) hk (fun i e j x z G=>⟨(uR (D b hb)).trans (hcell i e j x z G).1,(hcell i e j x z G).2⟩) ih
 | ip cs b off U hb hcell h ih=>exact .ip cs b off U (hS b hb) (fun j x z=>⟨(uR (D b hb)).trans (hcell j x z).1,(hcell j x z).2⟩) ih
 | fn f cap vs hl h ih=>exact .fn f cap vs hl ih
 | mp mk es g ms clock hg hb h=>exact .mp mk es g ms clock (hS g hg) ((D g hg).trans hb) h
 | ifc t x v h ih=>exact .ifc t x v ih
theorem ay.FJ{S:Nat->Prop}{w:World}{t:TypeId}{x:PV}{v:Value}(h:ay S w (.ifc t x) v):∃u,v=.iface t u/\ay S w x u:=by
 cases h with
 | ifc _ _ u h=>exact⟨u,rfl,h⟩
theorem ay.yt{S:Nat->Prop}{w:World}{mk:MK}{es:List (Value×Value)}{v:Value}(h:ay S w (.mp mk es) v):∃g ms z,v=.map (some g)/\S g/\w.heap[g]?=some (.map ms z)/\C9 mk es ms z:=by
 cases h with
 | mp _ _ g ms z hS hb h=>exact⟨g,ms,z,rfl,hS,hb,h⟩
structure Fr(mv:Nat->Prop)(w w':World):Prop where
 os:w'.os=w.os
 tape:w'.tape=w.tape
 output:w'.output=w.output
 size:w.heap.size<=w'.heap.size
 block:∀k,k<w.heap.size->¬mv k->w'.heap[k]?=w.heap[k]?
theorem Fr.refl(mv:Nat->Prop)(w:World):Fr mv w w:=⟨rfl,rfl,rfl,aC _,fun _ _ _=>rfl⟩
theorem Fr.trans{mv z:Nat->Prop}{a b c:World}(h:Fr mv a b)(k:Fr z b c)(J:∀i,z i->mv i\/a.heap.size<=i):Fr mv a c:=
 ⟨k.os.trans h.os,k.tape.trans h.tape,k.output.trans h.output,bM h.size k.size,fun i D G=>
  (k.block i (bg D h.size) (fun N=>by rcases J i N with I | I;exact G I;omega)).trans (h.block i D G)⟩
def an{α:Type}(P:Program)(w:World)(R:α->Value->Prop)(e:TypeId)(es:List (List α))(v:Value):Prop:=
 ∃i xs,P.info? e=some i/\0<i.size/\w.ownsRow 0 e i.size v es.length xs/\(∀r∈es,r.length=i.size)/\(∀u∈xs,u.oneCell'=true)/\
  ∀(a:Nat) r (j:Nat) x,es[a]?=some r->r[j]?=some x->∃u,xs[a*i.size+j]?=some u/\R x u
def bH:Value->Option Nat
 | .slice (some a) _ _=>some a.block
 | .pointer (some a)=>some a.block
 | .map (some g)=>some g
 | _=>none
inductive aE(S:Nat->Prop)(w:World)(P:Program)(L:Nat->Prop)(rho:Nat->Value)(h:Nat->AB):AV->Value->Prop
 | p (x:PV) (v:Value) (hx:ay S w x v):aE S w P L rho h (.p x) v
 | nl:aE S w P L rho h .nl (.slice none 0 0)
 | ow (id:Nat) (v:Value) (hv:(h id).there->L id/\v=rho id):aE S w P L rho h (.ow id) v
 | rp (id i off:Nat) (v:Value) (hv:∀e,(h id).fD=some e->L id/\∃g n c ti,rho id=.slice (some ⟨g,0,none⟩) n c/\P.info? e=some ti/\v=.pointer (some ⟨g,i*ti.size+off,none⟩)):aE S w P L rho h (.rp id i off) v
 | bx (id off:Nat) (v:Value) (hv:(h id).there->L id/\∃g,rho id=.pointer (some ⟨g,0,none⟩)/\v=.pointer (some ⟨g,off,none⟩)):aE S w P L rho h (.bx id off) v
 | vw (id lo hi:Nat) (v:Value) (hv:∀e,(h id).fD=some e->L id/\∃n c a ti,rho id=.slice a n c/\P.info? e=some ti/\lo<=hi/\hi<=n/\n<=c/\v=.slice (if c=lo then a else a.map (·.add (lo*ti.size))) (hi-lo) (c-lo)):aE S w P L rho h (.vw id lo hi) v
 | fn (f:FuncId) (cap:List AV) (vs:Array Value) (hl:cap.length=vs.size) (hc:∀(i:Nat) c v,cap[i]?=some c->vs[i]?=some v->aE S w P L rho h c v):aE S w P L rho h (.fn f cap) (.func (.func f) #[] vs)
 | tu (xs:List AV) (vs:Array Value) (hl:xs.length=vs.size) (hc:∀(i:Nat) c v,xs[i]?=some c->vs[i]?=some v->aE S w P L rho h c v):aE S w P L rho h (.tu xs) (.tuple vs)
 | st (xs:List AV) (vs:Array Value) (hl:xs.length=vs.size) (h1:∀u∈vs.toList,u.oneCell'=true) (hc:∀(i:Nat) c v,xs[i]?=some c->vs[i]?=some v->aE S w P L rho h c v):aE S w P L rho h (.st xs) (.agg vs)
 | ifp (t:TypeId) (a:AV) (u:Value) (hc:aE S w P L rho h a u):aE S w P L rho h (.ifp t a) (.iface t u)
 | junk (v:Value):aE S w P L rho h .junk v
def Hr(S:Nat->Prop)(w:World)(P:Program):HC->Value->Prop
 | .p x,u=>ay S w x u
 | .row e es,u=>an P w (ay S w) e es u
structure yu(S:Nat->Prop)(w:World)(P:Program)(cs:List HC)(g:Nat)(ty:TypeId)(c:Array Value):Prop where
 hp:w.heap[g]?=some (.cells c ty (0,0))
 sz:c.size=cs.length
 cell:∀(j:Nat) x u,cs[j]?=some x->c[j]?=some u->u.oneCell'=true/\Hr S w P x u
 top:∀(j:Nat) x u b,cs[j]?=some x->c[j]?=some u->x.isRow->bH u=some b->b≠g
 dis:∀(i j:Nat) x y u v b,cs[i]?=some x->cs[j]?=some y->c[i]?=some u->c[j]?=some v->x.isRow->y.isRow->bH u=some b->bH v=some b->i=j
def iY(S:Nat->Prop)(w:World)(P:Program)(L:Nat->Prop)(rho:Nat->Value)(h:Nat->AB):HX->Value->Prop
 | .av x,u=>aE S w P L rho h x u
 | .row e es,u=>an P w (ay S w) e es u
def bI(w:World)(es:List (List HX))(g:Nat)(a j:Nat)(u:Value):Prop:=∃(r:List HX) (e:TypeId) (xs:List (List PV)) (c:Array Value) (ty:TypeId) (m:Nat×Nat),es[a]?=some r/\r[j]?=some (.row e xs)/\w.heap[g]?=some (.cells c ty m)/\c[a*r.length+j]?=some u
structure kU(w:World)(es:List (List HX))(v:Value):Prop where
 top:∀g a j u b,bH v=some g->bI w es g a j u->bH u=some b->b≠g
 dis:∀g a j a' j' u u' b,bH v=some g->bI w es g a j u->bI w es g a' j' u'->bH u=some b->bH u'=some b->a=a'/\j=j'
def Np(w:World)(x:AB)(v:Value)(k:Nat):Prop:=∃e es g a j u,x=.ai e es/\bH v=some g/\bI w es g a j u/\bH u=some k
def Nq(w:World)(x:AB)(v:Value)(k:Nat):Prop:=∃cs g,x=.aA cs/\bH v=some g/\∃(c:Array Value) (ty:TypeId) (m:Nat×Nat) (j:Nat) (y:HC) (u:Value),w.heap[g]?=some (.cells c ty m)/\cs[j]?=some y/\y.isRow/\c[j]?=some u/\bH u=some k
def mE(w:World)(cs:List HC)(g k:Nat):Prop:=k=g\/∃(c:Array Value) (ty:TypeId) (mm:Nat×Nat) (j:Nat) (y:HC) (u:Value),w.heap[g]?=some (.cells c ty mm)/\cs[j]?=some y/\y.isRow/\c[j]?=some u/\bH u=some k
def qA(out:List (Nat×FX))(m:Nat):Prop:=∀p∈out,p.1≠m
def Nr(w:World)(x:AB)(k:Nat):Prop:=∃(l:List (Nat×List HC)) (out:List (Nat×FX)) (m g:Nat) (cs:List HC),x=.fam l out/\l[m]?=some (g,cs)/\qA out m/\mE w cs g k
def QH(w:World)(x:AB)(v:Value)(k:Nat):Prop:=Nq w x v k\/Np w x v k\/Nr w x k
def hasB(w:World)(x:AB)(v:Value)(k:Nat):Prop:=bH v=some k\/QH w x v k
variable {k:Nat}
theorem C_{w:World}{x:AB}{v:Value}(h:bH v=some k):hasB w x v k:=.inl h
theorem iZ{w:World}{es:List (List HX)}{g a j:Nat}{u:Value}(z:w'.heap[g]?=w.heap[g]?)(h:bI w' es g a j u):bI w es g a j u:=by
 obtain⟨r,e,xs,c,D,m,G,I,J,N⟩:=h;exact⟨r,e,xs,c,D,m,G,I,by rw[<-z];exact J,N⟩
theorem pb{w:World}{cs:List HC}{g:Nat}(z:w'.heap[g]?=w.heap[g]?)(h:mE w' cs g k):mE w cs g k:=by
 rcases h with h | ⟨c,D,G,j,y,u,I,J⟩
 ·exact .inl h
 exact .inr ⟨c,D,G,j,y,u,by rw[<-z];exact I,J⟩
theorem b_{w:World}{x:AB}{v:Value}(G:∀g,hasB w x v g->w'.heap[g]?=w.heap[g]?)(h:hasB w' x v k):hasB w x v k:=by
 rcases h with h | ⟨cs,g,z,D,c,U,m,j,y,u,I,J⟩ | ⟨e,es,g,a,j,u,z,D,I,J⟩ | ⟨l,out,m,g,cs,z,N,O,Y⟩
 ·exact .inl h
 ·exact .inr (.inl ⟨cs,g,z,D,c,U,m,j,y,u,by rw[<-G g (.inl D)];exact I,J⟩)
 ·exact .inr (.inr (.inl ⟨e,es,g,a,j,u,z,D,iZ (G g (.inl D)) I,J⟩))
 exact .inr (.inr (.inr ⟨l,out,m,g,cs,z,N,O,pb (G g (.inr (.inr (.inr ⟨l,out,m,g,cs,z,N,O,.inl rfl⟩)))) Y⟩))
def Ij:AB->Bool
 | .aA _=>false
 | .ai _ _=>false
 | .fam ..=>false
 | _=>true
theorem al{w:World}{x:AB}{v:Value}(z:Ij x=true)(h:hasB w x v k):bH v=some k:=by
 rcases h with h | ⟨cs,g,rfl,_⟩ | ⟨e,es,g,a,j,u,rfl,_⟩ | ⟨l,out,m,g,cs,rfl,_⟩
 ·exact h
 ·cases z
 ·cases z
 cases z
structure mY(S:Nat->Prop)(w:World)(P:Program)(L:Nat->Prop)(rho:Nat->Value)(h:Nat->AB)(l:List (Nat×List HC))(out:List (Nat×FX)):Prop where
 mem:∀m g cs,l[m]?=some (g,cs)->qA out m->∃ty c,yu S w P cs g ty c
 dis:∀m m' g g' cs dB k,l[m]?=some (g,cs)->l[m']?=some (g',dB)->qA out m->qA out m'->mE w cs g k->mE w dB g' k->m=m'
 out:∀m n g cs,(m,some n)∈out->l[m]?=some (g,cs)->(h n).there->L n/\rho n=.pointer (some ⟨g,0,none⟩)
def cd(S:Nat->Prop)(w:World)(P:Program)(L:Nat->Prop)(rho:Nat->Value)(h:Nat->AB)(id:Nat):AB->Prop
 | .none=>True
 | .row e es=>an P w (ay S w) e es (rho id)
 | .f_ es=>ay S w (.sl es) (rho id)
 | .box cs=>∃g ty c,rho id=.pointer (some ⟨g,0,none⟩)/\w.heap[g]?=some (.cells c ty (0,0))/\c.size=cs.length/\∀(j:Nat) x u,cs[j]?=some x->c[j]?=some u->u.oneCell'=true/\aE S w P L rho h x u
 | .eN ty cs=>∃g c,rho id=.pointer (some ⟨g,0,none⟩)/\w.heap[g]?=some (.cells c ty (0,0))/\c.size=cs.length/\∀(j:Nat) x u,cs[j]?=some x->c[j]?=some u->u.oneCell'=true/\aE S w P L rho h x u
 | .jt cs=>ay S w (.ip cs) (rho id)
 | .aA cs=>∃g ty c,rho id=.pointer (some ⟨g,0,none⟩)/\yu S w P cs g ty c
 | .ai e es=>an P w (iY S w P L rho h) e es (rho id)/\kU w es (rho id)
 | .map mk es=>∃g ms clock,rho id=.map (some g)/\w.heap[g]?=some (.map ms clock)/\ms.size=es.length/\(∀(i:Nat) p m,es[i]?=some p->ms[i]?=some m->m.key=p.1/\mk.ok p.1/\ay S w p.2 m.val)/\jX ms clock
 | .iter mk es k cur=>∃g mg ms clock,∃seen:Array Nat,rho id=.pointer (some ⟨g,0,none⟩)/\w.heap[g]?=some (.mapIter (some mg) clock seen clock)/\S mg/\w.heap[mg]?=some (.map ms clock)/\C9 mk es ms clock/\(leftOf ms seen).size=k /\
  ∀p,cur=some p->∃e∈ms.toList,∃Hs:Array Nat,seen=Hs.push e.born/\e.key=p.1/\e.val=p.2
 | .cell c0 ty a=>∃g off v,rho id=.pointer (some ⟨g,off,none⟩)/\off<c0.size/\w.heap[g]?=some (.cells (c0.setIfInBounds off v) ty (0,0))/\v.oneCell'=true/\aE S w P L rho h a v
 | .fam l out=>bH (rho id)=none/\mY S w P L rho h l out
theorem bN{w:World}{e:TypeId}{es:List (List HX)}{v:Value}:hasB w (.ai e es) v k↔bH v=some k\/∃g a j u,bH v=some g/\bI w es g a j u/\bH u=some k:=by
 constructor
 ·rintro (h | ⟨cs,g,h,_⟩ | ⟨e',bW,g,a,j,u,h,z,D,G⟩ | ⟨_,_,_,_,_,h,_⟩)
  ·exact .inl h
  ·cases h
  ·injection h with h4 h5;subst h4 h5;exact .inr ⟨g,a,j,u,z,D,G⟩
  cases h
 rintro (h | ⟨g,a,j,u,z,D,G⟩)
 ·exact .inl h
 exact .inr (.inr (.inl ⟨_,_,_,_,_,_,rfl,z,D,G⟩))
end Go.AM
namespace Go.AM
open Go.RowKit
inductive UD where
 | sc
 | int (k:IntKind)
 | st (fs:List (Nat×Nat×Bool))
 | sl (e:TypeId)
 | str
 | mp (k e:TypeId)
structure TI where
 ud:UD
 size:Nat
 bytes:Nat
 zero:List Value
 eq:Bool:=false
def UD.agg:UD->Bool
 | .st _=>true
 | _=>false
inductive Arg where
 | pv (x:PV)
 | row (e:TypeId) (es:List (List PV))
 | map (mk:MK) (es:List (Value×PV))
 | box (cs:List PV)
 | aA (cs:List HC)
inductive AR where
 | p (x:PV)
 | own (e:TypeId) (es:List (List PV))
 | tu (xs:List PV)
 | hown (cs:List HC)
inductive Fin where
 | gone
 | row (es:List (List PV))
 | map (es:List (Value×PV))
 | box (cs:List PV)
 | aA (cs:List HC)
structure Ctx where
 P:Program
 T:TypeId->Option TI
 md:FuncId->Nat->Bool
 E:(Nat->Prop)->World->Prop
 bl:FuncId->Bool:=fun _=>false
 bt:TypeId->Bool:=fun _=>false
 bn:TypeId->Bool:=fun _=>false
 bo:TypeId->Bool:=fun _=>false
 bf:Nat->Bool:=fun _=>false
 bh:TypeId->Bool:=fun _=>false
 nc:FuncId->Bool:=fun _=>false
 pt:TypeId->Bool:=fun _=>false
def yw:Value->Value->Bool
 | .string a,.string b=>decide (a=b)
 | .int _ a,.int _ b=>decide (a=b)
 | .bool a,.bool b=>decide (a=b)
 | _,_=>false
def Ux:List Value->List Value->Bool
 | [],[]=>true
 | x::r,y::s=>yw x y&&Ux r s
 | _,_=>false
def yx:Value->Value->Bool
 | .string a,.string b=>decide (a=b)
 | .int _ a,.int _ b=>decide (a=b)
 | .agg a,.agg b=>Ux a.toList b.toList
 | _,_=>false
def pc:List (Value×PV)->Value->Option PV
 | [],_=>none
 | (k',v)::r,k=>match yx k k' with
  | true=>some v
  | false=>pc r k
def qB:List (Value×PV)->Value->PV->List (Value×PV)
 | [],k,v=>[(k,v)]
 | (k',u)::r,k,v=>match yx k k' with
  | true=>(k,v)::r
  | false=>(k',u)::qB r k v
def Uy:List Value->Option (List Nat)
 | []=>some []
 | .string _::r=>(Uy r).map (0::·)
 | .int .i64 _::r=>(Uy r).map (1::·)
 | .bool _::r=>(Uy r).map (2::·)
 | _=>none
def tb(ti:TI):Option MK:=match ti.ud with
 | .str=>some .str
 | .int k=>some (.int k)
 | .st fs=>match ti.eq,fs.any (·.2.2) with
  | true,false=>(Uy ti.zero).map .st
  | _,_=>none
 | _=>none
def MQ:List Nat->List Nat->Bool
 | [],[]=>true
 | a::r,b::s=>match Nat.beq a b with
  | true=>MQ r s
  | false=>false
 | _,_=>false
def MR:MK->MK->Bool
 | .str,.str=>true
 | .int .i64,.int .i64=>true
 | .st a,.st b=>MQ a b
 | _,_=>false
def iB:List Nat->List PV->Option (List Value)
 | [],[]=>some []
 | 0::s,.im (.string x)::r=>(iB s r).map (.string x::·)
 | 1::s,.im (.int .i64 x)::r=>(iB s r).map (.int .i64 x::·)
 | 2::s,.im (.bool x)::r=>(iB s r).map (.bool x::·)
 | _,_=>none
def keyOf:MK->AV->Option Value
 | .str,.p (.im (.string s))=>some (.string s)
 | .int .i64,.p (.im (.int .i64 n))=>some (.int .i64 n)
 | .st sh,.p (.ag cs)=>(iB sh cs).map fun l=>.agg l.toArray
 | _,_=>none
abbrev KK:=AV->List (Nat×AB)->Option AB->Prop
def app(h:Nat->AB):List (Nat×AB)->Nat->AB
 | []=>h
 | (i,b)::r=>app (ax h i b) r
def qD:Value->PV
 | .slice none 0 0=>.sl []
 | v=>.im v
def Kc(b:Bool)(v:Value):PV:=match b with
 | true=>.im v
 | false=>qD v
def Kd:PV->AV
 | .im (.slice none 0 0)=>.nl
 | x=>.p x
def Bx:Value->AV
 | .slice none 0 0=>.nl
 | v=>.p (.im v)
def u6:Value->AV
 | .slice none 0 0=>.nl
 | .agg cs=>match cs.toList.all Value.oneCell' with
  | true=>.p (.ag (cs.toList.map qD))
  | false=>.junk
 | v=>.p (.im v)
def ev(t:Nat->AV):Operand->AV
 | .tmp j=>t j
 | .const v=>u6 v
 | .global g=>.p (.im (.pointer (some ⟨g,0,none⟩)))
 | .func f=>.p (.im (.func (.func f) #[] #[]))
def cE:List AV->Option (List PV)
 | []=>some []
 | .p x::r=>(cE r).map (x::·)
 | .nl::r=>(cE r).map (.sl []::·)
 | _=>none
def iC(h:Nat->AB)(a:AV)(K:PV->List (Nat×AB)->Prop):Prop:=
 match a with
 | .p x=>K x []
 | .nl=>K (.sl []) []
 | .ow id=>match h id with
  | .row _ es=>K (.sl es) [(id,.f_ es)]
  | .f_ es=>K (.sl es) []
  | _=>False
 | .bx id off=>match h id with
  | .box cs=>match cE cs with
   | some xs=>K (.ip (xs.drop off)) [(id,.jt xs)]
   | none=>False
  | .jt xs=>K (.ip (xs.drop off)) []
  | _=>False
 | _=>False
def pZ(h:Nat->AB):List AV->(List PV->List (Nat×AB)->Prop)->Prop
 | [],K=>K [] []
 | a::r,K=>iC h a fun x fz=>pZ h r fun xs jr=>K (x::xs) (fz++jr)
def g_(h:Nat->AB)(a:AV)(K:PV->List (Nat×AB)->Prop):Prop:=
 match a with
 | .fn f cap=>pZ h cap fun xs fz=>K (.fn f xs) fz
 | a=>iC h a K
def mZ:PV->Option (List PV)
 | .ag cs=>some cs
 | .im x=>match x.oneCell' with
  | true=>some [.im x]
  | false=>none
 | x=>some [x]
def kL(h:Nat->AB):AV->Bool
 | .p (.im x)=>x.oneCell'
 | .p (.ag _)=>false
 | .p _=>true
 | .nl=>true
 | .ow id=>match h id with
  | .row _ _=>true
  | .ai _ _=>true
  | .f_ _=>true
  | .map _ _=>true
  | _=>false
 | .bx id _=>match h id with
  | .none=>false
  | _=>true
 | .rp id _ _=>match h id with
  | .row _ _=>true
  | .ai _ _=>true
  | _=>false
 | .vw id _ _=>match h id with
  | .row _ _=>true
  | _=>false
 | .fn _ _=>true
 | _=>false
def Ws:HX->AV
 | .av x=>x
 | .row _ _=>.junk
def setCells{α:Type}:List α->Nat->List α->List α
 | cs,_,[]=>cs
 | cs,off,x::r=>setCells (cs.set off x) (off+1) r
def m_(id:Nat):List (Nat×AB)->Bool
 | []=>true
 | (i,_)::r=>match Nat.beq i id with
  | true=>false
  | false=>m_ id r
def yy(a b:Nat):Bool:=Nat.ble a b
def o7(a b:Nat):Bool:=Nat.beq a b
def QI(x:Int):Prop:=-9223372036854775808<=x/\x<=9223372036854775807
def Ik{α:Type}:List α->Bool
 | []=>true
 | _=>false
def kB(a b:IntKind):Bool:=match a,b with
 | .i8,.i8 | .i16,.i16 | .i32,.i32 | .i64,.i64 | .u8,.u8 | .u16,.u16 | .u32,.u32 | .u64,.u64=>true
 | _,_=>false
def KH:IntKind->Bool
 | .i64=>true
 | _=>false
def pd(k:IntKind)(n:Int)(K:Value->Prop):Prop:=match KH k with
 | true=>QI n/\K (.int .i64 n)
 | false=>K (.int k (k.wrap n))
def aX:List Value->List PV->List PV->Option Bool
 | [],[],[]=>some true
 | .int _ _::z,.im (.int k a)::r,.im (.int k' b)::s=>match kB k k' with
  | true=>(aX z r s).map (decide (a=b)&&·)
  | false=>none
 | .string _::z,.im (.string a)::r,.im (.string b)::s=>(aX z r s).map (decide (a=b)&&·)
 | .bool _::z,.im (.bool a)::r,.im (.bool b)::s=>(aX z r s).map (decide (a=b)&&·)
 | _,_,_=>none
def By(T:TypeId->Option TI)(op:BinOp)(t:TypeId)(x:PV)(K:Value->Prop):Prop:=match x with
 | .sl es=>match Ik es with
  | true=>False
  | false=>match T t with
   | some { ud:=.sl _,.. }=>match op with
    | .eql=>K (.bool false)
    | .neq=>K (.bool true)
    | _=>False
   | _=>False
 | _=>False
def Ns:BinOp->Bool
 | .shr=>true
 | _=>false
def na(T:TypeId->Option TI)(op:BinOp)(t:TypeId)(x y:PV)(K:Value->Prop):Prop:=
 match x,y with
 | .im (.int k a),.im (.int k' b)=>match Ns op with
  | true=>(0<=b/\b<64)/\K (.int k (a.fdiv (2 ^ (min b.toNat k.bits))))
  | false=>match kB k k' with
  | false=>False
  | true=>match op with
   | .add=>pd k (a+b) K
   | .sub=>pd k (a-b) K
   | .mul=>pd k (a*b) K
   | .quo=>b≠0/\pd k (a.tdiv b) K
   | .rem=>b≠0/\K (.int k (a.tmod b))
   | .eql=>K (.bool (decide (a=b)))
   | .neq=>K (.bool (!decide (a=b)))
   | .lss=>K (.bool (decide (a<b)))
   | .leq=>K (.bool (decide (a<=b)))
   | .gtr=>K (.bool (decide (a>b)))
   | .geq=>K (.bool (decide (a>=b)))
   | _=>False
 | .im (.string a),.im (.string b)=>match op with
  | .add=>a.size+b.size<=9223372036854775807/\K (.string (a++b))
  | .eql=>K (.bool (decide (a=b)))
  | .neq=>K (.bool (!decide (a=b)))
  | .lss=>K (.bool (Op.bytesLess a.data.toList b.data.toList))
  | .leq=>K (.bool (Op.bytesLess a.data.toList b.data.toList||decide (a=b)))
  | .gtr=>K (.bool !(Op.bytesLess a.data.toList b.data.toList||decide (a=b)))
  | .geq=>K (.bool !(Op.bytesLess a.data.toList b.data.toList))
  | _=>False
 | .im (.bool a),.im (.bool b)=>match T t with
  | some { ud:=.sc,eq:=true,.. }=>match op with
   | .eql=>K (.bool (decide (a=b)))
   | .neq=>K (.bool (!decide (a=b)))
   | _=>False
  | _=>False
 | .ag a,.ag b=>match T t with
  | some { ud:=.st _,eq:=true,size:=n,zero:=z,.. }=>match o7 n a.length with
   | false=>False
   | true=>match op with
    | .eql=>match aX z a b with
     | some r=>K (.bool r)
     | none=>False
    | .neq=>match aX z a b with
     | some r=>K (.bool !r)
     | none=>False
    | _=>False
  | _=>False
 | _,_=>False
def Bz(p:Value×Value):Value×PV:=(p.1,.im p.2)
def u7(S:Nat->Prop)(w:World)(mk:MK)(es:List (Value×PV))(v:Value):Prop:=∃g ms clock,v=.map (some g)/\w.heap[g]?=some (.map ms clock)/\ms.size=es.length/\(∀(i:Nat) p m,es[i]?=some p->ms[i]?=some m->m.key=p.1/\mk.ok p.1/\ay S w p.2 m.val)/\jX ms clock
def yz(S:Nat->Prop)(w:World)(P:Program):Arg->Value->Prop
 | .pv x,v=>ay S w x v
 | .row e es,v=>an P w (ay S w) e es v/\∀g,bH v=some g->¬S g
 | .map mk es,v=>u7 S w mk es v/\∀g,bH v=some g->¬S g
 | .box cs,v=>∃g ty c,v=.pointer (some ⟨g,0,none⟩)/\w.heap[g]?=some (.cells c ty (0,0))/\c.size=cs.length/\¬S g/\∀(j:Nat) x u,cs[j]?=some x->c[j]?=some u->u.oneCell'=true/\ay S w x u
 | .aA cs,v=>∃g ty c,v=.pointer (some ⟨g,0,none⟩)/\yu S w P cs g ty c/\∀k,hasB w (.aA cs) v k->¬S k/\k<w.heap.size
def tc:Arg->AB
 | .aA cs=>.aA cs
 | _=>.none
def FK:Fin->AB
 | .aA cs=>.aA cs
 | _=>.none
def Arg.handed:Arg->Bool
 | .pv _=>false
 | _=>true
def Mv(w:World)(args:List Arg)(vs:Array Value)(g:Nat):Prop:=∃(j:Nat) (x:Arg) (v:Value),args[j]?=some x/\vs[j]?=some v/\x.handed=true/\hasB w (tc x) v g
def jk(S:Nat->Prop)(w:World)(P:Program):Arg->Fin->Value->Prop
 | _,.gone,_=>True
 | .row e _,.row es,v=>an P w (ay S w) e es v/\∀g,bH v=some g->¬S g
 | .map mk _,.map es,v=>u7 S w mk es v/\∀g,bH v=some g->¬S g
 | .box _,.box cs,v=>∃g ty c,v=.pointer (some ⟨g,0,none⟩)/\w.heap[g]?=some (.cells c ty (0,0))/\c.size=cs.length/\¬S g/\∀(j:Nat) x u,cs[j]?=some x->c[j]?=some u->u.oneCell'=true/\ay S w x u
 | .aA _,.aA cs,v=>∃g ty c,v=.pointer (some ⟨g,0,none⟩)/\yu S w P cs g ty c/\∀k,hasB w (.aA cs) v k->¬S k
 | _,_,_=>False
def Fin.kept:Fin->Bool
 | .gone=>false
 | _=>true
def Da(S:Nat->Prop)(w:World)(P:Program):AR->Value->Prop
 | .p x,v=>ay S w x v
 | .own e es,v=>an P w (ay S w) e es v/\∀g,bH v=some g->¬S g
 | .hown cs,v=>∃g ty c,v=.pointer (some ⟨g,0,none⟩)/\yu S w P cs g ty c/\∀k,hasB w (.aA cs) v k->¬S k
 | .tu xs,v=>∃vs:Array Value,v=.tuple vs/\xs.length=vs.size/\∀(i:Nat) x u,xs[i]?=some x->vs[i]?=some u->ay S w x u
def AR.owns:AR->Bool
 | .own ..=>true
 | .hown ..=>true
 | _=>false
def AR.ab:AR->AB
 | .hown cs=>.aA cs
 | _=>.none
def eV(S:Nat->Prop)(w:World)(P:Program):List Arg->List Fin->List Value->Prop
 | [],[],[]=>True
 | x::xs,fs,v::vs=>match x.handed with
  | false=>eV S w P xs fs vs
  | true=>match fs with
   | f::fs=>jk S w P x f v/\eV S w P xs fs vs
   | []=>False
 | _,_,_=>False
def cq(w:World):List Arg->List Fin->List Value->Nat->Nat->Prop
 | x::xs,fs,v::vs,i,g=>match x.handed with
  | false=>match i with
   | 0=>False
   | i+1=>cq w xs fs vs i g
  | true=>match fs with
   | f::fs=>match i with
    | 0=>f.kept=true/\hasB w (FK f) v g
    | i+1=>cq w xs fs vs i g
   | []=>False
 | _,_,_,_,_=>False
def T4(w w':World)(args:List Arg)(fin:List Fin)(vs:Array Value):Prop:=
 (∀i g,cq w' args fin vs.toList i g->g<w'.heap.size/\(w.heap.size<=g\/Mv w args vs g))/\∀i j g,cq w' args fin vs.toList i g->cq w' args fin vs.toList j g->i=j
def aT(C:Ctx)(f:FuncId)(args:List Arg)(r:AR)(fin:List Fin):Prop:=
 (∃ fn : Func, C.P.funcs[f]? = some fn ∧ (fn.name == "runtime.NumGoroutine") = false ∧ fn.body.isNone = false) ∧
 ∀(S:Nat->Prop) (w:World) (vs:Array Value),C.E S w->(∀b,S b->b<w.heap.size)->args.length=vs.size ->
  (∀(j:Nat) x v,args[j]?=some x->vs[j]?=some v->yz S w C.P x v)->
  (∀(i j:Nat) x y v u g,args[i]?=some x->args[j]?=some y->vs[i]?=some v->vs[j]?=some u->x.handed=true->y.handed=true->hasB w (tc x) v g->hasB w (tc y) u g->i=j)->
  Calls C.P f vs w fun e w'=>∃v S',e=.returned v/\Fr (Mv w args vs) w w'/\(∀b,S b->S' b)/\(∀b,S' b->b<w'.heap.size)/\(∀b,S' b->S b\/w.heap.size<=b\/Mv w args vs b)/\
   Da S' w' C.P r v/\eV S' w' C.P args fin vs.toList/\T4 w w' args fin vs/\(∀g,r.owns=true->hasB w' r.ab v g->g<w'.heap.size/\(w.heap.size<=g\/Mv w args vs g)/\∀i,¬cq w' args fin vs.toList i g)
def eB(md:Nat->Bool)(h:Nat->AB):Nat->List AV->(List Arg->List (Nat×AB)->List (Nat×AB)->Prop)->Prop
 | _,[],K=>K [] [] []
 | j,a::r,K=>match md j with
  | false=>g_ h a fun x fz=>eB md h (j+1) r fun xs ids jr=>K (.pv x::xs) ids (fz++jr)
  | true=>match a with
   | .ow id=>match h id with
    | .row e es=>eB md h (j+1) r fun xs ids fz=>K (.row e es::xs) ((id,.row e es)::ids) fz
    | .f_ es=>eB md h (j+1) r fun xs ids fz=>K (.pv (.sl es)::xs) ids fz
    | .map mk es=>eB md h (j+1) r fun xs ids fz=>K (.map mk es::xs) ((id,.map mk es)::ids) fz
    | _=>False
   | .p x=>eB md h (j+1) r fun xs ids fz=>K (.pv x::xs) ids fz
   | .bx id 0=>match h id with
    | .box cs=>match cE cs with
     | some ys=>eB md h (j+1) r fun xs ids fz=>K (.box ys::xs) ((id,.box cs)::ids) fz
     | none=>False
    | .aA cs=>eB md h (j+1) r fun xs ids fz=>K (.aA cs::xs) ((id,.aA cs)::ids) fz
    | _=>False
   | _=>False
def nL:PV->Bool
 | .im _=>true
 | .ag cs=>cs.all fun | .im _=>true | _=>false
 | .ifc _ x=>nL x
 | _=>false
def AR.free:AR->Bool
 | .p x=>nL x
 | .tu xs=>xs.all nL
 | .own ..=>false
 | .hown ..=>false
def ee:List (Nat×AB)->List Fin->Option (List (Nat×AB))
 | [],[]=>some []
 | (id,_)::ids,.gone::fs=>(ee ids fs).map ((id,.none)::·)
 | (id,.row e _)::ids,.row es::fs=>(ee ids fs).map ((id,.row e es)::·)
 | (id,.map mk _)::ids,.map es::fs=>(ee ids fs).map ((id,.map mk es)::·)
 | (id,.box _)::ids,.box cs::fs=>(ee ids fs).map ((id,.box (cs.map .p))::·)
 | (id,.aA _)::ids,.aA cs::fs=>(ee ids fs).map ((id,.aA cs)::·)
 | _,_=>none
def Nt:AR->Option AB
 | .own e es=>some (.row e es)
 | .hown cs=>some (.aA cs)
 | _=>none
def Ke(d:Nat):AR->AV
 | .p x=>.p x
 | .own ..=>.ow d
 | .hown _=>.bx d 0
 | .tu xs=>.tu (xs.map .p)
def isNil{α:Type}:List α->Bool
 | []=>true
 | _=>false
def Ao:List (Nat×AB)->List (Nat×AB)->Bool
 | [],_=>true
 | (i,_)::r,fz=>m_ i fz&&m_ i r&&Ao r fz
def jY(C:Ctx)(h:Nat->AB)(d:Nat)(f:FuncId)(args:List AV)(K:KK):Prop:=
 eB (C.md f) h 0 args fun xs ids fz=>∃r fin,aT C f xs r fin/\match ee ids fin with
  | some fe=>match Ao ids fz with
   | true=>match r.free&&isNil ids with
    | true=>K (Ke d r) [] none
    | false=>K (Ke d r) (fz++fe) (Nt r)
   | false=>False
  | none=>False
inductive KI:HX->PV->Prop
 | p (x:PV):KI (.av (.p x)) x
 | nl:KI (.av .nl) (.sl [])
 | row (e:TypeId) (xs:List (List PV)):KI (.row e xs) (.sl xs)
structure Kf(es:List (List HX))(ps:List (List PV)):Prop where
 len:ps.length=es.length
 row:∀(a:Nat) r q,es[a]?=some r->ps[a]?=some q->q.length=r.length/\∀(j:Nat) x y,r[j]?=some x->q[j]?=some y->KI x y
inductive ju(h:Nat->AB):AV->PV->Prop
 | p (x:PV):ju h (.p x) x
 | nl:ju h .nl (.sl [])
 | row (id:Nat) (e:TypeId) (es:List (List PV)) (hr:h id=.row e es):ju h (.ow id) (.sl es)
 | f_ (id:Nat) (es:List (List PV)) (hr:h id=.f_ es):ju h (.ow id) (.sl es)
 | ai (id:Nat) (e:TypeId) (es:List (List HX)) (ps:List (List PV)) (hr:h id=.ai e es) (hp:Kf es ps):ju h (.ow id) (.sl ps)
inductive jZ(h:Nat->AB):List AV->List PV->Prop
 | nil:jZ h [] []
 | cons {a:AV} {x:PV} {as:List AV} {xs:List PV} (h1:ju h a x) (h2:jZ h as xs):jZ h (a::as) (x::xs)
inductive View(h:Nat->AB):AV->PV->Prop
 | one {a:AV} {x:PV} (h1:ju h a x):View h a x
 | box (id off:Nat) (cs:List AV) (xs:List PV) (hb:h id=.box cs) (hx:jZ h cs xs):View h (.bx id off) (.ip (xs.drop off))
 | jt (id off:Nat) (xs:List PV) (hb:h id=.jt xs):View h (.bx id off) (.ip (xs.drop off))
inductive nM(h:Nat->AB):List AV->List PV->Prop
 | nil:nM h [] []
 | cons {a:AV} {x:PV} {as:List AV} {xs:List PV} (h1:View h a x) (h2:nM h as xs):nM h (a::as) (x::xs)
def KJ(C:Ctx)(h:Nat->AB)(d:Nat)(f:FuncId)(args:List AV)(K:KK):Prop:=∃xs r,nM h args xs/\aT C f (xs.map .pv) r []/\r.free=true/\K (Ke d r) [] none
def Nu:AV->Bool
 | .ow _=>true
 | _=>false
def td{α:Type}(f:α->Bool):List α->Bool
 | []=>false
 | x::r=>match f x with
  | true=>true
  | false=>td f r
def cY(h:Nat->AB):AV->Bool
 | .bx id _=>match h id with
  | .box cs=>td Nu cs
  | _=>false
 | .ow id=>match h id with
  | .ai _ _=>true
  | _=>false
 | _=>false
def Ht(cs:List AV)(ys:List PV):Prop:=ys.length=cs.length/\∀(j:Nat) x,cs[j]?=some (.p x)->ys[j]?=some x
def pe(h:Nat->AB):AV->Bool
 | .p (.sl _)=>true
 | .p (.im (.slice _ _ _))=>true
 | .ow id=>match h id with
  | .row _ _=>true
  | _=>false
 | .nl=>true
 | _=>false
def Il:PV->Prop
 | .im _=>True
 | .sl es=>∀r∈es,∃k n,r=[.im (.int k n)]
 | _=>False
def KL:PV->Prop
 | .ag cs=>∀c∈cs,Il c
 | x=>Il x
def rB(C:Ctx)(h:Nat->AB)(f:FuncId)(args:List AV)(K:KK):Prop:=match args with
 | [.bx id 0,.p y,.ow cZ]=>match h id,h cZ with
  | .box cs,.row e es=>∃x bW,(∀ys,Ht cs ys->aT C f [.pv (.ip ys),.pv y,.row e es] (.p x) [.row bW])/\(∀c∈cs,pe h c=true)/\KL x/\(∀r∈bW,∀z∈r,nL z=true)/\K (.p x) [(cZ,.row e bW)] none
  | _,_=>False
 | _=>False
def Tt(C:Ctx)(h:Nat->AB)(d:Nat)(f:FuncId)(args:List AV)(K:KK):Prop:=match td (cY h) args with
 | false=>jY C h d f args K
 | true=>match C.md f 90 with
  | false=>KJ C h d f args K
  | true=>rB C h f args K
def Kg:List (Nat×Value)->Array Value->Array Value
 | [],c=>c
 | (j,v)::r,c=>Kg r (c.setIfInBounds j v)
def Db:List (Nat×Value)->List PV->List PV
 | [],c=>c
 | (j,v)::r,c=>Db r (c.set j (.im v))
def Im(C:Ctx)(f:FuncId)(n off:Nat)(y:PV)(rd wr:List (Nat×Value))(r:Value):Prop:=
 (∃ fn : Func, C.P.funcs[f]? = some fn ∧ (fn.name == "runtime.NumGoroutine") = false ∧ fn.body.isNone = false) ∧
 ∀(S:Nat->Prop) (w:World) (v1:Value) (b:Nat) (c:Array Value) (ty:TypeId),C.E S w->(∀k,S k->k<w.heap.size)->ay S w y v1->w.heap[b]?=some (.cells c ty (0,0))->c.size=n->¬S b->(∀p∈rd,c[p.1]?=some p.2)->
  Calls C.P f #[.pointer (some ⟨b,0,none⟩),v1,.pointer (some ⟨b,off,none⟩)] w fun e' w'=>e'=.returned r/\Fr (fun k=>k=b) w w'/\w'.heap[b]?=some (.cells (Kg wr c) ty (0,0))
def FL:List (Nat×Value)->Bool
 | []=>true
 | (_,v)::r=>v.oneCell'&&FL r
def Io(ys:List PV):List (Nat×Value)->Prop
 | []=>True
 | (j,v)::r=>ys[j]?=some (.im v)/\Io ys r
def rC(C:Ctx)(h:Nat->AB)(f:FuncId)(args:List AV)(K:KK):Prop:=match args with
 | [.bx id 0,.p y,.bx iu off]=>match Nat.beq iu id,h id with
  | true,.box cs=>match cE cs with
   | some ys=>∃rd wr r,Im C f ys.length off y rd wr r/\Io ys rd/\FL wr=true/\K (.p (.im r)) [(id,.box ((Db wr ys).map .p))] none
   | none=>False
  | _,_=>False
 | _=>False
def jm(C:Ctx)(f:FuncId)(t:TypeId)(xs:List PV)(e:TypeId)(l:List (List PV))(r:PV)(l':List (List PV)):Prop:=
 (∃ fn : Func, C.P.funcs[f]? = some fn ∧ (fn.name == "runtime.NumGoroutine") = false ∧ fn.body.isNone = false) ∧
 ∀(S:Nat->Prop) (w:World) (vs:List Value) (g off:Nat) (c:Array Value) (ty:TypeId) (v:Value),C.E S w->(∀k,S k->k<w.heap.size)->xs.length=vs.length->(∀(j:Nat) x u,xs[j]?=some x->vs[j]?=some u->ay S w x u)->
  w.heap[g]?=some (.cells c ty (0,0))->c[off]?=some v->an C.P w (ay S w) e l v->¬S g->(∀k,bH v=some k->¬S k/\k≠g/\k<w.heap.size)->
  Calls C.P f (Value.iface t (.pointer (some ⟨g,off,none⟩))::vs).toArray w fun e' w'=>∃u v' S',e'=.returned u/\Fr (fun k=>k=g\/bH v=some k) w w'/\ay S' w' r u /\
   w'.heap[g]?=some (.cells (c.setIfInBounds off v') ty (0,0))/\an C.P w' (ay S' w') e l' v'/\∀k,bH v'=some k->k<w'.heap.size/\k≠g/\(bH v=some k\/w.heap.size<=k)
def Dc(l:List (List PV)):Prop:=∀row∈l,∀z∈row,nL z=true
def T5(C:Ctx)(h:Nat->AB)(d:Nat)(f:FuncId)(args:List AV)(K:KK):Prop:=match args with
 | .ifp t a::as=>match cE as with
  | some ys=>match a with
   | .bx id off=>match h id with
    | .box cs=>match cs[off]? with
     | some (.ow cZ)=>match h cZ with
      | .row e l=>match Nat.beq id cZ with
       | true=>False
       | false=>∃r l',jm C f t ys e l r l'/\nL r=true/\Dc l'/\K (.p r) [(cZ,.none),(id,.box (cs.set off (.ow d)))] (some (.row e l'))
      | _=>False
     | _=>False
    | _=>False
   | .rp id i off=>match h id with
    | .ai e' es=>∃q,es[i]?=some q/\match q[off]? with
     | some (.row e l)=>∃r l',jm C f t ys e l r l'/\nL r=true/\Dc l'/\K (.p r) [(id,.ai e' (es.set i (q.set off (.row e l'))))] none
     | _=>False
    | _=>False
   | _=>False
  | none=>False
 | _=>False
def kV(C:Ctx)(h:Nat->AB)(d:Nat)(f:FuncId)(args:List AV)(K:KK):Prop:=match C.md f 91 with
 | false=>Tt C h d f args K
 | true=>rC C h f args K
def p8(C:Ctx)(h:Nat->AB)(d:Nat)(f:FuncId)(args:List AV)(K:KK):Prop:=match C.md f 92 with
 | false=>kV C h d f args K
 | true=>T5 C h d f args K
def Ip(C:Ctx)(f:FuncId)(xs:List PV)(ty e:TypeId)(es:List (List PV))(r:AR)(ch:Bool)(bW:Option (List (List PV))):Prop:=
 (∃ fn : Func, C.P.funcs[f]? = some fn ∧ (fn.name == "runtime.NumGoroutine") = false ∧ fn.body.isNone = false) ∧
 ∀(S:Nat->Prop) (w:World) (vs:List Value) (b:Nat) (u0 u1:Value),C.E S w->(∀k,S k->k<w.heap.size)->xs.length=vs.length ->
  (∀(j:Nat) x v,xs[j]?=some x->vs[j]?=some v->ay S w x v)->w.heap[b]?=some (.cells #[u0,u1] ty (0,0))->(u0=.pointer none\/u0=.pointer (some ⟨b,0,none⟩))->
  an C.P w (ay S w) e es u1->¬S b->(∀g,bH u1=some g->¬S g/\g≠b/\g<w.heap.size)->
  Calls C.P f (vs++[Value.pointer (some ⟨b,0,none⟩)]).toArray w fun e' w'=>∃v,e'=.returned v/\Fr (fun k=>k=b\/bH u1=some k) w w'/\Da S w' C.P r v/\match bW with
   | none=>True
   | some bW=>∃u1',w'.heap[b]?=some (.cells #[(match ch with | true=>Value.pointer (some ⟨b,0,none⟩) | false=>u0),u1'] ty (0,0))/\an C.P w' (ay S w') e bW u1'/\∀g,bH u1'=some g->g<w'.heap.size/\(bH u1=some g\/w.heap.size<=g)
def lY:List AV->Option (List AV×AV)
 | []=>none
 | [x]=>some ([],x)
 | x::y::r=>match lY (y::r) with
  | some (l,z)=>some (x::l,z)
  | none=>none
def Hu(id:Nat):AV->Bool
 | .p (.im (.pointer none))=>true
 | .bx i 0=>Nat.beq i id
 | _=>false
def p9(ch:Bool)(id:Nat)(c:AV):AV:=match ch with
 | true=>.bx id 0
 | false=>c
def p_(C:Ctx)(h:Nat->AB)(d:Nat)(f:FuncId)(args:List AV)(K:KK):Prop:=
 match lY args with
 | some (as,.bx id 0)=>match h id with
  | .eN ty [c,.ow cZ]=>match Hu id c with
   | true=>match h cZ with
    | .row e es=>pZ h as fun xs fz=>∃r ch bW,Ip C f xs ty e es r ch bW/\match r.free&&(m_ id fz&&(m_ cZ fz&&!Nat.beq id cZ)) with
     | true=>match bW with
      | some bW=>K (Ke d r) (fz++[(cZ,.none),(id,.eN ty [p9 ch id c,.ow d])]) (some (.row e bW))
      | none=>K (Ke d r) (fz++[(cZ,.none),(id,.none)]) none
     | false=>False
    | _=>False
   | false=>False
  | _=>False
 | _=>False
def gd(h:Nat->AB)(fs:List (Nat×Nat×Bool))(rho:Operand->AV):List (Nat×Operand)->List PV->(List PV->List (Nat×AB)->Prop)->Prop
 | [],cs,K=>K cs []
 | (i,x)::r,cs,K=>match fs[i]? with
  | some (off,size,_)=>g_ h (rho x) fun y fz=>match mZ y with
   | some ys=>match o7 ys.length size&&yy (off+size) cs.length with
    | true=>gd h fs rho r (setCells cs off ys) fun dB jr=>K dB (fz++jr)
    | false=>False
   | none=>False
  | none=>False
def Dd:AV->Option (List PV)
 | .p (.ag ys)=>some ys
 | _=>none
theorem De{a:AV}{ys:List PV}(h:Dd a=some ys):a=.p (.ag ys):=by
 unfold Dd at h;split at h
 ·injection h with h;rw[h]
 cases h
def gf(h:Nat->AB)(fs:List (Nat×Nat×Bool))(rho:Operand->AV):List (Nat×Operand)->List AV->(List AV->Prop)->Prop
 | [],cs,K=>K cs
 | (i,x)::r,cs,K=>match fs[i]? with
  | some (off,size,_)=>match Dd (rho x) with
   | some ys=>match o7 ys.length size&&yy (off+size) cs.length with
    | true=>gf h fs rho r (setCells cs off (ys.map .p)) K
    | false=>False
   | none=>match o7 size 1&&yy (off+1) cs.length&&kL h (rho x) with
    | true=>gf h fs rho r (cs.set off (rho x)) K
    | false=>False
  | none=>False
def qa(b:Bool)(h:Nat->AB)(a:AV)(K:PV->List (Nat×AB)->Prop):Prop:=match b,a with
 | true,.nl=>K (.im (.slice none 0 0)) []
 | _,a=>g_ h a K
def eC(b:Bool)(h:Nat->AB)(size:Nat)(rho:Operand->AV):List (Nat×Operand)->List (List PV)->(List (List PV)->List (Nat×AB)->Prop)->Prop
 | [],es,K=>K es []
 | (i,x)::r,es,K=>qa b h (rho x) fun y fz=>match mZ y with
  | some ys=>match o7 ys.length size&&Nat.blt i es.length with
   | true=>eC b h size rho r (es.set i ys) fun bW jr=>K bW (fz++jr)
   | false=>False
  | none=>False
def Wu:AV->Option (List AV)
 | .st xs=>some xs
 | _=>none
def Wp(h:Nat->AB)(n:Nat)(a:AV):Option (List AV):=match Wu a with
 | some xs=>match o7 xs.length n with
  | true=>some xs
  | false=>none
 | none=>match o7 n 1&&kL h a with
  | true=>some [a]
  | false=>none
def Df:List HX->Bool
 | []=>true
 | .av _::r=>Df r
 | .row _ _::_=>false
def nd(h:Nat->AB)(e:TypeId):AV->Option (List (List HX))
 | .ow id=>match h id with
  | .ai e' es=>match o7 e' e&&es.all Df with
   | true=>some es
   | false=>none
  | _=>none
 | _=>none
def dV(h:Nat->AB)(a:AV)(K:List (List PV)->Prop):Prop:=match a with
 | .p (.sl es)=>K es
 | .nl=>K []
 | .ow id=>match h id with
  | .row _ es=>K es
  | .f_ es=>K es
  | _=>False
 | _=>False
inductive CK where
 | len
 | clear
 | min
 | max
 | append
 | val (g:Operand)
 | other
def dK:Builtin->CK
 | .len=>.len
 | .clear=>.clear
 | .min=>.min
 | .max=>.max
 | .append=>.append
 | _=>.other
def Ta:Callee->CK
 | .builtin b=>dK b
 | .value g=>.val g
 | .invoke _ _=>.other
def Ap:Fn->Option FuncId
 | .func f=>some f
 | _=>none
def Aq:Value->Option (FuncId×List AV)
 | .func fn first cap=>match isNil first.toList&&isNil cap.toList with
  | true=>match Ap fn with
   | some f=>some (f,[])
   | none=>none
  | false=>none
 | _=>none
def Ar:PV->Option (FuncId×List AV)
 | .im v=>Aq v
 | .fn f cap=>some (f,cap.map .p)
 | _=>none
def rD:AV->Option (FuncId×List AV)
 | .p x=>Ar x
 | .fn f cap=>some (f,cap)
 | _=>none
def WM(ti:TI):PV:=match ti.ud.agg with
 | true=>.ag (ti.zero.map qD)
 | false=>match ti.zero with
  | z::_=>qD z
  | []=>.im undef
def ef(C:Ctx)(rho:Operand->AV)(h:Nat->AB)(t:TypeId)(x:Operand)(lo hi:Option Operand)(K:KK):Prop:=
  let l:=match lo with | some y=>rho y | none=>.p (.im (.int .i64 0))
  match C.T t with
  | some { ud:=.str,.. }=>match rho x with
   | .p (.im (.string s))=>
    match l,(match hi with | some y=>rho y | none=>.p (.im (.int .i64 s.size))) with
    | .p (.im (.int _ a)),.p (.im (.int _ b))=>(0<=a/\a<=b/\b<=s.size)/\K (.p (.im (.string (s.extract a.toNat b.toNat)))) [] none
    | _,_=>False
   | _=>False
  | some { ud:=.sl e,.. }=>match C.T e with
   | none=>False
   | some te=>g_ h (rho x) fun y fz=>match y with
    | .sl es=>match l,(match hi with | some y=>rho y | none=>.p (.im (.int .i64 es.length))) with
     | .p (.im (.int _ a)),.p (.im (.int _ b))=>(0<=a/\a<=b/\b<=es.length/\∀r∈es,r.length=te.size)/\K (.p (.sl ((es.take b.toNat).drop a.toNat))) fz none
     | _,_=>False
    | _=>False
  | _=>False
def nN(C:Ctx)(rho:Operand->AV)(t:TypeId)(lo hi:Option Operand)(id:Nat)(e':TypeId)(es:List (List PV))(K:KK):Prop:=
 match C.T t with
 | some { ud:=.sl e,.. }=>match o7 e' e with
  | true=>match (match lo with | some y=>rho y | none=>.p (.im (.int .i64 0))),(match hi with | some y=>rho y | none=>.p (.im (.int .i64 es.length))) with
   | .p (.im (.int _ a)),.p (.im (.int _ b))=>(0<=a/\a<=b/\b<=es.length)/\K (.vw id a.toNat b.toNat) [] none
   | _,_=>False
  | false=>False
 | _=>False
def hlen(h:Nat->AB):AV->Option Nat
 | .ow id=>match h id with
  | .ai _ es=>some es.length
  | _=>none
 | .vw id lo hi=>match h id with
  | .row _ _=>some (hi-lo)
  | _=>none
 | _=>none
def o8(r:List PV):List HX:=r.map fun x=>.av (Kd x)
def aZ(C:Ctx)(o:Oper)(rho:Operand->AV)(h:Nat->AB)(K:KK):Prop:=
 let d:=o.dst.getD 0
 match o.op with
 | .move x=>K (rho x) [] none
 | .assign x=>K (rho x) [] none
 | .pick c a b=>match rho c with
  | .p (.im (.bool t))=>match t with
   | true=>K (rho a) [] none
   | false=>K (rho b) [] none
  | _=>False
 | .binOp op t x y _=>match rho x,rho y with
  | .p a,.p b=>na C.T op t a b fun v=>K (.p (.im v)) [] none
  | .p a,.nl=>By C.T op t a fun v=>K (.p (.im v)) [] none
  | _,_=>False
 | .unOp op _ x=>match op,rho x with
  | .not,.p (.im (.bool b))=>K (.p (.im (.bool !b))) [] none
  | .neg,.p (.im (.int k n))=>pd k (0-n) fun v=>K (.p (.im v)) [] none
  | _,_=>False
 | .convert src dst x=>match rho x,C.T src,C.T dst with
  | .p (.im (.int _ n)),some _,some { ud:=.int k,.. }=>pd k n fun v=>K (.p (.im v)) [] none
  | .p (.im (.string s)),some { ud:=.str,.. },some { ud:=.str,.. }=>K (.p (.im (.string s))) [] none
  | .p (.im (.int _ n)),some { ud:=.int _,.. },some { ud:=.str,.. }=>K (.p (.im (.string (Utf8.encode n)))) [] none
  | _,_,_=>False
 | .nilCheck x=>match rho x with
  | .p (.ip cs)=>K (.p (.ip cs)) [] none
  | .bx id off=>match h id with
   | .box _=>K (.bx id off) [] none
   | .jt _=>K (.bx id off) [] none
   | _=>False
  | .rp id i off=>match h id with
   | .row _ _=>K (.rp id i off) [] none
   | .ai _ _=>K (.rp id i off) [] none
   | _=>False
  | .ow id=>match h id with
   | .cell _ _ _=>K (.ow id) [] none
   | _=>False
  | _=>False
 | .makeInterface t x=>match rho x with
  | .p y=>match C.T t with
   | some { ud:=.st _,.. }=>K (.p (.ifc t y)) [] none
   | _=>False
  | a=>match C.pt t with
   | true=>K (.ifp t a) [] none
   | false=>False
 | .typeAssert x _ t false=>match rho x with
  | .p (.ifc t' y)=>match o7 t' t,C.T t with
   | true,some { ud:=.st _,.. }=>K (.p y) [] none
   | _,_=>False
  | _=>False
 | .extract x i=>match rho x with
  | .tu xs=>match xs[i]? with
   | some a=>K a [] none
   | none=>False
  | _=>False
 | .box _ x=>match rho x with
  | .p (.ag cs)=>K (.bx d 0) [] (some (.box (cs.map .p)))
  | .st xs=>K (.bx d 0) [] (some (.box xs))
  | a=>match kL h a with
   | true=>K (.bx d 0) [] (some (.box [a]))
   | false=>False
 | .alloc e=>match C.T e with
  | some ti=>match C.bt e with
   | false=>K (.bx d 0) [] (some (.box (ti.zero.map Bx)))
   | true=>K (.bx d 0) [] (some (.eN e (ti.zero.map Bx)))
  | none=>False
 | .load t a=>match C.T t with
  | none=>False
  | some ti=>match rho a with
   | .p (.ip cs)=>match ti.ud.agg with
    | true=>match yy ti.size cs.length with
     | true=>K (.p (.ag (cs.take ti.size))) [] none
     | false=>False
    | false=>match cs with
     | c::_=>K (.p c) [] none
     | []=>False
   | .bx id off=>match h id with
    | .box cs=>match ti.ud.agg with
     | true=>match yy (off+ti.size) cs.length,cE ((cs.drop off).take ti.size) with
      | true,some xs=>K (.p (.ag xs)) [] none
      | true,none=>K (.st ((cs.drop off).take ti.size)) [] none
      | _,_=>False
     | false=>match cs.drop off with
      | c::_=>K c [] none
      | []=>False
    | .jt cs=>match ti.ud.agg with
     | true=>match yy (off+ti.size) cs.length with
      | true=>K (.p (.ag ((cs.drop off).take ti.size))) [] none
      | _=>False
     | false=>match cs.drop off with
      | c::_=>K (.p c) [] none
      | []=>False
    | _=>False
   | .rp id i off=>match h id with
    | .row _ es=>∃r,es[i]?=some r/\match ti.ud.agg with
     | true=>match yy (off+ti.size) r.length with
      | true=>K (.p (.ag ((r.drop off).take ti.size))) [] none
      | _=>False
     | false=>match r.drop off with
      | c::_=>K (.p c) [] none
      | []=>False
    | .ai _ es=>∃r,es[i]?=some r/\match ti.ud.agg with
     | true=>match yy (off+ti.size) r.length with
      | true=>K (.st (((r.drop off).take ti.size).map Ws)) [] none
      | false=>False
     | false=>match r.drop off with
      | .av c::_=>K c [] none
      | _=>False
    | _=>False
   | .ow id=>match h id,ti.ud.agg with
    | .cell _ _ c,false=>K c [] none
    | _,_=>False
   | _=>False
 | .store t a x=>match C.T t with
  | none=>False
  | some ti=>match rho a with
   | .bx id off=>match h id with
    | .box cs=>match ti.ud.agg with
     | true=>match Wu (rho x) with
      | some xs=>match o7 xs.length ti.size&&yy (off+ti.size) cs.length with
       | true=>K .junk [(id,.box (setCells cs off xs))] none
       | false=>False
      | none=>g_ h (rho x) fun y fz=>match y with
       | .ag ys=>match o7 ys.length ti.size&&yy (off+ti.size) cs.length&&m_ id fz with
        | true=>K .junk (fz++[(id,.box (setCells cs off (ys.map Kd)))]) none
        | false=>False
       | _=>False
     | false=>match yy (off+1) cs.length&&o7 ti.size 1&&kL h (rho x) with
      | true=>K .junk [(id,.box (cs.set off (rho x)))] none
      | false=>False
    | _=>False
   | .rp id i off=>match h id with
    | .row e es=>∃r,es[i]?=some r/\g_ h (rho x) fun y fz=>match mZ y with
     | some ys=>match o7 ys.length ti.size&&yy (off+ti.size) r.length&&m_ id fz with
      | true=>K .junk (fz++[(id,.row e (es.set i (setCells r off ys)))]) none
      | false=>False
     | none=>False
    | .ai e es=>∃r,es[i]?=some r/\match ti.ud.agg with
     | true=>False
     | false=>match yy (off+1) r.length&&o7 ti.size 1&&kL h (rho x) with
      | true=>K .junk [(id,.ai e (es.set i (r.set off (.av (rho x)))))] none
      | false=>False
    | _=>False
   | .ow id=>match h id,ti.ud.agg with
    | .cell c0 ty _,false=>match o7 ti.size 1&&kL h (rho x) with
     | true=>K .junk [(id,.cell c0 ty (rho x))] none
     | false=>False
    | _,_=>False
   | _=>False
 | .fieldAddr t x f=>match C.T t with
  | some { ud:=.st fs,.. }=>match fs[f]? with
   | some (off,_,_)=>match rho x with
    | .p (.ip cs)=>K (.p (.ip (cs.drop off))) [] none
    | .bx id o=>match h id with
     | .none=>False
     | _=>K (.bx id (o+off)) [] none
    | .rp id i o=>match h id with
     | .row _ _=>K (.rp id i (o+off)) [] none
     | .ai _ _=>K (.rp id i (o+off)) [] none
     | _=>False
    | _=>False
   | none=>False
  | _=>False
 | .field t x f=>match C.T t,rho x with
  | some { ud:=.st fs,.. },.p (.ag cs)=>match fs[f]? with
   | some (off,size,agg)=>match agg with
    | true=>match yy (off+size) cs.length with
     | true=>K (.p (.ag ((cs.drop off).take size))) [] none
     | false=>False
    | false=>match cs.drop off with
     | c::_=>K (.p c) [] none
     | []=>False
   | none=>False
  | _,_=>False
 | .indexAddr t x ix=>match C.T t,rho ix with
  | some { ud:=.sl e,.. },.p (.im (.int _ i))=>match C.T e with
   | none=>False
   | some te=>match rho x with
    | .p (.sl es)=>∃r,(0<=i/\es[i.toNat]?=some r)/\match o7 r.length te.size with
     | true=>K (.p (.ip r)) [] none
     | false=>False
    | .ow id=>match h id with
     | .row e' es=>match o7 e' e with
      | true=>(0<=i/\i.toNat<es.length)/\K (.rp id i.toNat 0) [] none
      | false=>False
     | .ai e' es=>match o7 e' e with
      | true=>(0<=i/\i.toNat<es.length)/\K (.rp id i.toNat 0) [] none
      | false=>False
     | .f_ es=>∃r,(0<=i/\es[i.toNat]?=some r)/\match o7 r.length te.size with
      | true=>K (.p (.ip r)) [] none
      | false=>False
     | _=>False
    | .vw id lo hi=>match h id with
     | .row e' es=>match o7 e' e with
      | true=>(0<=i/\i.toNat<hi-lo)/\K (.rp id (lo+i.toNat) 0) [] none
      | false=>False
     | _=>False
    | _=>False
  | _,_=>False
 | .index t x ix=>match C.T t,rho x,rho ix with
  | some { ud:=.str,.. },.p (.im (.string s)),.p (.im (.int _ i))=>∃b,(0<=i/\s[i.toNat]?=some b)/\K (.p (.im (.int .u8 b.toNat))) [] none
  | _,_,_=>False
 | .slice t x lo hi none=>match rho x with
  | .ow id=>match h id with
   | .row e' es=>nN C rho t lo hi id e' es K\/ef C rho h t x lo hi K
   | _=>ef C rho h t x lo hi K
  | _=>ef C rho h t x lo hi K
 | .makeMap t none=>match C.T t with
  | some { ud:=.mp kt _,.. }=>match C.T kt with
   | some tk=>match tb tk with
    | some mk=>K (.ow d) [] (some (.map mk []))
    | none=>False
   | none=>False
  | _=>False
 | .lookup t x i ck=>match C.T t with
  | some { ud:=.mp kt et,.. }=>match C.T kt,C.T et with
   | some tk,some te=>match tb tk with
    | some mk=>match rho x with
     | .ow id=>match h id with
      | .map mk' es=>match MR mk mk' with
       | true=>match keyOf mk (rho i) with
        | some k=>∃r,pc es k=r/\match ck with
         | true=>K (.tu [.p (r.getD (WM te)),.p (.im (.bool r.isSome))]) [] none
         | false=>K (.p (r.getD (WM te))) [] none
        | none=>False
       | false=>False
      | _=>False
     | .p (.mp mk' es)=>match MR mk mk' with
      | true=>match keyOf mk (rho i) with
       | some k=>∃r,pc (es.map Bz) k=r/\match ck with
        | true=>K (.tu [.p (r.getD (WM te)),.p (.im (.bool r.isSome))]) [] none
        | false=>K (.p (r.getD (WM te))) [] none
       | none=>False
      | false=>False
     | _=>False
    | none=>False
   | _,_=>False
  | _=>False
 | .range t x=>match C.T t with
  | some { ud:=.mp _ _,.. }=>match rho x with
   | .p (.mp mk es)=>K (.bx d 0) [] (some (.iter mk es es.length none))
   | _=>False
  | _=>False
 | .entry x=>match rho x with
  | .bx id 0=>match h id with
   | .iter _ _ _ (some p)=>K (.tu [.p (.im p.1),.p (.im p.2)]) [] none
   | _=>False
  | _=>False
 | .mapUpdate t x i y=>match C.T t with
  | some { ud:=.mp kt _,.. }=>match C.T kt with
   | some tk=>match tb tk with
    | some mk=>match rho x with
     | .ow id=>match h id with
      | .map mk' es=>match MR mk mk' with
       | true=>match keyOf mk (rho i) with
        | some k=>g_ h (rho y) fun v fz=>match m_ id fz with
         | true=>K .junk (fz++[(id,.map mk' (qB es k v))]) none
         | false=>False
        | none=>False
       | false=>False
      | _=>False
     | _=>False
    | none=>False
   | none=>False
  | _=>False
 | .build t ps=>match C.T t with
  | some { ud:=.st fs,zero:=z,.. }=>match C.bo t with
   | false=>gd h fs rho ps.toList (z.map (Kc (C.bn t))) fun cs fz=>K (.p (.ag cs)) fz none
   | true=>gf h fs rho ps.toList (z.map Bx) fun cs=>K (.st cs) [] none
  | _=>False
 | .buildSlice t len ps=>match C.T t with
  | some { ud:=.sl e,.. }=>match C.T e with
   | some ti=>match Nat.blt 0 ti.size&&yy (len*ti.size) 16777216 with
    | true=>match C.bh t with
     | true=>match len,ps.toList with
      | 1,[(0,x)]=>match Wp h ti.size (rho x) with
       | some xs=>K (.ow d) [] (some (.ai e [xs.map .av]))
       | none=>False
      | _,_=>False
     | false=>match C.bf d with
      | false=>eC (C.bn t) h ti.size rho ps.toList (List.replicate len (ti.zero.map qD)) fun es fz=>K (.ow d) fz (some (.row e es))
      | true=>eC (C.bn t) h ti.size rho ps.toList (List.replicate len (ti.zero.map qD)) fun es fz=>K (.ow d) fz (some (.f_ es))
    | false=>False
   | none=>False
  | _=>False
 | .makeSlice t n c=>match C.T t,rho n,rho c with
  | some { ud:=.sl e,.. },.p (.im (.int _ n)),.p (.im (.int _ c))=>match C.T e with
   | some ti=>match Nat.blt 0 ti.size with
    | true=>(0<=n/\n<=c/\c*ti.bytes<=140737488355328/\c<=9223372036854775807)/\K (.ow d) [] (some (.row e (List.replicate n.toNat (ti.zero.map (Kc (C.bn t))))))
    | false=>False
   | none=>False
  | _,_,_=>False
 | .makeFunc (.func f) first cap=>match isNil first.toList with
  | true=>K (.fn f (cap.toList.map rho)) [] none
  | false=>False
 | .call c=>match Ta c.callee with
  | .len=>match c.args.toList,c.argTypes.toList with
   | [x],[t]=>match C.T t with
    | some { ud:=.str,.. }=>match rho x with
     | .p (.im (.string s))=>K (.p (.im (.int .i64 s.size))) [] none
     | _=>False
    | some { ud:=.sl _,.. }=>match hlen h (rho x) with
     | some n=>K (.p (.im (.int .i64 n))) [] none
     | none=>dV h (rho x) fun es=>K (.p (.im (.int .i64 es.length))) [] none
    | some { ud:=.mp _ _,.. }=>match rho x with
     | .ow id=>match h id with
      | .map _ es=>K (.p (.im (.int .i64 es.length))) [] none
      | _=>False
     | .p (.mp _ es)=>K (.p (.im (.int .i64 es.length))) [] none
     | _=>False
    | _=>False
   | _,_=>False
  | .clear=>match c.args.toList,c.argTypes.toList with
   | [x],[t]=>match C.T t with
    | some { ud:=.sl e,.. }=>match C.T e with
     | some ti=>match rho x with
      | .vw id lo hi=>match h id with
       | .row e' es=>match o7 e' e&&Nat.blt 0 ti.size with
        | true=>(lo<=hi/\hi<=es.length)/\K (.tu []) [(id,.row e' (es.take lo++List.replicate (hi-lo) (ti.zero.map qD)++es.drop hi))] none
        | false=>False
       | _=>False
      | _=>False
     | none=>False
    | _=>False
   | _,_=>False
  | .min=>match c.args.toList with
   | [x,y]=>match rho x,rho y with
    | .p (.im (.int k a)),.p (.im (.int _ b))=>K (.p (.im (.int k (min a b)))) [] none
    | _,_=>False
   | _=>False
  | .max=>match c.args.toList with
   | [x,y]=>match rho x,rho y with
    | .p (.im (.int k a)),.p (.im (.int _ b))=>K (.p (.im (.int k (max a b)))) [] none
    | _,_=>False
   | [x,y,z]=>match rho x,rho y,rho z with
    | .p (.im (.int k a)),.p (.im (.int _ b)),.p (.im (.int _ c))=>K (.p (.im (.int k (max (max a b) c)))) [] none
    | _,_,_=>False
   | [x,y,z,u,v]=>match rho x,rho y,rho z,rho u,rho v with
    | .p (.im (.int k a)),.p (.im (.int _ b)),.p (.im (.int _ c)),.p (.im (.int _ d)),.p (.im (.int _ e))=>K (.p (.im (.int k (max (max (max (max a b) c) d) e)))) [] none
    | _,_,_,_,_=>False
   | _=>False
  | .append=>match c.args.toList,c.argTypes.toList with
   | [x,y],[t,t']=>match o7 t t',C.T t with
    | true,some { ud:=.sl e,.. }=>match C.T e with
     | some ti=>match Nat.blt 0 ti.size with
      | true=>match nd h e (rho y) with
       | some ys=>match rho x with
        | .ow id=>match h id with
         | .ai e' xs=>match o7 e' e with
          | true=>((∀r∈ys,r.length=ti.size)/\(xs.length+ys.length)*ti.bytes<=140737488355328/\xs.length+ys.length<=140737488355328)/\K (.ow d) [(id,.none)] (some (.ai e (xs++ys)))
          | false=>False
         | _=>False
        | _=>False
       | none=>dV h (rho y) fun ys=>match rho x with
        | .nl=>((∀r∈ys,r.length=ti.size)/\ys.length*ti.bytes<=140737488355328/\ys.length<=140737488355328)/\K (.ow d) [] (some (.row e ys))
        | .ow id=>match h id with
         | .row e' xs=>match o7 e' e with
          | true=>((∀r∈ys,r.length=ti.size)/\(xs.length+ys.length)*ti.bytes<=140737488355328/\xs.length+ys.length<=140737488355328)/\K (.ow d) [(id,.none)] (some (.row e (xs++ys)))
          | false=>False
         | .ai e' xs=>match o7 e' e with
          | true=>((∀r∈ys,r.length=ti.size)/\(xs.length+ys.length)*ti.bytes<=140737488355328/\xs.length+ys.length<=140737488355328)/\K (.ow d) [(id,.none)] (some (.ai e (xs++ys.map o8)))
          | false=>False
         | _=>False
        | _=>False
      | false=>False
     | none=>False
    | _,_=>False
   | _,_=>False
  | .val g=>match rD (rho g) with
   | some (f,cap)=>match C.bl f with
    | false=>p8 C h d f (c.args.toList.map rho++cap) K
    | true=>p_ C h d f (c.args.toList.map rho++cap) K
   | none=>False
  | _=>False
 | _=>False
end Go.AM
namespace Go.AM
open Go.RowKit
def jw(P:Program)(t:TypeId)(ti:TI):Prop:=
 ∃info z,P.info? t=some info/\info.size=ti.size/\info.bytes=ti.bytes/\info.zero=some z/\z.cells=ti.zero.toArray/\ti.zero.length=ti.size/\(∀v∈ti.zero,v.oneCell'=true)/\
  match ti.ud with
  | .sc=>(∃d,P.underlying t=some d/\(match d with | .struct _ | .array _ _=>False | _=>True))/\(ti.eq=true->P.underlying t=some .bool)
  | .int k=>P.underlying t=some (.int k)
  | .st fs=>∃gs,P.underlying t=some (.struct gs)/\fs.length=gs.size/\(∀(i:Nat) f g,fs[i]?=some f->gs[i]?=some g->f.1=g.offset/\f.2.1≠0/\(∃i2,P.info? g.type=some i2/\i2.size=f.2.1)/\
    (∃d,P.underlying g.type=some d/\f.2.2=(match d with | .struct _ | .array _ _=>true | _=>false)))
  | .sl e=>P.underlying t=some (.slice e)
  | .str=>P.underlying t=some .string
  | .mp k e=>P.underlying t=some (.map k e)
def Dg:Value->Bool
 | .agg _=>true
 | _=>false
def yA(P:Program)(t:TypeId)(ti:TI):Prop:=∃info z,P.info? t=some info/\info.zero=some z/\Dg z=ti.ud.agg
def mN(k:Value):List MapEntry->Nat->Option (Nat×Value)
 | [],_=>none
 | m::r,i=>match yx k m.key with
  | true=>some (i,m.val)
  | false=>mN k r (i+1)
structure As(P:Program)(kt:TypeId)(mk:MK):Prop where
 check:∀(e:Bool) (k:Value) (w:World),mk.ok k->(Instr.checkKey e 10000 kt k).run P w=.ok () w
 find:∀(k:Value) (w:World) (ms:List MapEntry),mk.ok k->(∀m∈ms,mk.ok m.key)->(Instr.findKey kt k ms).run P w=.ok (mN k ms 0) w
def u9(P:Program)(t:TypeId)(name:String)(f:FuncId)(d:Bool):Prop:=match d with
 | false=>∀(a:Addr) (w:World),(method (P.types.size+Made.depth) t (.pointer (some a)) name).run P w=.ok (f,.pointer (some a)) w
 | true=>∀(a:Addr) (v:Value) (w:World),w.cell? a=some v->(method (P.types.size+Made.depth) t (.pointer (some a)) name).run P w=.ok (f,v) w
structure aL(C:Ctx):Prop where
 zs:∀t ti,C.T t=some ti->yA C.P t ti
 eL:∀t ti,C.T t=some ti->jw C.P t ti
 env:∀S S' w w',C.E S w->(∀b,S b->S' b)->(∀b,S b->w'.heap[b]?=w.heap[b]?)->w.heap.size<=w'.heap.size->C.E S' w'
 any:C.P.follows .mixedOrders=true
 eqs:∀t ti op a b r,C.T t=some ti->ti.eq=true->(∃fs,ti.ud=.st fs)->aX ti.zero a b=some r->∀(xs ys:Array Value) w,(∀(i:Nat) x v,a[i]?=some x->xs[i]?=some v->x=.im v)->(∀(i:Nat) x v,b[i]?=some x->ys[i]?=some v->x=.im v)->
  a.length=xs.size->b.length=ys.size->ti.size=a.length->(op=.eql\/op=.neq)->∀(x y:Operand),(do eqGuard op t x y (.agg xs) (.agg ys);binOp op t (.agg xs) (.agg ys):Sem Value).run C.P w=.ok (.bool (if op=.eql then r else !r)) w
 keys:∀kt tk sh,C.T kt=some tk->tb tk=some (.st sh)->As C.P kt (.st sh)
 pts:∀t,C.pt t=true->∃e,C.P.underlying t=some (.pointer e)
structure jR where
 C:Ctx
 w0:World
 mv:Nat->Prop
 s0:Nat->Prop
 n:Nat
 pin:Nat->Value
structure aU(A:jR)(V L:Nat->Prop)(S:Nat->Prop)(rho:Nat->Value)(s:AS)(a:Act)(w:World):Prop where
 tm:∀j,V j->aE S w A.C.P L rho s.h (s.t j) (a.tmps.getD j undef)
 sz:a.tmps.size=A.n
 df:a.defers=[]
 nb:A.n<=100000
 pn:∀id,100000<=id->rho id=A.pin id
 ev:A.C.E S w
 s0:∀b,A.s0 b->S b
 st:∀b,S b->b<w.heap.size
 sb:∀b,S b->A.s0 b\/A.mv b\/A.w0.heap.size<=b
 hp:∀id,L id->cd S w A.C.P L rho s.h id (s.h id)
 dj:∀i j g,L i->L j->(s.h i).live->(s.h j).live->hasB w (s.h i) (rho i) g->hasB w (s.h j) (rho j) g->i=j
 lv:∀i g,L i->(s.h i).live->hasB w (s.h i) (rho i) g->g<w.heap.size/\¬S g/\(A.mv g\/A.w0.heap.size<=g)
 fr:Fr A.mv A.w0 w
variable {A:jR} {V L:Nat->Prop} {rho:Nat->Value} {s:AS}
theorem aU.KM{S:Nat->Prop}{a:Act}{w:World}(z:aU A V L S rho s a w)(i j g:Nat)(D:L i)(G:L j)(I:(s.h i).live)(J:(s.h j).live)(N:bH (rho i)=some g)(O:bH (rho j)=some g):i=j:=z.dj i j g D G I J (.inl N) (.inl O)
theorem aU.mO{S:Nat->Prop}{a:Act}{w:World}(z:aU A V L S rho s a w)(i g:Nat)(D:L i)(G:(s.h i).live)(I:bH (rho i)=some g):g<w.heap.size/\¬S g/\(A.mv g\/A.w0.heap.size<=g):=z.lv i g D G (.inl I)
structure fu(S S':Nat->Prop)(w w':World)(L L':Nat->Prop)(rho rho':Nat->Value)(h h':Nat->AB):Prop where
 hS:∀b,S b->S' b
 keep:∀b,S b->w'.heap[b]?=w.heap[b]?
 ids:∀id,(h' id).there->(h id).there/\(L id->L' id/\rho' id=rho id)
 rows:∀id e,(h' id).fD=some e->(h id).fD=some e
variable {e:TypeId}
theorem fv{b:AB}(h:b.fD=some e):b.there:=by cases b<;>first | trivial | cases h
variable {S' L':Nat->Prop} {w':World} {rho':Nat->Value} {h':Nat->AB}
theorem aE.bA{S:Nat->Prop}{w:World}{P:Program}{h:Nat->AB}(T:fu S S' w w' L L' rho rho' h h'){x:AV}{v:Value}
  (U:aE S w P L rho h x v):aE S' w' P L' rho' h' x v:=by
 induction U with
 | p x v U=>exact .p x v (U.mono T.hS T.keep)
 | nl=>exact .nl
 | ow id v hv=>
  refine .ow id v fun Y=>?_;obtain⟨I,Z⟩:=T.ids id Y;obtain⟨z,D⟩:=hv I;obtain⟨G,J⟩:=Z z;exact⟨G,by rw[J];exact D⟩
 | rp id i off v hv=>
  refine .rp id i off v fun e N=>?_;obtain⟨z,g,n,c,ti,D,G,J⟩:=hv e (T.rows id e N);obtain⟨O,h8⟩:=(T.ids id (fv N)).2 z;exact⟨O,g,n,c,ti,by rw[h8];exact D,G,J⟩
 | bx id off v hv=>
  refine .bx id off v fun Y=>?_;obtain⟨I,Z⟩:=T.ids id Y;obtain⟨z,g,D,O⟩:=hv I;obtain⟨G,J⟩:=Z z;exact⟨G,g,by rw[J];exact D,O⟩
 | vw id lo hi v hv=>
  refine .vw id lo hi v fun e N=>?_;obtain⟨z,n,c,a,ti,D,G⟩:=hv e (T.rows id e N);obtain⟨O,h8⟩:=(T.ids id (fv N)).2 z;exact⟨O,n,c,a,ti,by rw[h8];exact D,G⟩
 | fn f cap vs hl hc ih=>exact .fn f cap vs hl ih
 | tu xs vs hl hc ih=>exact .tu xs vs hl ih
 | st xs vs hl I hc ih=>exact .st xs vs hl I ih
 | ifp t a u hc ih=>exact .ifp t a u ih
 | junk v=>exact .junk v
theorem nO{w:World}{base:Nat}{size:Nat}{v:Value}{n:Nat}{xs:List Value}(h:w.ownsRow base e size v n xs)(hb:∀g,bH v=some g->w'.heap[g]?=w.heap[g]?):w'.ownsRow base e size v n xs:=by
 refine⟨h.1,?_⟩;rcases h.2 with I | ⟨g,z,D,G,J,N,r⟩
 ·exact .inl I
 exact .inr ⟨g,z,D,G,J,by rw[hb g (by rw[G];rfl)];exact N,r⟩
theorem an.bA{α:Type}{P:Program}{w:World}{R z:α->Value->Prop}{es:List (List α)}{v:Value}(h:an P w R e es v)(hb:∀g,bH v=some g->w'.heap[g]?=w.heap[g]?)(D:∀x u,R x u->z x u):an P w' z e es v:=by
 obtain⟨i,xs,G,I,J,N,O,U⟩:=h;exact⟨i,xs,G,I,nO J hb,N,O,fun a r j x Y Z=>by obtain⟨u,hu,hr⟩:=U a r j x Y Z;exact⟨u,hu,D x u hr⟩⟩
theorem kU.bA{w:World}{es:List (List HX)}{v:Value}(h:kU w es v)(hb:∀g,bH v=some g->w'.heap[g]?=w.heap[g]?):kU w' es v:=
 ⟨fun g a j u b z D G=>h.top g a j u b z (iZ (hb g z) D) G,fun g a j I j' u J b z D G N O=>h.dis g a j I j' u J b z (iZ (hb g z) D) (iZ (hb g z) G) N O⟩
theorem an.rE{P:Program}{w:World}{R:HX->Value->Prop}{es:List (List HX)}{v:Value}(h:an P w R e es v){a j:Nat}{r:List HX}{e':TypeId}{G:List (List PV)}(z:es[a]?=some r)(I:r[j]?=some (.row e' G)):
  ∃g u,bH v=some g/\bI w es g a j u/\R (.row e' G) u:=by
 obtain⟨i,xs,h1,h2,J,N,h5,O⟩:=h;obtain⟨u,D,U⟩:=O a r j _ z I;have Y:=N r (aj z);rcases J.2 with⟨hn,hz⟩ | ⟨g,cap,cur,Z,hg,wI,k1,k2,k3,k4⟩
 ·have:=(cL.1 z).1;omega
 refine⟨g,u,by rw[Z];rfl,⟨r,e',G,_,_,_,z,I,wI,?_⟩,U⟩;rw[Y];rw[<-k4,cB]at D;split at D
 ·simpa using D
 cases D
theorem cd.bA{S:Nat->Prop}{w:World}{P:Program}{h:Nat->AB}(T:fu S S' w w' L L' rho rho' h h'){id:Nat}{x:AB}
  (hb:x.live->∀g,hasB w x (rho id) g->w'.heap[g]?=w.heap[g]?) (U:x.there->rho' id=rho id) (hx:cd S w P L rho h id x):cd S' w' P L' rho' h' id x:=by
 cases x with
 | none=>trivial
 | row e es=>
  show an P w' (ay S' w') e es (rho' id);rw[U trivial];exact an.bA hx (fun g hg=>hb trivial g (.inl hg)) (fun x u z=>z.mono T.hS T.keep)
 | f_ es=>
  show ay S' w' (.sl es) (rho' id);rw[U trivial];exact ay.mono hx T.hS T.keep
 | box cs=>
  obtain⟨g,ty,c,D,h2,J,Y⟩:=hx;refine⟨g,ty,c,by rw[U trivial];exact D,by rw[hb trivial g (.inl (by rw[D];rfl))];exact h2,J,fun j x u Z z=>?_⟩;obtain⟨G,N⟩:=Y j x u Z z;exact⟨G,N.bA T⟩
 | eN ty cs=>
  obtain⟨g,c,D,h2,J,Y⟩:=hx;refine⟨g,c,by rw[U trivial];exact D,by rw[hb trivial g (.inl (by rw[D];rfl))];exact h2,J,fun j x u Z z=>?_⟩;obtain⟨G,N⟩:=Y j x u Z z;exact⟨G,N.bA T⟩
 | jt cs=>
  show ay S' w' (.ip cs) (rho' id);rw[U trivial];exact ay.mono hx T.hS T.keep
 | map mk es=>
  obtain⟨g,ms,I,D,h2,J,Y,MS⟩:=hx;refine⟨g,ms,I,by rw[U trivial];exact D,by rw[hb trivial g (.inl (by rw[D];rfl))];exact h2,J,fun i p m hi hm=>?_,MS⟩;obtain⟨G,N,h7⟩:=Y i p m hi hm;exact⟨G,N,h7.mono T.hS T.keep⟩
 | iter mk es k cur=>
  obtain⟨g,mg,ms,I,seen,D,h2,J,Y,G⟩:=hx;exact⟨g,mg,ms,I,seen,by rw[U trivial];exact D,by rw[hb trivial g (.inl (by rw[D];rfl))];exact h2,T.hS _ J,(T.keep _ J).trans Y,G⟩
 | cell c0 ty a=>
  obtain⟨g,off,v,D,h2,J,Y,G⟩:=hx;exact⟨g,off,v,by rw[U trivial];exact D,h2,by rw[hb trivial g (.inl (by rw[D];rfl))];exact J,Y,G.bA T⟩
 | fam l out=>
  obtain⟨D,hF⟩:=hx;have iR:∀m g cs,l[m]?=some (g,cs)->qA out m->∀k,mE w cs g k->w'.heap[k]?=w.heap[k]?:=fun m g cs hm ho k hk=>hb trivial k (.inr (.inr (.inr ⟨l,out,m,g,cs,rfl,hm,ho,hk⟩)));refine⟨by rw[U trivial];exact D,fun m g cs hm ho=>?_,fun m m' g g' cs dB k hm mD ho u_ hk mF=>hF.dis m m' g g' cs dB k hm mD ho u_ (pb (iR m g cs hm ho g (.inl rfl)) hk) (pb (iR m' g' dB mD u_ g' (.inl rfl)) mF),fun m n g cs hm hl ht=>?_⟩
  ·obtain⟨ty,c,O⟩:=hF.mem m g cs hm ho;refine⟨ty,c,by rw[iR m g cs hm ho g (.inl rfl)];exact O.hp,O.sz,fun j x u Z z=>?_,O.top,O.dis⟩;obtain⟨G,N⟩:=O.cell j x u Z z;refine⟨G,?_⟩;cases x with
   | p x=>exact ay.mono N T.hS T.keep
   | row e es=>exact an.bA N (fun k hk=>iR m g cs hm ho k (.inr ⟨c,ty,_,j,_,u,O.hp,Z,trivial,z,hk⟩)) (fun x u z=>z.mono T.hS T.keep)
  obtain⟨k1,k2⟩:=T.ids n ht;obtain⟨k3,k4⟩:=hF.out m n g cs hm hl k1;obtain⟨k5,k6⟩:=k2 k3;exact⟨k5,k6.trans k4⟩
 | aA cs=>
  obtain⟨g,ty,c,D,O⟩:=hx;have hg:bH (rho id)=some g:=by rw[D];rfl
  refine⟨g,ty,c,by rw[U trivial];exact D,⟨by rw[hb trivial g (.inl hg)];exact O.hp,O.sz,fun j x u Z z=>?_,O.top,O.dis⟩⟩;obtain⟨G,N⟩:=O.cell j x u Z z;refine⟨G,?_⟩;cases x with
  | p x=>exact ay.mono N T.hS T.keep
  | row e es=>exact an.bA N (fun k hk=>hb trivial k (.inr (.inl ⟨cs,g,rfl,hg,c,ty,_,j,_,u,O.hp,Z,trivial,z,hk⟩))) (fun x u z=>z.mono T.hS T.keep)
 | ai e es=>
  obtain⟨hR,hS⟩:=hx;have hg:∀g,bH (rho id)=some g->w'.heap[g]?=w.heap[g]?:=fun g hg=>hb trivial g (.inl hg);refine⟨?_,by rw[U trivial];exact hS.bA hg⟩;rw[U trivial];obtain⟨i,xs,D,h2,J,Y,G,N⟩:=hR;refine⟨i,xs,D,h2,nO J hg,Y,G,fun a r j x ha Z=>?_⟩;obtain⟨u,z,nF⟩:=N a r j x ha Z;refine⟨u,z,?_⟩;cases x with
  | av x=>exact aE.bA T nF
  | row e' kS=>
   refine an.bA nF (fun k hk=>hb trivial k (.inr (.inr (.inl ?_)))) (fun x u z=>z.mono T.hS T.keep);have nP:=Y r (aj ha);rcases J.2 with⟨hn,hz⟩ | ⟨g,cap,cur,hv,hg,wI,k1,k2,k3,k4⟩
   ·have:=(cL.1 ha).1;omega
   refine⟨e,es,g,a,j,u,rfl,by rw[hv];rfl,⟨r,e',kS,_,_,_,ha,Z,wI,?_⟩,hk⟩;rw[nP];rw[<-k4,cB]at z;split at z
   ·simpa using z
   cases z
theorem Fr.next{mv:Nat->Prop}{w0 w:World}(h:Fr mv w0 w)(G:w'.os=w.os)(I:w'.tape=w.tape)(J:w'.output=w.output)(hs:w.heap.size<=w'.heap.size)(hb:∀k,k<w0.heap.size->¬mv k->w'.heap[k]?=w.heap[k]?):Fr mv w0 w':=
 ⟨G.trans h.os,I.trans h.tape,J.trans h.output,bM h.size hs,fun k z D=>(hb k z D).trans (h.block k z D)⟩
def cU(t:Nat->AV)(d:Option Tmp)(v:AV):Nat->AV:=match d with
 | some d=>ax t d v
 | none=>t
def mG(V:Nat->Prop)(d:Option Tmp)(j:Nat):Prop:=V j\/d=some j
theorem Dh(a:Act)(d:Tmp)(v:Value)(j:Nat)(z:d<a.tmps.size):(a.put (some d) v).tmps.getD j undef=if j=d then v else a.tmps.getD j undef:=by
 simp only[Act.put,lU,fg];by_cases h:d=j
 ·subst h;simp[z]
 have:¬j=d:=fun e=>h e.symm;simp[h,this]
theorem Iq{S:Nat->Prop}{a:Act}{w:World}(D:aU A V L S rho s a w)(T:fu S S' w w' L L' rho rho' s.h h')(dst:Option Tmp)(G:∀d,dst=some d->d<A.n)(x:AV)(v:Value)
  (I:aE S' w' A.C.P L' rho' h' x v):∀j,mG V dst j->aE S' w' A.C.P L' rho' h' (cU s.t dst x j) ((a.put dst v).tmps.getD j undef):=by
 intro j z;cases dst with
 | none=>
  rcases z with z | z
  ·exact (D.tm j z).bA T
  cases z
 | some d=>
  rw[Dh a d v j (by rw[D.sz];exact G d rfl)];by_cases e:j=d
  ·subst e;simp only[cU,ak,if_true];exact I
  simp only[cU,au _ _ e,af e];rcases z with z | z
  ·exact (D.tm j z).bA T
  injection z with z;exact absurd z.symm e
theorem Di(a:Act)(dst:Option Tmp)(v:Value):(a.put dst v).tmps.size=a.tmps.size:=by cases dst<;>simp[Act.put]
theorem wP(a:Act)(dst:Option Tmp)(v:Value):(a.put dst v).defers=a.defers:=by cases dst<;>rfl
theorem aU.value{S:Nat->Prop}{a:Act}{w:World}(z:aU A V L S rho s a w)(dst:Option Tmp)(D:∀d,dst=some d->d<A.n)(x:AV)(v:Value)(G:aE S w A.C.P L rho s.h x v):
  aU A (mG V dst) L S rho ⟨cU s.t dst x,s.h⟩ (a.put dst v) w:=
 {tm:=Iq z ⟨fun _ h=>h,fun _ _=>rfl,fun _ h=>⟨h,fun hl=>⟨hl,rfl⟩⟩,fun _ _ h=>h⟩ dst D x v G
  sz:=(Di a dst v).trans z.sz
  df:=(wP a dst v).trans z.df
  nb:=z.nb,pn:=z.pn
  ev:=z.ev,s0:=z.s0,st:=z.st,sb:=z.sb,hp:=z.hp,dj:=z.dj,lv:=z.lv,fr:=z.fr }
end Go.AM
namespace Go.AM
open Go.RowKit
variable {Q:Exit->Act->World->Prop}
theorem bS{P:Program}{o:Oper}{a:Act}{w w':World}{v:Value}{next:Act->World->Prop}(h:(execOp a.eval o).run P w=.ok (.value v) w')(z:next (a.put o.dst v) w'):o.wp P a w next Q:=by
 unfold Oper.wp;rw[h];exact z
theorem jx{P:Program}{o:Oper}{a:Act}{w w':World}{next:Act->World->Prop}(h:(execOp a.eval o).run P w=.ok .skip w')(z:next (a.put o.dst undef) w'):o.wp P a w next Q:=by
 unfold Oper.wp;rw[h];exact z
theorem nQ(S:Nat->Prop)(w:World)(v:Value):ay S w (qD v) v:=by
 unfold qD;split
 ·exact .nil _ _
 exact .im _
theorem Au(b:Bool)(S:Nat->Prop)(w:World)(v:Value):ay S w (Kc b v) v:=by
 cases b
 ·exact nQ S w v
 exact .im v
variable {L:Nat->Prop} {rho:Nat->Value}
theorem va{S:Nat->Prop}{w:World}{P:Program}{h:Nat->AB}{x:PV}{v:Value}(z:ay S w x v):aE S w P L rho h (Kd x) v:=by
 unfold Kd;split
 ·cases z;exact .nl
 exact .p _ _ z
theorem rF(S:Nat->Prop)(w:World)(P:Program)(L:Nat->Prop)(rho:Nat->Value)(h:Nat->AB)(v:Value):aE S w P L rho h (Bx v) v:=by
 unfold Bx;split
 ·exact .nl
 exact .p _ _ (.im _)
theorem BA(S:Nat->Prop)(w:World)(P:Program)(L:Nat->Prop)(rho:Nat->Value)(h:Nat->AB)(v:Value):aE S w P L rho h (u6 v) v:=by
 unfold u6;split
 ·exact .nl
 ·rename_i cs;split
  ·rename_i D;refine .p _ _ (.ag _ _ (by simp) (fun u G=>?_) fun i c v z I=>?_)
   ·rw[cC]at D;exact D u G
   rw[ao]at z;have J:cs.toList[i]?=some v:=by simpa using I
   rw[J]at z;simp at z;rw[<-z];exact nQ S w v
  exact .junk _
 exact .p _ _ (.im _)
variable {A:jR} {V:Nat->Prop} {s:AS}
theorem aH{S:Nat->Prop}{a:Act}{w:World}(z:aU A V L S rho s a w)(x:Operand)(D:∀j,x=.tmp j->V j):aE S w A.C.P L rho s.h (ev s.t x) (a.eval x):=by
 cases x with
 | tmp j=>exact z.tm j (D j rfl)
 | const v=>exact BA _ _ _ _ _ _ v
 | global g=>exact .p _ _ (.im _)
 | func f=>exact .p _ _ (.im _)
theorem aE.cb{S:Nat->Prop}{w:World}{P:Program}{h:Nat->AB}{x:PV}{v:Value}(z:aE S w P L rho h (.p x) v):ay S w x v:=by cases z;assumption
theorem ay.bc{S:Nat->Prop}{w:World}{x v:Value}(z:ay S w (.im x) v):v=x:=by cases z;rfl
theorem aE.bc{S:Nat->Prop}{w:World}{P:Program}{h:Nat->AB}{x v:Value}(z:aE S w P L rho h (.p (.im x)) v):v=x:=z.cb.bc
theorem ay.kW{S:Nat->Prop}{w:World}{cs:List PV}{v:Value}(z:ay S w (.ag cs) v):∃vs:Array Value,v=.agg vs/\cs.length=vs.size/\(∀u∈vs.toList,u.oneCell'=true)/\(∀(i:Nat) c u,cs[i]?=some c->vs[i]?=some u->ay S w c u):=by
 cases z;exact⟨_,rfl,by assumption,by assumption,by assumption⟩
theorem ay.rG{S:Nat->Prop}{w:World}{cs:List PV}{v:Value}(z:ay S w (.ip cs) v):∃b off,∃U:Nat->Value,v=.pointer (some ⟨b,off,none⟩)/\S b/\(∀(j:Nat) x,cs[j]?=some x->w.cell? ⟨b,off+j,none⟩=some (U j)/\(U j).oneCell'=true)/\(∀(j:Nat) x,cs[j]?=some x->ay S w x (U j)):=by
 cases z;exact⟨_,_,_,rfl,by assumption,by assumption,by assumption⟩
theorem ay.WN{S:Nat->Prop}{w:World}{es:List (List PV)}{v:Value}(G:ay S w (.sl es) v):∃a c,v=.slice a es.length c/\es.length<=c/\(es≠[]->∃b off k,a=some ⟨b,off,none⟩/\S b/\(∀e∈es,e.length=k)/\
  ∀(i:Nat) e (j:Nat) x,es[i]?=some e->e[j]?=some x->∃u,w.cell? ⟨b,off+i*k+j,none⟩=some u/\u.oneCell'=true/\ay S w x u):=by
 cases G with
 | nil a c=>exact⟨a,c,rfl,by simp,fun h=>absurd rfl h⟩
 | sl _ k b off c U hc hS hk hcell h=>exact⟨_,c,rfl,hc,fun _=>⟨b,off,k,rfl,hS,hk,fun i e j x z D=>⟨U i j,(hcell i e j x z D).1,(hcell i e j x z D).2,h i e j x z D⟩⟩⟩
def nR(L:Nat->Prop)(new:Option AB)(d:Nat):Nat->Prop:=match new with
 | none=>L
 | some _=>fun i=>L i\/i=d
def eD(A:jR)(o:Oper):Prop:=
 ∀(V L S:Nat->Prop) (rho:Nat->Value) (s:AS) (a:Act) (w:World) (K:KK) (next:Act->World->Prop) (Q:Exit->Act->World->Prop),aL A.C->aU A V L S rho s a w->(∀j,Operand.tmp j∈o.op.operands->V j)->(∀d,o.dst=some d->d<A.n)->
  aZ A.C o (ev s.t) s.h K->(∀v eff b,K v eff (some b)->¬L (o.dst.getD 0)/\s.h (o.dst.getD 0)=b)->
  (∀v eff new S' rho' a' w',K v eff new->aU A (mG V o.dst) (nR L new (o.dst.getD 0)) S' rho' ⟨cU s.t o.dst v,app s.h eff⟩ a' w'->next a' w')->o.wp A.C.P a w next Q
theorem ar{o:Oper}{S:Nat->Prop}{a:Act}{w:World}{K:KK}{next:Act->World->Prop}(D:aU A V L S rho s a w)(I:∀d,o.dst=some d->d<A.n)
  (z:∀v eff new S' rho' G w',K v eff new->aU A (mG V o.dst) (nR L new (o.dst.getD 0)) S' rho' ⟨cU s.t o.dst v,app s.h eff⟩ G w'->next G w') {x:AV} {v:Value} (J:K x [] none) (N:aE S w A.C.P L rho s.h x v)
  (O:(execOp a.eval o).run A.C.P w=.ok (.value v) w):o.wp A.C.P a w next Q:=
 bS O (z _ _ _ _ _ _ _ J (D.value o.dst I x v N))
theorem FM{o:Oper}(x:Operand)(G:o.op=.move x):eD A o:=by
 intro V L S rho s a w K next Q hC D J N I _ z
 simp only[aZ,G]at I;exact ar D N z I (aH D x fun j O=>J j (by simp[G,Op.operands,O])) (by simp[execOp,G])
theorem BB{o:Oper}(x:Operand)(G:o.op=.assign x):eD A o:=by
 intro V L S rho s a w K next Q hC D J N I _ z
 simp only[aZ,G]at I;exact ar D N z I (aH D x fun j O=>J j (by simp[G,Op.operands,O])) (by simp[execOp,G])
theorem FN{o:Oper}(c x y:Operand)(G:o.op=.pick c x y):eD A o:=by
 intro V L S rho s a w K next Q hC z N U I _ D
 simp only[aZ,G]at I;have O:=aH z c fun j J=>N j (by simp[G,Op.operands,J]);have Y:=aH z x fun j J=>N j (by simp[G,Op.operands,J]);have Z:=aH z y fun j J=>N j (by simp[G,Op.operands,J]);split at I
 ·rename_i t ht;rw[ht]at O;split at I
  ·exact ar z U D I Y (by simp[execOp,G,O.bc,asBool])
  exact ar z U D I Z (by simp[execOp,G,O.bc,asBool])
 exact I.elim
theorem aE.Ir{S:Nat->Prop}{w:World}{P:Program}{h:Nat->AB}{xs:List AV}{v:Value}(z:aE S w P L rho h (.st xs) v):∃vs:Array Value,v=.agg vs/\xs.length=vs.size/\(∀u∈vs.toList,u.oneCell'=true)/\∀(i:Nat) c u,xs[i]?=some c->vs[i]?=some u->aE S w P L rho h c u:=by
 cases z;exact⟨_,rfl,by assumption,by assumption,by assumption⟩
theorem aE.Is{S:Nat->Prop}{w:World}{P:Program}{h:Nat->AB}{xs:List AV}{v:Value}(z:aE S w P L rho h (.tu xs) v):∃vs:Array Value,v=.tuple vs/\xs.length=vs.size/\∀(i:Nat) c u,xs[i]?=some c->vs[i]?=some u->aE S w P L rho h c u:=by
 cases z;exact⟨_,rfl,by assumption,by assumption⟩
variable {α:Type}
theorem fJ{vs:Array α}{n i:Nat}(hl:n=vs.size)(hi:i<n):∃v,vs[i]?=some v:=⟨vs[i]'(by omega),bE _⟩
theorem ah{l:List α}{i:Nat}{x:α}(h:l[i]?=some x):i<l.length:=(cL.1 h).1
theorem yC{o:Oper}(x:Operand)(i:Nat)(I:o.op=.extract x i):eD A o:=by
 intro V L S rho s a w K next Q hC G U Y D _ z
 simp only[aZ,I]at D;have J:=aH G x fun j Z=>U j (by simp[I,Op.operands,Z]);split at D
 ·rename_i xs o8;rw[o8]at J;split at D
  ·rename_i y N;obtain⟨vs,QJ,hl,hc⟩:=J.Is;obtain⟨v,O⟩:=fJ hl (ah N);refine ar G Y z D (hc i y v N O) ?_;simp[execOp,I,QJ,Instr.extract,O]
  exact D.elim
 exact D.elim
theorem Av{a b:IntKind}(h:kB a b=true):a=b:=by cases a<;>cases b<;>first | rfl | cases h
theorem FO{k:IntKind}(h:KH k=true):k=.i64:=by cases k<;>first | rfl | cases h
theorem jy{k:IntKind}{n:Int}{K:Value->Prop}(h:pd k n K):K (.int k (k.wrap n)):=by
 unfold pd at h;split at h
 ·rename_i z;obtain rfl:=FO z;obtain⟨⟨D,G⟩,I⟩:=h;rw[IntWalk.i64_in n ⟨D,G⟩];exact I
 exact h
theorem vc(a b:ByteArray):(a.toList==b.toList)=decide (a=b):=by
 rw[gU];simp only[beq_iff_eq,dS,uS];constructor
 ·intro h;exact ByteArray.ext (gV h)
 rintro rfl;rfl
theorem Aw(a b:ByteArray):Op.bytesLess a.toList b.toList=Op.bytesLess a.data.toList b.data.toList:=by rw[uS,uS]
theorem rH(a b:Int):(a==b)=decide (a=b):=by rw[gU];simp
theorem yD(a b:Int):(a != b)=!decide (a=b):=by rw[bne,rH]
theorem FP{a b:Nat}(h:o7 a b=true):a=b:=bq h
theorem run_equalIn_slice_nil{P:Program}(w:World)(d:Nat)(t e:TypeId)(a:Option Addr)(l c:Nat)(h:P.underlying t=some (.slice e)):(Op.equalIn (d+1) t (.slice a l c) (.slice none 0 0)).run P w=.ok a.isNone w:=by
 cases a<;>simp[Op.equalIn,run_underlying h]
theorem dL{P:Program}(w:World)(t e:TypeId)(a:Option Addr)(l c:Nat)(h:P.underlying t=some (.slice e)):(Op.equal t (.slice a l c) (.slice none 0 0)).run P w=.ok a.isNone w:=run_equalIn_slice_nil w 9999 t e a l c h
theorem Dj{o:Oper}(op:BinOp)(t:TypeId)(x y:Operand)(t':TypeId)(J:o.op=.binOp op t x y t'):eD A o:=by
 intro V L S rho s a w K next Q hC I hV U G _ D
 simp only[aZ,J]at G;have hx:=aH I x fun j hj=>hV j (by simp[J,Op.operands,hj]);have hy:=aH I y fun j hj=>hV j (by simp[J,Op.operands,hj]);split at G
 ·rename_i u v hu hv;rw[hu]at hx;rw[hv]at hy;replace hx:=hx.cb;replace hy:=hy.cb;unfold na at G;split at G
  ·rename_i k m k' n;have N:=hx.bc;have O:=hy.bc;split at G
   ·rename_i hs;have Nv:op=.shr:=by cases op<;>first | rfl | cases hs
    subst Nv;obtain⟨⟨h0,Z⟩,G⟩:=G;refine ar I U D G (.p _ _ (.im _)) ?_;have Nw:¬n<0:=by omega
    simp[execOp,J,N,O,eqGuard,binOp,Op.shift,Nw]
   split at G
   ·exact G.elim
   rename_i hk;obtain rfl:=Av hk;split at G
   ·exact ar I U D (jy G) (.p _ _ (.im _)) (by simp[execOp,J,N,O,eqGuard,binOp,Op.intArith])
   ·exact ar I U D (jy G) (.p _ _ (.im _)) (by simp[execOp,J,N,O,eqGuard,binOp,Op.intArith])
   ·exact ar I U D (jy G) (.p _ _ (.im _)) (by simp[execOp,J,N,O,eqGuard,binOp,Op.intArith])
   ·exact ar I U D (jy G.2) (.p _ _ (.im _)) (by simp[execOp,J,N,O,eqGuard,binOp,Op.intDiv,G.1])
   ·exact ar I U D G.2 (.p _ _ (.im _)) (by simp[execOp,J,N,O,eqGuard,binOp,Op.intDiv,G.1])
   ·exact ar I U D G (.p _ _ (.im _)) (by simp[execOp,J,N,O,eqGuard,binOp,Op.intCmp,rH])
   ·exact ar I U D G (.p _ _ (.im _)) (by simp[execOp,J,N,O,eqGuard,binOp,Op.intCmp,yD])
   ·exact ar I U D G (.p _ _ (.im _)) (by simp[execOp,J,N,O,eqGuard,binOp,Op.intCmp])
   ·exact ar I U D G (.p _ _ (.im _)) (by simp[execOp,J,N,O,eqGuard,binOp,Op.intCmp])
   ·exact ar I U D G (.p _ _ (.im _)) (by simp[execOp,J,N,O,eqGuard,binOp,Op.intCmp])
   ·exact ar I U D G (.p _ _ (.im _)) (by simp[execOp,J,N,O,eqGuard,binOp,Op.intCmp])
   exact G.elim
  ·rename_i m n;have N:=hx.bc;have O:=hy.bc;split at G
   ·exact ar I U D G.2 (.p _ _ (.im _)) (by
     have:=G.1;simp[execOp,J,N,O,eqGuard,binOp,run_string_add_sum w m n this])
   ·exact ar I U D G (.p _ _ (.im _)) (by simp[execOp,J,N,O,eqGuard,binOp,Op.stringOp,vc])
   ·exact ar I U D G (.p _ _ (.im _)) (by simp[execOp,J,N,O,eqGuard,binOp,Op.stringOp,vc])
   ·exact ar I U D G (.p _ _ (.im _)) (by simp[execOp,J,N,O,eqGuard,binOp,Op.stringOp,Aw])
   ·exact ar I U D G (.p _ _ (.im _)) (by simp[execOp,J,N,O,eqGuard,binOp,Op.stringOp,vc,Aw])
   ·exact ar I U D G (.p _ _ (.im _)) (by simp[execOp,J,N,O,eqGuard,binOp,Op.stringOp,vc,Aw])
   ·exact ar I U D G (.p _ _ (.im _)) (by simp[execOp,J,N,O,eqGuard,binOp,Op.stringOp,Aw])
   exact G.elim
  ·rename_i m n;have N:=hx.bc;have O:=hy.bc;split at G
   ·rename_i size bytes zero hT;have hb:A.C.P.underlying t=some .bool:=by
     obtain⟨_,_,_,_,_,_,_,_,_,h⟩:=hC.eL t _ hT;exact h.2 rfl
    have Y:=fun w=>run_equal_bool (P:=A.C.P) (w:=w) t m n hb;split at G
    ·exact ar I U D G (.p _ _ (.im _)) (by simp[execOp,J,N,O,eqGuard,binOp,Y];cases m<;>cases n<;>rfl)
    ·exact ar I U D G (.p _ _ (.im _)) (by simp[execOp,J,N,O,eqGuard,binOp,Y];cases m<;>cases n<;>rfl)
    exact G.elim
   exact G.elim
  ·rename_i m n;obtain⟨xs,N,It,_,Iu⟩:=hx.kW;obtain⟨ys,O,yE,_,Ft⟩:=hy.kW;have im:∀(z:List Value) (m:List PV) (n:List PV) r,aX z m n=some r->(∀x∈m,∃v,x=.im v)/\(∀x∈n,∃v,x=.im v):=by
    intro z
    induction z with
    | nil=>
     intro m n r h;cases m<;>cases n<;>first
      | (simp[aX]at h;done)
      | exact⟨by simp,by simp⟩
    | cons c z ih=>
     intro m n r h;unfold aX at h;split at h
     ·rename_i Z;cases Z
     all_goals first
      | (
        rename_i Z;injection Z with Z mP;subst mP;split at h
        ·obtain⟨r',FQ,_⟩:=az.1 h;obtain⟨i1,i2⟩:=ih _ _ _ FQ;exact⟨by simpa using i1,by simpa using i2⟩
        cases h)
      | (
        rename_i Z;injection Z with Z mP;subst mP;obtain⟨r',FQ,_⟩:=az.1 h;obtain⟨i1,i2⟩:=ih _ _ _ FQ;exact⟨by simpa using i1,by simpa using i2⟩)
      | cases h
   have key:∀z r,aX z m n=some r->(∀(i:Nat) x v,m[i]?=some x->xs[i]?=some v->x=.im v)/\(∀(i:Nat) x v,n[i]?=some x->ys[i]?=some v->x=.im v):=by
    intro z r hr;obtain⟨i1,i2⟩:=im z m n r hr;refine⟨fun i x v Z h2=>?_,fun i x v Z h2=>?_⟩
    ·obtain⟨u,rfl⟩:=i1 x (aj Z);rw[(Iu i _ v Z h2).bc]
    obtain⟨u,rfl⟩:=i2 x (aj Z);rw[(Ft i _ v Z h2).bc]
   split at G
   ·rename_i fs size bytes zero hT;split at G
    ·exact G.elim
    rename_i hsz;have hsz:=FP hsz;split at G
    ·split at G
     ·rename_i r hr;obtain⟨k1,k2⟩:=key _ r hr;have Y:=hC.eqs t _ .eql m n r hT rfl ⟨_,rfl⟩ hr xs ys w k1 k2 It yE hsz (.inl rfl) x y;exact ar I U D G (.p _ _ (.im _)) (by
       simp only[execOp,J,N,O];rw[aI,Y];simp)
     exact G.elim
    ·split at G
     ·rename_i r hr;obtain⟨k1,k2⟩:=key _ r hr;have Y:=hC.eqs t _ .neq m n r hT rfl ⟨_,rfl⟩ hr xs ys w k1 k2 It yE hsz (.inr rfl) x y;exact ar I U D G (.p _ _ (.im _)) (by
       simp only[execOp,J,N,O];rw[aI,Y];simp)
     exact G.elim
    exact G.elim
   exact G.elim
  exact G.elim
 ·rename_i u hu hv;rw[hu]at hx;rw[hv]at hy;replace hx:=hx.cb;have qb:a.eval y=.slice none 0 0:=by generalize a.eval y=v at hy;cases hy;rfl
  unfold By at G;split at G
  case h_2=>exact G.elim
  rename_i es;split at G
  case h_1=>exact G.elim
  rename_i wJ;split at G
  case h_2=>exact G.elim
  rename_i e size bytes zero eq hT;have dr:A.C.P.underlying t=some (.slice e):=by
   obtain⟨_,_,_,_,_,_,_,_,_,h⟩:=hC.eL t _ hT;exact h
  obtain⟨ad,c,hv,_,bO⟩:=hx.WN;obtain⟨b,off,k,rfl,_⟩:=bO (fun e=>by rw[e]at wJ;cases wJ);split at G
  ·exact ar I U D G (.p _ _ (.im _)) (by simp[execOp,J,hv,qb,eqGuard,binOp,dL _ _ _ _ _ _ dr])
  ·exact ar I U D G (.p _ _ (.im _)) (by simp[execOp,J,hv,qb,eqGuard,binOp,dL _ _ _ _ _ _ dr])
  exact G.elim
 exact G.elim
theorem FR{o:Oper}(op:UnOp)(t:TypeId)(x:Operand)(I:o.op=.unOp op t x):eD A o:=by
 intro V L S rho s a w K next Q hC D O N G _ z
 simp only[aZ,I]at G;have J:=aH D x fun j U=>O j (by simp[I,Op.operands,U]);split at G
 ·rename_i b hb;rw[hb]at J;exact ar D N z G (.p _ _ (.im _)) (by simp[execOp,I,J.bc,Op.unary])
 ·rename_i k n hb;rw[hb]at J;exact ar D N z (jy G) (.p _ _ (.im _)) (by simp[execOp,I,J.bc,Op.unary,Op.intArith])
 exact G.elim
variable {ti:TI}
theorem jw.sizeOf{P:Program}{t:TypeId}(h:jw P t ti)(w:World):(sizeOf t).run P w=.ok ti.size w:=by
 obtain⟨info,z,D,G,_⟩:=h;simp[Go.sizeOf,typeInfo,D,G]
theorem jw.isAgg{P:Program}{t:TypeId}(h:jw P t ti)(w:World):(isAgg t).run P w=.ok ti.ud.agg w:=by
 obtain⟨info,z,_,_,_,_,_,_,_,h⟩:=h;unfold Go.isAgg;cases hu:ti.ud with
 | sc=>
  rw[hu]at h;obtain⟨⟨d,D,G⟩,_⟩:=h;rw[aI,run_underlying D];cases d<;>first | rfl | exact G.elim
 | int k=>rw[hu]at h;rw[aI,run_underlying h];rfl
 | st fs=>rw[hu]at h;obtain⟨gs,I,_⟩:=h;rw[aI,run_underlying I];rfl
 | sl e=>rw[hu]at h;rw[aI,run_underlying h];rfl
 | str=>rw[hu]at h;rw[aI,run_underlying h];rfl
 | mp k e=>rw[hu]at h;rw[aI,run_underlying h];rfl
theorem Tm{P:Program}{w:World}{t:TypeId}(h:jw P t ti)(z:ti.ud.agg=true)(b off:Nat)(vs:List Value)(hl:vs.length=ti.size)(D:∀(j:Nat) v,vs[j]?=some v->w.cell? ⟨b,off+j,none⟩=some v):
  (Instr.loadAt t (.pointer (some ⟨b,off,none⟩))).run P w=.ok (.agg vs.toArray) w:=by
 have:=run_loadCells_list (P:=P) w ⟨b,off,none⟩ vs (fun j v G=>by rw[gW];exact D j v G);rw[hl]at this;simp[Instr.loadAt,Instr.sureAddr,loadVar,h.isAgg,z,h.sizeOf,this]
theorem fA{P:Program}{w:World}{t:TypeId}(h:jw P t ti)(z:ti.ud.agg=false)(b off:Nat)(v:Value)(D:w.cell? ⟨b,off,none⟩=some v):
  (Instr.loadAt t (.pointer (some ⟨b,off,none⟩))).run P w=.ok v w:=by
 simp[Instr.loadAt,Instr.sureAddr,loadVar,h.isAgg,z,load,Sem.run,D]
theorem Ax{S:Nat->Prop}{w:World}(cs:List PV)(V:Nat->Value)(h:∀(j:Nat) x,cs[j]?=some x->(V j).oneCell'=true/\ay S w x (V j)):ay S w (.ag cs) (.agg ((List.range cs.length).map V).toArray):=by
 refine .ag _ _ (by simp) (fun u z=>?_) fun i c v D G=>?_
 ·simp at z;obtain⟨j,I,rfl⟩:=z;exact (h j _ (aM I)).1
 have J:=ah D;simp[J]at G;rw[<-G];exact (h i c D).2
theorem Wv{S:Nat->Prop}{w:World}{P:Program}{h:Nat->AB}(cs:List AV)(V:Nat->Value)(G:∀(j:Nat) x,cs[j]?=some x->(V j).oneCell'=true/\aE S w P L rho h x (V j)):aE S w P L rho h (.st cs) (.agg ((List.range cs.length).map V).toArray):=by
 refine .st _ _ (by simp) (fun u z=>?_) fun j x u D z=>?_
 ·simp only[fh,dT]at z;obtain⟨j,D,rfl⟩:=z;exact (G j _ (aM D)).1
 have I:=ah D;have z:(((List.range cs.length).map V).toArray)[j]?=some u:=z;rw[List.getElem?_toArray,ao,fG I]at z;injection z with z;rw[<-z];exact (G j x D).2
variable {off:Nat}
theorem gz{l:List α}{n j:Nat}{x:α}(h:((l.drop off).take n)[j]?=some x):l[off+j]?=some x:=by
 rw[cB]at h;split at h
 ·rwa [cV]at h
 cases h
theorem gA{l:List α}{n:Nat}(h:off+n<=l.length):((l.drop off).take n).length=n:=by simp;omega
theorem jz{l:List α}{x:α}{r:List α}(h:l.drop off=x::r):l[off]?=some x:=by
 have:(l.drop off)[0]?=some x:=by rw[h];rfl
 rw[cV]at this;exact this
theorem gi{a b:Nat}(h:yy a b=true):a<=b:=Tj h
theorem dC{a b:Nat}(h:o7 a b=true):a=b:=bq h
theorem dz:∀{cs:List AV} {xs:List PV},cE cs=some xs->cs.length=xs.length/\∀(j:Nat) c x,cs[j]?=some c->xs[j]?=some x->(c=.p x\/(c=.nl/\x=.sl [])):=by
 intro cs
 induction cs with
 | nil=>intro xs h;simp[cE]at h;subst h;exact⟨rfl,by simp⟩
 | cons c cs ih=>
  intro xs h;unfold cE at h;split at h
  ·rename_i z;cases z
  ·rename_i x r z;injection z with z h2;subst z h2;obtain⟨ys,I,rfl⟩:=az.1 h;obtain⟨J,N⟩:=ih I;refine⟨by simp[J],fun j c O D G=>?_⟩;cases j with
   | zero=>simp at D G;subst D G;exact .inl rfl
   | succ j=>exact N j c O (by simpa using D) (by simpa using G)
  ·rename_i r z;injection z with z h2;subst z h2;obtain⟨ys,I,rfl⟩:=az.1 h;obtain⟨J,N⟩:=ih I;refine⟨by simp[J],fun j c O D G=>?_⟩;cases j with
   | zero=>simp at D G;subst D G;exact .inr ⟨rfl,rfl⟩
   | succ j=>exact N j c O (by simpa using D) (by simpa using G)
  cases h
theorem aE.qS{S:Nat->Prop}{w:World}{P:Program}{h:Nat->AB}{c:AV}{x:PV}{u:Value}(D:c=.p x\/(c=.nl/\x=.sl []))(z:aE S w P L rho h c u):ay S w x u:=by
 rcases D with rfl | ⟨rfl,rfl⟩
 ·exact z.cb
 cases z;exact .nil _ _
variable {id:Nat}
theorem aE.dt{S:Nat->Prop}{w:World}{P:Program}{h:Nat->AB}{v:Value}(z:aE S w P L rho h (.bx id off) v)(D:(h id).there):L id/\∃g,rho id=.pointer (some ⟨g,0,none⟩)/\v=.pointer (some ⟨g,off,none⟩):=by
 cases z;rename_i G;exact G D
variable {e:TypeId}
theorem aE.rI{S:Nat->Prop}{w:World}{P:Program}{h:Nat->AB}{i:Nat}{v:Value}(z:aE S w P L rho h (.rp id i off) v){es:List (List PV)}(D:h id=.row e es):
  L id/\∃g n c ti,rho id=.slice (some ⟨g,0,none⟩) n c/\P.info? e=some ti/\v=.pointer (some ⟨g,i*ti.size+off,none⟩):=by
 cases z;rename_i G;exact G e (by rw[D];rfl)
theorem aE.lZ{S:Nat->Prop}{w:World}{P:Program}{h:Nat->AB}{i:Nat}{v:Value}(z:aE S w P L rho h (.rp id i off) v){es:List (List HX)}(D:h id=.ai e es):
  L id/\∃g n c ti,rho id=.slice (some ⟨g,0,none⟩) n c/\P.info? e=some ti/\v=.pointer (some ⟨g,i*ti.size+off,none⟩):=by
 cases z;rename_i G;exact G e (by rw[D];rfl)
theorem aE.Ay{S:Nat->Prop}{w:World}{P:Program}{h:Nat->AB}{t:TypeId}{x:AV}{v:Value}(z:aE S w P L rho h (.ifp t x) v):∃u,v=.iface t u/\aE S w P L rho h x u:=by
 cases z;exact⟨_,rfl,‹_›⟩
theorem aE.bu{S:Nat->Prop}{w:World}{P:Program}{h:Nat->AB}{v:Value}(z:aE S w P L rho h (.ow id) v)(D:(h id).there):L id/\v=rho id:=by
 cases z;rename_i G;exact G D
theorem an.cell{P:Program}{w:World}{R:α->Value->Prop}{es:List (List α)}{g n c:Nat}{ti:TypeInfo}(h:an P w R e es (.slice (some ⟨g,0,none⟩) n c))(G:P.info? e=some ti):
  ∀(a:Nat) r (j:Nat) x,es[a]?=some r->r[j]?=some x->∃u,w.cell? ⟨g,a*ti.size+j,none⟩=some u/\u.oneCell'=true/\R x u:=by
 obtain⟨i,xs,z,h2,I,h4,J,N⟩:=h;rw[G]at z;injection z with z;subst z;intro a r j x O U;obtain⟨u,D,Y⟩:=N a r j x O U;have:=I.cells (g:=g) rfl _ u D;rw[gW]at this;refine⟨u,by simpa using this,J u (aj D),Y⟩
theorem wQ{o:Oper}(t:TypeId)(x:Operand)(aq:o.op=.load t x){S:Nat->Prop}{a:Act}{w:World}{K:KK}(hC:aL A.C)(sim:aU A V L S rho s a w)(hV:∀j,x=.tmp j->V j)(G:aZ A.C o (ev s.t) s.h K):
  ∃av v,K av [] none/\aE S w A.C.P L rho s.h av v/\(Instr.loadAt t (a.eval x)).run A.C.P w=.ok v w:=by
 simp only[aZ,aq]at G;have hx:=aH sim x hV;split at G
 ·exact G.elim
 rename_i ti hT;have dr:=hC.eL t ti hT;split at G
 ·rename_i cs WI;rw[WI]at hx;obtain⟨b,off,U,Y,hb,z,Z⟩:=hx.cb.rG;split at G
  ·rename_i O;split at G
   ·rename_i I;have I:=gi I;have hlen:(cs.take ti.size).length=ti.size:=by simp;omega
    refine⟨_,_,G,.p _ _ (Ax _ U fun j x D=>?_),?_⟩
    ·have KN:cs[j]?=some x:=by rw[cB]at D;split at D;exact D;cases D
     exact⟨(z j x KN).2,Z j x KN⟩
    have:=Tm (w:=w) dr O b off ((List.range (cs.take ti.size).length).map U) (by simp;omega) (fun j v D=>by
     have kX:j<(cs.take ti.size).length:=by have:=ah D;simpa using this
     rw[ao,fG kX]at D;simp at D;have wR:j<cs.length:=by rw[hlen]at kX;omega
     rw[(z j _ (aM wR)).1,D])
    rw[Y];exact this
   exact G.elim
  rename_i O;split at G
  ·rename_i c r;refine⟨_,_,G,.p _ _ (Z 0 c rfl),?_⟩;have:=fA (w:=w) dr O b off (U 0) (by simpa using (z 0 c rfl).1);rw[Y];exact this
  exact G.elim
 ·rename_i id off WI;rw[WI]at hx;split at G
  ·rename_i cs aA;obtain⟨hL,g,hg,Y⟩:=hx.dt (by rw[aA];trivial);have hh:=sim.hp id hL;rw[aA]at hh;obtain⟨g',ty,c,N,h2,h3,h4⟩:=hh;rw[hg]at N;injection N with N;injection N with N;injection N with N;subst N;have z:∀j u,c[j]?=some u->w.cell? ⟨g,j,none⟩=some u:=fun j u hu=>by rw[cell_of_row w g j c ty (0,0) h2];exact hu
   split at G
   ·rename_i O;split at G
    ·rename_i xs I o8;have I:=gi I;obtain⟨hl,BC⟩:=dz o8;have hlen:xs.length=ti.size:=by rw[<-hl];exact gA I
     have hU:∀(j:Nat) x,xs[j]?=some x->∃u,c[off+j]?=some u/\u.oneCell'=true/\ay S w x u:=by
      intro j x D;obtain⟨y,hy⟩:∃y,((cs.drop off).take ti.size)[j]?=some y:=⟨_,aM (by rw[hl];exact ah D)⟩;have qb:=gz hy;obtain⟨u,hu⟩:=fJ h3.symm (ah qb);obtain⟨J,h6⟩:=h4 _ _ _ qb hu;exact⟨u,hu,J,h6.qS (BC j y x hy D)⟩
     refine⟨_,_,G,.p _ _ (Ax xs (fun j=>(c[off+j]?).getD undef) fun j x D=>?_),?_⟩
     ·obtain⟨u,J,h6,h7⟩:=hU j x D;rw[J];exact⟨h6,h7⟩
     have:=Tm (w:=w) dr O g off ((List.range xs.length).map (fun j=>(c[off+j]?).getD undef)) (by simpa using hlen) (fun j v D=>by
      have kX:j<xs.length:=by have:=ah D;simpa using this
      rw[ao,fG kX]at D;obtain⟨u,J,_⟩:=hU j _ (aM kX);simp[J]at D;rw[z _ _ J,D])
     rw[Y];exact this
    ·rename_i I o8;have I:=gi I;have hlen:((cs.drop off).take ti.size).length=ti.size:=gA I;have hU:∀(j:Nat) x,((cs.drop off).take ti.size)[j]?=some x->∃u,c[off+j]?=some u/\u.oneCell'=true/\aE S w A.C.P L rho s.h x u:=by
      intro j x D;have KN:=gz D;obtain⟨u,hu⟩:=fJ h3.symm (ah KN);obtain⟨J,h6⟩:=h4 _ _ _ KN hu;exact⟨u,hu,J,h6⟩
     refine⟨_,_,G,Wv _ (fun j=>(c[off+j]?).getD undef) fun j x D=>?_,?_⟩
     ·obtain⟨u,J,h6,h7⟩:=hU j x D;rw[J];exact⟨h6,h7⟩
     have:=Tm (w:=w) dr O g off ((List.range ((cs.drop off).take ti.size).length).map (fun j=>(c[off+j]?).getD undef)) (by simpa using hlen) (fun j v D=>by
      have kX:j<((cs.drop off).take ti.size).length:=by have:=ah D;simpa using this
      rw[ao,fG kX]at D;obtain⟨u,J,_⟩:=hU j _ (aM kX);simp[J]at D;rw[z _ _ J,D])
     rw[Y];exact this
    exact G.elim
   rename_i O;split at G
   ·rename_i y r hy;have qb:=jz hy;obtain⟨u,hu⟩:=fJ h3.symm (ah qb);obtain⟨J,h6⟩:=h4 _ _ _ qb hu;refine⟨_,_,G,h6,?_⟩;have:=fA (w:=w) dr O g off u (z _ _ hu);rw[Y];exact this
   exact G.elim
  ·rename_i cs aA;obtain⟨hL,g,hg,Y⟩:=hx.dt (by rw[aA];trivial);have hh:=sim.hp id hL;rw[aA]at hh;obtain⟨b,QL,U,N,hb,z,Z⟩:=ay.rG hh;rw[hg]at N;injection N with N;injection N with N;injection N with N h2;subst N h2;split at G
   ·rename_i O;split at G
    ·rename_i I;have I:=gi I;have hlen:=gA I;refine⟨_,_,G,.p _ _ (Ax _ (fun j=>U (off+j)) fun j x D=>?_),?_⟩
     ·have KN:=gz D;exact⟨(z _ x KN).2,Z _ x KN⟩
     have:=Tm (w:=w) dr O g off ((List.range ((cs.drop off).take ti.size).length).map (fun j=>U (off+j))) (by simpa using hlen) (fun j v D=>by
      have kX:j<((cs.drop off).take ti.size).length:=by have:=ah D;simpa using this
      rw[ao,fG kX]at D;simp at D;have wR:off+j<cs.length:=by rw[hlen]at kX;omega
      have J:=(z _ _ (aM wR)).1;rw[ae]at J;rw[J,D])
     rw[Y];exact this
    exact G.elim
   rename_i O;split at G
   ·rename_i y r hy;have qb:=jz hy;refine⟨_,_,G,.p _ _ (Z _ _ qb),?_⟩;have:=fA (w:=w) dr O g off (U off) (by simpa using (z _ _ qb).1);rw[Y];exact this
   exact G.elim
  exact G.elim
 ·rename_i id i off WI;rw[WI]at hx;split at G
  ·rename_i e es ai;obtain⟨hL,g,n,c,tj,hg,pf,Y⟩:=hx.rI ai;have hh:=sim.hp id hL;rw[ai]at hh;have wK:an A.C.P w (ay S w) e es (.slice (some ⟨g,0,none⟩) n c):=by rw[<-hg];exact hh
   have z:=wK.cell pf;obtain⟨r,hr,G⟩:=G;split at G
   ·rename_i O;split at G
    ·rename_i I;have I:=gi I;have hlen:=gA I;have hU:∀(j:Nat) x,((r.drop off).take ti.size)[j]?=some x->∃u,w.cell? ⟨g,i*tj.size+off+j,none⟩=some u/\u.oneCell'=true/\ay S w x u:=by
      intro j x D;obtain⟨u,N,h2,h3⟩:=z i r _ x hr (gz D);exact⟨u,by rw[br];exact N,h2,h3⟩
     refine⟨_,_,G,.p _ _ (Ax _ (fun j=>(w.cell? ⟨g,i*tj.size+off+j,none⟩).getD undef) fun j x D=>?_),?_⟩
     ·obtain⟨u,J,h6,h7⟩:=hU j x D;rw[J];exact⟨h6,h7⟩
     have:=Tm (w:=w) dr O g (i*tj.size+off) ((List.range ((r.drop off).take ti.size).length).map (fun j=>(w.cell? ⟨g,i*tj.size+off+j,none⟩).getD undef)) (by simpa using hlen) (fun j v D=>by
      have kX:j<((r.drop off).take ti.size).length:=by have:=ah D;simpa using this
      rw[ao,fG kX]at D;obtain⟨u,J,_⟩:=hU j _ (aM kX);simp[J]at D;rw[J,D])
     rw[Y];exact this
    exact G.elim
   rename_i O;split at G
   ·rename_i y r' hy;have qb:=jz hy;obtain⟨u,N,h2,h3⟩:=z i r _ y hr qb;refine⟨_,_,G,.p _ _ h3,?_⟩;have:=fA (w:=w) dr O g (i*tj.size+off) u N;rw[Y];exact this
   exact G.elim
  ·rename_i e es ai;obtain⟨hL,g,n,c,tj,hg,pf,Y⟩:=hx.lZ ai;have hh:=sim.hp id hL;rw[ai]at hh;have wK:an A.C.P w (iY S w A.C.P L rho s.h) e es (.slice (some ⟨g,0,none⟩) n c):=by rw[<-hg];exact hh.1
   have z:=wK.cell pf;obtain⟨r,hr,G⟩:=G;split at G
   ·rename_i O;split at G
    ·rename_i I;have I:=gi I;have hlen:(((r.drop off).take ti.size).map Ws).length=ti.size:=by rw[ct];exact gA I
     have hU:∀(j:Nat) x,(((r.drop off).take ti.size).map Ws)[j]?=some x->∃u,w.cell? ⟨g,i*tj.size+off+j,none⟩=some u/\u.oneCell'=true/\aE S w A.C.P L rho s.h x u:=by
      intro j x D;rw[ao]at D;obtain⟨y,hy,rfl⟩:=az.1 D;obtain⟨u,N,h2,h3⟩:=z i r _ y hr (gz hy);refine⟨u,by rw[br];exact N,h2,?_⟩;cases y with
      | av y=>exact h3
      | row e' xs=>exact .junk _
     refine⟨_,_,G,Wv _ (fun j=>(w.cell? ⟨g,i*tj.size+off+j,none⟩).getD undef) fun j x D=>?_,?_⟩
     ·obtain⟨u,J,h6,h7⟩:=hU j x D;rw[J];exact⟨h6,h7⟩
     have:=Tm (w:=w) dr O g (i*tj.size+off) ((List.range (((r.drop off).take ti.size).map Ws).length).map (fun j=>(w.cell? ⟨g,i*tj.size+off+j,none⟩).getD undef)) (by simpa using hlen) (fun j v D=>by
      have kX:j<(((r.drop off).take ti.size).map Ws).length:=by have:=ah D;simpa using this
      rw[ao,fG kX]at D;obtain⟨u,J,_⟩:=hU j _ (aM kX);simp[J]at D;rw[J,D])
     rw[Y];exact this
    exact G.elim
   rename_i O;split at G
   ·rename_i y r' hy;have qb:=jz hy;obtain⟨u,N,h2,h3⟩:=z i r _ _ hr qb;refine⟨_,_,G,h3,?_⟩;have:=fA (w:=w) dr O g (i*tj.size+off) u N;rw[Y];exact this
   exact G.elim
  exact G.elim
 ·rename_i id WI;rw[WI]at hx;split at G
  ·rename_i c0 ty c z O;obtain⟨hL,Y⟩:=hx.bu (by rw[z];trivial);have hh:=sim.hp id hL;rw[z]at hh;obtain⟨g,off,u,N,h2,h3,h4,J⟩:=hh;refine⟨_,_,G,J,?_⟩;have:=fA (w:=w) dr O g off u (by rw[cell_of_row w g off _ ty (0,0) h3,fg,qH rfl,qH h2]);rw[Y,N];exact this
  exact G.elim
 exact G.elim
theorem FT{o:Oper}(t:TypeId)(x:Operand)(G:o.op=.load t x):eD A o:=by
 intro V L S rho s a w K next Q hC D I J N _ z
 obtain⟨av,v,O,U,Y⟩:=wQ t x G hC D (fun j Z=>I j (by simp[G,Op.operands,Z])) N;exact ar D J z O U (by simp only[execOp,G,aI,Y,nH,jS])
theorem jw.under{P:Program}{t:TypeId}(h:jw P t ti):match ti.ud with
  | .sc=>(∃d,P.underlying t=some d/\(match d with | .struct _ | .array _ _=>False | _=>True))/\(ti.eq=true->P.underlying t=some .bool)
  | .int k=>P.underlying t=some (.int k)
  | .st fs=>∃gs,P.underlying t=some (.struct gs)/\fs.length=gs.size/\(∀(i:Nat) f g,fs[i]?=some f->gs[i]?=some g->f.1=g.offset/\f.2.1≠0/\(∃z,P.info? g.type=some z/\z.size=f.2.1)/\
    (∃d,P.underlying g.type=some d/\f.2.2=(match d with | .struct _ | .array _ _=>true | _=>false)))
  | .sl e=>P.underlying t=some (.slice e)
  | .str=>P.underlying t=some .string
  | .mp k e=>P.underlying t=some (.map k e):=by
 obtain⟨_,_,_,_,_,_,_,_,_,h⟩:=h;exact h
theorem jw.info{P:Program}{t:TypeId}(h:jw P t ti):∃info z,P.info? t=some info/\info.size=ti.size/\info.bytes=ti.bytes/\info.zero=some z/\z.cells=ti.zero.toArray/\(∀v∈ti.zero,v.oneCell'=true):=by
 obtain⟨i,z,D,G,I,J,N,h6,O,h⟩:=h;exact⟨i,z,D,G,I,J,N,O⟩
theorem jw.Dk{P:Program}{t:TypeId}(h:jw P t ti):ti.zero.length=ti.size:=by
 obtain⟨i,z,h1,h2,h3,h4,h5,D,h7,h⟩:=h;exact D
theorem vd{o:Oper}(t:TypeId)(x:Operand)(f:Nat)(aq:o.op=.fieldAddr t x f):eD A o:=by
 intro V L S rho s a w K next Q hC I hV hd D _ z
 simp only[aZ,aq]at D;have N:=aH I x fun j O=>hV j (by simp[aq,Op.operands,O]);split at D
 ·rename_i fs size bytes zero eq hT;have dr:=(hC.eL t _ hT).under;obtain⟨gs,mH,hl,hf⟩:=dr;split at D
  ·rename_i off sz ag Fu;obtain⟨g,hg⟩:=fJ hl (ah Fu);obtain⟨e1,e2,⟨i2,Kh,KO⟩,_⟩:=hf f _ g Fu hg;have G:∀b o',(Instr.fieldAt t (.pointer (some ⟨b,o',none⟩)) f).run A.C.P w=.ok (.pointer (some ⟨b,o'+off,none⟩)) w:=by
    intro b o';simp only at e1 e2 KO;simp[Instr.fieldAt,run_underlying mH,hg,Instr.sureAddr,fieldPlace,Go.sizeOf,typeInfo,Kh,KO,e2,gW,<-e1]
   split at D
   ·rename_i cs WI;rw[WI]at N;obtain⟨b,o',U,Y,hb,Z,hrep⟩:=N.cb.rG;refine ar I hd z D (.p _ _ (.ip _ b (o'+off) (fun j=>U (off+j)) hb (fun j y O=>?_) fun j y O=>?_)) (by simp[execOp,aq,Y,G])
    ·rw[cV]at O;rw[br];exact Z _ y O
    rw[cV]at O;exact hrep _ y O
   ·rename_i id o' WI;rw[WI]at N;split at D
    ·exact D.elim
    rename_i bO;have ht:(s.h id).there:=by
     cases hh:s.h id<;>first | trivial | exact absurd hh (by simpa using bO)
    obtain⟨hL,g',eY,Y⟩:=N.dt ht;exact ar I hd z D (.bx _ _ _ fun _=>⟨hL,g',eY,rfl⟩) (by simp[execOp,aq,Y,G])
   ·rename_i id i o' WI;rw[WI]at N;split at D
    ·rename_i e es ai;obtain⟨hL,g',n,c,tj,eY,pf,Y⟩:=N.rI ai;refine ar I hd z D (v:=.pointer (some ⟨g',i*tj.size+o'+off,none⟩)) (.rp _ _ _ _ fun e2 J=>?_) (by simp[execOp,aq,Y,G]);rw[ai]at J;injection J with J;subst J;exact⟨hL,g',n,c,tj,eY,pf,by rw[br]⟩
    ·rename_i e es ai;obtain⟨hL,g',n,c,tj,eY,pf,Y⟩:=N.lZ ai;refine ar I hd z D (v:=.pointer (some ⟨g',i*tj.size+o'+off,none⟩)) (.rp _ _ _ _ fun e2 J=>?_) (by simp[execOp,aq,Y,G]);rw[ai]at J;injection J with J;subst J;exact⟨hL,g',n,c,tj,eY,pf,by rw[br]⟩
    exact D.elim
   exact D.elim
  exact D.elim
 exact D.elim
theorem Dl{o:Oper}(t:TypeId)(x:Operand)(f:Nat)(N:o.op=.field t x f):eD A o:=by
 intro V L S rho s a w K next Q hC G hV hd z _ D
 simp only[aZ,N]at z;have hx:=aH G x fun j hj=>hV j (by simp[N,Op.operands,hj]);split at z
 ·rename_i fs size bytes zero eq cs hT WI;have dr:=(hC.eL t _ hT).under;obtain⟨gs,mH,hl,hf⟩:=dr;rw[WI]at hx;obtain⟨vs,hv,yE,h1,hc⟩:=hx.cb.kW;split at z
  ·rename_i off sz ag Fu;obtain⟨g,U⟩:=fJ hl (ah Fu);obtain⟨Y,e2,⟨i2,Kh,KO⟩,d,PE,Z⟩:=hf f _ g Fu U;simp only at Y e2 KO Z;split at z
   ·split at z
    ·rename_i I;have I:=gi I;have hlen:=gA I;refine ar G hd D z (v:=.agg (vs.extract off (off+sz))) (.p _ _ (.ag _ _ (by simp;omega) (fun u J=>h1 u ?_) fun i c v PF O=>?_)) ?_
     ·simp at J;exact jT (eM J)
     ·have hi:=ah PF;rw[hlen]at hi;have Nx:vs[off+i]?=some v:=by
       rw[Array.getElem?_extract]at O;split at O
       ·exact O
       cases O
      exact hc _ c v (gz PF) Nx
     have ha:(isAgg g.type).run A.C.P w=.ok true w:=by
      rw[Go.isAgg,aI,run_underlying PE];cases d<;>simp at Z<;>rfl
     simp[execOp,N,hv,Instr.field,run_underlying mH,U,asAgg,part,ha,Go.sizeOf,typeInfo,Kh,KO,<-Y]
    exact z.elim
   split at z
   ·rename_i c r hy;have qb:=jz hy;obtain⟨u,J⟩:=fJ yE (ah qb);refine ar G hd D z (.p _ _ (hc _ _ _ qb J)) ?_;have ha:(isAgg g.type).run A.C.P w=.ok false w:=by
     rw[Go.isAgg,aI,run_underlying PE];cases d<;>simp at Z<;>rfl
    simp[execOp,N,hv,Instr.field,run_underlying mH,U,asAgg,part,ha,<-Y,J]
   exact z.elim
  exact z.elim
 exact z.elim
theorem i_{P:Program}{w:World}{t:TypeId}{ti:TypeInfo}(z:P.underlying t=some (.slice e))(D:P.info? e=some ti)(b off n c:Nat)(k:IntKind)(i:Int)(h0:0<=i)(h1:i.toNat<n):
  (Instr.indexAt t (.slice (some ⟨b,off,none⟩) n c) (.int k i)).run P w=.ok (.pointer (some ⟨b,off+i.toNat*ti.size,none⟩)) w:=by
 have G:i<n:=by omega
 simp[Instr.indexAt,asIntOf,run_underlying z,h0,G,Go.sizeOf,typeInfo,D,gW]
theorem aE.rJ{S:Nat->Prop}{w:World}{P:Program}{h:Nat->AB}{z D:Nat}{v:Value}(G:aE S w P L rho h (.vw id z D) v){es:List (List PV)}(I:h id=.row e es):
  L id/\∃n c a ti,rho id=.slice a n c/\P.info? e=some ti/\z<=D/\D<=n/\n<=c/\v=.slice (if c=z then a else a.map (·.add (z*ti.size))) (D-z) (c-z):=by
 cases G with
 | vw _ _ _ _ hv=>exact hv e (by rw[I];rfl)
theorem ve{o:Oper}(t:TypeId)(x ix:Operand)(aq:o.op=.indexAddr t x ix):eD A o:=by
 intro V L S rho s a w K next Q hC D hV hd z _ G
 simp only[aZ,aq]at z;have hx:=aH D x fun j Z=>hV j (by simp[aq,Op.operands,Z]);have hy:=aH D ix fun j Z=>hV j (by simp[aq,Op.operands,Z]);split at z
 ·rename_i e size bytes zero eq k i hT C2;have dr:=(hC.eL t _ hT).under;simp only at dr;rw[C2]at hy;replace hy:=hy.bc;split at z
  ·exact z.elim
  rename_i te nf;obtain⟨J,ze,WC,qT,_⟩:=(hC.eL e te nf).info;have PG:∀(es:List (List PV)),ay S w (.sl es) (a.eval x)->(∃r,(0<=i/\es[i.toNat]?=some r)/\match o7 r.length te.size with | true=>K (.p (.ip r)) [] none | false=>False)->o.wp A.C.P a w next Q:=by
   intro es hrep z;obtain⟨r,⟨h0,hr⟩,z⟩:=z;split at z
   ·rename_i hlen;have hlen:=dC hlen;obtain⟨ad,c,hv,hle,bO⟩:=hrep.WN;obtain⟨b,off,k',rfl,hb,hk,hcell⟩:=bO (by intro e;rw[e]at hr;simp at hr);have mF:k'=te.size:=by rw[<-hk r (aj hr),hlen]
    have hU:∀(j:Nat) y,r[j]?=some y->∃u,w.cell? ⟨b,off+i.toNat*te.size+j,none⟩=some u/\u.oneCell'=true/\ay S w y u:=by
     intro j y Z;have:=hcell _ _ j y hr Z;rw[mF]at this;exact this
    refine ar D hd G z (.p _ _ (.ip _ b (off+i.toNat*te.size) (fun j=>(w.cell? ⟨b,off+i.toNat*te.size+j,none⟩).getD undef) hb (fun j y Z=>?_) fun j y Z=>?_)) ?_
    ·obtain⟨u,h1,h2,h3⟩:=hU j y Z;simp[h1,h2]
    ·obtain⟨u,h1,h2,h3⟩:=hU j y Z;simp only[h1];exact h3
    have:=i_ (w:=w) dr WC b off es.length c k i h0 (ah hr);simp only[execOp,aq,hv,hy,aI,this,nH,jS,qT]
   exact z.elim
  split at z
  ·rename_i es wJ;rw[wJ]at hx;exact PG es hx.cb z
  ·rename_i id wJ;rw[wJ]at hx;split at z
   ·rename_i e' es ai;split at z
    ·rename_i N;have N:=dC N;subst N;obtain⟨Y,hv⟩:=hx.bu (by rw[ai];trivial);have O:=D.hp id Y;rw[ai]at O;have wK:an A.C.P w (ay S w) e' es (rho id):=O;obtain⟨⟨h0,dv⟩,z⟩:=z;obtain⟨i',xs,h1,h2,h3,h4,h5,h6⟩:=wK;rcases h3.2 with⟨_,hn⟩ | ⟨g,cap,cur,hg,_,_,hle,_⟩
     ·omega
     refine ar D hd G z (v:=.pointer (some ⟨g,i.toNat*J.size,none⟩)) (.rp _ _ _ _ fun e2 I=>?_) ?_
     ·rw[ai]at I;injection I with I;subst I;exact⟨Y,g,_,_,J,hg,WC,by rw[uT]⟩
     have:=i_ (w:=w) dr WC g 0 es.length cap k i h0 dv;rw[hg]at hv;rw[ae]at this;simp only[execOp,aq,hv,hy,aI,this,nH,jS]
    exact z.elim
   ·rename_i e' es ai;split at z
    ·rename_i N;have N:=dC N;subst N;obtain⟨Y,hv⟩:=hx.bu (by rw[ai];trivial);have O:=D.hp id Y;rw[ai]at O;have wK:an A.C.P w (iY S w A.C.P L rho s.h) e' es (rho id):=O.1;obtain⟨⟨h0,dv⟩,z⟩:=z;obtain⟨i',xs,h1,h2,h3,h4,h5,h6⟩:=wK;rcases h3.2 with⟨_,hn⟩ | ⟨g,cap,cur,hg,_,_,hle,_⟩
     ·omega
     refine ar D hd G z (v:=.pointer (some ⟨g,i.toNat*J.size,none⟩)) (.rp _ _ _ _ fun e2 I=>?_) ?_
     ·rw[ai]at I;injection I with I;subst I;exact⟨Y,g,_,_,J,hg,WC,by rw[uT]⟩
     have:=i_ (w:=w) dr WC g 0 es.length cap k i h0 dv;rw[hg]at hv;rw[ae]at this;simp only[execOp,aq,hv,hy,aI,this,nH,jS]
    exact z.elim
   ·rename_i es BD;obtain⟨Y,hv⟩:=hx.bu (by rw[BD];trivial);have O:=D.hp id Y;rw[BD]at O;exact PG es (by rw[hv];exact O) z
   exact z.elim
  ·rename_i id lo hi wJ;rw[wJ]at hx;split at z
   ·rename_i e' es ai;split at z
    ·rename_i N;have N:=dC N;subst N;obtain⟨Y,n,cp,ad,Ny,eZ,mI,QM,QN,Ki,U⟩:=hx.rJ ai;rw[WC]at mI;injection mI with mI;subst mI;have O:=D.hp id Y;rw[ai]at O;have wK:an A.C.P w (ay S w) e' es (rho id):=O;obtain⟨⟨h0,dv⟩,z⟩:=z;obtain⟨i',xs,h1,h2,h3,h4,h5,h6⟩:=wK;rw[eZ]at h3;rcases h3.2 with⟨h7,_⟩ | ⟨g,cap,cur,hg,_,_,hle,_⟩
     ·injection h7 with _ h8 h9;omega
     injection hg with g1 g2 g3;subst g1 g2 g3;refine ar D hd G z (v:=.pointer (some ⟨g,lo*J.size+i.toNat*J.size,none⟩)) (.rp _ _ _ _ fun e2 I=>?_) ?_
     ·rw[ai]at I;injection I with I;subst I;exact⟨Y,g,_,_,J,eZ,WC,by rw[uT,qI]⟩
     have:=i_ (w:=w) dr WC g (lo*J.size) (hi-lo) (cp-lo) k i h0 dv;rw[af (by omega)]at U;have he:(if lo*J.size=0 then (⟨g,0,none⟩:Addr) else ⟨g,lo*J.size,none⟩)=⟨g,lo*J.size,none⟩:=by split<;>simp_all
     simp only[cW,Addr.add,ae,he]at U;simp only[execOp,aq,U,hy,aI,this,nH,jS]
    exact z.elim
   exact z.elim
  exact z.elim
 exact z.elim
theorem Dm{o:Oper}(t:TypeId)(x N:Operand)(I:o.op=.index t x N):eD A o:=by
 intro V L S rho s a w K next Q hC z O hd G _ D
 simp only[aZ,I]at G;have U:=aH z x fun j J=>O j (by simp[I,Op.operands,J]);have Y:=aH z N fun j J=>O j (by simp[I,Op.operands,J]);split at G
 ·rename_i size bytes zero eq st k i hT hs C2;have Z:=(hC.eL t _ hT).under;simp only at Z;rw[C2]at Y;rw[hs]at U;obtain⟨b,⟨h0,hb⟩,G⟩:=G;refine ar z hd D G (.p _ _ (.im _)) ?_;simp[execOp,I,U.bc,Y.bc,Instr.index,asIntOf,run_underlying Z,h0,hb]
 exact G.elim
theorem yF{o:Oper}(src dst:TypeId)(x:Operand)(O:o.op=.convert src dst x):eD A o:=by
 intro V L S rho s a w K next Q hC D hV hd J _ z
 simp only[aZ,O]at J;have N:=aH D x fun j hj=>hV j (by simp[O,Op.operands,hj]);split at J
 ·rename_i k' n QO k size bytes zero eq U Y Z;have I:=(hC.eL dst _ Z).under;simp only at I;rw[U]at N;have G:∃d,A.C.P.underlying src=some d:=by
   have:=(hC.eL src _ Y).under;cases hu:QO.ud<;>rw[hu]at this
   ·exact⟨_,this.1.choose_spec.1⟩
   ·exact⟨_,this⟩
   ·exact⟨_,this.choose_spec.1⟩
   ·exact⟨_,this⟩
   ·exact⟨_,this⟩
   exact⟨_,this⟩
  obtain⟨d1,G⟩:=G;exact ar D hd z (jy J) (.p _ _ (.im _)) (by simp[execOp,O,N.bc,convert,run_underlying G,run_underlying I,Conv.intToInt])
 ·rename_i str KR Iv KS QP KT Iw KU QQ U Y Z;have I:=(hC.eL dst _ Z).under;have G:=(hC.eL src _ Y).under;simp only at G I;rw[U]at N;exact ar D hd z J (.p _ _ (.im _)) (by simp[execOp,O,N.bc,convert,run_underlying G,run_underlying I])
 ·rename_i k' n Sn KR Iv KS QP KT Iw KU QQ U Y Z;have I:=(hC.eL dst _ Z).under;have G:=(hC.eL src _ Y).under;simp only at G I;rw[U]at N;exact ar D hd z J (.p _ _ (.im _)) (by simp[execOp,O,N.bc,convert,run_underlying G,run_underlying I,Conv.intToString])
 exact J.elim
theorem wS{o:Oper}(x:Operand)(O:o.op=.nilCheck x):eD A o:=by
 intro V L S rho s a w K next Q hC I hV hd z _ J
 simp only[aZ,O]at z;have D:=aH I x fun j hj=>hV j (by simp[O,Op.operands,hj]);have fin:∀av Y,K av [] none->aE S w A.C.P L rho s.h av (a.eval x)->a.eval x=.pointer (some Y)->o.wp A.C.P a w next Q:=by
  intro av Y z hl he;exact ar I hd J z hl (by simp[execOp,O,he])
 split at z
 ·rename_i cs N;rw[N]at D;obtain⟨b,off,U,G,_⟩:=D.cb.rG;exact fin _ _ z D G
 ·rename_i id off N;rw[N]at D;split at z
  ·rename_i hb;obtain⟨_,g,_,G⟩:=D.dt (by rw[hb];trivial);exact fin _ _ z D G
  ·rename_i hb;obtain⟨_,g,_,G⟩:=D.dt (by rw[hb];trivial);exact fin _ _ z D G
  exact z.elim
 ·rename_i id i off N;rw[N]at D;split at z
  ·rename_i hb;obtain⟨_,g,n,c,tj,_,_,G⟩:=D.rI hb;exact fin _ _ z D G
  ·rename_i hb;obtain⟨_,g,n,c,tj,_,_,G⟩:=D.lZ hb;exact fin _ _ z D G
  exact z.elim
 ·rename_i id N;rw[N]at D;split at z
  ·rename_i c0 ty c hb;obtain⟨hL,G⟩:=D.bu (by rw[hb];trivial);have Z:=I.hp id hL;rw[hb]at Z;obtain⟨g,off,u,h1,_⟩:=Z;exact fin _ _ z D (G.trans h1)
  exact z.elim
 exact z.elim
theorem pg{o:Oper}(t:TypeId)(x:Operand)(I:o.op=.makeInterface t x):eD A o:=by
 intro V L S rho s a w K next Q hC G U O D _ z
 simp only[aZ,I]at D;have J:=aH G x fun j Y=>U j (by simp[I,Op.operands,Y]);split at D
 ·rename_i y Z;rw[Z]at J;split at D
  ·rename_i fs size bytes zero eq hT;obtain⟨gs,N,_⟩:=(hC.eL t _ hT).under;exact ar G O z D (.p _ _ (.ifc t _ _ J.cb)) (by simp[execOp,I,Instr.makeInterface,run_underlying N])
  exact D.elim
 split at D
 ·rename_i hp;obtain⟨e,N⟩:=hC.pts t hp;exact ar G O z D (.ifp t _ _ J) (by simp[execOp,I,Instr.makeInterface,run_underlying N])
 exact D.elim
theorem tf{o:Oper}(x:Operand)(O t:TypeId)(I:o.op=.typeAssert x O t false):eD A o:=by
 intro V L S rho s a w K next Q hC G U Y D _ z
 simp only[aZ,I]at D;have N:=aH G x fun j Z=>U j (by simp[I,Op.operands,Z]);split at D
 ·rename_i t' y hy;rw[hy]at N;split at D
  ·rename_i fs size bytes zero eq J hT;obtain⟨gs,hu,_⟩:=(hC.eL t _ hT).under;obtain⟨u,hv,hr⟩:=N.cb.FJ;have J:=bq J;exact ar G Y z D (.p _ _ hr) (by simp[execOp,I,Instr.typeAssert,run_underlying hu,hv,J])
  exact D.elim
 exact D.elim
theorem wT{o:Oper}(f:FuncId)(first z:Array Operand)(J:o.op=.makeFunc (.func f) first z):eD A o:=by
 intro V L S rho s a w K next Q hC G Y Z I _ D
 simp only[aZ,J]at I;split at I
 ·rename_i hn;have he:first=#[]:=by
   obtain⟨l⟩:=first
   cases l with
   | nil=>rfl
   | cons y l=>simp[isNil]at hn
  subst he;refine ar G Z D I (.fn f _ (z.map a.eval) (by simp) fun i c v O N=>?_) (by simp[execOp,J,Instr.makeFunc]);rw[ao]at O;obtain⟨y,hy,rfl⟩:=az.1 O;have U:z[i]?=some y:=by simpa using hy
  rw[dU,U]at N;simp at N;rw[<-N];exact aH G y fun j hj=>Y j (by simp[J,Op.operands];rw[<-hj];exact cX U)
 exact I.elim
end Go.AM
namespace Go.AM
open Go.RowKit
theorem bJ(h:Nat->AB)(a b:List (Nat×AB)):app h (a++b)=app (app h a) b:=by
 induction a generalizing h with
 | nil=>rfl
 | cons x a ih=>exact ih _
theorem aD{α:Type}(f:Nat->α)(i:Nat)(x:α)(j:Nat):(j=i/\ax f i x j=x)\/(j≠i/\ax f i x j=f j):=by
 by_cases e:j=i
 ·subst e;exact .inl ⟨rfl,ak _ _ _⟩
 exact .inr ⟨e,au _ _ e⟩
variable {e:TypeId}
theorem an.yG{P:Program}{S S':Nat->Prop}{w:World}{es:List (List PV)}{v:Value}(h:an P w (ay S w) e es v)(hS:∀b,S b->S' b)(hb:∀g,bH v=some g->S' g):ay S' w (.sl es) v:=by
 obtain⟨i,xs,h1,h2,N,Y,Z,O⟩:=h;rcases N.2 with⟨rfl,hn⟩ | ⟨g,D,cur,rfl,_,_,G,_⟩
 ·have:es=[]:=gw hn;subst this;exact .nil _ _
 refine .sl es i.size g 0 D (fun a j=>(xs[a*i.size+j]?).getD undef) G (hb g rfl) Y (fun a r j x I J=>?_) fun a r j x I J=>?_
 ·obtain⟨u,z,U⟩:=O a r j x I J;have:=N.cells (g:=g) rfl _ u z;rw[gW]at this;rw[z,br];exact⟨this,Z u (aj z)⟩
 obtain⟨u,z,U⟩:=O a r j x I J;rw[z];exact U.mono hS (fun _ _=>rfl)
variable {id:Nat}
theorem cx{w:World}{h:Nat->AB}{b:AB}{i:Nat}{v:Value}{g:Nat}(D:i≠id)(z:hasB w (ax h id b i) v g):hasB w (h i) v g:=by rw[au _ _ D]at z;exact z
variable {A:jR} {V L:Nat->Prop} {rho:Nat->Value} {s:AS}
theorem aU.tJ{S:Nat->Prop}{a:Act}{w:World}(z:aU A V L S rho s a w)(hC:aL A.C)(id:Nat)(U:L id){es:List (List PV)}(ai:s.h id=.row e es):
  aU A V L (fun b=>S b\/bH (rho id)=some b) rho ⟨s.t,ax s.h id (.f_ es)⟩ a w:=by
 have T:fu S (fun b=>S b\/bH (rho id)=some b) w w L L rho rho s.h (ax s.h id (.f_ es)):=by
  refine⟨fun b h=>.inl h,fun _ _=>rfl,fun j D=>⟨?_,fun hl=>⟨hl,rfl⟩⟩,fun j e' D=>?_⟩
  ·rcases aD s.h id (.f_ es) j with⟨rfl,h⟩ | ⟨_,h⟩
   ·rw[ai];trivial
   rw[h]at D;exact D
  rcases aD s.h id (.f_ es) j with⟨rfl,h⟩ | ⟨_,h⟩
  ·rw[h]at D;cases D
  rw[h]at D;exact D
 have G:∀j,((ax s.h id (.f_ es)) j).live->j≠id/\(s.h j).live:=by
  intro j D;rcases aD s.h id (.f_ es) j with⟨rfl,h⟩ | ⟨I,h⟩
  ·rw[h]at D;exact D.elim
  rw[h]at D;exact⟨I,D⟩
 have Y:(s.h id).live:=by rw[ai];trivial
 exact
 {tm:=fun j D=>(z.tm j D).bA T
  sz:=z.sz,df:=z.df,nb:=z.nb,pn:=z.pn
  ev:=hC.env _ _ _ _ z.ev (fun b h=>.inl h) (fun _ _=>rfl) (aC _)
  s0:=fun b h=>.inl (z.s0 b h)
  st:=fun b h=>h.elim (z.st b) fun h=>(z.mO id b U Y h).1
  sb:=fun b h=>h.elim (z.sb b) fun h=>.inr (z.mO id b U Y h).2.2
  hp:=fun j D=>by
   have Z:=z.hp j D;rcases aD s.h id (.f_ es) j with⟨rfl,h⟩ | ⟨I,h⟩
   ·show cd _ _ _ _ _ _ _ (ax s.h j (.f_ es) j);rw[h];rw[ai]at Z;exact an.yG Z (fun b h=>.inl h) (fun g h=>.inr h)
   show cd _ _ _ _ _ _ _ (ax s.h id (.f_ es) j);rw[h];exact Z.bA T (fun _ _ _=>rfl) (fun _=>rfl)
  dj:=fun i j g J D N lj cK dW=>z.dj i j g J D (G i N).2 (G j lj).2 (cx (G i N).1 cK) (cx (G j lj).1 dW)
  lv:=fun i g J N O=>by
   obtain⟨I,h2⟩:=G i N;have O:=cx I O;obtain⟨h3,h4,h5⟩:=z.lv i g J h2 O;refine⟨h3,fun h=>h.elim h4 fun h=>I (z.dj i id g J U h2 Y O (.inl h)),h5⟩
  fr:=z.fr }
theorem aU.BE{S:Nat->Prop}{a:Act}{w:World}(z:aU A V L S rho s a w)(hC:aL A.C)(id:Nat)(U:L id){mk:MK}{es:List (Value×PV)}(ai:s.h id=.map mk es):
  aU A V L (fun b=>S b\/bH (rho id)=some b) rho ⟨s.t,ax s.h id .none⟩ a w:=by
 have T:fu S (fun b=>S b\/bH (rho id)=some b) w w L L rho rho s.h (ax s.h id .none):=by
  refine⟨fun b h=>.inl h,fun _ _=>rfl,fun j D=>⟨?_,fun hl=>⟨hl,rfl⟩⟩,fun j e' D=>?_⟩
  ·rcases aD s.h id .none j with⟨rfl,h⟩ | ⟨_,h⟩
   ·rw[ai];trivial
   rw[h]at D;exact D
  rcases aD s.h id .none j with⟨rfl,h⟩ | ⟨_,h⟩
  ·rw[h]at D;cases D
  rw[h]at D;exact D
 have G:∀j,((ax s.h id .none) j).live->j≠id/\(s.h j).live:=by
  intro j D;rcases aD s.h id .none j with⟨rfl,h⟩ | ⟨I,h⟩
  ·rw[h]at D;exact D.elim
  rw[h]at D;exact⟨I,D⟩
 have Y:(s.h id).live:=by rw[ai];trivial
 exact
 {tm:=fun j D=>(z.tm j D).bA T
  sz:=z.sz,df:=z.df,nb:=z.nb,pn:=z.pn
  ev:=hC.env _ _ _ _ z.ev (fun b h=>.inl h) (fun _ _=>rfl) (aC _)
  s0:=fun b h=>.inl (z.s0 b h)
  st:=fun b h=>h.elim (z.st b) fun h=>(z.mO id b U Y h).1
  sb:=fun b h=>h.elim (z.sb b) fun h=>.inr (z.mO id b U Y h).2.2
  hp:=fun j D=>by
   have hh:=z.hp j D;rcases aD s.h id .none j with⟨rfl,h⟩ | ⟨I,h⟩
   ·show cd _ _ _ _ _ _ _ (ax s.h j .none j);rw[h];trivial
   show cd _ _ _ _ _ _ _ (ax s.h id .none j);rw[h];exact hh.bA T (fun _ _ _=>rfl) (fun _=>rfl)
  dj:=fun i j g J D N Z cK dW=>z.dj i j g J D (G i N).2 (G j Z).2 (cx (G i N).1 cK) (cx (G j Z).1 dW)
  lv:=fun i g J N O=>by
   obtain⟨I,h2⟩:=G i N;have O:=cx I O;obtain⟨h3,h4,h5⟩:=z.lv i g J h2 O;refine⟨h3,fun h=>h.elim h4 fun h=>I (z.dj i id g J U h2 Y O (.inl h)),h5⟩
  fr:=z.fr }
variable {xs:List PV}
theorem aU.BF{S:Nat->Prop}{a:Act}{w:World}(z:aU A V L S rho s a w)(hC:aL A.C)(id:Nat)(Z:L id){cs:List AV}(ai:s.h id=.box cs)(o8:cE cs=some xs):
  aU A V L (fun b=>S b\/bH (rho id)=some b) rho ⟨s.t,ax s.h id (.jt xs)⟩ a w:=by
 have T:fu S (fun b=>S b\/bH (rho id)=some b) w w L L rho rho s.h (ax s.h id (.jt xs)):=by
  refine⟨fun b h=>.inl h,fun _ _=>rfl,fun j D=>⟨?_,fun hl=>⟨hl,rfl⟩⟩,fun j e' D=>?_⟩
  ·rcases aD s.h id (.jt xs) j with⟨rfl,h⟩ | ⟨_,h⟩
   ·rw[ai];trivial
   rw[h]at D;exact D
  rcases aD s.h id (.jt xs) j with⟨rfl,h⟩ | ⟨_,h⟩
  ·rw[h]at D;cases D
  rw[h]at D;exact D
 have J:∀j,((ax s.h id (.jt xs)) j).live->j≠id/\(s.h j).live:=by
  intro j D;rcases aD s.h id (.jt xs) j with⟨rfl,h⟩ | ⟨N,h⟩
  ·rw[h]at D;exact D.elim
  rw[h]at D;exact⟨N,D⟩
 have aN:(s.h id).live:=by rw[ai];trivial
 exact
 {tm:=fun j D=>(z.tm j D).bA T
  sz:=z.sz,df:=z.df,nb:=z.nb,pn:=z.pn
  ev:=hC.env _ _ _ _ z.ev (fun b h=>.inl h) (fun _ _=>rfl) (aC _)
  s0:=fun b h=>.inl (z.s0 b h)
  st:=fun b h=>h.elim (z.st b) fun h=>(z.mO id b Z aN h).1
  sb:=fun b h=>h.elim (z.sb b) fun h=>.inr (z.mO id b Z aN h).2.2
  hp:=fun j D=>by
   have hh:=z.hp j D;rcases aD s.h id (.jt xs) j with⟨rfl,h⟩ | ⟨N,h⟩
   ·show cd _ _ _ _ _ _ _ (ax s.h j (.jt xs) j);rw[h];rw[ai]at hh;obtain⟨g,ty,c,k1,k2,k3,k4⟩:=hh;show ay _ w (.ip xs) (rho j);rw[k1];obtain⟨hl,BC⟩:=dz o8;have hU:∀(i:Nat) x,xs[i]?=some x->∃u,c[i]?=some u/\u.oneCell'=true/\ay S w x u:=by
     intro i x G;obtain⟨y,hy⟩:∃y,cs[i]?=some y:=⟨_,aM (by rw[hl];exact ah G)⟩;obtain⟨u,hu⟩:=fJ k3.symm (ah hy);obtain⟨I,O⟩:=k4 _ _ _ hy hu;exact⟨u,hu,I,O.qS (BC i y x hy G)⟩
    refine .ip xs g 0 (fun i=>(c[i]?).getD undef) (.inr rfl) (fun i x G=>?_) fun i x G=>?_
    ·obtain⟨u,I,O,h7⟩:=hU i x G;rw[ae,cell_of_row w g i c ty (0,0) k2,I];exact⟨rfl,O⟩
    obtain⟨u,I,O,h7⟩:=hU i x G;rw[I];exact h7.mono (fun b h=>.inl h) (fun _ _=>rfl)
   show cd _ _ _ _ _ _ _ (ax s.h id (.jt xs) j);rw[h];exact hh.bA T (fun _ _ _=>rfl) (fun _=>rfl)
  dj:=fun i j g G D U lj cK dW=>z.dj i j g G D (J i U).2 (J j lj).2 (cx (J i U).1 cK) (cx (J j lj).1 dW)
  lv:=fun i g G U Y=>by
   obtain⟨N,h2⟩:=J i U;have Y:=cx N Y;obtain⟨h3,h4,I⟩:=z.lv i g G h2 Y;refine⟨h3,fun h=>h.elim h4 fun h=>N (z.dj i id g G Z h2 aN Y (.inl h)),I⟩
  fr:=z.fr }
def kM(h h':Nat->AB):Prop:=∀id,h' id=h id\/(∃e es,h id=.row e es/\h' id=.f_ es)\/(∃cs xs,h id=.box cs/\cE cs=some xs/\h' id=.jt xs)
theorem kM.refl(h:Nat->AB):kM h h:=fun _=>.inl rfl
variable {h':Nat->AB}
theorem kM.Dn{h:Nat->AB}(H:kM h h'){es:List (List PV)}(D:h id=.row e es):kM h (ax h' id (.f_ es)):=by
 intro j;rcases aD h' id (.f_ es) j with⟨rfl,z⟩ | ⟨_,z⟩
 ·exact .inr (.inl ⟨e,es,D,z⟩)
 rw[z];exact H j
theorem kM.Dp{h:Nat->AB}(H:kM h h'){cs:List AV}(D:h id=.box cs)(G:cE cs=some xs):kM h (ax h' id (.jt xs)):=by
 intro j;rcases aD h' id (.jt xs) j with⟨rfl,z⟩ | ⟨_,z⟩
 ·exact .inr (.inr ⟨cs,xs,D,G,z⟩)
 rw[z];exact H j
theorem ay.nV{S:Nat->Prop}{w:World}{g off:Nat}{v:Value}(h:ay S w (.ip xs) v)(z:v=.pointer (some ⟨g,0,none⟩)):ay S w (.ip (xs.drop off)) (.pointer (some ⟨g,off,none⟩)):=by
 subst z;obtain⟨b,o,U,z,hb,D,G⟩:=h.rG;injection z with z;injection z with z;injection z with h1 h2;subst h1 h2;refine .ip _ g off (fun j=>U (off+j)) hb (fun j x I=>?_) fun j x I=>?_
 ·rw[cV]at I;have:=D _ x I
  rwa [ae]at this
 rw[cV]at I;exact G _ x I
theorem tK{S:Nat->Prop}{a:Act}{w:World}(hC:aL A.C){h:Nat->AB}(D:aU A V L S rho s a w)(N:kM h s.h){x:AV}{v:Value}(Y:aE S w A.C.P L rho s.h x v){K:PV->List (Nat×AB)->Prop}(G:iC h x K):
  ∃y fz S',K y fz/\aU A V L S' rho ⟨s.t,app s.h fz⟩ a w/\ay S' w y v/\(∀b,S b->S' b)/\kM h (app s.h fz)/\(∀p∈fz,L p.1)/\(∀p∈fz,¬p.2.live):=by
 unfold iC at G;split at G
 ·exact⟨_,[],S,G,D,Y.cb,fun _ h=>h,N,by simp,by simp⟩
 ·cases Y;exact⟨_,[],S,G,D,.nil _ _,fun _ h=>h,N,by simp,by simp⟩
 ·rename_i id;split at G
  ·rename_i e es ai;rcases N id with z | ⟨e',bW,z,U⟩ | ⟨cs,xs,z,_,_⟩
   ·rw[ai]at z;obtain⟨I,O⟩:=Y.bu (by rw[z];trivial);refine⟨_,_,_,G,D.tJ hC id I z,?_,fun b h=>.inl h,N.Dn ai,by simpa using I,by simp[AB.live]⟩;have J:=D.hp id I;rw[z]at J;rw[O];exact an.yG J (fun b h=>.inl h) (fun g h=>.inr h)
   ·rw[ai]at z;injection z with e1 e2;subst e1 e2;obtain⟨I,O⟩:=Y.bu (by rw[U];trivial);have J:=D.hp id I;rw[U]at J;refine⟨_,_,S,G,?_,by rw[O];exact J,fun _ h=>h,N.Dn ai,by simpa using I,by simp[AB.live]⟩;show aU A V L S rho ⟨s.t,ax s.h id (.f_ es)⟩ a w;rw[eX _ _ _ U];exact D
   rw[ai]at z;cases z
  ·rename_i es BD;rcases N id with z | ⟨e',bW,z,U⟩ | ⟨cs,xs,z,_,_⟩
   ·rw[BD]at z;obtain⟨I,O⟩:=Y.bu (by rw[z];trivial);have J:=D.hp id I;rw[z]at J;exact⟨_,[],S,G,D,by rw[O];exact J,fun _ h=>h,N,by simp,by simp⟩
   ·rw[BD]at z;cases z
   rw[BD]at z;cases z
  exact G.elim
 ·rename_i id off;split at G
  ·rename_i cs aA;split at G
   ·rename_i xs o8;rcases N id with z | ⟨e',bW,z,U⟩ | ⟨dB,kS,z,FU,U⟩
    ·rw[aA]at z;obtain⟨I,g,Z,O⟩:=Y.dt (by rw[z];trivial);have aQ:=D.BF hC id I z o8;refine⟨_,_,_,G,aQ,?_,fun b h=>.inl h,N.Dp aA o8,by simpa using I,by simp[AB.live]⟩;have J:=aQ.hp id I;have wK:cd _ w A.C.P L rho _ id (ax s.h id (.jt xs) id):=J;rw[ak]at wK;have Dq:ay _ w (.ip xs) (rho id):=wK;rw[O];exact Dq.nV Z
    ·rw[aA]at z;cases z
    rw[aA]at z;injection z with z;subst z;rw[o8]at FU;injection FU with FU;subst FU;obtain⟨I,g,Z,O⟩:=Y.dt (by rw[U];trivial);have J:=D.hp id I;rw[U]at J;have Dq:ay _ w (.ip xs) (rho id):=J;refine⟨_,_,S,G,?_,by rw[O];exact Dq.nV Z,fun _ h=>h,N.Dp aA o8,by simpa using I,by simp[AB.live]⟩;show aU A V L S rho ⟨s.t,ax s.h id (.jt xs)⟩ a w;rw[eX _ _ _ U];exact D
   exact G.elim
  ·rename_i xs Ix;rcases N id with z | ⟨e',bW,z,U⟩ | ⟨cs,kS,z,_,_⟩
   ·rw[Ix]at z;obtain⟨I,g,Z,O⟩:=Y.dt (by rw[z];trivial);have J:=D.hp id I;rw[z]at J;have Dq:ay _ w (.ip xs) (rho id):=J;exact⟨_,[],S,G,D,by rw[O];exact Dq.nV Z,fun _ h=>h,N,by simp,by simp⟩
   ·rw[Ix]at z;cases z
   rw[Ix]at z;cases z
  exact G.elim
 exact G.elim
theorem BG{b:AB}(h:b.fD=some e):b.live:=by cases b<;>first | trivial | cases h
theorem BH{fz:List (Nat×AB)}(z:∀p∈fz,¬p.2.live):∀{h:Nat->AB} {id:Nat},(app h fz id).live->app h fz id=h id:=by
 induction fz with
 | nil=>intro h id _;rfl
 | cons p fz ih=>
  intro h id hl;obtain⟨i,b⟩:=p;have e:=ih (fun p hp=>z p (by simp[hp])) (h:=ax h i b) (id:=id) hl;have D:app h ((i,b)::fz) id=ax h i b id:=e;by_cases G:id=i
  ·subst G;rw[D,ak]at hl;exact absurd hl (z (id,b) (by simp))
  rw[D,au _ _ G]
theorem kM.there{h:Nat->AB}(H:kM h h')(id:Nat):(h' id).there↔(h id).there:=by
 rcases H id with z | ⟨e,es,z,D⟩ | ⟨cs,xs,z,_,D⟩
 ·rw[z]
 ·rw[z,D];exact jU
 rw[z,D];exact jU
theorem aE.KV{S S':Nat->Prop}{w:World}{P:Program}{h h':Nat->AB}{fz:List (Nat×AB)}(hS:∀b,S b->S' b)(H:kM h h')(D:kM h (app h' fz))(G:∀p∈fz,¬p.2.live){x:AV}{v:Value}(I:aE S w P L rho h' x v):aE S' w P L rho (app h' fz) x v:=
 I.bA ⟨hS,fun _ _=>rfl,fun id J=>⟨(H.there id).2 ((D.there id).1 J),fun hl=>⟨hl,rfl⟩⟩,fun id e z=>by rw[<-BH (h:=h') (id:=id) G (BG z)];exact z⟩
theorem tL{t:Nat->AV}{a:Act}{w:World}(hC:aL A.C){h:Nat->AB}:∀(z:List AV) (vs:List Value) (S:Nat->Prop) (h':Nat->AB) {K:List PV->List (Nat×AB)->Prop},z.length=vs.length->aU A V L S rho ⟨t,h'⟩ a w->kM h h' ->
  (∀(i:Nat) c v,z[i]?=some c->vs[i]?=some v->aE S w A.C.P L rho h' c v)->pZ h z K ->
  ∃xs fz S',K xs fz/\aU A V L S' rho ⟨t,app h' fz⟩ a w/\(∀(i:Nat) x v,xs[i]?=some x->vs[i]?=some v->ay S' w x v)/\(∀b,S b->S' b)/\kM h (app h' fz)/\(∀p∈fz,L p.1)/\xs.length=vs.length:=by
 intro z
 induction z with
 | nil=>
  intro vs S h' K hl G O _ I;have:vs=[]:=gw hl.symm;subst this;exact⟨[],[],S,I,G,by simp,fun _ h=>h,O,by simp,rfl⟩
 | cons c z ih=>
  intro vs S h' K hl G O D I;cases vs with
  | nil=>simp at hl
  | cons v vs=>
   obtain⟨y,fz,S2,I,aJ,hp,U,Y,wU,QR⟩:=tK (s:=⟨t,h'⟩) hC G O (D 0 c v rfl rfl) I;obtain⟨xs,jr,S',k1,k2,k3,Z,k5,k6,k7⟩:=ih vs S2 (app h' fz) (by simpa using hl) aJ Y (fun i x u J N=>(D (i+1) x u (by simpa using J) (by simpa using N)).KV U O Y QR) I;refine⟨y::xs,fz++jr,S',k1,by rw[bJ];exact k2,fun i x u J N=>?_,fun b hb=>Z b (U b hb),by rw[bJ];exact k5,fun p hp=>(cD.1 hp).elim (wU p) (k6 p),by simp[k7]⟩;cases i with
   | zero=>simp at J N;subst J N;exact hp.mono Z (fun _ _=>rfl)
   | succ i=>exact k3 i x u (by simpa using J) (by simpa using N)
theorem e8{S:Nat->Prop}{a:Act}{w:World}(hC:aL A.C){h:Nat->AB}(z:aU A V L S rho s a w)(N:kM h s.h){x:AV}{v:Value}(O:aE S w A.C.P L rho s.h x v){K:PV->List (Nat×AB)->Prop}(I:g_ h x K):
  ∃y fz S',K y fz/\aU A V L S' rho ⟨s.t,app s.h fz⟩ a w/\ay S' w y v/\(∀b,S b->S' b)/\kM h (app s.h fz)/\(∀p∈fz,L p.1):=by
 unfold g_ at I;split at I
 ·rename_i f J;cases O with
  | fn _ _ vs hl hc=>
   obtain⟨xs,fz,S',U,Y,Z,k4,k5,k6,k7⟩:=tL (t:=s.t) hC J vs.toList S s.h (by simpa using hl) z N (fun i c v D G=>hc i c v D (by simpa using G)) I;exact⟨_,fz,S',U,Y,.fn f xs vs (by simpa using k7) (fun i c v D G=>Z i c v D (by simpa using G)),k4,k5,k6⟩
 obtain⟨y,fz,S',D,G,h3,h4,h5,h6,_⟩:=tK hC z N O I;exact⟨y,fz,S',D,G,h3,h4,h5,h6⟩
theorem fo{d:Nat}:∀{fz:List (Nat×AB)} {h:Nat->AB},(∀p∈fz,p.1≠d)->app h fz d=h d:=by
 intro fz
 induction fz with
 | nil=>intro h _;rfl
 | cons x fz ih=>
  intro h z;show app (ax h x.1 x.2) fz d=h d;rw[ih (fun p hp=>z p (by simp[hp])),au _ _ (fun e=>z x (by simp) e.symm)]
theorem aU.kill{S:Nat->Prop}{a:Act}{w:World}(z:aU A V L S rho s a w)(id:Nat):aU A V L S rho ⟨s.t,ax s.h id .none⟩ a w:=by
 have T:fu S S w w L L rho rho s.h (ax s.h id .none):=by
  refine⟨fun b h=>h,fun _ _=>rfl,fun j D=>⟨?_,fun hl=>⟨hl,rfl⟩⟩,fun j e' D=>?_⟩
  ·rcases aD s.h id .none j with⟨rfl,h⟩ | ⟨_,h⟩
   ·rw[h]at D;exact D.elim
   rw[h]at D;exact D
  rcases aD s.h id .none j with⟨rfl,h⟩ | ⟨_,h⟩
  ·rw[h]at D;cases D
  rw[h]at D;exact D
 have G:∀j,((ax s.h id .none) j).live->j≠id/\(s.h j).live:=by
  intro j D;rcases aD s.h id .none j with⟨rfl,h⟩ | ⟨N,h⟩
  ·rw[h]at D;exact D.elim
  rw[h]at D;exact⟨N,D⟩
 exact
 {tm:=fun j D=>(z.tm j D).bA T
  sz:=z.sz,df:=z.df,nb:=z.nb,pn:=z.pn,ev:=z.ev,s0:=z.s0,st:=z.st,sb:=z.sb
  hp:=fun j D=>by
   have U:=z.hp j D;rcases aD s.h id .none j with⟨rfl,h⟩ | ⟨N,h⟩
   ·show cd _ _ _ _ _ _ _ (ax s.h j .none j);rw[h];trivial
   show cd _ _ _ _ _ _ _ (ax s.h id .none j);rw[h];exact U.bA T (fun _ _ _=>rfl) (fun _=>rfl)
  dj:=fun i j g J D I O Y Z=>z.dj i j g J D (G i I).2 (G j O).2 (cx (G i I).1 Y) (cx (G j O).1 Z)
  lv:=fun i g J I hg=>z.lv i g J (G i I).2 (cx (G i I).1 hg)
  fr:=z.fr }
theorem aU.jA{S:Nat->Prop}{a:Act}{w:World}(z:aU A V L S rho s a w)(hC:aL A.C)(d:Nat)(b:AB)(hdb:d<100000)(hL:¬L d)(hb:s.h d=b)(w':World)(ho:w'.os=w.os)(ht:w'.tape=w.tape)(hu:w'.output=w.output)
  (O:w.heap.size<=w'.heap.size) (R:Nat->Prop) (D:∀k,k<w.heap.size->¬R k->w'.heap[k]?=w.heap[k]?) (U:∀k,R k->¬S k/\(∀i,L i->(s.h i).live->¬hasB w (s.h i) (rho i) k)/\(A.mv k\/A.w0.heap.size<=k))
  (hv:Value) (I:∀g,hasB w' b hv g->g<w'.heap.size/\(w.heap.size<=g\/R g))
  (hrep:fu S S w w' L (fun i=>L i\/i=d) rho (ax rho d hv) s.h s.h->cd S w' A.C.P (fun i=>L i\/i=d) (ax rho d hv) s.h d b):
  aU A V (fun i=>L i\/i=d) S (ax rho d hv) s a w':=by
 have eE:∀b,S b->w'.heap[b]?=w.heap[b]?:=fun k J=>D k (z.st k J) fun Y=>(U k Y).1 J;have bO:∀i,L i->i≠d:=fun i hi e=>hL (e▸hi);have T:fu S S w w' L (fun i=>L i\/i=d) rho (ax rho d hv) s.h s.h:=
  ⟨fun b h=>h,eE,fun j N=>⟨N,fun hl=>⟨.inl hl,au _ _ (bO j hl)⟩⟩,fun j e' N=>N⟩
 exact
 {tm:=fun j N=>(z.tm j N).bA T
  sz:=z.sz,df:=z.df,nb:=z.nb,pn:=fun id h=>by rw[au _ _ (by omega)];exact z.pn id h
  ev:=hC.env _ _ _ _ z.ev (fun b h=>h) eE O
  s0:=z.s0
  st:=fun b hb=>bg (z.st b hb) O
  sb:=z.sb
  hp:=fun j N=>by
   by_cases e:j=d
   ·subst e;rw[hb];exact hrep T
   have hl:L j:=N.resolve_right e;refine (z.hp j hl).bA T (fun G g hg=>?_) (fun _=>au _ _ e);exact D g (z.lv j g hl G hg).1 fun Y=>(U g Y).2.1 j hl G hg
  dj:=fun i j g hi N G lj cK Z=>by
   have back:∀i g,L i->(s.h i).live->hasB w' (s.h i) (rho i) g->hasB w (s.h i) (rho i) g:=fun i g hl G h=>b_ (fun k J=>D k (z.lv i k hl G J).1 fun Y=>(U k Y).2.1 i hl G J) h;by_cases e1:i=d
   ·by_cases e2:j=d
    ·rw[e1,e2]
    have hl:L j:=N.resolve_right e2;rw[au _ _ e2]at Z;have Z:=back j g hl lj Z;rw[e1,ak,hb]at cK;rcases (I g cK).2 with h | h
    ·exact absurd (z.lv j g hl lj Z).1 (by omega)
    exact absurd Z ((U g h).2.1 j hl lj)
   have hl:L i:=hi.resolve_right e1;rw[au _ _ e1]at cK;have cK:=back i g hl G cK;by_cases e2:j=d
   ·rw[e2,ak,hb]at Z;rcases (I g Z).2 with h | h
    ·exact absurd (z.lv i g hl G cK).1 (by omega)
    exact absurd cK ((U g h).2.1 i hl G)
   have yE:L j:=N.resolve_right e2;rw[au _ _ e2]at Z;exact z.dj i j g hl yE G lj cK (back j g yE lj Z)
  lv:=fun i g hi G hg=>by
   by_cases e:i=d
   ·rw[e,ak,hb]at hg;obtain⟨h1,h2⟩:=I g hg;refine⟨h1,?_⟩;rcases h2 with h | h
    ·exact⟨fun hs=>absurd (z.st g hs) (by omega),.inr (bM z.fr.size h)⟩
    exact⟨(U g h).1,(U g h).2.2⟩
   have hl:L i:=hi.resolve_right e;rw[au _ _ e]at hg;obtain⟨h1,h2,h3⟩:=z.lv i g hl G (b_ (fun k J=>D k (z.lv i k hl G J).1 fun Y=>(U k Y).2.1 i hl G J) hg);exact⟨bg h1 O,h2,h3⟩
  fr:=z.fr.next ho ht hu O fun k J hn=>D k (bg J z.fr.size) fun Y=>by
   rcases (U k Y).2.2 with h | h
   ·exact hn h
   omega }
theorem aU.new{S:Nat->Prop}{a:Act}{w:World}(J:aU A V L S rho s a w)(hC:aL A.C)(d:Nat)(b:AB)(N:d<100000)(Y:¬L d)(hb:s.h d=b)(w':World)(Z:w'.os=w.os)(ht:w'.tape=w.tape)(hu:w'.output=w.output)
  (O:w.heap.size<=w'.heap.size) (R:Nat->Prop) (z:∀k,k<w.heap.size->¬R k->w'.heap[k]?=w.heap[k]?) (hR:∀k,R k->¬S k/\(∀i,L i->(s.h i).live->¬hasB w (s.h i) (rho i) k)/\(A.mv k\/A.w0.heap.size<=k))
  (D:Value) (G:∀g,bH D=some g->g<w'.heap.size/\(w.heap.size<=g\/R g))
  (I:fu S S w w' L (fun i=>L i\/i=d) rho (ax rho d D) s.h s.h->cd S w' A.C.P (fun i=>L i\/i=d) (ax rho d D) s.h d b)
  (U:Ij b=true:=by rfl):
  aU A V (fun i=>L i\/i=d) S (ax rho d D) s a w':=
 J.jA hC d b N Y hb w' Z ht hu O R z hR D (fun g h=>G g (al U h)) I
theorem aU.KW{S:Nat->Prop}{a:Act}{w:World}(z:aU A V L S rho s a w)(hC:aL A.C)(w':World)(D:Fr (fun _=>False) w w')(S':Nat->Prop)(O:∀b,S b->S' b)(h2:∀b,S' b->b<w'.heap.size)(Y:∀b,S' b->S b\/w.heap.size<=b):aU A V L S' rho s a w':=by
 have Z:∀b,S b->w'.heap[b]?=w.heap[b]?:=fun k I=>D.block k (z.st k I) (fun h=>h);have T:fu S S' w w' L L rho rho s.h s.h:=⟨O,Z,fun j G=>⟨G,fun hl=>⟨hl,rfl⟩⟩,fun j e' G=>G⟩;exact
 {tm:=fun j G=>(z.tm j G).bA T
  sz:=z.sz,df:=z.df,nb:=z.nb,pn:=z.pn
  ev:=hC.env _ _ _ _ z.ev O Z D.size
  s0:=fun b hb=>O b (z.s0 b hb)
  st:=h2
  sb:=fun b hb=>by
   rcases Y b hb with h | h
   ·exact z.sb b h
   exact .inr (.inr (bM z.fr.size h))
  hp:=fun j G=>(z.hp j G).bA T (fun J g U=>D.block g (z.lv j g G J U).1 (fun h=>h)) (fun _=>rfl)
  dj:=fun i j g N G J lj cK dW=>z.dj i j g N G J lj (b_ (fun k I=>D.block k (z.lv i k N J I).1 (fun h=>h)) cK) (b_ (fun k I=>D.block k (z.lv j k G lj I).1 (fun h=>h)) dW)
  lv:=fun i g N J U=>by
   obtain⟨a1,a2,a3⟩:=z.lv i g N J (b_ (fun k I=>D.block k (z.lv i k N J I).1 (fun h=>h)) U);refine⟨bg a1 D.size,fun h=>?_,a3⟩;rcases Y g h with h | h
   ·exact a2 h
   omega
  fr:=z.fr.next D.os D.tape D.output D.size fun k I _=>D.block k (bg I z.fr.size) (fun h=>h) }
theorem aU.Iy{S:Nat->Prop}{a:Act}{w:World}(z:aU A V L S rho s a w)(d:Nat)(es:List (List PV))(hdb:d<100000)(hL:¬L d)(hb:s.h d=.f_ es)(O:Value)
  (J:ay S w (.sl es) O):aU A V (fun i=>L i\/i=d) S (ax rho d O) s a w:=by
 have bO:∀i,L i->i≠d:=fun i I e=>hL (e▸I);have T:fu S S w w L (fun i=>L i\/i=d) rho (ax rho d O) s.h s.h:=
  ⟨fun b h=>h,fun _ _=>rfl,fun j D=>⟨D,fun hl=>⟨.inl hl,au _ _ (bO j hl)⟩⟩,fun j e' D=>D⟩
 have out:∀i,(L i\/i=d)->(s.h i).live->L i/\i≠d:=fun i I G=>by
  by_cases e:i=d
  ·rw[e,hb]at G;exact G.elim
  exact⟨I.resolve_right e,e⟩
 exact
 {tm:=fun j D=>(z.tm j D).bA T
  sz:=z.sz,df:=z.df,nb:=z.nb,pn:=fun id h=>by rw[au _ _ (by omega)];exact z.pn id h
  ev:=z.ev
  s0:=z.s0
  st:=z.st
  sb:=z.sb
  hp:=fun j D=>by
   by_cases e:j=d
   ·subst e;rw[hb];show ay S w (.sl es) (ax rho j O j);rw[ak];exact J
   have hl:L j:=D.resolve_right e;exact (z.hp j hl).bA T (fun G g hg=>rfl) (fun _=>au _ _ e)
  dj:=fun i j g I D G Z N dW=>by
   obtain⟨U,Y⟩:=out i I G;obtain⟨l2,e2⟩:=out j D Z;rw[au _ _ Y]at N;rw[au _ _ e2]at dW;exact z.dj i j g U l2 G Z N dW
  lv:=fun i g I G N=>by
   obtain⟨U,Y⟩:=out i I G;rw[au _ _ Y]at N;exact z.lv i g U G N
  fr:=z.fr }
theorem aU.vf{S:Nat->Prop}{a:Act}{w:World}(z:aU A V L S rho s a w)(hC:aL A.C)(id:Nat)(Y:L id)(J:(s.h id).live)(b':AB)(dM:∀e,b'.fD=some e->(s.h id).fD=some e)
  (w':World) (ho:w'.os=w.os) (ht:w'.tape=w.tape) (hu:w'.output=w.output) (I:w'.heap.size=w.heap.size) (G:∀k,bH (rho id)≠some k->w'.heap[k]?=w.heap[k]?)
  (O:fu S S w w' L L rho rho s.h (ax s.h id b')->cd S w' A.C.P L rho (ax s.h id b') id b') (hown:∀g,hasB w' b' (rho id) g->hasB w (s.h id) (rho id) g):aU A V L S rho ⟨s.t,ax s.h id b'⟩ a w':=by
 have eE:∀b,S b->w'.heap[b]?=w.heap[b]?:=fun k Z=>G k fun e=>(z.mO id k Y J e).2.1 Z;have nh:(s.h id).there:=by cases hh:s.h id<;>rw[hh]at J<;>first | trivial | exact J.elim
 have T:fu S S w w' L L rho rho s.h (ax s.h id b'):=by
  refine⟨fun b h=>h,eE,fun j D=>⟨?_,fun hl=>⟨hl,rfl⟩⟩,fun j e' D=>?_⟩
  ·rcases aD s.h id b' j with⟨rfl,h⟩ | ⟨_,h⟩
   ·exact nh
   rw[h]at D;exact D
  rcases aD s.h id b' j with⟨rfl,h⟩ | ⟨_,h⟩
  ·rw[h]at D;exact dM e' D
  rw[h]at D;exact D
 have cM:∀j,((ax s.h id b') j).live->(s.h j).live:=by
  intro j D;rcases aD s.h id b' j with⟨rfl,h⟩ | ⟨h1,h⟩
  ·exact J
  rw[h]at D;exact D
 have back:∀j g,L j->((ax s.h id b') j).live->hasB w' (ax s.h id b' j) (rho j) g->hasB w (s.h j) (rho j) g:=by
  intro j g hl D u_;rcases aD s.h id b' j with⟨rfl,h⟩ | ⟨h1,h⟩
  ·rw[h]at u_;exact hown g u_
  rw[h]at u_ D;exact b_ (fun k Z=>G k fun e=>h1 (z.dj j id k hl Y D J Z (.inl e))) u_
 exact
 {tm:=fun j D=>(z.tm j D).bA T
  sz:=z.sz,df:=z.df,nb:=z.nb,pn:=z.pn
  ev:=hC.env _ _ _ _ z.ev (fun b h=>h) eE (Nat.le_of_eq I.symm)
  s0:=z.s0
  st:=fun b hb=>by rw[I];exact z.st b hb
  sb:=z.sb
  hp:=fun j D=>by
   rcases aD s.h id b' j with⟨rfl,h⟩ | ⟨h1,h⟩
   ·show cd _ _ _ _ _ _ _ (ax s.h j b' j);rw[h];exact O T
   show cd _ _ _ _ _ _ _ (ax s.h id b' j);rw[h];refine (z.hp j D).bA T (fun N g hg=>G g fun e=>?_) (fun _=>rfl);exact h1 (z.dj j id g D Y N J hg (.inl e))
  dj:=fun i j g U D N lj cK dW=>z.dj i j g U D (cM i N) (cM j lj) (back i g U N cK) (back j g D lj dW)
  lv:=fun i g U N hg=>by rw[I];exact z.lv i g U (cM i N) (back i g U N hg)
  fr:=z.fr.next ho ht hu (Nat.le_of_eq I.symm) fun k Z hn=>G k fun e=>by
   rcases (z.mO id k Y J e).2.2 with h | h
   ·exact hn h
   omega }
theorem aU.write{S:Nat->Prop}{a:Act}{w:World}(G:aU A V L S rho s a w)(hC:aL A.C)(id:Nat)(N:L id)(O:(s.h id).live)(b':AB)(U:∀e,b'.fD=some e->(s.h id).fD=some e)
  (w':World) (Y:w'.os=w.os) (Z:w'.tape=w.tape) (hu:w'.output=w.output) (I:w'.heap.size=w.heap.size) (z:∀k,bH (rho id)≠some k->w'.heap[k]?=w.heap[k]?)
  (D:fu S S w w' L L rho rho s.h (ax s.h id b')->cd S w' A.C.P L rho (ax s.h id b') id b') (J:Ij b'=true:=by rfl):aU A V L S rho ⟨s.t,ax s.h id b'⟩ a w':=
 G.vf hC id N O b' U w' Y Z hu I z D fun _ h=>.inl (al J h)
theorem aU.gT{S:Nat->Prop}{a:Act}{w:World}(z:aU A V L S rho s a w){dst:Option Tmp}(D:∀d,dst=some d->d<A.n):dst.getD 0<100000:=by
 cases dst with
 | none=>exact Nat.zero_lt_succ _
 | some d=>exact bg (D d rfl) z.nb
theorem To{S:Nat->Prop}{a:Act}{w:World}(I:aU A V L S rho s a w){x:AV}{v:Value}(h:kL s.h x=true)(G:aE S w A.C.P L rho s.h x v):v.oneCell'=true:=by
 unfold kL at h;split at h
 ·rw[G.bc];exact h
 ·cases h
 ·rename_i y Z h2;have hy:=G.cb;cases hy with
  | im=>exact absurd rfl (Z _)
  | ag cs vs=>exact absurd rfl (h2 cs)
  | nil=>rfl
  | sl=>rfl
  | ip=>rfl
  | fn=>rfl
  | mp=>rfl
  | ifc=>rfl
 ·cases G;rfl
 ·rename_i id;split at h
  ·rename_i e es ai;obtain⟨N,z⟩:=G.bu (by rw[ai];trivial);have D:=I.hp id N;rw[ai]at D;obtain⟨i,xs,_,_,O,_⟩:=D;rw[z];rcases O.2 with⟨J,_⟩ | ⟨g,U,Y,J,_⟩<;>rw[J]<;>rfl
  ·rename_i e es ai;obtain⟨N,z⟩:=G.bu (by rw[ai];trivial);have D:=I.hp id N;rw[ai]at D;obtain⟨⟨i,xs,_,_,O,_⟩,_⟩:=D;rw[z];rcases O.2 with⟨J,_⟩ | ⟨g,U,Y,J,_⟩<;>rw[J]<;>rfl
  ·rename_i es ai;obtain⟨N,z⟩:=G.bu (by rw[ai];trivial);have D:=I.hp id N;rw[ai]at D;obtain⟨ad,c,J,_⟩:=ay.WN D;rw[z,J];rfl
  ·rename_i mk es ai;obtain⟨N,z⟩:=G.bu (by rw[ai];trivial);have D:=I.hp id N;rw[ai]at D;obtain⟨g,ms,clock,J,_⟩:=D;rw[z,J];rfl
  cases h
 ·rename_i id off;split at h
  ·cases h
  rename_i bO;have ht:(s.h id).there:=by
   cases D:s.h id<;>first | trivial | exact absurd D (by simpa using bO)
  obtain⟨_,g,_,z⟩:=G.dt ht;rw[z];rfl
 ·rename_i id i off;split at h
  ·rename_i e es ai;obtain⟨_,g,n,c,tj,_,_,z⟩:=G.rI ai;rw[z];rfl
  ·rename_i e es ai;obtain⟨_,g,n,c,tj,_,_,z⟩:=G.lZ ai;rw[z];rfl
  cases h
 ·rename_i id lo hi;split at h
  ·rename_i e es ai;obtain⟨_,n,c,a,ti,_,_,_,_,_,z⟩:=G.rJ ai;rw[z];rfl
  cases h
 ·cases G;rfl
 cases h
theorem cells_one{v:Value}(h:v.oneCell'=true):v.cells=#[v]:=by cases v<;>first | rfl | cases h
theorem Wr{a:AV}{xs:List AV}(h:Wu a=some xs):a=.st xs:=by
 unfold Wu at h;split at h
 ·injection h with h;rw[h]
 cases h
theorem Wq{S:Nat->Prop}{a:Act}{w:World}(N:aU A V L S rho s a w){x:AV}{v:Value}{n:Nat}{xs:List AV}(h:Wp s.h n x=some xs)(I:aE S w A.C.P L rho s.h x v):v.cells.size=n/\xs.length=n/\(∀u∈v.cells.toList,u.oneCell'=true)/\∀(j:Nat) z u,xs[j]?=some z->v.cells[j]?=some u->aE S w A.C.P L rho s.h z u:=by
 unfold Wp at h;split at h
 ·rename_i ys hs;split at h
  ·rename_i D;injection h with h;subst h;rw[Wr hs]at I;obtain⟨vs,Y,h1,J,Z⟩:=I.Ir;have D:=dC D;have iQ:v.cells=vs:=by rw[Y];rfl
   rw[iQ];exact⟨by omega,D,J,Z⟩
  cases h
 split at h
 ·rename_i D;injection h with h;subst h;simp only[fH]at D;have U:=dC D.1;have J:=To N D.2 I;rw[cells_one J];refine⟨U.symm,U.symm,fun u G=>?_,fun j z u O G=>?_⟩
  ·simp at G;subst G;exact J
  cases j with
  | zero=>simp at O G;subst O G;exact I
  | succ j=>simp at O
 cases h
theorem qc{S:Nat->Prop}{w:World}{x:PV}{ys:List PV}{v:Value}(h:mZ x=some ys)(D:ay S w x v):v.cells.size=ys.length/\(∀u∈v.cells.toList,u.oneCell'=true)/\∀(j:Nat) y u,ys[j]?=some y->v.cells[j]?=some u->ay S w y u:=by
 have one:∀{v:Value},v.oneCell'=true->ay S w x v->ys=[x]->v.cells.size=ys.length/\(∀u∈v.cells.toList,u.oneCell'=true)/\∀(j:Nat) y u,ys[j]?=some y->v.cells[j]?=some u->ay S w y u:=by
  intro v z D N;subst N;rw[cells_one z];refine⟨rfl,by simpa using z,fun j y u G J=>?_⟩;cases j with
  | zero=>simp at G J;subst G J;exact D
  | succ j=>simp at G
 unfold mZ at h;split at h
 ·injection h with h;subst h;obtain⟨vs,rfl,z,I,O⟩:=D.kW;exact⟨z.symm,I,O⟩
 ·split at h
  ·rename_i z;injection h with h;exact one (by rw[D.bc];exact z) D h.symm
  cases h
 rename_i z I;injection h with h;refine one ?_ D h.symm;cases D with
 | im=>exact absurd rfl (I _)
 | ag cs=>exact absurd rfl (z cs)
 | nil=>rfl
 | sl=>rfl
 | ip=>rfl
 | fn=>rfl
 | mp=>rfl
 | ifc=>rfl
theorem Iz{o:Oper}(e:TypeId)(x:Operand)(aq:o.op=.box e x):eD A o:=by
 intro V L S rho s a w K next Q hC N hV hd J hn O
 simp only[aZ,aq]at J;have Y:=aH N x fun j D=>hV j (by simp[aq,Op.operands,D]);have hr:(execOp a.eval o).run A.C.P w=.ok (.value (.pointer (some ⟨w.heap.size,0,none⟩))) (w.alloc (.cells (a.eval x).cells e)):=by
  simp[execOp,aq,Instr.box,newVar,newRow,newObj,Sem.run]
 have I:∀cs:List AV,K (.bx (o.dst.getD 0) 0) [] (some (.box cs))->(a.eval x).cells.size=cs.length->(∀(j:Nat) y u,cs[j]?=some y->(a.eval x).cells[j]?=some u->u.oneCell'=true/\aE S w A.C.P L rho s.h y u)->o.wp A.C.P a w next Q:=by
  intro cs J hl hc;obtain⟨hL,hb⟩:=hn _ _ _ J;have aQ:=N.new hC (o.dst.getD 0) (.box cs) (N.gT hd) hL hb (w.alloc (.cells (a.eval x).cells e)) rfl rfl rfl (by simp) (fun _=>False) (fun k hk _=>aP _ _ _ hk) (fun _ h=>h.elim) (.pointer (some ⟨w.heap.size,0,none⟩))
   (fun g hg=>by simp[bH]at hg;subst hg;simp) (fun T=>⟨w.heap.size,e,(a.eval x).cells,ak _ _ _,heap_alloc_new w _,hl,fun j y u D G=>⟨(hc j y u D G).1,(hc j y u D G).2.bA T⟩⟩)
  refine bS hr (O _ _ _ _ _ _ _ J (aQ.value o.dst hd _ _ (.bx _ _ _ fun _=>⟨.inr rfl,w.heap.size,ak _ _ _,rfl⟩)))
 split at J
 ·rename_i cs WI;rw[WI]at Y;obtain⟨vs,Z,h1,U,h3⟩:=Y.cb.kW;refine I _ J (by rw[Z];simp[Value.cells,h1]) fun j y u D G=>?_;rw[Z]at G;rw[ao]at D;obtain⟨z,hz,rfl⟩:=az.1 D;have ni:vs[j]?=some u:=G;exact⟨U u (by simpa using cX ni),.p _ _ (h3 j z u hz ni)⟩
 ·rename_i xs WI;rw[WI]at Y;obtain⟨vs,Z,h1,U,h3⟩:=Y.Ir;refine I _ J (by rw[Z];simp[Value.cells,h1]) fun j y u D G=>?_;rw[Z]at G;have ni:vs[j]?=some u:=G;exact⟨U u (by simpa using cX ni),h3 j y u D ni⟩
 split at J
 ·rename_i h1;have U:=To N h1 Y;refine I _ J (by rw[cells_one U];rfl) fun j y u D G=>?_;rw[cells_one U]at G;cases j with
  | zero=>simp at D G;subst D G;exact⟨U,Y⟩
  | succ j=>simp at D
 exact J.elim
theorem Dr{o:Oper}(e:TypeId)(aq:o.op=.alloc e):eD A o:=by
 intro V L S rho s a w K next Q hC G hV Z J hn D
 simp only[aZ,aq]at J;split at J
 ·rename_i ti hT;obtain⟨info,z,hi,h1,h2,hz,dN,ga⟩:=(hC.eL e ti hT).info;have hr:(execOp a.eval o).run A.C.P w=.ok (.value (.pointer (some ⟨w.heap.size,0,none⟩))) (w.alloc (.cells z.cells e)):=by
   simp[execOp,aq,Instr.alloc,zeroValue,typeInfo,hi,hz,newVar,newRow,newObj,Sem.run]
  split at J
  ·obtain⟨hL,hb⟩:=hn _ _ _ J;have aQ:=G.new hC (o.dst.getD 0) _ (G.gT Z) hL hb (w.alloc (.cells z.cells e)) rfl rfl rfl (by simp) (fun _=>False) (fun k hk _=>aP _ _ _ hk) (fun _ h=>h.elim) (.pointer (some ⟨w.heap.size,0,none⟩))
    (fun g N=>by simp[bH]at N;subst N;simp) (fun T=>⟨w.heap.size,e,z.cells,ak _ _ _,heap_alloc_new w _,by rw[dN];simp,fun j y u O U=>by
     rw[dN]at U;rw[ao]at O;obtain⟨v,Y,rfl⟩:=az.1 O;have I:ti.zero[j]?=some u:=by simpa using U
     rw[Y]at I;injection I with I;subst I;exact⟨ga v (aj Y),rF _ _ _ _ _ _ v⟩⟩)
   refine bS hr (D _ _ _ _ _ _ _ J (aQ.value o.dst Z _ _ (.bx _ _ _ fun _=>⟨.inr rfl,w.heap.size,ak _ _ _,rfl⟩)))
  obtain⟨hL,hb⟩:=hn _ _ _ J;have aQ:=G.new hC (o.dst.getD 0) _ (G.gT Z) hL hb (w.alloc (.cells z.cells e)) rfl rfl rfl (by simp) (fun _=>False) (fun k hk _=>aP _ _ _ hk) (fun _ h=>h.elim) (.pointer (some ⟨w.heap.size,0,none⟩))
   (fun g N=>by simp[bH]at N;subst N;simp) (fun T=>⟨w.heap.size,z.cells,ak _ _ _,heap_alloc_new w _,by rw[dN];simp,fun j y u O U=>by
    rw[dN]at U;rw[ao]at O;obtain⟨v,Y,rfl⟩:=az.1 O;have I:ti.zero[j]?=some u:=by simpa using U
    rw[Y]at I;injection I with I;subst I;exact⟨ga v (aj Y),rF _ _ _ _ _ _ v⟩⟩)
  refine bS hr (D _ _ _ _ _ _ _ J (aQ.value o.dst Z _ _ (.bx _ _ _ fun _=>⟨.inr rfl,w.heap.size,ak _ _ _,rfl⟩)))
 exact J.elim
end Go.AM
namespace Go.AM
open Go.RowKit
theorem iD{id:Nat}:∀{fz:List (Nat×AB)} {h:Nat->AB},m_ id fz=true->app h fz id=h id:=by
 intro fz
 induction fz with
 | nil=>intro h _;rfl
 | cons x fz ih=>
  intro h z;unfold m_ at z;split at z
  ·cases z
  rename_i D;show app (ax h x.1 x.2) fz id=h id;rw[ih z,au _ _ (fun e=>by rw[e]at D;simp at D)]
variable {α:Type}
theorem bL:∀(ys:List α) (cs:List α) (off:Nat),(setCells cs off ys).length=cs.length:=by
 intro ys
 induction ys with
 | nil=>intro cs off;rfl
 | cons y ys ih=>intro cs off;simp[setCells,ih]
theorem lA:∀(ys:List α) (cs:List α) (off j:Nat),off+ys.length<=cs.length->(setCells cs off ys)[j]?=if off<=j/\j<off+ys.length then ys[j-off]? else cs[j]?:=by
 intro ys
 induction ys with
 | nil=>intro cs off j _;simp only[setCells,qJ];rw[af (by omega)]
 | cons y ys ih=>
  intro cs off j hl;simp only[bw]at hl ⊢;simp only[setCells];rw[ih _ _ _ (by simp;omega)];by_cases D:j=off
  ·subst D;rw[af (by omega),qH (by omega),gX,bQ (by omega)];rfl
  by_cases z:off+1<=j/\j<off+1+ys.length
  ·rw[qH z,qH (by omega),show j-off=(j-(off+1))+1 by omega,gY]
  rw[af z,af (by omega),bY (by omega)]
theorem j7(cs ys:List α)(off j:Nat)(hl:off+ys.length<=cs.length):(cs.take off++ys++cs.drop (off+ys.length))[j]?=if off<=j/\j<off+ys.length then ys[j-off]? else cs[j]?:=by
 have h0:(cs.take off).length=off:=by simp;omega
 by_cases z:j<off
 ·rw[af (by omega),bR,ba (by omega),aF z]
 by_cases h2:j<off+ys.length
 ·rw[qH (by omega),bR,bd (by omega),h0,ba (by omega)]
 rw[af (by omega),bR,bd (by omega),h0,bd (by omega),cV];congr 1;omega
theorem FV(cs:List α)(off j:Nat)(y:α)(hl:off<cs.length):(cs.set off y)[j]?=if off<=j/\j<off+1 then [y][j-off]? else cs[j]?:=lA [y] cs off j hl
theorem ja{P:Program}{w:World}{t:TypeId}{ti:TI}(h:jw P t ti)(g off:Nat)(D:TypeId)(z:Array Value)(v:Value)(G:w.heap[g]?=some (.cells z D (0,0)))(hs:v.cells.size=ti.size)(hl:off+ti.size<=z.size)(I:∀u∈v.cells.toList,u.oneCell'=true):
  (Instr.storeAt t (.pointer (some ⟨g,off,none⟩)) v).run P w=.ok () (w.setRow g (z.toList.take off++v.cells.toList++z.toList.drop (off+v.cells.toList.length)).toArray):=by
 have:=run_storeCells_at P g off D v.cells.toList 0 z w G (by simp[hs];omega) I;simp only[uT]at this;simp[Instr.storeAt,Instr.sureAddr,storeVar,h.sizeOf,hs];simpa [hs] using this
theorem hY{P:Program}{a:Act}{o:Oper}{w w':World}{t:TypeId}{x y:Operand}(z:o.op=.store t x y)(h:(Instr.storeAt t (a.eval x) (a.eval y)).run P w=.ok () w'):(execOp a.eval o).run P w=.ok .skip w':=by
 simp only[execOp,z,aI,h,nH,jS]
variable {e:TypeId} {c:Nat} {tj:TypeInfo}
theorem an.stored{P:Program}{w:World}{R R':α->Value->Prop}{es:List (List α)}{g n:Nat}(h:an P w R e es (.slice (some ⟨g,0,none⟩) n c))(pf:P.info? e=some tj){D:Array Value}(hg:w.heap[g]?=some (.cells D e (0,0)))
  {i off:Nat} {r:List α} (hr:es[i]?=some r) {ys:List α} {us:List Value} (hle:off+ys.length<=r.length) (hlen:us.length=ys.length) (ga:∀u∈us,u.oneCell'=true) (hR:∀x u,R x u->R' x u) (dN:∀(j:Nat) z u,ys[j]?=some z->us[j]?=some u->R' z u):
  an P (w.setRow g (D.toList.take (i*tj.size+off)++us++D.toList.drop (i*tj.size+off+us.length)).toArray) R' e (es.set i (setCells r off ys)) (.slice (some ⟨g,0,none⟩) n c):=by
 obtain⟨ie,xs,Z,k2,k3,k4,k5,k6⟩:=h;rw[pf]at Z;injection Z with Z;subst Z;rcases k3.2 with⟨G,_⟩ | ⟨g',cap,Ds,G,_,O,k9,Kj,Fv,Hv⟩
 ·cases G
 injection G with G kn kc;injection G with G;injection G with G;subst G kn kc;rw[hg]at O;injection O with O;injection O with O;subst O;have hi:=ah hr;have nP:=k4 r (aj hr);have IA:i*tj.size+tj.size<=es.length*tj.size:=by rw[<-lV];exact bZ _ hi
 have Hw:es.length*tj.size<=D.size:=by rw[Fv];exact bZ _ k9
 have FW:xs.length=es.length*tj.size:=k3.1;have BC:=fun j=>j7 D.toList us (i*tj.size+off) j (by simp;omega);have IB:=fun j=>lA us xs (i*tj.size+off) j (by omega);refine⟨tj,setCells xs (i*tj.size+off) us,pf,k2,⟨by rw[bL,FW,cu],.inr ⟨g,c,_,by rw[cu],nI _,setRow_heap w g D _ e (0,0) hg,by rw[cu];exact k9,Kj,?_,?_⟩⟩,?_,?_,?_⟩
 ·simp only[Tk,fj,dI,cw,cf];rw[Fv]at *;omega
 ·apply lW;intro j;rw[cB];simp only[cu];split
  ·rename_i I;rw[BC,IB];split
   ·rfl
   rw[<-Hv,aF I]
  rename_i I;rw[dy];rw[bL,FW];omega
 ·intro q Az;rcases nJ Az with h | h
  ·exact k4 q h
  rw[h,bL];exact nP
 ·intro u U;obtain⟨j,I⟩:=uU.1 U;rw[IB]at I;split at I
  ·exact ga u (aj I)
  exact k5 u (aj I)
 intro Y q j z J N;have Fw:q.length=tj.size:=by
  rcases nJ (aj J) with h | h
  ·exact k4 q h
  rw[h,bL];exact nP
 have kX:=ah N;rw[IB];by_cases Dt:Y=i
 ·subst Dt;rw[bQ hi]at J;injection J with J;subst J;rw[lA _ _ _ _ (by omega)]at N;split at N
  ·rename_i iR;rw[qH (by omega),show Y*tj.size+j-(Y*tj.size+off)=j-off by omega];have MU:=ah N;exact⟨us[j-off]'(by omega),aM _,dN _ z _ N (aM _)⟩
  rename_i iR;rw[af (by omega)];obtain⟨u,U,jb⟩:=k6 _ _ _ _ hr N;exact⟨u,U,hR _ _ jb⟩
 rw[bY (fun e=>Dt e.symm)]at J;have bO:¬(i*tj.size+off<=Y*tj.size+j/\Y*tj.size+j<i*tj.size+off+us.length):=by
  rintro⟨h1,h2⟩;rcases jV Dt with h | h
  ·have:=bZ tj.size (uV h);rw[lV]at this;omega
  have:=bZ tj.size (uV h);rw[lV]at this;omega
 rw[af bO];obtain⟨u,U,jb⟩:=k6 _ _ _ _ J N;exact⟨u,U,hR _ _ jb⟩
theorem an.block{P:Program}{w:World}{R:α->Value->Prop}{es:List (List α)}{g n:Nat}(h:an P w R e es (.slice (some ⟨g,0,none⟩) n c))(I:P.info? e=some tj):∃D:Array Value,w.heap[g]?=some (.cells D e (0,0))/\es.length*tj.size<=D.size/\(∀r∈es,r.length=tj.size)/\0<tj.size:=by
 obtain⟨ie,xs,G,J,N,O,k5,k6⟩:=h;rw[I]at G;injection G with G;subst G;rcases N.2 with⟨z,_⟩ | ⟨g',cap,U,z,_,Y,Z,Kj,Fv,Hv⟩
 ·cases z
 injection z with z kn kc;injection z with z;injection z with z;subst z;exact⟨U,Y,by rw[Fv];exact bZ _ Z,O,J⟩
theorem ed{g o n:Nat}{p:Option Nat}{k:Nat}:bH (.slice (some ⟨g,o,p⟩) n c)=some k↔k=g:=by
 simp only[bH,Option.some.injEq];exact⟨fun h=>h.symm,fun h=>h.symm⟩
theorem kU.yH{P:Program}{w:World}{R:HX->Value->Prop}{es:List (List HX)}{v:Value}(hS:kU w es v)(h:an P w R e es v):
  an P w (fun x u=>R x u/\∀e' G,x=.row e' G->∀g b,bH v=some g->bH u=some b->b≠g) e es v:=by
 obtain⟨i,xs,Y,Z,I,J,h5,h6⟩:=h;refine⟨i,xs,Y,Z,I,J,h5,fun a r j x D N=>?_⟩;obtain⟨u,z,hr⟩:=h6 a r j x D N;refine⟨u,z,hr,fun e' G hx g b O hb=>?_⟩;subst hx;have nP:=J r (aj D);rcases I.2 with⟨hn,hz⟩ | ⟨g',cap,cur,U,_,wI,k1,k2,k3,k4⟩
 ·have:=(cL.1 D).1;omega
 rw[U]at O;obtain rfl:=ed.1 O;refine hS.top g a j u b (by rw[U];rfl) ⟨r,e',G,_,_,_,D,N,wI,?_⟩ hb;rw[nP];rw[<-k4,cB]at z;split at z
 ·simpa using z
 cases z
theorem aU.Nz{A:jR}{V L S:Nat->Prop}{rho:Nat->Value}{s:AS}{a:Act}{w:World}(U:aU A V L S rho s a w)(hC:aL A.C){id:Nat}(hL:L id){es:List (List HX)}(ai:s.h id=.ai e es){g n:Nat}(Z:rho id=.slice (some ⟨g,0,none⟩) n c)(pf:A.C.P.info? e=some tj)
  {i off:Nat} {r:List HX} (hr:es[i]?=some r) (hle:off+1<=r.length) {x:AV} {u:Value} (ga:u.oneCell'=true) (hx:aE S w A.C.P L rho s.h x u):
  ∃D:Array Value,w.heap[g]?=some (.cells D e (0,0))/\i*tj.size+off+1<=D.size/\aU A V L S rho ⟨s.t,ax s.h id (.ai e (es.set i (r.set off (.av x))))⟩ a (w.setRow g (D.toList.take (i*tj.size+off)++[u]++D.toList.drop (i*tj.size+off+1)).toArray):=by
 have hh:=U.hp id hL;rw[ai]at hh;obtain⟨hR,hS⟩:=hh;rw[Z]at hR hS;obtain⟨D,Y,hsz,hlen,hpos⟩:=hR.block pf;have hi:=ah hr;have nP:=hlen r (aj hr);have IA:i*tj.size+tj.size<=es.length*tj.size:=by rw[<-lV];exact bZ _ hi
 have cc:∀k j v,bI (w.setRow g (D.toList.take (i*tj.size+off)++[u]++D.toList.drop (i*tj.size+off+1)).toArray) (es.set i (r.set off (.av x))) g k j v->bI w es g k j v:=by
  rintro k j v ⟨q,e',kS,c',KX,m',I,G,J,N⟩;rw[setRow_heap w g D _ e (0,0) Y]at J;injection J with J;injection J with J h3' NA;have kX:=ah G;have Fw:q.length=tj.size:=by
   rcases nJ (aj I) with h | h
   ·exact hlen q h
   rw[h,cu];exact nP
  have key:∀p,p≠i*tj.size+off->c'[p]?=some v->D[p]?=some v:=fun p hp h=>by
   rw[<-J]at h;have h:(D.toList.take (i*tj.size+off)++[u]++D.toList.drop (i*tj.size+off+1))[p]?=some v:=by simpa using h
   have G:=j7 D.toList [u] (i*tj.size+off) p (by simp;omega);simp only[aw]at G;rw[G,af (by omega)]at h;simpa using h
  by_cases NB:k=i
  ·subst NB;rw[bQ hi]at I;injection I with I;subst I;have MU:j≠off:=fun e0=>by
    subst e0;rw[bQ (by omega)]at G;injection G with G;cases G
   rw[bY (fun e=>MU e.symm)]at G;refine⟨r,e',kS,D,_,_,hr,G,Y,?_⟩;rw[Fw]at N;rw[nP];exact key _ (by omega) N
  rw[bY (fun e=>NB e.symm)]at I;refine⟨q,e',kS,D,_,_,I,G,Y,?_⟩;refine key _ ?_ N;rw[Fw];intro he;rcases jV NB with h | h
  ·have:=bZ tj.size (uV h);rw[lV]at this;omega
  have:=bZ tj.size (uV h);rw[lV]at this;omega
 refine⟨D,Y,by omega,?_⟩;refine U.vf hC id hL (by rw[ai];trivial) _ (fun e' h=>by rw[ai];exact h) _ (setRow_os w g _) (setRow_tape w g _) (setRow_output w g _) (setRow_size w g _) (fun k O=>setRow_other w g k _ fun e=>O (by rw[Z,e];rfl)) (fun T=>?_) (fun k O=>?_)
 ·show an _ _ _ _ _ (rho id)/\kU _ _ (rho id);rw[Z];refine⟨(hS.yH hR).stored pf Y (ys:=[.av x]) (us:=[u]) hr hle rfl (by simpa using ga) (fun y v hy=>?_) (fun j z v hz hv=>?_),?_⟩
  ·cases y with
   | av y=>exact aE.bA T hy.1
   | row e' kS=>exact an.bA hy.1 (fun k O=>setRow_other w g k _ (hy.2 _ _ rfl g k rfl O)) (fun x u hu=>hu.mono T.hS T.keep)
  ·cases j with
   | zero=>simp at hz hv;subst hz hv;exact aE.bA T hx
   | succ j=>simp at hz
  exact⟨fun g' k j v b I G J=>by
   obtain rfl:=ed.1 I;exact hS.top _ k j v b I (cc k j v G) J,fun g' k j k' j' v v' b I G J N h5=>by
   obtain rfl:=ed.1 I;exact hS.dis _ k j k' j' v v' b I (cc k j v G) (cc k' j' v' J) N h5⟩
 rw[ai];rcases O with O | ⟨cs,g',h,_⟩ | ⟨e',bW,g',k',j,v,I,G,J,N⟩ | ⟨_,_,_,_,_,h,_⟩
 ·exact .inl O
 ·cases h
 rotate_left
 ·cases h
 injection I with I mP;subst I mP;have nG:=G;rw[Z]at nG;obtain rfl:=ed.1 nG;exact .inr (.inr (.inl ⟨_,_,_,_,_,_,rfl,G,cc _ _ _ J,N⟩))
theorem Du{z:Array Value}{off:Nat}{u v:Value}(h:off<z.size):((z.setIfInBounds off u).toList.take off++(#[v]:Array Value).toList++(z.setIfInBounds off u).toList.drop (off+(#[v]:Array Value).toList.length)).toArray=z.setIfInBounds off v:=by
 apply gV;rw[qK,qK,List.toList_toArray];apply lW;intro j;have hl:z.toList.length=z.size:=by simp
 by_cases e:j=off
 ·subst e;rw[bQ (by omega),bR,bd (by simp;omega)];simp[bD (fm h)]
 rw[bY (fun h=>e h.symm)];by_cases D:j<off
 ·rw[bR,ba (by simp;omega),cB,qH D,bY (by omega)]
 rw[bR,bd (by simp;omega)];simp only[dI,cu,hl,bD (fm h)];obtain⟨k,rfl⟩:∃k,j=off+1+k:=⟨j-off-1,by omega⟩;rw[show off+1+k-off=k+1 by omega];simp only[lX,uW,gY,bw,qJ,cV];rw[bY (by omega)]
theorem Dv{A:jR}{o:Oper}(t:TypeId)(x y:Operand)(aq:o.op=.store t x y):eD A o:=by
 intro V L S rho s a w K next Q hC O hV hd G hn J
 simp only[aZ,aq]at G;have hx:=aH O x fun j I=>hV j (by simp[aq,Op.operands,I]);have hy:=aH O y fun j I=>hV j (by simp[aq,Op.operands,I]);split at G
 ·exact G.elim
 rename_i ti hT;have dr:=hC.eL t ti hT;split at G
 ·rename_i id off Dw;rw[Dw]at hx;split at G
  ·rename_i cs aA;obtain⟨hL,g,hg,hv⟩:=hx.dt (by rw[aA];trivial);have main:∀(S2:Nat->Prop) (s2:AS) (dB:List AV) (ws:List AV),aU A V L S2 rho s2 a w->s2.h id=.box cs->(a.eval y).cells.size=ti.size->ws.length=ti.size->off+ti.size<=cs.length->(∀u∈(a.eval y).cells.toList,u.oneCell'=true)->
     (∀(j:Nat) z u,ws[j]?=some z->(a.eval y).cells[j]?=some u->aE S2 w A.C.P L rho s2.h z u)->dB.length=cs.length->(∀j,dB[j]?=if off<=j/\j<off+ws.length then ws[j-off]? else cs[j]?)->
     ∃w',(execOp a.eval o).run A.C.P w=.ok .skip w'/\aU A V L S2 rho ⟨s2.t,ax s2.h id (.box dB)⟩ a w':=by
    intro S2 s2 dB ws aJ o9 hsz KY hle ga dN hlen rK;have hh:=aJ.hp id hL;rw[o9]at hh;obtain⟨g',ty,c,k1,k2,k3,k4⟩:=hh;rw[hg]at k1;injection k1 with k1;injection k1 with k1;injection k1 with k1;subst k1;have D:=ja (w:=w) dr g off ty c (a.eval y) k2 hsz (by omega) ga;refine⟨_,hY aq (by rw[hv];exact D),?_⟩;refine aJ.write hC id hL (by rw[o9];trivial) (.box dB) (fun _ h=>by cases h) _ (by simp) (by simp) (by simp) (by simp) (fun k hk=>setRow_other w g k _ fun e=>hk (by rw[hg,e];rfl)) fun T=>?_;have N:(a.eval y).cells.toList.length=ti.size:=by simpa using hsz
    refine⟨g,ty,_,hg,setRow_heap w g c _ ty (0,0) k2,by simp[N];omega,fun j z u I hu=>?_⟩;have ni:(c.toList.take off++(a.eval y).cells.toList++c.toList.drop (off+(a.eval y).cells.toList.length))[j]?=some u:=by simpa using hu
    rw[j7 _ _ _ _ (by rw[N];simpa [k3] using hle)]at ni;rw[rK j]at I;rw[N]at ni;rw[KY]at I;split at I
    ·rename_i iR;rw[qH iR]at ni;have NC:(a.eval y).cells[j-off]?=some u:=by simpa using ni
     exact⟨ga u (aj ni),(dN _ z u I NC).bA T⟩
    rename_i iR;rw[af iR]at ni;have NC:c[j]?=some u:=by simpa using ni
    obtain⟨h5,h6⟩:=k4 _ _ _ I NC;exact⟨h5,h6.bA T⟩
   split at G
   ·rename_i nU;split at G
    ·rename_i xs wL;split at G
     ·rename_i Z;simp only[fH]at Z;have e1:=dC Z.1;have U:=gi Z.2;rw[Wr wL]at hy;obtain⟨vs,wV,h1,h2,h3⟩:=hy.Ir;have N:(a.eval y).cells=vs:=by rw[wV];rfl
      obtain⟨w',D,cF⟩:=main S s (setCells cs off xs) xs O aA (by rw[N];omega) e1 U (by rw[N];exact h2) (by rw[N];exact h3) (bL _ _ _) (fun j=>lA _ _ _ _ (by rw[e1];exact U));refine jx D (J _ _ _ S rho _ _ G ?_);exact cF.value o.dst hd .junk undef (.junk _)
     exact G.elim
    obtain⟨yv,fz,S2,G,aJ,hrep,nX,hF,wU⟩:=e8 hC O (kM.refl s.h) hy G;split at G
    ·rename_i ys;split at G
     ·rename_i Z;simp only[fH]at Z;obtain⟨⟨e1,U⟩,e3⟩:=Z;have e1:=dC e1;have U:=gi U;obtain⟨vs,wV,h1,h2,h3⟩:=hrep.kW;have N:(a.eval y).cells=vs:=by rw[wV];rfl
      obtain⟨w',D,cF⟩:=main S2 _ (setCells cs off (ys.map Kd)) (ys.map Kd) aJ (by simp only;rw[iD e3];exact aA) (by rw[N];omega) (by simpa using e1) U (by rw[N];exact h2)
       (fun j z u I hu=>by
        rw[N]at hu;rw[ao]at I;obtain⟨z',hz,rfl⟩:=az.1 I;exact va (h3 j z' u hz hu)) (bL _ _ _) (fun j=>lA _ _ _ _ (by simpa [e1] using U))
      refine jx D (J _ _ _ S2 rho _ _ G ?_);have:=cF.value o.dst hd .junk undef (.junk _);simp only[bJ,app];exact this
     exact G.elim
    exact G.elim
   rename_i nU;split at G
   ·rename_i Z;simp only[fH]at Z;obtain⟨⟨e1,U⟩,e3⟩:=Z;have e1:=gi e1;have U:=dC U;have h1:=To O e3 hy;have N:=cells_one h1;obtain⟨w',D,cF⟩:=main S s (cs.set off (ev s.t y)) [ev s.t y] O aA (by rw[N,U];rfl) (by rw[U];rfl) (by omega) (by rw[N];simpa using h1)
     (fun j z u I hu=>by
      rw[N]at hu;cases j with
      | zero=>simp at I hu;subst I hu;exact hy
      | succ j=>simp at I) (by simp) (fun j=>FV _ _ _ _ (by omega))
    refine jx D (J _ _ _ S rho _ _ G ?_);exact cF.value o.dst hd .junk undef (.junk _)
   exact G.elim
  exact G.elim
 ·rename_i id i off Dw;rw[Dw]at hx;split at G
  ·rename_i e es ai;obtain⟨hL,g,n,c,tj,hg,pf,hv⟩:=hx.rI ai;obtain⟨r,hr,G⟩:=G;obtain⟨yv,fz,S2,G,aJ,hrep,nX,hF,wU⟩:=e8 hC O (kM.refl s.h) hy G;split at G
   ·rename_i ys Dx;split at G
    ·rename_i Z;simp only[fH]at Z;obtain⟨⟨e1,U⟩,e3⟩:=Z;have e1:=dC e1;have U:=gi U;obtain⟨ND,ga,dN⟩:=qc Dx hrep;have o9:(app s.h fz) id=.row e es:=by rw[iD e3];exact ai
     have hh:=aJ.hp id hL;have hh:cd S2 w A.C.P L rho (app s.h fz) id ((app s.h fz) id):=hh;rw[o9]at hh;obtain⟨ie,xs,k1,k2,k3,k4,k5,k6⟩:=hh;rw[pf]at k1;injection k1 with k1;subst k1;rw[hg]at k3;rcases k3.2 with⟨k7,_⟩ | ⟨g',cap,Y,k7,_,k8,k9,Kj,Fv,Hv⟩
     ·cases k7
     injection k7 with k7 kn kc;injection k7 with k7;injection k7 with k7;subst k7 kn kc;have hi:=ah hr;have nP:=k4 r (aj hr);have IA:i*tj.size+tj.size<=es.length*tj.size:=by rw[<-lV];exact bZ _ hi
     have Hw:es.length*tj.size<=Y.size:=by rw[Fv];exact bZ _ k9
     have N:(a.eval y).cells.toList.length=ti.size:=by simp;omega
     have D:=ja (w:=w) dr g (i*tj.size+off) e Y (a.eval y) k8 (by omega) (by omega) ga;refine jx (hY aq (by rw[hv];exact D)) (J _ _ _ S2 rho _ _ G ?_);have cF:aU A V L S2 rho ⟨s.t,ax (app s.h fz) id (.row e (es.set i (setCells r off ys)))⟩ a (w.setRow g (Y.toList.take (i*tj.size+off)++(a.eval y).cells.toList++Y.toList.drop (i*tj.size+off+(a.eval y).cells.toList.length)).toArray):=by
      refine aJ.write hC id hL (by show (app s.h fz id).live;rw[o9];trivial) (.row e (es.set i (setCells r off ys))) (fun e' h=>by show (app s.h fz id).fD=_;rw[o9];exact h) _ (setRow_os w g _) (setRow_tape w g _) (setRow_output w g _) (setRow_size w g _)
       (fun k hk=>setRow_other w g k _ fun e=>hk (by rw[hg,e];rfl)) (fun T=>?_)
      show an _ _ _ _ _ (rho id);rw[hg];have FW:xs.length=es.length*tj.size:=k3.1;have mJ:∀(j:Nat) u,xs[j]?=some u->Y.toList[j]?=some u:=fun j u I=>by
       rw[<-Hv]at I;rw[cB]at I;split at I
       ·exact I
       cases I
      have BC:=fun j=>j7 Y.toList (a.eval y).cells.toList (i*tj.size+off) j (by rw[N];simp;omega);have IB:=fun j=>lA (a.eval y).cells.toList xs (i*tj.size+off) j (by rw[N,FW];omega);refine⟨tj,setCells xs (i*tj.size+off) (a.eval y).cells.toList,pf,k2,⟨by rw[bL,FW,cu],.inr ⟨g,c,_,by rw[cu],nI _,setRow_heap w g Y _ e (0,0) k8,by rw[cu];exact k9,Kj,?_,?_⟩⟩,?_,?_,?_⟩
      ·simp only[Tk,fj,dI,cw,cf];rw[Fv]at *;simp at N;omega
      ·apply lW;intro j;rw[cB];simp only[cu];split
       ·rename_i I;rw[BC,IB];split
        ·rfl
        rw[<-Hv,aF I]
       rename_i I;rw[dy];rw[bL,FW];omega
      ·intro q Az;rcases nJ Az with h | h
       ·exact k4 q h
       rw[h,bL];exact nP
      ·intro u hu;obtain⟨j,I⟩:=uU.1 hu;rw[IB]at I;split at I
       ·exact ga u (aj I)
       exact k5 u (aj I)
      intro a' q j z kY hz;have Fw:q.length=tj.size:=by
       rcases nJ (aj kY) with h | h
       ·exact k4 q h
       rw[h,bL];exact nP
      have kX:=ah hz;rw[IB];by_cases Dt:a'=i
      ·subst Dt;rw[bQ hi]at kY;injection kY with kY;subst kY;rw[lA _ _ _ _ (by omega)]at hz;split at hz
       ·rename_i iR;rw[qH (by omega),show a'*tj.size+j-(a'*tj.size+off)=j-off by omega];obtain⟨u,hu⟩:=fJ ND.symm (ah hz);exact⟨u,by simpa using hu,(dN _ z u hz hu).mono T.hS T.keep⟩
       rename_i iR;rw[af (by omega)];obtain⟨u,hu,jb⟩:=k6 _ _ _ _ hr hz;exact⟨u,hu,jb.mono T.hS T.keep⟩
      rw[bY (fun e=>Dt e.symm)]at kY;have bO:¬(i*tj.size+off<=a'*tj.size+j/\a'*tj.size+j<i*tj.size+off+(a.eval y).cells.toList.length):=by
       rintro⟨h1,h2⟩;rcases jV Dt with h | h
       ·have:=bZ tj.size (uV h);rw[lV]at this;omega
       have:=bZ tj.size (uV h);rw[lV]at this;omega
      rw[af bO];obtain⟨u,hu,jb⟩:=k6 _ _ _ _ kY hz;exact⟨u,hu,jb.mono T.hS T.keep⟩
     have:=cF.value o.dst hd .junk undef (.junk _);simp only[bJ,app];exact this
    exact G.elim
   exact G.elim
  ·rename_i e es ai;obtain⟨hL,g,n,c,tj,hg,pf,hv⟩:=hx.lZ ai;obtain⟨r,hr,G⟩:=G;split at G
   ·exact G.elim
   split at G
   ·rename_i Z;simp only[fH]at Z;obtain⟨⟨e1,U⟩,e3⟩:=Z;have e1:=gi e1;have U:=dC U;have h1:=To O e3 hy;have N:=cells_one h1;obtain⟨Y,mJ,hsz,cF⟩:=O.Nz hC hL ai hg pf hr e1 h1 hy;have D:=ja (w:=w) dr g (i*tj.size+off) e Y (a.eval y) mJ (by rw[N,U];rfl) (by omega) (by rw[N];simpa using h1);rw[N]at D;refine jx (hY aq (by rw[hv];exact D)) (J _ _ _ S rho _ _ G ?_);exact cF.value o.dst hd .junk undef (.junk _)
   exact G.elim
  exact G.elim
 ·rename_i id Dw;rw[Dw]at hx;split at G
  ·rename_i c0 ty c hcell nU;obtain⟨hL,hv⟩:=hx.bu (by rw[hcell];trivial);split at G
   ·rename_i Z;simp only[fH]at Z;obtain⟨U,e3⟩:=Z;have U:=dC U;have h1:=To O e3 hy;have N:=cells_one h1;have hh:=O.hp id hL;rw[hcell]at hh;obtain⟨g,off,u,k1,k2,k3,k4,k5⟩:=hh;have D:=ja (w:=w) dr g off ty _ (a.eval y) k3 (by rw[N,U];rfl) (by rw[qL];omega) (by rw[N];simpa using h1);rw[N,Du k2]at D;refine jx (hY aq (by rw[hv,k1];exact D)) (J _ _ _ S rho _ _ G ?_);have cF:=O.write hC id hL (by rw[hcell];trivial) (.cell c0 ty (ev s.t y)) (fun _ h=>by cases h) (w.setRow g (c0.setIfInBounds off (a.eval y))) (by simp) (by simp) (by simp) (by simp) (fun k hk=>setRow_other w g k _ fun e=>hk (by rw[k1,e];rfl)) fun T=>
     ⟨g,off,a.eval y,k1,k2,setRow_heap w g _ _ ty (0,0) k3,h1,hy.bA T⟩
    exact cF.value o.dst hd .junk undef (.junk _)
   exact G.elim
  exact G.elim
 exact G.elim
end Go.AM
namespace Go.AM
open Go.RowKit
variable {A:jR}
theorem IC{o:Oper}(c:Call)(aq:o.op=.call c)(hc:c.callee=.builtin .len):eD A o:=by
 intro V L S rho s a w K next Q hC G hV hd z _ D
 obtain⟨callee,args,argTypes⟩:=c;simp only at hc;subst hc;simp only[aZ,aq,Ta,dK]at z;split at z
 ·rename_i x t O Dy;have I:=aH G x fun j hj=>hV j (by simp[aq,Op.operands,Call.operands,hj];rw[<-hj];exact nK.1 (by rw[O];simp));have e1:args=#[x]:=by rw[<-qM (xs:=args),O]
  have e2:argTypes=#[t]:=by rw[<-qM (xs:=argTypes),Dy]
  subst e1 e2;split at z
  ·rename_i size bytes zero eq hT;have U:=(hC.eL t _ hT).under;simp only at U;split at z
   ·rename_i st wL;rw[wL]at I;exact ar G hd D z (.p _ _ (.im _)) (by simp[execOp,aq,resolve,invoke,builtin,I.bc,Builtin.len_,run_underlying U,goInt])
   exact z.elim
  ·rename_i e size bytes zero eq hT;have U:=(hC.eL t _ hT).under;simp only at U;have fin:∀(es:List (List PV)) Z c,K (.p (.im (.int .i64 es.length))) [] none->a.eval x=.slice Z es.length c->o.wp A.C.P a w next Q:=fun es Z c z he=>
    ar G hd D z (.p _ _ (.im _)) (by simp[execOp,aq,resolve,invoke,builtin,he,Builtin.len_,run_underlying U,goInt])
   split at z
   ·rename_i m J;unfold hlen at J;split at J
    ·rename_i id wJ;rw[wJ]at I;split at J
     ·rename_i e' es ai;injection J with J;subst J;obtain⟨hL,N⟩:=I.bu (by rw[ai];trivial);have Y:=G.hp id hL;rw[ai]at Y;obtain⟨⟨i,xs,_,_,h3,_⟩,_⟩:=Y;obtain⟨Z,c,NF⟩:∃Z c,rho id=.slice Z es.length c:=by
       rcases h3.2 with⟨h4,h5⟩ | ⟨g,cap,cur,h4,_⟩
       ·exact⟨none,0,by rw[h4,h5]⟩
       exact⟨_,cap,h4⟩
      exact ar G hd D z (.p _ _ (.im _)) (by simp[execOp,aq,resolve,invoke,builtin,N,NF,Builtin.len_,run_underlying U,goInt])
     cases J
    ·rename_i id lo hi wJ;rw[wJ]at I;split at J
     ·rename_i e' es ai;injection J with J;subst J;obtain⟨_,n,cp,Z,Ny,_,_,_,_,_,hval⟩:=I.rJ ai;exact ar G hd D z (.p _ _ (.im _)) (by simp[execOp,aq,resolve,invoke,builtin,hval,Builtin.len_,run_underlying U,goInt])
     cases J
    cases J
   unfold dV at z;split at z
   ·rename_i es wJ;rw[wJ]at I;obtain⟨Z,c,N,_⟩:=I.cb.WN;exact fin es Z c z N
   ·rename_i wJ;rw[wJ]at I;have:a.eval x=.slice none 0 0:=by cases h:a.eval x<;>rw[h]at I<;>cases I;rfl
    exact fin [] none 0 z this
   ·rename_i id wJ;rw[wJ]at I;split at z
    ·rename_i e' es ai;obtain⟨hL,N⟩:=I.bu (by rw[ai];trivial);have Y:=G.hp id hL;rw[ai]at Y;obtain⟨i,xs,_,_,h3,_⟩:=Y;rcases h3.2 with⟨h4,h5⟩ | ⟨g,cap,cur,h4,_⟩
     ·exact fin es none 0 z (by rw[N,h4,h5])
     exact fin es _ cap z (by rw[N,h4])
    ·rename_i es ai;obtain⟨hL,N⟩:=I.bu (by rw[ai];trivial);have Y:=G.hp id hL;rw[ai]at Y;obtain⟨Z,c,h4,_⟩:=ay.WN Y;exact fin es Z c z (by rw[N,h4])
    exact z.elim
   exact z.elim
  ·rename_i kt et size bytes zero eq hT;have U:=(hC.eL t _ hT).under;simp only at U;split at z
   ·rename_i id hid;split at z
    case h_2=>exact z.elim
    rename_i mk es J;rw[hid]at I;obtain⟨hL,N⟩:=I.bu (by rw[J];trivial);have Y:=G.hp id hL;rw[J]at Y;obtain⟨g,ms,clock,h1,h2,h3,_⟩:=Y;exact ar G hd D z (.p _ _ (.im _)) (by simp[execOp,aq,resolve,invoke,builtin,N,h1,Builtin.len_,run_underlying U,aB h2,h3,goInt])
   ·rename_i mk es hid;rw[hid]at I;obtain⟨g,ms,clock,N,_,h2,h3⟩:=I.cb.yt;exact ar G hd D z (.p _ _ (.im _)) (by simp[execOp,aq,resolve,invoke,builtin,N,Builtin.len_,run_underlying U,aB h2,h3.1,goInt])
   exact z.elim
  exact z.elim
 exact z.elim
theorem ID{o:Oper}(c:Call)(N:o.op=.call c)(O:c.callee=.builtin .min):eD A o:=by
 intro V L S rho s a w K next Q hC D U hd I _ G
 obtain⟨callee,args,argTypes⟩:=c;simp only at O;subst O;simp only[aZ,N,Ta,dK]at I;split at I
 ·rename_i x y z;have Y:=aH D x fun j J=>U j (by simp[N,Op.operands,Call.operands,J];rw[<-J];exact nK.1 (by rw[z];simp));have Z:=aH D y fun j J=>U j (by simp[N,Op.operands,Call.operands,J];rw[<-J];exact nK.1 (by rw[z];simp));have e1:args=#[x,y]:=by rw[<-qM (xs:=args),z]
  subst e1;split at I
  ·rename_i k m k' n h1 h2;rw[h1]at Y;rw[h2]at Z;exact ar D hd G I (.p _ _ (.im _)) (by
    simp[execOp,N,resolve,invoke,builtin,Y.bc,Z.bc,Builtin.min_,Builtin.min2];rw[Int.min_def];split<;>split<;>omega)
  exact I.elim
 exact I.elim
theorem wW{P:Program}{w:World}(k k':IntKind)(m n:Int):(Builtin.max2 (.int k m) (.int k' n)).run P w=.ok (.int k (max m n)) w:=by
 simp only[Builtin.max2,jS];rw[Int.max_def];by_cases h:n>m
 ·rw[qH h,qH (by omega)]
 rw[af h];by_cases z:m<=n
 ·rw[qH z,show m=n by omega]
 rw[af z]
theorem IE{o:Oper}(c:Call)(N:o.op=.call c)(hc:c.callee=.builtin .max):eD A o:=by
 intro V L S rho s a w K next Q hC I U hd O _ J
 obtain⟨callee,args,argTypes⟩:=c;simp only at hc;subst hc;simp only[aZ,N,Ta,dK]at O;split at O
 ·rename_i x y D;have Y:=aH I x fun j G=>U j (by simp[N,Op.operands,Call.operands,G];rw[<-G];exact nK.1 (by rw[D];simp));have Z:=aH I y fun j G=>U j (by simp[N,Op.operands,Call.operands,G];rw[<-G];exact nK.1 (by rw[D];simp));have e1:args=#[x,y]:=by rw[<-qM (xs:=args),D]
  subst e1;split at O
  ·rename_i k m k' n h1 h2;rw[h1]at Y;rw[h2]at Z;exact ar I hd J O (.p _ _ (.im _)) (by
    simp[execOp,N,resolve,invoke,builtin,Y.bc,Z.bc,Builtin.max_,Builtin.max2];rw[Int.max_def];split<;>split<;>omega)
  exact O.elim
 ·rename_i x y z D;have Y:=aH I x fun j G=>U j (by simp[N,Op.operands,Call.operands,G];rw[<-G];exact nK.1 (by rw[D];simp));have Z:=aH I y fun j G=>U j (by simp[N,Op.operands,Call.operands,G];rw[<-G];exact nK.1 (by rw[D];simp));have hz:=aH I z fun j G=>U j (by simp[N,Op.operands,Call.operands,G];rw[<-G];exact nK.1 (by rw[D];simp));have e1:args=#[x,y,z]:=by rw[<-qM (xs:=args),D]
  subst e1;split at O
  ·rename_i k0 m0 k1 m1 k2 m2 g0 g1 g2;rw[g0]at Y;rw[g1]at Z;rw[g2]at hz;exact ar I hd J O (.p _ _ (.im _)) (by
    simp[execOp,N,resolve,invoke,builtin,Y.bc,Z.bc,hz.bc,Builtin.max_,wW])
  exact O.elim
 ·rename_i x y z u v D;have Y:=aH I x fun j G=>U j (by simp[N,Op.operands,Call.operands,G];rw[<-G];exact nK.1 (by rw[D];simp));have Z:=aH I y fun j G=>U j (by simp[N,Op.operands,Call.operands,G];rw[<-G];exact nK.1 (by rw[D];simp));have hz:=aH I z fun j G=>U j (by simp[N,Op.operands,Call.operands,G];rw[<-G];exact nK.1 (by rw[D];simp));have hu:=aH I u fun j G=>U j (by simp[N,Op.operands,Call.operands,G];rw[<-G];exact nK.1 (by rw[D];simp));have hv:=aH I v fun j G=>U j (by simp[N,Op.operands,Call.operands,G];rw[<-G];exact nK.1 (by rw[D];simp));have e1:args=#[x,y,z,u,v]:=by rw[<-qM (xs:=args),D]
  subst e1;split at O
  ·rename_i k0 m0 k1 m1 k2 m2 k3 m3 k4 m4 g0 g1 g2 g3 g4;rw[g0]at Y;rw[g1]at Z;rw[g2]at hz;rw[g3]at hu;rw[g4]at hv;exact ar I hd J O (.p _ _ (.im _)) (by
    simp[execOp,N,resolve,invoke,builtin,Y.bc,Z.bc,hz.bc,hu.bc,hv.bc,Builtin.max_,wW])
  exact O.elim
 exact O.elim
variable {V L:Nat->Prop} {rho:Nat->Value} {s:AS}
theorem tM{o:Oper}{S:Nat->Prop}{a:Act}{w:World}{K:KK}{next:Act->World->Prop}{Q:Exit->Act->World->Prop}{fz:List (Nat×AB)}(D:aU A V L S rho ⟨s.t,app s.h fz⟩ a w)(I:∀d,o.dst=some d->d<A.n)
  (z:∀v eff new S' rho' G w',K v eff new->aU A (mG V o.dst) (nR L new (o.dst.getD 0)) S' rho' ⟨cU s.t o.dst v,app s.h eff⟩ G w'->next G w') {x:AV} {v:Value} (J:K x fz none) (N:aE S w A.C.P L rho (app s.h fz) x v)
  (O:(execOp a.eval o).run A.C.P w=.ok (.value v) w):o.wp A.C.P a w next Q:=
 bS O (z _ _ _ _ _ _ _ J (D.value o.dst I x v N))
theorem ay.FY{S:Nat->Prop}{w:World}{es:List (List PV)}{D:Option Addr}{c l h sz:Nat}(hx:ay S w (.sl es) (.slice D es.length c))(hl:l<=h)(U:h<=es.length)(hc:es.length<=c)
  (hk:∀b off k,D=some ⟨b,off,none⟩->(∀e∈es,e.length=k)->l<h->k=sz):ay S w (.sl ((es.take h).drop l)) (.slice (if c=l then D else D.map (·.add (l*sz))) (h-l) (c-l)):=by
 have hlen:((es.take h).drop l).length=h-l:=by simp;omega
 by_cases I:h-l=0
 ·have:(es.take h).drop l=[]:=gw (by omega);rw[this,I];exact .nil _ _
 obtain⟨Sq,c',hv,hle,bO⟩:=hx.WN;injection hv with e1 e2 e3;subst e1 e3;obtain⟨b,off,k,Y,hb,Z,z⟩:=bO (by intro e;rw[e]at U;simp at U;omega);have PH:=hk b off k Y Z (by omega);subst Y;rw[af (by omega)];show ay S w _ (.slice (some (Addr.add ⟨b,off,none⟩ (l*sz))) (h-l) (c-l));rw[gW,<-hlen];have rK:∀(i:Nat) e,((es.take h).drop l)[i]?=some e->es[l+i]?=some e:=by
  intro i e G;rw[cV,cB]at G;split at G
  ·exact G
  cases G
 refine .sl _ k b (off+l*sz) _ (fun i j=>(w.cell? ⟨b,off+l*sz+i*k+j,none⟩).getD undef) (by rw[hlen];omega) hb (fun e I=>Z e (eM (jT I))) (fun i e j x J N=>?_) fun i e j x J N=>?_
 ·obtain⟨u,O,h4,h5⟩:=z _ e j x (rK i e J) N;have:off+l*sz+i*k+j=off+(l+i)*k+j:=by rw[<-PH,qI];omega
  rw[this,O];exact⟨rfl,h4⟩
 obtain⟨u,O,h4,h5⟩:=z _ e j x (rK i e J) N;have:off+l*sz+i*k+j=off+(l+i)*k+j:=by rw[<-PH,qI];omega
 rw[this,O];exact h5
theorem ep{P:Program}{w:World}(k:IntKind)(i:Int)(y:Nat)(z:BoundsCode)(h:0<=i/\i<=y):(Instr.sliceBound (.int k i) y z).run P w=.ok i.toNat w:=by
 simp[Instr.sliceBound,asIntOf,h.1,h.2]
theorem rL{S:Nat->Prop}{a:Act}{w:World}(_:aU A V L S rho s a w)(G J:Option Operand)(KZ:∀y,G=some y->aE S w A.C.P L rho s.h (ev s.t y) (a.eval y))(K0:∀y,J=some y->aE S w A.C.P L rho s.h (ev s.t y) (a.eval y)):
  ∀(z:Bool) (len D:Nat) (k:IntKind) (m:Int) (k':IntKind) (n:Int),len<=D->(match G with | some y=>ev s.t y | none=>.p (.im (.int .i64 0)))=.p (.im (.int k m))->(match J with | some y=>ev s.t y | none=>.p (.im (.int .i64 len)))=.p (.im (.int k' n))->0<=m->m<=n->n<=len ->
   (Instr.sliceBounds z len D (G.map a.eval) (J.map a.eval) none).run A.C.P w=.ok (m.toNat,n.toNat,D) w:=by
  intro z len D k m k' n Sr N Y h3 h4 h5;have U:∀y,J=some y->a.eval y=.int k' n:=fun y O=>by
   have:=K0 y O;subst O;rw[show ev s.t y=_ from Y]at this;exact this.bc
  have I:∀y,G=some y->a.eval y=.int k m:=fun y O=>by
   have:=KZ y O;subst O;rw[show ev s.t y=_ from N]at this;exact this.bc
  have nb:((n.toNat:Nat):Int)=n:=by omega
  cases J with
  | some yh=>
   have U:=U yh rfl;cases G with
   | some Z=>
    have I:=I Z rfl;cases z<;>simp[Instr.sliceBounds,I,U,ep k' n D _ ⟨by omega,by omega⟩,ep k m n.toNat _ ⟨h3,by omega⟩]
   | none=>
    have mP:m=0:=by simp at N;exact N.2.symm
    subst mP;cases z<;>simp[Instr.sliceBounds,U,ep k' n D _ ⟨by omega,by omega⟩]
  | none=>
   have nG:n=len:=by simp at Y;exact Y.2.symm
   subst nG;cases G with
   | some Z=>
    have I:=I Z rfl;cases z<;>simp[Instr.sliceBounds,I,ep k m len _ ⟨h3,by omega⟩]
   | none=>
    have mP:m=0:=by simp at N;exact N.2.symm
    subst mP;cases z<;>simp[Instr.sliceBounds]
theorem BI{o:Oper}(t:TypeId)(x:Operand)(U Y:Option Operand)(Z:o.op=.slice t x U Y none){S:Nat->Prop}{a:Act}{w:World}{K:KK}{next:Act->World->Prop}{Q:Exit->Act->World->Prop}(hC:aL A.C)(G:aU A V L S rho s a w)
  (hV:∀j,(.tmp j)∈o.op.operands->V j) (hd:∀d,o.dst=some d->d<A.n) (z:ef A.C (ev s.t) s.h t x U Y K)
  (I:∀v eff new S' rho' a' w',K v eff new->aU A (mG V o.dst) (nR L new (o.dst.getD 0)) S' rho' ⟨cU s.t o.dst v,app s.h eff⟩ a' w'->next a' w'):o.wp A.C.P a w next Q:=by
 simp only[ef]at z;have hx:=aH G x fun j hj=>hV j (by simp[Z,Op.operands,hj]);have KZ:∀y,U=some y->aE S w A.C.P L rho s.h (ev s.t y) (a.eval y):=fun y hy=>aH G y fun j hj=>hV j (by simp[Z,Op.operands,hj,hy]);have K0:∀y,Y=some y->aE S w A.C.P L rho s.h (ev s.t y) (a.eval y):=fun y hy=>aH G y fun j hj=>hV j (by simp[Z,Op.operands,hj,hy]);have D:∀(J:Bool) (len O:Nat) (k:IntKind) (m:Int) (k':IntKind) (n:Int),len<=O->(match U with | some y=>ev s.t y | none=>.p (.im (.int .i64 0)))=.p (.im (.int k m))->(match Y with | some y=>ev s.t y | none=>.p (.im (.int .i64 len)))=.p (.im (.int k' n))->0<=m->m<=n->n<=len ->
   (Instr.sliceBounds J len O (U.map a.eval) (Y.map a.eval) none).run A.C.P w=.ok (m.toNat,n.toNat,O) w:=by
  exact rL G U Y KZ K0
 split at z
 ·rename_i size bytes zero eq hT;have dr:=(hC.eL t _ hT).under;simp only at dr;split at z
  ·rename_i st wL;rw[wL]at hx;split at z
   ·rename_i k m k' n h1 h2;obtain⟨⟨h3,h4,h5⟩,z⟩:=z;have hb:=D false st.size st.size k m k' n (aC _) h1 h2 h3 h4 h5;exact ar G hd I z (.p _ _ (.im _)) (by simp[execOp,Z,Instr.sliceAt,Instr.slice,hx.bc,run_underlying dr,hb])
   exact z.elim
  exact z.elim
 ·rename_i e size bytes zero eq hT;have dr:=(hC.eL t _ hT).under;simp only at dr;split at z
  ·exact z.elim
  rename_i te nf;obtain⟨ie,ze,WC,qT,_⟩:=(hC.eL e te nf).info;obtain⟨y,fz,S2,z,aJ,N,nX,hF,wU⟩:=e8 hC G (kM.refl s.h) hx z;split at z
  ·rename_i es;split at z
   ·rename_i k m k' n h1 h2;obtain⟨⟨h3,h4,h5,h6⟩,z⟩:=z;obtain⟨ad,c,hv,hle,_⟩:=N.WN;have hb:=D true es.length c k m k' n hle h1 h2 h3 h4 h5;rw[hv]at N;refine tM aJ hd I z (.p _ _ (N.FY (sz:=te.size) (l:=m.toNat) (h:=n.toNat) (by omega) (by omega) hle fun b off kk Kk iS dv=>?_)) ?_
    ·have hpos:0<es.length:=by omega
     have hm:es[0]∈es:=Al _;rw[<-iS _ hm,h6 _ hm]
    simp[execOp,Z,Instr.sliceAt,Instr.slice,hv,run_underlying dr,hb,Go.sizeOf,typeInfo,WC,qT]
   exact z.elim
  exact z.elim
 exact z.elim
structure Flat(S:Nat->Prop)(w:World)(k:Nat)(es:List (List PV))(xs:List Value):Prop where
 len:xs.length=es.length*k
 row:∀r∈es,r.length=k
 one:∀u∈xs,u.oneCell'=true
 rep:∀(i:Nat) r (j:Nat) x,es[i]?=some r->r[j]?=some x->∃u,xs[i*k+j]?=some u/\ay S w x u
variable {k:Nat} {xs:List Value}
theorem Flat.mono{S S':Nat->Prop}{w w':World}{es:List (List PV)}(h:Flat S w k es xs)(hS:∀b,S b->S' b)(z:∀b,S b->w'.heap[b]?=w.heap[b]?):Flat S' w' k es xs:=
 ⟨h.len,h.row,h.one,fun i r j x D G=>by obtain⟨u,I,J⟩:=h.rep i r j x D G;exact⟨u,I,J.mono hS z⟩⟩
theorem Flat.app{S:Nat->Prop}{w:World}{es fs:List (List PV)}{ys:List Value}(h:Flat S w k es xs)(g:Flat S w k fs ys):Flat S w k (es++fs) (xs++ys):=by
 refine⟨by rw[fj,fj,h.len,g.len,qI],fun r J=>(cD.1 J).elim (h.row r) (g.row r),fun u N=>(cD.1 N).elim (h.one u) (g.one u),fun i r j x D I=>?_⟩;by_cases O:i<es.length
 ·rw[ba O]at D;obtain⟨u,z,G⟩:=h.rep i r j x D I;exact⟨u,by rw[ba (ah z)];exact z,G⟩
 rw[bd (by omega)]at D;obtain⟨u,z,G⟩:=g.rep _ r j x D I;refine⟨u,?_,G⟩;have hm:es.length*k<=i*k:=bZ _ (by omega);rw[bd (by rw[h.len];omega),h.len];rw[aR]at z;rw[<-z];congr 1;omega
theorem Flat.set{S:Nat->Prop}{w:World}{es:List (List PV)}(h:Flat S w k es xs)(i:Nat)(N:i<es.length)(ys:List PV)(vs:List Value)(U:ys.length=k)(Y:vs.length=k)(Z:∀u∈vs,u.oneCell'=true)(G:∀(j:Nat) y u,ys[j]?=some y->vs[j]?=some u->ay S w y u):
  Flat S w k (es.set i ys) (setCells xs (i*k) vs):=by
 have hb:i*k+k<=xs.length:=by rw[h.len,<-lV];exact bZ _ N
 have O:=fun j=>lA vs xs (i*k) j (by rw[Y];exact hb);refine⟨by rw[bL,cu,h.len],fun r G=>?_,fun u hu=>?_,fun a r j x D z=>?_⟩
 ·rcases nJ G with h' | h'
  ·exact h.row r h'
  rw[h'];exact U
 ·obtain⟨j,z⟩:=uU.1 hu;rw[O]at z;split at z
  ·exact Z u (aj z)
  exact h.one u (aj z)
 have kX:=ah z;rw[O];by_cases I:a=i
 ·subst I;rw[bQ N]at D;injection D with D;subst D;rw[qH (by omega),show a*k+j-a*k=j by omega];have:j<vs.length:=by omega
  exact⟨_,aM this,G j x _ z (aM this)⟩
 rw[bY (fun e=>I e.symm)]at D;have nP:=h.row r (aj D);rw[af]
 ·exact h.rep a r j x D z
 rintro⟨h2,h3⟩;rcases jV I with J | J
 ·have:=bZ k (uV J);rw[lV]at this;omega
 have:=bZ k (uV J);rw[lV]at this;omega
theorem Flat.zero(G:Bool)(S:Nat->Prop)(w:World){P:Program}{t:TypeId}{ti:TI}(h:jw P t ti)(U:0<ti.size)(n:Nat):Flat S w ti.size (List.replicate n (ti.zero.map (Kc G))) ((Array.range (n*ti.size)).map (ti.zero.toArray[· % ti.zero.toArray.size]!)).toList:=by
 have D:=h.Dk;obtain⟨_,_,_,_,_,_,_,Y⟩:=h.info;have N:∀j,j<n*ti.size->((Array.range (n*ti.size)).map (ti.zero.toArray[· % ti.zero.toArray.size]!)).toList[j]?=ti.zero[j % ti.size]?:=by
  intro j z;have Z:j % ti.size<ti.zero.length:=by rw[D];exact di _ U
  simp[z,D];rw[aM Z];rfl
 refine⟨by simp,fun r I=>by rw[qN I,ct,D],fun u hu=>?_,fun i r j x O z=>?_⟩
 ·obtain⟨j,z⟩:=uU.1 hu;have J:=ah z;rw[N j (by simpa using J)]at z;exact Y u (aj z)
 have iR:i<n:=by have:=ah O;simpa using this
 have I:r=ti.zero.map (Kc G):=qN (aj O);subst I;have J:j<ti.size:=by have:=ah z;rw[ct,D]at this;exact this
 rw[ao]at z;obtain⟨v,hv,rfl⟩:=az.1 z;have hb:i*ti.size+j<n*ti.size:=by
  have:=bZ ti.size (uV iR);rw[lV]at this;omega
 refine⟨v,?_,Au G S w v⟩;rw[N _ hb,Nat.mul_comm,Nat.mul_add_mod,Nat.mod_eq_of_lt J];exact hv
variable {e:TypeId}
theorem an.of_flat{P:Program}{S:Nat->Prop}{w:World}{i:TypeInfo}{es:List (List PV)}{v:Value}(D:P.info? e=some i)(G:0<i.size)(I:w.ownsRow 0 e i.size v es.length xs)(z:Flat S w i.size es xs):an P w (ay S w) e es v:=
 ⟨i,xs,D,G,I,z.row,z.one,z.rep⟩
theorem an.flat{P:Program}{S:Nat->Prop}{w:World}{i:TypeInfo}{es:List (List PV)}{v:Value}(G:P.info? e=some i)(h:an P w (ay S w) e es v):∃xs,0<i.size/\w.ownsRow 0 e i.size v es.length xs/\Flat S w i.size es xs:=by
 obtain⟨i',xs,z,I,D,J,N,O⟩:=h;rw[G]at z;injection z with z;subst z;exact⟨xs,I,D,⟨D.1,J,N,O⟩⟩
theorem ay.flat{S:Nat->Prop}{w:World}{es:List (List PV)}{v:Value}(hx:ay S w (.sl es) v)(O:∀r∈es,r.length=k):∃U c xs,v=.slice U es.length c/\Flat S w k es xs/\(es≠[]->∃b off,U=some ⟨b,off,none⟩/\∀(j:Nat) u,xs[j]?=some u->w.cell? ⟨b,off+j,none⟩=some u):=by
 obtain⟨U,c,hv,hle,bO⟩:=hx.WN;by_cases Y:es=[]
 ·subst Y;exact⟨U,c,[],hv,⟨by simp,by simp,by simp,by simp⟩,fun h=>absurd rfl h⟩
 obtain⟨b,off,k',rfl,hb,Dz,z⟩:=bO Y;have IF:k'=k:=by
  obtain⟨r,Z⟩:=aV _ Y;rw[<-Dz r Z,O r Z]
 subst IF;have key:∀q,q<es.length*k'->∃u,w.cell? ⟨b,off+q,none⟩=some u/\u.oneCell'=true:=by
  intro q I;have FZ:0<k':=Nat.pos_of_ne_zero fun h=>by rw[h]at I;simp at I
  have hi:q / k' < es.length:=(Nat.div_lt_iff_lt_mul FZ).2 I;have J:q % k' < k':=di _ FZ;have Z:=O _ (Al hi);obtain⟨u,D,G,_⟩:=z (q / k') _ (q % k') _ (aM hi) (aM (by omega));refine⟨u,?_,G⟩;rw[<-D];congr 2;have:=Nat.div_add_mod q k';rw[Nat.mul_comm]at this;omega
 refine⟨_,c,(List.range (es.length*k')).map fun q=>(w.cell? ⟨b,off+q,none⟩).getD undef,hv,⟨by simp,O,fun u hu=>?_,fun i r j x D G=>?_⟩,fun _=>⟨b,off,rfl,fun j u J=>?_⟩⟩
 ·simp at hu;obtain⟨q,I,rfl⟩:=hu;obtain⟨u,D,G⟩:=key q I;rw[D];exact G
 ·obtain⟨u,h3,h4,h5⟩:=z i r j x D G;refine⟨u,?_,h5⟩;have IG:=ah D;have N:=ah G;rw[O r (aj D)]at N;have o9:i*k'+j<es.length*k':=by
   have:=bZ k' (uV IG);rw[lV]at this;omega
  rw[ao,fG o9];simp only[cW];rw[<-br,h3];rfl
 have N:=ah J;simp at N;rw[ao,fG N]at J;obtain⟨u',D,_⟩:=key j N;simp[D]at J;rw[D,J]
def Src(S:Nat->Prop)(w:World)(es:List (List PV))(v:Value):Prop:=
 ∀k,(∀r∈es,r.length=k)->∃ad c xs,v=.slice ad es.length c/\Flat S w k es xs/\(es≠[]->∃b off,ad=some ⟨b,off,none⟩/\∀(j:Nat) u,xs[j]?=some u->w.cell? ⟨b,off+j,none⟩=some u)
theorem an.src{P:Program}{S:Nat->Prop}{w:World}{es:List (List PV)}{v:Value}(h:an P w (ay S w) e es v):Src S w es v:=by
 intro k U;obtain⟨i,xs,h1,h2,D,J,Y,Z⟩:=h;by_cases G:es=[]
 ·subst G;rcases D.2 with⟨rfl,_⟩ | ⟨g,z,I,rfl,_⟩
  ·exact⟨none,0,[],rfl,⟨by simp,by simp,by simp,by simp⟩,fun h=>absurd rfl h⟩
  exact⟨_,z,[],rfl,⟨by simp,by simp,by simp,by simp⟩,fun h=>absurd rfl h⟩
 have IF:k=i.size:=by
  obtain⟨r,N⟩:=aV _ G;rw[<-U r N,J r N]
 subst IF;rcases D.2 with⟨_,hn⟩ | ⟨g,z,I,O,_⟩
 ·exact absurd (gw hn) G
 refine⟨_,z,xs,O,⟨D.1,J,Y,Z⟩,fun _=>⟨g,0,rfl,fun j u hj=>?_⟩⟩;have:=D.cells (g:=g) (by rw[O];rfl) j u hj;rw[gW]at this;exact this
theorem yI{S:Nat->Prop}{a:Act}{w:World}(D:aU A V L S rho s a w){x:AV}{v:Value}(I:aE S w A.C.P L rho s.h x v){K:List (List PV)->Prop}(z:dV s.h x K):∃es,K es/\Src S w es v:=by
 unfold dV at z;split at z
 ·exact⟨_,z,fun k J=>I.cb.flat J⟩
 ·have:v=.slice none 0 0:=by cases I;rfl
  exact⟨[],z,fun k J=>⟨none,0,[],this,⟨by simp,by simp,by simp,by simp⟩,fun h=>absurd rfl h⟩⟩
 ·rename_i id;split at z
  ·rename_i e es ai;obtain⟨N,O⟩:=I.bu (by rw[ai];trivial);have G:=D.hp id N;rw[ai]at G;exact⟨es,z,by rw[O];exact an.src G⟩
  ·rename_i es ai;obtain⟨N,O⟩:=I.bu (by rw[ai];trivial);have G:=D.hp id N;rw[ai]at G;exact⟨es,z,by rw[O];exact fun k J=>ay.flat G J⟩
  exact z.elim
 exact z.elim
theorem jn{P:Program}(w:World)(t Z e:TypeId)(i:TypeInfo)(z:Value)(O:P.underlying t=some (.slice e))(U:P.info? e=some i)(hz:i.zero=some z)(NG:z.cells.size=i.size)(hsz:0<i.size)
  (v:Value) (n:Nat) (xs:List Value) (hown:w.ownsRow 0 e i.size v n xs) (ad:Option Addr) (m c:Nat) (D:List Value) (hl:D.length=m*i.size)
  (J:m≠0->∃b off,ad=some ⟨b,off,none⟩/\∀(j:Nat) u,D[j]?=some u->w.cell? ⟨b,off+j,none⟩=some u) (h1:∀u∈D,u.oneCell'=true) (MV:n+m<=maxLen) (yJ:(n+m)*i.bytes<=140737488355328):
  ∃Y w',(Builtin.append_ #[t,t] Z #[v,.slice ad m c]).run P w=.ok Y w'/\w'.ownsRow 0 e i.size Y (n+m) (xs++D)/\w.grownBy w' v.ownBlock/\(Y.ownBlock=v.ownBlock\/Y.ownBlock=some w.heap.size):=by
 by_cases hm:m=0
 ·subst hm;have hn:D=[]:=gw (by simpa using hl);subst hn;refine⟨v,w,?_,by simpa using hown,⟨rfl,rfl,rfl,aC _,fun _ _ _=>rfl⟩,.inl rfl⟩;have hf:(Builtin.firstCells i.size 0 (.slice ad 0 c)).run P w=.ok #[] w:=by cases ad<;>simp[Builtin.firstCells,loadCells,loadCellsFrom]
  rcases hown.2 with⟨rfl,rfl⟩ | ⟨g,I,N,rfl,_,_,Ki,_⟩
  ·simp[Builtin.append_,run_underlying O,sizeOf,typeInfo,U,Builtin.lenOf,hf]
  simp[Builtin.append_,run_underlying O,sizeOf,typeInfo,U,Builtin.lenOf,Ki,hf,storeCells]
 obtain⟨b,off,rfl,hc⟩:=J hm;have vg:∀(j:Nat) u,D[j]?=some u->w.cell? ((⟨b,off,none⟩:Addr).add j)=some u:=fun j u hj=>by rw[gW];exact hc j u hj
 obtain⟨Y,w',hr,h2,h3,_⟩:=run_append_own (P:=P) w 0 t Z e i z i.size i.bytes O U hz rfl rfl NG hsz v n xs hown ⟨b,off,none⟩ m c D hl vg h1 MV yJ (nI _);refine⟨Y,w',hr,h2,h3,?_⟩;have NH:n+m<=9223372036854775807:=by simp only[maxLen]at MV;omega
 rcases hown.2 with⟨rfl,rfl⟩ | ⟨g,I,N,rfl,_,hg,Ki,Ss,WI,PI⟩
 ·have G:=run_append_nil (P:=P) w t Z e i z O U hz ⟨b,off,none⟩ m c D hl vg (by omega) (by omega) (by have hb:=yJ;simp only[ae]at hb;omega);rw[hr]at G;injection G with G;rw[G];exact .inr rfl
 by_cases Hx:n+m<=I
 ·have NI:n*i.size+D.length<=N.size:=by rw[hl,WI,<-qI];exact bZ _ Hx
  have G:=run_append_room (P:=P) w t Z e i O U g n I N hg ⟨b,off,none⟩ m c D hl vg h1 Hx NI;rw[hr]at G;injection G with G;rw[G];exact .inl rfl
 have G:=run_append_grow (P:=P) w t Z e i z O U hz ⟨g,0,none⟩ n I xs hown.1 (hown.cells (g:=g) rfl) ⟨b,off,none⟩ m c D hl vg (by omega) (by omega) (growslice_fits (by omega) yJ);rw[hr]at G;injection G with G;rw[G];exact .inr rfl
theorem cm{v:Value}{a:Option Addr}{n c:Nat}(h:v=.slice a n c):v.ownBlock=bH v:=by
 subst h;cases a<;>rfl
theorem bP{w:World}{base:Nat}{size:Nat}{v:Value}{n:Nat}(h:w.ownsRow base e size v n xs):∃a c,v=.slice a n c:=by
 rcases h.2 with⟨rfl,rfl⟩ | ⟨g,z,cur,rfl,_⟩
 ·exact⟨none,0,rfl⟩
 exact⟨_,z,rfl⟩
theorem gj{w:World}{es:List (List HX)}{v:Value}{Z:List Value}(hown:w.ownsRow 0 e k v es.length Z)(hk:∀r∈es,r.length=k){g:Nat}(J:bH v=some g){a j:Nat}{u:Value}:
  bI w es g a j u↔∃r e' I,es[a]?=some r/\r[j]?=some (.row e' I)/\Z[a*k+j]?=some u:=by
 rcases hown.2 with⟨hn,_⟩ | ⟨g',cap,N,hv,_,wI,k1,k2,k3,k4⟩
 ·rw[hn]at J;cases J
 rw[hv]at J;obtain rfl:=ed.1 J;have PJ:∀{r:List HX} {x:HX},es[a]?=some r->r[j]?=some x->r.length=k/\a*k+j<es.length*k:=fun {r x} D G=>by
  have hr:=hk r (aj D);have z:=ah D;have O:=ah G;have:=bZ k (uV z);rw[lV]at this;exact⟨hr,by omega⟩
 constructor
 ·rintro⟨r,e',I,c,ty,m,D,G,z,O⟩;rw[wI]at z;injection z with z;injection z with z;subst z;obtain⟨U,Y⟩:=PJ D G;refine⟨r,e',I,D,G,?_⟩;rw[<-k4,aF Y];rw[U]at O;simpa using O
 rintro⟨r,e',I,D,G,z⟩;obtain⟨U,Y⟩:=PJ D G;refine⟨r,e',I,N,_,_,D,G,wI,?_⟩;rw[<-k4,aF Y]at z;rw[U];simpa using z
theorem aU.NJ{S:Nat->Prop}{a:Act}{w:World}(I:aU A V L S rho s a w)(hC:aL A.C){id d:Nat}(eO:L id){xs:List (List HX)}(ai:s.h id=.ai e xs){ys:List (List PV)}{Z:TypeInfo}(WC:A.C.P.info? e=some Z)
  (hdb:d<100000) (hL:¬L d) (hb:s.h d=.ai e (xs++ys.map o8)) {J:List Value} (tN:Flat S w Z.size ys J) {v':Value} {w':World} {ws:List Value} (hown:w.ownsRow 0 e Z.size (rho id) xs.length ws) (h2:w'.ownsRow 0 e Z.size v' (xs.length+ys.length) (ws++J)) (h3:w.grownBy w' (bH (rho id))) (h4:bH v'=bH (rho id)\/bH v'=some w.heap.size):
  aU A V (fun i=>L i\/i=d) S (ax rho d v') ⟨s.t,ax s.h id .none⟩ a w':=by
 have aN:(s.h id).live:=by rw[ai];trivial
 have DA:id≠d:=fun e=>hL (e▸eO);have hh:=I.hp id eO;rw[ai]at hh;obtain⟨hR,hS⟩:=hh;have K1:=hS.yH hR;obtain⟨i0,DB,k1,k2,k3,k4,k5,k6⟩:=K1;rw[WC]at k1;injection k1 with k1;subst k1;have KY:DB=ws:=by
  rcases k3.2 with⟨D,U⟩ | ⟨g,cap,cur,D,_,Y,q4,q5,q6,q7⟩
  ·have a1:DB=[]:=gw (by rw[k3.1,U];simp);have a2:ws=[]:=gw (by rw[hown.1,U];simp);rw[a1,a2]
  rcases hown.2 with⟨r1,_⟩ | ⟨g',NK,Ds,r1,_,r3,r4,r5,r6,r7⟩
  ·rw[r1]at D;cases D
  rw[r1]at D;injection D with D;injection D with D;injection D with D;subst D;rw[Y]at r3;injection r3 with r3;injection r3 with r3;subst r3;rw[<-q7,<-r7]
 subst KY;have yK:∀r∈ys.map o8,r.length=Z.size:=fun r hr=>by
  obtain⟨q,hq,rfl⟩:=fh.1 hr;rw[o8,ct];exact tN.row q hq
 have nY:∀r∈xs++ys.map o8,r.length=Z.size:=fun r hr=>(cD.1 hr).elim (k4 r) (yK r);have wX:w'.ownsRow 0 e Z.size v' (xs++ys.map o8).length (DB++J):=by rw[fj,ct];exact h2
 have F0:DB.length=xs.length*Z.size:=k3.1;have cc:∀g' k j u,bH v'=some g'->bI w' (xs++ys.map o8) g' k j u->∃g,bH (rho id)=some g/\bI w xs g k j u:=fun g' k j u eY hc=>by
  obtain⟨r,e',kS,D,U,Y⟩:=(gj wX nY eY).1 hc;by_cases hk:k<xs.length
  ·rw[ba hk]at D;have kX:=ah U;have nP:=k4 r (aj D);have:=bZ Z.size (uV hk);rw[lV]at this;rw[ba (by omega)]at Y;obtain⟨g,u2,N,g2,_⟩:=hR.rE D U;refine⟨g,N,(gj k3 k4 N).2 ⟨r,e',kS,D,U,Y⟩⟩
  rw[bd (by omega),ao]at D;obtain⟨q,_,rfl⟩:=az.1 D;rw[o8,ao]at U;obtain⟨z,_,hz⟩:=az.1 U;cases hz
 have yL:∀g k j u b,bH (rho id)=some g->bI w xs g k j u->bH u=some b->hasB w (s.h id) (rho id) b:=fun g k j u b h1 h5 h6=>by rw[ai];exact .inr (.inr (.inl ⟨_,_,_,_,_,_,rfl,h1,h5,h6⟩))
 have T0:fu S S w w L L rho rho s.h (ax s.h id .none):=⟨fun _ h=>h,fun _ _=>rfl,fun j O=>⟨by
   rcases aD s.h id .none j with⟨rfl,h⟩ | ⟨_,h⟩
   ·rw[h]at O;exact O.elim
   ·rw[h]at O;exact O,fun h=>⟨h,rfl⟩⟩,fun j e' O=>by
   rcases aD s.h id .none j with⟨rfl,h⟩ | ⟨_,h⟩
   ·rw[h]at O;cases O
   rw[h]at O;exact O⟩
 have wY:∀k,k<w.heap.size->bH (rho id)≠some k->w'.heap[k]?=w.heap[k]?:=fun k hk hn=>h3.block k hk fun e=>hn e.symm;refine (I.kill id).jA hC d (.ai e (xs++ys.map o8)) hdb hL (by show ax s.h id .none d=_;rw[au _ _ DA.symm];exact hb) w' h3.os h3.tape h3.output h3.size (fun k=>hasB w (s.h id) (rho id) k) (fun k hk hn=>wY k hk fun h=>hn (.inl h)) (fun k hk=>?_) v' (fun g G=>?_) (fun T=>?_)
 ·obtain⟨D,U,Y⟩:=I.lv id k eO aN hk;refine⟨U,fun i hi li cK=>?_,Y⟩;have fE:(ax s.h id .none i).live:=li;rcases aD s.h id .none i with⟨rfl,h⟩ | ⟨bO,h⟩
  ·rw[h]at fE;exact fE.elim
  rw[h]at fE;exact bO (I.dj i id k hi eO fE aN (cx bO cK) hk)
 ·rcases G with G | ⟨cs,g',h,_⟩ | ⟨e',bW,g',k',j,u,D,U,Y,q4⟩ | ⟨_,_,_,_,_,h,_⟩
  rotate_right
  ·cases h
  ·obtain⟨a1,c1,AA⟩:=bP h2;refine⟨(h2.lt g (by rw[cm AA];exact G)).2,?_⟩;rcases h4 with h | h
   ·exact .inr (.inl (h▸G))
   rw[h]at G;injection G with G;exact .inl (by omega)
  ·cases h
  injection D with D NL;subst D NL;obtain⟨g0,N,g2⟩:=cc _ _ _ _ U Y;have Yf:=yL _ _ _ _ _ N g2 q4;exact⟨bg (I.lv id g eO aN Yf).1 h3.size,.inr Yf⟩
 show an _ _ _ _ _ (ax rho d v' d)/\kU _ _ (ax rho d v' d);rw[ak];refine⟨⟨Z,DB++J,WC,k2,wX,nY,fun u hu=>(cD.1 hu).elim (k5 u) (tN.one u),fun p r j x hp O=>?_⟩,fun g k j u b G hc dM=>?_,fun g k j k' j' u u' b G hc Fx BJ o9=>?_⟩
 ·by_cases hk:p<xs.length
  ·rw[ba hk]at hp;obtain⟨u,hu,nF,IH⟩:=k6 p r j x hp O;refine⟨u,by rw[ba (ah hu)];exact hu,?_⟩;cases x with
   | av x=>exact aE.bA T (aE.bA T0 nF)
   | row e' kS=>
    refine an.bA (show an _ _ _ _ _ _ from nF) (fun b dM=>wY b ?_ fun h=>IH _ _ rfl b b h dM rfl) (fun x u hu=>hu.mono T.hS T.keep);obtain⟨g,u2,N,g2,_⟩:=hR.rE hp O;have:u2=u:=by
     obtain⟨r',_,_,D,U,Y⟩:=(gj k3 k4 N).1 g2;rw[hu]at Y;injection Y with Y;exact Y.symm
    subst this;exact (I.lv id b eO aN (yL _ _ _ _ _ N g2 dM)).1
  rw[bd (by omega),ao]at hp;obtain⟨q,hq,rfl⟩:=az.1 hp;rw[o8,ao]at O;obtain⟨z,hz,rfl⟩:=az.1 O;obtain⟨u,hu,nF⟩:=tN.rep _ _ _ _ hq hz;refine⟨u,?_,va (nF.mono T.hS T.keep)⟩;have hm:xs.length*Z.size<=p*Z.size:=bZ _ (by omega);rw[bd (by rw[F0];omega),F0];rw[aR]at hu;rw[<-hu];congr 1;omega
 ·obtain⟨g0,N,g2⟩:=cc _ _ _ _ G hc;rcases h4 with h | h
  ·rw[h,N]at G;injection G with G;subst G;exact hS.top _ _ _ _ _ N g2 dM
  rw[h]at G;injection G with G;have:=(I.lv id b eO aN (yL _ _ _ _ _ N g2 dM)).1;omega
 obtain⟨g0,N,g2⟩:=cc _ _ _ _ G hc;obtain⟨QS,Yu,NM⟩:=cc _ _ _ _ G Fx;rw[N]at Yu;injection Yu with Yu;subst Yu;exact hS.dis _ _ _ _ _ _ _ _ N g2 NM BJ o9
structure Hy(R:HX->Value->Prop)(k:Nat)(es:List (List HX))(xs:List Value):Prop where
 len:xs.length=es.length*k
 row:∀r∈es,r.length=k
 one:∀u∈xs,u.oneCell'=true
 rep:∀(i:Nat) r (j:Nat) x,es[i]?=some r->r[j]?=some x->(∃y,x=.av y)/\∃u,xs[i*k+j]?=some u/\R x u
theorem wZ:∀{r:List HX} {j:Nat} {x:HX},Df r=true->r[j]?=some x->∃y,x=.av y
 | [],j,x,_,h=>by simp at h
 | .row _ _::_,j,x,h,_=>by cases h
 | .av y::r,j,x,h,hj=>by
  cases j with
  | zero=>simp at hj;exact⟨y,hj.symm⟩
  | succ j=>exact wZ (r:=r) h (by simpa using hj)
theorem aU.K2{S:Nat->Prop}{a:Act}{w:World}(G:aU A V L S rho s a w)(hC:aL A.C){id d:Nat}(eO:L id){xs:List (List HX)}(ai:s.h id=.ai e xs){ys:List (List HX)}{U:TypeInfo}(WC:A.C.P.info? e=some U)
  (hdb:d<100000) (hL:¬L d) (hb:s.h d=.ai e (xs++ys)) {I:List Value} (tN:Hy (iY S w A.C.P L rho s.h) U.size ys I) {v':Value} {w':World} {ws:List Value} (hown:w.ownsRow 0 e U.size (rho id) xs.length ws) (h2:w'.ownsRow 0 e U.size v' (xs.length+ys.length) (ws++I)) (h3:w.grownBy w' (bH (rho id))) (h4:bH v'=bH (rho id)\/bH v'=some w.heap.size):
  aU A V (fun i=>L i\/i=d) S (ax rho d v') ⟨s.t,ax s.h id .none⟩ a w':=by
 have aN:(s.h id).live:=by rw[ai];trivial
 have DA:id≠d:=fun e=>hL (e▸eO);have hh:=G.hp id eO;rw[ai]at hh;obtain⟨hR,hS⟩:=hh;have K1:=hS.yH hR;obtain⟨i0,DB,k1,k2,k3,k4,k5,k6⟩:=K1;rw[WC]at k1;injection k1 with k1;subst k1;have KY:DB=ws:=by
  rcases k3.2 with⟨z,Y⟩ | ⟨g,cap,cur,z,_,N,q4,q5,q6,q7⟩
  ·have a1:DB=[]:=gw (by rw[k3.1,Y];simp);have a2:ws=[]:=gw (by rw[hown.1,Y];simp);rw[a1,a2]
  rcases hown.2 with⟨r1,_⟩ | ⟨g',NK,Ds,r1,_,r3,r4,r5,r6,r7⟩
  ·rw[r1]at z;cases z
  rw[r1]at z;injection z with z;injection z with z;injection z with z;subst z;rw[N]at r3;injection r3 with r3;injection r3 with r3;subst r3;rw[<-q7,<-r7]
 subst KY;have yK:∀r∈ys,r.length=U.size:=tN.row;have nY:∀r∈xs++ys,r.length=U.size:=fun r hr=>(cD.1 hr).elim (k4 r) (yK r);have wX:w'.ownsRow 0 e U.size v' (xs++ys).length (DB++I):=by rw[fj];exact h2
 have F0:DB.length=xs.length*U.size:=k3.1;have cc:∀g' k j u,bH v'=some g'->bI w' (xs++ys) g' k j u->∃g,bH (rho id)=some g/\bI w xs g k j u:=fun g' k j u eY hc=>by
  obtain⟨r,e',kS,z,Y,N⟩:=(gj wX nY eY).1 hc;by_cases Z:k<xs.length
  ·rw[ba Z]at z;have kX:=ah Y;have nP:=k4 r (aj z);have:=bZ U.size (uV Z);rw[lV]at this;rw[ba (by omega)]at N;obtain⟨g,u2,J,g2,_⟩:=hR.rE z Y;refine⟨g,J,(gj k3 k4 J).2 ⟨r,e',kS,z,Y,N⟩⟩
  rw[bd (by omega)]at z;obtain⟨⟨y,hy⟩,_⟩:=tN.rep _ _ _ _ z Y;cases hy
 have yL:∀g k j u b,bH (rho id)=some g->bI w xs g k j u->bH u=some b->hasB w (s.h id) (rho id) b:=fun g k j u b h1 h5 h6=>by rw[ai];exact .inr (.inr (.inl ⟨_,_,_,_,_,_,rfl,h1,h5,h6⟩))
 have T0:fu S S w w L L rho rho s.h (ax s.h id .none):=⟨fun _ h=>h,fun _ _=>rfl,fun j O=>⟨by
   rcases aD s.h id .none j with⟨rfl,h⟩ | ⟨_,h⟩
   ·rw[h]at O;exact O.elim
   ·rw[h]at O;exact O,fun h=>⟨h,rfl⟩⟩,fun j e' O=>by
   rcases aD s.h id .none j with⟨rfl,h⟩ | ⟨_,h⟩
   ·rw[h]at O;cases O
   rw[h]at O;exact O⟩
 have wY:∀k,k<w.heap.size->bH (rho id)≠some k->w'.heap[k]?=w.heap[k]?:=fun k Z hn=>h3.block k Z fun e=>hn e.symm;refine (G.kill id).jA hC d (.ai e (xs++ys)) hdb hL (by show ax s.h id .none d=_;rw[au _ _ DA.symm];exact hb) w' h3.os h3.tape h3.output h3.size (fun k=>hasB w (s.h id) (rho id) k) (fun k Z hn=>wY k Z fun h=>hn (.inl h)) (fun k Z=>?_) v' (fun g D=>?_) (fun T=>?_)
 ·obtain⟨z,Y,N⟩:=G.lv id k eO aN Z;refine⟨Y,fun i hi li cK=>?_,N⟩;have fE:(ax s.h id .none i).live:=li;rcases aD s.h id .none i with⟨rfl,h⟩ | ⟨bO,h⟩
  ·rw[h]at fE;exact fE.elim
  rw[h]at fE;exact bO (G.dj i id k hi eO fE aN (cx bO cK) Z)
 ·rcases D with D | ⟨cs,g',h,_⟩ | ⟨e',bW,g',k',j,u,z,Y,N,q4⟩ | ⟨_,_,_,_,_,h,_⟩
  rotate_right
  ·cases h
  ·obtain⟨a1,c1,AA⟩:=bP h2;refine⟨(h2.lt g (by rw[cm AA];exact D)).2,?_⟩;rcases h4 with h | h
   ·exact .inr (.inl (h▸D))
   rw[h]at D;injection D with D;exact .inl (by omega)
  ·cases h
  injection z with z NL;subst z NL;obtain⟨g0,J,g2⟩:=cc _ _ _ _ Y N;have Yf:=yL _ _ _ _ _ J g2 q4;exact⟨bg (G.lv id g eO aN Yf).1 h3.size,.inr Yf⟩
 show an _ _ _ _ _ (ax rho d v' d)/\kU _ _ (ax rho d v' d);rw[ak];refine⟨⟨U,DB++I,WC,k2,wX,nY,fun u hu=>(cD.1 hu).elim (k5 u) (tN.one u),fun p r j x hp O=>?_⟩,fun g k j u b D hc dM=>?_,fun g k j k' j' u u' b D hc Fx BJ o9=>?_⟩
 ·by_cases Z:p<xs.length
  ·rw[ba Z]at hp;obtain⟨u,hu,nF,IH⟩:=k6 p r j x hp O;refine⟨u,by rw[ba (ah hu)];exact hu,?_⟩;cases x with
   | av x=>exact aE.bA T (aE.bA T0 nF)
   | row e' kS=>
    refine an.bA (show an _ _ _ _ _ _ from nF) (fun b dM=>wY b ?_ fun h=>IH _ _ rfl b b h dM rfl) (fun x u hu=>hu.mono T.hS T.keep);obtain⟨g,u2,J,g2,_⟩:=hR.rE hp O;have:u2=u:=by
     obtain⟨r',_,_,z,Y,N⟩:=(gj k3 k4 J).1 g2;rw[hu]at N;injection N with N;exact N.symm
    subst this;exact (G.lv id b eO aN (yL _ _ _ _ _ J g2 dM)).1
  rw[bd (by omega)]at hp;obtain⟨⟨y,rfl⟩,u,hu,nF⟩:=tN.rep _ _ _ _ hp O;refine⟨u,?_,aE.bA T (aE.bA T0 nF)⟩;have hm:xs.length*U.size<=p*U.size:=bZ _ (by omega);rw[bd (by rw[F0];omega),F0];rw[aR]at hu;rw[<-hu];congr 1;omega
 ·obtain⟨g0,J,g2⟩:=cc _ _ _ _ D hc;rcases h4 with h | h
  ·rw[h,J]at D;injection D with D;subst D;exact hS.top _ _ _ _ _ J g2 dM
  rw[h]at D;injection D with D;have:=(G.lv id b eO aN (yL _ _ _ _ _ J g2 dM)).1;omega
 obtain⟨g0,J,g2⟩:=cc _ _ _ _ D hc;obtain⟨QS,Yu,NM⟩:=cc _ _ _ _ D Fx;rw[J]at Yu;injection Yu with Yu;subst Yu;exact hS.dis _ _ _ _ _ _ _ _ J g2 NM BJ o9
theorem BK{o:Oper}(c:Call)(aq:o.op=.call c)(hc:c.callee=.builtin .append):eD A o:=by
 intro V L S rho s a w K next Q hC D hV hd z hn N
 obtain⟨callee,args,argTypes⟩:=c;simp only at hc;subst hc;simp only[aZ,aq,Ta,dK]at z;split at z
 ·rename_i x y t t' O Dy;have hx:=aH D x fun j hj=>hV j (by simp[aq,Op.operands,Call.operands,hj];rw[<-hj];exact nK.1 (by rw[O];simp));have hy:=aH D y fun j hj=>hV j (by simp[aq,Op.operands,Call.operands,hj];rw[<-hj];exact nK.1 (by rw[O];simp));have e1:args=#[x,y]:=by rw[<-qM (xs:=args),O]
  have e2:argTypes=#[t,t']:=by rw[<-qM (xs:=argTypes),Dy]
  subst e1 e2;split at z
  ·rename_i e size bytes zero eq NN hT;have NN:=dC NN;subst NN;have dr:=(hC.eL t _ hT).under;simp only at dr;split at z
   ·rename_i te nf;obtain⟨ie,ze,WC,qT,BL,DC,DD,ga⟩:=(hC.eL e te nf).info;have Kl:=(hC.eL e te nf).Dk;split at z
    ·rename_i J;have J:0<ie.size:=by rw[qT];exact Tj J
     split at z
     ·rename_i ys o_;unfold nd at o_;split at o_
      case h_2=>cases o_
      rename_i QT Xz;split at o_
      case h_2=>cases o_
      rename_i QU es Hz;split at o_
      case h_2=>cases o_
      rename_i eA;injection o_ with o_;subst o_;simp only[fH]at eA;have Y:=dC eA.1;subst Y;rw[Xz]at hy;split at z
      case h_2=>exact z.elim
      rename_i id Dw;rw[Dw]at hx;split at z
      case h_2=>exact z.elim
      rename_i e' xs ai;split at z
      case h_2=>exact z.elim
      rename_i Y;have Y:=dC Y;subst Y;obtain⟨⟨h1,h2,Z⟩,z⟩:=z;obtain⟨hL,hb⟩:=hn _ _ _ z;obtain⟨eO,hv⟩:=hx.bu (by rw[ai];trivial);obtain⟨QV,PK⟩:=hy.bu (by rw[Hz];trivial);have hh:=D.hp id eO;rw[ai]at hh;obtain⟨⟨i0,ws,Fy,_,hown,_⟩,_⟩:=hh;rw[WC]at Fy;injection Fy with Fy;subst Fy;have PL:=D.hp QT QV;rw[Hz]at PL;obtain⟨⟨i1,G,MW,_,DE,K3,K4,NO⟩,_⟩:=PL;rw[WC]at MW;injection MW with MW;subst MW;have tN:Hy (iY S w A.C.P L rho s.h) ie.size es G:=⟨DE.1,K3,K4,fun i r j x hi hj=>by
       obtain⟨u,hu,U⟩:=NO i r j x hi hj;exact⟨wZ (cC.1 eA.2 r (aj hi)) hj,u,hu,U⟩⟩
      obtain⟨ad,c',K5,I⟩:∃ad c',a.eval y=.slice ad es.length c'/\(es.length≠0->∃b off,ad=some ⟨b,off,none⟩/\∀(j:Nat) u,G[j]?=some u->w.cell? ⟨b,off+j,none⟩=some u):=by
       rcases DE.2 with⟨II,MX⟩ | ⟨g,cap,cur,II,_⟩
       ·exact⟨none,0,by rw[PK,II,MX],fun h=>absurd MX h⟩
       refine⟨_,cap,by rw[PK,II],fun _=>⟨g,0,rfl,fun j u hj=>?_⟩⟩;have:=DE.cells (g:=g) (by rw[II];rfl) j u hj;rw[gW]at this;exact this
      obtain⟨v',w',U,q2,q3,q4⟩:=jn (P:=A.C.P) w t o.type e' ie ze dr WC DC (by rw[DD];simp[Kl,qT]) J (rho id) xs.length ws hown ad es.length c' G tN.len
       I tN.one (by simp only[maxLen];omega) (by rw[BL];exact h2)
      obtain⟨a0,c0,IJ⟩:=bP hown;obtain⟨a1,c1,AA⟩:=bP q2;rw[cm IJ]at q3 q4;rw[cm AA]at q4;have aJ:=D.K2 hC eO ai WC (D.gT hd) hL hb tN hown q2 q3 q4;exact bS (by simp[execOp,aq,resolve,invoke,builtin,hv,K5,U]) (N _ _ _ S _ _ _ z (aJ.value o.dst hd _ _ (.ow _ _ fun _=>⟨.inr rfl,(ak _ _ _).symm⟩)))
     obtain⟨ys,z,K6⟩:=yI D hy z;have main:∀(xs:List (List PV)) (v:Value) (ws:List Value) (s2:AS),a.eval x=v->w.ownsRow 0 e ie.size v xs.length ws->Flat S w ie.size xs ws->(∀r∈ys,r.length=te.size)->(xs.length+ys.length)*te.bytes<=140737488355328->xs.length+ys.length<=140737488355328 ->
       aU A V L S rho s2 a w->(∀g,bH v=some g->¬S g/\(∀i,L i->(s2.h i).live->¬hasB w (s2.h i) (rho i) g)/\(A.mv g\/A.w0.heap.size<=g))->¬L (o.dst.getD 0)->s2.h (o.dst.getD 0)=.row e (xs++ys)->
       ∃v' w' rho',(execOp a.eval o).run A.C.P w=.ok (.value v') w'/\aU A V (fun i=>L i\/i=o.dst.getD 0) S rho' s2 a w'/\v'=rho' (o.dst.getD 0):=by
      intro xs v ws s2 hv hown qd hlen BJ o9 aJ hR hL hb;obtain⟨ad,c',G,K5,tN,I⟩:=K6 ie.size (fun r U=>by rw[hlen r U,qT]);obtain⟨v',w',U,h2,Z,h4⟩:=jn (P:=A.C.P) w t o.type e ie ze dr WC DC (by rw[DD];simp[Kl,qT]) J v xs.length ws hown ad ys.length c' G tN.len
       (fun h0=>I (fun e=>h0 (by rw[e];rfl))) tN.one (by simp only[maxLen];omega) (by rw[BL];exact BJ)
      obtain⟨a0,c0,IJ⟩:=bP hown;obtain⟨a1,c1,AA⟩:=bP h2;rw[cm IJ]at Z h4;rw[cm AA]at h4;refine⟨v',w',ax rho (o.dst.getD 0) v',by simp[execOp,aq,resolve,invoke,builtin,hv,K5,U],?_,(ak _ _ _).symm⟩;refine aJ.new hC (o.dst.getD 0) _ (aJ.gT hd) hL hb w' Z.os Z.tape Z.output Z.size (fun k=>bH v=some k) (fun k hk K7=>Z.block k hk (fun e=>K7 e.symm)) (fun k hk=>hR k hk) v' (fun g hg=>?_) (fun T=>?_)
      ·refine⟨(h2.lt g (by rw[cm AA];exact hg)).2,?_⟩;rcases h4 with h | h
       ·exact .inr (h▸hg)
       rw[h]at hg;injection hg with hg;exact .inl (by omega)
      show an A.C.P w' (ay S w') e (xs++ys) (ax rho (o.dst.getD 0) v' (o.dst.getD 0));rw[ak];exact an.of_flat WC J (by rw[fj];exact h2) ((qd.app tN).mono T.hS T.keep)
     split at z
     ·rename_i Dw;rw[Dw]at hx;have hv:a.eval x=.slice none 0 0:=by cases h:a.eval x<;>rw[h]at hx<;>cases hx;rfl
      obtain⟨⟨h1,h2,Z⟩,z⟩:=z;obtain⟨hL,hb⟩:=hn _ _ _ z;obtain⟨v',w',rho',U,aJ,yB⟩:=main [] _ [] s hv ⟨by simp,.inl ⟨rfl,rfl⟩⟩ ⟨by simp,by simp,by simp,by simp⟩ h1 (by simpa using h2) (by simpa using Z) D (fun g hg=>by simp[bH]at hg) hL (by simpa using hb);exact bS U (N _ _ _ S rho' _ _ z (aJ.value o.dst hd _ _ (.ow _ _ fun _=>⟨.inr rfl,yB⟩)))
     ·rename_i id Dw;rw[Dw]at hx;split at z
      ·rename_i e' xs ai;split at z
       ·rename_i Y;have Y:=dC Y;subst Y;obtain⟨⟨h1,h2,Z⟩,z⟩:=z;obtain⟨hL,hb⟩:=hn _ _ _ z;obtain⟨eO,hv⟩:=hx.bu (by rw[ai];trivial);have hh:=D.hp id eO;rw[ai]at hh;obtain⟨ws,_,hown,qd⟩:=an.flat WC hh;have DA:id≠o.dst.getD 0:=fun e=>hL (e▸eO);have aN:(s.h id).live:=by rw[ai];trivial
        obtain⟨v',w',rho',U,aJ,yB⟩:=main xs _ ws ⟨s.t,ax s.h id .none⟩ hv hown qd h1 h2 Z (D.kill id) (fun g hg=>by
          obtain⟨k1,k2,k3⟩:=D.mO id g eO aN hg;refine⟨k2,fun i hi li cK=>?_,k3⟩;have fE:(ax s.h id .none i).live:=li;rcases aD s.h id .none i with⟨rfl,h⟩ | ⟨bO,h⟩
          ·rw[h]at fE;exact fE.elim
          rw[h]at fE;exact bO (D.dj i id g hi eO fE aN (cx bO cK) (.inl hg))) hL (by show ax s.h id .none (o.dst.getD 0)=_;rw[au _ _ DA.symm];exact hb)
        exact bS U (N _ _ _ S rho' _ _ z (aJ.value o.dst hd _ _ (.ow _ _ fun _=>⟨.inr rfl,yB⟩)))
       exact z.elim
      ·rename_i e' xs ai;split at z
       ·rename_i Y;have Y:=dC Y;subst Y;obtain⟨⟨h1,h2,Z⟩,z⟩:=z;obtain⟨hL,hb⟩:=hn _ _ _ z;obtain⟨eO,hv⟩:=hx.bu (by rw[ai];trivial);have hh:=D.hp id eO;rw[ai]at hh;obtain⟨⟨i0,ws,Fy,_,hown,_⟩,_⟩:=hh;rw[WC]at Fy;injection Fy with Fy;subst Fy;obtain⟨ad,c',G,K5,tN,I⟩:=K6 ie.size (fun r U=>by rw[h1 r U,qT]);obtain⟨v',w',U,q2,q3,q4⟩:=jn (P:=A.C.P) w t o.type e' ie ze dr WC DC (by rw[DD];simp[Kl,qT]) J (rho id) xs.length ws hown ad ys.length c' G tN.len
         (fun h0=>I (fun e=>h0 (by rw[e];rfl))) tN.one (by simp only[maxLen];omega) (by rw[BL];exact h2)
        obtain⟨a0,c0,IJ⟩:=bP hown;obtain⟨a1,c1,AA⟩:=bP q2;rw[cm IJ]at q3 q4;rw[cm AA]at q4;have aJ:=D.NJ hC eO ai WC (D.gT hd) hL hb tN hown q2 q3 q4;exact bS (by simp[execOp,aq,resolve,invoke,builtin,hv,K5,U]) (N _ _ _ S _ _ _ z (aJ.value o.dst hd _ _ (.ow _ _ fun _=>⟨.inr rfl,(ak _ _ _).symm⟩)))
       exact z.elim
      exact z.elim
     exact z.elim
    exact z.elim
   exact z.elim
  exact z.elim
 exact z.elim
theorem vh{o:Oper}(t:TypeId)(x y:Operand)(U:o.op=.makeSlice t x y):eD A o:=by
 intro V L S rho s a w K next Q hC I hV hd z hn N
 simp only[aZ,U]at z;have hx:=aH I x fun j J=>hV j (by simp[U,Op.operands,J]);have hy:=aH I y fun j J=>hV j (by simp[U,Op.operands,J]);split at z
 ·rename_i e size bytes zero eq k n k' c hT h1 h2;have dr:=(hC.eL t _ hT).under;simp only at dr;rw[h1]at hx;rw[h2]at hy;split at z
  ·rename_i D nf;obtain⟨O,Y,WC,Z,BL,DC,DD,ga⟩:=(hC.eL e D nf).info;have Kl:=(hC.eL e D nf).Dk;split at z
   ·rename_i G;have G:0<D.size:=Tj G;obtain⟨⟨h0,Ki,hb,MV⟩,z⟩:=z;obtain⟨hL,hdb⟩:=hn _ _ _ z;have hr:=run_make (P:=A.C.P) w t e O Y dr WC DC k k' n c h0 Ki (by rw[BL,Int.mul_comm];omega) MV;have qd:=Flat.zero (A.C.bn t) S (w.alloc (.cells (madeCells Y.cells (c.toNat*O.size)) e)) (hC.eL e D nf) G n.toNat;have key:∀(W:World) es xs,Flat S W D.size es xs->Flat S W O.size es xs:=fun W es xs h=>by rw[Z];exact h
    have hle:n.toNat*D.size<=c.toNat*D.size:=bZ _ (by omega);have NP:((Array.range (n.toNat*D.size)).map (D.zero.toArray[· % D.zero.toArray.size]!)).toList=(madeCells Y.cells (c.toNat*O.size)).toList.take (n.toNat*D.size):=by
     apply lW;intro j;rw[cB];split
     ·rename_i J;simp[madeCells,DD,Z,J,bg J hle]
     rename_i J;rw[dy (by simpa using J)]
    have aJ:=I.new hC (o.dst.getD 0) _ (I.gT hd) hL hdb (w.alloc (.cells (madeCells Y.cells (c.toNat*O.size)) e)) rfl rfl rfl (by simp) (fun _=>False) (fun k hk _=>aP _ _ _ hk) (fun _ h=>h.elim) (.slice (some ⟨w.heap.size,0,none⟩) n.toNat c.toNat)
     (fun g hg=>by simp[bH]at hg;subst hg;simp) (fun T=>by
      show an A.C.P _ _ e _ (ax rho (o.dst.getD 0) _ (o.dst.getD 0));rw[ak];refine an.of_flat WC (by omega) ?_ (key _ _ _ qd);rw[NP,<-Z];refine⟨by rw[dI,uX,cf,size_madeCells,Z];omega,.inr ⟨w.heap.size,c.toNat,_,by simp,nI _,heap_alloc_new w _,by simp;omega,by simp only[maxLen];omega,size_madeCells _ _,by simp⟩⟩)
    exact bS (by simp only[execOp,U,hx.bc,hy.bc,aI,hr,nH,jS]) (N _ _ _ S _ _ _ z (aJ.value o.dst hd _ _ (.ow _ _ fun _=>⟨.inr rfl,(ak _ _ _).symm⟩)))
   exact z.elim
  exact z.elim
 exact z.elim
end Go.AM
namespace Go.AM
open Go.RowKit
theorem DF(off:Nat):∀(vs:List Value) (k:Nat) (cs:Array Value),(vs.zipIdx k).foldl (fun (cs:Array Value) (x:Value×Nat)=>cs.setIfInBounds (off+x.2) x.1) cs=(setCells cs.toList (off+k) vs).toArray:=by
 intro vs
 induction vs with
 | nil=>intro k cs;simp[setCells]
 | cons v vs ih=>
  intro k cs;simp only[List.zipIdx_cons,uY];rw[ih];simp[setCells,br]
theorem jB(z:Nat->Option (Nat×Nat))(cells:Array Value)(i:Nat)(v:Value)(rest:List (Nat×Value))(off size:Nat)(hp:z i=some (off,size))(hs:v.cells.size=size)(hl:off+size<=cells.size):
  Instr.fill z cells ((i,v)::rest)=Instr.fill z (setCells cells.toList off v.cells.toList).toArray rest:=by
 rw[Instr.fill,hp];simp only;rw[af (by simp[hs];omega)];congr 1;have:=DF off v.cells.toList 0 cells;rw[uT]at this;rw[<-this,<-Array.foldl_toList,Array.toList_zipIdx]
theorem Wo(ys cs:List Value)(h:ys.length=cs.length):setCells cs 0 ys=ys:=by
 apply lW;intro j;rw[lA _ _ _ _ (by omega)];by_cases hj:j<ys.length
 ·rw[qH ⟨nI _,by omega⟩,Nat.sub_zero]
 rw[af (by omega),dy (by omega),dy (by omega)]
structure gB(S:Nat->Prop)(w:World)(cs:List PV)(vs:List Value):Prop where
 len:vs.length=cs.length
 one:∀u∈vs,u.oneCell'=true
 rep:∀(j:Nat) x u,cs[j]?=some x->vs[j]?=some u->ay S w x u
theorem gB.mono{S S':Nat->Prop}{w:World}{cs:List PV}{vs:List Value}(h:gB S w cs vs)(hS:∀b,S b->S' b):gB S' w cs vs:=
 ⟨h.len,h.one,fun j x u z D=>(h.rep j x u z D).mono hS (fun _ _=>rfl)⟩
theorem gB.set{S:Nat->Prop}{w:World}{cs ys:List PV}{vs us:List Value}(h:gB S w cs vs)(g:gB S w ys us)(off:Nat)(hl:off+ys.length<=cs.length):gB S w (setCells cs off ys) (setCells vs off us):=by
 have J:=fun j=>lA ys cs off j hl;have I:=fun j=>lA us vs off j (by rw[g.len,h.len];exact hl);refine⟨by rw[bL,bL,h.len],fun u D=>?_,fun j x u z D=>?_⟩
 ·obtain⟨j,z⟩:=uU.1 D;rw[I]at z;split at z
  ·exact g.one u (aj z)
  exact h.one u (aj z)
 rw[J]at z;rw[I,g.len]at D;split at z
 ·rename_i G;rw[qH G]at D;exact g.rep _ x u z D
 rename_i G;rw[af G]at D;exact h.rep _ x u z D
theorem tO{S:Nat->Prop}{w:World}{x:PV}{ys:List PV}{v:Value}(h:mZ x=some ys)(z:ay S w x v):gB S w ys v.cells.toList:=by
 obtain⟨D,G,I⟩:=qc h z;exact⟨by simpa using D,G,fun j y u J N=>I j y u J (by simpa using N)⟩
variable {A:jR} {V L:Nat->Prop} {rho:Nat->Value} {fs:List (Nat×Nat×Bool)}
theorem BM(hC:aL A.C){t:Nat->AV}{a:Act}{w:World}{h:Nat->AB}(z:Nat->Option (Nat×Nat))(hp:∀(i:Nat) f,fs[i]?=some f->z i=some (f.1,f.2.1)):
  ∀(ps:List (Nat×Operand)) (h':Nat->AB) (S:Nat->Prop) (cs:List PV) (vs:List Value) (K:List PV->List (Nat×AB)->Prop),(∀p∈ps,∀j,p.2=.tmp j->V j)->aU A V L S rho ⟨t,h'⟩ a w->kM h h'->gB S w cs vs->gd h fs (ev t) ps cs K ->
  ∃N fz S' O,K N fz/\aU A V L S' rho ⟨t,app h' fz⟩ a w/\kM h (app h' fz)/\gB S' w N O/\Instr.fill z vs.toArray (ps.map fun p=>(p.1,a.eval p.2))=some O.toArray/\(∀p∈fz,L p.1):=by
 intro ps
 induction ps with
 | nil=>intro h' S cs vs K _ G Y U D;exact⟨cs,[],S,vs,D,G,Y,U,rfl,by simp⟩
 | cons p ps ih=>
  intro h' S cs vs K hV G Y U D;obtain⟨i,x⟩:=p;unfold gd at D;split at D
  ·rename_i off size ag Fu;have hx:=aH G x fun j hj=>hV (i,x) (by simp) j hj;obtain⟨y,fz,S2,D,aJ,I,nX,C3,wU⟩:=e8 hC G Y hx D;split at D
   ·rename_i ys Dx;split at D
    ·rename_i Z;simp only[fH]at Z;have e1:=dC Z.1;have e2:=gi Z.2;have J:=tO Dx I;obtain⟨N,jr,S',O,k1,k2,k3,k4,k5,k9⟩:=ih (app h' fz) S2 _ _ _ (fun p hp=>hV p (by simp[hp])) aJ C3 ((U.mono nX).set J off (by omega)) D;refine⟨N,fz++jr,S',O,k1,by rw[bJ];exact k2,by rw[bJ];exact k3,k4,?_,fun p hp=>(cD.1 hp).elim (wU p) (k9 p)⟩;rw[qO,jB z _ i _ _ off size (hp i _ Fu) (by simpa [e1] using J.len) (by simp[U.len];omega)];exact k5
    exact D.elim
   exact D.elim
  exact D.elim
theorem DG{P:Program}{t:TypeId}{size bytes:Nat}{zero:List Value}{eq:Bool}(dr:jw P t ⟨.st fs,size,bytes,zero,eq⟩){l:List (Nat×Value)}{iE:Array Value}
  (k5:Instr.fill (fun i=>(fs[i]?).map fun f=>(f.1,f.2.1)) zero.toArray l=some iE):P.built t l=some iE:=by
 obtain⟨info,z,hi,hsz,QW,hz,dN,ga⟩:=dr.info;obtain⟨gs,mH,hl,hf⟩:=dr.under;simp only at dN;have vi:gs.toList.mapM (fun f=>(P.info? f.type).map fun i=>(f.offset,i.size))=some (fs.map fun f=>(f.1,f.2.1)):=by
  have J:∀(G:List Field) (D:List (Nat×Nat×Bool)),D.length=G.length->(∀(i:Nat) f g,D[i]?=some f->G[i]?=some g->f.1=g.offset/\(∃N,P.info? g.type=some N/\N.size=f.2.1))->G.mapM (fun f=>(P.info? f.type).map fun i=>(f.offset,i.size))=some (D.map fun f=>(f.1,f.2.1)):=by
   intro G
   induction G with
   | nil=>intro D I _;have:D=[]:=gw I;subst this;rfl
   | cons g G ih=>
    intro D I h2;cases D with
    | nil=>simp at I
    | cons f D=>
     obtain⟨O,N,U,e3⟩:=h2 0 f g rfl rfl;have:=ih D (by simpa using I) (fun i f g Y Z=>h2 (i+1) f g (by simpa using Y) (by simpa using Z));rw[Am,U,this];simp[O,e3]
  exact J gs.toList fs (by simpa using hl) (fun i f g Y Z=>by
   obtain⟨O,_,U,_⟩:=hf i f g Y (by simpa using Z);exact⟨O,U⟩)
 unfold Program.built;rw[hi,mH];simp only[hz,vi,dN];rw[<-k5];congr 1;funext i;simp
theorem BN{S:Nat->Prop}{s:AS}{a:Act}{w:World}(Y:aU A V L S rho s a w)(G:Nat->Option (Nat×Nat))(hp:∀(i:Nat) f,fs[i]?=some f->G i=some (f.1,f.2.1)):
  ∀(ps:List (Nat×Operand)) (cs:List AV) (vs:List Value) (K:List AV->Prop),(∀p∈ps,∀j,p.2=.tmp j->V j)->cs.length=vs.length->(∀u∈vs,u.oneCell'=true)->(∀(i:Nat) c u,cs[i]?=some c->vs[i]?=some u->aE S w A.C.P L rho s.h c u)->gf s.h fs (ev s.t) ps cs K ->
  ∃(O:List AV) (N:List Value),K O/\O.length=N.length/\(∀u∈N,u.oneCell'=true)/\(∀(i:Nat) c u,O[i]?=some c->N[i]?=some u->aE S w A.C.P L rho s.h c u)/\Instr.fill G vs.toArray (ps.map fun p=>(p.1,a.eval p.2))=some N.toArray:=by
 intro ps
 induction ps with
 | nil=>intro cs vs K _ hl h1 hc J;exact⟨cs,vs,J,hl,h1,hc,rfl⟩
 | cons p ps ih=>
  intro cs vs K hV hl h1 hc J;obtain⟨i,x⟩:=p;unfold gf at J;split at J
  ·rename_i off size ag Fu;have hx:=aH Y x fun j D=>hV (i,x) (by simp) j D;split at J
   ·rename_i ys Dx;split at J
    case h_2=>exact J.elim
    rename_i Z;simp only[fH]at Z;obtain⟨U,e2⟩:=Z;have U:=dC U;have e2:=gi e2;rw[De Dx]at hx;obtain⟨us,hv,q1,q2,q3⟩:=hx.cb.kW;have iQ:(a.eval x).cells=us:=by rw[hv];rfl
    obtain⟨O,N,k1,k2,k3,k4,k5⟩:=ih (setCells cs off (ys.map .p)) (setCells vs off us.toList) K (fun p hp=>hV p (by simp[hp])) (by rw[bL,bL,hl]) (fun u I=>by
      obtain⟨j,D⟩:=uU.1 I;rw[lA us.toList vs off j (by simp;omega)]at D;split at D
      ·exact q2 u (aj D)
      ·exact h1 u (aj D)) (fun j c u D I=>by
      rw[lA _ _ _ _ (by simp;omega)]at D;rw[lA _ _ _ _ (by simp;omega)]at I;simp only[ct,cf]at D I;split at D
      ·rename_i Iu;rw[qH (by rw[<-q1];exact Iu)]at I;rw[ao]at D;obtain⟨z,hz,rfl⟩:=az.1 D;exact .p _ _ (q3 _ z u hz (by simpa using I))
      rename_i Iu;rw[af (by rw[<-q1];exact Iu)]at I;exact hc j c u D I) J
    refine⟨O,N,k1,k2,k3,k4,?_⟩;rw[qO,jB G _ i _ _ off size (hp i _ Fu) (by rw[iQ,<-q1,U]) (by simp;omega),iQ];exact k5
   split at J
   ·rename_i Z;simp only[fH]at Z;obtain⟨⟨U,e2⟩,e3⟩:=Z;have U:=dC U;have e2:=gi e2;have o1:=To Y e3 hx;have iQ:=cells_one o1;have hlen:off<vs.length:=by omega
    obtain⟨O,N,k1,k2,k3,k4,k5⟩:=ih (cs.set off (ev s.t x)) (vs.set off (a.eval x)) K (fun p hp=>hV p (by simp[hp])) (by simp[hl]) (fun u I=>by
      rcases nJ I with h | h
      ·exact h1 u h
      ·rw[h];exact o1) (fun j c u D I=>by
      by_cases e:j=off
      ·subst e;rw[bQ (by omega)]at D I;injection D with D;injection I with I;subst D I;exact hx
      rw[bY (fun e'=>e e'.symm)]at D I;exact hc j c u D I) J
    refine⟨O,N,k1,k2,k3,k4,?_⟩;rw[qO,jB G _ i _ _ off size (hp i _ Fu) (by rw[iQ,U];rfl) (by simp;omega),iQ];exact k5
   exact J.elim
  exact J.elim
theorem DH{o:Oper}(t:TypeId)(ps:Array (Nat×Operand))(aq:o.op=.build t ps):eD A o:=by
 intro V L S rho s a w K next Q hC N hV hd O _ D
 simp only[aZ,aq]at O;split at O
 ·rename_i fs size bytes zero eq hT;have dr:=(hC.eL t _ hT).under;obtain⟨info,z,hi,hsz,QW,hz,dN,ga⟩:=(hC.eL t _ hT).info;obtain⟨gs,mH,hl,hf⟩:=dr;simp only at dN ga;have DI:∀(i:Nat) f,fs[i]?=some f->(fun i=>(fs[i]?).map fun f=>(f.1,f.2.1)) i=some (f.1,f.2.1):=fun i f h=>by simp[h]
  split at O
  case h_2=>
   obtain⟨dB,U,k1,k2,k3,k4,k5⟩:=BN N (fun i=>(fs[i]?).map fun f=>(f.1,f.2.1)) DI ps.toList (zero.map Bx) zero (fun cs=>K (.st cs) [] none)
    (fun p hp j G=>hV j (by simp[aq,Op.operands];exact⟨p.1,by rw[<-G];exact nK.1 hp⟩)) (by simp) ga (fun j x u G hu=>by
     rw[ao,hu]at G;simp at G;rw[<-G];exact rF _ _ _ _ _ _ u) O
   have yM:=DG (hC.eL t _ hT) k5;exact ar N hd D k1 (.st _ U.toArray (by simpa using k2) (by simpa using k3) (fun i c u J Y=>k4 i c u J (by simpa using Y))) (by
    have hr:=run_build (P:=A.C.P) w t (ps.map fun p=>(p.1,a.eval p.2)) U.toArray (by simpa using yM);simp only[execOp,aq,aI];rw[hr];simp)
  obtain⟨dB,fz,S',U,k1,k2,k3,k4,k5,_⟩:=BM hC (fun i=>(fs[i]?).map fun f=>(f.1,f.2.1)) DI ps.toList s.h S (zero.map (Kc (A.C.bn t))) zero (fun cs fz=>K (.p (.ag cs)) fz none)
   (fun p hp j G=>hV j (by simp[aq,Op.operands];exact⟨p.1,by rw[<-G];exact nK.1 hp⟩)) N (kM.refl _) ⟨by simp,ga,fun j x u G hu=>by
    rw[ao,hu]at G;simp at G;rw[<-G];exact Au _ _ _ u⟩ O
  have vi:gs.toList.mapM (fun f=>(A.C.P.info? f.type).map fun i=>(f.offset,i.size))=some (fs.map fun f=>(f.1,f.2.1)):=by
   have gen:∀(Z:List Field) (I:List (Nat×Nat×Bool)),I.length=Z.length->(∀(i:Nat) f g,I[i]?=some f->Z[i]?=some g->f.1=g.offset/\(∃i2,A.C.P.info? g.type=some i2/\i2.size=f.2.1))->Z.mapM (fun f=>(A.C.P.info? f.type).map fun i=>(f.offset,i.size))=some (I.map fun f=>(f.1,f.2.1)):=by
    intro Z
    induction Z with
    | nil=>intro I J _;have:I=[]:=gw J;subst this;rfl
    | cons g Z ih=>
     intro I J Y;cases I with
     | nil=>simp at J
     | cons f I=>
      obtain⟨e1,i2,e2,e3⟩:=Y 0 f g rfl rfl;have:=ih I (by simpa using J) (fun i f g h3 h4=>Y (i+1) f g (by simpa using h3) (by simpa using h4));rw[Am,e2,this];simp[e1,e3]
   exact gen gs.toList fs (by simpa using hl) (fun i f g h3 h4=>by
    obtain⟨e1,_,e2,_⟩:=hf i f g h3 (by simpa using h4);exact⟨e1,e2⟩)
  have yM:A.C.P.built t (ps.toList.map fun p=>(p.1,a.eval p.2))=some U.toArray:=by
   unfold Program.built;rw[hi,mH];simp only[hz,vi,dN];rw[<-k5];congr 1;funext i;simp
  refine tM (s:=s) k2 hd D k1 (v:=.agg U.toArray) (.p _ _ (.ag _ _ (by simp[k4.len]) (by simpa using k4.one) fun i c v J Y=>k4.rep i c v J (by simpa using Y))) ?_;have hr:=run_build (P:=A.C.P) w t (ps.map fun p=>(p.1,a.eval p.2)) U.toArray (by simpa using yM);simp only[execOp,aq,aI];rw[hr];simp
 exact O.elim
theorem BO{S:Nat->Prop}{s:AS}{a:Act}{w:World}{b:Bool}(hC:aL A.C){h:Nat->AB}(z:aU A V L S rho s a w)(G:kM h s.h){x:AV}{v:Value}(I:aE S w A.C.P L rho s.h x v){K:PV->List (Nat×AB)->Prop}(D:qa b h x K):
  ∃y fz S',K y fz/\aU A V L S' rho ⟨s.t,app s.h fz⟩ a w/\ay S' w y v/\(∀b,S b->S' b)/\kM h (app s.h fz)/\(∀p∈fz,L p.1):=by
 unfold qa at D;split at D
 ·have:v=.slice none 0 0:=by cases I;rfl
  rw[this];exact⟨_,[],S,D,z,.im _,fun _ h=>h,G,by simp⟩
 exact e8 hC z G I D
theorem rM(hC:aL A.C){t:Nat->AV}{a:Act}{w:World}{h:Nat->AB}{size:Nat}{b:Bool}:
  ∀(ps:List (Nat×Operand)) (h':Nat->AB) (S:Nat->Prop) (es:List (List PV)) (vs:List Value) (K:List (List PV)->List (Nat×AB)->Prop),(∀p∈ps,∀j,p.2=.tmp j->V j)->aU A V L S rho ⟨t,h'⟩ a w->kM h h'->Flat S w size es vs->eC b h size (ev t) ps es K ->
  ∃I fz S' N,K I fz/\aU A V L S' rho ⟨t,app h' fz⟩ a w/\kM h (app h' fz)/\Flat S' w size I N/\I.length=es.length/\Instr.fill (fun i=>some (i*size,size)) vs.toArray (ps.map fun p=>(p.1,a.eval p.2))=some N.toArray/\(∀p∈fz,L p.1):=by
 intro ps
 induction ps with
 | nil=>intro h' S es vs K _ D U O z;exact⟨es,[],S,vs,z,D,U,O,rfl,rfl,by simp⟩
 | cons p ps ih=>
  intro h' S es vs K Z D U O z;obtain⟨i,x⟩:=p;unfold eC at z;have hx:=aH D x fun j hj=>Z (i,x) (by simp) j hj;obtain⟨y,fz,S2,z,aJ,J,nX,C3,wU⟩:=BO hC D U hx z;split at z
  ·rename_i ys Dx;split at z
   ·rename_i Y;simp only[fH]at Y;have e1:=dC Y.1;have e2:i<es.length:=Tj Y.2;have G:=tO Dx J;have K8:(a.eval x).cells.toList.length=size:=by rw[G.len,e1]
    have hb:i*size+size<=vs.length:=by rw[O.len,<-lV];exact bZ _ e2
    obtain⟨I,jr,S',N,k1,k2,k3,k4,k5,k6,k9⟩:=ih (app h' fz) S2 _ _ _ (fun p hp=>Z p (by simp[hp])) aJ C3 ((O.mono nX (fun _ _=>rfl)).set i e2 ys _ e1 K8 G.one (fun j y u h1 h2=>G.rep j y u h1 h2)) z;refine⟨I,fz++jr,S',N,k1,by rw[bJ];exact k2,by rw[bJ];exact k3,k4,by rw[k5,cu],?_,fun p hp=>(cD.1 hp).elim (wU p) (k9 p)⟩;rw[qO,jB _ _ i _ _ (i*size) size rfl (by simpa using K8) (by simpa using hb)];exact k6
   exact z.elim
  exact z.elim
theorem tl{o:Oper}(t:TypeId)(len:Nat)(ps:Array (Nat×Operand))(aq:o.op=.buildSlice t len ps):eD A o:=by
 intro V L S rho s a w K next Q hC U hV hd G hn J
 simp only[aZ,aq]at G;split at G
 ·rename_i e size bytes zero eq hT;have dr:=(hC.eL t _ hT).under;simp only at dr;split at G
  ·rename_i D nf;obtain⟨ie,ze,WC,qT,BL,DC,DD,ga⟩:=(hC.eL e D nf).info;have Kl:=(hC.eL e D nf).Dk;split at G
   ·rename_i eA;simp only[fH]at eA;have O:0<D.size:=Tj eA.1;have St:=gi eA.2;split at G
    ·rename_i K9;split at G
     case h_2=>exact G.elim
     rename_i x hps;split at G
     case h_2=>exact G.elim
     rename_i ys Dx;have hps:ps=#[(0,x)]:=by rw[<-qM (xs:=ps),hps]
     have hx:=aH U x fun j hj=>hV j (by simp[aq,Op.operands,hps,hj]);obtain⟨c1,c2,c3,c4⟩:=Wq U Dx hx;generalize wV:(a.eval x).cells=vs at c1 c3 c4;obtain⟨hL,hb⟩:=hn _ _ _ G;have I:(execOp a.eval o).run A.C.P w=.ok (.value (.slice (some ⟨w.heap.size,0,none⟩) 1 1)) (w.alloc (.cells vs e)):=by
      have Y:(Go.sizeOf e).run A.C.P w=.ok D.size w:=(hC.eL e D nf).sizeOf w;have K_:(zeroValue e).run A.C.P w=.ok ze w:=by simp[zeroValue,typeInfo,WC,DC]
      have La:Instr.fill (fun i=>some (i*D.size,D.size)) ((Array.range (1*D.size)).map (D.zero.toArray[· % D.zero.toArray.size]!)) (ps.map fun p=>(p.1,a.eval p.2)).toList=some vs:=by
       rw[hps];rw[show (Array.map (fun p:Nat×Operand=>(p.1,a.eval p.2)) #[(0,x)]).toList=[(0,a.eval x)] by simp];rw[jB _ _ 0 _ _ 0 D.size (by simp) (by rw[wV];exact c1) (by simp),wV];rw[Instr.fill];congr 1;rw[Wo _ _ (by simp;omega),qM]
      simp only[execOp,aq,Instr.buildSlice,aI,run_underlying dr,nH,Y];rw[af (show ¬1*D.size>2 ^ 24 by omega),af (show ¬1*D.size=0 by omega)];simp only[aI,jS,nH,K_];rw[DD,La];simp[newRow,newObj,Sem.run]
     have HA:∀(Z j:Nat) (r:List HX) e2 XA,([ys.map HX.av]:List (List HX))[Z]?=some r->r[j]?=some (.row e2 XA)->False:=fun Z j r e2 XA h1 h2=>by
      cases Z with
      | zero=>
       simp at h1;subst h1;rw[ao]at h2;obtain⟨z,_,hz⟩:=az.1 h2;cases hz
      | succ Z=>simp at h1
     have Lb:∀T:fu S S w (w.alloc (.cells vs e)) L (fun i=>L i\/i=o.dst.getD 0) rho (ax rho (o.dst.getD 0) (.slice (some ⟨w.heap.size,0,none⟩) 1 1)) s.h s.h,cd S (w.alloc (.cells vs e)) A.C.P (fun i=>L i\/i=o.dst.getD 0) (ax rho (o.dst.getD 0) (.slice (some ⟨w.heap.size,0,none⟩) 1 1)) s.h (o.dst.getD 0) (.ai e [ys.map .av]):=fun T=>by
      show an _ _ _ _ _ (ax rho (o.dst.getD 0) _ (o.dst.getD 0))/\kU _ _ (ax rho (o.dst.getD 0) _ (o.dst.getD 0));rw[ak];have hown:=Uw (base:=0) (e:=e) (size:=D.size) w vs 1 (nI _) (by decide) (by omega);refine⟨⟨ie,vs.toList,WC,by omega,by rw[qT];exact hown,fun r hr=>by simp at hr;subst hr;rw[qT,ct];exact c2,c3,fun Z r j y ha hj=>?_⟩,fun g Z j u b hg ⟨r,e2,XA,c,ty,m,h1,h2,_⟩=>(HA _ _ _ _ _ h1 h2).elim,fun g Z j a2 j2 u u' b hg ⟨r,e2,XA,c,ty,m,h1,h2,_⟩=>(HA _ _ _ _ _ h1 h2).elim⟩;cases Z with
      | zero=>
       simp at ha;subst ha;rw[ao]at hj;obtain⟨z,hz,rfl⟩:=az.1 hj;obtain⟨u,hu⟩:=fJ (vs:=vs) (n:=D.size) (i:=j) c1.symm (by have:=ah hz;omega);exact⟨u,by rw[Nat.zero_mul,ae,uZ];exact hu,(c4 j z u hz hu).bA T⟩
      | succ Z=>simp at ha
     have aJ:=U.jA hC (o.dst.getD 0) (.ai e [ys.map .av]) (U.gT hd) hL hb (w.alloc (.cells vs e)) rfl rfl rfl (by simp) (fun _=>False) (fun k hk _=>aP _ _ _ hk) (fun _ h=>h.elim) (.slice (some ⟨w.heap.size,0,none⟩) 1 1)
      (fun g hg=>by
       rcases bN.1 hg with h | ⟨g',Z,j,u,_,⟨r,e2,XA,c,ty,m,h1,h2,_⟩,_⟩
       ·simp[bH]at h;subst h;simp
       exact (HA _ _ _ _ _ h1 h2).elim) Lb
     exact bS I (J _ _ _ S _ _ _ G (aJ.value o.dst hd _ _ (.ow _ _ fun _=>⟨.inr rfl,(ak _ _ _).symm⟩)))
    split at G
    ·rename_i QX;obtain⟨bW,fz,S',N,k1,k2,k3,k4,k5,k6,k9⟩:=rM hC ps.toList s.h S _ _ (fun es fz=>K (.ow (o.dst.getD 0)) fz (some (.row e es)))
      (fun p hp j hj=>hV j (by simp[aq,Op.operands];exact⟨p.1,by rw[<-hj];exact nK.1 hp⟩)) U (kM.refl _) (Flat.zero false S w (hC.eL e D nf) O len) G
     rw[uX]at k5;obtain⟨hL,hb⟩:=hn _ _ _ k1;have HB:(app s.h fz) (o.dst.getD 0)=.row e bW:=by
      rw[fo (fun p hp (e:p.1=_)=>hL (by rw[<-e];exact k9 p hp)),hb]
     have I:(execOp a.eval o).run A.C.P w=.ok (.value (.slice (some ⟨w.heap.size,0,none⟩) len len)) (w.alloc (.cells N.toArray e)):=by
      have e0:len*D.size=(Array.range (len*D.size)).size:=by simp
      have NR:¬16777216<len*D.size:=by omega
      have Lc:Instr.fill (fun i=>some (i*D.size,D.size)) ((Array.range (len*D.size)).map (D.zero.toArray[· % D.zero.toArray.size]!)) (ps.map fun p=>(p.1,a.eval p.2)).toList=some N.toArray:=by
       rw[aW];rw[<-k6]
      have Y:(Go.sizeOf e).run A.C.P w=.ok D.size w:=(hC.eL e D nf).sizeOf w;simp only[execOp,aq,Instr.buildSlice,aI,run_underlying dr,nH,Y];rw[af (show ¬len*D.size>2 ^ 24 by omega)];by_cases h0:len*D.size=0
      ·rw[qH h0];have k7:Instr.fill (fun i=>some (i*D.size,D.size)) ((Array.range (len*D.size)).map ((#[]:Array Value)[· % (#[]:Array Value).size]!)) (ps.map fun p=>(p.1,a.eval p.2)).toList=some N.toArray:=by
        have IK:∀f:Nat->Value,(Array.range 0).map f=#[]:=fun f=>by apply gV;simp
        rw[<-Lc,h0,IK,IK]
       simp only[aI,jS,nH];rw[k7];simp[newRow,newObj,Sem.run]
      rw[af h0];have K_:(zeroValue e).run A.C.P w=.ok ze w:=by simp[zeroValue,typeInfo,WC,DC]
      simp only[aI,jS,nH,K_];rw[DD,Lc];simp[newRow,newObj,Sem.run]
     have aJ:=k2.new hC (o.dst.getD 0) _ (k2.gT hd) hL HB (w.alloc (.cells N.toArray e)) rfl rfl rfl (by simp) (fun _=>False) (fun k hk _=>aP _ _ _ hk) (fun _ h=>h.elim) (.slice (some ⟨w.heap.size,0,none⟩) len len)
      (fun g hg=>by simp[bH]at hg;subst hg;simp) (fun T=>by
       show an A.C.P _ _ e _ (ax rho (o.dst.getD 0) _ (o.dst.getD 0));rw[ak];refine an.of_flat WC (by omega) ?_ (by rw[qT];exact k4.mono T.hS T.keep);have:=Uw (base:=0) (e:=e) (size:=D.size) w N.toArray len (nI _) (by simp only[maxLen];have:=cg len O;omega) (by simp[k4.len,k5]);rw[qT,k5];exact this)
     exact bS I (J _ _ _ S' _ _ _ k1 (aJ.value o.dst hd _ _ (.ow _ _ fun _=>⟨.inr rfl,(ak _ _ _).symm⟩)))
    rename_i QX;obtain⟨bW,fz,S',N,k1,k2,k3,k4,k5,k6,k9⟩:=rM hC ps.toList s.h S _ _ (fun es fz=>K (.ow (o.dst.getD 0)) fz (some (.f_ es)))
     (fun p hp j hj=>hV j (by simp[aq,Op.operands];exact⟨p.1,by rw[<-hj];exact nK.1 hp⟩)) U (kM.refl _) (Flat.zero false S w (hC.eL e D nf) O len) G
    rw[uX]at k5;obtain⟨hL,hb⟩:=hn _ _ _ k1;have HB:(app s.h fz) (o.dst.getD 0)=.f_ bW:=by
     rw[fo (fun p hp (e:p.1=_)=>hL (by rw[<-e];exact k9 p hp)),hb]
    have I:(execOp a.eval o).run A.C.P w=.ok (.value (.slice (some ⟨w.heap.size,0,none⟩) len len)) (w.alloc (.cells N.toArray e)):=by
     have e0:len*D.size=(Array.range (len*D.size)).size:=by simp
     have NR:¬16777216<len*D.size:=by omega
     have Lc:Instr.fill (fun i=>some (i*D.size,D.size)) ((Array.range (len*D.size)).map (D.zero.toArray[· % D.zero.toArray.size]!)) (ps.map fun p=>(p.1,a.eval p.2)).toList=some N.toArray:=by
      rw[aW];rw[<-k6]
     have Y:(Go.sizeOf e).run A.C.P w=.ok D.size w:=(hC.eL e D nf).sizeOf w;simp only[execOp,aq,Instr.buildSlice,aI,run_underlying dr,nH,Y];rw[af (show ¬len*D.size>2 ^ 24 by omega)];by_cases h0:len*D.size=0
     ·rw[qH h0];have k7:Instr.fill (fun i=>some (i*D.size,D.size)) ((Array.range (len*D.size)).map ((#[]:Array Value)[· % (#[]:Array Value).size]!)) (ps.map fun p=>(p.1,a.eval p.2)).toList=some N.toArray:=by
       have IK:∀f:Nat->Value,(Array.range 0).map f=#[]:=fun f=>by apply gV;simp
       rw[<-Lc,h0,IK,IK]
      simp only[aI,jS,nH];rw[k7];simp[newRow,newObj,Sem.run]
     rw[af h0];have K_:(zeroValue e).run A.C.P w=.ok ze w:=by simp[zeroValue,typeInfo,WC,DC]
     simp only[aI,jS,nH,K_];rw[DD,Lc];simp[newRow,newObj,Sem.run]
    have C4:Fr (fun _=>False) w (w.alloc (.cells N.toArray e)):=⟨rfl,rfl,rfl,by simp,fun k hk _=>aP _ _ _ hk⟩;have grow:=k2.KW hC (w.alloc (.cells N.toArray e)) C4 (fun b=>S' b\/b=w.heap.size) (fun b h=>.inl h) (fun b h=>by
     rcases h with h | h
     ·exact bg (k2.st b h) C4.size
     subst h;simp) (fun b h=>h.imp id fun h=>by omega)
    have rr:an A.C.P (w.alloc (.cells N.toArray e)) (ay S' (w.alloc (.cells N.toArray e))) e bW (.slice (some ⟨w.heap.size,0,none⟩) len len):=by
     refine an.of_flat WC (by omega) ?_ (by rw[qT];exact k4.mono (fun _ h=>h) (fun b hb=>aP _ _ _ (k2.st b hb)));have:=Uw (base:=0) (e:=e) (size:=D.size) w N.toArray len (nI _) (by simp only[maxLen];have:=cg len O;omega) (by simp[k4.len,k5]);rw[qT,k5];exact this
    have Yv:ay (fun b=>S' b\/b=w.heap.size) (w.alloc (.cells N.toArray e)) (.sl bW) (.slice (some ⟨w.heap.size,0,none⟩) len len):=rr.yG (fun b h=>.inl h) (fun g hg=>by simp[bH]at hg;exact .inr hg.symm);have aJ:=grow.Iy (o.dst.getD 0) bW (k2.gT hd) hL HB _ Yv;exact bS I (J _ _ _ _ _ _ _ k1 (aJ.value o.dst hd _ _ (.ow _ _ fun _=>⟨.inr rfl,(ak _ _ _).symm⟩)))
   exact G.elim
  exact G.elim
 exact G.elim
end Go.AM
namespace Go.AM
open Go.RowKit
theorem DK:∀{a b:List Nat},MQ a b=true->a=b
 | [],[],_=>rfl
 | [],_::_,h=>by cases h
 | _::_,[],h=>by cases h
 | a::r,b::s,h=>by
  unfold MQ at h;split at h
  ·rename_i e;rw[bq e,DK h]
  cases h
theorem yO{a b:MK}(h:MR a b=true):a=b:=by
 cases a with
 | str=>cases b with | str=>rfl | int k=>cases h | st s=>cases h
 | int k=>cases b with
  | str=>cases k<;>cases h
  | int k'=>cases k<;>cases k'<;>first | rfl | cases h
  | st s=>cases k<;>cases h
 | st s=>cases b with
  | str=>cases h
  | int k=>cases k<;>cases h
  | st s'=>rw[DK h]
def descOf:MK->TypeDesc
 | .str=>.string
 | .int k=>.int k
 | .st _=>.string
def vj:MK->Prop
 | .st _=>False
 | _=>True
variable {mk:MK}
theorem yP{P:Program}{t:TypeId}{ti:TI}(h:jw P t ti)(hp:vj mk)(z:tb ti=some mk):P.underlying t=some (descOf mk):=by
 have D:=h.under;unfold tb at z;cases G:ti.ud<;>rw[G]at z D<;>simp only at z<;>first
  | (cases z;done)
  | (injection z with z;subst z;exact D)
  | (
    split at z
    ·obtain⟨s,_,rfl⟩:=az.1 z;exact hp.elim
    cases z)
theorem tp:∀{sh:List Nat} {cs:List PV} {l:List Value},iB sh cs=some l->cs=l.map .im/\gZ sh l:=by
 intro sh
 induction sh with
 | nil=>
  intro cs l h;cases cs with
  | nil=>injection h with h;subst h;exact⟨rfl,trivial⟩
  | cons c cs=>cases h
 | cons n sh ih=>
  intro cs l h;cases cs with
  | nil=>simp[iB]at h
  | cons c cs=>
   unfold iB at h;split at h
   all_goals first
    | contradiction
    | (
      rename_i z D;injection z with z I;injection D with D J;subst z I D J;obtain⟨l',hl,rfl⟩:=az.1 h;obtain⟨N,G⟩:=ih hl;subst N
      first
       | exact⟨rfl,trivial,G⟩
       | exact⟨rfl,rfl,G⟩)
    | (cases h)
variable {k:Value}
theorem nj{a:AV}(h:keyOf mk a=some k):∃x,a=.p x/\mk.ok k/\∀S w v,ay S w x v->v=k:=by
 unfold keyOf at h;split at h
 ·injection h with h;subst h;exact⟨_,rfl,trivial,fun S w v z=>z.bc⟩
 ·injection h with h;subst h;exact⟨_,rfl,rfl,fun S w v z=>z.bc⟩
 ·obtain⟨l,hl,rfl⟩:=az.1 h;obtain⟨rfl,J⟩:=tp hl;refine⟨_,rfl,by simpa [MK.ok] using J,fun S w v z=>?_⟩;obtain⟨xs,N,I,_,O⟩:=z.kW;rw[N];congr 1;apply gV;apply lW;intro i;by_cases G:i<xs.size
  ·have D:i<l.length:=by
                  have:l.length=xs.size:=by simpa using I
                  omega
   have:=(O i (.im l[i]) xs[i] (by rw[ao,aM D];rfl) (bE G)).bc;rw[uZ,bE G,this];simp[D]
  have D:¬i<l.length:=by
                  have:l.length=xs.size:=by simpa using I
                  omega
  rw[dy (by simpa using G),dy (by simpa using D)]
 cases h
theorem yQ(hp:vj mk){a b:Value}(z:mk.ok a)(hb:mk.ok b):Instr.sameNow (descOf mk) a b=some (yx a b):=by
 cases mk with
 | str=>
  cases a<;>first | (exact z.elim) | skip
  cases b<;>first | (exact hb.elim) | skip
  simp only[Instr.sameNow,descOf,yx];congr 1;rw[gU,qP];simp
 | int k=>
  cases a<;>first | (exact z.elim) | skip
  cases b<;>first | (exact hb.elim) | skip
  have D:_=k:=z;have G:_=k:=hb;subst D;subst G;simp[Instr.sameNow,descOf,yx];rw[gU];simp
 | st s=>exact hp.elim
theorem DL(hp:vj mk)(h:mk.ok k):MapKept.IsKey (descOf mk) k:=by
 cases mk with
 | str=>cases k<;>first | (exact h.elim) | exact trivial
 | int j=>cases k<;>first | (exact h.elim) | exact h
 | st s=>exact hp.elim
theorem aL.key{C:Ctx}(hC:aL C){z:TypeId}{D:TI}(h:C.T z=some D)(I:tb D=some mk):As C.P z mk:=by
 by_cases hp:vj mk
 ·have J:=yP (hC.eL z D h) hp I;refine⟨fun e k w G=>MapKept.run_checkKey J (DL hp G) e 9999,fun k w ms G N=>MapKept.run_findKey J ?_⟩;generalize 0=i
  induction ms generalizing i with
  | nil=>rfl
  | cons m ms ih=>
   have hs:=yQ hp G (N m dJ);unfold Instr.findNow mN;rw[hs];cases yx k m.key with
   | true=>rfl
   | false=>exact ih (fun x O=>N x (An _ O)) _
 cases mk with
 | st s=>exact hC.keys z D s h I
 | str=>exact (hp trivial).elim
 | int j=>exact (hp trivial).elim
theorem F5:∀{sh:List Nat} {a b:List Value},gZ sh a->gZ sh b->Ux a b=true->a=b:=by
 intro sh
 induction sh with
 | nil=>
  intro a b D hb _;cases a with
  | nil=>cases b with
   | nil=>rfl
   | cons y b=>exact hb.elim
  | cons x a=>exact D.elim
 | cons n sh ih=>
  intro a b D hb h;cases a with
  | nil=>exact D.elim
  | cons x a=>cases b with
   | nil=>exact hb.elim
   | cons y b=>
    simp only[Ux,fH]at h;rw[ih D.2 hb.2 h.2];have e:x=y:=by
     have I:=D.1;have z:=hb.1;unfold yr at I z;split at I
     ·split at z<;>first | (exact z.elim) | (rename_i G;cases G;done) | skip
      have:=h.1;simp[yw]at this;rw[this]
     ·split at z<;>first | (exact z.elim) | (rename_i G;cases G;done) | skip
      have:=h.1;simp[yw]at this;rw[this,I,z]
     ·split at z<;>first | (exact z.elim) | (rename_i G;cases G;done) | skip
      have:=h.1;simp[yw]at this;rw[this]
     exact I.elim
    rw[e]
theorem IL{a b:Value}(z:mk.ok a)(hb:mk.ok b)(h:yx a b=true):a=b:=by
 cases mk with
 | str=>
  cases a<;>first | (exact z.elim) | skip
  cases b<;>first | (exact hb.elim) | skip
  simp[yx]at h;rw[h]
 | int k=>
  cases a<;>first | (exact z.elim) | skip
  cases b<;>first | (exact hb.elim) | skip
  have D:_=k:=z;have G:_=k:=hb;subst D;subst G;simp[yx]at h;rw[h]
 | st s=>
  cases a<;>first | (exact z.elim) | skip
  cases b<;>first | (exact hb.elim) | skip
  congr 1;exact gV (F5 (sh:=s) z hb h)
theorem find_spec(O:mk.ok k):∀(es:List (Value×PV)) (ms:List MapEntry) (j:Nat),ms.length=es.length->(∀(i:Nat) p m,es[i]?=some p->ms[i]?=some m->m.key=p.1/\mk.ok p.1)->
  (mN k ms j=none/\pc es k=none/\∀v,qB es k v=es++[(k,v)])\/
  ∃i m p,mN k ms j=some (j+i,m.val)/\ms[i]?=some m/\es[i]?=some p/\p.1=k/\pc es k=some p.2/\∀v,qB es k v=es.set i (k,v):=by
 intro es
 induction es with
 | nil=>
  intro ms j hl _;have:ms=[]:=gw hl;subst this;exact .inl ⟨rfl,rfl,fun v=>rfl⟩
 | cons p es ih=>
  intro ms j hl J;cases ms with
  | nil=>cases hl
  | cons m ms=>
   obtain⟨k',u⟩:=p;obtain⟨z,N⟩:=J 0 _ _ rfl rfl;simp only at z N;cases hv:yx k k' with
   | true=>
    refine .inr ⟨0,m,(k',u),?_,rfl,rfl,(IL O N hv).symm,by simp[pc,hv],fun v=>by simp[qB,hv]⟩;simp[mN,z,hv]
   | false=>
    rcases ih ms (j+1) (by simpa using hl) (fun i p m hp U=>J (i+1) p m (by simpa using hp) (by simpa using U)) with⟨D,G,I⟩ | ⟨i,Y,p,D,G,I,Z,q5,q6⟩
    ·exact .inl ⟨by simp[mN,z,hv,D],by simp[pc,hv,G],fun v=>by simp[qB,hv,I v]⟩
    refine .inr ⟨i+1,Y,p,?_,by simpa using G,by simpa using I,Z,by simp[pc,hv,q5],fun v=>by simp[qB,hv,q6 v]⟩;simp only[mN,z,hv,D];rw[br,Nat.add_comm 1 i]
theorem rN{n:Nat}:∀{sh:List Nat} {l:List Value},gZ sh l->((l.zip l).all fun (x,y)=>Instr.sameBits n x y)=true:=by
 intro sh
 induction sh with
 | nil=>intro l h;cases l with
  | nil=>rfl
  | cons x l=>exact h.elim
 | cons c sh ih=>
  intro l h;cases l with
  | nil=>exact h.elim
  | cons x l=>
   rw[List.zip_cons_cons,Ub,ih h.2,Bool.and_true];have z:=h.1;unfold yr at z;split at z
   ·cases n<;>exact (qP _ _).2 rfl
   ·cases n<;>simp[Instr.sameBits]
   ·cases n<;>simp[Instr.sameBits]
   exact z.elim
theorem sameBits_self(z:mk.ok k):Instr.sameBits 10000 k k=true:=by
 cases mk with
 | str=>
  cases k<;>first | (exact z.elim) | skip
  simp only[Instr.sameBits];exact (qP _ _).2 rfl
 | int j=>
  cases k<;>first | (exact z.elim) | skip
  simp[Instr.sameBits]
 | st s=>
  cases k<;>first | (exact z.elim) | skip
  rename_i xs;show (xs.size==xs.size&&(xs.toList.zip xs.toList).all fun (x,y)=>Instr.sameBits 9999 x y)=true;rw[rN (sh:=s) z];simp
variable {A:jR}
theorem yR{o:Oper}(t:TypeId)(J:o.op=.makeMap t none):eD A o:=by
 intro V L S rho s a w K next Q hC G hV N z U D
 simp only[aZ,J]at z;split at z
 ·split at z
  ·split at z
   ·obtain⟨Y,I⟩:=U _ _ _ z;have Z:=G.new hC (o.dst.getD 0) _ (G.gT N) Y I (w.alloc (.map #[] 0)) rfl rfl rfl (by simp) (fun _=>False) (fun k hk _=>aP _ _ _ hk) (fun _ h=>h.elim) (.map (some w.heap.size))
     (fun g O=>by simp[bH]at O;subst O;simp) (fun T=>by
      refine⟨w.heap.size,#[],0,ak _ _ _,(MapKept.heap_alloc w _).1,rfl,by simp,List.Pairwise.nil,fun m hm=>by cases hm⟩)
    exact bS (by simp[execOp,J,Instr.makeMap]) (D _ _ _ S _ _ _ z (Z.value o.dst N _ _ (.ow _ _ fun _=>⟨.inr rfl,(ak _ _ _).symm⟩)))
   exact z.elim
  exact z.elim
 exact z.elim
theorem ph{S:Nat->Prop}{w:World}{P:Program}{L:Nat->Prop}{rho:Nat->Value}{h:Nat->AB}{id:Nat}{es:List (Value×PV)}(D:cd S w P L rho h id (.map mk es)):
  ∃g ms z,rho id=.map (some g)/\w.heap[g]?=some (.map ms z)/\ms.size=es.length/\(∀(i:Nat) p m,es[i]?=some p->ms[i]?=some m->m.key=p.1/\mk.ok p.1/\ay S w p.2 m.val)/\jX ms z:=D
variable {ms:Array MapEntry}
theorem BP{z:Nat}(h:jX ms z)(k v:Value):jX (ms.push { key:=k,val:=v,born:=z }) (z+1):=by
 obtain⟨I,G⟩:=h;refine⟨?_,fun m D=>?_⟩
 ·rw[Array.toList_push,aa];refine jW.2 ⟨I,qQ _ _,fun a J b hb=>?_⟩;obtain⟨m,D,rfl⟩:=fh.1 J;simp at hb;subst hb;exact G m D
 rw[Array.toList_push,cD]at D;rcases D with D | D
 ·have:=G m D;omega
 simp at D;subst D;simp
theorem XB{z:Nat}(h:jX ms z)(j:Nat)(k v:Value):jX (ms.modify j fun e=>{ e with key:=k,val:=v }) z:=by
 have e:(ms.modify j fun e=>{ e with key:=k,val:=v }).toList.map (·.born)=ms.toList.map (·.born):=by
  apply lW;intro i;simp only[ao,uZ,qR];split<;>simp[Option.map_map,Function.comp_def]
 obtain⟨D,G⟩:=h;refine⟨by rw[e];exact D,fun m I=>?_⟩;have hb:m.born∈ms.toList.map (·.born):=by rw[<-e];exact fh.2 ⟨m,I,rfl⟩
 obtain⟨J,N,hb⟩:=fh.1 hb;rw[<-hb];exact G J N
theorem DN{es:List (Value×PV)}{R:PV->Value->Prop}(D:ms.size=es.length)(G:∀(i:Nat) p m,es[i]?=some p->ms[i]?=some m->m.key=p.1/\mk.ok p.1/\R p.2 m.val):∀m∈ms.toList,mk.ok m.key:=by
 intro m I;obtain⟨i,z,rfl⟩:=List.getElem_of_mem I;have J:i<es.length:=by rw[<-D];simpa using z
 obtain⟨N,O,_⟩:=G i es[i] (ms.toList[i]) (aM J) (by simp at z;simp[z]);rw[N];exact O
theorem yS{P:Program}{t:TypeId}{ti:TI}(h:jw P t ti)(hz:yA P t ti)(S:Nat->Prop)(w:World):∃z,(zeroValue t).run P w=.ok z w/\ay S w (WM ti) z:=by
 obtain⟨info,z,U,h2,h3,Y,J,h6,h7,h8⟩:=h;obtain⟨PM,z',D,G,I⟩:=hz;rw[U]at D;injection D with D;subst D;rw[Y]at G;injection G with G;subst G;refine⟨z,by simp[zeroValue,typeInfo,U,Y],?_⟩;unfold WM;cases Z:ti.ud.agg with
 | true=>
  rw[Z]at I;cases z<;>first | cases I | skip
  rename_i cs;have N:cs=ti.zero.toArray:=J;subst N;refine .ag _ _ (by simp) (fun u O=>h7 u (by simpa using O)) fun i c v hi hv=>?_;rw[ao]at hi;obtain⟨u,O,rfl⟩:=az.1 hi;have:u=v:=by simpa [O] using hv
  subst this;exact nQ S w u
 | false=>
  rw[Z]at I;have N:z.cells=#[z]:=by cases z<;>first | rfl | cases I
  rw[N]at J;have:ti.zero=[z]:=by simpa using (iX Array.toList J).symm
  rw[this];exact nQ S w z
theorem rO{o:Oper}(t:TypeId)(x i:Operand)(I:Bool){V L S:Nat->Prop}{rho:Nat->Value}{s:AS}{a:Act}{w:World}{K:KK}{next:Act->World->Prop}{Q:Exit->Act->World->Prop}(hC:aL A.C)(Y:aU A V L S rho s a w)(hd:∀d,o.dst=some d->d<A.n)
  (D:∀v eff new S' rho' a' w',K v eff new->aU A (mG V o.dst) (nR L new (o.dst.getD 0)) S' rho' ⟨cU s.t o.dst v,app s.h eff⟩ a' w'->next a' w')
  {kt et:TypeId} {O:TI} {mk:MK} {k:Value} {es:List (Value×PV)} {r:Option PV} {g:Nat} {ms:Array MapEntry} {J:Nat} (nf:A.C.T et=some O) (dr:A.C.P.underlying t=some (.map kt et)) (C5:As A.C.P kt mk) (Z:mk.ok k) (hi:a.eval i=k) (N:a.eval x=.map (some g)) (h2:w.heap[g]?=some (.map ms J)) (h3:ms.size=es.length) (h4:∀(i:Nat) p m,es[i]?=some p->ms[i]?=some m->m.key=p.1/\mk.ok p.1/\ay S w p.2 m.val) (hr:pc es k=r)
  (hq:match I with
   | true=>K (.tu [.p (r.getD (WM O)),.p (.im (.bool r.isSome))]) [] none
   | false=>K (.p (r.getD (WM O))) [] none) (aq:o.op=.lookup t x i I):o.wp A.C.P a w next Q:=by
 obtain⟨z,hz,QY⟩:=yS (hC.eL et O nf) (hC.zs et O nf) S w;have fI:∀m∈ms.toList,mk.ok m.key:=DN h3 h4;have key:∃u,(Instr.lookup t (a.eval x) (a.eval i) I).run A.C.P w=.ok (if I then .tuple #[u,.bool r.isSome] else u) w/\ay S w (r.getD (WM O)) u:=by
  rcases find_spec Z es ms.toList 0 (by simpa using h3) (fun i p m hp hm=>by obtain⟨q1,U,_⟩:=h4 i p m hp (by simpa using hm);exact⟨q1,U⟩) with⟨q1,U,_⟩ | ⟨j,m,p,q1,U,q3,q4,q5,_⟩
  ·rw[hr]at U;subst U;refine⟨z,?_,QY⟩;cases I<;>simp[Instr.lookup,run_underlying dr,N,aB h2,hi,C5.check _ _ _ Z,C5.find _ _ _ Z fI,q1,hz]
  rw[hr]at q5;subst q5;refine⟨m.val,?_,(h4 j p m q3 (by simpa using U)).2.2⟩;cases I<;>simp[Instr.lookup,run_underlying dr,N,aB h2,hi,C5.check _ _ _ Z,C5.find _ _ _ Z fI,q1]
 obtain⟨u,G,hu⟩:=key;cases I with
 | true=>
  refine ar Y hd D hq (.tu _ _ rfl fun i c v hc N=>?_) (by simp only[execOp,aq,aI,G,nH,jS];rfl)
  match i with
  | 0=>simp at hc N;subst hc N;exact .p _ _ hu
  | 1=>simp at hc N;subst hc N;exact .p _ _ (.im _)
  | i+2=>simp at hc
 | false=>exact ar Y hd D hq (.p _ _ hu) (by simp only[execOp,aq,aI,G,nH,jS];rfl)
theorem BQ{o:Oper}(t:TypeId)(x i:Operand)(U:Bool)(J:o.op=.lookup t x i U):eD A o:=by
 intro V L S rho s a w K next Q hC D hV hd z hn G
 simp only[aZ,J]at z;have N:=aH D x fun j Y=>hV j (by simp[J,Op.operands,Y]);have O:=aH D i fun j Y=>hV j (by simp[J,Op.operands,Y]);split at z
 case h_2=>exact z.elim
 rename_i kt et size bytes zero eq hT;have Z:=(hC.eL t _ hT).under;simp only at Z;split at z
 case h_2=>exact z.elim
 rename_i tk te NT nf;split at z
 case h_2=>exact z.elim
 rename_i mk hmk;have C5:=hC.key NT hmk;split at z
 ·rename_i id hid;split at z
  case h_2=>exact z.elim
  rename_i mk' es tq;split at z
  case h_2=>exact z.elim
  rename_i BR;obtain rfl:=yO BR;split at z
  case h_2=>exact z.elim
  rename_i k hk;obtain⟨xk,Kk,iS,Ld⟩:=nj hk;obtain⟨r,hr,z⟩:=z;rw[hid]at N;obtain⟨hL,hv⟩:=N.bu (by rw[tq];trivial);have hh:=D.hp id hL;rw[tq]at hh;obtain⟨g,ms,I,h1,h2,h3,h4,_⟩:=ph hh;rw[Kk]at O;exact rO t x i U hC D hd G nf Z C5 iS (Ld _ _ _ O.cb) (hv.trans h1) h2 h3 h4 hr z J
 ·rename_i mk' es hid;split at z
  case h_2=>exact z.elim
  rename_i BR;obtain rfl:=yO BR;split at z
  case h_2=>exact z.elim
  rename_i k hk;obtain⟨xk,Kk,iS,Ld⟩:=nj hk;obtain⟨r,hr,z⟩:=z;rw[hid]at N;obtain⟨g,ms,I,hv,_,h2,h3,h4,_⟩:=N.cb.yt;rw[Kk]at O;exact rO t x i U hC D hd G nf Z C5 iS (Ld _ _ _ O.cb) hv h2 (by rw[ct];exact h3) (fun i p m hp hm=>by
   rw[ao,az]at hp;obtain⟨q,z,rfl⟩:=hp;obtain⟨e1,e2,e3⟩:=h4 i q m z hm;exact⟨e1,e2,by rw[e3];exact .im _⟩) hr z J
 exact z.elim
theorem BS{es:Array MapEntry}{z:Array Nat}{e:MapEntry}(G:e∈(leftOf es z).toList):(leftOf es (z.push e.born)).size<(leftOf es z).size:=by
 have h:(leftOf es (z.push e.born))=(leftOf es z).filter fun x=>!(x.born==e.born):=by
  unfold leftOf;rw[Array.filter_filter];congr 1;funext x;rw[Array.contains_push];cases z.contains x.born<;>cases h:x.born==e.born<;>simp_all
 rw[h];rcases Nat.lt_or_ge ((leftOf es z).filter fun x=>!(x.born==e.born)).size (leftOf es z).size with D | D
 ·exact D
 exfalso;have I:=Array.size_filter_le (p:=fun x=>!(x.born==e.born)) (xs:=leftOf es z);have J:=(Array.filter_size_eq_size (p:=fun x=>!(x.born==e.born)) (xs:=leftOf es z)).1 (Nat.le_antisymm I D);have:=J e (by simpa using G);simp at this
theorem run_next_at{P:Program}(w:World)(Y:TypeId)(g O z:Nat)(D:Array Nat)(es:Array MapEntry)(Z:w.heap[g]?=some (.mapIter (some O) z D z))(hb:w.heap[O]?=some (.map es z))(I:∀x∈es.toList,x.born<z):
  ((leftOf es D).size=0/\(Instr.next (.pointer (some ⟨g,0,none⟩)) false Y).run P w=.ok (.tuple #[.bool false]) w)\/
  ∃e∈(leftOf es D).toList,∃G:World,G.heap=w.heap/\G.os=w.os/\G.tape=w.tape/\G.output=w.output /\
   (Instr.next (.pointer (some ⟨g,0,none⟩)) false Y).run P w=.ok (.tuple #[.bool true,e.key,e.val]) { G with heap:=w.heap.setIfInBounds g (.mapIter (some O) z (D.push e.born) z) }:=by
 simp only[Instr.next,getObj,aI,Sem.run,Z,hb,Result.andThen,next_test_false D es z z I (aC _),qU,if_false];unfold leftOf;have U:∀x∈(Array.filter (fun e=>!D.contains e.born) es).toList,x.born<z:=fun x J=>I x (by simp at J ⊢;exact J.1);generalize Array.filter (fun e=>!D.contains e.born) es=L at U ⊢;have e1:L.filter (fun x=>decide (x.born<z))=L:=Array.filter_eq_self.2 (fun x J=>by simpa using U x (by simpa using J));have e2:L.filter (fun x=>decide (x.born>=z))=#[]:=by
  rw[Array.filter_eq_empty_iff];intro x J;have:=U x (by simpa using J);simp;omega
 simp only[e1,e2,Array.append_empty];by_cases h0:L.size=0
 ·left;have:L=#[]:=aK h0;subst this;refine⟨rfl,?_⟩;simp[choose,Sem.run,Question.forced]
 right;have bO:L.isEmpty=false:=by simp[Array.isEmpty,h0]
 simp only[bO,qU,if_false,Array.empty_append,Array.size_map];have QZ:∃(j:Nat) (G:World),j<L.size/\(G.heap=w.heap/\G.os=w.os/\G.tape=w.tape/\G.output=w.output)/\(choose (Question.mapNext L.size)).run P w=.ok j G:=by
  by_cases hf:L.size<=1
  ·exact⟨0,w,by omega,⟨rfl,rfl,rfl,rfl⟩,by simp[choose,Sem.run,Question.forced,hf]⟩
  exact⟨_,w.drew,di _ (by omega),⟨rfl,rfl,rfl,rfl⟩,by
   simp only[choose,Sem.run,Question.forced,dS,hf,if_false,Question.cut];rfl⟩
 obtain⟨j,G,hj,⟨q1,q2,q3,q4⟩,N⟩:=QZ;refine⟨L[j],by simp,G,q1,q2,q3,q4,?_⟩;simp only[N,dU,bE hj,cW,aI,setObj,Sem.run,Result.andThen,q1,Z];rfl
theorem DO{o:Oper}(t:TypeId)(x:Operand)(J:o.op=.range t x):eD A o:=by
 intro V L S rho s a w K next Q hC D hV O G hn I
 simp only[aZ,J]at G;have U:=aH D x fun j hj=>hV j (by simp[J,Op.operands,hj]);split at G
 case h_2=>exact G.elim
 rename_i kt et size bytes zero eq hT;have Y:=(hC.eL t _ hT).under;simp only at Y;split at G
 case h_2=>exact G.elim
 rename_i mk es hid;rw[hid]at U;obtain⟨g,ms,z,hv,hS,Z,h3⟩:=U.cb.yt;obtain⟨hL,N⟩:=hn _ _ _ G;have dv:=D.st g hS;have aJ:=D.new hC (o.dst.getD 0) _ (D.gT O) hL N (w.alloc (.mapIter (some g) z #[] z)) rfl rfl rfl (by simp) (fun _=>False) (fun k hk _=>aP _ _ _ hk) (fun _ h=>h.elim) (.pointer (some ⟨w.heap.size,0,none⟩))
  (fun g hg=>by simp[bH]at hg;subst hg;simp) (fun T=>by
   refine⟨w.heap.size,g,ms,z,#[],ak _ _ _,heap_alloc_new w _,hS,(heap_alloc_old w _ dv).trans Z,h3,?_,fun p hp=>by cases hp⟩;rw[<-h3.1];simp[leftOf])
 exact bS (by simp[execOp,J,hv,run_range_map w t _ _ g ms z Y Z]) (I _ _ _ S _ _ _ G (aJ.value o.dst O _ _ (.bx _ _ _ fun _=>⟨.inr rfl,_,ak _ _ _,rfl⟩)))
theorem DP{o:Oper}(x:Operand)(U:o.op=.entry x):eD A o:=by
 intro V L S rho s a w K next Q hC z hV hd G hn D
 simp only[aZ,U]at G;have Y:=aH z x fun j hj=>hV j (by simp[U,Op.operands,hj]);split at G
 case h_2=>exact G.elim
 rename_i id hid;split at G
 case h_2=>exact G.elim
 rename_i mk es k p hit;rw[hid]at Y;obtain⟨hL,Z,eY,I⟩:=Y.dt (by rw[hit];trivial);have hh:=z.hp id hL;rw[hit]at hh;obtain⟨g,mg,ms,clock,seen,J,h2,h3,h4,h5,h6,h7⟩:=hh;have eg:Z=g:=by rw[eY]at J;injection J with J;injection J with J;injection J
 subst eg;obtain⟨e,he,Hs,rfl,k1,k2⟩:=h7 p rfl;have hf:ms.find? (·.born==e.born)=some e:=by
  rw[<-Array.find?_toList];exact find_born e ms.toList (h5.2.2.1.imp fun h=>Nat.ne_of_lt h) he
 have N:(Instr.entry (.pointer (some ⟨Z,0,none⟩))).run A.C.P w=.ok (.tuple #[e.key,e.val]) w:=by
  simp only[Instr.entry,getObj,aI,Sem.run,h2,h4,Result.andThen,Array.back?_push,bne_self_eq_false,qU,if_false,hf];rfl
 refine bS (by simp only[execOp,U,I,aI,N,nH,jS];rfl) (D _ _ _ S _ _ _ G (z.value o.dst hd _ _ (.tu _ _ rfl fun i c v O I=>?_)))
 match i with
 | 0=>simp at O I;subst O I;rw[k1];exact .p _ _ (.im _)
 | 1=>simp at O I;subst O I;rw[k2];exact .p _ _ (.im _)
 | i+2=>simp at O
theorem vk{o:Oper}(t:TypeId)(x i y:Operand)(aq:o.op=.mapUpdate t x i y):eD A o:=by
 intro V L S rho s a w K next Q hC I hV hd z hn U
 simp only[aZ,aq]at z;have hx:=aH I x fun j hj=>hV j (by simp[aq,Op.operands,hj]);have hi:=aH I i fun j hj=>hV j (by simp[aq,Op.operands,hj]);have hy:=aH I y fun j hj=>hV j (by simp[aq,Op.operands,hj]);split at z
 case h_2=>exact z.elim
 rename_i kt et size bytes zero eq hT;have dr:=(hC.eL t _ hT).under;simp only at dr;split at z
 case h_2=>exact z.elim
 rename_i tk NT;split at z
 case h_2=>exact z.elim
 rename_i mk Y;have C5:=hC.key NT Y;split at z
 case h_2=>exact z.elim
 rename_i id hid;split at z
 case h_2=>exact z.elim
 rename_i mk' es tq;split at z
 case h_2=>exact z.elim
 rename_i BR;obtain rfl:=yO BR;split at z
 case h_2=>exact z.elim
 rename_i k hk;obtain⟨xk,Kk,N,Ld⟩:=nj hk;obtain⟨yv,fz,S2,z,aJ,O,nX,hF,wU⟩:=e8 hC I (kM.refl s.h) hy z;split at z
 case h_2=>exact z.elim
 rename_i tP;have o9:app s.h fz id=.map mk es:=by rw[iD tP];exact tq
 rw[hid]at hx;obtain⟨hL,hv⟩:=hx.bu (by rw[tq];trivial);have hh:=aJ.hp id hL;have hh:cd S2 w A.C.P L rho (app s.h fz) id (app s.h fz id):=hh;rw[o9]at hh;obtain⟨g,ms,G,h1,h2,h3,h4,MS⟩:=ph hh;rw[Kk]at hi;have hi:=Ld _ _ _ hi.cb;have fI:∀m∈ms.toList,mk.ok m.key:=DN h3 h4;have fin:∀J Z,(Instr.mapUpdate t (a.eval x) (a.eval i) (a.eval y)).run A.C.P w=.ok () { w with heap:=w.heap.setIfInBounds g (.map J Z) }->J.size=(qB es k yv).length->jX J Z ->
   (∀(i:Nat) p m,(qB es k yv)[i]?=some p->J[i]?=some m->m.key=p.1/\mk.ok p.1/\ay S2 w p.2 m.val)->o.wp A.C.P a w next Q:=by
  intro J Z hrun hsz NU NV;obtain⟨g1,g2⟩:=MapKept.heap_set (o':=.map J Z) h2;refine jx (w':={ w with heap:=w.heap.setIfInBounds g (.map J Z) }) (by simp only[execOp,aq,aI,hrun,nH,jS]) ?_;have cF:=aJ.write hC id hL (by show (app s.h fz id).live;rw[o9];trivial) (.map mk (qB es k yv)) (fun _ h=>by cases h) { w with heap:=w.heap.setIfInBounds g (.map J Z) } rfl rfl rfl (by simp) (fun k hk=>g2 k fun e=>hk (by rw[h1,e];rfl)) fun T=>by
   refine⟨g,J,Z,h1,g1,hsz,fun i p m hp D=>?_,NU⟩;obtain⟨q1,q2,q3⟩:=NV i p m hp D;exact⟨q1,q2,q3.mono T.hS T.keep⟩
  have:=U _ _ _ S2 _ _ _ z (by
   rw[bJ];exact cF.value o.dst hd .junk undef (.junk _))
  exact this
 rcases find_spec N es ms.toList 0 (by simpa using h3) (fun i p m hp D=>by obtain⟨q1,q2,_⟩:=h4 i p m hp (by simpa using D);exact⟨q1,q2⟩) with⟨q1,q2,q3⟩ | ⟨j,m,p,q1,q2,q3,q4,q5,q6⟩
 ·refine fin (ms.push { key:=k,val:=a.eval y,born:=G }) (G+1) ?_ (by rw[q3];simp[h3]) (BP MS _ _) fun i p m hp D=>?_
  ·simp[Instr.mapUpdate,run_underlying dr,hv,h1,aB h2,hi,C5.check _ _ _ N,C5.find _ _ _ N fI,q1,MapKept.run_setObj_map _ h2]
  rw[q3]at hp;by_cases dv:i<es.length
  ·rw[ba dv]at hp;rw[Array.getElem?_push_lt (by omega)]at D;exact h4 i p m hp (by rw[<-D];exact bE _)
  have WC:i=es.length:=by
   have:=ah hp;simp at this;omega
  subst WC;rw[<-h3]at D;simp at hp D;subst hp D;exact⟨rfl,N,O⟩
 have F4:ms[j]?=some m:=by simpa using q2
 have Y:m.key=k:=by rw[<-q4];exact (h4 j p m q3 F4).1
 refine fin (ms.modify j fun e=>{ e with key:=k,val:=a.eval y }) G ?_ (by rw[q6];simp[h3]) (XB MS _ _ _) fun i p' m' hp D=>?_
 ·simp[Instr.mapUpdate,run_underlying dr,hv,h1,aB h2,hi,C5.check _ _ _ N,C5.find _ _ _ N fI,q1,F4,Y,Instr.keyThatStays,sameBits_self N,MapKept.run_setObj_map _ h2]
 rw[q6]at hp;rw[qR]at D;by_cases e:j=i
 ·subst e;rw[qH rfl,F4]at D;rw[bQ (ah q3)]at hp;simp at hp D;subst hp D;exact⟨rfl,N,O⟩
 rw[af e]at D;rw[bY e]at hp;exact h4 i p' m' hp D
theorem ok_slice{o:Oper}(t:TypeId)(x:Operand)(O U:Option Operand)(I:o.op=.slice t x O U none):eD A o:=by
 intro V L S rho s a w K next Q hC G Y hd z hn D
 have old:=BI t x O U I hC G Y hd (K:=K) (Q:=Q) (next:=next);simp only[aZ,I]at z;split at z
 case h_2=>exact old z D
 rename_i id hid;split at z
 case h_2=>exact old z D
 rename_i e' es ai;rcases z with z | z
 case inr=>exact old z D
 have hx:=aH G x fun j J=>Y j (by simp[I,Op.operands,J]);have KZ:∀y,O=some y->aE S w A.C.P L rho s.h (ev s.t y) (a.eval y):=fun y hy=>aH G y fun j J=>Y j (by simp[I,Op.operands,J,hy]);have K0:∀y,U=some y->aE S w A.C.P L rho s.h (ev s.t y) (a.eval y):=fun y hy=>aH G y fun j J=>Y j (by simp[I,Op.operands,J,hy]);unfold nN at z;split at z
 case h_2=>exact z.elim
 rename_i e size bytes zero eq hT;have dr:=(hC.eL t _ hT).under;simp only at dr;split at z
 case h_2=>exact z.elim
 rename_i ng;obtain rfl:=dC ng;split at z
 case h_2=>exact z.elim
 rename_i k m k' n h1 h2;obtain⟨⟨h3,h4,h5⟩,z⟩:=z;rw[hid]at hx;obtain⟨hL,hv⟩:=hx.bu (by rw[ai];trivial);have Z:=G.hp id hL;rw[ai]at Z;have Z:an A.C.P w (ay S w) e' es (rho id):=Z;obtain⟨ie,xs,WC,hpos,hown,_⟩:=Z;have AD:∃ad c,rho id=.slice ad es.length c/\es.length<=c:=by
  rcases hown.2 with⟨g1,g2⟩ | ⟨g,cap,cur,g1,_,_,g2,_⟩
  ·exact⟨none,0,by rw[g1,g2],by omega⟩
  exact⟨_,cap,g1,g2⟩
 obtain⟨ad,c,AD,N⟩:=AD;have hb:=rL G O U KZ K0 true es.length c k m k' n N h1 h2 h3 h4 h5;refine ar G hd D z (.vw id _ _ _ fun e2 j6=>?_) (by simp[execOp,I,Instr.sliceAt,Instr.slice,hv,AD,run_underlying dr,hb,Go.sizeOf,typeInfo,WC];rfl);rw[ai]at j6;injection j6 with j6;subst j6;exact⟨hL,es.length,c,ad,ie,AD,WC,by omega,by omega,N,rfl⟩
theorem Flat.take{S:Nat->Prop}{w:World}{k:Nat}{es:List (List PV)}{xs:List Value}(h:Flat S w k es xs)(n:Nat)(D:n<=es.length):Flat S w k (es.take n) (xs.take (n*k)):=by
 have I:n*k<=es.length*k:=bZ _ D;refine⟨by rw[dI,dI,h.len];rw[bD I,bD D],fun r J=>h.row r (eM J),fun u N=>h.one u (eM N),fun i r j x z G=>?_⟩;have O:=ah z;rw[dI]at O;rw[aF (by omega)]at z;obtain⟨u,U,Y⟩:=h.rep i r j x z G;have Su:j<k:=by rw[<-h.row r (aj z)];exact ah G
 refine⟨u,?_,Y⟩;rw[aF,U];have:=bZ k (show i+1<=n by omega);rw[lV]at this;omega
theorem Flat.drop{S:Nat->Prop}{w:World}{k:Nat}{es:List (List PV)}{xs:List Value}(h:Flat S w k es xs)(n:Nat):Flat S w k (es.drop n) (xs.drop (n*k)):=by
 refine⟨by rw[cw,cw,h.len,aR],fun r D=>h.row r (jT D),fun u G=>h.one u (jT G),fun i r j x z I=>?_⟩;rw[cV]at z;obtain⟨u,J,N⟩:=h.rep (n+i) r j x z I;refine⟨u,?_,N⟩;rw[cV,<-J];congr 1;rw[qI,br]
theorem DQ{o:Oper}(c:Call)(aq:o.op=.call c)(hc:c.callee=.builtin .clear):eD A o:=by
 intro V L S rho s a w K next Q hC U hV hd I _ hnext
 obtain⟨callee,args,argTypes⟩:=c;simp only at hc;subst hc;simp only[aZ,aq,Ta,dK]at I;split at I
 case h_2=>exact I.elim
 rename_i x t J Dy;have hx:=aH U x fun j hj=>hV j (by simp[aq,Op.operands,Call.operands,hj];rw[<-hj];exact nK.1 (by rw[J];simp));have e1:args=#[x]:=by rw[<-qM (xs:=args),J]
 have e2:argTypes=#[t]:=by rw[<-qM (xs:=argTypes),Dy]
 subst e1 e2;split at I
 case h_2=>exact I.elim
 rename_i e size bytes zero eq hT;have dr:=(hC.eL t _ hT).under;simp only at dr;split at I
 case h_2=>exact I.elim
 rename_i ti nf;split at I
 case h_2=>exact I.elim
 rename_i id z D hid;split at I
 case h_2=>exact I.elim
 rename_i e' es ai;split at I
 case h_2=>exact I.elim
 rename_i AE;simp only[fH]at AE;obtain⟨ng,N⟩:=AE;obtain⟨⟨QM,Q0⟩,I⟩:=I;obtain rfl:=dC ng;have N:0<ti.size:=Tj N;rw[hid]at hx;obtain⟨hL,n,cp,ad,Ny,eZ,mI,_,QN,Ki,Z⟩:=hx.rJ ai;have hh:=U.hp id hL;rw[ai]at hh;have hh:an A.C.P w (ay S w) e' es (rho id):=hh;obtain⟨G,ze,WC,qT,BL,DC,DD,ga⟩:=(hC.eL e' ti nf).info;rw[WC]at mI;injection mI with mI;subst mI;obtain⟨xs,Q1,hown,qd⟩:=an.flat WC hh;have fin:∀w',(∀ty,(Builtin.clear_ #[t] ty #[a.eval x]).run A.C.P w=.ok (.tuple #[]) w')->aU A V L S rho ⟨s.t,ax s.h id (.row e' (es.take z++List.replicate (D-z) (ti.zero.map qD)++es.drop D))⟩ a w'->o.wp A.C.P a w next Q:=by
  intro w' hrun aQ;exact bS (v:=.tuple #[]) (by simp[execOp,aq,resolve,invoke,builtin,hrun]) (hnext _ _ _ S _ _ _ I (aQ.value o.dst hd (.tu []) _ (.tu [] #[] rfl (by simp))))
 by_cases heq:D=z
 ·subst heq;refine fin w (fun ty=>?_) ?_
  ·rw[Z,gX];cases (if cp=D then ad else ad.map (·.add (D*G.size)))<;>simp[Builtin.clear_,run_underlying dr]
  rw[gX,List.replicate_zero,fK,ca,eX _ _ _ ai];exact U
 rcases hown.2 with⟨g1,g2⟩ | ⟨g,O,Y,g1,_,g3,g4,g5,g6,g7⟩
 ·exact absurd g2 (by omega)
 have HD:=eZ;rw[g1]at HD;injection HD with r1 r2 r3;subst r1 r2 r3;have NF:a.eval x=.slice (some ⟨g,z*G.size,none⟩) (D-z) (O-z):=by
  rw[Z,af (by omega)];simp only[cW,Addr.add];split
  ·rename_i h0;rw[h0]
  simp
 have NG:((Array.range ((D-z)*ti.size)).map (ti.zero.toArray[· % ti.zero.toArray.size]!))=Builtin.zeroCells ze.cells (D-z):=by
  unfold Builtin.zeroCells;rw[DD,(show ti.zero.toArray.size=ti.size by simpa using (hC.eL e' ti nf).Dk)]
 have hz:=Flat.zero false S w (hC.eL e' ti nf) N (D-z);rw[NG,<-qT]at hz;have iQ:(Builtin.zeroCells ze.cells (D-z)).toList.length=(D-z)*G.size:=by rw[hz.len,uX]
 have Q2:D*G.size<=O*G.size:=bZ _ (by omega);have BU:z*G.size+(D-z)*G.size=D*G.size:=by rw[<-qI];congr 1;omega
 have wL:=run_storeCells_at A.C.P g (z*G.size) e' (Builtin.zeroCells ze.cells (D-z)).toList 0 Y w g3 (by rw[iQ,g6];omega) hz.one;simp only[uT]at wL;have BV:D-z≠0:=by omega
 refine fin (w.setRow g (Y.toList.take (z*G.size)++(Builtin.zeroCells ze.cells (D-z)).toList++Y.toList.drop (z*G.size+(Builtin.zeroCells ze.cells (D-z)).toList.length)).toArray) (fun ty=>?_) ?_
 ·rw[NF];cases hk:D-z with
  | zero=>exact absurd hk BV
  | succ m=>
   rw[hk]at wL;simp[Builtin.clear_,run_underlying dr,zeroValue,typeInfo,WC,DC,wL]
 refine U.write hC id hL (by rw[ai];trivial) _ (fun e2 h=>by rw[ai];exact h) _ (setRow_os w g _) (setRow_tape w g _) (setRow_output w g _) (setRow_size w g _) (fun k hk=>setRow_other w g k _ fun e=>hk (by rw[g1,e];rfl)) fun T=>?_;show an A.C.P _ _ e' _ (rho id);have hF:Flat S w G.size (es.take z++List.replicate (D-z) (ti.zero.map qD)++es.drop D) (xs.take (z*G.size)++(Builtin.zeroCells ze.cells (D-z)).toList++xs.drop (D*G.size)):=((qd.take z (by omega)).app hz).app (qd.drop D);refine an.of_flat WC Q1 ?_ (hF.mono T.hS T.keep);have PN:(es.take z++List.replicate (D-z) (ti.zero.map qD)++es.drop D).length=es.length:=by simp;omega
 rw[PN];refine⟨by rw[hF.len,PN],.inr ⟨g,O,_,g1,nI _,setRow_heap w g Y _ e' (0,0) g3,g4,g5,?_,?_⟩⟩
 ·rw[Tk,fj,fj,iQ,dI,cw,cf,g6];omega
 rw[<-g7,iQ,BU];have h1:z*G.size<=es.length*G.size:=bZ _ (by omega);have h2:D*G.size<=es.length*G.size:=bZ _ Q0;have h3:es.length*G.size<=O*G.size:=bZ _ g4;simp only[List.take_append,fj,dI,cf,g6,iQ,nZ,List.drop_take];rw[bD (show z*G.size<=O*G.size by omega),bD h1];rw[Nat.min_eq_right h1,vm (l:=(Builtin.zeroCells ze.cells (D-z)).toList) (by rw[iQ];omega)];rw[show es.length*G.size-(z*G.size+(D-z)*G.size)=es.length*G.size-D*G.size by omega]
end Go.AM
