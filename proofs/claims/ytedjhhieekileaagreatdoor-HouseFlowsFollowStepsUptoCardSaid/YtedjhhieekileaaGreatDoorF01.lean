/- Part 1 of the proof of HouseFlowsFollowSteps. -/
import Derived.StillTail
import Derived.OwnWalk
import Derived.WalkKit
import Derived.Lib.Hide
import Derived.Below
import Derived.Laws.IdiomRangeMap
import Derived.MapKept
set_option linter.unusedVariables false
set_option linter.unusedSimpArgs false
set_option maxRecDepth 100000
set_option maxHeartbeats 8000000
namespace Go
abbrev cr:=@Bool.eq_false_iff
abbrev bq:=@Nat.eq_of_beq_eq_true
abbrev uR:=@Go.World.cell?_of_block
abbrev aC:=@Nat.le_refl
abbrev bM:=@Nat.le_trans
abbrev bg:=@Nat.lt_of_lt_of_le
abbrev aj:=@List.mem_of_getElem?
abbrev cL:=@List.getElem?_eq_some_iff
abbrev cB:=@List.getElem?_take
abbrev lU:=@Array.getD_eq_getD_getElem?
abbrev fg:=@Array.getElem?_setIfInBounds
abbrev af:=@if_neg
abbrev cC:=@List.all_eq_true
abbrev ao:=@List.getElem?_map
abbrev bE:=@Array.getElem?_eq_getElem
abbrev gU:=@Bool.eq_iff_iff
abbrev dS:=@decide_eq_true_eq
abbrev uS:=@Go.ByteArray.toList_eq
abbrev gV:=@Array.ext'
abbrev az:=@Option.map_eq_some_iff
abbrev aI:=@Go.Sem.run_bind
abbrev gW:=@Go.Addr.add_lit
abbrev aM:=@List.getElem?_eq_getElem
abbrev fh:=@List.getElem?_drop
abbrev dT:=@Nat.le_of_ble_eq_true
abbrev fG:=@List.getElem?_range
abbrev cV:=@Nat.zero_add
abbrev Tj:=@Nat.add_assoc
abbrev ae:=@if_pos
abbrev br:=@Go.Result.andThen_ok
abbrev ct:=@Go.Sem.run_pure
abbrev qH:=@List.mem_of_mem_drop
abbrev nH:=@List.mem_of_mem_take
abbrev jS:=@Nat.add_zero
abbrev jT:=@Nat.add_mul
abbrev eM:=@Option.map_some
abbrev uT:=@Array.getElem?_map
abbrev qI:=@Array.mem_of_getElem?
abbrev cW:=@List.eq_nil_of_length_eq_zero
abbrev dU:=@Iff.rfl
abbrev cX:=@List.mem_append
abbrev gw:=@Go.RowKit.Below.heap_alloc
abbrev jU:=@List.length_nil
abbrev cD:=@List.length_cons
abbrev fH:=@Nat.sub_self
abbrev aP:=@List.getElem?_set_self
abbrev qJ:=@List.getElem?_cons_succ
abbrev bw:=@List.getElem?_set_ne
abbrev gX:=@List.append_assoc
abbrev bQ:=@List.getElem?_append_left
abbrev gY:=@List.getElem?_take_of_lt
abbrev bY:=@List.getElem?_append_right
abbrev bR:=@Nat.succ_mul
abbrev ba:=@Nat.mul_le_mul_right
abbrev aF:=@List.length_set
abbrev bd:=@Nat.zero_le
abbrev lV:=@List.size_toArray
abbrev bZ:=@List.length_append
abbrev cu:=@List.length_take
abbrev nI:=@List.length_drop
abbrev Tk:=@Array.length_toList
abbrev fj:=@List.ext_getElem?
abbrev dI:=@List.getElem?_eq_none
abbrev cw:=@List.mem_or_eq_of_mem_set
abbrev cf:=@List.mem_iff_getElem?
abbrev lW:=@Nat.lt_or_gt_of_ne
abbrev dy:=@Nat.succ_le_of_lt
abbrev nJ:=@List.length_singleton
abbrev uU:=@Array.toList_setIfInBounds
abbrev jV:=@Nat.min_eq_left
abbrev uV:=@List.cons_append
abbrev aw:=@List.nil_append
abbrev qK:=@Bool.and_eq_true
abbrev bD:=@Array.size_setIfInBounds
abbrev fm:=@Array.mem_toList_iff
abbrev lX:=@Array.toArray_toList
abbrev uW:=@Go.MapKept.run_getObj_map
abbrev qL:=@List.getElem_mem
abbrev nK:=@Nat.sub_mul
abbrev qM:=@Nat.mod_lt
abbrev aB:=@List.eq_of_mem_replicate
abbrev Al:=@List.length_map
abbrev aR:=@Nat.mul_comm
abbrev di:=@List.exists_mem_of_ne_nil
abbrev qN:=@Nat.div_lt_iff_lt_mul
abbrev aV:=@List.mem_map
abbrev uX:=@List.length_replicate
abbrev uY:=@List.foldl_cons
abbrev qO:=@List.map_cons
abbrev Am:=@List.mapM_cons
abbrev Uw:=@Go.World.ownsRow_lit
abbrev uZ:=@Array.toList_map
abbrev aW:=@Nat.le_mul_of_pos_right
abbrev cg:=@Array.getElem?_toList
abbrev qP:=@Go.MapKept.bytes_beq
abbrev dJ:=@List.mem_cons_self
abbrev An:=@List.mem_cons_of_mem
abbrev Ub:=@List.all_cons
abbrev aa:=@List.map_append
abbrev jW:=@List.pairwise_append
abbrev qQ:=@List.pairwise_singleton
abbrev qR:=@Array.getElem?_modify
abbrev iX:=@List.getElem_of_mem
abbrev qU:=@congrArg
abbrev aK:=@Bool.false_eq_true
abbrev fK:=@Array.eq_empty_of_size_eq_zero
abbrev ca:=@List.append_nil
abbrev nZ:=@List.take_append_drop
abbrev vm:=@List.take_of_length_le
end Go
namespace Go.AM
open Go.RowKit
inductive MK where
 | str
 | int (k:IntKind)
 | st (sh:List Nat)
inductive PV where
 | im (x:Value)
 | ag (cs:List PV)
 | sl (es:List (List PV))
 | ip (cs:List PV)
 | fn (f:FuncId) (cap:List PV)
 | mp (mk:MK) (es:List (Value×Value))
 | ifc (t:TypeId) (x:PV)
inductive AV where
 | p (x:PV)
 | nl
 | ow (id:Nat)
 | rp (id i off:Nat)
 | bx (id off:Nat)
 | vw (id lo hi:Nat)
 | fn (f:FuncId) (cap:List AV)
 | tu (xs:List AV)
 | st (xs:List AV)
 | ifp (t:TypeId) (a:AV)
 | junk
def yr:Nat->Value->Prop
 | 0,.string _=>True
 | 1,.int k _=>k=.i64
 | 2,.bool _=>True
 | _,_=>False
def gZ:List Nat->List Value->Prop
 | [],[]=>True
 | n::s,v::r=>yr n v/\gZ s r
 | _,_=>False
def MK.ok:MK->Value->Prop
 | .str,.string _=>True
 | .int k,.int k' _=>k'=k
 | .st sh,.agg xs=>gZ sh xs.toList
 | _,_=>False
inductive HC where
 | p (x:PV)
 | row (e:TypeId) (es:List (List PV))
def HC.isRow:HC->Prop
 | .row ..=>True
 | _=>False
inductive HX where
 | av (x:AV)
 | row (e:TypeId) (es:List (List PV))
abbrev FX:=Option Nat
inductive AB where
 | none
 | row (e:TypeId) (es:List (List PV))
 | f_ (es:List (List PV))
 | box (cs:List AV)
 | eN (ty:TypeId) (cs:List AV)
 | jt (cs:List PV)
 | map (mk:MK) (es:List (Value×PV))
 | aA (cs:List HC)
 | ai (e:TypeId) (es:List (List HX))
 | iter (mk:MK) (es:List (Value×Value)) (k:Nat) (cur:Option (Value×Value))
 | cell (c0:Array Value) (ty:TypeId) (a:AV)
 | fam (l:List (Nat×List HC)) (out:List (Nat×FX))
def AB.live:AB->Prop
 | .row .. | .box .. | .eN .. | .map .. | .aA .. | .ai .. | .iter .. | .cell .. | .fam ..=>True
 | _=>False
def AB.fD:AB->Option TypeId
 | .row e _=>some e
 | .ai e _=>some e
 | _=>Option.none
def AB.there:AB->Prop
 | .none=>False
 | _=>True
structure AS where
 t:Nat->AV
 h:Nat->AB
def ax{α:Type}(f:Nat->α)(i:Nat)(x:α)(j:Nat):α:=match Nat.beq j i with | true=>x | false=>f j
variable {α:Type}
theorem ak(f:Nat->α)(i:Nat)(x:α):ax f i x i=x:=by simp[ax]
theorem au(f:Nat->α){i j:Nat}(x:α)(h:j≠i):ax f i x j=f j:=by
 unfold ax;have:Nat.beq j i=false:=by rw[cr];intro e;exact h (bq e)
 rw[this]
theorem eX(f:Nat->α)(i:Nat)(x:α)(h:f i=x):ax f i x=f:=by
 funext j;by_cases e:j=i
 ·subst e;rw[ak,h]
 rw[au _ _ e]
def jX(ms:Array MapEntry)(clock:Nat):Prop:=(ms.toList.map (·.born)).Pairwise (· < ·)/\∀m∈ms.toList,m.born<clock
def C9(mk:MK)(es:List (Value×Value))(ms:Array MapEntry)(clock:Nat):Prop:=ms.size=es.length/\(∀(i:Nat) p m,es[i]?=some p->ms[i]?=some m->m.key=p.1/\mk.ok p.1/\m.val=p.2)/\jX ms clock
inductive ay(S:Nat->Prop)(w:World):PV->Value->Prop
 | im (x:Value):ay S w (.im x) x
 | ag (cs:List PV) (vs:Array Value) (hl:cs.length=vs.size) (h1:∀u∈vs.toList,u.oneCell'=true) (h:∀(i:Nat) c v,cs[i]?=some c->vs[i]?=some v->ay S w c v):ay S w (.ag cs) (.agg vs)
 | nil (a:Option Addr) (c:Nat):ay S w (.sl []) (.slice a 0 c)
 | sl (es:List (List PV)) (k b off c:Nat) (U:Nat->Nat->Value) (hc:es.length<=c) (hS:S b) (hk:∀e∈es,e.length=k)
   (hcell:∀(i:Nat) e (j:Nat) x,es[i]?=some e->e[j]?=some x->w.cell? ⟨b,off+i*k+j,none⟩=some (U i j)/\(U i j).oneCell'=true)
   (h:∀(i:Nat) e (j:Nat) x,es[i]?=some e->e[j]?=some x->ay S w x (U i j)):ay S w (.sl es) (.slice (some ⟨b,off,none⟩) es.length c)
 | ip (cs:List PV) (b off:Nat) (U:Nat->Value) (hS:S b) (hcell:∀(j:Nat) x,cs[j]?=some x->w.cell? ⟨b,off+j,none⟩=some (U j)/\(U j).oneCell'=true)
   (h:∀(j:Nat) x,cs[j]?=some x->ay S w x (U j)):ay S w (.ip cs) (.pointer (some ⟨b,off,none⟩))
 | fn (f:FuncId) (cap:List PV) (vs:Array Value) (hl:cap.length=vs.size) (h:∀(i:Nat) c v,cap[i]?=some c->vs[i]?=some v->ay S w c v):ay S w (.fn f cap) (.func (.func f) #[] vs)
 | mp (mk:MK) (es:List (Value×Value)) (g:Nat) (ms:Array MapEntry) (clock:Nat) (hS:S g) (hb:w.heap[g]?=some (.map ms clock)) (h:C9 mk es ms clock):ay S w (.mp mk es) (.map (some g))
 | ifc (t:TypeId) (x:PV) (v:Value) (h:ay S w x v):ay S w (.ifc t x) (.iface t v)
variable {w':World}
theorem ay.mono{S S':Nat->Prop}{w:World}{x:PV}{v:Value}(h:ay S w x v)(hS:∀b,S b->S' b)(hw:∀b,S b->w'.heap[b]?=w.heap[b]?):ay S' w' x v:=by
 induction h with
 | im x=>exact .im x
 | ag cs vs hl h1 h ih=>exact .ag cs vs hl h1 ih
 | nil a c=>exact .nil a c
 | sl es k b off c U hc hb hk hcell h ih=>exact .sl es k b off c U hc (hS b hb) hk (fun i e j x h1 h2=>⟨(uR (hw b hb)).trans (hcell i e j x h1 h2).1,(hcell i e j x h1 h2).2⟩) ih
 | ip cs b off U hb hcell h ih=>exact .ip cs b off U (hS b hb) (fun j x h1=>⟨(uR (hw b hb)).trans (hcell j x h1).1,(hcell j x h1).2⟩) ih
 | fn f cap vs hl h ih=>exact .fn f cap vs hl ih
 | mp mk es g ms clock hg hb h=>exact .mp mk es g ms clock (hS g hg) ((hw g hg).trans hb) h
 | ifc t x v h ih=>exact .ifc t x v ih
theorem ay.FJ{S:Nat->Prop}{w:World}{t:TypeId}{x:PV}{v:Value}(h:ay S w (.ifc t x) v):∃u,v=.iface t u/\ay S w x u:=by
 cases h with
 | ifc _ _ u h=>exact⟨u,rfl,h⟩
theorem ay.yt{S:Nat->Prop}{w:World}{mk:MK}{es:List (Value×Value)}{v:Value}(h:ay S w (.mp mk es) v):∃g ms clock,v=.map (some g)/\S g/\w.heap[g]?=some (.map ms clock)/\C9 mk es ms clock:=by
 cases h with
 | mp _ _ g ms clock hS hb h=>exact⟨g,ms,clock,rfl,hS,hb,h⟩
structure Fr(mv:Nat->Prop)(w w':World):Prop where
 os:w'.os=w.os
 tape:w'.tape=w.tape
 output:w'.output=w.output
 size:w.heap.size<=w'.heap.size
 block:∀k,k<w.heap.size->¬mv k->w'.heap[k]?=w.heap[k]?
theorem Fr.refl(mv:Nat->Prop)(w:World):Fr mv w w:=⟨rfl,rfl,rfl,aC _,fun _ _ _=>rfl⟩
theorem Fr.trans{mv PD:Nat->Prop}{a b c:World}(h:Fr mv a b)(k:Fr PD b c)(hm:∀i,PD i->mv i\/a.heap.size<=i):Fr mv a c:=
 ⟨k.os.trans h.os,k.tape.trans h.tape,k.output.trans h.output,bM h.size k.size,fun i hi hn=>
  (k.block i (bg hi h.size) (fun mD=>by rcases hm i mD with h1 | h1;exact hn h1;omega)).trans (h.block i hi hn)⟩
def an{α:Type}(P:Program)(w:World)(R:α->Value->Prop)(e:TypeId)(es:List (List α))(v:Value):Prop:=
 ∃i xs,P.info? e=some i/\0<i.size/\w.ownsRow 0 e i.size v es.length xs/\(∀r∈es,r.length=i.size)/\(∀u∈xs,u.oneCell'=true)/\
  ∀(a:Nat) r (j:Nat) x,es[a]?=some r->r[j]?=some x->∃u,xs[a*i.size+j]?=some u/\R x u
def bH:Value->Option Nat
 | .slice (some a) _ _=>some a.block
 | .pointer (some a)=>some a.block
 | .map (some g)=>some g
 | _=>none
inductive aE(S:Nat->Prop)(w:World)(P:Program)(L:Nat->Prop)(rho:Nat->Value)(h:Nat->AB):AV->Value->Prop
 | p (x:PV) (v:Value) (hx:ay S w x v):aE S w P L rho h (.p x) v
 | nl:aE S w P L rho h .nl (.slice none 0 0)
 | ow (id:Nat) (v:Value) (hv:(h id).there->L id/\v=rho id):aE S w P L rho h (.ow id) v
 | rp (id i off:Nat) (v:Value) (hv:∀e,(h id).fD=some e->L id/\∃g n c ti,rho id=.slice (some ⟨g,0,none⟩) n c/\P.info? e=some ti/\v=.pointer (some ⟨g,i*ti.size+off,none⟩)):aE S w P L rho h (.rp id i off) v
 | bx (id off:Nat) (v:Value) (hv:(h id).there->L id/\∃g,rho id=.pointer (some ⟨g,0,none⟩)/\v=.pointer (some ⟨g,off,none⟩)):aE S w P L rho h (.bx id off) v
 | vw (id lo hi:Nat) (v:Value) (hv:∀e,(h id).fD=some e->L id/\∃n c a ti,rho id=.slice a n c/\P.info? e=some ti/\lo<=hi/\hi<=n/\n<=c/\v=.slice (if c=lo then a else a.map (·.add (lo*ti.size))) (hi-lo) (c-lo)):aE S w P L rho h (.vw id lo hi) v
 | fn (f:FuncId) (cap:List AV) (vs:Array Value) (hl:cap.length=vs.size) (hc:∀(i:Nat) c v,cap[i]?=some c->vs[i]?=some v->aE S w P L rho h c v):aE S w P L rho h (.fn f cap) (.func (.func f) #[] vs)
 | tu (xs:List AV) (vs:Array Value) (hl:xs.length=vs.size) (hc:∀(i:Nat) c v,xs[i]?=some c->vs[i]?=some v->aE S w P L rho h c v):aE S w P L rho h (.tu xs) (.tuple vs)
 | st (xs:List AV) (vs:Array Value) (hl:xs.length=vs.size) (h1:∀u∈vs.toList,u.oneCell'=true) (hc:∀(i:Nat) c v,xs[i]?=some c->vs[i]?=some v->aE S w P L rho h c v):aE S w P L rho h (.st xs) (.agg vs)
 | ifp (t:TypeId) (a:AV) (u:Value) (hc:aE S w P L rho h a u):aE S w P L rho h (.ifp t a) (.iface t u)
 | junk (v:Value):aE S w P L rho h .junk v
def Hr(S:Nat->Prop)(w:World)(P:Program):HC->Value->Prop
 | .p x,u=>ay S w x u
 | .row e es,u=>an P w (ay S w) e es u
structure yu(S:Nat->Prop)(w:World)(P:Program)(cs:List HC)(g:Nat)(ty:TypeId)(c:Array Value):Prop where
 hp:w.heap[g]?=some (.cells c ty (0,0))
 sz:c.size=cs.length
 cell:∀(j:Nat) x u,cs[j]?=some x->c[j]?=some u->u.oneCell'=true/\Hr S w P x u
 top:∀(j:Nat) x u b,cs[j]?=some x->c[j]?=some u->x.isRow->bH u=some b->b≠g
 dis:∀(i j:Nat) x y u v b,cs[i]?=some x->cs[j]?=some y->c[i]?=some u->c[j]?=some v->x.isRow->y.isRow->bH u=some b->bH v=some b->i=j
def iY(S:Nat->Prop)(w:World)(P:Program)(L:Nat->Prop)(rho:Nat->Value)(h:Nat->AB):HX->Value->Prop
 | .av x,u=>aE S w P L rho h x u
 | .row e es,u=>an P w (ay S w) e es u
def bI(w:World)(es:List (List HX))(g:Nat)(a j:Nat)(u:Value):Prop:=∃(r:List HX) (e:TypeId) (xs:List (List PV)) (c:Array Value) (ty:TypeId) (m:Nat×Nat),es[a]?=some r/\r[j]?=some (.row e xs)/\w.heap[g]?=some (.cells c ty m)/\c[a*r.length+j]?=some u
structure kU(w:World)(es:List (List HX))(v:Value):Prop where
 top:∀g a j u b,bH v=some g->bI w es g a j u->bH u=some b->b≠g
 dis:∀g a j a' j' u u' b,bH v=some g->bI w es g a j u->bI w es g a' j' u'->bH u=some b->bH u'=some b->a=a'/\j=j'
def Np(w:World)(x:AB)(v:Value)(k:Nat):Prop:=∃e es g a j u,x=.ai e es/\bH v=some g/\bI w es g a j u/\bH u=some k
def Nq(w:World)(x:AB)(v:Value)(k:Nat):Prop:=∃cs g,x=.aA cs/\bH v=some g/\∃(c:Array Value) (ty:TypeId) (m:Nat×Nat) (j:Nat) (y:HC) (u:Value),w.heap[g]?=some (.cells c ty m)/\cs[j]?=some y/\y.isRow/\c[j]?=some u/\bH u=some k
def mE(w:World)(cs:List HC)(g k:Nat):Prop:=k=g\/∃(c:Array Value) (ty:TypeId) (mm:Nat×Nat) (j:Nat) (y:HC) (u:Value),w.heap[g]?=some (.cells c ty mm)/\cs[j]?=some y/\y.isRow/\c[j]?=some u/\bH u=some k
def qA(out:List (Nat×FX))(m:Nat):Prop:=∀p∈out,p.1≠m
def Nr(w:World)(x:AB)(k:Nat):Prop:=∃(l:List (Nat×List HC)) (out:List (Nat×FX)) (m g:Nat) (cs:List HC),x=.fam l out/\l[m]?=some (g,cs)/\qA out m/\mE w cs g k
def QH(w:World)(x:AB)(v:Value)(k:Nat):Prop:=Nq w x v k\/Np w x v k\/Nr w x k
def hasB(w:World)(x:AB)(v:Value)(k:Nat):Prop:=bH v=some k\/QH w x v k
variable {k:Nat}
theorem C_{w:World}{x:AB}{v:Value}(h:bH v=some k):hasB w x v k:=.inl h
theorem iZ{w:World}{es:List (List HX)}{g a j:Nat}{u:Value}(hw:w'.heap[g]?=w.heap[g]?)(h:bI w' es g a j u):bI w es g a j u:=by
 obtain⟨r,e,xs,c,ty,m,h1,h2,h3,h4⟩:=h;exact⟨r,e,xs,c,ty,m,h1,h2,by rw[<-hw];exact h3,h4⟩
theorem pb{w:World}{cs:List HC}{g:Nat}(hw:w'.heap[g]?=w.heap[g]?)(h:mE w' cs g k):mE w cs g k:=by
 rcases h with h | ⟨c,ty,mm,j,y,u,h1,h2⟩
 ·exact .inl h
 exact .inr ⟨c,ty,mm,j,y,u,by rw[<-hw];exact h1,h2⟩
theorem b_{w:World}{x:AB}{v:Value}(hw:∀g,hasB w x v g->w'.heap[g]?=w.heap[g]?)(h:hasB w' x v k):hasB w x v k:=by
 rcases h with h | ⟨cs,g,hx,hv,c,ty,m,j,y,u,h1,h2⟩ | ⟨e,es,g,a,j,u,hx,hv,h1,h2⟩ | ⟨l,out,m,g,cs,hx,hm,ho,hk⟩
 ·exact .inl h
 ·exact .inr (.inl ⟨cs,g,hx,hv,c,ty,m,j,y,u,by rw[<-hw g (.inl hv)];exact h1,h2⟩)
 ·exact .inr (.inr (.inl ⟨e,es,g,a,j,u,hx,hv,iZ (hw g (.inl hv)) h1,h2⟩))
 exact .inr (.inr (.inr ⟨l,out,m,g,cs,hx,hm,ho,pb (hw g (.inr (.inr (.inr ⟨l,out,m,g,cs,hx,hm,ho,.inl rfl⟩)))) hk⟩))
def Ij:AB->Bool
 | .aA _=>false
 | .ai _ _=>false
 | .fam ..=>false
 | _=>true
theorem al{w:World}{x:AB}{v:Value}(hx:Ij x=true)(h:hasB w x v k):bH v=some k:=by
 rcases h with h | ⟨cs,g,rfl,_⟩ | ⟨e,es,g,a,j,u,rfl,_⟩ | ⟨l,out,m,g,cs,rfl,_⟩
 ·exact h
 ·cases hx
 ·cases hx
 cases hx
structure mY(S:Nat->Prop)(w:World)(P:Program)(L:Nat->Prop)(rho:Nat->Value)(h:Nat->AB)(l:List (Nat×List HC))(out:List (Nat×FX)):Prop where
 mem:∀m g cs,l[m]?=some (g,cs)->qA out m->∃ty c,yu S w P cs g ty c
 dis:∀m m' g g' cs dB k,l[m]?=some (g,cs)->l[m']?=some (g',dB)->qA out m->qA out m'->mE w cs g k->mE w dB g' k->m=m'
 out:∀m n g cs,(m,some n)∈out->l[m]?=some (g,cs)->(h n).there->L n/\rho n=.pointer (some ⟨g,0,none⟩)
def cd(S:Nat->Prop)(w:World)(P:Program)(L:Nat->Prop)(rho:Nat->Value)(h:Nat->AB)(id:Nat):AB->Prop
 | .none=>True
 | .row e es=>an P w (ay S w) e es (rho id)
 | .f_ es=>ay S w (.sl es) (rho id)
 | .box cs=>∃g ty c,rho id=.pointer (some ⟨g,0,none⟩)/\w.heap[g]?=some (.cells c ty (0,0))/\c.size=cs.length/\∀(j:Nat) x u,cs[j]?=some x->c[j]?=some u->u.oneCell'=true/\aE S w P L rho h x u
 | .eN ty cs=>∃g c,rho id=.pointer (some ⟨g,0,none⟩)/\w.heap[g]?=some (.cells c ty (0,0))/\c.size=cs.length/\∀(j:Nat) x u,cs[j]?=some x->c[j]?=some u->u.oneCell'=true/\aE S w P L rho h x u
 | .jt cs=>ay S w (.ip cs) (rho id)
 | .aA cs=>∃g ty c,rho id=.pointer (some ⟨g,0,none⟩)/\yu S w P cs g ty c
 | .ai e es=>an P w (iY S w P L rho h) e es (rho id)/\kU w es (rho id)
 | .map mk es=>∃g ms clock,rho id=.map (some g)/\w.heap[g]?=some (.map ms clock)/\ms.size=es.length/\(∀(i:Nat) p m,es[i]?=some p->ms[i]?=some m->m.key=p.1/\mk.ok p.1/\ay S w p.2 m.val)/\jX ms clock
 | .iter mk es k cur=>∃g mg ms clock,∃seen:Array Nat,rho id=.pointer (some ⟨g,0,none⟩)/\w.heap[g]?=some (.mapIter (some mg) clock seen clock)/\S mg/\w.heap[mg]?=some (.map ms clock)/\C9 mk es ms clock/\(leftOf ms seen).size=k /\
  ∀p,cur=some p->∃e∈ms.toList,∃Hs:Array Nat,seen=Hs.push e.born/\e.key=p.1/\e.val=p.2
 | .cell c0 ty a=>∃g off v,rho id=.pointer (some ⟨g,off,none⟩)/\off<c0.size/\w.heap[g]?=some (.cells (c0.setIfInBounds off v) ty (0,0))/\v.oneCell'=true/\aE S w P L rho h a v
 | .fam l out=>bH (rho id)=none/\mY S w P L rho h l out
theorem bN{w:World}{e:TypeId}{es:List (List HX)}{v:Value}:hasB w (.ai e es) v k↔bH v=some k\/∃g a j u,bH v=some g/\bI w es g a j u/\bH u=some k:=by
 constructor
 ·rintro (h | ⟨cs,g,h,_⟩ | ⟨e',bW,g,a,j,u,h,h1,h2,h3⟩ | ⟨_,_,_,_,_,h,_⟩)
  ·exact .inl h
  ·cases h
  ·injection h with h4 h5;subst h4 h5;exact .inr ⟨g,a,j,u,h1,h2,h3⟩
  cases h
 rintro (h | ⟨g,a,j,u,h1,h2,h3⟩)
 ·exact .inl h
 exact .inr (.inr (.inl ⟨_,_,_,_,_,_,rfl,h1,h2,h3⟩))
end Go.AM
namespace Go.AM
open Go.RowKit
inductive UD where
 | sc
 | int (k:IntKind)
 | st (fs:List (Nat×Nat×Bool))
 | sl (e:TypeId)
 | str
 | mp (k e:TypeId)
structure TI where
 ud:UD
 size:Nat
 bytes:Nat
 zero:List Value
 eq:Bool:=false
def UD.agg:UD->Bool
 | .st _=>true
 | _=>false
inductive Arg where
 | pv (x:PV)
 | row (e:TypeId) (es:List (List PV))
 | map (mk:MK) (es:List (Value×PV))
 | box (cs:List PV)
 | aA (cs:List HC)
inductive AR where
 | p (x:PV)
 | own (e:TypeId) (es:List (List PV))
 | tu (xs:List PV)
 | hown (cs:List HC)
inductive Fin where
 | gone
 | row (es:List (List PV))
 | map (es:List (Value×PV))
 | box (cs:List PV)
 | aA (cs:List HC)
structure Ctx where
 P:Program
 T:TypeId->Option TI
 md:FuncId->Nat->Bool
 E:(Nat->Prop)->World->Prop
 bl:FuncId->Bool:=fun _=>false
 bt:TypeId->Bool:=fun _=>false
 bn:TypeId->Bool:=fun _=>false
 bo:TypeId->Bool:=fun _=>false
 bf:Nat->Bool:=fun _=>false
 bh:TypeId->Bool:=fun _=>false
 nc:FuncId->Bool:=fun _=>false
 pt:TypeId->Bool:=fun _=>false
def yw:Value->Value->Bool
 | .string a,.string b=>decide (a=b)
 | .int _ a,.int _ b=>decide (a=b)
 | .bool a,.bool b=>decide (a=b)
 | _,_=>false
def Ux:List Value->List Value->Bool
 | [],[]=>true
 | x::r,y::s=>yw x y&&Ux r s
 | _,_=>false
def yx:Value->Value->Bool
 | .string a,.string b=>decide (a=b)
 | .int _ a,.int _ b=>decide (a=b)
 | .agg a,.agg b=>Ux a.toList b.toList
 | _,_=>false
def pc:List (Value×PV)->Value->Option PV
 | [],_=>none
 | (k',v)::r,k=>match yx k k' with
  | true=>some v
  | false=>pc r k
def qB:List (Value×PV)->Value->PV->List (Value×PV)
 | [],k,v=>[(k,v)]
 | (k',u)::r,k,v=>match yx k k' with
  | true=>(k,v)::r
  | false=>(k',u)::qB r k v
def Uy:List Value->Option (List Nat)
 | []=>some []
 | .string _::r=>(Uy r).map (0::·)
 | .int .i64 _::r=>(Uy r).map (1::·)
 | .bool _::r=>(Uy r).map (2::·)
 | _=>none
def tb(ti:TI):Option MK:=match ti.ud with
 | .str=>some .str
 | .int k=>some (.int k)
 | .st fs=>match ti.eq,fs.any (·.2.2) with
  | true,false=>(Uy ti.zero).map .st
  | _,_=>none
 | _=>none
def MQ:List Nat->List Nat->Bool
 | [],[]=>true
 | a::r,b::s=>match Nat.beq a b with
  | true=>MQ r s
  | false=>false
 | _,_=>false
def MR:MK->MK->Bool
 | .str,.str=>true
 | .int .i64,.int .i64=>true
 | .st a,.st b=>MQ a b
 | _,_=>false
def iB:List Nat->List PV->Option (List Value)
 | [],[]=>some []
 | 0::s,.im (.string x)::r=>(iB s r).map (.string x::·)
 | 1::s,.im (.int .i64 x)::r=>(iB s r).map (.int .i64 x::·)
 | 2::s,.im (.bool x)::r=>(iB s r).map (.bool x::·)
 | _,_=>none
def keyOf:MK->AV->Option Value
 | .str,.p (.im (.string s))=>some (.string s)
 | .int .i64,.p (.im (.int .i64 n))=>some (.int .i64 n)
 | .st sh,.p (.ag cs)=>(iB sh cs).map fun l=>.agg l.toArray
 | _,_=>none
abbrev KK:=AV->List (Nat×AB)->Option AB->Prop
def app(h:Nat->AB):List (Nat×AB)->Nat->AB
 | []=>h
 | (i,b)::r=>app (ax h i b) r
def qD:Value->PV
 | .slice none 0 0=>.sl []
 | v=>.im v
def Kc(b:Bool)(v:Value):PV:=match b with
 | true=>.im v
 | false=>qD v
def Kd:PV->AV
 | .im (.slice none 0 0)=>.nl
 | x=>.p x
def Bx:Value->AV
 | .slice none 0 0=>.nl
 | v=>.p (.im v)
def u6:Value->AV
 | .slice none 0 0=>.nl
 | .agg cs=>match cs.toList.all Value.oneCell' with
  | true=>.p (.ag (cs.toList.map qD))
  | false=>.junk
 | v=>.p (.im v)
def ev(t:Nat->AV):Operand->AV
 | .tmp j=>t j
 | .const v=>u6 v
 | .global g=>.p (.im (.pointer (some ⟨g,0,none⟩)))
 | .func f=>.p (.im (.func (.func f) #[] #[]))
def cE:List AV->Option (List PV)
 | []=>some []
 | .p x::r=>(cE r).map (x::·)
 | .nl::r=>(cE r).map (.sl []::·)
 | _=>none
def iC(h:Nat->AB)(a:AV)(K:PV->List (Nat×AB)->Prop):Prop:=
 match a with
 | .p x=>K x []
 | .nl=>K (.sl []) []
 | .ow id=>match h id with
  | .row _ es=>K (.sl es) [(id,.f_ es)]
  | .f_ es=>K (.sl es) []
  | _=>False
 | .bx id off=>match h id with
  | .box cs=>match cE cs with
   | some xs=>K (.ip (xs.drop off)) [(id,.jt xs)]
   | none=>False
  | .jt xs=>K (.ip (xs.drop off)) []
  | _=>False
 | _=>False
def pZ(h:Nat->AB):List AV->(List PV->List (Nat×AB)->Prop)->Prop
 | [],K=>K [] []
 | a::r,K=>iC h a fun x fz=>pZ h r fun xs jr=>K (x::xs) (fz++jr)
def g_(h:Nat->AB)(a:AV)(K:PV->List (Nat×AB)->Prop):Prop:=
 match a with
 | .fn f cap=>pZ h cap fun xs fz=>K (.fn f xs) fz
 | a=>iC h a K
def mZ:PV->Option (List PV)
 | .ag cs=>some cs
 | .im x=>match x.oneCell' with
  | true=>some [.im x]
  | false=>none
 | x=>some [x]
def kL(h:Nat->AB):AV->Bool
 | .p (.im x)=>x.oneCell'
 | .p (.ag _)=>false
 | .p _=>true
 | .nl=>true
 | .ow id=>match h id with
  | .row _ _=>true
  | .ai _ _=>true
  | .f_ _=>true
  | .map _ _=>true
  | _=>false
 | .bx id _=>match h id with
  | .none=>false
  | _=>true
 | .rp id _ _=>match h id with
  | .row _ _=>true
  | .ai _ _=>true
  | _=>false
 | .vw id _ _=>match h id with
  | .row _ _=>true
  | _=>false
 | .fn _ _=>true
 | _=>false
def setCells{α:Type}:List α->Nat->List α->List α
 | cs,_,[]=>cs
 | cs,off,x::r=>setCells (cs.set off x) (off+1) r
def m_(id:Nat):List (Nat×AB)->Bool
 | []=>true
 | (i,_)::r=>match Nat.beq i id with
  | true=>false
  | false=>m_ id r
def yy(a b:Nat):Bool:=Nat.ble a b
def o7(a b:Nat):Bool:=Nat.beq a b
def QI(x:Int):Prop:=-9223372036854775808<=x/\x<=9223372036854775807
def Ik{α:Type}:List α->Bool
 | []=>true
 | _=>false
def kB(a b:IntKind):Bool:=match a,b with
 | .i8,.i8 | .i16,.i16 | .i32,.i32 | .i64,.i64 | .u8,.u8 | .u16,.u16 | .u32,.u32 | .u64,.u64=>true
 | _,_=>false
def KH:IntKind->Bool
 | .i64=>true
 | _=>false
def pd(k:IntKind)(n:Int)(K:Value->Prop):Prop:=match KH k with
 | true=>QI n/\K (.int .i64 n)
 | false=>K (.int k (k.wrap n))
def aX:List Value->List PV->List PV->Option Bool
 | [],[],[]=>some true
 | .int _ _::z,.im (.int k a)::r,.im (.int k' b)::s=>match kB k k' with
  | true=>(aX z r s).map (decide (a=b)&&·)
  | false=>none
 | .string _::z,.im (.string a)::r,.im (.string b)::s=>(aX z r s).map (decide (a=b)&&·)
 | .bool _::z,.im (.bool a)::r,.im (.bool b)::s=>(aX z r s).map (decide (a=b)&&·)
 | _,_,_=>none
def By(T:TypeId->Option TI)(op:BinOp)(t:TypeId)(x:PV)(K:Value->Prop):Prop:=match x with
 | .sl es=>match Ik es with
  | true=>False
  | false=>match T t with
   | some { ud:=.sl _,.. }=>match op with
    | .eql=>K (.bool false)
    | .neq=>K (.bool true)
    | _=>False
   | _=>False
 | _=>False
def Ns:BinOp->Bool
 | .shr=>true
 | _=>false
def na(T:TypeId->Option TI)(op:BinOp)(t:TypeId)(x y:PV)(K:Value->Prop):Prop:=
 match x,y with
 | .im (.int k a),.im (.int k' b)=>match Ns op with
  | true=>(0<=b/\b<64)/\K (.int k (a.fdiv (2 ^ (min b.toNat k.bits))))
  | false=>match kB k k' with
  | false=>False
  | true=>match op with
   | .add=>pd k (a+b) K
   | .sub=>pd k (a-b) K
   | .mul=>pd k (a*b) K
   | .quo=>b≠0/\pd k (a.tdiv b) K
   | .rem=>b≠0/\K (.int k (a.tmod b))
   | .eql=>K (.bool (decide (a=b)))
   | .neq=>K (.bool (!decide (a=b)))
   | .lss=>K (.bool (decide (a<b)))
   | .leq=>K (.bool (decide (a<=b)))
   | .gtr=>K (.bool (decide (a>b)))
   | .geq=>K (.bool (decide (a>=b)))
   | _=>False
 | .im (.string a),.im (.string b)=>match op with
  | .add=>a.size+b.size<=9223372036854775807/\K (.string (a++b))
  | .eql=>K (.bool (decide (a=b)))
  | .neq=>K (.bool (!decide (a=b)))
  | .lss=>K (.bool (Op.bytesLess a.data.toList b.data.toList))
  | .leq=>K (.bool (Op.bytesLess a.data.toList b.data.toList||decide (a=b)))
  | .gtr=>K (.bool !(Op.bytesLess a.data.toList b.data.toList||decide (a=b)))
  | .geq=>K (.bool !(Op.bytesLess a.data.toList b.data.toList))
  | _=>False
 | .im (.bool a),.im (.bool b)=>match T t with
  | some { ud:=.sc,eq:=true,.. }=>match op with
   | .eql=>K (.bool (decide (a=b)))
   | .neq=>K (.bool (!decide (a=b)))
   | _=>False
  | _=>False
 | .ag a,.ag b=>match T t with
  | some { ud:=.st _,eq:=true,size:=n,zero:=z,.. }=>match o7 n a.length with
   | false=>False
   | true=>match op with
    | .eql=>match aX z a b with
     | some r=>K (.bool r)
     | none=>False
    | .neq=>match aX z a b with
     | some r=>K (.bool !r)
     | none=>False
    | _=>False
  | _=>False
 | _,_=>False
def Bz(p:Value×Value):Value×PV:=(p.1,.im p.2)
def u7(S:Nat->Prop)(w:World)(mk:MK)(es:List (Value×PV))(v:Value):Prop:=∃g ms clock,v=.map (some g)/\w.heap[g]?=some (.map ms clock)/\ms.size=es.length/\(∀(i:Nat) p m,es[i]?=some p->ms[i]?=some m->m.key=p.1/\mk.ok p.1/\ay S w p.2 m.val)/\jX ms clock
def yz(S:Nat->Prop)(w:World)(P:Program):Arg->Value->Prop
 | .pv x,v=>ay S w x v
 | .row e es,v=>an P w (ay S w) e es v/\∀g,bH v=some g->¬S g
 | .map mk es,v=>u7 S w mk es v/\∀g,bH v=some g->¬S g
 | .box cs,v=>∃g ty c,v=.pointer (some ⟨g,0,none⟩)/\w.heap[g]?=some (.cells c ty (0,0))/\c.size=cs.length/\¬S g/\∀(j:Nat) x u,cs[j]?=some x->c[j]?=some u->u.oneCell'=true/\ay S w x u
 | .aA cs,v=>∃g ty c,v=.pointer (some ⟨g,0,none⟩)/\yu S w P cs g ty c/\∀k,hasB w (.aA cs) v k->¬S k/\k<w.heap.size
def tc:Arg->AB
 | .aA cs=>.aA cs
 | _=>.none
def FK:Fin->AB
 | .aA cs=>.aA cs
 | _=>.none
def Arg.handed:Arg->Bool
 | .pv _=>false
 | _=>true
def Mv(w:World)(args:List Arg)(vs:Array Value)(g:Nat):Prop:=∃(j:Nat) (x:Arg) (v:Value),args[j]?=some x/\vs[j]?=some v/\x.handed=true/\hasB w (tc x) v g
def jk(S:Nat->Prop)(w:World)(P:Program):Arg->Fin->Value->Prop
 | _,.gone,_=>True
 | .row e _,.row es,v=>an P w (ay S w) e es v/\∀g,bH v=some g->¬S g
 | .map mk _,.map es,v=>u7 S w mk es v/\∀g,bH v=some g->¬S g
 | .box _,.box cs,v=>∃g ty c,v=.pointer (some ⟨g,0,none⟩)/\w.heap[g]?=some (.cells c ty (0,0))/\c.size=cs.length/\¬S g/\∀(j:Nat) x u,cs[j]?=some x->c[j]?=some u->u.oneCell'=true/\ay S w x u
 | .aA _,.aA cs,v=>∃g ty c,v=.pointer (some ⟨g,0,none⟩)/\yu S w P cs g ty c/\∀k,hasB w (.aA cs) v k->¬S k
 | _,_,_=>False
def Fin.kept:Fin->Bool
 | .gone=>false
 | _=>true
def Da(S:Nat->Prop)(w:World)(P:Program):AR->Value->Prop
 | .p x,v=>ay S w x v
 | .own e es,v=>an P w (ay S w) e es v/\∀g,bH v=some g->¬S g
 | .hown cs,v=>∃g ty c,v=.pointer (some ⟨g,0,none⟩)/\yu S w P cs g ty c/\∀k,hasB w (.aA cs) v k->¬S k
 | .tu xs,v=>∃vs:Array Value,v=.tuple vs/\xs.length=vs.size/\∀(i:Nat) x u,xs[i]?=some x->vs[i]?=some u->ay S w x u
def AR.owns:AR->Bool
 | .own ..=>true
 | .hown ..=>true
 | _=>false
def AR.ab:AR->AB
 | .hown cs=>.aA cs
 | _=>.none
def eV(S:Nat->Prop)(w:World)(P:Program):List Arg->List Fin->List Value->Prop
 | [],[],[]=>True
 | x::xs,fs,v::vs=>match x.handed with
  | false=>eV S w P xs fs vs
  | true=>match fs with
   | f::fs=>jk S w P x f v/\eV S w P xs fs vs
   | []=>False
 | _,_,_=>False
def cq(w:World):List Arg->List Fin->List Value->Nat->Nat->Prop
 | x::xs,fs,v::vs,i,g=>match x.handed with
  | false=>match i with
   | 0=>False
   | i+1=>cq w xs fs vs i g
  | true=>match fs with
   | f::fs=>match i with
    | 0=>f.kept=true/\hasB w (FK f) v g
    | i+1=>cq w xs fs vs i g
   | []=>False
 | _,_,_,_,_=>False
def T4(w w':World)(args:List Arg)(fin:List Fin)(vs:Array Value):Prop:=
 (∀i g,cq w' args fin vs.toList i g->g<w'.heap.size/\(w.heap.size<=g\/Mv w args vs g))/\∀i j g,cq w' args fin vs.toList i g->cq w' args fin vs.toList j g->i=j
def aT(C:Ctx)(f:FuncId)(args:List Arg)(r:AR)(fin:List Fin):Prop:=
 (∃ fn : Func, C.P.funcs[f]? = some fn ∧ (fn.name == "runtime.NumGoroutine") = false ∧ fn.body.isNone = false) ∧
 ∀(S:Nat->Prop) (w:World) (vs:Array Value),C.E S w->(∀b,S b->b<w.heap.size)->args.length=vs.size ->
  (∀(j:Nat) x v,args[j]?=some x->vs[j]?=some v->yz S w C.P x v)->
  (∀(i j:Nat) x y v u g,args[i]?=some x->args[j]?=some y->vs[i]?=some v->vs[j]?=some u->x.handed=true->y.handed=true->hasB w (tc x) v g->hasB w (tc y) u g->i=j)->
  Calls C.P f vs w fun e w'=>∃v S',e=.returned v/\Fr (Mv w args vs) w w'/\(∀b,S b->S' b)/\(∀b,S' b->b<w'.heap.size)/\(∀b,S' b->S b\/w.heap.size<=b\/Mv w args vs b)/\
   Da S' w' C.P r v/\eV S' w' C.P args fin vs.toList/\T4 w w' args fin vs/\(∀g,r.owns=true->hasB w' r.ab v g->g<w'.heap.size/\(w.heap.size<=g\/Mv w args vs g)/\∀i,¬cq w' args fin vs.toList i g)
def eB(md:Nat->Bool)(h:Nat->AB):Nat->List AV->(List Arg->List (Nat×AB)->List (Nat×AB)->Prop)->Prop
 | _,[],K=>K [] [] []
 | j,a::r,K=>match md j with
  | false=>g_ h a fun x fz=>eB md h (j+1) r fun xs ids jr=>K (.pv x::xs) ids (fz++jr)
  | true=>match a with
   | .ow id=>match h id with
    | .row e es=>eB md h (j+1) r fun xs ids fz=>K (.row e es::xs) ((id,.row e es)::ids) fz
    | .f_ es=>eB md h (j+1) r fun xs ids fz=>K (.pv (.sl es)::xs) ids fz
    | .map mk es=>eB md h (j+1) r fun xs ids fz=>K (.map mk es::xs) ((id,.map mk es)::ids) fz
    | _=>False
   | .p x=>eB md h (j+1) r fun xs ids fz=>K (.pv x::xs) ids fz
   | .bx id 0=>match h id with
    | .box cs=>match cE cs with
     | some ys=>eB md h (j+1) r fun xs ids fz=>K (.box ys::xs) ((id,.box cs)::ids) fz
     | none=>False
    | .aA cs=>eB md h (j+1) r fun xs ids fz=>K (.aA cs::xs) ((id,.aA cs)::ids) fz
    | _=>False
   | _=>False
def nL:PV->Bool
 | .im _=>true
 | .ag cs=>cs.all fun | .im _=>true | _=>false
 | .ifc _ x=>nL x
 | _=>false
def AR.free:AR->Bool
 | .p x=>nL x
 | .tu xs=>xs.all nL
 | .own ..=>false
 | .hown ..=>false
def ee:List (Nat×AB)->List Fin->Option (List (Nat×AB))
 | [],[]=>some []
 | (id,_)::ids,.gone::fs=>(ee ids fs).map ((id,.none)::·)
 | (id,.row e _)::ids,.row es::fs=>(ee ids fs).map ((id,.row e es)::·)
 | (id,.map mk _)::ids,.map es::fs=>(ee ids fs).map ((id,.map mk es)::·)
 | (id,.box _)::ids,.box cs::fs=>(ee ids fs).map ((id,.box (cs.map .p))::·)
 | (id,.aA _)::ids,.aA cs::fs=>(ee ids fs).map ((id,.aA cs)::·)
 | _,_=>none
def Nt:AR->Option AB
 | .own e es=>some (.row e es)
 | .hown cs=>some (.aA cs)
 | _=>none
def Ke(d:Nat):AR->AV
 | .p x=>.p x
 | .own ..=>.ow d
 | .hown _=>.bx d 0
 | .tu xs=>.tu (xs.map .p)
def isNil{α:Type}:List α->Bool
 | []=>true
 | _=>false
def Ao:List (Nat×AB)->List (Nat×AB)->Bool
 | [],_=>true
 | (i,_)::r,fz=>m_ i fz&&m_ i r&&Ao r fz
def jY(C:Ctx)(h:Nat->AB)(d:Nat)(f:FuncId)(args:List AV)(K:KK):Prop:=
 eB (C.md f) h 0 args fun xs ids fz=>∃r fin,aT C f xs r fin/\match ee ids fin with
  | some fe=>match Ao ids fz with
   | true=>match r.free&&isNil ids with
    | true=>K (Ke d r) [] none
    | false=>K (Ke d r) (fz++fe) (Nt r)
   | false=>False
  | none=>False
inductive KI:HX->PV->Prop
 | p (x:PV):KI (.av (.p x)) x
 | nl:KI (.av .nl) (.sl [])
 | row (e:TypeId) (xs:List (List PV)):KI (.row e xs) (.sl xs)
structure Kf(es:List (List HX))(ps:List (List PV)):Prop where
 len:ps.length=es.length
 row:∀(a:Nat) r q,es[a]?=some r->ps[a]?=some q->q.length=r.length/\∀(j:Nat) x y,r[j]?=some x->q[j]?=some y->KI x y
inductive ju(h:Nat->AB):AV->PV->Prop
 | p (x:PV):ju h (.p x) x
 | nl:ju h .nl (.sl [])
 | row (id:Nat) (e:TypeId) (es:List (List PV)) (hr:h id=.row e es):ju h (.ow id) (.sl es)
 | f_ (id:Nat) (es:List (List PV)) (hr:h id=.f_ es):ju h (.ow id) (.sl es)
 | ai (id:Nat) (e:TypeId) (es:List (List HX)) (ps:List (List PV)) (hr:h id=.ai e es) (hp:Kf es ps):ju h (.ow id) (.sl ps)
inductive jZ(h:Nat->AB):List AV->List PV->Prop
 | nil:jZ h [] []
 | cons {a:AV} {x:PV} {as:List AV} {xs:List PV} (h1:ju h a x) (h2:jZ h as xs):jZ h (a::as) (x::xs)
inductive View(h:Nat->AB):AV->PV->Prop
 | one {a:AV} {x:PV} (h1:ju h a x):View h a x
 | box (id off:Nat) (cs:List AV) (xs:List PV) (hb:h id=.box cs) (hx:jZ h cs xs):View h (.bx id off) (.ip (xs.drop off))
 | jt (id off:Nat) (xs:List PV) (hb:h id=.jt xs):View h (.bx id off) (.ip (xs.drop off))
inductive nM(h:Nat->AB):List AV->List PV->Prop
 | nil:nM h [] []
 | cons {a:AV} {x:PV} {as:List AV} {xs:List PV} (h1:View h a x) (h2:nM h as xs):nM h (a::as) (x::xs)
def KJ(C:Ctx)(h:Nat->AB)(d:Nat)(f:FuncId)(args:List AV)(K:KK):Prop:=∃xs r,nM h args xs/\aT C f (xs.map .pv) r []/\r.free=true/\K (Ke d r) [] none
def Nu:AV->Bool
 | .ow _=>true
 | _=>false
def td{α:Type}(f:α->Bool):List α->Bool
 | []=>false
 | x::r=>match f x with
  | true=>true
  | false=>td f r
def cY(h:Nat->AB):AV->Bool
 | .bx id _=>match h id with
  | .box cs=>td Nu cs
  | _=>false
 | .ow id=>match h id with
  | .ai _ _=>true
  | _=>false
 | _=>false
def Ht(cs:List AV)(ys:List PV):Prop:=ys.length=cs.length/\∀(j:Nat) x,cs[j]?=some (.p x)->ys[j]?=some x
def pe(h:Nat->AB):AV->Bool
 | .p (.sl _)=>true
 | .p (.im (.slice _ _ _))=>true
 | .ow id=>match h id with
  | .row _ _=>true
  | _=>false
 | .nl=>true
 | _=>false
def Il:PV->Prop
 | .im _=>True
 | .sl es=>∀r∈es,∃k n,r=[.im (.int k n)]
 | _=>False
def KL:PV->Prop
 | .ag cs=>∀c∈cs,Il c
 | x=>Il x
def rB(C:Ctx)(h:Nat->AB)(f:FuncId)(args:List AV)(K:KK):Prop:=match args with
 | [.bx id 0,.p y,.ow cZ]=>match h id,h cZ with
  | .box cs,.row e es=>∃x bW,(∀ys,Ht cs ys->aT C f [.pv (.ip ys),.pv y,.row e es] (.p x) [.row bW])/\(∀c∈cs,pe h c=true)/\KL x/\(∀r∈bW,∀z∈r,nL z=true)/\K (.p x) [(cZ,.row e bW)] none
  | _,_=>False
 | _=>False
def Tt(C:Ctx)(h:Nat->AB)(d:Nat)(f:FuncId)(args:List AV)(K:KK):Prop:=match td (cY h) args with
 | false=>jY C h d f args K
 | true=>match C.md f 90 with
  | false=>KJ C h d f args K
  | true=>rB C h f args K
def Kg:List (Nat×Value)->Array Value->Array Value
 | [],c=>c
 | (j,v)::r,c=>Kg r (c.setIfInBounds j v)
def Db:List (Nat×Value)->List PV->List PV
 | [],c=>c
 | (j,v)::r,c=>Db r (c.set j (.im v))
def Im(C:Ctx)(f:FuncId)(n off:Nat)(y:PV)(rd wr:List (Nat×Value))(r:Value):Prop:=
 (∃ fn : Func, C.P.funcs[f]? = some fn ∧ (fn.name == "runtime.NumGoroutine") = false ∧ fn.body.isNone = false) ∧
 ∀(S:Nat->Prop) (w:World) (v1:Value) (b:Nat) (c:Array Value) (ty:TypeId),C.E S w->(∀k,S k->k<w.heap.size)->ay S w y v1->w.heap[b]?=some (.cells c ty (0,0))->c.size=n->¬S b->(∀p∈rd,c[p.1]?=some p.2)->
  Calls C.P f #[.pointer (some ⟨b,0,none⟩),v1,.pointer (some ⟨b,off,none⟩)] w fun e' w'=>e'=.returned r/\Fr (fun k=>k=b) w w'/\w'.heap[b]?=some (.cells (Kg wr c) ty (0,0))
def FL:List (Nat×Value)->Bool
 | []=>true
 | (_,v)::r=>v.oneCell'&&FL r
def Io(ys:List PV):List (Nat×Value)->Prop
 | []=>True
 | (j,v)::r=>ys[j]?=some (.im v)/\Io ys r
def rC(C:Ctx)(h:Nat->AB)(f:FuncId)(args:List AV)(K:KK):Prop:=match args with
 | [.bx id 0,.p y,.bx iu off]=>match Nat.beq iu id,h id with
  | true,.box cs=>match cE cs with
   | some ys=>∃rd wr r,Im C f ys.length off y rd wr r/\Io ys rd/\FL wr=true/\K (.p (.im r)) [(id,.box ((Db wr ys).map .p))] none
   | none=>False
  | _,_=>False
 | _=>False
def jm(C:Ctx)(f:FuncId)(t:TypeId)(xs:List PV)(e:TypeId)(l:List (List PV))(r:PV)(l':List (List PV)):Prop:=
 (∃ fn : Func, C.P.funcs[f]? = some fn ∧ (fn.name == "runtime.NumGoroutine") = false ∧ fn.body.isNone = false) ∧
 ∀(S:Nat->Prop) (w:World) (vs:List Value) (g off:Nat) (c:Array Value) (ty:TypeId) (v:Value),C.E S w->(∀k,S k->k<w.heap.size)->xs.length=vs.length->(∀(j:Nat) x u,xs[j]?=some x->vs[j]?=some u->ay S w x u)->
  w.heap[g]?=some (.cells c ty (0,0))->c[off]?=some v->an C.P w (ay S w) e l v->¬S g->(∀k,bH v=some k->¬S k/\k≠g/\k<w.heap.size)->
  Calls C.P f (Value.iface t (.pointer (some ⟨g,off,none⟩))::vs).toArray w fun e' w'=>∃u v' S',e'=.returned u/\Fr (fun k=>k=g\/bH v=some k) w w'/\ay S' w' r u /\
   w'.heap[g]?=some (.cells (c.setIfInBounds off v') ty (0,0))/\an C.P w' (ay S' w') e l' v'/\∀k,bH v'=some k->k<w'.heap.size/\k≠g/\(bH v=some k\/w.heap.size<=k)
def Dc(l:List (List PV)):Prop:=∀row∈l,∀z∈row,nL z=true
def T5(C:Ctx)(h:Nat->AB)(d:Nat)(f:FuncId)(args:List AV)(K:KK):Prop:=match args with
 | .ifp t a::as=>match cE as with
  | some ys=>match a with
   | .bx id off=>match h id with
    | .box cs=>match cs[off]? with
     | some (.ow cZ)=>match h cZ with
      | .row e l=>match Nat.beq id cZ with
       | true=>False
       | false=>∃r l',jm C f t ys e l r l'/\nL r=true/\Dc l'/\K (.p r) [(cZ,.none),(id,.box (cs.set off (.ow d)))] (some (.row e l'))
      | _=>False
     | _=>False
    | _=>False
   | .rp id i off=>match h id with
    | .ai e' es=>∃q,es[i]?=some q/\match q[off]? with
     | some (.row e l)=>∃r l',jm C f t ys e l r l'/\nL r=true/\Dc l'/\K (.p r) [(id,.ai e' (es.set i (q.set off (.row e l'))))] none
     | _=>False
    | _=>False
   | _=>False
  | none=>False
 | _=>False
def kV(C:Ctx)(h:Nat->AB)(d:Nat)(f:FuncId)(args:List AV)(K:KK):Prop:=match C.md f 91 with
 | false=>Tt C h d f args K
 | true=>rC C h f args K
def p8(C:Ctx)(h:Nat->AB)(d:Nat)(f:FuncId)(args:List AV)(K:KK):Prop:=match C.md f 92 with
 | false=>kV C h d f args K
 | true=>T5 C h d f args K
def Ip(C:Ctx)(f:FuncId)(xs:List PV)(ty e:TypeId)(es:List (List PV))(r:AR)(ch:Bool)(bW:Option (List (List PV))):Prop:=
 (∃ fn : Func, C.P.funcs[f]? = some fn ∧ (fn.name == "runtime.NumGoroutine") = false ∧ fn.body.isNone = false) ∧
 ∀(S:Nat->Prop) (w:World) (vs:List Value) (b:Nat) (u0 u1:Value),C.E S w->(∀k,S k->k<w.heap.size)->xs.length=vs.length ->
  (∀(j:Nat) x v,xs[j]?=some x->vs[j]?=some v->ay S w x v)->w.heap[b]?=some (.cells #[u0,u1] ty (0,0))->(u0=.pointer none\/u0=.pointer (some ⟨b,0,none⟩))->
  an C.P w (ay S w) e es u1->¬S b->(∀g,bH u1=some g->¬S g/\g≠b/\g<w.heap.size)->
  Calls C.P f (vs++[Value.pointer (some ⟨b,0,none⟩)]).toArray w fun e' w'=>∃v,e'=.returned v/\Fr (fun k=>k=b\/bH u1=some k) w w'/\Da S w' C.P r v/\match bW with
   | none=>True
   | some bW=>∃u1',w'.heap[b]?=some (.cells #[(match ch with | true=>Value.pointer (some ⟨b,0,none⟩) | false=>u0),u1'] ty (0,0))/\an C.P w' (ay S w') e bW u1'/\∀g,bH u1'=some g->g<w'.heap.size/\(bH u1=some g\/w.heap.size<=g)
def lY:List AV->Option (List AV×AV)
 | []=>none
 | [x]=>some ([],x)
 | x::y::r=>match lY (y::r) with
  | some (l,z)=>some (x::l,z)
  | none=>none
def Hu(id:Nat):AV->Bool
 | .p (.im (.pointer none))=>true
 | .bx i 0=>Nat.beq i id
 | _=>false
def p9(ch:Bool)(id:Nat)(c:AV):AV:=match ch with
 | true=>.bx id 0
 | false=>c
def p_(C:Ctx)(h:Nat->AB)(d:Nat)(f:FuncId)(args:List AV)(K:KK):Prop:=
 match lY args with
 | some (as,.bx id 0)=>match h id with
  | .eN ty [c,.ow cZ]=>match Hu id c with
   | true=>match h cZ with
    | .row e es=>pZ h as fun xs fz=>∃r ch bW,Ip C f xs ty e es r ch bW/\match r.free&&(m_ id fz&&(m_ cZ fz&&!Nat.beq id cZ)) with
     | true=>match bW with
      | some bW=>K (Ke d r) (fz++[(cZ,.none),(id,.eN ty [p9 ch id c,.ow d])]) (some (.row e bW))
      | none=>K (Ke d r) (fz++[(cZ,.none),(id,.none)]) none
     | false=>False
    | _=>False
   | false=>False
  | _=>False
 | _=>False
def gd(h:Nat->AB)(fs:List (Nat×Nat×Bool))(rho:Operand->AV):List (Nat×Operand)->List PV->(List PV->List (Nat×AB)->Prop)->Prop
 | [],cs,K=>K cs []
 | (i,x)::r,cs,K=>match fs[i]? with
  | some (off,size,_)=>g_ h (rho x) fun y fz=>match mZ y with
   | some ys=>match o7 ys.length size&&yy (off+size) cs.length with
    | true=>gd h fs rho r (setCells cs off ys) fun dB jr=>K dB (fz++jr)
    | false=>False
   | none=>False
  | none=>False
def Dd:AV->Option (List PV)
 | .p (.ag ys)=>some ys
 | _=>none
theorem De{a:AV}{ys:List PV}(h:Dd a=some ys):a=.p (.ag ys):=by
 unfold Dd at h;split at h
 ·injection h with h;rw[h]
 cases h
def gf(h:Nat->AB)(fs:List (Nat×Nat×Bool))(rho:Operand->AV):List (Nat×Operand)->List AV->(List AV->Prop)->Prop
 | [],cs,K=>K cs
 | (i,x)::r,cs,K=>match fs[i]? with
  | some (off,size,_)=>match Dd (rho x) with
   | some ys=>match o7 ys.length size&&yy (off+size) cs.length with
    | true=>gf h fs rho r (setCells cs off (ys.map .p)) K
    | false=>False
   | none=>match o7 size 1&&yy (off+1) cs.length&&kL h (rho x) with
    | true=>gf h fs rho r (cs.set off (rho x)) K
    | false=>False
  | none=>False
def qa(b:Bool)(h:Nat->AB)(a:AV)(K:PV->List (Nat×AB)->Prop):Prop:=match b,a with
 | true,.nl=>K (.im (.slice none 0 0)) []
 | _,a=>g_ h a K
def eC(b:Bool)(h:Nat->AB)(size:Nat)(rho:Operand->AV):List (Nat×Operand)->List (List PV)->(List (List PV)->List (Nat×AB)->Prop)->Prop
 | [],es,K=>K es []
 | (i,x)::r,es,K=>qa b h (rho x) fun y fz=>match mZ y with
  | some ys=>match o7 ys.length size&&Nat.blt i es.length with
   | true=>eC b h size rho r (es.set i ys) fun bW jr=>K bW (fz++jr)
   | false=>False
  | none=>False
def Df:List HX->Bool
 | []=>true
 | .av _::r=>Df r
 | .row _ _::_=>false
def nd(h:Nat->AB)(e:TypeId):AV->Option (List (List HX))
 | .ow id=>match h id with
  | .ai e' es=>match o7 e' e&&es.all Df with
   | true=>some es
   | false=>none
  | _=>none
 | _=>none
def dV(h:Nat->AB)(a:AV)(K:List (List PV)->Prop):Prop:=match a with
 | .p (.sl es)=>K es
 | .nl=>K []
 | .ow id=>match h id with
  | .row _ es=>K es
  | .f_ es=>K es
  | _=>False
 | _=>False
inductive CK where
 | len
 | clear
 | min
 | max
 | append
 | val (g:Operand)
 | other
def dK:Builtin->CK
 | .len=>.len
 | .clear=>.clear
 | .min=>.min
 | .max=>.max
 | .append=>.append
 | _=>.other
def Ta:Callee->CK
 | .builtin b=>dK b
 | .value g=>.val g
 | .invoke _ _=>.other
def Ap:Fn->Option FuncId
 | .func f=>some f
 | _=>none
def Aq:Value->Option (FuncId×List AV)
 | .func fn first cap=>match isNil first.toList&&isNil cap.toList with
  | true=>match Ap fn with
   | some f=>some (f,[])
   | none=>none
  | false=>none
 | _=>none
def Ar:PV->Option (FuncId×List AV)
 | .im v=>Aq v
 | .fn f cap=>some (f,cap.map .p)
 | _=>none
def rD:AV->Option (FuncId×List AV)
 | .p x=>Ar x
 | .fn f cap=>some (f,cap)
 | _=>none
def j4(ti:TI):PV:=match ti.ud.agg with
 | true=>.ag (ti.zero.map qD)
 | false=>match ti.zero with
  | z::_=>qD z
  | []=>.im undef
def ef(C:Ctx)(rho:Operand->AV)(h:Nat->AB)(t:TypeId)(x:Operand)(lo hi:Option Operand)(K:KK):Prop:=
  let l:=match lo with | some y=>rho y | none=>.p (.im (.int .i64 0))
  match C.T t with
  | some { ud:=.str,.. }=>match rho x with
   | .p (.im (.string s))=>
    match l,(match hi with | some y=>rho y | none=>.p (.im (.int .i64 s.size))) with
    | .p (.im (.int _ a)),.p (.im (.int _ b))=>(0<=a/\a<=b/\b<=s.size)/\K (.p (.im (.string (s.extract a.toNat b.toNat)))) [] none
    | _,_=>False
   | _=>False
  | some { ud:=.sl e,.. }=>match C.T e with
   | none=>False
   | some te=>g_ h (rho x) fun y fz=>match y with
    | .sl es=>match l,(match hi with | some y=>rho y | none=>.p (.im (.int .i64 es.length))) with
     | .p (.im (.int _ a)),.p (.im (.int _ b))=>(0<=a/\a<=b/\b<=es.length/\∀r∈es,r.length=te.size)/\K (.p (.sl ((es.take b.toNat).drop a.toNat))) fz none
     | _,_=>False
    | _=>False
  | _=>False
def nN(C:Ctx)(rho:Operand->AV)(t:TypeId)(lo hi:Option Operand)(id:Nat)(e':TypeId)(es:List (List PV))(K:KK):Prop:=
 match C.T t with
 | some { ud:=.sl e,.. }=>match o7 e' e with
  | true=>match (match lo with | some y=>rho y | none=>.p (.im (.int .i64 0))),(match hi with | some y=>rho y | none=>.p (.im (.int .i64 es.length))) with
   | .p (.im (.int _ a)),.p (.im (.int _ b))=>(0<=a/\a<=b/\b<=es.length)/\K (.vw id a.toNat b.toNat) [] none
   | _,_=>False
  | false=>False
 | _=>False
def hlen(h:Nat->AB):AV->Option Nat
 | .ow id=>match h id with
  | .ai _ es=>some es.length
  | _=>none
 | .vw id lo hi=>match h id with
  | .row _ _=>some (hi-lo)
  | _=>none
 | _=>none
def o8(r:List PV):List HX:=r.map fun x=>.av (Kd x)
def aZ(C:Ctx)(o:Oper)(rho:Operand->AV)(h:Nat->AB)(K:KK):Prop:=
 let d:=o.dst.getD 0
 match o.op with
 | .move x=>K (rho x) [] none
 | .assign x=>K (rho x) [] none
 | .pick c a b=>match rho c with
  | .p (.im (.bool t))=>match t with
   | true=>K (rho a) [] none
   | false=>K (rho b) [] none
  | _=>False
 | .binOp op t x y _=>match rho x,rho y with
  | .p a,.p b=>na C.T op t a b fun v=>K (.p (.im v)) [] none
  | .p a,.nl=>By C.T op t a fun v=>K (.p (.im v)) [] none
  | _,_=>False
 | .unOp op _ x=>match op,rho x with
  | .not,.p (.im (.bool b))=>K (.p (.im (.bool !b))) [] none
  | .neg,.p (.im (.int k n))=>pd k (0-n) fun v=>K (.p (.im v)) [] none
  | _,_=>False
 | .convert src dst x=>match rho x,C.T src,C.T dst with
  | .p (.im (.int _ n)),some _,some { ud:=.int k,.. }=>pd k n fun v=>K (.p (.im v)) [] none
  | .p (.im (.string s)),some { ud:=.str,.. },some { ud:=.str,.. }=>K (.p (.im (.string s))) [] none
  | .p (.im (.int _ n)),some { ud:=.int _,.. },some { ud:=.str,.. }=>K (.p (.im (.string (Utf8.encode n)))) [] none
  | _,_,_=>False
 | .nilCheck x=>match rho x with
  | .p (.ip cs)=>K (.p (.ip cs)) [] none
  | .bx id off=>match h id with
   | .box _=>K (.bx id off) [] none
   | .jt _=>K (.bx id off) [] none
   | _=>False
  | .rp id i off=>match h id with
   | .row _ _=>K (.rp id i off) [] none
   | .ai _ _=>K (.rp id i off) [] none
   | _=>False
  | .ow id=>match h id with
   | .cell _ _ _=>K (.ow id) [] none
   | _=>False
  | _=>False
 | .makeInterface t x=>match rho x with
  | .p y=>match C.T t with
   | some { ud:=.st _,.. }=>K (.p (.ifc t y)) [] none
   | _=>False
  | a=>match C.pt t with
   | true=>K (.ifp t a) [] none
   | false=>False
 | .typeAssert x _ t false=>match rho x with
  | .p (.ifc t' y)=>match o7 t' t,C.T t with
   | true,some { ud:=.st _,.. }=>K (.p y) [] none
   | _,_=>False
  | _=>False
 | .extract x i=>match rho x with
  | .tu xs=>match xs[i]? with
   | some a=>K a [] none
   | none=>False
  | _=>False
 | .box _ x=>match rho x with
  | .p (.ag cs)=>K (.bx d 0) [] (some (.box (cs.map .p)))
  | .st xs=>K (.bx d 0) [] (some (.box xs))
  | a=>match kL h a with
   | true=>K (.bx d 0) [] (some (.box [a]))
   | false=>False
 | .alloc e=>match C.T e with
  | some ti=>match C.bt e with
   | false=>K (.bx d 0) [] (some (.box (ti.zero.map Bx)))
   | true=>K (.bx d 0) [] (some (.eN e (ti.zero.map Bx)))
  | none=>False
 | .load t a=>match C.T t with
  | none=>False
  | some ti=>match rho a with
   | .p (.ip cs)=>match ti.ud.agg with
    | true=>match yy ti.size cs.length with
     | true=>K (.p (.ag (cs.take ti.size))) [] none
     | false=>False
    | false=>match cs with
     | c::_=>K (.p c) [] none
     | []=>False
   | .bx id off=>match h id with
    | .box cs=>match ti.ud.agg with
     | true=>match yy (off+ti.size) cs.length,cE ((cs.drop off).take ti.size) with
      | true,some xs=>K (.p (.ag xs)) [] none
      | _,_=>False
     | false=>match cs.drop off with
      | c::_=>K c [] none
      | []=>False
    | .jt cs=>match ti.ud.agg with
     | true=>match yy (off+ti.size) cs.length with
      | true=>K (.p (.ag ((cs.drop off).take ti.size))) [] none
      | _=>False
     | false=>match cs.drop off with
      | c::_=>K (.p c) [] none
      | []=>False
    | _=>False
   | .rp id i off=>match h id with
    | .row _ es=>∃r,es[i]?=some r/\match ti.ud.agg with
     | true=>match yy (off+ti.size) r.length with
      | true=>K (.p (.ag ((r.drop off).take ti.size))) [] none
      | _=>False
     | false=>match r.drop off with
      | c::_=>K (.p c) [] none
      | []=>False
    | .ai _ es=>∃r,es[i]?=some r/\match ti.ud.agg with
     | true=>False
     | false=>match r.drop off with
      | .av c::_=>K c [] none
      | _=>False
    | _=>False
   | .ow id=>match h id,ti.ud.agg with
    | .cell _ _ c,false=>K c [] none
    | _,_=>False
   | _=>False
 | .store t a x=>match C.T t with
  | none=>False
  | some ti=>match rho a with
   | .bx id off=>match h id with
    | .box cs=>match ti.ud.agg with
     | true=>g_ h (rho x) fun y fz=>match y with
      | .ag ys=>match o7 ys.length ti.size&&yy (off+ti.size) cs.length&&m_ id fz with
       | true=>K .junk (fz++[(id,.box (setCells cs off (ys.map Kd)))]) none
       | false=>False
      | _=>False
     | false=>match yy (off+1) cs.length&&o7 ti.size 1&&kL h (rho x) with
      | true=>K .junk [(id,.box (cs.set off (rho x)))] none
      | false=>False
    | _=>False
   | .rp id i off=>match h id with
    | .row e es=>∃r,es[i]?=some r/\g_ h (rho x) fun y fz=>match mZ y with
     | some ys=>match o7 ys.length ti.size&&yy (off+ti.size) r.length&&m_ id fz with
      | true=>K .junk (fz++[(id,.row e (es.set i (setCells r off ys)))]) none
      | false=>False
     | none=>False
    | .ai e es=>∃r,es[i]?=some r/\match ti.ud.agg with
     | true=>False
     | false=>match yy (off+1) r.length&&o7 ti.size 1&&kL h (rho x) with
      | true=>K .junk [(id,.ai e (es.set i (r.set off (.av (rho x)))))] none
      | false=>False
    | _=>False
   | .ow id=>match h id,ti.ud.agg with
    | .cell c0 ty _,false=>match o7 ti.size 1&&kL h (rho x) with
     | true=>K .junk [(id,.cell c0 ty (rho x))] none
     | false=>False
    | _,_=>False
   | _=>False
 | .fieldAddr t x f=>match C.T t with
  | some { ud:=.st fs,.. }=>match fs[f]? with
   | some (off,_,_)=>match rho x with
    | .p (.ip cs)=>K (.p (.ip (cs.drop off))) [] none
    | .bx id o=>match h id with
     | .none=>False
     | _=>K (.bx id (o+off)) [] none
    | .rp id i o=>match h id with
     | .row _ _=>K (.rp id i (o+off)) [] none
     | .ai _ _=>K (.rp id i (o+off)) [] none
     | _=>False
    | _=>False
   | none=>False
  | _=>False
 | .field t x f=>match C.T t,rho x with
  | some { ud:=.st fs,.. },.p (.ag cs)=>match fs[f]? with
   | some (off,size,agg)=>match agg with
    | true=>match yy (off+size) cs.length with
     | true=>K (.p (.ag ((cs.drop off).take size))) [] none
     | false=>False
    | false=>match cs.drop off with
     | c::_=>K (.p c) [] none
     | []=>False
   | none=>False
  | _,_=>False
 | .indexAddr t x ix=>match C.T t,rho ix with
  | some { ud:=.sl e,.. },.p (.im (.int _ i))=>match C.T e with
   | none=>False
   | some te=>match rho x with
    | .p (.sl es)=>∃r,(0<=i/\es[i.toNat]?=some r)/\match o7 r.length te.size with
     | true=>K (.p (.ip r)) [] none
     | false=>False
    | .ow id=>match h id with
     | .row e' es=>match o7 e' e with
      | true=>(0<=i/\i.toNat<es.length)/\K (.rp id i.toNat 0) [] none
      | false=>False
     | .ai e' es=>match o7 e' e with
      | true=>(0<=i/\i.toNat<es.length)/\K (.rp id i.toNat 0) [] none
      | false=>False
     | .f_ es=>∃r,(0<=i/\es[i.toNat]?=some r)/\match o7 r.length te.size with
      | true=>K (.p (.ip r)) [] none
      | false=>False
     | _=>False
    | .vw id lo hi=>match h id with
     | .row e' es=>match o7 e' e with
      | true=>(0<=i/\i.toNat<hi-lo)/\K (.rp id (lo+i.toNat) 0) [] none
      | false=>False
     | _=>False
    | _=>False
  | _,_=>False
 | .index t x ix=>match C.T t,rho x,rho ix with
  | some { ud:=.str,.. },.p (.im (.string s)),.p (.im (.int _ i))=>∃b,(0<=i/\s[i.toNat]?=some b)/\K (.p (.im (.int .u8 b.toNat))) [] none
  | _,_,_=>False
 | .slice t x lo hi none=>match rho x with
  | .ow id=>match h id with
   | .row e' es=>nN C rho t lo hi id e' es K\/ef C rho h t x lo hi K
   | _=>ef C rho h t x lo hi K
  | _=>ef C rho h t x lo hi K
 | .makeMap t none=>match C.T t with
  | some { ud:=.mp kt _,.. }=>match C.T kt with
   | some tk=>match tb tk with
    | some mk=>K (.ow d) [] (some (.map mk []))
    | none=>False
   | none=>False
  | _=>False
 | .lookup t x i ck=>match C.T t with
  | some { ud:=.mp kt et,.. }=>match C.T kt,C.T et with
   | some tk,some te=>match tb tk with
    | some mk=>match rho x with
     | .ow id=>match h id with
      | .map mk' es=>match MR mk mk' with
       | true=>match keyOf mk (rho i) with
        | some k=>∃r,pc es k=r/\match ck with
         | true=>K (.tu [.p (r.getD (j4 te)),.p (.im (.bool r.isSome))]) [] none
         | false=>K (.p (r.getD (j4 te))) [] none
        | none=>False
       | false=>False
      | _=>False
     | .p (.mp mk' es)=>match MR mk mk' with
      | true=>match keyOf mk (rho i) with
       | some k=>∃r,pc (es.map Bz) k=r/\match ck with
        | true=>K (.tu [.p (r.getD (j4 te)),.p (.im (.bool r.isSome))]) [] none
        | false=>K (.p (r.getD (j4 te))) [] none
       | none=>False
      | false=>False
     | _=>False
    | none=>False
   | _,_=>False
  | _=>False
 | .range t x=>match C.T t with
  | some { ud:=.mp _ _,.. }=>match rho x with
   | .p (.mp mk es)=>K (.bx d 0) [] (some (.iter mk es es.length none))
   | _=>False
  | _=>False
 | .entry x=>match rho x with
  | .bx id 0=>match h id with
   | .iter _ _ _ (some p)=>K (.tu [.p (.im p.1),.p (.im p.2)]) [] none
   | _=>False
  | _=>False
 | .mapUpdate t x i y=>match C.T t with
  | some { ud:=.mp kt _,.. }=>match C.T kt with
   | some tk=>match tb tk with
    | some mk=>match rho x with
     | .ow id=>match h id with
      | .map mk' es=>match MR mk mk' with
       | true=>match keyOf mk (rho i) with
        | some k=>g_ h (rho y) fun v fz=>match m_ id fz with
         | true=>K .junk (fz++[(id,.map mk' (qB es k v))]) none
         | false=>False
        | none=>False
       | false=>False
      | _=>False
     | _=>False
    | none=>False
   | none=>False
  | _=>False
 | .build t ps=>match C.T t with
  | some { ud:=.st fs,zero:=z,.. }=>match C.bo t with
   | false=>gd h fs rho ps.toList (z.map (Kc (C.bn t))) fun cs fz=>K (.p (.ag cs)) fz none
   | true=>gf h fs rho ps.toList (z.map Bx) fun cs=>K (.st cs) [] none
  | _=>False
 | .buildSlice t len ps=>match C.T t with
  | some { ud:=.sl e,.. }=>match C.T e with
   | some ti=>match Nat.blt 0 ti.size&&yy (len*ti.size) 16777216 with
    | true=>match C.bh t with
     | true=>match len,ps.toList with
      | 1,[(0,x)]=>match o7 ti.size 1&&kL h (rho x) with
       | true=>K (.ow d) [] (some (.ai e [[.av (rho x)]]))
       | false=>False
      | _,_=>False
     | false=>match C.bf d with
      | false=>eC (C.bn t) h ti.size rho ps.toList (List.replicate len (ti.zero.map qD)) fun es fz=>K (.ow d) fz (some (.row e es))
      | true=>eC (C.bn t) h ti.size rho ps.toList (List.replicate len (ti.zero.map qD)) fun es fz=>K (.ow d) fz (some (.f_ es))
    | false=>False
   | none=>False
  | _=>False
 | .makeSlice t n c=>match C.T t,rho n,rho c with
  | some { ud:=.sl e,.. },.p (.im (.int _ n)),.p (.im (.int _ c))=>match C.T e with
   | some ti=>match Nat.blt 0 ti.size with
    | true=>(0<=n/\n<=c/\c*ti.bytes<=140737488355328/\c<=9223372036854775807)/\K (.ow d) [] (some (.row e (List.replicate n.toNat (ti.zero.map (Kc (C.bn t))))))
    | false=>False
   | none=>False
  | _,_,_=>False
 | .makeFunc (.func f) first cap=>match isNil first.toList with
  | true=>K (.fn f (cap.toList.map rho)) [] none
  | false=>False
 | .call c=>match Ta c.callee with
  | .len=>match c.args.toList,c.argTypes.toList with
   | [x],[t]=>match C.T t with
    | some { ud:=.str,.. }=>match rho x with
     | .p (.im (.string s))=>K (.p (.im (.int .i64 s.size))) [] none
     | _=>False
    | some { ud:=.sl _,.. }=>match hlen h (rho x) with
     | some n=>K (.p (.im (.int .i64 n))) [] none
     | none=>dV h (rho x) fun es=>K (.p (.im (.int .i64 es.length))) [] none
    | some { ud:=.mp _ _,.. }=>match rho x with
     | .ow id=>match h id with
      | .map _ es=>K (.p (.im (.int .i64 es.length))) [] none
      | _=>False
     | .p (.mp _ es)=>K (.p (.im (.int .i64 es.length))) [] none
     | _=>False
    | _=>False
   | _,_=>False
  | .clear=>match c.args.toList,c.argTypes.toList with
   | [x],[t]=>match C.T t with
    | some { ud:=.sl e,.. }=>match C.T e with
     | some ti=>match rho x with
      | .vw id lo hi=>match h id with
       | .row e' es=>match o7 e' e&&Nat.blt 0 ti.size with
        | true=>(lo<=hi/\hi<=es.length)/\K (.tu []) [(id,.row e' (es.take lo++List.replicate (hi-lo) (ti.zero.map qD)++es.drop hi))] none
        | false=>False
       | _=>False
      | _=>False
     | none=>False
    | _=>False
   | _,_=>False
  | .min=>match c.args.toList with
   | [x,y]=>match rho x,rho y with
    | .p (.im (.int k a)),.p (.im (.int _ b))=>K (.p (.im (.int k (min a b)))) [] none
    | _,_=>False
   | _=>False
  | .max=>match c.args.toList with
   | [x,y]=>match rho x,rho y with
    | .p (.im (.int k a)),.p (.im (.int _ b))=>K (.p (.im (.int k (max a b)))) [] none
    | _,_=>False
   | [x,y,z]=>match rho x,rho y,rho z with
    | .p (.im (.int k a)),.p (.im (.int _ b)),.p (.im (.int _ c))=>K (.p (.im (.int k (max (max a b) c)))) [] none
    | _,_,_=>False
   | [x,y,z,u,v]=>match rho x,rho y,rho z,rho u,rho v with
    | .p (.im (.int k a)),.p (.im (.int _ b)),.p (.im (.int _ c)),.p (.im (.int _ d)),.p (.im (.int _ e))=>K (.p (.im (.int k (max (max (max (max a b) c) d) e)))) [] none
    | _,_,_,_,_=>False
   | _=>False
  | .append=>match c.args.toList,c.argTypes.toList with
   | [x,y],[t,t']=>match o7 t t',C.T t with
    | true,some { ud:=.sl e,.. }=>match C.T e with
     | some ti=>match Nat.blt 0 ti.size with
      | true=>match nd h e (rho y) with
       | some ys=>match rho x with
        | .ow id=>match h id with
         | .ai e' xs=>match o7 e' e with
          | true=>((∀r∈ys,r.length=ti.size)/\(xs.length+ys.length)*ti.bytes<=140737488355328/\xs.length+ys.length<=140737488355328)/\K (.ow d) [(id,.none)] (some (.ai e (xs++ys)))
          | false=>False
         | _=>False
        | _=>False
       | none=>dV h (rho y) fun ys=>match rho x with
        | .nl=>((∀r∈ys,r.length=ti.size)/\ys.length*ti.bytes<=140737488355328/\ys.length<=140737488355328)/\K (.ow d) [] (some (.row e ys))
        | .ow id=>match h id with
         | .row e' xs=>match o7 e' e with
          | true=>((∀r∈ys,r.length=ti.size)/\(xs.length+ys.length)*ti.bytes<=140737488355328/\xs.length+ys.length<=140737488355328)/\K (.ow d) [(id,.none)] (some (.row e (xs++ys)))
          | false=>False
         | .ai e' xs=>match o7 e' e with
          | true=>((∀r∈ys,r.length=ti.size)/\(xs.length+ys.length)*ti.bytes<=140737488355328/\xs.length+ys.length<=140737488355328)/\K (.ow d) [(id,.none)] (some (.ai e (xs++ys.map o8)))
          | false=>False
         | _=>False
        | _=>False
      | false=>False
     | none=>False
    | _,_=>False
   | _,_=>False
  | .val g=>match rD (rho g) with
   | some (f,cap)=>match C.bl f with
    | false=>p8 C h d f (c.args.toList.map rho++cap) K
    | true=>p_ C h d f (c.args.toList.map rho++cap) K
   | none=>False
  | _=>False
 | _=>False
end Go.AM
namespace Go.AM
open Go.RowKit
def jw(P:Program)(t:TypeId)(ti:TI):Prop:=
 ∃info z,P.info? t=some info/\info.size=ti.size/\info.bytes=ti.bytes/\info.zero=some z/\z.cells=ti.zero.toArray/\ti.zero.length=ti.size/\(∀v∈ti.zero,v.oneCell'=true)/\
  match ti.ud with
  | .sc=>(∃d,P.underlying t=some d/\(match d with | .struct _ | .array _ _=>False | _=>True))/\(ti.eq=true->P.underlying t=some .bool)
  | .int k=>P.underlying t=some (.int k)
  | .st fs=>∃gs,P.underlying t=some (.struct gs)/\fs.length=gs.size/\(∀(i:Nat) f g,fs[i]?=some f->gs[i]?=some g->f.1=g.offset/\f.2.1≠0/\(∃i2,P.info? g.type=some i2/\i2.size=f.2.1)/\
    (∃d,P.underlying g.type=some d/\f.2.2=(match d with | .struct _ | .array _ _=>true | _=>false)))
  | .sl e=>P.underlying t=some (.slice e)
  | .str=>P.underlying t=some .string
  | .mp k e=>P.underlying t=some (.map k e)
def Dg:Value->Bool
 | .agg _=>true
 | _=>false
def yA(P:Program)(t:TypeId)(ti:TI):Prop:=∃info z,P.info? t=some info/\info.zero=some z/\Dg z=ti.ud.agg
def mN(k:Value):List MapEntry->Nat->Option (Nat×Value)
 | [],_=>none
 | m::r,i=>match yx k m.key with
  | true=>some (i,m.val)
  | false=>mN k r (i+1)
structure As(P:Program)(kt:TypeId)(mk:MK):Prop where
 check:∀(e:Bool) (k:Value) (w:World),mk.ok k->(Instr.checkKey e 10000 kt k).run P w=.ok () w
 find:∀(k:Value) (w:World) (ms:List MapEntry),mk.ok k->(∀m∈ms,mk.ok m.key)->(Instr.findKey kt k ms).run P w=.ok (mN k ms 0) w
def u9(P:Program)(t:TypeId)(name:String)(f:FuncId)(d:Bool):Prop:=match d with
 | false=>∀(a:Addr) (w:World),(method (P.types.size+Made.depth) t (.pointer (some a)) name).run P w=.ok (f,.pointer (some a)) w
 | true=>∀(a:Addr) (v:Value) (w:World),w.cell? a=some v->(method (P.types.size+Made.depth) t (.pointer (some a)) name).run P w=.ok (f,v) w
structure aL(C:Ctx):Prop where
 zs:∀t ti,C.T t=some ti->yA C.P t ti
 eL:∀t ti,C.T t=some ti->jw C.P t ti
 env:∀S S' w w',C.E S w->(∀b,S b->S' b)->(∀b,S b->w'.heap[b]?=w.heap[b]?)->w.heap.size<=w'.heap.size->C.E S' w'
 any:C.P.follows .mixedOrders=true
 eqs:∀t ti op a b r,C.T t=some ti->ti.eq=true->(∃fs,ti.ud=.st fs)->aX ti.zero a b=some r->∀(xs ys:Array Value) w,(∀(i:Nat) x v,a[i]?=some x->xs[i]?=some v->x=.im v)->(∀(i:Nat) x v,b[i]?=some x->ys[i]?=some v->x=.im v)->
  a.length=xs.size->b.length=ys.size->ti.size=a.length->(op=.eql\/op=.neq)->∀(x y:Operand),(do eqGuard op t x y (.agg xs) (.agg ys);binOp op t (.agg xs) (.agg ys):Sem Value).run C.P w=.ok (.bool (if op=.eql then r else !r)) w
 keys:∀kt tk sh,C.T kt=some tk->tb tk=some (.st sh)->As C.P kt (.st sh)
 pts:∀t,C.pt t=true->∃e,C.P.underlying t=some (.pointer e)
structure jR where
 C:Ctx
 w0:World
 mv:Nat->Prop
 s0:Nat->Prop
 n:Nat
 pin:Nat->Value
structure aU(A:jR)(V L:Nat->Prop)(S:Nat->Prop)(rho:Nat->Value)(s:AS)(a:Act)(w:World):Prop where
 tm:∀j,V j->aE S w A.C.P L rho s.h (s.t j) (a.tmps.getD j undef)
 sz:a.tmps.size=A.n
 df:a.defers=[]
 nb:A.n<=100000
 pn:∀id,100000<=id->rho id=A.pin id
 ev:A.C.E S w
 s0:∀b,A.s0 b->S b
 st:∀b,S b->b<w.heap.size
 sb:∀b,S b->A.s0 b\/A.mv b\/A.w0.heap.size<=b
 hp:∀id,L id->cd S w A.C.P L rho s.h id (s.h id)
 dj:∀i j g,L i->L j->(s.h i).live->(s.h j).live->hasB w (s.h i) (rho i) g->hasB w (s.h j) (rho j) g->i=j
 lv:∀i g,L i->(s.h i).live->hasB w (s.h i) (rho i) g->g<w.heap.size/\¬S g/\(A.mv g\/A.w0.heap.size<=g)
 fr:Fr A.mv A.w0 w
variable {A:jR} {V L:Nat->Prop} {rho:Nat->Value} {s:AS}
theorem aU.KM{S:Nat->Prop}{a:Act}{w:World}(sim:aU A V L S rho s a w)(i j g:Nat)(hi:L i)(hj:L j)(li:(s.h i).live)(lj:(s.h j).live)(bi:bH (rho i)=some g)(bj:bH (rho j)=some g):i=j:=sim.dj i j g hi hj li lj (.inl bi) (.inl bj)
theorem aU.mO{S:Nat->Prop}{a:Act}{w:World}(sim:aU A V L S rho s a w)(i g:Nat)(hi:L i)(li:(s.h i).live)(bi:bH (rho i)=some g):g<w.heap.size/\¬S g/\(A.mv g\/A.w0.heap.size<=g):=sim.lv i g hi li (.inl bi)
structure fu(S S':Nat->Prop)(w w':World)(L L':Nat->Prop)(rho rho':Nat->Value)(h h':Nat->AB):Prop where
 hS:∀b,S b->S' b
 keep:∀b,S b->w'.heap[b]?=w.heap[b]?
 ids:∀id,(h' id).there->(h id).there/\(L id->L' id/\rho' id=rho id)
 rows:∀id e,(h' id).fD=some e->(h id).fD=some e
variable {e:TypeId}
theorem fv{b:AB}(h:b.fD=some e):b.there:=by cases b<;>first | trivial | cases h
variable {S' L':Nat->Prop} {w':World} {rho':Nat->Value} {h':Nat->AB}
theorem aE.bA{S:Nat->Prop}{w:World}{P:Program}{h:Nat->AB}(T:fu S S' w w' L L' rho rho' h h'){x:AV}{v:Value}
  (hx:aE S w P L rho h x v):aE S' w' P L' rho' h' x v:=by
 induction hx with
 | p x v hx=>exact .p x v (hx.mono T.hS T.keep)
 | nl=>exact .nl
 | ow id v hv=>
  refine .ow id v fun ht=>?_;obtain⟨h1,h2⟩:=T.ids id ht;obtain⟨h3,h4⟩:=hv h1;obtain⟨h5,h6⟩:=h2 h3;exact⟨h5,by rw[h6];exact h4⟩
 | rp id i off v hv=>
  refine .rp id i off v fun e he=>?_;obtain⟨h3,g,n,c,ti,h4,h5,h6⟩:=hv e (T.rows id e he);obtain⟨h7,h8⟩:=(T.ids id (fv he)).2 h3;exact⟨h7,g,n,c,ti,by rw[h8];exact h4,h5,h6⟩
 | bx id off v hv=>
  refine .bx id off v fun ht=>?_;obtain⟨h1,h2⟩:=T.ids id ht;obtain⟨h3,g,h4,h7⟩:=hv h1;obtain⟨h5,h6⟩:=h2 h3;exact⟨h5,g,by rw[h6];exact h4,h7⟩
 | vw id lo hi v hv=>
  refine .vw id lo hi v fun e he=>?_;obtain⟨h3,n,c,a,ti,h4,h5⟩:=hv e (T.rows id e he);obtain⟨h7,h8⟩:=(T.ids id (fv he)).2 h3;exact⟨h7,n,c,a,ti,by rw[h8];exact h4,h5⟩
 | fn f cap vs hl hc ih=>exact .fn f cap vs hl ih
 | tu xs vs hl hc ih=>exact .tu xs vs hl ih
 | st xs vs hl h1 hc ih=>exact .st xs vs hl h1 ih
 | ifp t a u hc ih=>exact .ifp t a u ih
 | junk v=>exact .junk v
theorem nO{w:World}{base:Nat}{size:Nat}{v:Value}{n:Nat}{xs:List Value}(h:w.ownsRow base e size v n xs)(hb:∀g,bH v=some g->w'.heap[g]?=w.heap[g]?):w'.ownsRow base e size v n xs:=by
 refine⟨h.1,?_⟩;rcases h.2 with h2 | ⟨g,cap,cur,hv,hg,wI,r⟩
 ·exact .inl h2
 exact .inr ⟨g,cap,cur,hv,hg,by rw[hb g (by rw[hv];rfl)];exact wI,r⟩
theorem an.bA{α:Type}{P:Program}{w:World}{R R':α->Value->Prop}{es:List (List α)}{v:Value}(h:an P w R e es v)(hb:∀g,bH v=some g->w'.heap[g]?=w.heap[g]?)(hR:∀x u,R x u->R' x u):an P w' R' e es v:=by
 obtain⟨i,xs,h1,h2,h3,h4,h5,h6⟩:=h;exact⟨i,xs,h1,h2,nO h3 hb,h4,h5,fun a r j x ha hj=>by obtain⟨u,hu,hr⟩:=h6 a r j x ha hj;exact⟨u,hu,hR x u hr⟩⟩
theorem kU.bA{w:World}{es:List (List HX)}{v:Value}(h:kU w es v)(hb:∀g,bH v=some g->w'.heap[g]?=w.heap[g]?):kU w' es v:=
 ⟨fun g a j u b hg h1 h2=>h.top g a j u b hg (iZ (hb g hg) h1) h2,fun g a j a' j' u u' b hg h1 h2 h3 h4=>h.dis g a j a' j' u u' b hg (iZ (hb g hg) h1) (iZ (hb g hg) h2) h3 h4⟩
theorem an.rE{P:Program}{w:World}{R:HX->Value->Prop}{es:List (List HX)}{v:Value}(h:an P w R e es v){a j:Nat}{r:List HX}{e':TypeId}{kS:List (List PV)}(ha:es[a]?=some r)(hj:r[j]?=some (.row e' kS)):
  ∃g u,bH v=some g/\bI w es g a j u/\R (.row e' kS) u:=by
 obtain⟨i,xs,h1,h2,h3,h4,h5,h6⟩:=h;obtain⟨u,hu,hr⟩:=h6 a r j _ ha hj;have nP:=h4 r (aj ha);rcases h3.2 with⟨hn,hz⟩ | ⟨g,cap,cur,hv,hg,wI,k1,k2,k3,k4⟩
 ·have:=(cL.1 ha).1;omega
 refine⟨g,u,by rw[hv];rfl,⟨r,e',kS,_,_,_,ha,hj,wI,?_⟩,hr⟩;rw[nP];rw[<-k4,cB]at hu;split at hu
 ·simpa using hu
 cases hu
theorem cd.bA{S:Nat->Prop}{w:World}{P:Program}{h:Nat->AB}(T:fu S S' w w' L L' rho rho' h h'){id:Nat}{x:AB}
  (hb:x.live->∀g,hasB w x (rho id) g->w'.heap[g]?=w.heap[g]?) (hr:x.there->rho' id=rho id) (hx:cd S w P L rho h id x):cd S' w' P L' rho' h' id x:=by
 cases x with
 | none=>trivial
 | row e es=>
  show an P w' (ay S' w') e es (rho' id);rw[hr trivial];exact an.bA hx (fun g hg=>hb trivial g (.inl hg)) (fun x u hu=>hu.mono T.hS T.keep)
 | f_ es=>
  show ay S' w' (.sl es) (rho' id);rw[hr trivial];exact ay.mono hx T.hS T.keep
 | box cs=>
  obtain⟨g,ty,c,h1,h2,h3,h4⟩:=hx;refine⟨g,ty,c,by rw[hr trivial];exact h1,by rw[hb trivial g (.inl (by rw[h1];rfl))];exact h2,h3,fun j x u hj hu=>?_⟩;obtain⟨h5,h6⟩:=h4 j x u hj hu;exact⟨h5,h6.bA T⟩
 | eN ty cs=>
  obtain⟨g,c,h1,h2,h3,h4⟩:=hx;refine⟨g,c,by rw[hr trivial];exact h1,by rw[hb trivial g (.inl (by rw[h1];rfl))];exact h2,h3,fun j x u hj hu=>?_⟩;obtain⟨h5,h6⟩:=h4 j x u hj hu;exact⟨h5,h6.bA T⟩
 | jt cs=>
  show ay S' w' (.ip cs) (rho' id);rw[hr trivial];exact ay.mono hx T.hS T.keep
 | map mk es=>
  obtain⟨g,ms,clock,h1,h2,h3,h4,MS⟩:=hx;refine⟨g,ms,clock,by rw[hr trivial];exact h1,by rw[hb trivial g (.inl (by rw[h1];rfl))];exact h2,h3,fun i p m hi hm=>?_,MS⟩;obtain⟨h5,h6,h7⟩:=h4 i p m hi hm;exact⟨h5,h6,h7.mono T.hS T.keep⟩
 | iter mk es k cur=>
  obtain⟨g,mg,ms,clock,seen,h1,h2,h3,h4,h5⟩:=hx;exact⟨g,mg,ms,clock,seen,by rw[hr trivial];exact h1,by rw[hb trivial g (.inl (by rw[h1];rfl))];exact h2,T.hS _ h3,(T.keep _ h3).trans h4,h5⟩
 | cell c0 ty a=>
  obtain⟨g,off,v,h1,h2,h3,h4,h5⟩:=hx;exact⟨g,off,v,by rw[hr trivial];exact h1,h2,by rw[hb trivial g (.inl (by rw[h1];rfl))];exact h3,h4,h5.bA T⟩
 | fam l out=>
  obtain⟨h1,hF⟩:=hx;have iR:∀m g cs,l[m]?=some (g,cs)->qA out m->∀k,mE w cs g k->w'.heap[k]?=w.heap[k]?:=fun m g cs hm ho k hk=>hb trivial k (.inr (.inr (.inr ⟨l,out,m,g,cs,rfl,hm,ho,hk⟩)));refine⟨by rw[hr trivial];exact h1,fun m g cs hm ho=>?_,fun m m' g g' cs dB k hm mD ho u_ hk mF=>hF.dis m m' g g' cs dB k hm mD ho u_ (pb (iR m g cs hm ho g (.inl rfl)) hk) (pb (iR m' g' dB mD u_ g' (.inl rfl)) mF),fun m n g cs hm hl ht=>?_⟩
  ·obtain⟨ty,c,hB⟩:=hF.mem m g cs hm ho;refine⟨ty,c,by rw[iR m g cs hm ho g (.inl rfl)];exact hB.hp,hB.sz,fun j x u hj hu=>?_,hB.top,hB.dis⟩;obtain⟨h5,h6⟩:=hB.cell j x u hj hu;refine⟨h5,?_⟩;cases x with
   | p x=>exact ay.mono h6 T.hS T.keep
   | row e es=>exact an.bA h6 (fun k hk=>iR m g cs hm ho k (.inr ⟨c,ty,_,j,_,u,hB.hp,hj,trivial,hu,hk⟩)) (fun x u hu=>hu.mono T.hS T.keep)
  obtain⟨k1,k2⟩:=T.ids n ht;obtain⟨k3,k4⟩:=hF.out m n g cs hm hl k1;obtain⟨k5,k6⟩:=k2 k3;exact⟨k5,k6.trans k4⟩
 | aA cs=>
  obtain⟨g,ty,c,h1,hB⟩:=hx;have hg:bH (rho id)=some g:=by rw[h1];rfl
  refine⟨g,ty,c,by rw[hr trivial];exact h1,⟨by rw[hb trivial g (.inl hg)];exact hB.hp,hB.sz,fun j x u hj hu=>?_,hB.top,hB.dis⟩⟩;obtain⟨h5,h6⟩:=hB.cell j x u hj hu;refine⟨h5,?_⟩;cases x with
  | p x=>exact ay.mono h6 T.hS T.keep
  | row e es=>exact an.bA h6 (fun k hk=>hb trivial k (.inr (.inl ⟨cs,g,rfl,hg,c,ty,_,j,_,u,hB.hp,hj,trivial,hu,hk⟩))) (fun x u hu=>hu.mono T.hS T.keep)
 | ai e es=>
  obtain⟨hR,hS⟩:=hx;have hg:∀g,bH (rho id)=some g->w'.heap[g]?=w.heap[g]?:=fun g hg=>hb trivial g (.inl hg);refine⟨?_,by rw[hr trivial];exact hS.bA hg⟩;rw[hr trivial];obtain⟨i,xs,h1,h2,h3,h4,h5,h6⟩:=hR;refine⟨i,xs,h1,h2,nO h3 hg,h4,h5,fun a r j x ha hj=>?_⟩;obtain⟨u,hu,nF⟩:=h6 a r j x ha hj;refine⟨u,hu,?_⟩;cases x with
  | av x=>exact aE.bA T nF
  | row e' kS=>
   refine an.bA nF (fun k hk=>hb trivial k (.inr (.inr (.inl ?_)))) (fun x u hu=>hu.mono T.hS T.keep);have nP:=h4 r (aj ha);rcases h3.2 with⟨hn,hz⟩ | ⟨g,cap,cur,hv,hg,wI,k1,k2,k3,k4⟩
   ·have:=(cL.1 ha).1;omega
   refine⟨e,es,g,a,j,u,rfl,by rw[hv];rfl,⟨r,e',kS,_,_,_,ha,hj,wI,?_⟩,hk⟩;rw[nP];rw[<-k4,cB]at hu;split at hu
   ·simpa using hu
   cases hu
theorem Fr.next{mv:Nat->Prop}{w0 w:World}(h:Fr mv w0 w)(ho:w'.os=w.os)(ht:w'.tape=w.tape)(hu:w'.output=w.output)(hs:w.heap.size<=w'.heap.size)(hb:∀k,k<w0.heap.size->¬mv k->w'.heap[k]?=w.heap[k]?):Fr mv w0 w':=
 ⟨ho.trans h.os,ht.trans h.tape,hu.trans h.output,bM h.size hs,fun k hk hn=>(hb k hk hn).trans (h.block k hk hn)⟩
def cU(t:Nat->AV)(d:Option Tmp)(v:AV):Nat->AV:=match d with
 | some d=>ax t d v
 | none=>t
def mG(V:Nat->Prop)(d:Option Tmp)(j:Nat):Prop:=V j\/d=some j
theorem Dh(a:Act)(d:Tmp)(v:Value)(j:Nat)(hd:d<a.tmps.size):(a.put (some d) v).tmps.getD j undef=if j=d then v else a.tmps.getD j undef:=by
 simp only[Act.put,lU,fg];by_cases h:d=j
 ·subst h;simp[hd]
 have:¬j=d:=fun e=>h e.symm;simp[h,this]
theorem Iq{S:Nat->Prop}{a:Act}{w:World}(sim:aU A V L S rho s a w)(T:fu S S' w w' L L' rho rho' s.h h')(dst:Option Tmp)(hd:∀d,dst=some d->d<A.n)(x:AV)(v:Value)
  (hv:aE S' w' A.C.P L' rho' h' x v):∀j,mG V dst j->aE S' w' A.C.P L' rho' h' (cU s.t dst x j) ((a.put dst v).tmps.getD j undef):=by
 intro j hj;cases dst with
 | none=>
  rcases hj with hj | hj
  ·exact (sim.tm j hj).bA T
  cases hj
 | some d=>
  rw[Dh a d v j (by rw[sim.sz];exact hd d rfl)];by_cases e:j=d
  ·subst e;simp only[cU,ak,if_true];exact hv
  simp only[cU,au _ _ e,af e];rcases hj with hj | hj
  ·exact (sim.tm j hj).bA T
  injection hj with hj;exact absurd hj.symm e
theorem Di(a:Act)(dst:Option Tmp)(v:Value):(a.put dst v).tmps.size=a.tmps.size:=by cases dst<;>simp[Act.put]
theorem wP(a:Act)(dst:Option Tmp)(v:Value):(a.put dst v).defers=a.defers:=by cases dst<;>rfl
theorem aU.value{S:Nat->Prop}{a:Act}{w:World}(sim:aU A V L S rho s a w)(dst:Option Tmp)(hd:∀d,dst=some d->d<A.n)(x:AV)(v:Value)(hv:aE S w A.C.P L rho s.h x v):
  aU A (mG V dst) L S rho ⟨cU s.t dst x,s.h⟩ (a.put dst v) w:=
 {tm:=Iq sim ⟨fun _ h=>h,fun _ _=>rfl,fun _ h=>⟨h,fun hl=>⟨hl,rfl⟩⟩,fun _ _ h=>h⟩ dst hd x v hv
  sz:=(Di a dst v).trans sim.sz
  df:=(wP a dst v).trans sim.df
  nb:=sim.nb,pn:=sim.pn
  ev:=sim.ev,s0:=sim.s0,st:=sim.st,sb:=sim.sb,hp:=sim.hp,dj:=sim.dj,lv:=sim.lv,fr:=sim.fr }
end Go.AM
namespace Go.AM
open Go.RowKit
variable {Q:Exit->Act->World->Prop}
theorem bS{P:Program}{o:Oper}{a:Act}{w w':World}{v:Value}{next:Act->World->Prop}(h:(execOp a.eval o).run P w=.ok (.value v) w')(hn:next (a.put o.dst v) w'):o.wp P a w next Q:=by
 unfold Oper.wp;rw[h];exact hn
theorem jx{P:Program}{o:Oper}{a:Act}{w w':World}{next:Act->World->Prop}(h:(execOp a.eval o).run P w=.ok .skip w')(hn:next (a.put o.dst undef) w'):o.wp P a w next Q:=by
 unfold Oper.wp;rw[h];exact hn
theorem nQ(S:Nat->Prop)(w:World)(v:Value):ay S w (qD v) v:=by
 unfold qD;split
 ·exact .nil _ _
 exact .im _
theorem Au(b:Bool)(S:Nat->Prop)(w:World)(v:Value):ay S w (Kc b v) v:=by
 cases b
 ·exact nQ S w v
 exact .im v
variable {L:Nat->Prop} {rho:Nat->Value}
theorem va{S:Nat->Prop}{w:World}{P:Program}{h:Nat->AB}{x:PV}{v:Value}(hx:ay S w x v):aE S w P L rho h (Kd x) v:=by
 unfold Kd;split
 ·cases hx;exact .nl
 exact .p _ _ hx
theorem rF(S:Nat->Prop)(w:World)(P:Program)(L:Nat->Prop)(rho:Nat->Value)(h:Nat->AB)(v:Value):aE S w P L rho h (Bx v) v:=by
 unfold Bx;split
 ·exact .nl
 exact .p _ _ (.im _)
theorem BA(S:Nat->Prop)(w:World)(P:Program)(L:Nat->Prop)(rho:Nat->Value)(h:Nat->AB)(v:Value):aE S w P L rho h (u6 v) v:=by
 unfold u6;split
 ·exact .nl
 ·rename_i cs;split
  ·rename_i fI;refine .p _ _ (.ag _ _ (by simp) (fun u hu=>?_) fun i c v hc hv=>?_)
   ·rw[cC]at fI;exact fI u hu
   rw[ao]at hc;have yB:cs.toList[i]?=some v:=by simpa using hv
   rw[yB]at hc;simp at hc;rw[<-hc];exact nQ S w v
  exact .junk _
 exact .p _ _ (.im _)
variable {A:jR} {V:Nat->Prop} {s:AS}
theorem aH{S:Nat->Prop}{a:Act}{w:World}(sim:aU A V L S rho s a w)(x:Operand)(hx:∀j,x=.tmp j->V j):aE S w A.C.P L rho s.h (ev s.t x) (a.eval x):=by
 cases x with
 | tmp j=>exact sim.tm j (hx j rfl)
 | const v=>exact BA _ _ _ _ _ _ v
 | global g=>exact .p _ _ (.im _)
 | func f=>exact .p _ _ (.im _)
theorem aE.cb{S:Nat->Prop}{w:World}{P:Program}{h:Nat->AB}{x:PV}{v:Value}(hx:aE S w P L rho h (.p x) v):ay S w x v:=by cases hx;assumption
theorem ay.bc{S:Nat->Prop}{w:World}{x v:Value}(hx:ay S w (.im x) v):v=x:=by cases hx;rfl
theorem aE.bc{S:Nat->Prop}{w:World}{P:Program}{h:Nat->AB}{x v:Value}(hx:aE S w P L rho h (.p (.im x)) v):v=x:=hx.cb.bc
theorem ay.kW{S:Nat->Prop}{w:World}{cs:List PV}{v:Value}(hx:ay S w (.ag cs) v):∃vs:Array Value,v=.agg vs/\cs.length=vs.size/\(∀u∈vs.toList,u.oneCell'=true)/\(∀(i:Nat) c u,cs[i]?=some c->vs[i]?=some u->ay S w c u):=by
 cases hx;exact⟨_,rfl,by assumption,by assumption,by assumption⟩
theorem ay.rG{S:Nat->Prop}{w:World}{cs:List PV}{v:Value}(hx:ay S w (.ip cs) v):∃b off,∃U:Nat->Value,v=.pointer (some ⟨b,off,none⟩)/\S b/\(∀(j:Nat) x,cs[j]?=some x->w.cell? ⟨b,off+j,none⟩=some (U j)/\(U j).oneCell'=true)/\(∀(j:Nat) x,cs[j]?=some x->ay S w x (U j)):=by
 cases hx;exact⟨_,_,_,rfl,by assumption,by assumption,by assumption⟩
theorem ay.j5{S:Nat->Prop}{w:World}{es:List (List PV)}{v:Value}(hx:ay S w (.sl es) v):∃a c,v=.slice a es.length c/\es.length<=c/\(es≠[]->∃b off k,a=some ⟨b,off,none⟩/\S b/\(∀e∈es,e.length=k)/\
  ∀(i:Nat) e (j:Nat) x,es[i]?=some e->e[j]?=some x->∃u,w.cell? ⟨b,off+i*k+j,none⟩=some u/\u.oneCell'=true/\ay S w x u):=by
 cases hx with
 | nil a c=>exact⟨a,c,rfl,by simp,fun h=>absurd rfl h⟩
 | sl _ k b off c U hc hS hk hcell h=>exact⟨_,c,rfl,hc,fun _=>⟨b,off,k,rfl,hS,hk,fun i e j x h1 h2=>⟨U i j,(hcell i e j x h1 h2).1,(hcell i e j x h1 h2).2,h i e j x h1 h2⟩⟩⟩
def nR(L:Nat->Prop)(new:Option AB)(d:Nat):Nat->Prop:=match new with
 | none=>L
 | some _=>fun i=>L i\/i=d
def eD(A:jR)(o:Oper):Prop:=
 ∀(V L S:Nat->Prop) (rho:Nat->Value) (s:AS) (a:Act) (w:World) (K:KK) (next:Act->World->Prop) (Q:Exit->Act->World->Prop),aL A.C->aU A V L S rho s a w->(∀j,Operand.tmp j∈o.op.operands->V j)->(∀d,o.dst=some d->d<A.n)->
  aZ A.C o (ev s.t) s.h K->(∀v eff b,K v eff (some b)->¬L (o.dst.getD 0)/\s.h (o.dst.getD 0)=b)->
  (∀v eff new S' rho' a' w',K v eff new->aU A (mG V o.dst) (nR L new (o.dst.getD 0)) S' rho' ⟨cU s.t o.dst v,app s.h eff⟩ a' w'->next a' w')->o.wp A.C.P a w next Q
theorem ar{o:Oper}{S:Nat->Prop}{a:Act}{w:World}{K:KK}{next:Act->World->Prop}(sim:aU A V L S rho s a w)(hd:∀d,o.dst=some d->d<A.n)
  (hnext:∀v eff new S' rho' a' w',K v eff new->aU A (mG V o.dst) (nR L new (o.dst.getD 0)) S' rho' ⟨cU s.t o.dst v,app s.h eff⟩ a' w'->next a' w') {x:AV} {v:Value} (hq:K x [] none) (hv:aE S w A.C.P L rho s.h x v)
  (hr:(execOp a.eval o).run A.C.P w=.ok (.value v) w):o.wp A.C.P a w next Q:=
 bS hr (hnext _ _ _ _ _ _ _ hq (sim.value o.dst hd x v hv))
theorem FM{o:Oper}(x:Operand)(aq:o.op=.move x):eD A o:=by
 intro V L S rho s a w K next Q hC sim hV hd hq _ hnext
 simp only[aZ,aq]at hq;exact ar sim hd hnext hq (aH sim x fun j hj=>hV j (by simp[aq,Op.operands,hj])) (by simp[execOp,aq])
theorem BB{o:Oper}(x:Operand)(aq:o.op=.assign x):eD A o:=by
 intro V L S rho s a w K next Q hC sim hV hd hq _ hnext
 simp only[aZ,aq]at hq;exact ar sim hd hnext hq (aH sim x fun j hj=>hV j (by simp[aq,Op.operands,hj])) (by simp[execOp,aq])
theorem FN{o:Oper}(c x y:Operand)(aq:o.op=.pick c x y):eD A o:=by
 intro V L S rho s a w K next Q hC sim hV hd hq _ hnext
 simp only[aZ,aq]at hq;have hc:=aH sim c fun j hj=>hV j (by simp[aq,Op.operands,hj]);have hx:=aH sim x fun j hj=>hV j (by simp[aq,Op.operands,hj]);have hy:=aH sim y fun j hj=>hV j (by simp[aq,Op.operands,hj]);split at hq
 ·rename_i t ht;rw[ht]at hc;split at hq
  ·exact ar sim hd hnext hq hx (by simp[execOp,aq,hc.bc,asBool])
  exact ar sim hd hnext hq hy (by simp[execOp,aq,hc.bc,asBool])
 exact hq.elim
theorem aE.Ir{S:Nat->Prop}{w:World}{P:Program}{h:Nat->AB}{xs:List AV}{v:Value}(hx:aE S w P L rho h (.st xs) v):∃vs:Array Value,v=.agg vs/\xs.length=vs.size/\(∀u∈vs.toList,u.oneCell'=true)/\∀(i:Nat) c u,xs[i]?=some c->vs[i]?=some u->aE S w P L rho h c u:=by
 cases hx;exact⟨_,rfl,by assumption,by assumption,by assumption⟩
theorem aE.Is{S:Nat->Prop}{w:World}{P:Program}{h:Nat->AB}{xs:List AV}{v:Value}(hx:aE S w P L rho h (.tu xs) v):∃vs:Array Value,v=.tuple vs/\xs.length=vs.size/\∀(i:Nat) c u,xs[i]?=some c->vs[i]?=some u->aE S w P L rho h c u:=by
 cases hx;exact⟨_,rfl,by assumption,by assumption⟩
variable {α:Type}
theorem fJ{vs:Array α}{n i:Nat}(hl:n=vs.size)(hi:i<n):∃v,vs[i]?=some v:=⟨vs[i]'(by omega),bE _⟩
theorem ah{l:List α}{i:Nat}{x:α}(h:l[i]?=some x):i<l.length:=(cL.1 h).1
theorem yC{o:Oper}(x:Operand)(i:Nat)(aq:o.op=.extract x i):eD A o:=by
 intro V L S rho s a w K next Q hC sim hV hd hq _ hnext
 simp only[aZ,aq]at hq;have hx:=aH sim x fun j hj=>hV j (by simp[aq,Op.operands,hj]);split at hq
 ·rename_i xs o8;rw[o8]at hx;split at hq
  ·rename_i y hy;obtain⟨vs,QJ,hl,hc⟩:=hx.Is;obtain⟨v,hv⟩:=fJ hl (ah hy);refine ar sim hd hnext hq (hc i y v hy hv) ?_;simp[execOp,aq,QJ,Instr.extract,hv]
  exact hq.elim
 exact hq.elim
theorem Av{a b:IntKind}(h:kB a b=true):a=b:=by cases a<;>cases b<;>first | rfl | cases h
theorem FO{k:IntKind}(h:KH k=true):k=.i64:=by cases k<;>first | rfl | cases h
theorem jy{k:IntKind}{n:Int}{K:Value->Prop}(h:pd k n K):K (.int k (k.wrap n)):=by
 unfold pd at h;split at h
 ·rename_i QK;obtain rfl:=FO QK;obtain⟨⟨h1,h2⟩,h3⟩:=h;rw[IntWalk.i64_in n ⟨h1,h2⟩];exact h3
 exact h
theorem vc(a b:ByteArray):(a.toList==b.toList)=decide (a=b):=by
 rw[gU];simp only[beq_iff_eq,dS,uS];constructor
 ·intro h;exact ByteArray.ext (gV h)
 rintro rfl;rfl
theorem Aw(a b:ByteArray):Op.bytesLess a.toList b.toList=Op.bytesLess a.data.toList b.data.toList:=by rw[uS,uS]
theorem rH(a b:Int):(a==b)=decide (a=b):=by rw[gU];simp
theorem yD(a b:Int):(a != b)=!decide (a=b):=by rw[bne,rH]
theorem FP{a b:Nat}(h:o7 a b=true):a=b:=bq h
theorem run_equalIn_slice_nil{P:Program}(w:World)(d:Nat)(t e:TypeId)(a:Option Addr)(l c:Nat)(h:P.underlying t=some (.slice e)):(Op.equalIn (d+1) t (.slice a l c) (.slice none 0 0)).run P w=.ok a.isNone w:=by
 cases a<;>simp[Op.equalIn,run_underlying h]
theorem dL{P:Program}(w:World)(t e:TypeId)(a:Option Addr)(l c:Nat)(h:P.underlying t=some (.slice e)):(Op.equal t (.slice a l c) (.slice none 0 0)).run P w=.ok a.isNone w:=run_equalIn_slice_nil w 9999 t e a l c h
theorem Dj{o:Oper}(op:BinOp)(t:TypeId)(x y:Operand)(t':TypeId)(aq:o.op=.binOp op t x y t'):eD A o:=by
 intro V L S rho s a w K next Q hC sim hV hd hq _ hnext
 simp only[aZ,aq]at hq;have hx:=aH sim x fun j hj=>hV j (by simp[aq,Op.operands,hj]);have hy:=aH sim y fun j hj=>hV j (by simp[aq,Op.operands,hj]);split at hq
 ·rename_i u v hu hv;rw[hu]at hx;rw[hv]at hy;replace hx:=hx.cb;replace hy:=hy.cb;unfold na at hq;split at hq
  ·rename_i k m k' n;have e1:=hx.bc;have e2:=hy.bc;split at hq
   ·rename_i hs;have Nv:op=.shr:=by cases op<;>first | rfl | cases hs
    subst Nv;obtain⟨⟨h0,h1⟩,hq⟩:=hq;refine ar sim hd hnext hq (.p _ _ (.im _)) ?_;have Nw:¬n<0:=by omega
    simp[execOp,aq,e1,e2,eqGuard,binOp,Op.shift,Nw]
   split at hq
   ·exact hq.elim
   rename_i hk;obtain rfl:=Av hk;split at hq
   ·exact ar sim hd hnext (jy hq) (.p _ _ (.im _)) (by simp[execOp,aq,e1,e2,eqGuard,binOp,Op.intArith])
   ·exact ar sim hd hnext (jy hq) (.p _ _ (.im _)) (by simp[execOp,aq,e1,e2,eqGuard,binOp,Op.intArith])
   ·exact ar sim hd hnext (jy hq) (.p _ _ (.im _)) (by simp[execOp,aq,e1,e2,eqGuard,binOp,Op.intArith])
   ·exact ar sim hd hnext (jy hq.2) (.p _ _ (.im _)) (by simp[execOp,aq,e1,e2,eqGuard,binOp,Op.intDiv,hq.1])
   ·exact ar sim hd hnext hq.2 (.p _ _ (.im _)) (by simp[execOp,aq,e1,e2,eqGuard,binOp,Op.intDiv,hq.1])
   ·exact ar sim hd hnext hq (.p _ _ (.im _)) (by simp[execOp,aq,e1,e2,eqGuard,binOp,Op.intCmp,rH])
   ·exact ar sim hd hnext hq (.p _ _ (.im _)) (by simp[execOp,aq,e1,e2,eqGuard,binOp,Op.intCmp,yD])
   ·exact ar sim hd hnext hq (.p _ _ (.im _)) (by simp[execOp,aq,e1,e2,eqGuard,binOp,Op.intCmp])
   ·exact ar sim hd hnext hq (.p _ _ (.im _)) (by simp[execOp,aq,e1,e2,eqGuard,binOp,Op.intCmp])
   ·exact ar sim hd hnext hq (.p _ _ (.im _)) (by simp[execOp,aq,e1,e2,eqGuard,binOp,Op.intCmp])
   ·exact ar sim hd hnext hq (.p _ _ (.im _)) (by simp[execOp,aq,e1,e2,eqGuard,binOp,Op.intCmp])
   exact hq.elim
  ·rename_i m n;have e1:=hx.bc;have e2:=hy.bc;split at hq
   ·exact ar sim hd hnext hq.2 (.p _ _ (.im _)) (by
     have:=hq.1;simp[execOp,aq,e1,e2,eqGuard,binOp,run_string_add_sum w m n this])
   ·exact ar sim hd hnext hq (.p _ _ (.im _)) (by simp[execOp,aq,e1,e2,eqGuard,binOp,Op.stringOp,vc])
   ·exact ar sim hd hnext hq (.p _ _ (.im _)) (by simp[execOp,aq,e1,e2,eqGuard,binOp,Op.stringOp,vc])
   ·exact ar sim hd hnext hq (.p _ _ (.im _)) (by simp[execOp,aq,e1,e2,eqGuard,binOp,Op.stringOp,Aw])
   ·exact ar sim hd hnext hq (.p _ _ (.im _)) (by simp[execOp,aq,e1,e2,eqGuard,binOp,Op.stringOp,vc,Aw])
   ·exact ar sim hd hnext hq (.p _ _ (.im _)) (by simp[execOp,aq,e1,e2,eqGuard,binOp,Op.stringOp,vc,Aw])
   ·exact ar sim hd hnext hq (.p _ _ (.im _)) (by simp[execOp,aq,e1,e2,eqGuard,binOp,Op.stringOp,Aw])
   exact hq.elim
  ·rename_i m n;have e1:=hx.bc;have e2:=hy.bc;split at hq
   ·rename_i size bytes zero hT;have hb:A.C.P.underlying t=some .bool:=by
     obtain⟨_,_,_,_,_,_,_,_,_,h⟩:=hC.eL t _ hT;exact h.2 rfl
    have hrun:=fun w=>run_equal_bool (P:=A.C.P) (w:=w) t m n hb;split at hq
    ·exact ar sim hd hnext hq (.p _ _ (.im _)) (by simp[execOp,aq,e1,e2,eqGuard,binOp,hrun];cases m<;>cases n<;>rfl)
    ·exact ar sim hd hnext hq (.p _ _ (.im _)) (by simp[execOp,aq,e1,e2,eqGuard,binOp,hrun];cases m<;>cases n<;>rfl)
    exact hq.elim
   exact hq.elim
  ·rename_i m n;obtain⟨xs,e1,It,_,Iu⟩:=hx.kW;obtain⟨ys,e2,yE,_,Ft⟩:=hy.kW;have im:∀(z:List Value) (m:List PV) (n:List PV) r,aX z m n=some r->(∀x∈m,∃v,x=.im v)/\(∀x∈n,∃v,x=.im v):=by
    intro z
    induction z with
    | nil=>
     intro m n r h;cases m<;>cases n<;>first
      | (simp[aX]at h;done)
      | exact⟨by simp,by simp⟩
    | cons c z ih=>
     intro m n r h;unfold aX at h;split at h
     ·rename_i h1;cases h1
     all_goals first
      | (
        rename_i h1;injection h1 with h1 mP;subst mP;split at h
        ·obtain⟨r',FQ,_⟩:=az.1 h;obtain⟨i1,i2⟩:=ih _ _ _ FQ;exact⟨by simpa using i1,by simpa using i2⟩
        cases h)
      | (
        rename_i h1;injection h1 with h1 mP;subst mP;obtain⟨r',FQ,_⟩:=az.1 h;obtain⟨i1,i2⟩:=ih _ _ _ FQ;exact⟨by simpa using i1,by simpa using i2⟩)
      | cases h
   have key:∀z r,aX z m n=some r->(∀(i:Nat) x v,m[i]?=some x->xs[i]?=some v->x=.im v)/\(∀(i:Nat) x v,n[i]?=some x->ys[i]?=some v->x=.im v):=by
    intro z r hr;obtain⟨i1,i2⟩:=im z m n r hr;refine⟨fun i x v h1 h2=>?_,fun i x v h1 h2=>?_⟩
    ·obtain⟨u,rfl⟩:=i1 x (aj h1);rw[(Iu i _ v h1 h2).bc]
    obtain⟨u,rfl⟩:=i2 x (aj h1);rw[(Ft i _ v h1 h2).bc]
   split at hq
   ·rename_i fs size bytes zero hT;split at hq
    ·exact hq.elim
    rename_i hsz;have hsz:=FP hsz;split at hq
    ·split at hq
     ·rename_i r hr;obtain⟨k1,k2⟩:=key _ r hr;have hrun:=hC.eqs t _ .eql m n r hT rfl ⟨_,rfl⟩ hr xs ys w k1 k2 It yE hsz (.inl rfl) x y;exact ar sim hd hnext hq (.p _ _ (.im _)) (by
       simp only[execOp,aq,e1,e2];rw[aI,hrun];simp)
     exact hq.elim
    ·split at hq
     ·rename_i r hr;obtain⟨k1,k2⟩:=key _ r hr;have hrun:=hC.eqs t _ .neq m n r hT rfl ⟨_,rfl⟩ hr xs ys w k1 k2 It yE hsz (.inr rfl) x y;exact ar sim hd hnext hq (.p _ _ (.im _)) (by
       simp only[execOp,aq,e1,e2];rw[aI,hrun];simp)
     exact hq.elim
    exact hq.elim
   exact hq.elim
  exact hq.elim
 ·rename_i u hu hv;rw[hu]at hx;rw[hv]at hy;replace hx:=hx.cb;have qb:a.eval y=.slice none 0 0:=by generalize a.eval y=v at hy;cases hy;rfl
  unfold By at hq;split at hq
  case h_2=>exact hq.elim
  rename_i es;split at hq
  case h_1=>exact hq.elim
  rename_i wJ;split at hq
  case h_2=>exact hq.elim
  rename_i e size bytes zero eq hT;have dr:A.C.P.underlying t=some (.slice e):=by
   obtain⟨_,_,_,_,_,_,_,_,_,h⟩:=hC.eL t _ hT;exact h
  obtain⟨ad,c,hv,_,bO⟩:=hx.j5;obtain⟨b,off,k,rfl,_⟩:=bO (fun e=>by rw[e]at wJ;cases wJ);split at hq
  ·exact ar sim hd hnext hq (.p _ _ (.im _)) (by simp[execOp,aq,hv,qb,eqGuard,binOp,dL _ _ _ _ _ _ dr])
  ·exact ar sim hd hnext hq (.p _ _ (.im _)) (by simp[execOp,aq,hv,qb,eqGuard,binOp,dL _ _ _ _ _ _ dr])
  exact hq.elim
 exact hq.elim
theorem FR{o:Oper}(op:UnOp)(t:TypeId)(x:Operand)(aq:o.op=.unOp op t x):eD A o:=by
 intro V L S rho s a w K next Q hC sim hV hd hq _ hnext
 simp only[aZ,aq]at hq;have hx:=aH sim x fun j hj=>hV j (by simp[aq,Op.operands,hj]);split at hq
 ·rename_i b hb;rw[hb]at hx;exact ar sim hd hnext hq (.p _ _ (.im _)) (by simp[execOp,aq,hx.bc,Op.unary])
 ·rename_i k n hb;rw[hb]at hx;exact ar sim hd hnext (jy hq) (.p _ _ (.im _)) (by simp[execOp,aq,hx.bc,Op.unary,Op.intArith])
 exact hq.elim
variable {ti:TI}
theorem jw.sizeOf{P:Program}{t:TypeId}(h:jw P t ti)(w:World):(sizeOf t).run P w=.ok ti.size w:=by
 obtain⟨info,z,h1,h2,_⟩:=h;simp[Go.sizeOf,typeInfo,h1,h2]
theorem jw.isAgg{P:Program}{t:TypeId}(h:jw P t ti)(w:World):(isAgg t).run P w=.ok ti.ud.agg w:=by
 obtain⟨info,z,_,_,_,_,_,_,_,h⟩:=h;unfold Go.isAgg;cases hu:ti.ud with
 | sc=>
  rw[hu]at h;obtain⟨⟨d,hd,hn⟩,_⟩:=h;rw[aI,run_underlying hd];cases d<;>first | rfl | exact hn.elim
 | int k=>rw[hu]at h;rw[aI,run_underlying h];rfl
 | st fs=>rw[hu]at h;obtain⟨gs,hg,_⟩:=h;rw[aI,run_underlying hg];rfl
 | sl e=>rw[hu]at h;rw[aI,run_underlying h];rfl
 | str=>rw[hu]at h;rw[aI,run_underlying h];rfl
 | mp k e=>rw[hu]at h;rw[aI,run_underlying h];rfl
theorem Tm{P:Program}{w:World}{t:TypeId}(h:jw P t ti)(ha:ti.ud.agg=true)(b off:Nat)(vs:List Value)(hl:vs.length=ti.size)(hc:∀(j:Nat) v,vs[j]?=some v->w.cell? ⟨b,off+j,none⟩=some v):
  (Instr.loadAt t (.pointer (some ⟨b,off,none⟩))).run P w=.ok (.agg vs.toArray) w:=by
 have:=run_loadCells_list (P:=P) w ⟨b,off,none⟩ vs (fun j v hj=>by rw[gW];exact hc j v hj);rw[hl]at this;simp[Instr.loadAt,Instr.sureAddr,loadVar,h.isAgg,ha,h.sizeOf,this]
theorem fA{P:Program}{w:World}{t:TypeId}(h:jw P t ti)(ha:ti.ud.agg=false)(b off:Nat)(v:Value)(hc:w.cell? ⟨b,off,none⟩=some v):
  (Instr.loadAt t (.pointer (some ⟨b,off,none⟩))).run P w=.ok v w:=by
 simp[Instr.loadAt,Instr.sureAddr,loadVar,h.isAgg,ha,load,Sem.run,hc]
theorem Ax{S:Nat->Prop}{w:World}(cs:List PV)(V:Nat->Value)(h:∀(j:Nat) x,cs[j]?=some x->(V j).oneCell'=true/\ay S w x (V j)):ay S w (.ag cs) (.agg ((List.range cs.length).map V).toArray):=by
 refine .ag _ _ (by simp) (fun u hu=>?_) fun i c v hc hv=>?_
 ·simp at hu;obtain⟨j,hj,rfl⟩:=hu;exact (h j _ (aM hj)).1
 have hi:=ah hc;simp[hi]at hv;rw[<-hv];exact (h i c hc).2
variable {off:Nat}
theorem gz{l:List α}{n j:Nat}{x:α}(h:((l.drop off).take n)[j]?=some x):l[off+j]?=some x:=by
 rw[cB]at h;split at h
 ·rwa [fh]at h
 cases h
theorem gA{l:List α}{n:Nat}(h:off+n<=l.length):((l.drop off).take n).length=n:=by simp;omega
theorem jz{l:List α}{x:α}{r:List α}(h:l.drop off=x::r):l[off]?=some x:=by
 have:(l.drop off)[0]?=some x:=by rw[h];rfl
 rw[fh]at this;exact this
theorem gi{a b:Nat}(h:yy a b=true):a<=b:=dT h
theorem dC{a b:Nat}(h:o7 a b=true):a=b:=bq h
theorem dz:∀{cs:List AV} {xs:List PV},cE cs=some xs->cs.length=xs.length/\∀(j:Nat) c x,cs[j]?=some c->xs[j]?=some x->(c=.p x\/(c=.nl/\x=.sl [])):=by
 intro cs
 induction cs with
 | nil=>intro xs h;simp[cE]at h;subst h;exact⟨rfl,by simp⟩
 | cons c cs ih=>
  intro xs h;unfold cE at h;split at h
  ·rename_i h1;cases h1
  ·rename_i x r h1;injection h1 with h1 h2;subst h1 h2;obtain⟨ys,hy,rfl⟩:=az.1 h;obtain⟨h3,h4⟩:=ih hy;refine⟨by simp[h3],fun j c x' hj hx=>?_⟩;cases j with
   | zero=>simp at hj hx;subst hj hx;exact .inl rfl
   | succ j=>exact h4 j c x' (by simpa using hj) (by simpa using hx)
  ·rename_i r h1;injection h1 with h1 h2;subst h1 h2;obtain⟨ys,hy,rfl⟩:=az.1 h;obtain⟨h3,h4⟩:=ih hy;refine⟨by simp[h3],fun j c x' hj hx=>?_⟩;cases j with
   | zero=>simp at hj hx;subst hj hx;exact .inr ⟨rfl,rfl⟩
   | succ j=>exact h4 j c x' (by simpa using hj) (by simpa using hx)
  cases h
theorem aE.qS{S:Nat->Prop}{w:World}{P:Program}{h:Nat->AB}{c:AV}{x:PV}{u:Value}(hc:c=.p x\/(c=.nl/\x=.sl []))(hr:aE S w P L rho h c u):ay S w x u:=by
 rcases hc with rfl | ⟨rfl,rfl⟩
 ·exact hr.cb
 cases hr;exact .nil _ _
variable {id:Nat}
theorem aE.dt{S:Nat->Prop}{w:World}{P:Program}{h:Nat->AB}{v:Value}(hx:aE S w P L rho h (.bx id off) v)(ht:(h id).there):L id/\∃g,rho id=.pointer (some ⟨g,0,none⟩)/\v=.pointer (some ⟨g,off,none⟩):=by
 cases hx;rename_i hv;exact hv ht
variable {e:TypeId}
theorem aE.rI{S:Nat->Prop}{w:World}{P:Program}{h:Nat->AB}{i:Nat}{v:Value}(hx:aE S w P L rho h (.rp id i off) v){es:List (List PV)}(he:h id=.row e es):
  L id/\∃g n c ti,rho id=.slice (some ⟨g,0,none⟩) n c/\P.info? e=some ti/\v=.pointer (some ⟨g,i*ti.size+off,none⟩):=by
 cases hx;rename_i hv;exact hv e (by rw[he];rfl)
theorem aE.lZ{S:Nat->Prop}{w:World}{P:Program}{h:Nat->AB}{i:Nat}{v:Value}(hx:aE S w P L rho h (.rp id i off) v){es:List (List HX)}(he:h id=.ai e es):
  L id/\∃g n c ti,rho id=.slice (some ⟨g,0,none⟩) n c/\P.info? e=some ti/\v=.pointer (some ⟨g,i*ti.size+off,none⟩):=by
 cases hx;rename_i hv;exact hv e (by rw[he];rfl)
theorem aE.Ay{S:Nat->Prop}{w:World}{P:Program}{h:Nat->AB}{t:TypeId}{x:AV}{v:Value}(hx:aE S w P L rho h (.ifp t x) v):∃u,v=.iface t u/\aE S w P L rho h x u:=by
 cases hx;exact⟨_,rfl,‹_›⟩
theorem aE.bu{S:Nat->Prop}{w:World}{P:Program}{h:Nat->AB}{v:Value}(hx:aE S w P L rho h (.ow id) v)(ht:(h id).there):L id/\v=rho id:=by
 cases hx;rename_i hv;exact hv ht
theorem an.cell{P:Program}{w:World}{R:α->Value->Prop}{es:List (List α)}{g n c:Nat}{ti:TypeInfo}(h:an P w R e es (.slice (some ⟨g,0,none⟩) n c))(hi:P.info? e=some ti):
  ∀(a:Nat) r (j:Nat) x,es[a]?=some r->r[j]?=some x->∃u,w.cell? ⟨g,a*ti.size+j,none⟩=some u/\u.oneCell'=true/\R x u:=by
 obtain⟨i,xs,h1,h2,h3,h4,h5,h6⟩:=h;rw[hi]at h1;injection h1 with h1;subst h1;intro a r j x ha hj;obtain⟨u,hu,hr⟩:=h6 a r j x ha hj;have:=h3.cells (g:=g) rfl _ u hu;rw[gW]at this;refine⟨u,by simpa using this,h5 u (aj hu),hr⟩
theorem wQ{o:Oper}(t:TypeId)(x:Operand)(aq:o.op=.load t x){S:Nat->Prop}{a:Act}{w:World}{K:KK}(hC:aL A.C)(sim:aU A V L S rho s a w)(hV:∀j,x=.tmp j->V j)(hq:aZ A.C o (ev s.t) s.h K):
  ∃av v,K av [] none/\aE S w A.C.P L rho s.h av v/\(Instr.loadAt t (a.eval x)).run A.C.P w=.ok v w:=by
 simp only[aZ,aq]at hq;have hx:=aH sim x hV;split at hq
 ·exact hq.elim
 rename_i ti hT;have dr:=hC.eL t ti hT;split at hq
 ·rename_i cs js;rw[js]at hx;obtain⟨b,off,U,hv,hb,hcell,hrep⟩:=hx.cb.rG;split at hq
  ·rename_i nU;split at hq
   ·rename_i hle;have hle:=gi hle;have hlen:(cs.take ti.size).length=ti.size:=by simp;omega
    refine⟨_,_,hq,.p _ _ (Ax _ U fun j x hj=>?_),?_⟩
    ·have KN:cs[j]?=some x:=by rw[cB]at hj;split at hj;exact hj;cases hj
     exact⟨(hcell j x KN).2,hrep j x KN⟩
    have:=Tm (w:=w) dr nU b off ((List.range (cs.take ti.size).length).map U) (by simp;omega) (fun j v hj=>by
     have kX:j<(cs.take ti.size).length:=by have:=ah hj;simpa using this
     rw[ao,fG kX]at hj;simp at hj;have wR:j<cs.length:=by rw[hlen]at kX;omega
     rw[(hcell j _ (aM wR)).1,hj])
    rw[hv];exact this
   exact hq.elim
  rename_i nU;split at hq
  ·rename_i c r;refine⟨_,_,hq,.p _ _ (hrep 0 c rfl),?_⟩;have:=fA (w:=w) dr nU b off (U 0) (by simpa using (hcell 0 c rfl).1);rw[hv];exact this
  exact hq.elim
 ·rename_i id off js;rw[js]at hx;split at hq
  ·rename_i cs aA;obtain⟨hL,g,hg,hv⟩:=hx.dt (by rw[aA];trivial);have hh:=sim.hp id hL;rw[aA]at hh;obtain⟨g',ty,c,h1,h2,h3,h4⟩:=hh;rw[hg]at h1;injection h1 with h1;injection h1 with h1;injection h1 with h1;subst h1;have hcell:∀j u,c[j]?=some u->w.cell? ⟨g,j,none⟩=some u:=fun j u hu=>by rw[cell_of_row w g j c ty (0,0) h2];exact hu
   split at hq
   ·rename_i nU;split at hq
    ·rename_i xs hle o8;have hle:=gi hle;obtain⟨hl,BC⟩:=dz o8;have hlen:xs.length=ti.size:=by rw[<-hl];exact gA hle
     have hU:∀(j:Nat) x,xs[j]?=some x->∃u,c[off+j]?=some u/\u.oneCell'=true/\ay S w x u:=by
      intro j x hj;obtain⟨y,hy⟩:∃y,((cs.drop off).take ti.size)[j]?=some y:=⟨_,aM (by rw[hl];exact ah hj)⟩;have qb:=gz hy;obtain⟨u,hu⟩:=fJ h3.symm (ah qb);obtain⟨h5,h6⟩:=h4 _ _ _ qb hu;exact⟨u,hu,h5,h6.qS (BC j y x hy hj)⟩
     refine⟨_,_,hq,.p _ _ (Ax xs (fun j=>(c[off+j]?).getD undef) fun j x hj=>?_),?_⟩
     ·obtain⟨u,h5,h6,h7⟩:=hU j x hj;rw[h5];exact⟨h6,h7⟩
     have:=Tm (w:=w) dr nU g off ((List.range xs.length).map (fun j=>(c[off+j]?).getD undef)) (by simpa using hlen) (fun j v hj=>by
      have kX:j<xs.length:=by have:=ah hj;simpa using this
      rw[ao,fG kX]at hj;obtain⟨u,h5,_⟩:=hU j _ (aM kX);simp[h5]at hj;rw[hcell _ _ h5,hj])
     rw[hv];exact this
    exact hq.elim
   rename_i nU;split at hq
   ·rename_i y r hy;have qb:=jz hy;obtain⟨u,hu⟩:=fJ h3.symm (ah qb);obtain⟨h5,h6⟩:=h4 _ _ _ qb hu;refine⟨_,_,hq,h6,?_⟩;have:=fA (w:=w) dr nU g off u (hcell _ _ hu);rw[hv];exact this
   exact hq.elim
  ·rename_i cs aA;obtain⟨hL,g,hg,hv⟩:=hx.dt (by rw[aA];trivial);have hh:=sim.hp id hL;rw[aA]at hh;obtain⟨b,QL,U,h1,hb,hcell,hrep⟩:=ay.rG hh;rw[hg]at h1;injection h1 with h1;injection h1 with h1;injection h1 with h1 h2;subst h1 h2;split at hq
   ·rename_i nU;split at hq
    ·rename_i hle;have hle:=gi hle;have hlen:=gA hle;refine⟨_,_,hq,.p _ _ (Ax _ (fun j=>U (off+j)) fun j x hj=>?_),?_⟩
     ·have KN:=gz hj;exact⟨(hcell _ x KN).2,hrep _ x KN⟩
     have:=Tm (w:=w) dr nU g off ((List.range ((cs.drop off).take ti.size).length).map (fun j=>U (off+j))) (by simpa using hlen) (fun j v hj=>by
      have kX:j<((cs.drop off).take ti.size).length:=by have:=ah hj;simpa using this
      rw[ao,fG kX]at hj;simp at hj;have wR:off+j<cs.length:=by rw[hlen]at kX;omega
      have h5:=(hcell _ _ (aM wR)).1;rw[cV]at h5;rw[h5,hj])
     rw[hv];exact this
    exact hq.elim
   rename_i nU;split at hq
   ·rename_i y r hy;have qb:=jz hy;refine⟨_,_,hq,.p _ _ (hrep _ _ qb),?_⟩;have:=fA (w:=w) dr nU g off (U off) (by simpa using (hcell _ _ qb).1);rw[hv];exact this
   exact hq.elim
  exact hq.elim
 ·rename_i id i off js;rw[js]at hx;split at hq
  ·rename_i e es ai;obtain⟨hL,g,n,c,tj,hg,pf,hv⟩:=hx.rI ai;have hh:=sim.hp id hL;rw[ai]at hh;have wK:an A.C.P w (ay S w) e es (.slice (some ⟨g,0,none⟩) n c):=by rw[<-hg];exact hh
   have hcell:=wK.cell pf;obtain⟨r,hr,hq⟩:=hq;split at hq
   ·rename_i nU;split at hq
    ·rename_i hle;have hle:=gi hle;have hlen:=gA hle;have hU:∀(j:Nat) x,((r.drop off).take ti.size)[j]?=some x->∃u,w.cell? ⟨g,i*tj.size+off+j,none⟩=some u/\u.oneCell'=true/\ay S w x u:=by
      intro j x hj;obtain⟨u,h1,h2,h3⟩:=hcell i r _ x hr (gz hj);exact⟨u,by rw[Tj];exact h1,h2,h3⟩
     refine⟨_,_,hq,.p _ _ (Ax _ (fun j=>(w.cell? ⟨g,i*tj.size+off+j,none⟩).getD undef) fun j x hj=>?_),?_⟩
     ·obtain⟨u,h5,h6,h7⟩:=hU j x hj;rw[h5];exact⟨h6,h7⟩
     have:=Tm (w:=w) dr nU g (i*tj.size+off) ((List.range ((r.drop off).take ti.size).length).map (fun j=>(w.cell? ⟨g,i*tj.size+off+j,none⟩).getD undef)) (by simpa using hlen) (fun j v hj=>by
      have kX:j<((r.drop off).take ti.size).length:=by have:=ah hj;simpa using this
      rw[ao,fG kX]at hj;obtain⟨u,h5,_⟩:=hU j _ (aM kX);simp[h5]at hj;rw[h5,hj])
     rw[hv];exact this
    exact hq.elim
   rename_i nU;split at hq
   ·rename_i y r' hy;have qb:=jz hy;obtain⟨u,h1,h2,h3⟩:=hcell i r _ y hr qb;refine⟨_,_,hq,.p _ _ h3,?_⟩;have:=fA (w:=w) dr nU g (i*tj.size+off) u h1;rw[hv];exact this
   exact hq.elim
  ·rename_i e es ai;obtain⟨hL,g,n,c,tj,hg,pf,hv⟩:=hx.lZ ai;have hh:=sim.hp id hL;rw[ai]at hh;have wK:an A.C.P w (iY S w A.C.P L rho s.h) e es (.slice (some ⟨g,0,none⟩) n c):=by rw[<-hg];exact hh.1
   have hcell:=wK.cell pf;obtain⟨r,hr,hq⟩:=hq;split at hq
   ·exact hq.elim
   rename_i nU;split at hq
   ·rename_i y r' hy;have qb:=jz hy;obtain⟨u,h1,h2,h3⟩:=hcell i r _ _ hr qb;refine⟨_,_,hq,h3,?_⟩;have:=fA (w:=w) dr nU g (i*tj.size+off) u h1;rw[hv];exact this
   exact hq.elim
  exact hq.elim
 ·rename_i id js;rw[js]at hx;split at hq
  ·rename_i c0 ty c hcell nU;obtain⟨hL,hv⟩:=hx.bu (by rw[hcell];trivial);have hh:=sim.hp id hL;rw[hcell]at hh;obtain⟨g,off,u,h1,h2,h3,h4,h5⟩:=hh;refine⟨_,_,hq,h5,?_⟩;have:=fA (w:=w) dr nU g off u (by rw[cell_of_row w g off _ ty (0,0) h3,fg,ae rfl,ae h2]);rw[hv,h1];exact this
  exact hq.elim
 exact hq.elim
theorem FT{o:Oper}(t:TypeId)(x:Operand)(aq:o.op=.load t x):eD A o:=by
 intro V L S rho s a w K next Q hC sim hV hd hq _ hnext
 obtain⟨av,v,h1,h2,h3⟩:=wQ t x aq hC sim (fun j hj=>hV j (by simp[aq,Op.operands,hj])) hq;exact ar sim hd hnext h1 h2 (by simp only[execOp,aq,aI,h3,br,ct])
theorem jw.under{P:Program}{t:TypeId}(h:jw P t ti):match ti.ud with
  | .sc=>(∃d,P.underlying t=some d/\(match d with | .struct _ | .array _ _=>False | _=>True))/\(ti.eq=true->P.underlying t=some .bool)
  | .int k=>P.underlying t=some (.int k)
  | .st fs=>∃gs,P.underlying t=some (.struct gs)/\fs.length=gs.size/\(∀(i:Nat) f g,fs[i]?=some f->gs[i]?=some g->f.1=g.offset/\f.2.1≠0/\(∃i2,P.info? g.type=some i2/\i2.size=f.2.1)/\
    (∃d,P.underlying g.type=some d/\f.2.2=(match d with | .struct _ | .array _ _=>true | _=>false)))
  | .sl e=>P.underlying t=some (.slice e)
  | .str=>P.underlying t=some .string
  | .mp k e=>P.underlying t=some (.map k e):=by
 obtain⟨_,_,_,_,_,_,_,_,_,h⟩:=h;exact h
theorem jw.info{P:Program}{t:TypeId}(h:jw P t ti):∃info z,P.info? t=some info/\info.size=ti.size/\info.bytes=ti.bytes/\info.zero=some z/\z.cells=ti.zero.toArray/\(∀v∈ti.zero,v.oneCell'=true):=by
 obtain⟨i,z,h1,h2,h3,h4,h5,h6,h7,h⟩:=h;exact⟨i,z,h1,h2,h3,h4,h5,h7⟩
theorem jw.Dk{P:Program}{t:TypeId}(h:jw P t ti):ti.zero.length=ti.size:=by
 obtain⟨i,z,h1,h2,h3,h4,h5,h6,h7,h⟩:=h;exact h6
theorem vd{o:Oper}(t:TypeId)(x:Operand)(f:Nat)(aq:o.op=.fieldAddr t x f):eD A o:=by
 intro V L S rho s a w K next Q hC sim hV hd hq _ hnext
 simp only[aZ,aq]at hq;have hx:=aH sim x fun j hj=>hV j (by simp[aq,Op.operands,hj]);split at hq
 ·rename_i fs size bytes zero eq hT;have dr:=(hC.eL t _ hT).under;obtain⟨gs,mH,hl,hf⟩:=dr;split at hq
  ·rename_i off sz ag Fu;obtain⟨g,hg⟩:=fJ hl (ah Fu);obtain⟨e1,e2,⟨i2,Kh,KO⟩,_⟩:=hf f _ g Fu hg;have hrun:∀b o',(Instr.fieldAt t (.pointer (some ⟨b,o',none⟩)) f).run A.C.P w=.ok (.pointer (some ⟨b,o'+off,none⟩)) w:=by
    intro b o';simp only at e1 e2 KO;simp[Instr.fieldAt,run_underlying mH,hg,Instr.sureAddr,fieldPlace,Go.sizeOf,typeInfo,Kh,KO,e2,gW,<-e1]
   split at hq
   ·rename_i cs js;rw[js]at hx;obtain⟨b,o',U,hv,hb,hcell,hrep⟩:=hx.cb.rG;refine ar sim hd hnext hq (.p _ _ (.ip _ b (o'+off) (fun j=>U (off+j)) hb (fun j y hj=>?_) fun j y hj=>?_)) (by simp[execOp,aq,hv,hrun])
    ·rw[fh]at hj;rw[Tj];exact hcell _ y hj
    rw[fh]at hj;exact hrep _ y hj
   ·rename_i id o' js;rw[js]at hx;split at hq
    ·exact hq.elim
    rename_i bO;have ht:(s.h id).there:=by
     cases hh:s.h id<;>first | trivial | exact absurd hh (by simpa using bO)
    obtain⟨hL,g',eY,hv⟩:=hx.dt ht;exact ar sim hd hnext hq (.bx _ _ _ fun _=>⟨hL,g',eY,rfl⟩) (by simp[execOp,aq,hv,hrun])
   ·rename_i id i o' js;rw[js]at hx;split at hq
    ·rename_i e es ai;obtain⟨hL,g',n,c,tj,eY,pf,hv⟩:=hx.rI ai;refine ar sim hd hnext hq (v:=.pointer (some ⟨g',i*tj.size+o'+off,none⟩)) (.rp _ _ _ _ fun e2 j6=>?_) (by simp[execOp,aq,hv,hrun]);rw[ai]at j6;injection j6 with j6;subst j6;exact⟨hL,g',n,c,tj,eY,pf,by rw[Tj]⟩
    ·rename_i e es ai;obtain⟨hL,g',n,c,tj,eY,pf,hv⟩:=hx.lZ ai;refine ar sim hd hnext hq (v:=.pointer (some ⟨g',i*tj.size+o'+off,none⟩)) (.rp _ _ _ _ fun e2 j6=>?_) (by simp[execOp,aq,hv,hrun]);rw[ai]at j6;injection j6 with j6;subst j6;exact⟨hL,g',n,c,tj,eY,pf,by rw[Tj]⟩
    exact hq.elim
   exact hq.elim
  exact hq.elim
 exact hq.elim
theorem Dl{o:Oper}(t:TypeId)(x:Operand)(f:Nat)(aq:o.op=.field t x f):eD A o:=by
 intro V L S rho s a w K next Q hC sim hV hd hq _ hnext
 simp only[aZ,aq]at hq;have hx:=aH sim x fun j hj=>hV j (by simp[aq,Op.operands,hj]);split at hq
 ·rename_i fs size bytes zero eq cs hT js;have dr:=(hC.eL t _ hT).under;obtain⟨gs,mH,hl,hf⟩:=dr;rw[js]at hx;obtain⟨vs,hv,yE,h1,hc⟩:=hx.cb.kW;split at hq
  ·rename_i off sz ag Fu;obtain⟨g,hg⟩:=fJ hl (ah Fu);obtain⟨e1,e2,⟨i2,Kh,KO⟩,d,PE,nU⟩:=hf f _ g Fu hg;simp only at e1 e2 KO nU;split at hq
   ·split at hq
    ·rename_i hle;have hle:=gi hle;have hlen:=gA hle;refine ar sim hd hnext hq (v:=.agg (vs.extract off (off+sz))) (.p _ _ (.ag _ _ (by simp;omega) (fun u hu=>h1 u ?_) fun i c v PF MT=>?_)) ?_
     ·simp at hu;exact qH (nH hu)
     ·have hi:=ah PF;rw[hlen]at hi;have Nx:vs[off+i]?=some v:=by
       rw[Array.getElem?_extract]at MT;split at MT
       ·exact MT
       cases MT
      exact hc _ c v (gz PF) Nx
     have ha:(isAgg g.type).run A.C.P w=.ok true w:=by
      rw[Go.isAgg,aI,run_underlying PE];cases d<;>simp at nU<;>rfl
     simp[execOp,aq,hv,Instr.field,run_underlying mH,hg,asAgg,part,ha,Go.sizeOf,typeInfo,Kh,KO,<-e1]
    exact hq.elim
   split at hq
   ·rename_i c r hy;have qb:=jz hy;obtain⟨u,hu⟩:=fJ yE (ah qb);refine ar sim hd hnext hq (.p _ _ (hc _ _ _ qb hu)) ?_;have ha:(isAgg g.type).run A.C.P w=.ok false w:=by
     rw[Go.isAgg,aI,run_underlying PE];cases d<;>simp at nU<;>rfl
    simp[execOp,aq,hv,Instr.field,run_underlying mH,hg,asAgg,part,ha,<-e1,hu]
   exact hq.elim
  exact hq.elim
 exact hq.elim
theorem i_{P:Program}{w:World}{t:TypeId}{ti:TypeInfo}(ht:P.underlying t=some (.slice e))(hi:P.info? e=some ti)(b off n c:Nat)(k:IntKind)(i:Int)(h0:0<=i)(h1:i.toNat<n):
  (Instr.indexAt t (.slice (some ⟨b,off,none⟩) n c) (.int k i)).run P w=.ok (.pointer (some ⟨b,off+i.toNat*ti.size,none⟩)) w:=by
 have h2:i<n:=by omega
 simp[Instr.indexAt,asIntOf,run_underlying ht,h0,h2,Go.sizeOf,typeInfo,hi,gW]
theorem aE.rJ{S:Nat->Prop}{w:World}{P:Program}{h:Nat->AB}{lo hi:Nat}{v:Value}(hx:aE S w P L rho h (.vw id lo hi) v){es:List (List PV)}(he:h id=.row e es):
  L id/\∃n c a ti,rho id=.slice a n c/\P.info? e=some ti/\lo<=hi/\hi<=n/\n<=c/\v=.slice (if c=lo then a else a.map (·.add (lo*ti.size))) (hi-lo) (c-lo):=by
 cases hx with
 | vw _ _ _ _ hv=>exact hv e (by rw[he];rfl)
theorem ve{o:Oper}(t:TypeId)(x ix:Operand)(aq:o.op=.indexAddr t x ix):eD A o:=by
 intro V L S rho s a w K next Q hC sim hV hd hq _ hnext
 simp only[aZ,aq]at hq;have hx:=aH sim x fun j hj=>hV j (by simp[aq,Op.operands,hj]);have hy:=aH sim ix fun j hj=>hV j (by simp[aq,Op.operands,hj]);split at hq
 ·rename_i e size bytes zero eq k i hT C2;have dr:=(hC.eL t _ hT).under;simp only at dr;rw[C2]at hy;replace hy:=hy.bc;split at hq
  ·exact hq.elim
  rename_i te nf;obtain⟨ie,ze,hX,qT,_⟩:=(hC.eL e te nf).info;have PG:∀(es:List (List PV)),ay S w (.sl es) (a.eval x)->(∃r,(0<=i/\es[i.toNat]?=some r)/\match o7 r.length te.size with | true=>K (.p (.ip r)) [] none | false=>False)->o.wp A.C.P a w next Q:=by
   intro es hrep hq;obtain⟨r,⟨h0,hr⟩,hq⟩:=hq;split at hq
   ·rename_i hlen;have hlen:=dC hlen;obtain⟨ad,c,hv,hle,bO⟩:=hrep.j5;obtain⟨b,off,k',rfl,hb,hk,hcell⟩:=bO (by intro e;rw[e]at hr;simp at hr);have mF:k'=te.size:=by rw[<-hk r (aj hr),hlen]
    have hU:∀(j:Nat) y,r[j]?=some y->∃u,w.cell? ⟨b,off+i.toNat*te.size+j,none⟩=some u/\u.oneCell'=true/\ay S w y u:=by
     intro j y hj;have:=hcell _ _ j y hr hj;rw[mF]at this;exact this
    refine ar sim hd hnext hq (.p _ _ (.ip _ b (off+i.toNat*te.size) (fun j=>(w.cell? ⟨b,off+i.toNat*te.size+j,none⟩).getD undef) hb (fun j y hj=>?_) fun j y hj=>?_)) ?_
    ·obtain⟨u,h1,h2,h3⟩:=hU j y hj;simp[h1,h2]
    ·obtain⟨u,h1,h2,h3⟩:=hU j y hj;simp only[h1];exact h3
    have:=i_ (w:=w) dr hX b off es.length c k i h0 (ah hr);simp only[execOp,aq,hv,hy,aI,this,br,ct,qT]
   exact hq.elim
  split at hq
  ·rename_i es wJ;rw[wJ]at hx;exact PG es hx.cb hq
  ·rename_i id wJ;rw[wJ]at hx;split at hq
   ·rename_i e' es ai;split at hq
    ·rename_i ng;have ng:=dC ng;subst ng;obtain⟨hL,hv⟩:=hx.bu (by rw[ai];trivial);have hh:=sim.hp id hL;rw[ai]at hh;have wK:an A.C.P w (ay S w) e' es (rho id):=hh;obtain⟨⟨h0,dv⟩,hq⟩:=hq;obtain⟨i',xs,h1,h2,h3,h4,h5,h6⟩:=wK;rcases h3.2 with⟨_,hn⟩ | ⟨g,cap,cur,hg,_,_,hle,_⟩
     ·omega
     refine ar sim hd hnext hq (v:=.pointer (some ⟨g,i.toNat*ie.size,none⟩)) (.rp _ _ _ _ fun e2 j6=>?_) ?_
     ·rw[ai]at j6;injection j6 with j6;subst j6;exact⟨hL,g,_,_,ie,hg,hX,by rw[jS]⟩
     have:=i_ (w:=w) dr hX g 0 es.length cap k i h0 dv;rw[hg]at hv;rw[cV]at this;simp only[execOp,aq,hv,hy,aI,this,br,ct]
    exact hq.elim
   ·rename_i e' es ai;split at hq
    ·rename_i ng;have ng:=dC ng;subst ng;obtain⟨hL,hv⟩:=hx.bu (by rw[ai];trivial);have hh:=sim.hp id hL;rw[ai]at hh;have wK:an A.C.P w (iY S w A.C.P L rho s.h) e' es (rho id):=hh.1;obtain⟨⟨h0,dv⟩,hq⟩:=hq;obtain⟨i',xs,h1,h2,h3,h4,h5,h6⟩:=wK;rcases h3.2 with⟨_,hn⟩ | ⟨g,cap,cur,hg,_,_,hle,_⟩
     ·omega
     refine ar sim hd hnext hq (v:=.pointer (some ⟨g,i.toNat*ie.size,none⟩)) (.rp _ _ _ _ fun e2 j6=>?_) ?_
     ·rw[ai]at j6;injection j6 with j6;subst j6;exact⟨hL,g,_,_,ie,hg,hX,by rw[jS]⟩
     have:=i_ (w:=w) dr hX g 0 es.length cap k i h0 dv;rw[hg]at hv;rw[cV]at this;simp only[execOp,aq,hv,hy,aI,this,br,ct]
    exact hq.elim
   ·rename_i es BD;obtain⟨hL,hv⟩:=hx.bu (by rw[BD];trivial);have hh:=sim.hp id hL;rw[BD]at hh;exact PG es (by rw[hv];exact hh) hq
   exact hq.elim
  ·rename_i id lo hi wJ;rw[wJ]at hx;split at hq
   ·rename_i e' es ai;split at hq
    ·rename_i ng;have ng:=dC ng;subst ng;obtain⟨hL,n,cp,ad,Ny,eZ,mI,QM,QN,Ki,hval⟩:=hx.rJ ai;rw[hX]at mI;injection mI with mI;subst mI;have hh:=sim.hp id hL;rw[ai]at hh;have wK:an A.C.P w (ay S w) e' es (rho id):=hh;obtain⟨⟨h0,dv⟩,hq⟩:=hq;obtain⟨i',xs,h1,h2,h3,h4,h5,h6⟩:=wK;rw[eZ]at h3;rcases h3.2 with⟨h7,_⟩ | ⟨g,cap,cur,hg,_,_,hle,_⟩
     ·injection h7 with _ h8 h9;omega
     injection hg with g1 g2 g3;subst g1 g2 g3;refine ar sim hd hnext hq (v:=.pointer (some ⟨g,lo*ie.size+i.toNat*ie.size,none⟩)) (.rp _ _ _ _ fun e2 j6=>?_) ?_
     ·rw[ai]at j6;injection j6 with j6;subst j6;exact⟨hL,g,_,_,ie,eZ,hX,by rw[jS,jT]⟩
     have:=i_ (w:=w) dr hX g (lo*ie.size) (hi-lo) (cp-lo) k i h0 dv;rw[af (by omega)]at hval;have he:(if lo*ie.size=0 then (⟨g,0,none⟩:Addr) else ⟨g,lo*ie.size,none⟩)=⟨g,lo*ie.size,none⟩:=by split<;>simp_all
     simp only[eM,Addr.add,cV,he]at hval;simp only[execOp,aq,hval,hy,aI,this,br,ct]
    exact hq.elim
   exact hq.elim
  exact hq.elim
 exact hq.elim
theorem Dm{o:Oper}(t:TypeId)(x ix:Operand)(aq:o.op=.index t x ix):eD A o:=by
 intro V L S rho s a w K next Q hC sim hV hd hq _ hnext
 simp only[aZ,aq]at hq;have hx:=aH sim x fun j hj=>hV j (by simp[aq,Op.operands,hj]);have hy:=aH sim ix fun j hj=>hV j (by simp[aq,Op.operands,hj]);split at hq
 ·rename_i size bytes zero eq st k i hT hs C2;have dr:=(hC.eL t _ hT).under;simp only at dr;rw[C2]at hy;rw[hs]at hx;obtain⟨b,⟨h0,hb⟩,hq⟩:=hq;refine ar sim hd hnext hq (.p _ _ (.im _)) ?_;simp[execOp,aq,hx.bc,hy.bc,Instr.index,asIntOf,run_underlying dr,h0,hb]
 exact hq.elim
theorem yF{o:Oper}(src dst:TypeId)(x:Operand)(aq:o.op=.convert src dst x):eD A o:=by
 intro V L S rho s a w K next Q hC sim hV hd hq _ hnext
 simp only[aZ,aq]at hq;have hx:=aH sim x fun j hj=>hV j (by simp[aq,Op.operands,hj]);split at hq
 ·rename_i k' n QO k size bytes zero eq hv KP KQ;have h2:=(hC.eL dst _ KQ).under;simp only at h2;rw[hv]at hx;have h1:∃d,A.C.P.underlying src=some d:=by
   have:=(hC.eL src _ KP).under;cases hu:QO.ud<;>rw[hu]at this
   ·exact⟨_,this.1.choose_spec.1⟩
   ·exact⟨_,this⟩
   ·exact⟨_,this.choose_spec.1⟩
   ·exact⟨_,this⟩
   ·exact⟨_,this⟩
   exact⟨_,this⟩
  obtain⟨d1,h1⟩:=h1;exact ar sim hd hnext (jy hq) (.p _ _ (.im _)) (by simp[execOp,aq,hx.bc,convert,run_underlying h1,run_underlying h2,Conv.intToInt])
 ·rename_i str KR Iv KS QP KT Iw KU QQ hv KP KQ;have h2:=(hC.eL dst _ KQ).under;have h1:=(hC.eL src _ KP).under;simp only at h1 h2;rw[hv]at hx;exact ar sim hd hnext hq (.p _ _ (.im _)) (by simp[execOp,aq,hx.bc,convert,run_underlying h1,run_underlying h2])
 ·rename_i k' n Sn KR Iv KS QP KT Iw KU QQ hv KP KQ;have h2:=(hC.eL dst _ KQ).under;have h1:=(hC.eL src _ KP).under;simp only at h1 h2;rw[hv]at hx;exact ar sim hd hnext hq (.p _ _ (.im _)) (by simp[execOp,aq,hx.bc,convert,run_underlying h1,run_underlying h2,Conv.intToString])
 exact hq.elim
theorem wS{o:Oper}(x:Operand)(aq:o.op=.nilCheck x):eD A o:=by
 intro V L S rho s a w K next Q hC sim hV hd hq _ hnext
 simp only[aZ,aq]at hq;have hx:=aH sim x fun j hj=>hV j (by simp[aq,Op.operands,hj]);have fin:∀av ad,K av [] none->aE S w A.C.P L rho s.h av (a.eval x)->a.eval x=.pointer (some ad)->o.wp A.C.P a w next Q:=by
  intro av ad hq hl he;exact ar sim hd hnext hq hl (by simp[execOp,aq,he])
 split at hq
 ·rename_i cs js;rw[js]at hx;obtain⟨b,off,U,hv,_⟩:=hx.cb.rG;exact fin _ _ hq hx hv
 ·rename_i id off js;rw[js]at hx;split at hq
  ·rename_i hb;obtain⟨_,g,_,hv⟩:=hx.dt (by rw[hb];trivial);exact fin _ _ hq hx hv
  ·rename_i hb;obtain⟨_,g,_,hv⟩:=hx.dt (by rw[hb];trivial);exact fin _ _ hq hx hv
  exact hq.elim
 ·rename_i id i off js;rw[js]at hx;split at hq
  ·rename_i hb;obtain⟨_,g,n,c,tj,_,_,hv⟩:=hx.rI hb;exact fin _ _ hq hx hv
  ·rename_i hb;obtain⟨_,g,n,c,tj,_,_,hv⟩:=hx.lZ hb;exact fin _ _ hq hx hv
  exact hq.elim
 ·rename_i id js;rw[js]at hx;split at hq
  ·rename_i c0 ty c hb;obtain⟨hL,hv⟩:=hx.bu (by rw[hb];trivial);have hh:=sim.hp id hL;rw[hb]at hh;obtain⟨g,off,u,h1,_⟩:=hh;exact fin _ _ hq hx (hv.trans h1)
  exact hq.elim
 exact hq.elim
theorem pg{o:Oper}(t:TypeId)(x:Operand)(aq:o.op=.makeInterface t x):eD A o:=by
 intro V L S rho s a w K next Q hC sim hV hd hq _ hnext
 simp only[aZ,aq]at hq;have hx:=aH sim x fun j hj=>hV j (by simp[aq,Op.operands,hj]);split at hq
 ·rename_i y hy;rw[hy]at hx;split at hq
  ·rename_i fs size bytes zero eq hT;obtain⟨gs,hu,_⟩:=(hC.eL t _ hT).under;exact ar sim hd hnext hq (.p _ _ (.ifc t _ _ hx.cb)) (by simp[execOp,aq,Instr.makeInterface,run_underlying hu])
  exact hq.elim
 split at hq
 ·rename_i hp;obtain⟨e,hu⟩:=hC.pts t hp;exact ar sim hd hnext hq (.ifp t _ _ hx) (by simp[execOp,aq,Instr.makeInterface,run_underlying hu])
 exact hq.elim
theorem tf{o:Oper}(x:Operand)(xt t:TypeId)(aq:o.op=.typeAssert x xt t false):eD A o:=by
 intro V L S rho s a w K next Q hC sim hV hd hq _ hnext
 simp only[aZ,aq]at hq;have hx:=aH sim x fun j hj=>hV j (by simp[aq,Op.operands,hj]);split at hq
 ·rename_i t' y hy;rw[hy]at hx;split at hq
  ·rename_i fs size bytes zero eq he hT;obtain⟨gs,hu,_⟩:=(hC.eL t _ hT).under;obtain⟨u,hv,hr⟩:=hx.cb.FJ;have he:=bq he;exact ar sim hd hnext hq (.p _ _ hr) (by simp[execOp,aq,Instr.typeAssert,run_underlying hu,hv,he])
  exact hq.elim
 exact hq.elim
theorem wT{o:Oper}(f:FuncId)(first cap:Array Operand)(aq:o.op=.makeFunc (.func f) first cap):eD A o:=by
 intro V L S rho s a w K next Q hC sim hV hd hq _ hnext
 simp only[aZ,aq]at hq;split at hq
 ·rename_i hn;have he:first=#[]:=by
   obtain⟨l⟩:=first
   cases l with
   | nil=>rfl
   | cons y l=>simp[isNil]at hn
  subst he;refine ar sim hd hnext hq (.fn f _ (cap.map a.eval) (by simp) fun i c v hc hv=>?_) (by simp[execOp,aq,Instr.makeFunc]);rw[ao]at hc;obtain⟨y,hy,rfl⟩:=az.1 hc;have qb:cap[i]?=some y:=by simpa using hy
  rw[uT,qb]at hv;simp at hv;rw[<-hv];exact aH sim y fun j hj=>hV j (by simp[aq,Op.operands];rw[<-hj];exact qI qb)
 exact hq.elim
end Go.AM
namespace Go.AM
open Go.RowKit
theorem bJ(h:Nat->AB)(a b:List (Nat×AB)):app h (a++b)=app (app h a) b:=by
 induction a generalizing h with
 | nil=>rfl
 | cons x a ih=>exact ih _
theorem aD{α:Type}(f:Nat->α)(i:Nat)(x:α)(j:Nat):(j=i/\ax f i x j=x)\/(j≠i/\ax f i x j=f j):=by
 by_cases e:j=i
 ·subst e;exact .inl ⟨rfl,ak _ _ _⟩
 exact .inr ⟨e,au _ _ e⟩
variable {e:TypeId}
theorem an.yG{P:Program}{S S':Nat->Prop}{w:World}{es:List (List PV)}{v:Value}(h:an P w (ay S w) e es v)(hS:∀b,S b->S' b)(hb:∀g,bH v=some g->S' g):ay S' w (.sl es) v:=by
 obtain⟨i,xs,h1,h2,h3,h4,h5,h6⟩:=h;rcases h3.2 with⟨rfl,hn⟩ | ⟨g,cap,cur,rfl,_,_,hle,_⟩
 ·have:es=[]:=cW hn;subst this;exact .nil _ _
 refine .sl es i.size g 0 cap (fun a j=>(xs[a*i.size+j]?).getD undef) hle (hb g rfl) h4 (fun a r j x ha hj=>?_) fun a r j x ha hj=>?_
 ·obtain⟨u,hu,hr⟩:=h6 a r j x ha hj;have:=h3.cells (g:=g) rfl _ u hu;rw[gW]at this;rw[hu,Tj];exact⟨this,h5 u (aj hu)⟩
 obtain⟨u,hu,hr⟩:=h6 a r j x ha hj;rw[hu];exact hr.mono hS (fun _ _=>rfl)
variable {id:Nat}
theorem cx{w:World}{h:Nat->AB}{b:AB}{i:Nat}{v:Value}{g:Nat}(hi:i≠id)(ho:hasB w (ax h id b i) v g):hasB w (h i) v g:=by rw[au _ _ hi]at ho;exact ho
variable {A:jR} {V L:Nat->Prop} {rho:Nat->Value} {s:AS}
theorem aU.tJ{S:Nat->Prop}{a:Act}{w:World}(sim:aU A V L S rho s a w)(hC:aL A.C)(id:Nat)(hL:L id){es:List (List PV)}(ai:s.h id=.row e es):
  aU A V L (fun b=>S b\/bH (rho id)=some b) rho ⟨s.t,ax s.h id (.f_ es)⟩ a w:=by
 have T:fu S (fun b=>S b\/bH (rho id)=some b) w w L L rho rho s.h (ax s.h id (.f_ es)):=by
  refine⟨fun b h=>.inl h,fun _ _=>rfl,fun j hj=>⟨?_,fun hl=>⟨hl,rfl⟩⟩,fun j e' hj=>?_⟩
  ·rcases aD s.h id (.f_ es) j with⟨rfl,h⟩ | ⟨_,h⟩
   ·rw[ai];trivial
   rw[h]at hj;exact hj
  rcases aD s.h id (.f_ es) j with⟨rfl,h⟩ | ⟨_,h⟩
  ·rw[h]at hj;cases hj
  rw[h]at hj;exact hj
 have cM:∀j,((ax s.h id (.f_ es)) j).live->j≠id/\(s.h j).live:=by
  intro j hj;rcases aD s.h id (.f_ es) j with⟨rfl,h⟩ | ⟨h1,h⟩
  ·rw[h]at hj;exact hj.elim
  rw[h]at hj;exact⟨h1,hj⟩
 have aN:(s.h id).live:=by rw[ai];trivial
 exact
 {tm:=fun j hj=>(sim.tm j hj).bA T
  sz:=sim.sz,df:=sim.df,nb:=sim.nb,pn:=sim.pn
  ev:=hC.env _ _ _ _ sim.ev (fun b h=>.inl h) (fun _ _=>rfl) (aC _)
  s0:=fun b h=>.inl (sim.s0 b h)
  st:=fun b h=>h.elim (sim.st b) fun h=>(sim.mO id b hL aN h).1
  sb:=fun b h=>h.elim (sim.sb b) fun h=>.inr (sim.mO id b hL aN h).2.2
  hp:=fun j hj=>by
   have hh:=sim.hp j hj;rcases aD s.h id (.f_ es) j with⟨rfl,h⟩ | ⟨h1,h⟩
   ·show cd _ _ _ _ _ _ _ (ax s.h j (.f_ es) j);rw[h];rw[ai]at hh;exact an.yG hh (fun b h=>.inl h) (fun g h=>.inr h)
   show cd _ _ _ _ _ _ _ (ax s.h id (.f_ es) j);rw[h];exact hh.bA T (fun _ _ _=>rfl) (fun _=>rfl)
  dj:=fun i j g hi hj li lj cK dW=>sim.dj i j g hi hj (cM i li).2 (cM j lj).2 (cx (cM i li).1 cK) (cx (cM j lj).1 dW)
  lv:=fun i g hi li hg=>by
   obtain⟨h1,h2⟩:=cM i li;have hg:=cx h1 hg;obtain⟨h3,h4,h5⟩:=sim.lv i g hi h2 hg;refine⟨h3,fun h=>h.elim h4 fun h=>h1 (sim.dj i id g hi hL h2 aN hg (.inl h)),h5⟩
  fr:=sim.fr }
theorem aU.BE{S:Nat->Prop}{a:Act}{w:World}(sim:aU A V L S rho s a w)(hC:aL A.C)(id:Nat)(hL:L id){mk:MK}{es:List (Value×PV)}(ai:s.h id=.map mk es):
  aU A V L (fun b=>S b\/bH (rho id)=some b) rho ⟨s.t,ax s.h id .none⟩ a w:=by
 have T:fu S (fun b=>S b\/bH (rho id)=some b) w w L L rho rho s.h (ax s.h id .none):=by
  refine⟨fun b h=>.inl h,fun _ _=>rfl,fun j hj=>⟨?_,fun hl=>⟨hl,rfl⟩⟩,fun j e' hj=>?_⟩
  ·rcases aD s.h id .none j with⟨rfl,h⟩ | ⟨_,h⟩
   ·rw[ai];trivial
   rw[h]at hj;exact hj
  rcases aD s.h id .none j with⟨rfl,h⟩ | ⟨_,h⟩
  ·rw[h]at hj;cases hj
  rw[h]at hj;exact hj
 have cM:∀j,((ax s.h id .none) j).live->j≠id/\(s.h j).live:=by
  intro j hj;rcases aD s.h id .none j with⟨rfl,h⟩ | ⟨h1,h⟩
  ·rw[h]at hj;exact hj.elim
  rw[h]at hj;exact⟨h1,hj⟩
 have aN:(s.h id).live:=by rw[ai];trivial
 exact
 {tm:=fun j hj=>(sim.tm j hj).bA T
  sz:=sim.sz,df:=sim.df,nb:=sim.nb,pn:=sim.pn
  ev:=hC.env _ _ _ _ sim.ev (fun b h=>.inl h) (fun _ _=>rfl) (aC _)
  s0:=fun b h=>.inl (sim.s0 b h)
  st:=fun b h=>h.elim (sim.st b) fun h=>(sim.mO id b hL aN h).1
  sb:=fun b h=>h.elim (sim.sb b) fun h=>.inr (sim.mO id b hL aN h).2.2
  hp:=fun j hj=>by
   have hh:=sim.hp j hj;rcases aD s.h id .none j with⟨rfl,h⟩ | ⟨h1,h⟩
   ·show cd _ _ _ _ _ _ _ (ax s.h j .none j);rw[h];trivial
   show cd _ _ _ _ _ _ _ (ax s.h id .none j);rw[h];exact hh.bA T (fun _ _ _=>rfl) (fun _=>rfl)
  dj:=fun i j g hi hj li lj cK dW=>sim.dj i j g hi hj (cM i li).2 (cM j lj).2 (cx (cM i li).1 cK) (cx (cM j lj).1 dW)
  lv:=fun i g hi li hg=>by
   obtain⟨h1,h2⟩:=cM i li;have hg:=cx h1 hg;obtain⟨h3,h4,h5⟩:=sim.lv i g hi h2 hg;refine⟨h3,fun h=>h.elim h4 fun h=>h1 (sim.dj i id g hi hL h2 aN hg (.inl h)),h5⟩
  fr:=sim.fr }
variable {xs:List PV}
theorem aU.BF{S:Nat->Prop}{a:Act}{w:World}(sim:aU A V L S rho s a w)(hC:aL A.C)(id:Nat)(hL:L id){cs:List AV}(ai:s.h id=.box cs)(o8:cE cs=some xs):
  aU A V L (fun b=>S b\/bH (rho id)=some b) rho ⟨s.t,ax s.h id (.jt xs)⟩ a w:=by
 have T:fu S (fun b=>S b\/bH (rho id)=some b) w w L L rho rho s.h (ax s.h id (.jt xs)):=by
  refine⟨fun b h=>.inl h,fun _ _=>rfl,fun j hj=>⟨?_,fun hl=>⟨hl,rfl⟩⟩,fun j e' hj=>?_⟩
  ·rcases aD s.h id (.jt xs) j with⟨rfl,h⟩ | ⟨_,h⟩
   ·rw[ai];trivial
   rw[h]at hj;exact hj
  rcases aD s.h id (.jt xs) j with⟨rfl,h⟩ | ⟨_,h⟩
  ·rw[h]at hj;cases hj
  rw[h]at hj;exact hj
 have cM:∀j,((ax s.h id (.jt xs)) j).live->j≠id/\(s.h j).live:=by
  intro j hj;rcases aD s.h id (.jt xs) j with⟨rfl,h⟩ | ⟨h1,h⟩
  ·rw[h]at hj;exact hj.elim
  rw[h]at hj;exact⟨h1,hj⟩
 have aN:(s.h id).live:=by rw[ai];trivial
 exact
 {tm:=fun j hj=>(sim.tm j hj).bA T
  sz:=sim.sz,df:=sim.df,nb:=sim.nb,pn:=sim.pn
  ev:=hC.env _ _ _ _ sim.ev (fun b h=>.inl h) (fun _ _=>rfl) (aC _)
  s0:=fun b h=>.inl (sim.s0 b h)
  st:=fun b h=>h.elim (sim.st b) fun h=>(sim.mO id b hL aN h).1
  sb:=fun b h=>h.elim (sim.sb b) fun h=>.inr (sim.mO id b hL aN h).2.2
  hp:=fun j hj=>by
   have hh:=sim.hp j hj;rcases aD s.h id (.jt xs) j with⟨rfl,h⟩ | ⟨h1,h⟩
   ·show cd _ _ _ _ _ _ _ (ax s.h j (.jt xs) j);rw[h];rw[ai]at hh;obtain⟨g,ty,c,k1,k2,k3,k4⟩:=hh;show ay _ w (.ip xs) (rho j);rw[k1];obtain⟨hl,BC⟩:=dz o8;have hU:∀(i:Nat) x,xs[i]?=some x->∃u,c[i]?=some u/\u.oneCell'=true/\ay S w x u:=by
     intro i x hi;obtain⟨y,hy⟩:∃y,cs[i]?=some y:=⟨_,aM (by rw[hl];exact ah hi)⟩;obtain⟨u,hu⟩:=fJ k3.symm (ah hy);obtain⟨h5,h6⟩:=k4 _ _ _ hy hu;exact⟨u,hu,h5,h6.qS (BC i y x hy hi)⟩
    refine .ip xs g 0 (fun i=>(c[i]?).getD undef) (.inr rfl) (fun i x hi=>?_) fun i x hi=>?_
    ·obtain⟨u,h5,h6,h7⟩:=hU i x hi;rw[cV,cell_of_row w g i c ty (0,0) k2,h5];exact⟨rfl,h6⟩
    obtain⟨u,h5,h6,h7⟩:=hU i x hi;rw[h5];exact h7.mono (fun b h=>.inl h) (fun _ _=>rfl)
   show cd _ _ _ _ _ _ _ (ax s.h id (.jt xs) j);rw[h];exact hh.bA T (fun _ _ _=>rfl) (fun _=>rfl)
  dj:=fun i j g hi hj li lj cK dW=>sim.dj i j g hi hj (cM i li).2 (cM j lj).2 (cx (cM i li).1 cK) (cx (cM j lj).1 dW)
  lv:=fun i g hi li hg=>by
   obtain⟨h1,h2⟩:=cM i li;have hg:=cx h1 hg;obtain⟨h3,h4,h5⟩:=sim.lv i g hi h2 hg;refine⟨h3,fun h=>h.elim h4 fun h=>h1 (sim.dj i id g hi hL h2 aN hg (.inl h)),h5⟩
  fr:=sim.fr }
def kM(h h':Nat->AB):Prop:=∀id,h' id=h id\/(∃e es,h id=.row e es/\h' id=.f_ es)\/(∃cs xs,h id=.box cs/\cE cs=some xs/\h' id=.jt xs)
theorem kM.refl(h:Nat->AB):kM h h:=fun _=>.inl rfl
variable {h':Nat->AB}
theorem kM.Dn{h:Nat->AB}(H:kM h h'){es:List (List PV)}(hr:h id=.row e es):kM h (ax h' id (.f_ es)):=by
 intro j;rcases aD h' id (.f_ es) j with⟨rfl,h1⟩ | ⟨_,h1⟩
 ·exact .inr (.inl ⟨e,es,hr,h1⟩)
 rw[h1];exact H j
theorem kM.Dp{h:Nat->AB}(H:kM h h'){cs:List AV}(hr:h id=.box cs)(hx:cE cs=some xs):kM h (ax h' id (.jt xs)):=by
 intro j;rcases aD h' id (.jt xs) j with⟨rfl,h1⟩ | ⟨_,h1⟩
 ·exact .inr (.inr ⟨cs,xs,hr,hx,h1⟩)
 rw[h1];exact H j
theorem ay.nV{S:Nat->Prop}{w:World}{g off:Nat}{v:Value}(h:ay S w (.ip xs) v)(hv:v=.pointer (some ⟨g,0,none⟩)):ay S w (.ip (xs.drop off)) (.pointer (some ⟨g,off,none⟩)):=by
 subst hv;obtain⟨b,o,U,hv,hb,hcell,hrep⟩:=h.rG;injection hv with hv;injection hv with hv;injection hv with h1 h2;subst h1 h2;refine .ip _ g off (fun j=>U (off+j)) hb (fun j x hj=>?_) fun j x hj=>?_
 ·rw[fh]at hj;have:=hcell _ x hj
  rwa [cV]at this
 rw[fh]at hj;exact hrep _ x hj
theorem tK{S:Nat->Prop}{a:Act}{w:World}(hC:aL A.C){h:Nat->AB}(sim:aU A V L S rho s a w)(hF:kM h s.h){x:AV}{v:Value}(hx:aE S w A.C.P L rho s.h x v){K:PV->List (Nat×AB)->Prop}(hq:iC h x K):
  ∃y fz S',K y fz/\aU A V L S' rho ⟨s.t,app s.h fz⟩ a w/\ay S' w y v/\(∀b,S b->S' b)/\kM h (app s.h fz)/\(∀p∈fz,L p.1)/\(∀p∈fz,¬p.2.live):=by
 unfold iC at hq;split at hq
 ·exact⟨_,[],S,hq,sim,hx.cb,fun _ h=>h,hF,by simp,by simp⟩
 ·cases hx;exact⟨_,[],S,hq,sim,.nil _ _,fun _ h=>h,hF,by simp,by simp⟩
 ·rename_i id;split at hq
  ·rename_i e es ai;rcases hF id with h1 | ⟨e',bW,h1,h2⟩ | ⟨cs,xs,h1,_,_⟩
   ·rw[ai]at h1;obtain⟨hL,hv⟩:=hx.bu (by rw[h1];trivial);refine⟨_,_,_,hq,sim.tJ hC id hL h1,?_,fun b h=>.inl h,hF.Dn ai,by simpa using hL,by simp[AB.live]⟩;have hh:=sim.hp id hL;rw[h1]at hh;rw[hv];exact an.yG hh (fun b h=>.inl h) (fun g h=>.inr h)
   ·rw[ai]at h1;injection h1 with e1 e2;subst e1 e2;obtain⟨hL,hv⟩:=hx.bu (by rw[h2];trivial);have hh:=sim.hp id hL;rw[h2]at hh;refine⟨_,_,S,hq,?_,by rw[hv];exact hh,fun _ h=>h,hF.Dn ai,by simpa using hL,by simp[AB.live]⟩;show aU A V L S rho ⟨s.t,ax s.h id (.f_ es)⟩ a w;rw[eX _ _ _ h2];exact sim
   rw[ai]at h1;cases h1
  ·rename_i es BD;rcases hF id with h1 | ⟨e',bW,h1,h2⟩ | ⟨cs,xs,h1,_,_⟩
   ·rw[BD]at h1;obtain⟨hL,hv⟩:=hx.bu (by rw[h1];trivial);have hh:=sim.hp id hL;rw[h1]at hh;exact⟨_,[],S,hq,sim,by rw[hv];exact hh,fun _ h=>h,hF,by simp,by simp⟩
   ·rw[BD]at h1;cases h1
   rw[BD]at h1;cases h1
  exact hq.elim
 ·rename_i id off;split at hq
  ·rename_i cs aA;split at hq
   ·rename_i xs o8;rcases hF id with h1 | ⟨e',bW,h1,h2⟩ | ⟨dB,kS,h1,FU,h2⟩
    ·rw[aA]at h1;obtain⟨hL,g,hg,hv⟩:=hx.dt (by rw[h1];trivial);have aQ:=sim.BF hC id hL h1 o8;refine⟨_,_,_,hq,aQ,?_,fun b h=>.inl h,hF.Dp aA o8,by simpa using hL,by simp[AB.live]⟩;have hh:=aQ.hp id hL;have wK:cd _ w A.C.P L rho _ id (ax s.h id (.jt xs) id):=hh;rw[ak]at wK;have Dq:ay _ w (.ip xs) (rho id):=wK;rw[hv];exact Dq.nV hg
    ·rw[aA]at h1;cases h1
    rw[aA]at h1;injection h1 with h1;subst h1;rw[o8]at FU;injection FU with FU;subst FU;obtain⟨hL,g,hg,hv⟩:=hx.dt (by rw[h2];trivial);have hh:=sim.hp id hL;rw[h2]at hh;have Dq:ay _ w (.ip xs) (rho id):=hh;refine⟨_,_,S,hq,?_,by rw[hv];exact Dq.nV hg,fun _ h=>h,hF.Dp aA o8,by simpa using hL,by simp[AB.live]⟩;show aU A V L S rho ⟨s.t,ax s.h id (.jt xs)⟩ a w;rw[eX _ _ _ h2];exact sim
   exact hq.elim
  ·rename_i xs Ix;rcases hF id with h1 | ⟨e',bW,h1,h2⟩ | ⟨cs,kS,h1,_,_⟩
   ·rw[Ix]at h1;obtain⟨hL,g,hg,hv⟩:=hx.dt (by rw[h1];trivial);have hh:=sim.hp id hL;rw[h1]at hh;have Dq:ay _ w (.ip xs) (rho id):=hh;exact⟨_,[],S,hq,sim,by rw[hv];exact Dq.nV hg,fun _ h=>h,hF,by simp,by simp⟩
   ·rw[Ix]at h1;cases h1
   rw[Ix]at h1;cases h1
  exact hq.elim
 exact hq.elim
theorem BG{b:AB}(h:b.fD=some e):b.live:=by cases b<;>first | trivial | cases h
theorem BH{fz:List (Nat×AB)}(hn:∀p∈fz,¬p.2.live):∀{h:Nat->AB} {id:Nat},(app h fz id).live->app h fz id=h id:=by
 induction fz with
 | nil=>intro h id _;rfl
 | cons p fz ih=>
  intro h id hl;obtain⟨i,b⟩:=p;have e:=ih (fun p hp=>hn p (by simp[hp])) (h:=ax h i b) (id:=id) hl;have e2:app h ((i,b)::fz) id=ax h i b id:=e;by_cases ei:id=i
  ·subst ei;rw[e2,ak]at hl;exact absurd hl (hn (id,b) (by simp))
  rw[e2,au _ _ ei]
theorem kM.there{h:Nat->AB}(H:kM h h')(id:Nat):(h' id).there↔(h id).there:=by
 rcases H id with h1 | ⟨e,es,h1,h2⟩ | ⟨cs,xs,h1,_,h2⟩
 ·rw[h1]
 ·rw[h1,h2];exact dU
 rw[h1,h2];exact dU
theorem aE.KV{S S':Nat->Prop}{w:World}{P:Program}{h h':Nat->AB}{fz:List (Nat×AB)}(hS:∀b,S b->S' b)(H:kM h h')(H2:kM h (app h' fz))(hn:∀p∈fz,¬p.2.live){x:AV}{v:Value}(hx:aE S w P L rho h' x v):aE S' w P L rho (app h' fz) x v:=
 hx.bA ⟨hS,fun _ _=>rfl,fun id ht=>⟨(H.there id).2 ((H2.there id).1 ht),fun hl=>⟨hl,rfl⟩⟩,fun id e hr=>by rw[<-BH (h:=h') (id:=id) hn (BG hr)];exact hr⟩
theorem tL{t:Nat->AV}{a:Act}{w:World}(hC:aL A.C){h:Nat->AB}:∀(cap:List AV) (vs:List Value) (S:Nat->Prop) (h':Nat->AB) {K:List PV->List (Nat×AB)->Prop},cap.length=vs.length->aU A V L S rho ⟨t,h'⟩ a w->kM h h' ->
  (∀(i:Nat) c v,cap[i]?=some c->vs[i]?=some v->aE S w A.C.P L rho h' c v)->pZ h cap K ->
  ∃xs fz S',K xs fz/\aU A V L S' rho ⟨t,app h' fz⟩ a w/\(∀(i:Nat) x v,xs[i]?=some x->vs[i]?=some v->ay S' w x v)/\(∀b,S b->S' b)/\kM h (app h' fz)/\(∀p∈fz,L p.1)/\xs.length=vs.length:=by
 intro cap
 induction cap with
 | nil=>
  intro vs S h' K hl sim hF _ hq;have:vs=[]:=cW hl.symm;subst this;exact⟨[],[],S,hq,sim,by simp,fun _ h=>h,hF,by simp,rfl⟩
 | cons c cap ih=>
  intro vs S h' K hl sim hF hrep hq;cases vs with
  | nil=>simp at hl
  | cons v vs=>
   obtain⟨y,fz,S2,hq,aJ,hp,nX,C3,wU,QR⟩:=tK (s:=⟨t,h'⟩) hC sim hF (hrep 0 c v rfl rfl) hq;obtain⟨xs,jr,S',k1,k2,k3,k4,k5,k6,k7⟩:=ih vs S2 (app h' fz) (by simpa using hl) aJ C3 (fun i x u hx hu=>(hrep (i+1) x u (by simpa using hx) (by simpa using hu)).KV nX hF C3 QR) hq;refine⟨y::xs,fz++jr,S',k1,by rw[bJ];exact k2,fun i x u hx hu=>?_,fun b hb=>k4 b (nX b hb),by rw[bJ];exact k5,fun p hp=>(cX.1 hp).elim (wU p) (k6 p),by simp[k7]⟩;cases i with
   | zero=>simp at hx hu;subst hx hu;exact hp.mono k4 (fun _ _=>rfl)
   | succ i=>exact k3 i x u (by simpa using hx) (by simpa using hu)
theorem e8{S:Nat->Prop}{a:Act}{w:World}(hC:aL A.C){h:Nat->AB}(sim:aU A V L S rho s a w)(hF:kM h s.h){x:AV}{v:Value}(hx:aE S w A.C.P L rho s.h x v){K:PV->List (Nat×AB)->Prop}(hq:g_ h x K):
  ∃y fz S',K y fz/\aU A V L S' rho ⟨s.t,app s.h fz⟩ a w/\ay S' w y v/\(∀b,S b->S' b)/\kM h (app s.h fz)/\(∀p∈fz,L p.1):=by
 unfold g_ at hq;split at hq
 ·rename_i f cap;cases hx with
  | fn _ _ vs hl hc=>
   obtain⟨xs,fz,S',k1,k2,k3,k4,k5,k6,k7⟩:=tL (t:=s.t) hC cap vs.toList S s.h (by simpa using hl) sim hF (fun i c v h1 h2=>hc i c v h1 (by simpa using h2)) hq;exact⟨_,fz,S',k1,k2,.fn f xs vs (by simpa using k7) (fun i c v h1 h2=>k3 i c v h1 (by simpa using h2)),k4,k5,k6⟩
 obtain⟨y,fz,S',h1,h2,h3,h4,h5,h6,_⟩:=tK hC sim hF hx hq;exact⟨y,fz,S',h1,h2,h3,h4,h5,h6⟩
theorem fo{d:Nat}:∀{fz:List (Nat×AB)} {h:Nat->AB},(∀p∈fz,p.1≠d)->app h fz d=h d:=by
 intro fz
 induction fz with
 | nil=>intro h _;rfl
 | cons x fz ih=>
  intro h hn;show app (ax h x.1 x.2) fz d=h d;rw[ih (fun p hp=>hn p (by simp[hp])),au _ _ (fun e=>hn x (by simp) e.symm)]
theorem aU.kill{S:Nat->Prop}{a:Act}{w:World}(sim:aU A V L S rho s a w)(id:Nat):aU A V L S rho ⟨s.t,ax s.h id .none⟩ a w:=by
 have T:fu S S w w L L rho rho s.h (ax s.h id .none):=by
  refine⟨fun b h=>h,fun _ _=>rfl,fun j hj=>⟨?_,fun hl=>⟨hl,rfl⟩⟩,fun j e' hj=>?_⟩
  ·rcases aD s.h id .none j with⟨rfl,h⟩ | ⟨_,h⟩
   ·rw[h]at hj;exact hj.elim
   rw[h]at hj;exact hj
  rcases aD s.h id .none j with⟨rfl,h⟩ | ⟨_,h⟩
  ·rw[h]at hj;cases hj
  rw[h]at hj;exact hj
 have cM:∀j,((ax s.h id .none) j).live->j≠id/\(s.h j).live:=by
  intro j hj;rcases aD s.h id .none j with⟨rfl,h⟩ | ⟨h1,h⟩
  ·rw[h]at hj;exact hj.elim
  rw[h]at hj;exact⟨h1,hj⟩
 exact
 {tm:=fun j hj=>(sim.tm j hj).bA T
  sz:=sim.sz,df:=sim.df,nb:=sim.nb,pn:=sim.pn,ev:=sim.ev,s0:=sim.s0,st:=sim.st,sb:=sim.sb
  hp:=fun j hj=>by
   have hh:=sim.hp j hj;rcases aD s.h id .none j with⟨rfl,h⟩ | ⟨h1,h⟩
   ·show cd _ _ _ _ _ _ _ (ax s.h j .none j);rw[h];trivial
   show cd _ _ _ _ _ _ _ (ax s.h id .none j);rw[h];exact hh.bA T (fun _ _ _=>rfl) (fun _=>rfl)
  dj:=fun i j g hi hj li lj cK dW=>sim.dj i j g hi hj (cM i li).2 (cM j lj).2 (cx (cM i li).1 cK) (cx (cM j lj).1 dW)
  lv:=fun i g hi li hg=>sim.lv i g hi (cM i li).2 (cx (cM i li).1 hg)
  fr:=sim.fr }
theorem aU.jA{S:Nat->Prop}{a:Act}{w:World}(sim:aU A V L S rho s a w)(hC:aL A.C)(d:Nat)(b:AB)(hdb:d<100000)(hL:¬L d)(hb:s.h d=b)(w':World)(ho:w'.os=w.os)(ht:w'.tape=w.tape)(hu:w'.output=w.output)
  (hsz:w.heap.size<=w'.heap.size) (R:Nat->Prop) (hold:∀k,k<w.heap.size->¬R k->w'.heap[k]?=w.heap[k]?) (hR:∀k,R k->¬S k/\(∀i,L i->(s.h i).live->¬hasB w (s.h i) (rho i) k)/\(A.mv k\/A.w0.heap.size<=k))
  (hv:Value) (hblk:∀g,hasB w' b hv g->g<w'.heap.size/\(w.heap.size<=g\/R g))
  (hrep:fu S S w w' L (fun i=>L i\/i=d) rho (ax rho d hv) s.h s.h->cd S w' A.C.P (fun i=>L i\/i=d) (ax rho d hv) s.h d b):
  aU A V (fun i=>L i\/i=d) S (ax rho d hv) s a w':=by
 have eE:∀b,S b->w'.heap[b]?=w.heap[b]?:=fun k hk=>hold k (sim.st k hk) fun hr=>(hR k hr).1 hk;have bO:∀i,L i->i≠d:=fun i hi e=>hL (e▸hi);have T:fu S S w w' L (fun i=>L i\/i=d) rho (ax rho d hv) s.h s.h:=
  ⟨fun b h=>h,eE,fun j hj=>⟨hj,fun hl=>⟨.inl hl,au _ _ (bO j hl)⟩⟩,fun j e' hj=>hj⟩
 exact
 {tm:=fun j hj=>(sim.tm j hj).bA T
  sz:=sim.sz,df:=sim.df,nb:=sim.nb,pn:=fun id h=>by rw[au _ _ (by omega)];exact sim.pn id h
  ev:=hC.env _ _ _ _ sim.ev (fun b h=>h) eE hsz
  s0:=sim.s0
  st:=fun b hb=>bg (sim.st b hb) hsz
  sb:=sim.sb
  hp:=fun j hj=>by
   by_cases e:j=d
   ·subst e;rw[hb];exact hrep T
   have hl:L j:=hj.resolve_right e;refine (sim.hp j hl).bA T (fun li g hg=>?_) (fun _=>au _ _ e);exact hold g (sim.lv j g hl li hg).1 fun hr=>(hR g hr).2.1 j hl li hg
  dj:=fun i j g hi hj li lj cK dW=>by
   have back:∀i g,L i->(s.h i).live->hasB w' (s.h i) (rho i) g->hasB w (s.h i) (rho i) g:=fun i g hl li h=>b_ (fun k hk=>hold k (sim.lv i k hl li hk).1 fun hr=>(hR k hr).2.1 i hl li hk) h;by_cases e1:i=d
   ·by_cases e2:j=d
    ·rw[e1,e2]
    have hl:L j:=hj.resolve_right e2;rw[au _ _ e2]at dW;have dW:=back j g hl lj dW;rw[e1,ak,hb]at cK;rcases (hblk g cK).2 with h | h
    ·exact absurd (sim.lv j g hl lj dW).1 (by omega)
    exact absurd dW ((hR g h).2.1 j hl lj)
   have hl:L i:=hi.resolve_right e1;rw[au _ _ e1]at cK;have cK:=back i g hl li cK;by_cases e2:j=d
   ·rw[e2,ak,hb]at dW;rcases (hblk g dW).2 with h | h
    ·exact absurd (sim.lv i g hl li cK).1 (by omega)
    exact absurd cK ((hR g h).2.1 i hl li)
   have yE:L j:=hj.resolve_right e2;rw[au _ _ e2]at dW;exact sim.dj i j g hl yE li lj cK (back j g yE lj dW)
  lv:=fun i g hi li hg=>by
   by_cases e:i=d
   ·rw[e,ak,hb]at hg;obtain⟨h1,h2⟩:=hblk g hg;refine⟨h1,?_⟩;rcases h2 with h | h
    ·exact⟨fun hs=>absurd (sim.st g hs) (by omega),.inr (bM sim.fr.size h)⟩
    exact⟨(hR g h).1,(hR g h).2.2⟩
   have hl:L i:=hi.resolve_right e;rw[au _ _ e]at hg;obtain⟨h1,h2,h3⟩:=sim.lv i g hl li (b_ (fun k hk=>hold k (sim.lv i k hl li hk).1 fun hr=>(hR k hr).2.1 i hl li hk) hg);exact⟨bg h1 hsz,h2,h3⟩
  fr:=sim.fr.next ho ht hu hsz fun k hk hn=>hold k (bg hk sim.fr.size) fun hr=>by
   rcases (hR k hr).2.2 with h | h
   ·exact hn h
   omega }
theorem aU.new{S:Nat->Prop}{a:Act}{w:World}(sim:aU A V L S rho s a w)(hC:aL A.C)(d:Nat)(b:AB)(hdb:d<100000)(hL:¬L d)(hb:s.h d=b)(w':World)(ho:w'.os=w.os)(ht:w'.tape=w.tape)(hu:w'.output=w.output)
  (hsz:w.heap.size<=w'.heap.size) (R:Nat->Prop) (hold:∀k,k<w.heap.size->¬R k->w'.heap[k]?=w.heap[k]?) (hR:∀k,R k->¬S k/\(∀i,L i->(s.h i).live->¬hasB w (s.h i) (rho i) k)/\(A.mv k\/A.w0.heap.size<=k))
  (hv:Value) (hblk:∀g,bH hv=some g->g<w'.heap.size/\(w.heap.size<=g\/R g))
  (hrep:fu S S w w' L (fun i=>L i\/i=d) rho (ax rho d hv) s.h s.h->cd S w' A.C.P (fun i=>L i\/i=d) (ax rho d hv) s.h d b)
  (hnh:Ij b=true:=by rfl):
  aU A V (fun i=>L i\/i=d) S (ax rho d hv) s a w':=
 sim.jA hC d b hdb hL hb w' ho ht hu hsz R hold hR hv (fun g h=>hblk g (al hnh h)) hrep
theorem aU.KW{S:Nat->Prop}{a:Act}{w:World}(sim:aU A V L S rho s a w)(hC:aL A.C)(w':World)(hf:Fr (fun _=>False) w w')(S':Nat->Prop)(h1:∀b,S b->S' b)(h2:∀b,S' b->b<w'.heap.size)(h3:∀b,S' b->S b\/w.heap.size<=b):aU A V L S' rho s a w':=by
 have eE:∀b,S b->w'.heap[b]?=w.heap[b]?:=fun k hk=>hf.block k (sim.st k hk) (fun h=>h);have T:fu S S' w w' L L rho rho s.h s.h:=⟨h1,eE,fun j hj=>⟨hj,fun hl=>⟨hl,rfl⟩⟩,fun j e' hj=>hj⟩;exact
 {tm:=fun j hj=>(sim.tm j hj).bA T
  sz:=sim.sz,df:=sim.df,nb:=sim.nb,pn:=sim.pn
  ev:=hC.env _ _ _ _ sim.ev h1 eE hf.size
  s0:=fun b hb=>h1 b (sim.s0 b hb)
  st:=h2
  sb:=fun b hb=>by
   rcases h3 b hb with h | h
   ·exact sim.sb b h
   exact .inr (.inr (bM sim.fr.size h))
  hp:=fun j hj=>(sim.hp j hj).bA T (fun li g hg=>hf.block g (sim.lv j g hj li hg).1 (fun h=>h)) (fun _=>rfl)
  dj:=fun i j g hi hj li lj cK dW=>sim.dj i j g hi hj li lj (b_ (fun k hk=>hf.block k (sim.lv i k hi li hk).1 (fun h=>h)) cK) (b_ (fun k hk=>hf.block k (sim.lv j k hj lj hk).1 (fun h=>h)) dW)
  lv:=fun i g hi li hg=>by
   obtain⟨a1,a2,a3⟩:=sim.lv i g hi li (b_ (fun k hk=>hf.block k (sim.lv i k hi li hk).1 (fun h=>h)) hg);refine⟨bg a1 hf.size,fun h=>?_,a3⟩;rcases h3 g h with h | h
   ·exact a2 h
   omega
  fr:=sim.fr.next hf.os hf.tape hf.output hf.size fun k hk _=>hf.block k (bg hk sim.fr.size) (fun h=>h) }
theorem aU.Iy{S:Nat->Prop}{a:Act}{w:World}(sim:aU A V L S rho s a w)(d:Nat)(es:List (List PV))(hdb:d<100000)(hL:¬L d)(hb:s.h d=.f_ es)(hv:Value)
  (hrep:ay S w (.sl es) hv):aU A V (fun i=>L i\/i=d) S (ax rho d hv) s a w:=by
 have bO:∀i,L i->i≠d:=fun i hi e=>hL (e▸hi);have T:fu S S w w L (fun i=>L i\/i=d) rho (ax rho d hv) s.h s.h:=
  ⟨fun b h=>h,fun _ _=>rfl,fun j hj=>⟨hj,fun hl=>⟨.inl hl,au _ _ (bO j hl)⟩⟩,fun j e' hj=>hj⟩
 have out:∀i,(L i\/i=d)->(s.h i).live->L i/\i≠d:=fun i hi li=>by
  by_cases e:i=d
  ·rw[e,hb]at li;exact li.elim
  exact⟨hi.resolve_right e,e⟩
 exact
 {tm:=fun j hj=>(sim.tm j hj).bA T
  sz:=sim.sz,df:=sim.df,nb:=sim.nb,pn:=fun id h=>by rw[au _ _ (by omega)];exact sim.pn id h
  ev:=sim.ev
  s0:=sim.s0
  st:=sim.st
  sb:=sim.sb
  hp:=fun j hj=>by
   by_cases e:j=d
   ·subst e;rw[hb];show ay S w (.sl es) (ax rho j hv j);rw[ak];exact hrep
   have hl:L j:=hj.resolve_right e;exact (sim.hp j hl).bA T (fun li g hg=>rfl) (fun _=>au _ _ e)
  dj:=fun i j g hi hj li lj cK dW=>by
   obtain⟨l1,e1⟩:=out i hi li;obtain⟨l2,e2⟩:=out j hj lj;rw[au _ _ e1]at cK;rw[au _ _ e2]at dW;exact sim.dj i j g l1 l2 li lj cK dW
  lv:=fun i g hi li cK=>by
   obtain⟨l1,e1⟩:=out i hi li;rw[au _ _ e1]at cK;exact sim.lv i g l1 li cK
  fr:=sim.fr }
theorem aU.vf{S:Nat->Prop}{a:Act}{w:World}(sim:aU A V L S rho s a w)(hC:aL A.C)(id:Nat)(hL:L id)(aN:(s.h id).live)(b':AB)(dM:∀e,b'.fD=some e->(s.h id).fD=some e)
  (w':World) (ho:w'.os=w.os) (ht:w'.tape=w.tape) (hu:w'.output=w.output) (hsz:w'.heap.size=w.heap.size) (hold:∀k,bH (rho id)≠some k->w'.heap[k]?=w.heap[k]?)
  (hrep:fu S S w w' L L rho rho s.h (ax s.h id b')->cd S w' A.C.P L rho (ax s.h id b') id b') (hown:∀g,hasB w' b' (rho id) g->hasB w (s.h id) (rho id) g):aU A V L S rho ⟨s.t,ax s.h id b'⟩ a w':=by
 have eE:∀b,S b->w'.heap[b]?=w.heap[b]?:=fun k hk=>hold k fun e=>(sim.mO id k hL aN e).2.1 hk;have nh:(s.h id).there:=by cases hh:s.h id<;>rw[hh]at aN<;>first | trivial | exact aN.elim
 have T:fu S S w w' L L rho rho s.h (ax s.h id b'):=by
  refine⟨fun b h=>h,eE,fun j hj=>⟨?_,fun hl=>⟨hl,rfl⟩⟩,fun j e' hj=>?_⟩
  ·rcases aD s.h id b' j with⟨rfl,h⟩ | ⟨_,h⟩
   ·exact nh
   rw[h]at hj;exact hj
  rcases aD s.h id b' j with⟨rfl,h⟩ | ⟨_,h⟩
  ·rw[h]at hj;exact dM e' hj
  rw[h]at hj;exact hj
 have cM:∀j,((ax s.h id b') j).live->(s.h j).live:=by
  intro j hj;rcases aD s.h id b' j with⟨rfl,h⟩ | ⟨h1,h⟩
  ·exact aN
  rw[h]at hj;exact hj
 have back:∀j g,L j->((ax s.h id b') j).live->hasB w' (ax s.h id b' j) (rho j) g->hasB w (s.h j) (rho j) g:=by
  intro j g hl hj u_;rcases aD s.h id b' j with⟨rfl,h⟩ | ⟨h1,h⟩
  ·rw[h]at u_;exact hown g u_
  rw[h]at u_ hj;exact b_ (fun k hk=>hold k fun e=>h1 (sim.dj j id k hl hL hj aN hk (.inl e))) u_
 exact
 {tm:=fun j hj=>(sim.tm j hj).bA T
  sz:=sim.sz,df:=sim.df,nb:=sim.nb,pn:=sim.pn
  ev:=hC.env _ _ _ _ sim.ev (fun b h=>h) eE (Nat.le_of_eq hsz.symm)
  s0:=sim.s0
  st:=fun b hb=>by rw[hsz];exact sim.st b hb
  sb:=sim.sb
  hp:=fun j hj=>by
   rcases aD s.h id b' j with⟨rfl,h⟩ | ⟨h1,h⟩
   ·show cd _ _ _ _ _ _ _ (ax s.h j b' j);rw[h];exact hrep T
   show cd _ _ _ _ _ _ _ (ax s.h id b' j);rw[h];refine (sim.hp j hj).bA T (fun li g hg=>hold g fun e=>?_) (fun _=>rfl);exact h1 (sim.dj j id g hj hL li aN hg (.inl e))
  dj:=fun i j g hi hj li lj cK dW=>sim.dj i j g hi hj (cM i li) (cM j lj) (back i g hi li cK) (back j g hj lj dW)
  lv:=fun i g hi li hg=>by rw[hsz];exact sim.lv i g hi (cM i li) (back i g hi li hg)
  fr:=sim.fr.next ho ht hu (Nat.le_of_eq hsz.symm) fun k hk hn=>hold k fun e=>by
   rcases (sim.mO id k hL aN e).2.2 with h | h
   ·exact hn h
   omega }
theorem aU.write{S:Nat->Prop}{a:Act}{w:World}(sim:aU A V L S rho s a w)(hC:aL A.C)(id:Nat)(hL:L id)(aN:(s.h id).live)(b':AB)(dM:∀e,b'.fD=some e->(s.h id).fD=some e)
  (w':World) (ho:w'.os=w.os) (ht:w'.tape=w.tape) (hu:w'.output=w.output) (hsz:w'.heap.size=w.heap.size) (hold:∀k,bH (rho id)≠some k->w'.heap[k]?=w.heap[k]?)
  (hrep:fu S S w w' L L rho rho s.h (ax s.h id b')->cd S w' A.C.P L rho (ax s.h id b') id b') (hnh:Ij b'=true:=by rfl):aU A V L S rho ⟨s.t,ax s.h id b'⟩ a w':=
 sim.vf hC id hL aN b' dM w' ho ht hu hsz hold hrep fun _ h=>.inl (al hnh h)
theorem aU.gT{S:Nat->Prop}{a:Act}{w:World}(sim:aU A V L S rho s a w){dst:Option Tmp}(hd:∀d,dst=some d->d<A.n):dst.getD 0<100000:=by
 cases dst with
 | none=>exact Nat.zero_lt_succ _
 | some d=>exact bg (hd d rfl) sim.nb
theorem To{S:Nat->Prop}{a:Act}{w:World}(sim:aU A V L S rho s a w){x:AV}{v:Value}(h:kL s.h x=true)(hx:aE S w A.C.P L rho s.h x v):v.oneCell'=true:=by
 unfold kL at h;split at h
 ·rw[hx.bc];exact h
 ·cases h
 ·rename_i y h1 h2;have hy:=hx.cb;cases hy with
  | im=>exact absurd rfl (h1 _)
  | ag cs vs=>exact absurd rfl (h2 cs)
  | nil=>rfl
  | sl=>rfl
  | ip=>rfl
  | fn=>rfl
  | mp=>rfl
  | ifc=>rfl
 ·cases hx;rfl
 ·rename_i id;split at h
  ·rename_i e es ai;obtain⟨hL,hv⟩:=hx.bu (by rw[ai];trivial);have hh:=sim.hp id hL;rw[ai]at hh;obtain⟨i,xs,_,_,h3,_⟩:=hh;rw[hv];rcases h3.2 with⟨h4,_⟩ | ⟨g,cap,cur,h4,_⟩<;>rw[h4]<;>rfl
  ·rename_i e es ai;obtain⟨hL,hv⟩:=hx.bu (by rw[ai];trivial);have hh:=sim.hp id hL;rw[ai]at hh;obtain⟨⟨i,xs,_,_,h3,_⟩,_⟩:=hh;rw[hv];rcases h3.2 with⟨h4,_⟩ | ⟨g,cap,cur,h4,_⟩<;>rw[h4]<;>rfl
  ·rename_i es ai;obtain⟨hL,hv⟩:=hx.bu (by rw[ai];trivial);have hh:=sim.hp id hL;rw[ai]at hh;obtain⟨ad,c,h4,_⟩:=ay.j5 hh;rw[hv,h4];rfl
  ·rename_i mk es ai;obtain⟨hL,hv⟩:=hx.bu (by rw[ai];trivial);have hh:=sim.hp id hL;rw[ai]at hh;obtain⟨g,ms,clock,h4,_⟩:=hh;rw[hv,h4];rfl
  cases h
 ·rename_i id off;split at h
  ·cases h
  rename_i bO;have ht:(s.h id).there:=by
   cases hh:s.h id<;>first | trivial | exact absurd hh (by simpa using bO)
  obtain⟨_,g,_,hv⟩:=hx.dt ht;rw[hv];rfl
 ·rename_i id i off;split at h
  ·rename_i e es ai;obtain⟨_,g,n,c,tj,_,_,hv⟩:=hx.rI ai;rw[hv];rfl
  ·rename_i e es ai;obtain⟨_,g,n,c,tj,_,_,hv⟩:=hx.lZ ai;rw[hv];rfl
  cases h
 ·rename_i id lo hi;split at h
  ·rename_i e es ai;obtain⟨_,n,c,a,ti,_,_,_,_,_,hv⟩:=hx.rJ ai;rw[hv];rfl
  cases h
 ·cases hx;rfl
 cases h
theorem cells_one{v:Value}(h:v.oneCell'=true):v.cells=#[v]:=by cases v<;>first | rfl | cases h
theorem qc{S:Nat->Prop}{w:World}{x:PV}{ys:List PV}{v:Value}(h:mZ x=some ys)(hx:ay S w x v):v.cells.size=ys.length/\(∀u∈v.cells.toList,u.oneCell'=true)/\∀(j:Nat) y u,ys[j]?=some y->v.cells[j]?=some u->ay S w y u:=by
 have one:∀{v:Value},v.oneCell'=true->ay S w x v->ys=[x]->v.cells.size=ys.length/\(∀u∈v.cells.toList,u.oneCell'=true)/\∀(j:Nat) y u,ys[j]?=some y->v.cells[j]?=some u->ay S w y u:=by
  intro v h1 hx hy;subst hy;rw[cells_one h1];refine⟨rfl,by simpa using h1,fun j y u hj hu=>?_⟩;cases j with
  | zero=>simp at hj hu;subst hj hu;exact hx
  | succ j=>simp at hj
 unfold mZ at h;split at h
 ·injection h with h;subst h;obtain⟨vs,rfl,h1,h2,h3⟩:=hx.kW;exact⟨h1.symm,h2,h3⟩
 ·split at h
  ·rename_i h1;injection h with h;exact one (by rw[hx.bc];exact h1) hx h.symm
  cases h
 rename_i h1 h2;injection h with h;refine one ?_ hx h.symm;cases hx with
 | im=>exact absurd rfl (h2 _)
 | ag cs=>exact absurd rfl (h1 cs)
 | nil=>rfl
 | sl=>rfl
 | ip=>rfl
 | fn=>rfl
 | mp=>rfl
 | ifc=>rfl
theorem Iz{o:Oper}(e:TypeId)(x:Operand)(aq:o.op=.box e x):eD A o:=by
 intro V L S rho s a w K next Q hC sim hV hd hq hn hnext
 simp only[aZ,aq]at hq;have hx:=aH sim x fun j hj=>hV j (by simp[aq,Op.operands,hj]);have hr:(execOp a.eval o).run A.C.P w=.ok (.value (.pointer (some ⟨w.heap.size,0,none⟩))) (w.alloc (.cells (a.eval x).cells e)):=by
  simp[execOp,aq,Instr.box,newVar,newRow,newObj,Sem.run]
 have main:∀cs:List AV,K (.bx (o.dst.getD 0) 0) [] (some (.box cs))->(a.eval x).cells.size=cs.length->(∀(j:Nat) y u,cs[j]?=some y->(a.eval x).cells[j]?=some u->u.oneCell'=true/\aE S w A.C.P L rho s.h y u)->o.wp A.C.P a w next Q:=by
  intro cs hq hl hc;obtain⟨hL,hb⟩:=hn _ _ _ hq;have aQ:=sim.new hC (o.dst.getD 0) (.box cs) (sim.gT hd) hL hb (w.alloc (.cells (a.eval x).cells e)) rfl rfl rfl (by simp) (fun _=>False) (fun k hk _=>gw _ _ _ hk) (fun _ h=>h.elim) (.pointer (some ⟨w.heap.size,0,none⟩))
   (fun g hg=>by simp[bH]at hg;subst hg;simp) (fun T=>⟨w.heap.size,e,(a.eval x).cells,ak _ _ _,heap_alloc_new w _,hl,fun j y u hj hu=>⟨(hc j y u hj hu).1,(hc j y u hj hu).2.bA T⟩⟩)
  refine bS hr (hnext _ _ _ _ _ _ _ hq (aQ.value o.dst hd _ _ (.bx _ _ _ fun _=>⟨.inr rfl,w.heap.size,ak _ _ _,rfl⟩)))
 split at hq
 ·rename_i cs js;rw[js]at hx;obtain⟨vs,hv,h1,h2,h3⟩:=hx.cb.kW;refine main _ hq (by rw[hv];simp[Value.cells,h1]) fun j y u hj hu=>?_;rw[hv]at hu;rw[ao]at hj;obtain⟨z,hz,rfl⟩:=az.1 hj;have ni:vs[j]?=some u:=hu;exact⟨h2 u (by simpa using qI ni),.p _ _ (h3 j z u hz ni)⟩
 ·rename_i xs js;rw[js]at hx;obtain⟨vs,hv,h1,h2,h3⟩:=hx.Ir;refine main _ hq (by rw[hv];simp[Value.cells,h1]) fun j y u hj hu=>?_;rw[hv]at hu;have ni:vs[j]?=some u:=hu;exact⟨h2 u (by simpa using qI ni),h3 j y u hj ni⟩
 split at hq
 ·rename_i h1;have h2:=To sim h1 hx;refine main _ hq (by rw[cells_one h2];rfl) fun j y u hj hu=>?_;rw[cells_one h2]at hu;cases j with
  | zero=>simp at hj hu;subst hj hu;exact⟨h2,hx⟩
  | succ j=>simp at hj
 exact hq.elim
theorem Dr{o:Oper}(e:TypeId)(aq:o.op=.alloc e):eD A o:=by
 intro V L S rho s a w K next Q hC sim hV hd hq hn hnext
 simp only[aZ,aq]at hq;split at hq
 ·rename_i ti hT;obtain⟨info,z,hi,h1,h2,hz,dN,ga⟩:=(hC.eL e ti hT).info;have hr:(execOp a.eval o).run A.C.P w=.ok (.value (.pointer (some ⟨w.heap.size,0,none⟩))) (w.alloc (.cells z.cells e)):=by
   simp[execOp,aq,Instr.alloc,zeroValue,typeInfo,hi,hz,newVar,newRow,newObj,Sem.run]
  split at hq
  ·obtain⟨hL,hb⟩:=hn _ _ _ hq;have aQ:=sim.new hC (o.dst.getD 0) _ (sim.gT hd) hL hb (w.alloc (.cells z.cells e)) rfl rfl rfl (by simp) (fun _=>False) (fun k hk _=>gw _ _ _ hk) (fun _ h=>h.elim) (.pointer (some ⟨w.heap.size,0,none⟩))
    (fun g hg=>by simp[bH]at hg;subst hg;simp) (fun T=>⟨w.heap.size,e,z.cells,ak _ _ _,heap_alloc_new w _,by rw[dN];simp,fun j y u hj hu=>by
     rw[dN]at hu;rw[ao]at hj;obtain⟨v,hv,rfl⟩:=az.1 hj;have ni:ti.zero[j]?=some u:=by simpa using hu
     rw[hv]at ni;injection ni with ni;subst ni;exact⟨ga v (aj hv),rF _ _ _ _ _ _ v⟩⟩)
   refine bS hr (hnext _ _ _ _ _ _ _ hq (aQ.value o.dst hd _ _ (.bx _ _ _ fun _=>⟨.inr rfl,w.heap.size,ak _ _ _,rfl⟩)))
  obtain⟨hL,hb⟩:=hn _ _ _ hq;have aQ:=sim.new hC (o.dst.getD 0) _ (sim.gT hd) hL hb (w.alloc (.cells z.cells e)) rfl rfl rfl (by simp) (fun _=>False) (fun k hk _=>gw _ _ _ hk) (fun _ h=>h.elim) (.pointer (some ⟨w.heap.size,0,none⟩))
   (fun g hg=>by simp[bH]at hg;subst hg;simp) (fun T=>⟨w.heap.size,z.cells,ak _ _ _,heap_alloc_new w _,by rw[dN];simp,fun j y u hj hu=>by
    rw[dN]at hu;rw[ao]at hj;obtain⟨v,hv,rfl⟩:=az.1 hj;have ni:ti.zero[j]?=some u:=by simpa using hu
    rw[hv]at ni;injection ni with ni;subst ni;exact⟨ga v (aj hv),rF _ _ _ _ _ _ v⟩⟩)
  refine bS hr (hnext _ _ _ _ _ _ _ hq (aQ.value o.dst hd _ _ (.bx _ _ _ fun _=>⟨.inr rfl,w.heap.size,ak _ _ _,rfl⟩)))
 exact hq.elim
end Go.AM
namespace Go.AM
open Go.RowKit
theorem iD{id:Nat}:∀{fz:List (Nat×AB)} {h:Nat->AB},m_ id fz=true->app h fz id=h id:=by
 intro fz
 induction fz with
 | nil=>intro h _;rfl
 | cons x fz ih=>
  intro h hn;unfold m_ at hn;split at hn
  ·cases hn
  rename_i bO;show app (ax h x.1 x.2) fz id=h id;rw[ih hn,au _ _ (fun e=>by rw[e]at bO;simp at bO)]
variable {α:Type}
theorem bL:∀(ys:List α) (cs:List α) (off:Nat),(setCells cs off ys).length=cs.length:=by
 intro ys
 induction ys with
 | nil=>intro cs off;rfl
 | cons y ys ih=>intro cs off;simp[setCells,ih]
theorem b8:∀(ys:List α) (cs:List α) (off j:Nat),off+ys.length<=cs.length->(setCells cs off ys)[j]?=if off<=j/\j<off+ys.length then ys[j-off]? else cs[j]?:=by
 intro ys
 induction ys with
 | nil=>intro cs off j _;simp only[setCells,jU];rw[af (by omega)]
 | cons y ys ih=>
  intro cs off j hl;simp only[cD]at hl ⊢;simp only[setCells];rw[ih _ _ _ (by simp;omega)];by_cases h1:j=off
  ·subst h1;rw[af (by omega),ae (by omega),fH,aP (by omega)];rfl
  by_cases h2:off+1<=j/\j<off+1+ys.length
  ·rw[ae h2,ae (by omega),show j-off=(j-(off+1))+1 by omega,qJ]
  rw[af h2,af (by omega),bw (by omega)]
theorem j7(cs ys:List α)(off j:Nat)(hl:off+ys.length<=cs.length):(cs.take off++ys++cs.drop (off+ys.length))[j]?=if off<=j/\j<off+ys.length then ys[j-off]? else cs[j]?:=by
 have h0:(cs.take off).length=off:=by simp;omega
 by_cases h1:j<off
 ·rw[af (by omega),gX,bQ (by omega),gY h1]
 by_cases h2:j<off+ys.length
 ·rw[ae (by omega),gX,bY (by omega),h0,bQ (by omega)]
 rw[af (by omega),gX,bY (by omega),h0,bY (by omega),fh];congr 1;omega
theorem FV(cs:List α)(off j:Nat)(y:α)(hl:off<cs.length):(cs.set off y)[j]?=if off<=j/\j<off+1 then [y][j-off]? else cs[j]?:=b8 [y] cs off j hl
theorem ja{P:Program}{w:World}{t:TypeId}{ti:TI}(h:jw P t ti)(g off:Nat)(ty:TypeId)(cur:Array Value)(v:Value)(hg:w.heap[g]?=some (.cells cur ty (0,0)))(hs:v.cells.size=ti.size)(hl:off+ti.size<=cur.size)(h1:∀u∈v.cells.toList,u.oneCell'=true):
  (Instr.storeAt t (.pointer (some ⟨g,off,none⟩)) v).run P w=.ok () (w.setRow g (cur.toList.take off++v.cells.toList++cur.toList.drop (off+v.cells.toList.length)).toArray):=by
 have:=run_storeCells_at P g off ty v.cells.toList 0 cur w hg (by simp[hs];omega) h1;simp only[jS]at this;simp[Instr.storeAt,Instr.sureAddr,storeVar,h.sizeOf,hs];simpa [hs] using this
theorem hY{P:Program}{a:Act}{o:Oper}{w w':World}{t:TypeId}{x y:Operand}(aq:o.op=.store t x y)(h:(Instr.storeAt t (a.eval x) (a.eval y)).run P w=.ok () w'):(execOp a.eval o).run P w=.ok .skip w':=by
 simp only[execOp,aq,aI,h,br,ct]
variable {e:TypeId} {c:Nat} {tj:TypeInfo}
theorem an.stored{P:Program}{w:World}{R R':α->Value->Prop}{es:List (List α)}{g n:Nat}(h:an P w R e es (.slice (some ⟨g,0,none⟩) n c))(pf:P.info? e=some tj){cur:Array Value}(hg:w.heap[g]?=some (.cells cur e (0,0)))
  {i off:Nat} {r:List α} (hr:es[i]?=some r) {ys:List α} {us:List Value} (hle:off+ys.length<=r.length) (hlen:us.length=ys.length) (ga:∀u∈us,u.oneCell'=true) (hR:∀x u,R x u->R' x u) (dN:∀(j:Nat) z u,ys[j]?=some z->us[j]?=some u->R' z u):
  an P (w.setRow g (cur.toList.take (i*tj.size+off)++us++cur.toList.drop (i*tj.size+off+us.length)).toArray) R' e (es.set i (setCells r off ys)) (.slice (some ⟨g,0,none⟩) n c):=by
 obtain⟨ie,xs,k1,k2,k3,k4,k5,k6⟩:=h;rw[pf]at k1;injection k1 with k1;subst k1;rcases k3.2 with⟨k7,_⟩ | ⟨g',cap,Ds,k7,_,k8,k9,Kj,Fv,Hv⟩
 ·cases k7
 injection k7 with k7 kn kc;injection k7 with k7;injection k7 with k7;subst k7 kn kc;rw[hg]at k8;injection k8 with k8;injection k8 with k8;subst k8;have hi:=ah hr;have nP:=k4 r (aj hr);have IA:i*tj.size+tj.size<=es.length*tj.size:=by rw[<-bR];exact ba _ hi
 have Hw:es.length*tj.size<=cur.size:=by rw[Fv];exact ba _ k9
 have FW:xs.length=es.length*tj.size:=k3.1;have BC:=fun j=>j7 cur.toList us (i*tj.size+off) j (by simp;omega);have IB:=fun j=>b8 us xs (i*tj.size+off) j (by omega);refine⟨tj,setCells xs (i*tj.size+off) us,pf,k2,⟨by rw[bL,FW,aF],.inr ⟨g,c,_,by rw[aF],bd _,setRow_heap w g cur _ e (0,0) hg,by rw[aF];exact k9,Kj,?_,?_⟩⟩,?_,?_,?_⟩
 ·simp only[lV,bZ,cu,nI,Tk];rw[Fv]at *;omega
 ·apply fj;intro j;rw[cB];simp only[aF];split
  ·rename_i hj;rw[BC,IB];split
   ·rfl
   rw[<-Hv,gY hj]
  rename_i hj;rw[dI];rw[bL,FW];omega
 ·intro q Az;rcases cw Az with h | h
  ·exact k4 q h
  rw[h,bL];exact nP
 ·intro u hu;obtain⟨j,hj⟩:=cf.1 hu;rw[IB]at hj;split at hj
  ·exact ga u (aj hj)
  exact k5 u (aj hj)
 intro a' q j z kY hz;have Fw:q.length=tj.size:=by
  rcases cw (aj kY) with h | h
  ·exact k4 q h
  rw[h,bL];exact nP
 have kX:=ah hz;rw[IB];by_cases Dt:a'=i
 ·subst Dt;rw[aP hi]at kY;injection kY with kY;subst kY;rw[b8 _ _ _ _ (by omega)]at hz;split at hz
  ·rename_i iR;rw[ae (by omega),show a'*tj.size+j-(a'*tj.size+off)=j-off by omega];have MU:=ah hz;exact⟨us[j-off]'(by omega),aM _,dN _ z _ hz (aM _)⟩
  rename_i iR;rw[af (by omega)];obtain⟨u,hu,jb⟩:=k6 _ _ _ _ hr hz;exact⟨u,hu,hR _ _ jb⟩
 rw[bw (fun e=>Dt e.symm)]at kY;have bO:¬(i*tj.size+off<=a'*tj.size+j/\a'*tj.size+j<i*tj.size+off+us.length):=by
  rintro⟨h1,h2⟩;rcases lW Dt with h | h
  ·have:=ba tj.size (dy h);rw[bR]at this;omega
  have:=ba tj.size (dy h);rw[bR]at this;omega
 rw[af bO];obtain⟨u,hu,jb⟩:=k6 _ _ _ _ kY hz;exact⟨u,hu,hR _ _ jb⟩
theorem an.block{P:Program}{w:World}{R:α->Value->Prop}{es:List (List α)}{g n:Nat}(h:an P w R e es (.slice (some ⟨g,0,none⟩) n c))(pf:P.info? e=some tj):∃cur:Array Value,w.heap[g]?=some (.cells cur e (0,0))/\es.length*tj.size<=cur.size/\(∀r∈es,r.length=tj.size)/\0<tj.size:=by
 obtain⟨ie,xs,k1,k2,k3,k4,k5,k6⟩:=h;rw[pf]at k1;injection k1 with k1;subst k1;rcases k3.2 with⟨k7,_⟩ | ⟨g',cap,Ds,k7,_,k8,k9,Kj,Fv,Hv⟩
 ·cases k7
 injection k7 with k7 kn kc;injection k7 with k7;injection k7 with k7;subst k7;exact⟨Ds,k8,by rw[Fv];exact ba _ k9,k4,k2⟩
theorem ed{g o n:Nat}{p:Option Nat}{k:Nat}:bH (.slice (some ⟨g,o,p⟩) n c)=some k↔k=g:=by
 simp only[bH,Option.some.injEq];exact⟨fun h=>h.symm,fun h=>h.symm⟩
theorem kU.yH{P:Program}{w:World}{R:HX->Value->Prop}{es:List (List HX)}{v:Value}(hS:kU w es v)(h:an P w R e es v):
  an P w (fun x u=>R x u/\∀e' kS,x=.row e' kS->∀g b,bH v=some g->bH u=some b->b≠g) e es v:=by
 obtain⟨i,xs,h1,h2,h3,h4,h5,h6⟩:=h;refine⟨i,xs,h1,h2,h3,h4,h5,fun a r j x ha hj=>?_⟩;obtain⟨u,hu,hr⟩:=h6 a r j x ha hj;refine⟨u,hu,hr,fun e' kS hx g b hg hb=>?_⟩;subst hx;have nP:=h4 r (aj ha);rcases h3.2 with⟨hn,hz⟩ | ⟨g',cap,cur,hv,_,wI,k1,k2,k3,k4⟩
 ·have:=(cL.1 ha).1;omega
 rw[hv]at hg;obtain rfl:=ed.1 hg;refine hS.top g a j u b (by rw[hv];rfl) ⟨r,e',kS,_,_,_,ha,hj,wI,?_⟩ hb;rw[nP];rw[<-k4,cB]at hu;split at hu
 ·simpa using hu
 cases hu
theorem aU.Nz{A:jR}{V L S:Nat->Prop}{rho:Nat->Value}{s:AS}{a:Act}{w:World}(sim:aU A V L S rho s a w)(hC:aL A.C){id:Nat}(hL:L id){es:List (List HX)}(ai:s.h id=.ai e es){g n:Nat}(hg:rho id=.slice (some ⟨g,0,none⟩) n c)(pf:A.C.P.info? e=some tj)
  {i off:Nat} {r:List HX} (hr:es[i]?=some r) (hle:off+1<=r.length) {x:AV} {u:Value} (ga:u.oneCell'=true) (hx:aE S w A.C.P L rho s.h x u):
  ∃cur:Array Value,w.heap[g]?=some (.cells cur e (0,0))/\i*tj.size+off+1<=cur.size/\aU A V L S rho ⟨s.t,ax s.h id (.ai e (es.set i (r.set off (.av x))))⟩ a (w.setRow g (cur.toList.take (i*tj.size+off)++[u]++cur.toList.drop (i*tj.size+off+1)).toArray):=by
 have hh:=sim.hp id hL;rw[ai]at hh;obtain⟨hR,hS⟩:=hh;rw[hg]at hR hS;obtain⟨cur,mJ,hsz,hlen,hpos⟩:=hR.block pf;have hi:=ah hr;have nP:=hlen r (aj hr);have IA:i*tj.size+tj.size<=es.length*tj.size:=by rw[<-bR];exact ba _ hi
 have cc:∀k j v,bI (w.setRow g (cur.toList.take (i*tj.size+off)++[u]++cur.toList.drop (i*tj.size+off+1)).toArray) (es.set i (r.set off (.av x))) g k j v->bI w es g k j v:=by
  rintro k j v ⟨q,e',kS,c',KX,m',h1,h2,h3,h4⟩;rw[setRow_heap w g cur _ e (0,0) mJ]at h3;injection h3 with h3;injection h3 with h3 h3' NA;have kX:=ah h2;have Fw:q.length=tj.size:=by
   rcases cw (aj h1) with h | h
   ·exact hlen q h
   rw[h,aF];exact nP
  have key:∀p,p≠i*tj.size+off->c'[p]?=some v->cur[p]?=some v:=fun p hp h=>by
   rw[<-h3]at h;have h:(cur.toList.take (i*tj.size+off)++[u]++cur.toList.drop (i*tj.size+off+1))[p]?=some v:=by simpa using h
   have h2:=j7 cur.toList [u] (i*tj.size+off) p (by simp;omega);simp only[nJ]at h2;rw[h2,af (by omega)]at h;simpa using h
  by_cases NB:k=i
  ·subst NB;rw[aP hi]at h1;injection h1 with h1;subst h1;have MU:j≠off:=fun e0=>by
    subst e0;rw[aP (by omega)]at h2;injection h2 with h2;cases h2
   rw[bw (fun e=>MU e.symm)]at h2;refine⟨r,e',kS,cur,_,_,hr,h2,mJ,?_⟩;rw[Fw]at h4;rw[nP];exact key _ (by omega) h4
  rw[bw (fun e=>NB e.symm)]at h1;refine⟨q,e',kS,cur,_,_,h1,h2,mJ,?_⟩;refine key _ ?_ h4;rw[Fw];intro he;rcases lW NB with h | h
  ·have:=ba tj.size (dy h);rw[bR]at this;omega
  have:=ba tj.size (dy h);rw[bR]at this;omega
 refine⟨cur,mJ,by omega,?_⟩;refine sim.vf hC id hL (by rw[ai];trivial) _ (fun e' h=>by rw[ai];exact h) _ (setRow_os w g _) (setRow_tape w g _) (setRow_output w g _) (setRow_size w g _) (fun k hk=>setRow_other w g k _ fun e=>hk (by rw[hg,e];rfl)) (fun T=>?_) (fun k hk=>?_)
 ·show an _ _ _ _ _ (rho id)/\kU _ _ (rho id);rw[hg];refine⟨(hS.yH hR).stored pf mJ (ys:=[.av x]) (us:=[u]) hr hle rfl (by simpa using ga) (fun y v hy=>?_) (fun j z v hz hv=>?_),?_⟩
  ·cases y with
   | av y=>exact aE.bA T hy.1
   | row e' kS=>exact an.bA hy.1 (fun k hk=>setRow_other w g k _ (hy.2 _ _ rfl g k rfl hk)) (fun x u hu=>hu.mono T.hS T.keep)
  ·cases j with
   | zero=>simp at hz hv;subst hz hv;exact aE.bA T hx
   | succ j=>simp at hz
  exact⟨fun g' k j v b h1 h2 h3=>by
   obtain rfl:=ed.1 h1;exact hS.top _ k j v b h1 (cc k j v h2) h3,fun g' k j k' j' v v' b h1 h2 h3 h4 h5=>by
   obtain rfl:=ed.1 h1;exact hS.dis _ k j k' j' v v' b h1 (cc k j v h2) (cc k' j' v' h3) h4 h5⟩
 rw[ai];rcases hk with hk | ⟨cs,g',h,_⟩ | ⟨e',bW,g',k',j,v,h1,h2,h3,h4⟩ | ⟨_,_,_,_,_,h,_⟩
 ·exact .inl hk
 ·cases h
 rotate_left
 ·cases h
 injection h1 with h1 mP;subst h1 mP;have nG:=h2;rw[hg]at nG;obtain rfl:=ed.1 nG;exact .inr (.inr (.inl ⟨_,_,_,_,_,_,rfl,h2,cc _ _ _ h3,h4⟩))
theorem Du{c0:Array Value}{off:Nat}{u v:Value}(h:off<c0.size):((c0.setIfInBounds off u).toList.take off++(#[v]:Array Value).toList++(c0.setIfInBounds off u).toList.drop (off+(#[v]:Array Value).toList.length)).toArray=c0.setIfInBounds off v:=by
 apply gV;rw[uU,uU,List.toList_toArray];apply fj;intro j;have hl:c0.toList.length=c0.size:=by simp
 by_cases e:j=off
 ·subst e;rw[aP (by omega),gX,bY (by simp;omega)];simp[jV (Nat.le_of_lt h)]
 rw[bw (fun h=>e h.symm)];by_cases hj:j<off
 ·rw[gX,bQ (by simp;omega),cB,ae hj,bw (by omega)]
 rw[gX,bY (by simp;omega)];simp only[cu,aF,hl,jV (Nat.le_of_lt h)];obtain⟨k,rfl⟩:∃k,j=off+1+k:=⟨j-off-1,by omega⟩;rw[show off+1+k-off=k+1 by omega];simp only[uV,aw,qJ,cD,jU,fh];rw[bw (by omega)]
theorem Dv{A:jR}{o:Oper}(t:TypeId)(x y:Operand)(aq:o.op=.store t x y):eD A o:=by
 intro V L S rho s a w K next Q hC sim hV hd hq hn hnext
 simp only[aZ,aq]at hq;have hx:=aH sim x fun j hj=>hV j (by simp[aq,Op.operands,hj]);have hy:=aH sim y fun j hj=>hV j (by simp[aq,Op.operands,hj]);split at hq
 ·exact hq.elim
 rename_i ti hT;have dr:=hC.eL t ti hT;split at hq
 ·rename_i id off Dw;rw[Dw]at hx;split at hq
  ·rename_i cs aA;obtain⟨hL,g,hg,hv⟩:=hx.dt (by rw[aA];trivial);have main:∀(S2:Nat->Prop) (s2:AS) (dB:List AV) (ws:List AV),aU A V L S2 rho s2 a w->s2.h id=.box cs->(a.eval y).cells.size=ti.size->ws.length=ti.size->off+ti.size<=cs.length->(∀u∈(a.eval y).cells.toList,u.oneCell'=true)->
     (∀(j:Nat) z u,ws[j]?=some z->(a.eval y).cells[j]?=some u->aE S2 w A.C.P L rho s2.h z u)->dB.length=cs.length->(∀j,dB[j]?=if off<=j/\j<off+ws.length then ws[j-off]? else cs[j]?)->
     ∃w',(execOp a.eval o).run A.C.P w=.ok .skip w'/\aU A V L S2 rho ⟨s2.t,ax s2.h id (.box dB)⟩ a w':=by
    intro S2 s2 dB ws aJ o9 hsz KY hle ga dN hlen rK;have hh:=aJ.hp id hL;rw[o9]at hh;obtain⟨g',ty,c,k1,k2,k3,k4⟩:=hh;rw[hg]at k1;injection k1 with k1;injection k1 with k1;injection k1 with k1;subst k1;have hrun:=ja (w:=w) dr g off ty c (a.eval y) k2 hsz (by omega) ga;refine⟨_,hY aq (by rw[hv];exact hrun),?_⟩;refine aJ.write hC id hL (by rw[o9];trivial) (.box dB) (fun _ h=>by cases h) _ (by simp) (by simp) (by simp) (by simp) (fun k hk=>setRow_other w g k _ fun e=>hk (by rw[hg,e];rfl)) fun T=>?_;have iQ:(a.eval y).cells.toList.length=ti.size:=by simpa using hsz
    refine⟨g,ty,_,hg,setRow_heap w g c _ ty (0,0) k2,by simp[iQ];omega,fun j z u hj hu=>?_⟩;have ni:(c.toList.take off++(a.eval y).cells.toList++c.toList.drop (off+(a.eval y).cells.toList.length))[j]?=some u:=by simpa using hu
    rw[j7 _ _ _ _ (by rw[iQ];simpa [k3] using hle)]at ni;rw[rK j]at hj;rw[iQ]at ni;rw[KY]at hj;split at hj
    ·rename_i iR;rw[ae iR]at ni;have NC:(a.eval y).cells[j-off]?=some u:=by simpa using ni
     exact⟨ga u (aj ni),(dN _ z u hj NC).bA T⟩
    rename_i iR;rw[af iR]at ni;have NC:c[j]?=some u:=by simpa using ni
    obtain⟨h5,h6⟩:=k4 _ _ _ hj NC;exact⟨h5,h6.bA T⟩
   split at hq
   ·rename_i nU;obtain⟨yv,fz,S2,hq,aJ,hrep,nX,hF,wU⟩:=e8 hC sim (kM.refl s.h) hy hq;split at hq
    ·rename_i ys;split at hq
     ·rename_i eA;simp only[qK]at eA;obtain⟨⟨e1,e2⟩,e3⟩:=eA;have e1:=dC e1;have e2:=gi e2;obtain⟨vs,wV,h1,h2,h3⟩:=hrep.kW;have iQ:(a.eval y).cells=vs:=by rw[wV];rfl
      obtain⟨w',hrun,cF⟩:=main S2 _ (setCells cs off (ys.map Kd)) (ys.map Kd) aJ (by simp only;rw[iD e3];exact aA) (by rw[iQ];omega) (by simpa using e1) e2 (by rw[iQ];exact h2)
       (fun j z u hj hu=>by
        rw[iQ]at hu;rw[ao]at hj;obtain⟨z',hz,rfl⟩:=az.1 hj;exact va (h3 j z' u hz hu)) (bL _ _ _) (fun j=>b8 _ _ _ _ (by simpa [e1] using e2))
      refine jx hrun (hnext _ _ _ S2 rho _ _ hq ?_);have:=cF.value o.dst hd .junk undef (.junk _);simp only[bJ,app];exact this
     exact hq.elim
    exact hq.elim
   rename_i nU;split at hq
   ·rename_i eA;simp only[qK]at eA;obtain⟨⟨e1,e2⟩,e3⟩:=eA;have e1:=gi e1;have e2:=dC e2;have h1:=To sim e3 hy;have iQ:=cells_one h1;obtain⟨w',hrun,cF⟩:=main S s (cs.set off (ev s.t y)) [ev s.t y] sim aA (by rw[iQ,e2];rfl) (by rw[e2];rfl) (by omega) (by rw[iQ];simpa using h1)
     (fun j z u hj hu=>by
      rw[iQ]at hu;cases j with
      | zero=>simp at hj hu;subst hj hu;exact hy
      | succ j=>simp at hj) (by simp) (fun j=>FV _ _ _ _ (by omega))
    refine jx hrun (hnext _ _ _ S rho _ _ hq ?_);exact cF.value o.dst hd .junk undef (.junk _)
   exact hq.elim
  exact hq.elim
 ·rename_i id i off Dw;rw[Dw]at hx;split at hq
  ·rename_i e es ai;obtain⟨hL,g,n,c,tj,hg,pf,hv⟩:=hx.rI ai;obtain⟨r,hr,hq⟩:=hq;obtain⟨yv,fz,S2,hq,aJ,hrep,nX,hF,wU⟩:=e8 hC sim (kM.refl s.h) hy hq;split at hq
   ·rename_i ys Dx;split at hq
    ·rename_i eA;simp only[qK]at eA;obtain⟨⟨e1,e2⟩,e3⟩:=eA;have e1:=dC e1;have e2:=gi e2;obtain⟨ND,ga,dN⟩:=qc Dx hrep;have o9:(app s.h fz) id=.row e es:=by rw[iD e3];exact ai
     have hh:=aJ.hp id hL;have hh:cd S2 w A.C.P L rho (app s.h fz) id ((app s.h fz) id):=hh;rw[o9]at hh;obtain⟨ie,xs,k1,k2,k3,k4,k5,k6⟩:=hh;rw[pf]at k1;injection k1 with k1;subst k1;rw[hg]at k3;rcases k3.2 with⟨k7,_⟩ | ⟨g',cap,cur,k7,_,k8,k9,Kj,Fv,Hv⟩
     ·cases k7
     injection k7 with k7 kn kc;injection k7 with k7;injection k7 with k7;subst k7 kn kc;have hi:=ah hr;have nP:=k4 r (aj hr);have IA:i*tj.size+tj.size<=es.length*tj.size:=by rw[<-bR];exact ba _ hi
     have Hw:es.length*tj.size<=cur.size:=by rw[Fv];exact ba _ k9
     have iQ:(a.eval y).cells.toList.length=ti.size:=by simp;omega
     have hrun:=ja (w:=w) dr g (i*tj.size+off) e cur (a.eval y) k8 (by omega) (by omega) ga;refine jx (hY aq (by rw[hv];exact hrun)) (hnext _ _ _ S2 rho _ _ hq ?_);have cF:aU A V L S2 rho ⟨s.t,ax (app s.h fz) id (.row e (es.set i (setCells r off ys)))⟩ a (w.setRow g (cur.toList.take (i*tj.size+off)++(a.eval y).cells.toList++cur.toList.drop (i*tj.size+off+(a.eval y).cells.toList.length)).toArray):=by
      refine aJ.write hC id hL (by show (app s.h fz id).live;rw[o9];trivial) (.row e (es.set i (setCells r off ys))) (fun e' h=>by show (app s.h fz id).fD=_;rw[o9];exact h) _ (setRow_os w g _) (setRow_tape w g _) (setRow_output w g _) (setRow_size w g _)
       (fun k hk=>setRow_other w g k _ fun e=>hk (by rw[hg,e];rfl)) (fun T=>?_)
      show an _ _ _ _ _ (rho id);rw[hg];have FW:xs.length=es.length*tj.size:=k3.1;have mJ:∀(j:Nat) u,xs[j]?=some u->cur.toList[j]?=some u:=fun j u hj=>by
       rw[<-Hv]at hj;rw[cB]at hj;split at hj
       ·exact hj
       cases hj
      have BC:=fun j=>j7 cur.toList (a.eval y).cells.toList (i*tj.size+off) j (by rw[iQ];simp;omega);have IB:=fun j=>b8 (a.eval y).cells.toList xs (i*tj.size+off) j (by rw[iQ,FW];omega);refine⟨tj,setCells xs (i*tj.size+off) (a.eval y).cells.toList,pf,k2,⟨by rw[bL,FW,aF],.inr ⟨g,c,_,by rw[aF],bd _,setRow_heap w g cur _ e (0,0) k8,by rw[aF];exact k9,Kj,?_,?_⟩⟩,?_,?_,?_⟩
      ·simp only[lV,bZ,cu,nI,Tk];rw[Fv]at *;simp at iQ;omega
      ·apply fj;intro j;rw[cB];simp only[aF];split
       ·rename_i hj;rw[BC,IB];split
        ·rfl
        rw[<-Hv,gY hj]
       rename_i hj;rw[dI];rw[bL,FW];omega
      ·intro q Az;rcases cw Az with h | h
       ·exact k4 q h
       rw[h,bL];exact nP
      ·intro u hu;obtain⟨j,hj⟩:=cf.1 hu;rw[IB]at hj;split at hj
       ·exact ga u (aj hj)
       exact k5 u (aj hj)
      intro a' q j z kY hz;have Fw:q.length=tj.size:=by
       rcases cw (aj kY) with h | h
       ·exact k4 q h
       rw[h,bL];exact nP
      have kX:=ah hz;rw[IB];by_cases Dt:a'=i
      ·subst Dt;rw[aP hi]at kY;injection kY with kY;subst kY;rw[b8 _ _ _ _ (by omega)]at hz;split at hz
       ·rename_i iR;rw[ae (by omega),show a'*tj.size+j-(a'*tj.size+off)=j-off by omega];obtain⟨u,hu⟩:=fJ ND.symm (ah hz);exact⟨u,by simpa using hu,(dN _ z u hz hu).mono T.hS T.keep⟩
       rename_i iR;rw[af (by omega)];obtain⟨u,hu,jb⟩:=k6 _ _ _ _ hr hz;exact⟨u,hu,jb.mono T.hS T.keep⟩
      rw[bw (fun e=>Dt e.symm)]at kY;have bO:¬(i*tj.size+off<=a'*tj.size+j/\a'*tj.size+j<i*tj.size+off+(a.eval y).cells.toList.length):=by
       rintro⟨h1,h2⟩;rcases lW Dt with h | h
       ·have:=ba tj.size (dy h);rw[bR]at this;omega
       have:=ba tj.size (dy h);rw[bR]at this;omega
      rw[af bO];obtain⟨u,hu,jb⟩:=k6 _ _ _ _ kY hz;exact⟨u,hu,jb.mono T.hS T.keep⟩
     have:=cF.value o.dst hd .junk undef (.junk _);simp only[bJ,app];exact this
    exact hq.elim
   exact hq.elim
  ·rename_i e es ai;obtain⟨hL,g,n,c,tj,hg,pf,hv⟩:=hx.lZ ai;obtain⟨r,hr,hq⟩:=hq;split at hq
   ·exact hq.elim
   split at hq
   ·rename_i eA;simp only[qK]at eA;obtain⟨⟨e1,e2⟩,e3⟩:=eA;have e1:=gi e1;have e2:=dC e2;have h1:=To sim e3 hy;have iQ:=cells_one h1;obtain⟨cur,mJ,hsz,cF⟩:=sim.Nz hC hL ai hg pf hr e1 h1 hy;have hrun:=ja (w:=w) dr g (i*tj.size+off) e cur (a.eval y) mJ (by rw[iQ,e2];rfl) (by omega) (by rw[iQ];simpa using h1);rw[iQ]at hrun;refine jx (hY aq (by rw[hv];exact hrun)) (hnext _ _ _ S rho _ _ hq ?_);exact cF.value o.dst hd .junk undef (.junk _)
   exact hq.elim
  exact hq.elim
 ·rename_i id Dw;rw[Dw]at hx;split at hq
  ·rename_i c0 ty c hcell nU;obtain⟨hL,hv⟩:=hx.bu (by rw[hcell];trivial);split at hq
   ·rename_i eA;simp only[qK]at eA;obtain⟨e2,e3⟩:=eA;have e2:=dC e2;have h1:=To sim e3 hy;have iQ:=cells_one h1;have hh:=sim.hp id hL;rw[hcell]at hh;obtain⟨g,off,u,k1,k2,k3,k4,k5⟩:=hh;have hrun:=ja (w:=w) dr g off ty _ (a.eval y) k3 (by rw[iQ,e2];rfl) (by rw[bD];omega) (by rw[iQ];simpa using h1);rw[iQ,Du k2]at hrun;refine jx (hY aq (by rw[hv,k1];exact hrun)) (hnext _ _ _ S rho _ _ hq ?_);have cF:=sim.write hC id hL (by rw[hcell];trivial) (.cell c0 ty (ev s.t y)) (fun _ h=>by cases h) (w.setRow g (c0.setIfInBounds off (a.eval y))) (by simp) (by simp) (by simp) (by simp) (fun k hk=>setRow_other w g k _ fun e=>hk (by rw[k1,e];rfl)) fun T=>
     ⟨g,off,a.eval y,k1,k2,setRow_heap w g _ _ ty (0,0) k3,h1,hy.bA T⟩
    exact cF.value o.dst hd .junk undef (.junk _)
   exact hq.elim
  exact hq.elim
 exact hq.elim
end Go.AM
namespace Go.AM
open Go.RowKit
variable {A:jR}
theorem IC{o:Oper}(c:Call)(aq:o.op=.call c)(hc:c.callee=.builtin .len):eD A o:=by
 intro V L S rho s a w K next Q hC sim hV hd hq _ hnext
 obtain⟨callee,args,argTypes⟩:=c;simp only at hc;subst hc;simp only[aZ,aq,Ta,dK]at hq;split at hq
 ·rename_i x t hargs Dy;have hx:=aH sim x fun j hj=>hV j (by simp[aq,Op.operands,Call.operands,hj];rw[<-hj];exact fm.1 (by rw[hargs];simp));have e1:args=#[x]:=by rw[<-lX (xs:=args),hargs]
  have e2:argTypes=#[t]:=by rw[<-lX (xs:=argTypes),Dy]
  subst e1 e2;split at hq
  ·rename_i size bytes zero eq hT;have dr:=(hC.eL t _ hT).under;simp only at dr;split at hq
   ·rename_i st wL;rw[wL]at hx;exact ar sim hd hnext hq (.p _ _ (.im _)) (by simp[execOp,aq,resolve,invoke,builtin,hx.bc,Builtin.len_,run_underlying dr,goInt])
   exact hq.elim
  ·rename_i e size bytes zero eq hT;have dr:=(hC.eL t _ hT).under;simp only at dr;have fin:∀(es:List (List PV)) ad c,K (.p (.im (.int .i64 es.length))) [] none->a.eval x=.slice ad es.length c->o.wp A.C.P a w next Q:=fun es ad c hq he=>
    ar sim hd hnext hq (.p _ _ (.im _)) (by simp[execOp,aq,resolve,invoke,builtin,he,Builtin.len_,run_underlying dr,goInt])
   split at hq
   ·rename_i m hm;unfold hlen at hm;split at hm
    ·rename_i id wJ;rw[wJ]at hx;split at hm
     ·rename_i e' es ai;injection hm with hm;subst hm;obtain⟨hL,hv⟩:=hx.bu (by rw[ai];trivial);have hh:=sim.hp id hL;rw[ai]at hh;obtain⟨⟨i,xs,_,_,h3,_⟩,_⟩:=hh;obtain⟨ad,c,NF⟩:∃ad c,rho id=.slice ad es.length c:=by
       rcases h3.2 with⟨h4,h5⟩ | ⟨g,cap,cur,h4,_⟩
       ·exact⟨none,0,by rw[h4,h5]⟩
       exact⟨_,cap,h4⟩
      exact ar sim hd hnext hq (.p _ _ (.im _)) (by simp[execOp,aq,resolve,invoke,builtin,hv,NF,Builtin.len_,run_underlying dr,goInt])
     cases hm
    ·rename_i id lo hi wJ;rw[wJ]at hx;split at hm
     ·rename_i e' es ai;injection hm with hm;subst hm;obtain⟨_,n,cp,ad,Ny,_,_,_,_,_,hval⟩:=hx.rJ ai;exact ar sim hd hnext hq (.p _ _ (.im _)) (by simp[execOp,aq,resolve,invoke,builtin,hval,Builtin.len_,run_underlying dr,goInt])
     cases hm
    cases hm
   unfold dV at hq;split at hq
   ·rename_i es wJ;rw[wJ]at hx;obtain⟨ad,c,hv,_⟩:=hx.cb.j5;exact fin es ad c hq hv
   ·rename_i wJ;rw[wJ]at hx;have:a.eval x=.slice none 0 0:=by cases h:a.eval x<;>rw[h]at hx<;>cases hx;rfl
    exact fin [] none 0 hq this
   ·rename_i id wJ;rw[wJ]at hx;split at hq
    ·rename_i e' es ai;obtain⟨hL,hv⟩:=hx.bu (by rw[ai];trivial);have hh:=sim.hp id hL;rw[ai]at hh;obtain⟨i,xs,_,_,h3,_⟩:=hh;rcases h3.2 with⟨h4,h5⟩ | ⟨g,cap,cur,h4,_⟩
     ·exact fin es none 0 hq (by rw[hv,h4,h5])
     exact fin es _ cap hq (by rw[hv,h4])
    ·rename_i es ai;obtain⟨hL,hv⟩:=hx.bu (by rw[ai];trivial);have hh:=sim.hp id hL;rw[ai]at hh;obtain⟨ad,c,h4,_⟩:=ay.j5 hh;exact fin es ad c hq (by rw[hv,h4])
    exact hq.elim
   exact hq.elim
  ·rename_i kt et size bytes zero eq hT;have dr:=(hC.eL t _ hT).under;simp only at dr;split at hq
   ·rename_i id hid;split at hq
    case h_2=>exact hq.elim
    rename_i mk es hm;rw[hid]at hx;obtain⟨hL,hv⟩:=hx.bu (by rw[hm];trivial);have hh:=sim.hp id hL;rw[hm]at hh;obtain⟨g,ms,clock,h1,h2,h3,_⟩:=hh;exact ar sim hd hnext hq (.p _ _ (.im _)) (by simp[execOp,aq,resolve,invoke,builtin,hv,h1,Builtin.len_,run_underlying dr,uW h2,h3,goInt])
   ·rename_i mk es hid;rw[hid]at hx;obtain⟨g,ms,clock,hv,_,h2,h3⟩:=hx.cb.yt;exact ar sim hd hnext hq (.p _ _ (.im _)) (by simp[execOp,aq,resolve,invoke,builtin,hv,Builtin.len_,run_underlying dr,uW h2,h3.1,goInt])
   exact hq.elim
  exact hq.elim
 exact hq.elim
theorem ID{o:Oper}(c:Call)(aq:o.op=.call c)(hc:c.callee=.builtin .min):eD A o:=by
 intro V L S rho s a w K next Q hC sim hV hd hq _ hnext
 obtain⟨callee,args,argTypes⟩:=c;simp only at hc;subst hc;simp only[aZ,aq,Ta,dK]at hq;split at hq
 ·rename_i x y hargs;have hx:=aH sim x fun j hj=>hV j (by simp[aq,Op.operands,Call.operands,hj];rw[<-hj];exact fm.1 (by rw[hargs];simp));have hy:=aH sim y fun j hj=>hV j (by simp[aq,Op.operands,Call.operands,hj];rw[<-hj];exact fm.1 (by rw[hargs];simp));have e1:args=#[x,y]:=by rw[<-lX (xs:=args),hargs]
  subst e1;split at hq
  ·rename_i k m k' n h1 h2;rw[h1]at hx;rw[h2]at hy;exact ar sim hd hnext hq (.p _ _ (.im _)) (by
    simp[execOp,aq,resolve,invoke,builtin,hx.bc,hy.bc,Builtin.min_,Builtin.min2];rw[Int.min_def];split<;>split<;>omega)
  exact hq.elim
 exact hq.elim
theorem wW{P:Program}{w:World}(k k':IntKind)(m n:Int):(Builtin.max2 (.int k m) (.int k' n)).run P w=.ok (.int k (max m n)) w:=by
 simp only[Builtin.max2,ct];rw[Int.max_def];by_cases h:n>m
 ·rw[ae h,ae (by omega)]
 rw[af h];by_cases h2:m<=n
 ·rw[ae h2,show m=n by omega]
 rw[af h2]
theorem IE{o:Oper}(c:Call)(aq:o.op=.call c)(hc:c.callee=.builtin .max):eD A o:=by
 intro V L S rho s a w K next Q hC sim hV hd hq _ hnext
 obtain⟨callee,args,argTypes⟩:=c;simp only at hc;subst hc;simp only[aZ,aq,Ta,dK]at hq;split at hq
 ·rename_i x y hargs;have hx:=aH sim x fun j hj=>hV j (by simp[aq,Op.operands,Call.operands,hj];rw[<-hj];exact fm.1 (by rw[hargs];simp));have hy:=aH sim y fun j hj=>hV j (by simp[aq,Op.operands,Call.operands,hj];rw[<-hj];exact fm.1 (by rw[hargs];simp));have e1:args=#[x,y]:=by rw[<-lX (xs:=args),hargs]
  subst e1;split at hq
  ·rename_i k m k' n h1 h2;rw[h1]at hx;rw[h2]at hy;exact ar sim hd hnext hq (.p _ _ (.im _)) (by
    simp[execOp,aq,resolve,invoke,builtin,hx.bc,hy.bc,Builtin.max_,Builtin.max2];rw[Int.max_def];split<;>split<;>omega)
  exact hq.elim
 ·rename_i x y z hargs;have hx:=aH sim x fun j hj=>hV j (by simp[aq,Op.operands,Call.operands,hj];rw[<-hj];exact fm.1 (by rw[hargs];simp));have hy:=aH sim y fun j hj=>hV j (by simp[aq,Op.operands,Call.operands,hj];rw[<-hj];exact fm.1 (by rw[hargs];simp));have hz:=aH sim z fun j hj=>hV j (by simp[aq,Op.operands,Call.operands,hj];rw[<-hj];exact fm.1 (by rw[hargs];simp));have e1:args=#[x,y,z]:=by rw[<-lX (xs:=args),hargs]
  subst e1;split at hq
  ·rename_i k0 m0 k1 m1 k2 m2 g0 g1 g2;rw[g0]at hx;rw[g1]at hy;rw[g2]at hz;exact ar sim hd hnext hq (.p _ _ (.im _)) (by
    simp[execOp,aq,resolve,invoke,builtin,hx.bc,hy.bc,hz.bc,Builtin.max_,wW])
  exact hq.elim
 ·rename_i x y z u v hargs;have hx:=aH sim x fun j hj=>hV j (by simp[aq,Op.operands,Call.operands,hj];rw[<-hj];exact fm.1 (by rw[hargs];simp));have hy:=aH sim y fun j hj=>hV j (by simp[aq,Op.operands,Call.operands,hj];rw[<-hj];exact fm.1 (by rw[hargs];simp));have hz:=aH sim z fun j hj=>hV j (by simp[aq,Op.operands,Call.operands,hj];rw[<-hj];exact fm.1 (by rw[hargs];simp));have hu:=aH sim u fun j hj=>hV j (by simp[aq,Op.operands,Call.operands,hj];rw[<-hj];exact fm.1 (by rw[hargs];simp));have hv:=aH sim v fun j hj=>hV j (by simp[aq,Op.operands,Call.operands,hj];rw[<-hj];exact fm.1 (by rw[hargs];simp));have e1:args=#[x,y,z,u,v]:=by rw[<-lX (xs:=args),hargs]
  subst e1;split at hq
  ·rename_i k0 m0 k1 m1 k2 m2 k3 m3 k4 m4 g0 g1 g2 g3 g4;rw[g0]at hx;rw[g1]at hy;rw[g2]at hz;rw[g3]at hu;rw[g4]at hv;exact ar sim hd hnext hq (.p _ _ (.im _)) (by
    simp[execOp,aq,resolve,invoke,builtin,hx.bc,hy.bc,hz.bc,hu.bc,hv.bc,Builtin.max_,wW])
  exact hq.elim
 exact hq.elim
variable {V L:Nat->Prop} {rho:Nat->Value} {s:AS}
theorem tM{o:Oper}{S:Nat->Prop}{a:Act}{w:World}{K:KK}{next:Act->World->Prop}{Q:Exit->Act->World->Prop}{fz:List (Nat×AB)}(sim:aU A V L S rho ⟨s.t,app s.h fz⟩ a w)(hd:∀d,o.dst=some d->d<A.n)
  (hnext:∀v eff new S' rho' a' w',K v eff new->aU A (mG V o.dst) (nR L new (o.dst.getD 0)) S' rho' ⟨cU s.t o.dst v,app s.h eff⟩ a' w'->next a' w') {x:AV} {v:Value} (hq:K x fz none) (hv:aE S w A.C.P L rho (app s.h fz) x v)
  (hr:(execOp a.eval o).run A.C.P w=.ok (.value v) w):o.wp A.C.P a w next Q:=
 bS hr (hnext _ _ _ _ _ _ _ hq (sim.value o.dst hd x v hv))
theorem ay.FY{S:Nat->Prop}{w:World}{es:List (List PV)}{ad:Option Addr}{c l h sz:Nat}(hx:ay S w (.sl es) (.slice ad es.length c))(hl:l<=h)(hh:h<=es.length)(hc:es.length<=c)
  (hk:∀b off k,ad=some ⟨b,off,none⟩->(∀e∈es,e.length=k)->l<h->k=sz):ay S w (.sl ((es.take h).drop l)) (.slice (if c=l then ad else ad.map (·.add (l*sz))) (h-l) (c-l)):=by
 have hlen:((es.take h).drop l).length=h-l:=by simp;omega
 by_cases he:h-l=0
 ·have:(es.take h).drop l=[]:=cW (by omega);rw[this,he];exact .nil _ _
 obtain⟨Sq,c',hv,hle,bO⟩:=hx.j5;injection hv with e1 e2 e3;subst e1 e3;obtain⟨b,off,k,e4,hb,Dz,hcell⟩:=bO (by intro e;rw[e]at hh;simp at hh;omega);have PH:=hk b off k e4 Dz (by omega);subst e4;rw[af (by omega)];show ay S w _ (.slice (some (Addr.add ⟨b,off,none⟩ (l*sz))) (h-l) (c-l));rw[gW,<-hlen];have rK:∀(i:Nat) e,((es.take h).drop l)[i]?=some e->es[l+i]?=some e:=by
  intro i e hi;rw[fh,cB]at hi;split at hi
  ·exact hi
  cases hi
 refine .sl _ k b (off+l*sz) _ (fun i j=>(w.cell? ⟨b,off+l*sz+i*k+j,none⟩).getD undef) (by rw[hlen];omega) hb (fun e he=>Dz e (nH (qH he))) (fun i e j x h1 h2=>?_) fun i e j x h1 h2=>?_
 ·obtain⟨u,h3,h4,h5⟩:=hcell _ e j x (rK i e h1) h2;have:off+l*sz+i*k+j=off+(l+i)*k+j:=by rw[<-PH,jT];omega
  rw[this,h3];exact⟨rfl,h4⟩
 obtain⟨u,h3,h4,h5⟩:=hcell _ e j x (rK i e h1) h2;have:off+l*sz+i*k+j=off+(l+i)*k+j:=by rw[<-PH,jT];omega
 rw[this,h3];exact h5
theorem ep{P:Program}{w:World}(k:IntKind)(i:Int)(y:Nat)(code:BoundsCode)(h:0<=i/\i<=y):(Instr.sliceBound (.int k i) y code).run P w=.ok i.toNat w:=by
 simp[Instr.sliceBound,asIntOf,h.1,h.2]
theorem rL{S:Nat->Prop}{a:Act}{w:World}(_:aU A V L S rho s a w)(lo hi:Option Operand)(KZ:∀y,lo=some y->aE S w A.C.P L rho s.h (ev s.t y) (a.eval y))(K0:∀y,hi=some y->aE S w A.C.P L rho s.h (ev s.t y) (a.eval y)):
  ∀(isSlice:Bool) (len cap:Nat) (k:IntKind) (m:Int) (k':IntKind) (n:Int),len<=cap->(match lo with | some y=>ev s.t y | none=>.p (.im (.int .i64 0)))=.p (.im (.int k m))->(match hi with | some y=>ev s.t y | none=>.p (.im (.int .i64 len)))=.p (.im (.int k' n))->0<=m->m<=n->n<=len ->
   (Instr.sliceBounds isSlice len cap (lo.map a.eval) (hi.map a.eval) none).run A.C.P w=.ok (m.toNat,n.toNat,cap) w:=by
  intro isSlice len cap k m k' n Sr h1 h2 h3 h4 h5;have e2:∀y,hi=some y->a.eval y=.int k' n:=fun y hy=>by
   have:=K0 y hy;subst hy;rw[show ev s.t y=_ from h2]at this;exact this.bc
  have e1:∀y,lo=some y->a.eval y=.int k m:=fun y hy=>by
   have:=KZ y hy;subst hy;rw[show ev s.t y=_ from h1]at this;exact this.bc
  have nb:((n.toNat:Nat):Int)=n:=by omega
  cases hi with
  | some yh=>
   have e2:=e2 yh rfl;cases lo with
   | some yl=>
    have e1:=e1 yl rfl;cases isSlice<;>simp[Instr.sliceBounds,e1,e2,ep k' n cap _ ⟨by omega,by omega⟩,ep k m n.toNat _ ⟨h3,by omega⟩]
   | none=>
    have mP:m=0:=by simp at h1;exact h1.2.symm
    subst mP;cases isSlice<;>simp[Instr.sliceBounds,e2,ep k' n cap _ ⟨by omega,by omega⟩]
  | none=>
   have nG:n=len:=by simp at h2;exact h2.2.symm
   subst nG;cases lo with
   | some yl=>
    have e1:=e1 yl rfl;cases isSlice<;>simp[Instr.sliceBounds,e1,ep k m len _ ⟨h3,by omega⟩]
   | none=>
    have mP:m=0:=by simp at h1;exact h1.2.symm
    subst mP;cases isSlice<;>simp[Instr.sliceBounds]
theorem BI{o:Oper}(t:TypeId)(x:Operand)(lo hi:Option Operand)(aq:o.op=.slice t x lo hi none){S:Nat->Prop}{a:Act}{w:World}{K:KK}{next:Act->World->Prop}{Q:Exit->Act->World->Prop}(hC:aL A.C)(sim:aU A V L S rho s a w)
  (hV:∀j,(.tmp j)∈o.op.operands->V j) (hd:∀d,o.dst=some d->d<A.n) (hq:ef A.C (ev s.t) s.h t x lo hi K)
  (hnext:∀v eff new S' rho' a' w',K v eff new->aU A (mG V o.dst) (nR L new (o.dst.getD 0)) S' rho' ⟨cU s.t o.dst v,app s.h eff⟩ a' w'->next a' w'):o.wp A.C.P a w next Q:=by
 simp only[ef]at hq;have hx:=aH sim x fun j hj=>hV j (by simp[aq,Op.operands,hj]);have KZ:∀y,lo=some y->aE S w A.C.P L rho s.h (ev s.t y) (a.eval y):=fun y hy=>aH sim y fun j hj=>hV j (by simp[aq,Op.operands,hj,hy]);have K0:∀y,hi=some y->aE S w A.C.P L rho s.h (ev s.t y) (a.eval y):=fun y hy=>aH sim y fun j hj=>hV j (by simp[aq,Op.operands,hj,hy]);have bounds:∀(isSlice:Bool) (len cap:Nat) (k:IntKind) (m:Int) (k':IntKind) (n:Int),len<=cap->(match lo with | some y=>ev s.t y | none=>.p (.im (.int .i64 0)))=.p (.im (.int k m))->(match hi with | some y=>ev s.t y | none=>.p (.im (.int .i64 len)))=.p (.im (.int k' n))->0<=m->m<=n->n<=len ->
   (Instr.sliceBounds isSlice len cap (lo.map a.eval) (hi.map a.eval) none).run A.C.P w=.ok (m.toNat,n.toNat,cap) w:=by
  exact rL sim lo hi KZ K0
 split at hq
 ·rename_i size bytes zero eq hT;have dr:=(hC.eL t _ hT).under;simp only at dr;split at hq
  ·rename_i st wL;rw[wL]at hx;split at hq
   ·rename_i k m k' n h1 h2;obtain⟨⟨h3,h4,h5⟩,hq⟩:=hq;have hb:=bounds false st.size st.size k m k' n (aC _) h1 h2 h3 h4 h5;exact ar sim hd hnext hq (.p _ _ (.im _)) (by simp[execOp,aq,Instr.sliceAt,Instr.slice,hx.bc,run_underlying dr,hb])
   exact hq.elim
  exact hq.elim
 ·rename_i e size bytes zero eq hT;have dr:=(hC.eL t _ hT).under;simp only at dr;split at hq
  ·exact hq.elim
  rename_i te nf;obtain⟨ie,ze,hX,qT,_⟩:=(hC.eL e te nf).info;obtain⟨y,fz,S2,hq,aJ,hrep,nX,hF,wU⟩:=e8 hC sim (kM.refl s.h) hx hq;split at hq
  ·rename_i es;split at hq
   ·rename_i k m k' n h1 h2;obtain⟨⟨h3,h4,h5,h6⟩,hq⟩:=hq;obtain⟨ad,c,hv,hle,_⟩:=hrep.j5;have hb:=bounds true es.length c k m k' n hle h1 h2 h3 h4 h5;rw[hv]at hrep;refine tM aJ hd hnext hq (.p _ _ (hrep.FY (sz:=te.size) (l:=m.toNat) (h:=n.toNat) (by omega) (by omega) hle fun b off kk Kk iS dv=>?_)) ?_
    ·have hpos:0<es.length:=by omega
     have hm:es[0]∈es:=qL _;rw[<-iS _ hm,h6 _ hm]
    simp[execOp,aq,Instr.sliceAt,Instr.slice,hv,run_underlying dr,hb,Go.sizeOf,typeInfo,hX,qT]
   exact hq.elim
  exact hq.elim
 exact hq.elim
structure Flat(S:Nat->Prop)(w:World)(k:Nat)(es:List (List PV))(xs:List Value):Prop where
 len:xs.length=es.length*k
 row:∀r∈es,r.length=k
 one:∀u∈xs,u.oneCell'=true
 rep:∀(i:Nat) r (j:Nat) x,es[i]?=some r->r[j]?=some x->∃u,xs[i*k+j]?=some u/\ay S w x u
variable {k:Nat} {xs:List Value}
theorem Flat.mono{S S':Nat->Prop}{w w':World}{es:List (List PV)}(h:Flat S w k es xs)(hS:∀b,S b->S' b)(hw:∀b,S b->w'.heap[b]?=w.heap[b]?):Flat S' w' k es xs:=
 ⟨h.len,h.row,h.one,fun i r j x h1 h2=>by obtain⟨u,h3,h4⟩:=h.rep i r j x h1 h2;exact⟨u,h3,h4.mono hS hw⟩⟩
theorem Flat.app{S:Nat->Prop}{w:World}{es fs:List (List PV)}{ys:List Value}(h:Flat S w k es xs)(g:Flat S w k fs ys):Flat S w k (es++fs) (xs++ys):=by
 refine⟨by rw[bZ,bZ,h.len,g.len,jT],fun r hr=>(cX.1 hr).elim (h.row r) (g.row r),fun u hu=>(cX.1 hu).elim (h.one u) (g.one u),fun i r j x h1 h2=>?_⟩;by_cases hi:i<es.length
 ·rw[bQ hi]at h1;obtain⟨u,h3,h4⟩:=h.rep i r j x h1 h2;exact⟨u,by rw[bQ (ah h3)];exact h3,h4⟩
 rw[bY (by omega)]at h1;obtain⟨u,h3,h4⟩:=g.rep _ r j x h1 h2;refine⟨u,?_,h4⟩;have hm:es.length*k<=i*k:=ba _ (by omega);rw[bY (by rw[h.len];omega),h.len];rw[nK]at h3;rw[<-h3];congr 1;omega
theorem Flat.set{S:Nat->Prop}{w:World}{es:List (List PV)}(h:Flat S w k es xs)(i:Nat)(hi:i<es.length)(ys:List PV)(vs:List Value)(hy:ys.length=k)(hv:vs.length=k)(h1:∀u∈vs,u.oneCell'=true)(hr:∀(j:Nat) y u,ys[j]?=some y->vs[j]?=some u->ay S w y u):
  Flat S w k (es.set i ys) (setCells xs (i*k) vs):=by
 have hb:i*k+k<=xs.length:=by rw[h.len,<-bR];exact ba _ hi
 have hg:=fun j=>b8 vs xs (i*k) j (by rw[hv];exact hb);refine⟨by rw[bL,aF,h.len],fun r hr=>?_,fun u hu=>?_,fun a r j x ha hj=>?_⟩
 ·rcases cw hr with h' | h'
  ·exact h.row r h'
  rw[h'];exact hy
 ·obtain⟨j,hj⟩:=cf.1 hu;rw[hg]at hj;split at hj
  ·exact h1 u (aj hj)
  exact h.one u (aj hj)
 have kX:=ah hj;rw[hg];by_cases Dt:a=i
 ·subst Dt;rw[aP hi]at ha;injection ha with ha;subst ha;rw[ae (by omega),show a*k+j-a*k=j by omega];have:j<vs.length:=by omega
  exact⟨_,aM this,hr j x _ hj (aM this)⟩
 rw[bw (fun e=>Dt e.symm)]at ha;have nP:=h.row r (aj ha);rw[af]
 ·exact h.rep a r j x ha hj
 rintro⟨h2,h3⟩;rcases lW Dt with h4 | h4
 ·have:=ba k (dy h4);rw[bR]at this;omega
 have:=ba k (dy h4);rw[bR]at this;omega
theorem Flat.zero(bb:Bool)(S:Nat->Prop)(w:World){P:Program}{t:TypeId}{ti:TI}(h:jw P t ti)(hk:0<ti.size)(n:Nat):Flat S w ti.size (List.replicate n (ti.zero.map (Kc bb))) ((Array.range (n*ti.size)).map (ti.zero.toArray[· % ti.zero.toArray.size]!)).toList:=by
 have hz:=h.Dk;obtain⟨_,_,_,_,_,_,_,ga⟩:=h.info;have rK:∀j,j<n*ti.size->((Array.range (n*ti.size)).map (ti.zero.toArray[· % ti.zero.toArray.size]!)).toList[j]?=ti.zero[j % ti.size]?:=by
  intro j hj;have hm:j % ti.size<ti.zero.length:=by rw[hz];exact qM _ hk
  simp[hj,hz];rw[aM hm];rfl
 refine⟨by simp,fun r hr=>by rw[aB hr,Al,hz],fun u hu=>?_,fun i r j x hi hj=>?_⟩
 ·obtain⟨j,hj⟩:=cf.1 hu;have kX:=ah hj;rw[rK j (by simpa using kX)]at hj;exact ga u (aj hj)
 have iR:i<n:=by have:=ah hi;simpa using this
 have hr:r=ti.zero.map (Kc bb):=aB (aj hi);subst hr;have kX:j<ti.size:=by have:=ah hj;rw[Al,hz]at this;exact this
 rw[ao]at hj;obtain⟨v,hv,rfl⟩:=az.1 hj;have hb:i*ti.size+j<n*ti.size:=by
  have:=ba ti.size (dy iR);rw[bR]at this;omega
 refine⟨v,?_,Au bb S w v⟩;rw[rK _ hb,aR,Nat.mul_add_mod,Nat.mod_eq_of_lt kX];exact hv
variable {e:TypeId}
theorem an.of_flat{P:Program}{S:Nat->Prop}{w:World}{i:TypeInfo}{es:List (List PV)}{v:Value}(hi:P.info? e=some i)(hk:0<i.size)(ho:w.ownsRow 0 e i.size v es.length xs)(hf:Flat S w i.size es xs):an P w (ay S w) e es v:=
 ⟨i,xs,hi,hk,ho,hf.row,hf.one,hf.rep⟩
theorem an.flat{P:Program}{S:Nat->Prop}{w:World}{i:TypeInfo}{es:List (List PV)}{v:Value}(hi:P.info? e=some i)(h:an P w (ay S w) e es v):∃xs,0<i.size/\w.ownsRow 0 e i.size v es.length xs/\Flat S w i.size es xs:=by
 obtain⟨i',xs,h1,h2,h3,h4,h5,h6⟩:=h;rw[hi]at h1;injection h1 with h1;subst h1;exact⟨xs,h2,h3,⟨h3.1,h4,h5,h6⟩⟩
theorem ay.flat{S:Nat->Prop}{w:World}{es:List (List PV)}{v:Value}(hx:ay S w (.sl es) v)(hk:∀r∈es,r.length=k):∃ad c xs,v=.slice ad es.length c/\Flat S w k es xs/\(es≠[]->∃b off,ad=some ⟨b,off,none⟩/\∀(j:Nat) u,xs[j]?=some u->w.cell? ⟨b,off+j,none⟩=some u):=by
 obtain⟨ad,c,hv,hle,bO⟩:=hx.j5;by_cases he:es=[]
 ·subst he;exact⟨ad,c,[],hv,⟨by simp,by simp,by simp,by simp⟩,fun h=>absurd rfl h⟩
 obtain⟨b,off,k',rfl,hb,Dz,hcell⟩:=bO he;have IF:k'=k:=by
  obtain⟨r,hr⟩:=di _ he;rw[<-Dz r hr,hk r hr]
 subst IF;have key:∀q,q<es.length*k'->∃u,w.cell? ⟨b,off+q,none⟩=some u/\u.oneCell'=true:=by
  intro q hq;have FZ:0<k':=Nat.pos_of_ne_zero fun h=>by rw[h]at hq;simp at hq
  have hi:q / k' < es.length:=(qN FZ).2 hq;have hj:q % k' < k':=qM _ FZ;have hr:=hk _ (qL hi);obtain⟨u,h1,h2,_⟩:=hcell (q / k') _ (q % k') _ (aM hi) (aM (by omega));refine⟨u,?_,h2⟩;rw[<-h1];congr 2;have:=Nat.div_add_mod q k';rw[aR]at this;omega
 refine⟨_,c,(List.range (es.length*k')).map fun q=>(w.cell? ⟨b,off+q,none⟩).getD undef,hv,⟨by simp,hk,fun u hu=>?_,fun i r j x h1 h2=>?_⟩,fun _=>⟨b,off,rfl,fun j u hj=>?_⟩⟩
 ·simp at hu;obtain⟨q,hq,rfl⟩:=hu;obtain⟨u,h1,h2⟩:=key q hq;rw[h1];exact h2
 ·obtain⟨u,h3,h4,h5⟩:=hcell i r j x h1 h2;refine⟨u,?_,h5⟩;have IG:=ah h1;have kX:=ah h2;rw[hk r (aj h1)]at kX;have o9:i*k'+j<es.length*k':=by
   have:=ba k' (dy IG);rw[bR]at this;omega
  rw[ao,fG o9];simp only[eM];rw[<-Tj,h3];rfl
 have kX:=ah hj;simp at kX;rw[ao,fG kX]at hj;obtain⟨u',h1,_⟩:=key j kX;simp[h1]at hj;rw[h1,hj]
def Src(S:Nat->Prop)(w:World)(es:List (List PV))(v:Value):Prop:=
 ∀k,(∀r∈es,r.length=k)->∃ad c xs,v=.slice ad es.length c/\Flat S w k es xs/\(es≠[]->∃b off,ad=some ⟨b,off,none⟩/\∀(j:Nat) u,xs[j]?=some u->w.cell? ⟨b,off+j,none⟩=some u)
theorem an.src{P:Program}{S:Nat->Prop}{w:World}{es:List (List PV)}{v:Value}(h:an P w (ay S w) e es v):Src S w es v:=by
 intro k hk;obtain⟨i,xs,h1,h2,h3,h4,h5,h6⟩:=h;by_cases he:es=[]
 ·subst he;rcases h3.2 with⟨rfl,_⟩ | ⟨g,cap,cur,rfl,_⟩
  ·exact⟨none,0,[],rfl,⟨by simp,by simp,by simp,by simp⟩,fun h=>absurd rfl h⟩
  exact⟨_,cap,[],rfl,⟨by simp,by simp,by simp,by simp⟩,fun h=>absurd rfl h⟩
 have IF:k=i.size:=by
  obtain⟨r,hr⟩:=di _ he;rw[<-hk r hr,h4 r hr]
 subst IF;rcases h3.2 with⟨_,hn⟩ | ⟨g,cap,cur,hv,_⟩
 ·exact absurd (cW hn) he
 refine⟨_,cap,xs,hv,⟨h3.1,h4,h5,h6⟩,fun _=>⟨g,0,rfl,fun j u hj=>?_⟩⟩;have:=h3.cells (g:=g) (by rw[hv];rfl) j u hj;rw[gW]at this;exact this
theorem yI{S:Nat->Prop}{a:Act}{w:World}(sim:aU A V L S rho s a w){x:AV}{v:Value}(hx:aE S w A.C.P L rho s.h x v){K:List (List PV)->Prop}(hq:dV s.h x K):∃es,K es/\Src S w es v:=by
 unfold dV at hq;split at hq
 ·exact⟨_,hq,fun k hk=>hx.cb.flat hk⟩
 ·have:v=.slice none 0 0:=by cases hx;rfl
  exact⟨[],hq,fun k hk=>⟨none,0,[],this,⟨by simp,by simp,by simp,by simp⟩,fun h=>absurd rfl h⟩⟩
 ·rename_i id;split at hq
  ·rename_i e es ai;obtain⟨hL,hv⟩:=hx.bu (by rw[ai];trivial);have hh:=sim.hp id hL;rw[ai]at hh;exact⟨es,hq,by rw[hv];exact an.src hh⟩
  ·rename_i es ai;obtain⟨hL,hv⟩:=hx.bu (by rw[ai];trivial);have hh:=sim.hp id hL;rw[ai]at hh;exact⟨es,hq,by rw[hv];exact fun k hk=>ay.flat hh hk⟩
  exact hq.elim
 exact hq.elim
theorem jn{P:Program}(w:World)(t ty e:TypeId)(i:TypeInfo)(z:Value)(ht:P.underlying t=some (.slice e))(hi:P.info? e=some i)(hz:i.zero=some z)(NG:z.cells.size=i.size)(hsz:0<i.size)
  (v:Value) (n:Nat) (xs:List Value) (hown:w.ownsRow 0 e i.size v n xs) (ad:Option Addr) (m c:Nat) (news:List Value) (hl:news.length=m*i.size)
  (hnews:m≠0->∃b off,ad=some ⟨b,off,none⟩/\∀(j:Nat) u,news[j]?=some u->w.cell? ⟨b,off+j,none⟩=some u) (h1:∀u∈news,u.oneCell'=true) (MV:n+m<=maxLen) (yJ:(n+m)*i.bytes<=140737488355328):
  ∃v' w',(Builtin.append_ #[t,t] ty #[v,.slice ad m c]).run P w=.ok v' w'/\w'.ownsRow 0 e i.size v' (n+m) (xs++news)/\w.grownBy w' v.ownBlock/\(v'.ownBlock=v.ownBlock\/v'.ownBlock=some w.heap.size):=by
 by_cases hm:m=0
 ·subst hm;have hn:news=[]:=cW (by simpa using hl);subst hn;refine⟨v,w,?_,by simpa using hown,⟨rfl,rfl,rfl,aC _,fun _ _ _=>rfl⟩,.inl rfl⟩;have hf:(Builtin.firstCells i.size 0 (.slice ad 0 c)).run P w=.ok #[] w:=by cases ad<;>simp[Builtin.firstCells,loadCells,loadCellsFrom]
  rcases hown.2 with⟨rfl,rfl⟩ | ⟨g,cap,cur,rfl,_,_,Ki,_⟩
  ·simp[Builtin.append_,run_underlying ht,sizeOf,typeInfo,hi,Builtin.lenOf,hf]
  simp[Builtin.append_,run_underlying ht,sizeOf,typeInfo,hi,Builtin.lenOf,Ki,hf,storeCells]
 obtain⟨b,off,rfl,hc⟩:=hnews hm;have vg:∀(j:Nat) u,news[j]?=some u->w.cell? ((⟨b,off,none⟩:Addr).add j)=some u:=fun j u hj=>by rw[gW];exact hc j u hj
 obtain⟨v',w',hr,h2,h3,_⟩:=run_append_own (P:=P) w 0 t ty e i z i.size i.bytes ht hi hz rfl rfl NG hsz v n xs hown ⟨b,off,none⟩ m c news hl vg h1 MV yJ (bd _);refine⟨v',w',hr,h2,h3,?_⟩;have NH:n+m<=9223372036854775807:=by simp only[maxLen]at MV;omega
 rcases hown.2 with⟨rfl,rfl⟩ | ⟨g,cap,cur,rfl,_,hg,Ki,Ss,js,PI⟩
 ·have jb:=run_append_nil (P:=P) w t ty e i z ht hi hz ⟨b,off,none⟩ m c news hl vg (by omega) (by omega) (by have hb:=yJ;simp only[cV]at hb;omega);rw[hr]at jb;injection jb with jb;rw[jb];exact .inr rfl
 by_cases Hx:n+m<=cap
 ·have NI:n*i.size+news.length<=cur.size:=by rw[hl,js,<-jT];exact ba _ Hx
  have jb:=run_append_room (P:=P) w t ty e i ht hi g n cap cur hg ⟨b,off,none⟩ m c news hl vg h1 Hx NI;rw[hr]at jb;injection jb with jb;rw[jb];exact .inl rfl
 have jb:=run_append_grow (P:=P) w t ty e i z ht hi hz ⟨g,0,none⟩ n cap xs hown.1 (hown.cells (g:=g) rfl) ⟨b,off,none⟩ m c news hl vg (by omega) (by omega) (growslice_fits (by omega) yJ);rw[hr]at jb;injection jb with jb;rw[jb];exact .inr rfl
theorem cm{v:Value}{a:Option Addr}{n c:Nat}(h:v=.slice a n c):v.ownBlock=bH v:=by
 subst h;cases a<;>rfl
theorem bP{w:World}{base:Nat}{size:Nat}{v:Value}{n:Nat}(h:w.ownsRow base e size v n xs):∃a c,v=.slice a n c:=by
 rcases h.2 with⟨rfl,rfl⟩ | ⟨g,cap,cur,rfl,_⟩
 ·exact⟨none,0,rfl⟩
 exact⟨_,cap,rfl⟩
theorem gj{w:World}{es:List (List HX)}{v:Value}{ws:List Value}(hown:w.ownsRow 0 e k v es.length ws)(hk:∀r∈es,r.length=k){g:Nat}(hg:bH v=some g){a j:Nat}{u:Value}:
  bI w es g a j u↔∃r e' kS,es[a]?=some r/\r[j]?=some (.row e' kS)/\ws[a*k+j]?=some u:=by
 rcases hown.2 with⟨hn,_⟩ | ⟨g',cap,cur,hv,_,wI,k1,k2,k3,k4⟩
 ·rw[hn]at hg;cases hg
 rw[hv]at hg;obtain rfl:=ed.1 hg;have PJ:∀{r:List HX} {x:HX},es[a]?=some r->r[j]?=some x->r.length=k/\a*k+j<es.length*k:=fun {r x} h1 h2=>by
  have hr:=hk r (aj h1);have h3:=ah h1;have h4:=ah h2;have:=ba k (dy h3);rw[bR]at this;exact⟨hr,by omega⟩
 constructor
 ·rintro⟨r,e',kS,c,ty,m,h1,h2,h3,h4⟩;rw[wI]at h3;injection h3 with h3;injection h3 with h3;subst h3;obtain⟨b1,b2⟩:=PJ h1 h2;refine⟨r,e',kS,h1,h2,?_⟩;rw[<-k4,gY b2];rw[b1]at h4;simpa using h4
 rintro⟨r,e',kS,h1,h2,h3⟩;obtain⟨b1,b2⟩:=PJ h1 h2;refine⟨r,e',kS,cur,_,_,h1,h2,wI,?_⟩;rw[<-k4,gY b2]at h3;rw[b1];simpa using h3
theorem aU.NJ{S:Nat->Prop}{a:Act}{w:World}(sim:aU A V L S rho s a w)(hC:aL A.C){id d:Nat}(eO:L id){xs:List (List HX)}(ai:s.h id=.ai e xs){ys:List (List PV)}{ie:TypeInfo}(hX:A.C.P.info? e=some ie)
  (hdb:d<100000) (hL:¬L d) (hb:s.h d=.ai e (xs++ys.map o8)) {news:List Value} (tN:Flat S w ie.size ys news) {v':Value} {w':World} {ws:List Value} (hown:w.ownsRow 0 e ie.size (rho id) xs.length ws) (h2:w'.ownsRow 0 e ie.size v' (xs.length+ys.length) (ws++news)) (h3:w.grownBy w' (bH (rho id))) (h4:bH v'=bH (rho id)\/bH v'=some w.heap.size):
  aU A V (fun i=>L i\/i=d) S (ax rho d v') ⟨s.t,ax s.h id .none⟩ a w':=by
 have aN:(s.h id).live:=by rw[ai];trivial
 have DA:id≠d:=fun e=>hL (e▸eO);have hh:=sim.hp id eO;rw[ai]at hh;obtain⟨hR,hS⟩:=hh;have K1:=hS.yH hR;obtain⟨i0,DB,k1,k2,k3,k4,k5,k6⟩:=K1;rw[hX]at k1;injection k1 with k1;subst k1;have KY:DB=ws:=by
  rcases k3.2 with⟨q1,q2⟩ | ⟨g,cap,cur,q1,_,q3,q4,q5,q6,q7⟩
  ·have a1:DB=[]:=cW (by rw[k3.1,q2];simp);have a2:ws=[]:=cW (by rw[hown.1,q2];simp);rw[a1,a2]
  rcases hown.2 with⟨r1,_⟩ | ⟨g',NK,Ds,r1,_,r3,r4,r5,r6,r7⟩
  ·rw[r1]at q1;cases q1
  rw[r1]at q1;injection q1 with q1;injection q1 with q1;injection q1 with q1;subst q1;rw[q3]at r3;injection r3 with r3;injection r3 with r3;subst r3;rw[<-q7,<-r7]
 subst KY;have yK:∀r∈ys.map o8,r.length=ie.size:=fun r hr=>by
  obtain⟨q,hq,rfl⟩:=aV.1 hr;rw[o8,Al];exact tN.row q hq
 have nY:∀r∈xs++ys.map o8,r.length=ie.size:=fun r hr=>(cX.1 hr).elim (k4 r) (yK r);have wX:w'.ownsRow 0 e ie.size v' (xs++ys.map o8).length (DB++news):=by rw[bZ,Al];exact h2
 have F0:DB.length=xs.length*ie.size:=k3.1;have cc:∀g' k j u,bH v'=some g'->bI w' (xs++ys.map o8) g' k j u->∃g,bH (rho id)=some g/\bI w xs g k j u:=fun g' k j u eY hc=>by
  obtain⟨r,e',kS,q1,q2,q3⟩:=(gj wX nY eY).1 hc;by_cases hk:k<xs.length
  ·rw[bQ hk]at q1;have kX:=ah q2;have nP:=k4 r (aj q1);have:=ba ie.size (dy hk);rw[bR]at this;rw[bQ (by omega)]at q3;obtain⟨g,u2,g1,g2,_⟩:=hR.rE q1 q2;refine⟨g,g1,(gj k3 k4 g1).2 ⟨r,e',kS,q1,q2,q3⟩⟩
  rw[bY (by omega),ao]at q1;obtain⟨q,_,rfl⟩:=az.1 q1;rw[o8,ao]at q2;obtain⟨z,_,hz⟩:=az.1 q2;cases hz
 have yL:∀g k j u b,bH (rho id)=some g->bI w xs g k j u->bH u=some b->hasB w (s.h id) (rho id) b:=fun g k j u b h1 h5 h6=>by rw[ai];exact .inr (.inr (.inl ⟨_,_,_,_,_,_,rfl,h1,h5,h6⟩))
 have T0:fu S S w w L L rho rho s.h (ax s.h id .none):=⟨fun _ h=>h,fun _ _=>rfl,fun j hj=>⟨by
   rcases aD s.h id .none j with⟨rfl,h⟩ | ⟨_,h⟩
   ·rw[h]at hj;exact hj.elim
   ·rw[h]at hj;exact hj,fun h=>⟨h,rfl⟩⟩,fun j e' hj=>by
   rcases aD s.h id .none j with⟨rfl,h⟩ | ⟨_,h⟩
   ·rw[h]at hj;cases hj
   rw[h]at hj;exact hj⟩
 have wY:∀k,k<w.heap.size->bH (rho id)≠some k->w'.heap[k]?=w.heap[k]?:=fun k hk hn=>h3.block k hk fun e=>hn e.symm;refine (sim.kill id).jA hC d (.ai e (xs++ys.map o8)) hdb hL (by show ax s.h id .none d=_;rw[au _ _ DA.symm];exact hb) w' h3.os h3.tape h3.output h3.size (fun k=>hasB w (s.h id) (rho id) k) (fun k hk hn=>wY k hk fun h=>hn (.inl h)) (fun k hk=>?_) v' (fun g hg=>?_) (fun T=>?_)
 ·obtain⟨q1,q2,q3⟩:=sim.lv id k eO aN hk;refine⟨q2,fun i hi li cK=>?_,q3⟩;have fE:(ax s.h id .none i).live:=li;rcases aD s.h id .none i with⟨rfl,h⟩ | ⟨bO,h⟩
  ·rw[h]at fE;exact fE.elim
  rw[h]at fE;exact bO (sim.dj i id k hi eO fE aN (cx bO cK) hk)
 ·rcases hg with hg | ⟨cs,g',h,_⟩ | ⟨e',bW,g',k',j,u,q1,q2,q3,q4⟩ | ⟨_,_,_,_,_,h,_⟩
  rotate_right
  ·cases h
  ·obtain⟨a1,c1,AA⟩:=bP h2;refine⟨(h2.lt g (by rw[cm AA];exact hg)).2,?_⟩;rcases h4 with h | h
   ·exact .inr (.inl (h▸hg))
   rw[h]at hg;injection hg with hg;exact .inl (by omega)
  ·cases h
  injection q1 with q1 NL;subst q1 NL;obtain⟨g0,g1,g2⟩:=cc _ _ _ _ q2 q3;have F1:=yL _ _ _ _ _ g1 g2 q4;exact⟨bg (sim.lv id g eO aN F1).1 h3.size,.inr F1⟩
 show an _ _ _ _ _ (ax rho d v' d)/\kU _ _ (ax rho d v' d);rw[ak];refine⟨⟨ie,DB++news,hX,k2,wX,nY,fun u hu=>(cX.1 hu).elim (k5 u) (tN.one u),fun p r j x hp hj=>?_⟩,fun g k j u b hg hc dM=>?_,fun g k j k' j' u u' b hg hc Fx BJ o9=>?_⟩
 ·by_cases hk:p<xs.length
  ·rw[bQ hk]at hp;obtain⟨u,hu,nF,IH⟩:=k6 p r j x hp hj;refine⟨u,by rw[bQ (ah hu)];exact hu,?_⟩;cases x with
   | av x=>exact aE.bA T (aE.bA T0 nF)
   | row e' kS=>
    refine an.bA (show an _ _ _ _ _ _ from nF) (fun b dM=>wY b ?_ fun h=>IH _ _ rfl b b h dM rfl) (fun x u hu=>hu.mono T.hS T.keep);obtain⟨g,u2,g1,g2,_⟩:=hR.rE hp hj;have:u2=u:=by
     obtain⟨r',_,_,q1,q2,q3⟩:=(gj k3 k4 g1).1 g2;rw[hu]at q3;injection q3 with q3;exact q3.symm
    subst this;exact (sim.lv id b eO aN (yL _ _ _ _ _ g1 g2 dM)).1
  rw[bY (by omega),ao]at hp;obtain⟨q,hq,rfl⟩:=az.1 hp;rw[o8,ao]at hj;obtain⟨z,hz,rfl⟩:=az.1 hj;obtain⟨u,hu,nF⟩:=tN.rep _ _ _ _ hq hz;refine⟨u,?_,va (nF.mono T.hS T.keep)⟩;have hm:xs.length*ie.size<=p*ie.size:=ba _ (by omega);rw[bY (by rw[F0];omega),F0];rw[nK]at hu;rw[<-hu];congr 1;omega
 ·obtain⟨g0,g1,g2⟩:=cc _ _ _ _ hg hc;rcases h4 with h | h
  ·rw[h,g1]at hg;injection hg with hg;subst hg;exact hS.top _ _ _ _ _ g1 g2 dM
  rw[h]at hg;injection hg with hg;have:=(sim.lv id b eO aN (yL _ _ _ _ _ g1 g2 dM)).1;omega
 obtain⟨g0,g1,g2⟩:=cc _ _ _ _ hg hc;obtain⟨QS,F2,NM⟩:=cc _ _ _ _ hg Fx;rw[g1]at F2;injection F2 with F2;subst F2;exact hS.dis _ _ _ _ _ _ _ _ g1 g2 NM BJ o9
structure Hy(R:HX->Value->Prop)(k:Nat)(es:List (List HX))(xs:List Value):Prop where
 len:xs.length=es.length*k
 row:∀r∈es,r.length=k
 one:∀u∈xs,u.oneCell'=true
 rep:∀(i:Nat) r (j:Nat) x,es[i]?=some r->r[j]?=some x->(∃y,x=.av y)/\∃u,xs[i*k+j]?=some u/\R x u
theorem wZ:∀{r:List HX} {j:Nat} {x:HX},Df r=true->r[j]?=some x->∃y,x=.av y
 | [],j,x,_,h=>by simp at h
 | .row _ _::_,j,x,h,_=>by cases h
 | .av y::r,j,x,h,hj=>by
  cases j with
  | zero=>simp at hj;exact⟨y,hj.symm⟩
  | succ j=>exact wZ (r:=r) h (by simpa using hj)
theorem aU.K2{S:Nat->Prop}{a:Act}{w:World}(sim:aU A V L S rho s a w)(hC:aL A.C){id d:Nat}(eO:L id){xs:List (List HX)}(ai:s.h id=.ai e xs){ys:List (List HX)}{ie:TypeInfo}(hX:A.C.P.info? e=some ie)
  (hdb:d<100000) (hL:¬L d) (hb:s.h d=.ai e (xs++ys)) {news:List Value} (tN:Hy (iY S w A.C.P L rho s.h) ie.size ys news) {v':Value} {w':World} {ws:List Value} (hown:w.ownsRow 0 e ie.size (rho id) xs.length ws) (h2:w'.ownsRow 0 e ie.size v' (xs.length+ys.length) (ws++news)) (h3:w.grownBy w' (bH (rho id))) (h4:bH v'=bH (rho id)\/bH v'=some w.heap.size):
  aU A V (fun i=>L i\/i=d) S (ax rho d v') ⟨s.t,ax s.h id .none⟩ a w':=by
 have aN:(s.h id).live:=by rw[ai];trivial
 have DA:id≠d:=fun e=>hL (e▸eO);have hh:=sim.hp id eO;rw[ai]at hh;obtain⟨hR,hS⟩:=hh;have K1:=hS.yH hR;obtain⟨i0,DB,k1,k2,k3,k4,k5,k6⟩:=K1;rw[hX]at k1;injection k1 with k1;subst k1;have KY:DB=ws:=by
  rcases k3.2 with⟨q1,q2⟩ | ⟨g,cap,cur,q1,_,q3,q4,q5,q6,q7⟩
  ·have a1:DB=[]:=cW (by rw[k3.1,q2];simp);have a2:ws=[]:=cW (by rw[hown.1,q2];simp);rw[a1,a2]
  rcases hown.2 with⟨r1,_⟩ | ⟨g',NK,Ds,r1,_,r3,r4,r5,r6,r7⟩
  ·rw[r1]at q1;cases q1
  rw[r1]at q1;injection q1 with q1;injection q1 with q1;injection q1 with q1;subst q1;rw[q3]at r3;injection r3 with r3;injection r3 with r3;subst r3;rw[<-q7,<-r7]
 subst KY;have yK:∀r∈ys,r.length=ie.size:=tN.row;have nY:∀r∈xs++ys,r.length=ie.size:=fun r hr=>(cX.1 hr).elim (k4 r) (yK r);have wX:w'.ownsRow 0 e ie.size v' (xs++ys).length (DB++news):=by rw[bZ];exact h2
 have F0:DB.length=xs.length*ie.size:=k3.1;have cc:∀g' k j u,bH v'=some g'->bI w' (xs++ys) g' k j u->∃g,bH (rho id)=some g/\bI w xs g k j u:=fun g' k j u eY hc=>by
  obtain⟨r,e',kS,q1,q2,q3⟩:=(gj wX nY eY).1 hc;by_cases hk:k<xs.length
  ·rw[bQ hk]at q1;have kX:=ah q2;have nP:=k4 r (aj q1);have:=ba ie.size (dy hk);rw[bR]at this;rw[bQ (by omega)]at q3;obtain⟨g,u2,g1,g2,_⟩:=hR.rE q1 q2;refine⟨g,g1,(gj k3 k4 g1).2 ⟨r,e',kS,q1,q2,q3⟩⟩
  rw[bY (by omega)]at q1;obtain⟨⟨y,hy⟩,_⟩:=tN.rep _ _ _ _ q1 q2;cases hy
 have yL:∀g k j u b,bH (rho id)=some g->bI w xs g k j u->bH u=some b->hasB w (s.h id) (rho id) b:=fun g k j u b h1 h5 h6=>by rw[ai];exact .inr (.inr (.inl ⟨_,_,_,_,_,_,rfl,h1,h5,h6⟩))
 have T0:fu S S w w L L rho rho s.h (ax s.h id .none):=⟨fun _ h=>h,fun _ _=>rfl,fun j hj=>⟨by
   rcases aD s.h id .none j with⟨rfl,h⟩ | ⟨_,h⟩
   ·rw[h]at hj;exact hj.elim
   ·rw[h]at hj;exact hj,fun h=>⟨h,rfl⟩⟩,fun j e' hj=>by
   rcases aD s.h id .none j with⟨rfl,h⟩ | ⟨_,h⟩
   ·rw[h]at hj;cases hj
   rw[h]at hj;exact hj⟩
 have wY:∀k,k<w.heap.size->bH (rho id)≠some k->w'.heap[k]?=w.heap[k]?:=fun k hk hn=>h3.block k hk fun e=>hn e.symm;refine (sim.kill id).jA hC d (.ai e (xs++ys)) hdb hL (by show ax s.h id .none d=_;rw[au _ _ DA.symm];exact hb) w' h3.os h3.tape h3.output h3.size (fun k=>hasB w (s.h id) (rho id) k) (fun k hk hn=>wY k hk fun h=>hn (.inl h)) (fun k hk=>?_) v' (fun g hg=>?_) (fun T=>?_)
 ·obtain⟨q1,q2,q3⟩:=sim.lv id k eO aN hk;refine⟨q2,fun i hi li cK=>?_,q3⟩;have fE:(ax s.h id .none i).live:=li;rcases aD s.h id .none i with⟨rfl,h⟩ | ⟨bO,h⟩
  ·rw[h]at fE;exact fE.elim
  rw[h]at fE;exact bO (sim.dj i id k hi eO fE aN (cx bO cK) hk)
 ·rcases hg with hg | ⟨cs,g',h,_⟩ | ⟨e',bW,g',k',j,u,q1,q2,q3,q4⟩ | ⟨_,_,_,_,_,h,_⟩
  rotate_right
  ·cases h
  ·obtain⟨a1,c1,AA⟩:=bP h2;refine⟨(h2.lt g (by rw[cm AA];exact hg)).2,?_⟩;rcases h4 with h | h
   ·exact .inr (.inl (h▸hg))
   rw[h]at hg;injection hg with hg;exact .inl (by omega)
  ·cases h
  injection q1 with q1 NL;subst q1 NL;obtain⟨g0,g1,g2⟩:=cc _ _ _ _ q2 q3;have F1:=yL _ _ _ _ _ g1 g2 q4;exact⟨bg (sim.lv id g eO aN F1).1 h3.size,.inr F1⟩
 show an _ _ _ _ _ (ax rho d v' d)/\kU _ _ (ax rho d v' d);rw[ak];refine⟨⟨ie,DB++news,hX,k2,wX,nY,fun u hu=>(cX.1 hu).elim (k5 u) (tN.one u),fun p r j x hp hj=>?_⟩,fun g k j u b hg hc dM=>?_,fun g k j k' j' u u' b hg hc Fx BJ o9=>?_⟩
 ·by_cases hk:p<xs.length
  ·rw[bQ hk]at hp;obtain⟨u,hu,nF,IH⟩:=k6 p r j x hp hj;refine⟨u,by rw[bQ (ah hu)];exact hu,?_⟩;cases x with
   | av x=>exact aE.bA T (aE.bA T0 nF)
   | row e' kS=>
    refine an.bA (show an _ _ _ _ _ _ from nF) (fun b dM=>wY b ?_ fun h=>IH _ _ rfl b b h dM rfl) (fun x u hu=>hu.mono T.hS T.keep);obtain⟨g,u2,g1,g2,_⟩:=hR.rE hp hj;have:u2=u:=by
     obtain⟨r',_,_,q1,q2,q3⟩:=(gj k3 k4 g1).1 g2;rw[hu]at q3;injection q3 with q3;exact q3.symm
    subst this;exact (sim.lv id b eO aN (yL _ _ _ _ _ g1 g2 dM)).1
  rw[bY (by omega)]at hp;obtain⟨⟨y,rfl⟩,u,hu,nF⟩:=tN.rep _ _ _ _ hp hj;refine⟨u,?_,aE.bA T (aE.bA T0 nF)⟩;have hm:xs.length*ie.size<=p*ie.size:=ba _ (by omega);rw[bY (by rw[F0];omega),F0];rw[nK]at hu;rw[<-hu];congr 1;omega
 ·obtain⟨g0,g1,g2⟩:=cc _ _ _ _ hg hc;rcases h4 with h | h
  ·rw[h,g1]at hg;injection hg with hg;subst hg;exact hS.top _ _ _ _ _ g1 g2 dM
  rw[h]at hg;injection hg with hg;have:=(sim.lv id b eO aN (yL _ _ _ _ _ g1 g2 dM)).1;omega
 obtain⟨g0,g1,g2⟩:=cc _ _ _ _ hg hc;obtain⟨QS,F2,NM⟩:=cc _ _ _ _ hg Fx;rw[g1]at F2;injection F2 with F2;subst F2;exact hS.dis _ _ _ _ _ _ _ _ g1 g2 NM BJ o9
theorem BK{o:Oper}(c:Call)(aq:o.op=.call c)(hc:c.callee=.builtin .append):eD A o:=by
 intro V L S rho s a w K next Q hC sim hV hd hq hn hnext
 obtain⟨callee,args,argTypes⟩:=c;simp only at hc;subst hc;simp only[aZ,aq,Ta,dK]at hq;split at hq
 ·rename_i x y t t' hargs Dy;have hx:=aH sim x fun j hj=>hV j (by simp[aq,Op.operands,Call.operands,hj];rw[<-hj];exact fm.1 (by rw[hargs];simp));have hy:=aH sim y fun j hj=>hV j (by simp[aq,Op.operands,Call.operands,hj];rw[<-hj];exact fm.1 (by rw[hargs];simp));have e1:args=#[x,y]:=by rw[<-lX (xs:=args),hargs]
  have e2:argTypes=#[t,t']:=by rw[<-lX (xs:=argTypes),Dy]
  subst e1 e2;split at hq
  ·rename_i e size bytes zero eq NN hT;have NN:=dC NN;subst NN;have dr:=(hC.eL t _ hT).under;simp only at dr;split at hq
   ·rename_i te nf;obtain⟨ie,ze,hX,qT,BL,DC,DD,ga⟩:=(hC.eL e te nf).info;have Kl:=(hC.eL e te nf).Dk;split at hq
    ·rename_i hpos;have hpos:0<ie.size:=by rw[qT];exact dT hpos
     split at hq
     ·rename_i ys o_;unfold nd at o_;split at o_
      case h_2=>cases o_
      rename_i QT w5;split at o_
      case h_2=>cases o_
      rename_i QU es Hz;split at o_
      case h_2=>cases o_
      rename_i eA;injection o_ with o_;subst o_;simp only[qK]at eA;have ng:=dC eA.1;subst ng;rw[w5]at hy;split at hq
      case h_2=>exact hq.elim
      rename_i id Dw;rw[Dw]at hx;split at hq
      case h_2=>exact hq.elim
      rename_i e' xs ai;split at hq
      case h_2=>exact hq.elim
      rename_i ng;have ng:=dC ng;subst ng;obtain⟨⟨h1,h2,h3⟩,hq⟩:=hq;obtain⟨hL,hb⟩:=hn _ _ _ hq;obtain⟨eO,hv⟩:=hx.bu (by rw[ai];trivial);obtain⟨QV,PK⟩:=hy.bu (by rw[Hz];trivial);have hh:=sim.hp id eO;rw[ai]at hh;obtain⟨⟨i0,ws,Fy,_,hown,_⟩,_⟩:=hh;rw[hX]at Fy;injection Fy with Fy;subst Fy;have PL:=sim.hp QT QV;rw[Hz]at PL;obtain⟨⟨i1,news,MW,_,DE,K3,K4,NO⟩,_⟩:=PL;rw[hX]at MW;injection MW with MW;subst MW;have tN:Hy (iY S w A.C.P L rho s.h) ie.size es news:=⟨DE.1,K3,K4,fun i r j x hi hj=>by
       obtain⟨u,hu,hr⟩:=NO i r j x hi hj;exact⟨wZ (cC.1 eA.2 r (aj hi)) hj,u,hu,hr⟩⟩
      obtain⟨ad,c',K5,hcell⟩:∃ad c',a.eval y=.slice ad es.length c'/\(es.length≠0->∃b off,ad=some ⟨b,off,none⟩/\∀(j:Nat) u,news[j]?=some u->w.cell? ⟨b,off+j,none⟩=some u):=by
       rcases DE.2 with⟨II,MX⟩ | ⟨g,cap,cur,II,_⟩
       ·exact⟨none,0,by rw[PK,II,MX],fun h=>absurd MX h⟩
       refine⟨_,cap,by rw[PK,II],fun _=>⟨g,0,rfl,fun j u hj=>?_⟩⟩;have:=DE.cells (g:=g) (by rw[II];rfl) j u hj;rw[gW]at this;exact this
      obtain⟨v',w',hr,q2,q3,q4⟩:=jn (P:=A.C.P) w t o.type e' ie ze dr hX DC (by rw[DD];simp[Kl,qT]) hpos (rho id) xs.length ws hown ad es.length c' news tN.len
       hcell tN.one (by simp only[maxLen];omega) (by rw[BL];exact h2)
      obtain⟨a0,c0,IJ⟩:=bP hown;obtain⟨a1,c1,AA⟩:=bP q2;rw[cm IJ]at q3 q4;rw[cm AA]at q4;have aJ:=sim.K2 hC eO ai hX (sim.gT hd) hL hb tN hown q2 q3 q4;exact bS (by simp[execOp,aq,resolve,invoke,builtin,hv,K5,hr]) (hnext _ _ _ S _ _ _ hq (aJ.value o.dst hd _ _ (.ow _ _ fun _=>⟨.inr rfl,(ak _ _ _).symm⟩)))
     obtain⟨ys,hq,K6⟩:=yI sim hy hq;have main:∀(xs:List (List PV)) (v:Value) (ws:List Value) (s2:AS),a.eval x=v->w.ownsRow 0 e ie.size v xs.length ws->Flat S w ie.size xs ws->(∀r∈ys,r.length=te.size)->(xs.length+ys.length)*te.bytes<=140737488355328->xs.length+ys.length<=140737488355328 ->
       aU A V L S rho s2 a w->(∀g,bH v=some g->¬S g/\(∀i,L i->(s2.h i).live->¬hasB w (s2.h i) (rho i) g)/\(A.mv g\/A.w0.heap.size<=g))->¬L (o.dst.getD 0)->s2.h (o.dst.getD 0)=.row e (xs++ys)->
       ∃v' w' rho',(execOp a.eval o).run A.C.P w=.ok (.value v') w'/\aU A V (fun i=>L i\/i=o.dst.getD 0) S rho' s2 a w'/\v'=rho' (o.dst.getD 0):=by
      intro xs v ws s2 hv hown qd hlen BJ o9 aJ hR hL hb;obtain⟨ad,c',news,K5,tN,hcell⟩:=K6 ie.size (fun r hr=>by rw[hlen r hr,qT]);obtain⟨v',w',hr,h2,h3,h4⟩:=jn (P:=A.C.P) w t o.type e ie ze dr hX DC (by rw[DD];simp[Kl,qT]) hpos v xs.length ws hown ad ys.length c' news tN.len
       (fun h0=>hcell (fun e=>h0 (by rw[e];rfl))) tN.one (by simp only[maxLen];omega) (by rw[BL];exact BJ)
      obtain⟨a0,c0,IJ⟩:=bP hown;obtain⟨a1,c1,AA⟩:=bP h2;rw[cm IJ]at h3 h4;rw[cm AA]at h4;refine⟨v',w',ax rho (o.dst.getD 0) v',by simp[execOp,aq,resolve,invoke,builtin,hv,K5,hr],?_,(ak _ _ _).symm⟩;refine aJ.new hC (o.dst.getD 0) _ (aJ.gT hd) hL hb w' h3.os h3.tape h3.output h3.size (fun k=>bH v=some k) (fun k hk K7=>h3.block k hk (fun e=>K7 e.symm)) (fun k hk=>hR k hk) v' (fun g hg=>?_) (fun T=>?_)
      ·refine⟨(h2.lt g (by rw[cm AA];exact hg)).2,?_⟩;rcases h4 with h | h
       ·exact .inr (h▸hg)
       rw[h]at hg;injection hg with hg;exact .inl (by omega)
      show an A.C.P w' (ay S w') e (xs++ys) (ax rho (o.dst.getD 0) v' (o.dst.getD 0));rw[ak];exact an.of_flat hX hpos (by rw[bZ];exact h2) ((qd.app tN).mono T.hS T.keep)
     split at hq
     ·rename_i Dw;rw[Dw]at hx;have hv:a.eval x=.slice none 0 0:=by cases h:a.eval x<;>rw[h]at hx<;>cases hx;rfl
      obtain⟨⟨h1,h2,h3⟩,hq⟩:=hq;obtain⟨hL,hb⟩:=hn _ _ _ hq;obtain⟨v',w',rho',hr,aJ,yB⟩:=main [] _ [] s hv ⟨by simp,.inl ⟨rfl,rfl⟩⟩ ⟨by simp,by simp,by simp,by simp⟩ h1 (by simpa using h2) (by simpa using h3) sim (fun g hg=>by simp[bH]at hg) hL (by simpa using hb);exact bS hr (hnext _ _ _ S rho' _ _ hq (aJ.value o.dst hd _ _ (.ow _ _ fun _=>⟨.inr rfl,yB⟩)))
     ·rename_i id Dw;rw[Dw]at hx;split at hq
      ·rename_i e' xs ai;split at hq
       ·rename_i ng;have ng:=dC ng;subst ng;obtain⟨⟨h1,h2,h3⟩,hq⟩:=hq;obtain⟨hL,hb⟩:=hn _ _ _ hq;obtain⟨eO,hv⟩:=hx.bu (by rw[ai];trivial);have hh:=sim.hp id eO;rw[ai]at hh;obtain⟨ws,_,hown,qd⟩:=an.flat hX hh;have DA:id≠o.dst.getD 0:=fun e=>hL (e▸eO);have aN:(s.h id).live:=by rw[ai];trivial
        obtain⟨v',w',rho',hr,aJ,yB⟩:=main xs _ ws ⟨s.t,ax s.h id .none⟩ hv hown qd h1 h2 h3 (sim.kill id) (fun g hg=>by
          obtain⟨k1,k2,k3⟩:=sim.mO id g eO aN hg;refine⟨k2,fun i hi li cK=>?_,k3⟩;have fE:(ax s.h id .none i).live:=li;rcases aD s.h id .none i with⟨rfl,h⟩ | ⟨bO,h⟩
          ·rw[h]at fE;exact fE.elim
          rw[h]at fE;exact bO (sim.dj i id g hi eO fE aN (cx bO cK) (.inl hg))) hL (by show ax s.h id .none (o.dst.getD 0)=_;rw[au _ _ DA.symm];exact hb)
        exact bS hr (hnext _ _ _ S rho' _ _ hq (aJ.value o.dst hd _ _ (.ow _ _ fun _=>⟨.inr rfl,yB⟩)))
       exact hq.elim
      ·rename_i e' xs ai;split at hq
       ·rename_i ng;have ng:=dC ng;subst ng;obtain⟨⟨h1,h2,h3⟩,hq⟩:=hq;obtain⟨hL,hb⟩:=hn _ _ _ hq;obtain⟨eO,hv⟩:=hx.bu (by rw[ai];trivial);have hh:=sim.hp id eO;rw[ai]at hh;obtain⟨⟨i0,ws,Fy,_,hown,_⟩,_⟩:=hh;rw[hX]at Fy;injection Fy with Fy;subst Fy;obtain⟨ad,c',news,K5,tN,hcell⟩:=K6 ie.size (fun r hr=>by rw[h1 r hr,qT]);obtain⟨v',w',hr,q2,q3,q4⟩:=jn (P:=A.C.P) w t o.type e' ie ze dr hX DC (by rw[DD];simp[Kl,qT]) hpos (rho id) xs.length ws hown ad ys.length c' news tN.len
         (fun h0=>hcell (fun e=>h0 (by rw[e];rfl))) tN.one (by simp only[maxLen];omega) (by rw[BL];exact h2)
        obtain⟨a0,c0,IJ⟩:=bP hown;obtain⟨a1,c1,AA⟩:=bP q2;rw[cm IJ]at q3 q4;rw[cm AA]at q4;have aJ:=sim.NJ hC eO ai hX (sim.gT hd) hL hb tN hown q2 q3 q4;exact bS (by simp[execOp,aq,resolve,invoke,builtin,hv,K5,hr]) (hnext _ _ _ S _ _ _ hq (aJ.value o.dst hd _ _ (.ow _ _ fun _=>⟨.inr rfl,(ak _ _ _).symm⟩)))
       exact hq.elim
      exact hq.elim
     exact hq.elim
    exact hq.elim
   exact hq.elim
  exact hq.elim
 exact hq.elim
theorem vh{o:Oper}(t:TypeId)(x y:Operand)(aq:o.op=.makeSlice t x y):eD A o:=by
 intro V L S rho s a w K next Q hC sim hV hd hq hn hnext
 simp only[aZ,aq]at hq;have hx:=aH sim x fun j hj=>hV j (by simp[aq,Op.operands,hj]);have hy:=aH sim y fun j hj=>hV j (by simp[aq,Op.operands,hj]);split at hq
 ·rename_i e size bytes zero eq k n k' c hT h1 h2;have dr:=(hC.eL t _ hT).under;simp only at dr;rw[h1]at hx;rw[h2]at hy;split at hq
  ·rename_i te nf;obtain⟨ie,ze,hX,qT,BL,DC,DD,ga⟩:=(hC.eL e te nf).info;have Kl:=(hC.eL e te nf).Dk;split at hq
   ·rename_i hpos;have hpos:0<te.size:=dT hpos;obtain⟨⟨h0,Ki,hb,MV⟩,hq⟩:=hq;obtain⟨hL,hdb⟩:=hn _ _ _ hq;have hr:=run_make (P:=A.C.P) w t e ie ze dr hX DC k k' n c h0 Ki (by rw[BL,Int.mul_comm];omega) MV;have qd:=Flat.zero (A.C.bn t) S (w.alloc (.cells (madeCells ze.cells (c.toNat*ie.size)) e)) (hC.eL e te nf) hpos n.toNat;have key:∀(W:World) es xs,Flat S W te.size es xs->Flat S W ie.size es xs:=fun W es xs h=>by rw[qT];exact h
    have hle:n.toNat*te.size<=c.toNat*te.size:=ba _ (by omega);have NP:((Array.range (n.toNat*te.size)).map (te.zero.toArray[· % te.zero.toArray.size]!)).toList=(madeCells ze.cells (c.toNat*ie.size)).toList.take (n.toNat*te.size):=by
     apply fj;intro j;rw[cB];split
     ·rename_i hj;simp[madeCells,DD,qT,hj,bg hj hle]
     rename_i hj;rw[dI (by simpa using hj)]
    have aJ:=sim.new hC (o.dst.getD 0) _ (sim.gT hd) hL hdb (w.alloc (.cells (madeCells ze.cells (c.toNat*ie.size)) e)) rfl rfl rfl (by simp) (fun _=>False) (fun k hk _=>gw _ _ _ hk) (fun _ h=>h.elim) (.slice (some ⟨w.heap.size,0,none⟩) n.toNat c.toNat)
     (fun g hg=>by simp[bH]at hg;subst hg;simp) (fun T=>by
      show an A.C.P _ _ e _ (ax rho (o.dst.getD 0) _ (o.dst.getD 0));rw[ak];refine an.of_flat hX (by omega) ?_ (key _ _ _ qd);rw[NP,<-qT];refine⟨by rw[cu,uX,Tk,size_madeCells,qT];omega,.inr ⟨w.heap.size,c.toNat,_,by simp,bd _,heap_alloc_new w _,by simp;omega,by simp only[maxLen];omega,size_madeCells _ _,by simp⟩⟩)
    exact bS (by simp only[execOp,aq,hx.bc,hy.bc,aI,hr,br,ct]) (hnext _ _ _ S _ _ _ hq (aJ.value o.dst hd _ _ (.ow _ _ fun _=>⟨.inr rfl,(ak _ _ _).symm⟩)))
   exact hq.elim
  exact hq.elim
 exact hq.elim
end Go.AM
namespace Go.AM
open Go.RowKit
theorem DF(off:Nat):∀(vs:List Value) (k:Nat) (cs:Array Value),(vs.zipIdx k).foldl (fun (cs:Array Value) (x:Value×Nat)=>cs.setIfInBounds (off+x.2) x.1) cs=(setCells cs.toList (off+k) vs).toArray:=by
 intro vs
 induction vs with
 | nil=>intro k cs;simp[setCells]
 | cons v vs ih=>
  intro k cs;simp only[List.zipIdx_cons,uY];rw[ih];simp[setCells,Tj]
theorem jB(place:Nat->Option (Nat×Nat))(cells:Array Value)(i:Nat)(v:Value)(rest:List (Nat×Value))(off size:Nat)(hp:place i=some (off,size))(hs:v.cells.size=size)(hl:off+size<=cells.size):
  Instr.fill place cells ((i,v)::rest)=Instr.fill place (setCells cells.toList off v.cells.toList).toArray rest:=by
 rw[Instr.fill,hp];simp only;rw[af (by simp[hs];omega)];congr 1;have:=DF off v.cells.toList 0 cells;rw[jS]at this;rw[<-this,<-Array.foldl_toList,Array.toList_zipIdx]
structure gB(S:Nat->Prop)(w:World)(cs:List PV)(vs:List Value):Prop where
 len:vs.length=cs.length
 one:∀u∈vs,u.oneCell'=true
 rep:∀(j:Nat) x u,cs[j]?=some x->vs[j]?=some u->ay S w x u
theorem gB.mono{S S':Nat->Prop}{w:World}{cs:List PV}{vs:List Value}(h:gB S w cs vs)(hS:∀b,S b->S' b):gB S' w cs vs:=
 ⟨h.len,h.one,fun j x u h1 h2=>(h.rep j x u h1 h2).mono hS (fun _ _=>rfl)⟩
theorem gB.set{S:Nat->Prop}{w:World}{cs ys:List PV}{vs us:List Value}(h:gB S w cs vs)(g:gB S w ys us)(off:Nat)(hl:off+ys.length<=cs.length):gB S w (setCells cs off ys) (setCells vs off us):=by
 have e1:=fun j=>b8 ys cs off j hl;have e2:=fun j=>b8 us vs off j (by rw[g.len,h.len];exact hl);refine⟨by rw[bL,bL,h.len],fun u hu=>?_,fun j x u hj hu=>?_⟩
 ·obtain⟨j,hj⟩:=cf.1 hu;rw[e2]at hj;split at hj
  ·exact g.one u (aj hj)
  exact h.one u (aj hj)
 rw[e1]at hj;rw[e2,g.len]at hu;split at hj
 ·rename_i iR;rw[ae iR]at hu;exact g.rep _ x u hj hu
 rename_i iR;rw[af iR]at hu;exact h.rep _ x u hj hu
theorem tO{S:Nat->Prop}{w:World}{x:PV}{ys:List PV}{v:Value}(h:mZ x=some ys)(hx:ay S w x v):gB S w ys v.cells.toList:=by
 obtain⟨h1,h2,h3⟩:=qc h hx;exact⟨by simpa using h1,h2,fun j y u hj hu=>h3 j y u hj (by simpa using hu)⟩
variable {A:jR} {V L:Nat->Prop} {rho:Nat->Value} {fs:List (Nat×Nat×Bool)}
theorem BM(hC:aL A.C){t:Nat->AV}{a:Act}{w:World}{h:Nat->AB}(place:Nat->Option (Nat×Nat))(hp:∀(i:Nat) f,fs[i]?=some f->place i=some (f.1,f.2.1)):
  ∀(ps:List (Nat×Operand)) (h':Nat->AB) (S:Nat->Prop) (cs:List PV) (vs:List Value) (K:List PV->List (Nat×AB)->Prop),(∀p∈ps,∀j,p.2=.tmp j->V j)->aU A V L S rho ⟨t,h'⟩ a w->kM h h'->gB S w cs vs->gd h fs (ev t) ps cs K ->
  ∃dB fz S' iE,K dB fz/\aU A V L S' rho ⟨t,app h' fz⟩ a w/\kM h (app h' fz)/\gB S' w dB iE/\Instr.fill place vs.toArray (ps.map fun p=>(p.1,a.eval p.2))=some iE.toArray/\(∀p∈fz,L p.1):=by
 intro ps
 induction ps with
 | nil=>intro h' S cs vs K _ sim hF hc hq;exact⟨cs,[],S,vs,hq,sim,hF,hc,rfl,by simp⟩
 | cons p ps ih=>
  intro h' S cs vs K hV sim hF hc hq;obtain⟨i,x⟩:=p;unfold gd at hq;split at hq
  ·rename_i off size ag Fu;have hx:=aH sim x fun j hj=>hV (i,x) (by simp) j hj;obtain⟨y,fz,S2,hq,aJ,hrep,nX,C3,wU⟩:=e8 hC sim hF hx hq;split at hq
   ·rename_i ys Dx;split at hq
    ·rename_i eA;simp only[qK]at eA;have e1:=dC eA.1;have e2:=gi eA.2;have hok:=tO Dx hrep;obtain⟨dB,jr,S',iE,k1,k2,k3,k4,k5,k9⟩:=ih (app h' fz) S2 _ _ _ (fun p hp=>hV p (by simp[hp])) aJ C3 ((hc.mono nX).set hok off (by omega)) hq;refine⟨dB,fz++jr,S',iE,k1,by rw[bJ];exact k2,by rw[bJ];exact k3,k4,?_,fun p hp=>(cX.1 hp).elim (wU p) (k9 p)⟩;rw[qO,jB place _ i _ _ off size (hp i _ Fu) (by simpa [e1] using hok.len) (by simp[hc.len];omega)];exact k5
    exact hq.elim
   exact hq.elim
  exact hq.elim
theorem DG{P:Program}{t:TypeId}{size bytes:Nat}{zero:List Value}{eq:Bool}(dr:jw P t ⟨.st fs,size,bytes,zero,eq⟩){l:List (Nat×Value)}{iE:Array Value}
  (k5:Instr.fill (fun i=>(fs[i]?).map fun f=>(f.1,f.2.1)) zero.toArray l=some iE):P.built t l=some iE:=by
 obtain⟨info,z,hi,hsz,QW,hz,dN,ga⟩:=dr.info;obtain⟨gs,mH,hl,hf⟩:=dr.under;simp only at dN;have vi:gs.toList.mapM (fun f=>(P.info? f.type).map fun i=>(f.offset,i.size))=some (fs.map fun f=>(f.1,f.2.1)):=by
  have gen:∀(gl:List Field) (fl:List (Nat×Nat×Bool)),fl.length=gl.length->(∀(i:Nat) f g,fl[i]?=some f->gl[i]?=some g->f.1=g.offset/\(∃i2,P.info? g.type=some i2/\i2.size=f.2.1))->gl.mapM (fun f=>(P.info? f.type).map fun i=>(f.offset,i.size))=some (fl.map fun f=>(f.1,f.2.1)):=by
   intro gl
   induction gl with
   | nil=>intro fl h1 _;have:fl=[]:=cW h1;subst this;rfl
   | cons g gl ih=>
    intro fl h1 h2;cases fl with
    | nil=>simp at h1
    | cons f fl=>
     obtain⟨e1,i2,e2,e3⟩:=h2 0 f g rfl rfl;have:=ih fl (by simpa using h1) (fun i f g h3 h4=>h2 (i+1) f g (by simpa using h3) (by simpa using h4));rw[Am,e2,this];simp[e1,e3]
  exact gen gs.toList fs (by simpa using hl) (fun i f g h3 h4=>by
   obtain⟨e1,_,e2,_⟩:=hf i f g h3 (by simpa using h4);exact⟨e1,e2⟩)
 unfold Program.built;rw[hi,mH];simp only[hz,vi,dN];rw[<-k5];congr 1;funext i;simp
theorem BN{S:Nat->Prop}{s:AS}{a:Act}{w:World}(sim:aU A V L S rho s a w)(place:Nat->Option (Nat×Nat))(hp:∀(i:Nat) f,fs[i]?=some f->place i=some (f.1,f.2.1)):
  ∀(ps:List (Nat×Operand)) (cs:List AV) (vs:List Value) (K:List AV->Prop),(∀p∈ps,∀j,p.2=.tmp j->V j)->cs.length=vs.length->(∀u∈vs,u.oneCell'=true)->(∀(i:Nat) c u,cs[i]?=some c->vs[i]?=some u->aE S w A.C.P L rho s.h c u)->gf s.h fs (ev s.t) ps cs K ->
  ∃(dB:List AV) (iE:List Value),K dB/\dB.length=iE.length/\(∀u∈iE,u.oneCell'=true)/\(∀(i:Nat) c u,dB[i]?=some c->iE[i]?=some u->aE S w A.C.P L rho s.h c u)/\Instr.fill place vs.toArray (ps.map fun p=>(p.1,a.eval p.2))=some iE.toArray:=by
 intro ps
 induction ps with
 | nil=>intro cs vs K _ hl h1 hc hq;exact⟨cs,vs,hq,hl,h1,hc,rfl⟩
 | cons p ps ih=>
  intro cs vs K hV hl h1 hc hq;obtain⟨i,x⟩:=p;unfold gf at hq;split at hq
  ·rename_i off size ag Fu;have hx:=aH sim x fun j hj=>hV (i,x) (by simp) j hj;split at hq
   ·rename_i ys Dx;split at hq
    case h_2=>exact hq.elim
    rename_i eA;simp only[qK]at eA;obtain⟨e1,e2⟩:=eA;have e1:=dC e1;have e2:=gi e2;rw[De Dx]at hx;obtain⟨us,hv,q1,q2,q3⟩:=hx.cb.kW;have iQ:(a.eval x).cells=us:=by rw[hv];rfl
    obtain⟨dB,iE,k1,k2,k3,k4,k5⟩:=ih (setCells cs off (ys.map .p)) (setCells vs off us.toList) K (fun p hp=>hV p (by simp[hp])) (by rw[bL,bL,hl]) (fun u hu=>by
      obtain⟨j,hj⟩:=cf.1 hu;rw[b8 us.toList vs off j (by simp;omega)]at hj;split at hj
      ·exact q2 u (aj hj)
      ·exact h1 u (aj hj)) (fun j c u hj hu=>by
      rw[b8 _ _ _ _ (by simp;omega)]at hj;rw[b8 _ _ _ _ (by simp;omega)]at hu;simp only[Al,Tk]at hj hu;split at hj
      ·rename_i Iu;rw[ae (by rw[<-q1];exact Iu)]at hu;rw[ao]at hj;obtain⟨z,hz,rfl⟩:=az.1 hj;exact .p _ _ (q3 _ z u hz (by simpa using hu))
      rename_i Iu;rw[af (by rw[<-q1];exact Iu)]at hu;exact hc j c u hj hu) hq
    refine⟨dB,iE,k1,k2,k3,k4,?_⟩;rw[qO,jB place _ i _ _ off size (hp i _ Fu) (by rw[iQ,<-q1,e1]) (by simp;omega),iQ];exact k5
   split at hq
   ·rename_i eA;simp only[qK]at eA;obtain⟨⟨e1,e2⟩,e3⟩:=eA;have e1:=dC e1;have e2:=gi e2;have o1:=To sim e3 hx;have iQ:=cells_one o1;have hlen:off<vs.length:=by omega
    obtain⟨dB,iE,k1,k2,k3,k4,k5⟩:=ih (cs.set off (ev s.t x)) (vs.set off (a.eval x)) K (fun p hp=>hV p (by simp[hp])) (by simp[hl]) (fun u hu=>by
      rcases cw hu with h | h
      ·exact h1 u h
      ·rw[h];exact o1) (fun j c u hj hu=>by
      by_cases e:j=off
      ·subst e;rw[aP (by omega)]at hj hu;injection hj with hj;injection hu with hu;subst hj hu;exact hx
      rw[bw (fun e'=>e e'.symm)]at hj hu;exact hc j c u hj hu) hq
    refine⟨dB,iE,k1,k2,k3,k4,?_⟩;rw[qO,jB place _ i _ _ off size (hp i _ Fu) (by rw[iQ,e1];rfl) (by simp;omega),iQ];exact k5
   exact hq.elim
  exact hq.elim
theorem DH{o:Oper}(t:TypeId)(ps:Array (Nat×Operand))(aq:o.op=.build t ps):eD A o:=by
 intro V L S rho s a w K next Q hC sim hV hd hq _ hnext
 simp only[aZ,aq]at hq;split at hq
 ·rename_i fs size bytes zero eq hT;have dr:=(hC.eL t _ hT).under;obtain⟨info,z,hi,hsz,QW,hz,dN,ga⟩:=(hC.eL t _ hT).info;obtain⟨gs,mH,hl,hf⟩:=dr;simp only at dN ga;have DI:∀(i:Nat) f,fs[i]?=some f->(fun i=>(fs[i]?).map fun f=>(f.1,f.2.1)) i=some (f.1,f.2.1):=fun i f h=>by simp[h]
  split at hq
  case h_2=>
   obtain⟨dB,iE,k1,k2,k3,k4,k5⟩:=BN sim (fun i=>(fs[i]?).map fun f=>(f.1,f.2.1)) DI ps.toList (zero.map Bx) zero (fun cs=>K (.st cs) [] none)
    (fun p hp j hj=>hV j (by simp[aq,Op.operands];exact⟨p.1,by rw[<-hj];exact fm.1 hp⟩)) (by simp) ga (fun j x u hj hu=>by
     rw[ao,hu]at hj;simp at hj;rw[<-hj];exact rF _ _ _ _ _ _ u) hq
   have yM:=DG (hC.eL t _ hT) k5;exact ar sim hd hnext k1 (.st _ iE.toArray (by simpa using k2) (by simpa using k3) (fun i c u h1 h2=>k4 i c u h1 (by simpa using h2))) (by
    have hr:=run_build (P:=A.C.P) w t (ps.map fun p=>(p.1,a.eval p.2)) iE.toArray (by simpa using yM);simp only[execOp,aq,aI];rw[hr];simp)
  obtain⟨dB,fz,S',iE,k1,k2,k3,k4,k5,_⟩:=BM hC (fun i=>(fs[i]?).map fun f=>(f.1,f.2.1)) DI ps.toList s.h S (zero.map (Kc (A.C.bn t))) zero (fun cs fz=>K (.p (.ag cs)) fz none)
   (fun p hp j hj=>hV j (by simp[aq,Op.operands];exact⟨p.1,by rw[<-hj];exact fm.1 hp⟩)) sim (kM.refl _) ⟨by simp,ga,fun j x u hj hu=>by
    rw[ao,hu]at hj;simp at hj;rw[<-hj];exact Au _ _ _ u⟩ hq
  have vi:gs.toList.mapM (fun f=>(A.C.P.info? f.type).map fun i=>(f.offset,i.size))=some (fs.map fun f=>(f.1,f.2.1)):=by
   have gen:∀(gl:List Field) (fl:List (Nat×Nat×Bool)),fl.length=gl.length->(∀(i:Nat) f g,fl[i]?=some f->gl[i]?=some g->f.1=g.offset/\(∃i2,A.C.P.info? g.type=some i2/\i2.size=f.2.1))->gl.mapM (fun f=>(A.C.P.info? f.type).map fun i=>(f.offset,i.size))=some (fl.map fun f=>(f.1,f.2.1)):=by
    intro gl
    induction gl with
    | nil=>intro fl h1 _;have:fl=[]:=cW h1;subst this;rfl
    | cons g gl ih=>
     intro fl h1 h2;cases fl with
     | nil=>simp at h1
     | cons f fl=>
      obtain⟨e1,i2,e2,e3⟩:=h2 0 f g rfl rfl;have:=ih fl (by simpa using h1) (fun i f g h3 h4=>h2 (i+1) f g (by simpa using h3) (by simpa using h4));rw[Am,e2,this];simp[e1,e3]
   exact gen gs.toList fs (by simpa using hl) (fun i f g h3 h4=>by
    obtain⟨e1,_,e2,_⟩:=hf i f g h3 (by simpa using h4);exact⟨e1,e2⟩)
  have yM:A.C.P.built t (ps.toList.map fun p=>(p.1,a.eval p.2))=some iE.toArray:=by
   unfold Program.built;rw[hi,mH];simp only[hz,vi,dN];rw[<-k5];congr 1;funext i;simp
  refine tM (s:=s) k2 hd hnext k1 (v:=.agg iE.toArray) (.p _ _ (.ag _ _ (by simp[k4.len]) (by simpa using k4.one) fun i c v h1 h2=>k4.rep i c v h1 (by simpa using h2))) ?_;have hr:=run_build (P:=A.C.P) w t (ps.map fun p=>(p.1,a.eval p.2)) iE.toArray (by simpa using yM);simp only[execOp,aq,aI];rw[hr];simp
 exact hq.elim
theorem BO{S:Nat->Prop}{s:AS}{a:Act}{w:World}{b:Bool}(hC:aL A.C){h:Nat->AB}(sim:aU A V L S rho s a w)(hF:kM h s.h){x:AV}{v:Value}(hx:aE S w A.C.P L rho s.h x v){K:PV->List (Nat×AB)->Prop}(hq:qa b h x K):
  ∃y fz S',K y fz/\aU A V L S' rho ⟨s.t,app s.h fz⟩ a w/\ay S' w y v/\(∀b,S b->S' b)/\kM h (app s.h fz)/\(∀p∈fz,L p.1):=by
 unfold qa at hq;split at hq
 ·have:v=.slice none 0 0:=by cases hx;rfl
  rw[this];exact⟨_,[],S,hq,sim,.im _,fun _ h=>h,hF,by simp⟩
 exact e8 hC sim hF hx hq
theorem rM(hC:aL A.C){t:Nat->AV}{a:Act}{w:World}{h:Nat->AB}{size:Nat}{b:Bool}:
  ∀(ps:List (Nat×Operand)) (h':Nat->AB) (S:Nat->Prop) (es:List (List PV)) (vs:List Value) (K:List (List PV)->List (Nat×AB)->Prop),(∀p∈ps,∀j,p.2=.tmp j->V j)->aU A V L S rho ⟨t,h'⟩ a w->kM h h'->Flat S w size es vs->eC b h size (ev t) ps es K ->
  ∃bW fz S' iE,K bW fz/\aU A V L S' rho ⟨t,app h' fz⟩ a w/\kM h (app h' fz)/\Flat S' w size bW iE/\bW.length=es.length/\Instr.fill (fun i=>some (i*size,size)) vs.toArray (ps.map fun p=>(p.1,a.eval p.2))=some iE.toArray/\(∀p∈fz,L p.1):=by
 intro ps
 induction ps with
 | nil=>intro h' S es vs K _ sim hF hc hq;exact⟨es,[],S,vs,hq,sim,hF,hc,rfl,rfl,by simp⟩
 | cons p ps ih=>
  intro h' S es vs K hV sim hF hc hq;obtain⟨i,x⟩:=p;unfold eC at hq;have hx:=aH sim x fun j hj=>hV (i,x) (by simp) j hj;obtain⟨y,fz,S2,hq,aJ,hrep,nX,C3,wU⟩:=BO hC sim hF hx hq;split at hq
  ·rename_i ys Dx;split at hq
   ·rename_i eA;simp only[qK]at eA;have e1:=dC eA.1;have e2:i<es.length:=dT eA.2;have hok:=tO Dx hrep;have K8:(a.eval x).cells.toList.length=size:=by rw[hok.len,e1]
    have hb:i*size+size<=vs.length:=by rw[hc.len,<-bR];exact ba _ e2
    obtain⟨bW,jr,S',iE,k1,k2,k3,k4,k5,k6,k9⟩:=ih (app h' fz) S2 _ _ _ (fun p hp=>hV p (by simp[hp])) aJ C3 ((hc.mono nX (fun _ _=>rfl)).set i e2 ys _ e1 K8 hok.one (fun j y u h1 h2=>hok.rep j y u h1 h2)) hq;refine⟨bW,fz++jr,S',iE,k1,by rw[bJ];exact k2,by rw[bJ];exact k3,k4,by rw[k5,aF],?_,fun p hp=>(cX.1 hp).elim (wU p) (k9 p)⟩;rw[qO,jB _ _ i _ _ (i*size) size rfl (by simpa using K8) (by simpa using hb)];exact k6
   exact hq.elim
  exact hq.elim
theorem tl{o:Oper}(t:TypeId)(len:Nat)(ps:Array (Nat×Operand))(aq:o.op=.buildSlice t len ps):eD A o:=by
 intro V L S rho s a w K next Q hC sim hV hd hq hn hnext
 simp only[aZ,aq]at hq;split at hq
 ·rename_i e size bytes zero eq hT;have dr:=(hC.eL t _ hT).under;simp only at dr;split at hq
  ·rename_i te nf;obtain⟨ie,ze,hX,qT,BL,DC,DD,ga⟩:=(hC.eL e te nf).info;have Kl:=(hC.eL e te nf).Dk;split at hq
   ·rename_i eA;simp only[qK]at eA;have hpos:0<te.size:=dT eA.1;have St:=gi eA.2;split at hq
    ·rename_i K9;split at hq
     case h_2=>exact hq.elim
     rename_i x hps;split at hq
     case h_2=>exact hq.elim
     rename_i DJ;simp only[qK]at DJ;have yN:=dC DJ.1;have hps:ps=#[(0,x)]:=by rw[<-lX (xs:=ps),hps]
     have hx:=aH sim x fun j hj=>hV j (by simp[aq,Op.operands,hps,hj]);have o1:=To sim DJ.2 hx;obtain⟨hL,hb⟩:=hn _ _ _ hq;have hrun:(execOp a.eval o).run A.C.P w=.ok (.value (.slice (some ⟨w.heap.size,0,none⟩) 1 1)) (w.alloc (.cells #[a.eval x] e)):=by
      have hsz:(Go.sizeOf e).run A.C.P w=.ok te.size w:=(hC.eL e te nf).sizeOf w;have K_:(zeroValue e).run A.C.P w=.ok ze w:=by simp[zeroValue,typeInfo,hX,DC]
      obtain⟨z0,IK⟩:∃z0,te.zero=[z0]:=by
       have:te.zero.length=1:=by rw[Kl,yN]
       match h:te.zero,this with
       | [z0],_=>exact⟨z0,rfl⟩
      have NQ:ze.cells=#[z0]:=by rw[DD,IK]
      have La:Instr.fill (fun i=>some (i*te.size,te.size)) ((Array.range (1*te.size)).map (#[z0][· % (#[z0]:Array Value).size]!)) (ps.map fun p=>(p.1,a.eval p.2)).toList=some #[a.eval x]:=by
       rw[hps];have h0:(Array.range (1*te.size)).map (#[z0][· % (#[z0]:Array Value).size]!)=#[z0]:=by
        rw[yN,show Array.range (1*1)=#[0] by decide];simp
       rw[h0];rw[show (Array.map (fun p:Nat×Operand=>(p.1,a.eval p.2)) #[(0,x)]).toList=[(0,a.eval x)] by simp];rw[jB _ _ 0 _ _ 0 1 (by rw[yN]) (by rw[cells_one o1];rfl) (by simp),cells_one o1];rfl
      simp only[execOp,aq,Instr.buildSlice,aI,run_underlying dr,br,hsz];rw[af (show ¬1*te.size>2 ^ 24 by rw[yN];decide),af (show ¬1*te.size=0 by rw[yN];decide)];simp only[aI,ct,br,K_];rw[NQ,La];simp[newRow,newObj,Sem.run]
     have Lb:∀T:fu S S w (w.alloc (.cells #[a.eval x] e)) L (fun i=>L i\/i=o.dst.getD 0) rho (ax rho (o.dst.getD 0) (.slice (some ⟨w.heap.size,0,none⟩) 1 1)) s.h s.h,cd S (w.alloc (.cells #[a.eval x] e)) A.C.P (fun i=>L i\/i=o.dst.getD 0) (ax rho (o.dst.getD 0) (.slice (some ⟨w.heap.size,0,none⟩) 1 1)) s.h (o.dst.getD 0) (.ai e [[.av (ev s.t x)]]):=fun T=>by
      show an _ _ _ _ _ (ax rho (o.dst.getD 0) _ (o.dst.getD 0))/\kU _ _ (ax rho (o.dst.getD 0) _ (o.dst.getD 0));rw[ak];have hown:=Uw (base:=0) (e:=e) (size:=te.size) w #[a.eval x] 1 (bd _) (by decide) (by rw[yN];rfl);have HA:∀(a' j:Nat) (r:List HX) e2 w6,([[HX.av (ev s.t x)]]:List (List HX))[a']?=some r->r[j]?=some (.row e2 w6)->False:=fun a' j r e2 w6 h1 h2=>by
       cases a' with
       | zero=>
        simp at h1;subst h1;cases j with
        | zero=>simp at h2
        | succ j=>simp at h2
       | succ a'=>simp at h1
      refine⟨⟨ie,[a.eval x],hX,by omega,by rw[qT];exact hown,fun r hr=>by simp at hr;subst hr;rw[qT,yN];rfl,fun u hu=>by simp at hu;subst hu;exact o1,fun a' r j y ha hj=>?_⟩,fun g a' j u b hg ⟨r,e2,w6,c,ty,m,h1,h2,_⟩=>(HA _ _ _ _ _ h1 h2).elim,fun g a' j a2 j2 u u' b hg ⟨r,e2,w6,c,ty,m,h1,h2,_⟩=>(HA _ _ _ _ _ h1 h2).elim⟩;cases a' with
      | zero=>
       simp at ha;subst ha;cases j with
       | zero=>simp at hj;subst hj;exact⟨a.eval x,by simp,hx.bA T⟩
       | succ j=>simp at hj
      | succ a'=>simp at ha
     have aJ:=sim.jA hC (o.dst.getD 0) (.ai e [[.av (ev s.t x)]]) (sim.gT hd) hL hb (w.alloc (.cells #[a.eval x] e)) rfl rfl rfl (by simp) (fun _=>False) (fun k hk _=>gw _ _ _ hk) (fun _ h=>h.elim) (.slice (some ⟨w.heap.size,0,none⟩) 1 1)
      (fun g hg=>by
       rcases bN.1 hg with h | ⟨g',a',j,u,_,⟨r,e2,w6,c,ty,m,h1,h2,_⟩,_⟩
       ·simp[bH]at h;subst h;simp
       exfalso;cases a' with
       | zero=>
        simp at h1;subst h1;cases j with
        | zero=>simp at h2
        | succ j=>simp at h2
       | succ a'=>simp at h1) Lb
     exact bS hrun (hnext _ _ _ S _ _ _ hq (aJ.value o.dst hd _ _ (.ow _ _ fun _=>⟨.inr rfl,(ak _ _ _).symm⟩)))
    split at hq
    ·rename_i QX;obtain⟨bW,fz,S',iE,k1,k2,k3,k4,k5,k6,k9⟩:=rM hC ps.toList s.h S _ _ (fun es fz=>K (.ow (o.dst.getD 0)) fz (some (.row e es)))
      (fun p hp j hj=>hV j (by simp[aq,Op.operands];exact⟨p.1,by rw[<-hj];exact fm.1 hp⟩)) sim (kM.refl _) (Flat.zero false S w (hC.eL e te nf) hpos len) hq
     rw[uX]at k5;obtain⟨hL,hb⟩:=hn _ _ _ k1;have HB:(app s.h fz) (o.dst.getD 0)=.row e bW:=by
      rw[fo (fun p hp (e:p.1=_)=>hL (by rw[<-e];exact k9 p hp)),hb]
     have hrun:(execOp a.eval o).run A.C.P w=.ok (.value (.slice (some ⟨w.heap.size,0,none⟩) len len)) (w.alloc (.cells iE.toArray e)):=by
      have e0:len*te.size=(Array.range (len*te.size)).size:=by simp
      have NR:¬16777216<len*te.size:=by omega
      have Lc:Instr.fill (fun i=>some (i*te.size,te.size)) ((Array.range (len*te.size)).map (te.zero.toArray[· % te.zero.toArray.size]!)) (ps.map fun p=>(p.1,a.eval p.2)).toList=some iE.toArray:=by
       rw[uZ];rw[<-k6]
      have hsz:(Go.sizeOf e).run A.C.P w=.ok te.size w:=(hC.eL e te nf).sizeOf w;simp only[execOp,aq,Instr.buildSlice,aI,run_underlying dr,br,hsz];rw[af (show ¬len*te.size>2 ^ 24 by omega)];by_cases h0:len*te.size=0
      ·rw[ae h0];have k7:Instr.fill (fun i=>some (i*te.size,te.size)) ((Array.range (len*te.size)).map ((#[]:Array Value)[· % (#[]:Array Value).size]!)) (ps.map fun p=>(p.1,a.eval p.2)).toList=some iE.toArray:=by
        have IK:∀f:Nat->Value,(Array.range 0).map f=#[]:=fun f=>by apply gV;simp
        rw[<-Lc,h0,IK,IK]
       simp only[aI,ct,br];rw[k7];simp[newRow,newObj,Sem.run]
      rw[af h0];have K_:(zeroValue e).run A.C.P w=.ok ze w:=by simp[zeroValue,typeInfo,hX,DC]
      simp only[aI,ct,br,K_];rw[DD,Lc];simp[newRow,newObj,Sem.run]
     have aJ:=k2.new hC (o.dst.getD 0) _ (k2.gT hd) hL HB (w.alloc (.cells iE.toArray e)) rfl rfl rfl (by simp) (fun _=>False) (fun k hk _=>gw _ _ _ hk) (fun _ h=>h.elim) (.slice (some ⟨w.heap.size,0,none⟩) len len)
      (fun g hg=>by simp[bH]at hg;subst hg;simp) (fun T=>by
       show an A.C.P _ _ e _ (ax rho (o.dst.getD 0) _ (o.dst.getD 0));rw[ak];refine an.of_flat hX (by omega) ?_ (by rw[qT];exact k4.mono T.hS T.keep);have:=Uw (base:=0) (e:=e) (size:=te.size) w iE.toArray len (bd _) (by simp only[maxLen];have:=aW len hpos;omega) (by simp[k4.len,k5]);rw[qT,k5];exact this)
     exact bS hrun (hnext _ _ _ S' _ _ _ k1 (aJ.value o.dst hd _ _ (.ow _ _ fun _=>⟨.inr rfl,(ak _ _ _).symm⟩)))
    rename_i QX;obtain⟨bW,fz,S',iE,k1,k2,k3,k4,k5,k6,k9⟩:=rM hC ps.toList s.h S _ _ (fun es fz=>K (.ow (o.dst.getD 0)) fz (some (.f_ es)))
     (fun p hp j hj=>hV j (by simp[aq,Op.operands];exact⟨p.1,by rw[<-hj];exact fm.1 hp⟩)) sim (kM.refl _) (Flat.zero false S w (hC.eL e te nf) hpos len) hq
    rw[uX]at k5;obtain⟨hL,hb⟩:=hn _ _ _ k1;have HB:(app s.h fz) (o.dst.getD 0)=.f_ bW:=by
     rw[fo (fun p hp (e:p.1=_)=>hL (by rw[<-e];exact k9 p hp)),hb]
    have hrun:(execOp a.eval o).run A.C.P w=.ok (.value (.slice (some ⟨w.heap.size,0,none⟩) len len)) (w.alloc (.cells iE.toArray e)):=by
     have e0:len*te.size=(Array.range (len*te.size)).size:=by simp
     have NR:¬16777216<len*te.size:=by omega
     have Lc:Instr.fill (fun i=>some (i*te.size,te.size)) ((Array.range (len*te.size)).map (te.zero.toArray[· % te.zero.toArray.size]!)) (ps.map fun p=>(p.1,a.eval p.2)).toList=some iE.toArray:=by
      rw[uZ];rw[<-k6]
     have hsz:(Go.sizeOf e).run A.C.P w=.ok te.size w:=(hC.eL e te nf).sizeOf w;simp only[execOp,aq,Instr.buildSlice,aI,run_underlying dr,br,hsz];rw[af (show ¬len*te.size>2 ^ 24 by omega)];by_cases h0:len*te.size=0
     ·rw[ae h0];have k7:Instr.fill (fun i=>some (i*te.size,te.size)) ((Array.range (len*te.size)).map ((#[]:Array Value)[· % (#[]:Array Value).size]!)) (ps.map fun p=>(p.1,a.eval p.2)).toList=some iE.toArray:=by
       have IK:∀f:Nat->Value,(Array.range 0).map f=#[]:=fun f=>by apply gV;simp
       rw[<-Lc,h0,IK,IK]
      simp only[aI,ct,br];rw[k7];simp[newRow,newObj,Sem.run]
     rw[af h0];have K_:(zeroValue e).run A.C.P w=.ok ze w:=by simp[zeroValue,typeInfo,hX,DC]
     simp only[aI,ct,br,K_];rw[DD,Lc];simp[newRow,newObj,Sem.run]
    have C4:Fr (fun _=>False) w (w.alloc (.cells iE.toArray e)):=⟨rfl,rfl,rfl,by simp,fun k hk _=>gw _ _ _ hk⟩;have grow:=k2.KW hC (w.alloc (.cells iE.toArray e)) C4 (fun b=>S' b\/b=w.heap.size) (fun b h=>.inl h) (fun b h=>by
     rcases h with h | h
     ·exact bg (k2.st b h) C4.size
     subst h;simp) (fun b h=>h.imp id fun h=>by omega)
    have rr:an A.C.P (w.alloc (.cells iE.toArray e)) (ay S' (w.alloc (.cells iE.toArray e))) e bW (.slice (some ⟨w.heap.size,0,none⟩) len len):=by
     refine an.of_flat hX (by omega) ?_ (by rw[qT];exact k4.mono (fun _ h=>h) (fun b hb=>gw _ _ _ (k2.st b hb)));have:=Uw (base:=0) (e:=e) (size:=te.size) w iE.toArray len (bd _) (by simp only[maxLen];have:=aW len hpos;omega) (by simp[k4.len,k5]);rw[qT,k5];exact this
    have F3:ay (fun b=>S' b\/b=w.heap.size) (w.alloc (.cells iE.toArray e)) (.sl bW) (.slice (some ⟨w.heap.size,0,none⟩) len len):=rr.yG (fun b h=>.inl h) (fun g hg=>by simp[bH]at hg;exact .inr hg.symm);have aJ:=grow.Iy (o.dst.getD 0) bW (k2.gT hd) hL HB _ F3;exact bS hrun (hnext _ _ _ _ _ _ _ k1 (aJ.value o.dst hd _ _ (.ow _ _ fun _=>⟨.inr rfl,(ak _ _ _).symm⟩)))
   exact hq.elim
  exact hq.elim
 exact hq.elim
end Go.AM
namespace Go.AM
open Go.RowKit
theorem DK:∀{a b:List Nat},MQ a b=true->a=b
 | [],[],_=>rfl
 | [],_::_,h=>by cases h
 | _::_,[],h=>by cases h
 | a::r,b::s,h=>by
  unfold MQ at h;split at h
  ·rename_i e;rw[bq e,DK h]
  cases h
theorem yO{a b:MK}(h:MR a b=true):a=b:=by
 cases a with
 | str=>cases b with | str=>rfl | int k=>cases h | st s=>cases h
 | int k=>cases b with
  | str=>cases k<;>cases h
  | int k'=>cases k<;>cases k'<;>first | rfl | cases h
  | st s=>cases k<;>cases h
 | st s=>cases b with
  | str=>cases h
  | int k=>cases k<;>cases h
  | st s'=>rw[DK h]
def descOf:MK->TypeDesc
 | .str=>.string
 | .int k=>.int k
 | .st _=>.string
def vj:MK->Prop
 | .st _=>False
 | _=>True
variable {mk:MK}
theorem yP{P:Program}{t:TypeId}{ti:TI}(h:jw P t ti)(hp:vj mk)(hm:tb ti=some mk):P.underlying t=some (descOf mk):=by
 have hu:=h.under;unfold tb at hm;cases NS:ti.ud<;>rw[NS]at hm hu<;>simp only at hm<;>first
  | (cases hm;done)
  | (injection hm with hm;subst hm;exact hu)
  | (
    split at hm
    ·obtain⟨s,_,rfl⟩:=az.1 hm;exact hp.elim
    cases hm)
theorem tp:∀{sh:List Nat} {cs:List PV} {l:List Value},iB sh cs=some l->cs=l.map .im/\gZ sh l:=by
 intro sh
 induction sh with
 | nil=>
  intro cs l h;cases cs with
  | nil=>injection h with h;subst h;exact⟨rfl,trivial⟩
  | cons c cs=>cases h
 | cons n sh ih=>
  intro cs l h;cases cs with
  | nil=>simp[iB]at h
  | cons c cs=>
   unfold iB at h;split at h
   all_goals first
    | contradiction
    | (
      rename_i h1 h2;injection h1 with h1 mP;injection h2 with h2 nG;subst h1 mP h2 nG;obtain⟨l',hl,rfl⟩:=az.1 h;obtain⟨i1,i2⟩:=ih hl;subst i1
      first
       | exact⟨rfl,trivial,i2⟩
       | exact⟨rfl,rfl,i2⟩)
    | (cases h)
variable {k:Value}
theorem nj{a:AV}(h:keyOf mk a=some k):∃x,a=.p x/\mk.ok k/\∀S w v,ay S w x v->v=k:=by
 unfold keyOf at h;split at h
 ·injection h with h;subst h;exact⟨_,rfl,trivial,fun S w v hv=>hv.bc⟩
 ·injection h with h;subst h;exact⟨_,rfl,rfl,fun S w v hv=>hv.bc⟩
 ·obtain⟨l,hl,rfl⟩:=az.1 h;obtain⟨rfl,h2⟩:=tp hl;refine⟨_,rfl,by simpa [MK.ok] using h2,fun S w v hv=>?_⟩;obtain⟨xs,e1,It,_,Iu⟩:=hv.kW;rw[e1];congr 1;apply gV;apply fj;intro i;by_cases hi:i<xs.size
  ·have mI:i<l.length:=by
                  have:l.length=xs.size:=by simpa using It
                  omega
   have:=(Iu i (.im l[i]) xs[i] (by rw[ao,aM mI];rfl) (bE hi)).bc;rw[cg,bE hi,this];simp[mI]
  have mI:¬i<l.length:=by
                  have:l.length=xs.size:=by simpa using It
                  omega
  rw[dI (by simpa using hi),dI (by simpa using mI)]
 cases h
theorem yQ(hp:vj mk){a b:Value}(ha:mk.ok a)(hb:mk.ok b):Instr.sameNow (descOf mk) a b=some (yx a b):=by
 cases mk with
 | str=>
  cases a<;>first | (exact ha.elim) | skip
  cases b<;>first | (exact hb.elim) | skip
  simp only[Instr.sameNow,descOf,yx];congr 1;rw[gU,qP];simp
 | int k=>
  cases a<;>first | (exact ha.elim) | skip
  cases b<;>first | (exact hb.elim) | skip
  have h1:_=k:=ha;have h2:_=k:=hb;subst h1;subst h2;simp[Instr.sameNow,descOf,yx];rw[gU];simp
 | st s=>exact hp.elim
theorem DL(hp:vj mk)(h:mk.ok k):MapKept.IsKey (descOf mk) k:=by
 cases mk with
 | str=>cases k<;>first | (exact h.elim) | exact trivial
 | int j=>cases k<;>first | (exact h.elim) | exact h
 | st s=>exact hp.elim
theorem aL.key{C:Ctx}(hC:aL C){kt:TypeId}{tk:TI}(h:C.T kt=some tk)(hm:tb tk=some mk):As C.P kt mk:=by
 by_cases hp:vj mk
 ·have hu:=yP (hC.eL kt tk h) hp hm;refine⟨fun e k w hk=>MapKept.run_checkKey hu (DL hp hk) e 9999,fun k w ms hk F4=>MapKept.run_findKey hu ?_⟩;generalize 0=i
  induction ms generalizing i with
  | nil=>rfl
  | cons m ms ih=>
   have hs:=yQ hp hk (F4 m dJ);unfold Instr.findNow mN;rw[hs];cases yx k m.key with
   | true=>rfl
   | false=>exact ih (fun x hx=>F4 x (An _ hx)) _
 cases mk with
 | st s=>exact hC.keys kt tk s h hm
 | str=>exact (hp trivial).elim
 | int j=>exact (hp trivial).elim
theorem F5:∀{sh:List Nat} {a b:List Value},gZ sh a->gZ sh b->Ux a b=true->a=b:=by
 intro sh
 induction sh with
 | nil=>
  intro a b ha hb _;cases a with
  | nil=>cases b with
   | nil=>rfl
   | cons y b=>exact hb.elim
  | cons x a=>exact ha.elim
 | cons n sh ih=>
  intro a b ha hb h;cases a with
  | nil=>exact ha.elim
  | cons x a=>cases b with
   | nil=>exact hb.elim
   | cons y b=>
    simp only[Ux,qK]at h;rw[ih ha.2 hb.2 h.2];have e:x=y:=by
     have h1:=ha.1;have h2:=hb.1;unfold yr at h1 h2;split at h1
     ·split at h2<;>first | (exact h2.elim) | (rename_i e1;cases e1;done) | skip
      have:=h.1;simp[yw]at this;rw[this]
     ·split at h2<;>first | (exact h2.elim) | (rename_i e1;cases e1;done) | skip
      have:=h.1;simp[yw]at this;rw[this,h1,h2]
     ·split at h2<;>first | (exact h2.elim) | (rename_i e1;cases e1;done) | skip
      have:=h.1;simp[yw]at this;rw[this]
     exact h1.elim
    rw[e]
theorem IL{a b:Value}(ha:mk.ok a)(hb:mk.ok b)(h:yx a b=true):a=b:=by
 cases mk with
 | str=>
  cases a<;>first | (exact ha.elim) | skip
  cases b<;>first | (exact hb.elim) | skip
  simp[yx]at h;rw[h]
 | int k=>
  cases a<;>first | (exact ha.elim) | skip
  cases b<;>first | (exact hb.elim) | skip
  have h1:_=k:=ha;have h2:_=k:=hb;subst h1;subst h2;simp[yx]at h;rw[h]
 | st s=>
  cases a<;>first | (exact ha.elim) | skip
  cases b<;>first | (exact hb.elim) | skip
  congr 1;exact gV (F5 (sh:=s) ha hb h)
theorem find_spec(hk:mk.ok k):∀(es:List (Value×PV)) (ms:List MapEntry) (j:Nat),ms.length=es.length->(∀(i:Nat) p m,es[i]?=some p->ms[i]?=some m->m.key=p.1/\mk.ok p.1)->
  (mN k ms j=none/\pc es k=none/\∀v,qB es k v=es++[(k,v)])\/
  ∃i m p,mN k ms j=some (j+i,m.val)/\ms[i]?=some m/\es[i]?=some p/\p.1=k/\pc es k=some p.2/\∀v,qB es k v=es.set i (k,v):=by
 intro es
 induction es with
 | nil=>
  intro ms j hl _;have:ms=[]:=cW hl;subst this;exact .inl ⟨rfl,rfl,fun v=>rfl⟩
 | cons p es ih=>
  intro ms j hl DM;cases ms with
  | nil=>cases hl
  | cons m ms=>
   obtain⟨k',u⟩:=p;obtain⟨h1,h2⟩:=DM 0 _ _ rfl rfl;simp only at h1 h2;cases hv:yx k k' with
   | true=>
    refine .inr ⟨0,m,(k',u),?_,rfl,rfl,(IL hk h2 hv).symm,by simp[pc,hv],fun v=>by simp[qB,hv]⟩;simp[mN,h1,hv]
   | false=>
    rcases ih ms (j+1) (by simpa using hl) (fun i p m hp hm=>DM (i+1) p m (by simpa using hp) (by simpa using hm)) with⟨q1,q2,q3⟩ | ⟨i,m',p,q1,q2,q3,q4,q5,q6⟩
    ·exact .inl ⟨by simp[mN,h1,hv,q1],by simp[pc,hv,q2],fun v=>by simp[qB,hv,q3 v]⟩
    refine .inr ⟨i+1,m',p,?_,by simpa using q2,by simpa using q3,q4,by simp[pc,hv,q5],fun v=>by simp[qB,hv,q6 v]⟩;simp only[mN,h1,hv,q1];rw[Tj,Nat.add_comm 1 i]
theorem rN{n:Nat}:∀{sh:List Nat} {l:List Value},gZ sh l->((l.zip l).all fun (x,y)=>Instr.sameBits n x y)=true:=by
 intro sh
 induction sh with
 | nil=>intro l h;cases l with
  | nil=>rfl
  | cons x l=>exact h.elim
 | cons c sh ih=>
  intro l h;cases l with
  | nil=>exact h.elim
  | cons x l=>
   rw[List.zip_cons_cons,Ub,ih h.2,Bool.and_true];have h1:=h.1;unfold yr at h1;split at h1
   ·cases n<;>exact (qP _ _).2 rfl
   ·cases n<;>simp[Instr.sameBits]
   ·cases n<;>simp[Instr.sameBits]
   exact h1.elim
theorem sameBits_self(hk:mk.ok k):Instr.sameBits 10000 k k=true:=by
 cases mk with
 | str=>
  cases k<;>first | (exact hk.elim) | skip
  simp only[Instr.sameBits];exact (qP _ _).2 rfl
 | int j=>
  cases k<;>first | (exact hk.elim) | skip
  simp[Instr.sameBits]
 | st s=>
  cases k<;>first | (exact hk.elim) | skip
  rename_i xs;show (xs.size==xs.size&&(xs.toList.zip xs.toList).all fun (x,y)=>Instr.sameBits 9999 x y)=true;rw[rN (sh:=s) hk];simp
variable {A:jR}
theorem yR{o:Oper}(t:TypeId)(aq:o.op=.makeMap t none):eD A o:=by
 intro V L S rho s a w K next Q hC sim hV hd hq hn hnext
 simp only[aZ,aq]at hq;split at hq
 ·split at hq
  ·split at hq
   ·obtain⟨hL,hdb⟩:=hn _ _ _ hq;have aJ:=sim.new hC (o.dst.getD 0) _ (sim.gT hd) hL hdb (w.alloc (.map #[] 0)) rfl rfl rfl (by simp) (fun _=>False) (fun k hk _=>gw _ _ _ hk) (fun _ h=>h.elim) (.map (some w.heap.size))
     (fun g hg=>by simp[bH]at hg;subst hg;simp) (fun T=>by
      refine⟨w.heap.size,#[],0,ak _ _ _,(MapKept.heap_alloc w _).1,rfl,by simp,List.Pairwise.nil,fun m hm=>by cases hm⟩)
    exact bS (by simp[execOp,aq,Instr.makeMap]) (hnext _ _ _ S _ _ _ hq (aJ.value o.dst hd _ _ (.ow _ _ fun _=>⟨.inr rfl,(ak _ _ _).symm⟩)))
   exact hq.elim
  exact hq.elim
 exact hq.elim
theorem ph{S:Nat->Prop}{w:World}{P:Program}{L:Nat->Prop}{rho:Nat->Value}{h:Nat->AB}{id:Nat}{es:List (Value×PV)}(hh:cd S w P L rho h id (.map mk es)):
  ∃g ms clock,rho id=.map (some g)/\w.heap[g]?=some (.map ms clock)/\ms.size=es.length/\(∀(i:Nat) p m,es[i]?=some p->ms[i]?=some m->m.key=p.1/\mk.ok p.1/\ay S w p.2 m.val)/\jX ms clock:=hh
variable {ms:Array MapEntry}
theorem BP{clock:Nat}(h:jX ms clock)(k v:Value):jX (ms.push { key:=k,val:=v,born:=clock }) (clock+1):=by
 obtain⟨h1,h2⟩:=h;refine⟨?_,fun m hm=>?_⟩
 ·rw[Array.toList_push,aa];refine jW.2 ⟨h1,qQ _ _,fun a ha b hb=>?_⟩;obtain⟨m,hm,rfl⟩:=aV.1 ha;simp at hb;subst hb;exact h2 m hm
 rw[Array.toList_push,cX]at hm;rcases hm with hm | hm
 ·have:=h2 m hm;omega
 simp at hm;subst hm;simp
theorem w7{clock:Nat}(h:jX ms clock)(j:Nat)(k v:Value):jX (ms.modify j fun e=>{ e with key:=k,val:=v }) clock:=by
 have e:(ms.modify j fun e=>{ e with key:=k,val:=v }).toList.map (·.born)=ms.toList.map (·.born):=by
  apply fj;intro i;simp only[ao,cg,qR];split<;>simp[Option.map_map,Function.comp_def]
 obtain⟨h1,h2⟩:=h;refine⟨by rw[e];exact h1,fun m hm=>?_⟩;have hb:m.born∈ms.toList.map (·.born):=by rw[<-e];exact aV.2 ⟨m,hm,rfl⟩
 obtain⟨m',mD,hb⟩:=aV.1 hb;rw[<-hb];exact h2 m' mD
theorem DN{es:List (Value×PV)}{R:PV->Value->Prop}(h3:ms.size=es.length)(h4:∀(i:Nat) p m,es[i]?=some p->ms[i]?=some m->m.key=p.1/\mk.ok p.1/\R p.2 m.val):∀m∈ms.toList,mk.ok m.key:=by
 intro m hm;obtain⟨i,hi,rfl⟩:=iX hm;have mI:i<es.length:=by rw[<-h3];simpa using hi
 obtain⟨q1,q2,_⟩:=h4 i es[i] (ms.toList[i]) (aM mI) (by simp at hi;simp[hi]);rw[q1];exact q2
theorem yS{P:Program}{t:TypeId}{ti:TI}(h:jw P t ti)(hz:yA P t ti)(S:Nat->Prop)(w:World):∃z,(zeroValue t).run P w=.ok z w/\ay S w (j4 ti) z:=by
 obtain⟨info,z,h1,h2,h3,h4,h5,h6,h7,h8⟩:=h;obtain⟨PM,z',g1,g2,g3⟩:=hz;rw[h1]at g1;injection g1 with g1;subst g1;rw[h4]at g2;injection g2 with g2;subst g2;refine⟨z,by simp[zeroValue,typeInfo,h1,h4],?_⟩;unfold j4;cases nU:ti.ud.agg with
 | true=>
  rw[nU]at g3;cases z<;>first | cases g3 | skip
  rename_i cs;have hc:cs=ti.zero.toArray:=h5;subst hc;refine .ag _ _ (by simp) (fun u hu=>h7 u (by simpa using hu)) fun i c v hi hv=>?_;rw[ao]at hi;obtain⟨u,hu,rfl⟩:=az.1 hi;have:u=v:=by simpa [hu] using hv
  subst this;exact nQ S w u
 | false=>
  rw[nU]at g3;have hc:z.cells=#[z]:=by cases z<;>first | rfl | cases g3
  rw[hc]at h5;have:ti.zero=[z]:=by simpa using (qU Array.toList h5).symm
  rw[this];exact nQ S w z
theorem rO{o:Oper}(t:TypeId)(x i:Operand)(ck:Bool){V L S:Nat->Prop}{rho:Nat->Value}{s:AS}{a:Act}{w:World}{K:KK}{next:Act->World->Prop}{Q:Exit->Act->World->Prop}(hC:aL A.C)(sim:aU A V L S rho s a w)(hd:∀d,o.dst=some d->d<A.n)
  (hnext:∀v eff new S' rho' a' w',K v eff new->aU A (mG V o.dst) (nR L new (o.dst.getD 0)) S' rho' ⟨cU s.t o.dst v,app s.h eff⟩ a' w'->next a' w')
  {kt et:TypeId} {te:TI} {mk:MK} {k:Value} {es:List (Value×PV)} {r:Option PV} {g:Nat} {ms:Array MapEntry} {clock:Nat} (nf:A.C.T et=some te) (dr:A.C.P.underlying t=some (.map kt et)) (C5:As A.C.P kt mk) (iS:mk.ok k) (hi:a.eval i=k) (hv:a.eval x=.map (some g)) (h2:w.heap[g]?=some (.map ms clock)) (h3:ms.size=es.length) (h4:∀(i:Nat) p m,es[i]?=some p->ms[i]?=some m->m.key=p.1/\mk.ok p.1/\ay S w p.2 m.val) (hr:pc es k=r)
  (hq:match ck with
   | true=>K (.tu [.p (r.getD (j4 te)),.p (.im (.bool r.isSome))]) [] none
   | false=>K (.p (r.getD (j4 te))) [] none) (aq:o.op=.lookup t x i ck):o.wp A.C.P a w next Q:=by
 obtain⟨z,hz,QY⟩:=yS (hC.eL et te nf) (hC.zs et te nf) S w;have fI:∀m∈ms.toList,mk.ok m.key:=DN h3 h4;have key:∃u,(Instr.lookup t (a.eval x) (a.eval i) ck).run A.C.P w=.ok (if ck then .tuple #[u,.bool r.isSome] else u) w/\ay S w (r.getD (j4 te)) u:=by
  rcases find_spec iS es ms.toList 0 (by simpa using h3) (fun i p m hp hm=>by obtain⟨q1,q2,_⟩:=h4 i p m hp (by simpa using hm);exact⟨q1,q2⟩) with⟨q1,q2,_⟩ | ⟨j,m,p,q1,q2,q3,q4,q5,_⟩
  ·rw[hr]at q2;subst q2;refine⟨z,?_,QY⟩;cases ck<;>simp[Instr.lookup,run_underlying dr,hv,uW h2,hi,C5.check _ _ _ iS,C5.find _ _ _ iS fI,q1,hz]
  rw[hr]at q5;subst q5;refine⟨m.val,?_,(h4 j p m q3 (by simpa using q2)).2.2⟩;cases ck<;>simp[Instr.lookup,run_underlying dr,hv,uW h2,hi,C5.check _ _ _ iS,C5.find _ _ _ iS fI,q1]
 obtain⟨u,hrun,hu⟩:=key;cases ck with
 | true=>
  refine ar sim hd hnext hq (.tu _ _ rfl fun i c v hc hv=>?_) (by simp only[execOp,aq,aI,hrun,br,ct];rfl)
  match i with
  | 0=>simp at hc hv;subst hc hv;exact .p _ _ hu
  | 1=>simp at hc hv;subst hc hv;exact .p _ _ (.im _)
  | i+2=>simp at hc
 | false=>exact ar sim hd hnext hq (.p _ _ hu) (by simp only[execOp,aq,aI,hrun,br,ct];rfl)
theorem BQ{o:Oper}(t:TypeId)(x i:Operand)(ck:Bool)(aq:o.op=.lookup t x i ck):eD A o:=by
 intro V L S rho s a w K next Q hC sim hV hd hq hn hnext
 simp only[aZ,aq]at hq;have hx:=aH sim x fun j hj=>hV j (by simp[aq,Op.operands,hj]);have hi:=aH sim i fun j hj=>hV j (by simp[aq,Op.operands,hj]);split at hq
 case h_2=>exact hq.elim
 rename_i kt et size bytes zero eq hT;have dr:=(hC.eL t _ hT).under;simp only at dr;split at hq
 case h_2=>exact hq.elim
 rename_i tk te NT nf;split at hq
 case h_2=>exact hq.elim
 rename_i mk hmk;have C5:=hC.key NT hmk;split at hq
 ·rename_i id hid;split at hq
  case h_2=>exact hq.elim
  rename_i mk' es tq;split at hq
  case h_2=>exact hq.elim
  rename_i BR;obtain rfl:=yO BR;split at hq
  case h_2=>exact hq.elim
  rename_i k hk;obtain⟨xk,Kk,iS,Ld⟩:=nj hk;obtain⟨r,hr,hq⟩:=hq;rw[hid]at hx;obtain⟨hL,hv⟩:=hx.bu (by rw[tq];trivial);have hh:=sim.hp id hL;rw[tq]at hh;obtain⟨g,ms,clock,h1,h2,h3,h4,_⟩:=ph hh;rw[Kk]at hi;exact rO t x i ck hC sim hd hnext nf dr C5 iS (Ld _ _ _ hi.cb) (hv.trans h1) h2 h3 h4 hr hq aq
 ·rename_i mk' es hid;split at hq
  case h_2=>exact hq.elim
  rename_i BR;obtain rfl:=yO BR;split at hq
  case h_2=>exact hq.elim
  rename_i k hk;obtain⟨xk,Kk,iS,Ld⟩:=nj hk;obtain⟨r,hr,hq⟩:=hq;rw[hid]at hx;obtain⟨g,ms,clock,hv,_,h2,h3,h4,_⟩:=hx.cb.yt;rw[Kk]at hi;exact rO t x i ck hC sim hd hnext nf dr C5 iS (Ld _ _ _ hi.cb) hv h2 (by rw[Al];exact h3) (fun i p m hp hm=>by
   rw[ao,az]at hp;obtain⟨q,hq,rfl⟩:=hp;obtain⟨e1,e2,e3⟩:=h4 i q m hq hm;exact⟨e1,e2,by rw[e3];exact .im _⟩) hr hq aq
 exact hq.elim
theorem BS{es:Array MapEntry}{seen:Array Nat}{e:MapEntry}(he:e∈(leftOf es seen).toList):(leftOf es (seen.push e.born)).size<(leftOf es seen).size:=by
 have h:(leftOf es (seen.push e.born))=(leftOf es seen).filter fun x=>!(x.born==e.born):=by
  unfold leftOf;rw[Array.filter_filter];congr 1;funext x;rw[Array.contains_push];cases seen.contains x.born<;>cases h:x.born==e.born<;>simp_all
 rw[h];rcases Nat.lt_or_ge ((leftOf es seen).filter fun x=>!(x.born==e.born)).size (leftOf es seen).size with h1 | h1
 ·exact h1
 exfalso;have h2:=Array.size_filter_le (p:=fun x=>!(x.born==e.born)) (xs:=leftOf es seen);have h3:=(Array.filter_size_eq_size (p:=fun x=>!(x.born==e.born)) (xs:=leftOf es seen)).1 (Nat.le_antisymm h2 h1);have:=h3 e (by simpa using he);simp at this
theorem run_next_at{P:Program}(w:World)(ty:TypeId)(g bm clock:Nat)(seen:Array Nat)(es:Array MapEntry)(hg:w.heap[g]?=some (.mapIter (some bm) clock seen clock))(hb:w.heap[bm]?=some (.map es clock))(hold:∀x∈es.toList,x.born<clock):
  ((leftOf es seen).size=0/\(Instr.next (.pointer (some ⟨g,0,none⟩)) false ty).run P w=.ok (.tuple #[.bool false]) w)\/
  ∃e∈(leftOf es seen).toList,∃w1:World,w1.heap=w.heap/\w1.os=w.os/\w1.tape=w.tape/\w1.output=w.output /\
   (Instr.next (.pointer (some ⟨g,0,none⟩)) false ty).run P w=.ok (.tuple #[.bool true,e.key,e.val]) { w1 with heap:=w.heap.setIfInBounds g (.mapIter (some bm) clock (seen.push e.born) clock) }:=by
 simp only[Instr.next,getObj,aI,Sem.run,hg,hb,Result.andThen,next_test_false seen es clock clock hold (aC _),aK,if_false];unfold leftOf;have dq:∀x∈(Array.filter (fun e=>!seen.contains e.born) es).toList,x.born<clock:=fun x hx=>hold x (by simp at hx ⊢;exact hx.1);generalize Array.filter (fun e=>!seen.contains e.born) es=L at dq ⊢;have e1:L.filter (fun x=>decide (x.born<clock))=L:=Array.filter_eq_self.2 (fun x hx=>by simpa using dq x (by simpa using hx));have e2:L.filter (fun x=>decide (x.born>=clock))=#[]:=by
  rw[Array.filter_eq_empty_iff];intro x hx;have:=dq x (by simpa using hx);simp;omega
 simp only[e1,e2,Array.append_empty];by_cases h0:L.size=0
 ·left;have:L=#[]:=fK h0;subst this;refine⟨rfl,?_⟩;simp[choose,Sem.run,Question.forced]
 right;have bO:L.isEmpty=false:=by simp[Array.isEmpty,h0]
 simp only[bO,aK,if_false,Array.empty_append,Array.size_map];have QZ:∃(j:Nat) (w1:World),j<L.size/\(w1.heap=w.heap/\w1.os=w.os/\w1.tape=w.tape/\w1.output=w.output)/\(choose (Question.mapNext L.size)).run P w=.ok j w1:=by
  by_cases hf:L.size<=1
  ·exact⟨0,w,by omega,⟨rfl,rfl,rfl,rfl⟩,by simp[choose,Sem.run,Question.forced,hf]⟩
  exact⟨_,w.drew,qM _ (by omega),⟨rfl,rfl,rfl,rfl⟩,by
   simp only[choose,Sem.run,Question.forced,dS,hf,if_false,Question.cut];rfl⟩
 obtain⟨j,w1,hj,⟨q1,q2,q3,q4⟩,hrun⟩:=QZ;refine⟨L[j],by simp,w1,q1,q2,q3,q4,?_⟩;simp only[hrun,uT,bE hj,eM,aI,setObj,Sem.run,Result.andThen,q1,hg];rfl
theorem DO{o:Oper}(t:TypeId)(x:Operand)(aq:o.op=.range t x):eD A o:=by
 intro V L S rho s a w K next Q hC sim hV hd hq hn hnext
 simp only[aZ,aq]at hq;have hx:=aH sim x fun j hj=>hV j (by simp[aq,Op.operands,hj]);split at hq
 case h_2=>exact hq.elim
 rename_i kt et size bytes zero eq hT;have dr:=(hC.eL t _ hT).under;simp only at dr;split at hq
 case h_2=>exact hq.elim
 rename_i mk es hid;rw[hid]at hx;obtain⟨g,ms,clock,hv,hS,h2,h3⟩:=hx.cb.yt;obtain⟨hL,hdb⟩:=hn _ _ _ hq;have dv:=sim.st g hS;have aJ:=sim.new hC (o.dst.getD 0) _ (sim.gT hd) hL hdb (w.alloc (.mapIter (some g) clock #[] clock)) rfl rfl rfl (by simp) (fun _=>False) (fun k hk _=>gw _ _ _ hk) (fun _ h=>h.elim) (.pointer (some ⟨w.heap.size,0,none⟩))
  (fun g hg=>by simp[bH]at hg;subst hg;simp) (fun T=>by
   refine⟨w.heap.size,g,ms,clock,#[],ak _ _ _,heap_alloc_new w _,hS,(heap_alloc_old w _ dv).trans h2,h3,?_,fun p hp=>by cases hp⟩;rw[<-h3.1];simp[leftOf])
 exact bS (by simp[execOp,aq,hv,run_range_map w t _ _ g ms clock dr h2]) (hnext _ _ _ S _ _ _ hq (aJ.value o.dst hd _ _ (.bx _ _ _ fun _=>⟨.inr rfl,_,ak _ _ _,rfl⟩)))
theorem DP{o:Oper}(x:Operand)(aq:o.op=.entry x):eD A o:=by
 intro V L S rho s a w K next Q hC sim hV hd hq hn hnext
 simp only[aZ,aq]at hq;have hx:=aH sim x fun j hj=>hV j (by simp[aq,Op.operands,hj]);split at hq
 case h_2=>exact hq.elim
 rename_i id hid;split at hq
 case h_2=>exact hq.elim
 rename_i mk es k p hit;rw[hid]at hx;obtain⟨hL,g',eY,hv⟩:=hx.dt (by rw[hit];trivial);have hh:=sim.hp id hL;rw[hit]at hh;obtain⟨g,mg,ms,clock,seen,h1,h2,h3,h4,h5,h6,h7⟩:=hh;have eg:g'=g:=by rw[eY]at h1;injection h1 with h1;injection h1 with h1;injection h1
 subst eg;obtain⟨e,he,Hs,rfl,k1,k2⟩:=h7 p rfl;have hf:ms.find? (·.born==e.born)=some e:=by
  rw[<-Array.find?_toList];exact find_born e ms.toList (h5.2.2.1.imp fun h=>Nat.ne_of_lt h) he
 have hrun:(Instr.entry (.pointer (some ⟨g',0,none⟩))).run A.C.P w=.ok (.tuple #[e.key,e.val]) w:=by
  simp only[Instr.entry,getObj,aI,Sem.run,h2,h4,Result.andThen,Array.back?_push,bne_self_eq_false,aK,if_false,hf];rfl
 refine bS (by simp only[execOp,aq,hv,aI,hrun,br,ct];rfl) (hnext _ _ _ S _ _ _ hq (sim.value o.dst hd _ _ (.tu _ _ rfl fun i c v hc hv=>?_)))
 match i with
 | 0=>simp at hc hv;subst hc hv;rw[k1];exact .p _ _ (.im _)
 | 1=>simp at hc hv;subst hc hv;rw[k2];exact .p _ _ (.im _)
 | i+2=>simp at hc
theorem vk{o:Oper}(t:TypeId)(x i y:Operand)(aq:o.op=.mapUpdate t x i y):eD A o:=by
 intro V L S rho s a w K next Q hC sim hV hd hq hn hnext
 simp only[aZ,aq]at hq;have hx:=aH sim x fun j hj=>hV j (by simp[aq,Op.operands,hj]);have hi:=aH sim i fun j hj=>hV j (by simp[aq,Op.operands,hj]);have hy:=aH sim y fun j hj=>hV j (by simp[aq,Op.operands,hj]);split at hq
 case h_2=>exact hq.elim
 rename_i kt et size bytes zero eq hT;have dr:=(hC.eL t _ hT).under;simp only at dr;split at hq
 case h_2=>exact hq.elim
 rename_i tk NT;split at hq
 case h_2=>exact hq.elim
 rename_i mk hmk;have C5:=hC.key NT hmk;split at hq
 case h_2=>exact hq.elim
 rename_i id hid;split at hq
 case h_2=>exact hq.elim
 rename_i mk' es tq;split at hq
 case h_2=>exact hq.elim
 rename_i BR;obtain rfl:=yO BR;split at hq
 case h_2=>exact hq.elim
 rename_i k hk;obtain⟨xk,Kk,iS,Ld⟩:=nj hk;obtain⟨yv,fz,S2,hq,aJ,hrep,nX,hF,wU⟩:=e8 hC sim (kM.refl s.h) hy hq;split at hq
 case h_2=>exact hq.elim
 rename_i tP;have o9:app s.h fz id=.map mk es:=by rw[iD tP];exact tq
 rw[hid]at hx;obtain⟨hL,hv⟩:=hx.bu (by rw[tq];trivial);have hh:=aJ.hp id hL;have hh:cd S2 w A.C.P L rho (app s.h fz) id (app s.h fz id):=hh;rw[o9]at hh;obtain⟨g,ms,clock,h1,h2,h3,h4,MS⟩:=ph hh;rw[Kk]at hi;have hi:=Ld _ _ _ hi.cb;have fI:∀m∈ms.toList,mk.ok m.key:=DN h3 h4;have fin:∀F6 nk,(Instr.mapUpdate t (a.eval x) (a.eval i) (a.eval y)).run A.C.P w=.ok () { w with heap:=w.heap.setIfInBounds g (.map F6 nk) }->F6.size=(qB es k yv).length->jX F6 nk ->
   (∀(i:Nat) p m,(qB es k yv)[i]?=some p->F6[i]?=some m->m.key=p.1/\mk.ok p.1/\ay S2 w p.2 m.val)->o.wp A.C.P a w next Q:=by
  intro F6 nk hrun hsz NU NV;obtain⟨g1,g2⟩:=MapKept.heap_set (o':=.map F6 nk) h2;refine jx (w':={ w with heap:=w.heap.setIfInBounds g (.map F6 nk) }) (by simp only[execOp,aq,aI,hrun,br,ct]) ?_;have cF:=aJ.write hC id hL (by show (app s.h fz id).live;rw[o9];trivial) (.map mk (qB es k yv)) (fun _ h=>by cases h) { w with heap:=w.heap.setIfInBounds g (.map F6 nk) } rfl rfl rfl (by simp) (fun k hk=>g2 k fun e=>hk (by rw[h1,e];rfl)) fun T=>by
   refine⟨g,F6,nk,h1,g1,hsz,fun i p m hp hm=>?_,NU⟩;obtain⟨q1,q2,q3⟩:=NV i p m hp hm;exact⟨q1,q2,q3.mono T.hS T.keep⟩
  have:=hnext _ _ _ S2 _ _ _ hq (by
   rw[bJ];exact cF.value o.dst hd .junk undef (.junk _))
  exact this
 rcases find_spec iS es ms.toList 0 (by simpa using h3) (fun i p m hp hm=>by obtain⟨q1,q2,_⟩:=h4 i p m hp (by simpa using hm);exact⟨q1,q2⟩) with⟨q1,q2,q3⟩ | ⟨j,m,p,q1,q2,q3,q4,q5,q6⟩
 ·refine fin (ms.push { key:=k,val:=a.eval y,born:=clock }) (clock+1) ?_ (by rw[q3];simp[h3]) (BP MS _ _) fun i p m hp hm=>?_
  ·simp[Instr.mapUpdate,run_underlying dr,hv,h1,uW h2,hi,C5.check _ _ _ iS,C5.find _ _ _ iS fI,q1,MapKept.run_setObj_map _ h2]
  rw[q3]at hp;by_cases dv:i<es.length
  ·rw[bQ dv]at hp;rw[Array.getElem?_push_lt (by omega)]at hm;exact h4 i p m hp (by rw[<-hm];exact bE _)
  have hX:i=es.length:=by
   have:=ah hp;simp at this;omega
  subst hX;rw[<-h3]at hm;simp at hp hm;subst hp hm;exact⟨rfl,iS,hrep⟩
 have F4:ms[j]?=some m:=by simpa using q2
 have hmk:m.key=k:=by rw[<-q4];exact (h4 j p m q3 F4).1
 refine fin (ms.modify j fun e=>{ e with key:=k,val:=a.eval y }) clock ?_ (by rw[q6];simp[h3]) (w7 MS _ _ _) fun i p' m' hp hm=>?_
 ·simp[Instr.mapUpdate,run_underlying dr,hv,h1,uW h2,hi,C5.check _ _ _ iS,C5.find _ _ _ iS fI,q1,F4,hmk,Instr.keyThatStays,sameBits_self iS,MapKept.run_setObj_map _ h2]
 rw[q6]at hp;rw[qR]at hm;by_cases e:j=i
 ·subst e;rw[ae rfl,F4]at hm;rw[aP (ah q3)]at hp;simp at hp hm;subst hp hm;exact⟨rfl,iS,hrep⟩
 rw[af e]at hm;rw[bw e]at hp;exact h4 i p' m' hp hm
theorem ok_slice{o:Oper}(t:TypeId)(x:Operand)(lo hi:Option Operand)(aq:o.op=.slice t x lo hi none):eD A o:=by
 intro V L S rho s a w K next Q hC sim hV hd hq hn hnext
 have old:=BI t x lo hi aq hC sim hV hd (K:=K) (Q:=Q) (next:=next);simp only[aZ,aq]at hq;split at hq
 case h_2=>exact old hq hnext
 rename_i id hid;split at hq
 case h_2=>exact old hq hnext
 rename_i e' es ai;rcases hq with hq | hq
 case inr=>exact old hq hnext
 have hx:=aH sim x fun j hj=>hV j (by simp[aq,Op.operands,hj]);have KZ:∀y,lo=some y->aE S w A.C.P L rho s.h (ev s.t y) (a.eval y):=fun y hy=>aH sim y fun j hj=>hV j (by simp[aq,Op.operands,hj,hy]);have K0:∀y,hi=some y->aE S w A.C.P L rho s.h (ev s.t y) (a.eval y):=fun y hy=>aH sim y fun j hj=>hV j (by simp[aq,Op.operands,hj,hy]);unfold nN at hq;split at hq
 case h_2=>exact hq.elim
 rename_i e size bytes zero eq hT;have dr:=(hC.eL t _ hT).under;simp only at dr;split at hq
 case h_2=>exact hq.elim
 rename_i ng;obtain rfl:=dC ng;split at hq
 case h_2=>exact hq.elim
 rename_i k m k' n h1 h2;obtain⟨⟨h3,h4,h5⟩,hq⟩:=hq;rw[hid]at hx;obtain⟨hL,hv⟩:=hx.bu (by rw[ai];trivial);have hh:=sim.hp id hL;rw[ai]at hh;have hh:an A.C.P w (ay S w) e' es (rho id):=hh;obtain⟨ie,xs,hX,hpos,hown,_⟩:=hh;have AD:∃ad c,rho id=.slice ad es.length c/\es.length<=c:=by
  rcases hown.2 with⟨g1,g2⟩ | ⟨g,cap,cur,g1,_,_,g2,_⟩
  ·exact⟨none,0,by rw[g1,g2],by omega⟩
  exact⟨_,cap,g1,g2⟩
 obtain⟨ad,c,AD,hle⟩:=AD;have hb:=rL sim lo hi KZ K0 true es.length c k m k' n hle h1 h2 h3 h4 h5;refine ar sim hd hnext hq (.vw id _ _ _ fun e2 j6=>?_) (by simp[execOp,aq,Instr.sliceAt,Instr.slice,hv,AD,run_underlying dr,hb,Go.sizeOf,typeInfo,hX];rfl);rw[ai]at j6;injection j6 with j6;subst j6;exact⟨hL,es.length,c,ad,ie,AD,hX,by omega,by omega,hle,rfl⟩
theorem Flat.take{S:Nat->Prop}{w:World}{k:Nat}{es:List (List PV)}{xs:List Value}(h:Flat S w k es xs)(n:Nat)(hn:n<=es.length):Flat S w k (es.take n) (xs.take (n*k)):=by
 have K7:n*k<=es.length*k:=ba _ hn;refine⟨by rw[cu,cu,h.len];rw[jV K7,jV hn],fun r hr=>h.row r (nH hr),fun u hu=>h.one u (nH hu),fun i r j x hi hj=>?_⟩;have IG:=ah hi;rw[cu]at IG;rw[gY (by omega)]at hi;obtain⟨u,h1,h2⟩:=h.rep i r j x hi hj;have Su:j<k:=by rw[<-h.row r (aj hi)];exact ah hj
 refine⟨u,?_,h2⟩;rw[gY,h1];have:=ba k (show i+1<=n by omega);rw[bR]at this;omega
theorem Flat.drop{S:Nat->Prop}{w:World}{k:Nat}{es:List (List PV)}{xs:List Value}(h:Flat S w k es xs)(n:Nat):Flat S w k (es.drop n) (xs.drop (n*k)):=by
 refine⟨by rw[nI,nI,h.len,nK],fun r hr=>h.row r (qH hr),fun u hu=>h.one u (qH hu),fun i r j x hi hj=>?_⟩;rw[fh]at hi;obtain⟨u,h1,h2⟩:=h.rep (n+i) r j x hi hj;refine⟨u,?_,h2⟩;rw[fh,<-h1];congr 1;rw[jT,Tj]
theorem DQ{o:Oper}(c:Call)(aq:o.op=.call c)(hc:c.callee=.builtin .clear):eD A o:=by
 intro V L S rho s a w K next Q hC sim hV hd hq _ hnext
 obtain⟨callee,args,argTypes⟩:=c;simp only at hc;subst hc;simp only[aZ,aq,Ta,dK]at hq;split at hq
 case h_2=>exact hq.elim
 rename_i x t hargs Dy;have hx:=aH sim x fun j hj=>hV j (by simp[aq,Op.operands,Call.operands,hj];rw[<-hj];exact fm.1 (by rw[hargs];simp));have e1:args=#[x]:=by rw[<-lX (xs:=args),hargs]
 have e2:argTypes=#[t]:=by rw[<-lX (xs:=argTypes),Dy]
 subst e1 e2;split at hq
 case h_2=>exact hq.elim
 rename_i e size bytes zero eq hT;have dr:=(hC.eL t _ hT).under;simp only at dr;split at hq
 case h_2=>exact hq.elim
 rename_i ti nf;split at hq
 case h_2=>exact hq.elim
 rename_i id lo hi hid;split at hq
 case h_2=>exact hq.elim
 rename_i e' es ai;split at hq
 case h_2=>exact hq.elim
 rename_i AE;simp only[qK]at AE;obtain⟨ng,hpos⟩:=AE;obtain⟨⟨QM,Q0⟩,hq⟩:=hq;obtain rfl:=dC ng;have hpos:0<ti.size:=dT hpos;rw[hid]at hx;obtain⟨hL,n,cp,ad,Ny,eZ,mI,_,QN,Ki,hval⟩:=hx.rJ ai;have hh:=sim.hp id hL;rw[ai]at hh;have hh:an A.C.P w (ay S w) e' es (rho id):=hh;obtain⟨ie,ze,hX,qT,BL,DC,DD,ga⟩:=(hC.eL e' ti nf).info;rw[hX]at mI;injection mI with mI;subst mI;obtain⟨xs,Q1,hown,qd⟩:=an.flat hX hh;have fin:∀w',(∀ty,(Builtin.clear_ #[t] ty #[a.eval x]).run A.C.P w=.ok (.tuple #[]) w')->aU A V L S rho ⟨s.t,ax s.h id (.row e' (es.take lo++List.replicate (hi-lo) (ti.zero.map qD)++es.drop hi))⟩ a w'->o.wp A.C.P a w next Q:=by
  intro w' hrun aQ;exact bS (v:=.tuple #[]) (by simp[execOp,aq,resolve,invoke,builtin,hrun]) (hnext _ _ _ S _ _ _ hq (aQ.value o.dst hd (.tu []) _ (.tu [] #[] rfl (by simp))))
 by_cases heq:hi=lo
 ·subst heq;refine fin w (fun ty=>?_) ?_
  ·rw[hval,fH];cases (if cp=hi then ad else ad.map (·.add (hi*ie.size)))<;>simp[Builtin.clear_,run_underlying dr]
  rw[fH,List.replicate_zero,ca,nZ,eX _ _ _ ai];exact sim
 rcases hown.2 with⟨g1,g2⟩ | ⟨g,cap,cur,g1,_,g3,g4,g5,g6,g7⟩
 ·exact absurd g2 (by omega)
 have HD:=eZ;rw[g1]at HD;injection HD with r1 r2 r3;subst r1 r2 r3;have NF:a.eval x=.slice (some ⟨g,lo*ie.size,none⟩) (hi-lo) (cap-lo):=by
  rw[hval,af (by omega)];simp only[eM,Addr.add];split
  ·rename_i h0;rw[h0]
  simp
 have NG:((Array.range ((hi-lo)*ti.size)).map (ti.zero.toArray[· % ti.zero.toArray.size]!))=Builtin.zeroCells ze.cells (hi-lo):=by
  unfold Builtin.zeroCells;rw[DD,(show ti.zero.toArray.size=ti.size by simpa using (hC.eL e' ti nf).Dk)]
 have hz:=Flat.zero false S w (hC.eL e' ti nf) hpos (hi-lo);rw[NG,<-qT]at hz;have iQ:(Builtin.zeroCells ze.cells (hi-lo)).toList.length=(hi-lo)*ie.size:=by rw[hz.len,uX]
 have Q2:hi*ie.size<=cap*ie.size:=ba _ (by omega);have BU:lo*ie.size+(hi-lo)*ie.size=hi*ie.size:=by rw[<-jT];congr 1;omega
 have wL:=run_storeCells_at A.C.P g (lo*ie.size) e' (Builtin.zeroCells ze.cells (hi-lo)).toList 0 cur w g3 (by rw[iQ,g6];omega) hz.one;simp only[jS]at wL;have BV:hi-lo≠0:=by omega
 refine fin (w.setRow g (cur.toList.take (lo*ie.size)++(Builtin.zeroCells ze.cells (hi-lo)).toList++cur.toList.drop (lo*ie.size+(Builtin.zeroCells ze.cells (hi-lo)).toList.length)).toArray) (fun ty=>?_) ?_
 ·rw[NF];cases hk:hi-lo with
  | zero=>exact absurd hk BV
  | succ m=>
   rw[hk]at wL;simp[Builtin.clear_,run_underlying dr,zeroValue,typeInfo,hX,DC,wL]
 refine sim.write hC id hL (by rw[ai];trivial) _ (fun e2 h=>by rw[ai];exact h) _ (setRow_os w g _) (setRow_tape w g _) (setRow_output w g _) (setRow_size w g _) (fun k hk=>setRow_other w g k _ fun e=>hk (by rw[g1,e];rfl)) fun T=>?_;show an A.C.P _ _ e' _ (rho id);have hF:Flat S w ie.size (es.take lo++List.replicate (hi-lo) (ti.zero.map qD)++es.drop hi) (xs.take (lo*ie.size)++(Builtin.zeroCells ze.cells (hi-lo)).toList++xs.drop (hi*ie.size)):=((qd.take lo (by omega)).app hz).app (qd.drop hi);refine an.of_flat hX Q1 ?_ (hF.mono T.hS T.keep);have PN:(es.take lo++List.replicate (hi-lo) (ti.zero.map qD)++es.drop hi).length=es.length:=by simp;omega
 rw[PN];refine⟨by rw[hF.len,PN],.inr ⟨g,cap,_,g1,bd _,setRow_heap w g cur _ e' (0,0) g3,g4,g5,?_,?_⟩⟩
 ·rw[lV,bZ,bZ,iQ,cu,nI,Tk,g6];omega
 rw[<-g7,iQ,BU];have h1:lo*ie.size<=es.length*ie.size:=ba _ (by omega);have h2:hi*ie.size<=es.length*ie.size:=ba _ Q0;have h3:es.length*ie.size<=cap*ie.size:=ba _ g4;simp only[List.take_append,bZ,cu,Tk,g6,iQ,List.take_take,List.drop_take];rw[jV (show lo*ie.size<=cap*ie.size by omega),jV h1];rw[Nat.min_eq_right h1,vm (l:=(Builtin.zeroCells ze.cells (hi-lo)).toList) (by rw[iQ];omega)];rw[show es.length*ie.size-(lo*ie.size+(hi-lo)*ie.size)=es.length*ie.size-hi*ie.size by omega]
end Go.AM
