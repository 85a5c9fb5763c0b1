/- Part 1 of the proof of HouseFlowsAreRight. -/
import Derived.StillTail
import Derived.OwnWalk
import Derived.WalkKit
import Derived.Lib.Hide
import Derived.Below
import Derived.Laws.IdiomRangeMap
import Derived.MapKept
set_option linter.unusedVariables false
set_option linter.unusedSimpArgs false
set_option maxRecDepth 100000
set_option maxHeartbeats 8000000
namespace Go
abbrev cr:=@Bool.eq_false_iff
abbrev bq:=@Nat.eq_of_beq_eq_true
abbrev uR:=@Go.World.cell?_of_block
abbrev aC:=@Nat.le_refl
abbrev bM:=@Nat.le_trans
abbrev bg:=@Nat.lt_of_lt_of_le
abbrev aj:=@List.mem_of_getElem?
abbrev cL:=@List.getElem?_eq_some_iff
abbrev cB:=@List.getElem?_take
abbrev lU:=@Array.getD_eq_getD_getElem?
abbrev fg:=@Array.getElem?_setIfInBounds
abbrev af:=@if_neg
abbrev cC:=@List.all_eq_true
abbrev ao:=@List.getElem?_map
abbrev bE:=@Array.getElem?_eq_getElem
abbrev gU:=@Bool.eq_iff_iff
abbrev dS:=@decide_eq_true_eq
abbrev uS:=@Go.ByteArray.toList_eq
abbrev gV:=@Array.ext'
abbrev az:=@Option.map_eq_some_iff
abbrev aI:=@Go.Sem.run_bind
abbrev gW:=@Go.Addr.add_lit
abbrev aM:=@List.getElem?_eq_getElem
abbrev fh:=@List.getElem?_drop
abbrev dT:=@Nat.le_of_ble_eq_true
abbrev fG:=@List.getElem?_range
abbrev cV:=@Nat.zero_add
abbrev gv:=@Nat.add_assoc
abbrev ae:=@if_pos
abbrev br:=@Go.Result.andThen_ok
abbrev ct:=@Go.Sem.run_pure
abbrev qH:=@List.mem_of_mem_drop
abbrev nH:=@List.mem_of_mem_take
abbrev jS:=@Nat.add_zero
abbrev jT:=@Nat.add_mul
abbrev eM:=@Option.map_some
abbrev uT:=@Array.getElem?_map
abbrev qI:=@Array.mem_of_getElem?
abbrev cW:=@List.eq_nil_of_length_eq_zero
abbrev dU:=@Iff.rfl
abbrev cX:=@List.mem_append
abbrev gw:=@Go.RowKit.Below.heap_alloc
abbrev jU:=@List.length_nil
abbrev cD:=@List.length_cons
abbrev fH:=@Nat.sub_self
abbrev aP:=@List.getElem?_set_self
abbrev qJ:=@List.getElem?_cons_succ
abbrev bw:=@List.getElem?_set_ne
abbrev gX:=@List.append_assoc
abbrev bQ:=@List.getElem?_append_left
abbrev gY:=@List.getElem?_take_of_lt
abbrev bY:=@List.getElem?_append_right
abbrev bR:=@Nat.succ_mul
abbrev ba:=@Nat.mul_le_mul_right
abbrev aF:=@List.length_set
abbrev bd:=@Nat.zero_le
abbrev lV:=@List.size_toArray
abbrev bZ:=@List.length_append
abbrev cu:=@List.length_take
abbrev nI:=@List.length_drop
abbrev gx:=@Array.length_toList
abbrev fj:=@List.ext_getElem?
abbrev dI:=@List.getElem?_eq_none
abbrev cw:=@List.mem_or_eq_of_mem_set
abbrev cf:=@List.mem_iff_getElem?
abbrev lW:=@Nat.lt_or_gt_of_ne
abbrev dy:=@Nat.succ_le_of_lt
abbrev nJ:=@List.length_singleton
abbrev uU:=@Array.toList_setIfInBounds
abbrev jV:=@Nat.min_eq_left
abbrev uV:=@List.cons_append
abbrev aw:=@Bool.and_eq_true
abbrev qK:=@Array.size_setIfInBounds
abbrev bD:=@Array.mem_toList_iff
abbrev fm:=@Array.toArray_toList
abbrev lX:=@Go.MapKept.run_getObj_map
abbrev uW:=@List.getElem_mem
abbrev qL:=@Nat.sub_mul
abbrev nK:=@Nat.mod_lt
abbrev qM:=@List.eq_of_mem_replicate
abbrev aB:=@List.length_map
abbrev Al:=@List.exists_mem_of_ne_nil
abbrev aR:=@List.mem_map
abbrev di:=@List.length_replicate
abbrev qN:=@List.foldl_cons
abbrev aV:=@List.map_cons
abbrev uX:=@List.mapM_cons
abbrev uY:=@Go.World.ownsRow_lit
abbrev qO:=@Array.toList_map
abbrev Am:=@Nat.le_mul_of_pos_right
abbrev gy:=@Array.getElem?_toList
abbrev uZ:=@Go.MapKept.bytes_beq
abbrev aW:=@List.mem_cons_self
abbrev cg:=@List.mem_cons_of_mem
abbrev qP:=@List.all_cons
abbrev dJ:=@List.map_append
abbrev An:=@List.pairwise_singleton
abbrev u3:=@Array.getElem?_modify
abbrev aa:=@congrArg
abbrev jW:=@Bool.false_eq_true
abbrev qQ:=@Array.eq_empty_of_size_eq_zero
abbrev qR:=@List.append_nil
abbrev iX:=@List.take_append_drop
abbrev qU:=@List.take_of_length_le
end Go
namespace Go.AM
open Go.RowKit
inductive MK where
 | str
 | int (k:IntKind)
 | st (sh:List Nat)
inductive PV where
 | im (x:Value)
 | ag (cs:List PV)
 | sl (es:List (List PV))
 | ip (cs:List PV)
 | fn (f:FuncId) (cap:List PV)
 | mp (mk:MK) (es:List (Value×Value))
 | ifc (t:TypeId) (x:PV)
inductive AV where
 | p (x:PV)
 | nl
 | ow (id:Nat)
 | rp (id i off:Nat)
 | bx (id off:Nat)
 | vw (id lo hi:Nat)
 | fn (f:FuncId) (cap:List AV)
 | tu (xs:List AV)
 | st (xs:List AV)
 | ifp (t:TypeId) (a:AV)
 | junk
def yr:Nat->Value->Prop
 | 0,.string _=>True
 | 1,.int k _=>k=.i64
 | 2,.bool _=>True
 | _,_=>False
def gZ:List Nat->List Value->Prop
 | [],[]=>True
 | n::s,v::r=>yr n v/\gZ s r
 | _,_=>False
def MK.ok:MK->Value->Prop
 | .str,.string _=>True
 | .int k,.int k' _=>k'=k
 | .st sh,.agg xs=>gZ sh xs.toList
 | _,_=>False
inductive HC where
 | p (x:PV)
 | row (e:TypeId) (es:List (List PV))
def HC.isRow:HC->Prop
 | .row ..=>True
 | _=>False
inductive HX where
 | av (x:AV)
 | row (e:TypeId) (es:List (List PV))
abbrev FX:=Option Nat
inductive AB where
 | none
 | row (e:TypeId) (es:List (List PV))
 | f_ (es:List (List PV))
 | box (cs:List AV)
 | eN (ty:TypeId) (cs:List AV)
 | jt (cs:List PV)
 | map (mk:MK) (es:List (Value×PV))
 | aA (cs:List HC)
 | ai (e:TypeId) (es:List (List HX))
 | iter (mk:MK) (es:List (Value×Value)) (k:Nat) (cur:Option (Value×Value))
 | cell (c0:Array Value) (ty:TypeId) (a:AV)
 | fam (l:List (Nat×List HC)) (out:List (Nat×FX))
def AB.live:AB->Prop
 | .row .. | .box .. | .eN .. | .map .. | .aA .. | .ai .. | .iter .. | .cell .. | .fam ..=>True
 | _=>False
def AB.fD:AB->Option TypeId
 | .row e _=>some e
 | .ai e _=>some e
 | _=>Option.none
def AB.there:AB->Prop
 | .none=>False
 | _=>True
structure AS where
 t:Nat->AV
 h:Nat->AB
def ax{α:Type}(f:Nat->α)(i:Nat)(x:α)(j:Nat):α:=match Nat.beq j i with | true=>x | false=>f j
variable {α:Type}
theorem ak(f:Nat->α)(i:Nat)(x:α):ax f i x i=x:=by simp[ax]
theorem au(f:Nat->α){i j:Nat}(x:α)(h:j≠i):ax f i x j=f j:=by
 unfold ax;have:Nat.beq j i=false:=by rw[cr];intro e;exact h (bq e)
 rw[this]
theorem eX(f:Nat->α)(i:Nat)(x:α)(h:f i=x):ax f i x=f:=by
 funext j;by_cases e:j=i
 ·subst e;rw[ak,h]
 rw[au _ _ e]
def jX(ms:Array MapEntry)(clock:Nat):Prop:=(ms.toList.map (·.born)).Pairwise (· < ·)/\∀m∈ms.toList,m.born<clock
def C9(mk:MK)(es:List (Value×Value))(ms:Array MapEntry)(clock:Nat):Prop:=ms.size=es.length/\(∀(i:Nat) p m,es[i]?=some p->ms[i]?=some m->m.key=p.1/\mk.ok p.1/\m.val=p.2)/\jX ms clock
inductive ay(S:Nat->Prop)(w:World):PV->Value->Prop
 | im (x:Value):ay S w (.im x) x
 | ag (cs:List PV) (vs:Array Value) (hl:cs.length=vs.size) (h1:∀u∈vs.toList,u.oneCell'=true) (h:∀(i:Nat) c v,cs[i]?=some c->vs[i]?=some v->ay S w c v):ay S w (.ag cs) (.agg vs)
 | nil (a:Option Addr) (c:Nat):ay S w (.sl []) (.slice a 0 c)
 | sl (es:List (List PV)) (k b off c:Nat) (U:Nat->Nat->Value) (hc:es.length<=c) (hS:S b) (hk:∀e∈es,e.length=k)
   (hcell:∀(i:Nat) e (j:Nat) x,es[i]?=some e->e[j]?=some x->w.cell? ⟨b,off+i*k+j,none⟩=some (U i j)/\(U i j).oneCell'=true)
   (h:∀(i:Nat) e (j:Nat) x,es[i]?=some e->e[j]?=some x->ay S w x (U i j)):ay S w (.sl es) (.slice (some ⟨b,off,none⟩) es.length c)
 | ip (cs:List PV) (b off:Nat) (U:Nat->Value) (hS:S b) (hcell:∀(j:Nat) x,cs[j]?=some x->w.cell? ⟨b,off+j,none⟩=some (U j)/\(U j).oneCell'=true)
   (h:∀(j:Nat) x,cs[j]?=some x->ay S w x (U j)):ay S w (.ip cs) (.pointer (some ⟨b,off,none⟩))
 | fn (f:FuncId) (cap:List PV) (vs:Array Value) (hl:cap.length=vs.size) (h:∀(i:Nat) c v,cap[i]?=some c->vs[i]?=some v->ay S w c v):ay S w (.fn f cap) (.func (.func f) #[] vs)
 | mp (mk:MK) (es:List (Value×Value)) (g:Nat) (ms:Array MapEntry) (clock:Nat) (hS:S g) (hb:w.heap[g]?=some (.map ms clock)) (h:C9 mk es ms clock):ay S w (.mp mk es) (.map (some g))
 | ifc (t:TypeId) (x:PV) (v:Value) (h:ay S w x v):ay S w (.ifc t x) (.iface t v)
variable {w':World}
theorem ay.mono{S S':Nat->Prop}{w:World}{x:PV}{v:Value}(h:ay S w x v)(hS:∀b,S b->S' b)(u:∀b,S b->w'.heap[b]?=w.heap[b]?):ay S' w' x v:=by
 induction h with
 | im x=>exact .im x
 | ag cs z hl m h ih=>exact .ag cs z hl m ih
 | nil a c=>exact .nil a c
 | sl es k b off c U hc hb hk hcell h ih=>exact .sl es k b off c U hc (hS b hb) hk (fun i e j x m D=>⟨(uR (u b hb)).trans (hcell i e j x m D).1,(hcell i e j x m D).2⟩) ih
 | ip cs b off U hb hcell h ih=>exact .ip cs b off U (hS b hb) (fun j x m=>⟨(uR (u b hb)).trans (hcell j x m).1,(hcell j x m).2⟩) ih
 | fn f cap z hl h ih=>exact .fn f cap z hl ih
 | mp mk es g ms clock hg hb h=>exact .mp mk es g ms clock (hS g hg) ((u g hg).trans hb) h
 | ifc t x v h ih=>exact .ifc t x v ih
theorem ay.FJ{S:Nat->Prop}{w:World}{t:TypeId}{x:PV}{v:Value}(h:ay S w (.ifc t x) v):∃u,v=.iface t u/\ay S w x u:=by
 cases h with
 | ifc _ _ u h=>exact⟨u,rfl,h⟩
theorem ay.yt{S:Nat->Prop}{w:World}{mk:MK}{es:List (Value×Value)}{v:Value}(h:ay S w (.mp mk es) v):∃g ms m,v=.map (some g)/\S g/\w.heap[g]?=some (.map ms m)/\C9 mk es ms m:=by
 cases h with
 | mp _ _ g ms m hS hb h=>exact⟨g,ms,m,rfl,hS,hb,h⟩
structure Fr(mv:Nat->Prop)(w w':World):Prop where
 os:w'.os=w.os
 tape:w'.tape=w.tape
 output:w'.output=w.output
 size:w.heap.size<=w'.heap.size
 block:∀k,k<w.heap.size->¬mv k->w'.heap[k]?=w.heap[k]?
theorem Fr.refl(mv:Nat->Prop)(w:World):Fr mv w w:=⟨rfl,rfl,rfl,aC _,fun _ _ _=>rfl⟩
theorem Fr.trans{mv m:Nat->Prop}{a b c:World}(h:Fr mv a b)(k:Fr m b c)(G:∀i,m i->mv i\/a.heap.size<=i):Fr mv a c:=
 ⟨k.os.trans h.os,k.tape.trans h.tape,k.output.trans h.output,bM h.size k.size,fun i u z=>
  (k.block i (bg u h.size) (fun I=>by rcases G i I with D | D;exact z D;omega)).trans (h.block i u z)⟩
def an{α:Type}(P:Program)(w:World)(R:α->Value->Prop)(e:TypeId)(es:List (List α))(v:Value):Prop:=
 ∃i xs,P.info? e=some i/\0<i.size/\w.ownsRow 0 e i.size v es.length xs/\(∀r∈es,r.length=i.size)/\(∀u∈xs,u.oneCell'=true)/\
  ∀(a:Nat) r (j:Nat) x,es[a]?=some r->r[j]?=some x->∃u,xs[a*i.size+j]?=some u/\R x u
def bH:Value->Option Nat
 | .slice (some a) _ _=>some a.block
 | .pointer (some a)=>some a.block
 | .map (some g)=>some g
 | _=>none
inductive aE(S:Nat->Prop)(w:World)(P:Program)(L:Nat->Prop)(rho:Nat->Value)(h:Nat->AB):AV->Value->Prop
 | p (x:PV) (v:Value) (hx:ay S w x v):aE S w P L rho h (.p x) v
 | nl:aE S w P L rho h .nl (.slice none 0 0)
 | ow (id:Nat) (v:Value) (hv:(h id).there->L id/\v=rho id):aE S w P L rho h (.ow id) v
 | rp (id i off:Nat) (v:Value) (hv:∀e,(h id).fD=some e->L id/\∃g n c ti,rho id=.slice (some ⟨g,0,none⟩) n c/\P.info? e=some ti/\v=.pointer (some ⟨g,i*ti.size+off,none⟩)):aE S w P L rho h (.rp id i off) v
 | bx (id off:Nat) (v:Value) (hv:(h id).there->L id/\∃g,rho id=.pointer (some ⟨g,0,none⟩)/\v=.pointer (some ⟨g,off,none⟩)):aE S w P L rho h (.bx id off) v
 | vw (id lo hi:Nat) (v:Value) (hv:∀e,(h id).fD=some e->L id/\∃n c a ti,rho id=.slice a n c/\P.info? e=some ti/\lo<=hi/\hi<=n/\n<=c/\v=.slice (if c=lo then a else a.map (·.add (lo*ti.size))) (hi-lo) (c-lo)):aE S w P L rho h (.vw id lo hi) v
 | fn (f:FuncId) (cap:List AV) (vs:Array Value) (hl:cap.length=vs.size) (hc:∀(i:Nat) c v,cap[i]?=some c->vs[i]?=some v->aE S w P L rho h c v):aE S w P L rho h (.fn f cap) (.func (.func f) #[] vs)
 | tu (xs:List AV) (vs:Array Value) (hl:xs.length=vs.size) (hc:∀(i:Nat) c v,xs[i]?=some c->vs[i]?=some v->aE S w P L rho h c v):aE S w P L rho h (.tu xs) (.tuple vs)
 | st (xs:List AV) (vs:Array Value) (hl:xs.length=vs.size) (h1:∀u∈vs.toList,u.oneCell'=true) (hc:∀(i:Nat) c v,xs[i]?=some c->vs[i]?=some v->aE S w P L rho h c v):aE S w P L rho h (.st xs) (.agg vs)
 | ifp (t:TypeId) (a:AV) (u:Value) (hc:aE S w P L rho h a u):aE S w P L rho h (.ifp t a) (.iface t u)
 | junk (v:Value):aE S w P L rho h .junk v
def Hr(S:Nat->Prop)(w:World)(P:Program):HC->Value->Prop
 | .p x,u=>ay S w x u
 | .row e es,u=>an P w (ay S w) e es u
structure yu(S:Nat->Prop)(w:World)(P:Program)(cs:List HC)(g:Nat)(ty:TypeId)(c:Array Value):Prop where
 hp:w.heap[g]?=some (.cells c ty (0,0))
 sz:c.size=cs.length
 cell:∀(j:Nat) x u,cs[j]?=some x->c[j]?=some u->u.oneCell'=true/\Hr S w P x u
 top:∀(j:Nat) x u b,cs[j]?=some x->c[j]?=some u->x.isRow->bH u=some b->b≠g
 dis:∀(i j:Nat) x y u v b,cs[i]?=some x->cs[j]?=some y->c[i]?=some u->c[j]?=some v->x.isRow->y.isRow->bH u=some b->bH v=some b->i=j
def iY(S:Nat->Prop)(w:World)(P:Program)(L:Nat->Prop)(rho:Nat->Value)(h:Nat->AB):HX->Value->Prop
 | .av x,u=>aE S w P L rho h x u
 | .row e es,u=>an P w (ay S w) e es u
def bI(w:World)(es:List (List HX))(g:Nat)(a j:Nat)(u:Value):Prop:=∃(r:List HX) (e:TypeId) (xs:List (List PV)) (c:Array Value) (ty:TypeId) (m:Nat×Nat),es[a]?=some r/\r[j]?=some (.row e xs)/\w.heap[g]?=some (.cells c ty m)/\c[a*r.length+j]?=some u
structure kU(w:World)(es:List (List HX))(v:Value):Prop where
 top:∀g a j u b,bH v=some g->bI w es g a j u->bH u=some b->b≠g
 dis:∀g a j a' j' u u' b,bH v=some g->bI w es g a j u->bI w es g a' j' u'->bH u=some b->bH u'=some b->a=a'/\j=j'
def Np(w:World)(x:AB)(v:Value)(k:Nat):Prop:=∃e es g a j u,x=.ai e es/\bH v=some g/\bI w es g a j u/\bH u=some k
def Nq(w:World)(x:AB)(v:Value)(k:Nat):Prop:=∃cs g,x=.aA cs/\bH v=some g/\∃(c:Array Value) (ty:TypeId) (m:Nat×Nat) (j:Nat) (y:HC) (u:Value),w.heap[g]?=some (.cells c ty m)/\cs[j]?=some y/\y.isRow/\c[j]?=some u/\bH u=some k
def mE(w:World)(cs:List HC)(g k:Nat):Prop:=k=g\/∃(c:Array Value) (ty:TypeId) (mm:Nat×Nat) (j:Nat) (y:HC) (u:Value),w.heap[g]?=some (.cells c ty mm)/\cs[j]?=some y/\y.isRow/\c[j]?=some u/\bH u=some k
def qA(out:List (Nat×FX))(m:Nat):Prop:=∀p∈out,p.1≠m
def Nr(w:World)(x:AB)(k:Nat):Prop:=∃(l:List (Nat×List HC)) (out:List (Nat×FX)) (m g:Nat) (cs:List HC),x=.fam l out/\l[m]?=some (g,cs)/\qA out m/\mE w cs g k
def QH(w:World)(x:AB)(v:Value)(k:Nat):Prop:=Nq w x v k\/Np w x v k\/Nr w x k
def hasB(w:World)(x:AB)(v:Value)(k:Nat):Prop:=bH v=some k\/QH w x v k
variable {k:Nat}
theorem C_{w:World}{x:AB}{v:Value}(h:bH v=some k):hasB w x v k:=.inl h
theorem iZ{w:World}{es:List (List HX)}{g a j:Nat}{u:Value}(z:w'.heap[g]?=w.heap[g]?)(h:bI w' es g a j u):bI w es g a j u:=by
 obtain⟨r,e,xs,c,D,m,G,I,J,N⟩:=h;exact⟨r,e,xs,c,D,m,G,I,by rw[<-z];exact J,N⟩
theorem pb{w:World}{cs:List HC}{g:Nat}(m:w'.heap[g]?=w.heap[g]?)(h:mE w' cs g k):mE w cs g k:=by
 rcases h with h | ⟨c,z,D,j,y,u,G,I⟩
 ·exact .inl h
 exact .inr ⟨c,z,D,j,y,u,by rw[<-m];exact G,I⟩
theorem b_{w:World}{x:AB}{v:Value}(G:∀g,hasB w x v g->w'.heap[g]?=w.heap[g]?)(h:hasB w' x v k):hasB w x v k:=by
 rcases h with h | ⟨cs,g,z,D,c,R,m,j,y,u,I,J⟩ | ⟨e,es,g,a,j,u,z,D,I,J⟩ | ⟨l,out,m,g,cs,z,N,O,U⟩
 ·exact .inl h
 ·exact .inr (.inl ⟨cs,g,z,D,c,R,m,j,y,u,by rw[<-G g (.inl D)];exact I,J⟩)
 ·exact .inr (.inr (.inl ⟨e,es,g,a,j,u,z,D,iZ (G g (.inl D)) I,J⟩))
 exact .inr (.inr (.inr ⟨l,out,m,g,cs,z,N,O,pb (G g (.inr (.inr (.inr ⟨l,out,m,g,cs,z,N,O,.inl rfl⟩)))) U⟩))
def Ij:AB->Bool
 | .aA _=>false
 | .ai _ _=>false
 | .fam ..=>false
 | _=>true
theorem al{w:World}{x:AB}{v:Value}(z:Ij x=true)(h:hasB w x v k):bH v=some k:=by
 rcases h with h | ⟨cs,g,rfl,_⟩ | ⟨e,es,g,a,j,u,rfl,_⟩ | ⟨l,out,m,g,cs,rfl,_⟩
 ·exact h
 ·cases z
 ·cases z
 cases z
structure mY(S:Nat->Prop)(w:World)(P:Program)(L:Nat->Prop)(rho:Nat->Value)(h:Nat->AB)(l:List (Nat×List HC))(out:List (Nat×FX)):Prop where
 mem:∀m g cs,l[m]?=some (g,cs)->qA out m->∃ty c,yu S w P cs g ty c
 dis:∀m m' g g' cs dB k,l[m]?=some (g,cs)->l[m']?=some (g',dB)->qA out m->qA out m'->mE w cs g k->mE w dB g' k->m=m'
 out:∀m n g cs,(m,some n)∈out->l[m]?=some (g,cs)->(h n).there->L n/\rho n=.pointer (some ⟨g,0,none⟩)
def cd(S:Nat->Prop)(w:World)(P:Program)(L:Nat->Prop)(rho:Nat->Value)(h:Nat->AB)(id:Nat):AB->Prop
 | .none=>True
 | .row e es=>an P w (ay S w) e es (rho id)
 | .f_ es=>ay S w (.sl es) (rho id)
 | .box cs=>∃g ty c,rho id=.pointer (some ⟨g,0,none⟩)/\w.heap[g]?=some (.cells c ty (0,0))/\c.size=cs.length/\∀(j:Nat) x u,cs[j]?=some x->c[j]?=some u->u.oneCell'=true/\aE S w P L rho h x u
 | .eN ty cs=>∃g c,rho id=.pointer (some ⟨g,0,none⟩)/\w.heap[g]?=some (.cells c ty (0,0))/\c.size=cs.length/\∀(j:Nat) x u,cs[j]?=some x->c[j]?=some u->u.oneCell'=true/\aE S w P L rho h x u
 | .jt cs=>ay S w (.ip cs) (rho id)
 | .aA cs=>∃g ty c,rho id=.pointer (some ⟨g,0,none⟩)/\yu S w P cs g ty c
 | .ai e es=>an P w (iY S w P L rho h) e es (rho id)/\kU w es (rho id)
 | .map mk es=>∃g ms clock,rho id=.map (some g)/\w.heap[g]?=some (.map ms clock)/\ms.size=es.length/\(∀(i:Nat) p m,es[i]?=some p->ms[i]?=some m->m.key=p.1/\mk.ok p.1/\ay S w p.2 m.val)/\jX ms clock
 | .iter mk es k cur=>∃g mg ms clock,∃seen:Array Nat,rho id=.pointer (some ⟨g,0,none⟩)/\w.heap[g]?=some (.mapIter (some mg) clock seen clock)/\S mg/\w.heap[mg]?=some (.map ms clock)/\C9 mk es ms clock/\(leftOf ms seen).size=k /\
  ∀p,cur=some p->∃e∈ms.toList,∃Hs:Array Nat,seen=Hs.push e.born/\e.key=p.1/\e.val=p.2
 | .cell c0 ty a=>∃g off v,rho id=.pointer (some ⟨g,off,none⟩)/\off<c0.size/\w.heap[g]?=some (.cells (c0.setIfInBounds off v) ty (0,0))/\v.oneCell'=true/\aE S w P L rho h a v
 | .fam l out=>bH (rho id)=none/\mY S w P L rho h l out
theorem bN{w:World}{e:TypeId}{es:List (List HX)}{v:Value}:hasB w (.ai e es) v k↔bH v=some k\/∃g a j u,bH v=some g/\bI w es g a j u/\bH u=some k:=by
 constructor
 ·rintro (h | ⟨cs,g,h,_⟩ | ⟨e',bW,g,a,j,u,h,m,z,D⟩ | ⟨_,_,_,_,_,h,_⟩)
  ·exact .inl h
  ·cases h
  ·injection h with h4 h5;subst h4 h5;exact .inr ⟨g,a,j,u,m,z,D⟩
  cases h
 rintro (h | ⟨g,a,j,u,m,z,D⟩)
 ·exact .inl h
 exact .inr (.inr (.inl ⟨_,_,_,_,_,_,rfl,m,z,D⟩))
end Go.AM
namespace Go.AM
open Go.RowKit
inductive UD where
 | sc
 | int (k:IntKind)
 | st (fs:List (Nat×Nat×Bool))
 | sl (e:TypeId)
 | str
 | mp (k e:TypeId)
structure TI where
 ud:UD
 size:Nat
 bytes:Nat
 zero:List Value
 eq:Bool:=false
def UD.agg:UD->Bool
 | .st _=>true
 | _=>false
inductive Arg where
 | pv (x:PV)
 | row (e:TypeId) (es:List (List PV))
 | map (mk:MK) (es:List (Value×PV))
 | box (cs:List PV)
 | aA (cs:List HC)
inductive AR where
 | p (x:PV)
 | own (e:TypeId) (es:List (List PV))
 | tu (xs:List PV)
 | hown (cs:List HC)
inductive Fin where
 | gone
 | row (es:List (List PV))
 | map (es:List (Value×PV))
 | box (cs:List PV)
 | aA (cs:List HC)
structure Ctx where
 P:Program
 T:TypeId->Option TI
 md:FuncId->Nat->Bool
 E:(Nat->Prop)->World->Prop
 bl:FuncId->Bool:=fun _=>false
 bt:TypeId->Bool:=fun _=>false
 bn:TypeId->Bool:=fun _=>false
 bo:TypeId->Bool:=fun _=>false
 bf:Nat->Bool:=fun _=>false
 bh:TypeId->Bool:=fun _=>false
 nc:FuncId->Bool:=fun _=>false
 pt:TypeId->Bool:=fun _=>false
def yw:Value->Value->Bool
 | .string a,.string b=>decide (a=b)
 | .int _ a,.int _ b=>decide (a=b)
 | .bool a,.bool b=>decide (a=b)
 | _,_=>false
def u4:List Value->List Value->Bool
 | [],[]=>true
 | x::r,y::s=>yw x y&&u4 r s
 | _,_=>false
def yx:Value->Value->Bool
 | .string a,.string b=>decide (a=b)
 | .int _ a,.int _ b=>decide (a=b)
 | .agg a,.agg b=>u4 a.toList b.toList
 | _,_=>false
def pc:List (Value×PV)->Value->Option PV
 | [],_=>none
 | (k',v)::r,k=>match yx k k' with
  | true=>some v
  | false=>pc r k
def qB:List (Value×PV)->Value->PV->List (Value×PV)
 | [],k,v=>[(k,v)]
 | (k',u)::r,k,v=>match yx k k' with
  | true=>(k,v)::r
  | false=>(k',u)::qB r k v
def u5:List Value->Option (List Nat)
 | []=>some []
 | .string _::r=>(u5 r).map (0::·)
 | .int .i64 _::r=>(u5 r).map (1::·)
 | .bool _::r=>(u5 r).map (2::·)
 | _=>none
def tb(ti:TI):Option MK:=match ti.ud with
 | .str=>some .str
 | .int k=>some (.int k)
 | .st fs=>match ti.eq,fs.any (·.2.2) with
  | true,false=>(u5 ti.zero).map .st
  | _,_=>none
 | _=>none
def MQ:List Nat->List Nat->Bool
 | [],[]=>true
 | a::r,b::s=>match Nat.beq a b with
  | true=>MQ r s
  | false=>false
 | _,_=>false
def MR:MK->MK->Bool
 | .str,.str=>true
 | .int .i64,.int .i64=>true
 | .st a,.st b=>MQ a b
 | _,_=>false
def iB:List Nat->List PV->Option (List Value)
 | [],[]=>some []
 | 0::s,.im (.string x)::r=>(iB s r).map (.string x::·)
 | 1::s,.im (.int .i64 x)::r=>(iB s r).map (.int .i64 x::·)
 | 2::s,.im (.bool x)::r=>(iB s r).map (.bool x::·)
 | _,_=>none
def keyOf:MK->AV->Option Value
 | .str,.p (.im (.string s))=>some (.string s)
 | .int .i64,.p (.im (.int .i64 n))=>some (.int .i64 n)
 | .st sh,.p (.ag cs)=>(iB sh cs).map fun l=>.agg l.toArray
 | _,_=>none
abbrev KK:=AV->List (Nat×AB)->Option AB->Prop
def app(h:Nat->AB):List (Nat×AB)->Nat->AB
 | []=>h
 | (i,b)::r=>app (ax h i b) r
def qD:Value->PV
 | .slice none 0 0=>.sl []
 | v=>.im v
def Kc(b:Bool)(v:Value):PV:=match b with
 | true=>.im v
 | false=>qD v
def Kd:PV->AV
 | .im (.slice none 0 0)=>.nl
 | x=>.p x
def Bx:Value->AV
 | .slice none 0 0=>.nl
 | v=>.p (.im v)
def u6:Value->AV
 | .slice none 0 0=>.nl
 | .agg cs=>match cs.toList.all Value.oneCell' with
  | true=>.p (.ag (cs.toList.map qD))
  | false=>.junk
 | v=>.p (.im v)
def ev(t:Nat->AV):Operand->AV
 | .tmp j=>t j
 | .const v=>u6 v
 | .global g=>.p (.im (.pointer (some ⟨g,0,none⟩)))
 | .func f=>.p (.im (.func (.func f) #[] #[]))
def cE:List AV->Option (List PV)
 | []=>some []
 | .p x::r=>(cE r).map (x::·)
 | .nl::r=>(cE r).map (.sl []::·)
 | _=>none
def iC(h:Nat->AB)(a:AV)(K:PV->List (Nat×AB)->Prop):Prop:=
 match a with
 | .p x=>K x []
 | .nl=>K (.sl []) []
 | .ow id=>match h id with
  | .row _ es=>K (.sl es) [(id,.f_ es)]
  | .f_ es=>K (.sl es) []
  | _=>False
 | .bx id off=>match h id with
  | .box cs=>match cE cs with
   | some xs=>K (.ip (xs.drop off)) [(id,.jt xs)]
   | none=>False
  | .jt xs=>K (.ip (xs.drop off)) []
  | _=>False
 | _=>False
def pZ(h:Nat->AB):List AV->(List PV->List (Nat×AB)->Prop)->Prop
 | [],K=>K [] []
 | a::r,K=>iC h a fun x fz=>pZ h r fun xs jr=>K (x::xs) (fz++jr)
def g_(h:Nat->AB)(a:AV)(K:PV->List (Nat×AB)->Prop):Prop:=
 match a with
 | .fn f cap=>pZ h cap fun xs fz=>K (.fn f xs) fz
 | a=>iC h a K
def mZ:PV->Option (List PV)
 | .ag cs=>some cs
 | .im x=>match x.oneCell' with
  | true=>some [.im x]
  | false=>none
 | x=>some [x]
def kL(h:Nat->AB):AV->Bool
 | .p (.im x)=>x.oneCell'
 | .p (.ag _)=>false
 | .p _=>true
 | .nl=>true
 | .ow id=>match h id with
  | .row _ _=>true
  | .ai _ _=>true
  | .f_ _=>true
  | .map _ _=>true
  | _=>false
 | .bx id _=>match h id with
  | .none=>false
  | _=>true
 | .rp id _ _=>match h id with
  | .row _ _=>true
  | .ai _ _=>true
  | _=>false
 | .vw id _ _=>match h id with
  | .row _ _=>true
  | _=>false
 | .fn _ _=>true
 | _=>false
def setCells{α:Type}:List α->Nat->List α->List α
 | cs,_,[]=>cs
 | cs,off,x::r=>setCells (cs.set off x) (off+1) r
def m_(id:Nat):List (Nat×AB)->Bool
 | []=>true
 | (i,_)::r=>match Nat.beq i id with
  | true=>false
  | false=>m_ id r
def yy(a b:Nat):Bool:=Nat.ble a b
def o7(a b:Nat):Bool:=Nat.beq a b
def QI(x:Int):Prop:=-9223372036854775808<=x/\x<=9223372036854775807
def Ik{α:Type}:List α->Bool
 | []=>true
 | _=>false
def kB(a b:IntKind):Bool:=match a,b with
 | .i8,.i8 | .i16,.i16 | .i32,.i32 | .i64,.i64 | .u8,.u8 | .u16,.u16 | .u32,.u32 | .u64,.u64=>true
 | _,_=>false
def KH:IntKind->Bool
 | .i64=>true
 | _=>false
def pd(k:IntKind)(n:Int)(K:Value->Prop):Prop:=match KH k with
 | true=>QI n/\K (.int .i64 n)
 | false=>K (.int k (k.wrap n))
def aX:List Value->List PV->List PV->Option Bool
 | [],[],[]=>some true
 | .int _ _::z,.im (.int k a)::r,.im (.int k' b)::s=>match kB k k' with
  | true=>(aX z r s).map (decide (a=b)&&·)
  | false=>none
 | .string _::z,.im (.string a)::r,.im (.string b)::s=>(aX z r s).map (decide (a=b)&&·)
 | .bool _::z,.im (.bool a)::r,.im (.bool b)::s=>(aX z r s).map (decide (a=b)&&·)
 | _,_,_=>none
def By(T:TypeId->Option TI)(op:BinOp)(t:TypeId)(x:PV)(K:Value->Prop):Prop:=match x with
 | .sl es=>match Ik es with
  | true=>False
  | false=>match T t with
   | some { ud:=.sl _,.. }=>match op with
    | .eql=>K (.bool false)
    | .neq=>K (.bool true)
    | _=>False
   | _=>False
 | _=>False
def Ns:BinOp->Bool
 | .shr=>true
 | _=>false
def na(T:TypeId->Option TI)(op:BinOp)(t:TypeId)(x y:PV)(K:Value->Prop):Prop:=
 match x,y with
 | .im (.int k a),.im (.int k' b)=>match Ns op with
  | true=>(0<=b/\b<64)/\K (.int k (a.fdiv (2 ^ (min b.toNat k.bits))))
  | false=>match kB k k' with
  | false=>False
  | true=>match op with
   | .add=>pd k (a+b) K
   | .sub=>pd k (a-b) K
   | .mul=>pd k (a*b) K
   | .quo=>b≠0/\pd k (a.tdiv b) K
   | .rem=>b≠0/\K (.int k (a.tmod b))
   | .eql=>K (.bool (decide (a=b)))
   | .neq=>K (.bool (!decide (a=b)))
   | .lss=>K (.bool (decide (a<b)))
   | .leq=>K (.bool (decide (a<=b)))
   | .gtr=>K (.bool (decide (a>b)))
   | .geq=>K (.bool (decide (a>=b)))
   | _=>False
 | .im (.string a),.im (.string b)=>match op with
  | .add=>a.size+b.size<=9223372036854775807/\K (.string (a++b))
  | .eql=>K (.bool (decide (a=b)))
  | .neq=>K (.bool (!decide (a=b)))
  | .lss=>K (.bool (Op.bytesLess a.data.toList b.data.toList))
  | .leq=>K (.bool (Op.bytesLess a.data.toList b.data.toList||decide (a=b)))
  | .gtr=>K (.bool !(Op.bytesLess a.data.toList b.data.toList||decide (a=b)))
  | .geq=>K (.bool !(Op.bytesLess a.data.toList b.data.toList))
  | _=>False
 | .im (.bool a),.im (.bool b)=>match T t with
  | some { ud:=.sc,eq:=true,.. }=>match op with
   | .eql=>K (.bool (decide (a=b)))
   | .neq=>K (.bool (!decide (a=b)))
   | _=>False
  | _=>False
 | .ag a,.ag b=>match T t with
  | some { ud:=.st _,eq:=true,size:=n,zero:=z,.. }=>match o7 n a.length with
   | false=>False
   | true=>match op with
    | .eql=>match aX z a b with
     | some r=>K (.bool r)
     | none=>False
    | .neq=>match aX z a b with
     | some r=>K (.bool !r)
     | none=>False
    | _=>False
  | _=>False
 | _,_=>False
def Bz(p:Value×Value):Value×PV:=(p.1,.im p.2)
def u7(S:Nat->Prop)(w:World)(mk:MK)(es:List (Value×PV))(v:Value):Prop:=∃g ms clock,v=.map (some g)/\w.heap[g]?=some (.map ms clock)/\ms.size=es.length/\(∀(i:Nat) p m,es[i]?=some p->ms[i]?=some m->m.key=p.1/\mk.ok p.1/\ay S w p.2 m.val)/\jX ms clock
def yz(S:Nat->Prop)(w:World)(P:Program):Arg->Value->Prop
 | .pv x,v=>ay S w x v
 | .row e es,v=>an P w (ay S w) e es v/\∀g,bH v=some g->¬S g
 | .map mk es,v=>u7 S w mk es v/\∀g,bH v=some g->¬S g
 | .box cs,v=>∃g ty c,v=.pointer (some ⟨g,0,none⟩)/\w.heap[g]?=some (.cells c ty (0,0))/\c.size=cs.length/\¬S g/\∀(j:Nat) x u,cs[j]?=some x->c[j]?=some u->u.oneCell'=true/\ay S w x u
 | .aA cs,v=>∃g ty c,v=.pointer (some ⟨g,0,none⟩)/\yu S w P cs g ty c/\∀k,hasB w (.aA cs) v k->¬S k/\k<w.heap.size
def tc:Arg->AB
 | .aA cs=>.aA cs
 | _=>.none
def FK:Fin->AB
 | .aA cs=>.aA cs
 | _=>.none
def Arg.handed:Arg->Bool
 | .pv _=>false
 | _=>true
def Mv(w:World)(args:List Arg)(vs:Array Value)(g:Nat):Prop:=∃(j:Nat) (x:Arg) (v:Value),args[j]?=some x/\vs[j]?=some v/\x.handed=true/\hasB w (tc x) v g
def jk(S:Nat->Prop)(w:World)(P:Program):Arg->Fin->Value->Prop
 | _,.gone,_=>True
 | .row e _,.row es,v=>an P w (ay S w) e es v/\∀g,bH v=some g->¬S g
 | .map mk _,.map es,v=>u7 S w mk es v/\∀g,bH v=some g->¬S g
 | .box _,.box cs,v=>∃g ty c,v=.pointer (some ⟨g,0,none⟩)/\w.heap[g]?=some (.cells c ty (0,0))/\c.size=cs.length/\¬S g/\∀(j:Nat) x u,cs[j]?=some x->c[j]?=some u->u.oneCell'=true/\ay S w x u
 | .aA _,.aA cs,v=>∃g ty c,v=.pointer (some ⟨g,0,none⟩)/\yu S w P cs g ty c/\∀k,hasB w (.aA cs) v k->¬S k
 | _,_,_=>False
def Fin.kept:Fin->Bool
 | .gone=>false
 | _=>true
def Da(S:Nat->Prop)(w:World)(P:Program):AR->Value->Prop
 | .p x,v=>ay S w x v
 | .own e es,v=>an P w (ay S w) e es v/\∀g,bH v=some g->¬S g
 | .hown cs,v=>∃g ty c,v=.pointer (some ⟨g,0,none⟩)/\yu S w P cs g ty c/\∀k,hasB w (.aA cs) v k->¬S k
 | .tu xs,v=>∃vs:Array Value,v=.tuple vs/\xs.length=vs.size/\∀(i:Nat) x u,xs[i]?=some x->vs[i]?=some u->ay S w x u
def AR.owns:AR->Bool
 | .own ..=>true
 | .hown ..=>true
 | _=>false
def AR.ab:AR->AB
 | .hown cs=>.aA cs
 | _=>.none
def eV(S:Nat->Prop)(w:World)(P:Program):List Arg->List Fin->List Value->Prop
 | [],[],[]=>True
 | x::xs,fs,v::vs=>match x.handed with
  | false=>eV S w P xs fs vs
  | true=>match fs with
   | f::fs=>jk S w P x f v/\eV S w P xs fs vs
   | []=>False
 | _,_,_=>False
def cq(w:World):List Arg->List Fin->List Value->Nat->Nat->Prop
 | x::xs,fs,v::vs,i,g=>match x.handed with
  | false=>match i with
   | 0=>False
   | i+1=>cq w xs fs vs i g
  | true=>match fs with
   | f::fs=>match i with
    | 0=>f.kept=true/\hasB w (FK f) v g
    | i+1=>cq w xs fs vs i g
   | []=>False
 | _,_,_,_,_=>False
def p6(w w':World)(args:List Arg)(fin:List Fin)(vs:Array Value):Prop:=
 (∀i g,cq w' args fin vs.toList i g->g<w'.heap.size/\(w.heap.size<=g\/Mv w args vs g))/\∀i j g,cq w' args fin vs.toList i g->cq w' args fin vs.toList j g->i=j
def aT(C:Ctx)(f:FuncId)(args:List Arg)(r:AR)(fin:List Fin):Prop:=
 (∃ fn : Func, C.P.funcs[f]? = some fn ∧ (fn.name == "runtime.NumGoroutine") = false ∧ fn.body.isNone = false) ∧
 ∀(S:Nat->Prop) (w:World) (vs:Array Value),C.E S w->(∀b,S b->b<w.heap.size)->args.length=vs.size ->
  (∀(j:Nat) x v,args[j]?=some x->vs[j]?=some v->yz S w C.P x v)->
  (∀(i j:Nat) x y v u g,args[i]?=some x->args[j]?=some y->vs[i]?=some v->vs[j]?=some u->x.handed=true->y.handed=true->hasB w (tc x) v g->hasB w (tc y) u g->i=j)->
  Calls C.P f vs w fun e w'=>∃v S',e=.returned v/\Fr (Mv w args vs) w w'/\(∀b,S b->S' b)/\(∀b,S' b->b<w'.heap.size)/\(∀b,S' b->S b\/w.heap.size<=b\/Mv w args vs b)/\
   Da S' w' C.P r v/\eV S' w' C.P args fin vs.toList/\p6 w w' args fin vs/\(∀g,r.owns=true->hasB w' r.ab v g->g<w'.heap.size/\(w.heap.size<=g\/Mv w args vs g)/\∀i,¬cq w' args fin vs.toList i g)
def eB(md:Nat->Bool)(h:Nat->AB):Nat->List AV->(List Arg->List (Nat×AB)->List (Nat×AB)->Prop)->Prop
 | _,[],K=>K [] [] []
 | j,a::r,K=>match md j with
  | false=>g_ h a fun x fz=>eB md h (j+1) r fun xs ids jr=>K (.pv x::xs) ids (fz++jr)
  | true=>match a with
   | .ow id=>match h id with
    | .row e es=>eB md h (j+1) r fun xs ids fz=>K (.row e es::xs) ((id,.row e es)::ids) fz
    | .f_ es=>eB md h (j+1) r fun xs ids fz=>K (.pv (.sl es)::xs) ids fz
    | .map mk es=>eB md h (j+1) r fun xs ids fz=>K (.map mk es::xs) ((id,.map mk es)::ids) fz
    | _=>False
   | .p x=>eB md h (j+1) r fun xs ids fz=>K (.pv x::xs) ids fz
   | .bx id 0=>match h id with
    | .box cs=>match cE cs with
     | some ys=>eB md h (j+1) r fun xs ids fz=>K (.box ys::xs) ((id,.box cs)::ids) fz
     | none=>False
    | .aA cs=>eB md h (j+1) r fun xs ids fz=>K (.aA cs::xs) ((id,.aA cs)::ids) fz
    | _=>False
   | _=>False
def nL:PV->Bool
 | .im _=>true
 | .ag cs=>cs.all fun | .im _=>true | _=>false
 | .ifc _ x=>nL x
 | _=>false
def AR.free:AR->Bool
 | .p x=>nL x
 | .tu xs=>xs.all nL
 | .own ..=>false
 | .hown ..=>false
def ee:List (Nat×AB)->List Fin->Option (List (Nat×AB))
 | [],[]=>some []
 | (id,_)::ids,.gone::fs=>(ee ids fs).map ((id,.none)::·)
 | (id,.row e _)::ids,.row es::fs=>(ee ids fs).map ((id,.row e es)::·)
 | (id,.map mk _)::ids,.map es::fs=>(ee ids fs).map ((id,.map mk es)::·)
 | (id,.box _)::ids,.box cs::fs=>(ee ids fs).map ((id,.box (cs.map .p))::·)
 | (id,.aA _)::ids,.aA cs::fs=>(ee ids fs).map ((id,.aA cs)::·)
 | _,_=>none
def Nt:AR->Option AB
 | .own e es=>some (.row e es)
 | .hown cs=>some (.aA cs)
 | _=>none
def Ke(d:Nat):AR->AV
 | .p x=>.p x
 | .own ..=>.ow d
 | .hown _=>.bx d 0
 | .tu xs=>.tu (xs.map .p)
def isNil{α:Type}:List α->Bool
 | []=>true
 | _=>false
def Ao:List (Nat×AB)->List (Nat×AB)->Bool
 | [],_=>true
 | (i,_)::r,fz=>m_ i fz&&m_ i r&&Ao r fz
def jY(C:Ctx)(h:Nat->AB)(d:Nat)(f:FuncId)(args:List AV)(K:KK):Prop:=
 eB (C.md f) h 0 args fun xs ids fz=>∃r fin,aT C f xs r fin/\match ee ids fin with
  | some fe=>match Ao ids fz with
   | true=>match r.free&&isNil ids with
    | true=>K (Ke d r) [] none
    | false=>K (Ke d r) (fz++fe) (Nt r)
   | false=>False
  | none=>False
inductive KI:HX->PV->Prop
 | p (x:PV):KI (.av (.p x)) x
 | nl:KI (.av .nl) (.sl [])
 | row (e:TypeId) (xs:List (List PV)):KI (.row e xs) (.sl xs)
structure Kf(es:List (List HX))(ps:List (List PV)):Prop where
 len:ps.length=es.length
 row:∀(a:Nat) r q,es[a]?=some r->ps[a]?=some q->q.length=r.length/\∀(j:Nat) x y,r[j]?=some x->q[j]?=some y->KI x y
inductive ju(h:Nat->AB):AV->PV->Prop
 | p (x:PV):ju h (.p x) x
 | nl:ju h .nl (.sl [])
 | row (id:Nat) (e:TypeId) (es:List (List PV)) (hr:h id=.row e es):ju h (.ow id) (.sl es)
 | f_ (id:Nat) (es:List (List PV)) (hr:h id=.f_ es):ju h (.ow id) (.sl es)
 | ai (id:Nat) (e:TypeId) (es:List (List HX)) (ps:List (List PV)) (hr:h id=.ai e es) (hp:Kf es ps):ju h (.ow id) (.sl ps)
inductive jZ(h:Nat->AB):List AV->List PV->Prop
 | nil:jZ h [] []
 | cons {a:AV} {x:PV} {as:List AV} {xs:List PV} (h1:ju h a x) (h2:jZ h as xs):jZ h (a::as) (x::xs)
inductive View(h:Nat->AB):AV->PV->Prop
 | one {a:AV} {x:PV} (h1:ju h a x):View h a x
 | box (id off:Nat) (cs:List AV) (xs:List PV) (hb:h id=.box cs) (hx:jZ h cs xs):View h (.bx id off) (.ip (xs.drop off))
 | jt (id off:Nat) (xs:List PV) (hb:h id=.jt xs):View h (.bx id off) (.ip (xs.drop off))
inductive nM(h:Nat->AB):List AV->List PV->Prop
 | nil:nM h [] []
 | cons {a:AV} {x:PV} {as:List AV} {xs:List PV} (h1:View h a x) (h2:nM h as xs):nM h (a::as) (x::xs)
def KJ(C:Ctx)(h:Nat->AB)(d:Nat)(f:FuncId)(args:List AV)(K:KK):Prop:=∃xs r,nM h args xs/\aT C f (xs.map .pv) r []/\r.free=true/\K (Ke d r) [] none
def Nu:AV->Bool
 | .ow _=>true
 | _=>false
def td{α:Type}(f:α->Bool):List α->Bool
 | []=>false
 | x::r=>match f x with
  | true=>true
  | false=>td f r
def cY(h:Nat->AB):AV->Bool
 | .bx id _=>match h id with
  | .box cs=>td Nu cs
  | _=>false
 | .ow id=>match h id with
  | .ai _ _=>true
  | _=>false
 | _=>false
def Ht(cs:List AV)(ys:List PV):Prop:=ys.length=cs.length/\∀(j:Nat) x,cs[j]?=some (.p x)->ys[j]?=some x
def pe(h:Nat->AB):AV->Bool
 | .p (.sl _)=>true
 | .p (.im (.slice _ _ _))=>true
 | .ow id=>match h id with
  | .row _ _=>true
  | _=>false
 | .nl=>true
 | _=>false
def Il:PV->Prop
 | .im _=>True
 | .sl es=>∀r∈es,∃k n,r=[.im (.int k n)]
 | _=>False
def KL:PV->Prop
 | .ag cs=>∀c∈cs,Il c
 | x=>Il x
def rB(C:Ctx)(h:Nat->AB)(f:FuncId)(args:List AV)(K:KK):Prop:=match args with
 | [.bx id 0,.p y,.ow cZ]=>match h id,h cZ with
  | .box cs,.row e es=>∃x bW,(∀ys,Ht cs ys->aT C f [.pv (.ip ys),.pv y,.row e es] (.p x) [.row bW])/\(∀c∈cs,pe h c=true)/\KL x/\(∀r∈bW,∀z∈r,nL z=true)/\K (.p x) [(cZ,.row e bW)] none
  | _,_=>False
 | _=>False
def j3(C:Ctx)(h:Nat->AB)(d:Nat)(f:FuncId)(args:List AV)(K:KK):Prop:=match td (cY h) args with
 | false=>jY C h d f args K
 | true=>match C.md f 90 with
  | false=>KJ C h d f args K
  | true=>rB C h f args K
def Kg:List (Nat×Value)->Array Value->Array Value
 | [],c=>c
 | (j,v)::r,c=>Kg r (c.setIfInBounds j v)
def Db:List (Nat×Value)->List PV->List PV
 | [],c=>c
 | (j,v)::r,c=>Db r (c.set j (.im v))
def Im(C:Ctx)(f:FuncId)(n off:Nat)(y:PV)(rd wr:List (Nat×Value))(r:Value):Prop:=
 (∃ fn : Func, C.P.funcs[f]? = some fn ∧ (fn.name == "runtime.NumGoroutine") = false ∧ fn.body.isNone = false) ∧
 ∀(S:Nat->Prop) (w:World) (v1:Value) (b:Nat) (c:Array Value) (ty:TypeId),C.E S w->(∀k,S k->k<w.heap.size)->ay S w y v1->w.heap[b]?=some (.cells c ty (0,0))->c.size=n->¬S b->(∀p∈rd,c[p.1]?=some p.2)->
  Calls C.P f #[.pointer (some ⟨b,0,none⟩),v1,.pointer (some ⟨b,off,none⟩)] w fun e' w'=>e'=.returned r/\Fr (fun k=>k=b) w w'/\w'.heap[b]?=some (.cells (Kg wr c) ty (0,0))
def FL:List (Nat×Value)->Bool
 | []=>true
 | (_,v)::r=>v.oneCell'&&FL r
def Io(ys:List PV):List (Nat×Value)->Prop
 | []=>True
 | (j,v)::r=>ys[j]?=some (.im v)/\Io ys r
def rC(C:Ctx)(h:Nat->AB)(f:FuncId)(args:List AV)(K:KK):Prop:=match args with
 | [.bx id 0,.p y,.bx iu off]=>match Nat.beq iu id,h id with
  | true,.box cs=>match cE cs with
   | some ys=>∃rd wr r,Im C f ys.length off y rd wr r/\Io ys rd/\FL wr=true/\K (.p (.im r)) [(id,.box ((Db wr ys).map .p))] none
   | none=>False
  | _,_=>False
 | _=>False
def jm(C:Ctx)(f:FuncId)(t:TypeId)(xs:List PV)(e:TypeId)(l:List (List PV))(r:PV)(l':List (List PV)):Prop:=
 (∃ fn : Func, C.P.funcs[f]? = some fn ∧ (fn.name == "runtime.NumGoroutine") = false ∧ fn.body.isNone = false) ∧
 ∀(S:Nat->Prop) (w:World) (vs:List Value) (g off:Nat) (c:Array Value) (ty:TypeId) (v:Value),C.E S w->(∀k,S k->k<w.heap.size)->xs.length=vs.length->(∀(j:Nat) x u,xs[j]?=some x->vs[j]?=some u->ay S w x u)->
  w.heap[g]?=some (.cells c ty (0,0))->c[off]?=some v->an C.P w (ay S w) e l v->¬S g->(∀k,bH v=some k->¬S k/\k≠g/\k<w.heap.size)->
  Calls C.P f (Value.iface t (.pointer (some ⟨g,off,none⟩))::vs).toArray w fun e' w'=>∃u v' S',e'=.returned u/\Fr (fun k=>k=g\/bH v=some k) w w'/\ay S' w' r u /\
   w'.heap[g]?=some (.cells (c.setIfInBounds off v') ty (0,0))/\an C.P w' (ay S' w') e l' v'/\∀k,bH v'=some k->k<w'.heap.size/\k≠g/\(bH v=some k\/w.heap.size<=k)
def Dc(l:List (List PV)):Prop:=∀row∈l,∀z∈row,nL z=true
def p7(C:Ctx)(h:Nat->AB)(d:Nat)(f:FuncId)(args:List AV)(K:KK):Prop:=match args with
 | .ifp t a::as=>match cE as with
  | some ys=>match a with
   | .bx id off=>match h id with
    | .box cs=>match cs[off]? with
     | some (.ow cZ)=>match h cZ with
      | .row e l=>match Nat.beq id cZ with
       | true=>False
       | false=>∃r l',jm C f t ys e l r l'/\nL r=true/\Dc l'/\K (.p r) [(cZ,.none),(id,.box (cs.set off (.ow d)))] (some (.row e l'))
      | _=>False
     | _=>False
    | _=>False
   | .rp id i off=>match h id with
    | .ai e' es=>∃q,es[i]?=some q/\match q[off]? with
     | some (.row e l)=>∃r l',jm C f t ys e l r l'/\nL r=true/\Dc l'/\K (.p r) [(id,.ai e' (es.set i (q.set off (.row e l'))))] none
     | _=>False
    | _=>False
   | _=>False
  | none=>False
 | _=>False
def kV(C:Ctx)(h:Nat->AB)(d:Nat)(f:FuncId)(args:List AV)(K:KK):Prop:=match C.md f 91 with
 | false=>j3 C h d f args K
 | true=>rC C h f args K
def p8(C:Ctx)(h:Nat->AB)(d:Nat)(f:FuncId)(args:List AV)(K:KK):Prop:=match C.md f 92 with
 | false=>kV C h d f args K
 | true=>p7 C h d f args K
def Ip(C:Ctx)(f:FuncId)(xs:List PV)(ty e:TypeId)(es:List (List PV))(r:AR)(ch:Bool)(bW:Option (List (List PV))):Prop:=
 (∃ fn : Func, C.P.funcs[f]? = some fn ∧ (fn.name == "runtime.NumGoroutine") = false ∧ fn.body.isNone = false) ∧
 ∀(S:Nat->Prop) (w:World) (vs:List Value) (b:Nat) (u0 u1:Value),C.E S w->(∀k,S k->k<w.heap.size)->xs.length=vs.length ->
  (∀(j:Nat) x v,xs[j]?=some x->vs[j]?=some v->ay S w x v)->w.heap[b]?=some (.cells #[u0,u1] ty (0,0))->(u0=.pointer none\/u0=.pointer (some ⟨b,0,none⟩))->
  an C.P w (ay S w) e es u1->¬S b->(∀g,bH u1=some g->¬S g/\g≠b/\g<w.heap.size)->
  Calls C.P f (vs++[Value.pointer (some ⟨b,0,none⟩)]).toArray w fun e' w'=>∃v,e'=.returned v/\Fr (fun k=>k=b\/bH u1=some k) w w'/\Da S w' C.P r v/\match bW with
   | none=>True
   | some bW=>∃u1',w'.heap[b]?=some (.cells #[(match ch with | true=>Value.pointer (some ⟨b,0,none⟩) | false=>u0),u1'] ty (0,0))/\an C.P w' (ay S w') e bW u1'/\∀g,bH u1'=some g->g<w'.heap.size/\(bH u1=some g\/w.heap.size<=g)
def lY:List AV->Option (List AV×AV)
 | []=>none
 | [x]=>some ([],x)
 | x::y::r=>match lY (y::r) with
  | some (l,z)=>some (x::l,z)
  | none=>none
def Hu(id:Nat):AV->Bool
 | .p (.im (.pointer none))=>true
 | .bx i 0=>Nat.beq i id
 | _=>false
def p9(ch:Bool)(id:Nat)(c:AV):AV:=match ch with
 | true=>.bx id 0
 | false=>c
def p_(C:Ctx)(h:Nat->AB)(d:Nat)(f:FuncId)(args:List AV)(K:KK):Prop:=
 match lY args with
 | some (as,.bx id 0)=>match h id with
  | .eN ty [c,.ow cZ]=>match Hu id c with
   | true=>match h cZ with
    | .row e es=>pZ h as fun xs fz=>∃r ch bW,Ip C f xs ty e es r ch bW/\match r.free&&(m_ id fz&&(m_ cZ fz&&!Nat.beq id cZ)) with
     | true=>match bW with
      | some bW=>K (Ke d r) (fz++[(cZ,.none),(id,.eN ty [p9 ch id c,.ow d])]) (some (.row e bW))
      | none=>K (Ke d r) (fz++[(cZ,.none),(id,.none)]) none
     | false=>False
    | _=>False
   | false=>False
  | _=>False
 | _=>False
def gd(h:Nat->AB)(fs:List (Nat×Nat×Bool))(rho:Operand->AV):List (Nat×Operand)->List PV->(List PV->List (Nat×AB)->Prop)->Prop
 | [],cs,K=>K cs []
 | (i,x)::r,cs,K=>match fs[i]? with
  | some (off,size,_)=>g_ h (rho x) fun y fz=>match mZ y with
   | some ys=>match o7 ys.length size&&yy (off+size) cs.length with
    | true=>gd h fs rho r (setCells cs off ys) fun dB jr=>K dB (fz++jr)
    | false=>False
   | none=>False
  | none=>False
def Dd:AV->Option (List PV)
 | .p (.ag ys)=>some ys
 | _=>none
theorem De{a:AV}{ys:List PV}(h:Dd a=some ys):a=.p (.ag ys):=by
 unfold Dd at h;split at h
 ·injection h with h;rw[h]
 cases h
def gf(h:Nat->AB)(fs:List (Nat×Nat×Bool))(rho:Operand->AV):List (Nat×Operand)->List AV->(List AV->Prop)->Prop
 | [],cs,K=>K cs
 | (i,x)::r,cs,K=>match fs[i]? with
  | some (off,size,_)=>match Dd (rho x) with
   | some ys=>match o7 ys.length size&&yy (off+size) cs.length with
    | true=>gf h fs rho r (setCells cs off (ys.map .p)) K
    | false=>False
   | none=>match o7 size 1&&yy (off+1) cs.length&&kL h (rho x) with
    | true=>gf h fs rho r (cs.set off (rho x)) K
    | false=>False
  | none=>False
def qa(b:Bool)(h:Nat->AB)(a:AV)(K:PV->List (Nat×AB)->Prop):Prop:=match b,a with
 | true,.nl=>K (.im (.slice none 0 0)) []
 | _,a=>g_ h a K
def eC(b:Bool)(h:Nat->AB)(size:Nat)(rho:Operand->AV):List (Nat×Operand)->List (List PV)->(List (List PV)->List (Nat×AB)->Prop)->Prop
 | [],es,K=>K es []
 | (i,x)::r,es,K=>qa b h (rho x) fun y fz=>match mZ y with
  | some ys=>match o7 ys.length size&&Nat.blt i es.length with
   | true=>eC b h size rho r (es.set i ys) fun bW jr=>K bW (fz++jr)
   | false=>False
  | none=>False
def Df:List HX->Bool
 | []=>true
 | .av _::r=>Df r
 | .row _ _::_=>false
def nd(h:Nat->AB)(e:TypeId):AV->Option (List (List HX))
 | .ow id=>match h id with
  | .ai e' es=>match o7 e' e&&es.all Df with
   | true=>some es
   | false=>none
  | _=>none
 | _=>none
def dV(h:Nat->AB)(a:AV)(K:List (List PV)->Prop):Prop:=match a with
 | .p (.sl es)=>K es
 | .nl=>K []
 | .ow id=>match h id with
  | .row _ es=>K es
  | .f_ es=>K es
  | _=>False
 | _=>False
inductive CK where
 | len
 | clear
 | min
 | max
 | append
 | val (g:Operand)
 | other
def dK:Builtin->CK
 | .len=>.len
 | .clear=>.clear
 | .min=>.min
 | .max=>.max
 | .append=>.append
 | _=>.other
def dk:Callee->CK
 | .builtin b=>dK b
 | .value g=>.val g
 | .invoke _ _=>.other
def Ap:Fn->Option FuncId
 | .func f=>some f
 | _=>none
def Aq:Value->Option (FuncId×List AV)
 | .func fn first cap=>match isNil first.toList&&isNil cap.toList with
  | true=>match Ap fn with
   | some f=>some (f,[])
   | none=>none
  | false=>none
 | _=>none
def Ar:PV->Option (FuncId×List AV)
 | .im v=>Aq v
 | .fn f cap=>some (f,cap.map .p)
 | _=>none
def rD:AV->Option (FuncId×List AV)
 | .p x=>Ar x
 | .fn f cap=>some (f,cap)
 | _=>none
def j4(ti:TI):PV:=match ti.ud.agg with
 | true=>.ag (ti.zero.map qD)
 | false=>match ti.zero with
  | z::_=>qD z
  | []=>.im undef
def ef(C:Ctx)(rho:Operand->AV)(h:Nat->AB)(t:TypeId)(x:Operand)(lo hi:Option Operand)(K:KK):Prop:=
  let l:=match lo with | some y=>rho y | none=>.p (.im (.int .i64 0))
  match C.T t with
  | some { ud:=.str,.. }=>match rho x with
   | .p (.im (.string s))=>
    match l,(match hi with | some y=>rho y | none=>.p (.im (.int .i64 s.size))) with
    | .p (.im (.int _ a)),.p (.im (.int _ b))=>(0<=a/\a<=b/\b<=s.size)/\K (.p (.im (.string (s.extract a.toNat b.toNat)))) [] none
    | _,_=>False
   | _=>False
  | some { ud:=.sl e,.. }=>match C.T e with
   | none=>False
   | some te=>g_ h (rho x) fun y fz=>match y with
    | .sl es=>match l,(match hi with | some y=>rho y | none=>.p (.im (.int .i64 es.length))) with
     | .p (.im (.int _ a)),.p (.im (.int _ b))=>(0<=a/\a<=b/\b<=es.length/\∀r∈es,r.length=te.size)/\K (.p (.sl ((es.take b.toNat).drop a.toNat))) fz none
     | _,_=>False
    | _=>False
  | _=>False
def nN(C:Ctx)(rho:Operand->AV)(t:TypeId)(lo hi:Option Operand)(id:Nat)(e':TypeId)(es:List (List PV))(K:KK):Prop:=
 match C.T t with
 | some { ud:=.sl e,.. }=>match o7 e' e with
  | true=>match (match lo with | some y=>rho y | none=>.p (.im (.int .i64 0))),(match hi with | some y=>rho y | none=>.p (.im (.int .i64 es.length))) with
   | .p (.im (.int _ a)),.p (.im (.int _ b))=>(0<=a/\a<=b/\b<=es.length)/\K (.vw id a.toNat b.toNat) [] none
   | _,_=>False
  | false=>False
 | _=>False
def hlen(h:Nat->AB):AV->Option Nat
 | .ow id=>match h id with
  | .ai _ es=>some es.length
  | _=>none
 | .vw id lo hi=>match h id with
  | .row _ _=>some (hi-lo)
  | _=>none
 | _=>none
def o8(r:List PV):List HX:=r.map fun x=>.av (Kd x)
def aZ(C:Ctx)(o:Oper)(rho:Operand->AV)(h:Nat->AB)(K:KK):Prop:=
 let d:=o.dst.getD 0
 match o.op with
 | .move x=>K (rho x) [] none
 | .assign x=>K (rho x) [] none
 | .pick c a b=>match rho c with
  | .p (.im (.bool t))=>match t with
   | true=>K (rho a) [] none
   | false=>K (rho b) [] none
  | _=>False
 | .binOp op t x y _=>match rho x,rho y with
  | .p a,.p b=>na C.T op t a b fun v=>K (.p (.im v)) [] none
  | .p a,.nl=>By C.T op t a fun v=>K (.p (.im v)) [] none
  | _,_=>False
 | .unOp op _ x=>match op,rho x with
  | .not,.p (.im (.bool b))=>K (.p (.im (.bool !b))) [] none
  | .neg,.p (.im (.int k n))=>pd k (0-n) fun v=>K (.p (.im v)) [] none
  | _,_=>False
 | .convert src dst x=>match rho x,C.T src,C.T dst with
  | .p (.im (.int _ n)),some _,some { ud:=.int k,.. }=>pd k n fun v=>K (.p (.im v)) [] none
  | .p (.im (.string s)),some { ud:=.str,.. },some { ud:=.str,.. }=>K (.p (.im (.string s))) [] none
  | .p (.im (.int _ n)),some { ud:=.int _,.. },some { ud:=.str,.. }=>K (.p (.im (.string (Utf8.encode n)))) [] none
  | _,_,_=>False
 | .nilCheck x=>match rho x with
  | .p (.ip cs)=>K (.p (.ip cs)) [] none
  | .bx id off=>match h id with
   | .box _=>K (.bx id off) [] none
   | .jt _=>K (.bx id off) [] none
   | _=>False
  | .rp id i off=>match h id with
   | .row _ _=>K (.rp id i off) [] none
   | .ai _ _=>K (.rp id i off) [] none
   | _=>False
  | .ow id=>match h id with
   | .cell _ _ _=>K (.ow id) [] none
   | _=>False
  | _=>False
 | .makeInterface t x=>match rho x with
  | .p y=>match C.T t with
   | some { ud:=.st _,.. }=>K (.p (.ifc t y)) [] none
   | _=>False
  | a=>match C.pt t with
   | true=>K (.ifp t a) [] none
   | false=>False
 | .typeAssert x _ t false=>match rho x with
  | .p (.ifc t' y)=>match o7 t' t,C.T t with
   | true,some { ud:=.st _,.. }=>K (.p y) [] none
   | _,_=>False
  | _=>False
 | .extract x i=>match rho x with
  | .tu xs=>match xs[i]? with
   | some a=>K a [] none
   | none=>False
  | _=>False
 | .box _ x=>match rho x with
  | .p (.ag cs)=>K (.bx d 0) [] (some (.box (cs.map .p)))
  | .st xs=>K (.bx d 0) [] (some (.box xs))
  | a=>match kL h a with
   | true=>K (.bx d 0) [] (some (.box [a]))
   | false=>False
 | .alloc e=>match C.T e with
  | some ti=>match C.bt e with
   | false=>K (.bx d 0) [] (some (.box (ti.zero.map Bx)))
   | true=>K (.bx d 0) [] (some (.eN e (ti.zero.map Bx)))
  | none=>False
 | .load t a=>match C.T t with
  | none=>False
  | some ti=>match rho a with
   | .p (.ip cs)=>match ti.ud.agg with
    | true=>match yy ti.size cs.length with
     | true=>K (.p (.ag (cs.take ti.size))) [] none
     | false=>False
    | false=>match cs with
     | c::_=>K (.p c) [] none
     | []=>False
   | .bx id off=>match h id with
    | .box cs=>match ti.ud.agg with
     | true=>match yy (off+ti.size) cs.length,cE ((cs.drop off).take ti.size) with
      | true,some xs=>K (.p (.ag xs)) [] none
      | _,_=>False
     | false=>match cs.drop off with
      | c::_=>K c [] none
      | []=>False
    | .jt cs=>match ti.ud.agg with
     | true=>match yy (off+ti.size) cs.length with
      | true=>K (.p (.ag ((cs.drop off).take ti.size))) [] none
      | _=>False
     | false=>match cs.drop off with
      | c::_=>K (.p c) [] none
      | []=>False
    | _=>False
   | .rp id i off=>match h id with
    | .row _ es=>∃r,es[i]?=some r/\match ti.ud.agg with
     | true=>match yy (off+ti.size) r.length with
      | true=>K (.p (.ag ((r.drop off).take ti.size))) [] none
      | _=>False
     | false=>match r.drop off with
      | c::_=>K (.p c) [] none
      | []=>False
    | .ai _ es=>∃r,es[i]?=some r/\match ti.ud.agg with
     | true=>False
     | false=>match r.drop off with
      | .av c::_=>K c [] none
      | _=>False
    | _=>False
   | .ow id=>match h id,ti.ud.agg with
    | .cell _ _ c,false=>K c [] none
    | _,_=>False
   | _=>False
 | .store t a x=>match C.T t with
  | none=>False
  | some ti=>match rho a with
   | .bx id off=>match h id with
    | .box cs=>match ti.ud.agg with
     | true=>g_ h (rho x) fun y fz=>match y with
      | .ag ys=>match o7 ys.length ti.size&&yy (off+ti.size) cs.length&&m_ id fz with
       | true=>K .junk (fz++[(id,.box (setCells cs off (ys.map Kd)))]) none
       | false=>False
      | _=>False
     | false=>match yy (off+1) cs.length&&o7 ti.size 1&&kL h (rho x) with
      | true=>K .junk [(id,.box (cs.set off (rho x)))] none
      | false=>False
    | _=>False
   | .rp id i off=>match h id with
    | .row e es=>∃r,es[i]?=some r/\g_ h (rho x) fun y fz=>match mZ y with
     | some ys=>match o7 ys.length ti.size&&yy (off+ti.size) r.length&&m_ id fz with
      | true=>K .junk (fz++[(id,.row e (es.set i (setCells r off ys)))]) none
      | false=>False
     | none=>False
    | .ai e es=>∃r,es[i]?=some r/\match ti.ud.agg with
     | true=>False
     | false=>match yy (off+1) r.length&&o7 ti.size 1&&kL h (rho x) with
      | true=>K .junk [(id,.ai e (es.set i (r.set off (.av (rho x)))))] none
      | false=>False
    | _=>False
   | .ow id=>match h id,ti.ud.agg with
    | .cell c0 ty _,false=>match o7 ti.size 1&&kL h (rho x) with
     | true=>K .junk [(id,.cell c0 ty (rho x))] none
     | false=>False
    | _,_=>False
   | _=>False
 | .fieldAddr t x f=>match C.T t with
  | some { ud:=.st fs,.. }=>match fs[f]? with
   | some (off,_,_)=>match rho x with
    | .p (.ip cs)=>K (.p (.ip (cs.drop off))) [] none
    | .bx id o=>match h id with
     | .none=>False
     | _=>K (.bx id (o+off)) [] none
    | .rp id i o=>match h id with
     | .row _ _=>K (.rp id i (o+off)) [] none
     | .ai _ _=>K (.rp id i (o+off)) [] none
     | _=>False
    | _=>False
   | none=>False
  | _=>False
 | .field t x f=>match C.T t,rho x with
  | some { ud:=.st fs,.. },.p (.ag cs)=>match fs[f]? with
   | some (off,size,agg)=>match agg with
    | true=>match yy (off+size) cs.length with
     | true=>K (.p (.ag ((cs.drop off).take size))) [] none
     | false=>False
    | false=>match cs.drop off with
     | c::_=>K (.p c) [] none
     | []=>False
   | none=>False
  | _,_=>False
 | .indexAddr t x ix=>match C.T t,rho ix with
  | some { ud:=.sl e,.. },.p (.im (.int _ i))=>match C.T e with
   | none=>False
   | some te=>match rho x with
    | .p (.sl es)=>∃r,(0<=i/\es[i.toNat]?=some r)/\match o7 r.length te.size with
     | true=>K (.p (.ip r)) [] none
     | false=>False
    | .ow id=>match h id with
     | .row e' es=>match o7 e' e with
      | true=>(0<=i/\i.toNat<es.length)/\K (.rp id i.toNat 0) [] none
      | false=>False
     | .ai e' es=>match o7 e' e with
      | true=>(0<=i/\i.toNat<es.length)/\K (.rp id i.toNat 0) [] none
      | false=>False
     | .f_ es=>∃r,(0<=i/\es[i.toNat]?=some r)/\match o7 r.length te.size with
      | true=>K (.p (.ip r)) [] none
      | false=>False
     | _=>False
    | .vw id lo hi=>match h id with
     | .row e' es=>match o7 e' e with
      | true=>(0<=i/\i.toNat<hi-lo)/\K (.rp id (lo+i.toNat) 0) [] none
      | false=>False
     | _=>False
    | _=>False
  | _,_=>False
 | .index t x ix=>match C.T t,rho x,rho ix with
  | some { ud:=.str,.. },.p (.im (.string s)),.p (.im (.int _ i))=>∃b,(0<=i/\s[i.toNat]?=some b)/\K (.p (.im (.int .u8 b.toNat))) [] none
  | _,_,_=>False
 | .slice t x lo hi none=>match rho x with
  | .ow id=>match h id with
   | .row e' es=>nN C rho t lo hi id e' es K\/ef C rho h t x lo hi K
   | _=>ef C rho h t x lo hi K
  | _=>ef C rho h t x lo hi K
 | .makeMap t none=>match C.T t with
  | some { ud:=.mp kt _,.. }=>match C.T kt with
   | some tk=>match tb tk with
    | some mk=>K (.ow d) [] (some (.map mk []))
    | none=>False
   | none=>False
  | _=>False
 | .lookup t x i ck=>match C.T t with
  | some { ud:=.mp kt et,.. }=>match C.T kt,C.T et with
   | some tk,some te=>match tb tk with
    | some mk=>match rho x with
     | .ow id=>match h id with
      | .map mk' es=>match MR mk mk' with
       | true=>match keyOf mk (rho i) with
        | some k=>∃r,pc es k=r/\match ck with
         | true=>K (.tu [.p (r.getD (j4 te)),.p (.im (.bool r.isSome))]) [] none
         | false=>K (.p (r.getD (j4 te))) [] none
        | none=>False
       | false=>False
      | _=>False
     | .p (.mp mk' es)=>match MR mk mk' with
      | true=>match keyOf mk (rho i) with
       | some k=>∃r,pc (es.map Bz) k=r/\match ck with
        | true=>K (.tu [.p (r.getD (j4 te)),.p (.im (.bool r.isSome))]) [] none
        | false=>K (.p (r.getD (j4 te))) [] none
       | none=>False
      | false=>False
     | _=>False
    | none=>False
   | _,_=>False
  | _=>False
 | .range t x=>match C.T t with
  | some { ud:=.mp _ _,.. }=>match rho x with
   | .p (.mp mk es)=>K (.bx d 0) [] (some (.iter mk es es.length none))
   | _=>False
  | _=>False
 | .entry x=>match rho x with
  | .bx id 0=>match h id with
   | .iter _ _ _ (some p)=>K (.tu [.p (.im p.1),.p (.im p.2)]) [] none
   | _=>False
  | _=>False
 | .mapUpdate t x i y=>match C.T t with
  | some { ud:=.mp kt _,.. }=>match C.T kt with
   | some tk=>match tb tk with
    | some mk=>match rho x with
     | .ow id=>match h id with
      | .map mk' es=>match MR mk mk' with
       | true=>match keyOf mk (rho i) with
        | some k=>g_ h (rho y) fun v fz=>match m_ id fz with
         | true=>K .junk (fz++[(id,.map mk' (qB es k v))]) none
         | false=>False
        | none=>False
       | false=>False
      | _=>False
     | _=>False
    | none=>False
   | none=>False
  | _=>False
 | .build t ps=>match C.T t with
  | some { ud:=.st fs,zero:=z,.. }=>match C.bo t with
   | false=>gd h fs rho ps.toList (z.map (Kc (C.bn t))) fun cs fz=>K (.p (.ag cs)) fz none
   | true=>gf h fs rho ps.toList (z.map Bx) fun cs=>K (.st cs) [] none
  | _=>False
 | .buildSlice t len ps=>match C.T t with
  | some { ud:=.sl e,.. }=>match C.T e with
   | some ti=>match Nat.blt 0 ti.size&&yy (len*ti.size) 16777216 with
    | true=>match C.bh t with
     | true=>match len,ps.toList with
      | 1,[(0,x)]=>match o7 ti.size 1&&kL h (rho x) with
       | true=>K (.ow d) [] (some (.ai e [[.av (rho x)]]))
       | false=>False
      | _,_=>False
     | false=>match C.bf d with
      | false=>eC (C.bn t) h ti.size rho ps.toList (List.replicate len (ti.zero.map qD)) fun es fz=>K (.ow d) fz (some (.row e es))
      | true=>eC (C.bn t) h ti.size rho ps.toList (List.replicate len (ti.zero.map qD)) fun es fz=>K (.ow d) fz (some (.f_ es))
    | false=>False
   | none=>False
  | _=>False
 | .makeSlice t n c=>match C.T t,rho n,rho c with
  | some { ud:=.sl e,.. },.p (.im (.int _ n)),.p (.im (.int _ c))=>match C.T e with
   | some ti=>match Nat.blt 0 ti.size with
    | true=>(0<=n/\n<=c/\c*ti.bytes<=140737488355328/\c<=9223372036854775807)/\K (.ow d) [] (some (.row e (List.replicate n.toNat (ti.zero.map (Kc (C.bn t))))))
    | false=>False
   | none=>False
  | _,_,_=>False
 | .makeFunc (.func f) first cap=>match isNil first.toList with
  | true=>K (.fn f (cap.toList.map rho)) [] none
  | false=>False
 | .call c=>match dk c.callee with
  | .len=>match c.args.toList,c.argTypes.toList with
   | [x],[t]=>match C.T t with
    | some { ud:=.str,.. }=>match rho x with
     | .p (.im (.string s))=>K (.p (.im (.int .i64 s.size))) [] none
     | _=>False
    | some { ud:=.sl _,.. }=>match hlen h (rho x) with
     | some n=>K (.p (.im (.int .i64 n))) [] none
     | none=>dV h (rho x) fun es=>K (.p (.im (.int .i64 es.length))) [] none
    | some { ud:=.mp _ _,.. }=>match rho x with
     | .ow id=>match h id with
      | .map _ es=>K (.p (.im (.int .i64 es.length))) [] none
      | _=>False
     | .p (.mp _ es)=>K (.p (.im (.int .i64 es.length))) [] none
     | _=>False
    | _=>False
   | _,_=>False
  | .clear=>match c.args.toList,c.argTypes.toList with
   | [x],[t]=>match C.T t with
    | some { ud:=.sl e,.. }=>match C.T e with
     | some ti=>match rho x with
      | .vw id lo hi=>match h id with
       | .row e' es=>match o7 e' e&&Nat.blt 0 ti.size with
        | true=>(lo<=hi/\hi<=es.length)/\K (.tu []) [(id,.row e' (es.take lo++List.replicate (hi-lo) (ti.zero.map qD)++es.drop hi))] none
        | false=>False
       | _=>False
      | _=>False
     | none=>False
    | _=>False
   | _,_=>False
  | .min=>match c.args.toList with
   | [x,y]=>match rho x,rho y with
    | .p (.im (.int k a)),.p (.im (.int _ b))=>K (.p (.im (.int k (min a b)))) [] none
    | _,_=>False
   | _=>False
  | .max=>match c.args.toList with
   | [x,y]=>match rho x,rho y with
    | .p (.im (.int k a)),.p (.im (.int _ b))=>K (.p (.im (.int k (max a b)))) [] none
    | _,_=>False
   | [x,y,z]=>match rho x,rho y,rho z with
    | .p (.im (.int k a)),.p (.im (.int _ b)),.p (.im (.int _ c))=>K (.p (.im (.int k (max (max a b) c)))) [] none
    | _,_,_=>False
   | [x,y,z,u,v]=>match rho x,rho y,rho z,rho u,rho v with
    | .p (.im (.int k a)),.p (.im (.int _ b)),.p (.im (.int _ c)),.p (.im (.int _ d)),.p (.im (.int _ e))=>K (.p (.im (.int k (max (max (max (max a b) c) d) e)))) [] none
    | _,_,_,_,_=>False
   | _=>False
  | .append=>match c.args.toList,c.argTypes.toList with
   | [x,y],[t,t']=>match o7 t t',C.T t with
    | true,some { ud:=.sl e,.. }=>match C.T e with
     | some ti=>match Nat.blt 0 ti.size with
      | true=>match nd h e (rho y) with
       | some ys=>match rho x with
        | .ow id=>match h id with
         | .ai e' xs=>match o7 e' e with
          | true=>((∀r∈ys,r.length=ti.size)/\(xs.length+ys.length)*ti.bytes<=140737488355328/\xs.length+ys.length<=140737488355328)/\K (.ow d) [(id,.none)] (some (.ai e (xs++ys)))
          | false=>False
         | _=>False
        | _=>False
       | none=>dV h (rho y) fun ys=>match rho x with
        | .nl=>((∀r∈ys,r.length=ti.size)/\ys.length*ti.bytes<=140737488355328/\ys.length<=140737488355328)/\K (.ow d) [] (some (.row e ys))
        | .ow id=>match h id with
         | .row e' xs=>match o7 e' e with
          | true=>((∀r∈ys,r.length=ti.size)/\(xs.length+ys.length)*ti.bytes<=140737488355328/\xs.length+ys.length<=140737488355328)/\K (.ow d) [(id,.none)] (some (.row e (xs++ys)))
          | false=>False
         | .ai e' xs=>match o7 e' e with
          | true=>((∀r∈ys,r.length=ti.size)/\(xs.length+ys.length)*ti.bytes<=140737488355328/\xs.length+ys.length<=140737488355328)/\K (.ow d) [(id,.none)] (some (.ai e (xs++ys.map o8)))
          | false=>False
         | _=>False
        | _=>False
      | false=>False
     | none=>False
    | _,_=>False
   | _,_=>False
  | .val g=>match rD (rho g) with
   | some (f,cap)=>match C.bl f with
    | false=>p8 C h d f (c.args.toList.map rho++cap) K
    | true=>p_ C h d f (c.args.toList.map rho++cap) K
   | none=>False
  | _=>False
 | _=>False
end Go.AM
namespace Go.AM
open Go.RowKit
def jw(P:Program)(t:TypeId)(ti:TI):Prop:=
 ∃info z,P.info? t=some info/\info.size=ti.size/\info.bytes=ti.bytes/\info.zero=some z/\z.cells=ti.zero.toArray/\ti.zero.length=ti.size/\(∀v∈ti.zero,v.oneCell'=true)/\
  match ti.ud with
  | .sc=>(∃d,P.underlying t=some d/\(match d with | .struct _ | .array _ _=>False | _=>True))/\(ti.eq=true->P.underlying t=some .bool)
  | .int k=>P.underlying t=some (.int k)
  | .st fs=>∃gs,P.underlying t=some (.struct gs)/\fs.length=gs.size/\(∀(i:Nat) f g,fs[i]?=some f->gs[i]?=some g->f.1=g.offset/\f.2.1≠0/\(∃i2,P.info? g.type=some i2/\i2.size=f.2.1)/\
    (∃d,P.underlying g.type=some d/\f.2.2=(match d with | .struct _ | .array _ _=>true | _=>false)))
  | .sl e=>P.underlying t=some (.slice e)
  | .str=>P.underlying t=some .string
  | .mp k e=>P.underlying t=some (.map k e)
def Dg:Value->Bool
 | .agg _=>true
 | _=>false
def yA(P:Program)(t:TypeId)(ti:TI):Prop:=∃info z,P.info? t=some info/\info.zero=some z/\Dg z=ti.ud.agg
def mN(k:Value):List MapEntry->Nat->Option (Nat×Value)
 | [],_=>none
 | m::r,i=>match yx k m.key with
  | true=>some (i,m.val)
  | false=>mN k r (i+1)
structure As(P:Program)(kt:TypeId)(mk:MK):Prop where
 check:∀(e:Bool) (k:Value) (w:World),mk.ok k->(Instr.checkKey e 10000 kt k).run P w=.ok () w
 find:∀(k:Value) (w:World) (ms:List MapEntry),mk.ok k->(∀m∈ms,mk.ok m.key)->(Instr.findKey kt k ms).run P w=.ok (mN k ms 0) w
def u9(P:Program)(t:TypeId)(name:String)(f:FuncId)(d:Bool):Prop:=match d with
 | false=>∀(a:Addr) (w:World),(method (P.types.size+Made.depth) t (.pointer (some a)) name).run P w=.ok (f,.pointer (some a)) w
 | true=>∀(a:Addr) (v:Value) (w:World),w.cell? a=some v->(method (P.types.size+Made.depth) t (.pointer (some a)) name).run P w=.ok (f,v) w
structure aL(C:Ctx):Prop where
 zs:∀t ti,C.T t=some ti->yA C.P t ti
 eL:∀t ti,C.T t=some ti->jw C.P t ti
 env:∀S S' w w',C.E S w->(∀b,S b->S' b)->(∀b,S b->w'.heap[b]?=w.heap[b]?)->w.heap.size<=w'.heap.size->C.E S' w'
 any:C.P.follows .mixedOrders=true
 eqs:∀t ti op a b r,C.T t=some ti->ti.eq=true->(∃fs,ti.ud=.st fs)->aX ti.zero a b=some r->∀(xs ys:Array Value) w,(∀(i:Nat) x v,a[i]?=some x->xs[i]?=some v->x=.im v)->(∀(i:Nat) x v,b[i]?=some x->ys[i]?=some v->x=.im v)->
  a.length=xs.size->b.length=ys.size->ti.size=a.length->(op=.eql\/op=.neq)->∀(x y:Operand),(do eqGuard op t x y (.agg xs) (.agg ys);binOp op t (.agg xs) (.agg ys):Sem Value).run C.P w=.ok (.bool (if op=.eql then r else !r)) w
 keys:∀kt tk sh,C.T kt=some tk->tb tk=some (.st sh)->As C.P kt (.st sh)
 pts:∀t,C.pt t=true->∃e,C.P.underlying t=some (.pointer e)
structure jR where
 C:Ctx
 w0:World
 mv:Nat->Prop
 s0:Nat->Prop
 n:Nat
 pin:Nat->Value
structure aU(A:jR)(V L:Nat->Prop)(S:Nat->Prop)(rho:Nat->Value)(s:AS)(a:Act)(w:World):Prop where
 tm:∀j,V j->aE S w A.C.P L rho s.h (s.t j) (a.tmps.getD j undef)
 sz:a.tmps.size=A.n
 df:a.defers=[]
 nb:A.n<=100000
 pn:∀id,100000<=id->rho id=A.pin id
 ev:A.C.E S w
 s0:∀b,A.s0 b->S b
 st:∀b,S b->b<w.heap.size
 sb:∀b,S b->A.s0 b\/A.mv b\/A.w0.heap.size<=b
 hp:∀id,L id->cd S w A.C.P L rho s.h id (s.h id)
 dj:∀i j g,L i->L j->(s.h i).live->(s.h j).live->hasB w (s.h i) (rho i) g->hasB w (s.h j) (rho j) g->i=j
 lv:∀i g,L i->(s.h i).live->hasB w (s.h i) (rho i) g->g<w.heap.size/\¬S g/\(A.mv g\/A.w0.heap.size<=g)
 fr:Fr A.mv A.w0 w
variable {A:jR} {V L:Nat->Prop} {rho:Nat->Value} {s:AS}
theorem aU.KM{S:Nat->Prop}{a:Act}{w:World}(m:aU A V L S rho s a w)(i j g:Nat)(u:L i)(z:L j)(D:(s.h i).live)(G:(s.h j).live)(I:bH (rho i)=some g)(J:bH (rho j)=some g):i=j:=m.dj i j g u z D G (.inl I) (.inl J)
theorem aU.mO{S:Nat->Prop}{a:Act}{w:World}(m:aU A V L S rho s a w)(i g:Nat)(u:L i)(z:(s.h i).live)(D:bH (rho i)=some g):g<w.heap.size/\¬S g/\(A.mv g\/A.w0.heap.size<=g):=m.lv i g u z (.inl D)
structure fu(S S':Nat->Prop)(w w':World)(L L':Nat->Prop)(rho rho':Nat->Value)(h h':Nat->AB):Prop where
 hS:∀b,S b->S' b
 keep:∀b,S b->w'.heap[b]?=w.heap[b]?
 ids:∀id,(h' id).there->(h id).there/\(L id->L' id/\rho' id=rho id)
 rows:∀id e,(h' id).fD=some e->(h id).fD=some e
variable {e:TypeId}
theorem fv{b:AB}(h:b.fD=some e):b.there:=by cases b<;>first | trivial | cases h
variable {S' L':Nat->Prop} {w':World} {rho':Nat->Value} {h':Nat->AB}
theorem aE.bA{S:Nat->Prop}{w:World}{P:Program}{h:Nat->AB}(T:fu S S' w w' L L' rho rho' h h'){x:AV}{v:Value}
  (R:aE S w P L rho h x v):aE S' w' P L' rho' h' x v:=by
 induction R with
 | p x v R=>exact .p x v (R.mono T.hS T.keep)
 | nl=>exact .nl
 | ow id v hv=>
  refine .ow id v fun U=>?_;obtain⟨G,W⟩:=T.ids id U;obtain⟨m,z⟩:=hv G;obtain⟨D,I⟩:=W m;exact⟨D,by rw[I];exact z⟩
 | rp id i off v hv=>
  refine .rp id i off v fun e J=>?_;obtain⟨m,g,n,c,ti,z,D,I⟩:=hv e (T.rows id e J);obtain⟨N,Y⟩:=(T.ids id (fv J)).2 m;exact⟨N,g,n,c,ti,by rw[Y];exact z,D,I⟩
 | bx id off v hv=>
  refine .bx id off v fun U=>?_;obtain⟨G,W⟩:=T.ids id U;obtain⟨m,g,z,N⟩:=hv G;obtain⟨D,I⟩:=W m;exact⟨D,g,by rw[I];exact z,N⟩
 | vw id lo hi v hv=>
  refine .vw id lo hi v fun e J=>?_;obtain⟨m,n,c,a,ti,z,D⟩:=hv e (T.rows id e J);obtain⟨N,Y⟩:=(T.ids id (fv J)).2 m;exact⟨N,n,c,a,ti,by rw[Y];exact z,D⟩
 | fn f cap O hl hc ih=>exact .fn f cap O hl ih
 | tu xs O hl hc ih=>exact .tu xs O hl ih
 | st xs O hl G hc ih=>exact .st xs O hl G ih
 | ifp t a u hc ih=>exact .ifp t a u ih
 | junk v=>exact .junk v
theorem nO{w:World}{base:Nat}{size:Nat}{v:Value}{n:Nat}{xs:List Value}(h:w.ownsRow base e size v n xs)(hb:∀g,bH v=some g->w'.heap[g]?=w.heap[g]?):w'.ownsRow base e size v n xs:=by
 refine⟨h.1,?_⟩;rcases h.2 with D | ⟨g,m,u,z,G,I,r⟩
 ·exact .inl D
 exact .inr ⟨g,m,u,z,G,by rw[hb g (by rw[z];rfl)];exact I,r⟩
theorem an.bA{α:Type}{P:Program}{w:World}{R m:α->Value->Prop}{es:List (List α)}{v:Value}(h:an P w R e es v)(hb:∀g,bH v=some g->w'.heap[g]?=w.heap[g]?)(z:∀x u,R x u->m x u):an P w' m e es v:=by
 obtain⟨i,xs,D,G,I,J,N,O⟩:=h;exact⟨i,xs,D,G,nO I hb,J,N,fun a r j x U W=>by obtain⟨u,Y,Z⟩:=O a r j x U W;exact⟨u,Y,z x u Z⟩⟩
theorem kU.bA{w:World}{es:List (List HX)}{v:Value}(h:kU w es v)(hb:∀g,bH v=some g->w'.heap[g]?=w.heap[g]?):kU w' es v:=
 ⟨fun g a j u b m z D=>h.top g a j u b m (iZ (hb g m) z) D,fun g a j G j' u I b m z D J N=>h.dis g a j G j' u I b m (iZ (hb g m) z) (iZ (hb g m) D) J N⟩
theorem an.rE{P:Program}{w:World}{R:HX->Value->Prop}{es:List (List HX)}{v:Value}(h:an P w R e es v){a j:Nat}{r:List HX}{e':TypeId}{D:List (List PV)}(m:es[a]?=some r)(G:r[j]?=some (.row e' D)):
  ∃g u,bH v=some g/\bI w es g a j u/\R (.row e' D) u:=by
 obtain⟨i,xs,h1,h2,I,J,h5,N⟩:=h;obtain⟨u,z,O⟩:=N a r j _ m G;have U:=J r (aj m);rcases I.2 with⟨hn,hz⟩ | ⟨g,cap,cur,W,hg,Y,k1,k2,k3,Z⟩
 ·have:=(cL.1 m).1;omega
 refine⟨g,u,by rw[W];rfl,⟨r,e',D,_,_,_,m,G,Y,?_⟩,O⟩;rw[U];rw[<-Z,cB]at z;split at z
 ·simpa using z
 cases z
theorem cd.bA{S:Nat->Prop}{w:World}{P:Program}{h:Nat->AB}(T:fu S S' w w' L L' rho rho' h h'){id:Nat}{x:AB}
  (hb:x.live->∀g,hasB w x (rho id) g->w'.heap[g]?=w.heap[g]?) (R:x.there->rho' id=rho id) (Z:cd S w P L rho h id x):cd S' w' P L' rho' h' id x:=by
 cases x with
 | none=>trivial
 | row e es=>
  show an P w' (ay S' w') e es (rho' id);rw[R trivial];exact an.bA Z (fun g hg=>hb trivial g (.inl hg)) (fun x u z=>z.mono T.hS T.keep)
 | f_ es=>
  show ay S' w' (.sl es) (rho' id);rw[R trivial];exact ay.mono Z T.hS T.keep
 | box cs=>
  obtain⟨g,ty,c,D,h2,J,U⟩:=Z;refine⟨g,ty,c,by rw[R trivial];exact D,by rw[hb trivial g (.inl (by rw[D];rfl))];exact h2,J,fun j x u W z=>?_⟩;obtain⟨G,N⟩:=U j x u W z;exact⟨G,N.bA T⟩
 | eN ty cs=>
  obtain⟨g,c,D,h2,J,U⟩:=Z;refine⟨g,c,by rw[R trivial];exact D,by rw[hb trivial g (.inl (by rw[D];rfl))];exact h2,J,fun j x u W z=>?_⟩;obtain⟨G,N⟩:=U j x u W z;exact⟨G,N.bA T⟩
 | jt cs=>
  show ay S' w' (.ip cs) (rho' id);rw[R trivial];exact ay.mono Z T.hS T.keep
 | map mk es=>
  obtain⟨g,ms,I,D,h2,J,U,MS⟩:=Z;refine⟨g,ms,I,by rw[R trivial];exact D,by rw[hb trivial g (.inl (by rw[D];rfl))];exact h2,J,fun i p m hi Y=>?_,MS⟩;obtain⟨G,N,h7⟩:=U i p m hi Y;exact⟨G,N,h7.mono T.hS T.keep⟩
 | iter mk es k cur=>
  obtain⟨g,mg,ms,I,seen,D,h2,J,U,G⟩:=Z;exact⟨g,mg,ms,I,seen,by rw[R trivial];exact D,by rw[hb trivial g (.inl (by rw[D];rfl))];exact h2,T.hS _ J,(T.keep _ J).trans U,G⟩
 | cell c0 ty a=>
  obtain⟨g,off,v,D,h2,J,U,G⟩:=Z;exact⟨g,off,v,by rw[R trivial];exact D,h2,by rw[hb trivial g (.inl (by rw[D];rfl))];exact J,U,G.bA T⟩
 | fam l out=>
  obtain⟨D,hF⟩:=Z;have iR:∀m g cs,l[m]?=some (g,cs)->qA out m->∀k,mE w cs g k->w'.heap[k]?=w.heap[k]?:=fun m g cs Y ho k hk=>hb trivial k (.inr (.inr (.inr ⟨l,out,m,g,cs,rfl,Y,ho,hk⟩)));refine⟨by rw[R trivial];exact D,fun m g cs Y ho=>?_,fun m m' g g' cs dB k Y mD ho u_ hk mF=>hF.dis m m' g g' cs dB k Y mD ho u_ (pb (iR m g cs Y ho g (.inl rfl)) hk) (pb (iR m' g' dB mD u_ g' (.inl rfl)) mF),fun m n g cs Y hl ht=>?_⟩
  ·obtain⟨ty,c,O⟩:=hF.mem m g cs Y ho;refine⟨ty,c,by rw[iR m g cs Y ho g (.inl rfl)];exact O.hp,O.sz,fun j x u W z=>?_,O.top,O.dis⟩;obtain⟨G,N⟩:=O.cell j x u W z;refine⟨G,?_⟩;cases x with
   | p x=>exact ay.mono N T.hS T.keep
   | row e es=>exact an.bA N (fun k hk=>iR m g cs Y ho k (.inr ⟨c,ty,_,j,_,u,O.hp,W,trivial,z,hk⟩)) (fun x u z=>z.mono T.hS T.keep)
  obtain⟨k1,k2⟩:=T.ids n ht;obtain⟨k3,k4⟩:=hF.out m n g cs Y hl k1;obtain⟨k5,k6⟩:=k2 k3;exact⟨k5,k6.trans k4⟩
 | aA cs=>
  obtain⟨g,ty,c,D,O⟩:=Z;have hg:bH (rho id)=some g:=by rw[D];rfl
  refine⟨g,ty,c,by rw[R trivial];exact D,⟨by rw[hb trivial g (.inl hg)];exact O.hp,O.sz,fun j x u W z=>?_,O.top,O.dis⟩⟩;obtain⟨G,N⟩:=O.cell j x u W z;refine⟨G,?_⟩;cases x with
  | p x=>exact ay.mono N T.hS T.keep
  | row e es=>exact an.bA N (fun k hk=>hb trivial k (.inr (.inl ⟨cs,g,rfl,hg,c,ty,_,j,_,u,O.hp,W,trivial,z,hk⟩))) (fun x u z=>z.mono T.hS T.keep)
 | ai e es=>
  obtain⟨hR,hS⟩:=Z;have hg:∀g,bH (rho id)=some g->w'.heap[g]?=w.heap[g]?:=fun g hg=>hb trivial g (.inl hg);refine⟨?_,by rw[R trivial];exact hS.bA hg⟩;rw[R trivial];obtain⟨i,xs,D,h2,J,U,G,N⟩:=hR;refine⟨i,xs,D,h2,nO J hg,U,G,fun a r j x ha W=>?_⟩;obtain⟨u,z,nF⟩:=N a r j x ha W;refine⟨u,z,?_⟩;cases x with
  | av x=>exact aE.bA T nF
  | row e' kS=>
   refine an.bA nF (fun k hk=>hb trivial k (.inr (.inr (.inl ?_)))) (fun x u z=>z.mono T.hS T.keep);have nP:=U r (aj ha);rcases J.2 with⟨hn,hz⟩ | ⟨g,cap,cur,hv,hg,wI,k1,k2,k3,k4⟩
   ·have:=(cL.1 ha).1;omega
   refine⟨e,es,g,a,j,u,rfl,by rw[hv];rfl,⟨r,e',kS,_,_,_,ha,W,wI,?_⟩,hk⟩;rw[nP];rw[<-k4,cB]at z;split at z
   ·simpa using z
   cases z
theorem Fr.next{mv:Nat->Prop}{w0 w:World}(h:Fr mv w0 w)(z:w'.os=w.os)(D:w'.tape=w.tape)(G:w'.output=w.output)(hs:w.heap.size<=w'.heap.size)(hb:∀k,k<w0.heap.size->¬mv k->w'.heap[k]?=w.heap[k]?):Fr mv w0 w':=
 ⟨z.trans h.os,D.trans h.tape,G.trans h.output,bM h.size hs,fun k m u=>(hb k m u).trans (h.block k m u)⟩
def cU(t:Nat->AV)(d:Option Tmp)(v:AV):Nat->AV:=match d with
 | some d=>ax t d v
 | none=>t
def mG(V:Nat->Prop)(d:Option Tmp)(j:Nat):Prop:=V j\/d=some j
theorem Dh(a:Act)(d:Tmp)(v:Value)(j:Nat)(m:d<a.tmps.size):(a.put (some d) v).tmps.getD j undef=if j=d then v else a.tmps.getD j undef:=by
 simp only[Act.put,lU,fg];by_cases h:d=j
 ·subst h;simp[m]
 have:¬j=d:=fun e=>h e.symm;simp[h,this]
theorem Iq{S:Nat->Prop}{a:Act}{w:World}(u:aU A V L S rho s a w)(T:fu S S' w w' L L' rho rho' s.h h')(dst:Option Tmp)(z:∀d,dst=some d->d<A.n)(x:AV)(v:Value)
  (D:aE S' w' A.C.P L' rho' h' x v):∀j,mG V dst j->aE S' w' A.C.P L' rho' h' (cU s.t dst x j) ((a.put dst v).tmps.getD j undef):=by
 intro j m;cases dst with
 | none=>
  rcases m with m | m
  ·exact (u.tm j m).bA T
  cases m
 | some d=>
  rw[Dh a d v j (by rw[u.sz];exact z d rfl)];by_cases e:j=d
  ·subst e;simp only[cU,ak,if_true];exact D
  simp only[cU,au _ _ e,af e];rcases m with m | m
  ·exact (u.tm j m).bA T
  injection m with m;exact absurd m.symm e
theorem Di(a:Act)(dst:Option Tmp)(v:Value):(a.put dst v).tmps.size=a.tmps.size:=by cases dst<;>simp[Act.put]
theorem wP(a:Act)(dst:Option Tmp)(v:Value):(a.put dst v).defers=a.defers:=by cases dst<;>rfl
theorem aU.value{S:Nat->Prop}{a:Act}{w:World}(m:aU A V L S rho s a w)(dst:Option Tmp)(u:∀d,dst=some d->d<A.n)(x:AV)(v:Value)(z:aE S w A.C.P L rho s.h x v):
  aU A (mG V dst) L S rho ⟨cU s.t dst x,s.h⟩ (a.put dst v) w:=
 {tm:=Iq m ⟨fun _ h=>h,fun _ _=>rfl,fun _ h=>⟨h,fun hl=>⟨hl,rfl⟩⟩,fun _ _ h=>h⟩ dst u x v z
  sz:=(Di a dst v).trans m.sz
  df:=(wP a dst v).trans m.df
  nb:=m.nb,pn:=m.pn
  ev:=m.ev,s0:=m.s0,st:=m.st,sb:=m.sb,hp:=m.hp,dj:=m.dj,lv:=m.lv,fr:=m.fr }
end Go.AM
namespace Go.AM
open Go.RowKit
variable {Q:Exit->Act->World->Prop}
theorem bS{P:Program}{o:Oper}{a:Act}{w w':World}{v:Value}{next:Act->World->Prop}(h:(execOp a.eval o).run P w=.ok (.value v) w')(m:next (a.put o.dst v) w'):o.wp P a w next Q:=by
 unfold Oper.wp;rw[h];exact m
theorem jx{P:Program}{o:Oper}{a:Act}{w w':World}{next:Act->World->Prop}(h:(execOp a.eval o).run P w=.ok .skip w')(m:next (a.put o.dst undef) w'):o.wp P a w next Q:=by
 unfold Oper.wp;rw[h];exact m
theorem nQ(S:Nat->Prop)(w:World)(v:Value):ay S w (qD v) v:=by
 unfold qD;split
 ·exact .nil _ _
 exact .im _
theorem Au(b:Bool)(S:Nat->Prop)(w:World)(v:Value):ay S w (Kc b v) v:=by
 cases b
 ·exact nQ S w v
 exact .im v
variable {L:Nat->Prop} {rho:Nat->Value}
theorem va{S:Nat->Prop}{w:World}{P:Program}{h:Nat->AB}{x:PV}{v:Value}(m:ay S w x v):aE S w P L rho h (Kd x) v:=by
 unfold Kd;split
 ·cases m;exact .nl
 exact .p _ _ m
theorem rF(S:Nat->Prop)(w:World)(P:Program)(L:Nat->Prop)(rho:Nat->Value)(h:Nat->AB)(v:Value):aE S w P L rho h (Bx v) v:=by
 unfold Bx;split
 ·exact .nl
 exact .p _ _ (.im _)
theorem BA(S:Nat->Prop)(w:World)(P:Program)(L:Nat->Prop)(rho:Nat->Value)(h:Nat->AB)(v:Value):aE S w P L rho h (u6 v) v:=by
 unfold u6;split
 ·exact .nl
 ·rename_i cs;split
  ·rename_i z;refine .p _ _ (.ag _ _ (by simp) (fun u D=>?_) fun i c v m G=>?_)
   ·rw[cC]at z;exact z u D
   rw[ao]at m;have I:cs.toList[i]?=some v:=by simpa using G
   rw[I]at m;simp at m;rw[<-m];exact nQ S w v
  exact .junk _
 exact .p _ _ (.im _)
variable {A:jR} {V:Nat->Prop} {s:AS}
theorem aH{S:Nat->Prop}{a:Act}{w:World}(m:aU A V L S rho s a w)(x:Operand)(u:∀j,x=.tmp j->V j):aE S w A.C.P L rho s.h (ev s.t x) (a.eval x):=by
 cases x with
 | tmp j=>exact m.tm j (u j rfl)
 | const v=>exact BA _ _ _ _ _ _ v
 | global g=>exact .p _ _ (.im _)
 | func f=>exact .p _ _ (.im _)
theorem aE.cb{S:Nat->Prop}{w:World}{P:Program}{h:Nat->AB}{x:PV}{v:Value}(m:aE S w P L rho h (.p x) v):ay S w x v:=by cases m;assumption
theorem ay.bc{S:Nat->Prop}{w:World}{x v:Value}(m:ay S w (.im x) v):v=x:=by cases m;rfl
theorem aE.bc{S:Nat->Prop}{w:World}{P:Program}{h:Nat->AB}{x v:Value}(m:aE S w P L rho h (.p (.im x)) v):v=x:=m.cb.bc
theorem ay.kW{S:Nat->Prop}{w:World}{cs:List PV}{v:Value}(z:ay S w (.ag cs) v):∃m:Array Value,v=.agg m/\cs.length=m.size/\(∀u∈m.toList,u.oneCell'=true)/\(∀(i:Nat) c u,cs[i]?=some c->m[i]?=some u->ay S w c u):=by
 cases z;exact⟨_,rfl,by assumption,by assumption,by assumption⟩
theorem ay.rG{S:Nat->Prop}{w:World}{cs:List PV}{v:Value}(m:ay S w (.ip cs) v):∃b off,∃U:Nat->Value,v=.pointer (some ⟨b,off,none⟩)/\S b/\(∀(j:Nat) x,cs[j]?=some x->w.cell? ⟨b,off+j,none⟩=some (U j)/\(U j).oneCell'=true)/\(∀(j:Nat) x,cs[j]?=some x->ay S w x (U j)):=by
 cases m;exact⟨_,_,_,rfl,by assumption,by assumption,by assumption⟩
theorem ay.j5{S:Nat->Prop}{w:World}{es:List (List PV)}{v:Value}(D:ay S w (.sl es) v):∃a c,v=.slice a es.length c/\es.length<=c/\(es≠[]->∃b off k,a=some ⟨b,off,none⟩/\S b/\(∀e∈es,e.length=k)/\
  ∀(i:Nat) e (j:Nat) x,es[i]?=some e->e[j]?=some x->∃u,w.cell? ⟨b,off+i*k+j,none⟩=some u/\u.oneCell'=true/\ay S w x u):=by
 cases D with
 | nil a c=>exact⟨a,c,rfl,by simp,fun h=>absurd rfl h⟩
 | sl _ k b off c U hc hS hk hcell h=>exact⟨_,c,rfl,hc,fun _=>⟨b,off,k,rfl,hS,hk,fun i e j x m z=>⟨U i j,(hcell i e j x m z).1,(hcell i e j x m z).2,h i e j x m z⟩⟩⟩
def nR(L:Nat->Prop)(new:Option AB)(d:Nat):Nat->Prop:=match new with
 | none=>L
 | some _=>fun i=>L i\/i=d
def eD(A:jR)(o:Oper):Prop:=
 ∀(V L S:Nat->Prop) (rho:Nat->Value) (s:AS) (a:Act) (w:World) (K:KK) (next:Act->World->Prop) (Q:Exit->Act->World->Prop),aL A.C->aU A V L S rho s a w->(∀j,Operand.tmp j∈o.op.operands->V j)->(∀d,o.dst=some d->d<A.n)->
  aZ A.C o (ev s.t) s.h K->(∀v eff b,K v eff (some b)->¬L (o.dst.getD 0)/\s.h (o.dst.getD 0)=b)->
  (∀v eff new S' rho' a' w',K v eff new->aU A (mG V o.dst) (nR L new (o.dst.getD 0)) S' rho' ⟨cU s.t o.dst v,app s.h eff⟩ a' w'->next a' w')->o.wp A.C.P a w next Q
theorem ar{o:Oper}{S:Nat->Prop}{a:Act}{w:World}{K:KK}{next:Act->World->Prop}(u:aU A V L S rho s a w)(D:∀d,o.dst=some d->d<A.n)
  (m:∀v eff new S' rho' z w',K v eff new->aU A (mG V o.dst) (nR L new (o.dst.getD 0)) S' rho' ⟨cU s.t o.dst v,app s.h eff⟩ z w'->next z w') {x:AV} {v:Value} (G:K x [] none) (I:aE S w A.C.P L rho s.h x v)
  (J:(execOp a.eval o).run A.C.P w=.ok (.value v) w):o.wp A.C.P a w next Q:=
 bS J (m _ _ _ _ _ _ _ G (u.value o.dst D x v I))
theorem FM{o:Oper}(x:Operand)(z:o.op=.move x):eD A o:=by
 intro V L S rho s a w K next Q hC u G I D _ m
 simp only[aZ,z]at D;exact ar u I m D (aH u x fun j J=>G j (by simp[z,Op.operands,J])) (by simp[execOp,z])
theorem BB{o:Oper}(x:Operand)(z:o.op=.assign x):eD A o:=by
 intro V L S rho s a w K next Q hC u G I D _ m
 simp only[aZ,z]at D;exact ar u I m D (aH u x fun j J=>G j (by simp[z,Op.operands,J])) (by simp[execOp,z])
theorem FN{o:Oper}(c x y:Operand)(z:o.op=.pick c x y):eD A o:=by
 intro V L S rho s a w K next Q hC m I N D _ u
 simp only[aZ,z]at D;have J:=aH m c fun j G=>I j (by simp[z,Op.operands,G]);have O:=aH m x fun j G=>I j (by simp[z,Op.operands,G]);have R:=aH m y fun j G=>I j (by simp[z,Op.operands,G]);split at D
 ·rename_i t U;rw[U]at J;split at D
  ·exact ar m N u D O (by simp[execOp,z,J.bc,asBool])
  exact ar m N u D R (by simp[execOp,z,J.bc,asBool])
 exact D.elim
theorem aE.Ir{S:Nat->Prop}{w:World}{P:Program}{h:Nat->AB}{xs:List AV}{v:Value}(z:aE S w P L rho h (.st xs) v):∃m:Array Value,v=.agg m/\xs.length=m.size/\(∀u∈m.toList,u.oneCell'=true)/\∀(i:Nat) c u,xs[i]?=some c->m[i]?=some u->aE S w P L rho h c u:=by
 cases z;exact⟨_,rfl,by assumption,by assumption,by assumption⟩
theorem aE.Is{S:Nat->Prop}{w:World}{P:Program}{h:Nat->AB}{xs:List AV}{v:Value}(z:aE S w P L rho h (.tu xs) v):∃m:Array Value,v=.tuple m/\xs.length=m.size/\∀(i:Nat) c u,xs[i]?=some c->m[i]?=some u->aE S w P L rho h c u:=by
 cases z;exact⟨_,rfl,by assumption,by assumption⟩
variable {α:Type}
theorem fJ{m:Array α}{n i:Nat}(hl:n=m.size)(hi:i<n):∃v,m[i]?=some v:=⟨m[i]'(by omega),bE _⟩
theorem ah{l:List α}{i:Nat}{x:α}(h:l[i]?=some x):i<l.length:=(cL.1 h).1
theorem yC{o:Oper}(x:Operand)(i:Nat)(D:o.op=.extract x i):eD A o:=by
 intro V L S rho s a w K next Q hC z N O u _ m
 simp only[aZ,D]at u;have G:=aH z x fun j R=>N j (by simp[D,Op.operands,R]);split at u
 ·rename_i xs o8;rw[o8]at G;split at u
  ·rename_i y I;obtain⟨vs,U,hl,W⟩:=G.Is;obtain⟨v,J⟩:=fJ hl (ah I);refine ar z O m u (W i y v I J) ?_;simp[execOp,D,U,Instr.extract,J]
  exact u.elim
 exact u.elim
theorem Av{a b:IntKind}(h:kB a b=true):a=b:=by cases a<;>cases b<;>first | rfl | cases h
theorem FO{k:IntKind}(h:KH k=true):k=.i64:=by cases k<;>first | rfl | cases h
theorem jy{k:IntKind}{n:Int}{K:Value->Prop}(h:pd k n K):K (.int k (k.wrap n)):=by
 unfold pd at h;split at h
 ·rename_i m;obtain rfl:=FO m;obtain⟨⟨u,z⟩,D⟩:=h;rw[IntWalk.i64_in n ⟨u,z⟩];exact D
 exact h
theorem vc(a b:ByteArray):(a.toList==b.toList)=decide (a=b):=by
 rw[gU];simp only[beq_iff_eq,dS,uS];constructor
 ·intro h;exact ByteArray.ext (gV h)
 rintro rfl;rfl
theorem Aw(a b:ByteArray):Op.bytesLess a.toList b.toList=Op.bytesLess a.data.toList b.data.toList:=by rw[uS,uS]
theorem rH(a b:Int):(a==b)=decide (a=b):=by rw[gU];simp
theorem yD(a b:Int):(a != b)=!decide (a=b):=by rw[bne,rH]
theorem FP{a b:Nat}(h:o7 a b=true):a=b:=bq h
theorem run_equalIn_slice_nil{P:Program}(w:World)(d:Nat)(t e:TypeId)(a:Option Addr)(l c:Nat)(h:P.underlying t=some (.slice e)):(Op.equalIn (d+1) t (.slice a l c) (.slice none 0 0)).run P w=.ok a.isNone w:=by
 cases a<;>simp[Op.equalIn,run_underlying h]
theorem dL{P:Program}(w:World)(t e:TypeId)(a:Option Addr)(l c:Nat)(h:P.underlying t=some (.slice e)):(Op.equal t (.slice a l c) (.slice none 0 0)).run P w=.ok a.isNone w:=run_equalIn_slice_nil w 9999 t e a l c h
theorem Dj{o:Oper}(op:BinOp)(t:TypeId)(x y:Operand)(t':TypeId)(J:o.op=.binOp op t x y t'):eD A o:=by
 intro V L S rho s a w K next Q hC I hV R G _ D
 simp only[aZ,J]at G;have Y:=aH I x fun j hj=>hV j (by simp[J,Op.operands,hj]);have Z:=aH I y fun j hj=>hV j (by simp[J,Op.operands,hj]);split at G
 ·rename_i u v hu hv;rw[hu]at Y;rw[hv]at Z;replace Y:=Y.cb;replace Z:=Z.cb;unfold na at G;split at G
  ·rename_i k m k' n;have N:=Y.bc;have O:=Z.bc;split at G
   ·rename_i hs;have Nv:op=.shr:=by cases op<;>first | rfl | cases hs
    subst Nv;obtain⟨⟨h0,W⟩,G⟩:=G;refine ar I R D G (.p _ _ (.im _)) ?_;have Nw:¬n<0:=by omega
    simp[execOp,J,N,O,eqGuard,binOp,Op.shift,Nw]
   split at G
   ·exact G.elim
   rename_i hk;obtain rfl:=Av hk;split at G
   ·exact ar I R D (jy G) (.p _ _ (.im _)) (by simp[execOp,J,N,O,eqGuard,binOp,Op.intArith])
   ·exact ar I R D (jy G) (.p _ _ (.im _)) (by simp[execOp,J,N,O,eqGuard,binOp,Op.intArith])
   ·exact ar I R D (jy G) (.p _ _ (.im _)) (by simp[execOp,J,N,O,eqGuard,binOp,Op.intArith])
   ·exact ar I R D (jy G.2) (.p _ _ (.im _)) (by simp[execOp,J,N,O,eqGuard,binOp,Op.intDiv,G.1])
   ·exact ar I R D G.2 (.p _ _ (.im _)) (by simp[execOp,J,N,O,eqGuard,binOp,Op.intDiv,G.1])
   ·exact ar I R D G (.p _ _ (.im _)) (by simp[execOp,J,N,O,eqGuard,binOp,Op.intCmp,rH])
   ·exact ar I R D G (.p _ _ (.im _)) (by simp[execOp,J,N,O,eqGuard,binOp,Op.intCmp,yD])
   ·exact ar I R D G (.p _ _ (.im _)) (by simp[execOp,J,N,O,eqGuard,binOp,Op.intCmp])
   ·exact ar I R D G (.p _ _ (.im _)) (by simp[execOp,J,N,O,eqGuard,binOp,Op.intCmp])
   ·exact ar I R D G (.p _ _ (.im _)) (by simp[execOp,J,N,O,eqGuard,binOp,Op.intCmp])
   ·exact ar I R D G (.p _ _ (.im _)) (by simp[execOp,J,N,O,eqGuard,binOp,Op.intCmp])
   exact G.elim
  ·rename_i m n;have N:=Y.bc;have O:=Z.bc;split at G
   ·exact ar I R D G.2 (.p _ _ (.im _)) (by
     have:=G.1;simp[execOp,J,N,O,eqGuard,binOp,run_string_add_sum w m n this])
   ·exact ar I R D G (.p _ _ (.im _)) (by simp[execOp,J,N,O,eqGuard,binOp,Op.stringOp,vc])
   ·exact ar I R D G (.p _ _ (.im _)) (by simp[execOp,J,N,O,eqGuard,binOp,Op.stringOp,vc])
   ·exact ar I R D G (.p _ _ (.im _)) (by simp[execOp,J,N,O,eqGuard,binOp,Op.stringOp,Aw])
   ·exact ar I R D G (.p _ _ (.im _)) (by simp[execOp,J,N,O,eqGuard,binOp,Op.stringOp,vc,Aw])
   ·exact ar I R D G (.p _ _ (.im _)) (by simp[execOp,J,N,O,eqGuard,binOp,Op.stringOp,vc,Aw])
   ·exact ar I R D G (.p _ _ (.im _)) (by simp[execOp,J,N,O,eqGuard,binOp,Op.stringOp,Aw])
   exact G.elim
  ·rename_i m n;have N:=Y.bc;have O:=Z.bc;split at G
   ·rename_i size bytes zero hT;have hb:A.C.P.underlying t=some .bool:=by
     obtain⟨_,_,_,_,_,_,_,_,_,h⟩:=hC.eL t _ hT;exact h.2 rfl
    have U:=fun w=>run_equal_bool (P:=A.C.P) (w:=w) t m n hb;split at G
    ·exact ar I R D G (.p _ _ (.im _)) (by simp[execOp,J,N,O,eqGuard,binOp,U];cases m<;>cases n<;>rfl)
    ·exact ar I R D G (.p _ _ (.im _)) (by simp[execOp,J,N,O,eqGuard,binOp,U];cases m<;>cases n<;>rfl)
    exact G.elim
   exact G.elim
  ·rename_i m n;obtain⟨xs,N,It,_,Iu⟩:=Y.kW;obtain⟨ys,O,yE,_,Ft⟩:=Z.kW;have im:∀(z:List Value) (m:List PV) (n:List PV) r,aX z m n=some r->(∀x∈m,∃v,x=.im v)/\(∀x∈n,∃v,x=.im v):=by
    intro z
    induction z with
    | nil=>
     intro m n r h;cases m<;>cases n<;>first
      | (simp[aX]at h;done)
      | exact⟨by simp,by simp⟩
    | cons c z ih=>
     intro m n r h;unfold aX at h;split at h
     ·rename_i W;cases W
     all_goals first
      | (
        rename_i W;injection W with W mP;subst mP;split at h
        ·obtain⟨r',FQ,_⟩:=az.1 h;obtain⟨i1,i2⟩:=ih _ _ _ FQ;exact⟨by simpa using i1,by simpa using i2⟩
        cases h)
      | (
        rename_i W;injection W with W mP;subst mP;obtain⟨r',FQ,_⟩:=az.1 h;obtain⟨i1,i2⟩:=ih _ _ _ FQ;exact⟨by simpa using i1,by simpa using i2⟩)
      | cases h
   have key:∀z r,aX z m n=some r->(∀(i:Nat) x v,m[i]?=some x->xs[i]?=some v->x=.im v)/\(∀(i:Nat) x v,n[i]?=some x->ys[i]?=some v->x=.im v):=by
    intro z r hr;obtain⟨i1,i2⟩:=im z m n r hr;refine⟨fun i x v W h2=>?_,fun i x v W h2=>?_⟩
    ·obtain⟨u,rfl⟩:=i1 x (aj W);rw[(Iu i _ v W h2).bc]
    obtain⟨u,rfl⟩:=i2 x (aj W);rw[(Ft i _ v W h2).bc]
   split at G
   ·rename_i fs size bytes zero hT;split at G
    ·exact G.elim
    rename_i hsz;have hsz:=FP hsz;split at G
    ·split at G
     ·rename_i r hr;obtain⟨k1,k2⟩:=key _ r hr;have U:=hC.eqs t _ .eql m n r hT rfl ⟨_,rfl⟩ hr xs ys w k1 k2 It yE hsz (.inl rfl) x y;exact ar I R D G (.p _ _ (.im _)) (by
       simp only[execOp,J,N,O];rw[aI,U];simp)
     exact G.elim
    ·split at G
     ·rename_i r hr;obtain⟨k1,k2⟩:=key _ r hr;have U:=hC.eqs t _ .neq m n r hT rfl ⟨_,rfl⟩ hr xs ys w k1 k2 It yE hsz (.inr rfl) x y;exact ar I R D G (.p _ _ (.im _)) (by
       simp only[execOp,J,N,O];rw[aI,U];simp)
     exact G.elim
    exact G.elim
   exact G.elim
  exact G.elim
 ·rename_i u hu hv;rw[hu]at Y;rw[hv]at Z;replace Y:=Y.cb;have qb:a.eval y=.slice none 0 0:=by generalize a.eval y=v at Z;cases Z;rfl
  unfold By at G;split at G
  case h_2=>exact G.elim
  rename_i es;split at G
  case h_1=>exact G.elim
  rename_i wJ;split at G
  case h_2=>exact G.elim
  rename_i e size bytes zero eq hT;have dr:A.C.P.underlying t=some (.slice e):=by
   obtain⟨_,_,_,_,_,_,_,_,_,h⟩:=hC.eL t _ hT;exact h
  obtain⟨ad,c,hv,_,bO⟩:=Y.j5;obtain⟨b,off,k,rfl,_⟩:=bO (fun e=>by rw[e]at wJ;cases wJ);split at G
  ·exact ar I R D G (.p _ _ (.im _)) (by simp[execOp,J,hv,qb,eqGuard,binOp,dL _ _ _ _ _ _ dr])
  ·exact ar I R D G (.p _ _ (.im _)) (by simp[execOp,J,hv,qb,eqGuard,binOp,dL _ _ _ _ _ _ dr])
  exact G.elim
 exact G.elim
theorem FR{o:Oper}(op:UnOp)(t:TypeId)(x:Operand)(D:o.op=.unOp op t x):eD A o:=by
 intro V L S rho s a w K next Q hC u J I z _ m
 simp only[aZ,D]at z;have G:=aH u x fun j N=>J j (by simp[D,Op.operands,N]);split at z
 ·rename_i b hb;rw[hb]at G;exact ar u I m z (.p _ _ (.im _)) (by simp[execOp,D,G.bc,Op.unary])
 ·rename_i k n hb;rw[hb]at G;exact ar u I m (jy z) (.p _ _ (.im _)) (by simp[execOp,D,G.bc,Op.unary,Op.intArith])
 exact z.elim
variable {ti:TI}
theorem jw.sizeOf{P:Program}{t:TypeId}(h:jw P t ti)(w:World):(sizeOf t).run P w=.ok ti.size w:=by
 obtain⟨info,z,m,u,_⟩:=h;simp[Go.sizeOf,typeInfo,m,u]
theorem jw.isAgg{P:Program}{t:TypeId}(h:jw P t ti)(w:World):(isAgg t).run P w=.ok ti.ud.agg w:=by
 obtain⟨info,z,_,_,_,_,_,_,_,h⟩:=h;unfold Go.isAgg;cases hu:ti.ud with
 | sc=>
  rw[hu]at h;obtain⟨⟨d,m,u⟩,_⟩:=h;rw[aI,run_underlying m];cases d<;>first | rfl | exact u.elim
 | int k=>rw[hu]at h;rw[aI,run_underlying h];rfl
 | st fs=>rw[hu]at h;obtain⟨gs,D,_⟩:=h;rw[aI,run_underlying D];rfl
 | sl e=>rw[hu]at h;rw[aI,run_underlying h];rfl
 | str=>rw[hu]at h;rw[aI,run_underlying h];rfl
 | mp k e=>rw[hu]at h;rw[aI,run_underlying h];rfl
theorem hP{P:Program}{w:World}{t:TypeId}(h:jw P t ti)(u:ti.ud.agg=true)(b off:Nat)(m:List Value)(hl:m.length=ti.size)(z:∀(j:Nat) v,m[j]?=some v->w.cell? ⟨b,off+j,none⟩=some v):
  (Instr.loadAt t (.pointer (some ⟨b,off,none⟩))).run P w=.ok (.agg m.toArray) w:=by
 have:=run_loadCells_list (P:=P) w ⟨b,off,none⟩ m (fun j v D=>by rw[gW];exact z j v D);rw[hl]at this;simp[Instr.loadAt,Instr.sureAddr,loadVar,h.isAgg,u,h.sizeOf,this]
theorem fA{P:Program}{w:World}{t:TypeId}(h:jw P t ti)(m:ti.ud.agg=false)(b off:Nat)(v:Value)(u:w.cell? ⟨b,off,none⟩=some v):
  (Instr.loadAt t (.pointer (some ⟨b,off,none⟩))).run P w=.ok v w:=by
 simp[Instr.loadAt,Instr.sureAddr,loadVar,h.isAgg,m,load,Sem.run,u]
theorem Ax{S:Nat->Prop}{w:World}(cs:List PV)(V:Nat->Value)(h:∀(j:Nat) x,cs[j]?=some x->(V j).oneCell'=true/\ay S w x (V j)):ay S w (.ag cs) (.agg ((List.range cs.length).map V).toArray):=by
 refine .ag _ _ (by simp) (fun u m=>?_) fun i c v z D=>?_
 ·simp at m;obtain⟨j,G,rfl⟩:=m;exact (h j _ (aM G)).1
 have I:=ah z;simp[I]at D;rw[<-D];exact (h i c z).2
variable {off:Nat}
theorem gz{l:List α}{n j:Nat}{x:α}(h:((l.drop off).take n)[j]?=some x):l[off+j]?=some x:=by
 rw[cB]at h;split at h
 ·rwa [fh]at h
 cases h
theorem gA{l:List α}{n:Nat}(h:off+n<=l.length):((l.drop off).take n).length=n:=by simp;omega
theorem jz{l:List α}{x:α}{r:List α}(h:l.drop off=x::r):l[off]?=some x:=by
 have:(l.drop off)[0]?=some x:=by rw[h];rfl
 rw[fh]at this;exact this
theorem gi{a b:Nat}(h:yy a b=true):a<=b:=dT h
theorem dC{a b:Nat}(h:o7 a b=true):a=b:=bq h
theorem dz:∀{cs:List AV} {xs:List PV},cE cs=some xs->cs.length=xs.length/\∀(j:Nat) c x,cs[j]?=some c->xs[j]?=some x->(c=.p x\/(c=.nl/\x=.sl [])):=by
 intro cs
 induction cs with
 | nil=>intro xs h;simp[cE]at h;subst h;exact⟨rfl,by simp⟩
 | cons c cs ih=>
  intro xs h;unfold cE at h;split at h
  ·rename_i m;cases m
  ·rename_i x r m;injection m with m h2;subst m h2;obtain⟨ys,D,rfl⟩:=az.1 h;obtain⟨G,I⟩:=ih D;refine⟨by simp[G],fun j c J u z=>?_⟩;cases j with
   | zero=>simp at u z;subst u z;exact .inl rfl
   | succ j=>exact I j c J (by simpa using u) (by simpa using z)
  ·rename_i r m;injection m with m h2;subst m h2;obtain⟨ys,D,rfl⟩:=az.1 h;obtain⟨G,I⟩:=ih D;refine⟨by simp[G],fun j c J u z=>?_⟩;cases j with
   | zero=>simp at u z;subst u z;exact .inr ⟨rfl,rfl⟩
   | succ j=>exact I j c J (by simpa using u) (by simpa using z)
  cases h
theorem aE.qS{S:Nat->Prop}{w:World}{P:Program}{h:Nat->AB}{c:AV}{x:PV}{u:Value}(z:c=.p x\/(c=.nl/\x=.sl []))(m:aE S w P L rho h c u):ay S w x u:=by
 rcases z with rfl | ⟨rfl,rfl⟩
 ·exact m.cb
 cases m;exact .nil _ _
variable {id:Nat}
theorem aE.dt{S:Nat->Prop}{w:World}{P:Program}{h:Nat->AB}{v:Value}(m:aE S w P L rho h (.bx id off) v)(u:(h id).there):L id/\∃g,rho id=.pointer (some ⟨g,0,none⟩)/\v=.pointer (some ⟨g,off,none⟩):=by
 cases m;rename_i z;exact z u
variable {e:TypeId}
theorem aE.rI{S:Nat->Prop}{w:World}{P:Program}{h:Nat->AB}{i:Nat}{v:Value}(m:aE S w P L rho h (.rp id i off) v){es:List (List PV)}(u:h id=.row e es):
  L id/\∃g n c ti,rho id=.slice (some ⟨g,0,none⟩) n c/\P.info? e=some ti/\v=.pointer (some ⟨g,i*ti.size+off,none⟩):=by
 cases m;rename_i z;exact z e (by rw[u];rfl)
theorem aE.lZ{S:Nat->Prop}{w:World}{P:Program}{h:Nat->AB}{i:Nat}{v:Value}(m:aE S w P L rho h (.rp id i off) v){es:List (List HX)}(u:h id=.ai e es):
  L id/\∃g n c ti,rho id=.slice (some ⟨g,0,none⟩) n c/\P.info? e=some ti/\v=.pointer (some ⟨g,i*ti.size+off,none⟩):=by
 cases m;rename_i z;exact z e (by rw[u];rfl)
theorem aE.Ay{S:Nat->Prop}{w:World}{P:Program}{h:Nat->AB}{t:TypeId}{x:AV}{v:Value}(m:aE S w P L rho h (.ifp t x) v):∃u,v=.iface t u/\aE S w P L rho h x u:=by
 cases m;exact⟨_,rfl,‹_›⟩
theorem aE.bu{S:Nat->Prop}{w:World}{P:Program}{h:Nat->AB}{v:Value}(m:aE S w P L rho h (.ow id) v)(u:(h id).there):L id/\v=rho id:=by
 cases m;rename_i z;exact z u
theorem an.cell{P:Program}{w:World}{R:α->Value->Prop}{es:List (List α)}{g n c:Nat}{ti:TypeInfo}(h:an P w R e es (.slice (some ⟨g,0,none⟩) n c))(D:P.info? e=some ti):
  ∀(a:Nat) r (j:Nat) x,es[a]?=some r->r[j]?=some x->∃u,w.cell? ⟨g,a*ti.size+j,none⟩=some u/\u.oneCell'=true/\R x u:=by
 obtain⟨i,xs,m,h2,G,h4,I,J⟩:=h;rw[D]at m;injection m with m;subst m;intro a r j x N O;obtain⟨u,z,U⟩:=J a r j x N O;have:=G.cells (g:=g) rfl _ u z;rw[gW]at this;refine⟨u,by simpa using this,I u (aj z),U⟩
theorem wQ{o:Oper}(t:TypeId)(x:Operand)(aq:o.op=.load t x){S:Nat->Prop}{a:Act}{w:World}{K:KK}(hC:aL A.C)(Y:aU A V L S rho s a w)(hV:∀j,x=.tmp j->V j)(z:aZ A.C o (ev s.t) s.h K):
  ∃av v,K av [] none/\aE S w A.C.P L rho s.h av v/\(Instr.loadAt t (a.eval x)).run A.C.P w=.ok v w:=by
 simp only[aZ,aq]at z;have hx:=aH Y x hV;split at z
 ·exact z.elim
 rename_i ti hT;have dr:=hC.eL t ti hT;split at z
 ·rename_i cs js;rw[js]at hx;obtain⟨b,off,U,R,hb,m,N⟩:=hx.cb.rG;split at z
  ·rename_i J;split at z
   ·rename_i G;have G:=gi G;have hlen:(cs.take ti.size).length=ti.size:=by simp;omega
    refine⟨_,_,z,.p _ _ (Ax _ U fun j x D=>?_),?_⟩
    ·have KN:cs[j]?=some x:=by rw[cB]at D;split at D;exact D;cases D
     exact⟨(m j x KN).2,N j x KN⟩
    have:=hP (w:=w) dr J b off ((List.range (cs.take ti.size).length).map U) (by simp;omega) (fun j v D=>by
     have kX:j<(cs.take ti.size).length:=by have:=ah D;simpa using this
     rw[ao,fG kX]at D;simp at D;have wR:j<cs.length:=by rw[hlen]at kX;omega
     rw[(m j _ (aM wR)).1,D])
    rw[R];exact this
   exact z.elim
  rename_i J;split at z
  ·rename_i c r;refine⟨_,_,z,.p _ _ (N 0 c rfl),?_⟩;have:=fA (w:=w) dr J b off (U 0) (by simpa using (m 0 c rfl).1);rw[R];exact this
  exact z.elim
 ·rename_i id off js;rw[js]at hx;split at z
  ·rename_i cs aA;obtain⟨hL,g,hg,R⟩:=hx.dt (by rw[aA];trivial);have W:=Y.hp id hL;rw[aA]at W;obtain⟨g',ty,c,I,h2,h3,h4⟩:=W;rw[hg]at I;injection I with I;injection I with I;injection I with I;subst I;have m:∀j u,c[j]?=some u->w.cell? ⟨g,j,none⟩=some u:=fun j u hu=>by rw[cell_of_row w g j c ty (0,0) h2];exact hu
   split at z
   ·rename_i J;split at z
    ·rename_i xs G o8;have G:=gi G;obtain⟨hl,BC⟩:=dz o8;have hlen:xs.length=ti.size:=by rw[<-hl];exact gA G
     have hU:∀(j:Nat) x,xs[j]?=some x->∃u,c[off+j]?=some u/\u.oneCell'=true/\ay S w x u:=by
      intro j x D;obtain⟨y,hy⟩:∃y,((cs.drop off).take ti.size)[j]?=some y:=⟨_,aM (by rw[hl];exact ah D)⟩;have Z:=gz hy;obtain⟨u,hu⟩:=fJ h3.symm (ah Z);obtain⟨O,h6⟩:=h4 _ _ _ Z hu;exact⟨u,hu,O,h6.qS (BC j y x hy D)⟩
     refine⟨_,_,z,.p _ _ (Ax xs (fun j=>(c[off+j]?).getD undef) fun j x D=>?_),?_⟩
     ·obtain⟨u,O,h6,h7⟩:=hU j x D;rw[O];exact⟨h6,h7⟩
     have:=hP (w:=w) dr J g off ((List.range xs.length).map (fun j=>(c[off+j]?).getD undef)) (by simpa using hlen) (fun j v D=>by
      have kX:j<xs.length:=by have:=ah D;simpa using this
      rw[ao,fG kX]at D;obtain⟨u,O,_⟩:=hU j _ (aM kX);simp[O]at D;rw[m _ _ O,D])
     rw[R];exact this
    exact z.elim
   rename_i J;split at z
   ·rename_i y r hy;have Z:=jz hy;obtain⟨u,hu⟩:=fJ h3.symm (ah Z);obtain⟨O,h6⟩:=h4 _ _ _ Z hu;refine⟨_,_,z,h6,?_⟩;have:=fA (w:=w) dr J g off u (m _ _ hu);rw[R];exact this
   exact z.elim
  ·rename_i cs aA;obtain⟨hL,g,hg,R⟩:=hx.dt (by rw[aA];trivial);have W:=Y.hp id hL;rw[aA]at W;obtain⟨b,QL,U,I,hb,m,N⟩:=ay.rG W;rw[hg]at I;injection I with I;injection I with I;injection I with I h2;subst I h2;split at z
   ·rename_i J;split at z
    ·rename_i G;have G:=gi G;have hlen:=gA G;refine⟨_,_,z,.p _ _ (Ax _ (fun j=>U (off+j)) fun j x D=>?_),?_⟩
     ·have KN:=gz D;exact⟨(m _ x KN).2,N _ x KN⟩
     have:=hP (w:=w) dr J g off ((List.range ((cs.drop off).take ti.size).length).map (fun j=>U (off+j))) (by simpa using hlen) (fun j v D=>by
      have kX:j<((cs.drop off).take ti.size).length:=by have:=ah D;simpa using this
      rw[ao,fG kX]at D;simp at D;have wR:off+j<cs.length:=by rw[hlen]at kX;omega
      have O:=(m _ _ (aM wR)).1;rw[cV]at O;rw[O,D])
     rw[R];exact this
    exact z.elim
   rename_i J;split at z
   ·rename_i y r hy;have Z:=jz hy;refine⟨_,_,z,.p _ _ (N _ _ Z),?_⟩;have:=fA (w:=w) dr J g off (U off) (by simpa using (m _ _ Z).1);rw[R];exact this
   exact z.elim
  exact z.elim
 ·rename_i id i off js;rw[js]at hx;split at z
  ·rename_i e es ai;obtain⟨hL,g,n,c,tj,hg,pf,R⟩:=hx.rI ai;have W:=Y.hp id hL;rw[ai]at W;have wK:an A.C.P w (ay S w) e es (.slice (some ⟨g,0,none⟩) n c):=by rw[<-hg];exact W
   have m:=wK.cell pf;obtain⟨r,hr,z⟩:=z;split at z
   ·rename_i J;split at z
    ·rename_i G;have G:=gi G;have hlen:=gA G;have hU:∀(j:Nat) x,((r.drop off).take ti.size)[j]?=some x->∃u,w.cell? ⟨g,i*tj.size+off+j,none⟩=some u/\u.oneCell'=true/\ay S w x u:=by
      intro j x D;obtain⟨u,I,h2,h3⟩:=m i r _ x hr (gz D);exact⟨u,by rw[gv];exact I,h2,h3⟩
     refine⟨_,_,z,.p _ _ (Ax _ (fun j=>(w.cell? ⟨g,i*tj.size+off+j,none⟩).getD undef) fun j x D=>?_),?_⟩
     ·obtain⟨u,O,h6,h7⟩:=hU j x D;rw[O];exact⟨h6,h7⟩
     have:=hP (w:=w) dr J g (i*tj.size+off) ((List.range ((r.drop off).take ti.size).length).map (fun j=>(w.cell? ⟨g,i*tj.size+off+j,none⟩).getD undef)) (by simpa using hlen) (fun j v D=>by
      have kX:j<((r.drop off).take ti.size).length:=by have:=ah D;simpa using this
      rw[ao,fG kX]at D;obtain⟨u,O,_⟩:=hU j _ (aM kX);simp[O]at D;rw[O,D])
     rw[R];exact this
    exact z.elim
   rename_i J;split at z
   ·rename_i y r' hy;have Z:=jz hy;obtain⟨u,I,h2,h3⟩:=m i r _ y hr Z;refine⟨_,_,z,.p _ _ h3,?_⟩;have:=fA (w:=w) dr J g (i*tj.size+off) u I;rw[R];exact this
   exact z.elim
  ·rename_i e es ai;obtain⟨hL,g,n,c,tj,hg,pf,R⟩:=hx.lZ ai;have W:=Y.hp id hL;rw[ai]at W;have wK:an A.C.P w (iY S w A.C.P L rho s.h) e es (.slice (some ⟨g,0,none⟩) n c):=by rw[<-hg];exact W.1
   have m:=wK.cell pf;obtain⟨r,hr,z⟩:=z;split at z
   ·exact z.elim
   rename_i J;split at z
   ·rename_i y r' hy;have Z:=jz hy;obtain⟨u,I,h2,h3⟩:=m i r _ _ hr Z;refine⟨_,_,z,h3,?_⟩;have:=fA (w:=w) dr J g (i*tj.size+off) u I;rw[R];exact this
   exact z.elim
  exact z.elim
 ·rename_i id js;rw[js]at hx;split at z
  ·rename_i c0 ty c m J;obtain⟨hL,R⟩:=hx.bu (by rw[m];trivial);have W:=Y.hp id hL;rw[m]at W;obtain⟨g,off,u,I,h2,h3,h4,O⟩:=W;refine⟨_,_,z,O,?_⟩;have:=fA (w:=w) dr J g off u (by rw[cell_of_row w g off _ ty (0,0) h3,fg,ae rfl,ae h2]);rw[R,I];exact this
  exact z.elim
 exact z.elim
theorem FT{o:Oper}(t:TypeId)(x:Operand)(z:o.op=.load t x):eD A o:=by
 intro V L S rho s a w K next Q hC u D G I _ m
 obtain⟨av,v,J,N,O⟩:=wQ t x z hC u (fun j R=>D j (by simp[z,Op.operands,R])) I;exact ar u G m J N (by simp only[execOp,z,aI,O,br,ct])
theorem jw.under{P:Program}{t:TypeId}(h:jw P t ti):match ti.ud with
  | .sc=>(∃d,P.underlying t=some d/\(match d with | .struct _ | .array _ _=>False | _=>True))/\(ti.eq=true->P.underlying t=some .bool)
  | .int k=>P.underlying t=some (.int k)
  | .st fs=>∃gs,P.underlying t=some (.struct gs)/\fs.length=gs.size/\(∀(i:Nat) f g,fs[i]?=some f->gs[i]?=some g->f.1=g.offset/\f.2.1≠0/\(∃m,P.info? g.type=some m/\m.size=f.2.1)/\
    (∃d,P.underlying g.type=some d/\f.2.2=(match d with | .struct _ | .array _ _=>true | _=>false)))
  | .sl e=>P.underlying t=some (.slice e)
  | .str=>P.underlying t=some .string
  | .mp k e=>P.underlying t=some (.map k e):=by
 obtain⟨_,_,_,_,_,_,_,_,_,h⟩:=h;exact h
theorem jw.info{P:Program}{t:TypeId}(h:jw P t ti):∃info z,P.info? t=some info/\info.size=ti.size/\info.bytes=ti.bytes/\info.zero=some z/\z.cells=ti.zero.toArray/\(∀v∈ti.zero,v.oneCell'=true):=by
 obtain⟨i,z,m,u,D,G,I,h6,J,h⟩:=h;exact⟨i,z,m,u,D,G,I,J⟩
theorem jw.Dk{P:Program}{t:TypeId}(h:jw P t ti):ti.zero.length=ti.size:=by
 obtain⟨i,z,h1,h2,h3,h4,h5,m,h7,h⟩:=h;exact m
theorem vd{o:Oper}(t:TypeId)(x:Operand)(f:Nat)(W:o.op=.fieldAddr t x f):eD A o:=by
 intro V L S rho s a w K next Q hC D hV hd u _ m
 simp only[aZ,W]at u;have I:=aH D x fun j J=>hV j (by simp[W,Op.operands,J]);split at u
 ·rename_i fs size bytes zero eq hT;have dr:=(hC.eL t _ hT).under;obtain⟨gs,mH,hl,hf⟩:=dr;split at u
  ·rename_i off sz ag Fu;obtain⟨g,hg⟩:=fJ hl (ah Fu);obtain⟨e1,e2,⟨i2,Kh,KO⟩,_⟩:=hf f _ g Fu hg;have z:∀b o',(Instr.fieldAt t (.pointer (some ⟨b,o',none⟩)) f).run A.C.P w=.ok (.pointer (some ⟨b,o'+off,none⟩)) w:=by
    intro b o';simp only at e1 e2 KO;simp[Instr.fieldAt,run_underlying mH,hg,Instr.sureAddr,fieldPlace,Go.sizeOf,typeInfo,Kh,KO,e2,gW,<-e1]
   split at u
   ·rename_i cs Y;rw[Y]at I;obtain⟨b,o',U,N,hb,O,Z⟩:=I.cb.rG;refine ar D hd m u (.p _ _ (.ip _ b (o'+off) (fun j=>U (off+j)) hb (fun j y J=>?_) fun j y J=>?_)) (by simp[execOp,W,N,z])
    ·rw[fh]at J;rw[gv];exact O _ y J
    rw[fh]at J;exact Z _ y J
   ·rename_i id o' Y;rw[Y]at I;split at u
    ·exact u.elim
    rename_i bO;have ht:(s.h id).there:=by
     cases hh:s.h id<;>first | trivial | exact absurd hh (by simpa using bO)
    obtain⟨hL,R,eY,N⟩:=I.dt ht;exact ar D hd m u (.bx _ _ _ fun _=>⟨hL,R,eY,rfl⟩) (by simp[execOp,W,N,z])
   ·rename_i id i o' Y;rw[Y]at I;split at u
    ·rename_i e es ai;obtain⟨hL,R,n,c,tj,eY,pf,N⟩:=I.rI ai;refine ar D hd m u (v:=.pointer (some ⟨R,i*tj.size+o'+off,none⟩)) (.rp _ _ _ _ fun e2 G=>?_) (by simp[execOp,W,N,z]);rw[ai]at G;injection G with G;subst G;exact⟨hL,R,n,c,tj,eY,pf,by rw[gv]⟩
    ·rename_i e es ai;obtain⟨hL,R,n,c,tj,eY,pf,N⟩:=I.lZ ai;refine ar D hd m u (v:=.pointer (some ⟨R,i*tj.size+o'+off,none⟩)) (.rp _ _ _ _ fun e2 G=>?_) (by simp[execOp,W,N,z]);rw[ai]at G;injection G with G;subst G;exact⟨hL,R,n,c,tj,eY,pf,by rw[gv]⟩
    exact u.elim
   exact u.elim
  exact u.elim
 exact u.elim
theorem Dl{o:Oper}(t:TypeId)(x:Operand)(f:Nat)(J:o.op=.field t x f):eD A o:=by
 intro V L S rho s a w K next Q hC D hV Y m _ z
 simp only[aZ,J]at m;have Z:=aH D x fun j hj=>hV j (by simp[J,Op.operands,hj]);split at m
 ·rename_i fs size bytes zero eq cs hT js;have dr:=(hC.eL t _ hT).under;obtain⟨gs,mH,hl,hf⟩:=dr;rw[js]at Z;obtain⟨vs,hv,yE,h1,hc⟩:=Z.cb.kW;split at m
  ·rename_i off sz ag Fu;obtain⟨g,O⟩:=fJ hl (ah Fu);obtain⟨R,e2,⟨i2,Kh,KO⟩,d,PE,U⟩:=hf f _ g Fu O;simp only at R e2 KO U;split at m
   ·split at m
    ·rename_i G;have G:=gi G;have hlen:=gA G;refine ar D Y z m (v:=.agg (vs.extract off (off+sz))) (.p _ _ (.ag _ _ (by simp;omega) (fun u I=>h1 u ?_) fun i c v PF N=>?_)) ?_
     ·simp at I;exact qH (nH I)
     ·have hi:=ah PF;rw[hlen]at hi;have Nx:vs[off+i]?=some v:=by
       rw[Array.getElem?_extract]at N;split at N
       ·exact N
       cases N
      exact hc _ c v (gz PF) Nx
     have W:(isAgg g.type).run A.C.P w=.ok true w:=by
      rw[Go.isAgg,aI,run_underlying PE];cases d<;>simp at U<;>rfl
     simp[execOp,J,hv,Instr.field,run_underlying mH,O,asAgg,part,W,Go.sizeOf,typeInfo,Kh,KO,<-R]
    exact m.elim
   split at m
   ·rename_i c r hy;have qb:=jz hy;obtain⟨u,I⟩:=fJ yE (ah qb);refine ar D Y z m (.p _ _ (hc _ _ _ qb I)) ?_;have W:(isAgg g.type).run A.C.P w=.ok false w:=by
     rw[Go.isAgg,aI,run_underlying PE];cases d<;>simp at U<;>rfl
    simp[execOp,J,hv,Instr.field,run_underlying mH,O,asAgg,part,W,<-R,I]
   exact m.elim
  exact m.elim
 exact m.elim
theorem i_{P:Program}{w:World}{t:TypeId}{ti:TypeInfo}(m:P.underlying t=some (.slice e))(u:P.info? e=some ti)(b off n c:Nat)(k:IntKind)(i:Int)(z:0<=i)(h1:i.toNat<n):
  (Instr.indexAt t (.slice (some ⟨b,off,none⟩) n c) (.int k i)).run P w=.ok (.pointer (some ⟨b,off+i.toNat*ti.size,none⟩)) w:=by
 have D:i<n:=by omega
 simp[Instr.indexAt,asIntOf,run_underlying m,z,D,Go.sizeOf,typeInfo,u,gW]
theorem aE.rJ{S:Nat->Prop}{w:World}{P:Program}{h:Nat->AB}{m u:Nat}{v:Value}(z:aE S w P L rho h (.vw id m u) v){es:List (List PV)}(D:h id=.row e es):
  L id/\∃n c a ti,rho id=.slice a n c/\P.info? e=some ti/\m<=u/\u<=n/\n<=c/\v=.slice (if c=m then a else a.map (·.add (m*ti.size))) (u-m) (c-m):=by
 cases z with
 | vw _ _ _ _ hv=>exact hv e (by rw[D];rfl)
theorem ve{o:Oper}(t:TypeId)(x ix:Operand)(aq:o.op=.indexAddr t x ix):eD A o:=by
 intro V L S rho s a w K next Q hC z hV hd m _ D
 simp only[aZ,aq]at m;have hx:=aH z x fun j U=>hV j (by simp[aq,Op.operands,U]);have hy:=aH z ix fun j U=>hV j (by simp[aq,Op.operands,U]);split at m
 ·rename_i e size bytes zero eq k i hT C2;have dr:=(hC.eL t _ hT).under;simp only at dr;rw[C2]at hy;replace hy:=hy.bc;split at m
  ·exact m.elim
  rename_i te nf;obtain⟨I,ze,hX,qT,_⟩:=(hC.eL e te nf).info;have PG:∀(es:List (List PV)),ay S w (.sl es) (a.eval x)->(∃r,(0<=i/\es[i.toNat]?=some r)/\match o7 r.length te.size with | true=>K (.p (.ip r)) [] none | false=>False)->o.wp A.C.P a w next Q:=by
   intro es hrep m;obtain⟨r,⟨h0,hr⟩,m⟩:=m;split at m
   ·rename_i hlen;have hlen:=dC hlen;obtain⟨ad,c,W,hle,bO⟩:=hrep.j5;obtain⟨b,off,k',rfl,hb,hk,hcell⟩:=bO (by intro e;rw[e]at hr;simp at hr);have mF:k'=te.size:=by rw[<-hk r (aj hr),hlen]
    have hU:∀(j:Nat) y,r[j]?=some y->∃u,w.cell? ⟨b,off+i.toNat*te.size+j,none⟩=some u/\u.oneCell'=true/\ay S w y u:=by
     intro j y U;have:=hcell _ _ j y hr U;rw[mF]at this;exact this
    refine ar z hd D m (.p _ _ (.ip _ b (off+i.toNat*te.size) (fun j=>(w.cell? ⟨b,off+i.toNat*te.size+j,none⟩).getD undef) hb (fun j y U=>?_) fun j y U=>?_)) ?_
    ·obtain⟨u,h1,h2,Y⟩:=hU j y U;simp[h1,h2]
    ·obtain⟨u,h1,h2,Y⟩:=hU j y U;simp only[h1];exact Y
    have:=i_ (w:=w) dr hX b off es.length c k i h0 (ah hr);simp only[execOp,aq,W,hy,aI,this,br,ct,qT]
   exact m.elim
  split at m
  ·rename_i es wJ;rw[wJ]at hx;exact PG es hx.cb m
  ·rename_i id wJ;rw[wJ]at hx;split at m
   ·rename_i e' es ai;split at m
    ·rename_i J;have J:=dC J;subst J;obtain⟨R,W⟩:=hx.bu (by rw[ai];trivial);have N:=z.hp id R;rw[ai]at N;have wK:an A.C.P w (ay S w) e' es (rho id):=N;obtain⟨⟨h0,dv⟩,m⟩:=m;obtain⟨i',xs,h1,h2,Y,h4,h5,h6⟩:=wK;rcases Y.2 with⟨_,hn⟩ | ⟨g,Z,cur,hg,_,_,hle,_⟩
     ·omega
     refine ar z hd D m (v:=.pointer (some ⟨g,i.toNat*I.size,none⟩)) (.rp _ _ _ _ fun e2 G=>?_) ?_
     ·rw[ai]at G;injection G with G;subst G;exact⟨R,g,_,_,I,hg,hX,by rw[jS]⟩
     have:=i_ (w:=w) dr hX g 0 es.length Z k i h0 dv;rw[hg]at W;rw[cV]at this;simp only[execOp,aq,W,hy,aI,this,br,ct]
    exact m.elim
   ·rename_i e' es ai;split at m
    ·rename_i J;have J:=dC J;subst J;obtain⟨R,W⟩:=hx.bu (by rw[ai];trivial);have N:=z.hp id R;rw[ai]at N;have wK:an A.C.P w (iY S w A.C.P L rho s.h) e' es (rho id):=N.1;obtain⟨⟨h0,dv⟩,m⟩:=m;obtain⟨i',xs,h1,h2,Y,h4,h5,h6⟩:=wK;rcases Y.2 with⟨_,hn⟩ | ⟨g,Z,cur,hg,_,_,hle,_⟩
     ·omega
     refine ar z hd D m (v:=.pointer (some ⟨g,i.toNat*I.size,none⟩)) (.rp _ _ _ _ fun e2 G=>?_) ?_
     ·rw[ai]at G;injection G with G;subst G;exact⟨R,g,_,_,I,hg,hX,by rw[jS]⟩
     have:=i_ (w:=w) dr hX g 0 es.length Z k i h0 dv;rw[hg]at W;rw[cV]at this;simp only[execOp,aq,W,hy,aI,this,br,ct]
    exact m.elim
   ·rename_i es BD;obtain⟨R,W⟩:=hx.bu (by rw[BD];trivial);have N:=z.hp id R;rw[BD]at N;exact PG es (by rw[W];exact N) m
   exact m.elim
  ·rename_i id lo hi wJ;rw[wJ]at hx;split at m
   ·rename_i e' es ai;split at m
    ·rename_i J;have J:=dC J;subst J;obtain⟨R,n,cp,ad,Ny,eZ,mI,QM,QN,Ki,O⟩:=hx.rJ ai;rw[hX]at mI;injection mI with mI;subst mI;have N:=z.hp id R;rw[ai]at N;have wK:an A.C.P w (ay S w) e' es (rho id):=N;obtain⟨⟨h0,dv⟩,m⟩:=m;obtain⟨i',xs,h1,h2,Y,h4,h5,h6⟩:=wK;rw[eZ]at Y;rcases Y.2 with⟨h7,_⟩ | ⟨g,Z,cur,hg,_,_,hle,_⟩
     ·injection h7 with _ h8 h9;omega
     injection hg with g1 g2 g3;subst g1 g2 g3;refine ar z hd D m (v:=.pointer (some ⟨g,lo*I.size+i.toNat*I.size,none⟩)) (.rp _ _ _ _ fun e2 G=>?_) ?_
     ·rw[ai]at G;injection G with G;subst G;exact⟨R,g,_,_,I,eZ,hX,by rw[jS,jT]⟩
     have:=i_ (w:=w) dr hX g (lo*I.size) (hi-lo) (cp-lo) k i h0 dv;rw[af (by omega)]at O;have he:(if lo*I.size=0 then (⟨g,0,none⟩:Addr) else ⟨g,lo*I.size,none⟩)=⟨g,lo*I.size,none⟩:=by split<;>simp_all
     simp only[eM,Addr.add,cV,he]at O;simp only[execOp,aq,O,hy,aI,this,br,ct]
    exact m.elim
   exact m.elim
  exact m.elim
 exact m.elim
theorem Dm{o:Oper}(t:TypeId)(x I:Operand)(D:o.op=.index t x I):eD A o:=by
 intro V L S rho s a w K next Q hC m J U z _ u
 simp only[aZ,D]at z;have N:=aH m x fun j G=>J j (by simp[D,Op.operands,G]);have O:=aH m I fun j G=>J j (by simp[D,Op.operands,G]);split at z
 ·rename_i size bytes zero eq st k i W hs Y;have R:=(hC.eL t _ W).under;simp only at R;rw[Y]at O;rw[hs]at N;obtain⟨b,⟨Z,hb⟩,z⟩:=z;refine ar m U u z (.p _ _ (.im _)) ?_;simp[execOp,D,N.bc,O.bc,Instr.index,asIntOf,run_underlying R,Z,hb]
 exact z.elim
theorem yF{o:Oper}(src dst:TypeId)(x:Operand)(J:o.op=.convert src dst x):eD A o:=by
 intro V L S rho s a w K next Q hC u W U G _ m
 simp only[aZ,J]at G;have I:=aH u x fun j Y=>W j (by simp[J,Op.operands,Y]);split at G
 ·rename_i Z n QO k size bytes zero eq N O R;have D:=(hC.eL dst _ R).under;simp only at D;rw[N]at I;have z:∃d,A.C.P.underlying src=some d:=by
   have:=(hC.eL src _ O).under;cases hu:QO.ud<;>rw[hu]at this
   ·exact⟨_,this.1.choose_spec.1⟩
   ·exact⟨_,this⟩
   ·exact⟨_,this.choose_spec.1⟩
   ·exact⟨_,this⟩
   ·exact⟨_,this⟩
   exact⟨_,this⟩
  obtain⟨d1,z⟩:=z;exact ar u U m (jy G) (.p _ _ (.im _)) (by simp[execOp,J,I.bc,convert,run_underlying z,run_underlying D,Conv.intToInt])
 ·rename_i str KR Iv KS QP KT Iw KU QQ N O R;have D:=(hC.eL dst _ R).under;have z:=(hC.eL src _ O).under;simp only at z D;rw[N]at I;exact ar u U m G (.p _ _ (.im _)) (by simp[execOp,J,I.bc,convert,run_underlying z,run_underlying D])
 ·rename_i Z n Sn KR Iv KS QP KT Iw KU QQ N O R;have D:=(hC.eL dst _ R).under;have z:=(hC.eL src _ O).under;simp only at z D;rw[N]at I;exact ar u U m G (.p _ _ (.im _)) (by simp[execOp,J,I.bc,convert,run_underlying z,run_underlying D,Conv.intToString])
 exact G.elim
theorem wS{o:Oper}(x:Operand)(N:o.op=.nilCheck x):eD A o:=by
 intro V L S rho s a w K next Q hC G W Y m _ I
 simp only[aZ,N]at m;have z:=aH G x fun j Z=>W j (by simp[N,Op.operands,Z]);have fin:∀av O,K av [] none->aE S w A.C.P L rho s.h av (a.eval x)->a.eval x=.pointer (some O)->o.wp A.C.P a w next Q:=by
  intro av O m hl he;exact ar G Y I m hl (by simp[execOp,N,he])
 split at m
 ·rename_i cs J;rw[J]at z;obtain⟨b,off,U,D,_⟩:=z.cb.rG;exact fin _ _ m z D
 ·rename_i id off J;rw[J]at z;split at m
  ·rename_i hb;obtain⟨_,g,_,D⟩:=z.dt (by rw[hb];trivial);exact fin _ _ m z D
  ·rename_i hb;obtain⟨_,g,_,D⟩:=z.dt (by rw[hb];trivial);exact fin _ _ m z D
  exact m.elim
 ·rename_i id i off J;rw[J]at z;split at m
  ·rename_i hb;obtain⟨_,g,n,c,tj,_,_,D⟩:=z.rI hb;exact fin _ _ m z D
  ·rename_i hb;obtain⟨_,g,n,c,tj,_,_,D⟩:=z.lZ hb;exact fin _ _ m z D
  exact m.elim
 ·rename_i id J;rw[J]at z;split at m
  ·rename_i c0 ty c hb;obtain⟨hL,D⟩:=z.bu (by rw[hb];trivial);have R:=G.hp id hL;rw[hb]at R;obtain⟨g,off,u,h1,_⟩:=R;exact fin _ _ m z (D.trans h1)
  exact m.elim
 exact m.elim
theorem pg{o:Oper}(t:TypeId)(x:Operand)(D:o.op=.makeInterface t x):eD A o:=by
 intro V L S rho s a w K next Q hC z N J u _ m
 simp only[aZ,D]at u;have G:=aH z x fun j O=>N j (by simp[D,Op.operands,O]);split at u
 ·rename_i y R;rw[R]at G;split at u
  ·rename_i fs size bytes zero eq U;obtain⟨gs,I,_⟩:=(hC.eL t _ U).under;exact ar z J m u (.p _ _ (.ifc t _ _ G.cb)) (by simp[execOp,D,Instr.makeInterface,run_underlying I])
  exact u.elim
 split at u
 ·rename_i hp;obtain⟨e,I⟩:=hC.pts t hp;exact ar z J m u (.ifp t _ _ G) (by simp[execOp,D,Instr.makeInterface,run_underlying I])
 exact u.elim
theorem tf{o:Oper}(x:Operand)(N t:TypeId)(G:o.op=.typeAssert x N t false):eD A o:=by
 intro V L S rho s a w K next Q hC D O R z _ m
 simp only[aZ,G]at z;have J:=aH D x fun j U=>O j (by simp[G,Op.operands,U]);split at z
 ·rename_i t' y W;rw[W]at J;split at z
  ·rename_i fs size bytes zero eq I Y;obtain⟨gs,Z,_⟩:=(hC.eL t _ Y).under;obtain⟨u,hv,hr⟩:=J.cb.FJ;have I:=bq I;exact ar D R m z (.p _ _ hr) (by simp[execOp,G,Instr.typeAssert,run_underlying Z,hv,I])
  exact z.elim
 exact z.elim
theorem wT{o:Oper}(f:FuncId)(first m:Array Operand)(G:o.op=.makeFunc (.func f) first m):eD A o:=by
 intro V L S rho s a w K next Q hC z O R D _ u
 simp only[aZ,G]at D;split at D
 ·rename_i U;have W:first=#[]:=by
   obtain⟨l⟩:=first
   cases l with
   | nil=>rfl
   | cons y l=>simp[isNil]at U
  subst W;refine ar z R u D (.fn f _ (m.map a.eval) (by simp) fun i c v J I=>?_) (by simp[execOp,G,Instr.makeFunc]);rw[ao]at J;obtain⟨y,Y,rfl⟩:=az.1 J;have N:m[i]?=some y:=by simpa using Y
  rw[uT,N]at I;simp at I;rw[<-I];exact aH z y fun j Z=>O j (by simp[G,Op.operands];rw[<-Z];exact qI N)
 exact D.elim
end Go.AM
namespace Go.AM
open Go.RowKit
theorem bJ(h:Nat->AB)(a b:List (Nat×AB)):app h (a++b)=app (app h a) b:=by
 induction a generalizing h with
 | nil=>rfl
 | cons x a ih=>exact ih _
theorem aD{α:Type}(f:Nat->α)(i:Nat)(x:α)(j:Nat):(j=i/\ax f i x j=x)\/(j≠i/\ax f i x j=f j):=by
 by_cases e:j=i
 ·subst e;exact .inl ⟨rfl,ak _ _ _⟩
 exact .inr ⟨e,au _ _ e⟩
variable {e:TypeId}
theorem an.yG{P:Program}{S S':Nat->Prop}{w:World}{es:List (List PV)}{v:Value}(h:an P w (ay S w) e es v)(hS:∀b,S b->S' b)(hb:∀g,bH v=some g->S' g):ay S' w (.sl es) v:=by
 obtain⟨i,xs,h1,h2,J,R,U,N⟩:=h;rcases J.2 with⟨rfl,W⟩ | ⟨g,z,cur,rfl,_,_,D,_⟩
 ·have:es=[]:=cW W;subst this;exact .nil _ _
 refine .sl es i.size g 0 z (fun a j=>(xs[a*i.size+j]?).getD undef) D (hb g rfl) R (fun a r j x G I=>?_) fun a r j x G I=>?_
 ·obtain⟨u,m,O⟩:=N a r j x G I;have:=J.cells (g:=g) rfl _ u m;rw[gW]at this;rw[m,gv];exact⟨this,U u (aj m)⟩
 obtain⟨u,m,O⟩:=N a r j x G I;rw[m];exact O.mono hS (fun _ _=>rfl)
variable {id:Nat}
theorem cx{w:World}{h:Nat->AB}{b:AB}{i:Nat}{v:Value}{g:Nat}(u:i≠id)(m:hasB w (ax h id b i) v g):hasB w (h i) v g:=by rw[au _ _ u]at m;exact m
variable {A:jR} {V L:Nat->Prop} {rho:Nat->Value} {s:AS}
theorem aU.tJ{S:Nat->Prop}{a:Act}{w:World}(m:aU A V L S rho s a w)(hC:aL A.C)(id:Nat)(N:L id){es:List (List PV)}(ai:s.h id=.row e es):
  aU A V L (fun b=>S b\/bH (rho id)=some b) rho ⟨s.t,ax s.h id (.f_ es)⟩ a w:=by
 have T:fu S (fun b=>S b\/bH (rho id)=some b) w w L L rho rho s.h (ax s.h id (.f_ es)):=by
  refine⟨fun b h=>.inl h,fun _ _=>rfl,fun j u=>⟨?_,fun hl=>⟨hl,rfl⟩⟩,fun j e' u=>?_⟩
  ·rcases aD s.h id (.f_ es) j with⟨rfl,h⟩ | ⟨_,h⟩
   ·rw[ai];trivial
   rw[h]at u;exact u
  rcases aD s.h id (.f_ es) j with⟨rfl,h⟩ | ⟨_,h⟩
  ·rw[h]at u;cases u
  rw[h]at u;exact u
 have z:∀j,((ax s.h id (.f_ es)) j).live->j≠id/\(s.h j).live:=by
  intro j u;rcases aD s.h id (.f_ es) j with⟨rfl,h⟩ | ⟨D,h⟩
  ·rw[h]at u;exact u.elim
  rw[h]at u;exact⟨D,u⟩
 have O:(s.h id).live:=by rw[ai];trivial
 exact
 {tm:=fun j u=>(m.tm j u).bA T
  sz:=m.sz,df:=m.df,nb:=m.nb,pn:=m.pn
  ev:=hC.env _ _ _ _ m.ev (fun b h=>.inl h) (fun _ _=>rfl) (aC _)
  s0:=fun b h=>.inl (m.s0 b h)
  st:=fun b h=>h.elim (m.st b) fun h=>(m.mO id b N O h).1
  sb:=fun b h=>h.elim (m.sb b) fun h=>.inr (m.mO id b N O h).2.2
  hp:=fun j u=>by
   have R:=m.hp j u;rcases aD s.h id (.f_ es) j with⟨rfl,h⟩ | ⟨D,h⟩
   ·show cd _ _ _ _ _ _ _ (ax s.h j (.f_ es) j);rw[h];rw[ai]at R;exact an.yG R (fun b h=>.inl h) (fun g h=>.inr h)
   show cd _ _ _ _ _ _ _ (ax s.h id (.f_ es) j);rw[h];exact R.bA T (fun _ _ _=>rfl) (fun _=>rfl)
  dj:=fun i j g G u I U Y Z=>m.dj i j g G u (z i I).2 (z j U).2 (cx (z i I).1 Y) (cx (z j U).1 Z)
  lv:=fun i g G I J=>by
   obtain⟨D,W⟩:=z i I;have J:=cx D J;obtain⟨h3,h4,h5⟩:=m.lv i g G W J;refine⟨h3,fun h=>h.elim h4 fun h=>D (m.dj i id g G N W O J (.inl h)),h5⟩
  fr:=m.fr }
theorem aU.BE{S:Nat->Prop}{a:Act}{w:World}(m:aU A V L S rho s a w)(hC:aL A.C)(id:Nat)(N:L id){mk:MK}{es:List (Value×PV)}(ai:s.h id=.map mk es):
  aU A V L (fun b=>S b\/bH (rho id)=some b) rho ⟨s.t,ax s.h id .none⟩ a w:=by
 have T:fu S (fun b=>S b\/bH (rho id)=some b) w w L L rho rho s.h (ax s.h id .none):=by
  refine⟨fun b h=>.inl h,fun _ _=>rfl,fun j u=>⟨?_,fun hl=>⟨hl,rfl⟩⟩,fun j e' u=>?_⟩
  ·rcases aD s.h id .none j with⟨rfl,h⟩ | ⟨_,h⟩
   ·rw[ai];trivial
   rw[h]at u;exact u
  rcases aD s.h id .none j with⟨rfl,h⟩ | ⟨_,h⟩
  ·rw[h]at u;cases u
  rw[h]at u;exact u
 have z:∀j,((ax s.h id .none) j).live->j≠id/\(s.h j).live:=by
  intro j u;rcases aD s.h id .none j with⟨rfl,h⟩ | ⟨D,h⟩
  ·rw[h]at u;exact u.elim
  rw[h]at u;exact⟨D,u⟩
 have O:(s.h id).live:=by rw[ai];trivial
 exact
 {tm:=fun j u=>(m.tm j u).bA T
  sz:=m.sz,df:=m.df,nb:=m.nb,pn:=m.pn
  ev:=hC.env _ _ _ _ m.ev (fun b h=>.inl h) (fun _ _=>rfl) (aC _)
  s0:=fun b h=>.inl (m.s0 b h)
  st:=fun b h=>h.elim (m.st b) fun h=>(m.mO id b N O h).1
  sb:=fun b h=>h.elim (m.sb b) fun h=>.inr (m.mO id b N O h).2.2
  hp:=fun j u=>by
   have W:=m.hp j u;rcases aD s.h id .none j with⟨rfl,h⟩ | ⟨D,h⟩
   ·show cd _ _ _ _ _ _ _ (ax s.h j .none j);rw[h];trivial
   show cd _ _ _ _ _ _ _ (ax s.h id .none j);rw[h];exact W.bA T (fun _ _ _=>rfl) (fun _=>rfl)
  dj:=fun i j g G u I R Y Z=>m.dj i j g G u (z i I).2 (z j R).2 (cx (z i I).1 Y) (cx (z j R).1 Z)
  lv:=fun i g G I J=>by
   obtain⟨D,U⟩:=z i I;have J:=cx D J;obtain⟨h3,h4,h5⟩:=m.lv i g G U J;refine⟨h3,fun h=>h.elim h4 fun h=>D (m.dj i id g G N U O J (.inl h)),h5⟩
  fr:=m.fr }
variable {xs:List PV}
theorem aU.BF{S:Nat->Prop}{a:Act}{w:World}(m:aU A V L S rho s a w)(hC:aL A.C)(id:Nat)(U:L id){cs:List AV}(ai:s.h id=.box cs)(o8:cE cs=some xs):
  aU A V L (fun b=>S b\/bH (rho id)=some b) rho ⟨s.t,ax s.h id (.jt xs)⟩ a w:=by
 have T:fu S (fun b=>S b\/bH (rho id)=some b) w w L L rho rho s.h (ax s.h id (.jt xs)):=by
  refine⟨fun b h=>.inl h,fun _ _=>rfl,fun j z=>⟨?_,fun hl=>⟨hl,rfl⟩⟩,fun j e' z=>?_⟩
  ·rcases aD s.h id (.jt xs) j with⟨rfl,h⟩ | ⟨_,h⟩
   ·rw[ai];trivial
   rw[h]at z;exact z
  rcases aD s.h id (.jt xs) j with⟨rfl,h⟩ | ⟨_,h⟩
  ·rw[h]at z;cases z
  rw[h]at z;exact z
 have I:∀j,((ax s.h id (.jt xs)) j).live->j≠id/\(s.h j).live:=by
  intro j z;rcases aD s.h id (.jt xs) j with⟨rfl,h⟩ | ⟨J,h⟩
  ·rw[h]at z;exact z.elim
  rw[h]at z;exact⟨J,z⟩
 have W:(s.h id).live:=by rw[ai];trivial
 exact
 {tm:=fun j z=>(m.tm j z).bA T
  sz:=m.sz,df:=m.df,nb:=m.nb,pn:=m.pn
  ev:=hC.env _ _ _ _ m.ev (fun b h=>.inl h) (fun _ _=>rfl) (aC _)
  s0:=fun b h=>.inl (m.s0 b h)
  st:=fun b h=>h.elim (m.st b) fun h=>(m.mO id b U W h).1
  sb:=fun b h=>h.elim (m.sb b) fun h=>.inr (m.mO id b U W h).2.2
  hp:=fun j z=>by
   have Y:=m.hp j z;rcases aD s.h id (.jt xs) j with⟨rfl,h⟩ | ⟨J,h⟩
   ·show cd _ _ _ _ _ _ _ (ax s.h j (.jt xs) j);rw[h];rw[ai]at Y;obtain⟨g,ty,c,k1,k2,k3,k4⟩:=Y;show ay _ w (.ip xs) (rho j);rw[k1];obtain⟨hl,BC⟩:=dz o8;have hU:∀(i:Nat) x,xs[i]?=some x->∃u,c[i]?=some u/\u.oneCell'=true/\ay S w x u:=by
     intro i x D;obtain⟨y,Z⟩:∃y,cs[i]?=some y:=⟨_,aM (by rw[hl];exact ah D)⟩;obtain⟨u,hu⟩:=fJ k3.symm (ah Z);obtain⟨G,N⟩:=k4 _ _ _ Z hu;exact⟨u,hu,G,N.qS (BC i y x Z D)⟩
    refine .ip xs g 0 (fun i=>(c[i]?).getD undef) (.inr rfl) (fun i x D=>?_) fun i x D=>?_
    ·obtain⟨u,G,N,h7⟩:=hU i x D;rw[cV,cell_of_row w g i c ty (0,0) k2,G];exact⟨rfl,N⟩
    obtain⟨u,G,N,h7⟩:=hU i x D;rw[G];exact h7.mono (fun b h=>.inl h) (fun _ _=>rfl)
   show cd _ _ _ _ _ _ _ (ax s.h id (.jt xs) j);rw[h];exact Y.bA T (fun _ _ _=>rfl) (fun _=>rfl)
  dj:=fun i j g D z O lj cK dW=>m.dj i j g D z (I i O).2 (I j lj).2 (cx (I i O).1 cK) (cx (I j lj).1 dW)
  lv:=fun i g D O R=>by
   obtain⟨J,h2⟩:=I i O;have R:=cx J R;obtain⟨h3,h4,G⟩:=m.lv i g D h2 R;refine⟨h3,fun h=>h.elim h4 fun h=>J (m.dj i id g D U h2 W R (.inl h)),G⟩
  fr:=m.fr }
def kM(h h':Nat->AB):Prop:=∀id,h' id=h id\/(∃e es,h id=.row e es/\h' id=.f_ es)\/(∃cs xs,h id=.box cs/\cE cs=some xs/\h' id=.jt xs)
theorem kM.refl(h:Nat->AB):kM h h:=fun _=>.inl rfl
variable {h':Nat->AB}
theorem kM.Dn{h:Nat->AB}(H:kM h h'){es:List (List PV)}(u:h id=.row e es):kM h (ax h' id (.f_ es)):=by
 intro j;rcases aD h' id (.f_ es) j with⟨rfl,m⟩ | ⟨_,m⟩
 ·exact .inr (.inl ⟨e,es,u,m⟩)
 rw[m];exact H j
theorem kM.Dp{h:Nat->AB}(H:kM h h'){cs:List AV}(u:h id=.box cs)(z:cE cs=some xs):kM h (ax h' id (.jt xs)):=by
 intro j;rcases aD h' id (.jt xs) j with⟨rfl,m⟩ | ⟨_,m⟩
 ·exact .inr (.inr ⟨cs,xs,u,z,m⟩)
 rw[m];exact H j
theorem ay.nV{S:Nat->Prop}{w:World}{g off:Nat}{v:Value}(h:ay S w (.ip xs) v)(m:v=.pointer (some ⟨g,0,none⟩)):ay S w (.ip (xs.drop off)) (.pointer (some ⟨g,off,none⟩)):=by
 subst m;obtain⟨b,o,U,m,hb,u,z⟩:=h.rG;injection m with m;injection m with m;injection m with h1 h2;subst h1 h2;refine .ip _ g off (fun j=>U (off+j)) hb (fun j x D=>?_) fun j x D=>?_
 ·rw[fh]at D;have:=u _ x D
  rwa [cV]at this
 rw[fh]at D;exact z _ x D
theorem tK{S:Nat->Prop}{a:Act}{w:World}(hC:aL A.C){h:Nat->AB}(u:aU A V L S rho s a w)(I:kM h s.h){x:AV}{v:Value}(O:aE S w A.C.P L rho s.h x v){K:PV->List (Nat×AB)->Prop}(z:iC h x K):
  ∃y fz S',K y fz/\aU A V L S' rho ⟨s.t,app s.h fz⟩ a w/\ay S' w y v/\(∀b,S b->S' b)/\kM h (app s.h fz)/\(∀p∈fz,L p.1)/\(∀p∈fz,¬p.2.live):=by
 unfold iC at z;split at z
 ·exact⟨_,[],S,z,u,O.cb,fun _ h=>h,I,by simp,by simp⟩
 ·cases O;exact⟨_,[],S,z,u,.nil _ _,fun _ h=>h,I,by simp,by simp⟩
 ·rename_i id;split at z
  ·rename_i e es ai;rcases I id with m | ⟨e',Y,m,N⟩ | ⟨cs,xs,m,_,_⟩
   ·rw[ai]at m;obtain⟨D,J⟩:=O.bu (by rw[m];trivial);refine⟨_,_,_,z,u.tJ hC id D m,?_,fun b h=>.inl h,I.Dn ai,by simpa using D,by simp[AB.live]⟩;have G:=u.hp id D;rw[m]at G;rw[J];exact an.yG G (fun b h=>.inl h) (fun g h=>.inr h)
   ·rw[ai]at m;injection m with e1 e2;subst e1 e2;obtain⟨D,J⟩:=O.bu (by rw[N];trivial);have G:=u.hp id D;rw[N]at G;refine⟨_,_,S,z,?_,by rw[J];exact G,fun _ h=>h,I.Dn ai,by simpa using D,by simp[AB.live]⟩;show aU A V L S rho ⟨s.t,ax s.h id (.f_ es)⟩ a w;rw[eX _ _ _ N];exact u
   rw[ai]at m;cases m
  ·rename_i es Z;rcases I id with m | ⟨e',Y,m,N⟩ | ⟨cs,xs,m,_,_⟩
   ·rw[Z]at m;obtain⟨D,J⟩:=O.bu (by rw[m];trivial);have G:=u.hp id D;rw[m]at G;exact⟨_,[],S,z,u,by rw[J];exact G,fun _ h=>h,I,by simp,by simp⟩
   ·rw[Z]at m;cases m
   rw[Z]at m;cases m
  exact z.elim
 ·rename_i id off;split at z
  ·rename_i cs aA;split at z
   ·rename_i xs o8;rcases I id with m | ⟨e',Y,m,N⟩ | ⟨dB,kS,m,W,N⟩
    ·rw[aA]at m;obtain⟨D,g,R,J⟩:=O.dt (by rw[m];trivial);have aQ:=u.BF hC id D m o8;refine⟨_,_,_,z,aQ,?_,fun b h=>.inl h,I.Dp aA o8,by simpa using D,by simp[AB.live]⟩;have G:=aQ.hp id D;have wK:cd _ w A.C.P L rho _ id (ax s.h id (.jt xs) id):=G;rw[ak]at wK;have U:ay _ w (.ip xs) (rho id):=wK;rw[J];exact U.nV R
    ·rw[aA]at m;cases m
    rw[aA]at m;injection m with m;subst m;rw[o8]at W;injection W with W;subst W;obtain⟨D,g,R,J⟩:=O.dt (by rw[N];trivial);have G:=u.hp id D;rw[N]at G;have U:ay _ w (.ip xs) (rho id):=G;refine⟨_,_,S,z,?_,by rw[J];exact U.nV R,fun _ h=>h,I.Dp aA o8,by simpa using D,by simp[AB.live]⟩;show aU A V L S rho ⟨s.t,ax s.h id (.jt xs)⟩ a w;rw[eX _ _ _ N];exact u
   exact z.elim
  ·rename_i xs Ix;rcases I id with m | ⟨e',Y,m,N⟩ | ⟨cs,kS,m,_,_⟩
   ·rw[Ix]at m;obtain⟨D,g,R,J⟩:=O.dt (by rw[m];trivial);have G:=u.hp id D;rw[m]at G;have U:ay _ w (.ip xs) (rho id):=G;exact⟨_,[],S,z,u,by rw[J];exact U.nV R,fun _ h=>h,I,by simp,by simp⟩
   ·rw[Ix]at m;cases m
   rw[Ix]at m;cases m
  exact z.elim
 exact z.elim
theorem BG{b:AB}(h:b.fD=some e):b.live:=by cases b<;>first | trivial | cases h
theorem BH{fz:List (Nat×AB)}(m:∀p∈fz,¬p.2.live):∀{h:Nat->AB} {id:Nat},(app h fz id).live->app h fz id=h id:=by
 induction fz with
 | nil=>intro h id _;rfl
 | cons p fz ih=>
  intro h id hl;obtain⟨i,b⟩:=p;have e:=ih (fun p hp=>m p (by simp[hp])) (h:=ax h i b) (id:=id) hl;have u:app h ((i,b)::fz) id=ax h i b id:=e;by_cases z:id=i
  ·subst z;rw[u,ak]at hl;exact absurd hl (m (id,b) (by simp))
  rw[u,au _ _ z]
theorem kM.there{h:Nat->AB}(H:kM h h')(id:Nat):(h' id).there↔(h id).there:=by
 rcases H id with m | ⟨e,es,m,u⟩ | ⟨cs,xs,m,_,u⟩
 ·rw[m]
 ·rw[m,u];exact dU
 rw[m,u];exact dU
theorem aE.KV{S S':Nat->Prop}{w:World}{P:Program}{h h':Nat->AB}{fz:List (Nat×AB)}(hS:∀b,S b->S' b)(H:kM h h')(u:kM h (app h' fz))(z:∀p∈fz,¬p.2.live){x:AV}{v:Value}(D:aE S w P L rho h' x v):aE S' w P L rho (app h' fz) x v:=
 D.bA ⟨hS,fun _ _=>rfl,fun id G=>⟨(H.there id).2 ((u.there id).1 G),fun hl=>⟨hl,rfl⟩⟩,fun id e m=>by rw[<-BH (h:=h') (id:=id) z (BG m)];exact m⟩
theorem tL{t:Nat->AV}{a:Act}{w:World}(hC:aL A.C){h:Nat->AB}:∀(m:List AV) (z:List Value) (S:Nat->Prop) (h':Nat->AB) {K:List PV->List (Nat×AB)->Prop},m.length=z.length->aU A V L S rho ⟨t,h'⟩ a w->kM h h' ->
  (∀(i:Nat) c v,m[i]?=some c->z[i]?=some v->aE S w A.C.P L rho h' c v)->pZ h m K ->
  ∃xs fz S',K xs fz/\aU A V L S' rho ⟨t,app h' fz⟩ a w/\(∀(i:Nat) x v,xs[i]?=some x->z[i]?=some v->ay S' w x v)/\(∀b,S b->S' b)/\kM h (app h' fz)/\(∀p∈fz,L p.1)/\xs.length=z.length:=by
 intro m
 induction m with
 | nil=>
  intro z S h' K hl G O _ I;have:z=[]:=cW hl.symm;subst this;exact⟨[],[],S,I,G,by simp,fun _ h=>h,O,by simp,rfl⟩
 | cons c m ih=>
  intro z S h' K hl G O D I;cases z with
  | nil=>simp at hl
  | cons v z=>
   obtain⟨y,fz,Y,I,Z,hp,R,U,wU,QR⟩:=tK (s:=⟨t,h'⟩) hC G O (D 0 c v rfl rfl) I;obtain⟨xs,jr,S',k1,k2,k3,W,k5,k6,k7⟩:=ih z Y (app h' fz) (by simpa using hl) Z U (fun i x u J N=>(D (i+1) x u (by simpa using J) (by simpa using N)).KV R O U QR) I;refine⟨y::xs,fz++jr,S',k1,by rw[bJ];exact k2,fun i x u J N=>?_,fun b hb=>W b (R b hb),by rw[bJ];exact k5,fun p hp=>(cX.1 hp).elim (wU p) (k6 p),by simp[k7]⟩;cases i with
   | zero=>simp at J N;subst J N;exact hp.mono W (fun _ _=>rfl)
   | succ i=>exact k3 i x u (by simpa using J) (by simpa using N)
theorem e8{S:Nat->Prop}{a:Act}{w:World}(hC:aL A.C){h:Nat->AB}(m:aU A V L S rho s a w)(I:kM h s.h){x:AV}{v:Value}(J:aE S w A.C.P L rho s.h x v){K:PV->List (Nat×AB)->Prop}(D:g_ h x K):
  ∃y fz S',K y fz/\aU A V L S' rho ⟨s.t,app s.h fz⟩ a w/\ay S' w y v/\(∀b,S b->S' b)/\kM h (app s.h fz)/\(∀p∈fz,L p.1):=by
 unfold g_ at D;split at D
 ·rename_i f G;cases J with
  | fn _ _ N hl hc=>
   obtain⟨xs,fz,S',O,R,U,W,Y,Z,k7⟩:=tL (t:=s.t) hC G N.toList S s.h (by simpa using hl) m I (fun i c v u z=>hc i c v u (by simpa using z)) D;exact⟨_,fz,S',O,R,.fn f xs N (by simpa using k7) (fun i c v u z=>U i c v u (by simpa using z)),W,Y,Z⟩
 obtain⟨y,fz,S',u,z,h3,h4,h5,h6,_⟩:=tK hC m I J D;exact⟨y,fz,S',u,z,h3,h4,h5,h6⟩
theorem fo{d:Nat}:∀{fz:List (Nat×AB)} {h:Nat->AB},(∀p∈fz,p.1≠d)->app h fz d=h d:=by
 intro fz
 induction fz with
 | nil=>intro h _;rfl
 | cons x fz ih=>
  intro h m;show app (ax h x.1 x.2) fz d=h d;rw[ih (fun p hp=>m p (by simp[hp])),au _ _ (fun e=>m x (by simp) e.symm)]
theorem aU.kill{S:Nat->Prop}{a:Act}{w:World}(m:aU A V L S rho s a w)(id:Nat):aU A V L S rho ⟨s.t,ax s.h id .none⟩ a w:=by
 have T:fu S S w w L L rho rho s.h (ax s.h id .none):=by
  refine⟨fun b h=>h,fun _ _=>rfl,fun j u=>⟨?_,fun hl=>⟨hl,rfl⟩⟩,fun j e' u=>?_⟩
  ·rcases aD s.h id .none j with⟨rfl,h⟩ | ⟨_,h⟩
   ·rw[h]at u;exact u.elim
   rw[h]at u;exact u
  rcases aD s.h id .none j with⟨rfl,h⟩ | ⟨_,h⟩
  ·rw[h]at u;cases u
  rw[h]at u;exact u
 have z:∀j,((ax s.h id .none) j).live->j≠id/\(s.h j).live:=by
  intro j u;rcases aD s.h id .none j with⟨rfl,h⟩ | ⟨I,h⟩
  ·rw[h]at u;exact u.elim
  rw[h]at u;exact⟨I,u⟩
 exact
 {tm:=fun j u=>(m.tm j u).bA T
  sz:=m.sz,df:=m.df,nb:=m.nb,pn:=m.pn,ev:=m.ev,s0:=m.s0,st:=m.st,sb:=m.sb
  hp:=fun j u=>by
   have N:=m.hp j u;rcases aD s.h id .none j with⟨rfl,h⟩ | ⟨I,h⟩
   ·show cd _ _ _ _ _ _ _ (ax s.h j .none j);rw[h];trivial
   show cd _ _ _ _ _ _ _ (ax s.h id .none j);rw[h];exact N.bA T (fun _ _ _=>rfl) (fun _=>rfl)
  dj:=fun i j g G u D J O R=>m.dj i j g G u (z i D).2 (z j J).2 (cx (z i D).1 O) (cx (z j J).1 R)
  lv:=fun i g G D U=>m.lv i g G (z i D).2 (cx (z i D).1 U)
  fr:=m.fr }
theorem aU.jA{S:Nat->Prop}{a:Act}{w:World}(m:aU A V L S rho s a w)(hC:aL A.C)(d:Nat)(b:AB)(hdb:d<100000)(hL:¬L d)(hb:s.h d=b)(w':World)(ho:w'.os=w.os)(ht:w'.tape=w.tape)(hu:w'.output=w.output)
  (J:w.heap.size<=w'.heap.size) (R:Nat->Prop) (u:∀k,k<w.heap.size->¬R k->w'.heap[k]?=w.heap[k]?) (N:∀k,R k->¬S k/\(∀i,L i->(s.h i).live->¬hasB w (s.h i) (rho i) k)/\(A.mv k\/A.w0.heap.size<=k))
  (hv:Value) (D:∀g,hasB w' b hv g->g<w'.heap.size/\(w.heap.size<=g\/R g))
  (hrep:fu S S w w' L (fun i=>L i\/i=d) rho (ax rho d hv) s.h s.h->cd S w' A.C.P (fun i=>L i\/i=d) (ax rho d hv) s.h d b):
  aU A V (fun i=>L i\/i=d) S (ax rho d hv) s a w':=by
 have eE:∀b,S b->w'.heap[b]?=w.heap[b]?:=fun k G=>u k (m.st k G) fun O=>(N k O).1 G;have bO:∀i,L i->i≠d:=fun i hi e=>hL (e▸hi);have T:fu S S w w' L (fun i=>L i\/i=d) rho (ax rho d hv) s.h s.h:=
  ⟨fun b h=>h,eE,fun j I=>⟨I,fun hl=>⟨.inl hl,au _ _ (bO j hl)⟩⟩,fun j e' I=>I⟩
 exact
 {tm:=fun j I=>(m.tm j I).bA T
  sz:=m.sz,df:=m.df,nb:=m.nb,pn:=fun id h=>by rw[au _ _ (by omega)];exact m.pn id h
  ev:=hC.env _ _ _ _ m.ev (fun b h=>h) eE J
  s0:=m.s0
  st:=fun b hb=>bg (m.st b hb) J
  sb:=m.sb
  hp:=fun j I=>by
   by_cases e:j=d
   ·subst e;rw[hb];exact hrep T
   have hl:L j:=I.resolve_right e;refine (m.hp j hl).bA T (fun z g Y=>?_) (fun _=>au _ _ e);exact u g (m.lv j g hl z Y).1 fun O=>(N g O).2.1 j hl z Y
  dj:=fun i j g hi I z lj W U=>by
   have back:∀i g,L i->(s.h i).live->hasB w' (s.h i) (rho i) g->hasB w (s.h i) (rho i) g:=fun i g hl z h=>b_ (fun k G=>u k (m.lv i k hl z G).1 fun O=>(N k O).2.1 i hl z G) h;by_cases e1:i=d
   ·by_cases Z:j=d
    ·rw[e1,Z]
    have hl:L j:=I.resolve_right Z;rw[au _ _ Z]at U;have U:=back j g hl lj U;rw[e1,ak,hb]at W;rcases (D g W).2 with h | h
    ·exact absurd (m.lv j g hl lj U).1 (by omega)
    exact absurd U ((N g h).2.1 j hl lj)
   have hl:L i:=hi.resolve_right e1;rw[au _ _ e1]at W;have W:=back i g hl z W;by_cases Z:j=d
   ·rw[Z,ak,hb]at U;rcases (D g U).2 with h | h
    ·exact absurd (m.lv i g hl z W).1 (by omega)
    exact absurd W ((N g h).2.1 i hl z)
   have yE:L j:=I.resolve_right Z;rw[au _ _ Z]at U;exact m.dj i j g hl yE z lj W (back j g yE lj U)
  lv:=fun i g hi z Y=>by
   by_cases e:i=d
   ·rw[e,ak,hb]at Y;obtain⟨h1,h2⟩:=D g Y;refine⟨h1,?_⟩;rcases h2 with h | h
    ·exact⟨fun hs=>absurd (m.st g hs) (by omega),.inr (bM m.fr.size h)⟩
    exact⟨(N g h).1,(N g h).2.2⟩
   have hl:L i:=hi.resolve_right e;rw[au _ _ e]at Y;obtain⟨h1,h2,h3⟩:=m.lv i g hl z (b_ (fun k G=>u k (m.lv i k hl z G).1 fun O=>(N k O).2.1 i hl z G) Y);exact⟨bg h1 J,h2,h3⟩
  fr:=m.fr.next ho ht hu J fun k G hn=>u k (bg G m.fr.size) fun O=>by
   rcases (N k O).2.2 with h | h
   ·exact hn h
   omega }
theorem aU.new{S:Nat->Prop}{a:Act}{w:World}(G:aU A V L S rho s a w)(hC:aL A.C)(d:Nat)(b:AB)(I:d<100000)(O:¬L d)(hb:s.h d=b)(w':World)(U:w'.os=w.os)(W:w'.tape=w.tape)(Y:w'.output=w.output)
  (J:w.heap.size<=w'.heap.size) (R:Nat->Prop) (m:∀k,k<w.heap.size->¬R k->w'.heap[k]?=w.heap[k]?) (Z:∀k,R k->¬S k/\(∀i,L i->(s.h i).live->¬hasB w (s.h i) (rho i) k)/\(A.mv k\/A.w0.heap.size<=k))
  (u:Value) (z:∀g,bH u=some g->g<w'.heap.size/\(w.heap.size<=g\/R g))
  (D:fu S S w w' L (fun i=>L i\/i=d) rho (ax rho d u) s.h s.h->cd S w' A.C.P (fun i=>L i\/i=d) (ax rho d u) s.h d b)
  (N:Ij b=true:=by rfl):
  aU A V (fun i=>L i\/i=d) S (ax rho d u) s a w':=
 G.jA hC d b I O hb w' U W Y J R m Z u (fun g h=>z g (al N h)) D
theorem aU.KW{S:Nat->Prop}{a:Act}{w:World}(m:aU A V L S rho s a w)(hC:aL A.C)(w':World)(u:Fr (fun _=>False) w w')(S':Nat->Prop)(J:∀b,S b->S' b)(W:∀b,S' b->b<w'.heap.size)(O:∀b,S' b->S b\/w.heap.size<=b):aU A V L S' rho s a w':=by
 have R:∀b,S b->w'.heap[b]?=w.heap[b]?:=fun k D=>u.block k (m.st k D) (fun h=>h);have T:fu S S' w w' L L rho rho s.h s.h:=⟨J,R,fun j z=>⟨z,fun hl=>⟨hl,rfl⟩⟩,fun j e' z=>z⟩;exact
 {tm:=fun j z=>(m.tm j z).bA T
  sz:=m.sz,df:=m.df,nb:=m.nb,pn:=m.pn
  ev:=hC.env _ _ _ _ m.ev J R u.size
  s0:=fun b hb=>J b (m.s0 b hb)
  st:=W
  sb:=fun b hb=>by
   rcases O b hb with h | h
   ·exact m.sb b h
   exact .inr (.inr (bM m.fr.size h))
  hp:=fun j z=>(m.hp j z).bA T (fun G g N=>u.block g (m.lv j g z G N).1 (fun h=>h)) (fun _=>rfl)
  dj:=fun i j g I z G U Y Z=>m.dj i j g I z G U (b_ (fun k D=>u.block k (m.lv i k I G D).1 (fun h=>h)) Y) (b_ (fun k D=>u.block k (m.lv j k z U D).1 (fun h=>h)) Z)
  lv:=fun i g I G N=>by
   obtain⟨a1,a2,a3⟩:=m.lv i g I G (b_ (fun k D=>u.block k (m.lv i k I G D).1 (fun h=>h)) N);refine⟨bg a1 u.size,fun h=>?_,a3⟩;rcases O g h with h | h
   ·exact a2 h
   omega
  fr:=m.fr.next u.os u.tape u.output u.size fun k D _=>u.block k (bg D m.fr.size) (fun h=>h) }
theorem aU.Iy{S:Nat->Prop}{a:Act}{w:World}(m:aU A V L S rho s a w)(d:Nat)(es:List (List PV))(hdb:d<100000)(W:¬L d)(hb:s.h d=.f_ es)(J:Value)
  (G:ay S w (.sl es) J):aU A V (fun i=>L i\/i=d) S (ax rho d J) s a w:=by
 have Y:∀i,L i->i≠d:=fun i D e=>W (e▸D);have T:fu S S w w L (fun i=>L i\/i=d) rho (ax rho d J) s.h s.h:=
  ⟨fun b h=>h,fun _ _=>rfl,fun j u=>⟨u,fun hl=>⟨.inl hl,au _ _ (Y j hl)⟩⟩,fun j e' u=>u⟩
 have out:∀i,(L i\/i=d)->(s.h i).live->L i/\i≠d:=fun i D z=>by
  by_cases e:i=d
  ·rw[e,hb]at z;exact z.elim
  exact⟨D.resolve_right e,e⟩
 exact
 {tm:=fun j u=>(m.tm j u).bA T
  sz:=m.sz,df:=m.df,nb:=m.nb,pn:=fun id h=>by rw[au _ _ (by omega)];exact m.pn id h
  ev:=m.ev
  s0:=m.s0
  st:=m.st
  sb:=m.sb
  hp:=fun j u=>by
   by_cases e:j=d
   ·subst e;rw[hb];show ay S w (.sl es) (ax rho j J j);rw[ak];exact G
   have hl:L j:=u.resolve_right e;exact (m.hp j hl).bA T (fun z g hg=>rfl) (fun _=>au _ _ e)
  dj:=fun i j g D u z R I U=>by
   obtain⟨N,O⟩:=out i D z;obtain⟨Z,e2⟩:=out j u R;rw[au _ _ O]at I;rw[au _ _ e2]at U;exact m.dj i j g N Z z R I U
  lv:=fun i g D z I=>by
   obtain⟨N,O⟩:=out i D z;rw[au _ _ O]at I;exact m.lv i g N z I
  fr:=m.fr }
theorem aU.vf{S:Nat->Prop}{a:Act}{w:World}(m:aU A V L S rho s a w)(hC:aL A.C)(id:Nat)(O:L id)(G:(s.h id).live)(b':AB)(dM:∀e,b'.fD=some e->(s.h id).fD=some e)
  (w':World) (ho:w'.os=w.os) (ht:w'.tape=w.tape) (hu:w'.output=w.output) (D:w'.heap.size=w.heap.size) (z:∀k,bH (rho id)≠some k->w'.heap[k]?=w.heap[k]?)
  (J:fu S S w w' L L rho rho s.h (ax s.h id b')->cd S w' A.C.P L rho (ax s.h id b') id b') (hown:∀g,hasB w' b' (rho id) g->hasB w (s.h id) (rho id) g):aU A V L S rho ⟨s.t,ax s.h id b'⟩ a w':=by
 have eE:∀b,S b->w'.heap[b]?=w.heap[b]?:=fun k R=>z k fun e=>(m.mO id k O G e).2.1 R;have nh:(s.h id).there:=by cases hh:s.h id<;>rw[hh]at G<;>first | trivial | exact G.elim
 have T:fu S S w w' L L rho rho s.h (ax s.h id b'):=by
  refine⟨fun b h=>h,eE,fun j u=>⟨?_,fun hl=>⟨hl,rfl⟩⟩,fun j e' u=>?_⟩
  ·rcases aD s.h id b' j with⟨rfl,h⟩ | ⟨_,h⟩
   ·exact nh
   rw[h]at u;exact u
  rcases aD s.h id b' j with⟨rfl,h⟩ | ⟨_,h⟩
  ·rw[h]at u;exact dM e' u
  rw[h]at u;exact u
 have Y:∀j,((ax s.h id b') j).live->(s.h j).live:=by
  intro j u;rcases aD s.h id b' j with⟨rfl,h⟩ | ⟨U,h⟩
  ·exact G
  rw[h]at u;exact u
 have back:∀j g,L j->((ax s.h id b') j).live->hasB w' (ax s.h id b' j) (rho j) g->hasB w (s.h j) (rho j) g:=by
  intro j g hl u W;rcases aD s.h id b' j with⟨rfl,h⟩ | ⟨U,h⟩
  ·rw[h]at W;exact hown g W
  rw[h]at W u;exact b_ (fun k R=>z k fun e=>U (m.dj j id k hl O u G R (.inl e))) W
 exact
 {tm:=fun j u=>(m.tm j u).bA T
  sz:=m.sz,df:=m.df,nb:=m.nb,pn:=m.pn
  ev:=hC.env _ _ _ _ m.ev (fun b h=>h) eE (Nat.le_of_eq D.symm)
  s0:=m.s0
  st:=fun b hb=>by rw[D];exact m.st b hb
  sb:=m.sb
  hp:=fun j u=>by
   rcases aD s.h id b' j with⟨rfl,h⟩ | ⟨U,h⟩
   ·show cd _ _ _ _ _ _ _ (ax s.h j b' j);rw[h];exact J T
   show cd _ _ _ _ _ _ _ (ax s.h id b' j);rw[h];refine (m.hp j u).bA T (fun I g Z=>z g fun e=>?_) (fun _=>rfl);exact U (m.dj j id g u O I G Z (.inl e))
  dj:=fun i j g N u I lj cK dW=>m.dj i j g N u (Y i I) (Y j lj) (back i g N I cK) (back j g u lj dW)
  lv:=fun i g N I Z=>by rw[D];exact m.lv i g N (Y i I) (back i g N I Z)
  fr:=m.fr.next ho ht hu (Nat.le_of_eq D.symm) fun k R hn=>z k fun e=>by
   rcases (m.mO id k O G e).2.2 with h | h
   ·exact hn h
   omega }
theorem aU.write{S:Nat->Prop}{a:Act}{w:World}(z:aU A V L S rho s a w)(hC:aL A.C)(id:Nat)(I:L id)(J:(s.h id).live)(b':AB)(N:∀e,b'.fD=some e->(s.h id).fD=some e)
  (w':World) (O:w'.os=w.os) (R:w'.tape=w.tape) (U:w'.output=w.output) (D:w'.heap.size=w.heap.size) (m:∀k,bH (rho id)≠some k->w'.heap[k]?=w.heap[k]?)
  (u:fu S S w w' L L rho rho s.h (ax s.h id b')->cd S w' A.C.P L rho (ax s.h id b') id b') (G:Ij b'=true:=by rfl):aU A V L S rho ⟨s.t,ax s.h id b'⟩ a w':=
 z.vf hC id I J b' N w' O R U D m u fun _ h=>.inl (al G h)
theorem aU.gT{S:Nat->Prop}{a:Act}{w:World}(m:aU A V L S rho s a w){dst:Option Tmp}(u:∀d,dst=some d->d<A.n):dst.getD 0<100000:=by
 cases dst with
 | none=>exact Nat.zero_lt_succ _
 | some d=>exact bg (u d rfl) m.nb
theorem iv{S:Nat->Prop}{a:Act}{w:World}(D:aU A V L S rho s a w){x:AV}{v:Value}(h:kL s.h x=true)(z:aE S w A.C.P L rho s.h x v):v.oneCell'=true:=by
 unfold kL at h;split at h
 ·rw[z.bc];exact h
 ·cases h
 ·rename_i y R U;have W:=z.cb;cases W with
  | im=>exact absurd rfl (R _)
  | ag cs vs=>exact absurd rfl (U cs)
  | nil=>rfl
  | sl=>rfl
  | ip=>rfl
  | fn=>rfl
  | mp=>rfl
  | ifc=>rfl
 ·cases z;rfl
 ·rename_i id;split at h
  ·rename_i e es ai;obtain⟨I,m⟩:=z.bu (by rw[ai];trivial);have u:=D.hp id I;rw[ai]at u;obtain⟨i,xs,_,_,J,_⟩:=u;rw[m];rcases J.2 with⟨G,_⟩ | ⟨g,N,O,G,_⟩<;>rw[G]<;>rfl
  ·rename_i e es ai;obtain⟨I,m⟩:=z.bu (by rw[ai];trivial);have u:=D.hp id I;rw[ai]at u;obtain⟨⟨i,xs,_,_,J,_⟩,_⟩:=u;rw[m];rcases J.2 with⟨G,_⟩ | ⟨g,N,O,G,_⟩<;>rw[G]<;>rfl
  ·rename_i es ai;obtain⟨I,m⟩:=z.bu (by rw[ai];trivial);have u:=D.hp id I;rw[ai]at u;obtain⟨ad,c,G,_⟩:=ay.j5 u;rw[m,G];rfl
  ·rename_i mk es ai;obtain⟨I,m⟩:=z.bu (by rw[ai];trivial);have u:=D.hp id I;rw[ai]at u;obtain⟨g,ms,clock,G,_⟩:=u;rw[m,G];rfl
  cases h
 ·rename_i id off;split at h
  ·cases h
  rename_i Y;have Z:(s.h id).there:=by
   cases u:s.h id<;>first | trivial | exact absurd u (by simpa using Y)
  obtain⟨_,g,_,m⟩:=z.dt Z;rw[m];rfl
 ·rename_i id i off;split at h
  ·rename_i e es ai;obtain⟨_,g,n,c,tj,_,_,m⟩:=z.rI ai;rw[m];rfl
  ·rename_i e es ai;obtain⟨_,g,n,c,tj,_,_,m⟩:=z.lZ ai;rw[m];rfl
  cases h
 ·rename_i id lo hi;split at h
  ·rename_i e es ai;obtain⟨_,n,c,a,ti,_,_,_,_,_,m⟩:=z.rJ ai;rw[m];rfl
  cases h
 ·cases z;rfl
 cases h
theorem cells_one{v:Value}(h:v.oneCell'=true):v.cells=#[v]:=by cases v<;>first | rfl | cases h
theorem qc{S:Nat->Prop}{w:World}{x:PV}{ys:List PV}{v:Value}(h:mZ x=some ys)(z:ay S w x v):v.cells.size=ys.length/\(∀u∈v.cells.toList,u.oneCell'=true)/\∀(j:Nat) y u,ys[j]?=some y->v.cells[j]?=some u->ay S w y u:=by
 have one:∀{v:Value},v.oneCell'=true->ay S w x v->ys=[x]->v.cells.size=ys.length/\(∀u∈v.cells.toList,u.oneCell'=true)/\∀(j:Nat) y u,ys[j]?=some y->v.cells[j]?=some u->ay S w y u:=by
  intro v m z J;subst J;rw[cells_one m];refine⟨rfl,by simpa using m,fun j y u D I=>?_⟩;cases j with
  | zero=>simp at D I;subst D I;exact z
  | succ j=>simp at D
 unfold mZ at h;split at h
 ·injection h with h;subst h;obtain⟨vs,rfl,m,G,N⟩:=z.kW;exact⟨m.symm,G,N⟩
 ·split at h
  ·rename_i m;injection h with h;exact one (by rw[z.bc];exact m) z h.symm
  cases h
 rename_i m G;injection h with h;refine one ?_ z h.symm;cases z with
 | im=>exact absurd rfl (G _)
 | ag cs=>exact absurd rfl (m cs)
 | nil=>rfl
 | sl=>rfl
 | ip=>rfl
 | fn=>rfl
 | mp=>rfl
 | ifc=>rfl
theorem Iz{o:Oper}(e:TypeId)(x:Operand)(Z:o.op=.box e x):eD A o:=by
 intro V L S rho s a w K next Q hC J hV hd I hn N
 simp only[aZ,Z]at I;have R:=aH J x fun j m=>hV j (by simp[Z,Op.operands,m]);have hr:(execOp a.eval o).run A.C.P w=.ok (.value (.pointer (some ⟨w.heap.size,0,none⟩))) (w.alloc (.cells (a.eval x).cells e)):=by
  simp[execOp,Z,Instr.box,newVar,newRow,newObj,Sem.run]
 have G:∀cs:List AV,K (.bx (o.dst.getD 0) 0) [] (some (.box cs))->(a.eval x).cells.size=cs.length->(∀(j:Nat) y u,cs[j]?=some y->(a.eval x).cells[j]?=some u->u.oneCell'=true/\aE S w A.C.P L rho s.h y u)->o.wp A.C.P a w next Q:=by
  intro cs I hl hc;obtain⟨hL,hb⟩:=hn _ _ _ I;have aQ:=J.new hC (o.dst.getD 0) (.box cs) (J.gT hd) hL hb (w.alloc (.cells (a.eval x).cells e)) rfl rfl rfl (by simp) (fun _=>False) (fun k hk _=>gw _ _ _ hk) (fun _ h=>h.elim) (.pointer (some ⟨w.heap.size,0,none⟩))
   (fun g hg=>by simp[bH]at hg;subst hg;simp) (fun T=>⟨w.heap.size,e,(a.eval x).cells,ak _ _ _,heap_alloc_new w _,hl,fun j y u m D=>⟨(hc j y u m D).1,(hc j y u m D).2.bA T⟩⟩)
  refine bS hr (N _ _ _ _ _ _ _ I (aQ.value o.dst hd _ _ (.bx _ _ _ fun _=>⟨.inr rfl,w.heap.size,ak _ _ _,rfl⟩)))
 split at I
 ·rename_i cs js;rw[js]at R;obtain⟨vs,U,W,O,h3⟩:=R.cb.kW;refine G _ I (by rw[U];simp[Value.cells,W]) fun j y u m D=>?_;rw[U]at D;rw[ao]at m;obtain⟨z,hz,rfl⟩:=az.1 m;have Y:vs[j]?=some u:=D;exact⟨O u (by simpa using qI Y),.p _ _ (h3 j z u hz Y)⟩
 ·rename_i xs js;rw[js]at R;obtain⟨vs,U,W,O,h3⟩:=R.Ir;refine G _ I (by rw[U];simp[Value.cells,W]) fun j y u m D=>?_;rw[U]at D;have Y:vs[j]?=some u:=D;exact⟨O u (by simpa using qI Y),h3 j y u m Y⟩
 split at I
 ·rename_i W;have O:=iv J W R;refine G _ I (by rw[cells_one O];rfl) fun j y u m D=>?_;rw[cells_one O]at D;cases j with
  | zero=>simp at m D;subst m D;exact⟨O,R⟩
  | succ j=>simp at m
 exact I.elim
theorem Dr{o:Oper}(e:TypeId)(aq:o.op=.alloc e):eD A o:=by
 intro V L S rho s a w K next Q hC D hV U I hn m
 simp only[aZ,aq]at I;split at I
 ·rename_i ti hT;obtain⟨info,z,hi,h1,h2,hz,W,ga⟩:=(hC.eL e ti hT).info;have hr:(execOp a.eval o).run A.C.P w=.ok (.value (.pointer (some ⟨w.heap.size,0,none⟩))) (w.alloc (.cells z.cells e)):=by
   simp[execOp,aq,Instr.alloc,zeroValue,typeInfo,hi,hz,newVar,newRow,newObj,Sem.run]
  split at I
  ·obtain⟨Y,hb⟩:=hn _ _ _ I;have Z:=D.new hC (o.dst.getD 0) _ (D.gT U) Y hb (w.alloc (.cells z.cells e)) rfl rfl rfl (by simp) (fun _=>False) (fun k hk _=>gw _ _ _ hk) (fun _ h=>h.elim) (.pointer (some ⟨w.heap.size,0,none⟩))
    (fun g J=>by simp[bH]at J;subst J;simp) (fun T=>⟨w.heap.size,e,z.cells,ak _ _ _,heap_alloc_new w _,by rw[W];simp,fun j y u N O=>by
     rw[W]at O;rw[ao]at N;obtain⟨v,R,rfl⟩:=az.1 N;have G:ti.zero[j]?=some u:=by simpa using O
     rw[R]at G;injection G with G;subst G;exact⟨ga v (aj R),rF _ _ _ _ _ _ v⟩⟩)
   refine bS hr (m _ _ _ _ _ _ _ I (Z.value o.dst U _ _ (.bx _ _ _ fun _=>⟨.inr rfl,w.heap.size,ak _ _ _,rfl⟩)))
  obtain⟨Y,hb⟩:=hn _ _ _ I;have Z:=D.new hC (o.dst.getD 0) _ (D.gT U) Y hb (w.alloc (.cells z.cells e)) rfl rfl rfl (by simp) (fun _=>False) (fun k hk _=>gw _ _ _ hk) (fun _ h=>h.elim) (.pointer (some ⟨w.heap.size,0,none⟩))
   (fun g J=>by simp[bH]at J;subst J;simp) (fun T=>⟨w.heap.size,z.cells,ak _ _ _,heap_alloc_new w _,by rw[W];simp,fun j y u N O=>by
    rw[W]at O;rw[ao]at N;obtain⟨v,R,rfl⟩:=az.1 N;have G:ti.zero[j]?=some u:=by simpa using O
    rw[R]at G;injection G with G;subst G;exact⟨ga v (aj R),rF _ _ _ _ _ _ v⟩⟩)
  refine bS hr (m _ _ _ _ _ _ _ I (Z.value o.dst U _ _ (.bx _ _ _ fun _=>⟨.inr rfl,w.heap.size,ak _ _ _,rfl⟩)))
 exact I.elim
end Go.AM
namespace Go.AM
open Go.RowKit
theorem iD{id:Nat}:∀{fz:List (Nat×AB)} {h:Nat->AB},m_ id fz=true->app h fz id=h id:=by
 intro fz
 induction fz with
 | nil=>intro h _;rfl
 | cons x fz ih=>
  intro h m;unfold m_ at m;split at m
  ·cases m
  rename_i u;show app (ax h x.1 x.2) fz id=h id;rw[ih m,au _ _ (fun e=>by rw[e]at u;simp at u)]
variable {α:Type}
theorem bL:∀(ys:List α) (cs:List α) (off:Nat),(setCells cs off ys).length=cs.length:=by
 intro ys
 induction ys with
 | nil=>intro cs off;rfl
 | cons y ys ih=>intro cs off;simp[setCells,ih]
theorem b8:∀(ys:List α) (cs:List α) (off j:Nat),off+ys.length<=cs.length->(setCells cs off ys)[j]?=if off<=j/\j<off+ys.length then ys[j-off]? else cs[j]?:=by
 intro ys
 induction ys with
 | nil=>intro cs off j _;simp only[setCells,jU];rw[af (by omega)]
 | cons y ys ih=>
  intro cs off j hl;simp only[cD]at hl ⊢;simp only[setCells];rw[ih _ _ _ (by simp;omega)];by_cases u:j=off
  ·subst u;rw[af (by omega),ae (by omega),fH,aP (by omega)];rfl
  by_cases m:off+1<=j/\j<off+1+ys.length
  ·rw[ae m,ae (by omega),show j-off=(j-(off+1))+1 by omega,qJ]
  rw[af m,af (by omega),bw (by omega)]
theorem j7(cs ys:List α)(off j:Nat)(hl:off+ys.length<=cs.length):(cs.take off++ys++cs.drop (off+ys.length))[j]?=if off<=j/\j<off+ys.length then ys[j-off]? else cs[j]?:=by
 have m:(cs.take off).length=off:=by simp;omega
 by_cases u:j<off
 ·rw[af (by omega),gX,bQ (by omega),gY u]
 by_cases h2:j<off+ys.length
 ·rw[ae (by omega),gX,bY (by omega),m,bQ (by omega)]
 rw[af (by omega),gX,bY (by omega),m,bY (by omega),fh];congr 1;omega
theorem FV(cs:List α)(off j:Nat)(y:α)(hl:off<cs.length):(cs.set off y)[j]?=if off<=j/\j<off+1 then [y][j-off]? else cs[j]?:=b8 [y] cs off j hl
theorem ja{P:Program}{w:World}{t:TypeId}{ti:TI}(h:jw P t ti)(g off:Nat)(z:TypeId)(m:Array Value)(v:Value)(D:w.heap[g]?=some (.cells m z (0,0)))(hs:v.cells.size=ti.size)(hl:off+ti.size<=m.size)(G:∀u∈v.cells.toList,u.oneCell'=true):
  (Instr.storeAt t (.pointer (some ⟨g,off,none⟩)) v).run P w=.ok () (w.setRow g (m.toList.take off++v.cells.toList++m.toList.drop (off+v.cells.toList.length)).toArray):=by
 have:=run_storeCells_at P g off z v.cells.toList 0 m w D (by simp[hs];omega) G;simp only[jS]at this;simp[Instr.storeAt,Instr.sureAddr,storeVar,h.sizeOf,hs];simpa [hs] using this
theorem hY{P:Program}{a:Act}{o:Oper}{w w':World}{t:TypeId}{x y:Operand}(m:o.op=.store t x y)(h:(Instr.storeAt t (a.eval x) (a.eval y)).run P w=.ok () w'):(execOp a.eval o).run P w=.ok .skip w':=by
 simp only[execOp,m,aI,h,br,ct]
variable {e:TypeId} {c:Nat} {tj:TypeInfo}
theorem an.stored{P:Program}{w:World}{R Y:α->Value->Prop}{es:List (List α)}{g n:Nat}(h:an P w R e es (.slice (some ⟨g,0,none⟩) n c))(pf:P.info? e=some tj){m:Array Value}(hg:w.heap[g]?=some (.cells m e (0,0)))
  {i off:Nat} {r:List α} (Z:es[i]?=some r) {ys:List α} {us:List Value} (hle:off+ys.length<=r.length) (hlen:us.length=ys.length) (ga:∀u∈us,u.oneCell'=true) (hR:∀x u,R x u->Y x u) (dN:∀(j:Nat) z u,ys[j]?=some z->us[j]?=some u->Y z u):
  an P (w.setRow g (m.toList.take (i*tj.size+off)++us++m.toList.drop (i*tj.size+off+us.length)).toArray) Y e (es.set i (setCells r off ys)) (.slice (some ⟨g,0,none⟩) n c):=by
 obtain⟨ie,xs,W,k2,k3,k4,k5,k6⟩:=h;rw[pf]at W;injection W with W;subst W;rcases k3.2 with⟨D,_⟩ | ⟨g',cap,Ds,D,_,N,k9,Kj,Fv,Hv⟩
 ·cases D
 injection D with D kn kc;injection D with D;injection D with D;subst D kn kc;rw[hg]at N;injection N with N;injection N with N;subst N;have hi:=ah Z;have nP:=k4 r (aj Z);have IA:i*tj.size+tj.size<=es.length*tj.size:=by rw[<-bR];exact ba _ hi
 have Hw:es.length*tj.size<=m.size:=by rw[Fv];exact ba _ k9
 have FW:xs.length=es.length*tj.size:=k3.1;have BC:=fun j=>j7 m.toList us (i*tj.size+off) j (by simp;omega);have IB:=fun j=>b8 us xs (i*tj.size+off) j (by omega);refine⟨tj,setCells xs (i*tj.size+off) us,pf,k2,⟨by rw[bL,FW,aF],.inr ⟨g,c,_,by rw[aF],bd _,setRow_heap w g m _ e (0,0) hg,by rw[aF];exact k9,Kj,?_,?_⟩⟩,?_,?_,?_⟩
 ·simp only[lV,bZ,cu,nI,gx];rw[Fv]at *;omega
 ·apply fj;intro j;rw[cB];simp only[aF];split
  ·rename_i G;rw[BC,IB];split
   ·rfl
   rw[<-Hv,gY G]
  rename_i G;rw[dI];rw[bL,FW];omega
 ·intro q Az;rcases cw Az with h | h
  ·exact k4 q h
  rw[h,bL];exact nP
 ·intro u O;obtain⟨j,G⟩:=cf.1 O;rw[IB]at G;split at G
  ·exact ga u (aj G)
  exact k5 u (aj G)
 intro U q j z I J;have Fw:q.length=tj.size:=by
  rcases cw (aj I) with h | h
  ·exact k4 q h
  rw[h,bL];exact nP
 have kX:=ah J;rw[IB];by_cases Dt:U=i
 ·subst Dt;rw[aP hi]at I;injection I with I;subst I;rw[b8 _ _ _ _ (by omega)]at J;split at J
  ·rename_i iR;rw[ae (by omega),show U*tj.size+j-(U*tj.size+off)=j-off by omega];have MU:=ah J;exact⟨us[j-off]'(by omega),aM _,dN _ z _ J (aM _)⟩
  rename_i iR;rw[af (by omega)];obtain⟨u,O,jb⟩:=k6 _ _ _ _ Z J;exact⟨u,O,hR _ _ jb⟩
 rw[bw (fun e=>Dt e.symm)]at I;have bO:¬(i*tj.size+off<=U*tj.size+j/\U*tj.size+j<i*tj.size+off+us.length):=by
  rintro⟨h1,h2⟩;rcases lW Dt with h | h
  ·have:=ba tj.size (dy h);rw[bR]at this;omega
  have:=ba tj.size (dy h);rw[bR]at this;omega
 rw[af bO];obtain⟨u,O,jb⟩:=k6 _ _ _ _ I J;exact⟨u,O,hR _ _ jb⟩
theorem an.block{P:Program}{w:World}{R:α->Value->Prop}{es:List (List α)}{g n:Nat}(h:an P w R e es (.slice (some ⟨g,0,none⟩) n c))(D:P.info? e=some tj):∃u:Array Value,w.heap[g]?=some (.cells u e (0,0))/\es.length*tj.size<=u.size/\(∀r∈es,r.length=tj.size)/\0<tj.size:=by
 obtain⟨ie,xs,z,G,I,J,k5,k6⟩:=h;rw[D]at z;injection z with z;subst z;rcases I.2 with⟨m,_⟩ | ⟨g',cap,N,m,_,O,U,Kj,W,Hv⟩
 ·cases m
 injection m with m kn kc;injection m with m;injection m with m;subst m;exact⟨N,O,by rw[W];exact ba _ U,J,G⟩
theorem ed{g o n:Nat}{p:Option Nat}{k:Nat}:bH (.slice (some ⟨g,o,p⟩) n c)=some k↔k=g:=by
 simp only[bH,Option.some.injEq];exact⟨fun h=>h.symm,fun h=>h.symm⟩
theorem kU.yH{P:Program}{w:World}{R:HX->Value->Prop}{es:List (List HX)}{v:Value}(hS:kU w es v)(h:an P w R e es v):
  an P w (fun x u=>R x u/\∀e' D,x=.row e' D->∀g b,bH v=some g->bH u=some b->b≠g) e es v:=by
 obtain⟨i,xs,U,W,G,I,Y,Z⟩:=h;refine⟨i,xs,U,W,G,I,Y,fun a r j x z J=>?_⟩;obtain⟨u,m,hr⟩:=Z a r j x z J;refine⟨u,m,hr,fun e' D hx g b N hb=>?_⟩;subst hx;have nP:=I r (aj z);rcases G.2 with⟨hn,hz⟩ | ⟨g',cap,cur,O,_,wI,k1,k2,k3,k4⟩
 ·have:=(cL.1 z).1;omega
 rw[O]at N;obtain rfl:=ed.1 N;refine hS.top g a j u b (by rw[O];rfl) ⟨r,e',D,_,_,_,z,J,wI,?_⟩ hb;rw[nP];rw[<-k4,cB]at m;split at m
 ·simpa using m
 cases m
theorem aU.Nz{A:jR}{V L S:Nat->Prop}{rho:Nat->Value}{s:AS}{a:Act}{w:World}(O:aU A V L S rho s a w)(hC:aL A.C){id:Nat}(hL:L id){es:List (List HX)}(ai:s.h id=.ai e es){g n:Nat}(U:rho id=.slice (some ⟨g,0,none⟩) n c)(pf:A.C.P.info? e=some tj)
  {i off:Nat} {r:List HX} (W:es[i]?=some r) (Z:off+1<=r.length) {x:AV} {u:Value} (ga:u.oneCell'=true) (hx:aE S w A.C.P L rho s.h x u):
  ∃m:Array Value,w.heap[g]?=some (.cells m e (0,0))/\i*tj.size+off+1<=m.size/\aU A V L S rho ⟨s.t,ax s.h id (.ai e (es.set i (r.set off (.av x))))⟩ a (w.setRow g (m.toList.take (i*tj.size+off)++[u]++m.toList.drop (i*tj.size+off+1)).toArray):=by
 have hh:=O.hp id hL;rw[ai]at hh;obtain⟨hR,hS⟩:=hh;rw[U]at hR hS;obtain⟨m,R,hsz,hlen,hpos⟩:=hR.block pf;have hi:=ah W;have nP:=hlen r (aj W);have IA:i*tj.size+tj.size<=es.length*tj.size:=by rw[<-bR];exact ba _ hi
 have Y:∀k j v,bI (w.setRow g (m.toList.take (i*tj.size+off)++[u]++m.toList.drop (i*tj.size+off+1)).toArray) (es.set i (r.set off (.av x))) g k j v->bI w es g k j v:=by
  rintro k j v ⟨q,e',kS,c',KX,m',G,D,I,J⟩;rw[setRow_heap w g m _ e (0,0) R]at I;injection I with I;injection I with I h3' NA;have kX:=ah D;have Fw:q.length=tj.size:=by
   rcases cw (aj G) with h | h
   ·exact hlen q h
   rw[h,aF];exact nP
  have key:∀p,p≠i*tj.size+off->c'[p]?=some v->m[p]?=some v:=fun p hp h=>by
   rw[<-I]at h;have h:(m.toList.take (i*tj.size+off)++[u]++m.toList.drop (i*tj.size+off+1))[p]?=some v:=by simpa using h
   have D:=j7 m.toList [u] (i*tj.size+off) p (by simp;omega);simp only[nJ]at D;rw[D,af (by omega)]at h;simpa using h
  by_cases NB:k=i
  ·subst NB;rw[aP hi]at G;injection G with G;subst G;have MU:j≠off:=fun e0=>by
    subst e0;rw[aP (by omega)]at D;injection D with D;cases D
   rw[bw (fun e=>MU e.symm)]at D;refine⟨r,e',kS,m,_,_,W,D,R,?_⟩;rw[Fw]at J;rw[nP];exact key _ (by omega) J
  rw[bw (fun e=>NB e.symm)]at G;refine⟨q,e',kS,m,_,_,G,D,R,?_⟩;refine key _ ?_ J;rw[Fw];intro he;rcases lW NB with h | h
  ·have:=ba tj.size (dy h);rw[bR]at this;omega
  have:=ba tj.size (dy h);rw[bR]at this;omega
 refine⟨m,R,by omega,?_⟩;refine O.vf hC id hL (by rw[ai];trivial) _ (fun e' h=>by rw[ai];exact h) _ (setRow_os w g _) (setRow_tape w g _) (setRow_output w g _) (setRow_size w g _) (fun k N=>setRow_other w g k _ fun e=>N (by rw[U,e];rfl)) (fun T=>?_) (fun k N=>?_)
 ·show an _ _ _ _ _ (rho id)/\kU _ _ (rho id);rw[U];refine⟨(hS.yH hR).stored pf R (ys:=[.av x]) (us:=[u]) W Z rfl (by simpa using ga) (fun y v hy=>?_) (fun j z v hz hv=>?_),?_⟩
  ·cases y with
   | av y=>exact aE.bA T hy.1
   | row e' kS=>exact an.bA hy.1 (fun k N=>setRow_other w g k _ (hy.2 _ _ rfl g k rfl N)) (fun x u hu=>hu.mono T.hS T.keep)
  ·cases j with
   | zero=>simp at hz hv;subst hz hv;exact aE.bA T hx
   | succ j=>simp at hz
  exact⟨fun g' k j v b G D I=>by
   obtain rfl:=ed.1 G;exact hS.top _ k j v b G (Y k j v D) I,fun g' k j k' j' v v' b G D I J h5=>by
   obtain rfl:=ed.1 G;exact hS.dis _ k j k' j' v v' b G (Y k j v D) (Y k' j' v' I) J h5⟩
 rw[ai];rcases N with N | ⟨cs,g',h,_⟩ | ⟨e',bW,g',k',j,v,G,D,I,J⟩ | ⟨_,_,_,_,_,h,_⟩
 ·exact .inl N
 ·cases h
 rotate_left
 ·cases h
 injection G with G mP;subst G mP;have nG:=D;rw[U]at nG;obtain rfl:=ed.1 nG;exact .inr (.inr (.inl ⟨_,_,_,_,_,_,rfl,D,Y _ _ _ I,J⟩))
theorem Du{m:Array Value}{off:Nat}{u v:Value}(h:off<m.size):((m.setIfInBounds off u).toList.take off++(#[v]:Array Value).toList++(m.setIfInBounds off u).toList.drop (off+(#[v]:Array Value).toList.length)).toArray=m.setIfInBounds off v:=by
 apply gV;rw[uU,uU,List.toList_toArray];apply fj;intro j;have hl:m.toList.length=m.size:=by simp
 by_cases e:j=off
 ·subst e;rw[aP (by omega),gX,bY (by simp;omega)];simp[jV (Nat.le_of_lt h)]
 rw[bw (fun h=>e h.symm)];by_cases z:j<off
 ·rw[gX,bQ (by simp;omega),cB,ae z,bw (by omega)]
 rw[gX,bY (by simp;omega)];simp only[cu,aF,hl,jV (Nat.le_of_lt h)];obtain⟨k,rfl⟩:∃k,j=off+1+k:=⟨j-off-1,by omega⟩;rw[show off+1+k-off=k+1 by omega];simp only[uV,List.nil_append,qJ,cD,jU,fh];rw[bw (by omega)]
theorem Dv{A:jR}{o:Oper}(t:TypeId)(x y:Operand)(aq:o.op=.store t x y):eD A o:=by
 intro V L S rho s a w K next Q hC I hV hd m hn J
 simp only[aZ,aq]at m;have hx:=aH I x fun j G=>hV j (by simp[aq,Op.operands,G]);have hy:=aH I y fun j G=>hV j (by simp[aq,Op.operands,G]);split at m
 ·exact m.elim
 rename_i ti hT;have dr:=hC.eL t ti hT;split at m
 ·rename_i id off Dw;rw[Dw]at hx;split at m
  ·rename_i cs aA;obtain⟨hL,g,hg,hv⟩:=hx.dt (by rw[aA];trivial);have main:∀(S2:Nat->Prop) (s2:AS) (dB:List AV) (ws:List AV),aU A V L S2 rho s2 a w->s2.h id=.box cs->(a.eval y).cells.size=ti.size->ws.length=ti.size->off+ti.size<=cs.length->(∀u∈(a.eval y).cells.toList,u.oneCell'=true)->
     (∀(j:Nat) z u,ws[j]?=some z->(a.eval y).cells[j]?=some u->aE S2 w A.C.P L rho s2.h z u)->dB.length=cs.length->(∀j,dB[j]?=if off<=j/\j<off+ws.length then ws[j-off]? else cs[j]?)->
     ∃w',(execOp a.eval o).run A.C.P w=.ok .skip w'/\aU A V L S2 rho ⟨s2.t,ax s2.h id (.box dB)⟩ a w':=by
    intro S2 s2 dB ws aJ o9 hsz KY hle ga dN hlen rK;have hh:=aJ.hp id hL;rw[o9]at hh;obtain⟨g',ty,c,U,k2,k3,k4⟩:=hh;rw[hg]at U;injection U with U;injection U with U;injection U with U;subst U;have D:=ja (w:=w) dr g off ty c (a.eval y) k2 hsz (by omega) ga;refine⟨_,hY aq (by rw[hv];exact D),?_⟩;refine aJ.write hC id hL (by rw[o9];trivial) (.box dB) (fun _ h=>by cases h) _ (by simp) (by simp) (by simp) (by simp) (fun k hk=>setRow_other w g k _ fun e=>hk (by rw[hg,e];rfl)) fun T=>?_;have N:(a.eval y).cells.toList.length=ti.size:=by simpa using hsz
    refine⟨g,ty,_,hg,setRow_heap w g c _ ty (0,0) k2,by simp[N];omega,fun j z u G W=>?_⟩;have ni:(c.toList.take off++(a.eval y).cells.toList++c.toList.drop (off+(a.eval y).cells.toList.length))[j]?=some u:=by simpa using W
    rw[j7 _ _ _ _ (by rw[N];simpa [k3] using hle)]at ni;rw[rK j]at G;rw[N]at ni;rw[KY]at G;split at G
    ·rename_i iR;rw[ae iR]at ni;have NC:(a.eval y).cells[j-off]?=some u:=by simpa using ni
     exact⟨ga u (aj ni),(dN _ z u G NC).bA T⟩
    rename_i iR;rw[af iR]at ni;have NC:c[j]?=some u:=by simpa using ni
    obtain⟨h5,h6⟩:=k4 _ _ _ G NC;exact⟨h5,h6.bA T⟩
   split at m
   ·rename_i nU;obtain⟨yv,fz,S2,m,aJ,hrep,nX,hF,wU⟩:=e8 hC I (kM.refl s.h) hy m;split at m
    ·rename_i ys;split at m
     ·rename_i Z;simp only[aw]at Z;obtain⟨⟨e1,O⟩,e3⟩:=Z;have e1:=dC e1;have O:=gi O;obtain⟨vs,wV,h1,h2,h3⟩:=hrep.kW;have N:(a.eval y).cells=vs:=by rw[wV];rfl
      obtain⟨w',D,cF⟩:=main S2 _ (setCells cs off (ys.map Kd)) (ys.map Kd) aJ (by simp only;rw[iD e3];exact aA) (by rw[N];omega) (by simpa using e1) O (by rw[N];exact h2)
       (fun j z u G W=>by
        rw[N]at W;rw[ao]at G;obtain⟨z',hz,rfl⟩:=az.1 G;exact va (h3 j z' u hz W)) (bL _ _ _) (fun j=>b8 _ _ _ _ (by simpa [e1] using O))
      refine jx D (J _ _ _ S2 rho _ _ m ?_);have:=cF.value o.dst hd .junk undef (.junk _);simp only[bJ,app];exact this
     exact m.elim
    exact m.elim
   rename_i nU;split at m
   ·rename_i Z;simp only[aw]at Z;obtain⟨⟨e1,O⟩,e3⟩:=Z;have e1:=gi e1;have O:=dC O;have h1:=iv I e3 hy;have N:=cells_one h1;obtain⟨w',D,cF⟩:=main S s (cs.set off (ev s.t y)) [ev s.t y] I aA (by rw[N,O];rfl) (by rw[O];rfl) (by omega) (by rw[N];simpa using h1)
     (fun j z u G W=>by
      rw[N]at W;cases j with
      | zero=>simp at G W;subst G W;exact hy
      | succ j=>simp at G) (by simp) (fun j=>FV _ _ _ _ (by omega))
    refine jx D (J _ _ _ S rho _ _ m ?_);exact cF.value o.dst hd .junk undef (.junk _)
   exact m.elim
  exact m.elim
 ·rename_i id i off Dw;rw[Dw]at hx;split at m
  ·rename_i e es ai;obtain⟨hL,g,n,c,tj,hg,pf,hv⟩:=hx.rI ai;obtain⟨r,hr,m⟩:=m;obtain⟨yv,fz,S2,m,aJ,hrep,nX,hF,wU⟩:=e8 hC I (kM.refl s.h) hy m;split at m
   ·rename_i ys Dx;split at m
    ·rename_i Z;simp only[aw]at Z;obtain⟨⟨e1,O⟩,e3⟩:=Z;have e1:=dC e1;have O:=gi O;obtain⟨ND,ga,dN⟩:=qc Dx hrep;have o9:(app s.h fz) id=.row e es:=by rw[iD e3];exact ai
     have hh:=aJ.hp id hL;have hh:cd S2 w A.C.P L rho (app s.h fz) id ((app s.h fz) id):=hh;rw[o9]at hh;obtain⟨ie,xs,U,k2,k3,k4,k5,k6⟩:=hh;rw[pf]at U;injection U with U;subst U;rw[hg]at k3;rcases k3.2 with⟨k7,_⟩ | ⟨g',cap,R,k7,_,k8,k9,Kj,Fv,Hv⟩
     ·cases k7
     injection k7 with k7 kn kc;injection k7 with k7;injection k7 with k7;subst k7 kn kc;have hi:=ah hr;have nP:=k4 r (aj hr);have IA:i*tj.size+tj.size<=es.length*tj.size:=by rw[<-bR];exact ba _ hi
     have Hw:es.length*tj.size<=R.size:=by rw[Fv];exact ba _ k9
     have N:(a.eval y).cells.toList.length=ti.size:=by simp;omega
     have D:=ja (w:=w) dr g (i*tj.size+off) e R (a.eval y) k8 (by omega) (by omega) ga;refine jx (hY aq (by rw[hv];exact D)) (J _ _ _ S2 rho _ _ m ?_);have cF:aU A V L S2 rho ⟨s.t,ax (app s.h fz) id (.row e (es.set i (setCells r off ys)))⟩ a (w.setRow g (R.toList.take (i*tj.size+off)++(a.eval y).cells.toList++R.toList.drop (i*tj.size+off+(a.eval y).cells.toList.length)).toArray):=by
      refine aJ.write hC id hL (by show (app s.h fz id).live;rw[o9];trivial) (.row e (es.set i (setCells r off ys))) (fun e' h=>by show (app s.h fz id).fD=_;rw[o9];exact h) _ (setRow_os w g _) (setRow_tape w g _) (setRow_output w g _) (setRow_size w g _)
       (fun k hk=>setRow_other w g k _ fun e=>hk (by rw[hg,e];rfl)) (fun T=>?_)
      show an _ _ _ _ _ (rho id);rw[hg];have FW:xs.length=es.length*tj.size:=k3.1;have mJ:∀(j:Nat) u,xs[j]?=some u->R.toList[j]?=some u:=fun j u G=>by
       rw[<-Hv]at G;rw[cB]at G;split at G
       ·exact G
       cases G
      have BC:=fun j=>j7 R.toList (a.eval y).cells.toList (i*tj.size+off) j (by rw[N];simp;omega);have IB:=fun j=>b8 (a.eval y).cells.toList xs (i*tj.size+off) j (by rw[N,FW];omega);refine⟨tj,setCells xs (i*tj.size+off) (a.eval y).cells.toList,pf,k2,⟨by rw[bL,FW,aF],.inr ⟨g,c,_,by rw[aF],bd _,setRow_heap w g R _ e (0,0) k8,by rw[aF];exact k9,Kj,?_,?_⟩⟩,?_,?_,?_⟩
      ·simp only[lV,bZ,cu,nI,gx];rw[Fv]at *;simp at N;omega
      ·apply fj;intro j;rw[cB];simp only[aF];split
       ·rename_i G;rw[BC,IB];split
        ·rfl
        rw[<-Hv,gY G]
       rename_i G;rw[dI];rw[bL,FW];omega
      ·intro q Az;rcases cw Az with h | h
       ·exact k4 q h
       rw[h,bL];exact nP
      ·intro u W;obtain⟨j,G⟩:=cf.1 W;rw[IB]at G;split at G
       ·exact ga u (aj G)
       exact k5 u (aj G)
      intro a' q j z kY hz;have Fw:q.length=tj.size:=by
       rcases cw (aj kY) with h | h
       ·exact k4 q h
       rw[h,bL];exact nP
      have kX:=ah hz;rw[IB];by_cases Dt:a'=i
      ·subst Dt;rw[aP hi]at kY;injection kY with kY;subst kY;rw[b8 _ _ _ _ (by omega)]at hz;split at hz
       ·rename_i iR;rw[ae (by omega),show a'*tj.size+j-(a'*tj.size+off)=j-off by omega];obtain⟨u,W⟩:=fJ ND.symm (ah hz);exact⟨u,by simpa using W,(dN _ z u hz W).mono T.hS T.keep⟩
       rename_i iR;rw[af (by omega)];obtain⟨u,W,jb⟩:=k6 _ _ _ _ hr hz;exact⟨u,W,jb.mono T.hS T.keep⟩
      rw[bw (fun e=>Dt e.symm)]at kY;have bO:¬(i*tj.size+off<=a'*tj.size+j/\a'*tj.size+j<i*tj.size+off+(a.eval y).cells.toList.length):=by
       rintro⟨h1,h2⟩;rcases lW Dt with h | h
       ·have:=ba tj.size (dy h);rw[bR]at this;omega
       have:=ba tj.size (dy h);rw[bR]at this;omega
      rw[af bO];obtain⟨u,W,jb⟩:=k6 _ _ _ _ kY hz;exact⟨u,W,jb.mono T.hS T.keep⟩
     have:=cF.value o.dst hd .junk undef (.junk _);simp only[bJ,app];exact this
    exact m.elim
   exact m.elim
  ·rename_i e es ai;obtain⟨hL,g,n,c,tj,hg,pf,hv⟩:=hx.lZ ai;obtain⟨r,hr,m⟩:=m;split at m
   ·exact m.elim
   split at m
   ·rename_i Z;simp only[aw]at Z;obtain⟨⟨e1,O⟩,e3⟩:=Z;have e1:=gi e1;have O:=dC O;have h1:=iv I e3 hy;have N:=cells_one h1;obtain⟨R,mJ,hsz,cF⟩:=I.Nz hC hL ai hg pf hr e1 h1 hy;have D:=ja (w:=w) dr g (i*tj.size+off) e R (a.eval y) mJ (by rw[N,O];rfl) (by omega) (by rw[N];simpa using h1);rw[N]at D;refine jx (hY aq (by rw[hv];exact D)) (J _ _ _ S rho _ _ m ?_);exact cF.value o.dst hd .junk undef (.junk _)
   exact m.elim
  exact m.elim
 ·rename_i id Dw;rw[Dw]at hx;split at m
  ·rename_i c0 ty c Y nU;obtain⟨hL,hv⟩:=hx.bu (by rw[Y];trivial);split at m
   ·rename_i Z;simp only[aw]at Z;obtain⟨O,e3⟩:=Z;have O:=dC O;have h1:=iv I e3 hy;have N:=cells_one h1;have hh:=I.hp id hL;rw[Y]at hh;obtain⟨g,off,u,U,k2,k3,k4,k5⟩:=hh;have D:=ja (w:=w) dr g off ty _ (a.eval y) k3 (by rw[N,O];rfl) (by rw[qK];omega) (by rw[N];simpa using h1);rw[N,Du k2]at D;refine jx (hY aq (by rw[hv,U];exact D)) (J _ _ _ S rho _ _ m ?_);have cF:=I.write hC id hL (by rw[Y];trivial) (.cell c0 ty (ev s.t y)) (fun _ h=>by cases h) (w.setRow g (c0.setIfInBounds off (a.eval y))) (by simp) (by simp) (by simp) (by simp) (fun k hk=>setRow_other w g k _ fun e=>hk (by rw[U,e];rfl)) fun T=>
     ⟨g,off,a.eval y,U,k2,setRow_heap w g _ _ ty (0,0) k3,h1,hy.bA T⟩
    exact cF.value o.dst hd .junk undef (.junk _)
   exact m.elim
  exact m.elim
 exact m.elim
end Go.AM
namespace Go.AM
open Go.RowKit
variable {A:jR}
theorem IC{o:Oper}(c:Call)(Z:o.op=.call c)(hc:c.callee=.builtin .len):eD A o:=by
 intro V L S rho s a w K next Q hC D hV hd u _ z
 obtain⟨callee,args,argTypes⟩:=c;simp only at hc;subst hc;simp only[aZ,Z,dk,dK]at u;split at u
 ·rename_i x t N Dy;have G:=aH D x fun j hj=>hV j (by simp[Z,Op.operands,Call.operands,hj];rw[<-hj];exact bD.1 (by rw[N];simp));have e1:args=#[x]:=by rw[<-fm (xs:=args),N]
  have e2:argTypes=#[t]:=by rw[<-fm (xs:=argTypes),Dy]
  subst e1 e2;split at u
  ·rename_i size bytes zero eq hT;have O:=(hC.eL t _ hT).under;simp only at O;split at u
   ·rename_i st wL;rw[wL]at G;exact ar D hd z u (.p _ _ (.im _)) (by simp[execOp,Z,resolve,invoke,builtin,G.bc,Builtin.len_,run_underlying O,goInt])
   exact u.elim
  ·rename_i e size bytes zero eq hT;have O:=(hC.eL t _ hT).under;simp only at O;have fin:∀(es:List (List PV)) U c,K (.p (.im (.int .i64 es.length))) [] none->a.eval x=.slice U es.length c->o.wp A.C.P a w next Q:=fun es U c u he=>
    ar D hd z u (.p _ _ (.im _)) (by simp[execOp,Z,resolve,invoke,builtin,he,Builtin.len_,run_underlying O,goInt])
   split at u
   ·rename_i m I;unfold hlen at I;split at I
    ·rename_i id W;rw[W]at G;split at I
     ·rename_i e' es ai;injection I with I;subst I;obtain⟨hL,J⟩:=G.bu (by rw[ai];trivial);have R:=D.hp id hL;rw[ai]at R;obtain⟨⟨i,xs,_,_,h3,_⟩,_⟩:=R;obtain⟨U,c,NF⟩:∃U c,rho id=.slice U es.length c:=by
       rcases h3.2 with⟨Y,h5⟩ | ⟨g,cap,cur,Y,_⟩
       ·exact⟨none,0,by rw[Y,h5]⟩
       exact⟨_,cap,Y⟩
      exact ar D hd z u (.p _ _ (.im _)) (by simp[execOp,Z,resolve,invoke,builtin,J,NF,Builtin.len_,run_underlying O,goInt])
     cases I
    ·rename_i id lo hi W;rw[W]at G;split at I
     ·rename_i e' es ai;injection I with I;subst I;obtain⟨_,n,cp,U,Ny,_,_,_,_,_,hval⟩:=G.rJ ai;exact ar D hd z u (.p _ _ (.im _)) (by simp[execOp,Z,resolve,invoke,builtin,hval,Builtin.len_,run_underlying O,goInt])
     cases I
    cases I
   unfold dV at u;split at u
   ·rename_i es W;rw[W]at G;obtain⟨U,c,J,_⟩:=G.cb.j5;exact fin es U c u J
   ·rename_i W;rw[W]at G;have:a.eval x=.slice none 0 0:=by cases h:a.eval x<;>rw[h]at G<;>cases G;rfl
    exact fin [] none 0 u this
   ·rename_i id W;rw[W]at G;split at u
    ·rename_i e' es ai;obtain⟨hL,J⟩:=G.bu (by rw[ai];trivial);have R:=D.hp id hL;rw[ai]at R;obtain⟨i,xs,_,_,h3,_⟩:=R;rcases h3.2 with⟨Y,h5⟩ | ⟨g,cap,cur,Y,_⟩
     ·exact fin es none 0 u (by rw[J,Y,h5])
     exact fin es _ cap u (by rw[J,Y])
    ·rename_i es ai;obtain⟨hL,J⟩:=G.bu (by rw[ai];trivial);have R:=D.hp id hL;rw[ai]at R;obtain⟨U,c,Y,_⟩:=ay.j5 R;exact fin es U c u (by rw[J,Y])
    exact u.elim
   exact u.elim
  ·rename_i kt et size bytes zero eq hT;have O:=(hC.eL t _ hT).under;simp only at O;split at u
   ·rename_i id hid;split at u
    case h_2=>exact u.elim
    rename_i mk es I;rw[hid]at G;obtain⟨hL,J⟩:=G.bu (by rw[I];trivial);have R:=D.hp id hL;rw[I]at R;obtain⟨g,ms,clock,h1,h2,h3,_⟩:=R;exact ar D hd z u (.p _ _ (.im _)) (by simp[execOp,Z,resolve,invoke,builtin,J,h1,Builtin.len_,run_underlying O,lX h2,h3,goInt])
   ·rename_i mk es hid;rw[hid]at G;obtain⟨g,ms,clock,J,_,h2,h3⟩:=G.cb.yt;exact ar D hd z u (.p _ _ (.im _)) (by simp[execOp,Z,resolve,invoke,builtin,J,Builtin.len_,run_underlying O,lX h2,h3.1,goInt])
   exact u.elim
  exact u.elim
 exact u.elim
theorem ID{o:Oper}(c:Call)(J:o.op=.call c)(N:c.callee=.builtin .min):eD A o:=by
 intro V L S rho s a w K next Q hC z O W G _ D
 obtain⟨callee,args,argTypes⟩:=c;simp only at N;subst N;simp only[aZ,J,dk,dK]at G;split at G
 ·rename_i x y u;have R:=aH z x fun j I=>O j (by simp[J,Op.operands,Call.operands,I];rw[<-I];exact bD.1 (by rw[u];simp));have U:=aH z y fun j I=>O j (by simp[J,Op.operands,Call.operands,I];rw[<-I];exact bD.1 (by rw[u];simp));have Y:args=#[x,y]:=by rw[<-fm (xs:=args),u]
  subst Y;split at G
  ·rename_i k m k' n Z h2;rw[Z]at R;rw[h2]at U;exact ar z W D G (.p _ _ (.im _)) (by
    simp[execOp,J,resolve,invoke,builtin,R.bc,U.bc,Builtin.min_,Builtin.min2];rw[Int.min_def];split<;>split<;>omega)
  exact G.elim
 exact G.elim
theorem wW{P:Program}{w:World}(k z:IntKind)(m n:Int):(Builtin.max2 (.int k m) (.int z n)).run P w=.ok (.int k (max m n)) w:=by
 simp only[Builtin.max2,ct];rw[Int.max_def];by_cases h:n>m
 ·rw[ae h,ae (by omega)]
 rw[af h];by_cases u:m<=n
 ·rw[ae u,show m=n by omega]
 rw[af u]
theorem IE{o:Oper}(c:Call)(N:o.op=.call c)(hc:c.callee=.builtin .max):eD A o:=by
 intro V L S rho s a w K next Q hC I R hd O _ J
 obtain⟨callee,args,argTypes⟩:=c;simp only at hc;subst hc;simp only[aZ,N,dk,dK]at O;split at O
 ·rename_i x y D;have U:=aH I x fun j G=>R j (by simp[N,Op.operands,Call.operands,G];rw[<-G];exact bD.1 (by rw[D];simp));have W:=aH I y fun j G=>R j (by simp[N,Op.operands,Call.operands,G];rw[<-G];exact bD.1 (by rw[D];simp));have Y:args=#[x,y]:=by rw[<-fm (xs:=args),D]
  subst Y;split at O
  ·rename_i k m k' n h1 h2;rw[h1]at U;rw[h2]at W;exact ar I hd J O (.p _ _ (.im _)) (by
    simp[execOp,N,resolve,invoke,builtin,U.bc,W.bc,Builtin.max_,Builtin.max2];rw[Int.max_def];split<;>split<;>omega)
  exact O.elim
 ·rename_i x y z D;have U:=aH I x fun j G=>R j (by simp[N,Op.operands,Call.operands,G];rw[<-G];exact bD.1 (by rw[D];simp));have W:=aH I y fun j G=>R j (by simp[N,Op.operands,Call.operands,G];rw[<-G];exact bD.1 (by rw[D];simp));have Z:=aH I z fun j G=>R j (by simp[N,Op.operands,Call.operands,G];rw[<-G];exact bD.1 (by rw[D];simp));have Y:args=#[x,y,z]:=by rw[<-fm (xs:=args),D]
  subst Y;split at O
  ·rename_i k0 m0 k1 m1 k2 m2 g0 g1 g2;rw[g0]at U;rw[g1]at W;rw[g2]at Z;exact ar I hd J O (.p _ _ (.im _)) (by
    simp[execOp,N,resolve,invoke,builtin,U.bc,W.bc,Z.bc,Builtin.max_,wW])
  exact O.elim
 ·rename_i x y z u v D;have U:=aH I x fun j G=>R j (by simp[N,Op.operands,Call.operands,G];rw[<-G];exact bD.1 (by rw[D];simp));have W:=aH I y fun j G=>R j (by simp[N,Op.operands,Call.operands,G];rw[<-G];exact bD.1 (by rw[D];simp));have Z:=aH I z fun j G=>R j (by simp[N,Op.operands,Call.operands,G];rw[<-G];exact bD.1 (by rw[D];simp));have hu:=aH I u fun j G=>R j (by simp[N,Op.operands,Call.operands,G];rw[<-G];exact bD.1 (by rw[D];simp));have hv:=aH I v fun j G=>R j (by simp[N,Op.operands,Call.operands,G];rw[<-G];exact bD.1 (by rw[D];simp));have Y:args=#[x,y,z,u,v]:=by rw[<-fm (xs:=args),D]
  subst Y;split at O
  ·rename_i k0 m0 k1 m1 k2 m2 k3 m3 k4 m4 g0 g1 g2 g3 g4;rw[g0]at U;rw[g1]at W;rw[g2]at Z;rw[g3]at hu;rw[g4]at hv;exact ar I hd J O (.p _ _ (.im _)) (by
    simp[execOp,N,resolve,invoke,builtin,U.bc,W.bc,Z.bc,hu.bc,hv.bc,Builtin.max_,wW])
  exact O.elim
 exact O.elim
variable {V L:Nat->Prop} {rho:Nat->Value} {s:AS}
theorem tM{o:Oper}{S:Nat->Prop}{a:Act}{w:World}{K:KK}{next:Act->World->Prop}{Q:Exit->Act->World->Prop}{fz:List (Nat×AB)}(u:aU A V L S rho ⟨s.t,app s.h fz⟩ a w)(D:∀d,o.dst=some d->d<A.n)
  (m:∀v eff new S' rho' z w',K v eff new->aU A (mG V o.dst) (nR L new (o.dst.getD 0)) S' rho' ⟨cU s.t o.dst v,app s.h eff⟩ z w'->next z w') {x:AV} {v:Value} (G:K x fz none) (I:aE S w A.C.P L rho (app s.h fz) x v)
  (J:(execOp a.eval o).run A.C.P w=.ok (.value v) w):o.wp A.C.P a w next Q:=
 bS J (m _ _ _ _ _ _ _ G (u.value o.dst D x v I))
theorem ay.FY{S:Nat->Prop}{w:World}{es:List (List PV)}{z:Option Addr}{c l h sz:Nat}(hx:ay S w (.sl es) (.slice z es.length c))(hl:l<=h)(O:h<=es.length)(hc:es.length<=c)
  (hk:∀b off k,z=some ⟨b,off,none⟩->(∀e∈es,e.length=k)->l<h->k=sz):ay S w (.sl ((es.take h).drop l)) (.slice (if c=l then z else z.map (·.add (l*sz))) (h-l) (c-l)):=by
 have hlen:((es.take h).drop l).length=h-l:=by simp;omega
 by_cases G:h-l=0
 ·have:(es.take h).drop l=[]:=cW (by omega);rw[this,G];exact .nil _ _
 obtain⟨Sq,c',hv,hle,bO⟩:=hx.j5;injection hv with e1 e2 e3;subst e1 e3;obtain⟨b,off,k,R,hb,U,m⟩:=bO (by intro e;rw[e]at O;simp at O;omega);have W:=hk b off k R U (by omega);subst R;rw[af (by omega)];show ay S w _ (.slice (some (Addr.add ⟨b,off,none⟩ (l*sz))) (h-l) (c-l));rw[gW,<-hlen];have Y:∀(i:Nat) e,((es.take h).drop l)[i]?=some e->es[l+i]?=some e:=by
  intro i e D;rw[fh,cB]at D;split at D
  ·exact D
  cases D
 refine .sl _ k b (off+l*sz) _ (fun i j=>(w.cell? ⟨b,off+l*sz+i*k+j,none⟩).getD undef) (by rw[hlen];omega) hb (fun e G=>U e (nH (qH G))) (fun i e j x I J=>?_) fun i e j x I J=>?_
 ·obtain⟨u,N,Z,h5⟩:=m _ e j x (Y i e I) J;have:off+l*sz+i*k+j=off+(l+i)*k+j:=by rw[<-W,jT];omega
  rw[this,N];exact⟨rfl,Z⟩
 obtain⟨u,N,Z,h5⟩:=m _ e j x (Y i e I) J;have:off+l*sz+i*k+j=off+(l+i)*k+j:=by rw[<-W,jT];omega
 rw[this,N];exact h5
theorem ep{P:Program}{w:World}(k:IntKind)(i:Int)(y:Nat)(m:BoundsCode)(h:0<=i/\i<=y):(Instr.sliceBound (.int k i) y m).run P w=.ok i.toNat w:=by
 simp[Instr.sliceBound,asIntOf,h.1,h.2]
theorem rL{S:Nat->Prop}{a:Act}{w:World}(_:aU A V L S rho s a w)(D I:Option Operand)(KZ:∀y,D=some y->aE S w A.C.P L rho s.h (ev s.t y) (a.eval y))(K0:∀y,I=some y->aE S w A.C.P L rho s.h (ev s.t y) (a.eval y)):
  ∀(u:Bool) (len z:Nat) (k:IntKind) (m:Int) (J:IntKind) (n:Int),len<=z->(match D with | some y=>ev s.t y | none=>.p (.im (.int .i64 0)))=.p (.im (.int k m))->(match I with | some y=>ev s.t y | none=>.p (.im (.int .i64 len)))=.p (.im (.int J n))->0<=m->m<=n->n<=len ->
   (Instr.sliceBounds u len z (D.map a.eval) (I.map a.eval) none).run A.C.P w=.ok (m.toNat,n.toNat,z) w:=by
  intro u len z k m J n Sr N U Z h4 h5;have R:∀y,I=some y->a.eval y=.int J n:=fun y O=>by
   have:=K0 y O;subst O;rw[show ev s.t y=_ from U]at this;exact this.bc
  have G:∀y,D=some y->a.eval y=.int k m:=fun y O=>by
   have:=KZ y O;subst O;rw[show ev s.t y=_ from N]at this;exact this.bc
  have nb:((n.toNat:Nat):Int)=n:=by omega
  cases I with
  | some yh=>
   have R:=R yh rfl;cases D with
   | some W=>
    have G:=G W rfl;cases u<;>simp[Instr.sliceBounds,G,R,ep J n z _ ⟨by omega,by omega⟩,ep k m n.toNat _ ⟨Z,by omega⟩]
   | none=>
    have Y:m=0:=by simp at N;exact N.2.symm
    subst Y;cases u<;>simp[Instr.sliceBounds,R,ep J n z _ ⟨by omega,by omega⟩]
  | none=>
   have nG:n=len:=by simp at U;exact U.2.symm
   subst nG;cases D with
   | some W=>
    have G:=G W rfl;cases u<;>simp[Instr.sliceBounds,G,ep k m len _ ⟨Z,by omega⟩]
   | none=>
    have Y:m=0:=by simp at N;exact N.2.symm
    subst Y;cases u<;>simp[Instr.sliceBounds]
theorem BI{o:Oper}(t:TypeId)(x:Operand)(O R:Option Operand)(U:o.op=.slice t x O R none){S:Nat->Prop}{a:Act}{w:World}{K:KK}{next:Act->World->Prop}{Q:Exit->Act->World->Prop}(hC:aL A.C)(D:aU A V L S rho s a w)
  (hV:∀j,(.tmp j)∈o.op.operands->V j) (hd:∀d,o.dst=some d->d<A.n) (u:ef A.C (ev s.t) s.h t x O R K)
  (G:∀v eff new S' rho' a' w',K v eff new->aU A (mG V o.dst) (nR L new (o.dst.getD 0)) S' rho' ⟨cU s.t o.dst v,app s.h eff⟩ a' w'->next a' w'):o.wp A.C.P a w next Q:=by
 simp only[ef]at u;have hx:=aH D x fun j W=>hV j (by simp[U,Op.operands,W]);have KZ:∀y,O=some y->aE S w A.C.P L rho s.h (ev s.t y) (a.eval y):=fun y hy=>aH D y fun j W=>hV j (by simp[U,Op.operands,W,hy]);have K0:∀y,R=some y->aE S w A.C.P L rho s.h (ev s.t y) (a.eval y):=fun y hy=>aH D y fun j W=>hV j (by simp[U,Op.operands,W,hy]);have z:∀(I:Bool) (len N:Nat) (k:IntKind) (m:Int) (Y:IntKind) (n:Int),len<=N->(match O with | some y=>ev s.t y | none=>.p (.im (.int .i64 0)))=.p (.im (.int k m))->(match R with | some y=>ev s.t y | none=>.p (.im (.int .i64 len)))=.p (.im (.int Y n))->0<=m->m<=n->n<=len ->
   (Instr.sliceBounds I len N (O.map a.eval) (R.map a.eval) none).run A.C.P w=.ok (m.toNat,n.toNat,N) w:=by
  exact rL D O R KZ K0
 split at u
 ·rename_i size bytes zero eq hT;have Z:=(hC.eL t _ hT).under;simp only at Z;split at u
  ·rename_i st wL;rw[wL]at hx;split at u
   ·rename_i k m Y n h1 h2;obtain⟨⟨h3,h4,h5⟩,u⟩:=u;have hb:=z false st.size st.size k m Y n (aC _) h1 h2 h3 h4 h5;exact ar D hd G u (.p _ _ (.im _)) (by simp[execOp,U,Instr.sliceAt,Instr.slice,hx.bc,run_underlying Z,hb])
   exact u.elim
  exact u.elim
 ·rename_i e size bytes zero eq hT;have Z:=(hC.eL t _ hT).under;simp only at Z;split at u
  ·exact u.elim
  rename_i te nf;obtain⟨ie,ze,hX,qT,_⟩:=(hC.eL e te nf).info;obtain⟨y,fz,S2,u,aJ,J,nX,hF,wU⟩:=e8 hC D (kM.refl s.h) hx u;split at u
  ·rename_i es;split at u
   ·rename_i k m Y n h1 h2;obtain⟨⟨h3,h4,h5,h6⟩,u⟩:=u;obtain⟨ad,c,hv,hle,_⟩:=J.j5;have hb:=z true es.length c k m Y n hle h1 h2 h3 h4 h5;rw[hv]at J;refine tM aJ hd G u (.p _ _ (J.FY (sz:=te.size) (l:=m.toNat) (h:=n.toNat) (by omega) (by omega) hle fun b off kk Kk iS dv=>?_)) ?_
    ·have hpos:0<es.length:=by omega
     have hm:es[0]∈es:=uW _;rw[<-iS _ hm,h6 _ hm]
    simp[execOp,U,Instr.sliceAt,Instr.slice,hv,run_underlying Z,hb,Go.sizeOf,typeInfo,hX,qT]
   exact u.elim
  exact u.elim
 exact u.elim
structure Flat(S:Nat->Prop)(w:World)(k:Nat)(es:List (List PV))(xs:List Value):Prop where
 len:xs.length=es.length*k
 row:∀r∈es,r.length=k
 one:∀u∈xs,u.oneCell'=true
 rep:∀(i:Nat) r (j:Nat) x,es[i]?=some r->r[j]?=some x->∃u,xs[i*k+j]?=some u/\ay S w x u
variable {k:Nat} {xs:List Value}
theorem Flat.mono{S S':Nat->Prop}{w w':World}{es:List (List PV)}(h:Flat S w k es xs)(hS:∀b,S b->S' b)(m:∀b,S b->w'.heap[b]?=w.heap[b]?):Flat S' w' k es xs:=
 ⟨h.len,h.row,h.one,fun i r j x z D=>by obtain⟨u,G,I⟩:=h.rep i r j x z D;exact⟨u,G,I.mono hS m⟩⟩
theorem Flat.app{S:Nat->Prop}{w:World}{es fs:List (List PV)}{ys:List Value}(h:Flat S w k es xs)(g:Flat S w k fs ys):Flat S w k (es++fs) (xs++ys):=by
 refine⟨by rw[bZ,bZ,h.len,g.len,jT],fun r I=>(cX.1 I).elim (h.row r) (g.row r),fun u J=>(cX.1 J).elim (h.one u) (g.one u),fun i r j x z G=>?_⟩;by_cases N:i<es.length
 ·rw[bQ N]at z;obtain⟨u,m,D⟩:=h.rep i r j x z G;exact⟨u,by rw[bQ (ah m)];exact m,D⟩
 rw[bY (by omega)]at z;obtain⟨u,m,D⟩:=g.rep _ r j x z G;refine⟨u,?_,D⟩;have hm:es.length*k<=i*k:=ba _ (by omega);rw[bY (by rw[h.len];omega),h.len];rw[qL]at m;rw[<-m];congr 1;omega
theorem Flat.set{S:Nat->Prop}{w:World}{es:List (List PV)}(h:Flat S w k es xs)(i:Nat)(N:i<es.length)(ys:List PV)(D:List Value)(R:ys.length=k)(U:D.length=k)(W:∀u∈D,u.oneCell'=true)(G:∀(j:Nat) y u,ys[j]?=some y->D[j]?=some u->ay S w y u):
  Flat S w k (es.set i ys) (setCells xs (i*k) D):=by
 have hb:i*k+k<=xs.length:=by rw[h.len,<-bR];exact ba _ N
 have O:=fun j=>b8 D xs (i*k) j (by rw[U];exact hb);refine⟨by rw[bL,aF,h.len],fun r G=>?_,fun u Y=>?_,fun a r j x z m=>?_⟩
 ·rcases cw G with h' | h'
  ·exact h.row r h'
  rw[h'];exact R
 ·obtain⟨j,m⟩:=cf.1 Y;rw[O]at m;split at m
  ·exact W u (aj m)
  exact h.one u (aj m)
 have kX:=ah m;rw[O];by_cases I:a=i
 ·subst I;rw[aP N]at z;injection z with z;subst z;rw[ae (by omega),show a*k+j-a*k=j by omega];have:j<D.length:=by omega
  exact⟨_,aM this,G j x _ m (aM this)⟩
 rw[bw (fun e=>I e.symm)]at z;have nP:=h.row r (aj z);rw[af]
 ·exact h.rep a r j x z m
 rintro⟨h2,h3⟩;rcases lW I with J | J
 ·have:=ba k (dy J);rw[bR]at this;omega
 have:=ba k (dy J);rw[bR]at this;omega
theorem Flat.zero(D:Bool)(S:Nat->Prop)(w:World){P:Program}{t:TypeId}{ti:TI}(h:jw P t ti)(O:0<ti.size)(n:Nat):Flat S w ti.size (List.replicate n (ti.zero.map (Kc D))) ((Array.range (n*ti.size)).map (ti.zero.toArray[· % ti.zero.toArray.size]!)).toList:=by
 have z:=h.Dk;obtain⟨_,_,_,_,_,_,_,R⟩:=h.info;have J:∀j,j<n*ti.size->((Array.range (n*ti.size)).map (ti.zero.toArray[· % ti.zero.toArray.size]!)).toList[j]?=ti.zero[j % ti.size]?:=by
  intro j m;have U:j % ti.size<ti.zero.length:=by rw[z];exact nK _ O
  simp[m,z];rw[aM U];rfl
 refine⟨by simp,fun r G=>by rw[qM G,aB,z],fun u W=>?_,fun i r j x N m=>?_⟩
 ·obtain⟨j,m⟩:=cf.1 W;have I:=ah m;rw[J j (by simpa using I)]at m;exact R u (aj m)
 have Y:i<n:=by have:=ah N;simpa using this
 have G:r=ti.zero.map (Kc D):=qM (aj N);subst G;have I:j<ti.size:=by have:=ah m;rw[aB,z]at this;exact this
 rw[ao]at m;obtain⟨v,Z,rfl⟩:=az.1 m;have hb:i*ti.size+j<n*ti.size:=by
  have:=ba ti.size (dy Y);rw[bR]at this;omega
 refine⟨v,?_,Au D S w v⟩;rw[J _ hb,Nat.mul_comm,Nat.mul_add_mod,Nat.mod_eq_of_lt I];exact Z
variable {e:TypeId}
theorem an.of_flat{P:Program}{S:Nat->Prop}{w:World}{i:TypeInfo}{es:List (List PV)}{v:Value}(u:P.info? e=some i)(z:0<i.size)(D:w.ownsRow 0 e i.size v es.length xs)(m:Flat S w i.size es xs):an P w (ay S w) e es v:=
 ⟨i,xs,u,z,D,m.row,m.one,m.rep⟩
theorem an.flat{P:Program}{S:Nat->Prop}{w:World}{i:TypeInfo}{es:List (List PV)}{v:Value}(z:P.info? e=some i)(h:an P w (ay S w) e es v):∃xs,0<i.size/\w.ownsRow 0 e i.size v es.length xs/\Flat S w i.size es xs:=by
 obtain⟨i',xs,m,D,u,G,I,J⟩:=h;rw[z]at m;injection m with m;subst m;exact⟨xs,D,u,⟨u.1,G,I,J⟩⟩
theorem ay.flat{S:Nat->Prop}{w:World}{es:List (List PV)}{v:Value}(hx:ay S w (.sl es) v)(O:∀r∈es,r.length=k):∃R c xs,v=.slice R es.length c/\Flat S w k es xs/\(es≠[]->∃b off,R=some ⟨b,off,none⟩/\∀(j:Nat) u,xs[j]?=some u->w.cell? ⟨b,off+j,none⟩=some u):=by
 obtain⟨R,c,Y,hle,bO⟩:=hx.j5;by_cases U:es=[]
 ·subst U;exact⟨R,c,[],Y,⟨by simp,by simp,by simp,by simp⟩,fun h=>absurd rfl h⟩
 obtain⟨b,off,m,rfl,hb,Dz,z⟩:=bO U;have IF:m=k:=by
  obtain⟨r,W⟩:=Al _ U;rw[<-Dz r W,O r W]
 subst IF;have key:∀q,q<es.length*m->∃u,w.cell? ⟨b,off+q,none⟩=some u/\u.oneCell'=true:=by
  intro q I;have Z:0<m:=Nat.pos_of_ne_zero fun h=>by rw[h]at I;simp at I
  have hi:q / m < es.length:=(Nat.div_lt_iff_lt_mul Z).2 I;have J:q % m < m:=nK _ Z;have W:=O _ (uW hi);obtain⟨u,D,G,_⟩:=z (q / m) _ (q % m) _ (aM hi) (aM (by omega));refine⟨u,?_,G⟩;rw[<-D];congr 2;have:=Nat.div_add_mod q m;rw[Nat.mul_comm]at this;omega
 refine⟨_,c,(List.range (es.length*m)).map fun q=>(w.cell? ⟨b,off+q,none⟩).getD undef,Y,⟨by simp,O,fun u hu=>?_,fun i r j x D G=>?_⟩,fun _=>⟨b,off,rfl,fun j u J=>?_⟩⟩
 ·simp at hu;obtain⟨q,I,rfl⟩:=hu;obtain⟨u,D,G⟩:=key q I;rw[D];exact G
 ·obtain⟨u,h3,h4,h5⟩:=z i r j x D G;refine⟨u,?_,h5⟩;have IG:=ah D;have N:=ah G;rw[O r (aj D)]at N;have o9:i*m+j<es.length*m:=by
   have:=ba m (dy IG);rw[bR]at this;omega
  rw[ao,fG o9];simp only[eM];rw[<-gv,h3];rfl
 have N:=ah J;simp at N;rw[ao,fG N]at J;obtain⟨u',D,_⟩:=key j N;simp[D]at J;rw[D,J]
def Src(S:Nat->Prop)(w:World)(es:List (List PV))(v:Value):Prop:=
 ∀k,(∀r∈es,r.length=k)->∃ad c xs,v=.slice ad es.length c/\Flat S w k es xs/\(es≠[]->∃b off,ad=some ⟨b,off,none⟩/\∀(j:Nat) u,xs[j]?=some u->w.cell? ⟨b,off+j,none⟩=some u)
theorem an.src{P:Program}{S:Nat->Prop}{w:World}{es:List (List PV)}{v:Value}(h:an P w (ay S w) e es v):Src S w es v:=by
 intro k O;obtain⟨i,xs,h1,h2,z,I,R,U⟩:=h;by_cases D:es=[]
 ·subst D;rcases z.2 with⟨rfl,_⟩ | ⟨g,m,G,rfl,_⟩
  ·exact⟨none,0,[],rfl,⟨by simp,by simp,by simp,by simp⟩,fun h=>absurd rfl h⟩
  exact⟨_,m,[],rfl,⟨by simp,by simp,by simp,by simp⟩,fun h=>absurd rfl h⟩
 have W:k=i.size:=by
  obtain⟨r,J⟩:=Al _ D;rw[<-O r J,I r J]
 subst W;rcases z.2 with⟨_,Y⟩ | ⟨g,m,G,N,_⟩
 ·exact absurd (cW Y) D
 refine⟨_,m,xs,N,⟨z.1,I,R,U⟩,fun _=>⟨g,0,rfl,fun j u Z=>?_⟩⟩;have:=z.cells (g:=g) (by rw[N];rfl) j u Z;rw[gW]at this;exact this
theorem yI{S:Nat->Prop}{a:Act}{w:World}(u:aU A V L S rho s a w){x:AV}{v:Value}(D:aE S w A.C.P L rho s.h x v){K:List (List PV)->Prop}(m:dV s.h x K):∃es,K es/\Src S w es v:=by
 unfold dV at m;split at m
 ·exact⟨_,m,fun k G=>D.cb.flat G⟩
 ·have:v=.slice none 0 0:=by cases D;rfl
  exact⟨[],m,fun k G=>⟨none,0,[],this,⟨by simp,by simp,by simp,by simp⟩,fun h=>absurd rfl h⟩⟩
 ·rename_i id;split at m
  ·rename_i e es ai;obtain⟨I,J⟩:=D.bu (by rw[ai];trivial);have z:=u.hp id I;rw[ai]at z;exact⟨es,m,by rw[J];exact an.src z⟩
  ·rename_i es ai;obtain⟨I,J⟩:=D.bu (by rw[ai];trivial);have z:=u.hp id I;rw[ai]at z;exact⟨es,m,by rw[J];exact fun k G=>ay.flat z G⟩
  exact m.elim
 exact m.elim
theorem jn{P:Program}(w:World)(t W e:TypeId)(i:TypeInfo)(z:Value)(O:P.underlying t=some (.slice e))(R:P.info? e=some i)(hz:i.zero=some z)(NG:z.cells.size=i.size)(hsz:0<i.size)
  (v:Value) (n:Nat) (xs:List Value) (hown:w.ownsRow 0 e i.size v n xs) (Y:Option Addr) (m c:Nat) (D:List Value) (hl:D.length=m*i.size)
  (J:m≠0->∃b off,Y=some ⟨b,off,none⟩/\∀(j:Nat) u,D[j]?=some u->w.cell? ⟨b,off+j,none⟩=some u) (h1:∀u∈D,u.oneCell'=true) (MV:n+m<=maxLen) (yJ:(n+m)*i.bytes<=140737488355328):
  ∃U w',(Builtin.append_ #[t,t] W #[v,.slice Y m c]).run P w=.ok U w'/\w'.ownsRow 0 e i.size U (n+m) (xs++D)/\w.grownBy w' v.ownBlock/\(U.ownBlock=v.ownBlock\/U.ownBlock=some w.heap.size):=by
 by_cases hm:m=0
 ·subst hm;have hn:D=[]:=cW (by simpa using hl);subst hn;refine⟨v,w,?_,by simpa using hown,⟨rfl,rfl,rfl,aC _,fun _ _ _=>rfl⟩,.inl rfl⟩;have hf:(Builtin.firstCells i.size 0 (.slice Y 0 c)).run P w=.ok #[] w:=by cases Y<;>simp[Builtin.firstCells,loadCells,loadCellsFrom]
  rcases hown.2 with⟨rfl,rfl⟩ | ⟨g,I,N,rfl,_,_,Ki,_⟩
  ·simp[Builtin.append_,run_underlying O,sizeOf,typeInfo,R,Builtin.lenOf,hf]
  simp[Builtin.append_,run_underlying O,sizeOf,typeInfo,R,Builtin.lenOf,Ki,hf,storeCells]
 obtain⟨b,off,rfl,hc⟩:=J hm;have Z:∀(j:Nat) u,D[j]?=some u->w.cell? ((⟨b,off,none⟩:Addr).add j)=some u:=fun j u hj=>by rw[gW];exact hc j u hj
 obtain⟨U,w',hr,h2,h3,_⟩:=run_append_own (P:=P) w 0 t W e i z i.size i.bytes O R hz rfl rfl NG hsz v n xs hown ⟨b,off,none⟩ m c D hl Z h1 MV yJ (bd _);refine⟨U,w',hr,h2,h3,?_⟩;have NH:n+m<=9223372036854775807:=by simp only[maxLen]at MV;omega
 rcases hown.2 with⟨rfl,rfl⟩ | ⟨g,I,N,rfl,_,hg,Ki,Ss,js,PI⟩
 ·have G:=run_append_nil (P:=P) w t W e i z O R hz ⟨b,off,none⟩ m c D hl Z (by omega) (by omega) (by have hb:=yJ;simp only[cV]at hb;omega);rw[hr]at G;injection G with G;rw[G];exact .inr rfl
 by_cases Hx:n+m<=I
 ·have NI:n*i.size+D.length<=N.size:=by rw[hl,js,<-jT];exact ba _ Hx
  have G:=run_append_room (P:=P) w t W e i O R g n I N hg ⟨b,off,none⟩ m c D hl Z h1 Hx NI;rw[hr]at G;injection G with G;rw[G];exact .inl rfl
 have G:=run_append_grow (P:=P) w t W e i z O R hz ⟨g,0,none⟩ n I xs hown.1 (hown.cells (g:=g) rfl) ⟨b,off,none⟩ m c D hl Z (by omega) (by omega) (growslice_fits (by omega) yJ);rw[hr]at G;injection G with G;rw[G];exact .inr rfl
theorem cm{v:Value}{a:Option Addr}{n c:Nat}(h:v=.slice a n c):v.ownBlock=bH v:=by
 subst h;cases a<;>rfl
theorem bP{w:World}{base:Nat}{size:Nat}{v:Value}{n:Nat}(h:w.ownsRow base e size v n xs):∃a c,v=.slice a n c:=by
 rcases h.2 with⟨rfl,rfl⟩ | ⟨g,m,cur,rfl,_⟩
 ·exact⟨none,0,rfl⟩
 exact⟨_,m,rfl⟩
theorem gj{w:World}{es:List (List HX)}{v:Value}{W:List Value}(hown:w.ownsRow 0 e k v es.length W)(hk:∀r∈es,r.length=k){g:Nat}(J:bH v=some g){a j:Nat}{u:Value}:
  bI w es g a j u↔∃r e' I,es[a]?=some r/\r[j]?=some (.row e' I)/\W[a*k+j]?=some u:=by
 rcases hown.2 with⟨hn,_⟩ | ⟨g',cap,N,hv,_,Y,k1,k2,k3,Z⟩
 ·rw[hn]at J;cases J
 rw[hv]at J;obtain rfl:=ed.1 J;have PJ:∀{r:List HX} {x:HX},es[a]?=some r->r[j]?=some x->r.length=k/\a*k+j<es.length*k:=fun {r x} D G=>by
  have hr:=hk r (aj D);have z:=ah D;have O:=ah G;have:=ba k (dy z);rw[bR]at this;exact⟨hr,by omega⟩
 constructor
 ·rintro⟨r,e',I,c,ty,m,D,G,z,O⟩;rw[Y]at z;injection z with z;injection z with z;subst z;obtain⟨R,U⟩:=PJ D G;refine⟨r,e',I,D,G,?_⟩;rw[<-Z,gY U];rw[R]at O;simpa using O
 rintro⟨r,e',I,D,G,z⟩;obtain⟨R,U⟩:=PJ D G;refine⟨r,e',I,N,_,_,D,G,Y,?_⟩;rw[<-Z,gY U]at z;rw[R];simpa using z
theorem aU.NJ{S:Nat->Prop}{a:Act}{w:World}(G:aU A V L S rho s a w)(hC:aL A.C){id d:Nat}(eO:L id){xs:List (List HX)}(ai:s.h id=.ai e xs){ys:List (List PV)}{U:TypeInfo}(hX:A.C.P.info? e=some U)
  (hdb:d<100000) (hL:¬L d) (hb:s.h d=.ai e (xs++ys.map o8)) {I:List Value} (tN:Flat S w U.size ys I) {v':Value} {w':World} {ws:List Value} (hown:w.ownsRow 0 e U.size (rho id) xs.length ws) (h2:w'.ownsRow 0 e U.size v' (xs.length+ys.length) (ws++I)) (h3:w.grownBy w' (bH (rho id))) (h4:bH v'=bH (rho id)\/bH v'=some w.heap.size):
  aU A V (fun i=>L i\/i=d) S (ax rho d v') ⟨s.t,ax s.h id .none⟩ a w':=by
 have aN:(s.h id).live:=by rw[ai];trivial
 have DA:id≠d:=fun e=>hL (e▸eO);have hh:=G.hp id eO;rw[ai]at hh;obtain⟨hR,hS⟩:=hh;have K1:=hS.yH hR;obtain⟨i0,DB,k1,k2,k3,k4,k5,k6⟩:=K1;rw[hX]at k1;injection k1 with k1;subst k1;have KY:DB=ws:=by
  rcases k3.2 with⟨m,O⟩ | ⟨g,cap,cur,m,_,R,q4,q5,q6,q7⟩
  ·have a1:DB=[]:=cW (by rw[k3.1,O];simp);have a2:ws=[]:=cW (by rw[hown.1,O];simp);rw[a1,a2]
  rcases hown.2 with⟨r1,_⟩ | ⟨g',NK,Ds,r1,_,r3,r4,r5,r6,r7⟩
  ·rw[r1]at m;cases m
  rw[r1]at m;injection m with m;injection m with m;injection m with m;subst m;rw[R]at r3;injection r3 with r3;injection r3 with r3;subst r3;rw[<-q7,<-r7]
 subst KY;have yK:∀r∈ys.map o8,r.length=U.size:=fun r hr=>by
  obtain⟨q,hq,rfl⟩:=aR.1 hr;rw[o8,aB];exact tN.row q hq
 have nY:∀r∈xs++ys.map o8,r.length=U.size:=fun r hr=>(cX.1 hr).elim (k4 r) (yK r);have wX:w'.ownsRow 0 e U.size v' (xs++ys.map o8).length (DB++I):=by rw[bZ,aB];exact h2
 have F0:DB.length=xs.length*U.size:=k3.1;have cc:∀g' k j u,bH v'=some g'->bI w' (xs++ys.map o8) g' k j u->∃g,bH (rho id)=some g/\bI w xs g k j u:=fun g' k j u eY hc=>by
  obtain⟨r,e',kS,m,O,R⟩:=(gj wX nY eY).1 hc;by_cases W:k<xs.length
  ·rw[bQ W]at m;have kX:=ah O;have nP:=k4 r (aj m);have:=ba U.size (dy W);rw[bR]at this;rw[bQ (by omega)]at R;obtain⟨g,u2,J,Y,_⟩:=hR.rE m O;refine⟨g,J,(gj k3 k4 J).2 ⟨r,e',kS,m,O,R⟩⟩
  rw[bY (by omega),ao]at m;obtain⟨q,_,rfl⟩:=az.1 m;rw[o8,ao]at O;obtain⟨z,_,hz⟩:=az.1 O;cases hz
 have yL:∀g k j u b,bH (rho id)=some g->bI w xs g k j u->bH u=some b->hasB w (s.h id) (rho id) b:=fun g k j u b h1 h5 h6=>by rw[ai];exact .inr (.inr (.inl ⟨_,_,_,_,_,_,rfl,h1,h5,h6⟩))
 have T0:fu S S w w L L rho rho s.h (ax s.h id .none):=⟨fun _ h=>h,fun _ _=>rfl,fun j N=>⟨by
   rcases aD s.h id .none j with⟨rfl,h⟩ | ⟨_,h⟩
   ·rw[h]at N;exact N.elim
   ·rw[h]at N;exact N,fun h=>⟨h,rfl⟩⟩,fun j e' N=>by
   rcases aD s.h id .none j with⟨rfl,h⟩ | ⟨_,h⟩
   ·rw[h]at N;cases N
   rw[h]at N;exact N⟩
 have wY:∀k,k<w.heap.size->bH (rho id)≠some k->w'.heap[k]?=w.heap[k]?:=fun k W hn=>h3.block k W fun e=>hn e.symm;refine (G.kill id).jA hC d (.ai e (xs++ys.map o8)) hdb hL (by show ax s.h id .none d=_;rw[au _ _ DA.symm];exact hb) w' h3.os h3.tape h3.output h3.size (fun k=>hasB w (s.h id) (rho id) k) (fun k W hn=>wY k W fun h=>hn (.inl h)) (fun k W=>?_) v' (fun g D=>?_) (fun T=>?_)
 ·obtain⟨m,O,R⟩:=G.lv id k eO aN W;refine⟨O,fun i hi li cK=>?_,R⟩;have fE:(ax s.h id .none i).live:=li;rcases aD s.h id .none i with⟨rfl,h⟩ | ⟨bO,h⟩
  ·rw[h]at fE;exact fE.elim
  rw[h]at fE;exact bO (G.dj i id k hi eO fE aN (cx bO cK) W)
 ·rcases D with D | ⟨cs,g',h,_⟩ | ⟨e',bW,g',k',j,u,m,O,R,q4⟩ | ⟨_,_,_,_,_,h,_⟩
  rotate_right
  ·cases h
  ·obtain⟨a1,c1,AA⟩:=bP h2;refine⟨(h2.lt g (by rw[cm AA];exact D)).2,?_⟩;rcases h4 with h | h
   ·exact .inr (.inl (h▸D))
   rw[h]at D;injection D with D;exact .inl (by omega)
  ·cases h
  injection m with m NL;subst m NL;obtain⟨g0,J,Y⟩:=cc _ _ _ _ O R;have F1:=yL _ _ _ _ _ J Y q4;exact⟨bg (G.lv id g eO aN F1).1 h3.size,.inr F1⟩
 show an _ _ _ _ _ (ax rho d v' d)/\kU _ _ (ax rho d v' d);rw[ak];refine⟨⟨U,DB++I,hX,k2,wX,nY,fun u Z=>(cX.1 Z).elim (k5 u) (tN.one u),fun p r j x hp N=>?_⟩,fun g k j u b D hc dM=>?_,fun g k j k' j' u u' b D hc Fx BJ o9=>?_⟩
 ·by_cases W:p<xs.length
  ·rw[bQ W]at hp;obtain⟨u,Z,nF,IH⟩:=k6 p r j x hp N;refine⟨u,by rw[bQ (ah Z)];exact Z,?_⟩;cases x with
   | av x=>exact aE.bA T (aE.bA T0 nF)
   | row e' kS=>
    refine an.bA (show an _ _ _ _ _ _ from nF) (fun b dM=>wY b ?_ fun h=>IH _ _ rfl b b h dM rfl) (fun x u Z=>Z.mono T.hS T.keep);obtain⟨g,u2,J,Y,_⟩:=hR.rE hp N;have:u2=u:=by
     obtain⟨r',_,_,m,O,R⟩:=(gj k3 k4 J).1 Y;rw[Z]at R;injection R with R;exact R.symm
    subst this;exact (G.lv id b eO aN (yL _ _ _ _ _ J Y dM)).1
  rw[bY (by omega),ao]at hp;obtain⟨q,hq,rfl⟩:=az.1 hp;rw[o8,ao]at N;obtain⟨z,hz,rfl⟩:=az.1 N;obtain⟨u,Z,nF⟩:=tN.rep _ _ _ _ hq hz;refine⟨u,?_,va (nF.mono T.hS T.keep)⟩;have hm:xs.length*U.size<=p*U.size:=ba _ (by omega);rw[bY (by rw[F0];omega),F0];rw[qL]at Z;rw[<-Z];congr 1;omega
 ·obtain⟨g0,J,Y⟩:=cc _ _ _ _ D hc;rcases h4 with h | h
  ·rw[h,J]at D;injection D with D;subst D;exact hS.top _ _ _ _ _ J Y dM
  rw[h]at D;injection D with D;have:=(G.lv id b eO aN (yL _ _ _ _ _ J Y dM)).1;omega
 obtain⟨g0,J,Y⟩:=cc _ _ _ _ D hc;obtain⟨QS,F2,NM⟩:=cc _ _ _ _ D Fx;rw[J]at F2;injection F2 with F2;subst F2;exact hS.dis _ _ _ _ _ _ _ _ J Y NM BJ o9
structure Hy(R:HX->Value->Prop)(k:Nat)(es:List (List HX))(xs:List Value):Prop where
 len:xs.length=es.length*k
 row:∀r∈es,r.length=k
 one:∀u∈xs,u.oneCell'=true
 rep:∀(i:Nat) r (j:Nat) x,es[i]?=some r->r[j]?=some x->(∃y,x=.av y)/\∃u,xs[i*k+j]?=some u/\R x u
theorem wZ:∀{r:List HX} {j:Nat} {x:HX},Df r=true->r[j]?=some x->∃y,x=.av y
 | [],j,x,_,h=>by simp at h
 | .row _ _::_,j,x,h,_=>by cases h
 | .av y::r,j,x,h,hj=>by
  cases j with
  | zero=>simp at hj;exact⟨y,hj.symm⟩
  | succ j=>exact wZ (r:=r) h (by simpa using hj)
theorem aU.K2{S:Nat->Prop}{a:Act}{w:World}(D:aU A V L S rho s a w)(hC:aL A.C){id d:Nat}(eO:L id){xs:List (List HX)}(ai:s.h id=.ai e xs){ys:List (List HX)}{O:TypeInfo}(hX:A.C.P.info? e=some O)
  (hdb:d<100000) (hL:¬L d) (hb:s.h d=.ai e (xs++ys)) {G:List Value} (tN:Hy (iY S w A.C.P L rho s.h) O.size ys G) {Z:Value} {w':World} {ws:List Value} (hown:w.ownsRow 0 e O.size (rho id) xs.length ws) (h2:w'.ownsRow 0 e O.size Z (xs.length+ys.length) (ws++G)) (h3:w.grownBy w' (bH (rho id))) (h4:bH Z=bH (rho id)\/bH Z=some w.heap.size):
  aU A V (fun i=>L i\/i=d) S (ax rho d Z) ⟨s.t,ax s.h id .none⟩ a w':=by
 have aN:(s.h id).live:=by rw[ai];trivial
 have DA:id≠d:=fun e=>hL (e▸eO);have hh:=D.hp id eO;rw[ai]at hh;obtain⟨hR,hS⟩:=hh;have K1:=hS.yH hR;obtain⟨i0,DB,k1,k2,k3,k4,k5,k6⟩:=K1;rw[hX]at k1;injection k1 with k1;subst k1;have KY:DB=ws:=by
  rcases k3.2 with⟨m,R⟩ | ⟨g,cap,cur,m,_,J,q4,q5,q6,q7⟩
  ·have a1:DB=[]:=cW (by rw[k3.1,R];simp);have a2:ws=[]:=cW (by rw[hown.1,R];simp);rw[a1,a2]
  rcases hown.2 with⟨r1,_⟩ | ⟨g',NK,Ds,r1,_,r3,r4,r5,r6,r7⟩
  ·rw[r1]at m;cases m
  rw[r1]at m;injection m with m;injection m with m;injection m with m;subst m;rw[J]at r3;injection r3 with r3;injection r3 with r3;subst r3;rw[<-q7,<-r7]
 subst KY;have yK:∀r∈ys,r.length=O.size:=tN.row;have nY:∀r∈xs++ys,r.length=O.size:=fun r hr=>(cX.1 hr).elim (k4 r) (yK r);have wX:w'.ownsRow 0 e O.size Z (xs++ys).length (DB++G):=by rw[bZ];exact h2
 have F0:DB.length=xs.length*O.size:=k3.1;have cc:∀g' k j u,bH Z=some g'->bI w' (xs++ys) g' k j u->∃g,bH (rho id)=some g/\bI w xs g k j u:=fun g' k j u eY hc=>by
  obtain⟨r,e',kS,m,R,J⟩:=(gj wX nY eY).1 hc;by_cases U:k<xs.length
  ·rw[bQ U]at m;have kX:=ah R;have nP:=k4 r (aj m);have:=ba O.size (dy U);rw[bR]at this;rw[bQ (by omega)]at J;obtain⟨g,u2,I,W,_⟩:=hR.rE m R;refine⟨g,I,(gj k3 k4 I).2 ⟨r,e',kS,m,R,J⟩⟩
  rw[bY (by omega)]at m;obtain⟨⟨y,hy⟩,_⟩:=tN.rep _ _ _ _ m R;cases hy
 have yL:∀g k j u b,bH (rho id)=some g->bI w xs g k j u->bH u=some b->hasB w (s.h id) (rho id) b:=fun g k j u b h1 h5 h6=>by rw[ai];exact .inr (.inr (.inl ⟨_,_,_,_,_,_,rfl,h1,h5,h6⟩))
 have T0:fu S S w w L L rho rho s.h (ax s.h id .none):=⟨fun _ h=>h,fun _ _=>rfl,fun j N=>⟨by
   rcases aD s.h id .none j with⟨rfl,h⟩ | ⟨_,h⟩
   ·rw[h]at N;exact N.elim
   ·rw[h]at N;exact N,fun h=>⟨h,rfl⟩⟩,fun j e' N=>by
   rcases aD s.h id .none j with⟨rfl,h⟩ | ⟨_,h⟩
   ·rw[h]at N;cases N
   rw[h]at N;exact N⟩
 have wY:∀k,k<w.heap.size->bH (rho id)≠some k->w'.heap[k]?=w.heap[k]?:=fun k U hn=>h3.block k U fun e=>hn e.symm;refine (D.kill id).jA hC d (.ai e (xs++ys)) hdb hL (by show ax s.h id .none d=_;rw[au _ _ DA.symm];exact hb) w' h3.os h3.tape h3.output h3.size (fun k=>hasB w (s.h id) (rho id) k) (fun k U hn=>wY k U fun h=>hn (.inl h)) (fun k U=>?_) Z (fun g z=>?_) (fun T=>?_)
 ·obtain⟨m,R,J⟩:=D.lv id k eO aN U;refine⟨R,fun i hi li cK=>?_,J⟩;have fE:(ax s.h id .none i).live:=li;rcases aD s.h id .none i with⟨rfl,h⟩ | ⟨bO,h⟩
  ·rw[h]at fE;exact fE.elim
  rw[h]at fE;exact bO (D.dj i id k hi eO fE aN (cx bO cK) U)
 ·rcases z with z | ⟨cs,g',h,_⟩ | ⟨e',bW,g',k',j,u,m,R,J,q4⟩ | ⟨_,_,_,_,_,h,_⟩
  rotate_right
  ·cases h
  ·obtain⟨a1,c1,AA⟩:=bP h2;refine⟨(h2.lt g (by rw[cm AA];exact z)).2,?_⟩;rcases h4 with h | h
   ·exact .inr (.inl (h▸z))
   rw[h]at z;injection z with z;exact .inl (by omega)
  ·cases h
  injection m with m NL;subst m NL;obtain⟨g0,I,W⟩:=cc _ _ _ _ R J;have F1:=yL _ _ _ _ _ I W q4;exact⟨bg (D.lv id g eO aN F1).1 h3.size,.inr F1⟩
 show an _ _ _ _ _ (ax rho d Z d)/\kU _ _ (ax rho d Z d);rw[ak];refine⟨⟨O,DB++G,hX,k2,wX,nY,fun u Y=>(cX.1 Y).elim (k5 u) (tN.one u),fun p r j x hp N=>?_⟩,fun g k j u b z hc dM=>?_,fun g k j k' j' u u' b z hc Fx BJ o9=>?_⟩
 ·by_cases U:p<xs.length
  ·rw[bQ U]at hp;obtain⟨u,Y,nF,IH⟩:=k6 p r j x hp N;refine⟨u,by rw[bQ (ah Y)];exact Y,?_⟩;cases x with
   | av x=>exact aE.bA T (aE.bA T0 nF)
   | row e' kS=>
    refine an.bA (show an _ _ _ _ _ _ from nF) (fun b dM=>wY b ?_ fun h=>IH _ _ rfl b b h dM rfl) (fun x u Y=>Y.mono T.hS T.keep);obtain⟨g,u2,I,W,_⟩:=hR.rE hp N;have:u2=u:=by
     obtain⟨r',_,_,m,R,J⟩:=(gj k3 k4 I).1 W;rw[Y]at J;injection J with J;exact J.symm
    subst this;exact (D.lv id b eO aN (yL _ _ _ _ _ I W dM)).1
  rw[bY (by omega)]at hp;obtain⟨⟨y,rfl⟩,u,Y,nF⟩:=tN.rep _ _ _ _ hp N;refine⟨u,?_,aE.bA T (aE.bA T0 nF)⟩;have hm:xs.length*O.size<=p*O.size:=ba _ (by omega);rw[bY (by rw[F0];omega),F0];rw[qL]at Y;rw[<-Y];congr 1;omega
 ·obtain⟨g0,I,W⟩:=cc _ _ _ _ z hc;rcases h4 with h | h
  ·rw[h,I]at z;injection z with z;subst z;exact hS.top _ _ _ _ _ I W dM
  rw[h]at z;injection z with z;have:=(D.lv id b eO aN (yL _ _ _ _ _ I W dM)).1;omega
 obtain⟨g0,I,W⟩:=cc _ _ _ _ z hc;obtain⟨QS,F2,NM⟩:=cc _ _ _ _ z Fx;rw[I]at F2;injection F2 with F2;subst F2;exact hS.dis _ _ _ _ _ _ _ _ I W NM BJ o9
theorem BK{o:Oper}(c:Call)(aq:o.op=.call c)(hc:c.callee=.builtin .append):eD A o:=by
 intro V L S rho s a w K next Q hC z hV hd m hn J
 obtain⟨callee,args,argTypes⟩:=c;simp only at hc;subst hc;simp only[aZ,aq,dk,dK]at m;split at m
 ·rename_i x y t t' N Dy;have hx:=aH z x fun j hj=>hV j (by simp[aq,Op.operands,Call.operands,hj];rw[<-hj];exact bD.1 (by rw[N];simp));have hy:=aH z y fun j hj=>hV j (by simp[aq,Op.operands,Call.operands,hj];rw[<-hj];exact bD.1 (by rw[N];simp));have e1:args=#[x,y]:=by rw[<-fm (xs:=args),N]
  have e2:argTypes=#[t,t']:=by rw[<-fm (xs:=argTypes),Dy]
  subst e1 e2;split at m
  ·rename_i e size bytes zero eq NN hT;have NN:=dC NN;subst NN;have dr:=(hC.eL t _ hT).under;simp only at dr;split at m
   ·rename_i te nf;obtain⟨ie,ze,hX,qT,BL,DC,DD,ga⟩:=(hC.eL e te nf).info;have Kl:=(hC.eL e te nf).Dk;split at m
    ·rename_i I;have I:0<ie.size:=by rw[qT];exact dT I
     split at m
     ·rename_i ys o_;unfold nd at o_;split at o_
      case h_2=>cases o_
      rename_i QT w5;split at o_
      case h_2=>cases o_
      rename_i QU es Hz;split at o_
      case h_2=>cases o_
      rename_i eA;injection o_ with o_;subst o_;simp only[aw]at eA;have R:=dC eA.1;subst R;rw[w5]at hy;split at m
      case h_2=>exact m.elim
      rename_i id Dw;rw[Dw]at hx;split at m
      case h_2=>exact m.elim
      rename_i e' xs ai;split at m
      case h_2=>exact m.elim
      rename_i R;have R:=dC R;subst R;obtain⟨⟨h1,W,U⟩,m⟩:=m;obtain⟨hL,hb⟩:=hn _ _ _ m;obtain⟨eO,hv⟩:=hx.bu (by rw[ai];trivial);obtain⟨QV,PK⟩:=hy.bu (by rw[Hz];trivial);have hh:=z.hp id eO;rw[ai]at hh;obtain⟨⟨i0,ws,Fy,_,hown,_⟩,_⟩:=hh;rw[hX]at Fy;injection Fy with Fy;subst Fy;have PL:=z.hp QT QV;rw[Hz]at PL;obtain⟨⟨i1,D,MW,_,DE,K3,K4,NO⟩,_⟩:=PL;rw[hX]at MW;injection MW with MW;subst MW;have Y:Hy (iY S w A.C.P L rho s.h) ie.size es D:=⟨DE.1,K3,K4,fun i r j x hi hj=>by
       obtain⟨u,hu,O⟩:=NO i r j x hi hj;exact⟨wZ (cC.1 eA.2 r (aj hi)) hj,u,hu,O⟩⟩
      obtain⟨ad,c',K5,G⟩:∃ad c',a.eval y=.slice ad es.length c'/\(es.length≠0->∃b off,ad=some ⟨b,off,none⟩/\∀(j:Nat) u,D[j]?=some u->w.cell? ⟨b,off+j,none⟩=some u):=by
       rcases DE.2 with⟨II,MX⟩ | ⟨g,cap,cur,II,_⟩
       ·exact⟨none,0,by rw[PK,II,MX],fun h=>absurd MX h⟩
       refine⟨_,cap,by rw[PK,II],fun _=>⟨g,0,rfl,fun j u hj=>?_⟩⟩;have:=DE.cells (g:=g) (by rw[II];rfl) j u hj;rw[gW]at this;exact this
      obtain⟨Z,w',O,q2,q3,q4⟩:=jn (P:=A.C.P) w t o.type e' ie ze dr hX DC (by rw[DD];simp[Kl,qT]) I (rho id) xs.length ws hown ad es.length c' D Y.len
       G Y.one (by simp only[maxLen];omega) (by rw[BL];exact W)
      obtain⟨a0,c0,IJ⟩:=bP hown;obtain⟨a1,c1,AA⟩:=bP q2;rw[cm IJ]at q3 q4;rw[cm AA]at q4;have aJ:=z.K2 hC eO ai hX (z.gT hd) hL hb Y hown q2 q3 q4;exact bS (by simp[execOp,aq,resolve,invoke,builtin,hv,K5,O]) (J _ _ _ S _ _ _ m (aJ.value o.dst hd _ _ (.ow _ _ fun _=>⟨.inr rfl,(ak _ _ _).symm⟩)))
     obtain⟨ys,m,K6⟩:=yI z hy m;have main:∀(xs:List (List PV)) (v:Value) (ws:List Value) (s2:AS),a.eval x=v->w.ownsRow 0 e ie.size v xs.length ws->Flat S w ie.size xs ws->(∀r∈ys,r.length=te.size)->(xs.length+ys.length)*te.bytes<=140737488355328->xs.length+ys.length<=140737488355328 ->
       aU A V L S rho s2 a w->(∀g,bH v=some g->¬S g/\(∀i,L i->(s2.h i).live->¬hasB w (s2.h i) (rho i) g)/\(A.mv g\/A.w0.heap.size<=g))->¬L (o.dst.getD 0)->s2.h (o.dst.getD 0)=.row e (xs++ys)->
       ∃Z w' rho',(execOp a.eval o).run A.C.P w=.ok (.value Z) w'/\aU A V (fun i=>L i\/i=o.dst.getD 0) S rho' s2 a w'/\Z=rho' (o.dst.getD 0):=by
      intro xs v ws s2 hv hown qd hlen BJ o9 aJ hR hL hb;obtain⟨ad,c',D,K5,Y,G⟩:=K6 ie.size (fun r O=>by rw[hlen r O,qT]);obtain⟨Z,w',O,W,U,h4⟩:=jn (P:=A.C.P) w t o.type e ie ze dr hX DC (by rw[DD];simp[Kl,qT]) I v xs.length ws hown ad ys.length c' D Y.len
       (fun h0=>G (fun e=>h0 (by rw[e];rfl))) Y.one (by simp only[maxLen];omega) (by rw[BL];exact BJ)
      obtain⟨a0,c0,IJ⟩:=bP hown;obtain⟨a1,c1,AA⟩:=bP W;rw[cm IJ]at U h4;rw[cm AA]at h4;refine⟨Z,w',ax rho (o.dst.getD 0) Z,by simp[execOp,aq,resolve,invoke,builtin,hv,K5,O],?_,(ak _ _ _).symm⟩;refine aJ.new hC (o.dst.getD 0) _ (aJ.gT hd) hL hb w' U.os U.tape U.output U.size (fun k=>bH v=some k) (fun k hk K7=>U.block k hk (fun e=>K7 e.symm)) (fun k hk=>hR k hk) Z (fun g hg=>?_) (fun T=>?_)
      ·refine⟨(W.lt g (by rw[cm AA];exact hg)).2,?_⟩;rcases h4 with h | h
       ·exact .inr (h▸hg)
       rw[h]at hg;injection hg with hg;exact .inl (by omega)
      show an A.C.P w' (ay S w') e (xs++ys) (ax rho (o.dst.getD 0) Z (o.dst.getD 0));rw[ak];exact an.of_flat hX I (by rw[bZ];exact W) ((qd.app Y).mono T.hS T.keep)
     split at m
     ·rename_i Dw;rw[Dw]at hx;have hv:a.eval x=.slice none 0 0:=by cases h:a.eval x<;>rw[h]at hx<;>cases hx;rfl
      obtain⟨⟨h1,W,U⟩,m⟩:=m;obtain⟨hL,hb⟩:=hn _ _ _ m;obtain⟨Z,w',rho',O,aJ,yB⟩:=main [] _ [] s hv ⟨by simp,.inl ⟨rfl,rfl⟩⟩ ⟨by simp,by simp,by simp,by simp⟩ h1 (by simpa using W) (by simpa using U) z (fun g hg=>by simp[bH]at hg) hL (by simpa using hb);exact bS O (J _ _ _ S rho' _ _ m (aJ.value o.dst hd _ _ (.ow _ _ fun _=>⟨.inr rfl,yB⟩)))
     ·rename_i id Dw;rw[Dw]at hx;split at m
      ·rename_i e' xs ai;split at m
       ·rename_i R;have R:=dC R;subst R;obtain⟨⟨h1,W,U⟩,m⟩:=m;obtain⟨hL,hb⟩:=hn _ _ _ m;obtain⟨eO,hv⟩:=hx.bu (by rw[ai];trivial);have hh:=z.hp id eO;rw[ai]at hh;obtain⟨ws,_,hown,qd⟩:=an.flat hX hh;have DA:id≠o.dst.getD 0:=fun e=>hL (e▸eO);have aN:(s.h id).live:=by rw[ai];trivial
        obtain⟨Z,w',rho',O,aJ,yB⟩:=main xs _ ws ⟨s.t,ax s.h id .none⟩ hv hown qd h1 W U (z.kill id) (fun g hg=>by
          obtain⟨k1,k2,k3⟩:=z.mO id g eO aN hg;refine⟨k2,fun i hi li cK=>?_,k3⟩;have fE:(ax s.h id .none i).live:=li;rcases aD s.h id .none i with⟨rfl,h⟩ | ⟨bO,h⟩
          ·rw[h]at fE;exact fE.elim
          rw[h]at fE;exact bO (z.dj i id g hi eO fE aN (cx bO cK) (.inl hg))) hL (by show ax s.h id .none (o.dst.getD 0)=_;rw[au _ _ DA.symm];exact hb)
        exact bS O (J _ _ _ S rho' _ _ m (aJ.value o.dst hd _ _ (.ow _ _ fun _=>⟨.inr rfl,yB⟩)))
       exact m.elim
      ·rename_i e' xs ai;split at m
       ·rename_i R;have R:=dC R;subst R;obtain⟨⟨h1,W,U⟩,m⟩:=m;obtain⟨hL,hb⟩:=hn _ _ _ m;obtain⟨eO,hv⟩:=hx.bu (by rw[ai];trivial);have hh:=z.hp id eO;rw[ai]at hh;obtain⟨⟨i0,ws,Fy,_,hown,_⟩,_⟩:=hh;rw[hX]at Fy;injection Fy with Fy;subst Fy;obtain⟨ad,c',D,K5,Y,G⟩:=K6 ie.size (fun r O=>by rw[h1 r O,qT]);obtain⟨Z,w',O,q2,q3,q4⟩:=jn (P:=A.C.P) w t o.type e' ie ze dr hX DC (by rw[DD];simp[Kl,qT]) I (rho id) xs.length ws hown ad ys.length c' D Y.len
         (fun h0=>G (fun e=>h0 (by rw[e];rfl))) Y.one (by simp only[maxLen];omega) (by rw[BL];exact W)
        obtain⟨a0,c0,IJ⟩:=bP hown;obtain⟨a1,c1,AA⟩:=bP q2;rw[cm IJ]at q3 q4;rw[cm AA]at q4;have aJ:=z.NJ hC eO ai hX (z.gT hd) hL hb Y hown q2 q3 q4;exact bS (by simp[execOp,aq,resolve,invoke,builtin,hv,K5,O]) (J _ _ _ S _ _ _ m (aJ.value o.dst hd _ _ (.ow _ _ fun _=>⟨.inr rfl,(ak _ _ _).symm⟩)))
       exact m.elim
      exact m.elim
     exact m.elim
    exact m.elim
   exact m.elim
  exact m.elim
 exact m.elim
theorem vh{o:Oper}(t:TypeId)(x y:Operand)(N:o.op=.makeSlice t x y):eD A o:=by
 intro V L S rho s a w K next Q hC D hV hd m hn I
 simp only[aZ,N]at m;have hx:=aH D x fun j G=>hV j (by simp[N,Op.operands,G]);have hy:=aH D y fun j G=>hV j (by simp[N,Op.operands,G]);split at m
 ·rename_i e size bytes zero eq k n k' c hT h1 h2;have dr:=(hC.eL t _ hT).under;simp only at dr;rw[h1]at hx;rw[h2]at hy;split at m
  ·rename_i u U;obtain⟨J,O,hX,R,BL,DC,DD,ga⟩:=(hC.eL e u U).info;have Kl:=(hC.eL e u U).Dk;split at m
   ·rename_i z;have z:0<u.size:=dT z;obtain⟨⟨h0,Ki,hb,MV⟩,m⟩:=m;obtain⟨hL,Y⟩:=hn _ _ _ m;have hr:=run_make (P:=A.C.P) w t e J O dr hX DC k k' n c h0 Ki (by rw[BL,Int.mul_comm];omega) MV;have qd:=Flat.zero (A.C.bn t) S (w.alloc (.cells (madeCells O.cells (c.toNat*J.size)) e)) (hC.eL e u U) z n.toNat;have key:∀(W:World) es xs,Flat S W u.size es xs->Flat S W J.size es xs:=fun W es xs h=>by rw[R];exact h
    have Z:n.toNat*u.size<=c.toNat*u.size:=ba _ (by omega);have NP:((Array.range (n.toNat*u.size)).map (u.zero.toArray[· % u.zero.toArray.size]!)).toList=(madeCells O.cells (c.toNat*J.size)).toList.take (n.toNat*u.size):=by
     apply fj;intro j;rw[cB];split
     ·rename_i G;simp[madeCells,DD,R,G,bg G Z]
     rename_i G;rw[dI (by simpa using G)]
    have aJ:=D.new hC (o.dst.getD 0) _ (D.gT hd) hL Y (w.alloc (.cells (madeCells O.cells (c.toNat*J.size)) e)) rfl rfl rfl (by simp) (fun _=>False) (fun k hk _=>gw _ _ _ hk) (fun _ h=>h.elim) (.slice (some ⟨w.heap.size,0,none⟩) n.toNat c.toNat)
     (fun g hg=>by simp[bH]at hg;subst hg;simp) (fun T=>by
      show an A.C.P _ _ e _ (ax rho (o.dst.getD 0) _ (o.dst.getD 0));rw[ak];refine an.of_flat hX (by omega) ?_ (key _ _ _ qd);rw[NP,<-R];refine⟨by rw[cu,di,gx,size_madeCells,R];omega,.inr ⟨w.heap.size,c.toNat,_,by simp,bd _,heap_alloc_new w _,by simp;omega,by simp only[maxLen];omega,size_madeCells _ _,by simp⟩⟩)
    exact bS (by simp only[execOp,N,hx.bc,hy.bc,aI,hr,br,ct]) (I _ _ _ S _ _ _ m (aJ.value o.dst hd _ _ (.ow _ _ fun _=>⟨.inr rfl,(ak _ _ _).symm⟩)))
   exact m.elim
  exact m.elim
 exact m.elim
end Go.AM
namespace Go.AM
open Go.RowKit
theorem DF(off:Nat):∀(m:List Value) (k:Nat) (cs:Array Value),(m.zipIdx k).foldl (fun (cs:Array Value) (x:Value×Nat)=>cs.setIfInBounds (off+x.2) x.1) cs=(setCells cs.toList (off+k) m).toArray:=by
 intro m
 induction m with
 | nil=>intro k cs;simp[setCells]
 | cons v m ih=>
  intro k cs;simp only[List.zipIdx_cons,qN];rw[ih];simp[setCells,gv]
theorem jB(m:Nat->Option (Nat×Nat))(cells:Array Value)(i:Nat)(v:Value)(rest:List (Nat×Value))(off size:Nat)(hp:m i=some (off,size))(hs:v.cells.size=size)(hl:off+size<=cells.size):
  Instr.fill m cells ((i,v)::rest)=Instr.fill m (setCells cells.toList off v.cells.toList).toArray rest:=by
 rw[Instr.fill,hp];simp only;rw[af (by simp[hs];omega)];congr 1;have:=DF off v.cells.toList 0 cells;rw[jS]at this;rw[<-this,<-Array.foldl_toList,Array.toList_zipIdx]
structure gB(S:Nat->Prop)(w:World)(cs:List PV)(vs:List Value):Prop where
 len:vs.length=cs.length
 one:∀u∈vs,u.oneCell'=true
 rep:∀(j:Nat) x u,cs[j]?=some x->vs[j]?=some u->ay S w x u
theorem gB.mono{S S':Nat->Prop}{w:World}{cs:List PV}{m:List Value}(h:gB S w cs m)(hS:∀b,S b->S' b):gB S' w cs m:=
 ⟨h.len,h.one,fun j x u z D=>(h.rep j x u z D).mono hS (fun _ _=>rfl)⟩
theorem gB.set{S:Nat->Prop}{w:World}{cs ys:List PV}{D us:List Value}(h:gB S w cs D)(g:gB S w ys us)(off:Nat)(hl:off+ys.length<=cs.length):gB S w (setCells cs off ys) (setCells D off us):=by
 have J:=fun j=>b8 ys cs off j hl;have I:=fun j=>b8 us D off j (by rw[g.len,h.len];exact hl);refine⟨by rw[bL,bL,h.len],fun u z=>?_,fun j x u m z=>?_⟩
 ·obtain⟨j,m⟩:=cf.1 z;rw[I]at m;split at m
  ·exact g.one u (aj m)
  exact h.one u (aj m)
 rw[J]at m;rw[I,g.len]at z;split at m
 ·rename_i G;rw[ae G]at z;exact g.rep _ x u m z
 rename_i G;rw[af G]at z;exact h.rep _ x u m z
theorem tO{S:Nat->Prop}{w:World}{x:PV}{ys:List PV}{v:Value}(h:mZ x=some ys)(m:ay S w x v):gB S w ys v.cells.toList:=by
 obtain⟨z,D,G⟩:=qc h m;exact⟨by simpa using z,D,fun j y u I J=>G j y u I (by simpa using J)⟩
variable {A:jR} {V L:Nat->Prop} {rho:Nat->Value} {fs:List (Nat×Nat×Bool)}
theorem BM(hC:aL A.C){t:Nat->AV}{a:Act}{w:World}{h:Nat->AB}(m:Nat->Option (Nat×Nat))(hp:∀(i:Nat) f,fs[i]?=some f->m i=some (f.1,f.2.1)):
  ∀(D:List (Nat×Operand)) (h':Nat->AB) (S:Nat->Prop) (cs:List PV) (G:List Value) (K:List PV->List (Nat×AB)->Prop),(∀p∈D,∀j,p.2=.tmp j->V j)->aU A V L S rho ⟨t,h'⟩ a w->kM h h'->gB S w cs G->gd h fs (ev t) D cs K ->
  ∃N fz S' O,K N fz/\aU A V L S' rho ⟨t,app h' fz⟩ a w/\kM h (app h' fz)/\gB S' w N O/\Instr.fill m G.toArray (D.map fun p=>(p.1,a.eval p.2))=some O.toArray/\(∀p∈fz,L p.1):=by
 intro D
 induction D with
 | nil=>intro h' S cs G K _ z U R u;exact⟨cs,[],S,G,u,z,U,R,rfl,by simp⟩
 | cons p D ih=>
  intro h' S cs G K Y z U R u;obtain⟨i,x⟩:=p;unfold gd at u;split at u
  ·rename_i off size ag Z;have hx:=aH z x fun j hj=>Y (i,x) (by simp) j hj;obtain⟨y,fz,S2,u,aJ,I,nX,C3,wU⟩:=e8 hC z U hx u;split at u
   ·rename_i ys Dx;split at u
    ·rename_i W;simp only[aw]at W;have e1:=dC W.1;have e2:=gi W.2;have J:=tO Dx I;obtain⟨N,jr,S',O,k1,k2,k3,k4,k5,k9⟩:=ih (app h' fz) S2 _ _ _ (fun p hp=>Y p (by simp[hp])) aJ C3 ((R.mono nX).set J off (by omega)) u;refine⟨N,fz++jr,S',O,k1,by rw[bJ];exact k2,by rw[bJ];exact k3,k4,?_,fun p hp=>(cX.1 hp).elim (wU p) (k9 p)⟩;rw[aV,jB m _ i _ _ off size (hp i _ Z) (by simpa [e1] using J.len) (by simp[R.len];omega)];exact k5
    exact u.elim
   exact u.elim
  exact u.elim
theorem DG{P:Program}{t:TypeId}{size bytes:Nat}{zero:List Value}{eq:Bool}(U:jw P t ⟨.st fs,size,bytes,zero,eq⟩){l:List (Nat×Value)}{W:Array Value}
  (k5:Instr.fill (fun i=>(fs[i]?).map fun f=>(f.1,f.2.1)) zero.toArray l=some W):P.built t l=some W:=by
 obtain⟨info,z,hi,hsz,QW,hz,Y,ga⟩:=U.info;obtain⟨gs,mH,hl,hf⟩:=U.under;simp only at Y;have vi:gs.toList.mapM (fun f=>(P.info? f.type).map fun i=>(f.offset,i.size))=some (fs.map fun f=>(f.1,f.2.1)):=by
  have G:∀(u:List Field) (m:List (Nat×Nat×Bool)),m.length=u.length->(∀(i:Nat) f g,m[i]?=some f->u[i]?=some g->f.1=g.offset/\(∃I,P.info? g.type=some I/\I.size=f.2.1))->u.mapM (fun f=>(P.info? f.type).map fun i=>(f.offset,i.size))=some (m.map fun f=>(f.1,f.2.1)):=by
   intro u
   induction u with
   | nil=>intro m D _;have:m=[]:=cW D;subst this;rfl
   | cons g u ih=>
    intro m D Z;cases m with
    | nil=>simp at D
    | cons f m=>
     obtain⟨J,I,N,e3⟩:=Z 0 f g rfl rfl;have:=ih m (by simpa using D) (fun i f g O R=>Z (i+1) f g (by simpa using O) (by simpa using R));rw[uX,N,this];simp[J,e3]
  exact G gs.toList fs (by simpa using hl) (fun i f g O R=>by
   obtain⟨J,_,N,_⟩:=hf i f g O (by simpa using R);exact⟨J,N⟩)
 unfold Program.built;rw[hi,mH];simp only[hz,vi,Y];rw[<-k5];congr 1;funext i;simp
theorem BN{S:Nat->Prop}{s:AS}{a:Act}{w:World}(W:aU A V L S rho s a w)(D:Nat->Option (Nat×Nat))(hp:∀(i:Nat) f,fs[i]?=some f->D i=some (f.1,f.2.1)):
  ∀(U:List (Nat×Operand)) (cs:List AV) (J:List Value) (K:List AV->Prop),(∀p∈U,∀j,p.2=.tmp j->V j)->cs.length=J.length->(∀u∈J,u.oneCell'=true)->(∀(i:Nat) c u,cs[i]?=some c->J[i]?=some u->aE S w A.C.P L rho s.h c u)->gf s.h fs (ev s.t) U cs K ->
  ∃(O:List AV) (N:List Value),K O/\O.length=N.length/\(∀u∈N,u.oneCell'=true)/\(∀(i:Nat) c u,O[i]?=some c->N[i]?=some u->aE S w A.C.P L rho s.h c u)/\Instr.fill D J.toArray (U.map fun p=>(p.1,a.eval p.2))=some N.toArray:=by
 intro U
 induction U with
 | nil=>intro cs J K _ hl h1 hc I;exact⟨cs,J,I,hl,h1,hc,rfl⟩
 | cons p U ih=>
  intro cs J K hV hl h1 hc I;obtain⟨i,x⟩:=p;unfold gf at I;split at I
  ·rename_i off size ag Fu;have hx:=aH W x fun j m=>hV (i,x) (by simp) j m;split at I
   ·rename_i ys Dx;split at I
    case h_2=>exact I.elim
    rename_i Y;simp only[aw]at Y;obtain⟨R,Z⟩:=Y;have R:=dC R;have Z:=gi Z;rw[De Dx]at hx;obtain⟨us,hv,q1,q2,q3⟩:=hx.cb.kW;have iQ:(a.eval x).cells=us:=by rw[hv];rfl
    obtain⟨O,N,k1,k2,k3,k4,k5⟩:=ih (setCells cs off (ys.map .p)) (setCells J off us.toList) K (fun p hp=>hV p (by simp[hp])) (by rw[bL,bL,hl]) (fun u G=>by
      obtain⟨j,m⟩:=cf.1 G;rw[b8 us.toList J off j (by simp;omega)]at m;split at m
      ·exact q2 u (aj m)
      ·exact h1 u (aj m)) (fun j c u m G=>by
      rw[b8 _ _ _ _ (by simp;omega)]at m;rw[b8 _ _ _ _ (by simp;omega)]at G;simp only[aB,gx]at m G;split at m
      ·rename_i Iu;rw[ae (by rw[<-q1];exact Iu)]at G;rw[ao]at m;obtain⟨z,hz,rfl⟩:=az.1 m;exact .p _ _ (q3 _ z u hz (by simpa using G))
      rename_i Iu;rw[af (by rw[<-q1];exact Iu)]at G;exact hc j c u m G) I
    refine⟨O,N,k1,k2,k3,k4,?_⟩;rw[aV,jB D _ i _ _ off size (hp i _ Fu) (by rw[iQ,<-q1,R]) (by simp;omega),iQ];exact k5
   split at I
   ·rename_i Y;simp only[aw]at Y;obtain⟨⟨R,Z⟩,e3⟩:=Y;have R:=dC R;have Z:=gi Z;have o1:=iv W e3 hx;have iQ:=cells_one o1;have hlen:off<J.length:=by omega
    obtain⟨O,N,k1,k2,k3,k4,k5⟩:=ih (cs.set off (ev s.t x)) (J.set off (a.eval x)) K (fun p hp=>hV p (by simp[hp])) (by simp[hl]) (fun u G=>by
      rcases cw G with h | h
      ·exact h1 u h
      ·rw[h];exact o1) (fun j c u m G=>by
      by_cases e:j=off
      ·subst e;rw[aP (by omega)]at m G;injection m with m;injection G with G;subst m G;exact hx
      rw[bw (fun e'=>e e'.symm)]at m G;exact hc j c u m G) I
    refine⟨O,N,k1,k2,k3,k4,?_⟩;rw[aV,jB D _ i _ _ off size (hp i _ Fu) (by rw[iQ,R];rfl) (by simp;omega),iQ];exact k5
   exact I.elim
  exact I.elim
theorem DH{o:Oper}(t:TypeId)(N:Array (Nat×Operand))(Y:o.op=.build t N):eD A o:=by
 intro V L S rho s a w K next Q hC J hV hd O _ m
 simp only[aZ,Y]at O;split at O
 ·rename_i fs size bytes zero eq hT;have dr:=(hC.eL t _ hT).under;obtain⟨info,z,hi,hsz,QW,hz,dN,ga⟩:=(hC.eL t _ hT).info;obtain⟨gs,mH,hl,hf⟩:=dr;simp only at dN ga;have DI:∀(i:Nat) f,fs[i]?=some f->(fun i=>(fs[i]?).map fun f=>(f.1,f.2.1)) i=some (f.1,f.2.1):=fun i f h=>by simp[h]
  split at O
  case h_2=>
   obtain⟨dB,R,k1,k2,k3,Z,k5⟩:=BN J (fun i=>(fs[i]?).map fun f=>(f.1,f.2.1)) DI N.toList (zero.map Bx) zero (fun cs=>K (.st cs) [] none)
    (fun p hp j D=>hV j (by simp[Y,Op.operands];exact⟨p.1,by rw[<-D];exact bD.1 hp⟩)) (by simp) ga (fun j x u D hu=>by
     rw[ao,hu]at D;simp at D;rw[<-D];exact rF _ _ _ _ _ _ u) O
   have yM:=DG (hC.eL t _ hT) k5;exact ar J hd m k1 (.st _ R.toArray (by simpa using k2) (by simpa using k3) (fun i c u I U=>Z i c u I (by simpa using U))) (by
    have hr:=run_build (P:=A.C.P) w t (N.map fun p=>(p.1,a.eval p.2)) R.toArray (by simpa using yM);simp only[execOp,Y,aI];rw[hr];simp)
  obtain⟨dB,fz,S',R,k1,k2,k3,Z,k5,_⟩:=BM hC (fun i=>(fs[i]?).map fun f=>(f.1,f.2.1)) DI N.toList s.h S (zero.map (Kc (A.C.bn t))) zero (fun cs fz=>K (.p (.ag cs)) fz none)
   (fun p hp j D=>hV j (by simp[Y,Op.operands];exact⟨p.1,by rw[<-D];exact bD.1 hp⟩)) J (kM.refl _) ⟨by simp,ga,fun j x u D hu=>by
    rw[ao,hu]at D;simp at D;rw[<-D];exact Au _ _ _ u⟩ O
  have vi:gs.toList.mapM (fun f=>(A.C.P.info? f.type).map fun i=>(f.offset,i.size))=some (fs.map fun f=>(f.1,f.2.1)):=by
   have gen:∀(W:List Field) (G:List (Nat×Nat×Bool)),G.length=W.length->(∀(i:Nat) f g,G[i]?=some f->W[i]?=some g->f.1=g.offset/\(∃i2,A.C.P.info? g.type=some i2/\i2.size=f.2.1))->W.mapM (fun f=>(A.C.P.info? f.type).map fun i=>(f.offset,i.size))=some (G.map fun f=>(f.1,f.2.1)):=by
    intro W
    induction W with
    | nil=>intro G I _;have:G=[]:=cW I;subst this;rfl
    | cons g W ih=>
     intro G I U;cases G with
     | nil=>simp at I
     | cons f G=>
      obtain⟨e1,i2,e2,e3⟩:=U 0 f g rfl rfl;have:=ih G (by simpa using I) (fun i f g h3 h4=>U (i+1) f g (by simpa using h3) (by simpa using h4));rw[uX,e2,this];simp[e1,e3]
   exact gen gs.toList fs (by simpa using hl) (fun i f g h3 h4=>by
    obtain⟨e1,_,e2,_⟩:=hf i f g h3 (by simpa using h4);exact⟨e1,e2⟩)
  have yM:A.C.P.built t (N.toList.map fun p=>(p.1,a.eval p.2))=some R.toArray:=by
   unfold Program.built;rw[hi,mH];simp only[hz,vi,dN];rw[<-k5];congr 1;funext i;simp
  refine tM (s:=s) k2 hd m k1 (v:=.agg R.toArray) (.p _ _ (.ag _ _ (by simp[Z.len]) (by simpa using Z.one) fun i c v I U=>Z.rep i c v I (by simpa using U))) ?_;have hr:=run_build (P:=A.C.P) w t (N.map fun p=>(p.1,a.eval p.2)) R.toArray (by simpa using yM);simp only[execOp,Y,aI];rw[hr];simp
 exact O.elim
theorem BO{S:Nat->Prop}{s:AS}{a:Act}{w:World}{b:Bool}(hC:aL A.C){h:Nat->AB}(m:aU A V L S rho s a w)(z:kM h s.h){x:AV}{v:Value}(D:aE S w A.C.P L rho s.h x v){K:PV->List (Nat×AB)->Prop}(u:qa b h x K):
  ∃y fz S',K y fz/\aU A V L S' rho ⟨s.t,app s.h fz⟩ a w/\ay S' w y v/\(∀b,S b->S' b)/\kM h (app s.h fz)/\(∀p∈fz,L p.1):=by
 unfold qa at u;split at u
 ·have:v=.slice none 0 0:=by cases D;rfl
  rw[this];exact⟨_,[],S,u,m,.im _,fun _ h=>h,z,by simp⟩
 exact e8 hC m z D u
theorem rM(hC:aL A.C){t:Nat->AV}{a:Act}{w:World}{h:Nat->AB}{size:Nat}{b:Bool}:
  ∀(G:List (Nat×Operand)) (h':Nat->AB) (S:Nat->Prop) (es:List (List PV)) (I:List Value) (K:List (List PV)->List (Nat×AB)->Prop),(∀p∈G,∀j,p.2=.tmp j->V j)->aU A V L S rho ⟨t,h'⟩ a w->kM h h'->Flat S w size es I->eC b h size (ev t) G es K ->
  ∃J fz S' O,K J fz/\aU A V L S' rho ⟨t,app h' fz⟩ a w/\kM h (app h' fz)/\Flat S' w size J O/\J.length=es.length/\Instr.fill (fun i=>some (i*size,size)) I.toArray (G.map fun p=>(p.1,a.eval p.2))=some O.toArray/\(∀p∈fz,L p.1):=by
 intro G
 induction G with
 | nil=>intro h' S es I K _ z U R m;exact⟨es,[],S,I,m,z,U,R,rfl,rfl,by simp⟩
 | cons p G ih=>
  intro h' S es I K Y z U R m;obtain⟨i,x⟩:=p;unfold eC at m;have hx:=aH z x fun j hj=>Y (i,x) (by simp) j hj;obtain⟨y,fz,S2,m,aJ,N,nX,C3,wU⟩:=BO hC z U hx m;split at m
  ·rename_i ys Dx;split at m
   ·rename_i W;simp only[aw]at W;have Z:=dC W.1;have e2:i<es.length:=dT W.2;have D:=tO Dx N;have K8:(a.eval x).cells.toList.length=size:=by rw[D.len,Z]
    have hb:i*size+size<=I.length:=by rw[R.len,<-bR];exact ba _ e2
    obtain⟨J,jr,S',O,k1,k2,k3,k4,k5,k6,k9⟩:=ih (app h' fz) S2 _ _ _ (fun p hp=>Y p (by simp[hp])) aJ C3 ((R.mono nX (fun _ _=>rfl)).set i e2 ys _ Z K8 D.one (fun j y u h1 h2=>D.rep j y u h1 h2)) m;refine⟨J,fz++jr,S',O,k1,by rw[bJ];exact k2,by rw[bJ];exact k3,k4,by rw[k5,aF],?_,fun p hp=>(cX.1 hp).elim (wU p) (k9 p)⟩;rw[aV,jB _ _ i _ _ (i*size) size rfl (by simpa using K8) (by simpa using hb)];exact k6
   exact m.elim
  exact m.elim
theorem tl{o:Oper}(t:TypeId)(len:Nat)(Y:Array (Nat×Operand))(aq:o.op=.buildSlice t len Y):eD A o:=by
 intro V L S rho s a w K next Q hC O hV hd D hn I
 simp only[aZ,aq]at D;split at D
 ·rename_i e size bytes zero eq hT;have dr:=(hC.eL t _ hT).under;simp only at dr;split at D
  ·rename_i z nf;obtain⟨ie,ze,hX,qT,BL,DC,DD,ga⟩:=(hC.eL e z nf).info;have Kl:=(hC.eL e z nf).Dk;split at D
   ·rename_i eA;simp only[aw]at eA;have N:0<z.size:=dT eA.1;have St:=gi eA.2;split at D
    ·rename_i K9;split at D
     case h_2=>exact D.elim
     rename_i x hps;split at D
     case h_2=>exact D.elim
     rename_i DJ;simp only[aw]at DJ;have yN:=dC DJ.1;have hps:Y=#[(0,x)]:=by rw[<-fm (xs:=Y),hps]
     have hx:=aH O x fun j hj=>hV j (by simp[aq,Op.operands,hps,hj]);have o1:=iv O DJ.2 hx;obtain⟨hL,hb⟩:=hn _ _ _ D;have G:(execOp a.eval o).run A.C.P w=.ok (.value (.slice (some ⟨w.heap.size,0,none⟩) 1 1)) (w.alloc (.cells #[a.eval x] e)):=by
      have U:(Go.sizeOf e).run A.C.P w=.ok z.size w:=(hC.eL e z nf).sizeOf w;have K_:(zeroValue e).run A.C.P w=.ok ze w:=by simp[zeroValue,typeInfo,hX,DC]
      obtain⟨Z,IK⟩:∃Z,z.zero=[Z]:=by
       have:z.zero.length=1:=by rw[Kl,yN]
       match h:z.zero,this with
       | [Z],_=>exact⟨Z,rfl⟩
      have NQ:ze.cells=#[Z]:=by rw[DD,IK]
      have La:Instr.fill (fun i=>some (i*z.size,z.size)) ((Array.range (1*z.size)).map (#[Z][· % (#[Z]:Array Value).size]!)) (Y.map fun p=>(p.1,a.eval p.2)).toList=some #[a.eval x]:=by
       rw[hps];have h0:(Array.range (1*z.size)).map (#[Z][· % (#[Z]:Array Value).size]!)=#[Z]:=by
        rw[yN,show Array.range (1*1)=#[0] by decide];simp
       rw[h0];rw[show (Array.map (fun p:Nat×Operand=>(p.1,a.eval p.2)) #[(0,x)]).toList=[(0,a.eval x)] by simp];rw[jB _ _ 0 _ _ 0 1 (by rw[yN]) (by rw[cells_one o1];rfl) (by simp),cells_one o1];rfl
      simp only[execOp,aq,Instr.buildSlice,aI,run_underlying dr,br,U];rw[af (show ¬1*z.size>2 ^ 24 by rw[yN];decide),af (show ¬1*z.size=0 by rw[yN];decide)];simp only[aI,ct,br,K_];rw[NQ,La];simp[newRow,newObj,Sem.run]
     have Lb:∀T:fu S S w (w.alloc (.cells #[a.eval x] e)) L (fun i=>L i\/i=o.dst.getD 0) rho (ax rho (o.dst.getD 0) (.slice (some ⟨w.heap.size,0,none⟩) 1 1)) s.h s.h,cd S (w.alloc (.cells #[a.eval x] e)) A.C.P (fun i=>L i\/i=o.dst.getD 0) (ax rho (o.dst.getD 0) (.slice (some ⟨w.heap.size,0,none⟩) 1 1)) s.h (o.dst.getD 0) (.ai e [[.av (ev s.t x)]]):=fun T=>by
      show an _ _ _ _ _ (ax rho (o.dst.getD 0) _ (o.dst.getD 0))/\kU _ _ (ax rho (o.dst.getD 0) _ (o.dst.getD 0));rw[ak];have hown:=uY (base:=0) (e:=e) (size:=z.size) w #[a.eval x] 1 (bd _) (by decide) (by rw[yN];rfl);have HA:∀(R j:Nat) (r:List HX) e2 w6,([[HX.av (ev s.t x)]]:List (List HX))[R]?=some r->r[j]?=some (.row e2 w6)->False:=fun R j r e2 w6 W h2=>by
       cases R with
       | zero=>
        simp at W;subst W;cases j with
        | zero=>simp at h2
        | succ j=>simp at h2
       | succ R=>simp at W
      refine⟨⟨ie,[a.eval x],hX,by omega,by rw[qT];exact hown,fun r hr=>by simp at hr;subst hr;rw[qT,yN];rfl,fun u hu=>by simp at hu;subst hu;exact o1,fun R r j y ha hj=>?_⟩,fun g R j u b hg ⟨r,e2,w6,c,ty,m,W,h2,_⟩=>(HA _ _ _ _ _ W h2).elim,fun g R j a2 j2 u u' b hg ⟨r,e2,w6,c,ty,m,W,h2,_⟩=>(HA _ _ _ _ _ W h2).elim⟩;cases R with
      | zero=>
       simp at ha;subst ha;cases j with
       | zero=>simp at hj;subst hj;exact⟨a.eval x,by simp,hx.bA T⟩
       | succ j=>simp at hj
      | succ R=>simp at ha
     have aJ:=O.jA hC (o.dst.getD 0) (.ai e [[.av (ev s.t x)]]) (O.gT hd) hL hb (w.alloc (.cells #[a.eval x] e)) rfl rfl rfl (by simp) (fun _=>False) (fun k hk _=>gw _ _ _ hk) (fun _ h=>h.elim) (.slice (some ⟨w.heap.size,0,none⟩) 1 1)
      (fun g hg=>by
       rcases bN.1 hg with h | ⟨g',R,j,u,_,⟨r,e2,w6,c,ty,m,W,h2,_⟩,_⟩
       ·simp[bH]at h;subst h;simp
       exfalso;cases R with
       | zero=>
        simp at W;subst W;cases j with
        | zero=>simp at h2
        | succ j=>simp at h2
       | succ R=>simp at W) Lb
     exact bS G (I _ _ _ S _ _ _ D (aJ.value o.dst hd _ _ (.ow _ _ fun _=>⟨.inr rfl,(ak _ _ _).symm⟩)))
    split at D
    ·rename_i QX;obtain⟨bW,fz,S',J,k1,k2,k3,k4,k5,k6,k9⟩:=rM hC Y.toList s.h S _ _ (fun es fz=>K (.ow (o.dst.getD 0)) fz (some (.row e es)))
      (fun p hp j hj=>hV j (by simp[aq,Op.operands];exact⟨p.1,by rw[<-hj];exact bD.1 hp⟩)) O (kM.refl _) (Flat.zero false S w (hC.eL e z nf) N len) D
     rw[di]at k5;obtain⟨hL,hb⟩:=hn _ _ _ k1;have HB:(app s.h fz) (o.dst.getD 0)=.row e bW:=by
      rw[fo (fun p hp (e:p.1=_)=>hL (by rw[<-e];exact k9 p hp)),hb]
     have G:(execOp a.eval o).run A.C.P w=.ok (.value (.slice (some ⟨w.heap.size,0,none⟩) len len)) (w.alloc (.cells J.toArray e)):=by
      have e0:len*z.size=(Array.range (len*z.size)).size:=by simp
      have NR:¬16777216<len*z.size:=by omega
      have Lc:Instr.fill (fun i=>some (i*z.size,z.size)) ((Array.range (len*z.size)).map (z.zero.toArray[· % z.zero.toArray.size]!)) (Y.map fun p=>(p.1,a.eval p.2)).toList=some J.toArray:=by
       rw[qO];rw[<-k6]
      have U:(Go.sizeOf e).run A.C.P w=.ok z.size w:=(hC.eL e z nf).sizeOf w;simp only[execOp,aq,Instr.buildSlice,aI,run_underlying dr,br,U];rw[af (show ¬len*z.size>2 ^ 24 by omega)];by_cases h0:len*z.size=0
      ·rw[ae h0];have k7:Instr.fill (fun i=>some (i*z.size,z.size)) ((Array.range (len*z.size)).map ((#[]:Array Value)[· % (#[]:Array Value).size]!)) (Y.map fun p=>(p.1,a.eval p.2)).toList=some J.toArray:=by
        have IK:∀f:Nat->Value,(Array.range 0).map f=#[]:=fun f=>by apply gV;simp
        rw[<-Lc,h0,IK,IK]
       simp only[aI,ct,br];rw[k7];simp[newRow,newObj,Sem.run]
      rw[af h0];have K_:(zeroValue e).run A.C.P w=.ok ze w:=by simp[zeroValue,typeInfo,hX,DC]
      simp only[aI,ct,br,K_];rw[DD,Lc];simp[newRow,newObj,Sem.run]
     have aJ:=k2.new hC (o.dst.getD 0) _ (k2.gT hd) hL HB (w.alloc (.cells J.toArray e)) rfl rfl rfl (by simp) (fun _=>False) (fun k hk _=>gw _ _ _ hk) (fun _ h=>h.elim) (.slice (some ⟨w.heap.size,0,none⟩) len len)
      (fun g hg=>by simp[bH]at hg;subst hg;simp) (fun T=>by
       show an A.C.P _ _ e _ (ax rho (o.dst.getD 0) _ (o.dst.getD 0));rw[ak];refine an.of_flat hX (by omega) ?_ (by rw[qT];exact k4.mono T.hS T.keep);have:=uY (base:=0) (e:=e) (size:=z.size) w J.toArray len (bd _) (by simp only[maxLen];have:=Am len N;omega) (by simp[k4.len,k5]);rw[qT,k5];exact this)
     exact bS G (I _ _ _ S' _ _ _ k1 (aJ.value o.dst hd _ _ (.ow _ _ fun _=>⟨.inr rfl,(ak _ _ _).symm⟩)))
    rename_i QX;obtain⟨bW,fz,S',J,k1,k2,k3,k4,k5,k6,k9⟩:=rM hC Y.toList s.h S _ _ (fun es fz=>K (.ow (o.dst.getD 0)) fz (some (.f_ es)))
     (fun p hp j hj=>hV j (by simp[aq,Op.operands];exact⟨p.1,by rw[<-hj];exact bD.1 hp⟩)) O (kM.refl _) (Flat.zero false S w (hC.eL e z nf) N len) D
    rw[di]at k5;obtain⟨hL,hb⟩:=hn _ _ _ k1;have HB:(app s.h fz) (o.dst.getD 0)=.f_ bW:=by
     rw[fo (fun p hp (e:p.1=_)=>hL (by rw[<-e];exact k9 p hp)),hb]
    have G:(execOp a.eval o).run A.C.P w=.ok (.value (.slice (some ⟨w.heap.size,0,none⟩) len len)) (w.alloc (.cells J.toArray e)):=by
     have e0:len*z.size=(Array.range (len*z.size)).size:=by simp
     have NR:¬16777216<len*z.size:=by omega
     have Lc:Instr.fill (fun i=>some (i*z.size,z.size)) ((Array.range (len*z.size)).map (z.zero.toArray[· % z.zero.toArray.size]!)) (Y.map fun p=>(p.1,a.eval p.2)).toList=some J.toArray:=by
      rw[qO];rw[<-k6]
     have U:(Go.sizeOf e).run A.C.P w=.ok z.size w:=(hC.eL e z nf).sizeOf w;simp only[execOp,aq,Instr.buildSlice,aI,run_underlying dr,br,U];rw[af (show ¬len*z.size>2 ^ 24 by omega)];by_cases h0:len*z.size=0
     ·rw[ae h0];have k7:Instr.fill (fun i=>some (i*z.size,z.size)) ((Array.range (len*z.size)).map ((#[]:Array Value)[· % (#[]:Array Value).size]!)) (Y.map fun p=>(p.1,a.eval p.2)).toList=some J.toArray:=by
       have IK:∀f:Nat->Value,(Array.range 0).map f=#[]:=fun f=>by apply gV;simp
       rw[<-Lc,h0,IK,IK]
      simp only[aI,ct,br];rw[k7];simp[newRow,newObj,Sem.run]
     rw[af h0];have K_:(zeroValue e).run A.C.P w=.ok ze w:=by simp[zeroValue,typeInfo,hX,DC]
     simp only[aI,ct,br,K_];rw[DD,Lc];simp[newRow,newObj,Sem.run]
    have C4:Fr (fun _=>False) w (w.alloc (.cells J.toArray e)):=⟨rfl,rfl,rfl,by simp,fun k hk _=>gw _ _ _ hk⟩;have grow:=k2.KW hC (w.alloc (.cells J.toArray e)) C4 (fun b=>S' b\/b=w.heap.size) (fun b h=>.inl h) (fun b h=>by
     rcases h with h | h
     ·exact bg (k2.st b h) C4.size
     subst h;simp) (fun b h=>h.imp id fun h=>by omega)
    have rr:an A.C.P (w.alloc (.cells J.toArray e)) (ay S' (w.alloc (.cells J.toArray e))) e bW (.slice (some ⟨w.heap.size,0,none⟩) len len):=by
     refine an.of_flat hX (by omega) ?_ (by rw[qT];exact k4.mono (fun _ h=>h) (fun b hb=>gw _ _ _ (k2.st b hb)));have:=uY (base:=0) (e:=e) (size:=z.size) w J.toArray len (bd _) (by simp only[maxLen];have:=Am len N;omega) (by simp[k4.len,k5]);rw[qT,k5];exact this
    have F3:ay (fun b=>S' b\/b=w.heap.size) (w.alloc (.cells J.toArray e)) (.sl bW) (.slice (some ⟨w.heap.size,0,none⟩) len len):=rr.yG (fun b h=>.inl h) (fun g hg=>by simp[bH]at hg;exact .inr hg.symm);have aJ:=grow.Iy (o.dst.getD 0) bW (k2.gT hd) hL HB _ F3;exact bS G (I _ _ _ _ _ _ _ k1 (aJ.value o.dst hd _ _ (.ow _ _ fun _=>⟨.inr rfl,(ak _ _ _).symm⟩)))
   exact D.elim
  exact D.elim
 exact D.elim
end Go.AM
namespace Go.AM
open Go.RowKit
theorem DK:∀{a b:List Nat},MQ a b=true->a=b
 | [],[],_=>rfl
 | [],_::_,h=>by cases h
 | _::_,[],h=>by cases h
 | a::r,b::s,h=>by
  unfold MQ at h;split at h
  ·rename_i e;rw[bq e,DK h]
  cases h
theorem yO{a b:MK}(h:MR a b=true):a=b:=by
 cases a with
 | str=>cases b with | str=>rfl | int k=>cases h | st s=>cases h
 | int k=>cases b with
  | str=>cases k<;>cases h
  | int k'=>cases k<;>cases k'<;>first | rfl | cases h
  | st s=>cases k<;>cases h
 | st s=>cases b with
  | str=>cases h
  | int k=>cases k<;>cases h
  | st s'=>rw[DK h]
def descOf:MK->TypeDesc
 | .str=>.string
 | .int k=>.int k
 | .st _=>.string
def vj:MK->Prop
 | .st _=>False
 | _=>True
variable {mk:MK}
theorem yP{P:Program}{t:TypeId}{ti:TI}(h:jw P t ti)(hp:vj mk)(m:tb ti=some mk):P.underlying t=some (descOf mk):=by
 have u:=h.under;unfold tb at m;cases z:ti.ud<;>rw[z]at m u<;>simp only at m<;>first
  | (cases m;done)
  | (injection m with m;subst m;exact u)
  | (
    split at m
    ·obtain⟨s,_,rfl⟩:=az.1 m;exact hp.elim
    cases m)
theorem tp:∀{sh:List Nat} {cs:List PV} {l:List Value},iB sh cs=some l->cs=l.map .im/\gZ sh l:=by
 intro sh
 induction sh with
 | nil=>
  intro cs l h;cases cs with
  | nil=>injection h with h;subst h;exact⟨rfl,trivial⟩
  | cons c cs=>cases h
 | cons n sh ih=>
  intro cs l h;cases cs with
  | nil=>simp[iB]at h
  | cons c cs=>
   unfold iB at h;split at h
   all_goals first
    | contradiction
    | (
      rename_i m u;injection m with m D;injection u with u G;subst m D u G;obtain⟨l',hl,rfl⟩:=az.1 h;obtain⟨I,z⟩:=ih hl;subst I
      first
       | exact⟨rfl,trivial,z⟩
       | exact⟨rfl,rfl,z⟩)
    | (cases h)
variable {k:Value}
theorem nj{a:AV}(h:keyOf mk a=some k):∃x,a=.p x/\mk.ok k/\∀S w v,ay S w x v->v=k:=by
 unfold keyOf at h;split at h
 ·injection h with h;subst h;exact⟨_,rfl,trivial,fun S w v m=>m.bc⟩
 ·injection h with h;subst h;exact⟨_,rfl,rfl,fun S w v m=>m.bc⟩
 ·obtain⟨l,hl,rfl⟩:=az.1 h;obtain⟨rfl,G⟩:=tp hl;refine⟨_,rfl,by simpa [MK.ok] using G,fun S w v m=>?_⟩;obtain⟨xs,I,D,_,J⟩:=m.kW;rw[I];congr 1;apply gV;apply fj;intro i;by_cases z:i<xs.size
  ·have u:i<l.length:=by
                  have:l.length=xs.size:=by simpa using D
                  omega
   have:=(J i (.im l[i]) xs[i] (by rw[ao,aM u];rfl) (bE z)).bc;rw[gy,bE z,this];simp[u]
  have u:¬i<l.length:=by
                  have:l.length=xs.size:=by simpa using D
                  omega
  rw[dI (by simpa using z),dI (by simpa using u)]
 cases h
theorem yQ(hp:vj mk){a b:Value}(m:mk.ok a)(hb:mk.ok b):Instr.sameNow (descOf mk) a b=some (yx a b):=by
 cases mk with
 | str=>
  cases a<;>first | (exact m.elim) | skip
  cases b<;>first | (exact hb.elim) | skip
  simp only[Instr.sameNow,descOf,yx];congr 1;rw[gU,uZ];simp
 | int k=>
  cases a<;>first | (exact m.elim) | skip
  cases b<;>first | (exact hb.elim) | skip
  have u:_=k:=m;have z:_=k:=hb;subst u;subst z;simp[Instr.sameNow,descOf,yx];rw[gU];simp
 | st s=>exact hp.elim
theorem DL(hp:vj mk)(h:mk.ok k):MapKept.IsKey (descOf mk) k:=by
 cases mk with
 | str=>cases k<;>first | (exact h.elim) | exact trivial
 | int j=>cases k<;>first | (exact h.elim) | exact h
 | st s=>exact hp.elim
theorem aL.key{C:Ctx}(hC:aL C){u:TypeId}{z:TI}(h:C.T u=some z)(G:tb z=some mk):As C.P u mk:=by
 by_cases hp:vj mk
 ·have I:=yP (hC.eL u z h) hp G;refine⟨fun e k w D=>MapKept.run_checkKey I (DL hp D) e 9999,fun k w ms D J=>MapKept.run_findKey I ?_⟩;generalize 0=i
  induction ms generalizing i with
  | nil=>rfl
  | cons m ms ih=>
   have hs:=yQ hp D (J m aW);unfold Instr.findNow mN;rw[hs];cases yx k m.key with
   | true=>rfl
   | false=>exact ih (fun x N=>J x (cg _ N)) _
 cases mk with
 | st s=>exact hC.keys u z s h G
 | str=>exact (hp trivial).elim
 | int j=>exact (hp trivial).elim
theorem F5:∀{sh:List Nat} {a b:List Value},gZ sh a->gZ sh b->u4 a b=true->a=b:=by
 intro sh
 induction sh with
 | nil=>
  intro a b u hb _;cases a with
  | nil=>cases b with
   | nil=>rfl
   | cons y b=>exact hb.elim
  | cons x a=>exact u.elim
 | cons n sh ih=>
  intro a b u hb h;cases a with
  | nil=>exact u.elim
  | cons x a=>cases b with
   | nil=>exact hb.elim
   | cons y b=>
    simp only[u4,aw]at h;rw[ih u.2 hb.2 h.2];have e:x=y:=by
     have D:=u.1;have m:=hb.1;unfold yr at D m;split at D
     ·split at m<;>first | (exact m.elim) | (rename_i z;cases z;done) | skip
      have:=h.1;simp[yw]at this;rw[this]
     ·split at m<;>first | (exact m.elim) | (rename_i z;cases z;done) | skip
      have:=h.1;simp[yw]at this;rw[this,D,m]
     ·split at m<;>first | (exact m.elim) | (rename_i z;cases z;done) | skip
      have:=h.1;simp[yw]at this;rw[this]
     exact D.elim
    rw[e]
theorem IL{a b:Value}(m:mk.ok a)(hb:mk.ok b)(h:yx a b=true):a=b:=by
 cases mk with
 | str=>
  cases a<;>first | (exact m.elim) | skip
  cases b<;>first | (exact hb.elim) | skip
  simp[yx]at h;rw[h]
 | int k=>
  cases a<;>first | (exact m.elim) | skip
  cases b<;>first | (exact hb.elim) | skip
  have u:_=k:=m;have z:_=k:=hb;subst u;subst z;simp[yx]at h;rw[h]
 | st s=>
  cases a<;>first | (exact m.elim) | skip
  cases b<;>first | (exact hb.elim) | skip
  congr 1;exact gV (F5 (sh:=s) m hb h)
theorem find_spec(R:mk.ok k):∀(es:List (Value×PV)) (ms:List MapEntry) (j:Nat),ms.length=es.length->(∀(i:Nat) p m,es[i]?=some p->ms[i]?=some m->m.key=p.1/\mk.ok p.1)->
  (mN k ms j=none/\pc es k=none/\∀v,qB es k v=es++[(k,v)])\/
  ∃i m p,mN k ms j=some (j+i,m.val)/\ms[i]?=some m/\es[i]?=some p/\p.1=k/\pc es k=some p.2/\∀v,qB es k v=es.set i (k,v):=by
 intro es
 induction es with
 | nil=>
  intro ms j hl _;have:ms=[]:=cW hl;subst this;exact .inl ⟨rfl,rfl,fun v=>rfl⟩
 | cons p es ih=>
  intro ms j hl J;cases ms with
  | nil=>cases hl
  | cons m ms=>
   obtain⟨N,u⟩:=p;obtain⟨z,O⟩:=J 0 _ _ rfl rfl;simp only at z O;cases hv:yx k N with
   | true=>
    refine .inr ⟨0,m,(N,u),?_,rfl,rfl,(IL R O hv).symm,by simp[pc,hv],fun v=>by simp[qB,hv]⟩;simp[mN,z,hv]
   | false=>
    rcases ih ms (j+1) (by simpa using hl) (fun i p m hp U=>J (i+1) p m (by simpa using hp) (by simpa using U)) with⟨D,G,I⟩ | ⟨i,W,p,D,G,I,Y,Z,q6⟩
    ·exact .inl ⟨by simp[mN,z,hv,D],by simp[pc,hv,G],fun v=>by simp[qB,hv,I v]⟩
    refine .inr ⟨i+1,W,p,?_,by simpa using G,by simpa using I,Y,by simp[pc,hv,Z],fun v=>by simp[qB,hv,q6 v]⟩;simp only[mN,z,hv,D];rw[gv,Nat.add_comm 1 i]
theorem rN{n:Nat}:∀{sh:List Nat} {l:List Value},gZ sh l->((l.zip l).all fun (x,y)=>Instr.sameBits n x y)=true:=by
 intro sh
 induction sh with
 | nil=>intro l h;cases l with
  | nil=>rfl
  | cons x l=>exact h.elim
 | cons c sh ih=>
  intro l h;cases l with
  | nil=>exact h.elim
  | cons x l=>
   rw[List.zip_cons_cons,qP,ih h.2,Bool.and_true];have m:=h.1;unfold yr at m;split at m
   ·cases n<;>exact (uZ _ _).2 rfl
   ·cases n<;>simp[Instr.sameBits]
   ·cases n<;>simp[Instr.sameBits]
   exact m.elim
theorem sameBits_self(m:mk.ok k):Instr.sameBits 10000 k k=true:=by
 cases mk with
 | str=>
  cases k<;>first | (exact m.elim) | skip
  simp only[Instr.sameBits];exact (uZ _ _).2 rfl
 | int j=>
  cases k<;>first | (exact m.elim) | skip
  simp[Instr.sameBits]
 | st s=>
  cases k<;>first | (exact m.elim) | skip
  rename_i xs;show (xs.size==xs.size&&(xs.toList.zip xs.toList).all fun (x,y)=>Instr.sameBits 9999 x y)=true;rw[rN (sh:=s) m];simp
variable {A:jR}
theorem yR{o:Oper}(t:TypeId)(I:o.op=.makeMap t none):eD A o:=by
 intro V L S rho s a w K next Q hC D hV J u O z
 simp only[aZ,I]at u;split at u
 ·split at u
  ·split at u
   ·obtain⟨R,G⟩:=O _ _ _ u;have U:=D.new hC (o.dst.getD 0) _ (D.gT J) R G (w.alloc (.map #[] 0)) rfl rfl rfl (by simp) (fun _=>False) (fun k W _=>gw _ _ _ W) (fun _ h=>h.elim) (.map (some w.heap.size))
     (fun g N=>by simp[bH]at N;subst N;simp) (fun T=>by
      refine⟨w.heap.size,#[],0,ak _ _ _,(MapKept.heap_alloc w _).1,rfl,by simp,List.Pairwise.nil,fun m Y=>by cases Y⟩)
    exact bS (by simp[execOp,I,Instr.makeMap]) (z _ _ _ S _ _ _ u (U.value o.dst J _ _ (.ow _ _ fun _=>⟨.inr rfl,(ak _ _ _).symm⟩)))
   exact u.elim
  exact u.elim
 exact u.elim
theorem ph{S:Nat->Prop}{w:World}{P:Program}{L:Nat->Prop}{rho:Nat->Value}{h:Nat->AB}{id:Nat}{es:List (Value×PV)}(z:cd S w P L rho h id (.map mk es)):
  ∃g ms u,rho id=.map (some g)/\w.heap[g]?=some (.map ms u)/\ms.size=es.length/\(∀(i:Nat) p m,es[i]?=some p->ms[i]?=some m->m.key=p.1/\mk.ok p.1/\ay S w p.2 m.val)/\jX ms u:=z
variable {ms:Array MapEntry}
theorem BP{u:Nat}(h:jX ms u)(k v:Value):jX (ms.push { key:=k,val:=v,born:=u }) (u+1):=by
 obtain⟨G,D⟩:=h;refine⟨?_,fun m z=>?_⟩
 ·rw[Array.toList_push,dJ];refine List.pairwise_append.2 ⟨G,An _ _,fun a I b hb=>?_⟩;obtain⟨m,z,rfl⟩:=aR.1 I;simp at hb;subst hb;exact D m z
 rw[Array.toList_push,cX]at z;rcases z with z | z
 ·have:=D m z;omega
 simp at z;subst z;simp
theorem w7{u:Nat}(h:jX ms u)(j:Nat)(k v:Value):jX (ms.modify j fun e=>{ e with key:=k,val:=v }) u:=by
 have e:(ms.modify j fun e=>{ e with key:=k,val:=v }).toList.map (·.born)=ms.toList.map (·.born):=by
  apply fj;intro i;simp only[ao,gy,u3];split<;>simp[Option.map_map,Function.comp_def]
 obtain⟨z,D⟩:=h;refine⟨by rw[e];exact z,fun m G=>?_⟩;have hb:m.born∈ms.toList.map (·.born):=by rw[<-e];exact aR.2 ⟨m,G,rfl⟩
 obtain⟨I,J,hb⟩:=aR.1 hb;rw[<-hb];exact D I J
theorem DN{es:List (Value×PV)}{R:PV->Value->Prop}(z:ms.size=es.length)(D:∀(i:Nat) p m,es[i]?=some p->ms[i]?=some m->m.key=p.1/\mk.ok p.1/\R p.2 m.val):∀m∈ms.toList,mk.ok m.key:=by
 intro m G;obtain⟨i,u,rfl⟩:=List.getElem_of_mem G;have I:i<es.length:=by rw[<-z];simpa using u
 obtain⟨J,N,_⟩:=D i es[i] (ms.toList[i]) (aM I) (by simp at u;simp[u]);rw[J];exact N
theorem yS{P:Program}{t:TypeId}{ti:TI}(h:jw P t ti)(Y:yA P t ti)(S:Nat->Prop)(w:World):∃z,(zeroValue t).run P w=.ok z w/\ay S w (j4 ti) z:=by
 obtain⟨info,z,O,h2,h3,R,I,h6,Z,h8⟩:=h;obtain⟨PM,z',m,D,G⟩:=Y;rw[O]at m;injection m with m;subst m;rw[R]at D;injection D with D;subst D;refine⟨z,by simp[zeroValue,typeInfo,O,R],?_⟩;unfold j4;cases U:ti.ud.agg with
 | true=>
  rw[U]at G;cases z<;>first | cases G | skip
  rename_i cs;have J:cs=ti.zero.toArray:=I;subst J;refine .ag _ _ (by simp) (fun u N=>Z u (by simpa using N)) fun i c v W hv=>?_;rw[ao]at W;obtain⟨u,N,rfl⟩:=az.1 W;have:u=v:=by simpa [N] using hv
  subst this;exact nQ S w u
 | false=>
  rw[U]at G;have J:z.cells=#[z]:=by cases z<;>first | rfl | cases G
  rw[J]at I;have:ti.zero=[z]:=by simpa using (aa Array.toList I).symm
  rw[this];exact nQ S w z
theorem rO{o:Oper}(t:TypeId)(x i:Operand)(I:Bool){V L S:Nat->Prop}{rho:Nat->Value}{s:AS}{a:Act}{w:World}{K:KK}{next:Act->World->Prop}{Q:Exit->Act->World->Prop}(hC:aL A.C)(U:aU A V L S rho s a w)(hd:∀d,o.dst=some d->d<A.n)
  (D:∀v eff new S' rho' a' w',K v eff new->aU A (mG V o.dst) (nR L new (o.dst.getD 0)) S' rho' ⟨cU s.t o.dst v,app s.h eff⟩ a' w'->next a' w')
  {kt et:TypeId} {O:TI} {mk:MK} {k:Value} {es:List (Value×PV)} {r:Option PV} {g:Nat} {ms:Array MapEntry} {J:Nat} (nf:A.C.T et=some O) (dr:A.C.P.underlying t=some (.map kt et)) (C5:As A.C.P kt mk) (W:mk.ok k) (hi:a.eval i=k) (N:a.eval x=.map (some g)) (h2:w.heap[g]?=some (.map ms J)) (h3:ms.size=es.length) (h4:∀(i:Nat) p m,es[i]?=some p->ms[i]?=some m->m.key=p.1/\mk.ok p.1/\ay S w p.2 m.val) (hr:pc es k=r)
  (hq:match I with
   | true=>K (.tu [.p (r.getD (j4 O)),.p (.im (.bool r.isSome))]) [] none
   | false=>K (.p (r.getD (j4 O))) [] none) (aq:o.op=.lookup t x i I):o.wp A.C.P a w next Q:=by
 obtain⟨z,hz,QY⟩:=yS (hC.eL et O nf) (hC.zs et O nf) S w;have fI:∀m∈ms.toList,mk.ok m.key:=DN h3 h4;have key:∃u,(Instr.lookup t (a.eval x) (a.eval i) I).run A.C.P w=.ok (if I then .tuple #[u,.bool r.isSome] else u) w/\ay S w (r.getD (j4 O)) u:=by
  rcases find_spec W es ms.toList 0 (by simpa using h3) (fun i p m hp hm=>by obtain⟨Y,R,_⟩:=h4 i p m hp (by simpa using hm);exact⟨Y,R⟩) with⟨Y,R,_⟩ | ⟨j,m,p,Y,R,q3,q4,q5,_⟩
  ·rw[hr]at R;subst R;refine⟨z,?_,QY⟩;cases I<;>simp[Instr.lookup,run_underlying dr,N,lX h2,hi,C5.check _ _ _ W,C5.find _ _ _ W fI,Y,hz]
  rw[hr]at q5;subst q5;refine⟨m.val,?_,(h4 j p m q3 (by simpa using R)).2.2⟩;cases I<;>simp[Instr.lookup,run_underlying dr,N,lX h2,hi,C5.check _ _ _ W,C5.find _ _ _ W fI,Y]
 obtain⟨u,G,hu⟩:=key;cases I with
 | true=>
  refine ar U hd D hq (.tu _ _ rfl fun i c v Z N=>?_) (by simp only[execOp,aq,aI,G,br,ct];rfl)
  match i with
  | 0=>simp at Z N;subst Z N;exact .p _ _ hu
  | 1=>simp at Z N;subst Z N;exact .p _ _ (.im _)
  | i+2=>simp at Z
 | false=>exact ar U hd D hq (.p _ _ hu) (by simp only[execOp,aq,aI,G,br,ct];rfl)
theorem BQ{o:Oper}(t:TypeId)(x i:Operand)(O:Bool)(I:o.op=.lookup t x i O):eD A o:=by
 intro V L S rho s a w K next Q hC z hV hd u hn D
 simp only[aZ,I]at u;have J:=aH z x fun j R=>hV j (by simp[I,Op.operands,R]);have N:=aH z i fun j R=>hV j (by simp[I,Op.operands,R]);split at u
 case h_2=>exact u.elim
 rename_i kt et size bytes zero eq hT;have U:=(hC.eL t _ hT).under;simp only at U;split at u
 case h_2=>exact u.elim
 rename_i tk te NT nf;split at u
 case h_2=>exact u.elim
 rename_i mk W;have C5:=hC.key NT W;split at u
 ·rename_i id hid;split at u
  case h_2=>exact u.elim
  rename_i Y es tq;split at u
  case h_2=>exact u.elim
  rename_i Z;obtain rfl:=yO Z;split at u
  case h_2=>exact u.elim
  rename_i k hk;obtain⟨xk,Kk,iS,Ld⟩:=nj hk;obtain⟨r,hr,u⟩:=u;rw[hid]at J;obtain⟨hL,hv⟩:=J.bu (by rw[tq];trivial);have hh:=z.hp id hL;rw[tq]at hh;obtain⟨g,ms,G,h1,h2,h3,h4,_⟩:=ph hh;rw[Kk]at N;exact rO t x i O hC z hd D nf U C5 iS (Ld _ _ _ N.cb) (hv.trans h1) h2 h3 h4 hr u I
 ·rename_i Y es hid;split at u
  case h_2=>exact u.elim
  rename_i Z;obtain rfl:=yO Z;split at u
  case h_2=>exact u.elim
  rename_i k hk;obtain⟨xk,Kk,iS,Ld⟩:=nj hk;obtain⟨r,hr,u⟩:=u;rw[hid]at J;obtain⟨g,ms,G,hv,_,h2,h3,h4,_⟩:=J.cb.yt;rw[Kk]at N;exact rO t x i O hC z hd D nf U C5 iS (Ld _ _ _ N.cb) hv h2 (by rw[aB];exact h3) (fun i p m hp hm=>by
   rw[ao,az]at hp;obtain⟨q,u,rfl⟩:=hp;obtain⟨e1,e2,e3⟩:=h4 i q m u hm;exact⟨e1,e2,by rw[e3];exact .im _⟩) hr u I
 exact u.elim
theorem BS{es:Array MapEntry}{m:Array Nat}{e:MapEntry}(z:e∈(leftOf es m).toList):(leftOf es (m.push e.born)).size<(leftOf es m).size:=by
 have h:(leftOf es (m.push e.born))=(leftOf es m).filter fun x=>!(x.born==e.born):=by
  unfold leftOf;rw[Array.filter_filter];congr 1;funext x;rw[Array.contains_push];cases m.contains x.born<;>cases h:x.born==e.born<;>simp_all
 rw[h];rcases Nat.lt_or_ge ((leftOf es m).filter fun x=>!(x.born==e.born)).size (leftOf es m).size with u | u
 ·exact u
 exfalso;have D:=Array.size_filter_le (p:=fun x=>!(x.born==e.born)) (xs:=leftOf es m);have G:=(Array.filter_size_eq_size (p:=fun x=>!(x.born==e.born)) (xs:=leftOf es m)).1 (Nat.le_antisymm D u);have:=G e (by simpa using z);simp at this
theorem run_next_at{P:Program}(w:World)(O:TypeId)(g J m:Nat)(u:Array Nat)(es:Array MapEntry)(R:w.heap[g]?=some (.mapIter (some J) m u m))(hb:w.heap[J]?=some (.map es m))(D:∀x∈es.toList,x.born<m):
  ((leftOf es u).size=0/\(Instr.next (.pointer (some ⟨g,0,none⟩)) false O).run P w=.ok (.tuple #[.bool false]) w)\/
  ∃e∈(leftOf es u).toList,∃z:World,z.heap=w.heap/\z.os=w.os/\z.tape=w.tape/\z.output=w.output /\
   (Instr.next (.pointer (some ⟨g,0,none⟩)) false O).run P w=.ok (.tuple #[.bool true,e.key,e.val]) { z with heap:=w.heap.setIfInBounds g (.mapIter (some J) m (u.push e.born) m) }:=by
 simp only[Instr.next,getObj,aI,Sem.run,R,hb,Result.andThen,next_test_false u es m m D (aC _),jW,if_false];unfold leftOf;have N:∀x∈(Array.filter (fun e=>!u.contains e.born) es).toList,x.born<m:=fun x G=>D x (by simp at G ⊢;exact G.1);generalize Array.filter (fun e=>!u.contains e.born) es=L at N ⊢;have Z:L.filter (fun x=>decide (x.born<m))=L:=Array.filter_eq_self.2 (fun x G=>by simpa using N x (by simpa using G));have e2:L.filter (fun x=>decide (x.born>=m))=#[]:=by
  rw[Array.filter_eq_empty_iff];intro x G;have:=N x (by simpa using G);simp;omega
 simp only[Z,e2,Array.append_empty];by_cases U:L.size=0
 ·left;have:L=#[]:=qQ U;subst this;refine⟨rfl,?_⟩;simp[choose,Sem.run,Question.forced]
 right;have bO:L.isEmpty=false:=by simp[Array.isEmpty,U]
 simp only[bO,jW,if_false,Array.empty_append,Array.size_map];have QZ:∃(j:Nat) (z:World),j<L.size/\(z.heap=w.heap/\z.os=w.os/\z.tape=w.tape/\z.output=w.output)/\(choose (Question.mapNext L.size)).run P w=.ok j z:=by
  by_cases W:L.size<=1
  ·exact⟨0,w,by omega,⟨rfl,rfl,rfl,rfl⟩,by simp[choose,Sem.run,Question.forced,W]⟩
  exact⟨_,w.drew,nK _ (by omega),⟨rfl,rfl,rfl,rfl⟩,by
   simp only[choose,Sem.run,Question.forced,dS,W,if_false,Question.cut];rfl⟩
 obtain⟨j,z,hj,⟨Y,q2,q3,q4⟩,I⟩:=QZ;refine⟨L[j],by simp,z,Y,q2,q3,q4,?_⟩;simp only[I,uT,bE hj,eM,aI,setObj,Sem.run,Result.andThen,Y,R];rfl
theorem DO{o:Oper}(t:TypeId)(x:Operand)(G:o.op=.range t x):eD A o:=by
 intro V L S rho s a w K next Q hC u Y J z Z D
 simp only[aZ,G]at z;have N:=aH u x fun j hj=>Y j (by simp[G,Op.operands,hj]);split at z
 case h_2=>exact z.elim
 rename_i kt et size bytes zero eq hT;have O:=(hC.eL t _ hT).under;simp only at O;split at z
 case h_2=>exact z.elim
 rename_i mk es hid;rw[hid]at N;obtain⟨g,ms,m,hv,hS,R,U⟩:=N.cb.yt;obtain⟨hL,I⟩:=Z _ _ _ z;have dv:=u.st g hS;have aJ:=u.new hC (o.dst.getD 0) _ (u.gT J) hL I (w.alloc (.mapIter (some g) m #[] m)) rfl rfl rfl (by simp) (fun _=>False) (fun k hk _=>gw _ _ _ hk) (fun _ h=>h.elim) (.pointer (some ⟨w.heap.size,0,none⟩))
  (fun g W=>by simp[bH]at W;subst W;simp) (fun T=>by
   refine⟨w.heap.size,g,ms,m,#[],ak _ _ _,heap_alloc_new w _,hS,(heap_alloc_old w _ dv).trans R,U,?_,fun p hp=>by cases hp⟩;rw[<-U.1];simp[leftOf])
 exact bS (by simp[execOp,G,hv,run_range_map w t _ _ g ms m O R]) (D _ _ _ S _ _ _ z (aJ.value o.dst J _ _ (.bx _ _ _ fun _=>⟨.inr rfl,_,ak _ _ _,rfl⟩)))
theorem DP{o:Oper}(x:Operand)(O:o.op=.entry x):eD A o:=by
 intro V L S rho s a w K next Q hC m Y Z z hn u
 simp only[aZ,O]at z;have R:=aH m x fun j hj=>Y j (by simp[O,Op.operands,hj]);split at z
 case h_2=>exact z.elim
 rename_i id hid;split at z
 case h_2=>exact z.elim
 rename_i mk es k p I;rw[hid]at R;obtain⟨hL,U,eY,D⟩:=R.dt (by rw[I];trivial);have W:=m.hp id hL;rw[I]at W;obtain⟨g,mg,ms,clock,seen,G,h2,h3,h4,h5,h6,h7⟩:=W;have eg:U=g:=by rw[eY]at G;injection G with G;injection G with G;injection G
 subst eg;obtain⟨e,he,Hs,rfl,k1,k2⟩:=h7 p rfl;have hf:ms.find? (·.born==e.born)=some e:=by
  rw[<-Array.find?_toList];exact find_born e ms.toList (h5.2.2.1.imp fun h=>Nat.ne_of_lt h) he
 have J:(Instr.entry (.pointer (some ⟨U,0,none⟩))).run A.C.P w=.ok (.tuple #[e.key,e.val]) w:=by
  simp only[Instr.entry,getObj,aI,Sem.run,h2,h4,Result.andThen,Array.back?_push,bne_self_eq_false,jW,if_false,hf];rfl
 refine bS (by simp only[execOp,O,D,aI,J,br,ct];rfl) (u _ _ _ S _ _ _ z (m.value o.dst Z _ _ (.tu _ _ rfl fun i c v N D=>?_)))
 match i with
 | 0=>simp at N D;subst N D;rw[k1];exact .p _ _ (.im _)
 | 1=>simp at N D;subst N D;rw[k2];exact .p _ _ (.im _)
 | i+2=>simp at N
theorem vk{o:Oper}(t:TypeId)(x i y:Operand)(aq:o.op=.mapUpdate t x i y):eD A o:=by
 intro V L S rho s a w K next Q hC G hV hd u hn O
 simp only[aZ,aq]at u;have hx:=aH G x fun j hj=>hV j (by simp[aq,Op.operands,hj]);have hi:=aH G i fun j hj=>hV j (by simp[aq,Op.operands,hj]);have hy:=aH G y fun j hj=>hV j (by simp[aq,Op.operands,hj]);split at u
 case h_2=>exact u.elim
 rename_i kt et size bytes zero eq hT;have dr:=(hC.eL t _ hT).under;simp only at dr;split at u
 case h_2=>exact u.elim
 rename_i tk NT;split at u
 case h_2=>exact u.elim
 rename_i mk R;have C5:=hC.key NT R;split at u
 case h_2=>exact u.elim
 rename_i id hid;split at u
 case h_2=>exact u.elim
 rename_i mk' es tq;split at u
 case h_2=>exact u.elim
 rename_i BR;obtain rfl:=yO BR;split at u
 case h_2=>exact u.elim
 rename_i k hk;obtain⟨xk,Kk,J,Ld⟩:=nj hk;obtain⟨yv,fz,S2,u,aJ,N,nX,hF,wU⟩:=e8 hC G (kM.refl s.h) hy u;split at u
 case h_2=>exact u.elim
 rename_i tP;have o9:app s.h fz id=.map mk es:=by rw[iD tP];exact tq
 rw[hid]at hx;obtain⟨hL,hv⟩:=hx.bu (by rw[tq];trivial);have hh:=aJ.hp id hL;have hh:cd S2 w A.C.P L rho (app s.h fz) id (app s.h fz id):=hh;rw[o9]at hh;obtain⟨g,ms,D,h1,h2,h3,h4,MS⟩:=ph hh;rw[Kk]at hi;have hi:=Ld _ _ _ hi.cb;have fI:∀m∈ms.toList,mk.ok m.key:=DN h3 h4;have fin:∀I U,(Instr.mapUpdate t (a.eval x) (a.eval i) (a.eval y)).run A.C.P w=.ok () { w with heap:=w.heap.setIfInBounds g (.map I U) }->I.size=(qB es k yv).length->jX I U ->
   (∀(i:Nat) p m,(qB es k yv)[i]?=some p->I[i]?=some m->m.key=p.1/\mk.ok p.1/\ay S2 w p.2 m.val)->o.wp A.C.P a w next Q:=by
  intro I U hrun hsz NU NV;obtain⟨g1,g2⟩:=MapKept.heap_set (o':=.map I U) h2;refine jx (w':={ w with heap:=w.heap.setIfInBounds g (.map I U) }) (by simp only[execOp,aq,aI,hrun,br,ct]) ?_;have cF:=aJ.write hC id hL (by show (app s.h fz id).live;rw[o9];trivial) (.map mk (qB es k yv)) (fun _ h=>by cases h) { w with heap:=w.heap.setIfInBounds g (.map I U) } rfl rfl rfl (by simp) (fun k hk=>g2 k fun e=>hk (by rw[h1,e];rfl)) fun T=>by
   refine⟨g,I,U,h1,g1,hsz,fun i p m hp z=>?_,NU⟩;obtain⟨W,Z,Y⟩:=NV i p m hp z;exact⟨W,Z,Y.mono T.hS T.keep⟩
  have:=O _ _ _ S2 _ _ _ u (by
   rw[bJ];exact cF.value o.dst hd .junk undef (.junk _))
  exact this
 rcases find_spec J es ms.toList 0 (by simpa using h3) (fun i p m hp z=>by obtain⟨W,Z,_⟩:=h4 i p m hp (by simpa using z);exact⟨W,Z⟩) with⟨W,Z,Y⟩ | ⟨j,m,p,W,Z,Y,q4,q5,q6⟩
 ·refine fin (ms.push { key:=k,val:=a.eval y,born:=D }) (D+1) ?_ (by rw[Y];simp[h3]) (BP MS _ _) fun i p m hp z=>?_
  ·simp[Instr.mapUpdate,run_underlying dr,hv,h1,lX h2,hi,C5.check _ _ _ J,C5.find _ _ _ J fI,W,MapKept.run_setObj_map _ h2]
  rw[Y]at hp;by_cases dv:i<es.length
  ·rw[bQ dv]at hp;rw[Array.getElem?_push_lt (by omega)]at z;exact h4 i p m hp (by rw[<-z];exact bE _)
  have hX:i=es.length:=by
   have:=ah hp;simp at this;omega
  subst hX;rw[<-h3]at z;simp at hp z;subst hp z;exact⟨rfl,J,N⟩
 have F4:ms[j]?=some m:=by simpa using Z
 have R:m.key=k:=by rw[<-q4];exact (h4 j p m Y F4).1
 refine fin (ms.modify j fun e=>{ e with key:=k,val:=a.eval y }) D ?_ (by rw[q6];simp[h3]) (w7 MS _ _ _) fun i p' m' hp z=>?_
 ·simp[Instr.mapUpdate,run_underlying dr,hv,h1,lX h2,hi,C5.check _ _ _ J,C5.find _ _ _ J fI,W,F4,R,Instr.keyThatStays,sameBits_self J,MapKept.run_setObj_map _ h2]
 rw[q6]at hp;rw[u3]at z;by_cases e:j=i
 ·subst e;rw[ae rfl,F4]at z;rw[aP (ah Y)]at hp;simp at hp z;subst hp z;exact⟨rfl,J,N⟩
 rw[af e]at z;rw[bw e]at hp;exact h4 i p' m' hp z
theorem ok_slice{o:Oper}(t:TypeId)(x:Operand)(N O:Option Operand)(G:o.op=.slice t x N O none):eD A o:=by
 intro V L S rho s a w K next Q hC D R hd u hn z
 have old:=BI t x N O G hC D R hd (K:=K) (Q:=Q) (next:=next);simp only[aZ,G]at u;split at u
 case h_2=>exact old u z
 rename_i id hid;split at u
 case h_2=>exact old u z
 rename_i e' es ai;rcases u with u | u
 case inr=>exact old u z
 have hx:=aH D x fun j I=>R j (by simp[G,Op.operands,I]);have KZ:∀y,N=some y->aE S w A.C.P L rho s.h (ev s.t y) (a.eval y):=fun y Z=>aH D y fun j I=>R j (by simp[G,Op.operands,I,Z]);have K0:∀y,O=some y->aE S w A.C.P L rho s.h (ev s.t y) (a.eval y):=fun y Z=>aH D y fun j I=>R j (by simp[G,Op.operands,I,Z]);unfold nN at u;split at u
 case h_2=>exact u.elim
 rename_i e size bytes zero eq hT;have dr:=(hC.eL t _ hT).under;simp only at dr;split at u
 case h_2=>exact u.elim
 rename_i ng;obtain rfl:=dC ng;split at u
 case h_2=>exact u.elim
 rename_i k m k' n h1 h2;obtain⟨⟨h3,h4,h5⟩,u⟩:=u;rw[hid]at hx;obtain⟨hL,hv⟩:=hx.bu (by rw[ai];trivial);have U:=D.hp id hL;rw[ai]at U;have U:an A.C.P w (ay S w) e' es (rho id):=U;obtain⟨ie,xs,hX,hpos,hown,_⟩:=U;have W:∃ad c,rho id=.slice ad es.length c/\es.length<=c:=by
  rcases hown.2 with⟨g1,g2⟩ | ⟨g,cap,cur,g1,_,_,g2,_⟩
  ·exact⟨none,0,by rw[g1,g2],by omega⟩
  exact⟨_,cap,g1,g2⟩
 obtain⟨ad,c,W,J⟩:=W;have hb:=rL D N O KZ K0 true es.length c k m k' n J h1 h2 h3 h4 h5;refine ar D hd z u (.vw id _ _ _ fun e2 Y=>?_) (by simp[execOp,G,Instr.sliceAt,Instr.slice,hv,W,run_underlying dr,hb,Go.sizeOf,typeInfo,hX];rfl);rw[ai]at Y;injection Y with Y;subst Y;exact⟨hL,es.length,c,ad,ie,W,hX,by omega,by omega,J,rfl⟩
theorem Flat.take{S:Nat->Prop}{w:World}{k:Nat}{es:List (List PV)}{xs:List Value}(h:Flat S w k es xs)(n:Nat)(z:n<=es.length):Flat S w k (es.take n) (xs.take (n*k)):=by
 have G:n*k<=es.length*k:=ba _ z;refine⟨by rw[cu,cu,h.len];rw[jV G,jV z],fun r I=>h.row r (nH I),fun u J=>h.one u (nH J),fun i r j x m D=>?_⟩;have N:=ah m;rw[cu]at N;rw[gY (by omega)]at m;obtain⟨u,O,R⟩:=h.rep i r j x m D;have Su:j<k:=by rw[<-h.row r (aj m)];exact ah D
 refine⟨u,?_,R⟩;rw[gY,O];have:=ba k (show i+1<=n by omega);rw[bR]at this;omega
theorem Flat.drop{S:Nat->Prop}{w:World}{k:Nat}{es:List (List PV)}{xs:List Value}(h:Flat S w k es xs)(n:Nat):Flat S w k (es.drop n) (xs.drop (n*k)):=by
 refine⟨by rw[nI,nI,h.len,qL],fun r z=>h.row r (qH z),fun u D=>h.one u (qH D),fun i r j x m G=>?_⟩;rw[fh]at m;obtain⟨u,I,J⟩:=h.rep (n+i) r j x m G;refine⟨u,?_,J⟩;rw[fh,<-I];congr 1;rw[jT,gv]
theorem DQ{o:Oper}(c:Call)(aq:o.op=.call c)(hc:c.callee=.builtin .clear):eD A o:=by
 intro V L S rho s a w K next Q hC O hV hd G _ W
 obtain⟨callee,args,argTypes⟩:=c;simp only at hc;subst hc;simp only[aZ,aq,dk,dK]at G;split at G
 case h_2=>exact G.elim
 rename_i x t I Dy;have hx:=aH O x fun j hj=>hV j (by simp[aq,Op.operands,Call.operands,hj];rw[<-hj];exact bD.1 (by rw[I];simp));have e1:args=#[x]:=by rw[<-fm (xs:=args),I]
 have e2:argTypes=#[t]:=by rw[<-fm (xs:=argTypes),Dy]
 subst e1 e2;split at G
 case h_2=>exact G.elim
 rename_i e size bytes zero eq hT;have dr:=(hC.eL t _ hT).under;simp only at dr;split at G
 case h_2=>exact G.elim
 rename_i ti nf;split at G
 case h_2=>exact G.elim
 rename_i id u z hid;split at G
 case h_2=>exact G.elim
 rename_i e' es ai;split at G
 case h_2=>exact G.elim
 rename_i AE;simp only[aw]at AE;obtain⟨ng,J⟩:=AE;obtain⟨⟨QM,Q0⟩,G⟩:=G;obtain rfl:=dC ng;have J:0<ti.size:=dT J;rw[hid]at hx;obtain⟨hL,n,cp,ad,Ny,eZ,mI,_,QN,Ki,U⟩:=hx.rJ ai;have hh:=O.hp id hL;rw[ai]at hh;have hh:an A.C.P w (ay S w) e' es (rho id):=hh;obtain⟨D,Y,hX,qT,BL,DC,DD,ga⟩:=(hC.eL e' ti nf).info;rw[hX]at mI;injection mI with mI;subst mI;obtain⟨xs,Q1,hown,qd⟩:=an.flat hX hh;have fin:∀w',(∀ty,(Builtin.clear_ #[t] ty #[a.eval x]).run A.C.P w=.ok (.tuple #[]) w')->aU A V L S rho ⟨s.t,ax s.h id (.row e' (es.take u++List.replicate (z-u) (ti.zero.map qD)++es.drop z))⟩ a w'->o.wp A.C.P a w next Q:=by
  intro w' Z aQ;exact bS (v:=.tuple #[]) (by simp[execOp,aq,resolve,invoke,builtin,Z]) (W _ _ _ S _ _ _ G (aQ.value o.dst hd (.tu []) _ (.tu [] #[] rfl (by simp))))
 by_cases heq:z=u
 ·subst heq;refine fin w (fun ty=>?_) ?_
  ·rw[U,fH];cases (if cp=z then ad else ad.map (·.add (z*D.size)))<;>simp[Builtin.clear_,run_underlying dr]
  rw[fH,List.replicate_zero,qR,iX,eX _ _ _ ai];exact O
 rcases hown.2 with⟨g1,g2⟩ | ⟨g,N,R,g1,_,g3,g4,g5,g6,g7⟩
 ·exact absurd g2 (by omega)
 have HD:=eZ;rw[g1]at HD;injection HD with r1 r2 r3;subst r1 r2 r3;have NF:a.eval x=.slice (some ⟨g,u*D.size,none⟩) (z-u) (N-u):=by
  rw[U,af (by omega)];simp only[eM,Addr.add];split
  ·rename_i h0;rw[h0]
  simp
 have NG:((Array.range ((z-u)*ti.size)).map (ti.zero.toArray[· % ti.zero.toArray.size]!))=Builtin.zeroCells Y.cells (z-u):=by
  unfold Builtin.zeroCells;rw[DD,(show ti.zero.toArray.size=ti.size by simpa using (hC.eL e' ti nf).Dk)]
 have hz:=Flat.zero false S w (hC.eL e' ti nf) J (z-u);rw[NG,<-qT]at hz;have iQ:(Builtin.zeroCells Y.cells (z-u)).toList.length=(z-u)*D.size:=by rw[hz.len,di]
 have Q2:z*D.size<=N*D.size:=ba _ (by omega);have BU:u*D.size+(z-u)*D.size=z*D.size:=by rw[<-jT];congr 1;omega
 have wL:=run_storeCells_at A.C.P g (u*D.size) e' (Builtin.zeroCells Y.cells (z-u)).toList 0 R w g3 (by rw[iQ,g6];omega) hz.one;simp only[jS]at wL;have BV:z-u≠0:=by omega
 refine fin (w.setRow g (R.toList.take (u*D.size)++(Builtin.zeroCells Y.cells (z-u)).toList++R.toList.drop (u*D.size+(Builtin.zeroCells Y.cells (z-u)).toList.length)).toArray) (fun ty=>?_) ?_
 ·rw[NF];cases hk:z-u with
  | zero=>exact absurd hk BV
  | succ m=>
   rw[hk]at wL;simp[Builtin.clear_,run_underlying dr,zeroValue,typeInfo,hX,DC,wL]
 refine O.write hC id hL (by rw[ai];trivial) _ (fun e2 h=>by rw[ai];exact h) _ (setRow_os w g _) (setRow_tape w g _) (setRow_output w g _) (setRow_size w g _) (fun k hk=>setRow_other w g k _ fun e=>hk (by rw[g1,e];rfl)) fun T=>?_;show an A.C.P _ _ e' _ (rho id);have hF:Flat S w D.size (es.take u++List.replicate (z-u) (ti.zero.map qD)++es.drop z) (xs.take (u*D.size)++(Builtin.zeroCells Y.cells (z-u)).toList++xs.drop (z*D.size)):=((qd.take u (by omega)).app hz).app (qd.drop z);refine an.of_flat hX Q1 ?_ (hF.mono T.hS T.keep);have PN:(es.take u++List.replicate (z-u) (ti.zero.map qD)++es.drop z).length=es.length:=by simp;omega
 rw[PN];refine⟨by rw[hF.len,PN],.inr ⟨g,N,_,g1,bd _,setRow_heap w g R _ e' (0,0) g3,g4,g5,?_,?_⟩⟩
 ·rw[lV,bZ,bZ,iQ,cu,nI,gx,g6];omega
 rw[<-g7,iQ,BU];have h1:u*D.size<=es.length*D.size:=ba _ (by omega);have h2:z*D.size<=es.length*D.size:=ba _ Q0;have h3:es.length*D.size<=N*D.size:=ba _ g4;simp only[List.take_append,bZ,cu,gx,g6,iQ,List.take_take,List.drop_take];rw[jV (show u*D.size<=N*D.size by omega),jV h1];rw[Nat.min_eq_right h1,qU (l:=(Builtin.zeroCells Y.cells (z-u)).toList) (by rw[iQ];omega)];rw[show es.length*D.size-(u*D.size+(z-u)*D.size)=es.length*D.size-z*D.size by omega]
end Go.AM
