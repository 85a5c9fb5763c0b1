/- Part 1 of the proof of RulesClearMatchSpec. -/
import Derived.StillTail
import Derived.OwnWalk
import Derived.WalkKit
import Derived.Lib.Hide
import Derived.Below
import Derived.MapKept
set_option linter.unusedVariables false
set_option linter.unusedSimpArgs false
set_option maxRecDepth 100000
set_option maxHeartbeats 8000000
namespace Go
abbrev aaV:=@Bool.eq_false_iff
abbrev aa2:=@Nat.eq_of_beq_eq_true
abbrev adP:=@Go.World.cell?_of_block
abbrev aam:=@Nat.le_refl
abbrev aaF:=@Nat.le_trans
abbrev aaW:=@Nat.lt_of_lt_of_le
abbrev aad:=@List.mem_of_getElem?
abbrev aao:=@List.getElem?_eq_some_iff
abbrev aa7:=@List.getElem?_take
abbrev ac4:=@Array.getD_eq_getD_getElem?
abbrev aei:=@Array.getElem?_setIfInBounds
abbrev aaa:=@if_neg
abbrev abh:=@List.all_eq_true
abbrev aak:=@List.getElem?_map
abbrev aa1:=@Array.getElem?_eq_getElem
abbrev abb:=@Bool.eq_iff_iff
abbrev aaH:=@decide_eq_true_eq
abbrev adQ:=@Go.ByteArray.toList_eq
abbrev adR:=@Array.ext'
abbrev acq:=@Option.map_eq_some_iff
abbrev aau:=@Go.Sem.run_bind
abbrev aaJ:=@Go.Addr.add_lit
abbrev acg:=@List.getElem?_eq_getElem
abbrev aas:=@List.getElem?_drop
abbrev abA:=@Nat.le_of_ble_eq_true
abbrev abP:=@List.getElem?_range
abbrev abC:=@Nat.zero_add
abbrev aaX:=@Nat.add_assoc
abbrev ab5:=@Go.Result.andThen_ok
abbrev aa6:=@Go.Sem.run_pure
abbrev abq:=@List.mem_of_mem_drop
abbrev acM:=@List.mem_of_mem_take
abbrev abQ:=@Nat.add_zero
abbrev abR:=@Nat.add_mul
abbrev ab6:=@Option.map_some
abbrev abr:=@Array.mem_of_getElem?
abbrev adl:=@List.eq_nil_of_length_eq_zero
abbrev aaT:=@Iff.rfl
abbrev abi:=@List.mem_append
abbrev aay:=@Nat.le_of_eq
abbrev acr:=@Go.RowKit.Below.heap_alloc
abbrev acs:=@List.length_nil
abbrev aaB:=@List.length_cons
abbrev aap:=@if_pos
abbrev aab:=@Nat.sub_self
abbrev ab7:=@List.getElem?_set_self
abbrev abc:=@List.getElem?_cons_succ
abbrev ac5:=@List.getElem?_set_ne
abbrev abx:=@List.append_assoc
abbrev aaE:=@List.getElem?_append_left
abbrev aa0:=@List.getElem?_take_of_lt
abbrev acu:=@List.getElem?_append_right
abbrev aa3:=@Nat.succ_mul
abbrev abf:=@Nat.mul_le_mul_right
abbrev aaM:=@List.length_set
abbrev aaj:=@Nat.zero_le
abbrev aaf:=@List.size_toArray
abbrev acv:=@List.length_append
abbrev aat:=@List.length_take
abbrev aaN:=@List.length_drop
abbrev abj:=@Array.length_toList
abbrev ach:=@List.ext_getElem?
abbrev abI:=@List.getElem?_eq_none
abbrev abg:=@List.mem_or_eq_of_mem_set
abbrev ab8:=@List.mem_iff_getElem?
abbrev aa4:=@Nat.lt_or_gt_of_ne
abbrev adm:=@Nat.succ_le_of_lt
abbrev abS:=@List.length_singleton
abbrev aaZ:=@Bool.and_eq_true
abbrev aal:=@Array.mem_toList_iff
abbrev aaY:=@Array.toArray_toList
abbrev abW:=@Go.MapKept.run_getObj_map
abbrev ac6:=@Int.max_def
abbrev adn:=@List.getElem_mem
abbrev abt:=@Nat.mod_lt
abbrev ado:=@List.eq_of_mem_replicate
abbrev aej:=@List.length_map
abbrev aae:=@List.exists_mem_of_ne_nil
abbrev adS:=@List.mem_map
abbrev aan:=@List.length_replicate
abbrev aaq:=@List.foldl_cons
abbrev aa8:=@List.map_cons
abbrev aa5:=@List.mapM_cons
abbrev adT:=@Array.toList_map
abbrev adp:=@Nat.le_mul_of_pos_right
abbrev aek:=@Array.getElem?_toList
abbrev abT:=@Go.MapKept.bytes_beq
abbrev adU:=@List.mem_cons_self
abbrev aaw:=@List.mem_cons_of_mem
abbrev aaP:=@List.all_cons
abbrev ac7:=@Bool.and_true
abbrev ac8:=@List.getElem_of_mem
abbrev adV:=@congrArg
abbrev aac:=@Array.getElem?_modify
abbrev ac9:=@Nat.min_eq_left
abbrev acw:=@List.append_nil
abbrev aaU:=@List.take_append_drop
abbrev acx:=@List.take_take
abbrev adW:=@List.take_of_length_le
end Go
namespace Go.AM
open Go.RowKit
inductive PV where
 | im (x:Value)
 | ag (cs:List PV)
 | sl (es:List (List PV))
 | ip (cs:List PV)
 | fn (f:FuncId) (cap:List PV)
inductive AV where
 | p (x:PV)
 | nl
 | ow (id:Nat)
 | rp (id i off:Nat)
 | bx (id off:Nat)
 | vw (id lo hi:Nat)
 | fn (f:FuncId) (cap:List AV)
 | tu (xs:List AV)
 | st (xs:List AV)
 | junk
inductive MK where
 | str
 | int (k:IntKind)
 | st (sh:List Nat)
def F6:Nat->Value->Prop
 | 0,.string _=>True
 | 1,.int k _=>k=.i64
 | 2,.bool _=>True
 | _,_=>False
def ae4:List Nat->List Value->Prop
 | [],[]=>True
 | n::s,v::r=>F6 n v/\ae4 s r
 | _,_=>False
def MK.ok:MK->Value->Prop
 | .str,.string _=>True
 | .int k,.int k' _=>k'=k
 | .st sh,.agg xs=>ae4 sh xs.toList
 | _,_=>False
inductive HC where
 | p (x:PV)
 | row (e:TypeId) (es:List (List PV))
def HC.isRow:HC->Prop
 | .row ..=>True
 | _=>False
inductive HX where
 | av (x:AV)
 | row (e:TypeId) (es:List (List PV))
inductive AB where
 | none
 | row (e:TypeId) (es:List (List PV))
 | jA (es:List (List PV))
 | box (cs:List AV)
 | gC (ty:TypeId) (cs:List AV)
 | jd (cs:List PV)
 | map (mk:MK) (es:List (Value×PV))
 | aN (cs:List HC)
 | az (e:TypeId) (es:List (List HX))
def AB.live:AB->Prop
 | .row .. | .box .. | .gC .. | .map .. | .aN .. | .az ..=>True
 | _=>False
def AB.oG:AB->Option TypeId
 | .row e _=>some e
 | .az e _=>some e
 | _=>Option.none
def AB.there:AB->Prop
 | .none=>False
 | _=>True
structure AS where
 t:Nat->AV
 h:Nat->AB
def aT{α:Type}(f:Nat->α)(i:Nat)(x:α)(j:Nat):α:=match Nat.beq j i with | true=>x | false=>f j
variable {α:Type}
theorem aH(f:Nat->α)(i:Nat)(x:α):aT f i x i=x:=by simp[aT]
theorem aV(f:Nat->α){i j:Nat}(x:α)(h:j≠i):aT f i x j=f j:=by
 unfold aT;have:Nat.beq j i=false:=by rw[aaV];intro e;exact h (aa2 e)
 rw[this]
theorem jf(f:Nat->α)(i:Nat)(x:α)(h:f i=x):aT f i x=f:=by
 funext j;by_cases e:j=i
 ·subst e;rw[aH,h]
 rw[aV _ _ e]
inductive aO(S:Nat->Prop)(w:World):PV->Value->Prop
 | im (x:Value):aO S w (.im x) x
 | ag (cs:List PV) (vs:Array Value) (hl:cs.length=vs.size) (h1:∀u∈vs.toList,u.oneCell'=true) (h:∀(i:Nat) c v,cs[i]?=some c->vs[i]?=some v->aO S w c v):aO S w (.ag cs) (.agg vs)
 | nil (a:Option Addr) (c:Nat):aO S w (.sl []) (.slice a 0 c)
 | sl (es:List (List PV)) (k b off c:Nat) (U:Nat->Nat->Value) (hc:es.length<=c) (hS:S b) (hk:∀e∈es,e.length=k)
   (hcell:∀(i:Nat) e (j:Nat) x,es[i]?=some e->e[j]?=some x->w.cell? ⟨b,off+i*k+j,none⟩=some (U i j)/\(U i j).oneCell'=true)
   (h:∀(i:Nat) e (j:Nat) x,es[i]?=some e->e[j]?=some x->aO S w x (U i j)):aO S w (.sl es) (.slice (some ⟨b,off,none⟩) es.length c)
 | ip (cs:List PV) (b off:Nat) (U:Nat->Value) (hS:S b) (hcell:∀(j:Nat) x,cs[j]?=some x->w.cell? ⟨b,off+j,none⟩=some (U j)/\(U j).oneCell'=true)
   (h:∀(j:Nat) x,cs[j]?=some x->aO S w x (U j)):aO S w (.ip cs) (.pointer (some ⟨b,off,none⟩))
 | fn (f:FuncId) (cap:List PV) (vs:Array Value) (hl:cap.length=vs.size) (h:∀(i:Nat) c v,cap[i]?=some c->vs[i]?=some v->aO S w c v):aO S w (.fn f cap) (.func (.func f) #[] vs)
variable {w w':World}
theorem aO.mono{S S':Nat->Prop}{x:PV}{v:Value}(h:aO S w x v)(hS:∀b,S b->S' b)(hw:∀b,S b->w'.heap[b]?=w.heap[b]?):aO S' w' x v:=by
 induction h with
 | im x=>exact .im x
 | ag cs vs hl h1 h ih=>exact .ag cs vs hl h1 ih
 | nil a c=>exact .nil a c
 | sl es k b off c U hc hb hk hcell h ih=>exact .sl es k b off c U hc (hS b hb) hk (fun i e j x h1 h2=>⟨(adP (hw b hb)).trans (hcell i e j x h1 h2).1,(hcell i e j x h1 h2).2⟩) ih
 | ip cs b off U hb hcell h ih=>exact .ip cs b off U (hS b hb) (fun j x h1=>⟨(adP (hw b hb)).trans (hcell j x h1).1,(hcell j x h1).2⟩) ih
 | fn f cap vs hl h ih=>exact .fn f cap vs hl ih
structure Fr(mv:Nat->Prop)(w w':World):Prop where
 os:w'.os=w.os
 tape:w'.tape=w.tape
 output:w'.output=w.output
 size:w.heap.size<=w'.heap.size
 block:∀k,k<w.heap.size->¬mv k->w'.heap[k]?=w.heap[k]?
theorem Fr.refl(mv:Nat->Prop)(w:World):Fr mv w w:=⟨rfl,rfl,rfl,aam _,fun _ _ _=>rfl⟩
theorem Fr.trans{mv YM:Nat->Prop}{a b c:World}(h:Fr mv a b)(k:Fr YM b c)(hm:∀i,YM i->mv i\/a.heap.size<=i):Fr mv a c:=
 ⟨k.os.trans h.os,k.tape.trans h.tape,k.output.trans h.output,aaF h.size k.size,fun i hi hn=>
  (k.block i (aaW hi h.size) (fun H8=>by rcases hm i H8 with h1 | h1;exact hn h1;omega)).trans (h.block i hi hn)⟩
def aG{α:Type}(P:Program)(w:World)(R:α->Value->Prop)(e:TypeId)(es:List (List α))(v:Value):Prop:=
 ∃i xs,P.info? e=some i/\0<i.size/\w.ownsRow 0 e i.size v es.length xs/\(∀r∈es,r.length=i.size)/\(∀u∈xs,u.oneCell'=true)/\
  ∀(a:Nat) r (j:Nat) x,es[a]?=some r->r[j]?=some x->∃u,xs[a*i.size+j]?=some u/\R x u
def cC:Value->Option Nat
 | .slice (some a) _ _=>some a.block
 | .pointer (some a)=>some a.block
 | .map (some g)=>some g
 | _=>none
inductive aY(S:Nat->Prop)(w:World)(P:Program)(L:Nat->Prop)(rho:Nat->Value)(h:Nat->AB):AV->Value->Prop
 | p (x:PV) (v:Value) (hx:aO S w x v):aY S w P L rho h (.p x) v
 | nl:aY S w P L rho h .nl (.slice none 0 0)
 | ow (id:Nat) (v:Value) (hv:(h id).there->L id/\v=rho id):aY S w P L rho h (.ow id) v
 | rp (id i off:Nat) (v:Value) (hv:∀e,(h id).oG=some e->L id/\∃g n c ti,rho id=.slice (some ⟨g,0,none⟩) n c/\P.info? e=some ti/\v=.pointer (some ⟨g,i*ti.size+off,none⟩)):aY S w P L rho h (.rp id i off) v
 | bx (id off:Nat) (v:Value) (hv:(h id).there->L id/\∃g,rho id=.pointer (some ⟨g,0,none⟩)/\v=.pointer (some ⟨g,off,none⟩)):aY S w P L rho h (.bx id off) v
 | vw (id lo hi:Nat) (v:Value) (hv:∀e,(h id).oG=some e->L id/\∃n c a ti,rho id=.slice a n c/\P.info? e=some ti/\lo<=hi/\hi<=n/\n<=c/\v=.slice (if c=lo then a else a.map (·.add (lo*ti.size))) (hi-lo) (c-lo)):aY S w P L rho h (.vw id lo hi) v
 | fn (f:FuncId) (cap:List AV) (vs:Array Value) (hl:cap.length=vs.size) (hc:∀(i:Nat) c v,cap[i]?=some c->vs[i]?=some v->aY S w P L rho h c v):aY S w P L rho h (.fn f cap) (.func (.func f) #[] vs)
 | tu (xs:List AV) (vs:Array Value) (hl:xs.length=vs.size) (hc:∀(i:Nat) c v,xs[i]?=some c->vs[i]?=some v->aY S w P L rho h c v):aY S w P L rho h (.tu xs) (.tuple vs)
 | st (xs:List AV) (vs:Array Value) (hl:xs.length=vs.size) (h1:∀u∈vs.toList,u.oneCell'=true) (hc:∀(i:Nat) c v,xs[i]?=some c->vs[i]?=some v->aY S w P L rho h c v):aY S w P L rho h (.st xs) (.agg vs)
 | junk (v:Value):aY S w P L rho h .junk v
def Qm(S:Nat->Prop)(w:World)(P:Program):HC->Value->Prop
 | .p x,u=>aO S w x u
 | .row e es,u=>aG P w (aO S w) e es u
structure Jp(S:Nat->Prop)(w:World)(P:Program)(cs:List HC)(g:Nat)(ty:TypeId)(c:Array Value):Prop where
 hp:w.heap[g]?=some (.cells c ty (0,0))
 sz:c.size=cs.length
 cell:∀(j:Nat) x u,cs[j]?=some x->c[j]?=some u->u.oneCell'=true/\Qm S w P x u
 top:∀(j:Nat) x u b,cs[j]?=some x->c[j]?=some u->x.isRow->cC u=some b->b≠g
 dis:∀(i j:Nat) x y u v b,cs[i]?=some x->cs[j]?=some y->c[i]?=some u->c[j]?=some v->x.isRow->y.isRow->cC u=some b->cC v=some b->i=j
def rK(S:Nat->Prop)(w:World)(P:Program)(L:Nat->Prop)(rho:Nat->Value)(h:Nat->AB):HX->Value->Prop
 | .av x,u=>aY S w P L rho h x u
 | .row e es,u=>aG P w (aO S w) e es u
def dF(w:World)(es:List (List HX))(g:Nat)(a j:Nat)(u:Value):Prop:=∃(r:List HX) (e:TypeId) (xs:List (List PV)) (c:Array Value) (ty:TypeId) (m:Nat×Nat),es[a]?=some r/\r[j]?=some (.row e xs)/\w.heap[g]?=some (.cells c ty m)/\c[a*r.length+j]?=some u
structure uZ(w:World)(es:List (List HX))(v:Value):Prop where
 top:∀g a j u b,cC v=some g->dF w es g a j u->cC u=some b->b≠g
 dis:∀g a j a' j' u u' b,cC v=some g->dF w es g a j u->dF w es g a' j' u'->cC u=some b->cC u'=some b->a=a'/\j=j'
def Wu(w:World)(x:AB)(v:Value)(k:Nat):Prop:=∃e es g a j u,x=.az e es/\cC v=some g/\dF w es g a j u/\cC u=some k
def Wv(w:World)(x:AB)(v:Value)(k:Nat):Prop:=∃cs g,x=.aN cs/\cC v=some g/\∃(c:Array Value) (ty:TypeId) (m:Nat×Nat) (j:Nat) (y:HC) (u:Value),w.heap[g]?=some (.cells c ty m)/\cs[j]?=some y/\y.isRow/\c[j]?=some u/\cC u=some k
def Lf(w:World)(x:AB)(v:Value)(k:Nat):Prop:=Wv w x v k\/Wu w x v k
def hasB(w:World)(x:AB)(v:Value)(k:Nat):Prop:=cC v=some k\/Lf w x v k
theorem mX{es:List (List HX)}{g a j:Nat}{u:Value}(hw:w'.heap[g]?=w.heap[g]?)(h:dF w' es g a j u):dF w es g a j u:=by
 obtain⟨r,e,xs,c,ty,m,h1,h2,h3,h4⟩:=h;exact⟨r,e,xs,c,ty,m,h1,h2,by rw[<-hw];exact h3,h4⟩
theorem dA{x:AB}{v:Value}{k:Nat}(hw:∀g,cC v=some g->w'.heap[g]?=w.heap[g]?)(h:hasB w' x v k):hasB w x v k:=by
 rcases h with h | ⟨cs,g,hx,hv,c,ty,m,j,y,u,h1,h2⟩ | ⟨e,es,g,a,j,u,hx,hv,h1,h2⟩
 ·exact .inl h
 ·exact .inr (.inl ⟨cs,g,hx,hv,c,ty,m,j,y,u,by rw[<-hw g hv];exact h1,h2⟩)
 exact .inr (.inr ⟨e,es,g,a,j,u,hx,hv,mX (hw g hv) h1,h2⟩)
def Rg:AB->Bool
 | .aN _=>false
 | .az _ _=>false
 | _=>true
theorem aI{x:AB}{v:Value}{k:Nat}(hx:Rg x=true)(h:hasB w x v k):cC v=some k:=by
 rcases h with h | ⟨cs,g,rfl,_⟩ | ⟨e,es,g,a,j,u,rfl,_⟩
 ·exact h
 ·cases hx
 cases hx
def eK(S:Nat->Prop)(w:World)(P:Program)(L:Nat->Prop)(rho:Nat->Value)(h:Nat->AB)(id:Nat):AB->Prop
 | .none=>True
 | .row e es=>aG P w (aO S w) e es (rho id)
 | .jA es=>aO S w (.sl es) (rho id)
 | .box cs=>∃g ty c,rho id=.pointer (some ⟨g,0,none⟩)/\w.heap[g]?=some (.cells c ty (0,0))/\c.size=cs.length/\∀(j:Nat) x u,cs[j]?=some x->c[j]?=some u->u.oneCell'=true/\aY S w P L rho h x u
 | .gC ty cs=>∃g c,rho id=.pointer (some ⟨g,0,none⟩)/\w.heap[g]?=some (.cells c ty (0,0))/\c.size=cs.length/\∀(j:Nat) x u,cs[j]?=some x->c[j]?=some u->u.oneCell'=true/\aY S w P L rho h x u
 | .jd cs=>aO S w (.ip cs) (rho id)
 | .aN cs=>∃g ty c,rho id=.pointer (some ⟨g,0,none⟩)/\Jp S w P cs g ty c
 | .az e es=>aG P w (rK S w P L rho h) e es (rho id)/\uZ w es (rho id)
 | .map mk es=>∃g ms clock,rho id=.map (some g)/\w.heap[g]?=some (.map ms clock)/\ms.size=es.length/\∀(i:Nat) p m,es[i]?=some p->ms[i]?=some m->m.key=p.1/\mk.ok p.1/\aO S w p.2 m.val
end Go.AM
namespace Go.AM
open Go.RowKit
inductive UD where
 | sc
 | int (k:IntKind)
 | st (fs:List (Nat×Nat×Bool))
 | sl (e:TypeId)
 | str
 | mp (k e:TypeId)
structure TI where
 ud:UD
 size:Nat
 bytes:Nat
 zero:List Value
 eq:Bool:=false
def UD.agg:UD->Bool
 | .st _=>true
 | _=>false
inductive Arg where
 | pv (x:PV)
 | row (e:TypeId) (es:List (List PV))
 | map (mk:MK) (es:List (Value×PV))
 | box (cs:List PV)
 | aN (cs:List HC)
inductive AR where
 | p (x:PV)
 | own (e:TypeId) (es:List (List PV))
 | tu (xs:List PV)
 | hown (cs:List HC)
inductive Fin where
 | gone
 | row (es:List (List PV))
 | map (es:List (Value×PV))
 | box (cs:List PV)
 | aN (cs:List HC)
structure Ctx where
 P:Program
 T:TypeId->Option TI
 md:FuncId->Nat->Bool
 E:(Nat->Prop)->World->Prop
 bl:FuncId->Bool:=fun _=>false
 bt:TypeId->Bool:=fun _=>false
 bn:TypeId->Bool:=fun _=>false
 bo:TypeId->Bool:=fun _=>false
 bf:Nat->Bool:=fun _=>false
def Jq:Value->Value->Bool
 | .string a,.string b=>decide (a=b)
 | .int _ a,.int _ b=>decide (a=b)
 | .bool a,.bool b=>decide (a=b)
 | _,_=>false
def DN:List Value->List Value->Bool
 | [],[]=>true
 | x::r,y::s=>Jq x y&&DN r s
 | _,_=>false
def Ak:Value->Value->Bool
 | .string a,.string b=>decide (a=b)
 | .int _ a,.int _ b=>decide (a=b)
 | .agg a,.agg b=>DN a.toList b.toList
 | _,_=>false
def kz:List (Value×PV)->Value->Option PV
 | [],_=>none
 | (k',v)::r,k=>match Ak k k' with
  | true=>some v
  | false=>kz r k
def mP:List (Value×PV)->Value->PV->List (Value×PV)
 | [],k,v=>[(k,v)]
 | (k',u)::r,k,v=>match Ak k k' with
  | true=>(k,v)::r
  | false=>(k',u)::mP r k v
def Cb:List Value->Option (List Nat)
 | []=>some []
 | .string _::r=>(Cb r).map (0::·)
 | .int .i64 _::r=>(Cb r).map (1::·)
 | .bool _::r=>(Cb r).map (2::·)
 | _=>none
def Al(ti:TI):Option MK:=match ti.ud with
 | .str=>some .str
 | .int k=>some (.int k)
 | .st fs=>match ti.eq,fs.any (·.2.2) with
  | true,false=>(Cb ti.zero).map .st
  | _,_=>none
 | _=>none
def VY:List Nat->List Nat->Bool
 | [],[]=>true
 | a::r,b::s=>match Nat.beq a b with
  | true=>VY r s
  | false=>false
 | _,_=>false
def Ww:MK->MK->Bool
 | .str,.str=>true
 | .int .i64,.int .i64=>true
 | .st a,.st b=>VY a b
 | _,_=>false
def l7:List Nat->List PV->Option (List Value)
 | [],[]=>some []
 | 0::s,.im (.string x)::r=>(l7 s r).map (.string x::·)
 | 1::s,.im (.int .i64 x)::r=>(l7 s r).map (.int .i64 x::·)
 | 2::s,.im (.bool x)::r=>(l7 s r).map (.bool x::·)
 | _,_=>none
def keyOf:MK->AV->Option Value
 | .str,.p (.im (.string s))=>some (.string s)
 | .int .i64,.p (.im (.int .i64 n))=>some (.int .i64 n)
 | .st sh,.p (.ag cs)=>(l7 sh cs).map fun l=>.agg l.toArray
 | _,_=>none
abbrev KK:=AV->List (Nat×AB)->Option AB->Prop
def app(h:Nat->AB):List (Nat×AB)->Nat->AB
 | []=>h
 | (i,b)::r=>app (aT h i b) r
def xi:Value->PV
 | .slice none 0 0=>.sl []
 | v=>.im v
def To(b:Bool)(v:Value):PV:=match b with
 | true=>.im v
 | false=>xi v
def Tp:PV->AV
 | .im (.slice none 0 0)=>.nl
 | x=>.p x
def Jr:Value->AV
 | .slice none 0 0=>.nl
 | v=>.p (.im v)
def Cc:Value->AV
 | .slice none 0 0=>.nl
 | .agg cs=>match cs.toList.all Value.oneCell' with
  | true=>.p (.ag (cs.toList.map xi))
  | false=>.junk
 | v=>.p (.im v)
def ev(t:Nat->AV):Operand->AV
 | .tmp j=>t j
 | .const v=>Cc v
 | .global g=>.p (.im (.pointer (some ⟨g,0,none⟩)))
 | .func f=>.p (.im (.func (.func f) #[] #[]))
def dY:List AV->Option (List PV)
 | []=>some []
 | .p x::r=>(dY r).map (x::·)
 | .nl::r=>(dY r).map (.sl []::·)
 | _=>none
def l8(h:Nat->AB)(a:AV)(K:PV->List (Nat×AB)->Prop):Prop:=
 match a with
 | .p x=>K x []
 | .nl=>K (.sl []) []
 | .ow id=>match h id with
  | .row _ es=>K (.sl es) [(id,.jA es)]
  | .jA es=>K (.sl es) []
  | _=>False
 | .bx id off=>match h id with
  | .box cs=>match dY cs with
   | some xs=>K (.ip (xs.drop off)) [(id,.jd xs)]
   | none=>False
  | .jd xs=>K (.ip (xs.drop off)) []
  | _=>False
 | _=>False
def v7(h:Nat->AB):List AV->(List PV->List (Nat×AB)->Prop)->Prop
 | [],K=>K [] []
 | a::r,K=>l8 h a fun x fz=>v7 h r fun xs mY=>K (x::xs) (fz++mY)
def gD(h:Nat->AB)(a:AV)(K:PV->List (Nat×AB)->Prop):Prop:=
 match a with
 | .fn f cap=>v7 h cap fun xs fz=>K (.fn f xs) fz
 | a=>l8 h a K
def sg:PV->Option (List PV)
 | .ag cs=>some cs
 | .im x=>match x.oneCell' with
  | true=>some [.im x]
  | false=>none
 | x=>some [x]
def u5(h:Nat->AB):AV->Bool
 | .p (.im x)=>x.oneCell'
 | .p (.ag _)=>false
 | .p _=>true
 | .nl=>true
 | .ow id=>match h id with
  | .row _ _=>true
  | .az _ _=>true
  | .jA _=>true
  | _=>false
 | .bx id _=>match h id with
  | .none=>false
  | _=>true
 | .rp id _ _=>match h id with
  | .row _ _=>true
  | .az _ _=>true
  | _=>false
 | .fn _ _=>true
 | _=>false
def setCells{α:Type}:List α->Nat->List α->List α
 | cs,_,[]=>cs
 | cs,off,x::r=>setCells (cs.set off x) (off+1) r
def afu(id:Nat):List (Nat×AB)->Bool
 | []=>true
 | (i,_)::r=>match Nat.beq i id with
  | true=>false
  | false=>afu id r
def H9(a b:Nat):Bool:=Nat.ble a b
def Ag(a b:Nat):Bool:=Nat.beq a b
def Z7(x:Int):Prop:=-9223372036854775808<=x/\x<=9223372036854775807
def Rh{α:Type}:List α->Bool
 | []=>true
 | _=>false
def kB(a b:IntKind):Bool:=match a,b with
 | .i8,.i8 | .i16,.i16 | .i32,.i32 | .i64,.i64 | .u8,.u8 | .u16,.u16 | .u32,.u32 | .u64,.u64=>true
 | _,_=>false
def TG:IntKind->Bool
 | .i64=>true
 | _=>false
def u6(k:IntKind)(n:Int)(K:Value->Prop):Prop:=match TG k with
 | true=>Z7 n/\K (.int .i64 n)
 | false=>K (.int k (k.wrap n))
def bM:List Value->List PV->List PV->Option Bool
 | [],[],[]=>some true
 | .int _ _::z,.im (.int k a)::r,.im (.int k' b)::s=>match kB k k' with
  | true=>(bM z r s).map (decide (a=b)&&·)
  | false=>none
 | .string _::z,.im (.string a)::r,.im (.string b)::s=>(bM z r s).map (decide (a=b)&&·)
 | .bool _::z,.im (.bool a)::r,.im (.bool b)::s=>(bM z r s).map (decide (a=b)&&·)
 | _,_,_=>none
def Js(T:TypeId->Option TI)(op:BinOp)(t:TypeId)(x:PV)(K:Value->Prop):Prop:=match x with
 | .sl es=>match Rh es with
  | true=>False
  | false=>match T t with
   | some { ud:=.sl _,.. }=>match op with
    | .eql=>K (.bool false)
    | .neq=>K (.bool true)
    | _=>False
   | _=>False
 | _=>False
def Wx:BinOp->Bool
 | .shr=>true
 | _=>false
def sj(T:TypeId->Option TI)(op:BinOp)(t:TypeId)(x y:PV)(K:Value->Prop):Prop:=
 match x,y with
 | .im (.int k a),.im (.int k' b)=>match Wx op with
  | true=>(0<=b/\b<64)/\K (.int k (a.fdiv (2 ^ (min b.toNat k.bits))))
  | false=>match kB k k' with
  | false=>False
  | true=>match op with
   | .add=>u6 k (a+b) K
   | .sub=>u6 k (a-b) K
   | .mul=>u6 k (a*b) K
   | .quo=>b≠0/\u6 k (a.tdiv b) K
   | .rem=>b≠0/\K (.int k (a.tmod b))
   | .eql=>K (.bool (decide (a=b)))
   | .neq=>K (.bool (!decide (a=b)))
   | .lss=>K (.bool (decide (a<b)))
   | .leq=>K (.bool (decide (a<=b)))
   | .gtr=>K (.bool (decide (a>b)))
   | .geq=>K (.bool (decide (a>=b)))
   | _=>False
 | .im (.string a),.im (.string b)=>match op with
  | .add=>a.size+b.size<=9223372036854775807/\K (.string (a++b))
  | .eql=>K (.bool (decide (a=b)))
  | .neq=>K (.bool (!decide (a=b)))
  | .lss=>K (.bool (Op.bytesLess a.data.toList b.data.toList))
  | .leq=>K (.bool (Op.bytesLess a.data.toList b.data.toList||decide (a=b)))
  | .gtr=>K (.bool !(Op.bytesLess a.data.toList b.data.toList||decide (a=b)))
  | .geq=>K (.bool !(Op.bytesLess a.data.toList b.data.toList))
  | _=>False
 | .im (.bool a),.im (.bool b)=>match T t with
  | some { ud:=.sc,eq:=true,.. }=>match op with
   | .eql=>K (.bool (decide (a=b)))
   | .neq=>K (.bool (!decide (a=b)))
   | _=>False
  | _=>False
 | .ag a,.ag b=>match T t with
  | some { ud:=.st _,eq:=true,size:=n,zero:=z,.. }=>match Ag n a.length with
   | false=>False
   | true=>match op with
    | .eql=>match bM z a b with
     | some r=>K (.bool r)
     | none=>False
    | .neq=>match bM z a b with
     | some r=>K (.bool !r)
     | none=>False
    | _=>False
  | _=>False
 | _,_=>False
def Cd(S:Nat->Prop)(w:World)(mk:MK)(es:List (Value×PV))(v:Value):Prop:=∃g ms clock,v=.map (some g)/\w.heap[g]?=some (.map ms clock)/\ms.size=es.length/\∀(i:Nat) p m,es[i]?=some p->ms[i]?=some m->m.key=p.1/\mk.ok p.1/\aO S w p.2 m.val
def F7(S:Nat->Prop)(w:World)(P:Program):Arg->Value->Prop
 | .pv x,v=>aO S w x v
 | .row e es,v=>aG P w (aO S w) e es v/\∀g,cC v=some g->¬S g
 | .map mk es,v=>Cd S w mk es v/\∀g,cC v=some g->¬S g
 | .box cs,v=>∃g ty c,v=.pointer (some ⟨g,0,none⟩)/\w.heap[g]?=some (.cells c ty (0,0))/\c.size=cs.length/\¬S g/\∀(j:Nat) x u,cs[j]?=some x->c[j]?=some u->u.oneCell'=true/\aO S w x u
 | .aN cs,v=>∃g ty c,v=.pointer (some ⟨g,0,none⟩)/\Jp S w P cs g ty c/\∀k,hasB w (.aN cs) v k->¬S k/\k<w.heap.size
def Ce:Arg->AB
 | .aN cs=>.aN cs
 | _=>.none
def Ri:Fin->AB
 | .aN cs=>.aN cs
 | _=>.none
def Arg.handed:Arg->Bool
 | .pv _=>false
 | _=>true
def Mv(w:World)(args:List Arg)(vs:Array Value)(g:Nat):Prop:=∃(j:Nat) (x:Arg) (v:Value),args[j]?=some x/\vs[j]?=some v/\x.handed=true/\hasB w (Ce x) v g
def oH(S:Nat->Prop)(w:World)(P:Program):Arg->Fin->Value->Prop
 | _,.gone,_=>True
 | .row e _,.row es,v=>aG P w (aO S w) e es v/\∀g,cC v=some g->¬S g
 | .map mk _,.map es,v=>Cd S w mk es v/\∀g,cC v=some g->¬S g
 | .box _,.box cs,v=>∃g ty c,v=.pointer (some ⟨g,0,none⟩)/\w.heap[g]?=some (.cells c ty (0,0))/\c.size=cs.length/\¬S g/\∀(j:Nat) x u,cs[j]?=some x->c[j]?=some u->u.oneCell'=true/\aO S w x u
 | .aN _,.aN cs,v=>∃g ty c,v=.pointer (some ⟨g,0,none⟩)/\Jp S w P cs g ty c/\∀k,hasB w (.aN cs) v k->¬S k
 | _,_,_=>False
def Fin.kept:Fin->Bool
 | .gone=>false
 | _=>true
def Lp(S:Nat->Prop)(w:World)(P:Program):AR->Value->Prop
 | .p x,v=>aO S w x v
 | .own e es,v=>aG P w (aO S w) e es v/\∀g,cC v=some g->¬S g
 | .hown cs,v=>∃g ty c,v=.pointer (some ⟨g,0,none⟩)/\Jp S w P cs g ty c/\∀k,hasB w (.aN cs) v k->¬S k
 | .tu xs,v=>∃vs:Array Value,v=.tuple vs/\xs.length=vs.size/\∀(i:Nat) x u,xs[i]?=some x->vs[i]?=some u->aO S w x u
def AR.owns:AR->Bool
 | .own ..=>true
 | .hown ..=>true
 | _=>false
def AR.ab:AR->AB
 | .hown cs=>.aN cs
 | _=>.none
def eL(S:Nat->Prop)(w:World)(P:Program):List Arg->List Fin->List Value->Prop
 | [],[],[]=>True
 | x::xs,fs,v::vs=>match x.handed with
  | false=>eL S w P xs fs vs
  | true=>match fs with
   | f::fs=>oH S w P x f v/\eL S w P xs fs vs
   | []=>False
 | _,_,_=>False
def du(w:World):List Arg->List Fin->List Value->Nat->Nat->Prop
 | x::xs,fs,v::vs,i,g=>match x.handed with
  | false=>match i with
   | 0=>False
   | i+1=>du w xs fs vs i g
  | true=>match fs with
   | f::fs=>match i with
    | 0=>f.kept=true/\hasB w (Ri f) v g
    | i+1=>du w xs fs vs i g
   | []=>False
 | _,_,_,_,_=>False
def ta(w w':World)(args:List Arg)(fin:List Fin)(vs:Array Value):Prop:=
 (∀i g,du w' args fin vs.toList i g->g<w'.heap.size/\(w.heap.size<=g\/Mv w args vs g))/\∀i j g,du w' args fin vs.toList i g->du w' args fin vs.toList j g->i=j
def af(C:Ctx)(f:FuncId)(args:List Arg)(r:AR)(fin:List Fin):Prop:=
 (∃ fn : Func, C.P.funcs[f]? = some fn ∧ (fn.name == "runtime.NumGoroutine") = false ∧ fn.body.isNone = false) ∧
 ∀(S:Nat->Prop) (w:World) (vs:Array Value),C.E S w->(∀b,S b->b<w.heap.size)->args.length=vs.size ->
  (∀(j:Nat) x v,args[j]?=some x->vs[j]?=some v->F7 S w C.P x v)->
  (∀(i j:Nat) x y v u g,args[i]?=some x->args[j]?=some y->vs[i]?=some v->vs[j]?=some u->x.handed=true->y.handed=true->hasB w (Ce x) v g->hasB w (Ce y) u g->i=j)->
  Calls C.P f vs w fun e w'=>∃v S',e=.returned v/\Fr (Mv w args vs) w w'/\(∀b,S b->S' b)/\(∀b,S' b->b<w'.heap.size)/\(∀b,S' b->S b\/w.heap.size<=b\/Mv w args vs b)/\
   Lp S' w' C.P r v/\eL S' w' C.P args fin vs.toList/\ta w w' args fin vs/\(∀g,r.owns=true->hasB w' r.ab v g->g<w'.heap.size/\(w.heap.size<=g\/Mv w args vs g)/\∀i,¬du w' args fin vs.toList i g)
def gF(md:Nat->Bool)(h:Nat->AB):Nat->List AV->(List Arg->List (Nat×AB)->List (Nat×AB)->Prop)->Prop
 | _,[],K=>K [] [] []
 | j,a::r,K=>match md j with
  | false=>gD h a fun x fz=>gF md h (j+1) r fun xs ids mY=>K (.pv x::xs) ids (fz++mY)
  | true=>match a with
   | .ow id=>match h id with
    | .row e es=>gF md h (j+1) r fun xs ids fz=>K (.row e es::xs) ((id,.row e es)::ids) fz
    | .jA es=>gF md h (j+1) r fun xs ids fz=>K (.pv (.sl es)::xs) ids fz
    | .map mk es=>gF md h (j+1) r fun xs ids fz=>K (.map mk es::xs) ((id,.map mk es)::ids) fz
    | _=>False
   | .p x=>gF md h (j+1) r fun xs ids fz=>K (.pv x::xs) ids fz
   | .bx id 0=>match h id with
    | .box cs=>match dY cs with
     | some ys=>gF md h (j+1) r fun xs ids fz=>K (.box ys::xs) ((id,.box cs)::ids) fz
     | none=>False
    | .aN cs=>gF md h (j+1) r fun xs ids fz=>K (.aN cs::xs) ((id,.aN cs)::ids) fz
    | _=>False
   | _=>False
def AY:PV->Bool
 | .im _=>true
 | .ag cs=>cs.all fun | .im _=>true | _=>false
 | _=>false
def AR.free:AR->Bool
 | .p x=>AY x
 | .tu xs=>xs.all AY
 | .own ..=>false
 | .hown ..=>false
def aeQ:List (Nat×AB)->List Fin->Option (List (Nat×AB))
 | [],[]=>some []
 | (id,_)::ids,.gone::fs=>(aeQ ids fs).map ((id,.none)::·)
 | (id,.row e _)::ids,.row es::fs=>(aeQ ids fs).map ((id,.row e es)::·)
 | (id,.map mk _)::ids,.map es::fs=>(aeQ ids fs).map ((id,.map mk es)::·)
 | (id,.box _)::ids,.box cs::fs=>(aeQ ids fs).map ((id,.box (cs.map .p))::·)
 | (id,.aN _)::ids,.aN cs::fs=>(aeQ ids fs).map ((id,.aN cs)::·)
 | _,_=>none
def Wy:AR->Option AB
 | .own e es=>some (.row e es)
 | .hown cs=>some (.aN cs)
 | _=>none
def Tq(d:Nat):AR->AV
 | .p x=>.p x
 | .own ..=>.ow d
 | .hown _=>.bx d 0
 | .tu xs=>.tu (xs.map .p)
def isNil{α:Type}:List α->Bool
 | []=>true
 | _=>false
def H_:List (Nat×AB)->List (Nat×AB)->Bool
 | [],_=>true
 | (i,_)::r,fz=>afu i fz&&afu i r&&H_ r fz
def oI(C:Ctx)(h:Nat->AB)(d:Nat)(f:FuncId)(args:List AV)(K:KK):Prop:=
 gF (C.md f) h 0 args fun xs ids fz=>∃r fin,af C f xs r fin/\match aeQ ids fin with
  | some fe=>match H_ ids fz with
   | true=>match r.free&&isNil ids with
    | true=>K (Tq d r) [] none
    | false=>K (Tq d r) (fz++fe) (Wy r)
   | false=>False
  | none=>False
inductive Tr:HX->PV->Prop
 | p (x:PV):Tr (.av (.p x)) x
 | nl:Tr (.av .nl) (.sl [])
 | row (e:TypeId) (xs:List (List PV)):Tr (.row e xs) (.sl xs)
structure Oi(es:List (List HX))(ps:List (List PV)):Prop where
 len:ps.length=es.length
 row:∀(a:Nat) r q,es[a]?=some r->ps[a]?=some q->q.length=r.length/\∀(j:Nat) x y,r[j]?=some x->q[j]?=some y->Tr x y
inductive nU(h:Nat->AB):AV->PV->Prop
 | p (x:PV):nU h (.p x) x
 | nl:nU h .nl (.sl [])
 | row (id:Nat) (e:TypeId) (es:List (List PV)) (hr:h id=.row e es):nU h (.ow id) (.sl es)
 | jA (id:Nat) (es:List (List PV)) (hr:h id=.jA es):nU h (.ow id) (.sl es)
 | az (id:Nat) (e:TypeId) (es:List (List HX)) (ps:List (List PV)) (hr:h id=.az e es) (hp:Oi es ps):nU h (.ow id) (.sl ps)
inductive oJ(h:Nat->AB):List AV->List PV->Prop
 | nil:oJ h [] []
 | cons {a:AV} {x:PV} {as:List AV} {xs:List PV} (h1:nU h a x) (h2:oJ h as xs):oJ h (a::as) (x::xs)
inductive View(h:Nat->AB):AV->PV->Prop
 | one {a:AV} {x:PV} (h1:nU h a x):View h a x
 | box (id off:Nat) (cs:List AV) (xs:List PV) (hb:h id=.box cs) (hx:oJ h cs xs):View h (.bx id off) (.ip (xs.drop off))
 | jd (id off:Nat) (xs:List PV) (hb:h id=.jd xs):View h (.bx id off) (.ip (xs.drop off))
inductive tb(h:Nat->AB):List AV->List PV->Prop
 | nil:tb h [] []
 | cons {a:AV} {x:PV} {as:List AV} {xs:List PV} (h1:View h a x) (h2:tb h as xs):tb h (a::as) (x::xs)
def TH(C:Ctx)(h:Nat->AB)(d:Nat)(f:FuncId)(args:List AV)(K:KK):Prop:=∃xs r,tb h args xs/\af C f (xs.map .pv) r []/\r.free=true/\K (Tq d r) [] none
def Wz:AV->Bool
 | .ow _=>true
 | _=>false
def Am{α:Type}(f:α->Bool):List α->Bool
 | []=>false
 | x::r=>match f x with
  | true=>true
  | false=>Am f r
def dZ(h:Nat->AB):AV->Bool
 | .bx id _=>match h id with
  | .box cs=>Am Wz cs
  | _=>false
 | .ow id=>match h id with
  | .az _ _=>true
  | _=>false
 | _=>false
def Lq(cs:List AV)(ys:List PV):Prop:=ys.length=cs.length/\∀(j:Nat) x,cs[j]?=some (.p x)->ys[j]?=some x
def u7(h:Nat->AB):AV->Bool
 | .p (.sl _)=>true
 | .p (.im (.slice _ _ _))=>true
 | .ow id=>match h id with
  | .row _ _=>true
  | _=>false
 | .nl=>true
 | _=>false
def Rj:PV->Prop
 | .im _=>True
 | .sl es=>∀r∈es,∃k n,r=[.im (.int k n)]
 | _=>False
def Rk:PV->Prop
 | .ag cs=>∀c∈cs,Rj c
 | x=>Rj x
def xV(C:Ctx)(h:Nat->AB)(f:FuncId)(args:List AV)(K:KK):Prop:=match args with
 | [.bx id 0,.p y,.ow gU]=>match h id,h gU with
  | .box cs,.row e es=>∃x de,(∀ys,Lq cs ys->af C f [.pv (.ip ys),.pv y,.row e es] (.p x) [.row de])/\(∀c∈cs,u7 h c=true)/\Rk x/\(∀r∈de,∀z∈r,AY z=true)/\K (.p x) [(gU,.row e de)] none
  | _,_=>False
 | _=>False
def tc(C:Ctx)(h:Nat->AB)(d:Nat)(f:FuncId)(args:List AV)(K:KK):Prop:=match Am (dZ h) args with
 | false=>oI C h d f args K
 | true=>match C.md f 90 with
  | false=>TH C h d f args K
  | true=>xV C h f args K
def Cf(C:Ctx)(f:FuncId)(xs:List PV)(ty e:TypeId)(es:List (List PV))(r:AR)(ch:Bool)(de:Option (List (List PV))):Prop:=
 (∃ fn : Func, C.P.funcs[f]? = some fn ∧ (fn.name == "runtime.NumGoroutine") = false ∧ fn.body.isNone = false) ∧
 ∀(S:Nat->Prop) (w:World) (vs:List Value) (b:Nat) (u0 u1:Value),C.E S w->(∀k,S k->k<w.heap.size)->xs.length=vs.length ->
  (∀(j:Nat) x v,xs[j]?=some x->vs[j]?=some v->aO S w x v)->w.heap[b]?=some (.cells #[u0,u1] ty (0,0))->(u0=.pointer none\/u0=.pointer (some ⟨b,0,none⟩))->
  aG C.P w (aO S w) e es u1->¬S b->(∀g,cC u1=some g->¬S g/\g≠b/\g<w.heap.size)->
  Calls C.P f (vs++[Value.pointer (some ⟨b,0,none⟩)]).toArray w fun e' w'=>∃v,e'=.returned v/\Fr (fun k=>k=b\/cC u1=some k) w w'/\Lp S w' C.P r v/\match de with
   | none=>True
   | some de=>∃u1',w'.heap[b]?=some (.cells #[(match ch with | true=>Value.pointer (some ⟨b,0,none⟩) | false=>u0),u1'] ty (0,0))/\aG C.P w' (aO S w') e de u1'/\∀g,cC u1'=some g->g<w'.heap.size/\(cC u1=some g\/w.heap.size<=g)
def qY:List AV->Option (List AV×AV)
 | []=>none
 | [x]=>some ([],x)
 | x::y::r=>match qY (y::r) with
  | some (l,z)=>some (x::l,z)
  | none=>none
def Qn(id:Nat):AV->Bool
 | .p (.im (.pointer none))=>true
 | .bx i 0=>Nat.beq i id
 | _=>false
def v8(ch:Bool)(id:Nat)(c:AV):AV:=match ch with
 | true=>.bx id 0
 | false=>c
def v_(C:Ctx)(h:Nat->AB)(d:Nat)(f:FuncId)(args:List AV)(K:KK):Prop:=
 match qY args with
 | some (as,.bx id 0)=>match h id with
  | .gC ty [c,.ow gU]=>match Qn id c with
   | true=>match h gU with
    | .row e es=>v7 h as fun xs fz=>∃r ch de,Cf C f xs ty e es r ch de/\match r.free&&(afu id fz&&(afu gU fz&&!Nat.beq id gU)) with
     | true=>match de with
      | some de=>K (Tq d r) (fz++[(gU,.none),(id,.gC ty [v8 ch id c,.ow d])]) (some (.row e de))
      | none=>K (Tq d r) (fz++[(gU,.none),(id,.none)]) none
     | false=>False
    | _=>False
   | false=>False
  | _=>False
 | _=>False
def jC(h:Nat->AB)(fs:List (Nat×Nat×Bool))(rho:Operand->AV):List (Nat×Operand)->List PV->(List PV->List (Nat×AB)->Prop)->Prop
 | [],cs,K=>K cs []
 | (i,x)::r,cs,K=>match fs[i]? with
  | some (off,size,_)=>gD h (rho x) fun y fz=>match sg y with
   | some ys=>match Ag ys.length size&&H9 (off+size) cs.length with
    | true=>jC h fs rho r (setCells cs off ys) fun mZ mY=>K mZ (fz++mY)
    | false=>False
   | none=>False
  | none=>False
def k_(h:Nat->AB)(fs:List (Nat×Nat×Bool))(rho:Operand->AV):List (Nat×Operand)->List AV->(List AV->Prop)->Prop
 | [],cs,K=>K cs
 | (i,x)::r,cs,K=>match fs[i]? with
  | some (off,size,_)=>match Ag size 1&&H9 (off+1) cs.length&&u5 h (rho x) with
   | true=>k_ h fs rho r (cs.set off (rho x)) K
   | false=>False
  | none=>False
def wa(b:Bool)(h:Nat->AB)(a:AV)(K:PV->List (Nat×AB)->Prop):Prop:=match b,a with
 | true,.nl=>K (.im (.slice none 0 0)) []
 | _,a=>gD h a K
def gG(b:Bool)(h:Nat->AB)(size:Nat)(rho:Operand->AV):List (Nat×Operand)->List (List PV)->(List (List PV)->List (Nat×AB)->Prop)->Prop
 | [],es,K=>K es []
 | (i,x)::r,es,K=>wa b h (rho x) fun y fz=>match sg y with
  | some ys=>match Ag ys.length size&&Nat.blt i es.length with
   | true=>gG b h size rho r (es.set i ys) fun de mY=>K de (fz++mY)
   | false=>False
  | none=>False
def gH(h:Nat->AB)(a:AV)(K:List (List PV)->Prop):Prop:=match a with
 | .p (.sl es)=>K es
 | .nl=>K []
 | .ow id=>match h id with
  | .row _ es=>K es
  | .jA es=>K es
  | _=>False
 | _=>False
inductive CK where
 | len
 | clear
 | min
 | max
 | append
 | val (g:Operand)
 | other
def fy:Builtin->CK
 | .len=>.len
 | .clear=>.clear
 | .min=>.min
 | .max=>.max
 | .append=>.append
 | _=>.other
def aeC:Callee->CK
 | .builtin b=>fy b
 | .value g=>.val g
 | .invoke _ _=>.other
def Ia:Fn->Option FuncId
 | .func f=>some f
 | _=>none
def Ib:Value->Option (FuncId×List AV)
 | .func fn first cap=>match isNil first.toList&&isNil cap.toList with
  | true=>match Ia fn with
   | some f=>some (f,[])
   | none=>none
  | false=>none
 | _=>none
def Ic:PV->Option (FuncId×List AV)
 | .im v=>Ib v
 | .fn f cap=>some (f,cap.map .p)
 | _=>none
def xW:AV->Option (FuncId×List AV)
 | .p x=>Ic x
 | .fn f cap=>some (f,cap)
 | _=>none
def xX(ti:TI):PV:=match ti.ud.agg with
 | true=>.ag (ti.zero.map xi)
 | false=>match ti.zero with
  | z::_=>xi z
  | []=>.im undef
def gm(C:Ctx)(rho:Operand->AV)(h:Nat->AB)(t:TypeId)(x:Operand)(lo hi:Option Operand)(K:KK):Prop:=
  let l:=match lo with | some y=>rho y | none=>.p (.im (.int .i64 0))
  match C.T t with
  | some { ud:=.str,.. }=>match rho x with
   | .p (.im (.string s))=>
    match l,(match hi with | some y=>rho y | none=>.p (.im (.int .i64 s.size))) with
    | .p (.im (.int _ a)),.p (.im (.int _ b))=>(0<=a/\a<=b/\b<=s.size)/\K (.p (.im (.string (s.extract a.toNat b.toNat)))) [] none
    | _,_=>False
   | _=>False
  | some { ud:=.sl e,.. }=>match C.T e with
   | none=>False
   | some te=>gD h (rho x) fun y fz=>match y with
    | .sl es=>match l,(match hi with | some y=>rho y | none=>.p (.im (.int .i64 es.length))) with
     | .p (.im (.int _ a)),.p (.im (.int _ b))=>(0<=a/\a<=b/\b<=es.length/\∀r∈es,r.length=te.size)/\K (.p (.sl ((es.take b.toNat).drop a.toNat))) fz none
     | _,_=>False
    | _=>False
  | _=>False
def td(C:Ctx)(rho:Operand->AV)(t:TypeId)(lo hi:Option Operand)(id:Nat)(e':TypeId)(es:List (List PV))(K:KK):Prop:=
 match C.T t with
 | some { ud:=.sl e,.. }=>match Ag e' e with
  | true=>match (match lo with | some y=>rho y | none=>.p (.im (.int .i64 0))),(match hi with | some y=>rho y | none=>.p (.im (.int .i64 es.length))) with
   | .p (.im (.int _ a)),.p (.im (.int _ b))=>(0<=a/\a<=b/\b<=es.length)/\K (.vw id a.toNat b.toNat) [] none
   | _,_=>False
  | false=>False
 | _=>False
def hlen(h:Nat->AB):AV->Option Nat
 | .ow id=>match h id with
  | .az _ es=>some es.length
  | _=>none
 | .vw id lo hi=>match h id with
  | .row _ _=>some (hi-lo)
  | _=>none
 | _=>none
def s9(r:List PV):List HX:=r.map fun x=>.av (Tp x)
def bV(C:Ctx)(o:Oper)(rho:Operand->AV)(h:Nat->AB)(K:KK):Prop:=
 let d:=o.dst.getD 0
 match o.op with
 | .move x=>K (rho x) [] none
 | .assign x=>K (rho x) [] none
 | .pick c a b=>match rho c with
  | .p (.im (.bool t))=>match t with
   | true=>K (rho a) [] none
   | false=>K (rho b) [] none
  | _=>False
 | .binOp op t x y _=>match rho x,rho y with
  | .p a,.p b=>sj C.T op t a b fun v=>K (.p (.im v)) [] none
  | .p a,.nl=>Js C.T op t a fun v=>K (.p (.im v)) [] none
  | _,_=>False
 | .unOp op _ x=>match op,rho x with
  | .not,.p (.im (.bool b))=>K (.p (.im (.bool !b))) [] none
  | .neg,.p (.im (.int k n))=>u6 k (0-n) fun v=>K (.p (.im v)) [] none
  | _,_=>False
 | .convert src dst x=>match rho x,C.T src,C.T dst with
  | .p (.im (.int _ n)),some _,some { ud:=.int k,.. }=>u6 k n fun v=>K (.p (.im v)) [] none
  | .p (.im (.string s)),some { ud:=.str,.. },some { ud:=.str,.. }=>K (.p (.im (.string s))) [] none
  | .p (.im (.int _ n)),some { ud:=.int _,.. },some { ud:=.str,.. }=>K (.p (.im (.string (Utf8.encode n)))) [] none
  | _,_,_=>False
 | .nilCheck x=>match rho x with
  | .p (.ip cs)=>K (.p (.ip cs)) [] none
  | .bx id off=>match h id with
   | .box _=>K (.bx id off) [] none
   | .jd _=>K (.bx id off) [] none
   | _=>False
  | .rp id i off=>match h id with
   | .row _ _=>K (.rp id i off) [] none
   | .az _ _=>K (.rp id i off) [] none
   | _=>False
  | _=>False
 | .extract x i=>match rho x with
  | .tu xs=>match xs[i]? with
   | some a=>K a [] none
   | none=>False
  | _=>False
 | .box _ x=>match rho x with
  | .p (.ag cs)=>K (.bx d 0) [] (some (.box (cs.map .p)))
  | .st xs=>K (.bx d 0) [] (some (.box xs))
  | a=>match u5 h a with
   | true=>K (.bx d 0) [] (some (.box [a]))
   | false=>False
 | .alloc e=>match C.T e with
  | some ti=>match C.bt e with
   | false=>K (.bx d 0) [] (some (.box (ti.zero.map Jr)))
   | true=>K (.bx d 0) [] (some (.gC e (ti.zero.map Jr)))
  | none=>False
 | .load t a=>match C.T t with
  | none=>False
  | some ti=>match rho a with
   | .p (.ip cs)=>match ti.ud.agg with
    | true=>match H9 ti.size cs.length with
     | true=>K (.p (.ag (cs.take ti.size))) [] none
     | false=>False
    | false=>match cs with
     | c::_=>K (.p c) [] none
     | []=>False
   | .bx id off=>match h id with
    | .box cs=>match ti.ud.agg with
     | true=>match H9 (off+ti.size) cs.length,dY ((cs.drop off).take ti.size) with
      | true,some xs=>K (.p (.ag xs)) [] none
      | _,_=>False
     | false=>match cs.drop off with
      | c::_=>K c [] none
      | []=>False
    | .jd cs=>match ti.ud.agg with
     | true=>match H9 (off+ti.size) cs.length with
      | true=>K (.p (.ag ((cs.drop off).take ti.size))) [] none
      | _=>False
     | false=>match cs.drop off with
      | c::_=>K (.p c) [] none
      | []=>False
    | _=>False
   | .rp id i off=>match h id with
    | .row _ es=>∃r,es[i]?=some r/\match ti.ud.agg with
     | true=>match H9 (off+ti.size) r.length with
      | true=>K (.p (.ag ((r.drop off).take ti.size))) [] none
      | _=>False
     | false=>match r.drop off with
      | c::_=>K (.p c) [] none
      | []=>False
    | .az _ es=>∃r,es[i]?=some r/\match ti.ud.agg with
     | true=>False
     | false=>match r.drop off with
      | .av c::_=>K c [] none
      | _=>False
    | _=>False
   | _=>False
 | .store t a x=>match C.T t with
  | none=>False
  | some ti=>match rho a with
   | .bx id off=>match h id with
    | .box cs=>match ti.ud.agg with
     | true=>gD h (rho x) fun y fz=>match y with
      | .ag ys=>match Ag ys.length ti.size&&H9 (off+ti.size) cs.length&&afu id fz with
       | true=>K .junk (fz++[(id,.box (setCells cs off (ys.map Tp)))]) none
       | false=>False
      | _=>False
     | false=>match H9 (off+1) cs.length&&Ag ti.size 1&&u5 h (rho x) with
      | true=>K .junk [(id,.box (cs.set off (rho x)))] none
      | false=>False
    | _=>False
   | .rp id i off=>match h id with
    | .row e es=>∃r,es[i]?=some r/\gD h (rho x) fun y fz=>match sg y with
     | some ys=>match Ag ys.length ti.size&&H9 (off+ti.size) r.length&&afu id fz with
      | true=>K .junk (fz++[(id,.row e (es.set i (setCells r off ys)))]) none
      | false=>False
     | none=>False
    | .az e es=>∃r,es[i]?=some r/\match ti.ud.agg with
     | true=>False
     | false=>match H9 (off+1) r.length&&Ag ti.size 1&&u5 h (rho x) with
      | true=>K .junk [(id,.az e (es.set i (r.set off (.av (rho x)))))] none
      | false=>False
    | _=>False
   | _=>False
 | .fieldAddr t x f=>match C.T t with
  | some { ud:=.st fs,.. }=>match fs[f]? with
   | some (off,_,_)=>match rho x with
    | .p (.ip cs)=>K (.p (.ip (cs.drop off))) [] none
    | .bx id o=>match h id with
     | .none=>False
     | _=>K (.bx id (o+off)) [] none
    | .rp id i o=>match h id with
     | .row _ _=>K (.rp id i (o+off)) [] none
     | .az _ _=>K (.rp id i (o+off)) [] none
     | _=>False
    | _=>False
   | none=>False
  | _=>False
 | .field t x f=>match C.T t,rho x with
  | some { ud:=.st fs,.. },.p (.ag cs)=>match fs[f]? with
   | some (off,size,agg)=>match agg with
    | true=>match H9 (off+size) cs.length with
     | true=>K (.p (.ag ((cs.drop off).take size))) [] none
     | false=>False
    | false=>match cs.drop off with
     | c::_=>K (.p c) [] none
     | []=>False
   | none=>False
  | _,_=>False
 | .indexAddr t x ix=>match C.T t,rho ix with
  | some { ud:=.sl e,.. },.p (.im (.int _ i))=>match C.T e with
   | none=>False
   | some te=>match rho x with
    | .p (.sl es)=>∃r,(0<=i/\es[i.toNat]?=some r)/\match Ag r.length te.size with
     | true=>K (.p (.ip r)) [] none
     | false=>False
    | .ow id=>match h id with
     | .row e' es=>match Ag e' e with
      | true=>(0<=i/\i.toNat<es.length)/\K (.rp id i.toNat 0) [] none
      | false=>False
     | .az e' es=>match Ag e' e with
      | true=>(0<=i/\i.toNat<es.length)/\K (.rp id i.toNat 0) [] none
      | false=>False
     | .jA es=>∃r,(0<=i/\es[i.toNat]?=some r)/\match Ag r.length te.size with
      | true=>K (.p (.ip r)) [] none
      | false=>False
     | _=>False
    | .vw id lo hi=>match h id with
     | .row e' es=>match Ag e' e with
      | true=>(0<=i/\i.toNat<hi-lo)/\K (.rp id (lo+i.toNat) 0) [] none
      | false=>False
     | _=>False
    | _=>False
  | _,_=>False
 | .index t x ix=>match C.T t,rho x,rho ix with
  | some { ud:=.str,.. },.p (.im (.string s)),.p (.im (.int _ i))=>∃b,(0<=i/\s[i.toNat]?=some b)/\K (.p (.im (.int .u8 b.toNat))) [] none
  | _,_,_=>False
 | .slice t x lo hi none=>match rho x with
  | .ow id=>match h id with
   | .row e' es=>td C rho t lo hi id e' es K\/gm C rho h t x lo hi K
   | _=>gm C rho h t x lo hi K
  | _=>gm C rho h t x lo hi K
 | .makeMap t none=>match C.T t with
  | some { ud:=.mp kt _,.. }=>match C.T kt with
   | some tk=>match Al tk with
    | some mk=>K (.ow d) [] (some (.map mk []))
    | none=>False
   | none=>False
  | _=>False
 | .lookup t x i ck=>match C.T t with
  | some { ud:=.mp kt et,.. }=>match C.T kt,C.T et with
   | some tk,some te=>match Al tk with
    | some mk=>match rho x with
     | .ow id=>match h id with
      | .map mk' es=>match Ww mk mk' with
       | true=>match keyOf mk (rho i) with
        | some k=>∃r,kz es k=r/\match ck with
         | true=>K (.tu [.p (r.getD (xX te)),.p (.im (.bool r.isSome))]) [] none
         | false=>K (.p (r.getD (xX te))) [] none
        | none=>False
       | false=>False
      | _=>False
     | _=>False
    | none=>False
   | _,_=>False
  | _=>False
 | .mapUpdate t x i y=>match C.T t with
  | some { ud:=.mp kt _,.. }=>match C.T kt with
   | some tk=>match Al tk with
    | some mk=>match rho x with
     | .ow id=>match h id with
      | .map mk' es=>match Ww mk mk' with
       | true=>match keyOf mk (rho i) with
        | some k=>gD h (rho y) fun v fz=>match afu id fz with
         | true=>K .junk (fz++[(id,.map mk' (mP es k v))]) none
         | false=>False
        | none=>False
       | false=>False
      | _=>False
     | _=>False
    | none=>False
   | none=>False
  | _=>False
 | .build t ps=>match C.T t with
  | some { ud:=.st fs,zero:=z,.. }=>match C.bo t with
   | false=>jC h fs rho ps.toList (z.map (To (C.bn t))) fun cs fz=>K (.p (.ag cs)) fz none
   | true=>k_ h fs rho ps.toList (z.map Jr) fun cs=>K (.st cs) [] none
  | _=>False
 | .buildSlice t len ps=>match C.T t with
  | some { ud:=.sl e,.. }=>match C.T e with
   | some ti=>match Nat.blt 0 ti.size&&H9 (len*ti.size) 16777216 with
    | true=>match C.bf d with
     | false=>gG (C.bn t) h ti.size rho ps.toList (List.replicate len (ti.zero.map xi)) fun es fz=>K (.ow d) fz (some (.row e es))
     | true=>gG (C.bn t) h ti.size rho ps.toList (List.replicate len (ti.zero.map xi)) fun es fz=>K (.ow d) fz (some (.jA es))
    | false=>False
   | none=>False
  | _=>False
 | .makeSlice t n c=>match C.T t,rho n,rho c with
  | some { ud:=.sl e,.. },.p (.im (.int _ n)),.p (.im (.int _ c))=>match C.T e with
   | some ti=>match Nat.blt 0 ti.size with
    | true=>(0<=n/\n<=c/\c*ti.bytes<=140737488355328/\c<=9223372036854775807)/\K (.ow d) [] (some (.row e (List.replicate n.toNat (ti.zero.map (To (C.bn t))))))
    | false=>False
   | none=>False
  | _,_,_=>False
 | .makeFunc (.func f) first cap=>match isNil first.toList with
  | true=>K (.fn f (cap.toList.map rho)) [] none
  | false=>False
 | .call c=>match aeC c.callee with
  | .len=>match c.args.toList,c.argTypes.toList with
   | [x],[t]=>match C.T t with
    | some { ud:=.str,.. }=>match rho x with
     | .p (.im (.string s))=>K (.p (.im (.int .i64 s.size))) [] none
     | _=>False
    | some { ud:=.sl _,.. }=>match hlen h (rho x) with
     | some n=>K (.p (.im (.int .i64 n))) [] none
     | none=>gH h (rho x) fun es=>K (.p (.im (.int .i64 es.length))) [] none
    | some { ud:=.mp _ _,.. }=>match rho x with
     | .ow id=>match h id with
      | .map _ es=>K (.p (.im (.int .i64 es.length))) [] none
      | _=>False
     | _=>False
    | _=>False
   | _,_=>False
  | .clear=>match c.args.toList,c.argTypes.toList with
   | [x],[t]=>match C.T t with
    | some { ud:=.sl e,.. }=>match C.T e with
     | some ti=>match rho x with
      | .vw id lo hi=>match h id with
       | .row e' es=>match Ag e' e&&Nat.blt 0 ti.size with
        | true=>(lo<=hi/\hi<=es.length)/\K (.tu []) [(id,.row e' (es.take lo++List.replicate (hi-lo) (ti.zero.map xi)++es.drop hi))] none
        | false=>False
       | _=>False
      | _=>False
     | none=>False
    | _=>False
   | _,_=>False
  | .min=>match c.args.toList with
   | [x,y]=>match rho x,rho y with
    | .p (.im (.int k a)),.p (.im (.int _ b))=>K (.p (.im (.int k (min a b)))) [] none
    | _,_=>False
   | _=>False
  | .max=>match c.args.toList with
   | [x,y]=>match rho x,rho y with
    | .p (.im (.int k a)),.p (.im (.int _ b))=>K (.p (.im (.int k (max a b)))) [] none
    | _,_=>False
   | [x,y,z]=>match rho x,rho y,rho z with
    | .p (.im (.int k a)),.p (.im (.int _ b)),.p (.im (.int _ c))=>K (.p (.im (.int k (max (max a b) c)))) [] none
    | _,_,_=>False
   | [x,y,z,u,v]=>match rho x,rho y,rho z,rho u,rho v with
    | .p (.im (.int k a)),.p (.im (.int _ b)),.p (.im (.int _ c)),.p (.im (.int _ d)),.p (.im (.int _ e))=>K (.p (.im (.int k (max (max (max (max a b) c) d) e)))) [] none
    | _,_,_,_,_=>False
   | _=>False
  | .append=>match c.args.toList,c.argTypes.toList with
   | [x,y],[t,t']=>match Ag t t',C.T t with
    | true,some { ud:=.sl e,.. }=>match C.T e with
     | some ti=>match Nat.blt 0 ti.size with
      | true=>gH h (rho y) fun ys=>match rho x with
       | .nl=>((∀r∈ys,r.length=ti.size)/\ys.length*ti.bytes<=140737488355328/\ys.length<=140737488355328)/\K (.ow d) [] (some (.row e ys))
       | .ow id=>match h id with
        | .row e' xs=>match Ag e' e with
         | true=>((∀r∈ys,r.length=ti.size)/\(xs.length+ys.length)*ti.bytes<=140737488355328/\xs.length+ys.length<=140737488355328)/\K (.ow d) [(id,.none)] (some (.row e (xs++ys)))
         | false=>False
        | .az e' xs=>match Ag e' e with
         | true=>((∀r∈ys,r.length=ti.size)/\(xs.length+ys.length)*ti.bytes<=140737488355328/\xs.length+ys.length<=140737488355328)/\K (.ow d) [(id,.none)] (some (.az e (xs++ys.map s9)))
         | false=>False
        | _=>False
       | _=>False
      | false=>False
     | none=>False
    | _,_=>False
   | _,_=>False
  | .val g=>match xW (rho g) with
   | some (f,cap)=>match C.bl f with
    | false=>tc C h d f (c.args.toList.map rho++cap) K
    | true=>v_ C h d f (c.args.toList.map rho++cap) K
   | none=>False
  | _=>False
 | _=>False
end Go.AM
namespace Go.AM
open Go.RowKit
def nV(P:Program)(t:TypeId)(ti:TI):Prop:=
 ∃info z,P.info? t=some info/\info.size=ti.size/\info.bytes=ti.bytes/\info.zero=some z/\z.cells=ti.zero.toArray/\ti.zero.length=ti.size/\(∀v∈ti.zero,v.oneCell'=true)/\
  match ti.ud with
  | .sc=>(∃d,P.underlying t=some d/\(match d with | .struct _ | .array _ _=>False | _=>True))/\(ti.eq=true->P.underlying t=some .bool)
  | .int k=>P.underlying t=some (.int k)
  | .st fs=>∃gs,P.underlying t=some (.struct gs)/\fs.length=gs.size/\(∀(i:Nat) f g,fs[i]?=some f->gs[i]?=some g->f.1=g.offset/\f.2.1≠0/\(∃i2,P.info? g.type=some i2/\i2.size=f.2.1)/\
    (∃d,P.underlying g.type=some d/\f.2.2=(match d with | .struct _ | .array _ _=>true | _=>false)))
  | .sl e=>P.underlying t=some (.slice e)
  | .str=>P.underlying t=some .string
  | .mp k e=>P.underlying t=some (.map k e)
def Lr:Value->Bool
 | .agg _=>true
 | _=>false
def F8(P:Program)(t:TypeId)(ti:TI):Prop:=∃info z,P.info? t=some info/\info.zero=some z/\Lr z=ti.ud.agg
def rM(k:Value):List MapEntry->Nat->Option (Nat×Value)
 | [],_=>none
 | m::r,i=>match Ak k m.key with
  | true=>some (i,m.val)
  | false=>rM k r (i+1)
structure Ls(P:Program)(kt:TypeId)(mk:MK):Prop where
 check:∀(e:Bool) (k:Value) (w:World),mk.ok k->(Instr.checkKey e 10000 kt k).run P w=.ok () w
 find:∀(k:Value) (w:World) (ms:List MapEntry),mk.ok k->(∀m∈ms,mk.ok m.key)->(Instr.findKey kt k ms).run P w=.ok (rM k ms 0) w
structure bI(C:Ctx):Prop where
 zs:∀t ti,C.T t=some ti->F8 C.P t ti
 iq:∀t ti,C.T t=some ti->nV C.P t ti
 env:∀S S' w w',C.E S w->(∀b,S b->S' b)->(∀b,S b->w'.heap[b]?=w.heap[b]?)->w.heap.size<=w'.heap.size->C.E S' w'
 any:C.P.follows .mixedOrders=true
 eqs:∀t ti op a b r,C.T t=some ti->ti.eq=true->(∃fs,ti.ud=.st fs)->bM ti.zero a b=some r->∀(xs ys:Array Value) w,(∀(i:Nat) x v,a[i]?=some x->xs[i]?=some v->x=.im v)->(∀(i:Nat) x v,b[i]?=some x->ys[i]?=some v->x=.im v)->
  a.length=xs.size->b.length=ys.size->ti.size=a.length->(op=.eql\/op=.neq)->∀(x y:Operand),(do eqGuard op t x y (.agg xs) (.agg ys);binOp op t (.agg xs) (.agg ys):Sem Value).run C.P w=.ok (.bool (if op=.eql then r else !r)) w
 keys:∀kt tk sh,C.T kt=some tk->Al tk=some (.st sh)->Ls C.P kt (.st sh)
structure cD where
 C:Ctx
 w0:World
 mv:Nat->Prop
 s0:Nat->Prop
 n:Nat
 pin:Nat->Value
structure b7(A:cD)(V L:Nat->Prop)(S:Nat->Prop)(rho:Nat->Value)(s:AS)(a:Act)(w:World):Prop where
 tm:∀j,V j->aY S w A.C.P L rho s.h (s.t j) (a.tmps.getD j undef)
 sz:a.tmps.size=A.n
 df:a.defers=[]
 nb:A.n<=100000
 pn:∀id,100000<=id->rho id=A.pin id
 ev:A.C.E S w
 s0:∀b,A.s0 b->S b
 st:∀b,S b->b<w.heap.size
 sb:∀b,S b->A.s0 b\/A.mv b\/A.w0.heap.size<=b
 hp:∀id,L id->eK S w A.C.P L rho s.h id (s.h id)
 dj:∀i j g,L i->L j->(s.h i).live->(s.h j).live->hasB w (s.h i) (rho i) g->hasB w (s.h j) (rho j) g->i=j
 lv:∀i g,L i->(s.h i).live->hasB w (s.h i) (rho i) g->g<w.heap.size/\¬S g/\(A.mv g\/A.w0.heap.size<=g)
 fr:Fr A.mv A.w0 w
variable {A:cD} {V L:Nat->Prop} {rho:Nat->Value} {s:AS} {w:World}
theorem b7.TJ{S:Nat->Prop}{a:Act}(sim:b7 A V L S rho s a w)(i j g:Nat)(hi:L i)(hj:L j)(li:(s.h i).live)(lj:(s.h j).live)(bi:cC (rho i)=some g)(bj:cC (rho j)=some g):i=j:=sim.dj i j g hi hj li lj (.inl bi) (.inl bj)
theorem b7.pM{S:Nat->Prop}{a:Act}(sim:b7 A V L S rho s a w)(i g:Nat)(hi:L i)(li:(s.h i).live)(bi:cC (rho i)=some g):g<w.heap.size/\¬S g/\(A.mv g\/A.w0.heap.size<=g):=sim.lv i g hi li (.inl bi)
structure lB(S S':Nat->Prop)(w w':World)(L L':Nat->Prop)(rho rho':Nat->Value)(h h':Nat->AB):Prop where
 hS:∀b,S b->S' b
 keep:∀b,S b->w'.heap[b]?=w.heap[b]?
 ids:∀id,(h' id).there->(h id).there/\(L id->L' id/\rho' id=rho id)
 rows:∀id e,(h' id).oG=some e->(h id).oG=some e
variable {e:TypeId}
theorem oK{b:AB}(h:b.oG=some e):b.there:=by cases b<;>first | trivial | cases h
variable {S' L':Nat->Prop} {w':World} {rho':Nat->Value} {h':Nat->AB}
theorem aY.cK{S:Nat->Prop}{P:Program}{h:Nat->AB}(T:lB S S' w w' L L' rho rho' h h'){x:AV}{v:Value}
  (hx:aY S w P L rho h x v):aY S' w' P L' rho' h' x v:=by
 induction hx with
 | p x v hx=>exact .p x v (hx.mono T.hS T.keep)
 | nl=>exact .nl
 | ow id v hv=>
  refine .ow id v fun ht=>?_;obtain⟨h1,h2⟩:=T.ids id ht;obtain⟨h3,h4⟩:=hv h1;obtain⟨h5,h6⟩:=h2 h3;exact⟨h5,by rw[h6];exact h4⟩
 | rp id i off v hv=>
  refine .rp id i off v fun e he=>?_;obtain⟨h3,g,n,c,ti,h4,h5,h6⟩:=hv e (T.rows id e he);obtain⟨h7,h8⟩:=(T.ids id (oK he)).2 h3;exact⟨h7,g,n,c,ti,by rw[h8];exact h4,h5,h6⟩
 | bx id off v hv=>
  refine .bx id off v fun ht=>?_;obtain⟨h1,h2⟩:=T.ids id ht;obtain⟨h3,g,h4,h7⟩:=hv h1;obtain⟨h5,h6⟩:=h2 h3;exact⟨h5,g,by rw[h6];exact h4,h7⟩
 | vw id lo hi v hv=>
  refine .vw id lo hi v fun e he=>?_;obtain⟨h3,n,c,a,ti,h4,h5⟩:=hv e (T.rows id e he);obtain⟨h7,h8⟩:=(T.ids id (oK he)).2 h3;exact⟨h7,n,c,a,ti,by rw[h8];exact h4,h5⟩
 | fn f cap vs hl hc ih=>exact .fn f cap vs hl ih
 | tu xs vs hl hc ih=>exact .tu xs vs hl ih
 | st xs vs hl h1 hc ih=>exact .st xs vs hl h1 ih
 | junk v=>exact .junk v
theorem th{base:Nat}{size:Nat}{v:Value}{n:Nat}{xs:List Value}(h:w.ownsRow base e size v n xs)(hb:∀g,cC v=some g->w'.heap[g]?=w.heap[g]?):w'.ownsRow base e size v n xs:=by
 refine⟨h.1,?_⟩;rcases h.2 with h2 | ⟨g,cap,cur,hv,hg,DG,r⟩
 ·exact .inl h2
 exact .inr ⟨g,cap,cur,hv,hg,by rw[hb g (by rw[hv];rfl)];exact DG,r⟩
theorem aG.cK{α:Type}{P:Program}{R R':α->Value->Prop}{es:List (List α)}{v:Value}(h:aG P w R e es v)(hb:∀g,cC v=some g->w'.heap[g]?=w.heap[g]?)(hR:∀x u,R x u->R' x u):aG P w' R' e es v:=by
 obtain⟨i,xs,h1,h2,h3,h4,h5,h6⟩:=h;exact⟨i,xs,h1,h2,th h3 hb,h4,h5,fun a r j x ha hj=>by obtain⟨u,hu,hr⟩:=h6 a r j x ha hj;exact⟨u,hu,hR x u hr⟩⟩
theorem uZ.cK{es:List (List HX)}{v:Value}(h:uZ w es v)(hb:∀g,cC v=some g->w'.heap[g]?=w.heap[g]?):uZ w' es v:=
 ⟨fun g a j u b hg h1 h2=>h.top g a j u b hg (mX (hb g hg) h1) h2,fun g a j a' j' u u' b hg h1 h2 h3 h4=>h.dis g a j a' j' u u' b hg (mX (hb g hg) h1) (mX (hb g hg) h2) h3 h4⟩
theorem aG.DO{P:Program}{R:HX->Value->Prop}{es:List (List HX)}{v:Value}(h:aG P w R e es v){a j:Nat}{r:List HX}{e':TypeId}{rN:List (List PV)}(ha:es[a]?=some r)(hj:r[j]?=some (.row e' rN)):
  ∃g u,cC v=some g/\dF w es g a j u/\R (.row e' rN) u:=by
 obtain⟨i,xs,h1,h2,h3,h4,h5,h6⟩:=h;obtain⟨u,hu,hr⟩:=h6 a r j _ ha hj;have xj:=h4 r (aad ha);rcases h3.2 with⟨hn,hz⟩ | ⟨g,cap,cur,hv,hg,DG,k1,k2,k3,k4⟩
 ·have:=(aao.1 ha).1;omega
 refine⟨g,u,by rw[hv];rfl,⟨r,e',rN,_,_,_,ha,hj,DG,?_⟩,hr⟩;rw[xj];rw[<-k4,aa7]at hu;split at hu
 ·simpa using hu
 cases hu
theorem eK.cK{S:Nat->Prop}{P:Program}{h:Nat->AB}(T:lB S S' w w' L L' rho rho' h h'){id:Nat}{x:AB}
  (hb:x.live->∀g,hasB w x (rho id) g->w'.heap[g]?=w.heap[g]?) (hr:x.there->rho' id=rho id) (hx:eK S w P L rho h id x):eK S' w' P L' rho' h' id x:=by
 cases x with
 | none=>trivial
 | row e es=>
  show aG P w' (aO S' w') e es (rho' id);rw[hr trivial];exact aG.cK hx (fun g hg=>hb trivial g (.inl hg)) (fun x u hu=>hu.mono T.hS T.keep)
 | jA es=>
  show aO S' w' (.sl es) (rho' id);rw[hr trivial];exact aO.mono hx T.hS T.keep
 | box cs=>
  obtain⟨g,ty,c,h1,h2,h3,h4⟩:=hx;refine⟨g,ty,c,by rw[hr trivial];exact h1,by rw[hb trivial g (.inl (by rw[h1];rfl))];exact h2,h3,fun j x u hj hu=>?_⟩;obtain⟨h5,h6⟩:=h4 j x u hj hu;exact⟨h5,h6.cK T⟩
 | gC ty cs=>
  obtain⟨g,c,h1,h2,h3,h4⟩:=hx;refine⟨g,c,by rw[hr trivial];exact h1,by rw[hb trivial g (.inl (by rw[h1];rfl))];exact h2,h3,fun j x u hj hu=>?_⟩;obtain⟨h5,h6⟩:=h4 j x u hj hu;exact⟨h5,h6.cK T⟩
 | jd cs=>
  show aO S' w' (.ip cs) (rho' id);rw[hr trivial];exact aO.mono hx T.hS T.keep
 | map mk es=>
  obtain⟨g,ms,clock,h1,h2,h3,h4⟩:=hx;refine⟨g,ms,clock,by rw[hr trivial];exact h1,by rw[hb trivial g (.inl (by rw[h1];rfl))];exact h2,h3,fun i p m hi hm=>?_⟩;obtain⟨h5,h6,h7⟩:=h4 i p m hi hm;exact⟨h5,h6,h7.mono T.hS T.keep⟩
 | aN cs=>
  obtain⟨g,ty,c,h1,hB⟩:=hx;have hg:cC (rho id)=some g:=by rw[h1];rfl
  refine⟨g,ty,c,by rw[hr trivial];exact h1,⟨by rw[hb trivial g (.inl hg)];exact hB.hp,hB.sz,fun j x u hj hu=>?_,hB.top,hB.dis⟩⟩;obtain⟨h5,h6⟩:=hB.cell j x u hj hu;refine⟨h5,?_⟩;cases x with
  | p x=>exact aO.mono h6 T.hS T.keep
  | row e es=>exact aG.cK h6 (fun k hk=>hb trivial k (.inr (.inl ⟨cs,g,rfl,hg,c,ty,_,j,_,u,hB.hp,hj,trivial,hu,hk⟩))) (fun x u hu=>hu.mono T.hS T.keep)
 | az e es=>
  obtain⟨hR,hS⟩:=hx;have hg:∀g,cC (rho id)=some g->w'.heap[g]?=w.heap[g]?:=fun g hg=>hb trivial g (.inl hg);refine⟨?_,by rw[hr trivial];exact hS.cK hg⟩;rw[hr trivial];obtain⟨i,xs,h1,h2,h3,h4,h5,h6⟩:=hR;refine⟨i,xs,h1,h2,th h3 hg,h4,h5,fun a r j x ha hj=>?_⟩;obtain⟨u,hu,An⟩:=h6 a r j x ha hj;refine⟨u,hu,?_⟩;cases x with
  | av x=>exact aY.cK T An
  | row e' rN=>
   refine aG.cK An (fun k hk=>hb trivial k (.inr (.inr ?_))) (fun x u hu=>hu.mono T.hS T.keep);have xj:=h4 r (aad ha);rcases h3.2 with⟨hn,hz⟩ | ⟨g,cap,cur,hv,hg,DG,k1,k2,k3,k4⟩
   ·have:=(aao.1 ha).1;omega
   refine⟨e,es,g,a,j,u,rfl,by rw[hv];rfl,⟨r,e',rN,_,_,_,ha,hj,DG,?_⟩,hk⟩;rw[xj];rw[<-k4,aa7]at hu;split at hu
   ·simpa using hu
   cases hu
theorem Fr.next{mv:Nat->Prop}{w0:World}(h:Fr mv w0 w)(ho:w'.os=w.os)(ht:w'.tape=w.tape)(hu:w'.output=w.output)(hs:w.heap.size<=w'.heap.size)(hb:∀k,k<w0.heap.size->¬mv k->w'.heap[k]?=w.heap[k]?):Fr mv w0 w':=
 ⟨ho.trans h.os,ht.trans h.tape,hu.trans h.output,aaF h.size hs,fun k hk hn=>(hb k hk hn).trans (h.block k hk hn)⟩
def fx(t:Nat->AV)(d:Option Tmp)(v:AV):Nat->AV:=match d with
 | some d=>aT t d v
 | none=>t
def xY(V:Nat->Prop)(d:Option Tmp)(j:Nat):Prop:=V j\/d=some j
theorem Lt(a:Act)(d:Tmp)(v:Value)(j:Nat)(hd:d<a.tmps.size):(a.put (some d) v).tmps.getD j undef=if j=d then v else a.tmps.getD j undef:=by
 simp only[Act.put,ac4,aei];by_cases h:d=j
 ·subst h;simp[hd]
 have:¬j=d:=fun e=>h e.symm;simp[h,this]
theorem Rl{S:Nat->Prop}{a:Act}(sim:b7 A V L S rho s a w)(T:lB S S' w w' L L' rho rho' s.h h')(dst:Option Tmp)(hd:∀d,dst=some d->d<A.n)(x:AV)(v:Value)
  (hv:aY S' w' A.C.P L' rho' h' x v):∀j,xY V dst j->aY S' w' A.C.P L' rho' h' (fx s.t dst x j) ((a.put dst v).tmps.getD j undef):=by
 intro j hj;cases dst with
 | none=>
  rcases hj with hj | hj
  ·exact (sim.tm j hj).cK T
  cases hj
 | some d=>
  rw[Lt a d v j (by rw[sim.sz];exact hd d rfl)];by_cases e:j=d
  ·subst e;simp only[fx,aH,if_true];exact hv
  simp only[fx,aV _ _ e,aaa e];rcases hj with hj | hj
  ·exact (sim.tm j hj).cK T
  injection hj with hj;exact absurd hj.symm e
theorem Lu(a:Act)(dst:Option Tmp)(v:Value):(a.put dst v).tmps.size=a.tmps.size:=by cases dst<;>simp[Act.put]
theorem DP(a:Act)(dst:Option Tmp)(v:Value):(a.put dst v).defers=a.defers:=by cases dst<;>rfl
theorem b7.value{S:Nat->Prop}{a:Act}(sim:b7 A V L S rho s a w)(dst:Option Tmp)(hd:∀d,dst=some d->d<A.n)(x:AV)(v:Value)(hv:aY S w A.C.P L rho s.h x v):
  b7 A (xY V dst) L S rho ⟨fx s.t dst x,s.h⟩ (a.put dst v) w:=
 {tm:=Rl sim ⟨fun _ h=>h,fun _ _=>rfl,fun _ h=>⟨h,fun hl=>⟨hl,rfl⟩⟩,fun _ _ h=>h⟩ dst hd x v hv
  sz:=(Lu a dst v).trans sim.sz
  df:=(DP a dst v).trans sim.df
  nb:=sim.nb,pn:=sim.pn
  ev:=sim.ev,s0:=sim.s0,st:=sim.st,sb:=sim.sb,hp:=sim.hp,dj:=sim.dj,lv:=sim.lv,fr:=sim.fr }
end Go.AM
namespace Go.AM
open Go.RowKit
variable {w:World} {Q:Exit->Act->World->Prop}
theorem dW{P:Program}{o:Oper}{a:Act}{w':World}{v:Value}{next:Act->World->Prop}(h:(execOp a.eval o).run P w=.ok (.value v) w')(hn:next (a.put o.dst v) w'):o.wp P a w next Q:=by
 unfold Oper.wp;rw[h];exact hn
theorem qc{P:Program}{o:Oper}{a:Act}{w':World}{next:Act->World->Prop}(h:(execOp a.eval o).run P w=.ok .skip w')(hn:next (a.put o.dst undef) w'):o.wp P a w next Q:=by
 unfold Oper.wp;rw[h];exact hn
theorem tn(S:Nat->Prop)(w:World)(v:Value):aO S w (xi v) v:=by
 unfold xi;split
 ·exact .nil _ _
 exact .im _
theorem Ie(b:Bool)(S:Nat->Prop)(w:World)(v:Value):aO S w (To b v) v:=by
 cases b
 ·exact tn S w v
 exact .im v
variable {L:Nat->Prop} {rho:Nat->Value}
theorem xy{S:Nat->Prop}{P:Program}{h:Nat->AB}{x:PV}{v:Value}(hx:aO S w x v):aY S w P L rho h (Tp x) v:=by
 unfold Tp;split
 ·cases hx;exact .nl
 exact .p _ _ hx
theorem xZ(S:Nat->Prop)(w:World)(P:Program)(L:Nat->Prop)(rho:Nat->Value)(h:Nat->AB)(v:Value):aY S w P L rho h (Jr v) v:=by
 unfold Jr;split
 ·exact .nl
 exact .p _ _ (.im _)
theorem Jt(S:Nat->Prop)(w:World)(P:Program)(L:Nat->Prop)(rho:Nat->Value)(h:Nat->AB)(v:Value):aY S w P L rho h (Cc v) v:=by
 unfold Cc;split
 ·exact .nl
 ·rename_i cs;split
  ·rename_i aeL;refine .p _ _ (.ag _ _ (by simp) (fun u hu=>?_) fun i c v hc hv=>?_)
   ·rw[abh]at aeL;exact aeL u hu
   rw[aak]at hc;have F9:cs.toList[i]?=some v:=by simpa using hv
   rw[F9]at hc;simp at hc;rw[<-hc];exact tn S w v
  exact .junk _
 exact .p _ _ (.im _)
variable {A:cD} {V:Nat->Prop} {s:AS}
theorem bp{S:Nat->Prop}{a:Act}(sim:b7 A V L S rho s a w)(x:Operand)(hx:∀j,x=.tmp j->V j):aY S w A.C.P L rho s.h (ev s.t x) (a.eval x):=by
 cases x with
 | tmp j=>exact sim.tm j (hx j rfl)
 | const v=>exact Jt _ _ _ _ _ _ v
 | global g=>exact .p _ _ (.im _)
 | func f=>exact .p _ _ (.im _)
theorem aY.eR{S:Nat->Prop}{P:Program}{h:Nat->AB}{x:PV}{v:Value}(hx:aY S w P L rho h (.p x) v):aO S w x v:=by cases hx;assumption
theorem aO.bS{S:Nat->Prop}{x v:Value}(hx:aO S w (.im x) v):v=x:=by cases hx;rfl
theorem aY.bS{S:Nat->Prop}{P:Program}{h:Nat->AB}{x v:Value}(hx:aY S w P L rho h (.p (.im x)) v):v=x:=hx.eR.bS
theorem aO.su{S:Nat->Prop}{cs:List PV}{v:Value}(hx:aO S w (.ag cs) v):∃vs:Array Value,v=.agg vs/\cs.length=vs.size/\(∀u∈vs.toList,u.oneCell'=true)/\(∀(i:Nat) c u,cs[i]?=some c->vs[i]?=some u->aO S w c u):=by
 cases hx;exact⟨_,rfl,by assumption,by assumption,by assumption⟩
theorem aO.x8{S:Nat->Prop}{cs:List PV}{v:Value}(hx:aO S w (.ip cs) v):∃b off,∃U:Nat->Value,v=.pointer (some ⟨b,off,none⟩)/\S b/\(∀(j:Nat) x,cs[j]?=some x->w.cell? ⟨b,off+j,none⟩=some (U j)/\(U j).oneCell'=true)/\(∀(j:Nat) x,cs[j]?=some x->aO S w x (U j)):=by
 cases hx;exact⟨_,_,_,rfl,by assumption,by assumption,by assumption⟩
variable {es:List (List PV)}
theorem aO.oL{S:Nat->Prop}{v:Value}(hx:aO S w (.sl es) v):∃a c,v=.slice a es.length c/\es.length<=c/\(es≠[]->∃b off k,a=some ⟨b,off,none⟩/\S b/\(∀e∈es,e.length=k)/\
  ∀(i:Nat) e (j:Nat) x,es[i]?=some e->e[j]?=some x->∃u,w.cell? ⟨b,off+i*k+j,none⟩=some u/\u.oneCell'=true/\aO S w x u):=by
 cases hx with
 | nil a c=>exact⟨a,c,rfl,by simp,fun h=>absurd rfl h⟩
 | sl _ k b off c U hc hS hk hcell h=>exact⟨_,c,rfl,hc,fun _=>⟨b,off,k,rfl,hS,hk,fun i e j x h1 h2=>⟨U i j,(hcell i e j x h1 h2).1,(hcell i e j x h1 h2).2,h i e j x h1 h2⟩⟩⟩
def Cg(L:Nat->Prop)(new:Option AB)(d:Nat):Nat->Prop:=match new with
 | none=>L
 | some _=>fun i=>L i\/i=d
def iE(A:cD)(o:Oper):Prop:=
 ∀(V L S:Nat->Prop) (rho:Nat->Value) (s:AS) (a:Act) (w:World) (K:KK) (next:Act->World->Prop) (Q:Exit->Act->World->Prop),bI A.C->b7 A V L S rho s a w->(∀j,Operand.tmp j∈o.op.operands->V j)->(∀d,o.dst=some d->d<A.n)->
  bV A.C o (ev s.t) s.h K->(∀v eff b,K v eff (some b)->¬L (o.dst.getD 0)/\s.h (o.dst.getD 0)=b)->
  (∀v eff new S' rho' a' w',K v eff new->b7 A (xY V o.dst) (Cg L new (o.dst.getD 0)) S' rho' ⟨fx s.t o.dst v,app s.h eff⟩ a' w'->next a' w')->o.wp A.C.P a w next Q
theorem aM{o:Oper}{S:Nat->Prop}{a:Act}{K:KK}{next:Act->World->Prop}(sim:b7 A V L S rho s a w)(hd:∀d,o.dst=some d->d<A.n)
  (hnext:∀v eff new S' rho' a' w',K v eff new->b7 A (xY V o.dst) (Cg L new (o.dst.getD 0)) S' rho' ⟨fx s.t o.dst v,app s.h eff⟩ a' w'->next a' w') {x:AV} {v:Value} (hq:K x [] none) (hv:aY S w A.C.P L rho s.h x v)
  (hr:(execOp a.eval o).run A.C.P w=.ok (.value v) w):o.wp A.C.P a w next Q:=
 dW hr (hnext _ _ _ _ _ _ _ hq (sim.value o.dst hd x v hv))
theorem OA{o:Oper}(x:Operand)(aK:o.op=.move x):iE A o:=by
 intro V L S rho s a w K next Q hC sim hV hd hq _ hnext
 simp only[bV,aK]at hq;exact aM sim hd hnext hq (bp sim x fun j hj=>hV j (by simp[aK,Op.operands,hj])) (by simp[execOp,aK])
theorem Ju{o:Oper}(x:Operand)(aK:o.op=.assign x):iE A o:=by
 intro V L S rho s a w K next Q hC sim hV hd hq _ hnext
 simp only[bV,aK]at hq;exact aM sim hd hnext hq (bp sim x fun j hj=>hV j (by simp[aK,Op.operands,hj])) (by simp[execOp,aK])
theorem OB{o:Oper}(c x y:Operand)(aK:o.op=.pick c x y):iE A o:=by
 intro V L S rho s a w K next Q hC sim hV hd hq _ hnext
 simp only[bV,aK]at hq;have hc:=bp sim c fun j hj=>hV j (by simp[aK,Op.operands,hj]);have hx:=bp sim x fun j hj=>hV j (by simp[aK,Op.operands,hj]);have hy:=bp sim y fun j hj=>hV j (by simp[aK,Op.operands,hj]);split at hq
 ·rename_i t ht;rw[ht]at hc;split at hq
  ·exact aM sim hd hnext hq hx (by simp[execOp,aK,hc.bS,asBool])
  exact aM sim hd hnext hq hy (by simp[execOp,aK,hc.bS,asBool])
 exact hq.elim
theorem aY.Rm{S:Nat->Prop}{P:Program}{h:Nat->AB}{xs:List AV}{v:Value}(hx:aY S w P L rho h (.st xs) v):∃vs:Array Value,v=.agg vs/\xs.length=vs.size/\(∀u∈vs.toList,u.oneCell'=true)/\∀(i:Nat) c u,xs[i]?=some c->vs[i]?=some u->aY S w P L rho h c u:=by
 cases hx;exact⟨_,rfl,by assumption,by assumption,by assumption⟩
theorem aY.Rn{S:Nat->Prop}{P:Program}{h:Nat->AB}{xs:List AV}{v:Value}(hx:aY S w P L rho h (.tu xs) v):∃vs:Array Value,v=.tuple vs/\xs.length=vs.size/\∀(i:Nat) c u,xs[i]?=some c->vs[i]?=some u->aY S w P L rho h c u:=by
 cases hx;exact⟨_,rfl,by assumption,by assumption⟩
variable {α:Type}
theorem jG{vs:Array α}{n i:Nat}(hl:n=vs.size)(hi:i<n):∃v,vs[i]?=some v:=⟨vs[i]'(by omega),aa1 _⟩
theorem aD{l:List α}{i:Nat}{x:α}(h:l[i]?=some x):i<l.length:=(aao.1 h).1
theorem F_{o:Oper}(x:Operand)(i:Nat)(aK:o.op=.extract x i):iE A o:=by
 intro V L S rho s a w K next Q hC sim hV hd hq _ hnext
 simp only[bV,aK]at hq;have hx:=bp sim x fun j hj=>hV j (by simp[aK,Op.operands,hj]);split at hq
 ·rename_i xs s9;rw[s9]at hx;split at hq
  ·rename_i y hy;obtain⟨vs,Z8,hl,hc⟩:=hx.Rn;obtain⟨v,hv⟩:=jG hl (aD hy);refine aM sim hd hnext hq (hc i y v hy hv) ?_;simp[execOp,aK,Z8,Instr.extract,hv]
  exact hq.elim
 exact hq.elim
theorem Ig{a b:IntKind}(h:kB a b=true):a=b:=by cases a<;>cases b<;>first | rfl | cases h
theorem OC{k:IntKind}(h:TG k=true):k=.i64:=by cases k<;>first | rfl | cases h
theorem nW{k:IntKind}{n:Int}{K:Value->Prop}(h:u6 k n K):K (.int k (k.wrap n)):=by
 unfold u6 at h;split at h
 ·rename_i Z9;obtain rfl:=OC Z9;obtain⟨⟨h1,h2⟩,h3⟩:=h;rw[IntWalk.i64_in n ⟨h1,h2⟩];exact h3
 exact h
theorem Ch(a b:ByteArray):(a.toList==b.toList)=decide (a=b):=by
 rw[abb];simp only[beq_iff_eq,aaH,adQ];constructor
 ·intro h;exact ByteArray.ext (adR h)
 rintro rfl;rfl
theorem Ih(a b:ByteArray):Op.bytesLess a.toList b.toList=Op.bytesLess a.data.toList b.data.toList:=by rw[adQ,adQ]
theorem x9(a b:Int):(a==b)=decide (a=b):=by rw[abb];simp
theorem Ga(a b:Int):(a != b)=!decide (a=b):=by rw[bne,x9]
theorem OD{a b:Nat}(h:Ag a b=true):a=b:=aa2 h
theorem run_equalIn_slice_nil{P:Program}(w:World)(d:Nat)(t e:TypeId)(a:Option Addr)(l c:Nat)(h:P.underlying t=some (.slice e)):(Op.equalIn (d+1) t (.slice a l c) (.slice none 0 0)).run P w=.ok a.isNone w:=by
 cases a<;>simp[Op.equalIn,run_underlying h]
theorem run_equal_slice_nil{P:Program}(w:World)(t e:TypeId)(a:Option Addr)(l c:Nat)(h:P.underlying t=some (.slice e)):(Op.equal t (.slice a l c) (.slice none 0 0)).run P w=.ok a.isNone w:=run_equalIn_slice_nil w 9999 t e a l c h
theorem Lv{o:Oper}(op:BinOp)(t:TypeId)(x y:Operand)(t':TypeId)(aK:o.op=.binOp op t x y t'):iE A o:=by
 intro V L S rho s a w K next Q hC sim hV hd hq _ hnext
 simp only[bV,aK]at hq;have hx:=bp sim x fun j hj=>hV j (by simp[aK,Op.operands,hj]);have hy:=bp sim y fun j hj=>hV j (by simp[aK,Op.operands,hj]);split at hq
 ·rename_i u v hu hv;rw[hu]at hx;rw[hv]at hy;replace hx:=hx.eR;replace hy:=hy.eR;unfold sj at hq;split at hq
  ·rename_i k m k' n;have e1:=hx.bS;have e2:=hy.bS;split at hq
   ·rename_i hs;have WA:op=.shr:=by cases op<;>first | rfl | cases hs
    subst WA;obtain⟨⟨h0,h1⟩,hq⟩:=hq;refine aM sim hd hnext hq (.p _ _ (.im _)) ?_;have WB:¬n<0:=by omega
    simp[execOp,aK,e1,e2,eqGuard,binOp,Op.shift,WB]
   split at hq
   ·exact hq.elim
   rename_i hk;obtain rfl:=Ig hk;split at hq
   ·exact aM sim hd hnext (nW hq) (.p _ _ (.im _)) (by simp[execOp,aK,e1,e2,eqGuard,binOp,Op.intArith])
   ·exact aM sim hd hnext (nW hq) (.p _ _ (.im _)) (by simp[execOp,aK,e1,e2,eqGuard,binOp,Op.intArith])
   ·exact aM sim hd hnext (nW hq) (.p _ _ (.im _)) (by simp[execOp,aK,e1,e2,eqGuard,binOp,Op.intArith])
   ·exact aM sim hd hnext (nW hq.2) (.p _ _ (.im _)) (by simp[execOp,aK,e1,e2,eqGuard,binOp,Op.intDiv,hq.1])
   ·exact aM sim hd hnext hq.2 (.p _ _ (.im _)) (by simp[execOp,aK,e1,e2,eqGuard,binOp,Op.intDiv,hq.1])
   ·exact aM sim hd hnext hq (.p _ _ (.im _)) (by simp[execOp,aK,e1,e2,eqGuard,binOp,Op.intCmp,x9])
   ·exact aM sim hd hnext hq (.p _ _ (.im _)) (by simp[execOp,aK,e1,e2,eqGuard,binOp,Op.intCmp,Ga])
   ·exact aM sim hd hnext hq (.p _ _ (.im _)) (by simp[execOp,aK,e1,e2,eqGuard,binOp,Op.intCmp])
   ·exact aM sim hd hnext hq (.p _ _ (.im _)) (by simp[execOp,aK,e1,e2,eqGuard,binOp,Op.intCmp])
   ·exact aM sim hd hnext hq (.p _ _ (.im _)) (by simp[execOp,aK,e1,e2,eqGuard,binOp,Op.intCmp])
   ·exact aM sim hd hnext hq (.p _ _ (.im _)) (by simp[execOp,aK,e1,e2,eqGuard,binOp,Op.intCmp])
   exact hq.elim
  ·rename_i m n;have e1:=hx.bS;have e2:=hy.bS;split at hq
   ·exact aM sim hd hnext hq.2 (.p _ _ (.im _)) (by
     have:=hq.1;simp[execOp,aK,e1,e2,eqGuard,binOp,run_string_add_sum w m n this])
   ·exact aM sim hd hnext hq (.p _ _ (.im _)) (by simp[execOp,aK,e1,e2,eqGuard,binOp,Op.stringOp,Ch])
   ·exact aM sim hd hnext hq (.p _ _ (.im _)) (by simp[execOp,aK,e1,e2,eqGuard,binOp,Op.stringOp,Ch])
   ·exact aM sim hd hnext hq (.p _ _ (.im _)) (by simp[execOp,aK,e1,e2,eqGuard,binOp,Op.stringOp,Ih])
   ·exact aM sim hd hnext hq (.p _ _ (.im _)) (by simp[execOp,aK,e1,e2,eqGuard,binOp,Op.stringOp,Ch,Ih])
   ·exact aM sim hd hnext hq (.p _ _ (.im _)) (by simp[execOp,aK,e1,e2,eqGuard,binOp,Op.stringOp,Ch,Ih])
   ·exact aM sim hd hnext hq (.p _ _ (.im _)) (by simp[execOp,aK,e1,e2,eqGuard,binOp,Op.stringOp,Ih])
   exact hq.elim
  ·rename_i m n;have e1:=hx.bS;have e2:=hy.bS;split at hq
   ·rename_i size bytes zero hT;have hb:A.C.P.underlying t=some .bool:=by
     obtain⟨_,_,_,_,_,_,_,_,_,h⟩:=hC.iq t _ hT;exact h.2 rfl
    have hrun:=fun w=>run_equal_bool (P:=A.C.P) (w:=w) t m n hb;split at hq
    ·exact aM sim hd hnext hq (.p _ _ (.im _)) (by simp[execOp,aK,e1,e2,eqGuard,binOp,hrun];cases m<;>cases n<;>rfl)
    ·exact aM sim hd hnext hq (.p _ _ (.im _)) (by simp[execOp,aK,e1,e2,eqGuard,binOp,hrun];cases m<;>cases n<;>rfl)
    exact hq.elim
   exact hq.elim
  ·rename_i m n;obtain⟨xs,e1,Qo,_,WC⟩:=hx.su;obtain⟨ys,e2,F4,_,WD⟩:=hy.su;have im:∀(z:List Value) (m:List PV) (n:List PV) r,bM z m n=some r->(∀x∈m,∃v,x=.im v)/\(∀x∈n,∃v,x=.im v):=by
    intro z
    induction z with
    | nil=>
     intro m n r h;cases m<;>cases n<;>first
      | (simp[bM]at h;done)
      | exact⟨by simp,by simp⟩
    | cons c z ih=>
     intro m n r h;unfold bM at h;split at h
     ·rename_i h1;cases h1
     all_goals first
      | (
        rename_i h1;injection h1 with h1 tq;subst tq;split at h
        ·obtain⟨r',m_,_⟩:=acq.1 h;obtain⟨i1,i2⟩:=ih _ _ _ m_;exact⟨by simpa using i1,by simpa using i2⟩
        cases h)
      | (
        rename_i h1;injection h1 with h1 tq;subst tq;obtain⟨r',m_,_⟩:=acq.1 h;obtain⟨i1,i2⟩:=ih _ _ _ m_;exact⟨by simpa using i1,by simpa using i2⟩)
      | cases h
   have key:∀z r,bM z m n=some r->(∀(i:Nat) x v,m[i]?=some x->xs[i]?=some v->x=.im v)/\(∀(i:Nat) x v,n[i]?=some x->ys[i]?=some v->x=.im v):=by
    intro z r hr;obtain⟨i1,i2⟩:=im z m n r hr;refine⟨fun i x v h1 h2=>?_,fun i x v h1 h2=>?_⟩
    ·obtain⟨u,rfl⟩:=i1 x (aad h1);rw[(WC i _ v h1 h2).bS]
    obtain⟨u,rfl⟩:=i2 x (aad h1);rw[(WD i _ v h1 h2).bS]
   split at hq
   ·rename_i fs size bytes zero hT;split at hq
    ·exact hq.elim
    rename_i hsz;have hsz:=OD hsz;split at hq
    ·split at hq
     ·rename_i r hr;obtain⟨k1,k2⟩:=key _ r hr;have hrun:=hC.eqs t _ .eql m n r hT rfl ⟨_,rfl⟩ hr xs ys w k1 k2 Qo F4 hsz (.inl rfl) x y;exact aM sim hd hnext hq (.p _ _ (.im _)) (by
       simp only[execOp,aK,e1,e2];rw[aau,hrun];simp)
     exact hq.elim
    ·split at hq
     ·rename_i r hr;obtain⟨k1,k2⟩:=key _ r hr;have hrun:=hC.eqs t _ .neq m n r hT rfl ⟨_,rfl⟩ hr xs ys w k1 k2 Qo F4 hsz (.inr rfl) x y;exact aM sim hd hnext hq (.p _ _ (.im _)) (by
       simp only[execOp,aK,e1,e2];rw[aau,hrun];simp)
     exact hq.elim
    exact hq.elim
   exact hq.elim
  exact hq.elim
 ·rename_i u hu hv;rw[hu]at hx;rw[hv]at hy;replace hx:=hx.eR;have hy':a.eval y=.slice none 0 0:=by generalize a.eval y=v at hy;cases hy;rfl
  unfold Js at hq;split at hq
  case h_2=>exact hq.elim
  rename_i es;split at hq
  case h_1=>exact hq.elim
  rename_i DH;split at hq
  case h_2=>exact hq.elim
  rename_i e size bytes zero eq hT;have fK:A.C.P.underlying t=some (.slice e):=by
   obtain⟨_,_,_,_,_,_,_,_,_,h⟩:=hC.iq t _ hT;exact h
  obtain⟨ad,c,hv,_,b8⟩:=hx.oL;obtain⟨b,off,k,rfl,_⟩:=b8 (fun e=>by rw[e]at DH;cases DH);split at hq
  ·exact aM sim hd hnext hq (.p _ _ (.im _)) (by simp[execOp,aK,hv,hy',eqGuard,binOp,run_equal_slice_nil _ _ _ _ _ _ fK])
  ·exact aM sim hd hnext hq (.p _ _ (.im _)) (by simp[execOp,aK,hv,hy',eqGuard,binOp,run_equal_slice_nil _ _ _ _ _ _ fK])
  exact hq.elim
 exact hq.elim
theorem OE{o:Oper}(op:UnOp)(t:TypeId)(x:Operand)(aK:o.op=.unOp op t x):iE A o:=by
 intro V L S rho s a w K next Q hC sim hV hd hq _ hnext
 simp only[bV,aK]at hq;have hx:=bp sim x fun j hj=>hV j (by simp[aK,Op.operands,hj]);split at hq
 ·rename_i b hb;rw[hb]at hx;exact aM sim hd hnext hq (.p _ _ (.im _)) (by simp[execOp,aK,hx.bS,Op.unary])
 ·rename_i k n hb;rw[hb]at hx;exact aM sim hd hnext (nW hq) (.p _ _ (.im _)) (by simp[execOp,aK,hx.bS,Op.unary,Op.intArith])
 exact hq.elim
variable {ti:TI}
theorem nV.sizeOf{P:Program}{t:TypeId}(h:nV P t ti)(w:World):(sizeOf t).run P w=.ok ti.size w:=by
 obtain⟨info,z,h1,h2,_⟩:=h;simp[Go.sizeOf,typeInfo,h1,h2]
theorem nV.isAgg{P:Program}{t:TypeId}(h:nV P t ti)(w:World):(isAgg t).run P w=.ok ti.ud.agg w:=by
 obtain⟨info,z,_,_,_,_,_,_,_,h⟩:=h;unfold Go.isAgg;cases hu:ti.ud with
 | sc=>
  rw[hu]at h;obtain⟨⟨d,hd,hn⟩,_⟩:=h;rw[aau,run_underlying hd];cases d<;>first | rfl | exact hn.elim
 | int k=>rw[hu]at h;rw[aau,run_underlying h];rfl
 | st fs=>rw[hu]at h;obtain⟨gs,hg,_⟩:=h;rw[aau,run_underlying hg];rfl
 | sl e=>rw[hu]at h;rw[aau,run_underlying h];rfl
 | str=>rw[hu]at h;rw[aau,run_underlying h];rfl
 | mp k e=>rw[hu]at h;rw[aau,run_underlying h];rfl
theorem ae5{P:Program}{t:TypeId}(h:nV P t ti)(ha:ti.ud.agg=true)(b off:Nat)(vs:List Value)(hl:vs.length=ti.size)(hc:∀(j:Nat) v,vs[j]?=some v->w.cell? ⟨b,off+j,none⟩=some v):
  (Instr.loadAt t (.pointer (some ⟨b,off,none⟩))).run P w=.ok (.agg vs.toArray) w:=by
 have:=run_loadCells_list (P:=P) w ⟨b,off,none⟩ vs (fun j v hj=>by rw[aaJ];exact hc j v hj);rw[hl]at this;simp[Instr.loadAt,Instr.sureAddr,loadVar,h.isAgg,ha,h.sizeOf,this]
theorem ae0{P:Program}{t:TypeId}(h:nV P t ti)(ha:ti.ud.agg=false)(b off:Nat)(v:Value)(hc:w.cell? ⟨b,off,none⟩=some v):
  (Instr.loadAt t (.pointer (some ⟨b,off,none⟩))).run P w=.ok v w:=by
 simp[Instr.loadAt,Instr.sureAddr,loadVar,h.isAgg,ha,load,Sem.run,hc]
theorem Ii{S:Nat->Prop}(cs:List PV)(V:Nat->Value)(h:∀(j:Nat) x,cs[j]?=some x->(V j).oneCell'=true/\aO S w x (V j)):aO S w (.ag cs) (.agg ((List.range cs.length).map V).toArray):=by
 refine .ag _ _ (by simp) (fun u hu=>?_) fun i c v hc hv=>?_
 ·simp at hu;obtain⟨j,hj,rfl⟩:=hu;exact (h j _ (acg hj)).1
 have hi:=aD hc;simp[hi]at hv;rw[<-hv];exact (h i c hc).2
variable {off:Nat}
theorem kf{l:List α}{n j:Nat}{x:α}(h:((l.drop off).take n)[j]?=some x):l[off+j]?=some x:=by
 rw[aa7]at h;split at h
 ·rwa [aas]at h
 cases h
theorem kh{l:List α}{n:Nat}(h:off+n<=l.length):((l.drop off).take n).length=n:=by simp;omega
theorem nX{l:List α}{x:α}{r:List α}(h:l.drop off=x::r):l[off]?=some x:=by
 have:(l.drop off)[0]?=some x:=by rw[h];rfl
 rw[aas]at this;exact this
theorem kO{a b:Nat}(h:H9 a b=true):a<=b:=abA h
theorem hZ{a b:Nat}(h:Ag a b=true):a=b:=aa2 h
theorem gV:∀{cs:List AV} {xs:List PV},dY cs=some xs->cs.length=xs.length/\∀(j:Nat) c x,cs[j]?=some c->xs[j]?=some x->(c=.p x\/(c=.nl/\x=.sl [])):=by
 intro cs
 induction cs with
 | nil=>intro xs h;simp[dY]at h;subst h;exact⟨rfl,by simp⟩
 | cons c cs ih=>
  intro xs h;unfold dY at h;split at h
  ·rename_i h1;cases h1
  ·rename_i x r h1;injection h1 with h1 h2;subst h1 h2;obtain⟨ys,hy,rfl⟩:=acq.1 h;obtain⟨h3,h4⟩:=ih hy;refine⟨by simp[h3],fun j c x' hj hx=>?_⟩;cases j with
   | zero=>simp at hj hx;subst hj hx;exact .inl rfl
   | succ j=>exact h4 j c x' (by simpa using hj) (by simpa using hx)
  ·rename_i r h1;injection h1 with h1 h2;subst h1 h2;obtain⟨ys,hy,rfl⟩:=acq.1 h;obtain⟨h3,h4⟩:=ih hy;refine⟨by simp[h3],fun j c x' hj hx=>?_⟩;cases j with
   | zero=>simp at hj hx;subst hj hx;exact .inr ⟨rfl,rfl⟩
   | succ j=>exact h4 j c x' (by simpa using hj) (by simpa using hx)
  cases h
theorem aY.xz{S:Nat->Prop}{P:Program}{h:Nat->AB}{c:AV}{x:PV}{u:Value}(hc:c=.p x\/(c=.nl/\x=.sl []))(hr:aY S w P L rho h c u):aO S w x u:=by
 rcases hc with rfl | ⟨rfl,rfl⟩
 ·exact hr.eR
 cases hr;exact .nil _ _
variable {id:Nat}
theorem aY.h_{S:Nat->Prop}{P:Program}{h:Nat->AB}{v:Value}(hx:aY S w P L rho h (.bx id off) v)(ht:(h id).there):L id/\∃g,rho id=.pointer (some ⟨g,0,none⟩)/\v=.pointer (some ⟨g,off,none⟩):=by
 cases hx;rename_i hv;exact hv ht
variable {e:TypeId}
theorem aY.x_{S:Nat->Prop}{P:Program}{h:Nat->AB}{i:Nat}{v:Value}(hx:aY S w P L rho h (.rp id i off) v)(he:h id=.row e es):
  L id/\∃g n c ti,rho id=.slice (some ⟨g,0,none⟩) n c/\P.info? e=some ti/\v=.pointer (some ⟨g,i*ti.size+off,none⟩):=by
 cases hx;rename_i hv;exact hv e (by rw[he];rfl)
theorem aY.tr{S:Nat->Prop}{P:Program}{h:Nat->AB}{i:Nat}{v:Value}(hx:aY S w P L rho h (.rp id i off) v){es:List (List HX)}(he:h id=.az e es):
  L id/\∃g n c ti,rho id=.slice (some ⟨g,0,none⟩) n c/\P.info? e=some ti/\v=.pointer (some ⟨g,i*ti.size+off,none⟩):=by
 cases hx;rename_i hv;exact hv e (by rw[he];rfl)
theorem aY.cH{S:Nat->Prop}{P:Program}{h:Nat->AB}{v:Value}(hx:aY S w P L rho h (.ow id) v)(ht:(h id).there):L id/\v=rho id:=by
 cases hx;rename_i hv;exact hv ht
theorem aG.cell{P:Program}{R:α->Value->Prop}{es:List (List α)}{g n c:Nat}{ti:TypeInfo}(h:aG P w R e es (.slice (some ⟨g,0,none⟩) n c))(hi:P.info? e=some ti):
  ∀(a:Nat) r (j:Nat) x,es[a]?=some r->r[j]?=some x->∃u,w.cell? ⟨g,a*ti.size+j,none⟩=some u/\u.oneCell'=true/\R x u:=by
 obtain⟨i,xs,h1,h2,h3,h4,h5,h6⟩:=h;rw[hi]at h1;injection h1 with h1;subst h1;intro a r j x ha hj;obtain⟨u,hu,hr⟩:=h6 a r j x ha hj;have:=h3.cells (g:=g) rfl _ u hu;rw[aaJ]at this;refine⟨u,by simpa using this,h5 u (aad hu),hr⟩
theorem DQ{o:Oper}(t:TypeId)(x:Operand)(aK:o.op=.load t x){S:Nat->Prop}{a:Act}{K:KK}(hC:bI A.C)(sim:b7 A V L S rho s a w)(hV:∀j,x=.tmp j->V j)(hq:bV A.C o (ev s.t) s.h K):
  ∃av v,K av [] none/\aY S w A.C.P L rho s.h av v/\(Instr.loadAt t (a.eval x)).run A.C.P w=.ok v w:=by
 simp only[bV,aK]at hq;have hx:=bp sim x hV;split at hq
 ·exact hq.elim
 rename_i ti hT;have fK:=hC.iq t ti hT;split at hq
 ·rename_i cs pN;rw[pN]at hx;obtain⟨b,off,U,hv,hb,hcell,hrep⟩:=hx.eR.x8;split at hq
  ·rename_i wb;split at hq
   ·rename_i hle;have hle:=kO hle;have hlen:(cs.take ti.size).length=ti.size:=by simp;omega
    refine⟨_,_,hq,.p _ _ (Ii _ U fun j x hj=>?_),?_⟩
    ·have Lw:cs[j]?=some x:=by rw[aa7]at hj;split at hj;exact hj;cases hj
     exact⟨(hcell j x Lw).2,hrep j x Lw⟩
    have:=ae5 (w:=w) fK wb b off ((List.range (cs.take ti.size).length).map U) (by simp;omega) (fun j v hj=>by
     have sw:j<(cs.take ti.size).length:=by have:=aD hj;simpa using this
     rw[aak,abP sw]at hj;simp at hj;have Ro:j<cs.length:=by rw[hlen]at sw;omega
     rw[(hcell j _ (acg Ro)).1,hj])
    rw[hv];exact this
   exact hq.elim
  rename_i wb;split at hq
  ·rename_i c r;refine⟨_,_,hq,.p _ _ (hrep 0 c rfl),?_⟩;have:=ae0 (w:=w) fK wb b off (U 0) (by simpa using (hcell 0 c rfl).1);rw[hv];exact this
  exact hq.elim
 ·rename_i id off pN;rw[pN]at hx;split at hq
  ·rename_i cs aN;obtain⟨hL,g,hg,hv⟩:=hx.h_ (by rw[aN];trivial);have hh:=sim.hp id hL;rw[aN]at hh;obtain⟨g',ty,c,h1,h2,h3,h4⟩:=hh;rw[hg]at h1;injection h1 with h1;injection h1 with h1;injection h1 with h1;subst h1;have hcell:∀j u,c[j]?=some u->w.cell? ⟨g,j,none⟩=some u:=fun j u hu=>by rw[cell_of_row w g j c ty (0,0) h2];exact hu
   split at hq
   ·rename_i wb;split at hq
    ·rename_i xs hle s9;have hle:=kO hle;obtain⟨hl,Jv⟩:=gV s9;have hlen:xs.length=ti.size:=by rw[<-hl];exact kh hle
     have hU:∀(j:Nat) x,xs[j]?=some x->∃u,c[off+j]?=some u/\u.oneCell'=true/\aO S w x u:=by
      intro j x hj;obtain⟨y,hy⟩:∃y,((cs.drop off).take ti.size)[j]?=some y:=⟨_,acg (by rw[hl];exact aD hj)⟩;have hy':=kf hy;obtain⟨u,hu⟩:=jG h3.symm (aD hy');obtain⟨h5,h6⟩:=h4 _ _ _ hy' hu;exact⟨u,hu,h5,h6.xz (Jv j y x hy hj)⟩
     refine⟨_,_,hq,.p _ _ (Ii xs (fun j=>(c[off+j]?).getD undef) fun j x hj=>?_),?_⟩
     ·obtain⟨u,h5,h6,h7⟩:=hU j x hj;rw[h5];exact⟨h6,h7⟩
     have:=ae5 (w:=w) fK wb g off ((List.range xs.length).map (fun j=>(c[off+j]?).getD undef)) (by simpa using hlen) (fun j v hj=>by
      have sw:j<xs.length:=by have:=aD hj;simpa using this
      rw[aak,abP sw]at hj;obtain⟨u,h5,_⟩:=hU j _ (acg sw);simp[h5]at hj;rw[hcell _ _ h5,hj])
     rw[hv];exact this
    exact hq.elim
   rename_i wb;split at hq
   ·rename_i y r hy;have hy':=nX hy;obtain⟨u,hu⟩:=jG h3.symm (aD hy');obtain⟨h5,h6⟩:=h4 _ _ _ hy' hu;refine⟨_,_,hq,h6,?_⟩;have:=ae0 (w:=w) fK wb g off u (hcell _ _ hu);rw[hv];exact this
   exact hq.elim
  ·rename_i cs aN;obtain⟨hL,g,hg,hv⟩:=hx.h_ (by rw[aN];trivial);have hh:=sim.hp id hL;rw[aN]at hh;obtain⟨b,Z_,U,h1,hb,hcell,hrep⟩:=aO.x8 hh;rw[hg]at h1;injection h1 with h1;injection h1 with h1;injection h1 with h1 h2;subst h1 h2;split at hq
   ·rename_i wb;split at hq
    ·rename_i hle;have hle:=kO hle;have hlen:=kh hle;refine⟨_,_,hq,.p _ _ (Ii _ (fun j=>U (off+j)) fun j x hj=>?_),?_⟩
     ·have Lw:=kf hj;exact⟨(hcell _ x Lw).2,hrep _ x Lw⟩
     have:=ae5 (w:=w) fK wb g off ((List.range ((cs.drop off).take ti.size).length).map (fun j=>U (off+j))) (by simpa using hlen) (fun j v hj=>by
      have sw:j<((cs.drop off).take ti.size).length:=by have:=aD hj;simpa using this
      rw[aak,abP sw]at hj;simp at hj;have Ro:off+j<cs.length:=by rw[hlen]at sw;omega
      have h5:=(hcell _ _ (acg Ro)).1;rw[abC]at h5;rw[h5,hj])
     rw[hv];exact this
    exact hq.elim
   rename_i wb;split at hq
   ·rename_i y r hy;have hy':=nX hy;refine⟨_,_,hq,.p _ _ (hrep _ _ hy'),?_⟩;have:=ae0 (w:=w) fK wb g off (U off) (by simpa using (hcell _ _ hy').1);rw[hv];exact this
   exact hq.elim
  exact hq.elim
 ·rename_i id i off pN;rw[pN]at hx;split at hq
  ·rename_i e es az;obtain⟨hL,g,n,c,tj,hg,AZ,hv⟩:=hx.x_ az;have hh:=sim.hp id hL;rw[az]at hh;have Lg:aG A.C.P w (aO S w) e es (.slice (some ⟨g,0,none⟩) n c):=by rw[<-hg];exact hh
   have hcell:=Lg.cell AZ;obtain⟨r,hr,hq⟩:=hq;split at hq
   ·rename_i wb;split at hq
    ·rename_i hle;have hle:=kO hle;have hlen:=kh hle;have hU:∀(j:Nat) x,((r.drop off).take ti.size)[j]?=some x->∃u,w.cell? ⟨g,i*tj.size+off+j,none⟩=some u/\u.oneCell'=true/\aO S w x u:=by
      intro j x hj;obtain⟨u,h1,h2,h3⟩:=hcell i r _ x hr (kf hj);exact⟨u,by rw[aaX];exact h1,h2,h3⟩
     refine⟨_,_,hq,.p _ _ (Ii _ (fun j=>(w.cell? ⟨g,i*tj.size+off+j,none⟩).getD undef) fun j x hj=>?_),?_⟩
     ·obtain⟨u,h5,h6,h7⟩:=hU j x hj;rw[h5];exact⟨h6,h7⟩
     have:=ae5 (w:=w) fK wb g (i*tj.size+off) ((List.range ((r.drop off).take ti.size).length).map (fun j=>(w.cell? ⟨g,i*tj.size+off+j,none⟩).getD undef)) (by simpa using hlen) (fun j v hj=>by
      have sw:j<((r.drop off).take ti.size).length:=by have:=aD hj;simpa using this
      rw[aak,abP sw]at hj;obtain⟨u,h5,_⟩:=hU j _ (acg sw);simp[h5]at hj;rw[h5,hj])
     rw[hv];exact this
    exact hq.elim
   rename_i wb;split at hq
   ·rename_i y r' hy;have hy':=nX hy;obtain⟨u,h1,h2,h3⟩:=hcell i r _ y hr hy';refine⟨_,_,hq,.p _ _ h3,?_⟩;have:=ae0 (w:=w) fK wb g (i*tj.size+off) u h1;rw[hv];exact this
   exact hq.elim
  ·rename_i e es az;obtain⟨hL,g,n,c,tj,hg,AZ,hv⟩:=hx.tr az;have hh:=sim.hp id hL;rw[az]at hh;have Lg:aG A.C.P w (rK S w A.C.P L rho s.h) e es (.slice (some ⟨g,0,none⟩) n c):=by rw[<-hg];exact hh.1
   have hcell:=Lg.cell AZ;obtain⟨r,hr,hq⟩:=hq;split at hq
   ·exact hq.elim
   rename_i wb;split at hq
   ·rename_i y r' hy;have hy':=nX hy;obtain⟨u,h1,h2,h3⟩:=hcell i r _ _ hr hy';refine⟨_,_,hq,h3,?_⟩;have:=ae0 (w:=w) fK wb g (i*tj.size+off) u h1;rw[hv];exact this
   exact hq.elim
  exact hq.elim
 exact hq.elim
theorem OF{o:Oper}(t:TypeId)(x:Operand)(aK:o.op=.load t x):iE A o:=by
 intro V L S rho s a w K next Q hC sim hV hd hq _ hnext
 obtain⟨av,v,h1,h2,h3⟩:=DQ t x aK hC sim (fun j hj=>hV j (by simp[aK,Op.operands,hj])) hq;exact aM sim hd hnext h1 h2 (by simp only[execOp,aK,aau,h3,ab5,aa6])
theorem nV.under{P:Program}{t:TypeId}(h:nV P t ti):match ti.ud with
  | .sc=>(∃d,P.underlying t=some d/\(match d with | .struct _ | .array _ _=>False | _=>True))/\(ti.eq=true->P.underlying t=some .bool)
  | .int k=>P.underlying t=some (.int k)
  | .st fs=>∃gs,P.underlying t=some (.struct gs)/\fs.length=gs.size/\(∀(i:Nat) f g,fs[i]?=some f->gs[i]?=some g->f.1=g.offset/\f.2.1≠0/\(∃i2,P.info? g.type=some i2/\i2.size=f.2.1)/\
    (∃d,P.underlying g.type=some d/\f.2.2=(match d with | .struct _ | .array _ _=>true | _=>false)))
  | .sl e=>P.underlying t=some (.slice e)
  | .str=>P.underlying t=some .string
  | .mp k e=>P.underlying t=some (.map k e):=by
 obtain⟨_,_,_,_,_,_,_,_,_,h⟩:=h;exact h
theorem nV.info{P:Program}{t:TypeId}(h:nV P t ti):∃info z,P.info? t=some info/\info.size=ti.size/\info.bytes=ti.bytes/\info.zero=some z/\z.cells=ti.zero.toArray/\(∀v∈ti.zero,v.oneCell'=true):=by
 obtain⟨i,z,h1,h2,h3,h4,h5,h6,h7,h⟩:=h;exact⟨i,z,h1,h2,h3,h4,h5,h7⟩
theorem nV.Lx{P:Program}{t:TypeId}(h:nV P t ti):ti.zero.length=ti.size:=by
 obtain⟨i,z,h1,h2,h3,h4,h5,h6,h7,h⟩:=h;exact h6
theorem Ci{o:Oper}(t:TypeId)(x:Operand)(f:Nat)(aK:o.op=.fieldAddr t x f):iE A o:=by
 intro V L S rho s a w K next Q hC sim hV hd hq _ hnext
 simp only[bV,aK]at hq;have hx:=bp sim x fun j hj=>hV j (by simp[aK,Op.operands,hj]);split at hq
 ·rename_i fs size bytes zero eq hT;have fK:=(hC.iq t _ hT).under;obtain⟨gs,tv,hl,hf⟩:=fK;split at hq
  ·rename_i off sz ag OG;obtain⟨g,hg⟩:=jG hl (aD OG);obtain⟨e1,e2,⟨i2,Jw,Rp⟩,_⟩:=hf f _ g OG hg;have hrun:∀b o',(Instr.fieldAt t (.pointer (some ⟨b,o',none⟩)) f).run A.C.P w=.ok (.pointer (some ⟨b,o'+off,none⟩)) w:=by
    intro b o';simp only at e1 e2 Rp;simp[Instr.fieldAt,run_underlying tv,hg,Instr.sureAddr,fieldPlace,Go.sizeOf,typeInfo,Jw,Rp,e2,aaJ,<-e1]
   split at hq
   ·rename_i cs pN;rw[pN]at hx;obtain⟨b,o',U,hv,hb,hcell,hrep⟩:=hx.eR.x8;refine aM sim hd hnext hq (.p _ _ (.ip _ b (o'+off) (fun j=>U (off+j)) hb (fun j y hj=>?_) fun j y hj=>?_)) (by simp[execOp,aK,hv,hrun])
    ·rw[aas]at hj;rw[aaX];exact hcell _ y hj
    rw[aas]at hj;exact hrep _ y hj
   ·rename_i id o' pN;rw[pN]at hx;split at hq
    ·exact hq.elim
    rename_i b8;have ht:(s.h id).there:=by
     cases hh:s.h id<;>first | trivial | exact absurd hh (by simpa using b8)
    obtain⟨hL,g',nS,hv⟩:=hx.h_ ht;exact aM sim hd hnext hq (.bx _ _ _ fun _=>⟨hL,g',nS,rfl⟩) (by simp[execOp,aK,hv,hrun])
   ·rename_i id i o' pN;rw[pN]at hx;split at hq
    ·rename_i e es az;obtain⟨hL,g',n,c,tj,nS,AZ,hv⟩:=hx.x_ az;refine aM sim hd hnext hq (v:=.pointer (some ⟨g',i*tj.size+o'+off,none⟩)) (.rp _ _ _ _ fun e2 qZ=>?_) (by simp[execOp,aK,hv,hrun]);rw[az]at qZ;injection qZ with qZ;subst qZ;exact⟨hL,g',n,c,tj,nS,AZ,by rw[aaX]⟩
    ·rename_i e es az;obtain⟨hL,g',n,c,tj,nS,AZ,hv⟩:=hx.tr az;refine aM sim hd hnext hq (v:=.pointer (some ⟨g',i*tj.size+o'+off,none⟩)) (.rp _ _ _ _ fun e2 qZ=>?_) (by simp[execOp,aK,hv,hrun]);rw[az]at qZ;injection qZ with qZ;subst qZ;exact⟨hL,g',n,c,tj,nS,AZ,by rw[aaX]⟩
    exact hq.elim
   exact hq.elim
  exact hq.elim
 exact hq.elim
theorem Ly{o:Oper}(t:TypeId)(x:Operand)(f:Nat)(aK:o.op=.field t x f):iE A o:=by
 intro V L S rho s a w K next Q hC sim hV hd hq _ hnext
 simp only[bV,aK]at hq;have hx:=bp sim x fun j hj=>hV j (by simp[aK,Op.operands,hj]);split at hq
 ·rename_i fs size bytes zero eq cs hT pN;have fK:=(hC.iq t _ hT).under;obtain⟨gs,tv,hl,hf⟩:=fK;rw[pN]at hx;obtain⟨vs,hv,F4,h1,hc⟩:=hx.eR.su;split at hq
  ·rename_i off sz ag OG;obtain⟨g,hg⟩:=jG hl (aD OG);obtain⟨e1,e2,⟨i2,Jw,Rp⟩,d,Qp,wb⟩:=hf f _ g OG hg;simp only at e1 e2 Rp wb;split at hq
   ·split at hq
    ·rename_i hle;have hle:=kO hle;have hlen:=kh hle;refine aM sim hd hnext hq (v:=.agg (vs.extract off (off+sz))) (.p _ _ (.ag _ _ (by simp;omega) (fun u hu=>h1 u ?_) fun i c v YN VZ=>?_)) ?_
     ·simp at hu;exact abq (acM hu)
     ·have hi:=aD YN;rw[hlen]at hi;have WE:vs[off+i]?=some v:=by
       rw[Array.getElem?_extract]at VZ;split at VZ
       ·exact VZ
       cases VZ
      exact hc _ c v (kf YN) WE
     have ha:(isAgg g.type).run A.C.P w=.ok true w:=by
      rw[Go.isAgg,aau,run_underlying Qp];cases d<;>simp at wb<;>rfl
     simp[execOp,aK,hv,Instr.field,run_underlying tv,hg,asAgg,part,ha,Go.sizeOf,typeInfo,Jw,Rp,<-e1]
    exact hq.elim
   split at hq
   ·rename_i c r hy;have hy':=nX hy;obtain⟨u,hu⟩:=jG F4 (aD hy');refine aM sim hd hnext hq (.p _ _ (hc _ _ _ hy' hu)) ?_;have ha:(isAgg g.type).run A.C.P w=.ok false w:=by
     rw[Go.isAgg,aau,run_underlying Qp];cases d<;>simp at wb<;>rfl
    simp[execOp,aK,hv,Instr.field,run_underlying tv,hg,asAgg,part,ha,<-e1,hu]
   exact hq.elim
  exact hq.elim
 exact hq.elim
theorem nd{P:Program}{t:TypeId}{ti:TypeInfo}(ht:P.underlying t=some (.slice e))(hi:P.info? e=some ti)(b off n c:Nat)(k:IntKind)(i:Int)(h0:0<=i)(h1:i.toNat<n):
  (Instr.indexAt t (.slice (some ⟨b,off,none⟩) n c) (.int k i)).run P w=.ok (.pointer (some ⟨b,off+i.toNat*ti.size,none⟩)) w:=by
 have h2:i<n:=by omega
 simp[Instr.indexAt,asIntOf,run_underlying ht,h0,h2,Go.sizeOf,typeInfo,hi,aaJ]
theorem aY.Cj{S:Nat->Prop}{P:Program}{h:Nat->AB}{lo hi:Nat}{v:Value}(hx:aY S w P L rho h (.vw id lo hi) v)(he:h id=.row e es):
  L id/\∃n c a ti,rho id=.slice a n c/\P.info? e=some ti/\lo<=hi/\hi<=n/\n<=c/\v=.slice (if c=lo then a else a.map (·.add (lo*ti.size))) (hi-lo) (c-lo):=by
 cases hx with
 | vw _ _ _ _ hv=>exact hv e (by rw[he];rfl)
theorem Ck{o:Oper}(t:TypeId)(x ix:Operand)(aK:o.op=.indexAddr t x ix):iE A o:=by
 intro V L S rho s a w K next Q hC sim hV hd hq _ hnext
 simp only[bV,aK]at hq;have hx:=bp sim x fun j hj=>hV j (by simp[aK,Op.operands,hj]);have hy:=bp sim ix fun j hj=>hV j (by simp[aK,Op.operands,hj]);split at hq
 ·rename_i e size bytes zero eq k i hT Oj;have fK:=(hC.iq t _ hT).under;simp only at fK;rw[Oj]at hy;replace hy:=hy.bS;split at hq
  ·exact hq.elim
  rename_i te u9;obtain⟨ie,ze,pO,Ao,_⟩:=(hC.iq e te u9).info;have YO:∀(es:List (List PV)),aO S w (.sl es) (a.eval x)->(∃r,(0<=i/\es[i.toNat]?=some r)/\match Ag r.length te.size with | true=>K (.p (.ip r)) [] none | false=>False)->o.wp A.C.P a w next Q:=by
   intro es hrep hq;obtain⟨r,⟨h0,hr⟩,hq⟩:=hq;split at hq
   ·rename_i hlen;have hlen:=hZ hlen;obtain⟨ad,c,hv,hle,b8⟩:=hrep.oL;obtain⟨b,off,k',rfl,hb,hk,hcell⟩:=b8 (by intro e;rw[e]at hr;simp at hr);have xA:k'=te.size:=by rw[<-hk r (aad hr),hlen]
    have hU:∀(j:Nat) y,r[j]?=some y->∃u,w.cell? ⟨b,off+i.toNat*te.size+j,none⟩=some u/\u.oneCell'=true/\aO S w y u:=by
     intro j y hj;have:=hcell _ _ j y hr hj;rw[xA]at this;exact this
    refine aM sim hd hnext hq (.p _ _ (.ip _ b (off+i.toNat*te.size) (fun j=>(w.cell? ⟨b,off+i.toNat*te.size+j,none⟩).getD undef) hb (fun j y hj=>?_) fun j y hj=>?_)) ?_
    ·obtain⟨u,h1,h2,h3⟩:=hU j y hj;simp[h1,h2]
    ·obtain⟨u,h1,h2,h3⟩:=hU j y hj;simp only[h1];exact h3
    have:=nd (w:=w) fK pO b off es.length c k i h0 (aD hr);simp only[execOp,aK,hv,hy,aau,this,ab5,aa6,Ao]
   exact hq.elim
  split at hq
  ·rename_i es DH;rw[DH]at hx;exact YO es hx.eR hq
  ·rename_i id DH;rw[DH]at hx;split at hq
   ·rename_i e' es az;split at hq
    ·rename_i u_;have u_:=hZ u_;subst u_;obtain⟨hL,hv⟩:=hx.cH (by rw[az];trivial);have hh:=sim.hp id hL;rw[az]at hh;have Lg:aG A.C.P w (aO S w) e' es (rho id):=hh;obtain⟨⟨h0,eF⟩,hq⟩:=hq;obtain⟨i',xs,h1,h2,h3,h4,h5,h6⟩:=Lg;rcases h3.2 with⟨_,hn⟩ | ⟨g,cap,cur,hg,_,_,hle,_⟩
     ·omega
     refine aM sim hd hnext hq (v:=.pointer (some ⟨g,i.toNat*ie.size,none⟩)) (.rp _ _ _ _ fun e2 qZ=>?_) ?_
     ·rw[az]at qZ;injection qZ with qZ;subst qZ;exact⟨hL,g,_,_,ie,hg,pO,by rw[abQ]⟩
     have:=nd (w:=w) fK pO g 0 es.length cap k i h0 eF;rw[hg]at hv;rw[abC]at this;simp only[execOp,aK,hv,hy,aau,this,ab5,aa6]
    exact hq.elim
   ·rename_i e' es az;split at hq
    ·rename_i u_;have u_:=hZ u_;subst u_;obtain⟨hL,hv⟩:=hx.cH (by rw[az];trivial);have hh:=sim.hp id hL;rw[az]at hh;have Lg:aG A.C.P w (rK S w A.C.P L rho s.h) e' es (rho id):=hh.1;obtain⟨⟨h0,eF⟩,hq⟩:=hq;obtain⟨i',xs,h1,h2,h3,h4,h5,h6⟩:=Lg;rcases h3.2 with⟨_,hn⟩ | ⟨g,cap,cur,hg,_,_,hle,_⟩
     ·omega
     refine aM sim hd hnext hq (v:=.pointer (some ⟨g,i.toNat*ie.size,none⟩)) (.rp _ _ _ _ fun e2 qZ=>?_) ?_
     ·rw[az]at qZ;injection qZ with qZ;subst qZ;exact⟨hL,g,_,_,ie,hg,pO,by rw[abQ]⟩
     have:=nd (w:=w) fK pO g 0 es.length cap k i h0 eF;rw[hg]at hv;rw[abC]at this;simp only[execOp,aK,hv,hy,aau,this,ab5,aa6]
    exact hq.elim
   ·rename_i es Jx;obtain⟨hL,hv⟩:=hx.cH (by rw[Jx];trivial);have hh:=sim.hp id hL;rw[Jx]at hh;exact YO es (by rw[hv];exact hh) hq
   exact hq.elim
  ·rename_i id lo hi DH;rw[DH]at hx;split at hq
   ·rename_i e' es az;split at hq
    ·rename_i u_;have u_:=hZ u_;subst u_;obtain⟨hL,n,cp,ad,WG,lF,xB,hlh,hhn,Qq,hval⟩:=hx.Cj az;rw[pO]at xB;injection xB with xB;subst xB;have hh:=sim.hp id hL;rw[az]at hh;have Lg:aG A.C.P w (aO S w) e' es (rho id):=hh;obtain⟨⟨h0,eF⟩,hq⟩:=hq;obtain⟨i',xs,h1,h2,h3,h4,h5,h6⟩:=Lg;rw[lF]at h3;rcases h3.2 with⟨h7,_⟩ | ⟨g,cap,cur,hg,_,_,hle,_⟩
     ·injection h7 with _ h8 h9;omega
     injection hg with g1 g2 g3;subst g1 g2 g3;refine aM sim hd hnext hq (v:=.pointer (some ⟨g,lo*ie.size+i.toNat*ie.size,none⟩)) (.rp _ _ _ _ fun e2 qZ=>?_) ?_
     ·rw[az]at qZ;injection qZ with qZ;subst qZ;exact⟨hL,g,_,_,ie,lF,pO,by rw[abQ,abR]⟩
     have:=nd (w:=w) fK pO g (lo*ie.size) (hi-lo) (cp-lo) k i h0 eF;rw[aaa (by omega)]at hval;have he:(if lo*ie.size=0 then (⟨g,0,none⟩:Addr) else ⟨g,lo*ie.size,none⟩)=⟨g,lo*ie.size,none⟩:=by split<;>simp_all
     simp only[ab6,Addr.add,abC,he]at hval;simp only[execOp,aK,hval,hy,aau,this,ab5,aa6]
    exact hq.elim
   exact hq.elim
  exact hq.elim
 exact hq.elim
theorem Lz{o:Oper}(t:TypeId)(x ix:Operand)(aK:o.op=.index t x ix):iE A o:=by
 intro V L S rho s a w K next Q hC sim hV hd hq _ hnext
 simp only[bV,aK]at hq;have hx:=bp sim x fun j hj=>hV j (by simp[aK,Op.operands,hj]);have hy:=bp sim ix fun j hj=>hV j (by simp[aK,Op.operands,hj]);split at hq
 ·rename_i size bytes zero eq st k i hT hs Oj;have fK:=(hC.iq t _ hT).under;simp only at fK;rw[Oj]at hy;rw[hs]at hx;obtain⟨b,⟨h0,hb⟩,hq⟩:=hq;refine aM sim hd hnext hq (.p _ _ (.im _)) ?_;simp[execOp,aK,hx.bS,hy.bS,Instr.index,asIntOf,run_underlying fK,h0,hb]
 exact hq.elim
theorem Gb{o:Oper}(src dst:TypeId)(x:Operand)(aK:o.op=.convert src dst x):iE A o:=by
 intro V L S rho s a w K next Q hC sim hV hd hq _ hnext
 simp only[bV,aK]at hq;have hx:=bp sim x fun j hj=>hV j (by simp[aK,Op.operands,hj]);split at hq
 ·rename_i k' n tis k size bytes zero eq hv TK TL;have h2:=(hC.iq dst _ TL).under;simp only at h2;rw[hv]at hx;have h1:∃d,A.C.P.underlying src=some d:=by
   have:=(hC.iq src _ TK).under;cases hu:tis.ud<;>rw[hu]at this
   ·exact⟨_,this.1.choose_spec.1⟩
   ·exact⟨_,this⟩
   ·exact⟨_,this.choose_spec.1⟩
   ·exact⟨_,this⟩
   ·exact⟨_,this⟩
   exact⟨_,this⟩
  obtain⟨d1,h1⟩:=h1;exact aM sim hd hnext (nW hq) (.p _ _ (.im _)) (by simp[execOp,aK,hx.bS,convert,run_underlying h1,run_underlying h2,Conv.intToInt])
 ·rename_i str TM Rq TN eq1 TO Rr TQ eq2 hv TK TL;have h2:=(hC.iq dst _ TL).under;have h1:=(hC.iq src _ TK).under;simp only at h1 h2;rw[hv]at hx;exact aM sim hd hnext hq (.p _ _ (.im _)) (by simp[execOp,aK,hx.bS,convert,run_underlying h1,run_underlying h2])
 ·rename_i k' n k'' TM Rq TN eq1 TO Rr TQ eq2 hv TK TL;have h2:=(hC.iq dst _ TL).under;have h1:=(hC.iq src _ TK).under;simp only at h1 h2;rw[hv]at hx;exact aM sim hd hnext hq (.p _ _ (.im _)) (by simp[execOp,aK,hx.bS,convert,run_underlying h1,run_underlying h2,Conv.intToString])
 exact hq.elim
theorem DR{o:Oper}(x:Operand)(aK:o.op=.nilCheck x):iE A o:=by
 intro V L S rho s a w K next Q hC sim hV hd hq _ hnext
 simp only[bV,aK]at hq;have hx:=bp sim x fun j hj=>hV j (by simp[aK,Op.operands,hj]);have fin:∀av ad,K av [] none->aY S w A.C.P L rho s.h av (a.eval x)->a.eval x=.pointer (some ad)->o.wp A.C.P a w next Q:=by
  intro av ad hq hl he;exact aM sim hd hnext hq hl (by simp[execOp,aK,he])
 split at hq
 ·rename_i cs pN;rw[pN]at hx;obtain⟨b,off,U,hv,_⟩:=hx.eR.x8;exact fin _ _ hq hx hv
 ·rename_i id off pN;rw[pN]at hx;split at hq
  ·rename_i hb;obtain⟨_,g,_,hv⟩:=hx.h_ (by rw[hb];trivial);exact fin _ _ hq hx hv
  ·rename_i hb;obtain⟨_,g,_,hv⟩:=hx.h_ (by rw[hb];trivial);exact fin _ _ hq hx hv
  exact hq.elim
 ·rename_i id i off pN;rw[pN]at hx;split at hq
  ·rename_i hb;obtain⟨_,g,n,c,tj,_,_,hv⟩:=hx.x_ hb;exact fin _ _ hq hx hv
  ·rename_i hb;obtain⟨_,g,n,c,tj,_,_,hv⟩:=hx.tr hb;exact fin _ _ hq hx hv
  exact hq.elim
 exact hq.elim
theorem DS{o:Oper}(f:FuncId)(first cap:Array Operand)(aK:o.op=.makeFunc (.func f) first cap):iE A o:=by
 intro V L S rho s a w K next Q hC sim hV hd hq _ hnext
 simp only[bV,aK]at hq;split at hq
 ·rename_i hn;have he:first=#[]:=by
   obtain⟨l⟩:=first
   cases l with
   | nil=>rfl
   | cons y l=>simp[isNil]at hn
  subst he;refine aM sim hd hnext hq (.fn f _ (cap.map a.eval) (by simp) fun i c v hc hv=>?_) (by simp[execOp,aK,Instr.makeFunc]);rw[aak]at hc;obtain⟨y,hy,rfl⟩:=acq.1 hc;have hy':cap[i]?=some y:=by simpa using hy
  rw[Array.getElem?_map,hy']at hv;simp at hv;rw[<-hv];exact bp sim y fun j hj=>hV j (by simp[aK,Op.operands];rw[<-hj];exact abr hy')
 exact hq.elim
end Go.AM
namespace Go.AM
open Go.RowKit
theorem cy(h:Nat->AB)(a b:List (Nat×AB)):app h (a++b)=app (app h a) b:=by
 induction a generalizing h with
 | nil=>rfl
 | cons x a ih=>exact ih _
theorem aW{α:Type}(f:Nat->α)(i:Nat)(x:α)(j:Nat):(j=i/\aT f i x j=x)\/(j≠i/\aT f i x j=f j):=by
 by_cases e:j=i
 ·subst e;exact .inl ⟨rfl,aH _ _ _⟩
 exact .inr ⟨e,aV _ _ e⟩
variable {w:World} {e:TypeId} {es:List (List PV)}
theorem aG.DT{P:Program}{S S':Nat->Prop}{v:Value}(h:aG P w (aO S w) e es v)(hS:∀b,S b->S' b)(hb:∀g,cC v=some g->S' g):aO S' w (.sl es) v:=by
 obtain⟨i,xs,h1,h2,h3,h4,h5,h6⟩:=h;rcases h3.2 with⟨rfl,hn⟩ | ⟨g,cap,cur,rfl,_,_,hle,_⟩
 ·have:es=[]:=adl hn;subst this;exact .nil _ _
 refine .sl es i.size g 0 cap (fun a j=>(xs[a*i.size+j]?).getD undef) hle (hb g rfl) h4 (fun a r j x ha hj=>?_) fun a r j x ha hj=>?_
 ·obtain⟨u,hu,hr⟩:=h6 a r j x ha hj;have:=h3.cells (g:=g) rfl _ u hu;rw[aaJ]at this;rw[hu,aaX];exact⟨this,h5 u (aad hu)⟩
 obtain⟨u,hu,hr⟩:=h6 a r j x ha hj;rw[hu];exact hr.mono hS (fun _ _=>rfl)
variable {id:Nat}
theorem aeG{h:Nat->AB}{b:AB}{i:Nat}{v:Value}{g:Nat}(hi:i≠id)(ho:hasB w (aT h id b i) v g):hasB w (h i) v g:=by rw[aV _ _ hi]at ho;exact ho
variable {A:cD} {V L:Nat->Prop} {rho:Nat->Value} {s:AS}
theorem b7.A0{S:Nat->Prop}{a:Act}(sim:b7 A V L S rho s a w)(hC:bI A.C)(id:Nat)(hL:L id)(az:s.h id=.row e es):
  b7 A V L (fun b=>S b\/cC (rho id)=some b) rho ⟨s.t,aT s.h id (.jA es)⟩ a w:=by
 have T:lB S (fun b=>S b\/cC (rho id)=some b) w w L L rho rho s.h (aT s.h id (.jA es)):=by
  refine⟨fun b h=>.inl h,fun _ _=>rfl,fun j hj=>⟨?_,fun hl=>⟨hl,rfl⟩⟩,fun j e' hj=>?_⟩
  ·rcases aW s.h id (.jA es) j with⟨rfl,h⟩ | ⟨_,h⟩
   ·rw[az];trivial
   rw[h]at hj;exact hj
  rcases aW s.h id (.jA es) j with⟨rfl,h⟩ | ⟨_,h⟩
  ·rw[h]at hj;cases hj
  rw[h]at hj;exact hj
 have fw:∀j,((aT s.h id (.jA es)) j).live->j≠id/\(s.h j).live:=by
  intro j hj;rcases aW s.h id (.jA es) j with⟨rfl,h⟩ | ⟨h1,h⟩
  ·rw[h]at hj;exact hj.elim
  rw[h]at hj;exact⟨h1,hj⟩
 have bY:(s.h id).live:=by rw[az];trivial
 exact
 {tm:=fun j hj=>(sim.tm j hj).cK T
  sz:=sim.sz,df:=sim.df,nb:=sim.nb,pn:=sim.pn
  ev:=hC.env _ _ _ _ sim.ev (fun b h=>.inl h) (fun _ _=>rfl) (aam _)
  s0:=fun b h=>.inl (sim.s0 b h)
  st:=fun b h=>h.elim (sim.st b) fun h=>(sim.pM id b hL bY h).1
  sb:=fun b h=>h.elim (sim.sb b) fun h=>.inr (sim.pM id b hL bY h).2.2
  hp:=fun j hj=>by
   have hh:=sim.hp j hj;rcases aW s.h id (.jA es) j with⟨rfl,h⟩ | ⟨h1,h⟩
   ·show eK _ _ _ _ _ _ _ (aT s.h j (.jA es) j);rw[h];rw[az]at hh;exact aG.DT hh (fun b h=>.inl h) (fun g h=>.inr h)
   show eK _ _ _ _ _ _ _ (aT s.h id (.jA es) j);rw[h];exact hh.cK T (fun _ _ _=>rfl) (fun _=>rfl)
  dj:=fun i j g hi hj li lj eM jH=>sim.dj i j g hi hj (fw i li).2 (fw j lj).2 (aeG (fw i li).1 eM) (aeG (fw j lj).1 jH)
  lv:=fun i g hi li hg=>by
   obtain⟨h1,h2⟩:=fw i li;have hg:=aeG h1 hg;obtain⟨h3,h4,h5⟩:=sim.lv i g hi h2 hg;refine⟨h3,fun h=>h.elim h4 fun h=>h1 (sim.dj i id g hi hL h2 bY hg (.inl h)),h5⟩
  fr:=sim.fr }
theorem b7.Jy{S:Nat->Prop}{a:Act}(sim:b7 A V L S rho s a w)(hC:bI A.C)(id:Nat)(hL:L id){cs:List AV}{xs:List PV}(az:s.h id=.box cs)(s9:dY cs=some xs):
  b7 A V L (fun b=>S b\/cC (rho id)=some b) rho ⟨s.t,aT s.h id (.jd xs)⟩ a w:=by
 have T:lB S (fun b=>S b\/cC (rho id)=some b) w w L L rho rho s.h (aT s.h id (.jd xs)):=by
  refine⟨fun b h=>.inl h,fun _ _=>rfl,fun j hj=>⟨?_,fun hl=>⟨hl,rfl⟩⟩,fun j e' hj=>?_⟩
  ·rcases aW s.h id (.jd xs) j with⟨rfl,h⟩ | ⟨_,h⟩
   ·rw[az];trivial
   rw[h]at hj;exact hj
  rcases aW s.h id (.jd xs) j with⟨rfl,h⟩ | ⟨_,h⟩
  ·rw[h]at hj;cases hj
  rw[h]at hj;exact hj
 have fw:∀j,((aT s.h id (.jd xs)) j).live->j≠id/\(s.h j).live:=by
  intro j hj;rcases aW s.h id (.jd xs) j with⟨rfl,h⟩ | ⟨h1,h⟩
  ·rw[h]at hj;exact hj.elim
  rw[h]at hj;exact⟨h1,hj⟩
 have bY:(s.h id).live:=by rw[az];trivial
 exact
 {tm:=fun j hj=>(sim.tm j hj).cK T
  sz:=sim.sz,df:=sim.df,nb:=sim.nb,pn:=sim.pn
  ev:=hC.env _ _ _ _ sim.ev (fun b h=>.inl h) (fun _ _=>rfl) (aam _)
  s0:=fun b h=>.inl (sim.s0 b h)
  st:=fun b h=>h.elim (sim.st b) fun h=>(sim.pM id b hL bY h).1
  sb:=fun b h=>h.elim (sim.sb b) fun h=>.inr (sim.pM id b hL bY h).2.2
  hp:=fun j hj=>by
   have hh:=sim.hp j hj;rcases aW s.h id (.jd xs) j with⟨rfl,h⟩ | ⟨h1,h⟩
   ·show eK _ _ _ _ _ _ _ (aT s.h j (.jd xs) j);rw[h];rw[az]at hh;obtain⟨g,ty,c,k1,k2,k3,k4⟩:=hh;show aO _ w (.ip xs) (rho j);rw[k1];obtain⟨hl,Jv⟩:=gV s9;have hU:∀(i:Nat) x,xs[i]?=some x->∃u,c[i]?=some u/\u.oneCell'=true/\aO S w x u:=by
     intro i x hi;obtain⟨y,hy⟩:∃y,cs[i]?=some y:=⟨_,acg (by rw[hl];exact aD hi)⟩;obtain⟨u,hu⟩:=jG k3.symm (aD hy);obtain⟨h5,h6⟩:=k4 _ _ _ hy hu;exact⟨u,hu,h5,h6.xz (Jv i y x hy hi)⟩
    refine .ip xs g 0 (fun i=>(c[i]?).getD undef) (.inr rfl) (fun i x hi=>?_) fun i x hi=>?_
    ·obtain⟨u,h5,h6,h7⟩:=hU i x hi;rw[abC,cell_of_row w g i c ty (0,0) k2,h5];exact⟨rfl,h6⟩
    obtain⟨u,h5,h6,h7⟩:=hU i x hi;rw[h5];exact h7.mono (fun b h=>.inl h) (fun _ _=>rfl)
   show eK _ _ _ _ _ _ _ (aT s.h id (.jd xs) j);rw[h];exact hh.cK T (fun _ _ _=>rfl) (fun _=>rfl)
  dj:=fun i j g hi hj li lj eM jH=>sim.dj i j g hi hj (fw i li).2 (fw j lj).2 (aeG (fw i li).1 eM) (aeG (fw j lj).1 jH)
  lv:=fun i g hi li hg=>by
   obtain⟨h1,h2⟩:=fw i li;have hg:=aeG h1 hg;obtain⟨h3,h4,h5⟩:=sim.lv i g hi h2 hg;refine⟨h3,fun h=>h.elim h4 fun h=>h1 (sim.dj i id g hi hL h2 bY hg (.inl h)),h5⟩
  fr:=sim.fr }
def pY(h h':Nat->AB):Prop:=∀id,h' id=h id\/(∃e es,h id=.row e es/\h' id=.jA es)\/(∃cs xs,h id=.box cs/\dY cs=some xs/\h' id=.jd xs)
theorem pY.refl(h:Nat->AB):pY h h:=fun _=>.inl rfl
variable {h':Nat->AB}
theorem pY.LA{h:Nat->AB}(H:pY h h')(hr:h id=.row e es):pY h (aT h' id (.jA es)):=by
 intro j;rcases aW h' id (.jA es) j with⟨rfl,h1⟩ | ⟨_,h1⟩
 ·exact .inr (.inl ⟨e,es,hr,h1⟩)
 rw[h1];exact H j
theorem pY.LB{h:Nat->AB}(H:pY h h'){cs:List AV}{xs:List PV}(hr:h id=.box cs)(hx:dY cs=some xs):pY h (aT h' id (.jd xs)):=by
 intro j;rcases aW h' id (.jd xs) j with⟨rfl,h1⟩ | ⟨_,h1⟩
 ·exact .inr (.inr ⟨cs,xs,hr,hx,h1⟩)
 rw[h1];exact H j
theorem aO.tw{S:Nat->Prop}{xs:List PV}{g off:Nat}{v:Value}(h:aO S w (.ip xs) v)(hv:v=.pointer (some ⟨g,0,none⟩)):aO S w (.ip (xs.drop off)) (.pointer (some ⟨g,off,none⟩)):=by
 subst hv;obtain⟨b,o,U,hv,hb,hcell,hrep⟩:=h.x8;injection hv with hv;injection hv with hv;injection hv with h1 h2;subst h1 h2;refine .ip _ g off (fun j=>U (off+j)) hb (fun j x hj=>?_) fun j x hj=>?_
 ·rw[aas]at hj;have:=hcell _ x hj
  rwa [abC]at this
 rw[aas]at hj;exact hrep _ x hj
theorem A1{S:Nat->Prop}{a:Act}(hC:bI A.C){h:Nat->AB}(sim:b7 A V L S rho s a w)(hF:pY h s.h){x:AV}{v:Value}(hx:aY S w A.C.P L rho s.h x v){K:PV->List (Nat×AB)->Prop}(hq:l8 h x K):
  ∃y fz S',K y fz/\b7 A V L S' rho ⟨s.t,app s.h fz⟩ a w/\aO S' w y v/\(∀b,S b->S' b)/\pY h (app s.h fz)/\(∀p∈fz,L p.1)/\(∀p∈fz,¬p.2.live):=by
 unfold l8 at hq;split at hq
 ·exact⟨_,[],S,hq,sim,hx.eR,fun _ h=>h,hF,by simp,by simp⟩
 ·cases hx;exact⟨_,[],S,hq,sim,.nil _ _,fun _ h=>h,hF,by simp,by simp⟩
 ·rename_i id;split at hq
  ·rename_i e es az;rcases hF id with h1 | ⟨e',de,h1,h2⟩ | ⟨cs,xs,h1,_,_⟩
   ·rw[az]at h1;obtain⟨hL,hv⟩:=hx.cH (by rw[h1];trivial);refine⟨_,_,_,hq,sim.A0 hC id hL h1,?_,fun b h=>.inl h,hF.LA az,by simpa using hL,by simp[AB.live]⟩;have hh:=sim.hp id hL;rw[h1]at hh;rw[hv];exact aG.DT hh (fun b h=>.inl h) (fun g h=>.inr h)
   ·rw[az]at h1;injection h1 with e1 e2;subst e1 e2;obtain⟨hL,hv⟩:=hx.cH (by rw[h2];trivial);have hh:=sim.hp id hL;rw[h2]at hh;refine⟨_,_,S,hq,?_,by rw[hv];exact hh,fun _ h=>h,hF.LA az,by simpa using hL,by simp[AB.live]⟩;show b7 A V L S rho ⟨s.t,aT s.h id (.jA es)⟩ a w;rw[jf _ _ _ h2];exact sim
   rw[az]at h1;cases h1
  ·rename_i es Jx;rcases hF id with h1 | ⟨e',de,h1,h2⟩ | ⟨cs,xs,h1,_,_⟩
   ·rw[Jx]at h1;obtain⟨hL,hv⟩:=hx.cH (by rw[h1];trivial);have hh:=sim.hp id hL;rw[h1]at hh;exact⟨_,[],S,hq,sim,by rw[hv];exact hh,fun _ h=>h,hF,by simp,by simp⟩
   ·rw[Jx]at h1;cases h1
   rw[Jx]at h1;cases h1
  exact hq.elim
 ·rename_i id off;split at hq
  ·rename_i cs aN;split at hq
   ·rename_i xs s9;rcases hF id with h1 | ⟨e',de,h1,h2⟩ | ⟨mZ,rN,h1,OH,h2⟩
    ·rw[aN]at h1;obtain⟨hL,g,hg,hv⟩:=hx.h_ (by rw[h1];trivial);have b9:=sim.Jy hC id hL h1 s9;refine⟨_,_,_,hq,b9,?_,fun b h=>.inl h,hF.LB aN s9,by simpa using hL,by simp[AB.live]⟩;have hh:=b9.hp id hL;have Lg:eK _ w A.C.P L rho _ id (aT s.h id (.jd xs) id):=hh;rw[aH]at Lg;have Rs:aO _ w (.ip xs) (rho id):=Lg;rw[hv];exact Rs.tw hg
    ·rw[aN]at h1;cases h1
    rw[aN]at h1;injection h1 with h1;subst h1;rw[s9]at OH;injection OH with OH;subst OH;obtain⟨hL,g,hg,hv⟩:=hx.h_ (by rw[h2];trivial);have hh:=sim.hp id hL;rw[h2]at hh;have Rs:aO _ w (.ip xs) (rho id):=hh;refine⟨_,_,S,hq,?_,by rw[hv];exact Rs.tw hg,fun _ h=>h,hF.LB aN s9,by simpa using hL,by simp[AB.live]⟩;show b7 A V L S rho ⟨s.t,aT s.h id (.jd xs)⟩ a w;rw[jf _ _ _ h2];exact sim
   exact hq.elim
  ·rename_i xs Rt;rcases hF id with h1 | ⟨e',de,h1,h2⟩ | ⟨cs,rN,h1,_,_⟩
   ·rw[Rt]at h1;obtain⟨hL,g,hg,hv⟩:=hx.h_ (by rw[h1];trivial);have hh:=sim.hp id hL;rw[h1]at hh;have Rs:aO _ w (.ip xs) (rho id):=hh;exact⟨_,[],S,hq,sim,by rw[hv];exact Rs.tw hg,fun _ h=>h,hF,by simp,by simp⟩
   ·rw[Rt]at h1;cases h1
   rw[Rt]at h1;cases h1
  exact hq.elim
 exact hq.elim
theorem Jz{b:AB}(h:b.oG=some e):b.live:=by cases b<;>first | trivial | cases h
theorem JA{fz:List (Nat×AB)}(hn:∀p∈fz,¬p.2.live):∀{h:Nat->AB} {id:Nat},(app h fz id).live->app h fz id=h id:=by
 induction fz with
 | nil=>intro h id _;rfl
 | cons p fz ih=>
  intro h id hl;obtain⟨i,b⟩:=p;have e:=ih (fun p hp=>hn p (by simp[hp])) (h:=aT h i b) (id:=id) hl;have e2:app h ((i,b)::fz) id=aT h i b id:=e;by_cases ei:id=i
  ·subst ei;rw[e2,aH]at hl;exact absurd hl (hn (id,b) (by simp))
  rw[e2,aV _ _ ei]
theorem pY.there{h:Nat->AB}(H:pY h h')(id:Nat):(h' id).there↔(h id).there:=by
 rcases H id with h1 | ⟨e,es,h1,h2⟩ | ⟨cs,xs,h1,_,h2⟩
 ·rw[h1]
 ·rw[h1,h2];exact aaT
 rw[h1,h2];exact aaT
theorem aY.froze{S S':Nat->Prop}{P:Program}{h:Nat->AB}{fz:List (Nat×AB)}(hS:∀b,S b->S' b)(H:pY h h')(H2:pY h (app h' fz))(hn:∀p∈fz,¬p.2.live){x:AV}{v:Value}(hx:aY S w P L rho h' x v):aY S' w P L rho (app h' fz) x v:=
 hx.cK ⟨hS,fun _ _=>rfl,fun id ht=>⟨(H.there id).2 ((H2.there id).1 ht),fun hl=>⟨hl,rfl⟩⟩,fun id e hr=>by rw[<-JA (h:=h') (id:=id) hn (Jz hr)];exact hr⟩
theorem A2{t:Nat->AV}{a:Act}(hC:bI A.C){h:Nat->AB}:∀(cap:List AV) (vs:List Value) (S:Nat->Prop) (h':Nat->AB) {K:List PV->List (Nat×AB)->Prop},cap.length=vs.length->b7 A V L S rho ⟨t,h'⟩ a w->pY h h' ->
  (∀(i:Nat) c v,cap[i]?=some c->vs[i]?=some v->aY S w A.C.P L rho h' c v)->v7 h cap K ->
  ∃xs fz S',K xs fz/\b7 A V L S' rho ⟨t,app h' fz⟩ a w/\(∀(i:Nat) x v,xs[i]?=some x->vs[i]?=some v->aO S' w x v)/\(∀b,S b->S' b)/\pY h (app h' fz)/\(∀p∈fz,L p.1)/\xs.length=vs.length:=by
 intro cap
 induction cap with
 | nil=>
  intro vs S h' K hl sim hF _ hq;have:vs=[]:=adl hl.symm;subst this;exact⟨[],[],S,hq,sim,by simp,fun _ h=>h,hF,by simp,rfl⟩
 | cons c cap ih=>
  intro vs S h' K hl sim hF hrep hq;cases vs with
  | nil=>simp at hl
  | cons v vs=>
   obtain⟨y,fz,S2,hq,bu,hp,xC,Lh,DI,hnl⟩:=A1 (s:=⟨t,h'⟩) hC sim hF (hrep 0 c v rfl rfl) hq;obtain⟨xs,mY,S',k1,k2,k3,k4,k5,k6,k7⟩:=ih vs S2 (app h' fz) (by simpa using hl) bu Lh (fun i x u hx hu=>(hrep (i+1) x u (by simpa using hx) (by simpa using hu)).froze xC hF Lh hnl) hq;refine⟨y::xs,fz++mY,S',k1,by rw[cy];exact k2,fun i x u hx hu=>?_,fun b hb=>k4 b (xC b hb),by rw[cy];exact k5,fun p hp=>(abi.1 hp).elim (DI p) (k6 p),by simp[k7]⟩;cases i with
   | zero=>simp at hx hu;subst hx hu;exact hp.mono k4 (fun _ _=>rfl)
   | succ i=>exact k3 i x u (by simpa using hx) (by simpa using hu)
theorem ir{S:Nat->Prop}{a:Act}(hC:bI A.C){h:Nat->AB}(sim:b7 A V L S rho s a w)(hF:pY h s.h){x:AV}{v:Value}(hx:aY S w A.C.P L rho s.h x v){K:PV->List (Nat×AB)->Prop}(hq:gD h x K):
  ∃y fz S',K y fz/\b7 A V L S' rho ⟨s.t,app s.h fz⟩ a w/\aO S' w y v/\(∀b,S b->S' b)/\pY h (app s.h fz)/\(∀p∈fz,L p.1):=by
 unfold gD at hq;split at hq
 ·rename_i f cap;cases hx with
  | fn _ _ vs hl hc=>
   obtain⟨xs,fz,S',k1,k2,k3,k4,k5,k6,k7⟩:=A2 (t:=s.t) hC cap vs.toList S s.h (by simpa using hl) sim hF (fun i c v h1 h2=>hc i c v h1 (by simpa using h2)) hq;exact⟨_,fz,S',k1,k2,.fn f xs vs (by simpa using k7) (fun i c v h1 h2=>k3 i c v h1 (by simpa using h2)),k4,k5,k6⟩
 obtain⟨y,fz,S',h1,h2,h3,h4,h5,h6,_⟩:=A1 hC sim hF hx hq;exact⟨y,fz,S',h1,h2,h3,h4,h5,h6⟩
theorem iA{d:Nat}:∀{fz:List (Nat×AB)} {h:Nat->AB},(∀p∈fz,p.1≠d)->app h fz d=h d:=by
 intro fz
 induction fz with
 | nil=>intro h _;rfl
 | cons x fz ih=>
  intro h hn;show app (aT h x.1 x.2) fz d=h d;rw[ih (fun p hp=>hn p (by simp[hp])),aV _ _ (fun e=>hn x (by simp) e.symm)]
theorem b7.kill{S:Nat->Prop}{a:Act}(sim:b7 A V L S rho s a w)(id:Nat):b7 A V L S rho ⟨s.t,aT s.h id .none⟩ a w:=by
 have T:lB S S w w L L rho rho s.h (aT s.h id .none):=by
  refine⟨fun b h=>h,fun _ _=>rfl,fun j hj=>⟨?_,fun hl=>⟨hl,rfl⟩⟩,fun j e' hj=>?_⟩
  ·rcases aW s.h id .none j with⟨rfl,h⟩ | ⟨_,h⟩
   ·rw[h]at hj;exact hj.elim
   rw[h]at hj;exact hj
  rcases aW s.h id .none j with⟨rfl,h⟩ | ⟨_,h⟩
  ·rw[h]at hj;cases hj
  rw[h]at hj;exact hj
 have fw:∀j,((aT s.h id .none) j).live->j≠id/\(s.h j).live:=by
  intro j hj;rcases aW s.h id .none j with⟨rfl,h⟩ | ⟨h1,h⟩
  ·rw[h]at hj;exact hj.elim
  rw[h]at hj;exact⟨h1,hj⟩
 exact
 {tm:=fun j hj=>(sim.tm j hj).cK T
  sz:=sim.sz,df:=sim.df,nb:=sim.nb,pn:=sim.pn,ev:=sim.ev,s0:=sim.s0,st:=sim.st,sb:=sim.sb
  hp:=fun j hj=>by
   have hh:=sim.hp j hj;rcases aW s.h id .none j with⟨rfl,h⟩ | ⟨h1,h⟩
   ·show eK _ _ _ _ _ _ _ (aT s.h j .none j);rw[h];trivial
   show eK _ _ _ _ _ _ _ (aT s.h id .none j);rw[h];exact hh.cK T (fun _ _ _=>rfl) (fun _=>rfl)
  dj:=fun i j g hi hj li lj eM jH=>sim.dj i j g hi hj (fw i li).2 (fw j lj).2 (aeG (fw i li).1 eM) (aeG (fw j lj).1 jH)
  lv:=fun i g hi li hg=>sim.lv i g hi (fw i li).2 (aeG (fw i li).1 hg)
  fr:=sim.fr }
theorem b7.qd{S:Nat->Prop}{a:Act}(sim:b7 A V L S rho s a w)(hC:bI A.C)(d:Nat)(b:AB)(hdb:d<100000)(hL:¬L d)(hb:s.h d=b)(w':World)(ho:w'.os=w.os)(ht:w'.tape=w.tape)(hu:w'.output=w.output)
  (hsz:w.heap.size<=w'.heap.size) (R:Nat->Prop) (hold:∀k,k<w.heap.size->¬R k->w'.heap[k]?=w.heap[k]?) (hR:∀k,R k->¬S k/\(∀i,L i->(s.h i).live->¬hasB w (s.h i) (rho i) k)/\(A.mv k\/A.w0.heap.size<=k))
  (hv:Value) (hblk:∀g,hasB w' b hv g->g<w'.heap.size/\(w.heap.size<=g\/R g))
  (hrep:lB S S w w' L (fun i=>L i\/i=d) rho (aT rho d hv) s.h s.h->eK S w' A.C.P (fun i=>L i\/i=d) (aT rho d hv) s.h d b):
  b7 A V (fun i=>L i\/i=d) S (aT rho d hv) s a w':=by
 have ae1:∀b,S b->w'.heap[b]?=w.heap[b]?:=fun k hk=>hold k (sim.st k hk) fun hr=>(hR k hr).1 hk;have b8:∀i,L i->i≠d:=fun i hi e=>hL (e▸hi);have T:lB S S w w' L (fun i=>L i\/i=d) rho (aT rho d hv) s.h s.h:=
  ⟨fun b h=>h,ae1,fun j hj=>⟨hj,fun hl=>⟨.inl hl,aV _ _ (b8 j hl)⟩⟩,fun j e' hj=>hj⟩
 exact
 {tm:=fun j hj=>(sim.tm j hj).cK T
  sz:=sim.sz,df:=sim.df,nb:=sim.nb,pn:=fun id h=>by rw[aV _ _ (by omega)];exact sim.pn id h
  ev:=hC.env _ _ _ _ sim.ev (fun b h=>h) ae1 hsz
  s0:=sim.s0
  st:=fun b hb=>aaW (sim.st b hb) hsz
  sb:=sim.sb
  hp:=fun j hj=>by
   by_cases e:j=d
   ·subst e;rw[hb];exact hrep T
   have hl:L j:=hj.resolve_right e;refine (sim.hp j hl).cK T (fun li g hg=>?_) (fun _=>aV _ _ e);exact hold g (sim.lv j g hl li hg).1 fun hr=>(hR g hr).2.1 j hl li hg
  dj:=fun i j g hi hj li lj eM jH=>by
   have back:∀i g,L i->(s.h i).live->hasB w' (s.h i) (rho i) g->hasB w (s.h i) (rho i) g:=fun i g hl li h=>dA (fun k hk=>hold k (sim.pM i k hl li hk).1 fun hr=>(hR k hr).2.1 i hl li (.inl hk)) h;by_cases e1:i=d
   ·by_cases e2:j=d
    ·rw[e1,e2]
    have hl:L j:=hj.resolve_right e2;rw[aV _ _ e2]at jH;have jH:=back j g hl lj jH;rw[e1,aH,hb]at eM;rcases (hblk g eM).2 with h | h
    ·exact absurd (sim.lv j g hl lj jH).1 (by omega)
    exact absurd jH ((hR g h).2.1 j hl lj)
   have hl:L i:=hi.resolve_right e1;rw[aV _ _ e1]at eM;have eM:=back i g hl li eM;by_cases e2:j=d
   ·rw[e2,aH,hb]at jH;rcases (hblk g jH).2 with h | h
    ·exact absurd (sim.lv i g hl li eM).1 (by omega)
    exact absurd eM ((hR g h).2.1 i hl li)
   have F4:L j:=hj.resolve_right e2;rw[aV _ _ e2]at jH;exact sim.dj i j g hl F4 li lj eM (back j g F4 lj jH)
  lv:=fun i g hi li hg=>by
   by_cases e:i=d
   ·rw[e,aH,hb]at hg;obtain⟨h1,h2⟩:=hblk g hg;refine⟨h1,?_⟩;rcases h2 with h | h
    ·exact⟨fun hs=>absurd (sim.st g hs) (by omega),.inr (aaF sim.fr.size h)⟩
    exact⟨(hR g h).1,(hR g h).2.2⟩
   have hl:L i:=hi.resolve_right e;rw[aV _ _ e]at hg;obtain⟨h1,h2,h3⟩:=sim.lv i g hl li (dA (fun k hk=>hold k (sim.pM i k hl li hk).1 fun hr=>(hR k hr).2.1 i hl li (.inl hk)) hg);exact⟨aaW h1 hsz,h2,h3⟩
  fr:=sim.fr.next ho ht hu hsz fun k hk hn=>hold k (aaW hk sim.fr.size) fun hr=>by
   rcases (hR k hr).2.2 with h | h
   ·exact hn h
   omega }
theorem b7.new{S:Nat->Prop}{a:Act}(sim:b7 A V L S rho s a w)(hC:bI A.C)(d:Nat)(b:AB)(hdb:d<100000)(hL:¬L d)(hb:s.h d=b)(w':World)(ho:w'.os=w.os)(ht:w'.tape=w.tape)(hu:w'.output=w.output)
  (hsz:w.heap.size<=w'.heap.size) (R:Nat->Prop) (hold:∀k,k<w.heap.size->¬R k->w'.heap[k]?=w.heap[k]?) (hR:∀k,R k->¬S k/\(∀i,L i->(s.h i).live->¬hasB w (s.h i) (rho i) k)/\(A.mv k\/A.w0.heap.size<=k))
  (hv:Value) (hblk:∀g,cC hv=some g->g<w'.heap.size/\(w.heap.size<=g\/R g))
  (hrep:lB S S w w' L (fun i=>L i\/i=d) rho (aT rho d hv) s.h s.h->eK S w' A.C.P (fun i=>L i\/i=d) (aT rho d hv) s.h d b)
  (hnh:Rg b=true:=by rfl):
  b7 A V (fun i=>L i\/i=d) S (aT rho d hv) s a w':=
 sim.qd hC d b hdb hL hb w' ho ht hu hsz R hold hR hv (fun g h=>hblk g (aI hnh h)) hrep
theorem b7.TR{S:Nat->Prop}{a:Act}(sim:b7 A V L S rho s a w)(hC:bI A.C)(w':World)(hf:Fr (fun _=>False) w w')(S':Nat->Prop)(h1:∀b,S b->S' b)(h2:∀b,S' b->b<w'.heap.size)(h3:∀b,S' b->S b\/w.heap.size<=b):b7 A V L S' rho s a w':=by
 have ae1:∀b,S b->w'.heap[b]?=w.heap[b]?:=fun k hk=>hf.block k (sim.st k hk) (fun h=>h);have T:lB S S' w w' L L rho rho s.h s.h:=⟨h1,ae1,fun j hj=>⟨hj,fun hl=>⟨hl,rfl⟩⟩,fun j e' hj=>hj⟩;exact
 {tm:=fun j hj=>(sim.tm j hj).cK T
  sz:=sim.sz,df:=sim.df,nb:=sim.nb,pn:=sim.pn
  ev:=hC.env _ _ _ _ sim.ev h1 ae1 hf.size
  s0:=fun b hb=>h1 b (sim.s0 b hb)
  st:=h2
  sb:=fun b hb=>by
   rcases h3 b hb with h | h
   ·exact sim.sb b h
   exact .inr (.inr (aaF sim.fr.size h))
  hp:=fun j hj=>(sim.hp j hj).cK T (fun li g hg=>hf.block g (sim.lv j g hj li hg).1 (fun h=>h)) (fun _=>rfl)
  dj:=fun i j g hi hj li lj eM jH=>sim.dj i j g hi hj li lj (dA (fun k hk=>hf.block k (sim.pM i k hi li hk).1 (fun h=>h)) eM) (dA (fun k hk=>hf.block k (sim.pM j k hj lj hk).1 (fun h=>h)) jH)
  lv:=fun i g hi li hg=>by
   obtain⟨a1,a2,a3⟩:=sim.lv i g hi li (dA (fun k hk=>hf.block k (sim.pM i k hi li hk).1 (fun h=>h)) hg);refine⟨aaW a1 hf.size,fun h=>?_,a3⟩;rcases h3 g h with h | h
   ·exact a2 h
   omega
  fr:=sim.fr.next hf.os hf.tape hf.output hf.size fun k hk _=>hf.block k (aaW hk sim.fr.size) (fun h=>h) }
theorem b7.Ru{S:Nat->Prop}{a:Act}(sim:b7 A V L S rho s a w)(d:Nat)(es:List (List PV))(hdb:d<100000)(hL:¬L d)(hb:s.h d=.jA es)(hv:Value)
  (hrep:aO S w (.sl es) hv):b7 A V (fun i=>L i\/i=d) S (aT rho d hv) s a w:=by
 have b8:∀i,L i->i≠d:=fun i hi e=>hL (e▸hi);have T:lB S S w w L (fun i=>L i\/i=d) rho (aT rho d hv) s.h s.h:=
  ⟨fun b h=>h,fun _ _=>rfl,fun j hj=>⟨hj,fun hl=>⟨.inl hl,aV _ _ (b8 j hl)⟩⟩,fun j e' hj=>hj⟩
 have out:∀i,(L i\/i=d)->(s.h i).live->L i/\i≠d:=fun i hi li=>by
  by_cases e:i=d
  ·rw[e,hb]at li;exact li.elim
  exact⟨hi.resolve_right e,e⟩
 exact
 {tm:=fun j hj=>(sim.tm j hj).cK T
  sz:=sim.sz,df:=sim.df,nb:=sim.nb,pn:=fun id h=>by rw[aV _ _ (by omega)];exact sim.pn id h
  ev:=sim.ev
  s0:=sim.s0
  st:=sim.st
  sb:=sim.sb
  hp:=fun j hj=>by
   by_cases e:j=d
   ·subst e;rw[hb];show aO S w (.sl es) (aT rho j hv j);rw[aH];exact hrep
   have hl:L j:=hj.resolve_right e;exact (sim.hp j hl).cK T (fun li g hg=>rfl) (fun _=>aV _ _ e)
  dj:=fun i j g hi hj li lj eM jH=>by
   obtain⟨l1,e1⟩:=out i hi li;obtain⟨l2,e2⟩:=out j hj lj;rw[aV _ _ e1]at eM;rw[aV _ _ e2]at jH;exact sim.dj i j g l1 l2 li lj eM jH
  lv:=fun i g hi li eM=>by
   obtain⟨l1,e1⟩:=out i hi li;rw[aV _ _ e1]at eM;exact sim.lv i g l1 li eM
  fr:=sim.fr }
theorem b7.Cl{S:Nat->Prop}{a:Act}(sim:b7 A V L S rho s a w)(hC:bI A.C)(id:Nat)(hL:L id)(bY:(s.h id).live)(b':AB)(hb':∀e,b'.oG=some e->(s.h id).oG=some e)
  (w':World) (ho:w'.os=w.os) (ht:w'.tape=w.tape) (hu:w'.output=w.output) (hsz:w'.heap.size=w.heap.size) (hold:∀k,cC (rho id)≠some k->w'.heap[k]?=w.heap[k]?)
  (hrep:lB S S w w' L L rho rho s.h (aT s.h id b')->eK S w' A.C.P L rho (aT s.h id b') id b') (hown:∀g,hasB w' b' (rho id) g->hasB w (s.h id) (rho id) g):b7 A V L S rho ⟨s.t,aT s.h id b'⟩ a w':=by
 have ae1:∀b,S b->w'.heap[b]?=w.heap[b]?:=fun k hk=>hold k fun e=>(sim.pM id k hL bY e).2.1 hk;have Rv:(s.h id).there:=by cases hh:s.h id<;>rw[hh]at bY<;>first | trivial | exact bY.elim
 have T:lB S S w w' L L rho rho s.h (aT s.h id b'):=by
  refine⟨fun b h=>h,ae1,fun j hj=>⟨?_,fun hl=>⟨hl,rfl⟩⟩,fun j e' hj=>?_⟩
  ·rcases aW s.h id b' j with⟨rfl,h⟩ | ⟨_,h⟩
   ·exact Rv
   rw[h]at hj;exact hj
  rcases aW s.h id b' j with⟨rfl,h⟩ | ⟨_,h⟩
  ·rw[h]at hj;exact hb' e' hj
  rw[h]at hj;exact hj
 have fw:∀j,((aT s.h id b') j).live->(s.h j).live:=by
  intro j hj;rcases aW s.h id b' j with⟨rfl,h⟩ | ⟨h1,h⟩
  ·exact bY
  rw[h]at hj;exact hj
 have back:∀j g,L j->((aT s.h id b') j).live->hasB w' (aT s.h id b' j) (rho j) g->hasB w (s.h j) (rho j) g:=by
  intro j g hl hj Ol;rcases aW s.h id b' j with⟨rfl,h⟩ | ⟨h1,h⟩
  ·rw[h]at Ol;exact hown g Ol
  rw[h]at Ol hj;exact dA (fun k hk=>hold k fun e=>h1 (sim.TJ j id k hl hL hj bY hk e)) Ol
 exact
 {tm:=fun j hj=>(sim.tm j hj).cK T
  sz:=sim.sz,df:=sim.df,nb:=sim.nb,pn:=sim.pn
  ev:=hC.env _ _ _ _ sim.ev (fun b h=>h) ae1 (aay hsz.symm)
  s0:=sim.s0
  st:=fun b hb=>by rw[hsz];exact sim.st b hb
  sb:=sim.sb
  hp:=fun j hj=>by
   rcases aW s.h id b' j with⟨rfl,h⟩ | ⟨h1,h⟩
   ·show eK _ _ _ _ _ _ _ (aT s.h j b' j);rw[h];exact hrep T
   show eK _ _ _ _ _ _ _ (aT s.h id b' j);rw[h];refine (sim.hp j hj).cK T (fun li g hg=>hold g fun e=>?_) (fun _=>rfl);exact h1 (sim.dj j id g hj hL li bY hg (.inl e))
  dj:=fun i j g hi hj li lj eM jH=>sim.dj i j g hi hj (fw i li) (fw j lj) (back i g hi li eM) (back j g hj lj jH)
  lv:=fun i g hi li hg=>by rw[hsz];exact sim.lv i g hi (fw i li) (back i g hi li hg)
  fr:=sim.fr.next ho ht hu (aay hsz.symm) fun k hk hn=>hold k fun e=>by
   rcases (sim.pM id k hL bY e).2.2 with h | h
   ·exact hn h
   omega }
theorem b7.write{S:Nat->Prop}{a:Act}(sim:b7 A V L S rho s a w)(hC:bI A.C)(id:Nat)(hL:L id)(bY:(s.h id).live)(b':AB)(hb':∀e,b'.oG=some e->(s.h id).oG=some e)
  (w':World) (ho:w'.os=w.os) (ht:w'.tape=w.tape) (hu:w'.output=w.output) (hsz:w'.heap.size=w.heap.size) (hold:∀k,cC (rho id)≠some k->w'.heap[k]?=w.heap[k]?)
  (hrep:lB S S w w' L L rho rho s.h (aT s.h id b')->eK S w' A.C.P L rho (aT s.h id b') id b') (hnh:Rg b'=true:=by rfl):b7 A V L S rho ⟨s.t,aT s.h id b'⟩ a w':=
 sim.Cl hC id hL bY b' hb' w' ho ht hu hsz hold hrep fun _ h=>.inl (aI hnh h)
theorem b7.pP{S:Nat->Prop}{a:Act}(sim:b7 A V L S rho s a w){dst:Option Tmp}(hd:∀d,dst=some d->d<A.n):dst.getD 0<100000:=by
 cases dst with
 | none=>exact Nat.zero_lt_succ _
 | some d=>exact aaW (hd d rfl) sim.nb
theorem q8{S:Nat->Prop}{a:Act}(sim:b7 A V L S rho s a w){x:AV}{v:Value}(h:u5 s.h x=true)(hx:aY S w A.C.P L rho s.h x v):v.oneCell'=true:=by
 unfold u5 at h;split at h
 ·rw[hx.bS];exact h
 ·cases h
 ·rename_i y h1 h2;have hy:=hx.eR;cases hy with
  | im=>exact absurd rfl (h1 _)
  | ag cs vs=>exact absurd rfl (h2 cs)
  | nil=>rfl
  | sl=>rfl
  | ip=>rfl
  | fn=>rfl
 ·cases hx;rfl
 ·rename_i id;split at h
  ·rename_i e es az;obtain⟨hL,hv⟩:=hx.cH (by rw[az];trivial);have hh:=sim.hp id hL;rw[az]at hh;obtain⟨i,xs,_,_,h3,_⟩:=hh;rw[hv];rcases h3.2 with⟨h4,_⟩ | ⟨g,cap,cur,h4,_⟩<;>rw[h4]<;>rfl
  ·rename_i e es az;obtain⟨hL,hv⟩:=hx.cH (by rw[az];trivial);have hh:=sim.hp id hL;rw[az]at hh;obtain⟨⟨i,xs,_,_,h3,_⟩,_⟩:=hh;rw[hv];rcases h3.2 with⟨h4,_⟩ | ⟨g,cap,cur,h4,_⟩<;>rw[h4]<;>rfl
  ·rename_i es az;obtain⟨hL,hv⟩:=hx.cH (by rw[az];trivial);have hh:=sim.hp id hL;rw[az]at hh;obtain⟨ad,c,h4,_⟩:=aO.oL hh;rw[hv,h4];rfl
  cases h
 ·rename_i id off;split at h
  ·cases h
  rename_i b8;have ht:(s.h id).there:=by
   cases hh:s.h id<;>first | trivial | exact absurd hh (by simpa using b8)
  obtain⟨_,g,_,hv⟩:=hx.h_ ht;rw[hv];rfl
 ·rename_i id i off;split at h
  ·rename_i e es az;obtain⟨_,g,n,c,tj,_,_,hv⟩:=hx.x_ az;rw[hv];rfl
  ·rename_i e es az;obtain⟨_,g,n,c,tj,_,_,hv⟩:=hx.tr az;rw[hv];rfl
  cases h
 ·cases hx;rfl
 cases h
theorem cells_one{v:Value}(h:v.oneCell'=true):v.cells=#[v]:=by cases v<;>first | rfl | cases h
theorem wc{S:Nat->Prop}{x:PV}{ys:List PV}{v:Value}(h:sg x=some ys)(hx:aO S w x v):v.cells.size=ys.length/\(∀u∈v.cells.toList,u.oneCell'=true)/\∀(j:Nat) y u,ys[j]?=some y->v.cells[j]?=some u->aO S w y u:=by
 have one:∀{v:Value},v.oneCell'=true->aO S w x v->ys=[x]->v.cells.size=ys.length/\(∀u∈v.cells.toList,u.oneCell'=true)/\∀(j:Nat) y u,ys[j]?=some y->v.cells[j]?=some u->aO S w y u:=by
  intro v h1 hx hy;subst hy;rw[cells_one h1];refine⟨rfl,by simpa using h1,fun j y u hj hu=>?_⟩;cases j with
  | zero=>simp at hj hu;subst hj hu;exact hx
  | succ j=>simp at hj
 unfold sg at h;split at h
 ·injection h with h;subst h;obtain⟨vs,rfl,h1,h2,h3⟩:=hx.su;exact⟨h1.symm,h2,h3⟩
 ·split at h
  ·rename_i h1;injection h with h;exact one (by rw[hx.bS];exact h1) hx h.symm
  cases h
 rename_i h1 h2;injection h with h;refine one ?_ hx h.symm;cases hx with
 | im=>exact absurd rfl (h2 _)
 | ag cs=>exact absurd rfl (h1 cs)
 | nil=>rfl
 | sl=>rfl
 | ip=>rfl
 | fn=>rfl
theorem Rw{o:Oper}(e:TypeId)(x:Operand)(aK:o.op=.box e x):iE A o:=by
 intro V L S rho s a w K next Q hC sim hV hd hq hn hnext
 simp only[bV,aK]at hq;have hx:=bp sim x fun j hj=>hV j (by simp[aK,Op.operands,hj]);have hr:(execOp a.eval o).run A.C.P w=.ok (.value (.pointer (some ⟨w.heap.size,0,none⟩))) (w.alloc (.cells (a.eval x).cells e)):=by
  simp[execOp,aK,Instr.box,newVar,newRow,newObj,Sem.run]
 have main:∀cs:List AV,K (.bx (o.dst.getD 0) 0) [] (some (.box cs))->(a.eval x).cells.size=cs.length->(∀(j:Nat) y u,cs[j]?=some y->(a.eval x).cells[j]?=some u->u.oneCell'=true/\aY S w A.C.P L rho s.h y u)->o.wp A.C.P a w next Q:=by
  intro cs hq hl hc;obtain⟨hL,hb⟩:=hn _ _ _ hq;have b9:=sim.new hC (o.dst.getD 0) (.box cs) (sim.pP hd) hL hb (w.alloc (.cells (a.eval x).cells e)) rfl rfl rfl (by simp) (fun _=>False) (fun k hk _=>acr _ _ _ hk) (fun _ h=>h.elim) (.pointer (some ⟨w.heap.size,0,none⟩))
   (fun g hg=>by simp[cC]at hg;subst hg;simp) (fun T=>⟨w.heap.size,e,(a.eval x).cells,aH _ _ _,heap_alloc_new w _,hl,fun j y u hj hu=>⟨(hc j y u hj hu).1,(hc j y u hj hu).2.cK T⟩⟩)
  refine dW hr (hnext _ _ _ _ _ _ _ hq (b9.value o.dst hd _ _ (.bx _ _ _ fun _=>⟨.inr rfl,w.heap.size,aH _ _ _,rfl⟩)))
 split at hq
 ·rename_i cs pN;rw[pN]at hx;obtain⟨vs,hv,h1,h2,h3⟩:=hx.eR.su;refine main _ hq (by rw[hv];simp[Value.cells,h1]) fun j y u hj hu=>?_;rw[hv]at hu;rw[aak]at hj;obtain⟨z,hz,rfl⟩:=acq.1 hj;have qa:vs[j]?=some u:=hu;exact⟨h2 u (by simpa using abr qa),.p _ _ (h3 j z u hz qa)⟩
 ·rename_i xs pN;rw[pN]at hx;obtain⟨vs,hv,h1,h2,h3⟩:=hx.Rm;refine main _ hq (by rw[hv];simp[Value.cells,h1]) fun j y u hj hu=>?_;rw[hv]at hu;have qa:vs[j]?=some u:=hu;exact⟨h2 u (by simpa using abr qa),h3 j y u hj qa⟩
 split at hq
 ·rename_i h1;have h2:=q8 sim h1 hx;refine main _ hq (by rw[cells_one h2];rfl) fun j y u hj hu=>?_;rw[cells_one h2]at hu;cases j with
  | zero=>simp at hj hu;subst hj hu;exact⟨h2,hx⟩
  | succ j=>simp at hj
 exact hq.elim
theorem LC{o:Oper}(e:TypeId)(aK:o.op=.alloc e):iE A o:=by
 intro V L S rho s a w K next Q hC sim hV hd hq hn hnext
 simp only[bV,aK]at hq;split at hq
 ·rename_i ti hT;obtain⟨info,z,hi,h1,h2,hz,hcells,jg⟩:=(hC.iq e ti hT).info;have hr:(execOp a.eval o).run A.C.P w=.ok (.value (.pointer (some ⟨w.heap.size,0,none⟩))) (w.alloc (.cells z.cells e)):=by
   simp[execOp,aK,Instr.alloc,zeroValue,typeInfo,hi,hz,newVar,newRow,newObj,Sem.run]
  split at hq
  ·obtain⟨hL,hb⟩:=hn _ _ _ hq;have b9:=sim.new hC (o.dst.getD 0) _ (sim.pP hd) hL hb (w.alloc (.cells z.cells e)) rfl rfl rfl (by simp) (fun _=>False) (fun k hk _=>acr _ _ _ hk) (fun _ h=>h.elim) (.pointer (some ⟨w.heap.size,0,none⟩))
    (fun g hg=>by simp[cC]at hg;subst hg;simp) (fun T=>⟨w.heap.size,e,z.cells,aH _ _ _,heap_alloc_new w _,by rw[hcells];simp,fun j y u hj hu=>by
     rw[hcells]at hu;rw[aak]at hj;obtain⟨v,hv,rfl⟩:=acq.1 hj;have qa:ti.zero[j]?=some u:=by simpa using hu
     rw[hv]at qa;injection qa with qa;subst qa;exact⟨jg v (aad hv),xZ _ _ _ _ _ _ v⟩⟩)
   refine dW hr (hnext _ _ _ _ _ _ _ hq (b9.value o.dst hd _ _ (.bx _ _ _ fun _=>⟨.inr rfl,w.heap.size,aH _ _ _,rfl⟩)))
  obtain⟨hL,hb⟩:=hn _ _ _ hq;have b9:=sim.new hC (o.dst.getD 0) _ (sim.pP hd) hL hb (w.alloc (.cells z.cells e)) rfl rfl rfl (by simp) (fun _=>False) (fun k hk _=>acr _ _ _ hk) (fun _ h=>h.elim) (.pointer (some ⟨w.heap.size,0,none⟩))
   (fun g hg=>by simp[cC]at hg;subst hg;simp) (fun T=>⟨w.heap.size,z.cells,aH _ _ _,heap_alloc_new w _,by rw[hcells];simp,fun j y u hj hu=>by
    rw[hcells]at hu;rw[aak]at hj;obtain⟨v,hv,rfl⟩:=acq.1 hj;have qa:ti.zero[j]?=some u:=by simpa using hu
    rw[hv]at qa;injection qa with qa;subst qa;exact⟨jg v (aad hv),xZ _ _ _ _ _ _ v⟩⟩)
  refine dW hr (hnext _ _ _ _ _ _ _ hq (b9.value o.dst hd _ _ (.bx _ _ _ fun _=>⟨.inr rfl,w.heap.size,aH _ _ _,rfl⟩)))
 exact hq.elim
end Go.AM
namespace Go.AM
open Go.RowKit
theorem l9{id:Nat}:∀{fz:List (Nat×AB)} {h:Nat->AB},afu id fz=true->app h fz id=h id:=by
 intro fz
 induction fz with
 | nil=>intro h _;rfl
 | cons x fz ih=>
  intro h hn;unfold afu at hn;split at hn
  ·cases hn
  rename_i b8;show app (aT h x.1 x.2) fz id=h id;rw[ih hn,aV _ _ (fun e=>by rw[e]at b8;simp at b8)]
variable {α:Type}
theorem cW:∀(ys:List α) (cs:List α) (off:Nat),(setCells cs off ys).length=cs.length:=by
 intro ys
 induction ys with
 | nil=>intro cs off;rfl
 | cons y ys ih=>intro cs off;simp[setCells,ih]
theorem d_:∀(ys:List α) (cs:List α) (off j:Nat),off+ys.length<=cs.length->(setCells cs off ys)[j]?=if off<=j/\j<off+ys.length then ys[j-off]? else cs[j]?:=by
 intro ys
 induction ys with
 | nil=>intro cs off j _;simp only[setCells,acs];rw[aaa (by omega)]
 | cons y ys ih=>
  intro cs off j hl;simp only[aaB]at hl ⊢;simp only[setCells];rw[ih _ _ _ (by simp;omega)];by_cases h1:j=off
  ·subst h1;rw[aaa (by omega),aap (by omega),aab,ab7 (by omega)];rfl
  by_cases h2:off+1<=j/\j<off+1+ys.length
  ·rw[aap h2,aap (by omega),show j-off=(j-(off+1))+1 by omega,abc]
  rw[aaa h2,aaa (by omega),ac5 (by omega)]
theorem oM(cs ys:List α)(off j:Nat)(hl:off+ys.length<=cs.length):(cs.take off++ys++cs.drop (off+ys.length))[j]?=if off<=j/\j<off+ys.length then ys[j-off]? else cs[j]?:=by
 have h0:(cs.take off).length=off:=by simp;omega
 by_cases h1:j<off
 ·rw[aaa (by omega),abx,aaE (by omega),aa0 h1]
 by_cases h2:j<off+ys.length
 ·rw[aap (by omega),abx,acu (by omega),h0,aaE (by omega)]
 rw[aaa (by omega),abx,acu (by omega),h0,acu (by omega),aas];congr 1;omega
theorem OI(cs:List α)(off j:Nat)(y:α)(hl:off<cs.length):(cs.set off y)[j]?=if off<=j/\j<off+1 then [y][j-off]? else cs[j]?:=d_ [y] cs off j hl
variable {w:World}
theorem qe{P:Program}{t:TypeId}{ti:TI}(h:nV P t ti)(g off:Nat)(ty:TypeId)(cur:Array Value)(v:Value)(hg:w.heap[g]?=some (.cells cur ty (0,0)))(hs:v.cells.size=ti.size)(hl:off+ti.size<=cur.size)(h1:∀u∈v.cells.toList,u.oneCell'=true):
  (Instr.storeAt t (.pointer (some ⟨g,off,none⟩)) v).run P w=.ok () (w.setRow g (cur.toList.take off++v.cells.toList++cur.toList.drop (off+v.cells.toList.length)).toArray):=by
 have:=run_storeCells_at P g off ty v.cells.toList 0 cur w hg (by simp[hs];omega) h1;simp only[abQ]at this;simp[Instr.storeAt,Instr.sureAddr,storeVar,h.sizeOf,hs];simpa [hs] using this
theorem oN{P:Program}{a:Act}{o:Oper}{w':World}{t:TypeId}{x y:Operand}(aK:o.op=.store t x y)(h:(Instr.storeAt t (a.eval x) (a.eval y)).run P w=.ok () w'):(execOp a.eval o).run P w=.ok .skip w':=by
 simp only[execOp,aK,aau,h,ab5,aa6]
variable {e:TypeId} {tj:TypeInfo}
theorem aG.stored{P:Program}{R R':α->Value->Prop}{es:List (List α)}{g n c:Nat}(h:aG P w R e es (.slice (some ⟨g,0,none⟩) n c))(AZ:P.info? e=some tj){cur:Array Value}(hg:w.heap[g]?=some (.cells cur e (0,0)))
  {i off:Nat} {r:List α} (hr:es[i]?=some r) {ys:List α} {us:List Value} (hle:off+ys.length<=r.length) (hlen:us.length=ys.length) (jg:∀u∈us,u.oneCell'=true) (hR:∀x u,R x u->R' x u) (hcells:∀(j:Nat) z u,ys[j]?=some z->us[j]?=some u->R' z u):
  aG P (w.setRow g (cur.toList.take (i*tj.size+off)++us++cur.toList.drop (i*tj.size+off+us.length)).toArray) R' e (es.set i (setCells r off ys)) (.slice (some ⟨g,0,none⟩) n c):=by
 obtain⟨ie,xs,k1,k2,k3,k4,k5,k6⟩:=h;rw[AZ]at k1;injection k1 with k1;subst k1;rcases k3.2 with⟨k7,_⟩ | ⟨g',cap,Rx,k7,_,k8,k9,V0,Ry,TS⟩
 ·cases k7
 injection k7 with k7 kn kc;injection k7 with k7;injection k7 with k7;subst k7 kn kc;rw[hg]at k8;injection k8 with k8;injection k8 with k8;subst k8;have hi:=aD hr;have xj:=k4 r (aad hr);have TU:i*tj.size+tj.size<=es.length*tj.size:=by rw[<-aa3];exact abf _ hi
 have TV:es.length*tj.size<=cur.size:=by rw[Ry];exact abf _ k9
 have Qr:xs.length=es.length*tj.size:=k3.1;have Jv:=fun j=>oM cur.toList us (i*tj.size+off) j (by simp;omega);have OJ:=fun j=>d_ us xs (i*tj.size+off) j (by omega);refine⟨tj,setCells xs (i*tj.size+off) us,AZ,k2,⟨by rw[cW,Qr,aaM],.inr ⟨g,c,_,by rw[aaM],aaj _,setRow_heap w g cur _ e (0,0) hg,by rw[aaM];exact k9,V0,?_,?_⟩⟩,?_,?_,?_⟩
 ·simp only[aaf,acv,aat,aaN,abj];rw[Ry]at *;omega
 ·apply ach;intro j;rw[aa7];simp only[aaM];split
  ·rename_i hj;rw[Jv,OJ];split
   ·rfl
   rw[<-TS,aa0 hj]
  rename_i hj;rw[abI];rw[cW,Qr];omega
 ·intro q Om;rcases abg Om with h | h
  ·exact k4 q h
  rw[h,cW];exact xj
 ·intro u hu;obtain⟨j,hj⟩:=ab8.1 hu;rw[OJ]at hj;split at hj
  ·exact jg u (aad hj)
  exact k5 u (aad hj)
 intro a' q j z va hz;have V1:q.length=tj.size:=by
  rcases abg (aad va) with h | h
  ·exact k4 q h
  rw[h,cW];exact xj
 have sw:=aD hz;rw[OJ];by_cases LD:a'=i
 ·subst LD;rw[ab7 hi]at va;injection va with va;subst va;rw[d_ _ _ _ _ (by omega)]at hz;split at hz
  ·rename_i s_;rw[aap (by omega),show a'*tj.size+j-(a'*tj.size+off)=j-off by omega];have YP:=aD hz;exact⟨us[j-off]'(by omega),acg _,hcells _ z _ hz (acg _)⟩
  rename_i s_;rw[aaa (by omega)];obtain⟨u,hu,iO⟩:=k6 _ _ _ _ hr hz;exact⟨u,hu,hR _ _ iO⟩
 rw[ac5 (fun e=>LD e.symm)]at va;have b8:¬(i*tj.size+off<=a'*tj.size+j/\a'*tj.size+j<i*tj.size+off+us.length):=by
  rintro⟨h1,h2⟩;rcases aa4 LD with h | h
  ·have:=abf tj.size (adm h);rw[aa3]at this;omega
  have:=abf tj.size (adm h);rw[aa3]at this;omega
 rw[aaa b8];obtain⟨u,hu,iO⟩:=k6 _ _ _ _ va hz;exact⟨u,hu,hR _ _ iO⟩
theorem aG.block{P:Program}{R:α->Value->Prop}{es:List (List α)}{g n c:Nat}(h:aG P w R e es (.slice (some ⟨g,0,none⟩) n c))(AZ:P.info? e=some tj):∃cur:Array Value,w.heap[g]?=some (.cells cur e (0,0))/\es.length*tj.size<=cur.size/\(∀r∈es,r.length=tj.size)/\0<tj.size:=by
 obtain⟨ie,xs,k1,k2,k3,k4,k5,k6⟩:=h;rw[AZ]at k1;injection k1 with k1;subst k1;rcases k3.2 with⟨k7,_⟩ | ⟨g',cap,Rx,k7,_,k8,k9,V0,Ry,TS⟩
 ·cases k7
 injection k7 with k7 kn kc;injection k7 with k7;injection k7 with k7;subst k7;exact⟨Rx,k8,by rw[Ry];exact abf _ k9,k4,k2⟩
theorem iP{g o n c:Nat}{p:Option Nat}{k:Nat}:cC (.slice (some ⟨g,o,p⟩) n c)=some k↔k=g:=by
 simp only[cC,Option.some.injEq];exact⟨fun h=>h.symm,fun h=>h.symm⟩
theorem uZ.LF{P:Program}{R:HX->Value->Prop}{es:List (List HX)}{v:Value}(hS:uZ w es v)(h:aG P w R e es v):
  aG P w (fun x u=>R x u/\∀e' rN,x=.row e' rN->∀g b,cC v=some g->cC u=some b->b≠g) e es v:=by
 obtain⟨i,xs,h1,h2,h3,h4,h5,h6⟩:=h;refine⟨i,xs,h1,h2,h3,h4,h5,fun a r j x ha hj=>?_⟩;obtain⟨u,hu,hr⟩:=h6 a r j x ha hj;refine⟨u,hu,hr,fun e' rN hx g b hg hb=>?_⟩;subst hx;have xj:=h4 r (aad ha);rcases h3.2 with⟨hn,hz⟩ | ⟨g',cap,cur,hv,_,DG,k1,k2,k3,k4⟩
 ·have:=(aao.1 ha).1;omega
 rw[hv]at hg;obtain rfl:=iP.1 hg;refine hS.top g a j u b (by rw[hv];rfl) ⟨r,e',rN,_,_,_,ha,hj,DG,?_⟩ hb;rw[xj];rw[<-k4,aa7]at hu;split at hu
 ·simpa using hu
 cases hu
theorem b7.WH{A:cD}{V L S:Nat->Prop}{rho:Nat->Value}{s:AS}{a:Act}(sim:b7 A V L S rho s a w)(hC:bI A.C){id:Nat}(hL:L id){es:List (List HX)}(az:s.h id=.az e es){g n c:Nat}(hg:rho id=.slice (some ⟨g,0,none⟩) n c)(AZ:A.C.P.info? e=some tj)
  {i off:Nat} {r:List HX} (hr:es[i]?=some r) (hle:off+1<=r.length) {x:AV} {u:Value} (jg:u.oneCell'=true) (hx:aY S w A.C.P L rho s.h x u):
  ∃cur:Array Value,w.heap[g]?=some (.cells cur e (0,0))/\i*tj.size+off+1<=cur.size/\b7 A V L S rho ⟨s.t,aT s.h id (.az e (es.set i (r.set off (.av x))))⟩ a (w.setRow g (cur.toList.take (i*tj.size+off)++[u]++cur.toList.drop (i*tj.size+off+1)).toArray):=by
 have hh:=sim.hp id hL;rw[az]at hh;obtain⟨hR,hS⟩:=hh;rw[hg]at hR hS;obtain⟨cur,DU,hsz,hlen,hpos⟩:=hR.block AZ;have hi:=aD hr;have xj:=hlen r (aad hr);have TU:i*tj.size+tj.size<=es.length*tj.size:=by rw[<-aa3];exact abf _ hi
 have f_:∀k j v,dF (w.setRow g (cur.toList.take (i*tj.size+off)++[u]++cur.toList.drop (i*tj.size+off+1)).toArray) (es.set i (r.set off (.av x))) g k j v->dF w es g k j v:=by
  rintro k j v ⟨q,e',rN,c',YR,m',h1,h2,h3,h4⟩;rw[setRow_heap w g cur _ e (0,0) DU]at h3;injection h3 with h3;injection h3 with h3 h3' aag;have sw:=aD h2;have V1:q.length=tj.size:=by
   rcases abg (aad h1) with h | h
   ·exact hlen q h
   rw[h,aaM];exact xj
  have key:∀p,p≠i*tj.size+off->c'[p]?=some v->cur[p]?=some v:=fun p hp h=>by
   rw[<-h3]at h;have h:(cur.toList.take (i*tj.size+off)++[u]++cur.toList.drop (i*tj.size+off+1))[p]?=some v:=by simpa using h
   have h2:=oM cur.toList [u] (i*tj.size+off) p (by simp;omega);simp only[abS]at h2;rw[h2,aaa (by omega)]at h;simpa using h
  by_cases LG:k=i
  ·subst LG;rw[ab7 hi]at h1;injection h1 with h1;subst h1;have YP:j≠off:=fun e0=>by
    subst e0;rw[ab7 (by omega)]at h2;injection h2 with h2;cases h2
   rw[ac5 (fun e=>YP e.symm)]at h2;refine⟨r,e',rN,cur,_,_,hr,h2,DU,?_⟩;rw[V1]at h4;rw[xj];exact key _ (by omega) h4
  rw[ac5 (fun e=>LG e.symm)]at h1;refine⟨q,e',rN,cur,_,_,h1,h2,DU,?_⟩;refine key _ ?_ h4;rw[V1];intro he;rcases aa4 LG with h | h
  ·have:=abf tj.size (adm h);rw[aa3]at this;omega
  have:=abf tj.size (adm h);rw[aa3]at this;omega
 refine⟨cur,DU,by omega,?_⟩;refine sim.Cl hC id hL (by rw[az];trivial) _ (fun e' h=>by rw[az];exact h) _ (setRow_os w g _) (setRow_tape w g _) (setRow_output w g _) (setRow_size w g _) (fun k hk=>setRow_other w g k _ fun e=>hk (by rw[hg,e];rfl)) (fun T=>?_) (fun k hk=>?_)
 ·show aG _ _ _ _ _ (rho id)/\uZ _ _ (rho id);rw[hg];refine⟨(hS.LF hR).stored AZ DU (ys:=[.av x]) (us:=[u]) hr hle rfl (by simpa using jg) (fun y v hy=>?_) (fun j z v hz hv=>?_),?_⟩
  ·cases y with
   | av y=>exact aY.cK T hy.1
   | row e' rN=>exact aG.cK hy.1 (fun k hk=>setRow_other w g k _ (hy.2 _ _ rfl g k rfl hk)) (fun x u hu=>hu.mono T.hS T.keep)
  ·cases j with
   | zero=>simp at hz hv;subst hz hv;exact aY.cK T hx
   | succ j=>simp at hz
  exact⟨fun g' k j v b h1 h2 h3=>by
   obtain rfl:=iP.1 h1;exact hS.top _ k j v b h1 (f_ k j v h2) h3,fun g' k j k' j' v v' b h1 h2 h3 h4 h5=>by
   obtain rfl:=iP.1 h1;exact hS.dis _ k j k' j' v v' b h1 (f_ k j v h2) (f_ k' j' v' h3) h4 h5⟩
 rw[az];rcases hk with hk | ⟨cs,g',h,_⟩ | ⟨e',de,g',k',j,v,h1,h2,h3,h4⟩
 ·exact .inl hk
 ·cases h
 injection h1 with h1 tq;subst h1 tq;have we:=h2;rw[hg]at we;obtain rfl:=iP.1 we;exact .inr (.inr ⟨_,_,_,_,_,_,rfl,h2,f_ _ _ _ h3,h4⟩)
theorem LH{A:cD}{o:Oper}(t:TypeId)(x y:Operand)(aK:o.op=.store t x y):iE A o:=by
 intro V L S rho s a w K next Q hC sim hV hd hq hn hnext
 simp only[bV,aK]at hq;have hx:=bp sim x fun j hj=>hV j (by simp[aK,Op.operands,hj]);have hy:=bp sim y fun j hj=>hV j (by simp[aK,Op.operands,hj]);split at hq
 ·exact hq.elim
 rename_i ti hT;have fK:=hC.iq t ti hT;split at hq
 ·rename_i id off Rz;rw[Rz]at hx;split at hq
  ·rename_i cs aN;obtain⟨hL,g,hg,hv⟩:=hx.h_ (by rw[aN];trivial);have main:∀(S2:Nat->Prop) (s2:AS) (mZ:List AV) (ws:List AV),b7 A V L S2 rho s2 a w->s2.h id=.box cs->(a.eval y).cells.size=ti.size->ws.length=ti.size->off+ti.size<=cs.length->(∀u∈(a.eval y).cells.toList,u.oneCell'=true)->
     (∀(j:Nat) z u,ws[j]?=some z->(a.eval y).cells[j]?=some u->aY S2 w A.C.P L rho s2.h z u)->mZ.length=cs.length->(∀j,mZ[j]?=if off<=j/\j<off+ws.length then ws[j-off]? else cs[j]?)->
     ∃w',(execOp a.eval o).run A.C.P w=.ok .skip w'/\b7 A V L S2 rho ⟨s2.t,aT s2.h id (.box mZ)⟩ a w':=by
    intro S2 s2 mZ ws bu oE hsz WI hle jg hcells hlen Cm;have hh:=bu.hp id hL;rw[oE]at hh;obtain⟨g',ty,c,k1,k2,k3,k4⟩:=hh;rw[hg]at k1;injection k1 with k1;injection k1 with k1;injection k1 with k1;subst k1;have hrun:=qe (w:=w) fK g off ty c (a.eval y) k2 hsz (by omega) jg;refine⟨_,oN aK (by rw[hv];exact hrun),?_⟩;refine bu.write hC id hL (by rw[oE];trivial) (.box mZ) (fun _ h=>by cases h) _ (by simp) (by simp) (by simp) (by simp) (fun k hk=>setRow_other w g k _ fun e=>hk (by rw[hg,e];rfl)) fun T=>?_;have je:(a.eval y).cells.toList.length=ti.size:=by simpa using hsz
    refine⟨g,ty,_,hg,setRow_heap w g c _ ty (0,0) k2,by simp[je];omega,fun j z u hj hu=>?_⟩;have qa:(c.toList.take off++(a.eval y).cells.toList++c.toList.drop (off+(a.eval y).cells.toList.length))[j]?=some u:=by simpa using hu
    rw[oM _ _ _ _ (by rw[je];simpa [k3] using hle)]at qa;rw[Cm j]at hj;rw[je]at qa;rw[WI]at hj;split at hj
    ·rename_i s_;rw[aap s_]at qa;have WJ:(a.eval y).cells[j-off]?=some u:=by simpa using qa
     exact⟨jg u (aad qa),(hcells _ z u hj WJ).cK T⟩
    rename_i s_;rw[aaa s_]at qa;have WJ:c[j]?=some u:=by simpa using qa
    obtain⟨h5,h6⟩:=k4 _ _ _ hj WJ;exact⟨h5,h6.cK T⟩
   split at hq
   ·rename_i wb;obtain⟨yv,fz,S2,hq,bu,hrep,xC,hF,DI⟩:=ir hC sim (pY.refl s.h) hy hq;split at hq
    ·rename_i ys;split at hq
     ·rename_i kD;simp only[aaZ]at kD;obtain⟨⟨e1,e2⟩,e3⟩:=kD;have e1:=hZ e1;have e2:=kO e2;obtain⟨vs,LI,h1,h2,h3⟩:=hrep.su;have je:(a.eval y).cells=vs:=by rw[LI];rfl
      obtain⟨w',hrun,aeI⟩:=main S2 _ (setCells cs off (ys.map Tp)) (ys.map Tp) bu (by simp only;rw[l9 e3];exact aN) (by rw[je];omega) (by simpa using e1) e2 (by rw[je];exact h2)
       (fun j z u hj hu=>by
        rw[je]at hu;rw[aak]at hj;obtain⟨z',hz,rfl⟩:=acq.1 hj;exact xy (h3 j z' u hz hu)) (cW _ _ _) (fun j=>d_ _ _ _ _ (by simpa [e1] using e2))
      refine qc hrun (hnext _ _ _ S2 rho _ _ hq ?_);have:=aeI.value o.dst hd .junk undef (.junk _);simp only[cy,app];exact this
     exact hq.elim
    exact hq.elim
   rename_i wb;split at hq
   ·rename_i kD;simp only[aaZ]at kD;obtain⟨⟨e1,e2⟩,e3⟩:=kD;have e1:=kO e1;have e2:=hZ e2;have h1:=q8 sim e3 hy;have je:=cells_one h1;obtain⟨w',hrun,aeI⟩:=main S s (cs.set off (ev s.t y)) [ev s.t y] sim aN (by rw[je,e2];rfl) (by rw[e2];rfl) (by omega) (by rw[je];simpa using h1)
     (fun j z u hj hu=>by
      rw[je]at hu;cases j with
      | zero=>simp at hj hu;subst hj hu;exact hy
      | succ j=>simp at hj) (by simp) (fun j=>OI _ _ _ _ (by omega))
    refine qc hrun (hnext _ _ _ S rho _ _ hq ?_);exact aeI.value o.dst hd .junk undef (.junk _)
   exact hq.elim
  exact hq.elim
 ·rename_i id i off Rz;rw[Rz]at hx;split at hq
  ·rename_i e es az;obtain⟨hL,g,n,c,tj,hg,AZ,hv⟩:=hx.x_ az;obtain⟨r,hr,hq⟩:=hq;obtain⟨yv,fz,S2,hq,bu,hrep,xC,hF,DI⟩:=ir hC sim (pY.refl s.h) hy hq;split at hq
   ·rename_i ys Ij;split at hq
    ·rename_i kD;simp only[aaZ]at kD;obtain⟨⟨e1,e2⟩,e3⟩:=kD;have e1:=hZ e1;have e2:=kO e2;obtain⟨WK,jg,hcells⟩:=wc Ij hrep;have oE:(app s.h fz) id=.row e es:=by rw[l9 e3];exact az
     have hh:=bu.hp id hL;have hh:eK S2 w A.C.P L rho (app s.h fz) id ((app s.h fz) id):=hh;rw[oE]at hh;obtain⟨ie,xs,k1,k2,k3,k4,k5,k6⟩:=hh;rw[AZ]at k1;injection k1 with k1;subst k1;rw[hg]at k3;rcases k3.2 with⟨k7,_⟩ | ⟨g',cap,cur,k7,_,k8,k9,V0,Ry,TS⟩
     ·cases k7
     injection k7 with k7 kn kc;injection k7 with k7;injection k7 with k7;subst k7 kn kc;have hi:=aD hr;have xj:=k4 r (aad hr);have TU:i*tj.size+tj.size<=es.length*tj.size:=by rw[<-aa3];exact abf _ hi
     have TV:es.length*tj.size<=cur.size:=by rw[Ry];exact abf _ k9
     have je:(a.eval y).cells.toList.length=ti.size:=by simp;omega
     have hrun:=qe (w:=w) fK g (i*tj.size+off) e cur (a.eval y) k8 (by omega) (by omega) jg;refine qc (oN aK (by rw[hv];exact hrun)) (hnext _ _ _ S2 rho _ _ hq ?_);have aeI:b7 A V L S2 rho ⟨s.t,aT (app s.h fz) id (.row e (es.set i (setCells r off ys)))⟩ a (w.setRow g (cur.toList.take (i*tj.size+off)++(a.eval y).cells.toList++cur.toList.drop (i*tj.size+off+(a.eval y).cells.toList.length)).toArray):=by
      refine bu.write hC id hL (by show (app s.h fz id).live;rw[oE];trivial) (.row e (es.set i (setCells r off ys))) (fun e' h=>by show (app s.h fz id).oG=_;rw[oE];exact h) _ (setRow_os w g _) (setRow_tape w g _) (setRow_output w g _) (setRow_size w g _)
       (fun k hk=>setRow_other w g k _ fun e=>hk (by rw[hg,e];rfl)) (fun T=>?_)
      show aG _ _ _ _ _ (rho id);rw[hg];have Qr:xs.length=es.length*tj.size:=k3.1;have DU:∀(j:Nat) u,xs[j]?=some u->cur.toList[j]?=some u:=fun j u hj=>by
       rw[<-TS]at hj;rw[aa7]at hj;split at hj
       ·exact hj
       cases hj
      have Jv:=fun j=>oM cur.toList (a.eval y).cells.toList (i*tj.size+off) j (by rw[je];simp;omega);have OJ:=fun j=>d_ (a.eval y).cells.toList xs (i*tj.size+off) j (by rw[je,Qr];omega);refine⟨tj,setCells xs (i*tj.size+off) (a.eval y).cells.toList,AZ,k2,⟨by rw[cW,Qr,aaM],.inr ⟨g,c,_,by rw[aaM],aaj _,setRow_heap w g cur _ e (0,0) k8,by rw[aaM];exact k9,V0,?_,?_⟩⟩,?_,?_,?_⟩
      ·simp only[aaf,acv,aat,aaN,abj];rw[Ry]at *;simp at je;omega
      ·apply ach;intro j;rw[aa7];simp only[aaM];split
       ·rename_i hj;rw[Jv,OJ];split
        ·rfl
        rw[<-TS,aa0 hj]
       rename_i hj;rw[abI];rw[cW,Qr];omega
      ·intro q Om;rcases abg Om with h | h
       ·exact k4 q h
       rw[h,cW];exact xj
      ·intro u hu;obtain⟨j,hj⟩:=ab8.1 hu;rw[OJ]at hj;split at hj
       ·exact jg u (aad hj)
       exact k5 u (aad hj)
      intro a' q j z va hz;have V1:q.length=tj.size:=by
       rcases abg (aad va) with h | h
       ·exact k4 q h
       rw[h,cW];exact xj
      have sw:=aD hz;rw[OJ];by_cases LD:a'=i
      ·subst LD;rw[ab7 hi]at va;injection va with va;subst va;rw[d_ _ _ _ _ (by omega)]at hz;split at hz
       ·rename_i s_;rw[aap (by omega),show a'*tj.size+j-(a'*tj.size+off)=j-off by omega];obtain⟨u,hu⟩:=jG WK.symm (aD hz);exact⟨u,by simpa using hu,(hcells _ z u hz hu).mono T.hS T.keep⟩
       rename_i s_;rw[aaa (by omega)];obtain⟨u,hu,iO⟩:=k6 _ _ _ _ hr hz;exact⟨u,hu,iO.mono T.hS T.keep⟩
      rw[ac5 (fun e=>LD e.symm)]at va;have b8:¬(i*tj.size+off<=a'*tj.size+j/\a'*tj.size+j<i*tj.size+off+(a.eval y).cells.toList.length):=by
       rintro⟨h1,h2⟩;rcases aa4 LD with h | h
       ·have:=abf tj.size (adm h);rw[aa3]at this;omega
       have:=abf tj.size (adm h);rw[aa3]at this;omega
      rw[aaa b8];obtain⟨u,hu,iO⟩:=k6 _ _ _ _ va hz;exact⟨u,hu,iO.mono T.hS T.keep⟩
     have:=aeI.value o.dst hd .junk undef (.junk _);simp only[cy,app];exact this
    exact hq.elim
   exact hq.elim
  ·rename_i e es az;obtain⟨hL,g,n,c,tj,hg,AZ,hv⟩:=hx.tr az;obtain⟨r,hr,hq⟩:=hq;split at hq
   ·exact hq.elim
   split at hq
   ·rename_i kD;simp only[aaZ]at kD;obtain⟨⟨e1,e2⟩,e3⟩:=kD;have e1:=kO e1;have e2:=hZ e2;have h1:=q8 sim e3 hy;have je:=cells_one h1;obtain⟨cur,DU,hsz,aeI⟩:=sim.WH hC hL az hg AZ hr e1 h1 hy;have hrun:=qe (w:=w) fK g (i*tj.size+off) e cur (a.eval y) DU (by rw[je,e2];rfl) (by omega) (by rw[je];simpa using h1);rw[je]at hrun;refine qc (oN aK (by rw[hv];exact hrun)) (hnext _ _ _ S rho _ _ hq ?_);exact aeI.value o.dst hd .junk undef (.junk _)
   exact hq.elim
  exact hq.elim
 exact hq.elim
end Go.AM
namespace Go.AM
open Go.RowKit
variable {A:cD}
theorem RA{o:Oper}(c:Call)(aK:o.op=.call c)(hc:c.callee=.builtin .len):iE A o:=by
 intro V L S rho s a w K next Q hC sim hV hd hq _ hnext
 obtain⟨callee,args,argTypes⟩:=c;simp only at hc;subst hc;simp only[bV,aK,aeC,fy]at hq;split at hq
 ·rename_i x t hargs LJ;have hx:=bp sim x fun j hj=>hV j (by simp[aK,Op.operands,Call.operands,hj];rw[<-hj];exact aal.1 (by rw[hargs];simp));have e1:args=#[x]:=by rw[<-aaY (xs:=args),hargs]
  have e2:argTypes=#[t]:=by rw[<-aaY (xs:=argTypes),LJ]
  subst e1 e2;split at hq
  ·rename_i size bytes zero eq hT;have fK:=(hC.iq t _ hT).under;simp only at fK;split at hq
   ·rename_i st xl;rw[xl]at hx;exact aM sim hd hnext hq (.p _ _ (.im _)) (by simp[execOp,aK,resolve,invoke,builtin,hx.bS,Builtin.len_,run_underlying fK,goInt])
   exact hq.elim
  ·rename_i e size bytes zero eq hT;have fK:=(hC.iq t _ hT).under;simp only at fK;have fin:∀(es:List (List PV)) ad c,K (.p (.im (.int .i64 es.length))) [] none->a.eval x=.slice ad es.length c->o.wp A.C.P a w next Q:=fun es ad c hq he=>
    aM sim hd hnext hq (.p _ _ (.im _)) (by simp[execOp,aK,resolve,invoke,builtin,he,Builtin.len_,run_underlying fK,goInt])
   split at hq
   ·rename_i m hm;unfold hlen at hm;split at hm
    ·rename_i id DH;rw[DH]at hx;split at hm
     ·rename_i e' es az;injection hm with hm;subst hm;obtain⟨hL,hv⟩:=hx.cH (by rw[az];trivial);have hh:=sim.hp id hL;rw[az]at hh;obtain⟨⟨i,xs,_,_,h3,_⟩,_⟩:=hh;obtain⟨ad,c,WL⟩:∃ad c,rho id=.slice ad es.length c:=by
       rcases h3.2 with⟨h4,h5⟩ | ⟨g,cap,cur,h4,_⟩
       ·exact⟨none,0,by rw[h4,h5]⟩
       exact⟨_,cap,h4⟩
      exact aM sim hd hnext hq (.p _ _ (.im _)) (by simp[execOp,aK,resolve,invoke,builtin,hv,WL,Builtin.len_,run_underlying fK,goInt])
     cases hm
    ·rename_i id lo hi DH;rw[DH]at hx;split at hm
     ·rename_i e' es az;injection hm with hm;subst hm;obtain⟨_,n,cp,ad,WG,_,_,_,_,_,hval⟩:=hx.Cj az;exact aM sim hd hnext hq (.p _ _ (.im _)) (by simp[execOp,aK,resolve,invoke,builtin,hval,Builtin.len_,run_underlying fK,goInt])
     cases hm
    cases hm
   unfold gH at hq;split at hq
   ·rename_i es DH;rw[DH]at hx;obtain⟨ad,c,hv,_⟩:=hx.eR.oL;exact fin es ad c hq hv
   ·rename_i DH;rw[DH]at hx;have:a.eval x=.slice none 0 0:=by cases h:a.eval x<;>rw[h]at hx<;>cases hx;rfl
    exact fin [] none 0 hq this
   ·rename_i id DH;rw[DH]at hx;split at hq
    ·rename_i e' es az;obtain⟨hL,hv⟩:=hx.cH (by rw[az];trivial);have hh:=sim.hp id hL;rw[az]at hh;obtain⟨i,xs,_,_,h3,_⟩:=hh;rcases h3.2 with⟨h4,h5⟩ | ⟨g,cap,cur,h4,_⟩
     ·exact fin es none 0 hq (by rw[hv,h4,h5])
     exact fin es _ cap hq (by rw[hv,h4])
    ·rename_i es az;obtain⟨hL,hv⟩:=hx.cH (by rw[az];trivial);have hh:=sim.hp id hL;rw[az]at hh;obtain⟨ad,c,h4,_⟩:=aO.oL hh;exact fin es ad c hq (by rw[hv,h4])
    exact hq.elim
   exact hq.elim
  ·rename_i kt et size bytes zero eq hT;have fK:=(hC.iq t _ hT).under;simp only at fK;split at hq
   case h_2=>exact hq.elim
   rename_i id hid;split at hq
   case h_2=>exact hq.elim
   rename_i mk es hm;rw[hid]at hx;obtain⟨hL,hv⟩:=hx.cH (by rw[hm];trivial);have hh:=sim.hp id hL;rw[hm]at hh;obtain⟨g,ms,clock,h1,h2,h3,_⟩:=hh;exact aM sim hd hnext hq (.p _ _ (.im _)) (by simp[execOp,aK,resolve,invoke,builtin,hv,h1,Builtin.len_,run_underlying fK,abW h2,h3,goInt])
  exact hq.elim
 exact hq.elim
theorem RB{o:Oper}(c:Call)(aK:o.op=.call c)(hc:c.callee=.builtin .min):iE A o:=by
 intro V L S rho s a w K next Q hC sim hV hd hq _ hnext
 obtain⟨callee,args,argTypes⟩:=c;simp only at hc;subst hc;simp only[bV,aK,aeC,fy]at hq;split at hq
 ·rename_i x y hargs;have hx:=bp sim x fun j hj=>hV j (by simp[aK,Op.operands,Call.operands,hj];rw[<-hj];exact aal.1 (by rw[hargs];simp));have hy:=bp sim y fun j hj=>hV j (by simp[aK,Op.operands,Call.operands,hj];rw[<-hj];exact aal.1 (by rw[hargs];simp));have e1:args=#[x,y]:=by rw[<-aaY (xs:=args),hargs]
  subst e1;split at hq
  ·rename_i k m k' n h1 h2;rw[h1]at hx;rw[h2]at hy;exact aM sim hd hnext hq (.p _ _ (.im _)) (by
    simp[execOp,aK,resolve,invoke,builtin,hx.bS,hy.bS,Builtin.min_,Builtin.min2];rw[Int.min_def];split<;>split<;>omega)
  exact hq.elim
 exact hq.elim
variable {w:World}
theorem DV{P:Program}(k k':IntKind)(m n:Int):(Builtin.max2 (.int k m) (.int k' n)).run P w=.ok (.int k (max m n)) w:=by
 simp only[Builtin.max2,aa6];rw[ac6];by_cases h:n>m
 ·rw[aap h,aap (by omega)]
 rw[aaa h];by_cases h2:m<=n
 ·rw[aap h2,show m=n by omega]
 rw[aaa h2]
theorem RC{o:Oper}(c:Call)(aK:o.op=.call c)(hc:c.callee=.builtin .max):iE A o:=by
 intro V L S rho s a w K next Q hC sim hV hd hq _ hnext
 obtain⟨callee,args,argTypes⟩:=c;simp only at hc;subst hc;simp only[bV,aK,aeC,fy]at hq;split at hq
 ·rename_i x y hargs;have hx:=bp sim x fun j hj=>hV j (by simp[aK,Op.operands,Call.operands,hj];rw[<-hj];exact aal.1 (by rw[hargs];simp));have hy:=bp sim y fun j hj=>hV j (by simp[aK,Op.operands,Call.operands,hj];rw[<-hj];exact aal.1 (by rw[hargs];simp));have e1:args=#[x,y]:=by rw[<-aaY (xs:=args),hargs]
  subst e1;split at hq
  ·rename_i k m k' n h1 h2;rw[h1]at hx;rw[h2]at hy;exact aM sim hd hnext hq (.p _ _ (.im _)) (by
    simp[execOp,aK,resolve,invoke,builtin,hx.bS,hy.bS,Builtin.max_,Builtin.max2];rw[ac6];split<;>split<;>omega)
  exact hq.elim
 ·rename_i x y z hargs;have hx:=bp sim x fun j hj=>hV j (by simp[aK,Op.operands,Call.operands,hj];rw[<-hj];exact aal.1 (by rw[hargs];simp));have hy:=bp sim y fun j hj=>hV j (by simp[aK,Op.operands,Call.operands,hj];rw[<-hj];exact aal.1 (by rw[hargs];simp));have hz:=bp sim z fun j hj=>hV j (by simp[aK,Op.operands,Call.operands,hj];rw[<-hj];exact aal.1 (by rw[hargs];simp));have e1:args=#[x,y,z]:=by rw[<-aaY (xs:=args),hargs]
  subst e1;split at hq
  ·rename_i k0 m0 k1 m1 k2 m2 g0 g1 g2;rw[g0]at hx;rw[g1]at hy;rw[g2]at hz;exact aM sim hd hnext hq (.p _ _ (.im _)) (by
    simp[execOp,aK,resolve,invoke,builtin,hx.bS,hy.bS,hz.bS,Builtin.max_,DV])
  exact hq.elim
 ·rename_i x y z u v hargs;have hx:=bp sim x fun j hj=>hV j (by simp[aK,Op.operands,Call.operands,hj];rw[<-hj];exact aal.1 (by rw[hargs];simp));have hy:=bp sim y fun j hj=>hV j (by simp[aK,Op.operands,Call.operands,hj];rw[<-hj];exact aal.1 (by rw[hargs];simp));have hz:=bp sim z fun j hj=>hV j (by simp[aK,Op.operands,Call.operands,hj];rw[<-hj];exact aal.1 (by rw[hargs];simp));have hu:=bp sim u fun j hj=>hV j (by simp[aK,Op.operands,Call.operands,hj];rw[<-hj];exact aal.1 (by rw[hargs];simp));have hv:=bp sim v fun j hj=>hV j (by simp[aK,Op.operands,Call.operands,hj];rw[<-hj];exact aal.1 (by rw[hargs];simp));have e1:args=#[x,y,z,u,v]:=by rw[<-aaY (xs:=args),hargs]
  subst e1;split at hq
  ·rename_i k0 m0 k1 m1 k2 m2 k3 m3 k4 m4 g0 g1 g2 g3 g4;rw[g0]at hx;rw[g1]at hy;rw[g2]at hz;rw[g3]at hu;rw[g4]at hv;exact aM sim hd hnext hq (.p _ _ (.im _)) (by
    simp[execOp,aK,resolve,invoke,builtin,hx.bS,hy.bS,hz.bS,hu.bS,hv.bS,Builtin.max_,DV])
  exact hq.elim
 exact hq.elim
variable {V L:Nat->Prop} {rho:Nat->Value} {s:AS}
theorem A3{o:Oper}{S:Nat->Prop}{a:Act}{K:KK}{next:Act->World->Prop}{Q:Exit->Act->World->Prop}{fz:List (Nat×AB)}(sim:b7 A V L S rho ⟨s.t,app s.h fz⟩ a w)(hd:∀d,o.dst=some d->d<A.n)
  (hnext:∀v eff new S' rho' a' w',K v eff new->b7 A (xY V o.dst) (Cg L new (o.dst.getD 0)) S' rho' ⟨fx s.t o.dst v,app s.h eff⟩ a' w'->next a' w') {x:AV} {v:Value} (hq:K x fz none) (hv:aY S w A.C.P L rho (app s.h fz) x v)
  (hr:(execOp a.eval o).run A.C.P w=.ok (.value v) w):o.wp A.C.P a w next Q:=
 dW hr (hnext _ _ _ _ _ _ _ hq (sim.value o.dst hd x v hv))
variable {es:List (List PV)}
theorem aO.OL{S:Nat->Prop}{ad:Option Addr}{c l h sz:Nat}(hx:aO S w (.sl es) (.slice ad es.length c))(hl:l<=h)(hh:h<=es.length)(hc:es.length<=c)
  (hk:∀b off k,ad=some ⟨b,off,none⟩->(∀e∈es,e.length=k)->l<h->k=sz):aO S w (.sl ((es.take h).drop l)) (.slice (if c=l then ad else ad.map (·.add (l*sz))) (h-l) (c-l)):=by
 have hlen:((es.take h).drop l).length=h-l:=by simp;omega
 by_cases he:h-l=0
 ·have:(es.take h).drop l=[]:=adl (by omega);rw[this,he];exact .nil _ _
 obtain⟨ad',c',hv,hle,b8⟩:=hx.oL;injection hv with e1 e2 e3;subst e1 e3;obtain⟨b,off,k,e4,hb,Qt,hcell⟩:=b8 (by intro e;rw[e]at hh;simp at hh;omega);have Ts:=hk b off k e4 Qt (by omega);subst e4;rw[aaa (by omega)];show aO S w _ (.slice (some (Addr.add ⟨b,off,none⟩ (l*sz))) (h-l) (c-l));rw[aaJ,<-hlen];have Cm:∀(i:Nat) e,((es.take h).drop l)[i]?=some e->es[l+i]?=some e:=by
  intro i e hi;rw[aas,aa7]at hi;split at hi
  ·exact hi
  cases hi
 refine .sl _ k b (off+l*sz) _ (fun i j=>(w.cell? ⟨b,off+l*sz+i*k+j,none⟩).getD undef) (by rw[hlen];omega) hb (fun e he=>Qt e (acM (abq he))) (fun i e j x h1 h2=>?_) fun i e j x h1 h2=>?_
 ·obtain⟨u,h3,h4,h5⟩:=hcell _ e j x (Cm i e h1) h2;have:off+l*sz+i*k+j=off+(l+i)*k+j:=by rw[<-Ts,abR];omega
  rw[this,h3];exact⟨rfl,h4⟩
 obtain⟨u,h3,h4,h5⟩:=hcell _ e j x (Cm i e h1) h2;have:off+l*sz+i*k+j=off+(l+i)*k+j:=by rw[<-Ts,abR];omega
 rw[this,h3];exact h5
theorem gv{P:Program}(k:IntKind)(i:Int)(y:Nat)(code:BoundsCode)(h:0<=i/\i<=y):(Instr.sliceBound (.int k i) y code).run P w=.ok i.toNat w:=by
 simp[Instr.sliceBound,asIntOf,h.1,h.2]
theorem ya{S:Nat->Prop}{a:Act}(_:b7 A V L S rho s a w)(lo hi:Option Operand)(Ik:∀y,lo=some y->aY S w A.C.P L rho s.h (ev s.t y) (a.eval y))(Il:∀y,hi=some y->aY S w A.C.P L rho s.h (ev s.t y) (a.eval y)):
  ∀(isSlice:Bool) (len cap:Nat) (k:IntKind) (m:Int) (k':IntKind) (n:Int),len<=cap->(match lo with | some y=>ev s.t y | none=>.p (.im (.int .i64 0)))=.p (.im (.int k m))->(match hi with | some y=>ev s.t y | none=>.p (.im (.int .i64 len)))=.p (.im (.int k' n))->0<=m->m<=n->n<=len ->
   (Instr.sliceBounds isSlice len cap (lo.map a.eval) (hi.map a.eval) none).run A.C.P w=.ok (m.toNat,n.toNat,cap) w:=by
  intro isSlice len cap k m k' n hlc h1 h2 h3 h4 h5;have e2:∀y,hi=some y->a.eval y=.int k' n:=fun y hy=>by
   have:=Il y hy;subst hy;rw[show ev s.t y=_ from h2]at this;exact this.bS
  have e1:∀y,lo=some y->a.eval y=.int k m:=fun y hy=>by
   have:=Ik y hy;subst hy;rw[show ev s.t y=_ from h1]at this;exact this.bS
  have nb:((n.toNat:Nat):Int)=n:=by omega
  cases hi with
  | some yh=>
   have e2:=e2 yh rfl;cases lo with
   | some yl=>
    have e1:=e1 yl rfl;cases isSlice<;>simp[Instr.sliceBounds,e1,e2,gv k' n cap _ ⟨by omega,by omega⟩,gv k m n.toNat _ ⟨h3,by omega⟩]
   | none=>
    have tq:m=0:=by simp at h1;exact h1.2.symm
    subst tq;cases isSlice<;>simp[Instr.sliceBounds,e2,gv k' n cap _ ⟨by omega,by omega⟩]
  | none=>
   have we:n=len:=by simp at h2;exact h2.2.symm
   subst we;cases lo with
   | some yl=>
    have e1:=e1 yl rfl;cases isSlice<;>simp[Instr.sliceBounds,e1,gv k m len _ ⟨h3,by omega⟩]
   | none=>
    have tq:m=0:=by simp at h1;exact h1.2.symm
    subst tq;cases isSlice<;>simp[Instr.sliceBounds]
theorem JB{o:Oper}(t:TypeId)(x:Operand)(lo hi:Option Operand)(aK:o.op=.slice t x lo hi none){S:Nat->Prop}{a:Act}{K:KK}{next:Act->World->Prop}{Q:Exit->Act->World->Prop}(hC:bI A.C)(sim:b7 A V L S rho s a w)
  (hV:∀j,(.tmp j)∈o.op.operands->V j) (hd:∀d,o.dst=some d->d<A.n) (hq:gm A.C (ev s.t) s.h t x lo hi K)
  (hnext:∀v eff new S' rho' a' w',K v eff new->b7 A (xY V o.dst) (Cg L new (o.dst.getD 0)) S' rho' ⟨fx s.t o.dst v,app s.h eff⟩ a' w'->next a' w'):o.wp A.C.P a w next Q:=by
 simp only[gm]at hq;have hx:=bp sim x fun j hj=>hV j (by simp[aK,Op.operands,hj]);have Ik:∀y,lo=some y->aY S w A.C.P L rho s.h (ev s.t y) (a.eval y):=fun y hy=>bp sim y fun j hj=>hV j (by simp[aK,Op.operands,hj,hy]);have Il:∀y,hi=some y->aY S w A.C.P L rho s.h (ev s.t y) (a.eval y):=fun y hy=>bp sim y fun j hj=>hV j (by simp[aK,Op.operands,hj,hy]);have bounds:∀(isSlice:Bool) (len cap:Nat) (k:IntKind) (m:Int) (k':IntKind) (n:Int),len<=cap->(match lo with | some y=>ev s.t y | none=>.p (.im (.int .i64 0)))=.p (.im (.int k m))->(match hi with | some y=>ev s.t y | none=>.p (.im (.int .i64 len)))=.p (.im (.int k' n))->0<=m->m<=n->n<=len ->
   (Instr.sliceBounds isSlice len cap (lo.map a.eval) (hi.map a.eval) none).run A.C.P w=.ok (m.toNat,n.toNat,cap) w:=by
  exact ya sim lo hi Ik Il
 split at hq
 ·rename_i size bytes zero eq hT;have fK:=(hC.iq t _ hT).under;simp only at fK;split at hq
  ·rename_i st xl;rw[xl]at hx;split at hq
   ·rename_i k m k' n h1 h2;obtain⟨⟨h3,h4,h5⟩,hq⟩:=hq;have hb:=bounds false st.size st.size k m k' n (aam _) h1 h2 h3 h4 h5;exact aM sim hd hnext hq (.p _ _ (.im _)) (by simp[execOp,aK,Instr.sliceAt,Instr.slice,hx.bS,run_underlying fK,hb])
   exact hq.elim
  exact hq.elim
 ·rename_i e size bytes zero eq hT;have fK:=(hC.iq t _ hT).under;simp only at fK;split at hq
  ·exact hq.elim
  rename_i te u9;obtain⟨ie,ze,pO,Ao,_⟩:=(hC.iq e te u9).info;obtain⟨y,fz,S2,hq,bu,hrep,xC,hF,DI⟩:=ir hC sim (pY.refl s.h) hx hq;split at hq
  ·rename_i es;split at hq
   ·rename_i k m k' n h1 h2;obtain⟨⟨h3,h4,h5,h6⟩,hq⟩:=hq;obtain⟨ad,c,hv,hle,_⟩:=hrep.oL;have hb:=bounds true es.length c k m k' n hle h1 h2 h3 h4 h5;rw[hv]at hrep;refine A3 bu hd hnext hq (.p _ _ (hrep.OL (sz:=te.size) (l:=m.toNat) (h:=n.toNat) (by omega) (by omega) hle fun b off kk V2 l_ eF=>?_)) ?_
    ·have hpos:0<es.length:=by omega
     have hm:es[0]∈es:=adn _;rw[<-l_ _ hm,h6 _ hm]
    simp[execOp,aK,Instr.sliceAt,Instr.slice,hv,run_underlying fK,hb,Go.sizeOf,typeInfo,pO,Ao]
   exact hq.elim
  exact hq.elim
 exact hq.elim
structure Flat(S:Nat->Prop)(w:World)(k:Nat)(es:List (List PV))(xs:List Value):Prop where
 len:xs.length=es.length*k
 row:∀r∈es,r.length=k
 one:∀u∈xs,u.oneCell'=true
 rep:∀(i:Nat) r (j:Nat) x,es[i]?=some r->r[j]?=some x->∃u,xs[i*k+j]?=some u/\aO S w x u
theorem Flat.mono{S S':Nat->Prop}{w':World}{k:Nat}{xs:List Value}(h:Flat S w k es xs)(hS:∀b,S b->S' b)(hw:∀b,S b->w'.heap[b]?=w.heap[b]?):Flat S' w' k es xs:=
 ⟨h.len,h.row,h.one,fun i r j x h1 h2=>by obtain⟨u,h3,h4⟩:=h.rep i r j x h1 h2;exact⟨u,h3,h4.mono hS hw⟩⟩
theorem Flat.app{S:Nat->Prop}{k:Nat}{fs:List (List PV)}{xs ys:List Value}(h:Flat S w k es xs)(g:Flat S w k fs ys):Flat S w k (es++fs) (xs++ys):=by
 refine⟨by rw[acv,acv,h.len,g.len,abR],fun r hr=>(abi.1 hr).elim (h.row r) (g.row r),fun u hu=>(abi.1 hu).elim (h.one u) (g.one u),fun i r j x h1 h2=>?_⟩;by_cases hi:i<es.length
 ·rw[aaE hi]at h1;obtain⟨u,h3,h4⟩:=h.rep i r j x h1 h2;exact⟨u,by rw[aaE (aD h3)];exact h3,h4⟩
 rw[acu (by omega)]at h1;obtain⟨u,h3,h4⟩:=g.rep _ r j x h1 h2;refine⟨u,?_,h4⟩;have hm:es.length*k<=i*k:=abf _ (by omega);rw[acu (by rw[h.len];omega),h.len];rw[Nat.sub_mul]at h3;rw[<-h3];congr 1;omega
theorem Flat.set{S:Nat->Prop}{k:Nat}{xs:List Value}(h:Flat S w k es xs)(i:Nat)(hi:i<es.length)(ys:List PV)(vs:List Value)(hy:ys.length=k)(hv:vs.length=k)(h1:∀u∈vs,u.oneCell'=true)(hr:∀(j:Nat) y u,ys[j]?=some y->vs[j]?=some u->aO S w y u):
  Flat S w k (es.set i ys) (setCells xs (i*k) vs):=by
 have hb:i*k+k<=xs.length:=by rw[h.len,<-aa3];exact abf _ hi
 have hg:=fun j=>d_ vs xs (i*k) j (by rw[hv];exact hb);refine⟨by rw[cW,aaM,h.len],fun r hr=>?_,fun u hu=>?_,fun a r j x ha hj=>?_⟩
 ·rcases abg hr with h' | h'
  ·exact h.row r h'
  rw[h'];exact hy
 ·obtain⟨j,hj⟩:=ab8.1 hu;rw[hg]at hj;split at hj
  ·exact h1 u (aad hj)
  exact h.one u (aad hj)
 have sw:=aD hj;rw[hg];by_cases LD:a=i
 ·subst LD;rw[ab7 hi]at ha;injection ha with ha;subst ha;rw[aap (by omega),show a*k+j-a*k=j by omega];have:j<vs.length:=by omega
  exact⟨_,acg this,hr j x _ hj (acg this)⟩
 rw[ac5 (fun e=>LD e.symm)]at ha;have xj:=h.row r (aad ha);rw[aaa]
 ·exact h.rep a r j x ha hj
 rintro⟨h2,h3⟩;rcases aa4 LD with h4 | h4
 ·have:=abf k (adm h4);rw[aa3]at this;omega
 have:=abf k (adm h4);rw[aa3]at this;omega
theorem Flat.zero(bb:Bool)(S:Nat->Prop)(w:World){P:Program}{t:TypeId}{ti:TI}(h:nV P t ti)(hk:0<ti.size)(n:Nat):Flat S w ti.size (List.replicate n (ti.zero.map (To bb))) ((Array.range (n*ti.size)).map (ti.zero.toArray[· % ti.zero.toArray.size]!)).toList:=by
 have hz:=h.Lx;obtain⟨_,_,_,_,_,_,_,jg⟩:=h.info;have Cm:∀j,j<n*ti.size->((Array.range (n*ti.size)).map (ti.zero.toArray[· % ti.zero.toArray.size]!)).toList[j]?=ti.zero[j % ti.size]?:=by
  intro j hj;have hm:j % ti.size<ti.zero.length:=by rw[hz];exact abt _ hk
  simp[hj,hz];rw[acg hm];rfl
 refine⟨by simp,fun r hr=>by rw[ado hr,aej,hz],fun u hu=>?_,fun i r j x hi hj=>?_⟩
 ·obtain⟨j,hj⟩:=ab8.1 hu;have sw:=aD hj;rw[Cm j (by simpa using sw)]at hj;exact jg u (aad hj)
 have s_:i<n:=by have:=aD hi;simpa using this
 have hr:r=ti.zero.map (To bb):=ado (aad hi);subst hr;have sw:j<ti.size:=by have:=aD hj;rw[aej,hz]at this;exact this
 rw[aak]at hj;obtain⟨v,hv,rfl⟩:=acq.1 hj;have hb:i*ti.size+j<n*ti.size:=by
  have:=abf ti.size (adm s_);rw[aa3]at this;omega
 refine⟨v,?_,Ie bb S w v⟩;rw[Cm _ hb,Nat.mul_comm,Nat.mul_add_mod,Nat.mod_eq_of_lt sw];exact hv
variable {e:TypeId}
theorem aG.of_flat{P:Program}{S:Nat->Prop}{i:TypeInfo}{v:Value}{xs:List Value}(hi:P.info? e=some i)(hk:0<i.size)(ho:w.ownsRow 0 e i.size v es.length xs)(hf:Flat S w i.size es xs):aG P w (aO S w) e es v:=
 ⟨i,xs,hi,hk,ho,hf.row,hf.one,hf.rep⟩
theorem aG.flat{P:Program}{S:Nat->Prop}{i:TypeInfo}{v:Value}(hi:P.info? e=some i)(h:aG P w (aO S w) e es v):∃xs,0<i.size/\w.ownsRow 0 e i.size v es.length xs/\Flat S w i.size es xs:=by
 obtain⟨i',xs,h1,h2,h3,h4,h5,h6⟩:=h;rw[hi]at h1;injection h1 with h1;subst h1;exact⟨xs,h2,h3,⟨h3.1,h4,h5,h6⟩⟩
theorem aO.flat{S:Nat->Prop}{v:Value}{k:Nat}(hx:aO S w (.sl es) v)(hk:∀r∈es,r.length=k):∃ad c xs,v=.slice ad es.length c/\Flat S w k es xs/\(es≠[]->∃b off,ad=some ⟨b,off,none⟩/\∀(j:Nat) u,xs[j]?=some u->w.cell? ⟨b,off+j,none⟩=some u):=by
 obtain⟨ad,c,hv,hle,b8⟩:=hx.oL;by_cases he:es=[]
 ·subst he;exact⟨ad,c,[],hv,⟨by simp,by simp,by simp,by simp⟩,fun h=>absurd rfl h⟩
 obtain⟨b,off,k',rfl,hb,Qt,hcell⟩:=b8 he;have RD:k'=k:=by
  obtain⟨r,hr⟩:=aae _ he;rw[<-Qt r hr,hk r hr]
 subst RD;have key:∀q,q<es.length*k'->∃u,w.cell? ⟨b,off+q,none⟩=some u/\u.oneCell'=true:=by
  intro q hq;have Im:0<k':=Nat.pos_of_ne_zero fun h=>by rw[h]at hq;simp at hq
  have hi:q / k' < es.length:=(Nat.div_lt_iff_lt_mul Im).2 hq;have hj:q % k' < k':=abt _ Im;have hr:=hk _ (adn hi);obtain⟨u,h1,h2,_⟩:=hcell (q / k') _ (q % k') _ (acg hi) (acg (by omega));refine⟨u,?_,h2⟩;rw[<-h1];congr 2;have:=Nat.div_add_mod q k';rw[Nat.mul_comm]at this;omega
 refine⟨_,c,(List.range (es.length*k')).map fun q=>(w.cell? ⟨b,off+q,none⟩).getD undef,hv,⟨by simp,hk,fun u hu=>?_,fun i r j x h1 h2=>?_⟩,fun _=>⟨b,off,rfl,fun j u hj=>?_⟩⟩
 ·simp at hu;obtain⟨q,hq,rfl⟩:=hu;obtain⟨u,h1,h2⟩:=key q hq;rw[h1];exact h2
 ·obtain⟨u,h3,h4,h5⟩:=hcell i r j x h1 h2;refine⟨u,?_,h5⟩;have xD:=aD h1;have sw:=aD h2;rw[hk r (aad h1)]at sw;have oE:i*k'+j<es.length*k':=by
   have:=abf k' (adm xD);rw[aa3]at this;omega
  rw[aak,abP oE];simp only[ab6];rw[<-aaX,h3];rfl
 have sw:=aD hj;simp at sw;rw[aak,abP sw]at hj;obtain⟨u',h1,_⟩:=key j sw;simp[h1]at hj;rw[h1,hj]
def Src(S:Nat->Prop)(w:World)(es:List (List PV))(v:Value):Prop:=
 ∀k,(∀r∈es,r.length=k)->∃ad c xs,v=.slice ad es.length c/\Flat S w k es xs/\(es≠[]->∃b off,ad=some ⟨b,off,none⟩/\∀(j:Nat) u,xs[j]?=some u->w.cell? ⟨b,off+j,none⟩=some u)
theorem aG.src{P:Program}{S:Nat->Prop}{v:Value}(h:aG P w (aO S w) e es v):Src S w es v:=by
 intro k hk;obtain⟨i,xs,h1,h2,h3,h4,h5,h6⟩:=h;by_cases he:es=[]
 ·subst he;rcases h3.2 with⟨rfl,_⟩ | ⟨g,cap,cur,rfl,_⟩
  ·exact⟨none,0,[],rfl,⟨by simp,by simp,by simp,by simp⟩,fun h=>absurd rfl h⟩
  exact⟨_,cap,[],rfl,⟨by simp,by simp,by simp,by simp⟩,fun h=>absurd rfl h⟩
 have RD:k=i.size:=by
  obtain⟨r,hr⟩:=aae _ he;rw[<-hk r hr,h4 r hr]
 subst RD;rcases h3.2 with⟨_,hn⟩ | ⟨g,cap,cur,hv,_⟩
 ·exact absurd (adl hn) he
 refine⟨_,cap,xs,hv,⟨h3.1,h4,h5,h6⟩,fun _=>⟨g,0,rfl,fun j u hj=>?_⟩⟩;have:=h3.cells (g:=g) (by rw[hv];rfl) j u hj;rw[aaJ]at this;exact this
theorem Gc{S:Nat->Prop}{a:Act}(sim:b7 A V L S rho s a w){x:AV}{v:Value}(hx:aY S w A.C.P L rho s.h x v){K:List (List PV)->Prop}(hq:gH s.h x K):∃es,K es/\Src S w es v:=by
 unfold gH at hq;split at hq
 ·exact⟨_,hq,fun k hk=>hx.eR.flat hk⟩
 ·have:v=.slice none 0 0:=by cases hx;rfl
  exact⟨[],hq,fun k hk=>⟨none,0,[],this,⟨by simp,by simp,by simp,by simp⟩,fun h=>absurd rfl h⟩⟩
 ·rename_i id;split at hq
  ·rename_i e es az;obtain⟨hL,hv⟩:=hx.cH (by rw[az];trivial);have hh:=sim.hp id hL;rw[az]at hh;exact⟨es,hq,by rw[hv];exact aG.src hh⟩
  ·rename_i es az;obtain⟨hL,hv⟩:=hx.cH (by rw[az];trivial);have hh:=sim.hp id hL;rw[az]at hh;exact⟨es,hq,by rw[hv];exact fun k hk=>aO.flat hh hk⟩
  exact hq.elim
 exact hq.elim
theorem rO{P:Program}(w:World)(t ty e:TypeId)(i:TypeInfo)(z:Value)(ht:P.underlying t=some (.slice e))(hi:P.info? e=some i)(hz:i.zero=some z)(WM:z.cells.size=i.size)(hsz:0<i.size)
  (v:Value) (n:Nat) (xs:List Value) (hown:w.ownsRow 0 e i.size v n xs) (ad:Option Addr) (m c:Nat) (news:List Value) (hl:news.length=m*i.size)
  (hnews:m≠0->∃b off,ad=some ⟨b,off,none⟩/\∀(j:Nat) u,news[j]?=some u->w.cell? ⟨b,off+j,none⟩=some u) (h1:∀u∈news,u.oneCell'=true) (OM:n+m<=maxLen) (afv:(n+m)*i.bytes<=140737488355328):
  ∃v' w',(Builtin.append_ #[t,t] ty #[v,.slice ad m c]).run P w=.ok v' w'/\w'.ownsRow 0 e i.size v' (n+m) (xs++news)/\w.grownBy w' v.ownBlock/\(v'.ownBlock=v.ownBlock\/v'.ownBlock=some w.heap.size):=by
 by_cases hm:m=0
 ·subst hm;have hn:news=[]:=adl (by simpa using hl);subst hn;refine⟨v,w,?_,by simpa using hown,⟨rfl,rfl,rfl,aam _,fun _ _ _=>rfl⟩,.inl rfl⟩;have hf:(Builtin.firstCells i.size 0 (.slice ad 0 c)).run P w=.ok #[] w:=by cases ad<;>simp[Builtin.firstCells,loadCells,loadCellsFrom]
  rcases hown.2 with⟨rfl,rfl⟩ | ⟨g,cap,cur,rfl,_,_,Qq,_⟩
  ·simp[Builtin.append_,run_underlying ht,sizeOf,typeInfo,hi,Builtin.lenOf,hf]
  simp[Builtin.append_,run_underlying ht,sizeOf,typeInfo,hi,Builtin.lenOf,Qq,hf,storeCells]
 obtain⟨b,off,rfl,hc⟩:=hnews hm;have agf:∀(j:Nat) u,news[j]?=some u->w.cell? ((⟨b,off,none⟩:Addr).add j)=some u:=fun j u hj=>by rw[aaJ];exact hc j u hj
 obtain⟨v',w',hr,h2,h3,_⟩:=run_append_own (P:=P) w 0 t ty e i z i.size i.bytes ht hi hz rfl rfl WM hsz v n xs hown ⟨b,off,none⟩ m c news hl agf h1 OM afv (aaj _);refine⟨v',w',hr,h2,h3,?_⟩;have RE:n+m<=9223372036854775807:=by simp only[maxLen]at OM;omega
 rcases hown.2 with⟨rfl,rfl⟩ | ⟨g,cap,cur,rfl,_,hg,Qq,WN,pN,Qu⟩
 ·have iO:=run_append_nil (P:=P) w t ty e i z ht hi hz ⟨b,off,none⟩ m c news hl agf (by omega) (by omega) (by have hb:=afv;simp only[abC]at hb;omega);rw[hr]at iO;injection iO with iO;rw[iO];exact .inr rfl
 by_cases Io:n+m<=cap
 ·have WO:n*i.size+news.length<=cur.size:=by rw[hl,pN,<-abR];exact abf _ Io
  have iO:=run_append_room (P:=P) w t ty e i ht hi g n cap cur hg ⟨b,off,none⟩ m c news hl agf h1 Io WO;rw[hr]at iO;injection iO with iO;rw[iO];exact .inl rfl
 have iO:=run_append_grow (P:=P) w t ty e i z ht hi hz ⟨g,0,none⟩ n cap xs hown.1 (hown.cells (g:=g) rfl) ⟨b,off,none⟩ m c news hl agf (by omega) (by omega) (growslice_fits (by omega) afv);rw[hr]at iO;injection iO with iO;rw[iO];exact .inr rfl
theorem cI{v:Value}{a:Option Addr}{n c:Nat}(h:v=.slice a n c):v.ownBlock=cC v:=by
 subst h;cases a<;>rfl
theorem cr{base:Nat}{size:Nat}{v:Value}{n:Nat}{xs:List Value}(h:w.ownsRow base e size v n xs):∃a c,v=.slice a n c:=by
 rcases h.2 with⟨rfl,rfl⟩ | ⟨g,cap,cur,rfl,_⟩
 ·exact⟨none,0,rfl⟩
 exact⟨_,cap,rfl⟩
theorem q9{es:List (List HX)}{v:Value}{k:Nat}{ws:List Value}(hown:w.ownsRow 0 e k v es.length ws)(hk:∀r∈es,r.length=k){g:Nat}(hg:cC v=some g){a j:Nat}{u:Value}:
  dF w es g a j u↔∃r e' rN,es[a]?=some r/\r[j]?=some (.row e' rN)/\ws[a*k+j]?=some u:=by
 rcases hown.2 with⟨hn,_⟩ | ⟨g',cap,cur,hv,_,DG,k1,k2,k3,k4⟩
 ·rw[hn]at hg;cases hg
 rw[hv]at hg;obtain rfl:=iP.1 hg;have YS:∀{r:List HX} {x:HX},es[a]?=some r->r[j]?=some x->r.length=k/\a*k+j<es.length*k:=fun {r x} h1 h2=>by
  have hr:=hk r (aad h1);have h3:=aD h1;have h4:=aD h2;have:=abf k (adm h3);rw[aa3]at this;exact⟨hr,by omega⟩
 constructor
 ·rintro⟨r,e',rN,c,ty,m,h1,h2,h3,h4⟩;rw[DG]at h3;injection h3 with h3;injection h3 with h3;subst h3;obtain⟨b1,b2⟩:=YS h1 h2;refine⟨r,e',rN,h1,h2,?_⟩;rw[<-k4,aa0 b2];rw[b1]at h4;simpa using h4
 rintro⟨r,e',rN,h1,h2,h3⟩;obtain⟨b1,b2⟩:=YS h1 h2;refine⟨r,e',rN,cur,_,_,h1,h2,DG,?_⟩;rw[<-k4,aa0 b2]at h3;rw[b1];simpa using h3
theorem b7.WQ{S:Nat->Prop}{a:Act}(sim:b7 A V L S rho s a w)(hC:bI A.C){id d:Nat}(mc:L id){xs:List (List HX)}(az:s.h id=.az e xs){ys:List (List PV)}{ie:TypeInfo}(pO:A.C.P.info? e=some ie)
  (hdb:d<100000) (hL:¬L d) (hb:s.h d=.az e (xs++ys.map s9)) {news:List Value} (LK:Flat S w ie.size ys news) {v':Value} {w':World} {ws:List Value} (hown:w.ownsRow 0 e ie.size (rho id) xs.length ws) (h2:w'.ownsRow 0 e ie.size v' (xs.length+ys.length) (ws++news)) (h3:w.grownBy w' (cC (rho id))) (h4:cC v'=cC (rho id)\/cC v'=some w.heap.size):
  b7 A V (fun i=>L i\/i=d) S (aT rho d v') ⟨s.t,aT s.h id .none⟩ a w':=by
 have bY:(s.h id).live:=by rw[az];trivial
 have RF:id≠d:=fun e=>hL (e▸mc);have hh:=sim.hp id mc;rw[az]at hh;obtain⟨hR,hS⟩:=hh;have Tt:=hS.LF hR;obtain⟨i0,TW,k1,k2,k3,k4,k5,k6⟩:=Tt;rw[pO]at k1;injection k1 with k1;subst k1;have WI:TW=ws:=by
  rcases k3.2 with⟨q1,q2⟩ | ⟨g,cap,cur,q1,_,q3,q4,q5,q6,q7⟩
  ·have a1:TW=[]:=adl (by rw[k3.1,q2];simp);have a2:ws=[]:=adl (by rw[hown.1,q2];simp);rw[a1,a2]
  rcases hown.2 with⟨r1,_⟩ | ⟨g',aah,Rx,r1,_,r3,r4,r5,r6,r7⟩
  ·rw[r1]at q1;cases q1
  rw[r1]at q1;injection q1 with q1;injection q1 with q1;injection q1 with q1;subst q1;rw[q3]at r3;injection r3 with r3;injection r3 with r3;subst r3;rw[<-q7,<-r7]
 subst WI;have RG:∀r∈ys.map s9,r.length=ie.size:=fun r hr=>by
  obtain⟨q,hq,rfl⟩:=adS.1 hr;rw[s9,aej];exact LK.row q hq
 have Ip:∀r∈xs++ys.map s9,r.length=ie.size:=fun r hr=>(abi.1 hr).elim (k4 r) (RG r);have tx:w'.ownsRow 0 e ie.size v' (xs++ys.map s9).length (TW++news):=by rw[acv,aej];exact h2
 have TX:TW.length=xs.length*ie.size:=k3.1;have f_:∀g' k j u,cC v'=some g'->dF w' (xs++ys.map s9) g' k j u->∃g,cC (rho id)=some g/\dF w xs g k j u:=fun g' k j u nS hc=>by
  obtain⟨r,e',rN,q1,q2,q3⟩:=(q9 tx Ip nS).1 hc;by_cases hk:k<xs.length
  ·rw[aaE hk]at q1;have sw:=aD q2;have xj:=k4 r (aad q1);have:=abf ie.size (adm hk);rw[aa3]at this;rw[aaE (by omega)]at q3;obtain⟨g,u2,g1,g2,_⟩:=hR.DO q1 q2;refine⟨g,g1,(q9 k3 k4 g1).2 ⟨r,e',rN,q1,q2,q3⟩⟩
  rw[acu (by omega),aak]at q1;obtain⟨q,_,rfl⟩:=acq.1 q1;rw[s9,aak]at q2;obtain⟨z,_,hz⟩:=acq.1 q2;cases hz
 have RH:∀g k j u b,cC (rho id)=some g->dF w xs g k j u->cC u=some b->hasB w (s.h id) (rho id) b:=fun g k j u b h1 h5 h6=>by rw[az];exact .inr (.inr ⟨_,_,_,_,_,_,rfl,h1,h5,h6⟩)
 have T0:lB S S w w L L rho rho s.h (aT s.h id .none):=⟨fun _ h=>h,fun _ _=>rfl,fun j hj=>⟨by
   rcases aW s.h id .none j with⟨rfl,h⟩ | ⟨_,h⟩
   ·rw[h]at hj;exact hj.elim
   ·rw[h]at hj;exact hj,fun h=>⟨h,rfl⟩⟩,fun j e' hj=>by
   rcases aW s.h id .none j with⟨rfl,h⟩ | ⟨_,h⟩
   ·rw[h]at hj;cases hj
   rw[h]at hj;exact hj⟩
 have Qv:∀k,k<w.heap.size->cC (rho id)≠some k->w'.heap[k]?=w.heap[k]?:=fun k hk hn=>h3.block k hk fun e=>hn e.symm;refine (sim.kill id).qd hC d (.az e (xs++ys.map s9)) hdb hL (by show aT s.h id .none d=_;rw[aV _ _ RF.symm];exact hb) w' h3.os h3.tape h3.output h3.size (fun k=>hasB w (s.h id) (rho id) k) (fun k hk hn=>Qv k hk fun h=>hn (.inl h)) (fun k hk=>?_) v' (fun g hg=>?_) (fun T=>?_)
 ·obtain⟨q1,q2,q3⟩:=sim.lv id k mc bY hk;refine⟨q2,fun i hi li eM=>?_,q3⟩;have nT:(aT s.h id .none i).live:=li;rcases aW s.h id .none i with⟨rfl,h⟩ | ⟨b8,h⟩
  ·rw[h]at nT;exact nT.elim
  rw[h]at nT;exact b8 (sim.dj i id k hi mc nT bY (aeG b8 eM) hk)
 ·rcases hg with hg | ⟨cs,g',h,_⟩ | ⟨e',de,g',k',j,u,q1,q2,q3,q4⟩
  ·obtain⟨a1,c1,Gd⟩:=cr h2;refine⟨(h2.lt g (by rw[cI Gd];exact hg)).2,?_⟩;rcases h4 with h | h
   ·exact .inr (.inl (h▸hg))
   rw[h]at hg;injection hg with hg;exact .inl (by omega)
  ·cases h
  injection q1 with q1 q1';subst q1 q1';obtain⟨g0,g1,g2⟩:=f_ _ _ _ _ q2 q3;have WR:=RH _ _ _ _ _ g1 g2 q4;exact⟨aaW (sim.lv id g mc bY WR).1 h3.size,.inr WR⟩
 show aG _ _ _ _ _ (aT rho d v' d)/\uZ _ _ (aT rho d v' d);rw[aH];refine⟨⟨ie,TW++news,pO,k2,tx,Ip,fun u hu=>(abi.1 hu).elim (k5 u) (LK.one u),fun p r j x hp hj=>?_⟩,fun g k j u b hg hc hb'=>?_,fun g k j k' j' u u' b hg hc hc' JC oE=>?_⟩
 ·by_cases hk:p<xs.length
  ·rw[aaE hk]at hp;obtain⟨u,hu,An,WS⟩:=k6 p r j x hp hj;refine⟨u,by rw[aaE (aD hu)];exact hu,?_⟩;cases x with
   | av x=>exact aY.cK T (aY.cK T0 An)
   | row e' rN=>
    refine aG.cK (show aG _ _ _ _ _ _ from An) (fun b hb'=>Qv b ?_ fun h=>WS _ _ rfl b b h hb' rfl) (fun x u hu=>hu.mono T.hS T.keep);obtain⟨g,u2,g1,g2,_⟩:=hR.DO hp hj;have:u2=u:=by
     obtain⟨r',_,_,q1,q2,q3⟩:=(q9 k3 k4 g1).1 g2;rw[hu]at q3;injection q3 with q3;exact q3.symm
    subst this;exact (sim.lv id b mc bY (RH _ _ _ _ _ g1 g2 hb')).1
  rw[acu (by omega),aak]at hp;obtain⟨q,hq,rfl⟩:=acq.1 hp;rw[s9,aak]at hj;obtain⟨z,hz,rfl⟩:=acq.1 hj;obtain⟨u,hu,An⟩:=LK.rep _ _ _ _ hq hz;refine⟨u,?_,xy (An.mono T.hS T.keep)⟩;have hm:xs.length*ie.size<=p*ie.size:=abf _ (by omega);rw[acu (by rw[TX];omega),TX];rw[Nat.sub_mul]at hu;rw[<-hu];congr 1;omega
 ·obtain⟨g0,g1,g2⟩:=f_ _ _ _ _ hg hc;rcases h4 with h | h
  ·rw[h,g1]at hg;injection hg with hg;subst hg;exact hS.top _ _ _ _ _ g1 g2 hb'
  rw[h]at hg;injection hg with hg;have:=(sim.lv id b mc bY (RH _ _ _ _ _ g1 g2 hb')).1;omega
 obtain⟨g0,g1,g2⟩:=f_ _ _ _ _ hg hc;obtain⟨g0',V3,g2'⟩:=f_ _ _ _ _ hg hc';rw[g1]at V3;injection V3 with V3;subst V3;exact hS.dis _ _ _ _ _ _ _ _ g1 g2 g2' JC oE
theorem JD{o:Oper}(c:Call)(aK:o.op=.call c)(hc:c.callee=.builtin .append):iE A o:=by
 intro V L S rho s a w K next Q hC sim hV hd hq hn hnext
 obtain⟨callee,args,argTypes⟩:=c;simp only at hc;subst hc;simp only[bV,aK,aeC,fy]at hq;split at hq
 ·rename_i x y t t' hargs LJ;have hx:=bp sim x fun j hj=>hV j (by simp[aK,Op.operands,Call.operands,hj];rw[<-hj];exact aal.1 (by rw[hargs];simp));have hy:=bp sim y fun j hj=>hV j (by simp[aK,Op.operands,Call.operands,hj];rw[<-hj];exact aal.1 (by rw[hargs];simp));have e1:args=#[x,y]:=by rw[<-aaY (xs:=args),hargs]
  have e2:argTypes=#[t,t']:=by rw[<-aaY (xs:=argTypes),LJ]
  subst e1 e2;split at hq
  ·rename_i e size bytes zero eq WT hT;have WT:=hZ WT;subst WT;have fK:=(hC.iq t _ hT).under;simp only at fK;split at hq
   ·rename_i te u9;obtain⟨ie,ze,pO,Ao,On,ON,OO,jg⟩:=(hC.iq e te u9).info;have V4:=(hC.iq e te u9).Lx;split at hq
    ·rename_i hpos;have hpos:0<ie.size:=by rw[Ao];exact abA hpos
     obtain⟨ys,hq,TY⟩:=Gc sim hy hq;have main:∀(xs:List (List PV)) (v:Value) (ws:List Value) (s2:AS),a.eval x=v->w.ownsRow 0 e ie.size v xs.length ws->Flat S w ie.size xs ws->(∀r∈ys,r.length=te.size)->(xs.length+ys.length)*te.bytes<=140737488355328->xs.length+ys.length<=140737488355328 ->
       b7 A V L S rho s2 a w->(∀g,cC v=some g->¬S g/\(∀i,L i->(s2.h i).live->¬hasB w (s2.h i) (rho i) g)/\(A.mv g\/A.w0.heap.size<=g))->¬L (o.dst.getD 0)->s2.h (o.dst.getD 0)=.row e (xs++ys)->
       ∃v' w' rho',(execOp a.eval o).run A.C.P w=.ok (.value v') w'/\b7 A V (fun i=>L i\/i=o.dst.getD 0) S rho' s2 a w'/\v'=rho' (o.dst.getD 0):=by
      intro xs v ws s2 hv hown wg hlen JC oE bu hR hL hb;obtain⟨ad,c',news,WU,LK,hcell⟩:=TY ie.size (fun r hr=>by rw[hlen r hr,Ao]);obtain⟨v',w',hr,h2,h3,h4⟩:=rO (P:=A.C.P) w t o.type e ie ze fK pO ON (by rw[OO];simp[V4,Ao]) hpos v xs.length ws hown ad ys.length c' news LK.len
       (fun h0=>hcell (fun e=>h0 (by rw[e];rfl))) LK.one (by simp only[maxLen];omega) (by rw[On];exact JC)
      obtain⟨a0,c0,TZ⟩:=cr hown;obtain⟨a1,c1,Gd⟩:=cr h2;rw[cI TZ]at h3 h4;rw[cI Gd]at h4;refine⟨v',w',aT rho (o.dst.getD 0) v',by simp[execOp,aK,resolve,invoke,builtin,hv,WU,hr],?_,(aH _ _ _).symm⟩;refine bu.new hC (o.dst.getD 0) _ (bu.pP hd) hL hb w' h3.os h3.tape h3.output h3.size (fun k=>cC v=some k) (fun k hk T1=>h3.block k hk (fun e=>T1 e.symm)) (fun k hk=>hR k hk) v' (fun g hg=>?_) (fun T=>?_)
      ·refine⟨(h2.lt g (by rw[cI Gd];exact hg)).2,?_⟩;rcases h4 with h | h
       ·exact .inr (h▸hg)
       rw[h]at hg;injection hg with hg;exact .inl (by omega)
      show aG A.C.P w' (aO S w') e (xs++ys) (aT rho (o.dst.getD 0) v' (o.dst.getD 0));rw[aH];exact aG.of_flat pO hpos (by rw[acv];exact h2) ((wg.app LK).mono T.hS T.keep)
     split at hq
     ·rename_i Rz;rw[Rz]at hx;have hv:a.eval x=.slice none 0 0:=by cases h:a.eval x<;>rw[h]at hx<;>cases hx;rfl
      obtain⟨⟨h1,h2,h3⟩,hq⟩:=hq;obtain⟨hL,hb⟩:=hn _ _ _ hq;obtain⟨v',w',rho',hr,bu,F9⟩:=main [] _ [] s hv ⟨by simp,.inl ⟨rfl,rfl⟩⟩ ⟨by simp,by simp,by simp,by simp⟩ h1 (by simpa using h2) (by simpa using h3) sim (fun g hg=>by simp[cC]at hg) hL (by simpa using hb);exact dW hr (hnext _ _ _ S rho' _ _ hq (bu.value o.dst hd _ _ (.ow _ _ fun _=>⟨.inr rfl,F9⟩)))
     ·rename_i id Rz;rw[Rz]at hx;split at hq
      ·rename_i e' xs az;split at hq
       ·rename_i u_;have u_:=hZ u_;subst u_;obtain⟨⟨h1,h2,h3⟩,hq⟩:=hq;obtain⟨hL,hb⟩:=hn _ _ _ hq;obtain⟨mc,hv⟩:=hx.cH (by rw[az];trivial);have hh:=sim.hp id mc;rw[az]at hh;obtain⟨ws,_,hown,wg⟩:=aG.flat pO hh;have RF:id≠o.dst.getD 0:=fun e=>hL (e▸mc);have bY:(s.h id).live:=by rw[az];trivial
        obtain⟨v',w',rho',hr,bu,F9⟩:=main xs _ ws ⟨s.t,aT s.h id .none⟩ hv hown wg h1 h2 h3 (sim.kill id) (fun g hg=>by
          obtain⟨k1,k2,k3⟩:=sim.pM id g mc bY hg;refine⟨k2,fun i hi li eM=>?_,k3⟩;have nT:(aT s.h id .none i).live:=li;rcases aW s.h id .none i with⟨rfl,h⟩ | ⟨b8,h⟩
          ·rw[h]at nT;exact nT.elim
          rw[h]at nT;exact b8 (sim.dj i id g hi mc nT bY (aeG b8 eM) (.inl hg))) hL (by show aT s.h id .none (o.dst.getD 0)=_;rw[aV _ _ RF.symm];exact hb)
        exact dW hr (hnext _ _ _ S rho' _ _ hq (bu.value o.dst hd _ _ (.ow _ _ fun _=>⟨.inr rfl,F9⟩)))
       exact hq.elim
      ·rename_i e' xs az;split at hq
       ·rename_i u_;have u_:=hZ u_;subst u_;obtain⟨⟨h1,h2,h3⟩,hq⟩:=hq;obtain⟨hL,hb⟩:=hn _ _ _ hq;obtain⟨mc,hv⟩:=hx.cH (by rw[az];trivial);have hh:=sim.hp id mc;rw[az]at hh;obtain⟨⟨i0,ws,Tu,_,hown,_⟩,_⟩:=hh;rw[pO]at Tu;injection Tu with Tu;subst Tu;obtain⟨ad,c',news,WU,LK,hcell⟩:=TY ie.size (fun r hr=>by rw[h1 r hr,Ao]);obtain⟨v',w',hr,q2,q3,q4⟩:=rO (P:=A.C.P) w t o.type e' ie ze fK pO ON (by rw[OO];simp[V4,Ao]) hpos (rho id) xs.length ws hown ad ys.length c' news LK.len
         (fun h0=>hcell (fun e=>h0 (by rw[e];rfl))) LK.one (by simp only[maxLen];omega) (by rw[On];exact h2)
        obtain⟨a0,c0,TZ⟩:=cr hown;obtain⟨a1,c1,Gd⟩:=cr q2;rw[cI TZ]at q3 q4;rw[cI Gd]at q4;have bu:=sim.WQ hC mc az pO (sim.pP hd) hL hb LK hown q2 q3 q4;exact dW (by simp[execOp,aK,resolve,invoke,builtin,hv,WU,hr]) (hnext _ _ _ S _ _ _ hq (bu.value o.dst hd _ _ (.ow _ _ fun _=>⟨.inr rfl,(aH _ _ _).symm⟩)))
       exact hq.elim
      exact hq.elim
     exact hq.elim
    exact hq.elim
   exact hq.elim
  exact hq.elim
 exact hq.elim
theorem Co{o:Oper}(t:TypeId)(x y:Operand)(aK:o.op=.makeSlice t x y):iE A o:=by
 intro V L S rho s a w K next Q hC sim hV hd hq hn hnext
 simp only[bV,aK]at hq;have hx:=bp sim x fun j hj=>hV j (by simp[aK,Op.operands,hj]);have hy:=bp sim y fun j hj=>hV j (by simp[aK,Op.operands,hj]);split at hq
 ·rename_i e size bytes zero eq k n k' c hT h1 h2;have fK:=(hC.iq t _ hT).under;simp only at fK;rw[h1]at hx;rw[h2]at hy;split at hq
  ·rename_i te u9;obtain⟨ie,ze,pO,Ao,On,ON,OO,jg⟩:=(hC.iq e te u9).info;have V4:=(hC.iq e te u9).Lx;split at hq
   ·rename_i hpos;have hpos:0<te.size:=abA hpos;obtain⟨⟨h0,Qq,hb,OM⟩,hq⟩:=hq;obtain⟨hL,hdb⟩:=hn _ _ _ hq;have hr:=run_make (P:=A.C.P) w t e ie ze fK pO ON k k' n c h0 Qq (by rw[On,Int.mul_comm];omega) OM;have wg:=Flat.zero (A.C.bn t) S (w.alloc (.cells (madeCells ze.cells (c.toNat*ie.size)) e)) (hC.iq e te u9) hpos n.toNat;have key:∀(W:World) es xs,Flat S W te.size es xs->Flat S W ie.size es xs:=fun W es xs h=>by rw[Ao];exact h
    have hle:n.toNat*te.size<=c.toNat*te.size:=abf _ (by omega);have T2:((Array.range (n.toNat*te.size)).map (te.zero.toArray[· % te.zero.toArray.size]!)).toList=(madeCells ze.cells (c.toNat*ie.size)).toList.take (n.toNat*te.size):=by
     apply ach;intro j;rw[aa7];split
     ·rename_i hj;simp[madeCells,OO,Ao,hj,aaW hj hle]
     rename_i hj;rw[abI (by simpa using hj)]
    have bu:=sim.new hC (o.dst.getD 0) _ (sim.pP hd) hL hdb (w.alloc (.cells (madeCells ze.cells (c.toNat*ie.size)) e)) rfl rfl rfl (by simp) (fun _=>False) (fun k hk _=>acr _ _ _ hk) (fun _ h=>h.elim) (.slice (some ⟨w.heap.size,0,none⟩) n.toNat c.toNat)
     (fun g hg=>by simp[cC]at hg;subst hg;simp) (fun T=>by
      show aG A.C.P _ _ e _ (aT rho (o.dst.getD 0) _ (o.dst.getD 0));rw[aH];refine aG.of_flat pO (by omega) ?_ (key _ _ _ wg);rw[T2,<-Ao];refine⟨by rw[aat,aan,abj,size_madeCells,Ao];omega,.inr ⟨w.heap.size,c.toNat,_,by simp,aaj _,heap_alloc_new w _,by simp;omega,by simp only[maxLen];omega,size_madeCells _ _,by simp⟩⟩)
    exact dW (by simp only[execOp,aK,hx.bS,hy.bS,aau,hr,ab5,aa6]) (hnext _ _ _ S _ _ _ hq (bu.value o.dst hd _ _ (.ow _ _ fun _=>⟨.inr rfl,(aH _ _ _).symm⟩)))
   exact hq.elim
  exact hq.elim
 exact hq.elim
end Go.AM
namespace Go.AM
open Go.RowKit
theorem LM(off:Nat):∀(vs:List Value) (k:Nat) (cs:Array Value),(vs.zipIdx k).foldl (fun (cs:Array Value) (x:Value×Nat)=>cs.setIfInBounds (off+x.2) x.1) cs=(setCells cs.toList (off+k) vs).toArray:=by
 intro vs
 induction vs with
 | nil=>intro k cs;simp[setCells]
 | cons v vs ih=>
  intro k cs;simp only[List.zipIdx_cons,aaq];rw[ih];simp[setCells,aaX]
theorem vc(place:Nat->Option (Nat×Nat))(cells:Array Value)(i:Nat)(v:Value)(rest:List (Nat×Value))(off size:Nat)(hp:place i=some (off,size))(hs:v.cells.size=size)(hl:off+size<=cells.size):
  Instr.fill place cells ((i,v)::rest)=Instr.fill place (setCells cells.toList off v.cells.toList).toArray rest:=by
 rw[Instr.fill,hp];simp only;rw[aaa (by simp[hs];omega)];congr 1;have:=LM off v.cells.toList 0 cells;rw[abQ]at this;rw[<-this,<-Array.foldl_toList,Array.toList_zipIdx]
structure iB(S:Nat->Prop)(w:World)(cs:List PV)(vs:List Value):Prop where
 len:vs.length=cs.length
 one:∀u∈vs,u.oneCell'=true
 rep:∀(j:Nat) x u,cs[j]?=some x->vs[j]?=some u->aO S w x u
variable {w:World}
theorem iB.mono{S S':Nat->Prop}{cs:List PV}{vs:List Value}(h:iB S w cs vs)(hS:∀b,S b->S' b):iB S' w cs vs:=
 ⟨h.len,h.one,fun j x u h1 h2=>(h.rep j x u h1 h2).mono hS (fun _ _=>rfl)⟩
theorem iB.set{S:Nat->Prop}{cs ys:List PV}{vs us:List Value}(h:iB S w cs vs)(g:iB S w ys us)(off:Nat)(hl:off+ys.length<=cs.length):iB S w (setCells cs off ys) (setCells vs off us):=by
 have e1:=fun j=>d_ ys cs off j hl;have e2:=fun j=>d_ us vs off j (by rw[g.len,h.len];exact hl);refine⟨by rw[cW,cW,h.len],fun u hu=>?_,fun j x u hj hu=>?_⟩
 ·obtain⟨j,hj⟩:=ab8.1 hu;rw[e2]at hj;split at hj
  ·exact g.one u (aad hj)
  exact h.one u (aad hj)
 rw[e1]at hj;rw[e2,g.len]at hu;split at hj
 ·rename_i s_;rw[aap s_]at hu;exact g.rep _ x u hj hu
 rename_i s_;rw[aaa s_]at hu;exact h.rep _ x u hj hu
theorem A4{S:Nat->Prop}{x:PV}{ys:List PV}{v:Value}(h:sg x=some ys)(hx:aO S w x v):iB S w ys v.cells.toList:=by
 obtain⟨h1,h2,h3⟩:=wc h hx;exact⟨by simpa using h1,h2,fun j y u hj hu=>h3 j y u hj (by simpa using hu)⟩
variable {A:cD} {V L:Nat->Prop} {rho:Nat->Value} {fs:List (Nat×Nat×Bool)}
theorem JE(hC:bI A.C){t:Nat->AV}{a:Act}{h:Nat->AB}(place:Nat->Option (Nat×Nat))(hp:∀(i:Nat) f,fs[i]?=some f->place i=some (f.1,f.2.1)):
  ∀(ps:List (Nat×Operand)) (h':Nat->AB) (S:Nat->Prop) (cs:List PV) (vs:List Value) (K:List PV->List (Nat×AB)->Prop),(∀p∈ps,∀j,p.2=.tmp j->V j)->b7 A V L S rho ⟨t,h'⟩ a w->pY h h'->iB S w cs vs->jC h fs (ev t) ps cs K ->
  ∃mZ fz S' mQ,K mZ fz/\b7 A V L S' rho ⟨t,app h' fz⟩ a w/\pY h (app h' fz)/\iB S' w mZ mQ/\Instr.fill place vs.toArray (ps.map fun p=>(p.1,a.eval p.2))=some mQ.toArray/\(∀p∈fz,L p.1):=by
 intro ps
 induction ps with
 | nil=>intro h' S cs vs K _ sim hF hc hq;exact⟨cs,[],S,vs,hq,sim,hF,hc,rfl,by simp⟩
 | cons p ps ih=>
  intro h' S cs vs K hV sim hF hc hq;obtain⟨i,x⟩:=p;unfold jC at hq;split at hq
  ·rename_i off size ag OG;have hx:=bp sim x fun j hj=>hV (i,x) (by simp) j hj;obtain⟨y,fz,S2,hq,bu,hrep,xC,Lh,DI⟩:=ir hC sim hF hx hq;split at hq
   ·rename_i ys Ij;split at hq
    ·rename_i kD;simp only[aaZ]at kD;have e1:=hZ kD.1;have e2:=kO kD.2;have hok:=A4 Ij hrep;obtain⟨mZ,mY,S',mQ,k1,k2,k3,k4,k5,k9⟩:=ih (app h' fz) S2 _ _ _ (fun p hp=>hV p (by simp[hp])) bu Lh ((hc.mono xC).set hok off (by omega)) hq;refine⟨mZ,fz++mY,S',mQ,k1,by rw[cy];exact k2,by rw[cy];exact k3,k4,?_,fun p hp=>(abi.1 hp).elim (DI p) (k9 p)⟩;rw[aa8,vc place _ i _ _ off size (hp i _ OG) (by simpa [e1] using hok.len) (by simp[hc.len];omega)];exact k5
    exact hq.elim
   exact hq.elim
  exact hq.elim
theorem LN{P:Program}{t:TypeId}{size bytes:Nat}{zero:List Value}{eq:Bool}(fK:nV P t ⟨.st fs,size,bytes,zero,eq⟩){l:List (Nat×Value)}{mQ:Array Value}
  (k5:Instr.fill (fun i=>(fs[i]?).map fun f=>(f.1,f.2.1)) zero.toArray l=some mQ):P.built t l=some mQ:=by
 obtain⟨info,z,hi,hsz,RI,hz,hcells,jg⟩:=fK.info;obtain⟨gs,tv,hl,hf⟩:=fK.under;simp only at hcells;have Cp:gs.toList.mapM (fun f=>(P.info? f.type).map fun i=>(f.offset,i.size))=some (fs.map fun f=>(f.1,f.2.1)):=by
  have gen:∀(gl:List Field) (fl:List (Nat×Nat×Bool)),fl.length=gl.length->(∀(i:Nat) f g,fl[i]?=some f->gl[i]?=some g->f.1=g.offset/\(∃i2,P.info? g.type=some i2/\i2.size=f.2.1))->gl.mapM (fun f=>(P.info? f.type).map fun i=>(f.offset,i.size))=some (fl.map fun f=>(f.1,f.2.1)):=by
   intro gl
   induction gl with
   | nil=>intro fl h1 _;have:fl=[]:=adl h1;subst this;rfl
   | cons g gl ih=>
    intro fl h1 h2;cases fl with
    | nil=>simp at h1
    | cons f fl=>
     obtain⟨e1,i2,e2,e3⟩:=h2 0 f g rfl rfl;have:=ih fl (by simpa using h1) (fun i f g h3 h4=>h2 (i+1) f g (by simpa using h3) (by simpa using h4));rw[aa5,e2,this];simp[e1,e3]
  exact gen gs.toList fs (by simpa using hl) (fun i f g h3 h4=>by
   obtain⟨e1,_,e2,_⟩:=hf i f g h3 (by simpa using h4);exact⟨e1,e2⟩)
 unfold Program.built;rw[hi,tv];simp only[hz,Cp,hcells];rw[<-k5];congr 1;funext i;simp
theorem JF{S:Nat->Prop}{s:AS}{a:Act}(sim:b7 A V L S rho s a w)(place:Nat->Option (Nat×Nat))(hp:∀(i:Nat) f,fs[i]?=some f->place i=some (f.1,f.2.1)):
  ∀(ps:List (Nat×Operand)) (cs:List AV) (vs:List Value) (K:List AV->Prop),(∀p∈ps,∀j,p.2=.tmp j->V j)->cs.length=vs.length->(∀u∈vs,u.oneCell'=true)->(∀(i:Nat) c u,cs[i]?=some c->vs[i]?=some u->aY S w A.C.P L rho s.h c u)->k_ s.h fs (ev s.t) ps cs K ->
  ∃(mZ:List AV) (mQ:List Value),K mZ/\mZ.length=mQ.length/\(∀u∈mQ,u.oneCell'=true)/\(∀(i:Nat) c u,mZ[i]?=some c->mQ[i]?=some u->aY S w A.C.P L rho s.h c u)/\Instr.fill place vs.toArray (ps.map fun p=>(p.1,a.eval p.2))=some mQ.toArray:=by
 intro ps
 induction ps with
 | nil=>intro cs vs K _ hl h1 hc hq;exact⟨cs,vs,hq,hl,h1,hc,rfl⟩
 | cons p ps ih=>
  intro cs vs K hV hl h1 hc hq;obtain⟨i,x⟩:=p;unfold k_ at hq;split at hq
  ·rename_i off size ag OG;split at hq
   ·rename_i kD;simp only[aaZ]at kD;obtain⟨⟨e1,e2⟩,e3⟩:=kD;have e1:=hZ e1;have e2:=kO e2;have hx:=bp sim x fun j hj=>hV (i,x) (by simp) j hj;have o1:=q8 sim e3 hx;have je:=cells_one o1;have hlen:off<vs.length:=by omega
    obtain⟨mZ,mQ,k1,k2,k3,k4,k5⟩:=ih (cs.set off (ev s.t x)) (vs.set off (a.eval x)) K (fun p hp=>hV p (by simp[hp])) (by simp[hl]) (fun u hu=>by
      rcases abg hu with h | h
      ·exact h1 u h
      ·rw[h];exact o1) (fun j c u hj hu=>by
      by_cases e:j=off
      ·subst e;rw[ab7 (by omega)]at hj hu;injection hj with hj;injection hu with hu;subst hj hu;exact hx
      rw[ac5 (fun e'=>e e'.symm)]at hj hu;exact hc j c u hj hu) hq
    refine⟨mZ,mQ,k1,k2,k3,k4,?_⟩;rw[aa8,vc place _ i _ _ off size (hp i _ OG) (by rw[je,e1];rfl) (by simp;omega),je];exact k5
   exact hq.elim
  exact hq.elim
theorem LO{o:Oper}(t:TypeId)(ps:Array (Nat×Operand))(aK:o.op=.build t ps):iE A o:=by
 intro V L S rho s a w K next Q hC sim hV hd hq _ hnext
 simp only[bV,aK]at hq;split at hq
 ·rename_i fs size bytes zero eq hT;have fK:=(hC.iq t _ hT).under;obtain⟨info,z,hi,hsz,RI,hz,hcells,jg⟩:=(hC.iq t _ hT).info;obtain⟨gs,tv,hl,hf⟩:=fK;simp only at hcells jg;have qg:∀(i:Nat) f,fs[i]?=some f->(fun i=>(fs[i]?).map fun f=>(f.1,f.2.1)) i=some (f.1,f.2.1):=fun i f h=>by simp[h]
  split at hq
  case h_2=>
   obtain⟨mZ,mQ,k1,k2,k3,k4,k5⟩:=JF sim (fun i=>(fs[i]?).map fun f=>(f.1,f.2.1)) qg ps.toList (zero.map Jr) zero (fun cs=>K (.st cs) [] none)
    (fun p hp j hj=>hV j (by simp[aK,Op.operands];exact⟨p.1,by rw[<-hj];exact aal.1 hp⟩)) (by simp) jg (fun j x u hj hu=>by
     rw[aak,hu]at hj;simp at hj;rw[<-hj];exact xZ _ _ _ _ _ _ u) hq
   have Ge:=LN (hC.iq t _ hT) k5;exact aM sim hd hnext k1 (.st _ mQ.toArray (by simpa using k2) (by simpa using k3) (fun i c u h1 h2=>k4 i c u h1 (by simpa using h2))) (by
    have hr:=run_build (P:=A.C.P) w t (ps.map fun p=>(p.1,a.eval p.2)) mQ.toArray (by simpa using Ge);simp only[execOp,aK,aau];rw[hr];simp)
  obtain⟨mZ,fz,S',mQ,k1,k2,k3,k4,k5,_⟩:=JE hC (fun i=>(fs[i]?).map fun f=>(f.1,f.2.1)) qg ps.toList s.h S (zero.map (To (A.C.bn t))) zero (fun cs fz=>K (.p (.ag cs)) fz none)
   (fun p hp j hj=>hV j (by simp[aK,Op.operands];exact⟨p.1,by rw[<-hj];exact aal.1 hp⟩)) sim (pY.refl _) ⟨by simp,jg,fun j x u hj hu=>by
    rw[aak,hu]at hj;simp at hj;rw[<-hj];exact Ie _ _ _ u⟩ hq
  have Cp:gs.toList.mapM (fun f=>(A.C.P.info? f.type).map fun i=>(f.offset,i.size))=some (fs.map fun f=>(f.1,f.2.1)):=by
   have gen:∀(gl:List Field) (fl:List (Nat×Nat×Bool)),fl.length=gl.length->(∀(i:Nat) f g,fl[i]?=some f->gl[i]?=some g->f.1=g.offset/\(∃i2,A.C.P.info? g.type=some i2/\i2.size=f.2.1))->gl.mapM (fun f=>(A.C.P.info? f.type).map fun i=>(f.offset,i.size))=some (fl.map fun f=>(f.1,f.2.1)):=by
    intro gl
    induction gl with
    | nil=>intro fl h1 _;have:fl=[]:=adl h1;subst this;rfl
    | cons g gl ih=>
     intro fl h1 h2;cases fl with
     | nil=>simp at h1
     | cons f fl=>
      obtain⟨e1,i2,e2,e3⟩:=h2 0 f g rfl rfl;have:=ih fl (by simpa using h1) (fun i f g h3 h4=>h2 (i+1) f g (by simpa using h3) (by simpa using h4));rw[aa5,e2,this];simp[e1,e3]
   exact gen gs.toList fs (by simpa using hl) (fun i f g h3 h4=>by
    obtain⟨e1,_,e2,_⟩:=hf i f g h3 (by simpa using h4);exact⟨e1,e2⟩)
  have Ge:A.C.P.built t (ps.toList.map fun p=>(p.1,a.eval p.2))=some mQ.toArray:=by
   unfold Program.built;rw[hi,tv];simp only[hz,Cp,hcells];rw[<-k5];congr 1;funext i;simp
  refine A3 (s:=s) k2 hd hnext k1 (v:=.agg mQ.toArray) (.p _ _ (.ag _ _ (by simp[k4.len]) (by simpa using k4.one) fun i c v h1 h2=>k4.rep i c v h1 (by simpa using h2))) ?_;have hr:=run_build (P:=A.C.P) w t (ps.map fun p=>(p.1,a.eval p.2)) mQ.toArray (by simpa using Ge);simp only[execOp,aK,aau];rw[hr];simp
 exact hq.elim
theorem JG{S:Nat->Prop}{s:AS}{a:Act}{b:Bool}(hC:bI A.C){h:Nat->AB}(sim:b7 A V L S rho s a w)(hF:pY h s.h){x:AV}{v:Value}(hx:aY S w A.C.P L rho s.h x v){K:PV->List (Nat×AB)->Prop}(hq:wa b h x K):
  ∃y fz S',K y fz/\b7 A V L S' rho ⟨s.t,app s.h fz⟩ a w/\aO S' w y v/\(∀b,S b->S' b)/\pY h (app s.h fz)/\(∀p∈fz,L p.1):=by
 unfold wa at hq;split at hq
 ·have:v=.slice none 0 0:=by cases hx;rfl
  rw[this];exact⟨_,[],S,hq,sim,.im _,fun _ h=>h,hF,by simp⟩
 exact ir hC sim hF hx hq
theorem yb(hC:bI A.C){t:Nat->AV}{a:Act}{h:Nat->AB}{size:Nat}{b:Bool}:
  ∀(ps:List (Nat×Operand)) (h':Nat->AB) (S:Nat->Prop) (es:List (List PV)) (vs:List Value) (K:List (List PV)->List (Nat×AB)->Prop),(∀p∈ps,∀j,p.2=.tmp j->V j)->b7 A V L S rho ⟨t,h'⟩ a w->pY h h'->Flat S w size es vs->gG b h size (ev t) ps es K ->
  ∃de fz S' mQ,K de fz/\b7 A V L S' rho ⟨t,app h' fz⟩ a w/\pY h (app h' fz)/\Flat S' w size de mQ/\de.length=es.length/\Instr.fill (fun i=>some (i*size,size)) vs.toArray (ps.map fun p=>(p.1,a.eval p.2))=some mQ.toArray/\(∀p∈fz,L p.1):=by
 intro ps
 induction ps with
 | nil=>intro h' S es vs K _ sim hF hc hq;exact⟨es,[],S,vs,hq,sim,hF,hc,rfl,rfl,by simp⟩
 | cons p ps ih=>
  intro h' S es vs K hV sim hF hc hq;obtain⟨i,x⟩:=p;unfold gG at hq;have hx:=bp sim x fun j hj=>hV (i,x) (by simp) j hj;obtain⟨y,fz,S2,hq,bu,hrep,xC,Lh,DI⟩:=JG hC sim hF hx hq;split at hq
  ·rename_i ys Ij;split at hq
   ·rename_i kD;simp only[aaZ]at kD;have e1:=hZ kD.1;have e2:i<es.length:=abA kD.2;have hok:=A4 Ij hrep;have T3:(a.eval x).cells.toList.length=size:=by rw[hok.len,e1]
    have hb:i*size+size<=vs.length:=by rw[hc.len,<-aa3];exact abf _ e2
    obtain⟨de,mY,S',mQ,k1,k2,k3,k4,k5,k6,k9⟩:=ih (app h' fz) S2 _ _ _ (fun p hp=>hV p (by simp[hp])) bu Lh ((hc.mono xC (fun _ _=>rfl)).set i e2 ys _ e1 T3 hok.one (fun j y u h1 h2=>hok.rep j y u h1 h2)) hq;refine⟨de,fz++mY,S',mQ,k1,by rw[cy];exact k2,by rw[cy];exact k3,k4,by rw[k5,aaM],?_,fun p hp=>(abi.1 hp).elim (DI p) (k9 p)⟩;rw[aa8,vc _ _ i _ _ (i*size) size rfl (by simpa using T3) (by simpa using hb)];exact k6
   exact hq.elim
  exact hq.elim
theorem Ap{o:Oper}(t:TypeId)(len:Nat)(ps:Array (Nat×Operand))(aK:o.op=.buildSlice t len ps):iE A o:=by
 intro V L S rho s a w K next Q hC sim hV hd hq hn hnext
 simp only[bV,aK]at hq;split at hq
 ·rename_i e size bytes zero eq hT;have fK:=(hC.iq t _ hT).under;simp only at fK;split at hq
  ·rename_i te u9;obtain⟨ie,ze,pO,Ao,On,ON,OO,jg⟩:=(hC.iq e te u9).info;have V4:=(hC.iq e te u9).Lx;split at hq
   ·rename_i kD;simp only[aaZ]at kD;have hpos:0<te.size:=abA kD.1;have RJ:=kO kD.2;split at hq
    ·rename_i T4;obtain⟨de,fz,S',mQ,k1,k2,k3,k4,k5,k6,k9⟩:=yb hC ps.toList s.h S _ _ (fun es fz=>K (.ow (o.dst.getD 0)) fz (some (.row e es)))
      (fun p hp j hj=>hV j (by simp[aK,Op.operands];exact⟨p.1,by rw[<-hj];exact aal.1 hp⟩)) sim (pY.refl _) (Flat.zero false S w (hC.iq e te u9) hpos len) hq
     rw[aan]at k5;obtain⟨hL,hb⟩:=hn _ _ _ k1;have RL:(app s.h fz) (o.dst.getD 0)=.row e de:=by
      rw[iA (fun p hp (e:p.1=_)=>hL (by rw[<-e];exact k9 p hp)),hb]
     have hrun:(execOp a.eval o).run A.C.P w=.ok (.value (.slice (some ⟨w.heap.size,0,none⟩) len len)) (w.alloc (.cells mQ.toArray e)):=by
      have e0:len*te.size=(Array.range (len*te.size)).size:=by simp
      have WV:¬16777216<len*te.size:=by omega
      have T6:Instr.fill (fun i=>some (i*te.size,te.size)) ((Array.range (len*te.size)).map (te.zero.toArray[· % te.zero.toArray.size]!)) (ps.map fun p=>(p.1,a.eval p.2)).toList=some mQ.toArray:=by
       rw[adT];rw[<-k6]
      have hsz:(Go.sizeOf e).run A.C.P w=.ok te.size w:=(hC.iq e te u9).sizeOf w;simp only[execOp,aK,Instr.buildSlice,aau,run_underlying fK,ab5,hsz];rw[aaa (show ¬len*te.size>2 ^ 24 by omega)];by_cases h0:len*te.size=0
      ·rw[aap h0];have k7:Instr.fill (fun i=>some (i*te.size,te.size)) ((Array.range (len*te.size)).map ((#[]:Array Value)[· % (#[]:Array Value).size]!)) (ps.map fun p=>(p.1,a.eval p.2)).toList=some mQ.toArray:=by
        have OP:∀f:Nat->Value,(Array.range 0).map f=#[]:=fun f=>by apply adR;simp
        rw[<-T6,h0,OP,OP]
       simp only[aau,aa6,ab5];rw[k7];simp[newRow,newObj,Sem.run]
      rw[aaa h0];have WW:(zeroValue e).run A.C.P w=.ok ze w:=by simp[zeroValue,typeInfo,pO,ON]
      simp only[aau,aa6,ab5,WW];rw[OO,T6];simp[newRow,newObj,Sem.run]
     have bu:=k2.new hC (o.dst.getD 0) _ (k2.pP hd) hL RL (w.alloc (.cells mQ.toArray e)) rfl rfl rfl (by simp) (fun _=>False) (fun k hk _=>acr _ _ _ hk) (fun _ h=>h.elim) (.slice (some ⟨w.heap.size,0,none⟩) len len)
      (fun g hg=>by simp[cC]at hg;subst hg;simp) (fun T=>by
       show aG A.C.P _ _ e _ (aT rho (o.dst.getD 0) _ (o.dst.getD 0));rw[aH];refine aG.of_flat pO (by omega) ?_ (by rw[Ao];exact k4.mono T.hS T.keep);have:=World.ownsRow_lit (base:=0) (e:=e) (size:=te.size) w mQ.toArray len (aaj _) (by simp only[maxLen];have:=adp len hpos;omega) (by simp[k4.len,k5]);rw[Ao,k5];exact this)
     exact dW hrun (hnext _ _ _ S' _ _ _ k1 (bu.value o.dst hd _ _ (.ow _ _ fun _=>⟨.inr rfl,(aH _ _ _).symm⟩)))
    rename_i T4;obtain⟨de,fz,S',mQ,k1,k2,k3,k4,k5,k6,k9⟩:=yb hC ps.toList s.h S _ _ (fun es fz=>K (.ow (o.dst.getD 0)) fz (some (.jA es)))
     (fun p hp j hj=>hV j (by simp[aK,Op.operands];exact⟨p.1,by rw[<-hj];exact aal.1 hp⟩)) sim (pY.refl _) (Flat.zero false S w (hC.iq e te u9) hpos len) hq
    rw[aan]at k5;obtain⟨hL,hb⟩:=hn _ _ _ k1;have RL:(app s.h fz) (o.dst.getD 0)=.jA de:=by
     rw[iA (fun p hp (e:p.1=_)=>hL (by rw[<-e];exact k9 p hp)),hb]
    have hrun:(execOp a.eval o).run A.C.P w=.ok (.value (.slice (some ⟨w.heap.size,0,none⟩) len len)) (w.alloc (.cells mQ.toArray e)):=by
     have e0:len*te.size=(Array.range (len*te.size)).size:=by simp
     have WV:¬16777216<len*te.size:=by omega
     have T6:Instr.fill (fun i=>some (i*te.size,te.size)) ((Array.range (len*te.size)).map (te.zero.toArray[· % te.zero.toArray.size]!)) (ps.map fun p=>(p.1,a.eval p.2)).toList=some mQ.toArray:=by
      rw[adT];rw[<-k6]
     have hsz:(Go.sizeOf e).run A.C.P w=.ok te.size w:=(hC.iq e te u9).sizeOf w;simp only[execOp,aK,Instr.buildSlice,aau,run_underlying fK,ab5,hsz];rw[aaa (show ¬len*te.size>2 ^ 24 by omega)];by_cases h0:len*te.size=0
     ·rw[aap h0];have k7:Instr.fill (fun i=>some (i*te.size,te.size)) ((Array.range (len*te.size)).map ((#[]:Array Value)[· % (#[]:Array Value).size]!)) (ps.map fun p=>(p.1,a.eval p.2)).toList=some mQ.toArray:=by
       have OP:∀f:Nat->Value,(Array.range 0).map f=#[]:=fun f=>by apply adR;simp
       rw[<-T6,h0,OP,OP]
      simp only[aau,aa6,ab5];rw[k7];simp[newRow,newObj,Sem.run]
     rw[aaa h0];have WW:(zeroValue e).run A.C.P w=.ok ze w:=by simp[zeroValue,typeInfo,pO,ON]
     simp only[aau,aa6,ab5,WW];rw[OO,T6];simp[newRow,newObj,Sem.run]
    have Iq:Fr (fun _=>False) w (w.alloc (.cells mQ.toArray e)):=⟨rfl,rfl,rfl,by simp,fun k hk _=>acr _ _ _ hk⟩;have grow:=k2.TR hC (w.alloc (.cells mQ.toArray e)) Iq (fun b=>S' b\/b=w.heap.size) (fun b h=>.inl h) (fun b h=>by
     rcases h with h | h
     ·exact aaW (k2.st b h) Iq.size
     subst h;simp) (fun b h=>h.imp id fun h=>by omega)
    have rr:aG A.C.P (w.alloc (.cells mQ.toArray e)) (aO S' (w.alloc (.cells mQ.toArray e))) e de (.slice (some ⟨w.heap.size,0,none⟩) len len):=by
     refine aG.of_flat pO (by omega) ?_ (by rw[Ao];exact k4.mono (fun _ h=>h) (fun b hb=>acr _ _ _ (k2.st b hb)));have:=World.ownsRow_lit (base:=0) (e:=e) (size:=te.size) w mQ.toArray len (aaj _) (by simp only[maxLen];have:=adp len hpos;omega) (by simp[k4.len,k5]);rw[Ao,k5];exact this
    have OQ:aO (fun b=>S' b\/b=w.heap.size) (w.alloc (.cells mQ.toArray e)) (.sl de) (.slice (some ⟨w.heap.size,0,none⟩) len len):=rr.DT (fun b h=>.inl h) (fun g hg=>by simp[cC]at hg;exact .inr hg.symm);have bu:=grow.Ru (o.dst.getD 0) de (k2.pP hd) hL RL _ OQ;exact dW hrun (hnext _ _ _ _ _ _ _ k1 (bu.value o.dst hd _ _ (.ow _ _ fun _=>⟨.inr rfl,(aH _ _ _).symm⟩)))
   exact hq.elim
  exact hq.elim
 exact hq.elim
end Go.AM
namespace Go.AM
open Go.RowKit
theorem LP:∀{a b:List Nat},VY a b=true->a=b
 | [],[],_=>rfl
 | [],_::_,h=>by cases h
 | _::_,[],h=>by cases h
 | a::r,b::s,h=>by
  unfold VY at h;split at h
  ·rename_i e;rw[aa2 e,LP h]
  cases h
theorem LQ{a b:MK}(h:Ww a b=true):a=b:=by
 cases a with
 | str=>cases b with | str=>rfl | int k=>cases h | st s=>cases h
 | int k=>cases b with
  | str=>cases k<;>cases h
  | int k'=>cases k<;>cases k'<;>first | rfl | cases h
  | st s=>cases k<;>cases h
 | st s=>cases b with
  | str=>cases h
  | int k=>cases k<;>cases h
  | st s'=>rw[LP h]
def descOf:MK->TypeDesc
 | .str=>.string
 | .int k=>.int k
 | .st _=>.string
def Cq:MK->Prop
 | .st _=>False
 | _=>True
variable {mk:MK}
theorem Gf{P:Program}{t:TypeId}{ti:TI}(h:nV P t ti)(hp:Cq mk)(hm:Al ti=some mk):P.underlying t=some (descOf mk):=by
 have hu:=h.under;unfold Al at hm;cases WX:ti.ud<;>rw[WX]at hm hu<;>simp only at hm<;>first
  | (cases hm;done)
  | (injection hm with hm;subst hm;exact hu)
  | (
    split at hm
    ·obtain⟨s,_,rfl⟩:=acq.1 hm;exact hp.elim
    cases hm)
theorem Aq:∀{sh:List Nat} {cs:List PV} {l:List Value},l7 sh cs=some l->cs=l.map .im/\ae4 sh l:=by
 intro sh
 induction sh with
 | nil=>
  intro cs l h;cases cs with
  | nil=>injection h with h;subst h;exact⟨rfl,trivial⟩
  | cons c cs=>cases h
 | cons n sh ih=>
  intro cs l h;cases cs with
  | nil=>simp[l7]at h
  | cons c cs=>
   unfold l7 at h;split at h
   all_goals first
    | contradiction
    | (
      rename_i h1 h2;injection h1 with h1 tq;injection h2 with h2 we;subst h1 tq h2 we;obtain⟨l',hl,rfl⟩:=acq.1 h;obtain⟨i1,i2⟩:=ih hl;subst i1
      first
       | exact⟨rfl,trivial,i2⟩
       | exact⟨rfl,rfl,i2⟩)
    | (cases h)
theorem yc{a:AV}{k:Value}(h:keyOf mk a=some k):∃x,a=.p x/\mk.ok k/\∀S w v,aO S w x v->v=k:=by
 unfold keyOf at h;split at h
 ·injection h with h;subst h;exact⟨_,rfl,trivial,fun S w v hv=>hv.bS⟩
 ·injection h with h;subst h;exact⟨_,rfl,rfl,fun S w v hv=>hv.bS⟩
 ·obtain⟨l,hl,rfl⟩:=acq.1 h;obtain⟨rfl,h2⟩:=Aq hl;refine⟨_,rfl,by simpa [MK.ok] using h2,fun S w v hv=>?_⟩;obtain⟨xs,e1,Qo,_,WC⟩:=hv.su;rw[e1];congr 1;apply adR;apply ach;intro i;by_cases hi:i<xs.size
  ·have xB:i<l.length:=by
                  have:l.length=xs.size:=by simpa using Qo
                  omega
   have:=(WC i (.im l[i]) xs[i] (by rw[aak,acg xB];rfl) (aa1 hi)).bS;rw[aek,aa1 hi,this];simp[xB]
  have xB:¬i<l.length:=by
                  have:l.length=xs.size:=by simpa using Qo
                  omega
  rw[abI (by simpa using hi),abI (by simpa using xB)]
 cases h
theorem Gg(hp:Cq mk){a b:Value}(ha:mk.ok a)(hb:mk.ok b):Instr.sameNow (descOf mk) a b=some (Ak a b):=by
 cases mk with
 | str=>
  cases a<;>first | (exact ha.elim) | skip
  cases b<;>first | (exact hb.elim) | skip
  simp only[Instr.sameNow,descOf,Ak];congr 1;rw[abb,abT];simp
 | int k=>
  cases a<;>first | (exact ha.elim) | skip
  cases b<;>first | (exact hb.elim) | skip
  have h1:_=k:=ha;have h2:_=k:=hb;subst h1;subst h2;simp[Instr.sameNow,descOf,Ak];rw[abb];simp
 | st s=>exact hp.elim
theorem LR(hp:Cq mk){k:Value}(h:mk.ok k):MapKept.IsKey (descOf mk) k:=by
 cases mk with
 | str=>cases k<;>first | (exact h.elim) | exact trivial
 | int j=>cases k<;>first | (exact h.elim) | exact h
 | st s=>exact hp.elim
theorem bI.key{C:Ctx}(hC:bI C){kt:TypeId}{tk:TI}(h:C.T kt=some tk)(hm:Al tk=some mk):Ls C.P kt mk:=by
 by_cases hp:Cq mk
 ·have hu:=Gf (hC.iq kt tk h) hp hm;refine⟨fun e k w hk=>MapKept.run_checkKey hu (LR hp hk) e 9999,fun k w ms hk LS=>MapKept.run_findKey hu ?_⟩;generalize 0=i
  induction ms generalizing i with
  | nil=>rfl
  | cons m ms ih=>
   have hs:=Gg hp hk (LS m adU);unfold Instr.findNow rM;rw[hs];cases Ak k m.key with
   | true=>rfl
   | false=>exact ih (fun x hx=>LS x (aaw _ hx)) _
 cases mk with
 | st s=>exact hC.keys kt tk s h hm
 | str=>exact (hp trivial).elim
 | int j=>exact (hp trivial).elim
theorem OR:∀{sh:List Nat} {a b:List Value},ae4 sh a->ae4 sh b->DN a b=true->a=b:=by
 intro sh
 induction sh with
 | nil=>
  intro a b ha hb _;cases a with
  | nil=>cases b with
   | nil=>rfl
   | cons y b=>exact hb.elim
  | cons x a=>exact ha.elim
 | cons n sh ih=>
  intro a b ha hb h;cases a with
  | nil=>exact ha.elim
  | cons x a=>cases b with
   | nil=>exact hb.elim
   | cons y b=>
    simp only[DN,aaZ]at h;rw[ih ha.2 hb.2 h.2];have e:x=y:=by
     have h1:=ha.1;have h2:=hb.1;unfold F6 at h1 h2;split at h1
     ·split at h2<;>first | (exact h2.elim) | (rename_i e1;cases e1;done) | skip
      have:=h.1;simp[Jq]at this;rw[this]
     ·split at h2<;>first | (exact h2.elim) | (rename_i e1;cases e1;done) | skip
      have:=h.1;simp[Jq]at this;rw[this,h1,h2]
     ·split at h2<;>first | (exact h2.elim) | (rename_i e1;cases e1;done) | skip
      have:=h.1;simp[Jq]at this;rw[this]
     exact h1.elim
    rw[e]
theorem RM{a b:Value}(ha:mk.ok a)(hb:mk.ok b)(h:Ak a b=true):a=b:=by
 cases mk with
 | str=>
  cases a<;>first | (exact ha.elim) | skip
  cases b<;>first | (exact hb.elim) | skip
  simp[Ak]at h;rw[h]
 | int k=>
  cases a<;>first | (exact ha.elim) | skip
  cases b<;>first | (exact hb.elim) | skip
  have h1:_=k:=ha;have h2:_=k:=hb;subst h1;subst h2;simp[Ak]at h;rw[h]
 | st s=>
  cases a<;>first | (exact ha.elim) | skip
  cases b<;>first | (exact hb.elim) | skip
  congr 1;exact adR (OR (sh:=s) ha hb h)
theorem find_spec{k:Value}(hk:mk.ok k):∀(es:List (Value×PV)) (ms:List MapEntry) (j:Nat),ms.length=es.length->(∀(i:Nat) p m,es[i]?=some p->ms[i]?=some m->m.key=p.1/\mk.ok p.1)->
  (rM k ms j=none/\kz es k=none/\∀v,mP es k v=es++[(k,v)])\/
  ∃i m p,rM k ms j=some (j+i,m.val)/\ms[i]?=some m/\es[i]?=some p/\p.1=k/\kz es k=some p.2/\∀v,mP es k v=es.set i (k,v):=by
 intro es
 induction es with
 | nil=>
  intro ms j hl _;have:ms=[]:=adl hl;subst this;exact .inl ⟨rfl,rfl,fun v=>rfl⟩
 | cons p es ih=>
  intro ms j hl T7;cases ms with
  | nil=>cases hl
  | cons m ms=>
   obtain⟨k',u⟩:=p;obtain⟨h1,h2⟩:=T7 0 _ _ rfl rfl;simp only at h1 h2;cases hv:Ak k k' with
   | true=>
    refine .inr ⟨0,m,(k',u),?_,rfl,rfl,(RM hk h2 hv).symm,by simp[kz,hv],fun v=>by simp[mP,hv]⟩;simp[rM,h1,hv]
   | false=>
    rcases ih ms (j+1) (by simpa using hl) (fun i p m hp hm=>T7 (i+1) p m (by simpa using hp) (by simpa using hm)) with⟨q1,q2,q3⟩ | ⟨i,m',p,q1,q2,q3,q4,q5,q6⟩
    ·exact .inl ⟨by simp[rM,h1,hv,q1],by simp[kz,hv,q2],fun v=>by simp[mP,hv,q3 v]⟩
    refine .inr ⟨i+1,m',p,?_,by simpa using q2,by simpa using q3,q4,by simp[kz,hv,q5],fun v=>by simp[mP,hv,q6 v]⟩;simp only[rM,h1,hv,q1];rw[aaX,Nat.add_comm 1 i]
theorem yd{n:Nat}:∀{sh:List Nat} {l:List Value},ae4 sh l->((l.zip l).all fun (x,y)=>Instr.sameBits n x y)=true:=by
 intro sh
 induction sh with
 | nil=>intro l h;cases l with
  | nil=>rfl
  | cons x l=>exact h.elim
 | cons c sh ih=>
  intro l h;cases l with
  | nil=>exact h.elim
  | cons x l=>
   rw[List.zip_cons_cons,aaP,ih h.2,ac7];have h1:=h.1;unfold F6 at h1;split at h1
   ·cases n<;>exact (abT _ _).2 rfl
   ·cases n<;>simp[Instr.sameBits]
   ·cases n<;>simp[Instr.sameBits]
   exact h1.elim
theorem sameBits_self{k:Value}(hk:mk.ok k):Instr.sameBits 10000 k k=true:=by
 cases mk with
 | str=>
  cases k<;>first | (exact hk.elim) | skip
  simp only[Instr.sameBits];exact (abT _ _).2 rfl
 | int j=>
  cases k<;>first | (exact hk.elim) | skip
  simp[Instr.sameBits]
 | st s=>
  cases k<;>first | (exact hk.elim) | skip
  rename_i xs;show (xs.size==xs.size&&(xs.toList.zip xs.toList).all fun (x,y)=>Instr.sameBits 9999 x y)=true;rw[yd (sh:=s) hk];simp
variable {A:cD}
theorem Gh{o:Oper}(t:TypeId)(aK:o.op=.makeMap t none):iE A o:=by
 intro V L S rho s a w K next Q hC sim hV hd hq hn hnext
 simp only[bV,aK]at hq;split at hq
 ·split at hq
  ·split at hq
   ·obtain⟨hL,hdb⟩:=hn _ _ _ hq;have bu:=sim.new hC (o.dst.getD 0) _ (sim.pP hd) hL hdb (w.alloc (.map #[] 0)) rfl rfl rfl (by simp) (fun _=>False) (fun k hk _=>acr _ _ _ hk) (fun _ h=>h.elim) (.map (some w.heap.size))
     (fun g hg=>by simp[cC]at hg;subst hg;simp) (fun T=>by
      refine⟨w.heap.size,#[],0,aH _ _ _,(MapKept.heap_alloc w _).1,rfl,by simp⟩)
    exact dW (by simp[execOp,aK,Instr.makeMap]) (hnext _ _ _ S _ _ _ hq (bu.value o.dst hd _ _ (.ow _ _ fun _=>⟨.inr rfl,(aH _ _ _).symm⟩)))
   exact hq.elim
  exact hq.elim
 exact hq.elim
variable {w:World}
theorem A5{S:Nat->Prop}{P:Program}{L:Nat->Prop}{rho:Nat->Value}{h:Nat->AB}{id:Nat}{es:List (Value×PV)}(hh:eK S w P L rho h id (.map mk es)):
  ∃g ms clock,rho id=.map (some g)/\w.heap[g]?=some (.map ms clock)/\ms.size=es.length/\∀(i:Nat) p m,es[i]?=some p->ms[i]?=some m->m.key=p.1/\mk.ok p.1/\aO S w p.2 m.val:=hh
theorem LU{es:List (Value×PV)}{ms:Array MapEntry}{R:PV->Value->Prop}(h3:ms.size=es.length)(h4:∀(i:Nat) p m,es[i]?=some p->ms[i]?=some m->m.key=p.1/\mk.ok p.1/\R p.2 m.val):∀m∈ms.toList,mk.ok m.key:=by
 intro m hm;obtain⟨i,hi,rfl⟩:=ac8 hm;have xB:i<es.length:=by rw[<-h3];simpa using hi
 obtain⟨q1,q2,_⟩:=h4 i es[i] (ms.toList[i]) (acg xB) (by simp at hi;simp[hi]);rw[q1];exact q2
theorem Gi{P:Program}{t:TypeId}{ti:TI}(h:nV P t ti)(hz:F8 P t ti)(S:Nat->Prop)(w:World):∃z,(zeroValue t).run P w=.ok z w/\aO S w (xX ti) z:=by
 obtain⟨info,z,h1,h2,h3,h4,h5,h6,h7,h8⟩:=h;obtain⟨YT,z',g1,g2,g3⟩:=hz;rw[h1]at g1;injection g1 with g1;subst g1;rw[h4]at g2;injection g2 with g2;subst g2;refine⟨z,by simp[zeroValue,typeInfo,h1,h4],?_⟩;unfold xX;cases wb:ti.ud.agg with
 | true=>
  rw[wb]at g3;cases z<;>first | cases g3 | skip
  rename_i cs;have hc:cs=ti.zero.toArray:=h5;subst hc;refine .ag _ _ (by simp) (fun u hu=>h7 u (by simpa using hu)) fun i c v hi hv=>?_;rw[aak]at hi;obtain⟨u,hu,rfl⟩:=acq.1 hi;have:u=v:=by simpa [hu] using hv
  subst this;exact tn S w u
 | false=>
  rw[wb]at g3;have hc:z.cells=#[z]:=by cases z<;>first | rfl | cases g3
  rw[hc]at h5;have:ti.zero=[z]:=by simpa using (adV Array.toList h5).symm
  rw[this];exact tn S w z
theorem JH{o:Oper}(t:TypeId)(x i:Operand)(ck:Bool)(aK:o.op=.lookup t x i ck):iE A o:=by
 intro V L S rho s a w K next Q hC sim hV hd hq hn hnext
 simp only[bV,aK]at hq;have hx:=bp sim x fun j hj=>hV j (by simp[aK,Op.operands,hj]);have hi:=bp sim i fun j hj=>hV j (by simp[aK,Op.operands,hj]);split at hq
 case h_2=>exact hq.elim
 rename_i kt et size bytes zero eq hT;have fK:=(hC.iq t _ hT).under;simp only at fK;split at hq
 case h_2=>exact hq.elim
 rename_i tk te WY u9;split at hq
 case h_2=>exact hq.elim
 rename_i mk hmk;have OS:=hC.key WY hmk;split at hq
 case h_2=>exact hq.elim
 rename_i id hid;split at hq
 case h_2=>exact hq.elim
 rename_i mk' es Gj;split at hq
 case h_2=>exact hq.elim
 rename_i DW;obtain rfl:=LQ DW;split at hq
 case h_2=>exact hq.elim
 rename_i k hk;obtain⟨xk,V2,l_,WZ⟩:=yc hk;obtain⟨r,hr,hq⟩:=hq;rw[hid]at hx;obtain⟨hL,hv⟩:=hx.cH (by rw[Gj];trivial);have hh:=sim.hp id hL;rw[Gj]at hh;obtain⟨g,ms,clock,h1,h2,h3,h4⟩:=A5 hh;rw[V2]at hi;have hi:=WZ _ _ _ hi.eR;obtain⟨z,hz,hzr⟩:=Gi (hC.iq et te u9) (hC.zs et te u9) S w;have aeL:∀m∈ms.toList,mk.ok m.key:=LU h3 h4;have key:∃u,(Instr.lookup t (a.eval x) (a.eval i) ck).run A.C.P w=.ok (if ck then .tuple #[u,.bool r.isSome] else u) w/\aO S w (r.getD (xX te)) u:=by
  rcases find_spec l_ es ms.toList 0 (by simpa using h3) (fun i p m hp hm=>by obtain⟨q1,q2,_⟩:=h4 i p m hp (by simpa using hm);exact⟨q1,q2⟩) with⟨q1,q2,_⟩ | ⟨j,m,p,q1,q2,q3,q4,q5,_⟩
  ·rw[hr]at q2;subst q2;refine⟨z,?_,hzr⟩;cases ck<;>simp[Instr.lookup,run_underlying fK,hv,h1,abW h2,hi,OS.check _ _ _ l_,OS.find _ _ _ l_ aeL,q1,hz]
  rw[hr]at q5;subst q5;refine⟨m.val,?_,(h4 j p m q3 (by simpa using q2)).2.2⟩;cases ck<;>simp[Instr.lookup,run_underlying fK,hv,h1,abW h2,hi,OS.check _ _ _ l_,OS.find _ _ _ l_ aeL,q1]
 obtain⟨u,hrun,hu⟩:=key;cases ck with
 | true=>
  refine aM sim hd hnext hq (.tu _ _ rfl fun i c v hc hv=>?_) (by simp only[execOp,aK,aau,hrun,ab5,aa6];rfl)
  match i with
  | 0=>simp at hc hv;subst hc hv;exact .p _ _ hu
  | 1=>simp at hc hv;subst hc hv;exact .p _ _ (.im _)
  | i+2=>simp at hc
 | false=>exact aM sim hd hnext hq (.p _ _ hu) (by simp only[execOp,aK,aau,hrun,ab5,aa6];rfl)
theorem Cr{o:Oper}(t:TypeId)(x i y:Operand)(aK:o.op=.mapUpdate t x i y):iE A o:=by
 intro V L S rho s a w K next Q hC sim hV hd hq hn hnext
 simp only[bV,aK]at hq;have hx:=bp sim x fun j hj=>hV j (by simp[aK,Op.operands,hj]);have hi:=bp sim i fun j hj=>hV j (by simp[aK,Op.operands,hj]);have hy:=bp sim y fun j hj=>hV j (by simp[aK,Op.operands,hj]);split at hq
 case h_2=>exact hq.elim
 rename_i kt et size bytes zero eq hT;have fK:=(hC.iq t _ hT).under;simp only at fK;split at hq
 case h_2=>exact hq.elim
 rename_i tk WY;split at hq
 case h_2=>exact hq.elim
 rename_i mk hmk;have OS:=hC.key WY hmk;split at hq
 case h_2=>exact hq.elim
 rename_i id hid;split at hq
 case h_2=>exact hq.elim
 rename_i mk' es Gj;split at hq
 case h_2=>exact hq.elim
 rename_i DW;obtain rfl:=LQ DW;split at hq
 case h_2=>exact hq.elim
 rename_i k hk;obtain⟨xk,V2,l_,WZ⟩:=yc hk;obtain⟨yv,fz,S2,hq,bu,hrep,xC,hF,DI⟩:=ir hC sim (pY.refl s.h) hy hq;split at hq
 case h_2=>exact hq.elim
 rename_i DJ;have oE:app s.h fz id=.map mk es:=by rw[l9 DJ];exact Gj
 rw[hid]at hx;obtain⟨hL,hv⟩:=hx.cH (by rw[Gj];trivial);have hh:=bu.hp id hL;have hh:eK S2 w A.C.P L rho (app s.h fz) id (app s.h fz id):=hh;rw[oE]at hh;obtain⟨g,ms,clock,h1,h2,h3,h4⟩:=A5 hh;rw[V2]at hi;have hi:=WZ _ _ _ hi.eR;have aeL:∀m∈ms.toList,mk.ok m.key:=LU h3 h4;have fin:∀Qw vd,(Instr.mapUpdate t (a.eval x) (a.eval i) (a.eval y)).run A.C.P w=.ok () { w with heap:=w.heap.setIfInBounds g (.map Qw vd) }->Qw.size=(mP es k yv).length ->
   (∀(i:Nat) p m,(mP es k yv)[i]?=some p->Qw[i]?=some m->m.key=p.1/\mk.ok p.1/\aO S2 w p.2 m.val)->o.wp A.C.P a w next Q:=by
  intro Qw vd hrun hsz W0;obtain⟨g1,g2⟩:=MapKept.heap_set (o':=.map Qw vd) h2;refine qc (w':={ w with heap:=w.heap.setIfInBounds g (.map Qw vd) }) (by simp only[execOp,aK,aau,hrun,ab5,aa6]) ?_;have aeI:=bu.write hC id hL (by show (app s.h fz id).live;rw[oE];trivial) (.map mk (mP es k yv)) (fun _ h=>by cases h) { w with heap:=w.heap.setIfInBounds g (.map Qw vd) } rfl rfl rfl (by simp) (fun k hk=>g2 k fun e=>hk (by rw[h1,e];rfl)) fun T=>by
   refine⟨g,Qw,vd,h1,g1,hsz,fun i p m hp hm=>?_⟩;obtain⟨q1,q2,q3⟩:=W0 i p m hp hm;exact⟨q1,q2,q3.mono T.hS T.keep⟩
  have:=hnext _ _ _ S2 _ _ _ hq (by
   rw[cy];exact aeI.value o.dst hd .junk undef (.junk _))
  exact this
 rcases find_spec l_ es ms.toList 0 (by simpa using h3) (fun i p m hp hm=>by obtain⟨q1,q2,_⟩:=h4 i p m hp (by simpa using hm);exact⟨q1,q2⟩) with⟨q1,q2,q3⟩ | ⟨j,m,p,q1,q2,q3,q4,q5,q6⟩
 ·refine fin (ms.push { key:=k,val:=a.eval y,born:=clock }) (clock+1) ?_ (by rw[q3];simp[h3]) fun i p m hp hm=>?_
  ·simp[Instr.mapUpdate,run_underlying fK,hv,h1,abW h2,hi,OS.check _ _ _ l_,OS.find _ _ _ l_ aeL,q1,MapKept.run_setObj_map _ h2]
  rw[q3]at hp;by_cases eF:i<es.length
  ·rw[aaE eF]at hp;rw[Array.getElem?_push_lt (by omega)]at hm;exact h4 i p m hp (by rw[<-hm];exact aa1 _)
  have pO:i=es.length:=by
   have:=aD hp;simp at this;omega
  subst pO;rw[<-h3]at hm;simp at hp hm;subst hp hm;exact⟨rfl,l_,hrep⟩
 have LS:ms[j]?=some m:=by simpa using q2
 have hmk:m.key=k:=by rw[<-q4];exact (h4 j p m q3 LS).1
 refine fin (ms.modify j fun e=>{ e with key:=k,val:=a.eval y }) clock ?_ (by rw[q6];simp[h3]) fun i p' m' hp hm=>?_
 ·simp[Instr.mapUpdate,run_underlying fK,hv,h1,abW h2,hi,OS.check _ _ _ l_,OS.find _ _ _ l_ aeL,q1,LS,hmk,Instr.keyThatStays,sameBits_self l_,MapKept.run_setObj_map _ h2]
 rw[q6]at hp;rw[aac]at hm;by_cases e:j=i
 ·subst e;rw[aap rfl,LS]at hm;rw[ab7 (aD q3)]at hp;simp at hp hm;subst hp hm;exact⟨rfl,l_,hrep⟩
 rw[aaa e]at hm;rw[ac5 e]at hp;exact h4 i p' m' hp hm
theorem ok_slice{o:Oper}(t:TypeId)(x:Operand)(lo hi:Option Operand)(aK:o.op=.slice t x lo hi none):iE A o:=by
 intro V L S rho s a w K next Q hC sim hV hd hq hn hnext
 have old:=JB t x lo hi aK hC sim hV hd (K:=K) (Q:=Q) (next:=next);simp only[bV,aK]at hq;split at hq
 case h_2=>exact old hq hnext
 rename_i id hid;split at hq
 case h_2=>exact old hq hnext
 rename_i e' es az;rcases hq with hq | hq
 case inr=>exact old hq hnext
 have hx:=bp sim x fun j hj=>hV j (by simp[aK,Op.operands,hj]);have Ik:∀y,lo=some y->aY S w A.C.P L rho s.h (ev s.t y) (a.eval y):=fun y hy=>bp sim y fun j hj=>hV j (by simp[aK,Op.operands,hj,hy]);have Il:∀y,hi=some y->aY S w A.C.P L rho s.h (ev s.t y) (a.eval y):=fun y hy=>bp sim y fun j hj=>hV j (by simp[aK,Op.operands,hj,hy]);unfold td at hq;split at hq
 case h_2=>exact hq.elim
 rename_i e size bytes zero eq hT;have fK:=(hC.iq t _ hT).under;simp only at fK;split at hq
 case h_2=>exact hq.elim
 rename_i u_;obtain rfl:=hZ u_;split at hq
 case h_2=>exact hq.elim
 rename_i k m k' n h1 h2;obtain⟨⟨h3,h4,h5⟩,hq⟩:=hq;rw[hid]at hx;obtain⟨hL,hv⟩:=hx.cH (by rw[az];trivial);have hh:=sim.hp id hL;rw[az]at hh;have hh:aG A.C.P w (aO S w) e' es (rho id):=hh;obtain⟨ie,xs,pO,hpos,hown,_⟩:=hh;have Ir:∃ad c,rho id=.slice ad es.length c/\es.length<=c:=by
  rcases hown.2 with⟨g1,g2⟩ | ⟨g,cap,cur,g1,_,_,g2,_⟩
  ·exact⟨none,0,by rw[g1,g2],by omega⟩
  exact⟨_,cap,g1,g2⟩
 obtain⟨ad,c,Ir,hle⟩:=Ir;have hb:=ya sim lo hi Ik Il true es.length c k m k' n hle h1 h2 h3 h4 h5;refine aM sim hd hnext hq (.vw id _ _ _ fun e2 qZ=>?_) (by simp[execOp,aK,Instr.sliceAt,Instr.slice,hv,Ir,run_underlying fK,hb,Go.sizeOf,typeInfo,pO];rfl);rw[az]at qZ;injection qZ with qZ;subst qZ;exact⟨hL,es.length,c,ad,ie,Ir,pO,by omega,by omega,hle,rfl⟩
theorem Flat.take{S:Nat->Prop}{k:Nat}{es:List (List PV)}{xs:List Value}(h:Flat S w k es xs)(n:Nat)(hn:n<=es.length):Flat S w k (es.take n) (xs.take (n*k)):=by
 have T1:n*k<=es.length*k:=abf _ hn;refine⟨by rw[aat,aat,h.len];rw[ac9 T1,ac9 hn],fun r hr=>h.row r (acM hr),fun u hu=>h.one u (acM hu),fun i r j x hi hj=>?_⟩;have xD:=aD hi;rw[aat]at xD;rw[aa0 (by omega)]at hi;obtain⟨u,h1,h2⟩:=h.rep i r j x hi hj;have hjk:j<k:=by rw[<-h.row r (aad hi)];exact aD hj
 refine⟨u,?_,h2⟩;rw[aa0,h1];have:=abf k (show i+1<=n by omega);rw[aa3]at this;omega
theorem Flat.drop{S:Nat->Prop}{k:Nat}{es:List (List PV)}{xs:List Value}(h:Flat S w k es xs)(n:Nat):Flat S w k (es.drop n) (xs.drop (n*k)):=by
 refine⟨by rw[aaN,aaN,h.len,Nat.sub_mul],fun r hr=>h.row r (abq hr),fun u hu=>h.one u (abq hu),fun i r j x hi hj=>?_⟩;rw[aas]at hi;obtain⟨u,h1,h2⟩:=h.rep (n+i) r j x hi hj;refine⟨u,?_,h2⟩;rw[aas,<-h1];congr 1;rw[abR,aaX]
theorem LV{o:Oper}(c:Call)(aK:o.op=.call c)(hc:c.callee=.builtin .clear):iE A o:=by
 intro V L S rho s a w K next Q hC sim hV hd hq _ hnext
 obtain⟨callee,args,argTypes⟩:=c;simp only at hc;subst hc;simp only[bV,aK,aeC,fy]at hq;split at hq
 case h_2=>exact hq.elim
 rename_i x t hargs LJ;have hx:=bp sim x fun j hj=>hV j (by simp[aK,Op.operands,Call.operands,hj];rw[<-hj];exact aal.1 (by rw[hargs];simp));have e1:args=#[x]:=by rw[<-aaY (xs:=args),hargs]
 have e2:argTypes=#[t]:=by rw[<-aaY (xs:=argTypes),LJ]
 subst e1 e2;split at hq
 case h_2=>exact hq.elim
 rename_i e size bytes zero eq hT;have fK:=(hC.iq t _ hT).under;simp only at fK;split at hq
 case h_2=>exact hq.elim
 rename_i ti u9;split at hq
 case h_2=>exact hq.elim
 rename_i id lo hi hid;split at hq
 case h_2=>exact hq.elim
 rename_i e' es az;split at hq
 case h_2=>exact hq.elim
 rename_i Is;simp only[aaZ]at Is;obtain⟨u_,hpos⟩:=Is;obtain⟨⟨hlh,hhl⟩,hq⟩:=hq;obtain rfl:=hZ u_;have hpos:0<ti.size:=abA hpos;rw[hid]at hx;obtain⟨hL,n,cp,ad,WG,lF,xB,_,hhn,Qq,hval⟩:=hx.Cj az;have hh:=sim.hp id hL;rw[az]at hh;have hh:aG A.C.P w (aO S w) e' es (rho id):=hh;obtain⟨ie,ze,pO,Ao,On,ON,OO,jg⟩:=(hC.iq e' ti u9).info;rw[pO]at xB;injection xB with xB;subst xB;obtain⟨xs,Li,hown,wg⟩:=aG.flat pO hh;have fin:∀w',(∀ty,(Builtin.clear_ #[t] ty #[a.eval x]).run A.C.P w=.ok (.tuple #[]) w')->b7 A V L S rho ⟨s.t,aT s.h id (.row e' (es.take lo++List.replicate (hi-lo) (ti.zero.map xi)++es.drop hi))⟩ a w'->o.wp A.C.P a w next Q:=by
  intro w' hrun b9;exact dW (v:=.tuple #[]) (by simp[execOp,aK,resolve,invoke,builtin,hrun]) (hnext _ _ _ S _ _ _ hq (b9.value o.dst hd (.tu []) _ (.tu [] #[] rfl (by simp))))
 by_cases heq:hi=lo
 ·subst heq;refine fin w (fun ty=>?_) ?_
  ·rw[hval,aab];cases (if cp=hi then ad else ad.map (·.add (hi*ie.size)))<;>simp[Builtin.clear_,run_underlying fK]
  rw[aab,List.replicate_zero,acw,aaU,jf _ _ _ az];exact sim
 rcases hown.2 with⟨g1,g2⟩ | ⟨g,cap,cur,g1,_,g3,g4,g5,g6,g7⟩
 ·exact absurd g2 (by omega)
 have Qx:=lF;rw[g1]at Qx;injection Qx with r1 r2 r3;subst r1 r2 r3;have WL:a.eval x=.slice (some ⟨g,lo*ie.size,none⟩) (hi-lo) (cap-lo):=by
  rw[hval,aaa (by omega)];simp only[ab6,Addr.add];split
  ·rename_i h0;rw[h0]
  simp
 have WM:((Array.range ((hi-lo)*ti.size)).map (ti.zero.toArray[· % ti.zero.toArray.size]!))=Builtin.zeroCells ze.cells (hi-lo):=by
  unfold Builtin.zeroCells;rw[OO,(show ti.zero.toArray.size=ti.size by simpa using (hC.iq e' ti u9).Lx)]
 have hz:=Flat.zero false S w (hC.iq e' ti u9) hpos (hi-lo);rw[WM,<-Ao]at hz;have je:(Builtin.zeroCells ze.cells (hi-lo)).toList.length=(hi-lo)*ie.size:=by rw[hz.len,aan]
 have Cs:hi*ie.size<=cap*ie.size:=abf _ (by omega);have W1:lo*ie.size+(hi-lo)*ie.size=hi*ie.size:=by rw[<-abR];congr 1;omega
 have xl:=run_storeCells_at A.C.P g (lo*ie.size) e' (Builtin.zeroCells ze.cells (hi-lo)).toList 0 cur w g3 (by rw[je,g6];omega) hz.one;simp only[abQ]at xl;have JI:hi-lo≠0:=by omega
 refine fin (w.setRow g (cur.toList.take (lo*ie.size)++(Builtin.zeroCells ze.cells (hi-lo)).toList++cur.toList.drop (lo*ie.size+(Builtin.zeroCells ze.cells (hi-lo)).toList.length)).toArray) (fun ty=>?_) ?_
 ·rw[WL];cases hk:hi-lo with
  | zero=>exact absurd hk JI
  | succ m=>
   rw[hk]at xl;simp[Builtin.clear_,run_underlying fK,zeroValue,typeInfo,pO,ON,xl]
 refine sim.write hC id hL (by rw[az];trivial) _ (fun e2 h=>by rw[az];exact h) _ (setRow_os w g _) (setRow_tape w g _) (setRow_output w g _) (setRow_size w g _) (fun k hk=>setRow_other w g k _ fun e=>hk (by rw[g1,e];rfl)) fun T=>?_;show aG A.C.P _ _ e' _ (rho id);have hF:Flat S w ie.size (es.take lo++List.replicate (hi-lo) (ti.zero.map xi)++es.drop hi) (xs.take (lo*ie.size)++(Builtin.zeroCells ze.cells (hi-lo)).toList++xs.drop (hi*ie.size)):=((wg.take lo (by omega)).app hz).app (wg.drop hi);refine aG.of_flat pO Li ?_ (hF.mono T.hS T.keep);have YU:(es.take lo++List.replicate (hi-lo) (ti.zero.map xi)++es.drop hi).length=es.length:=by simp;omega
 rw[YU];refine⟨by rw[hF.len,YU],.inr ⟨g,cap,_,g1,aaj _,setRow_heap w g cur _ e' (0,0) g3,g4,g5,?_,?_⟩⟩
 ·rw[aaf,acv,acv,je,aat,aaN,abj,g6];omega
 rw[<-g7,je,W1];have h1:lo*ie.size<=es.length*ie.size:=abf _ (by omega);have h2:hi*ie.size<=es.length*ie.size:=abf _ hhl;have h3:es.length*ie.size<=cap*ie.size:=abf _ g4;simp only[List.take_append,acv,aat,abj,g6,je,acx,List.drop_take];rw[ac9 (show lo*ie.size<=cap*ie.size by omega),ac9 h1];rw[Nat.min_eq_right h1,adW (l:=(Builtin.zeroCells ze.cells (hi-lo)).toList) (by rw[je];omega)];rw[show es.length*ie.size-(lo*ie.size+(hi-lo)*ie.size)=es.length*ie.size-hi*ie.size by omega]
end Go.AM
