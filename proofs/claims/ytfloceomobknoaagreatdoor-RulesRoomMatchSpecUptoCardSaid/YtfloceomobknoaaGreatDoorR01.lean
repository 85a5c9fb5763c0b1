/- Part 1 of the proof of RulesRoomMatchSpec. -/
import Derived.StillTail
import Derived.OwnWalk
import Derived.WalkKit
import Derived.Lib.Hide
import Derived.Below
import Derived.MapKept
set_option linter.unusedVariables false
set_option linter.unusedSimpArgs false
set_option maxRecDepth 100000
set_option maxHeartbeats 8000000
namespace Go
abbrev aaV:=@Bool.eq_false_iff
abbrev aa2:=@Nat.eq_of_beq_eq_true
abbrev adP:=@Go.World.cell?_of_block
abbrev aam:=@Nat.le_refl
abbrev aaF:=@Nat.le_trans
abbrev aaW:=@Nat.lt_of_lt_of_le
abbrev aad:=@List.mem_of_getElem?
abbrev aao:=@List.getElem?_eq_some_iff
abbrev aa7:=@List.getElem?_take
abbrev ac4:=@Array.getD_eq_getD_getElem?
abbrev aei:=@Array.getElem?_setIfInBounds
abbrev aaa:=@if_neg
abbrev abh:=@List.all_eq_true
abbrev aak:=@List.getElem?_map
abbrev aa1:=@Array.getElem?_eq_getElem
abbrev abb:=@Bool.eq_iff_iff
abbrev aaH:=@decide_eq_true_eq
abbrev adQ:=@Go.ByteArray.toList_eq
abbrev adR:=@Array.ext'
abbrev acq:=@Option.map_eq_some_iff
abbrev aau:=@Go.Sem.run_bind
abbrev aaJ:=@Go.Addr.add_lit
abbrev acg:=@List.getElem?_eq_getElem
abbrev aas:=@List.getElem?_drop
abbrev abA:=@Nat.le_of_ble_eq_true
abbrev abP:=@List.getElem?_range
abbrev abC:=@Nat.zero_add
abbrev aaX:=@Nat.add_assoc
abbrev ab5:=@Go.Result.andThen_ok
abbrev aa6:=@Go.Sem.run_pure
abbrev abq:=@List.mem_of_mem_drop
abbrev acM:=@List.mem_of_mem_take
abbrev abQ:=@Nat.add_zero
abbrev abR:=@Nat.add_mul
abbrev ab6:=@Option.map_some
abbrev abr:=@Array.mem_of_getElem?
abbrev adl:=@List.eq_nil_of_length_eq_zero
abbrev aaT:=@Iff.rfl
abbrev abi:=@List.mem_append
abbrev aay:=@Nat.le_of_eq
abbrev acr:=@Go.RowKit.Below.heap_alloc
abbrev acs:=@List.length_nil
abbrev aaB:=@List.length_cons
abbrev aap:=@if_pos
abbrev aab:=@Nat.sub_self
abbrev ab7:=@List.getElem?_set_self
abbrev abc:=@List.getElem?_cons_succ
abbrev ac5:=@List.getElem?_set_ne
abbrev abx:=@List.append_assoc
abbrev aaE:=@List.getElem?_append_left
abbrev aa0:=@List.getElem?_take_of_lt
abbrev acu:=@List.getElem?_append_right
abbrev aa3:=@Nat.succ_mul
abbrev abf:=@Nat.mul_le_mul_right
abbrev aaM:=@List.length_set
abbrev aaj:=@Nat.zero_le
abbrev aaf:=@List.size_toArray
abbrev acv:=@List.length_append
abbrev aat:=@List.length_take
abbrev aaN:=@List.length_drop
abbrev abj:=@Array.length_toList
abbrev ach:=@List.ext_getElem?
abbrev abI:=@List.getElem?_eq_none
abbrev abg:=@List.mem_or_eq_of_mem_set
abbrev ab8:=@List.mem_iff_getElem?
abbrev aa4:=@Nat.lt_or_gt_of_ne
abbrev adm:=@Nat.succ_le_of_lt
abbrev abS:=@List.length_singleton
abbrev aaZ:=@Bool.and_eq_true
abbrev aal:=@Array.mem_toList_iff
abbrev aaY:=@Array.toArray_toList
abbrev abW:=@Go.MapKept.run_getObj_map
abbrev ac6:=@Int.max_def
abbrev adn:=@List.getElem_mem
abbrev abt:=@Nat.mod_lt
abbrev ado:=@List.eq_of_mem_replicate
abbrev aej:=@List.length_map
abbrev aae:=@List.exists_mem_of_ne_nil
abbrev adS:=@List.mem_map
abbrev aan:=@List.length_replicate
abbrev aaq:=@List.foldl_cons
abbrev aa8:=@List.map_cons
abbrev aa5:=@List.mapM_cons
abbrev adT:=@Array.toList_map
abbrev adp:=@Nat.le_mul_of_pos_right
abbrev aek:=@Array.getElem?_toList
abbrev abT:=@Go.MapKept.bytes_beq
abbrev adU:=@List.mem_cons_self
abbrev aaw:=@List.mem_cons_of_mem
abbrev aaP:=@List.all_cons
abbrev ac7:=@Bool.and_true
abbrev ac8:=@List.getElem_of_mem
abbrev adV:=@congrArg
abbrev aac:=@Array.getElem?_modify
abbrev ac9:=@Nat.min_eq_left
abbrev acw:=@List.append_nil
abbrev aaU:=@List.take_append_drop
abbrev acx:=@List.take_take
abbrev adW:=@List.take_of_length_le
end Go
namespace Go.AM
open Go.RowKit
inductive PV where
 | im (x:Value)
 | ag (cs:List PV)
 | sl (es:List (List PV))
 | ip (cs:List PV)
 | fn (f:FuncId) (cap:List PV)
inductive AV where
 | p (x:PV)
 | nl
 | ow (id:Nat)
 | rp (id i off:Nat)
 | bx (id off:Nat)
 | vw (id lo hi:Nat)
 | fn (f:FuncId) (cap:List AV)
 | tu (xs:List AV)
 | st (xs:List AV)
 | junk
inductive MK where
 | str
 | int (k:IntKind)
 | st (sh:List Nat)
def F6:Nat->Value->Prop
 | 0,.string _=>True
 | 1,.int k _=>k=.i64
 | 2,.bool _=>True
 | _,_=>False
def ae4:List Nat->List Value->Prop
 | [],[]=>True
 | n::s,v::r=>F6 n v/\ae4 s r
 | _,_=>False
def MK.ok:MK->Value->Prop
 | .str,.string _=>True
 | .int k,.int k' _=>k'=k
 | .st sh,.agg xs=>ae4 sh xs.toList
 | _,_=>False
inductive HC where
 | p (x:PV)
 | row (e:TypeId) (es:List (List PV))
def HC.isRow:HC->Prop
 | .row ..=>True
 | _=>False
inductive HX where
 | av (x:AV)
 | row (e:TypeId) (es:List (List PV))
inductive AB where
 | none
 | row (e:TypeId) (es:List (List PV))
 | jA (es:List (List PV))
 | box (cs:List AV)
 | gC (ty:TypeId) (cs:List AV)
 | jd (cs:List PV)
 | map (mk:MK) (es:List (Value×PV))
 | aN (cs:List HC)
 | az (e:TypeId) (es:List (List HX))
def AB.live:AB->Prop
 | .row .. | .box .. | .gC .. | .map .. | .aN .. | .az ..=>True
 | _=>False
def AB.oG:AB->Option TypeId
 | .row e _=>some e
 | .az e _=>some e
 | _=>Option.none
def AB.there:AB->Prop
 | .none=>False
 | _=>True
structure AS where
 t:Nat->AV
 h:Nat->AB
def aT{α:Type}(f:Nat->α)(i:Nat)(x:α)(j:Nat):α:=match Nat.beq j i with | true=>x | false=>f j
variable {α:Type}
theorem aH(f:Nat->α)(i:Nat)(x:α):aT f i x i=x:=by simp[aT]
theorem aV(f:Nat->α){i j:Nat}(x:α)(h:j≠i):aT f i x j=f j:=by
 unfold aT;have:Nat.beq j i=false:=by rw[aaV];intro e;exact h (aa2 e)
 rw[this]
theorem jf(f:Nat->α)(i:Nat)(x:α)(h:f i=x):aT f i x=f:=by
 funext j;by_cases e:j=i
 ·subst e;rw[aH,h]
 rw[aV _ _ e]
inductive aO(S:Nat->Prop)(w:World):PV->Value->Prop
 | im (x:Value):aO S w (.im x) x
 | ag (cs:List PV) (vs:Array Value) (hl:cs.length=vs.size) (h1:∀u∈vs.toList,u.oneCell'=true) (h:∀(i:Nat) c v,cs[i]?=some c->vs[i]?=some v->aO S w c v):aO S w (.ag cs) (.agg vs)
 | nil (a:Option Addr) (c:Nat):aO S w (.sl []) (.slice a 0 c)
 | sl (es:List (List PV)) (k b off c:Nat) (U:Nat->Nat->Value) (hc:es.length<=c) (hS:S b) (hk:∀e∈es,e.length=k)
   (hcell:∀(i:Nat) e (j:Nat) x,es[i]?=some e->e[j]?=some x->w.cell? ⟨b,off+i*k+j,none⟩=some (U i j)/\(U i j).oneCell'=true)
   (h:∀(i:Nat) e (j:Nat) x,es[i]?=some e->e[j]?=some x->aO S w x (U i j)):aO S w (.sl es) (.slice (some ⟨b,off,none⟩) es.length c)
 | ip (cs:List PV) (b off:Nat) (U:Nat->Value) (hS:S b) (hcell:∀(j:Nat) x,cs[j]?=some x->w.cell? ⟨b,off+j,none⟩=some (U j)/\(U j).oneCell'=true)
   (h:∀(j:Nat) x,cs[j]?=some x->aO S w x (U j)):aO S w (.ip cs) (.pointer (some ⟨b,off,none⟩))
 | fn (f:FuncId) (cap:List PV) (vs:Array Value) (hl:cap.length=vs.size) (h:∀(i:Nat) c v,cap[i]?=some c->vs[i]?=some v->aO S w c v):aO S w (.fn f cap) (.func (.func f) #[] vs)
variable {w w':World}
theorem aO.mono{S S':Nat->Prop}{x:PV}{v:Value}(h:aO S w x v)(hS:∀b,S b->S' b)(D:∀b,S b->w'.heap[b]?=w.heap[b]?):aO S' w' x v:=by
 induction h with
 | im x=>exact .im x
 | ag cs vs hl z h ih=>exact .ag cs vs hl z ih
 | nil a c=>exact .nil a c
 | sl es k b off c U hc hb hk hcell h ih=>exact .sl es k b off c U hc (hS b hb) hk (fun i e j x z I=>⟨(adP (D b hb)).trans (hcell i e j x z I).1,(hcell i e j x z I).2⟩) ih
 | ip cs b off U hb hcell h ih=>exact .ip cs b off U (hS b hb) (fun j x z=>⟨(adP (D b hb)).trans (hcell j x z).1,(hcell j x z).2⟩) ih
 | fn f cap vs hl h ih=>exact .fn f cap vs hl ih
structure Fr(mv:Nat->Prop)(w w':World):Prop where
 os:w'.os=w.os
 tape:w'.tape=w.tape
 output:w'.output=w.output
 size:w.heap.size<=w'.heap.size
 block:∀k,k<w.heap.size->¬mv k->w'.heap[k]?=w.heap[k]?
theorem Fr.refl(mv:Nat->Prop)(w:World):Fr mv w w:=⟨rfl,rfl,rfl,aam _,fun _ _ _=>rfl⟩
theorem Fr.trans{mv z:Nat->Prop}{a b c:World}(h:Fr mv a b)(k:Fr z b c)(J:∀i,z i->mv i\/a.heap.size<=i):Fr mv a c:=
 ⟨k.os.trans h.os,k.tape.trans h.tape,k.output.trans h.output,aaF h.size k.size,fun i hi D=>
  (k.block i (aaW hi h.size) (fun N=>by rcases J i N with I | I;exact D I;omega)).trans (h.block i hi D)⟩
def aG{α:Type}(P:Program)(w:World)(R:α->Value->Prop)(e:TypeId)(es:List (List α))(v:Value):Prop:=
 ∃i xs,P.info? e=some i/\0<i.size/\w.ownsRow 0 e i.size v es.length xs/\(∀r∈es,r.length=i.size)/\(∀u∈xs,u.oneCell'=true)/\
  ∀(a:Nat) r (j:Nat) x,es[a]?=some r->r[j]?=some x->∃u,xs[a*i.size+j]?=some u/\R x u
def cC:Value->Option Nat
 | .slice (some a) _ _=>some a.block
 | .pointer (some a)=>some a.block
 | .map (some g)=>some g
 | _=>none
inductive aY(S:Nat->Prop)(w:World)(P:Program)(L:Nat->Prop)(rho:Nat->Value)(h:Nat->AB):AV->Value->Prop
 | p (x:PV) (v:Value) (hx:aO S w x v):aY S w P L rho h (.p x) v
 | nl:aY S w P L rho h .nl (.slice none 0 0)
 | ow (id:Nat) (v:Value) (hv:(h id).there->L id/\v=rho id):aY S w P L rho h (.ow id) v
 | rp (id i off:Nat) (v:Value) (hv:∀e,(h id).oG=some e->L id/\∃g n c ti,rho id=.slice (some ⟨g,0,none⟩) n c/\P.info? e=some ti/\v=.pointer (some ⟨g,i*ti.size+off,none⟩)):aY S w P L rho h (.rp id i off) v
 | bx (id off:Nat) (v:Value) (hv:(h id).there->L id/\∃g,rho id=.pointer (some ⟨g,0,none⟩)/\v=.pointer (some ⟨g,off,none⟩)):aY S w P L rho h (.bx id off) v
 | vw (id lo hi:Nat) (v:Value) (hv:∀e,(h id).oG=some e->L id/\∃n c a ti,rho id=.slice a n c/\P.info? e=some ti/\lo<=hi/\hi<=n/\n<=c/\v=.slice (if c=lo then a else a.map (·.add (lo*ti.size))) (hi-lo) (c-lo)):aY S w P L rho h (.vw id lo hi) v
 | fn (f:FuncId) (cap:List AV) (vs:Array Value) (hl:cap.length=vs.size) (hc:∀(i:Nat) c v,cap[i]?=some c->vs[i]?=some v->aY S w P L rho h c v):aY S w P L rho h (.fn f cap) (.func (.func f) #[] vs)
 | tu (xs:List AV) (vs:Array Value) (hl:xs.length=vs.size) (hc:∀(i:Nat) c v,xs[i]?=some c->vs[i]?=some v->aY S w P L rho h c v):aY S w P L rho h (.tu xs) (.tuple vs)
 | st (xs:List AV) (vs:Array Value) (hl:xs.length=vs.size) (h1:∀u∈vs.toList,u.oneCell'=true) (hc:∀(i:Nat) c v,xs[i]?=some c->vs[i]?=some v->aY S w P L rho h c v):aY S w P L rho h (.st xs) (.agg vs)
 | junk (v:Value):aY S w P L rho h .junk v
def Qm(S:Nat->Prop)(w:World)(P:Program):HC->Value->Prop
 | .p x,u=>aO S w x u
 | .row e es,u=>aG P w (aO S w) e es u
structure Jp(S:Nat->Prop)(w:World)(P:Program)(cs:List HC)(g:Nat)(ty:TypeId)(c:Array Value):Prop where
 hp:w.heap[g]?=some (.cells c ty (0,0))
 sz:c.size=cs.length
 cell:∀(j:Nat) x u,cs[j]?=some x->c[j]?=some u->u.oneCell'=true/\Qm S w P x u
 top:∀(j:Nat) x u b,cs[j]?=some x->c[j]?=some u->x.isRow->cC u=some b->b≠g
 dis:∀(i j:Nat) x y u v b,cs[i]?=some x->cs[j]?=some y->c[i]?=some u->c[j]?=some v->x.isRow->y.isRow->cC u=some b->cC v=some b->i=j
def rK(S:Nat->Prop)(w:World)(P:Program)(L:Nat->Prop)(rho:Nat->Value)(h:Nat->AB):HX->Value->Prop
 | .av x,u=>aY S w P L rho h x u
 | .row e es,u=>aG P w (aO S w) e es u
def dF(w:World)(es:List (List HX))(g:Nat)(a j:Nat)(u:Value):Prop:=∃(r:List HX) (e:TypeId) (xs:List (List PV)) (c:Array Value) (ty:TypeId) (m:Nat×Nat),es[a]?=some r/\r[j]?=some (.row e xs)/\w.heap[g]?=some (.cells c ty m)/\c[a*r.length+j]?=some u
structure uZ(w:World)(es:List (List HX))(v:Value):Prop where
 top:∀g a j u b,cC v=some g->dF w es g a j u->cC u=some b->b≠g
 dis:∀g a j a' j' u u' b,cC v=some g->dF w es g a j u->dF w es g a' j' u'->cC u=some b->cC u'=some b->a=a'/\j=j'
def Wu(w:World)(x:AB)(v:Value)(k:Nat):Prop:=∃e es g a j u,x=.az e es/\cC v=some g/\dF w es g a j u/\cC u=some k
def Wv(w:World)(x:AB)(v:Value)(k:Nat):Prop:=∃cs g,x=.aN cs/\cC v=some g/\∃(c:Array Value) (ty:TypeId) (m:Nat×Nat) (j:Nat) (y:HC) (u:Value),w.heap[g]?=some (.cells c ty m)/\cs[j]?=some y/\y.isRow/\c[j]?=some u/\cC u=some k
def Lf(w:World)(x:AB)(v:Value)(k:Nat):Prop:=Wv w x v k\/Wu w x v k
def hasB(w:World)(x:AB)(v:Value)(k:Nat):Prop:=cC v=some k\/Lf w x v k
theorem DM{x:AB}{v:Value}{k:Nat}(h:cC v=some k):hasB w x v k:=.inl h
theorem mX{es:List (List HX)}{g a j:Nat}{u:Value}(z:w'.heap[g]?=w.heap[g]?)(h:dF w' es g a j u):dF w es g a j u:=by
 obtain⟨r,e,xs,c,D,m,I,J,N,O⟩:=h;exact⟨r,e,xs,c,D,m,I,J,by rw[<-z];exact N,O⟩
theorem dA{x:AB}{v:Value}{k:Nat}(N:∀g,cC v=some g->w'.heap[g]?=w.heap[g]?)(h:hasB w' x v k):hasB w x v k:=by
 rcases h with h | ⟨cs,g,D,z,c,O,m,j,y,u,I,J⟩ | ⟨e,es,g,a,j,u,D,z,I,J⟩
 ·exact .inl h
 ·exact .inr (.inl ⟨cs,g,D,z,c,O,m,j,y,u,by rw[<-N g z];exact I,J⟩)
 exact .inr (.inr ⟨e,es,g,a,j,u,D,z,mX (N g z) I,J⟩)
def Rg:AB->Bool
 | .aN _=>false
 | .az _ _=>false
 | _=>true
theorem aI{x:AB}{v:Value}{k:Nat}(z:Rg x=true)(h:hasB w x v k):cC v=some k:=by
 rcases h with h | ⟨cs,g,rfl,_⟩ | ⟨e,es,g,a,j,u,rfl,_⟩
 ·exact h
 ·cases z
 cases z
def eK(S:Nat->Prop)(w:World)(P:Program)(L:Nat->Prop)(rho:Nat->Value)(h:Nat->AB)(id:Nat):AB->Prop
 | .none=>True
 | .row e es=>aG P w (aO S w) e es (rho id)
 | .jA es=>aO S w (.sl es) (rho id)
 | .box cs=>∃g ty c,rho id=.pointer (some ⟨g,0,none⟩)/\w.heap[g]?=some (.cells c ty (0,0))/\c.size=cs.length/\∀(j:Nat) x u,cs[j]?=some x->c[j]?=some u->u.oneCell'=true/\aY S w P L rho h x u
 | .gC ty cs=>∃g c,rho id=.pointer (some ⟨g,0,none⟩)/\w.heap[g]?=some (.cells c ty (0,0))/\c.size=cs.length/\∀(j:Nat) x u,cs[j]?=some x->c[j]?=some u->u.oneCell'=true/\aY S w P L rho h x u
 | .jd cs=>aO S w (.ip cs) (rho id)
 | .aN cs=>∃g ty c,rho id=.pointer (some ⟨g,0,none⟩)/\Jp S w P cs g ty c
 | .az e es=>aG P w (rK S w P L rho h) e es (rho id)/\uZ w es (rho id)
 | .map mk es=>∃g ms clock,rho id=.map (some g)/\w.heap[g]?=some (.map ms clock)/\ms.size=es.length/\∀(i:Nat) p m,es[i]?=some p->ms[i]?=some m->m.key=p.1/\mk.ok p.1/\aO S w p.2 m.val
end Go.AM
namespace Go.AM
open Go.RowKit
inductive UD where
 | sc
 | int (k:IntKind)
 | st (fs:List (Nat×Nat×Bool))
 | sl (e:TypeId)
 | str
 | mp (k e:TypeId)
structure TI where
 ud:UD
 size:Nat
 bytes:Nat
 zero:List Value
 eq:Bool:=false
def UD.agg:UD->Bool
 | .st _=>true
 | _=>false
inductive Arg where
 | pv (x:PV)
 | row (e:TypeId) (es:List (List PV))
 | map (mk:MK) (es:List (Value×PV))
 | box (cs:List PV)
 | aN (cs:List HC)
inductive AR where
 | p (x:PV)
 | own (e:TypeId) (es:List (List PV))
 | tu (xs:List PV)
 | hown (cs:List HC)
inductive Fin where
 | gone
 | row (es:List (List PV))
 | map (es:List (Value×PV))
 | box (cs:List PV)
 | aN (cs:List HC)
structure Ctx where
 P:Program
 T:TypeId->Option TI
 md:FuncId->Nat->Bool
 E:(Nat->Prop)->World->Prop
 bl:FuncId->Bool:=fun _=>false
 bt:TypeId->Bool:=fun _=>false
 bn:TypeId->Bool:=fun _=>false
 bo:TypeId->Bool:=fun _=>false
 bf:Nat->Bool:=fun _=>false
def Jq:Value->Value->Bool
 | .string a,.string b=>decide (a=b)
 | .int _ a,.int _ b=>decide (a=b)
 | .bool a,.bool b=>decide (a=b)
 | _,_=>false
def DN:List Value->List Value->Bool
 | [],[]=>true
 | x::r,y::s=>Jq x y&&DN r s
 | _,_=>false
def Ak:Value->Value->Bool
 | .string a,.string b=>decide (a=b)
 | .int _ a,.int _ b=>decide (a=b)
 | .agg a,.agg b=>DN a.toList b.toList
 | _,_=>false
def kz:List (Value×PV)->Value->Option PV
 | [],_=>none
 | (k',v)::r,k=>match Ak k k' with
  | true=>some v
  | false=>kz r k
def mP:List (Value×PV)->Value->PV->List (Value×PV)
 | [],k,v=>[(k,v)]
 | (k',u)::r,k,v=>match Ak k k' with
  | true=>(k,v)::r
  | false=>(k',u)::mP r k v
def Cb:List Value->Option (List Nat)
 | []=>some []
 | .string _::r=>(Cb r).map (0::·)
 | .int .i64 _::r=>(Cb r).map (1::·)
 | .bool _::r=>(Cb r).map (2::·)
 | _=>none
def Al(ti:TI):Option MK:=match ti.ud with
 | .str=>some .str
 | .int k=>some (.int k)
 | .st fs=>match ti.eq,fs.any (·.2.2) with
  | true,false=>(Cb ti.zero).map .st
  | _,_=>none
 | _=>none
def VY:List Nat->List Nat->Bool
 | [],[]=>true
 | a::r,b::s=>match Nat.beq a b with
  | true=>VY r s
  | false=>false
 | _,_=>false
def Ww:MK->MK->Bool
 | .str,.str=>true
 | .int .i64,.int .i64=>true
 | .st a,.st b=>VY a b
 | _,_=>false
def l7:List Nat->List PV->Option (List Value)
 | [],[]=>some []
 | 0::s,.im (.string x)::r=>(l7 s r).map (.string x::·)
 | 1::s,.im (.int .i64 x)::r=>(l7 s r).map (.int .i64 x::·)
 | 2::s,.im (.bool x)::r=>(l7 s r).map (.bool x::·)
 | _,_=>none
def keyOf:MK->AV->Option Value
 | .str,.p (.im (.string s))=>some (.string s)
 | .int .i64,.p (.im (.int .i64 n))=>some (.int .i64 n)
 | .st sh,.p (.ag cs)=>(l7 sh cs).map fun l=>.agg l.toArray
 | _,_=>none
abbrev KK:=AV->List (Nat×AB)->Option AB->Prop
def app(h:Nat->AB):List (Nat×AB)->Nat->AB
 | []=>h
 | (i,b)::r=>app (aT h i b) r
def xi:Value->PV
 | .slice none 0 0=>.sl []
 | v=>.im v
def To(b:Bool)(v:Value):PV:=match b with
 | true=>.im v
 | false=>xi v
def Tp:PV->AV
 | .im (.slice none 0 0)=>.nl
 | x=>.p x
def Jr:Value->AV
 | .slice none 0 0=>.nl
 | v=>.p (.im v)
def Cc:Value->AV
 | .slice none 0 0=>.nl
 | .agg cs=>match cs.toList.all Value.oneCell' with
  | true=>.p (.ag (cs.toList.map xi))
  | false=>.junk
 | v=>.p (.im v)
def ev(t:Nat->AV):Operand->AV
 | .tmp j=>t j
 | .const v=>Cc v
 | .global g=>.p (.im (.pointer (some ⟨g,0,none⟩)))
 | .func f=>.p (.im (.func (.func f) #[] #[]))
def dY:List AV->Option (List PV)
 | []=>some []
 | .p x::r=>(dY r).map (x::·)
 | .nl::r=>(dY r).map (.sl []::·)
 | _=>none
def l8(h:Nat->AB)(a:AV)(K:PV->List (Nat×AB)->Prop):Prop:=
 match a with
 | .p x=>K x []
 | .nl=>K (.sl []) []
 | .ow id=>match h id with
  | .row _ es=>K (.sl es) [(id,.jA es)]
  | .jA es=>K (.sl es) []
  | _=>False
 | .bx id off=>match h id with
  | .box cs=>match dY cs with
   | some xs=>K (.ip (xs.drop off)) [(id,.jd xs)]
   | none=>False
  | .jd xs=>K (.ip (xs.drop off)) []
  | _=>False
 | _=>False
def v7(h:Nat->AB):List AV->(List PV->List (Nat×AB)->Prop)->Prop
 | [],K=>K [] []
 | a::r,K=>l8 h a fun x fz=>v7 h r fun xs mY=>K (x::xs) (fz++mY)
def gD(h:Nat->AB)(a:AV)(K:PV->List (Nat×AB)->Prop):Prop:=
 match a with
 | .fn f cap=>v7 h cap fun xs fz=>K (.fn f xs) fz
 | a=>l8 h a K
def sg:PV->Option (List PV)
 | .ag cs=>some cs
 | .im x=>match x.oneCell' with
  | true=>some [.im x]
  | false=>none
 | x=>some [x]
def u5(h:Nat->AB):AV->Bool
 | .p (.im x)=>x.oneCell'
 | .p (.ag _)=>false
 | .p _=>true
 | .nl=>true
 | .ow id=>match h id with
  | .row _ _=>true
  | .az _ _=>true
  | .jA _=>true
  | _=>false
 | .bx id _=>match h id with
  | .none=>false
  | _=>true
 | .rp id _ _=>match h id with
  | .row _ _=>true
  | .az _ _=>true
  | _=>false
 | .fn _ _=>true
 | _=>false
def setCells{α:Type}:List α->Nat->List α->List α
 | cs,_,[]=>cs
 | cs,off,x::r=>setCells (cs.set off x) (off+1) r
def afu(id:Nat):List (Nat×AB)->Bool
 | []=>true
 | (i,_)::r=>match Nat.beq i id with
  | true=>false
  | false=>afu id r
def H9(a b:Nat):Bool:=Nat.ble a b
def Ag(a b:Nat):Bool:=Nat.beq a b
def Z7(x:Int):Prop:=-9223372036854775808<=x/\x<=9223372036854775807
def Rh{α:Type}:List α->Bool
 | []=>true
 | _=>false
def kB(a b:IntKind):Bool:=match a,b with
 | .i8,.i8 | .i16,.i16 | .i32,.i32 | .i64,.i64 | .u8,.u8 | .u16,.u16 | .u32,.u32 | .u64,.u64=>true
 | _,_=>false
def TG:IntKind->Bool
 | .i64=>true
 | _=>false
def u6(k:IntKind)(n:Int)(K:Value->Prop):Prop:=match TG k with
 | true=>Z7 n/\K (.int .i64 n)
 | false=>K (.int k (k.wrap n))
def bM:List Value->List PV->List PV->Option Bool
 | [],[],[]=>some true
 | .int _ _::z,.im (.int k a)::r,.im (.int k' b)::s=>match kB k k' with
  | true=>(bM z r s).map (decide (a=b)&&·)
  | false=>none
 | .string _::z,.im (.string a)::r,.im (.string b)::s=>(bM z r s).map (decide (a=b)&&·)
 | .bool _::z,.im (.bool a)::r,.im (.bool b)::s=>(bM z r s).map (decide (a=b)&&·)
 | _,_,_=>none
def Js(T:TypeId->Option TI)(op:BinOp)(t:TypeId)(x:PV)(K:Value->Prop):Prop:=match x with
 | .sl es=>match Rh es with
  | true=>False
  | false=>match T t with
   | some { ud:=.sl _,.. }=>match op with
    | .eql=>K (.bool false)
    | .neq=>K (.bool true)
    | _=>False
   | _=>False
 | _=>False
def Wx:BinOp->Bool
 | .shr=>true
 | _=>false
def sj(T:TypeId->Option TI)(op:BinOp)(t:TypeId)(x y:PV)(K:Value->Prop):Prop:=
 match x,y with
 | .im (.int k a),.im (.int k' b)=>match Wx op with
  | true=>(0<=b/\b<64)/\K (.int k (a.fdiv (2 ^ (min b.toNat k.bits))))
  | false=>match kB k k' with
  | false=>False
  | true=>match op with
   | .add=>u6 k (a+b) K
   | .sub=>u6 k (a-b) K
   | .mul=>u6 k (a*b) K
   | .quo=>b≠0/\u6 k (a.tdiv b) K
   | .rem=>b≠0/\K (.int k (a.tmod b))
   | .eql=>K (.bool (decide (a=b)))
   | .neq=>K (.bool (!decide (a=b)))
   | .lss=>K (.bool (decide (a<b)))
   | .leq=>K (.bool (decide (a<=b)))
   | .gtr=>K (.bool (decide (a>b)))
   | .geq=>K (.bool (decide (a>=b)))
   | _=>False
 | .im (.string a),.im (.string b)=>match op with
  | .add=>a.size+b.size<=9223372036854775807/\K (.string (a++b))
  | .eql=>K (.bool (decide (a=b)))
  | .neq=>K (.bool (!decide (a=b)))
  | .lss=>K (.bool (Op.bytesLess a.data.toList b.data.toList))
  | .leq=>K (.bool (Op.bytesLess a.data.toList b.data.toList||decide (a=b)))
  | .gtr=>K (.bool !(Op.bytesLess a.data.toList b.data.toList||decide (a=b)))
  | .geq=>K (.bool !(Op.bytesLess a.data.toList b.data.toList))
  | _=>False
 | .im (.bool a),.im (.bool b)=>match T t with
  | some { ud:=.sc,eq:=true,.. }=>match op with
   | .eql=>K (.bool (decide (a=b)))
   | .neq=>K (.bool (!decide (a=b)))
   | _=>False
  | _=>False
 | .ag a,.ag b=>match T t with
  | some { ud:=.st _,eq:=true,size:=n,zero:=z,.. }=>match Ag n a.length with
   | false=>False
   | true=>match op with
    | .eql=>match bM z a b with
     | some r=>K (.bool r)
     | none=>False
    | .neq=>match bM z a b with
     | some r=>K (.bool !r)
     | none=>False
    | _=>False
  | _=>False
 | _,_=>False
def Cd(S:Nat->Prop)(w:World)(mk:MK)(es:List (Value×PV))(v:Value):Prop:=∃g ms clock,v=.map (some g)/\w.heap[g]?=some (.map ms clock)/\ms.size=es.length/\∀(i:Nat) p m,es[i]?=some p->ms[i]?=some m->m.key=p.1/\mk.ok p.1/\aO S w p.2 m.val
def F7(S:Nat->Prop)(w:World)(P:Program):Arg->Value->Prop
 | .pv x,v=>aO S w x v
 | .row e es,v=>aG P w (aO S w) e es v/\∀g,cC v=some g->¬S g
 | .map mk es,v=>Cd S w mk es v/\∀g,cC v=some g->¬S g
 | .box cs,v=>∃g ty c,v=.pointer (some ⟨g,0,none⟩)/\w.heap[g]?=some (.cells c ty (0,0))/\c.size=cs.length/\¬S g/\∀(j:Nat) x u,cs[j]?=some x->c[j]?=some u->u.oneCell'=true/\aO S w x u
 | .aN cs,v=>∃g ty c,v=.pointer (some ⟨g,0,none⟩)/\Jp S w P cs g ty c/\∀k,hasB w (.aN cs) v k->¬S k/\k<w.heap.size
def Ce:Arg->AB
 | .aN cs=>.aN cs
 | _=>.none
def Ri:Fin->AB
 | .aN cs=>.aN cs
 | _=>.none
def Arg.handed:Arg->Bool
 | .pv _=>false
 | _=>true
def Mv(w:World)(args:List Arg)(vs:Array Value)(g:Nat):Prop:=∃(j:Nat) (x:Arg) (v:Value),args[j]?=some x/\vs[j]?=some v/\x.handed=true/\hasB w (Ce x) v g
def oH(S:Nat->Prop)(w:World)(P:Program):Arg->Fin->Value->Prop
 | _,.gone,_=>True
 | .row e _,.row es,v=>aG P w (aO S w) e es v/\∀g,cC v=some g->¬S g
 | .map mk _,.map es,v=>Cd S w mk es v/\∀g,cC v=some g->¬S g
 | .box _,.box cs,v=>∃g ty c,v=.pointer (some ⟨g,0,none⟩)/\w.heap[g]?=some (.cells c ty (0,0))/\c.size=cs.length/\¬S g/\∀(j:Nat) x u,cs[j]?=some x->c[j]?=some u->u.oneCell'=true/\aO S w x u
 | .aN _,.aN cs,v=>∃g ty c,v=.pointer (some ⟨g,0,none⟩)/\Jp S w P cs g ty c/\∀k,hasB w (.aN cs) v k->¬S k
 | _,_,_=>False
def Fin.kept:Fin->Bool
 | .gone=>false
 | _=>true
def Lp(S:Nat->Prop)(w:World)(P:Program):AR->Value->Prop
 | .p x,v=>aO S w x v
 | .own e es,v=>aG P w (aO S w) e es v/\∀g,cC v=some g->¬S g
 | .hown cs,v=>∃g ty c,v=.pointer (some ⟨g,0,none⟩)/\Jp S w P cs g ty c/\∀k,hasB w (.aN cs) v k->¬S k
 | .tu xs,v=>∃vs:Array Value,v=.tuple vs/\xs.length=vs.size/\∀(i:Nat) x u,xs[i]?=some x->vs[i]?=some u->aO S w x u
def AR.owns:AR->Bool
 | .own ..=>true
 | .hown ..=>true
 | _=>false
def AR.ab:AR->AB
 | .hown cs=>.aN cs
 | _=>.none
def eL(S:Nat->Prop)(w:World)(P:Program):List Arg->List Fin->List Value->Prop
 | [],[],[]=>True
 | x::xs,fs,v::vs=>match x.handed with
  | false=>eL S w P xs fs vs
  | true=>match fs with
   | f::fs=>oH S w P x f v/\eL S w P xs fs vs
   | []=>False
 | _,_,_=>False
def du(w:World):List Arg->List Fin->List Value->Nat->Nat->Prop
 | x::xs,fs,v::vs,i,g=>match x.handed with
  | false=>match i with
   | 0=>False
   | i+1=>du w xs fs vs i g
  | true=>match fs with
   | f::fs=>match i with
    | 0=>f.kept=true/\hasB w (Ri f) v g
    | i+1=>du w xs fs vs i g
   | []=>False
 | _,_,_,_,_=>False
def ta(w w':World)(args:List Arg)(fin:List Fin)(vs:Array Value):Prop:=
 (∀i g,du w' args fin vs.toList i g->g<w'.heap.size/\(w.heap.size<=g\/Mv w args vs g))/\∀i j g,du w' args fin vs.toList i g->du w' args fin vs.toList j g->i=j
def af(C:Ctx)(f:FuncId)(args:List Arg)(r:AR)(fin:List Fin):Prop:=
 (∃ fn : Func, C.P.funcs[f]? = some fn ∧ (fn.name == "runtime.NumGoroutine") = false ∧ fn.body.isNone = false) ∧
 ∀(S:Nat->Prop) (w:World) (vs:Array Value),C.E S w->(∀b,S b->b<w.heap.size)->args.length=vs.size ->
  (∀(j:Nat) x v,args[j]?=some x->vs[j]?=some v->F7 S w C.P x v)->
  (∀(i j:Nat) x y v u g,args[i]?=some x->args[j]?=some y->vs[i]?=some v->vs[j]?=some u->x.handed=true->y.handed=true->hasB w (Ce x) v g->hasB w (Ce y) u g->i=j)->
  Calls C.P f vs w fun e w'=>∃v S',e=.returned v/\Fr (Mv w args vs) w w'/\(∀b,S b->S' b)/\(∀b,S' b->b<w'.heap.size)/\(∀b,S' b->S b\/w.heap.size<=b\/Mv w args vs b)/\
   Lp S' w' C.P r v/\eL S' w' C.P args fin vs.toList/\ta w w' args fin vs/\(∀g,r.owns=true->hasB w' r.ab v g->g<w'.heap.size/\(w.heap.size<=g\/Mv w args vs g)/\∀i,¬du w' args fin vs.toList i g)
def gF(md:Nat->Bool)(h:Nat->AB):Nat->List AV->(List Arg->List (Nat×AB)->List (Nat×AB)->Prop)->Prop
 | _,[],K=>K [] [] []
 | j,a::r,K=>match md j with
  | false=>gD h a fun x fz=>gF md h (j+1) r fun xs ids mY=>K (.pv x::xs) ids (fz++mY)
  | true=>match a with
   | .ow id=>match h id with
    | .row e es=>gF md h (j+1) r fun xs ids fz=>K (.row e es::xs) ((id,.row e es)::ids) fz
    | .jA es=>gF md h (j+1) r fun xs ids fz=>K (.pv (.sl es)::xs) ids fz
    | .map mk es=>gF md h (j+1) r fun xs ids fz=>K (.map mk es::xs) ((id,.map mk es)::ids) fz
    | _=>False
   | .p x=>gF md h (j+1) r fun xs ids fz=>K (.pv x::xs) ids fz
   | .bx id 0=>match h id with
    | .box cs=>match dY cs with
     | some ys=>gF md h (j+1) r fun xs ids fz=>K (.box ys::xs) ((id,.box cs)::ids) fz
     | none=>False
    | .aN cs=>gF md h (j+1) r fun xs ids fz=>K (.aN cs::xs) ((id,.aN cs)::ids) fz
    | _=>False
   | _=>False
def AY:PV->Bool
 | .im _=>true
 | .ag cs=>cs.all fun | .im _=>true | _=>false
 | _=>false
def AR.free:AR->Bool
 | .p x=>AY x
 | .tu xs=>xs.all AY
 | .own ..=>false
 | .hown ..=>false
def aeQ:List (Nat×AB)->List Fin->Option (List (Nat×AB))
 | [],[]=>some []
 | (id,_)::ids,.gone::fs=>(aeQ ids fs).map ((id,.none)::·)
 | (id,.row e _)::ids,.row es::fs=>(aeQ ids fs).map ((id,.row e es)::·)
 | (id,.map mk _)::ids,.map es::fs=>(aeQ ids fs).map ((id,.map mk es)::·)
 | (id,.box _)::ids,.box cs::fs=>(aeQ ids fs).map ((id,.box (cs.map .p))::·)
 | (id,.aN _)::ids,.aN cs::fs=>(aeQ ids fs).map ((id,.aN cs)::·)
 | _,_=>none
def Wy:AR->Option AB
 | .own e es=>some (.row e es)
 | .hown cs=>some (.aN cs)
 | _=>none
def Tq(d:Nat):AR->AV
 | .p x=>.p x
 | .own ..=>.ow d
 | .hown _=>.bx d 0
 | .tu xs=>.tu (xs.map .p)
def isNil{α:Type}:List α->Bool
 | []=>true
 | _=>false
def H_:List (Nat×AB)->List (Nat×AB)->Bool
 | [],_=>true
 | (i,_)::r,fz=>afu i fz&&afu i r&&H_ r fz
def oI(C:Ctx)(h:Nat->AB)(d:Nat)(f:FuncId)(args:List AV)(K:KK):Prop:=
 gF (C.md f) h 0 args fun xs ids fz=>∃r fin,af C f xs r fin/\match aeQ ids fin with
  | some fe=>match H_ ids fz with
   | true=>match r.free&&isNil ids with
    | true=>K (Tq d r) [] none
    | false=>K (Tq d r) (fz++fe) (Wy r)
   | false=>False
  | none=>False
inductive Tr:HX->PV->Prop
 | p (x:PV):Tr (.av (.p x)) x
 | nl:Tr (.av .nl) (.sl [])
 | row (e:TypeId) (xs:List (List PV)):Tr (.row e xs) (.sl xs)
structure Oi(es:List (List HX))(ps:List (List PV)):Prop where
 len:ps.length=es.length
 row:∀(a:Nat) r q,es[a]?=some r->ps[a]?=some q->q.length=r.length/\∀(j:Nat) x y,r[j]?=some x->q[j]?=some y->Tr x y
inductive nU(h:Nat->AB):AV->PV->Prop
 | p (x:PV):nU h (.p x) x
 | nl:nU h .nl (.sl [])
 | row (id:Nat) (e:TypeId) (es:List (List PV)) (hr:h id=.row e es):nU h (.ow id) (.sl es)
 | jA (id:Nat) (es:List (List PV)) (hr:h id=.jA es):nU h (.ow id) (.sl es)
 | az (id:Nat) (e:TypeId) (es:List (List HX)) (ps:List (List PV)) (hr:h id=.az e es) (hp:Oi es ps):nU h (.ow id) (.sl ps)
inductive oJ(h:Nat->AB):List AV->List PV->Prop
 | nil:oJ h [] []
 | cons {a:AV} {x:PV} {as:List AV} {xs:List PV} (h1:nU h a x) (h2:oJ h as xs):oJ h (a::as) (x::xs)
inductive View(h:Nat->AB):AV->PV->Prop
 | one {a:AV} {x:PV} (h1:nU h a x):View h a x
 | box (id off:Nat) (cs:List AV) (xs:List PV) (hb:h id=.box cs) (hx:oJ h cs xs):View h (.bx id off) (.ip (xs.drop off))
 | jd (id off:Nat) (xs:List PV) (hb:h id=.jd xs):View h (.bx id off) (.ip (xs.drop off))
inductive tb(h:Nat->AB):List AV->List PV->Prop
 | nil:tb h [] []
 | cons {a:AV} {x:PV} {as:List AV} {xs:List PV} (h1:View h a x) (h2:tb h as xs):tb h (a::as) (x::xs)
def TH(C:Ctx)(h:Nat->AB)(d:Nat)(f:FuncId)(args:List AV)(K:KK):Prop:=∃xs r,tb h args xs/\af C f (xs.map .pv) r []/\r.free=true/\K (Tq d r) [] none
def Wz:AV->Bool
 | .ow _=>true
 | _=>false
def Am{α:Type}(f:α->Bool):List α->Bool
 | []=>false
 | x::r=>match f x with
  | true=>true
  | false=>Am f r
def dZ(h:Nat->AB):AV->Bool
 | .bx id _=>match h id with
  | .box cs=>Am Wz cs
  | _=>false
 | .ow id=>match h id with
  | .az _ _=>true
  | _=>false
 | _=>false
def Lq(cs:List AV)(ys:List PV):Prop:=ys.length=cs.length/\∀(j:Nat) x,cs[j]?=some (.p x)->ys[j]?=some x
def u7(h:Nat->AB):AV->Bool
 | .p (.sl _)=>true
 | .p (.im (.slice _ _ _))=>true
 | .ow id=>match h id with
  | .row _ _=>true
  | _=>false
 | .nl=>true
 | _=>false
def Rj:PV->Prop
 | .im _=>True
 | .sl es=>∀r∈es,∃k n,r=[.im (.int k n)]
 | _=>False
def Rk:PV->Prop
 | .ag cs=>∀c∈cs,Rj c
 | x=>Rj x
def xV(C:Ctx)(h:Nat->AB)(f:FuncId)(args:List AV)(K:KK):Prop:=match args with
 | [.bx id 0,.p y,.ow gU]=>match h id,h gU with
  | .box cs,.row e es=>∃x de,(∀ys,Lq cs ys->af C f [.pv (.ip ys),.pv y,.row e es] (.p x) [.row de])/\(∀c∈cs,u7 h c=true)/\Rk x/\(∀r∈de,∀z∈r,AY z=true)/\K (.p x) [(gU,.row e de)] none
  | _,_=>False
 | _=>False
def tc(C:Ctx)(h:Nat->AB)(d:Nat)(f:FuncId)(args:List AV)(K:KK):Prop:=match Am (dZ h) args with
 | false=>oI C h d f args K
 | true=>match C.md f 90 with
  | false=>TH C h d f args K
  | true=>xV C h f args K
def Cf(C:Ctx)(f:FuncId)(xs:List PV)(ty e:TypeId)(es:List (List PV))(r:AR)(ch:Bool)(de:Option (List (List PV))):Prop:=
 (∃ fn : Func, C.P.funcs[f]? = some fn ∧ (fn.name == "runtime.NumGoroutine") = false ∧ fn.body.isNone = false) ∧
 ∀(S:Nat->Prop) (w:World) (vs:List Value) (b:Nat) (u0 u1:Value),C.E S w->(∀k,S k->k<w.heap.size)->xs.length=vs.length ->
  (∀(j:Nat) x v,xs[j]?=some x->vs[j]?=some v->aO S w x v)->w.heap[b]?=some (.cells #[u0,u1] ty (0,0))->(u0=.pointer none\/u0=.pointer (some ⟨b,0,none⟩))->
  aG C.P w (aO S w) e es u1->¬S b->(∀g,cC u1=some g->¬S g/\g≠b/\g<w.heap.size)->
  Calls C.P f (vs++[Value.pointer (some ⟨b,0,none⟩)]).toArray w fun e' w'=>∃v,e'=.returned v/\Fr (fun k=>k=b\/cC u1=some k) w w'/\Lp S w' C.P r v/\match de with
   | none=>True
   | some de=>∃u1',w'.heap[b]?=some (.cells #[(match ch with | true=>Value.pointer (some ⟨b,0,none⟩) | false=>u0),u1'] ty (0,0))/\aG C.P w' (aO S w') e de u1'/\∀g,cC u1'=some g->g<w'.heap.size/\(cC u1=some g\/w.heap.size<=g)
def qY:List AV->Option (List AV×AV)
 | []=>none
 | [x]=>some ([],x)
 | x::y::r=>match qY (y::r) with
  | some (l,z)=>some (x::l,z)
  | none=>none
def Qn(id:Nat):AV->Bool
 | .p (.im (.pointer none))=>true
 | .bx i 0=>Nat.beq i id
 | _=>false
def v8(ch:Bool)(id:Nat)(c:AV):AV:=match ch with
 | true=>.bx id 0
 | false=>c
def v_(C:Ctx)(h:Nat->AB)(d:Nat)(f:FuncId)(args:List AV)(K:KK):Prop:=
 match qY args with
 | some (as,.bx id 0)=>match h id with
  | .gC ty [c,.ow gU]=>match Qn id c with
   | true=>match h gU with
    | .row e es=>v7 h as fun xs fz=>∃r ch de,Cf C f xs ty e es r ch de/\match r.free&&(afu id fz&&(afu gU fz&&!Nat.beq id gU)) with
     | true=>match de with
      | some de=>K (Tq d r) (fz++[(gU,.none),(id,.gC ty [v8 ch id c,.ow d])]) (some (.row e de))
      | none=>K (Tq d r) (fz++[(gU,.none),(id,.none)]) none
     | false=>False
    | _=>False
   | false=>False
  | _=>False
 | _=>False
def jC(h:Nat->AB)(fs:List (Nat×Nat×Bool))(rho:Operand->AV):List (Nat×Operand)->List PV->(List PV->List (Nat×AB)->Prop)->Prop
 | [],cs,K=>K cs []
 | (i,x)::r,cs,K=>match fs[i]? with
  | some (off,size,_)=>gD h (rho x) fun y fz=>match sg y with
   | some ys=>match Ag ys.length size&&H9 (off+size) cs.length with
    | true=>jC h fs rho r (setCells cs off ys) fun mZ mY=>K mZ (fz++mY)
    | false=>False
   | none=>False
  | none=>False
def k_(h:Nat->AB)(fs:List (Nat×Nat×Bool))(rho:Operand->AV):List (Nat×Operand)->List AV->(List AV->Prop)->Prop
 | [],cs,K=>K cs
 | (i,x)::r,cs,K=>match fs[i]? with
  | some (off,size,_)=>match Ag size 1&&H9 (off+1) cs.length&&u5 h (rho x) with
   | true=>k_ h fs rho r (cs.set off (rho x)) K
   | false=>False
  | none=>False
def wa(b:Bool)(h:Nat->AB)(a:AV)(K:PV->List (Nat×AB)->Prop):Prop:=match b,a with
 | true,.nl=>K (.im (.slice none 0 0)) []
 | _,a=>gD h a K
def gG(b:Bool)(h:Nat->AB)(size:Nat)(rho:Operand->AV):List (Nat×Operand)->List (List PV)->(List (List PV)->List (Nat×AB)->Prop)->Prop
 | [],es,K=>K es []
 | (i,x)::r,es,K=>wa b h (rho x) fun y fz=>match sg y with
  | some ys=>match Ag ys.length size&&Nat.blt i es.length with
   | true=>gG b h size rho r (es.set i ys) fun de mY=>K de (fz++mY)
   | false=>False
  | none=>False
def gH(h:Nat->AB)(a:AV)(K:List (List PV)->Prop):Prop:=match a with
 | .p (.sl es)=>K es
 | .nl=>K []
 | .ow id=>match h id with
  | .row _ es=>K es
  | .jA es=>K es
  | _=>False
 | _=>False
inductive CK where
 | len
 | clear
 | min
 | max
 | append
 | val (g:Operand)
 | other
def fy:Builtin->CK
 | .len=>.len
 | .clear=>.clear
 | .min=>.min
 | .max=>.max
 | .append=>.append
 | _=>.other
def aeC:Callee->CK
 | .builtin b=>fy b
 | .value g=>.val g
 | .invoke _ _=>.other
def Ia:Fn->Option FuncId
 | .func f=>some f
 | _=>none
def Ib:Value->Option (FuncId×List AV)
 | .func fn first cap=>match isNil first.toList&&isNil cap.toList with
  | true=>match Ia fn with
   | some f=>some (f,[])
   | none=>none
  | false=>none
 | _=>none
def Ic:PV->Option (FuncId×List AV)
 | .im v=>Ib v
 | .fn f cap=>some (f,cap.map .p)
 | _=>none
def xW:AV->Option (FuncId×List AV)
 | .p x=>Ic x
 | .fn f cap=>some (f,cap)
 | _=>none
def xX(ti:TI):PV:=match ti.ud.agg with
 | true=>.ag (ti.zero.map xi)
 | false=>match ti.zero with
  | z::_=>xi z
  | []=>.im undef
def gm(C:Ctx)(rho:Operand->AV)(h:Nat->AB)(t:TypeId)(x:Operand)(lo hi:Option Operand)(K:KK):Prop:=
  let l:=match lo with | some y=>rho y | none=>.p (.im (.int .i64 0))
  match C.T t with
  | some { ud:=.str,.. }=>match rho x with
   | .p (.im (.string s))=>
    match l,(match hi with | some y=>rho y | none=>.p (.im (.int .i64 s.size))) with
    | .p (.im (.int _ a)),.p (.im (.int _ b))=>(0<=a/\a<=b/\b<=s.size)/\K (.p (.im (.string (s.extract a.toNat b.toNat)))) [] none
    | _,_=>False
   | _=>False
  | some { ud:=.sl e,.. }=>match C.T e with
   | none=>False
   | some te=>gD h (rho x) fun y fz=>match y with
    | .sl es=>match l,(match hi with | some y=>rho y | none=>.p (.im (.int .i64 es.length))) with
     | .p (.im (.int _ a)),.p (.im (.int _ b))=>(0<=a/\a<=b/\b<=es.length/\∀r∈es,r.length=te.size)/\K (.p (.sl ((es.take b.toNat).drop a.toNat))) fz none
     | _,_=>False
    | _=>False
  | _=>False
def td(C:Ctx)(rho:Operand->AV)(t:TypeId)(lo hi:Option Operand)(id:Nat)(e':TypeId)(es:List (List PV))(K:KK):Prop:=
 match C.T t with
 | some { ud:=.sl e,.. }=>match Ag e' e with
  | true=>match (match lo with | some y=>rho y | none=>.p (.im (.int .i64 0))),(match hi with | some y=>rho y | none=>.p (.im (.int .i64 es.length))) with
   | .p (.im (.int _ a)),.p (.im (.int _ b))=>(0<=a/\a<=b/\b<=es.length)/\K (.vw id a.toNat b.toNat) [] none
   | _,_=>False
  | false=>False
 | _=>False
def hlen(h:Nat->AB):AV->Option Nat
 | .ow id=>match h id with
  | .az _ es=>some es.length
  | _=>none
 | .vw id lo hi=>match h id with
  | .row _ _=>some (hi-lo)
  | _=>none
 | _=>none
def s9(r:List PV):List HX:=r.map fun x=>.av (Tp x)
def bV(C:Ctx)(o:Oper)(rho:Operand->AV)(h:Nat->AB)(K:KK):Prop:=
 let d:=o.dst.getD 0
 match o.op with
 | .move x=>K (rho x) [] none
 | .assign x=>K (rho x) [] none
 | .pick c a b=>match rho c with
  | .p (.im (.bool t))=>match t with
   | true=>K (rho a) [] none
   | false=>K (rho b) [] none
  | _=>False
 | .binOp op t x y _=>match rho x,rho y with
  | .p a,.p b=>sj C.T op t a b fun v=>K (.p (.im v)) [] none
  | .p a,.nl=>Js C.T op t a fun v=>K (.p (.im v)) [] none
  | _,_=>False
 | .unOp op _ x=>match op,rho x with
  | .not,.p (.im (.bool b))=>K (.p (.im (.bool !b))) [] none
  | .neg,.p (.im (.int k n))=>u6 k (0-n) fun v=>K (.p (.im v)) [] none
  | _,_=>False
 | .convert src dst x=>match rho x,C.T src,C.T dst with
  | .p (.im (.int _ n)),some _,some { ud:=.int k,.. }=>u6 k n fun v=>K (.p (.im v)) [] none
  | .p (.im (.string s)),some { ud:=.str,.. },some { ud:=.str,.. }=>K (.p (.im (.string s))) [] none
  | .p (.im (.int _ n)),some { ud:=.int _,.. },some { ud:=.str,.. }=>K (.p (.im (.string (Utf8.encode n)))) [] none
  | _,_,_=>False
 | .nilCheck x=>match rho x with
  | .p (.ip cs)=>K (.p (.ip cs)) [] none
  | .bx id off=>match h id with
   | .box _=>K (.bx id off) [] none
   | .jd _=>K (.bx id off) [] none
   | _=>False
  | .rp id i off=>match h id with
   | .row _ _=>K (.rp id i off) [] none
   | .az _ _=>K (.rp id i off) [] none
   | _=>False
  | _=>False
 | .extract x i=>match rho x with
  | .tu xs=>match xs[i]? with
   | some a=>K a [] none
   | none=>False
  | _=>False
 | .box _ x=>match rho x with
  | .p (.ag cs)=>K (.bx d 0) [] (some (.box (cs.map .p)))
  | .st xs=>K (.bx d 0) [] (some (.box xs))
  | a=>match u5 h a with
   | true=>K (.bx d 0) [] (some (.box [a]))
   | false=>False
 | .alloc e=>match C.T e with
  | some ti=>match C.bt e with
   | false=>K (.bx d 0) [] (some (.box (ti.zero.map Jr)))
   | true=>K (.bx d 0) [] (some (.gC e (ti.zero.map Jr)))
  | none=>False
 | .load t a=>match C.T t with
  | none=>False
  | some ti=>match rho a with
   | .p (.ip cs)=>match ti.ud.agg with
    | true=>match H9 ti.size cs.length with
     | true=>K (.p (.ag (cs.take ti.size))) [] none
     | false=>False
    | false=>match cs with
     | c::_=>K (.p c) [] none
     | []=>False
   | .bx id off=>match h id with
    | .box cs=>match ti.ud.agg with
     | true=>match H9 (off+ti.size) cs.length,dY ((cs.drop off).take ti.size) with
      | true,some xs=>K (.p (.ag xs)) [] none
      | _,_=>False
     | false=>match cs.drop off with
      | c::_=>K c [] none
      | []=>False
    | .jd cs=>match ti.ud.agg with
     | true=>match H9 (off+ti.size) cs.length with
      | true=>K (.p (.ag ((cs.drop off).take ti.size))) [] none
      | _=>False
     | false=>match cs.drop off with
      | c::_=>K (.p c) [] none
      | []=>False
    | _=>False
   | .rp id i off=>match h id with
    | .row _ es=>∃r,es[i]?=some r/\match ti.ud.agg with
     | true=>match H9 (off+ti.size) r.length with
      | true=>K (.p (.ag ((r.drop off).take ti.size))) [] none
      | _=>False
     | false=>match r.drop off with
      | c::_=>K (.p c) [] none
      | []=>False
    | .az _ es=>∃r,es[i]?=some r/\match ti.ud.agg with
     | true=>False
     | false=>match r.drop off with
      | .av c::_=>K c [] none
      | _=>False
    | _=>False
   | _=>False
 | .store t a x=>match C.T t with
  | none=>False
  | some ti=>match rho a with
   | .bx id off=>match h id with
    | .box cs=>match ti.ud.agg with
     | true=>gD h (rho x) fun y fz=>match y with
      | .ag ys=>match Ag ys.length ti.size&&H9 (off+ti.size) cs.length&&afu id fz with
       | true=>K .junk (fz++[(id,.box (setCells cs off (ys.map Tp)))]) none
       | false=>False
      | _=>False
     | false=>match H9 (off+1) cs.length&&Ag ti.size 1&&u5 h (rho x) with
      | true=>K .junk [(id,.box (cs.set off (rho x)))] none
      | false=>False
    | _=>False
   | .rp id i off=>match h id with
    | .row e es=>∃r,es[i]?=some r/\gD h (rho x) fun y fz=>match sg y with
     | some ys=>match Ag ys.length ti.size&&H9 (off+ti.size) r.length&&afu id fz with
      | true=>K .junk (fz++[(id,.row e (es.set i (setCells r off ys)))]) none
      | false=>False
     | none=>False
    | .az e es=>∃r,es[i]?=some r/\match ti.ud.agg with
     | true=>False
     | false=>match H9 (off+1) r.length&&Ag ti.size 1&&u5 h (rho x) with
      | true=>K .junk [(id,.az e (es.set i (r.set off (.av (rho x)))))] none
      | false=>False
    | _=>False
   | _=>False
 | .fieldAddr t x f=>match C.T t with
  | some { ud:=.st fs,.. }=>match fs[f]? with
   | some (off,_,_)=>match rho x with
    | .p (.ip cs)=>K (.p (.ip (cs.drop off))) [] none
    | .bx id o=>match h id with
     | .none=>False
     | _=>K (.bx id (o+off)) [] none
    | .rp id i o=>match h id with
     | .row _ _=>K (.rp id i (o+off)) [] none
     | .az _ _=>K (.rp id i (o+off)) [] none
     | _=>False
    | _=>False
   | none=>False
  | _=>False
 | .field t x f=>match C.T t,rho x with
  | some { ud:=.st fs,.. },.p (.ag cs)=>match fs[f]? with
   | some (off,size,agg)=>match agg with
    | true=>match H9 (off+size) cs.length with
     | true=>K (.p (.ag ((cs.drop off).take size))) [] none
     | false=>False
    | false=>match cs.drop off with
     | c::_=>K (.p c) [] none
     | []=>False
   | none=>False
  | _,_=>False
 | .indexAddr t x ix=>match C.T t,rho ix with
  | some { ud:=.sl e,.. },.p (.im (.int _ i))=>match C.T e with
   | none=>False
   | some te=>match rho x with
    | .p (.sl es)=>∃r,(0<=i/\es[i.toNat]?=some r)/\match Ag r.length te.size with
     | true=>K (.p (.ip r)) [] none
     | false=>False
    | .ow id=>match h id with
     | .row e' es=>match Ag e' e with
      | true=>(0<=i/\i.toNat<es.length)/\K (.rp id i.toNat 0) [] none
      | false=>False
     | .az e' es=>match Ag e' e with
      | true=>(0<=i/\i.toNat<es.length)/\K (.rp id i.toNat 0) [] none
      | false=>False
     | .jA es=>∃r,(0<=i/\es[i.toNat]?=some r)/\match Ag r.length te.size with
      | true=>K (.p (.ip r)) [] none
      | false=>False
     | _=>False
    | .vw id lo hi=>match h id with
     | .row e' es=>match Ag e' e with
      | true=>(0<=i/\i.toNat<hi-lo)/\K (.rp id (lo+i.toNat) 0) [] none
      | false=>False
     | _=>False
    | _=>False
  | _,_=>False
 | .index t x ix=>match C.T t,rho x,rho ix with
  | some { ud:=.str,.. },.p (.im (.string s)),.p (.im (.int _ i))=>∃b,(0<=i/\s[i.toNat]?=some b)/\K (.p (.im (.int .u8 b.toNat))) [] none
  | _,_,_=>False
 | .slice t x lo hi none=>match rho x with
  | .ow id=>match h id with
   | .row e' es=>td C rho t lo hi id e' es K\/gm C rho h t x lo hi K
   | _=>gm C rho h t x lo hi K
  | _=>gm C rho h t x lo hi K
 | .makeMap t none=>match C.T t with
  | some { ud:=.mp kt _,.. }=>match C.T kt with
   | some tk=>match Al tk with
    | some mk=>K (.ow d) [] (some (.map mk []))
    | none=>False
   | none=>False
  | _=>False
 | .lookup t x i ck=>match C.T t with
  | some { ud:=.mp kt et,.. }=>match C.T kt,C.T et with
   | some tk,some te=>match Al tk with
    | some mk=>match rho x with
     | .ow id=>match h id with
      | .map mk' es=>match Ww mk mk' with
       | true=>match keyOf mk (rho i) with
        | some k=>∃r,kz es k=r/\match ck with
         | true=>K (.tu [.p (r.getD (xX te)),.p (.im (.bool r.isSome))]) [] none
         | false=>K (.p (r.getD (xX te))) [] none
        | none=>False
       | false=>False
      | _=>False
     | _=>False
    | none=>False
   | _,_=>False
  | _=>False
 | .mapUpdate t x i y=>match C.T t with
  | some { ud:=.mp kt _,.. }=>match C.T kt with
   | some tk=>match Al tk with
    | some mk=>match rho x with
     | .ow id=>match h id with
      | .map mk' es=>match Ww mk mk' with
       | true=>match keyOf mk (rho i) with
        | some k=>gD h (rho y) fun v fz=>match afu id fz with
         | true=>K .junk (fz++[(id,.map mk' (mP es k v))]) none
         | false=>False
        | none=>False
       | false=>False
      | _=>False
     | _=>False
    | none=>False
   | none=>False
  | _=>False
 | .build t ps=>match C.T t with
  | some { ud:=.st fs,zero:=z,.. }=>match C.bo t with
   | false=>jC h fs rho ps.toList (z.map (To (C.bn t))) fun cs fz=>K (.p (.ag cs)) fz none
   | true=>k_ h fs rho ps.toList (z.map Jr) fun cs=>K (.st cs) [] none
  | _=>False
 | .buildSlice t len ps=>match C.T t with
  | some { ud:=.sl e,.. }=>match C.T e with
   | some ti=>match Nat.blt 0 ti.size&&H9 (len*ti.size) 16777216 with
    | true=>match C.bf d with
     | false=>gG (C.bn t) h ti.size rho ps.toList (List.replicate len (ti.zero.map xi)) fun es fz=>K (.ow d) fz (some (.row e es))
     | true=>gG (C.bn t) h ti.size rho ps.toList (List.replicate len (ti.zero.map xi)) fun es fz=>K (.ow d) fz (some (.jA es))
    | false=>False
   | none=>False
  | _=>False
 | .makeSlice t n c=>match C.T t,rho n,rho c with
  | some { ud:=.sl e,.. },.p (.im (.int _ n)),.p (.im (.int _ c))=>match C.T e with
   | some ti=>match Nat.blt 0 ti.size with
    | true=>(0<=n/\n<=c/\c*ti.bytes<=140737488355328/\c<=9223372036854775807)/\K (.ow d) [] (some (.row e (List.replicate n.toNat (ti.zero.map (To (C.bn t))))))
    | false=>False
   | none=>False
  | _,_,_=>False
 | .makeFunc (.func f) first cap=>match isNil first.toList with
  | true=>K (.fn f (cap.toList.map rho)) [] none
  | false=>False
 | .call c=>match aeC c.callee with
  | .len=>match c.args.toList,c.argTypes.toList with
   | [x],[t]=>match C.T t with
    | some { ud:=.str,.. }=>match rho x with
     | .p (.im (.string s))=>K (.p (.im (.int .i64 s.size))) [] none
     | _=>False
    | some { ud:=.sl _,.. }=>match hlen h (rho x) with
     | some n=>K (.p (.im (.int .i64 n))) [] none
     | none=>gH h (rho x) fun es=>K (.p (.im (.int .i64 es.length))) [] none
    | some { ud:=.mp _ _,.. }=>match rho x with
     | .ow id=>match h id with
      | .map _ es=>K (.p (.im (.int .i64 es.length))) [] none
      | _=>False
     | _=>False
    | _=>False
   | _,_=>False
  | .clear=>match c.args.toList,c.argTypes.toList with
   | [x],[t]=>match C.T t with
    | some { ud:=.sl e,.. }=>match C.T e with
     | some ti=>match rho x with
      | .vw id lo hi=>match h id with
       | .row e' es=>match Ag e' e&&Nat.blt 0 ti.size with
        | true=>(lo<=hi/\hi<=es.length)/\K (.tu []) [(id,.row e' (es.take lo++List.replicate (hi-lo) (ti.zero.map xi)++es.drop hi))] none
        | false=>False
       | _=>False
      | _=>False
     | none=>False
    | _=>False
   | _,_=>False
  | .min=>match c.args.toList with
   | [x,y]=>match rho x,rho y with
    | .p (.im (.int k a)),.p (.im (.int _ b))=>K (.p (.im (.int k (min a b)))) [] none
    | _,_=>False
   | _=>False
  | .max=>match c.args.toList with
   | [x,y]=>match rho x,rho y with
    | .p (.im (.int k a)),.p (.im (.int _ b))=>K (.p (.im (.int k (max a b)))) [] none
    | _,_=>False
   | [x,y,z]=>match rho x,rho y,rho z with
    | .p (.im (.int k a)),.p (.im (.int _ b)),.p (.im (.int _ c))=>K (.p (.im (.int k (max (max a b) c)))) [] none
    | _,_,_=>False
   | [x,y,z,u,v]=>match rho x,rho y,rho z,rho u,rho v with
    | .p (.im (.int k a)),.p (.im (.int _ b)),.p (.im (.int _ c)),.p (.im (.int _ d)),.p (.im (.int _ e))=>K (.p (.im (.int k (max (max (max (max a b) c) d) e)))) [] none
    | _,_,_,_,_=>False
   | _=>False
  | .append=>match c.args.toList,c.argTypes.toList with
   | [x,y],[t,t']=>match Ag t t',C.T t with
    | true,some { ud:=.sl e,.. }=>match C.T e with
     | some ti=>match Nat.blt 0 ti.size with
      | true=>gH h (rho y) fun ys=>match rho x with
       | .nl=>((∀r∈ys,r.length=ti.size)/\ys.length*ti.bytes<=140737488355328/\ys.length<=140737488355328)/\K (.ow d) [] (some (.row e ys))
       | .ow id=>match h id with
        | .row e' xs=>match Ag e' e with
         | true=>((∀r∈ys,r.length=ti.size)/\(xs.length+ys.length)*ti.bytes<=140737488355328/\xs.length+ys.length<=140737488355328)/\K (.ow d) [(id,.none)] (some (.row e (xs++ys)))
         | false=>False
        | .az e' xs=>match Ag e' e with
         | true=>((∀r∈ys,r.length=ti.size)/\(xs.length+ys.length)*ti.bytes<=140737488355328/\xs.length+ys.length<=140737488355328)/\K (.ow d) [(id,.none)] (some (.az e (xs++ys.map s9)))
         | false=>False
        | _=>False
       | _=>False
      | false=>False
     | none=>False
    | _,_=>False
   | _,_=>False
  | .val g=>match xW (rho g) with
   | some (f,cap)=>match C.bl f with
    | false=>tc C h d f (c.args.toList.map rho++cap) K
    | true=>v_ C h d f (c.args.toList.map rho++cap) K
   | none=>False
  | _=>False
 | _=>False
end Go.AM
namespace Go.AM
open Go.RowKit
def nV(P:Program)(t:TypeId)(ti:TI):Prop:=
 ∃info z,P.info? t=some info/\info.size=ti.size/\info.bytes=ti.bytes/\info.zero=some z/\z.cells=ti.zero.toArray/\ti.zero.length=ti.size/\(∀v∈ti.zero,v.oneCell'=true)/\
  match ti.ud with
  | .sc=>(∃d,P.underlying t=some d/\(match d with | .struct _ | .array _ _=>False | _=>True))/\(ti.eq=true->P.underlying t=some .bool)
  | .int k=>P.underlying t=some (.int k)
  | .st fs=>∃gs,P.underlying t=some (.struct gs)/\fs.length=gs.size/\(∀(i:Nat) f g,fs[i]?=some f->gs[i]?=some g->f.1=g.offset/\f.2.1≠0/\(∃i2,P.info? g.type=some i2/\i2.size=f.2.1)/\
    (∃d,P.underlying g.type=some d/\f.2.2=(match d with | .struct _ | .array _ _=>true | _=>false)))
  | .sl e=>P.underlying t=some (.slice e)
  | .str=>P.underlying t=some .string
  | .mp k e=>P.underlying t=some (.map k e)
def Lr:Value->Bool
 | .agg _=>true
 | _=>false
def F8(P:Program)(t:TypeId)(ti:TI):Prop:=∃info z,P.info? t=some info/\info.zero=some z/\Lr z=ti.ud.agg
def rM(k:Value):List MapEntry->Nat->Option (Nat×Value)
 | [],_=>none
 | m::r,i=>match Ak k m.key with
  | true=>some (i,m.val)
  | false=>rM k r (i+1)
structure Ls(P:Program)(kt:TypeId)(mk:MK):Prop where
 check:∀(e:Bool) (k:Value) (w:World),mk.ok k->(Instr.checkKey e 10000 kt k).run P w=.ok () w
 find:∀(k:Value) (w:World) (ms:List MapEntry),mk.ok k->(∀m∈ms,mk.ok m.key)->(Instr.findKey kt k ms).run P w=.ok (rM k ms 0) w
structure bI(C:Ctx):Prop where
 zs:∀t ti,C.T t=some ti->F8 C.P t ti
 iq:∀t ti,C.T t=some ti->nV C.P t ti
 env:∀S S' w w',C.E S w->(∀b,S b->S' b)->(∀b,S b->w'.heap[b]?=w.heap[b]?)->w.heap.size<=w'.heap.size->C.E S' w'
 any:C.P.follows .mixedOrders=true
 eqs:∀t ti op a b r,C.T t=some ti->ti.eq=true->(∃fs,ti.ud=.st fs)->bM ti.zero a b=some r->∀(xs ys:Array Value) w,(∀(i:Nat) x v,a[i]?=some x->xs[i]?=some v->x=.im v)->(∀(i:Nat) x v,b[i]?=some x->ys[i]?=some v->x=.im v)->
  a.length=xs.size->b.length=ys.size->ti.size=a.length->(op=.eql\/op=.neq)->∀(x y:Operand),(do eqGuard op t x y (.agg xs) (.agg ys);binOp op t (.agg xs) (.agg ys):Sem Value).run C.P w=.ok (.bool (if op=.eql then r else !r)) w
 keys:∀kt tk sh,C.T kt=some tk->Al tk=some (.st sh)->Ls C.P kt (.st sh)
structure cD where
 C:Ctx
 w0:World
 mv:Nat->Prop
 s0:Nat->Prop
 n:Nat
 pin:Nat->Value
structure b7(A:cD)(V L:Nat->Prop)(S:Nat->Prop)(rho:Nat->Value)(s:AS)(a:Act)(w:World):Prop where
 tm:∀j,V j->aY S w A.C.P L rho s.h (s.t j) (a.tmps.getD j undef)
 sz:a.tmps.size=A.n
 df:a.defers=[]
 nb:A.n<=100000
 pn:∀id,100000<=id->rho id=A.pin id
 ev:A.C.E S w
 s0:∀b,A.s0 b->S b
 st:∀b,S b->b<w.heap.size
 sb:∀b,S b->A.s0 b\/A.mv b\/A.w0.heap.size<=b
 hp:∀id,L id->eK S w A.C.P L rho s.h id (s.h id)
 dj:∀i j g,L i->L j->(s.h i).live->(s.h j).live->hasB w (s.h i) (rho i) g->hasB w (s.h j) (rho j) g->i=j
 lv:∀i g,L i->(s.h i).live->hasB w (s.h i) (rho i) g->g<w.heap.size/\¬S g/\(A.mv g\/A.w0.heap.size<=g)
 fr:Fr A.mv A.w0 w
variable {A:cD} {V L:Nat->Prop} {rho:Nat->Value} {s:AS} {w:World}
theorem b7.TJ{S:Nat->Prop}{a:Act}(z:b7 A V L S rho s a w)(i j g:Nat)(hi:L i)(D:L j)(I:(s.h i).live)(J:(s.h j).live)(N:cC (rho i)=some g)(O:cC (rho j)=some g):i=j:=z.dj i j g hi D I J (.inl N) (.inl O)
theorem b7.pM{S:Nat->Prop}{a:Act}(z:b7 A V L S rho s a w)(i g:Nat)(hi:L i)(D:(s.h i).live)(I:cC (rho i)=some g):g<w.heap.size/\¬S g/\(A.mv g\/A.w0.heap.size<=g):=z.lv i g hi D (.inl I)
structure lB(S S':Nat->Prop)(w w':World)(L L':Nat->Prop)(rho rho':Nat->Value)(h h':Nat->AB):Prop where
 hS:∀b,S b->S' b
 keep:∀b,S b->w'.heap[b]?=w.heap[b]?
 ids:∀id,(h' id).there->(h id).there/\(L id->L' id/\rho' id=rho id)
 rows:∀id e,(h' id).oG=some e->(h id).oG=some e
variable {e:TypeId}
theorem oK{b:AB}(h:b.oG=some e):b.there:=by cases b<;>first | trivial | cases h
variable {S' L':Nat->Prop} {w':World} {rho':Nat->Value} {h':Nat->AB}
theorem aY.cK{S:Nat->Prop}{P:Program}{h:Nat->AB}(T:lB S S' w w' L L' rho rho' h h'){x:AV}{v:Value}
  (U:aY S w P L rho h x v):aY S' w' P L' rho' h' x v:=by
 induction U with
 | p x v U=>exact .p x v (U.mono T.hS T.keep)
 | nl=>exact .nl
 | ow id v hv=>
  refine .ow id v fun W=>?_;obtain⟨J,Y⟩:=T.ids id W;obtain⟨z,D⟩:=hv J;obtain⟨I,N⟩:=Y z;exact⟨I,by rw[N];exact D⟩
 | rp id i off v hv=>
  refine .rp id i off v fun e O=>?_;obtain⟨z,g,n,c,ti,D,I,N⟩:=hv e (T.rows id e O);obtain⟨R,Z⟩:=(T.ids id (oK O)).2 z;exact⟨R,g,n,c,ti,by rw[Z];exact D,I,N⟩
 | bx id off v hv=>
  refine .bx id off v fun W=>?_;obtain⟨J,Y⟩:=T.ids id W;obtain⟨z,g,D,R⟩:=hv J;obtain⟨I,N⟩:=Y z;exact⟨I,g,by rw[N];exact D,R⟩
 | vw id lo hi v hv=>
  refine .vw id lo hi v fun e O=>?_;obtain⟨z,n,c,a,ti,D,I⟩:=hv e (T.rows id e O);obtain⟨R,Z⟩:=(T.ids id (oK O)).2 z;exact⟨R,n,c,a,ti,by rw[Z];exact D,I⟩
 | fn f cap vs hl hc ih=>exact .fn f cap vs hl ih
 | tu xs vs hl hc ih=>exact .tu xs vs hl ih
 | st xs vs hl J hc ih=>exact .st xs vs hl J ih
 | junk v=>exact .junk v
theorem ait{base:Nat}{size:Nat}{v:Value}{n:Nat}{xs:List Value}(h:w.ownsRow base e size v n xs)(hb:∀g,cC v=some g->w'.heap[g]?=w.heap[g]?):w'.ownsRow base e size v n xs:=by
 refine⟨h.1,?_⟩;rcases h.2 with J | ⟨g,z,D,I,N,O,r⟩
 ·exact .inl J
 exact .inr ⟨g,z,D,I,N,by rw[hb g (by rw[I];rfl)];exact O,r⟩
theorem aG.cK{α:Type}{P:Program}{R z:α->Value->Prop}{es:List (List α)}{v:Value}(h:aG P w R e es v)(hb:∀g,cC v=some g->w'.heap[g]?=w.heap[g]?)(D:∀x u,R x u->z x u):aG P w' z e es v:=by
 obtain⟨i,xs,I,J,N,O,U,W⟩:=h;exact⟨i,xs,I,J,ait N hb,O,U,fun a r j x Y Z=>by obtain⟨u,hu,hr⟩:=W a r j x Y Z;exact⟨u,hu,D x u hr⟩⟩
theorem uZ.cK{es:List (List HX)}{v:Value}(h:uZ w es v)(hb:∀g,cC v=some g->w'.heap[g]?=w.heap[g]?):uZ w' es v:=
 ⟨fun g a j u b z D I=>h.top g a j u b z (mX (hb g z) D) I,fun g a j J N u O b z D I R U=>h.dis g a j J N u O b z (mX (hb g z) D) (mX (hb g z) I) R U⟩
theorem aG.DO{P:Program}{R:HX->Value->Prop}{es:List (List HX)}{v:Value}(h:aG P w R e es v){a j:Nat}{r:List HX}{e':TypeId}{I:List (List PV)}(z:es[a]?=some r)(J:r[j]?=some (.row e' I)):
  ∃g u,cC v=some g/\dF w es g a j u/\R (.row e' I) u:=by
 obtain⟨i,xs,h1,h2,N,O,h5,U⟩:=h;obtain⟨u,D,W⟩:=U a r j _ z J;have Y:=O r (aad z);rcases N.2 with⟨hn,hz⟩ | ⟨g,cap,cur,Z,hg,DG,k1,k2,k3,k4⟩
 ·have:=(aao.1 z).1;omega
 refine⟨g,u,by rw[Z];rfl,⟨r,e',I,_,_,_,z,J,DG,?_⟩,W⟩;rw[Y];rw[<-k4,aa7]at D;split at D
 ·simpa using D
 cases D
theorem eK.cK{S:Nat->Prop}{P:Program}{h:Nat->AB}(T:lB S S' w w' L L' rho rho' h h'){id:Nat}{x:AB}
  (hb:x.live->∀g,hasB w x (rho id) g->w'.heap[g]?=w.heap[g]?) (N:x.there->rho' id=rho id) (U:eK S w P L rho h id x):eK S' w' P L' rho' h' id x:=by
 cases x with
 | none=>trivial
 | row e es=>
  show aG P w' (aO S' w') e es (rho' id);rw[N trivial];exact aG.cK U (fun g I=>hb trivial g (.inl I)) (fun x u z=>z.mono T.hS T.keep)
 | jA es=>
  show aO S' w' (.sl es) (rho' id);rw[N trivial];exact aO.mono U T.hS T.keep
 | box cs=>
  obtain⟨g,ty,c,D,Z,W,Y⟩:=U;refine⟨g,ty,c,by rw[N trivial];exact D,by rw[hb trivial g (.inl (by rw[D];rfl))];exact Z,W,fun j x u O z=>?_⟩;obtain⟨R,J⟩:=Y j x u O z;exact⟨R,J.cK T⟩
 | gC ty cs=>
  obtain⟨g,c,D,Z,W,Y⟩:=U;refine⟨g,c,by rw[N trivial];exact D,by rw[hb trivial g (.inl (by rw[D];rfl))];exact Z,W,fun j x u O z=>?_⟩;obtain⟨R,J⟩:=Y j x u O z;exact⟨R,J.cK T⟩
 | jd cs=>
  show aO S' w' (.ip cs) (rho' id);rw[N trivial];exact aO.mono U T.hS T.keep
 | map mk es=>
  obtain⟨g,ms,clock,D,Z,W,Y⟩:=U;refine⟨g,ms,clock,by rw[N trivial];exact D,by rw[hb trivial g (.inl (by rw[D];rfl))];exact Z,W,fun i p m hi hm=>?_⟩;obtain⟨R,J,h7⟩:=Y i p m hi hm;exact⟨R,J,h7.mono T.hS T.keep⟩
 | aN cs=>
  obtain⟨g,ty,c,D,hB⟩:=U;have I:cC (rho id)=some g:=by rw[D];rfl
  refine⟨g,ty,c,by rw[N trivial];exact D,⟨by rw[hb trivial g (.inl I)];exact hB.hp,hB.sz,fun j x u O z=>?_,hB.top,hB.dis⟩⟩;obtain⟨R,J⟩:=hB.cell j x u O z;refine⟨R,?_⟩;cases x with
  | p x=>exact aO.mono J T.hS T.keep
  | row e es=>exact aG.cK J (fun k hk=>hb trivial k (.inr (.inl ⟨cs,g,rfl,I,c,ty,_,j,_,u,hB.hp,O,trivial,z,hk⟩))) (fun x u z=>z.mono T.hS T.keep)
 | az e es=>
  obtain⟨hR,hS⟩:=U;have I:∀g,cC (rho id)=some g->w'.heap[g]?=w.heap[g]?:=fun g I=>hb trivial g (.inl I);refine⟨?_,by rw[N trivial];exact hS.cK I⟩;rw[N trivial];obtain⟨i,xs,D,Z,W,Y,R,J⟩:=hR;refine⟨i,xs,D,Z,ait W I,Y,R,fun a r j x ha O=>?_⟩;obtain⟨u,z,An⟩:=J a r j x ha O;refine⟨u,z,?_⟩;cases x with
  | av x=>exact aY.cK T An
  | row e' rN=>
   refine aG.cK An (fun k hk=>hb trivial k (.inr (.inr ?_))) (fun x u z=>z.mono T.hS T.keep);have xj:=Y r (aad ha);rcases W.2 with⟨hn,hz⟩ | ⟨g,cap,cur,hv,I,DG,k1,k2,k3,k4⟩
   ·have:=(aao.1 ha).1;omega
   refine⟨e,es,g,a,j,u,rfl,by rw[hv];rfl,⟨r,e',rN,_,_,_,ha,O,DG,?_⟩,hk⟩;rw[xj];rw[<-k4,aa7]at z;split at z
   ·simpa using z
   cases z
theorem Fr.next{mv:Nat->Prop}{w0:World}(h:Fr mv w0 w)(D:w'.os=w.os)(I:w'.tape=w.tape)(J:w'.output=w.output)(N:w.heap.size<=w'.heap.size)(hb:∀k,k<w0.heap.size->¬mv k->w'.heap[k]?=w.heap[k]?):Fr mv w0 w':=
 ⟨D.trans h.os,I.trans h.tape,J.trans h.output,aaF h.size N,fun k hk z=>(hb k hk z).trans (h.block k hk z)⟩
def fx(t:Nat->AV)(d:Option Tmp)(v:AV):Nat->AV:=match d with
 | some d=>aT t d v
 | none=>t
def xY(V:Nat->Prop)(d:Option Tmp)(j:Nat):Prop:=V j\/d=some j
theorem Lt(a:Act)(d:Tmp)(v:Value)(j:Nat)(z:d<a.tmps.size):(a.put (some d) v).tmps.getD j undef=if j=d then v else a.tmps.getD j undef:=by
 simp only[Act.put,ac4,aei];by_cases h:d=j
 ·subst h;simp[z]
 have:¬j=d:=fun e=>h e.symm;simp[h,this]
theorem Rl{S:Nat->Prop}{a:Act}(D:b7 A V L S rho s a w)(T:lB S S' w w' L L' rho rho' s.h h')(dst:Option Tmp)(I:∀d,dst=some d->d<A.n)(x:AV)(v:Value)
  (J:aY S' w' A.C.P L' rho' h' x v):∀j,xY V dst j->aY S' w' A.C.P L' rho' h' (fx s.t dst x j) ((a.put dst v).tmps.getD j undef):=by
 intro j z;cases dst with
 | none=>
  rcases z with z | z
  ·exact (D.tm j z).cK T
  cases z
 | some d=>
  rw[Lt a d v j (by rw[D.sz];exact I d rfl)];by_cases e:j=d
  ·subst e;simp only[fx,aH,if_true];exact J
  simp only[fx,aV _ _ e,aaa e];rcases z with z | z
  ·exact (D.tm j z).cK T
  injection z with z;exact absurd z.symm e
theorem Lu(a:Act)(dst:Option Tmp)(v:Value):(a.put dst v).tmps.size=a.tmps.size:=by cases dst<;>simp[Act.put]
theorem DP(a:Act)(dst:Option Tmp)(v:Value):(a.put dst v).defers=a.defers:=by cases dst<;>rfl
theorem b7.value{S:Nat->Prop}{a:Act}(z:b7 A V L S rho s a w)(dst:Option Tmp)(D:∀d,dst=some d->d<A.n)(x:AV)(v:Value)(I:aY S w A.C.P L rho s.h x v):
  b7 A (xY V dst) L S rho ⟨fx s.t dst x,s.h⟩ (a.put dst v) w:=
 {tm:=Rl z ⟨fun _ h=>h,fun _ _=>rfl,fun _ h=>⟨h,fun hl=>⟨hl,rfl⟩⟩,fun _ _ h=>h⟩ dst D x v I
  sz:=(Lu a dst v).trans z.sz
  df:=(DP a dst v).trans z.df
  nb:=z.nb,pn:=z.pn
  ev:=z.ev,s0:=z.s0,st:=z.st,sb:=z.sb,hp:=z.hp,dj:=z.dj,lv:=z.lv,fr:=z.fr }
end Go.AM
namespace Go.AM
open Go.RowKit
variable {w:World} {Q:Exit->Act->World->Prop}
theorem dW{P:Program}{o:Oper}{a:Act}{w':World}{v:Value}{next:Act->World->Prop}(h:(execOp a.eval o).run P w=.ok (.value v) w')(z:next (a.put o.dst v) w'):o.wp P a w next Q:=by
 unfold Oper.wp;rw[h];exact z
theorem qc{P:Program}{o:Oper}{a:Act}{w':World}{next:Act->World->Prop}(h:(execOp a.eval o).run P w=.ok .skip w')(z:next (a.put o.dst undef) w'):o.wp P a w next Q:=by
 unfold Oper.wp;rw[h];exact z
theorem tn(S:Nat->Prop)(w:World)(v:Value):aO S w (xi v) v:=by
 unfold xi;split
 ·exact .nil _ _
 exact .im _
theorem Ie(b:Bool)(S:Nat->Prop)(w:World)(v:Value):aO S w (To b v) v:=by
 cases b
 ·exact tn S w v
 exact .im v
variable {L:Nat->Prop} {rho:Nat->Value}
theorem xy{S:Nat->Prop}{P:Program}{h:Nat->AB}{x:PV}{v:Value}(z:aO S w x v):aY S w P L rho h (Tp x) v:=by
 unfold Tp;split
 ·cases z;exact .nl
 exact .p _ _ z
theorem xZ(S:Nat->Prop)(w:World)(P:Program)(L:Nat->Prop)(rho:Nat->Value)(h:Nat->AB)(v:Value):aY S w P L rho h (Jr v) v:=by
 unfold Jr;split
 ·exact .nl
 exact .p _ _ (.im _)
theorem Jt(S:Nat->Prop)(w:World)(P:Program)(L:Nat->Prop)(rho:Nat->Value)(h:Nat->AB)(v:Value):aY S w P L rho h (Cc v) v:=by
 unfold Cc;split
 ·exact .nl
 ·rename_i cs;split
  ·rename_i z;refine .p _ _ (.ag _ _ (by simp) (fun u I=>?_) fun i c v D J=>?_)
   ·rw[abh]at z;exact z u I
   rw[aak]at D;have N:cs.toList[i]?=some v:=by simpa using J
   rw[N]at D;simp at D;rw[<-D];exact tn S w v
  exact .junk _
 exact .p _ _ (.im _)
variable {A:cD} {V:Nat->Prop} {s:AS}
theorem bp{S:Nat->Prop}{a:Act}(z:b7 A V L S rho s a w)(x:Operand)(D:∀j,x=.tmp j->V j):aY S w A.C.P L rho s.h (ev s.t x) (a.eval x):=by
 cases x with
 | tmp j=>exact z.tm j (D j rfl)
 | const v=>exact Jt _ _ _ _ _ _ v
 | global g=>exact .p _ _ (.im _)
 | func f=>exact .p _ _ (.im _)
theorem aY.eR{S:Nat->Prop}{P:Program}{h:Nat->AB}{x:PV}{v:Value}(z:aY S w P L rho h (.p x) v):aO S w x v:=by cases z;assumption
theorem aO.bS{S:Nat->Prop}{x v:Value}(z:aO S w (.im x) v):v=x:=by cases z;rfl
theorem aY.bS{S:Nat->Prop}{P:Program}{h:Nat->AB}{x v:Value}(z:aY S w P L rho h (.p (.im x)) v):v=x:=z.eR.bS
theorem aO.su{S:Nat->Prop}{cs:List PV}{v:Value}(z:aO S w (.ag cs) v):∃vs:Array Value,v=.agg vs/\cs.length=vs.size/\(∀u∈vs.toList,u.oneCell'=true)/\(∀(i:Nat) c u,cs[i]?=some c->vs[i]?=some u->aO S w c u):=by
 cases z;exact⟨_,rfl,by assumption,by assumption,by assumption⟩
theorem aO.x8{S:Nat->Prop}{cs:List PV}{v:Value}(z:aO S w (.ip cs) v):∃b off,∃U:Nat->Value,v=.pointer (some ⟨b,off,none⟩)/\S b/\(∀(j:Nat) x,cs[j]?=some x->w.cell? ⟨b,off+j,none⟩=some (U j)/\(U j).oneCell'=true)/\(∀(j:Nat) x,cs[j]?=some x->aO S w x (U j)):=by
 cases z;exact⟨_,_,_,rfl,by assumption,by assumption,by assumption⟩
variable {es:List (List PV)}
theorem aO.oL{S:Nat->Prop}{v:Value}(I:aO S w (.sl es) v):∃a c,v=.slice a es.length c/\es.length<=c/\(es≠[]->∃b off k,a=some ⟨b,off,none⟩/\S b/\(∀e∈es,e.length=k)/\
  ∀(i:Nat) e (j:Nat) x,es[i]?=some e->e[j]?=some x->∃u,w.cell? ⟨b,off+i*k+j,none⟩=some u/\u.oneCell'=true/\aO S w x u):=by
 cases I with
 | nil a c=>exact⟨a,c,rfl,by simp,fun h=>absurd rfl h⟩
 | sl _ k b off c U hc hS hk hcell h=>exact⟨_,c,rfl,hc,fun _=>⟨b,off,k,rfl,hS,hk,fun i e j x z D=>⟨U i j,(hcell i e j x z D).1,(hcell i e j x z D).2,h i e j x z D⟩⟩⟩
def Cg(L:Nat->Prop)(new:Option AB)(d:Nat):Nat->Prop:=match new with
 | none=>L
 | some _=>fun i=>L i\/i=d
def iE(A:cD)(o:Oper):Prop:=
 ∀(V L S:Nat->Prop) (rho:Nat->Value) (s:AS) (a:Act) (w:World) (K:KK) (next:Act->World->Prop) (Q:Exit->Act->World->Prop),bI A.C->b7 A V L S rho s a w->(∀j,Operand.tmp j∈o.op.operands->V j)->(∀d,o.dst=some d->d<A.n)->
  bV A.C o (ev s.t) s.h K->(∀v eff b,K v eff (some b)->¬L (o.dst.getD 0)/\s.h (o.dst.getD 0)=b)->
  (∀v eff new S' rho' a' w',K v eff new->b7 A (xY V o.dst) (Cg L new (o.dst.getD 0)) S' rho' ⟨fx s.t o.dst v,app s.h eff⟩ a' w'->next a' w')->o.wp A.C.P a w next Q
theorem aM{o:Oper}{S:Nat->Prop}{a:Act}{K:KK}{next:Act->World->Prop}(D:b7 A V L S rho s a w)(J:∀d,o.dst=some d->d<A.n)
  (z:∀v eff new S' rho' I w',K v eff new->b7 A (xY V o.dst) (Cg L new (o.dst.getD 0)) S' rho' ⟨fx s.t o.dst v,app s.h eff⟩ I w'->next I w') {x:AV} {v:Value} (N:K x [] none) (O:aY S w A.C.P L rho s.h x v)
  (R:(execOp a.eval o).run A.C.P w=.ok (.value v) w):o.wp A.C.P a w next Q:=
 dW R (z _ _ _ _ _ _ _ N (D.value o.dst J x v O))
theorem OA{o:Oper}(x:Operand)(I:o.op=.move x):iE A o:=by
 intro V L S rho s a w K next Q hC D N O J _ z
 simp only[bV,I]at J;exact aM D O z J (bp D x fun j R=>N j (by simp[I,Op.operands,R])) (by simp[execOp,I])
theorem Ju{o:Oper}(x:Operand)(I:o.op=.assign x):iE A o:=by
 intro V L S rho s a w K next Q hC D N O J _ z
 simp only[bV,I]at J;exact aM D O z J (bp D x fun j R=>N j (by simp[I,Op.operands,R])) (by simp[execOp,I])
theorem OB{o:Oper}(c x y:Operand)(I:o.op=.pick c x y):iE A o:=by
 intro V L S rho s a w K next Q hC z O U J _ D
 simp only[bV,I]at J;have R:=bp z c fun j N=>O j (by simp[I,Op.operands,N]);have W:=bp z x fun j N=>O j (by simp[I,Op.operands,N]);have Y:=bp z y fun j N=>O j (by simp[I,Op.operands,N]);split at J
 ·rename_i t Z;rw[Z]at R;split at J
  ·exact aM z U D J W (by simp[execOp,I,R.bS,asBool])
  exact aM z U D J Y (by simp[execOp,I,R.bS,asBool])
 exact J.elim
theorem aY.Rm{S:Nat->Prop}{P:Program}{h:Nat->AB}{xs:List AV}{v:Value}(z:aY S w P L rho h (.st xs) v):∃vs:Array Value,v=.agg vs/\xs.length=vs.size/\(∀u∈vs.toList,u.oneCell'=true)/\∀(i:Nat) c u,xs[i]?=some c->vs[i]?=some u->aY S w P L rho h c u:=by
 cases z;exact⟨_,rfl,by assumption,by assumption,by assumption⟩
theorem aY.Rn{S:Nat->Prop}{P:Program}{h:Nat->AB}{xs:List AV}{v:Value}(z:aY S w P L rho h (.tu xs) v):∃vs:Array Value,v=.tuple vs/\xs.length=vs.size/\∀(i:Nat) c u,xs[i]?=some c->vs[i]?=some u->aY S w P L rho h c u:=by
 cases z;exact⟨_,rfl,by assumption,by assumption⟩
variable {α:Type}
theorem jG{vs:Array α}{n i:Nat}(hl:n=vs.size)(hi:i<n):∃v,vs[i]?=some v:=⟨vs[i]'(by omega),aa1 _⟩
theorem aD{l:List α}{i:Nat}{x:α}(h:l[i]?=some x):i<l.length:=(aao.1 h).1
theorem F_{o:Oper}(x:Operand)(i:Nat)(J:o.op=.extract x i):iE A o:=by
 intro V L S rho s a w K next Q hC I U W D _ z
 simp only[bV,J]at D;have N:=bp I x fun j Y=>U j (by simp[J,Op.operands,Y]);split at D
 ·rename_i xs s9;rw[s9]at N;split at D
  ·rename_i y O;obtain⟨vs,Z,hl,hc⟩:=N.Rn;obtain⟨v,R⟩:=jG hl (aD O);refine aM I W z D (hc i y v O R) ?_;simp[execOp,J,Z,Instr.extract,R]
  exact D.elim
 exact D.elim
theorem Ig{a b:IntKind}(h:kB a b=true):a=b:=by cases a<;>cases b<;>first | rfl | cases h
theorem OC{k:IntKind}(h:TG k=true):k=.i64:=by cases k<;>first | rfl | cases h
theorem nW{k:IntKind}{n:Int}{K:Value->Prop}(h:u6 k n K):K (.int k (k.wrap n)):=by
 unfold u6 at h;split at h
 ·rename_i z;obtain rfl:=OC z;obtain⟨⟨D,I⟩,J⟩:=h;rw[IntWalk.i64_in n ⟨D,I⟩];exact J
 exact h
theorem Ch(a b:ByteArray):(a.toList==b.toList)=decide (a=b):=by
 rw[abb];simp only[beq_iff_eq,aaH,adQ];constructor
 ·intro h;exact ByteArray.ext (adR h)
 rintro rfl;rfl
theorem Ih(a b:ByteArray):Op.bytesLess a.toList b.toList=Op.bytesLess a.data.toList b.data.toList:=by rw[adQ,adQ]
theorem x9(a b:Int):(a==b)=decide (a=b):=by rw[abb];simp
theorem Ga(a b:Int):(a != b)=!decide (a=b):=by rw[bne,x9]
theorem OD{a b:Nat}(h:Ag a b=true):a=b:=aa2 h
theorem run_equalIn_slice_nil{P:Program}(w:World)(d:Nat)(t e:TypeId)(a:Option Addr)(l c:Nat)(h:P.underlying t=some (.slice e)):(Op.equalIn (d+1) t (.slice a l c) (.slice none 0 0)).run P w=.ok a.isNone w:=by
 cases a<;>simp[Op.equalIn,run_underlying h]
theorem run_equal_slice_nil{P:Program}(w:World)(t e:TypeId)(a:Option Addr)(l c:Nat)(h:P.underlying t=some (.slice e)):(Op.equal t (.slice a l c) (.slice none 0 0)).run P w=.ok a.isNone w:=run_equalIn_slice_nil w 9999 t e a l c h
theorem Lv{o:Oper}(op:BinOp)(t:TypeId)(x y:Operand)(t':TypeId)(N:o.op=.binOp op t x y t'):iE A o:=by
 intro V L S rho s a w K next Q hC J hV O I _ D
 simp only[bV,N]at I;have W:=bp J x fun j hj=>hV j (by simp[N,Op.operands,hj]);have Y:=bp J y fun j hj=>hV j (by simp[N,Op.operands,hj]);split at I
 ·rename_i u v hu hv;rw[hu]at W;rw[hv]at Y;replace W:=W.eR;replace Y:=Y.eR;unfold sj at I;split at I
  ·rename_i k m k' n;have e1:=W.bS;have e2:=Y.bS;split at I
   ·rename_i hs;have WA:op=.shr:=by cases op<;>first | rfl | cases hs
    subst WA;obtain⟨⟨h0,U⟩,I⟩:=I;refine aM J O D I (.p _ _ (.im _)) ?_;have WB:¬n<0:=by omega
    simp[execOp,N,e1,e2,eqGuard,binOp,Op.shift,WB]
   split at I
   ·exact I.elim
   rename_i hk;obtain rfl:=Ig hk;split at I
   ·exact aM J O D (nW I) (.p _ _ (.im _)) (by simp[execOp,N,e1,e2,eqGuard,binOp,Op.intArith])
   ·exact aM J O D (nW I) (.p _ _ (.im _)) (by simp[execOp,N,e1,e2,eqGuard,binOp,Op.intArith])
   ·exact aM J O D (nW I) (.p _ _ (.im _)) (by simp[execOp,N,e1,e2,eqGuard,binOp,Op.intArith])
   ·exact aM J O D (nW I.2) (.p _ _ (.im _)) (by simp[execOp,N,e1,e2,eqGuard,binOp,Op.intDiv,I.1])
   ·exact aM J O D I.2 (.p _ _ (.im _)) (by simp[execOp,N,e1,e2,eqGuard,binOp,Op.intDiv,I.1])
   ·exact aM J O D I (.p _ _ (.im _)) (by simp[execOp,N,e1,e2,eqGuard,binOp,Op.intCmp,x9])
   ·exact aM J O D I (.p _ _ (.im _)) (by simp[execOp,N,e1,e2,eqGuard,binOp,Op.intCmp,Ga])
   ·exact aM J O D I (.p _ _ (.im _)) (by simp[execOp,N,e1,e2,eqGuard,binOp,Op.intCmp])
   ·exact aM J O D I (.p _ _ (.im _)) (by simp[execOp,N,e1,e2,eqGuard,binOp,Op.intCmp])
   ·exact aM J O D I (.p _ _ (.im _)) (by simp[execOp,N,e1,e2,eqGuard,binOp,Op.intCmp])
   ·exact aM J O D I (.p _ _ (.im _)) (by simp[execOp,N,e1,e2,eqGuard,binOp,Op.intCmp])
   exact I.elim
  ·rename_i m n;have e1:=W.bS;have e2:=Y.bS;split at I
   ·exact aM J O D I.2 (.p _ _ (.im _)) (by
     have:=I.1;simp[execOp,N,e1,e2,eqGuard,binOp,run_string_add_sum w m n this])
   ·exact aM J O D I (.p _ _ (.im _)) (by simp[execOp,N,e1,e2,eqGuard,binOp,Op.stringOp,Ch])
   ·exact aM J O D I (.p _ _ (.im _)) (by simp[execOp,N,e1,e2,eqGuard,binOp,Op.stringOp,Ch])
   ·exact aM J O D I (.p _ _ (.im _)) (by simp[execOp,N,e1,e2,eqGuard,binOp,Op.stringOp,Ih])
   ·exact aM J O D I (.p _ _ (.im _)) (by simp[execOp,N,e1,e2,eqGuard,binOp,Op.stringOp,Ch,Ih])
   ·exact aM J O D I (.p _ _ (.im _)) (by simp[execOp,N,e1,e2,eqGuard,binOp,Op.stringOp,Ch,Ih])
   ·exact aM J O D I (.p _ _ (.im _)) (by simp[execOp,N,e1,e2,eqGuard,binOp,Op.stringOp,Ih])
   exact I.elim
  ·rename_i m n;have e1:=W.bS;have e2:=Y.bS;split at I
   ·rename_i size bytes zero hT;have hb:A.C.P.underlying t=some .bool:=by
     obtain⟨_,_,_,_,_,_,_,_,_,h⟩:=hC.iq t _ hT;exact h.2 rfl
    have R:=fun w=>run_equal_bool (P:=A.C.P) (w:=w) t m n hb;split at I
    ·exact aM J O D I (.p _ _ (.im _)) (by simp[execOp,N,e1,e2,eqGuard,binOp,R];cases m<;>cases n<;>rfl)
    ·exact aM J O D I (.p _ _ (.im _)) (by simp[execOp,N,e1,e2,eqGuard,binOp,R];cases m<;>cases n<;>rfl)
    exact I.elim
   exact I.elim
  ·rename_i m n;obtain⟨xs,e1,Qo,_,WC⟩:=W.su;obtain⟨ys,e2,F4,_,WD⟩:=Y.su;have im:∀(z:List Value) (m:List PV) (n:List PV) r,bM z m n=some r->(∀x∈m,∃v,x=.im v)/\(∀x∈n,∃v,x=.im v):=by
    intro z
    induction z with
    | nil=>
     intro m n r h;cases m<;>cases n<;>first
      | (simp[bM]at h;done)
      | exact⟨by simp,by simp⟩
    | cons c z ih=>
     intro m n r h;unfold bM at h;split at h
     ·rename_i U;cases U
     all_goals first
      | (
        rename_i U;injection U with U tq;subst tq;split at h
        ·obtain⟨r',m_,_⟩:=acq.1 h;obtain⟨i1,i2⟩:=ih _ _ _ m_;exact⟨by simpa using i1,by simpa using i2⟩
        cases h)
      | (
        rename_i U;injection U with U tq;subst tq;obtain⟨r',m_,_⟩:=acq.1 h;obtain⟨i1,i2⟩:=ih _ _ _ m_;exact⟨by simpa using i1,by simpa using i2⟩)
      | cases h
   have key:∀z r,bM z m n=some r->(∀(i:Nat) x v,m[i]?=some x->xs[i]?=some v->x=.im v)/\(∀(i:Nat) x v,n[i]?=some x->ys[i]?=some v->x=.im v):=by
    intro z r hr;obtain⟨i1,i2⟩:=im z m n r hr;refine⟨fun i x v U h2=>?_,fun i x v U h2=>?_⟩
    ·obtain⟨u,rfl⟩:=i1 x (aad U);rw[(WC i _ v U h2).bS]
    obtain⟨u,rfl⟩:=i2 x (aad U);rw[(WD i _ v U h2).bS]
   split at I
   ·rename_i fs size bytes zero hT;split at I
    ·exact I.elim
    rename_i Z;have Z:=OD Z;split at I
    ·split at I
     ·rename_i r hr;obtain⟨k1,k2⟩:=key _ r hr;have R:=hC.eqs t _ .eql m n r hT rfl ⟨_,rfl⟩ hr xs ys w k1 k2 Qo F4 Z (.inl rfl) x y;exact aM J O D I (.p _ _ (.im _)) (by
       simp only[execOp,N,e1,e2];rw[aau,R];simp)
     exact I.elim
    ·split at I
     ·rename_i r hr;obtain⟨k1,k2⟩:=key _ r hr;have R:=hC.eqs t _ .neq m n r hT rfl ⟨_,rfl⟩ hr xs ys w k1 k2 Qo F4 Z (.inr rfl) x y;exact aM J O D I (.p _ _ (.im _)) (by
       simp only[execOp,N,e1,e2];rw[aau,R];simp)
     exact I.elim
    exact I.elim
   exact I.elim
  exact I.elim
 ·rename_i u hu hv;rw[hu]at W;rw[hv]at Y;replace W:=W.eR;have hy':a.eval y=.slice none 0 0:=by generalize a.eval y=v at Y;cases Y;rfl
  unfold Js at I;split at I
  case h_2=>exact I.elim
  rename_i es;split at I
  case h_1=>exact I.elim
  rename_i DH;split at I
  case h_2=>exact I.elim
  rename_i e size bytes zero eq hT;have fK:A.C.P.underlying t=some (.slice e):=by
   obtain⟨_,_,_,_,_,_,_,_,_,h⟩:=hC.iq t _ hT;exact h
  obtain⟨ad,c,hv,_,b8⟩:=W.oL;obtain⟨b,off,k,rfl,_⟩:=b8 (fun e=>by rw[e]at DH;cases DH);split at I
  ·exact aM J O D I (.p _ _ (.im _)) (by simp[execOp,N,hv,hy',eqGuard,binOp,run_equal_slice_nil _ _ _ _ _ _ fK])
  ·exact aM J O D I (.p _ _ (.im _)) (by simp[execOp,N,hv,hy',eqGuard,binOp,run_equal_slice_nil _ _ _ _ _ _ fK])
  exact I.elim
 exact I.elim
theorem OE{o:Oper}(op:UnOp)(t:TypeId)(x:Operand)(J:o.op=.unOp op t x):iE A o:=by
 intro V L S rho s a w K next Q hC D R O I _ z
 simp only[bV,J]at I;have N:=bp D x fun j U=>R j (by simp[J,Op.operands,U]);split at I
 ·rename_i b hb;rw[hb]at N;exact aM D O z I (.p _ _ (.im _)) (by simp[execOp,J,N.bS,Op.unary])
 ·rename_i k n hb;rw[hb]at N;exact aM D O z (nW I) (.p _ _ (.im _)) (by simp[execOp,J,N.bS,Op.unary,Op.intArith])
 exact I.elim
variable {ti:TI}
theorem nV.sizeOf{P:Program}{t:TypeId}(h:nV P t ti)(w:World):(sizeOf t).run P w=.ok ti.size w:=by
 obtain⟨info,z,D,I,_⟩:=h;simp[Go.sizeOf,typeInfo,D,I]
theorem nV.isAgg{P:Program}{t:TypeId}(h:nV P t ti)(w:World):(isAgg t).run P w=.ok ti.ud.agg w:=by
 obtain⟨info,z,_,_,_,_,_,_,_,h⟩:=h;unfold Go.isAgg;cases hu:ti.ud with
 | sc=>
  rw[hu]at h;obtain⟨⟨d,D,I⟩,_⟩:=h;rw[aau,run_underlying D];cases d<;>first | rfl | exact I.elim
 | int k=>rw[hu]at h;rw[aau,run_underlying h];rfl
 | st fs=>rw[hu]at h;obtain⟨gs,J,_⟩:=h;rw[aau,run_underlying J];rfl
 | sl e=>rw[hu]at h;rw[aau,run_underlying h];rfl
 | str=>rw[hu]at h;rw[aau,run_underlying h];rfl
 | mp k e=>rw[hu]at h;rw[aau,run_underlying h];rfl
theorem ae5{P:Program}{t:TypeId}(h:nV P t ti)(z:ti.ud.agg=true)(b off:Nat)(vs:List Value)(hl:vs.length=ti.size)(D:∀(j:Nat) v,vs[j]?=some v->w.cell? ⟨b,off+j,none⟩=some v):
  (Instr.loadAt t (.pointer (some ⟨b,off,none⟩))).run P w=.ok (.agg vs.toArray) w:=by
 have:=run_loadCells_list (P:=P) w ⟨b,off,none⟩ vs (fun j v I=>by rw[aaJ];exact D j v I);rw[hl]at this;simp[Instr.loadAt,Instr.sureAddr,loadVar,h.isAgg,z,h.sizeOf,this]
theorem ae0{P:Program}{t:TypeId}(h:nV P t ti)(z:ti.ud.agg=false)(b off:Nat)(v:Value)(D:w.cell? ⟨b,off,none⟩=some v):
  (Instr.loadAt t (.pointer (some ⟨b,off,none⟩))).run P w=.ok v w:=by
 simp[Instr.loadAt,Instr.sureAddr,loadVar,h.isAgg,z,load,Sem.run,D]
theorem Ii{S:Nat->Prop}(cs:List PV)(V:Nat->Value)(h:∀(j:Nat) x,cs[j]?=some x->(V j).oneCell'=true/\aO S w x (V j)):aO S w (.ag cs) (.agg ((List.range cs.length).map V).toArray):=by
 refine .ag _ _ (by simp) (fun u z=>?_) fun i c v D I=>?_
 ·simp at z;obtain⟨j,J,rfl⟩:=z;exact (h j _ (acg J)).1
 have hi:=aD D;simp[hi]at I;rw[<-I];exact (h i c D).2
variable {off:Nat}
theorem kf{l:List α}{n j:Nat}{x:α}(h:((l.drop off).take n)[j]?=some x):l[off+j]?=some x:=by
 rw[aa7]at h;split at h
 ·rwa [aas]at h
 cases h
theorem kh{l:List α}{n:Nat}(h:off+n<=l.length):((l.drop off).take n).length=n:=by simp;omega
theorem nX{l:List α}{x:α}{r:List α}(h:l.drop off=x::r):l[off]?=some x:=by
 have:(l.drop off)[0]?=some x:=by rw[h];rfl
 rw[aas]at this;exact this
theorem kO{a b:Nat}(h:H9 a b=true):a<=b:=abA h
theorem ahS{a b:Nat}(h:Ag a b=true):a=b:=aa2 h
theorem gV:∀{cs:List AV} {xs:List PV},dY cs=some xs->cs.length=xs.length/\∀(j:Nat) c x,cs[j]?=some c->xs[j]?=some x->(c=.p x\/(c=.nl/\x=.sl [])):=by
 intro cs
 induction cs with
 | nil=>intro xs h;simp[dY]at h;subst h;exact⟨rfl,by simp⟩
 | cons c cs ih=>
  intro xs h;unfold dY at h;split at h
  ·rename_i z;cases z
  ·rename_i x r z;injection z with z h2;subst z h2;obtain⟨ys,J,rfl⟩:=acq.1 h;obtain⟨N,O⟩:=ih J;refine⟨by simp[N],fun j c R D I=>?_⟩;cases j with
   | zero=>simp at D I;subst D I;exact .inl rfl
   | succ j=>exact O j c R (by simpa using D) (by simpa using I)
  ·rename_i r z;injection z with z h2;subst z h2;obtain⟨ys,J,rfl⟩:=acq.1 h;obtain⟨N,O⟩:=ih J;refine⟨by simp[N],fun j c R D I=>?_⟩;cases j with
   | zero=>simp at D I;subst D I;exact .inr ⟨rfl,rfl⟩
   | succ j=>exact O j c R (by simpa using D) (by simpa using I)
  cases h
theorem aY.xz{S:Nat->Prop}{P:Program}{h:Nat->AB}{c:AV}{x:PV}{u:Value}(D:c=.p x\/(c=.nl/\x=.sl []))(z:aY S w P L rho h c u):aO S w x u:=by
 rcases D with rfl | ⟨rfl,rfl⟩
 ·exact z.eR
 cases z;exact .nil _ _
variable {id:Nat}
theorem aY.h_{S:Nat->Prop}{P:Program}{h:Nat->AB}{v:Value}(z:aY S w P L rho h (.bx id off) v)(D:(h id).there):L id/\∃g,rho id=.pointer (some ⟨g,0,none⟩)/\v=.pointer (some ⟨g,off,none⟩):=by
 cases z;rename_i I;exact I D
variable {e:TypeId}
theorem aY.x_{S:Nat->Prop}{P:Program}{h:Nat->AB}{i:Nat}{v:Value}(z:aY S w P L rho h (.rp id i off) v)(D:h id=.row e es):
  L id/\∃g n c ti,rho id=.slice (some ⟨g,0,none⟩) n c/\P.info? e=some ti/\v=.pointer (some ⟨g,i*ti.size+off,none⟩):=by
 cases z;rename_i I;exact I e (by rw[D];rfl)
theorem aY.tr{S:Nat->Prop}{P:Program}{h:Nat->AB}{i:Nat}{v:Value}(z:aY S w P L rho h (.rp id i off) v){es:List (List HX)}(D:h id=.az e es):
  L id/\∃g n c ti,rho id=.slice (some ⟨g,0,none⟩) n c/\P.info? e=some ti/\v=.pointer (some ⟨g,i*ti.size+off,none⟩):=by
 cases z;rename_i I;exact I e (by rw[D];rfl)
theorem aY.cH{S:Nat->Prop}{P:Program}{h:Nat->AB}{v:Value}(z:aY S w P L rho h (.ow id) v)(D:(h id).there):L id/\v=rho id:=by
 cases z;rename_i I;exact I D
theorem aG.cell{P:Program}{R:α->Value->Prop}{es:List (List α)}{g n c:Nat}{ti:TypeInfo}(h:aG P w R e es (.slice (some ⟨g,0,none⟩) n c))(hi:P.info? e=some ti):
  ∀(a:Nat) r (j:Nat) x,es[a]?=some r->r[j]?=some x->∃u,w.cell? ⟨g,a*ti.size+j,none⟩=some u/\u.oneCell'=true/\R x u:=by
 obtain⟨i,xs,z,h2,I,h4,J,N⟩:=h;rw[hi]at z;injection z with z;subst z;intro a r j x O U;obtain⟨u,D,W⟩:=N a r j x O U;have:=I.cells (g:=g) rfl _ u D;rw[aaJ]at this;refine⟨u,by simpa using this,J u (aad D),W⟩
theorem DQ{o:Oper}(t:TypeId)(x:Operand)(aK:o.op=.load t x){S:Nat->Prop}{a:Act}{w:World}{K:KK}(hC:bI A.C)(sim:b7 A V L S rho s a w)(hV:∀j,x=.tmp j->V j)(D:bV A.C o (ev s.t) s.h K):
  ∃av v,K av [] none/\aY S w A.C.P L rho s.h av v/\(Instr.loadAt t (a.eval x)).run A.C.P w=.ok v w:=by
 simp only[bV,aK]at D;have hx:=bp sim x hV;split at D
 ·exact D.elim
 rename_i ti hT;have fK:=hC.iq t ti hT;split at D
 ·rename_i cs pN;rw[pN]at hx;obtain⟨b,off,U,Z,hb,z,R⟩:=hx.eR.x8;split at D
  ·rename_i W;split at D
   ·rename_i J;have J:=kO J;have hlen:(cs.take ti.size).length=ti.size:=by simp;omega
    refine⟨_,_,D,.p _ _ (Ii _ U fun j x I=>?_),?_⟩
    ·have Lw:cs[j]?=some x:=by rw[aa7]at I;split at I;exact I;cases I
     exact⟨(z j x Lw).2,R j x Lw⟩
    have:=ae5 (w:=w) fK W b off ((List.range (cs.take ti.size).length).map U) (by simp;omega) (fun j v I=>by
     have sw:j<(cs.take ti.size).length:=by have:=aD I;simpa using this
     rw[aak,abP sw]at I;simp at I;have Ro:j<cs.length:=by rw[hlen]at sw;omega
     rw[(z j _ (acg Ro)).1,I])
    rw[Z];exact this
   exact D.elim
  rename_i W;split at D
  ·rename_i c r;refine⟨_,_,D,.p _ _ (R 0 c rfl),?_⟩;have:=ae0 (w:=w) fK W b off (U 0) (by simpa using (z 0 c rfl).1);rw[Z];exact this
  exact D.elim
 ·rename_i id off pN;rw[pN]at hx;split at D
  ·rename_i cs aN;obtain⟨hL,g,hg,Z⟩:=hx.h_ (by rw[aN];trivial);have hh:=sim.hp id hL;rw[aN]at hh;obtain⟨g',ty,c,O,h2,h3,h4⟩:=hh;rw[hg]at O;injection O with O;injection O with O;injection O with O;subst O;have z:∀j u,c[j]?=some u->w.cell? ⟨g,j,none⟩=some u:=fun j u hu=>by rw[cell_of_row w g j c ty (0,0) h2];exact hu
   split at D
   ·rename_i W;split at D
    ·rename_i xs J s9;have J:=kO J;obtain⟨hl,Jv⟩:=gV s9;have hlen:xs.length=ti.size:=by rw[<-hl];exact kh J
     have hU:∀(j:Nat) x,xs[j]?=some x->∃u,c[off+j]?=some u/\u.oneCell'=true/\aO S w x u:=by
      intro j x I;obtain⟨y,hy⟩:∃y,((cs.drop off).take ti.size)[j]?=some y:=⟨_,acg (by rw[hl];exact aD I)⟩;have N:=kf hy;obtain⟨u,hu⟩:=jG h3.symm (aD N);obtain⟨Y,h6⟩:=h4 _ _ _ N hu;exact⟨u,hu,Y,h6.xz (Jv j y x hy I)⟩
     refine⟨_,_,D,.p _ _ (Ii xs (fun j=>(c[off+j]?).getD undef) fun j x I=>?_),?_⟩
     ·obtain⟨u,Y,h6,h7⟩:=hU j x I;rw[Y];exact⟨h6,h7⟩
     have:=ae5 (w:=w) fK W g off ((List.range xs.length).map (fun j=>(c[off+j]?).getD undef)) (by simpa using hlen) (fun j v I=>by
      have sw:j<xs.length:=by have:=aD I;simpa using this
      rw[aak,abP sw]at I;obtain⟨u,Y,_⟩:=hU j _ (acg sw);simp[Y]at I;rw[z _ _ Y,I])
     rw[Z];exact this
    exact D.elim
   rename_i W;split at D
   ·rename_i y r hy;have N:=nX hy;obtain⟨u,hu⟩:=jG h3.symm (aD N);obtain⟨Y,h6⟩:=h4 _ _ _ N hu;refine⟨_,_,D,h6,?_⟩;have:=ae0 (w:=w) fK W g off u (z _ _ hu);rw[Z];exact this
   exact D.elim
  ·rename_i cs aN;obtain⟨hL,g,hg,Z⟩:=hx.h_ (by rw[aN];trivial);have hh:=sim.hp id hL;rw[aN]at hh;obtain⟨b,Z_,U,O,hb,z,R⟩:=aO.x8 hh;rw[hg]at O;injection O with O;injection O with O;injection O with O h2;subst O h2;split at D
   ·rename_i W;split at D
    ·rename_i J;have J:=kO J;have hlen:=kh J;refine⟨_,_,D,.p _ _ (Ii _ (fun j=>U (off+j)) fun j x I=>?_),?_⟩
     ·have Lw:=kf I;exact⟨(z _ x Lw).2,R _ x Lw⟩
     have:=ae5 (w:=w) fK W g off ((List.range ((cs.drop off).take ti.size).length).map (fun j=>U (off+j))) (by simpa using hlen) (fun j v I=>by
      have sw:j<((cs.drop off).take ti.size).length:=by have:=aD I;simpa using this
      rw[aak,abP sw]at I;simp at I;have Ro:off+j<cs.length:=by rw[hlen]at sw;omega
      have Y:=(z _ _ (acg Ro)).1;rw[abC]at Y;rw[Y,I])
     rw[Z];exact this
    exact D.elim
   rename_i W;split at D
   ·rename_i y r hy;have N:=nX hy;refine⟨_,_,D,.p _ _ (R _ _ N),?_⟩;have:=ae0 (w:=w) fK W g off (U off) (by simpa using (z _ _ N).1);rw[Z];exact this
   exact D.elim
  exact D.elim
 ·rename_i id i off pN;rw[pN]at hx;split at D
  ·rename_i e es az;obtain⟨hL,g,n,c,tj,hg,AZ,Z⟩:=hx.x_ az;have hh:=sim.hp id hL;rw[az]at hh;have Lg:aG A.C.P w (aO S w) e es (.slice (some ⟨g,0,none⟩) n c):=by rw[<-hg];exact hh
   have z:=Lg.cell AZ;obtain⟨r,hr,D⟩:=D;split at D
   ·rename_i W;split at D
    ·rename_i J;have J:=kO J;have hlen:=kh J;have hU:∀(j:Nat) x,((r.drop off).take ti.size)[j]?=some x->∃u,w.cell? ⟨g,i*tj.size+off+j,none⟩=some u/\u.oneCell'=true/\aO S w x u:=by
      intro j x I;obtain⟨u,O,h2,h3⟩:=z i r _ x hr (kf I);exact⟨u,by rw[aaX];exact O,h2,h3⟩
     refine⟨_,_,D,.p _ _ (Ii _ (fun j=>(w.cell? ⟨g,i*tj.size+off+j,none⟩).getD undef) fun j x I=>?_),?_⟩
     ·obtain⟨u,Y,h6,h7⟩:=hU j x I;rw[Y];exact⟨h6,h7⟩
     have:=ae5 (w:=w) fK W g (i*tj.size+off) ((List.range ((r.drop off).take ti.size).length).map (fun j=>(w.cell? ⟨g,i*tj.size+off+j,none⟩).getD undef)) (by simpa using hlen) (fun j v I=>by
      have sw:j<((r.drop off).take ti.size).length:=by have:=aD I;simpa using this
      rw[aak,abP sw]at I;obtain⟨u,Y,_⟩:=hU j _ (acg sw);simp[Y]at I;rw[Y,I])
     rw[Z];exact this
    exact D.elim
   rename_i W;split at D
   ·rename_i y r' hy;have N:=nX hy;obtain⟨u,O,h2,h3⟩:=z i r _ y hr N;refine⟨_,_,D,.p _ _ h3,?_⟩;have:=ae0 (w:=w) fK W g (i*tj.size+off) u O;rw[Z];exact this
   exact D.elim
  ·rename_i e es az;obtain⟨hL,g,n,c,tj,hg,AZ,Z⟩:=hx.tr az;have hh:=sim.hp id hL;rw[az]at hh;have Lg:aG A.C.P w (rK S w A.C.P L rho s.h) e es (.slice (some ⟨g,0,none⟩) n c):=by rw[<-hg];exact hh.1
   have z:=Lg.cell AZ;obtain⟨r,hr,D⟩:=D;split at D
   ·exact D.elim
   rename_i W;split at D
   ·rename_i y r' hy;have N:=nX hy;obtain⟨u,O,h2,h3⟩:=z i r _ _ hr N;refine⟨_,_,D,h3,?_⟩;have:=ae0 (w:=w) fK W g (i*tj.size+off) u O;rw[Z];exact this
   exact D.elim
  exact D.elim
 exact D.elim
theorem OF{o:Oper}(t:TypeId)(x:Operand)(I:o.op=.load t x):iE A o:=by
 intro V L S rho s a w K next Q hC D J N O _ z
 obtain⟨av,v,R,U,W⟩:=DQ t x I hC D (fun j Y=>J j (by simp[I,Op.operands,Y])) O;exact aM D N z R U (by simp only[execOp,I,aau,W,ab5,aa6])
theorem nV.under{P:Program}{t:TypeId}(h:nV P t ti):match ti.ud with
  | .sc=>(∃d,P.underlying t=some d/\(match d with | .struct _ | .array _ _=>False | _=>True))/\(ti.eq=true->P.underlying t=some .bool)
  | .int k=>P.underlying t=some (.int k)
  | .st fs=>∃z,P.underlying t=some (.struct z)/\fs.length=z.size/\(∀(i:Nat) f g,fs[i]?=some f->z[i]?=some g->f.1=g.offset/\f.2.1≠0/\(∃D,P.info? g.type=some D/\D.size=f.2.1)/\
    (∃d,P.underlying g.type=some d/\f.2.2=(match d with | .struct _ | .array _ _=>true | _=>false)))
  | .sl e=>P.underlying t=some (.slice e)
  | .str=>P.underlying t=some .string
  | .mp k e=>P.underlying t=some (.map k e):=by
 obtain⟨_,_,_,_,_,_,_,_,_,h⟩:=h;exact h
theorem nV.info{P:Program}{t:TypeId}(h:nV P t ti):∃info z,P.info? t=some info/\info.size=ti.size/\info.bytes=ti.bytes/\info.zero=some z/\z.cells=ti.zero.toArray/\(∀v∈ti.zero,v.oneCell'=true):=by
 obtain⟨i,z,D,I,J,N,O,h6,R,h⟩:=h;exact⟨i,z,D,I,J,N,O,R⟩
theorem nV.Lx{P:Program}{t:TypeId}(h:nV P t ti):ti.zero.length=ti.size:=by
 obtain⟨i,z,h1,h2,h3,h4,h5,D,h7,h⟩:=h;exact D
theorem Ci{o:Oper}(t:TypeId)(x:Operand)(f:Nat)(aK:o.op=.fieldAddr t x f):iE A o:=by
 intro V L S rho s a w K next Q hC J hV hd D _ z
 simp only[bV,aK]at D;have O:=bp J x fun j R=>hV j (by simp[aK,Op.operands,R]);split at D
 ·rename_i fs size bytes zero eq hT;have fK:=(hC.iq t _ hT).under;obtain⟨gs,tv,hl,hf⟩:=fK;split at D
  ·rename_i off sz ag OG;obtain⟨g,hg⟩:=jG hl (aD OG);obtain⟨e1,e2,⟨i2,Jw,Rp⟩,_⟩:=hf f _ g OG hg;have I:∀b o',(Instr.fieldAt t (.pointer (some ⟨b,o',none⟩)) f).run A.C.P w=.ok (.pointer (some ⟨b,o'+off,none⟩)) w:=by
    intro b o';simp only at e1 e2 Rp;simp[Instr.fieldAt,run_underlying tv,hg,Instr.sureAddr,fieldPlace,Go.sizeOf,typeInfo,Jw,Rp,e2,aaJ,<-e1]
   split at D
   ·rename_i cs pN;rw[pN]at O;obtain⟨b,o',U,W,hb,Y,hrep⟩:=O.eR.x8;refine aM J hd z D (.p _ _ (.ip _ b (o'+off) (fun j=>U (off+j)) hb (fun j y R=>?_) fun j y R=>?_)) (by simp[execOp,aK,W,I])
    ·rw[aas]at R;rw[aaX];exact Y _ y R
    rw[aas]at R;exact hrep _ y R
   ·rename_i id o' pN;rw[pN]at O;split at D
    ·exact D.elim
    rename_i b8;have ht:(s.h id).there:=by
     cases hh:s.h id<;>first | trivial | exact absurd hh (by simpa using b8)
    obtain⟨hL,Z,nS,W⟩:=O.h_ ht;exact aM J hd z D (.bx _ _ _ fun _=>⟨hL,Z,nS,rfl⟩) (by simp[execOp,aK,W,I])
   ·rename_i id i o' pN;rw[pN]at O;split at D
    ·rename_i e es az;obtain⟨hL,Z,n,c,tj,nS,AZ,W⟩:=O.x_ az;refine aM J hd z D (v:=.pointer (some ⟨Z,i*tj.size+o'+off,none⟩)) (.rp _ _ _ _ fun e2 N=>?_) (by simp[execOp,aK,W,I]);rw[az]at N;injection N with N;subst N;exact⟨hL,Z,n,c,tj,nS,AZ,by rw[aaX]⟩
    ·rename_i e es az;obtain⟨hL,Z,n,c,tj,nS,AZ,W⟩:=O.tr az;refine aM J hd z D (v:=.pointer (some ⟨Z,i*tj.size+o'+off,none⟩)) (.rp _ _ _ _ fun e2 N=>?_) (by simp[execOp,aK,W,I]);rw[az]at N;injection N with N;subst N;exact⟨hL,Z,n,c,tj,nS,AZ,by rw[aaX]⟩
    exact D.elim
   exact D.elim
  exact D.elim
 exact D.elim
theorem Ly{o:Oper}(t:TypeId)(x:Operand)(f:Nat)(R:o.op=.field t x f):iE A o:=by
 intro V L S rho s a w K next Q hC I hV hd z _ D
 simp only[bV,R]at z;have hx:=bp I x fun j hj=>hV j (by simp[R,Op.operands,hj]);split at z
 ·rename_i fs size bytes zero eq cs hT pN;have fK:=(hC.iq t _ hT).under;obtain⟨gs,tv,hl,hf⟩:=fK;rw[pN]at hx;obtain⟨vs,hv,F4,h1,hc⟩:=hx.eR.su;split at z
  ·rename_i off sz ag OG;obtain⟨g,W⟩:=jG hl (aD OG);obtain⟨e1,e2,⟨i2,Jw,Rp⟩,d,Qp,Y⟩:=hf f _ g OG W;simp only at e1 e2 Rp Y;split at z
   ·split at z
    ·rename_i J;have J:=kO J;have hlen:=kh J;refine aM I hd D z (v:=.agg (vs.extract off (off+sz))) (.p _ _ (.ag _ _ (by simp;omega) (fun u N=>h1 u ?_) fun i c v YN U=>?_)) ?_
     ·simp at N;exact abq (acM N)
     ·have hi:=aD YN;rw[hlen]at hi;have WE:vs[off+i]?=some v:=by
       rw[Array.getElem?_extract]at U;split at U
       ·exact U
       cases U
      exact hc _ c v (kf YN) WE
     have Z:(isAgg g.type).run A.C.P w=.ok true w:=by
      rw[Go.isAgg,aau,run_underlying Qp];cases d<;>simp at Y<;>rfl
     simp[execOp,R,hv,Instr.field,run_underlying tv,W,asAgg,part,Z,Go.sizeOf,typeInfo,Jw,Rp,<-e1]
    exact z.elim
   split at z
   ·rename_i c r hy;have O:=nX hy;obtain⟨u,N⟩:=jG F4 (aD O);refine aM I hd D z (.p _ _ (hc _ _ _ O N)) ?_;have Z:(isAgg g.type).run A.C.P w=.ok false w:=by
     rw[Go.isAgg,aau,run_underlying Qp];cases d<;>simp at Y<;>rfl
    simp[execOp,R,hv,Instr.field,run_underlying tv,W,asAgg,part,Z,<-e1,N]
   exact z.elim
  exact z.elim
 exact z.elim
theorem nd{P:Program}{t:TypeId}{ti:TypeInfo}(z:P.underlying t=some (.slice e))(hi:P.info? e=some ti)(b off n c:Nat)(k:IntKind)(i:Int)(D:0<=i)(h1:i.toNat<n):
  (Instr.indexAt t (.slice (some ⟨b,off,none⟩) n c) (.int k i)).run P w=.ok (.pointer (some ⟨b,off+i.toNat*ti.size,none⟩)) w:=by
 have I:i<n:=by omega
 simp[Instr.indexAt,asIntOf,run_underlying z,D,I,Go.sizeOf,typeInfo,hi,aaJ]
theorem aY.Cj{S:Nat->Prop}{P:Program}{h:Nat->AB}{lo hi:Nat}{v:Value}(z:aY S w P L rho h (.vw id lo hi) v)(D:h id=.row e es):
  L id/\∃n c a ti,rho id=.slice a n c/\P.info? e=some ti/\lo<=hi/\hi<=n/\n<=c/\v=.slice (if c=lo then a else a.map (·.add (lo*ti.size))) (hi-lo) (c-lo):=by
 cases z with
 | vw _ _ _ _ hv=>exact hv e (by rw[D];rfl)
theorem Ck{o:Oper}(t:TypeId)(x ix:Operand)(aK:o.op=.indexAddr t x ix):iE A o:=by
 intro V L S rho s a w K next Q hC D hV hd z _ I
 simp only[bV,aK]at z;have hx:=bp D x fun j Y=>hV j (by simp[aK,Op.operands,Y]);have hy:=bp D ix fun j Y=>hV j (by simp[aK,Op.operands,Y]);split at z
 ·rename_i e size bytes zero eq k i hT Oj;have fK:=(hC.iq t _ hT).under;simp only at fK;rw[Oj]at hy;replace hy:=hy.bS;split at z
  ·exact z.elim
  rename_i te u9;obtain⟨N,ze,pO,Ao,_⟩:=(hC.iq e te u9).info;have YO:∀(es:List (List PV)),aO S w (.sl es) (a.eval x)->(∃r,(0<=i/\es[i.toNat]?=some r)/\match Ag r.length te.size with | true=>K (.p (.ip r)) [] none | false=>False)->o.wp A.C.P a w next Q:=by
   intro es hrep z;obtain⟨r,⟨h0,hr⟩,z⟩:=z;split at z
   ·rename_i hlen;have hlen:=ahS hlen;obtain⟨ad,c,Z,hle,b8⟩:=hrep.oL;obtain⟨b,off,k',rfl,hb,hk,hcell⟩:=b8 (by intro e;rw[e]at hr;simp at hr);have xA:k'=te.size:=by rw[<-hk r (aad hr),hlen]
    have hU:∀(j:Nat) y,r[j]?=some y->∃u,w.cell? ⟨b,off+i.toNat*te.size+j,none⟩=some u/\u.oneCell'=true/\aO S w y u:=by
     intro j y Y;have:=hcell _ _ j y hr Y;rw[xA]at this;exact this
    refine aM D hd I z (.p _ _ (.ip _ b (off+i.toNat*te.size) (fun j=>(w.cell? ⟨b,off+i.toNat*te.size+j,none⟩).getD undef) hb (fun j y Y=>?_) fun j y Y=>?_)) ?_
    ·obtain⟨u,h1,h2,h3⟩:=hU j y Y;simp[h1,h2]
    ·obtain⟨u,h1,h2,h3⟩:=hU j y Y;simp only[h1];exact h3
    have:=nd (w:=w) fK pO b off es.length c k i h0 (aD hr);simp only[execOp,aK,Z,hy,aau,this,ab5,aa6,Ao]
   exact z.elim
  split at z
  ·rename_i es DH;rw[DH]at hx;exact YO es hx.eR z
  ·rename_i id DH;rw[DH]at hx;split at z
   ·rename_i e' es az;split at z
    ·rename_i O;have O:=ahS O;subst O;obtain⟨W,Z⟩:=hx.cH (by rw[az];trivial);have R:=D.hp id W;rw[az]at R;have Lg:aG A.C.P w (aO S w) e' es (rho id):=R;obtain⟨⟨h0,eF⟩,z⟩:=z;obtain⟨i',xs,h1,h2,h3,h4,h5,h6⟩:=Lg;rcases h3.2 with⟨_,hn⟩ | ⟨g,cap,cur,hg,_,_,hle,_⟩
     ·omega
     refine aM D hd I z (v:=.pointer (some ⟨g,i.toNat*N.size,none⟩)) (.rp _ _ _ _ fun e2 J=>?_) ?_
     ·rw[az]at J;injection J with J;subst J;exact⟨W,g,_,_,N,hg,pO,by rw[abQ]⟩
     have:=nd (w:=w) fK pO g 0 es.length cap k i h0 eF;rw[hg]at Z;rw[abC]at this;simp only[execOp,aK,Z,hy,aau,this,ab5,aa6]
    exact z.elim
   ·rename_i e' es az;split at z
    ·rename_i O;have O:=ahS O;subst O;obtain⟨W,Z⟩:=hx.cH (by rw[az];trivial);have R:=D.hp id W;rw[az]at R;have Lg:aG A.C.P w (rK S w A.C.P L rho s.h) e' es (rho id):=R.1;obtain⟨⟨h0,eF⟩,z⟩:=z;obtain⟨i',xs,h1,h2,h3,h4,h5,h6⟩:=Lg;rcases h3.2 with⟨_,hn⟩ | ⟨g,cap,cur,hg,_,_,hle,_⟩
     ·omega
     refine aM D hd I z (v:=.pointer (some ⟨g,i.toNat*N.size,none⟩)) (.rp _ _ _ _ fun e2 J=>?_) ?_
     ·rw[az]at J;injection J with J;subst J;exact⟨W,g,_,_,N,hg,pO,by rw[abQ]⟩
     have:=nd (w:=w) fK pO g 0 es.length cap k i h0 eF;rw[hg]at Z;rw[abC]at this;simp only[execOp,aK,Z,hy,aau,this,ab5,aa6]
    exact z.elim
   ·rename_i es Jx;obtain⟨W,Z⟩:=hx.cH (by rw[Jx];trivial);have R:=D.hp id W;rw[Jx]at R;exact YO es (by rw[Z];exact R) z
   exact z.elim
  ·rename_i id lo hi DH;rw[DH]at hx;split at z
   ·rename_i e' es az;split at z
    ·rename_i O;have O:=ahS O;subst O;obtain⟨W,n,cp,ad,WG,lF,xB,hlh,eP,Qq,U⟩:=hx.Cj az;rw[pO]at xB;injection xB with xB;subst xB;have R:=D.hp id W;rw[az]at R;have Lg:aG A.C.P w (aO S w) e' es (rho id):=R;obtain⟨⟨h0,eF⟩,z⟩:=z;obtain⟨i',xs,h1,h2,h3,h4,h5,h6⟩:=Lg;rw[lF]at h3;rcases h3.2 with⟨h7,_⟩ | ⟨g,cap,cur,hg,_,_,hle,_⟩
     ·injection h7 with _ h8 h9;omega
     injection hg with g1 g2 g3;subst g1 g2 g3;refine aM D hd I z (v:=.pointer (some ⟨g,lo*N.size+i.toNat*N.size,none⟩)) (.rp _ _ _ _ fun e2 J=>?_) ?_
     ·rw[az]at J;injection J with J;subst J;exact⟨W,g,_,_,N,lF,pO,by rw[abQ,abR]⟩
     have:=nd (w:=w) fK pO g (lo*N.size) (hi-lo) (cp-lo) k i h0 eF;rw[aaa (by omega)]at U;have he:(if lo*N.size=0 then (⟨g,0,none⟩:Addr) else ⟨g,lo*N.size,none⟩)=⟨g,lo*N.size,none⟩:=by split<;>simp_all
     simp only[ab6,Addr.add,abC,he]at U;simp only[execOp,aK,U,hy,aau,this,ab5,aa6]
    exact z.elim
   exact z.elim
  exact z.elim
 exact z.elim
theorem Lz{o:Oper}(t:TypeId)(x O:Operand)(J:o.op=.index t x O):iE A o:=by
 intro V L S rho s a w K next Q hC z R Z I _ D
 simp only[bV,J]at I;have U:=bp z x fun j N=>R j (by simp[J,Op.operands,N]);have W:=bp z O fun j N=>R j (by simp[J,Op.operands,N]);split at I
 ·rename_i size bytes zero eq st k i hT hs Oj;have Y:=(hC.iq t _ hT).under;simp only at Y;rw[Oj]at W;rw[hs]at U;obtain⟨b,⟨h0,hb⟩,I⟩:=I;refine aM z Z D I (.p _ _ (.im _)) ?_;simp[execOp,J,U.bS,W.bS,Instr.index,asIntOf,run_underlying Y,h0,hb]
 exact I.elim
theorem Gb{o:Oper}(src dst:TypeId)(x:Operand)(R:o.op=.convert src dst x):iE A o:=by
 intro V L S rho s a w K next Q hC D hV Z N _ z
 simp only[bV,R]at N;have O:=bp D x fun j hj=>hV j (by simp[R,Op.operands,hj]);split at N
 ·rename_i k' n tis k size bytes zero eq U W Y;have J:=(hC.iq dst _ Y).under;simp only at J;rw[U]at O;have I:∃d,A.C.P.underlying src=some d:=by
   have:=(hC.iq src _ W).under;cases hu:tis.ud<;>rw[hu]at this
   ·exact⟨_,this.1.choose_spec.1⟩
   ·exact⟨_,this⟩
   ·exact⟨_,this.choose_spec.1⟩
   ·exact⟨_,this⟩
   ·exact⟨_,this⟩
   exact⟨_,this⟩
  obtain⟨d1,I⟩:=I;exact aM D Z z (nW N) (.p _ _ (.im _)) (by simp[execOp,R,O.bS,convert,run_underlying I,run_underlying J,Conv.intToInt])
 ·rename_i str TM Rq TN fa TO Rr TQ fb U W Y;have J:=(hC.iq dst _ Y).under;have I:=(hC.iq src _ W).under;simp only at I J;rw[U]at O;exact aM D Z z N (.p _ _ (.im _)) (by simp[execOp,R,O.bS,convert,run_underlying I,run_underlying J])
 ·rename_i k' n k'' TM Rq TN fa TO Rr TQ fb U W Y;have J:=(hC.iq dst _ Y).under;have I:=(hC.iq src _ W).under;simp only at I J;rw[U]at O;exact aM D Z z N (.p _ _ (.im _)) (by simp[execOp,R,O.bS,convert,run_underlying I,run_underlying J,Conv.intToString])
 exact N.elim
theorem DR{o:Oper}(x:Operand)(R:o.op=.nilCheck x):iE A o:=by
 intro V L S rho s a w K next Q hC N Y Z z _ J
 simp only[bV,R]at z;have D:=bp N x fun j hj=>Y j (by simp[R,Op.operands,hj]);have fin:∀av W,K av [] none->aY S w A.C.P L rho s.h av (a.eval x)->a.eval x=.pointer (some W)->o.wp A.C.P a w next Q:=by
  intro av W z hl he;exact aM N Z J z hl (by simp[execOp,R,he])
 split at z
 ·rename_i cs O;rw[O]at D;obtain⟨b,off,U,I,_⟩:=D.eR.x8;exact fin _ _ z D I
 ·rename_i id off O;rw[O]at D;split at z
  ·rename_i hb;obtain⟨_,g,_,I⟩:=D.h_ (by rw[hb];trivial);exact fin _ _ z D I
  ·rename_i hb;obtain⟨_,g,_,I⟩:=D.h_ (by rw[hb];trivial);exact fin _ _ z D I
  exact z.elim
 ·rename_i id i off O;rw[O]at D;split at z
  ·rename_i hb;obtain⟨_,g,n,c,tj,_,_,I⟩:=D.x_ hb;exact fin _ _ z D I
  ·rename_i hb;obtain⟨_,g,n,c,tj,_,_,I⟩:=D.tr hb;exact fin _ _ z D I
  exact z.elim
 exact z.elim
theorem DS{o:Oper}(f:FuncId)(first z:Array Operand)(O:o.op=.makeFunc (.func f) first z):iE A o:=by
 intro V L S rho s a w K next Q hC I W Y N _ D
 simp only[bV,O]at N;split at N
 ·rename_i Z;have he:first=#[]:=by
   obtain⟨l⟩:=first
   cases l with
   | nil=>rfl
   | cons y l=>simp[isNil]at Z
  subst he;refine aM I Y D N (.fn f _ (z.map a.eval) (by simp) fun i c v U R=>?_) (by simp[execOp,O,Instr.makeFunc]);rw[aak]at U;obtain⟨y,hy,rfl⟩:=acq.1 U;have J:z[i]?=some y:=by simpa using hy
  rw[Array.getElem?_map,J]at R;simp at R;rw[<-R];exact bp I y fun j hj=>W j (by simp[O,Op.operands];rw[<-hj];exact abr J)
 exact N.elim
end Go.AM
namespace Go.AM
open Go.RowKit
theorem cy(h:Nat->AB)(a b:List (Nat×AB)):app h (a++b)=app (app h a) b:=by
 induction a generalizing h with
 | nil=>rfl
 | cons x a ih=>exact ih _
theorem aW{α:Type}(f:Nat->α)(i:Nat)(x:α)(j:Nat):(j=i/\aT f i x j=x)\/(j≠i/\aT f i x j=f j):=by
 by_cases e:j=i
 ·subst e;exact .inl ⟨rfl,aH _ _ _⟩
 exact .inr ⟨e,aV _ _ e⟩
variable {w:World} {e:TypeId} {es:List (List PV)}
theorem aG.DT{P:Program}{S S':Nat->Prop}{v:Value}(h:aG P w (aO S w) e es v)(hS:∀b,S b->S' b)(hb:∀g,cC v=some g->S' g):aO S' w (.sl es) v:=by
 obtain⟨i,xs,h1,h2,O,W,Y,R⟩:=h;rcases O.2 with⟨rfl,Z⟩ | ⟨g,D,cur,rfl,_,_,I,_⟩
 ·have:es=[]:=adl Z;subst this;exact .nil _ _
 refine .sl es i.size g 0 D (fun a j=>(xs[a*i.size+j]?).getD undef) I (hb g rfl) W (fun a r j x J N=>?_) fun a r j x J N=>?_
 ·obtain⟨u,z,U⟩:=R a r j x J N;have:=O.cells (g:=g) rfl _ u z;rw[aaJ]at this;rw[z,aaX];exact⟨this,Y u (aad z)⟩
 obtain⟨u,z,U⟩:=R a r j x J N;rw[z];exact U.mono hS (fun _ _=>rfl)
variable {id:Nat}
theorem aeG{h:Nat->AB}{b:AB}{i:Nat}{v:Value}{g:Nat}(hi:i≠id)(z:hasB w (aT h id b i) v g):hasB w (h i) v g:=by rw[aV _ _ hi]at z;exact z
variable {A:cD} {V L:Nat->Prop} {rho:Nat->Value} {s:AS}
theorem b7.A0{S:Nat->Prop}{a:Act}(z:b7 A V L S rho s a w)(hC:bI A.C)(id:Nat)(R:L id)(az:s.h id=.row e es):
  b7 A V L (fun b=>S b\/cC (rho id)=some b) rho ⟨s.t,aT s.h id (.jA es)⟩ a w:=by
 have T:lB S (fun b=>S b\/cC (rho id)=some b) w w L L rho rho s.h (aT s.h id (.jA es)):=by
  refine⟨fun b h=>.inl h,fun _ _=>rfl,fun j D=>⟨?_,fun hl=>⟨hl,rfl⟩⟩,fun j e' D=>?_⟩
  ·rcases aW s.h id (.jA es) j with⟨rfl,h⟩ | ⟨_,h⟩
   ·rw[az];trivial
   rw[h]at D;exact D
  rcases aW s.h id (.jA es) j with⟨rfl,h⟩ | ⟨_,h⟩
  ·rw[h]at D;cases D
  rw[h]at D;exact D
 have I:∀j,((aT s.h id (.jA es)) j).live->j≠id/\(s.h j).live:=by
  intro j D;rcases aW s.h id (.jA es) j with⟨rfl,h⟩ | ⟨J,h⟩
  ·rw[h]at D;exact D.elim
  rw[h]at D;exact⟨J,D⟩
 have U:(s.h id).live:=by rw[az];trivial
 exact
 {tm:=fun j D=>(z.tm j D).cK T
  sz:=z.sz,df:=z.df,nb:=z.nb,pn:=z.pn
  ev:=hC.env _ _ _ _ z.ev (fun b h=>.inl h) (fun _ _=>rfl) (aam _)
  s0:=fun b h=>.inl (z.s0 b h)
  st:=fun b h=>h.elim (z.st b) fun h=>(z.pM id b R U h).1
  sb:=fun b h=>h.elim (z.sb b) fun h=>.inr (z.pM id b R U h).2.2
  hp:=fun j D=>by
   have W:=z.hp j D;rcases aW s.h id (.jA es) j with⟨rfl,h⟩ | ⟨J,h⟩
   ·show eK _ _ _ _ _ _ _ (aT s.h j (.jA es) j);rw[h];rw[az]at W;exact aG.DT W (fun b h=>.inl h) (fun g h=>.inr h)
   show eK _ _ _ _ _ _ _ (aT s.h id (.jA es) j);rw[h];exact W.cK T (fun _ _ _=>rfl) (fun _=>rfl)
  dj:=fun i j g hi D N Y eM jH=>z.dj i j g hi D (I i N).2 (I j Y).2 (aeG (I i N).1 eM) (aeG (I j Y).1 jH)
  lv:=fun i g hi N O=>by
   obtain⟨J,Z⟩:=I i N;have O:=aeG J O;obtain⟨h3,h4,h5⟩:=z.lv i g hi Z O;refine⟨h3,fun h=>h.elim h4 fun h=>J (z.dj i id g hi R Z U O (.inl h)),h5⟩
  fr:=z.fr }
theorem b7.Jy{S:Nat->Prop}{a:Act}(z:b7 A V L S rho s a w)(hC:bI A.C)(id:Nat)(W:L id){cs:List AV}{xs:List PV}(az:s.h id=.box cs)(s9:dY cs=some xs):
  b7 A V L (fun b=>S b\/cC (rho id)=some b) rho ⟨s.t,aT s.h id (.jd xs)⟩ a w:=by
 have T:lB S (fun b=>S b\/cC (rho id)=some b) w w L L rho rho s.h (aT s.h id (.jd xs)):=by
  refine⟨fun b h=>.inl h,fun _ _=>rfl,fun j D=>⟨?_,fun hl=>⟨hl,rfl⟩⟩,fun j e' D=>?_⟩
  ·rcases aW s.h id (.jd xs) j with⟨rfl,h⟩ | ⟨_,h⟩
   ·rw[az];trivial
   rw[h]at D;exact D
  rcases aW s.h id (.jd xs) j with⟨rfl,h⟩ | ⟨_,h⟩
  ·rw[h]at D;cases D
  rw[h]at D;exact D
 have J:∀j,((aT s.h id (.jd xs)) j).live->j≠id/\(s.h j).live:=by
  intro j D;rcases aW s.h id (.jd xs) j with⟨rfl,h⟩ | ⟨N,h⟩
  ·rw[h]at D;exact D.elim
  rw[h]at D;exact⟨N,D⟩
 have Y:(s.h id).live:=by rw[az];trivial
 exact
 {tm:=fun j D=>(z.tm j D).cK T
  sz:=z.sz,df:=z.df,nb:=z.nb,pn:=z.pn
  ev:=hC.env _ _ _ _ z.ev (fun b h=>.inl h) (fun _ _=>rfl) (aam _)
  s0:=fun b h=>.inl (z.s0 b h)
  st:=fun b h=>h.elim (z.st b) fun h=>(z.pM id b W Y h).1
  sb:=fun b h=>h.elim (z.sb b) fun h=>.inr (z.pM id b W Y h).2.2
  hp:=fun j D=>by
   have Z:=z.hp j D;rcases aW s.h id (.jd xs) j with⟨rfl,h⟩ | ⟨N,h⟩
   ·show eK _ _ _ _ _ _ _ (aT s.h j (.jd xs) j);rw[h];rw[az]at Z;obtain⟨g,ty,c,k1,k2,k3,k4⟩:=Z;show aO _ w (.ip xs) (rho j);rw[k1];obtain⟨hl,Jv⟩:=gV s9;have hU:∀(i:Nat) x,xs[i]?=some x->∃u,c[i]?=some u/\u.oneCell'=true/\aO S w x u:=by
     intro i x hi;obtain⟨y,hy⟩:∃y,cs[i]?=some y:=⟨_,acg (by rw[hl];exact aD hi)⟩;obtain⟨u,hu⟩:=jG k3.symm (aD hy);obtain⟨I,O⟩:=k4 _ _ _ hy hu;exact⟨u,hu,I,O.xz (Jv i y x hy hi)⟩
    refine .ip xs g 0 (fun i=>(c[i]?).getD undef) (.inr rfl) (fun i x hi=>?_) fun i x hi=>?_
    ·obtain⟨u,I,O,h7⟩:=hU i x hi;rw[abC,cell_of_row w g i c ty (0,0) k2,I];exact⟨rfl,O⟩
    obtain⟨u,I,O,h7⟩:=hU i x hi;rw[I];exact h7.mono (fun b h=>.inl h) (fun _ _=>rfl)
   show eK _ _ _ _ _ _ _ (aT s.h id (.jd xs) j);rw[h];exact Z.cK T (fun _ _ _=>rfl) (fun _=>rfl)
  dj:=fun i j g hi D R lj eM jH=>z.dj i j g hi D (J i R).2 (J j lj).2 (aeG (J i R).1 eM) (aeG (J j lj).1 jH)
  lv:=fun i g hi R U=>by
   obtain⟨N,h2⟩:=J i R;have U:=aeG N U;obtain⟨h3,h4,I⟩:=z.lv i g hi h2 U;refine⟨h3,fun h=>h.elim h4 fun h=>N (z.dj i id g hi W h2 Y U (.inl h)),I⟩
  fr:=z.fr }
def pY(h h':Nat->AB):Prop:=∀id,h' id=h id\/(∃e es,h id=.row e es/\h' id=.jA es)\/(∃cs xs,h id=.box cs/\dY cs=some xs/\h' id=.jd xs)
theorem pY.refl(h:Nat->AB):pY h h:=fun _=>.inl rfl
variable {h':Nat->AB}
theorem pY.LA{h:Nat->AB}(H:pY h h')(D:h id=.row e es):pY h (aT h' id (.jA es)):=by
 intro j;rcases aW h' id (.jA es) j with⟨rfl,z⟩ | ⟨_,z⟩
 ·exact .inr (.inl ⟨e,es,D,z⟩)
 rw[z];exact H j
theorem pY.LB{h:Nat->AB}(H:pY h h'){cs:List AV}{xs:List PV}(D:h id=.box cs)(I:dY cs=some xs):pY h (aT h' id (.jd xs)):=by
 intro j;rcases aW h' id (.jd xs) j with⟨rfl,z⟩ | ⟨_,z⟩
 ·exact .inr (.inr ⟨cs,xs,D,I,z⟩)
 rw[z];exact H j
theorem aO.tw{S:Nat->Prop}{xs:List PV}{g off:Nat}{v:Value}(h:aO S w (.ip xs) v)(z:v=.pointer (some ⟨g,0,none⟩)):aO S w (.ip (xs.drop off)) (.pointer (some ⟨g,off,none⟩)):=by
 subst z;obtain⟨b,o,U,z,hb,D,I⟩:=h.x8;injection z with z;injection z with z;injection z with h1 h2;subst h1 h2;refine .ip _ g off (fun j=>U (off+j)) hb (fun j x J=>?_) fun j x J=>?_
 ·rw[aas]at J;have:=D _ x J
  rwa [abC]at this
 rw[aas]at J;exact I _ x J
theorem A1{S:Nat->Prop}{a:Act}(hC:bI A.C){h:Nat->AB}(D:b7 A V L S rho s a w)(O:pY h s.h){x:AV}{v:Value}(W:aY S w A.C.P L rho s.h x v){K:PV->List (Nat×AB)->Prop}(I:l8 h x K):
  ∃y fz S',K y fz/\b7 A V L S' rho ⟨s.t,app s.h fz⟩ a w/\aO S' w y v/\(∀b,S b->S' b)/\pY h (app s.h fz)/\(∀p∈fz,L p.1)/\(∀p∈fz,¬p.2.live):=by
 unfold l8 at I;split at I
 ·exact⟨_,[],S,I,D,W.eR,fun _ h=>h,O,by simp,by simp⟩
 ·cases W;exact⟨_,[],S,I,D,.nil _ _,fun _ h=>h,O,by simp,by simp⟩
 ·rename_i id;split at I
  ·rename_i e es az;rcases O id with z | ⟨e',de,z,U⟩ | ⟨cs,xs,z,_,_⟩
   ·rw[az]at z;obtain⟨J,R⟩:=W.cH (by rw[z];trivial);refine⟨_,_,_,I,D.A0 hC id J z,?_,fun b h=>.inl h,O.LA az,by simpa using J,by simp[AB.live]⟩;have N:=D.hp id J;rw[z]at N;rw[R];exact aG.DT N (fun b h=>.inl h) (fun g h=>.inr h)
   ·rw[az]at z;injection z with e1 e2;subst e1 e2;obtain⟨J,R⟩:=W.cH (by rw[U];trivial);have N:=D.hp id J;rw[U]at N;refine⟨_,_,S,I,?_,by rw[R];exact N,fun _ h=>h,O.LA az,by simpa using J,by simp[AB.live]⟩;show b7 A V L S rho ⟨s.t,aT s.h id (.jA es)⟩ a w;rw[jf _ _ _ U];exact D
   rw[az]at z;cases z
  ·rename_i es Jx;rcases O id with z | ⟨e',de,z,U⟩ | ⟨cs,xs,z,_,_⟩
   ·rw[Jx]at z;obtain⟨J,R⟩:=W.cH (by rw[z];trivial);have N:=D.hp id J;rw[z]at N;exact⟨_,[],S,I,D,by rw[R];exact N,fun _ h=>h,O,by simp,by simp⟩
   ·rw[Jx]at z;cases z
   rw[Jx]at z;cases z
  exact I.elim
 ·rename_i id off;split at I
  ·rename_i cs aN;split at I
   ·rename_i xs s9;rcases O id with z | ⟨e',de,z,U⟩ | ⟨mZ,rN,z,OH,U⟩
    ·rw[aN]at z;obtain⟨J,g,Y,R⟩:=W.h_ (by rw[z];trivial);have b9:=D.Jy hC id J z s9;refine⟨_,_,_,I,b9,?_,fun b h=>.inl h,O.LB aN s9,by simpa using J,by simp[AB.live]⟩;have N:=b9.hp id J;have Lg:eK _ w A.C.P L rho _ id (aT s.h id (.jd xs) id):=N;rw[aH]at Lg;have Z:aO _ w (.ip xs) (rho id):=Lg;rw[R];exact Z.tw Y
    ·rw[aN]at z;cases z
    rw[aN]at z;injection z with z;subst z;rw[s9]at OH;injection OH with OH;subst OH;obtain⟨J,g,Y,R⟩:=W.h_ (by rw[U];trivial);have N:=D.hp id J;rw[U]at N;have Z:aO _ w (.ip xs) (rho id):=N;refine⟨_,_,S,I,?_,by rw[R];exact Z.tw Y,fun _ h=>h,O.LB aN s9,by simpa using J,by simp[AB.live]⟩;show b7 A V L S rho ⟨s.t,aT s.h id (.jd xs)⟩ a w;rw[jf _ _ _ U];exact D
   exact I.elim
  ·rename_i xs Rt;rcases O id with z | ⟨e',de,z,U⟩ | ⟨cs,rN,z,_,_⟩
   ·rw[Rt]at z;obtain⟨J,g,Y,R⟩:=W.h_ (by rw[z];trivial);have N:=D.hp id J;rw[z]at N;have Z:aO _ w (.ip xs) (rho id):=N;exact⟨_,[],S,I,D,by rw[R];exact Z.tw Y,fun _ h=>h,O,by simp,by simp⟩
   ·rw[Rt]at z;cases z
   rw[Rt]at z;cases z
  exact I.elim
 exact I.elim
theorem Jz{b:AB}(h:b.oG=some e):b.live:=by cases b<;>first | trivial | cases h
theorem JA{fz:List (Nat×AB)}(z:∀p∈fz,¬p.2.live):∀{h:Nat->AB} {id:Nat},(app h fz id).live->app h fz id=h id:=by
 induction fz with
 | nil=>intro h id _;rfl
 | cons p fz ih=>
  intro h id hl;obtain⟨i,b⟩:=p;have e:=ih (fun p hp=>z p (by simp[hp])) (h:=aT h i b) (id:=id) hl;have e2:app h ((i,b)::fz) id=aT h i b id:=e;by_cases D:id=i
  ·subst D;rw[e2,aH]at hl;exact absurd hl (z (id,b) (by simp))
  rw[e2,aV _ _ D]
theorem pY.there{h:Nat->AB}(H:pY h h')(id:Nat):(h' id).there↔(h id).there:=by
 rcases H id with z | ⟨e,es,z,D⟩ | ⟨cs,xs,z,_,D⟩
 ·rw[z]
 ·rw[z,D];exact aaT
 rw[z,D];exact aaT
theorem aY.froze{S S':Nat->Prop}{P:Program}{h h':Nat->AB}{fz:List (Nat×AB)}(hS:∀b,S b->S' b)(H:pY h h')(D:pY h (app h' fz))(I:∀p∈fz,¬p.2.live){x:AV}{v:Value}(J:aY S w P L rho h' x v):aY S' w P L rho (app h' fz) x v:=
 J.cK ⟨hS,fun _ _=>rfl,fun id N=>⟨(H.there id).2 ((D.there id).1 N),fun hl=>⟨hl,rfl⟩⟩,fun id e z=>by rw[<-JA (h:=h') (id:=id) I (Jz z)];exact z⟩
theorem A2{t:Nat->AV}{a:Act}(hC:bI A.C){h:Nat->AB}:∀(z:List AV) (vs:List Value) (S:Nat->Prop) (h':Nat->AB) {K:List PV->List (Nat×AB)->Prop},z.length=vs.length->b7 A V L S rho ⟨t,h'⟩ a w->pY h h' ->
  (∀(i:Nat) c v,z[i]?=some c->vs[i]?=some v->aY S w A.C.P L rho h' c v)->v7 h z K ->
  ∃xs fz S',K xs fz/\b7 A V L S' rho ⟨t,app h' fz⟩ a w/\(∀(i:Nat) x v,xs[i]?=some x->vs[i]?=some v->aO S' w x v)/\(∀b,S b->S' b)/\pY h (app h' fz)/\(∀p∈fz,L p.1)/\xs.length=vs.length:=by
 intro z
 induction z with
 | nil=>
  intro vs S h' K hl I R _ J;have:vs=[]:=adl hl.symm;subst this;exact⟨[],[],S,J,I,by simp,fun _ h=>h,R,by simp,rfl⟩
 | cons c z ih=>
  intro vs S h' K hl I R D J;cases vs with
  | nil=>simp at hl
  | cons v vs=>
   obtain⟨y,fz,S2,J,bu,hp,W,Y,DI,U⟩:=A1 (s:=⟨t,h'⟩) hC I R (D 0 c v rfl rfl) J;obtain⟨xs,mY,S',k1,k2,k3,Z,k5,k6,k7⟩:=ih vs S2 (app h' fz) (by simpa using hl) bu Y (fun i x u N O=>(D (i+1) x u (by simpa using N) (by simpa using O)).froze W R Y U) J;refine⟨y::xs,fz++mY,S',k1,by rw[cy];exact k2,fun i x u N O=>?_,fun b hb=>Z b (W b hb),by rw[cy];exact k5,fun p hp=>(abi.1 hp).elim (DI p) (k6 p),by simp[k7]⟩;cases i with
   | zero=>simp at N O;subst N O;exact hp.mono Z (fun _ _=>rfl)
   | succ i=>exact k3 i x u (by simpa using N) (by simpa using O)
theorem ir{S:Nat->Prop}{a:Act}(hC:bI A.C){h:Nat->AB}(z:b7 A V L S rho s a w)(O:pY h s.h){x:AV}{v:Value}(R:aY S w A.C.P L rho s.h x v){K:PV->List (Nat×AB)->Prop}(J:gD h x K):
  ∃y fz S',K y fz/\b7 A V L S' rho ⟨s.t,app s.h fz⟩ a w/\aO S' w y v/\(∀b,S b->S' b)/\pY h (app s.h fz)/\(∀p∈fz,L p.1):=by
 unfold gD at J;split at J
 ·rename_i f N;cases R with
  | fn _ _ vs hl hc=>
   obtain⟨xs,fz,S',U,W,Y,Z,k5,k6,k7⟩:=A2 (t:=s.t) hC N vs.toList S s.h (by simpa using hl) z O (fun i c v D I=>hc i c v D (by simpa using I)) J;exact⟨_,fz,S',U,W,.fn f xs vs (by simpa using k7) (fun i c v D I=>Y i c v D (by simpa using I)),Z,k5,k6⟩
 obtain⟨y,fz,S',D,I,h3,h4,h5,h6,_⟩:=A1 hC z O R J;exact⟨y,fz,S',D,I,h3,h4,h5,h6⟩
theorem iA{d:Nat}:∀{fz:List (Nat×AB)} {h:Nat->AB},(∀p∈fz,p.1≠d)->app h fz d=h d:=by
 intro fz
 induction fz with
 | nil=>intro h _;rfl
 | cons x fz ih=>
  intro h z;show app (aT h x.1 x.2) fz d=h d;rw[ih (fun p hp=>z p (by simp[hp])),aV _ _ (fun e=>z x (by simp) e.symm)]
theorem b7.kill{S:Nat->Prop}{a:Act}(z:b7 A V L S rho s a w)(id:Nat):b7 A V L S rho ⟨s.t,aT s.h id .none⟩ a w:=by
 have T:lB S S w w L L rho rho s.h (aT s.h id .none):=by
  refine⟨fun b h=>h,fun _ _=>rfl,fun j D=>⟨?_,fun hl=>⟨hl,rfl⟩⟩,fun j e' D=>?_⟩
  ·rcases aW s.h id .none j with⟨rfl,h⟩ | ⟨_,h⟩
   ·rw[h]at D;exact D.elim
   rw[h]at D;exact D
  rcases aW s.h id .none j with⟨rfl,h⟩ | ⟨_,h⟩
  ·rw[h]at D;cases D
  rw[h]at D;exact D
 have I:∀j,((aT s.h id .none) j).live->j≠id/\(s.h j).live:=by
  intro j D;rcases aW s.h id .none j with⟨rfl,h⟩ | ⟨N,h⟩
  ·rw[h]at D;exact D.elim
  rw[h]at D;exact⟨N,D⟩
 exact
 {tm:=fun j D=>(z.tm j D).cK T
  sz:=z.sz,df:=z.df,nb:=z.nb,pn:=z.pn,ev:=z.ev,s0:=z.s0,st:=z.st,sb:=z.sb
  hp:=fun j D=>by
   have R:=z.hp j D;rcases aW s.h id .none j with⟨rfl,h⟩ | ⟨N,h⟩
   ·show eK _ _ _ _ _ _ _ (aT s.h j .none j);rw[h];trivial
   show eK _ _ _ _ _ _ _ (aT s.h id .none j);rw[h];exact R.cK T (fun _ _ _=>rfl) (fun _=>rfl)
  dj:=fun i j g hi D J O U W=>z.dj i j g hi D (I i J).2 (I j O).2 (aeG (I i J).1 U) (aeG (I j O).1 W)
  lv:=fun i g hi J Y=>z.lv i g hi (I i J).2 (aeG (I i J).1 Y)
  fr:=z.fr }
theorem b7.qd{S:Nat->Prop}{a:Act}(z:b7 A V L S rho s a w)(hC:bI A.C)(d:Nat)(b:AB)(hdb:d<100000)(hL:¬L d)(hb:s.h d=b)(w':World)(ho:w'.os=w.os)(ht:w'.tape=w.tape)(hu:w'.output=w.output)
  (O:w.heap.size<=w'.heap.size) (R:Nat->Prop) (D:∀k,k<w.heap.size->¬R k->w'.heap[k]?=w.heap[k]?) (U:∀k,R k->¬S k/\(∀i,L i->(s.h i).live->¬hasB w (s.h i) (rho i) k)/\(A.mv k\/A.w0.heap.size<=k))
  (hv:Value) (J:∀g,hasB w' b hv g->g<w'.heap.size/\(w.heap.size<=g\/R g))
  (hrep:lB S S w w' L (fun i=>L i\/i=d) rho (aT rho d hv) s.h s.h->eK S w' A.C.P (fun i=>L i\/i=d) (aT rho d hv) s.h d b):
  b7 A V (fun i=>L i\/i=d) S (aT rho d hv) s a w':=by
 have ae1:∀b,S b->w'.heap[b]?=w.heap[b]?:=fun k hk=>D k (z.st k hk) fun W=>(U k W).1 hk;have b8:∀i,L i->i≠d:=fun i hi e=>hL (e▸hi);have T:lB S S w w' L (fun i=>L i\/i=d) rho (aT rho d hv) s.h s.h:=
  ⟨fun b h=>h,ae1,fun j N=>⟨N,fun hl=>⟨.inl hl,aV _ _ (b8 j hl)⟩⟩,fun j e' N=>N⟩
 exact
 {tm:=fun j N=>(z.tm j N).cK T
  sz:=z.sz,df:=z.df,nb:=z.nb,pn:=fun id h=>by rw[aV _ _ (by omega)];exact z.pn id h
  ev:=hC.env _ _ _ _ z.ev (fun b h=>h) ae1 O
  s0:=z.s0
  st:=fun b hb=>aaW (z.st b hb) O
  sb:=z.sb
  hp:=fun j N=>by
   by_cases e:j=d
   ·subst e;rw[hb];exact hrep T
   have hl:L j:=N.resolve_right e;refine (z.hp j hl).cK T (fun I g hg=>?_) (fun _=>aV _ _ e);exact D g (z.lv j g hl I hg).1 fun W=>(U g W).2.1 j hl I hg
  dj:=fun i j g hi N I lj Z Y=>by
   have back:∀i g,L i->(s.h i).live->hasB w' (s.h i) (rho i) g->hasB w (s.h i) (rho i) g:=fun i g hl I h=>dA (fun k hk=>D k (z.pM i k hl I hk).1 fun W=>(U k W).2.1 i hl I (.inl hk)) h;by_cases e1:i=d
   ·by_cases e2:j=d
    ·rw[e1,e2]
    have hl:L j:=N.resolve_right e2;rw[aV _ _ e2]at Y;have Y:=back j g hl lj Y;rw[e1,aH,hb]at Z;rcases (J g Z).2 with h | h
    ·exact absurd (z.lv j g hl lj Y).1 (by omega)
    exact absurd Y ((U g h).2.1 j hl lj)
   have hl:L i:=hi.resolve_right e1;rw[aV _ _ e1]at Z;have Z:=back i g hl I Z;by_cases e2:j=d
   ·rw[e2,aH,hb]at Y;rcases (J g Y).2 with h | h
    ·exact absurd (z.lv i g hl I Z).1 (by omega)
    exact absurd Z ((U g h).2.1 i hl I)
   have F4:L j:=N.resolve_right e2;rw[aV _ _ e2]at Y;exact z.dj i j g hl F4 I lj Z (back j g F4 lj Y)
  lv:=fun i g hi I hg=>by
   by_cases e:i=d
   ·rw[e,aH,hb]at hg;obtain⟨h1,h2⟩:=J g hg;refine⟨h1,?_⟩;rcases h2 with h | h
    ·exact⟨fun hs=>absurd (z.st g hs) (by omega),.inr (aaF z.fr.size h)⟩
    exact⟨(U g h).1,(U g h).2.2⟩
   have hl:L i:=hi.resolve_right e;rw[aV _ _ e]at hg;obtain⟨h1,h2,h3⟩:=z.lv i g hl I (dA (fun k hk=>D k (z.pM i k hl I hk).1 fun W=>(U k W).2.1 i hl I (.inl hk)) hg);exact⟨aaW h1 O,h2,h3⟩
  fr:=z.fr.next ho ht hu O fun k hk hn=>D k (aaW hk z.fr.size) fun W=>by
   rcases (U k W).2.2 with h | h
   ·exact hn h
   omega }
theorem b7.new{S:Nat->Prop}{a:Act}(N:b7 A V L S rho s a w)(hC:bI A.C)(d:Nat)(b:AB)(O:d<100000)(Y:¬L d)(hb:s.h d=b)(w':World)(Z:w'.os=w.os)(ht:w'.tape=w.tape)(hu:w'.output=w.output)
  (U:w.heap.size<=w'.heap.size) (R:Nat->Prop) (z:∀k,k<w.heap.size->¬R k->w'.heap[k]?=w.heap[k]?) (hR:∀k,R k->¬S k/\(∀i,L i->(s.h i).live->¬hasB w (s.h i) (rho i) k)/\(A.mv k\/A.w0.heap.size<=k))
  (D:Value) (I:∀g,cC D=some g->g<w'.heap.size/\(w.heap.size<=g\/R g))
  (J:lB S S w w' L (fun i=>L i\/i=d) rho (aT rho d D) s.h s.h->eK S w' A.C.P (fun i=>L i\/i=d) (aT rho d D) s.h d b)
  (W:Rg b=true:=by rfl):
  b7 A V (fun i=>L i\/i=d) S (aT rho d D) s a w':=
 N.qd hC d b O Y hb w' Z ht hu U R z hR D (fun g h=>I g (aI W h)) J
theorem b7.TR{S:Nat->Prop}{a:Act}(z:b7 A V L S rho s a w)(hC:bI A.C)(w':World)(D:Fr (fun _=>False) w w')(S':Nat->Prop)(O:∀b,S b->S' b)(Y:∀b,S' b->b<w'.heap.size)(U:∀b,S' b->S b\/w.heap.size<=b):b7 A V L S' rho s a w':=by
 have N:∀b,S b->w'.heap[b]?=w.heap[b]?:=fun k hk=>D.block k (z.st k hk) (fun h=>h);have T:lB S S' w w' L L rho rho s.h s.h:=⟨O,N,fun j I=>⟨I,fun hl=>⟨hl,rfl⟩⟩,fun j e' I=>I⟩;exact
 {tm:=fun j I=>(z.tm j I).cK T
  sz:=z.sz,df:=z.df,nb:=z.nb,pn:=z.pn
  ev:=hC.env _ _ _ _ z.ev O N D.size
  s0:=fun b hb=>O b (z.s0 b hb)
  st:=Y
  sb:=fun b hb=>by
   rcases U b hb with h | h
   ·exact z.sb b h
   exact .inr (.inr (aaF z.fr.size h))
  hp:=fun j I=>(z.hp j I).cK T (fun J g R=>D.block g (z.lv j g I J R).1 (fun h=>h)) (fun _=>rfl)
  dj:=fun i j g hi I J W Z jH=>z.dj i j g hi I J W (dA (fun k hk=>D.block k (z.pM i k hi J hk).1 (fun h=>h)) Z) (dA (fun k hk=>D.block k (z.pM j k I W hk).1 (fun h=>h)) jH)
  lv:=fun i g hi J R=>by
   obtain⟨a1,a2,a3⟩:=z.lv i g hi J (dA (fun k hk=>D.block k (z.pM i k hi J hk).1 (fun h=>h)) R);refine⟨aaW a1 D.size,fun h=>?_,a3⟩;rcases U g h with h | h
   ·exact a2 h
   omega
  fr:=z.fr.next D.os D.tape D.output D.size fun k hk _=>D.block k (aaW hk z.fr.size) (fun h=>h) }
theorem b7.Ru{S:Nat->Prop}{a:Act}(z:b7 A V L S rho s a w)(d:Nat)(es:List (List PV))(hdb:d<100000)(W:¬L d)(hb:s.h d=.jA es)(O:Value)
  (J:aO S w (.sl es) O):b7 A V (fun i=>L i\/i=d) S (aT rho d O) s a w:=by
 have Y:∀i,L i->i≠d:=fun i hi e=>W (e▸hi);have T:lB S S w w L (fun i=>L i\/i=d) rho (aT rho d O) s.h s.h:=
  ⟨fun b h=>h,fun _ _=>rfl,fun j D=>⟨D,fun hl=>⟨.inl hl,aV _ _ (Y j hl)⟩⟩,fun j e' D=>D⟩
 have out:∀i,(L i\/i=d)->(s.h i).live->L i/\i≠d:=fun i hi I=>by
  by_cases e:i=d
  ·rw[e,hb]at I;exact I.elim
  exact⟨hi.resolve_right e,e⟩
 exact
 {tm:=fun j D=>(z.tm j D).cK T
  sz:=z.sz,df:=z.df,nb:=z.nb,pn:=fun id h=>by rw[aV _ _ (by omega)];exact z.pn id h
  ev:=z.ev
  s0:=z.s0
  st:=z.st
  sb:=z.sb
  hp:=fun j D=>by
   by_cases e:j=d
   ·subst e;rw[hb];show aO S w (.sl es) (aT rho j O j);rw[aH];exact J
   have hl:L j:=D.resolve_right e;exact (z.hp j hl).cK T (fun I g hg=>rfl) (fun _=>aV _ _ e)
  dj:=fun i j g hi D I R N U=>by
   obtain⟨l1,e1⟩:=out i hi I;obtain⟨l2,e2⟩:=out j D R;rw[aV _ _ e1]at N;rw[aV _ _ e2]at U;exact z.dj i j g l1 l2 I R N U
  lv:=fun i g hi I N=>by
   obtain⟨l1,e1⟩:=out i hi I;rw[aV _ _ e1]at N;exact z.lv i g l1 I N
  fr:=z.fr }
theorem b7.Cl{S:Nat->Prop}{a:Act}(z:b7 A V L S rho s a w)(hC:bI A.C)(id:Nat)(Y:L id)(O:(s.h id).live)(I:AB)(hb':∀e,I.oG=some e->(s.h id).oG=some e)
  (w':World) (ho:w'.os=w.os) (ht:w'.tape=w.tape) (hu:w'.output=w.output) (N:w'.heap.size=w.heap.size) (J:∀k,cC (rho id)≠some k->w'.heap[k]?=w.heap[k]?)
  (U:lB S S w w' L L rho rho s.h (aT s.h id I)->eK S w' A.C.P L rho (aT s.h id I) id I) (hown:∀g,hasB w' I (rho id) g->hasB w (s.h id) (rho id) g):b7 A V L S rho ⟨s.t,aT s.h id I⟩ a w':=by
 have W:∀b,S b->w'.heap[b]?=w.heap[b]?:=fun k hk=>J k fun e=>(z.pM id k Y O e).2.1 hk;have Rv:(s.h id).there:=by cases hh:s.h id<;>rw[hh]at O<;>first | trivial | exact O.elim
 have T:lB S S w w' L L rho rho s.h (aT s.h id I):=by
  refine⟨fun b h=>h,W,fun j D=>⟨?_,fun hl=>⟨hl,rfl⟩⟩,fun j e' D=>?_⟩
  ·rcases aW s.h id I j with⟨rfl,h⟩ | ⟨_,h⟩
   ·exact Rv
   rw[h]at D;exact D
  rcases aW s.h id I j with⟨rfl,h⟩ | ⟨_,h⟩
  ·rw[h]at D;exact hb' e' D
  rw[h]at D;exact D
 have fw:∀j,((aT s.h id I) j).live->(s.h j).live:=by
  intro j D;rcases aW s.h id I j with⟨rfl,h⟩ | ⟨Z,h⟩
  ·exact O
  rw[h]at D;exact D
 have back:∀j g,L j->((aT s.h id I) j).live->hasB w' (aT s.h id I j) (rho j) g->hasB w (s.h j) (rho j) g:=by
  intro j g hl D Ol;rcases aW s.h id I j with⟨rfl,h⟩ | ⟨Z,h⟩
  ·rw[h]at Ol;exact hown g Ol
  rw[h]at Ol D;exact dA (fun k hk=>J k fun e=>Z (z.TJ j id k hl Y D O hk e)) Ol
 exact
 {tm:=fun j D=>(z.tm j D).cK T
  sz:=z.sz,df:=z.df,nb:=z.nb,pn:=z.pn
  ev:=hC.env _ _ _ _ z.ev (fun b h=>h) W (aay N.symm)
  s0:=z.s0
  st:=fun b hb=>by rw[N];exact z.st b hb
  sb:=z.sb
  hp:=fun j D=>by
   rcases aW s.h id I j with⟨rfl,h⟩ | ⟨Z,h⟩
   ·show eK _ _ _ _ _ _ _ (aT s.h j I j);rw[h];exact U T
   show eK _ _ _ _ _ _ _ (aT s.h id I j);rw[h];refine (z.hp j D).cK T (fun R g hg=>J g fun e=>?_) (fun _=>rfl);exact Z (z.dj j id g D Y R O hg (.inl e))
  dj:=fun i j g hi D R lj eM jH=>z.dj i j g hi D (fw i R) (fw j lj) (back i g hi R eM) (back j g D lj jH)
  lv:=fun i g hi R hg=>by rw[N];exact z.lv i g hi (fw i R) (back i g hi R hg)
  fr:=z.fr.next ho ht hu (aay N.symm) fun k hk hn=>J k fun e=>by
   rcases (z.pM id k Y O e).2.2 with h | h
   ·exact hn h
   omega }
theorem b7.write{S:Nat->Prop}{a:Act}(J:b7 A V L S rho s a w)(hC:bI A.C)(id:Nat)(U:L id)(W:(s.h id).live)(z:AB)(N:∀e,z.oG=some e->(s.h id).oG=some e)
  (w':World) (Y:w'.os=w.os) (Z:w'.tape=w.tape) (hu:w'.output=w.output) (O:w'.heap.size=w.heap.size) (D:∀k,cC (rho id)≠some k->w'.heap[k]?=w.heap[k]?)
  (I:lB S S w w' L L rho rho s.h (aT s.h id z)->eK S w' A.C.P L rho (aT s.h id z) id z) (R:Rg z=true:=by rfl):b7 A V L S rho ⟨s.t,aT s.h id z⟩ a w':=
 J.Cl hC id U W z N w' Y Z hu O D I fun _ h=>.inl (aI R h)
theorem b7.pP{S:Nat->Prop}{a:Act}(z:b7 A V L S rho s a w){dst:Option Tmp}(D:∀d,dst=some d->d<A.n):dst.getD 0<100000:=by
 cases dst with
 | none=>exact Nat.zero_lt_succ _
 | some d=>exact aaW (D d rfl) z.nb
theorem q8{S:Nat->Prop}{a:Act}(J:b7 A V L S rho s a w){x:AV}{v:Value}(h:u5 s.h x=true)(D:aY S w A.C.P L rho s.h x v):v.oneCell'=true:=by
 unfold u5 at h;split at h
 ·rw[D.bS];exact h
 ·cases h
 ·rename_i y Y Z;have hy:=D.eR;cases hy with
  | im=>exact absurd rfl (Y _)
  | ag cs vs=>exact absurd rfl (Z cs)
  | nil=>rfl
  | sl=>rfl
  | ip=>rfl
  | fn=>rfl
 ·cases D;rfl
 ·rename_i id;split at h
  ·rename_i e es az;obtain⟨O,z⟩:=D.cH (by rw[az];trivial);have I:=J.hp id O;rw[az]at I;obtain⟨i,xs,_,_,R,_⟩:=I;rw[z];rcases R.2 with⟨N,_⟩ | ⟨g,U,W,N,_⟩<;>rw[N]<;>rfl
  ·rename_i e es az;obtain⟨O,z⟩:=D.cH (by rw[az];trivial);have I:=J.hp id O;rw[az]at I;obtain⟨⟨i,xs,_,_,R,_⟩,_⟩:=I;rw[z];rcases R.2 with⟨N,_⟩ | ⟨g,U,W,N,_⟩<;>rw[N]<;>rfl
  ·rename_i es az;obtain⟨O,z⟩:=D.cH (by rw[az];trivial);have I:=J.hp id O;rw[az]at I;obtain⟨ad,c,N,_⟩:=aO.oL I;rw[z,N];rfl
  cases h
 ·rename_i id off;split at h
  ·cases h
  rename_i b8;have ht:(s.h id).there:=by
   cases I:s.h id<;>first | trivial | exact absurd I (by simpa using b8)
  obtain⟨_,g,_,z⟩:=D.h_ ht;rw[z];rfl
 ·rename_i id i off;split at h
  ·rename_i e es az;obtain⟨_,g,n,c,tj,_,_,z⟩:=D.x_ az;rw[z];rfl
  ·rename_i e es az;obtain⟨_,g,n,c,tj,_,_,z⟩:=D.tr az;rw[z];rfl
  cases h
 ·cases D;rfl
 cases h
theorem cells_one{v:Value}(h:v.oneCell'=true):v.cells=#[v]:=by cases v<;>first | rfl | cases h
theorem wc{S:Nat->Prop}{x:PV}{ys:List PV}{v:Value}(h:sg x=some ys)(D:aO S w x v):v.cells.size=ys.length/\(∀u∈v.cells.toList,u.oneCell'=true)/\∀(j:Nat) y u,ys[j]?=some y->v.cells[j]?=some u->aO S w y u:=by
 have one:∀{v:Value},v.oneCell'=true->aO S w x v->ys=[x]->v.cells.size=ys.length/\(∀u∈v.cells.toList,u.oneCell'=true)/\∀(j:Nat) y u,ys[j]?=some y->v.cells[j]?=some u->aO S w y u:=by
  intro v z D O;subst O;rw[cells_one z];refine⟨rfl,by simpa using z,fun j y u I N=>?_⟩;cases j with
  | zero=>simp at I N;subst I N;exact D
  | succ j=>simp at I
 unfold sg at h;split at h
 ·injection h with h;subst h;obtain⟨vs,rfl,z,J,R⟩:=D.su;exact⟨z.symm,J,R⟩
 ·split at h
  ·rename_i z;injection h with h;exact one (by rw[D.bS];exact z) D h.symm
  cases h
 rename_i z J;injection h with h;refine one ?_ D h.symm;cases D with
 | im=>exact absurd rfl (J _)
 | ag cs=>exact absurd rfl (z cs)
 | nil=>rfl
 | sl=>rfl
 | ip=>rfl
 | fn=>rfl
theorem Rw{o:Oper}(e:TypeId)(x:Operand)(aK:o.op=.box e x):iE A o:=by
 intro V L S rho s a w K next Q hC O hV hd N hn R
 simp only[bV,aK]at N;have W:=bp O x fun j D=>hV j (by simp[aK,Op.operands,D]);have hr:(execOp a.eval o).run A.C.P w=.ok (.value (.pointer (some ⟨w.heap.size,0,none⟩))) (w.alloc (.cells (a.eval x).cells e)):=by
  simp[execOp,aK,Instr.box,newVar,newRow,newObj,Sem.run]
 have J:∀cs:List AV,K (.bx (o.dst.getD 0) 0) [] (some (.box cs))->(a.eval x).cells.size=cs.length->(∀(j:Nat) y u,cs[j]?=some y->(a.eval x).cells[j]?=some u->u.oneCell'=true/\aY S w A.C.P L rho s.h y u)->o.wp A.C.P a w next Q:=by
  intro cs N hl hc;obtain⟨hL,hb⟩:=hn _ _ _ N;have b9:=O.new hC (o.dst.getD 0) (.box cs) (O.pP hd) hL hb (w.alloc (.cells (a.eval x).cells e)) rfl rfl rfl (by simp) (fun _=>False) (fun k hk _=>acr _ _ _ hk) (fun _ h=>h.elim) (.pointer (some ⟨w.heap.size,0,none⟩))
   (fun g hg=>by simp[cC]at hg;subst hg;simp) (fun T=>⟨w.heap.size,e,(a.eval x).cells,aH _ _ _,heap_alloc_new w _,hl,fun j y u D I=>⟨(hc j y u D I).1,(hc j y u D I).2.cK T⟩⟩)
  refine dW hr (R _ _ _ _ _ _ _ N (b9.value o.dst hd _ _ (.bx _ _ _ fun _=>⟨.inr rfl,w.heap.size,aH _ _ _,rfl⟩)))
 split at N
 ·rename_i cs pN;rw[pN]at W;obtain⟨vs,Y,Z,U,h3⟩:=W.eR.su;refine J _ N (by rw[Y];simp[Value.cells,Z]) fun j y u D I=>?_;rw[Y]at I;rw[aak]at D;obtain⟨z,hz,rfl⟩:=acq.1 D;have qa:vs[j]?=some u:=I;exact⟨U u (by simpa using abr qa),.p _ _ (h3 j z u hz qa)⟩
 ·rename_i xs pN;rw[pN]at W;obtain⟨vs,Y,Z,U,h3⟩:=W.Rm;refine J _ N (by rw[Y];simp[Value.cells,Z]) fun j y u D I=>?_;rw[Y]at I;have qa:vs[j]?=some u:=I;exact⟨U u (by simpa using abr qa),h3 j y u D qa⟩
 split at N
 ·rename_i Z;have U:=q8 O Z W;refine J _ N (by rw[cells_one U];rfl) fun j y u D I=>?_;rw[cells_one U]at I;cases j with
  | zero=>simp at D I;subst D I;exact⟨U,W⟩
  | succ j=>simp at D
 exact N.elim
theorem LC{o:Oper}(e:TypeId)(aK:o.op=.alloc e):iE A o:=by
 intro V L S rho s a w K next Q hC J hV Z O hn I
 simp only[bV,aK]at O;split at O
 ·rename_i ti hT;obtain⟨info,z,hi,h1,h2,hz,D,jg⟩:=(hC.iq e ti hT).info;have hr:(execOp a.eval o).run A.C.P w=.ok (.value (.pointer (some ⟨w.heap.size,0,none⟩))) (w.alloc (.cells z.cells e)):=by
   simp[execOp,aK,Instr.alloc,zeroValue,typeInfo,hi,hz,newVar,newRow,newObj,Sem.run]
  split at O
  ·obtain⟨hL,hb⟩:=hn _ _ _ O;have b9:=J.new hC (o.dst.getD 0) _ (J.pP Z) hL hb (w.alloc (.cells z.cells e)) rfl rfl rfl (by simp) (fun _=>False) (fun k hk _=>acr _ _ _ hk) (fun _ h=>h.elim) (.pointer (some ⟨w.heap.size,0,none⟩))
    (fun g R=>by simp[cC]at R;subst R;simp) (fun T=>⟨w.heap.size,e,z.cells,aH _ _ _,heap_alloc_new w _,by rw[D];simp,fun j y u U W=>by
     rw[D]at W;rw[aak]at U;obtain⟨v,Y,rfl⟩:=acq.1 U;have N:ti.zero[j]?=some u:=by simpa using W
     rw[Y]at N;injection N with N;subst N;exact⟨jg v (aad Y),xZ _ _ _ _ _ _ v⟩⟩)
   refine dW hr (I _ _ _ _ _ _ _ O (b9.value o.dst Z _ _ (.bx _ _ _ fun _=>⟨.inr rfl,w.heap.size,aH _ _ _,rfl⟩)))
  obtain⟨hL,hb⟩:=hn _ _ _ O;have b9:=J.new hC (o.dst.getD 0) _ (J.pP Z) hL hb (w.alloc (.cells z.cells e)) rfl rfl rfl (by simp) (fun _=>False) (fun k hk _=>acr _ _ _ hk) (fun _ h=>h.elim) (.pointer (some ⟨w.heap.size,0,none⟩))
   (fun g R=>by simp[cC]at R;subst R;simp) (fun T=>⟨w.heap.size,z.cells,aH _ _ _,heap_alloc_new w _,by rw[D];simp,fun j y u U W=>by
    rw[D]at W;rw[aak]at U;obtain⟨v,Y,rfl⟩:=acq.1 U;have N:ti.zero[j]?=some u:=by simpa using W
    rw[Y]at N;injection N with N;subst N;exact⟨jg v (aad Y),xZ _ _ _ _ _ _ v⟩⟩)
  refine dW hr (I _ _ _ _ _ _ _ O (b9.value o.dst Z _ _ (.bx _ _ _ fun _=>⟨.inr rfl,w.heap.size,aH _ _ _,rfl⟩)))
 exact O.elim
end Go.AM
namespace Go.AM
open Go.RowKit
theorem l9{id:Nat}:∀{fz:List (Nat×AB)} {h:Nat->AB},afu id fz=true->app h fz id=h id:=by
 intro fz
 induction fz with
 | nil=>intro h _;rfl
 | cons x fz ih=>
  intro h z;unfold afu at z;split at z
  ·cases z
  rename_i D;show app (aT h x.1 x.2) fz id=h id;rw[ih z,aV _ _ (fun e=>by rw[e]at D;simp at D)]
variable {α:Type}
theorem cW:∀(ys:List α) (cs:List α) (off:Nat),(setCells cs off ys).length=cs.length:=by
 intro ys
 induction ys with
 | nil=>intro cs off;rfl
 | cons y ys ih=>intro cs off;simp[setCells,ih]
theorem d_:∀(ys:List α) (cs:List α) (off j:Nat),off+ys.length<=cs.length->(setCells cs off ys)[j]?=if off<=j/\j<off+ys.length then ys[j-off]? else cs[j]?:=by
 intro ys
 induction ys with
 | nil=>intro cs off j _;simp only[setCells,acs];rw[aaa (by omega)]
 | cons y ys ih=>
  intro cs off j hl;simp only[aaB]at hl ⊢;simp only[setCells];rw[ih _ _ _ (by simp;omega)];by_cases D:j=off
  ·subst D;rw[aaa (by omega),aap (by omega),aab,ab7 (by omega)];rfl
  by_cases z:off+1<=j/\j<off+1+ys.length
  ·rw[aap z,aap (by omega),show j-off=(j-(off+1))+1 by omega,abc]
  rw[aaa z,aaa (by omega),ac5 (by omega)]
theorem oM(cs ys:List α)(off j:Nat)(hl:off+ys.length<=cs.length):(cs.take off++ys++cs.drop (off+ys.length))[j]?=if off<=j/\j<off+ys.length then ys[j-off]? else cs[j]?:=by
 have z:(cs.take off).length=off:=by simp;omega
 by_cases D:j<off
 ·rw[aaa (by omega),abx,aaE (by omega),aa0 D]
 by_cases h2:j<off+ys.length
 ·rw[aap (by omega),abx,acu (by omega),z,aaE (by omega)]
 rw[aaa (by omega),abx,acu (by omega),z,acu (by omega),aas];congr 1;omega
theorem OI(cs:List α)(off j:Nat)(y:α)(hl:off<cs.length):(cs.set off y)[j]?=if off<=j/\j<off+1 then [y][j-off]? else cs[j]?:=d_ [y] cs off j hl
variable {w:World}
theorem qe{P:Program}{t:TypeId}{ti:TI}(h:nV P t ti)(g off:Nat)(I:TypeId)(z:Array Value)(v:Value)(J:w.heap[g]?=some (.cells z I (0,0)))(D:v.cells.size=ti.size)(hl:off+ti.size<=z.size)(N:∀u∈v.cells.toList,u.oneCell'=true):
  (Instr.storeAt t (.pointer (some ⟨g,off,none⟩)) v).run P w=.ok () (w.setRow g (z.toList.take off++v.cells.toList++z.toList.drop (off+v.cells.toList.length)).toArray):=by
 have:=run_storeCells_at P g off I v.cells.toList 0 z w J (by simp[D];omega) N;simp only[abQ]at this;simp[Instr.storeAt,Instr.sureAddr,storeVar,h.sizeOf,D];simpa [D] using this
theorem oN{P:Program}{a:Act}{o:Oper}{w':World}{t:TypeId}{x y:Operand}(z:o.op=.store t x y)(h:(Instr.storeAt t (a.eval x) (a.eval y)).run P w=.ok () w'):(execOp a.eval o).run P w=.ok .skip w':=by
 simp only[execOp,z,aau,h,ab5,aa6]
variable {e:TypeId} {tj:TypeInfo}
theorem aG.stored{P:Program}{R R':α->Value->Prop}{es:List (List α)}{g n c:Nat}(h:aG P w R e es (.slice (some ⟨g,0,none⟩) n c))(AZ:P.info? e=some tj){D:Array Value}(hg:w.heap[g]?=some (.cells D e (0,0)))
  {i off:Nat} {r:List α} (hr:es[i]?=some r) {ys:List α} {us:List Value} (hle:off+ys.length<=r.length) (hlen:us.length=ys.length) (jg:∀u∈us,u.oneCell'=true) (hR:∀x u,R x u->R' x u) (I:∀(j:Nat) z u,ys[j]?=some z->us[j]?=some u->R' z u):
  aG P (w.setRow g (D.toList.take (i*tj.size+off)++us++D.toList.drop (i*tj.size+off+us.length)).toArray) R' e (es.set i (setCells r off ys)) (.slice (some ⟨g,0,none⟩) n c):=by
 obtain⟨ie,xs,k1,k2,k3,k4,k5,k6⟩:=h;rw[AZ]at k1;injection k1 with k1;subst k1;rcases k3.2 with⟨J,_⟩ | ⟨g',cap,Rx,J,_,W,k9,V0,Ry,TS⟩
 ·cases J
 injection J with J kn kc;injection J with J;injection J with J;subst J kn kc;rw[hg]at W;injection W with W;injection W with W;subst W;have hi:=aD hr;have xj:=k4 r (aad hr);have TU:i*tj.size+tj.size<=es.length*tj.size:=by rw[<-aa3];exact abf _ hi
 have TV:es.length*tj.size<=D.size:=by rw[Ry];exact abf _ k9
 have Qr:xs.length=es.length*tj.size:=k3.1;have Jv:=fun j=>oM D.toList us (i*tj.size+off) j (by simp;omega);have OJ:=fun j=>d_ us xs (i*tj.size+off) j (by omega);refine⟨tj,setCells xs (i*tj.size+off) us,AZ,k2,⟨by rw[cW,Qr,aaM],.inr ⟨g,c,_,by rw[aaM],aaj _,setRow_heap w g D _ e (0,0) hg,by rw[aaM];exact k9,V0,?_,?_⟩⟩,?_,?_,?_⟩
 ·simp only[aaf,acv,aat,aaN,abj];rw[Ry]at *;omega
 ·apply ach;intro j;rw[aa7];simp only[aaM];split
  ·rename_i N;rw[Jv,OJ];split
   ·rfl
   rw[<-TS,aa0 N]
  rename_i N;rw[abI];rw[cW,Qr];omega
 ·intro q Om;rcases abg Om with h | h
  ·exact k4 q h
  rw[h,cW];exact xj
 ·intro u Y;obtain⟨j,N⟩:=ab8.1 Y;rw[OJ]at N;split at N
  ·exact jg u (aad N)
  exact k5 u (aad N)
 intro Z q j z O U;have V1:q.length=tj.size:=by
  rcases abg (aad O) with h | h
  ·exact k4 q h
  rw[h,cW];exact xj
 have sw:=aD U;rw[OJ];by_cases LD:Z=i
 ·subst LD;rw[ab7 hi]at O;injection O with O;subst O;rw[d_ _ _ _ _ (by omega)]at U;split at U
  ·rename_i s_;rw[aap (by omega),show Z*tj.size+j-(Z*tj.size+off)=j-off by omega];have YP:=aD U;exact⟨us[j-off]'(by omega),acg _,I _ z _ U (acg _)⟩
  rename_i s_;rw[aaa (by omega)];obtain⟨u,Y,iO⟩:=k6 _ _ _ _ hr U;exact⟨u,Y,hR _ _ iO⟩
 rw[ac5 (fun e=>LD e.symm)]at O;have b8:¬(i*tj.size+off<=Z*tj.size+j/\Z*tj.size+j<i*tj.size+off+us.length):=by
  rintro⟨h1,h2⟩;rcases aa4 LD with h | h
  ·have:=abf tj.size (adm h);rw[aa3]at this;omega
  have:=abf tj.size (adm h);rw[aa3]at this;omega
 rw[aaa b8];obtain⟨u,Y,iO⟩:=k6 _ _ _ _ O U;exact⟨u,Y,hR _ _ iO⟩
theorem aG.block{P:Program}{R:α->Value->Prop}{es:List (List α)}{g n c:Nat}(h:aG P w R e es (.slice (some ⟨g,0,none⟩) n c))(J:P.info? e=some tj):∃D:Array Value,w.heap[g]?=some (.cells D e (0,0))/\es.length*tj.size<=D.size/\(∀r∈es,r.length=tj.size)/\0<tj.size:=by
 obtain⟨ie,xs,I,N,O,U,k5,k6⟩:=h;rw[J]at I;injection I with I;subst I;rcases O.2 with⟨z,_⟩ | ⟨g',cap,W,z,_,Y,Z,V0,Ry,TS⟩
 ·cases z
 injection z with z kn kc;injection z with z;injection z with z;subst z;exact⟨W,Y,by rw[Ry];exact abf _ Z,U,N⟩
theorem iP{g o n c:Nat}{p:Option Nat}{k:Nat}:cC (.slice (some ⟨g,o,p⟩) n c)=some k↔k=g:=by
 simp only[cC,Option.some.injEq];exact⟨fun h=>h.symm,fun h=>h.symm⟩
theorem uZ.LF{P:Program}{R:HX->Value->Prop}{es:List (List HX)}{v:Value}(hS:uZ w es v)(h:aG P w R e es v):
  aG P w (fun x u=>R x u/\∀e' I,x=.row e' I->∀g b,cC v=some g->cC u=some b->b≠g) e es v:=by
 obtain⟨i,xs,Y,Z,J,N,h5,h6⟩:=h;refine⟨i,xs,Y,Z,J,N,h5,fun a r j x D O=>?_⟩;obtain⟨u,z,hr⟩:=h6 a r j x D O;refine⟨u,z,hr,fun e' I hx g b U hb=>?_⟩;subst hx;have xj:=N r (aad D);rcases J.2 with⟨hn,hz⟩ | ⟨g',cap,cur,W,_,DG,k1,k2,k3,k4⟩
 ·have:=(aao.1 D).1;omega
 rw[W]at U;obtain rfl:=iP.1 U;refine hS.top g a j u b (by rw[W];rfl) ⟨r,e',I,_,_,_,D,O,DG,?_⟩ hb;rw[xj];rw[<-k4,aa7]at z;split at z
 ·simpa using z
 cases z
theorem b7.WH{A:cD}{V L S:Nat->Prop}{rho:Nat->Value}{s:AS}{a:Act}(R:b7 A V L S rho s a w)(hC:bI A.C){id:Nat}(hL:L id){es:List (List HX)}(az:s.h id=.az e es){g n c:Nat}(W:rho id=.slice (some ⟨g,0,none⟩) n c)(AZ:A.C.P.info? e=some tj)
  {i off:Nat} {r:List HX} (Y:es[i]?=some r) (hle:off+1<=r.length) {x:AV} {u:Value} (jg:u.oneCell'=true) (hx:aY S w A.C.P L rho s.h x u):
  ∃D:Array Value,w.heap[g]?=some (.cells D e (0,0))/\i*tj.size+off+1<=D.size/\b7 A V L S rho ⟨s.t,aT s.h id (.az e (es.set i (r.set off (.av x))))⟩ a (w.setRow g (D.toList.take (i*tj.size+off)++[u]++D.toList.drop (i*tj.size+off+1)).toArray):=by
 have hh:=R.hp id hL;rw[az]at hh;obtain⟨hR,hS⟩:=hh;rw[W]at hR hS;obtain⟨D,U,hsz,hlen,hpos⟩:=hR.block AZ;have hi:=aD Y;have xj:=hlen r (aad Y);have TU:i*tj.size+tj.size<=es.length*tj.size:=by rw[<-aa3];exact abf _ hi
 have Z:∀k j v,dF (w.setRow g (D.toList.take (i*tj.size+off)++[u]++D.toList.drop (i*tj.size+off+1)).toArray) (es.set i (r.set off (.av x))) g k j v->dF w es g k j v:=by
  rintro k j v ⟨q,e',rN,c',YR,m',J,I,N,O⟩;rw[setRow_heap w g D _ e (0,0) U]at N;injection N with N;injection N with N h3' aag;have sw:=aD I;have V1:q.length=tj.size:=by
   rcases abg (aad J) with h | h
   ·exact hlen q h
   rw[h,aaM];exact xj
  have key:∀p,p≠i*tj.size+off->c'[p]?=some v->D[p]?=some v:=fun p hp h=>by
   rw[<-N]at h;have h:(D.toList.take (i*tj.size+off)++[u]++D.toList.drop (i*tj.size+off+1))[p]?=some v:=by simpa using h
   have I:=oM D.toList [u] (i*tj.size+off) p (by simp;omega);simp only[abS]at I;rw[I,aaa (by omega)]at h;simpa using h
  by_cases LG:k=i
  ·subst LG;rw[ab7 hi]at J;injection J with J;subst J;have YP:j≠off:=fun e0=>by
    subst e0;rw[ab7 (by omega)]at I;injection I with I;cases I
   rw[ac5 (fun e=>YP e.symm)]at I;refine⟨r,e',rN,D,_,_,Y,I,U,?_⟩;rw[V1]at O;rw[xj];exact key _ (by omega) O
  rw[ac5 (fun e=>LG e.symm)]at J;refine⟨q,e',rN,D,_,_,J,I,U,?_⟩;refine key _ ?_ O;rw[V1];intro he;rcases aa4 LG with h | h
  ·have:=abf tj.size (adm h);rw[aa3]at this;omega
  have:=abf tj.size (adm h);rw[aa3]at this;omega
 refine⟨D,U,by omega,?_⟩;refine R.Cl hC id hL (by rw[az];trivial) _ (fun e' h=>by rw[az];exact h) _ (setRow_os w g _) (setRow_tape w g _) (setRow_output w g _) (setRow_size w g _) (fun k hk=>setRow_other w g k _ fun e=>hk (by rw[W,e];rfl)) (fun T=>?_) (fun k hk=>?_)
 ·show aG _ _ _ _ _ (rho id)/\uZ _ _ (rho id);rw[W];refine⟨(hS.LF hR).stored AZ U (ys:=[.av x]) (us:=[u]) Y hle rfl (by simpa using jg) (fun y v hy=>?_) (fun j z v hz hv=>?_),?_⟩
  ·cases y with
   | av y=>exact aY.cK T hy.1
   | row e' rN=>exact aG.cK hy.1 (fun k hk=>setRow_other w g k _ (hy.2 _ _ rfl g k rfl hk)) (fun x u hu=>hu.mono T.hS T.keep)
  ·cases j with
   | zero=>simp at hz hv;subst hz hv;exact aY.cK T hx
   | succ j=>simp at hz
  exact⟨fun g' k j v b J I N=>by
   obtain rfl:=iP.1 J;exact hS.top _ k j v b J (Z k j v I) N,fun g' k j k' j' v v' b J I N O h5=>by
   obtain rfl:=iP.1 J;exact hS.dis _ k j k' j' v v' b J (Z k j v I) (Z k' j' v' N) O h5⟩
 rw[az];rcases hk with hk | ⟨cs,g',h,_⟩ | ⟨e',de,g',k',j,v,J,I,N,O⟩
 ·exact .inl hk
 ·cases h
 injection J with J tq;subst J tq;have we:=I;rw[W]at we;obtain rfl:=iP.1 we;exact .inr (.inr ⟨_,_,_,_,_,_,rfl,I,Z _ _ _ N,O⟩)
theorem LH{A:cD}{o:Oper}(t:TypeId)(x y:Operand)(aK:o.op=.store t x y):iE A o:=by
 intro V L S rho s a w K next Q hC U hV hd D hn N
 simp only[bV,aK]at D;have hx:=bp U x fun j J=>hV j (by simp[aK,Op.operands,J]);have hy:=bp U y fun j J=>hV j (by simp[aK,Op.operands,J]);split at D
 ·exact D.elim
 rename_i ti hT;have fK:=hC.iq t ti hT;split at D
 ·rename_i id off Rz;rw[Rz]at hx;split at D
  ·rename_i cs aN;obtain⟨hL,g,hg,hv⟩:=hx.h_ (by rw[aN];trivial);have main:∀(S2:Nat->Prop) (s2:AS) (mZ:List AV) (ws:List AV),b7 A V L S2 rho s2 a w->s2.h id=.box cs->(a.eval y).cells.size=ti.size->ws.length=ti.size->off+ti.size<=cs.length->(∀u∈(a.eval y).cells.toList,u.oneCell'=true)->
     (∀(j:Nat) z u,ws[j]?=some z->(a.eval y).cells[j]?=some u->aY S2 w A.C.P L rho s2.h z u)->mZ.length=cs.length->(∀j,mZ[j]?=if off<=j/\j<off+ws.length then ws[j-off]? else cs[j]?)->
     ∃w',(execOp a.eval o).run A.C.P w=.ok .skip w'/\b7 A V L S2 rho ⟨s2.t,aT s2.h id (.box mZ)⟩ a w':=by
    intro S2 s2 mZ ws bu oE hsz WI hle jg O hlen Cm;have hh:=bu.hp id hL;rw[oE]at hh;obtain⟨g',ty,c,Z,k2,k3,k4⟩:=hh;rw[hg]at Z;injection Z with Z;injection Z with Z;injection Z with Z;subst Z;have I:=qe (w:=w) fK g off ty c (a.eval y) k2 hsz (by omega) jg;refine⟨_,oN aK (by rw[hv];exact I),?_⟩;refine bu.write hC id hL (by rw[oE];trivial) (.box mZ) (fun _ h=>by cases h) _ (by simp) (by simp) (by simp) (by simp) (fun k hk=>setRow_other w g k _ fun e=>hk (by rw[hg,e];rfl)) fun T=>?_;have je:(a.eval y).cells.toList.length=ti.size:=by simpa using hsz
    refine⟨g,ty,_,hg,setRow_heap w g c _ ty (0,0) k2,by simp[je];omega,fun j z u J W=>?_⟩;have qa:(c.toList.take off++(a.eval y).cells.toList++c.toList.drop (off+(a.eval y).cells.toList.length))[j]?=some u:=by simpa using W
    rw[oM _ _ _ _ (by rw[je];simpa [k3] using hle)]at qa;rw[Cm j]at J;rw[je]at qa;rw[WI]at J;split at J
    ·rename_i s_;rw[aap s_]at qa;have WJ:(a.eval y).cells[j-off]?=some u:=by simpa using qa
     exact⟨jg u (aad qa),(O _ z u J WJ).cK T⟩
    rename_i s_;rw[aaa s_]at qa;have WJ:c[j]?=some u:=by simpa using qa
    obtain⟨h5,h6⟩:=k4 _ _ _ J WJ;exact⟨h5,h6.cK T⟩
   split at D
   ·rename_i wb;obtain⟨yv,fz,S2,D,bu,hrep,xC,hF,DI⟩:=ir hC U (pY.refl s.h) hy D;split at D
    ·rename_i ys;split at D
     ·rename_i kD;simp only[aaZ]at kD;obtain⟨⟨e1,e2⟩,e3⟩:=kD;have e1:=ahS e1;have e2:=kO e2;obtain⟨vs,LI,h1,h2,h3⟩:=hrep.su;have je:(a.eval y).cells=vs:=by rw[LI];rfl
      obtain⟨w',I,Y⟩:=main S2 _ (setCells cs off (ys.map Tp)) (ys.map Tp) bu (by simp only;rw[l9 e3];exact aN) (by rw[je];omega) (by simpa using e1) e2 (by rw[je];exact h2)
       (fun j z u J W=>by
        rw[je]at W;rw[aak]at J;obtain⟨z',hz,rfl⟩:=acq.1 J;exact xy (h3 j z' u hz W)) (cW _ _ _) (fun j=>d_ _ _ _ _ (by simpa [e1] using e2))
      refine qc I (N _ _ _ S2 rho _ _ D ?_);have:=Y.value o.dst hd .junk undef (.junk _);simp only[cy,app];exact this
     exact D.elim
    exact D.elim
   rename_i wb;split at D
   ·rename_i kD;simp only[aaZ]at kD;obtain⟨⟨e1,e2⟩,e3⟩:=kD;have e1:=kO e1;have e2:=ahS e2;have h1:=q8 U e3 hy;have je:=cells_one h1;obtain⟨w',I,Y⟩:=main S s (cs.set off (ev s.t y)) [ev s.t y] U aN (by rw[je,e2];rfl) (by rw[e2];rfl) (by omega) (by rw[je];simpa using h1)
     (fun j z u J W=>by
      rw[je]at W;cases j with
      | zero=>simp at J W;subst J W;exact hy
      | succ j=>simp at J) (by simp) (fun j=>OI _ _ _ _ (by omega))
    refine qc I (N _ _ _ S rho _ _ D ?_);exact Y.value o.dst hd .junk undef (.junk _)
   exact D.elim
  exact D.elim
 ·rename_i id i off Rz;rw[Rz]at hx;split at D
  ·rename_i e es az;obtain⟨hL,g,n,c,tj,hg,AZ,hv⟩:=hx.x_ az;obtain⟨r,hr,D⟩:=D;obtain⟨yv,fz,S2,D,bu,hrep,xC,hF,DI⟩:=ir hC U (pY.refl s.h) hy D;split at D
   ·rename_i ys Ij;split at D
    ·rename_i kD;simp only[aaZ]at kD;obtain⟨⟨e1,e2⟩,e3⟩:=kD;have e1:=ahS e1;have e2:=kO e2;obtain⟨WK,jg,O⟩:=wc Ij hrep;have oE:(app s.h fz) id=.row e es:=by rw[l9 e3];exact az
     have hh:=bu.hp id hL;have hh:eK S2 w A.C.P L rho (app s.h fz) id ((app s.h fz) id):=hh;rw[oE]at hh;obtain⟨ie,xs,Z,k2,k3,k4,k5,k6⟩:=hh;rw[AZ]at Z;injection Z with Z;subst Z;rw[hg]at k3;rcases k3.2 with⟨k7,_⟩ | ⟨g',cap,R,k7,_,k8,k9,V0,Ry,TS⟩
     ·cases k7
     injection k7 with k7 kn kc;injection k7 with k7;injection k7 with k7;subst k7 kn kc;have hi:=aD hr;have xj:=k4 r (aad hr);have TU:i*tj.size+tj.size<=es.length*tj.size:=by rw[<-aa3];exact abf _ hi
     have TV:es.length*tj.size<=R.size:=by rw[Ry];exact abf _ k9
     have je:(a.eval y).cells.toList.length=ti.size:=by simp;omega
     have I:=qe (w:=w) fK g (i*tj.size+off) e R (a.eval y) k8 (by omega) (by omega) jg;refine qc (oN aK (by rw[hv];exact I)) (N _ _ _ S2 rho _ _ D ?_);have Y:b7 A V L S2 rho ⟨s.t,aT (app s.h fz) id (.row e (es.set i (setCells r off ys)))⟩ a (w.setRow g (R.toList.take (i*tj.size+off)++(a.eval y).cells.toList++R.toList.drop (i*tj.size+off+(a.eval y).cells.toList.length)).toArray):=by
      refine bu.write hC id hL (by show (app s.h fz id).live;rw[oE];trivial) (.row e (es.set i (setCells r off ys))) (fun e' h=>by show (app s.h fz id).oG=_;rw[oE];exact h) _ (setRow_os w g _) (setRow_tape w g _) (setRow_output w g _) (setRow_size w g _)
       (fun k hk=>setRow_other w g k _ fun e=>hk (by rw[hg,e];rfl)) (fun T=>?_)
      show aG _ _ _ _ _ (rho id);rw[hg];have Qr:xs.length=es.length*tj.size:=k3.1;have DU:∀(j:Nat) u,xs[j]?=some u->R.toList[j]?=some u:=fun j u J=>by
       rw[<-TS]at J;rw[aa7]at J;split at J
       ·exact J
       cases J
      have Jv:=fun j=>oM R.toList (a.eval y).cells.toList (i*tj.size+off) j (by rw[je];simp;omega);have OJ:=fun j=>d_ (a.eval y).cells.toList xs (i*tj.size+off) j (by rw[je,Qr];omega);refine⟨tj,setCells xs (i*tj.size+off) (a.eval y).cells.toList,AZ,k2,⟨by rw[cW,Qr,aaM],.inr ⟨g,c,_,by rw[aaM],aaj _,setRow_heap w g R _ e (0,0) k8,by rw[aaM];exact k9,V0,?_,?_⟩⟩,?_,?_,?_⟩
      ·simp only[aaf,acv,aat,aaN,abj];rw[Ry]at *;simp at je;omega
      ·apply ach;intro j;rw[aa7];simp only[aaM];split
       ·rename_i J;rw[Jv,OJ];split
        ·rfl
        rw[<-TS,aa0 J]
       rename_i J;rw[abI];rw[cW,Qr];omega
      ·intro q Om;rcases abg Om with h | h
       ·exact k4 q h
       rw[h,cW];exact xj
      ·intro u W;obtain⟨j,J⟩:=ab8.1 W;rw[OJ]at J;split at J
       ·exact jg u (aad J)
       exact k5 u (aad J)
      intro a' q j z va hz;have V1:q.length=tj.size:=by
       rcases abg (aad va) with h | h
       ·exact k4 q h
       rw[h,cW];exact xj
      have sw:=aD hz;rw[OJ];by_cases LD:a'=i
      ·subst LD;rw[ab7 hi]at va;injection va with va;subst va;rw[d_ _ _ _ _ (by omega)]at hz;split at hz
       ·rename_i s_;rw[aap (by omega),show a'*tj.size+j-(a'*tj.size+off)=j-off by omega];obtain⟨u,W⟩:=jG WK.symm (aD hz);exact⟨u,by simpa using W,(O _ z u hz W).mono T.hS T.keep⟩
       rename_i s_;rw[aaa (by omega)];obtain⟨u,W,iO⟩:=k6 _ _ _ _ hr hz;exact⟨u,W,iO.mono T.hS T.keep⟩
      rw[ac5 (fun e=>LD e.symm)]at va;have b8:¬(i*tj.size+off<=a'*tj.size+j/\a'*tj.size+j<i*tj.size+off+(a.eval y).cells.toList.length):=by
       rintro⟨h1,h2⟩;rcases aa4 LD with h | h
       ·have:=abf tj.size (adm h);rw[aa3]at this;omega
       have:=abf tj.size (adm h);rw[aa3]at this;omega
      rw[aaa b8];obtain⟨u,W,iO⟩:=k6 _ _ _ _ va hz;exact⟨u,W,iO.mono T.hS T.keep⟩
     have:=Y.value o.dst hd .junk undef (.junk _);simp only[cy,app];exact this
    exact D.elim
   exact D.elim
  ·rename_i e es az;obtain⟨hL,g,n,c,tj,hg,AZ,hv⟩:=hx.tr az;obtain⟨r,hr,D⟩:=D;split at D
   ·exact D.elim
   split at D
   ·rename_i kD;simp only[aaZ]at kD;obtain⟨⟨e1,e2⟩,e3⟩:=kD;have e1:=kO e1;have e2:=ahS e2;have h1:=q8 U e3 hy;have je:=cells_one h1;obtain⟨R,DU,hsz,Y⟩:=U.WH hC hL az hg AZ hr e1 h1 hy;have I:=qe (w:=w) fK g (i*tj.size+off) e R (a.eval y) DU (by rw[je,e2];rfl) (by omega) (by rw[je];simpa using h1);rw[je]at I;refine qc (oN aK (by rw[hv];exact I)) (N _ _ _ S rho _ _ D ?_);exact Y.value o.dst hd .junk undef (.junk _)
   exact D.elim
  exact D.elim
 exact D.elim
end Go.AM
namespace Go.AM
open Go.RowKit
variable {A:cD}
theorem RA{o:Oper}(c:Call)(aK:o.op=.call c)(hc:c.callee=.builtin .len):iE A o:=by
 intro V L S rho s a w K next Q hC I hV hd z _ D
 obtain⟨callee,args,argTypes⟩:=c;simp only at hc;subst hc;simp only[bV,aK,aeC,fy]at z;split at z
 ·rename_i x t O LJ;have J:=bp I x fun j hj=>hV j (by simp[aK,Op.operands,Call.operands,hj];rw[<-hj];exact aal.1 (by rw[O];simp));have e1:args=#[x]:=by rw[<-aaY (xs:=args),O]
  have e2:argTypes=#[t]:=by rw[<-aaY (xs:=argTypes),LJ]
  subst e1 e2;split at z
  ·rename_i size bytes zero eq hT;have U:=(hC.iq t _ hT).under;simp only at U;split at z
   ·rename_i st xl;rw[xl]at J;exact aM I hd D z (.p _ _ (.im _)) (by simp[execOp,aK,resolve,invoke,builtin,J.bS,Builtin.len_,run_underlying U,goInt])
   exact z.elim
  ·rename_i e size bytes zero eq hT;have U:=(hC.iq t _ hT).under;simp only at U;have fin:∀(es:List (List PV)) W c,K (.p (.im (.int .i64 es.length))) [] none->a.eval x=.slice W es.length c->o.wp A.C.P a w next Q:=fun es W c z he=>
    aM I hd D z (.p _ _ (.im _)) (by simp[execOp,aK,resolve,invoke,builtin,he,Builtin.len_,run_underlying U,goInt])
   split at z
   ·rename_i m N;unfold hlen at N;split at N
    ·rename_i id Z;rw[Z]at J;split at N
     ·rename_i e' es az;injection N with N;subst N;obtain⟨hL,Y⟩:=J.cH (by rw[az];trivial);have R:=I.hp id hL;rw[az]at R;obtain⟨⟨i,xs,_,_,h3,_⟩,_⟩:=R;obtain⟨W,c,WL⟩:∃W c,rho id=.slice W es.length c:=by
       rcases h3.2 with⟨h4,h5⟩ | ⟨g,cap,cur,h4,_⟩
       ·exact⟨none,0,by rw[h4,h5]⟩
       exact⟨_,cap,h4⟩
      exact aM I hd D z (.p _ _ (.im _)) (by simp[execOp,aK,resolve,invoke,builtin,Y,WL,Builtin.len_,run_underlying U,goInt])
     cases N
    ·rename_i id lo hi Z;rw[Z]at J;split at N
     ·rename_i e' es az;injection N with N;subst N;obtain⟨_,n,cp,W,WG,_,_,_,_,_,hval⟩:=J.Cj az;exact aM I hd D z (.p _ _ (.im _)) (by simp[execOp,aK,resolve,invoke,builtin,hval,Builtin.len_,run_underlying U,goInt])
     cases N
    cases N
   unfold gH at z;split at z
   ·rename_i es Z;rw[Z]at J;obtain⟨W,c,Y,_⟩:=J.eR.oL;exact fin es W c z Y
   ·rename_i Z;rw[Z]at J;have:a.eval x=.slice none 0 0:=by cases h:a.eval x<;>rw[h]at J<;>cases J;rfl
    exact fin [] none 0 z this
   ·rename_i id Z;rw[Z]at J;split at z
    ·rename_i e' es az;obtain⟨hL,Y⟩:=J.cH (by rw[az];trivial);have R:=I.hp id hL;rw[az]at R;obtain⟨i,xs,_,_,h3,_⟩:=R;rcases h3.2 with⟨h4,h5⟩ | ⟨g,cap,cur,h4,_⟩
     ·exact fin es none 0 z (by rw[Y,h4,h5])
     exact fin es _ cap z (by rw[Y,h4])
    ·rename_i es az;obtain⟨hL,Y⟩:=J.cH (by rw[az];trivial);have R:=I.hp id hL;rw[az]at R;obtain⟨W,c,h4,_⟩:=aO.oL R;exact fin es W c z (by rw[Y,h4])
    exact z.elim
   exact z.elim
  ·rename_i kt et size bytes zero eq hT;have U:=(hC.iq t _ hT).under;simp only at U;split at z
   case h_2=>exact z.elim
   rename_i id hid;split at z
   case h_2=>exact z.elim
   rename_i mk es N;rw[hid]at J;obtain⟨hL,Y⟩:=J.cH (by rw[N];trivial);have R:=I.hp id hL;rw[N]at R;obtain⟨g,ms,clock,h1,h2,h3,_⟩:=R;exact aM I hd D z (.p _ _ (.im _)) (by simp[execOp,aK,resolve,invoke,builtin,Y,h1,Builtin.len_,run_underlying U,abW h2,h3,goInt])
  exact z.elim
 exact z.elim
theorem RB{o:Oper}(c:Call)(O:o.op=.call c)(R:c.callee=.builtin .min):iE A o:=by
 intro V L S rho s a w K next Q hC D U Z J _ I
 obtain⟨callee,args,argTypes⟩:=c;simp only at R;subst R;simp only[bV,O,aeC,fy]at J;split at J
 ·rename_i x y z;have W:=bp D x fun j N=>U j (by simp[O,Op.operands,Call.operands,N];rw[<-N];exact aal.1 (by rw[z];simp));have Y:=bp D y fun j N=>U j (by simp[O,Op.operands,Call.operands,N];rw[<-N];exact aal.1 (by rw[z];simp));have e1:args=#[x,y]:=by rw[<-aaY (xs:=args),z]
  subst e1;split at J
  ·rename_i k m k' n h1 h2;rw[h1]at W;rw[h2]at Y;exact aM D Z I J (.p _ _ (.im _)) (by
    simp[execOp,O,resolve,invoke,builtin,W.bS,Y.bS,Builtin.min_,Builtin.min2];rw[Int.min_def];split<;>split<;>omega)
  exact J.elim
 exact J.elim
variable {w:World}
theorem DV{P:Program}(k D:IntKind)(m n:Int):(Builtin.max2 (.int k m) (.int D n)).run P w=.ok (.int k (max m n)) w:=by
 simp only[Builtin.max2,aa6];rw[ac6];by_cases h:n>m
 ·rw[aap h,aap (by omega)]
 rw[aaa h];by_cases z:m<=n
 ·rw[aap z,show m=n by omega]
 rw[aaa z]
theorem RC{o:Oper}(c:Call)(O:o.op=.call c)(hc:c.callee=.builtin .max):iE A o:=by
 intro V L S rho s a w K next Q hC J U hd R _ N
 obtain⟨callee,args,argTypes⟩:=c;simp only at hc;subst hc;simp only[bV,O,aeC,fy]at R;split at R
 ·rename_i x y D;have W:=bp J x fun j I=>U j (by simp[O,Op.operands,Call.operands,I];rw[<-I];exact aal.1 (by rw[D];simp));have Y:=bp J y fun j I=>U j (by simp[O,Op.operands,Call.operands,I];rw[<-I];exact aal.1 (by rw[D];simp));have e1:args=#[x,y]:=by rw[<-aaY (xs:=args),D]
  subst e1;split at R
  ·rename_i k m k' n h1 h2;rw[h1]at W;rw[h2]at Y;exact aM J hd N R (.p _ _ (.im _)) (by
    simp[execOp,O,resolve,invoke,builtin,W.bS,Y.bS,Builtin.max_,Builtin.max2];rw[ac6];split<;>split<;>omega)
  exact R.elim
 ·rename_i x y z D;have W:=bp J x fun j I=>U j (by simp[O,Op.operands,Call.operands,I];rw[<-I];exact aal.1 (by rw[D];simp));have Y:=bp J y fun j I=>U j (by simp[O,Op.operands,Call.operands,I];rw[<-I];exact aal.1 (by rw[D];simp));have Z:=bp J z fun j I=>U j (by simp[O,Op.operands,Call.operands,I];rw[<-I];exact aal.1 (by rw[D];simp));have e1:args=#[x,y,z]:=by rw[<-aaY (xs:=args),D]
  subst e1;split at R
  ·rename_i k0 m0 k1 m1 k2 m2 g0 g1 g2;rw[g0]at W;rw[g1]at Y;rw[g2]at Z;exact aM J hd N R (.p _ _ (.im _)) (by
    simp[execOp,O,resolve,invoke,builtin,W.bS,Y.bS,Z.bS,Builtin.max_,DV])
  exact R.elim
 ·rename_i x y z u v D;have W:=bp J x fun j I=>U j (by simp[O,Op.operands,Call.operands,I];rw[<-I];exact aal.1 (by rw[D];simp));have Y:=bp J y fun j I=>U j (by simp[O,Op.operands,Call.operands,I];rw[<-I];exact aal.1 (by rw[D];simp));have Z:=bp J z fun j I=>U j (by simp[O,Op.operands,Call.operands,I];rw[<-I];exact aal.1 (by rw[D];simp));have hu:=bp J u fun j I=>U j (by simp[O,Op.operands,Call.operands,I];rw[<-I];exact aal.1 (by rw[D];simp));have hv:=bp J v fun j I=>U j (by simp[O,Op.operands,Call.operands,I];rw[<-I];exact aal.1 (by rw[D];simp));have e1:args=#[x,y,z,u,v]:=by rw[<-aaY (xs:=args),D]
  subst e1;split at R
  ·rename_i k0 m0 k1 m1 k2 m2 k3 m3 k4 m4 g0 g1 g2 g3 g4;rw[g0]at W;rw[g1]at Y;rw[g2]at Z;rw[g3]at hu;rw[g4]at hv;exact aM J hd N R (.p _ _ (.im _)) (by
    simp[execOp,O,resolve,invoke,builtin,W.bS,Y.bS,Z.bS,hu.bS,hv.bS,Builtin.max_,DV])
  exact R.elim
 exact R.elim
variable {V L:Nat->Prop} {rho:Nat->Value} {s:AS}
theorem A3{o:Oper}{S:Nat->Prop}{a:Act}{K:KK}{next:Act->World->Prop}{Q:Exit->Act->World->Prop}{fz:List (Nat×AB)}(D:b7 A V L S rho ⟨s.t,app s.h fz⟩ a w)(J:∀d,o.dst=some d->d<A.n)
  (z:∀v eff new S' rho' I w',K v eff new->b7 A (xY V o.dst) (Cg L new (o.dst.getD 0)) S' rho' ⟨fx s.t o.dst v,app s.h eff⟩ I w'->next I w') {x:AV} {v:Value} (N:K x fz none) (O:aY S w A.C.P L rho (app s.h fz) x v)
  (R:(execOp a.eval o).run A.C.P w=.ok (.value v) w):o.wp A.C.P a w next Q:=
 dW R (z _ _ _ _ _ _ _ N (D.value o.dst J x v O))
variable {es:List (List PV)}
theorem aO.OL{S:Nat->Prop}{D:Option Addr}{c l h sz:Nat}(hx:aO S w (.sl es) (.slice D es.length c))(hl:l<=h)(R:h<=es.length)(hc:es.length<=c)
  (hk:∀b off k,D=some ⟨b,off,none⟩->(∀e∈es,e.length=k)->l<h->k=sz):aO S w (.sl ((es.take h).drop l)) (.slice (if c=l then D else D.map (·.add (l*sz))) (h-l) (c-l)):=by
 have hlen:((es.take h).drop l).length=h-l:=by simp;omega
 by_cases I:h-l=0
 ·have:(es.take h).drop l=[]:=adl (by omega);rw[this,I];exact .nil _ _
 obtain⟨ad',c',hv,hle,b8⟩:=hx.oL;injection hv with e1 e2 e3;subst e1 e3;obtain⟨b,off,k,U,hb,W,z⟩:=b8 (by intro e;rw[e]at R;simp at R;omega);have Y:=hk b off k U W (by omega);subst U;rw[aaa (by omega)];show aO S w _ (.slice (some (Addr.add ⟨b,off,none⟩ (l*sz))) (h-l) (c-l));rw[aaJ,<-hlen];have Z:∀(i:Nat) e,((es.take h).drop l)[i]?=some e->es[l+i]?=some e:=by
  intro i e hi;rw[aas,aa7]at hi;split at hi
  ·exact hi
  cases hi
 refine .sl _ k b (off+l*sz) _ (fun i j=>(w.cell? ⟨b,off+l*sz+i*k+j,none⟩).getD undef) (by rw[hlen];omega) hb (fun e I=>W e (acM (abq I))) (fun i e j x J N=>?_) fun i e j x J N=>?_
 ·obtain⟨u,O,h4,h5⟩:=z _ e j x (Z i e J) N;have:off+l*sz+i*k+j=off+(l+i)*k+j:=by rw[<-Y,abR];omega
  rw[this,O];exact⟨rfl,h4⟩
 obtain⟨u,O,h4,h5⟩:=z _ e j x (Z i e J) N;have:off+l*sz+i*k+j=off+(l+i)*k+j:=by rw[<-Y,abR];omega
 rw[this,O];exact h5
theorem gv{P:Program}(k:IntKind)(i:Int)(y:Nat)(z:BoundsCode)(h:0<=i/\i<=y):(Instr.sliceBound (.int k i) y z).run P w=.ok i.toNat w:=by
 simp[Instr.sliceBound,asIntOf,h.1,h.2]
theorem ya{S:Nat->Prop}{a:Act}(_:b7 A V L S rho s a w)(lo hi:Option Operand)(Y:∀y,lo=some y->aY S w A.C.P L rho s.h (ev s.t y) (a.eval y))(Z:∀y,hi=some y->aY S w A.C.P L rho s.h (ev s.t y) (a.eval y)):
  ∀(z:Bool) (len D:Nat) (k:IntKind) (m:Int) (I:IntKind) (n:Int),len<=D->(match lo with | some y=>ev s.t y | none=>.p (.im (.int .i64 0)))=.p (.im (.int k m))->(match hi with | some y=>ev s.t y | none=>.p (.im (.int .i64 len)))=.p (.im (.int I n))->0<=m->m<=n->n<=len ->
   (Instr.sliceBounds z len D (lo.map a.eval) (hi.map a.eval) none).run A.C.P w=.ok (m.toNat,n.toNat,D) w:=by
  intro z len D k m I n hlc J O W h4 h5;have e2:∀y,hi=some y->a.eval y=.int I n:=fun y N=>by
   have:=Z y N;subst N;rw[show ev s.t y=_ from O]at this;exact this.bS
  have e1:∀y,lo=some y->a.eval y=.int k m:=fun y N=>by
   have:=Y y N;subst N;rw[show ev s.t y=_ from J]at this;exact this.bS
  have nb:((n.toNat:Nat):Int)=n:=by omega
  cases hi with
  | some yh=>
   have e2:=e2 yh rfl;cases lo with
   | some R=>
    have e1:=e1 R rfl;cases z<;>simp[Instr.sliceBounds,e1,e2,gv I n D _ ⟨by omega,by omega⟩,gv k m n.toNat _ ⟨W,by omega⟩]
   | none=>
    have U:m=0:=by simp at J;exact J.2.symm
    subst U;cases z<;>simp[Instr.sliceBounds,e2,gv I n D _ ⟨by omega,by omega⟩]
  | none=>
   have we:n=len:=by simp at O;exact O.2.symm
   subst we;cases lo with
   | some R=>
    have e1:=e1 R rfl;cases z<;>simp[Instr.sliceBounds,e1,gv k m len _ ⟨W,by omega⟩]
   | none=>
    have U:m=0:=by simp at J;exact J.2.symm
    subst U;cases z<;>simp[Instr.sliceBounds]
theorem JB{o:Oper}(t:TypeId)(x:Operand)(lo hi:Option Operand)(U:o.op=.slice t x lo hi none){S:Nat->Prop}{a:Act}{K:KK}{next:Act->World->Prop}{Q:Exit->Act->World->Prop}(hC:bI A.C)(I:b7 A V L S rho s a w)
  (hV:∀j,(.tmp j)∈o.op.operands->V j) (hd:∀d,o.dst=some d->d<A.n) (z:gm A.C (ev s.t) s.h t x lo hi K)
  (J:∀v eff new S' rho' a' w',K v eff new->b7 A (xY V o.dst) (Cg L new (o.dst.getD 0)) S' rho' ⟨fx s.t o.dst v,app s.h eff⟩ a' w'->next a' w'):o.wp A.C.P a w next Q:=by
 simp only[gm]at z;have hx:=bp I x fun j W=>hV j (by simp[U,Op.operands,W]);have Ik:∀y,lo=some y->aY S w A.C.P L rho s.h (ev s.t y) (a.eval y):=fun y hy=>bp I y fun j W=>hV j (by simp[U,Op.operands,W,hy]);have Il:∀y,hi=some y->aY S w A.C.P L rho s.h (ev s.t y) (a.eval y):=fun y hy=>bp I y fun j W=>hV j (by simp[U,Op.operands,W,hy]);have D:∀(N:Bool) (len R:Nat) (k:IntKind) (m:Int) (Y:IntKind) (n:Int),len<=R->(match lo with | some y=>ev s.t y | none=>.p (.im (.int .i64 0)))=.p (.im (.int k m))->(match hi with | some y=>ev s.t y | none=>.p (.im (.int .i64 len)))=.p (.im (.int Y n))->0<=m->m<=n->n<=len ->
   (Instr.sliceBounds N len R (lo.map a.eval) (hi.map a.eval) none).run A.C.P w=.ok (m.toNat,n.toNat,R) w:=by
  exact ya I lo hi Ik Il
 split at z
 ·rename_i size bytes zero eq hT;have Z:=(hC.iq t _ hT).under;simp only at Z;split at z
  ·rename_i st xl;rw[xl]at hx;split at z
   ·rename_i k m Y n h1 h2;obtain⟨⟨h3,h4,h5⟩,z⟩:=z;have hb:=D false st.size st.size k m Y n (aam _) h1 h2 h3 h4 h5;exact aM I hd J z (.p _ _ (.im _)) (by simp[execOp,U,Instr.sliceAt,Instr.slice,hx.bS,run_underlying Z,hb])
   exact z.elim
  exact z.elim
 ·rename_i e size bytes zero eq hT;have Z:=(hC.iq t _ hT).under;simp only at Z;split at z
  ·exact z.elim
  rename_i te u9;obtain⟨ie,ze,pO,Ao,_⟩:=(hC.iq e te u9).info;obtain⟨y,fz,S2,z,bu,O,xC,hF,DI⟩:=ir hC I (pY.refl s.h) hx z;split at z
  ·rename_i es;split at z
   ·rename_i k m Y n h1 h2;obtain⟨⟨h3,h4,h5,h6⟩,z⟩:=z;obtain⟨ad,c,hv,hle,_⟩:=O.oL;have hb:=D true es.length c k m Y n hle h1 h2 h3 h4 h5;rw[hv]at O;refine A3 bu hd J z (.p _ _ (O.OL (sz:=te.size) (l:=m.toNat) (h:=n.toNat) (by omega) (by omega) hle fun b off kk V2 l_ eF=>?_)) ?_
    ·have hpos:0<es.length:=by omega
     have hm:es[0]∈es:=adn _;rw[<-l_ _ hm,h6 _ hm]
    simp[execOp,U,Instr.sliceAt,Instr.slice,hv,run_underlying Z,hb,Go.sizeOf,typeInfo,pO,Ao]
   exact z.elim
  exact z.elim
 exact z.elim
structure Flat(S:Nat->Prop)(w:World)(k:Nat)(es:List (List PV))(xs:List Value):Prop where
 len:xs.length=es.length*k
 row:∀r∈es,r.length=k
 one:∀u∈xs,u.oneCell'=true
 rep:∀(i:Nat) r (j:Nat) x,es[i]?=some r->r[j]?=some x->∃u,xs[i*k+j]?=some u/\aO S w x u
theorem Flat.mono{S S':Nat->Prop}{w':World}{k:Nat}{xs:List Value}(h:Flat S w k es xs)(hS:∀b,S b->S' b)(z:∀b,S b->w'.heap[b]?=w.heap[b]?):Flat S' w' k es xs:=
 ⟨h.len,h.row,h.one,fun i r j x D I=>by obtain⟨u,J,N⟩:=h.rep i r j x D I;exact⟨u,J,N.mono hS z⟩⟩
theorem Flat.app{S:Nat->Prop}{k:Nat}{fs:List (List PV)}{xs ys:List Value}(h:Flat S w k es xs)(g:Flat S w k fs ys):Flat S w k (es++fs) (xs++ys):=by
 refine⟨by rw[acv,acv,h.len,g.len,abR],fun r N=>(abi.1 N).elim (h.row r) (g.row r),fun u O=>(abi.1 O).elim (h.one u) (g.one u),fun i r j x D J=>?_⟩;by_cases hi:i<es.length
 ·rw[aaE hi]at D;obtain⟨u,z,I⟩:=h.rep i r j x D J;exact⟨u,by rw[aaE (aD z)];exact z,I⟩
 rw[acu (by omega)]at D;obtain⟨u,z,I⟩:=g.rep _ r j x D J;refine⟨u,?_,I⟩;have hm:es.length*k<=i*k:=abf _ (by omega);rw[acu (by rw[h.len];omega),h.len];rw[Nat.sub_mul]at z;rw[<-z];congr 1;omega
theorem Flat.set{S:Nat->Prop}{k:Nat}{xs:List Value}(h:Flat S w k es xs)(i:Nat)(hi:i<es.length)(ys:List PV)(vs:List Value)(R:ys.length=k)(U:vs.length=k)(W:∀u∈vs,u.oneCell'=true)(I:∀(j:Nat) y u,ys[j]?=some y->vs[j]?=some u->aO S w y u):
  Flat S w k (es.set i ys) (setCells xs (i*k) vs):=by
 have hb:i*k+k<=xs.length:=by rw[h.len,<-aa3];exact abf _ hi
 have O:=fun j=>d_ vs xs (i*k) j (by rw[U];exact hb);refine⟨by rw[cW,aaM,h.len],fun r I=>?_,fun u Y=>?_,fun a r j x D z=>?_⟩
 ·rcases abg I with h' | h'
  ·exact h.row r h'
  rw[h'];exact R
 ·obtain⟨j,z⟩:=ab8.1 Y;rw[O]at z;split at z
  ·exact W u (aad z)
  exact h.one u (aad z)
 have sw:=aD z;rw[O];by_cases J:a=i
 ·subst J;rw[ab7 hi]at D;injection D with D;subst D;rw[aap (by omega),show a*k+j-a*k=j by omega];have:j<vs.length:=by omega
  exact⟨_,acg this,I j x _ z (acg this)⟩
 rw[ac5 (fun e=>J e.symm)]at D;have xj:=h.row r (aad D);rw[aaa]
 ·exact h.rep a r j x D z
 rintro⟨h2,h3⟩;rcases aa4 J with N | N
 ·have:=abf k (adm N);rw[aa3]at this;omega
 have:=abf k (adm N);rw[aa3]at this;omega
theorem Flat.zero(I:Bool)(S:Nat->Prop)(w:World){P:Program}{t:TypeId}{ti:TI}(h:nV P t ti)(hk:0<ti.size)(n:Nat):Flat S w ti.size (List.replicate n (ti.zero.map (To I))) ((Array.range (n*ti.size)).map (ti.zero.toArray[· % ti.zero.toArray.size]!)).toList:=by
 have D:=h.Lx;obtain⟨_,_,_,_,_,_,_,R⟩:=h.info;have O:∀j,j<n*ti.size->((Array.range (n*ti.size)).map (ti.zero.toArray[· % ti.zero.toArray.size]!)).toList[j]?=ti.zero[j % ti.size]?:=by
  intro j z;have U:j % ti.size<ti.zero.length:=by rw[D];exact abt _ hk
  simp[z,D];rw[acg U];rfl
 refine⟨by simp,fun r J=>by rw[ado J,aej,D],fun u W=>?_,fun i r j x hi z=>?_⟩
 ·obtain⟨j,z⟩:=ab8.1 W;have N:=aD z;rw[O j (by simpa using N)]at z;exact R u (aad z)
 have Y:i<n:=by have:=aD hi;simpa using this
 have J:r=ti.zero.map (To I):=ado (aad hi);subst J;have N:j<ti.size:=by have:=aD z;rw[aej,D]at this;exact this
 rw[aak]at z;obtain⟨v,Z,rfl⟩:=acq.1 z;have hb:i*ti.size+j<n*ti.size:=by
  have:=abf ti.size (adm Y);rw[aa3]at this;omega
 refine⟨v,?_,Ie I S w v⟩;rw[O _ hb,Nat.mul_comm,Nat.mul_add_mod,Nat.mod_eq_of_lt N];exact Z
variable {e:TypeId}
theorem aG.of_flat{P:Program}{S:Nat->Prop}{i:TypeInfo}{v:Value}{xs:List Value}(hi:P.info? e=some i)(hk:0<i.size)(D:w.ownsRow 0 e i.size v es.length xs)(z:Flat S w i.size es xs):aG P w (aO S w) e es v:=
 ⟨i,xs,hi,hk,D,z.row,z.one,z.rep⟩
theorem aG.flat{P:Program}{S:Nat->Prop}{i:TypeInfo}{v:Value}(hi:P.info? e=some i)(h:aG P w (aO S w) e es v):∃xs,0<i.size/\w.ownsRow 0 e i.size v es.length xs/\Flat S w i.size es xs:=by
 obtain⟨i',xs,z,I,D,J,N,O⟩:=h;rw[hi]at z;injection z with z;subst z;exact⟨xs,I,D,⟨D.1,J,N,O⟩⟩
theorem aO.flat{S:Nat->Prop}{v:Value}{k:Nat}(hx:aO S w (.sl es) v)(hk:∀r∈es,r.length=k):∃U c xs,v=.slice U es.length c/\Flat S w k es xs/\(es≠[]->∃b off,U=some ⟨b,off,none⟩/\∀(j:Nat) u,xs[j]?=some u->w.cell? ⟨b,off+j,none⟩=some u):=by
 obtain⟨U,c,Z,hle,b8⟩:=hx.oL;by_cases W:es=[]
 ·subst W;exact⟨U,c,[],Z,⟨by simp,by simp,by simp,by simp⟩,fun h=>absurd rfl h⟩
 obtain⟨b,off,z,rfl,hb,Qt,D⟩:=b8 W;have RD:z=k:=by
  obtain⟨r,Y⟩:=aae _ W;rw[<-Qt r Y,hk r Y]
 subst RD;have key:∀q,q<es.length*z->∃u,w.cell? ⟨b,off+q,none⟩=some u/\u.oneCell'=true:=by
  intro q N;have Im:0<z:=Nat.pos_of_ne_zero fun h=>by rw[h]at N;simp at N
  have hi:q / z < es.length:=(Nat.div_lt_iff_lt_mul Im).2 N;have O:q % z < z:=abt _ Im;have Y:=hk _ (adn hi);obtain⟨u,I,J,_⟩:=D (q / z) _ (q % z) _ (acg hi) (acg (by omega));refine⟨u,?_,J⟩;rw[<-I];congr 2;have:=Nat.div_add_mod q z;rw[Nat.mul_comm]at this;omega
 refine⟨_,c,(List.range (es.length*z)).map fun q=>(w.cell? ⟨b,off+q,none⟩).getD undef,Z,⟨by simp,hk,fun u hu=>?_,fun i r j x I J=>?_⟩,fun _=>⟨b,off,rfl,fun j u O=>?_⟩⟩
 ·simp at hu;obtain⟨q,N,rfl⟩:=hu;obtain⟨u,I,J⟩:=key q N;rw[I];exact J
 ·obtain⟨u,h3,h4,h5⟩:=D i r j x I J;refine⟨u,?_,h5⟩;have xD:=aD I;have R:=aD J;rw[hk r (aad I)]at R;have oE:i*z+j<es.length*z:=by
   have:=abf z (adm xD);rw[aa3]at this;omega
  rw[aak,abP oE];simp only[ab6];rw[<-aaX,h3];rfl
 have R:=aD O;simp at R;rw[aak,abP R]at O;obtain⟨u',I,_⟩:=key j R;simp[I]at O;rw[I,O]
def Src(S:Nat->Prop)(w:World)(es:List (List PV))(v:Value):Prop:=
 ∀k,(∀r∈es,r.length=k)->∃ad c xs,v=.slice ad es.length c/\Flat S w k es xs/\(es≠[]->∃b off,ad=some ⟨b,off,none⟩/\∀(j:Nat) u,xs[j]?=some u->w.cell? ⟨b,off+j,none⟩=some u)
theorem aG.src{P:Program}{S:Nat->Prop}{v:Value}(h:aG P w (aO S w) e es v):Src S w es v:=by
 intro k hk;obtain⟨i,xs,h1,h2,D,N,U,W⟩:=h;by_cases I:es=[]
 ·subst I;rcases D.2 with⟨rfl,_⟩ | ⟨g,z,J,rfl,_⟩
  ·exact⟨none,0,[],rfl,⟨by simp,by simp,by simp,by simp⟩,fun h=>absurd rfl h⟩
  exact⟨_,z,[],rfl,⟨by simp,by simp,by simp,by simp⟩,fun h=>absurd rfl h⟩
 have Y:k=i.size:=by
  obtain⟨r,O⟩:=aae _ I;rw[<-hk r O,N r O]
 subst Y;rcases D.2 with⟨_,Z⟩ | ⟨g,z,J,R,_⟩
 ·exact absurd (adl Z) I
 refine⟨_,z,xs,R,⟨D.1,N,U,W⟩,fun _=>⟨g,0,rfl,fun j u hj=>?_⟩⟩;have:=D.cells (g:=g) (by rw[R];rfl) j u hj;rw[aaJ]at this;exact this
theorem Gc{S:Nat->Prop}{a:Act}(D:b7 A V L S rho s a w){x:AV}{v:Value}(J:aY S w A.C.P L rho s.h x v){K:List (List PV)->Prop}(z:gH s.h x K):∃es,K es/\Src S w es v:=by
 unfold gH at z;split at z
 ·exact⟨_,z,fun k hk=>J.eR.flat hk⟩
 ·have:v=.slice none 0 0:=by cases J;rfl
  exact⟨[],z,fun k hk=>⟨none,0,[],this,⟨by simp,by simp,by simp,by simp⟩,fun h=>absurd rfl h⟩⟩
 ·rename_i id;split at z
  ·rename_i e es az;obtain⟨N,O⟩:=J.cH (by rw[az];trivial);have I:=D.hp id N;rw[az]at I;exact⟨es,z,by rw[O];exact aG.src I⟩
  ·rename_i es az;obtain⟨N,O⟩:=J.cH (by rw[az];trivial);have I:=D.hp id N;rw[az]at I;exact⟨es,z,by rw[O];exact fun k hk=>aO.flat I hk⟩
  exact z.elim
 exact z.elim
theorem rO{P:Program}(w:World)(t Z e:TypeId)(i:TypeInfo)(z:Value)(W:P.underlying t=some (.slice e))(hi:P.info? e=some i)(hz:i.zero=some z)(WM:z.cells.size=i.size)(hsz:0<i.size)
  (v:Value) (n:Nat) (xs:List Value) (hown:w.ownsRow 0 e i.size v n xs) (ad:Option Addr) (m c:Nat) (D:List Value) (hl:D.length=m*i.size)
  (O:m≠0->∃b off,ad=some ⟨b,off,none⟩/\∀(j:Nat) u,D[j]?=some u->w.cell? ⟨b,off+j,none⟩=some u) (h1:∀u∈D,u.oneCell'=true) (OM:n+m<=maxLen) (R:(n+m)*i.bytes<=140737488355328):
  ∃Y w',(Builtin.append_ #[t,t] Z #[v,.slice ad m c]).run P w=.ok Y w'/\w'.ownsRow 0 e i.size Y (n+m) (xs++D)/\w.grownBy w' v.ownBlock/\(Y.ownBlock=v.ownBlock\/Y.ownBlock=some w.heap.size):=by
 by_cases hm:m=0
 ·subst hm;have hn:D=[]:=adl (by simpa using hl);subst hn;refine⟨v,w,?_,by simpa using hown,⟨rfl,rfl,rfl,aam _,fun _ _ _=>rfl⟩,.inl rfl⟩;have hf:(Builtin.firstCells i.size 0 (.slice ad 0 c)).run P w=.ok #[] w:=by cases ad<;>simp[Builtin.firstCells,loadCells,loadCellsFrom]
  rcases hown.2 with⟨rfl,rfl⟩ | ⟨g,J,U,rfl,_,_,Qq,_⟩
  ·simp[Builtin.append_,run_underlying W,sizeOf,typeInfo,hi,Builtin.lenOf,hf]
  simp[Builtin.append_,run_underlying W,sizeOf,typeInfo,hi,Builtin.lenOf,Qq,hf,storeCells]
 obtain⟨b,off,rfl,hc⟩:=O hm;have N:∀(j:Nat) u,D[j]?=some u->w.cell? ((⟨b,off,none⟩:Addr).add j)=some u:=fun j u hj=>by rw[aaJ];exact hc j u hj
 obtain⟨Y,w',hr,h2,h3,_⟩:=run_append_own (P:=P) w 0 t Z e i z i.size i.bytes W hi hz rfl rfl WM hsz v n xs hown ⟨b,off,none⟩ m c D hl N h1 OM R (aaj _);refine⟨Y,w',hr,h2,h3,?_⟩;have RE:n+m<=9223372036854775807:=by simp only[maxLen]at OM;omega
 rcases hown.2 with⟨rfl,rfl⟩ | ⟨g,J,U,rfl,_,hg,Qq,WN,pN,Qu⟩
 ·have I:=run_append_nil (P:=P) w t Z e i z W hi hz ⟨b,off,none⟩ m c D hl N (by omega) (by omega) (by have hb:=R;simp only[abC]at hb;omega);rw[hr]at I;injection I with I;rw[I];exact .inr rfl
 by_cases Io:n+m<=J
 ·have WO:n*i.size+D.length<=U.size:=by rw[hl,pN,<-abR];exact abf _ Io
  have I:=run_append_room (P:=P) w t Z e i W hi g n J U hg ⟨b,off,none⟩ m c D hl N h1 Io WO;rw[hr]at I;injection I with I;rw[I];exact .inl rfl
 have I:=run_append_grow (P:=P) w t Z e i z W hi hz ⟨g,0,none⟩ n J xs hown.1 (hown.cells (g:=g) rfl) ⟨b,off,none⟩ m c D hl N (by omega) (by omega) (growslice_fits (by omega) R);rw[hr]at I;injection I with I;rw[I];exact .inr rfl
theorem cI{v:Value}{a:Option Addr}{n c:Nat}(h:v=.slice a n c):v.ownBlock=cC v:=by
 subst h;cases a<;>rfl
theorem cr{base:Nat}{size:Nat}{v:Value}{n:Nat}{xs:List Value}(h:w.ownsRow base e size v n xs):∃a c,v=.slice a n c:=by
 rcases h.2 with⟨rfl,rfl⟩ | ⟨g,z,cur,rfl,_⟩
 ·exact⟨none,0,rfl⟩
 exact⟨_,z,rfl⟩
theorem q9{es:List (List HX)}{v:Value}{k:Nat}{Y:List Value}(hown:w.ownsRow 0 e k v es.length Y)(hk:∀r∈es,r.length=k){g:Nat}(N:cC v=some g){a j:Nat}{u:Value}:
  dF w es g a j u↔∃r e' J,es[a]?=some r/\r[j]?=some (.row e' J)/\Y[a*k+j]?=some u:=by
 rcases hown.2 with⟨hn,_⟩ | ⟨g',cap,O,hv,_,Z,k1,k2,k3,k4⟩
 ·rw[hn]at N;cases N
 rw[hv]at N;obtain rfl:=iP.1 N;have YS:∀{r:List HX} {x:HX},es[a]?=some r->r[j]?=some x->r.length=k/\a*k+j<es.length*k:=fun {r x} D I=>by
  have hr:=hk r (aad D);have z:=aD D;have R:=aD I;have:=abf k (adm z);rw[aa3]at this;exact⟨hr,by omega⟩
 constructor
 ·rintro⟨r,e',J,c,ty,m,D,I,z,R⟩;rw[Z]at z;injection z with z;injection z with z;subst z;obtain⟨U,W⟩:=YS D I;refine⟨r,e',J,D,I,?_⟩;rw[<-k4,aa0 W];rw[U]at R;simpa using R
 rintro⟨r,e',J,D,I,z⟩;obtain⟨U,W⟩:=YS D I;refine⟨r,e',J,O,_,_,D,I,Z,?_⟩;rw[<-k4,aa0 W]at z;rw[U];simpa using z
theorem b7.WQ{S:Nat->Prop}{a:Act}(J:b7 A V L S rho s a w)(hC:bI A.C){id d:Nat}(mc:L id){xs:List (List HX)}(az:s.h id=.az e xs){ys:List (List PV)}{Y:TypeInfo}(pO:A.C.P.info? e=some Y)
  (hdb:d<100000) (hL:¬L d) (hb:s.h d=.az e (xs++ys.map s9)) {N:List Value} (LK:Flat S w Y.size ys N) {v':Value} {w':World} {ws:List Value} (hown:w.ownsRow 0 e Y.size (rho id) xs.length ws) (h2:w'.ownsRow 0 e Y.size v' (xs.length+ys.length) (ws++N)) (h3:w.grownBy w' (cC (rho id))) (h4:cC v'=cC (rho id)\/cC v'=some w.heap.size):
  b7 A V (fun i=>L i\/i=d) S (aT rho d v') ⟨s.t,aT s.h id .none⟩ a w':=by
 have bY:(s.h id).live:=by rw[az];trivial
 have RF:id≠d:=fun e=>hL (e▸mc);have hh:=J.hp id mc;rw[az]at hh;obtain⟨hR,hS⟩:=hh;have Tt:=hS.LF hR;obtain⟨i0,TW,k1,k2,k3,k4,k5,k6⟩:=Tt;rw[pO]at k1;injection k1 with k1;subst k1;have WI:TW=ws:=by
  rcases k3.2 with⟨D,U⟩ | ⟨g,cap,cur,D,_,W,q4,q5,q6,q7⟩
  ·have a1:TW=[]:=adl (by rw[k3.1,U];simp);have a2:ws=[]:=adl (by rw[hown.1,U];simp);rw[a1,a2]
  rcases hown.2 with⟨r1,_⟩ | ⟨g',aah,Rx,r1,_,r3,r4,r5,r6,r7⟩
  ·rw[r1]at D;cases D
  rw[r1]at D;injection D with D;injection D with D;injection D with D;subst D;rw[W]at r3;injection r3 with r3;injection r3 with r3;subst r3;rw[<-q7,<-r7]
 subst WI;have RG:∀r∈ys.map s9,r.length=Y.size:=fun r hr=>by
  obtain⟨q,hq,rfl⟩:=adS.1 hr;rw[s9,aej];exact LK.row q hq
 have Ip:∀r∈xs++ys.map s9,r.length=Y.size:=fun r hr=>(abi.1 hr).elim (k4 r) (RG r);have tx:w'.ownsRow 0 e Y.size v' (xs++ys.map s9).length (TW++N):=by rw[acv,aej];exact h2
 have TX:TW.length=xs.length*Y.size:=k3.1;have f_:∀g' k j u,cC v'=some g'->dF w' (xs++ys.map s9) g' k j u->∃g,cC (rho id)=some g/\dF w xs g k j u:=fun g' k j u nS hc=>by
  obtain⟨r,e',rN,D,U,W⟩:=(q9 tx Ip nS).1 hc;by_cases hk:k<xs.length
  ·rw[aaE hk]at D;have sw:=aD U;have xj:=k4 r (aad D);have:=abf Y.size (adm hk);rw[aa3]at this;rw[aaE (by omega)]at W;obtain⟨g,u2,O,g2,_⟩:=hR.DO D U;refine⟨g,O,(q9 k3 k4 O).2 ⟨r,e',rN,D,U,W⟩⟩
  rw[acu (by omega),aak]at D;obtain⟨q,_,rfl⟩:=acq.1 D;rw[s9,aak]at U;obtain⟨z,_,hz⟩:=acq.1 U;cases hz
 have RH:∀g k j u b,cC (rho id)=some g->dF w xs g k j u->cC u=some b->hasB w (s.h id) (rho id) b:=fun g k j u b h1 h5 h6=>by rw[az];exact .inr (.inr ⟨_,_,_,_,_,_,rfl,h1,h5,h6⟩)
 have T0:lB S S w w L L rho rho s.h (aT s.h id .none):=⟨fun _ h=>h,fun _ _=>rfl,fun j R=>⟨by
   rcases aW s.h id .none j with⟨rfl,h⟩ | ⟨_,h⟩
   ·rw[h]at R;exact R.elim
   ·rw[h]at R;exact R,fun h=>⟨h,rfl⟩⟩,fun j e' R=>by
   rcases aW s.h id .none j with⟨rfl,h⟩ | ⟨_,h⟩
   ·rw[h]at R;cases R
   rw[h]at R;exact R⟩
 have Qv:∀k,k<w.heap.size->cC (rho id)≠some k->w'.heap[k]?=w.heap[k]?:=fun k hk hn=>h3.block k hk fun e=>hn e.symm;refine (J.kill id).qd hC d (.az e (xs++ys.map s9)) hdb hL (by show aT s.h id .none d=_;rw[aV _ _ RF.symm];exact hb) w' h3.os h3.tape h3.output h3.size (fun k=>hasB w (s.h id) (rho id) k) (fun k hk hn=>Qv k hk fun h=>hn (.inl h)) (fun k hk=>?_) v' (fun g I=>?_) (fun T=>?_)
 ·obtain⟨D,U,W⟩:=J.lv id k mc bY hk;refine⟨U,fun i hi li eM=>?_,W⟩;have nT:(aT s.h id .none i).live:=li;rcases aW s.h id .none i with⟨rfl,h⟩ | ⟨b8,h⟩
  ·rw[h]at nT;exact nT.elim
  rw[h]at nT;exact b8 (J.dj i id k hi mc nT bY (aeG b8 eM) hk)
 ·rcases I with I | ⟨cs,g',h,_⟩ | ⟨e',de,g',k',j,u,D,U,W,q4⟩
  ·obtain⟨a1,c1,Gd⟩:=cr h2;refine⟨(h2.lt g (by rw[cI Gd];exact I)).2,?_⟩;rcases h4 with h | h
   ·exact .inr (.inl (h▸I))
   rw[h]at I;injection I with I;exact .inl (by omega)
  ·cases h
  injection D with D q1';subst D q1';obtain⟨g0,O,g2⟩:=f_ _ _ _ _ U W;have WR:=RH _ _ _ _ _ O g2 q4;exact⟨aaW (J.lv id g mc bY WR).1 h3.size,.inr WR⟩
 show aG _ _ _ _ _ (aT rho d v' d)/\uZ _ _ (aT rho d v' d);rw[aH];refine⟨⟨Y,TW++N,pO,k2,tx,Ip,fun u hu=>(abi.1 hu).elim (k5 u) (LK.one u),fun p r j x hp R=>?_⟩,fun g k j u b I hc Z=>?_,fun g k j k' j' u u' b I hc hc' JC oE=>?_⟩
 ·by_cases hk:p<xs.length
  ·rw[aaE hk]at hp;obtain⟨u,hu,An,WS⟩:=k6 p r j x hp R;refine⟨u,by rw[aaE (aD hu)];exact hu,?_⟩;cases x with
   | av x=>exact aY.cK T (aY.cK T0 An)
   | row e' rN=>
    refine aG.cK (show aG _ _ _ _ _ _ from An) (fun b Z=>Qv b ?_ fun h=>WS _ _ rfl b b h Z rfl) (fun x u hu=>hu.mono T.hS T.keep);obtain⟨g,u2,O,g2,_⟩:=hR.DO hp R;have:u2=u:=by
     obtain⟨r',_,_,D,U,W⟩:=(q9 k3 k4 O).1 g2;rw[hu]at W;injection W with W;exact W.symm
    subst this;exact (J.lv id b mc bY (RH _ _ _ _ _ O g2 Z)).1
  rw[acu (by omega),aak]at hp;obtain⟨q,hq,rfl⟩:=acq.1 hp;rw[s9,aak]at R;obtain⟨z,hz,rfl⟩:=acq.1 R;obtain⟨u,hu,An⟩:=LK.rep _ _ _ _ hq hz;refine⟨u,?_,xy (An.mono T.hS T.keep)⟩;have hm:xs.length*Y.size<=p*Y.size:=abf _ (by omega);rw[acu (by rw[TX];omega),TX];rw[Nat.sub_mul]at hu;rw[<-hu];congr 1;omega
 ·obtain⟨g0,O,g2⟩:=f_ _ _ _ _ I hc;rcases h4 with h | h
  ·rw[h,O]at I;injection I with I;subst I;exact hS.top _ _ _ _ _ O g2 Z
  rw[h]at I;injection I with I;have:=(J.lv id b mc bY (RH _ _ _ _ _ O g2 Z)).1;omega
 obtain⟨g0,O,g2⟩:=f_ _ _ _ _ I hc;obtain⟨g0',V3,g2'⟩:=f_ _ _ _ _ I hc';rw[O]at V3;injection V3 with V3;subst V3;exact hS.dis _ _ _ _ _ _ _ _ O g2 g2' JC oE
theorem JD{o:Oper}(c:Call)(aK:o.op=.call c)(hc:c.callee=.builtin .append):iE A o:=by
 intro V L S rho s a w K next Q hC D hV hd z hn J
 obtain⟨callee,args,argTypes⟩:=c;simp only at hc;subst hc;simp only[bV,aK,aeC,fy]at z;split at z
 ·rename_i x y t t' N LJ;have hx:=bp D x fun j hj=>hV j (by simp[aK,Op.operands,Call.operands,hj];rw[<-hj];exact aal.1 (by rw[N];simp));have hy:=bp D y fun j hj=>hV j (by simp[aK,Op.operands,Call.operands,hj];rw[<-hj];exact aal.1 (by rw[N];simp));have e1:args=#[x,y]:=by rw[<-aaY (xs:=args),N]
  have e2:argTypes=#[t,t']:=by rw[<-aaY (xs:=argTypes),LJ]
  subst e1 e2;split at z
  ·rename_i e size bytes zero eq WT hT;have WT:=ahS WT;subst WT;have fK:=(hC.iq t _ hT).under;simp only at fK;split at z
   ·rename_i te u9;obtain⟨ie,ze,pO,Ao,On,ON,OO,jg⟩:=(hC.iq e te u9).info;have V4:=(hC.iq e te u9).Lx;split at z
    ·rename_i I;have I:0<ie.size:=by rw[Ao];exact abA I
     obtain⟨ys,z,TY⟩:=Gc D hy z;have main:∀(xs:List (List PV)) (v:Value) (ws:List Value) (s2:AS),a.eval x=v->w.ownsRow 0 e ie.size v xs.length ws->Flat S w ie.size xs ws->(∀r∈ys,r.length=te.size)->(xs.length+ys.length)*te.bytes<=140737488355328->xs.length+ys.length<=140737488355328 ->
       b7 A V L S rho s2 a w->(∀g,cC v=some g->¬S g/\(∀i,L i->(s2.h i).live->¬hasB w (s2.h i) (rho i) g)/\(A.mv g\/A.w0.heap.size<=g))->¬L (o.dst.getD 0)->s2.h (o.dst.getD 0)=.row e (xs++ys)->
       ∃Y w' rho',(execOp a.eval o).run A.C.P w=.ok (.value Y) w'/\b7 A V (fun i=>L i\/i=o.dst.getD 0) S rho' s2 a w'/\Y=rho' (o.dst.getD 0):=by
      intro xs v ws s2 hv hown wg hlen JC oE bu hR hL hb;obtain⟨ad,c',R,WU,LK,O⟩:=TY ie.size (fun r U=>by rw[hlen r U,Ao]);obtain⟨Y,w',U,h2,W,h4⟩:=rO (P:=A.C.P) w t o.type e ie ze fK pO ON (by rw[OO];simp[V4,Ao]) I v xs.length ws hown ad ys.length c' R LK.len
       (fun h0=>O (fun e=>h0 (by rw[e];rfl))) LK.one (by simp only[maxLen];omega) (by rw[On];exact JC)
      obtain⟨a0,c0,TZ⟩:=cr hown;obtain⟨a1,c1,Gd⟩:=cr h2;rw[cI TZ]at W h4;rw[cI Gd]at h4;refine⟨Y,w',aT rho (o.dst.getD 0) Y,by simp[execOp,aK,resolve,invoke,builtin,hv,WU,U],?_,(aH _ _ _).symm⟩;refine bu.new hC (o.dst.getD 0) _ (bu.pP hd) hL hb w' W.os W.tape W.output W.size (fun k=>cC v=some k) (fun k hk T1=>W.block k hk (fun e=>T1 e.symm)) (fun k hk=>hR k hk) Y (fun g Z=>?_) (fun T=>?_)
      ·refine⟨(h2.lt g (by rw[cI Gd];exact Z)).2,?_⟩;rcases h4 with h | h
       ·exact .inr (h▸Z)
       rw[h]at Z;injection Z with Z;exact .inl (by omega)
      show aG A.C.P w' (aO S w') e (xs++ys) (aT rho (o.dst.getD 0) Y (o.dst.getD 0));rw[aH];exact aG.of_flat pO I (by rw[acv];exact h2) ((wg.app LK).mono T.hS T.keep)
     split at z
     ·rename_i Rz;rw[Rz]at hx;have hv:a.eval x=.slice none 0 0:=by cases h:a.eval x<;>rw[h]at hx<;>cases hx;rfl
      obtain⟨⟨h1,h2,W⟩,z⟩:=z;obtain⟨hL,hb⟩:=hn _ _ _ z;obtain⟨Y,w',rho',U,bu,F9⟩:=main [] _ [] s hv ⟨by simp,.inl ⟨rfl,rfl⟩⟩ ⟨by simp,by simp,by simp,by simp⟩ h1 (by simpa using h2) (by simpa using W) D (fun g Z=>by simp[cC]at Z) hL (by simpa using hb);exact dW U (J _ _ _ S rho' _ _ z (bu.value o.dst hd _ _ (.ow _ _ fun _=>⟨.inr rfl,F9⟩)))
     ·rename_i id Rz;rw[Rz]at hx;split at z
      ·rename_i e' xs az;split at z
       ·rename_i u_;have u_:=ahS u_;subst u_;obtain⟨⟨h1,h2,W⟩,z⟩:=z;obtain⟨hL,hb⟩:=hn _ _ _ z;obtain⟨mc,hv⟩:=hx.cH (by rw[az];trivial);have hh:=D.hp id mc;rw[az]at hh;obtain⟨ws,_,hown,wg⟩:=aG.flat pO hh;have RF:id≠o.dst.getD 0:=fun e=>hL (e▸mc);have bY:(s.h id).live:=by rw[az];trivial
        obtain⟨Y,w',rho',U,bu,F9⟩:=main xs _ ws ⟨s.t,aT s.h id .none⟩ hv hown wg h1 h2 W (D.kill id) (fun g Z=>by
          obtain⟨k1,k2,k3⟩:=D.pM id g mc bY Z;refine⟨k2,fun i hi li eM=>?_,k3⟩;have nT:(aT s.h id .none i).live:=li;rcases aW s.h id .none i with⟨rfl,h⟩ | ⟨b8,h⟩
          ·rw[h]at nT;exact nT.elim
          rw[h]at nT;exact b8 (D.dj i id g hi mc nT bY (aeG b8 eM) (.inl Z))) hL (by show aT s.h id .none (o.dst.getD 0)=_;rw[aV _ _ RF.symm];exact hb)
        exact dW U (J _ _ _ S rho' _ _ z (bu.value o.dst hd _ _ (.ow _ _ fun _=>⟨.inr rfl,F9⟩)))
       exact z.elim
      ·rename_i e' xs az;split at z
       ·rename_i u_;have u_:=ahS u_;subst u_;obtain⟨⟨h1,h2,W⟩,z⟩:=z;obtain⟨hL,hb⟩:=hn _ _ _ z;obtain⟨mc,hv⟩:=hx.cH (by rw[az];trivial);have hh:=D.hp id mc;rw[az]at hh;obtain⟨⟨i0,ws,Tu,_,hown,_⟩,_⟩:=hh;rw[pO]at Tu;injection Tu with Tu;subst Tu;obtain⟨ad,c',R,WU,LK,O⟩:=TY ie.size (fun r U=>by rw[h1 r U,Ao]);obtain⟨Y,w',U,q2,q3,q4⟩:=rO (P:=A.C.P) w t o.type e' ie ze fK pO ON (by rw[OO];simp[V4,Ao]) I (rho id) xs.length ws hown ad ys.length c' R LK.len
         (fun h0=>O (fun e=>h0 (by rw[e];rfl))) LK.one (by simp only[maxLen];omega) (by rw[On];exact h2)
        obtain⟨a0,c0,TZ⟩:=cr hown;obtain⟨a1,c1,Gd⟩:=cr q2;rw[cI TZ]at q3 q4;rw[cI Gd]at q4;have bu:=D.WQ hC mc az pO (D.pP hd) hL hb LK hown q2 q3 q4;exact dW (by simp[execOp,aK,resolve,invoke,builtin,hv,WU,U]) (J _ _ _ S _ _ _ z (bu.value o.dst hd _ _ (.ow _ _ fun _=>⟨.inr rfl,(aH _ _ _).symm⟩)))
       exact z.elim
      exact z.elim
     exact z.elim
    exact z.elim
   exact z.elim
  exact z.elim
 exact z.elim
theorem Co{o:Oper}(t:TypeId)(x y:Operand)(U:o.op=.makeSlice t x y):iE A o:=by
 intro V L S rho s a w K next Q hC J hV hd z hn O
 simp only[bV,U]at z;have hx:=bp J x fun j N=>hV j (by simp[U,Op.operands,N]);have hy:=bp J y fun j N=>hV j (by simp[U,Op.operands,N]);split at z
 ·rename_i e size bytes zero eq k n k' c hT h1 h2;have fK:=(hC.iq t _ hT).under;simp only at fK;rw[h1]at hx;rw[h2]at hy;split at z
  ·rename_i D u9;obtain⟨R,Y,pO,Z,On,ON,OO,jg⟩:=(hC.iq e D u9).info;have V4:=(hC.iq e D u9).Lx;split at z
   ·rename_i I;have I:0<D.size:=abA I;obtain⟨⟨h0,Qq,hb,OM⟩,z⟩:=z;obtain⟨hL,hdb⟩:=hn _ _ _ z;have hr:=run_make (P:=A.C.P) w t e R Y fK pO ON k k' n c h0 Qq (by rw[On,Int.mul_comm];omega) OM;have wg:=Flat.zero (A.C.bn t) S (w.alloc (.cells (madeCells Y.cells (c.toNat*R.size)) e)) (hC.iq e D u9) I n.toNat;have key:∀(W:World) es xs,Flat S W D.size es xs->Flat S W R.size es xs:=fun W es xs h=>by rw[Z];exact h
    have hle:n.toNat*D.size<=c.toNat*D.size:=abf _ (by omega);have T2:((Array.range (n.toNat*D.size)).map (D.zero.toArray[· % D.zero.toArray.size]!)).toList=(madeCells Y.cells (c.toNat*R.size)).toList.take (n.toNat*D.size):=by
     apply ach;intro j;rw[aa7];split
     ·rename_i N;simp[madeCells,OO,Z,N,aaW N hle]
     rename_i N;rw[abI (by simpa using N)]
    have bu:=J.new hC (o.dst.getD 0) _ (J.pP hd) hL hdb (w.alloc (.cells (madeCells Y.cells (c.toNat*R.size)) e)) rfl rfl rfl (by simp) (fun _=>False) (fun k hk _=>acr _ _ _ hk) (fun _ h=>h.elim) (.slice (some ⟨w.heap.size,0,none⟩) n.toNat c.toNat)
     (fun g hg=>by simp[cC]at hg;subst hg;simp) (fun T=>by
      show aG A.C.P _ _ e _ (aT rho (o.dst.getD 0) _ (o.dst.getD 0));rw[aH];refine aG.of_flat pO (by omega) ?_ (key _ _ _ wg);rw[T2,<-Z];refine⟨by rw[aat,aan,abj,size_madeCells,Z];omega,.inr ⟨w.heap.size,c.toNat,_,by simp,aaj _,heap_alloc_new w _,by simp;omega,by simp only[maxLen];omega,size_madeCells _ _,by simp⟩⟩)
    exact dW (by simp only[execOp,U,hx.bS,hy.bS,aau,hr,ab5,aa6]) (O _ _ _ S _ _ _ z (bu.value o.dst hd _ _ (.ow _ _ fun _=>⟨.inr rfl,(aH _ _ _).symm⟩)))
   exact z.elim
  exact z.elim
 exact z.elim
end Go.AM
namespace Go.AM
open Go.RowKit
theorem LM(off:Nat):∀(vs:List Value) (k:Nat) (cs:Array Value),(vs.zipIdx k).foldl (fun (cs:Array Value) (x:Value×Nat)=>cs.setIfInBounds (off+x.2) x.1) cs=(setCells cs.toList (off+k) vs).toArray:=by
 intro vs
 induction vs with
 | nil=>intro k cs;simp[setCells]
 | cons v vs ih=>
  intro k cs;simp only[List.zipIdx_cons,aaq];rw[ih];simp[setCells,aaX]
theorem vc(z:Nat->Option (Nat×Nat))(cells:Array Value)(i:Nat)(v:Value)(rest:List (Nat×Value))(off size:Nat)(hp:z i=some (off,size))(D:v.cells.size=size)(hl:off+size<=cells.size):
  Instr.fill z cells ((i,v)::rest)=Instr.fill z (setCells cells.toList off v.cells.toList).toArray rest:=by
 rw[Instr.fill,hp];simp only;rw[aaa (by simp[D];omega)];congr 1;have:=LM off v.cells.toList 0 cells;rw[abQ]at this;rw[<-this,<-Array.foldl_toList,Array.toList_zipIdx]
structure iB(S:Nat->Prop)(w:World)(cs:List PV)(vs:List Value):Prop where
 len:vs.length=cs.length
 one:∀u∈vs,u.oneCell'=true
 rep:∀(j:Nat) x u,cs[j]?=some x->vs[j]?=some u->aO S w x u
variable {w:World}
theorem iB.mono{S S':Nat->Prop}{cs:List PV}{vs:List Value}(h:iB S w cs vs)(hS:∀b,S b->S' b):iB S' w cs vs:=
 ⟨h.len,h.one,fun j x u z D=>(h.rep j x u z D).mono hS (fun _ _=>rfl)⟩
theorem iB.set{S:Nat->Prop}{cs ys:List PV}{vs us:List Value}(h:iB S w cs vs)(g:iB S w ys us)(off:Nat)(hl:off+ys.length<=cs.length):iB S w (setCells cs off ys) (setCells vs off us):=by
 have e1:=fun j=>d_ ys cs off j hl;have e2:=fun j=>d_ us vs off j (by rw[g.len,h.len];exact hl);refine⟨by rw[cW,cW,h.len],fun u D=>?_,fun j x u z D=>?_⟩
 ·obtain⟨j,z⟩:=ab8.1 D;rw[e2]at z;split at z
  ·exact g.one u (aad z)
  exact h.one u (aad z)
 rw[e1]at z;rw[e2,g.len]at D;split at z
 ·rename_i I;rw[aap I]at D;exact g.rep _ x u z D
 rename_i I;rw[aaa I]at D;exact h.rep _ x u z D
theorem A4{S:Nat->Prop}{x:PV}{ys:List PV}{v:Value}(h:sg x=some ys)(z:aO S w x v):iB S w ys v.cells.toList:=by
 obtain⟨D,I,J⟩:=wc h z;exact⟨by simpa using D,I,fun j y u N O=>J j y u N (by simpa using O)⟩
variable {A:cD} {V L:Nat->Prop} {rho:Nat->Value} {fs:List (Nat×Nat×Bool)}
theorem JE(hC:bI A.C){t:Nat->AV}{a:Act}{h:Nat->AB}(z:Nat->Option (Nat×Nat))(hp:∀(i:Nat) f,fs[i]?=some f->z i=some (f.1,f.2.1)):
  ∀(ps:List (Nat×Operand)) (h':Nat->AB) (S:Nat->Prop) (cs:List PV) (vs:List Value) (K:List PV->List (Nat×AB)->Prop),(∀p∈ps,∀j,p.2=.tmp j->V j)->b7 A V L S rho ⟨t,h'⟩ a w->pY h h'->iB S w cs vs->jC h fs (ev t) ps cs K ->
  ∃O fz S' R,K O fz/\b7 A V L S' rho ⟨t,app h' fz⟩ a w/\pY h (app h' fz)/\iB S' w O R/\Instr.fill z vs.toArray (ps.map fun p=>(p.1,a.eval p.2))=some R.toArray/\(∀p∈fz,L p.1):=by
 intro ps
 induction ps with
 | nil=>intro h' S cs vs K _ I W U D;exact⟨cs,[],S,vs,D,I,W,U,rfl,by simp⟩
 | cons p ps ih=>
  intro h' S cs vs K Z I W U D;obtain⟨i,x⟩:=p;unfold jC at D;split at D
  ·rename_i off size ag OG;have hx:=bp I x fun j hj=>Z (i,x) (by simp) j hj;obtain⟨y,fz,S2,D,bu,J,xC,Lh,DI⟩:=ir hC I W hx D;split at D
   ·rename_i ys Ij;split at D
    ·rename_i Y;simp only[aaZ]at Y;have e1:=ahS Y.1;have e2:=kO Y.2;have N:=A4 Ij J;obtain⟨O,mY,S',R,k1,k2,k3,k4,k5,k9⟩:=ih (app h' fz) S2 _ _ _ (fun p hp=>Z p (by simp[hp])) bu Lh ((U.mono xC).set N off (by omega)) D;refine⟨O,fz++mY,S',R,k1,by rw[cy];exact k2,by rw[cy];exact k3,k4,?_,fun p hp=>(abi.1 hp).elim (DI p) (k9 p)⟩;rw[aa8,vc z _ i _ _ off size (hp i _ OG) (by simpa [e1] using N.len) (by simp[U.len];omega)];exact k5
    exact D.elim
   exact D.elim
  exact D.elim
theorem LN{P:Program}{t:TypeId}{size bytes:Nat}{zero:List Value}{eq:Bool}(Y:nV P t ⟨.st fs,size,bytes,zero,eq⟩){l:List (Nat×Value)}{Z:Array Value}
  (k5:Instr.fill (fun i=>(fs[i]?).map fun f=>(f.1,f.2.1)) zero.toArray l=some Z):P.built t l=some Z:=by
 obtain⟨info,z,hi,hsz,RI,hz,D,jg⟩:=Y.info;obtain⟨gs,tv,hl,hf⟩:=Y.under;simp only at D;have Cp:gs.toList.mapM (fun f=>(P.info? f.type).map fun i=>(f.offset,i.size))=some (fs.map fun f=>(f.1,f.2.1)):=by
  have O:∀(J:List Field) (I:List (Nat×Nat×Bool)),I.length=J.length->(∀(i:Nat) f g,I[i]?=some f->J[i]?=some g->f.1=g.offset/\(∃R,P.info? g.type=some R/\R.size=f.2.1))->J.mapM (fun f=>(P.info? f.type).map fun i=>(f.offset,i.size))=some (I.map fun f=>(f.1,f.2.1)):=by
   intro J
   induction J with
   | nil=>intro I N _;have:I=[]:=adl N;subst this;rfl
   | cons g J ih=>
    intro I N h2;cases I with
    | nil=>simp at N
    | cons f I=>
     obtain⟨e1,R,e2,e3⟩:=h2 0 f g rfl rfl;have:=ih I (by simpa using N) (fun i f g U W=>h2 (i+1) f g (by simpa using U) (by simpa using W));rw[aa5,e2,this];simp[e1,e3]
  exact O gs.toList fs (by simpa using hl) (fun i f g U W=>by
   obtain⟨e1,_,e2,_⟩:=hf i f g U (by simpa using W);exact⟨e1,e2⟩)
 unfold Program.built;rw[hi,tv];simp only[hz,Cp,D];rw[<-k5];congr 1;funext i;simp
theorem JF{S:Nat->Prop}{s:AS}{a:Act}(O:b7 A V L S rho s a w)(z:Nat->Option (Nat×Nat))(hp:∀(i:Nat) f,fs[i]?=some f->z i=some (f.1,f.2.1)):
  ∀(ps:List (Nat×Operand)) (cs:List AV) (vs:List Value) (K:List AV->Prop),(∀p∈ps,∀j,p.2=.tmp j->V j)->cs.length=vs.length->(∀u∈vs,u.oneCell'=true)->(∀(i:Nat) c u,cs[i]?=some c->vs[i]?=some u->aY S w A.C.P L rho s.h c u)->k_ s.h fs (ev s.t) ps cs K ->
  ∃(R:List AV) (N:List Value),K R/\R.length=N.length/\(∀u∈N,u.oneCell'=true)/\(∀(i:Nat) c u,R[i]?=some c->N[i]?=some u->aY S w A.C.P L rho s.h c u)/\Instr.fill z vs.toArray (ps.map fun p=>(p.1,a.eval p.2))=some N.toArray:=by
 intro ps
 induction ps with
 | nil=>intro cs vs K _ hl U W D;exact⟨cs,vs,D,hl,U,W,rfl⟩
 | cons p ps ih=>
  intro cs vs K Y hl U W D;obtain⟨i,x⟩:=p;unfold k_ at D;split at D
  ·rename_i off size ag OG;split at D
   ·rename_i Z;simp only[aaZ]at Z;obtain⟨⟨e1,e2⟩,e3⟩:=Z;have e1:=ahS e1;have e2:=kO e2;have hx:=bp O x fun j I=>Y (i,x) (by simp) j I;have o1:=q8 O e3 hx;have je:=cells_one o1;have hlen:off<vs.length:=by omega
    obtain⟨R,N,k1,k2,k3,k4,k5⟩:=ih (cs.set off (ev s.t x)) (vs.set off (a.eval x)) K (fun p hp=>Y p (by simp[hp])) (by simp[hl]) (fun u J=>by
      rcases abg J with h | h
      ·exact U u h
      ·rw[h];exact o1) (fun j c u I J=>by
      by_cases e:j=off
      ·subst e;rw[ab7 (by omega)]at I J;injection I with I;injection J with J;subst I J;exact hx
      rw[ac5 (fun e'=>e e'.symm)]at I J;exact W j c u I J) D
    refine⟨R,N,k1,k2,k3,k4,?_⟩;rw[aa8,vc z _ i _ _ off size (hp i _ OG) (by rw[je,e1];rfl) (by simp;omega),je];exact k5
   exact D.elim
  exact D.elim
theorem LO{o:Oper}(t:TypeId)(ps:Array (Nat×Operand))(aK:o.op=.build t ps):iE A o:=by
 intro V L S rho s a w K next Q hC R hV hd U _ I
 simp only[bV,aK]at U;split at U
 ·rename_i fs size bytes zero eq hT;have fK:=(hC.iq t _ hT).under;obtain⟨info,z,hi,hsz,RI,hz,D,jg⟩:=(hC.iq t _ hT).info;obtain⟨gs,tv,hl,hf⟩:=fK;simp only at D jg;have qg:∀(i:Nat) f,fs[i]?=some f->(fun i=>(fs[i]?).map fun f=>(f.1,f.2.1)) i=some (f.1,f.2.1):=fun i f h=>by simp[h]
  split at U
  case h_2=>
   obtain⟨mZ,W,k1,k2,k3,k4,k5⟩:=JF R (fun i=>(fs[i]?).map fun f=>(f.1,f.2.1)) qg ps.toList (zero.map Jr) zero (fun cs=>K (.st cs) [] none)
    (fun p hp j J=>hV j (by simp[aK,Op.operands];exact⟨p.1,by rw[<-J];exact aal.1 hp⟩)) (by simp) jg (fun j x u J hu=>by
     rw[aak,hu]at J;simp at J;rw[<-J];exact xZ _ _ _ _ _ _ u) U
   have Ge:=LN (hC.iq t _ hT) k5;exact aM R hd I k1 (.st _ W.toArray (by simpa using k2) (by simpa using k3) (fun i c u O Y=>k4 i c u O (by simpa using Y))) (by
    have hr:=run_build (P:=A.C.P) w t (ps.map fun p=>(p.1,a.eval p.2)) W.toArray (by simpa using Ge);simp only[execOp,aK,aau];rw[hr];simp)
  obtain⟨mZ,fz,S',W,k1,k2,k3,k4,k5,_⟩:=JE hC (fun i=>(fs[i]?).map fun f=>(f.1,f.2.1)) qg ps.toList s.h S (zero.map (To (A.C.bn t))) zero (fun cs fz=>K (.p (.ag cs)) fz none)
   (fun p hp j J=>hV j (by simp[aK,Op.operands];exact⟨p.1,by rw[<-J];exact aal.1 hp⟩)) R (pY.refl _) ⟨by simp,jg,fun j x u J hu=>by
    rw[aak,hu]at J;simp at J;rw[<-J];exact Ie _ _ _ u⟩ U
  have Cp:gs.toList.mapM (fun f=>(A.C.P.info? f.type).map fun i=>(f.offset,i.size))=some (fs.map fun f=>(f.1,f.2.1)):=by
   have gen:∀(Z:List Field) (N:List (Nat×Nat×Bool)),N.length=Z.length->(∀(i:Nat) f g,N[i]?=some f->Z[i]?=some g->f.1=g.offset/\(∃i2,A.C.P.info? g.type=some i2/\i2.size=f.2.1))->Z.mapM (fun f=>(A.C.P.info? f.type).map fun i=>(f.offset,i.size))=some (N.map fun f=>(f.1,f.2.1)):=by
    intro Z
    induction Z with
    | nil=>intro N O _;have:N=[]:=adl O;subst this;rfl
    | cons g Z ih=>
     intro N O Y;cases N with
     | nil=>simp at O
     | cons f N=>
      obtain⟨e1,i2,e2,e3⟩:=Y 0 f g rfl rfl;have:=ih N (by simpa using O) (fun i f g h3 h4=>Y (i+1) f g (by simpa using h3) (by simpa using h4));rw[aa5,e2,this];simp[e1,e3]
   exact gen gs.toList fs (by simpa using hl) (fun i f g h3 h4=>by
    obtain⟨e1,_,e2,_⟩:=hf i f g h3 (by simpa using h4);exact⟨e1,e2⟩)
  have Ge:A.C.P.built t (ps.toList.map fun p=>(p.1,a.eval p.2))=some W.toArray:=by
   unfold Program.built;rw[hi,tv];simp only[hz,Cp,D];rw[<-k5];congr 1;funext i;simp
  refine A3 (s:=s) k2 hd I k1 (v:=.agg W.toArray) (.p _ _ (.ag _ _ (by simp[k4.len]) (by simpa using k4.one) fun i c v O Y=>k4.rep i c v O (by simpa using Y))) ?_;have hr:=run_build (P:=A.C.P) w t (ps.map fun p=>(p.1,a.eval p.2)) W.toArray (by simpa using Ge);simp only[execOp,aK,aau];rw[hr];simp
 exact U.elim
theorem JG{S:Nat->Prop}{s:AS}{a:Act}{b:Bool}(hC:bI A.C){h:Nat->AB}(z:b7 A V L S rho s a w)(I:pY h s.h){x:AV}{v:Value}(J:aY S w A.C.P L rho s.h x v){K:PV->List (Nat×AB)->Prop}(D:wa b h x K):
  ∃y fz S',K y fz/\b7 A V L S' rho ⟨s.t,app s.h fz⟩ a w/\aO S' w y v/\(∀b,S b->S' b)/\pY h (app s.h fz)/\(∀p∈fz,L p.1):=by
 unfold wa at D;split at D
 ·have:v=.slice none 0 0:=by cases J;rfl
  rw[this];exact⟨_,[],S,D,z,.im _,fun _ h=>h,I,by simp⟩
 exact ir hC z I J D
theorem yb(hC:bI A.C){t:Nat->AV}{a:Act}{h:Nat->AB}{size:Nat}{b:Bool}:
  ∀(ps:List (Nat×Operand)) (h':Nat->AB) (S:Nat->Prop) (es:List (List PV)) (vs:List Value) (K:List (List PV)->List (Nat×AB)->Prop),(∀p∈ps,∀j,p.2=.tmp j->V j)->b7 A V L S rho ⟨t,h'⟩ a w->pY h h'->Flat S w size es vs->gG b h size (ev t) ps es K ->
  ∃J fz S' O,K J fz/\b7 A V L S' rho ⟨t,app h' fz⟩ a w/\pY h (app h' fz)/\Flat S' w size J O/\J.length=es.length/\Instr.fill (fun i=>some (i*size,size)) vs.toArray (ps.map fun p=>(p.1,a.eval p.2))=some O.toArray/\(∀p∈fz,L p.1):=by
 intro ps
 induction ps with
 | nil=>intro h' S es vs K _ D U R z;exact⟨es,[],S,vs,z,D,U,R,rfl,rfl,by simp⟩
 | cons p ps ih=>
  intro h' S es vs K Y D U R z;obtain⟨i,x⟩:=p;unfold gG at z;have hx:=bp D x fun j hj=>Y (i,x) (by simp) j hj;obtain⟨y,fz,S2,z,bu,N,xC,Lh,DI⟩:=JG hC D U hx z;split at z
  ·rename_i ys Ij;split at z
   ·rename_i W;simp only[aaZ]at W;have e1:=ahS W.1;have e2:i<es.length:=abA W.2;have I:=A4 Ij N;have Z:(a.eval x).cells.toList.length=size:=by rw[I.len,e1]
    have hb:i*size+size<=vs.length:=by rw[R.len,<-aa3];exact abf _ e2
    obtain⟨J,mY,S',O,k1,k2,k3,k4,k5,k6,k9⟩:=ih (app h' fz) S2 _ _ _ (fun p hp=>Y p (by simp[hp])) bu Lh ((R.mono xC (fun _ _=>rfl)).set i e2 ys _ e1 Z I.one (fun j y u h1 h2=>I.rep j y u h1 h2)) z;refine⟨J,fz++mY,S',O,k1,by rw[cy];exact k2,by rw[cy];exact k3,k4,by rw[k5,aaM],?_,fun p hp=>(abi.1 hp).elim (DI p) (k9 p)⟩;rw[aa8,vc _ _ i _ _ (i*size) size rfl (by simpa using Z) (by simpa using hb)];exact k6
   exact z.elim
  exact z.elim
theorem Ap{o:Oper}(t:TypeId)(len:Nat)(ps:Array (Nat×Operand))(aK:o.op=.buildSlice t len ps):iE A o:=by
 intro V L S rho s a w K next Q hC sim hV hd O hn J
 simp only[bV,aK]at O;split at O
 ·rename_i e size bytes zero eq hT;have fK:=(hC.iq t _ hT).under;simp only at fK;split at O
  ·rename_i z Z;obtain⟨ie,ze,pO,Ao,On,ON,OO,jg⟩:=(hC.iq e z Z).info;have V4:=(hC.iq e z Z).Lx;split at O
   ·rename_i kD;simp only[aaZ]at kD;have I:0<z.size:=abA kD.1;have RJ:=kO kD.2;split at O
    ·rename_i T4;obtain⟨de,fz,S',D,k1,R,k3,k4,U,k6,k9⟩:=yb hC ps.toList s.h S _ _ (fun es fz=>K (.ow (o.dst.getD 0)) fz (some (.row e es)))
      (fun p hp j hj=>hV j (by simp[aK,Op.operands];exact⟨p.1,by rw[<-hj];exact aal.1 hp⟩)) sim (pY.refl _) (Flat.zero false S w (hC.iq e z Z) I len) O
     rw[aan]at U;obtain⟨hL,hb⟩:=hn _ _ _ k1;have RL:(app s.h fz) (o.dst.getD 0)=.row e de:=by
      rw[iA (fun p hp (e:p.1=_)=>hL (by rw[<-e];exact k9 p hp)),hb]
     have N:(execOp a.eval o).run A.C.P w=.ok (.value (.slice (some ⟨w.heap.size,0,none⟩) len len)) (w.alloc (.cells D.toArray e)):=by
      have e0:len*z.size=(Array.range (len*z.size)).size:=by simp
      have WV:¬16777216<len*z.size:=by omega
      have T6:Instr.fill (fun i=>some (i*z.size,z.size)) ((Array.range (len*z.size)).map (z.zero.toArray[· % z.zero.toArray.size]!)) (ps.map fun p=>(p.1,a.eval p.2)).toList=some D.toArray:=by
       rw[adT];rw[<-k6]
      have W:(Go.sizeOf e).run A.C.P w=.ok z.size w:=(hC.iq e z Z).sizeOf w;simp only[execOp,aK,Instr.buildSlice,aau,run_underlying fK,ab5,W];rw[aaa (show ¬len*z.size>2 ^ 24 by omega)];by_cases Y:len*z.size=0
      ·rw[aap Y];have k7:Instr.fill (fun i=>some (i*z.size,z.size)) ((Array.range (len*z.size)).map ((#[]:Array Value)[· % (#[]:Array Value).size]!)) (ps.map fun p=>(p.1,a.eval p.2)).toList=some D.toArray:=by
        have OP:∀f:Nat->Value,(Array.range 0).map f=#[]:=fun f=>by apply adR;simp
        rw[<-T6,Y,OP,OP]
       simp only[aau,aa6,ab5];rw[k7];simp[newRow,newObj,Sem.run]
      rw[aaa Y];have WW:(zeroValue e).run A.C.P w=.ok ze w:=by simp[zeroValue,typeInfo,pO,ON]
      simp only[aau,aa6,ab5,WW];rw[OO,T6];simp[newRow,newObj,Sem.run]
     have bu:=R.new hC (o.dst.getD 0) _ (R.pP hd) hL RL (w.alloc (.cells D.toArray e)) rfl rfl rfl (by simp) (fun _=>False) (fun k hk _=>acr _ _ _ hk) (fun _ h=>h.elim) (.slice (some ⟨w.heap.size,0,none⟩) len len)
      (fun g hg=>by simp[cC]at hg;subst hg;simp) (fun T=>by
       show aG A.C.P _ _ e _ (aT rho (o.dst.getD 0) _ (o.dst.getD 0));rw[aH];refine aG.of_flat pO (by omega) ?_ (by rw[Ao];exact k4.mono T.hS T.keep);have:=World.ownsRow_lit (base:=0) (e:=e) (size:=z.size) w D.toArray len (aaj _) (by simp only[maxLen];have:=adp len I;omega) (by simp[k4.len,U]);rw[Ao,U];exact this)
     exact dW N (J _ _ _ S' _ _ _ k1 (bu.value o.dst hd _ _ (.ow _ _ fun _=>⟨.inr rfl,(aH _ _ _).symm⟩)))
    rename_i T4;obtain⟨de,fz,S',D,k1,R,k3,k4,U,k6,k9⟩:=yb hC ps.toList s.h S _ _ (fun es fz=>K (.ow (o.dst.getD 0)) fz (some (.jA es)))
     (fun p hp j hj=>hV j (by simp[aK,Op.operands];exact⟨p.1,by rw[<-hj];exact aal.1 hp⟩)) sim (pY.refl _) (Flat.zero false S w (hC.iq e z Z) I len) O
    rw[aan]at U;obtain⟨hL,hb⟩:=hn _ _ _ k1;have RL:(app s.h fz) (o.dst.getD 0)=.jA de:=by
     rw[iA (fun p hp (e:p.1=_)=>hL (by rw[<-e];exact k9 p hp)),hb]
    have N:(execOp a.eval o).run A.C.P w=.ok (.value (.slice (some ⟨w.heap.size,0,none⟩) len len)) (w.alloc (.cells D.toArray e)):=by
     have e0:len*z.size=(Array.range (len*z.size)).size:=by simp
     have WV:¬16777216<len*z.size:=by omega
     have T6:Instr.fill (fun i=>some (i*z.size,z.size)) ((Array.range (len*z.size)).map (z.zero.toArray[· % z.zero.toArray.size]!)) (ps.map fun p=>(p.1,a.eval p.2)).toList=some D.toArray:=by
      rw[adT];rw[<-k6]
     have W:(Go.sizeOf e).run A.C.P w=.ok z.size w:=(hC.iq e z Z).sizeOf w;simp only[execOp,aK,Instr.buildSlice,aau,run_underlying fK,ab5,W];rw[aaa (show ¬len*z.size>2 ^ 24 by omega)];by_cases Y:len*z.size=0
     ·rw[aap Y];have k7:Instr.fill (fun i=>some (i*z.size,z.size)) ((Array.range (len*z.size)).map ((#[]:Array Value)[· % (#[]:Array Value).size]!)) (ps.map fun p=>(p.1,a.eval p.2)).toList=some D.toArray:=by
       have OP:∀f:Nat->Value,(Array.range 0).map f=#[]:=fun f=>by apply adR;simp
       rw[<-T6,Y,OP,OP]
      simp only[aau,aa6,ab5];rw[k7];simp[newRow,newObj,Sem.run]
     rw[aaa Y];have WW:(zeroValue e).run A.C.P w=.ok ze w:=by simp[zeroValue,typeInfo,pO,ON]
     simp only[aau,aa6,ab5,WW];rw[OO,T6];simp[newRow,newObj,Sem.run]
    have Iq:Fr (fun _=>False) w (w.alloc (.cells D.toArray e)):=⟨rfl,rfl,rfl,by simp,fun k hk _=>acr _ _ _ hk⟩;have grow:=R.TR hC (w.alloc (.cells D.toArray e)) Iq (fun b=>S' b\/b=w.heap.size) (fun b h=>.inl h) (fun b h=>by
     rcases h with h | h
     ·exact aaW (R.st b h) Iq.size
     subst h;simp) (fun b h=>h.imp id fun h=>by omega)
    have rr:aG A.C.P (w.alloc (.cells D.toArray e)) (aO S' (w.alloc (.cells D.toArray e))) e de (.slice (some ⟨w.heap.size,0,none⟩) len len):=by
     refine aG.of_flat pO (by omega) ?_ (by rw[Ao];exact k4.mono (fun _ h=>h) (fun b hb=>acr _ _ _ (R.st b hb)));have:=World.ownsRow_lit (base:=0) (e:=e) (size:=z.size) w D.toArray len (aaj _) (by simp only[maxLen];have:=adp len I;omega) (by simp[k4.len,U]);rw[Ao,U];exact this
    have OQ:aO (fun b=>S' b\/b=w.heap.size) (w.alloc (.cells D.toArray e)) (.sl de) (.slice (some ⟨w.heap.size,0,none⟩) len len):=rr.DT (fun b h=>.inl h) (fun g hg=>by simp[cC]at hg;exact .inr hg.symm);have bu:=grow.Ru (o.dst.getD 0) de (R.pP hd) hL RL _ OQ;exact dW N (J _ _ _ _ _ _ _ k1 (bu.value o.dst hd _ _ (.ow _ _ fun _=>⟨.inr rfl,(aH _ _ _).symm⟩)))
   exact O.elim
  exact O.elim
 exact O.elim
end Go.AM
namespace Go.AM
open Go.RowKit
theorem LP:∀{a b:List Nat},VY a b=true->a=b
 | [],[],_=>rfl
 | [],_::_,h=>by cases h
 | _::_,[],h=>by cases h
 | a::r,b::s,h=>by
  unfold VY at h;split at h
  ·rename_i e;rw[aa2 e,LP h]
  cases h
theorem LQ{a b:MK}(h:Ww a b=true):a=b:=by
 cases a with
 | str=>cases b with | str=>rfl | int k=>cases h | st s=>cases h
 | int k=>cases b with
  | str=>cases k<;>cases h
  | int k'=>cases k<;>cases k'<;>first | rfl | cases h
  | st s=>cases k<;>cases h
 | st s=>cases b with
  | str=>cases h
  | int k=>cases k<;>cases h
  | st s'=>rw[LP h]
def descOf:MK->TypeDesc
 | .str=>.string
 | .int k=>.int k
 | .st _=>.string
def Cq:MK->Prop
 | .st _=>False
 | _=>True
variable {mk:MK}
theorem Gf{P:Program}{t:TypeId}{ti:TI}(h:nV P t ti)(hp:Cq mk)(z:Al ti=some mk):P.underlying t=some (descOf mk):=by
 have D:=h.under;unfold Al at z;cases I:ti.ud<;>rw[I]at z D<;>simp only at z<;>first
  | (cases z;done)
  | (injection z with z;subst z;exact D)
  | (
    split at z
    ·obtain⟨s,_,rfl⟩:=acq.1 z;exact hp.elim
    cases z)
theorem Aq:∀{sh:List Nat} {cs:List PV} {l:List Value},l7 sh cs=some l->cs=l.map .im/\ae4 sh l:=by
 intro sh
 induction sh with
 | nil=>
  intro cs l h;cases cs with
  | nil=>injection h with h;subst h;exact⟨rfl,trivial⟩
  | cons c cs=>cases h
 | cons n sh ih=>
  intro cs l h;cases cs with
  | nil=>simp[l7]at h
  | cons c cs=>
   unfold l7 at h;split at h
   all_goals first
    | contradiction
    | (
      rename_i z D;injection z with z J;injection D with D N;subst z J D N;obtain⟨l',hl,rfl⟩:=acq.1 h;obtain⟨O,I⟩:=ih hl;subst O
      first
       | exact⟨rfl,trivial,I⟩
       | exact⟨rfl,rfl,I⟩)
    | (cases h)
theorem yc{a:AV}{k:Value}(h:keyOf mk a=some k):∃x,a=.p x/\mk.ok k/\∀S w v,aO S w x v->v=k:=by
 unfold keyOf at h;split at h
 ·injection h with h;subst h;exact⟨_,rfl,trivial,fun S w v z=>z.bS⟩
 ·injection h with h;subst h;exact⟨_,rfl,rfl,fun S w v z=>z.bS⟩
 ·obtain⟨l,hl,rfl⟩:=acq.1 h;obtain⟨rfl,J⟩:=Aq hl;refine⟨_,rfl,by simpa [MK.ok] using J,fun S w v z=>?_⟩;obtain⟨xs,e1,I,_,N⟩:=z.su;rw[e1];congr 1;apply adR;apply ach;intro i;by_cases hi:i<xs.size
  ·have D:i<l.length:=by
                  have:l.length=xs.size:=by simpa using I
                  omega
   have:=(N i (.im l[i]) xs[i] (by rw[aak,acg D];rfl) (aa1 hi)).bS;rw[aek,aa1 hi,this];simp[D]
  have D:¬i<l.length:=by
                  have:l.length=xs.size:=by simpa using I
                  omega
  rw[abI (by simpa using hi),abI (by simpa using D)]
 cases h
theorem Gg(hp:Cq mk){a b:Value}(z:mk.ok a)(hb:mk.ok b):Instr.sameNow (descOf mk) a b=some (Ak a b):=by
 cases mk with
 | str=>
  cases a<;>first | (exact z.elim) | skip
  cases b<;>first | (exact hb.elim) | skip
  simp only[Instr.sameNow,descOf,Ak];congr 1;rw[abb,abT];simp
 | int k=>
  cases a<;>first | (exact z.elim) | skip
  cases b<;>first | (exact hb.elim) | skip
  have D:_=k:=z;have I:_=k:=hb;subst D;subst I;simp[Instr.sameNow,descOf,Ak];rw[abb];simp
 | st s=>exact hp.elim
theorem LR(hp:Cq mk){k:Value}(h:mk.ok k):MapKept.IsKey (descOf mk) k:=by
 cases mk with
 | str=>cases k<;>first | (exact h.elim) | exact trivial
 | int j=>cases k<;>first | (exact h.elim) | exact h
 | st s=>exact hp.elim
theorem bI.key{C:Ctx}(hC:bI C){z:TypeId}{D:TI}(h:C.T z=some D)(I:Al D=some mk):Ls C.P z mk:=by
 by_cases hp:Cq mk
 ·have J:=Gf (hC.iq z D h) hp I;refine⟨fun e k w hk=>MapKept.run_checkKey J (LR hp hk) e 9999,fun k w N hk O=>MapKept.run_findKey J ?_⟩;generalize 0=i
  induction N generalizing i with
  | nil=>rfl
  | cons m N ih=>
   have R:=Gg hp hk (O m adU);unfold Instr.findNow rM;rw[R];cases Ak k m.key with
   | true=>rfl
   | false=>exact ih (fun x U=>O x (aaw _ U)) _
 cases mk with
 | st s=>exact hC.keys z D s h I
 | str=>exact (hp trivial).elim
 | int j=>exact (hp trivial).elim
theorem OR:∀{sh:List Nat} {a b:List Value},ae4 sh a->ae4 sh b->DN a b=true->a=b:=by
 intro sh
 induction sh with
 | nil=>
  intro a b D hb _;cases a with
  | nil=>cases b with
   | nil=>rfl
   | cons y b=>exact hb.elim
  | cons x a=>exact D.elim
 | cons n sh ih=>
  intro a b D hb h;cases a with
  | nil=>exact D.elim
  | cons x a=>cases b with
   | nil=>exact hb.elim
   | cons y b=>
    simp only[DN,aaZ]at h;rw[ih D.2 hb.2 h.2];have e:x=y:=by
     have I:=D.1;have z:=hb.1;unfold F6 at I z;split at I
     ·split at z<;>first | (exact z.elim) | (rename_i e1;cases e1;done) | skip
      have:=h.1;simp[Jq]at this;rw[this]
     ·split at z<;>first | (exact z.elim) | (rename_i e1;cases e1;done) | skip
      have:=h.1;simp[Jq]at this;rw[this,I,z]
     ·split at z<;>first | (exact z.elim) | (rename_i e1;cases e1;done) | skip
      have:=h.1;simp[Jq]at this;rw[this]
     exact I.elim
    rw[e]
theorem RM{a b:Value}(z:mk.ok a)(hb:mk.ok b)(h:Ak a b=true):a=b:=by
 cases mk with
 | str=>
  cases a<;>first | (exact z.elim) | skip
  cases b<;>first | (exact hb.elim) | skip
  simp[Ak]at h;rw[h]
 | int k=>
  cases a<;>first | (exact z.elim) | skip
  cases b<;>first | (exact hb.elim) | skip
  have D:_=k:=z;have I:_=k:=hb;subst D;subst I;simp[Ak]at h;rw[h]
 | st s=>
  cases a<;>first | (exact z.elim) | skip
  cases b<;>first | (exact hb.elim) | skip
  congr 1;exact adR (OR (sh:=s) z hb h)
theorem find_spec{k:Value}(hk:mk.ok k):∀(es:List (Value×PV)) (z:List MapEntry) (j:Nat),z.length=es.length->(∀(i:Nat) p m,es[i]?=some p->z[i]?=some m->m.key=p.1/\mk.ok p.1)->
  (rM k z j=none/\kz es k=none/\∀v,mP es k v=es++[(k,v)])\/
  ∃i m p,rM k z j=some (j+i,m.val)/\z[i]?=some m/\es[i]?=some p/\p.1=k/\kz es k=some p.2/\∀v,mP es k v=es.set i (k,v):=by
 intro es
 induction es with
 | nil=>
  intro z j hl _;have:z=[]:=adl hl;subst this;exact .inl ⟨rfl,rfl,fun v=>rfl⟩
 | cons p es ih=>
  intro z j hl O;cases z with
  | nil=>cases hl
  | cons m z=>
   obtain⟨R,u⟩:=p;obtain⟨D,U⟩:=O 0 _ _ rfl rfl;simp only at D U;cases hv:Ak k R with
   | true=>
    refine .inr ⟨0,m,(R,u),?_,rfl,rfl,(RM hk U hv).symm,by simp[kz,hv],fun v=>by simp[mP,hv]⟩;simp[rM,D,hv]
   | false=>
    rcases ih z (j+1) (by simpa using hl) (fun i p m hp W=>O (i+1) p m (by simpa using hp) (by simpa using W)) with⟨I,J,N⟩ | ⟨i,Y,p,I,J,N,Z,q5,q6⟩
    ·exact .inl ⟨by simp[rM,D,hv,I],by simp[kz,hv,J],fun v=>by simp[mP,hv,N v]⟩
    refine .inr ⟨i+1,Y,p,?_,by simpa using J,by simpa using N,Z,by simp[kz,hv,q5],fun v=>by simp[mP,hv,q6 v]⟩;simp only[rM,D,hv,I];rw[aaX,Nat.add_comm 1 i]
theorem yd{n:Nat}:∀{sh:List Nat} {l:List Value},ae4 sh l->((l.zip l).all fun (x,y)=>Instr.sameBits n x y)=true:=by
 intro sh
 induction sh with
 | nil=>intro l h;cases l with
  | nil=>rfl
  | cons x l=>exact h.elim
 | cons c sh ih=>
  intro l h;cases l with
  | nil=>exact h.elim
  | cons x l=>
   rw[List.zip_cons_cons,aaP,ih h.2,ac7];have z:=h.1;unfold F6 at z;split at z
   ·cases n<;>exact (abT _ _).2 rfl
   ·cases n<;>simp[Instr.sameBits]
   ·cases n<;>simp[Instr.sameBits]
   exact z.elim
theorem sameBits_self{k:Value}(hk:mk.ok k):Instr.sameBits 10000 k k=true:=by
 cases mk with
 | str=>
  cases k<;>first | (exact hk.elim) | skip
  simp only[Instr.sameBits];exact (abT _ _).2 rfl
 | int j=>
  cases k<;>first | (exact hk.elim) | skip
  simp[Instr.sameBits]
 | st s=>
  cases k<;>first | (exact hk.elim) | skip
  rename_i xs;show (xs.size==xs.size&&(xs.toList.zip xs.toList).all fun (x,y)=>Instr.sameBits 9999 x y)=true;rw[yd (sh:=s) hk];simp
variable {A:cD}
theorem Gh{o:Oper}(t:TypeId)(N:o.op=.makeMap t none):iE A o:=by
 intro V L S rho s a w K next Q hC I hV O z U D
 simp only[bV,N]at z;split at z
 ·split at z
  ·split at z
   ·obtain⟨W,J⟩:=U _ _ _ z;have Y:=I.new hC (o.dst.getD 0) _ (I.pP O) W J (w.alloc (.map #[] 0)) rfl rfl rfl (by simp) (fun _=>False) (fun k hk _=>acr _ _ _ hk) (fun _ h=>h.elim) (.map (some w.heap.size))
     (fun g R=>by simp[cC]at R;subst R;simp) (fun T=>by
      refine⟨w.heap.size,#[],0,aH _ _ _,(MapKept.heap_alloc w _).1,rfl,by simp⟩)
    exact dW (by simp[execOp,N,Instr.makeMap]) (D _ _ _ S _ _ _ z (Y.value o.dst O _ _ (.ow _ _ fun _=>⟨.inr rfl,(aH _ _ _).symm⟩)))
   exact z.elim
  exact z.elim
 exact z.elim
variable {w:World}
theorem A5{S:Nat->Prop}{P:Program}{L:Nat->Prop}{rho:Nat->Value}{h:Nat->AB}{id:Nat}{es:List (Value×PV)}(I:eK S w P L rho h id (.map mk es)):
  ∃g D z,rho id=.map (some g)/\w.heap[g]?=some (.map D z)/\D.size=es.length/\∀(i:Nat) p m,es[i]?=some p->D[i]?=some m->m.key=p.1/\mk.ok p.1/\aO S w p.2 m.val:=I
theorem LU{es:List (Value×PV)}{z:Array MapEntry}{R:PV->Value->Prop}(D:z.size=es.length)(I:∀(i:Nat) p m,es[i]?=some p->z[i]?=some m->m.key=p.1/\mk.ok p.1/\R p.2 m.val):∀m∈z.toList,mk.ok m.key:=by
 intro m J;obtain⟨i,hi,rfl⟩:=ac8 J;have N:i<es.length:=by rw[<-D];simpa using hi
 obtain⟨O,U,_⟩:=I i es[i] (z.toList[i]) (acg N) (by simp at hi;simp[hi]);rw[O];exact U
theorem Gi{P:Program}{t:TypeId}{ti:TI}(h:nV P t ti)(Z:F8 P t ti)(S:Nat->Prop)(w:World):∃z,(zeroValue t).run P w=.ok z w/\aO S w (xX ti) z:=by
 obtain⟨info,z,U,h2,h3,W,N,h6,h7,h8⟩:=h;obtain⟨YT,z',D,I,J⟩:=Z;rw[U]at D;injection D with D;subst D;rw[W]at I;injection I with I;subst I;refine⟨z,by simp[zeroValue,typeInfo,U,W],?_⟩;unfold xX;cases Y:ti.ud.agg with
 | true=>
  rw[Y]at J;cases z<;>first | cases J | skip
  rename_i cs;have O:cs=ti.zero.toArray:=N;subst O;refine .ag _ _ (by simp) (fun u R=>h7 u (by simpa using R)) fun i c v hi hv=>?_;rw[aak]at hi;obtain⟨u,R,rfl⟩:=acq.1 hi;have:u=v:=by simpa [R] using hv
  subst this;exact tn S w u
 | false=>
  rw[Y]at J;have O:z.cells=#[z]:=by cases z<;>first | rfl | cases J
  rw[O]at N;have:ti.zero=[z]:=by simpa using (adV Array.toList N).symm
  rw[this];exact tn S w z
theorem JH{o:Oper}(t:TypeId)(x i:Operand)(R:Bool)(W:o.op=.lookup t x i R):iE A o:=by
 intro V L S rho s a w K next Q hC I hV hd D hn J
 simp only[bV,W]at D;have hx:=bp I x fun j hj=>hV j (by simp[W,Op.operands,hj]);have hi:=bp I i fun j hj=>hV j (by simp[W,Op.operands,hj]);split at D
 case h_2=>exact D.elim
 rename_i kt et size bytes zero eq hT;have fK:=(hC.iq t _ hT).under;simp only at fK;split at D
 case h_2=>exact D.elim
 rename_i tk te WY u9;split at D
 case h_2=>exact D.elim
 rename_i mk hmk;have OS:=hC.key WY hmk;split at D
 case h_2=>exact D.elim
 rename_i id hid;split at D
 case h_2=>exact D.elim
 rename_i mk' es Gj;split at D
 case h_2=>exact D.elim
 rename_i DW;obtain rfl:=LQ DW;split at D
 case h_2=>exact D.elim
 rename_i k hk;obtain⟨xk,V2,Y,WZ⟩:=yc hk;obtain⟨r,hr,D⟩:=D;rw[hid]at hx;obtain⟨hL,O⟩:=hx.cH (by rw[Gj];trivial);have hh:=I.hp id hL;rw[Gj]at hh;obtain⟨g,ms,clock,h1,h2,h3,h4⟩:=A5 hh;rw[V2]at hi;have hi:=WZ _ _ _ hi.eR;obtain⟨z,hz,hzr⟩:=Gi (hC.iq et te u9) (hC.zs et te u9) S w;have Z:∀m∈ms.toList,mk.ok m.key:=LU h3 h4;have key:∃u,(Instr.lookup t (a.eval x) (a.eval i) R).run A.C.P w=.ok (if R then .tuple #[u,.bool r.isSome] else u) w/\aO S w (r.getD (xX te)) u:=by
  rcases find_spec Y es ms.toList 0 (by simpa using h3) (fun i p m hp hm=>by obtain⟨q1,U,_⟩:=h4 i p m hp (by simpa using hm);exact⟨q1,U⟩) with⟨q1,U,_⟩ | ⟨j,m,p,q1,U,q3,q4,q5,_⟩
  ·rw[hr]at U;subst U;refine⟨z,?_,hzr⟩;cases R<;>simp[Instr.lookup,run_underlying fK,O,h1,abW h2,hi,OS.check _ _ _ Y,OS.find _ _ _ Y Z,q1,hz]
  rw[hr]at q5;subst q5;refine⟨m.val,?_,(h4 j p m q3 (by simpa using U)).2.2⟩;cases R<;>simp[Instr.lookup,run_underlying fK,O,h1,abW h2,hi,OS.check _ _ _ Y,OS.find _ _ _ Y Z,q1]
 obtain⟨u,N,hu⟩:=key;cases R with
 | true=>
  refine aM I hd J D (.tu _ _ rfl fun i c v hc O=>?_) (by simp only[execOp,W,aau,N,ab5,aa6];rfl)
  match i with
  | 0=>simp at hc O;subst hc O;exact .p _ _ hu
  | 1=>simp at hc O;subst hc O;exact .p _ _ (.im _)
  | i+2=>simp at hc
 | false=>exact aM I hd J D (.p _ _ hu) (by simp only[execOp,W,aau,N,ab5,aa6];rfl)
theorem Cr{o:Oper}(t:TypeId)(x i y:Operand)(aK:o.op=.mapUpdate t x i y):iE A o:=by
 intro V L S rho s a w K next Q hC J hV hd z hn U
 simp only[bV,aK]at z;have hx:=bp J x fun j hj=>hV j (by simp[aK,Op.operands,hj]);have hi:=bp J i fun j hj=>hV j (by simp[aK,Op.operands,hj]);have hy:=bp J y fun j hj=>hV j (by simp[aK,Op.operands,hj]);split at z
 case h_2=>exact z.elim
 rename_i kt et size bytes zero eq hT;have fK:=(hC.iq t _ hT).under;simp only at fK;split at z
 case h_2=>exact z.elim
 rename_i tk WY;split at z
 case h_2=>exact z.elim
 rename_i mk W;have OS:=hC.key WY W;split at z
 case h_2=>exact z.elim
 rename_i id hid;split at z
 case h_2=>exact z.elim
 rename_i mk' es Gj;split at z
 case h_2=>exact z.elim
 rename_i DW;obtain rfl:=LQ DW;split at z
 case h_2=>exact z.elim
 rename_i k hk;obtain⟨xk,V2,N,WZ⟩:=yc hk;obtain⟨yv,fz,S2,z,bu,O,xC,hF,DI⟩:=ir hC J (pY.refl s.h) hy z;split at z
 case h_2=>exact z.elim
 rename_i DJ;have oE:app s.h fz id=.map mk es:=by rw[l9 DJ];exact Gj
 rw[hid]at hx;obtain⟨hL,hv⟩:=hx.cH (by rw[Gj];trivial);have hh:=bu.hp id hL;have hh:eK S2 w A.C.P L rho (app s.h fz) id (app s.h fz id):=hh;rw[oE]at hh;obtain⟨g,ms,I,h1,h2,h3,h4⟩:=A5 hh;rw[V2]at hi;have hi:=WZ _ _ _ hi.eR;have aeL:∀m∈ms.toList,mk.ok m.key:=LU h3 h4;have fin:∀R vd,(Instr.mapUpdate t (a.eval x) (a.eval i) (a.eval y)).run A.C.P w=.ok () { w with heap:=w.heap.setIfInBounds g (.map R vd) }->R.size=(mP es k yv).length ->
   (∀(i:Nat) p m,(mP es k yv)[i]?=some p->R[i]?=some m->m.key=p.1/\mk.ok p.1/\aO S2 w p.2 m.val)->o.wp A.C.P a w next Q:=by
  intro R vd hrun hsz W0;obtain⟨g1,g2⟩:=MapKept.heap_set (o':=.map R vd) h2;refine qc (w':={ w with heap:=w.heap.setIfInBounds g (.map R vd) }) (by simp only[execOp,aK,aau,hrun,ab5,aa6]) ?_;have aeI:=bu.write hC id hL (by show (app s.h fz id).live;rw[oE];trivial) (.map mk (mP es k yv)) (fun _ h=>by cases h) { w with heap:=w.heap.setIfInBounds g (.map R vd) } rfl rfl rfl (by simp) (fun k hk=>g2 k fun e=>hk (by rw[h1,e];rfl)) fun T=>by
   refine⟨g,R,vd,h1,g1,hsz,fun i p m hp D=>?_⟩;obtain⟨Y,q2,Z⟩:=W0 i p m hp D;exact⟨Y,q2,Z.mono T.hS T.keep⟩
  have:=U _ _ _ S2 _ _ _ z (by
   rw[cy];exact aeI.value o.dst hd .junk undef (.junk _))
  exact this
 rcases find_spec N es ms.toList 0 (by simpa using h3) (fun i p m hp D=>by obtain⟨Y,q2,_⟩:=h4 i p m hp (by simpa using D);exact⟨Y,q2⟩) with⟨Y,q2,Z⟩ | ⟨j,m,p,Y,q2,Z,q4,q5,q6⟩
 ·refine fin (ms.push { key:=k,val:=a.eval y,born:=I }) (I+1) ?_ (by rw[Z];simp[h3]) fun i p m hp D=>?_
  ·simp[Instr.mapUpdate,run_underlying fK,hv,h1,abW h2,hi,OS.check _ _ _ N,OS.find _ _ _ N aeL,Y,MapKept.run_setObj_map _ h2]
  rw[Z]at hp;by_cases eF:i<es.length
  ·rw[aaE eF]at hp;rw[Array.getElem?_push_lt (by omega)]at D;exact h4 i p m hp (by rw[<-D];exact aa1 _)
  have pO:i=es.length:=by
   have:=aD hp;simp at this;omega
  subst pO;rw[<-h3]at D;simp at hp D;subst hp D;exact⟨rfl,N,O⟩
 have LS:ms[j]?=some m:=by simpa using q2
 have W:m.key=k:=by rw[<-q4];exact (h4 j p m Z LS).1
 refine fin (ms.modify j fun e=>{ e with key:=k,val:=a.eval y }) I ?_ (by rw[q6];simp[h3]) fun i p' m' hp D=>?_
 ·simp[Instr.mapUpdate,run_underlying fK,hv,h1,abW h2,hi,OS.check _ _ _ N,OS.find _ _ _ N aeL,Y,LS,W,Instr.keyThatStays,sameBits_self N,MapKept.run_setObj_map _ h2]
 rw[q6]at hp;rw[aac]at D;by_cases e:j=i
 ·subst e;rw[aap rfl,LS]at D;rw[ab7 (aD Z)]at hp;simp at hp D;subst hp D;exact⟨rfl,N,O⟩
 rw[aaa e]at D;rw[ac5 e]at hp;exact h4 i p' m' hp D
theorem ok_slice{o:Oper}(t:TypeId)(x:Operand)(lo hi:Option Operand)(J:o.op=.slice t x lo hi none):iE A o:=by
 intro V L S rho s a w K next Q hC I R hd z hn D
 have old:=JB t x lo hi J hC I R hd (K:=K) (Q:=Q) (next:=next);simp only[bV,J]at z;split at z
 case h_2=>exact old z D
 rename_i id hid;split at z
 case h_2=>exact old z D
 rename_i e' es az;rcases z with z | z
 case inr=>exact old z D
 have hx:=bp I x fun j N=>R j (by simp[J,Op.operands,N]);have Ik:∀y,lo=some y->aY S w A.C.P L rho s.h (ev s.t y) (a.eval y):=fun y Z=>bp I y fun j N=>R j (by simp[J,Op.operands,N,Z]);have Il:∀y,hi=some y->aY S w A.C.P L rho s.h (ev s.t y) (a.eval y):=fun y Z=>bp I y fun j N=>R j (by simp[J,Op.operands,N,Z]);unfold td at z;split at z
 case h_2=>exact z.elim
 rename_i e size bytes zero eq hT;have fK:=(hC.iq t _ hT).under;simp only at fK;split at z
 case h_2=>exact z.elim
 rename_i u_;obtain rfl:=ahS u_;split at z
 case h_2=>exact z.elim
 rename_i k m k' n h1 h2;obtain⟨⟨h3,h4,h5⟩,z⟩:=z;rw[hid]at hx;obtain⟨hL,hv⟩:=hx.cH (by rw[az];trivial);have U:=I.hp id hL;rw[az]at U;have U:aG A.C.P w (aO S w) e' es (rho id):=U;obtain⟨ie,xs,pO,hpos,hown,_⟩:=U;have W:∃ad c,rho id=.slice ad es.length c/\es.length<=c:=by
  rcases hown.2 with⟨g1,g2⟩ | ⟨g,cap,cur,g1,_,_,g2,_⟩
  ·exact⟨none,0,by rw[g1,g2],by omega⟩
  exact⟨_,cap,g1,g2⟩
 obtain⟨ad,c,W,O⟩:=W;have hb:=ya I lo hi Ik Il true es.length c k m k' n O h1 h2 h3 h4 h5;refine aM I hd D z (.vw id _ _ _ fun e2 Y=>?_) (by simp[execOp,J,Instr.sliceAt,Instr.slice,hv,W,run_underlying fK,hb,Go.sizeOf,typeInfo,pO];rfl);rw[az]at Y;injection Y with Y;subst Y;exact⟨hL,es.length,c,ad,ie,W,pO,by omega,by omega,O,rfl⟩
theorem Flat.take{S:Nat->Prop}{k:Nat}{es:List (List PV)}{xs:List Value}(h:Flat S w k es xs)(n:Nat)(z:n<=es.length):Flat S w k (es.take n) (xs.take (n*k)):=by
 have I:n*k<=es.length*k:=abf _ z;refine⟨by rw[aat,aat,h.len];rw[ac9 I,ac9 z],fun r J=>h.row r (acM J),fun u N=>h.one u (acM N),fun i r j x hi D=>?_⟩;have O:=aD hi;rw[aat]at O;rw[aa0 (by omega)]at hi;obtain⟨u,R,U⟩:=h.rep i r j x hi D;have hjk:j<k:=by rw[<-h.row r (aad hi)];exact aD D
 refine⟨u,?_,U⟩;rw[aa0,R];have:=abf k (show i+1<=n by omega);rw[aa3]at this;omega
theorem Flat.drop{S:Nat->Prop}{k:Nat}{es:List (List PV)}{xs:List Value}(h:Flat S w k es xs)(n:Nat):Flat S w k (es.drop n) (xs.drop (n*k)):=by
 refine⟨by rw[aaN,aaN,h.len,Nat.sub_mul],fun r z=>h.row r (abq z),fun u D=>h.one u (abq D),fun i r j x hi I=>?_⟩;rw[aas]at hi;obtain⟨u,J,N⟩:=h.rep (n+i) r j x hi I;refine⟨u,?_,N⟩;rw[aas,<-J];congr 1;rw[abR,aaX]
theorem LV{o:Oper}(c:Call)(aK:o.op=.call c)(hc:c.callee=.builtin .clear):iE A o:=by
 intro V L S rho s a w K next Q hC O hV hd D _ W
 obtain⟨callee,args,argTypes⟩:=c;simp only at hc;subst hc;simp only[bV,aK,aeC,fy]at D;split at D
 case h_2=>exact D.elim
 rename_i x t I LJ;have hx:=bp O x fun j hj=>hV j (by simp[aK,Op.operands,Call.operands,hj];rw[<-hj];exact aal.1 (by rw[I];simp));have e1:args=#[x]:=by rw[<-aaY (xs:=args),I]
 have e2:argTypes=#[t]:=by rw[<-aaY (xs:=argTypes),LJ]
 subst e1 e2;split at D
 case h_2=>exact D.elim
 rename_i e size bytes zero eq hT;have fK:=(hC.iq t _ hT).under;simp only at fK;split at D
 case h_2=>exact D.elim
 rename_i ti u9;split at D
 case h_2=>exact D.elim
 rename_i id lo hi hid;split at D
 case h_2=>exact D.elim
 rename_i e' es az;split at D
 case h_2=>exact D.elim
 rename_i Is;simp only[aaZ]at Is;obtain⟨u_,J⟩:=Is;obtain⟨⟨hlh,hhl⟩,D⟩:=D;obtain rfl:=ahS u_;have J:0<ti.size:=abA J;rw[hid]at hx;obtain⟨hL,n,cp,ad,WG,lF,xB,_,eP,Qq,U⟩:=hx.Cj az;have hh:=O.hp id hL;rw[az]at hh;have hh:aG A.C.P w (aO S w) e' es (rho id):=hh;obtain⟨z,Y,pO,Ao,On,ON,OO,jg⟩:=(hC.iq e' ti u9).info;rw[pO]at xB;injection xB with xB;subst xB;obtain⟨xs,Li,hown,wg⟩:=aG.flat pO hh;have fin:∀w',(∀ty,(Builtin.clear_ #[t] ty #[a.eval x]).run A.C.P w=.ok (.tuple #[]) w')->b7 A V L S rho ⟨s.t,aT s.h id (.row e' (es.take lo++List.replicate (hi-lo) (ti.zero.map xi)++es.drop hi))⟩ a w'->o.wp A.C.P a w next Q:=by
  intro w' Z b9;exact dW (v:=.tuple #[]) (by simp[execOp,aK,resolve,invoke,builtin,Z]) (W _ _ _ S _ _ _ D (b9.value o.dst hd (.tu []) _ (.tu [] #[] rfl (by simp))))
 by_cases heq:hi=lo
 ·subst heq;refine fin w (fun ty=>?_) ?_
  ·rw[U,aab];cases (if cp=hi then ad else ad.map (·.add (hi*z.size)))<;>simp[Builtin.clear_,run_underlying fK]
  rw[aab,List.replicate_zero,acw,aaU,jf _ _ _ az];exact O
 rcases hown.2 with⟨g1,g2⟩ | ⟨g,N,R,g1,_,g3,g4,g5,g6,g7⟩
 ·exact absurd g2 (by omega)
 have Qx:=lF;rw[g1]at Qx;injection Qx with r1 r2 r3;subst r1 r2 r3;have WL:a.eval x=.slice (some ⟨g,lo*z.size,none⟩) (hi-lo) (N-lo):=by
  rw[U,aaa (by omega)];simp only[ab6,Addr.add];split
  ·rename_i h0;rw[h0]
  simp
 have WM:((Array.range ((hi-lo)*ti.size)).map (ti.zero.toArray[· % ti.zero.toArray.size]!))=Builtin.zeroCells Y.cells (hi-lo):=by
  unfold Builtin.zeroCells;rw[OO,(show ti.zero.toArray.size=ti.size by simpa using (hC.iq e' ti u9).Lx)]
 have hz:=Flat.zero false S w (hC.iq e' ti u9) J (hi-lo);rw[WM,<-Ao]at hz;have je:(Builtin.zeroCells Y.cells (hi-lo)).toList.length=(hi-lo)*z.size:=by rw[hz.len,aan]
 have Cs:hi*z.size<=N*z.size:=abf _ (by omega);have W1:lo*z.size+(hi-lo)*z.size=hi*z.size:=by rw[<-abR];congr 1;omega
 have xl:=run_storeCells_at A.C.P g (lo*z.size) e' (Builtin.zeroCells Y.cells (hi-lo)).toList 0 R w g3 (by rw[je,g6];omega) hz.one;simp only[abQ]at xl;have JI:hi-lo≠0:=by omega
 refine fin (w.setRow g (R.toList.take (lo*z.size)++(Builtin.zeroCells Y.cells (hi-lo)).toList++R.toList.drop (lo*z.size+(Builtin.zeroCells Y.cells (hi-lo)).toList.length)).toArray) (fun ty=>?_) ?_
 ·rw[WL];cases hk:hi-lo with
  | zero=>exact absurd hk JI
  | succ m=>
   rw[hk]at xl;simp[Builtin.clear_,run_underlying fK,zeroValue,typeInfo,pO,ON,xl]
 refine O.write hC id hL (by rw[az];trivial) _ (fun e2 h=>by rw[az];exact h) _ (setRow_os w g _) (setRow_tape w g _) (setRow_output w g _) (setRow_size w g _) (fun k hk=>setRow_other w g k _ fun e=>hk (by rw[g1,e];rfl)) fun T=>?_;show aG A.C.P _ _ e' _ (rho id);have hF:Flat S w z.size (es.take lo++List.replicate (hi-lo) (ti.zero.map xi)++es.drop hi) (xs.take (lo*z.size)++(Builtin.zeroCells Y.cells (hi-lo)).toList++xs.drop (hi*z.size)):=((wg.take lo (by omega)).app hz).app (wg.drop hi);refine aG.of_flat pO Li ?_ (hF.mono T.hS T.keep);have YU:(es.take lo++List.replicate (hi-lo) (ti.zero.map xi)++es.drop hi).length=es.length:=by simp;omega
 rw[YU];refine⟨by rw[hF.len,YU],.inr ⟨g,N,_,g1,aaj _,setRow_heap w g R _ e' (0,0) g3,g4,g5,?_,?_⟩⟩
 ·rw[aaf,acv,acv,je,aat,aaN,abj,g6];omega
 rw[<-g7,je,W1];have h1:lo*z.size<=es.length*z.size:=abf _ (by omega);have h2:hi*z.size<=es.length*z.size:=abf _ hhl;have h3:es.length*z.size<=N*z.size:=abf _ g4;simp only[List.take_append,acv,aat,abj,g6,je,acx,List.drop_take];rw[ac9 (show lo*z.size<=N*z.size by omega),ac9 h1];rw[Nat.min_eq_right h1,adW (l:=(Builtin.zeroCells Y.cells (hi-lo)).toList) (by rw[je];omega)];rw[show es.length*z.size-(lo*z.size+(hi-lo)*z.size)=es.length*z.size-hi*z.size by omega]
end Go.AM
