/- Part 1 of the proof of HouseDrillingMatchesSpec. -/
import Derived.StillTail
import Derived.OwnWalk
import Derived.WalkKit
import Derived.Lib.Hide
import Derived.Below
import Derived.MapKept
set_option linter.unusedVariables false
set_option linter.unusedSimpArgs false
set_option maxRecDepth 100000
set_option maxHeartbeats 8000000
namespace Go
abbrev cy:=@Bool.eq_false_iff
abbrev de:=@Nat.eq_of_beq_eq_true
abbrev CT:=@Go.World.cell?_of_block
abbrev aF:=@Nat.le_refl
abbrev aO:=@Nat.le_trans
abbrev cG:=@Nat.lt_of_lt_of_le
abbrev an:=@List.mem_of_getElem?
abbrev aU:=@List.getElem?_eq_some_iff
abbrev cV:=@List.getElem?_take
abbrev ur:=@Array.getD_eq_getD_getElem?
abbrev IF:=@Array.getElem?_setIfInBounds
abbrev aa:=@if_neg
abbrev ep:=@List.all_eq_true
abbrev aB:=@List.getElem?_map
abbrev cx:=@Array.getElem?_eq_getElem
abbrev kO:=@Bool.eq_iff_iff
abbrev cz:=@decide_eq_true_eq
abbrev CU:=@Go.ByteArray.toList_eq
abbrev ph:=@Array.ext'
abbrev aT:=@Option.map_eq_some_iff
abbrev bJ:=@Go.Sem.run_bind
abbrev jd:=@Go.Addr.add_lit
abbrev aX:=@List.getElem?_eq_getElem
abbrev eE:=@List.getElem?_drop
abbrev je:=@Nat.le_of_ble_eq_true
abbrev iu:=@List.getElem?_range
abbrev aY:=@Nat.zero_add
abbrev kP:=@Nat.add_assoc
abbrev dm:=@Go.Result.andThen_ok
abbrev fF:=@Go.Sem.run_pure
abbrev mc:=@List.mem_of_mem_drop
abbrev jK:=@List.mem_of_mem_take
abbrev nJ:=@Nat.add_zero
abbrev nK:=@Nat.add_mul
abbrev fG:=@Option.map_some
abbrev yB:=@Array.mem_of_getElem?
abbrev cP:=@List.eq_nil_of_length_eq_zero
abbrev fH:=@Iff.rfl
abbrev cm:=@List.mem_append
abbrev nL:=@Nat.le_of_eq
abbrev nM:=@Go.RowKit.Below.heap_alloc
abbrev CV:=@List.length_nil
abbrev cH:=@List.length_cons
abbrev ae:=@if_pos
abbrev rO:=@Nat.sub_self
abbrev ga:=@List.getElem?_set_self
abbrev yC:=@List.getElem?_cons_succ
abbrev jL:=@List.getElem?_set_ne
abbrev gT:=@List.append_assoc
abbrev dU:=@List.getElem?_append_left
abbrev iv:=@List.getElem?_take_of_lt
abbrev dV:=@List.getElem?_append_right
abbrev dh:=@Nat.succ_mul
abbrev a8:=@Nat.mul_le_mul_right
abbrev dz:=@List.length_set
abbrev ai:=@Nat.zero_le
abbrev eF:=@List.size_toArray
abbrev bG:=@List.length_append
abbrev aV:=@List.length_take
abbrev dn:=@List.length_drop
abbrev gd:=@Array.length_toList
abbrev jM:=@List.ext_getElem?
abbrev fI:=@List.getElem?_eq_none
abbrev nN:=@List.mem_or_eq_of_mem_set
abbrev cI:=@List.mem_iff_getElem?
abbrev uu:=@Nat.lt_or_gt_of_ne
abbrev jf:=@Nat.succ_le_of_lt
abbrev yD:=@List.length_singleton
abbrev aK:=@Bool.and_eq_true
abbrev cJ:=@Array.mem_toList_iff
abbrev gw:=@Array.toArray_toList
abbrev uv:=@Go.MapKept.run_getObj_map
abbrev uw:=@List.getElem_mem
abbrev pj:=@Nat.sub_mul
abbrev pk:=@Nat.mod_lt
abbrev IG:=@List.eq_of_mem_replicate
abbrev aw:=@List.length_map
abbrev IH:=@List.exists_mem_of_ne_nil
abbrev CW:=@Nat.pos_of_ne_zero
abbrev bF:=@List.mem_map
abbrev yE:=@List.length_replicate
abbrev jg:=@List.foldl_cons
abbrev fJ:=@List.map_cons
abbrev CX:=@List.mapM_cons
abbrev yF:=@Array.toList_map
abbrev II:=@Nat.le_mul_of_pos_right
abbrev jN:=@Array.getElem?_toList
abbrev CY:=@Go.MapKept.bytes_beq
abbrev bK:=@List.mem_cons_self
abbrev cK:=@List.mem_cons_of_mem
abbrev ux:=@List.all_cons
abbrev yG:=@Bool.and_true
abbrev CZ:=@List.getElem_of_mem
abbrev ah:=@congrArg
abbrev yH:=@Array.getElem?_push_lt
abbrev C0:=@Array.getElem?_modify
abbrev gx:=@Nat.min_eq_left
abbrev cQ:=@List.append_nil
abbrev nO:=@List.take_append_drop
abbrev po:=@List.take_take
abbrev aW:=@List.take_of_length_le
end Go
namespace Go.AM
open Go.RowKit
inductive PV where
 | im (x:Value)
 | ag (cs:List PV)
 | sl (es:List (List PV))
 | ip (cs:List PV)
 | fn (f:FuncId) (cap:List PV)
inductive AV where
 | p (x:PV)
 | nl
 | ow (id:Nat)
 | rp (id i off:Nat)
 | bx (id off:Nat)
 | vw (id lo hi:Nat)
 | fn (f:FuncId) (cap:List AV)
 | tu (xs:List AV)
 | st (xs:List AV)
 | junk
inductive MK where
 | str
 | int (k:IntKind)
 | st (sh:List Nat)
def GZ:Nat->Value->Prop
 | 0,.string _=>True
 | 1,.int k _=>k=.i64
 | 2,.bool _=>True
 | _,_=>False
def me:List Nat->List Value->Prop
 | [],[]=>True
 | n::s,v::r=>GZ n v/\me s r
 | _,_=>False
def MK.ok:MK->Value->Prop
 | .str,.string _=>True
 | .int k,.int k' _=>k'=k
 | .st sh,.agg xs=>me sh xs.toList
 | _,_=>False
inductive HC where
 | p (x:PV)
 | row (e:TypeId) (es:List (List PV))
def HC.isRow:HC->Prop
 | .row ..=>True
 | _=>False
inductive HX where
 | av (x:AV)
 | row (e:TypeId) (es:List (List PV))
inductive AB where
 | none
 | row (e:TypeId) (es:List (List PV))
 | jr (es:List (List PV))
 | box (cs:List AV)
 | jF (ty:TypeId) (cs:List AV)
 | ll (cs:List PV)
 | map (mk:MK) (es:List (Value×PV))
 | a7 (cs:List HC)
 | ay (e:TypeId) (es:List (List HX))
def AB.live:AB->Prop
 | .row .. | .box .. | .jF .. | .map .. | .a7 .. | .ay ..=>True
 | _=>False
def AB.pq:AB->Option TypeId
 | .row e _=>some e
 | .ay e _=>some e
 | _=>Option.none
def AB.there:AB->Prop
 | .none=>False
 | _=>True
structure AS where
 t:Nat->AV
 h:Nat->AB
def bq{α:Type}(f:Nat->α)(i:Nat)(x:α)(j:Nat):α:=match Nat.beq j i with | true=>x | false=>f j
variable {α:Type}
theorem aH(f:Nat->α)(i:Nat)(x:α):bq f i x i=x:=by simp[bq]
theorem a_(f:Nat->α){i j:Nat}(x:α)(h:j≠i):bq f i x j=f j:=by
 unfold bq;have:Nat.beq j i=false:=by rw[cy];intro e;exact h (de e)
 rw[this]
theorem jO(f:Nat->α)(i:Nat)(x:α)(h:f i=x):bq f i x=f:=by
 funext j;by_cases e:j=i
 ·subst e;rw[aH,h]
 rw[a_ _ _ e]
inductive aQ(S:Nat->Prop)(w:World):PV->Value->Prop
 | im (x:Value):aQ S w (.im x) x
 | ag (cs:List PV) (vs:Array Value) (hl:cs.length=vs.size) (h1:∀u∈vs.toList,u.oneCell'=true) (h:∀(i:Nat) c v,cs[i]?=some c->vs[i]?=some v->aQ S w c v):aQ S w (.ag cs) (.agg vs)
 | nil (a:Option Addr) (c:Nat):aQ S w (.sl []) (.slice a 0 c)
 | sl (es:List (List PV)) (k b off c:Nat) (U:Nat->Nat->Value) (hc:es.length<=c) (hS:S b) (hk:∀e∈es,e.length=k)
   (hcell:∀(i:Nat) e (j:Nat) x,es[i]?=some e->e[j]?=some x->w.cell? ⟨b,off+i*k+j,none⟩=some (U i j)/\(U i j).oneCell'=true)
   (h:∀(i:Nat) e (j:Nat) x,es[i]?=some e->e[j]?=some x->aQ S w x (U i j)):aQ S w (.sl es) (.slice (some ⟨b,off,none⟩) es.length c)
 | ip (cs:List PV) (b off:Nat) (U:Nat->Value) (hS:S b) (hcell:∀(j:Nat) x,cs[j]?=some x->w.cell? ⟨b,off+j,none⟩=some (U j)/\(U j).oneCell'=true)
   (h:∀(j:Nat) x,cs[j]?=some x->aQ S w x (U j)):aQ S w (.ip cs) (.pointer (some ⟨b,off,none⟩))
 | fn (f:FuncId) (cap:List PV) (vs:Array Value) (hl:cap.length=vs.size) (h:∀(i:Nat) c v,cap[i]?=some c->vs[i]?=some v->aQ S w c v):aQ S w (.fn f cap) (.func (.func f) #[] vs)
variable {w':World}
theorem aQ.mono{S S':Nat->Prop}{w:World}{x:PV}{v:Value}(h:aQ S w x v)(hS:∀b,S b->S' b)(z:∀b,S b->w'.heap[b]?=w.heap[b]?):aQ S' w' x v:=by
 induction h with
 | im x=>exact .im x
 | ag cs vs u d h ih=>exact .ag cs vs u d ih
 | nil a c=>exact .nil a c
 | sl es k b off c U hc hb hk hcell h ih=>exact .sl es k b off c U hc (hS b hb) hk (fun i e j x d D=>⟨(CT (z b hb)).trans (hcell i e j x d D).1,(hcell i e j x d D).2⟩) ih
 | ip cs b off U hb hcell h ih=>exact .ip cs b off U (hS b hb) (fun j x d=>⟨(CT (z b hb)).trans (hcell j x d).1,(hcell j x d).2⟩) ih
 | fn f cap vs u h ih=>exact .fn f cap vs u ih
structure Fr(mv:Nat->Prop)(w w':World):Prop where
 os:w'.os=w.os
 tape:w'.tape=w.tape
 output:w'.output=w.output
 size:w.heap.size<=w'.heap.size
 block:∀k,k<w.heap.size->¬mv k->w'.heap[k]?=w.heap[k]?
theorem Fr.refl(mv:Nat->Prop)(w:World):Fr mv w w:=⟨rfl,rfl,rfl,aF _,fun _ _ _=>rfl⟩
theorem Fr.trans{mv d:Nat->Prop}{a b c:World}(h:Fr mv a b)(k:Fr d b c)(D:∀i,d i->mv i\/a.heap.size<=i):Fr mv a c:=
 ⟨k.os.trans h.os,k.tape.trans h.tape,k.output.trans h.output,aO h.size k.size,fun i hi u=>
  (k.block i (cG hi h.size) (fun I=>by rcases D i I with z | z;exact u z;omega)).trans (h.block i hi u)⟩
def aC{α:Type}(P:Program)(w:World)(R:α->Value->Prop)(e:TypeId)(es:List (List α))(v:Value):Prop:=
 ∃i xs,P.info? e=some i/\0<i.size/\w.ownsRow 0 e i.size v es.length xs/\(∀r∈es,r.length=i.size)/\(∀u∈xs,u.oneCell'=true)/\
  ∀(a:Nat) r (j:Nat) x,es[a]?=some r->r[j]?=some x->∃u,xs[a*i.size+j]?=some u/\R x u
def bY:Value->Option Nat
 | .slice (some a) _ _=>some a.block
 | .pointer (some a)=>some a.block
 | .map (some g)=>some g
 | _=>none
inductive br(S:Nat->Prop)(w:World)(P:Program)(L:Nat->Prop)(rho:Nat->Value)(h:Nat->AB):AV->Value->Prop
 | p (x:PV) (v:Value) (hx:aQ S w x v):br S w P L rho h (.p x) v
 | nl:br S w P L rho h .nl (.slice none 0 0)
 | ow (id:Nat) (v:Value) (hv:(h id).there->L id/\v=rho id):br S w P L rho h (.ow id) v
 | rp (id i off:Nat) (v:Value) (hv:∀e,(h id).pq=some e->L id/\∃g n c ti,rho id=.slice (some ⟨g,0,none⟩) n c/\P.info? e=some ti/\v=.pointer (some ⟨g,i*ti.size+off,none⟩)):br S w P L rho h (.rp id i off) v
 | bx (id off:Nat) (v:Value) (hv:(h id).there->L id/\∃g,rho id=.pointer (some ⟨g,0,none⟩)/\v=.pointer (some ⟨g,off,none⟩)):br S w P L rho h (.bx id off) v
 | vw (id lo hi:Nat) (v:Value) (hv:∀e,(h id).pq=some e->L id/\∃n c a ti,rho id=.slice a n c/\P.info? e=some ti/\lo<=hi/\hi<=n/\n<=c/\v=.slice (if c=lo then a else a.map (·.add (lo*ti.size))) (hi-lo) (c-lo)):br S w P L rho h (.vw id lo hi) v
 | fn (f:FuncId) (cap:List AV) (vs:Array Value) (hl:cap.length=vs.size) (hc:∀(i:Nat) c v,cap[i]?=some c->vs[i]?=some v->br S w P L rho h c v):br S w P L rho h (.fn f cap) (.func (.func f) #[] vs)
 | tu (xs:List AV) (vs:Array Value) (hl:xs.length=vs.size) (hc:∀(i:Nat) c v,xs[i]?=some c->vs[i]?=some v->br S w P L rho h c v):br S w P L rho h (.tu xs) (.tuple vs)
 | st (xs:List AV) (vs:Array Value) (hl:xs.length=vs.size) (h1:∀u∈vs.toList,u.oneCell'=true) (hc:∀(i:Nat) c v,xs[i]?=some c->vs[i]?=some v->br S w P L rho h c v):br S w P L rho h (.st xs) (.agg vs)
 | junk (v:Value):br S w P L rho h .junk v
def P3(S:Nat->Prop)(w:World)(P:Program):HC->Value->Prop
 | .p x,u=>aQ S w x u
 | .row e es,u=>aC P w (aQ S w) e es u
structure JV(S:Nat->Prop)(w:World)(P:Program)(cs:List HC)(g:Nat)(ty:TypeId)(c:Array Value):Prop where
 hp:w.heap[g]?=some (.cells c ty (0,0))
 sz:c.size=cs.length
 cell:∀(j:Nat) x u,cs[j]?=some x->c[j]?=some u->u.oneCell'=true/\P3 S w P x u
 top:∀(j:Nat) x u b,cs[j]?=some x->c[j]?=some u->x.isRow->bY u=some b->b≠g
 dis:∀(i j:Nat) x y u v b,cs[i]?=some x->cs[j]?=some y->c[i]?=some u->c[j]?=some v->x.isRow->y.isRow->bY u=some b->bY v=some b->i=j
def s_(S:Nat->Prop)(w:World)(P:Program)(L:Nat->Prop)(rho:Nat->Value)(h:Nat->AB):HX->Value->Prop
 | .av x,u=>br S w P L rho h x u
 | .row e es,u=>aC P w (aQ S w) e es u
def ew(w:World)(es:List (List HX))(g:Nat)(a j:Nat)(u:Value):Prop:=∃(r:List HX) (e:TypeId) (xs:List (List PV)) (c:Array Value) (ty:TypeId) (m:Nat×Nat),es[a]?=some r/\r[j]?=some (.row e xs)/\w.heap[g]?=some (.cells c ty m)/\c[a*r.length+j]?=some u
structure v_(w:World)(es:List (List HX))(v:Value):Prop where
 top:∀g a j u b,bY v=some g->ew w es g a j u->bY u=some b->b≠g
 dis:∀g a j a' j' u u' b,bY v=some g->ew w es g a j u->ew w es g a' j' u'->bY u=some b->bY u'=some b->a=a'/\j=j'
def VR(w:World)(x:AB)(v:Value)(k:Nat):Prop:=∃e es g a j u,x=.ay e es/\bY v=some g/\ew w es g a j u/\bY u=some k
def VS(w:World)(x:AB)(v:Value)(k:Nat):Prop:=∃cs g,x=.a7 cs/\bY v=some g/\∃(c:Array Value) (ty:TypeId) (m:Nat×Nat) (j:Nat) (y:HC) (u:Value),w.heap[g]?=some (.cells c ty m)/\cs[j]?=some y/\y.isRow/\c[j]?=some u/\bY u=some k
def YS(w:World)(x:AB)(v:Value)(k:Nat):Prop:=VS w x v k\/VR w x v k
def hasB(w:World)(x:AB)(v:Value)(k:Nat):Prop:=bY v=some k\/YS w x v k
variable {k:Nat}
theorem E2{w:World}{x:AB}{v:Value}(h:bY v=some k):hasB w x v k:=.inl h
theorem nP{w:World}{es:List (List HX)}{g a j:Nat}{u:Value}(d:w'.heap[g]?=w.heap[g]?)(h:ew w' es g a j u):ew w es g a j u:=by
 obtain⟨r,e,xs,c,z,m,D,I,J,N⟩:=h;exact⟨r,e,xs,c,z,m,D,I,by rw[<-d];exact J,N⟩
theorem d_{w:World}{x:AB}{v:Value}(J:∀g,bY v=some g->w'.heap[g]?=w.heap[g]?)(h:hasB w' x v k):hasB w x v k:=by
 rcases h with h | ⟨cs,g,z,d,c,N,m,j,y,u,D,I⟩ | ⟨e,es,g,a,j,u,z,d,D,I⟩
 ·exact .inl h
 ·exact .inr (.inl ⟨cs,g,z,d,c,N,m,j,y,u,by rw[<-J g d];exact D,I⟩)
 exact .inr (.inr ⟨e,es,g,a,j,u,z,d,nP (J g d) D,I⟩)
def QN:AB->Bool
 | .a7 _=>false
 | .ay _ _=>false
 | _=>true
theorem aD{w:World}{x:AB}{v:Value}(d:QN x=true)(h:hasB w x v k):bY v=some k:=by
 rcases h with h | ⟨cs,g,rfl,_⟩ | ⟨e,es,g,a,j,u,rfl,_⟩
 ·exact h
 ·cases d
 cases d
def fU(S:Nat->Prop)(w:World)(P:Program)(L:Nat->Prop)(rho:Nat->Value)(h:Nat->AB)(id:Nat):AB->Prop
 | .none=>True
 | .row e es=>aC P w (aQ S w) e es (rho id)
 | .jr es=>aQ S w (.sl es) (rho id)
 | .box cs=>∃g ty c,rho id=.pointer (some ⟨g,0,none⟩)/\w.heap[g]?=some (.cells c ty (0,0))/\c.size=cs.length/\∀(j:Nat) x u,cs[j]?=some x->c[j]?=some u->u.oneCell'=true/\br S w P L rho h x u
 | .jF ty cs=>∃g c,rho id=.pointer (some ⟨g,0,none⟩)/\w.heap[g]?=some (.cells c ty (0,0))/\c.size=cs.length/\∀(j:Nat) x u,cs[j]?=some x->c[j]?=some u->u.oneCell'=true/\br S w P L rho h x u
 | .ll cs=>aQ S w (.ip cs) (rho id)
 | .a7 cs=>∃g ty c,rho id=.pointer (some ⟨g,0,none⟩)/\JV S w P cs g ty c
 | .ay e es=>aC P w (s_ S w P L rho h) e es (rho id)/\v_ w es (rho id)
 | .map mk es=>∃g ms clock,rho id=.map (some g)/\w.heap[g]?=some (.map ms clock)/\ms.size=es.length/\∀(i:Nat) p m,es[i]?=some p->ms[i]?=some m->m.key=p.1/\mk.ok p.1/\aQ S w p.2 m.val
end Go.AM
namespace Go.AM
open Go.RowKit
inductive UD where
 | sc
 | int (k:IntKind)
 | st (fs:List (Nat×Nat×Bool))
 | sl (e:TypeId)
 | str
 | mp (k e:TypeId)
structure TI where
 ud:UD
 size:Nat
 bytes:Nat
 zero:List Value
 eq:Bool:=false
def UD.agg:UD->Bool
 | .st _=>true
 | _=>false
inductive Arg where
 | pv (x:PV)
 | row (e:TypeId) (es:List (List PV))
 | map (mk:MK) (es:List (Value×PV))
 | box (cs:List PV)
 | a7 (cs:List HC)
inductive AR where
 | p (x:PV)
 | own (e:TypeId) (es:List (List PV))
 | tu (xs:List PV)
 | hown (cs:List HC)
inductive Fin where
 | gone
 | row (es:List (List PV))
 | map (es:List (Value×PV))
 | box (cs:List PV)
 | a7 (cs:List HC)
structure Ctx where
 P:Program
 T:TypeId->Option TI
 md:FuncId->Nat->Bool
 E:(Nat->Prop)->World->Prop
 bl:FuncId->Bool:=fun _=>false
 bt:TypeId->Bool:=fun _=>false
 bn:TypeId->Bool:=fun _=>false
 bo:TypeId->Bool:=fun _=>false
 bf:Nat->Bool:=fun _=>false
def JW:Value->Value->Bool
 | .string a,.string b=>decide (a=b)
 | .int _ a,.int _ b=>decide (a=b)
 | .bool a,.bool b=>decide (a=b)
 | _,_=>false
def E3:List Value->List Value->Bool
 | [],[]=>true
 | x::r,y::s=>JW x y&&E3 r s
 | _,_=>false
def E4:Value->Value->Bool
 | .string a,.string b=>decide (a=b)
 | .int _ a,.int _ b=>decide (a=b)
 | .agg a,.agg b=>E3 a.toList b.toList
 | _,_=>false
def kv:List (Value×PV)->Value->Option PV
 | [],_=>none
 | (k',v)::r,k=>match E4 k k' with
  | true=>some v
  | false=>kv r k
def lO:List (Value×PV)->Value->PV->List (Value×PV)
 | [],k,v=>[(k,v)]
 | (k',u)::r,k,v=>match E4 k k' with
  | true=>(k,v)::r
  | false=>(k',u)::lO r k v
def C2:List Value->Option (List Nat)
 | []=>some []
 | .string _::r=>(C2 r).map (0::·)
 | .int .i64 _::r=>(C2 r).map (1::·)
 | .bool _::r=>(C2 r).map (2::·)
 | _=>none
def Bq(ti:TI):Option MK:=match ti.ud with
 | .str=>some .str
 | .int k=>some (.int k)
 | .st fs=>match ti.eq,fs.any (·.2.2) with
  | true,false=>(C2 ti.zero).map .st
  | _,_=>none
 | _=>none
def Vn:List Nat->List Nat->Bool
 | [],[]=>true
 | a::r,b::s=>match Nat.beq a b with
  | true=>Vn r s
  | false=>false
 | _,_=>false
def VT:MK->MK->Bool
 | .str,.str=>true
 | .int .i64,.int .i64=>true
 | .st a,.st b=>Vn a b
 | _,_=>false
def mO:List Nat->List PV->Option (List Value)
 | [],[]=>some []
 | 0::s,.im (.string x)::r=>(mO s r).map (.string x::·)
 | 1::s,.im (.int .i64 x)::r=>(mO s r).map (.int .i64 x::·)
 | 2::s,.im (.bool x)::r=>(mO s r).map (.bool x::·)
 | _,_=>none
def keyOf:MK->AV->Option Value
 | .str,.p (.im (.string s))=>some (.string s)
 | .int .i64,.p (.im (.int .i64 n))=>some (.int .i64 n)
 | .st sh,.p (.ag cs)=>(mO sh cs).map fun l=>.agg l.toArray
 | _,_=>none
abbrev KK:=AV->List (Nat×AB)->Option AB->Prop
def app(h:Nat->AB):List (Nat×AB)->Nat->AB
 | []=>h
 | (i,b)::r=>app (bq h i b) r
def yd:Value->PV
 | .slice none 0 0=>.sl []
 | v=>.im v
def SR(b:Bool)(v:Value):PV:=match b with
 | true=>.im v
 | false=>yd v
def SS:PV->AV
 | .im (.slice none 0 0)=>.nl
 | x=>.p x
def JX:Value->AV
 | .slice none 0 0=>.nl
 | v=>.p (.im v)
def C3:Value->AV
 | .slice none 0 0=>.nl
 | .agg cs=>match cs.toList.all Value.oneCell' with
  | true=>.p (.ag (cs.toList.map yd))
  | false=>.junk
 | v=>.p (.im v)
def ev(t:Nat->AV):Operand->AV
 | .tmp j=>t j
 | .const v=>C3 v
 | .global g=>.p (.im (.pointer (some ⟨g,0,none⟩)))
 | .func f=>.p (.im (.func (.func f) #[] #[]))
def eV:List AV->Option (List PV)
 | []=>some []
 | .p x::r=>(eV r).map (x::·)
 | .nl::r=>(eV r).map (.sl []::·)
 | _=>none
def mP(h:Nat->AB)(a:AV)(K:PV->List (Nat×AB)->Prop):Prop:=
 match a with
 | .p x=>K x []
 | .nl=>K (.sl []) []
 | .ow id=>match h id with
  | .row _ es=>K (.sl es) [(id,.jr es)]
  | .jr es=>K (.sl es) []
  | _=>False
 | .bx id off=>match h id with
  | .box cs=>match eV cs with
   | some xs=>K (.ip (xs.drop off)) [(id,.ll xs)]
   | none=>False
  | .ll xs=>K (.ip (xs.drop off)) []
  | _=>False
 | _=>False
def xg(h:Nat->AB):List AV->(List PV->List (Nat×AB)->Prop)->Prop
 | [],K=>K [] []
 | a::r,K=>mP h a fun x fz=>xg h r fun xs nQ=>K (x::xs) (fz++nQ)
def gn(h:Nat->AB)(a:AV)(K:PV->List (Nat×AB)->Prop):Prop:=
 match a with
 | .fn f cap=>xg h cap fun xs fz=>K (.fn f xs) fz
 | a=>mP h a K
def tF:PV->Option (List PV)
 | .ag cs=>some cs
 | .im x=>match x.oneCell' with
  | true=>some [.im x]
  | false=>none
 | x=>some [x]
def wa(h:Nat->AB):AV->Bool
 | .p (.im x)=>x.oneCell'
 | .p (.ag _)=>false
 | .p _=>true
 | .nl=>true
 | .ow id=>match h id with
  | .row _ _=>true
  | .ay _ _=>true
  | .jr _=>true
  | _=>false
 | .bx id _=>match h id with
  | .none=>false
  | _=>true
 | .rp id _ _=>match h id with
  | .row _ _=>true
  | .ay _ _=>true
  | _=>false
 | .fn _ _=>true
 | _=>false
def setCells{α:Type}:List α->Nat->List α->List α
 | cs,_,[]=>cs
 | cs,off,x::r=>setCells (cs.set off x) (off+1) r
def tG(id:Nat):List (Nat×AB)->Bool
 | []=>true
 | (i,_)::r=>match Nat.beq i id with
  | true=>false
  | false=>tG id r
def IK(a b:Nat):Bool:=Nat.ble a b
def Bi(a b:Nat):Bool:=Nat.beq a b
def YT(x:Int):Prop:=-9223372036854775808<=x/\x<=9223372036854775807
def QO{α:Type}:List α->Bool
 | []=>true
 | _=>false
def kB(a b:IntKind):Bool:=match a,b with
 | .i8,.i8 | .i16,.i16 | .i32,.i32 | .i64,.i64 | .u8,.u8 | .u16,.u16 | .u32,.u32 | .u64,.u64=>true
 | _,_=>false
def Ti:IntKind->Bool
 | .i64=>true
 | _=>false
def wb(k:IntKind)(n:Int)(K:Value->Prop):Prop:=match Ti k with
 | true=>YT n/\K (.int .i64 n)
 | false=>K (.int k (k.wrap n))
def bL:List Value->List PV->List PV->Option Bool
 | [],[],[]=>some true
 | .int _ _::z,.im (.int k a)::r,.im (.int k' b)::s=>match kB k k' with
  | true=>(bL z r s).map (decide (a=b)&&·)
  | false=>none
 | .string _::z,.im (.string a)::r,.im (.string b)::s=>(bL z r s).map (decide (a=b)&&·)
 | .bool _::z,.im (.bool a)::r,.im (.bool b)::s=>(bL z r s).map (decide (a=b)&&·)
 | _,_,_=>none
def JY(T:TypeId->Option TI)(op:BinOp)(t:TypeId)(x:PV)(K:Value->Prop):Prop:=match x with
 | .sl es=>match QO es with
  | true=>False
  | false=>match T t with
   | some { ud:=.sl _,.. }=>match op with
    | .eql=>K (.bool false)
    | .neq=>K (.bool true)
    | _=>False
   | _=>False
 | _=>False
def VU:BinOp->Bool
 | .shr=>true
 | _=>false
def tH(T:TypeId->Option TI)(op:BinOp)(t:TypeId)(x y:PV)(K:Value->Prop):Prop:=
 match x,y with
 | .im (.int k a),.im (.int k' b)=>match VU op with
  | true=>(0<=b/\b<64)/\K (.int k (a.fdiv (2 ^ (min b.toNat k.bits))))
  | false=>match kB k k' with
  | false=>False
  | true=>match op with
   | .add=>wb k (a+b) K
   | .sub=>wb k (a-b) K
   | .mul=>wb k (a*b) K
   | .quo=>b≠0/\wb k (a.tdiv b) K
   | .rem=>b≠0/\K (.int k (a.tmod b))
   | .eql=>K (.bool (decide (a=b)))
   | .neq=>K (.bool (!decide (a=b)))
   | .lss=>K (.bool (decide (a<b)))
   | .leq=>K (.bool (decide (a<=b)))
   | .gtr=>K (.bool (decide (a>b)))
   | .geq=>K (.bool (decide (a>=b)))
   | _=>False
 | .im (.string a),.im (.string b)=>match op with
  | .add=>a.size+b.size<=9223372036854775807/\K (.string (a++b))
  | .eql=>K (.bool (decide (a=b)))
  | .neq=>K (.bool (!decide (a=b)))
  | .lss=>K (.bool (Op.bytesLess a.data.toList b.data.toList))
  | .leq=>K (.bool (Op.bytesLess a.data.toList b.data.toList||decide (a=b)))
  | .gtr=>K (.bool !(Op.bytesLess a.data.toList b.data.toList||decide (a=b)))
  | .geq=>K (.bool !(Op.bytesLess a.data.toList b.data.toList))
  | _=>False
 | .im (.bool a),.im (.bool b)=>match T t with
  | some { ud:=.sc,eq:=true,.. }=>match op with
   | .eql=>K (.bool (decide (a=b)))
   | .neq=>K (.bool (!decide (a=b)))
   | _=>False
  | _=>False
 | .ag a,.ag b=>match T t with
  | some { ud:=.st _,eq:=true,size:=n,zero:=z,.. }=>match Bi n a.length with
   | false=>False
   | true=>match op with
    | .eql=>match bL z a b with
     | some r=>K (.bool r)
     | none=>False
    | .neq=>match bL z a b with
     | some r=>K (.bool !r)
     | none=>False
    | _=>False
  | _=>False
 | _,_=>False
def C4(S:Nat->Prop)(w:World)(mk:MK)(es:List (Value×PV))(v:Value):Prop:=∃g ms clock,v=.map (some g)/\w.heap[g]?=some (.map ms clock)/\ms.size=es.length/\∀(i:Nat) p m,es[i]?=some p->ms[i]?=some m->m.key=p.1/\mk.ok p.1/\aQ S w p.2 m.val
def G2(S:Nat->Prop)(w:World)(P:Program):Arg->Value->Prop
 | .pv x,v=>aQ S w x v
 | .row e es,v=>aC P w (aQ S w) e es v/\∀g,bY v=some g->¬S g
 | .map mk es,v=>C4 S w mk es v/\∀g,bY v=some g->¬S g
 | .box cs,v=>∃g ty c,v=.pointer (some ⟨g,0,none⟩)/\w.heap[g]?=some (.cells c ty (0,0))/\c.size=cs.length/\¬S g/\∀(j:Nat) x u,cs[j]?=some x->c[j]?=some u->u.oneCell'=true/\aQ S w x u
 | .a7 cs,v=>∃g ty c,v=.pointer (some ⟨g,0,none⟩)/\JV S w P cs g ty c/\∀k,hasB w (.a7 cs) v k->¬S k/\k<w.heap.size
def C5:Arg->AB
 | .a7 cs=>.a7 cs
 | _=>.none
def QP:Fin->AB
 | .a7 cs=>.a7 cs
 | _=>.none
def Arg.handed:Arg->Bool
 | .pv _=>false
 | _=>true
def Mv(w:World)(args:List Arg)(vs:Array Value)(g:Nat):Prop:=∃(j:Nat) (x:Arg) (v:Value),args[j]?=some x/\vs[j]?=some v/\x.handed=true/\hasB w (C5 x) v g
def pr(S:Nat->Prop)(w:World)(P:Program):Arg->Fin->Value->Prop
 | _,.gone,_=>True
 | .row e _,.row es,v=>aC P w (aQ S w) e es v/\∀g,bY v=some g->¬S g
 | .map mk _,.map es,v=>C4 S w mk es v/\∀g,bY v=some g->¬S g
 | .box _,.box cs,v=>∃g ty c,v=.pointer (some ⟨g,0,none⟩)/\w.heap[g]?=some (.cells c ty (0,0))/\c.size=cs.length/\¬S g/\∀(j:Nat) x u,cs[j]?=some x->c[j]?=some u->u.oneCell'=true/\aQ S w x u
 | .a7 _,.a7 cs,v=>∃g ty c,v=.pointer (some ⟨g,0,none⟩)/\JV S w P cs g ty c/\∀k,hasB w (.a7 cs) v k->¬S k
 | _,_,_=>False
def Fin.kept:Fin->Bool
 | .gone=>false
 | _=>true
def LB(S:Nat->Prop)(w:World)(P:Program):AR->Value->Prop
 | .p x,v=>aQ S w x v
 | .own e es,v=>aC P w (aQ S w) e es v/\∀g,bY v=some g->¬S g
 | .hown cs,v=>∃g ty c,v=.pointer (some ⟨g,0,none⟩)/\JV S w P cs g ty c/\∀k,hasB w (.a7 cs) v k->¬S k
 | .tu xs,v=>∃vs:Array Value,v=.tuple vs/\xs.length=vs.size/\∀(i:Nat) x u,xs[i]?=some x->vs[i]?=some u->aQ S w x u
def AR.owns:AR->Bool
 | .own ..=>true
 | .hown ..=>true
 | _=>false
def AR.ab:AR->AB
 | .hown cs=>.a7 cs
 | _=>.none
def fx(S:Nat->Prop)(w:World)(P:Program):List Arg->List Fin->List Value->Prop
 | [],[],[]=>True
 | x::xs,fs,v::vs=>match x.handed with
  | false=>fx S w P xs fs vs
  | true=>match fs with
   | f::fs=>pr S w P x f v/\fx S w P xs fs vs
   | []=>False
 | _,_,_=>False
def dG(w:World):List Arg->List Fin->List Value->Nat->Nat->Prop
 | x::xs,fs,v::vs,i,g=>match x.handed with
  | false=>match i with
   | 0=>False
   | i+1=>dG w xs fs vs i g
  | true=>match fs with
   | f::fs=>match i with
    | 0=>f.kept=true/\hasB w (QP f) v g
    | i+1=>dG w xs fs vs i g
   | []=>False
 | _,_,_,_,_=>False
def uy(w w':World)(args:List Arg)(fin:List Fin)(vs:Array Value):Prop:=
 (∀i g,dG w' args fin vs.toList i g->g<w'.heap.size/\(w.heap.size<=g\/Mv w args vs g))/\∀i j g,dG w' args fin vs.toList i g->dG w' args fin vs.toList j g->i=j
def af(C:Ctx)(f:FuncId)(args:List Arg)(r:AR)(fin:List Fin):Prop:=
 (∃ fn : Func, C.P.funcs[f]? = some fn ∧ (fn.name == "runtime.NumGoroutine") = false ∧ fn.body.isNone = false) ∧
 ∀(S:Nat->Prop) (w:World) (vs:Array Value),C.E S w->(∀b,S b->b<w.heap.size)->args.length=vs.size ->
  (∀(j:Nat) x v,args[j]?=some x->vs[j]?=some v->G2 S w C.P x v)->
  (∀(i j:Nat) x y v u g,args[i]?=some x->args[j]?=some y->vs[i]?=some v->vs[j]?=some u->x.handed=true->y.handed=true->hasB w (C5 x) v g->hasB w (C5 y) u g->i=j)->
  Calls C.P f vs w fun e w'=>∃v S',e=.returned v/\Fr (Mv w args vs) w w'/\(∀b,S b->S' b)/\(∀b,S' b->b<w'.heap.size)/\(∀b,S' b->S b\/w.heap.size<=b\/Mv w args vs b)/\
   LB S' w' C.P r v/\fx S' w' C.P args fin vs.toList/\uy w w' args fin vs/\(∀g,r.owns=true->hasB w' r.ab v g->g<w'.heap.size/\(w.heap.size<=g\/Mv w args vs g)/\∀i,¬dG w' args fin vs.toList i g)
def g_(md:Nat->Bool)(h:Nat->AB):Nat->List AV->(List Arg->List (Nat×AB)->List (Nat×AB)->Prop)->Prop
 | _,[],K=>K [] [] []
 | j,a::r,K=>match md j with
  | false=>gn h a fun x fz=>g_ md h (j+1) r fun xs ids nQ=>K (.pv x::xs) ids (fz++nQ)
  | true=>match a with
   | .ow id=>match h id with
    | .row e es=>g_ md h (j+1) r fun xs ids fz=>K (.row e es::xs) ((id,.row e es)::ids) fz
    | .jr es=>g_ md h (j+1) r fun xs ids fz=>K (.pv (.sl es)::xs) ids fz
    | .map mk es=>g_ md h (j+1) r fun xs ids fz=>K (.map mk es::xs) ((id,.map mk es)::ids) fz
    | _=>False
   | .p x=>g_ md h (j+1) r fun xs ids fz=>K (.pv x::xs) ids fz
   | .bx id 0=>match h id with
    | .box cs=>match eV cs with
     | some ys=>g_ md h (j+1) r fun xs ids fz=>K (.box ys::xs) ((id,.box cs)::ids) fz
     | none=>False
    | .a7 cs=>g_ md h (j+1) r fun xs ids fz=>K (.a7 cs::xs) ((id,.a7 cs)::ids) fz
    | _=>False
   | _=>False
def E5:PV->Bool
 | .im _=>true
 | .ag cs=>cs.all fun | .im _=>true | _=>false
 | _=>false
def AR.free:AR->Bool
 | .p x=>E5 x
 | .tu xs=>xs.all E5
 | .own ..=>false
 | .hown ..=>false
def gO:List (Nat×AB)->List Fin->Option (List (Nat×AB))
 | [],[]=>some []
 | (id,_)::ids,.gone::fs=>(gO ids fs).map ((id,.none)::·)
 | (id,.row e _)::ids,.row es::fs=>(gO ids fs).map ((id,.row e es)::·)
 | (id,.map mk _)::ids,.map es::fs=>(gO ids fs).map ((id,.map mk es)::·)
 | (id,.box _)::ids,.box cs::fs=>(gO ids fs).map ((id,.box (cs.map .p))::·)
 | (id,.a7 _)::ids,.a7 cs::fs=>(gO ids fs).map ((id,.a7 cs)::·)
 | _,_=>none
def VV:AR->Option AB
 | .own e es=>some (.row e es)
 | .hown cs=>some (.a7 cs)
 | _=>none
def SU(d:Nat):AR->AV
 | .p x=>.p x
 | .own ..=>.ow d
 | .hown _=>.bx d 0
 | .tu xs=>.tu (xs.map .p)
def isNil{α:Type}:List α->Bool
 | []=>true
 | _=>false
def IL:List (Nat×AB)->List (Nat×AB)->Bool
 | [],_=>true
 | (i,_)::r,fz=>tG i fz&&tG i r&&IL r fz
def pt(C:Ctx)(h:Nat->AB)(d:Nat)(f:FuncId)(args:List AV)(K:KK):Prop:=
 g_ (C.md f) h 0 args fun xs ids fz=>∃r fin,af C f xs r fin/\match gO ids fin with
  | some fe=>match IL ids fz with
   | true=>match r.free&&isNil ids with
    | true=>K (SU d r) [] none
    | false=>K (SU d r) (fz++fe) (VV r)
   | false=>False
  | none=>False
inductive Tj:HX->PV->Prop
 | p (x:PV):Tj (.av (.p x)) x
 | nl:Tj (.av .nl) (.sl [])
 | row (e:TypeId) (xs:List (List PV)):Tj (.row e xs) (.sl xs)
structure SV(es:List (List HX))(ps:List (List PV)):Prop where
 len:ps.length=es.length
 row:∀(a:Nat) r q,es[a]?=some r->ps[a]?=some q->q.length=r.length/\∀(j:Nat) x y,r[j]?=some x->q[j]?=some y->Tj x y
inductive oI(h:Nat->AB):AV->PV->Prop
 | p (x:PV):oI h (.p x) x
 | nl:oI h .nl (.sl [])
 | row (id:Nat) (e:TypeId) (es:List (List PV)) (hr:h id=.row e es):oI h (.ow id) (.sl es)
 | jr (id:Nat) (es:List (List PV)) (hr:h id=.jr es):oI h (.ow id) (.sl es)
 | ay (id:Nat) (e:TypeId) (es:List (List HX)) (ps:List (List PV)) (hr:h id=.ay e es) (hp:SV es ps):oI h (.ow id) (.sl ps)
inductive pw(h:Nat->AB):List AV->List PV->Prop
 | nil:pw h [] []
 | cons {a:AV} {x:PV} {as:List AV} {xs:List PV} (h1:oI h a x) (h2:pw h as xs):pw h (a::as) (x::xs)
inductive View(h:Nat->AB):AV->PV->Prop
 | one {a:AV} {x:PV} (h1:oI h a x):View h a x
 | box (id off:Nat) (cs:List AV) (xs:List PV) (hb:h id=.box cs) (hx:pw h cs xs):View h (.bx id off) (.ip (xs.drop off))
 | ll (id off:Nat) (xs:List PV) (hb:h id=.ll xs):View h (.bx id off) (.ip (xs.drop off))
inductive uz(h:Nat->AB):List AV->List PV->Prop
 | nil:uz h [] []
 | cons {a:AV} {x:PV} {as:List AV} {xs:List PV} (h1:View h a x) (h2:uz h as xs):uz h (a::as) (x::xs)
def Tk(C:Ctx)(h:Nat->AB)(d:Nat)(f:FuncId)(args:List AV)(K:KK):Prop:=∃xs r,uz h args xs/\af C f (xs.map .pv) r []/\r.free=true/\K (SU d r) [] none
def VW:AV->Bool
 | .ow _=>true
 | _=>false
def Br{α:Type}(f:α->Bool):List α->Bool
 | []=>false
 | x::r=>match f x with
  | true=>true
  | false=>Br f r
def eW(h:Nat->AB):AV->Bool
 | .bx id _=>match h id with
  | .box cs=>Br VW cs
  | _=>false
 | .ow id=>match h id with
  | .ay _ _=>true
  | _=>false
 | _=>false
def P4(cs:List AV)(ys:List PV):Prop:=ys.length=cs.length/\∀(j:Nat) x,cs[j]?=some (.p x)->ys[j]?=some x
def wc(h:Nat->AB):AV->Bool
 | .p (.sl _)=>true
 | .p (.im (.slice _ _ _))=>true
 | .ow id=>match h id with
  | .row _ _=>true
  | _=>false
 | .nl=>true
 | _=>false
def QQ:PV->Prop
 | .im _=>True
 | .sl es=>∀r∈es,∃k n,r=[.im (.int k n)]
 | _=>False
def Tl:PV->Prop
 | .ag cs=>∀c∈cs,QQ c
 | x=>QQ x
def zi(C:Ctx)(h:Nat->AB)(f:FuncId)(args:List AV)(K:KK):Prop:=match args with
 | [.bx id 0,.p y,.ow iw]=>match h id,h iw with
  | .box cs,.row e es=>∃x dA,(∀ys,P4 cs ys->af C f [.pv (.ip ys),.pv y,.row e es] (.p x) [.row dA])/\(∀c∈cs,wc h c=true)/\Tl x/\(∀r∈dA,∀z∈r,E5 z=true)/\K (.p x) [(iw,.row e dA)] none
  | _,_=>False
 | _=>False
def uA(C:Ctx)(h:Nat->AB)(d:Nat)(f:FuncId)(args:List AV)(K:KK):Prop:=match Br (eW h) args with
 | false=>pt C h d f args K
 | true=>match C.md f 90 with
  | false=>Tk C h d f args K
  | true=>zi C h f args K
def QR(C:Ctx)(f:FuncId)(xs:List PV)(ty e:TypeId)(es:List (List PV))(r:AR)(ch:Bool)(dA:Option (List (List PV))):Prop:=
 (∃ fn : Func, C.P.funcs[f]? = some fn ∧ (fn.name == "runtime.NumGoroutine") = false ∧ fn.body.isNone = false) ∧
 ∀(S:Nat->Prop) (w:World) (vs:List Value) (b:Nat) (u0 u1:Value),C.E S w->(∀k,S k->k<w.heap.size)->xs.length=vs.length ->
  (∀(j:Nat) x v,xs[j]?=some x->vs[j]?=some v->aQ S w x v)->w.heap[b]?=some (.cells #[u0,u1] ty (0,0))->(u0=.pointer none\/u0=.pointer (some ⟨b,0,none⟩))->
  aC C.P w (aQ S w) e es u1->¬S b->(∀g,bY u1=some g->¬S g/\g≠b/\g<w.heap.size)->
  Calls C.P f (vs++[Value.pointer (some ⟨b,0,none⟩)]).toArray w fun e' w'=>∃v,e'=.returned v/\Fr (fun k=>k=b\/bY u1=some k) w w'/\LB S w' C.P r v/\match dA with
   | none=>True
   | some dA=>∃u1',w'.heap[b]?=some (.cells #[(match ch with | true=>Value.pointer (some ⟨b,0,none⟩) | false=>u0),u1'] ty (0,0))/\aC C.P w' (aQ S w') e dA u1'/\∀g,bY u1'=some g->g<w'.heap.size/\(bY u1=some g\/w.heap.size<=g)
def rP:List AV->Option (List AV×AV)
 | []=>none
 | [x]=>some ([],x)
 | x::y::r=>match rP (y::r) with
  | some (l,z)=>some (x::l,z)
  | none=>none
def P5(id:Nat):AV->Bool
 | .p (.im (.pointer none))=>true
 | .bx i 0=>Nat.beq i id
 | _=>false
def xh(ch:Bool)(id:Nat)(c:AV):AV:=match ch with
 | true=>.bx id 0
 | false=>c
def xi(C:Ctx)(h:Nat->AB)(d:Nat)(f:FuncId)(args:List AV)(K:KK):Prop:=
 match rP args with
 | some (as,.bx id 0)=>match h id with
  | .jF ty [c,.ow iw]=>match P5 id c with
   | true=>match h iw with
    | .row e es=>xg h as fun xs fz=>∃r ch dA,QR C f xs ty e es r ch dA/\match r.free&&(tG id fz&&(tG iw fz&&!Nat.beq id iw)) with
     | true=>match dA with
      | some dA=>K (SU d r) (fz++[(iw,.none),(id,.jF ty [xh ch id c,.ow d])]) (some (.row e dA))
      | none=>K (SU d r) (fz++[(iw,.none),(id,.none)]) none
     | false=>False
    | _=>False
   | false=>False
  | _=>False
 | _=>False
def kq(h:Nat->AB)(fs:List (Nat×Nat×Bool))(rho:Operand->AV):List (Nat×Operand)->List PV->(List PV->List (Nat×AB)->Prop)->Prop
 | [],cs,K=>K cs []
 | (i,x)::r,cs,K=>match fs[i]? with
  | some (off,size,_)=>gn h (rho x) fun y fz=>match tF y with
   | some ys=>match Bi ys.length size&&IK (off+size) cs.length with
    | true=>kq h fs rho r (setCells cs off ys) fun nz nQ=>K nz (fz++nQ)
    | false=>False
   | none=>False
  | none=>False
def l9(h:Nat->AB)(fs:List (Nat×Nat×Bool))(rho:Operand->AV):List (Nat×Operand)->List AV->(List AV->Prop)->Prop
 | [],cs,K=>K cs
 | (i,x)::r,cs,K=>match fs[i]? with
  | some (off,size,_)=>match Bi size 1&&IK (off+1) cs.length&&wa h (rho x) with
   | true=>l9 h fs rho r (cs.set off (rho x)) K
   | false=>False
  | none=>False
def xj(b:Bool)(h:Nat->AB)(a:AV)(K:PV->List (Nat×AB)->Prop):Prop:=match b,a with
 | true,.nl=>K (.im (.slice none 0 0)) []
 | _,a=>gn h a K
def hM(b:Bool)(h:Nat->AB)(size:Nat)(rho:Operand->AV):List (Nat×Operand)->List (List PV)->(List (List PV)->List (Nat×AB)->Prop)->Prop
 | [],es,K=>K es []
 | (i,x)::r,es,K=>xj b h (rho x) fun y fz=>match tF y with
  | some ys=>match Bi ys.length size&&Nat.blt i es.length with
   | true=>hM b h size rho r (es.set i ys) fun dA nQ=>K dA (fz++nQ)
   | false=>False
  | none=>False
def hY(h:Nat->AB)(a:AV)(K:List (List PV)->Prop):Prop:=match a with
 | .p (.sl es)=>K es
 | .nl=>K []
 | .ow id=>match h id with
  | .row _ es=>K es
  | .jr es=>K es
  | _=>False
 | _=>False
inductive CK where
 | len
 | clear
 | min
 | max
 | append
 | val (g:Operand)
 | other
def gf:Builtin->CK
 | .len=>.len
 | .clear=>.clear
 | .min=>.min
 | .max=>.max
 | .append=>.append
 | _=>.other
def fq:Callee->CK
 | .builtin b=>gf b
 | .value g=>.val g
 | .invoke _ _=>.other
def IM:Fn->Option FuncId
 | .func f=>some f
 | _=>none
def IN:Value->Option (FuncId×List AV)
 | .func fn first cap=>match isNil first.toList&&isNil cap.toList with
  | true=>match IM fn with
   | some f=>some (f,[])
   | none=>none
  | false=>none
 | _=>none
def IP:PV->Option (FuncId×List AV)
 | .im v=>IN v
 | .fn f cap=>some (f,cap.map .p)
 | _=>none
def zj:AV->Option (FuncId×List AV)
 | .p x=>IP x
 | .fn f cap=>some (f,cap)
 | _=>none
def zk(ti:TI):PV:=match ti.ud.agg with
 | true=>.ag (ti.zero.map yd)
 | false=>match ti.zero with
  | z::_=>yd z
  | []=>.im undef
def gP(C:Ctx)(rho:Operand->AV)(h:Nat->AB)(t:TypeId)(x:Operand)(lo hi:Option Operand)(K:KK):Prop:=
  let l:=match lo with | some y=>rho y | none=>.p (.im (.int .i64 0))
  match C.T t with
  | some { ud:=.str,.. }=>match rho x with
   | .p (.im (.string s))=>
    match l,(match hi with | some y=>rho y | none=>.p (.im (.int .i64 s.size))) with
    | .p (.im (.int _ a)),.p (.im (.int _ b))=>(0<=a/\a<=b/\b<=s.size)/\K (.p (.im (.string (s.extract a.toNat b.toNat)))) [] none
    | _,_=>False
   | _=>False
  | some { ud:=.sl e,.. }=>match C.T e with
   | none=>False
   | some te=>gn h (rho x) fun y fz=>match y with
    | .sl es=>match l,(match hi with | some y=>rho y | none=>.p (.im (.int .i64 es.length))) with
     | .p (.im (.int _ a)),.p (.im (.int _ b))=>(0<=a/\a<=b/\b<=es.length/\∀r∈es,r.length=te.size)/\K (.p (.sl ((es.take b.toNat).drop a.toNat))) fz none
     | _,_=>False
    | _=>False
  | _=>False
def uB(C:Ctx)(rho:Operand->AV)(t:TypeId)(lo hi:Option Operand)(id:Nat)(e':TypeId)(es:List (List PV))(K:KK):Prop:=
 match C.T t with
 | some { ud:=.sl e,.. }=>match Bi e' e with
  | true=>match (match lo with | some y=>rho y | none=>.p (.im (.int .i64 0))),(match hi with | some y=>rho y | none=>.p (.im (.int .i64 es.length))) with
   | .p (.im (.int _ a)),.p (.im (.int _ b))=>(0<=a/\a<=b/\b<=es.length)/\K (.vw id a.toNat b.toNat) [] none
   | _,_=>False
  | false=>False
 | _=>False
def hlen(h:Nat->AB):AV->Option Nat
 | .ow id=>match h id with
  | .ay _ es=>some es.length
  | _=>none
 | .vw id lo hi=>match h id with
  | .row _ _=>some (hi-lo)
  | _=>none
 | _=>none
def qA(r:List PV):List HX:=r.map fun x=>.av (SS x)
def bV(C:Ctx)(o:Oper)(rho:Operand->AV)(h:Nat->AB)(K:KK):Prop:=
 let d:=o.dst.getD 0
 match o.op with
 | .move x=>K (rho x) [] none
 | .assign x=>K (rho x) [] none
 | .pick c a b=>match rho c with
  | .p (.im (.bool t))=>match t with
   | true=>K (rho a) [] none
   | false=>K (rho b) [] none
  | _=>False
 | .binOp op t x y _=>match rho x,rho y with
  | .p a,.p b=>tH C.T op t a b fun v=>K (.p (.im v)) [] none
  | .p a,.nl=>JY C.T op t a fun v=>K (.p (.im v)) [] none
  | _,_=>False
 | .unOp op _ x=>match op,rho x with
  | .not,.p (.im (.bool b))=>K (.p (.im (.bool !b))) [] none
  | .neg,.p (.im (.int k n))=>wb k (0-n) fun v=>K (.p (.im v)) [] none
  | _,_=>False
 | .convert src dst x=>match rho x,C.T src,C.T dst with
  | .p (.im (.int _ n)),some _,some { ud:=.int k,.. }=>wb k n fun v=>K (.p (.im v)) [] none
  | .p (.im (.string s)),some { ud:=.str,.. },some { ud:=.str,.. }=>K (.p (.im (.string s))) [] none
  | .p (.im (.int _ n)),some { ud:=.int _,.. },some { ud:=.str,.. }=>K (.p (.im (.string (Utf8.encode n)))) [] none
  | _,_,_=>False
 | .nilCheck x=>match rho x with
  | .p (.ip cs)=>K (.p (.ip cs)) [] none
  | .bx id off=>match h id with
   | .box _=>K (.bx id off) [] none
   | .ll _=>K (.bx id off) [] none
   | _=>False
  | .rp id i off=>match h id with
   | .row _ _=>K (.rp id i off) [] none
   | .ay _ _=>K (.rp id i off) [] none
   | _=>False
  | _=>False
 | .extract x i=>match rho x with
  | .tu xs=>match xs[i]? with
   | some a=>K a [] none
   | none=>False
  | _=>False
 | .box _ x=>match rho x with
  | .p (.ag cs)=>K (.bx d 0) [] (some (.box (cs.map .p)))
  | .st xs=>K (.bx d 0) [] (some (.box xs))
  | a=>match wa h a with
   | true=>K (.bx d 0) [] (some (.box [a]))
   | false=>False
 | .alloc e=>match C.T e with
  | some ti=>match C.bt e with
   | false=>K (.bx d 0) [] (some (.box (ti.zero.map JX)))
   | true=>K (.bx d 0) [] (some (.jF e (ti.zero.map JX)))
  | none=>False
 | .load t a=>match C.T t with
  | none=>False
  | some ti=>match rho a with
   | .p (.ip cs)=>match ti.ud.agg with
    | true=>match IK ti.size cs.length with
     | true=>K (.p (.ag (cs.take ti.size))) [] none
     | false=>False
    | false=>match cs with
     | c::_=>K (.p c) [] none
     | []=>False
   | .bx id off=>match h id with
    | .box cs=>match ti.ud.agg with
     | true=>match IK (off+ti.size) cs.length,eV ((cs.drop off).take ti.size) with
      | true,some xs=>K (.p (.ag xs)) [] none
      | _,_=>False
     | false=>match cs.drop off with
      | c::_=>K c [] none
      | []=>False
    | .ll cs=>match ti.ud.agg with
     | true=>match IK (off+ti.size) cs.length with
      | true=>K (.p (.ag ((cs.drop off).take ti.size))) [] none
      | _=>False
     | false=>match cs.drop off with
      | c::_=>K (.p c) [] none
      | []=>False
    | _=>False
   | .rp id i off=>match h id with
    | .row _ es=>∃r,es[i]?=some r/\match ti.ud.agg with
     | true=>match IK (off+ti.size) r.length with
      | true=>K (.p (.ag ((r.drop off).take ti.size))) [] none
      | _=>False
     | false=>match r.drop off with
      | c::_=>K (.p c) [] none
      | []=>False
    | .ay _ es=>∃r,es[i]?=some r/\match ti.ud.agg with
     | true=>False
     | false=>match r.drop off with
      | .av c::_=>K c [] none
      | _=>False
    | _=>False
   | _=>False
 | .store t a x=>match C.T t with
  | none=>False
  | some ti=>match rho a with
   | .bx id off=>match h id with
    | .box cs=>match ti.ud.agg with
     | true=>gn h (rho x) fun y fz=>match y with
      | .ag ys=>match Bi ys.length ti.size&&IK (off+ti.size) cs.length&&tG id fz with
       | true=>K .junk (fz++[(id,.box (setCells cs off (ys.map SS)))]) none
       | false=>False
      | _=>False
     | false=>match IK (off+1) cs.length&&Bi ti.size 1&&wa h (rho x) with
      | true=>K .junk [(id,.box (cs.set off (rho x)))] none
      | false=>False
    | _=>False
   | .rp id i off=>match h id with
    | .row e es=>∃r,es[i]?=some r/\gn h (rho x) fun y fz=>match tF y with
     | some ys=>match Bi ys.length ti.size&&IK (off+ti.size) r.length&&tG id fz with
      | true=>K .junk (fz++[(id,.row e (es.set i (setCells r off ys)))]) none
      | false=>False
     | none=>False
    | .ay e es=>∃r,es[i]?=some r/\match ti.ud.agg with
     | true=>False
     | false=>match IK (off+1) r.length&&Bi ti.size 1&&wa h (rho x) with
      | true=>K .junk [(id,.ay e (es.set i (r.set off (.av (rho x)))))] none
      | false=>False
    | _=>False
   | _=>False
 | .fieldAddr t x f=>match C.T t with
  | some { ud:=.st fs,.. }=>match fs[f]? with
   | some (off,_,_)=>match rho x with
    | .p (.ip cs)=>K (.p (.ip (cs.drop off))) [] none
    | .bx id o=>match h id with
     | .none=>False
     | _=>K (.bx id (o+off)) [] none
    | .rp id i o=>match h id with
     | .row _ _=>K (.rp id i (o+off)) [] none
     | .ay _ _=>K (.rp id i (o+off)) [] none
     | _=>False
    | _=>False
   | none=>False
  | _=>False
 | .field t x f=>match C.T t,rho x with
  | some { ud:=.st fs,.. },.p (.ag cs)=>match fs[f]? with
   | some (off,size,agg)=>match agg with
    | true=>match IK (off+size) cs.length with
     | true=>K (.p (.ag ((cs.drop off).take size))) [] none
     | false=>False
    | false=>match cs.drop off with
     | c::_=>K (.p c) [] none
     | []=>False
   | none=>False
  | _,_=>False
 | .indexAddr t x ix=>match C.T t,rho ix with
  | some { ud:=.sl e,.. },.p (.im (.int _ i))=>match C.T e with
   | none=>False
   | some te=>match rho x with
    | .p (.sl es)=>∃r,(0<=i/\es[i.toNat]?=some r)/\match Bi r.length te.size with
     | true=>K (.p (.ip r)) [] none
     | false=>False
    | .ow id=>match h id with
     | .row e' es=>match Bi e' e with
      | true=>(0<=i/\i.toNat<es.length)/\K (.rp id i.toNat 0) [] none
      | false=>False
     | .ay e' es=>match Bi e' e with
      | true=>(0<=i/\i.toNat<es.length)/\K (.rp id i.toNat 0) [] none
      | false=>False
     | .jr es=>∃r,(0<=i/\es[i.toNat]?=some r)/\match Bi r.length te.size with
      | true=>K (.p (.ip r)) [] none
      | false=>False
     | _=>False
    | .vw id lo hi=>match h id with
     | .row e' es=>match Bi e' e with
      | true=>(0<=i/\i.toNat<hi-lo)/\K (.rp id (lo+i.toNat) 0) [] none
      | false=>False
     | _=>False
    | _=>False
  | _,_=>False
 | .index t x ix=>match C.T t,rho x,rho ix with
  | some { ud:=.str,.. },.p (.im (.string s)),.p (.im (.int _ i))=>∃b,(0<=i/\s[i.toNat]?=some b)/\K (.p (.im (.int .u8 b.toNat))) [] none
  | _,_,_=>False
 | .slice t x lo hi none=>match rho x with
  | .ow id=>match h id with
   | .row e' es=>uB C rho t lo hi id e' es K\/gP C rho h t x lo hi K
   | _=>gP C rho h t x lo hi K
  | _=>gP C rho h t x lo hi K
 | .makeMap t none=>match C.T t with
  | some { ud:=.mp kt _,.. }=>match C.T kt with
   | some tk=>match Bq tk with
    | some mk=>K (.ow d) [] (some (.map mk []))
    | none=>False
   | none=>False
  | _=>False
 | .lookup t x i ck=>match C.T t with
  | some { ud:=.mp kt et,.. }=>match C.T kt,C.T et with
   | some tk,some te=>match Bq tk with
    | some mk=>match rho x with
     | .ow id=>match h id with
      | .map mk' es=>match VT mk mk' with
       | true=>match keyOf mk (rho i) with
        | some k=>∃r,kv es k=r/\match ck with
         | true=>K (.tu [.p (r.getD (zk te)),.p (.im (.bool r.isSome))]) [] none
         | false=>K (.p (r.getD (zk te))) [] none
        | none=>False
       | false=>False
      | _=>False
     | _=>False
    | none=>False
   | _,_=>False
  | _=>False
 | .mapUpdate t x i y=>match C.T t with
  | some { ud:=.mp kt _,.. }=>match C.T kt with
   | some tk=>match Bq tk with
    | some mk=>match rho x with
     | .ow id=>match h id with
      | .map mk' es=>match VT mk mk' with
       | true=>match keyOf mk (rho i) with
        | some k=>gn h (rho y) fun v fz=>match tG id fz with
         | true=>K .junk (fz++[(id,.map mk' (lO es k v))]) none
         | false=>False
        | none=>False
       | false=>False
      | _=>False
     | _=>False
    | none=>False
   | none=>False
  | _=>False
 | .build t ps=>match C.T t with
  | some { ud:=.st fs,zero:=z,.. }=>match C.bo t with
   | false=>kq h fs rho ps.toList (z.map (SR (C.bn t))) fun cs fz=>K (.p (.ag cs)) fz none
   | true=>l9 h fs rho ps.toList (z.map JX) fun cs=>K (.st cs) [] none
  | _=>False
 | .buildSlice t len ps=>match C.T t with
  | some { ud:=.sl e,.. }=>match C.T e with
   | some ti=>match Nat.blt 0 ti.size&&IK (len*ti.size) 16777216 with
    | true=>match C.bf d with
     | false=>hM (C.bn t) h ti.size rho ps.toList (List.replicate len (ti.zero.map yd)) fun es fz=>K (.ow d) fz (some (.row e es))
     | true=>hM (C.bn t) h ti.size rho ps.toList (List.replicate len (ti.zero.map yd)) fun es fz=>K (.ow d) fz (some (.jr es))
    | false=>False
   | none=>False
  | _=>False
 | .makeSlice t n c=>match C.T t,rho n,rho c with
  | some { ud:=.sl e,.. },.p (.im (.int _ n)),.p (.im (.int _ c))=>match C.T e with
   | some ti=>match Nat.blt 0 ti.size with
    | true=>(0<=n/\n<=c/\c*ti.bytes<=140737488355328/\c<=9223372036854775807)/\K (.ow d) [] (some (.row e (List.replicate n.toNat (ti.zero.map (SR (C.bn t))))))
    | false=>False
   | none=>False
  | _,_,_=>False
 | .makeFunc (.func f) first cap=>match isNil first.toList with
  | true=>K (.fn f (cap.toList.map rho)) [] none
  | false=>False
 | .call c=>match fq c.callee with
  | .len=>match c.args.toList,c.argTypes.toList with
   | [x],[t]=>match C.T t with
    | some { ud:=.str,.. }=>match rho x with
     | .p (.im (.string s))=>K (.p (.im (.int .i64 s.size))) [] none
     | _=>False
    | some { ud:=.sl _,.. }=>match hlen h (rho x) with
     | some n=>K (.p (.im (.int .i64 n))) [] none
     | none=>hY h (rho x) fun es=>K (.p (.im (.int .i64 es.length))) [] none
    | some { ud:=.mp _ _,.. }=>match rho x with
     | .ow id=>match h id with
      | .map _ es=>K (.p (.im (.int .i64 es.length))) [] none
      | _=>False
     | _=>False
    | _=>False
   | _,_=>False
  | .clear=>match c.args.toList,c.argTypes.toList with
   | [x],[t]=>match C.T t with
    | some { ud:=.sl e,.. }=>match C.T e with
     | some ti=>match rho x with
      | .vw id lo hi=>match h id with
       | .row e' es=>match Bi e' e&&Nat.blt 0 ti.size with
        | true=>(lo<=hi/\hi<=es.length)/\K (.tu []) [(id,.row e' (es.take lo++List.replicate (hi-lo) (ti.zero.map yd)++es.drop hi))] none
        | false=>False
       | _=>False
      | _=>False
     | none=>False
    | _=>False
   | _,_=>False
  | .min=>match c.args.toList with
   | [x,y]=>match rho x,rho y with
    | .p (.im (.int k a)),.p (.im (.int _ b))=>K (.p (.im (.int k (min a b)))) [] none
    | _,_=>False
   | _=>False
  | .max=>match c.args.toList with
   | [x,y]=>match rho x,rho y with
    | .p (.im (.int k a)),.p (.im (.int _ b))=>K (.p (.im (.int k (max a b)))) [] none
    | _,_=>False
   | [x,y,z]=>match rho x,rho y,rho z with
    | .p (.im (.int k a)),.p (.im (.int _ b)),.p (.im (.int _ c))=>K (.p (.im (.int k (max (max a b) c)))) [] none
    | _,_,_=>False
   | [x,y,z,u,v]=>match rho x,rho y,rho z,rho u,rho v with
    | .p (.im (.int k a)),.p (.im (.int _ b)),.p (.im (.int _ c)),.p (.im (.int _ d)),.p (.im (.int _ e))=>K (.p (.im (.int k (max (max (max (max a b) c) d) e)))) [] none
    | _,_,_,_,_=>False
   | _=>False
  | .append=>match c.args.toList,c.argTypes.toList with
   | [x,y],[t,t']=>match Bi t t',C.T t with
    | true,some { ud:=.sl e,.. }=>match C.T e with
     | some ti=>match Nat.blt 0 ti.size with
      | true=>hY h (rho y) fun ys=>match rho x with
       | .nl=>((∀r∈ys,r.length=ti.size)/\ys.length*ti.bytes<=140737488355328/\ys.length<=140737488355328)/\K (.ow d) [] (some (.row e ys))
       | .ow id=>match h id with
        | .row e' xs=>match Bi e' e with
         | true=>((∀r∈ys,r.length=ti.size)/\(xs.length+ys.length)*ti.bytes<=140737488355328/\xs.length+ys.length<=140737488355328)/\K (.ow d) [(id,.none)] (some (.row e (xs++ys)))
         | false=>False
        | .ay e' xs=>match Bi e' e with
         | true=>((∀r∈ys,r.length=ti.size)/\(xs.length+ys.length)*ti.bytes<=140737488355328/\xs.length+ys.length<=140737488355328)/\K (.ow d) [(id,.none)] (some (.ay e (xs++ys.map qA)))
         | false=>False
        | _=>False
       | _=>False
      | false=>False
     | none=>False
    | _,_=>False
   | _,_=>False
  | .val g=>match zj (rho g) with
   | some (f,cap)=>match C.bl f with
    | false=>uA C h d f (c.args.toList.map rho++cap) K
    | true=>xi C h d f (c.args.toList.map rho++cap) K
   | none=>False
  | _=>False
 | _=>False
end Go.AM
namespace Go.AM
open Go.RowKit
def oJ(P:Program)(t:TypeId)(ti:TI):Prop:=
 ∃info z,P.info? t=some info/\info.size=ti.size/\info.bytes=ti.bytes/\info.zero=some z/\z.cells=ti.zero.toArray/\ti.zero.length=ti.size/\(∀v∈ti.zero,v.oneCell'=true)/\
  match ti.ud with
  | .sc=>(∃d,P.underlying t=some d/\(match d with | .struct _ | .array _ _=>False | _=>True))/\(ti.eq=true->P.underlying t=some .bool)
  | .int k=>P.underlying t=some (.int k)
  | .st fs=>∃gs,P.underlying t=some (.struct gs)/\fs.length=gs.size/\(∀(i:Nat) f g,fs[i]?=some f->gs[i]?=some g->f.1=g.offset/\f.2.1≠0/\(∃i2,P.info? g.type=some i2/\i2.size=f.2.1)/\
    (∃d,P.underlying g.type=some d/\f.2.2=(match d with | .struct _ | .array _ _=>true | _=>false)))
  | .sl e=>P.underlying t=some (.slice e)
  | .str=>P.underlying t=some .string
  | .mp k e=>P.underlying t=some (.map k e)
def LC:Value->Bool
 | .agg _=>true
 | _=>false
def G3(P:Program)(t:TypeId)(ti:TI):Prop:=∃info z,P.info? t=some info/\info.zero=some z/\LC z=ti.ud.agg
def ta(k:Value):List MapEntry->Nat->Option (Nat×Value)
 | [],_=>none
 | m::r,i=>match E4 k m.key with
  | true=>some (i,m.val)
  | false=>ta k r (i+1)
structure LD(P:Program)(kt:TypeId)(mk:MK):Prop where
 check:∀(e:Bool) (k:Value) (w:World),mk.ok k->(Instr.checkKey e 10000 kt k).run P w=.ok () w
 find:∀(k:Value) (w:World) (ms:List MapEntry),mk.ok k->(∀m∈ms,mk.ok m.key)->(Instr.findKey kt k ms).run P w=.ok (ta k ms 0) w
structure bR(C:Ctx):Prop where
 zs:∀t ti,C.T t=some ti->G3 C.P t ti
 tab:∀t ti,C.T t=some ti->oJ C.P t ti
 env:∀S S' w w',C.E S w->(∀b,S b->S' b)->(∀b,S b->w'.heap[b]?=w.heap[b]?)->w.heap.size<=w'.heap.size->C.E S' w'
 any:C.P.follows .mixedOrders=true
 eqs:∀t ti op a b r,C.T t=some ti->ti.eq=true->(∃fs,ti.ud=.st fs)->bL ti.zero a b=some r->∀(xs ys:Array Value) w,(∀(i:Nat) x v,a[i]?=some x->xs[i]?=some v->x=.im v)->(∀(i:Nat) x v,b[i]?=some x->ys[i]?=some v->x=.im v)->
  a.length=xs.size->b.length=ys.size->ti.size=a.length->(op=.eql\/op=.neq)->∀(x y:Operand),(do eqGuard op t x y (.agg xs) (.agg ys);binOp op t (.agg xs) (.agg ys):Sem Value).run C.P w=.ok (.bool (if op=.eql then r else !r)) w
 keys:∀kt tk sh,C.T kt=some tk->Bq tk=some (.st sh)->LD C.P kt (.st sh)
structure qB where
 C:Ctx
 w0:World
 mv:Nat->Prop
 s0:Nat->Prop
 n:Nat
 pin:Nat->Value
structure cc(A:qB)(V L:Nat->Prop)(S:Nat->Prop)(rho:Nat->Value)(s:AS)(a:Act)(w:World):Prop where
 tm:∀j,V j->br S w A.C.P L rho s.h (s.t j) (a.tmps.getD j undef)
 sz:a.tmps.size=A.n
 df:a.defers=[]
 nb:A.n<=100000
 pn:∀id,100000<=id->rho id=A.pin id
 ev:A.C.E S w
 s0:∀b,A.s0 b->S b
 st:∀b,S b->b<w.heap.size
 sb:∀b,S b->A.s0 b\/A.mv b\/A.w0.heap.size<=b
 hp:∀id,L id->fU S w A.C.P L rho s.h id (s.h id)
 dj:∀i j g,L i->L j->(s.h i).live->(s.h j).live->hasB w (s.h i) (rho i) g->hasB w (s.h j) (rho j) g->i=j
 lv:∀i g,L i->(s.h i).live->hasB w (s.h i) (rho i) g->g<w.heap.size/\¬S g/\(A.mv g\/A.w0.heap.size<=g)
 fr:Fr A.mv A.w0 w
variable {A:qB} {V L:Nat->Prop} {rho:Nat->Value} {s:AS}
theorem cc.Tm{S:Nat->Prop}{a:Act}{w:World}(d:cc A V L S rho s a w)(i j g:Nat)(hi:L i)(u:L j)(z:(s.h i).live)(D:(s.h j).live)(I:bY (rho i)=some g)(J:bY (rho j)=some g):i=j:=d.dj i j g hi u z D (.inl I) (.inl J)
theorem cc.qk{S:Nat->Prop}{a:Act}{w:World}(d:cc A V L S rho s a w)(i g:Nat)(hi:L i)(u:(s.h i).live)(z:bY (rho i)=some g):g<w.heap.size/\¬S g/\(A.mv g\/A.w0.heap.size<=g):=d.lv i g hi u (.inl z)
structure mQ(S S':Nat->Prop)(w w':World)(L L':Nat->Prop)(rho rho':Nat->Value)(h h':Nat->AB):Prop where
 hS:∀b,S b->S' b
 keep:∀b,S b->w'.heap[b]?=w.heap[b]?
 ids:∀id,(h' id).there->(h id).there/\(L id->L' id/\rho' id=rho id)
 rows:∀id e,(h' id).pq=some e->(h id).pq=some e
variable {e:TypeId}
theorem px{b:AB}(h:b.pq=some e):b.there:=by cases b<;>first | trivial | cases h
variable {S' L':Nat->Prop} {w':World} {rho':Nat->Value} {h':Nat->AB}
theorem br.dH{S:Nat->Prop}{w:World}{P:Program}{h:Nat->AB}(T:mQ S S' w w' L L' rho rho' h h'){x:AV}{v:Value}
  (R:br S w P L rho h x v):br S' w' P L' rho' h' x v:=by
 induction R with
 | p x v R=>exact .p x v (R.mono T.hS T.keep)
 | nl=>exact .nl
 | ow id v hv=>
  refine .ow id v fun U=>?_;obtain⟨D,W⟩:=T.ids id U;obtain⟨d,u⟩:=hv D;obtain⟨z,I⟩:=W d;exact⟨z,by rw[I];exact u⟩
 | rp id i off v hv=>
  refine .rp id i off v fun e J=>?_;obtain⟨d,g,n,c,ti,u,z,I⟩:=hv e (T.rows id e J);obtain⟨N,Y⟩:=(T.ids id (px J)).2 d;exact⟨N,g,n,c,ti,by rw[Y];exact u,z,I⟩
 | bx id off v hv=>
  refine .bx id off v fun U=>?_;obtain⟨D,W⟩:=T.ids id U;obtain⟨d,g,u,N⟩:=hv D;obtain⟨z,I⟩:=W d;exact⟨z,g,by rw[I];exact u,N⟩
 | vw id lo hi v hv=>
  refine .vw id lo hi v fun e J=>?_;obtain⟨d,n,c,a,ti,u,z⟩:=hv e (T.rows id e J);obtain⟨N,Y⟩:=(T.ids id (px J)).2 d;exact⟨N,n,c,a,ti,by rw[Y];exact u,z⟩
 | fn f cap vs O hc ih=>exact .fn f cap vs O ih
 | tu xs vs O hc ih=>exact .tu xs vs O ih
 | st xs vs O D hc ih=>exact .st xs vs O D ih
 | junk v=>exact .junk v
theorem mf{w:World}{base:Nat}{size:Nat}{v:Value}{n:Nat}{xs:List Value}(h:w.ownsRow base e size v n xs)(hb:∀g,bY v=some g->w'.heap[g]?=w.heap[g]?):w'.ownsRow base e size v n xs:=by
 refine⟨h.1,?_⟩;rcases h.2 with u | ⟨g,cap,cur,d,z,D,r⟩
 ·exact .inl u
 exact .inr ⟨g,cap,cur,d,z,by rw[hb g (by rw[d];rfl)];exact D,r⟩
theorem aC.dH{α:Type}{P:Program}{w:World}{R d:α->Value->Prop}{es:List (List α)}{v:Value}(h:aC P w R e es v)(hb:∀g,bY v=some g->w'.heap[g]?=w.heap[g]?)(z:∀x u,R x u->d x u):aC P w' d e es v:=by
 obtain⟨i,xs,D,I,J,N,O,U⟩:=h;exact⟨i,xs,D,I,mf J hb,N,O,fun a r j x W Y=>by obtain⟨u,Z,hr⟩:=U a r j x W Y;exact⟨u,Z,z x u hr⟩⟩
theorem v_.dH{w:World}{es:List (List HX)}{v:Value}(h:v_ w es v)(hb:∀g,bY v=some g->w'.heap[g]?=w.heap[g]?):v_ w' es v:=
 ⟨fun g a j u b d z D=>h.top g a j u b d (nP (hb g d) z) D,fun g a j I J u N b d z D O R=>h.dis g a j I J u N b d (nP (hb g d) z) (nP (hb g d) D) O R⟩
theorem aC.E6{P:Program}{w:World}{R:HX->Value->Prop}{es:List (List HX)}{v:Value}(h:aC P w R e es v){a j:Nat}{r:List HX}{e':TypeId}{D:List (List PV)}(d:es[a]?=some r)(I:r[j]?=some (.row e' D)):
  ∃g u,bY v=some g/\ew w es g a j u/\R (.row e' D) u:=by
 obtain⟨i,xs,h1,h2,J,N,h5,O⟩:=h;obtain⟨u,z,U⟩:=O a r j _ d I;have W:=N r (an d);rcases J.2 with⟨hn,hz⟩ | ⟨g,cap,cur,Y,hg,Z,k1,k2,k3,k4⟩
 ·have:=(aU.1 d).1;omega
 refine⟨g,u,by rw[Y];rfl,⟨r,e',D,_,_,_,d,I,Z,?_⟩,U⟩;rw[W];rw[<-k4,cV]at z;split at z
 ·simpa using z
 cases z
theorem fU.dH{S:Nat->Prop}{w:World}{P:Program}{h:Nat->AB}(T:mQ S S' w w' L L' rho rho' h h'){id:Nat}{x:AB}
  (hb:x.live->∀g,hasB w x (rho id) g->w'.heap[g]?=w.heap[g]?) (J:x.there->rho' id=rho id) (R:fU S w P L rho h id x):fU S' w' P L' rho' h' id x:=by
 cases x with
 | none=>trivial
 | row e es=>
  show aC P w' (aQ S' w') e es (rho' id);rw[J trivial];exact aC.dH R (fun g D=>hb trivial g (.inl D)) (fun x u d=>d.mono T.hS T.keep)
 | jr es=>
  show aQ S' w' (.sl es) (rho' id);rw[J trivial];exact aQ.mono R T.hS T.keep
 | box cs=>
  obtain⟨g,ty,c,z,Y,U,W⟩:=R;refine⟨g,ty,c,by rw[J trivial];exact z,by rw[hb trivial g (.inl (by rw[z];rfl))];exact Y,U,fun j x u N d=>?_⟩;obtain⟨O,I⟩:=W j x u N d;exact⟨O,I.dH T⟩
 | jF ty cs=>
  obtain⟨g,c,z,Y,U,W⟩:=R;refine⟨g,c,by rw[J trivial];exact z,by rw[hb trivial g (.inl (by rw[z];rfl))];exact Y,U,fun j x u N d=>?_⟩;obtain⟨O,I⟩:=W j x u N d;exact⟨O,I.dH T⟩
 | ll cs=>
  show aQ S' w' (.ip cs) (rho' id);rw[J trivial];exact aQ.mono R T.hS T.keep
 | map mk es=>
  obtain⟨g,ms,Z,z,Y,U,W⟩:=R;refine⟨g,ms,Z,by rw[J trivial];exact z,by rw[hb trivial g (.inl (by rw[z];rfl))];exact Y,U,fun i p m hi hm=>?_⟩;obtain⟨O,I,h7⟩:=W i p m hi hm;exact⟨O,I,h7.mono T.hS T.keep⟩
 | a7 cs=>
  obtain⟨g,ty,c,z,hB⟩:=R;have D:bY (rho id)=some g:=by rw[z];rfl
  refine⟨g,ty,c,by rw[J trivial];exact z,⟨by rw[hb trivial g (.inl D)];exact hB.hp,hB.sz,fun j x u N d=>?_,hB.top,hB.dis⟩⟩;obtain⟨O,I⟩:=hB.cell j x u N d;refine⟨O,?_⟩;cases x with
  | p x=>exact aQ.mono I T.hS T.keep
  | row e es=>exact aC.dH I (fun k hk=>hb trivial k (.inr (.inl ⟨cs,g,rfl,D,c,ty,_,j,_,u,hB.hp,N,trivial,d,hk⟩))) (fun x u d=>d.mono T.hS T.keep)
 | ay e es=>
  obtain⟨hR,hS⟩:=R;have D:∀g,bY (rho id)=some g->w'.heap[g]?=w.heap[g]?:=fun g D=>hb trivial g (.inl D);refine⟨?_,by rw[J trivial];exact hS.dH D⟩;rw[J trivial];obtain⟨i,xs,z,Y,U,W,O,I⟩:=hR;refine⟨i,xs,z,Y,mf U D,W,O,fun a r j x ha N=>?_⟩;obtain⟨u,d,Bt⟩:=I a r j x ha N;refine⟨u,d,?_⟩;cases x with
  | av x=>exact br.dH T Bt
  | row e' tb=>
   refine aC.dH Bt (fun k hk=>hb trivial k (.inr (.inr ?_))) (fun x u d=>d.mono T.hS T.keep);have xl:=W r (an ha);rcases U.2 with⟨hn,hz⟩ | ⟨g,cap,cur,hv,D,EZ,k1,k2,k3,k4⟩
   ·have:=(aU.1 ha).1;omega
   refine⟨e,es,g,a,j,u,rfl,by rw[hv];rfl,⟨r,e',tb,_,_,_,ha,N,EZ,?_⟩,hk⟩;rw[xl];rw[<-k4,cV]at d;split at d
   ·simpa using d
   cases d
theorem Fr.next{mv:Nat->Prop}{w0 w:World}(h:Fr mv w0 w)(u:w'.os=w.os)(z:w'.tape=w.tape)(D:w'.output=w.output)(hs:w.heap.size<=w'.heap.size)(hb:∀k,k<w0.heap.size->¬mv k->w'.heap[k]?=w.heap[k]?):Fr mv w0 w':=
 ⟨u.trans h.os,z.trans h.tape,D.trans h.output,aO h.size hs,fun k hk d=>(hb k hk d).trans (h.block k hk d)⟩
def f_(t:Nat->AV)(d:Option Tmp)(v:AV):Nat->AV:=match d with
 | some d=>bq t d v
 | none=>t
def zl(V:Nat->Prop)(d:Option Tmp)(j:Nat):Prop:=V j\/d=some j
theorem LF(a:Act)(d:Tmp)(v:Value)(j:Nat)(u:d<a.tmps.size):(a.put (some d) v).tmps.getD j undef=if j=d then v else a.tmps.getD j undef:=by
 simp only[Act.put,ur,IF];by_cases h:d=j
 ·subst h;simp[u]
 have:¬j=d:=fun e=>h e.symm;simp[h,this]
theorem QS{S:Nat->Prop}{a:Act}{w:World}(z:cc A V L S rho s a w)(T:mQ S S' w w' L L' rho rho' s.h h')(dst:Option Tmp)(D:∀d,dst=some d->d<A.n)(x:AV)(v:Value)
  (I:br S' w' A.C.P L' rho' h' x v):∀j,zl V dst j->br S' w' A.C.P L' rho' h' (f_ s.t dst x j) ((a.put dst v).tmps.getD j undef):=by
 intro j u;cases dst with
 | none=>
  rcases u with u | u
  ·exact (z.tm j u).dH T
  cases u
 | some d=>
  rw[LF a d v j (by rw[z.sz];exact D d rfl)];by_cases e:j=d
  ·subst e;simp only[f_,aH,if_true];exact I
  simp only[f_,a_ _ _ e,aa e];rcases u with u | u
  ·exact (z.tm j u).dH T
  injection u with u;exact absurd u.symm e
theorem LG(a:Act)(dst:Option Tmp)(v:Value):(a.put dst v).tmps.size=a.tmps.size:=by cases dst<;>simp[Act.put]
theorem E7(a:Act)(dst:Option Tmp)(v:Value):(a.put dst v).defers=a.defers:=by cases dst<;>rfl
theorem cc.value{S:Nat->Prop}{a:Act}{w:World}(u:cc A V L S rho s a w)(dst:Option Tmp)(z:∀d,dst=some d->d<A.n)(x:AV)(v:Value)(D:br S w A.C.P L rho s.h x v):
  cc A (zl V dst) L S rho ⟨f_ s.t dst x,s.h⟩ (a.put dst v) w:=
 {tm:=QS u ⟨fun _ h=>h,fun _ _=>rfl,fun _ h=>⟨h,fun I=>⟨I,rfl⟩⟩,fun _ _ h=>h⟩ dst z x v D
  sz:=(LG a dst v).trans u.sz
  df:=(E7 a dst v).trans u.df
  nb:=u.nb,pn:=u.pn
  ev:=u.ev,s0:=u.s0,st:=u.st,sb:=u.sb,hp:=u.hp,dj:=u.dj,lv:=u.lv,fr:=u.fr }
end Go.AM
namespace Go.AM
open Go.RowKit
variable {Q:Exit->Act->World->Prop}
theorem eO{P:Program}{o:Oper}{a:Act}{w w':World}{v:Value}{next:Act->World->Prop}(h:(execOp a.eval o).run P w=.ok (.value v) w')(d:next (a.put o.dst v) w'):o.wp P a w next Q:=by
 unfold Oper.wp;rw[h];exact d
theorem qJ{P:Program}{o:Oper}{a:Act}{w w':World}{next:Act->World->Prop}(h:(execOp a.eval o).run P w=.ok .skip w')(d:next (a.put o.dst undef) w'):o.wp P a w next Q:=by
 unfold Oper.wp;rw[h];exact d
theorem uC(S:Nat->Prop)(w:World)(v:Value):aQ S w (yd v) v:=by
 unfold yd;split
 ·exact .nil _ _
 exact .im _
theorem IQ(b:Bool)(S:Nat->Prop)(w:World)(v:Value):aQ S w (SR b v) v:=by
 cases b
 ·exact uC S w v
 exact .im v
variable {L:Nat->Prop} {rho:Nat->Value}
theorem C6{S:Nat->Prop}{w:World}{P:Program}{h:Nat->AB}{x:PV}{v:Value}(d:aQ S w x v):br S w P L rho h (SS x) v:=by
 unfold SS;split
 ·cases d;exact .nl
 exact .p _ _ d
theorem zm(S:Nat->Prop)(w:World)(P:Program)(L:Nat->Prop)(rho:Nat->Value)(h:Nat->AB)(v:Value):br S w P L rho h (JX v) v:=by
 unfold JX;split
 ·exact .nl
 exact .p _ _ (.im _)
theorem JZ(S:Nat->Prop)(w:World)(P:Program)(L:Nat->Prop)(rho:Nat->Value)(h:Nat->AB)(v:Value):br S w P L rho h (C3 v) v:=by
 unfold C3;split
 ·exact .nl
 ·rename_i cs;split
  ·rename_i z;refine .p _ _ (.ag _ _ (by simp) (fun u D=>?_) fun i c v d I=>?_)
   ·rw[ep]at z;exact z u D
   rw[aB]at d;have J:cs.toList[i]?=some v:=by simpa using I
   rw[J]at d;simp at d;rw[<-d];exact uC S w v
  exact .junk _
 exact .p _ _ (.im _)
variable {A:qB} {V:Nat->Prop} {s:AS}
theorem bB{S:Nat->Prop}{a:Act}{w:World}(d:cc A V L S rho s a w)(x:Operand)(u:∀j,x=.tmp j->V j):br S w A.C.P L rho s.h (ev s.t x) (a.eval x):=by
 cases x with
 | tmp j=>exact d.tm j (u j rfl)
 | const v=>exact JZ _ _ _ _ _ _ v
 | global g=>exact .p _ _ (.im _)
 | func f=>exact .p _ _ (.im _)
theorem br.fK{S:Nat->Prop}{w:World}{P:Program}{h:Nat->AB}{x:PV}{v:Value}(d:br S w P L rho h (.p x) v):aQ S w x v:=by cases d;assumption
theorem aQ.bT{S:Nat->Prop}{w:World}{x v:Value}(d:aQ S w (.im x) v):v=x:=by cases d;rfl
theorem br.bT{S:Nat->Prop}{w:World}{P:Program}{h:Nat->AB}{x v:Value}(d:br S w P L rho h (.p (.im x)) v):v=x:=d.fK.bT
theorem aQ.tI{S:Nat->Prop}{w:World}{cs:List PV}{v:Value}(d:aQ S w (.ag cs) v):∃vs:Array Value,v=.agg vs/\cs.length=vs.size/\(∀u∈vs.toList,u.oneCell'=true)/\(∀(i:Nat) c u,cs[i]?=some c->vs[i]?=some u->aQ S w c u):=by
 cases d;exact⟨_,rfl,by assumption,by assumption,by assumption⟩
theorem aQ.zn{S:Nat->Prop}{w:World}{cs:List PV}{v:Value}(d:aQ S w (.ip cs) v):∃b off,∃U:Nat->Value,v=.pointer (some ⟨b,off,none⟩)/\S b/\(∀(j:Nat) x,cs[j]?=some x->w.cell? ⟨b,off+j,none⟩=some (U j)/\(U j).oneCell'=true)/\(∀(j:Nat) x,cs[j]?=some x->aQ S w x (U j)):=by
 cases d;exact⟨_,_,_,rfl,by assumption,by assumption,by assumption⟩
variable {es:List (List PV)}
theorem aQ.py{S:Nat->Prop}{w:World}{v:Value}(D:aQ S w (.sl es) v):∃a c,v=.slice a es.length c/\es.length<=c/\(es≠[]->∃b off k,a=some ⟨b,off,none⟩/\S b/\(∀e∈es,e.length=k)/\
  ∀(i:Nat) e (j:Nat) x,es[i]?=some e->e[j]?=some x->∃u,w.cell? ⟨b,off+i*k+j,none⟩=some u/\u.oneCell'=true/\aQ S w x u):=by
 cases D with
 | nil a c=>exact⟨a,c,rfl,by simp,fun h=>absurd rfl h⟩
 | sl _ k b off c U hc hS hk hcell h=>exact⟨_,c,rfl,hc,fun _=>⟨b,off,k,rfl,hS,hk,fun i e j x d z=>⟨U i j,(hcell i e j x d z).1,(hcell i e j x d z).2,h i e j x d z⟩⟩⟩
def C8(L:Nat->Prop)(new:Option AB)(d:Nat):Nat->Prop:=match new with
 | none=>L
 | some _=>fun i=>L i\/i=d
def jt(A:qB)(o:Oper):Prop:=
 ∀(V L S:Nat->Prop) (rho:Nat->Value) (s:AS) (a:Act) (w:World) (K:KK) (next:Act->World->Prop) (Q:Exit->Act->World->Prop),bR A.C->cc A V L S rho s a w->(∀j,Operand.tmp j∈o.op.operands->V j)->(∀d,o.dst=some d->d<A.n)->
  bV A.C o (ev s.t) s.h K->(∀v eff b,K v eff (some b)->¬L (o.dst.getD 0)/\s.h (o.dst.getD 0)=b)->
  (∀v eff new S' rho' a' w',K v eff new->cc A (zl V o.dst) (C8 L new (o.dst.getD 0)) S' rho' ⟨f_ s.t o.dst v,app s.h eff⟩ a' w'->next a' w')->o.wp A.C.P a w next Q
theorem aM{o:Oper}{S:Nat->Prop}{a:Act}{w:World}{K:KK}{next:Act->World->Prop}(z:cc A V L S rho s a w)(I:∀d,o.dst=some d->d<A.n)
  (u:∀v eff new S' rho' D w',K v eff new->cc A (zl V o.dst) (C8 L new (o.dst.getD 0)) S' rho' ⟨f_ s.t o.dst v,app s.h eff⟩ D w'->next D w') {x:AV} {v:Value} (J:K x [] none) (N:br S w A.C.P L rho s.h x v)
  (O:(execOp a.eval o).run A.C.P w=.ok (.value v) w):o.wp A.C.P a w next Q:=
 eO O (u _ _ _ _ _ _ _ J (z.value o.dst I x v N))
theorem Ow{o:Oper}(x:Operand)(z:o.op=.move x):jt A o:=by
 intro V L S rho s a w K next Q hC u I J D _ d
 simp only[bV,z]at D;exact aM u J d D (bB u x fun j N=>I j (by simp[z,Op.operands,N])) (by simp[execOp,z])
theorem J0{o:Oper}(x:Operand)(z:o.op=.assign x):jt A o:=by
 intro V L S rho s a w K next Q hC u I J D _ d
 simp only[bV,z]at D;exact aM u J d D (bB u x fun j N=>I j (by simp[z,Op.operands,N])) (by simp[execOp,z])
theorem Ox{o:Oper}(c x y:Operand)(z:o.op=.pick c x y):jt A o:=by
 intro V L S rho s a w K next Q hC d J O D _ u
 simp only[bV,z]at D;have N:=bB d c fun j I=>J j (by simp[z,Op.operands,I]);have R:=bB d x fun j I=>J j (by simp[z,Op.operands,I]);have U:=bB d y fun j I=>J j (by simp[z,Op.operands,I]);split at D
 ·rename_i t W;rw[W]at N;split at D
  ·exact aM d O u D R (by simp[execOp,z,N.bT,asBool])
  exact aM d O u D U (by simp[execOp,z,N.bT,asBool])
 exact D.elim
theorem br.QT{S:Nat->Prop}{w:World}{P:Program}{h:Nat->AB}{xs:List AV}{v:Value}(d:br S w P L rho h (.st xs) v):∃vs:Array Value,v=.agg vs/\xs.length=vs.size/\(∀u∈vs.toList,u.oneCell'=true)/\∀(i:Nat) c u,xs[i]?=some c->vs[i]?=some u->br S w P L rho h c u:=by
 cases d;exact⟨_,rfl,by assumption,by assumption,by assumption⟩
theorem br.QU{S:Nat->Prop}{w:World}{P:Program}{h:Nat->AB}{xs:List AV}{v:Value}(d:br S w P L rho h (.tu xs) v):∃vs:Array Value,v=.tuple vs/\xs.length=vs.size/\∀(i:Nat) c u,xs[i]?=some c->vs[i]?=some u->br S w P L rho h c u:=by
 cases d;exact⟨_,rfl,by assumption,by assumption⟩
variable {α:Type}
theorem ky{vs:Array α}{n i:Nat}(hl:n=vs.size)(hi:i<n):∃v,vs[i]?=some v:=⟨vs[i]'(by omega),cx _⟩
theorem aA{l:List α}{i:Nat}{x:α}(h:l[i]?=some x):i<l.length:=(aU.1 h).1
theorem G4{o:Oper}(x:Operand)(i:Nat)(D:o.op=.extract x i):jt A o:=by
 intro V L S rho s a w K next Q hC z O R u _ d
 simp only[bV,D]at u;have I:=bB z x fun j U=>O j (by simp[D,Op.operands,U]);split at u
 ·rename_i xs qA;rw[qA]at I;split at u
  ·rename_i y J;obtain⟨vs,W,Y,Z⟩:=I.QU;obtain⟨v,N⟩:=ky Y (aA J);refine aM z R d u (Z i y v J N) ?_;simp[execOp,D,W,Instr.extract,N]
  exact u.elim
 exact u.elim
theorem IS{a b:IntKind}(h:kB a b=true):a=b:=by cases a<;>cases b<;>first | rfl | cases h
theorem Oy{k:IntKind}(h:Ti k=true):k=.i64:=by cases k<;>first | rfl | cases h
theorem oK{k:IntKind}{n:Int}{K:Value->Prop}(h:wb k n K):K (.int k (k.wrap n)):=by
 unfold wb at h;split at h
 ·rename_i d;obtain rfl:=Oy d;obtain⟨⟨u,z⟩,D⟩:=h;rw[IntWalk.i64_in n ⟨u,z⟩];exact D
 exact h
theorem C9(a b:ByteArray):(a.toList==b.toList)=decide (a=b):=by
 rw[kO];simp only[beq_iff_eq,cz,CU];constructor
 ·intro h;exact ByteArray.ext (ph h)
 rintro rfl;rfl
theorem IT(a b:ByteArray):Op.bytesLess a.toList b.toList=Op.bytesLess a.data.toList b.data.toList:=by rw[CU,CU]
theorem zo(a b:Int):(a==b)=decide (a=b):=by rw[kO];simp
theorem G5(a b:Int):(a != b)=!decide (a=b):=by rw[bne,zo]
theorem Oz{a b:Nat}(h:Bi a b=true):a=b:=de h
theorem run_equalIn_slice_nil{P:Program}(w:World)(d:Nat)(t e:TypeId)(a:Option Addr)(l c:Nat)(h:P.underlying t=some (.slice e)):(Op.equalIn (d+1) t (.slice a l c) (.slice none 0 0)).run P w=.ok a.isNone w:=by
 cases a<;>simp[Op.equalIn,run_underlying h]
theorem run_equal_slice_nil{P:Program}(w:World)(t e:TypeId)(a:Option Addr)(l c:Nat)(h:P.underlying t=some (.slice e)):(Op.equal t (.slice a l c) (.slice none 0 0)).run P w=.ok a.isNone w:=run_equalIn_slice_nil w 9999 t e a l c h
theorem LH{o:Oper}(op:BinOp)(t:TypeId)(x y:Operand)(t':TypeId)(J:o.op=.binOp op t x y t'):jt A o:=by
 intro V L S rho s a w K next Q hC I hV R D _ d
 simp only[bV,J]at D;have Y:=bB I x fun j hj=>hV j (by simp[J,Op.operands,hj]);have Z:=bB I y fun j hj=>hV j (by simp[J,Op.operands,hj]);split at D
 ·rename_i u v hu hv;rw[hu]at Y;rw[hv]at Z;replace Y:=Y.fK;replace Z:=Z.fK;unfold tH at D;split at D
  ·rename_i k m k' n;have N:=Y.bT;have O:=Z.bT;split at D
   ·rename_i hs;have VX:op=.shr:=by cases op<;>first | rfl | cases hs
    subst VX;obtain⟨⟨h0,W⟩,D⟩:=D;refine aM I R d D (.p _ _ (.im _)) ?_;have VY:¬n<0:=by omega
    simp[execOp,J,N,O,eqGuard,binOp,Op.shift,VY]
   split at D
   ·exact D.elim
   rename_i hk;obtain rfl:=IS hk;split at D
   ·exact aM I R d (oK D) (.p _ _ (.im _)) (by simp[execOp,J,N,O,eqGuard,binOp,Op.intArith])
   ·exact aM I R d (oK D) (.p _ _ (.im _)) (by simp[execOp,J,N,O,eqGuard,binOp,Op.intArith])
   ·exact aM I R d (oK D) (.p _ _ (.im _)) (by simp[execOp,J,N,O,eqGuard,binOp,Op.intArith])
   ·exact aM I R d (oK D.2) (.p _ _ (.im _)) (by simp[execOp,J,N,O,eqGuard,binOp,Op.intDiv,D.1])
   ·exact aM I R d D.2 (.p _ _ (.im _)) (by simp[execOp,J,N,O,eqGuard,binOp,Op.intDiv,D.1])
   ·exact aM I R d D (.p _ _ (.im _)) (by simp[execOp,J,N,O,eqGuard,binOp,Op.intCmp,zo])
   ·exact aM I R d D (.p _ _ (.im _)) (by simp[execOp,J,N,O,eqGuard,binOp,Op.intCmp,G5])
   ·exact aM I R d D (.p _ _ (.im _)) (by simp[execOp,J,N,O,eqGuard,binOp,Op.intCmp])
   ·exact aM I R d D (.p _ _ (.im _)) (by simp[execOp,J,N,O,eqGuard,binOp,Op.intCmp])
   ·exact aM I R d D (.p _ _ (.im _)) (by simp[execOp,J,N,O,eqGuard,binOp,Op.intCmp])
   ·exact aM I R d D (.p _ _ (.im _)) (by simp[execOp,J,N,O,eqGuard,binOp,Op.intCmp])
   exact D.elim
  ·rename_i m n;have N:=Y.bT;have O:=Z.bT;split at D
   ·exact aM I R d D.2 (.p _ _ (.im _)) (by
     have:=D.1;simp[execOp,J,N,O,eqGuard,binOp,run_string_add_sum w m n this])
   ·exact aM I R d D (.p _ _ (.im _)) (by simp[execOp,J,N,O,eqGuard,binOp,Op.stringOp,C9])
   ·exact aM I R d D (.p _ _ (.im _)) (by simp[execOp,J,N,O,eqGuard,binOp,Op.stringOp,C9])
   ·exact aM I R d D (.p _ _ (.im _)) (by simp[execOp,J,N,O,eqGuard,binOp,Op.stringOp,IT])
   ·exact aM I R d D (.p _ _ (.im _)) (by simp[execOp,J,N,O,eqGuard,binOp,Op.stringOp,C9,IT])
   ·exact aM I R d D (.p _ _ (.im _)) (by simp[execOp,J,N,O,eqGuard,binOp,Op.stringOp,C9,IT])
   ·exact aM I R d D (.p _ _ (.im _)) (by simp[execOp,J,N,O,eqGuard,binOp,Op.stringOp,IT])
   exact D.elim
  ·rename_i m n;have N:=Y.bT;have O:=Z.bT;split at D
   ·rename_i size bytes zero hT;have hb:A.C.P.underlying t=some .bool:=by
     obtain⟨_,_,_,_,_,_,_,_,_,h⟩:=hC.tab t _ hT;exact h.2 rfl
    have U:=fun w=>run_equal_bool (P:=A.C.P) (w:=w) t m n hb;split at D
    ·exact aM I R d D (.p _ _ (.im _)) (by simp[execOp,J,N,O,eqGuard,binOp,U];cases m<;>cases n<;>rfl)
    ·exact aM I R d D (.p _ _ (.im _)) (by simp[execOp,J,N,O,eqGuard,binOp,U];cases m<;>cases n<;>rfl)
    exact D.elim
   exact D.elim
  ·rename_i m n;obtain⟨xs,N,QV,_,VZ⟩:=Y.tI;obtain⟨ys,O,ye,_,QW⟩:=Z.tI;have im:∀(z:List Value) (m:List PV) (n:List PV) r,bL z m n=some r->(∀x∈m,∃v,x=.im v)/\(∀x∈n,∃v,x=.im v):=by
    intro z
    induction z with
    | nil=>
     intro m n r h;cases m<;>cases n<;>first
      | (simp[bL]at h;done)
      | exact⟨by simp,by simp⟩
    | cons c z ih=>
     intro m n r h;unfold bL at h;split at h
     ·rename_i W;cases W
     all_goals first
      | (
        rename_i W;injection W with W uD;subst uD;split at h
        ·obtain⟨r',LI,_⟩:=aT.1 h;obtain⟨i1,i2⟩:=ih _ _ _ LI;exact⟨by simpa using i1,by simpa using i2⟩
        cases h)
      | (
        rename_i W;injection W with W uD;subst uD;obtain⟨r',LI,_⟩:=aT.1 h;obtain⟨i1,i2⟩:=ih _ _ _ LI;exact⟨by simpa using i1,by simpa using i2⟩)
      | cases h
   have key:∀z r,bL z m n=some r->(∀(i:Nat) x v,m[i]?=some x->xs[i]?=some v->x=.im v)/\(∀(i:Nat) x v,n[i]?=some x->ys[i]?=some v->x=.im v):=by
    intro z r hr;obtain⟨i1,i2⟩:=im z m n r hr;refine⟨fun i x v W h2=>?_,fun i x v W h2=>?_⟩
    ·obtain⟨u,rfl⟩:=i1 x (an W);rw[(VZ i _ v W h2).bT]
    obtain⟨u,rfl⟩:=i2 x (an W);rw[(QW i _ v W h2).bT]
   split at D
   ·rename_i fs size bytes zero hT;split at D
    ·exact D.elim
    rename_i hsz;have hsz:=Oz hsz;split at D
    ·split at D
     ·rename_i r hr;obtain⟨k1,k2⟩:=key _ r hr;have U:=hC.eqs t _ .eql m n r hT rfl ⟨_,rfl⟩ hr xs ys w k1 k2 QV ye hsz (.inl rfl) x y;exact aM I R d D (.p _ _ (.im _)) (by
       simp only[execOp,J,N,O];rw[bJ,U];simp)
     exact D.elim
    ·split at D
     ·rename_i r hr;obtain⟨k1,k2⟩:=key _ r hr;have U:=hC.eqs t _ .neq m n r hT rfl ⟨_,rfl⟩ hr xs ys w k1 k2 QV ye hsz (.inr rfl) x y;exact aM I R d D (.p _ _ (.im _)) (by
       simp only[execOp,J,N,O];rw[bJ,U];simp)
     exact D.elim
    exact D.elim
   exact D.elim
  exact D.elim
 ·rename_i u hu hv;rw[hu]at Y;rw[hv]at Z;replace Y:=Y.fK;have qC:a.eval y=.slice none 0 0:=by generalize a.eval y=v at Z;cases Z;rfl
  unfold JY at D;split at D
  case h_2=>exact D.elim
  rename_i es;split at D
  case h_1=>exact D.elim
  rename_i E0;split at D
  case h_2=>exact D.elim
  rename_i e size bytes zero eq hT;have gk:A.C.P.underlying t=some (.slice e):=by
   obtain⟨_,_,_,_,_,_,_,_,_,h⟩:=hC.tab t _ hT;exact h
  obtain⟨ad,c,hv,_,cU⟩:=Y.py;obtain⟨b,off,k,rfl,_⟩:=cU (fun e=>by rw[e]at E0;cases E0);split at D
  ·exact aM I R d D (.p _ _ (.im _)) (by simp[execOp,J,hv,qC,eqGuard,binOp,run_equal_slice_nil _ _ _ _ _ _ gk])
  ·exact aM I R d D (.p _ _ (.im _)) (by simp[execOp,J,hv,qC,eqGuard,binOp,run_equal_slice_nil _ _ _ _ _ _ gk])
  exact D.elim
 exact D.elim
theorem OA{o:Oper}(op:UnOp)(t:TypeId)(x:Operand)(D:o.op=.unOp op t x):jt A o:=by
 intro V L S rho s a w K next Q hC u N J z _ d
 simp only[bV,D]at z;have I:=bB u x fun j O=>N j (by simp[D,Op.operands,O]);split at z
 ·rename_i b hb;rw[hb]at I;exact aM u J d z (.p _ _ (.im _)) (by simp[execOp,D,I.bT,Op.unary])
 ·rename_i k n hb;rw[hb]at I;exact aM u J d (oK z) (.p _ _ (.im _)) (by simp[execOp,D,I.bT,Op.unary,Op.intArith])
 exact z.elim
variable {ti:TI}
theorem oJ.sizeOf{P:Program}{t:TypeId}(h:oJ P t ti)(w:World):(sizeOf t).run P w=.ok ti.size w:=by
 obtain⟨info,z,d,u,_⟩:=h;simp[Go.sizeOf,typeInfo,d,u]
theorem oJ.isAgg{P:Program}{t:TypeId}(h:oJ P t ti)(w:World):(isAgg t).run P w=.ok ti.ud.agg w:=by
 obtain⟨info,z,_,_,_,_,_,_,_,h⟩:=h;unfold Go.isAgg;cases hu:ti.ud with
 | sc=>
  rw[hu]at h;obtain⟨⟨d,u,D⟩,_⟩:=h;rw[bJ,run_underlying u];cases d<;>first | rfl | exact D.elim
 | int k=>rw[hu]at h;rw[bJ,run_underlying h];rfl
 | st fs=>rw[hu]at h;obtain⟨gs,I,_⟩:=h;rw[bJ,run_underlying I];rfl
 | sl e=>rw[hu]at h;rw[bJ,run_underlying h];rfl
 | str=>rw[hu]at h;rw[bJ,run_underlying h];rfl
 | mp k e=>rw[hu]at h;rw[bJ,run_underlying h];rfl
theorem mg{P:Program}{w:World}{t:TypeId}(h:oJ P t ti)(d:ti.ud.agg=true)(b off:Nat)(vs:List Value)(u:vs.length=ti.size)(z:∀(j:Nat) v,vs[j]?=some v->w.cell? ⟨b,off+j,none⟩=some v):
  (Instr.loadAt t (.pointer (some ⟨b,off,none⟩))).run P w=.ok (.agg vs.toArray) w:=by
 have:=run_loadCells_list (P:=P) w ⟨b,off,none⟩ vs (fun j v D=>by rw[jd];exact z j v D);rw[u]at this;simp[Instr.loadAt,Instr.sureAddr,loadVar,h.isAgg,d,h.sizeOf,this]
theorem lu{P:Program}{w:World}{t:TypeId}(h:oJ P t ti)(d:ti.ud.agg=false)(b off:Nat)(v:Value)(u:w.cell? ⟨b,off,none⟩=some v):
  (Instr.loadAt t (.pointer (some ⟨b,off,none⟩))).run P w=.ok v w:=by
 simp[Instr.loadAt,Instr.sureAddr,loadVar,h.isAgg,d,load,Sem.run,u]
theorem IU{S:Nat->Prop}{w:World}(cs:List PV)(V:Nat->Value)(h:∀(j:Nat) x,cs[j]?=some x->(V j).oneCell'=true/\aQ S w x (V j)):aQ S w (.ag cs) (.agg ((List.range cs.length).map V).toArray):=by
 refine .ag _ _ (by simp) (fun u d=>?_) fun i c v z D=>?_
 ·simp at d;obtain⟨j,I,rfl⟩:=d;exact (h j _ (aX I)).1
 have hi:=aA z;simp[hi]at D;rw[<-D];exact (h i c z).2
variable {off:Nat}
theorem kQ{l:List α}{n j:Nat}{x:α}(h:((l.drop off).take n)[j]?=some x):l[off+j]?=some x:=by
 rw[cV]at h;split at h
 ·rwa [eE]at h
 cases h
theorem kR{l:List α}{n:Nat}(h:off+n<=l.length):((l.drop off).take n).length=n:=by simp;omega
theorem gL{l:List α}{x:α}{r:List α}(h:l.drop off=x::r):l[off]?=some x:=by
 have:(l.drop off)[0]?=some x:=by rw[h];rfl
 rw[eE]at this;exact this
theorem lQ{a b:Nat}(h:IK a b=true):a<=b:=je h
theorem iN{a b:Nat}(h:Bi a b=true):a=b:=de h
theorem iy:∀{cs:List AV} {xs:List PV},eV cs=some xs->cs.length=xs.length/\∀(j:Nat) c x,cs[j]?=some c->xs[j]?=some x->(c=.p x\/(c=.nl/\x=.sl [])):=by
 intro cs
 induction cs with
 | nil=>intro xs h;simp[eV]at h;subst h;exact⟨rfl,by simp⟩
 | cons c cs ih=>
  intro xs h;unfold eV at h;split at h
  ·rename_i d;cases d
  ·rename_i x r d;injection d with d h2;subst d h2;obtain⟨ys,D,rfl⟩:=aT.1 h;obtain⟨I,J⟩:=ih D;refine⟨by simp[I],fun j c N u z=>?_⟩;cases j with
   | zero=>simp at u z;subst u z;exact .inl rfl
   | succ j=>exact J j c N (by simpa using u) (by simpa using z)
  ·rename_i r d;injection d with d h2;subst d h2;obtain⟨ys,D,rfl⟩:=aT.1 h;obtain⟨I,J⟩:=ih D;refine⟨by simp[I],fun j c N u z=>?_⟩;cases j with
   | zero=>simp at u z;subst u z;exact .inr ⟨rfl,rfl⟩
   | succ j=>exact J j c N (by simpa using u) (by simpa using z)
  cases h
theorem br.yI{S:Nat->Prop}{w:World}{P:Program}{h:Nat->AB}{c:AV}{x:PV}{u:Value}(z:c=.p x\/(c=.nl/\x=.sl []))(d:br S w P L rho h c u):aQ S w x u:=by
 rcases z with rfl | ⟨rfl,rfl⟩
 ·exact d.fK
 cases d;exact .nil _ _
variable {id:Nat}
theorem br.iO{S:Nat->Prop}{w:World}{P:Program}{h:Nat->AB}{v:Value}(d:br S w P L rho h (.bx id off) v)(u:(h id).there):L id/\∃g,rho id=.pointer (some ⟨g,0,none⟩)/\v=.pointer (some ⟨g,off,none⟩):=by
 cases d;rename_i z;exact z u
variable {e:TypeId}
theorem br.zp{S:Nat->Prop}{w:World}{P:Program}{h:Nat->AB}{i:Nat}{v:Value}(d:br S w P L rho h (.rp id i off) v)(u:h id=.row e es):
  L id/\∃g n c ti,rho id=.slice (some ⟨g,0,none⟩) n c/\P.info? e=some ti/\v=.pointer (some ⟨g,i*ti.size+off,none⟩):=by
 cases d;rename_i z;exact z e (by rw[u];rfl)
theorem br.uE{S:Nat->Prop}{w:World}{P:Program}{h:Nat->AB}{i:Nat}{v:Value}(d:br S w P L rho h (.rp id i off) v){es:List (List HX)}(u:h id=.ay e es):
  L id/\∃g n c ti,rho id=.slice (some ⟨g,0,none⟩) n c/\P.info? e=some ti/\v=.pointer (some ⟨g,i*ti.size+off,none⟩):=by
 cases d;rename_i z;exact z e (by rw[u];rfl)
theorem br.cW{S:Nat->Prop}{w:World}{P:Program}{h:Nat->AB}{v:Value}(d:br S w P L rho h (.ow id) v)(u:(h id).there):L id/\v=rho id:=by
 cases d;rename_i z;exact z u
theorem aC.cell{P:Program}{w:World}{R:α->Value->Prop}{es:List (List α)}{g n c:Nat}{ti:TypeInfo}(h:aC P w R e es (.slice (some ⟨g,0,none⟩) n c))(hi:P.info? e=some ti):
  ∀(a:Nat) r (j:Nat) x,es[a]?=some r->r[j]?=some x->∃u,w.cell? ⟨g,a*ti.size+j,none⟩=some u/\u.oneCell'=true/\R x u:=by
 obtain⟨i,xs,d,h2,D,h4,I,J⟩:=h;rw[hi]at d;injection d with d;subst d;intro a r j x N O;obtain⟨u,z,U⟩:=J a r j x N O;have:=D.cells (g:=g) rfl _ u z;rw[jd]at this;refine⟨u,by simpa using this,I u (an z),U⟩
theorem E8{o:Oper}(t:TypeId)(x:Operand)(aJ:o.op=.load t x){S:Nat->Prop}{a:Act}{w:World}{K:KK}(hC:bR A.C)(Z:cc A V L S rho s a w)(hV:∀j,x=.tmp j->V j)(z:bV A.C o (ev s.t) s.h K):
  ∃av v,K av [] none/\br S w A.C.P L rho s.h av v/\(Instr.loadAt t (a.eval x)).run A.C.P w=.ok v w:=by
 simp only[bV,aJ]at z;have hx:=bB Z x hV;split at z
 ·exact z.elim
 rename_i ti hT;have gk:=hC.tab t ti hT;split at z
 ·rename_i cs nR;rw[nR]at hx;obtain⟨b,off,U,W,hb,d,N⟩:=hx.fK.zn;split at z
  ·rename_i O;split at z
   ·rename_i I;have I:=lQ I;have hlen:(cs.take ti.size).length=ti.size:=by simp;omega
    refine⟨_,_,z,.p _ _ (IU _ U fun j x D=>?_),?_⟩
    ·have QX:cs[j]?=some x:=by rw[cV]at D;split at D;exact D;cases D
     exact⟨(d j x QX).2,N j x QX⟩
    have:=mg (w:=w) gk O b off ((List.range (cs.take ti.size).length).map U) (by simp;omega) (fun j v D=>by
     have uo:j<(cs.take ti.size).length:=by have:=aA D;simpa using this
     rw[aB,iu uo]at D;simp at D;have Ln:j<cs.length:=by rw[hlen]at uo;omega
     rw[(d j _ (aX Ln)).1,D])
    rw[W];exact this
   exact z.elim
  rename_i O;split at z
  ·rename_i c r;refine⟨_,_,z,.p _ _ (N 0 c rfl),?_⟩;have:=lu (w:=w) gk O b off (U 0) (by simpa using (d 0 c rfl).1);rw[W];exact this
  exact z.elim
 ·rename_i id off nR;rw[nR]at hx;split at z
  ·rename_i cs a7;obtain⟨hL,g,hg,W⟩:=hx.iO (by rw[a7];trivial);have hh:=Z.hp id hL;rw[a7]at hh;obtain⟨g',ty,c,J,h2,h3,h4⟩:=hh;rw[hg]at J;injection J with J;injection J with J;injection J with J;subst J;have d:∀j u,c[j]?=some u->w.cell? ⟨g,j,none⟩=some u:=fun j u hu=>by rw[cell_of_row w g j c ty (0,0) h2];exact hu
   split at z
   ·rename_i O;split at z
    ·rename_i xs I qA;have I:=lQ I;obtain⟨hl,rQ⟩:=iy qA;have hlen:xs.length=ti.size:=by rw[<-hl];exact kR I
     have hU:∀(j:Nat) x,xs[j]?=some x->∃u,c[off+j]?=some u/\u.oneCell'=true/\aQ S w x u:=by
      intro j x D;obtain⟨y,hy⟩:∃y,((cs.drop off).take ti.size)[j]?=some y:=⟨_,aX (by rw[hl];exact aA D)⟩;have Y:=kQ hy;obtain⟨u,hu⟩:=ky h3.symm (aA Y);obtain⟨R,h6⟩:=h4 _ _ _ Y hu;exact⟨u,hu,R,h6.yI (rQ j y x hy D)⟩
     refine⟨_,_,z,.p _ _ (IU xs (fun j=>(c[off+j]?).getD undef) fun j x D=>?_),?_⟩
     ·obtain⟨u,R,h6,h7⟩:=hU j x D;rw[R];exact⟨h6,h7⟩
     have:=mg (w:=w) gk O g off ((List.range xs.length).map (fun j=>(c[off+j]?).getD undef)) (by simpa using hlen) (fun j v D=>by
      have uo:j<xs.length:=by have:=aA D;simpa using this
      rw[aB,iu uo]at D;obtain⟨u,R,_⟩:=hU j _ (aX uo);simp[R]at D;rw[d _ _ R,D])
     rw[W];exact this
    exact z.elim
   rename_i O;split at z
   ·rename_i y r hy;have Y:=gL hy;obtain⟨u,hu⟩:=ky h3.symm (aA Y);obtain⟨R,h6⟩:=h4 _ _ _ Y hu;refine⟨_,_,z,h6,?_⟩;have:=lu (w:=w) gk O g off u (d _ _ hu);rw[W];exact this
   exact z.elim
  ·rename_i cs a7;obtain⟨hL,g,hg,W⟩:=hx.iO (by rw[a7];trivial);have hh:=Z.hp id hL;rw[a7]at hh;obtain⟨b,YW,U,J,hb,d,N⟩:=aQ.zn hh;rw[hg]at J;injection J with J;injection J with J;injection J with J h2;subst J h2;split at z
   ·rename_i O;split at z
    ·rename_i I;have I:=lQ I;have hlen:=kR I;refine⟨_,_,z,.p _ _ (IU _ (fun j=>U (off+j)) fun j x D=>?_),?_⟩
     ·have QX:=kQ D;exact⟨(d _ x QX).2,N _ x QX⟩
     have:=mg (w:=w) gk O g off ((List.range ((cs.drop off).take ti.size).length).map (fun j=>U (off+j))) (by simpa using hlen) (fun j v D=>by
      have uo:j<((cs.drop off).take ti.size).length:=by have:=aA D;simpa using this
      rw[aB,iu uo]at D;simp at D;have Ln:off+j<cs.length:=by rw[hlen]at uo;omega
      have R:=(d _ _ (aX Ln)).1;rw[aY]at R;rw[R,D])
     rw[W];exact this
    exact z.elim
   rename_i O;split at z
   ·rename_i y r hy;have Y:=gL hy;refine⟨_,_,z,.p _ _ (N _ _ Y),?_⟩;have:=lu (w:=w) gk O g off (U off) (by simpa using (d _ _ Y).1);rw[W];exact this
   exact z.elim
  exact z.elim
 ·rename_i id i off nR;rw[nR]at hx;split at z
  ·rename_i e es ay;obtain⟨hL,g,n,c,tj,hg,B_,W⟩:=hx.zp ay;have hh:=Z.hp id hL;rw[ay]at hh;have Lo:aC A.C.P w (aQ S w) e es (.slice (some ⟨g,0,none⟩) n c):=by rw[<-hg];exact hh
   have d:=Lo.cell B_;obtain⟨r,hr,z⟩:=z;split at z
   ·rename_i O;split at z
    ·rename_i I;have I:=lQ I;have hlen:=kR I;have hU:∀(j:Nat) x,((r.drop off).take ti.size)[j]?=some x->∃u,w.cell? ⟨g,i*tj.size+off+j,none⟩=some u/\u.oneCell'=true/\aQ S w x u:=by
      intro j x D;obtain⟨u,J,h2,h3⟩:=d i r _ x hr (kQ D);exact⟨u,by rw[kP];exact J,h2,h3⟩
     refine⟨_,_,z,.p _ _ (IU _ (fun j=>(w.cell? ⟨g,i*tj.size+off+j,none⟩).getD undef) fun j x D=>?_),?_⟩
     ·obtain⟨u,R,h6,h7⟩:=hU j x D;rw[R];exact⟨h6,h7⟩
     have:=mg (w:=w) gk O g (i*tj.size+off) ((List.range ((r.drop off).take ti.size).length).map (fun j=>(w.cell? ⟨g,i*tj.size+off+j,none⟩).getD undef)) (by simpa using hlen) (fun j v D=>by
      have uo:j<((r.drop off).take ti.size).length:=by have:=aA D;simpa using this
      rw[aB,iu uo]at D;obtain⟨u,R,_⟩:=hU j _ (aX uo);simp[R]at D;rw[R,D])
     rw[W];exact this
    exact z.elim
   rename_i O;split at z
   ·rename_i y r' hy;have Y:=gL hy;obtain⟨u,J,h2,h3⟩:=d i r _ y hr Y;refine⟨_,_,z,.p _ _ h3,?_⟩;have:=lu (w:=w) gk O g (i*tj.size+off) u J;rw[W];exact this
   exact z.elim
  ·rename_i e es ay;obtain⟨hL,g,n,c,tj,hg,B_,W⟩:=hx.uE ay;have hh:=Z.hp id hL;rw[ay]at hh;have Lo:aC A.C.P w (s_ S w A.C.P L rho s.h) e es (.slice (some ⟨g,0,none⟩) n c):=by rw[<-hg];exact hh.1
   have d:=Lo.cell B_;obtain⟨r,hr,z⟩:=z;split at z
   ·exact z.elim
   rename_i O;split at z
   ·rename_i y r' hy;have Y:=gL hy;obtain⟨u,J,h2,h3⟩:=d i r _ _ hr Y;refine⟨_,_,z,h3,?_⟩;have:=lu (w:=w) gk O g (i*tj.size+off) u J;rw[W];exact this
   exact z.elim
  exact z.elim
 exact z.elim
theorem OB{o:Oper}(t:TypeId)(x:Operand)(z:o.op=.load t x):jt A o:=by
 intro V L S rho s a w K next Q hC u D I J _ d
 obtain⟨av,v,N,O,R⟩:=E8 t x z hC u (fun j U=>D j (by simp[z,Op.operands,U])) J;exact aM u I d N O (by simp only[execOp,z,bJ,R,dm,fF])
theorem oJ.under{P:Program}{t:TypeId}(h:oJ P t ti):match ti.ud with
  | .sc=>(∃d,P.underlying t=some d/\(match d with | .struct _ | .array _ _=>False | _=>True))/\(ti.eq=true->P.underlying t=some .bool)
  | .int k=>P.underlying t=some (.int k)
  | .st fs=>∃u,P.underlying t=some (.struct u)/\fs.length=u.size/\(∀(i:Nat) f g,fs[i]?=some f->u[i]?=some g->f.1=g.offset/\f.2.1≠0/\(∃z,P.info? g.type=some z/\z.size=f.2.1)/\
    (∃d,P.underlying g.type=some d/\f.2.2=(match d with | .struct _ | .array _ _=>true | _=>false)))
  | .sl e=>P.underlying t=some (.slice e)
  | .str=>P.underlying t=some .string
  | .mp k e=>P.underlying t=some (.map k e):=by
 obtain⟨_,_,_,_,_,_,_,_,_,h⟩:=h;exact h
theorem oJ.info{P:Program}{t:TypeId}(h:oJ P t ti):∃info z,P.info? t=some info/\info.size=ti.size/\info.bytes=ti.bytes/\info.zero=some z/\z.cells=ti.zero.toArray/\(∀v∈ti.zero,v.oneCell'=true):=by
 obtain⟨i,z,d,u,D,I,J,h6,N,h⟩:=h;exact⟨i,z,d,u,D,I,J,N⟩
theorem oJ.LJ{P:Program}{t:TypeId}(h:oJ P t ti):ti.zero.length=ti.size:=by
 obtain⟨i,z,h1,h2,h3,h4,h5,d,h7,h⟩:=h;exact d
theorem C_{o:Oper}(t:TypeId)(x:Operand)(f:Nat)(Y:o.op=.fieldAddr t x f):jt A o:=by
 intro V L S rho s a w K next Q hC D hV hd u _ d
 simp only[bV,Y]at u;have J:=bB D x fun j N=>hV j (by simp[Y,Op.operands,N]);split at u
 ·rename_i fs size bytes zero eq hT;have gk:=(hC.tab t _ hT).under;obtain⟨gs,tJ,hl,hf⟩:=gk;split at u
  ·rename_i off sz ag OC;obtain⟨g,hg⟩:=ky hl (aA OC);obtain⟨e1,e2,⟨i2,IV,LK⟩,_⟩:=hf f _ g OC hg;have z:∀b o',(Instr.fieldAt t (.pointer (some ⟨b,o',none⟩)) f).run A.C.P w=.ok (.pointer (some ⟨b,o'+off,none⟩)) w:=by
    intro b o';simp only at e1 e2 LK;simp[Instr.fieldAt,run_underlying tJ,hg,Instr.sureAddr,fieldPlace,Go.sizeOf,typeInfo,IV,LK,e2,jd,<-e1]
   split at u
   ·rename_i cs Z;rw[Z]at J;obtain⟨b,o',U,O,hb,R,hrep⟩:=J.fK.zn;refine aM D hd d u (.p _ _ (.ip _ b (o'+off) (fun j=>U (off+j)) hb (fun j y N=>?_) fun j y N=>?_)) (by simp[execOp,Y,O,z])
    ·rw[eE]at N;rw[kP];exact R _ y N
    rw[eE]at N;exact hrep _ y N
   ·rename_i id o' Z;rw[Z]at J;split at u
    ·exact u.elim
    rename_i cU;have ht:(s.h id).there:=by
     cases hh:s.h id<;>first | trivial | exact absurd hh (by simpa using cU)
    obtain⟨hL,W,lN,O⟩:=J.iO ht;exact aM D hd d u (.bx _ _ _ fun _=>⟨hL,W,lN,rfl⟩) (by simp[execOp,Y,O,z])
   ·rename_i id i o' Z;rw[Z]at J;split at u
    ·rename_i e es ay;obtain⟨hL,W,n,c,tj,lN,B_,O⟩:=J.zp ay;refine aM D hd d u (v:=.pointer (some ⟨W,i*tj.size+o'+off,none⟩)) (.rp _ _ _ _ fun e2 I=>?_) (by simp[execOp,Y,O,z]);rw[ay]at I;injection I with I;subst I;exact⟨hL,W,n,c,tj,lN,B_,by rw[kP]⟩
    ·rename_i e es ay;obtain⟨hL,W,n,c,tj,lN,B_,O⟩:=J.uE ay;refine aM D hd d u (v:=.pointer (some ⟨W,i*tj.size+o'+off,none⟩)) (.rp _ _ _ _ fun e2 I=>?_) (by simp[execOp,Y,O,z]);rw[ay]at I;injection I with I;subst I;exact⟨hL,W,n,c,tj,lN,B_,by rw[kP]⟩
    exact u.elim
   exact u.elim
  exact u.elim
 exact u.elim
theorem LM{o:Oper}(t:TypeId)(x:Operand)(f:Nat)(O:o.op=.field t x f):jt A o:=by
 intro V L S rho s a w K next Q hC I hV hd z _ D
 simp only[bV,O]at z;have hx:=bB I x fun j hj=>hV j (by simp[O,Op.operands,hj]);split at z
 ·rename_i fs size bytes zero eq cs hT nR;have gk:=(hC.tab t _ hT).under;obtain⟨gs,tJ,hl,hf⟩:=gk;rw[nR]at hx;obtain⟨vs,hv,ye,h1,hc⟩:=hx.fK.tI;split at z
  ·rename_i off sz ag OC;obtain⟨g,U⟩:=ky hl (aA OC);obtain⟨W,e2,⟨i2,IV,LK⟩,d,SX,Y⟩:=hf f _ g OC U;simp only at W e2 LK Y;split at z
   ·split at z
    ·rename_i J;have J:=lQ J;have hlen:=kR J;refine aM I hd D z (v:=.agg (vs.extract off (off+sz))) (.p _ _ (.ag _ _ (by simp;omega) (fun u N=>h1 u ?_) fun i c v Vo R=>?_)) ?_
     ·simp at N;exact mc (jK N)
     ·have hi:=aA Vo;rw[hlen]at hi;have V0:vs[off+i]?=some v:=by
       rw[Array.getElem?_extract]at R;split at R
       ·exact R
       cases R
      exact hc _ c v (kQ Vo) V0
     have Z:(isAgg g.type).run A.C.P w=.ok true w:=by
      rw[Go.isAgg,bJ,run_underlying SX];cases d<;>simp at Y<;>rfl
     simp[execOp,O,hv,Instr.field,run_underlying tJ,U,asAgg,part,Z,Go.sizeOf,typeInfo,IV,LK,<-W]
    exact z.elim
   split at z
   ·rename_i c r hy;have qC:=gL hy;obtain⟨u,N⟩:=ky ye (aA qC);refine aM I hd D z (.p _ _ (hc _ _ _ qC N)) ?_;have Z:(isAgg g.type).run A.C.P w=.ok false w:=by
     rw[Go.isAgg,bJ,run_underlying SX];cases d<;>simp at Y<;>rfl
    simp[execOp,O,hv,Instr.field,run_underlying tJ,U,asAgg,part,Z,<-W,N]
   exact z.elim
  exact z.elim
 exact z.elim
theorem nS{P:Program}{w:World}{t:TypeId}{ti:TypeInfo}(d:P.underlying t=some (.slice e))(hi:P.info? e=some ti)(b off n c:Nat)(k:IntKind)(i:Int)(u:0<=i)(h1:i.toNat<n):
  (Instr.indexAt t (.slice (some ⟨b,off,none⟩) n c) (.int k i)).run P w=.ok (.pointer (some ⟨b,off+i.toNat*ti.size,none⟩)) w:=by
 have z:i<n:=by omega
 simp[Instr.indexAt,asIntOf,run_underlying d,u,z,Go.sizeOf,typeInfo,hi,jd]
theorem br.Da{S:Nat->Prop}{w:World}{P:Program}{h:Nat->AB}{lo hi:Nat}{v:Value}(d:br S w P L rho h (.vw id lo hi) v)(u:h id=.row e es):
  L id/\∃n c a ti,rho id=.slice a n c/\P.info? e=some ti/\lo<=hi/\hi<=n/\n<=c/\v=.slice (if c=lo then a else a.map (·.add (lo*ti.size))) (hi-lo) (c-lo):=by
 cases d with
 | vw _ _ _ _ hv=>exact hv e (by rw[u];rfl)
theorem Db{o:Oper}(t:TypeId)(x ix:Operand)(aJ:o.op=.indexAddr t x ix):jt A o:=by
 intro V L S rho s a w K next Q hC z hV hd d _ D
 simp only[bV,aJ]at d;have hx:=bB z x fun j W=>hV j (by simp[aJ,Op.operands,W]);have hy:=bB z ix fun j W=>hV j (by simp[aJ,Op.operands,W]);split at d
 ·rename_i e size bytes zero eq k i hT we;have gk:=(hC.tab t _ hT).under;simp only at gk;rw[we]at hy;replace hy:=hy.bT;split at d
  ·exact d.elim
  rename_i te wg;obtain⟨J,ze,ql,Bu,_⟩:=(hC.tab e te wg).info;have X4:∀(es:List (List PV)),aQ S w (.sl es) (a.eval x)->(∃r,(0<=i/\es[i.toNat]?=some r)/\match Bi r.length te.size with | true=>K (.p (.ip r)) [] none | false=>False)->o.wp A.C.P a w next Q:=by
   intro es hrep d;obtain⟨r,⟨h0,hr⟩,d⟩:=d;split at d
   ·rename_i hlen;have hlen:=iN hlen;obtain⟨ad,c,Y,hle,cU⟩:=hrep.py;obtain⟨b,off,k',rfl,hb,hk,hcell⟩:=cU (by intro e;rw[e]at hr;simp at hr);have J1:k'=te.size:=by rw[<-hk r (an hr),hlen]
    have hU:∀(j:Nat) y,r[j]?=some y->∃u,w.cell? ⟨b,off+i.toNat*te.size+j,none⟩=some u/\u.oneCell'=true/\aQ S w y u:=by
     intro j y W;have:=hcell _ _ j y hr W;rw[J1]at this;exact this
    refine aM z hd D d (.p _ _ (.ip _ b (off+i.toNat*te.size) (fun j=>(w.cell? ⟨b,off+i.toNat*te.size+j,none⟩).getD undef) hb (fun j y W=>?_) fun j y W=>?_)) ?_
    ·obtain⟨u,h1,h2,Z⟩:=hU j y W;simp[h1,h2]
    ·obtain⟨u,h1,h2,Z⟩:=hU j y W;simp only[h1];exact Z
    have:=nS (w:=w) gk ql b off es.length c k i h0 (aA hr);simp only[execOp,aJ,Y,hy,bJ,this,dm,fF,Bu]
   exact d.elim
  split at d
  ·rename_i es E0;rw[E0]at hx;exact X4 es hx.fK d
  ·rename_i id E0;rw[E0]at hx;split at d
   ·rename_i e' es ay;split at d
    ·rename_i N;have N:=iN N;subst N;obtain⟨U,Y⟩:=hx.cW (by rw[ay];trivial);have O:=z.hp id U;rw[ay]at O;have Lo:aC A.C.P w (aQ S w) e' es (rho id):=O;obtain⟨⟨h0,gY⟩,d⟩:=d;obtain⟨i',xs,h1,h2,Z,h4,h5,h6⟩:=Lo;rcases Z.2 with⟨_,hn⟩ | ⟨g,cap,cur,hg,_,_,hle,_⟩
     ·omega
     refine aM z hd D d (v:=.pointer (some ⟨g,i.toNat*J.size,none⟩)) (.rp _ _ _ _ fun e2 I=>?_) ?_
     ·rw[ay]at I;injection I with I;subst I;exact⟨U,g,_,_,J,hg,ql,by rw[nJ]⟩
     have:=nS (w:=w) gk ql g 0 es.length cap k i h0 gY;rw[hg]at Y;rw[aY]at this;simp only[execOp,aJ,Y,hy,bJ,this,dm,fF]
    exact d.elim
   ·rename_i e' es ay;split at d
    ·rename_i N;have N:=iN N;subst N;obtain⟨U,Y⟩:=hx.cW (by rw[ay];trivial);have O:=z.hp id U;rw[ay]at O;have Lo:aC A.C.P w (s_ S w A.C.P L rho s.h) e' es (rho id):=O.1;obtain⟨⟨h0,gY⟩,d⟩:=d;obtain⟨i',xs,h1,h2,Z,h4,h5,h6⟩:=Lo;rcases Z.2 with⟨_,hn⟩ | ⟨g,cap,cur,hg,_,_,hle,_⟩
     ·omega
     refine aM z hd D d (v:=.pointer (some ⟨g,i.toNat*J.size,none⟩)) (.rp _ _ _ _ fun e2 I=>?_) ?_
     ·rw[ay]at I;injection I with I;subst I;exact⟨U,g,_,_,J,hg,ql,by rw[nJ]⟩
     have:=nS (w:=w) gk ql g 0 es.length cap k i h0 gY;rw[hg]at Y;rw[aY]at this;simp only[execOp,aJ,Y,hy,bJ,this,dm,fF]
    exact d.elim
   ·rename_i es J2;obtain⟨U,Y⟩:=hx.cW (by rw[J2];trivial);have O:=z.hp id U;rw[J2]at O;exact X4 es (by rw[Y];exact O) d
   exact d.elim
  ·rename_i id lo hi E0;rw[E0]at hx;split at d
   ·rename_i e' es ay;split at d
    ·rename_i N;have N:=iN N;subst N;obtain⟨U,n,cp,ad,V1,mh,Bj,YX,YY,SY,R⟩:=hx.Da ay;rw[ql]at Bj;injection Bj with Bj;subst Bj;have O:=z.hp id U;rw[ay]at O;have Lo:aC A.C.P w (aQ S w) e' es (rho id):=O;obtain⟨⟨h0,gY⟩,d⟩:=d;obtain⟨i',xs,h1,h2,Z,h4,h5,h6⟩:=Lo;rw[mh]at Z;rcases Z.2 with⟨h7,_⟩ | ⟨g,cap,cur,hg,_,_,hle,_⟩
     ·injection h7 with _ h8 h9;omega
     injection hg with g1 g2 g3;subst g1 g2 g3;refine aM z hd D d (v:=.pointer (some ⟨g,lo*J.size+i.toNat*J.size,none⟩)) (.rp _ _ _ _ fun e2 I=>?_) ?_
     ·rw[ay]at I;injection I with I;subst I;exact⟨U,g,_,_,J,mh,ql,by rw[nJ,nK]⟩
     have:=nS (w:=w) gk ql g (lo*J.size) (hi-lo) (cp-lo) k i h0 gY;rw[aa (by omega)]at R;have he:(if lo*J.size=0 then (⟨g,0,none⟩:Addr) else ⟨g,lo*J.size,none⟩)=⟨g,lo*J.size,none⟩:=by split<;>simp_all
     simp only[fG,Addr.add,aY,he]at R;simp only[execOp,aJ,R,hy,bJ,this,dm,fF]
    exact d.elim
   exact d.elim
  exact d.elim
 exact d.elim
theorem LN{o:Oper}(t:TypeId)(x J:Operand)(D:o.op=.index t x J):jt A o:=by
 intro V L S rho s a w K next Q hC d N W z _ u
 simp only[bV,D]at z;have O:=bB d x fun j I=>N j (by simp[D,Op.operands,I]);have R:=bB d J fun j I=>N j (by simp[D,Op.operands,I]);split at z
 ·rename_i size bytes zero eq st k i Y hs Z;have U:=(hC.tab t _ Y).under;simp only at U;rw[Z]at R;rw[hs]at O;obtain⟨b,⟨h0,hb⟩,z⟩:=z;refine aM d W u z (.p _ _ (.im _)) ?_;simp[execOp,D,O.bT,R.bT,Instr.index,asIntOf,run_underlying U,h0,hb]
 exact z.elim
theorem G6{o:Oper}(src dst:TypeId)(x:Operand)(O:o.op=.convert src dst x):jt A o:=by
 intro V L S rho s a w K next Q hC z Z Y J _ u
 simp only[bV,O]at J;have N:=bB z x fun j hj=>Z j (by simp[O,Op.operands,hj]);split at J
 ·rename_i k' n YZ k size bytes zero eq R U W;have I:=(hC.tab dst _ W).under;simp only at I;rw[R]at N;have D:∃d,A.C.P.underlying src=some d:=by
   have:=(hC.tab src _ U).under;cases hu:YZ.ud<;>rw[hu]at this
   ·exact⟨_,this.1.choose_spec.1⟩
   ·exact⟨_,this⟩
   ·exact⟨_,this.choose_spec.1⟩
   ·exact⟨_,this⟩
   ·exact⟨_,this⟩
   exact⟨_,this⟩
  obtain⟨d1,D⟩:=D;exact aM z Y u (oK J) (.p _ _ (.im _)) (by simp[execOp,O,N.bT,convert,run_underlying D,run_underlying I,Conv.intToInt])
 ·rename_i str To QY Tp Y0 Tq QZ Tr Y1 R U W;have I:=(hC.tab dst _ W).under;have D:=(hC.tab src _ U).under;simp only at D I;rw[R]at N;exact aM z Y u J (.p _ _ (.im _)) (by simp[execOp,O,N.bT,convert,run_underlying D,run_underlying I])
 ·rename_i k' n k'' To QY Tp Y0 Tq QZ Tr Y1 R U W;have I:=(hC.tab dst _ W).under;have D:=(hC.tab src _ U).under;simp only at D I;rw[R]at N;exact aM z Y u J (.p _ _ (.im _)) (by simp[execOp,O,N.bT,convert,run_underlying D,run_underlying I,Conv.intToString])
 exact J.elim
theorem E9{o:Oper}(x:Operand)(N:o.op=.nilCheck x):jt A o:=by
 intro V L S rho s a w K next Q hC I R W d _ D
 simp only[bV,N]at d;have u:=bB I x fun j Y=>R j (by simp[N,Op.operands,Y]);have fin:∀av O,K av [] none->br S w A.C.P L rho s.h av (a.eval x)->a.eval x=.pointer (some O)->o.wp A.C.P a w next Q:=by
  intro av O d Z he;exact aM I W D d Z (by simp[execOp,N,he])
 split at d
 ·rename_i cs J;rw[J]at u;obtain⟨b,off,U,z,_⟩:=u.fK.zn;exact fin _ _ d u z
 ·rename_i id off J;rw[J]at u;split at d
  ·rename_i hb;obtain⟨_,g,_,z⟩:=u.iO (by rw[hb];trivial);exact fin _ _ d u z
  ·rename_i hb;obtain⟨_,g,_,z⟩:=u.iO (by rw[hb];trivial);exact fin _ _ d u z
  exact d.elim
 ·rename_i id i off J;rw[J]at u;split at d
  ·rename_i hb;obtain⟨_,g,n,c,tj,_,_,z⟩:=u.zp hb;exact fin _ _ d u z
  ·rename_i hb;obtain⟨_,g,n,c,tj,_,_,z⟩:=u.uE hb;exact fin _ _ d u z
  exact d.elim
 exact d.elim
theorem E_{o:Oper}(f:FuncId)(first cap:Array Operand)(D:o.op=.makeFunc (.func f) first cap):jt A o:=by
 intro V L S rho s a w K next Q hC u O R z _ d
 simp only[bV,D]at z;split at z
 ·rename_i U;have W:first=#[]:=by
   obtain⟨l⟩:=first
   cases l with
   | nil=>rfl
   | cons y l=>simp[isNil]at U
  subst W;refine aM u R d z (.fn f _ (cap.map a.eval) (by simp) fun i c v J I=>?_) (by simp[execOp,D,Instr.makeFunc]);rw[aB]at J;obtain⟨y,Y,rfl⟩:=aT.1 J;have N:cap[i]?=some y:=by simpa using Y
  rw[Array.getElem?_map,N]at I;simp at I;rw[<-I];exact bB u y fun j Z=>O j (by simp[D,Op.operands];rw[<-Z];exact yB N)
 exact z.elim
end Go.AM
namespace Go.AM
open Go.RowKit
theorem cM(h:Nat->AB)(a b:List (Nat×AB)):app h (a++b)=app (app h a) b:=by
 induction a generalizing h with
 | nil=>rfl
 | cons x a ih=>exact ih _
theorem ba{α:Type}(f:Nat->α)(i:Nat)(x:α)(j:Nat):(j=i/\bq f i x j=x)\/(j≠i/\bq f i x j=f j):=by
 by_cases e:j=i
 ·subst e;exact .inl ⟨rfl,aH _ _ _⟩
 exact .inr ⟨e,a_ _ _ e⟩
variable {e:TypeId} {es:List (List PV)}
theorem aC.Fa{P:Program}{S S':Nat->Prop}{w:World}{v:Value}(h:aC P w (aQ S w) e es v)(hS:∀b,S b->S' b)(hb:∀g,bY v=some g->S' g):aQ S' w (.sl es) v:=by
 obtain⟨i,xs,h1,h2,J,R,U,N⟩:=h;rcases J.2 with⟨rfl,W⟩ | ⟨g,cap,cur,rfl,_,_,z,_⟩
 ·have:es=[]:=cP W;subst this;exact .nil _ _
 refine .sl es i.size g 0 cap (fun a j=>(xs[a*i.size+j]?).getD undef) z (hb g rfl) R (fun a r j x D I=>?_) fun a r j x D I=>?_
 ·obtain⟨u,d,O⟩:=N a r j x D I;have:=J.cells (g:=g) rfl _ u d;rw[jd]at this;rw[d,kP];exact⟨this,U u (an d)⟩
 obtain⟨u,d,O⟩:=N a r j x D I;rw[d];exact O.mono hS (fun _ _=>rfl)
variable {id:Nat}
theorem fL{w:World}{h:Nat->AB}{b:AB}{i:Nat}{v:Value}{g:Nat}(hi:i≠id)(d:hasB w (bq h id b i) v g):hasB w (h i) v g:=by rw[a_ _ _ hi]at d;exact d
variable {A:qB} {V L:Nat->Prop} {rho:Nat->Value} {s:AS}
theorem cc.Ca{S:Nat->Prop}{a:Act}{w:World}(d:cc A V L S rho s a w)(hC:bR A.C)(id:Nat)(N:L id)(ay:s.h id=.row e es):
  cc A V L (fun b=>S b\/bY (rho id)=some b) rho ⟨s.t,bq s.h id (.jr es)⟩ a w:=by
 have T:mQ S (fun b=>S b\/bY (rho id)=some b) w w L L rho rho s.h (bq s.h id (.jr es)):=by
  refine⟨fun b h=>.inl h,fun _ _=>rfl,fun j u=>⟨?_,fun Y=>⟨Y,rfl⟩⟩,fun j e' u=>?_⟩
  ·rcases ba s.h id (.jr es) j with⟨rfl,h⟩ | ⟨_,h⟩
   ·rw[ay];trivial
   rw[h]at u;exact u
  rcases ba s.h id (.jr es) j with⟨rfl,h⟩ | ⟨_,h⟩
  ·rw[h]at u;cases u
  rw[h]at u;exact u
 have z:∀j,((bq s.h id (.jr es)) j).live->j≠id/\(s.h j).live:=by
  intro j u;rcases ba s.h id (.jr es) j with⟨rfl,h⟩ | ⟨D,h⟩
  ·rw[h]at u;exact u.elim
  rw[h]at u;exact⟨D,u⟩
 have O:(s.h id).live:=by rw[ay];trivial
 exact
 {tm:=fun j u=>(d.tm j u).dH T
  sz:=d.sz,df:=d.df,nb:=d.nb,pn:=d.pn
  ev:=hC.env _ _ _ _ d.ev (fun b h=>.inl h) (fun _ _=>rfl) (aF _)
  s0:=fun b h=>.inl (d.s0 b h)
  st:=fun b h=>h.elim (d.st b) fun h=>(d.qk id b N O h).1
  sb:=fun b h=>h.elim (d.sb b) fun h=>.inr (d.qk id b N O h).2.2
  hp:=fun j u=>by
   have R:=d.hp j u;rcases ba s.h id (.jr es) j with⟨rfl,h⟩ | ⟨D,h⟩
   ·show fU _ _ _ _ _ _ _ (bq s.h j (.jr es) j);rw[h];rw[ay]at R;exact aC.Fa R (fun b h=>.inl h) (fun g h=>.inr h)
   show fU _ _ _ _ _ _ _ (bq s.h id (.jr es) j);rw[h];exact R.dH T (fun _ _ _=>rfl) (fun _=>rfl)
  dj:=fun i j g hi u I U Z kz=>d.dj i j g hi u (z i I).2 (z j U).2 (fL (z i I).1 Z) (fL (z j U).1 kz)
  lv:=fun i g hi I J=>by
   obtain⟨D,W⟩:=z i I;have J:=fL D J;obtain⟨h3,h4,h5⟩:=d.lv i g hi W J;refine⟨h3,fun h=>h.elim h4 fun h=>D (d.dj i id g hi N W O J (.inl h)),h5⟩
  fr:=d.fr }
theorem cc.J3{S:Nat->Prop}{a:Act}{w:World}(d:cc A V L S rho s a w)(hC:bR A.C)(id:Nat)(U:L id){cs:List AV}{xs:List PV}(ay:s.h id=.box cs)(qA:eV cs=some xs):
  cc A V L (fun b=>S b\/bY (rho id)=some b) rho ⟨s.t,bq s.h id (.ll xs)⟩ a w:=by
 have T:mQ S (fun b=>S b\/bY (rho id)=some b) w w L L rho rho s.h (bq s.h id (.ll xs)):=by
  refine⟨fun b h=>.inl h,fun _ _=>rfl,fun j z=>⟨?_,fun W=>⟨W,rfl⟩⟩,fun j e' z=>?_⟩
  ·rcases ba s.h id (.ll xs) j with⟨rfl,h⟩ | ⟨_,h⟩
   ·rw[ay];trivial
   rw[h]at z;exact z
  rcases ba s.h id (.ll xs) j with⟨rfl,h⟩ | ⟨_,h⟩
  ·rw[h]at z;cases z
  rw[h]at z;exact z
 have I:∀j,((bq s.h id (.ll xs)) j).live->j≠id/\(s.h j).live:=by
  intro j z;rcases ba s.h id (.ll xs) j with⟨rfl,h⟩ | ⟨J,h⟩
  ·rw[h]at z;exact z.elim
  rw[h]at z;exact⟨J,z⟩
 have Y:(s.h id).live:=by rw[ay];trivial
 exact
 {tm:=fun j z=>(d.tm j z).dH T
  sz:=d.sz,df:=d.df,nb:=d.nb,pn:=d.pn
  ev:=hC.env _ _ _ _ d.ev (fun b h=>.inl h) (fun _ _=>rfl) (aF _)
  s0:=fun b h=>.inl (d.s0 b h)
  st:=fun b h=>h.elim (d.st b) fun h=>(d.qk id b U Y h).1
  sb:=fun b h=>h.elim (d.sb b) fun h=>.inr (d.qk id b U Y h).2.2
  hp:=fun j z=>by
   have Z:=d.hp j z;rcases ba s.h id (.ll xs) j with⟨rfl,h⟩ | ⟨J,h⟩
   ·show fU _ _ _ _ _ _ _ (bq s.h j (.ll xs) j);rw[h];rw[ay]at Z;obtain⟨g,ty,c,k1,k2,k3,k4⟩:=Z;show aQ _ w (.ip xs) (rho j);rw[k1];obtain⟨W,rQ⟩:=iy qA;have hU:∀(i:Nat) x,xs[i]?=some x->∃u,c[i]?=some u/\u.oneCell'=true/\aQ S w x u:=by
     intro i x hi;obtain⟨y,hy⟩:∃y,cs[i]?=some y:=⟨_,aX (by rw[W];exact aA hi)⟩;obtain⟨u,hu⟩:=ky k3.symm (aA hy);obtain⟨D,N⟩:=k4 _ _ _ hy hu;exact⟨u,hu,D,N.yI (rQ i y x hy hi)⟩
    refine .ip xs g 0 (fun i=>(c[i]?).getD undef) (.inr rfl) (fun i x hi=>?_) fun i x hi=>?_
    ·obtain⟨u,D,N,h7⟩:=hU i x hi;rw[aY,cell_of_row w g i c ty (0,0) k2,D];exact⟨rfl,N⟩
    obtain⟨u,D,N,h7⟩:=hU i x hi;rw[D];exact h7.mono (fun b h=>.inl h) (fun _ _=>rfl)
   show fU _ _ _ _ _ _ _ (bq s.h id (.ll xs) j);rw[h];exact Z.dH T (fun _ _ _=>rfl) (fun _=>rfl)
  dj:=fun i j g hi z O lj fZ kz=>d.dj i j g hi z (I i O).2 (I j lj).2 (fL (I i O).1 fZ) (fL (I j lj).1 kz)
  lv:=fun i g hi O R=>by
   obtain⟨J,h2⟩:=I i O;have R:=fL J R;obtain⟨h3,h4,D⟩:=d.lv i g hi h2 R;refine⟨h3,fun h=>h.elim h4 fun h=>J (d.dj i id g hi U h2 Y R (.inl h)),D⟩
  fr:=d.fr }
def qD(h h':Nat->AB):Prop:=∀id,h' id=h id\/(∃e es,h id=.row e es/\h' id=.jr es)\/(∃cs xs,h id=.box cs/\eV cs=some xs/\h' id=.ll xs)
theorem qD.refl(h:Nat->AB):qD h h:=fun _=>.inl rfl
variable {h':Nat->AB}
theorem qD.LO{h:Nat->AB}(H:qD h h')(u:h id=.row e es):qD h (bq h' id (.jr es)):=by
 intro j;rcases ba h' id (.jr es) j with⟨rfl,d⟩ | ⟨_,d⟩
 ·exact .inr (.inl ⟨e,es,u,d⟩)
 rw[d];exact H j
theorem qD.LP{h:Nat->AB}(H:qD h h'){cs:List AV}{xs:List PV}(u:h id=.box cs)(z:eV cs=some xs):qD h (bq h' id (.ll xs)):=by
 intro j;rcases ba h' id (.ll xs) j with⟨rfl,d⟩ | ⟨_,d⟩
 ·exact .inr (.inr ⟨cs,xs,u,z,d⟩)
 rw[d];exact H j
theorem aQ.uF{S:Nat->Prop}{w:World}{xs:List PV}{g off:Nat}{v:Value}(h:aQ S w (.ip xs) v)(d:v=.pointer (some ⟨g,0,none⟩)):aQ S w (.ip (xs.drop off)) (.pointer (some ⟨g,off,none⟩)):=by
 subst d;obtain⟨b,o,U,d,hb,u,z⟩:=h.zn;injection d with d;injection d with d;injection d with h1 h2;subst h1 h2;refine .ip _ g off (fun j=>U (off+j)) hb (fun j x D=>?_) fun j x D=>?_
 ·rw[eE]at D;have:=u _ x D
  rwa [aY]at this
 rw[eE]at D;exact z _ x D
theorem Cb{S:Nat->Prop}{a:Act}{w:World}(hC:bR A.C){h:Nat->AB}(u:cc A V L S rho s a w)(J:qD h s.h){x:AV}{v:Value}(R:br S w A.C.P L rho s.h x v){K:PV->List (Nat×AB)->Prop}(z:mP h x K):
  ∃y fz S',K y fz/\cc A V L S' rho ⟨s.t,app s.h fz⟩ a w/\aQ S' w y v/\(∀b,S b->S' b)/\qD h (app s.h fz)/\(∀p∈fz,L p.1)/\(∀p∈fz,¬p.2.live):=by
 unfold mP at z;split at z
 ·exact⟨_,[],S,z,u,R.fK,fun _ h=>h,J,by simp,by simp⟩
 ·cases R;exact⟨_,[],S,z,u,.nil _ _,fun _ h=>h,J,by simp,by simp⟩
 ·rename_i id;split at z
  ·rename_i e es ay;rcases J id with d | ⟨e',Z,d,O⟩ | ⟨cs,xs,d,_,_⟩
   ·rw[ay]at d;obtain⟨D,N⟩:=R.cW (by rw[d];trivial);refine⟨_,_,_,z,u.Ca hC id D d,?_,fun b h=>.inl h,J.LO ay,by simpa using D,by simp[AB.live]⟩;have I:=u.hp id D;rw[d]at I;rw[N];exact aC.Fa I (fun b h=>.inl h) (fun g h=>.inr h)
   ·rw[ay]at d;injection d with e1 e2;subst e1 e2;obtain⟨D,N⟩:=R.cW (by rw[O];trivial);have I:=u.hp id D;rw[O]at I;refine⟨_,_,S,z,?_,by rw[N];exact I,fun _ h=>h,J.LO ay,by simpa using D,by simp[AB.live]⟩;show cc A V L S rho ⟨s.t,bq s.h id (.jr es)⟩ a w;rw[jO _ _ _ O];exact u
   rw[ay]at d;cases d
  ·rename_i es J2;rcases J id with d | ⟨e',Z,d,O⟩ | ⟨cs,xs,d,_,_⟩
   ·rw[J2]at d;obtain⟨D,N⟩:=R.cW (by rw[d];trivial);have I:=u.hp id D;rw[d]at I;exact⟨_,[],S,z,u,by rw[N];exact I,fun _ h=>h,J,by simp,by simp⟩
   ·rw[J2]at d;cases d
   rw[J2]at d;cases d
  exact z.elim
 ·rename_i id off;split at z
  ·rename_i cs a7;split at z
   ·rename_i xs qA;rcases J id with d | ⟨e',Z,d,O⟩ | ⟨nz,tb,d,Y,O⟩
    ·rw[a7]at d;obtain⟨D,g,U,N⟩:=R.iO (by rw[d];trivial);have ca:=u.J3 hC id D d qA;refine⟨_,_,_,z,ca,?_,fun b h=>.inl h,J.LP a7 qA,by simpa using D,by simp[AB.live]⟩;have I:=ca.hp id D;have Lo:fU _ w A.C.P L rho _ id (bq s.h id (.ll xs) id):=I;rw[aH]at Lo;have W:aQ _ w (.ip xs) (rho id):=Lo;rw[N];exact W.uF U
    ·rw[a7]at d;cases d
    rw[a7]at d;injection d with d;subst d;rw[qA]at Y;injection Y with Y;subst Y;obtain⟨D,g,U,N⟩:=R.iO (by rw[O];trivial);have I:=u.hp id D;rw[O]at I;have W:aQ _ w (.ip xs) (rho id):=I;refine⟨_,_,S,z,?_,by rw[N];exact W.uF U,fun _ h=>h,J.LP a7 qA,by simpa using D,by simp[AB.live]⟩;show cc A V L S rho ⟨s.t,bq s.h id (.ll xs)⟩ a w;rw[jO _ _ _ O];exact u
   exact z.elim
  ·rename_i xs Q1;rcases J id with d | ⟨e',Z,d,O⟩ | ⟨cs,tb,d,_,_⟩
   ·rw[Q1]at d;obtain⟨D,g,U,N⟩:=R.iO (by rw[d];trivial);have I:=u.hp id D;rw[d]at I;have W:aQ _ w (.ip xs) (rho id):=I;exact⟨_,[],S,z,u,by rw[N];exact W.uF U,fun _ h=>h,J,by simp,by simp⟩
   ·rw[Q1]at d;cases d
   rw[Q1]at d;cases d
  exact z.elim
 exact z.elim
theorem J4{b:AB}(h:b.pq=some e):b.live:=by cases b<;>first | trivial | cases h
theorem J5{fz:List (Nat×AB)}(u:∀p∈fz,¬p.2.live):∀{h:Nat->AB} {id:Nat},(app h fz id).live->app h fz id=h id:=by
 induction fz with
 | nil=>intro h id _;rfl
 | cons p fz ih=>
  intro h id d;obtain⟨i,b⟩:=p;have e:=ih (fun p hp=>u p (by simp[hp])) (h:=bq h i b) (id:=id) d;have z:app h ((i,b)::fz) id=bq h i b id:=e;by_cases D:id=i
  ·subst D;rw[z,aH]at d;exact absurd d (u (id,b) (by simp))
  rw[z,a_ _ _ D]
theorem qD.there{h:Nat->AB}(H:qD h h')(id:Nat):(h' id).there↔(h id).there:=by
 rcases H id with d | ⟨e,es,d,u⟩ | ⟨cs,xs,d,_,u⟩
 ·rw[d]
 ·rw[d,u];exact fH
 rw[d,u];exact fH
theorem br.Ts{S S':Nat->Prop}{w:World}{P:Program}{h h':Nat->AB}{fz:List (Nat×AB)}(hS:∀b,S b->S' b)(H:qD h h')(u:qD h (app h' fz))(z:∀p∈fz,¬p.2.live){x:AV}{v:Value}(D:br S w P L rho h' x v):br S' w P L rho (app h' fz) x v:=
 D.dH ⟨hS,fun _ _=>rfl,fun id I=>⟨(H.there id).2 ((u.there id).1 I),fun J=>⟨J,rfl⟩⟩,fun id e d=>by rw[<-J5 (h:=h') (id:=id) z (J4 d)];exact d⟩
theorem Cc{t:Nat->AV}{a:Act}{w:World}(hC:bR A.C){h:Nat->AB}:∀(cap:List AV) (vs:List Value) (S:Nat->Prop) (h':Nat->AB) {K:List PV->List (Nat×AB)->Prop},cap.length=vs.length->cc A V L S rho ⟨t,h'⟩ a w->qD h h' ->
  (∀(i:Nat) c v,cap[i]?=some c->vs[i]?=some v->br S w A.C.P L rho h' c v)->xg h cap K ->
  ∃xs fz S',K xs fz/\cc A V L S' rho ⟨t,app h' fz⟩ a w/\(∀(i:Nat) x v,xs[i]?=some x->vs[i]?=some v->aQ S' w x v)/\(∀b,S b->S' b)/\qD h (app h' fz)/\(∀p∈fz,L p.1)/\xs.length=vs.length:=by
 intro cap
 induction cap with
 | nil=>
  intro vs S h' K N z O _ D;have:vs=[]:=cP N.symm;subst this;exact⟨[],[],S,D,z,by simp,fun _ h=>h,O,by simp,rfl⟩
 | cons c cap ih=>
  intro vs S h' K N z O d D;cases vs with
  | nil=>simp at N
  | cons v vs=>
   obtain⟨y,fz,Y,D,Z,hp,R,U,Fb,IW⟩:=Cb (s:=⟨t,h'⟩) hC z O (d 0 c v rfl rfl) D;obtain⟨xs,nQ,S',k1,k2,k3,W,k5,k6,k7⟩:=ih vs Y (app h' fz) (by simpa using N) Z U (fun i x u I J=>(d (i+1) x u (by simpa using I) (by simpa using J)).Ts R O U IW) D;refine⟨y::xs,fz++nQ,S',k1,by rw[cM];exact k2,fun i x u I J=>?_,fun b hb=>W b (R b hb),by rw[cM];exact k5,fun p hp=>(cm.1 hp).elim (Fb p) (k6 p),by simp[k7]⟩;cases i with
   | zero=>simp at I J;subst I J;exact hp.mono W (fun _ _=>rfl)
   | succ i=>exact k3 i x u (by simpa using I) (by simpa using J)
theorem iR{S:Nat->Prop}{a:Act}{w:World}(hC:bR A.C){h:Nat->AB}(d:cc A V L S rho s a w)(I:qD h s.h){x:AV}{v:Value}(J:br S w A.C.P L rho s.h x v){K:PV->List (Nat×AB)->Prop}(D:gn h x K):
  ∃y fz S',K y fz/\cc A V L S' rho ⟨s.t,app s.h fz⟩ a w/\aQ S' w y v/\(∀b,S b->S' b)/\qD h (app s.h fz)/\(∀p∈fz,L p.1):=by
 unfold gn at D;split at D
 ·rename_i f cap;cases J with
  | fn _ _ vs N hc=>
   obtain⟨xs,fz,S',O,R,U,W,Y,Z,k7⟩:=Cc (t:=s.t) hC cap vs.toList S s.h (by simpa using N) d I (fun i c v u z=>hc i c v u (by simpa using z)) D;exact⟨_,fz,S',O,R,.fn f xs vs (by simpa using k7) (fun i c v u z=>U i c v u (by simpa using z)),W,Y,Z⟩
 obtain⟨y,fz,S',u,z,h3,h4,h5,h6,_⟩:=Cb hC d I J D;exact⟨y,fz,S',u,z,h3,h4,h5,h6⟩
theorem ji{d:Nat}:∀{fz:List (Nat×AB)} {h:Nat->AB},(∀p∈fz,p.1≠d)->app h fz d=h d:=by
 intro fz
 induction fz with
 | nil=>intro h _;rfl
 | cons x fz ih=>
  intro h u;show app (bq h x.1 x.2) fz d=h d;rw[ih (fun p hp=>u p (by simp[hp])),a_ _ _ (fun e=>u x (by simp) e.symm)]
theorem cc.kill{S:Nat->Prop}{a:Act}{w:World}(d:cc A V L S rho s a w)(id:Nat):cc A V L S rho ⟨s.t,bq s.h id .none⟩ a w:=by
 have T:mQ S S w w L L rho rho s.h (bq s.h id .none):=by
  refine⟨fun b h=>h,fun _ _=>rfl,fun j u=>⟨?_,fun N=>⟨N,rfl⟩⟩,fun j e' u=>?_⟩
  ·rcases ba s.h id .none j with⟨rfl,h⟩ | ⟨_,h⟩
   ·rw[h]at u;exact u.elim
   rw[h]at u;exact u
  rcases ba s.h id .none j with⟨rfl,h⟩ | ⟨_,h⟩
  ·rw[h]at u;cases u
  rw[h]at u;exact u
 have z:∀j,((bq s.h id .none) j).live->j≠id/\(s.h j).live:=by
  intro j u;rcases ba s.h id .none j with⟨rfl,h⟩ | ⟨I,h⟩
  ·rw[h]at u;exact u.elim
  rw[h]at u;exact⟨I,u⟩
 exact
 {tm:=fun j u=>(d.tm j u).dH T
  sz:=d.sz,df:=d.df,nb:=d.nb,pn:=d.pn,ev:=d.ev,s0:=d.s0,st:=d.st,sb:=d.sb
  hp:=fun j u=>by
   have O:=d.hp j u;rcases ba s.h id .none j with⟨rfl,h⟩ | ⟨I,h⟩
   ·show fU _ _ _ _ _ _ _ (bq s.h j .none j);rw[h];trivial
   show fU _ _ _ _ _ _ _ (bq s.h id .none j);rw[h];exact O.dH T (fun _ _ _=>rfl) (fun _=>rfl)
  dj:=fun i j g hi u D J R U=>d.dj i j g hi u (z i D).2 (z j J).2 (fL (z i D).1 R) (fL (z j J).1 U)
  lv:=fun i g hi D W=>d.lv i g hi (z i D).2 (fL (z i D).1 W)
  fr:=d.fr }
theorem cc.qK{S:Nat->Prop}{a:Act}{w:World}(u:cc A V L S rho s a w)(hC:bR A.C)(d:Nat)(b:AB)(hdb:d<100000)(hL:¬L d)(hb:s.h d=b)(w':World)(ho:w'.os=w.os)(ht:w'.tape=w.tape)(hu:w'.output=w.output)
  (O:w.heap.size<=w'.heap.size) (R:Nat->Prop) (D:∀k,k<w.heap.size->¬R k->w'.heap[k]?=w.heap[k]?) (U:∀k,R k->¬S k/\(∀i,L i->(s.h i).live->¬hasB w (s.h i) (rho i) k)/\(A.mv k\/A.w0.heap.size<=k))
  (hv:Value) (J:∀g,hasB w' b hv g->g<w'.heap.size/\(w.heap.size<=g\/R g))
  (hrep:mQ S S w w' L (fun i=>L i\/i=d) rho (bq rho d hv) s.h s.h->fU S w' A.C.P (fun i=>L i\/i=d) (bq rho d hv) s.h d b):
  cc A V (fun i=>L i\/i=d) S (bq rho d hv) s a w':=by
 have lx:∀b,S b->w'.heap[b]?=w.heap[b]?:=fun k hk=>D k (u.st k hk) fun W=>(U k W).1 hk;have cU:∀i,L i->i≠d:=fun i hi e=>hL (e▸hi);have T:mQ S S w w' L (fun i=>L i\/i=d) rho (bq rho d hv) s.h s.h:=
  ⟨fun b h=>h,lx,fun j N=>⟨N,fun z=>⟨.inl z,a_ _ _ (cU j z)⟩⟩,fun j e' N=>N⟩
 exact
 {tm:=fun j N=>(u.tm j N).dH T
  sz:=u.sz,df:=u.df,nb:=u.nb,pn:=fun id h=>by rw[a_ _ _ (by omega)];exact u.pn id h
  ev:=hC.env _ _ _ _ u.ev (fun b h=>h) lx O
  s0:=u.s0
  st:=fun b hb=>cG (u.st b hb) O
  sb:=u.sb
  hp:=fun j N=>by
   by_cases e:j=d
   ·subst e;rw[hb];exact hrep T
   have z:L j:=N.resolve_right e;refine (u.hp j z).dH T (fun I g hg=>?_) (fun _=>a_ _ _ e);exact D g (u.lv j g z I hg).1 fun W=>(U g W).2.1 j z I hg
  dj:=fun i j g hi N I lj Z Y=>by
   have back:∀i g,L i->(s.h i).live->hasB w' (s.h i) (rho i) g->hasB w (s.h i) (rho i) g:=fun i g z I h=>d_ (fun k hk=>D k (u.qk i k z I hk).1 fun W=>(U k W).2.1 i z I (.inl hk)) h;by_cases e1:i=d
   ·by_cases e2:j=d
    ·rw[e1,e2]
    have z:L j:=N.resolve_right e2;rw[a_ _ _ e2]at Y;have Y:=back j g z lj Y;rw[e1,aH,hb]at Z;rcases (J g Z).2 with h | h
    ·exact absurd (u.lv j g z lj Y).1 (by omega)
    exact absurd Y ((U g h).2.1 j z lj)
   have z:L i:=hi.resolve_right e1;rw[a_ _ _ e1]at Z;have Z:=back i g z I Z;by_cases e2:j=d
   ·rw[e2,aH,hb]at Y;rcases (J g Y).2 with h | h
    ·exact absurd (u.lv i g z I Z).1 (by omega)
    exact absurd Z ((U g h).2.1 i z I)
   have ye:L j:=N.resolve_right e2;rw[a_ _ _ e2]at Y;exact u.dj i j g z ye I lj Z (back j g ye lj Y)
  lv:=fun i g hi I hg=>by
   by_cases e:i=d
   ·rw[e,aH,hb]at hg;obtain⟨h1,h2⟩:=J g hg;refine⟨h1,?_⟩;rcases h2 with h | h
    ·exact⟨fun hs=>absurd (u.st g hs) (by omega),.inr (aO u.fr.size h)⟩
    exact⟨(U g h).1,(U g h).2.2⟩
   have z:L i:=hi.resolve_right e;rw[a_ _ _ e]at hg;obtain⟨h1,h2,h3⟩:=u.lv i g z I (d_ (fun k hk=>D k (u.qk i k z I hk).1 fun W=>(U k W).2.1 i z I (.inl hk)) hg);exact⟨cG h1 O,h2,h3⟩
  fr:=u.fr.next ho ht hu O fun k hk hn=>D k (cG hk u.fr.size) fun W=>by
   rcases (U k W).2.2 with h | h
   ·exact hn h
   omega }
theorem cc.new{S:Nat->Prop}{a:Act}{w:World}(J:cc A V L S rho s a w)(hC:bR A.C)(d:Nat)(b:AB)(N:d<100000)(W:¬L d)(hb:s.h d=b)(w':World)(Y:w'.os=w.os)(Z:w'.tape=w.tape)(hu:w'.output=w.output)
  (O:w.heap.size<=w'.heap.size) (R:Nat->Prop) (u:∀k,k<w.heap.size->¬R k->w'.heap[k]?=w.heap[k]?) (hR:∀k,R k->¬S k/\(∀i,L i->(s.h i).live->¬hasB w (s.h i) (rho i) k)/\(A.mv k\/A.w0.heap.size<=k))
  (z:Value) (D:∀g,bY z=some g->g<w'.heap.size/\(w.heap.size<=g\/R g))
  (I:mQ S S w w' L (fun i=>L i\/i=d) rho (bq rho d z) s.h s.h->fU S w' A.C.P (fun i=>L i\/i=d) (bq rho d z) s.h d b)
  (U:QN b=true:=by rfl):
  cc A V (fun i=>L i\/i=d) S (bq rho d z) s a w':=
 J.qK hC d b N W hb w' Y Z hu O R u hR z (fun g h=>D g (aD U h)) I
theorem cc.Tt{S:Nat->Prop}{a:Act}{w:World}(d:cc A V L S rho s a w)(hC:bR A.C)(w':World)(u:Fr (fun _=>False) w w')(S':Nat->Prop)(I:∀b,S b->S' b)(U:∀b,S' b->b<w'.heap.size)(N:∀b,S' b->S b\/w.heap.size<=b):cc A V L S' rho s a w':=by
 have O:∀b,S b->w'.heap[b]?=w.heap[b]?:=fun k hk=>u.block k (d.st k hk) (fun h=>h);have T:mQ S S' w w' L L rho rho s.h s.h:=⟨I,O,fun j z=>⟨z,fun W=>⟨W,rfl⟩⟩,fun j e' z=>z⟩;exact
 {tm:=fun j z=>(d.tm j z).dH T
  sz:=d.sz,df:=d.df,nb:=d.nb,pn:=d.pn
  ev:=hC.env _ _ _ _ d.ev I O u.size
  s0:=fun b hb=>I b (d.s0 b hb)
  st:=U
  sb:=fun b hb=>by
   rcases N b hb with h | h
   ·exact d.sb b h
   exact .inr (.inr (aO d.fr.size h))
  hp:=fun j z=>(d.hp j z).dH T (fun D g J=>u.block g (d.lv j g z D J).1 (fun h=>h)) (fun _=>rfl)
  dj:=fun i j g hi z D R Y Z=>d.dj i j g hi z D R (d_ (fun k hk=>u.block k (d.qk i k hi D hk).1 (fun h=>h)) Y) (d_ (fun k hk=>u.block k (d.qk j k z R hk).1 (fun h=>h)) Z)
  lv:=fun i g hi D J=>by
   obtain⟨a1,a2,a3⟩:=d.lv i g hi D (d_ (fun k hk=>u.block k (d.qk i k hi D hk).1 (fun h=>h)) J);refine⟨cG a1 u.size,fun h=>?_,a3⟩;rcases N g h with h | h
   ·exact a2 h
   omega
  fr:=d.fr.next u.os u.tape u.output u.size fun k hk _=>u.block k (cG hk d.fr.size) (fun h=>h) }
theorem cc.Q2{S:Nat->Prop}{a:Act}{w:World}(u:cc A V L S rho s a w)(d:Nat)(es:List (List PV))(hdb:d<100000)(Z:¬L d)(hb:s.h d=.jr es)(N:Value)
  (I:aQ S w (.sl es) N):cc A V (fun i=>L i\/i=d) S (bq rho d N) s a w:=by
 have cU:∀i,L i->i≠d:=fun i hi e=>Z (e▸hi);have T:mQ S S w w L (fun i=>L i\/i=d) rho (bq rho d N) s.h s.h:=
  ⟨fun b h=>h,fun _ _=>rfl,fun j z=>⟨z,fun O=>⟨.inl O,a_ _ _ (cU j O)⟩⟩,fun j e' z=>z⟩
 have out:∀i,(L i\/i=d)->(s.h i).live->L i/\i≠d:=fun i hi D=>by
  by_cases e:i=d
  ·rw[e,hb]at D;exact D.elim
  exact⟨hi.resolve_right e,e⟩
 exact
 {tm:=fun j z=>(u.tm j z).dH T
  sz:=u.sz,df:=u.df,nb:=u.nb,pn:=fun id h=>by rw[a_ _ _ (by omega)];exact u.pn id h
  ev:=u.ev
  s0:=u.s0
  st:=u.st
  sb:=u.sb
  hp:=fun j z=>by
   by_cases e:j=d
   ·subst e;rw[hb];show aQ S w (.sl es) (bq rho j N j);rw[aH];exact I
   have O:L j:=z.resolve_right e;exact (u.hp j O).dH T (fun D g hg=>rfl) (fun _=>a_ _ _ e)
  dj:=fun i j g hi z D W J Y=>by
   obtain⟨R,U⟩:=out i hi D;obtain⟨l2,e2⟩:=out j z W;rw[a_ _ _ U]at J;rw[a_ _ _ e2]at Y;exact u.dj i j g R l2 D W J Y
  lv:=fun i g hi D J=>by
   obtain⟨R,U⟩:=out i hi D;rw[a_ _ _ U]at J;exact u.lv i g R D J
  fr:=u.fr }
theorem cc.Dc{S:Nat->Prop}{a:Act}{w:World}(d:cc A V L S rho s a w)(hC:bR A.C)(id:Nat)(R:L id)(J:(s.h id).live)(z:AB)(gZ:∀e,z.pq=some e->(s.h id).pq=some e)
  (w':World) (ho:w'.os=w.os) (ht:w'.tape=w.tape) (hu:w'.output=w.output) (I:w'.heap.size=w.heap.size) (D:∀k,bY (rho id)≠some k->w'.heap[k]?=w.heap[k]?)
  (O:mQ S S w w' L L rho rho s.h (bq s.h id z)->fU S w' A.C.P L rho (bq s.h id z) id z) (hown:∀g,hasB w' z (rho id) g->hasB w (s.h id) (rho id) g):cc A V L S rho ⟨s.t,bq s.h id z⟩ a w':=by
 have lx:∀b,S b->w'.heap[b]?=w.heap[b]?:=fun k hk=>D k fun e=>(d.qk id k R J e).2.1 hk;have Q3:(s.h id).there:=by cases hh:s.h id<;>rw[hh]at J<;>first | trivial | exact J.elim
 have T:mQ S S w w' L L rho rho s.h (bq s.h id z):=by
  refine⟨fun b h=>h,lx,fun j u=>⟨?_,fun Y=>⟨Y,rfl⟩⟩,fun j e' u=>?_⟩
  ·rcases ba s.h id z j with⟨rfl,h⟩ | ⟨_,h⟩
   ·exact Q3
   rw[h]at u;exact u
  rcases ba s.h id z j with⟨rfl,h⟩ | ⟨_,h⟩
  ·rw[h]at u;exact gZ e' u
  rw[h]at u;exact u
 have Z:∀j,((bq s.h id z) j).live->(s.h j).live:=by
  intro j u;rcases ba s.h id z j with⟨rfl,h⟩ | ⟨U,h⟩
  ·exact J
  rw[h]at u;exact u
 have back:∀j g,L j->((bq s.h id z) j).live->hasB w' (bq s.h id z j) (rho j) g->hasB w (s.h j) (rho j) g:=by
  intro j g Y u W;rcases ba s.h id z j with⟨rfl,h⟩ | ⟨U,h⟩
  ·rw[h]at W;exact hown g W
  rw[h]at W u;exact d_ (fun k hk=>D k fun e=>U (d.Tm j id k Y R u J hk e)) W
 exact
 {tm:=fun j u=>(d.tm j u).dH T
  sz:=d.sz,df:=d.df,nb:=d.nb,pn:=d.pn
  ev:=hC.env _ _ _ _ d.ev (fun b h=>h) lx (nL I.symm)
  s0:=d.s0
  st:=fun b hb=>by rw[I];exact d.st b hb
  sb:=d.sb
  hp:=fun j u=>by
   rcases ba s.h id z j with⟨rfl,h⟩ | ⟨U,h⟩
   ·show fU _ _ _ _ _ _ _ (bq s.h j z j);rw[h];exact O T
   show fU _ _ _ _ _ _ _ (bq s.h id z j);rw[h];refine (d.hp j u).dH T (fun N g hg=>D g fun e=>?_) (fun _=>rfl);exact U (d.dj j id g u R N J hg (.inl e))
  dj:=fun i j g hi u N lj fZ kz=>d.dj i j g hi u (Z i N) (Z j lj) (back i g hi N fZ) (back j g u lj kz)
  lv:=fun i g hi N hg=>by rw[I];exact d.lv i g hi (Z i N) (back i g hi N hg)
  fr:=d.fr.next ho ht hu (nL I.symm) fun k hk hn=>D k fun e=>by
   rcases (d.qk id k R J e).2.2 with h | h
   ·exact hn h
   omega }
theorem cc.write{S:Nat->Prop}{a:Act}{w:World}(D:cc A V L S rho s a w)(hC:bR A.C)(id:Nat)(N:L id)(O:(s.h id).live)(d:AB)(R:∀e,d.pq=some e->(s.h id).pq=some e)
  (w':World) (U:w'.os=w.os) (W:w'.tape=w.tape) (Y:w'.output=w.output) (I:w'.heap.size=w.heap.size) (u:∀k,bY (rho id)≠some k->w'.heap[k]?=w.heap[k]?)
  (z:mQ S S w w' L L rho rho s.h (bq s.h id d)->fU S w' A.C.P L rho (bq s.h id d) id d) (J:QN d=true:=by rfl):cc A V L S rho ⟨s.t,bq s.h id d⟩ a w':=
 D.Dc hC id N O d R w' U W Y I u z fun _ h=>.inl (aD J h)
theorem cc.qm{S:Nat->Prop}{a:Act}{w:World}(u:cc A V L S rho s a w){dst:Option Tmp}(z:∀d,dst=some d->d<A.n):dst.getD 0<100000:=by
 cases dst with
 | none=>exact Nat.zero_lt_succ _
 | some d=>exact cG (z d rfl) u.nb
theorem rS{S:Nat->Prop}{a:Act}{w:World}(D:cc A V L S rho s a w){x:AV}{v:Value}(h:wa s.h x=true)(u:br S w A.C.P L rho s.h x v):v.oneCell'=true:=by
 unfold wa at h;split at h
 ·rw[u.bT];exact h
 ·cases h
 ·rename_i y O R;have U:=u.fK;cases U with
  | im=>exact absurd rfl (O _)
  | ag cs vs=>exact absurd rfl (R cs)
  | nil=>rfl
  | sl=>rfl
  | ip=>rfl
  | fn=>rfl
 ·cases u;rfl
 ·rename_i id;split at h
  ·rename_i e es ay;obtain⟨J,d⟩:=u.cW (by rw[ay];trivial);have z:=D.hp id J;rw[ay]at z;obtain⟨i,xs,_,_,N,_⟩:=z;rw[d];rcases N.2 with⟨I,_⟩ | ⟨g,cap,cur,I,_⟩<;>rw[I]<;>rfl
  ·rename_i e es ay;obtain⟨J,d⟩:=u.cW (by rw[ay];trivial);have z:=D.hp id J;rw[ay]at z;obtain⟨⟨i,xs,_,_,N,_⟩,_⟩:=z;rw[d];rcases N.2 with⟨I,_⟩ | ⟨g,cap,cur,I,_⟩<;>rw[I]<;>rfl
  ·rename_i es ay;obtain⟨J,d⟩:=u.cW (by rw[ay];trivial);have z:=D.hp id J;rw[ay]at z;obtain⟨ad,c,I,_⟩:=aQ.py z;rw[d,I];rfl
  cases h
 ·rename_i id off;split at h
  ·cases h
  rename_i W;have Y:(s.h id).there:=by
   cases z:s.h id<;>first | trivial | exact absurd z (by simpa using W)
  obtain⟨_,g,_,d⟩:=u.iO Y;rw[d];rfl
 ·rename_i id i off;split at h
  ·rename_i e es ay;obtain⟨_,g,n,c,tj,_,_,d⟩:=u.zp ay;rw[d];rfl
  ·rename_i e es ay;obtain⟨_,g,n,c,tj,_,_,d⟩:=u.uE ay;rw[d];rfl
  cases h
 ·cases u;rfl
 cases h
theorem cells_one{v:Value}(h:v.oneCell'=true):v.cells=#[v]:=by cases v<;>first | rfl | cases h
theorem xn{S:Nat->Prop}{w:World}{x:PV}{ys:List PV}{v:Value}(h:tF x=some ys)(z:aQ S w x v):v.cells.size=ys.length/\(∀u∈v.cells.toList,u.oneCell'=true)/\∀(j:Nat) y u,ys[j]?=some y->v.cells[j]?=some u->aQ S w y u:=by
 have one:∀{v:Value},v.oneCell'=true->aQ S w x v->ys=[x]->v.cells.size=ys.length/\(∀u∈v.cells.toList,u.oneCell'=true)/\∀(j:Nat) y u,ys[j]?=some y->v.cells[j]?=some u->aQ S w y u:=by
  intro v d z N;subst N;rw[cells_one d];refine⟨rfl,by simpa using d,fun j y u D J=>?_⟩;cases j with
  | zero=>simp at D J;subst D J;exact z
  | succ j=>simp at D
 unfold tF at h;split at h
 ·injection h with h;subst h;obtain⟨vs,rfl,d,I,O⟩:=z.tI;exact⟨d.symm,I,O⟩
 ·split at h
  ·rename_i d;injection h with h;exact one (by rw[z.bT];exact d) z h.symm
  cases h
 rename_i d I;injection h with h;refine one ?_ z h.symm;cases z with
 | im=>exact absurd rfl (I _)
 | ag cs=>exact absurd rfl (d cs)
 | nil=>rfl
 | sl=>rfl
 | ip=>rfl
 | fn=>rfl
theorem Q4{o:Oper}(e:TypeId)(x:Operand)(aJ:o.op=.box e x):jt A o:=by
 intro V L S rho s a w K next Q hC N hV hd J hn O
 simp only[bV,aJ]at J;have U:=bB N x fun j d=>hV j (by simp[aJ,Op.operands,d]);have hr:(execOp a.eval o).run A.C.P w=.ok (.value (.pointer (some ⟨w.heap.size,0,none⟩))) (w.alloc (.cells (a.eval x).cells e)):=by
  simp[execOp,aJ,Instr.box,newVar,newRow,newObj,Sem.run]
 have I:∀cs:List AV,K (.bx (o.dst.getD 0) 0) [] (some (.box cs))->(a.eval x).cells.size=cs.length->(∀(j:Nat) y u,cs[j]?=some y->(a.eval x).cells[j]?=some u->u.oneCell'=true/\br S w A.C.P L rho s.h y u)->o.wp A.C.P a w next Q:=by
  intro cs J hl hc;obtain⟨hL,hb⟩:=hn _ _ _ J;have ca:=N.new hC (o.dst.getD 0) (.box cs) (N.qm hd) hL hb (w.alloc (.cells (a.eval x).cells e)) rfl rfl rfl (by simp) (fun _=>False) (fun k hk _=>nM _ _ _ hk) (fun _ h=>h.elim) (.pointer (some ⟨w.heap.size,0,none⟩))
   (fun g hg=>by simp[bY]at hg;subst hg;simp) (fun T=>⟨w.heap.size,e,(a.eval x).cells,aH _ _ _,heap_alloc_new w _,hl,fun j y u d D=>⟨(hc j y u d D).1,(hc j y u d D).2.dH T⟩⟩)
  refine eO hr (O _ _ _ _ _ _ _ J (ca.value o.dst hd _ _ (.bx _ _ _ fun _=>⟨.inr rfl,w.heap.size,aH _ _ _,rfl⟩)))
 split at J
 ·rename_i cs nR;rw[nR]at U;obtain⟨vs,W,Y,R,h3⟩:=U.fK.tI;refine I _ J (by rw[W];simp[Value.cells,Y]) fun j y u d D=>?_;rw[W]at D;rw[aB]at d;obtain⟨z,hz,rfl⟩:=aT.1 d;have Z:vs[j]?=some u:=D;exact⟨R u (by simpa using yB Z),.p _ _ (h3 j z u hz Z)⟩
 ·rename_i xs nR;rw[nR]at U;obtain⟨vs,W,Y,R,h3⟩:=U.QT;refine I _ J (by rw[W];simp[Value.cells,Y]) fun j y u d D=>?_;rw[W]at D;have Z:vs[j]?=some u:=D;exact⟨R u (by simpa using yB Z),h3 j y u d Z⟩
 split at J
 ·rename_i Y;have R:=rS N Y U;refine I _ J (by rw[cells_one R];rfl) fun j y u d D=>?_;rw[cells_one R]at D;cases j with
  | zero=>simp at d D;subst d D;exact⟨R,U⟩
  | succ j=>simp at d
 exact J.elim
theorem LQ{o:Oper}(e:TypeId)(aJ:o.op=.alloc e):jt A o:=by
 intro V L S rho s a w K next Q hC D hV W J hn d
 simp only[bV,aJ]at J;split at J
 ·rename_i ti hT;obtain⟨info,z,hi,h1,h2,hz,Y,jG⟩:=(hC.tab e ti hT).info;have hr:(execOp a.eval o).run A.C.P w=.ok (.value (.pointer (some ⟨w.heap.size,0,none⟩))) (w.alloc (.cells z.cells e)):=by
   simp[execOp,aJ,Instr.alloc,zeroValue,typeInfo,hi,hz,newVar,newRow,newObj,Sem.run]
  split at J
  ·obtain⟨Z,hb⟩:=hn _ _ _ J;have ca:=D.new hC (o.dst.getD 0) _ (D.qm W) Z hb (w.alloc (.cells z.cells e)) rfl rfl rfl (by simp) (fun _=>False) (fun k hk _=>nM _ _ _ hk) (fun _ h=>h.elim) (.pointer (some ⟨w.heap.size,0,none⟩))
    (fun g N=>by simp[bY]at N;subst N;simp) (fun T=>⟨w.heap.size,e,z.cells,aH _ _ _,heap_alloc_new w _,by rw[Y];simp,fun j y u O R=>by
     rw[Y]at R;rw[aB]at O;obtain⟨v,U,rfl⟩:=aT.1 O;have I:ti.zero[j]?=some u:=by simpa using R
     rw[U]at I;injection I with I;subst I;exact⟨jG v (an U),zm _ _ _ _ _ _ v⟩⟩)
   refine eO hr (d _ _ _ _ _ _ _ J (ca.value o.dst W _ _ (.bx _ _ _ fun _=>⟨.inr rfl,w.heap.size,aH _ _ _,rfl⟩)))
  obtain⟨Z,hb⟩:=hn _ _ _ J;have ca:=D.new hC (o.dst.getD 0) _ (D.qm W) Z hb (w.alloc (.cells z.cells e)) rfl rfl rfl (by simp) (fun _=>False) (fun k hk _=>nM _ _ _ hk) (fun _ h=>h.elim) (.pointer (some ⟨w.heap.size,0,none⟩))
   (fun g N=>by simp[bY]at N;subst N;simp) (fun T=>⟨w.heap.size,z.cells,aH _ _ _,heap_alloc_new w _,by rw[Y];simp,fun j y u O R=>by
    rw[Y]at R;rw[aB]at O;obtain⟨v,U,rfl⟩:=aT.1 O;have I:ti.zero[j]?=some u:=by simpa using R
    rw[U]at I;injection I with I;subst I;exact⟨jG v (an U),zm _ _ _ _ _ _ v⟩⟩)
  refine eO hr (d _ _ _ _ _ _ _ J (ca.value o.dst W _ _ (.bx _ _ _ fun _=>⟨.inr rfl,w.heap.size,aH _ _ _,rfl⟩)))
 exact J.elim
end Go.AM
namespace Go.AM
open Go.RowKit
theorem mR{id:Nat}:∀{fz:List (Nat×AB)} {h:Nat->AB},tG id fz=true->app h fz id=h id:=by
 intro fz
 induction fz with
 | nil=>intro h _;rfl
 | cons x fz ih=>
  intro h d;unfold tG at d;split at d
  ·cases d
  rename_i u;show app (bq h x.1 x.2) fz id=h id;rw[ih d,a_ _ _ (fun e=>by rw[e]at u;simp at u)]
variable {α:Type}
theorem dp:∀(ys:List α) (cs:List α) (off:Nat),(setCells cs off ys).length=cs.length:=by
 intro ys
 induction ys with
 | nil=>intro cs off;rfl
 | cons y ys ih=>intro cs off;simp[setCells,ih]
theorem eX:∀(ys:List α) (cs:List α) (off j:Nat),off+ys.length<=cs.length->(setCells cs off ys)[j]?=if off<=j/\j<off+ys.length then ys[j-off]? else cs[j]?:=by
 intro ys
 induction ys with
 | nil=>intro cs off j _;simp only[setCells,CV];rw[aa (by omega)]
 | cons y ys ih=>
  intro cs off j u;simp only[cH]at u ⊢;simp only[setCells];rw[ih _ _ _ (by simp;omega)];by_cases z:j=off
  ·subst z;rw[aa (by omega),ae (by omega),rO,ga (by omega)];rfl
  by_cases d:off+1<=j/\j<off+1+ys.length
  ·rw[ae d,ae (by omega),show j-off=(j-(off+1))+1 by omega,yC]
  rw[aa d,aa (by omega),jL (by omega)]
theorem pz(cs ys:List α)(off j:Nat)(hl:off+ys.length<=cs.length):(cs.take off++ys++cs.drop (off+ys.length))[j]?=if off<=j/\j<off+ys.length then ys[j-off]? else cs[j]?:=by
 have d:(cs.take off).length=off:=by simp;omega
 by_cases u:j<off
 ·rw[aa (by omega),gT,dU (by omega),iv u]
 by_cases h2:j<off+ys.length
 ·rw[ae (by omega),gT,dV (by omega),d,dU (by omega)]
 rw[aa (by omega),gT,dV (by omega),d,dV (by omega),eE];congr 1;omega
theorem OF(cs:List α)(off j:Nat)(y:α)(d:off<cs.length):(cs.set off y)[j]?=if off<=j/\j<off+1 then [y][j-off]? else cs[j]?:=eX [y] cs off j d
theorem qL{P:Program}{w:World}{t:TypeId}{ti:TI}(h:oJ P t ti)(g off:Nat)(d:TypeId)(cur:Array Value)(v:Value)(z:w.heap[g]?=some (.cells cur d (0,0)))(hs:v.cells.size=ti.size)(hl:off+ti.size<=cur.size)(D:∀u∈v.cells.toList,u.oneCell'=true):
  (Instr.storeAt t (.pointer (some ⟨g,off,none⟩)) v).run P w=.ok () (w.setRow g (cur.toList.take off++v.cells.toList++cur.toList.drop (off+v.cells.toList.length)).toArray):=by
 have:=run_storeCells_at P g off d v.cells.toList 0 cur w z (by simp[hs];omega) D;simp only[nJ]at this;simp[Instr.storeAt,Instr.sureAddr,storeVar,h.sizeOf,hs];simpa [hs] using this
theorem pA{P:Program}{a:Act}{o:Oper}{w w':World}{t:TypeId}{x y:Operand}(d:o.op=.store t x y)(h:(Instr.storeAt t (a.eval x) (a.eval y)).run P w=.ok () w'):(execOp a.eval o).run P w=.ok .skip w':=by
 simp only[execOp,d,bJ,h,dm,fF]
variable {e:TypeId} {tj:TypeInfo}
theorem aC.stored{P:Program}{w:World}{R Y:α->Value->Prop}{es:List (List α)}{g n c:Nat}(h:aC P w R e es (.slice (some ⟨g,0,none⟩) n c))(B_:P.info? e=some tj){cur:Array Value}(hg:w.heap[g]?=some (.cells cur e (0,0)))
  {i off:Nat} {r:List α} (Z:es[i]?=some r) {ys:List α} {us:List Value} (hle:off+ys.length<=r.length) (hlen:us.length=ys.length) (jG:∀u∈us,u.oneCell'=true) (hR:∀x u,R x u->Y x u) (gg:∀(j:Nat) z u,ys[j]?=some z->us[j]?=some u->Y z u):
  aC P (w.setRow g (cur.toList.take (i*tj.size+off)++us++cur.toList.drop (i*tj.size+off+us.length)).toArray) Y e (es.set i (setCells r off ys)) (.slice (some ⟨g,0,none⟩) n c):=by
 obtain⟨ie,xs,W,k2,k3,k4,k5,k6⟩:=h;rw[B_]at W;injection W with W;subst W;rcases k3.2 with⟨d,_⟩ | ⟨g',cap,LR,d,_,N,k9,Vq,Q5,Tu⟩
 ·cases d
 injection d with d kn kc;injection d with d;injection d with d;subst d kn kc;rw[hg]at N;injection N with N;injection N with N;subst N;have hi:=aA Z;have xl:=k4 r (an Z);have Tv:i*tj.size+tj.size<=es.length*tj.size:=by rw[<-dh];exact a8 _ hi
 have Tw:es.length*tj.size<=cur.size:=by rw[Q5];exact a8 _ k9
 have SZ:xs.length=es.length*tj.size:=k3.1;have rQ:=fun j=>pz cur.toList us (i*tj.size+off) j (by simp;omega);have OG:=fun j=>eX us xs (i*tj.size+off) j (by omega);refine⟨tj,setCells xs (i*tj.size+off) us,B_,k2,⟨by rw[dp,SZ,dz],.inr ⟨g,c,_,by rw[dz],ai _,setRow_heap w g cur _ e (0,0) hg,by rw[dz];exact k9,Vq,?_,?_⟩⟩,?_,?_,?_⟩
 ·simp only[eF,bG,aV,dn,gd];rw[Q5]at *;omega
 ·apply jM;intro j;rw[cV];simp only[dz];split
  ·rename_i D;rw[rQ,OG];split
   ·rfl
   rw[<-Tu,iv D]
  rename_i D;rw[fI];rw[dp,SZ];omega
 ·intro q V2;rcases nN V2 with h | h
  ·exact k4 q h
  rw[h,dp];exact xl
 ·intro u O;obtain⟨j,D⟩:=cI.1 O;rw[OG]at D;split at D
  ·exact jG u (an D)
  exact k5 u (an D)
 intro U q j z I J;have Vr:q.length=tj.size:=by
  rcases nN (an I) with h | h
  ·exact k4 q h
  rw[h,dp];exact xl
 have uo:=aA J;rw[OG];by_cases LS:U=i
 ·subst LS;rw[ga hi]at I;injection I with I;subst I;rw[eX _ _ _ _ (by omega)]at J;split at J
  ·rename_i oL;rw[ae (by omega),show U*tj.size+j-(U*tj.size+off)=j-off by omega];have X5:=aA J;exact⟨us[j-off]'(by omega),aX _,gg _ z _ J (aX _)⟩
  rename_i oL;rw[aa (by omega)];obtain⟨u,O,oM⟩:=k6 _ _ _ _ Z J;exact⟨u,O,hR _ _ oM⟩
 rw[jL (fun e=>LS e.symm)]at I;have cU:¬(i*tj.size+off<=U*tj.size+j/\U*tj.size+j<i*tj.size+off+us.length):=by
  rintro⟨h1,h2⟩;rcases uu LS with h | h
  ·have:=a8 tj.size (jf h);rw[dh]at this;omega
  have:=a8 tj.size (jf h);rw[dh]at this;omega
 rw[aa cU];obtain⟨u,O,oM⟩:=k6 _ _ _ _ I J;exact⟨u,O,hR _ _ oM⟩
theorem aC.block{P:Program}{w:World}{R:α->Value->Prop}{es:List (List α)}{g n c:Nat}(h:aC P w R e es (.slice (some ⟨g,0,none⟩) n c))(z:P.info? e=some tj):∃cur:Array Value,w.heap[g]?=some (.cells cur e (0,0))/\es.length*tj.size<=cur.size/\(∀r∈es,r.length=tj.size)/\0<tj.size:=by
 obtain⟨ie,xs,u,D,I,J,k5,k6⟩:=h;rw[z]at u;injection u with u;subst u;rcases I.2 with⟨d,_⟩ | ⟨g',cap,N,d,_,O,U,Vq,W,Tu⟩
 ·cases d
 injection d with d kn kc;injection d with d;injection d with d;subst d;exact⟨N,O,by rw[W];exact a8 _ U,J,D⟩
theorem jy{g o n c:Nat}{p:Option Nat}{k:Nat}:bY (.slice (some ⟨g,o,p⟩) n c)=some k↔k=g:=by
 simp only[bY,Option.some.injEq];exact⟨fun h=>h.symm,fun h=>h.symm⟩
theorem v_.LU{P:Program}{w:World}{R:HX->Value->Prop}{es:List (List HX)}{v:Value}(hS:v_ w es v)(h:aC P w R e es v):
  aC P w (fun x u=>R x u/\∀e' D,x=.row e' D->∀g b,bY v=some g->bY u=some b->b≠g) e es v:=by
 obtain⟨i,xs,W,Y,I,J,Z,h6⟩:=h;refine⟨i,xs,W,Y,I,J,Z,fun a r j x z N=>?_⟩;obtain⟨u,d,hr⟩:=h6 a r j x z N;refine⟨u,d,hr,fun e' D hx g b O hb=>?_⟩;subst hx;have xl:=J r (an z);rcases I.2 with⟨hn,hz⟩ | ⟨g',cap,cur,U,_,EZ,k1,k2,k3,k4⟩
 ·have:=(aU.1 z).1;omega
 rw[U]at O;obtain rfl:=jy.1 O;refine hS.top g a j u b (by rw[U];rfl) ⟨r,e',D,_,_,_,z,N,EZ,?_⟩ hb;rw[xl];rw[<-k4,cV]at d;split at d
 ·simpa using d
 cases d
theorem cc.OH{A:qB}{V L S:Nat->Prop}{rho:Nat->Value}{s:AS}{a:Act}{w:World}(N:cc A V L S rho s a w)(hC:bR A.C){id:Nat}(hL:L id){es:List (List HX)}(ay:s.h id=.ay e es){g n c:Nat}(R:rho id=.slice (some ⟨g,0,none⟩) n c)(B_:A.C.P.info? e=some tj)
  {i off:Nat} {r:List HX} (U:es[i]?=some r) (Y:off+1<=r.length) {x:AV} {u:Value} (jG:u.oneCell'=true) (hx:br S w A.C.P L rho s.h x u):
  ∃cur:Array Value,w.heap[g]?=some (.cells cur e (0,0))/\i*tj.size+off+1<=cur.size/\cc A V L S rho ⟨s.t,bq s.h id (.ay e (es.set i (r.set off (.av x))))⟩ a (w.setRow g (cur.toList.take (i*tj.size+off)++[u]++cur.toList.drop (i*tj.size+off+1)).toArray):=by
 have hh:=N.hp id hL;rw[ay]at hh;obtain⟨Z,hS⟩:=hh;rw[R]at Z hS;obtain⟨cur,O,hsz,hlen,hpos⟩:=Z.block B_;have hi:=aA U;have xl:=hlen r (an U);have Tv:i*tj.size+tj.size<=es.length*tj.size:=by rw[<-dh];exact a8 _ hi
 have W:∀k j v,ew (w.setRow g (cur.toList.take (i*tj.size+off)++[u]++cur.toList.drop (i*tj.size+off+1)).toArray) (es.set i (r.set off (.av x))) g k j v->ew w es g k j v:=by
  rintro k j v ⟨q,e',tb,c',X6,m',D,d,I,J⟩;rw[setRow_heap w g cur _ e (0,0) O]at I;injection I with I;injection I with I h3' Y2;have uo:=aA d;have Vr:q.length=tj.size:=by
   rcases nN (an D) with h | h
   ·exact hlen q h
   rw[h,dz];exact xl
  have key:∀p,p≠i*tj.size+off->c'[p]?=some v->cur[p]?=some v:=fun p hp h=>by
   rw[<-I]at h;have h:(cur.toList.take (i*tj.size+off)++[u]++cur.toList.drop (i*tj.size+off+1))[p]?=some v:=by simpa using h
   have d:=pz cur.toList [u] (i*tj.size+off) p (by simp;omega);simp only[yD]at d;rw[d,aa (by omega)]at h;simpa using h
  by_cases V3:k=i
  ·subst V3;rw[ga hi]at D;injection D with D;subst D;have X5:j≠off:=fun e0=>by
    subst e0;rw[ga (by omega)]at d;injection d with d;cases d
   rw[jL (fun e=>X5 e.symm)]at d;refine⟨r,e',tb,cur,_,_,U,d,O,?_⟩;rw[Vr]at J;rw[xl];exact key _ (by omega) J
  rw[jL (fun e=>V3 e.symm)]at D;refine⟨q,e',tb,cur,_,_,D,d,O,?_⟩;refine key _ ?_ J;rw[Vr];intro he;rcases uu V3 with h | h
  ·have:=a8 tj.size (jf h);rw[dh]at this;omega
  have:=a8 tj.size (jf h);rw[dh]at this;omega
 refine⟨cur,O,by omega,?_⟩;refine N.Dc hC id hL (by rw[ay];trivial) _ (fun e' h=>by rw[ay];exact h) _ (setRow_os w g _) (setRow_tape w g _) (setRow_output w g _) (setRow_size w g _) (fun k hk=>setRow_other w g k _ fun e=>hk (by rw[R,e];rfl)) (fun T=>?_) (fun k hk=>?_)
 ·show aC _ _ _ _ _ (rho id)/\v_ _ _ (rho id);rw[R];refine⟨(hS.LU Z).stored B_ O (ys:=[.av x]) (us:=[u]) U Y rfl (by simpa using jG) (fun y v hy=>?_) (fun j z v hz hv=>?_),?_⟩
  ·cases y with
   | av y=>exact br.dH T hy.1
   | row e' tb=>exact aC.dH hy.1 (fun k hk=>setRow_other w g k _ (hy.2 _ _ rfl g k rfl hk)) (fun x u hu=>hu.mono T.hS T.keep)
  ·cases j with
   | zero=>simp at hz hv;subst hz hv;exact br.dH T hx
   | succ j=>simp at hz
  exact⟨fun g' k j v b D d I=>by
   obtain rfl:=jy.1 D;exact hS.top _ k j v b D (W k j v d) I,fun g' k j k' j' v v' b D d I J h5=>by
   obtain rfl:=jy.1 D;exact hS.dis _ k j k' j' v v' b D (W k j v d) (W k' j' v' I) J h5⟩
 rw[ay];rcases hk with hk | ⟨cs,g',h,_⟩ | ⟨e',dA,g',k',j,v,D,d,I,J⟩
 ·exact .inl hk
 ·cases h
 injection D with D uD;subst D uD;have xo:=d;rw[R]at xo;obtain rfl:=jy.1 xo;exact .inr (.inr ⟨_,_,_,_,_,_,rfl,d,W _ _ _ I,J⟩)
theorem LV{A:qB}{o:Oper}(t:TypeId)(x y:Operand)(aJ:o.op=.store t x y):jt A o:=by
 intro V L S rho s a w K next Q hC O hV hd D hn N
 simp only[bV,aJ]at D;have hx:=bB O x fun j J=>hV j (by simp[aJ,Op.operands,J]);have hy:=bB O y fun j J=>hV j (by simp[aJ,Op.operands,J]);split at D
 ·exact D.elim
 rename_i ti hT;have gk:=hC.tab t ti hT;split at D
 ·rename_i id off Q6;rw[Q6]at hx;split at D
  ·rename_i cs a7;obtain⟨hL,g,hg,hv⟩:=hx.iO (by rw[a7];trivial);have main:∀(Z:Nat->Prop) (s2:AS) (nz:List AV) (ws:List AV),cc A V L Z rho s2 a w->s2.h id=.box cs->(a.eval y).cells.size=ti.size->ws.length=ti.size->off+ti.size<=cs.length->(∀u∈(a.eval y).cells.toList,u.oneCell'=true)->
     (∀(j:Nat) z u,ws[j]?=some z->(a.eval y).cells[j]?=some u->br Z w A.C.P L rho s2.h z u)->nz.length=cs.length->(∀j,nz[j]?=if off<=j/\j<off+ws.length then ws[j-off]? else cs[j]?)->
     ∃w',(execOp a.eval o).run A.C.P w=.ok .skip w'/\cc A V L Z rho ⟨s2.t,bq s2.h id (.box nz)⟩ a w':=by
    intro Z s2 nz ws bD xp hsz V4 hle jG gg hlen Dd;have hh:=bD.hp id hL;rw[xp]at hh;obtain⟨g',ty,c,Y,k2,k3,k4⟩:=hh;rw[hg]at Y;injection Y with Y;injection Y with Y;injection Y with Y;subst Y;have I:=qL (w:=w) gk g off ty c (a.eval y) k2 hsz (by omega) jG;refine⟨_,pA aJ (by rw[hv];exact I),?_⟩;refine bD.write hC id hL (by rw[xp];trivial) (.box nz) (fun _ h=>by cases h) _ (by simp) (by simp) (by simp) (by simp) (fun k hk=>setRow_other w g k _ fun e=>hk (by rw[hg,e];rfl)) fun T=>?_;have d:(a.eval y).cells.toList.length=ti.size:=by simpa using hsz
    refine⟨g,ty,_,hg,setRow_heap w g c _ ty (0,0) k2,by simp[d];omega,fun j z u J R=>?_⟩;have tK:(c.toList.take off++(a.eval y).cells.toList++c.toList.drop (off+(a.eval y).cells.toList.length))[j]?=some u:=by simpa using R
    rw[pz _ _ _ _ (by rw[d];simpa [k3] using hle)]at tK;rw[Dd j]at J;rw[d]at tK;rw[V4]at J;split at J
    ·rename_i oL;rw[ae oL]at tK;have V5:(a.eval y).cells[j-off]?=some u:=by simpa using tK
     exact⟨jG u (an tK),(gg _ z u J V5).dH T⟩
    rename_i oL;rw[aa oL]at tK;have V5:c[j]?=some u:=by simpa using tK
    obtain⟨h5,h6⟩:=k4 _ _ _ J V5;exact⟨h5,h6.dH T⟩
   split at D
   ·rename_i xm;obtain⟨yv,fz,Z,D,bD,hrep,yJ,hF,Fb⟩:=iR hC O (qD.refl s.h) hy D;split at D
    ·rename_i ys;split at D
     ·rename_i ly;simp only[aK]at ly;obtain⟨⟨W,U⟩,e3⟩:=ly;have W:=iN W;have U:=lQ U;obtain⟨vs,LX,h1,h2,h3⟩:=hrep.tI;have d:(a.eval y).cells=vs:=by rw[LX];rfl
      obtain⟨w',I,gp⟩:=main Z _ (setCells cs off (ys.map SS)) (ys.map SS) bD (by simp only;rw[mR e3];exact a7) (by rw[d];omega) (by simpa using W) U (by rw[d];exact h2)
       (fun j z u J R=>by
        rw[d]at R;rw[aB]at J;obtain⟨z',hz,rfl⟩:=aT.1 J;exact C6 (h3 j z' u hz R)) (dp _ _ _) (fun j=>eX _ _ _ _ (by simpa [W] using U))
      refine qJ I (N _ _ _ Z rho _ _ D ?_);have:=gp.value o.dst hd .junk undef (.junk _);simp only[cM,app];exact this
     exact D.elim
    exact D.elim
   rename_i xm;split at D
   ·rename_i ly;simp only[aK]at ly;obtain⟨⟨W,U⟩,e3⟩:=ly;have W:=lQ W;have U:=iN U;have h1:=rS O e3 hy;have d:=cells_one h1;obtain⟨w',I,gp⟩:=main S s (cs.set off (ev s.t y)) [ev s.t y] O a7 (by rw[d,U];rfl) (by rw[U];rfl) (by omega) (by rw[d];simpa using h1)
     (fun j z u J R=>by
      rw[d]at R;cases j with
      | zero=>simp at J R;subst J R;exact hy
      | succ j=>simp at J) (by simp) (fun j=>OF _ _ _ _ (by omega))
    refine qJ I (N _ _ _ S rho _ _ D ?_);exact gp.value o.dst hd .junk undef (.junk _)
   exact D.elim
  exact D.elim
 ·rename_i id i off Q6;rw[Q6]at hx;split at D
  ·rename_i e es ay;obtain⟨hL,g,n,c,tj,hg,B_,hv⟩:=hx.zp ay;obtain⟨r,hr,D⟩:=D;obtain⟨yv,fz,Z,D,bD,hrep,yJ,hF,Fb⟩:=iR hC O (qD.refl s.h) hy D;split at D
   ·rename_i ys Q7;split at D
    ·rename_i ly;simp only[aK]at ly;obtain⟨⟨W,U⟩,e3⟩:=ly;have W:=iN W;have U:=lQ U;obtain⟨V6,jG,gg⟩:=xn Q7 hrep;have xp:(app s.h fz) id=.row e es:=by rw[mR e3];exact ay
     have hh:=bD.hp id hL;have hh:fU Z w A.C.P L rho (app s.h fz) id ((app s.h fz) id):=hh;rw[xp]at hh;obtain⟨ie,xs,Y,k2,k3,k4,k5,k6⟩:=hh;rw[B_]at Y;injection Y with Y;subst Y;rw[hg]at k3;rcases k3.2 with⟨k7,_⟩ | ⟨g',cap,cur,k7,_,k8,k9,Vq,Q5,Tu⟩
     ·cases k7
     injection k7 with k7 kn kc;injection k7 with k7;injection k7 with k7;subst k7 kn kc;have hi:=aA hr;have xl:=k4 r (an hr);have Tv:i*tj.size+tj.size<=es.length*tj.size:=by rw[<-dh];exact a8 _ hi
     have Tw:es.length*tj.size<=cur.size:=by rw[Q5];exact a8 _ k9
     have d:(a.eval y).cells.toList.length=ti.size:=by simp;omega
     have I:=qL (w:=w) gk g (i*tj.size+off) e cur (a.eval y) k8 (by omega) (by omega) jG;refine qJ (pA aJ (by rw[hv];exact I)) (N _ _ _ Z rho _ _ D ?_);have gp:cc A V L Z rho ⟨s.t,bq (app s.h fz) id (.row e (es.set i (setCells r off ys)))⟩ a (w.setRow g (cur.toList.take (i*tj.size+off)++(a.eval y).cells.toList++cur.toList.drop (i*tj.size+off+(a.eval y).cells.toList.length)).toArray):=by
      refine bD.write hC id hL (by show (app s.h fz id).live;rw[xp];trivial) (.row e (es.set i (setCells r off ys))) (fun e' h=>by show (app s.h fz id).pq=_;rw[xp];exact h) _ (setRow_os w g _) (setRow_tape w g _) (setRow_output w g _) (setRow_size w g _)
       (fun k hk=>setRow_other w g k _ fun e=>hk (by rw[hg,e];rfl)) (fun T=>?_)
      show aC _ _ _ _ _ (rho id);rw[hg];have SZ:xs.length=es.length*tj.size:=k3.1;have Fc:∀(j:Nat) u,xs[j]?=some u->cur.toList[j]?=some u:=fun j u J=>by
       rw[<-Tu]at J;rw[cV]at J;split at J
       ·exact J
       cases J
      have rQ:=fun j=>pz cur.toList (a.eval y).cells.toList (i*tj.size+off) j (by rw[d];simp;omega);have OG:=fun j=>eX (a.eval y).cells.toList xs (i*tj.size+off) j (by rw[d,SZ];omega);refine⟨tj,setCells xs (i*tj.size+off) (a.eval y).cells.toList,B_,k2,⟨by rw[dp,SZ,dz],.inr ⟨g,c,_,by rw[dz],ai _,setRow_heap w g cur _ e (0,0) k8,by rw[dz];exact k9,Vq,?_,?_⟩⟩,?_,?_,?_⟩
      ·simp only[eF,bG,aV,dn,gd];rw[Q5]at *;simp at d;omega
      ·apply jM;intro j;rw[cV];simp only[dz];split
       ·rename_i J;rw[rQ,OG];split
        ·rfl
        rw[<-Tu,iv J]
       rename_i J;rw[fI];rw[dp,SZ];omega
      ·intro q V2;rcases nN V2 with h | h
       ·exact k4 q h
       rw[h,dp];exact xl
      ·intro u R;obtain⟨j,J⟩:=cI.1 R;rw[OG]at J;split at J
       ·exact jG u (an J)
       exact k5 u (an J)
      intro a' q j z wh hz;have Vr:q.length=tj.size:=by
       rcases nN (an wh) with h | h
       ·exact k4 q h
       rw[h,dp];exact xl
      have uo:=aA hz;rw[OG];by_cases LS:a'=i
      ·subst LS;rw[ga hi]at wh;injection wh with wh;subst wh;rw[eX _ _ _ _ (by omega)]at hz;split at hz
       ·rename_i oL;rw[ae (by omega),show a'*tj.size+j-(a'*tj.size+off)=j-off by omega];obtain⟨u,R⟩:=ky V6.symm (aA hz);exact⟨u,by simpa using R,(gg _ z u hz R).mono T.hS T.keep⟩
       rename_i oL;rw[aa (by omega)];obtain⟨u,R,oM⟩:=k6 _ _ _ _ hr hz;exact⟨u,R,oM.mono T.hS T.keep⟩
      rw[jL (fun e=>LS e.symm)]at wh;have cU:¬(i*tj.size+off<=a'*tj.size+j/\a'*tj.size+j<i*tj.size+off+(a.eval y).cells.toList.length):=by
       rintro⟨h1,h2⟩;rcases uu LS with h | h
       ·have:=a8 tj.size (jf h);rw[dh]at this;omega
       have:=a8 tj.size (jf h);rw[dh]at this;omega
      rw[aa cU];obtain⟨u,R,oM⟩:=k6 _ _ _ _ wh hz;exact⟨u,R,oM.mono T.hS T.keep⟩
     have:=gp.value o.dst hd .junk undef (.junk _);simp only[cM,app];exact this
    exact D.elim
   exact D.elim
  ·rename_i e es ay;obtain⟨hL,g,n,c,tj,hg,B_,hv⟩:=hx.uE ay;obtain⟨r,hr,D⟩:=D;split at D
   ·exact D.elim
   split at D
   ·rename_i ly;simp only[aK]at ly;obtain⟨⟨W,U⟩,e3⟩:=ly;have W:=lQ W;have U:=iN U;have h1:=rS O e3 hy;have d:=cells_one h1;obtain⟨cur,Fc,hsz,gp⟩:=O.OH hC hL ay hg B_ hr W h1 hy;have I:=qL (w:=w) gk g (i*tj.size+off) e cur (a.eval y) Fc (by rw[d,U];rfl) (by omega) (by rw[d];simpa using h1);rw[d]at I;refine qJ (pA aJ (by rw[hv];exact I)) (N _ _ _ S rho _ _ D ?_);exact gp.value o.dst hd .junk undef (.junk _)
   exact D.elim
  exact D.elim
 exact D.elim
end Go.AM
namespace Go.AM
open Go.RowKit
variable {A:qB}
theorem Q8{o:Oper}(c:Call)(Z:o.op=.call c)(hc:c.callee=.builtin .len):jt A o:=by
 intro V L S rho s a w K next Q hC z hV hd d _ u
 obtain⟨callee,args,argTypes⟩:=c;simp only at hc;subst hc;simp only[bV,Z,fq,gf]at d;split at d
 ·rename_i x t J LY;have D:=bB z x fun j hj=>hV j (by simp[Z,Op.operands,Call.operands,hj];rw[<-hj];exact cJ.1 (by rw[J];simp));have e1:args=#[x]:=by rw[<-gw (xs:=args),J]
  have e2:argTypes=#[t]:=by rw[<-gw (xs:=argTypes),LY]
  subst e1 e2;split at d
  ·rename_i size bytes zero eq hT;have O:=(hC.tab t _ hT).under;simp only at O;split at d
   ·rename_i st Bk;rw[Bk]at D;exact aM z hd u d (.p _ _ (.im _)) (by simp[execOp,Z,resolve,invoke,builtin,D.bT,Builtin.len_,run_underlying O,goInt])
   exact d.elim
  ·rename_i e size bytes zero eq hT;have O:=(hC.tab t _ hT).under;simp only at O;have fin:∀(es:List (List PV)) R c,K (.p (.im (.int .i64 es.length))) [] none->a.eval x=.slice R es.length c->o.wp A.C.P a w next Q:=fun es R c d he=>
    aM z hd u d (.p _ _ (.im _)) (by simp[execOp,Z,resolve,invoke,builtin,he,Builtin.len_,run_underlying O,goInt])
   split at d
   ·rename_i m I;unfold hlen at I;split at I
    ·rename_i id W;rw[W]at D;split at I
     ·rename_i e' es ay;injection I with I;subst I;obtain⟨hL,U⟩:=D.cW (by rw[ay];trivial);have N:=z.hp id hL;rw[ay]at N;obtain⟨⟨i,xs,_,_,h3,_⟩,_⟩:=N;obtain⟨R,c,V7⟩:∃R c,rho id=.slice R es.length c:=by
       rcases h3.2 with⟨Y,h5⟩ | ⟨g,cap,cur,Y,_⟩
       ·exact⟨none,0,by rw[Y,h5]⟩
       exact⟨_,cap,Y⟩
      exact aM z hd u d (.p _ _ (.im _)) (by simp[execOp,Z,resolve,invoke,builtin,U,V7,Builtin.len_,run_underlying O,goInt])
     cases I
    ·rename_i id lo hi W;rw[W]at D;split at I
     ·rename_i e' es ay;injection I with I;subst I;obtain⟨_,n,cp,R,V1,_,_,_,_,_,hval⟩:=D.Da ay;exact aM z hd u d (.p _ _ (.im _)) (by simp[execOp,Z,resolve,invoke,builtin,hval,Builtin.len_,run_underlying O,goInt])
     cases I
    cases I
   unfold hY at d;split at d
   ·rename_i es W;rw[W]at D;obtain⟨R,c,U,_⟩:=D.fK.py;exact fin es R c d U
   ·rename_i W;rw[W]at D;have:a.eval x=.slice none 0 0:=by cases h:a.eval x<;>rw[h]at D<;>cases D;rfl
    exact fin [] none 0 d this
   ·rename_i id W;rw[W]at D;split at d
    ·rename_i e' es ay;obtain⟨hL,U⟩:=D.cW (by rw[ay];trivial);have N:=z.hp id hL;rw[ay]at N;obtain⟨i,xs,_,_,h3,_⟩:=N;rcases h3.2 with⟨Y,h5⟩ | ⟨g,cap,cur,Y,_⟩
     ·exact fin es none 0 d (by rw[U,Y,h5])
     exact fin es _ cap d (by rw[U,Y])
    ·rename_i es ay;obtain⟨hL,U⟩:=D.cW (by rw[ay];trivial);have N:=z.hp id hL;rw[ay]at N;obtain⟨R,c,Y,_⟩:=aQ.py N;exact fin es R c d (by rw[U,Y])
    exact d.elim
   exact d.elim
  ·rename_i kt et size bytes zero eq hT;have O:=(hC.tab t _ hT).under;simp only at O;split at d
   case h_2=>exact d.elim
   rename_i id hid;split at d
   case h_2=>exact d.elim
   rename_i mk es I;rw[hid]at D;obtain⟨hL,U⟩:=D.cW (by rw[I];trivial);have N:=z.hp id hL;rw[I]at N;obtain⟨g,ms,clock,h1,h2,h3,_⟩:=N;exact aM z hd u d (.p _ _ (.im _)) (by simp[execOp,Z,resolve,invoke,builtin,U,h1,Builtin.len_,run_underlying O,uv h2,h3,goInt])
  exact d.elim
 exact d.elim
theorem Q9{o:Oper}(c:Call)(J:o.op=.call c)(N:c.callee=.builtin .min):jt A o:=by
 intro V L S rho s a w K next Q hC u O W D _ z
 obtain⟨callee,args,argTypes⟩:=c;simp only at N;subst N;simp only[bV,J,fq,gf]at D;split at D
 ·rename_i x y d;have R:=bB u x fun j I=>O j (by simp[J,Op.operands,Call.operands,I];rw[<-I];exact cJ.1 (by rw[d];simp));have U:=bB u y fun j I=>O j (by simp[J,Op.operands,Call.operands,I];rw[<-I];exact cJ.1 (by rw[d];simp));have Y:args=#[x,y]:=by rw[<-gw (xs:=args),d]
  subst Y;split at D
  ·rename_i k m k' n Z h2;rw[Z]at R;rw[h2]at U;exact aM u W z D (.p _ _ (.im _)) (by
    simp[execOp,J,resolve,invoke,builtin,R.bT,U.bT,Builtin.min_,Builtin.min2];rw[Int.min_def];split<;>split<;>omega)
  exact D.elim
 exact D.elim
theorem Fe{P:Program}{w:World}(k u:IntKind)(m n:Int):(Builtin.max2 (.int k m) (.int u n)).run P w=.ok (.int k (max m n)) w:=by
 simp only[Builtin.max2,fF];rw[Int.max_def];by_cases h:n>m
 ·rw[ae h,ae (by omega)]
 rw[aa h];by_cases d:m<=n
 ·rw[ae d,show m=n by omega]
 rw[aa d]
theorem Q_{o:Oper}(c:Call)(N:o.op=.call c)(hc:c.callee=.builtin .max):jt A o:=by
 intro V L S rho s a w K next Q hC I R hd O _ J
 obtain⟨callee,args,argTypes⟩:=c;simp only at hc;subst hc;simp only[bV,N,fq,gf]at O;split at O
 ·rename_i x y d;have U:=bB I x fun j D=>R j (by simp[N,Op.operands,Call.operands,D];rw[<-D];exact cJ.1 (by rw[d];simp));have W:=bB I y fun j D=>R j (by simp[N,Op.operands,Call.operands,D];rw[<-D];exact cJ.1 (by rw[d];simp));have Y:args=#[x,y]:=by rw[<-gw (xs:=args),d]
  subst Y;split at O
  ·rename_i k m k' n h1 h2;rw[h1]at U;rw[h2]at W;exact aM I hd J O (.p _ _ (.im _)) (by
    simp[execOp,N,resolve,invoke,builtin,U.bT,W.bT,Builtin.max_,Builtin.max2];rw[Int.max_def];split<;>split<;>omega)
  exact O.elim
 ·rename_i x y z d;have U:=bB I x fun j D=>R j (by simp[N,Op.operands,Call.operands,D];rw[<-D];exact cJ.1 (by rw[d];simp));have W:=bB I y fun j D=>R j (by simp[N,Op.operands,Call.operands,D];rw[<-D];exact cJ.1 (by rw[d];simp));have Z:=bB I z fun j D=>R j (by simp[N,Op.operands,Call.operands,D];rw[<-D];exact cJ.1 (by rw[d];simp));have Y:args=#[x,y,z]:=by rw[<-gw (xs:=args),d]
  subst Y;split at O
  ·rename_i k0 m0 k1 m1 k2 m2 g0 g1 g2;rw[g0]at U;rw[g1]at W;rw[g2]at Z;exact aM I hd J O (.p _ _ (.im _)) (by
    simp[execOp,N,resolve,invoke,builtin,U.bT,W.bT,Z.bT,Builtin.max_,Fe])
  exact O.elim
 ·rename_i x y z u v d;have U:=bB I x fun j D=>R j (by simp[N,Op.operands,Call.operands,D];rw[<-D];exact cJ.1 (by rw[d];simp));have W:=bB I y fun j D=>R j (by simp[N,Op.operands,Call.operands,D];rw[<-D];exact cJ.1 (by rw[d];simp));have Z:=bB I z fun j D=>R j (by simp[N,Op.operands,Call.operands,D];rw[<-D];exact cJ.1 (by rw[d];simp));have hu:=bB I u fun j D=>R j (by simp[N,Op.operands,Call.operands,D];rw[<-D];exact cJ.1 (by rw[d];simp));have hv:=bB I v fun j D=>R j (by simp[N,Op.operands,Call.operands,D];rw[<-D];exact cJ.1 (by rw[d];simp));have Y:args=#[x,y,z,u,v]:=by rw[<-gw (xs:=args),d]
  subst Y;split at O
  ·rename_i k0 m0 k1 m1 k2 m2 k3 m3 k4 m4 g0 g1 g2 g3 g4;rw[g0]at U;rw[g1]at W;rw[g2]at Z;rw[g3]at hu;rw[g4]at hv;exact aM I hd J O (.p _ _ (.im _)) (by
    simp[execOp,N,resolve,invoke,builtin,U.bT,W.bT,Z.bT,hu.bT,hv.bT,Builtin.max_,Fe])
  exact O.elim
 exact O.elim
variable {V L:Nat->Prop} {rho:Nat->Value} {s:AS}
theorem Cd{o:Oper}{S:Nat->Prop}{a:Act}{w:World}{K:KK}{next:Act->World->Prop}{Q:Exit->Act->World->Prop}{fz:List (Nat×AB)}(z:cc A V L S rho ⟨s.t,app s.h fz⟩ a w)(I:∀d,o.dst=some d->d<A.n)
  (u:∀v eff new S' rho' D w',K v eff new->cc A (zl V o.dst) (C8 L new (o.dst.getD 0)) S' rho' ⟨f_ s.t o.dst v,app s.h eff⟩ D w'->next D w') {x:AV} {v:Value} (J:K x fz none) (N:br S w A.C.P L rho (app s.h fz) x v)
  (O:(execOp a.eval o).run A.C.P w=.ok (.value v) w):o.wp A.C.P a w next Q:=
 eO O (u _ _ _ _ _ _ _ J (z.value o.dst I x v N))
variable {es:List (List PV)}
theorem aQ.OI{S:Nat->Prop}{w:World}{z:Option Addr}{c l h sz:Nat}(hx:aQ S w (.sl es) (.slice z es.length c))(hl:l<=h)(O:h<=es.length)(hc:es.length<=c)
  (hk:∀b off k,z=some ⟨b,off,none⟩->(∀e∈es,e.length=k)->l<h->k=sz):aQ S w (.sl ((es.take h).drop l)) (.slice (if c=l then z else z.map (·.add (l*sz))) (h-l) (c-l)):=by
 have hlen:((es.take h).drop l).length=h-l:=by simp;omega
 by_cases D:h-l=0
 ·have:(es.take h).drop l=[]:=cP (by omega);rw[this,D];exact .nil _ _
 obtain⟨ad',c',hv,hle,cU⟩:=hx.py;injection hv with e1 e2 e3;subst e1 e3;obtain⟨b,off,k,R,hb,U,d⟩:=cU (by intro e;rw[e]at O;simp at O;omega);have W:=hk b off k R U (by omega);subst R;rw[aa (by omega)];show aQ S w _ (.slice (some (Addr.add ⟨b,off,none⟩ (l*sz))) (h-l) (c-l));rw[jd,<-hlen];have Y:∀(i:Nat) e,((es.take h).drop l)[i]?=some e->es[l+i]?=some e:=by
  intro i e hi;rw[eE,cV]at hi;split at hi
  ·exact hi
  cases hi
 refine .sl _ k b (off+l*sz) _ (fun i j=>(w.cell? ⟨b,off+l*sz+i*k+j,none⟩).getD undef) (by rw[hlen];omega) hb (fun e D=>U e (jK (mc D))) (fun i e j x I J=>?_) fun i e j x I J=>?_
 ·obtain⟨u,N,Z,h5⟩:=d _ e j x (Y i e I) J;have:off+l*sz+i*k+j=off+(l+i)*k+j:=by rw[<-W,nK];omega
  rw[this,N];exact⟨rfl,Z⟩
 obtain⟨u,N,Z,h5⟩:=d _ e j x (Y i e I) J;have:off+l*sz+i*k+j=off+(l+i)*k+j:=by rw[<-W,nK];omega
 rw[this,N];exact h5
theorem gU{P:Program}{w:World}(k:IntKind)(i:Int)(y:Nat)(d:BoundsCode)(h:0<=i/\i<=y):(Instr.sliceBound (.int k i) y d).run P w=.ok i.toNat w:=by
 simp[Instr.sliceBound,asIntOf,h.1,h.2]
theorem zq{S:Nat->Prop}{a:Act}{w:World}(_:cc A V L S rho s a w)(lo hi:Option Operand)(W:∀y,lo=some y->br S w A.C.P L rho s.h (ev s.t y) (a.eval y))(Y:∀y,hi=some y->br S w A.C.P L rho s.h (ev s.t y) (a.eval y)):
  ∀(d:Bool) (len cap:Nat) (k:IntKind) (m:Int) (z:IntKind) (n:Int),len<=cap->(match lo with | some y=>ev s.t y | none=>.p (.im (.int .i64 0)))=.p (.im (.int k m))->(match hi with | some y=>ev s.t y | none=>.p (.im (.int .i64 len)))=.p (.im (.int z n))->0<=m->m<=n->n<=len ->
   (Instr.sliceBounds d len cap (lo.map a.eval) (hi.map a.eval) none).run A.C.P w=.ok (m.toNat,n.toNat,cap) w:=by
  intro d len cap k m z n hlc D N U h4 h5;have J:∀y,hi=some y->a.eval y=.int z n:=fun y I=>by
   have:=Y y I;subst I;rw[show ev s.t y=_ from N]at this;exact this.bT
  have u:∀y,lo=some y->a.eval y=.int k m:=fun y I=>by
   have:=W y I;subst I;rw[show ev s.t y=_ from D]at this;exact this.bT
  have nb:((n.toNat:Nat):Int)=n:=by omega
  cases hi with
  | some Z=>
   have J:=J Z rfl;cases lo with
   | some O=>
    have u:=u O rfl;cases d<;>simp[Instr.sliceBounds,u,J,gU z n cap _ ⟨by omega,by omega⟩,gU k m n.toNat _ ⟨U,by omega⟩]
   | none=>
    have R:m=0:=by simp at D;exact D.2.symm
    subst R;cases d<;>simp[Instr.sliceBounds,J,gU z n cap _ ⟨by omega,by omega⟩]
  | none=>
   have xo:n=len:=by simp at N;exact N.2.symm
   subst xo;cases lo with
   | some O=>
    have u:=u O rfl;cases d<;>simp[Instr.sliceBounds,u,gU k m len _ ⟨U,by omega⟩]
   | none=>
    have R:m=0:=by simp at D;exact D.2.symm
    subst R;cases d<;>simp[Instr.sliceBounds]
theorem J6{o:Oper}(t:TypeId)(x:Operand)(lo hi:Option Operand)(O:o.op=.slice t x lo hi none){S:Nat->Prop}{a:Act}{w:World}{K:KK}{next:Act->World->Prop}{Q:Exit->Act->World->Prop}(hC:bR A.C)(D:cc A V L S rho s a w)
  (Z:∀j,(.tmp j)∈o.op.operands->V j) (hd:∀d,o.dst=some d->d<A.n) (u:gP A.C (ev s.t) s.h t x lo hi K)
  (I:∀v eff new S' rho' a' w',K v eff new->cc A (zl V o.dst) (C8 L new (o.dst.getD 0)) S' rho' ⟨f_ s.t o.dst v,app s.h eff⟩ a' w'->next a' w'):o.wp A.C.P a w next Q:=by
 simp only[gP]at u;have hx:=bB D x fun j R=>Z j (by simp[O,Op.operands,R]);have Tx:∀y,lo=some y->br S w A.C.P L rho s.h (ev s.t y) (a.eval y):=fun y hy=>bB D y fun j R=>Z j (by simp[O,Op.operands,R,hy]);have Ty:∀y,hi=some y->br S w A.C.P L rho s.h (ev s.t y) (a.eval y):=fun y hy=>bB D y fun j R=>Z j (by simp[O,Op.operands,R,hy]);have z:∀(J:Bool) (len cap:Nat) (k:IntKind) (m:Int) (U:IntKind) (n:Int),len<=cap->(match lo with | some y=>ev s.t y | none=>.p (.im (.int .i64 0)))=.p (.im (.int k m))->(match hi with | some y=>ev s.t y | none=>.p (.im (.int .i64 len)))=.p (.im (.int U n))->0<=m->m<=n->n<=len ->
   (Instr.sliceBounds J len cap (lo.map a.eval) (hi.map a.eval) none).run A.C.P w=.ok (m.toNat,n.toNat,cap) w:=by
  exact zq D lo hi Tx Ty
 split at u
 ·rename_i size bytes zero eq hT;have W:=(hC.tab t _ hT).under;simp only at W;split at u
  ·rename_i st Bk;rw[Bk]at hx;split at u
   ·rename_i k m U n h1 h2;obtain⟨⟨h3,h4,h5⟩,u⟩:=u;have hb:=z false st.size st.size k m U n (aF _) h1 h2 h3 h4 h5;exact aM D hd I u (.p _ _ (.im _)) (by simp[execOp,O,Instr.sliceAt,Instr.slice,hx.bT,run_underlying W,hb])
   exact u.elim
  exact u.elim
 ·rename_i e size bytes zero eq hT;have W:=(hC.tab t _ hT).under;simp only at W;split at u
  ·exact u.elim
  rename_i te wg;obtain⟨ie,ze,ql,Bu,_⟩:=(hC.tab e te wg).info;obtain⟨y,fz,S2,u,bD,N,yJ,hF,Fb⟩:=iR hC D (qD.refl s.h) hx u;split at u
  ·rename_i es;split at u
   ·rename_i k m U n h1 h2;obtain⟨⟨h3,h4,h5,h6⟩,u⟩:=u;obtain⟨ad,c,hv,Y,_⟩:=N.py;have hb:=z true es.length c k m U n Y h1 h2 h3 h4 h5;rw[hv]at N;refine Cd bD hd I u (.p _ _ (N.OI (sz:=te.size) (l:=m.toNat) (h:=n.toNat) (by omega) (by omega) Y fun b off kk Vs qI gY=>?_)) ?_
    ·have hpos:0<es.length:=by omega
     have hm:es[0]∈es:=uw _;rw[<-qI _ hm,h6 _ hm]
    simp[execOp,O,Instr.sliceAt,Instr.slice,hv,run_underlying W,hb,Go.sizeOf,typeInfo,ql,Bu]
   exact u.elim
  exact u.elim
 exact u.elim
structure Flat(S:Nat->Prop)(w:World)(k:Nat)(es:List (List PV))(xs:List Value):Prop where
 len:xs.length=es.length*k
 row:∀r∈es,r.length=k
 one:∀u∈xs,u.oneCell'=true
 rep:∀(i:Nat) r (j:Nat) x,es[i]?=some r->r[j]?=some x->∃u,xs[i*k+j]?=some u/\aQ S w x u
variable {k:Nat}
theorem Flat.mono{S S':Nat->Prop}{w w':World}{xs:List Value}(h:Flat S w k es xs)(hS:∀b,S b->S' b)(d:∀b,S b->w'.heap[b]?=w.heap[b]?):Flat S' w' k es xs:=
 ⟨h.len,h.row,h.one,fun i r j x z D=>by obtain⟨u,I,J⟩:=h.rep i r j x z D;exact⟨u,I,J.mono hS d⟩⟩
theorem Flat.app{S:Nat->Prop}{w:World}{fs:List (List PV)}{xs ys:List Value}(h:Flat S w k es xs)(g:Flat S w k fs ys):Flat S w k (es++fs) (xs++ys):=by
 refine⟨by rw[bG,bG,h.len,g.len,nK],fun r J=>(cm.1 J).elim (h.row r) (g.row r),fun u N=>(cm.1 N).elim (h.one u) (g.one u),fun i r j x z I=>?_⟩;by_cases hi:i<es.length
 ·rw[dU hi]at z;obtain⟨u,d,D⟩:=h.rep i r j x z I;exact⟨u,by rw[dU (aA d)];exact d,D⟩
 rw[dV (by omega)]at z;obtain⟨u,d,D⟩:=g.rep _ r j x z I;refine⟨u,?_,D⟩;have hm:es.length*k<=i*k:=a8 _ (by omega);rw[dV (by rw[h.len];omega),h.len];rw[pj]at d;rw[<-d];congr 1;omega
theorem Flat.set{S:Nat->Prop}{w:World}{xs:List Value}(h:Flat S w k es xs)(i:Nat)(hi:i<es.length)(ys:List PV)(vs:List Value)(O:ys.length=k)(R:vs.length=k)(U:∀u∈vs,u.oneCell'=true)(D:∀(j:Nat) y u,ys[j]?=some y->vs[j]?=some u->aQ S w y u):
  Flat S w k (es.set i ys) (setCells xs (i*k) vs):=by
 have hb:i*k+k<=xs.length:=by rw[h.len,<-dh];exact a8 _ hi
 have N:=fun j=>eX vs xs (i*k) j (by rw[R];exact hb);refine⟨by rw[dp,dz,h.len],fun r D=>?_,fun u W=>?_,fun a r j x z d=>?_⟩
 ·rcases nN D with h' | h'
  ·exact h.row r h'
  rw[h'];exact O
 ·obtain⟨j,d⟩:=cI.1 W;rw[N]at d;split at d
  ·exact U u (an d)
  exact h.one u (an d)
 have uo:=aA d;rw[N];by_cases I:a=i
 ·subst I;rw[ga hi]at z;injection z with z;subst z;rw[ae (by omega),show a*k+j-a*k=j by omega];have:j<vs.length:=by omega
  exact⟨_,aX this,D j x _ d (aX this)⟩
 rw[jL (fun e=>I e.symm)]at z;have xl:=h.row r (an z);rw[aa]
 ·exact h.rep a r j x z d
 rintro⟨h2,h3⟩;rcases uu I with J | J
 ·have:=a8 k (jf J);rw[dh]at this;omega
 have:=a8 k (jf J);rw[dh]at this;omega
theorem Flat.zero(D:Bool)(S:Nat->Prop)(w:World){P:Program}{t:TypeId}{ti:TI}(h:oJ P t ti)(hk:0<ti.size)(n:Nat):Flat S w ti.size (List.replicate n (ti.zero.map (SR D))) ((Array.range (n*ti.size)).map (ti.zero.toArray[· % ti.zero.toArray.size]!)).toList:=by
 have z:=h.LJ;obtain⟨_,_,_,_,_,_,_,O⟩:=h.info;have N:∀j,j<n*ti.size->((Array.range (n*ti.size)).map (ti.zero.toArray[· % ti.zero.toArray.size]!)).toList[j]?=ti.zero[j % ti.size]?:=by
  intro j d;have R:j % ti.size<ti.zero.length:=by rw[z];exact pk _ hk
  simp[d,z];rw[aX R];rfl
 refine⟨by simp,fun r I=>by rw[IG I,aw,z],fun u U=>?_,fun i r j x hi d=>?_⟩
 ·obtain⟨j,d⟩:=cI.1 U;have J:=aA d;rw[N j (by simpa using J)]at d;exact O u (an d)
 have W:i<n:=by have:=aA hi;simpa using this
 have I:r=ti.zero.map (SR D):=IG (an hi);subst I;have J:j<ti.size:=by have:=aA d;rw[aw,z]at this;exact this
 rw[aB]at d;obtain⟨v,Y,rfl⟩:=aT.1 d;have hb:i*ti.size+j<n*ti.size:=by
  have:=a8 ti.size (jf W);rw[dh]at this;omega
 refine⟨v,?_,IQ D S w v⟩;rw[N _ hb,Nat.mul_comm,Nat.mul_add_mod,Nat.mod_eq_of_lt J];exact Y
variable {e:TypeId}
theorem aC.of_flat{P:Program}{S:Nat->Prop}{w:World}{i:TypeInfo}{v:Value}{xs:List Value}(hi:P.info? e=some i)(hk:0<i.size)(u:w.ownsRow 0 e i.size v es.length xs)(d:Flat S w i.size es xs):aC P w (aQ S w) e es v:=
 ⟨i,xs,hi,hk,u,d.row,d.one,d.rep⟩
theorem aC.flat{P:Program}{S:Nat->Prop}{w:World}{i:TypeInfo}{v:Value}(hi:P.info? e=some i)(h:aC P w (aQ S w) e es v):∃xs,0<i.size/\w.ownsRow 0 e i.size v es.length xs/\Flat S w i.size es xs:=by
 obtain⟨i',xs,d,z,u,D,I,J⟩:=h;rw[hi]at d;injection d with d;subst d;exact⟨xs,z,u,⟨u.1,D,I,J⟩⟩
theorem aQ.flat{S:Nat->Prop}{w:World}{v:Value}(hx:aQ S w (.sl es) v)(hk:∀r∈es,r.length=k):∃R c xs,v=.slice R es.length c/\Flat S w k es xs/\(es≠[]->∃b off,R=some ⟨b,off,none⟩/\∀(j:Nat) u,xs[j]?=some u->w.cell? ⟨b,off+j,none⟩=some u):=by
 obtain⟨R,c,Y,hle,cU⟩:=hx.py;by_cases U:es=[]
 ·subst U;exact⟨R,c,[],Y,⟨by simp,by simp,by simp,by simp⟩,fun h=>absurd rfl h⟩
 obtain⟨b,off,d,rfl,hb,uG,z⟩:=cU U;have Ra:d=k:=by
  obtain⟨r,W⟩:=IH _ U;rw[<-uG r W,hk r W]
 subst Ra;have key:∀q,q<es.length*d->∃u,w.cell? ⟨b,off+q,none⟩=some u/\u.oneCell'=true:=by
  intro q J;have Z:0<d:=CW fun h=>by rw[h]at J;simp at J
  have hi:q / d < es.length:=(Nat.div_lt_iff_lt_mul Z).2 J;have N:q % d < d:=pk _ Z;have W:=hk _ (uw hi);obtain⟨u,D,I,_⟩:=z (q / d) _ (q % d) _ (aX hi) (aX (by omega));refine⟨u,?_,I⟩;rw[<-D];congr 2;have:=Nat.div_add_mod q d;rw[Nat.mul_comm]at this;omega
 refine⟨_,c,(List.range (es.length*d)).map fun q=>(w.cell? ⟨b,off+q,none⟩).getD undef,Y,⟨by simp,hk,fun u hu=>?_,fun i r j x D I=>?_⟩,fun _=>⟨b,off,rfl,fun j u N=>?_⟩⟩
 ·simp at hu;obtain⟨q,J,rfl⟩:=hu;obtain⟨u,D,I⟩:=key q J;rw[D];exact I
 ·obtain⟨u,h3,h4,h5⟩:=z i r j x D I;refine⟨u,?_,h5⟩;have LZ:=aA D;have O:=aA I;rw[hk r (an D)]at O;have xp:i*d+j<es.length*d:=by
   have:=a8 d (jf LZ);rw[dh]at this;omega
  rw[aB,iu xp];simp only[fG];rw[<-kP,h3];rfl
 have O:=aA N;simp at O;rw[aB,iu O]at N;obtain⟨u',D,_⟩:=key j O;simp[D]at N;rw[D,N]
def Src(S:Nat->Prop)(w:World)(es:List (List PV))(v:Value):Prop:=
 ∀k,(∀r∈es,r.length=k)->∃ad c xs,v=.slice ad es.length c/\Flat S w k es xs/\(es≠[]->∃b off,ad=some ⟨b,off,none⟩/\∀(j:Nat) u,xs[j]?=some u->w.cell? ⟨b,off+j,none⟩=some u)
theorem aC.src{P:Program}{S:Nat->Prop}{w:World}{v:Value}(h:aC P w (aQ S w) e es v):Src S w es v:=by
 intro k hk;obtain⟨i,xs,h1,h2,d,D,N,O⟩:=h;by_cases z:es=[]
 ·subst z;rcases d.2 with⟨rfl,_⟩ | ⟨g,cap,cur,rfl,_⟩
  ·exact⟨none,0,[],rfl,⟨by simp,by simp,by simp,by simp⟩,fun h=>absurd rfl h⟩
  exact⟨_,cap,[],rfl,⟨by simp,by simp,by simp,by simp⟩,fun h=>absurd rfl h⟩
 have R:k=i.size:=by
  obtain⟨r,I⟩:=IH _ z;rw[<-hk r I,D r I]
 subst R;rcases d.2 with⟨_,U⟩ | ⟨g,cap,cur,J,_⟩
 ·exact absurd (cP U) z
 refine⟨_,cap,xs,J,⟨d.1,D,N,O⟩,fun _=>⟨g,0,rfl,fun j u W=>?_⟩⟩;have:=d.cells (g:=g) (by rw[J];rfl) j u W;rw[jd]at this;exact this
theorem G7{S:Nat->Prop}{a:Act}{w:World}(u:cc A V L S rho s a w){x:AV}{v:Value}(D:br S w A.C.P L rho s.h x v){K:List (List PV)->Prop}(d:hY s.h x K):∃es,K es/\Src S w es v:=by
 unfold hY at d;split at d
 ·exact⟨_,d,fun k hk=>D.fK.flat hk⟩
 ·have:v=.slice none 0 0:=by cases D;rfl
  exact⟨[],d,fun k hk=>⟨none,0,[],this,⟨by simp,by simp,by simp,by simp⟩,fun h=>absurd rfl h⟩⟩
 ·rename_i id;split at d
  ·rename_i e es ay;obtain⟨I,J⟩:=D.cW (by rw[ay];trivial);have z:=u.hp id I;rw[ay]at z;exact⟨es,d,by rw[J];exact aC.src z⟩
  ·rename_i es ay;obtain⟨I,J⟩:=D.cW (by rw[ay];trivial);have z:=u.hp id I;rw[ay]at z;exact⟨es,d,by rw[J];exact fun k hk=>aQ.flat z hk⟩
  exact d.elim
 exact d.elim
theorem tc{P:Program}(w:World)(t R e:TypeId)(i:TypeInfo)(z:Value)(J:P.underlying t=some (.slice e))(hi:P.info? e=some i)(Z:i.zero=some z)(L0:z.cells.size=i.size)(hsz:0<i.size)
  (v:Value) (n:Nat) (xs:List Value) (hown:w.ownsRow 0 e i.size v n xs) (U:Option Addr) (m c:Nat) (d:List Value) (N:d.length=m*i.size)
  (I:m≠0->∃b off,U=some ⟨b,off,none⟩/\∀(j:Nat) u,d[j]?=some u->w.cell? ⟨b,off+j,none⟩=some u) (h1:∀u∈d,u.oneCell'=true) (Vt:n+m<=maxLen) (G8:(n+m)*i.bytes<=140737488355328):
  ∃O w',(Builtin.append_ #[t,t] R #[v,.slice U m c]).run P w=.ok O w'/\w'.ownsRow 0 e i.size O (n+m) (xs++d)/\w.grownBy w' v.ownBlock/\(O.ownBlock=v.ownBlock\/O.ownBlock=some w.heap.size):=by
 by_cases hm:m=0
 ·subst hm;have hn:d=[]:=cP (by simpa using N);subst hn;refine⟨v,w,?_,by simpa using hown,⟨rfl,rfl,rfl,aF _,fun _ _ _=>rfl⟩,.inl rfl⟩;have hf:(Builtin.firstCells i.size 0 (.slice U 0 c)).run P w=.ok #[] w:=by cases U<;>simp[Builtin.firstCells,loadCells,loadCellsFrom]
  rcases hown.2 with⟨rfl,rfl⟩ | ⟨g,cap,cur,rfl,_,_,SY,_⟩
  ·simp[Builtin.append_,run_underlying J,sizeOf,typeInfo,hi,Builtin.lenOf,hf]
  simp[Builtin.append_,run_underlying J,sizeOf,typeInfo,hi,Builtin.lenOf,SY,hf,storeCells]
 obtain⟨b,off,rfl,hc⟩:=I hm;have W:∀(j:Nat) u,d[j]?=some u->w.cell? ((⟨b,off,none⟩:Addr).add j)=some u:=fun j u hj=>by rw[jd];exact hc j u hj
 obtain⟨O,w',Y,h2,h3,_⟩:=run_append_own (P:=P) w 0 t R e i z i.size i.bytes J hi Z rfl rfl L0 hsz v n xs hown ⟨b,off,none⟩ m c d N W h1 Vt G8 (ai _);refine⟨O,w',Y,h2,h3,?_⟩;have V8:n+m<=9223372036854775807:=by simp only[maxLen]at Vt;omega
 rcases hown.2 with⟨rfl,rfl⟩ | ⟨g,cap,cur,rfl,_,hg,SY,hcm,nR,X8⟩
 ·have D:=run_append_nil (P:=P) w t R e i z J hi Z ⟨b,off,none⟩ m c d N W (by omega) (by omega) (by have hb:=G8;simp only[aY]at hb;omega);rw[Y]at D;injection D with D;rw[D];exact .inr rfl
 by_cases kr:n+m<=cap
 ·have Rb:n*i.size+d.length<=cur.size:=by rw[N,nR,<-nK];exact a8 _ kr
  have D:=run_append_room (P:=P) w t R e i J hi g n cap cur hg ⟨b,off,none⟩ m c d N W h1 kr Rb;rw[Y]at D;injection D with D;rw[D];exact .inl rfl
 have D:=run_append_grow (P:=P) w t R e i z J hi Z ⟨g,0,none⟩ n cap xs hown.1 (hown.cells (g:=g) rfl) ⟨b,off,none⟩ m c d N W (by omega) (by omega) (growslice_fits (by omega) G8);rw[Y]at D;injection D with D;rw[D];exact .inr rfl
theorem fM{v:Value}{a:Option Addr}{n c:Nat}(h:v=.slice a n c):v.ownBlock=bY v:=by
 subst h;cases a<;>rfl
theorem er{w:World}{base:Nat}{size:Nat}{v:Value}{n:Nat}{xs:List Value}(h:w.ownsRow base e size v n xs):∃a c,v=.slice a n c:=by
 rcases h.2 with⟨rfl,rfl⟩ | ⟨g,cap,cur,rfl,_⟩
 ·exact⟨none,0,rfl⟩
 exact⟨_,cap,rfl⟩
theorem rT{w:World}{es:List (List HX)}{v:Value}{U:List Value}(hown:w.ownsRow 0 e k v es.length U)(hk:∀r∈es,r.length=k){g:Nat}(J:bY v=some g){a j:Nat}{u:Value}:
  ew w es g a j u↔∃r e' I,es[a]?=some r/\r[j]?=some (.row e' I)/\U[a*k+j]?=some u:=by
 rcases hown.2 with⟨hn,_⟩ | ⟨g',cap,cur,hv,_,W,k1,k2,k3,Y⟩
 ·rw[hn]at J;cases J
 rw[hv]at J;obtain rfl:=jy.1 J;have Z:∀{r:List HX} {x:HX},es[a]?=some r->r[j]?=some x->r.length=k/\a*k+j<es.length*k:=fun {r x} z D=>by
  have hr:=hk r (an z);have d:=aA z;have N:=aA D;have:=a8 k (jf d);rw[dh]at this;exact⟨hr,by omega⟩
 constructor
 ·rintro⟨r,e',I,c,ty,m,z,D,d,N⟩;rw[W]at d;injection d with d;injection d with d;subst d;obtain⟨O,R⟩:=Z z D;refine⟨r,e',I,z,D,?_⟩;rw[<-Y,iv R];rw[O]at N;simpa using N
 rintro⟨r,e',I,z,D,d⟩;obtain⟨O,R⟩:=Z z D;refine⟨r,e',I,cur,_,_,z,D,W,?_⟩;rw[<-Y,iv R]at d;rw[O];simpa using d
theorem cc.V9{S:Nat->Prop}{a:Act}{w:World}(J:cc A V L S rho s a w)(hC:bR A.C){id d:Nat}(mS:L id){xs:List (List HX)}(ay:s.h id=.ay e xs){ys:List (List PV)}{Y:TypeInfo}(ql:A.C.P.info? e=some Y)
  (hdb:d<100000) (hL:¬L d) (hb:s.h d=.ay e (xs++ys.map qA)) {N:List Value} (L3:Flat S w Y.size ys N) {v':Value} {w':World} {ws:List Value} (hown:w.ownsRow 0 e Y.size (rho id) xs.length ws) (h2:w'.ownsRow 0 e Y.size v' (xs.length+ys.length) (ws++N)) (h3:w.grownBy w' (bY (rho id))) (h4:bY v'=bY (rho id)\/bY v'=some w.heap.size):
  cc A V (fun i=>L i\/i=d) S (bq rho d v') ⟨s.t,bq s.h id .none⟩ a w':=by
 have b_:(s.h id).live:=by rw[ay];trivial
 have Rc:id≠d:=fun e=>hL (e▸mS);have hh:=J.hp id mS;rw[ay]at hh;obtain⟨hR,hS⟩:=hh;have V_:=hS.LU hR;obtain⟨i0,Tz,k1,k2,k3,k4,k5,k6⟩:=V_;rw[ql]at k1;injection k1 with k1;subst k1;have V4:Tz=ws:=by
  rcases k3.2 with⟨D,U⟩ | ⟨g,cap,cur,D,_,W,q4,q5,q6,q7⟩
  ·have a1:Tz=[]:=cP (by rw[k3.1,U];simp);have a2:ws=[]:=cP (by rw[hown.1,U];simp);rw[a1,a2]
  rcases hown.2 with⟨r1,_⟩ | ⟨g',TA,LR,r1,_,r3,r4,r5,r6,r7⟩
  ·rw[r1]at D;cases D
  rw[r1]at D;injection D with D;injection D with D;injection D with D;subst D;rw[W]at r3;injection r3 with r3;injection r3 with r3;subst r3;rw[<-q7,<-r7]
 subst V4;have Re:∀r∈ys.map qA,r.length=Y.size:=fun r hr=>by
  obtain⟨q,hq,rfl⟩:=bF.1 hr;rw[qA,aw];exact L3.row q hq
 have IX:∀r∈xs++ys.map qA,r.length=Y.size:=fun r hr=>(cm.1 hr).elim (k4 r) (Re r);have P6:w'.ownsRow 0 e Y.size v' (xs++ys.map qA).length (Tz++N):=by rw[bG,aw];exact h2
 have TB:Tz.length=xs.length*Y.size:=k3.1;have gH:∀g' k j u,bY v'=some g'->ew w' (xs++ys.map qA) g' k j u->∃g,bY (rho id)=some g/\ew w xs g k j u:=fun g' k j u lN hc=>by
  obtain⟨r,e',tb,D,U,W⟩:=(rT P6 IX lN).1 hc;by_cases hk:k<xs.length
  ·rw[dU hk]at D;have uo:=aA U;have xl:=k4 r (an D);have:=a8 Y.size (jf hk);rw[dh]at this;rw[dU (by omega)]at W;obtain⟨g,u2,O,Z,_⟩:=hR.E6 D U;refine⟨g,O,(rT k3 k4 O).2 ⟨r,e',tb,D,U,W⟩⟩
  rw[dV (by omega),aB]at D;obtain⟨q,_,rfl⟩:=aT.1 D;rw[qA,aB]at U;obtain⟨z,_,hz⟩:=aT.1 U;cases hz
 have Rf:∀g k j u b,bY (rho id)=some g->ew w xs g k j u->bY u=some b->hasB w (s.h id) (rho id) b:=fun g k j u b h1 h5 h6=>by rw[ay];exact .inr (.inr ⟨_,_,_,_,_,_,rfl,h1,h5,h6⟩)
 have T0:mQ S S w w L L rho rho s.h (bq s.h id .none):=⟨fun _ h=>h,fun _ _=>rfl,fun j R=>⟨by
   rcases ba s.h id .none j with⟨rfl,h⟩ | ⟨_,h⟩
   ·rw[h]at R;exact R.elim
   ·rw[h]at R;exact R,fun h=>⟨h,rfl⟩⟩,fun j e' R=>by
   rcases ba s.h id .none j with⟨rfl,h⟩ | ⟨_,h⟩
   ·rw[h]at R;cases R
   rw[h]at R;exact R⟩
 have P7:∀k,k<w.heap.size->bY (rho id)≠some k->w'.heap[k]?=w.heap[k]?:=fun k hk hn=>h3.block k hk fun e=>hn e.symm;refine (J.kill id).qK hC d (.ay e (xs++ys.map qA)) hdb hL (by show bq s.h id .none d=_;rw[a_ _ _ Rc.symm];exact hb) w' h3.os h3.tape h3.output h3.size (fun k=>hasB w (s.h id) (rho id) k) (fun k hk hn=>P7 k hk fun h=>hn (.inl h)) (fun k hk=>?_) v' (fun g I=>?_) (fun T=>?_)
 ·obtain⟨D,U,W⟩:=J.lv id k mS b_ hk;refine⟨U,fun i hi li fZ=>?_,W⟩;have oH:(bq s.h id .none i).live:=li;rcases ba s.h id .none i with⟨rfl,h⟩ | ⟨cU,h⟩
  ·rw[h]at oH;exact oH.elim
  rw[h]at oH;exact cU (J.dj i id k hi mS oH b_ (fL cU fZ) hk)
 ·rcases I with I | ⟨cs,g',h,_⟩ | ⟨e',dA,g',k',j,u,D,U,W,q4⟩
  ·obtain⟨a1,c1,GV⟩:=er h2;refine⟨(h2.lt g (by rw[fM GV];exact I)).2,?_⟩;rcases h4 with h | h
   ·exact .inr (.inl (h▸I))
   rw[h]at I;injection I with I;exact .inl (by omega)
  ·cases h
  injection D with D Y3;subst D Y3;obtain⟨g0,O,Z⟩:=gH _ _ _ _ U W;have xq:=Rf _ _ _ _ _ O Z q4;exact⟨cG (J.lv id g mS b_ xq).1 h3.size,.inr xq⟩
 show aC _ _ _ _ _ (bq rho d v' d)/\v_ _ _ (bq rho d v' d);rw[aH];refine⟨⟨Y,Tz++N,ql,k2,P6,IX,fun u hu=>(cm.1 hu).elim (k5 u) (L3.one u),fun p r j x hp R=>?_⟩,fun g k j u b I hc gZ=>?_,fun g k j k' j' u u' b I hc S0 OJ xp=>?_⟩
 ·by_cases hk:p<xs.length
  ·rw[dU hk]at hp;obtain⟨u,hu,Bt,Wa⟩:=k6 p r j x hp R;refine⟨u,by rw[dU (aA hu)];exact hu,?_⟩;cases x with
   | av x=>exact br.dH T (br.dH T0 Bt)
   | row e' tb=>
    refine aC.dH (show aC _ _ _ _ _ _ from Bt) (fun b gZ=>P7 b ?_ fun h=>Wa _ _ rfl b b h gZ rfl) (fun x u hu=>hu.mono T.hS T.keep);obtain⟨g,u2,O,Z,_⟩:=hR.E6 hp R;have:u2=u:=by
     obtain⟨r',_,_,D,U,W⟩:=(rT k3 k4 O).1 Z;rw[hu]at W;injection W with W;exact W.symm
    subst this;exact (J.lv id b mS b_ (Rf _ _ _ _ _ O Z gZ)).1
  rw[dV (by omega),aB]at hp;obtain⟨q,hq,rfl⟩:=aT.1 hp;rw[qA,aB]at R;obtain⟨z,hz,rfl⟩:=aT.1 R;obtain⟨u,hu,Bt⟩:=L3.rep _ _ _ _ hq hz;refine⟨u,?_,C6 (Bt.mono T.hS T.keep)⟩;have hm:xs.length*Y.size<=p*Y.size:=a8 _ (by omega);rw[dV (by rw[TB];omega),TB];rw[pj]at hu;rw[<-hu];congr 1;omega
 ·obtain⟨g0,O,Z⟩:=gH _ _ _ _ I hc;rcases h4 with h | h
  ·rw[h,O]at I;injection I with I;subst I;exact hS.top _ _ _ _ _ O Z gZ
  rw[h]at I;injection I with I;have:=(J.lv id b mS b_ (Rf _ _ _ _ _ O Z gZ)).1;omega
 obtain⟨g0,O,Z⟩:=gH _ _ _ _ I hc;obtain⟨g0',Vu,Y4⟩:=gH _ _ _ _ I S0;rw[O]at Vu;injection Vu with Vu;subst Vu;exact hS.dis _ _ _ _ _ _ _ _ O Z Y4 OJ xp
theorem J7{o:Oper}(c:Call)(aJ:o.op=.call c)(hc:c.callee=.builtin .append):jt A o:=by
 intro V L S rho s a w K next Q hC u hV hd d hn D
 obtain⟨callee,args,argTypes⟩:=c;simp only at hc;subst hc;simp only[bV,aJ,fq,gf]at d;split at d
 ·rename_i x y t t' I LY;have hx:=bB u x fun j hj=>hV j (by simp[aJ,Op.operands,Call.operands,hj];rw[<-hj];exact cJ.1 (by rw[I];simp));have hy:=bB u y fun j hj=>hV j (by simp[aJ,Op.operands,Call.operands,hj];rw[<-hj];exact cJ.1 (by rw[I];simp));have e1:args=#[x,y]:=by rw[<-gw (xs:=args),I]
  have e2:argTypes=#[t,t']:=by rw[<-gw (xs:=argTypes),LY]
  subst e1 e2;split at d
  ·rename_i e size bytes zero eq Wb hT;have Wb:=iN Wb;subst Wb;have gk:=(hC.tab t _ hT).under;simp only at gk;split at d
   ·rename_i te wg;obtain⟨ie,ze,ql,Bu,Oi,OL,OM,jG⟩:=(hC.tab e te wg).info;have P8:=(hC.tab e te wg).LJ;split at d
    ·rename_i z;have z:0<ie.size:=by rw[Bu];exact je z
     obtain⟨ys,d,Z⟩:=G7 u hy d;have main:∀(xs:List (List PV)) (v:Value) (ws:List Value) (s2:AS),a.eval x=v->w.ownsRow 0 e ie.size v xs.length ws->Flat S w ie.size xs ws->(∀r∈ys,r.length=te.size)->(xs.length+ys.length)*te.bytes<=140737488355328->xs.length+ys.length<=140737488355328 ->
       cc A V L S rho s2 a w->(∀g,bY v=some g->¬S g/\(∀i,L i->(s2.h i).live->¬hasB w (s2.h i) (rho i) g)/\(A.mv g\/A.w0.heap.size<=g))->¬L (o.dst.getD 0)->s2.h (o.dst.getD 0)=.row e (xs++ys)->
       ∃U w' rho',(execOp a.eval o).run A.C.P w=.ok (.value U) w'/\cc A V (fun i=>L i\/i=o.dst.getD 0) S rho' s2 a w'/\U=rho' (o.dst.getD 0):=by
      intro xs v ws s2 hv hown xr hlen OJ xp bD hR hL hb;obtain⟨ad,c',N,Wc,L3,J⟩:=Z ie.size (fun r O=>by rw[hlen r O,Bu]);obtain⟨U,w',O,Y,R,h4⟩:=tc (P:=A.C.P) w t o.type e ie ze gk ql OL (by rw[OM];simp[P8,Bu]) z v xs.length ws hown ad ys.length c' N L3.len
       (fun h0=>J (fun e=>h0 (by rw[e];rfl))) L3.one (by simp only[maxLen];omega) (by rw[Oi];exact OJ)
      obtain⟨a0,c0,TC⟩:=er hown;obtain⟨a1,c1,GV⟩:=er Y;rw[fM TC]at R h4;rw[fM GV]at h4;refine⟨U,w',bq rho (o.dst.getD 0) U,by simp[execOp,aJ,resolve,invoke,builtin,hv,Wc,O],?_,(aH _ _ _).symm⟩;refine bD.new hC (o.dst.getD 0) _ (bD.qm hd) hL hb w' R.os R.tape R.output R.size (fun k=>bY v=some k) (fun k hk TD=>R.block k hk (fun e=>TD e.symm)) (fun k hk=>hR k hk) U (fun g W=>?_) (fun T=>?_)
      ·refine⟨(Y.lt g (by rw[fM GV];exact W)).2,?_⟩;rcases h4 with h | h
       ·exact .inr (h▸W)
       rw[h]at W;injection W with W;exact .inl (by omega)
      show aC A.C.P w' (aQ S w') e (xs++ys) (bq rho (o.dst.getD 0) U (o.dst.getD 0));rw[aH];exact aC.of_flat ql z (by rw[bG];exact Y) ((xr.app L3).mono T.hS T.keep)
     split at d
     ·rename_i Q6;rw[Q6]at hx;have hv:a.eval x=.slice none 0 0:=by cases h:a.eval x<;>rw[h]at hx<;>cases hx;rfl
      obtain⟨⟨h1,Y,R⟩,d⟩:=d;obtain⟨hL,hb⟩:=hn _ _ _ d;obtain⟨U,w',rho',O,bD,C7⟩:=main [] _ [] s hv ⟨by simp,.inl ⟨rfl,rfl⟩⟩ ⟨by simp,by simp,by simp,by simp⟩ h1 (by simpa using Y) (by simpa using R) u (fun g W=>by simp[bY]at W) hL (by simpa using hb);exact eO O (D _ _ _ S rho' _ _ d (bD.value o.dst hd _ _ (.ow _ _ fun _=>⟨.inr rfl,C7⟩)))
     ·rename_i id Q6;rw[Q6]at hx;split at d
      ·rename_i e' xs ay;split at d
       ·rename_i yf;have yf:=iN yf;subst yf;obtain⟨⟨h1,Y,R⟩,d⟩:=d;obtain⟨hL,hb⟩:=hn _ _ _ d;obtain⟨mS,hv⟩:=hx.cW (by rw[ay];trivial);have hh:=u.hp id mS;rw[ay]at hh;obtain⟨ws,_,hown,xr⟩:=aC.flat ql hh;have Rc:id≠o.dst.getD 0:=fun e=>hL (e▸mS);have b_:(s.h id).live:=by rw[ay];trivial
        obtain⟨U,w',rho',O,bD,C7⟩:=main xs _ ws ⟨s.t,bq s.h id .none⟩ hv hown xr h1 Y R (u.kill id) (fun g W=>by
          obtain⟨k1,k2,k3⟩:=u.qk id g mS b_ W;refine⟨k2,fun i hi li fZ=>?_,k3⟩;have oH:(bq s.h id .none i).live:=li;rcases ba s.h id .none i with⟨rfl,h⟩ | ⟨cU,h⟩
          ·rw[h]at oH;exact oH.elim
          rw[h]at oH;exact cU (u.dj i id g hi mS oH b_ (fL cU fZ) (.inl W))) hL (by show bq s.h id .none (o.dst.getD 0)=_;rw[a_ _ _ Rc.symm];exact hb)
        exact eO O (D _ _ _ S rho' _ _ d (bD.value o.dst hd _ _ (.ow _ _ fun _=>⟨.inr rfl,C7⟩)))
       exact d.elim
      ·rename_i e' xs ay;split at d
       ·rename_i yf;have yf:=iN yf;subst yf;obtain⟨⟨h1,Y,R⟩,d⟩:=d;obtain⟨hL,hb⟩:=hn _ _ _ d;obtain⟨mS,hv⟩:=hx.cW (by rw[ay];trivial);have hh:=u.hp id mS;rw[ay]at hh;obtain⟨⟨i0,ws,Ce,_,hown,_⟩,_⟩:=hh;rw[ql]at Ce;injection Ce with Ce;subst Ce;obtain⟨ad,c',N,Wc,L3,J⟩:=Z ie.size (fun r O=>by rw[h1 r O,Bu]);obtain⟨U,w',O,q2,q3,q4⟩:=tc (P:=A.C.P) w t o.type e' ie ze gk ql OL (by rw[OM];simp[P8,Bu]) z (rho id) xs.length ws hown ad ys.length c' N L3.len
         (fun h0=>J (fun e=>h0 (by rw[e];rfl))) L3.one (by simp only[maxLen];omega) (by rw[Oi];exact Y)
        obtain⟨a0,c0,TC⟩:=er hown;obtain⟨a1,c1,GV⟩:=er q2;rw[fM TC]at q3 q4;rw[fM GV]at q4;have bD:=u.V9 hC mS ay ql (u.qm hd) hL hb L3 hown q2 q3 q4;exact eO (by simp[execOp,aJ,resolve,invoke,builtin,hv,Wc,O]) (D _ _ _ S _ _ _ d (bD.value o.dst hd _ _ (.ow _ _ fun _=>⟨.inr rfl,(aH _ _ _).symm⟩)))
       exact d.elim
      exact d.elim
     exact d.elim
    exact d.elim
   exact d.elim
  exact d.elim
 exact d.elim
theorem Df{o:Oper}(t:TypeId)(x y:Operand)(O:o.op=.makeSlice t x y):jt A o:=by
 intro V L S rho s a w K next Q hC D hV hd d hn J
 simp only[bV,O]at d;have hx:=bB D x fun j I=>hV j (by simp[O,Op.operands,I]);have hy:=bB D y fun j I=>hV j (by simp[O,Op.operands,I]);split at d
 ·rename_i e size bytes zero eq k n k' c hT h1 h2;have gk:=(hC.tab t _ hT).under;simp only at gk;rw[h1]at hx;rw[h2]at hy;split at d
  ·rename_i u Y;obtain⟨N,R,ql,U,Oi,OL,OM,jG⟩:=(hC.tab e u Y).info;have P8:=(hC.tab e u Y).LJ;split at d
   ·rename_i z;have z:0<u.size:=je z;obtain⟨⟨h0,SY,hb,Vt⟩,d⟩:=d;obtain⟨hL,Z⟩:=hn _ _ _ d;have hr:=run_make (P:=A.C.P) w t e N R gk ql OL k k' n c h0 SY (by rw[Oi,Int.mul_comm];omega) Vt;have xr:=Flat.zero (A.C.bn t) S (w.alloc (.cells (madeCells R.cells (c.toNat*N.size)) e)) (hC.tab e u Y) z n.toNat;have key:∀(W:World) es xs,Flat S W u.size es xs->Flat S W N.size es xs:=fun W es xs h=>by rw[U];exact h
    have hle:n.toNat*u.size<=c.toNat*u.size:=a8 _ (by omega);have TF:((Array.range (n.toNat*u.size)).map (u.zero.toArray[· % u.zero.toArray.size]!)).toList=(madeCells R.cells (c.toNat*N.size)).toList.take (n.toNat*u.size):=by
     apply jM;intro j;rw[cV];split
     ·rename_i I;simp[madeCells,OM,U,I,cG I hle]
     rename_i I;rw[fI (by simpa using I)]
    have bD:=D.new hC (o.dst.getD 0) _ (D.qm hd) hL Z (w.alloc (.cells (madeCells R.cells (c.toNat*N.size)) e)) rfl rfl rfl (by simp) (fun _=>False) (fun k hk _=>nM _ _ _ hk) (fun _ h=>h.elim) (.slice (some ⟨w.heap.size,0,none⟩) n.toNat c.toNat)
     (fun g hg=>by simp[bY]at hg;subst hg;simp) (fun T=>by
      show aC A.C.P _ _ e _ (bq rho (o.dst.getD 0) _ (o.dst.getD 0));rw[aH];refine aC.of_flat ql (by omega) ?_ (key _ _ _ xr);rw[TF,<-U];refine⟨by rw[aV,yE,gd,size_madeCells,U];omega,.inr ⟨w.heap.size,c.toNat,_,by simp,ai _,heap_alloc_new w _,by simp;omega,by simp only[maxLen];omega,size_madeCells _ _,by simp⟩⟩)
    exact eO (by simp only[execOp,O,hx.bT,hy.bT,bJ,hr,dm,fF]) (J _ _ _ S _ _ _ d (bD.value o.dst hd _ _ (.ow _ _ fun _=>⟨.inr rfl,(aH _ _ _).symm⟩)))
   exact d.elim
  exact d.elim
 exact d.elim
end Go.AM
namespace Go.AM
open Go.RowKit
theorem L4(off:Nat):∀(vs:List Value) (k:Nat) (cs:Array Value),(vs.zipIdx k).foldl (fun (cs:Array Value) (x:Value×Nat)=>cs.setIfInBounds (off+x.2) x.1) cs=(setCells cs.toList (off+k) vs).toArray:=by
 intro vs
 induction vs with
 | nil=>intro k cs;simp[setCells]
 | cons v vs ih=>
  intro k cs;simp only[List.zipIdx_cons,jg];rw[ih];simp[setCells,kP]
theorem wi(d:Nat->Option (Nat×Nat))(cells:Array Value)(i:Nat)(v:Value)(rest:List (Nat×Value))(off size:Nat)(hp:d i=some (off,size))(hs:v.cells.size=size)(hl:off+size<=cells.size):
  Instr.fill d cells ((i,v)::rest)=Instr.fill d (setCells cells.toList off v.cells.toList).toArray rest:=by
 rw[Instr.fill,hp];simp only;rw[aa (by simp[hs];omega)];congr 1;have:=L4 off v.cells.toList 0 cells;rw[nJ]at this;rw[<-this,<-Array.foldl_toList,Array.toList_zipIdx]
structure kS(S:Nat->Prop)(w:World)(cs:List PV)(vs:List Value):Prop where
 len:vs.length=cs.length
 one:∀u∈vs,u.oneCell'=true
 rep:∀(j:Nat) x u,cs[j]?=some x->vs[j]?=some u->aQ S w x u
theorem kS.mono{S S':Nat->Prop}{w:World}{cs:List PV}{vs:List Value}(h:kS S w cs vs)(hS:∀b,S b->S' b):kS S' w cs vs:=
 ⟨h.len,h.one,fun j x u d z=>(h.rep j x u d z).mono hS (fun _ _=>rfl)⟩
theorem kS.set{S:Nat->Prop}{w:World}{cs ys:List PV}{vs us:List Value}(h:kS S w cs vs)(g:kS S w ys us)(off:Nat)(I:off+ys.length<=cs.length):kS S w (setCells cs off ys) (setCells vs off us):=by
 have N:=fun j=>eX ys cs off j I;have J:=fun j=>eX us vs off j (by rw[g.len,h.len];exact I);refine⟨by rw[dp,dp,h.len],fun u z=>?_,fun j x u d z=>?_⟩
 ·obtain⟨j,d⟩:=cI.1 z;rw[J]at d;split at d
  ·exact g.one u (an d)
  exact h.one u (an d)
 rw[N]at d;rw[J,g.len]at z;split at d
 ·rename_i D;rw[ae D]at z;exact g.rep _ x u d z
 rename_i D;rw[aa D]at z;exact h.rep _ x u d z
theorem Cf{S:Nat->Prop}{w:World}{x:PV}{ys:List PV}{v:Value}(h:tF x=some ys)(d:aQ S w x v):kS S w ys v.cells.toList:=by
 obtain⟨z,D,I⟩:=xn h d;exact⟨by simpa using z,D,fun j y u J N=>I j y u J (by simpa using N)⟩
variable {A:qB} {V L:Nat->Prop} {rho:Nat->Value} {fs:List (Nat×Nat×Bool)}
theorem J8(hC:bR A.C){t:Nat->AV}{a:Act}{w:World}{h:Nat->AB}(d:Nat->Option (Nat×Nat))(hp:∀(i:Nat) f,fs[i]?=some f->d i=some (f.1,f.2.1)):
  ∀(D:List (Nat×Operand)) (h':Nat->AB) (S:Nat->Prop) (cs:List PV) (vs:List Value) (K:List PV->List (Nat×AB)->Prop),(∀p∈D,∀j,p.2=.tmp j->V j)->cc A V L S rho ⟨t,h'⟩ a w->qD h h'->kS S w cs vs->kq h fs (ev t) D cs K ->
  ∃N fz S' O,K N fz/\cc A V L S' rho ⟨t,app h' fz⟩ a w/\qD h (app h' fz)/\kS S' w N O/\Instr.fill d vs.toArray (D.map fun p=>(p.1,a.eval p.2))=some O.toArray/\(∀p∈fz,L p.1):=by
 intro D
 induction D with
 | nil=>intro h' S cs vs K _ z U R u;exact⟨cs,[],S,vs,u,z,U,R,rfl,by simp⟩
 | cons p D ih=>
  intro h' S cs vs K Y z U R u;obtain⟨i,x⟩:=p;unfold kq at u;split at u
  ·rename_i off size ag Z;have hx:=bB z x fun j hj=>Y (i,x) (by simp) j hj;obtain⟨y,fz,S2,u,bD,I,yJ,Lp,Fb⟩:=iR hC z U hx u;split at u
   ·rename_i ys Q7;split at u
    ·rename_i W;simp only[aK]at W;have e1:=iN W.1;have e2:=lQ W.2;have J:=Cf Q7 I;obtain⟨N,nQ,S',O,k1,k2,k3,k4,k5,k9⟩:=ih (app h' fz) S2 _ _ _ (fun p hp=>Y p (by simp[hp])) bD Lp ((R.mono yJ).set J off (by omega)) u;refine⟨N,fz++nQ,S',O,k1,by rw[cM];exact k2,by rw[cM];exact k3,k4,?_,fun p hp=>(cm.1 hp).elim (Fb p) (k9 p)⟩;rw[fJ,wi d _ i _ _ off size (hp i _ Z) (by simpa [e1] using J.len) (by simp[R.len];omega)];exact k5
    exact u.elim
   exact u.elim
  exact u.elim
theorem L5{P:Program}{t:TypeId}{size bytes:Nat}{zero:List Value}{eq:Bool}(W:oJ P t ⟨.st fs,size,bytes,zero,eq⟩){l:List (Nat×Value)}{Y:Array Value}
  (k5:Instr.fill (fun i=>(fs[i]?).map fun f=>(f.1,f.2.1)) zero.toArray l=some Y):P.built t l=some Y:=by
 obtain⟨info,z,hi,hsz,Y5,hz,Z,jG⟩:=W.info;obtain⟨gs,tJ,hl,hf⟩:=W.under;simp only at Z;have Dg:gs.toList.mapM (fun f=>(P.info? f.type).map fun i=>(f.offset,i.size))=some (fs.map fun f=>(f.1,f.2.1)):=by
  have I:∀(u:List Field) (d:List (Nat×Nat×Bool)),d.length=u.length->(∀(i:Nat) f g,d[i]?=some f->u[i]?=some g->f.1=g.offset/\(∃J,P.info? g.type=some J/\J.size=f.2.1))->u.mapM (fun f=>(P.info? f.type).map fun i=>(f.offset,i.size))=some (d.map fun f=>(f.1,f.2.1)):=by
   intro u
   induction u with
   | nil=>intro d D _;have:d=[]:=cP D;subst this;rfl
   | cons g u ih=>
    intro d D h2;cases d with
    | nil=>simp at D
    | cons f d=>
     obtain⟨N,J,O,e3⟩:=h2 0 f g rfl rfl;have:=ih d (by simpa using D) (fun i f g R U=>h2 (i+1) f g (by simpa using R) (by simpa using U));rw[CX,O,this];simp[N,e3]
  exact I gs.toList fs (by simpa using hl) (fun i f g R U=>by
   obtain⟨N,_,O,_⟩:=hf i f g R (by simpa using U);exact⟨N,O⟩)
 unfold Program.built;rw[hi,tJ];simp only[hz,Dg,Z];rw[<-k5];congr 1;funext i;simp
theorem J9{S:Nat->Prop}{s:AS}{a:Act}{w:World}(O:cc A V L S rho s a w)(d:Nat->Option (Nat×Nat))(hp:∀(i:Nat) f,fs[i]?=some f->d i=some (f.1,f.2.1)):
  ∀(J:List (Nat×Operand)) (cs:List AV) (vs:List Value) (K:List AV->Prop),(∀p∈J,∀j,p.2=.tmp j->V j)->cs.length=vs.length->(∀u∈vs,u.oneCell'=true)->(∀(i:Nat) c u,cs[i]?=some c->vs[i]?=some u->br S w A.C.P L rho s.h c u)->l9 s.h fs (ev s.t) J cs K ->
  ∃(R:List AV) (N:List Value),K R/\R.length=N.length/\(∀u∈N,u.oneCell'=true)/\(∀(i:Nat) c u,R[i]?=some c->N[i]?=some u->br S w A.C.P L rho s.h c u)/\Instr.fill d vs.toArray (J.map fun p=>(p.1,a.eval p.2))=some N.toArray:=by
 intro J
 induction J with
 | nil=>intro cs vs K _ W Y Z z;exact⟨cs,vs,z,W,Y,Z,rfl⟩
 | cons p J ih=>
  intro cs vs K hV W Y Z z;obtain⟨i,x⟩:=p;unfold l9 at z;split at z
  ·rename_i off size ag OC;split at z
   ·rename_i ly;simp only[aK]at ly;obtain⟨⟨e1,e2⟩,e3⟩:=ly;have e1:=iN e1;have e2:=lQ e2;have hx:=bB O x fun j D=>hV (i,x) (by simp) j D;have o1:=rS O e3 hx;have U:=cells_one o1;have hlen:off<vs.length:=by omega
    obtain⟨R,N,k1,k2,k3,k4,k5⟩:=ih (cs.set off (ev s.t x)) (vs.set off (a.eval x)) K (fun p hp=>hV p (by simp[hp])) (by simp[W]) (fun u I=>by
      rcases nN I with h | h
      ·exact Y u h
      ·rw[h];exact o1) (fun j c u D I=>by
      by_cases e:j=off
      ·subst e;rw[ga (by omega)]at D I;injection D with D;injection I with I;subst D I;exact hx
      rw[jL (fun e'=>e e'.symm)]at D I;exact Z j c u D I) z
    refine⟨R,N,k1,k2,k3,k4,?_⟩;rw[fJ,wi d _ i _ _ off size (hp i _ OC) (by rw[U,e1];rfl) (by simp;omega),U];exact k5
   exact z.elim
  exact z.elim
theorem L6{o:Oper}(t:TypeId)(O:Array (Nat×Operand))(Z:o.op=.build t O):jt A o:=by
 intro V L S rho s a w K next Q hC N hV hd R _ d
 simp only[bV,Z]at R;split at R
 ·rename_i fs size bytes zero eq hT;have gk:=(hC.tab t _ hT).under;obtain⟨info,z,hi,hsz,Y5,hz,gg,jG⟩:=(hC.tab t _ hT).info;obtain⟨gs,tJ,hl,hf⟩:=gk;simp only at gg jG;have qE:∀(i:Nat) f,fs[i]?=some f->(fun i=>(fs[i]?).map fun f=>(f.1,f.2.1)) i=some (f.1,f.2.1):=fun i f h=>by simp[h]
  split at R
  case h_2=>
   obtain⟨nz,U,k1,k2,k3,k4,k5⟩:=J9 N (fun i=>(fs[i]?).map fun f=>(f.1,f.2.1)) qE O.toList (zero.map JX) zero (fun cs=>K (.st cs) [] none)
    (fun p hp j D=>hV j (by simp[Z,Op.operands];exact⟨p.1,by rw[<-D];exact cJ.1 hp⟩)) (by simp) jG (fun j x u D hu=>by
     rw[aB,hu]at D;simp at D;rw[<-D];exact zm _ _ _ _ _ _ u) R
   have G9:=L5 (hC.tab t _ hT) k5;exact aM N hd d k1 (.st _ U.toArray (by simpa using k2) (by simpa using k3) (fun i c u J W=>k4 i c u J (by simpa using W))) (by
    have hr:=run_build (P:=A.C.P) w t (O.map fun p=>(p.1,a.eval p.2)) U.toArray (by simpa using G9);simp only[execOp,Z,bJ];rw[hr];simp)
  obtain⟨nz,fz,S',U,k1,k2,k3,k4,k5,_⟩:=J8 hC (fun i=>(fs[i]?).map fun f=>(f.1,f.2.1)) qE O.toList s.h S (zero.map (SR (A.C.bn t))) zero (fun cs fz=>K (.p (.ag cs)) fz none)
   (fun p hp j D=>hV j (by simp[Z,Op.operands];exact⟨p.1,by rw[<-D];exact cJ.1 hp⟩)) N (qD.refl _) ⟨by simp,jG,fun j x u D hu=>by
    rw[aB,hu]at D;simp at D;rw[<-D];exact IQ _ _ _ u⟩ R
  have Dg:gs.toList.mapM (fun f=>(A.C.P.info? f.type).map fun i=>(f.offset,i.size))=some (fs.map fun f=>(f.1,f.2.1)):=by
   have gen:∀(Y:List Field) (I:List (Nat×Nat×Bool)),I.length=Y.length->(∀(i:Nat) f g,I[i]?=some f->Y[i]?=some g->f.1=g.offset/\(∃i2,A.C.P.info? g.type=some i2/\i2.size=f.2.1))->Y.mapM (fun f=>(A.C.P.info? f.type).map fun i=>(f.offset,i.size))=some (I.map fun f=>(f.1,f.2.1)):=by
    intro Y
    induction Y with
    | nil=>intro I J _;have:I=[]:=cP J;subst this;rfl
    | cons g Y ih=>
     intro I J W;cases I with
     | nil=>simp at J
     | cons f I=>
      obtain⟨e1,i2,e2,e3⟩:=W 0 f g rfl rfl;have:=ih I (by simpa using J) (fun i f g h3 h4=>W (i+1) f g (by simpa using h3) (by simpa using h4));rw[CX,e2,this];simp[e1,e3]
   exact gen gs.toList fs (by simpa using hl) (fun i f g h3 h4=>by
    obtain⟨e1,_,e2,_⟩:=hf i f g h3 (by simpa using h4);exact⟨e1,e2⟩)
  have G9:A.C.P.built t (O.toList.map fun p=>(p.1,a.eval p.2))=some U.toArray:=by
   unfold Program.built;rw[hi,tJ];simp only[hz,Dg,gg];rw[<-k5];congr 1;funext i;simp
  refine Cd (s:=s) k2 hd d k1 (v:=.agg U.toArray) (.p _ _ (.ag _ _ (by simp[k4.len]) (by simpa using k4.one) fun i c v J W=>k4.rep i c v J (by simpa using W))) ?_;have hr:=run_build (P:=A.C.P) w t (O.map fun p=>(p.1,a.eval p.2)) U.toArray (by simpa using G9);simp only[execOp,Z,bJ];rw[hr];simp
 exact R.elim
theorem J_{S:Nat->Prop}{s:AS}{a:Act}{w:World}{b:Bool}(hC:bR A.C){h:Nat->AB}(d:cc A V L S rho s a w)(z:qD h s.h){x:AV}{v:Value}(D:br S w A.C.P L rho s.h x v){K:PV->List (Nat×AB)->Prop}(u:xj b h x K):
  ∃y fz S',K y fz/\cc A V L S' rho ⟨s.t,app s.h fz⟩ a w/\aQ S' w y v/\(∀b,S b->S' b)/\qD h (app s.h fz)/\(∀p∈fz,L p.1):=by
 unfold xj at u;split at u
 ·have:v=.slice none 0 0:=by cases D;rfl
  rw[this];exact⟨_,[],S,u,d,.im _,fun _ h=>h,z,by simp⟩
 exact iR hC d z D u
theorem zr(hC:bR A.C){t:Nat->AV}{a:Act}{w:World}{h:Nat->AB}{size:Nat}{b:Bool}:
  ∀(I:List (Nat×Operand)) (h':Nat->AB) (S:Nat->Prop) (es:List (List PV)) (vs:List Value) (K:List (List PV)->List (Nat×AB)->Prop),(∀p∈I,∀j,p.2=.tmp j->V j)->cc A V L S rho ⟨t,h'⟩ a w->qD h h'->Flat S w size es vs->hM b h size (ev t) I es K ->
  ∃J fz S' O,K J fz/\cc A V L S' rho ⟨t,app h' fz⟩ a w/\qD h (app h' fz)/\Flat S' w size J O/\J.length=es.length/\Instr.fill (fun i=>some (i*size,size)) vs.toArray (I.map fun p=>(p.1,a.eval p.2))=some O.toArray/\(∀p∈fz,L p.1):=by
 intro I
 induction I with
 | nil=>intro h' S es vs K _ z U R d;exact⟨es,[],S,vs,d,z,U,R,rfl,rfl,by simp⟩
 | cons p I ih=>
  intro h' S es vs K Y z U R d;obtain⟨i,x⟩:=p;unfold hM at d;have hx:=bB z x fun j hj=>Y (i,x) (by simp) j hj;obtain⟨y,fz,S2,d,bD,N,yJ,Lp,Fb⟩:=J_ hC z U hx d;split at d
  ·rename_i ys Q7;split at d
   ·rename_i W;simp only[aK]at W;have Z:=iN W.1;have e2:i<es.length:=je W.2;have D:=Cf Q7 N;have TG:(a.eval x).cells.toList.length=size:=by rw[D.len,Z]
    have hb:i*size+size<=vs.length:=by rw[R.len,<-dh];exact a8 _ e2
    obtain⟨J,nQ,S',O,k1,k2,k3,k4,k5,k6,k9⟩:=ih (app h' fz) S2 _ _ _ (fun p hp=>Y p (by simp[hp])) bD Lp ((R.mono yJ (fun _ _=>rfl)).set i e2 ys _ Z TG D.one (fun j y u h1 h2=>D.rep j y u h1 h2)) d;refine⟨J,fz++nQ,S',O,k1,by rw[cM];exact k2,by rw[cM];exact k3,k4,by rw[k5,dz],?_,fun p hp=>(cm.1 hp).elim (Fb p) (k9 p)⟩;rw[fJ,wi _ _ i _ _ (i*size) size rfl (by simpa using TG) (by simpa using hb)];exact k6
   exact d.elim
  exact d.elim
theorem Bv{o:Oper}(t:TypeId)(len:Nat)(N:Array (Nat×Operand))(aJ:o.op=.buildSlice t len N):jt A o:=by
 intro V L S rho s a w K next Q hC sim hV hd J hn D
 simp only[bV,aJ]at J;split at J
 ·rename_i e size bytes zero eq hT;have gk:=(hC.tab t _ hT).under;simp only at gk;split at J
  ·rename_i d Y;obtain⟨ie,ze,ql,Bu,Oi,OL,OM,jG⟩:=(hC.tab e d Y).info;have P8:=(hC.tab e d Y).LJ;split at J
   ·rename_i ly;simp only[aK]at ly;have z:0<d.size:=je ly.1;have Vv:=lQ ly.2;split at J
    ·rename_i X_;obtain⟨Z,fz,S',u,k1,O,k3,k4,R,k6,k9⟩:=zr hC N.toList s.h S _ _ (fun es fz=>K (.ow (o.dst.getD 0)) fz (some (.row e es)))
      (fun p hp j hj=>hV j (by simp[aJ,Op.operands];exact⟨p.1,by rw[<-hj];exact cJ.1 hp⟩)) sim (qD.refl _) (Flat.zero false S w (hC.tab e d Y) z len) J
     rw[yE]at R;obtain⟨hL,hb⟩:=hn _ _ _ k1;have Rg:(app s.h fz) (o.dst.getD 0)=.row e Z:=by
      rw[ji (fun p hp (e:p.1=_)=>hL (by rw[<-e];exact k9 p hp)),hb]
     have I:(execOp a.eval o).run A.C.P w=.ok (.value (.slice (some ⟨w.heap.size,0,none⟩) len len)) (w.alloc (.cells u.toArray e)):=by
      have e0:len*d.size=(Array.range (len*d.size)).size:=by simp
      have Wd:¬16777216<len*d.size:=by omega
      have TH:Instr.fill (fun i=>some (i*d.size,d.size)) ((Array.range (len*d.size)).map (d.zero.toArray[· % d.zero.toArray.size]!)) (N.map fun p=>(p.1,a.eval p.2)).toList=some u.toArray:=by
       rw[yF];rw[<-k6]
      have U:(Go.sizeOf e).run A.C.P w=.ok d.size w:=(hC.tab e d Y).sizeOf w;simp only[execOp,aJ,Instr.buildSlice,bJ,run_underlying gk,dm,U];rw[aa (show ¬len*d.size>2 ^ 24 by omega)];by_cases W:len*d.size=0
      ·rw[ae W];have k7:Instr.fill (fun i=>some (i*d.size,d.size)) ((Array.range (len*d.size)).map ((#[]:Array Value)[· % (#[]:Array Value).size]!)) (N.map fun p=>(p.1,a.eval p.2)).toList=some u.toArray:=by
        have yg:∀f:Nat->Value,(Array.range 0).map f=#[]:=fun f=>by apply ph;simp
        rw[<-TH,W,yg,yg]
       simp only[bJ,fF,dm];rw[k7];simp[newRow,newObj,Sem.run]
      rw[aa W];have We:(zeroValue e).run A.C.P w=.ok ze w:=by simp[zeroValue,typeInfo,ql,OL]
      simp only[bJ,fF,dm,We];rw[OM,TH];simp[newRow,newObj,Sem.run]
     have bD:=O.new hC (o.dst.getD 0) _ (O.qm hd) hL Rg (w.alloc (.cells u.toArray e)) rfl rfl rfl (by simp) (fun _=>False) (fun k hk _=>nM _ _ _ hk) (fun _ h=>h.elim) (.slice (some ⟨w.heap.size,0,none⟩) len len)
      (fun g hg=>by simp[bY]at hg;subst hg;simp) (fun T=>by
       show aC A.C.P _ _ e _ (bq rho (o.dst.getD 0) _ (o.dst.getD 0));rw[aH];refine aC.of_flat ql (by omega) ?_ (by rw[Bu];exact k4.mono T.hS T.keep);have:=World.ownsRow_lit (base:=0) (e:=e) (size:=d.size) w u.toArray len (ai _) (by simp only[maxLen];have:=II len z;omega) (by simp[k4.len,R]);rw[Bu,R];exact this)
     exact eO I (D _ _ _ S' _ _ _ k1 (bD.value o.dst hd _ _ (.ow _ _ fun _=>⟨.inr rfl,(aH _ _ _).symm⟩)))
    rename_i X_;obtain⟨Z,fz,S',u,k1,O,k3,k4,R,k6,k9⟩:=zr hC N.toList s.h S _ _ (fun es fz=>K (.ow (o.dst.getD 0)) fz (some (.jr es)))
     (fun p hp j hj=>hV j (by simp[aJ,Op.operands];exact⟨p.1,by rw[<-hj];exact cJ.1 hp⟩)) sim (qD.refl _) (Flat.zero false S w (hC.tab e d Y) z len) J
    rw[yE]at R;obtain⟨hL,hb⟩:=hn _ _ _ k1;have Rg:(app s.h fz) (o.dst.getD 0)=.jr Z:=by
     rw[ji (fun p hp (e:p.1=_)=>hL (by rw[<-e];exact k9 p hp)),hb]
    have I:(execOp a.eval o).run A.C.P w=.ok (.value (.slice (some ⟨w.heap.size,0,none⟩) len len)) (w.alloc (.cells u.toArray e)):=by
     have e0:len*d.size=(Array.range (len*d.size)).size:=by simp
     have Wd:¬16777216<len*d.size:=by omega
     have TH:Instr.fill (fun i=>some (i*d.size,d.size)) ((Array.range (len*d.size)).map (d.zero.toArray[· % d.zero.toArray.size]!)) (N.map fun p=>(p.1,a.eval p.2)).toList=some u.toArray:=by
      rw[yF];rw[<-k6]
     have U:(Go.sizeOf e).run A.C.P w=.ok d.size w:=(hC.tab e d Y).sizeOf w;simp only[execOp,aJ,Instr.buildSlice,bJ,run_underlying gk,dm,U];rw[aa (show ¬len*d.size>2 ^ 24 by omega)];by_cases W:len*d.size=0
     ·rw[ae W];have k7:Instr.fill (fun i=>some (i*d.size,d.size)) ((Array.range (len*d.size)).map ((#[]:Array Value)[· % (#[]:Array Value).size]!)) (N.map fun p=>(p.1,a.eval p.2)).toList=some u.toArray:=by
       have yg:∀f:Nat->Value,(Array.range 0).map f=#[]:=fun f=>by apply ph;simp
       rw[<-TH,W,yg,yg]
      simp only[bJ,fF,dm];rw[k7];simp[newRow,newObj,Sem.run]
     rw[aa W];have We:(zeroValue e).run A.C.P w=.ok ze w:=by simp[zeroValue,typeInfo,ql,OL]
     simp only[bJ,fF,dm,We];rw[OM,TH];simp[newRow,newObj,Sem.run]
    have Lr:Fr (fun _=>False) w (w.alloc (.cells u.toArray e)):=⟨rfl,rfl,rfl,by simp,fun k hk _=>nM _ _ _ hk⟩;have grow:=O.Tt hC (w.alloc (.cells u.toArray e)) Lr (fun b=>S' b\/b=w.heap.size) (fun b h=>.inl h) (fun b h=>by
     rcases h with h | h
     ·exact cG (O.st b h) Lr.size
     subst h;simp) (fun b h=>h.imp id fun h=>by omega)
    have rr:aC A.C.P (w.alloc (.cells u.toArray e)) (aQ S' (w.alloc (.cells u.toArray e))) e Z (.slice (some ⟨w.heap.size,0,none⟩) len len):=by
     refine aC.of_flat ql (by omega) ?_ (by rw[Bu];exact k4.mono (fun _ h=>h) (fun b hb=>nM _ _ _ (O.st b hb)));have:=World.ownsRow_lit (base:=0) (e:=e) (size:=d.size) w u.toArray len (ai _) (by simp only[maxLen];have:=II len z;omega) (by simp[k4.len,R]);rw[Bu,R];exact this
    have uH:aQ (fun b=>S' b\/b=w.heap.size) (w.alloc (.cells u.toArray e)) (.sl Z) (.slice (some ⟨w.heap.size,0,none⟩) len len):=rr.Fa (fun b h=>.inl h) (fun g hg=>by simp[bY]at hg;exact .inr hg.symm);have bD:=grow.Q2 (o.dst.getD 0) Z (O.qm hd) hL Rg _ uH;exact eO I (D _ _ _ _ _ _ _ k1 (bD.value o.dst hd _ _ (.ow _ _ fun _=>⟨.inr rfl,(aH _ _ _).symm⟩)))
   exact J.elim
  exact J.elim
 exact J.elim
end Go.AM
namespace Go.AM
open Go.RowKit
theorem L7:∀{a b:List Nat},Vn a b=true->a=b
 | [],[],_=>rfl
 | [],_::_,h=>by cases h
 | _::_,[],h=>by cases h
 | a::r,b::s,h=>by
  unfold Vn at h;split at h
  ·rename_i e;rw[de e,L7 h]
  cases h
theorem L8{a b:MK}(h:VT a b=true):a=b:=by
 cases a with
 | str=>cases b with | str=>rfl | int k=>cases h | st s=>cases h
 | int k=>cases b with
  | str=>cases k<;>cases h
  | int k'=>cases k<;>cases k'<;>first | rfl | cases h
  | st s=>cases k<;>cases h
 | st s=>cases b with
  | str=>cases h
  | int k=>cases k<;>cases h
  | st s'=>rw[L7 h]
def descOf:MK->TypeDesc
 | .str=>.string
 | .int k=>.int k
 | .st _=>.string
def Dh:MK->Prop
 | .st _=>False
 | _=>True
variable {mk:MK}
theorem G_{P:Program}{t:TypeId}{ti:TI}(h:oJ P t ti)(hp:Dh mk)(d:Bq ti=some mk):P.underlying t=some (descOf mk):=by
 have u:=h.under;unfold Bq at d;cases z:ti.ud<;>rw[z]at d u<;>simp only at d<;>first
  | (cases d;done)
  | (injection d with d;subst d;exact u)
  | (
    split at d
    ·obtain⟨s,_,rfl⟩:=aT.1 d;exact hp.elim
    cases d)
theorem Bw:∀{sh:List Nat} {cs:List PV} {l:List Value},mO sh cs=some l->cs=l.map .im/\me sh l:=by
 intro sh
 induction sh with
 | nil=>
  intro cs l h;cases cs with
  | nil=>injection h with h;subst h;exact⟨rfl,trivial⟩
  | cons c cs=>cases h
 | cons n sh ih=>
  intro cs l h;cases cs with
  | nil=>simp[mO]at h
  | cons c cs=>
   unfold mO at h;split at h
   all_goals first
    | contradiction
    | (
      rename_i d u;injection d with d D;injection u with u I;subst d D u I;obtain⟨l',J,rfl⟩:=aT.1 h;obtain⟨N,z⟩:=ih J;subst N
      first
       | exact⟨rfl,trivial,z⟩
       | exact⟨rfl,rfl,z⟩)
    | (cases h)
variable {k:Value}
theorem zt{a:AV}(h:keyOf mk a=some k):∃x,a=.p x/\mk.ok k/\∀S w v,aQ S w x v->v=k:=by
 unfold keyOf at h;split at h
 ·injection h with h;subst h;exact⟨_,rfl,trivial,fun S w v d=>d.bT⟩
 ·injection h with h;subst h;exact⟨_,rfl,rfl,fun S w v d=>d.bT⟩
 ·obtain⟨l,D,rfl⟩:=aT.1 h;obtain⟨rfl,I⟩:=Bw D;refine⟨_,rfl,by simpa [MK.ok] using I,fun S w v d=>?_⟩;obtain⟨xs,J,z,_,N⟩:=d.tI;rw[J];congr 1;apply ph;apply jM;intro i;by_cases hi:i<xs.size
  ·have u:i<l.length:=by
                  have:l.length=xs.size:=by simpa using z
                  omega
   have:=(N i (.im l[i]) xs[i] (by rw[aB,aX u];rfl) (cx hi)).bT;rw[jN,cx hi,this];simp[u]
  have u:¬i<l.length:=by
                  have:l.length=xs.size:=by simpa using z
                  omega
  rw[fI (by simpa using hi),fI (by simpa using u)]
 cases h
theorem Ha(hp:Dh mk){a b:Value}(d:mk.ok a)(hb:mk.ok b):Instr.sameNow (descOf mk) a b=some (E4 a b):=by
 cases mk with
 | str=>
  cases a<;>first | (exact d.elim) | skip
  cases b<;>first | (exact hb.elim) | skip
  simp only[Instr.sameNow,descOf,E4];congr 1;rw[kO,CY];simp
 | int k=>
  cases a<;>first | (exact d.elim) | skip
  cases b<;>first | (exact hb.elim) | skip
  have u:_=k:=d;have z:_=k:=hb;subst u;subst z;simp[Instr.sameNow,descOf,E4];rw[kO];simp
 | st s=>exact hp.elim
theorem L9(hp:Dh mk)(h:mk.ok k):MapKept.IsKey (descOf mk) k:=by
 cases mk with
 | str=>cases k<;>first | (exact h.elim) | exact trivial
 | int j=>cases k<;>first | (exact h.elim) | exact h
 | st s=>exact hp.elim
theorem bR.key{C:Ctx}(hC:bR C){d:TypeId}{u:TI}(h:C.T d=some u)(z:Bq u=some mk):LD C.P d mk:=by
 by_cases hp:Dh mk
 ·have D:=G_ (hC.tab d u h) hp z;refine⟨fun e k w hk=>MapKept.run_checkKey D (L9 hp hk) e 9999,fun k w ms hk I=>MapKept.run_findKey D ?_⟩;generalize 0=i
  induction ms generalizing i with
  | nil=>rfl
  | cons m ms ih=>
   have hs:=Ha hp hk (I m bK);unfold Instr.findNow ta;rw[hs];cases E4 k m.key with
   | true=>rfl
   | false=>exact ih (fun x J=>I x (cK _ J)) _
 cases mk with
 | st s=>exact hC.keys d u s h z
 | str=>exact (hp trivial).elim
 | int j=>exact (hp trivial).elim
theorem OO:∀{sh:List Nat} {a b:List Value},me sh a->me sh b->E3 a b=true->a=b:=by
 intro sh
 induction sh with
 | nil=>
  intro a b u hb _;cases a with
  | nil=>cases b with
   | nil=>rfl
   | cons y b=>exact hb.elim
  | cons x a=>exact u.elim
 | cons n sh ih=>
  intro a b u hb h;cases a with
  | nil=>exact u.elim
  | cons x a=>cases b with
   | nil=>exact hb.elim
   | cons y b=>
    simp only[E3,aK]at h;rw[ih u.2 hb.2 h.2];have e:x=y:=by
     have D:=u.1;have d:=hb.1;unfold GZ at D d;split at D
     ·split at d<;>first | (exact d.elim) | (rename_i z;cases z;done) | skip
      have:=h.1;simp[JW]at this;rw[this]
     ·split at d<;>first | (exact d.elim) | (rename_i z;cases z;done) | skip
      have:=h.1;simp[JW]at this;rw[this,D,d]
     ·split at d<;>first | (exact d.elim) | (rename_i z;cases z;done) | skip
      have:=h.1;simp[JW]at this;rw[this]
     exact D.elim
    rw[e]
theorem Rh{a b:Value}(d:mk.ok a)(hb:mk.ok b)(h:E4 a b=true):a=b:=by
 cases mk with
 | str=>
  cases a<;>first | (exact d.elim) | skip
  cases b<;>first | (exact hb.elim) | skip
  simp[E4]at h;rw[h]
 | int k=>
  cases a<;>first | (exact d.elim) | skip
  cases b<;>first | (exact hb.elim) | skip
  have u:_=k:=d;have z:_=k:=hb;subst u;subst z;simp[E4]at h;rw[h]
 | st s=>
  cases a<;>first | (exact d.elim) | skip
  cases b<;>first | (exact hb.elim) | skip
  congr 1;exact ph (OO (sh:=s) d hb h)
theorem find_spec(hk:mk.ok k):∀(es:List (Value×PV)) (ms:List MapEntry) (j:Nat),ms.length=es.length->(∀(i:Nat) p m,es[i]?=some p->ms[i]?=some m->m.key=p.1/\mk.ok p.1)->
  (ta k ms j=none/\kv es k=none/\∀v,lO es k v=es++[(k,v)])\/
  ∃i m p,ta k ms j=some (j+i,m.val)/\ms[i]?=some m/\es[i]?=some p/\p.1=k/\kv es k=some p.2/\∀v,lO es k v=es.set i (k,v):=by
 intro es
 induction es with
 | nil=>
  intro ms j d _;have:ms=[]:=cP d;subst this;exact .inl ⟨rfl,rfl,fun v=>rfl⟩
 | cons p es ih=>
  intro ms j d N;cases ms with
  | nil=>cases d
  | cons m ms=>
   obtain⟨O,u⟩:=p;obtain⟨z,R⟩:=N 0 _ _ rfl rfl;simp only at z R;cases hv:E4 k O with
   | true=>
    refine .inr ⟨0,m,(O,u),?_,rfl,rfl,(Rh hk R hv).symm,by simp[kv,hv],fun v=>by simp[lO,hv]⟩;simp[ta,z,hv]
   | false=>
    rcases ih ms (j+1) (by simpa using d) (fun i p m hp U=>N (i+1) p m (by simpa using hp) (by simpa using U)) with⟨D,I,J⟩ | ⟨i,W,p,D,I,J,Y,Z,q6⟩
    ·exact .inl ⟨by simp[ta,z,hv,D],by simp[kv,hv,I],fun v=>by simp[lO,hv,J v]⟩
    refine .inr ⟨i+1,W,p,?_,by simpa using I,by simpa using J,Y,by simp[kv,hv,Z],fun v=>by simp[lO,hv,q6 v]⟩;simp only[ta,z,hv,D];rw[kP,Nat.add_comm 1 i]
theorem zu{n:Nat}:∀{sh:List Nat} {l:List Value},me sh l->((l.zip l).all fun (x,y)=>Instr.sameBits n x y)=true:=by
 intro sh
 induction sh with
 | nil=>intro l h;cases l with
  | nil=>rfl
  | cons x l=>exact h.elim
 | cons c sh ih=>
  intro l h;cases l with
  | nil=>exact h.elim
  | cons x l=>
   rw[List.zip_cons_cons,ux,ih h.2,yG];have d:=h.1;unfold GZ at d;split at d
   ·cases n<;>exact (CY _ _).2 rfl
   ·cases n<;>simp[Instr.sameBits]
   ·cases n<;>simp[Instr.sameBits]
   exact d.elim
theorem sameBits_self(hk:mk.ok k):Instr.sameBits 10000 k k=true:=by
 cases mk with
 | str=>
  cases k<;>first | (exact hk.elim) | skip
  simp only[Instr.sameBits];exact (CY _ _).2 rfl
 | int j=>
  cases k<;>first | (exact hk.elim) | skip
  simp[Instr.sameBits]
 | st s=>
  cases k<;>first | (exact hk.elim) | skip
  rename_i xs;show (xs.size==xs.size&&(xs.toList.zip xs.toList).all fun (x,y)=>Instr.sameBits 9999 x y)=true;rw[zu (sh:=s) hk];simp
variable {A:qB}
theorem Hb{o:Oper}(t:TypeId)(I:o.op=.makeMap t none):jt A o:=by
 intro V L S rho s a w K next Q hC z hV J d O u
 simp only[bV,I]at d;split at d
 ·split at d
  ·split at d
   ·obtain⟨R,D⟩:=O _ _ _ d;have U:=z.new hC (o.dst.getD 0) _ (z.qm J) R D (w.alloc (.map #[] 0)) rfl rfl rfl (by simp) (fun _=>False) (fun k hk _=>nM _ _ _ hk) (fun _ h=>h.elim) (.map (some w.heap.size))
     (fun g N=>by simp[bY]at N;subst N;simp) (fun T=>by
      refine⟨w.heap.size,#[],0,aH _ _ _,(MapKept.heap_alloc w _).1,rfl,by simp⟩)
    exact eO (by simp[execOp,I,Instr.makeMap]) (u _ _ _ S _ _ _ d (U.value o.dst J _ _ (.ow _ _ fun _=>⟨.inr rfl,(aH _ _ _).symm⟩)))
   exact d.elim
  exact d.elim
 exact d.elim
theorem Cg{S:Nat->Prop}{w:World}{P:Program}{L:Nat->Prop}{rho:Nat->Value}{h:Nat->AB}{id:Nat}{es:List (Value×PV)}(u:fU S w P L rho h id (.map mk es)):
  ∃g ms d,rho id=.map (some g)/\w.heap[g]?=some (.map ms d)/\ms.size=es.length/\∀(i:Nat) p m,es[i]?=some p->ms[i]?=some m->m.key=p.1/\mk.ok p.1/\aQ S w p.2 m.val:=u
theorem L_{es:List (Value×PV)}{ms:Array MapEntry}{R:PV->Value->Prop}(d:ms.size=es.length)(u:∀(i:Nat) p m,es[i]?=some p->ms[i]?=some m->m.key=p.1/\mk.ok p.1/\R p.2 m.val):∀m∈ms.toList,mk.ok m.key:=by
 intro m z;obtain⟨i,hi,rfl⟩:=CZ z;have D:i<es.length:=by rw[<-d];simpa using hi
 obtain⟨I,J,_⟩:=u i es[i] (ms.toList[i]) (aX D) (by simp at hi;simp[hi]);rw[I];exact J
theorem Hc{P:Program}{t:TypeId}{ti:TI}(h:oJ P t ti)(Y:G3 P t ti)(S:Nat->Prop)(w:World):∃z,(zeroValue t).run P w=.ok z w/\aQ S w (zk ti) z:=by
 obtain⟨info,z,R,h2,h3,U,J,h6,Z,h8⟩:=h;obtain⟨Ya,z',d,D,I⟩:=Y;rw[R]at d;injection d with d;subst d;rw[U]at D;injection D with D;subst D;refine⟨z,by simp[zeroValue,typeInfo,R,U],?_⟩;unfold zk;cases W:ti.ud.agg with
 | true=>
  rw[W]at I;cases z<;>first | cases I | skip
  rename_i cs;have N:cs=ti.zero.toArray:=J;subst N;refine .ag _ _ (by simp) (fun u O=>Z u (by simpa using O)) fun i c v hi hv=>?_;rw[aB]at hi;obtain⟨u,O,rfl⟩:=aT.1 hi;have:u=v:=by simpa [O] using hv
  subst this;exact uC S w u
 | false=>
  rw[W]at I;have N:z.cells=#[z]:=by cases z<;>first | rfl | cases I
  rw[N]at J;have:ti.zero=[z]:=by simpa using (ah Array.toList J).symm
  rw[this];exact uC S w z
theorem Ka{o:Oper}(t:TypeId)(x i:Operand)(O:Bool)(U:o.op=.lookup t x i O):jt A o:=by
 intro V L S rho s a w K next Q hC D hV hd d hn I
 simp only[bV,U]at d;have hx:=bB D x fun j hj=>hV j (by simp[U,Op.operands,hj]);have hi:=bB D i fun j hj=>hV j (by simp[U,Op.operands,hj]);split at d
 case h_2=>exact d.elim
 rename_i kt et size bytes zero eq hT;have gk:=(hC.tab t _ hT).under;simp only at gk;split at d
 case h_2=>exact d.elim
 rename_i tk te Wg wg;split at d
 case h_2=>exact d.elim
 rename_i mk hmk;have OP:=hC.key Wg hmk;split at d
 case h_2=>exact d.elim
 rename_i id hid;split at d
 case h_2=>exact d.elim
 rename_i mk' es Hd;split at d
 case h_2=>exact d.elim
 rename_i Ma;obtain rfl:=L8 Ma;split at d
 case h_2=>exact d.elim
 rename_i k hk;obtain⟨xk,Vs,W,Wh⟩:=zt hk;obtain⟨r,hr,d⟩:=d;rw[hid]at hx;obtain⟨hL,N⟩:=hx.cW (by rw[Hd];trivial);have hh:=D.hp id hL;rw[Hd]at hh;obtain⟨g,ms,clock,h1,h2,h3,h4⟩:=Cg hh;rw[Vs]at hi;have hi:=Wh _ _ _ hi.fK;obtain⟨z,hz,Y6⟩:=Hc (hC.tab et te wg) (hC.zs et te wg) S w;have fi:∀m∈ms.toList,mk.ok m.key:=L_ h3 h4;have key:∃u,(Instr.lookup t (a.eval x) (a.eval i) O).run A.C.P w=.ok (if O then .tuple #[u,.bool r.isSome] else u) w/\aQ S w (r.getD (zk te)) u:=by
  rcases find_spec W es ms.toList 0 (by simpa using h3) (fun i p m hp hm=>by obtain⟨Y,R,_⟩:=h4 i p m hp (by simpa using hm);exact⟨Y,R⟩) with⟨Y,R,_⟩ | ⟨j,m,p,Y,R,q3,q4,q5,_⟩
  ·rw[hr]at R;subst R;refine⟨z,?_,Y6⟩;cases O<;>simp[Instr.lookup,run_underlying gk,N,h1,uv h2,hi,OP.check _ _ _ W,OP.find _ _ _ W fi,Y,hz]
  rw[hr]at q5;subst q5;refine⟨m.val,?_,(h4 j p m q3 (by simpa using R)).2.2⟩;cases O<;>simp[Instr.lookup,run_underlying gk,N,h1,uv h2,hi,OP.check _ _ _ W,OP.find _ _ _ W fi,Y]
 obtain⟨u,J,hu⟩:=key;cases O with
 | true=>
  refine aM D hd I d (.tu _ _ rfl fun i c v Z N=>?_) (by simp only[execOp,U,bJ,J,dm,fF];rfl)
  match i with
  | 0=>simp at Z N;subst Z N;exact .p _ _ hu
  | 1=>simp at Z N;subst Z N;exact .p _ _ (.im _)
  | i+2=>simp at Z
 | false=>exact aM D hd I d (.p _ _ hu) (by simp only[execOp,U,bJ,J,dm,fF];rfl)
theorem Di{o:Oper}(t:TypeId)(x i y:Operand)(aJ:o.op=.mapUpdate t x i y):jt A o:=by
 intro V L S rho s a w K next Q hC D hV hd d hn O
 simp only[bV,aJ]at d;have hx:=bB D x fun j hj=>hV j (by simp[aJ,Op.operands,hj]);have hi:=bB D i fun j hj=>hV j (by simp[aJ,Op.operands,hj]);have hy:=bB D y fun j hj=>hV j (by simp[aJ,Op.operands,hj]);split at d
 case h_2=>exact d.elim
 rename_i kt et size bytes zero eq hT;have gk:=(hC.tab t _ hT).under;simp only at gk;split at d
 case h_2=>exact d.elim
 rename_i tk Wg;split at d
 case h_2=>exact d.elim
 rename_i mk R;have OP:=hC.key Wg R;split at d
 case h_2=>exact d.elim
 rename_i id hid;split at d
 case h_2=>exact d.elim
 rename_i mk' es Hd;split at d
 case h_2=>exact d.elim
 rename_i Ma;obtain rfl:=L8 Ma;split at d
 case h_2=>exact d.elim
 rename_i k hk;obtain⟨xk,Vs,I,Wh⟩:=zt hk;obtain⟨yv,fz,S2,d,bD,J,yJ,hF,Fb⟩:=iR hC D (qD.refl s.h) hy d;split at d
 case h_2=>exact d.elim
 rename_i Bx;have xp:app s.h fz id=.map mk es:=by rw[mR Bx];exact Hd
 rw[hid]at hx;obtain⟨hL,hv⟩:=hx.cW (by rw[Hd];trivial);have hh:=bD.hp id hL;have hh:fU S2 w A.C.P L rho (app s.h fz) id (app s.h fz id):=hh;rw[xp]at hh;obtain⟨g,ms,z,h1,h2,h3,h4⟩:=Cg hh;rw[Vs]at hi;have hi:=Wh _ _ _ hi.fK;have fi:∀m∈ms.toList,mk.ok m.key:=L_ h3 h4;have fin:∀N Y,(Instr.mapUpdate t (a.eval x) (a.eval i) (a.eval y)).run A.C.P w=.ok () { w with heap:=w.heap.setIfInBounds g (.map N Y) }->N.size=(lO es k yv).length ->
   (∀(i:Nat) p m,(lO es k yv)[i]?=some p->N[i]?=some m->m.key=p.1/\mk.ok p.1/\aQ S2 w p.2 m.val)->o.wp A.C.P a w next Q:=by
  intro N Y hrun hsz Wi;obtain⟨g1,g2⟩:=MapKept.heap_set (o':=.map N Y) h2;refine qJ (w':={ w with heap:=w.heap.setIfInBounds g (.map N Y) }) (by simp only[execOp,aJ,bJ,hrun,dm,fF]) ?_;have gp:=bD.write hC id hL (by show (app s.h fz id).live;rw[xp];trivial) (.map mk (lO es k yv)) (fun _ h=>by cases h) { w with heap:=w.heap.setIfInBounds g (.map N Y) } rfl rfl rfl (by simp) (fun k hk=>g2 k fun e=>hk (by rw[h1,e];rfl)) fun T=>by
   refine⟨g,N,Y,h1,g1,hsz,fun i p m hp u=>?_⟩;obtain⟨U,Z,W⟩:=Wi i p m hp u;exact⟨U,Z,W.mono T.hS T.keep⟩
  have:=O _ _ _ S2 _ _ _ d (by
   rw[cM];exact gp.value o.dst hd .junk undef (.junk _))
  exact this
 rcases find_spec I es ms.toList 0 (by simpa using h3) (fun i p m hp u=>by obtain⟨U,Z,_⟩:=h4 i p m hp (by simpa using u);exact⟨U,Z⟩) with⟨U,Z,W⟩ | ⟨j,m,p,U,Z,W,q4,q5,q6⟩
 ·refine fin (ms.push { key:=k,val:=a.eval y,born:=z }) (z+1) ?_ (by rw[W];simp[h3]) fun i p m hp u=>?_
  ·simp[Instr.mapUpdate,run_underlying gk,hv,h1,uv h2,hi,OP.check _ _ _ I,OP.find _ _ _ I fi,U,MapKept.run_setObj_map _ h2]
  rw[W]at hp;by_cases gY:i<es.length
  ·rw[dU gY]at hp;rw[yH (by omega)]at u;exact h4 i p m hp (by rw[<-u];exact cx _)
  have ql:i=es.length:=by
   have:=aA hp;simp at this;omega
  subst ql;rw[<-h3]at u;simp at hp u;subst hp u;exact⟨rfl,I,J⟩
 have ON:ms[j]?=some m:=by simpa using Z
 have R:m.key=k:=by rw[<-q4];exact (h4 j p m W ON).1
 refine fin (ms.modify j fun e=>{ e with key:=k,val:=a.eval y }) z ?_ (by rw[q6];simp[h3]) fun i p' m' hp u=>?_
 ·simp[Instr.mapUpdate,run_underlying gk,hv,h1,uv h2,hi,OP.check _ _ _ I,OP.find _ _ _ I fi,U,ON,R,Instr.keyThatStays,sameBits_self I,MapKept.run_setObj_map _ h2]
 rw[q6]at hp;rw[C0]at u;by_cases e:j=i
 ·subst e;rw[ae rfl,ON]at u;rw[ga (aA W)]at hp;simp at hp u;subst hp u;exact⟨rfl,I,J⟩
 rw[aa e]at u;rw[jL e]at hp;exact h4 i p' m' hp u
theorem ok_slice{o:Oper}(t:TypeId)(x:Operand)(lo hi:Option Operand)(D:o.op=.slice t x lo hi none):jt A o:=by
 intro V L S rho s a w K next Q hC z N hd d hn u
 have old:=J6 t x lo hi D hC z N hd (K:=K) (Q:=Q) (next:=next);simp only[bV,D]at d;split at d
 case h_2=>exact old d u
 rename_i id hid;split at d
 case h_2=>exact old d u
 rename_i e' es ay;rcases d with d | d
 case inr=>exact old d u
 have hx:=bB z x fun j I=>N j (by simp[D,Op.operands,I]);have Tx:∀y,lo=some y->br S w A.C.P L rho s.h (ev s.t y) (a.eval y):=fun y W=>bB z y fun j I=>N j (by simp[D,Op.operands,I,W]);have Ty:∀y,hi=some y->br S w A.C.P L rho s.h (ev s.t y) (a.eval y):=fun y W=>bB z y fun j I=>N j (by simp[D,Op.operands,I,W]);unfold uB at d;split at d
 case h_2=>exact d.elim
 rename_i e size bytes zero eq hT;have gk:=(hC.tab t _ hT).under;simp only at gk;split at d
 case h_2=>exact d.elim
 rename_i yf;obtain rfl:=iN yf;split at d
 case h_2=>exact d.elim
 rename_i k m k' n h1 h2;obtain⟨⟨h3,h4,h5⟩,d⟩:=d;rw[hid]at hx;obtain⟨hL,hv⟩:=hx.cW (by rw[ay];trivial);have O:=z.hp id hL;rw[ay]at O;have O:aC A.C.P w (aQ S w) e' es (rho id):=O;obtain⟨ie,xs,ql,hpos,hown,_⟩:=O;have R:∃Y c,rho id=.slice Y es.length c/\es.length<=c:=by
  rcases hown.2 with⟨Z,g2⟩ | ⟨g,cap,cur,Z,_,_,g2,_⟩
  ·exact⟨none,0,by rw[Z,g2],by omega⟩
  exact⟨_,cap,Z,g2⟩
 obtain⟨Y,c,R,J⟩:=R;have hb:=zq z lo hi Tx Ty true es.length c k m k' n J h1 h2 h3 h4 h5;refine aM z hd u d (.vw id _ _ _ fun e2 U=>?_) (by simp[execOp,D,Instr.sliceAt,Instr.slice,hv,R,run_underlying gk,hb,Go.sizeOf,typeInfo,ql];rfl);rw[ay]at U;injection U with U;subst U;exact⟨hL,es.length,c,Y,ie,R,ql,by omega,by omega,J,rfl⟩
theorem Flat.take{S:Nat->Prop}{w:World}{k:Nat}{es:List (List PV)}{xs:List Value}(h:Flat S w k es xs)(n:Nat)(d:n<=es.length):Flat S w k (es.take n) (xs.take (n*k)):=by
 have D:n*k<=es.length*k:=a8 _ d;refine⟨by rw[aV,aV,h.len];rw[gx D,gx d],fun r I=>h.row r (jK I),fun u J=>h.one u (jK J),fun i r j x hi z=>?_⟩;have N:=aA hi;rw[aV]at N;rw[iv (by omega)]at hi;obtain⟨u,O,R⟩:=h.rep i r j x hi z;have hjk:j<k:=by rw[<-h.row r (an hi)];exact aA z
 refine⟨u,?_,R⟩;rw[iv,O];have:=a8 k (show i+1<=n by omega);rw[dh]at this;omega
theorem Flat.drop{S:Nat->Prop}{w:World}{k:Nat}{es:List (List PV)}{xs:List Value}(h:Flat S w k es xs)(n:Nat):Flat S w k (es.drop n) (xs.drop (n*k)):=by
 refine⟨by rw[dn,dn,h.len,pj],fun r d=>h.row r (mc d),fun u z=>h.one u (mc z),fun i r j x hi D=>?_⟩;rw[eE]at hi;obtain⟨u,I,J⟩:=h.rep (n+i) r j x hi D;refine⟨u,?_,J⟩;rw[eE,<-I];congr 1;rw[nK,kP]
theorem Mb{o:Oper}(c:Call)(aJ:o.op=.call c)(hc:c.callee=.builtin .clear):jt A o:=by
 intro V L S rho s a w K next Q hC J hV hd u _ O
 obtain⟨callee,args,argTypes⟩:=c;simp only at hc;subst hc;simp only[bV,aJ,fq,gf]at u;split at u
 case h_2=>exact u.elim
 rename_i x t z LY;have hx:=bB J x fun j hj=>hV j (by simp[aJ,Op.operands,Call.operands,hj];rw[<-hj];exact cJ.1 (by rw[z];simp));have e1:args=#[x]:=by rw[<-gw (xs:=args),z]
 have e2:argTypes=#[t]:=by rw[<-gw (xs:=argTypes),LY]
 subst e1 e2;split at u
 case h_2=>exact u.elim
 rename_i e size bytes zero eq hT;have gk:=(hC.tab t _ hT).under;simp only at gk;split at u
 case h_2=>exact u.elim
 rename_i ti wg;split at u
 case h_2=>exact u.elim
 rename_i id lo hi hid;split at u
 case h_2=>exact u.elim
 rename_i e' es ay;split at u
 case h_2=>exact u.elim
 rename_i IZ;simp only[aK]at IZ;obtain⟨yf,D⟩:=IZ;obtain⟨⟨YX,Wj⟩,u⟩:=u;obtain rfl:=iN yf;have D:0<ti.size:=je D;rw[hid]at hx;obtain⟨hL,n,cp,ad,V1,mh,W,_,YY,SY,N⟩:=hx.Da ay;have Y:=J.hp id hL;rw[ay]at Y;have Y:aC A.C.P w (aQ S w) e' es (rho id):=Y;obtain⟨d,R,Z,Bu,Oi,OL,OM,jG⟩:=(hC.tab e' ti wg).info;rw[Z]at W;injection W with W;subst W;obtain⟨xs,I0,hown,xr⟩:=aC.flat Z Y;have fin:∀w',(∀ty,(Builtin.clear_ #[t] ty #[a.eval x]).run A.C.P w=.ok (.tuple #[]) w')->cc A V L S rho ⟨s.t,bq s.h id (.row e' (es.take lo++List.replicate (hi-lo) (ti.zero.map yd)++es.drop hi))⟩ a w'->o.wp A.C.P a w next Q:=by
  intro w' U ca;exact eO (v:=.tuple #[]) (by simp[execOp,aJ,resolve,invoke,builtin,U]) (O _ _ _ S _ _ _ u (ca.value o.dst hd (.tu []) _ (.tu [] #[] rfl (by simp))))
 by_cases heq:hi=lo
 ·subst heq;refine fin w (fun ty=>?_) ?_
  ·rw[N,rO];cases (if cp=hi then ad else ad.map (·.add (hi*d.size)))<;>simp[Builtin.clear_,run_underlying gk]
  rw[rO,List.replicate_zero,cQ,nO,jO _ _ _ ay];exact J
 rcases hown.2 with⟨g1,g2⟩ | ⟨g,cap,cur,g1,_,g3,g4,g5,g6,g7⟩
 ·exact absurd g2 (by omega)
 have P_:=mh;rw[g1]at P_;injection P_ with r1 r2 r3;subst r1 r2 r3;have V7:a.eval x=.slice (some ⟨g,lo*d.size,none⟩) (hi-lo) (cap-lo):=by
  rw[N,aa (by omega)];simp only[fG,Addr.add];split
  ·rename_i h0;rw[h0]
  simp
 have L0:((Array.range ((hi-lo)*ti.size)).map (ti.zero.toArray[· % ti.zero.toArray.size]!))=Builtin.zeroCells R.cells (hi-lo):=by
  unfold Builtin.zeroCells;rw[OM,(show ti.zero.toArray.size=ti.size by simpa using (hC.tab e' ti wg).LJ)]
 have hz:=Flat.zero false S w (hC.tab e' ti wg) D (hi-lo);rw[L0,<-Bu]at hz;have I:(Builtin.zeroCells R.cells (hi-lo)).toList.length=(hi-lo)*d.size:=by rw[hz.len,yE]
 have zv:hi*d.size<=cap*d.size:=a8 _ (by omega);have mT:lo*d.size+(hi-lo)*d.size=hi*d.size:=by rw[<-nK];congr 1;omega
 have Bk:=run_storeCells_at A.C.P g (lo*d.size) e' (Builtin.zeroCells R.cells (hi-lo)).toList 0 cur w g3 (by rw[I,g6];omega) hz.one;simp only[nJ]at Bk;have Kb:hi-lo≠0:=by omega
 refine fin (w.setRow g (cur.toList.take (lo*d.size)++(Builtin.zeroCells R.cells (hi-lo)).toList++cur.toList.drop (lo*d.size+(Builtin.zeroCells R.cells (hi-lo)).toList.length)).toArray) (fun ty=>?_) ?_
 ·rw[V7];cases hk:hi-lo with
  | zero=>exact absurd hk Kb
  | succ m=>
   rw[hk]at Bk;simp[Builtin.clear_,run_underlying gk,zeroValue,typeInfo,Z,OL,Bk]
 refine J.write hC id hL (by rw[ay];trivial) _ (fun e2 h=>by rw[ay];exact h) _ (setRow_os w g _) (setRow_tape w g _) (setRow_output w g _) (setRow_size w g _) (fun k hk=>setRow_other w g k _ fun e=>hk (by rw[g1,e];rfl)) fun T=>?_;show aC A.C.P _ _ e' _ (rho id);have hF:Flat S w d.size (es.take lo++List.replicate (hi-lo) (ti.zero.map yd)++es.drop hi) (xs.take (lo*d.size)++(Builtin.zeroCells R.cells (hi-lo)).toList++xs.drop (hi*d.size)):=((xr.take lo (by omega)).app hz).app (xr.drop hi);refine aC.of_flat Z I0 ?_ (hF.mono T.hS T.keep);have S4:(es.take lo++List.replicate (hi-lo) (ti.zero.map yd)++es.drop hi).length=es.length:=by simp;omega
 rw[S4];refine⟨by rw[hF.len,S4],.inr ⟨g,cap,_,g1,ai _,setRow_heap w g cur _ e' (0,0) g3,g4,g5,?_,?_⟩⟩
 ·rw[eF,bG,bG,I,aV,dn,gd,g6];omega
 rw[<-g7,I,mT];have h1:lo*d.size<=es.length*d.size:=a8 _ (by omega);have h2:hi*d.size<=es.length*d.size:=a8 _ Wj;have h3:es.length*d.size<=cap*d.size:=a8 _ g4;simp only[List.take_append,bG,aV,gd,g6,I,po,List.drop_take];rw[gx (show lo*d.size<=cap*d.size by omega),gx h1];rw[Nat.min_eq_right h1,aW (l:=(Builtin.zeroCells R.cells (hi-lo)).toList) (by rw[I];omega)];rw[show es.length*d.size-(lo*d.size+(hi-lo)*d.size)=es.length*d.size-hi*d.size by omega]
end Go.AM
