/- Part 1 of 14 of the proof of HouseOrdersMatchSpec (the names are shortened by a program: the size of a claim is limited). -/
import Derived.StillTail
import Derived.OwnWalk
import Derived.WalkKit
import Derived.Lib.Hide
import Derived.Below
import Derived.MapKept
set_option linter.unusedVariables false
set_option linter.unusedSimpArgs false
set_option maxRecDepth 100000
set_option maxHeartbeats 8000000
namespace Go.AM
open Go.RowKit
inductive PV where
 | im (x:Value)
 | ag (cs:List PV)
 | sl (es:List (List PV))
 | ip (cs:List PV)
 | fn (f:FuncId) (cap:List PV)
inductive AV where
 | p (x:PV)
 | nl
 | ow (id:Nat)
 | rp (id i off:Nat)
 | bx (id off:Nat)
 | vw (id lo hi:Nat)
 | fn (f:FuncId) (cap:List AV)
 | tu (xs:List AV)
 | st (xs:List AV)
 | junk
inductive MK where
 | str
 | int (k:IntKind)
 | st (sh:List Nat)
def yE:Nat->Value->Prop
 | 0,.string _=>True
 | 1,.int k _=>k=.i64
 | 2,.bool _=>True
 | _,_=>False
def iS:List Nat->List Value->Prop
 | [],[]=>True
 | n::s,v::r=>yE n v/\iS s r
 | _,_=>False
def MK.ok:MK->Value->Prop
 | .str,.string _=>True
 | .int k,.int k' _=>k'=k
 | .st sh,.agg xs=>iS sh xs.toList
 | _,_=>False
inductive HC where
 | p (x:PV)
 | row (e:TypeId) (es:List (List PV))
def HC.isRow:HC->Prop
 | .row ..=>True
 | _=>False
inductive HX where
 | av (x:AV)
 | row (e:TypeId) (es:List (List PV))
inductive AB where
 | none
 | row (e:TypeId) (es:List (List PV))
 | hM (es:List (List PV))
 | box (cs:List AV)
 | gJ (ty:TypeId) (cs:List AV)
 | jK (cs:List PV)
 | map (mk:MK) (es:List (Value×PV))
 | bC (cs:List HC)
 | a7 (e:TypeId) (es:List (List HX))
def AB.live:AB->Prop
 | .row .. | .box .. | .gJ .. | .map .. | .bC .. | .a7 ..=>True
 | _=>False
def AB.kN:AB->Option TypeId
 | .row e _=>some e
 | .a7 e _=>some e
 | _=>Option.none
def AB.there:AB->Prop
 | .none=>False
 | _=>True
structure AS where
 t:Nat->AV
 h:Nat->AB
def bI {α:Type} (f:Nat->α) (i:Nat) (x:α) (j:Nat):α:=match Nat.beq j i with | true=>x | false=>f j
theorem bc {α:Type} (f:Nat->α) (i:Nat) (x:α):bI f i x i=x:=by simp[bI]
theorem bQ {α:Type} (f:Nat->α) {i j:Nat} (x:α) (h:j≠i):bI f i x j=f j:=by
 unfold bI
 have:Nat.beq j i=false:=by rw[Bool.eq_false_iff];intro e;exact h (Nat.eq_of_beq_eq_true e)
 rw[this]
theorem eR {α:Type} (f:Nat->α) (i:Nat) (x:α) (h:f i=x):bI f i x=f:=by
 funext j
 by_cases e:j=i
 ·subst e;rw[bc,h]
 rw[bQ _ _ e]
inductive bu (S:Nat->Prop) (w:World):PV->Value->Prop
 | im (x:Value):bu S w (.im x) x
 | ag (cs:List PV) (vs:Array Value) (hl:cs.length=vs.size) (h1:∀u∈vs.toList,u.oneCell'=true) (h:∀(i:Nat) c v,cs[i]?=some c->vs[i]?=some v->bu S w c v):bu S w (.ag cs) (.agg vs)
 | nil (a:Option Addr) (c:Nat):bu S w (.sl []) (.slice a 0 c)
 | sl (es:List (List PV)) (k b off c:Nat) (U:Nat->Nat->Value) (hc:es.length<=c) (hS:S b) (hk:∀e∈es,e.length=k)
   (hcell:∀(i:Nat) e (j:Nat) x,es[i]?=some e->e[j]?=some x->w.cell? ⟨b,off+i*k+j,none⟩=some (U i j)/\(U i j).oneCell'=true)
   (h:∀(i:Nat) e (j:Nat) x,es[i]?=some e->e[j]?=some x->bu S w x (U i j)):bu S w (.sl es) (.slice (some ⟨b,off,none⟩) es.length c)
 | ip (cs:List PV) (b off:Nat) (U:Nat->Value) (hS:S b) (hcell:∀(j:Nat) x,cs[j]?=some x->w.cell? ⟨b,off+j,none⟩=some (U j)/\(U j).oneCell'=true)
   (h:∀(j:Nat) x,cs[j]?=some x->bu S w x (U j)):bu S w (.ip cs) (.pointer (some ⟨b,off,none⟩))
 | fn (f:FuncId) (cap:List PV) (vs:Array Value) (hl:cap.length=vs.size) (h:∀(i:Nat) c v,cap[i]?=some c->vs[i]?=some v->bu S w c v):bu S w (.fn f cap) (.func (.func f) #[] vs)
theorem bu.mono {S S':Nat->Prop} {w w':World} {x:PV} {v:Value} (h:bu S w x v) (hS:∀b,S b->S' b) (hw:∀b,S b->w'.heap[b]?=w.heap[b]?):bu S' w' x v:=by
 induction h with
 | im x=>exact .im x
 | ag cs vs hl h1 h ih=>exact .ag cs vs hl h1 ih
 | nil a c=>exact .nil a c
 | sl es k b off c U hc hb hk hcell h ih=>exact .sl es k b off c U hc (hS b hb) hk (fun i e j x h1 h2=>⟨(World.cell?_of_block (hw b hb)).trans (hcell i e j x h1 h2).1,(hcell i e j x h1 h2).2⟩) ih
 | ip cs b off U hb hcell h ih=>exact .ip cs b off U (hS b hb) (fun j x h1=>⟨(World.cell?_of_block (hw b hb)).trans (hcell j x h1).1,(hcell j x h1).2⟩) ih
 | fn f cap vs hl h ih=>exact .fn f cap vs hl ih
structure Fr (mv:Nat->Prop) (w w':World):Prop where
 os:w'.os=w.os
 tape:w'.tape=w.tape
 output:w'.output=w.output
 size:w.heap.size<=w'.heap.size
 block:∀k,k < w.heap.size->¬mv k->w'.heap[k]?=w.heap[k]?
theorem Fr.refl (mv:Nat->Prop) (w:World):Fr mv w w:=⟨rfl,rfl,rfl,Nat.le_refl _,fun _ _ _=>rfl⟩
theorem Fr.trans {mv Nn:Nat->Prop} {a b c:World} (h:Fr mv a b) (k:Fr Nn b c) (hm:∀i,Nn i->mv i\/a.heap.size<=i):Fr mv a c:=
 ⟨k.os.trans h.os,k.tape.trans h.tape,k.output.trans h.output,Nat.le_trans h.size k.size,fun i hi hn=>
  (k.block i (Nat.lt_of_lt_of_le hi h.size) (fun As=>by rcases hm i As with h1 | h1;exact hn h1;omega)).trans (h.block i hi hn)⟩
def a_ {α:Type} (P:Program) (w:World) (R:α->Value->Prop) (e:TypeId) (es:List (List α)) (v:Value):Prop:=
 ∃i xs,P.info? e=some i/\0 < i.size/\w.ownsRow 0 e i.size v es.length xs/\(∀r∈es,r.length=i.size)/\(∀u∈xs,u.oneCell'=true)/\
  ∀(a:Nat) r (j:Nat) x,es[a]?=some r->r[j]?=some x->∃u,xs[a*i.size+j]?=some u/\R x u
def cW:Value->Option Nat
 | .slice (some a) _ _=>some a.block
 | .pointer (some a)=>some a.block
 | .map (some g)=>some g
 | _=>none
inductive bK (S:Nat->Prop) (w:World) (P:Program) (L:Nat->Prop) (rho:Nat->Value) (h:Nat->AB):AV->Value->Prop
 | p (x:PV) (v:Value) (hx:bu S w x v):bK S w P L rho h (.p x) v
 | nl:bK S w P L rho h .nl (.slice none 0 0)
 | ow (id:Nat) (v:Value) (hv:(h id).there->L id/\v=rho id):bK S w P L rho h (.ow id) v
 | rp (id i off:Nat) (v:Value) (hv:∀e,(h id).kN=some e->L id/\∃g n c ti,rho id=.slice (some ⟨g,0,none⟩) n c/\P.info? e=some ti/\v=.pointer (some ⟨g,i*ti.size+off,none⟩)):bK S w P L rho h (.rp id i off) v
 | bx (id off:Nat) (v:Value) (hv:(h id).there->L id/\∃g,rho id=.pointer (some ⟨g,0,none⟩)/\v=.pointer (some ⟨g,off,none⟩)):bK S w P L rho h (.bx id off) v
 | vw (id lo hi:Nat) (v:Value) (hv:∀e,(h id).kN=some e->L id/\∃n c a ti,rho id=.slice a n c/\P.info? e=some ti/\lo<=hi/\hi<=n/\n<=c/\v=.slice (if c=lo then a else a.map (·.add (lo*ti.size))) (hi - lo) (c - lo)):bK S w P L rho h (.vw id lo hi) v
 | fn (f:FuncId) (cap:List AV) (vs:Array Value) (hl:cap.length=vs.size) (hc:∀(i:Nat) c v,cap[i]?=some c->vs[i]?=some v->bK S w P L rho h c v):bK S w P L rho h (.fn f cap) (.func (.func f) #[] vs)
 | tu (xs:List AV) (vs:Array Value) (hl:xs.length=vs.size) (hc:∀(i:Nat) c v,xs[i]?=some c->vs[i]?=some v->bK S w P L rho h c v):bK S w P L rho h (.tu xs) (.tuple vs)
 | st (xs:List AV) (vs:Array Value) (hl:xs.length=vs.size) (h1:∀u∈vs.toList,u.oneCell'=true) (hc:∀(i:Nat) c v,xs[i]?=some c->vs[i]?=some v->bK S w P L rho h c v):bK S w P L rho h (.st xs) (.agg vs)
 | junk (v:Value):bK S w P L rho h .junk v
def Gk (S:Nat->Prop) (w:World) (P:Program):HC->Value->Prop
 | .p x,u=>bu S w x u
 | .row e es,u=>a_ P w (bu S w) e es u
structure Bu (S:Nat->Prop) (w:World) (P:Program) (cs:List HC) (g:Nat) (ty:TypeId) (c:Array Value):Prop where
 hp:w.heap[g]?=some (.cells c ty (0,0))
 sz:c.size=cs.length
 cell:∀(j:Nat) x u,cs[j]?=some x->c[j]?=some u->u.oneCell'=true/\Gk S w P x u
 top:∀(j:Nat) x u b,cs[j]?=some x->c[j]?=some u->x.isRow->cW u=some b->b≠g
 dis:∀(i j:Nat) x y u v b,cs[i]?=some x->cs[j]?=some y->c[i]?=some u->c[j]?=some v->x.isRow->y.isRow->cW u=some b->cW v=some b->i=j
def CE (S:Nat->Prop) (w:World) (P:Program) (L:Nat->Prop) (rho:Nat->Value) (h:Nat->AB):HX->Value->Prop
 | .av x,u=>bK S w P L rho h x u
 | .row e es,u=>a_ P w (bu S w) e es u
def gd (w:World) (es:List (List HX)) (g:Nat) (a j:Nat) (u:Value):Prop:=∃(r:List HX) (e:TypeId) (xs:List (List PV)) (c:Array Value) (ty:TypeId) (m:Nat×Nat),es[a]?=some r/\r[j]?=some (.row e xs)/\w.heap[g]?=some (.cells c ty m)/\c[a*r.length+j]?=some u
structure qY (w:World) (es:List (List HX)) (v:Value):Prop where
 top:∀g a j u b,cW v=some g->gd w es g a j u->cW u=some b->b≠g
 dis:∀g a j a' j' u u' b,cW v=some g->gd w es g a j u->gd w es g a' j' u'->cW u=some b->cW u'=some b->a=a'/\j=j'
def Lx (w:World) (x:AB) (v:Value) (k:Nat):Prop:=∃e es g a j u,x=.a7 e es/\cW v=some g/\gd w es g a j u/\cW u=some k
def Ly (w:World) (x:AB) (v:Value) (k:Nat):Prop:=∃cs g,x=.bC cs/\cW v=some g/\∃(c:Array Value) (ty:TypeId) (m:Nat×Nat) (j:Nat) (y:HC) (u:Value),w.heap[g]?=some (.cells c ty m)/\cs[j]?=some y/\y.isRow/\c[j]?=some u/\cW u=some k
def NU (w:World) (x:AB) (v:Value) (k:Nat):Prop:=Ly w x v k\/Lx w x v k
def hasB (w:World) (x:AB) (v:Value) (k:Nat):Prop:=cW v=some k\/NU w x v k
theorem jL {w w':World} {es:List (List HX)} {g a j:Nat} {u:Value} (hw:w'.heap[g]?=w.heap[g]?) (h:gd w' es g a j u):gd w es g a j u:=by
 obtain⟨r,e,xs,c,ty,m,h1,h2,h3,h4⟩:=h
 exact⟨r,e,xs,c,ty,m,h1,h2,by rw[<-hw];exact h3,h4⟩
theorem dA {w w':World} {x:AB} {v:Value} {k:Nat} (hw:∀g,cW v=some g->w'.heap[g]?=w.heap[g]?) (h:hasB w' x v k):hasB w x v k:=by
 rcases h with h | ⟨cs,g,hx,hv,c,ty,m,j,y,u,h1,h2⟩ | ⟨e,es,g,a,j,u,hx,hv,h1,h2⟩
 ·exact .inl h
 ·exact .inr (.inl ⟨cs,g,hx,hv,c,ty,m,j,y,u,by rw[<-hw g hv];exact h1,h2⟩)
 exact .inr (.inr ⟨e,es,g,a,j,u,hx,hv,jL (hw g hv) h1,h2⟩)
def G1:AB->Bool
 | .bC _=>false
 | .a7 _ _=>false
 | _=>true
theorem aY {w:World} {x:AB} {v:Value} {k:Nat} (hx:G1 x=true) (h:hasB w x v k):cW v=some k:=by
 rcases h with h | ⟨cs,g,rfl,_⟩ | ⟨e,es,g,a,j,u,rfl,_⟩
 ·exact h
 ·cases hx
 cases hx
def fa (S:Nat->Prop) (w:World) (P:Program) (L:Nat->Prop) (rho:Nat->Value) (h:Nat->AB) (id:Nat):AB->Prop
 | .none=>True
 | .row e es=>a_ P w (bu S w) e es (rho id)
 | .hM es=>bu S w (.sl es) (rho id)
 | .box cs=>∃g ty c,rho id=.pointer (some ⟨g,0,none⟩)/\w.heap[g]?=some (.cells c ty (0,0))/\c.size=cs.length/\∀(j:Nat) x u,cs[j]?=some x->c[j]?=some u->u.oneCell'=true/\bK S w P L rho h x u
 | .gJ ty cs=>∃g c,rho id=.pointer (some ⟨g,0,none⟩)/\w.heap[g]?=some (.cells c ty (0,0))/\c.size=cs.length/\∀(j:Nat) x u,cs[j]?=some x->c[j]?=some u->u.oneCell'=true/\bK S w P L rho h x u
 | .jK cs=>bu S w (.ip cs) (rho id)
 | .bC cs=>∃g ty c,rho id=.pointer (some ⟨g,0,none⟩)/\Bu S w P cs g ty c
 | .a7 e es=>a_ P w (CE S w P L rho h) e es (rho id)/\qY w es (rho id)
 | .map mk es=>∃g ms clock,rho id=.map (some g)/\w.heap[g]?=some (.map ms clock)/\ms.size=es.length/\∀(i:Nat) p m,es[i]?=some p->ms[i]?=some m->m.key=p.1/\mk.ok p.1/\bu S w p.2 m.val
end Go.AM
namespace Go.AM
open Go.RowKit
inductive UD where
 | sc
 | int (k:IntKind)
 | st (fs:List (Nat×Nat×Bool))
 | sl (e:TypeId)
 | str
 | mp (k e:TypeId)
structure TI where
 ud:UD
 size:Nat
 bytes:Nat
 zero:List Value
 eq:Bool:=false
def UD.agg:UD->Bool
 | .st _=>true
 | _=>false
inductive Arg where
 | pv (x:PV)
 | row (e:TypeId) (es:List (List PV))
 | map (mk:MK) (es:List (Value×PV))
 | box (cs:List PV)
 | bC (cs:List HC)
inductive AR where
 | p (x:PV)
 | own (e:TypeId) (es:List (List PV))
 | tu (xs:List PV)
 | hown (cs:List HC)
inductive Fin where
 | gone
 | row (es:List (List PV))
 | map (es:List (Value×PV))
 | box (cs:List PV)
 | bC (cs:List HC)
structure Ctx where
 P:Program
 T:TypeId->Option TI
 md:FuncId->Nat->Bool
 E:(Nat->Prop)->World->Prop
 bl:FuncId->Bool:=fun _=>false
 bt:TypeId->Bool:=fun _=>false
 bn:TypeId->Bool:=fun _=>false
 bo:TypeId->Bool:=fun _=>false
 bf:Nat->Bool:=fun _=>false
def Bv:Value->Value->Bool
 | .string a,.string b=>decide (a=b)
 | .int _ a,.int _ b=>decide (a=b)
 | .bool a,.bool b=>decide (a=b)
 | _,_=>false
def wT:List Value->List Value->Bool
 | [],[]=>true
 | x::r,y::s=>Bv x y && wT r s
 | _,_=>false
def wU:Value->Value->Bool
 | .string a,.string b=>decide (a=b)
 | .int _ a,.int _ b=>decide (a=b)
 | .agg a,.agg b=>wT a.toList b.toList
 | _,_=>false
def gN:List (Value×PV)->Value->Option PV
 | [],_=>none
 | (k',v)::r,k=>match wU k k' with
  | true=>some v
  | false=>gN r k
def iz:List (Value×PV)->Value->PV->List (Value×PV)
 | [],k,v=>[(k,v)]
 | (k',u)::r,k,v=>match wU k k' with
  | true=>(k,v)::r
  | false=>(k',u)::iz r k v
def va:List Value->Option (List Nat)
 | []=>some []
 | .string _::r=>(va r).map (0::·)
 | .int .i64 _::r=>(va r).map (1::·)
 | .bool _::r=>(va r).map (2::·)
 | _=>none
def tI (ti:TI):Option MK:=match ti.ud with
 | .str=>some .str
 | .int k=>some (.int k)
 | .st fs=>match ti.eq,fs.any (·.2.2) with
  | true,false=>(va ti.zero).map .st
  | _,_=>none
 | _=>none
def K5:List Nat->List Nat->Bool
 | [],[]=>true
 | a::r,b::s=>match Nat.beq a b with
  | true=>K5 r s
  | false=>false
 | _,_=>false
def Lz:MK->MK->Bool
 | .str,.str=>true
 | .int .i64,.int .i64=>true
 | .st a,.st b=>K5 a b
 | _,_=>false
def jh:List Nat->List PV->Option (List Value)
 | [],[]=>some []
 | 0::s,.im (.string x)::r=>(jh s r).map (.string x::·)
 | 1::s,.im (.int .i64 x)::r=>(jh s r).map (.int .i64 x::·)
 | 2::s,.im (.bool x)::r=>(jh s r).map (.bool x::·)
 | _,_=>none
def keyOf:MK->AV->Option Value
 | .str,.p (.im (.string s))=>some (.string s)
 | .int .i64,.p (.im (.int .i64 n))=>some (.int .i64 n)
 | .st sh,.p (.ag cs)=>(jh sh cs).map fun l=>.agg l.toArray
 | _,_=>none
abbrev KK:=AV->List (Nat×AB)->Option AB->Prop
def app (h:Nat->AB):List (Nat×AB)->Nat->AB
 | []=>h
 | (i,b)::r=>app (bI h i b) r
def nT:Value->PV
 | .slice none 0 0=>.sl []
 | v=>.im v
def LA (b:Bool) (v:Value):PV:=match b with
 | true=>.im v
 | false=>nT v
def IX:PV->AV
 | .im (.slice none 0 0)=>.nl
 | x=>.p x
def Bw:Value->AV
 | .slice none 0 0=>.nl
 | v=>.p (.im v)
def vc:Value->AV
 | .slice none 0 0=>.nl
 | .agg cs=>match cs.toList.all Value.oneCell' with
  | true=>.p (.ag (cs.toList.map nT))
  | false=>.junk
 | v=>.p (.im v)
def ev (t:Nat->AV):Operand->AV
 | .tmp j=>t j
 | .const v=>vc v
 | .global g=>.p (.im (.pointer (some ⟨g,0,none⟩)))
 | .func f=>.p (.im (.func (.func f) #[] #[]))
def dS:List AV->Option (List PV)
 | []=>some []
 | .p x::r=>(dS r).map (x::·)
 | .nl::r=>(dS r).map (.sl []::·)
 | _=>none
def ji (h:Nat->AB) (a:AV) (K:PV->List (Nat×AB)->Prop):Prop:=
 match a with
 | .p x=>K x []
 | .nl=>K (.sl []) []
 | .ow id=>match h id with
  | .row _ es=>K (.sl es) [(id,.hM es)]
  | .hM es=>K (.sl es) []
  | _=>False
 | .bx id off=>match h id with
  | .box cs=>match dS cs with
   | some xs=>K (.ip (xs.drop off)) [(id,.jK xs)]
   | none=>False
  | .jK xs=>K (.ip (xs.drop off)) []
  | _=>False
 | _=>False
def qk (h:Nat->AB):List AV->(List PV->List (Nat×AB)->Prop)->Prop
 | [],K=>K [] []
 | a::r,K=>ji h a fun x fz=>qk h r fun xs jM=>K (x::xs) (fz++jM)
def gK (h:Nat->AB) (a:AV) (K:PV->List (Nat×AB)->Prop):Prop:=
 match a with
 | .fn f cap=>qk h cap fun xs fz=>K (.fn f xs) fz
 | a=>ji h a K
def nU:PV->Option (List PV)
 | .ag cs=>some cs
 | .im x=>match x.oneCell' with
  | true=>some [.im x]
  | false=>none
 | x=>some [x]
def pD (h:Nat->AB):AV->Bool
 | .p (.im x)=>x.oneCell'
 | .p (.ag _)=>false
 | .p _=>true
 | .nl=>true
 | .ow id=>match h id with
  | .row _ _=>true
  | .a7 _ _=>true
  | .hM _=>true
  | _=>false
 | .bx id _=>match h id with
  | .none=>false
  | _=>true
 | .rp id _ _=>match h id with
  | .row _ _=>true
  | .a7 _ _=>true
  | _=>false
 | .fn _ _=>true
 | _=>false
def setCells {α:Type}:List α->Nat->List α->List α
 | cs,_,[]=>cs
 | cs,off,x::r=>setCells (cs.set off x) (off+1) r
def oD (id:Nat):List (Nat×AB)->Bool
 | []=>true
 | (i,_)::r=>match Nat.beq i id with
  | true=>false
  | false=>oD id r
def Au (a b:Nat):Bool:=Nat.ble a b
def tJ (a b:Nat):Bool:=Nat.beq a b
def NV (x:Int):Prop:=-9223372036854775808<=x/\x<=9223372036854775807
def G2 {α:Type}:List α->Bool
 | []=>true
 | _=>false
def kB (a b:IntKind):Bool:=match a,b with
 | .i8,.i8 | .i16,.i16 | .i32,.i32 | .i64,.i64 | .u8,.u8 | .u16,.u16 | .u32,.u32 | .u64,.u64=>true
 | _,_=>false
def Je:IntKind->Bool
 | .i64=>true
 | _=>false
def pE (k:IntKind) (n:Int) (K:Value->Prop):Prop:=match Je k with
 | true=>NV n/\K (.int .i64 n)
 | false=>K (.int k (k.wrap n))
def bV:List Value->List PV->List PV->Option Bool
 | [],[],[]=>some true
 | .int _ _::z,.im (.int k a)::r,.im (.int k' b)::s=>match kB k k' with
  | true=>(bV z r s).map (decide (a=b) && ·)
  | false=>none
 | .string _::z,.im (.string a)::r,.im (.string b)::s=>(bV z r s).map (decide (a=b) && ·)
 | .bool _::z,.im (.bool a)::r,.im (.bool b)::s=>(bV z r s).map (decide (a=b) && ·)
 | _,_,_=>none
def Bx (T:TypeId->Option TI) (op:BinOp) (t:TypeId) (x:PV) (K:Value->Prop):Prop:=match x with
 | .sl es=>match G2 es with
  | true=>False
  | false=>match T t with
   | some { ud:=.sl _,.. }=>match op with
    | .eql=>K (.bool false)
    | .neq=>K (.bool true)
    | _=>False
   | _=>False
 | _=>False
def LB:BinOp->Bool
 | .shr=>true
 | _=>false
def nV (T:TypeId->Option TI) (op:BinOp) (t:TypeId) (x y:PV) (K:Value->Prop):Prop:=
 match x,y with
 | .im (.int k a),.im (.int k' b)=>match LB op with
  | true=>(0<=b/\b < 64)/\K (.int k (a.fdiv (2 ^ (min b.toNat k.bits))))
  | false=>match kB k k' with
  | false=>False
  | true=>match op with
   | .add=>pE k (a+b) K
   | .sub=>pE k (a - b) K
   | .mul=>pE k (a*b) K
   | .quo=>b≠0/\pE k (a.tdiv b) K
   | .rem=>b≠0/\K (.int k (a.tmod b))
   | .eql=>K (.bool (decide (a=b)))
   | .neq=>K (.bool (!decide (a=b)))
   | .lss=>K (.bool (decide (a < b)))
   | .leq=>K (.bool (decide (a<=b)))
   | .gtr=>K (.bool (decide (a > b)))
   | .geq=>K (.bool (decide (a>=b)))
   | _=>False
 | .im (.string a),.im (.string b)=>match op with
  | .add=>a.size+b.size<=9223372036854775807/\K (.string (a++b))
  | .eql=>K (.bool (decide (a=b)))
  | .neq=>K (.bool (!decide (a=b)))
  | .lss=>K (.bool (Op.bytesLess a.data.toList b.data.toList))
  | .leq=>K (.bool (Op.bytesLess a.data.toList b.data.toList || decide (a=b)))
  | .gtr=>K (.bool !(Op.bytesLess a.data.toList b.data.toList || decide (a=b)))
  | .geq=>K (.bool !(Op.bytesLess a.data.toList b.data.toList))
  | _=>False
 | .im (.bool a),.im (.bool b)=>match T t with
  | some { ud:=.sc,eq:=true,.. }=>match op with
   | .eql=>K (.bool (decide (a=b)))
   | .neq=>K (.bool (!decide (a=b)))
   | _=>False
  | _=>False
 | .ag a,.ag b=>match T t with
  | some { ud:=.st _,eq:=true,size:=n,zero:=z,.. }=>match tJ n a.length with
   | false=>False
   | true=>match op with
    | .eql=>match bV z a b with
     | some r=>K (.bool r)
     | none=>False
    | .neq=>match bV z a b with
     | some r=>K (.bool !r)
     | none=>False
    | _=>False
  | _=>False
 | _,_=>False
def vd (S:Nat->Prop) (w:World) (mk:MK) (es:List (Value×PV)) (v:Value):Prop:=∃g ms clock,v=.map (some g)/\w.heap[g]?=some (.map ms clock)/\ms.size=es.length/\∀(i:Nat) p m,es[i]?=some p->ms[i]?=some m->m.key=p.1/\mk.ok p.1/\bu S w p.2 m.val
def yF (S:Nat->Prop) (w:World) (P:Program):Arg->Value->Prop
 | .pv x,v=>bu S w x v
 | .row e es,v=>a_ P w (bu S w) e es v/\∀g,cW v=some g->¬S g
 | .map mk es,v=>vd S w mk es v/\∀g,cW v=some g->¬S g
 | .box cs,v=>∃g ty c,v=.pointer (some ⟨g,0,none⟩)/\w.heap[g]?=some (.cells c ty (0,0))/\c.size=cs.length/\¬S g/\∀(j:Nat) x u,cs[j]?=some x->c[j]?=some u->u.oneCell'=true/\bu S w x u
 | .bC cs,v=>∃g ty c,v=.pointer (some ⟨g,0,none⟩)/\Bu S w P cs g ty c/\∀k,hasB w (.bC cs) v k->¬S k/\k < w.heap.size
def ve:Arg->AB
 | .bC cs=>.bC cs
 | _=>.none
def G3:Fin->AB
 | .bC cs=>.bC cs
 | _=>.none
def Arg.handed:Arg->Bool
 | .pv _=>false
 | _=>true
def Mv (w:World) (args:List Arg) (vs:Array Value) (g:Nat):Prop:=∃(j:Nat) (x:Arg) (v:Value),args[j]?=some x/\vs[j]?=some v/\x.handed=true/\hasB w (ve x) v g
def nW (S:Nat->Prop) (w:World) (P:Program):Arg->Fin->Value->Prop
 | _,.gone,_=>True
 | .row e _,.row es,v=>a_ P w (bu S w) e es v/\∀g,cW v=some g->¬S g
 | .map mk _,.map es,v=>vd S w mk es v/\∀g,cW v=some g->¬S g
 | .box _,.box cs,v=>∃g ty c,v=.pointer (some ⟨g,0,none⟩)/\w.heap[g]?=some (.cells c ty (0,0))/\c.size=cs.length/\¬S g/\∀(j:Nat) x u,cs[j]?=some x->c[j]?=some u->u.oneCell'=true/\bu S w x u
 | .bC _,.bC cs,v=>∃g ty c,v=.pointer (some ⟨g,0,none⟩)/\Bu S w P cs g ty c/\∀k,hasB w (.bC cs) v k->¬S k
 | _,_,_=>False
def Fin.kept:Fin->Bool
 | .gone=>false
 | _=>true
def CF (S:Nat->Prop) (w:World) (P:Program):AR->Value->Prop
 | .p x,v=>bu S w x v
 | .own e es,v=>a_ P w (bu S w) e es v/\∀g,cW v=some g->¬S g
 | .hown cs,v=>∃g ty c,v=.pointer (some ⟨g,0,none⟩)/\Bu S w P cs g ty c/\∀k,hasB w (.bC cs) v k->¬S k
 | .tu xs,v=>∃vs:Array Value,v=.tuple vs/\xs.length=vs.size/\∀(i:Nat) x u,xs[i]?=some x->vs[i]?=some u->bu S w x u
def AR.owns:AR->Bool
 | .own ..=>true
 | .hown ..=>true
 | _=>false
def AR.ab:AR->AB
 | .hown cs=>.bC cs
 | _=>.none
def fx (S:Nat->Prop) (w:World) (P:Program):List Arg->List Fin->List Value->Prop
 | [],[],[]=>True
 | x::xs,fs,v::vs=>match x.handed with
  | false=>fx S w P xs fs vs
  | true=>match fs with
   | f::fs=>nW S w P x f v/\fx S w P xs fs vs
   | []=>False
 | _,_,_=>False
def du (w:World):List Arg->List Fin->List Value->Nat->Nat->Prop
 | x::xs,fs,v::vs,i,g=>match x.handed with
  | false=>match i with
   | 0=>False
   | i+1=>du w xs fs vs i g
  | true=>match fs with
   | f::fs=>match i with
    | 0=>f.kept=true/\hasB w (G3 f) v g
    | i+1=>du w xs fs vs i g
   | []=>False
 | _,_,_,_,_=>False
def oE (w w':World) (args:List Arg) (fin:List Fin) (vs:Array Value):Prop:=
 (∀i g,du w' args fin vs.toList i g->g < w'.heap.size/\(w.heap.size<=g\/Mv w args vs g))/\∀i j g,du w' args fin vs.toList i g->du w' args fin vs.toList j g->i=j
def aw (C:Ctx) (f:FuncId) (args:List Arg) (r:AR) (fin:List Fin):Prop:=
 (∃ fn : Func, C.P.funcs[f]? = some fn ∧ (fn.name == "runtime.NumGoroutine") = false ∧ fn.body.isNone = false) ∧
 ∀(S:Nat->Prop) (w:World) (vs:Array Value),C.E S w->(∀b,S b->b < w.heap.size)->args.length=vs.size ->
  (∀(j:Nat) x v,args[j]?=some x->vs[j]?=some v->yF S w C.P x v)->
  (∀(i j:Nat) x y v u g,args[i]?=some x->args[j]?=some y->vs[i]?=some v->vs[j]?=some u->x.handed=true->y.handed=true->hasB w (ve x) v g->hasB w (ve y) u g->i=j)->
  Calls C.P f vs w fun e w'=>∃v S',e=.returned v/\Fr (Mv w args vs) w w'/\(∀b,S b->S' b)/\(∀b,S' b->b < w'.heap.size)/\(∀b,S' b->S b\/w.heap.size<=b\/Mv w args vs b)/\
   CF S' w' C.P r v/\fx S' w' C.P args fin vs.toList/\oE w w' args fin vs/\(∀g,r.owns=true->hasB w' r.ab v g->g < w'.heap.size/\(w.heap.size<=g\/Mv w args vs g)/\∀i,¬du w' args fin vs.toList i g)
def fy (md:Nat->Bool) (h:Nat->AB):Nat->List AV->(List Arg->List (Nat×AB)->List (Nat×AB)->Prop)->Prop
 | _,[],K=>K [] [] []
 | j,a::r,K=>match md j with
  | false=>gK h a fun x fz=>fy md h (j+1) r fun xs ids jM=>K (.pv x::xs) ids (fz++jM)
  | true=>match a with
   | .ow id=>match h id with
    | .row e es=>fy md h (j+1) r fun xs ids fz=>K (.row e es::xs) ((id,.row e es)::ids) fz
    | .hM es=>fy md h (j+1) r fun xs ids fz=>K (.pv (.sl es)::xs) ids fz
    | .map mk es=>fy md h (j+1) r fun xs ids fz=>K (.map mk es::xs) ((id,.map mk es)::ids) fz
    | _=>False
   | .p x=>fy md h (j+1) r fun xs ids fz=>K (.pv x::xs) ids fz
   | .bx id 0=>match h id with
    | .box cs=>match dS cs with
     | some ys=>fy md h (j+1) r fun xs ids fz=>K (.box ys::xs) ((id,.box cs)::ids) fz
     | none=>False
    | .bC cs=>fy md h (j+1) r fun xs ids fz=>K (.bC cs::xs) ((id,.bC cs)::ids) fz
    | _=>False
   | _=>False
def CG:PV->Bool
 | .im _=>true
 | .ag cs=>cs.all fun | .im _=>true | _=>false
 | _=>false
def AR.free:AR->Bool
 | .p x=>CG x
 | .tu xs=>xs.all CG
 | .own ..=>false
 | .hown ..=>false
def fi:List (Nat×AB)->List Fin->Option (List (Nat×AB))
 | [],[]=>some []
 | (id,_)::ids,.gone::fs=>(fi ids fs).map ((id,.none)::·)
 | (id,.row e _)::ids,.row es::fs=>(fi ids fs).map ((id,.row e es)::·)
 | (id,.map mk _)::ids,.map es::fs=>(fi ids fs).map ((id,.map mk es)::·)
 | (id,.box _)::ids,.box cs::fs=>(fi ids fs).map ((id,.box (cs.map .p))::·)
 | (id,.bC _)::ids,.bC cs::fs=>(fi ids fs).map ((id,.bC cs)::·)
 | _,_=>none
def LC:AR->Option AB
 | .own e es=>some (.row e es)
 | .hown cs=>some (.bC cs)
 | _=>none
def IY (d:Nat):AR->AV
 | .p x=>.p x
 | .own ..=>.ow d
 | .hown _=>.bx d 0
 | .tu xs=>.tu (xs.map .p)
def isNil {α:Type}:List α->Bool
 | []=>true
 | _=>false
def Av:List (Nat×AB)->List (Nat×AB)->Bool
 | [],_=>true
 | (i,_)::r,fz=>oD i fz && oD i r && Av r fz
def kO (C:Ctx) (h:Nat->AB) (d:Nat) (f:FuncId) (args:List AV) (K:KK):Prop:=
 fy (C.md f) h 0 args fun xs ids fz=>∃r fin,aw C f xs r fin/\match fi ids fin with
  | some fe=>match Av ids fz with
   | true=>match r.free && isNil ids with
    | true=>K (IY d r) [] none
    | false=>K (IY d r) (fz++fe) (LC r)
   | false=>False
  | none=>False
inductive Jf:HX->PV->Prop
 | p (x:PV):Jf (.av (.p x)) x
 | nl:Jf (.av .nl) (.sl [])
 | row (e:TypeId) (xs:List (List PV)):Jf (.row e xs) (.sl xs)
structure LD (es:List (List HX)) (ps:List (List PV)):Prop where
 len:ps.length=es.length
 row:∀(a:Nat) r q,es[a]?=some r->ps[a]?=some q->q.length=r.length/\∀(j:Nat) x y,r[j]?=some x->q[j]?=some y->Jf x y
inductive km (h:Nat->AB):AV->PV->Prop
 | p (x:PV):km h (.p x) x
 | nl:km h .nl (.sl [])
 | row (id:Nat) (e:TypeId) (es:List (List PV)) (hr:h id=.row e es):km h (.ow id) (.sl es)
 | hM (id:Nat) (es:List (List PV)) (hr:h id=.hM es):km h (.ow id) (.sl es)
 | a7 (id:Nat) (e:TypeId) (es:List (List HX)) (ps:List (List PV)) (hr:h id=.a7 e es) (hp:LD es ps):km h (.ow id) (.sl ps)
inductive kP (h:Nat->AB):List AV->List PV->Prop
 | nil:kP h [] []
 | cons {a:AV} {x:PV} {as:List AV} {xs:List PV} (h1:km h a x) (h2:kP h as xs):kP h (a::as) (x::xs)
inductive View (h:Nat->AB):AV->PV->Prop
 | one {a:AV} {x:PV} (h1:km h a x):View h a x
 | box (id off:Nat) (cs:List AV) (xs:List PV) (hb:h id=.box cs) (hx:kP h cs xs):View h (.bx id off) (.ip (xs.drop off))
 | jK (id off:Nat) (xs:List PV) (hb:h id=.jK xs):View h (.bx id off) (.ip (xs.drop off))
inductive oF (h:Nat->AB):List AV->List PV->Prop
 | nil:oF h [] []
 | cons {a:AV} {x:PV} {as:List AV} {xs:List PV} (h1:View h a x) (h2:oF h as xs):oF h (a::as) (x::xs)
def Jg (C:Ctx) (h:Nat->AB) (d:Nat) (f:FuncId) (args:List AV) (K:KK):Prop:=∃xs r,oF h args xs/\aw C f (xs.map .pv) r []/\r.free=true/\K (IY d r) [] none
def LF:AV->Bool
 | .ow _=>true
 | _=>false
def tK {α:Type} (f:α->Bool):List α->Bool
 | []=>false
 | x::r=>match f x with
  | true=>true
  | false=>tK f r
def dT (h:Nat->AB):AV->Bool
 | .bx id _=>match h id with
  | .box cs=>tK LF cs
  | _=>false
 | .ow id=>match h id with
  | .a7 _ _=>true
  | _=>false
 | _=>false
def ql (C:Ctx) (h:Nat->AB) (d:Nat) (f:FuncId) (args:List AV) (K:KK):Prop:=match tK (dT h) args with
 | false=>kO C h d f args K
 | true=>Jg C h d f args K
def G4 (C:Ctx) (f:FuncId) (xs:List PV) (ty e:TypeId) (es:List (List PV)) (r:AR) (ch:Bool) (dw:Option (List (List PV))):Prop:=
 (∃ fn : Func, C.P.funcs[f]? = some fn ∧ (fn.name == "runtime.NumGoroutine") = false ∧ fn.body.isNone = false) ∧
 ∀(S:Nat->Prop) (w:World) (vs:List Value) (b:Nat) (u0 u1:Value),C.E S w->(∀k,S k->k < w.heap.size)->xs.length=vs.length ->
  (∀(j:Nat) x v,xs[j]?=some x->vs[j]?=some v->bu S w x v)->w.heap[b]?=some (.cells #[u0,u1] ty (0,0))->(u0=.pointer none\/u0=.pointer (some ⟨b,0,none⟩))->
  a_ C.P w (bu S w) e es u1->¬S b->(∀g,cW u1=some g->¬S g/\g≠b/\g < w.heap.size)->
  Calls C.P f (vs++[Value.pointer (some ⟨b,0,none⟩)]).toArray w fun e' w'=>∃v,e'=.returned v/\Fr (fun k=>k=b\/cW u1=some k) w w'/\CF S w' C.P r v/\match dw with
   | none=>True
   | some dw=>∃u1',w'.heap[b]?=some (.cells #[(match ch with | true=>Value.pointer (some ⟨b,0,none⟩) | false=>u0),u1'] ty (0,0))/\a_ C.P w' (bu S w') e dw u1'/\∀g,cW u1'=some g->g < w'.heap.size/\(cW u1=some g\/w.heap.size<=g)
def mW:List AV->Option (List AV×AV)
 | []=>none
 | [x]=>some ([],x)
 | x::y::r=>match mW (y::r) with
  | some (l,z)=>some (x::l,z)
  | none=>none
def Gl (id:Nat):AV->Bool
 | .p (.im (.pointer none))=>true
 | .bx i 0=>Nat.beq i id
 | _=>false
def qm (ch:Bool) (id:Nat) (c:AV):AV:=match ch with
 | true=>.bx id 0
 | false=>c
def qn (C:Ctx) (h:Nat->AB) (d:Nat) (f:FuncId) (args:List AV) (K:KK):Prop:=
 match mW args with
 | some (as,.bx id 0)=>match h id with
  | .gJ ty [c,.ow jj]=>match Gl id c with
   | true=>match h jj with
    | .row e es=>qk h as fun xs fz=>∃r ch dw,G4 C f xs ty e es r ch dw/\match r.free && (oD id fz && (oD jj fz && !Nat.beq id jj)) with
     | true=>match dw with
      | some dw=>K (IY d r) (fz++[(jj,.none),(id,.gJ ty [qm ch id c,.ow d])]) (some (.row e dw))
      | none=>K (IY d r) (fz++[(jj,.none),(id,.none)]) none
     | false=>False
    | _=>False
   | false=>False
  | _=>False
 | _=>False
def hD (h:Nat->AB) (fs:List (Nat×Nat×Bool)) (rho:Operand->AV):List (Nat×Operand)->List PV->(List PV->List (Nat×AB)->Prop)->Prop
 | [],cs,K=>K cs []
 | (i,x)::r,cs,K=>match fs[i]? with
  | some (off,size,_)=>gK h (rho x) fun y fz=>match nU y with
   | some ys=>match tJ ys.length size && Au (off+size) cs.length with
    | true=>hD h fs rho r (setCells cs off ys) fun jF jM=>K jF (fz++jM)
    | false=>False
   | none=>False
  | none=>False
def iQ (h:Nat->AB) (fs:List (Nat×Nat×Bool)) (rho:Operand->AV):List (Nat×Operand)->List AV->(List AV->Prop)->Prop
 | [],cs,K=>K cs
 | (i,x)::r,cs,K=>match fs[i]? with
  | some (off,size,_)=>match tJ size 1 && Au (off+1) cs.length && pD h (rho x) with
   | true=>iQ h fs rho r (cs.set off (rho x)) K
   | false=>False
  | none=>False
def qo (b:Bool) (h:Nat->AB) (a:AV) (K:PV->List (Nat×AB)->Prop):Prop:=match b,a with
 | true,.nl=>K (.im (.slice none 0 0)) []
 | _,a=>gK h a K
def fA (b:Bool) (h:Nat->AB) (size:Nat) (rho:Operand->AV):List (Nat×Operand)->List (List PV)->(List (List PV)->List (Nat×AB)->Prop)->Prop
 | [],es,K=>K es []
 | (i,x)::r,es,K=>qo b h (rho x) fun y fz=>match nU y with
  | some ys=>match tJ ys.length size && Nat.blt i es.length with
   | true=>fA b h size rho r (es.set i ys) fun dw jM=>K dw (fz++jM)
   | false=>False
  | none=>False
def fB (h:Nat->AB) (a:AV) (K:List (List PV)->Prop):Prop:=match a with
 | .p (.sl es)=>K es
 | .nl=>K []
 | .ow id=>match h id with
  | .row _ es=>K es
  | .hM es=>K es
  | _=>False
 | _=>False
inductive CK where
 | len
 | clear
 | min
 | max
 | append
 | val (g:Operand)
 | other
def eN:Builtin->CK
 | .len=>.len
 | .clear=>.clear
 | .min=>.min
 | .max=>.max
 | .append=>.append
 | _=>.other
def eh:Callee->CK
 | .builtin b=>eN b
 | .value g=>.val g
 | .invoke _ _=>.other
def Aw:Fn->Option FuncId
 | .func f=>some f
 | _=>none
def Ax:Value->Option (FuncId×List AV)
 | .func fn first cap=>match isNil first.toList && isNil cap.toList with
  | true=>match Aw fn with
   | some f=>some (f,[])
   | none=>none
  | false=>none
 | _=>none
def Ay:PV->Option (FuncId×List AV)
 | .im v=>Ax v
 | .fn f cap=>some (f,cap.map .p)
 | _=>none
def rO:AV->Option (FuncId×List AV)
 | .p x=>Ay x
 | .fn f cap=>some (f,cap)
 | _=>none
def rP (ti:TI):PV:=match ti.ud.agg with
 | true=>.ag (ti.zero.map nT)
 | false=>match ti.zero with
  | z::_=>nT z
  | []=>.im undef
def fj (C:Ctx) (rho:Operand->AV) (h:Nat->AB) (t:TypeId) (x:Operand) (lo hi:Option Operand) (K:KK):Prop:=
  let l:=match lo with | some y=>rho y | none=>.p (.im (.int .i64 0))
  match C.T t with
  | some { ud:=.str,.. }=>match rho x with
   | .p (.im (.string s))=>
    match l,(match hi with | some y=>rho y | none=>.p (.im (.int .i64 s.size))) with
    | .p (.im (.int _ a)),.p (.im (.int _ b))=>(0<=a/\a<=b/\b<=s.size)/\K (.p (.im (.string (s.extract a.toNat b.toNat)))) [] none
    | _,_=>False
   | _=>False
  | some { ud:=.sl e,.. }=>match C.T e with
   | none=>False
   | some te=>gK h (rho x) fun y fz=>match y with
    | .sl es=>match l,(match hi with | some y=>rho y | none=>.p (.im (.int .i64 es.length))) with
     | .p (.im (.int _ a)),.p (.im (.int _ b))=>(0<=a/\a<=b/\b<=es.length/\∀r∈es,r.length=te.size)/\K (.p (.sl ((es.take b.toNat).drop a.toNat))) fz none
     | _,_=>False
    | _=>False
  | _=>False
def oG (C:Ctx) (rho:Operand->AV) (t:TypeId) (lo hi:Option Operand) (id:Nat) (e':TypeId) (es:List (List PV)) (K:KK):Prop:=
 match C.T t with
 | some { ud:=.sl e,.. }=>match tJ e' e with
  | true=>match (match lo with | some y=>rho y | none=>.p (.im (.int .i64 0))),(match hi with | some y=>rho y | none=>.p (.im (.int .i64 es.length))) with
   | .p (.im (.int _ a)),.p (.im (.int _ b))=>(0<=a/\a<=b/\b<=es.length)/\K (.vw id a.toNat b.toNat) [] none
   | _,_=>False
  | false=>False
 | _=>False
def hlen (h:Nat->AB):AV->Option Nat
 | .ow id=>match h id with
  | .a7 _ es=>some es.length
  | _=>none
 | _=>none
def qp (r:List PV):List HX:=r.map fun x=>.av (IX x)
def bY (C:Ctx) (o:Oper) (rho:Operand->AV) (h:Nat->AB) (K:KK):Prop:=
 let d:=o.dst.getD 0
 match o.op with
 | .move x=>K (rho x) [] none
 | .assign x=>K (rho x) [] none
 | .pick c a b=>match rho c with
  | .p (.im (.bool t))=>match t with
   | true=>K (rho a) [] none
   | false=>K (rho b) [] none
  | _=>False
 | .binOp op t x y _=>match rho x,rho y with
  | .p a,.p b=>nV C.T op t a b fun v=>K (.p (.im v)) [] none
  | .p a,.nl=>Bx C.T op t a fun v=>K (.p (.im v)) [] none
  | _,_=>False
 | .unOp op _ x=>match op,rho x with
  | .not,.p (.im (.bool b))=>K (.p (.im (.bool !b))) [] none
  | .neg,.p (.im (.int k n))=>pE k (0 - n) fun v=>K (.p (.im v)) [] none
  | _,_=>False
 | .convert src dst x=>match rho x,C.T src,C.T dst with
  | .p (.im (.int _ n)),some _,some { ud:=.int k,.. }=>pE k n fun v=>K (.p (.im v)) [] none
  | .p (.im (.string s)),some { ud:=.str,.. },some { ud:=.str,.. }=>K (.p (.im (.string s))) [] none
  | .p (.im (.int _ n)),some { ud:=.int _,.. },some { ud:=.str,.. }=>K (.p (.im (.string (Utf8.encode n)))) [] none
  | _,_,_=>False
 | .nilCheck x=>match rho x with
  | .p (.ip cs)=>K (.p (.ip cs)) [] none
  | .bx id off=>match h id with
   | .box _=>K (.bx id off) [] none
   | .jK _=>K (.bx id off) [] none
   | _=>False
  | .rp id i off=>match h id with
   | .row _ _=>K (.rp id i off) [] none
   | .a7 _ _=>K (.rp id i off) [] none
   | _=>False
  | _=>False
 | .extract x i=>match rho x with
  | .tu xs=>match xs[i]? with
   | some a=>K a [] none
   | none=>False
  | _=>False
 | .box _ x=>match rho x with
  | .p (.ag cs)=>K (.bx d 0) [] (some (.box (cs.map .p)))
  | .st xs=>K (.bx d 0) [] (some (.box xs))
  | a=>match pD h a with
   | true=>K (.bx d 0) [] (some (.box [a]))
   | false=>False
 | .alloc e=>match C.T e with
  | some ti=>match C.bt e with
   | false=>K (.bx d 0) [] (some (.box (ti.zero.map Bw)))
   | true=>K (.bx d 0) [] (some (.gJ e (ti.zero.map Bw)))
  | none=>False
 | .load t a=>match C.T t with
  | none=>False
  | some ti=>match rho a with
   | .p (.ip cs)=>match ti.ud.agg with
    | true=>match Au ti.size cs.length with
     | true=>K (.p (.ag (cs.take ti.size))) [] none
     | false=>False
    | false=>match cs with
     | c::_=>K (.p c) [] none
     | []=>False
   | .bx id off=>match h id with
    | .box cs=>match ti.ud.agg with
     | true=>match Au (off+ti.size) cs.length,dS ((cs.drop off).take ti.size) with
      | true,some xs=>K (.p (.ag xs)) [] none
      | _,_=>False
     | false=>match cs.drop off with
      | c::_=>K c [] none
      | []=>False
    | .jK cs=>match ti.ud.agg with
     | true=>match Au (off+ti.size) cs.length with
      | true=>K (.p (.ag ((cs.drop off).take ti.size))) [] none
      | _=>False
     | false=>match cs.drop off with
      | c::_=>K (.p c) [] none
      | []=>False
    | _=>False
   | .rp id i off=>match h id with
    | .row _ es=>∃r,es[i]?=some r/\match ti.ud.agg with
     | true=>match Au (off+ti.size) r.length with
      | true=>K (.p (.ag ((r.drop off).take ti.size))) [] none
      | _=>False
     | false=>match r.drop off with
      | c::_=>K (.p c) [] none
      | []=>False
    | .a7 _ es=>∃r,es[i]?=some r/\match ti.ud.agg with
     | true=>False
     | false=>match r.drop off with
      | .av c::_=>K c [] none
      | _=>False
    | _=>False
   | _=>False
 | .store t a x=>match C.T t with
  | none=>False
  | some ti=>match rho a with
   | .bx id off=>match h id with
    | .box cs=>match ti.ud.agg with
     | true=>gK h (rho x) fun y fz=>match y with
      | .ag ys=>match tJ ys.length ti.size && Au (off+ti.size) cs.length && oD id fz with
       | true=>K .junk (fz++[(id,.box (setCells cs off (ys.map IX)))]) none
       | false=>False
      | _=>False
     | false=>match Au (off+1) cs.length && tJ ti.size 1 && pD h (rho x) with
      | true=>K .junk [(id,.box (cs.set off (rho x)))] none
      | false=>False
    | _=>False
   | .rp id i off=>match h id with
    | .row e es=>∃r,es[i]?=some r/\gK h (rho x) fun y fz=>match nU y with
     | some ys=>match tJ ys.length ti.size && Au (off+ti.size) r.length && oD id fz with
      | true=>K .junk (fz++[(id,.row e (es.set i (setCells r off ys)))]) none
      | false=>False
     | none=>False
    | .a7 e es=>∃r,es[i]?=some r/\match ti.ud.agg with
     | true=>False
     | false=>match Au (off+1) r.length && tJ ti.size 1 && pD h (rho x) with
      | true=>K .junk [(id,.a7 e (es.set i (r.set off (.av (rho x)))))] none
      | false=>False
    | _=>False
   | _=>False
 | .fieldAddr t x f=>match C.T t with
  | some { ud:=.st fs,.. }=>match fs[f]? with
   | some (off,_,_)=>match rho x with
    | .p (.ip cs)=>K (.p (.ip (cs.drop off))) [] none
    | .bx id o=>match h id with
     | .none=>False
     | _=>K (.bx id (o+off)) [] none
    | .rp id i o=>match h id with
     | .row _ _=>K (.rp id i (o+off)) [] none
     | .a7 _ _=>K (.rp id i (o+off)) [] none
     | _=>False
    | _=>False
   | none=>False
  | _=>False
 | .field t x f=>match C.T t,rho x with
  | some { ud:=.st fs,.. },.p (.ag cs)=>match fs[f]? with
   | some (off,size,agg)=>match agg with
    | true=>match Au (off+size) cs.length with
     | true=>K (.p (.ag ((cs.drop off).take size))) [] none
     | false=>False
    | false=>match cs.drop off with
     | c::_=>K (.p c) [] none
     | []=>False
   | none=>False
  | _,_=>False
 | .indexAddr t x ix=>match C.T t,rho ix with
  | some { ud:=.sl e,.. },.p (.im (.int _ i))=>match C.T e with
   | none=>False
   | some te=>match rho x with
    | .p (.sl es)=>∃r,(0<=i/\es[i.toNat]?=some r)/\match tJ r.length te.size with
     | true=>K (.p (.ip r)) [] none
     | false=>False
    | .ow id=>match h id with
     | .row e' es=>match tJ e' e with
      | true=>(0<=i/\i.toNat < es.length)/\K (.rp id i.toNat 0) [] none
      | false=>False
     | .a7 e' es=>match tJ e' e with
      | true=>(0<=i/\i.toNat < es.length)/\K (.rp id i.toNat 0) [] none
      | false=>False
     | .hM es=>∃r,(0<=i/\es[i.toNat]?=some r)/\match tJ r.length te.size with
      | true=>K (.p (.ip r)) [] none
      | false=>False
     | _=>False
    | _=>False
  | _,_=>False
 | .index t x ix=>match C.T t,rho x,rho ix with
  | some { ud:=.str,.. },.p (.im (.string s)),.p (.im (.int _ i))=>∃b,(0<=i/\s[i.toNat]?=some b)/\K (.p (.im (.int .u8 b.toNat))) [] none
  | _,_,_=>False
 | .slice t x lo hi none=>match rho x with
  | .ow id=>match h id with
   | .row e' es=>oG C rho t lo hi id e' es K\/fj C rho h t x lo hi K
   | _=>fj C rho h t x lo hi K
  | _=>fj C rho h t x lo hi K
 | .makeMap t none=>match C.T t with
  | some { ud:=.mp kt _,.. }=>match C.T kt with
   | some tk=>match tI tk with
    | some mk=>K (.ow d) [] (some (.map mk []))
    | none=>False
   | none=>False
  | _=>False
 | .lookup t x i ck=>match C.T t with
  | some { ud:=.mp kt et,.. }=>match C.T kt,C.T et with
   | some tk,some te=>match tI tk with
    | some mk=>match rho x with
     | .ow id=>match h id with
      | .map mk' es=>match Lz mk mk' with
       | true=>match keyOf mk (rho i) with
        | some k=>∃r,gN es k=r/\match ck with
         | true=>K (.tu [.p (r.getD (rP te)),.p (.im (.bool r.isSome))]) [] none
         | false=>K (.p (r.getD (rP te))) [] none
        | none=>False
       | false=>False
      | _=>False
     | _=>False
    | none=>False
   | _,_=>False
  | _=>False
 | .mapUpdate t x i y=>match C.T t with
  | some { ud:=.mp kt _,.. }=>match C.T kt with
   | some tk=>match tI tk with
    | some mk=>match rho x with
     | .ow id=>match h id with
      | .map mk' es=>match Lz mk mk' with
       | true=>match keyOf mk (rho i) with
        | some k=>gK h (rho y) fun v fz=>match oD id fz with
         | true=>K .junk (fz++[(id,.map mk' (iz es k v))]) none
         | false=>False
        | none=>False
       | false=>False
      | _=>False
     | _=>False
    | none=>False
   | none=>False
  | _=>False
 | .build t ps=>match C.T t with
  | some { ud:=.st fs,zero:=z,.. }=>match C.bo t with
   | false=>hD h fs rho ps.toList (z.map (LA (C.bn t))) fun cs fz=>K (.p (.ag cs)) fz none
   | true=>iQ h fs rho ps.toList (z.map Bw) fun cs=>K (.st cs) [] none
  | _=>False
 | .buildSlice t len ps=>match C.T t with
  | some { ud:=.sl e,.. }=>match C.T e with
   | some ti=>match Nat.blt 0 ti.size && Au (len*ti.size) 16777216 with
    | true=>match C.bf d with
     | false=>fA (C.bn t) h ti.size rho ps.toList (List.replicate len (ti.zero.map nT)) fun es fz=>K (.ow d) fz (some (.row e es))
     | true=>fA (C.bn t) h ti.size rho ps.toList (List.replicate len (ti.zero.map nT)) fun es fz=>K (.ow d) fz (some (.hM es))
    | false=>False
   | none=>False
  | _=>False
 | .makeSlice t n c=>match C.T t,rho n,rho c with
  | some { ud:=.sl e,.. },.p (.im (.int _ n)),.p (.im (.int _ c))=>match C.T e with
   | some ti=>match Nat.blt 0 ti.size with
    | true=>(0<=n/\n<=c/\c*ti.bytes<=140737488355328/\c<=9223372036854775807)/\K (.ow d) [] (some (.row e (List.replicate n.toNat (ti.zero.map nT))))
    | false=>False
   | none=>False
  | _,_,_=>False
 | .makeFunc (.func f) first cap=>match isNil first.toList with
  | true=>K (.fn f (cap.toList.map rho)) [] none
  | false=>False
 | .call c=>match eh c.callee with
  | .len=>match c.args.toList,c.argTypes.toList with
   | [x],[t]=>match C.T t with
    | some { ud:=.str,.. }=>match rho x with
     | .p (.im (.string s))=>K (.p (.im (.int .i64 s.size))) [] none
     | _=>False
    | some { ud:=.sl _,.. }=>match hlen h (rho x) with
     | some n=>K (.p (.im (.int .i64 n))) [] none
     | none=>fB h (rho x) fun es=>K (.p (.im (.int .i64 es.length))) [] none
    | some { ud:=.mp _ _,.. }=>match rho x with
     | .ow id=>match h id with
      | .map _ es=>K (.p (.im (.int .i64 es.length))) [] none
      | _=>False
     | _=>False
    | _=>False
   | _,_=>False
  | .clear=>match c.args.toList,c.argTypes.toList with
   | [x],[t]=>match C.T t with
    | some { ud:=.sl e,.. }=>match C.T e with
     | some ti=>match rho x with
      | .vw id lo hi=>match h id with
       | .row e' es=>match tJ e' e && Nat.blt 0 ti.size with
        | true=>(lo<=hi/\hi<=es.length)/\K (.tu []) [(id,.row e' (es.take lo++List.replicate (hi - lo) (ti.zero.map nT)++es.drop hi))] none
        | false=>False
       | _=>False
      | _=>False
     | none=>False
    | _=>False
   | _,_=>False
  | .min=>match c.args.toList with
   | [x,y]=>match rho x,rho y with
    | .p (.im (.int k a)),.p (.im (.int _ b))=>K (.p (.im (.int k (min a b)))) [] none
    | _,_=>False
   | _=>False
  | .max=>match c.args.toList with
   | [x,y]=>match rho x,rho y with
    | .p (.im (.int k a)),.p (.im (.int _ b))=>K (.p (.im (.int k (max a b)))) [] none
    | _,_=>False
   | [x,y,z]=>match rho x,rho y,rho z with
    | .p (.im (.int k a)),.p (.im (.int _ b)),.p (.im (.int _ c))=>K (.p (.im (.int k (max (max a b) c)))) [] none
    | _,_,_=>False
   | [x,y,z,u,v]=>match rho x,rho y,rho z,rho u,rho v with
    | .p (.im (.int k a)),.p (.im (.int _ b)),.p (.im (.int _ c)),.p (.im (.int _ d)),.p (.im (.int _ e))=>K (.p (.im (.int k (max (max (max (max a b) c) d) e)))) [] none
    | _,_,_,_,_=>False
   | _=>False
  | .append=>match c.args.toList,c.argTypes.toList with
   | [x,y],[t,t']=>match tJ t t',C.T t with
    | true,some { ud:=.sl e,.. }=>match C.T e with
     | some ti=>match Nat.blt 0 ti.size with
      | true=>fB h (rho y) fun ys=>match rho x with
       | .nl=>((∀r∈ys,r.length=ti.size)/\ys.length*ti.bytes<=140737488355328/\ys.length<=140737488355328)/\K (.ow d) [] (some (.row e ys))
       | .ow id=>match h id with
        | .row e' xs=>match tJ e' e with
         | true=>((∀r∈ys,r.length=ti.size)/\(xs.length+ys.length)*ti.bytes<=140737488355328/\xs.length+ys.length<=140737488355328)/\K (.ow d) [(id,.none)] (some (.row e (xs++ys)))
         | false=>False
        | .a7 e' xs=>match tJ e' e with
         | true=>((∀r∈ys,r.length=ti.size)/\(xs.length+ys.length)*ti.bytes<=140737488355328/\xs.length+ys.length<=140737488355328)/\K (.ow d) [(id,.none)] (some (.a7 e (xs++ys.map qp)))
         | false=>False
        | _=>False
       | _=>False
      | false=>False
     | none=>False
    | _,_=>False
   | _,_=>False
  | .val g=>match rO (rho g) with
   | some (f,cap)=>match C.bl f with
    | false=>ql C h d f (c.args.toList.map rho++cap) K
    | true=>qn C h d f (c.args.toList.map rho++cap) K
   | none=>False
  | _=>False
 | _=>False
end Go.AM
namespace Go.AM
open Go.RowKit
def ko (P:Program) (t:TypeId) (ti:TI):Prop:=
 ∃info z,P.info? t=some info/\info.size=ti.size/\info.bytes=ti.bytes/\info.zero=some z/\z.cells=ti.zero.toArray/\ti.zero.length=ti.size/\(∀v∈ti.zero,v.oneCell'=true)/\
  match ti.ud with
  | .sc=>(∃d,P.underlying t=some d/\(match d with | .struct _ | .array _ _=>False | _=>True))/\(ti.eq=true->P.underlying t=some .bool)
  | .int k=>P.underlying t=some (.int k)
  | .st fs=>∃gs,P.underlying t=some (.struct gs)/\fs.length=gs.size/\(∀(i:Nat) f g,fs[i]?=some f->gs[i]?=some g->f.1=g.offset/\f.2.1≠0/\(∃i2,P.info? g.type=some i2/\i2.size=f.2.1)/\
    (∃d,P.underlying g.type=some d/\f.2.2=(match d with | .struct _ | .array _ _=>true | _=>false)))
  | .sl e=>P.underlying t=some (.slice e)
  | .str=>P.underlying t=some .string
  | .mp k e=>P.underlying t=some (.map k e)
def CH:Value->Bool
 | .agg _=>true
 | _=>false
def yG (P:Program) (t:TypeId) (ti:TI):Prop:=∃info z,P.info? t=some info/\info.zero=some z/\CH z=ti.ud.agg
def nI (k:Value):List MapEntry->Nat->Option (Nat×Value)
 | [],_=>none
 | m::r,i=>match wU k m.key with
  | true=>some (i,m.val)
  | false=>nI k r (i+1)
structure CI (P:Program) (kt:TypeId) (mk:MK):Prop where
 check:∀(e:Bool) (k:Value) (w:World),mk.ok k->(Instr.checkKey e 10000 kt k).run P w=.ok () w
 find:∀(k:Value) (w:World) (ms:List MapEntry),mk.ok k->(∀m∈ms,mk.ok m.key)->(Instr.findKey kt k ms).run P w=.ok (nI k ms 0) w
structure ct (C:Ctx):Prop where
 zs:∀t ti,C.T t=some ti->yG C.P t ti
 gw:∀t ti,C.T t=some ti->ko C.P t ti
 env:∀S S' w w',C.E S w->(∀b,S b->S' b)->(∀b,S b->w'.heap[b]?=w.heap[b]?)->w.heap.size<=w'.heap.size->C.E S' w'
 any:C.P.follows .mixedOrders=true
 eqs:∀t ti op a b r,C.T t=some ti->ti.eq=true->(∃fs,ti.ud=.st fs)->bV ti.zero a b=some r->∀(xs ys:Array Value) w,(∀(i:Nat) x v,a[i]?=some x->xs[i]?=some v->x=.im v)->(∀(i:Nat) x v,b[i]?=some x->ys[i]?=some v->x=.im v)->
  a.length=xs.size->b.length=ys.size->ti.size=a.length->(op=.eql\/op=.neq)->∀(x y:Operand),(do eqGuard op t x y (.agg xs) (.agg ys);binOp op t (.agg xs) (.agg ys):Sem Value).run C.P w=.ok (.bool (if op=.eql then r else !r)) w
 keys:∀kt tk sh,C.T kt=some tk->tI tk=some (.st sh)->CI C.P kt (.st sh)
structure dc where
 C:Ctx
 w0:World
 mv:Nat->Prop
 s0:Nat->Prop
 n:Nat
 pin:Nat->Value
structure cm (A:dc) (V L:Nat->Prop) (S:Nat->Prop) (rho:Nat->Value) (s:AS) (a:Act) (w:World):Prop where
 tm:∀j,V j->bK S w A.C.P L rho s.h (s.t j) (a.tmps.getD j undef)
 sz:a.tmps.size=A.n
 df:a.defers=[]
 nb:A.n<=100000
 pn:∀id,100000<=id->rho id=A.pin id
 ev:A.C.E S w
 s0:∀b,A.s0 b->S b
 st:∀b,S b->b < w.heap.size
 sb:∀b,S b->A.s0 b\/A.mv b\/A.w0.heap.size<=b
 hp:∀id,L id->fa S w A.C.P L rho s.h id (s.h id)
 dj:∀i j g,L i->L j->(s.h i).live->(s.h j).live->hasB w (s.h i) (rho i) g->hasB w (s.h j) (rho j) g->i=j
 lv:∀i g,L i->(s.h i).live->hasB w (s.h i) (rho i) g->g < w.heap.size/\¬S g/\(A.mv g\/A.w0.heap.size<=g)
 fr:Fr A.mv A.w0 w
theorem cm.K6 {A:dc} {V L S:Nat->Prop} {rho:Nat->Value} {s:AS} {a:Act} {w:World} (sim:cm A V L S rho s a w) (i j g:Nat) (hi:L i) (hj:L j) (li:(s.h i).live) (lj:(s.h j).live) (bi:cW (rho i)=some g) (bj:cW (rho j)=some g):i=j:=sim.dj i j g hi hj li lj (.inl bi) (.inl bj)
theorem cm.l5 {A:dc} {V L S:Nat->Prop} {rho:Nat->Value} {s:AS} {a:Act} {w:World} (sim:cm A V L S rho s a w) (i g:Nat) (hi:L i) (li:(s.h i).live) (bi:cW (rho i)=some g):g < w.heap.size/\¬S g/\(A.mv g\/A.w0.heap.size<=g):=sim.lv i g hi li (.inl bi)
structure kp (S S':Nat->Prop) (w w':World) (L L':Nat->Prop) (rho rho':Nat->Value) (h h':Nat->AB):Prop where
 hS:∀b,S b->S' b
 keep:∀b,S b->w'.heap[b]?=w.heap[b]?
 ids:∀id,(h' id).there->(h id).there/\(L id->L' id/\rho' id=rho id)
 rows:∀id e,(h' id).kN=some e->(h id).kN=some e
theorem kQ {b:AB} {e:TypeId} (h:b.kN=some e):b.there:=by cases b <;> first | trivial | cases h
theorem bK.dQ {S S':Nat->Prop} {w w':World} {P:Program} {L L':Nat->Prop} {rho rho':Nat->Value} {h h':Nat->AB} (T:kp S S' w w' L L' rho rho' h h') {x:AV} {v:Value}
  (hx:bK S w P L rho h x v):bK S' w' P L' rho' h' x v:=by
 induction hx with
 | p x v hx=>exact .p x v (hx.mono T.hS T.keep)
 | nl=>exact .nl
 | ow id v hv=>
  refine .ow id v fun ht=>?_
  obtain⟨h1,h2⟩:=T.ids id ht
  obtain⟨h3,h4⟩:=hv h1
  obtain⟨h5,h6⟩:=h2 h3
  exact⟨h5,by rw[h6];exact h4⟩
 | rp id i off v hv=>
  refine .rp id i off v fun e he=>?_
  obtain⟨h3,g,n,c,ti,h4,h5,h6⟩:=hv e (T.rows id e he)
  obtain⟨h7,h8⟩:=(T.ids id (kQ he)).2 h3
  exact⟨h7,g,n,c,ti,by rw[h8];exact h4,h5,h6⟩
 | bx id off v hv=>
  refine .bx id off v fun ht=>?_
  obtain⟨h1,h2⟩:=T.ids id ht
  obtain⟨h3,g,h4,h7⟩:=hv h1
  obtain⟨h5,h6⟩:=h2 h3
  exact⟨h5,g,by rw[h6];exact h4,h7⟩
 | vw id lo hi v hv=>
  refine .vw id lo hi v fun e he=>?_
  obtain⟨h3,n,c,a,ti,h4,h5⟩:=hv e (T.rows id e he)
  obtain⟨h7,h8⟩:=(T.ids id (kQ he)).2 h3
  exact⟨h7,n,c,a,ti,by rw[h8];exact h4,h5⟩
 | fn f cap vs hl hc ih=>exact .fn f cap vs hl ih
 | tu xs vs hl hc ih=>exact .tu xs vs hl ih
 | st xs vs hl h1 hc ih=>exact .st xs vs hl h1 ih
 | junk v=>exact .junk v
theorem oH {w w':World} {base:Nat} {e:TypeId} {size:Nat} {v:Value} {n:Nat} {xs:List Value} (h:w.ownsRow base e size v n xs) (hb:∀g,cW v=some g->w'.heap[g]?=w.heap[g]?):w'.ownsRow base e size v n xs:=by
 refine⟨h.1,?_⟩
 rcases h.2 with h2 | ⟨g,cap,cur,hv,hg,Cz,r⟩
 ·exact .inl h2
 exact .inr ⟨g,cap,cur,hv,hg,by rw[hb g (by rw[hv];rfl)];exact Cz,r⟩
theorem a_.dQ {α:Type} {P:Program} {w w':World} {R R':α->Value->Prop} {e:TypeId} {es:List (List α)} {v:Value} (h:a_ P w R e es v) (hb:∀g,cW v=some g->w'.heap[g]?=w.heap[g]?) (hR:∀x u,R x u->R' x u):a_ P w' R' e es v:=by
 obtain⟨i,xs,h1,h2,h3,h4,h5,h6⟩:=h
 exact⟨i,xs,h1,h2,oH h3 hb,h4,h5,fun a r j x ha hj=>by obtain⟨u,hu,hr⟩:=h6 a r j x ha hj;exact⟨u,hu,hR x u hr⟩⟩
theorem qY.dQ {w w':World} {es:List (List HX)} {v:Value} (h:qY w es v) (hb:∀g,cW v=some g->w'.heap[g]?=w.heap[g]?):qY w' es v:=
 ⟨fun g a j u b hg h1 h2=>h.top g a j u b hg (jL (hb g hg) h1) h2,fun g a j a' j' u u' b hg h1 h2 h3 h4=>h.dis g a j a' j' u u' b hg (jL (hb g hg) h1) (jL (hb g hg) h2) h3 h4⟩
theorem a_.CJ {P:Program} {w:World} {R:HX->Value->Prop} {e:TypeId} {es:List (List HX)} {v:Value} (h:a_ P w R e es v) {a j:Nat} {r:List HX} {e':TypeId} {nX:List (List PV)} (ha:es[a]?=some r) (hj:r[j]?=some (.row e' nX)):
  ∃g u,cW v=some g/\gd w es g a j u/\R (.row e' nX) u:=by
 obtain⟨i,xs,h1,h2,h3,h4,h5,h6⟩:=h
 obtain⟨u,hu,hr⟩:=h6 a r j _ ha hj
 have wV:=h4 r (List.mem_of_getElem? ha)
 rcases h3.2 with⟨hn,hz⟩ | ⟨g,cap,cur,hv,hg,Cz,k1,k2,k3,k4⟩
 ·have:=(List.getElem?_eq_some_iff.1 ha).1
  omega
 refine⟨g,u,by rw[hv];rfl,⟨r,e',nX,_,_,_,ha,hj,Cz,?_⟩,hr⟩
 rw[wV]
 rw[<-k4,List.getElem?_take] at hu
 split at hu
 ·simpa using hu
 cases hu
theorem fa.dQ {S S':Nat->Prop} {w w':World} {P:Program} {L L':Nat->Prop} {rho rho':Nat->Value} {h h':Nat->AB} (T:kp S S' w w' L L' rho rho' h h') {id:Nat} {x:AB}
  (hb:x.live->∀g,hasB w x (rho id) g->w'.heap[g]?=w.heap[g]?) (hr:x.there->rho' id=rho id) (hx:fa S w P L rho h id x):fa S' w' P L' rho' h' id x:=by
 cases x with
 | none=>trivial
 | row e es=>
  show a_ P w' (bu S' w') e es (rho' id)
  rw[hr trivial]
  exact a_.dQ hx (fun g hg=>hb trivial g (.inl hg)) (fun x u hu=>hu.mono T.hS T.keep)
 | hM es=>
  show bu S' w' (.sl es) (rho' id)
  rw[hr trivial]
  exact bu.mono hx T.hS T.keep
 | box cs=>
  obtain⟨g,ty,c,h1,h2,h3,h4⟩:=hx
  refine⟨g,ty,c,by rw[hr trivial];exact h1,by rw[hb trivial g (.inl (by rw[h1];rfl))];exact h2,h3,fun j x u hj hu=>?_⟩
  obtain⟨h5,h6⟩:=h4 j x u hj hu
  exact⟨h5,h6.dQ T⟩
 | gJ ty cs=>
  obtain⟨g,c,h1,h2,h3,h4⟩:=hx
  refine⟨g,c,by rw[hr trivial];exact h1,by rw[hb trivial g (.inl (by rw[h1];rfl))];exact h2,h3,fun j x u hj hu=>?_⟩
  obtain⟨h5,h6⟩:=h4 j x u hj hu
  exact⟨h5,h6.dQ T⟩
 | jK cs=>
  show bu S' w' (.ip cs) (rho' id)
  rw[hr trivial]
  exact bu.mono hx T.hS T.keep
 | map mk es=>
  obtain⟨g,ms,clock,h1,h2,h3,h4⟩:=hx
  refine⟨g,ms,clock,by rw[hr trivial];exact h1,by rw[hb trivial g (.inl (by rw[h1];rfl))];exact h2,h3,fun i p m hi hm=>?_⟩
  obtain⟨h5,h6,h7⟩:=h4 i p m hi hm
  exact⟨h5,h6,h7.mono T.hS T.keep⟩
 | bC cs=>
  obtain⟨g,ty,c,h1,hB⟩:=hx
  have hg:cW (rho id)=some g:=by rw[h1];rfl
  refine⟨g,ty,c,by rw[hr trivial];exact h1,⟨by rw[hb trivial g (.inl hg)];exact hB.hp,hB.sz,fun j x u hj hu=>?_,hB.top,hB.dis⟩⟩
  obtain⟨h5,h6⟩:=hB.cell j x u hj hu
  refine⟨h5,?_⟩
  cases x with
  | p x=>exact bu.mono h6 T.hS T.keep
  | row e es=>exact a_.dQ h6 (fun k hk=>hb trivial k (.inr (.inl ⟨cs,g,rfl,hg,c,ty,_,j,_,u,hB.hp,hj,trivial,hu,hk⟩))) (fun x u hu=>hu.mono T.hS T.keep)
 | a7 e es=>
  obtain⟨hR,hS⟩:=hx
  have hg:∀g,cW (rho id)=some g->w'.heap[g]?=w.heap[g]?:=fun g hg=>hb trivial g (.inl hg)
  refine⟨?_,by rw[hr trivial];exact hS.dQ hg⟩
  rw[hr trivial]
  obtain⟨i,xs,h1,h2,h3,h4,h5,h6⟩:=hR
  refine⟨i,xs,h1,h2,oH h3 hg,h4,h5,fun a r j x ha hj=>?_⟩
  obtain⟨u,hu,yH⟩:=h6 a r j x ha hj
  refine⟨u,hu,?_⟩
  cases x with
  | av x=>exact bK.dQ T yH
  | row e' nX=>
   refine a_.dQ yH (fun k hk=>hb trivial k (.inr (.inr ?_))) (fun x u hu=>hu.mono T.hS T.keep)
   have wV:=h4 r (List.mem_of_getElem? ha)
   rcases h3.2 with⟨hn,hz⟩ | ⟨g,cap,cur,hv,hg,Cz,k1,k2,k3,k4⟩
   ·have:=(List.getElem?_eq_some_iff.1 ha).1
    omega
   refine⟨e,es,g,a,j,u,rfl,by rw[hv];rfl,⟨r,e',nX,_,_,_,ha,hj,Cz,?_⟩,hk⟩
   rw[wV]
   rw[<-k4,List.getElem?_take] at hu
   split at hu
   ·simpa using hu
   cases hu
theorem Fr.next {mv:Nat->Prop} {w0 w w':World} (h:Fr mv w0 w) (ho:w'.os=w.os) (ht:w'.tape=w.tape) (hu:w'.output=w.output) (hs:w.heap.size<=w'.heap.size) (hb:∀k,k < w0.heap.size->¬mv k->w'.heap[k]?=w.heap[k]?):Fr mv w0 w':=
 ⟨ho.trans h.os,ht.trans h.tape,hu.trans h.output,Nat.le_trans h.size hs,fun k hk hn=>(hb k hk hn).trans (h.block k hk hn)⟩
def en (t:Nat->AV) (d:Option Tmp) (v:AV):Nat->AV:=match d with
 | some d=>bI t d v
 | none=>t
def tL (V:Nat->Prop) (d:Option Tmp) (j:Nat):Prop:=V j\/d=some j
theorem CL (a:Act) (d:Tmp) (v:Value) (j:Nat) (hd:d < a.tmps.size):(a.put (some d) v).tmps.getD j undef=if j=d then v else a.tmps.getD j undef:=by
 simp only[Act.put,Array.getD_eq_getD_getElem?,Array.getElem?_setIfInBounds]
 by_cases h:d=j
 ·subst h;simp[hd]
 have:¬j=d:=fun e=>h e.symm
 simp[h,this]
theorem G5 {A:dc} {V L L' S S':Nat->Prop} {rho rho':Nat->Value} {s:AS} {a:Act} {w w':World} {h':Nat->AB} (sim:cm A V L S rho s a w) (T:kp S S' w w' L L' rho rho' s.h h') (dst:Option Tmp) (hd:∀d,dst=some d->d < A.n) (x:AV) (v:Value)
  (hv:bK S' w' A.C.P L' rho' h' x v):∀j,tL V dst j->bK S' w' A.C.P L' rho' h' (en s.t dst x j) ((a.put dst v).tmps.getD j undef):=by
 intro j hj
 cases dst with
 | none=>
  rcases hj with hj | hj
  ·exact (sim.tm j hj).dQ T
  cases hj
 | some d=>
  rw[CL a d v j (by rw[sim.sz];exact hd d rfl)]
  by_cases e:j=d
  ·subst e
   simp only[en,bc,if_true]
   exact hv
  simp only[en,bQ _ _ e,if_neg e]
  rcases hj with hj | hj
  ·exact (sim.tm j hj).dQ T
  injection hj with hj
  exact absurd hj.symm e
theorem CM (a:Act) (dst:Option Tmp) (v:Value):(a.put dst v).tmps.size=a.tmps.size:=by cases dst <;> simp[Act.put]
theorem wW (a:Act) (dst:Option Tmp) (v:Value):(a.put dst v).defers=a.defers:=by cases dst <;> rfl
theorem cm.value {A:dc} {V L S:Nat->Prop} {rho:Nat->Value} {s:AS} {a:Act} {w:World} (sim:cm A V L S rho s a w) (dst:Option Tmp) (hd:∀d,dst=some d->d < A.n) (x:AV) (v:Value) (hv:bK S w A.C.P L rho s.h x v):
  cm A (tL V dst) L S rho ⟨en s.t dst x,s.h⟩ (a.put dst v) w:=
 {tm:=G5 sim ⟨fun _ h=>h,fun _ _=>rfl,fun _ h=>⟨h,fun hl=>⟨hl,rfl⟩⟩,fun _ _ h=>h⟩ dst hd x v hv
  sz:=(CM a dst v).trans sim.sz
  df:=(wW a dst v).trans sim.df
  nb:=sim.nb,pn:=sim.pn
  ev:=sim.ev,s0:=sim.s0,st:=sim.st,sb:=sim.sb,hp:=sim.hp,dj:=sim.dj,lv:=sim.lv,fr:=sim.fr }
end Go.AM
namespace Go.AM
open Go.RowKit
theorem dR {P:Program} {o:Oper} {a:Act} {w w':World} {v:Value} {next:Act->World->Prop} {Q:Exit->Act->World->Prop} (h:(execOp a.eval o).run P w=.ok (.value v) w') (hn:next (a.put o.dst v) w'):o.wp P a w next Q:=by
 unfold Oper.wp
 rw[h]
 exact hn
theorem l6 {P:Program} {o:Oper} {a:Act} {w w':World} {next:Act->World->Prop} {Q:Exit->Act->World->Prop} (h:(execOp a.eval o).run P w=.ok .skip w') (hn:next (a.put o.dst undef) w'):o.wp P a w next Q:=by
 unfold Oper.wp
 rw[h]
 exact hn
theorem l7 (S:Nat->Prop) (w:World) (v:Value):bu S w (nT v) v:=by
 unfold nT
 split
 ·exact .nil _ _
 exact .im _
theorem EW (b:Bool) (S:Nat->Prop) (w:World) (v:Value):bu S w (LA b v) v:=by
 cases b
 ·exact l7 S w v
 exact .im v
theorem Az {S:Nat->Prop} {w:World} {P:Program} {L:Nat->Prop} {rho:Nat->Value} {h:Nat->AB} {x:PV} {v:Value} (hx:bu S w x v):bK S w P L rho h (IX x) v:=by
 unfold IX
 split
 ·cases hx;exact .nl
 exact .p _ _ hx
theorem rQ (S:Nat->Prop) (w:World) (P:Program) (L:Nat->Prop) (rho:Nat->Value) (h:Nat->AB) (v:Value):bK S w P L rho h (Bw v) v:=by
 unfold Bw
 split
 ·exact .nl
 exact .p _ _ (.im _)
theorem By (S:Nat->Prop) (w:World) (P:Program) (L:Nat->Prop) (rho:Nat->Value) (h:Nat->AB) (v:Value):bK S w P L rho h (vc v) v:=by
 unfold vc
 split
 ·exact .nl
 ·rename_i cs
  split
  ·rename_i eo
   refine .p _ _ (.ag _ _ (by simp) (fun u hu=>?_) fun i c v hc hv=>?_)
   ·rw[List.all_eq_true] at eo
    exact eo u hu
   rw[List.getElem?_map] at hc
   have yI:cs.toList[i]?=some v:=by simpa using hv
   rw[yI] at hc
   simp at hc
   rw[<-hc]
   exact l7 S w v
  exact .junk _
 exact .p _ _ (.im _)
theorem bL {A:dc} {V L S:Nat->Prop} {rho:Nat->Value} {s:AS} {a:Act} {w:World} (sim:cm A V L S rho s a w) (x:Operand) (hx:∀j,x=.tmp j->V j):bK S w A.C.P L rho s.h (ev s.t x) (a.eval x):=by
 cases x with
 | tmp j=>exact sim.tm j (hx j rfl)
 | const v=>exact By _ _ _ _ _ _ v
 | global g=>exact .p _ _ (.im _)
 | func f=>exact .p _ _ (.im _)
theorem bK.fq {S:Nat->Prop} {w:World} {P:Program} {L:Nat->Prop} {rho:Nat->Value} {h:Nat->AB} {x:PV} {v:Value} (hx:bK S w P L rho h (.p x) v):bu S w x v:=by cases hx;assumption
theorem bu.b_ {S:Nat->Prop} {w:World} {x v:Value} (hx:bu S w (.im x) v):v=x:=by cases hx;rfl
theorem bK.b_ {S:Nat->Prop} {w:World} {P:Program} {L:Nat->Prop} {rho:Nat->Value} {h:Nat->AB} {x v:Value} (hx:bK S w P L rho h (.p (.im x)) v):v=x:=hx.fq.b_
theorem bu.nY {S:Nat->Prop} {w:World} {cs:List PV} {v:Value} (hx:bu S w (.ag cs) v):∃vs:Array Value,v=.agg vs/\cs.length=vs.size/\(∀u∈vs.toList,u.oneCell'=true)/\(∀(i:Nat) c u,cs[i]?=some c->vs[i]?=some u->bu S w c u):=by
 cases hx
 exact⟨_,rfl,by assumption,by assumption,by assumption⟩
theorem bu.rR {S:Nat->Prop} {w:World} {cs:List PV} {v:Value} (hx:bu S w (.ip cs) v):∃b off,∃U:Nat->Value,v=.pointer (some ⟨b,off,none⟩)/\S b/\(∀(j:Nat) x,cs[j]?=some x->w.cell? ⟨b,off+j,none⟩=some (U j)/\(U j).oneCell'=true)/\(∀(j:Nat) x,cs[j]?=some x->bu S w x (U j)):=by
 cases hx
 exact⟨_,_,_,rfl,by assumption,by assumption,by assumption⟩
theorem bu.kR {S:Nat->Prop} {w:World} {es:List (List PV)} {v:Value} (hx:bu S w (.sl es) v):∃a c,v=.slice a es.length c/\es.length<=c/\(es≠[]->∃b off k,a=some ⟨b,off,none⟩/\S b/\(∀e∈es,e.length=k)/\
  ∀(i:Nat) e (j:Nat) x,es[i]?=some e->e[j]?=some x->∃u,w.cell? ⟨b,off+i*k+j,none⟩=some u/\u.oneCell'=true/\bu S w x u):=by
 cases hx with
 | nil a c=>exact⟨a,c,rfl,by simp,fun h=>absurd rfl h⟩
 | sl _ k b off c U hc hS hk hcell h=>exact⟨_,c,rfl,hc,fun _=>⟨b,off,k,rfl,hS,hk,fun i e j x h1 h2=>⟨U i j,(hcell i e j x h1 h2).1,(hcell i e j x h1 h2).2,h i e j x h1 h2⟩⟩⟩
def wX (L:Nat->Prop) (new:Option AB) (d:Nat):Nat->Prop:=match new with
 | none=>L
 | some _=>fun i=>L i\/i=d
def gx (A:dc) (o:Oper):Prop:=
 ∀(V L S:Nat->Prop) (rho:Nat->Value) (s:AS) (a:Act) (w:World) (K:KK) (next:Act->World->Prop) (Q:Exit->Act->World->Prop),ct A.C->cm A V L S rho s a w->(∀j,Operand.tmp j∈o.op.operands->V j)->(∀d,o.dst=some d->d < A.n)->
  bY A.C o (ev s.t) s.h K->(∀v eff b,K v eff (some b)->¬L (o.dst.getD 0)/\s.h (o.dst.getD 0)=b)->
  (∀v eff new S' rho' a' w',K v eff new->cm A (tL V o.dst) (wX L new (o.dst.getD 0)) S' rho' ⟨en s.t o.dst v,app s.h eff⟩ a' w'->next a' w')->o.wp A.C.P a w next Q
theorem ba {A:dc} {o:Oper} {V L S:Nat->Prop} {rho:Nat->Value} {s:AS} {a:Act} {w:World} {K:KK} {next:Act->World->Prop} {Q:Exit->Act->World->Prop} (sim:cm A V L S rho s a w) (hd:∀d,o.dst=some d->d < A.n)
  (hnext:∀v eff new S' rho' a' w',K v eff new->cm A (tL V o.dst) (wX L new (o.dst.getD 0)) S' rho' ⟨en s.t o.dst v,app s.h eff⟩ a' w'->next a' w') {x:AV} {v:Value} (hq:K x [] none) (hv:bK S w A.C.P L rho s.h x v)
  (hr:(execOp a.eval o).run A.C.P w=.ok (.value v) w):o.wp A.C.P a w next Q:=
 dR hr (hnext _ _ _ _ _ _ _ hq (sim.value o.dst hd x v hv))
theorem EX {A:dc} {o:Oper} (x:Operand) (aZ:o.op=.move x):gx A o:=by
 intro V L S rho s a w K next Q hC sim hV hd hq _ hnext
 simp only[bY,aZ] at hq
 exact ba sim hd hnext hq (bL sim x fun j hj=>hV j (by simp[aZ,Op.operands,hj])) (by simp[execOp,aZ])
theorem Bz {A:dc} {o:Oper} (x:Operand) (aZ:o.op=.assign x):gx A o:=by
 intro V L S rho s a w K next Q hC sim hV hd hq _ hnext
 simp only[bY,aZ] at hq
 exact ba sim hd hnext hq (bL sim x fun j hj=>hV j (by simp[aZ,Op.operands,hj])) (by simp[execOp,aZ])
theorem EY {A:dc} {o:Oper} (c x y:Operand) (aZ:o.op=.pick c x y):gx A o:=by
 intro V L S rho s a w K next Q hC sim hV hd hq _ hnext
 simp only[bY,aZ] at hq
 have hc:=bL sim c fun j hj=>hV j (by simp[aZ,Op.operands,hj])
 have hx:=bL sim x fun j hj=>hV j (by simp[aZ,Op.operands,hj])
 have hy:=bL sim y fun j hj=>hV j (by simp[aZ,Op.operands,hj])
 split at hq
 ·rename_i t ht
  rw[ht] at hc
  split at hq
  ·exact ba sim hd hnext hq hx (by simp[execOp,aZ,hc.b_,asBool])
  exact ba sim hd hnext hq hy (by simp[execOp,aZ,hc.b_,asBool])
 exact hq.elim
theorem bK.G6 {S:Nat->Prop} {w:World} {P:Program} {L:Nat->Prop} {rho:Nat->Value} {h:Nat->AB} {xs:List AV} {v:Value} (hx:bK S w P L rho h (.st xs) v):∃vs:Array Value,v=.agg vs/\xs.length=vs.size/\(∀u∈vs.toList,u.oneCell'=true)/\∀(i:Nat) c u,xs[i]?=some c->vs[i]?=some u->bK S w P L rho h c u:=by
 cases hx
 exact⟨_,rfl,by assumption,by assumption,by assumption⟩
theorem bK.G7 {S:Nat->Prop} {w:World} {P:Program} {L:Nat->Prop} {rho:Nat->Value} {h:Nat->AB} {xs:List AV} {v:Value} (hx:bK S w P L rho h (.tu xs) v):∃vs:Array Value,v=.tuple vs/\xs.length=vs.size/\∀(i:Nat) c u,xs[i]?=some c->vs[i]?=some u->bK S w P L rho h c u:=by
 cases hx
 exact⟨_,rfl,by assumption,by assumption⟩
theorem hY {α:Type} {vs:Array α} {n i:Nat} (hl:n=vs.size) (hi:i < n):∃v,vs[i]?=some v:=⟨vs[i]'(by omega),Array.getElem?_eq_getElem _⟩
theorem aW {α:Type} {l:List α} {i:Nat} {x:α} (h:l[i]?=some x):i < l.length:=(List.getElem?_eq_some_iff.1 h).1
theorem yJ {A:dc} {o:Oper} (x:Operand) (i:Nat) (aZ:o.op=.extract x i):gx A o:=by
 intro V L S rho s a w K next Q hC sim hV hd hq _ hnext
 simp only[bY,aZ] at hq
 have hx:=bL sim x fun j hj=>hV j (by simp[aZ,Op.operands,hj])
 split at hq
 ·rename_i xs qp
  rw[qp] at hx
  split at hq
  ·rename_i y hy
   obtain⟨vs,NW,hl,hc⟩:=hx.G7
   obtain⟨v,hv⟩:=hY hl (aW hy)
   refine ba sim hd hnext hq (hc i y v hy hv) ?_
   simp[execOp,aZ,NW,Instr.extract,hv]
  exact hq.elim
 exact hq.elim
theorem AA {a b:IntKind} (h:kB a b=true):a=b:=by cases a <;> cases b <;> first | rfl | cases h
theorem EZ {k:IntKind} (h:Je k=true):k=.i64:=by cases k <;> first | rfl | cases h
theorem kq {k:IntKind} {n:Int} {K:Value->Prop} (h:pE k n K):K (.int k (k.wrap n)):=by
 unfold pE at h
 split at h
 ·rename_i NX
  obtain rfl:=EZ NX
  obtain⟨⟨h1,h2⟩,h3⟩:=h
  rw[IntWalk.i64_in n ⟨h1,h2⟩]
  exact h3
 exact h
theorem vf (a b:ByteArray):(a.toList == b.toList)=decide (a=b):=by
 rw[Bool.eq_iff_iff]
 simp only[beq_iff_eq,decide_eq_true_eq,Go.ByteArray.toList_eq]
 constructor
 ·intro h
  exact ByteArray.ext (Array.ext' h)
 rintro rfl;rfl
theorem AD (a b:ByteArray):Op.bytesLess a.toList b.toList=Op.bytesLess a.data.toList b.data.toList:=by rw[Go.ByteArray.toList_eq,Go.ByteArray.toList_eq]
theorem rS (a b:Int):(a == b)=decide (a=b):=by rw[Bool.eq_iff_iff];simp
theorem yK (a b:Int):(a != b)=!decide (a=b):=by rw[bne,rS]
theorem E0 {a b:Nat} (h:tJ a b=true):a=b:=Nat.eq_of_beq_eq_true h
theorem run_equalIn_slice_nil {P:Program} (w:World) (d:Nat) (t e:TypeId) (a:Option Addr) (l c:Nat) (h:P.underlying t=some (.slice e)):(Op.equalIn (d+1) t (.slice a l c) (.slice none 0 0)).run P w=.ok a.isNone w:=by
 cases a <;> simp[Op.equalIn,run_underlying h]
theorem eO {P:Program} (w:World) (t e:TypeId) (a:Option Addr) (l c:Nat) (h:P.underlying t=some (.slice e)):(Op.equal t (.slice a l c) (.slice none 0 0)).run P w=.ok a.isNone w:=run_equalIn_slice_nil w 9999 t e a l c h
theorem CN {A:dc} {o:Oper} (op:BinOp) (t:TypeId) (x y:Operand) (t':TypeId) (aZ:o.op=.binOp op t x y t'):gx A o:=by
 intro V L S rho s a w K next Q hC sim hV hd hq _ hnext
 simp only[bY,aZ] at hq
 have hx:=bL sim x fun j hj=>hV j (by simp[aZ,Op.operands,hj])
 have hy:=bL sim y fun j hj=>hV j (by simp[aZ,Op.operands,hj])
 split at hq
 ·rename_i u v hu hv
  rw[hu] at hx;rw[hv] at hy
  replace hx:=hx.fq
  replace hy:=hy.fq
  unfold nV at hq
  split at hq
  ·rename_i k m k' n
   have e1:=hx.b_
   have e2:=hy.b_
   split at hq
   ·rename_i hs
    have LG:op=.shr:=by cases op <;> first | rfl | cases hs
    subst LG
    obtain⟨⟨h0,h1⟩,hq⟩:=hq
    refine ba sim hd hnext hq (.p _ _ (.im _)) ?_
    have LH:¬n < 0:=by omega
    simp[execOp,aZ,e1,e2,eqGuard,binOp,Op.shift,LH]
   split at hq
   ·exact hq.elim
   rename_i hk
   obtain rfl:=AA hk
   split at hq
   ·exact ba sim hd hnext (kq hq) (.p _ _ (.im _)) (by simp[execOp,aZ,e1,e2,eqGuard,binOp,Op.intArith])
   ·exact ba sim hd hnext (kq hq) (.p _ _ (.im _)) (by simp[execOp,aZ,e1,e2,eqGuard,binOp,Op.intArith])
   ·exact ba sim hd hnext (kq hq) (.p _ _ (.im _)) (by simp[execOp,aZ,e1,e2,eqGuard,binOp,Op.intArith])
   ·exact ba sim hd hnext (kq hq.2) (.p _ _ (.im _)) (by simp[execOp,aZ,e1,e2,eqGuard,binOp,Op.intDiv,hq.1])
   ·exact ba sim hd hnext hq.2 (.p _ _ (.im _)) (by simp[execOp,aZ,e1,e2,eqGuard,binOp,Op.intDiv,hq.1])
   ·exact ba sim hd hnext hq (.p _ _ (.im _)) (by simp[execOp,aZ,e1,e2,eqGuard,binOp,Op.intCmp,rS])
   ·exact ba sim hd hnext hq (.p _ _ (.im _)) (by simp[execOp,aZ,e1,e2,eqGuard,binOp,Op.intCmp,yK])
   ·exact ba sim hd hnext hq (.p _ _ (.im _)) (by simp[execOp,aZ,e1,e2,eqGuard,binOp,Op.intCmp])
   ·exact ba sim hd hnext hq (.p _ _ (.im _)) (by simp[execOp,aZ,e1,e2,eqGuard,binOp,Op.intCmp])
   ·exact ba sim hd hnext hq (.p _ _ (.im _)) (by simp[execOp,aZ,e1,e2,eqGuard,binOp,Op.intCmp])
   ·exact ba sim hd hnext hq (.p _ _ (.im _)) (by simp[execOp,aZ,e1,e2,eqGuard,binOp,Op.intCmp])
   exact hq.elim
  ·rename_i m n
   have e1:=hx.b_
   have e2:=hy.b_
   split at hq
   ·exact ba sim hd hnext hq.2 (.p _ _ (.im _)) (by
     have:=hq.1
     simp[execOp,aZ,e1,e2,eqGuard,binOp,run_string_add_sum w m n this])
   ·exact ba sim hd hnext hq (.p _ _ (.im _)) (by simp[execOp,aZ,e1,e2,eqGuard,binOp,Op.stringOp,vf])
   ·exact ba sim hd hnext hq (.p _ _ (.im _)) (by simp[execOp,aZ,e1,e2,eqGuard,binOp,Op.stringOp,vf])
   ·exact ba sim hd hnext hq (.p _ _ (.im _)) (by simp[execOp,aZ,e1,e2,eqGuard,binOp,Op.stringOp,AD])
   ·exact ba sim hd hnext hq (.p _ _ (.im _)) (by simp[execOp,aZ,e1,e2,eqGuard,binOp,Op.stringOp,vf,AD])
   ·exact ba sim hd hnext hq (.p _ _ (.im _)) (by simp[execOp,aZ,e1,e2,eqGuard,binOp,Op.stringOp,vf,AD])
   ·exact ba sim hd hnext hq (.p _ _ (.im _)) (by simp[execOp,aZ,e1,e2,eqGuard,binOp,Op.stringOp,AD])
   exact hq.elim
  ·rename_i m n
   have e1:=hx.b_
   have e2:=hy.b_
   split at hq
   ·rename_i size bytes zero hT
    have hb:A.C.P.underlying t=some .bool:=by
     obtain⟨_,_,_,_,_,_,_,_,_,h⟩:=hC.gw t _ hT
     exact h.2 rfl
    have hrun:=fun w=>run_equal_bool (P:=A.C.P) (w:=w) t m n hb
    split at hq
    ·exact ba sim hd hnext hq (.p _ _ (.im _)) (by simp[execOp,aZ,e1,e2,eqGuard,binOp,hrun];cases m <;> cases n <;> rfl)
    ·exact ba sim hd hnext hq (.p _ _ (.im _)) (by simp[execOp,aZ,e1,e2,eqGuard,binOp,hrun];cases m <;> cases n <;> rfl)
    exact hq.elim
   exact hq.elim
  ·rename_i m n
   obtain⟨xs,e1,G8,_,LI⟩:=hx.nY
   obtain⟨ys,e2,uC,_,NY⟩:=hy.nY
   have im:∀(z:List Value) (m:List PV) (n:List PV) r,bV z m n=some r->(∀x∈m,∃v,x=.im v)/\(∀x∈n,∃v,x=.im v):=by
    intro z
    induction z with
    | nil=>
     intro m n r h
     cases m <;> cases n <;> first
      | (simp[bV] at h;done)
      | exact⟨by simp,by simp⟩
    | cons c z ih=>
     intro m n r h
     unfold bV at h
     split at h
     ·rename_i h1;cases h1
     all_goals first
      | (
        rename_i h1
        injection h1 with h1 oI
        subst oI
        split at h
        ·obtain⟨r',G9,_⟩:=Option.map_eq_some_iff.1 h
         obtain⟨i1,i2⟩:=ih _ _ _ G9
         exact⟨by simpa using i1,by simpa using i2⟩
        cases h)
      | (
        rename_i h1
        injection h1 with h1 oI
        subst oI
        obtain⟨r',G9,_⟩:=Option.map_eq_some_iff.1 h
        obtain⟨i1,i2⟩:=ih _ _ _ G9
        exact⟨by simpa using i1,by simpa using i2⟩)
      | cases h
   have key:∀z r,bV z m n=some r->(∀(i:Nat) x v,m[i]?=some x->xs[i]?=some v->x=.im v)/\(∀(i:Nat) x v,n[i]?=some x->ys[i]?=some v->x=.im v):=by
    intro z r hr
    obtain⟨i1,i2⟩:=im z m n r hr
    refine⟨fun i x v h1 h2=>?_,fun i x v h1 h2=>?_⟩
    ·obtain⟨u,rfl⟩:=i1 x (List.mem_of_getElem? h1)
     rw[(LI i _ v h1 h2).b_]
    obtain⟨u,rfl⟩:=i2 x (List.mem_of_getElem? h1)
    rw[(NY i _ v h1 h2).b_]
   split at hq
   ·rename_i fs size bytes zero hT
    split at hq
    ·exact hq.elim
    rename_i hsz
    have hsz:=E0 hsz
    split at hq
    ·split at hq
     ·rename_i r hr
      obtain⟨k1,k2⟩:=key _ r hr
      have hrun:=hC.eqs t _ .eql m n r hT rfl ⟨_,rfl⟩ hr xs ys w k1 k2 G8 uC hsz (.inl rfl) x y
      exact ba sim hd hnext hq (.p _ _ (.im _)) (by
       simp only[execOp,aZ,e1,e2]
       rw[Sem.run_bind,hrun]
       simp)
     exact hq.elim
    ·split at hq
     ·rename_i r hr
      obtain⟨k1,k2⟩:=key _ r hr
      have hrun:=hC.eqs t _ .neq m n r hT rfl ⟨_,rfl⟩ hr xs ys w k1 k2 G8 uC hsz (.inr rfl) x y
      exact ba sim hd hnext hq (.p _ _ (.im _)) (by
       simp only[execOp,aZ,e1,e2]
       rw[Sem.run_bind,hrun]
       simp)
     exact hq.elim
    exact hq.elim
   exact hq.elim
  exact hq.elim
 ·rename_i u hu hv
  rw[hu] at hx;rw[hv] at hy
  replace hx:=hx.fq
  have lT:a.eval y=.slice none 0 0:=by generalize a.eval y=v at hy;cases hy;rfl
  unfold Bx at hq
  split at hq
  case h_2=>exact hq.elim
  rename_i es
  split at hq
  case h_1=>exact hq.elim
  rename_i AE
  split at hq
  case h_2=>exact hq.elim
  rename_i e size bytes zero eq hT
  have eW:A.C.P.underlying t=some (.slice e):=by
   obtain⟨_,_,_,_,_,_,_,_,_,h⟩:=hC.gw t _ hT
   exact h
  obtain⟨ad,c,hv,_,dh⟩:=hx.kR
  obtain⟨b,off,k,rfl,_⟩:=dh (fun e=>by rw[e] at AE;cases AE)
  split at hq
  ·exact ba sim hd hnext hq (.p _ _ (.im _)) (by simp[execOp,aZ,hv,lT,eqGuard,binOp,eO _ _ _ _ _ _ eW])
  ·exact ba sim hd hnext hq (.p _ _ (.im _)) (by simp[execOp,aZ,hv,lT,eqGuard,binOp,eO _ _ _ _ _ _ eW])
  exact hq.elim
 exact hq.elim
theorem E1 {A:dc} {o:Oper} (op:UnOp) (t:TypeId) (x:Operand) (aZ:o.op=.unOp op t x):gx A o:=by
 intro V L S rho s a w K next Q hC sim hV hd hq _ hnext
 simp only[bY,aZ] at hq
 have hx:=bL sim x fun j hj=>hV j (by simp[aZ,Op.operands,hj])
 split at hq
 ·rename_i b hb
  rw[hb] at hx
  exact ba sim hd hnext hq (.p _ _ (.im _)) (by simp[execOp,aZ,hx.b_,Op.unary])
 ·rename_i k n hb
  rw[hb] at hx
  exact ba sim hd hnext (kq hq) (.p _ _ (.im _)) (by simp[execOp,aZ,hx.b_,Op.unary,Op.intArith])
 exact hq.elim
theorem ko.sizeOf {P:Program} {t:TypeId} {ti:TI} (h:ko P t ti) (w:World):(sizeOf t).run P w=.ok ti.size w:=by
 obtain⟨info,z,h1,h2,_⟩:=h
 simp[Go.sizeOf,typeInfo,h1,h2]
theorem ko.isAgg {P:Program} {t:TypeId} {ti:TI} (h:ko P t ti) (w:World):(isAgg t).run P w=.ok ti.ud.agg w:=by
 obtain⟨info,z,_,_,_,_,_,_,_,h⟩:=h
 unfold Go.isAgg
 cases hu:ti.ud with
 | sc=>
  rw[hu] at h
  obtain⟨⟨d,hd,hn⟩,_⟩:=h
  rw[Sem.run_bind,run_underlying hd]
  cases d <;> first | rfl | exact hn.elim
 | int k=>rw[hu] at h;rw[Sem.run_bind,run_underlying h];rfl
 | st fs=>rw[hu] at h;obtain⟨gs,hg,_⟩:=h;rw[Sem.run_bind,run_underlying hg];rfl
 | sl e=>rw[hu] at h;rw[Sem.run_bind,run_underlying h];rfl
 | str=>rw[hu] at h;rw[Sem.run_bind,run_underlying h];rfl
 | mp k e=>rw[hu] at h;rw[Sem.run_bind,run_underlying h];rfl
theorem iT {P:Program} {w:World} {t:TypeId} {ti:TI} (h:ko P t ti) (ha:ti.ud.agg=true) (b off:Nat) (vs:List Value) (hl:vs.length=ti.size) (hc:∀(j:Nat) v,vs[j]?=some v->w.cell? ⟨b,off+j,none⟩=some v):
  (Instr.loadAt t (.pointer (some ⟨b,off,none⟩))).run P w=.ok (.agg vs.toArray) w:=by
 have:=run_loadCells_list (P:=P) w ⟨b,off,none⟩ vs (fun j v hj=>by rw[Addr.add_lit];exact hc j v hj)
 rw[hl] at this
 simp[Instr.loadAt,Instr.sureAddr,loadVar,h.isAgg,ha,h.sizeOf,this]
theorem iA {P:Program} {w:World} {t:TypeId} {ti:TI} (h:ko P t ti) (ha:ti.ud.agg=false) (b off:Nat) (v:Value) (hc:w.cell? ⟨b,off,none⟩=some v):
  (Instr.loadAt t (.pointer (some ⟨b,off,none⟩))).run P w=.ok v w:=by
 simp[Instr.loadAt,Instr.sureAddr,loadVar,h.isAgg,ha,load,Sem.run,hc]
theorem AG {S:Nat->Prop} {w:World} (cs:List PV) (V:Nat->Value) (h:∀(j:Nat) x,cs[j]?=some x->(V j).oneCell'=true/\bu S w x (V j)):bu S w (.ag cs) (.agg ((List.range cs.length).map V).toArray):=by
 refine .ag _ _ (by simp) (fun u hu=>?_) fun i c v hc hv=>?_
 ·simp at hu
  obtain⟨j,hj,rfl⟩:=hu
  exact (h j _ (List.getElem?_eq_getElem hj)).1
 have hi:=aW hc
 simp[hi] at hv
 rw[<-hv]
 exact (h i c hc).2
theorem il {α:Type} {l:List α} {off n j:Nat} {x:α} (h:((l.drop off).take n)[j]?=some x):l[off+j]?=some x:=by
 rw[List.getElem?_take] at h
 split at h
 ·rwa [List.getElem?_drop] at h
 cases h
theorem iq {α:Type} {l:List α} {off n:Nat} (h:off+n<=l.length):((l.drop off).take n).length=n:=by simp;omega
theorem fh {α:Type} {l:List α} {off:Nat} {x:α} {r:List α} (h:l.drop off=x::r):l[off]?=some x:=by
 have:(l.drop off)[0]?=some x:=by rw[h];rfl
 rw[List.getElem?_drop] at this
 exact this
theorem iJ {a b:Nat} (h:Au a b=true):a<=b:=Nat.le_of_ble_eq_true h
theorem gy {a b:Nat} (h:tJ a b=true):a=b:=Nat.eq_of_beq_eq_true h
theorem fS:∀{cs:List AV} {xs:List PV},dS cs=some xs->cs.length=xs.length/\∀(j:Nat) c x,cs[j]?=some c->xs[j]?=some x->(c=.p x\/(c=.nl/\x=.sl [])):=by
 intro cs
 induction cs with
 | nil=>intro xs h;simp[dS] at h;subst h;exact⟨rfl,by simp⟩
 | cons c cs ih=>
  intro xs h
  unfold dS at h
  split at h
  ·rename_i h1;cases h1
  ·rename_i x r h1
   injection h1 with h1 h2
   subst h1 h2
   obtain⟨ys,hy,rfl⟩:=Option.map_eq_some_iff.1 h
   obtain⟨h3,h4⟩:=ih hy
   refine⟨by simp[h3],fun j c x' hj hx=>?_⟩
   cases j with
   | zero=>simp at hj hx;subst hj hx;exact .inl rfl
   | succ j=>exact h4 j c x' (by simpa using hj) (by simpa using hx)
  ·rename_i r h1
   injection h1 with h1 h2
   subst h1 h2
   obtain⟨ys,hy,rfl⟩:=Option.map_eq_some_iff.1 h
   obtain⟨h3,h4⟩:=ih hy
   refine⟨by simp[h3],fun j c x' hj hx=>?_⟩
   cases j with
   | zero=>simp at hj hx;subst hj hx;exact .inr ⟨rfl,rfl⟩
   | succ j=>exact h4 j c x' (by simpa using hj) (by simpa using hx)
  cases h
theorem bK.rz {S:Nat->Prop} {w:World} {P:Program} {L:Nat->Prop} {rho:Nat->Value} {h:Nat->AB} {c:AV} {x:PV} {u:Value} (hc:c=.p x\/(c=.nl/\x=.sl [])) (hr:bK S w P L rho h c u):bu S w x u:=by
 rcases hc with rfl | ⟨rfl,rfl⟩
 ·exact hr.fq
 cases hr
 exact .nil _ _
theorem bK.gz {S:Nat->Prop} {w:World} {P:Program} {L:Nat->Prop} {rho:Nat->Value} {h:Nat->AB} {id off:Nat} {v:Value} (hx:bK S w P L rho h (.bx id off) v) (ht:(h id).there):L id/\∃g,rho id=.pointer (some ⟨g,0,none⟩)/\v=.pointer (some ⟨g,off,none⟩):=by
 cases hx
 rename_i hv
 exact hv ht
theorem bK.rT {S:Nat->Prop} {w:World} {P:Program} {L:Nat->Prop} {rho:Nat->Value} {h:Nat->AB} {id i off:Nat} {v:Value} (hx:bK S w P L rho h (.rp id i off) v) {e:TypeId} {es:List (List PV)} (he:h id=.row e es):
  L id/\∃g n c ti,rho id=.slice (some ⟨g,0,none⟩) n c/\P.info? e=some ti/\v=.pointer (some ⟨g,i*ti.size+off,none⟩):=by
 cases hx
 rename_i hv
 exact hv e (by rw[he];rfl)
theorem bK.oJ {S:Nat->Prop} {w:World} {P:Program} {L:Nat->Prop} {rho:Nat->Value} {h:Nat->AB} {id i off:Nat} {v:Value} (hx:bK S w P L rho h (.rp id i off) v) {e:TypeId} {es:List (List HX)} (he:h id=.a7 e es):
  L id/\∃g n c ti,rho id=.slice (some ⟨g,0,none⟩) n c/\P.info? e=some ti/\v=.pointer (some ⟨g,i*ti.size+off,none⟩):=by
 cases hx
 rename_i hv
 exact hv e (by rw[he];rfl)
theorem bK.db {S:Nat->Prop} {w:World} {P:Program} {L:Nat->Prop} {rho:Nat->Value} {h:Nat->AB} {id:Nat} {v:Value} (hx:bK S w P L rho h (.ow id) v) (ht:(h id).there):L id/\v=rho id:=by
 cases hx
 rename_i hv
 exact hv ht
theorem a_.cell {α:Type} {P:Program} {w:World} {R:α->Value->Prop} {e:TypeId} {es:List (List α)} {g n c:Nat} {ti:TypeInfo} (h:a_ P w R e es (.slice (some ⟨g,0,none⟩) n c)) (hi:P.info? e=some ti):
  ∀(a:Nat) r (j:Nat) x,es[a]?=some r->r[j]?=some x->∃u,w.cell? ⟨g,a*ti.size+j,none⟩=some u/\u.oneCell'=true/\R x u:=by
 obtain⟨i,xs,h1,h2,h3,h4,h5,h6⟩:=h
 rw[hi] at h1
 injection h1 with h1
 subst h1
 intro a r j x ha hj
 obtain⟨u,hu,hr⟩:=h6 a r j x ha hj
 have:=h3.cells (g:=g) rfl _ u hu
 rw[Addr.add_lit] at this
 refine⟨u,by simpa using this,h5 u (List.mem_of_getElem? hu),hr⟩
theorem wY {A:dc} {o:Oper} (t:TypeId) (x:Operand) (aZ:o.op=.load t x) {V L S:Nat->Prop} {rho:Nat->Value} {s:AS} {a:Act} {w:World} {K:KK} (hC:ct A.C) (sim:cm A V L S rho s a w) (hV:∀j,x=.tmp j->V j) (hq:bY A.C o (ev s.t) s.h K):
  ∃av v,K av [] none/\bK S w A.C.P L rho s.h av v/\(Instr.loadAt t (a.eval x)).run A.C.P w=.ok v w:=by
 simp only[bY,aZ] at hq
 have hx:=bL sim x hV
 split at hq
 ·exact hq.elim
 rename_i ti hT
 have eW:=hC.gw t ti hT
 split at hq
 ·rename_i cs kS
  rw[kS] at hx
  obtain⟨b,off,U,hv,hb,hcell,hrep⟩:=hx.fq.rR
  split at hq
  ·rename_i qq
   split at hq
   ·rename_i hle
    have hle:=iJ hle
    have hlen:(cs.take ti.size).length=ti.size:=by simp;omega
    refine⟨_,_,hq,.p _ _ (AG _ U fun j x hj=>?_),?_⟩
    ·have G_:cs[j]?=some x:=by rw[List.getElem?_take] at hj;split at hj;exact hj;cases hj
     exact⟨(hcell j x G_).2,hrep j x G_⟩
    have:=iT (w:=w) eW qq b off ((List.range (cs.take ti.size).length).map U) (by simp;omega) (fun j v hj=>by
     have pC:j < (cs.take ti.size).length:=by have:=aW hj;simpa using this
     rw[List.getElem?_map,List.getElem?_range pC] at hj
     simp at hj
     have IZ:j < cs.length:=by rw[hlen] at pC;omega
     rw[(hcell j _ (List.getElem?_eq_getElem IZ)).1,hj])
    rw[hv];exact this
   exact hq.elim
  rename_i qq
  split at hq
  ·rename_i c r
   refine⟨_,_,hq,.p _ _ (hrep 0 c rfl),?_⟩
   have:=iA (w:=w) eW qq b off (U 0) (by simpa using (hcell 0 c rfl).1)
   rw[hv];exact this
  exact hq.elim
 ·rename_i id off kS
  rw[kS] at hx
  split at hq
  ·rename_i cs bC
   obtain⟨hL,g,hg,hv⟩:=hx.gz (by rw[bC];trivial)
   have hh:=sim.hp id hL
   rw[bC] at hh
   obtain⟨g',ty,c,h1,h2,h3,h4⟩:=hh
   rw[hg] at h1
   injection h1 with h1
   injection h1 with h1
   injection h1 with h1
   subst h1
   have hcell:∀j u,c[j]?=some u->w.cell? ⟨g,j,none⟩=some u:=fun j u hu=>by rw[cell_of_row w g j c ty (0,0) h2];exact hu
   split at hq
   ·rename_i qq
    split at hq
    ·rename_i xs hle qp
     have hle:=iJ hle
     obtain⟨hl,tG⟩:=fS qp
     have hlen:xs.length=ti.size:=by rw[<-hl];exact iq hle
     have hU:∀(j:Nat) x,xs[j]?=some x->∃u,c[off+j]?=some u/\u.oneCell'=true/\bu S w x u:=by
      intro j x hj
      obtain⟨y,hy⟩:∃y,((cs.drop off).take ti.size)[j]?=some y:=⟨_,List.getElem?_eq_getElem (by rw[hl];exact aW hj)⟩
      have lT:=il hy
      obtain⟨u,hu⟩:=hY h3.symm (aW lT)
      obtain⟨h5,h6⟩:=h4 _ _ _ lT hu
      exact⟨u,hu,h5,h6.rz (tG j y x hy hj)⟩
     refine⟨_,_,hq,.p _ _ (AG xs (fun j=>(c[off+j]?).getD undef) fun j x hj=>?_),?_⟩
     ·obtain⟨u,h5,h6,h7⟩:=hU j x hj
      rw[h5]
      exact⟨h6,h7⟩
     have:=iT (w:=w) eW qq g off ((List.range xs.length).map (fun j=>(c[off+j]?).getD undef)) (by simpa using hlen) (fun j v hj=>by
      have pC:j < xs.length:=by have:=aW hj;simpa using this
      rw[List.getElem?_map,List.getElem?_range pC] at hj
      obtain⟨u,h5,_⟩:=hU j _ (List.getElem?_eq_getElem pC)
      simp[h5] at hj
      rw[hcell _ _ h5,hj])
     rw[hv];exact this
    exact hq.elim
   rename_i qq
   split at hq
   ·rename_i y r hy
    have lT:=fh hy
    obtain⟨u,hu⟩:=hY h3.symm (aW lT)
    obtain⟨h5,h6⟩:=h4 _ _ _ lT hu
    refine⟨_,_,hq,h6,?_⟩
    have:=iA (w:=w) eW qq g off u (hcell _ _ hu)
    rw[hv];exact this
   exact hq.elim
  ·rename_i cs bC
   obtain⟨hL,g,hg,hv⟩:=hx.gz (by rw[bC];trivial)
   have hh:=sim.hp id hL
   rw[bC] at hh
   obtain⟨b,NZ,U,h1,hb,hcell,hrep⟩:=bu.rR hh
   rw[hg] at h1
   injection h1 with h1
   injection h1 with h1
   injection h1 with h1 h2
   subst h1 h2
   split at hq
   ·rename_i qq
    split at hq
    ·rename_i hle
     have hle:=iJ hle
     have hlen:=iq hle
     refine⟨_,_,hq,.p _ _ (AG _ (fun j=>U (off+j)) fun j x hj=>?_),?_⟩
     ·have G_:=il hj
      exact⟨(hcell _ x G_).2,hrep _ x G_⟩
     have:=iT (w:=w) eW qq g off ((List.range ((cs.drop off).take ti.size).length).map (fun j=>U (off+j))) (by simpa using hlen) (fun j v hj=>by
      have pC:j < ((cs.drop off).take ti.size).length:=by have:=aW hj;simpa using this
      rw[List.getElem?_map,List.getElem?_range pC] at hj
      simp at hj
      have IZ:off+j < cs.length:=by rw[hlen] at pC;omega
      have h5:=(hcell _ _ (List.getElem?_eq_getElem IZ)).1
      rw[Nat.zero_add] at h5
      rw[h5,hj])
     rw[hv];exact this
    exact hq.elim
   rename_i qq
   split at hq
   ·rename_i y r hy
    have lT:=fh hy
    refine⟨_,_,hq,.p _ _ (hrep _ _ lT),?_⟩
    have:=iA (w:=w) eW qq g off (U off) (by simpa using (hcell _ _ lT).1)
    rw[hv];exact this
   exact hq.elim
  exact hq.elim
 ·rename_i id i off kS
  rw[kS] at hx
  split at hq
  ·rename_i e es a7
   obtain⟨hL,g,n,c,tj,hg,uD,hv⟩:=hx.rT a7
   have hh:=sim.hp id hL
   rw[a7] at hh
   have EI:a_ A.C.P w (bu S w) e es (.slice (some ⟨g,0,none⟩) n c):=by rw[<-hg];exact hh
   have hcell:=EI.cell uD
   obtain⟨r,hr,hq⟩:=hq
   split at hq
   ·rename_i qq
    split at hq
    ·rename_i hle
     have hle:=iJ hle
     have hlen:=iq hle
     have hU:∀(j:Nat) x,((r.drop off).take ti.size)[j]?=some x->∃u,w.cell? ⟨g,i*tj.size+off+j,none⟩=some u/\u.oneCell'=true/\bu S w x u:=by
      intro j x hj
      obtain⟨u,h1,h2,h3⟩:=hcell i r _ x hr (il hj)
      exact⟨u,by rw[Nat.add_assoc];exact h1,h2,h3⟩
     refine⟨_,_,hq,.p _ _ (AG _ (fun j=>(w.cell? ⟨g,i*tj.size+off+j,none⟩).getD undef) fun j x hj=>?_),?_⟩
     ·obtain⟨u,h5,h6,h7⟩:=hU j x hj
      rw[h5]
      exact⟨h6,h7⟩
     have:=iT (w:=w) eW qq g (i*tj.size+off) ((List.range ((r.drop off).take ti.size).length).map (fun j=>(w.cell? ⟨g,i*tj.size+off+j,none⟩).getD undef)) (by simpa using hlen) (fun j v hj=>by
      have pC:j < ((r.drop off).take ti.size).length:=by have:=aW hj;simpa using this
      rw[List.getElem?_map,List.getElem?_range pC] at hj
      obtain⟨u,h5,_⟩:=hU j _ (List.getElem?_eq_getElem pC)
      simp[h5] at hj
      rw[h5,hj])
     rw[hv];exact this
    exact hq.elim
   rename_i qq
   split at hq
   ·rename_i y r' hy
    have lT:=fh hy
    obtain⟨u,h1,h2,h3⟩:=hcell i r _ y hr lT
    refine⟨_,_,hq,.p _ _ h3,?_⟩
    have:=iA (w:=w) eW qq g (i*tj.size+off) u h1
    rw[hv];exact this
   exact hq.elim
  ·rename_i e es a7
   obtain⟨hL,g,n,c,tj,hg,uD,hv⟩:=hx.oJ a7
   have hh:=sim.hp id hL
   rw[a7] at hh
   have EI:a_ A.C.P w (CE S w A.C.P L rho s.h) e es (.slice (some ⟨g,0,none⟩) n c):=by rw[<-hg];exact hh.1
   have hcell:=EI.cell uD
   obtain⟨r,hr,hq⟩:=hq
   split at hq
   ·exact hq.elim
   rename_i qq
   split at hq
   ·rename_i y r' hy
    have lT:=fh hy
    obtain⟨u,h1,h2,h3⟩:=hcell i r _ _ hr lT
    refine⟨_,_,hq,h3,?_⟩
    have:=iA (w:=w) eW qq g (i*tj.size+off) u h1
    rw[hv];exact this
   exact hq.elim
  exact hq.elim
 exact hq.elim
theorem E2 {A:dc} {o:Oper} (t:TypeId) (x:Operand) (aZ:o.op=.load t x):gx A o:=by
 intro V L S rho s a w K next Q hC sim hV hd hq _ hnext
 obtain⟨av,v,h1,h2,h3⟩:=wY t x aZ hC sim (fun j hj=>hV j (by simp[aZ,Op.operands,hj])) hq
 exact ba sim hd hnext h1 h2 (by simp only[execOp,aZ,Sem.run_bind,h3,Result.andThen_ok,Sem.run_pure])
theorem ko.under {P:Program} {t:TypeId} {ti:TI} (h:ko P t ti):match ti.ud with
  | .sc=>(∃d,P.underlying t=some d/\(match d with | .struct _ | .array _ _=>False | _=>True))/\(ti.eq=true->P.underlying t=some .bool)
  | .int k=>P.underlying t=some (.int k)
  | .st fs=>∃gs,P.underlying t=some (.struct gs)/\fs.length=gs.size/\(∀(i:Nat) f g,fs[i]?=some f->gs[i]?=some g->f.1=g.offset/\f.2.1≠0/\(∃i2,P.info? g.type=some i2/\i2.size=f.2.1)/\
    (∃d,P.underlying g.type=some d/\f.2.2=(match d with | .struct _ | .array _ _=>true | _=>false)))
  | .sl e=>P.underlying t=some (.slice e)
  | .str=>P.underlying t=some .string
  | .mp k e=>P.underlying t=some (.map k e):=by
 obtain⟨_,_,_,_,_,_,_,_,_,h⟩:=h
 exact h
theorem ko.info {P:Program} {t:TypeId} {ti:TI} (h:ko P t ti):∃info z,P.info? t=some info/\info.size=ti.size/\info.bytes=ti.bytes/\info.zero=some z/\z.cells=ti.zero.toArray/\(∀v∈ti.zero,v.oneCell'=true):=by
 obtain⟨i,z,h1,h2,h3,h4,h5,h6,h7,h⟩:=h
 exact⟨i,z,h1,h2,h3,h4,h5,h7⟩
theorem ko.CO {P:Program} {t:TypeId} {ti:TI} (h:ko P t ti):ti.zero.length=ti.size:=by
 obtain⟨i,z,h1,h2,h3,h4,h5,h6,h7,h⟩:=h
 exact h6
theorem vg {A:dc} {o:Oper} (t:TypeId) (x:Operand) (f:Nat) (aZ:o.op=.fieldAddr t x f):gx A o:=by
 intro V L S rho s a w K next Q hC sim hV hd hq _ hnext
 simp only[bY,aZ] at hq
 have hx:=bL sim x fun j hj=>hV j (by simp[aZ,Op.operands,hj])
 split at hq
 ·rename_i fs size bytes zero eq hT
  have eW:=(hC.gw t _ hT).under
  obtain⟨gs,qs,hl,hf⟩:=eW
  split at hq
  ·rename_i off sz ag E3
   obtain⟨g,hg⟩:=hY hl (aW E3)
   obtain⟨e1,e2,⟨i2,E4,CP⟩,_⟩:=hf f _ g E3 hg
   have hrun:∀b o',(Instr.fieldAt t (.pointer (some ⟨b,o',none⟩)) f).run A.C.P w=.ok (.pointer (some ⟨b,o'+off,none⟩)) w:=by
    intro b o'
    simp only at e1 e2 CP
    simp[Instr.fieldAt,run_underlying qs,hg,Instr.sureAddr,fieldPlace,Go.sizeOf,typeInfo,E4,CP,e2,Addr.add_lit,<-e1]
   split at hq
   ·rename_i cs kS
    rw[kS] at hx
    obtain⟨b,o',U,hv,hb,hcell,hrep⟩:=hx.fq.rR
    refine ba sim hd hnext hq (.p _ _ (.ip _ b (o'+off) (fun j=>U (off+j)) hb (fun j y hj=>?_) fun j y hj=>?_)) (by simp[execOp,aZ,hv,hrun])
    ·rw[List.getElem?_drop] at hj
     rw[Nat.add_assoc]
     exact hcell _ y hj
    rw[List.getElem?_drop] at hj
    exact hrep _ y hj
   ·rename_i id o' kS
    rw[kS] at hx
    split at hq
    ·exact hq.elim
    rename_i dh
    have ht:(s.h id).there:=by
     cases hh:s.h id <;> first | trivial | exact absurd hh (by simpa using dh)
    obtain⟨hL,g',lJ,hv⟩:=hx.gz ht
    exact ba sim hd hnext hq (.bx _ _ _ fun _=>⟨hL,g',lJ,rfl⟩) (by simp[execOp,aZ,hv,hrun])
   ·rename_i id i o' kS
    rw[kS] at hx
    split at hq
    ·rename_i e es a7
     obtain⟨hL,g',n,c,tj,lJ,uD,hv⟩:=hx.rT a7
     refine ba sim hd hnext hq (v:=.pointer (some ⟨g',i*tj.size+o'+off,none⟩)) (.rp _ _ _ _ fun e2 oK=>?_) (by simp[execOp,aZ,hv,hrun])
     rw[a7] at oK
     injection oK with oK
     subst oK
     exact⟨hL,g',n,c,tj,lJ,uD,by rw[Nat.add_assoc]⟩
    ·rename_i e es a7
     obtain⟨hL,g',n,c,tj,lJ,uD,hv⟩:=hx.oJ a7
     refine ba sim hd hnext hq (v:=.pointer (some ⟨g',i*tj.size+o'+off,none⟩)) (.rp _ _ _ _ fun e2 oK=>?_) (by simp[execOp,aZ,hv,hrun])
     rw[a7] at oK
     injection oK with oK
     subst oK
     exact⟨hL,g',n,c,tj,lJ,uD,by rw[Nat.add_assoc]⟩
    exact hq.elim
   exact hq.elim
  exact hq.elim
 exact hq.elim
theorem CQ {A:dc} {o:Oper} (t:TypeId) (x:Operand) (f:Nat) (aZ:o.op=.field t x f):gx A o:=by
 intro V L S rho s a w K next Q hC sim hV hd hq _ hnext
 simp only[bY,aZ] at hq
 have hx:=bL sim x fun j hj=>hV j (by simp[aZ,Op.operands,hj])
 split at hq
 ·rename_i fs size bytes zero eq cs hT kS
  have eW:=(hC.gw t _ hT).under
  obtain⟨gs,qs,hl,hf⟩:=eW
  rw[kS] at hx
  obtain⟨vs,hv,uC,h1,hc⟩:=hx.fq.nY
  split at hq
  ·rename_i off sz ag E3
   obtain⟨g,hg⟩:=hY hl (aW E3)
   obtain⟨e1,e2,⟨i2,E4,CP⟩,d,I0,qq⟩:=hf f _ g E3 hg
   simp only at e1 e2 CP qq
   split at hq
   ·split at hq
    ·rename_i hle
     have hle:=iJ hle
     have hlen:=iq hle
     refine ba sim hd hnext hq (v:=.agg (vs.extract off (off+sz))) (.p _ _ (.ag _ _ (by simp;omega) (fun u hu=>h1 u ?_) fun i c v K7 K8=>?_)) ?_
     ·simp at hu
      exact List.mem_of_mem_drop (List.mem_of_mem_take hu)
     ·have hi:=aW K7
      rw[hlen] at hi
      have LJ:vs[off+i]?=some v:=by
       rw[Array.getElem?_extract] at K8
       split at K8
       ·exact K8
       cases K8
      exact hc _ c v (il K7) LJ
     have ha:(isAgg g.type).run A.C.P w=.ok true w:=by
      rw[Go.isAgg,Sem.run_bind,run_underlying I0]
      cases d <;> simp at qq <;> rfl
     simp[execOp,aZ,hv,Instr.field,run_underlying qs,hg,asAgg,part,ha,Go.sizeOf,typeInfo,E4,CP,<-e1]
    exact hq.elim
   split at hq
   ·rename_i c r hy
    have lT:=fh hy
    obtain⟨u,hu⟩:=hY uC (aW lT)
    refine ba sim hd hnext hq (.p _ _ (hc _ _ _ lT hu)) ?_
    have ha:(isAgg g.type).run A.C.P w=.ok false w:=by
     rw[Go.isAgg,Sem.run_bind,run_underlying I0]
     cases d <;> simp at qq <;> rfl
    simp[execOp,aZ,hv,Instr.field,run_underlying qs,hg,asAgg,part,ha,<-e1,hu]
   exact hq.elim
  exact hq.elim
 exact hq.elim
theorem l8 {P:Program} {w:World} {t e:TypeId} {ti:TypeInfo} (ht:P.underlying t=some (.slice e)) (hi:P.info? e=some ti) (b off n c:Nat) (k:IntKind) (i:Int) (h0:0<=i) (h1:i.toNat < n):
  (Instr.indexAt t (.slice (some ⟨b,off,none⟩) n c) (.int k i)).run P w=.ok (.pointer (some ⟨b,off+i.toNat*ti.size,none⟩)) w:=by
 have h2:i < n:=by omega
 simp[Instr.indexAt,asIntOf,run_underlying ht,h0,h2,Go.sizeOf,typeInfo,hi,Addr.add_lit]
theorem vh {A:dc} {o:Oper} (t:TypeId) (x ix:Operand) (aZ:o.op=.indexAddr t x ix):gx A o:=by
 intro V L S rho s a w K next Q hC sim hV hd hq _ hnext
 simp only[bY,aZ] at hq
 have hx:=bL sim x fun j hj=>hV j (by simp[aZ,Op.operands,hj])
 have hy:=bL sim ix fun j hj=>hV j (by simp[aZ,Op.operands,hj])
 split at hq
 ·rename_i e size bytes zero eq k i hT rA
  have eW:=(hC.gw t _ hT).under
  simp only at eW
  rw[rA] at hy
  replace hy:=hy.b_
  split at hq
  ·exact hq.elim
  rename_i te pF
  obtain⟨ie,ze,l9,tM,_⟩:=(hC.gw e te pF).info
  have No:∀(es:List (List PV)),bu S w (.sl es) (a.eval x)->(∃r,(0<=i/\es[i.toNat]?=some r)/\match tJ r.length te.size with | true=>K (.p (.ip r)) [] none | false=>False)->o.wp A.C.P a w next Q:=by
   intro es hrep hq
   obtain⟨r,⟨h0,hr⟩,hq⟩:=hq
   split at hq
   ·rename_i hlen
    have hlen:=gy hlen
    obtain⟨ad,c,hv,hle,dh⟩:=hrep.kR
    obtain⟨b,off,k',rfl,hb,hk,hcell⟩:=dh (by intro e;rw[e] at hr;simp at hr)
    have BA:k'=te.size:=by rw[<-hk r (List.mem_of_getElem? hr),hlen]
    have hU:∀(j:Nat) y,r[j]?=some y->∃u,w.cell? ⟨b,off+i.toNat*te.size+j,none⟩=some u/\u.oneCell'=true/\bu S w y u:=by
     intro j y hj
     have:=hcell _ _ j y hr hj
     rw[BA] at this
     exact this
    refine ba sim hd hnext hq (.p _ _ (.ip _ b (off+i.toNat*te.size) (fun j=>(w.cell? ⟨b,off+i.toNat*te.size+j,none⟩).getD undef) hb (fun j y hj=>?_) fun j y hj=>?_)) ?_
    ·obtain⟨u,h1,h2,h3⟩:=hU j y hj
     simp[h1,h2]
    ·obtain⟨u,h1,h2,h3⟩:=hU j y hj
     simp only[h1]
     exact h3
    have:=l8 (w:=w) eW l9 b off es.length c k i h0 (aW hr)
    simp only[execOp,aZ,hv,hy,Sem.run_bind,this,Result.andThen_ok,Sem.run_pure,tM]
   exact hq.elim
  split at hq
  ·rename_i es AE
   rw[AE] at hx
   exact No es hx.fq hq
  ·rename_i id AE
   rw[AE] at hx
   split at hq
   ·rename_i e' es a7
    split at hq
    ·rename_i tN
     have tN:=gy tN
     subst tN
     obtain⟨hL,hv⟩:=hx.db (by rw[a7];trivial)
     have hh:=sim.hp id hL
     rw[a7] at hh
     have EI:a_ A.C.P w (bu S w) e' es (rho id):=hh
     obtain⟨⟨h0,fC⟩,hq⟩:=hq
     obtain⟨i',xs,h1,h2,h3,h4,h5,h6⟩:=EI
     rcases h3.2 with⟨_,hn⟩ | ⟨g,cap,cur,hg,_,_,hle,_⟩
     ·omega
     refine ba sim hd hnext hq (v:=.pointer (some ⟨g,i.toNat*ie.size,none⟩)) (.rp _ _ _ _ fun e2 oK=>?_) ?_
     ·rw[a7] at oK
      injection oK with oK
      subst oK
      exact⟨hL,g,_,_,ie,hg,l9,by rw[Nat.add_zero]⟩
     have:=l8 (w:=w) eW l9 g 0 es.length cap k i h0 fC
     rw[hg] at hv
     rw[Nat.zero_add] at this
     simp only[execOp,aZ,hv,hy,Sem.run_bind,this,Result.andThen_ok,Sem.run_pure]
    exact hq.elim
   ·rename_i e' es a7
    split at hq
    ·rename_i tN
     have tN:=gy tN
     subst tN
     obtain⟨hL,hv⟩:=hx.db (by rw[a7];trivial)
     have hh:=sim.hp id hL
     rw[a7] at hh
     have EI:a_ A.C.P w (CE S w A.C.P L rho s.h) e' es (rho id):=hh.1
     obtain⟨⟨h0,fC⟩,hq⟩:=hq
     obtain⟨i',xs,h1,h2,h3,h4,h5,h6⟩:=EI
     rcases h3.2 with⟨_,hn⟩ | ⟨g,cap,cur,hg,_,_,hle,_⟩
     ·omega
     refine ba sim hd hnext hq (v:=.pointer (some ⟨g,i.toNat*ie.size,none⟩)) (.rp _ _ _ _ fun e2 oK=>?_) ?_
     ·rw[a7] at oK
      injection oK with oK
      subst oK
      exact⟨hL,g,_,_,ie,hg,l9,by rw[Nat.add_zero]⟩
     have:=l8 (w:=w) eW l9 g 0 es.length cap k i h0 fC
     rw[hg] at hv
     rw[Nat.zero_add] at this
     simp only[execOp,aZ,hv,hy,Sem.run_bind,this,Result.andThen_ok,Sem.run_pure]
    exact hq.elim
   ·rename_i es BB
    obtain⟨hL,hv⟩:=hx.db (by rw[BB];trivial)
    have hh:=sim.hp id hL
    rw[BB] at hh
    exact No es (by rw[hv];exact hh) hq
   exact hq.elim
  exact hq.elim
 exact hq.elim
theorem CR {A:dc} {o:Oper} (t:TypeId) (x ix:Operand) (aZ:o.op=.index t x ix):gx A o:=by
 intro V L S rho s a w K next Q hC sim hV hd hq _ hnext
 simp only[bY,aZ] at hq
 have hx:=bL sim x fun j hj=>hV j (by simp[aZ,Op.operands,hj])
 have hy:=bL sim ix fun j hj=>hV j (by simp[aZ,Op.operands,hj])
 split at hq
 ·rename_i size bytes zero eq st k i hT hs rA
  have eW:=(hC.gw t _ hT).under
  simp only at eW
  rw[rA] at hy
  rw[hs] at hx
  obtain⟨b,⟨h0,hb⟩,hq⟩:=hq
  refine ba sim hd hnext hq (.p _ _ (.im _)) ?_
  simp[execOp,aZ,hx.b_,hy.b_,Instr.index,asIntOf,run_underlying eW,h0,hb]
 exact hq.elim
theorem yL {A:dc} {o:Oper} (src dst:TypeId) (x:Operand) (aZ:o.op=.convert src dst x):gx A o:=by
 intro V L S rho s a w K next Q hC sim hV hd hq _ hnext
 simp only[bY,aZ] at hq
 have hx:=bL sim x fun j hj=>hV j (by simp[aZ,Op.operands,hj])
 split at hq
 ·rename_i k' n N0 k size bytes zero eq hv Jh E5
  have h2:=(hC.gw dst _ E5).under
  simp only at h2
  rw[hv] at hx
  have h1:∃d,A.C.P.underlying src=some d:=by
   have:=(hC.gw src _ Jh).under
   cases hu:N0.ud <;> rw[hu] at this
   ·exact⟨_,this.1.choose_spec.1⟩
   ·exact⟨_,this⟩
   ·exact⟨_,this.choose_spec.1⟩
   ·exact⟨_,this⟩
   ·exact⟨_,this⟩
   exact⟨_,this⟩
  obtain⟨d1,h1⟩:=h1
  exact ba sim hd hnext (kq hq) (.p _ _ (.im _)) (by simp[execOp,aZ,hx.b_,convert,run_underlying h1,run_underlying h2,Conv.intToInt])
 ·rename_i str Ji Ha Jj N1 Jk Hb Jl N2 hv Jh E5
  have h2:=(hC.gw dst _ E5).under
  have h1:=(hC.gw src _ Jh).under
  simp only at h1 h2
  rw[hv] at hx
  exact ba sim hd hnext hq (.p _ _ (.im _)) (by simp[execOp,aZ,hx.b_,convert,run_underlying h1,run_underlying h2])
 ·rename_i k' n Pe Ji Ha Jj N1 Jk Hb Jl N2 hv Jh E5
  have h2:=(hC.gw dst _ E5).under
  have h1:=(hC.gw src _ Jh).under
  simp only at h1 h2
  rw[hv] at hx
  exact ba sim hd hnext hq (.p _ _ (.im _)) (by simp[execOp,aZ,hx.b_,convert,run_underlying h1,run_underlying h2,Conv.intToString])
 exact hq.elim
theorem wZ {A:dc} {o:Oper} (x:Operand) (aZ:o.op=.nilCheck x):gx A o:=by
 intro V L S rho s a w K next Q hC sim hV hd hq _ hnext
 simp only[bY,aZ] at hq
 have hx:=bL sim x fun j hj=>hV j (by simp[aZ,Op.operands,hj])
 have fin:∀av ad,K av [] none->bK S w A.C.P L rho s.h av (a.eval x)->a.eval x=.pointer (some ad)->o.wp A.C.P a w next Q:=by
  intro av ad hq hl he
  exact ba sim hd hnext hq hl (by simp[execOp,aZ,he])
 split at hq
 ·rename_i cs kS
  rw[kS] at hx
  obtain⟨b,off,U,hv,_⟩:=hx.fq.rR
  exact fin _ _ hq hx hv
 ·rename_i id off kS
  rw[kS] at hx
  split at hq
  ·rename_i hb
   obtain⟨_,g,_,hv⟩:=hx.gz (by rw[hb];trivial)
   exact fin _ _ hq hx hv
  ·rename_i hb
   obtain⟨_,g,_,hv⟩:=hx.gz (by rw[hb];trivial)
   exact fin _ _ hq hx hv
  exact hq.elim
 ·rename_i id i off kS
  rw[kS] at hx
  split at hq
  ·rename_i hb
   obtain⟨_,g,n,c,tj,_,_,hv⟩:=hx.rT hb
   exact fin _ _ hq hx hv
  ·rename_i hb
   obtain⟨_,g,n,c,tj,_,_,hv⟩:=hx.oJ hb
   exact fin _ _ hq hx hv
  exact hq.elim
 exact hq.elim
theorem w2 {A:dc} {o:Oper} (f:FuncId) (first cap:Array Operand) (aZ:o.op=.makeFunc (.func f) first cap):gx A o:=by
 intro V L S rho s a w K next Q hC sim hV hd hq _ hnext
 simp only[bY,aZ] at hq
 split at hq
 ·rename_i hn
  have he:first=#[]:=by
   obtain⟨l⟩:=first
   cases l with
   | nil=>rfl
   | cons y l=>simp[isNil] at hn
  subst he
  refine ba sim hd hnext hq (.fn f _ (cap.map a.eval) (by simp) fun i c v hc hv=>?_) (by simp[execOp,aZ,Instr.makeFunc])
  rw[List.getElem?_map] at hc
  obtain⟨y,hy,rfl⟩:=Option.map_eq_some_iff.1 hc
  have lT:cap[i]?=some y:=by simpa using hy
  rw[Array.getElem?_map,lT] at hv
  simp at hv
  rw[<-hv]
  exact bL sim y fun j hj=>hV j (by simp[aZ,Op.operands];rw[<-hj];exact Array.mem_of_getElem? lT)
 exact hq.elim
end Go.AM
namespace Go.AM
open Go.RowKit
theorem cC (h:Nat->AB) (a b:List (Nat×AB)):app h (a++b)=app (app h a) b:=by
 induction a generalizing h with
 | nil=>rfl
 | cons x a ih=>exact ih _
theorem bT {α:Type} (f:Nat->α) (i:Nat) (x:α) (j:Nat):(j=i/\bI f i x j=x)\/(j≠i/\bI f i x j=f j):=by
 by_cases e:j=i
 ·subst e;exact .inl ⟨rfl,bc _ _ _⟩
 exact .inr ⟨e,bQ _ _ e⟩
theorem a_.BC {P:Program} {S S':Nat->Prop} {w:World} {e:TypeId} {es:List (List PV)} {v:Value} (h:a_ P w (bu S w) e es v) (hS:∀b,S b->S' b) (hb:∀g,cW v=some g->S' g):bu S' w (.sl es) v:=by
 obtain⟨i,xs,h1,h2,h3,h4,h5,h6⟩:=h
 rcases h3.2 with⟨rfl,hn⟩ | ⟨g,cap,cur,rfl,_,_,hle,_⟩
 ·have:es=[]:=List.eq_nil_of_length_eq_zero hn
  subst this
  exact .nil _ _
 refine .sl es i.size g 0 cap (fun a j=>(xs[a*i.size+j]?).getD undef) hle (hb g rfl) h4 (fun a r j x ha hj=>?_) fun a r j x ha hj=>?_
 ·obtain⟨u,hu,hr⟩:=h6 a r j x ha hj
  have:=h3.cells (g:=g) rfl _ u hu
  rw[Addr.add_lit] at this
  rw[hu,Nat.add_assoc]
  exact⟨this,h5 u (List.mem_of_getElem? hu)⟩
 obtain⟨u,hu,hr⟩:=h6 a r j x ha hj
 rw[hu]
 exact hr.mono hS (fun _ _=>rfl)
theorem ez {w:World} {h:Nat->AB} {id:Nat} {b:AB} {i:Nat} {v:Value} {g:Nat} (hi:i≠id) (ho:hasB w (bI h id b i) v g):hasB w (h i) v g:=by rw[bQ _ _ hi] at ho;exact ho
theorem cm.uE {A:dc} {V L S:Nat->Prop} {rho:Nat->Value} {s:AS} {a:Act} {w:World} (sim:cm A V L S rho s a w) (hC:ct A.C) (id:Nat) (hL:L id) {e:TypeId} {es:List (List PV)} (a7:s.h id=.row e es):
  cm A V L (fun b=>S b\/cW (rho id)=some b) rho ⟨s.t,bI s.h id (.hM es)⟩ a w:=by
 have T:kp S (fun b=>S b\/cW (rho id)=some b) w w L L rho rho s.h (bI s.h id (.hM es)):=by
  refine⟨fun b h=>.inl h,fun _ _=>rfl,fun j hj=>⟨?_,fun hl=>⟨hl,rfl⟩⟩,fun j e' hj=>?_⟩
  ·rcases bT s.h id (.hM es) j with⟨rfl,h⟩ | ⟨_,h⟩
   ·rw[a7];trivial
   rw[h] at hj;exact hj
  rcases bT s.h id (.hM es) j with⟨rfl,h⟩ | ⟨_,h⟩
  ·rw[h] at hj;cases hj
  rw[h] at hj;exact hj
 have fD:∀j,((bI s.h id (.hM es)) j).live->j≠id/\(s.h j).live:=by
  intro j hj
  rcases bT s.h id (.hM es) j with⟨rfl,h⟩ | ⟨h1,h⟩
  ·rw[h] at hj;exact hj.elim
  rw[h] at hj;exact⟨h1,hj⟩
 have cI:(s.h id).live:=by rw[a7];trivial
 exact
 {tm:=fun j hj=>(sim.tm j hj).dQ T
  sz:=sim.sz,df:=sim.df,nb:=sim.nb,pn:=sim.pn
  ev:=hC.env _ _ _ _ sim.ev (fun b h=>.inl h) (fun _ _=>rfl) (Nat.le_refl _)
  s0:=fun b h=>.inl (sim.s0 b h)
  st:=fun b h=>h.elim (sim.st b) fun h=>(sim.l5 id b hL cI h).1
  sb:=fun b h=>h.elim (sim.sb b) fun h=>.inr (sim.l5 id b hL cI h).2.2
  hp:=fun j hj=>by
   have hh:=sim.hp j hj
   rcases bT s.h id (.hM es) j with⟨rfl,h⟩ | ⟨h1,h⟩
   ·show fa _ _ _ _ _ _ _ (bI s.h j (.hM es) j)
    rw[h]
    rw[a7] at hh
    exact a_.BC hh (fun b h=>.inl h) (fun g h=>.inr h)
   show fa _ _ _ _ _ _ _ (bI s.h id (.hM es) j)
   rw[h]
   exact hh.dQ T (fun _ _ _=>rfl) (fun _=>rfl)
  dj:=fun i j g hi hj li lj eP iB=>sim.dj i j g hi hj (fD i li).2 (fD j lj).2 (ez (fD i li).1 eP) (ez (fD j lj).1 iB)
  lv:=fun i g hi li hg=>by
   obtain⟨h1,h2⟩:=fD i li
   have hg:=ez h1 hg
   obtain⟨h3,h4,h5⟩:=sim.lv i g hi h2 hg
   refine⟨h3,fun h=>h.elim h4 fun h=>h1 (sim.dj i id g hi hL h2 cI hg (.inl h)),h5⟩
  fr:=sim.fr }
theorem cm.BD {A:dc} {V L S:Nat->Prop} {rho:Nat->Value} {s:AS} {a:Act} {w:World} (sim:cm A V L S rho s a w) (hC:ct A.C) (id:Nat) (hL:L id) {cs:List AV} {xs:List PV} (a7:s.h id=.box cs) (qp:dS cs=some xs):
  cm A V L (fun b=>S b\/cW (rho id)=some b) rho ⟨s.t,bI s.h id (.jK xs)⟩ a w:=by
 have T:kp S (fun b=>S b\/cW (rho id)=some b) w w L L rho rho s.h (bI s.h id (.jK xs)):=by
  refine⟨fun b h=>.inl h,fun _ _=>rfl,fun j hj=>⟨?_,fun hl=>⟨hl,rfl⟩⟩,fun j e' hj=>?_⟩
  ·rcases bT s.h id (.jK xs) j with⟨rfl,h⟩ | ⟨_,h⟩
   ·rw[a7];trivial
   rw[h] at hj;exact hj
  rcases bT s.h id (.jK xs) j with⟨rfl,h⟩ | ⟨_,h⟩
  ·rw[h] at hj;cases hj
  rw[h] at hj;exact hj
 have fD:∀j,((bI s.h id (.jK xs)) j).live->j≠id/\(s.h j).live:=by
  intro j hj
  rcases bT s.h id (.jK xs) j with⟨rfl,h⟩ | ⟨h1,h⟩
  ·rw[h] at hj;exact hj.elim
  rw[h] at hj;exact⟨h1,hj⟩
 have cI:(s.h id).live:=by rw[a7];trivial
 exact
 {tm:=fun j hj=>(sim.tm j hj).dQ T
  sz:=sim.sz,df:=sim.df,nb:=sim.nb,pn:=sim.pn
  ev:=hC.env _ _ _ _ sim.ev (fun b h=>.inl h) (fun _ _=>rfl) (Nat.le_refl _)
  s0:=fun b h=>.inl (sim.s0 b h)
  st:=fun b h=>h.elim (sim.st b) fun h=>(sim.l5 id b hL cI h).1
  sb:=fun b h=>h.elim (sim.sb b) fun h=>.inr (sim.l5 id b hL cI h).2.2
  hp:=fun j hj=>by
   have hh:=sim.hp j hj
   rcases bT s.h id (.jK xs) j with⟨rfl,h⟩ | ⟨h1,h⟩
   ·show fa _ _ _ _ _ _ _ (bI s.h j (.jK xs) j)
    rw[h]
    rw[a7] at hh
    obtain⟨g,ty,c,k1,k2,k3,k4⟩:=hh
    show bu _ w (.ip xs) (rho j)
    rw[k1]
    obtain⟨hl,tG⟩:=fS qp
    have hU:∀(i:Nat) x,xs[i]?=some x->∃u,c[i]?=some u/\u.oneCell'=true/\bu S w x u:=by
     intro i x hi
     obtain⟨y,hy⟩:∃y,cs[i]?=some y:=⟨_,List.getElem?_eq_getElem (by rw[hl];exact aW hi)⟩
     obtain⟨u,hu⟩:=hY k3.symm (aW hy)
     obtain⟨h5,h6⟩:=k4 _ _ _ hy hu
     exact⟨u,hu,h5,h6.rz (tG i y x hy hi)⟩
    refine .ip xs g 0 (fun i=>(c[i]?).getD undef) (.inr rfl) (fun i x hi=>?_) fun i x hi=>?_
    ·obtain⟨u,h5,h6,h7⟩:=hU i x hi
     rw[Nat.zero_add,cell_of_row w g i c ty (0,0) k2,h5]
     exact⟨rfl,h6⟩
    obtain⟨u,h5,h6,h7⟩:=hU i x hi
    rw[h5]
    exact h7.mono (fun b h=>.inl h) (fun _ _=>rfl)
   show fa _ _ _ _ _ _ _ (bI s.h id (.jK xs) j)
   rw[h]
   exact hh.dQ T (fun _ _ _=>rfl) (fun _=>rfl)
  dj:=fun i j g hi hj li lj eP iB=>sim.dj i j g hi hj (fD i li).2 (fD j lj).2 (ez (fD i li).1 eP) (ez (fD j lj).1 iB)
  lv:=fun i g hi li hg=>by
   obtain⟨h1,h2⟩:=fD i li
   have hg:=ez h1 hg
   obtain⟨h3,h4,h5⟩:=sim.lv i g hi h2 hg
   refine⟨h3,fun h=>h.elim h4 fun h=>h1 (sim.dj i id g hi hL h2 cI hg (.inl h)),h5⟩
  fr:=sim.fr }
def lU (h h':Nat->AB):Prop:=∀id,h' id=h id\/(∃e es,h id=.row e es/\h' id=.hM es)\/(∃cs xs,h id=.box cs/\dS cs=some xs/\h' id=.jK xs)
theorem lU.refl (h:Nat->AB):lU h h:=fun _=>.inl rfl
theorem lU.CS {h h':Nat->AB} (H:lU h h') {id:Nat} {e:TypeId} {es:List (List PV)} (hr:h id=.row e es):lU h (bI h' id (.hM es)):=by
 intro j
 rcases bT h' id (.hM es) j with⟨rfl,h1⟩ | ⟨_,h1⟩
 ·exact .inr (.inl ⟨e,es,hr,h1⟩)
 rw[h1];exact H j
theorem lU.CT {h h':Nat->AB} (H:lU h h') {id:Nat} {cs:List AV} {xs:List PV} (hr:h id=.box cs) (hx:dS cs=some xs):lU h (bI h' id (.jK xs)):=by
 intro j
 rcases bT h' id (.jK xs) j with⟨rfl,h1⟩ | ⟨_,h1⟩
 ·exact .inr (.inr ⟨cs,xs,hr,hx,h1⟩)
 rw[h1];exact H j
theorem bu.oL {S:Nat->Prop} {w:World} {xs:List PV} {g off:Nat} {v:Value} (h:bu S w (.ip xs) v) (hv:v=.pointer (some ⟨g,0,none⟩)):bu S w (.ip (xs.drop off)) (.pointer (some ⟨g,off,none⟩)):=by
 subst hv
 obtain⟨b,o,U,hv,hb,hcell,hrep⟩:=h.rR
 injection hv with hv
 injection hv with hv
 injection hv with h1 h2
 subst h1 h2
 refine .ip _ g off (fun j=>U (off+j)) hb (fun j x hj=>?_) fun j x hj=>?_
 ·rw[List.getElem?_drop] at hj
  have:=hcell _ x hj
  rwa [Nat.zero_add] at this
 rw[List.getElem?_drop] at hj
 exact hrep _ x hj
theorem uF {A:dc} {V L S:Nat->Prop} {rho:Nat->Value} {s:AS} {a:Act} {w:World} (hC:ct A.C) {h:Nat->AB} (sim:cm A V L S rho s a w) (hF:lU h s.h) {x:AV} {v:Value} (hx:bK S w A.C.P L rho s.h x v) {K:PV->List (Nat×AB)->Prop} (hq:ji h x K):
  ∃y fz S',K y fz/\cm A V L S' rho ⟨s.t,app s.h fz⟩ a w/\bu S' w y v/\(∀b,S b->S' b)/\lU h (app s.h fz)/\(∀p∈fz,L p.1)/\(∀p∈fz,¬p.2.live):=by
 unfold ji at hq
 split at hq
 ·exact⟨_,[],S,hq,sim,hx.fq,fun _ h=>h,hF,by simp,by simp⟩
 ·cases hx
  exact⟨_,[],S,hq,sim,.nil _ _,fun _ h=>h,hF,by simp,by simp⟩
 ·rename_i id
  split at hq
  ·rename_i e es a7
   rcases hF id with h1 | ⟨e',dw,h1,h2⟩ | ⟨cs,xs,h1,_,_⟩
   ·rw[a7] at h1
    obtain⟨hL,hv⟩:=hx.db (by rw[h1];trivial)
    refine⟨_,_,_,hq,sim.uE hC id hL h1,?_,fun b h=>.inl h,hF.CS a7,by simpa using hL,by simp[AB.live]⟩
    have hh:=sim.hp id hL
    rw[h1] at hh
    rw[hv]
    exact a_.BC hh (fun b h=>.inl h) (fun g h=>.inr h)
   ·rw[a7] at h1
    injection h1 with e1 e2
    subst e1 e2
    obtain⟨hL,hv⟩:=hx.db (by rw[h2];trivial)
    have hh:=sim.hp id hL
    rw[h2] at hh
    refine⟨_,_,S,hq,?_,by rw[hv];exact hh,fun _ h=>h,hF.CS a7,by simpa using hL,by simp[AB.live]⟩
    show cm A V L S rho ⟨s.t,bI s.h id (.hM es)⟩ a w
    rw[eR _ _ _ h2]
    exact sim
   rw[a7] at h1;cases h1
  ·rename_i es BB
   rcases hF id with h1 | ⟨e',dw,h1,h2⟩ | ⟨cs,xs,h1,_,_⟩
   ·rw[BB] at h1
    obtain⟨hL,hv⟩:=hx.db (by rw[h1];trivial)
    have hh:=sim.hp id hL
    rw[h1] at hh
    exact⟨_,[],S,hq,sim,by rw[hv];exact hh,fun _ h=>h,hF,by simp,by simp⟩
   ·rw[BB] at h1;cases h1
   rw[BB] at h1;cases h1
  exact hq.elim
 ·rename_i id off
  split at hq
  ·rename_i cs bC
   split at hq
   ·rename_i xs qp
    rcases hF id with h1 | ⟨e',dw,h1,h2⟩ | ⟨jF,nX,h1,E6,h2⟩
    ·rw[bC] at h1
     obtain⟨hL,g,hg,hv⟩:=hx.gz (by rw[h1];trivial)
     have cg:=sim.BD hC id hL h1 qp
     refine⟨_,_,_,hq,cg,?_,fun b h=>.inl h,hF.CT bC qp,by simpa using hL,by simp[AB.live]⟩
     have hh:=cg.hp id hL
     have EI:fa _ w A.C.P L rho _ id (bI s.h id (.jK xs) id):=hh
     rw[bc] at EI
     have Hc:bu _ w (.ip xs) (rho id):=EI
     rw[hv]
     exact Hc.oL hg
    ·rw[bC] at h1;cases h1
    rw[bC] at h1
    injection h1 with h1
    subst h1
    rw[qp] at E6
    injection E6 with E6
    subst E6
    obtain⟨hL,g,hg,hv⟩:=hx.gz (by rw[h2];trivial)
    have hh:=sim.hp id hL
    rw[h2] at hh
    have Hc:bu _ w (.ip xs) (rho id):=hh
    refine⟨_,_,S,hq,?_,by rw[hv];exact Hc.oL hg,fun _ h=>h,hF.CT bC qp,by simpa using hL,by simp[AB.live]⟩
    show cm A V L S rho ⟨s.t,bI s.h id (.jK xs)⟩ a w
    rw[eR _ _ _ h2]
    exact sim
   exact hq.elim
  ·rename_i xs Hd
   rcases hF id with h1 | ⟨e',dw,h1,h2⟩ | ⟨cs,nX,h1,_,_⟩
   ·rw[Hd] at h1
    obtain⟨hL,g,hg,hv⟩:=hx.gz (by rw[h1];trivial)
    have hh:=sim.hp id hL
    rw[h1] at hh
    have Hc:bu _ w (.ip xs) (rho id):=hh
    exact⟨_,[],S,hq,sim,by rw[hv];exact Hc.oL hg,fun _ h=>h,hF,by simp,by simp⟩
   ·rw[Hd] at h1;cases h1
   rw[Hd] at h1;cases h1
  exact hq.elim
 exact hq.elim
theorem BE {b:AB} {e:TypeId} (h:b.kN=some e):b.live:=by cases b <;> first | trivial | cases h
theorem BF {fz:List (Nat×AB)} (hn:∀p∈fz,¬p.2.live):∀{h:Nat->AB} {id:Nat},(app h fz id).live->app h fz id=h id:=by
 induction fz with
 | nil=>intro h id _;rfl
 | cons p fz ih=>
  intro h id hl
  obtain⟨i,b⟩:=p
  have e:=ih (fun p hp=>hn p (by simp[hp])) (h:=bI h i b) (id:=id) hl
  have e2:app h ((i,b)::fz) id=bI h i b id:=e
  by_cases ei:id=i
  ·subst ei
   rw[e2,bc] at hl
   exact absurd hl (hn (id,b) (by simp))
  rw[e2,bQ _ _ ei]
theorem lU.there {h h':Nat->AB} (H:lU h h') (id:Nat):(h' id).there↔(h id).there:=by
 rcases H id with h1 | ⟨e,es,h1,h2⟩ | ⟨cs,xs,h1,_,h2⟩
 ·rw[h1]
 ·rw[h1,h2];exact Iff.rfl
 rw[h1,h2];exact Iff.rfl
theorem bK.Jm {S S':Nat->Prop} {w:World} {P:Program} {L:Nat->Prop} {rho:Nat->Value} {h h':Nat->AB} {fz:List (Nat×AB)} (hS:∀b,S b->S' b) (H:lU h h') (H2:lU h (app h' fz)) (hn:∀p∈fz,¬p.2.live) {x:AV} {v:Value} (hx:bK S w P L rho h' x v):bK S' w P L rho (app h' fz) x v:=
 hx.dQ ⟨hS,fun _ _=>rfl,fun id ht=>⟨(H.there id).2 ((H2.there id).1 ht),fun hl=>⟨hl,rfl⟩⟩,fun id e hr=>by rw[<-BF (h:=h') (id:=id) hn (BE hr)];exact hr⟩
theorem uG {A:dc} {V L:Nat->Prop} {rho:Nat->Value} {t:Nat->AV} {a:Act} {w:World} (hC:ct A.C) {h:Nat->AB}:∀(cap:List AV) (vs:List Value) (S:Nat->Prop) (h':Nat->AB) {K:List PV->List (Nat×AB)->Prop},cap.length=vs.length->cm A V L S rho ⟨t,h'⟩ a w->lU h h' ->
  (∀(i:Nat) c v,cap[i]?=some c->vs[i]?=some v->bK S w A.C.P L rho h' c v)->qk h cap K ->
  ∃xs fz S',K xs fz/\cm A V L S' rho ⟨t,app h' fz⟩ a w/\(∀(i:Nat) x v,xs[i]?=some x->vs[i]?=some v->bu S' w x v)/\(∀b,S b->S' b)/\lU h (app h' fz)/\(∀p∈fz,L p.1)/\xs.length=vs.length:=by
 intro cap
 induction cap with
 | nil=>
  intro vs S h' K hl sim hF _ hq
  have:vs=[]:=List.eq_nil_of_length_eq_zero hl.symm
  subst this
  exact⟨[],[],S,hq,sim,by simp,fun _ h=>h,hF,by simp,rfl⟩
 | cons c cap ih=>
  intro vs S h' K hl sim hF hrep hq
  cases vs with
  | nil=>simp at hl
  | cons v vs=>
   obtain⟨y,fz,S2,hq,bN,hp,vi,CA,w4,Jn⟩:=uF (s:=⟨t,h'⟩) hC sim hF (hrep 0 c v rfl rfl) hq
   obtain⟨xs,jM,S',k1,k2,k3,k4,k5,k6,k7⟩:=ih vs S2 (app h' fz) (by simpa using hl) bN CA (fun i x u hx hu=>(hrep (i+1) x u (by simpa using hx) (by simpa using hu)).Jm vi hF CA Jn) hq
   refine⟨y::xs,fz++jM,S',k1,by rw[cC];exact k2,fun i x u hx hu=>?_,fun b hb=>k4 b (vi b hb),by rw[cC];exact k5,fun p hp=>(List.mem_append.1 hp).elim (w4 p) (k6 p),by simp[k7]⟩
   cases i with
   | zero=>simp at hx hu;subst hx hu;exact hp.mono k4 (fun _ _=>rfl)
   | succ i=>exact k3 i x u (by simpa using hx) (by simpa using hu)
theorem gh {A:dc} {V L S:Nat->Prop} {rho:Nat->Value} {s:AS} {a:Act} {w:World} (hC:ct A.C) {h:Nat->AB} (sim:cm A V L S rho s a w) (hF:lU h s.h) {x:AV} {v:Value} (hx:bK S w A.C.P L rho s.h x v) {K:PV->List (Nat×AB)->Prop} (hq:gK h x K):
  ∃y fz S',K y fz/\cm A V L S' rho ⟨s.t,app s.h fz⟩ a w/\bu S' w y v/\(∀b,S b->S' b)/\lU h (app s.h fz)/\(∀p∈fz,L p.1):=by
 unfold gK at hq
 split at hq
 ·rename_i f cap
  cases hx with
  | fn _ _ vs hl hc=>
   obtain⟨xs,fz,S',k1,k2,k3,k4,k5,k6,k7⟩:=uG (t:=s.t) hC cap vs.toList S s.h (by simpa using hl) sim hF (fun i c v h1 h2=>hc i c v h1 (by simpa using h2)) hq
   exact⟨_,fz,S',k1,k2,.fn f xs vs (by simpa using k7) (fun i c v h1 h2=>k3 i c v h1 (by simpa using h2)),k4,k5,k6⟩
 obtain⟨y,fz,S',h1,h2,h3,h4,h5,h6,_⟩:=uF hC sim hF hx hq
 exact⟨y,fz,S',h1,h2,h3,h4,h5,h6⟩
theorem gr {d:Nat}:∀{fz:List (Nat×AB)} {h:Nat->AB},(∀p∈fz,p.1≠d)->app h fz d=h d:=by
 intro fz
 induction fz with
 | nil=>intro h _;rfl
 | cons x fz ih=>
  intro h hn
  show app (bI h x.1 x.2) fz d=h d
  rw[ih (fun p hp=>hn p (by simp[hp])),bQ _ _ (fun e=>hn x (by simp) e.symm)]
theorem cm.kill {A:dc} {V L S:Nat->Prop} {rho:Nat->Value} {s:AS} {a:Act} {w:World} (sim:cm A V L S rho s a w) (id:Nat):cm A V L S rho ⟨s.t,bI s.h id .none⟩ a w:=by
 have T:kp S S w w L L rho rho s.h (bI s.h id .none):=by
  refine⟨fun b h=>h,fun _ _=>rfl,fun j hj=>⟨?_,fun hl=>⟨hl,rfl⟩⟩,fun j e' hj=>?_⟩
  ·rcases bT s.h id .none j with⟨rfl,h⟩ | ⟨_,h⟩
   ·rw[h] at hj;exact hj.elim
   rw[h] at hj;exact hj
  rcases bT s.h id .none j with⟨rfl,h⟩ | ⟨_,h⟩
  ·rw[h] at hj;cases hj
  rw[h] at hj;exact hj
 have fD:∀j,((bI s.h id .none) j).live->j≠id/\(s.h j).live:=by
  intro j hj
  rcases bT s.h id .none j with⟨rfl,h⟩ | ⟨h1,h⟩
  ·rw[h] at hj;exact hj.elim
  rw[h] at hj;exact⟨h1,hj⟩
 exact
 {tm:=fun j hj=>(sim.tm j hj).dQ T
  sz:=sim.sz,df:=sim.df,nb:=sim.nb,pn:=sim.pn,ev:=sim.ev,s0:=sim.s0,st:=sim.st,sb:=sim.sb
  hp:=fun j hj=>by
   have hh:=sim.hp j hj
   rcases bT s.h id .none j with⟨rfl,h⟩ | ⟨h1,h⟩
   ·show fa _ _ _ _ _ _ _ (bI s.h j .none j)
    rw[h]
    trivial
   show fa _ _ _ _ _ _ _ (bI s.h id .none j)
   rw[h]
   exact hh.dQ T (fun _ _ _=>rfl) (fun _=>rfl)
  dj:=fun i j g hi hj li lj eP iB=>sim.dj i j g hi hj (fD i li).2 (fD j lj).2 (ez (fD i li).1 eP) (ez (fD j lj).1 iB)
  lv:=fun i g hi li hg=>sim.lv i g hi (fD i li).2 (ez (fD i li).1 hg)
  fr:=sim.fr }
theorem cm.oM {A:dc} {V L S:Nat->Prop} {rho:Nat->Value} {s:AS} {a:Act} {w:World} (sim:cm A V L S rho s a w) (hC:ct A.C) (d:Nat) (b:AB) (hdb:d < 100000) (hL:¬L d) (hb:s.h d=b) (w':World) (ho:w'.os=w.os) (ht:w'.tape=w.tape) (hu:w'.output=w.output)
  (hsz:w.heap.size<=w'.heap.size) (R:Nat->Prop) (hold:∀k,k < w.heap.size->¬R k->w'.heap[k]?=w.heap[k]?) (hR:∀k,R k->¬S k/\(∀i,L i->(s.h i).live->¬hasB w (s.h i) (rho i) k)/\(A.mv k\/A.w0.heap.size<=k))
  (hv:Value) (hblk:∀g,hasB w' b hv g->g < w'.heap.size/\(w.heap.size<=g\/R g))
  (hrep:kp S S w w' L (fun i=>L i\/i=d) rho (bI rho d hv) s.h s.h->fa S w' A.C.P (fun i=>L i\/i=d) (bI rho d hv) s.h d b):
  cm A V (fun i=>L i\/i=d) S (bI rho d hv) s a w':=by
 have iC:∀b,S b->w'.heap[b]?=w.heap[b]?:=fun k hk=>hold k (sim.st k hk) fun hr=>(hR k hr).1 hk
 have dh:∀i,L i->i≠d:=fun i hi e=>hL (e ▸ hi)
 have T:kp S S w w' L (fun i=>L i\/i=d) rho (bI rho d hv) s.h s.h:=
  ⟨fun b h=>h,iC,fun j hj=>⟨hj,fun hl=>⟨.inl hl,bQ _ _ (dh j hl)⟩⟩,fun j e' hj=>hj⟩
 exact
 {tm:=fun j hj=>(sim.tm j hj).dQ T
  sz:=sim.sz,df:=sim.df,nb:=sim.nb,pn:=fun id h=>by rw[bQ _ _ (by omega)];exact sim.pn id h
  ev:=hC.env _ _ _ _ sim.ev (fun b h=>h) iC hsz
  s0:=sim.s0
  st:=fun b hb=>Nat.lt_of_lt_of_le (sim.st b hb) hsz
  sb:=sim.sb
  hp:=fun j hj=>by
   by_cases e:j=d
   ·subst e
    rw[hb]
    exact hrep T
   have hl:L j:=hj.resolve_right e
   refine (sim.hp j hl).dQ T (fun li g hg=>?_) (fun _=>bQ _ _ e)
   exact hold g (sim.lv j g hl li hg).1 fun hr=>(hR g hr).2.1 j hl li hg
  dj:=fun i j g hi hj li lj eP iB=>by
   have back:∀i g,L i->(s.h i).live->hasB w' (s.h i) (rho i) g->hasB w (s.h i) (rho i) g:=fun i g hl li h=>dA (fun k hk=>hold k (sim.l5 i k hl li hk).1 fun hr=>(hR k hr).2.1 i hl li (.inl hk)) h
   by_cases e1:i=d
   ·by_cases e2:j=d
    ·rw[e1,e2]
    have hl:L j:=hj.resolve_right e2
    rw[bQ _ _ e2] at iB
    have iB:=back j g hl lj iB
    rw[e1,bc,hb] at eP
    rcases (hblk g eP).2 with h | h
    ·exact absurd (sim.lv j g hl lj iB).1 (by omega)
    exact absurd iB ((hR g h).2.1 j hl lj)
   have hl:L i:=hi.resolve_right e1
   rw[bQ _ _ e1] at eP
   have eP:=back i g hl li eP
   by_cases e2:j=d
   ·rw[e2,bc,hb] at iB
    rcases (hblk g iB).2 with h | h
    ·exact absurd (sim.lv i g hl li eP).1 (by omega)
    exact absurd eP ((hR g h).2.1 i hl li)
   have uC:L j:=hj.resolve_right e2
   rw[bQ _ _ e2] at iB
   exact sim.dj i j g hl uC li lj eP (back j g uC lj iB)
  lv:=fun i g hi li hg=>by
   by_cases e:i=d
   ·rw[e,bc,hb] at hg
    obtain⟨h1,h2⟩:=hblk g hg
    refine⟨h1,?_⟩
    rcases h2 with h | h
    ·exact⟨fun hs=>absurd (sim.st g hs) (by omega),.inr (Nat.le_trans sim.fr.size h)⟩
    exact⟨(hR g h).1,(hR g h).2.2⟩
   have hl:L i:=hi.resolve_right e
   rw[bQ _ _ e] at hg
   obtain⟨h1,h2,h3⟩:=sim.lv i g hl li (dA (fun k hk=>hold k (sim.l5 i k hl li hk).1 fun hr=>(hR k hr).2.1 i hl li (.inl hk)) hg)
   exact⟨Nat.lt_of_lt_of_le h1 hsz,h2,h3⟩
  fr:=sim.fr.next ho ht hu hsz fun k hk hn=>hold k (Nat.lt_of_lt_of_le hk sim.fr.size) fun hr=>by
   rcases (hR k hr).2.2 with h | h
   ·exact hn h
   omega }
theorem cm.new {A:dc} {V L S:Nat->Prop} {rho:Nat->Value} {s:AS} {a:Act} {w:World} (sim:cm A V L S rho s a w) (hC:ct A.C) (d:Nat) (b:AB) (hdb:d < 100000) (hL:¬L d) (hb:s.h d=b) (w':World) (ho:w'.os=w.os) (ht:w'.tape=w.tape) (hu:w'.output=w.output)
  (hsz:w.heap.size<=w'.heap.size) (R:Nat->Prop) (hold:∀k,k < w.heap.size->¬R k->w'.heap[k]?=w.heap[k]?) (hR:∀k,R k->¬S k/\(∀i,L i->(s.h i).live->¬hasB w (s.h i) (rho i) k)/\(A.mv k\/A.w0.heap.size<=k))
  (hv:Value) (hblk:∀g,cW hv=some g->g < w'.heap.size/\(w.heap.size<=g\/R g))
  (hrep:kp S S w w' L (fun i=>L i\/i=d) rho (bI rho d hv) s.h s.h->fa S w' A.C.P (fun i=>L i\/i=d) (bI rho d hv) s.h d b)
  (hnh:G1 b=true:=by rfl):
  cm A V (fun i=>L i\/i=d) S (bI rho d hv) s a w':=
 sim.oM hC d b hdb hL hb w' ho ht hu hsz R hold hR hv (fun g h=>hblk g (aY hnh h)) hrep
theorem cm.Jo {A:dc} {V L S:Nat->Prop} {rho:Nat->Value} {s:AS} {a:Act} {w:World} (sim:cm A V L S rho s a w) (hC:ct A.C) (w':World) (hf:Fr (fun _=>False) w w') (S':Nat->Prop) (h1:∀b,S b->S' b) (h2:∀b,S' b->b < w'.heap.size) (h3:∀b,S' b->S b\/w.heap.size<=b):cm A V L S' rho s a w':=by
 have iC:∀b,S b->w'.heap[b]?=w.heap[b]?:=fun k hk=>hf.block k (sim.st k hk) (fun h=>h)
 have T:kp S S' w w' L L rho rho s.h s.h:=⟨h1,iC,fun j hj=>⟨hj,fun hl=>⟨hl,rfl⟩⟩,fun j e' hj=>hj⟩
 exact
 {tm:=fun j hj=>(sim.tm j hj).dQ T
  sz:=sim.sz,df:=sim.df,nb:=sim.nb,pn:=sim.pn
  ev:=hC.env _ _ _ _ sim.ev h1 iC hf.size
  s0:=fun b hb=>h1 b (sim.s0 b hb)
  st:=h2
  sb:=fun b hb=>by
   rcases h3 b hb with h | h
   ·exact sim.sb b h
   exact .inr (.inr (Nat.le_trans sim.fr.size h))
  hp:=fun j hj=>(sim.hp j hj).dQ T (fun li g hg=>hf.block g (sim.lv j g hj li hg).1 (fun h=>h)) (fun _=>rfl)
  dj:=fun i j g hi hj li lj eP iB=>sim.dj i j g hi hj li lj (dA (fun k hk=>hf.block k (sim.l5 i k hi li hk).1 (fun h=>h)) eP) (dA (fun k hk=>hf.block k (sim.l5 j k hj lj hk).1 (fun h=>h)) iB)
  lv:=fun i g hi li hg=>by
   obtain⟨a1,a2,a3⟩:=sim.lv i g hi li (dA (fun k hk=>hf.block k (sim.l5 i k hi li hk).1 (fun h=>h)) hg)
   refine⟨Nat.lt_of_lt_of_le a1 hf.size,fun h=>?_,a3⟩
   rcases h3 g h with h | h
   ·exact a2 h
   omega
  fr:=sim.fr.next hf.os hf.tape hf.output hf.size fun k hk _=>hf.block k (Nat.lt_of_lt_of_le hk sim.fr.size) (fun h=>h) }
theorem cm.He {A:dc} {V L S:Nat->Prop} {rho:Nat->Value} {s:AS} {a:Act} {w:World} (sim:cm A V L S rho s a w) (d:Nat) (es:List (List PV)) (hdb:d < 100000) (hL:¬L d) (hb:s.h d=.hM es) (hv:Value)
  (hrep:bu S w (.sl es) hv):cm A V (fun i=>L i\/i=d) S (bI rho d hv) s a w:=by
 have dh:∀i,L i->i≠d:=fun i hi e=>hL (e ▸ hi)
 have T:kp S S w w L (fun i=>L i\/i=d) rho (bI rho d hv) s.h s.h:=
  ⟨fun b h=>h,fun _ _=>rfl,fun j hj=>⟨hj,fun hl=>⟨.inl hl,bQ _ _ (dh j hl)⟩⟩,fun j e' hj=>hj⟩
 have out:∀i,(L i\/i=d)->(s.h i).live->L i/\i≠d:=fun i hi li=>by
  by_cases e:i=d
  ·rw[e,hb] at li;exact li.elim
  exact⟨hi.resolve_right e,e⟩
 exact
 {tm:=fun j hj=>(sim.tm j hj).dQ T
  sz:=sim.sz,df:=sim.df,nb:=sim.nb,pn:=fun id h=>by rw[bQ _ _ (by omega)];exact sim.pn id h
  ev:=sim.ev
  s0:=sim.s0
  st:=sim.st
  sb:=sim.sb
  hp:=fun j hj=>by
   by_cases e:j=d
   ·subst e
    rw[hb]
    show bu S w (.sl es) (bI rho j hv j)
    rw[bc]
    exact hrep
   have hl:L j:=hj.resolve_right e
   exact (sim.hp j hl).dQ T (fun li g hg=>rfl) (fun _=>bQ _ _ e)
  dj:=fun i j g hi hj li lj eP iB=>by
   obtain⟨l1,e1⟩:=out i hi li
   obtain⟨l2,e2⟩:=out j hj lj
   rw[bQ _ _ e1] at eP
   rw[bQ _ _ e2] at iB
   exact sim.dj i j g l1 l2 li lj eP iB
  lv:=fun i g hi li eP=>by
   obtain⟨l1,e1⟩:=out i hi li
   rw[bQ _ _ e1] at eP
   exact sim.lv i g l1 li eP
  fr:=sim.fr }
theorem cm.CU {A:dc} {V L S:Nat->Prop} {rho:Nat->Value} {s:AS} {a:Act} {w:World} (sim:cm A V L S rho s a w) (hC:ct A.C) (id:Nat) (hL:L id) (cI:(s.h id).live) (b':AB) (iI:∀e,b'.kN=some e->(s.h id).kN=some e)
  (w':World) (ho:w'.os=w.os) (ht:w'.tape=w.tape) (hu:w'.output=w.output) (hsz:w'.heap.size=w.heap.size) (hold:∀k,cW (rho id)≠some k->w'.heap[k]?=w.heap[k]?)
  (hrep:kp S S w w' L L rho rho s.h (bI s.h id b')->fa S w' A.C.P L rho (bI s.h id b') id b') (hown:∀g,hasB w' b' (rho id) g->hasB w (s.h id) (rho id) g):cm A V L S rho ⟨s.t,bI s.h id b'⟩ a w':=by
 have iC:∀b,S b->w'.heap[b]?=w.heap[b]?:=fun k hk=>hold k fun e=>(sim.l5 id k hL cI e).2.1 hk
 have Hf:(s.h id).there:=by cases hh:s.h id <;> rw[hh] at cI <;> first | trivial | exact cI.elim
 have T:kp S S w w' L L rho rho s.h (bI s.h id b'):=by
  refine⟨fun b h=>h,iC,fun j hj=>⟨?_,fun hl=>⟨hl,rfl⟩⟩,fun j e' hj=>?_⟩
  ·rcases bT s.h id b' j with⟨rfl,h⟩ | ⟨_,h⟩
   ·exact Hf
   rw[h] at hj;exact hj
  rcases bT s.h id b' j with⟨rfl,h⟩ | ⟨_,h⟩
  ·rw[h] at hj;exact iI e' hj
  rw[h] at hj;exact hj
 have fD:∀j,((bI s.h id b') j).live->(s.h j).live:=by
  intro j hj
  rcases bT s.h id b' j with⟨rfl,h⟩ | ⟨h1,h⟩
  ·exact cI
  rw[h] at hj;exact hj
 have back:∀j g,L j->((bI s.h id b') j).live->hasB w' (bI s.h id b' j) (rho j) g->hasB w (s.h j) (rho j) g:=by
  intro j g hl hj EJ
  rcases bT s.h id b' j with⟨rfl,h⟩ | ⟨h1,h⟩
  ·rw[h] at EJ;exact hown g EJ
  rw[h] at EJ hj
  exact dA (fun k hk=>hold k fun e=>h1 (sim.K6 j id k hl hL hj cI hk e)) EJ
 exact
 {tm:=fun j hj=>(sim.tm j hj).dQ T
  sz:=sim.sz,df:=sim.df,nb:=sim.nb,pn:=sim.pn
  ev:=hC.env _ _ _ _ sim.ev (fun b h=>h) iC (Nat.le_of_eq hsz.symm)
  s0:=sim.s0
  st:=fun b hb=>by rw[hsz];exact sim.st b hb
  sb:=sim.sb
  hp:=fun j hj=>by
   rcases bT s.h id b' j with⟨rfl,h⟩ | ⟨h1,h⟩
   ·show fa _ _ _ _ _ _ _ (bI s.h j b' j)
    rw[h]
    exact hrep T
   show fa _ _ _ _ _ _ _ (bI s.h id b' j)
   rw[h]
   refine (sim.hp j hj).dQ T (fun li g hg=>hold g fun e=>?_) (fun _=>rfl)
   exact h1 (sim.dj j id g hj hL li cI hg (.inl e))
  dj:=fun i j g hi hj li lj eP iB=>sim.dj i j g hi hj (fD i li) (fD j lj) (back i g hi li eP) (back j g hj lj iB)
  lv:=fun i g hi li hg=>by rw[hsz];exact sim.lv i g hi (fD i li) (back i g hi li hg)
  fr:=sim.fr.next ho ht hu (Nat.le_of_eq hsz.symm) fun k hk hn=>hold k fun e=>by
   rcases (sim.l5 id k hL cI e).2.2 with h | h
   ·exact hn h
   omega }
theorem cm.write {A:dc} {V L S:Nat->Prop} {rho:Nat->Value} {s:AS} {a:Act} {w:World} (sim:cm A V L S rho s a w) (hC:ct A.C) (id:Nat) (hL:L id) (cI:(s.h id).live) (b':AB) (iI:∀e,b'.kN=some e->(s.h id).kN=some e)
  (w':World) (ho:w'.os=w.os) (ht:w'.tape=w.tape) (hu:w'.output=w.output) (hsz:w'.heap.size=w.heap.size) (hold:∀k,cW (rho id)≠some k->w'.heap[k]?=w.heap[k]?)
  (hrep:kp S S w w' L L rho rho s.h (bI s.h id b')->fa S w' A.C.P L rho (bI s.h id b') id b') (hnh:G1 b'=true:=by rfl):cm A V L S rho ⟨s.t,bI s.h id b'⟩ a w':=
 sim.CU hC id hL cI b' iI w' ho ht hu hsz hold hrep fun _ h=>.inl (aY hnh h)
theorem cm.lK {A:dc} {V L S:Nat->Prop} {rho:Nat->Value} {s:AS} {a:Act} {w:World} (sim:cm A V L S rho s a w) {dst:Option Tmp} (hd:∀d,dst=some d->d < A.n):dst.getD 0 < 100000:=by
 cases dst with
 | none=>exact Nat.zero_lt_succ _
 | some d=>exact Nat.lt_of_lt_of_le (hd d rfl) sim.nb
theorem mX {A:dc} {V L S:Nat->Prop} {rho:Nat->Value} {s:AS} {a:Act} {w:World} (sim:cm A V L S rho s a w) {x:AV} {v:Value} (h:pD s.h x=true) (hx:bK S w A.C.P L rho s.h x v):v.oneCell'=true:=by
 unfold pD at h
 split at h
 ·rw[hx.b_];exact h
 ·cases h
 ·rename_i y h1 h2
  have hy:=hx.fq
  cases hy with
  | im=>exact absurd rfl (h1 _)
  | ag cs vs=>exact absurd rfl (h2 cs)
  | nil=>rfl
  | sl=>rfl
  | ip=>rfl
  | fn=>rfl
 ·cases hx;rfl
 ·rename_i id
  split at h
  ·rename_i e es a7
   obtain⟨hL,hv⟩:=hx.db (by rw[a7];trivial)
   have hh:=sim.hp id hL
   rw[a7] at hh
   obtain⟨i,xs,_,_,h3,_⟩:=hh
   rw[hv]
   rcases h3.2 with⟨h4,_⟩ | ⟨g,cap,cur,h4,_⟩ <;> rw[h4] <;> rfl
  ·rename_i e es a7
   obtain⟨hL,hv⟩:=hx.db (by rw[a7];trivial)
   have hh:=sim.hp id hL
   rw[a7] at hh
   obtain⟨⟨i,xs,_,_,h3,_⟩,_⟩:=hh
   rw[hv]
   rcases h3.2 with⟨h4,_⟩ | ⟨g,cap,cur,h4,_⟩ <;> rw[h4] <;> rfl
  ·rename_i es a7
   obtain⟨hL,hv⟩:=hx.db (by rw[a7];trivial)
   have hh:=sim.hp id hL
   rw[a7] at hh
   obtain⟨ad,c,h4,_⟩:=bu.kR hh
   rw[hv,h4];rfl
  cases h
 ·rename_i id off
  split at h
  ·cases h
  rename_i dh
  have ht:(s.h id).there:=by
   cases hh:s.h id <;> first | trivial | exact absurd hh (by simpa using dh)
  obtain⟨_,g,_,hv⟩:=hx.gz ht
  rw[hv];rfl
 ·rename_i id i off
  split at h
  ·rename_i e es a7
   obtain⟨_,g,n,c,tj,_,_,hv⟩:=hx.rT a7
   rw[hv];rfl
  ·rename_i e es a7
   obtain⟨_,g,n,c,tj,_,_,hv⟩:=hx.oJ a7
   rw[hv];rfl
  cases h
 ·cases hx;rfl
 cases h
theorem cells_one {v:Value} (h:v.oneCell'=true):v.cells=#[v]:=by cases v <;> first | rfl | cases h
theorem qt {S:Nat->Prop} {w:World} {x:PV} {ys:List PV} {v:Value} (h:nU x=some ys) (hx:bu S w x v):v.cells.size=ys.length/\(∀u∈v.cells.toList,u.oneCell'=true)/\∀(j:Nat) y u,ys[j]?=some y->v.cells[j]?=some u->bu S w y u:=by
 have one:∀{v:Value},v.oneCell'=true->bu S w x v->ys=[x]->v.cells.size=ys.length/\(∀u∈v.cells.toList,u.oneCell'=true)/\∀(j:Nat) y u,ys[j]?=some y->v.cells[j]?=some u->bu S w y u:=by
  intro v h1 hx hy
  subst hy
  rw[cells_one h1]
  refine⟨rfl,by simpa using h1,fun j y u hj hu=>?_⟩
  cases j with
  | zero=>simp at hj hu;subst hj hu;exact hx
  | succ j=>simp at hj
 unfold nU at h
 split at h
 ·injection h with h
  subst h
  obtain⟨vs,rfl,h1,h2,h3⟩:=hx.nY
  exact⟨h1.symm,h2,h3⟩
 ·split at h
  ·rename_i h1
   injection h with h
   exact one (by rw[hx.b_];exact h1) hx h.symm
  cases h
 rename_i h1 h2
 injection h with h
 refine one ?_ hx h.symm
 cases hx with
 | im=>exact absurd rfl (h2 _)
 | ag cs=>exact absurd rfl (h1 cs)
 | nil=>rfl
 | sl=>rfl
 | ip=>rfl
 | fn=>rfl
theorem Hg {A:dc} {o:Oper} (e:TypeId) (x:Operand) (aZ:o.op=.box e x):gx A o:=by
 intro V L S rho s a w K next Q hC sim hV hd hq hn hnext
 simp only[bY,aZ] at hq
 have hx:=bL sim x fun j hj=>hV j (by simp[aZ,Op.operands,hj])
 have hr:(execOp a.eval o).run A.C.P w=.ok (.value (.pointer (some ⟨w.heap.size,0,none⟩))) (w.alloc (.cells (a.eval x).cells e)):=by
  simp[execOp,aZ,Instr.box,newVar,newRow,newObj,Sem.run]
 have main:∀cs:List AV,K (.bx (o.dst.getD 0) 0) [] (some (.box cs))->(a.eval x).cells.size=cs.length->(∀(j:Nat) y u,cs[j]?=some y->(a.eval x).cells[j]?=some u->u.oneCell'=true/\bK S w A.C.P L rho s.h y u)->o.wp A.C.P a w next Q:=by
  intro cs hq hl hc
  obtain⟨hL,hb⟩:=hn _ _ _ hq
  have cg:=sim.new hC (o.dst.getD 0) (.box cs) (sim.lK hd) hL hb (w.alloc (.cells (a.eval x).cells e)) rfl rfl rfl (by simp) (fun _=>False) (fun k hk _=>Below.heap_alloc _ _ _ hk) (fun _ h=>h.elim) (.pointer (some ⟨w.heap.size,0,none⟩))
   (fun g hg=>by simp[cW] at hg;subst hg;simp) (fun T=>⟨w.heap.size,e,(a.eval x).cells,bc _ _ _,heap_alloc_new w _,hl,fun j y u hj hu=>⟨(hc j y u hj hu).1,(hc j y u hj hu).2.dQ T⟩⟩)
  refine dR hr (hnext _ _ _ _ _ _ _ hq (cg.value o.dst hd _ _ (.bx _ _ _ fun _=>⟨.inr rfl,w.heap.size,bc _ _ _,rfl⟩)))
 split at hq
 ·rename_i cs kS
  rw[kS] at hx
  obtain⟨vs,hv,h1,h2,h3⟩:=hx.fq.nY
  refine main _ hq (by rw[hv];simp[Value.cells,h1]) fun j y u hj hu=>?_
  rw[hv] at hu
  rw[List.getElem?_map] at hj
  obtain⟨z,hz,rfl⟩:=Option.map_eq_some_iff.1 hj
  have nZ:vs[j]?=some u:=hu
  exact⟨h2 u (by simpa using Array.mem_of_getElem? nZ),.p _ _ (h3 j z u hz nZ)⟩
 ·rename_i xs kS
  rw[kS] at hx
  obtain⟨vs,hv,h1,h2,h3⟩:=hx.G6
  refine main _ hq (by rw[hv];simp[Value.cells,h1]) fun j y u hj hu=>?_
  rw[hv] at hu
  have nZ:vs[j]?=some u:=hu
  exact⟨h2 u (by simpa using Array.mem_of_getElem? nZ),h3 j y u hj nZ⟩
 split at hq
 ·rename_i h1
  have h2:=mX sim h1 hx
  refine main _ hq (by rw[cells_one h2];rfl) fun j y u hj hu=>?_
  rw[cells_one h2] at hu
  cases j with
  | zero=>simp at hj hu;subst hj hu;exact⟨h2,hx⟩
  | succ j=>simp at hj
 exact hq.elim
theorem CV {A:dc} {o:Oper} (e:TypeId) (aZ:o.op=.alloc e):gx A o:=by
 intro V L S rho s a w K next Q hC sim hV hd hq hn hnext
 simp only[bY,aZ] at hq
 split at hq
 ·rename_i ti hT
  obtain⟨info,z,hi,h1,h2,hz,eS,gO⟩:=(hC.gw e ti hT).info
  have hr:(execOp a.eval o).run A.C.P w=.ok (.value (.pointer (some ⟨w.heap.size,0,none⟩))) (w.alloc (.cells z.cells e)):=by
   simp[execOp,aZ,Instr.alloc,zeroValue,typeInfo,hi,hz,newVar,newRow,newObj,Sem.run]
  split at hq
  ·obtain⟨hL,hb⟩:=hn _ _ _ hq
   have cg:=sim.new hC (o.dst.getD 0) _ (sim.lK hd) hL hb (w.alloc (.cells z.cells e)) rfl rfl rfl (by simp) (fun _=>False) (fun k hk _=>Below.heap_alloc _ _ _ hk) (fun _ h=>h.elim) (.pointer (some ⟨w.heap.size,0,none⟩))
    (fun g hg=>by simp[cW] at hg;subst hg;simp) (fun T=>⟨w.heap.size,e,z.cells,bc _ _ _,heap_alloc_new w _,by rw[eS];simp,fun j y u hj hu=>by
     rw[eS] at hu
     rw[List.getElem?_map] at hj
     obtain⟨v,hv,rfl⟩:=Option.map_eq_some_iff.1 hj
     have nZ:ti.zero[j]?=some u:=by simpa using hu
     rw[hv] at nZ
     injection nZ with nZ
     subst nZ
     exact⟨gO v (List.mem_of_getElem? hv),rQ _ _ _ _ _ _ v⟩⟩)
   refine dR hr (hnext _ _ _ _ _ _ _ hq (cg.value o.dst hd _ _ (.bx _ _ _ fun _=>⟨.inr rfl,w.heap.size,bc _ _ _,rfl⟩)))
  obtain⟨hL,hb⟩:=hn _ _ _ hq
  have cg:=sim.new hC (o.dst.getD 0) _ (sim.lK hd) hL hb (w.alloc (.cells z.cells e)) rfl rfl rfl (by simp) (fun _=>False) (fun k hk _=>Below.heap_alloc _ _ _ hk) (fun _ h=>h.elim) (.pointer (some ⟨w.heap.size,0,none⟩))
   (fun g hg=>by simp[cW] at hg;subst hg;simp) (fun T=>⟨w.heap.size,z.cells,bc _ _ _,heap_alloc_new w _,by rw[eS];simp,fun j y u hj hu=>by
    rw[eS] at hu
    rw[List.getElem?_map] at hj
    obtain⟨v,hv,rfl⟩:=Option.map_eq_some_iff.1 hj
    have nZ:ti.zero[j]?=some u:=by simpa using hu
    rw[hv] at nZ
    injection nZ with nZ
    subst nZ
    exact⟨gO v (List.mem_of_getElem? hv),rQ _ _ _ _ _ _ v⟩⟩)
  refine dR hr (hnext _ _ _ _ _ _ _ hq (cg.value o.dst hd _ _ (.bx _ _ _ fun _=>⟨.inr rfl,w.heap.size,bc _ _ _,rfl⟩)))
 exact hq.elim
end Go.AM
namespace Go.AM
open Go.RowKit
theorem jk {id:Nat}:∀{fz:List (Nat×AB)} {h:Nat->AB},oD id fz=true->app h fz id=h id:=by
 intro fz
 induction fz with
 | nil=>intro h _;rfl
 | cons x fz ih=>
  intro h hn
  unfold oD at hn
  split at hn
  ·cases hn
  rename_i dh
  show app (bI h x.1 x.2) fz id=h id
  rw[ih hn,bQ _ _ (fun e=>by rw[e] at dh;simp at dh)]
theorem cT {α:Type}:∀(ys:List α) (cs:List α) (off:Nat),(setCells cs off ys).length=cs.length:=by
 intro ys
 induction ys with
 | nil=>intro cs off;rfl
 | cons y ys ih=>intro cs off;simp[setCells,ih]
theorem dU {α:Type}:∀(ys:List α) (cs:List α) (off j:Nat),off+ys.length<=cs.length->(setCells cs off ys)[j]?=if off<=j/\j < off+ys.length then ys[j - off]? else cs[j]?:=by
 intro ys
 induction ys with
 | nil=>intro cs off j _;simp only[setCells,List.length_nil];rw[if_neg (by omega)]
 | cons y ys ih=>
  intro cs off j hl
  simp only[List.length_cons] at hl ⊢
  simp only[setCells]
  rw[ih _ _ _ (by simp;omega)]
  by_cases h1:j=off
  ·subst h1
   rw[if_neg (by omega),if_pos (by omega),Nat.sub_self,List.getElem?_set_self (by omega)]
   rfl
  by_cases h2:off+1<=j/\j < off+1+ys.length
  ·rw[if_pos h2,if_pos (by omega),show j - off=(j - (off+1))+1 by omega,List.getElem?_cons_succ]
  rw[if_neg h2,if_neg (by omega),List.getElem?_set_ne (by omega)]
theorem kT {α:Type} (cs ys:List α) (off j:Nat) (hl:off+ys.length<=cs.length):(cs.take off++ys++cs.drop (off+ys.length))[j]?=if off<=j/\j < off+ys.length then ys[j - off]? else cs[j]?:=by
 have h0:(cs.take off).length=off:=by simp;omega
 by_cases h1:j < off
 ·rw[if_neg (by omega),List.append_assoc,List.getElem?_append_left (by omega),List.getElem?_take_of_lt h1]
 by_cases h2:j < off+ys.length
 ·rw[if_pos (by omega),List.append_assoc,List.getElem?_append_right (by omega),h0,List.getElem?_append_left (by omega)]
 rw[if_neg (by omega),List.append_assoc,List.getElem?_append_right (by omega),h0,List.getElem?_append_right (by omega),List.getElem?_drop]
 congr 1
 omega
theorem E7 {α:Type} (cs:List α) (off j:Nat) (y:α) (hl:off < cs.length):(cs.set off y)[j]?=if off<=j/\j < off+1 then [y][j - off]? else cs[j]?:=dU [y] cs off j hl
theorem l_ {P:Program} {w:World} {t:TypeId} {ti:TI} (h:ko P t ti) (g off:Nat) (ty:TypeId) (cur:Array Value) (v:Value) (hg:w.heap[g]?=some (.cells cur ty (0,0))) (hs:v.cells.size=ti.size) (hl:off+ti.size<=cur.size) (h1:∀u∈v.cells.toList,u.oneCell'=true):
  (Instr.storeAt t (.pointer (some ⟨g,off,none⟩)) v).run P w=.ok () (w.setRow g (cur.toList.take off++v.cells.toList++cur.toList.drop (off+v.cells.toList.length)).toArray):=by
 have:=run_storeCells_at P g off ty v.cells.toList 0 cur w hg (by simp[hs];omega) h1
 simp only[Nat.add_zero] at this
 simp[Instr.storeAt,Instr.sureAddr,storeVar,h.sizeOf,hs]
 simpa [hs] using this
theorem kU {P:Program} {a:Act} {o:Oper} {w w':World} {t:TypeId} {x y:Operand} (aZ:o.op=.store t x y) (h:(Instr.storeAt t (a.eval x) (a.eval y)).run P w=.ok () w'):(execOp a.eval o).run P w=.ok .skip w':=by
 simp only[execOp,aZ,Sem.run_bind,h,Result.andThen_ok,Sem.run_pure]
theorem a_.stored {α:Type} {P:Program} {w:World} {R R':α->Value->Prop} {e:TypeId} {es:List (List α)} {g n c:Nat} {tj:TypeInfo} (h:a_ P w R e es (.slice (some ⟨g,0,none⟩) n c)) (uD:P.info? e=some tj) {cur:Array Value} (hg:w.heap[g]?=some (.cells cur e (0,0)))
  {i off:Nat} {r:List α} (hr:es[i]?=some r) {ys:List α} {us:List Value} (hle:off+ys.length<=r.length) (hlen:us.length=ys.length) (gO:∀u∈us,u.oneCell'=true) (hR:∀x u,R x u->R' x u) (eS:∀(j:Nat) z u,ys[j]?=some z->us[j]?=some u->R' z u):
  a_ P (w.setRow g (cur.toList.take (i*tj.size+off)++us++cur.toList.drop (i*tj.size+off+us.length)).toArray) R' e (es.set i (setCells r off ys)) (.slice (some ⟨g,0,none⟩) n c):=by
 obtain⟨ie,xs,k1,k2,k3,k4,k5,k6⟩:=h
 rw[uD] at k1
 injection k1 with k1
 subst k1
 rcases k3.2 with⟨k7,_⟩ | ⟨g',cap,Hh,k7,_,k8,k9,K9,Hi,Jp⟩
 ·cases k7
 injection k7 with k7 kn kc
 injection k7 with k7
 injection k7 with k7
 subst k7 kn kc
 rw[hg] at k8
 injection k8 with k8
 injection k8 with k8
 subst k8
 have hi:=aW hr
 have wV:=k4 r (List.mem_of_getElem? hr)
 have Jq:i*tj.size+tj.size<=es.length*tj.size:=by rw[<-Nat.succ_mul];exact Nat.mul_le_mul_right _ hi
 have Jr:es.length*tj.size<=cur.size:=by rw[Hi];exact Nat.mul_le_mul_right _ k9
 have I1:xs.length=es.length*tj.size:=k3.1
 have tG:=fun j=>kT cur.toList us (i*tj.size+off) j (by simp;omega)
 have E8:=fun j=>dU us xs (i*tj.size+off) j (by omega)
 refine⟨tj,setCells xs (i*tj.size+off) us,uD,k2,⟨by rw[cT,I1,List.length_set],.inr ⟨g,c,_,by rw[List.length_set],Nat.zero_le _,setRow_heap w g cur _ e (0,0) hg,by rw[List.length_set];exact k9,K9,?_,?_⟩⟩,?_,?_,?_⟩
 ·simp only[List.size_toArray,List.length_append,List.length_take,List.length_drop,Array.length_toList]
  rw[Hi] at *
  omega
 ·apply List.ext_getElem?
  intro j
  rw[List.getElem?_take]
  simp only[List.length_set]
  split
  ·rename_i hj
   rw[tG,E8]
   split
   ·rfl
   rw[<-Jp,List.getElem?_take_of_lt hj]
  rename_i hj
  rw[List.getElem?_eq_none]
  rw[cT,I1]
  omega
 ·intro q LK
  rcases List.mem_or_eq_of_mem_set LK with h | h
  ·exact k4 q h
  rw[h,cT];exact wV
 ·intro u hu
  obtain⟨j,hj⟩:=List.mem_iff_getElem?.1 hu
  rw[E8] at hj
  split at hj
  ·exact gO u (List.mem_of_getElem? hj)
  exact k5 u (List.mem_of_getElem? hj)
 intro a' q j z pG hz
 have K_:q.length=tj.size:=by
  rcases List.mem_or_eq_of_mem_set (List.mem_of_getElem? pG) with h | h
  ·exact k4 q h
  rw[h,cT];exact wV
 have pC:=aW hz
 rw[E8]
 by_cases CW:a'=i
 ·subst CW
  rw[List.getElem?_set_self hi] at pG
  injection pG with pG
  subst pG
  rw[dU _ _ _ _ (by omega)] at hz
  split at hz
  ·rename_i n_
   rw[if_pos (by omega),show a'*tj.size+j - (a'*tj.size+off)=j - off by omega]
   have Np:=aW hz
   exact⟨us[j - off]'(by omega),List.getElem?_eq_getElem _,eS _ z _ hz (List.getElem?_eq_getElem _)⟩
  rename_i n_
  rw[if_neg (by omega)]
  obtain⟨u,hu,oC⟩:=k6 _ _ _ _ hr hz
  exact⟨u,hu,hR _ _ oC⟩
 rw[List.getElem?_set_ne (fun e=>CW e.symm)] at pG
 have dh:¬(i*tj.size+off<=a'*tj.size+j/\a'*tj.size+j < i*tj.size+off+us.length):=by
  rintro⟨h1,h2⟩
  rcases Nat.lt_or_gt_of_ne CW with h | h
  ·have:=Nat.mul_le_mul_right tj.size (Nat.succ_le_of_lt h)
   rw[Nat.succ_mul] at this
   omega
  have:=Nat.mul_le_mul_right tj.size (Nat.succ_le_of_lt h)
  rw[Nat.succ_mul] at this
  omega
 rw[if_neg dh]
 obtain⟨u,hu,oC⟩:=k6 _ _ _ _ pG hz
 exact⟨u,hu,hR _ _ oC⟩
theorem a_.block {α:Type} {P:Program} {w:World} {R:α->Value->Prop} {e:TypeId} {es:List (List α)} {g n c:Nat} (h:a_ P w R e es (.slice (some ⟨g,0,none⟩) n c)) {tj:TypeInfo} (uD:P.info? e=some tj):∃cur:Array Value,w.heap[g]?=some (.cells cur e (0,0))/\es.length*tj.size<=cur.size/\(∀r∈es,r.length=tj.size)/\0 < tj.size:=by
 obtain⟨ie,xs,k1,k2,k3,k4,k5,k6⟩:=h
 rw[uD] at k1
 injection k1 with k1
 subst k1
 rcases k3.2 with⟨k7,_⟩ | ⟨g',cap,Hh,k7,_,k8,k9,K9,Hi,Jp⟩
 ·cases k7
 injection k7 with k7 kn kc
 injection k7 with k7
 injection k7 with k7
 subst k7
 exact⟨Hh,k8,by rw[Hi];exact Nat.mul_le_mul_right _ k9,k4,k2⟩
theorem kr {g o n c:Nat} {p:Option Nat} {k:Nat}:cW (.slice (some ⟨g,o,p⟩) n c)=some k↔k=g:=by
 simp only[cW,Option.some.injEq]
 exact⟨fun h=>h.symm,fun h=>h.symm⟩
theorem qY.CX {P:Program} {w:World} {R:HX->Value->Prop} {e:TypeId} {es:List (List HX)} {v:Value} (hS:qY w es v) (h:a_ P w R e es v):
  a_ P w (fun x u=>R x u/\∀e' nX,x=.row e' nX->∀g b,cW v=some g->cW u=some b->b≠g) e es v:=by
 obtain⟨i,xs,h1,h2,h3,h4,h5,h6⟩:=h
 refine⟨i,xs,h1,h2,h3,h4,h5,fun a r j x ha hj=>?_⟩
 obtain⟨u,hu,hr⟩:=h6 a r j x ha hj
 refine⟨u,hu,hr,fun e' nX hx g b hg hb=>?_⟩
 subst hx
 have wV:=h4 r (List.mem_of_getElem? ha)
 rcases h3.2 with⟨hn,hz⟩ | ⟨g',cap,cur,hv,_,Cz,k1,k2,k3,k4⟩
 ·have:=(List.getElem?_eq_some_iff.1 ha).1
  omega
 rw[hv] at hg
 obtain rfl:=kr.1 hg
 refine hS.top g a j u b (by rw[hv];rfl) ⟨r,e',nX,_,_,_,ha,hj,Cz,?_⟩ hb
 rw[wV]
 rw[<-k4,List.getElem?_take] at hu
 split at hu
 ·simpa using hu
 cases hu
theorem cm.E9 {A:dc} {V L S:Nat->Prop} {rho:Nat->Value} {s:AS} {a:Act} {w:World} (sim:cm A V L S rho s a w) (hC:ct A.C) {id:Nat} (hL:L id) {e:TypeId} {es:List (List HX)} (a7:s.h id=.a7 e es) {g n c:Nat} (hg:rho id=.slice (some ⟨g,0,none⟩) n c) {tj:TypeInfo} (uD:A.C.P.info? e=some tj)
  {i off:Nat} {r:List HX} (hr:es[i]?=some r) (hle:off+1<=r.length) {x:AV} {u:Value} (gO:u.oneCell'=true) (hx:bK S w A.C.P L rho s.h x u):
  ∃cur:Array Value,w.heap[g]?=some (.cells cur e (0,0))/\i*tj.size+off+1<=cur.size/\cm A V L S rho ⟨s.t,bI s.h id (.a7 e (es.set i (r.set off (.av x))))⟩ a (w.setRow g (cur.toList.take (i*tj.size+off)++[u]++cur.toList.drop (i*tj.size+off+1)).toArray):=by
 have hh:=sim.hp id hL
 rw[a7] at hh
 obtain⟨hR,hS⟩:=hh
 rw[hg] at hR hS
 obtain⟨cur,w5,hsz,hlen,hpos⟩:=hR.block uD
 have hi:=aW hr
 have wV:=hlen r (List.mem_of_getElem? hr)
 have Jq:i*tj.size+tj.size<=es.length*tj.size:=by rw[<-Nat.succ_mul];exact Nat.mul_le_mul_right _ hi
 have oN:∀k j v,gd (w.setRow g (cur.toList.take (i*tj.size+off)++[u]++cur.toList.drop (i*tj.size+off+1)).toArray) (es.set i (r.set off (.av x))) g k j v->gd w es g k j v:=by
  rintro k j v ⟨q,e',nX,c',N3,m',h1,h2,h3,h4⟩
  rw[setRow_heap w g cur _ e (0,0) w5] at h3
  injection h3 with h3
  injection h3 with h3 h3' N4
  have pC:=aW h2
  have K_:q.length=tj.size:=by
   rcases List.mem_or_eq_of_mem_set (List.mem_of_getElem? h1) with h | h
   ·exact hlen q h
   rw[h,List.length_set];exact wV
  have key:∀p,p≠i*tj.size+off->c'[p]?=some v->cur[p]?=some v:=fun p hp h=>by
   rw[<-h3] at h
   have h:(cur.toList.take (i*tj.size+off)++[u]++cur.toList.drop (i*tj.size+off+1))[p]?=some v:=by simpa using h
   have h2:=kT cur.toList [u] (i*tj.size+off) p (by simp;omega)
   simp only[List.length_singleton] at h2
   rw[h2,if_neg (by omega)] at h
   simpa using h
  by_cases LL:k=i
  ·subst LL
   rw[List.getElem?_set_self hi] at h1
   injection h1 with h1
   subst h1
   have Np:j≠off:=fun e0=>by
    subst e0
    rw[List.getElem?_set_self (by omega)] at h2
    injection h2 with h2
    cases h2
   rw[List.getElem?_set_ne (fun e=>Np e.symm)] at h2
   refine⟨r,e',nX,cur,_,_,hr,h2,w5,?_⟩
   rw[K_] at h4
   rw[wV]
   exact key _ (by omega) h4
  rw[List.getElem?_set_ne (fun e=>LL e.symm)] at h1
  refine⟨q,e',nX,cur,_,_,h1,h2,w5,?_⟩
  refine key _ ?_ h4
  rw[K_]
  intro he
  rcases Nat.lt_or_gt_of_ne LL with h | h
  ·have:=Nat.mul_le_mul_right tj.size (Nat.succ_le_of_lt h)
   rw[Nat.succ_mul] at this
   omega
  have:=Nat.mul_le_mul_right tj.size (Nat.succ_le_of_lt h)
  rw[Nat.succ_mul] at this
  omega
 refine⟨cur,w5,by omega,?_⟩
 refine sim.CU hC id hL (by rw[a7];trivial) _ (fun e' h=>by rw[a7];exact h) _ (setRow_os w g _) (setRow_tape w g _) (setRow_output w g _) (setRow_size w g _) (fun k hk=>setRow_other w g k _ fun e=>hk (by rw[hg,e];rfl)) (fun T=>?_) (fun k hk=>?_)
 ·show a_ _ _ _ _ _ (rho id)/\qY _ _ (rho id)
  rw[hg]
  refine⟨(hS.CX hR).stored uD w5 (ys:=[.av x]) (us:=[u]) hr hle rfl (by simpa using gO) (fun y v hy=>?_) (fun j z v hz hv=>?_),?_⟩
  ·cases y with
   | av y=>exact bK.dQ T hy.1
   | row e' nX=>exact a_.dQ hy.1 (fun k hk=>setRow_other w g k _ (hy.2 _ _ rfl g k rfl hk)) (fun x u hu=>hu.mono T.hS T.keep)
  ·cases j with
   | zero=>simp at hz hv;subst hz hv;exact bK.dQ T hx
   | succ j=>simp at hz
  exact⟨fun g' k j v b h1 h2 h3=>by
   obtain rfl:=kr.1 h1
   exact hS.top _ k j v b h1 (oN k j v h2) h3,fun g' k j k' j' v v' b h1 h2 h3 h4 h5=>by
   obtain rfl:=kr.1 h1
   exact hS.dis _ k j k' j' v v' b h1 (oN k j v h2) (oN k' j' v' h3) h4 h5⟩
 rw[a7]
 rcases hk with hk | ⟨cs,g',h,_⟩ | ⟨e',dw,g',k',j,v,h1,h2,h3,h4⟩
 ·exact .inl hk
 ·cases h
 injection h1 with h1 oI
 subst h1 oI
 have qu:=h2
 rw[hg] at qu
 obtain rfl:=kr.1 qu
 exact .inr (.inr ⟨_,_,_,_,_,_,rfl,h2,oN _ _ _ h3,h4⟩)
theorem CY {A:dc} {o:Oper} (t:TypeId) (x y:Operand) (aZ:o.op=.store t x y):gx A o:=by
 intro V L S rho s a w K next Q hC sim hV hd hq hn hnext
 simp only[bY,aZ] at hq
 have hx:=bL sim x fun j hj=>hV j (by simp[aZ,Op.operands,hj])
 have hy:=bL sim y fun j hj=>hV j (by simp[aZ,Op.operands,hj])
 split at hq
 ·exact hq.elim
 rename_i ti hT
 have eW:=hC.gw t ti hT
 split at hq
 ·rename_i id off Hj
  rw[Hj] at hx
  split at hq
  ·rename_i cs bC
   obtain⟨hL,g,hg,hv⟩:=hx.gz (by rw[bC];trivial)
   have main:∀(S2:Nat->Prop) (s2:AS) (jF:List AV) (ws:List AV),cm A V L S2 rho s2 a w->s2.h id=.box cs->(a.eval y).cells.size=ti.size->ws.length=ti.size->off+ti.size<=cs.length->(∀u∈(a.eval y).cells.toList,u.oneCell'=true)->
     (∀(j:Nat) z u,ws[j]?=some z->(a.eval y).cells[j]?=some u->bK S2 w A.C.P L rho s2.h z u)->jF.length=cs.length->(∀j,jF[j]?=if off<=j/\j < off+ws.length then ws[j - off]? else cs[j]?)->
     ∃w',(execOp a.eval o).run A.C.P w=.ok .skip w'/\cm A V L S2 rho ⟨s2.t,bI s2.h id (.box jF)⟩ a w':=by
    intro S2 s2 jF ws bN qZ hsz LM hle gO eS hlen jX
    have hh:=bN.hp id hL
    rw[qZ] at hh
    obtain⟨g',ty,c,k1,k2,k3,k4⟩:=hh
    rw[hg] at k1
    injection k1 with k1
    injection k1 with k1
    injection k1 with k1
    subst k1
    have hrun:=l_ (w:=w) eW g off ty c (a.eval y) k2 hsz (by omega) gO
    refine⟨_,kU aZ (by rw[hv];exact hrun),?_⟩
    refine bN.write hC id hL (by rw[qZ];trivial) (.box jF) (fun _ h=>by cases h) _ (by simp) (by simp) (by simp) (by simp) (fun k hk=>setRow_other w g k _ fun e=>hk (by rw[hg,e];rfl)) fun T=>?_
    have hcl:(a.eval y).cells.toList.length=ti.size:=by simpa using hsz
    refine⟨g,ty,_,hg,setRow_heap w g c _ ty (0,0) k2,by simp[hcl];omega,fun j z u hj hu=>?_⟩
    have nZ:(c.toList.take off++(a.eval y).cells.toList++c.toList.drop (off+(a.eval y).cells.toList.length))[j]?=some u:=by simpa using hu
    rw[kT _ _ _ _ (by rw[hcl];simpa [k3] using hle)] at nZ
    rw[jX j] at hj
    rw[hcl] at nZ
    rw[LM] at hj
    split at hj
    ·rename_i n_
     rw[if_pos n_] at nZ
     have LN:(a.eval y).cells[j - off]?=some u:=by simpa using nZ
     exact⟨gO u (List.mem_of_getElem? nZ),(eS _ z u hj LN).dQ T⟩
    rename_i n_
    rw[if_neg n_] at nZ
    have LN:c[j]?=some u:=by simpa using nZ
    obtain⟨h5,h6⟩:=k4 _ _ _ hj LN
    exact⟨h5,h6.dQ T⟩
   split at hq
   ·rename_i qq
    obtain⟨yv,fz,S2,hq,bN,hrep,vi,hF,w4⟩:=gh hC sim (lU.refl s.h) hy hq
    split at hq
    ·rename_i ys
     split at hq
     ·rename_i iD
      simp only[Bool.and_eq_true] at iD
      obtain⟨⟨e1,e2⟩,e3⟩:=iD
      have e1:=gy e1
      have e2:=iJ e2
      obtain⟨vs,CZ,h1,h2,h3⟩:=hrep.nY
      have hcl:(a.eval y).cells=vs:=by rw[CZ];rfl
      obtain⟨w',hrun,fw⟩:=main S2 _ (setCells cs off (ys.map IX)) (ys.map IX) bN (by simp only;rw[jk e3];exact bC) (by rw[hcl];omega) (by simpa using e1) e2 (by rw[hcl];exact h2)
       (fun j z u hj hu=>by
        rw[hcl] at hu
        rw[List.getElem?_map] at hj
        obtain⟨z',hz,rfl⟩:=Option.map_eq_some_iff.1 hj
        exact Az (h3 j z' u hz hu)) (cT _ _ _) (fun j=>dU _ _ _ _ (by simpa [e1] using e2))
      refine l6 hrun (hnext _ _ _ S2 rho _ _ hq ?_)
      have:=fw.value o.dst hd .junk undef (.junk _)
      simp only[cC,app]
      exact this
     exact hq.elim
    exact hq.elim
   rename_i qq
   split at hq
   ·rename_i iD
    simp only[Bool.and_eq_true] at iD
    obtain⟨⟨e1,e2⟩,e3⟩:=iD
    have e1:=iJ e1
    have e2:=gy e2
    have h1:=mX sim e3 hy
    have hcl:=cells_one h1
    obtain⟨w',hrun,fw⟩:=main S s (cs.set off (ev s.t y)) [ev s.t y] sim bC (by rw[hcl,e2];rfl) (by rw[e2];rfl) (by omega) (by rw[hcl];simpa using h1)
     (fun j z u hj hu=>by
      rw[hcl] at hu
      cases j with
      | zero=>simp at hj hu;subst hj hu;exact hy
      | succ j=>simp at hj) (by simp) (fun j=>E7 _ _ _ _ (by omega))
    refine l6 hrun (hnext _ _ _ S rho _ _ hq ?_)
    exact fw.value o.dst hd .junk undef (.junk _)
   exact hq.elim
  exact hq.elim
 ·rename_i id i off Hj
  rw[Hj] at hx
  split at hq
  ·rename_i e es a7
   obtain⟨hL,g,n,c,tj,hg,uD,hv⟩:=hx.rT a7
   obtain⟨r,hr,hq⟩:=hq
   obtain⟨yv,fz,S2,hq,bN,hrep,vi,hF,w4⟩:=gh hC sim (lU.refl s.h) hy hq
   split at hq
   ·rename_i ys Hk
    split at hq
    ·rename_i iD
     simp only[Bool.and_eq_true] at iD
     obtain⟨⟨e1,e2⟩,e3⟩:=iD
     have e1:=gy e1
     have e2:=iJ e2
     obtain⟨LO,gO,eS⟩:=qt Hk hrep
     have qZ:(app s.h fz) id=.row e es:=by rw[jk e3];exact a7
     have hh:=bN.hp id hL
     have hh:fa S2 w A.C.P L rho (app s.h fz) id ((app s.h fz) id):=hh
     rw[qZ] at hh
     obtain⟨ie,xs,k1,k2,k3,k4,k5,k6⟩:=hh
     rw[uD] at k1
     injection k1 with k1
     subst k1
     rw[hg] at k3
     rcases k3.2 with⟨k7,_⟩ | ⟨g',cap,cur,k7,_,k8,k9,K9,Hi,Jp⟩
     ·cases k7
     injection k7 with k7 kn kc
     injection k7 with k7
     injection k7 with k7
     subst k7 kn kc
     have hi:=aW hr
     have wV:=k4 r (List.mem_of_getElem? hr)
     have Jq:i*tj.size+tj.size<=es.length*tj.size:=by rw[<-Nat.succ_mul];exact Nat.mul_le_mul_right _ hi
     have Jr:es.length*tj.size<=cur.size:=by rw[Hi];exact Nat.mul_le_mul_right _ k9
     have hcl:(a.eval y).cells.toList.length=ti.size:=by simp;omega
     have hrun:=l_ (w:=w) eW g (i*tj.size+off) e cur (a.eval y) k8 (by omega) (by omega) gO
     refine l6 (kU aZ (by rw[hv];exact hrun)) (hnext _ _ _ S2 rho _ _ hq ?_)
     have fw:cm A V L S2 rho ⟨s.t,bI (app s.h fz) id (.row e (es.set i (setCells r off ys)))⟩ a (w.setRow g (cur.toList.take (i*tj.size+off)++(a.eval y).cells.toList++cur.toList.drop (i*tj.size+off+(a.eval y).cells.toList.length)).toArray):=by
      refine bN.write hC id hL (by show (app s.h fz id).live;rw[qZ];trivial) (.row e (es.set i (setCells r off ys))) (fun e' h=>by show (app s.h fz id).kN=_;rw[qZ];exact h) _ (setRow_os w g _) (setRow_tape w g _) (setRow_output w g _) (setRow_size w g _)
       (fun k hk=>setRow_other w g k _ fun e=>hk (by rw[hg,e];rfl)) (fun T=>?_)
      show a_ _ _ _ _ _ (rho id)
      rw[hg]
      have I1:xs.length=es.length*tj.size:=k3.1
      have w5:∀(j:Nat) u,xs[j]?=some u->cur.toList[j]?=some u:=fun j u hj=>by
       rw[<-Jp] at hj
       rw[List.getElem?_take] at hj
       split at hj
       ·exact hj
       cases hj
      have tG:=fun j=>kT cur.toList (a.eval y).cells.toList (i*tj.size+off) j (by rw[hcl];simp;omega)
      have E8:=fun j=>dU (a.eval y).cells.toList xs (i*tj.size+off) j (by rw[hcl,I1];omega)
      refine⟨tj,setCells xs (i*tj.size+off) (a.eval y).cells.toList,uD,k2,⟨by rw[cT,I1,List.length_set],.inr ⟨g,c,_,by rw[List.length_set],Nat.zero_le _,setRow_heap w g cur _ e (0,0) k8,by rw[List.length_set];exact k9,K9,?_,?_⟩⟩,?_,?_,?_⟩
      ·simp only[List.size_toArray,List.length_append,List.length_take,List.length_drop,Array.length_toList]
       rw[Hi] at *
       simp at hcl
       omega
      ·apply List.ext_getElem?
       intro j
       rw[List.getElem?_take]
       simp only[List.length_set]
       split
       ·rename_i hj
        rw[tG,E8]
        split
        ·rfl
        rw[<-Jp,List.getElem?_take_of_lt hj]
       rename_i hj
       rw[List.getElem?_eq_none]
       rw[cT,I1]
       omega
      ·intro q LK
       rcases List.mem_or_eq_of_mem_set LK with h | h
       ·exact k4 q h
       rw[h,cT];exact wV
      ·intro u hu
       obtain⟨j,hj⟩:=List.mem_iff_getElem?.1 hu
       rw[E8] at hj
       split at hj
       ·exact gO u (List.mem_of_getElem? hj)
       exact k5 u (List.mem_of_getElem? hj)
      intro a' q j z pG hz
      have K_:q.length=tj.size:=by
       rcases List.mem_or_eq_of_mem_set (List.mem_of_getElem? pG) with h | h
       ·exact k4 q h
       rw[h,cT];exact wV
      have pC:=aW hz
      rw[E8]
      by_cases CW:a'=i
      ·subst CW
       rw[List.getElem?_set_self hi] at pG
       injection pG with pG
       subst pG
       rw[dU _ _ _ _ (by omega)] at hz
       split at hz
       ·rename_i n_
        rw[if_pos (by omega),show a'*tj.size+j - (a'*tj.size+off)=j - off by omega]
        obtain⟨u,hu⟩:=hY LO.symm (aW hz)
        exact⟨u,by simpa using hu,(eS _ z u hz hu).mono T.hS T.keep⟩
       rename_i n_
       rw[if_neg (by omega)]
       obtain⟨u,hu,oC⟩:=k6 _ _ _ _ hr hz
       exact⟨u,hu,oC.mono T.hS T.keep⟩
      rw[List.getElem?_set_ne (fun e=>CW e.symm)] at pG
      have dh:¬(i*tj.size+off<=a'*tj.size+j/\a'*tj.size+j < i*tj.size+off+(a.eval y).cells.toList.length):=by
       rintro⟨h1,h2⟩
       rcases Nat.lt_or_gt_of_ne CW with h | h
       ·have:=Nat.mul_le_mul_right tj.size (Nat.succ_le_of_lt h)
        rw[Nat.succ_mul] at this
        omega
       have:=Nat.mul_le_mul_right tj.size (Nat.succ_le_of_lt h)
       rw[Nat.succ_mul] at this
       omega
      rw[if_neg dh]
      obtain⟨u,hu,oC⟩:=k6 _ _ _ _ pG hz
      exact⟨u,hu,oC.mono T.hS T.keep⟩
     have:=fw.value o.dst hd .junk undef (.junk _)
     simp only[cC,app]
     exact this
    exact hq.elim
   exact hq.elim
  ·rename_i e es a7
   obtain⟨hL,g,n,c,tj,hg,uD,hv⟩:=hx.oJ a7
   obtain⟨r,hr,hq⟩:=hq
   split at hq
   ·exact hq.elim
   split at hq
   ·rename_i iD
    simp only[Bool.and_eq_true] at iD
    obtain⟨⟨e1,e2⟩,e3⟩:=iD
    have e1:=iJ e1
    have e2:=gy e2
    have h1:=mX sim e3 hy
    have hcl:=cells_one h1
    obtain⟨cur,w5,hsz,fw⟩:=sim.E9 hC hL a7 hg uD hr e1 h1 hy
    have hrun:=l_ (w:=w) eW g (i*tj.size+off) e cur (a.eval y) w5 (by rw[hcl,e2];rfl) (by omega) (by rw[hcl];simpa using h1)
    rw[hcl] at hrun
    refine l6 (kU aZ (by rw[hv];exact hrun)) (hnext _ _ _ S rho _ _ hq ?_)
    exact fw.value o.dst hd .junk undef (.junk _)
   exact hq.elim
  exact hq.elim
 exact hq.elim
end Go.AM
namespace Go.AM
open Go.RowKit
theorem Hl {A:dc} {o:Oper} (c:Call) (aZ:o.op=.call c) (hc:c.callee=.builtin .len):gx A o:=by
 intro V L S rho s a w K next Q hC sim hV hd hq _ hnext
 obtain⟨callee,args,argTypes⟩:=c
 simp only at hc
 subst hc
 simp only[bY,aZ,eh,eN] at hq
 split at hq
 ·rename_i x t hargs C0
  have hx:=bL sim x fun j hj=>hV j (by simp[aZ,Op.operands,Call.operands,hj];rw[<-hj];exact Array.mem_toList_iff.1 (by rw[hargs];simp))
  have e1:args=#[x]:=by rw[<-Array.toArray_toList (xs:=args),hargs]
  have e2:argTypes=#[t]:=by rw[<-Array.toArray_toList (xs:=argTypes),C0]
  subst e1 e2
  split at hq
  ·rename_i size bytes zero eq hT
   have eW:=(hC.gw t _ hT).under
   simp only at eW
   split at hq
   ·rename_i st wR
    rw[wR] at hx
    exact ba sim hd hnext hq (.p _ _ (.im _)) (by simp[execOp,aZ,resolve,invoke,builtin,hx.b_,Builtin.len_,run_underlying eW,goInt])
   exact hq.elim
  ·rename_i e size bytes zero eq hT
   have eW:=(hC.gw t _ hT).under
   simp only at eW
   have fin:∀(es:List (List PV)) ad c,K (.p (.im (.int .i64 es.length))) [] none->a.eval x=.slice ad es.length c->o.wp A.C.P a w next Q:=fun es ad c hq he=>
    ba sim hd hnext hq (.p _ _ (.im _)) (by simp[execOp,aZ,resolve,invoke,builtin,he,Builtin.len_,run_underlying eW,goInt])
   split at hq
   ·rename_i m hm
    unfold hlen at hm
    split at hm
    ·rename_i id AE
     rw[AE] at hx
     split at hm
     ·rename_i e' es a7
      injection hm with hm
      subst hm
      obtain⟨hL,hv⟩:=hx.db (by rw[a7];trivial)
      have hh:=sim.hp id hL
      rw[a7] at hh
      obtain⟨⟨i,xs,_,_,h3,_⟩,_⟩:=hh
      obtain⟨ad,c,LP⟩:∃ad c,rho id=.slice ad es.length c:=by
       rcases h3.2 with⟨h4,h5⟩ | ⟨g,cap,cur,h4,_⟩
       ·exact⟨none,0,by rw[h4,h5]⟩
       exact⟨_,cap,h4⟩
      exact ba sim hd hnext hq (.p _ _ (.im _)) (by simp[execOp,aZ,resolve,invoke,builtin,hv,LP,Builtin.len_,run_underlying eW,goInt])
     cases hm
    cases hm
   unfold fB at hq
   split at hq
   ·rename_i es AE
    rw[AE] at hx
    obtain⟨ad,c,hv,_⟩:=hx.fq.kR
    exact fin es ad c hq hv
   ·rename_i AE
    rw[AE] at hx
    have:a.eval x=.slice none 0 0:=by cases h:a.eval x <;> rw[h] at hx <;> cases hx;rfl
    exact fin [] none 0 hq this
   ·rename_i id AE
    rw[AE] at hx
    split at hq
    ·rename_i e' es a7
     obtain⟨hL,hv⟩:=hx.db (by rw[a7];trivial)
     have hh:=sim.hp id hL
     rw[a7] at hh
     obtain⟨i,xs,_,_,h3,_⟩:=hh
     rcases h3.2 with⟨h4,h5⟩ | ⟨g,cap,cur,h4,_⟩
     ·exact fin es none 0 hq (by rw[hv,h4,h5])
     exact fin es _ cap hq (by rw[hv,h4])
    ·rename_i es a7
     obtain⟨hL,hv⟩:=hx.db (by rw[a7];trivial)
     have hh:=sim.hp id hL
     rw[a7] at hh
     obtain⟨ad,c,h4,_⟩:=bu.kR hh
     exact fin es ad c hq (by rw[hv,h4])
    exact hq.elim
   exact hq.elim
  ·rename_i kt et size bytes zero eq hT
   have eW:=(hC.gw t _ hT).under
   simp only at eW
   split at hq
   case h_2=>exact hq.elim
   rename_i id hid
   split at hq
   case h_2=>exact hq.elim
   rename_i mk es hm
   rw[hid] at hx
   obtain⟨hL,hv⟩:=hx.db (by rw[hm];trivial)
   have hh:=sim.hp id hL
   rw[hm] at hh
   obtain⟨g,ms,clock,h1,h2,h3,_⟩:=hh
   exact ba sim hd hnext hq (.p _ _ (.im _)) (by simp[execOp,aZ,resolve,invoke,builtin,hv,h1,Builtin.len_,run_underlying eW,MapKept.run_getObj_map h2,h3,goInt])
  exact hq.elim
 exact hq.elim
theorem Hm {A:dc} {o:Oper} (c:Call) (aZ:o.op=.call c) (hc:c.callee=.builtin .min):gx A o:=by
 intro V L S rho s a w K next Q hC sim hV hd hq _ hnext
 obtain⟨callee,args,argTypes⟩:=c
 simp only at hc
 subst hc
 simp only[bY,aZ,eh,eN] at hq
 split at hq
 ·rename_i x y hargs
  have hx:=bL sim x fun j hj=>hV j (by simp[aZ,Op.operands,Call.operands,hj];rw[<-hj];exact Array.mem_toList_iff.1 (by rw[hargs];simp))
  have hy:=bL sim y fun j hj=>hV j (by simp[aZ,Op.operands,Call.operands,hj];rw[<-hj];exact Array.mem_toList_iff.1 (by rw[hargs];simp))
  have e1:args=#[x,y]:=by rw[<-Array.toArray_toList (xs:=args),hargs]
  subst e1
  split at hq
  ·rename_i k m k' n h1 h2
   rw[h1] at hx;rw[h2] at hy
   exact ba sim hd hnext hq (.p _ _ (.im _)) (by
    simp[execOp,aZ,resolve,invoke,builtin,hx.b_,hy.b_,Builtin.min_,Builtin.min2]
    rw[Int.min_def]
    split <;> split <;> omega)
  exact hq.elim
 exact hq.elim
theorem w6 {P:Program} {w:World} (k k':IntKind) (m n:Int):(Builtin.max2 (.int k m) (.int k' n)).run P w=.ok (.int k (max m n)) w:=by
 simp only[Builtin.max2,Sem.run_pure]
 rw[Int.max_def]
 by_cases h:n > m
 ·rw[if_pos h,if_pos (by omega)]
 rw[if_neg h]
 by_cases h2:m<=n
 ·rw[if_pos h2,show m=n by omega]
 rw[if_neg h2]
theorem Ho {A:dc} {o:Oper} (c:Call) (aZ:o.op=.call c) (hc:c.callee=.builtin .max):gx A o:=by
 intro V L S rho s a w K next Q hC sim hV hd hq _ hnext
 obtain⟨callee,args,argTypes⟩:=c
 simp only at hc
 subst hc
 simp only[bY,aZ,eh,eN] at hq
 split at hq
 ·rename_i x y hargs
  have hx:=bL sim x fun j hj=>hV j (by simp[aZ,Op.operands,Call.operands,hj];rw[<-hj];exact Array.mem_toList_iff.1 (by rw[hargs];simp))
  have hy:=bL sim y fun j hj=>hV j (by simp[aZ,Op.operands,Call.operands,hj];rw[<-hj];exact Array.mem_toList_iff.1 (by rw[hargs];simp))
  have e1:args=#[x,y]:=by rw[<-Array.toArray_toList (xs:=args),hargs]
  subst e1
  split at hq
  ·rename_i k m k' n h1 h2
   rw[h1] at hx;rw[h2] at hy
   exact ba sim hd hnext hq (.p _ _ (.im _)) (by
    simp[execOp,aZ,resolve,invoke,builtin,hx.b_,hy.b_,Builtin.max_,Builtin.max2]
    rw[Int.max_def]
    split <;> split <;> omega)
  exact hq.elim
 ·rename_i x y z hargs
  have hx:=bL sim x fun j hj=>hV j (by simp[aZ,Op.operands,Call.operands,hj];rw[<-hj];exact Array.mem_toList_iff.1 (by rw[hargs];simp))
  have hy:=bL sim y fun j hj=>hV j (by simp[aZ,Op.operands,Call.operands,hj];rw[<-hj];exact Array.mem_toList_iff.1 (by rw[hargs];simp))
  have hz:=bL sim z fun j hj=>hV j (by simp[aZ,Op.operands,Call.operands,hj];rw[<-hj];exact Array.mem_toList_iff.1 (by rw[hargs];simp))
  have e1:args=#[x,y,z]:=by rw[<-Array.toArray_toList (xs:=args),hargs]
  subst e1
  split at hq
  ·rename_i k0 m0 k1 m1 k2 m2 g0 g1 g2
   rw[g0] at hx
   rw[g1] at hy
   rw[g2] at hz
   exact ba sim hd hnext hq (.p _ _ (.im _)) (by
    simp[execOp,aZ,resolve,invoke,builtin,hx.b_,hy.b_,hz.b_,Builtin.max_,w6])
  exact hq.elim
 ·rename_i x y z u v hargs
  have hx:=bL sim x fun j hj=>hV j (by simp[aZ,Op.operands,Call.operands,hj];rw[<-hj];exact Array.mem_toList_iff.1 (by rw[hargs];simp))
  have hy:=bL sim y fun j hj=>hV j (by simp[aZ,Op.operands,Call.operands,hj];rw[<-hj];exact Array.mem_toList_iff.1 (by rw[hargs];simp))
  have hz:=bL sim z fun j hj=>hV j (by simp[aZ,Op.operands,Call.operands,hj];rw[<-hj];exact Array.mem_toList_iff.1 (by rw[hargs];simp))
  have hu:=bL sim u fun j hj=>hV j (by simp[aZ,Op.operands,Call.operands,hj];rw[<-hj];exact Array.mem_toList_iff.1 (by rw[hargs];simp))
  have hv:=bL sim v fun j hj=>hV j (by simp[aZ,Op.operands,Call.operands,hj];rw[<-hj];exact Array.mem_toList_iff.1 (by rw[hargs];simp))
  have e1:args=#[x,y,z,u,v]:=by rw[<-Array.toArray_toList (xs:=args),hargs]
  subst e1
  split at hq
  ·rename_i k0 m0 k1 m1 k2 m2 k3 m3 k4 m4 g0 g1 g2 g3 g4
   rw[g0] at hx
   rw[g1] at hy
   rw[g2] at hz
   rw[g3] at hu
   rw[g4] at hv
   exact ba sim hd hnext hq (.p _ _ (.im _)) (by
    simp[execOp,aZ,resolve,invoke,builtin,hx.b_,hy.b_,hz.b_,hu.b_,hv.b_,Builtin.max_,w6])
  exact hq.elim
 exact hq.elim
theorem uH {A:dc} {o:Oper} {V L S:Nat->Prop} {rho:Nat->Value} {s:AS} {a:Act} {w:World} {K:KK} {next:Act->World->Prop} {Q:Exit->Act->World->Prop} {fz:List (Nat×AB)} (sim:cm A V L S rho ⟨s.t,app s.h fz⟩ a w) (hd:∀d,o.dst=some d->d < A.n)
  (hnext:∀v eff new S' rho' a' w',K v eff new->cm A (tL V o.dst) (wX L new (o.dst.getD 0)) S' rho' ⟨en s.t o.dst v,app s.h eff⟩ a' w'->next a' w') {x:AV} {v:Value} (hq:K x fz none) (hv:bK S w A.C.P L rho (app s.h fz) x v)
  (hr:(execOp a.eval o).run A.C.P w=.ok (.value v) w):o.wp A.C.P a w next Q:=
 dR hr (hnext _ _ _ _ _ _ _ hq (sim.value o.dst hd x v hv))
theorem bu.E_ {S:Nat->Prop} {w:World} {es:List (List PV)} {ad:Option Addr} {c l h sz:Nat} (hx:bu S w (.sl es) (.slice ad es.length c)) (hl:l<=h) (hh:h<=es.length) (hc:es.length<=c)
  (hk:∀b off k,ad=some ⟨b,off,none⟩->(∀e∈es,e.length=k)->l < h->k=sz):bu S w (.sl ((es.take h).drop l)) (.slice (if c=l then ad else ad.map (·.add (l*sz))) (h - l) (c - l)):=by
 have hlen:((es.take h).drop l).length=h - l:=by simp;omega
 by_cases he:h - l=0
 ·have:(es.take h).drop l=[]:=List.eq_nil_of_length_eq_zero (by omega)
  rw[this,he]
  exact .nil _ _
 obtain⟨Pf,c',hv,hle,dh⟩:=hx.kR
 injection hv with e1 e2 e3
 subst e1 e3
 obtain⟨b,off,k,e4,hb,vj,hcell⟩:=dh (by intro e;rw[e] at hh;simp at hh;omega)
 have Nq:=hk b off k e4 vj (by omega)
 subst e4
 rw[if_neg (by omega)]
 show bu S w _ (.slice (some (Addr.add ⟨b,off,none⟩ (l*sz))) (h - l) (c - l))
 rw[Addr.add_lit,<-hlen]
 have jX:∀(i:Nat) e,((es.take h).drop l)[i]?=some e->es[l+i]?=some e:=by
  intro i e hi
  rw[List.getElem?_drop,List.getElem?_take] at hi
  split at hi
  ·exact hi
  cases hi
 refine .sl _ k b (off+l*sz) _ (fun i j=>(w.cell? ⟨b,off+l*sz+i*k+j,none⟩).getD undef) (by rw[hlen];omega) hb (fun e he=>vj e (List.mem_of_mem_take (List.mem_of_mem_drop he))) (fun i e j x h1 h2=>?_) fun i e j x h1 h2=>?_
 ·obtain⟨u,h3,h4,h5⟩:=hcell _ e j x (jX i e h1) h2
  have:off+l*sz+i*k+j=off+(l+i)*k+j:=by rw[<-Nq,Nat.add_mul];omega
  rw[this,h3]
  exact⟨rfl,h4⟩
 obtain⟨u,h3,h4,h5⟩:=hcell _ e j x (jX i e h1) h2
 have:off+l*sz+i*k+j=off+(l+i)*k+j:=by rw[<-Nq,Nat.add_mul];omega
 rw[this,h3]
 exact h5
theorem fu {P:Program} {w:World} (k:IntKind) (i:Int) (y:Nat) (code:BoundsCode) (h:0<=i/\i<=y):(Instr.sliceBound (.int k i) y code).run P w=.ok i.toNat w:=by
 simp[Instr.sliceBound,asIntOf,h.1,h.2]
theorem rU {A:dc} {V L S:Nat->Prop} {rho:Nat->Value} {s:AS} {a:Act} {w:World} (_:cm A V L S rho s a w) (lo hi:Option Operand) (Js:∀y,lo=some y->bK S w A.C.P L rho s.h (ev s.t y) (a.eval y)) (Jt:∀y,hi=some y->bK S w A.C.P L rho s.h (ev s.t y) (a.eval y)):
  ∀(isSlice:Bool) (len cap:Nat) (k:IntKind) (m:Int) (k':IntKind) (n:Int),len<=cap->(match lo with | some y=>ev s.t y | none=>.p (.im (.int .i64 0)))=.p (.im (.int k m))->(match hi with | some y=>ev s.t y | none=>.p (.im (.int .i64 len)))=.p (.im (.int k' n))->0<=m->m<=n->n<=len ->
   (Instr.sliceBounds isSlice len cap (lo.map a.eval) (hi.map a.eval) none).run A.C.P w=.ok (m.toNat,n.toNat,cap) w:=by
  intro isSlice len cap k m k' n Pg h1 h2 h3 h4 h5
  have e2:∀y,hi=some y->a.eval y=.int k' n:=fun y hy=>by
   have:=Jt y hy
   subst hy
   rw[show ev s.t y=_ from h2] at this
   exact this.b_
  have e1:∀y,lo=some y->a.eval y=.int k m:=fun y hy=>by
   have:=Js y hy
   subst hy
   rw[show ev s.t y=_ from h1] at this
   exact this.b_
  have nb:((n.toNat:Nat):Int)=n:=by omega
  cases hi with
  | some yh=>
   have e2:=e2 yh rfl
   cases lo with
   | some yl=>
    have e1:=e1 yl rfl
    cases isSlice <;> simp[Instr.sliceBounds,e1,e2,fu k' n cap _ ⟨by omega,by omega⟩,fu k m n.toNat _ ⟨h3,by omega⟩]
   | none=>
    have oI:m=0:=by simp at h1;exact h1.2.symm
    subst oI
    cases isSlice <;> simp[Instr.sliceBounds,e2,fu k' n cap _ ⟨by omega,by omega⟩]
  | none=>
   have qu:n=len:=by simp at h2;exact h2.2.symm
   subst qu
   cases lo with
   | some yl=>
    have e1:=e1 yl rfl
    cases isSlice <;> simp[Instr.sliceBounds,e1,fu k m len _ ⟨h3,by omega⟩]
   | none=>
    have oI:m=0:=by simp at h1;exact h1.2.symm
    subst oI
    cases isSlice <;> simp[Instr.sliceBounds]
theorem BG {A:dc} {o:Oper} (t:TypeId) (x:Operand) (lo hi:Option Operand) (aZ:o.op=.slice t x lo hi none) {V L S:Nat->Prop} {rho:Nat->Value} {s:AS} {a:Act} {w:World} {K:KK} {next:Act->World->Prop} {Q:Exit->Act->World->Prop} (hC:ct A.C) (sim:cm A V L S rho s a w)
  (hV:∀j,(.tmp j)∈o.op.operands->V j) (hd:∀d,o.dst=some d->d < A.n) (hq:fj A.C (ev s.t) s.h t x lo hi K)
  (hnext:∀v eff new S' rho' a' w',K v eff new->cm A (tL V o.dst) (wX L new (o.dst.getD 0)) S' rho' ⟨en s.t o.dst v,app s.h eff⟩ a' w'->next a' w'):o.wp A.C.P a w next Q:=by
 simp only[fj] at hq
 have hx:=bL sim x fun j hj=>hV j (by simp[aZ,Op.operands,hj])
 have Js:∀y,lo=some y->bK S w A.C.P L rho s.h (ev s.t y) (a.eval y):=fun y hy=>bL sim y fun j hj=>hV j (by simp[aZ,Op.operands,hj,hy])
 have Jt:∀y,hi=some y->bK S w A.C.P L rho s.h (ev s.t y) (a.eval y):=fun y hy=>bL sim y fun j hj=>hV j (by simp[aZ,Op.operands,hj,hy])
 have bounds:∀(isSlice:Bool) (len cap:Nat) (k:IntKind) (m:Int) (k':IntKind) (n:Int),len<=cap->(match lo with | some y=>ev s.t y | none=>.p (.im (.int .i64 0)))=.p (.im (.int k m))->(match hi with | some y=>ev s.t y | none=>.p (.im (.int .i64 len)))=.p (.im (.int k' n))->0<=m->m<=n->n<=len ->
   (Instr.sliceBounds isSlice len cap (lo.map a.eval) (hi.map a.eval) none).run A.C.P w=.ok (m.toNat,n.toNat,cap) w:=by
  exact rU sim lo hi Js Jt
 split at hq
 ·rename_i size bytes zero eq hT
  have eW:=(hC.gw t _ hT).under
  simp only at eW
  split at hq
  ·rename_i st wR
   rw[wR] at hx
   split at hq
   ·rename_i k m k' n h1 h2
    obtain⟨⟨h3,h4,h5⟩,hq⟩:=hq
    have hb:=bounds false st.size st.size k m k' n (Nat.le_refl _) h1 h2 h3 h4 h5
    exact ba sim hd hnext hq (.p _ _ (.im _)) (by simp[execOp,aZ,Instr.sliceAt,Instr.slice,hx.b_,run_underlying eW,hb])
   exact hq.elim
  exact hq.elim
 ·rename_i e size bytes zero eq hT
  have eW:=(hC.gw t _ hT).under
  simp only at eW
  split at hq
  ·exact hq.elim
  rename_i te pF
  obtain⟨ie,ze,l9,tM,_⟩:=(hC.gw e te pF).info
  obtain⟨y,fz,S2,hq,bN,hrep,vi,hF,w4⟩:=gh hC sim (lU.refl s.h) hx hq
  split at hq
  ·rename_i es
   split at hq
   ·rename_i k m k' n h1 h2
    obtain⟨⟨h3,h4,h5,h6⟩,hq⟩:=hq
    obtain⟨ad,c,hv,hle,_⟩:=hrep.kR
    have hb:=bounds true es.length c k m k' n hle h1 h2 h3 h4 h5
    rw[hv] at hrep
    refine uH bN hd hnext hq (.p _ _ (hrep.E_ (sz:=te.size) (l:=m.toNat) (h:=n.toNat) (by omega) (by omega) hle fun b off kk La lZ fC=>?_)) ?_
    ·have hpos:0 < es.length:=by omega
     have hm:es[0]∈es:=List.getElem_mem _
     rw[<-lZ _ hm,h6 _ hm]
    simp[execOp,aZ,Instr.sliceAt,Instr.slice,hv,run_underlying eW,hb,Go.sizeOf,typeInfo,l9,tM]
   exact hq.elim
  exact hq.elim
 exact hq.elim
structure Flat (S:Nat->Prop) (w:World) (k:Nat) (es:List (List PV)) (xs:List Value):Prop where
 len:xs.length=es.length*k
 row:∀r∈es,r.length=k
 one:∀u∈xs,u.oneCell'=true
 rep:∀(i:Nat) r (j:Nat) x,es[i]?=some r->r[j]?=some x->∃u,xs[i*k+j]?=some u/\bu S w x u
theorem Flat.mono {S S':Nat->Prop} {w w':World} {k:Nat} {es:List (List PV)} {xs:List Value} (h:Flat S w k es xs) (hS:∀b,S b->S' b) (hw:∀b,S b->w'.heap[b]?=w.heap[b]?):Flat S' w' k es xs:=
 ⟨h.len,h.row,h.one,fun i r j x h1 h2=>by obtain⟨u,h3,h4⟩:=h.rep i r j x h1 h2;exact⟨u,h3,h4.mono hS hw⟩⟩
theorem Flat.app {S:Nat->Prop} {w:World} {k:Nat} {es fs:List (List PV)} {xs ys:List Value} (h:Flat S w k es xs) (g:Flat S w k fs ys):Flat S w k (es++fs) (xs++ys):=by
 refine⟨by rw[List.length_append,List.length_append,h.len,g.len,Nat.add_mul],fun r hr=>(List.mem_append.1 hr).elim (h.row r) (g.row r),fun u hu=>(List.mem_append.1 hu).elim (h.one u) (g.one u),fun i r j x h1 h2=>?_⟩
 by_cases hi:i < es.length
 ·rw[List.getElem?_append_left hi] at h1
  obtain⟨u,h3,h4⟩:=h.rep i r j x h1 h2
  exact⟨u,by rw[List.getElem?_append_left (aW h3)];exact h3,h4⟩
 rw[List.getElem?_append_right (by omega)] at h1
 obtain⟨u,h3,h4⟩:=g.rep _ r j x h1 h2
 refine⟨u,?_,h4⟩
 have hm:es.length*k<=i*k:=Nat.mul_le_mul_right _ (by omega)
 rw[List.getElem?_append_right (by rw[h.len];omega),h.len]
 rw[Nat.sub_mul] at h3
 rw[<-h3]
 congr 1
 omega
theorem Flat.set {S:Nat->Prop} {w:World} {k:Nat} {es:List (List PV)} {xs:List Value} (h:Flat S w k es xs) (i:Nat) (hi:i < es.length) (ys:List PV) (vs:List Value) (hy:ys.length=k) (hv:vs.length=k) (h1:∀u∈vs,u.oneCell'=true) (hr:∀(j:Nat) y u,ys[j]?=some y->vs[j]?=some u->bu S w y u):
  Flat S w k (es.set i ys) (setCells xs (i*k) vs):=by
 have hb:i*k+k<=xs.length:=by rw[h.len,<-Nat.succ_mul];exact Nat.mul_le_mul_right _ hi
 have hg:=fun j=>dU vs xs (i*k) j (by rw[hv];exact hb)
 refine⟨by rw[cT,List.length_set,h.len],fun r hr=>?_,fun u hu=>?_,fun a r j x ha hj=>?_⟩
 ·rcases List.mem_or_eq_of_mem_set hr with h' | h'
  ·exact h.row r h'
  rw[h'];exact hy
 ·obtain⟨j,hj⟩:=List.mem_iff_getElem?.1 hu
  rw[hg] at hj
  split at hj
  ·exact h1 u (List.mem_of_getElem? hj)
  exact h.one u (List.mem_of_getElem? hj)
 have pC:=aW hj
 rw[hg]
 by_cases CW:a=i
 ·subst CW
  rw[List.getElem?_set_self hi] at ha
  injection ha with ha
  subst ha
  rw[if_pos (by omega),show a*k+j - a*k=j by omega]
  have:j < vs.length:=by omega
  exact⟨_,List.getElem?_eq_getElem this,hr j x _ hj (List.getElem?_eq_getElem this)⟩
 rw[List.getElem?_set_ne (fun e=>CW e.symm)] at ha
 have wV:=h.row r (List.mem_of_getElem? ha)
 rw[if_neg]
 ·exact h.rep a r j x ha hj
 rintro⟨h2,h3⟩
 rcases Nat.lt_or_gt_of_ne CW with h4 | h4
 ·have:=Nat.mul_le_mul_right k (Nat.succ_le_of_lt h4)
  rw[Nat.succ_mul] at this
  omega
 have:=Nat.mul_le_mul_right k (Nat.succ_le_of_lt h4)
 rw[Nat.succ_mul] at this
 omega
theorem Flat.zero (S:Nat->Prop) (w:World) {P:Program} {t:TypeId} {ti:TI} (h:ko P t ti) (hk:0 < ti.size) (n:Nat):Flat S w ti.size (List.replicate n (ti.zero.map nT)) ((Array.range (n*ti.size)).map (ti.zero.toArray[· % ti.zero.toArray.size]!)).toList:=by
 have hz:=h.CO
 obtain⟨_,_,_,_,_,_,_,gO⟩:=h.info
 have jX:∀j,j < n*ti.size->((Array.range (n*ti.size)).map (ti.zero.toArray[· % ti.zero.toArray.size]!)).toList[j]?=ti.zero[j % ti.size]?:=by
  intro j hj
  have hm:j % ti.size < ti.zero.length:=by rw[hz];exact Nat.mod_lt _ hk
  simp[hj,hz]
  rw[List.getElem?_eq_getElem hm]
  rfl
 refine⟨by simp,fun r hr=>by rw[List.eq_of_mem_replicate hr,List.length_map,hz],fun u hu=>?_,fun i r j x hi hj=>?_⟩
 ·obtain⟨j,hj⟩:=List.mem_iff_getElem?.1 hu
  have pC:=aW hj
  rw[jX j (by simpa using pC)] at hj
  exact gO u (List.mem_of_getElem? hj)
 have n_:i < n:=by have:=aW hi;simpa using this
 have hr:r=ti.zero.map nT:=List.eq_of_mem_replicate (List.mem_of_getElem? hi)
 subst hr
 have pC:j < ti.size:=by have:=aW hj;rw[List.length_map,hz] at this;exact this
 rw[List.getElem?_map] at hj
 obtain⟨v,hv,rfl⟩:=Option.map_eq_some_iff.1 hj
 have hb:i*ti.size+j < n*ti.size:=by
  have:=Nat.mul_le_mul_right ti.size (Nat.succ_le_of_lt n_)
  rw[Nat.succ_mul] at this
  omega
 refine⟨v,?_,l7 S w v⟩
 rw[jX _ hb,Nat.mul_comm,Nat.mul_add_mod,Nat.mod_eq_of_lt pC]
 exact hv
theorem a_.of_flat {P:Program} {S:Nat->Prop} {w:World} {e:TypeId} {i:TypeInfo} {es:List (List PV)} {v:Value} {xs:List Value} (hi:P.info? e=some i) (hk:0 < i.size) (ho:w.ownsRow 0 e i.size v es.length xs) (hf:Flat S w i.size es xs):a_ P w (bu S w) e es v:=
 ⟨i,xs,hi,hk,ho,hf.row,hf.one,hf.rep⟩
theorem a_.flat {P:Program} {S:Nat->Prop} {w:World} {e:TypeId} {i:TypeInfo} {es:List (List PV)} {v:Value} (hi:P.info? e=some i) (h:a_ P w (bu S w) e es v):∃xs,0 < i.size/\w.ownsRow 0 e i.size v es.length xs/\Flat S w i.size es xs:=by
 obtain⟨i',xs,h1,h2,h3,h4,h5,h6⟩:=h
 rw[hi] at h1
 injection h1 with h1
 subst h1
 exact⟨xs,h2,h3,⟨h3.1,h4,h5,h6⟩⟩
theorem bu.flat {S:Nat->Prop} {w:World} {es:List (List PV)} {v:Value} {k:Nat} (hx:bu S w (.sl es) v) (hk:∀r∈es,r.length=k):∃ad c xs,v=.slice ad es.length c/\Flat S w k es xs/\(es≠[]->∃b off,ad=some ⟨b,off,none⟩/\∀(j:Nat) u,xs[j]?=some u->w.cell? ⟨b,off+j,none⟩=some u):=by
 obtain⟨ad,c,hv,hle,dh⟩:=hx.kR
 by_cases he:es=[]
 ·subst he
  exact⟨ad,c,[],hv,⟨by simp,by simp,by simp,by simp⟩,fun h=>absurd rfl h⟩
 obtain⟨b,off,k',rfl,hb,vj,hcell⟩:=dh he
 have Hp:k'=k:=by
  obtain⟨r,hr⟩:=List.exists_mem_of_ne_nil _ he
  rw[<-vj r hr,hk r hr]
 subst Hp
 have key:∀q,q < es.length*k'->∃u,w.cell? ⟨b,off+q,none⟩=some u/\u.oneCell'=true:=by
  intro q hq
  have EK:0 < k':=Nat.pos_of_ne_zero fun h=>by rw[h] at hq;simp at hq
  have hi:q / k' < es.length:=(Nat.div_lt_iff_lt_mul EK).2 hq
  have hj:q % k' < k':=Nat.mod_lt _ EK
  have hr:=hk _ (List.getElem_mem hi)
  obtain⟨u,h1,h2,_⟩:=hcell (q / k') _ (q % k') _ (List.getElem?_eq_getElem hi) (List.getElem?_eq_getElem (by omega))
  refine⟨u,?_,h2⟩
  rw[<-h1]
  congr 2
  have:=Nat.div_add_mod q k'
  rw[Nat.mul_comm] at this
  omega
 refine⟨_,c,(List.range (es.length*k')).map fun q=>(w.cell? ⟨b,off+q,none⟩).getD undef,hv,⟨by simp,hk,fun u hu=>?_,fun i r j x h1 h2=>?_⟩,fun _=>⟨b,off,rfl,fun j u hj=>?_⟩⟩
 ·simp at hu
  obtain⟨q,hq,rfl⟩:=hu
  obtain⟨u,h1,h2⟩:=key q hq
  rw[h1]
  exact h2
 ·obtain⟨u,h3,h4,h5⟩:=hcell i r j x h1 h2
  refine⟨u,?_,h5⟩
  have Ju:=aW h1
  have pC:=aW h2
  rw[hk r (List.mem_of_getElem? h1)] at pC
  have qZ:i*k'+j < es.length*k':=by
   have:=Nat.mul_le_mul_right k' (Nat.succ_le_of_lt Ju)
   rw[Nat.succ_mul] at this
   omega
  rw[List.getElem?_map,List.getElem?_range qZ]
  simp only[Option.map_some]
  rw[<-Nat.add_assoc,h3]
  rfl
 have pC:=aW hj
 simp at pC
 rw[List.getElem?_map,List.getElem?_range pC] at hj
 obtain⟨u',h1,_⟩:=key j pC
 simp[h1] at hj
 rw[h1,hj]
def Src (S:Nat->Prop) (w:World) (es:List (List PV)) (v:Value):Prop:=
 ∀k,(∀r∈es,r.length=k)->∃ad c xs,v=.slice ad es.length c/\Flat S w k es xs/\(es≠[]->∃b off,ad=some ⟨b,off,none⟩/\∀(j:Nat) u,xs[j]?=some u->w.cell? ⟨b,off+j,none⟩=some u)
theorem a_.src {P:Program} {S:Nat->Prop} {w:World} {e:TypeId} {es:List (List PV)} {v:Value} (h:a_ P w (bu S w) e es v):Src S w es v:=by
 intro k hk
 obtain⟨i,xs,h1,h2,h3,h4,h5,h6⟩:=h
 by_cases he:es=[]
 ·subst he
  rcases h3.2 with⟨rfl,_⟩ | ⟨g,cap,cur,rfl,_⟩
  ·exact⟨none,0,[],rfl,⟨by simp,by simp,by simp,by simp⟩,fun h=>absurd rfl h⟩
  exact⟨_,cap,[],rfl,⟨by simp,by simp,by simp,by simp⟩,fun h=>absurd rfl h⟩
 have Hp:k=i.size:=by
  obtain⟨r,hr⟩:=List.exists_mem_of_ne_nil _ he
  rw[<-hk r hr,h4 r hr]
 subst Hp
 rcases h3.2 with⟨_,hn⟩ | ⟨g,cap,cur,hv,_⟩
 ·exact absurd (List.eq_nil_of_length_eq_zero hn) he
 refine⟨_,cap,xs,hv,⟨h3.1,h4,h5,h6⟩,fun _=>⟨g,0,rfl,fun j u hj=>?_⟩⟩
 have:=h3.cells (g:=g) (by rw[hv];rfl) j u hj
 rw[Addr.add_lit] at this
 exact this
theorem yM {A:dc} {V L S:Nat->Prop} {rho:Nat->Value} {s:AS} {a:Act} {w:World} (sim:cm A V L S rho s a w) {x:AV} {v:Value} (hx:bK S w A.C.P L rho s.h x v) {K:List (List PV)->Prop} (hq:fB s.h x K):∃es,K es/\Src S w es v:=by
 unfold fB at hq
 split at hq
 ·exact⟨_,hq,fun k hk=>hx.fq.flat hk⟩
 ·have:v=.slice none 0 0:=by cases hx;rfl
  exact⟨[],hq,fun k hk=>⟨none,0,[],this,⟨by simp,by simp,by simp,by simp⟩,fun h=>absurd rfl h⟩⟩
 ·rename_i id
  split at hq
  ·rename_i e es a7
   obtain⟨hL,hv⟩:=hx.db (by rw[a7];trivial)
   have hh:=sim.hp id hL
   rw[a7] at hh
   exact⟨es,hq,by rw[hv];exact a_.src hh⟩
  ·rename_i es a7
   obtain⟨hL,hv⟩:=hx.db (by rw[a7];trivial)
   have hh:=sim.hp id hL
   rw[a7] at hh
   exact⟨es,hq,by rw[hv];exact fun k hk=>bu.flat hh hk⟩
  exact hq.elim
 exact hq.elim
theorem nJ {P:Program} (w:World) (t ty e:TypeId) (i:TypeInfo) (z:Value) (ht:P.underlying t=some (.slice e)) (hi:P.info? e=some i) (hz:i.zero=some z) (LQ:z.cells.size=i.size) (hsz:0 < i.size)
  (v:Value) (n:Nat) (xs:List Value) (hown:w.ownsRow 0 e i.size v n xs) (ad:Option Addr) (m c:Nat) (news:List Value) (hl:news.length=m*i.size)
  (hnews:m≠0->∃b off,ad=some ⟨b,off,none⟩/\∀(j:Nat) u,news[j]?=some u->w.cell? ⟨b,off+j,none⟩=some u) (h1:∀u∈news,u.oneCell'=true) (Lb:n+m<=maxLen) (yN:(n+m)*i.bytes<=140737488355328):
  ∃v' w',(Builtin.append_ #[t,t] ty #[v,.slice ad m c]).run P w=.ok v' w'/\w'.ownsRow 0 e i.size v' (n+m) (xs++news)/\w.grownBy w' v.ownBlock/\(v'.ownBlock=v.ownBlock\/v'.ownBlock=some w.heap.size):=by
 by_cases hm:m=0
 ·subst hm
  have hn:news=[]:=List.eq_nil_of_length_eq_zero (by simpa using hl)
  subst hn
  refine⟨v,w,?_,by simpa using hown,⟨rfl,rfl,rfl,Nat.le_refl _,fun _ _ _=>rfl⟩,.inl rfl⟩
  have hf:(Builtin.firstCells i.size 0 (.slice ad 0 c)).run P w=.ok #[] w:=by cases ad <;> simp[Builtin.firstCells,loadCells,loadCellsFrom]
  rcases hown.2 with⟨rfl,rfl⟩ | ⟨g,cap,cur,rfl,_,_,Jv,_⟩
  ·simp[Builtin.append_,run_underlying ht,sizeOf,typeInfo,hi,Builtin.lenOf,hf]
  simp[Builtin.append_,run_underlying ht,sizeOf,typeInfo,hi,Builtin.lenOf,Jv,hf,storeCells]
 obtain⟨b,off,rfl,hc⟩:=hnews hm
 have vk:∀(j:Nat) u,news[j]?=some u->w.cell? ((⟨b,off,none⟩:Addr).add j)=some u:=fun j u hj=>by rw[Addr.add_lit];exact hc j u hj
 obtain⟨v',w',hr,h2,h3,_⟩:=run_append_own (P:=P) w 0 t ty e i z i.size i.bytes ht hi hz rfl rfl LQ hsz v n xs hown ⟨b,off,none⟩ m c news hl vk h1 Lb yN (Nat.zero_le _)
 refine⟨v',w',hr,h2,h3,?_⟩
 have LR:n+m<=9223372036854775807:=by simp only[maxLen] at Lb;omega
 rcases hown.2 with⟨rfl,rfl⟩ | ⟨g,cap,cur,rfl,_,hg,Jv,Ph,kS,Nr⟩
 ·have oC:=run_append_nil (P:=P) w t ty e i z ht hi hz ⟨b,off,none⟩ m c news hl vk (by omega) (by omega) (by have hb:=yN;simp only[Nat.zero_add] at hb;omega)
  rw[hr] at oC
  injection oC with oC
  rw[oC]
  exact .inr rfl
 by_cases Gm:n+m<=cap
 ·have LS:n*i.size+news.length<=cur.size:=by rw[hl,kS,<-Nat.add_mul];exact Nat.mul_le_mul_right _ Gm
  have oC:=run_append_room (P:=P) w t ty e i ht hi g n cap cur hg ⟨b,off,none⟩ m c news hl vk h1 Gm LS
  rw[hr] at oC
  injection oC with oC
  rw[oC]
  exact .inl rfl
 have oC:=run_append_grow (P:=P) w t ty e i z ht hi hz ⟨g,0,none⟩ n cap xs hown.1 (hown.cells (g:=g) rfl) ⟨b,off,none⟩ m c news hl vk (by omega) (by omega) (growslice_fits (by omega) yN)
 rw[hr] at oC
 injection oC with oC
 rw[oC]
 exact .inr rfl
theorem eB {v:Value} {a:Option Addr} {n c:Nat} (h:v=.slice a n c):v.ownBlock=cW v:=by
 subst h
 cases a <;> rfl
theorem ec {w:World} {base:Nat} {e:TypeId} {size:Nat} {v:Value} {n:Nat} {xs:List Value} (h:w.ownsRow base e size v n xs):∃a c,v=.slice a n c:=by
 rcases h.2 with⟨rfl,rfl⟩ | ⟨g,cap,cur,rfl,_⟩
 ·exact⟨none,0,rfl⟩
 exact⟨_,cap,rfl⟩
theorem mY {w:World} {es:List (List HX)} {v:Value} {e:TypeId} {k:Nat} {ws:List Value} (hown:w.ownsRow 0 e k v es.length ws) (hk:∀r∈es,r.length=k) {g:Nat} (hg:cW v=some g) {a j:Nat} {u:Value}:
  gd w es g a j u↔∃r e' nX,es[a]?=some r/\r[j]?=some (.row e' nX)/\ws[a*k+j]?=some u:=by
 rcases hown.2 with⟨hn,_⟩ | ⟨g',cap,cur,hv,_,Cz,k1,k2,k3,k4⟩
 ·rw[hn] at hg;cases hg
 rw[hv] at hg
 obtain rfl:=kr.1 hg
 have Ns:∀{r:List HX} {x:HX},es[a]?=some r->r[j]?=some x->r.length=k/\a*k+j < es.length*k:=fun {r x} h1 h2=>by
  have hr:=hk r (List.mem_of_getElem? h1)
  have h3:=aW h1
  have h4:=aW h2
  have:=Nat.mul_le_mul_right k (Nat.succ_le_of_lt h3)
  rw[Nat.succ_mul] at this
  exact⟨hr,by omega⟩
 constructor
 ·rintro⟨r,e',nX,c,ty,m,h1,h2,h3,h4⟩
  rw[Cz] at h3
  injection h3 with h3
  injection h3 with h3
  subst h3
  obtain⟨b1,b2⟩:=Ns h1 h2
  refine⟨r,e',nX,h1,h2,?_⟩
  rw[<-k4,List.getElem?_take_of_lt b2]
  rw[b1] at h4
  simpa using h4
 rintro⟨r,e',nX,h1,h2,h3⟩
 obtain⟨b1,b2⟩:=Ns h1 h2
 refine⟨r,e',nX,cur,_,_,h1,h2,Cz,?_⟩
 rw[<-k4,List.getElem?_take_of_lt b2] at h3
 rw[b1]
 simpa using h3
theorem cm.LU {A:dc} {V L S:Nat->Prop} {rho:Nat->Value} {s:AS} {a:Act} {w:World} (sim:cm A V L S rho s a w) (hC:ct A.C) {id d:Nat} (jl:L id) {e:TypeId} {xs:List (List HX)} (a7:s.h id=.a7 e xs) {ys:List (List PV)} {ie:TypeInfo} (l9:A.C.P.info? e=some ie)
  (hdb:d < 100000) (hL:¬L d) (hb:s.h d=.a7 e (xs++ys.map qp)) {news:List Value} (C1:Flat S w ie.size ys news) {v':Value} {w':World} {ws:List Value} (hown:w.ownsRow 0 e ie.size (rho id) xs.length ws) (h2:w'.ownsRow 0 e ie.size v' (xs.length+ys.length) (ws++news)) (h3:w.grownBy w' (cW (rho id))) (h4:cW v'=cW (rho id)\/cW v'=some w.heap.size):
  cm A V (fun i=>L i\/i=d) S (bI rho d v') ⟨s.t,bI s.h id .none⟩ a w':=by
 have cI:(s.h id).live:=by rw[a7];trivial
 have Hq:id≠d:=fun e=>hL (e ▸ jl)
 have hh:=sim.hp id jl
 rw[a7] at hh
 obtain⟨hR,hS⟩:=hh
 have LV:=hS.CX hR
 obtain⟨i0,Jw,k1,k2,k3,k4,k5,k6⟩:=LV
 rw[l9] at k1
 injection k1 with k1
 subst k1
 have LM:Jw=ws:=by
  rcases k3.2 with⟨q1,q2⟩ | ⟨g,cap,cur,q1,_,q3,q4,q5,q6,q7⟩
  ·have a1:Jw=[]:=List.eq_nil_of_length_eq_zero (by rw[k3.1,q2];simp)
   have a2:ws=[]:=List.eq_nil_of_length_eq_zero (by rw[hown.1,q2];simp)
   rw[a1,a2]
  rcases hown.2 with⟨r1,_⟩ | ⟨g',N5,Hh,r1,_,r3,r4,r5,r6,r7⟩
  ·rw[r1] at q1;cases q1
  rw[r1] at q1
  injection q1 with q1
  injection q1 with q1
  injection q1 with q1
  subst q1
  rw[q3] at r3
  injection r3 with r3
  injection r3 with r3
  subst r3
  rw[<-q7,<-r7]
 subst LM
 have Hr:∀r∈ys.map qp,r.length=ie.size:=fun r hr=>by
  obtain⟨q,hq,rfl⟩:=List.mem_map.1 hr
  rw[qp,List.length_map]
  exact C1.row q hq
 have AH:∀r∈xs++ys.map qp,r.length=ie.size:=fun r hr=>(List.mem_append.1 hr).elim (k4 r) (Hr r)
 have Gn:w'.ownsRow 0 e ie.size v' (xs++ys.map qp).length (Jw++news):=by rw[List.length_append,List.length_map];exact h2
 have Jx:Jw.length=xs.length*ie.size:=k3.1
 have oN:∀g' k j u,cW v'=some g'->gd w' (xs++ys.map qp) g' k j u->∃g,cW (rho id)=some g/\gd w xs g k j u:=fun g' k j u lJ hc=>by
  obtain⟨r,e',nX,q1,q2,q3⟩:=(mY Gn AH lJ).1 hc
  by_cases hk:k < xs.length
  ·rw[List.getElem?_append_left hk] at q1
   have pC:=aW q2
   have wV:=k4 r (List.mem_of_getElem? q1)
   have:=Nat.mul_le_mul_right ie.size (Nat.succ_le_of_lt hk)
   rw[Nat.succ_mul] at this
   rw[List.getElem?_append_left (by omega)] at q3
   obtain⟨g,u2,g1,g2,_⟩:=hR.CJ q1 q2
   refine⟨g,g1,(mY k3 k4 g1).2 ⟨r,e',nX,q1,q2,q3⟩⟩
  rw[List.getElem?_append_right (by omega),List.getElem?_map] at q1
  obtain⟨q,_,rfl⟩:=Option.map_eq_some_iff.1 q1
  rw[qp,List.getElem?_map] at q2
  obtain⟨z,_,hz⟩:=Option.map_eq_some_iff.1 q2
  cases hz
 have Hs:∀g k j u b,cW (rho id)=some g->gd w xs g k j u->cW u=some b->hasB w (s.h id) (rho id) b:=fun g k j u b h1 h5 h6=>by rw[a7];exact .inr (.inr ⟨_,_,_,_,_,_,rfl,h1,h5,h6⟩)
 have T0:kp S S w w L L rho rho s.h (bI s.h id .none):=⟨fun _ h=>h,fun _ _=>rfl,fun j hj=>⟨by
   rcases bT s.h id .none j with⟨rfl,h⟩ | ⟨_,h⟩
   ·rw[h] at hj;exact hj.elim
   ·rw[h] at hj;exact hj,fun h=>⟨h,rfl⟩⟩,fun j e' hj=>by
   rcases bT s.h id .none j with⟨rfl,h⟩ | ⟨_,h⟩
   ·rw[h] at hj;cases hj
   rw[h] at hj;exact hj⟩
 have Gp:∀k,k < w.heap.size->cW (rho id)≠some k->w'.heap[k]?=w.heap[k]?:=fun k hk hn=>h3.block k hk fun e=>hn e.symm
 refine (sim.kill id).oM hC d (.a7 e (xs++ys.map qp)) hdb hL (by show bI s.h id .none d=_;rw[bQ _ _ Hq.symm];exact hb) w' h3.os h3.tape h3.output h3.size (fun k=>hasB w (s.h id) (rho id) k) (fun k hk hn=>Gp k hk fun h=>hn (.inl h)) (fun k hk=>?_) v' (fun g hg=>?_) (fun T=>?_)
 ·obtain⟨q1,q2,q3⟩:=sim.lv id k jl cI hk
  refine⟨q2,fun i hi li eP=>?_,q3⟩
  have kj:(bI s.h id .none i).live:=li
  rcases bT s.h id .none i with⟨rfl,h⟩ | ⟨dh,h⟩
  ·rw[h] at kj;exact kj.elim
  rw[h] at kj;exact dh (sim.dj i id k hi jl kj cI (ez dh eP) hk)
 ·rcases hg with hg | ⟨cs,g',h,_⟩ | ⟨e',dw,g',k',j,u,q1,q2,q3,q4⟩
  ·obtain⟨a1,c1,yy⟩:=ec h2
   refine⟨(h2.lt g (by rw[eB yy];exact hg)).2,?_⟩
   rcases h4 with h | h
   ·exact .inr (.inl (h ▸ hg))
   rw[h] at hg
   injection hg with hg
   exact .inl (by omega)
  ·cases h
  injection q1 with q1 N6
  subst q1 N6
  obtain⟨g0,g1,g2⟩:=oN _ _ _ _ q2 q3
  have BH:=Hs _ _ _ _ _ g1 g2 q4
  exact⟨Nat.lt_of_lt_of_le (sim.lv id g jl cI BH).1 h3.size,.inr BH⟩
 show a_ _ _ _ _ _ (bI rho d v' d)/\qY _ _ (bI rho d v' d)
 rw[bc]
 refine⟨⟨ie,Jw++news,l9,k2,Gn,AH,fun u hu=>(List.mem_append.1 hu).elim (k5 u) (C1.one u),fun p r j x hp hj=>?_⟩,fun g k j u b hg hc iI=>?_,fun g k j k' j' u u' b hg hc I2 Ht qZ=>?_⟩
 ·by_cases hk:p < xs.length
  ·rw[List.getElem?_append_left hk] at hp
   obtain⟨u,hu,yH,LW⟩:=k6 p r j x hp hj
   refine⟨u,by rw[List.getElem?_append_left (aW hu)];exact hu,?_⟩
   cases x with
   | av x=>exact bK.dQ T (bK.dQ T0 yH)
   | row e' nX=>
    refine a_.dQ (show a_ _ _ _ _ _ _ from yH) (fun b iI=>Gp b ?_ fun h=>LW _ _ rfl b b h iI rfl) (fun x u hu=>hu.mono T.hS T.keep)
    obtain⟨g,u2,g1,g2,_⟩:=hR.CJ hp hj
    have:u2=u:=by
     obtain⟨r',_,_,q1,q2,q3⟩:=(mY k3 k4 g1).1 g2
     rw[hu] at q3
     injection q3 with q3
     exact q3.symm
    subst this
    exact (sim.lv id b jl cI (Hs _ _ _ _ _ g1 g2 iI)).1
  rw[List.getElem?_append_right (by omega),List.getElem?_map] at hp
  obtain⟨q,hq,rfl⟩:=Option.map_eq_some_iff.1 hp
  rw[qp,List.getElem?_map] at hj
  obtain⟨z,hz,rfl⟩:=Option.map_eq_some_iff.1 hj
  obtain⟨u,hu,yH⟩:=C1.rep _ _ _ _ hq hz
  refine⟨u,?_,Az (yH.mono T.hS T.keep)⟩
  have hm:xs.length*ie.size<=p*ie.size:=Nat.mul_le_mul_right _ (by omega)
  rw[List.getElem?_append_right (by rw[Jx];omega),Jx]
  rw[Nat.sub_mul] at hu
  rw[<-hu]
  congr 1
  omega
 ·obtain⟨g0,g1,g2⟩:=oN _ _ _ _ hg hc
  rcases h4 with h | h
  ·rw[h,g1] at hg
   injection hg with hg
   subst hg
   exact hS.top _ _ _ _ _ g1 g2 iI
  rw[h] at hg
  injection hg with hg
  have:=(sim.lv id b jl cI (Hs _ _ _ _ _ g1 g2 iI)).1
  omega
 obtain⟨g0,g1,g2⟩:=oN _ _ _ _ hg hc
 obtain⟨Pj,Lc,N7⟩:=oN _ _ _ _ hg I2
 rw[g1] at Lc
 injection Lc with Lc
 subst Lc
 exact hS.dis _ _ _ _ _ _ _ _ g1 g2 N7 Ht qZ
theorem BI {A:dc} {o:Oper} (c:Call) (aZ:o.op=.call c) (hc:c.callee=.builtin .append):gx A o:=by
 intro V L S rho s a w K next Q hC sim hV hd hq hn hnext
 obtain⟨callee,args,argTypes⟩:=c
 simp only at hc
 subst hc
 simp only[bY,aZ,eh,eN] at hq
 split at hq
 ·rename_i x y t t' hargs C0
  have hx:=bL sim x fun j hj=>hV j (by simp[aZ,Op.operands,Call.operands,hj];rw[<-hj];exact Array.mem_toList_iff.1 (by rw[hargs];simp))
  have hy:=bL sim y fun j hj=>hV j (by simp[aZ,Op.operands,Call.operands,hj];rw[<-hj];exact Array.mem_toList_iff.1 (by rw[hargs];simp))
  have e1:args=#[x,y]:=by rw[<-Array.toArray_toList (xs:=args),hargs]
  have e2:argTypes=#[t,t']:=by rw[<-Array.toArray_toList (xs:=argTypes),C0]
  subst e1 e2
  split at hq
  ·rename_i e size bytes zero eq LX hT
   have LX:=gy LX
   subst LX
   have eW:=(hC.gw t _ hT).under
   simp only at eW
   split at hq
   ·rename_i te pF
    obtain⟨ie,ze,l9,tM,I3,Fa,Fb,gO⟩:=(hC.gw e te pF).info
    have Ld:=(hC.gw e te pF).CO
    split at hq
    ·rename_i hpos
     have hpos:0 < ie.size:=by rw[tM];exact Nat.le_of_ble_eq_true hpos
     obtain⟨ys,hq,Jy⟩:=yM sim hy hq
     have main:∀(xs:List (List PV)) (v:Value) (ws:List Value) (s2:AS),a.eval x=v->w.ownsRow 0 e ie.size v xs.length ws->Flat S w ie.size xs ws->(∀r∈ys,r.length=te.size)->(xs.length+ys.length)*te.bytes<=140737488355328->xs.length+ys.length<=140737488355328 ->
       cm A V L S rho s2 a w->(∀g,cW v=some g->¬S g/\(∀i,L i->(s2.h i).live->¬hasB w (s2.h i) (rho i) g)/\(A.mv g\/A.w0.heap.size<=g))->¬L (o.dst.getD 0)->s2.h (o.dst.getD 0)=.row e (xs++ys)->
       ∃v' w' rho',(execOp a.eval o).run A.C.P w=.ok (.value v') w'/\cm A V (fun i=>L i\/i=o.dst.getD 0) S rho' s2 a w'/\v'=rho' (o.dst.getD 0):=by
      intro xs v ws s2 hv hown qv hlen Ht qZ bN hR hL hb
      obtain⟨ad,c',news,LY,C1,hcell⟩:=Jy ie.size (fun r hr=>by rw[hlen r hr,tM])
      obtain⟨v',w',hr,h2,h3,h4⟩:=nJ (P:=A.C.P) w t o.type e ie ze eW l9 Fa (by rw[Fb];simp[Ld,tM]) hpos v xs.length ws hown ad ys.length c' news C1.len
       (fun h0=>hcell (fun e=>h0 (by rw[e];rfl))) C1.one (by simp only[maxLen];omega) (by rw[I3];exact Ht)
      obtain⟨a0,c0,Jz⟩:=ec hown
      obtain⟨a1,c1,yy⟩:=ec h2
      rw[eB Jz] at h3 h4
      rw[eB yy] at h4
      refine⟨v',w',bI rho (o.dst.getD 0) v',by simp[execOp,aZ,resolve,invoke,builtin,hv,LY,hr],?_,(bc _ _ _).symm⟩
      refine bN.new hC (o.dst.getD 0) _ (bN.lK hd) hL hb w' h3.os h3.tape h3.output h3.size (fun k=>cW v=some k) (fun k hk JA=>h3.block k hk (fun e=>JA e.symm)) (fun k hk=>hR k hk) v' (fun g hg=>?_) (fun T=>?_)
      ·refine⟨(h2.lt g (by rw[eB yy];exact hg)).2,?_⟩
       rcases h4 with h | h
       ·exact .inr (h ▸ hg)
       rw[h] at hg
       injection hg with hg
       exact .inl (by omega)
      show a_ A.C.P w' (bu S w') e (xs++ys) (bI rho (o.dst.getD 0) v' (o.dst.getD 0))
      rw[bc]
      exact a_.of_flat l9 hpos (by rw[List.length_append];exact h2) ((qv.app C1).mono T.hS T.keep)
     split at hq
     ·rename_i Hj
      rw[Hj] at hx
      have hv:a.eval x=.slice none 0 0:=by cases h:a.eval x <;> rw[h] at hx <;> cases hx;rfl
      obtain⟨⟨h1,h2,h3⟩,hq⟩:=hq
      obtain⟨hL,hb⟩:=hn _ _ _ hq
      obtain⟨v',w',rho',hr,bN,yI⟩:=main [] _ [] s hv ⟨by simp,.inl ⟨rfl,rfl⟩⟩ ⟨by simp,by simp,by simp,by simp⟩ h1 (by simpa using h2) (by simpa using h3) sim (fun g hg=>by simp[cW] at hg) hL (by simpa using hb)
      exact dR hr (hnext _ _ _ S rho' _ _ hq (bN.value o.dst hd _ _ (.ow _ _ fun _=>⟨.inr rfl,yI⟩)))
     ·rename_i id Hj
      rw[Hj] at hx
      split at hq
      ·rename_i e' xs a7
       split at hq
       ·rename_i tN
        have tN:=gy tN
        subst tN
        obtain⟨⟨h1,h2,h3⟩,hq⟩:=hq
        obtain⟨hL,hb⟩:=hn _ _ _ hq
        obtain⟨jl,hv⟩:=hx.db (by rw[a7];trivial)
        have hh:=sim.hp id jl
        rw[a7] at hh
        obtain⟨ws,_,hown,qv⟩:=a_.flat l9 hh
        have Hq:id≠o.dst.getD 0:=fun e=>hL (e ▸ jl)
        have cI:(s.h id).live:=by rw[a7];trivial
        obtain⟨v',w',rho',hr,bN,yI⟩:=main xs _ ws ⟨s.t,bI s.h id .none⟩ hv hown qv h1 h2 h3 (sim.kill id) (fun g hg=>by
          obtain⟨k1,k2,k3⟩:=sim.l5 id g jl cI hg
          refine⟨k2,fun i hi li eP=>?_,k3⟩
          have kj:(bI s.h id .none i).live:=li
          rcases bT s.h id .none i with⟨rfl,h⟩ | ⟨dh,h⟩
          ·rw[h] at kj;exact kj.elim
          rw[h] at kj;exact dh (sim.dj i id g hi jl kj cI (ez dh eP) (.inl hg))) hL (by show bI s.h id .none (o.dst.getD 0)=_;rw[bQ _ _ Hq.symm];exact hb)
        exact dR hr (hnext _ _ _ S rho' _ _ hq (bN.value o.dst hd _ _ (.ow _ _ fun _=>⟨.inr rfl,yI⟩)))
       exact hq.elim
      ·rename_i e' xs a7
       split at hq
       ·rename_i tN
        have tN:=gy tN
        subst tN
        obtain⟨⟨h1,h2,h3⟩,hq⟩:=hq
        obtain⟨hL,hb⟩:=hn _ _ _ hq
        obtain⟨jl,hv⟩:=hx.db (by rw[a7];trivial)
        have hh:=sim.hp id jl
        rw[a7] at hh
        obtain⟨⟨i0,ws,I4,_,hown,_⟩,_⟩:=hh
        rw[l9] at I4
        injection I4 with I4
        subst I4
        obtain⟨ad,c',news,LY,C1,hcell⟩:=Jy ie.size (fun r hr=>by rw[h1 r hr,tM])
        obtain⟨v',w',hr,q2,q3,q4⟩:=nJ (P:=A.C.P) w t o.type e' ie ze eW l9 Fa (by rw[Fb];simp[Ld,tM]) hpos (rho id) xs.length ws hown ad ys.length c' news C1.len
         (fun h0=>hcell (fun e=>h0 (by rw[e];rfl))) C1.one (by simp only[maxLen];omega) (by rw[I3];exact h2)
        obtain⟨a0,c0,Jz⟩:=ec hown
        obtain⟨a1,c1,yy⟩:=ec q2
        rw[eB Jz] at q3 q4
        rw[eB yy] at q4
        have bN:=sim.LU hC jl a7 l9 (sim.lK hd) hL hb C1 hown q2 q3 q4
        exact dR (by simp[execOp,aZ,resolve,invoke,builtin,hv,LY,hr]) (hnext _ _ _ S _ _ _ hq (bN.value o.dst hd _ _ (.ow _ _ fun _=>⟨.inr rfl,(bc _ _ _).symm⟩)))
       exact hq.elim
      exact hq.elim
     exact hq.elim
    exact hq.elim
   exact hq.elim
  exact hq.elim
 exact hq.elim
theorem vl {A:dc} {o:Oper} (t:TypeId) (x y:Operand) (aZ:o.op=.makeSlice t x y):gx A o:=by
 intro V L S rho s a w K next Q hC sim hV hd hq hn hnext
 simp only[bY,aZ] at hq
 have hx:=bL sim x fun j hj=>hV j (by simp[aZ,Op.operands,hj])
 have hy:=bL sim y fun j hj=>hV j (by simp[aZ,Op.operands,hj])
 split at hq
 ·rename_i e size bytes zero eq k n k' c hT h1 h2
  have eW:=(hC.gw t _ hT).under
  simp only at eW
  rw[h1] at hx;rw[h2] at hy
  split at hq
  ·rename_i te pF
   obtain⟨ie,ze,l9,tM,I3,Fa,Fb,gO⟩:=(hC.gw e te pF).info
   have Ld:=(hC.gw e te pF).CO
   split at hq
   ·rename_i hpos
    have hpos:0 < te.size:=Nat.le_of_ble_eq_true hpos
    obtain⟨⟨h0,Jv,hb,Lb⟩,hq⟩:=hq
    obtain⟨hL,hdb⟩:=hn _ _ _ hq
    have hr:=run_make (P:=A.C.P) w t e ie ze eW l9 Fa k k' n c h0 Jv (by rw[I3,Int.mul_comm];omega) Lb
    have qv:=Flat.zero S (w.alloc (.cells (madeCells ze.cells (c.toNat*ie.size)) e)) (hC.gw e te pF) hpos n.toNat
    have key:∀(W:World) es xs,Flat S W te.size es xs->Flat S W ie.size es xs:=fun W es xs h=>by rw[tM];exact h
    have hle:n.toNat*te.size<=c.toNat*te.size:=Nat.mul_le_mul_right _ (by omega)
    have Fc:((Array.range (n.toNat*te.size)).map (te.zero.toArray[· % te.zero.toArray.size]!)).toList=(madeCells ze.cells (c.toNat*ie.size)).toList.take (n.toNat*te.size):=by
     apply List.ext_getElem?
     intro j
     rw[List.getElem?_take]
     split
     ·rename_i hj
      simp[madeCells,Fb,tM,hj,Nat.lt_of_lt_of_le hj hle]
     rename_i hj
     rw[List.getElem?_eq_none (by simpa using hj)]
    have bN:=sim.new hC (o.dst.getD 0) _ (sim.lK hd) hL hdb (w.alloc (.cells (madeCells ze.cells (c.toNat*ie.size)) e)) rfl rfl rfl (by simp) (fun _=>False) (fun k hk _=>Below.heap_alloc _ _ _ hk) (fun _ h=>h.elim) (.slice (some ⟨w.heap.size,0,none⟩) n.toNat c.toNat)
     (fun g hg=>by simp[cW] at hg;subst hg;simp) (fun T=>by
      show a_ A.C.P _ _ e _ (bI rho (o.dst.getD 0) _ (o.dst.getD 0))
      rw[bc]
      refine a_.of_flat l9 (by omega) ?_ (key _ _ _ qv)
      rw[Fc,<-tM]
      refine⟨by rw[List.length_take,List.length_replicate,Array.length_toList,size_madeCells,tM];omega,.inr ⟨w.heap.size,c.toNat,_,by simp,Nat.zero_le _,heap_alloc_new w _,by simp;omega,by simp only[maxLen];omega,size_madeCells _ _,by simp⟩⟩)
    exact dR (by simp only[execOp,aZ,hx.b_,hy.b_,Sem.run_bind,hr,Result.andThen_ok,Sem.run_pure]) (hnext _ _ _ S _ _ _ hq (bN.value o.dst hd _ _ (.ow _ _ fun _=>⟨.inr rfl,(bc _ _ _).symm⟩)))
   exact hq.elim
  exact hq.elim
 exact hq.elim
end Go.AM
namespace Go.AM
open Go.RowKit
theorem C2 (off:Nat):∀(vs:List Value) (k:Nat) (cs:Array Value),(vs.zipIdx k).foldl (fun (cs:Array Value) (x:Value×Nat)=>cs.setIfInBounds (off+x.2) x.1) cs=(setCells cs.toList (off+k) vs).toArray:=by
 intro vs
 induction vs with
 | nil=>intro k cs;simp[setCells]
 | cons v vs ih=>
  intro k cs
  simp only[List.zipIdx_cons,List.foldl_cons]
  rw[ih]
  simp[setCells,Nat.add_assoc]
theorem pH (place:Nat->Option (Nat×Nat)) (cells:Array Value) (i:Nat) (v:Value) (rest:List (Nat×Value)) (off size:Nat) (hp:place i=some (off,size)) (hs:v.cells.size=size) (hl:off+size<=cells.size):
  Instr.fill place cells ((i,v)::rest)=Instr.fill place (setCells cells.toList off v.cells.toList).toArray rest:=by
 rw[Instr.fill,hp]
 simp only
 rw[if_neg (by simp[hs];omega)]
 congr 1
 have:=C2 off v.cells.toList 0 cells
 rw[Nat.add_zero] at this
 rw[<-this,<-Array.foldl_toList,Array.toList_zipIdx]
structure ir (S:Nat->Prop) (w:World) (cs:List PV) (vs:List Value):Prop where
 len:vs.length=cs.length
 one:∀u∈vs,u.oneCell'=true
 rep:∀(j:Nat) x u,cs[j]?=some x->vs[j]?=some u->bu S w x u
theorem ir.mono {S S':Nat->Prop} {w:World} {cs:List PV} {vs:List Value} (h:ir S w cs vs) (hS:∀b,S b->S' b):ir S' w cs vs:=
 ⟨h.len,h.one,fun j x u h1 h2=>(h.rep j x u h1 h2).mono hS (fun _ _=>rfl)⟩
theorem ir.set {S:Nat->Prop} {w:World} {cs ys:List PV} {vs us:List Value} (h:ir S w cs vs) (g:ir S w ys us) (off:Nat) (hl:off+ys.length<=cs.length):ir S w (setCells cs off ys) (setCells vs off us):=by
 have e1:=fun j=>dU ys cs off j hl
 have e2:=fun j=>dU us vs off j (by rw[g.len,h.len];exact hl)
 refine⟨by rw[cT,cT,h.len],fun u hu=>?_,fun j x u hj hu=>?_⟩
 ·obtain⟨j,hj⟩:=List.mem_iff_getElem?.1 hu
  rw[e2] at hj
  split at hj
  ·exact g.one u (List.mem_of_getElem? hj)
  exact h.one u (List.mem_of_getElem? hj)
 rw[e1] at hj
 rw[e2,g.len] at hu
 split at hj
 ·rename_i n_
  rw[if_pos n_] at hu
  exact g.rep _ x u hj hu
 rename_i n_
 rw[if_neg n_] at hu
 exact h.rep _ x u hj hu
theorem uI {S:Nat->Prop} {w:World} {x:PV} {ys:List PV} {v:Value} (h:nU x=some ys) (hx:bu S w x v):ir S w ys v.cells.toList:=by
 obtain⟨h1,h2,h3⟩:=qt h hx
 exact⟨by simpa using h1,h2,fun j y u hj hu=>h3 j y u hj (by simpa using hu)⟩
theorem BJ {A:dc} (hC:ct A.C) {V L:Nat->Prop} {rho:Nat->Value} {t:Nat->AV} {a:Act} {w:World} {h:Nat->AB} {fs:List (Nat×Nat×Bool)} (place:Nat->Option (Nat×Nat)) (hp:∀(i:Nat) f,fs[i]?=some f->place i=some (f.1,f.2.1)):
  ∀(ps:List (Nat×Operand)) (h':Nat->AB) (S:Nat->Prop) (cs:List PV) (vs:List Value) (K:List PV->List (Nat×AB)->Prop),(∀p∈ps,∀j,p.2=.tmp j->V j)->cm A V L S rho ⟨t,h'⟩ a w->lU h h'->ir S w cs vs->hD h fs (ev t) ps cs K ->
  ∃jF fz S' jG,K jF fz/\cm A V L S' rho ⟨t,app h' fz⟩ a w/\lU h (app h' fz)/\ir S' w jF jG/\Instr.fill place vs.toArray (ps.map fun p=>(p.1,a.eval p.2))=some jG.toArray/\(∀p∈fz,L p.1):=by
 intro ps
 induction ps with
 | nil=>intro h' S cs vs K _ sim hF hc hq;exact⟨cs,[],S,vs,hq,sim,hF,hc,rfl,by simp⟩
 | cons p ps ih=>
  intro h' S cs vs K hV sim hF hc hq
  obtain⟨i,x⟩:=p
  unfold hD at hq
  split at hq
  ·rename_i off size ag E3
   have hx:=bL sim x fun j hj=>hV (i,x) (by simp) j hj
   obtain⟨y,fz,S2,hq,bN,hrep,vi,CA,w4⟩:=gh hC sim hF hx hq
   split at hq
   ·rename_i ys Hk
    split at hq
    ·rename_i iD
     simp only[Bool.and_eq_true] at iD
     have e1:=gy iD.1
     have e2:=iJ iD.2
     have hok:=uI Hk hrep
     obtain⟨jF,jM,S',jG,k1,k2,k3,k4,k5,k9⟩:=ih (app h' fz) S2 _ _ _ (fun p hp=>hV p (by simp[hp])) bN CA ((hc.mono vi).set hok off (by omega)) hq
     refine⟨jF,fz++jM,S',jG,k1,by rw[cC];exact k2,by rw[cC];exact k3,k4,?_,fun p hp=>(List.mem_append.1 hp).elim (w4 p) (k9 p)⟩
     rw[List.map_cons,pH place _ i _ _ off size (hp i _ E3) (by simpa [e1] using hok.len) (by simp[hc.len];omega)]
     exact k5
    exact hq.elim
   exact hq.elim
  exact hq.elim
theorem C3 {P:Program} {t:TypeId} {fs:List (Nat×Nat×Bool)} {size bytes:Nat} {zero:List Value} {eq:Bool} (eW:ko P t ⟨.st fs,size,bytes,zero,eq⟩) {l:List (Nat×Value)} {jG:Array Value}
  (k5:Instr.fill (fun i=>(fs[i]?).map fun f=>(f.1,f.2.1)) zero.toArray l=some jG):P.built t l=some jG:=by
 obtain⟨info,z,hi,hsz,N8,hz,eS,gO⟩:=eW.info
 obtain⟨gs,qs,hl,hf⟩:=eW.under
 simp only at eS
 have vm:gs.toList.mapM (fun f=>(P.info? f.type).map fun i=>(f.offset,i.size))=some (fs.map fun f=>(f.1,f.2.1)):=by
  have gen:∀(gl:List Field) (fl:List (Nat×Nat×Bool)),fl.length=gl.length->(∀(i:Nat) f g,fl[i]?=some f->gl[i]?=some g->f.1=g.offset/\(∃i2,P.info? g.type=some i2/\i2.size=f.2.1))->gl.mapM (fun f=>(P.info? f.type).map fun i=>(f.offset,i.size))=some (fl.map fun f=>(f.1,f.2.1)):=by
   intro gl
   induction gl with
   | nil=>intro fl h1 _;have:fl=[]:=List.eq_nil_of_length_eq_zero h1;subst this;rfl
   | cons g gl ih=>
    intro fl h1 h2
    cases fl with
    | nil=>simp at h1
    | cons f fl=>
     obtain⟨e1,i2,e2,e3⟩:=h2 0 f g rfl rfl
     have:=ih fl (by simpa using h1) (fun i f g h3 h4=>h2 (i+1) f g (by simpa using h3) (by simpa using h4))
     rw[List.mapM_cons,e2,this]
     simp[e1,e3]
  exact gen gs.toList fs (by simpa using hl) (fun i f g h3 h4=>by
   obtain⟨e1,_,e2,_⟩:=hf i f g h3 (by simpa using h4)
   exact⟨e1,e2⟩)
 unfold Program.built
 rw[hi,qs]
 simp only[hz,vm,eS]
 rw[<-k5]
 congr 1
 funext i
 simp
theorem BK {A:dc} {V L S:Nat->Prop} {rho:Nat->Value} {s:AS} {a:Act} {w:World} (sim:cm A V L S rho s a w) {fs:List (Nat×Nat×Bool)} (place:Nat->Option (Nat×Nat)) (hp:∀(i:Nat) f,fs[i]?=some f->place i=some (f.1,f.2.1)):
  ∀(ps:List (Nat×Operand)) (cs:List AV) (vs:List Value) (K:List AV->Prop),(∀p∈ps,∀j,p.2=.tmp j->V j)->cs.length=vs.length->(∀u∈vs,u.oneCell'=true)->(∀(i:Nat) c u,cs[i]?=some c->vs[i]?=some u->bK S w A.C.P L rho s.h c u)->iQ s.h fs (ev s.t) ps cs K ->
  ∃(jF:List AV) (jG:List Value),K jF/\jF.length=jG.length/\(∀u∈jG,u.oneCell'=true)/\(∀(i:Nat) c u,jF[i]?=some c->jG[i]?=some u->bK S w A.C.P L rho s.h c u)/\Instr.fill place vs.toArray (ps.map fun p=>(p.1,a.eval p.2))=some jG.toArray:=by
 intro ps
 induction ps with
 | nil=>intro cs vs K _ hl h1 hc hq;exact⟨cs,vs,hq,hl,h1,hc,rfl⟩
 | cons p ps ih=>
  intro cs vs K hV hl h1 hc hq
  obtain⟨i,x⟩:=p
  unfold iQ at hq
  split at hq
  ·rename_i off size ag E3
   split at hq
   ·rename_i iD
    simp only[Bool.and_eq_true] at iD
    obtain⟨⟨e1,e2⟩,e3⟩:=iD
    have e1:=gy e1
    have e2:=iJ e2
    have hx:=bL sim x fun j hj=>hV (i,x) (by simp) j hj
    have o1:=mX sim e3 hx
    have hcl:=cells_one o1
    have hlen:off < vs.length:=by omega
    obtain⟨jF,jG,k1,k2,k3,k4,k5⟩:=ih (cs.set off (ev s.t x)) (vs.set off (a.eval x)) K (fun p hp=>hV p (by simp[hp])) (by simp[hl]) (fun u hu=>by
      rcases List.mem_or_eq_of_mem_set hu with h | h
      ·exact h1 u h
      ·rw[h];exact o1) (fun j c u hj hu=>by
      by_cases e:j=off
      ·subst e
       rw[List.getElem?_set_self (by omega)] at hj hu
       injection hj with hj
       injection hu with hu
       subst hj hu
       exact hx
      rw[List.getElem?_set_ne (fun e'=>e e'.symm)] at hj hu
      exact hc j c u hj hu) hq
    refine⟨jF,jG,k1,k2,k3,k4,?_⟩
    rw[List.map_cons,pH place _ i _ _ off size (hp i _ E3) (by rw[hcl,e1];rfl) (by simp;omega),hcl]
    exact k5
   exact hq.elim
  exact hq.elim
theorem C4 {A:dc} {o:Oper} (t:TypeId) (ps:Array (Nat×Operand)) (aZ:o.op=.build t ps):gx A o:=by
 intro V L S rho s a w K next Q hC sim hV hd hq _ hnext
 simp only[bY,aZ] at hq
 split at hq
 ·rename_i fs size bytes zero eq hT
  have eW:=(hC.gw t _ hT).under
  obtain⟨info,z,hi,hsz,N8,hz,eS,gO⟩:=(hC.gw t _ hT).info
  obtain⟨gs,qs,hl,hf⟩:=eW
  simp only at eS gO
  have oa:∀(i:Nat) f,fs[i]?=some f->(fun i=>(fs[i]?).map fun f=>(f.1,f.2.1)) i=some (f.1,f.2.1):=fun i f h=>by simp[h]
  split at hq
  case h_2=>
   obtain⟨jF,jG,k1,k2,k3,k4,k5⟩:=BK sim (fun i=>(fs[i]?).map fun f=>(f.1,f.2.1)) oa ps.toList (zero.map Bw) zero (fun cs=>K (.st cs) [] none)
    (fun p hp j hj=>hV j (by simp[aZ,Op.operands];exact⟨p.1,by rw[<-hj];exact Array.mem_toList_iff.1 hp⟩)) (by simp) gO (fun j x u hj hu=>by
     rw[List.getElem?_map,hu] at hj
     simp at hj
     rw[<-hj]
     exact rQ _ _ _ _ _ _ u) hq
   have yO:=C3 (hC.gw t _ hT) k5
   exact ba sim hd hnext k1 (.st _ jG.toArray (by simpa using k2) (by simpa using k3) (fun i c u h1 h2=>k4 i c u h1 (by simpa using h2))) (by
    have hr:=run_build (P:=A.C.P) w t (ps.map fun p=>(p.1,a.eval p.2)) jG.toArray (by simpa using yO)
    simp only[execOp,aZ,Sem.run_bind]
    rw[hr]
    simp)
  obtain⟨jF,fz,S',jG,k1,k2,k3,k4,k5,_⟩:=BJ hC (fun i=>(fs[i]?).map fun f=>(f.1,f.2.1)) oa ps.toList s.h S (zero.map (LA (A.C.bn t))) zero (fun cs fz=>K (.p (.ag cs)) fz none)
   (fun p hp j hj=>hV j (by simp[aZ,Op.operands];exact⟨p.1,by rw[<-hj];exact Array.mem_toList_iff.1 hp⟩)) sim (lU.refl _) ⟨by simp,gO,fun j x u hj hu=>by
    rw[List.getElem?_map,hu] at hj
    simp at hj
    rw[<-hj]
    exact EW _ _ _ u⟩ hq
  have vm:gs.toList.mapM (fun f=>(A.C.P.info? f.type).map fun i=>(f.offset,i.size))=some (fs.map fun f=>(f.1,f.2.1)):=by
   have gen:∀(gl:List Field) (fl:List (Nat×Nat×Bool)),fl.length=gl.length->(∀(i:Nat) f g,fl[i]?=some f->gl[i]?=some g->f.1=g.offset/\(∃i2,A.C.P.info? g.type=some i2/\i2.size=f.2.1))->gl.mapM (fun f=>(A.C.P.info? f.type).map fun i=>(f.offset,i.size))=some (fl.map fun f=>(f.1,f.2.1)):=by
    intro gl
    induction gl with
    | nil=>intro fl h1 _;have:fl=[]:=List.eq_nil_of_length_eq_zero h1;subst this;rfl
    | cons g gl ih=>
     intro fl h1 h2
     cases fl with
     | nil=>simp at h1
     | cons f fl=>
      obtain⟨e1,i2,e2,e3⟩:=h2 0 f g rfl rfl
      have:=ih fl (by simpa using h1) (fun i f g h3 h4=>h2 (i+1) f g (by simpa using h3) (by simpa using h4))
      rw[List.mapM_cons,e2,this]
      simp[e1,e3]
   exact gen gs.toList fs (by simpa using hl) (fun i f g h3 h4=>by
    obtain⟨e1,_,e2,_⟩:=hf i f g h3 (by simpa using h4)
    exact⟨e1,e2⟩)
  have yO:A.C.P.built t (ps.toList.map fun p=>(p.1,a.eval p.2))=some jG.toArray:=by
   unfold Program.built
   rw[hi,qs]
   simp only[hz,vm,eS]
   rw[<-k5]
   congr 1
   funext i
   simp
  refine uH (s:=s) k2 hd hnext k1 (v:=.agg jG.toArray) (.p _ _ (.ag _ _ (by simp[k4.len]) (by simpa using k4.one) fun i c v h1 h2=>k4.rep i c v h1 (by simpa using h2))) ?_
  have hr:=run_build (P:=A.C.P) w t (ps.map fun p=>(p.1,a.eval p.2)) jG.toArray (by simpa using yO)
  simp only[execOp,aZ,Sem.run_bind]
  rw[hr]
  simp
 exact hq.elim
theorem BL {A:dc} {V L S:Nat->Prop} {rho:Nat->Value} {s:AS} {a:Act} {w:World} {b:Bool} (hC:ct A.C) {h:Nat->AB} (sim:cm A V L S rho s a w) (hF:lU h s.h) {x:AV} {v:Value} (hx:bK S w A.C.P L rho s.h x v) {K:PV->List (Nat×AB)->Prop} (hq:qo b h x K):
  ∃y fz S',K y fz/\cm A V L S' rho ⟨s.t,app s.h fz⟩ a w/\bu S' w y v/\(∀b,S b->S' b)/\lU h (app s.h fz)/\(∀p∈fz,L p.1):=by
 unfold qo at hq
 split at hq
 ·have:v=.slice none 0 0:=by cases hx;rfl
  rw[this]
  exact⟨_,[],S,hq,sim,.im _,fun _ h=>h,hF,by simp⟩
 exact gh hC sim hF hx hq
theorem rV {A:dc} (hC:ct A.C) {V L:Nat->Prop} {rho:Nat->Value} {t:Nat->AV} {a:Act} {w:World} {h:Nat->AB} {size:Nat} {b:Bool}:
  ∀(ps:List (Nat×Operand)) (h':Nat->AB) (S:Nat->Prop) (es:List (List PV)) (vs:List Value) (K:List (List PV)->List (Nat×AB)->Prop),(∀p∈ps,∀j,p.2=.tmp j->V j)->cm A V L S rho ⟨t,h'⟩ a w->lU h h'->Flat S w size es vs->fA b h size (ev t) ps es K ->
  ∃dw fz S' jG,K dw fz/\cm A V L S' rho ⟨t,app h' fz⟩ a w/\lU h (app h' fz)/\Flat S' w size dw jG/\dw.length=es.length/\Instr.fill (fun i=>some (i*size,size)) vs.toArray (ps.map fun p=>(p.1,a.eval p.2))=some jG.toArray/\(∀p∈fz,L p.1):=by
 intro ps
 induction ps with
 | nil=>intro h' S es vs K _ sim hF hc hq;exact⟨es,[],S,vs,hq,sim,hF,hc,rfl,rfl,by simp⟩
 | cons p ps ih=>
  intro h' S es vs K hV sim hF hc hq
  obtain⟨i,x⟩:=p
  unfold fA at hq
  have hx:=bL sim x fun j hj=>hV (i,x) (by simp) j hj
  obtain⟨y,fz,S2,hq,bN,hrep,vi,CA,w4⟩:=BL hC sim hF hx hq
  split at hq
  ·rename_i ys Hk
   split at hq
   ·rename_i iD
    simp only[Bool.and_eq_true] at iD
    have e1:=gy iD.1
    have e2:i < es.length:=Nat.le_of_ble_eq_true iD.2
    have hok:=uI Hk hrep
    have JB:(a.eval x).cells.toList.length=size:=by rw[hok.len,e1]
    have hb:i*size+size<=vs.length:=by rw[hc.len,<-Nat.succ_mul];exact Nat.mul_le_mul_right _ e2
    obtain⟨dw,jM,S',jG,k1,k2,k3,k4,k5,k6,k9⟩:=ih (app h' fz) S2 _ _ _ (fun p hp=>hV p (by simp[hp])) bN CA ((hc.mono vi (fun _ _=>rfl)).set i e2 ys _ e1 JB hok.one (fun j y u h1 h2=>hok.rep j y u h1 h2)) hq
    refine⟨dw,fz++jM,S',jG,k1,by rw[cC];exact k2,by rw[cC];exact k3,k4,by rw[k5,List.length_set],?_,fun p hp=>(List.mem_append.1 hp).elim (w4 p) (k9 p)⟩
    rw[List.map_cons,pH _ _ i _ _ (i*size) size rfl (by simpa using JB) (by simpa using hb)]
    exact k6
   exact hq.elim
  exact hq.elim
theorem tO {A:dc} {o:Oper} (t:TypeId) (len:Nat) (ps:Array (Nat×Operand)) (aZ:o.op=.buildSlice t len ps):gx A o:=by
 intro V L S rho s a w K next Q hC sim hV hd hq hn hnext
 simp only[bY,aZ] at hq
 split at hq
 ·rename_i e size bytes zero eq hT
  have eW:=(hC.gw t _ hT).under
  simp only at eW
  split at hq
  ·rename_i te pF
   obtain⟨ie,ze,l9,tM,I3,Fa,Fb,gO⟩:=(hC.gw e te pF).info
   have Ld:=(hC.gw e te pF).CO
   split at hq
   ·rename_i iD
    simp only[Bool.and_eq_true] at iD
    have hpos:0 < te.size:=Nat.le_of_ble_eq_true iD.1
    have AI:=iJ iD.2
    split at hq
    ·rename_i N9
     obtain⟨dw,fz,S',jG,k1,k2,k3,k4,k5,k6,k9⟩:=rV hC ps.toList s.h S _ _ (fun es fz=>K (.ow (o.dst.getD 0)) fz (some (.row e es)))
      (fun p hp j hj=>hV j (by simp[aZ,Op.operands];exact⟨p.1,by rw[<-hj];exact Array.mem_toList_iff.1 hp⟩)) sim (lU.refl _) (Flat.zero S w (hC.gw e te pF) hpos len) hq
     rw[List.length_replicate] at k5
     obtain⟨hL,hb⟩:=hn _ _ _ k1
     have Hu:(app s.h fz) (o.dst.getD 0)=.row e dw:=by
      rw[gr (fun p hp (e:p.1=_)=>hL (by rw[<-e];exact k9 p hp)),hb]
     have hrun:(execOp a.eval o).run A.C.P w=.ok (.value (.slice (some ⟨w.heap.size,0,none⟩) len len)) (w.alloc (.cells jG.toArray e)):=by
      have e0:len*te.size=(Array.range (len*te.size)).size:=by simp
      have LZ:¬16777216 < len*te.size:=by omega
      have JC:Instr.fill (fun i=>some (i*te.size,te.size)) ((Array.range (len*te.size)).map (te.zero.toArray[· % te.zero.toArray.size]!)) (ps.map fun p=>(p.1,a.eval p.2)).toList=some jG.toArray:=by
       rw[Array.toList_map]
       rw[<-k6]
      have hsz:(Go.sizeOf e).run A.C.P w=.ok te.size w:=(hC.gw e te pF).sizeOf w
      simp only[execOp,aZ,Instr.buildSlice,Sem.run_bind,run_underlying eW,Result.andThen_ok,hsz]
      rw[if_neg (show ¬len*te.size > 2 ^ 24 by omega)]
      by_cases h0:len*te.size=0
      ·rw[if_pos h0]
       have k7:Instr.fill (fun i=>some (i*te.size,te.size)) ((Array.range (len*te.size)).map ((#[]:Array Value)[· % (#[]:Array Value).size]!)) (ps.map fun p=>(p.1,a.eval p.2)).toList=some jG.toArray:=by
        have JD:∀f:Nat->Value,(Array.range 0).map f=#[]:=fun f=>by apply Array.ext';simp
        rw[<-JC,h0,JD,JD]
       simp only[Sem.run_bind,Sem.run_pure,Result.andThen_ok]
       rw[k7]
       simp[newRow,newObj,Sem.run]
      rw[if_neg h0]
      have L0:(zeroValue e).run A.C.P w=.ok ze w:=by simp[zeroValue,typeInfo,l9,Fa]
      simp only[Sem.run_bind,Sem.run_pure,Result.andThen_ok,L0]
      rw[Fb,JC]
      simp[newRow,newObj,Sem.run]
     have bN:=k2.new hC (o.dst.getD 0) _ (k2.lK hd) hL Hu (w.alloc (.cells jG.toArray e)) rfl rfl rfl (by simp) (fun _=>False) (fun k hk _=>Below.heap_alloc _ _ _ hk) (fun _ h=>h.elim) (.slice (some ⟨w.heap.size,0,none⟩) len len)
      (fun g hg=>by simp[cW] at hg;subst hg;simp) (fun T=>by
       show a_ A.C.P _ _ e _ (bI rho (o.dst.getD 0) _ (o.dst.getD 0))
       rw[bc]
       refine a_.of_flat l9 (by omega) ?_ (by rw[tM];exact k4.mono T.hS T.keep)
       have:=World.ownsRow_lit (base:=0) (e:=e) (size:=te.size) w jG.toArray len (Nat.zero_le _) (by simp only[maxLen];have:=Nat.le_mul_of_pos_right len hpos;omega) (by simp[k4.len,k5])
       rw[tM,k5]
       exact this)
     exact dR hrun (hnext _ _ _ S' _ _ _ k1 (bN.value o.dst hd _ _ (.ow _ _ fun _=>⟨.inr rfl,(bc _ _ _).symm⟩)))
    rename_i N9
    obtain⟨dw,fz,S',jG,k1,k2,k3,k4,k5,k6,k9⟩:=rV hC ps.toList s.h S _ _ (fun es fz=>K (.ow (o.dst.getD 0)) fz (some (.hM es)))
     (fun p hp j hj=>hV j (by simp[aZ,Op.operands];exact⟨p.1,by rw[<-hj];exact Array.mem_toList_iff.1 hp⟩)) sim (lU.refl _) (Flat.zero S w (hC.gw e te pF) hpos len) hq
    rw[List.length_replicate] at k5
    obtain⟨hL,hb⟩:=hn _ _ _ k1
    have Hu:(app s.h fz) (o.dst.getD 0)=.hM dw:=by
     rw[gr (fun p hp (e:p.1=_)=>hL (by rw[<-e];exact k9 p hp)),hb]
    have hrun:(execOp a.eval o).run A.C.P w=.ok (.value (.slice (some ⟨w.heap.size,0,none⟩) len len)) (w.alloc (.cells jG.toArray e)):=by
     have e0:len*te.size=(Array.range (len*te.size)).size:=by simp
     have LZ:¬16777216 < len*te.size:=by omega
     have JC:Instr.fill (fun i=>some (i*te.size,te.size)) ((Array.range (len*te.size)).map (te.zero.toArray[· % te.zero.toArray.size]!)) (ps.map fun p=>(p.1,a.eval p.2)).toList=some jG.toArray:=by
      rw[Array.toList_map]
      rw[<-k6]
     have hsz:(Go.sizeOf e).run A.C.P w=.ok te.size w:=(hC.gw e te pF).sizeOf w
     simp only[execOp,aZ,Instr.buildSlice,Sem.run_bind,run_underlying eW,Result.andThen_ok,hsz]
     rw[if_neg (show ¬len*te.size > 2 ^ 24 by omega)]
     by_cases h0:len*te.size=0
     ·rw[if_pos h0]
      have k7:Instr.fill (fun i=>some (i*te.size,te.size)) ((Array.range (len*te.size)).map ((#[]:Array Value)[· % (#[]:Array Value).size]!)) (ps.map fun p=>(p.1,a.eval p.2)).toList=some jG.toArray:=by
       have JD:∀f:Nat->Value,(Array.range 0).map f=#[]:=fun f=>by apply Array.ext';simp
       rw[<-JC,h0,JD,JD]
      simp only[Sem.run_bind,Sem.run_pure,Result.andThen_ok]
      rw[k7]
      simp[newRow,newObj,Sem.run]
     rw[if_neg h0]
     have L0:(zeroValue e).run A.C.P w=.ok ze w:=by simp[zeroValue,typeInfo,l9,Fa]
     simp only[Sem.run_bind,Sem.run_pure,Result.andThen_ok,L0]
     rw[Fb,JC]
     simp[newRow,newObj,Sem.run]
    have Gq:Fr (fun _=>False) w (w.alloc (.cells jG.toArray e)):=⟨rfl,rfl,rfl,by simp,fun k hk _=>Below.heap_alloc _ _ _ hk⟩
    have grow:=k2.Jo hC (w.alloc (.cells jG.toArray e)) Gq (fun b=>S' b\/b=w.heap.size) (fun b h=>.inl h) (fun b h=>by
     rcases h with h | h
     ·exact Nat.lt_of_lt_of_le (k2.st b h) Gq.size
     subst h;simp) (fun b h=>h.imp id fun h=>by omega)
    have rr:a_ A.C.P (w.alloc (.cells jG.toArray e)) (bu S' (w.alloc (.cells jG.toArray e))) e dw (.slice (some ⟨w.heap.size,0,none⟩) len len):=by
     refine a_.of_flat l9 (by omega) ?_ (by rw[tM];exact k4.mono (fun _ h=>h) (fun b hb=>Below.heap_alloc _ _ _ (k2.st b hb)))
     have:=World.ownsRow_lit (base:=0) (e:=e) (size:=te.size) w jG.toArray len (Nat.zero_le _) (by simp only[maxLen];have:=Nat.le_mul_of_pos_right len hpos;omega) (by simp[k4.len,k5])
     rw[tM,k5]
     exact this
    have Fe:bu (fun b=>S' b\/b=w.heap.size) (w.alloc (.cells jG.toArray e)) (.sl dw) (.slice (some ⟨w.heap.size,0,none⟩) len len):=rr.BC (fun b h=>.inl h) (fun g hg=>by simp[cW] at hg;exact .inr hg.symm)
    have bN:=grow.He (o.dst.getD 0) dw (k2.lK hd) hL Hu _ Fe
    exact dR hrun (hnext _ _ _ _ _ _ _ k1 (bN.value o.dst hd _ _ (.ow _ _ fun _=>⟨.inr rfl,(bc _ _ _).symm⟩)))
   exact hq.elim
  exact hq.elim
 exact hq.elim
end Go.AM
namespace Go.AM
open Go.RowKit
theorem C5:∀{a b:List Nat},K5 a b=true->a=b
 | [],[],_=>rfl
 | [],_::_,h=>by cases h
 | _::_,[],h=>by cases h
 | a::r,b::s,h=>by
  unfold K5 at h
  split at h
  ·rename_i e
   rw[Nat.eq_of_beq_eq_true e,C5 h]
  cases h
theorem C6 {a b:MK} (h:Lz a b=true):a=b:=by
 cases a with
 | str=>cases b with | str=>rfl | int k=>cases h | st s=>cases h
 | int k=>cases b with
  | str=>cases k <;> cases h
  | int k'=>cases k <;> cases k' <;> first | rfl | cases h
  | st s=>cases k <;> cases h
 | st s=>cases b with
  | str=>cases h
  | int k=>cases k <;> cases h
  | st s'=>rw[C5 h]
def descOf:MK->TypeDesc
 | .str=>.string
 | .int k=>.int k
 | .st _=>.string
def vn:MK->Prop
 | .st _=>False
 | _=>True
theorem yQ {P:Program} {t:TypeId} {ti:TI} (h:ko P t ti) {mk:MK} (hp:vn mk) (hm:tI ti=some mk):P.underlying t=some (descOf mk):=by
 have hu:=h.under
 unfold tI at hm
 cases L1:ti.ud <;> rw[L1] at hm hu <;> simp only at hm <;> first
  | (cases hm;done)
  | (injection hm with hm;subst hm;exact hu)
  | (
    split at hm
    ·obtain⟨s,_,rfl⟩:=Option.map_eq_some_iff.1 hm;exact hp.elim
    cases hm)
theorem tP:∀{sh:List Nat} {cs:List PV} {l:List Value},jh sh cs=some l->cs=l.map .im/\iS sh l:=by
 intro sh
 induction sh with
 | nil=>
  intro cs l h
  cases cs with
  | nil=>injection h with h;subst h;exact⟨rfl,trivial⟩
  | cons c cs=>cases h
 | cons n sh ih=>
  intro cs l h
  cases cs with
  | nil=>simp[jh] at h
  | cons c cs=>
   unfold jh at h
   split at h
   all_goals first
    | contradiction
    | (
      rename_i h1 h2
      injection h1 with h1 oI
      injection h2 with h2 qu
      subst h1 oI h2 qu
      obtain⟨l',hl,rfl⟩:=Option.map_eq_some_iff.1 h
      obtain⟨i1,i2⟩:=ih hl
      subst i1
      first
       | exact⟨rfl,trivial,i2⟩
       | exact⟨rfl,rfl,i2⟩)
    | (cases h)
theorem rW {mk:MK} {a:AV} {k:Value} (h:keyOf mk a=some k):∃x,a=.p x/\mk.ok k/\∀S w v,bu S w x v->v=k:=by
 unfold keyOf at h
 split at h
 ·injection h with h;subst h;exact⟨_,rfl,trivial,fun S w v hv=>hv.b_⟩
 ·injection h with h;subst h;exact⟨_,rfl,rfl,fun S w v hv=>hv.b_⟩
 ·obtain⟨l,hl,rfl⟩:=Option.map_eq_some_iff.1 h
  obtain⟨rfl,h2⟩:=tP hl
  refine⟨_,rfl,by simpa [MK.ok] using h2,fun S w v hv=>?_⟩
  obtain⟨xs,e1,G8,_,LI⟩:=hv.nY
  rw[e1]
  congr 1
  apply Array.ext'
  apply List.ext_getElem?
  intro i
  by_cases hi:i < xs.size
  ·have yz:i < l.length:=by
                  have:l.length=xs.size:=by simpa using G8
                  omega
   have:=(LI i (.im l[i]) xs[i] (by rw[List.getElem?_map,List.getElem?_eq_getElem yz];rfl) (Array.getElem?_eq_getElem hi)).b_
   rw[Array.getElem?_toList,Array.getElem?_eq_getElem hi,this]
   simp[yz]
  have yz:¬i < l.length:=by
                  have:l.length=xs.size:=by simpa using G8
                  omega
  rw[List.getElem?_eq_none (by simpa using hi),List.getElem?_eq_none (by simpa using yz)]
 cases h
theorem yX {mk:MK} (hp:vn mk) {a b:Value} (ha:mk.ok a) (hb:mk.ok b):Instr.sameNow (descOf mk) a b=some (wU a b):=by
 cases mk with
 | str=>
  cases a <;> first | (exact ha.elim) | skip
  cases b <;> first | (exact hb.elim) | skip
  simp only[Instr.sameNow,descOf,wU]
  congr 1
  rw[Bool.eq_iff_iff,MapKept.bytes_beq];simp
 | int k=>
  cases a <;> first | (exact ha.elim) | skip
  cases b <;> first | (exact hb.elim) | skip
  have h1:_=k:=ha
  have h2:_=k:=hb
  subst h1
  subst h2
  simp[Instr.sameNow,descOf,wU]
  rw[Bool.eq_iff_iff];simp
 | st s=>exact hp.elim
theorem C7 {mk:MK} (hp:vn mk) {k:Value} (h:mk.ok k):MapKept.IsKey (descOf mk) k:=by
 cases mk with
 | str=>cases k <;> first | (exact h.elim) | exact trivial
 | int j=>cases k <;> first | (exact h.elim) | exact h
 | st s=>exact hp.elim
theorem ct.key {C:Ctx} (hC:ct C) {kt:TypeId} {tk:TI} {mk:MK} (h:C.T kt=some tk) (hm:tI tk=some mk):CI C.P kt mk:=by
 by_cases hp:vn mk
 ·have hu:=yQ (hC.gw kt tk h) hp hm
  refine⟨fun e k w hk=>MapKept.run_checkKey hu (C7 hp hk) e 9999,fun k w ms hk Ff=>MapKept.run_findKey hu ?_⟩
  generalize 0=i
  induction ms generalizing i with
  | nil=>rfl
  | cons m ms ih=>
   have hs:=yX hp hk (Ff m List.mem_cons_self)
   unfold Instr.findNow nI
   rw[hs]
   cases wU k m.key with
   | true=>rfl
   | false=>exact ih (fun x hx=>Ff x (List.mem_cons_of_mem _ hx)) _
 cases mk with
 | st s=>exact hC.keys kt tk s h hm
 | str=>exact (hp trivial).elim
 | int j=>exact (hp trivial).elim
theorem Fg:∀{sh:List Nat} {a b:List Value},iS sh a->iS sh b->wT a b=true->a=b:=by
 intro sh
 induction sh with
 | nil=>
  intro a b ha hb _
  cases a with
  | nil=>cases b with
   | nil=>rfl
   | cons y b=>exact hb.elim
  | cons x a=>exact ha.elim
 | cons n sh ih=>
  intro a b ha hb h
  cases a with
  | nil=>exact ha.elim
  | cons x a=>cases b with
   | nil=>exact hb.elim
   | cons y b=>
    simp only[wT,Bool.and_eq_true] at h
    rw[ih ha.2 hb.2 h.2]
    have e:x=y:=by
     have h1:=ha.1
     have h2:=hb.1
     unfold yE at h1 h2
     split at h1
     ·split at h2 <;> first | (exact h2.elim) | (rename_i e1;cases e1;done) | skip
      have:=h.1
      simp[Bv] at this
      rw[this]
     ·split at h2 <;> first | (exact h2.elim) | (rename_i e1;cases e1;done) | skip
      have:=h.1
      simp[Bv] at this
      rw[this,h1,h2]
     ·split at h2 <;> first | (exact h2.elim) | (rename_i e1;cases e1;done) | skip
      have:=h.1
      simp[Bv] at this
      rw[this]
     exact h1.elim
    rw[e]
theorem Hv {mk:MK} {a b:Value} (ha:mk.ok a) (hb:mk.ok b) (h:wU a b=true):a=b:=by
 cases mk with
 | str=>
  cases a <;> first | (exact ha.elim) | skip
  cases b <;> first | (exact hb.elim) | skip
  simp[wU] at h
  rw[h]
 | int k=>
  cases a <;> first | (exact ha.elim) | skip
  cases b <;> first | (exact hb.elim) | skip
  have h1:_=k:=ha
  have h2:_=k:=hb
  subst h1
  subst h2
  simp[wU] at h
  rw[h]
 | st s=>
  cases a <;> first | (exact ha.elim) | skip
  cases b <;> first | (exact hb.elim) | skip
  congr 1
  exact Array.ext' (Fg (sh:=s) ha hb h)
theorem find_spec {mk:MK} {k:Value} (hk:mk.ok k):∀(es:List (Value×PV)) (ms:List MapEntry) (j:Nat),ms.length=es.length->(∀(i:Nat) p m,es[i]?=some p->ms[i]?=some m->m.key=p.1/\mk.ok p.1)->
  (nI k ms j=none/\gN es k=none/\∀v,iz es k v=es++[(k,v)])\/
  ∃i m p,nI k ms j=some (j+i,m.val)/\ms[i]?=some m/\es[i]?=some p/\p.1=k/\gN es k=some p.2/\∀v,iz es k v=es.set i (k,v):=by
 intro es
 induction es with
 | nil=>
  intro ms j hl _
  have:ms=[]:=List.eq_nil_of_length_eq_zero hl
  subst this
  exact .inl ⟨rfl,rfl,fun v=>rfl⟩
 | cons p es ih=>
  intro ms j hl JE
  cases ms with
  | nil=>cases hl
  | cons m ms=>
   obtain⟨k',u⟩:=p
   obtain⟨h1,h2⟩:=JE 0 _ _ rfl rfl
   simp only at h1 h2
   cases hv:wU k k' with
   | true=>
    refine .inr ⟨0,m,(k',u),?_,rfl,rfl,(Hv hk h2 hv).symm,by simp[gN,hv],fun v=>by simp[iz,hv]⟩
    simp[nI,h1,hv]
   | false=>
    rcases ih ms (j+1) (by simpa using hl) (fun i p m hp hm=>JE (i+1) p m (by simpa using hp) (by simpa using hm)) with⟨q1,q2,q3⟩ | ⟨i,m',p,q1,q2,q3,q4,q5,q6⟩
    ·exact .inl ⟨by simp[nI,h1,hv,q1],by simp[gN,hv,q2],fun v=>by simp[iz,hv,q3 v]⟩
    refine .inr ⟨i+1,m',p,?_,by simpa using q2,by simpa using q3,q4,by simp[gN,hv,q5],fun v=>by simp[iz,hv,q6 v]⟩
    simp only[nI,h1,hv,q1]
    rw[Nat.add_assoc,Nat.add_comm 1 i]
theorem rX {n:Nat}:∀{sh:List Nat} {l:List Value},iS sh l->((l.zip l).all fun (x,y)=>Instr.sameBits n x y)=true:=by
 intro sh
 induction sh with
 | nil=>intro l h;cases l with
  | nil=>rfl
  | cons x l=>exact h.elim
 | cons c sh ih=>
  intro l h
  cases l with
  | nil=>exact h.elim
  | cons x l=>
   rw[List.zip_cons_cons,List.all_cons,ih h.2,Bool.and_true]
   have h1:=h.1
   unfold yE at h1
   split at h1
   ·cases n <;> exact (MapKept.bytes_beq _ _).2 rfl
   ·cases n <;> simp[Instr.sameBits]
   ·cases n <;> simp[Instr.sameBits]
   exact h1.elim
theorem sameBits_self {mk:MK} {k:Value} (hk:mk.ok k):Instr.sameBits 10000 k k=true:=by
 cases mk with
 | str=>
  cases k <;> first | (exact hk.elim) | skip
  simp only[Instr.sameBits]
  exact (MapKept.bytes_beq _ _).2 rfl
 | int j=>
  cases k <;> first | (exact hk.elim) | skip
  simp[Instr.sameBits]
 | st s=>
  cases k <;> first | (exact hk.elim) | skip
  rename_i xs
  show (xs.size == xs.size && (xs.toList.zip xs.toList).all fun (x,y)=>Instr.sameBits 9999 x y)=true
  rw[rX (sh:=s) hk]
  simp
theorem yY {A:dc} {o:Oper} (t:TypeId) (aZ:o.op=.makeMap t none):gx A o:=by
 intro V L S rho s a w K next Q hC sim hV hd hq hn hnext
 simp only[bY,aZ] at hq
 split at hq
 ·split at hq
  ·split at hq
   ·obtain⟨hL,hdb⟩:=hn _ _ _ hq
    have bN:=sim.new hC (o.dst.getD 0) _ (sim.lK hd) hL hdb (w.alloc (.map #[] 0)) rfl rfl rfl (by simp) (fun _=>False) (fun k hk _=>Below.heap_alloc _ _ _ hk) (fun _ h=>h.elim) (.map (some w.heap.size))
     (fun g hg=>by simp[cW] at hg;subst hg;simp) (fun T=>by
      refine⟨w.heap.size,#[],0,bc _ _ _,(MapKept.heap_alloc w _).1,rfl,by simp⟩)
    exact dR (by simp[execOp,aZ,Instr.makeMap]) (hnext _ _ _ S _ _ _ hq (bN.value o.dst hd _ _ (.ow _ _ fun _=>⟨.inr rfl,(bc _ _ _).symm⟩)))
   exact hq.elim
  exact hq.elim
 exact hq.elim
theorem uJ {S:Nat->Prop} {w:World} {P:Program} {L:Nat->Prop} {rho:Nat->Value} {h:Nat->AB} {id:Nat} {mk:MK} {es:List (Value×PV)} (hh:fa S w P L rho h id (.map mk es)):
  ∃g ms clock,rho id=.map (some g)/\w.heap[g]?=some (.map ms clock)/\ms.size=es.length/\∀(i:Nat) p m,es[i]?=some p->ms[i]?=some m->m.key=p.1/\mk.ok p.1/\bu S w p.2 m.val:=hh
theorem C8 {mk:MK} {es:List (Value×PV)} {ms:Array MapEntry} {R:PV->Value->Prop} (h3:ms.size=es.length) (h4:∀(i:Nat) p m,es[i]?=some p->ms[i]?=some m->m.key=p.1/\mk.ok p.1/\R p.2 m.val):∀m∈ms.toList,mk.ok m.key:=by
 intro m hm
 obtain⟨i,hi,rfl⟩:=List.getElem_of_mem hm
 have yz:i < es.length:=by rw[<-h3];simpa using hi
 obtain⟨q1,q2,_⟩:=h4 i es[i] (ms.toList[i]) (List.getElem?_eq_getElem yz) (by simp at hi;simp[hi])
 rw[q1]
 exact q2
theorem yZ {P:Program} {t:TypeId} {ti:TI} (h:ko P t ti) (hz:yG P t ti) (S:Nat->Prop) (w:World):∃z,(zeroValue t).run P w=.ok z w/\bu S w (rP ti) z:=by
 obtain⟨info,z,h1,h2,h3,h4,h5,h6,h7,h8⟩:=h
 obtain⟨Nt,z',g1,g2,g3⟩:=hz
 rw[h1] at g1;injection g1 with g1;subst g1
 rw[h4] at g2;injection g2 with g2;subst g2
 refine⟨z,by simp[zeroValue,typeInfo,h1,h4],?_⟩
 unfold rP
 cases qq:ti.ud.agg with
 | true=>
  rw[qq] at g3
  cases z <;> first | cases g3 | skip
  rename_i cs
  have hc:cs=ti.zero.toArray:=h5
  subst hc
  refine .ag _ _ (by simp) (fun u hu=>h7 u (by simpa using hu)) fun i c v hi hv=>?_
  rw[List.getElem?_map] at hi
  obtain⟨u,hu,rfl⟩:=Option.map_eq_some_iff.1 hi
  have:u=v:=by simpa [hu] using hv
  subst this
  exact l7 S w u
 | false=>
  rw[qq] at g3
  have hc:z.cells=#[z]:=by cases z <;> first | rfl | cases g3
  rw[hc] at h5
  have:ti.zero=[z]:=by simpa using (congrArg Array.toList h5).symm
  rw[this]
  exact l7 S w z
theorem BM {A:dc} {o:Oper} (t:TypeId) (x i:Operand) (ck:Bool) (aZ:o.op=.lookup t x i ck):gx A o:=by
 intro V L S rho s a w K next Q hC sim hV hd hq hn hnext
 simp only[bY,aZ] at hq
 have hx:=bL sim x fun j hj=>hV j (by simp[aZ,Op.operands,hj])
 have hi:=bL sim i fun j hj=>hV j (by simp[aZ,Op.operands,hj])
 split at hq
 case h_2=>exact hq.elim
 rename_i kt et size bytes zero eq hT
 have eW:=(hC.gw t _ hT).under
 simp only at eW
 split at hq
 case h_2=>exact hq.elim
 rename_i tk te L2 pF
 split at hq
 case h_2=>exact hq.elim
 rename_i mk hmk
 have Fh:=hC.key L2 hmk
 split at hq
 case h_2=>exact hq.elim
 rename_i id hid
 split at hq
 case h_2=>exact hq.elim
 rename_i mk' es y7
 split at hq
 case h_2=>exact hq.elim
 rename_i C9
 obtain rfl:=C6 C9
 split at hq
 case h_2=>exact hq.elim
 rename_i k hk
 obtain⟨xk,La,lZ,L3⟩:=rW hk
 obtain⟨r,hr,hq⟩:=hq
 rw[hid] at hx
 obtain⟨hL,hv⟩:=hx.db (by rw[y7];trivial)
 have hh:=sim.hp id hL
 rw[y7] at hh
 obtain⟨g,ms,clock,h1,h2,h3,h4⟩:=uJ hh
 rw[La] at hi
 have hi:=L3 _ _ _ hi.fq
 obtain⟨z,hz,N_⟩:=yZ (hC.gw et te pF) (hC.zs et te pF) S w
 have eo:∀m∈ms.toList,mk.ok m.key:=C8 h3 h4
 have key:∃u,(Instr.lookup t (a.eval x) (a.eval i) ck).run A.C.P w=.ok (if ck then .tuple #[u,.bool r.isSome] else u) w/\bu S w (r.getD (rP te)) u:=by
  rcases find_spec lZ es ms.toList 0 (by simpa using h3) (fun i p m hp hm=>by obtain⟨q1,q2,_⟩:=h4 i p m hp (by simpa using hm);exact⟨q1,q2⟩) with⟨q1,q2,_⟩ | ⟨j,m,p,q1,q2,q3,q4,q5,_⟩
  ·rw[hr] at q2
   subst q2
   refine⟨z,?_,N_⟩
   cases ck <;> simp[Instr.lookup,run_underlying eW,hv,h1,MapKept.run_getObj_map h2,hi,Fh.check _ _ _ lZ,Fh.find _ _ _ lZ eo,q1,hz]
  rw[hr] at q5
  subst q5
  refine⟨m.val,?_,(h4 j p m q3 (by simpa using q2)).2.2⟩
  cases ck <;> simp[Instr.lookup,run_underlying eW,hv,h1,MapKept.run_getObj_map h2,hi,Fh.check _ _ _ lZ,Fh.find _ _ _ lZ eo,q1]
 obtain⟨u,hrun,hu⟩:=key
 cases ck with
 | true=>
  refine ba sim hd hnext hq (.tu _ _ rfl fun i c v hc hv=>?_) (by simp only[execOp,aZ,Sem.run_bind,hrun,Result.andThen_ok,Sem.run_pure];rfl)
  match i with
  | 0=>simp at hc hv;subst hc hv;exact .p _ _ hu
  | 1=>simp at hc hv;subst hc hv;exact .p _ _ (.im _)
  | i+2=>simp at hc
 | false=>exact ba sim hd hnext hq (.p _ _ hu) (by simp only[execOp,aZ,Sem.run_bind,hrun,Result.andThen_ok,Sem.run_pure];rfl)
theorem vo {A:dc} {o:Oper} (t:TypeId) (x i y:Operand) (aZ:o.op=.mapUpdate t x i y):gx A o:=by
 intro V L S rho s a w K next Q hC sim hV hd hq hn hnext
 simp only[bY,aZ] at hq
 have hx:=bL sim x fun j hj=>hV j (by simp[aZ,Op.operands,hj])
 have hi:=bL sim i fun j hj=>hV j (by simp[aZ,Op.operands,hj])
 have hy:=bL sim y fun j hj=>hV j (by simp[aZ,Op.operands,hj])
 split at hq
 case h_2=>exact hq.elim
 rename_i kt et size bytes zero eq hT
 have eW:=(hC.gw t _ hT).under
 simp only at eW
 split at hq
 case h_2=>exact hq.elim
 rename_i tk L2
 split at hq
 case h_2=>exact hq.elim
 rename_i mk hmk
 have Fh:=hC.key L2 hmk
 split at hq
 case h_2=>exact hq.elim
 rename_i id hid
 split at hq
 case h_2=>exact hq.elim
 rename_i mk' es y7
 split at hq
 case h_2=>exact hq.elim
 rename_i C9
 obtain rfl:=C6 C9
 split at hq
 case h_2=>exact hq.elim
 rename_i k hk
 obtain⟨xk,La,lZ,L3⟩:=rW hk
 obtain⟨yv,fz,S2,hq,bN,hrep,vi,hF,w4⟩:=gh hC sim (lU.refl s.h) hy hq
 split at hq
 case h_2=>exact hq.elim
 rename_i C_
 have qZ:app s.h fz id=.map mk es:=by rw[jk C_];exact y7
 rw[hid] at hx
 obtain⟨hL,hv⟩:=hx.db (by rw[y7];trivial)
 have hh:=bN.hp id hL
 have hh:fa S2 w A.C.P L rho (app s.h fz) id (app s.h fz id):=hh
 rw[qZ] at hh
 obtain⟨g,ms,clock,h1,h2,h3,h4⟩:=uJ hh
 rw[La] at hi
 have hi:=L3 _ _ _ hi.fq
 have eo:∀m∈ms.toList,mk.ok m.key:=C8 h3 h4
 have fin:∀Gr pI,(Instr.mapUpdate t (a.eval x) (a.eval i) (a.eval y)).run A.C.P w=.ok () { w with heap:=w.heap.setIfInBounds g (.map Gr pI) }->Gr.size=(iz es k yv).length ->
   (∀(i:Nat) p m,(iz es k yv)[i]?=some p->Gr[i]?=some m->m.key=p.1/\mk.ok p.1/\bu S2 w p.2 m.val)->o.wp A.C.P a w next Q:=by
  intro Gr pI hrun hsz L4
  obtain⟨g1,g2⟩:=MapKept.heap_set (o':=.map Gr pI) h2
  refine l6 (w':={ w with heap:=w.heap.setIfInBounds g (.map Gr pI) }) (by simp only[execOp,aZ,Sem.run_bind,hrun,Result.andThen_ok,Sem.run_pure]) ?_
  have fw:=bN.write hC id hL (by show (app s.h fz id).live;rw[qZ];trivial) (.map mk (iz es k yv)) (fun _ h=>by cases h) { w with heap:=w.heap.setIfInBounds g (.map Gr pI) } rfl rfl rfl (by simp) (fun k hk=>g2 k fun e=>hk (by rw[h1,e];rfl)) fun T=>by
   refine⟨g,Gr,pI,h1,g1,hsz,fun i p m hp hm=>?_⟩
   obtain⟨q1,q2,q3⟩:=L4 i p m hp hm
   exact⟨q1,q2,q3.mono T.hS T.keep⟩
  have:=hnext _ _ _ S2 _ _ _ hq (by
   rw[cC]
   exact fw.value o.dst hd .junk undef (.junk _))
  exact this
 rcases find_spec lZ es ms.toList 0 (by simpa using h3) (fun i p m hp hm=>by obtain⟨q1,q2,_⟩:=h4 i p m hp (by simpa using hm);exact⟨q1,q2⟩) with⟨q1,q2,q3⟩ | ⟨j,m,p,q1,q2,q3,q4,q5,q6⟩
 ·refine fin (ms.push { key:=k,val:=a.eval y,born:=clock }) (clock+1) ?_ (by rw[q3];simp[h3]) fun i p m hp hm=>?_
  ·simp[Instr.mapUpdate,run_underlying eW,hv,h1,MapKept.run_getObj_map h2,hi,Fh.check _ _ _ lZ,Fh.find _ _ _ lZ eo,q1,MapKept.run_setObj_map _ h2]
  rw[q3] at hp
  by_cases fC:i < es.length
  ·rw[List.getElem?_append_left fC] at hp
   rw[Array.getElem?_push_lt (by omega)] at hm
   exact h4 i p m hp (by rw[<-hm];exact Array.getElem?_eq_getElem _)
  have l9:i=es.length:=by
   have:=aW hp
   simp at this
   omega
  subst l9
  rw[<-h3] at hm
  simp at hp hm
  subst hp hm
  exact⟨rfl,lZ,hrep⟩
 have Ff:ms[j]?=some m:=by simpa using q2
 have hmk:m.key=k:=by rw[<-q4];exact (h4 j p m q3 Ff).1
 refine fin (ms.modify j fun e=>{ e with key:=k,val:=a.eval y }) clock ?_ (by rw[q6];simp[h3]) fun i p' m' hp hm=>?_
 ·simp[Instr.mapUpdate,run_underlying eW,hv,h1,MapKept.run_getObj_map h2,hi,Fh.check _ _ _ lZ,Fh.find _ _ _ lZ eo,q1,Ff,hmk,Instr.keyThatStays,sameBits_self lZ,MapKept.run_setObj_map _ h2]
 rw[q6] at hp
 rw[Array.getElem?_modify] at hm
 by_cases e:j=i
 ·subst e
  rw[if_pos rfl,Ff] at hm
  rw[List.getElem?_set_self (aW q3)] at hp
  simp at hp hm
  subst hp hm
  exact⟨rfl,lZ,hrep⟩
 rw[if_neg e] at hm
 rw[List.getElem?_set_ne e] at hp
 exact h4 i p' m' hp hm
theorem ok_slice {A:dc} {o:Oper} (t:TypeId) (x:Operand) (lo hi:Option Operand) (aZ:o.op=.slice t x lo hi none):gx A o:=by
 intro V L S rho s a w K next Q hC sim hV hd hq hn hnext
 have old:=BG t x lo hi aZ hC sim hV hd (K:=K) (Q:=Q) (next:=next)
 simp only[bY,aZ] at hq
 split at hq
 case h_2=>exact old hq hnext
 rename_i id hid
 split at hq
 case h_2=>exact old hq hnext
 rename_i e' es a7
 rcases hq with hq | hq
 case inr=>exact old hq hnext
 have hx:=bL sim x fun j hj=>hV j (by simp[aZ,Op.operands,hj])
 have Js:∀y,lo=some y->bK S w A.C.P L rho s.h (ev s.t y) (a.eval y):=fun y hy=>bL sim y fun j hj=>hV j (by simp[aZ,Op.operands,hj,hy])
 have Jt:∀y,hi=some y->bK S w A.C.P L rho s.h (ev s.t y) (a.eval y):=fun y hy=>bL sim y fun j hj=>hV j (by simp[aZ,Op.operands,hj,hy])
 unfold oG at hq
 split at hq
 case h_2=>exact hq.elim
 rename_i e size bytes zero eq hT
 have eW:=(hC.gw t _ hT).under
 simp only at eW
 split at hq
 case h_2=>exact hq.elim
 rename_i tN
 obtain rfl:=gy tN
 split at hq
 case h_2=>exact hq.elim
 rename_i k m k' n h1 h2
 obtain⟨⟨h3,h4,h5⟩,hq⟩:=hq
 rw[hid] at hx
 obtain⟨hL,hv⟩:=hx.db (by rw[a7];trivial)
 have hh:=sim.hp id hL
 rw[a7] at hh
 have hh:a_ A.C.P w (bu S w) e' es (rho id):=hh
 obtain⟨ie,xs,l9,hpos,hown,_⟩:=hh
 have AJ:∃ad c,rho id=.slice ad es.length c/\es.length<=c:=by
  rcases hown.2 with⟨g1,g2⟩ | ⟨g,cap,cur,g1,_,_,g2,_⟩
  ·exact⟨none,0,by rw[g1,g2],by omega⟩
  exact⟨_,cap,g1,g2⟩
 obtain⟨ad,c,AJ,hle⟩:=AJ
 have hb:=rU sim lo hi Js Jt true es.length c k m k' n hle h1 h2 h3 h4 h5
 refine ba sim hd hnext hq (.vw id _ _ _ fun e2 oK=>?_) (by simp[execOp,aZ,Instr.sliceAt,Instr.slice,hv,AJ,run_underlying eW,hb,Go.sizeOf,typeInfo,l9];rfl)
 rw[a7] at oK
 injection oK with oK
 subst oK
 exact⟨hL,es.length,c,ad,ie,AJ,l9,by omega,by omega,hle,rfl⟩
theorem Flat.take {S:Nat->Prop} {w:World} {k:Nat} {es:List (List PV)} {xs:List Value} (h:Flat S w k es xs) (n:Nat) (hn:n<=es.length):Flat S w k (es.take n) (xs.take (n*k)):=by
 have JA:n*k<=es.length*k:=Nat.mul_le_mul_right _ hn
 refine⟨by rw[List.length_take,List.length_take,h.len];rw[Nat.min_eq_left JA,Nat.min_eq_left hn],fun r hr=>h.row r (List.mem_of_mem_take hr),fun u hu=>h.one u (List.mem_of_mem_take hu),fun i r j x hi hj=>?_⟩
 have Ju:=aW hi
 rw[List.length_take] at Ju
 rw[List.getElem?_take_of_lt (by omega)] at hi
 obtain⟨u,h1,h2⟩:=h.rep i r j x hi hj
 have Pk:j < k:=by rw[<-h.row r (List.mem_of_getElem? hi)];exact aW hj
 refine⟨u,?_,h2⟩
 rw[List.getElem?_take_of_lt,h1]
 have:=Nat.mul_le_mul_right k (show i+1<=n by omega)
 rw[Nat.succ_mul] at this
 omega
theorem Flat.drop {S:Nat->Prop} {w:World} {k:Nat} {es:List (List PV)} {xs:List Value} (h:Flat S w k es xs) (n:Nat):Flat S w k (es.drop n) (xs.drop (n*k)):=by
 refine⟨by rw[List.length_drop,List.length_drop,h.len,Nat.sub_mul],fun r hr=>h.row r (List.mem_of_mem_drop hr),fun u hu=>h.one u (List.mem_of_mem_drop hu),fun i r j x hi hj=>?_⟩
 rw[List.getElem?_drop] at hi
 obtain⟨u,h1,h2⟩:=h.rep (n+i) r j x hi hj
 refine⟨u,?_,h2⟩
 rw[List.getElem?_drop,<-h1]
 congr 1
 rw[Nat.add_mul,Nat.add_assoc]
theorem bK.Da {S:Nat->Prop} {w:World} {P:Program} {L:Nat->Prop} {rho:Nat->Value} {h:Nat->AB} {id lo hi:Nat} {v:Value} (hx:bK S w P L rho h (.vw id lo hi) v) {e:TypeId} {es:List (List PV)} (he:h id=.row e es):
  L id/\∃n c a ti,rho id=.slice a n c/\P.info? e=some ti/\lo<=hi/\hi<=n/\n<=c/\v=.slice (if c=lo then a else a.map (·.add (lo*ti.size))) (hi - lo) (c - lo):=by
 cases hx with
 | vw _ _ _ _ hv=>exact hv e (by rw[he];rfl)
theorem Db {A:dc} {o:Oper} (c:Call) (aZ:o.op=.call c) (hc:c.callee=.builtin .clear):gx A o:=by
 intro V L S rho s a w K next Q hC sim hV hd hq _ hnext
 obtain⟨callee,args,argTypes⟩:=c
 simp only at hc
 subst hc
 simp only[bY,aZ,eh,eN] at hq
 split at hq
 case h_2=>exact hq.elim
 rename_i x t hargs C0
 have hx:=bL sim x fun j hj=>hV j (by simp[aZ,Op.operands,Call.operands,hj];rw[<-hj];exact Array.mem_toList_iff.1 (by rw[hargs];simp))
 have e1:args=#[x]:=by rw[<-Array.toArray_toList (xs:=args),hargs]
 have e2:argTypes=#[t]:=by rw[<-Array.toArray_toList (xs:=argTypes),C0]
 subst e1 e2
 split at hq
 case h_2=>exact hq.elim
 rename_i e size bytes zero eq hT
 have eW:=(hC.gw t _ hT).under
 simp only at eW
 split at hq
 case h_2=>exact hq.elim
 rename_i ti pF
 split at hq
 case h_2=>exact hq.elim
 rename_i id lo hi hid
 split at hq
 case h_2=>exact hq.elim
 rename_i e' es a7
 split at hq
 case h_2=>exact hq.elim
 rename_i AK
 simp only[Bool.and_eq_true] at AK
 obtain⟨tN,hpos⟩:=AK
 obtain⟨⟨Pm,Oa⟩,hq⟩:=hq
 obtain rfl:=gy tN
 have hpos:0 < ti.size:=Nat.le_of_ble_eq_true hpos
 rw[hid] at hx
 obtain⟨hL,n,cp,ad,Ob,lV,yz,_,Pn,Jv,hval⟩:=hx.Da a7
 have hh:=sim.hp id hL
 rw[a7] at hh
 have hh:a_ A.C.P w (bu S w) e' es (rho id):=hh
 obtain⟨ie,ze,l9,tM,I3,Fa,Fb,gO⟩:=(hC.gw e' ti pF).info
 rw[l9] at yz;injection yz with yz;subst yz
 obtain⟨xs,AL,hown,qv⟩:=a_.flat l9 hh
 have fin:∀w',(∀ty,(Builtin.clear_ #[t] ty #[a.eval x]).run A.C.P w=.ok (.tuple #[]) w')->cm A V L S rho ⟨s.t,bI s.h id (.row e' (es.take lo++List.replicate (hi - lo) (ti.zero.map nT)++es.drop hi))⟩ a w'->o.wp A.C.P a w next Q:=by
  intro w' hrun cg
  exact dR (v:=.tuple #[]) (by simp[execOp,aZ,resolve,invoke,builtin,hrun]) (hnext _ _ _ S _ _ _ hq (cg.value o.dst hd (.tu []) _ (.tu [] #[] rfl (by simp))))
 by_cases heq:hi=lo
 ·subst heq
  refine fin w (fun ty=>?_) ?_
  ·rw[hval,Nat.sub_self]
   cases (if cp=hi then ad else ad.map (·.add (hi*ie.size))) <;> simp[Builtin.clear_,run_underlying eW]
  rw[Nat.sub_self,List.replicate_zero,List.append_nil,List.take_append_drop,eR _ _ _ a7]
  exact sim
 rcases hown.2 with⟨g1,g2⟩ | ⟨g,cap,cur,g1,_,g3,g4,g5,g6,g7⟩
 ·exact absurd g2 (by omega)
 have Gs:=lV
 rw[g1] at Gs
 injection Gs with r1 r2 r3
 subst r1 r2 r3
 have LP:a.eval x=.slice (some ⟨g,lo*ie.size,none⟩) (hi - lo) (cap - lo):=by
  rw[hval,if_neg (by omega)]
  simp only[Option.map_some,Addr.add]
  split
  ·rename_i h0;rw[h0]
  simp
 have LQ:((Array.range ((hi - lo)*ti.size)).map (ti.zero.toArray[· % ti.zero.toArray.size]!))=Builtin.zeroCells ze.cells (hi - lo):=by
  unfold Builtin.zeroCells
  rw[Fb,(show ti.zero.toArray.size=ti.size by simpa using (hC.gw e' ti pF).CO)]
 have hz:=Flat.zero S w (hC.gw e' ti pF) hpos (hi - lo)
 rw[LQ,<-tM] at hz
 have hcl:(Builtin.zeroCells ze.cells (hi - lo)).toList.length=(hi - lo)*ie.size:=by rw[hz.len,List.length_replicate]
 have rY:hi*ie.size<=cap*ie.size:=Nat.mul_le_mul_right _ (by omega)
 have L5:lo*ie.size+(hi - lo)*ie.size=hi*ie.size:=by rw[<-Nat.add_mul];congr 1;omega
 have wR:=run_storeCells_at A.C.P g (lo*ie.size) e' (Builtin.zeroCells ze.cells (hi - lo)).toList 0 cur w g3 (by rw[hcl,g6];omega) hz.one
 simp only[Nat.add_zero] at wR
 have BN:hi - lo≠0:=by omega
 refine fin (w.setRow g (cur.toList.take (lo*ie.size)++(Builtin.zeroCells ze.cells (hi - lo)).toList++cur.toList.drop (lo*ie.size+(Builtin.zeroCells ze.cells (hi - lo)).toList.length)).toArray) (fun ty=>?_) ?_
 ·rw[LP]
  cases hk:hi - lo with
  | zero=>exact absurd hk BN
  | succ m=>
   rw[hk] at wR
   simp[Builtin.clear_,run_underlying eW,zeroValue,typeInfo,l9,Fa,wR]
 refine sim.write hC id hL (by rw[a7];trivial) _ (fun e2 h=>by rw[a7];exact h) _ (setRow_os w g _) (setRow_tape w g _) (setRow_output w g _) (setRow_size w g _) (fun k hk=>setRow_other w g k _ fun e=>hk (by rw[g1,e];rfl)) fun T=>?_
 show a_ A.C.P _ _ e' _ (rho id)
 have hF:Flat S w ie.size (es.take lo++List.replicate (hi - lo) (ti.zero.map nT)++es.drop hi) (xs.take (lo*ie.size)++(Builtin.zeroCells ze.cells (hi - lo)).toList++xs.drop (hi*ie.size)):=((qv.take lo (by omega)).app hz).app (qv.drop hi)
 refine a_.of_flat l9 AL ?_ (hF.mono T.hS T.keep)
 have Nu:(es.take lo++List.replicate (hi - lo) (ti.zero.map nT)++es.drop hi).length=es.length:=by simp;omega
 rw[Nu]
 refine⟨by rw[hF.len,Nu],.inr ⟨g,cap,_,g1,Nat.zero_le _,setRow_heap w g cur _ e' (0,0) g3,g4,g5,?_,?_⟩⟩
 ·rw[List.size_toArray,List.length_append,List.length_append,hcl,List.length_take,List.length_drop,Array.length_toList,g6]
  omega
 rw[<-g7,hcl,L5]
 have h1:lo*ie.size<=es.length*ie.size:=Nat.mul_le_mul_right _ (by omega)
 have h2:hi*ie.size<=es.length*ie.size:=Nat.mul_le_mul_right _ Oa
 have h3:es.length*ie.size<=cap*ie.size:=Nat.mul_le_mul_right _ g4
 simp only[List.take_append,List.length_append,List.length_take,Array.length_toList,g6,hcl,List.take_take,List.drop_take]
 rw[Nat.min_eq_left (show lo*ie.size<=cap*ie.size by omega),Nat.min_eq_left h1]
 rw[Nat.min_eq_right h1,List.take_of_length_le (l:=(Builtin.zeroCells ze.cells (hi - lo)).toList) (by rw[hcl];omega)]
 rw[show es.length*ie.size - (lo*ie.size+(hi - lo)*ie.size)=es.length*ie.size - hi*ie.size by omega]
end Go.AM
