/- Part 1 of 11 of the proof of HouseDrillsEachOnce (the names are shortened by a program: the size of a claim is limited). -/
import Derived.StillTail
import Derived.OwnWalk
import Derived.WalkKit
import Derived.Lib.Hide
import Derived.Below
import Derived.MapKept
set_option linter.unusedVariables false
set_option linter.unusedSimpArgs false
set_option maxRecDepth 100000
set_option maxHeartbeats 8000000
namespace Go.AM
open Go.RowKit
inductive PV where
 | im (x:Value)
 | ag (cs:List PV)
 | sl (es:List (List PV))
 | ip (cs:List PV)
 | fn (f:FuncId) (cap:List PV)
inductive AV where
 | p (x:PV)
 | nl
 | ow (id:Nat)
 | rp (id i off:Nat)
 | bx (id off:Nat)
 | vw (id lo hi:Nat)
 | fn (f:FuncId) (cap:List AV)
 | tu (xs:List AV)
 | st (xs:List AV)
 | junk
inductive MK where
 | str
 | int (k:IntKind)
 | st (sh:List Nat)
def yo:Nat->Value->Prop
 | 0,.string _=>True
 | 1,.int k _=>k=.i64
 | 2,.bool _=>True
 | _,_=>False
def gE:List Nat->List Value->Prop
 | [],[]=>True
 | n::s,v::r=>yo n v/\gE s r
 | _,_=>False
def MK.ok:MK->Value->Prop
 | .str,.string _=>True
 | .int k,.int k' _=>k'=k
 | .st sh,.agg xs=>gE sh xs.toList
 | _,_=>False
inductive HC where
 | p (x:PV)
 | row (e:TypeId) (es:List (List PV))
def HC.isRow:HC->Prop
 | .row ..=>True
 | _=>False
inductive HX where
 | av (x:AV)
 | row (e:TypeId) (es:List (List PV))
inductive AB where
 | none
 | row (e:TypeId) (es:List (List PV))
 | fK (es:List (List PV))
 | box (cs:List AV)
 | fv (ty:TypeId) (cs:List AV)
 | gC (cs:List PV)
 | map (mk:MK) (es:List (Value×PV))
 | aC (cs:List HC)
 | an (e:TypeId) (es:List (List HX))
def AB.live:AB->Prop
 | .row .. | .box .. | .fv .. | .map .. | .aC .. | .an ..=>True
 | _=>False
def AB.jB:AB->Option TypeId
 | .row e _=>some e
 | .an e _=>some e
 | _=>Option.none
def AB.there:AB->Prop
 | .none=>False
 | _=>True
structure AS where
 t:Nat->AV
 h:Nat->AB
def aA {α:Type} (f:Nat->α) (i:Nat) (x:α) (j:Nat):α:=match Nat.beq j i with | true=>x | false=>f j
theorem ar {α:Type} (f:Nat->α) (i:Nat) (x:α):aA f i x i=x:=by simp[aA]
theorem aE {α:Type} (f:Nat->α) {i j:Nat} (x:α) (h:j≠i):aA f i x j=f j:=by
 unfold aA
 have:Nat.beq j i=false:=by rw[Bool.eq_false_iff];intro e;exact h (Nat.eq_of_beq_eq_true e)
 rw[this]
theorem dp {α:Type} (f:Nat->α) (i:Nat) (x:α) (h:f i=x):aA f i x=f:=by
 funext j
 by_cases e:j=i
 ·subst e;rw[ar,h]
 rw[aE _ _ e]
inductive az (S:Nat->Prop) (w:World):PV->Value->Prop
 | im (x:Value):az S w (.im x) x
 | ag (cs:List PV) (vs:Array Value) (hl:cs.length=vs.size) (h1:∀u∈vs.toList,u.oneCell'=true) (h:∀(i:Nat) c v,cs[i]?=some c->vs[i]?=some v->az S w c v):az S w (.ag cs) (.agg vs)
 | nil (a:Option Addr) (c:Nat):az S w (.sl []) (.slice a 0 c)
 | sl (es:List (List PV)) (k b off c:Nat) (U:Nat->Nat->Value) (hc:es.length<=c) (hS:S b) (hk:∀e∈es,e.length=k)
   (hcell:∀(i:Nat) e (j:Nat) x,es[i]?=some e->e[j]?=some x->w.cell? ⟨b,off+i*k+j,none⟩=some (U i j)/\(U i j).oneCell'=true)
   (h:∀(i:Nat) e (j:Nat) x,es[i]?=some e->e[j]?=some x->az S w x (U i j)):az S w (.sl es) (.slice (some ⟨b,off,none⟩) es.length c)
 | ip (cs:List PV) (b off:Nat) (U:Nat->Value) (hS:S b) (hcell:∀(j:Nat) x,cs[j]?=some x->w.cell? ⟨b,off+j,none⟩=some (U j)/\(U j).oneCell'=true)
   (h:∀(j:Nat) x,cs[j]?=some x->az S w x (U j)):az S w (.ip cs) (.pointer (some ⟨b,off,none⟩))
 | fn (f:FuncId) (cap:List PV) (vs:Array Value) (hl:cap.length=vs.size) (h:∀(i:Nat) c v,cap[i]?=some c->vs[i]?=some v->az S w c v):az S w (.fn f cap) (.func (.func f) #[] vs)
theorem az.mono {S S':Nat->Prop} {w w':World} {x:PV} {v:Value} (h:az S w x v) (hS:∀b,S b->S' b) (hw:∀b,S b->w'.heap[b]?=w.heap[b]?):az S' w' x v:=by
 induction h with
 | im x=>exact .im x
 | ag cs vs hl h1 h ih=>exact .ag cs vs hl h1 ih
 | nil a c=>exact .nil a c
 | sl es k b off c U hc hb hk hcell h ih=>exact .sl es k b off c U hc (hS b hb) hk (fun i e j x h1 h2=>⟨(World.cell?_of_block (hw b hb)).trans (hcell i e j x h1 h2).1,(hcell i e j x h1 h2).2⟩) ih
 | ip cs b off U hb hcell h ih=>exact .ip cs b off U (hS b hb) (fun j x h1=>⟨(World.cell?_of_block (hw b hb)).trans (hcell j x h1).1,(hcell j x h1).2⟩) ih
 | fn f cap vs hl h ih=>exact .fn f cap vs hl ih
structure Fr (mv:Nat->Prop) (w w':World):Prop where
 os:w'.os=w.os
 tape:w'.tape=w.tape
 output:w'.output=w.output
 size:w.heap.size<=w'.heap.size
 block:∀k,k < w.heap.size->¬mv k->w'.heap[k]?=w.heap[k]?
theorem Fr.refl (mv:Nat->Prop) (w:World):Fr mv w w:=⟨rfl,rfl,rfl,Nat.le_refl _,fun _ _ _=>rfl⟩
theorem Fr.trans {mv O2:Nat->Prop} {a b c:World} (h:Fr mv a b) (k:Fr O2 b c) (hm:∀i,O2 i->mv i\/a.heap.size<=i):Fr mv a c:=
 ⟨k.os.trans h.os,k.tape.trans h.tape,k.output.trans h.output,Nat.le_trans h.size k.size,fun i hi hn=>
  (k.block i (Nat.lt_of_lt_of_le hi h.size) (fun Ap=>by rcases hm i Ap with h1 | h1;exact hn h1;omega)).trans (h.block i hi hn)⟩
def aw {α:Type} (P:Program) (w:World) (R:α->Value->Prop) (e:TypeId) (es:List (List α)) (v:Value):Prop:=
 ∃i xs,P.info? e=some i/\0 < i.size/\w.ownsRow 0 e i.size v es.length xs/\(∀r∈es,r.length=i.size)/\(∀u∈xs,u.oneCell'=true)/\
  ∀(a:Nat) r (j:Nat) x,es[a]?=some r->r[j]?=some x->∃u,xs[a*i.size+j]?=some u/\R x u
def br:Value->Option Nat
 | .slice (some a) _ _=>some a.block
 | .pointer (some a)=>some a.block
 | .map (some g)=>some g
 | _=>none
inductive aI (S:Nat->Prop) (w:World) (P:Program) (L:Nat->Prop) (rho:Nat->Value) (h:Nat->AB):AV->Value->Prop
 | p (x:PV) (v:Value) (hx:az S w x v):aI S w P L rho h (.p x) v
 | nl:aI S w P L rho h .nl (.slice none 0 0)
 | ow (id:Nat) (v:Value) (hv:(h id).there->L id/\v=rho id):aI S w P L rho h (.ow id) v
 | rp (id i off:Nat) (v:Value) (hv:∀e,(h id).jB=some e->L id/\∃g n c ti,rho id=.slice (some ⟨g,0,none⟩) n c/\P.info? e=some ti/\v=.pointer (some ⟨g,i*ti.size+off,none⟩)):aI S w P L rho h (.rp id i off) v
 | bx (id off:Nat) (v:Value) (hv:(h id).there->L id/\∃g,rho id=.pointer (some ⟨g,0,none⟩)/\v=.pointer (some ⟨g,off,none⟩)):aI S w P L rho h (.bx id off) v
 | vw (id lo hi:Nat) (v:Value) (hv:∀e,(h id).jB=some e->L id/\∃n c a ti,rho id=.slice a n c/\P.info? e=some ti/\lo<=hi/\hi<=n/\n<=c/\v=.slice (if c=lo then a else a.map (·.add (lo*ti.size))) (hi - lo) (c - lo)):aI S w P L rho h (.vw id lo hi) v
 | fn (f:FuncId) (cap:List AV) (vs:Array Value) (hl:cap.length=vs.size) (hc:∀(i:Nat) c v,cap[i]?=some c->vs[i]?=some v->aI S w P L rho h c v):aI S w P L rho h (.fn f cap) (.func (.func f) #[] vs)
 | tu (xs:List AV) (vs:Array Value) (hl:xs.length=vs.size) (hc:∀(i:Nat) c v,xs[i]?=some c->vs[i]?=some v->aI S w P L rho h c v):aI S w P L rho h (.tu xs) (.tuple vs)
 | st (xs:List AV) (vs:Array Value) (hl:xs.length=vs.size) (h1:∀u∈vs.toList,u.oneCell'=true) (hc:∀(i:Nat) c v,xs[i]?=some c->vs[i]?=some v->aI S w P L rho h c v):aI S w P L rho h (.st xs) (.agg vs)
 | junk (v:Value):aI S w P L rho h .junk v
def GK (S:Nat->Prop) (w:World) (P:Program):HC->Value->Prop
 | .p x,u=>az S w x u
 | .row e es,u=>aw P w (az S w) e es u
structure Bx (S:Nat->Prop) (w:World) (P:Program) (cs:List HC) (g:Nat) (ty:TypeId) (c:Array Value):Prop where
 hp:w.heap[g]?=some (.cells c ty (0,0))
 sz:c.size=cs.length
 cell:∀(j:Nat) x u,cs[j]?=some x->c[j]?=some u->u.oneCell'=true/\GK S w P x u
 top:∀(j:Nat) x u b,cs[j]?=some x->c[j]?=some u->x.isRow->br u=some b->b≠g
 dis:∀(i j:Nat) x y u v b,cs[i]?=some x->cs[j]?=some y->c[i]?=some u->c[j]?=some v->x.isRow->y.isRow->br u=some b->br v=some b->i=j
def my (S:Nat->Prop) (w:World) (P:Program) (L:Nat->Prop) (rho:Nat->Value) (h:Nat->AB):HX->Value->Prop
 | .av x,u=>aI S w P L rho h x u
 | .row e es,u=>aw P w (az S w) e es u
def b_ (w:World) (es:List (List HX)) (g:Nat) (a j:Nat) (u:Value):Prop:=∃(r:List HX) (e:TypeId) (xs:List (List PV)) (c:Array Value) (ty:TypeId) (m:Nat×Nat),es[a]?=some r/\r[j]?=some (.row e xs)/\w.heap[g]?=some (.cells c ty m)/\c[a*r.length+j]?=some u
structure oR (w:World) (es:List (List HX)) (v:Value):Prop where
 top:∀g a j u b,br v=some g->b_ w es g a j u->br u=some b->b≠g
 dis:∀g a j a' j' u u' b,br v=some g->b_ w es g a j u->b_ w es g a' j' u'->br u=some b->br u'=some b->a=a'/\j=j'
def MF (w:World) (x:AB) (v:Value) (k:Nat):Prop:=∃e es g a j u,x=.an e es/\br v=some g/\b_ w es g a j u/\br u=some k
def MG (w:World) (x:AB) (v:Value) (k:Nat):Prop:=∃cs g,x=.aC cs/\br v=some g/\∃(c:Array Value) (ty:TypeId) (m:Nat×Nat) (j:Nat) (y:HC) (u:Value),w.heap[g]?=some (.cells c ty m)/\cs[j]?=some y/\y.isRow/\c[j]?=some u/\br u=some k
def PZ (w:World) (x:AB) (v:Value) (k:Nat):Prop:=MG w x v k\/MF w x v k
def hasB (w:World) (x:AB) (v:Value) (k:Nat):Prop:=br v=some k\/PZ w x v k
theorem iK {w w':World} {es:List (List HX)} {g a j:Nat} {u:Value} (hw:w'.heap[g]?=w.heap[g]?) (h:b_ w' es g a j u):b_ w es g a j u:=by
 obtain⟨r,e,xs,c,ty,m,h1,h2,h3,h4⟩:=h
 exact⟨r,e,xs,c,ty,m,h1,h2,by rw[<-hw];exact h3,h4⟩
theorem bZ {w w':World} {x:AB} {v:Value} {k:Nat} (hw:∀g,br v=some g->w'.heap[g]?=w.heap[g]?) (h:hasB w' x v k):hasB w x v k:=by
 rcases h with h | ⟨cs,g,hx,hv,c,ty,m,j,y,u,h1,h2⟩ | ⟨e,es,g,a,j,u,hx,hv,h1,h2⟩
 ·exact .inl h
 ·exact .inr (.inl ⟨cs,g,hx,hv,c,ty,m,j,y,u,by rw[<-hw g hv];exact h1,h2⟩)
 exact .inr (.inr ⟨e,es,g,a,j,u,hx,hv,iK (hw g hv) h1,h2⟩)
def Hz:AB->Bool
 | .aC _=>false
 | .an _ _=>false
 | _=>true
theorem aq {w:World} {x:AB} {v:Value} {k:Nat} (hx:Hz x=true) (h:hasB w x v k):br v=some k:=by
 rcases h with h | ⟨cs,g,rfl,_⟩ | ⟨e,es,g,a,j,u,rfl,_⟩
 ·exact h
 ·cases hx
 cases hx
def cZ (S:Nat->Prop) (w:World) (P:Program) (L:Nat->Prop) (rho:Nat->Value) (h:Nat->AB) (id:Nat):AB->Prop
 | .none=>True
 | .row e es=>aw P w (az S w) e es (rho id)
 | .fK es=>az S w (.sl es) (rho id)
 | .box cs=>∃g ty c,rho id=.pointer (some ⟨g,0,none⟩)/\w.heap[g]?=some (.cells c ty (0,0))/\c.size=cs.length/\∀(j:Nat) x u,cs[j]?=some x->c[j]?=some u->u.oneCell'=true/\aI S w P L rho h x u
 | .fv ty cs=>∃g c,rho id=.pointer (some ⟨g,0,none⟩)/\w.heap[g]?=some (.cells c ty (0,0))/\c.size=cs.length/\∀(j:Nat) x u,cs[j]?=some x->c[j]?=some u->u.oneCell'=true/\aI S w P L rho h x u
 | .gC cs=>az S w (.ip cs) (rho id)
 | .aC cs=>∃g ty c,rho id=.pointer (some ⟨g,0,none⟩)/\Bx S w P cs g ty c
 | .an e es=>aw P w (my S w P L rho h) e es (rho id)/\oR w es (rho id)
 | .map mk es=>∃g ms clock,rho id=.map (some g)/\w.heap[g]?=some (.map ms clock)/\ms.size=es.length/\∀(i:Nat) p m,es[i]?=some p->ms[i]?=some m->m.key=p.1/\mk.ok p.1/\az S w p.2 m.val
end Go.AM
namespace Go.AM
open Go.RowKit
inductive UD where
 | sc
 | int (k:IntKind)
 | st (fs:List (Nat×Nat×Bool))
 | sl (e:TypeId)
 | str
 | mp (k e:TypeId)
structure TI where
 ud:UD
 size:Nat
 bytes:Nat
 zero:List Value
 eq:Bool:=false
def UD.agg:UD->Bool
 | .st _=>true
 | _=>false
inductive Arg where
 | pv (x:PV)
 | row (e:TypeId) (es:List (List PV))
 | map (mk:MK) (es:List (Value×PV))
 | box (cs:List PV)
 | aC (cs:List HC)
inductive AR where
 | p (x:PV)
 | own (e:TypeId) (es:List (List PV))
 | tu (xs:List PV)
 | hown (cs:List HC)
inductive Fin where
 | gone
 | row (es:List (List PV))
 | map (es:List (Value×PV))
 | box (cs:List PV)
 | aC (cs:List HC)
structure Ctx where
 P:Program
 T:TypeId->Option TI
 md:FuncId->Nat->Bool
 E:(Nat->Prop)->World->Prop
 bl:FuncId->Bool:=fun _=>false
 bt:TypeId->Bool:=fun _=>false
 bn:TypeId->Bool:=fun _=>false
 bo:TypeId->Bool:=fun _=>false
 bf:Nat->Bool:=fun _=>false
def By:Value->Value->Bool
 | .string a,.string b=>decide (a=b)
 | .int _ a,.int _ b=>decide (a=b)
 | .bool a,.bool b=>decide (a=b)
 | _,_=>false
def wm:List Value->List Value->Bool
 | [],[]=>true
 | x::r,y::s=>By x y && wm r s
 | _,_=>false
def wo:Value->Value->Bool
 | .string a,.string b=>decide (a=b)
 | .int _ a,.int _ b=>decide (a=b)
 | .agg a,.agg b=>wm a.toList b.toList
 | _,_=>false
def fO:List (Value×PV)->Value->Option PV
 | [],_=>none
 | (k',v)::r,k=>match wo k k' with
  | true=>some v
  | false=>fO r k
def gu:List (Value×PV)->Value->PV->List (Value×PV)
 | [],k,v=>[(k,v)]
 | (k',u)::r,k,v=>match wo k k' with
  | true=>(k,v)::r
  | false=>(k',u)::gu r k v
def uw:List Value->Option (List Nat)
 | []=>some []
 | .string _::r=>(uw r).map (0::·)
 | .int .i64 _::r=>(uw r).map (1::·)
 | .bool _::r=>(uw r).map (2::·)
 | _=>none
def sU (ti:TI):Option MK:=match ti.ud with
 | .str=>some .str
 | .int k=>some (.int k)
 | .st fs=>match ti.eq,fs.any (·.2.2) with
  | true,false=>(uw ti.zero).map .st
  | _,_=>none
 | _=>none
def LW:List Nat->List Nat->Bool
 | [],[]=>true
 | a::r,b::s=>match Nat.beq a b with
  | true=>LW r s
  | false=>false
 | _,_=>false
def MH:MK->MK->Bool
 | .str,.str=>true
 | .int .i64,.int .i64=>true
 | .st a,.st b=>LW a b
 | _,_=>false
def gX:List Nat->List PV->Option (List Value)
 | [],[]=>some []
 | 0::s,.im (.string x)::r=>(gX s r).map (.string x::·)
 | 1::s,.im (.int .i64 x)::r=>(gX s r).map (.int .i64 x::·)
 | 2::s,.im (.bool x)::r=>(gX s r).map (.bool x::·)
 | _,_=>none
def keyOf:MK->AV->Option Value
 | .str,.p (.im (.string s))=>some (.string s)
 | .int .i64,.p (.im (.int .i64 n))=>some (.int .i64 n)
 | .st sh,.p (.ag cs)=>(gX sh cs).map fun l=>.agg l.toArray
 | _,_=>none
abbrev KK:=AV->List (Nat×AB)->Option AB->Prop
def app (h:Nat->AB):List (Nat×AB)->Nat->AB
 | []=>h
 | (i,b)::r=>app (aA h i b) r
def qx:Value->PV
 | .slice none 0 0=>.sl []
 | v=>.im v
def Jz (b:Bool) (v:Value):PV:=match b with
 | true=>.im v
 | false=>qx v
def JA:PV->AV
 | .im (.slice none 0 0)=>.nl
 | x=>.p x
def Bz:Value->AV
 | .slice none 0 0=>.nl
 | v=>.p (.im v)
def ux:Value->AV
 | .slice none 0 0=>.nl
 | .agg cs=>match cs.toList.all Value.oneCell' with
  | true=>.p (.ag (cs.toList.map qx))
  | false=>.junk
 | v=>.p (.im v)
def ev (t:Nat->AV):Operand->AV
 | .tmp j=>t j
 | .const v=>ux v
 | .global g=>.p (.im (.pointer (some ⟨g,0,none⟩)))
 | .func f=>.p (.im (.func (.func f) #[] #[]))
def cv:List AV->Option (List PV)
 | []=>some []
 | .p x::r=>(cv r).map (x::·)
 | .nl::r=>(cv r).map (.sl []::·)
 | _=>none
def gY (h:Nat->AB) (a:AV) (K:PV->List (Nat×AB)->Prop):Prop:=
 match a with
 | .p x=>K x []
 | .nl=>K (.sl []) []
 | .ow id=>match h id with
  | .row _ es=>K (.sl es) [(id,.fK es)]
  | .fK es=>K (.sl es) []
  | _=>False
 | .bx id off=>match h id with
  | .box cs=>match cv cs with
   | some xs=>K (.ip (xs.drop off)) [(id,.gC xs)]
   | none=>False
  | .gC xs=>K (.ip (xs.drop off)) []
  | _=>False
 | _=>False
def pR (h:Nat->AB):List AV->(List PV->List (Nat×AB)->Prop)->Prop
 | [],K=>K [] []
 | a::r,K=>gY h a fun x fz=>pR h r fun xs iL=>K (x::xs) (fz++iL)
def eh (h:Nat->AB) (a:AV) (K:PV->List (Nat×AB)->Prop):Prop:=
 match a with
 | .fn f cap=>pR h cap fun xs fz=>K (.fn f xs) fz
 | a=>gY h a K
def mQ:PV->Option (List PV)
 | .ag cs=>some cs
 | .im x=>match x.oneCell' with
  | true=>some [.im x]
  | false=>none
 | x=>some [x]
def oS (h:Nat->AB):AV->Bool
 | .p (.im x)=>x.oneCell'
 | .p (.ag _)=>false
 | .p _=>true
 | .nl=>true
 | .ow id=>match h id with
  | .row _ _=>true
  | .an _ _=>true
  | .fK _=>true
  | _=>false
 | .bx id _=>match h id with
  | .none=>false
  | _=>true
 | .rp id _ _=>match h id with
  | .row _ _=>true
  | .an _ _=>true
  | _=>false
 | .fn _ _=>true
 | _=>false
def setCells {α:Type}:List α->Nat->List α->List α
 | cs,_,[]=>cs
 | cs,off,x::r=>setCells (cs.set off x) (off+1) r
def mR (id:Nat):List (Nat×AB)->Bool
 | []=>true
 | (i,_)::r=>match Nat.beq i id with
  | true=>false
  | false=>mR id r
def Aq (a b:Nat):Bool:=Nat.ble a b
def sQ (a b:Nat):Bool:=Nat.beq a b
def P0 (x:Int):Prop:=-9223372036854775808<=x/\x<=9223372036854775807
def HA {α:Type}:List α->Bool
 | []=>true
 | _=>false
def kB (a b:IntKind):Bool:=match a,b with
 | .i8,.i8 | .i16,.i16 | .i32,.i32 | .i64,.i64 | .u8,.u8 | .u16,.u16 | .u32,.u32 | .u64,.u64=>true
 | _,_=>false
def JU:IntKind->Bool
 | .i64=>true
 | _=>false
def oT (k:IntKind) (n:Int) (K:Value->Prop):Prop:=match JU k with
 | true=>P0 n/\K (.int .i64 n)
 | false=>K (.int k (k.wrap n))
def aU:List Value->List PV->List PV->Option Bool
 | [],[],[]=>some true
 | .int _ _::z,.im (.int k a)::r,.im (.int k' b)::s=>match kB k k' with
  | true=>(aU z r s).map (decide (a=b) && ·)
  | false=>none
 | .string _::z,.im (.string a)::r,.im (.string b)::s=>(aU z r s).map (decide (a=b) && ·)
 | .bool _::z,.im (.bool a)::r,.im (.bool b)::s=>(aU z r s).map (decide (a=b) && ·)
 | _,_,_=>none
def BA (T:TypeId->Option TI) (op:BinOp) (t:TypeId) (x:PV) (K:Value->Prop):Prop:=match x with
 | .sl es=>match HA es with
  | true=>False
  | false=>match T t with
   | some { ud:=.sl _,.. }=>match op with
    | .eql=>K (.bool false)
    | .neq=>K (.bool true)
    | _=>False
   | _=>False
 | _=>False
def MI:BinOp->Bool
 | .shr=>true
 | _=>false
def mS (T:TypeId->Option TI) (op:BinOp) (t:TypeId) (x y:PV) (K:Value->Prop):Prop:=
 match x,y with
 | .im (.int k a),.im (.int k' b)=>match MI op with
  | true=>(0<=b/\b < 64)/\K (.int k (a.fdiv (2 ^ (min b.toNat k.bits))))
  | false=>match kB k k' with
  | false=>False
  | true=>match op with
   | .add=>oT k (a+b) K
   | .sub=>oT k (a - b) K
   | .mul=>oT k (a*b) K
   | .quo=>b≠0/\oT k (a.tdiv b) K
   | .rem=>b≠0/\K (.int k (a.tmod b))
   | .eql=>K (.bool (decide (a=b)))
   | .neq=>K (.bool (!decide (a=b)))
   | .lss=>K (.bool (decide (a < b)))
   | .leq=>K (.bool (decide (a<=b)))
   | .gtr=>K (.bool (decide (a > b)))
   | .geq=>K (.bool (decide (a>=b)))
   | _=>False
 | .im (.string a),.im (.string b)=>match op with
  | .add=>a.size+b.size<=9223372036854775807/\K (.string (a++b))
  | .eql=>K (.bool (decide (a=b)))
  | .neq=>K (.bool (!decide (a=b)))
  | .lss=>K (.bool (Op.bytesLess a.data.toList b.data.toList))
  | .leq=>K (.bool (Op.bytesLess a.data.toList b.data.toList || decide (a=b)))
  | .gtr=>K (.bool !(Op.bytesLess a.data.toList b.data.toList || decide (a=b)))
  | .geq=>K (.bool !(Op.bytesLess a.data.toList b.data.toList))
  | _=>False
 | .im (.bool a),.im (.bool b)=>match T t with
  | some { ud:=.sc,eq:=true,.. }=>match op with
   | .eql=>K (.bool (decide (a=b)))
   | .neq=>K (.bool (!decide (a=b)))
   | _=>False
  | _=>False
 | .ag a,.ag b=>match T t with
  | some { ud:=.st _,eq:=true,size:=n,zero:=z,.. }=>match sQ n a.length with
   | false=>False
   | true=>match op with
    | .eql=>match aU z a b with
     | some r=>K (.bool r)
     | none=>False
    | .neq=>match aU z a b with
     | some r=>K (.bool !r)
     | none=>False
    | _=>False
  | _=>False
 | _,_=>False
def uy (S:Nat->Prop) (w:World) (mk:MK) (es:List (Value×PV)) (v:Value):Prop:=∃g ms clock,v=.map (some g)/\w.heap[g]?=some (.map ms clock)/\ms.size=es.length/\∀(i:Nat) p m,es[i]?=some p->ms[i]?=some m->m.key=p.1/\mk.ok p.1/\az S w p.2 m.val
def yp (S:Nat->Prop) (w:World) (P:Program):Arg->Value->Prop
 | .pv x,v=>az S w x v
 | .row e es,v=>aw P w (az S w) e es v/\∀g,br v=some g->¬S g
 | .map mk es,v=>uy S w mk es v/\∀g,br v=some g->¬S g
 | .box cs,v=>∃g ty c,v=.pointer (some ⟨g,0,none⟩)/\w.heap[g]?=some (.cells c ty (0,0))/\c.size=cs.length/\¬S g/\∀(j:Nat) x u,cs[j]?=some x->c[j]?=some u->u.oneCell'=true/\az S w x u
 | .aC cs,v=>∃g ty c,v=.pointer (some ⟨g,0,none⟩)/\Bx S w P cs g ty c/\∀k,hasB w (.aC cs) v k->¬S k/\k < w.heap.size
def uz:Arg->AB
 | .aC cs=>.aC cs
 | _=>.none
def HB:Fin->AB
 | .aC cs=>.aC cs
 | _=>.none
def Arg.handed:Arg->Bool
 | .pv _=>false
 | _=>true
def Mv (w:World) (args:List Arg) (vs:Array Value) (g:Nat):Prop:=∃(j:Nat) (x:Arg) (v:Value),args[j]?=some x/\vs[j]?=some v/\x.handed=true/\hasB w (uz x) v g
def mT (S:Nat->Prop) (w:World) (P:Program):Arg->Fin->Value->Prop
 | _,.gone,_=>True
 | .row e _,.row es,v=>aw P w (az S w) e es v/\∀g,br v=some g->¬S g
 | .map mk _,.map es,v=>uy S w mk es v/\∀g,br v=some g->¬S g
 | .box _,.box cs,v=>∃g ty c,v=.pointer (some ⟨g,0,none⟩)/\w.heap[g]?=some (.cells c ty (0,0))/\c.size=cs.length/\¬S g/\∀(j:Nat) x u,cs[j]?=some x->c[j]?=some u->u.oneCell'=true/\az S w x u
 | .aC _,.aC cs,v=>∃g ty c,v=.pointer (some ⟨g,0,none⟩)/\Bx S w P cs g ty c/\∀k,hasB w (.aC cs) v k->¬S k
 | _,_,_=>False
def Fin.kept:Fin->Bool
 | .gone=>false
 | _=>true
def CV (S:Nat->Prop) (w:World) (P:Program):AR->Value->Prop
 | .p x,v=>az S w x v
 | .own e es,v=>aw P w (az S w) e es v/\∀g,br v=some g->¬S g
 | .hown cs,v=>∃g ty c,v=.pointer (some ⟨g,0,none⟩)/\Bx S w P cs g ty c/\∀k,hasB w (.aC cs) v k->¬S k
 | .tu xs,v=>∃vs:Array Value,v=.tuple vs/\xs.length=vs.size/\∀(i:Nat) x u,xs[i]?=some x->vs[i]?=some u->az S w x u
def AR.owns:AR->Bool
 | .own ..=>true
 | .hown ..=>true
 | _=>false
def AR.ab:AR->AB
 | .hown cs=>.aC cs
 | _=>.none
def dT (S:Nat->Prop) (w:World) (P:Program):List Arg->List Fin->List Value->Prop
 | [],[],[]=>True
 | x::xs,fs,v::vs=>match x.handed with
  | false=>dT S w P xs fs vs
  | true=>match fs with
   | f::fs=>mT S w P x f v/\dT S w P xs fs vs
   | []=>False
 | _,_,_=>False
def bU (w:World):List Arg->List Fin->List Value->Nat->Nat->Prop
 | x::xs,fs,v::vs,i,g=>match x.handed with
  | false=>match i with
   | 0=>False
   | i+1=>bU w xs fs vs i g
  | true=>match fs with
   | f::fs=>match i with
    | 0=>f.kept=true/\hasB w (HB f) v g
    | i+1=>bU w xs fs vs i g
   | []=>False
 | _,_,_,_,_=>False
def nA (w w':World) (args:List Arg) (fin:List Fin) (vs:Array Value):Prop:=
 (∀i g,bU w' args fin vs.toList i g->g < w'.heap.size/\(w.heap.size<=g\/Mv w args vs g))/\∀i j g,bU w' args fin vs.toList i g->bU w' args fin vs.toList j g->i=j
def af (C:Ctx) (f:FuncId) (args:List Arg) (r:AR) (fin:List Fin):Prop:=
 (∃ fn : Func, C.P.funcs[f]? = some fn ∧ (fn.name == "runtime.NumGoroutine") = false ∧ fn.body.isNone = false) ∧
 ∀(S:Nat->Prop) (w:World) (vs:Array Value),C.E S w->(∀b,S b->b < w.heap.size)->args.length=vs.size ->
  (∀(j:Nat) x v,args[j]?=some x->vs[j]?=some v->yp S w C.P x v)->
  (∀(i j:Nat) x y v u g,args[i]?=some x->args[j]?=some y->vs[i]?=some v->vs[j]?=some u->x.handed=true->y.handed=true->hasB w (uz x) v g->hasB w (uz y) u g->i=j)->
  Calls C.P f vs w fun e w'=>∃v S',e=.returned v/\Fr (Mv w args vs) w w'/\(∀b,S b->S' b)/\(∀b,S' b->b < w'.heap.size)/\(∀b,S' b->S b\/w.heap.size<=b\/Mv w args vs b)/\
   CV S' w' C.P r v/\dT S' w' C.P args fin vs.toList/\nA w w' args fin vs/\(∀g,r.owns=true->hasB w' r.ab v g->g < w'.heap.size/\(w.heap.size<=g\/Mv w args vs g)/\∀i,¬bU w' args fin vs.toList i g)
def dU (md:Nat->Bool) (h:Nat->AB):Nat->List AV->(List Arg->List (Nat×AB)->List (Nat×AB)->Prop)->Prop
 | _,[],K=>K [] [] []
 | j,a::r,K=>match md j with
  | false=>eh h a fun x fz=>dU md h (j+1) r fun xs ids iL=>K (.pv x::xs) ids (fz++iL)
  | true=>match a with
   | .ow id=>match h id with
    | .row e es=>dU md h (j+1) r fun xs ids fz=>K (.row e es::xs) ((id,.row e es)::ids) fz
    | .fK es=>dU md h (j+1) r fun xs ids fz=>K (.pv (.sl es)::xs) ids fz
    | .map mk es=>dU md h (j+1) r fun xs ids fz=>K (.map mk es::xs) ((id,.map mk es)::ids) fz
    | _=>False
   | .p x=>dU md h (j+1) r fun xs ids fz=>K (.pv x::xs) ids fz
   | .bx id 0=>match h id with
    | .box cs=>match cv cs with
     | some ys=>dU md h (j+1) r fun xs ids fz=>K (.box ys::xs) ((id,.box cs)::ids) fz
     | none=>False
    | .aC cs=>dU md h (j+1) r fun xs ids fz=>K (.aC cs::xs) ((id,.aC cs)::ids) fz
    | _=>False
   | _=>False
def CW:PV->Bool
 | .im _=>true
 | .ag cs=>cs.all fun | .im _=>true | _=>false
 | _=>false
def AR.free:AR->Bool
 | .p x=>CW x
 | .tu xs=>xs.all CW
 | .own ..=>false
 | .hown ..=>false
def dI:List (Nat×AB)->List Fin->Option (List (Nat×AB))
 | [],[]=>some []
 | (id,_)::ids,.gone::fs=>(dI ids fs).map ((id,.none)::·)
 | (id,.row e _)::ids,.row es::fs=>(dI ids fs).map ((id,.row e es)::·)
 | (id,.map mk _)::ids,.map es::fs=>(dI ids fs).map ((id,.map mk es)::·)
 | (id,.box _)::ids,.box cs::fs=>(dI ids fs).map ((id,.box (cs.map .p))::·)
 | (id,.aC _)::ids,.aC cs::fs=>(dI ids fs).map ((id,.aC cs)::·)
 | _,_=>none
def MJ:AR->Option AB
 | .own e es=>some (.row e es)
 | .hown cs=>some (.aC cs)
 | _=>none
def JB (d:Nat):AR->AV
 | .p x=>.p x
 | .own ..=>.ow d
 | .hown _=>.bx d 0
 | .tu xs=>.tu (xs.map .p)
def isNil {α:Type}:List α->Bool
 | []=>true
 | _=>false
def Ar:List (Nat×AB)->List (Nat×AB)->Bool
 | [],_=>true
 | (i,_)::r,fz=>mR i fz && mR i r && Ar r fz
def jC (C:Ctx) (h:Nat->AB) (d:Nat) (f:FuncId) (args:List AV) (K:KK):Prop:=
 dU (C.md f) h 0 args fun xs ids fz=>∃r fin,af C f xs r fin/\match dI ids fin with
  | some fe=>match Ar ids fz with
   | true=>match r.free && isNil ids with
    | true=>K (JB d r) [] none
    | false=>K (JB d r) (fz++fe) (MJ r)
   | false=>False
  | none=>False
inductive JV:HX->PV->Prop
 | p (x:PV):JV (.av (.p x)) x
 | nl:JV (.av .nl) (.sl [])
 | row (e:TypeId) (xs:List (List PV)):JV (.row e xs) (.sl xs)
structure JC (es:List (List HX)) (ps:List (List PV)):Prop where
 len:ps.length=es.length
 row:∀(a:Nat) r q,es[a]?=some r->ps[a]?=some q->q.length=r.length/\∀(j:Nat) x y,r[j]?=some x->q[j]?=some y->JV x y
inductive jh (h:Nat->AB):AV->PV->Prop
 | p (x:PV):jh h (.p x) x
 | nl:jh h .nl (.sl [])
 | row (id:Nat) (e:TypeId) (es:List (List PV)) (hr:h id=.row e es):jh h (.ow id) (.sl es)
 | fK (id:Nat) (es:List (List PV)) (hr:h id=.fK es):jh h (.ow id) (.sl es)
 | an (id:Nat) (e:TypeId) (es:List (List HX)) (ps:List (List PV)) (hr:h id=.an e es) (hp:JC es ps):jh h (.ow id) (.sl ps)
inductive jD (h:Nat->AB):List AV->List PV->Prop
 | nil:jD h [] []
 | cons {a:AV} {x:PV} {as:List AV} {xs:List PV} (h1:jh h a x) (h2:jD h as xs):jD h (a::as) (x::xs)
inductive View (h:Nat->AB):AV->PV->Prop
 | one {a:AV} {x:PV} (h1:jh h a x):View h a x
 | box (id off:Nat) (cs:List AV) (xs:List PV) (hb:h id=.box cs) (hx:jD h cs xs):View h (.bx id off) (.ip (xs.drop off))
 | gC (id off:Nat) (xs:List PV) (hb:h id=.gC xs):View h (.bx id off) (.ip (xs.drop off))
inductive nB (h:Nat->AB):List AV->List PV->Prop
 | nil:nB h [] []
 | cons {a:AV} {x:PV} {as:List AV} {xs:List PV} (h1:View h a x) (h2:nB h as xs):nB h (a::as) (x::xs)
def JW (C:Ctx) (h:Nat->AB) (d:Nat) (f:FuncId) (args:List AV) (K:KK):Prop:=∃xs r,nB h args xs/\af C f (xs.map .pv) r []/\r.free=true/\K (JB d r) [] none
def ML:AV->Bool
 | .ow _=>true
 | _=>false
def sV {α:Type} (f:α->Bool):List α->Bool
 | []=>false
 | x::r=>match f x with
  | true=>true
  | false=>sV f r
def cw (h:Nat->AB):AV->Bool
 | .bx id _=>match h id with
  | .box cs=>sV ML cs
  | _=>false
 | .ow id=>match h id with
  | .an _ _=>true
  | _=>false
 | _=>false
def pS (C:Ctx) (h:Nat->AB) (d:Nat) (f:FuncId) (args:List AV) (K:KK):Prop:=match sV (cw h) args with
 | false=>jC C h d f args K
 | true=>JW C h d f args K
def HD (C:Ctx) (f:FuncId) (xs:List PV) (ty e:TypeId) (es:List (List PV)) (r:AR) (ch:Bool) (bW:Option (List (List PV))):Prop:=
 (∃ fn : Func, C.P.funcs[f]? = some fn ∧ (fn.name == "runtime.NumGoroutine") = false ∧ fn.body.isNone = false) ∧
 ∀(S:Nat->Prop) (w:World) (vs:List Value) (b:Nat) (u0 u1:Value),C.E S w->(∀k,S k->k < w.heap.size)->xs.length=vs.length ->
  (∀(j:Nat) x v,xs[j]?=some x->vs[j]?=some v->az S w x v)->w.heap[b]?=some (.cells #[u0,u1] ty (0,0))->(u0=.pointer none\/u0=.pointer (some ⟨b,0,none⟩))->
  aw C.P w (az S w) e es u1->¬S b->(∀g,br u1=some g->¬S g/\g≠b/\g < w.heap.size)->
  Calls C.P f (vs++[Value.pointer (some ⟨b,0,none⟩)]).toArray w fun e' w'=>∃v,e'=.returned v/\Fr (fun k=>k=b\/br u1=some k) w w'/\CV S w' C.P r v/\match bW with
   | none=>True
   | some bW=>∃u1',w'.heap[b]?=some (.cells #[(match ch with | true=>Value.pointer (some ⟨b,0,none⟩) | false=>u0),u1'] ty (0,0))/\aw C.P w' (az S w') e bW u1'/\∀g,br u1'=some g->g < w'.heap.size/\(br u1=some g\/w.heap.size<=g)
def lC:List AV->Option (List AV×AV)
 | []=>none
 | [x]=>some ([],x)
 | x::y::r=>match lC (y::r) with
  | some (l,z)=>some (x::l,z)
  | none=>none
def GL (id:Nat):AV->Bool
 | .p (.im (.pointer none))=>true
 | .bx i 0=>Nat.beq i id
 | _=>false
def pT (ch:Bool) (id:Nat) (c:AV):AV:=match ch with
 | true=>.bx id 0
 | false=>c
def pU (C:Ctx) (h:Nat->AB) (d:Nat) (f:FuncId) (args:List AV) (K:KK):Prop:=
 match lC args with
 | some (as,.bx id 0)=>match h id with
  | .fv ty [c,.ow gZ]=>match GL id c with
   | true=>match h gZ with
    | .row e es=>pR h as fun xs fz=>∃r ch bW,HD C f xs ty e es r ch bW/\match r.free && (mR id fz && (mR gZ fz && !Nat.beq id gZ)) with
     | true=>match bW with
      | some bW=>K (JB d r) (fz++[(gZ,.none),(id,.fv ty [pT ch id c,.ow d])]) (some (.row e bW))
      | none=>K (JB d r) (fz++[(gZ,.none),(id,.none)]) none
     | false=>False
    | _=>False
   | false=>False
  | _=>False
 | _=>False
def fM (h:Nat->AB) (fs:List (Nat×Nat×Bool)) (rho:Operand->AV):List (Nat×Operand)->List PV->(List PV->List (Nat×AB)->Prop)->Prop
 | [],cs,K=>K cs []
 | (i,x)::r,cs,K=>match fs[i]? with
  | some (off,size,_)=>eh h (rho x) fun y fz=>match mQ y with
   | some ys=>match sQ ys.length size && Aq (off+size) cs.length with
    | true=>fM h fs rho r (setCells cs off ys) fun iH iL=>K iH (fz++iL)
    | false=>False
   | none=>False
  | none=>False
def gD (h:Nat->AB) (fs:List (Nat×Nat×Bool)) (rho:Operand->AV):List (Nat×Operand)->List AV->(List AV->Prop)->Prop
 | [],cs,K=>K cs
 | (i,x)::r,cs,K=>match fs[i]? with
  | some (off,size,_)=>match sQ size 1 && Aq (off+1) cs.length && oS h (rho x) with
   | true=>gD h fs rho r (cs.set off (rho x)) K
   | false=>False
  | none=>False
def pV (b:Bool) (h:Nat->AB) (a:AV) (K:PV->List (Nat×AB)->Prop):Prop:=match b,a with
 | true,.nl=>K (.im (.slice none 0 0)) []
 | _,a=>eh h a K
def dV (b:Bool) (h:Nat->AB) (size:Nat) (rho:Operand->AV):List (Nat×Operand)->List (List PV)->(List (List PV)->List (Nat×AB)->Prop)->Prop
 | [],es,K=>K es []
 | (i,x)::r,es,K=>pV b h (rho x) fun y fz=>match mQ y with
  | some ys=>match sQ ys.length size && Nat.blt i es.length with
   | true=>dV b h size rho r (es.set i ys) fun bW iL=>K bW (fz++iL)
   | false=>False
  | none=>False
def dW (h:Nat->AB) (a:AV) (K:List (List PV)->Prop):Prop:=match a with
 | .p (.sl es)=>K es
 | .nl=>K []
 | .ow id=>match h id with
  | .row _ es=>K es
  | .fK es=>K es
  | _=>False
 | _=>False
inductive CK where
 | len
 | clear
 | min
 | max
 | append
 | val (g:Operand)
 | other
def dm:Builtin->CK
 | .len=>.len
 | .clear=>.clear
 | .min=>.min
 | .max=>.max
 | .append=>.append
 | _=>.other
def cM:Callee->CK
 | .builtin b=>dm b
 | .value g=>.val g
 | .invoke _ _=>.other
def As:Fn->Option FuncId
 | .func f=>some f
 | _=>none
def Au:Value->Option (FuncId×List AV)
 | .func fn first cap=>match isNil first.toList && isNil cap.toList with
  | true=>match As fn with
   | some f=>some (f,[])
   | none=>none
  | false=>none
 | _=>none
def Av:PV->Option (FuncId×List AV)
 | .im v=>Au v
 | .fn f cap=>some (f,cap.map .p)
 | _=>none
def qZ:AV->Option (FuncId×List AV)
 | .p x=>Av x
 | .fn f cap=>some (f,cap)
 | _=>none
def q9 (ti:TI):PV:=match ti.ud.agg with
 | true=>.ag (ti.zero.map qx)
 | false=>match ti.zero with
  | z::_=>qx z
  | []=>.im undef
def dJ (C:Ctx) (rho:Operand->AV) (h:Nat->AB) (t:TypeId) (x:Operand) (lo hi:Option Operand) (K:KK):Prop:=
  let l:=match lo with | some y=>rho y | none=>.p (.im (.int .i64 0))
  match C.T t with
  | some { ud:=.str,.. }=>match rho x with
   | .p (.im (.string s))=>
    match l,(match hi with | some y=>rho y | none=>.p (.im (.int .i64 s.size))) with
    | .p (.im (.int _ a)),.p (.im (.int _ b))=>(0<=a/\a<=b/\b<=s.size)/\K (.p (.im (.string (s.extract a.toNat b.toNat)))) [] none
    | _,_=>False
   | _=>False
  | some { ud:=.sl e,.. }=>match C.T e with
   | none=>False
   | some te=>eh h (rho x) fun y fz=>match y with
    | .sl es=>match l,(match hi with | some y=>rho y | none=>.p (.im (.int .i64 es.length))) with
     | .p (.im (.int _ a)),.p (.im (.int _ b))=>(0<=a/\a<=b/\b<=es.length/\∀r∈es,r.length=te.size)/\K (.p (.sl ((es.take b.toNat).drop a.toNat))) fz none
     | _,_=>False
    | _=>False
  | _=>False
def nD (C:Ctx) (rho:Operand->AV) (t:TypeId) (lo hi:Option Operand) (id:Nat) (e':TypeId) (es:List (List PV)) (K:KK):Prop:=
 match C.T t with
 | some { ud:=.sl e,.. }=>match sQ e' e with
  | true=>match (match lo with | some y=>rho y | none=>.p (.im (.int .i64 0))),(match hi with | some y=>rho y | none=>.p (.im (.int .i64 es.length))) with
   | .p (.im (.int _ a)),.p (.im (.int _ b))=>(0<=a/\a<=b/\b<=es.length)/\K (.vw id a.toNat b.toNat) [] none
   | _,_=>False
  | false=>False
 | _=>False
def hlen (h:Nat->AB):AV->Option Nat
 | .ow id=>match h id with
  | .an _ es=>some es.length
  | _=>none
 | .vw id lo hi=>match h id with
  | .row _ _=>some (hi - lo)
  | _=>none
 | _=>none
def oQ (r:List PV):List HX:=r.map fun x=>.av (JA x)
def aY (C:Ctx) (o:Oper) (rho:Operand->AV) (h:Nat->AB) (K:KK):Prop:=
 let d:=o.dst.getD 0
 match o.op with
 | .move x=>K (rho x) [] none
 | .assign x=>K (rho x) [] none
 | .pick c a b=>match rho c with
  | .p (.im (.bool t))=>match t with
   | true=>K (rho a) [] none
   | false=>K (rho b) [] none
  | _=>False
 | .binOp op t x y _=>match rho x,rho y with
  | .p a,.p b=>mS C.T op t a b fun v=>K (.p (.im v)) [] none
  | .p a,.nl=>BA C.T op t a fun v=>K (.p (.im v)) [] none
  | _,_=>False
 | .unOp op _ x=>match op,rho x with
  | .not,.p (.im (.bool b))=>K (.p (.im (.bool !b))) [] none
  | .neg,.p (.im (.int k n))=>oT k (0 - n) fun v=>K (.p (.im v)) [] none
  | _,_=>False
 | .convert src dst x=>match rho x,C.T src,C.T dst with
  | .p (.im (.int _ n)),some _,some { ud:=.int k,.. }=>oT k n fun v=>K (.p (.im v)) [] none
  | .p (.im (.string s)),some { ud:=.str,.. },some { ud:=.str,.. }=>K (.p (.im (.string s))) [] none
  | .p (.im (.int _ n)),some { ud:=.int _,.. },some { ud:=.str,.. }=>K (.p (.im (.string (Utf8.encode n)))) [] none
  | _,_,_=>False
 | .nilCheck x=>match rho x with
  | .p (.ip cs)=>K (.p (.ip cs)) [] none
  | .bx id off=>match h id with
   | .box _=>K (.bx id off) [] none
   | .gC _=>K (.bx id off) [] none
   | _=>False
  | .rp id i off=>match h id with
   | .row _ _=>K (.rp id i off) [] none
   | .an _ _=>K (.rp id i off) [] none
   | _=>False
  | _=>False
 | .extract x i=>match rho x with
  | .tu xs=>match xs[i]? with
   | some a=>K a [] none
   | none=>False
  | _=>False
 | .box _ x=>match rho x with
  | .p (.ag cs)=>K (.bx d 0) [] (some (.box (cs.map .p)))
  | .st xs=>K (.bx d 0) [] (some (.box xs))
  | a=>match oS h a with
   | true=>K (.bx d 0) [] (some (.box [a]))
   | false=>False
 | .alloc e=>match C.T e with
  | some ti=>match C.bt e with
   | false=>K (.bx d 0) [] (some (.box (ti.zero.map Bz)))
   | true=>K (.bx d 0) [] (some (.fv e (ti.zero.map Bz)))
  | none=>False
 | .load t a=>match C.T t with
  | none=>False
  | some ti=>match rho a with
   | .p (.ip cs)=>match ti.ud.agg with
    | true=>match Aq ti.size cs.length with
     | true=>K (.p (.ag (cs.take ti.size))) [] none
     | false=>False
    | false=>match cs with
     | c::_=>K (.p c) [] none
     | []=>False
   | .bx id off=>match h id with
    | .box cs=>match ti.ud.agg with
     | true=>match Aq (off+ti.size) cs.length,cv ((cs.drop off).take ti.size) with
      | true,some xs=>K (.p (.ag xs)) [] none
      | _,_=>False
     | false=>match cs.drop off with
      | c::_=>K c [] none
      | []=>False
    | .gC cs=>match ti.ud.agg with
     | true=>match Aq (off+ti.size) cs.length with
      | true=>K (.p (.ag ((cs.drop off).take ti.size))) [] none
      | _=>False
     | false=>match cs.drop off with
      | c::_=>K (.p c) [] none
      | []=>False
    | _=>False
   | .rp id i off=>match h id with
    | .row _ es=>∃r,es[i]?=some r/\match ti.ud.agg with
     | true=>match Aq (off+ti.size) r.length with
      | true=>K (.p (.ag ((r.drop off).take ti.size))) [] none
      | _=>False
     | false=>match r.drop off with
      | c::_=>K (.p c) [] none
      | []=>False
    | .an _ es=>∃r,es[i]?=some r/\match ti.ud.agg with
     | true=>False
     | false=>match r.drop off with
      | .av c::_=>K c [] none
      | _=>False
    | _=>False
   | _=>False
 | .store t a x=>match C.T t with
  | none=>False
  | some ti=>match rho a with
   | .bx id off=>match h id with
    | .box cs=>match ti.ud.agg with
     | true=>eh h (rho x) fun y fz=>match y with
      | .ag ys=>match sQ ys.length ti.size && Aq (off+ti.size) cs.length && mR id fz with
       | true=>K .junk (fz++[(id,.box (setCells cs off (ys.map JA)))]) none
       | false=>False
      | _=>False
     | false=>match Aq (off+1) cs.length && sQ ti.size 1 && oS h (rho x) with
      | true=>K .junk [(id,.box (cs.set off (rho x)))] none
      | false=>False
    | _=>False
   | .rp id i off=>match h id with
    | .row e es=>∃r,es[i]?=some r/\eh h (rho x) fun y fz=>match mQ y with
     | some ys=>match sQ ys.length ti.size && Aq (off+ti.size) r.length && mR id fz with
      | true=>K .junk (fz++[(id,.row e (es.set i (setCells r off ys)))]) none
      | false=>False
     | none=>False
    | .an e es=>∃r,es[i]?=some r/\match ti.ud.agg with
     | true=>False
     | false=>match Aq (off+1) r.length && sQ ti.size 1 && oS h (rho x) with
      | true=>K .junk [(id,.an e (es.set i (r.set off (.av (rho x)))))] none
      | false=>False
    | _=>False
   | _=>False
 | .fieldAddr t x f=>match C.T t with
  | some { ud:=.st fs,.. }=>match fs[f]? with
   | some (off,_,_)=>match rho x with
    | .p (.ip cs)=>K (.p (.ip (cs.drop off))) [] none
    | .bx id o=>match h id with
     | .none=>False
     | _=>K (.bx id (o+off)) [] none
    | .rp id i o=>match h id with
     | .row _ _=>K (.rp id i (o+off)) [] none
     | .an _ _=>K (.rp id i (o+off)) [] none
     | _=>False
    | _=>False
   | none=>False
  | _=>False
 | .field t x f=>match C.T t,rho x with
  | some { ud:=.st fs,.. },.p (.ag cs)=>match fs[f]? with
   | some (off,size,agg)=>match agg with
    | true=>match Aq (off+size) cs.length with
     | true=>K (.p (.ag ((cs.drop off).take size))) [] none
     | false=>False
    | false=>match cs.drop off with
     | c::_=>K (.p c) [] none
     | []=>False
   | none=>False
  | _,_=>False
 | .indexAddr t x ix=>match C.T t,rho ix with
  | some { ud:=.sl e,.. },.p (.im (.int _ i))=>match C.T e with
   | none=>False
   | some te=>match rho x with
    | .p (.sl es)=>∃r,(0<=i/\es[i.toNat]?=some r)/\match sQ r.length te.size with
     | true=>K (.p (.ip r)) [] none
     | false=>False
    | .ow id=>match h id with
     | .row e' es=>match sQ e' e with
      | true=>(0<=i/\i.toNat < es.length)/\K (.rp id i.toNat 0) [] none
      | false=>False
     | .an e' es=>match sQ e' e with
      | true=>(0<=i/\i.toNat < es.length)/\K (.rp id i.toNat 0) [] none
      | false=>False
     | .fK es=>∃r,(0<=i/\es[i.toNat]?=some r)/\match sQ r.length te.size with
      | true=>K (.p (.ip r)) [] none
      | false=>False
     | _=>False
    | .vw id lo hi=>match h id with
     | .row e' es=>match sQ e' e with
      | true=>(0<=i/\i.toNat < hi - lo)/\K (.rp id (lo+i.toNat) 0) [] none
      | false=>False
     | _=>False
    | _=>False
  | _,_=>False
 | .index t x ix=>match C.T t,rho x,rho ix with
  | some { ud:=.str,.. },.p (.im (.string s)),.p (.im (.int _ i))=>∃b,(0<=i/\s[i.toNat]?=some b)/\K (.p (.im (.int .u8 b.toNat))) [] none
  | _,_,_=>False
 | .slice t x lo hi none=>match rho x with
  | .ow id=>match h id with
   | .row e' es=>nD C rho t lo hi id e' es K\/dJ C rho h t x lo hi K
   | _=>dJ C rho h t x lo hi K
  | _=>dJ C rho h t x lo hi K
 | .makeMap t none=>match C.T t with
  | some { ud:=.mp kt _,.. }=>match C.T kt with
   | some tk=>match sU tk with
    | some mk=>K (.ow d) [] (some (.map mk []))
    | none=>False
   | none=>False
  | _=>False
 | .lookup t x i ck=>match C.T t with
  | some { ud:=.mp kt et,.. }=>match C.T kt,C.T et with
   | some tk,some te=>match sU tk with
    | some mk=>match rho x with
     | .ow id=>match h id with
      | .map mk' es=>match MH mk mk' with
       | true=>match keyOf mk (rho i) with
        | some k=>∃r,fO es k=r/\match ck with
         | true=>K (.tu [.p (r.getD (q9 te)),.p (.im (.bool r.isSome))]) [] none
         | false=>K (.p (r.getD (q9 te))) [] none
        | none=>False
       | false=>False
      | _=>False
     | _=>False
    | none=>False
   | _,_=>False
  | _=>False
 | .mapUpdate t x i y=>match C.T t with
  | some { ud:=.mp kt _,.. }=>match C.T kt with
   | some tk=>match sU tk with
    | some mk=>match rho x with
     | .ow id=>match h id with
      | .map mk' es=>match MH mk mk' with
       | true=>match keyOf mk (rho i) with
        | some k=>eh h (rho y) fun v fz=>match mR id fz with
         | true=>K .junk (fz++[(id,.map mk' (gu es k v))]) none
         | false=>False
        | none=>False
       | false=>False
      | _=>False
     | _=>False
    | none=>False
   | none=>False
  | _=>False
 | .build t ps=>match C.T t with
  | some { ud:=.st fs,zero:=z,.. }=>match C.bo t with
   | false=>fM h fs rho ps.toList (z.map (Jz (C.bn t))) fun cs fz=>K (.p (.ag cs)) fz none
   | true=>gD h fs rho ps.toList (z.map Bz) fun cs=>K (.st cs) [] none
  | _=>False
 | .buildSlice t len ps=>match C.T t with
  | some { ud:=.sl e,.. }=>match C.T e with
   | some ti=>match Nat.blt 0 ti.size && Aq (len*ti.size) 16777216 with
    | true=>match C.bf d with
     | false=>dV (C.bn t) h ti.size rho ps.toList (List.replicate len (ti.zero.map qx)) fun es fz=>K (.ow d) fz (some (.row e es))
     | true=>dV (C.bn t) h ti.size rho ps.toList (List.replicate len (ti.zero.map qx)) fun es fz=>K (.ow d) fz (some (.fK es))
    | false=>False
   | none=>False
  | _=>False
 | .makeSlice t n c=>match C.T t,rho n,rho c with
  | some { ud:=.sl e,.. },.p (.im (.int _ n)),.p (.im (.int _ c))=>match C.T e with
   | some ti=>match Nat.blt 0 ti.size with
    | true=>(0<=n/\n<=c/\c*ti.bytes<=140737488355328/\c<=9223372036854775807)/\K (.ow d) [] (some (.row e (List.replicate n.toNat (ti.zero.map (Jz (C.bn t))))))
    | false=>False
   | none=>False
  | _,_,_=>False
 | .makeFunc (.func f) first cap=>match isNil first.toList with
  | true=>K (.fn f (cap.toList.map rho)) [] none
  | false=>False
 | .call c=>match cM c.callee with
  | .len=>match c.args.toList,c.argTypes.toList with
   | [x],[t]=>match C.T t with
    | some { ud:=.str,.. }=>match rho x with
     | .p (.im (.string s))=>K (.p (.im (.int .i64 s.size))) [] none
     | _=>False
    | some { ud:=.sl _,.. }=>match hlen h (rho x) with
     | some n=>K (.p (.im (.int .i64 n))) [] none
     | none=>dW h (rho x) fun es=>K (.p (.im (.int .i64 es.length))) [] none
    | some { ud:=.mp _ _,.. }=>match rho x with
     | .ow id=>match h id with
      | .map _ es=>K (.p (.im (.int .i64 es.length))) [] none
      | _=>False
     | _=>False
    | _=>False
   | _,_=>False
  | .clear=>match c.args.toList,c.argTypes.toList with
   | [x],[t]=>match C.T t with
    | some { ud:=.sl e,.. }=>match C.T e with
     | some ti=>match rho x with
      | .vw id lo hi=>match h id with
       | .row e' es=>match sQ e' e && Nat.blt 0 ti.size with
        | true=>(lo<=hi/\hi<=es.length)/\K (.tu []) [(id,.row e' (es.take lo++List.replicate (hi - lo) (ti.zero.map qx)++es.drop hi))] none
        | false=>False
       | _=>False
      | _=>False
     | none=>False
    | _=>False
   | _,_=>False
  | .min=>match c.args.toList with
   | [x,y]=>match rho x,rho y with
    | .p (.im (.int k a)),.p (.im (.int _ b))=>K (.p (.im (.int k (min a b)))) [] none
    | _,_=>False
   | _=>False
  | .max=>match c.args.toList with
   | [x,y]=>match rho x,rho y with
    | .p (.im (.int k a)),.p (.im (.int _ b))=>K (.p (.im (.int k (max a b)))) [] none
    | _,_=>False
   | [x,y,z]=>match rho x,rho y,rho z with
    | .p (.im (.int k a)),.p (.im (.int _ b)),.p (.im (.int _ c))=>K (.p (.im (.int k (max (max a b) c)))) [] none
    | _,_,_=>False
   | [x,y,z,u,v]=>match rho x,rho y,rho z,rho u,rho v with
    | .p (.im (.int k a)),.p (.im (.int _ b)),.p (.im (.int _ c)),.p (.im (.int _ d)),.p (.im (.int _ e))=>K (.p (.im (.int k (max (max (max (max a b) c) d) e)))) [] none
    | _,_,_,_,_=>False
   | _=>False
  | .append=>match c.args.toList,c.argTypes.toList with
   | [x,y],[t,t']=>match sQ t t',C.T t with
    | true,some { ud:=.sl e,.. }=>match C.T e with
     | some ti=>match Nat.blt 0 ti.size with
      | true=>dW h (rho y) fun ys=>match rho x with
       | .nl=>((∀r∈ys,r.length=ti.size)/\ys.length*ti.bytes<=140737488355328/\ys.length<=140737488355328)/\K (.ow d) [] (some (.row e ys))
       | .ow id=>match h id with
        | .row e' xs=>match sQ e' e with
         | true=>((∀r∈ys,r.length=ti.size)/\(xs.length+ys.length)*ti.bytes<=140737488355328/\xs.length+ys.length<=140737488355328)/\K (.ow d) [(id,.none)] (some (.row e (xs++ys)))
         | false=>False
        | .an e' xs=>match sQ e' e with
         | true=>((∀r∈ys,r.length=ti.size)/\(xs.length+ys.length)*ti.bytes<=140737488355328/\xs.length+ys.length<=140737488355328)/\K (.ow d) [(id,.none)] (some (.an e (xs++ys.map oQ)))
         | false=>False
        | _=>False
       | _=>False
      | false=>False
     | none=>False
    | _,_=>False
   | _,_=>False
  | .val g=>match qZ (rho g) with
   | some (f,cap)=>match C.bl f with
    | false=>pS C h d f (c.args.toList.map rho++cap) K
    | true=>pU C h d f (c.args.toList.map rho++cap) K
   | none=>False
  | _=>False
 | _=>False
end Go.AM
namespace Go.AM
open Go.RowKit
def ji (P:Program) (t:TypeId) (ti:TI):Prop:=
 ∃info z,P.info? t=some info/\info.size=ti.size/\info.bytes=ti.bytes/\info.zero=some z/\z.cells=ti.zero.toArray/\ti.zero.length=ti.size/\(∀v∈ti.zero,v.oneCell'=true)/\
  match ti.ud with
  | .sc=>(∃d,P.underlying t=some d/\(match d with | .struct _ | .array _ _=>False | _=>True))/\(ti.eq=true->P.underlying t=some .bool)
  | .int k=>P.underlying t=some (.int k)
  | .st fs=>∃gs,P.underlying t=some (.struct gs)/\fs.length=gs.size/\(∀(i:Nat) f g,fs[i]?=some f->gs[i]?=some g->f.1=g.offset/\f.2.1≠0/\(∃i2,P.info? g.type=some i2/\i2.size=f.2.1)/\
    (∃d,P.underlying g.type=some d/\f.2.2=(match d with | .struct _ | .array _ _=>true | _=>false)))
  | .sl e=>P.underlying t=some (.slice e)
  | .str=>P.underlying t=some .string
  | .mp k e=>P.underlying t=some (.map k e)
def CX:Value->Bool
 | .agg _=>true
 | _=>false
def yq (P:Program) (t:TypeId) (ti:TI):Prop:=∃info z,P.info? t=some info/\info.zero=some z/\CX z=ti.ud.agg
def mz (k:Value):List MapEntry->Nat->Option (Nat×Value)
 | [],_=>none
 | m::r,i=>match wo k m.key with
  | true=>some (i,m.val)
  | false=>mz k r (i+1)
structure CY (P:Program) (kt:TypeId) (mk:MK):Prop where
 check:∀(e:Bool) (k:Value) (w:World),mk.ok k->(Instr.checkKey e 10000 kt k).run P w=.ok () w
 find:∀(k:Value) (w:World) (ms:List MapEntry),mk.ok k->(∀m∈ms,mk.ok m.key)->(Instr.findKey kt k ms).run P w=.ok (mz k ms 0) w
structure a8 (C:Ctx):Prop where
 zs:∀t ti,C.T t=some ti->yq C.P t ti
 eK:∀t ti,C.T t=some ti->ji C.P t ti
 env:∀S S' w w',C.E S w->(∀b,S b->S' b)->(∀b,S b->w'.heap[b]?=w.heap[b]?)->w.heap.size<=w'.heap.size->C.E S' w'
 any:C.P.follows .mixedOrders=true
 eqs:∀t ti op a b r,C.T t=some ti->ti.eq=true->(∃fs,ti.ud=.st fs)->aU ti.zero a b=some r->∀(xs ys:Array Value) w,(∀(i:Nat) x v,a[i]?=some x->xs[i]?=some v->x=.im v)->(∀(i:Nat) x v,b[i]?=some x->ys[i]?=some v->x=.im v)->
  a.length=xs.size->b.length=ys.size->ti.size=a.length->(op=.eql\/op=.neq)->∀(x y:Operand),(do eqGuard op t x y (.agg xs) (.agg ys);binOp op t (.agg xs) (.agg ys):Sem Value).run C.P w=.ok (.bool (if op=.eql then r else !r)) w
 keys:∀kt tk sh,C.T kt=some tk->sU tk=some (.st sh)->CY C.P kt (.st sh)
structure bE where
 C:Ctx
 w0:World
 mv:Nat->Prop
 s0:Nat->Prop
 n:Nat
 pin:Nat->Value
structure bd (A:bE) (V L:Nat->Prop) (S:Nat->Prop) (rho:Nat->Value) (s:AS) (a:Act) (w:World):Prop where
 tm:∀j,V j->aI S w A.C.P L rho s.h (s.t j) (a.tmps.getD j undef)
 sz:a.tmps.size=A.n
 df:a.defers=[]
 nb:A.n<=100000
 pn:∀id,100000<=id->rho id=A.pin id
 ev:A.C.E S w
 s0:∀b,A.s0 b->S b
 st:∀b,S b->b < w.heap.size
 sb:∀b,S b->A.s0 b\/A.mv b\/A.w0.heap.size<=b
 hp:∀id,L id->cZ S w A.C.P L rho s.h id (s.h id)
 dj:∀i j g,L i->L j->(s.h i).live->(s.h j).live->hasB w (s.h i) (rho i) g->hasB w (s.h j) (rho j) g->i=j
 lv:∀i g,L i->(s.h i).live->hasB w (s.h i) (rho i) g->g < w.heap.size/\¬S g/\(A.mv g\/A.w0.heap.size<=g)
 fr:Fr A.mv A.w0 w
theorem bd.LX {A:bE} {V L S:Nat->Prop} {rho:Nat->Value} {s:AS} {a:Act} {w:World} (sim:bd A V L S rho s a w) (i j g:Nat) (hi:L i) (hj:L j) (li:(s.h i).live) (lj:(s.h j).live) (bi:br (rho i)=some g) (bj:br (rho j)=some g):i=j:=sim.dj i j g hi hj li lj (.inl bi) (.inl bj)
theorem bd.kE {A:bE} {V L S:Nat->Prop} {rho:Nat->Value} {s:AS} {a:Act} {w:World} (sim:bd A V L S rho s a w) (i g:Nat) (hi:L i) (li:(s.h i).live) (bi:br (rho i)=some g):g < w.heap.size/\¬S g/\(A.mv g\/A.w0.heap.size<=g):=sim.lv i g hi li (.inl bi)
structure g_ (S S':Nat->Prop) (w w':World) (L L':Nat->Prop) (rho rho':Nat->Value) (h h':Nat->AB):Prop where
 hS:∀b,S b->S' b
 keep:∀b,S b->w'.heap[b]?=w.heap[b]?
 ids:∀id,(h' id).there->(h id).there/\(L id->L' id/\rho' id=rho id)
 rows:∀id e,(h' id).jB=some e->(h id).jB=some e
theorem jE {b:AB} {e:TypeId} (h:b.jB=some e):b.there:=by cases b <;> first | trivial | cases h
theorem aI.bP {S S':Nat->Prop} {w w':World} {P:Program} {L L':Nat->Prop} {rho rho':Nat->Value} {h h':Nat->AB} (T:g_ S S' w w' L L' rho rho' h h') {x:AV} {v:Value}
  (hx:aI S w P L rho h x v):aI S' w' P L' rho' h' x v:=by
 induction hx with
 | p x v hx=>exact .p x v (hx.mono T.hS T.keep)
 | nl=>exact .nl
 | ow id v hv=>
  refine .ow id v fun ht=>?_
  obtain⟨h1,h2⟩:=T.ids id ht
  obtain⟨h3,h4⟩:=hv h1
  obtain⟨h5,h6⟩:=h2 h3
  exact⟨h5,by rw[h6];exact h4⟩
 | rp id i off v hv=>
  refine .rp id i off v fun e he=>?_
  obtain⟨h3,g,n,c,ti,h4,h5,h6⟩:=hv e (T.rows id e he)
  obtain⟨h7,h8⟩:=(T.ids id (jE he)).2 h3
  exact⟨h7,g,n,c,ti,by rw[h8];exact h4,h5,h6⟩
 | bx id off v hv=>
  refine .bx id off v fun ht=>?_
  obtain⟨h1,h2⟩:=T.ids id ht
  obtain⟨h3,g,h4,h7⟩:=hv h1
  obtain⟨h5,h6⟩:=h2 h3
  exact⟨h5,g,by rw[h6];exact h4,h7⟩
 | vw id lo hi v hv=>
  refine .vw id lo hi v fun e he=>?_
  obtain⟨h3,n,c,a,ti,h4,h5⟩:=hv e (T.rows id e he)
  obtain⟨h7,h8⟩:=(T.ids id (jE he)).2 h3
  exact⟨h7,n,c,a,ti,by rw[h8];exact h4,h5⟩
 | fn f cap vs hl hc ih=>exact .fn f cap vs hl ih
 | tu xs vs hl hc ih=>exact .tu xs vs hl ih
 | st xs vs hl h1 hc ih=>exact .st xs vs hl h1 ih
 | junk v=>exact .junk v
theorem nE {w w':World} {base:Nat} {e:TypeId} {size:Nat} {v:Value} {n:Nat} {xs:List Value} (h:w.ownsRow base e size v n xs) (hb:∀g,br v=some g->w'.heap[g]?=w.heap[g]?):w'.ownsRow base e size v n xs:=by
 refine⟨h.1,?_⟩
 rcases h.2 with h2 | ⟨g,cap,cur,hv,hg,wh,r⟩
 ·exact .inl h2
 exact .inr ⟨g,cap,cur,hv,hg,by rw[hb g (by rw[hv];rfl)];exact wh,r⟩
theorem aw.bP {α:Type} {P:Program} {w w':World} {R R':α->Value->Prop} {e:TypeId} {es:List (List α)} {v:Value} (h:aw P w R e es v) (hb:∀g,br v=some g->w'.heap[g]?=w.heap[g]?) (hR:∀x u,R x u->R' x u):aw P w' R' e es v:=by
 obtain⟨i,xs,h1,h2,h3,h4,h5,h6⟩:=h
 exact⟨i,xs,h1,h2,nE h3 hb,h4,h5,fun a r j x ha hj=>by obtain⟨u,hu,hr⟩:=h6 a r j x ha hj;exact⟨u,hu,hR x u hr⟩⟩
theorem oR.bP {w w':World} {es:List (List HX)} {v:Value} (h:oR w es v) (hb:∀g,br v=some g->w'.heap[g]?=w.heap[g]?):oR w' es v:=
 ⟨fun g a j u b hg h1 h2=>h.top g a j u b hg (iK (hb g hg) h1) h2,fun g a j a' j' u u' b hg h1 h2 h3 h4=>h.dis g a j a' j' u u' b hg (iK (hb g hg) h1) (iK (hb g hg) h2) h3 h4⟩
theorem aw.wq {P:Program} {w:World} {R:HX->Value->Prop} {e:TypeId} {es:List (List HX)} {v:Value} (h:aw P w R e es v) {a j:Nat} {r:List HX} {e':TypeId} {mA:List (List PV)} (ha:es[a]?=some r) (hj:r[j]?=some (.row e' mA)):
  ∃g u,br v=some g/\b_ w es g a j u/\R (.row e' mA) u:=by
 obtain⟨i,xs,h1,h2,h3,h4,h5,h6⟩:=h
 obtain⟨u,hu,hr⟩:=h6 a r j _ ha hj
 have qJ:=h4 r (List.mem_of_getElem? ha)
 rcases h3.2 with⟨hn,hz⟩ | ⟨g,cap,cur,hv,hg,wh,k1,k2,k3,k4⟩
 ·have:=(List.getElem?_eq_some_iff.1 ha).1
  omega
 refine⟨g,u,by rw[hv];rfl,⟨r,e',mA,_,_,_,ha,hj,wh,?_⟩,hr⟩
 rw[qJ]
 rw[<-k4,List.getElem?_take] at hu
 split at hu
 ·simpa using hu
 cases hu
theorem cZ.bP {S S':Nat->Prop} {w w':World} {P:Program} {L L':Nat->Prop} {rho rho':Nat->Value} {h h':Nat->AB} (T:g_ S S' w w' L L' rho rho' h h') {id:Nat} {x:AB}
  (hb:x.live->∀g,hasB w x (rho id) g->w'.heap[g]?=w.heap[g]?) (hr:x.there->rho' id=rho id) (hx:cZ S w P L rho h id x):cZ S' w' P L' rho' h' id x:=by
 cases x with
 | none=>trivial
 | row e es=>
  show aw P w' (az S' w') e es (rho' id)
  rw[hr trivial]
  exact aw.bP hx (fun g hg=>hb trivial g (.inl hg)) (fun x u hu=>hu.mono T.hS T.keep)
 | fK es=>
  show az S' w' (.sl es) (rho' id)
  rw[hr trivial]
  exact az.mono hx T.hS T.keep
 | box cs=>
  obtain⟨g,ty,c,h1,h2,h3,h4⟩:=hx
  refine⟨g,ty,c,by rw[hr trivial];exact h1,by rw[hb trivial g (.inl (by rw[h1];rfl))];exact h2,h3,fun j x u hj hu=>?_⟩
  obtain⟨h5,h6⟩:=h4 j x u hj hu
  exact⟨h5,h6.bP T⟩
 | fv ty cs=>
  obtain⟨g,c,h1,h2,h3,h4⟩:=hx
  refine⟨g,c,by rw[hr trivial];exact h1,by rw[hb trivial g (.inl (by rw[h1];rfl))];exact h2,h3,fun j x u hj hu=>?_⟩
  obtain⟨h5,h6⟩:=h4 j x u hj hu
  exact⟨h5,h6.bP T⟩
 | gC cs=>
  show az S' w' (.ip cs) (rho' id)
  rw[hr trivial]
  exact az.mono hx T.hS T.keep
 | map mk es=>
  obtain⟨g,ms,clock,h1,h2,h3,h4⟩:=hx
  refine⟨g,ms,clock,by rw[hr trivial];exact h1,by rw[hb trivial g (.inl (by rw[h1];rfl))];exact h2,h3,fun i p m hi hm=>?_⟩
  obtain⟨h5,h6,h7⟩:=h4 i p m hi hm
  exact⟨h5,h6,h7.mono T.hS T.keep⟩
 | aC cs=>
  obtain⟨g,ty,c,h1,hB⟩:=hx
  have hg:br (rho id)=some g:=by rw[h1];rfl
  refine⟨g,ty,c,by rw[hr trivial];exact h1,⟨by rw[hb trivial g (.inl hg)];exact hB.hp,hB.sz,fun j x u hj hu=>?_,hB.top,hB.dis⟩⟩
  obtain⟨h5,h6⟩:=hB.cell j x u hj hu
  refine⟨h5,?_⟩
  cases x with
  | p x=>exact az.mono h6 T.hS T.keep
  | row e es=>exact aw.bP h6 (fun k hk=>hb trivial k (.inr (.inl ⟨cs,g,rfl,hg,c,ty,_,j,_,u,hB.hp,hj,trivial,hu,hk⟩))) (fun x u hu=>hu.mono T.hS T.keep)
 | an e es=>
  obtain⟨hR,hS⟩:=hx
  have hg:∀g,br (rho id)=some g->w'.heap[g]?=w.heap[g]?:=fun g hg=>hb trivial g (.inl hg)
  refine⟨?_,by rw[hr trivial];exact hS.bP hg⟩
  rw[hr trivial]
  obtain⟨i,xs,h1,h2,h3,h4,h5,h6⟩:=hR
  refine⟨i,xs,h1,h2,nE h3 hg,h4,h5,fun a r j x ha hj=>?_⟩
  obtain⟨u,hu,sW⟩:=h6 a r j x ha hj
  refine⟨u,hu,?_⟩
  cases x with
  | av x=>exact aI.bP T sW
  | row e' mA=>
   refine aw.bP sW (fun k hk=>hb trivial k (.inr (.inr ?_))) (fun x u hu=>hu.mono T.hS T.keep)
   have qJ:=h4 r (List.mem_of_getElem? ha)
   rcases h3.2 with⟨hn,hz⟩ | ⟨g,cap,cur,hv,hg,wh,k1,k2,k3,k4⟩
   ·have:=(List.getElem?_eq_some_iff.1 ha).1
    omega
   refine⟨e,es,g,a,j,u,rfl,by rw[hv];rfl,⟨r,e',mA,_,_,_,ha,hj,wh,?_⟩,hk⟩
   rw[qJ]
   rw[<-k4,List.getElem?_take] at hu
   split at hu
   ·simpa using hu
   cases hu
theorem Fr.next {mv:Nat->Prop} {w0 w w':World} (h:Fr mv w0 w) (ho:w'.os=w.os) (ht:w'.tape=w.tape) (hu:w'.output=w.output) (hs:w.heap.size<=w'.heap.size) (hb:∀k,k < w0.heap.size->¬mv k->w'.heap[k]?=w.heap[k]?):Fr mv w0 w':=
 ⟨ho.trans h.os,ht.trans h.tape,hu.trans h.output,Nat.le_trans h.size hs,fun k hk hn=>(hb k hk hn).trans (h.block k hk hn)⟩
def cQ (t:Nat->AV) (d:Option Tmp) (v:AV):Nat->AV:=match d with
 | some d=>aA t d v
 | none=>t
def sX (V:Nat->Prop) (d:Option Tmp) (j:Nat):Prop:=V j\/d=some j
theorem CZ (a:Act) (d:Tmp) (v:Value) (j:Nat) (hd:d < a.tmps.size):(a.put (some d) v).tmps.getD j undef=if j=d then v else a.tmps.getD j undef:=by
 simp only[Act.put,Array.getD_eq_getD_getElem?,Array.getElem?_setIfInBounds]
 by_cases h:d=j
 ·subst h;simp[hd]
 have:¬j=d:=fun e=>h e.symm
 simp[h,this]
theorem HE {A:bE} {V L L' S S':Nat->Prop} {rho rho':Nat->Value} {s:AS} {a:Act} {w w':World} {h':Nat->AB} (sim:bd A V L S rho s a w) (T:g_ S S' w w' L L' rho rho' s.h h') (dst:Option Tmp) (hd:∀d,dst=some d->d < A.n) (x:AV) (v:Value)
  (hv:aI S' w' A.C.P L' rho' h' x v):∀j,sX V dst j->aI S' w' A.C.P L' rho' h' (cQ s.t dst x j) ((a.put dst v).tmps.getD j undef):=by
 intro j hj
 cases dst with
 | none=>
  rcases hj with hj | hj
  ·exact (sim.tm j hj).bP T
  cases hj
 | some d=>
  rw[CZ a d v j (by rw[sim.sz];exact hd d rfl)]
  by_cases e:j=d
  ·subst e
   simp only[cQ,ar,if_true]
   exact hv
  simp only[cQ,aE _ _ e,if_neg e]
  rcases hj with hj | hj
  ·exact (sim.tm j hj).bP T
  injection hj with hj
  exact absurd hj.symm e
theorem C0 (a:Act) (dst:Option Tmp) (v:Value):(a.put dst v).tmps.size=a.tmps.size:=by cases dst <;> simp[Act.put]
theorem wu (a:Act) (dst:Option Tmp) (v:Value):(a.put dst v).defers=a.defers:=by cases dst <;> rfl
theorem bd.value {A:bE} {V L S:Nat->Prop} {rho:Nat->Value} {s:AS} {a:Act} {w:World} (sim:bd A V L S rho s a w) (dst:Option Tmp) (hd:∀d,dst=some d->d < A.n) (x:AV) (v:Value) (hv:aI S w A.C.P L rho s.h x v):
  bd A (sX V dst) L S rho ⟨cQ s.t dst x,s.h⟩ (a.put dst v) w:=
 {tm:=HE sim ⟨fun _ h=>h,fun _ _=>rfl,fun _ h=>⟨h,fun hl=>⟨hl,rfl⟩⟩,fun _ _ h=>h⟩ dst hd x v hv
  sz:=(C0 a dst v).trans sim.sz
  df:=(wu a dst v).trans sim.df
  nb:=sim.nb,pn:=sim.pn
  ev:=sim.ev,s0:=sim.s0,st:=sim.st,sb:=sim.sb,hp:=sim.hp,dj:=sim.dj,lv:=sim.lv,fr:=sim.fr }
end Go.AM
namespace Go.AM
open Go.RowKit
theorem cq {P:Program} {o:Oper} {a:Act} {w w':World} {v:Value} {next:Act->World->Prop} {Q:Exit->Act->World->Prop} (h:(execOp a.eval o).run P w=.ok (.value v) w') (hn:next (a.put o.dst v) w'):o.wp P a w next Q:=by
 unfold Oper.wp
 rw[h]
 exact hn
theorem kF {P:Program} {o:Oper} {a:Act} {w w':World} {next:Act->World->Prop} {Q:Exit->Act->World->Prop} (h:(execOp a.eval o).run P w=.ok .skip w') (hn:next (a.put o.dst undef) w'):o.wp P a w next Q:=by
 unfold Oper.wp
 rw[h]
 exact hn
theorem nF (S:Nat->Prop) (w:World) (v:Value):az S w (qx v) v:=by
 unfold qx
 split
 ·exact .nil _ _
 exact .im _
theorem Aw (b:Bool) (S:Nat->Prop) (w:World) (v:Value):az S w (Jz b v) v:=by
 cases b
 ·exact nF S w v
 exact .im v
theorem uA {S:Nat->Prop} {w:World} {P:Program} {L:Nat->Prop} {rho:Nat->Value} {h:Nat->AB} {x:PV} {v:Value} (hx:az S w x v):aI S w P L rho h (JA x) v:=by
 unfold JA
 split
 ·cases hx;exact .nl
 exact .p _ _ hx
theorem q_ (S:Nat->Prop) (w:World) (P:Program) (L:Nat->Prop) (rho:Nat->Value) (h:Nat->AB) (v:Value):aI S w P L rho h (Bz v) v:=by
 unfold Bz
 split
 ·exact .nl
 exact .p _ _ (.im _)
theorem BB (S:Nat->Prop) (w:World) (P:Program) (L:Nat->Prop) (rho:Nat->Value) (h:Nat->AB) (v:Value):aI S w P L rho h (ux v) v:=by
 unfold ux
 split
 ·exact .nl
 ·rename_i cs
  split
  ·rename_i fA
   refine .p _ _ (.ag _ _ (by simp) (fun u hu=>?_) fun i c v hc hv=>?_)
   ·rw[List.all_eq_true] at fA
    exact fA u hu
   rw[List.getElem?_map] at hc
   have wv:cs.toList[i]?=some v:=by simpa using hv
   rw[wv] at hc
   simp at hc
   rw[<-hc]
   exact nF S w v
  exact .junk _
 exact .p _ _ (.im _)
theorem aM {A:bE} {V L S:Nat->Prop} {rho:Nat->Value} {s:AS} {a:Act} {w:World} (sim:bd A V L S rho s a w) (x:Operand) (hx:∀j,x=.tmp j->V j):aI S w A.C.P L rho s.h (ev s.t x) (a.eval x):=by
 cases x with
 | tmp j=>exact sim.tm j (hx j rfl)
 | const v=>exact BB _ _ _ _ _ _ v
 | global g=>exact .p _ _ (.im _)
 | func f=>exact .p _ _ (.im _)
theorem aI.dE {S:Nat->Prop} {w:World} {P:Program} {L:Nat->Prop} {rho:Nat->Value} {h:Nat->AB} {x:PV} {v:Value} (hx:aI S w P L rho h (.p x) v):az S w x v:=by cases hx;assumption
theorem az.aZ {S:Nat->Prop} {w:World} {x v:Value} (hx:az S w (.im x) v):v=x:=by cases hx;rfl
theorem aI.aZ {S:Nat->Prop} {w:World} {P:Program} {L:Nat->Prop} {rho:Nat->Value} {h:Nat->AB} {x v:Value} (hx:aI S w P L rho h (.p (.im x)) v):v=x:=hx.dE.aZ
theorem az.mU {S:Nat->Prop} {w:World} {cs:List PV} {v:Value} (hx:az S w (.ag cs) v):∃vs:Array Value,v=.agg vs/\cs.length=vs.size/\(∀u∈vs.toList,u.oneCell'=true)/\(∀(i:Nat) c u,cs[i]?=some c->vs[i]?=some u->az S w c u):=by
 cases hx
 exact⟨_,rfl,by assumption,by assumption,by assumption⟩
theorem az.ra {S:Nat->Prop} {w:World} {cs:List PV} {v:Value} (hx:az S w (.ip cs) v):∃b off,∃U:Nat->Value,v=.pointer (some ⟨b,off,none⟩)/\S b/\(∀(j:Nat) x,cs[j]?=some x->w.cell? ⟨b,off+j,none⟩=some (U j)/\(U j).oneCell'=true)/\(∀(j:Nat) x,cs[j]?=some x->az S w x (U j)):=by
 cases hx
 exact⟨_,_,_,rfl,by assumption,by assumption,by assumption⟩
theorem az.jF {S:Nat->Prop} {w:World} {es:List (List PV)} {v:Value} (hx:az S w (.sl es) v):∃a c,v=.slice a es.length c/\es.length<=c/\(es≠[]->∃b off k,a=some ⟨b,off,none⟩/\S b/\(∀e∈es,e.length=k)/\
  ∀(i:Nat) e (j:Nat) x,es[i]?=some e->e[j]?=some x->∃u,w.cell? ⟨b,off+i*k+j,none⟩=some u/\u.oneCell'=true/\az S w x u):=by
 cases hx with
 | nil a c=>exact⟨a,c,rfl,by simp,fun h=>absurd rfl h⟩
 | sl _ k b off c U hc hS hk hcell h=>exact⟨_,c,rfl,hc,fun _=>⟨b,off,k,rfl,hS,hk,fun i e j x h1 h2=>⟨U i j,(hcell i e j x h1 h2).1,(hcell i e j x h1 h2).2,h i e j x h1 h2⟩⟩⟩
def wx (L:Nat->Prop) (new:Option AB) (d:Nat):Nat->Prop:=match new with
 | none=>L
 | some _=>fun i=>L i\/i=d
def eX (A:bE) (o:Oper):Prop:=
 ∀(V L S:Nat->Prop) (rho:Nat->Value) (s:AS) (a:Act) (w:World) (K:KK) (next:Act->World->Prop) (Q:Exit->Act->World->Prop),a8 A.C->bd A V L S rho s a w->(∀j,Operand.tmp j∈o.op.operands->V j)->(∀d,o.dst=some d->d < A.n)->
  aY A.C o (ev s.t) s.h K->(∀v eff b,K v eff (some b)->¬L (o.dst.getD 0)/\s.h (o.dst.getD 0)=b)->
  (∀v eff new S' rho' a' w',K v eff new->bd A (sX V o.dst) (wx L new (o.dst.getD 0)) S' rho' ⟨cQ s.t o.dst v,app s.h eff⟩ a' w'->next a' w')->o.wp A.C.P a w next Q
theorem ay {A:bE} {o:Oper} {V L S:Nat->Prop} {rho:Nat->Value} {s:AS} {a:Act} {w:World} {K:KK} {next:Act->World->Prop} {Q:Exit->Act->World->Prop} (sim:bd A V L S rho s a w) (hd:∀d,o.dst=some d->d < A.n)
  (hnext:∀v eff new S' rho' a' w',K v eff new->bd A (sX V o.dst) (wx L new (o.dst.getD 0)) S' rho' ⟨cQ s.t o.dst v,app s.h eff⟩ a' w'->next a' w') {x:AV} {v:Value} (hq:K x [] none) (hv:aI S w A.C.P L rho s.h x v)
  (hr:(execOp a.eval o).run A.C.P w=.ok (.value v) w):o.wp A.C.P a w next Q:=
 cq hr (hnext _ _ _ _ _ _ _ hq (sim.value o.dst hd x v hv))
theorem Fb {A:bE} {o:Oper} (x:Operand) (ax:o.op=.move x):eX A o:=by
 intro V L S rho s a w K next Q hC sim hV hd hq _ hnext
 simp only[aY,ax] at hq
 exact ay sim hd hnext hq (aM sim x fun j hj=>hV j (by simp[ax,Op.operands,hj])) (by simp[execOp,ax])
theorem BC {A:bE} {o:Oper} (x:Operand) (ax:o.op=.assign x):eX A o:=by
 intro V L S rho s a w K next Q hC sim hV hd hq _ hnext
 simp only[aY,ax] at hq
 exact ay sim hd hnext hq (aM sim x fun j hj=>hV j (by simp[ax,Op.operands,hj])) (by simp[execOp,ax])
theorem Fc {A:bE} {o:Oper} (c x y:Operand) (ax:o.op=.pick c x y):eX A o:=by
 intro V L S rho s a w K next Q hC sim hV hd hq _ hnext
 simp only[aY,ax] at hq
 have hc:=aM sim c fun j hj=>hV j (by simp[ax,Op.operands,hj])
 have hx:=aM sim x fun j hj=>hV j (by simp[ax,Op.operands,hj])
 have hy:=aM sim y fun j hj=>hV j (by simp[ax,Op.operands,hj])
 split at hq
 ·rename_i t ht
  rw[ht] at hc
  split at hq
  ·exact ay sim hd hnext hq hx (by simp[execOp,ax,hc.aZ,asBool])
  exact ay sim hd hnext hq hy (by simp[execOp,ax,hc.aZ,asBool])
 exact hq.elim
theorem aI.HF {S:Nat->Prop} {w:World} {P:Program} {L:Nat->Prop} {rho:Nat->Value} {h:Nat->AB} {xs:List AV} {v:Value} (hx:aI S w P L rho h (.st xs) v):∃vs:Array Value,v=.agg vs/\xs.length=vs.size/\(∀u∈vs.toList,u.oneCell'=true)/\∀(i:Nat) c u,xs[i]?=some c->vs[i]?=some u->aI S w P L rho h c u:=by
 cases hx
 exact⟨_,rfl,by assumption,by assumption,by assumption⟩
theorem aI.HH {S:Nat->Prop} {w:World} {P:Program} {L:Nat->Prop} {rho:Nat->Value} {h:Nat->AB} {xs:List AV} {v:Value} (hx:aI S w P L rho h (.tu xs) v):∃vs:Array Value,v=.tuple vs/\xs.length=vs.size/\∀(i:Nat) c u,xs[i]?=some c->vs[i]?=some u->aI S w P L rho h c u:=by
 cases hx
 exact⟨_,rfl,by assumption,by assumption⟩
theorem fP {α:Type} {vs:Array α} {n i:Nat} (hl:n=vs.size) (hi:i < n):∃v,vs[i]?=some v:=⟨vs[i]'(by omega),Array.getElem?_eq_getElem _⟩
theorem ao {α:Type} {l:List α} {i:Nat} {x:α} (h:l[i]?=some x):i < l.length:=(List.getElem?_eq_some_iff.1 h).1
theorem yr {A:bE} {o:Oper} (x:Operand) (i:Nat) (ax:o.op=.extract x i):eX A o:=by
 intro V L S rho s a w K next Q hC sim hV hd hq _ hnext
 simp only[aY,ax] at hq
 have hx:=aM sim x fun j hj=>hV j (by simp[ax,Op.operands,hj])
 split at hq
 ·rename_i xs oQ
  rw[oQ] at hx
  split at hq
  ·rename_i y hy
   obtain⟨vs,P1,hl,hc⟩:=hx.HH
   obtain⟨v,hv⟩:=fP hl (ao hy)
   refine ay sim hd hnext hq (hc i y v hy hv) ?_
   simp[execOp,ax,P1,Instr.extract,hv]
  exact hq.elim
 exact hq.elim
theorem Ax {a b:IntKind} (h:kB a b=true):a=b:=by cases a <;> cases b <;> first | rfl | cases h
theorem Fe {k:IntKind} (h:JU k=true):k=.i64:=by cases k <;> first | rfl | cases h
theorem jj {k:IntKind} {n:Int} {K:Value->Prop} (h:oT k n K):K (.int k (k.wrap n)):=by
 unfold oT at h
 split at h
 ·rename_i P2
  obtain rfl:=Fe P2
  obtain⟨⟨h1,h2⟩,h3⟩:=h
  rw[IntWalk.i64_in n ⟨h1,h2⟩]
  exact h3
 exact h
theorem uB (a b:ByteArray):(a.toList == b.toList)=decide (a=b):=by
 rw[Bool.eq_iff_iff]
 simp only[beq_iff_eq,decide_eq_true_eq,Go.ByteArray.toList_eq]
 constructor
 ·intro h
  exact ByteArray.ext (Array.ext' h)
 rintro rfl;rfl
theorem Ay (a b:ByteArray):Op.bytesLess a.toList b.toList=Op.bytesLess a.data.toList b.data.toList:=by rw[Go.ByteArray.toList_eq,Go.ByteArray.toList_eq]
theorem rb (a b:Int):(a == b)=decide (a=b):=by rw[Bool.eq_iff_iff];simp
theorem yt (a b:Int):(a != b)=!decide (a=b):=by rw[bne,rb]
theorem Ff {a b:Nat} (h:sQ a b=true):a=b:=Nat.eq_of_beq_eq_true h
theorem run_equalIn_slice_nil {P:Program} (w:World) (d:Nat) (t e:TypeId) (a:Option Addr) (l c:Nat) (h:P.underlying t=some (.slice e)):(Op.equalIn (d+1) t (.slice a l c) (.slice none 0 0)).run P w=.ok a.isNone w:=by
 cases a <;> simp[Op.equalIn,run_underlying h]
theorem dn {P:Program} (w:World) (t e:TypeId) (a:Option Addr) (l c:Nat) (h:P.underlying t=some (.slice e)):(Op.equal t (.slice a l c) (.slice none 0 0)).run P w=.ok a.isNone w:=run_equalIn_slice_nil w 9999 t e a l c h
theorem C1 {A:bE} {o:Oper} (op:BinOp) (t:TypeId) (x y:Operand) (t':TypeId) (ax:o.op=.binOp op t x y t'):eX A o:=by
 intro V L S rho s a w K next Q hC sim hV hd hq _ hnext
 simp only[aY,ax] at hq
 have hx:=aM sim x fun j hj=>hV j (by simp[ax,Op.operands,hj])
 have hy:=aM sim y fun j hj=>hV j (by simp[ax,Op.operands,hj])
 split at hq
 ·rename_i u v hu hv
  rw[hu] at hx;rw[hv] at hy
  replace hx:=hx.dE
  replace hy:=hy.dE
  unfold mS at hq
  split at hq
  ·rename_i k m k' n
   have e1:=hx.aZ
   have e2:=hy.aZ
   split at hq
   ·rename_i hs
    have MM:op=.shr:=by cases op <;> first | rfl | cases hs
    subst MM
    obtain⟨⟨h0,h1⟩,hq⟩:=hq
    refine ay sim hd hnext hq (.p _ _ (.im _)) ?_
    have MN:¬n < 0:=by omega
    simp[execOp,ax,e1,e2,eqGuard,binOp,Op.shift,MN]
   split at hq
   ·exact hq.elim
   rename_i hk
   obtain rfl:=Ax hk
   split at hq
   ·exact ay sim hd hnext (jj hq) (.p _ _ (.im _)) (by simp[execOp,ax,e1,e2,eqGuard,binOp,Op.intArith])
   ·exact ay sim hd hnext (jj hq) (.p _ _ (.im _)) (by simp[execOp,ax,e1,e2,eqGuard,binOp,Op.intArith])
   ·exact ay sim hd hnext (jj hq) (.p _ _ (.im _)) (by simp[execOp,ax,e1,e2,eqGuard,binOp,Op.intArith])
   ·exact ay sim hd hnext (jj hq.2) (.p _ _ (.im _)) (by simp[execOp,ax,e1,e2,eqGuard,binOp,Op.intDiv,hq.1])
   ·exact ay sim hd hnext hq.2 (.p _ _ (.im _)) (by simp[execOp,ax,e1,e2,eqGuard,binOp,Op.intDiv,hq.1])
   ·exact ay sim hd hnext hq (.p _ _ (.im _)) (by simp[execOp,ax,e1,e2,eqGuard,binOp,Op.intCmp,rb])
   ·exact ay sim hd hnext hq (.p _ _ (.im _)) (by simp[execOp,ax,e1,e2,eqGuard,binOp,Op.intCmp,yt])
   ·exact ay sim hd hnext hq (.p _ _ (.im _)) (by simp[execOp,ax,e1,e2,eqGuard,binOp,Op.intCmp])
   ·exact ay sim hd hnext hq (.p _ _ (.im _)) (by simp[execOp,ax,e1,e2,eqGuard,binOp,Op.intCmp])
   ·exact ay sim hd hnext hq (.p _ _ (.im _)) (by simp[execOp,ax,e1,e2,eqGuard,binOp,Op.intCmp])
   ·exact ay sim hd hnext hq (.p _ _ (.im _)) (by simp[execOp,ax,e1,e2,eqGuard,binOp,Op.intCmp])
   exact hq.elim
  ·rename_i m n
   have e1:=hx.aZ
   have e2:=hy.aZ
   split at hq
   ·exact ay sim hd hnext hq.2 (.p _ _ (.im _)) (by
     have:=hq.1
     simp[execOp,ax,e1,e2,eqGuard,binOp,run_string_add_sum w m n this])
   ·exact ay sim hd hnext hq (.p _ _ (.im _)) (by simp[execOp,ax,e1,e2,eqGuard,binOp,Op.stringOp,uB])
   ·exact ay sim hd hnext hq (.p _ _ (.im _)) (by simp[execOp,ax,e1,e2,eqGuard,binOp,Op.stringOp,uB])
   ·exact ay sim hd hnext hq (.p _ _ (.im _)) (by simp[execOp,ax,e1,e2,eqGuard,binOp,Op.stringOp,Ay])
   ·exact ay sim hd hnext hq (.p _ _ (.im _)) (by simp[execOp,ax,e1,e2,eqGuard,binOp,Op.stringOp,uB,Ay])
   ·exact ay sim hd hnext hq (.p _ _ (.im _)) (by simp[execOp,ax,e1,e2,eqGuard,binOp,Op.stringOp,uB,Ay])
   ·exact ay sim hd hnext hq (.p _ _ (.im _)) (by simp[execOp,ax,e1,e2,eqGuard,binOp,Op.stringOp,Ay])
   exact hq.elim
  ·rename_i m n
   have e1:=hx.aZ
   have e2:=hy.aZ
   split at hq
   ·rename_i size bytes zero hT
    have hb:A.C.P.underlying t=some .bool:=by
     obtain⟨_,_,_,_,_,_,_,_,_,h⟩:=hC.eK t _ hT
     exact h.2 rfl
    have hrun:=fun w=>run_equal_bool (P:=A.C.P) (w:=w) t m n hb
    split at hq
    ·exact ay sim hd hnext hq (.p _ _ (.im _)) (by simp[execOp,ax,e1,e2,eqGuard,binOp,hrun];cases m <;> cases n <;> rfl)
    ·exact ay sim hd hnext hq (.p _ _ (.im _)) (by simp[execOp,ax,e1,e2,eqGuard,binOp,hrun];cases m <;> cases n <;> rfl)
    exact hq.elim
   exact hq.elim
  ·rename_i m n
   obtain⟨xs,e1,HI,_,MO⟩:=hx.mU
   obtain⟨ys,e2,yj,_,P3⟩:=hy.mU
   have im:∀(z:List Value) (m:List PV) (n:List PV) r,aU z m n=some r->(∀x∈m,∃v,x=.im v)/\(∀x∈n,∃v,x=.im v):=by
    intro z
    induction z with
    | nil=>
     intro m n r h
     cases m <;> cases n <;> first
      | (simp[aU] at h;done)
      | exact⟨by simp,by simp⟩
    | cons c z ih=>
     intro m n r h
     unfold aU at h
     split at h
     ·rename_i h1;cases h1
     all_goals first
      | (
        rename_i h1
        injection h1 with h1 nG
        subst nG
        split at h
        ·obtain⟨r',HJ,_⟩:=Option.map_eq_some_iff.1 h
         obtain⟨i1,i2⟩:=ih _ _ _ HJ
         exact⟨by simpa using i1,by simpa using i2⟩
        cases h)
      | (
        rename_i h1
        injection h1 with h1 nG
        subst nG
        obtain⟨r',HJ,_⟩:=Option.map_eq_some_iff.1 h
        obtain⟨i1,i2⟩:=ih _ _ _ HJ
        exact⟨by simpa using i1,by simpa using i2⟩)
      | cases h
   have key:∀z r,aU z m n=some r->(∀(i:Nat) x v,m[i]?=some x->xs[i]?=some v->x=.im v)/\(∀(i:Nat) x v,n[i]?=some x->ys[i]?=some v->x=.im v):=by
    intro z r hr
    obtain⟨i1,i2⟩:=im z m n r hr
    refine⟨fun i x v h1 h2=>?_,fun i x v h1 h2=>?_⟩
    ·obtain⟨u,rfl⟩:=i1 x (List.mem_of_getElem? h1)
     rw[(MO i _ v h1 h2).aZ]
    obtain⟨u,rfl⟩:=i2 x (List.mem_of_getElem? h1)
    rw[(P3 i _ v h1 h2).aZ]
   split at hq
   ·rename_i fs size bytes zero hT
    split at hq
    ·exact hq.elim
    rename_i hsz
    have hsz:=Ff hsz
    split at hq
    ·split at hq
     ·rename_i r hr
      obtain⟨k1,k2⟩:=key _ r hr
      have hrun:=hC.eqs t _ .eql m n r hT rfl ⟨_,rfl⟩ hr xs ys w k1 k2 HI yj hsz (.inl rfl) x y
      exact ay sim hd hnext hq (.p _ _ (.im _)) (by
       simp only[execOp,ax,e1,e2]
       rw[Sem.run_bind,hrun]
       simp)
     exact hq.elim
    ·split at hq
     ·rename_i r hr
      obtain⟨k1,k2⟩:=key _ r hr
      have hrun:=hC.eqs t _ .neq m n r hT rfl ⟨_,rfl⟩ hr xs ys w k1 k2 HI yj hsz (.inr rfl) x y
      exact ay sim hd hnext hq (.p _ _ (.im _)) (by
       simp only[execOp,ax,e1,e2]
       rw[Sem.run_bind,hrun]
       simp)
     exact hq.elim
    exact hq.elim
   exact hq.elim
  exact hq.elim
 ·rename_i u hu hv
  rw[hu] at hx;rw[hv] at hy
  replace hx:=hx.dE
  have lE:a.eval y=.slice none 0 0:=by generalize a.eval y=v at hy;cases hy;rfl
  unfold BA at hq
  split at hq
  case h_2=>exact hq.elim
  rename_i es
  split at hq
  case h_1=>exact hq.elim
  rename_i wi
  split at hq
  case h_2=>exact hq.elim
  rename_i e size bytes zero eq hT
  have dv:A.C.P.underlying t=some (.slice e):=by
   obtain⟨_,_,_,_,_,_,_,_,_,h⟩:=hC.eK t _ hT
   exact h
  obtain⟨ad,c,hv,_,bG⟩:=hx.jF
  obtain⟨b,off,k,rfl,_⟩:=bG (fun e=>by rw[e] at wi;cases wi)
  split at hq
  ·exact ay sim hd hnext hq (.p _ _ (.im _)) (by simp[execOp,ax,hv,lE,eqGuard,binOp,dn _ _ _ _ _ _ dv])
  ·exact ay sim hd hnext hq (.p _ _ (.im _)) (by simp[execOp,ax,hv,lE,eqGuard,binOp,dn _ _ _ _ _ _ dv])
  exact hq.elim
 exact hq.elim
theorem Fg {A:bE} {o:Oper} (op:UnOp) (t:TypeId) (x:Operand) (ax:o.op=.unOp op t x):eX A o:=by
 intro V L S rho s a w K next Q hC sim hV hd hq _ hnext
 simp only[aY,ax] at hq
 have hx:=aM sim x fun j hj=>hV j (by simp[ax,Op.operands,hj])
 split at hq
 ·rename_i b hb
  rw[hb] at hx
  exact ay sim hd hnext hq (.p _ _ (.im _)) (by simp[execOp,ax,hx.aZ,Op.unary])
 ·rename_i k n hb
  rw[hb] at hx
  exact ay sim hd hnext (jj hq) (.p _ _ (.im _)) (by simp[execOp,ax,hx.aZ,Op.unary,Op.intArith])
 exact hq.elim
theorem ji.sizeOf {P:Program} {t:TypeId} {ti:TI} (h:ji P t ti) (w:World):(sizeOf t).run P w=.ok ti.size w:=by
 obtain⟨info,z,h1,h2,_⟩:=h
 simp[Go.sizeOf,typeInfo,h1,h2]
theorem ji.isAgg {P:Program} {t:TypeId} {ti:TI} (h:ji P t ti) (w:World):(isAgg t).run P w=.ok ti.ud.agg w:=by
 obtain⟨info,z,_,_,_,_,_,_,_,h⟩:=h
 unfold Go.isAgg
 cases hu:ti.ud with
 | sc=>
  rw[hu] at h
  obtain⟨⟨d,hd,hn⟩,_⟩:=h
  rw[Sem.run_bind,run_underlying hd]
  cases d <;> first | rfl | exact hn.elim
 | int k=>rw[hu] at h;rw[Sem.run_bind,run_underlying h];rfl
 | st fs=>rw[hu] at h;obtain⟨gs,hg,_⟩:=h;rw[Sem.run_bind,run_underlying hg];rfl
 | sl e=>rw[hu] at h;rw[Sem.run_bind,run_underlying h];rfl
 | str=>rw[hu] at h;rw[Sem.run_bind,run_underlying h];rfl
 | mp k e=>rw[hu] at h;rw[Sem.run_bind,run_underlying h];rfl
theorem gF {P:Program} {w:World} {t:TypeId} {ti:TI} (h:ji P t ti) (ha:ti.ud.agg=true) (b off:Nat) (vs:List Value) (hl:vs.length=ti.size) (hc:∀(j:Nat) v,vs[j]?=some v->w.cell? ⟨b,off+j,none⟩=some v):
  (Instr.loadAt t (.pointer (some ⟨b,off,none⟩))).run P w=.ok (.agg vs.toArray) w:=by
 have:=run_loadCells_list (P:=P) w ⟨b,off,none⟩ vs (fun j v hj=>by rw[Addr.add_lit];exact hc j v hj)
 rw[hl] at this
 simp[Instr.loadAt,Instr.sureAddr,loadVar,h.isAgg,ha,h.sizeOf,this]
theorem fZ {P:Program} {w:World} {t:TypeId} {ti:TI} (h:ji P t ti) (ha:ti.ud.agg=false) (b off:Nat) (v:Value) (hc:w.cell? ⟨b,off,none⟩=some v):
  (Instr.loadAt t (.pointer (some ⟨b,off,none⟩))).run P w=.ok v w:=by
 simp[Instr.loadAt,Instr.sureAddr,loadVar,h.isAgg,ha,load,Sem.run,hc]
theorem Az {S:Nat->Prop} {w:World} (cs:List PV) (V:Nat->Value) (h:∀(j:Nat) x,cs[j]?=some x->(V j).oneCell'=true/\az S w x (V j)):az S w (.ag cs) (.agg ((List.range cs.length).map V).toArray):=by
 refine .ag _ _ (by simp) (fun u hu=>?_) fun i c v hc hv=>?_
 ·simp at hu
  obtain⟨j,hj,rfl⟩:=hu
  exact (h j _ (List.getElem?_eq_getElem hj)).1
 have hi:=ao hc
 simp[hi] at hv
 rw[<-hv]
 exact (h i c hc).2
theorem fU {α:Type} {l:List α} {off n j:Nat} {x:α} (h:((l.drop off).take n)[j]?=some x):l[off+j]?=some x:=by
 rw[List.getElem?_take] at h
 split at h
 ·rwa [List.getElem?_drop] at h
 cases h
theorem fV {α:Type} {l:List α} {off n:Nat} (h:off+n<=l.length):((l.drop off).take n).length=n:=by simp;omega
theorem fg {α:Type} {l:List α} {off:Nat} {x:α} {r:List α} (h:l.drop off=x::r):l[off]?=some x:=by
 have:(l.drop off)[0]?=some x:=by rw[h];rfl
 rw[List.getElem?_drop] at this
 exact this
theorem gv {a b:Nat} (h:Aq a b=true):a<=b:=Nat.le_of_ble_eq_true h
theorem eF {a b:Nat} (h:sQ a b=true):a=b:=Nat.eq_of_beq_eq_true h
theorem en:∀{cs:List AV} {xs:List PV},cv cs=some xs->cs.length=xs.length/\∀(j:Nat) c x,cs[j]?=some c->xs[j]?=some x->(c=.p x\/(c=.nl/\x=.sl [])):=by
 intro cs
 induction cs with
 | nil=>intro xs h;simp[cv] at h;subst h;exact⟨rfl,by simp⟩
 | cons c cs ih=>
  intro xs h
  unfold cv at h
  split at h
  ·rename_i h1;cases h1
  ·rename_i x r h1
   injection h1 with h1 h2
   subst h1 h2
   obtain⟨ys,hy,rfl⟩:=Option.map_eq_some_iff.1 h
   obtain⟨h3,h4⟩:=ih hy
   refine⟨by simp[h3],fun j c x' hj hx=>?_⟩
   cases j with
   | zero=>simp at hj hx;subst hj hx;exact .inl rfl
   | succ j=>exact h4 j c x' (by simpa using hj) (by simpa using hx)
  ·rename_i r h1
   injection h1 with h1 h2
   subst h1 h2
   obtain⟨ys,hy,rfl⟩:=Option.map_eq_some_iff.1 h
   obtain⟨h3,h4⟩:=ih hy
   refine⟨by simp[h3],fun j c x' hj hx=>?_⟩
   cases j with
   | zero=>simp at hj hx;subst hj hx;exact .inr ⟨rfl,rfl⟩
   | succ j=>exact h4 j c x' (by simpa using hj) (by simpa using hx)
  cases h
theorem aI.qK {S:Nat->Prop} {w:World} {P:Program} {L:Nat->Prop} {rho:Nat->Value} {h:Nat->AB} {c:AV} {x:PV} {u:Value} (hc:c=.p x\/(c=.nl/\x=.sl [])) (hr:aI S w P L rho h c u):az S w x u:=by
 rcases hc with rfl | ⟨rfl,rfl⟩
 ·exact hr.dE
 cases hr
 exact .nil _ _
theorem aI.eY {S:Nat->Prop} {w:World} {P:Program} {L:Nat->Prop} {rho:Nat->Value} {h:Nat->AB} {id off:Nat} {v:Value} (hx:aI S w P L rho h (.bx id off) v) (ht:(h id).there):L id/\∃g,rho id=.pointer (some ⟨g,0,none⟩)/\v=.pointer (some ⟨g,off,none⟩):=by
 cases hx
 rename_i hv
 exact hv ht
theorem aI.rf {S:Nat->Prop} {w:World} {P:Program} {L:Nat->Prop} {rho:Nat->Value} {h:Nat->AB} {id i off:Nat} {v:Value} (hx:aI S w P L rho h (.rp id i off) v) {e:TypeId} {es:List (List PV)} (he:h id=.row e es):
  L id/\∃g n c ti,rho id=.slice (some ⟨g,0,none⟩) n c/\P.info? e=some ti/\v=.pointer (some ⟨g,i*ti.size+off,none⟩):=by
 cases hx
 rename_i hv
 exact hv e (by rw[he];rfl)
theorem aI.nH {S:Nat->Prop} {w:World} {P:Program} {L:Nat->Prop} {rho:Nat->Value} {h:Nat->AB} {id i off:Nat} {v:Value} (hx:aI S w P L rho h (.rp id i off) v) {e:TypeId} {es:List (List HX)} (he:h id=.an e es):
  L id/\∃g n c ti,rho id=.slice (some ⟨g,0,none⟩) n c/\P.info? e=some ti/\v=.pointer (some ⟨g,i*ti.size+off,none⟩):=by
 cases hx
 rename_i hv
 exact hv e (by rw[he];rfl)
theorem aI.bF {S:Nat->Prop} {w:World} {P:Program} {L:Nat->Prop} {rho:Nat->Value} {h:Nat->AB} {id:Nat} {v:Value} (hx:aI S w P L rho h (.ow id) v) (ht:(h id).there):L id/\v=rho id:=by
 cases hx
 rename_i hv
 exact hv ht
theorem aw.cell {α:Type} {P:Program} {w:World} {R:α->Value->Prop} {e:TypeId} {es:List (List α)} {g n c:Nat} {ti:TypeInfo} (h:aw P w R e es (.slice (some ⟨g,0,none⟩) n c)) (hi:P.info? e=some ti):
  ∀(a:Nat) r (j:Nat) x,es[a]?=some r->r[j]?=some x->∃u,w.cell? ⟨g,a*ti.size+j,none⟩=some u/\u.oneCell'=true/\R x u:=by
 obtain⟨i,xs,h1,h2,h3,h4,h5,h6⟩:=h
 rw[hi] at h1
 injection h1 with h1
 subst h1
 intro a r j x ha hj
 obtain⟨u,hu,hr⟩:=h6 a r j x ha hj
 have:=h3.cells (g:=g) rfl _ u hu
 rw[Addr.add_lit] at this
 refine⟨u,by simpa using this,h5 u (List.mem_of_getElem? hu),hr⟩
theorem wy {A:bE} {o:Oper} (t:TypeId) (x:Operand) (ax:o.op=.load t x) {V L S:Nat->Prop} {rho:Nat->Value} {s:AS} {a:Act} {w:World} {K:KK} (hC:a8 A.C) (sim:bd A V L S rho s a w) (hV:∀j,x=.tmp j->V j) (hq:aY A.C o (ev s.t) s.h K):
  ∃av v,K av [] none/\aI S w A.C.P L rho s.h av v/\(Instr.loadAt t (a.eval x)).run A.C.P w=.ok v w:=by
 simp only[aY,ax] at hq
 have hx:=aM sim x hV
 split at hq
 ·exact hq.elim
 rename_i ti hT
 have dv:=hC.eK t ti hT
 split at hq
 ·rename_i cs je
  rw[je] at hx
  obtain⟨b,off,U,hv,hb,hcell,hrep⟩:=hx.dE.ra
  split at hq
  ·rename_i pW
   split at hq
   ·rename_i hle
    have hle:=gv hle
    have hlen:(cs.take ti.size).length=ti.size:=by simp;omega
    refine⟨_,_,hq,.p _ _ (Az _ U fun j x hj=>?_),?_⟩
    ·have HK:cs[j]?=some x:=by rw[List.getElem?_take] at hj;split at hj;exact hj;cases hj
     exact⟨(hcell j x HK).2,hrep j x HK⟩
    have:=gF (w:=w) dv pW b off ((List.range (cs.take ti.size).length).map U) (by simp;omega) (fun j v hj=>by
     have nI:j < (cs.take ti.size).length:=by have:=ao hj;simpa using this
     rw[List.getElem?_map,List.getElem?_range nI] at hj
     simp at hj
     have Fh:j < cs.length:=by rw[hlen] at nI;omega
     rw[(hcell j _ (List.getElem?_eq_getElem Fh)).1,hj])
    rw[hv];exact this
   exact hq.elim
  rename_i pW
  split at hq
  ·rename_i c r
   refine⟨_,_,hq,.p _ _ (hrep 0 c rfl),?_⟩
   have:=fZ (w:=w) dv pW b off (U 0) (by simpa using (hcell 0 c rfl).1)
   rw[hv];exact this
  exact hq.elim
 ·rename_i id off je
  rw[je] at hx
  split at hq
  ·rename_i cs aC
   obtain⟨hL,g,hg,hv⟩:=hx.eY (by rw[aC];trivial)
   have hh:=sim.hp id hL
   rw[aC] at hh
   obtain⟨g',ty,c,h1,h2,h3,h4⟩:=hh
   rw[hg] at h1
   injection h1 with h1
   injection h1 with h1
   injection h1 with h1
   subst h1
   have hcell:∀j u,c[j]?=some u->w.cell? ⟨g,j,none⟩=some u:=fun j u hu=>by rw[cell_of_row w g j c ty (0,0) h2];exact hu
   split at hq
   ·rename_i pW
    split at hq
    ·rename_i xs hle oQ
     have hle:=gv hle
     obtain⟨hl,rh⟩:=en oQ
     have hlen:xs.length=ti.size:=by rw[<-hl];exact fV hle
     have hU:∀(j:Nat) x,xs[j]?=some x->∃u,c[off+j]?=some u/\u.oneCell'=true/\az S w x u:=by
      intro j x hj
      obtain⟨y,hy⟩:∃y,((cs.drop off).take ti.size)[j]?=some y:=⟨_,List.getElem?_eq_getElem (by rw[hl];exact ao hj)⟩
      have lE:=fU hy
      obtain⟨u,hu⟩:=fP h3.symm (ao lE)
      obtain⟨h5,h6⟩:=h4 _ _ _ lE hu
      exact⟨u,hu,h5,h6.qK (rh j y x hy hj)⟩
     refine⟨_,_,hq,.p _ _ (Az xs (fun j=>(c[off+j]?).getD undef) fun j x hj=>?_),?_⟩
     ·obtain⟨u,h5,h6,h7⟩:=hU j x hj
      rw[h5]
      exact⟨h6,h7⟩
     have:=gF (w:=w) dv pW g off ((List.range xs.length).map (fun j=>(c[off+j]?).getD undef)) (by simpa using hlen) (fun j v hj=>by
      have nI:j < xs.length:=by have:=ao hj;simpa using this
      rw[List.getElem?_map,List.getElem?_range nI] at hj
      obtain⟨u,h5,_⟩:=hU j _ (List.getElem?_eq_getElem nI)
      simp[h5] at hj
      rw[hcell _ _ h5,hj])
     rw[hv];exact this
    exact hq.elim
   rename_i pW
   split at hq
   ·rename_i y r hy
    have lE:=fg hy
    obtain⟨u,hu⟩:=fP h3.symm (ao lE)
    obtain⟨h5,h6⟩:=h4 _ _ _ lE hu
    refine⟨_,_,hq,h6,?_⟩
    have:=fZ (w:=w) dv pW g off u (hcell _ _ hu)
    rw[hv];exact this
   exact hq.elim
  ·rename_i cs aC
   obtain⟨hL,g,hg,hv⟩:=hx.eY (by rw[aC];trivial)
   have hh:=sim.hp id hL
   rw[aC] at hh
   obtain⟨b,P4,U,h1,hb,hcell,hrep⟩:=az.ra hh
   rw[hg] at h1
   injection h1 with h1
   injection h1 with h1
   injection h1 with h1 h2
   subst h1 h2
   split at hq
   ·rename_i pW
    split at hq
    ·rename_i hle
     have hle:=gv hle
     have hlen:=fV hle
     refine⟨_,_,hq,.p _ _ (Az _ (fun j=>U (off+j)) fun j x hj=>?_),?_⟩
     ·have HK:=fU hj
      exact⟨(hcell _ x HK).2,hrep _ x HK⟩
     have:=gF (w:=w) dv pW g off ((List.range ((cs.drop off).take ti.size).length).map (fun j=>U (off+j))) (by simpa using hlen) (fun j v hj=>by
      have nI:j < ((cs.drop off).take ti.size).length:=by have:=ao hj;simpa using this
      rw[List.getElem?_map,List.getElem?_range nI] at hj
      simp at hj
      have Fh:off+j < cs.length:=by rw[hlen] at nI;omega
      have h5:=(hcell _ _ (List.getElem?_eq_getElem Fh)).1
      rw[Nat.zero_add] at h5
      rw[h5,hj])
     rw[hv];exact this
    exact hq.elim
   rename_i pW
   split at hq
   ·rename_i y r hy
    have lE:=fg hy
    refine⟨_,_,hq,.p _ _ (hrep _ _ lE),?_⟩
    have:=fZ (w:=w) dv pW g off (U off) (by simpa using (hcell _ _ lE).1)
    rw[hv];exact this
   exact hq.elim
  exact hq.elim
 ·rename_i id i off je
  rw[je] at hx
  split at hq
  ·rename_i e es an
   obtain⟨hL,g,n,c,tj,hg,tD,hv⟩:=hx.rf an
   have hh:=sim.hp id hL
   rw[an] at hh
   have CP:aw A.C.P w (az S w) e es (.slice (some ⟨g,0,none⟩) n c):=by rw[<-hg];exact hh
   have hcell:=CP.cell tD
   obtain⟨r,hr,hq⟩:=hq
   split at hq
   ·rename_i pW
    split at hq
    ·rename_i hle
     have hle:=gv hle
     have hlen:=fV hle
     have hU:∀(j:Nat) x,((r.drop off).take ti.size)[j]?=some x->∃u,w.cell? ⟨g,i*tj.size+off+j,none⟩=some u/\u.oneCell'=true/\az S w x u:=by
      intro j x hj
      obtain⟨u,h1,h2,h3⟩:=hcell i r _ x hr (fU hj)
      exact⟨u,by rw[Nat.add_assoc];exact h1,h2,h3⟩
     refine⟨_,_,hq,.p _ _ (Az _ (fun j=>(w.cell? ⟨g,i*tj.size+off+j,none⟩).getD undef) fun j x hj=>?_),?_⟩
     ·obtain⟨u,h5,h6,h7⟩:=hU j x hj
      rw[h5]
      exact⟨h6,h7⟩
     have:=gF (w:=w) dv pW g (i*tj.size+off) ((List.range ((r.drop off).take ti.size).length).map (fun j=>(w.cell? ⟨g,i*tj.size+off+j,none⟩).getD undef)) (by simpa using hlen) (fun j v hj=>by
      have nI:j < ((r.drop off).take ti.size).length:=by have:=ao hj;simpa using this
      rw[List.getElem?_map,List.getElem?_range nI] at hj
      obtain⟨u,h5,_⟩:=hU j _ (List.getElem?_eq_getElem nI)
      simp[h5] at hj
      rw[h5,hj])
     rw[hv];exact this
    exact hq.elim
   rename_i pW
   split at hq
   ·rename_i y r' hy
    have lE:=fg hy
    obtain⟨u,h1,h2,h3⟩:=hcell i r _ y hr lE
    refine⟨_,_,hq,.p _ _ h3,?_⟩
    have:=fZ (w:=w) dv pW g (i*tj.size+off) u h1
    rw[hv];exact this
   exact hq.elim
  ·rename_i e es an
   obtain⟨hL,g,n,c,tj,hg,tD,hv⟩:=hx.nH an
   have hh:=sim.hp id hL
   rw[an] at hh
   have CP:aw A.C.P w (my S w A.C.P L rho s.h) e es (.slice (some ⟨g,0,none⟩) n c):=by rw[<-hg];exact hh.1
   have hcell:=CP.cell tD
   obtain⟨r,hr,hq⟩:=hq
   split at hq
   ·exact hq.elim
   rename_i pW
   split at hq
   ·rename_i y r' hy
    have lE:=fg hy
    obtain⟨u,h1,h2,h3⟩:=hcell i r _ _ hr lE
    refine⟨_,_,hq,h3,?_⟩
    have:=fZ (w:=w) dv pW g (i*tj.size+off) u h1
    rw[hv];exact this
   exact hq.elim
  exact hq.elim
 exact hq.elim
theorem Fi {A:bE} {o:Oper} (t:TypeId) (x:Operand) (ax:o.op=.load t x):eX A o:=by
 intro V L S rho s a w K next Q hC sim hV hd hq _ hnext
 obtain⟨av,v,h1,h2,h3⟩:=wy t x ax hC sim (fun j hj=>hV j (by simp[ax,Op.operands,hj])) hq
 exact ay sim hd hnext h1 h2 (by simp only[execOp,ax,Sem.run_bind,h3,Result.andThen_ok,Sem.run_pure])
theorem ji.under {P:Program} {t:TypeId} {ti:TI} (h:ji P t ti):match ti.ud with
  | .sc=>(∃d,P.underlying t=some d/\(match d with | .struct _ | .array _ _=>False | _=>True))/\(ti.eq=true->P.underlying t=some .bool)
  | .int k=>P.underlying t=some (.int k)
  | .st fs=>∃gs,P.underlying t=some (.struct gs)/\fs.length=gs.size/\(∀(i:Nat) f g,fs[i]?=some f->gs[i]?=some g->f.1=g.offset/\f.2.1≠0/\(∃i2,P.info? g.type=some i2/\i2.size=f.2.1)/\
    (∃d,P.underlying g.type=some d/\f.2.2=(match d with | .struct _ | .array _ _=>true | _=>false)))
  | .sl e=>P.underlying t=some (.slice e)
  | .str=>P.underlying t=some .string
  | .mp k e=>P.underlying t=some (.map k e):=by
 obtain⟨_,_,_,_,_,_,_,_,_,h⟩:=h
 exact h
theorem ji.info {P:Program} {t:TypeId} {ti:TI} (h:ji P t ti):∃info z,P.info? t=some info/\info.size=ti.size/\info.bytes=ti.bytes/\info.zero=some z/\z.cells=ti.zero.toArray/\(∀v∈ti.zero,v.oneCell'=true):=by
 obtain⟨i,z,h1,h2,h3,h4,h5,h6,h7,h⟩:=h
 exact⟨i,z,h1,h2,h3,h4,h5,h7⟩
theorem ji.C2 {P:Program} {t:TypeId} {ti:TI} (h:ji P t ti):ti.zero.length=ti.size:=by
 obtain⟨i,z,h1,h2,h3,h4,h5,h6,h7,h⟩:=h
 exact h6
theorem uC {A:bE} {o:Oper} (t:TypeId) (x:Operand) (f:Nat) (ax:o.op=.fieldAddr t x f):eX A o:=by
 intro V L S rho s a w K next Q hC sim hV hd hq _ hnext
 simp only[aY,ax] at hq
 have hx:=aM sim x fun j hj=>hV j (by simp[ax,Op.operands,hj])
 split at hq
 ·rename_i fs size bytes zero eq hT
  have dv:=(hC.eK t _ hT).under
  obtain⟨gs,oU,hl,hf⟩:=dv
  split at hq
  ·rename_i off sz ag Fj
   obtain⟨g,hg⟩:=fP hl (ao Fj)
   obtain⟨e1,e2,⟨i2,HL,GM⟩,_⟩:=hf f _ g Fj hg
   have hrun:∀b o',(Instr.fieldAt t (.pointer (some ⟨b,o',none⟩)) f).run A.C.P w=.ok (.pointer (some ⟨b,o'+off,none⟩)) w:=by
    intro b o'
    simp only at e1 e2 GM
    simp[Instr.fieldAt,run_underlying oU,hg,Instr.sureAddr,fieldPlace,Go.sizeOf,typeInfo,HL,GM,e2,Addr.add_lit,<-e1]
   split at hq
   ·rename_i cs je
    rw[je] at hx
    obtain⟨b,o',U,hv,hb,hcell,hrep⟩:=hx.dE.ra
    refine ay sim hd hnext hq (.p _ _ (.ip _ b (o'+off) (fun j=>U (off+j)) hb (fun j y hj=>?_) fun j y hj=>?_)) (by simp[execOp,ax,hv,hrun])
    ·rw[List.getElem?_drop] at hj
     rw[Nat.add_assoc]
     exact hcell _ y hj
    rw[List.getElem?_drop] at hj
    exact hrep _ y hj
   ·rename_i id o' je
    rw[je] at hx
    split at hq
    ·exact hq.elim
    rename_i bG
    have ht:(s.h id).there:=by
     cases hh:s.h id <;> first | trivial | exact absurd hh (by simpa using bG)
    obtain⟨hL,g',kg,hv⟩:=hx.eY ht
    exact ay sim hd hnext hq (.bx _ _ _ fun _=>⟨hL,g',kg,rfl⟩) (by simp[execOp,ax,hv,hrun])
   ·rename_i id i o' je
    rw[je] at hx
    split at hq
    ·rename_i e es an
     obtain⟨hL,g',n,c,tj,kg,tD,hv⟩:=hx.rf an
     refine ay sim hd hnext hq (v:=.pointer (some ⟨g',i*tj.size+o'+off,none⟩)) (.rp _ _ _ _ fun e2 lF=>?_) (by simp[execOp,ax,hv,hrun])
     rw[an] at lF
     injection lF with lF
     subst lF
     exact⟨hL,g',n,c,tj,kg,tD,by rw[Nat.add_assoc]⟩
    ·rename_i e es an
     obtain⟨hL,g',n,c,tj,kg,tD,hv⟩:=hx.nH an
     refine ay sim hd hnext hq (v:=.pointer (some ⟨g',i*tj.size+o'+off,none⟩)) (.rp _ _ _ _ fun e2 lF=>?_) (by simp[execOp,ax,hv,hrun])
     rw[an] at lF
     injection lF with lF
     subst lF
     exact⟨hL,g',n,c,tj,kg,tD,by rw[Nat.add_assoc]⟩
    exact hq.elim
   exact hq.elim
  exact hq.elim
 exact hq.elim
theorem C3 {A:bE} {o:Oper} (t:TypeId) (x:Operand) (f:Nat) (ax:o.op=.field t x f):eX A o:=by
 intro V L S rho s a w K next Q hC sim hV hd hq _ hnext
 simp only[aY,ax] at hq
 have hx:=aM sim x fun j hj=>hV j (by simp[ax,Op.operands,hj])
 split at hq
 ·rename_i fs size bytes zero eq cs hT je
  have dv:=(hC.eK t _ hT).under
  obtain⟨gs,oU,hl,hf⟩:=dv
  rw[je] at hx
  obtain⟨vs,hv,yj,h1,hc⟩:=hx.dE.mU
  split at hq
  ·rename_i off sz ag Fj
   obtain⟨g,hg⟩:=fP hl (ao Fj)
   obtain⟨e1,e2,⟨i2,HL,GM⟩,d,JD,pW⟩:=hf f _ g Fj hg
   simp only at e1 e2 GM pW
   split at hq
   ·split at hq
    ·rename_i hle
     have hle:=gv hle
     have hlen:=fV hle
     refine ay sim hd hnext hq (v:=.agg (vs.extract off (off+sz))) (.p _ _ (.ag _ _ (by simp;omega) (fun u hu=>h1 u ?_) fun i c v MP LY=>?_)) ?_
     ·simp at hu
      exact List.mem_of_mem_drop (List.mem_of_mem_take hu)
     ·have hi:=ao MP
      rw[hlen] at hi
      have MQ:vs[off+i]?=some v:=by
       rw[Array.getElem?_extract] at LY
       split at LY
       ·exact LY
       cases LY
      exact hc _ c v (fU MP) MQ
     have ha:(isAgg g.type).run A.C.P w=.ok true w:=by
      rw[Go.isAgg,Sem.run_bind,run_underlying JD]
      cases d <;> simp at pW <;> rfl
     simp[execOp,ax,hv,Instr.field,run_underlying oU,hg,asAgg,part,ha,Go.sizeOf,typeInfo,HL,GM,<-e1]
    exact hq.elim
   split at hq
   ·rename_i c r hy
    have lE:=fg hy
    obtain⟨u,hu⟩:=fP yj (ao lE)
    refine ay sim hd hnext hq (.p _ _ (hc _ _ _ lE hu)) ?_
    have ha:(isAgg g.type).run A.C.P w=.ok false w:=by
     rw[Go.isAgg,Sem.run_bind,run_underlying JD]
     cases d <;> simp at pW <;> rfl
    simp[execOp,ax,hv,Instr.field,run_underlying oU,hg,asAgg,part,ha,<-e1,hu]
   exact hq.elim
  exact hq.elim
 exact hq.elim
theorem iM {P:Program} {w:World} {t e:TypeId} {ti:TypeInfo} (ht:P.underlying t=some (.slice e)) (hi:P.info? e=some ti) (b off n c:Nat) (k:IntKind) (i:Int) (h0:0<=i) (h1:i.toNat < n):
  (Instr.indexAt t (.slice (some ⟨b,off,none⟩) n c) (.int k i)).run P w=.ok (.pointer (some ⟨b,off+i.toNat*ti.size,none⟩)) w:=by
 have h2:i < n:=by omega
 simp[Instr.indexAt,asIntOf,run_underlying ht,h0,h2,Go.sizeOf,typeInfo,hi,Addr.add_lit]
theorem aI.uD {S:Nat->Prop} {w:World} {P:Program} {L:Nat->Prop} {rho:Nat->Value} {h:Nat->AB} {id lo hi:Nat} {v:Value} (hx:aI S w P L rho h (.vw id lo hi) v) {e:TypeId} {es:List (List PV)} (he:h id=.row e es):
  L id/\∃n c a ti,rho id=.slice a n c/\P.info? e=some ti/\lo<=hi/\hi<=n/\n<=c/\v=.slice (if c=lo then a else a.map (·.add (lo*ti.size))) (hi - lo) (c - lo):=by
 cases hx with
 | vw _ _ _ _ hv=>exact hv e (by rw[he];rfl)
theorem uE {A:bE} {o:Oper} (t:TypeId) (x ix:Operand) (ax:o.op=.indexAddr t x ix):eX A o:=by
 intro V L S rho s a w K next Q hC sim hV hd hq _ hnext
 simp only[aY,ax] at hq
 have hx:=aM sim x fun j hj=>hV j (by simp[ax,Op.operands,hj])
 have hy:=aM sim ix fun j hj=>hV j (by simp[ax,Op.operands,hj])
 split at hq
 ·rename_i e size bytes zero eq k i hT Fk
  have dv:=(hC.eK t _ hT).under
  simp only at dv
  rw[Fk] at hy
  replace hy:=hy.aZ
  split at hq
  ·exact hq.elim
  rename_i te oV
  obtain⟨ie,ze,kh,sY,_⟩:=(hC.eK e te oV).info
  have O3:∀(es:List (List PV)),az S w (.sl es) (a.eval x)->(∃r,(0<=i/\es[i.toNat]?=some r)/\match sQ r.length te.size with | true=>K (.p (.ip r)) [] none | false=>False)->o.wp A.C.P a w next Q:=by
   intro es hrep hq
   obtain⟨r,⟨h0,hr⟩,hq⟩:=hq
   split at hq
   ·rename_i hlen
    have hlen:=eF hlen
    obtain⟨ad,c,hv,hle,bG⟩:=hrep.jF
    obtain⟨b,off,k',rfl,hb,hk,hcell⟩:=bG (by intro e;rw[e] at hr;simp at hr)
    have BD:k'=te.size:=by rw[<-hk r (List.mem_of_getElem? hr),hlen]
    have hU:∀(j:Nat) y,r[j]?=some y->∃u,w.cell? ⟨b,off+i.toNat*te.size+j,none⟩=some u/\u.oneCell'=true/\az S w y u:=by
     intro j y hj
     have:=hcell _ _ j y hr hj
     rw[BD] at this
     exact this
    refine ay sim hd hnext hq (.p _ _ (.ip _ b (off+i.toNat*te.size) (fun j=>(w.cell? ⟨b,off+i.toNat*te.size+j,none⟩).getD undef) hb (fun j y hj=>?_) fun j y hj=>?_)) ?_
    ·obtain⟨u,h1,h2,h3⟩:=hU j y hj
     simp[h1,h2]
    ·obtain⟨u,h1,h2,h3⟩:=hU j y hj
     simp only[h1]
     exact h3
    have:=iM (w:=w) dv kh b off es.length c k i h0 (ao hr)
    simp only[execOp,ax,hv,hy,Sem.run_bind,this,Result.andThen_ok,Sem.run_pure,sY]
   exact hq.elim
  split at hq
  ·rename_i es wi
   rw[wi] at hx
   exact O3 es hx.dE hq
  ·rename_i id wi
   rw[wi] at hx
   split at hq
   ·rename_i e' es an
    split at hq
    ·rename_i qy
     have qy:=eF qy
     subst qy
     obtain⟨hL,hv⟩:=hx.bF (by rw[an];trivial)
     have hh:=sim.hp id hL
     rw[an] at hh
     have CP:aw A.C.P w (az S w) e' es (rho id):=hh
     obtain⟨⟨h0,dS⟩,hq⟩:=hq
     obtain⟨i',xs,h1,h2,h3,h4,h5,h6⟩:=CP
     rcases h3.2 with⟨_,hn⟩ | ⟨g,cap,cur,hg,_,_,hle,_⟩
     ·omega
     refine ay sim hd hnext hq (v:=.pointer (some ⟨g,i.toNat*ie.size,none⟩)) (.rp _ _ _ _ fun e2 lF=>?_) ?_
     ·rw[an] at lF
      injection lF with lF
      subst lF
      exact⟨hL,g,_,_,ie,hg,kh,by rw[Nat.add_zero]⟩
     have:=iM (w:=w) dv kh g 0 es.length cap k i h0 dS
     rw[hg] at hv
     rw[Nat.zero_add] at this
     simp only[execOp,ax,hv,hy,Sem.run_bind,this,Result.andThen_ok,Sem.run_pure]
    exact hq.elim
   ·rename_i e' es an
    split at hq
    ·rename_i qy
     have qy:=eF qy
     subst qy
     obtain⟨hL,hv⟩:=hx.bF (by rw[an];trivial)
     have hh:=sim.hp id hL
     rw[an] at hh
     have CP:aw A.C.P w (my S w A.C.P L rho s.h) e' es (rho id):=hh.1
     obtain⟨⟨h0,dS⟩,hq⟩:=hq
     obtain⟨i',xs,h1,h2,h3,h4,h5,h6⟩:=CP
     rcases h3.2 with⟨_,hn⟩ | ⟨g,cap,cur,hg,_,_,hle,_⟩
     ·omega
     refine ay sim hd hnext hq (v:=.pointer (some ⟨g,i.toNat*ie.size,none⟩)) (.rp _ _ _ _ fun e2 lF=>?_) ?_
     ·rw[an] at lF
      injection lF with lF
      subst lF
      exact⟨hL,g,_,_,ie,hg,kh,by rw[Nat.add_zero]⟩
     have:=iM (w:=w) dv kh g 0 es.length cap k i h0 dS
     rw[hg] at hv
     rw[Nat.zero_add] at this
     simp only[execOp,ax,hv,hy,Sem.run_bind,this,Result.andThen_ok,Sem.run_pure]
    exact hq.elim
   ·rename_i es BE
    obtain⟨hL,hv⟩:=hx.bF (by rw[BE];trivial)
    have hh:=sim.hp id hL
    rw[BE] at hh
    exact O3 es (by rw[hv];exact hh) hq
   exact hq.elim
  ·rename_i id lo hi wi
   rw[wi] at hx
   split at hq
   ·rename_i e' es an
    split at hq
    ·rename_i qy
     have qy:=eF qy
     subst qy
     obtain⟨hL,n,cp,ad,MR,gG,tE,P5,P6,JE,hval⟩:=hx.uD an
     rw[kh] at tE;injection tE with tE;subst tE
     have hh:=sim.hp id hL
     rw[an] at hh
     have CP:aw A.C.P w (az S w) e' es (rho id):=hh
     obtain⟨⟨h0,dS⟩,hq⟩:=hq
     obtain⟨i',xs,h1,h2,h3,h4,h5,h6⟩:=CP
     rw[gG] at h3
     rcases h3.2 with⟨h7,_⟩ | ⟨g,cap,cur,hg,_,_,hle,_⟩
     ·injection h7 with _ h8 h9
      omega
     injection hg with g1 g2 g3
     subst g1 g2 g3
     refine ay sim hd hnext hq (v:=.pointer (some ⟨g,lo*ie.size+i.toNat*ie.size,none⟩)) (.rp _ _ _ _ fun e2 lF=>?_) ?_
     ·rw[an] at lF
      injection lF with lF
      subst lF
      exact⟨hL,g,_,_,ie,gG,kh,by rw[Nat.add_zero,Nat.add_mul]⟩
     have:=iM (w:=w) dv kh g (lo*ie.size) (hi - lo) (cp - lo) k i h0 dS
     rw[if_neg (by omega)] at hval
     have he:(if lo*ie.size=0 then (⟨g,0,none⟩:Addr) else ⟨g,lo*ie.size,none⟩)=⟨g,lo*ie.size,none⟩:=by split <;> simp_all
     simp only[Option.map_some,Addr.add,Nat.zero_add,he] at hval
     simp only[execOp,ax,hval,hy,Sem.run_bind,this,Result.andThen_ok,Sem.run_pure]
    exact hq.elim
   exact hq.elim
  exact hq.elim
 exact hq.elim
theorem C4 {A:bE} {o:Oper} (t:TypeId) (x ix:Operand) (ax:o.op=.index t x ix):eX A o:=by
 intro V L S rho s a w K next Q hC sim hV hd hq _ hnext
 simp only[aY,ax] at hq
 have hx:=aM sim x fun j hj=>hV j (by simp[ax,Op.operands,hj])
 have hy:=aM sim ix fun j hj=>hV j (by simp[ax,Op.operands,hj])
 split at hq
 ·rename_i size bytes zero eq st k i hT hs Fk
  have dv:=(hC.eK t _ hT).under
  simp only at dv
  rw[Fk] at hy
  rw[hs] at hx
  obtain⟨b,⟨h0,hb⟩,hq⟩:=hq
  refine ay sim hd hnext hq (.p _ _ (.im _)) ?_
  simp[execOp,ax,hx.aZ,hy.aZ,Instr.index,asIntOf,run_underlying dv,h0,hb]
 exact hq.elim
theorem yu {A:bE} {o:Oper} (src dst:TypeId) (x:Operand) (ax:o.op=.convert src dst x):eX A o:=by
 intro V L S rho s a w K next Q hC sim hV hd hq _ hnext
 simp only[aY,ax] at hq
 have hx:=aM sim x fun j hj=>hV j (by simp[ax,Op.operands,hj])
 split at hq
 ·rename_i k' n P7 k size bytes zero eq hv JX HM
  have h2:=(hC.eK dst _ HM).under
  simp only at h2
  rw[hv] at hx
  have h1:∃d,A.C.P.underlying src=some d:=by
   have:=(hC.eK src _ JX).under
   cases hu:P7.ud <;> rw[hu] at this
   ·exact⟨_,this.1.choose_spec.1⟩
   ·exact⟨_,this⟩
   ·exact⟨_,this.choose_spec.1⟩
   ·exact⟨_,this⟩
   ·exact⟨_,this⟩
   exact⟨_,this⟩
  obtain⟨d1,h1⟩:=h1
  exact ay sim hd hnext (jj hq) (.p _ _ (.im _)) (by simp[execOp,ax,hx.aZ,convert,run_underlying h1,run_underlying h2,Conv.intToInt])
 ·rename_i str JY HN JZ P8 J0 HO J1 P9 hv JX HM
  have h2:=(hC.eK dst _ HM).under
  have h1:=(hC.eK src _ JX).under
  simp only at h1 h2
  rw[hv] at hx
  exact ay sim hd hnext hq (.p _ _ (.im _)) (by simp[execOp,ax,hx.aZ,convert,run_underlying h1,run_underlying h2])
 ·rename_i k' n RB JY HN JZ P8 J0 HO J1 P9 hv JX HM
  have h2:=(hC.eK dst _ HM).under
  have h1:=(hC.eK src _ JX).under
  simp only at h1 h2
  rw[hv] at hx
  exact ay sim hd hnext hq (.p _ _ (.im _)) (by simp[execOp,ax,hx.aZ,convert,run_underlying h1,run_underlying h2,Conv.intToString])
 exact hq.elim
theorem wz {A:bE} {o:Oper} (x:Operand) (ax:o.op=.nilCheck x):eX A o:=by
 intro V L S rho s a w K next Q hC sim hV hd hq _ hnext
 simp only[aY,ax] at hq
 have hx:=aM sim x fun j hj=>hV j (by simp[ax,Op.operands,hj])
 have fin:∀av ad,K av [] none->aI S w A.C.P L rho s.h av (a.eval x)->a.eval x=.pointer (some ad)->o.wp A.C.P a w next Q:=by
  intro av ad hq hl he
  exact ay sim hd hnext hq hl (by simp[execOp,ax,he])
 split at hq
 ·rename_i cs je
  rw[je] at hx
  obtain⟨b,off,U,hv,_⟩:=hx.dE.ra
  exact fin _ _ hq hx hv
 ·rename_i id off je
  rw[je] at hx
  split at hq
  ·rename_i hb
   obtain⟨_,g,_,hv⟩:=hx.eY (by rw[hb];trivial)
   exact fin _ _ hq hx hv
  ·rename_i hb
   obtain⟨_,g,_,hv⟩:=hx.eY (by rw[hb];trivial)
   exact fin _ _ hq hx hv
  exact hq.elim
 ·rename_i id i off je
  rw[je] at hx
  split at hq
  ·rename_i hb
   obtain⟨_,g,n,c,tj,_,_,hv⟩:=hx.rf hb
   exact fin _ _ hq hx hv
  ·rename_i hb
   obtain⟨_,g,n,c,tj,_,_,hv⟩:=hx.nH hb
   exact fin _ _ hq hx hv
  exact hq.elim
 exact hq.elim
theorem wA {A:bE} {o:Oper} (f:FuncId) (first cap:Array Operand) (ax:o.op=.makeFunc (.func f) first cap):eX A o:=by
 intro V L S rho s a w K next Q hC sim hV hd hq _ hnext
 simp only[aY,ax] at hq
 split at hq
 ·rename_i hn
  have he:first=#[]:=by
   obtain⟨l⟩:=first
   cases l with
   | nil=>rfl
   | cons y l=>simp[isNil] at hn
  subst he
  refine ay sim hd hnext hq (.fn f _ (cap.map a.eval) (by simp) fun i c v hc hv=>?_) (by simp[execOp,ax,Instr.makeFunc])
  rw[List.getElem?_map] at hc
  obtain⟨y,hy,rfl⟩:=Option.map_eq_some_iff.1 hc
  have lE:cap[i]?=some y:=by simpa using hy
  rw[Array.getElem?_map,lE] at hv
  simp at hv
  rw[<-hv]
  exact aM sim y fun j hj=>hV j (by simp[ax,Op.operands];rw[<-hj];exact Array.mem_of_getElem? lE)
 exact hq.elim
end Go.AM
namespace Go.AM
open Go.RowKit
theorem bq (h:Nat->AB) (a b:List (Nat×AB)):app h (a++b)=app (app h a) b:=by
 induction a generalizing h with
 | nil=>rfl
 | cons x a ih=>exact ih _
theorem aF {α:Type} (f:Nat->α) (i:Nat) (x:α) (j:Nat):(j=i/\aA f i x j=x)\/(j≠i/\aA f i x j=f j):=by
 by_cases e:j=i
 ·subst e;exact .inl ⟨rfl,ar _ _ _⟩
 exact .inr ⟨e,aE _ _ e⟩
theorem aw.yw {P:Program} {S S':Nat->Prop} {w:World} {e:TypeId} {es:List (List PV)} {v:Value} (h:aw P w (az S w) e es v) (hS:∀b,S b->S' b) (hb:∀g,br v=some g->S' g):az S' w (.sl es) v:=by
 obtain⟨i,xs,h1,h2,h3,h4,h5,h6⟩:=h
 rcases h3.2 with⟨rfl,hn⟩ | ⟨g,cap,cur,rfl,_,_,hle,_⟩
 ·have:es=[]:=List.eq_nil_of_length_eq_zero hn
  subst this
  exact .nil _ _
 refine .sl es i.size g 0 cap (fun a j=>(xs[a*i.size+j]?).getD undef) hle (hb g rfl) h4 (fun a r j x ha hj=>?_) fun a r j x ha hj=>?_
 ·obtain⟨u,hu,hr⟩:=h6 a r j x ha hj
  have:=h3.cells (g:=g) rfl _ u hu
  rw[Addr.add_lit] at this
  rw[hu,Nat.add_assoc]
  exact⟨this,h5 u (List.mem_of_getElem? hu)⟩
 obtain⟨u,hu,hr⟩:=h6 a r j x ha hj
 rw[hu]
 exact hr.mono hS (fun _ _=>rfl)
theorem cT {w:World} {h:Nat->AB} {id:Nat} {b:AB} {i:Nat} {v:Value} {g:Nat} (hi:i≠id) (ho:hasB w (aA h id b i) v g):hasB w (h i) v g:=by rw[aE _ _ hi] at ho;exact ho
theorem bd.tF {A:bE} {V L S:Nat->Prop} {rho:Nat->Value} {s:AS} {a:Act} {w:World} (sim:bd A V L S rho s a w) (hC:a8 A.C) (id:Nat) (hL:L id) {e:TypeId} {es:List (List PV)} (an:s.h id=.row e es):
  bd A V L (fun b=>S b\/br (rho id)=some b) rho ⟨s.t,aA s.h id (.fK es)⟩ a w:=by
 have T:g_ S (fun b=>S b\/br (rho id)=some b) w w L L rho rho s.h (aA s.h id (.fK es)):=by
  refine⟨fun b h=>.inl h,fun _ _=>rfl,fun j hj=>⟨?_,fun hl=>⟨hl,rfl⟩⟩,fun j e' hj=>?_⟩
  ·rcases aF s.h id (.fK es) j with⟨rfl,h⟩ | ⟨_,h⟩
   ·rw[an];trivial
   rw[h] at hj;exact hj
  rcases aF s.h id (.fK es) j with⟨rfl,h⟩ | ⟨_,h⟩
  ·rw[h] at hj;cases hj
  rw[h] at hj;exact hj
 have di:∀j,((aA s.h id (.fK es)) j).live->j≠id/\(s.h j).live:=by
  intro j hj
  rcases aF s.h id (.fK es) j with⟨rfl,h⟩ | ⟨h1,h⟩
  ·rw[h] at hj;exact hj.elim
  rw[h] at hj;exact⟨h1,hj⟩
 have ba:(s.h id).live:=by rw[an];trivial
 exact
 {tm:=fun j hj=>(sim.tm j hj).bP T
  sz:=sim.sz,df:=sim.df,nb:=sim.nb,pn:=sim.pn
  ev:=hC.env _ _ _ _ sim.ev (fun b h=>.inl h) (fun _ _=>rfl) (Nat.le_refl _)
  s0:=fun b h=>.inl (sim.s0 b h)
  st:=fun b h=>h.elim (sim.st b) fun h=>(sim.kE id b hL ba h).1
  sb:=fun b h=>h.elim (sim.sb b) fun h=>.inr (sim.kE id b hL ba h).2.2
  hp:=fun j hj=>by
   have hh:=sim.hp j hj
   rcases aF s.h id (.fK es) j with⟨rfl,h⟩ | ⟨h1,h⟩
   ·show cZ _ _ _ _ _ _ _ (aA s.h j (.fK es) j)
    rw[h]
    rw[an] at hh
    exact aw.yw hh (fun b h=>.inl h) (fun g h=>.inr h)
   show cZ _ _ _ _ _ _ _ (aA s.h id (.fK es) j)
   rw[h]
   exact hh.bP T (fun _ _ _=>rfl) (fun _=>rfl)
  dj:=fun i j g hi hj li lj dk fQ=>sim.dj i j g hi hj (di i li).2 (di j lj).2 (cT (di i li).1 dk) (cT (di j lj).1 fQ)
  lv:=fun i g hi li hg=>by
   obtain⟨h1,h2⟩:=di i li
   have hg:=cT h1 hg
   obtain⟨h3,h4,h5⟩:=sim.lv i g hi h2 hg
   refine⟨h3,fun h=>h.elim h4 fun h=>h1 (sim.dj i id g hi hL h2 ba hg (.inl h)),h5⟩
  fr:=sim.fr }
theorem bd.BF {A:bE} {V L S:Nat->Prop} {rho:Nat->Value} {s:AS} {a:Act} {w:World} (sim:bd A V L S rho s a w) (hC:a8 A.C) (id:Nat) (hL:L id) {cs:List AV} {xs:List PV} (an:s.h id=.box cs) (oQ:cv cs=some xs):
  bd A V L (fun b=>S b\/br (rho id)=some b) rho ⟨s.t,aA s.h id (.gC xs)⟩ a w:=by
 have T:g_ S (fun b=>S b\/br (rho id)=some b) w w L L rho rho s.h (aA s.h id (.gC xs)):=by
  refine⟨fun b h=>.inl h,fun _ _=>rfl,fun j hj=>⟨?_,fun hl=>⟨hl,rfl⟩⟩,fun j e' hj=>?_⟩
  ·rcases aF s.h id (.gC xs) j with⟨rfl,h⟩ | ⟨_,h⟩
   ·rw[an];trivial
   rw[h] at hj;exact hj
  rcases aF s.h id (.gC xs) j with⟨rfl,h⟩ | ⟨_,h⟩
  ·rw[h] at hj;cases hj
  rw[h] at hj;exact hj
 have di:∀j,((aA s.h id (.gC xs)) j).live->j≠id/\(s.h j).live:=by
  intro j hj
  rcases aF s.h id (.gC xs) j with⟨rfl,h⟩ | ⟨h1,h⟩
  ·rw[h] at hj;exact hj.elim
  rw[h] at hj;exact⟨h1,hj⟩
 have ba:(s.h id).live:=by rw[an];trivial
 exact
 {tm:=fun j hj=>(sim.tm j hj).bP T
  sz:=sim.sz,df:=sim.df,nb:=sim.nb,pn:=sim.pn
  ev:=hC.env _ _ _ _ sim.ev (fun b h=>.inl h) (fun _ _=>rfl) (Nat.le_refl _)
  s0:=fun b h=>.inl (sim.s0 b h)
  st:=fun b h=>h.elim (sim.st b) fun h=>(sim.kE id b hL ba h).1
  sb:=fun b h=>h.elim (sim.sb b) fun h=>.inr (sim.kE id b hL ba h).2.2
  hp:=fun j hj=>by
   have hh:=sim.hp j hj
   rcases aF s.h id (.gC xs) j with⟨rfl,h⟩ | ⟨h1,h⟩
   ·show cZ _ _ _ _ _ _ _ (aA s.h j (.gC xs) j)
    rw[h]
    rw[an] at hh
    obtain⟨g,ty,c,k1,k2,k3,k4⟩:=hh
    show az _ w (.ip xs) (rho j)
    rw[k1]
    obtain⟨hl,rh⟩:=en oQ
    have hU:∀(i:Nat) x,xs[i]?=some x->∃u,c[i]?=some u/\u.oneCell'=true/\az S w x u:=by
     intro i x hi
     obtain⟨y,hy⟩:∃y,cs[i]?=some y:=⟨_,List.getElem?_eq_getElem (by rw[hl];exact ao hi)⟩
     obtain⟨u,hu⟩:=fP k3.symm (ao hy)
     obtain⟨h5,h6⟩:=k4 _ _ _ hy hu
     exact⟨u,hu,h5,h6.qK (rh i y x hy hi)⟩
    refine .ip xs g 0 (fun i=>(c[i]?).getD undef) (.inr rfl) (fun i x hi=>?_) fun i x hi=>?_
    ·obtain⟨u,h5,h6,h7⟩:=hU i x hi
     rw[Nat.zero_add,cell_of_row w g i c ty (0,0) k2,h5]
     exact⟨rfl,h6⟩
    obtain⟨u,h5,h6,h7⟩:=hU i x hi
    rw[h5]
    exact h7.mono (fun b h=>.inl h) (fun _ _=>rfl)
   show cZ _ _ _ _ _ _ _ (aA s.h id (.gC xs) j)
   rw[h]
   exact hh.bP T (fun _ _ _=>rfl) (fun _=>rfl)
  dj:=fun i j g hi hj li lj dk fQ=>sim.dj i j g hi hj (di i li).2 (di j lj).2 (cT (di i li).1 dk) (cT (di j lj).1 fQ)
  lv:=fun i g hi li hg=>by
   obtain⟨h1,h2⟩:=di i li
   have hg:=cT h1 hg
   obtain⟨h3,h4,h5⟩:=sim.lv i g hi h2 hg
   refine⟨h3,fun h=>h.elim h4 fun h=>h1 (sim.dj i id g hi hL h2 ba hg (.inl h)),h5⟩
  fr:=sim.fr }
def kv (h h':Nat->AB):Prop:=∀id,h' id=h id\/(∃e es,h id=.row e es/\h' id=.fK es)\/(∃cs xs,h id=.box cs/\cv cs=some xs/\h' id=.gC xs)
theorem kv.refl (h:Nat->AB):kv h h:=fun _=>.inl rfl
theorem kv.C5 {h h':Nat->AB} (H:kv h h') {id:Nat} {e:TypeId} {es:List (List PV)} (hr:h id=.row e es):kv h (aA h' id (.fK es)):=by
 intro j
 rcases aF h' id (.fK es) j with⟨rfl,h1⟩ | ⟨_,h1⟩
 ·exact .inr (.inl ⟨e,es,hr,h1⟩)
 rw[h1];exact H j
theorem kv.C6 {h h':Nat->AB} (H:kv h h') {id:Nat} {cs:List AV} {xs:List PV} (hr:h id=.box cs) (hx:cv cs=some xs):kv h (aA h' id (.gC xs)):=by
 intro j
 rcases aF h' id (.gC xs) j with⟨rfl,h1⟩ | ⟨_,h1⟩
 ·exact .inr (.inr ⟨cs,xs,hr,hx,h1⟩)
 rw[h1];exact H j
theorem az.nJ {S:Nat->Prop} {w:World} {xs:List PV} {g off:Nat} {v:Value} (h:az S w (.ip xs) v) (hv:v=.pointer (some ⟨g,0,none⟩)):az S w (.ip (xs.drop off)) (.pointer (some ⟨g,off,none⟩)):=by
 subst hv
 obtain⟨b,o,U,hv,hb,hcell,hrep⟩:=h.ra
 injection hv with hv
 injection hv with hv
 injection hv with h1 h2
 subst h1 h2
 refine .ip _ g off (fun j=>U (off+j)) hb (fun j x hj=>?_) fun j x hj=>?_
 ·rw[List.getElem?_drop] at hj
  have:=hcell _ x hj
  rwa [Nat.zero_add] at this
 rw[List.getElem?_drop] at hj
 exact hrep _ x hj
theorem tG {A:bE} {V L S:Nat->Prop} {rho:Nat->Value} {s:AS} {a:Act} {w:World} (hC:a8 A.C) {h:Nat->AB} (sim:bd A V L S rho s a w) (hF:kv h s.h) {x:AV} {v:Value} (hx:aI S w A.C.P L rho s.h x v) {K:PV->List (Nat×AB)->Prop} (hq:gY h x K):
  ∃y fz S',K y fz/\bd A V L S' rho ⟨s.t,app s.h fz⟩ a w/\az S' w y v/\(∀b,S b->S' b)/\kv h (app s.h fz)/\(∀p∈fz,L p.1)/\(∀p∈fz,¬p.2.live):=by
 unfold gY at hq
 split at hq
 ·exact⟨_,[],S,hq,sim,hx.dE,fun _ h=>h,hF,by simp,by simp⟩
 ·cases hx
  exact⟨_,[],S,hq,sim,.nil _ _,fun _ h=>h,hF,by simp,by simp⟩
 ·rename_i id
  split at hq
  ·rename_i e es an
   rcases hF id with h1 | ⟨e',bW,h1,h2⟩ | ⟨cs,xs,h1,_,_⟩
   ·rw[an] at h1
    obtain⟨hL,hv⟩:=hx.bF (by rw[h1];trivial)
    refine⟨_,_,_,hq,sim.tF hC id hL h1,?_,fun b h=>.inl h,hF.C5 an,by simpa using hL,by simp[AB.live]⟩
    have hh:=sim.hp id hL
    rw[h1] at hh
    rw[hv]
    exact aw.yw hh (fun b h=>.inl h) (fun g h=>.inr h)
   ·rw[an] at h1
    injection h1 with e1 e2
    subst e1 e2
    obtain⟨hL,hv⟩:=hx.bF (by rw[h2];trivial)
    have hh:=sim.hp id hL
    rw[h2] at hh
    refine⟨_,_,S,hq,?_,by rw[hv];exact hh,fun _ h=>h,hF.C5 an,by simpa using hL,by simp[AB.live]⟩
    show bd A V L S rho ⟨s.t,aA s.h id (.fK es)⟩ a w
    rw[dp _ _ _ h2]
    exact sim
   rw[an] at h1;cases h1
  ·rename_i es BE
   rcases hF id with h1 | ⟨e',bW,h1,h2⟩ | ⟨cs,xs,h1,_,_⟩
   ·rw[BE] at h1
    obtain⟨hL,hv⟩:=hx.bF (by rw[h1];trivial)
    have hh:=sim.hp id hL
    rw[h1] at hh
    exact⟨_,[],S,hq,sim,by rw[hv];exact hh,fun _ h=>h,hF,by simp,by simp⟩
   ·rw[BE] at h1;cases h1
   rw[BE] at h1;cases h1
  exact hq.elim
 ·rename_i id off
  split at hq
  ·rename_i cs aC
   split at hq
   ·rename_i xs oQ
    rcases hF id with h1 | ⟨e',bW,h1,h2⟩ | ⟨iH,mA,h1,Fl,h2⟩
    ·rw[aC] at h1
     obtain⟨hL,g,hg,hv⟩:=hx.eY (by rw[h1];trivial)
     have bc:=sim.BF hC id hL h1 oQ
     refine⟨_,_,_,hq,bc,?_,fun b h=>.inl h,hF.C6 aC oQ,by simpa using hL,by simp[AB.live]⟩
     have hh:=bc.hp id hL
     have CP:cZ _ w A.C.P L rho _ id (aA s.h id (.gC xs) id):=hh
     rw[ar] at CP
     have HP:az _ w (.ip xs) (rho id):=CP
     rw[hv]
     exact HP.nJ hg
    ·rw[aC] at h1;cases h1
    rw[aC] at h1
    injection h1 with h1
    subst h1
    rw[oQ] at Fl
    injection Fl with Fl
    subst Fl
    obtain⟨hL,g,hg,hv⟩:=hx.eY (by rw[h2];trivial)
    have hh:=sim.hp id hL
    rw[h2] at hh
    have HP:az _ w (.ip xs) (rho id):=hh
    refine⟨_,_,S,hq,?_,by rw[hv];exact HP.nJ hg,fun _ h=>h,hF.C6 aC oQ,by simpa using hL,by simp[AB.live]⟩
    show bd A V L S rho ⟨s.t,aA s.h id (.gC xs)⟩ a w
    rw[dp _ _ _ h2]
    exact sim
   exact hq.elim
  ·rename_i xs HQ
   rcases hF id with h1 | ⟨e',bW,h1,h2⟩ | ⟨cs,mA,h1,_,_⟩
   ·rw[HQ] at h1
    obtain⟨hL,g,hg,hv⟩:=hx.eY (by rw[h1];trivial)
    have hh:=sim.hp id hL
    rw[h1] at hh
    have HP:az _ w (.ip xs) (rho id):=hh
    exact⟨_,[],S,hq,sim,by rw[hv];exact HP.nJ hg,fun _ h=>h,hF,by simp,by simp⟩
   ·rw[HQ] at h1;cases h1
   rw[HQ] at h1;cases h1
  exact hq.elim
 exact hq.elim
theorem BG {b:AB} {e:TypeId} (h:b.jB=some e):b.live:=by cases b <;> first | trivial | cases h
theorem BH {fz:List (Nat×AB)} (hn:∀p∈fz,¬p.2.live):∀{h:Nat->AB} {id:Nat},(app h fz id).live->app h fz id=h id:=by
 induction fz with
 | nil=>intro h id _;rfl
 | cons p fz ih=>
  intro h id hl
  obtain⟨i,b⟩:=p
  have e:=ih (fun p hp=>hn p (by simp[hp])) (h:=aA h i b) (id:=id) hl
  have e2:app h ((i,b)::fz) id=aA h i b id:=e
  by_cases ei:id=i
  ·subst ei
   rw[e2,ar] at hl
   exact absurd hl (hn (id,b) (by simp))
  rw[e2,aE _ _ ei]
theorem kv.there {h h':Nat->AB} (H:kv h h') (id:Nat):(h' id).there↔(h id).there:=by
 rcases H id with h1 | ⟨e,es,h1,h2⟩ | ⟨cs,xs,h1,_,h2⟩
 ·rw[h1]
 ·rw[h1,h2];exact Iff.rfl
 rw[h1,h2];exact Iff.rfl
theorem aI.J2 {S S':Nat->Prop} {w:World} {P:Program} {L:Nat->Prop} {rho:Nat->Value} {h h':Nat->AB} {fz:List (Nat×AB)} (hS:∀b,S b->S' b) (H:kv h h') (H2:kv h (app h' fz)) (hn:∀p∈fz,¬p.2.live) {x:AV} {v:Value} (hx:aI S w P L rho h' x v):aI S' w P L rho (app h' fz) x v:=
 hx.bP ⟨hS,fun _ _=>rfl,fun id ht=>⟨(H.there id).2 ((H2.there id).1 ht),fun hl=>⟨hl,rfl⟩⟩,fun id e hr=>by rw[<-BH (h:=h') (id:=id) hn (BG hr)];exact hr⟩
theorem tH {A:bE} {V L:Nat->Prop} {rho:Nat->Value} {t:Nat->AV} {a:Act} {w:World} (hC:a8 A.C) {h:Nat->AB}:∀(cap:List AV) (vs:List Value) (S:Nat->Prop) (h':Nat->AB) {K:List PV->List (Nat×AB)->Prop},cap.length=vs.length->bd A V L S rho ⟨t,h'⟩ a w->kv h h' ->
  (∀(i:Nat) c v,cap[i]?=some c->vs[i]?=some v->aI S w A.C.P L rho h' c v)->pR h cap K ->
  ∃xs fz S',K xs fz/\bd A V L S' rho ⟨t,app h' fz⟩ a w/\(∀(i:Nat) x v,xs[i]?=some x->vs[i]?=some v->az S' w x v)/\(∀b,S b->S' b)/\kv h (app h' fz)/\(∀p∈fz,L p.1)/\xs.length=vs.length:=by
 intro cap
 induction cap with
 | nil=>
  intro vs S h' K hl sim hF _ hq
  have:vs=[]:=List.eq_nil_of_length_eq_zero hl.symm
  subst this
  exact⟨[],[],S,hq,sim,by simp,fun _ h=>h,hF,by simp,rfl⟩
 | cons c cap ih=>
  intro vs S h' K hl sim hF hrep hq
  cases vs with
  | nil=>simp at hl
  | cons v vs=>
   obtain⟨y,fz,S2,hq,aP,hp,uF,CQ,wB,J3⟩:=tG (s:=⟨t,h'⟩) hC sim hF (hrep 0 c v rfl rfl) hq
   obtain⟨xs,iL,S',k1,k2,k3,k4,k5,k6,k7⟩:=ih vs S2 (app h' fz) (by simpa using hl) aP CQ (fun i x u hx hu=>(hrep (i+1) x u (by simpa using hx) (by simpa using hu)).J2 uF hF CQ J3) hq
   refine⟨y::xs,fz++iL,S',k1,by rw[bq];exact k2,fun i x u hx hu=>?_,fun b hb=>k4 b (uF b hb),by rw[bq];exact k5,fun p hp=>(List.mem_append.1 hp).elim (wB p) (k6 p),by simp[k7]⟩
   cases i with
   | zero=>simp at hx hu;subst hx hu;exact hp.mono k4 (fun _ _=>rfl)
   | succ i=>exact k3 i x u (by simpa using hx) (by simpa using hu)
theorem eM {A:bE} {V L S:Nat->Prop} {rho:Nat->Value} {s:AS} {a:Act} {w:World} (hC:a8 A.C) {h:Nat->AB} (sim:bd A V L S rho s a w) (hF:kv h s.h) {x:AV} {v:Value} (hx:aI S w A.C.P L rho s.h x v) {K:PV->List (Nat×AB)->Prop} (hq:eh h x K):
  ∃y fz S',K y fz/\bd A V L S' rho ⟨s.t,app s.h fz⟩ a w/\az S' w y v/\(∀b,S b->S' b)/\kv h (app s.h fz)/\(∀p∈fz,L p.1):=by
 unfold eh at hq
 split at hq
 ·rename_i f cap
  cases hx with
  | fn _ _ vs hl hc=>
   obtain⟨xs,fz,S',k1,k2,k3,k4,k5,k6,k7⟩:=tH (t:=s.t) hC cap vs.toList S s.h (by simpa using hl) sim hF (fun i c v h1 h2=>hc i c v h1 (by simpa using h2)) hq
   exact⟨_,fz,S',k1,k2,.fn f xs vs (by simpa using k7) (fun i c v h1 h2=>k3 i c v h1 (by simpa using h2)),k4,k5,k6⟩
 obtain⟨y,fz,S',h1,h2,h3,h4,h5,h6,_⟩:=tG hC sim hF hx hq
 exact⟨y,fz,S',h1,h2,h3,h4,h5,h6⟩
theorem eS {d:Nat}:∀{fz:List (Nat×AB)} {h:Nat->AB},(∀p∈fz,p.1≠d)->app h fz d=h d:=by
 intro fz
 induction fz with
 | nil=>intro h _;rfl
 | cons x fz ih=>
  intro h hn
  show app (aA h x.1 x.2) fz d=h d
  rw[ih (fun p hp=>hn p (by simp[hp])),aE _ _ (fun e=>hn x (by simp) e.symm)]
theorem bd.kill {A:bE} {V L S:Nat->Prop} {rho:Nat->Value} {s:AS} {a:Act} {w:World} (sim:bd A V L S rho s a w) (id:Nat):bd A V L S rho ⟨s.t,aA s.h id .none⟩ a w:=by
 have T:g_ S S w w L L rho rho s.h (aA s.h id .none):=by
  refine⟨fun b h=>h,fun _ _=>rfl,fun j hj=>⟨?_,fun hl=>⟨hl,rfl⟩⟩,fun j e' hj=>?_⟩
  ·rcases aF s.h id .none j with⟨rfl,h⟩ | ⟨_,h⟩
   ·rw[h] at hj;exact hj.elim
   rw[h] at hj;exact hj
  rcases aF s.h id .none j with⟨rfl,h⟩ | ⟨_,h⟩
  ·rw[h] at hj;cases hj
  rw[h] at hj;exact hj
 have di:∀j,((aA s.h id .none) j).live->j≠id/\(s.h j).live:=by
  intro j hj
  rcases aF s.h id .none j with⟨rfl,h⟩ | ⟨h1,h⟩
  ·rw[h] at hj;exact hj.elim
  rw[h] at hj;exact⟨h1,hj⟩
 exact
 {tm:=fun j hj=>(sim.tm j hj).bP T
  sz:=sim.sz,df:=sim.df,nb:=sim.nb,pn:=sim.pn,ev:=sim.ev,s0:=sim.s0,st:=sim.st,sb:=sim.sb
  hp:=fun j hj=>by
   have hh:=sim.hp j hj
   rcases aF s.h id .none j with⟨rfl,h⟩ | ⟨h1,h⟩
   ·show cZ _ _ _ _ _ _ _ (aA s.h j .none j)
    rw[h]
    trivial
   show cZ _ _ _ _ _ _ _ (aA s.h id .none j)
   rw[h]
   exact hh.bP T (fun _ _ _=>rfl) (fun _=>rfl)
  dj:=fun i j g hi hj li lj dk fQ=>sim.dj i j g hi hj (di i li).2 (di j lj).2 (cT (di i li).1 dk) (cT (di j lj).1 fQ)
  lv:=fun i g hi li hg=>sim.lv i g hi (di i li).2 (cT (di i li).1 hg)
  fr:=sim.fr }
theorem bd.kG {A:bE} {V L S:Nat->Prop} {rho:Nat->Value} {s:AS} {a:Act} {w:World} (sim:bd A V L S rho s a w) (hC:a8 A.C) (d:Nat) (b:AB) (hdb:d < 100000) (hL:¬L d) (hb:s.h d=b) (w':World) (ho:w'.os=w.os) (ht:w'.tape=w.tape) (hu:w'.output=w.output)
  (hsz:w.heap.size<=w'.heap.size) (R:Nat->Prop) (hold:∀k,k < w.heap.size->¬R k->w'.heap[k]?=w.heap[k]?) (hR:∀k,R k->¬S k/\(∀i,L i->(s.h i).live->¬hasB w (s.h i) (rho i) k)/\(A.mv k\/A.w0.heap.size<=k))
  (hv:Value) (hblk:∀g,hasB w' b hv g->g < w'.heap.size/\(w.heap.size<=g\/R g))
  (hrep:g_ S S w w' L (fun i=>L i\/i=d) rho (aA rho d hv) s.h s.h->cZ S w' A.C.P (fun i=>L i\/i=d) (aA rho d hv) s.h d b):
  bd A V (fun i=>L i\/i=d) S (aA rho d hv) s a w':=by
 have f_:∀b,S b->w'.heap[b]?=w.heap[b]?:=fun k hk=>hold k (sim.st k hk) fun hr=>(hR k hr).1 hk
 have bG:∀i,L i->i≠d:=fun i hi e=>hL (e ▸ hi)
 have T:g_ S S w w' L (fun i=>L i\/i=d) rho (aA rho d hv) s.h s.h:=
  ⟨fun b h=>h,f_,fun j hj=>⟨hj,fun hl=>⟨.inl hl,aE _ _ (bG j hl)⟩⟩,fun j e' hj=>hj⟩
 exact
 {tm:=fun j hj=>(sim.tm j hj).bP T
  sz:=sim.sz,df:=sim.df,nb:=sim.nb,pn:=fun id h=>by rw[aE _ _ (by omega)];exact sim.pn id h
  ev:=hC.env _ _ _ _ sim.ev (fun b h=>h) f_ hsz
  s0:=sim.s0
  st:=fun b hb=>Nat.lt_of_lt_of_le (sim.st b hb) hsz
  sb:=sim.sb
  hp:=fun j hj=>by
   by_cases e:j=d
   ·subst e
    rw[hb]
    exact hrep T
   have hl:L j:=hj.resolve_right e
   refine (sim.hp j hl).bP T (fun li g hg=>?_) (fun _=>aE _ _ e)
   exact hold g (sim.lv j g hl li hg).1 fun hr=>(hR g hr).2.1 j hl li hg
  dj:=fun i j g hi hj li lj dk fQ=>by
   have back:∀i g,L i->(s.h i).live->hasB w' (s.h i) (rho i) g->hasB w (s.h i) (rho i) g:=fun i g hl li h=>bZ (fun k hk=>hold k (sim.kE i k hl li hk).1 fun hr=>(hR k hr).2.1 i hl li (.inl hk)) h
   by_cases e1:i=d
   ·by_cases e2:j=d
    ·rw[e1,e2]
    have hl:L j:=hj.resolve_right e2
    rw[aE _ _ e2] at fQ
    have fQ:=back j g hl lj fQ
    rw[e1,ar,hb] at dk
    rcases (hblk g dk).2 with h | h
    ·exact absurd (sim.lv j g hl lj fQ).1 (by omega)
    exact absurd fQ ((hR g h).2.1 j hl lj)
   have hl:L i:=hi.resolve_right e1
   rw[aE _ _ e1] at dk
   have dk:=back i g hl li dk
   by_cases e2:j=d
   ·rw[e2,ar,hb] at fQ
    rcases (hblk g fQ).2 with h | h
    ·exact absurd (sim.lv i g hl li dk).1 (by omega)
    exact absurd dk ((hR g h).2.1 i hl li)
   have yj:L j:=hj.resolve_right e2
   rw[aE _ _ e2] at fQ
   exact sim.dj i j g hl yj li lj dk (back j g yj lj fQ)
  lv:=fun i g hi li hg=>by
   by_cases e:i=d
   ·rw[e,ar,hb] at hg
    obtain⟨h1,h2⟩:=hblk g hg
    refine⟨h1,?_⟩
    rcases h2 with h | h
    ·exact⟨fun hs=>absurd (sim.st g hs) (by omega),.inr (Nat.le_trans sim.fr.size h)⟩
    exact⟨(hR g h).1,(hR g h).2.2⟩
   have hl:L i:=hi.resolve_right e
   rw[aE _ _ e] at hg
   obtain⟨h1,h2,h3⟩:=sim.lv i g hl li (bZ (fun k hk=>hold k (sim.kE i k hl li hk).1 fun hr=>(hR k hr).2.1 i hl li (.inl hk)) hg)
   exact⟨Nat.lt_of_lt_of_le h1 hsz,h2,h3⟩
  fr:=sim.fr.next ho ht hu hsz fun k hk hn=>hold k (Nat.lt_of_lt_of_le hk sim.fr.size) fun hr=>by
   rcases (hR k hr).2.2 with h | h
   ·exact hn h
   omega }
theorem bd.new {A:bE} {V L S:Nat->Prop} {rho:Nat->Value} {s:AS} {a:Act} {w:World} (sim:bd A V L S rho s a w) (hC:a8 A.C) (d:Nat) (b:AB) (hdb:d < 100000) (hL:¬L d) (hb:s.h d=b) (w':World) (ho:w'.os=w.os) (ht:w'.tape=w.tape) (hu:w'.output=w.output)
  (hsz:w.heap.size<=w'.heap.size) (R:Nat->Prop) (hold:∀k,k < w.heap.size->¬R k->w'.heap[k]?=w.heap[k]?) (hR:∀k,R k->¬S k/\(∀i,L i->(s.h i).live->¬hasB w (s.h i) (rho i) k)/\(A.mv k\/A.w0.heap.size<=k))
  (hv:Value) (hblk:∀g,br hv=some g->g < w'.heap.size/\(w.heap.size<=g\/R g))
  (hrep:g_ S S w w' L (fun i=>L i\/i=d) rho (aA rho d hv) s.h s.h->cZ S w' A.C.P (fun i=>L i\/i=d) (aA rho d hv) s.h d b)
  (hnh:Hz b=true:=by rfl):
  bd A V (fun i=>L i\/i=d) S (aA rho d hv) s a w':=
 sim.kG hC d b hdb hL hb w' ho ht hu hsz R hold hR hv (fun g h=>hblk g (aq hnh h)) hrep
theorem bd.J4 {A:bE} {V L S:Nat->Prop} {rho:Nat->Value} {s:AS} {a:Act} {w:World} (sim:bd A V L S rho s a w) (hC:a8 A.C) (w':World) (hf:Fr (fun _=>False) w w') (S':Nat->Prop) (h1:∀b,S b->S' b) (h2:∀b,S' b->b < w'.heap.size) (h3:∀b,S' b->S b\/w.heap.size<=b):bd A V L S' rho s a w':=by
 have f_:∀b,S b->w'.heap[b]?=w.heap[b]?:=fun k hk=>hf.block k (sim.st k hk) (fun h=>h)
 have T:g_ S S' w w' L L rho rho s.h s.h:=⟨h1,f_,fun j hj=>⟨hj,fun hl=>⟨hl,rfl⟩⟩,fun j e' hj=>hj⟩
 exact
 {tm:=fun j hj=>(sim.tm j hj).bP T
  sz:=sim.sz,df:=sim.df,nb:=sim.nb,pn:=sim.pn
  ev:=hC.env _ _ _ _ sim.ev h1 f_ hf.size
  s0:=fun b hb=>h1 b (sim.s0 b hb)
  st:=h2
  sb:=fun b hb=>by
   rcases h3 b hb with h | h
   ·exact sim.sb b h
   exact .inr (.inr (Nat.le_trans sim.fr.size h))
  hp:=fun j hj=>(sim.hp j hj).bP T (fun li g hg=>hf.block g (sim.lv j g hj li hg).1 (fun h=>h)) (fun _=>rfl)
  dj:=fun i j g hi hj li lj dk fQ=>sim.dj i j g hi hj li lj (bZ (fun k hk=>hf.block k (sim.kE i k hi li hk).1 (fun h=>h)) dk) (bZ (fun k hk=>hf.block k (sim.kE j k hj lj hk).1 (fun h=>h)) fQ)
  lv:=fun i g hi li hg=>by
   obtain⟨a1,a2,a3⟩:=sim.lv i g hi li (bZ (fun k hk=>hf.block k (sim.kE i k hi li hk).1 (fun h=>h)) hg)
   refine⟨Nat.lt_of_lt_of_le a1 hf.size,fun h=>?_,a3⟩
   rcases h3 g h with h | h
   ·exact a2 h
   omega
  fr:=sim.fr.next hf.os hf.tape hf.output hf.size fun k hk _=>hf.block k (Nat.lt_of_lt_of_le hk sim.fr.size) (fun h=>h) }
theorem bd.HR {A:bE} {V L S:Nat->Prop} {rho:Nat->Value} {s:AS} {a:Act} {w:World} (sim:bd A V L S rho s a w) (d:Nat) (es:List (List PV)) (hdb:d < 100000) (hL:¬L d) (hb:s.h d=.fK es) (hv:Value)
  (hrep:az S w (.sl es) hv):bd A V (fun i=>L i\/i=d) S (aA rho d hv) s a w:=by
 have bG:∀i,L i->i≠d:=fun i hi e=>hL (e ▸ hi)
 have T:g_ S S w w L (fun i=>L i\/i=d) rho (aA rho d hv) s.h s.h:=
  ⟨fun b h=>h,fun _ _=>rfl,fun j hj=>⟨hj,fun hl=>⟨.inl hl,aE _ _ (bG j hl)⟩⟩,fun j e' hj=>hj⟩
 have out:∀i,(L i\/i=d)->(s.h i).live->L i/\i≠d:=fun i hi li=>by
  by_cases e:i=d
  ·rw[e,hb] at li;exact li.elim
  exact⟨hi.resolve_right e,e⟩
 exact
 {tm:=fun j hj=>(sim.tm j hj).bP T
  sz:=sim.sz,df:=sim.df,nb:=sim.nb,pn:=fun id h=>by rw[aE _ _ (by omega)];exact sim.pn id h
  ev:=sim.ev
  s0:=sim.s0
  st:=sim.st
  sb:=sim.sb
  hp:=fun j hj=>by
   by_cases e:j=d
   ·subst e
    rw[hb]
    show az S w (.sl es) (aA rho j hv j)
    rw[ar]
    exact hrep
   have hl:L j:=hj.resolve_right e
   exact (sim.hp j hl).bP T (fun li g hg=>rfl) (fun _=>aE _ _ e)
  dj:=fun i j g hi hj li lj dk fQ=>by
   obtain⟨l1,e1⟩:=out i hi li
   obtain⟨l2,e2⟩:=out j hj lj
   rw[aE _ _ e1] at dk
   rw[aE _ _ e2] at fQ
   exact sim.dj i j g l1 l2 li lj dk fQ
  lv:=fun i g hi li dk=>by
   obtain⟨l1,e1⟩:=out i hi li
   rw[aE _ _ e1] at dk
   exact sim.lv i g l1 li dk
  fr:=sim.fr }
theorem bd.uG {A:bE} {V L S:Nat->Prop} {rho:Nat->Value} {s:AS} {a:Act} {w:World} (sim:bd A V L S rho s a w) (hC:a8 A.C) (id:Nat) (hL:L id) (ba:(s.h id).live) (b':AB) (jG:∀e,b'.jB=some e->(s.h id).jB=some e)
  (w':World) (ho:w'.os=w.os) (ht:w'.tape=w.tape) (hu:w'.output=w.output) (hsz:w'.heap.size=w.heap.size) (hold:∀k,br (rho id)≠some k->w'.heap[k]?=w.heap[k]?)
  (hrep:g_ S S w w' L L rho rho s.h (aA s.h id b')->cZ S w' A.C.P L rho (aA s.h id b') id b') (hown:∀g,hasB w' b' (rho id) g->hasB w (s.h id) (rho id) g):bd A V L S rho ⟨s.t,aA s.h id b'⟩ a w':=by
 have f_:∀b,S b->w'.heap[b]?=w.heap[b]?:=fun k hk=>hold k fun e=>(sim.kE id k hL ba e).2.1 hk
 have HS:(s.h id).there:=by cases hh:s.h id <;> rw[hh] at ba <;> first | trivial | exact ba.elim
 have T:g_ S S w w' L L rho rho s.h (aA s.h id b'):=by
  refine⟨fun b h=>h,f_,fun j hj=>⟨?_,fun hl=>⟨hl,rfl⟩⟩,fun j e' hj=>?_⟩
  ·rcases aF s.h id b' j with⟨rfl,h⟩ | ⟨_,h⟩
   ·exact HS
   rw[h] at hj;exact hj
  rcases aF s.h id b' j with⟨rfl,h⟩ | ⟨_,h⟩
  ·rw[h] at hj;exact jG e' hj
  rw[h] at hj;exact hj
 have di:∀j,((aA s.h id b') j).live->(s.h j).live:=by
  intro j hj
  rcases aF s.h id b' j with⟨rfl,h⟩ | ⟨h1,h⟩
  ·exact ba
  rw[h] at hj;exact hj
 have back:∀j g,L j->((aA s.h id b') j).live->hasB w' (aA s.h id b' j) (rho j) g->hasB w (s.h j) (rho j) g:=by
  intro j g hl hj E5
  rcases aF s.h id b' j with⟨rfl,h⟩ | ⟨h1,h⟩
  ·rw[h] at E5;exact hown g E5
  rw[h] at E5 hj
  exact bZ (fun k hk=>hold k fun e=>h1 (sim.LX j id k hl hL hj ba hk e)) E5
 exact
 {tm:=fun j hj=>(sim.tm j hj).bP T
  sz:=sim.sz,df:=sim.df,nb:=sim.nb,pn:=sim.pn
  ev:=hC.env _ _ _ _ sim.ev (fun b h=>h) f_ (Nat.le_of_eq hsz.symm)
  s0:=sim.s0
  st:=fun b hb=>by rw[hsz];exact sim.st b hb
  sb:=sim.sb
  hp:=fun j hj=>by
   rcases aF s.h id b' j with⟨rfl,h⟩ | ⟨h1,h⟩
   ·show cZ _ _ _ _ _ _ _ (aA s.h j b' j)
    rw[h]
    exact hrep T
   show cZ _ _ _ _ _ _ _ (aA s.h id b' j)
   rw[h]
   refine (sim.hp j hj).bP T (fun li g hg=>hold g fun e=>?_) (fun _=>rfl)
   exact h1 (sim.dj j id g hj hL li ba hg (.inl e))
  dj:=fun i j g hi hj li lj dk fQ=>sim.dj i j g hi hj (di i li) (di j lj) (back i g hi li dk) (back j g hj lj fQ)
  lv:=fun i g hi li hg=>by rw[hsz];exact sim.lv i g hi (di i li) (back i g hi li hg)
  fr:=sim.fr.next ho ht hu (Nat.le_of_eq hsz.symm) fun k hk hn=>hold k fun e=>by
   rcases (sim.kE id k hL ba e).2.2 with h | h
   ·exact hn h
   omega }
theorem bd.write {A:bE} {V L S:Nat->Prop} {rho:Nat->Value} {s:AS} {a:Act} {w:World} (sim:bd A V L S rho s a w) (hC:a8 A.C) (id:Nat) (hL:L id) (ba:(s.h id).live) (b':AB) (jG:∀e,b'.jB=some e->(s.h id).jB=some e)
  (w':World) (ho:w'.os=w.os) (ht:w'.tape=w.tape) (hu:w'.output=w.output) (hsz:w'.heap.size=w.heap.size) (hold:∀k,br (rho id)≠some k->w'.heap[k]?=w.heap[k]?)
  (hrep:g_ S S w w' L L rho rho s.h (aA s.h id b')->cZ S w' A.C.P L rho (aA s.h id b') id b') (hnh:Hz b'=true:=by rfl):bd A V L S rho ⟨s.t,aA s.h id b'⟩ a w':=
 sim.uG hC id hL ba b' jG w' ho ht hu hsz hold hrep fun _ h=>.inl (aq hnh h)
theorem bd.kj {A:bE} {V L S:Nat->Prop} {rho:Nat->Value} {s:AS} {a:Act} {w:World} (sim:bd A V L S rho s a w) {dst:Option Tmp} (hd:∀d,dst=some d->d < A.n):dst.getD 0 < 100000:=by
 cases dst with
 | none=>exact Nat.zero_lt_succ _
 | some d=>exact Nat.lt_of_lt_of_le (hd d rfl) sim.nb
theorem lG {A:bE} {V L S:Nat->Prop} {rho:Nat->Value} {s:AS} {a:Act} {w:World} (sim:bd A V L S rho s a w) {x:AV} {v:Value} (h:oS s.h x=true) (hx:aI S w A.C.P L rho s.h x v):v.oneCell'=true:=by
 unfold oS at h
 split at h
 ·rw[hx.aZ];exact h
 ·cases h
 ·rename_i y h1 h2
  have hy:=hx.dE
  cases hy with
  | im=>exact absurd rfl (h1 _)
  | ag cs vs=>exact absurd rfl (h2 cs)
  | nil=>rfl
  | sl=>rfl
  | ip=>rfl
  | fn=>rfl
 ·cases hx;rfl
 ·rename_i id
  split at h
  ·rename_i e es an
   obtain⟨hL,hv⟩:=hx.bF (by rw[an];trivial)
   have hh:=sim.hp id hL
   rw[an] at hh
   obtain⟨i,xs,_,_,h3,_⟩:=hh
   rw[hv]
   rcases h3.2 with⟨h4,_⟩ | ⟨g,cap,cur,h4,_⟩ <;> rw[h4] <;> rfl
  ·rename_i e es an
   obtain⟨hL,hv⟩:=hx.bF (by rw[an];trivial)
   have hh:=sim.hp id hL
   rw[an] at hh
   obtain⟨⟨i,xs,_,_,h3,_⟩,_⟩:=hh
   rw[hv]
   rcases h3.2 with⟨h4,_⟩ | ⟨g,cap,cur,h4,_⟩ <;> rw[h4] <;> rfl
  ·rename_i es an
   obtain⟨hL,hv⟩:=hx.bF (by rw[an];trivial)
   have hh:=sim.hp id hL
   rw[an] at hh
   obtain⟨ad,c,h4,_⟩:=az.jF hh
   rw[hv,h4];rfl
  cases h
 ·rename_i id off
  split at h
  ·cases h
  rename_i bG
  have ht:(s.h id).there:=by
   cases hh:s.h id <;> first | trivial | exact absurd hh (by simpa using bG)
  obtain⟨_,g,_,hv⟩:=hx.eY ht
  rw[hv];rfl
 ·rename_i id i off
  split at h
  ·rename_i e es an
   obtain⟨_,g,n,c,tj,_,_,hv⟩:=hx.rf an
   rw[hv];rfl
  ·rename_i e es an
   obtain⟨_,g,n,c,tj,_,_,hv⟩:=hx.nH an
   rw[hv];rfl
  cases h
 ·cases hx;rfl
 cases h
theorem cells_one {v:Value} (h:v.oneCell'=true):v.cells=#[v]:=by cases v <;> first | rfl | cases h
theorem pX {S:Nat->Prop} {w:World} {x:PV} {ys:List PV} {v:Value} (h:mQ x=some ys) (hx:az S w x v):v.cells.size=ys.length/\(∀u∈v.cells.toList,u.oneCell'=true)/\∀(j:Nat) y u,ys[j]?=some y->v.cells[j]?=some u->az S w y u:=by
 have one:∀{v:Value},v.oneCell'=true->az S w x v->ys=[x]->v.cells.size=ys.length/\(∀u∈v.cells.toList,u.oneCell'=true)/\∀(j:Nat) y u,ys[j]?=some y->v.cells[j]?=some u->az S w y u:=by
  intro v h1 hx hy
  subst hy
  rw[cells_one h1]
  refine⟨rfl,by simpa using h1,fun j y u hj hu=>?_⟩
  cases j with
  | zero=>simp at hj hu;subst hj hu;exact hx
  | succ j=>simp at hj
 unfold mQ at h
 split at h
 ·injection h with h
  subst h
  obtain⟨vs,rfl,h1,h2,h3⟩:=hx.mU
  exact⟨h1.symm,h2,h3⟩
 ·split at h
  ·rename_i h1
   injection h with h
   exact one (by rw[hx.aZ];exact h1) hx h.symm
  cases h
 rename_i h1 h2
 injection h with h
 refine one ?_ hx h.symm
 cases hx with
 | im=>exact absurd rfl (h2 _)
 | ag cs=>exact absurd rfl (h1 cs)
 | nil=>rfl
 | sl=>rfl
 | ip=>rfl
 | fn=>rfl
theorem HT {A:bE} {o:Oper} (e:TypeId) (x:Operand) (ax:o.op=.box e x):eX A o:=by
 intro V L S rho s a w K next Q hC sim hV hd hq hn hnext
 simp only[aY,ax] at hq
 have hx:=aM sim x fun j hj=>hV j (by simp[ax,Op.operands,hj])
 have hr:(execOp a.eval o).run A.C.P w=.ok (.value (.pointer (some ⟨w.heap.size,0,none⟩))) (w.alloc (.cells (a.eval x).cells e)):=by
  simp[execOp,ax,Instr.box,newVar,newRow,newObj,Sem.run]
 have main:∀cs:List AV,K (.bx (o.dst.getD 0) 0) [] (some (.box cs))->(a.eval x).cells.size=cs.length->(∀(j:Nat) y u,cs[j]?=some y->(a.eval x).cells[j]?=some u->u.oneCell'=true/\aI S w A.C.P L rho s.h y u)->o.wp A.C.P a w next Q:=by
  intro cs hq hl hc
  obtain⟨hL,hb⟩:=hn _ _ _ hq
  have bc:=sim.new hC (o.dst.getD 0) (.box cs) (sim.kj hd) hL hb (w.alloc (.cells (a.eval x).cells e)) rfl rfl rfl (by simp) (fun _=>False) (fun k hk _=>Below.heap_alloc _ _ _ hk) (fun _ h=>h.elim) (.pointer (some ⟨w.heap.size,0,none⟩))
   (fun g hg=>by simp[br] at hg;subst hg;simp) (fun T=>⟨w.heap.size,e,(a.eval x).cells,ar _ _ _,heap_alloc_new w _,hl,fun j y u hj hu=>⟨(hc j y u hj hu).1,(hc j y u hj hu).2.bP T⟩⟩)
  refine cq hr (hnext _ _ _ _ _ _ _ hq (bc.value o.dst hd _ _ (.bx _ _ _ fun _=>⟨.inr rfl,w.heap.size,ar _ _ _,rfl⟩)))
 split at hq
 ·rename_i cs je
  rw[je] at hx
  obtain⟨vs,hv,h1,h2,h3⟩:=hx.dE.mU
  refine main _ hq (by rw[hv];simp[Value.cells,h1]) fun j y u hj hu=>?_
  rw[hv] at hu
  rw[List.getElem?_map] at hj
  obtain⟨z,hz,rfl⟩:=Option.map_eq_some_iff.1 hj
  have mV:vs[j]?=some u:=hu
  exact⟨h2 u (by simpa using Array.mem_of_getElem? mV),.p _ _ (h3 j z u hz mV)⟩
 ·rename_i xs je
  rw[je] at hx
  obtain⟨vs,hv,h1,h2,h3⟩:=hx.HF
  refine main _ hq (by rw[hv];simp[Value.cells,h1]) fun j y u hj hu=>?_
  rw[hv] at hu
  have mV:vs[j]?=some u:=hu
  exact⟨h2 u (by simpa using Array.mem_of_getElem? mV),h3 j y u hj mV⟩
 split at hq
 ·rename_i h1
  have h2:=lG sim h1 hx
  refine main _ hq (by rw[cells_one h2];rfl) fun j y u hj hu=>?_
  rw[cells_one h2] at hu
  cases j with
  | zero=>simp at hj hu;subst hj hu;exact⟨h2,hx⟩
  | succ j=>simp at hj
 exact hq.elim
theorem C7 {A:bE} {o:Oper} (e:TypeId) (ax:o.op=.alloc e):eX A o:=by
 intro V L S rho s a w K next Q hC sim hV hd hq hn hnext
 simp only[aY,ax] at hq
 split at hq
 ·rename_i ti hT
  obtain⟨info,z,hi,h1,h2,hz,dq,fB⟩:=(hC.eK e ti hT).info
  have hr:(execOp a.eval o).run A.C.P w=.ok (.value (.pointer (some ⟨w.heap.size,0,none⟩))) (w.alloc (.cells z.cells e)):=by
   simp[execOp,ax,Instr.alloc,zeroValue,typeInfo,hi,hz,newVar,newRow,newObj,Sem.run]
  split at hq
  ·obtain⟨hL,hb⟩:=hn _ _ _ hq
   have bc:=sim.new hC (o.dst.getD 0) _ (sim.kj hd) hL hb (w.alloc (.cells z.cells e)) rfl rfl rfl (by simp) (fun _=>False) (fun k hk _=>Below.heap_alloc _ _ _ hk) (fun _ h=>h.elim) (.pointer (some ⟨w.heap.size,0,none⟩))
    (fun g hg=>by simp[br] at hg;subst hg;simp) (fun T=>⟨w.heap.size,e,z.cells,ar _ _ _,heap_alloc_new w _,by rw[dq];simp,fun j y u hj hu=>by
     rw[dq] at hu
     rw[List.getElem?_map] at hj
     obtain⟨v,hv,rfl⟩:=Option.map_eq_some_iff.1 hj
     have mV:ti.zero[j]?=some u:=by simpa using hu
     rw[hv] at mV
     injection mV with mV
     subst mV
     exact⟨fB v (List.mem_of_getElem? hv),q_ _ _ _ _ _ _ v⟩⟩)
   refine cq hr (hnext _ _ _ _ _ _ _ hq (bc.value o.dst hd _ _ (.bx _ _ _ fun _=>⟨.inr rfl,w.heap.size,ar _ _ _,rfl⟩)))
  obtain⟨hL,hb⟩:=hn _ _ _ hq
  have bc:=sim.new hC (o.dst.getD 0) _ (sim.kj hd) hL hb (w.alloc (.cells z.cells e)) rfl rfl rfl (by simp) (fun _=>False) (fun k hk _=>Below.heap_alloc _ _ _ hk) (fun _ h=>h.elim) (.pointer (some ⟨w.heap.size,0,none⟩))
   (fun g hg=>by simp[br] at hg;subst hg;simp) (fun T=>⟨w.heap.size,z.cells,ar _ _ _,heap_alloc_new w _,by rw[dq];simp,fun j y u hj hu=>by
    rw[dq] at hu
    rw[List.getElem?_map] at hj
    obtain⟨v,hv,rfl⟩:=Option.map_eq_some_iff.1 hj
    have mV:ti.zero[j]?=some u:=by simpa using hu
    rw[hv] at mV
    injection mV with mV
    subst mV
    exact⟨fB v (List.mem_of_getElem? hv),q_ _ _ _ _ _ _ v⟩⟩)
  refine cq hr (hnext _ _ _ _ _ _ _ hq (bc.value o.dst hd _ _ (.bx _ _ _ fun _=>⟨.inr rfl,w.heap.size,ar _ _ _,rfl⟩)))
 exact hq.elim
end Go.AM
namespace Go.AM
open Go.RowKit
theorem hM {id:Nat}:∀{fz:List (Nat×AB)} {h:Nat->AB},mR id fz=true->app h fz id=h id:=by
 intro fz
 induction fz with
 | nil=>intro h _;rfl
 | cons x fz ih=>
  intro h hn
  unfold mR at hn
  split at hn
  ·cases hn
  rename_i bG
  show app (aA h x.1 x.2) fz id=h id
  rw[ih hn,aE _ _ (fun e=>by rw[e] at bG;simp at bG)]
theorem bH {α:Type}:∀(ys:List α) (cs:List α) (off:Nat),(setCells cs off ys).length=cs.length:=by
 intro ys
 induction ys with
 | nil=>intro cs off;rfl
 | cons y ys ih=>intro cs off;simp[setCells,ih]
theorem cx {α:Type}:∀(ys:List α) (cs:List α) (off j:Nat),off+ys.length<=cs.length->(setCells cs off ys)[j]?=if off<=j/\j < off+ys.length then ys[j - off]? else cs[j]?:=by
 intro ys
 induction ys with
 | nil=>intro cs off j _;simp only[setCells,List.length_nil];rw[if_neg (by omega)]
 | cons y ys ih=>
  intro cs off j hl
  simp only[List.length_cons] at hl ⊢
  simp only[setCells]
  rw[ih _ _ _ (by simp;omega)]
  by_cases h1:j=off
  ·subst h1
   rw[if_neg (by omega),if_pos (by omega),Nat.sub_self,List.getElem?_set_self (by omega)]
   rfl
  by_cases h2:off+1<=j/\j < off+1+ys.length
  ·rw[if_pos h2,if_pos (by omega),show j - off=(j - (off+1))+1 by omega,List.getElem?_cons_succ]
  rw[if_neg h2,if_neg (by omega),List.getElem?_set_ne (by omega)]
theorem jH {α:Type} (cs ys:List α) (off j:Nat) (hl:off+ys.length<=cs.length):(cs.take off++ys++cs.drop (off+ys.length))[j]?=if off<=j/\j < off+ys.length then ys[j - off]? else cs[j]?:=by
 have h0:(cs.take off).length=off:=by simp;omega
 by_cases h1:j < off
 ·rw[if_neg (by omega),List.append_assoc,List.getElem?_append_left (by omega),List.getElem?_take_of_lt h1]
 by_cases h2:j < off+ys.length
 ·rw[if_pos (by omega),List.append_assoc,List.getElem?_append_right (by omega),h0,List.getElem?_append_left (by omega)]
 rw[if_neg (by omega),List.append_assoc,List.getElem?_append_right (by omega),h0,List.getElem?_append_right (by omega),List.getElem?_drop]
 congr 1
 omega
theorem Fm {α:Type} (cs:List α) (off j:Nat) (y:α) (hl:off < cs.length):(cs.set off y)[j]?=if off<=j/\j < off+1 then [y][j - off]? else cs[j]?:=cx [y] cs off j hl
theorem kH {P:Program} {w:World} {t:TypeId} {ti:TI} (h:ji P t ti) (g off:Nat) (ty:TypeId) (cur:Array Value) (v:Value) (hg:w.heap[g]?=some (.cells cur ty (0,0))) (hs:v.cells.size=ti.size) (hl:off+ti.size<=cur.size) (h1:∀u∈v.cells.toList,u.oneCell'=true):
  (Instr.storeAt t (.pointer (some ⟨g,off,none⟩)) v).run P w=.ok () (w.setRow g (cur.toList.take off++v.cells.toList++cur.toList.drop (off+v.cells.toList.length)).toArray):=by
 have:=run_storeCells_at P g off ty v.cells.toList 0 cur w hg (by simp[hs];omega) h1
 simp only[Nat.add_zero] at this
 simp[Instr.storeAt,Instr.sureAddr,storeVar,h.sizeOf,hs]
 simpa [hs] using this
theorem jI {P:Program} {a:Act} {o:Oper} {w w':World} {t:TypeId} {x y:Operand} (ax:o.op=.store t x y) (h:(Instr.storeAt t (a.eval x) (a.eval y)).run P w=.ok () w'):(execOp a.eval o).run P w=.ok .skip w':=by
 simp only[execOp,ax,Sem.run_bind,h,Result.andThen_ok,Sem.run_pure]
theorem aw.stored {α:Type} {P:Program} {w:World} {R R':α->Value->Prop} {e:TypeId} {es:List (List α)} {g n c:Nat} {tj:TypeInfo} (h:aw P w R e es (.slice (some ⟨g,0,none⟩) n c)) (tD:P.info? e=some tj) {cur:Array Value} (hg:w.heap[g]?=some (.cells cur e (0,0)))
  {i off:Nat} {r:List α} (hr:es[i]?=some r) {ys:List α} {us:List Value} (hle:off+ys.length<=r.length) (hlen:us.length=ys.length) (fB:∀u∈us,u.oneCell'=true) (hR:∀x u,R x u->R' x u) (dq:∀(j:Nat) z u,ys[j]?=some z->us[j]?=some u->R' z u):
  aw P (w.setRow g (cur.toList.take (i*tj.size+off)++us++cur.toList.drop (i*tj.size+off+us.length)).toArray) R' e (es.set i (setCells r off ys)) (.slice (some ⟨g,0,none⟩) n c):=by
 obtain⟨ie,xs,k1,k2,k3,k4,k5,k6⟩:=h
 rw[tD] at k1
 injection k1 with k1
 subst k1
 rcases k3.2 with⟨k7,_⟩ | ⟨g',cap,HU,k7,_,k8,k9,LZ,HV,J5⟩
 ·cases k7
 injection k7 with k7 kn kc
 injection k7 with k7
 injection k7 with k7
 subst k7 kn kc
 rw[hg] at k8
 injection k8 with k8
 injection k8 with k8
 subst k8
 have hi:=ao hr
 have qJ:=k4 r (List.mem_of_getElem? hr)
 have J6:i*tj.size+tj.size<=es.length*tj.size:=by rw[<-Nat.succ_mul];exact Nat.mul_le_mul_right _ hi
 have J7:es.length*tj.size<=cur.size:=by rw[HV];exact Nat.mul_le_mul_right _ k9
 have JF:xs.length=es.length*tj.size:=k3.1
 have rh:=fun j=>jH cur.toList us (i*tj.size+off) j (by simp;omega)
 have Fo:=fun j=>cx us xs (i*tj.size+off) j (by omega)
 refine⟨tj,setCells xs (i*tj.size+off) us,tD,k2,⟨by rw[bH,JF,List.length_set],.inr ⟨g,c,_,by rw[List.length_set],Nat.zero_le _,setRow_heap w g cur _ e (0,0) hg,by rw[List.length_set];exact k9,LZ,?_,?_⟩⟩,?_,?_,?_⟩
 ·simp only[List.size_toArray,List.length_append,List.length_take,List.length_drop,Array.length_toList]
  rw[HV] at *
  omega
 ·apply List.ext_getElem?
  intro j
  rw[List.getElem?_take]
  simp only[List.length_set]
  split
  ·rename_i hj
   rw[rh,Fo]
   split
   ·rfl
   rw[<-J5,List.getElem?_take_of_lt hj]
  rename_i hj
  rw[List.getElem?_eq_none]
  rw[bH,JF]
  omega
 ·intro q MS
  rcases List.mem_or_eq_of_mem_set MS with h | h
  ·exact k4 q h
  rw[h,bH];exact qJ
 ·intro u hu
  obtain⟨j,hj⟩:=List.mem_iff_getElem?.1 hu
  rw[Fo] at hj
  split at hj
  ·exact fB u (List.mem_of_getElem? hj)
  exact k5 u (List.mem_of_getElem? hj)
 intro a' q j z oW hz
 have L0:q.length=tj.size:=by
  rcases List.mem_or_eq_of_mem_set (List.mem_of_getElem? oW) with h | h
  ·exact k4 q h
  rw[h,bH];exact qJ
 have nI:=ao hz
 rw[Fo]
 by_cases C8:a'=i
 ·subst C8
  rw[List.getElem?_set_self hi] at oW
  injection oW with oW
  subst oW
  rw[cx _ _ _ _ (by omega)] at hz
  split at hz
  ·rename_i nu
   rw[if_pos (by omega),show a'*tj.size+j - (a'*tj.size+off)=j - off by omega]
   have O4:=ao hz
   exact⟨us[j - off]'(by omega),List.getElem?_eq_getElem _,dq _ z _ hz (List.getElem?_eq_getElem _)⟩
  rename_i nu
  rw[if_neg (by omega)]
  obtain⟨u,hu,mB⟩:=k6 _ _ _ _ hr hz
  exact⟨u,hu,hR _ _ mB⟩
 rw[List.getElem?_set_ne (fun e=>C8 e.symm)] at oW
 have bG:¬(i*tj.size+off<=a'*tj.size+j/\a'*tj.size+j < i*tj.size+off+us.length):=by
  rintro⟨h1,h2⟩
  rcases Nat.lt_or_gt_of_ne C8 with h | h
  ·have:=Nat.mul_le_mul_right tj.size (Nat.succ_le_of_lt h)
   rw[Nat.succ_mul] at this
   omega
  have:=Nat.mul_le_mul_right tj.size (Nat.succ_le_of_lt h)
  rw[Nat.succ_mul] at this
  omega
 rw[if_neg bG]
 obtain⟨u,hu,mB⟩:=k6 _ _ _ _ oW hz
 exact⟨u,hu,hR _ _ mB⟩
theorem aw.block {α:Type} {P:Program} {w:World} {R:α->Value->Prop} {e:TypeId} {es:List (List α)} {g n c:Nat} (h:aw P w R e es (.slice (some ⟨g,0,none⟩) n c)) {tj:TypeInfo} (tD:P.info? e=some tj):∃cur:Array Value,w.heap[g]?=some (.cells cur e (0,0))/\es.length*tj.size<=cur.size/\(∀r∈es,r.length=tj.size)/\0 < tj.size:=by
 obtain⟨ie,xs,k1,k2,k3,k4,k5,k6⟩:=h
 rw[tD] at k1
 injection k1 with k1
 subst k1
 rcases k3.2 with⟨k7,_⟩ | ⟨g',cap,HU,k7,_,k8,k9,LZ,HV,J5⟩
 ·cases k7
 injection k7 with k7 kn kc
 injection k7 with k7
 injection k7 with k7
 subst k7
 exact⟨HU,k8,by rw[HV];exact Nat.mul_le_mul_right _ k9,k4,k2⟩
theorem fh {g o n c:Nat} {p:Option Nat} {k:Nat}:br (.slice (some ⟨g,o,p⟩) n c)=some k↔k=g:=by
 simp only[br,Option.some.injEq]
 exact⟨fun h=>h.symm,fun h=>h.symm⟩
theorem oR.C9 {P:Program} {w:World} {R:HX->Value->Prop} {e:TypeId} {es:List (List HX)} {v:Value} (hS:oR w es v) (h:aw P w R e es v):
  aw P w (fun x u=>R x u/\∀e' mA,x=.row e' mA->∀g b,br v=some g->br u=some b->b≠g) e es v:=by
 obtain⟨i,xs,h1,h2,h3,h4,h5,h6⟩:=h
 refine⟨i,xs,h1,h2,h3,h4,h5,fun a r j x ha hj=>?_⟩
 obtain⟨u,hu,hr⟩:=h6 a r j x ha hj
 refine⟨u,hu,hr,fun e' mA hx g b hg hb=>?_⟩
 subst hx
 have qJ:=h4 r (List.mem_of_getElem? ha)
 rcases h3.2 with⟨hn,hz⟩ | ⟨g',cap,cur,hv,_,wh,k1,k2,k3,k4⟩
 ·have:=(List.getElem?_eq_some_iff.1 ha).1
  omega
 rw[hv] at hg
 obtain rfl:=fh.1 hg
 refine hS.top g a j u b (by rw[hv];rfl) ⟨r,e',mA,_,_,_,ha,hj,wh,?_⟩ hb
 rw[qJ]
 rw[<-k4,List.getElem?_take] at hu
 split at hu
 ·simpa using hu
 cases hu
theorem bd.Fp {A:bE} {V L S:Nat->Prop} {rho:Nat->Value} {s:AS} {a:Act} {w:World} (sim:bd A V L S rho s a w) (hC:a8 A.C) {id:Nat} (hL:L id) {e:TypeId} {es:List (List HX)} (an:s.h id=.an e es) {g n c:Nat} (hg:rho id=.slice (some ⟨g,0,none⟩) n c) {tj:TypeInfo} (tD:A.C.P.info? e=some tj)
  {i off:Nat} {r:List HX} (hr:es[i]?=some r) (hle:off+1<=r.length) {x:AV} {u:Value} (fB:u.oneCell'=true) (hx:aI S w A.C.P L rho s.h x u):
  ∃cur:Array Value,w.heap[g]?=some (.cells cur e (0,0))/\i*tj.size+off+1<=cur.size/\bd A V L S rho ⟨s.t,aA s.h id (.an e (es.set i (r.set off (.av x))))⟩ a (w.setRow g (cur.toList.take (i*tj.size+off)++[u]++cur.toList.drop (i*tj.size+off+1)).toArray):=by
 have hh:=sim.hp id hL
 rw[an] at hh
 obtain⟨hR,hS⟩:=hh
 rw[hg] at hR hS
 obtain⟨cur,wC,hsz,hlen,hpos⟩:=hR.block tD
 have hi:=ao hr
 have qJ:=hlen r (List.mem_of_getElem? hr)
 have J6:i*tj.size+tj.size<=es.length*tj.size:=by rw[<-Nat.succ_mul];exact Nat.mul_le_mul_right _ hi
 have dF:∀k j v,b_ (w.setRow g (cur.toList.take (i*tj.size+off)++[u]++cur.toList.drop (i*tj.size+off+1)).toArray) (es.set i (r.set off (.av x))) g k j v->b_ w es g k j v:=by
  rintro k j v ⟨q,e',mA,c',O5,m',h1,h2,h3,h4⟩
  rw[setRow_heap w g cur _ e (0,0) wC] at h3
  injection h3 with h3
  injection h3 with h3 h3' P_
  have nI:=ao h2
  have L0:q.length=tj.size:=by
   rcases List.mem_or_eq_of_mem_set (List.mem_of_getElem? h1) with h | h
   ·exact hlen q h
   rw[h,List.length_set];exact qJ
  have key:∀p,p≠i*tj.size+off->c'[p]?=some v->cur[p]?=some v:=fun p hp h=>by
   rw[<-h3] at h
   have h:(cur.toList.take (i*tj.size+off)++[u]++cur.toList.drop (i*tj.size+off+1))[p]?=some v:=by simpa using h
   have h2:=jH cur.toList [u] (i*tj.size+off) p (by simp;omega)
   simp only[List.length_singleton] at h2
   rw[h2,if_neg (by omega)] at h
   simpa using h
  by_cases MT:k=i
  ·subst MT
   rw[List.getElem?_set_self hi] at h1
   injection h1 with h1
   subst h1
   have O4:j≠off:=fun e0=>by
    subst e0
    rw[List.getElem?_set_self (by omega)] at h2
    injection h2 with h2
    cases h2
   rw[List.getElem?_set_ne (fun e=>O4 e.symm)] at h2
   refine⟨r,e',mA,cur,_,_,hr,h2,wC,?_⟩
   rw[L0] at h4
   rw[qJ]
   exact key _ (by omega) h4
  rw[List.getElem?_set_ne (fun e=>MT e.symm)] at h1
  refine⟨q,e',mA,cur,_,_,h1,h2,wC,?_⟩
  refine key _ ?_ h4
  rw[L0]
  intro he
  rcases Nat.lt_or_gt_of_ne MT with h | h
  ·have:=Nat.mul_le_mul_right tj.size (Nat.succ_le_of_lt h)
   rw[Nat.succ_mul] at this
   omega
  have:=Nat.mul_le_mul_right tj.size (Nat.succ_le_of_lt h)
  rw[Nat.succ_mul] at this
  omega
 refine⟨cur,wC,by omega,?_⟩
 refine sim.uG hC id hL (by rw[an];trivial) _ (fun e' h=>by rw[an];exact h) _ (setRow_os w g _) (setRow_tape w g _) (setRow_output w g _) (setRow_size w g _) (fun k hk=>setRow_other w g k _ fun e=>hk (by rw[hg,e];rfl)) (fun T=>?_) (fun k hk=>?_)
 ·show aw _ _ _ _ _ (rho id)/\oR _ _ (rho id)
  rw[hg]
  refine⟨(hS.C9 hR).stored tD wC (ys:=[.av x]) (us:=[u]) hr hle rfl (by simpa using fB) (fun y v hy=>?_) (fun j z v hz hv=>?_),?_⟩
  ·cases y with
   | av y=>exact aI.bP T hy.1
   | row e' mA=>exact aw.bP hy.1 (fun k hk=>setRow_other w g k _ (hy.2 _ _ rfl g k rfl hk)) (fun x u hu=>hu.mono T.hS T.keep)
  ·cases j with
   | zero=>simp at hz hv;subst hz hv;exact aI.bP T hx
   | succ j=>simp at hz
  exact⟨fun g' k j v b h1 h2 h3=>by
   obtain rfl:=fh.1 h1
   exact hS.top _ k j v b h1 (dF k j v h2) h3,fun g' k j k' j' v v' b h1 h2 h3 h4 h5=>by
   obtain rfl:=fh.1 h1
   exact hS.dis _ k j k' j' v v' b h1 (dF k j v h2) (dF k' j' v' h3) h4 h5⟩
 rw[an]
 rcases hk with hk | ⟨cs,g',h,_⟩ | ⟨e',bW,g',k',j,v,h1,h2,h3,h4⟩
 ·exact .inl hk
 ·cases h
 injection h1 with h1 nG
 subst h1 nG
 have pY:=h2
 rw[hg] at pY
 obtain rfl:=fh.1 pY
 exact .inr (.inr ⟨_,_,_,_,_,_,rfl,h2,dF _ _ _ h3,h4⟩)
theorem C_ {A:bE} {o:Oper} (t:TypeId) (x y:Operand) (ax:o.op=.store t x y):eX A o:=by
 intro V L S rho s a w K next Q hC sim hV hd hq hn hnext
 simp only[aY,ax] at hq
 have hx:=aM sim x fun j hj=>hV j (by simp[ax,Op.operands,hj])
 have hy:=aM sim y fun j hj=>hV j (by simp[ax,Op.operands,hj])
 split at hq
 ·exact hq.elim
 rename_i ti hT
 have dv:=hC.eK t ti hT
 split at hq
 ·rename_i id off HW
  rw[HW] at hx
  split at hq
  ·rename_i cs aC
   obtain⟨hL,g,hg,hv⟩:=hx.eY (by rw[aC];trivial)
   have main:∀(S2:Nat->Prop) (s2:AS) (iH:List AV) (ws:List AV),bd A V L S2 rho s2 a w->s2.h id=.box cs->(a.eval y).cells.size=ti.size->ws.length=ti.size->off+ti.size<=cs.length->(∀u∈(a.eval y).cells.toList,u.oneCell'=true)->
     (∀(j:Nat) z u,ws[j]?=some z->(a.eval y).cells[j]?=some u->aI S2 w A.C.P L rho s2.h z u)->iH.length=cs.length->(∀j,iH[j]?=if off<=j/\j < off+ws.length then ws[j - off]? else cs[j]?)->
     ∃w',(execOp a.eval o).run A.C.P w=.ok .skip w'/\bd A V L S2 rho ⟨s2.t,aA s2.h id (.box iH)⟩ a w':=by
    intro S2 s2 iH ws aP ri hsz MU hle fB dq hlen uH
    have hh:=aP.hp id hL
    rw[ri] at hh
    obtain⟨g',ty,c,k1,k2,k3,k4⟩:=hh
    rw[hg] at k1
    injection k1 with k1
    injection k1 with k1
    injection k1 with k1
    subst k1
    have hrun:=kH (w:=w) dv g off ty c (a.eval y) k2 hsz (by omega) fB
    refine⟨_,jI ax (by rw[hv];exact hrun),?_⟩
    refine aP.write hC id hL (by rw[ri];trivial) (.box iH) (fun _ h=>by cases h) _ (by simp) (by simp) (by simp) (by simp) (fun k hk=>setRow_other w g k _ fun e=>hk (by rw[hg,e];rfl)) fun T=>?_
    have hcl:(a.eval y).cells.toList.length=ti.size:=by simpa using hsz
    refine⟨g,ty,_,hg,setRow_heap w g c _ ty (0,0) k2,by simp[hcl];omega,fun j z u hj hu=>?_⟩
    have mV:(c.toList.take off++(a.eval y).cells.toList++c.toList.drop (off+(a.eval y).cells.toList.length))[j]?=some u:=by simpa using hu
    rw[jH _ _ _ _ (by rw[hcl];simpa [k3] using hle)] at mV
    rw[uH j] at hj
    rw[hcl] at mV
    rw[MU] at hj
    split at hj
    ·rename_i nu
     rw[if_pos nu] at mV
     have MV:(a.eval y).cells[j - off]?=some u:=by simpa using mV
     exact⟨fB u (List.mem_of_getElem? mV),(dq _ z u hj MV).bP T⟩
    rename_i nu
    rw[if_neg nu] at mV
    have MV:c[j]?=some u:=by simpa using mV
    obtain⟨h5,h6⟩:=k4 _ _ _ hj MV
    exact⟨h5,h6.bP T⟩
   split at hq
   ·rename_i pW
    obtain⟨yv,fz,S2,hq,aP,hrep,uF,hF,wB⟩:=eM hC sim (kv.refl s.h) hy hq
    split at hq
    ·rename_i ys
     split at hq
     ·rename_i ga
      simp only[Bool.and_eq_true] at ga
      obtain⟨⟨e1,e2⟩,e3⟩:=ga
      have e1:=eF e1
      have e2:=gv e2
      obtain⟨vs,Da,h1,h2,h3⟩:=hrep.mU
      have hcl:(a.eval y).cells=vs:=by rw[Da];rfl
      obtain⟨w',hrun,dR⟩:=main S2 _ (setCells cs off (ys.map JA)) (ys.map JA) aP (by simp only;rw[hM e3];exact aC) (by rw[hcl];omega) (by simpa using e1) e2 (by rw[hcl];exact h2)
       (fun j z u hj hu=>by
        rw[hcl] at hu
        rw[List.getElem?_map] at hj
        obtain⟨z',hz,rfl⟩:=Option.map_eq_some_iff.1 hj
        exact uA (h3 j z' u hz hu)) (bH _ _ _) (fun j=>cx _ _ _ _ (by simpa [e1] using e2))
      refine kF hrun (hnext _ _ _ S2 rho _ _ hq ?_)
      have:=dR.value o.dst hd .junk undef (.junk _)
      simp only[bq,app]
      exact this
     exact hq.elim
    exact hq.elim
   rename_i pW
   split at hq
   ·rename_i ga
    simp only[Bool.and_eq_true] at ga
    obtain⟨⟨e1,e2⟩,e3⟩:=ga
    have e1:=gv e1
    have e2:=eF e2
    have h1:=lG sim e3 hy
    have hcl:=cells_one h1
    obtain⟨w',hrun,dR⟩:=main S s (cs.set off (ev s.t y)) [ev s.t y] sim aC (by rw[hcl,e2];rfl) (by rw[e2];rfl) (by omega) (by rw[hcl];simpa using h1)
     (fun j z u hj hu=>by
      rw[hcl] at hu
      cases j with
      | zero=>simp at hj hu;subst hj hu;exact hy
      | succ j=>simp at hj) (by simp) (fun j=>Fm _ _ _ _ (by omega))
    refine kF hrun (hnext _ _ _ S rho _ _ hq ?_)
    exact dR.value o.dst hd .junk undef (.junk _)
   exact hq.elim
  exact hq.elim
 ·rename_i id i off HW
  rw[HW] at hx
  split at hq
  ·rename_i e es an
   obtain⟨hL,g,n,c,tj,hg,tD,hv⟩:=hx.rf an
   obtain⟨r,hr,hq⟩:=hq
   obtain⟨yv,fz,S2,hq,aP,hrep,uF,hF,wB⟩:=eM hC sim (kv.refl s.h) hy hq
   split at hq
   ·rename_i ys HY
    split at hq
    ·rename_i ga
     simp only[Bool.and_eq_true] at ga
     obtain⟨⟨e1,e2⟩,e3⟩:=ga
     have e1:=eF e1
     have e2:=gv e2
     obtain⟨MW,fB,dq⟩:=pX HY hrep
     have ri:(app s.h fz) id=.row e es:=by rw[hM e3];exact an
     have hh:=aP.hp id hL
     have hh:cZ S2 w A.C.P L rho (app s.h fz) id ((app s.h fz) id):=hh
     rw[ri] at hh
     obtain⟨ie,xs,k1,k2,k3,k4,k5,k6⟩:=hh
     rw[tD] at k1
     injection k1 with k1
     subst k1
     rw[hg] at k3
     rcases k3.2 with⟨k7,_⟩ | ⟨g',cap,cur,k7,_,k8,k9,LZ,HV,J5⟩
     ·cases k7
     injection k7 with k7 kn kc
     injection k7 with k7
     injection k7 with k7
     subst k7 kn kc
     have hi:=ao hr
     have qJ:=k4 r (List.mem_of_getElem? hr)
     have J6:i*tj.size+tj.size<=es.length*tj.size:=by rw[<-Nat.succ_mul];exact Nat.mul_le_mul_right _ hi
     have J7:es.length*tj.size<=cur.size:=by rw[HV];exact Nat.mul_le_mul_right _ k9
     have hcl:(a.eval y).cells.toList.length=ti.size:=by simp;omega
     have hrun:=kH (w:=w) dv g (i*tj.size+off) e cur (a.eval y) k8 (by omega) (by omega) fB
     refine kF (jI ax (by rw[hv];exact hrun)) (hnext _ _ _ S2 rho _ _ hq ?_)
     have dR:bd A V L S2 rho ⟨s.t,aA (app s.h fz) id (.row e (es.set i (setCells r off ys)))⟩ a (w.setRow g (cur.toList.take (i*tj.size+off)++(a.eval y).cells.toList++cur.toList.drop (i*tj.size+off+(a.eval y).cells.toList.length)).toArray):=by
      refine aP.write hC id hL (by show (app s.h fz id).live;rw[ri];trivial) (.row e (es.set i (setCells r off ys))) (fun e' h=>by show (app s.h fz id).jB=_;rw[ri];exact h) _ (setRow_os w g _) (setRow_tape w g _) (setRow_output w g _) (setRow_size w g _)
       (fun k hk=>setRow_other w g k _ fun e=>hk (by rw[hg,e];rfl)) (fun T=>?_)
      show aw _ _ _ _ _ (rho id)
      rw[hg]
      have JF:xs.length=es.length*tj.size:=k3.1
      have wC:∀(j:Nat) u,xs[j]?=some u->cur.toList[j]?=some u:=fun j u hj=>by
       rw[<-J5] at hj
       rw[List.getElem?_take] at hj
       split at hj
       ·exact hj
       cases hj
      have rh:=fun j=>jH cur.toList (a.eval y).cells.toList (i*tj.size+off) j (by rw[hcl];simp;omega)
      have Fo:=fun j=>cx (a.eval y).cells.toList xs (i*tj.size+off) j (by rw[hcl,JF];omega)
      refine⟨tj,setCells xs (i*tj.size+off) (a.eval y).cells.toList,tD,k2,⟨by rw[bH,JF,List.length_set],.inr ⟨g,c,_,by rw[List.length_set],Nat.zero_le _,setRow_heap w g cur _ e (0,0) k8,by rw[List.length_set];exact k9,LZ,?_,?_⟩⟩,?_,?_,?_⟩
      ·simp only[List.size_toArray,List.length_append,List.length_take,List.length_drop,Array.length_toList]
       rw[HV] at *
       simp at hcl
       omega
      ·apply List.ext_getElem?
       intro j
       rw[List.getElem?_take]
       simp only[List.length_set]
       split
       ·rename_i hj
        rw[rh,Fo]
        split
        ·rfl
        rw[<-J5,List.getElem?_take_of_lt hj]
       rename_i hj
       rw[List.getElem?_eq_none]
       rw[bH,JF]
       omega
      ·intro q MS
       rcases List.mem_or_eq_of_mem_set MS with h | h
       ·exact k4 q h
       rw[h,bH];exact qJ
      ·intro u hu
       obtain⟨j,hj⟩:=List.mem_iff_getElem?.1 hu
       rw[Fo] at hj
       split at hj
       ·exact fB u (List.mem_of_getElem? hj)
       exact k5 u (List.mem_of_getElem? hj)
      intro a' q j z oW hz
      have L0:q.length=tj.size:=by
       rcases List.mem_or_eq_of_mem_set (List.mem_of_getElem? oW) with h | h
       ·exact k4 q h
       rw[h,bH];exact qJ
      have nI:=ao hz
      rw[Fo]
      by_cases C8:a'=i
      ·subst C8
       rw[List.getElem?_set_self hi] at oW
       injection oW with oW
       subst oW
       rw[cx _ _ _ _ (by omega)] at hz
       split at hz
       ·rename_i nu
        rw[if_pos (by omega),show a'*tj.size+j - (a'*tj.size+off)=j - off by omega]
        obtain⟨u,hu⟩:=fP MW.symm (ao hz)
        exact⟨u,by simpa using hu,(dq _ z u hz hu).mono T.hS T.keep⟩
       rename_i nu
       rw[if_neg (by omega)]
       obtain⟨u,hu,mB⟩:=k6 _ _ _ _ hr hz
       exact⟨u,hu,mB.mono T.hS T.keep⟩
      rw[List.getElem?_set_ne (fun e=>C8 e.symm)] at oW
      have bG:¬(i*tj.size+off<=a'*tj.size+j/\a'*tj.size+j < i*tj.size+off+(a.eval y).cells.toList.length):=by
       rintro⟨h1,h2⟩
       rcases Nat.lt_or_gt_of_ne C8 with h | h
       ·have:=Nat.mul_le_mul_right tj.size (Nat.succ_le_of_lt h)
        rw[Nat.succ_mul] at this
        omega
       have:=Nat.mul_le_mul_right tj.size (Nat.succ_le_of_lt h)
       rw[Nat.succ_mul] at this
       omega
      rw[if_neg bG]
      obtain⟨u,hu,mB⟩:=k6 _ _ _ _ oW hz
      exact⟨u,hu,mB.mono T.hS T.keep⟩
     have:=dR.value o.dst hd .junk undef (.junk _)
     simp only[bq,app]
     exact this
    exact hq.elim
   exact hq.elim
  ·rename_i e es an
   obtain⟨hL,g,n,c,tj,hg,tD,hv⟩:=hx.nH an
   obtain⟨r,hr,hq⟩:=hq
   split at hq
   ·exact hq.elim
   split at hq
   ·rename_i ga
    simp only[Bool.and_eq_true] at ga
    obtain⟨⟨e1,e2⟩,e3⟩:=ga
    have e1:=gv e1
    have e2:=eF e2
    have h1:=lG sim e3 hy
    have hcl:=cells_one h1
    obtain⟨cur,wC,hsz,dR⟩:=sim.Fp hC hL an hg tD hr e1 h1 hy
    have hrun:=kH (w:=w) dv g (i*tj.size+off) e cur (a.eval y) wC (by rw[hcl,e2];rfl) (by omega) (by rw[hcl];simpa using h1)
    rw[hcl] at hrun
    refine kF (jI ax (by rw[hv];exact hrun)) (hnext _ _ _ S rho _ _ hq ?_)
    exact dR.value o.dst hd .junk undef (.junk _)
   exact hq.elim
  exact hq.elim
 exact hq.elim
end Go.AM
namespace Go.AM
open Go.RowKit
theorem HZ {A:bE} {o:Oper} (c:Call) (ax:o.op=.call c) (hc:c.callee=.builtin .len):eX A o:=by
 intro V L S rho s a w K next Q hC sim hV hd hq _ hnext
 obtain⟨callee,args,argTypes⟩:=c
 simp only at hc
 subst hc
 simp only[aY,ax,cM,dm] at hq
 split at hq
 ·rename_i x t hargs Db
  have hx:=aM sim x fun j hj=>hV j (by simp[ax,Op.operands,Call.operands,hj];rw[<-hj];exact Array.mem_toList_iff.1 (by rw[hargs];simp))
  have e1:args=#[x]:=by rw[<-Array.toArray_toList (xs:=args),hargs]
  have e2:argTypes=#[t]:=by rw[<-Array.toArray_toList (xs:=argTypes),Db]
  subst e1 e2
  split at hq
  ·rename_i size bytes zero eq hT
   have dv:=(hC.eK t _ hT).under
   simp only at dv
   split at hq
   ·rename_i st wj
    rw[wj] at hx
    exact ay sim hd hnext hq (.p _ _ (.im _)) (by simp[execOp,ax,resolve,invoke,builtin,hx.aZ,Builtin.len_,run_underlying dv,goInt])
   exact hq.elim
  ·rename_i e size bytes zero eq hT
   have dv:=(hC.eK t _ hT).under
   simp only at dv
   have fin:∀(es:List (List PV)) ad c,K (.p (.im (.int .i64 es.length))) [] none->a.eval x=.slice ad es.length c->o.wp A.C.P a w next Q:=fun es ad c hq he=>
    ay sim hd hnext hq (.p _ _ (.im _)) (by simp[execOp,ax,resolve,invoke,builtin,he,Builtin.len_,run_underlying dv,goInt])
   split at hq
   ·rename_i m hm
    unfold hlen at hm
    split at hm
    ·rename_i id wi
     rw[wi] at hx
     split at hm
     ·rename_i e' es an
      injection hm with hm
      subst hm
      obtain⟨hL,hv⟩:=hx.bF (by rw[an];trivial)
      have hh:=sim.hp id hL
      rw[an] at hh
      obtain⟨⟨i,xs,_,_,h3,_⟩,_⟩:=hh
      obtain⟨ad,c,MX⟩:∃ad c,rho id=.slice ad es.length c:=by
       rcases h3.2 with⟨h4,h5⟩ | ⟨g,cap,cur,h4,_⟩
       ·exact⟨none,0,by rw[h4,h5]⟩
       exact⟨_,cap,h4⟩
      exact ay sim hd hnext hq (.p _ _ (.im _)) (by simp[execOp,ax,resolve,invoke,builtin,hv,MX,Builtin.len_,run_underlying dv,goInt])
     cases hm
    ·rename_i id lo hi wi
     rw[wi] at hx
     split at hm
     ·rename_i e' es an
      injection hm with hm
      subst hm
      obtain⟨_,n,cp,ad,MR,_,_,_,_,_,hval⟩:=hx.uD an
      exact ay sim hd hnext hq (.p _ _ (.im _)) (by simp[execOp,ax,resolve,invoke,builtin,hval,Builtin.len_,run_underlying dv,goInt])
     cases hm
    cases hm
   unfold dW at hq
   split at hq
   ·rename_i es wi
    rw[wi] at hx
    obtain⟨ad,c,hv,_⟩:=hx.dE.jF
    exact fin es ad c hq hv
   ·rename_i wi
    rw[wi] at hx
    have:a.eval x=.slice none 0 0:=by cases h:a.eval x <;> rw[h] at hx <;> cases hx;rfl
    exact fin [] none 0 hq this
   ·rename_i id wi
    rw[wi] at hx
    split at hq
    ·rename_i e' es an
     obtain⟨hL,hv⟩:=hx.bF (by rw[an];trivial)
     have hh:=sim.hp id hL
     rw[an] at hh
     obtain⟨i,xs,_,_,h3,_⟩:=hh
     rcases h3.2 with⟨h4,h5⟩ | ⟨g,cap,cur,h4,_⟩
     ·exact fin es none 0 hq (by rw[hv,h4,h5])
     exact fin es _ cap hq (by rw[hv,h4])
    ·rename_i es an
     obtain⟨hL,hv⟩:=hx.bF (by rw[an];trivial)
     have hh:=sim.hp id hL
     rw[an] at hh
     obtain⟨ad,c,h4,_⟩:=az.jF hh
     exact fin es ad c hq (by rw[hv,h4])
    exact hq.elim
   exact hq.elim
  ·rename_i kt et size bytes zero eq hT
   have dv:=(hC.eK t _ hT).under
   simp only at dv
   split at hq
   case h_2=>exact hq.elim
   rename_i id hid
   split at hq
   case h_2=>exact hq.elim
   rename_i mk es hm
   rw[hid] at hx
   obtain⟨hL,hv⟩:=hx.bF (by rw[hm];trivial)
   have hh:=sim.hp id hL
   rw[hm] at hh
   obtain⟨g,ms,clock,h1,h2,h3,_⟩:=hh
   exact ay sim hd hnext hq (.p _ _ (.im _)) (by simp[execOp,ax,resolve,invoke,builtin,hv,h1,Builtin.len_,run_underlying dv,MapKept.run_getObj_map h2,h3,goInt])
  exact hq.elim
 exact hq.elim
theorem H0 {A:bE} {o:Oper} (c:Call) (ax:o.op=.call c) (hc:c.callee=.builtin .min):eX A o:=by
 intro V L S rho s a w K next Q hC sim hV hd hq _ hnext
 obtain⟨callee,args,argTypes⟩:=c
 simp only at hc
 subst hc
 simp only[aY,ax,cM,dm] at hq
 split at hq
 ·rename_i x y hargs
  have hx:=aM sim x fun j hj=>hV j (by simp[ax,Op.operands,Call.operands,hj];rw[<-hj];exact Array.mem_toList_iff.1 (by rw[hargs];simp))
  have hy:=aM sim y fun j hj=>hV j (by simp[ax,Op.operands,Call.operands,hj];rw[<-hj];exact Array.mem_toList_iff.1 (by rw[hargs];simp))
  have e1:args=#[x,y]:=by rw[<-Array.toArray_toList (xs:=args),hargs]
  subst e1
  split at hq
  ·rename_i k m k' n h1 h2
   rw[h1] at hx;rw[h2] at hy
   exact ay sim hd hnext hq (.p _ _ (.im _)) (by
    simp[execOp,ax,resolve,invoke,builtin,hx.aZ,hy.aZ,Builtin.min_,Builtin.min2]
    rw[Int.min_def]
    split <;> split <;> omega)
  exact hq.elim
 exact hq.elim
theorem wD {P:Program} {w:World} (k k':IntKind) (m n:Int):(Builtin.max2 (.int k m) (.int k' n)).run P w=.ok (.int k (max m n)) w:=by
 simp only[Builtin.max2,Sem.run_pure]
 rw[Int.max_def]
 by_cases h:n > m
 ·rw[if_pos h,if_pos (by omega)]
 rw[if_neg h]
 by_cases h2:m<=n
 ·rw[if_pos h2,show m=n by omega]
 rw[if_neg h2]
theorem H3 {A:bE} {o:Oper} (c:Call) (ax:o.op=.call c) (hc:c.callee=.builtin .max):eX A o:=by
 intro V L S rho s a w K next Q hC sim hV hd hq _ hnext
 obtain⟨callee,args,argTypes⟩:=c
 simp only at hc
 subst hc
 simp only[aY,ax,cM,dm] at hq
 split at hq
 ·rename_i x y hargs
  have hx:=aM sim x fun j hj=>hV j (by simp[ax,Op.operands,Call.operands,hj];rw[<-hj];exact Array.mem_toList_iff.1 (by rw[hargs];simp))
  have hy:=aM sim y fun j hj=>hV j (by simp[ax,Op.operands,Call.operands,hj];rw[<-hj];exact Array.mem_toList_iff.1 (by rw[hargs];simp))
  have e1:args=#[x,y]:=by rw[<-Array.toArray_toList (xs:=args),hargs]
  subst e1
  split at hq
  ·rename_i k m k' n h1 h2
   rw[h1] at hx;rw[h2] at hy
   exact ay sim hd hnext hq (.p _ _ (.im _)) (by
    simp[execOp,ax,resolve,invoke,builtin,hx.aZ,hy.aZ,Builtin.max_,Builtin.max2]
    rw[Int.max_def]
    split <;> split <;> omega)
  exact hq.elim
 ·rename_i x y z hargs
  have hx:=aM sim x fun j hj=>hV j (by simp[ax,Op.operands,Call.operands,hj];rw[<-hj];exact Array.mem_toList_iff.1 (by rw[hargs];simp))
  have hy:=aM sim y fun j hj=>hV j (by simp[ax,Op.operands,Call.operands,hj];rw[<-hj];exact Array.mem_toList_iff.1 (by rw[hargs];simp))
  have hz:=aM sim z fun j hj=>hV j (by simp[ax,Op.operands,Call.operands,hj];rw[<-hj];exact Array.mem_toList_iff.1 (by rw[hargs];simp))
  have e1:args=#[x,y,z]:=by rw[<-Array.toArray_toList (xs:=args),hargs]
  subst e1
  split at hq
  ·rename_i k0 m0 k1 m1 k2 m2 g0 g1 g2
   rw[g0] at hx
   rw[g1] at hy
   rw[g2] at hz
   exact ay sim hd hnext hq (.p _ _ (.im _)) (by
    simp[execOp,ax,resolve,invoke,builtin,hx.aZ,hy.aZ,hz.aZ,Builtin.max_,wD])
  exact hq.elim
 ·rename_i x y z u v hargs
  have hx:=aM sim x fun j hj=>hV j (by simp[ax,Op.operands,Call.operands,hj];rw[<-hj];exact Array.mem_toList_iff.1 (by rw[hargs];simp))
  have hy:=aM sim y fun j hj=>hV j (by simp[ax,Op.operands,Call.operands,hj];rw[<-hj];exact Array.mem_toList_iff.1 (by rw[hargs];simp))
  have hz:=aM sim z fun j hj=>hV j (by simp[ax,Op.operands,Call.operands,hj];rw[<-hj];exact Array.mem_toList_iff.1 (by rw[hargs];simp))
  have hu:=aM sim u fun j hj=>hV j (by simp[ax,Op.operands,Call.operands,hj];rw[<-hj];exact Array.mem_toList_iff.1 (by rw[hargs];simp))
  have hv:=aM sim v fun j hj=>hV j (by simp[ax,Op.operands,Call.operands,hj];rw[<-hj];exact Array.mem_toList_iff.1 (by rw[hargs];simp))
  have e1:args=#[x,y,z,u,v]:=by rw[<-Array.toArray_toList (xs:=args),hargs]
  subst e1
  split at hq
  ·rename_i k0 m0 k1 m1 k2 m2 k3 m3 k4 m4 g0 g1 g2 g3 g4
   rw[g0] at hx
   rw[g1] at hy
   rw[g2] at hz
   rw[g3] at hu
   rw[g4] at hv
   exact ay sim hd hnext hq (.p _ _ (.im _)) (by
    simp[execOp,ax,resolve,invoke,builtin,hx.aZ,hy.aZ,hz.aZ,hu.aZ,hv.aZ,Builtin.max_,wD])
  exact hq.elim
 exact hq.elim
theorem tI {A:bE} {o:Oper} {V L S:Nat->Prop} {rho:Nat->Value} {s:AS} {a:Act} {w:World} {K:KK} {next:Act->World->Prop} {Q:Exit->Act->World->Prop} {fz:List (Nat×AB)} (sim:bd A V L S rho ⟨s.t,app s.h fz⟩ a w) (hd:∀d,o.dst=some d->d < A.n)
  (hnext:∀v eff new S' rho' a' w',K v eff new->bd A (sX V o.dst) (wx L new (o.dst.getD 0)) S' rho' ⟨cQ s.t o.dst v,app s.h eff⟩ a' w'->next a' w') {x:AV} {v:Value} (hq:K x fz none) (hv:aI S w A.C.P L rho (app s.h fz) x v)
  (hr:(execOp a.eval o).run A.C.P w=.ok (.value v) w):o.wp A.C.P a w next Q:=
 cq hr (hnext _ _ _ _ _ _ _ hq (sim.value o.dst hd x v hv))
theorem az.Fq {S:Nat->Prop} {w:World} {es:List (List PV)} {ad:Option Addr} {c l h sz:Nat} (hx:az S w (.sl es) (.slice ad es.length c)) (hl:l<=h) (hh:h<=es.length) (hc:es.length<=c)
  (hk:∀b off k,ad=some ⟨b,off,none⟩->(∀e∈es,e.length=k)->l < h->k=sz):az S w (.sl ((es.take h).drop l)) (.slice (if c=l then ad else ad.map (·.add (l*sz))) (h - l) (c - l)):=by
 have hlen:((es.take h).drop l).length=h - l:=by simp;omega
 by_cases he:h - l=0
 ·have:(es.take h).drop l=[]:=List.eq_nil_of_length_eq_zero (by omega)
  rw[this,he]
  exact .nil _ _
 obtain⟨RC,c',hv,hle,bG⟩:=hx.jF
 injection hv with e1 e2 e3
 subst e1 e3
 obtain⟨b,off,k,e4,hb,yx,hcell⟩:=bG (by intro e;rw[e] at hh;simp at hh;omega)
 have O6:=hk b off k e4 yx (by omega)
 subst e4
 rw[if_neg (by omega)]
 show az S w _ (.slice (some (Addr.add ⟨b,off,none⟩ (l*sz))) (h - l) (c - l))
 rw[Addr.add_lit,<-hlen]
 have uH:∀(i:Nat) e,((es.take h).drop l)[i]?=some e->es[l+i]?=some e:=by
  intro i e hi
  rw[List.getElem?_drop,List.getElem?_take] at hi
  split at hi
  ·exact hi
  cases hi
 refine .sl _ k b (off+l*sz) _ (fun i j=>(w.cell? ⟨b,off+l*sz+i*k+j,none⟩).getD undef) (by rw[hlen];omega) hb (fun e he=>yx e (List.mem_of_mem_take (List.mem_of_mem_drop he))) (fun i e j x h1 h2=>?_) fun i e j x h1 h2=>?_
 ·obtain⟨u,h3,h4,h5⟩:=hcell _ e j x (uH i e h1) h2
  have:off+l*sz+i*k+j=off+(l+i)*k+j:=by rw[<-O6,Nat.add_mul];omega
  rw[this,h3]
  exact⟨rfl,h4⟩
 obtain⟨u,h3,h4,h5⟩:=hcell _ e j x (uH i e h1) h2
 have:off+l*sz+i*k+j=off+(l+i)*k+j:=by rw[<-O6,Nat.add_mul];omega
 rw[this,h3]
 exact h5
theorem dO {P:Program} {w:World} (k:IntKind) (i:Int) (y:Nat) (code:BoundsCode) (h:0<=i/\i<=y):(Instr.sliceBound (.int k i) y code).run P w=.ok i.toNat w:=by
 simp[Instr.sliceBound,asIntOf,h.1,h.2]
theorem rj {A:bE} {V L S:Nat->Prop} {rho:Nat->Value} {s:AS} {a:Act} {w:World} (_:bd A V L S rho s a w) (lo hi:Option Operand) (J8:∀y,lo=some y->aI S w A.C.P L rho s.h (ev s.t y) (a.eval y)) (J9:∀y,hi=some y->aI S w A.C.P L rho s.h (ev s.t y) (a.eval y)):
  ∀(isSlice:Bool) (len cap:Nat) (k:IntKind) (m:Int) (k':IntKind) (n:Int),len<=cap->(match lo with | some y=>ev s.t y | none=>.p (.im (.int .i64 0)))=.p (.im (.int k m))->(match hi with | some y=>ev s.t y | none=>.p (.im (.int .i64 len)))=.p (.im (.int k' n))->0<=m->m<=n->n<=len ->
   (Instr.sliceBounds isSlice len cap (lo.map a.eval) (hi.map a.eval) none).run A.C.P w=.ok (m.toNat,n.toNat,cap) w:=by
  intro isSlice len cap k m k' n RD h1 h2 h3 h4 h5
  have e2:∀y,hi=some y->a.eval y=.int k' n:=fun y hy=>by
   have:=J9 y hy
   subst hy
   rw[show ev s.t y=_ from h2] at this
   exact this.aZ
  have e1:∀y,lo=some y->a.eval y=.int k m:=fun y hy=>by
   have:=J8 y hy
   subst hy
   rw[show ev s.t y=_ from h1] at this
   exact this.aZ
  have nb:((n.toNat:Nat):Int)=n:=by omega
  cases hi with
  | some yh=>
   have e2:=e2 yh rfl
   cases lo with
   | some yl=>
    have e1:=e1 yl rfl
    cases isSlice <;> simp[Instr.sliceBounds,e1,e2,dO k' n cap _ ⟨by omega,by omega⟩,dO k m n.toNat _ ⟨h3,by omega⟩]
   | none=>
    have nG:m=0:=by simp at h1;exact h1.2.symm
    subst nG
    cases isSlice <;> simp[Instr.sliceBounds,e2,dO k' n cap _ ⟨by omega,by omega⟩]
  | none=>
   have pY:n=len:=by simp at h2;exact h2.2.symm
   subst pY
   cases lo with
   | some yl=>
    have e1:=e1 yl rfl
    cases isSlice <;> simp[Instr.sliceBounds,e1,dO k m len _ ⟨h3,by omega⟩]
   | none=>
    have nG:m=0:=by simp at h1;exact h1.2.symm
    subst nG
    cases isSlice <;> simp[Instr.sliceBounds]
theorem BI {A:bE} {o:Oper} (t:TypeId) (x:Operand) (lo hi:Option Operand) (ax:o.op=.slice t x lo hi none) {V L S:Nat->Prop} {rho:Nat->Value} {s:AS} {a:Act} {w:World} {K:KK} {next:Act->World->Prop} {Q:Exit->Act->World->Prop} (hC:a8 A.C) (sim:bd A V L S rho s a w)
  (hV:∀j,(.tmp j)∈o.op.operands->V j) (hd:∀d,o.dst=some d->d < A.n) (hq:dJ A.C (ev s.t) s.h t x lo hi K)
  (hnext:∀v eff new S' rho' a' w',K v eff new->bd A (sX V o.dst) (wx L new (o.dst.getD 0)) S' rho' ⟨cQ s.t o.dst v,app s.h eff⟩ a' w'->next a' w'):o.wp A.C.P a w next Q:=by
 simp only[dJ] at hq
 have hx:=aM sim x fun j hj=>hV j (by simp[ax,Op.operands,hj])
 have J8:∀y,lo=some y->aI S w A.C.P L rho s.h (ev s.t y) (a.eval y):=fun y hy=>aM sim y fun j hj=>hV j (by simp[ax,Op.operands,hj,hy])
 have J9:∀y,hi=some y->aI S w A.C.P L rho s.h (ev s.t y) (a.eval y):=fun y hy=>aM sim y fun j hj=>hV j (by simp[ax,Op.operands,hj,hy])
 have bounds:∀(isSlice:Bool) (len cap:Nat) (k:IntKind) (m:Int) (k':IntKind) (n:Int),len<=cap->(match lo with | some y=>ev s.t y | none=>.p (.im (.int .i64 0)))=.p (.im (.int k m))->(match hi with | some y=>ev s.t y | none=>.p (.im (.int .i64 len)))=.p (.im (.int k' n))->0<=m->m<=n->n<=len ->
   (Instr.sliceBounds isSlice len cap (lo.map a.eval) (hi.map a.eval) none).run A.C.P w=.ok (m.toNat,n.toNat,cap) w:=by
  exact rj sim lo hi J8 J9
 split at hq
 ·rename_i size bytes zero eq hT
  have dv:=(hC.eK t _ hT).under
  simp only at dv
  split at hq
  ·rename_i st wj
   rw[wj] at hx
   split at hq
   ·rename_i k m k' n h1 h2
    obtain⟨⟨h3,h4,h5⟩,hq⟩:=hq
    have hb:=bounds false st.size st.size k m k' n (Nat.le_refl _) h1 h2 h3 h4 h5
    exact ay sim hd hnext hq (.p _ _ (.im _)) (by simp[execOp,ax,Instr.sliceAt,Instr.slice,hx.aZ,run_underlying dv,hb])
   exact hq.elim
  exact hq.elim
 ·rename_i e size bytes zero eq hT
  have dv:=(hC.eK t _ hT).under
  simp only at dv
  split at hq
  ·exact hq.elim
  rename_i te oV
  obtain⟨ie,ze,kh,sY,_⟩:=(hC.eK e te oV).info
  obtain⟨y,fz,S2,hq,aP,hrep,uF,hF,wB⟩:=eM hC sim (kv.refl s.h) hx hq
  split at hq
  ·rename_i es
   split at hq
   ·rename_i k m k' n h1 h2
    obtain⟨⟨h3,h4,h5,h6⟩,hq⟩:=hq
    obtain⟨ad,c,hv,hle,_⟩:=hrep.jF
    have hb:=bounds true es.length c k m k' n hle h1 h2 h3 h4 h5
    rw[hv] at hrep
    refine tI aP hd hnext hq (.p _ _ (hrep.Fq (sz:=te.size) (l:=m.toNat) (h:=n.toNat) (by omega) (by omega) hle fun b off kk L3 kC dS=>?_)) ?_
    ·have hpos:0 < es.length:=by omega
     have hm:es[0]∈es:=List.getElem_mem _
     rw[<-kC _ hm,h6 _ hm]
    simp[execOp,ax,Instr.sliceAt,Instr.slice,hv,run_underlying dv,hb,Go.sizeOf,typeInfo,kh,sY]
   exact hq.elim
  exact hq.elim
 exact hq.elim
structure Flat (S:Nat->Prop) (w:World) (k:Nat) (es:List (List PV)) (xs:List Value):Prop where
 len:xs.length=es.length*k
 row:∀r∈es,r.length=k
 one:∀u∈xs,u.oneCell'=true
 rep:∀(i:Nat) r (j:Nat) x,es[i]?=some r->r[j]?=some x->∃u,xs[i*k+j]?=some u/\az S w x u
theorem Flat.mono {S S':Nat->Prop} {w w':World} {k:Nat} {es:List (List PV)} {xs:List Value} (h:Flat S w k es xs) (hS:∀b,S b->S' b) (hw:∀b,S b->w'.heap[b]?=w.heap[b]?):Flat S' w' k es xs:=
 ⟨h.len,h.row,h.one,fun i r j x h1 h2=>by obtain⟨u,h3,h4⟩:=h.rep i r j x h1 h2;exact⟨u,h3,h4.mono hS hw⟩⟩
theorem Flat.app {S:Nat->Prop} {w:World} {k:Nat} {es fs:List (List PV)} {xs ys:List Value} (h:Flat S w k es xs) (g:Flat S w k fs ys):Flat S w k (es++fs) (xs++ys):=by
 refine⟨by rw[List.length_append,List.length_append,h.len,g.len,Nat.add_mul],fun r hr=>(List.mem_append.1 hr).elim (h.row r) (g.row r),fun u hu=>(List.mem_append.1 hu).elim (h.one u) (g.one u),fun i r j x h1 h2=>?_⟩
 by_cases hi:i < es.length
 ·rw[List.getElem?_append_left hi] at h1
  obtain⟨u,h3,h4⟩:=h.rep i r j x h1 h2
  exact⟨u,by rw[List.getElem?_append_left (ao h3)];exact h3,h4⟩
 rw[List.getElem?_append_right (by omega)] at h1
 obtain⟨u,h3,h4⟩:=g.rep _ r j x h1 h2
 refine⟨u,?_,h4⟩
 have hm:es.length*k<=i*k:=Nat.mul_le_mul_right _ (by omega)
 rw[List.getElem?_append_right (by rw[h.len];omega),h.len]
 rw[Nat.sub_mul] at h3
 rw[<-h3]
 congr 1
 omega
theorem Flat.set {S:Nat->Prop} {w:World} {k:Nat} {es:List (List PV)} {xs:List Value} (h:Flat S w k es xs) (i:Nat) (hi:i < es.length) (ys:List PV) (vs:List Value) (hy:ys.length=k) (hv:vs.length=k) (h1:∀u∈vs,u.oneCell'=true) (hr:∀(j:Nat) y u,ys[j]?=some y->vs[j]?=some u->az S w y u):
  Flat S w k (es.set i ys) (setCells xs (i*k) vs):=by
 have hb:i*k+k<=xs.length:=by rw[h.len,<-Nat.succ_mul];exact Nat.mul_le_mul_right _ hi
 have hg:=fun j=>cx vs xs (i*k) j (by rw[hv];exact hb)
 refine⟨by rw[bH,List.length_set,h.len],fun r hr=>?_,fun u hu=>?_,fun a r j x ha hj=>?_⟩
 ·rcases List.mem_or_eq_of_mem_set hr with h' | h'
  ·exact h.row r h'
  rw[h'];exact hy
 ·obtain⟨j,hj⟩:=List.mem_iff_getElem?.1 hu
  rw[hg] at hj
  split at hj
  ·exact h1 u (List.mem_of_getElem? hj)
  exact h.one u (List.mem_of_getElem? hj)
 have nI:=ao hj
 rw[hg]
 by_cases C8:a=i
 ·subst C8
  rw[List.getElem?_set_self hi] at ha
  injection ha with ha
  subst ha
  rw[if_pos (by omega),show a*k+j - a*k=j by omega]
  have:j < vs.length:=by omega
  exact⟨_,List.getElem?_eq_getElem this,hr j x _ hj (List.getElem?_eq_getElem this)⟩
 rw[List.getElem?_set_ne (fun e=>C8 e.symm)] at ha
 have qJ:=h.row r (List.mem_of_getElem? ha)
 rw[if_neg]
 ·exact h.rep a r j x ha hj
 rintro⟨h2,h3⟩
 rcases Nat.lt_or_gt_of_ne C8 with h4 | h4
 ·have:=Nat.mul_le_mul_right k (Nat.succ_le_of_lt h4)
  rw[Nat.succ_mul] at this
  omega
 have:=Nat.mul_le_mul_right k (Nat.succ_le_of_lt h4)
 rw[Nat.succ_mul] at this
 omega
theorem Flat.zero (bb:Bool) (S:Nat->Prop) (w:World) {P:Program} {t:TypeId} {ti:TI} (h:ji P t ti) (hk:0 < ti.size) (n:Nat):Flat S w ti.size (List.replicate n (ti.zero.map (Jz bb))) ((Array.range (n*ti.size)).map (ti.zero.toArray[· % ti.zero.toArray.size]!)).toList:=by
 have hz:=h.C2
 obtain⟨_,_,_,_,_,_,_,fB⟩:=h.info
 have uH:∀j,j < n*ti.size->((Array.range (n*ti.size)).map (ti.zero.toArray[· % ti.zero.toArray.size]!)).toList[j]?=ti.zero[j % ti.size]?:=by
  intro j hj
  have hm:j % ti.size < ti.zero.length:=by rw[hz];exact Nat.mod_lt _ hk
  simp[hj,hz]
  rw[List.getElem?_eq_getElem hm]
  rfl
 refine⟨by simp,fun r hr=>by rw[List.eq_of_mem_replicate hr,List.length_map,hz],fun u hu=>?_,fun i r j x hi hj=>?_⟩
 ·obtain⟨j,hj⟩:=List.mem_iff_getElem?.1 hu
  have nI:=ao hj
  rw[uH j (by simpa using nI)] at hj
  exact fB u (List.mem_of_getElem? hj)
 have nu:i < n:=by have:=ao hi;simpa using this
 have hr:r=ti.zero.map (Jz bb):=List.eq_of_mem_replicate (List.mem_of_getElem? hi)
 subst hr
 have nI:j < ti.size:=by have:=ao hj;rw[List.length_map,hz] at this;exact this
 rw[List.getElem?_map] at hj
 obtain⟨v,hv,rfl⟩:=Option.map_eq_some_iff.1 hj
 have hb:i*ti.size+j < n*ti.size:=by
  have:=Nat.mul_le_mul_right ti.size (Nat.succ_le_of_lt nu)
  rw[Nat.succ_mul] at this
  omega
 refine⟨v,?_,Aw bb S w v⟩
 rw[uH _ hb,Nat.mul_comm,Nat.mul_add_mod,Nat.mod_eq_of_lt nI]
 exact hv
theorem aw.of_flat {P:Program} {S:Nat->Prop} {w:World} {e:TypeId} {i:TypeInfo} {es:List (List PV)} {v:Value} {xs:List Value} (hi:P.info? e=some i) (hk:0 < i.size) (ho:w.ownsRow 0 e i.size v es.length xs) (hf:Flat S w i.size es xs):aw P w (az S w) e es v:=
 ⟨i,xs,hi,hk,ho,hf.row,hf.one,hf.rep⟩
theorem aw.flat {P:Program} {S:Nat->Prop} {w:World} {e:TypeId} {i:TypeInfo} {es:List (List PV)} {v:Value} (hi:P.info? e=some i) (h:aw P w (az S w) e es v):∃xs,0 < i.size/\w.ownsRow 0 e i.size v es.length xs/\Flat S w i.size es xs:=by
 obtain⟨i',xs,h1,h2,h3,h4,h5,h6⟩:=h
 rw[hi] at h1
 injection h1 with h1
 subst h1
 exact⟨xs,h2,h3,⟨h3.1,h4,h5,h6⟩⟩
theorem az.flat {S:Nat->Prop} {w:World} {es:List (List PV)} {v:Value} {k:Nat} (hx:az S w (.sl es) v) (hk:∀r∈es,r.length=k):∃ad c xs,v=.slice ad es.length c/\Flat S w k es xs/\(es≠[]->∃b off,ad=some ⟨b,off,none⟩/\∀(j:Nat) u,xs[j]?=some u->w.cell? ⟨b,off+j,none⟩=some u):=by
 obtain⟨ad,c,hv,hle,bG⟩:=hx.jF
 by_cases he:es=[]
 ·subst he
  exact⟨ad,c,[],hv,⟨by simp,by simp,by simp,by simp⟩,fun h=>absurd rfl h⟩
 obtain⟨b,off,k',rfl,hb,yx,hcell⟩:=bG he
 have H4:k'=k:=by
  obtain⟨r,hr⟩:=List.exists_mem_of_ne_nil _ he
  rw[<-yx r hr,hk r hr]
 subst H4
 have key:∀q,q < es.length*k'->∃u,w.cell? ⟨b,off+q,none⟩=some u/\u.oneCell'=true:=by
  intro q hq
  have CR:0 < k':=Nat.pos_of_ne_zero fun h=>by rw[h] at hq;simp at hq
  have hi:q / k' < es.length:=(Nat.div_lt_iff_lt_mul CR).2 hq
  have hj:q % k' < k':=Nat.mod_lt _ CR
  have hr:=hk _ (List.getElem_mem hi)
  obtain⟨u,h1,h2,_⟩:=hcell (q / k') _ (q % k') _ (List.getElem?_eq_getElem hi) (List.getElem?_eq_getElem (by omega))
  refine⟨u,?_,h2⟩
  rw[<-h1]
  congr 2
  have:=Nat.div_add_mod q k'
  rw[Nat.mul_comm] at this
  omega
 refine⟨_,c,(List.range (es.length*k')).map fun q=>(w.cell? ⟨b,off+q,none⟩).getD undef,hv,⟨by simp,hk,fun u hu=>?_,fun i r j x h1 h2=>?_⟩,fun _=>⟨b,off,rfl,fun j u hj=>?_⟩⟩
 ·simp at hu
  obtain⟨q,hq,rfl⟩:=hu
  obtain⟨u,h1,h2⟩:=key q hq
  rw[h1]
  exact h2
 ·obtain⟨u,h3,h4,h5⟩:=hcell i r j x h1 h2
  refine⟨u,?_,h5⟩
  have L4:=ao h1
  have nI:=ao h2
  rw[hk r (List.mem_of_getElem? h1)] at nI
  have ri:i*k'+j < es.length*k':=by
   have:=Nat.mul_le_mul_right k' (Nat.succ_le_of_lt L4)
   rw[Nat.succ_mul] at this
   omega
  rw[List.getElem?_map,List.getElem?_range ri]
  simp only[Option.map_some]
  rw[<-Nat.add_assoc,h3]
  rfl
 have nI:=ao hj
 simp at nI
 rw[List.getElem?_map,List.getElem?_range nI] at hj
 obtain⟨u',h1,_⟩:=key j nI
 simp[h1] at hj
 rw[h1,hj]
def Src (S:Nat->Prop) (w:World) (es:List (List PV)) (v:Value):Prop:=
 ∀k,(∀r∈es,r.length=k)->∃ad c xs,v=.slice ad es.length c/\Flat S w k es xs/\(es≠[]->∃b off,ad=some ⟨b,off,none⟩/\∀(j:Nat) u,xs[j]?=some u->w.cell? ⟨b,off+j,none⟩=some u)
theorem aw.src {P:Program} {S:Nat->Prop} {w:World} {e:TypeId} {es:List (List PV)} {v:Value} (h:aw P w (az S w) e es v):Src S w es v:=by
 intro k hk
 obtain⟨i,xs,h1,h2,h3,h4,h5,h6⟩:=h
 by_cases he:es=[]
 ·subst he
  rcases h3.2 with⟨rfl,_⟩ | ⟨g,cap,cur,rfl,_⟩
  ·exact⟨none,0,[],rfl,⟨by simp,by simp,by simp,by simp⟩,fun h=>absurd rfl h⟩
  exact⟨_,cap,[],rfl,⟨by simp,by simp,by simp,by simp⟩,fun h=>absurd rfl h⟩
 have H4:k=i.size:=by
  obtain⟨r,hr⟩:=List.exists_mem_of_ne_nil _ he
  rw[<-hk r hr,h4 r hr]
 subst H4
 rcases h3.2 with⟨_,hn⟩ | ⟨g,cap,cur,hv,_⟩
 ·exact absurd (List.eq_nil_of_length_eq_zero hn) he
 refine⟨_,cap,xs,hv,⟨h3.1,h4,h5,h6⟩,fun _=>⟨g,0,rfl,fun j u hj=>?_⟩⟩
 have:=h3.cells (g:=g) (by rw[hv];rfl) j u hj
 rw[Addr.add_lit] at this
 exact this
theorem yy {A:bE} {V L S:Nat->Prop} {rho:Nat->Value} {s:AS} {a:Act} {w:World} (sim:bd A V L S rho s a w) {x:AV} {v:Value} (hx:aI S w A.C.P L rho s.h x v) {K:List (List PV)->Prop} (hq:dW s.h x K):∃es,K es/\Src S w es v:=by
 unfold dW at hq
 split at hq
 ·exact⟨_,hq,fun k hk=>hx.dE.flat hk⟩
 ·have:v=.slice none 0 0:=by cases hx;rfl
  exact⟨[],hq,fun k hk=>⟨none,0,[],this,⟨by simp,by simp,by simp,by simp⟩,fun h=>absurd rfl h⟩⟩
 ·rename_i id
  split at hq
  ·rename_i e es an
   obtain⟨hL,hv⟩:=hx.bF (by rw[an];trivial)
   have hh:=sim.hp id hL
   rw[an] at hh
   exact⟨es,hq,by rw[hv];exact aw.src hh⟩
  ·rename_i es an
   obtain⟨hL,hv⟩:=hx.bF (by rw[an];trivial)
   have hh:=sim.hp id hL
   rw[an] at hh
   exact⟨es,hq,by rw[hv];exact fun k hk=>az.flat hh hk⟩
  exact hq.elim
 exact hq.elim
theorem mC {P:Program} (w:World) (t ty e:TypeId) (i:TypeInfo) (z:Value) (ht:P.underlying t=some (.slice e)) (hi:P.info? e=some i) (hz:i.zero=some z) (MY:z.cells.size=i.size) (hsz:0 < i.size)
  (v:Value) (n:Nat) (xs:List Value) (hown:w.ownsRow 0 e i.size v n xs) (ad:Option Addr) (m c:Nat) (news:List Value) (hl:news.length=m*i.size)
  (hnews:m≠0->∃b off,ad=some ⟨b,off,none⟩/\∀(j:Nat) u,news[j]?=some u->w.cell? ⟨b,off+j,none⟩=some u) (h1:∀u∈news,u.oneCell'=true) (L5:n+m<=maxLen) (yz:(n+m)*i.bytes<=140737488355328):
  ∃v' w',(Builtin.append_ #[t,t] ty #[v,.slice ad m c]).run P w=.ok v' w'/\w'.ownsRow 0 e i.size v' (n+m) (xs++news)/\w.grownBy w' v.ownBlock/\(v'.ownBlock=v.ownBlock\/v'.ownBlock=some w.heap.size):=by
 by_cases hm:m=0
 ·subst hm
  have hn:news=[]:=List.eq_nil_of_length_eq_zero (by simpa using hl)
  subst hn
  refine⟨v,w,?_,by simpa using hown,⟨rfl,rfl,rfl,Nat.le_refl _,fun _ _ _=>rfl⟩,.inl rfl⟩
  have hf:(Builtin.firstCells i.size 0 (.slice ad 0 c)).run P w=.ok #[] w:=by cases ad <;> simp[Builtin.firstCells,loadCells,loadCellsFrom]
  rcases hown.2 with⟨rfl,rfl⟩ | ⟨g,cap,cur,rfl,_,_,JE,_⟩
  ·simp[Builtin.append_,run_underlying ht,sizeOf,typeInfo,hi,Builtin.lenOf,hf]
  simp[Builtin.append_,run_underlying ht,sizeOf,typeInfo,hi,Builtin.lenOf,JE,hf,storeCells]
 obtain⟨b,off,rfl,hc⟩:=hnews hm
 have uI:∀(j:Nat) u,news[j]?=some u->w.cell? ((⟨b,off,none⟩:Addr).add j)=some u:=fun j u hj=>by rw[Addr.add_lit];exact hc j u hj
 obtain⟨v',w',hr,h2,h3,_⟩:=run_append_own (P:=P) w 0 t ty e i z i.size i.bytes ht hi hz rfl rfl MY hsz v n xs hown ⟨b,off,none⟩ m c news hl uI h1 L5 yz (Nat.zero_le _)
 refine⟨v',w',hr,h2,h3,?_⟩
 have MZ:n+m<=9223372036854775807:=by simp only[maxLen] at L5;omega
 rcases hown.2 with⟨rfl,rfl⟩ | ⟨g,cap,cur,rfl,_,hg,JE,RE,je,O7⟩
 ·have mB:=run_append_nil (P:=P) w t ty e i z ht hi hz ⟨b,off,none⟩ m c news hl uI (by omega) (by omega) (by have hb:=yz;simp only[Nat.zero_add] at hb;omega)
  rw[hr] at mB
  injection mB with mB
  rw[mB]
  exact .inr rfl
 by_cases GN:n+m<=cap
 ·have M0:n*i.size+news.length<=cur.size:=by rw[hl,je,<-Nat.add_mul];exact Nat.mul_le_mul_right _ GN
  have mB:=run_append_room (P:=P) w t ty e i ht hi g n cap cur hg ⟨b,off,none⟩ m c news hl uI h1 GN M0
  rw[hr] at mB
  injection mB with mB
  rw[mB]
  exact .inl rfl
 have mB:=run_append_grow (P:=P) w t ty e i z ht hi hz ⟨g,0,none⟩ n cap xs hown.1 (hown.cells (g:=g) rfl) ⟨b,off,none⟩ m c news hl uI (by omega) (by omega) (growslice_fits (by omega) yz)
 rw[hr] at mB
 injection mB with mB
 rw[mB]
 exact .inr rfl
theorem cU {v:Value} {a:Option Addr} {n c:Nat} (h:v=.slice a n c):v.ownBlock=br v:=by
 subst h
 cases a <;> rfl
theorem cC {w:World} {base:Nat} {e:TypeId} {size:Nat} {v:Value} {n:Nat} {xs:List Value} (h:w.ownsRow base e size v n xs):∃a c,v=.slice a n c:=by
 rcases h.2 with⟨rfl,rfl⟩ | ⟨g,cap,cur,rfl,_⟩
 ·exact⟨none,0,rfl⟩
 exact⟨_,cap,rfl⟩
theorem lH {w:World} {es:List (List HX)} {v:Value} {e:TypeId} {k:Nat} {ws:List Value} (hown:w.ownsRow 0 e k v es.length ws) (hk:∀r∈es,r.length=k) {g:Nat} (hg:br v=some g) {a j:Nat} {u:Value}:
  b_ w es g a j u↔∃r e' mA,es[a]?=some r/\r[j]?=some (.row e' mA)/\ws[a*k+j]?=some u:=by
 rcases hown.2 with⟨hn,_⟩ | ⟨g',cap,cur,hv,_,wh,k1,k2,k3,k4⟩
 ·rw[hn] at hg;cases hg
 rw[hv] at hg
 obtain rfl:=fh.1 hg
 have O8:∀{r:List HX} {x:HX},es[a]?=some r->r[j]?=some x->r.length=k/\a*k+j < es.length*k:=fun {r x} h1 h2=>by
  have hr:=hk r (List.mem_of_getElem? h1)
  have h3:=ao h1
  have h4:=ao h2
  have:=Nat.mul_le_mul_right k (Nat.succ_le_of_lt h3)
  rw[Nat.succ_mul] at this
  exact⟨hr,by omega⟩
 constructor
 ·rintro⟨r,e',mA,c,ty,m,h1,h2,h3,h4⟩
  rw[wh] at h3
  injection h3 with h3
  injection h3 with h3
  subst h3
  obtain⟨b1,b2⟩:=O8 h1 h2
  refine⟨r,e',mA,h1,h2,?_⟩
  rw[<-k4,List.getElem?_take_of_lt b2]
  rw[b1] at h4
  simpa using h4
 rintro⟨r,e',mA,h1,h2,h3⟩
 obtain⟨b1,b2⟩:=O8 h1 h2
 refine⟨r,e',mA,cur,_,_,h1,h2,wh,?_⟩
 rw[<-k4,List.getElem?_take_of_lt b2] at h3
 rw[b1]
 simpa using h3
theorem bd.M1 {A:bE} {V L S:Nat->Prop} {rho:Nat->Value} {s:AS} {a:Act} {w:World} (sim:bd A V L S rho s a w) (hC:a8 A.C) {id d:Nat} (hY:L id) {e:TypeId} {xs:List (List HX)} (an:s.h id=.an e xs) {ys:List (List PV)} {ie:TypeInfo} (kh:A.C.P.info? e=some ie)
  (hdb:d < 100000) (hL:¬L d) (hb:s.h d=.an e (xs++ys.map oQ)) {news:List Value} (Dc:Flat S w ie.size ys news) {v':Value} {w':World} {ws:List Value} (hown:w.ownsRow 0 e ie.size (rho id) xs.length ws) (h2:w'.ownsRow 0 e ie.size v' (xs.length+ys.length) (ws++news)) (h3:w.grownBy w' (br (rho id))) (h4:br v'=br (rho id)\/br v'=some w.heap.size):
  bd A V (fun i=>L i\/i=d) S (aA rho d v') ⟨s.t,aA s.h id .none⟩ a w':=by
 have ba:(s.h id).live:=by rw[an];trivial
 have H5:id≠d:=fun e=>hL (e ▸ hY)
 have hh:=sim.hp id hY
 rw[an] at hh
 obtain⟨hR,hS⟩:=hh
 have M3:=hS.C9 hR
 obtain⟨i0,J_,k1,k2,k3,k4,k5,k6⟩:=M3
 rw[kh] at k1
 injection k1 with k1
 subst k1
 have MU:J_=ws:=by
  rcases k3.2 with⟨q1,q2⟩ | ⟨g,cap,cur,q1,_,q3,q4,q5,q6,q7⟩
  ·have a1:J_=[]:=List.eq_nil_of_length_eq_zero (by rw[k3.1,q2];simp)
   have a2:ws=[]:=List.eq_nil_of_length_eq_zero (by rw[hown.1,q2];simp)
   rw[a1,a2]
  rcases hown.2 with⟨r1,_⟩ | ⟨g',Qa,HU,r1,_,r3,r4,r5,r6,r7⟩
  ·rw[r1] at q1;cases q1
  rw[r1] at q1
  injection q1 with q1
  injection q1 with q1
  injection q1 with q1
  subst q1
  rw[q3] at r3
  injection r3 with r3
  injection r3 with r3
  subst r3
  rw[<-q7,<-r7]
 subst MU
 have H6:∀r∈ys.map oQ,r.length=ie.size:=fun r hr=>by
  obtain⟨q,hq,rfl⟩:=List.mem_map.1 hr
  rw[oQ,List.length_map]
  exact Dc.row q hq
 have AA:∀r∈xs++ys.map oQ,r.length=ie.size:=fun r hr=>(List.mem_append.1 hr).elim (k4 r) (H6 r)
 have GO:w'.ownsRow 0 e ie.size v' (xs++ys.map oQ).length (J_++news):=by rw[List.length_append,List.length_map];exact h2
 have Ka:J_.length=xs.length*ie.size:=k3.1
 have dF:∀g' k j u,br v'=some g'->b_ w' (xs++ys.map oQ) g' k j u->∃g,br (rho id)=some g/\b_ w xs g k j u:=fun g' k j u kg hc=>by
  obtain⟨r,e',mA,q1,q2,q3⟩:=(lH GO AA kg).1 hc
  by_cases hk:k < xs.length
  ·rw[List.getElem?_append_left hk] at q1
   have nI:=ao q2
   have qJ:=k4 r (List.mem_of_getElem? q1)
   have:=Nat.mul_le_mul_right ie.size (Nat.succ_le_of_lt hk)
   rw[Nat.succ_mul] at this
   rw[List.getElem?_append_left (by omega)] at q3
   obtain⟨g,u2,g1,g2,_⟩:=hR.wq q1 q2
   refine⟨g,g1,(lH k3 k4 g1).2 ⟨r,e',mA,q1,q2,q3⟩⟩
  rw[List.getElem?_append_right (by omega),List.getElem?_map] at q1
  obtain⟨q,_,rfl⟩:=Option.map_eq_some_iff.1 q1
  rw[oQ,List.getElem?_map] at q2
  obtain⟨z,_,hz⟩:=Option.map_eq_some_iff.1 q2
  cases hz
 have H7:∀g k j u b,br (rho id)=some g->b_ w xs g k j u->br u=some b->hasB w (s.h id) (rho id) b:=fun g k j u b h1 h5 h6=>by rw[an];exact .inr (.inr ⟨_,_,_,_,_,_,rfl,h1,h5,h6⟩)
 have T0:g_ S S w w L L rho rho s.h (aA s.h id .none):=⟨fun _ h=>h,fun _ _=>rfl,fun j hj=>⟨by
   rcases aF s.h id .none j with⟨rfl,h⟩ | ⟨_,h⟩
   ·rw[h] at hj;exact hj.elim
   ·rw[h] at hj;exact hj,fun h=>⟨h,rfl⟩⟩,fun j e' hj=>by
   rcases aF s.h id .none j with⟨rfl,h⟩ | ⟨_,h⟩
   ·rw[h] at hj;cases hj
   rw[h] at hj;exact hj⟩
 have GP:∀k,k < w.heap.size->br (rho id)≠some k->w'.heap[k]?=w.heap[k]?:=fun k hk hn=>h3.block k hk fun e=>hn e.symm
 refine (sim.kill id).kG hC d (.an e (xs++ys.map oQ)) hdb hL (by show aA s.h id .none d=_;rw[aE _ _ H5.symm];exact hb) w' h3.os h3.tape h3.output h3.size (fun k=>hasB w (s.h id) (rho id) k) (fun k hk hn=>GP k hk fun h=>hn (.inl h)) (fun k hk=>?_) v' (fun g hg=>?_) (fun T=>?_)
 ·obtain⟨q1,q2,q3⟩:=sim.lv id k hY ba hk
  refine⟨q2,fun i hi li dk=>?_,q3⟩
  have jf:(aA s.h id .none i).live:=li
  rcases aF s.h id .none i with⟨rfl,h⟩ | ⟨bG,h⟩
  ·rw[h] at jf;exact jf.elim
  rw[h] at jf;exact bG (sim.dj i id k hi hY jf ba (cT bG dk) hk)
 ·rcases hg with hg | ⟨cs,g',h,_⟩ | ⟨e',bW,g',k',j,u,q1,q2,q3,q4⟩
  ·obtain⟨a1,c1,yA⟩:=cC h2
   refine⟨(h2.lt g (by rw[cU yA];exact hg)).2,?_⟩
   rcases h4 with h | h
   ·exact .inr (.inl (h ▸ hg))
   rw[h] at hg
   injection hg with hg
   exact .inl (by omega)
  ·cases h
  injection q1 with q1 Qb
  subst q1 Qb
  obtain⟨g0,g1,g2⟩:=dF _ _ _ _ q2 q3
  have BJ:=H7 _ _ _ _ _ g1 g2 q4
  exact⟨Nat.lt_of_lt_of_le (sim.lv id g hY ba BJ).1 h3.size,.inr BJ⟩
 show aw _ _ _ _ _ (aA rho d v' d)/\oR _ _ (aA rho d v' d)
 rw[ar]
 refine⟨⟨ie,J_++news,kh,k2,GO,AA,fun u hu=>(List.mem_append.1 hu).elim (k5 u) (Dc.one u),fun p r j x hp hj=>?_⟩,fun g k j u b hg hc jG=>?_,fun g k j k' j' u u' b hg hc JG H8 ri=>?_⟩
 ·by_cases hk:p < xs.length
  ·rw[List.getElem?_append_left hk] at hp
   obtain⟨u,hu,sW,M4⟩:=k6 p r j x hp hj
   refine⟨u,by rw[List.getElem?_append_left (ao hu)];exact hu,?_⟩
   cases x with
   | av x=>exact aI.bP T (aI.bP T0 sW)
   | row e' mA=>
    refine aw.bP (show aw _ _ _ _ _ _ from sW) (fun b jG=>GP b ?_ fun h=>M4 _ _ rfl b b h jG rfl) (fun x u hu=>hu.mono T.hS T.keep)
    obtain⟨g,u2,g1,g2,_⟩:=hR.wq hp hj
    have:u2=u:=by
     obtain⟨r',_,_,q1,q2,q3⟩:=(lH k3 k4 g1).1 g2
     rw[hu] at q3
     injection q3 with q3
     exact q3.symm
    subst this
    exact (sim.lv id b hY ba (H7 _ _ _ _ _ g1 g2 jG)).1
  rw[List.getElem?_append_right (by omega),List.getElem?_map] at hp
  obtain⟨q,hq,rfl⟩:=Option.map_eq_some_iff.1 hp
  rw[oQ,List.getElem?_map] at hj
  obtain⟨z,hz,rfl⟩:=Option.map_eq_some_iff.1 hj
  obtain⟨u,hu,sW⟩:=Dc.rep _ _ _ _ hq hz
  refine⟨u,?_,uA (sW.mono T.hS T.keep)⟩
  have hm:xs.length*ie.size<=p*ie.size:=Nat.mul_le_mul_right _ (by omega)
  rw[List.getElem?_append_right (by rw[Ka];omega),Ka]
  rw[Nat.sub_mul] at hu
  rw[<-hu]
  congr 1
  omega
 ·obtain⟨g0,g1,g2⟩:=dF _ _ _ _ hg hc
  rcases h4 with h | h
  ·rw[h,g1] at hg
   injection hg with hg
   subst hg
   exact hS.top _ _ _ _ _ g1 g2 jG
  rw[h] at hg
  injection hg with hg
  have:=(sim.lv id b hY ba (H7 _ _ _ _ _ g1 g2 jG)).1
  omega
 obtain⟨g0,g1,g2⟩:=dF _ _ _ _ hg hc
 obtain⟨RF,L6,Qc⟩:=dF _ _ _ _ hg JG
 rw[g1] at L6
 injection L6 with L6
 subst L6
 exact hS.dis _ _ _ _ _ _ _ _ g1 g2 Qc H8 ri
theorem BK {A:bE} {o:Oper} (c:Call) (ax:o.op=.call c) (hc:c.callee=.builtin .append):eX A o:=by
 intro V L S rho s a w K next Q hC sim hV hd hq hn hnext
 obtain⟨callee,args,argTypes⟩:=c
 simp only at hc
 subst hc
 simp only[aY,ax,cM,dm] at hq
 split at hq
 ·rename_i x y t t' hargs Db
  have hx:=aM sim x fun j hj=>hV j (by simp[ax,Op.operands,Call.operands,hj];rw[<-hj];exact Array.mem_toList_iff.1 (by rw[hargs];simp))
  have hy:=aM sim y fun j hj=>hV j (by simp[ax,Op.operands,Call.operands,hj];rw[<-hj];exact Array.mem_toList_iff.1 (by rw[hargs];simp))
  have e1:args=#[x,y]:=by rw[<-Array.toArray_toList (xs:=args),hargs]
  have e2:argTypes=#[t,t']:=by rw[<-Array.toArray_toList (xs:=argTypes),Db]
  subst e1 e2
  split at hq
  ·rename_i e size bytes zero eq M5 hT
   have M5:=eF M5
   subst M5
   have dv:=(hC.eK t _ hT).under
   simp only at dv
   split at hq
   ·rename_i te oV
    obtain⟨ie,ze,kh,sY,GQ,Fs,Ft,fB⟩:=(hC.eK e te oV).info
    have L7:=(hC.eK e te oV).C2
    split at hq
    ·rename_i hpos
     have hpos:0 < ie.size:=by rw[sY];exact Nat.le_of_ble_eq_true hpos
     obtain⟨ys,hq,Kb⟩:=yy sim hy hq
     have main:∀(xs:List (List PV)) (v:Value) (ws:List Value) (s2:AS),a.eval x=v->w.ownsRow 0 e ie.size v xs.length ws->Flat S w ie.size xs ws->(∀r∈ys,r.length=te.size)->(xs.length+ys.length)*te.bytes<=140737488355328->xs.length+ys.length<=140737488355328 ->
       bd A V L S rho s2 a w->(∀g,br v=some g->¬S g/\(∀i,L i->(s2.h i).live->¬hasB w (s2.h i) (rho i) g)/\(A.mv g\/A.w0.heap.size<=g))->¬L (o.dst.getD 0)->s2.h (o.dst.getD 0)=.row e (xs++ys)->
       ∃v' w' rho',(execOp a.eval o).run A.C.P w=.ok (.value v') w'/\bd A V (fun i=>L i\/i=o.dst.getD 0) S rho' s2 a w'/\v'=rho' (o.dst.getD 0):=by
      intro xs v ws s2 hv hown pZ hlen H8 ri aP hR hL hb
      obtain⟨ad,c',news,M6,Dc,hcell⟩:=Kb ie.size (fun r hr=>by rw[hlen r hr,sY])
      obtain⟨v',w',hr,h2,h3,h4⟩:=mC (P:=A.C.P) w t o.type e ie ze dv kh Fs (by rw[Ft];simp[L7,sY]) hpos v xs.length ws hown ad ys.length c' news Dc.len
       (fun h0=>hcell (fun e=>h0 (by rw[e];rfl))) Dc.one (by simp only[maxLen];omega) (by rw[GQ];exact H8)
      obtain⟨a0,c0,Kc⟩:=cC hown
      obtain⟨a1,c1,yA⟩:=cC h2
      rw[cU Kc] at h3 h4
      rw[cU yA] at h4
      refine⟨v',w',aA rho (o.dst.getD 0) v',by simp[execOp,ax,resolve,invoke,builtin,hv,M6,hr],?_,(ar _ _ _).symm⟩
      refine aP.new hC (o.dst.getD 0) _ (aP.kj hd) hL hb w' h3.os h3.tape h3.output h3.size (fun k=>br v=some k) (fun k hk Kd=>h3.block k hk (fun e=>Kd e.symm)) (fun k hk=>hR k hk) v' (fun g hg=>?_) (fun T=>?_)
      ·refine⟨(h2.lt g (by rw[cU yA];exact hg)).2,?_⟩
       rcases h4 with h | h
       ·exact .inr (h ▸ hg)
       rw[h] at hg
       injection hg with hg
       exact .inl (by omega)
      show aw A.C.P w' (az S w') e (xs++ys) (aA rho (o.dst.getD 0) v' (o.dst.getD 0))
      rw[ar]
      exact aw.of_flat kh hpos (by rw[List.length_append];exact h2) ((pZ.app Dc).mono T.hS T.keep)
     split at hq
     ·rename_i HW
      rw[HW] at hx
      have hv:a.eval x=.slice none 0 0:=by cases h:a.eval x <;> rw[h] at hx <;> cases hx;rfl
      obtain⟨⟨h1,h2,h3⟩,hq⟩:=hq
      obtain⟨hL,hb⟩:=hn _ _ _ hq
      obtain⟨v',w',rho',hr,aP,wv⟩:=main [] _ [] s hv ⟨by simp,.inl ⟨rfl,rfl⟩⟩ ⟨by simp,by simp,by simp,by simp⟩ h1 (by simpa using h2) (by simpa using h3) sim (fun g hg=>by simp[br] at hg) hL (by simpa using hb)
      exact cq hr (hnext _ _ _ S rho' _ _ hq (aP.value o.dst hd _ _ (.ow _ _ fun _=>⟨.inr rfl,wv⟩)))
     ·rename_i id HW
      rw[HW] at hx
      split at hq
      ·rename_i e' xs an
       split at hq
       ·rename_i qy
        have qy:=eF qy
        subst qy
        obtain⟨⟨h1,h2,h3⟩,hq⟩:=hq
        obtain⟨hL,hb⟩:=hn _ _ _ hq
        obtain⟨hY,hv⟩:=hx.bF (by rw[an];trivial)
        have hh:=sim.hp id hY
        rw[an] at hh
        obtain⟨ws,_,hown,pZ⟩:=aw.flat kh hh
        have H5:id≠o.dst.getD 0:=fun e=>hL (e ▸ hY)
        have ba:(s.h id).live:=by rw[an];trivial
        obtain⟨v',w',rho',hr,aP,wv⟩:=main xs _ ws ⟨s.t,aA s.h id .none⟩ hv hown pZ h1 h2 h3 (sim.kill id) (fun g hg=>by
          obtain⟨k1,k2,k3⟩:=sim.kE id g hY ba hg
          refine⟨k2,fun i hi li dk=>?_,k3⟩
          have jf:(aA s.h id .none i).live:=li
          rcases aF s.h id .none i with⟨rfl,h⟩ | ⟨bG,h⟩
          ·rw[h] at jf;exact jf.elim
          rw[h] at jf;exact bG (sim.dj i id g hi hY jf ba (cT bG dk) (.inl hg))) hL (by show aA s.h id .none (o.dst.getD 0)=_;rw[aE _ _ H5.symm];exact hb)
        exact cq hr (hnext _ _ _ S rho' _ _ hq (aP.value o.dst hd _ _ (.ow _ _ fun _=>⟨.inr rfl,wv⟩)))
       exact hq.elim
      ·rename_i e' xs an
       split at hq
       ·rename_i qy
        have qy:=eF qy
        subst qy
        obtain⟨⟨h1,h2,h3⟩,hq⟩:=hq
        obtain⟨hL,hb⟩:=hn _ _ _ hq
        obtain⟨hY,hv⟩:=hx.bF (by rw[an];trivial)
        have hh:=sim.hp id hY
        rw[an] at hh
        obtain⟨⟨i0,ws,JH,_,hown,_⟩,_⟩:=hh
        rw[kh] at JH
        injection JH with JH
        subst JH
        obtain⟨ad,c',news,M6,Dc,hcell⟩:=Kb ie.size (fun r hr=>by rw[h1 r hr,sY])
        obtain⟨v',w',hr,q2,q3,q4⟩:=mC (P:=A.C.P) w t o.type e' ie ze dv kh Fs (by rw[Ft];simp[L7,sY]) hpos (rho id) xs.length ws hown ad ys.length c' news Dc.len
         (fun h0=>hcell (fun e=>h0 (by rw[e];rfl))) Dc.one (by simp only[maxLen];omega) (by rw[GQ];exact h2)
        obtain⟨a0,c0,Kc⟩:=cC hown
        obtain⟨a1,c1,yA⟩:=cC q2
        rw[cU Kc] at q3 q4
        rw[cU yA] at q4
        have aP:=sim.M1 hC hY an kh (sim.kj hd) hL hb Dc hown q2 q3 q4
        exact cq (by simp[execOp,ax,resolve,invoke,builtin,hv,M6,hr]) (hnext _ _ _ S _ _ _ hq (aP.value o.dst hd _ _ (.ow _ _ fun _=>⟨.inr rfl,(ar _ _ _).symm⟩)))
       exact hq.elim
      exact hq.elim
     exact hq.elim
    exact hq.elim
   exact hq.elim
  exact hq.elim
 exact hq.elim
theorem uJ {A:bE} {o:Oper} (t:TypeId) (x y:Operand) (ax:o.op=.makeSlice t x y):eX A o:=by
 intro V L S rho s a w K next Q hC sim hV hd hq hn hnext
 simp only[aY,ax] at hq
 have hx:=aM sim x fun j hj=>hV j (by simp[ax,Op.operands,hj])
 have hy:=aM sim y fun j hj=>hV j (by simp[ax,Op.operands,hj])
 split at hq
 ·rename_i e size bytes zero eq k n k' c hT h1 h2
  have dv:=(hC.eK t _ hT).under
  simp only at dv
  rw[h1] at hx;rw[h2] at hy
  split at hq
  ·rename_i te oV
   obtain⟨ie,ze,kh,sY,GQ,Fs,Ft,fB⟩:=(hC.eK e te oV).info
   have L7:=(hC.eK e te oV).C2
   split at hq
   ·rename_i hpos
    have hpos:0 < te.size:=Nat.le_of_ble_eq_true hpos
    obtain⟨⟨h0,JE,hb,L5⟩,hq⟩:=hq
    obtain⟨hL,hdb⟩:=hn _ _ _ hq
    have hr:=run_make (P:=A.C.P) w t e ie ze dv kh Fs k k' n c h0 JE (by rw[GQ,Int.mul_comm];omega) L5
    have pZ:=Flat.zero (A.C.bn t) S (w.alloc (.cells (madeCells ze.cells (c.toNat*ie.size)) e)) (hC.eK e te oV) hpos n.toNat
    have key:∀(W:World) es xs,Flat S W te.size es xs->Flat S W ie.size es xs:=fun W es xs h=>by rw[sY];exact h
    have hle:n.toNat*te.size<=c.toNat*te.size:=Nat.mul_le_mul_right _ (by omega)
    have Qd:((Array.range (n.toNat*te.size)).map (te.zero.toArray[· % te.zero.toArray.size]!)).toList=(madeCells ze.cells (c.toNat*ie.size)).toList.take (n.toNat*te.size):=by
     apply List.ext_getElem?
     intro j
     rw[List.getElem?_take]
     split
     ·rename_i hj
      simp[madeCells,Ft,sY,hj,Nat.lt_of_lt_of_le hj hle]
     rename_i hj
     rw[List.getElem?_eq_none (by simpa using hj)]
    have aP:=sim.new hC (o.dst.getD 0) _ (sim.kj hd) hL hdb (w.alloc (.cells (madeCells ze.cells (c.toNat*ie.size)) e)) rfl rfl rfl (by simp) (fun _=>False) (fun k hk _=>Below.heap_alloc _ _ _ hk) (fun _ h=>h.elim) (.slice (some ⟨w.heap.size,0,none⟩) n.toNat c.toNat)
     (fun g hg=>by simp[br] at hg;subst hg;simp) (fun T=>by
      show aw A.C.P _ _ e _ (aA rho (o.dst.getD 0) _ (o.dst.getD 0))
      rw[ar]
      refine aw.of_flat kh (by omega) ?_ (key _ _ _ pZ)
      rw[Qd,<-sY]
      refine⟨by rw[List.length_take,List.length_replicate,Array.length_toList,size_madeCells,sY];omega,.inr ⟨w.heap.size,c.toNat,_,by simp,Nat.zero_le _,heap_alloc_new w _,by simp;omega,by simp only[maxLen];omega,size_madeCells _ _,by simp⟩⟩)
    exact cq (by simp only[execOp,ax,hx.aZ,hy.aZ,Sem.run_bind,hr,Result.andThen_ok,Sem.run_pure]) (hnext _ _ _ S _ _ _ hq (aP.value o.dst hd _ _ (.ow _ _ fun _=>⟨.inr rfl,(ar _ _ _).symm⟩)))
   exact hq.elim
  exact hq.elim
 exact hq.elim
end Go.AM
namespace Go.AM
open Go.RowKit
theorem Dd (off:Nat):∀(vs:List Value) (k:Nat) (cs:Array Value),(vs.zipIdx k).foldl (fun (cs:Array Value) (x:Value×Nat)=>cs.setIfInBounds (off+x.2) x.1) cs=(setCells cs.toList (off+k) vs).toArray:=by
 intro vs
 induction vs with
 | nil=>intro k cs;simp[setCells]
 | cons v vs ih=>
  intro k cs
  simp only[List.zipIdx_cons,List.foldl_cons]
  rw[ih]
  simp[setCells,Nat.add_assoc]
theorem oX (place:Nat->Option (Nat×Nat)) (cells:Array Value) (i:Nat) (v:Value) (rest:List (Nat×Value)) (off size:Nat) (hp:place i=some (off,size)) (hs:v.cells.size=size) (hl:off+size<=cells.size):
  Instr.fill place cells ((i,v)::rest)=Instr.fill place (setCells cells.toList off v.cells.toList).toArray rest:=by
 rw[Instr.fill,hp]
 simp only
 rw[if_neg (by simp[hs];omega)]
 congr 1
 have:=Dd off v.cells.toList 0 cells
 rw[Nat.add_zero] at this
 rw[<-this,<-Array.foldl_toList,Array.toList_zipIdx]
structure fW (S:Nat->Prop) (w:World) (cs:List PV) (vs:List Value):Prop where
 len:vs.length=cs.length
 one:∀u∈vs,u.oneCell'=true
 rep:∀(j:Nat) x u,cs[j]?=some x->vs[j]?=some u->az S w x u
theorem fW.mono {S S':Nat->Prop} {w:World} {cs:List PV} {vs:List Value} (h:fW S w cs vs) (hS:∀b,S b->S' b):fW S' w cs vs:=
 ⟨h.len,h.one,fun j x u h1 h2=>(h.rep j x u h1 h2).mono hS (fun _ _=>rfl)⟩
theorem fW.set {S:Nat->Prop} {w:World} {cs ys:List PV} {vs us:List Value} (h:fW S w cs vs) (g:fW S w ys us) (off:Nat) (hl:off+ys.length<=cs.length):fW S w (setCells cs off ys) (setCells vs off us):=by
 have e1:=fun j=>cx ys cs off j hl
 have e2:=fun j=>cx us vs off j (by rw[g.len,h.len];exact hl)
 refine⟨by rw[bH,bH,h.len],fun u hu=>?_,fun j x u hj hu=>?_⟩
 ·obtain⟨j,hj⟩:=List.mem_iff_getElem?.1 hu
  rw[e2] at hj
  split at hj
  ·exact g.one u (List.mem_of_getElem? hj)
  exact h.one u (List.mem_of_getElem? hj)
 rw[e1] at hj
 rw[e2,g.len] at hu
 split at hj
 ·rename_i nu
  rw[if_pos nu] at hu
  exact g.rep _ x u hj hu
 rename_i nu
 rw[if_neg nu] at hu
 exact h.rep _ x u hj hu
theorem tJ {S:Nat->Prop} {w:World} {x:PV} {ys:List PV} {v:Value} (h:mQ x=some ys) (hx:az S w x v):fW S w ys v.cells.toList:=by
 obtain⟨h1,h2,h3⟩:=pX h hx
 exact⟨by simpa using h1,h2,fun j y u hj hu=>h3 j y u hj (by simpa using hu)⟩
theorem BL {A:bE} (hC:a8 A.C) {V L:Nat->Prop} {rho:Nat->Value} {t:Nat->AV} {a:Act} {w:World} {h:Nat->AB} {fs:List (Nat×Nat×Bool)} (place:Nat->Option (Nat×Nat)) (hp:∀(i:Nat) f,fs[i]?=some f->place i=some (f.1,f.2.1)):
  ∀(ps:List (Nat×Operand)) (h':Nat->AB) (S:Nat->Prop) (cs:List PV) (vs:List Value) (K:List PV->List (Nat×AB)->Prop),(∀p∈ps,∀j,p.2=.tmp j->V j)->bd A V L S rho ⟨t,h'⟩ a w->kv h h'->fW S w cs vs->fM h fs (ev t) ps cs K ->
  ∃iH fz S' iI,K iH fz/\bd A V L S' rho ⟨t,app h' fz⟩ a w/\kv h (app h' fz)/\fW S' w iH iI/\Instr.fill place vs.toArray (ps.map fun p=>(p.1,a.eval p.2))=some iI.toArray/\(∀p∈fz,L p.1):=by
 intro ps
 induction ps with
 | nil=>intro h' S cs vs K _ sim hF hc hq;exact⟨cs,[],S,vs,hq,sim,hF,hc,rfl,by simp⟩
 | cons p ps ih=>
  intro h' S cs vs K hV sim hF hc hq
  obtain⟨i,x⟩:=p
  unfold fM at hq
  split at hq
  ·rename_i off size ag Fj
   have hx:=aM sim x fun j hj=>hV (i,x) (by simp) j hj
   obtain⟨y,fz,S2,hq,aP,hrep,uF,CQ,wB⟩:=eM hC sim hF hx hq
   split at hq
   ·rename_i ys HY
    split at hq
    ·rename_i ga
     simp only[Bool.and_eq_true] at ga
     have e1:=eF ga.1
     have e2:=gv ga.2
     have hok:=tJ HY hrep
     obtain⟨iH,iL,S',iI,k1,k2,k3,k4,k5,k9⟩:=ih (app h' fz) S2 _ _ _ (fun p hp=>hV p (by simp[hp])) aP CQ ((hc.mono uF).set hok off (by omega)) hq
     refine⟨iH,fz++iL,S',iI,k1,by rw[bq];exact k2,by rw[bq];exact k3,k4,?_,fun p hp=>(List.mem_append.1 hp).elim (wB p) (k9 p)⟩
     rw[List.map_cons,oX place _ i _ _ off size (hp i _ Fj) (by simpa [e1] using hok.len) (by simp[hc.len];omega)]
     exact k5
    exact hq.elim
   exact hq.elim
  exact hq.elim
theorem De {P:Program} {t:TypeId} {fs:List (Nat×Nat×Bool)} {size bytes:Nat} {zero:List Value} {eq:Bool} (dv:ji P t ⟨.st fs,size,bytes,zero,eq⟩) {l:List (Nat×Value)} {iI:Array Value}
  (k5:Instr.fill (fun i=>(fs[i]?).map fun f=>(f.1,f.2.1)) zero.toArray l=some iI):P.built t l=some iI:=by
 obtain⟨info,z,hi,hsz,Qe,hz,dq,fB⟩:=dv.info
 obtain⟨gs,oU,hl,hf⟩:=dv.under
 simp only at dq
 have uK:gs.toList.mapM (fun f=>(P.info? f.type).map fun i=>(f.offset,i.size))=some (fs.map fun f=>(f.1,f.2.1)):=by
  have gen:∀(gl:List Field) (fl:List (Nat×Nat×Bool)),fl.length=gl.length->(∀(i:Nat) f g,fl[i]?=some f->gl[i]?=some g->f.1=g.offset/\(∃i2,P.info? g.type=some i2/\i2.size=f.2.1))->gl.mapM (fun f=>(P.info? f.type).map fun i=>(f.offset,i.size))=some (fl.map fun f=>(f.1,f.2.1)):=by
   intro gl
   induction gl with
   | nil=>intro fl h1 _;have:fl=[]:=List.eq_nil_of_length_eq_zero h1;subst this;rfl
   | cons g gl ih=>
    intro fl h1 h2
    cases fl with
    | nil=>simp at h1
    | cons f fl=>
     obtain⟨e1,i2,e2,e3⟩:=h2 0 f g rfl rfl
     have:=ih fl (by simpa using h1) (fun i f g h3 h4=>h2 (i+1) f g (by simpa using h3) (by simpa using h4))
     rw[List.mapM_cons,e2,this]
     simp[e1,e3]
  exact gen gs.toList fs (by simpa using hl) (fun i f g h3 h4=>by
   obtain⟨e1,_,e2,_⟩:=hf i f g h3 (by simpa using h4)
   exact⟨e1,e2⟩)
 unfold Program.built
 rw[hi,oU]
 simp only[hz,uK,dq]
 rw[<-k5]
 congr 1
 funext i
 simp
theorem BM {A:bE} {V L S:Nat->Prop} {rho:Nat->Value} {s:AS} {a:Act} {w:World} (sim:bd A V L S rho s a w) {fs:List (Nat×Nat×Bool)} (place:Nat->Option (Nat×Nat)) (hp:∀(i:Nat) f,fs[i]?=some f->place i=some (f.1,f.2.1)):
  ∀(ps:List (Nat×Operand)) (cs:List AV) (vs:List Value) (K:List AV->Prop),(∀p∈ps,∀j,p.2=.tmp j->V j)->cs.length=vs.length->(∀u∈vs,u.oneCell'=true)->(∀(i:Nat) c u,cs[i]?=some c->vs[i]?=some u->aI S w A.C.P L rho s.h c u)->gD s.h fs (ev s.t) ps cs K ->
  ∃(iH:List AV) (iI:List Value),K iH/\iH.length=iI.length/\(∀u∈iI,u.oneCell'=true)/\(∀(i:Nat) c u,iH[i]?=some c->iI[i]?=some u->aI S w A.C.P L rho s.h c u)/\Instr.fill place vs.toArray (ps.map fun p=>(p.1,a.eval p.2))=some iI.toArray:=by
 intro ps
 induction ps with
 | nil=>intro cs vs K _ hl h1 hc hq;exact⟨cs,vs,hq,hl,h1,hc,rfl⟩
 | cons p ps ih=>
  intro cs vs K hV hl h1 hc hq
  obtain⟨i,x⟩:=p
  unfold gD at hq
  split at hq
  ·rename_i off size ag Fj
   split at hq
   ·rename_i ga
    simp only[Bool.and_eq_true] at ga
    obtain⟨⟨e1,e2⟩,e3⟩:=ga
    have e1:=eF e1
    have e2:=gv e2
    have hx:=aM sim x fun j hj=>hV (i,x) (by simp) j hj
    have o1:=lG sim e3 hx
    have hcl:=cells_one o1
    have hlen:off < vs.length:=by omega
    obtain⟨iH,iI,k1,k2,k3,k4,k5⟩:=ih (cs.set off (ev s.t x)) (vs.set off (a.eval x)) K (fun p hp=>hV p (by simp[hp])) (by simp[hl]) (fun u hu=>by
      rcases List.mem_or_eq_of_mem_set hu with h | h
      ·exact h1 u h
      ·rw[h];exact o1) (fun j c u hj hu=>by
      by_cases e:j=off
      ·subst e
       rw[List.getElem?_set_self (by omega)] at hj hu
       injection hj with hj
       injection hu with hu
       subst hj hu
       exact hx
      rw[List.getElem?_set_ne (fun e'=>e e'.symm)] at hj hu
      exact hc j c u hj hu) hq
    refine⟨iH,iI,k1,k2,k3,k4,?_⟩
    rw[List.map_cons,oX place _ i _ _ off size (hp i _ Fj) (by rw[hcl,e1];rfl) (by simp;omega),hcl]
    exact k5
   exact hq.elim
  exact hq.elim
theorem Df {A:bE} {o:Oper} (t:TypeId) (ps:Array (Nat×Operand)) (ax:o.op=.build t ps):eX A o:=by
 intro V L S rho s a w K next Q hC sim hV hd hq _ hnext
 simp only[aY,ax] at hq
 split at hq
 ·rename_i fs size bytes zero eq hT
  have dv:=(hC.eK t _ hT).under
  obtain⟨info,z,hi,hsz,Qe,hz,dq,fB⟩:=(hC.eK t _ hT).info
  obtain⟨gs,oU,hl,hf⟩:=dv
  simp only at dq fB
  have nv:∀(i:Nat) f,fs[i]?=some f->(fun i=>(fs[i]?).map fun f=>(f.1,f.2.1)) i=some (f.1,f.2.1):=fun i f h=>by simp[h]
  split at hq
  case h_2=>
   obtain⟨iH,iI,k1,k2,k3,k4,k5⟩:=BM sim (fun i=>(fs[i]?).map fun f=>(f.1,f.2.1)) nv ps.toList (zero.map Bz) zero (fun cs=>K (.st cs) [] none)
    (fun p hp j hj=>hV j (by simp[ax,Op.operands];exact⟨p.1,by rw[<-hj];exact Array.mem_toList_iff.1 hp⟩)) (by simp) fB (fun j x u hj hu=>by
     rw[List.getElem?_map,hu] at hj
     simp at hj
     rw[<-hj]
     exact q_ _ _ _ _ _ _ u) hq
   have yB:=De (hC.eK t _ hT) k5
   exact ay sim hd hnext k1 (.st _ iI.toArray (by simpa using k2) (by simpa using k3) (fun i c u h1 h2=>k4 i c u h1 (by simpa using h2))) (by
    have hr:=run_build (P:=A.C.P) w t (ps.map fun p=>(p.1,a.eval p.2)) iI.toArray (by simpa using yB)
    simp only[execOp,ax,Sem.run_bind]
    rw[hr]
    simp)
  obtain⟨iH,fz,S',iI,k1,k2,k3,k4,k5,_⟩:=BL hC (fun i=>(fs[i]?).map fun f=>(f.1,f.2.1)) nv ps.toList s.h S (zero.map (Jz (A.C.bn t))) zero (fun cs fz=>K (.p (.ag cs)) fz none)
   (fun p hp j hj=>hV j (by simp[ax,Op.operands];exact⟨p.1,by rw[<-hj];exact Array.mem_toList_iff.1 hp⟩)) sim (kv.refl _) ⟨by simp,fB,fun j x u hj hu=>by
    rw[List.getElem?_map,hu] at hj
    simp at hj
    rw[<-hj]
    exact Aw _ _ _ u⟩ hq
  have uK:gs.toList.mapM (fun f=>(A.C.P.info? f.type).map fun i=>(f.offset,i.size))=some (fs.map fun f=>(f.1,f.2.1)):=by
   have gen:∀(gl:List Field) (fl:List (Nat×Nat×Bool)),fl.length=gl.length->(∀(i:Nat) f g,fl[i]?=some f->gl[i]?=some g->f.1=g.offset/\(∃i2,A.C.P.info? g.type=some i2/\i2.size=f.2.1))->gl.mapM (fun f=>(A.C.P.info? f.type).map fun i=>(f.offset,i.size))=some (fl.map fun f=>(f.1,f.2.1)):=by
    intro gl
    induction gl with
    | nil=>intro fl h1 _;have:fl=[]:=List.eq_nil_of_length_eq_zero h1;subst this;rfl
    | cons g gl ih=>
     intro fl h1 h2
     cases fl with
     | nil=>simp at h1
     | cons f fl=>
      obtain⟨e1,i2,e2,e3⟩:=h2 0 f g rfl rfl
      have:=ih fl (by simpa using h1) (fun i f g h3 h4=>h2 (i+1) f g (by simpa using h3) (by simpa using h4))
      rw[List.mapM_cons,e2,this]
      simp[e1,e3]
   exact gen gs.toList fs (by simpa using hl) (fun i f g h3 h4=>by
    obtain⟨e1,_,e2,_⟩:=hf i f g h3 (by simpa using h4)
    exact⟨e1,e2⟩)
  have yB:A.C.P.built t (ps.toList.map fun p=>(p.1,a.eval p.2))=some iI.toArray:=by
   unfold Program.built
   rw[hi,oU]
   simp only[hz,uK,dq]
   rw[<-k5]
   congr 1
   funext i
   simp
  refine tI (s:=s) k2 hd hnext k1 (v:=.agg iI.toArray) (.p _ _ (.ag _ _ (by simp[k4.len]) (by simpa using k4.one) fun i c v h1 h2=>k4.rep i c v h1 (by simpa using h2))) ?_
  have hr:=run_build (P:=A.C.P) w t (ps.map fun p=>(p.1,a.eval p.2)) iI.toArray (by simpa using yB)
  simp only[execOp,ax,Sem.run_bind]
  rw[hr]
  simp
 exact hq.elim
theorem BN {A:bE} {V L S:Nat->Prop} {rho:Nat->Value} {s:AS} {a:Act} {w:World} {b:Bool} (hC:a8 A.C) {h:Nat->AB} (sim:bd A V L S rho s a w) (hF:kv h s.h) {x:AV} {v:Value} (hx:aI S w A.C.P L rho s.h x v) {K:PV->List (Nat×AB)->Prop} (hq:pV b h x K):
  ∃y fz S',K y fz/\bd A V L S' rho ⟨s.t,app s.h fz⟩ a w/\az S' w y v/\(∀b,S b->S' b)/\kv h (app s.h fz)/\(∀p∈fz,L p.1):=by
 unfold pV at hq
 split at hq
 ·have:v=.slice none 0 0:=by cases hx;rfl
  rw[this]
  exact⟨_,[],S,hq,sim,.im _,fun _ h=>h,hF,by simp⟩
 exact eM hC sim hF hx hq
theorem rk {A:bE} (hC:a8 A.C) {V L:Nat->Prop} {rho:Nat->Value} {t:Nat->AV} {a:Act} {w:World} {h:Nat->AB} {size:Nat} {b:Bool}:
  ∀(ps:List (Nat×Operand)) (h':Nat->AB) (S:Nat->Prop) (es:List (List PV)) (vs:List Value) (K:List (List PV)->List (Nat×AB)->Prop),(∀p∈ps,∀j,p.2=.tmp j->V j)->bd A V L S rho ⟨t,h'⟩ a w->kv h h'->Flat S w size es vs->dV b h size (ev t) ps es K ->
  ∃bW fz S' iI,K bW fz/\bd A V L S' rho ⟨t,app h' fz⟩ a w/\kv h (app h' fz)/\Flat S' w size bW iI/\bW.length=es.length/\Instr.fill (fun i=>some (i*size,size)) vs.toArray (ps.map fun p=>(p.1,a.eval p.2))=some iI.toArray/\(∀p∈fz,L p.1):=by
 intro ps
 induction ps with
 | nil=>intro h' S es vs K _ sim hF hc hq;exact⟨es,[],S,vs,hq,sim,hF,hc,rfl,rfl,by simp⟩
 | cons p ps ih=>
  intro h' S es vs K hV sim hF hc hq
  obtain⟨i,x⟩:=p
  unfold dV at hq
  have hx:=aM sim x fun j hj=>hV (i,x) (by simp) j hj
  obtain⟨y,fz,S2,hq,aP,hrep,uF,CQ,wB⟩:=BN hC sim hF hx hq
  split at hq
  ·rename_i ys HY
   split at hq
   ·rename_i ga
    simp only[Bool.and_eq_true] at ga
    have e1:=eF ga.1
    have e2:i < es.length:=Nat.le_of_ble_eq_true ga.2
    have hok:=tJ HY hrep
    have Ke:(a.eval x).cells.toList.length=size:=by rw[hok.len,e1]
    have hb:i*size+size<=vs.length:=by rw[hc.len,<-Nat.succ_mul];exact Nat.mul_le_mul_right _ e2
    obtain⟨bW,iL,S',iI,k1,k2,k3,k4,k5,k6,k9⟩:=ih (app h' fz) S2 _ _ _ (fun p hp=>hV p (by simp[hp])) aP CQ ((hc.mono uF (fun _ _=>rfl)).set i e2 ys _ e1 Ke hok.one (fun j y u h1 h2=>hok.rep j y u h1 h2)) hq
    refine⟨bW,fz++iL,S',iI,k1,by rw[bq];exact k2,by rw[bq];exact k3,k4,by rw[k5,List.length_set],?_,fun p hp=>(List.mem_append.1 hp).elim (wB p) (k9 p)⟩
    rw[List.map_cons,oX _ _ i _ _ (i*size) size rfl (by simpa using Ke) (by simpa using hb)]
    exact k6
   exact hq.elim
  exact hq.elim
theorem sZ {A:bE} {o:Oper} (t:TypeId) (len:Nat) (ps:Array (Nat×Operand)) (ax:o.op=.buildSlice t len ps):eX A o:=by
 intro V L S rho s a w K next Q hC sim hV hd hq hn hnext
 simp only[aY,ax] at hq
 split at hq
 ·rename_i e size bytes zero eq hT
  have dv:=(hC.eK t _ hT).under
  simp only at dv
  split at hq
  ·rename_i te oV
   obtain⟨ie,ze,kh,sY,GQ,Fs,Ft,fB⟩:=(hC.eK e te oV).info
   have L7:=(hC.eK e te oV).C2
   split at hq
   ·rename_i ga
    simp only[Bool.and_eq_true] at ga
    have hpos:0 < te.size:=Nat.le_of_ble_eq_true ga.1
    have L8:=gv ga.2
    split at hq
    ·rename_i L9
     obtain⟨bW,fz,S',iI,k1,k2,k3,k4,k5,k6,k9⟩:=rk hC ps.toList s.h S _ _ (fun es fz=>K (.ow (o.dst.getD 0)) fz (some (.row e es)))
      (fun p hp j hj=>hV j (by simp[ax,Op.operands];exact⟨p.1,by rw[<-hj];exact Array.mem_toList_iff.1 hp⟩)) sim (kv.refl _) (Flat.zero false S w (hC.eK e te oV) hpos len) hq
     rw[List.length_replicate] at k5
     obtain⟨hL,hb⟩:=hn _ _ _ k1
     have H9:(app s.h fz) (o.dst.getD 0)=.row e bW:=by
      rw[eS (fun p hp (e:p.1=_)=>hL (by rw[<-e];exact k9 p hp)),hb]
     have hrun:(execOp a.eval o).run A.C.P w=.ok (.value (.slice (some ⟨w.heap.size,0,none⟩) len len)) (w.alloc (.cells iI.toArray e)):=by
      have e0:len*te.size=(Array.range (len*te.size)).size:=by simp
      have M7:¬16777216 < len*te.size:=by omega
      have Kf:Instr.fill (fun i=>some (i*te.size,te.size)) ((Array.range (len*te.size)).map (te.zero.toArray[· % te.zero.toArray.size]!)) (ps.map fun p=>(p.1,a.eval p.2)).toList=some iI.toArray:=by
       rw[Array.toList_map]
       rw[<-k6]
      have hsz:(Go.sizeOf e).run A.C.P w=.ok te.size w:=(hC.eK e te oV).sizeOf w
      simp only[execOp,ax,Instr.buildSlice,Sem.run_bind,run_underlying dv,Result.andThen_ok,hsz]
      rw[if_neg (show ¬len*te.size > 2 ^ 24 by omega)]
      by_cases h0:len*te.size=0
      ·rw[if_pos h0]
       have k7:Instr.fill (fun i=>some (i*te.size,te.size)) ((Array.range (len*te.size)).map ((#[]:Array Value)[· % (#[]:Array Value).size]!)) (ps.map fun p=>(p.1,a.eval p.2)).toList=some iI.toArray:=by
        have Kg:∀f:Nat->Value,(Array.range 0).map f=#[]:=fun f=>by apply Array.ext';simp
        rw[<-Kf,h0,Kg,Kg]
       simp only[Sem.run_bind,Sem.run_pure,Result.andThen_ok]
       rw[k7]
       simp[newRow,newObj,Sem.run]
      rw[if_neg h0]
      have M8:(zeroValue e).run A.C.P w=.ok ze w:=by simp[zeroValue,typeInfo,kh,Fs]
      simp only[Sem.run_bind,Sem.run_pure,Result.andThen_ok,M8]
      rw[Ft,Kf]
      simp[newRow,newObj,Sem.run]
     have aP:=k2.new hC (o.dst.getD 0) _ (k2.kj hd) hL H9 (w.alloc (.cells iI.toArray e)) rfl rfl rfl (by simp) (fun _=>False) (fun k hk _=>Below.heap_alloc _ _ _ hk) (fun _ h=>h.elim) (.slice (some ⟨w.heap.size,0,none⟩) len len)
      (fun g hg=>by simp[br] at hg;subst hg;simp) (fun T=>by
       show aw A.C.P _ _ e _ (aA rho (o.dst.getD 0) _ (o.dst.getD 0))
       rw[ar]
       refine aw.of_flat kh (by omega) ?_ (by rw[sY];exact k4.mono T.hS T.keep)
       have:=World.ownsRow_lit (base:=0) (e:=e) (size:=te.size) w iI.toArray len (Nat.zero_le _) (by simp only[maxLen];have:=Nat.le_mul_of_pos_right len hpos;omega) (by simp[k4.len,k5])
       rw[sY,k5]
       exact this)
     exact cq hrun (hnext _ _ _ S' _ _ _ k1 (aP.value o.dst hd _ _ (.ow _ _ fun _=>⟨.inr rfl,(ar _ _ _).symm⟩)))
    rename_i L9
    obtain⟨bW,fz,S',iI,k1,k2,k3,k4,k5,k6,k9⟩:=rk hC ps.toList s.h S _ _ (fun es fz=>K (.ow (o.dst.getD 0)) fz (some (.fK es)))
     (fun p hp j hj=>hV j (by simp[ax,Op.operands];exact⟨p.1,by rw[<-hj];exact Array.mem_toList_iff.1 hp⟩)) sim (kv.refl _) (Flat.zero false S w (hC.eK e te oV) hpos len) hq
    rw[List.length_replicate] at k5
    obtain⟨hL,hb⟩:=hn _ _ _ k1
    have H9:(app s.h fz) (o.dst.getD 0)=.fK bW:=by
     rw[eS (fun p hp (e:p.1=_)=>hL (by rw[<-e];exact k9 p hp)),hb]
    have hrun:(execOp a.eval o).run A.C.P w=.ok (.value (.slice (some ⟨w.heap.size,0,none⟩) len len)) (w.alloc (.cells iI.toArray e)):=by
     have e0:len*te.size=(Array.range (len*te.size)).size:=by simp
     have M7:¬16777216 < len*te.size:=by omega
     have Kf:Instr.fill (fun i=>some (i*te.size,te.size)) ((Array.range (len*te.size)).map (te.zero.toArray[· % te.zero.toArray.size]!)) (ps.map fun p=>(p.1,a.eval p.2)).toList=some iI.toArray:=by
      rw[Array.toList_map]
      rw[<-k6]
     have hsz:(Go.sizeOf e).run A.C.P w=.ok te.size w:=(hC.eK e te oV).sizeOf w
     simp only[execOp,ax,Instr.buildSlice,Sem.run_bind,run_underlying dv,Result.andThen_ok,hsz]
     rw[if_neg (show ¬len*te.size > 2 ^ 24 by omega)]
     by_cases h0:len*te.size=0
     ·rw[if_pos h0]
      have k7:Instr.fill (fun i=>some (i*te.size,te.size)) ((Array.range (len*te.size)).map ((#[]:Array Value)[· % (#[]:Array Value).size]!)) (ps.map fun p=>(p.1,a.eval p.2)).toList=some iI.toArray:=by
       have Kg:∀f:Nat->Value,(Array.range 0).map f=#[]:=fun f=>by apply Array.ext';simp
       rw[<-Kf,h0,Kg,Kg]
      simp only[Sem.run_bind,Sem.run_pure,Result.andThen_ok]
      rw[k7]
      simp[newRow,newObj,Sem.run]
     rw[if_neg h0]
     have M8:(zeroValue e).run A.C.P w=.ok ze w:=by simp[zeroValue,typeInfo,kh,Fs]
     simp only[Sem.run_bind,Sem.run_pure,Result.andThen_ok,M8]
     rw[Ft,Kf]
     simp[newRow,newObj,Sem.run]
    have GR:Fr (fun _=>False) w (w.alloc (.cells iI.toArray e)):=⟨rfl,rfl,rfl,by simp,fun k hk _=>Below.heap_alloc _ _ _ hk⟩
    have grow:=k2.J4 hC (w.alloc (.cells iI.toArray e)) GR (fun b=>S' b\/b=w.heap.size) (fun b h=>.inl h) (fun b h=>by
     rcases h with h | h
     ·exact Nat.lt_of_lt_of_le (k2.st b h) GR.size
     subst h;simp) (fun b h=>h.imp id fun h=>by omega)
    have rr:aw A.C.P (w.alloc (.cells iI.toArray e)) (az S' (w.alloc (.cells iI.toArray e))) e bW (.slice (some ⟨w.heap.size,0,none⟩) len len):=by
     refine aw.of_flat kh (by omega) ?_ (by rw[sY];exact k4.mono (fun _ h=>h) (fun b hb=>Below.heap_alloc _ _ _ (k2.st b hb)))
     have:=World.ownsRow_lit (base:=0) (e:=e) (size:=te.size) w iI.toArray len (Nat.zero_le _) (by simp only[maxLen];have:=Nat.le_mul_of_pos_right len hpos;omega) (by simp[k4.len,k5])
     rw[sY,k5]
     exact this
    have uL:az (fun b=>S' b\/b=w.heap.size) (w.alloc (.cells iI.toArray e)) (.sl bW) (.slice (some ⟨w.heap.size,0,none⟩) len len):=rr.yw (fun b h=>.inl h) (fun g hg=>by simp[br] at hg;exact .inr hg.symm)
    have aP:=grow.HR (o.dst.getD 0) bW (k2.kj hd) hL H9 _ uL
    exact cq hrun (hnext _ _ _ _ _ _ _ k1 (aP.value o.dst hd _ _ (.ow _ _ fun _=>⟨.inr rfl,(ar _ _ _).symm⟩)))
   exact hq.elim
  exact hq.elim
 exact hq.elim
end Go.AM
namespace Go.AM
open Go.RowKit
theorem Dg:∀{a b:List Nat},LW a b=true->a=b
 | [],[],_=>rfl
 | [],_::_,h=>by cases h
 | _::_,[],h=>by cases h
 | a::r,b::s,h=>by
  unfold LW at h
  split at h
  ·rename_i e
   rw[Nat.eq_of_beq_eq_true e,Dg h]
  cases h
theorem Dh {a b:MK} (h:MH a b=true):a=b:=by
 cases a with
 | str=>cases b with | str=>rfl | int k=>cases h | st s=>cases h
 | int k=>cases b with
  | str=>cases k <;> cases h
  | int k'=>cases k <;> cases k' <;> first | rfl | cases h
  | st s=>cases k <;> cases h
 | st s=>cases b with
  | str=>cases h
  | int k=>cases k <;> cases h
  | st s'=>rw[Dg h]
def descOf:MK->TypeDesc
 | .str=>.string
 | .int k=>.int k
 | .st _=>.string
def uM:MK->Prop
 | .st _=>False
 | _=>True
theorem yC {P:Program} {t:TypeId} {ti:TI} (h:ji P t ti) {mk:MK} (hp:uM mk) (hm:sU ti=some mk):P.underlying t=some (descOf mk):=by
 have hu:=h.under
 unfold sU at hm
 cases M9:ti.ud <;> rw[M9] at hm hu <;> simp only at hm <;> first
  | (cases hm;done)
  | (injection hm with hm;subst hm;exact hu)
  | (
    split at hm
    ·obtain⟨s,_,rfl⟩:=Option.map_eq_some_iff.1 hm;exact hp.elim
    cases hm)
theorem s3:∀{sh:List Nat} {cs:List PV} {l:List Value},gX sh cs=some l->cs=l.map .im/\gE sh l:=by
 intro sh
 induction sh with
 | nil=>
  intro cs l h
  cases cs with
  | nil=>injection h with h;subst h;exact⟨rfl,trivial⟩
  | cons c cs=>cases h
 | cons n sh ih=>
  intro cs l h
  cases cs with
  | nil=>simp[gX] at h
  | cons c cs=>
   unfold gX at h
   split at h
   all_goals first
    | contradiction
    | (
      rename_i h1 h2
      injection h1 with h1 nG
      injection h2 with h2 pY
      subst h1 nG h2 pY
      obtain⟨l',hl,rfl⟩:=Option.map_eq_some_iff.1 h
      obtain⟨i1,i2⟩:=ih hl
      subst i1
      first
       | exact⟨rfl,trivial,i2⟩
       | exact⟨rfl,rfl,i2⟩)
    | (cases h)
theorem rm {mk:MK} {a:AV} {k:Value} (h:keyOf mk a=some k):∃x,a=.p x/\mk.ok k/\∀S w v,az S w x v->v=k:=by
 unfold keyOf at h
 split at h
 ·injection h with h;subst h;exact⟨_,rfl,trivial,fun S w v hv=>hv.aZ⟩
 ·injection h with h;subst h;exact⟨_,rfl,rfl,fun S w v hv=>hv.aZ⟩
 ·obtain⟨l,hl,rfl⟩:=Option.map_eq_some_iff.1 h
  obtain⟨rfl,h2⟩:=s3 hl
  refine⟨_,rfl,by simpa [MK.ok] using h2,fun S w v hv=>?_⟩
  obtain⟨xs,e1,HI,_,MO⟩:=hv.mU
  rw[e1]
  congr 1
  apply Array.ext'
  apply List.ext_getElem?
  intro i
  by_cases hi:i < xs.size
  ·have tE:i < l.length:=by
                  have:l.length=xs.size:=by simpa using HI
                  omega
   have:=(MO i (.im l[i]) xs[i] (by rw[List.getElem?_map,List.getElem?_eq_getElem tE];rfl) (Array.getElem?_eq_getElem hi)).aZ
   rw[Array.getElem?_toList,Array.getElem?_eq_getElem hi,this]
   simp[tE]
  have tE:¬i < l.length:=by
                  have:l.length=xs.size:=by simpa using HI
                  omega
  rw[List.getElem?_eq_none (by simpa using hi),List.getElem?_eq_none (by simpa using tE)]
 cases h
theorem yD {mk:MK} (hp:uM mk) {a b:Value} (ha:mk.ok a) (hb:mk.ok b):Instr.sameNow (descOf mk) a b=some (wo a b):=by
 cases mk with
 | str=>
  cases a <;> first | (exact ha.elim) | skip
  cases b <;> first | (exact hb.elim) | skip
  simp only[Instr.sameNow,descOf,wo]
  congr 1
  rw[Bool.eq_iff_iff,MapKept.bytes_beq];simp
 | int k=>
  cases a <;> first | (exact ha.elim) | skip
  cases b <;> first | (exact hb.elim) | skip
  have h1:_=k:=ha
  have h2:_=k:=hb
  subst h1
  subst h2
  simp[Instr.sameNow,descOf,wo]
  rw[Bool.eq_iff_iff];simp
 | st s=>exact hp.elim
theorem Di {mk:MK} (hp:uM mk) {k:Value} (h:mk.ok k):MapKept.IsKey (descOf mk) k:=by
 cases mk with
 | str=>cases k <;> first | (exact h.elim) | exact trivial
 | int j=>cases k <;> first | (exact h.elim) | exact h
 | st s=>exact hp.elim
theorem a8.key {C:Ctx} (hC:a8 C) {kt:TypeId} {tk:TI} {mk:MK} (h:C.T kt=some tk) (hm:sU tk=some mk):CY C.P kt mk:=by
 by_cases hp:uM mk
 ·have hu:=yC (hC.eK kt tk h) hp hm
  refine⟨fun e k w hk=>MapKept.run_checkKey hu (Di hp hk) e 9999,fun k w ms hk Fu=>MapKept.run_findKey hu ?_⟩
  generalize 0=i
  induction ms generalizing i with
  | nil=>rfl
  | cons m ms ih=>
   have hs:=yD hp hk (Fu m List.mem_cons_self)
   unfold Instr.findNow mz
   rw[hs]
   cases wo k m.key with
   | true=>rfl
   | false=>exact ih (fun x hx=>Fu x (List.mem_cons_of_mem _ hx)) _
 cases mk with
 | st s=>exact hC.keys kt tk s h hm
 | str=>exact (hp trivial).elim
 | int j=>exact (hp trivial).elim
theorem Fv:∀{sh:List Nat} {a b:List Value},gE sh a->gE sh b->wm a b=true->a=b:=by
 intro sh
 induction sh with
 | nil=>
  intro a b ha hb _
  cases a with
  | nil=>cases b with
   | nil=>rfl
   | cons y b=>exact hb.elim
  | cons x a=>exact ha.elim
 | cons n sh ih=>
  intro a b ha hb h
  cases a with
  | nil=>exact ha.elim
  | cons x a=>cases b with
   | nil=>exact hb.elim
   | cons y b=>
    simp only[wm,Bool.and_eq_true] at h
    rw[ih ha.2 hb.2 h.2]
    have e:x=y:=by
     have h1:=ha.1
     have h2:=hb.1
     unfold yo at h1 h2
     split at h1
     ·split at h2 <;> first | (exact h2.elim) | (rename_i e1;cases e1;done) | skip
      have:=h.1
      simp[By] at this
      rw[this]
     ·split at h2 <;> first | (exact h2.elim) | (rename_i e1;cases e1;done) | skip
      have:=h.1
      simp[By] at this
      rw[this,h1,h2]
     ·split at h2 <;> first | (exact h2.elim) | (rename_i e1;cases e1;done) | skip
      have:=h.1
      simp[By] at this
      rw[this]
     exact h1.elim
    rw[e]
theorem H_ {mk:MK} {a b:Value} (ha:mk.ok a) (hb:mk.ok b) (h:wo a b=true):a=b:=by
 cases mk with
 | str=>
  cases a <;> first | (exact ha.elim) | skip
  cases b <;> first | (exact hb.elim) | skip
  simp[wo] at h
  rw[h]
 | int k=>
  cases a <;> first | (exact ha.elim) | skip
  cases b <;> first | (exact hb.elim) | skip
  have h1:_=k:=ha
  have h2:_=k:=hb
  subst h1
  subst h2
  simp[wo] at h
  rw[h]
 | st s=>
  cases a <;> first | (exact ha.elim) | skip
  cases b <;> first | (exact hb.elim) | skip
  congr 1
  exact Array.ext' (Fv (sh:=s) ha hb h)
theorem find_spec {mk:MK} {k:Value} (hk:mk.ok k):∀(es:List (Value×PV)) (ms:List MapEntry) (j:Nat),ms.length=es.length->(∀(i:Nat) p m,es[i]?=some p->ms[i]?=some m->m.key=p.1/\mk.ok p.1)->
  (mz k ms j=none/\fO es k=none/\∀v,gu es k v=es++[(k,v)])\/
  ∃i m p,mz k ms j=some (j+i,m.val)/\ms[i]?=some m/\es[i]?=some p/\p.1=k/\fO es k=some p.2/\∀v,gu es k v=es.set i (k,v):=by
 intro es
 induction es with
 | nil=>
  intro ms j hl _
  have:ms=[]:=List.eq_nil_of_length_eq_zero hl
  subst this
  exact .inl ⟨rfl,rfl,fun v=>rfl⟩
 | cons p es ih=>
  intro ms j hl Kh
  cases ms with
  | nil=>cases hl
  | cons m ms=>
   obtain⟨k',u⟩:=p
   obtain⟨h1,h2⟩:=Kh 0 _ _ rfl rfl
   simp only at h1 h2
   cases hv:wo k k' with
   | true=>
    refine .inr ⟨0,m,(k',u),?_,rfl,rfl,(H_ hk h2 hv).symm,by simp[fO,hv],fun v=>by simp[gu,hv]⟩
    simp[mz,h1,hv]
   | false=>
    rcases ih ms (j+1) (by simpa using hl) (fun i p m hp hm=>Kh (i+1) p m (by simpa using hp) (by simpa using hm)) with⟨q1,q2,q3⟩ | ⟨i,m',p,q1,q2,q3,q4,q5,q6⟩
    ·exact .inl ⟨by simp[mz,h1,hv,q1],by simp[fO,hv,q2],fun v=>by simp[gu,hv,q3 v]⟩
    refine .inr ⟨i+1,m',p,?_,by simpa using q2,by simpa using q3,q4,by simp[fO,hv,q5],fun v=>by simp[gu,hv,q6 v]⟩
    simp only[mz,h1,hv,q1]
    rw[Nat.add_assoc,Nat.add_comm 1 i]
theorem rq {n:Nat}:∀{sh:List Nat} {l:List Value},gE sh l->((l.zip l).all fun (x,y)=>Instr.sameBits n x y)=true:=by
 intro sh
 induction sh with
 | nil=>intro l h;cases l with
  | nil=>rfl
  | cons x l=>exact h.elim
 | cons c sh ih=>
  intro l h
  cases l with
  | nil=>exact h.elim
  | cons x l=>
   rw[List.zip_cons_cons,List.all_cons,ih h.2,Bool.and_true]
   have h1:=h.1
   unfold yo at h1
   split at h1
   ·cases n <;> exact (MapKept.bytes_beq _ _).2 rfl
   ·cases n <;> simp[Instr.sameBits]
   ·cases n <;> simp[Instr.sameBits]
   exact h1.elim
theorem sameBits_self {mk:MK} {k:Value} (hk:mk.ok k):Instr.sameBits 10000 k k=true:=by
 cases mk with
 | str=>
  cases k <;> first | (exact hk.elim) | skip
  simp only[Instr.sameBits]
  exact (MapKept.bytes_beq _ _).2 rfl
 | int j=>
  cases k <;> first | (exact hk.elim) | skip
  simp[Instr.sameBits]
 | st s=>
  cases k <;> first | (exact hk.elim) | skip
  rename_i xs
  show (xs.size == xs.size && (xs.toList.zip xs.toList).all fun (x,y)=>Instr.sameBits 9999 x y)=true
  rw[rq (sh:=s) hk]
  simp
theorem yE {A:bE} {o:Oper} (t:TypeId) (ax:o.op=.makeMap t none):eX A o:=by
 intro V L S rho s a w K next Q hC sim hV hd hq hn hnext
 simp only[aY,ax] at hq
 split at hq
 ·split at hq
  ·split at hq
   ·obtain⟨hL,hdb⟩:=hn _ _ _ hq
    have aP:=sim.new hC (o.dst.getD 0) _ (sim.kj hd) hL hdb (w.alloc (.map #[] 0)) rfl rfl rfl (by simp) (fun _=>False) (fun k hk _=>Below.heap_alloc _ _ _ hk) (fun _ h=>h.elim) (.map (some w.heap.size))
     (fun g hg=>by simp[br] at hg;subst hg;simp) (fun T=>by
      refine⟨w.heap.size,#[],0,ar _ _ _,(MapKept.heap_alloc w _).1,rfl,by simp⟩)
    exact cq (by simp[execOp,ax,Instr.makeMap]) (hnext _ _ _ S _ _ _ hq (aP.value o.dst hd _ _ (.ow _ _ fun _=>⟨.inr rfl,(ar _ _ _).symm⟩)))
   exact hq.elim
  exact hq.elim
 exact hq.elim
theorem tK {S:Nat->Prop} {w:World} {P:Program} {L:Nat->Prop} {rho:Nat->Value} {h:Nat->AB} {id:Nat} {mk:MK} {es:List (Value×PV)} (hh:cZ S w P L rho h id (.map mk es)):
  ∃g ms clock,rho id=.map (some g)/\w.heap[g]?=some (.map ms clock)/\ms.size=es.length/\∀(i:Nat) p m,es[i]?=some p->ms[i]?=some m->m.key=p.1/\mk.ok p.1/\az S w p.2 m.val:=hh
theorem Dj {mk:MK} {es:List (Value×PV)} {ms:Array MapEntry} {R:PV->Value->Prop} (h3:ms.size=es.length) (h4:∀(i:Nat) p m,es[i]?=some p->ms[i]?=some m->m.key=p.1/\mk.ok p.1/\R p.2 m.val):∀m∈ms.toList,mk.ok m.key:=by
 intro m hm
 obtain⟨i,hi,rfl⟩:=List.getElem_of_mem hm
 have tE:i < es.length:=by rw[<-h3];simpa using hi
 obtain⟨q1,q2,_⟩:=h4 i es[i] (ms.toList[i]) (List.getElem?_eq_getElem tE) (by simp at hi;simp[hi])
 rw[q1]
 exact q2
theorem yF {P:Program} {t:TypeId} {ti:TI} (h:ji P t ti) (hz:yq P t ti) (S:Nat->Prop) (w:World):∃z,(zeroValue t).run P w=.ok z w/\az S w (q9 ti) z:=by
 obtain⟨info,z,h1,h2,h3,h4,h5,h6,h7,h8⟩:=h
 obtain⟨O9,z',g1,g2,g3⟩:=hz
 rw[h1] at g1;injection g1 with g1;subst g1
 rw[h4] at g2;injection g2 with g2;subst g2
 refine⟨z,by simp[zeroValue,typeInfo,h1,h4],?_⟩
 unfold q9
 cases pW:ti.ud.agg with
 | true=>
  rw[pW] at g3
  cases z <;> first | cases g3 | skip
  rename_i cs
  have hc:cs=ti.zero.toArray:=h5
  subst hc
  refine .ag _ _ (by simp) (fun u hu=>h7 u (by simpa using hu)) fun i c v hi hv=>?_
  rw[List.getElem?_map] at hi
  obtain⟨u,hu,rfl⟩:=Option.map_eq_some_iff.1 hi
  have:u=v:=by simpa [hu] using hv
  subst this
  exact nF S w u
 | false=>
  rw[pW] at g3
  have hc:z.cells=#[z]:=by cases z <;> first | rfl | cases g3
  rw[hc] at h5
  have:ti.zero=[z]:=by simpa using (congrArg Array.toList h5).symm
  rw[this]
  exact nF S w z
theorem BO {A:bE} {o:Oper} (t:TypeId) (x i:Operand) (ck:Bool) (ax:o.op=.lookup t x i ck):eX A o:=by
 intro V L S rho s a w K next Q hC sim hV hd hq hn hnext
 simp only[aY,ax] at hq
 have hx:=aM sim x fun j hj=>hV j (by simp[ax,Op.operands,hj])
 have hi:=aM sim i fun j hj=>hV j (by simp[ax,Op.operands,hj])
 split at hq
 case h_2=>exact hq.elim
 rename_i kt et size bytes zero eq hT
 have dv:=(hC.eK t _ hT).under
 simp only at dv
 split at hq
 case h_2=>exact hq.elim
 rename_i tk te M_ oV
 split at hq
 case h_2=>exact hq.elim
 rename_i mk hmk
 have Fw:=hC.key M_ hmk
 split at hq
 case h_2=>exact hq.elim
 rename_i id hid
 split at hq
 case h_2=>exact hq.elim
 rename_i mk' es yG
 split at hq
 case h_2=>exact hq.elim
 rename_i BP
 obtain rfl:=Dh BP
 split at hq
 case h_2=>exact hq.elim
 rename_i k hk
 obtain⟨xk,L3,kC,Na⟩:=rm hk
 obtain⟨r,hr,hq⟩:=hq
 rw[hid] at hx
 obtain⟨hL,hv⟩:=hx.bF (by rw[yG];trivial)
 have hh:=sim.hp id hL
 rw[yG] at hh
 obtain⟨g,ms,clock,h1,h2,h3,h4⟩:=tK hh
 rw[L3] at hi
 have hi:=Na _ _ _ hi.dE
 obtain⟨z,hz,Qf⟩:=yF (hC.eK et te oV) (hC.zs et te oV) S w
 have fA:∀m∈ms.toList,mk.ok m.key:=Dj h3 h4
 have key:∃u,(Instr.lookup t (a.eval x) (a.eval i) ck).run A.C.P w=.ok (if ck then .tuple #[u,.bool r.isSome] else u) w/\az S w (r.getD (q9 te)) u:=by
  rcases find_spec kC es ms.toList 0 (by simpa using h3) (fun i p m hp hm=>by obtain⟨q1,q2,_⟩:=h4 i p m hp (by simpa using hm);exact⟨q1,q2⟩) with⟨q1,q2,_⟩ | ⟨j,m,p,q1,q2,q3,q4,q5,_⟩
  ·rw[hr] at q2
   subst q2
   refine⟨z,?_,Qf⟩
   cases ck <;> simp[Instr.lookup,run_underlying dv,hv,h1,MapKept.run_getObj_map h2,hi,Fw.check _ _ _ kC,Fw.find _ _ _ kC fA,q1,hz]
  rw[hr] at q5
  subst q5
  refine⟨m.val,?_,(h4 j p m q3 (by simpa using q2)).2.2⟩
  cases ck <;> simp[Instr.lookup,run_underlying dv,hv,h1,MapKept.run_getObj_map h2,hi,Fw.check _ _ _ kC,Fw.find _ _ _ kC fA,q1]
 obtain⟨u,hrun,hu⟩:=key
 cases ck with
 | true=>
  refine ay sim hd hnext hq (.tu _ _ rfl fun i c v hc hv=>?_) (by simp only[execOp,ax,Sem.run_bind,hrun,Result.andThen_ok,Sem.run_pure];rfl)
  match i with
  | 0=>simp at hc hv;subst hc hv;exact .p _ _ hu
  | 1=>simp at hc hv;subst hc hv;exact .p _ _ (.im _)
  | i+2=>simp at hc
 | false=>exact ay sim hd hnext hq (.p _ _ hu) (by simp only[execOp,ax,Sem.run_bind,hrun,Result.andThen_ok,Sem.run_pure];rfl)
theorem uN {A:bE} {o:Oper} (t:TypeId) (x i y:Operand) (ax:o.op=.mapUpdate t x i y):eX A o:=by
 intro V L S rho s a w K next Q hC sim hV hd hq hn hnext
 simp only[aY,ax] at hq
 have hx:=aM sim x fun j hj=>hV j (by simp[ax,Op.operands,hj])
 have hi:=aM sim i fun j hj=>hV j (by simp[ax,Op.operands,hj])
 have hy:=aM sim y fun j hj=>hV j (by simp[ax,Op.operands,hj])
 split at hq
 case h_2=>exact hq.elim
 rename_i kt et size bytes zero eq hT
 have dv:=(hC.eK t _ hT).under
 simp only at dv
 split at hq
 case h_2=>exact hq.elim
 rename_i tk M_
 split at hq
 case h_2=>exact hq.elim
 rename_i mk hmk
 have Fw:=hC.key M_ hmk
 split at hq
 case h_2=>exact hq.elim
 rename_i id hid
 split at hq
 case h_2=>exact hq.elim
 rename_i mk' es yG
 split at hq
 case h_2=>exact hq.elim
 rename_i BP
 obtain rfl:=Dh BP
 split at hq
 case h_2=>exact hq.elim
 rename_i k hk
 obtain⟨xk,L3,kC,Na⟩:=rm hk
 obtain⟨yv,fz,S2,hq,aP,hrep,uF,hF,wB⟩:=eM hC sim (kv.refl s.h) hy hq
 split at hq
 case h_2=>exact hq.elim
 rename_i BQ
 have ri:app s.h fz id=.map mk es:=by rw[hM BQ];exact yG
 rw[hid] at hx
 obtain⟨hL,hv⟩:=hx.bF (by rw[yG];trivial)
 have hh:=aP.hp id hL
 have hh:cZ S2 w A.C.P L rho (app s.h fz) id (app s.h fz id):=hh
 rw[ri] at hh
 obtain⟨g,ms,clock,h1,h2,h3,h4⟩:=tK hh
 rw[L3] at hi
 have hi:=Na _ _ _ hi.dE
 have fA:∀m∈ms.toList,mk.ok m.key:=Dj h3 h4
 have fin:∀GS oY,(Instr.mapUpdate t (a.eval x) (a.eval i) (a.eval y)).run A.C.P w=.ok () { w with heap:=w.heap.setIfInBounds g (.map GS oY) }->GS.size=(gu es k yv).length ->
   (∀(i:Nat) p m,(gu es k yv)[i]?=some p->GS[i]?=some m->m.key=p.1/\mk.ok p.1/\az S2 w p.2 m.val)->o.wp A.C.P a w next Q:=by
  intro GS oY hrun hsz Nb
  obtain⟨g1,g2⟩:=MapKept.heap_set (o':=.map GS oY) h2
  refine kF (w':={ w with heap:=w.heap.setIfInBounds g (.map GS oY) }) (by simp only[execOp,ax,Sem.run_bind,hrun,Result.andThen_ok,Sem.run_pure]) ?_
  have dR:=aP.write hC id hL (by show (app s.h fz id).live;rw[ri];trivial) (.map mk (gu es k yv)) (fun _ h=>by cases h) { w with heap:=w.heap.setIfInBounds g (.map GS oY) } rfl rfl rfl (by simp) (fun k hk=>g2 k fun e=>hk (by rw[h1,e];rfl)) fun T=>by
   refine⟨g,GS,oY,h1,g1,hsz,fun i p m hp hm=>?_⟩
   obtain⟨q1,q2,q3⟩:=Nb i p m hp hm
   exact⟨q1,q2,q3.mono T.hS T.keep⟩
  have:=hnext _ _ _ S2 _ _ _ hq (by
   rw[bq]
   exact dR.value o.dst hd .junk undef (.junk _))
  exact this
 rcases find_spec kC es ms.toList 0 (by simpa using h3) (fun i p m hp hm=>by obtain⟨q1,q2,_⟩:=h4 i p m hp (by simpa using hm);exact⟨q1,q2⟩) with⟨q1,q2,q3⟩ | ⟨j,m,p,q1,q2,q3,q4,q5,q6⟩
 ·refine fin (ms.push { key:=k,val:=a.eval y,born:=clock }) (clock+1) ?_ (by rw[q3];simp[h3]) fun i p m hp hm=>?_
  ·simp[Instr.mapUpdate,run_underlying dv,hv,h1,MapKept.run_getObj_map h2,hi,Fw.check _ _ _ kC,Fw.find _ _ _ kC fA,q1,MapKept.run_setObj_map _ h2]
  rw[q3] at hp
  by_cases dS:i < es.length
  ·rw[List.getElem?_append_left dS] at hp
   rw[Array.getElem?_push_lt (by omega)] at hm
   exact h4 i p m hp (by rw[<-hm];exact Array.getElem?_eq_getElem _)
  have kh:i=es.length:=by
   have:=ao hp
   simp at this
   omega
  subst kh
  rw[<-h3] at hm
  simp at hp hm
  subst hp hm
  exact⟨rfl,kC,hrep⟩
 have Fu:ms[j]?=some m:=by simpa using q2
 have hmk:m.key=k:=by rw[<-q4];exact (h4 j p m q3 Fu).1
 refine fin (ms.modify j fun e=>{ e with key:=k,val:=a.eval y }) clock ?_ (by rw[q6];simp[h3]) fun i p' m' hp hm=>?_
 ·simp[Instr.mapUpdate,run_underlying dv,hv,h1,MapKept.run_getObj_map h2,hi,Fw.check _ _ _ kC,Fw.find _ _ _ kC fA,q1,Fu,hmk,Instr.keyThatStays,sameBits_self kC,MapKept.run_setObj_map _ h2]
 rw[q6] at hp
 rw[Array.getElem?_modify] at hm
 by_cases e:j=i
 ·subst e
  rw[if_pos rfl,Fu] at hm
  rw[List.getElem?_set_self (ao q3)] at hp
  simp at hp hm
  subst hp hm
  exact⟨rfl,kC,hrep⟩
 rw[if_neg e] at hm
 rw[List.getElem?_set_ne e] at hp
 exact h4 i p' m' hp hm
theorem ok_slice {A:bE} {o:Oper} (t:TypeId) (x:Operand) (lo hi:Option Operand) (ax:o.op=.slice t x lo hi none):eX A o:=by
 intro V L S rho s a w K next Q hC sim hV hd hq hn hnext
 have old:=BI t x lo hi ax hC sim hV hd (K:=K) (Q:=Q) (next:=next)
 simp only[aY,ax] at hq
 split at hq
 case h_2=>exact old hq hnext
 rename_i id hid
 split at hq
 case h_2=>exact old hq hnext
 rename_i e' es an
 rcases hq with hq | hq
 case inr=>exact old hq hnext
 have hx:=aM sim x fun j hj=>hV j (by simp[ax,Op.operands,hj])
 have J8:∀y,lo=some y->aI S w A.C.P L rho s.h (ev s.t y) (a.eval y):=fun y hy=>aM sim y fun j hj=>hV j (by simp[ax,Op.operands,hj,hy])
 have J9:∀y,hi=some y->aI S w A.C.P L rho s.h (ev s.t y) (a.eval y):=fun y hy=>aM sim y fun j hj=>hV j (by simp[ax,Op.operands,hj,hy])
 unfold nD at hq
 split at hq
 case h_2=>exact hq.elim
 rename_i e size bytes zero eq hT
 have dv:=(hC.eK t _ hT).under
 simp only at dv
 split at hq
 case h_2=>exact hq.elim
 rename_i qy
 obtain rfl:=eF qy
 split at hq
 case h_2=>exact hq.elim
 rename_i k m k' n h1 h2
 obtain⟨⟨h3,h4,h5⟩,hq⟩:=hq
 rw[hid] at hx
 obtain⟨hL,hv⟩:=hx.bF (by rw[an];trivial)
 have hh:=sim.hp id hL
 rw[an] at hh
 have hh:aw A.C.P w (az S w) e' es (rho id):=hh
 obtain⟨ie,xs,kh,hpos,hown,_⟩:=hh
 have AD:∃ad c,rho id=.slice ad es.length c/\es.length<=c:=by
  rcases hown.2 with⟨g1,g2⟩ | ⟨g,cap,cur,g1,_,_,g2,_⟩
  ·exact⟨none,0,by rw[g1,g2],by omega⟩
  exact⟨_,cap,g1,g2⟩
 obtain⟨ad,c,AD,hle⟩:=AD
 have hb:=rj sim lo hi J8 J9 true es.length c k m k' n hle h1 h2 h3 h4 h5
 refine ay sim hd hnext hq (.vw id _ _ _ fun e2 lF=>?_) (by simp[execOp,ax,Instr.sliceAt,Instr.slice,hv,AD,run_underlying dv,hb,Go.sizeOf,typeInfo,kh];rfl)
 rw[an] at lF
 injection lF with lF
 subst lF
 exact⟨hL,es.length,c,ad,ie,AD,kh,by omega,by omega,hle,rfl⟩
theorem Flat.take {S:Nat->Prop} {w:World} {k:Nat} {es:List (List PV)} {xs:List Value} (h:Flat S w k es xs) (n:Nat) (hn:n<=es.length):Flat S w k (es.take n) (xs.take (n*k)):=by
 have Kd:n*k<=es.length*k:=Nat.mul_le_mul_right _ hn
 refine⟨by rw[List.length_take,List.length_take,h.len];rw[Nat.min_eq_left Kd,Nat.min_eq_left hn],fun r hr=>h.row r (List.mem_of_mem_take hr),fun u hu=>h.one u (List.mem_of_mem_take hu),fun i r j x hi hj=>?_⟩
 have L4:=ao hi
 rw[List.length_take] at L4
 rw[List.getElem?_take_of_lt (by omega)] at hi
 obtain⟨u,h1,h2⟩:=h.rep i r j x hi hj
 have RG:j < k:=by rw[<-h.row r (List.mem_of_getElem? hi)];exact ao hj
 refine⟨u,?_,h2⟩
 rw[List.getElem?_take_of_lt,h1]
 have:=Nat.mul_le_mul_right k (show i+1<=n by omega)
 rw[Nat.succ_mul] at this
 omega
theorem Flat.drop {S:Nat->Prop} {w:World} {k:Nat} {es:List (List PV)} {xs:List Value} (h:Flat S w k es xs) (n:Nat):Flat S w k (es.drop n) (xs.drop (n*k)):=by
 refine⟨by rw[List.length_drop,List.length_drop,h.len,Nat.sub_mul],fun r hr=>h.row r (List.mem_of_mem_drop hr),fun u hu=>h.one u (List.mem_of_mem_drop hu),fun i r j x hi hj=>?_⟩
 rw[List.getElem?_drop] at hi
 obtain⟨u,h1,h2⟩:=h.rep (n+i) r j x hi hj
 refine⟨u,?_,h2⟩
 rw[List.getElem?_drop,<-h1]
 congr 1
 rw[Nat.add_mul,Nat.add_assoc]
theorem Dk {A:bE} {o:Oper} (c:Call) (ax:o.op=.call c) (hc:c.callee=.builtin .clear):eX A o:=by
 intro V L S rho s a w K next Q hC sim hV hd hq _ hnext
 obtain⟨callee,args,argTypes⟩:=c
 simp only at hc
 subst hc
 simp only[aY,ax,cM,dm] at hq
 split at hq
 case h_2=>exact hq.elim
 rename_i x t hargs Db
 have hx:=aM sim x fun j hj=>hV j (by simp[ax,Op.operands,Call.operands,hj];rw[<-hj];exact Array.mem_toList_iff.1 (by rw[hargs];simp))
 have e1:args=#[x]:=by rw[<-Array.toArray_toList (xs:=args),hargs]
 have e2:argTypes=#[t]:=by rw[<-Array.toArray_toList (xs:=argTypes),Db]
 subst e1 e2
 split at hq
 case h_2=>exact hq.elim
 rename_i e size bytes zero eq hT
 have dv:=(hC.eK t _ hT).under
 simp only at dv
 split at hq
 case h_2=>exact hq.elim
 rename_i ti oV
 split at hq
 case h_2=>exact hq.elim
 rename_i id lo hi hid
 split at hq
 case h_2=>exact hq.elim
 rename_i e' es an
 split at hq
 case h_2=>exact hq.elim
 rename_i AE
 simp only[Bool.and_eq_true] at AE
 obtain⟨qy,hpos⟩:=AE
 obtain⟨⟨P5,O_⟩,hq⟩:=hq
 obtain rfl:=eF qy
 have hpos:0 < ti.size:=Nat.le_of_ble_eq_true hpos
 rw[hid] at hx
 obtain⟨hL,n,cp,ad,MR,gG,tE,_,P6,JE,hval⟩:=hx.uD an
 have hh:=sim.hp id hL
 rw[an] at hh
 have hh:aw A.C.P w (az S w) e' es (rho id):=hh
 obtain⟨ie,ze,kh,sY,GQ,Fs,Ft,fB⟩:=(hC.eK e' ti oV).info
 rw[kh] at tE;injection tE with tE;subst tE
 obtain⟨xs,AG,hown,pZ⟩:=aw.flat kh hh
 have fin:∀w',(∀ty,(Builtin.clear_ #[t] ty #[a.eval x]).run A.C.P w=.ok (.tuple #[]) w')->bd A V L S rho ⟨s.t,aA s.h id (.row e' (es.take lo++List.replicate (hi - lo) (ti.zero.map qx)++es.drop hi))⟩ a w'->o.wp A.C.P a w next Q:=by
  intro w' hrun bc
  exact cq (v:=.tuple #[]) (by simp[execOp,ax,resolve,invoke,builtin,hrun]) (hnext _ _ _ S _ _ _ hq (bc.value o.dst hd (.tu []) _ (.tu [] #[] rfl (by simp))))
 by_cases heq:hi=lo
 ·subst heq
  refine fin w (fun ty=>?_) ?_
  ·rw[hval,Nat.sub_self]
   cases (if cp=hi then ad else ad.map (·.add (hi*ie.size))) <;> simp[Builtin.clear_,run_underlying dv]
  rw[Nat.sub_self,List.replicate_zero,List.append_nil,List.take_append_drop,dp _ _ _ an]
  exact sim
 rcases hown.2 with⟨g1,g2⟩ | ⟨g,cap,cur,g1,_,g3,g4,g5,g6,g7⟩
 ·exact absurd g2 (by omega)
 have GU:=gG
 rw[g1] at GU
 injection GU with r1 r2 r3
 subst r1 r2 r3
 have MX:a.eval x=.slice (some ⟨g,lo*ie.size,none⟩) (hi - lo) (cap - lo):=by
  rw[hval,if_neg (by omega)]
  simp only[Option.map_some,Addr.add]
  split
  ·rename_i h0;rw[h0]
  simp
 have MY:((Array.range ((hi - lo)*ti.size)).map (ti.zero.toArray[· % ti.zero.toArray.size]!))=Builtin.zeroCells ze.cells (hi - lo):=by
  unfold Builtin.zeroCells
  rw[Ft,(show ti.zero.toArray.size=ti.size by simpa using (hC.eK e' ti oV).C2)]
 have hz:=Flat.zero false S w (hC.eK e' ti oV) hpos (hi - lo)
 rw[MY,<-sY] at hz
 have hcl:(Builtin.zeroCells ze.cells (hi - lo)).toList.length=(hi - lo)*ie.size:=by rw[hz.len,List.length_replicate]
 have uO:hi*ie.size<=cap*ie.size:=Nat.mul_le_mul_right _ (by omega)
 have Fx:lo*ie.size+(hi - lo)*ie.size=hi*ie.size:=by rw[<-Nat.add_mul];congr 1;omega
 have wj:=run_storeCells_at A.C.P g (lo*ie.size) e' (Builtin.zeroCells ze.cells (hi - lo)).toList 0 cur w g3 (by rw[hcl,g6];omega) hz.one
 simp only[Nat.add_zero] at wj
 have BR:hi - lo≠0:=by omega
 refine fin (w.setRow g (cur.toList.take (lo*ie.size)++(Builtin.zeroCells ze.cells (hi - lo)).toList++cur.toList.drop (lo*ie.size+(Builtin.zeroCells ze.cells (hi - lo)).toList.length)).toArray) (fun ty=>?_) ?_
 ·rw[MX]
  cases hk:hi - lo with
  | zero=>exact absurd hk BR
  | succ m=>
   rw[hk] at wj
   simp[Builtin.clear_,run_underlying dv,zeroValue,typeInfo,kh,Fs,wj]
 refine sim.write hC id hL (by rw[an];trivial) _ (fun e2 h=>by rw[an];exact h) _ (setRow_os w g _) (setRow_tape w g _) (setRow_output w g _) (setRow_size w g _) (fun k hk=>setRow_other w g k _ fun e=>hk (by rw[g1,e];rfl)) fun T=>?_
 show aw A.C.P _ _ e' _ (rho id)
 have hF:Flat S w ie.size (es.take lo++List.replicate (hi - lo) (ti.zero.map qx)++es.drop hi) (xs.take (lo*ie.size)++(Builtin.zeroCells ze.cells (hi - lo)).toList++xs.drop (hi*ie.size)):=((pZ.take lo (by omega)).app hz).app (pZ.drop hi)
 refine aw.of_flat kh AG ?_ (hF.mono T.hS T.keep)
 have L_:(es.take lo++List.replicate (hi - lo) (ti.zero.map qx)++es.drop hi).length=es.length:=by simp;omega
 rw[L_]
 refine⟨by rw[hF.len,L_],.inr ⟨g,cap,_,g1,Nat.zero_le _,setRow_heap w g cur _ e' (0,0) g3,g4,g5,?_,?_⟩⟩
 ·rw[List.size_toArray,List.length_append,List.length_append,hcl,List.length_take,List.length_drop,Array.length_toList,g6]
  omega
 rw[<-g7,hcl,Fx]
 have h1:lo*ie.size<=es.length*ie.size:=Nat.mul_le_mul_right _ (by omega)
 have h2:hi*ie.size<=es.length*ie.size:=Nat.mul_le_mul_right _ O_
 have h3:es.length*ie.size<=cap*ie.size:=Nat.mul_le_mul_right _ g4
 simp only[List.take_append,List.length_append,List.length_take,Array.length_toList,g6,hcl,List.take_take,List.drop_take]
 rw[Nat.min_eq_left (show lo*ie.size<=cap*ie.size by omega),Nat.min_eq_left h1]
 rw[Nat.min_eq_right h1,List.take_of_length_le (l:=(Builtin.zeroCells ze.cells (hi - lo)).toList) (by rw[hcl];omega)]
 rw[show es.length*ie.size - (lo*ie.size+(hi - lo)*ie.size)=es.length*ie.size - hi*ie.size by omega]
end Go.AM
