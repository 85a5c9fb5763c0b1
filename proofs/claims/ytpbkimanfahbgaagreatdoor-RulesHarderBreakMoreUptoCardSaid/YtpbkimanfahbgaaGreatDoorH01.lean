/- Part 1 of 14 of the proof of RulesHarderBreakMore (the names are shortened by a program: the size of a claim is limited). -/
import Derived.StillTail
import Derived.OwnWalk
import Derived.WalkKit
import Derived.Lib.Hide
import Derived.Below
import Derived.MapKept
set_option linter.unusedVariables false
set_option linter.unusedSimpArgs false
set_option maxRecDepth 100000
set_option maxHeartbeats 8000000
namespace Go.AM
open Go.RowKit
inductive PV where
 | im (x:Value)
 | ag (cs:List PV)
 | sl (es:List (List PV))
 | ip (cs:List PV)
 | fn (f:FuncId) (cap:List PV)
inductive AV where
 | p (x:PV)
 | nl
 | ow (id:Nat)
 | rp (id i off:Nat)
 | bx (id off:Nat)
 | vw (id lo hi:Nat)
 | fn (f:FuncId) (cap:List AV)
 | tu (xs:List AV)
 | st (xs:List AV)
 | junk
inductive MK where
 | str
 | int (k:IntKind)
def MK.ok:MK->Value->Prop
 | .str,.string _=>True
 | .int k,.int k' _=>k'=k
 | _,_=>False
inductive HC where
 | p (x:PV)
 | row (e:TypeId) (es:List (List PV))
def HC.isRow:HC->Prop
 | .row ..=>True
 | _=>False
inductive HX where
 | av (x:AV)
 | row (e:TypeId) (es:List (List PV))
inductive AB where
 | none
 | row (e:TypeId) (es:List (List PV))
 | iv (es:List (List PV))
 | box (cs:List AV)
 | fF (ty:TypeId) (cs:List AV)
 | iP (cs:List PV)
 | map (mk:MK) (es:List (Value×PV))
 | bb (cs:List HC)
 | aL (e:TypeId) (es:List (List HX))
def AB.live:AB->Prop
 | .row .. | .box .. | .fF .. | .map .. | .bb .. | .aL ..=>True
 | _=>False
def AB.mf:AB->Option TypeId
 | .row e _=>some e
 | .aL e _=>some e
 | _=>Option.none
def AB.there:AB->Prop
 | .none=>False
 | _=>True
structure AS where
 t:Nat->AV
 h:Nat->AB
def br {α:Type} (f:Nat->α) (i:Nat) (x:α) (j:Nat):α:=match Nat.beq j i with | true=>x | false=>f j
theorem aO {α:Type} (f:Nat->α) (i:Nat) (x:α):br f i x i=x:=by simp[br]
theorem bw {α:Type} (f:Nat->α) {i j:Nat} (x:α) (h:j≠i):br f i x j=f j:=by
 unfold br
 have:Nat.beq j i=false:=by rw[Bool.eq_false_iff];intro e;exact h (Nat.eq_of_beq_eq_true e)
 rw[this]
theorem eU {α:Type} (f:Nat->α) (i:Nat) (x:α) (h:f i=x):br f i x=f:=by
 funext j
 by_cases e:j=i
 ·subst e;rw[aO,h]
 rw[bw _ _ e]
inductive bu (S:Nat->Prop) (w:World):PV->Value->Prop
 | im (x:Value):bu S w (.im x) x
 | ag (cs:List PV) (vs:Array Value) (hl:cs.length=vs.size) (h1:∀u∈vs.toList,u.oneCell'=true) (h:∀(i:Nat) c v,cs[i]?=some c->vs[i]?=some v->bu S w c v):bu S w (.ag cs) (.agg vs)
 | nil (a:Option Addr) (c:Nat):bu S w (.sl []) (.slice a 0 c)
 | sl (es:List (List PV)) (k b off c:Nat) (U:Nat->Nat->Value) (hc:es.length<=c) (hS:S b) (hk:∀e∈es,e.length=k)
   (hcell:∀(i:Nat) e (j:Nat) x,es[i]?=some e->e[j]?=some x->w.cell? ⟨b,off+i*k+j,none⟩=some (U i j)/\(U i j).oneCell'=true)
   (h:∀(i:Nat) e (j:Nat) x,es[i]?=some e->e[j]?=some x->bu S w x (U i j)):bu S w (.sl es) (.slice (some ⟨b,off,none⟩) es.length c)
 | ip (cs:List PV) (b off:Nat) (U:Nat->Value) (hS:S b) (hcell:∀(j:Nat) x,cs[j]?=some x->w.cell? ⟨b,off+j,none⟩=some (U j)/\(U j).oneCell'=true)
   (h:∀(j:Nat) x,cs[j]?=some x->bu S w x (U j)):bu S w (.ip cs) (.pointer (some ⟨b,off,none⟩))
 | fn (f:FuncId) (cap:List PV) (vs:Array Value) (hl:cap.length=vs.size) (h:∀(i:Nat) c v,cap[i]?=some c->vs[i]?=some v->bu S w c v):bu S w (.fn f cap) (.func (.func f) #[] vs)
theorem bu.mono {S S':Nat->Prop} {w w':World} {x:PV} {v:Value} (h:bu S w x v) (hS:∀b,S b->S' b) (hw:∀b,S b->w'.heap[b]?=w.heap[b]?):bu S' w' x v:=by
 induction h with
 | im x=>exact .im x
 | ag cs vs hl h1 h ih=>exact .ag cs vs hl h1 ih
 | nil a c=>exact .nil a c
 | sl es k b off c U hc hb hk hcell h ih=>exact .sl es k b off c U hc (hS b hb) hk (fun i e j x h1 h2=>⟨(World.cell?_of_block (hw b hb)).trans (hcell i e j x h1 h2).1,(hcell i e j x h1 h2).2⟩) ih
 | ip cs b off U hb hcell h ih=>exact .ip cs b off U (hS b hb) (fun j x h1=>⟨(World.cell?_of_block (hw b hb)).trans (hcell j x h1).1,(hcell j x h1).2⟩) ih
 | fn f cap vs hl h ih=>exact .fn f cap vs hl ih
structure Fr (mv:Nat->Prop) (w w':World):Prop where
 os:w'.os=w.os
 tape:w'.tape=w.tape
 output:w'.output=w.output
 size:w.heap.size<=w'.heap.size
 block:∀k,k < w.heap.size->¬mv k->w'.heap[k]?=w.heap[k]?
theorem Fr.refl (mv:Nat->Prop) (w:World):Fr mv w w:=⟨rfl,rfl,rfl,Nat.le_refl _,fun _ _ _=>rfl⟩
theorem Fr.trans {mv Sw:Nat->Prop} {a b c:World} (h:Fr mv a b) (k:Fr Sw b c) (hm:∀i,Sw i->mv i\/a.heap.size<=i):Fr mv a c:=
 ⟨k.os.trans h.os,k.tape.trans h.tape,k.output.trans h.output,Nat.le_trans h.size k.size,fun i hi hn=>
  (k.block i (Nat.lt_of_lt_of_le hi h.size) (fun IU=>by rcases hm i IU with h1 | h1;exact hn h1;omega)).trans (h.block i hi hn)⟩
def aR {α:Type} (P:Program) (w:World) (R:α->Value->Prop) (e:TypeId) (es:List (List α)) (v:Value):Prop:=
 ∃i xs,P.info? e=some i/\0 < i.size/\w.ownsRow 0 e i.size v es.length xs/\(∀r∈es,r.length=i.size)/\(∀u∈xs,u.oneCell'=true)/\
  ∀(a:Nat) r (j:Nat) x,es[a]?=some r->r[j]?=some x->∃u,xs[a*i.size+j]?=some u/\R x u
def cU:Value->Option Nat
 | .slice (some a) _ _=>some a.block
 | .pointer (some a)=>some a.block
 | .map (some g)=>some g
 | _=>none
inductive bF (S:Nat->Prop) (w:World) (P:Program) (L:Nat->Prop) (rho:Nat->Value) (h:Nat->AB):AV->Value->Prop
 | p (x:PV) (v:Value) (hx:bu S w x v):bF S w P L rho h (.p x) v
 | nl:bF S w P L rho h .nl (.slice none 0 0)
 | ow (id:Nat) (v:Value) (hv:(h id).there->L id/\v=rho id):bF S w P L rho h (.ow id) v
 | rp (id i off:Nat) (v:Value) (hv:∀e,(h id).mf=some e->L id/\∃g n c ti,rho id=.slice (some ⟨g,0,none⟩) n c/\P.info? e=some ti/\v=.pointer (some ⟨g,i*ti.size+off,none⟩)):bF S w P L rho h (.rp id i off) v
 | bx (id off:Nat) (v:Value) (hv:(h id).there->L id/\∃g,rho id=.pointer (some ⟨g,0,none⟩)/\v=.pointer (some ⟨g,off,none⟩)):bF S w P L rho h (.bx id off) v
 | vw (id lo hi:Nat) (v:Value) (hv:∀e,(h id).mf=some e->L id/\∃n c a ti,rho id=.slice a n c/\P.info? e=some ti/\lo<=hi/\hi<=n/\n<=c/\v=.slice (if c=lo then a else a.map (·.add (lo*ti.size))) (hi - lo) (c - lo)):bF S w P L rho h (.vw id lo hi) v
 | fn (f:FuncId) (cap:List AV) (vs:Array Value) (hl:cap.length=vs.size) (hc:∀(i:Nat) c v,cap[i]?=some c->vs[i]?=some v->bF S w P L rho h c v):bF S w P L rho h (.fn f cap) (.func (.func f) #[] vs)
 | tu (xs:List AV) (vs:Array Value) (hl:xs.length=vs.size) (hc:∀(i:Nat) c v,xs[i]?=some c->vs[i]?=some v->bF S w P L rho h c v):bF S w P L rho h (.tu xs) (.tuple vs)
 | st (xs:List AV) (vs:Array Value) (hl:xs.length=vs.size) (h1:∀u∈vs.toList,u.oneCell'=true) (hc:∀(i:Nat) c v,xs[i]?=some c->vs[i]?=some v->bF S w P L rho h c v):bF S w P L rho h (.st xs) (.agg vs)
 | junk (v:Value):bF S w P L rho h .junk v
def Kx (S:Nat->Prop) (w:World) (P:Program):HC->Value->Prop
 | .p x,u=>bu S w x u
 | .row e es,u=>aR P w (bu S w) e es u
structure EC (S:Nat->Prop) (w:World) (P:Program) (cs:List HC) (g:Nat) (ty:TypeId) (c:Array Value):Prop where
 hp:w.heap[g]?=some (.cells c ty (0,0))
 sz:c.size=cs.length
 cell:∀(j:Nat) x u,cs[j]?=some x->c[j]?=some u->u.oneCell'=true/\Kx S w P x u
 top:∀(j:Nat) x u b,cs[j]?=some x->c[j]?=some u->x.isRow->cU u=some b->b≠g
 dis:∀(i j:Nat) x y u v b,cs[i]?=some x->cs[j]?=some y->c[i]?=some u->c[j]?=some v->x.isRow->y.isRow->cU u=some b->cU v=some b->i=j
def o8 (S:Nat->Prop) (w:World) (P:Program) (L:Nat->Prop) (rho:Nat->Value) (h:Nat->AB):HX->Value->Prop
 | .av x,u=>bF S w P L rho h x u
 | .row e es,u=>aR P w (bu S w) e es u
def dG (w:World) (es:List (List HX)) (g:Nat) (a j:Nat) (u:Value):Prop:=∃(r:List HX) (e:TypeId) (xs:List (List PV)) (c:Array Value) (ty:TypeId) (m:Nat×Nat),es[a]?=some r/\r[j]?=some (.row e xs)/\w.heap[g]?=some (.cells c ty m)/\c[a*r.length+j]?=some u
structure rv (w:World) (es:List (List HX)) (v:Value):Prop where
 top:∀g a j u b,cU v=some g->dG w es g a j u->cU u=some b->b≠g
 dis:∀g a j a' j' u u' b,cU v=some g->dG w es g a j u->dG w es g a' j' u'->cU u=some b->cU u'=some b->a=a'/\j=j'
def P5 (w:World) (x:AB) (v:Value) (k:Nat):Prop:=∃e es g a j u,x=.aL e es/\cU v=some g/\dG w es g a j u/\cU u=some k
def P6 (w:World) (x:AB) (v:Value) (k:Nat):Prop:=∃cs g,x=.bb cs/\cU v=some g/\∃(c:Array Value) (ty:TypeId) (m:Nat×Nat) (j:Nat) (y:HC) (u:Value),w.heap[g]?=some (.cells c ty m)/\cs[j]?=some y/\y.isRow/\c[j]?=some u/\cU u=some k
def TR (w:World) (x:AB) (v:Value) (k:Nat):Prop:=P6 w x v k\/P5 w x v k
def hasB (w:World) (x:AB) (v:Value) (k:Nat):Prop:=cU v=some k\/TR w x v k
theorem tY {w:World} {x:AB} {v:Value} {k:Nat} (h:cU v=some k):hasB w x v k:=.inl h
theorem kH {w w':World} {es:List (List HX)} {g a j:Nat} {u:Value} (hw:w'.heap[g]?=w.heap[g]?) (h:dG w' es g a j u):dG w es g a j u:=by
 obtain⟨r,e,xs,c,ty,m,h1,h2,h3,h4⟩:=h
 exact⟨r,e,xs,c,ty,m,h1,h2,by rw[<-hw];exact h3,h4⟩
theorem dC {w w':World} {x:AB} {v:Value} {k:Nat} (hw:∀g,cU v=some g->w'.heap[g]?=w.heap[g]?) (h:hasB w' x v k):hasB w x v k:=by
 rcases h with h | ⟨cs,g,hx,hv,c,ty,m,j,y,u,h1,h2⟩ | ⟨e,es,g,a,j,u,hx,hv,h1,h2⟩
 ·exact .inl h
 ·exact .inr (.inl ⟨cs,g,hx,hv,c,ty,m,j,y,u,by rw[<-hw g hv];exact h1,h2⟩)
 exact .inr (.inr ⟨e,es,g,a,j,u,hx,hv,kH (hw g hv) h1,h2⟩)
def Lq:AB->Bool
 | .bb _=>false
 | .aL _ _=>false
 | _=>true
theorem a6 {w:World} {x:AB} {v:Value} {k:Nat} (hx:Lq x=true) (h:hasB w x v k):cU v=some k:=by
 rcases h with h | ⟨cs,g,rfl,_⟩ | ⟨e,es,g,a,j,u,rfl,_⟩
 ·exact h
 ·cases hx
 cases hx
def eC (S:Nat->Prop) (w:World) (P:Program) (L:Nat->Prop) (rho:Nat->Value) (h:Nat->AB) (id:Nat):AB->Prop
 | .none=>True
 | .row e es=>aR P w (bu S w) e es (rho id)
 | .iv es=>bu S w (.sl es) (rho id)
 | .box cs=>∃g ty c,rho id=.pointer (some ⟨g,0,none⟩)/\w.heap[g]?=some (.cells c ty (0,0))/\c.size=cs.length/\∀(j:Nat) x u,cs[j]?=some x->c[j]?=some u->u.oneCell'=true/\bF S w P L rho h x u
 | .fF ty cs=>∃g c,rho id=.pointer (some ⟨g,0,none⟩)/\w.heap[g]?=some (.cells c ty (0,0))/\c.size=cs.length/\∀(j:Nat) x u,cs[j]?=some x->c[j]?=some u->u.oneCell'=true/\bF S w P L rho h x u
 | .iP cs=>bu S w (.ip cs) (rho id)
 | .bb cs=>∃g ty c,rho id=.pointer (some ⟨g,0,none⟩)/\EC S w P cs g ty c
 | .aL e es=>aR P w (o8 S w P L rho h) e es (rho id)/\rv w es (rho id)
 | .map mk es=>∃g ms clock,rho id=.map (some g)/\w.heap[g]?=some (.map ms clock)/\ms.size=es.length/\∀(i:Nat) p m,es[i]?=some p->ms[i]?=some m->m.key=p.1/\mk.ok p.1/\bu S w p.2 m.val
end Go.AM
namespace Go.AM
open Go.RowKit
inductive UD where
 | sc
 | int (k:IntKind)
 | st (fs:List (Nat×Nat×Bool))
 | sl (e:TypeId)
 | str
 | mp (k e:TypeId)
structure TI where
 ud:UD
 size:Nat
 bytes:Nat
 zero:List Value
 eq:Bool:=false
def UD.agg:UD->Bool
 | .st _=>true
 | _=>false
inductive Arg where
 | pv (x:PV)
 | row (e:TypeId) (es:List (List PV))
 | box (cs:List PV)
 | bb (cs:List HC)
inductive AR where
 | p (x:PV)
 | own (e:TypeId) (es:List (List PV))
 | tu (xs:List PV)
 | hown (cs:List HC)
inductive Fin where
 | gone
 | row (es:List (List PV))
 | box (cs:List PV)
 | bb (cs:List HC)
structure Ctx where
 P:Program
 T:TypeId->Option TI
 md:FuncId->Nat->Bool
 E:(Nat->Prop)->World->Prop
 bl:FuncId->Bool:=fun _=>false
 bt:TypeId->Bool:=fun _=>false
 bn:TypeId->Bool:=fun _=>false
 bo:TypeId->Bool:=fun _=>false
 bf:Nat->Bool:=fun _=>false
def v8:Value->Value->Bool
 | .string a,.string b=>decide (a=b)
 | .int _ a,.int _ b=>decide (a=b)
 | _,_=>false
def gR:List (Value×PV)->Value->Option PV
 | [],_=>none
 | (k',v)::r,k=>match v8 k k' with
  | true=>some v
  | false=>gR r k
def jw:List (Value×PV)->Value->PV->List (Value×PV)
 | [],k,v=>[(k,v)]
 | (k',u)::r,k,v=>match v8 k k' with
  | true=>(k,v)::r
  | false=>(k',u)::jw r k v
def Gh:UD->Option MK
 | .str=>some .str
 | .int k=>some (.int k)
 | _=>none
def P9:MK->MK->Bool
 | .str,.str=>true
 | .int .i64,.int .i64=>true
 | _,_=>false
def keyOf:MK->AV->Option Value
 | .str,.p (.im (.string s))=>some (.string s)
 | .int .i64,.p (.im (.int .i64 n))=>some (.int .i64 n)
 | _,_=>none
abbrev KK:=AV->List (Nat×AB)->Option AB->Prop
def app (h:Nat->AB):List (Nat×AB)->Nat->AB
 | []=>h
 | (i,b)::r=>app (br h i b) r
def pB:Value->PV
 | .slice none 0 0=>.sl []
 | v=>.im v
def P_ (b:Bool) (v:Value):PV:=match b with
 | true=>.im v
 | false=>pB v
def M_:PV->AV
 | .im (.slice none 0 0)=>.nl
 | x=>.p x
def ED:Value->AV
 | .slice none 0 0=>.nl
 | v=>.p (.im v)
def xS:Value->AV
 | .slice none 0 0=>.nl
 | .agg cs=>match cs.toList.all Value.oneCell' with
  | true=>.p (.ag (cs.toList.map pB))
  | false=>.junk
 | v=>.p (.im v)
def ev (t:Nat->AV):Operand->AV
 | .tmp j=>t j
 | .const v=>xS v
 | .global g=>.p (.im (.pointer (some ⟨g,0,none⟩)))
 | .func f=>.p (.im (.func (.func f) #[] #[]))
def dT:List AV->Option (List PV)
 | []=>some []
 | .p x::r=>(dT r).map (x::·)
 | .nl::r=>(dT r).map (.sl []::·)
 | _=>none
def jN (h:Nat->AB) (a:AV) (K:PV->List (Nat×AB)->Prop):Prop:=
 match a with
 | .p x=>K x []
 | .nl=>K (.sl []) []
 | .ow id=>match h id with
  | .row _ es=>K (.sl es) [(id,.iv es)]
  | .iv es=>K (.sl es) []
  | _=>False
 | .bx id off=>match h id with
  | .box cs=>match dT cs with
   | some xs=>K (.ip (xs.drop off)) [(id,.iP xs)]
   | none=>False
  | .iP xs=>K (.ip (xs.drop off)) []
  | _=>False
 | _=>False
def sF (h:Nat->AB):List AV->(List PV->List (Nat×AB)->Prop)->Prop
 | [],K=>K [] []
 | a::r,K=>jN h a fun x fz=>sF h r fun xs W0=>K (x::xs) (fz++W0)
def gC (h:Nat->AB) (a:AV) (K:PV->List (Nat×AB)->Prop):Prop:=
 match a with
 | .fn f cap=>sF h cap fun xs fz=>K (.fn f xs) fz
 | a=>jN h a K
def pC:PV->Option (List PV)
 | .ag cs=>some cs
 | .im x=>match x.oneCell' with
  | true=>some [.im x]
  | false=>none
 | x=>some [x]
def ry (h:Nat->AB):AV->Bool
 | .p (.im x)=>x.oneCell'
 | .p (.ag _)=>false
 | .p _=>true
 | .nl=>true
 | .ow id=>match h id with
  | .row _ _=>true
  | .aL _ _=>true
  | .iv _=>true
  | _=>false
 | .bx id _=>match h id with
  | .none=>false
  | _=>true
 | .rp id _ _=>match h id with
  | .row _ _=>true
  | .aL _ _=>true
  | _=>false
 | .fn _ _=>true
 | _=>false
def setCells {α:Type}:List α->Nat->List α->List α
 | cs,_,[]=>cs
 | cs,off,x::r=>setCells (cs.set off x) (off+1) r
def p8 (id:Nat):List (Nat×AB)->Bool
 | []=>true
 | (i,_)::r=>match Nat.beq i id with
  | true=>false
  | false=>p8 id r
def DK (a b:Nat):Bool:=Nat.ble a b
def v_ (a b:Nat):Bool:=Nat.beq a b
def TS (x:Int):Prop:=-9223372036854775808<=x/\x<=9223372036854775807
def Ls {α:Type}:List α->Bool
 | []=>true
 | _=>false
def kB (a b:IntKind):Bool:=match a,b with
 | .i8,.i8 | .i16,.i16 | .i32,.i32 | .i64,.i64 | .u8,.u8 | .u16,.u16 | .u32,.u32 | .u64,.u64=>true
 | _,_=>false
def Nu:IntKind->Bool
 | .i64=>true
 | _=>false
def rz (k:IntKind) (n:Int) (K:Value->Prop):Prop:=match Nu k with
 | true=>TS n/\K (.int .i64 n)
 | false=>K (.int k (k.wrap n))
def dF:List PV->List PV->Option Bool
 | [],[]=>some true
 | .im (.int k a)::r,.im (.int k' b)::s=>match kB k k' with
  | true=>(dF r s).map (decide (a=b) && ·)
  | false=>none
 | _,_=>none
def EE (T:TypeId->Option TI) (op:BinOp) (t:TypeId) (x:PV) (K:Value->Prop):Prop:=match x with
 | .sl es=>match Ls es with
  | true=>False
  | false=>match T t with
   | some { ud:=.sl _,.. }=>match op with
    | .eql=>K (.bool false)
    | .neq=>K (.bool true)
    | _=>False
   | _=>False
 | _=>False
def Qa:BinOp->Bool
 | .shr=>true
 | _=>false
def pD (T:TypeId->Option TI) (op:BinOp) (t:TypeId) (x y:PV) (K:Value->Prop):Prop:=
 match x,y with
 | .im (.int k a),.im (.int k' b)=>match Qa op with
  | true=>(0<=b/\b < 64)/\K (.int k (a.fdiv (2 ^ (min b.toNat k.bits))))
  | false=>match kB k k' with
  | false=>False
  | true=>match op with
   | .add=>rz k (a+b) K
   | .sub=>rz k (a - b) K
   | .mul=>rz k (a*b) K
   | .quo=>b≠0/\rz k (a.tdiv b) K
   | .rem=>b≠0/\K (.int k (a.tmod b))
   | .eql=>K (.bool (decide (a=b)))
   | .neq=>K (.bool (!decide (a=b)))
   | .lss=>K (.bool (decide (a < b)))
   | .leq=>K (.bool (decide (a<=b)))
   | .gtr=>K (.bool (decide (a > b)))
   | .geq=>K (.bool (decide (a>=b)))
   | _=>False
 | .im (.string a),.im (.string b)=>match op with
  | .add=>a.size+b.size<=9223372036854775807/\K (.string (a++b))
  | .eql=>K (.bool (decide (a=b)))
  | .neq=>K (.bool (!decide (a=b)))
  | .lss=>K (.bool (Op.bytesLess a.data.toList b.data.toList))
  | .leq=>K (.bool (Op.bytesLess a.data.toList b.data.toList || decide (a=b)))
  | .gtr=>K (.bool !(Op.bytesLess a.data.toList b.data.toList || decide (a=b)))
  | .geq=>K (.bool !(Op.bytesLess a.data.toList b.data.toList))
  | _=>False
 | .im (.bool a),.im (.bool b)=>match T t with
  | some { ud:=.sc,eq:=true,.. }=>match op with
   | .eql=>K (.bool (decide (a=b)))
   | .neq=>K (.bool (!decide (a=b)))
   | _=>False
  | _=>False
 | .ag a,.ag b=>match T t with
  | some { ud:=.st _,eq:=true,size:=n,.. }=>match v_ n a.length with
   | false=>False
   | true=>match op with
    | .eql=>match dF a b with
     | some r=>K (.bool r)
     | none=>False
    | .neq=>match dF a b with
     | some r=>K (.bool !r)
     | none=>False
    | _=>False
  | _=>False
 | _,_=>False
def B2 (S:Nat->Prop) (w:World) (P:Program):Arg->Value->Prop
 | .pv x,v=>bu S w x v
 | .row e es,v=>aR P w (bu S w) e es v/\∀g,cU v=some g->¬S g
 | .box cs,v=>∃g ty c,v=.pointer (some ⟨g,0,none⟩)/\w.heap[g]?=some (.cells c ty (0,0))/\c.size=cs.length/\¬S g/\∀(j:Nat) x u,cs[j]?=some x->c[j]?=some u->u.oneCell'=true/\bu S w x u
 | .bb cs,v=>∃g ty c,v=.pointer (some ⟨g,0,none⟩)/\EC S w P cs g ty c/\∀k,hasB w (.bb cs) v k->¬S k/\k < w.heap.size
def xT:Arg->AB
 | .bb cs=>.bb cs
 | _=>.none
def Lt:Fin->AB
 | .bb cs=>.bb cs
 | _=>.none
def Arg.handed:Arg->Bool
 | .pv _=>false
 | _=>true
def Mv (w:World) (args:List Arg) (vs:Array Value) (g:Nat):Prop:=∃(j:Nat) (x:Arg) (v:Value),args[j]?=some x/\vs[j]?=some v/\x.handed=true/\hasB w (xT x) v g
def rA (S:Nat->Prop) (w:World) (P:Program):Arg->Fin->Value->Prop
 | _,.gone,_=>True
 | .row e _,.row es,v=>aR P w (bu S w) e es v/\∀g,cU v=some g->¬S g
 | .box _,.box cs,v=>∃g ty c,v=.pointer (some ⟨g,0,none⟩)/\w.heap[g]?=some (.cells c ty (0,0))/\c.size=cs.length/\¬S g/\∀(j:Nat) x u,cs[j]?=some x->c[j]?=some u->u.oneCell'=true/\bu S w x u
 | .bb _,.bb cs,v=>∃g ty c,v=.pointer (some ⟨g,0,none⟩)/\EC S w P cs g ty c/\∀k,hasB w (.bb cs) v k->¬S k
 | _,_,_=>False
def Fin.kept:Fin->Bool
 | .gone=>false
 | _=>true
def Gi (S:Nat->Prop) (w:World) (P:Program):AR->Value->Prop
 | .p x,v=>bu S w x v
 | .own e es,v=>aR P w (bu S w) e es v/\∀g,cU v=some g->¬S g
 | .hown cs,v=>∃g ty c,v=.pointer (some ⟨g,0,none⟩)/\EC S w P cs g ty c/\∀k,hasB w (.bb cs) v k->¬S k
 | .tu xs,v=>∃vs:Array Value,v=.tuple vs/\xs.length=vs.size/\∀(i:Nat) x u,xs[i]?=some x->vs[i]?=some u->bu S w x u
def AR.owns:AR->Bool
 | .own ..=>true
 | .hown ..=>true
 | _=>false
def AR.ab:AR->AB
 | .hown cs=>.bb cs
 | _=>.none
def eK (S:Nat->Prop) (w:World) (P:Program):List Arg->List Fin->List Value->Prop
 | [],[],[]=>True
 | x::xs,fs,v::vs=>match x.handed with
  | false=>eK S w P xs fs vs
  | true=>match fs with
   | f::fs=>rA S w P x f v/\eK S w P xs fs vs
   | []=>False
 | _,_,_=>False
def dw (w:World):List Arg->List Fin->List Value->Nat->Nat->Prop
 | x::xs,fs,v::vs,i,g=>match x.handed with
  | false=>match i with
   | 0=>False
   | i+1=>dw w xs fs vs i g
  | true=>match fs with
   | f::fs=>match i with
    | 0=>f.kept=true/\hasB w (Lt f) v g
    | i+1=>dw w xs fs vs i g
   | []=>False
 | _,_,_,_,_=>False
def p9 (w w':World) (args:List Arg) (fin:List Fin) (vs:Array Value):Prop:=
 (∀i g,dw w' args fin vs.toList i g->g < w'.heap.size/\(w.heap.size<=g\/Mv w args vs g))/\∀i j g,dw w' args fin vs.toList i g->dw w' args fin vs.toList j g->i=j
def aD (C:Ctx) (f:FuncId) (args:List Arg) (r:AR) (fin:List Fin):Prop:=
 (∃ fn : Func, C.P.funcs[f]? = some fn ∧ (fn.name == "runtime.NumGoroutine") = false ∧ fn.body.isNone = false) ∧
 ∀(S:Nat->Prop) (w:World) (vs:Array Value),C.E S w->(∀b,S b->b < w.heap.size)->args.length=vs.size ->
  (∀(j:Nat) x v,args[j]?=some x->vs[j]?=some v->B2 S w C.P x v)->
  (∀(i j:Nat) x y v u g,args[i]?=some x->args[j]?=some y->vs[i]?=some v->vs[j]?=some u->x.handed=true->y.handed=true->hasB w (xT x) v g->hasB w (xT y) u g->i=j)->
  Calls C.P f vs w fun e w'=>∃v S',e=.returned v/\Fr (Mv w args vs) w w'/\(∀b,S b->S' b)/\(∀b,S' b->b < w'.heap.size)/\(∀b,S' b->S b\/w.heap.size<=b\/Mv w args vs b)/\
   Gi S' w' C.P r v/\eK S' w' C.P args fin vs.toList/\p9 w w' args fin vs/\(∀g,r.owns=true->hasB w' r.ab v g->g < w'.heap.size/\(w.heap.size<=g\/Mv w args vs g)/\∀i,¬dw w' args fin vs.toList i g)
def gj (md:Nat->Bool) (h:Nat->AB):Nat->List AV->(List Arg->List (Nat×AB)->List (Nat×AB)->Prop)->Prop
 | _,[],K=>K [] [] []
 | j,a::r,K=>match md j with
  | false=>gC h a fun x fz=>gj md h (j+1) r fun xs ids W0=>K (.pv x::xs) ids (fz++W0)
  | true=>match a with
   | .ow id=>match h id with
    | .row e es=>gj md h (j+1) r fun xs ids fz=>K (.row e es::xs) ((id,.row e es)::ids) fz
    | .iv es=>gj md h (j+1) r fun xs ids fz=>K (.pv (.sl es)::xs) ids fz
    | _=>False
   | .p x=>gj md h (j+1) r fun xs ids fz=>K (.pv x::xs) ids fz
   | .bx id 0=>match h id with
    | .box cs=>match dT cs with
     | some ys=>gj md h (j+1) r fun xs ids fz=>K (.box ys::xs) ((id,.box cs)::ids) fz
     | none=>False
    | .bb cs=>gj md h (j+1) r fun xs ids fz=>K (.bb cs::xs) ((id,.bb cs)::ids) fz
    | _=>False
   | _=>False
def Gj:PV->Bool
 | .im _=>true
 | .ag cs=>cs.all fun | .im _=>true | _=>false
 | _=>false
def AR.free:AR->Bool
 | .p x=>Gj x
 | .tu xs=>xs.all Gj
 | .own ..=>false
 | .hown ..=>false
def gD:List (Nat×AB)->List Fin->Option (List (Nat×AB))
 | [],[]=>some []
 | (id,_)::ids,.gone::fs=>(gD ids fs).map ((id,.none)::·)
 | (id,.row e _)::ids,.row es::fs=>(gD ids fs).map ((id,.row e es)::·)
 | (id,.box _)::ids,.box cs::fs=>(gD ids fs).map ((id,.box (cs.map .p))::·)
 | (id,.bb _)::ids,.bb cs::fs=>(gD ids fs).map ((id,.bb cs)::·)
 | _,_=>none
def Qb:AR->Option AB
 | .own e es=>some (.row e es)
 | .hown cs=>some (.bb cs)
 | _=>none
def Na (d:Nat):AR->AV
 | .p x=>.p x
 | .own ..=>.ow d
 | .hown _=>.bx d 0
 | .tu xs=>.tu (xs.map .p)
def isNil {α:Type}:List α->Bool
 | []=>true
 | _=>false
def DL:List (Nat×AB)->List (Nat×AB)->Bool
 | [],_=>true
 | (i,_)::r,fz=>p8 i fz && p8 i r && DL r fz
def mg (C:Ctx) (h:Nat->AB) (d:Nat) (f:FuncId) (args:List AV) (K:KK):Prop:=
 gj (C.md f) h 0 args fun xs ids fz=>∃r fin,aD C f xs r fin/\match gD ids fin with
  | some fe=>match DL ids fz with
   | true=>match r.free && isNil ids with
    | true=>K (Na d r) [] none
    | false=>K (Na d r) (fz++fe) (Qb r)
   | false=>False
  | none=>False
inductive Nb:HX->PV->Prop
 | p (x:PV):Nb (.av (.p x)) x
 | nl:Nb (.av .nl) (.sl [])
 | row (e:TypeId) (xs:List (List PV)):Nb (.row e xs) (.sl xs)
structure IV (es:List (List HX)) (ps:List (List PV)):Prop where
 len:ps.length=es.length
 row:∀(a:Nat) r q,es[a]?=some r->ps[a]?=some q->q.length=r.length/\∀(j:Nat) x y,r[j]?=some x->q[j]?=some y->Nb x y
inductive ly (h:Nat->AB):AV->PV->Prop
 | p (x:PV):ly h (.p x) x
 | nl:ly h .nl (.sl [])
 | row (id:Nat) (e:TypeId) (es:List (List PV)) (hr:h id=.row e es):ly h (.ow id) (.sl es)
 | iv (id:Nat) (es:List (List PV)) (hr:h id=.iv es):ly h (.ow id) (.sl es)
 | aL (id:Nat) (e:TypeId) (es:List (List HX)) (ps:List (List PV)) (hr:h id=.aL e es) (hp:IV es ps):ly h (.ow id) (.sl ps)
inductive mh (h:Nat->AB):List AV->List PV->Prop
 | nil:mh h [] []
 | cons {a:AV} {x:PV} {as:List AV} {xs:List PV} (h1:ly h a x) (h2:mh h as xs):mh h (a::as) (x::xs)
inductive View (h:Nat->AB):AV->PV->Prop
 | one {a:AV} {x:PV} (h1:ly h a x):View h a x
 | box (id off:Nat) (cs:List AV) (xs:List PV) (hb:h id=.box cs) (hx:mh h cs xs):View h (.bx id off) (.ip (xs.drop off))
 | iP (id off:Nat) (xs:List PV) (hb:h id=.iP xs):View h (.bx id off) (.ip (xs.drop off))
inductive p_ (h:Nat->AB):List AV->List PV->Prop
 | nil:p_ h [] []
 | cons {a:AV} {x:PV} {as:List AV} {xs:List PV} (h1:View h a x) (h2:p_ h as xs):p_ h (a::as) (x::xs)
def Nv (C:Ctx) (h:Nat->AB) (d:Nat) (f:FuncId) (args:List AV) (K:KK):Prop:=∃xs r,p_ h args xs/\aD C f (xs.map .pv) r []/\r.free=true/\K (Na d r) [] none
def Qc:AV->Bool
 | .ow _=>true
 | _=>false
def wa {α:Type} (f:α->Bool):List α->Bool
 | []=>false
 | x::r=>match f x with
  | true=>true
  | false=>wa f r
def ee (h:Nat->AB):AV->Bool
 | .bx id _=>match h id with
  | .box cs=>wa Qc cs
  | _=>false
 | .ow id=>match h id with
  | .aL _ _=>true
  | _=>false
 | _=>false
def sG (C:Ctx) (h:Nat->AB) (d:Nat) (f:FuncId) (args:List AV) (K:KK):Prop:=match wa (ee h) args with
 | false=>mg C h d f args K
 | true=>Nv C h d f args K
def xU (C:Ctx) (f:FuncId) (xs:List PV) (ty e:TypeId) (es:List (List PV)) (r:AR) (ch:Bool) (wk:Option (List (List PV))):Prop:=
 (∃ fn : Func, C.P.funcs[f]? = some fn ∧ (fn.name == "runtime.NumGoroutine") = false ∧ fn.body.isNone = false) ∧
 ∀(S:Nat->Prop) (w:World) (vs:List Value) (b:Nat) (u0 u1:Value),C.E S w->(∀k,S k->k < w.heap.size)->xs.length=vs.length ->
  (∀(j:Nat) x v,xs[j]?=some x->vs[j]?=some v->bu S w x v)->w.heap[b]?=some (.cells #[u0,u1] ty (0,0))->(u0=.pointer none\/u0=.pointer (some ⟨b,0,none⟩))->
  aR C.P w (bu S w) e es u1->¬S b->(∀g,cU u1=some g->¬S g/\g≠b/\g < w.heap.size)->
  Calls C.P f (vs++[Value.pointer (some ⟨b,0,none⟩)]).toArray w fun e' w'=>∃v,e'=.returned v/\Fr (fun k=>k=b\/cU u1=some k) w w'/\Gi S w' C.P r v/\match wk with
   | none=>True
   | some wk=>∃u1',w'.heap[b]?=some (.cells #[(match ch with | true=>Value.pointer (some ⟨b,0,none⟩) | false=>u0),u1'] ty (0,0))/\aR C.P w' (bu S w') e wk u1'/\∀g,cU u1'=some g->g < w'.heap.size/\(cU u1=some g\/w.heap.size<=g)
def oA:List AV->Option (List AV×AV)
 | []=>none
 | [x]=>some ([],x)
 | x::y::r=>match oA (y::r) with
  | some (l,z)=>some (x::l,z)
  | none=>none
def Kz (id:Nat):AV->Bool
 | .p (.im (.pointer none))=>true
 | .bx i 0=>Nat.beq i id
 | _=>false
def sH (ch:Bool) (id:Nat) (c:AV):AV:=match ch with
 | true=>.bx id 0
 | false=>c
def sJ (C:Ctx) (h:Nat->AB) (d:Nat) (f:FuncId) (args:List AV) (K:KK):Prop:=
 match oA args with
 | some (as,.bx id 0)=>match h id with
  | .fF ty [c,.ow jO]=>match Kz id c with
   | true=>match h jO with
    | .row e es=>sF h as fun xs fz=>∃r ch wk,xU C f xs ty e es r ch wk/\match r.free && (p8 id fz && (p8 jO fz && !Nat.beq id jO)) with
     | true=>match wk with
      | some wk=>K (Na d r) (fz++[(jO,.none),(id,.fF ty [sH ch id c,.ow d])]) (some (.row e wk))
      | none=>K (Na d r) (fz++[(jO,.none),(id,.none)]) none
     | false=>False
    | _=>False
   | false=>False
  | _=>False
 | _=>False
def iy (h:Nat->AB) (fs:List (Nat×Nat×Bool)) (rho:Operand->AV):List (Nat×Operand)->List PV->(List PV->List (Nat×AB)->Prop)->Prop
 | [],cs,K=>K cs []
 | (i,x)::r,cs,K=>match fs[i]? with
  | some (off,size,_)=>gC h (rho x) fun y fz=>match pC y with
   | some ys=>match v_ ys.length size && DK (off+size) cs.length with
    | true=>iy h fs rho r (setCells cs off ys) fun kI W0=>K kI (fz++W0)
    | false=>False
   | none=>False
  | none=>False
def js (h:Nat->AB) (fs:List (Nat×Nat×Bool)) (rho:Operand->AV):List (Nat×Operand)->List AV->(List AV->Prop)->Prop
 | [],cs,K=>K cs
 | (i,x)::r,cs,K=>match fs[i]? with
  | some (off,size,_)=>match v_ size 1 && DK (off+1) cs.length && ry h (rho x) with
   | true=>js h fs rho r (cs.set off (rho x)) K
   | false=>False
  | none=>False
def sK (b:Bool) (h:Nat->AB) (a:AV) (K:PV->List (Nat×AB)->Prop):Prop:=match b,a with
 | true,.nl=>K (.im (.slice none 0 0)) []
 | _,a=>gC h a K
def fG (b:Bool) (h:Nat->AB) (size:Nat) (rho:Operand->AV):List (Nat×Operand)->List (List PV)->(List (List PV)->List (Nat×AB)->Prop)->Prop
 | [],es,K=>K es []
 | (i,x)::r,es,K=>sK b h (rho x) fun y fz=>match pC y with
  | some ys=>match v_ ys.length size && Nat.blt i es.length with
   | true=>fG b h size rho r (es.set i ys) fun wk W0=>K wk (fz++W0)
   | false=>False
  | none=>False
def fH (h:Nat->AB) (a:AV) (K:List (List PV)->Prop):Prop:=match a with
 | .p (.sl es)=>K es
 | .nl=>K []
 | .ow id=>match h id with
  | .row _ es=>K es
  | .iv es=>K es
  | _=>False
 | _=>False
inductive CK where
 | len
 | clear
 | min
 | max
 | append
 | val (g:Operand)
 | other
def eS:Builtin->CK
 | .len=>.len
 | .clear=>.clear
 | .min=>.min
 | .max=>.max
 | .append=>.append
 | _=>.other
def ef:Callee->CK
 | .builtin b=>eS b
 | .value g=>.val g
 | .invoke _ _=>.other
def DM:Fn->Option FuncId
 | .func f=>some f
 | _=>none
def DN:Value->Option (FuncId×List AV)
 | .func fn first cap=>match isNil first.toList && isNil cap.toList with
  | true=>match DM fn with
   | some f=>some (f,[])
   | none=>none
  | false=>none
 | _=>none
def DO:PV->Option (FuncId×List AV)
 | .im v=>DN v
 | .fn f cap=>some (f,cap.map .p)
 | _=>none
def tZ:AV->Option (FuncId×List AV)
 | .p x=>DO x
 | .fn f cap=>some (f,cap)
 | _=>none
def t_ (ti:TI):PV:=match ti.ud.agg with
 | true=>.ag (ti.zero.map pB)
 | false=>match ti.zero with
  | z::_=>pB z
  | []=>.im undef
def fx (C:Ctx) (rho:Operand->AV) (h:Nat->AB) (t:TypeId) (x:Operand) (lo hi:Option Operand) (K:KK):Prop:=
  let l:=match lo with | some y=>rho y | none=>.p (.im (.int .i64 0))
  match C.T t with
  | some { ud:=.str,.. }=>match rho x with
   | .p (.im (.string s))=>
    match l,(match hi with | some y=>rho y | none=>.p (.im (.int .i64 s.size))) with
    | .p (.im (.int _ a)),.p (.im (.int _ b))=>(0<=a/\a<=b/\b<=s.size)/\K (.p (.im (.string (s.extract a.toNat b.toNat)))) [] none
    | _,_=>False
   | _=>False
  | some { ud:=.sl e,.. }=>match C.T e with
   | none=>False
   | some te=>gC h (rho x) fun y fz=>match y with
    | .sl es=>match l,(match hi with | some y=>rho y | none=>.p (.im (.int .i64 es.length))) with
     | .p (.im (.int _ a)),.p (.im (.int _ b))=>(0<=a/\a<=b/\b<=es.length/\∀r∈es,r.length=te.size)/\K (.p (.sl ((es.take b.toNat).drop a.toNat))) fz none
     | _,_=>False
    | _=>False
  | _=>False
def qa (C:Ctx) (rho:Operand->AV) (t:TypeId) (lo hi:Option Operand) (id:Nat) (e':TypeId) (es:List (List PV)) (K:KK):Prop:=
 match C.T t with
 | some { ud:=.sl e,.. }=>match v_ e' e with
  | true=>match (match lo with | some y=>rho y | none=>.p (.im (.int .i64 0))),(match hi with | some y=>rho y | none=>.p (.im (.int .i64 es.length))) with
   | .p (.im (.int _ a)),.p (.im (.int _ b))=>(0<=a/\a<=b/\b<=es.length)/\K (.vw id a.toNat b.toNat) [] none
   | _,_=>False
  | false=>False
 | _=>False
def hlen (h:Nat->AB):AV->Option Nat
 | .ow id=>match h id with
  | .aL _ es=>some es.length
  | _=>none
 | _=>none
def qb (r:List PV):List HX:=r.map fun x=>.av (M_ x)
def bY (C:Ctx) (o:Oper) (rho:Operand->AV) (h:Nat->AB) (K:KK):Prop:=
 let d:=o.dst.getD 0
 match o.op with
 | .move x=>K (rho x) [] none
 | .assign x=>K (rho x) [] none
 | .pick c a b=>match rho c with
  | .p (.im (.bool t))=>match t with
   | true=>K (rho a) [] none
   | false=>K (rho b) [] none
  | _=>False
 | .binOp op t x y _=>match rho x,rho y with
  | .p a,.p b=>pD C.T op t a b fun v=>K (.p (.im v)) [] none
  | .p a,.nl=>EE C.T op t a fun v=>K (.p (.im v)) [] none
  | _,_=>False
 | .unOp op _ x=>match op,rho x with
  | .not,.p (.im (.bool b))=>K (.p (.im (.bool !b))) [] none
  | .neg,.p (.im (.int k n))=>rz k (0 - n) fun v=>K (.p (.im v)) [] none
  | _,_=>False
 | .convert src dst x=>match rho x,C.T src,C.T dst with
  | .p (.im (.int _ n)),some _,some { ud:=.int k,.. }=>rz k n fun v=>K (.p (.im v)) [] none
  | .p (.im (.string s)),some { ud:=.str,.. },some { ud:=.str,.. }=>K (.p (.im (.string s))) [] none
  | _,_,_=>False
 | .nilCheck x=>match rho x with
  | .p (.ip cs)=>K (.p (.ip cs)) [] none
  | .bx id off=>match h id with
   | .box _=>K (.bx id off) [] none
   | .iP _=>K (.bx id off) [] none
   | _=>False
  | .rp id i off=>match h id with
   | .row _ _=>K (.rp id i off) [] none
   | .aL _ _=>K (.rp id i off) [] none
   | _=>False
  | _=>False
 | .extract x i=>match rho x with
  | .tu xs=>match xs[i]? with
   | some a=>K a [] none
   | none=>False
  | _=>False
 | .box _ x=>match rho x with
  | .p (.ag cs)=>K (.bx d 0) [] (some (.box (cs.map .p)))
  | .st xs=>K (.bx d 0) [] (some (.box xs))
  | a=>match ry h a with
   | true=>K (.bx d 0) [] (some (.box [a]))
   | false=>False
 | .alloc e=>match C.T e with
  | some ti=>match C.bt e with
   | false=>K (.bx d 0) [] (some (.box (ti.zero.map ED)))
   | true=>K (.bx d 0) [] (some (.fF e (ti.zero.map ED)))
  | none=>False
 | .load t a=>match C.T t with
  | none=>False
  | some ti=>match rho a with
   | .p (.ip cs)=>match ti.ud.agg with
    | true=>match DK ti.size cs.length with
     | true=>K (.p (.ag (cs.take ti.size))) [] none
     | false=>False
    | false=>match cs with
     | c::_=>K (.p c) [] none
     | []=>False
   | .bx id off=>match h id with
    | .box cs=>match ti.ud.agg with
     | true=>match DK (off+ti.size) cs.length,dT ((cs.drop off).take ti.size) with
      | true,some xs=>K (.p (.ag xs)) [] none
      | _,_=>False
     | false=>match cs.drop off with
      | c::_=>K c [] none
      | []=>False
    | .iP cs=>match ti.ud.agg with
     | true=>match DK (off+ti.size) cs.length with
      | true=>K (.p (.ag ((cs.drop off).take ti.size))) [] none
      | _=>False
     | false=>match cs.drop off with
      | c::_=>K (.p c) [] none
      | []=>False
    | _=>False
   | .rp id i off=>match h id with
    | .row _ es=>∃r,es[i]?=some r/\match ti.ud.agg with
     | true=>match DK (off+ti.size) r.length with
      | true=>K (.p (.ag ((r.drop off).take ti.size))) [] none
      | _=>False
     | false=>match r.drop off with
      | c::_=>K (.p c) [] none
      | []=>False
    | .aL _ es=>∃r,es[i]?=some r/\match ti.ud.agg with
     | true=>False
     | false=>match r.drop off with
      | .av c::_=>K c [] none
      | _=>False
    | _=>False
   | _=>False
 | .store t a x=>match C.T t with
  | none=>False
  | some ti=>match rho a with
   | .bx id off=>match h id with
    | .box cs=>match ti.ud.agg with
     | true=>gC h (rho x) fun y fz=>match y with
      | .ag ys=>match v_ ys.length ti.size && DK (off+ti.size) cs.length && p8 id fz with
       | true=>K .junk (fz++[(id,.box (setCells cs off (ys.map M_)))]) none
       | false=>False
      | _=>False
     | false=>match DK (off+1) cs.length && v_ ti.size 1 && ry h (rho x) with
      | true=>K .junk [(id,.box (cs.set off (rho x)))] none
      | false=>False
    | _=>False
   | .rp id i off=>match h id with
    | .row e es=>∃r,es[i]?=some r/\gC h (rho x) fun y fz=>match pC y with
     | some ys=>match v_ ys.length ti.size && DK (off+ti.size) r.length && p8 id fz with
      | true=>K .junk (fz++[(id,.row e (es.set i (setCells r off ys)))]) none
      | false=>False
     | none=>False
    | .aL e es=>∃r,es[i]?=some r/\match ti.ud.agg with
     | true=>False
     | false=>match DK (off+1) r.length && v_ ti.size 1 && ry h (rho x) with
      | true=>K .junk [(id,.aL e (es.set i (r.set off (.av (rho x)))))] none
      | false=>False
    | _=>False
   | _=>False
 | .fieldAddr t x f=>match C.T t with
  | some { ud:=.st fs,.. }=>match fs[f]? with
   | some (off,_,_)=>match rho x with
    | .p (.ip cs)=>K (.p (.ip (cs.drop off))) [] none
    | .bx id o=>match h id with
     | .none=>False
     | _=>K (.bx id (o+off)) [] none
    | .rp id i o=>match h id with
     | .row _ _=>K (.rp id i (o+off)) [] none
     | .aL _ _=>K (.rp id i (o+off)) [] none
     | _=>False
    | _=>False
   | none=>False
  | _=>False
 | .field t x f=>match C.T t,rho x with
  | some { ud:=.st fs,.. },.p (.ag cs)=>match fs[f]? with
   | some (off,size,agg)=>match agg with
    | true=>match DK (off+size) cs.length with
     | true=>K (.p (.ag ((cs.drop off).take size))) [] none
     | false=>False
    | false=>match cs.drop off with
     | c::_=>K (.p c) [] none
     | []=>False
   | none=>False
  | _,_=>False
 | .indexAddr t x ix=>match C.T t,rho ix with
  | some { ud:=.sl e,.. },.p (.im (.int _ i))=>match C.T e with
   | none=>False
   | some te=>match rho x with
    | .p (.sl es)=>∃r,(0<=i/\es[i.toNat]?=some r)/\match v_ r.length te.size with
     | true=>K (.p (.ip r)) [] none
     | false=>False
    | .ow id=>match h id with
     | .row e' es=>match v_ e' e with
      | true=>(0<=i/\i.toNat < es.length)/\K (.rp id i.toNat 0) [] none
      | false=>False
     | .aL e' es=>match v_ e' e with
      | true=>(0<=i/\i.toNat < es.length)/\K (.rp id i.toNat 0) [] none
      | false=>False
     | .iv es=>∃r,(0<=i/\es[i.toNat]?=some r)/\match v_ r.length te.size with
      | true=>K (.p (.ip r)) [] none
      | false=>False
     | _=>False
    | _=>False
  | _,_=>False
 | .index t x ix=>match C.T t,rho x,rho ix with
  | some { ud:=.str,.. },.p (.im (.string s)),.p (.im (.int _ i))=>∃b,(0<=i/\s[i.toNat]?=some b)/\K (.p (.im (.int .u8 b.toNat))) [] none
  | _,_,_=>False
 | .slice t x lo hi none=>match rho x with
  | .ow id=>match h id with
   | .row e' es=>qa C rho t lo hi id e' es K\/fx C rho h t x lo hi K
   | _=>fx C rho h t x lo hi K
  | _=>fx C rho h t x lo hi K
 | .makeMap t none=>match C.T t with
  | some { ud:=.mp kt _,.. }=>match C.T kt with
   | some tk=>match Gh tk.ud with
    | some mk=>K (.ow d) [] (some (.map mk []))
    | none=>False
   | none=>False
  | _=>False
 | .lookup t x i ck=>match C.T t with
  | some { ud:=.mp kt et,.. }=>match C.T kt,C.T et with
   | some tk,some te=>match Gh tk.ud with
    | some mk=>match rho x with
     | .ow id=>match h id with
      | .map mk' es=>match P9 mk mk' with
       | true=>match keyOf mk (rho i) with
        | some k=>∃r,gR es k=r/\match ck with
         | true=>K (.tu [.p (r.getD (t_ te)),.p (.im (.bool r.isSome))]) [] none
         | false=>K (.p (r.getD (t_ te))) [] none
        | none=>False
       | false=>False
      | _=>False
     | _=>False
    | none=>False
   | _,_=>False
  | _=>False
 | .mapUpdate t x i y=>match C.T t with
  | some { ud:=.mp kt _,.. }=>match C.T kt with
   | some tk=>match Gh tk.ud with
    | some mk=>match rho x with
     | .ow id=>match h id with
      | .map mk' es=>match P9 mk mk' with
       | true=>match keyOf mk (rho i) with
        | some k=>gC h (rho y) fun v fz=>match p8 id fz with
         | true=>K .junk (fz++[(id,.map mk' (jw es k v))]) none
         | false=>False
        | none=>False
       | false=>False
      | _=>False
     | _=>False
    | none=>False
   | none=>False
  | _=>False
 | .build t ps=>match C.T t with
  | some { ud:=.st fs,zero:=z,.. }=>match C.bo t with
   | false=>iy h fs rho ps.toList (z.map (P_ (C.bn t))) fun cs fz=>K (.p (.ag cs)) fz none
   | true=>js h fs rho ps.toList (z.map ED) fun cs=>K (.st cs) [] none
  | _=>False
 | .buildSlice t len ps=>match C.T t with
  | some { ud:=.sl e,.. }=>match C.T e with
   | some ti=>match Nat.blt 0 ti.size && DK (len*ti.size) 16777216 with
    | true=>match C.bf d with
     | false=>fG (C.bn t) h ti.size rho ps.toList (List.replicate len (ti.zero.map pB)) fun es fz=>K (.ow d) fz (some (.row e es))
     | true=>fG (C.bn t) h ti.size rho ps.toList (List.replicate len (ti.zero.map pB)) fun es fz=>K (.ow d) fz (some (.iv es))
    | false=>False
   | none=>False
  | _=>False
 | .makeSlice t n c=>match C.T t,rho n,rho c with
  | some { ud:=.sl e,.. },.p (.im (.int _ n)),.p (.im (.int _ c))=>match C.T e with
   | some ti=>match Nat.blt 0 ti.size with
    | true=>(0<=n/\n<=c/\c*ti.bytes<=140737488355328/\c<=9223372036854775807)/\K (.ow d) [] (some (.row e (List.replicate n.toNat (ti.zero.map pB))))
    | false=>False
   | none=>False
  | _,_,_=>False
 | .makeFunc (.func f) first cap=>match isNil first.toList with
  | true=>K (.fn f (cap.toList.map rho)) [] none
  | false=>False
 | .call c=>match ef c.callee with
  | .len=>match c.args.toList,c.argTypes.toList with
   | [x],[t]=>match C.T t with
    | some { ud:=.str,.. }=>match rho x with
     | .p (.im (.string s))=>K (.p (.im (.int .i64 s.size))) [] none
     | _=>False
    | some { ud:=.sl _,.. }=>match hlen h (rho x) with
     | some n=>K (.p (.im (.int .i64 n))) [] none
     | none=>fH h (rho x) fun es=>K (.p (.im (.int .i64 es.length))) [] none
    | some { ud:=.mp _ _,.. }=>match rho x with
     | .ow id=>match h id with
      | .map _ es=>K (.p (.im (.int .i64 es.length))) [] none
      | _=>False
     | _=>False
    | _=>False
   | _,_=>False
  | .clear=>match c.args.toList,c.argTypes.toList with
   | [x],[t]=>match C.T t with
    | some { ud:=.sl e,.. }=>match C.T e with
     | some ti=>match rho x with
      | .vw id lo hi=>match h id with
       | .row e' es=>match v_ e' e && Nat.blt 0 ti.size with
        | true=>(lo<=hi/\hi<=es.length)/\K (.tu []) [(id,.row e' (es.take lo++List.replicate (hi - lo) (ti.zero.map pB)++es.drop hi))] none
        | false=>False
       | _=>False
      | _=>False
     | none=>False
    | _=>False
   | _,_=>False
  | .min=>match c.args.toList with
   | [x,y]=>match rho x,rho y with
    | .p (.im (.int k a)),.p (.im (.int _ b))=>K (.p (.im (.int k (min a b)))) [] none
    | _,_=>False
   | _=>False
  | .max=>match c.args.toList with
   | [x,y]=>match rho x,rho y with
    | .p (.im (.int k a)),.p (.im (.int _ b))=>K (.p (.im (.int k (max a b)))) [] none
    | _,_=>False
   | [x,y,z]=>match rho x,rho y,rho z with
    | .p (.im (.int k a)),.p (.im (.int _ b)),.p (.im (.int _ c))=>K (.p (.im (.int k (max (max a b) c)))) [] none
    | _,_,_=>False
   | [x,y,z,u,v]=>match rho x,rho y,rho z,rho u,rho v with
    | .p (.im (.int k a)),.p (.im (.int _ b)),.p (.im (.int _ c)),.p (.im (.int _ d)),.p (.im (.int _ e))=>K (.p (.im (.int k (max (max (max (max a b) c) d) e)))) [] none
    | _,_,_,_,_=>False
   | _=>False
  | .append=>match c.args.toList,c.argTypes.toList with
   | [x,y],[t,t']=>match v_ t t',C.T t with
    | true,some { ud:=.sl e,.. }=>match C.T e with
     | some ti=>match Nat.blt 0 ti.size with
      | true=>fH h (rho y) fun ys=>match rho x with
       | .nl=>((∀r∈ys,r.length=ti.size)/\ys.length*ti.bytes<=140737488355328/\ys.length<=140737488355328)/\K (.ow d) [] (some (.row e ys))
       | .ow id=>match h id with
        | .row e' xs=>match v_ e' e with
         | true=>((∀r∈ys,r.length=ti.size)/\(xs.length+ys.length)*ti.bytes<=140737488355328/\xs.length+ys.length<=140737488355328)/\K (.ow d) [(id,.none)] (some (.row e (xs++ys)))
         | false=>False
        | .aL e' xs=>match v_ e' e with
         | true=>((∀r∈ys,r.length=ti.size)/\(xs.length+ys.length)*ti.bytes<=140737488355328/\xs.length+ys.length<=140737488355328)/\K (.ow d) [(id,.none)] (some (.aL e (xs++ys.map qb)))
         | false=>False
        | _=>False
       | _=>False
      | false=>False
     | none=>False
    | _,_=>False
   | _,_=>False
  | .val g=>match tZ (rho g) with
   | some (f,cap)=>match C.bl f with
    | false=>sG C h d f (c.args.toList.map rho++cap) K
    | true=>sJ C h d f (c.args.toList.map rho++cap) K
   | none=>False
  | _=>False
 | _=>False
end Go.AM
namespace Go.AM
open Go.RowKit
def lA (P:Program) (t:TypeId) (ti:TI):Prop:=
 ∃info z,P.info? t=some info/\info.size=ti.size/\info.bytes=ti.bytes/\info.zero=some z/\z.cells=ti.zero.toArray/\ti.zero.length=ti.size/\(∀v∈ti.zero,v.oneCell'=true)/\
  match ti.ud with
  | .sc=>(∃d,P.underlying t=some d/\(match d with | .struct _ | .array _ _=>False | _=>True))/\(ti.eq=true->P.underlying t=some .bool)
  | .int k=>P.underlying t=some (.int k)
  | .st fs=>∃gs,P.underlying t=some (.struct gs)/\fs.length=gs.size/\(∀(i:Nat) f g,fs[i]?=some f->gs[i]?=some g->f.1=g.offset/\f.2.1≠0/\(∃i2,P.info? g.type=some i2/\i2.size=f.2.1)/\
    (∃d,P.underlying g.type=some d/\f.2.2=(match d with | .struct _ | .array _ _=>true | _=>false)))
  | .sl e=>P.underlying t=some (.slice e)
  | .str=>P.underlying t=some .string
  | .mp k e=>P.underlying t=some (.map k e)
def Gk:Value->Bool
 | .agg _=>true
 | _=>false
def B3 (P:Program) (t:TypeId) (ti:TI):Prop:=∃info z,P.info? t=some info/\info.zero=some z/\Gk z=ti.ud.agg
structure bV (C:Ctx):Prop where
 zs:∀t ti,C.T t=some ti->B3 C.P t ti
 gE:∀t ti,C.T t=some ti->lA C.P t ti
 env:∀S S' w w',C.E S w->(∀b,S b->S' b)->(∀b,S b->w'.heap[b]?=w.heap[b]?)->w.heap.size<=w'.heap.size->C.E S' w'
 any:C.P.follows .mixedOrders=true
 eqs:∀t ti op a b r,C.T t=some ti->ti.eq=true->(∃fs,ti.ud=.st fs)->dF a b=some r->∀(xs ys:Array Value) w,(∀(i:Nat) x v,a[i]?=some x->xs[i]?=some v->x=.im v)->(∀(i:Nat) x v,b[i]?=some x->ys[i]?=some v->x=.im v)->
  a.length=xs.size->b.length=ys.size->ti.size=a.length->(op=.eql\/op=.neq)->∀(x y:Operand),(do eqGuard op t x y (.agg xs) (.agg ys);binOp op t (.agg xs) (.agg ys):Sem Value).run C.P w=.ok (.bool (if op=.eql then r else !r)) w
structure cV where
 C:Ctx
 w0:World
 mv:Nat->Prop
 s0:Nat->Prop
 n:Nat
 pin:Nat->Value
structure cu (A:cV) (V L:Nat->Prop) (S:Nat->Prop) (rho:Nat->Value) (s:AS) (a:Act) (w:World):Prop where
 tm:∀j,V j->bF S w A.C.P L rho s.h (s.t j) (a.tmps.getD j undef)
 sz:a.tmps.size=A.n
 df:a.defers=[]
 nb:A.n<=100000
 pn:∀id,100000<=id->rho id=A.pin id
 ev:A.C.E S w
 s0:∀b,A.s0 b->S b
 st:∀b,S b->b < w.heap.size
 sb:∀b,S b->A.s0 b\/A.mv b\/A.w0.heap.size<=b
 hp:∀id,L id->eC S w A.C.P L rho s.h id (s.h id)
 dj:∀i j g,L i->L j->(s.h i).live->(s.h j).live->hasB w (s.h i) (rho i) g->hasB w (s.h j) (rho j) g->i=j
 lv:∀i g,L i->(s.h i).live->hasB w (s.h i) (rho i) g->g < w.heap.size/\¬S g/\(A.mv g\/A.w0.heap.size<=g)
 fr:Fr A.mv A.w0 w
theorem cu.Pp {A:cV} {V L S:Nat->Prop} {rho:Nat->Value} {s:AS} {a:Act} {w:World} (sim:cu A V L S rho s a w) (i j g:Nat) (hi:L i) (hj:L j) (li:(s.h i).live) (lj:(s.h j).live) (bi:cU (rho i)=some g) (bj:cU (rho j)=some g):i=j:=sim.dj i j g hi hj li lj (.inl bi) (.inl bj)
theorem cu.nG {A:cV} {V L S:Nat->Prop} {rho:Nat->Value} {s:AS} {a:Act} {w:World} (sim:cu A V L S rho s a w) (i g:Nat) (hi:L i) (li:(s.h i).live) (bi:cU (rho i)=some g):g < w.heap.size/\¬S g/\(A.mv g\/A.w0.heap.size<=g):=sim.lv i g hi li (.inl bi)
structure jx (S S':Nat->Prop) (w w':World) (L L':Nat->Prop) (rho rho':Nat->Value) (h h':Nat->AB):Prop where
 hS:∀b,S b->S' b
 keep:∀b,S b->w'.heap[b]?=w.heap[b]?
 ids:∀id,(h' id).there->(h id).there/\(L id->L' id/\rho' id=rho id)
 rows:∀id e,(h' id).mf=some e->(h id).mf=some e
theorem mi {b:AB} {e:TypeId} (h:b.mf=some e):b.there:=by cases b <;> first | trivial | cases h
theorem bF.lz {S S':Nat->Prop} {w w':World} {P:Program} {L L':Nat->Prop} {rho rho':Nat->Value} {h h':Nat->AB} (T:jx S S' w w' L L' rho rho' h h') {x:AV} {v:Value}
  (hx:bF S w P L rho h x v):bF S' w' P L' rho' h' x v:=by
 induction hx with
 | p x v hx=>exact .p x v (hx.mono T.hS T.keep)
 | nl=>exact .nl
 | ow id v hv=>
  refine .ow id v fun ht=>?_
  obtain⟨h1,h2⟩:=T.ids id ht
  obtain⟨h3,h4⟩:=hv h1
  obtain⟨h5,h6⟩:=h2 h3
  exact⟨h5,by rw[h6];exact h4⟩
 | rp id i off v hv=>
  refine .rp id i off v fun e he=>?_
  obtain⟨h3,g,n,c,ti,h4,h5,h6⟩:=hv e (T.rows id e he)
  obtain⟨h7,h8⟩:=(T.ids id (mi he)).2 h3
  exact⟨h7,g,n,c,ti,by rw[h8];exact h4,h5,h6⟩
 | bx id off v hv=>
  refine .bx id off v fun ht=>?_
  obtain⟨h1,h2⟩:=T.ids id ht
  obtain⟨h3,g,h4,h7⟩:=hv h1
  obtain⟨h5,h6⟩:=h2 h3
  exact⟨h5,g,by rw[h6];exact h4,h7⟩
 | vw id lo hi v hv=>
  refine .vw id lo hi v fun e he=>?_
  obtain⟨h3,n,c,a,ti,h4,h5⟩:=hv e (T.rows id e he)
  obtain⟨h7,h8⟩:=(T.ids id (mi he)).2 h3
  exact⟨h7,n,c,a,ti,by rw[h8];exact h4,h5⟩
 | fn f cap vs hl hc ih=>exact .fn f cap vs hl ih
 | tu xs vs hl hc ih=>exact .tu xs vs hl ih
 | st xs vs hl h1 hc ih=>exact .st xs vs hl h1 ih
 | junk v=>exact .junk v
theorem qc {w w':World} {base:Nat} {e:TypeId} {size:Nat} {v:Value} {n:Nat} {xs:List Value} (h:w.ownsRow base e size v n xs) (hb:∀g,cU v=some g->w'.heap[g]?=w.heap[g]?):w'.ownsRow base e size v n xs:=by
 refine⟨h.1,?_⟩
 rcases h.2 with h2 | ⟨g,cap,cur,hv,hg,BZ,r⟩
 ·exact .inl h2
 exact .inr ⟨g,cap,cur,hv,hg,by rw[hb g (by rw[hv];rfl)];exact BZ,r⟩
theorem aR.lz {α:Type} {P:Program} {w w':World} {R R':α->Value->Prop} {e:TypeId} {es:List (List α)} {v:Value} (h:aR P w R e es v) (hb:∀g,cU v=some g->w'.heap[g]?=w.heap[g]?) (hR:∀x u,R x u->R' x u):aR P w' R' e es v:=by
 obtain⟨i,xs,h1,h2,h3,h4,h5,h6⟩:=h
 exact⟨i,xs,h1,h2,qc h3 hb,h4,h5,fun a r j x ha hj=>by obtain⟨u,hu,hr⟩:=h6 a r j x ha hj;exact⟨u,hu,hR x u hr⟩⟩
theorem rv.lz {w w':World} {es:List (List HX)} {v:Value} (h:rv w es v) (hb:∀g,cU v=some g->w'.heap[g]?=w.heap[g]?):rv w' es v:=
 ⟨fun g a j u b hg h1 h2=>h.top g a j u b hg (kH (hb g hg) h1) h2,fun g a j a' j' u u' b hg h1 h2 h3 h4=>h.dis g a j a' j' u u' b hg (kH (hb g hg) h1) (kH (hb g hg) h2) h3 h4⟩
theorem aR.zM {P:Program} {w:World} {R:HX->Value->Prop} {e:TypeId} {es:List (List HX)} {v:Value} (h:aR P w R e es v) {a j:Nat} {r:List HX} {e':TypeId} {o9:List (List PV)} (ha:es[a]?=some r) (hj:r[j]?=some (.row e' o9)):
  ∃g u,cU v=some g/\dG w es g a j u/\R (.row e' o9) u:=by
 obtain⟨i,xs,h1,h2,h3,h4,h5,h6⟩:=h
 obtain⟨u,hu,hr⟩:=h6 a r j _ ha hj
 have tF:=h4 r (List.mem_of_getElem? ha)
 rcases h3.2 with⟨hn,hz⟩ | ⟨g,cap,cur,hv,hg,BZ,k1,k2,k3,k4⟩
 ·have:=(List.getElem?_eq_some_iff.1 ha).1
  omega
 refine⟨g,u,by rw[hv];rfl,⟨r,e',o9,_,_,_,ha,hj,BZ,?_⟩,hr⟩
 rw[tF]
 rw[<-k4,List.getElem?_take] at hu
 split at hu
 ·simpa using hu
 cases hu
theorem eC.lz {S S':Nat->Prop} {w w':World} {P:Program} {L L':Nat->Prop} {rho rho':Nat->Value} {h h':Nat->AB} (T:jx S S' w w' L L' rho rho' h h') {id:Nat} {x:AB}
  (hb:x.live->∀g,hasB w x (rho id) g->w'.heap[g]?=w.heap[g]?) (hr:x.there->rho' id=rho id) (hx:eC S w P L rho h id x):eC S' w' P L' rho' h' id x:=by
 cases x with
 | none=>trivial
 | row e es=>
  show aR P w' (bu S' w') e es (rho' id)
  rw[hr trivial]
  exact aR.lz hx (fun g hg=>hb trivial g (.inl hg)) (fun x u hu=>hu.mono T.hS T.keep)
 | iv es=>
  show bu S' w' (.sl es) (rho' id)
  rw[hr trivial]
  exact bu.mono hx T.hS T.keep
 | box cs=>
  obtain⟨g,ty,c,h1,h2,h3,h4⟩:=hx
  refine⟨g,ty,c,by rw[hr trivial];exact h1,by rw[hb trivial g (.inl (by rw[h1];rfl))];exact h2,h3,fun j x u hj hu=>?_⟩
  obtain⟨h5,h6⟩:=h4 j x u hj hu
  exact⟨h5,h6.lz T⟩
 | fF ty cs=>
  obtain⟨g,c,h1,h2,h3,h4⟩:=hx
  refine⟨g,c,by rw[hr trivial];exact h1,by rw[hb trivial g (.inl (by rw[h1];rfl))];exact h2,h3,fun j x u hj hu=>?_⟩
  obtain⟨h5,h6⟩:=h4 j x u hj hu
  exact⟨h5,h6.lz T⟩
 | iP cs=>
  show bu S' w' (.ip cs) (rho' id)
  rw[hr trivial]
  exact bu.mono hx T.hS T.keep
 | map mk es=>
  obtain⟨g,ms,clock,h1,h2,h3,h4⟩:=hx
  refine⟨g,ms,clock,by rw[hr trivial];exact h1,by rw[hb trivial g (.inl (by rw[h1];rfl))];exact h2,h3,fun i p m hi hm=>?_⟩
  obtain⟨h5,h6,h7⟩:=h4 i p m hi hm
  exact⟨h5,h6,h7.mono T.hS T.keep⟩
 | bb cs=>
  obtain⟨g,ty,c,h1,hB⟩:=hx
  have hg:cU (rho id)=some g:=by rw[h1];rfl
  refine⟨g,ty,c,by rw[hr trivial];exact h1,⟨by rw[hb trivial g (.inl hg)];exact hB.hp,hB.sz,fun j x u hj hu=>?_,hB.top,hB.dis⟩⟩
  obtain⟨h5,h6⟩:=hB.cell j x u hj hu
  refine⟨h5,?_⟩
  cases x with
  | p x=>exact bu.mono h6 T.hS T.keep
  | row e es=>exact aR.lz h6 (fun k hk=>hb trivial k (.inr (.inl ⟨cs,g,rfl,hg,c,ty,_,j,_,u,hB.hp,hj,trivial,hu,hk⟩))) (fun x u hu=>hu.mono T.hS T.keep)
 | aL e es=>
  obtain⟨hR,hS⟩:=hx
  have hg:∀g,cU (rho id)=some g->w'.heap[g]?=w.heap[g]?:=fun g hg=>hb trivial g (.inl hg)
  refine⟨?_,by rw[hr trivial];exact hS.lz hg⟩
  rw[hr trivial]
  obtain⟨i,xs,h1,h2,h3,h4,h5,h6⟩:=hR
  refine⟨i,xs,h1,h2,qc h3 hg,h4,h5,fun a r j x ha hj=>?_⟩
  obtain⟨u,hu,wb⟩:=h6 a r j x ha hj
  refine⟨u,hu,?_⟩
  cases x with
  | av x=>exact bF.lz T wb
  | row e' o9=>
   refine aR.lz wb (fun k hk=>hb trivial k (.inr (.inr ?_))) (fun x u hu=>hu.mono T.hS T.keep)
   have tF:=h4 r (List.mem_of_getElem? ha)
   rcases h3.2 with⟨hn,hz⟩ | ⟨g,cap,cur,hv,hg,BZ,k1,k2,k3,k4⟩
   ·have:=(List.getElem?_eq_some_iff.1 ha).1
    omega
   refine⟨e,es,g,a,j,u,rfl,by rw[hv];rfl,⟨r,e',o9,_,_,_,ha,hj,BZ,?_⟩,hk⟩
   rw[tF]
   rw[<-k4,List.getElem?_take] at hu
   split at hu
   ·simpa using hu
   cases hu
theorem Fr.next {mv:Nat->Prop} {w0 w w':World} (h:Fr mv w0 w) (ho:w'.os=w.os) (ht:w'.tape=w.tape) (hu:w'.output=w.output) (hs:w.heap.size<=w'.heap.size) (hb:∀k,k < w0.heap.size->¬mv k->w'.heap[k]?=w.heap[k]?):Fr mv w0 w':=
 ⟨ho.trans h.os,ht.trans h.tape,hu.trans h.output,Nat.le_trans h.size hs,fun k hk hn=>(hb k hk hn).trans (h.block k hk hn)⟩
def eu (t:Nat->AV) (d:Option Tmp) (v:AV):Nat->AV:=match d with
 | some d=>br t d v
 | none=>t
def wc (V:Nat->Prop) (d:Option Tmp) (j:Nat):Prop:=V j\/d=some j
theorem Gl (a:Act) (d:Tmp) (v:Value) (j:Nat) (hd:d < a.tmps.size):(a.put (some d) v).tmps.getD j undef=if j=d then v else a.tmps.getD j undef:=by
 simp only[Act.put,Array.getD_eq_getD_getElem?,Array.getElem?_setIfInBounds]
 by_cases h:d=j
 ·subst h;simp[hd]
 have:¬j=d:=fun e=>h e.symm
 simp[h,this]
theorem Lv {A:cV} {V L L' S S':Nat->Prop} {rho rho':Nat->Value} {s:AS} {a:Act} {w w':World} {h':Nat->AB} (sim:cu A V L S rho s a w) (T:jx S S' w w' L L' rho rho' s.h h') (dst:Option Tmp) (hd:∀d,dst=some d->d < A.n) (x:AV) (v:Value)
  (hv:bF S' w' A.C.P L' rho' h' x v):∀j,wc V dst j->bF S' w' A.C.P L' rho' h' (eu s.t dst x j) ((a.put dst v).tmps.getD j undef):=by
 intro j hj
 cases dst with
 | none=>
  rcases hj with hj | hj
  ·exact (sim.tm j hj).lz T
  cases hj
 | some d=>
  rw[Gl a d v j (by rw[sim.sz];exact hd d rfl)]
  by_cases e:j=d
  ·subst e
   simp only[eu,aO,if_true]
   exact hv
  simp only[eu,bw _ _ e,if_neg e]
  rcases hj with hj | hj
  ·exact (sim.tm j hj).lz T
  injection hj with hj
  exact absurd hj.symm e
theorem Gm (a:Act) (dst:Option Tmp) (v:Value):(a.put dst v).tmps.size=a.tmps.size:=by cases dst <;> simp[Act.put]
theorem zN (a:Act) (dst:Option Tmp) (v:Value):(a.put dst v).defers=a.defers:=by cases dst <;> rfl
theorem cu.value {A:cV} {V L S:Nat->Prop} {rho:Nat->Value} {s:AS} {a:Act} {w:World} (sim:cu A V L S rho s a w) (dst:Option Tmp) (hd:∀d,dst=some d->d < A.n) (x:AV) (v:Value) (hv:bF S w A.C.P L rho s.h x v):
  cu A (wc V dst) L S rho ⟨eu s.t dst x,s.h⟩ (a.put dst v) w:=
 {tm:=Lv sim ⟨fun _ h=>h,fun _ _=>rfl,fun _ h=>⟨h,fun hl=>⟨hl,rfl⟩⟩,fun _ _ h=>h⟩ dst hd x v hv
  sz:=(Gm a dst v).trans sim.sz
  df:=(zN a dst v).trans sim.df
  nb:=sim.nb,pn:=sim.pn
  ev:=sim.ev,s0:=sim.s0,st:=sim.st,sb:=sim.sb,hp:=sim.hp,dj:=sim.dj,lv:=sim.lv,fr:=sim.fr }
end Go.AM
namespace Go.AM
open Go.RowKit
theorem dP {P:Program} {o:Oper} {a:Act} {w w':World} {v:Value} {next:Act->World->Prop} {Q:Exit->Act->World->Prop} (h:(execOp a.eval o).run P w=.ok (.value v) w') (hn:next (a.put o.dst v) w'):o.wp P a w next Q:=by
 unfold Oper.wp
 rw[h]
 exact hn
theorem nH {P:Program} {o:Oper} {a:Act} {w w':World} {next:Act->World->Prop} {Q:Exit->Act->World->Prop} (h:(execOp a.eval o).run P w=.ok .skip w') (hn:next (a.put o.dst undef) w'):o.wp P a w next Q:=by
 unfold Oper.wp
 rw[h]
 exact hn
theorem nI (S:Nat->Prop) (w:World) (v:Value):bu S w (pB v) v:=by
 unfold pB
 split
 ·exact .nil _ _
 exact .im _
theorem I8 (b:Bool) (S:Nat->Prop) (w:World) (v:Value):bu S w (P_ b v) v:=by
 cases b
 ·exact nI S w v
 exact .im v
theorem tG {S:Nat->Prop} {w:World} {P:Program} {L:Nat->Prop} {rho:Nat->Value} {h:Nat->AB} {x:PV} {v:Value} (hx:bu S w x v):bF S w P L rho h (M_ x) v:=by
 unfold M_
 split
 ·cases hx;exact .nl
 exact .p _ _ hx
theorem uc (S:Nat->Prop) (w:World) (P:Program) (L:Nat->Prop) (rho:Nat->Value) (h:Nat->AB) (v:Value):bF S w P L rho h (ED v) v:=by
 unfold ED
 split
 ·exact .nl
 exact .p _ _ (.im _)
theorem EF (S:Nat->Prop) (w:World) (P:Program) (L:Nat->Prop) (rho:Nat->Value) (h:Nat->AB) (v:Value):bF S w P L rho h (xS v) v:=by
 unfold xS
 split
 ·exact .nl
 ·rename_i cs
  split
  ·rename_i iB
   refine .p _ _ (.ag _ _ (by simp) (fun u hu=>?_) fun i c v hc hv=>?_)
   ·rw[List.all_eq_true] at iB
    exact iB u hu
   rw[List.getElem?_map] at hc
   have B4:cs.toList[i]?=some v:=by simpa using hv
   rw[B4] at hc
   simp at hc
   rw[<-hc]
   exact nI S w v
  exact .junk _
 exact .p _ _ (.im _)
theorem bH {A:cV} {V L S:Nat->Prop} {rho:Nat->Value} {s:AS} {a:Act} {w:World} (sim:cu A V L S rho s a w) (x:Operand) (hx:∀j,x=.tmp j->V j):bF S w A.C.P L rho s.h (ev s.t x) (a.eval x):=by
 cases x with
 | tmp j=>exact sim.tm j (hx j rfl)
 | const v=>exact EF _ _ _ _ _ _ v
 | global g=>exact .p _ _ (.im _)
 | func f=>exact .p _ _ (.im _)
theorem bF.fI {S:Nat->Prop} {w:World} {P:Program} {L:Nat->Prop} {rho:Nat->Value} {h:Nat->AB} {x:PV} {v:Value} (hx:bF S w P L rho h (.p x) v):bu S w x v:=by cases hx;assumption
theorem bu.ca {S:Nat->Prop} {w:World} {x v:Value} (hx:bu S w (.im x) v):v=x:=by cases hx;rfl
theorem bF.ca {S:Nat->Prop} {w:World} {P:Program} {L:Nat->Prop} {rho:Nat->Value} {h:Nat->AB} {x v:Value} (hx:bF S w P L rho h (.p (.im x)) v):v=x:=hx.fI.ca
theorem bu.rB {S:Nat->Prop} {w:World} {cs:List PV} {v:Value} (hx:bu S w (.ag cs) v):∃vs:Array Value,v=.agg vs/\cs.length=vs.size/\(∀u∈vs.toList,u.oneCell'=true)/\(∀(i:Nat) c u,cs[i]?=some c->vs[i]?=some u->bu S w c u):=by
 cases hx
 exact⟨_,rfl,by assumption,by assumption,by assumption⟩
theorem bu.ue {S:Nat->Prop} {w:World} {cs:List PV} {v:Value} (hx:bu S w (.ip cs) v):∃b off,∃U:Nat->Value,v=.pointer (some ⟨b,off,none⟩)/\S b/\(∀(j:Nat) x,cs[j]?=some x->w.cell? ⟨b,off+j,none⟩=some (U j)/\(U j).oneCell'=true)/\(∀(j:Nat) x,cs[j]?=some x->bu S w x (U j)):=by
 cases hx
 exact⟨_,_,_,rfl,by assumption,by assumption,by assumption⟩
theorem bu.mj {S:Nat->Prop} {w:World} {es:List (List PV)} {v:Value} (hx:bu S w (.sl es) v):∃a c,v=.slice a es.length c/\es.length<=c/\(es≠[]->∃b off k,a=some ⟨b,off,none⟩/\S b/\(∀e∈es,e.length=k)/\
  ∀(i:Nat) e (j:Nat) x,es[i]?=some e->e[j]?=some x->∃u,w.cell? ⟨b,off+i*k+j,none⟩=some u/\u.oneCell'=true/\bu S w x u):=by
 cases hx with
 | nil a c=>exact⟨a,c,rfl,by simp,fun h=>absurd rfl h⟩
 | sl _ k b off c U hc hS hk hcell h=>exact⟨_,c,rfl,hc,fun _=>⟨b,off,k,rfl,hS,hk,fun i e j x h1 h2=>⟨U i j,(hcell i e j x h1 h2).1,(hcell i e j x h1 h2).2,h i e j x h1 h2⟩⟩⟩
def zO (L:Nat->Prop) (new:Option AB) (d:Nat):Nat->Prop:=match new with
 | none=>L
 | some _=>fun i=>L i\/i=d
def gF (A:cV) (o:Oper):Prop:=
 ∀(V L S:Nat->Prop) (rho:Nat->Value) (s:AS) (a:Act) (w:World) (K:KK) (next:Act->World->Prop) (Q:Exit->Act->World->Prop),bV A.C->cu A V L S rho s a w->(∀j,Operand.tmp j∈o.op.operands->V j)->(∀d,o.dst=some d->d < A.n)->
  bY A.C o (ev s.t) s.h K->(∀v eff b,K v eff (some b)->¬L (o.dst.getD 0)/\s.h (o.dst.getD 0)=b)->
  (∀v eff new S' rho' a' w',K v eff new->cu A (wc V o.dst) (zO L new (o.dst.getD 0)) S' rho' ⟨eu s.t o.dst v,app s.h eff⟩ a' w'->next a' w')->o.wp A.C.P a w next Q
theorem a7 {A:cV} {o:Oper} {V L S:Nat->Prop} {rho:Nat->Value} {s:AS} {a:Act} {w:World} {K:KK} {next:Act->World->Prop} {Q:Exit->Act->World->Prop} (sim:cu A V L S rho s a w) (hd:∀d,o.dst=some d->d < A.n)
  (hnext:∀v eff new S' rho' a' w',K v eff new->cu A (wc V o.dst) (zO L new (o.dst.getD 0)) S' rho' ⟨eu s.t o.dst v,app s.h eff⟩ a' w'->next a' w') {x:AV} {v:Value} (hq:K x [] none) (hv:bF S w A.C.P L rho s.h x v)
  (hr:(execOp a.eval o).run A.C.P w=.ok (.value v) w):o.wp A.C.P a w next Q:=
 dP hr (hnext _ _ _ _ _ _ _ hq (sim.value o.dst hd x v hv))
theorem I9 {A:cV} {o:Oper} (x:Operand) (aU:o.op=.move x):gF A o:=by
 intro V L S rho s a w K next Q hC sim hV hd hq _ hnext
 simp only[bY,aU] at hq
 exact a7 sim hd hnext hq (bH sim x fun j hj=>hV j (by simp[aU,Op.operands,hj])) (by simp[execOp,aU])
theorem EG {A:cV} {o:Oper} (x:Operand) (aU:o.op=.assign x):gF A o:=by
 intro V L S rho s a w K next Q hC sim hV hd hq _ hnext
 simp only[bY,aU] at hq
 exact a7 sim hd hnext hq (bH sim x fun j hj=>hV j (by simp[aU,Op.operands,hj])) (by simp[execOp,aU])
theorem I_ {A:cV} {o:Oper} (c x y:Operand) (aU:o.op=.pick c x y):gF A o:=by
 intro V L S rho s a w K next Q hC sim hV hd hq _ hnext
 simp only[bY,aU] at hq
 have hc:=bH sim c fun j hj=>hV j (by simp[aU,Op.operands,hj])
 have hx:=bH sim x fun j hj=>hV j (by simp[aU,Op.operands,hj])
 have hy:=bH sim y fun j hj=>hV j (by simp[aU,Op.operands,hj])
 split at hq
 ·rename_i t ht
  rw[ht] at hc
  split at hq
  ·exact a7 sim hd hnext hq hx (by simp[execOp,aU,hc.ca,asBool])
  exact a7 sim hd hnext hq hy (by simp[execOp,aU,hc.ca,asBool])
 exact hq.elim
theorem bF.Lw {S:Nat->Prop} {w:World} {P:Program} {L:Nat->Prop} {rho:Nat->Value} {h:Nat->AB} {xs:List AV} {v:Value} (hx:bF S w P L rho h (.st xs) v):∃vs:Array Value,v=.agg vs/\xs.length=vs.size/\(∀u∈vs.toList,u.oneCell'=true)/\∀(i:Nat) c u,xs[i]?=some c->vs[i]?=some u->bF S w P L rho h c u:=by
 cases hx
 exact⟨_,rfl,by assumption,by assumption,by assumption⟩
theorem bF.Lx {S:Nat->Prop} {w:World} {P:Program} {L:Nat->Prop} {rho:Nat->Value} {h:Nat->AB} {xs:List AV} {v:Value} (hx:bF S w P L rho h (.tu xs) v):∃vs:Array Value,v=.tuple vs/\xs.length=vs.size/\∀(i:Nat) c u,xs[i]?=some c->vs[i]?=some u->bF S w P L rho h c u:=by
 cases hx
 exact⟨_,rfl,by assumption,by assumption⟩
theorem jg {α:Type} {vs:Array α} {n i:Nat} (hl:n=vs.size) (hi:i < n):∃v,vs[i]?=some v:=⟨vs[i]'(by omega),Array.getElem?_eq_getElem _⟩
theorem aP {α:Type} {l:List α} {i:Nat} {x:α} (h:l[i]?=some x):i < l.length:=(List.getElem?_eq_some_iff.1 h).1
theorem B5 {A:cV} {o:Oper} (x:Operand) (i:Nat) (aU:o.op=.extract x i):gF A o:=by
 intro V L S rho s a w K next Q hC sim hV hd hq _ hnext
 simp only[bY,aU] at hq
 have hx:=bH sim x fun j hj=>hV j (by simp[aU,Op.operands,hj])
 split at hq
 ·rename_i xs qb
  rw[qb] at hx
  split at hq
  ·rename_i y hy
   obtain⟨vs,TU,hl,hc⟩:=hx.Lx
   obtain⟨v,hv⟩:=jg hl (aP hy)
   refine a7 sim hd hnext hq (hc i y v hy hv) ?_
   simp[execOp,aU,TU,Instr.extract,hv]
  exact hq.elim
 exact hq.elim
theorem DP {a b:IntKind} (h:kB a b=true):a=b:=by cases a <;> cases b <;> first | rfl | cases h
theorem Ja {k:IntKind} (h:Nu k=true):k=.i64:=by cases k <;> first | rfl | cases h
theorem lB {k:IntKind} {n:Int} {K:Value->Prop} (h:rz k n K):K (.int k (k.wrap n)):=by
 unfold rz at h
 split at h
 ·rename_i TV
  obtain rfl:=Ja TV
  obtain⟨⟨h1,h2⟩,h3⟩:=h
  rw[IntWalk.i64_in n ⟨h1,h2⟩]
  exact h3
 exact h
theorem xV (a b:ByteArray):(a.toList == b.toList)=decide (a=b):=by
 rw[Bool.eq_iff_iff]
 simp only[beq_iff_eq,decide_eq_true_eq,Go.ByteArray.toList_eq]
 constructor
 ·intro h
  exact ByteArray.ext (Array.ext' h)
 rintro rfl;rfl
theorem DQ (a b:ByteArray):Op.bytesLess a.toList b.toList=Op.bytesLess a.data.toList b.data.toList:=by rw[Go.ByteArray.toList_eq,Go.ByteArray.toList_eq]
theorem ug (a b:Int):(a == b)=decide (a=b):=by rw[Bool.eq_iff_iff];simp
theorem B6 (a b:Int):(a != b)=!decide (a=b):=by rw[bne,ug]
theorem Jb {a b:Nat} (h:v_ a b=true):a=b:=Nat.eq_of_beq_eq_true h
theorem run_equalIn_slice_nil {P:Program} (w:World) (d:Nat) (t e:TypeId) (a:Option Addr) (l c:Nat) (h:P.underlying t=some (.slice e)):(Op.equalIn (d+1) t (.slice a l c) (.slice none 0 0)).run P w=.ok a.isNone w:=by
 cases a <;> simp[Op.equalIn,run_underlying h]
theorem run_equal_slice_nil {P:Program} (w:World) (t e:TypeId) (a:Option Addr) (l c:Nat) (h:P.underlying t=some (.slice e)):(Op.equal t (.slice a l c) (.slice none 0 0)).run P w=.ok a.isNone w:=run_equalIn_slice_nil w 9999 t e a l c h
theorem Gn {A:cV} {o:Oper} (op:BinOp) (t:TypeId) (x y:Operand) (t':TypeId) (aU:o.op=.binOp op t x y t'):gF A o:=by
 intro V L S rho s a w K next Q hC sim hV hd hq _ hnext
 simp only[bY,aU] at hq
 have hx:=bH sim x fun j hj=>hV j (by simp[aU,Op.operands,hj])
 have hy:=bH sim y fun j hj=>hV j (by simp[aU,Op.operands,hj])
 split at hq
 ·rename_i u v hu hv
  rw[hu] at hx;rw[hv] at hy
  replace hx:=hx.fI
  replace hy:=hy.fI
  unfold pD at hq
  split at hq
  ·rename_i k m k' n
   have e1:=hx.ca
   have e2:=hy.ca
   split at hq
   ·rename_i hs
    have Qd:op=.shr:=by cases op <;> first | rfl | cases hs
    subst Qd
    obtain⟨⟨h0,h1⟩,hq⟩:=hq
    refine a7 sim hd hnext hq (.p _ _ (.im _)) ?_
    have Qe:¬n < 0:=by omega
    simp[execOp,aU,e1,e2,eqGuard,binOp,Op.shift,Qe]
   split at hq
   ·exact hq.elim
   rename_i hk
   obtain rfl:=DP hk
   split at hq
   ·exact a7 sim hd hnext (lB hq) (.p _ _ (.im _)) (by simp[execOp,aU,e1,e2,eqGuard,binOp,Op.intArith])
   ·exact a7 sim hd hnext (lB hq) (.p _ _ (.im _)) (by simp[execOp,aU,e1,e2,eqGuard,binOp,Op.intArith])
   ·exact a7 sim hd hnext (lB hq) (.p _ _ (.im _)) (by simp[execOp,aU,e1,e2,eqGuard,binOp,Op.intArith])
   ·exact a7 sim hd hnext (lB hq.2) (.p _ _ (.im _)) (by simp[execOp,aU,e1,e2,eqGuard,binOp,Op.intDiv,hq.1])
   ·exact a7 sim hd hnext hq.2 (.p _ _ (.im _)) (by simp[execOp,aU,e1,e2,eqGuard,binOp,Op.intDiv,hq.1])
   ·exact a7 sim hd hnext hq (.p _ _ (.im _)) (by simp[execOp,aU,e1,e2,eqGuard,binOp,Op.intCmp,ug])
   ·exact a7 sim hd hnext hq (.p _ _ (.im _)) (by simp[execOp,aU,e1,e2,eqGuard,binOp,Op.intCmp,B6])
   ·exact a7 sim hd hnext hq (.p _ _ (.im _)) (by simp[execOp,aU,e1,e2,eqGuard,binOp,Op.intCmp])
   ·exact a7 sim hd hnext hq (.p _ _ (.im _)) (by simp[execOp,aU,e1,e2,eqGuard,binOp,Op.intCmp])
   ·exact a7 sim hd hnext hq (.p _ _ (.im _)) (by simp[execOp,aU,e1,e2,eqGuard,binOp,Op.intCmp])
   ·exact a7 sim hd hnext hq (.p _ _ (.im _)) (by simp[execOp,aU,e1,e2,eqGuard,binOp,Op.intCmp])
   exact hq.elim
  ·rename_i m n
   have e1:=hx.ca
   have e2:=hy.ca
   split at hq
   ·exact a7 sim hd hnext hq.2 (.p _ _ (.im _)) (by
     have:=hq.1
     simp[execOp,aU,e1,e2,eqGuard,binOp,run_string_add_sum w m n this])
   ·exact a7 sim hd hnext hq (.p _ _ (.im _)) (by simp[execOp,aU,e1,e2,eqGuard,binOp,Op.stringOp,xV])
   ·exact a7 sim hd hnext hq (.p _ _ (.im _)) (by simp[execOp,aU,e1,e2,eqGuard,binOp,Op.stringOp,xV])
   ·exact a7 sim hd hnext hq (.p _ _ (.im _)) (by simp[execOp,aU,e1,e2,eqGuard,binOp,Op.stringOp,DQ])
   ·exact a7 sim hd hnext hq (.p _ _ (.im _)) (by simp[execOp,aU,e1,e2,eqGuard,binOp,Op.stringOp,xV,DQ])
   ·exact a7 sim hd hnext hq (.p _ _ (.im _)) (by simp[execOp,aU,e1,e2,eqGuard,binOp,Op.stringOp,xV,DQ])
   ·exact a7 sim hd hnext hq (.p _ _ (.im _)) (by simp[execOp,aU,e1,e2,eqGuard,binOp,Op.stringOp,DQ])
   exact hq.elim
  ·rename_i m n
   have e1:=hx.ca
   have e2:=hy.ca
   split at hq
   ·rename_i size bytes zero hT
    have hb:A.C.P.underlying t=some .bool:=by
     obtain⟨_,_,_,_,_,_,_,_,_,h⟩:=hC.gE t _ hT
     exact h.2 rfl
    have hrun:=fun w=>run_equal_bool (P:=A.C.P) (w:=w) t m n hb
    split at hq
    ·exact a7 sim hd hnext hq (.p _ _ (.im _)) (by simp[execOp,aU,e1,e2,eqGuard,binOp,hrun];cases m <;> cases n <;> rfl)
    ·exact a7 sim hd hnext hq (.p _ _ (.im _)) (by simp[execOp,aU,e1,e2,eqGuard,binOp,hrun];cases m <;> cases n <;> rfl)
    exact hq.elim
   exact hq.elim
  ·rename_i m n
   obtain⟨xs,e1,Gp,_,TW⟩:=hx.rB
   obtain⟨ys,e2,xW,_,TX⟩:=hy.rB
   have im:∀(m:List PV) (n:List PV) r,dF m n=some r->(∀x∈m,∃v,x=.im v)/\(∀x∈n,∃v,x=.im v):=by
    intro m
    induction m with
    | nil=>intro n r h;cases n with
     | nil=>exact⟨by simp,by simp⟩
     | cons y n=>simp[dF] at h
    | cons x m ih=>
     intro n r h
     cases n with
     | nil=>simp[dF] at h
     | cons y n=>
      unfold dF at h
      split at h
      ·rename_i h1 h2;cases h1
      ·rename_i h1 h2
       injection h1 with h1 Jc;injection h2 with h2 DR
       subst h1 Jc h2 DR
       split at h
       ·obtain⟨r',sL,_⟩:=Option.map_eq_some_iff.1 h
        obtain⟨i1,i2⟩:=ih _ _ sL
        exact⟨by simpa using i1,by simpa using i2⟩
       cases h
      cases h
   have key:∀r,dF m n=some r->(∀(i:Nat) x v,m[i]?=some x->xs[i]?=some v->x=.im v)/\(∀(i:Nat) x v,n[i]?=some x->ys[i]?=some v->x=.im v):=by
    intro r hr
    obtain⟨i1,i2⟩:=im m n r hr
    refine⟨fun i x v h1 h2=>?_,fun i x v h1 h2=>?_⟩
    ·obtain⟨u,rfl⟩:=i1 x (List.mem_of_getElem? h1)
     rw[(TW i _ v h1 h2).ca]
    obtain⟨u,rfl⟩:=i2 x (List.mem_of_getElem? h1)
    rw[(TX i _ v h1 h2).ca]
   split at hq
   ·rename_i fs size bytes zero hT
    split at hq
    ·exact hq.elim
    rename_i hsz
    have hsz:=Jb hsz
    split at hq
    ·split at hq
     ·rename_i r hr
      obtain⟨k1,k2⟩:=key r hr
      have hrun:=hC.eqs t _ .eql m n r hT rfl ⟨_,rfl⟩ hr xs ys w k1 k2 Gp xW hsz (.inl rfl) x y
      exact a7 sim hd hnext hq (.p _ _ (.im _)) (by
       simp only[execOp,aU,e1,e2]
       rw[Sem.run_bind,hrun]
       simp)
     exact hq.elim
    ·split at hq
     ·rename_i r hr
      obtain⟨k1,k2⟩:=key r hr
      have hrun:=hC.eqs t _ .neq m n r hT rfl ⟨_,rfl⟩ hr xs ys w k1 k2 Gp xW hsz (.inr rfl) x y
      exact a7 sim hd hnext hq (.p _ _ (.im _)) (by
       simp only[execOp,aU,e1,e2]
       rw[Sem.run_bind,hrun]
       simp)
     exact hq.elim
    exact hq.elim
   exact hq.elim
  exact hq.elim
 ·rename_i u hu hv
  rw[hu] at hx;rw[hv] at hy
  replace hx:=hx.fI
  have lC:a.eval y=.slice none 0 0:=by generalize a.eval y=v at hy;cases hy;rfl
  unfold EE at hq
  split at hq
  case h_2=>exact hq.elim
  rename_i es
  split at hq
  case h_1=>exact hq.elim
  rename_i DS
  split at hq
  case h_2=>exact hq.elim
  rename_i e size bytes zero eq hT
  have e_:A.C.P.underlying t=some (.slice e):=by
   obtain⟨_,_,_,_,_,_,_,_,_,h⟩:=hC.gE t _ hT
   exact h
  obtain⟨ad,c,hv,_,b8⟩:=hx.mj
  obtain⟨b,off,k,rfl,_⟩:=b8 (fun e=>by rw[e] at DS;cases DS)
  split at hq
  ·exact a7 sim hd hnext hq (.p _ _ (.im _)) (by simp[execOp,aU,hv,lC,eqGuard,binOp,run_equal_slice_nil _ _ _ _ _ _ e_])
  ·exact a7 sim hd hnext hq (.p _ _ (.im _)) (by simp[execOp,aU,hv,lC,eqGuard,binOp,run_equal_slice_nil _ _ _ _ _ _ e_])
  exact hq.elim
 exact hq.elim
theorem Jd {A:cV} {o:Oper} (op:UnOp) (t:TypeId) (x:Operand) (aU:o.op=.unOp op t x):gF A o:=by
 intro V L S rho s a w K next Q hC sim hV hd hq _ hnext
 simp only[bY,aU] at hq
 have hx:=bH sim x fun j hj=>hV j (by simp[aU,Op.operands,hj])
 split at hq
 ·rename_i b hb
  rw[hb] at hx
  exact a7 sim hd hnext hq (.p _ _ (.im _)) (by simp[execOp,aU,hx.ca,Op.unary])
 ·rename_i k n hb
  rw[hb] at hx
  exact a7 sim hd hnext (lB hq) (.p _ _ (.im _)) (by simp[execOp,aU,hx.ca,Op.unary,Op.intArith])
 exact hq.elim
theorem lA.sizeOf {P:Program} {t:TypeId} {ti:TI} (h:lA P t ti) (w:World):(sizeOf t).run P w=.ok ti.size w:=by
 obtain⟨info,z,h1,h2,_⟩:=h
 simp[Go.sizeOf,typeInfo,h1,h2]
theorem lA.isAgg {P:Program} {t:TypeId} {ti:TI} (h:lA P t ti) (w:World):(isAgg t).run P w=.ok ti.ud.agg w:=by
 obtain⟨info,z,_,_,_,_,_,_,_,h⟩:=h
 unfold Go.isAgg
 cases hu:ti.ud with
 | sc=>
  rw[hu] at h
  obtain⟨⟨d,hd,hn⟩,_⟩:=h
  rw[Sem.run_bind,run_underlying hd]
  cases d <;> first | rfl | exact hn.elim
 | int k=>rw[hu] at h;rw[Sem.run_bind,run_underlying h];rfl
 | st fs=>rw[hu] at h;obtain⟨gs,hg,_⟩:=h;rw[Sem.run_bind,run_underlying hg];rfl
 | sl e=>rw[hu] at h;rw[Sem.run_bind,run_underlying h];rfl
 | str=>rw[hu] at h;rw[Sem.run_bind,run_underlying h];rfl
 | mp k e=>rw[hu] at h;rw[Sem.run_bind,run_underlying h];rfl
theorem jy {P:Program} {w:World} {t:TypeId} {ti:TI} (h:lA P t ti) (ha:ti.ud.agg=true) (b off:Nat) (vs:List Value) (hl:vs.length=ti.size) (hc:∀(j:Nat) v,vs[j]?=some v->w.cell? ⟨b,off+j,none⟩=some v):
  (Instr.loadAt t (.pointer (some ⟨b,off,none⟩))).run P w=.ok (.agg vs.toArray) w:=by
 have:=run_loadCells_list (P:=P) w ⟨b,off,none⟩ vs (fun j v hj=>by rw[Addr.add_lit];exact hc j v hj)
 rw[hl] at this
 simp[Instr.loadAt,Instr.sureAddr,loadVar,h.isAgg,ha,h.sizeOf,this]
theorem iV {P:Program} {w:World} {t:TypeId} {ti:TI} (h:lA P t ti) (ha:ti.ud.agg=false) (b off:Nat) (v:Value) (hc:w.cell? ⟨b,off,none⟩=some v):
  (Instr.loadAt t (.pointer (some ⟨b,off,none⟩))).run P w=.ok v w:=by
 simp[Instr.loadAt,Instr.sureAddr,loadVar,h.isAgg,ha,load,Sem.run,hc]
theorem DT {S:Nat->Prop} {w:World} (cs:List PV) (V:Nat->Value) (h:∀(j:Nat) x,cs[j]?=some x->(V j).oneCell'=true/\bu S w x (V j)):bu S w (.ag cs) (.agg ((List.range cs.length).map V).toArray):=by
 refine .ag _ _ (by simp) (fun u hu=>?_) fun i c v hc hv=>?_
 ·simp at hu
  obtain⟨j,hj,rfl⟩:=hu
  exact (h j _ (List.getElem?_eq_getElem hj)).1
 have hi:=aP hc
 simp[hi] at hv
 rw[<-hv]
 exact (h i c hc).2
theorem iQ {α:Type} {l:List α} {off n j:Nat} {x:α} (h:((l.drop off).take n)[j]?=some x):l[off+j]?=some x:=by
 rw[List.getElem?_take] at h
 split at h
 ·rwa [List.getElem?_drop] at h
 cases h
theorem iR {α:Type} {l:List α} {off n:Nat} (h:off+n<=l.length):((l.drop off).take n).length=n:=by simp;omega
theorem lD {α:Type} {l:List α} {off:Nat} {x:α} {r:List α} (h:l.drop off=x::r):l[off]?=some x:=by
 have:(l.drop off)[0]?=some x:=by rw[h];rfl
 rw[List.getElem?_drop] at this
 exact this
theorem jh {a b:Nat} (h:DK a b=true):a<=b:=Nat.le_of_ble_eq_true h
theorem gG {a b:Nat} (h:v_ a b=true):a=b:=Nat.eq_of_beq_eq_true h
theorem fT:∀{cs:List AV} {xs:List PV},dT cs=some xs->cs.length=xs.length/\∀(j:Nat) c x,cs[j]?=some c->xs[j]?=some x->(c=.p x\/(c=.nl/\x=.sl [])):=by
 intro cs
 induction cs with
 | nil=>intro xs h;simp[dT] at h;subst h;exact⟨rfl,by simp⟩
 | cons c cs ih=>
  intro xs h
  unfold dT at h
  split at h
  ·rename_i h1;cases h1
  ·rename_i x r h1
   injection h1 with h1 h2
   subst h1 h2
   obtain⟨ys,hy,rfl⟩:=Option.map_eq_some_iff.1 h
   obtain⟨h3,h4⟩:=ih hy
   refine⟨by simp[h3],fun j c x' hj hx=>?_⟩
   cases j with
   | zero=>simp at hj hx;subst hj hx;exact .inl rfl
   | succ j=>exact h4 j c x' (by simpa using hj) (by simpa using hx)
  ·rename_i r h1
   injection h1 with h1 h2
   subst h1 h2
   obtain⟨ys,hy,rfl⟩:=Option.map_eq_some_iff.1 h
   obtain⟨h3,h4⟩:=ih hy
   refine⟨by simp[h3],fun j c x' hj hx=>?_⟩
   cases j with
   | zero=>simp at hj hx;subst hj hx;exact .inr ⟨rfl,rfl⟩
   | succ j=>exact h4 j c x' (by simpa using hj) (by simpa using hx)
  cases h
theorem bF.tH {S:Nat->Prop} {w:World} {P:Program} {L:Nat->Prop} {rho:Nat->Value} {h:Nat->AB} {c:AV} {x:PV} {u:Value} (hc:c=.p x\/(c=.nl/\x=.sl [])) (hr:bF S w P L rho h c u):bu S w x u:=by
 rcases hc with rfl | ⟨rfl,rfl⟩
 ·exact hr.fI
 cases hr
 exact .nil _ _
theorem bF.gH {S:Nat->Prop} {w:World} {P:Program} {L:Nat->Prop} {rho:Nat->Value} {h:Nat->AB} {id off:Nat} {v:Value} (hx:bF S w P L rho h (.bx id off) v) (ht:(h id).there):L id/\∃g,rho id=.pointer (some ⟨g,0,none⟩)/\v=.pointer (some ⟨g,off,none⟩):=by
 cases hx
 rename_i hv
 exact hv ht
theorem bF.uh {S:Nat->Prop} {w:World} {P:Program} {L:Nat->Prop} {rho:Nat->Value} {h:Nat->AB} {id i off:Nat} {v:Value} (hx:bF S w P L rho h (.rp id i off) v) {e:TypeId} {es:List (List PV)} (he:h id=.row e es):
  L id/\∃g n c ti,rho id=.slice (some ⟨g,0,none⟩) n c/\P.info? e=some ti/\v=.pointer (some ⟨g,i*ti.size+off,none⟩):=by
 cases hx
 rename_i hv
 exact hv e (by rw[he];rfl)
theorem bF.qd {S:Nat->Prop} {w:World} {P:Program} {L:Nat->Prop} {rho:Nat->Value} {h:Nat->AB} {id i off:Nat} {v:Value} (hx:bF S w P L rho h (.rp id i off) v) {e:TypeId} {es:List (List HX)} (he:h id=.aL e es):
  L id/\∃g n c ti,rho id=.slice (some ⟨g,0,none⟩) n c/\P.info? e=some ti/\v=.pointer (some ⟨g,i*ti.size+off,none⟩):=by
 cases hx
 rename_i hv
 exact hv e (by rw[he];rfl)
theorem bF.de {S:Nat->Prop} {w:World} {P:Program} {L:Nat->Prop} {rho:Nat->Value} {h:Nat->AB} {id:Nat} {v:Value} (hx:bF S w P L rho h (.ow id) v) (ht:(h id).there):L id/\v=rho id:=by
 cases hx
 rename_i hv
 exact hv ht
theorem aR.cell {α:Type} {P:Program} {w:World} {R:α->Value->Prop} {e:TypeId} {es:List (List α)} {g n c:Nat} {ti:TypeInfo} (h:aR P w R e es (.slice (some ⟨g,0,none⟩) n c)) (hi:P.info? e=some ti):
  ∀(a:Nat) r (j:Nat) x,es[a]?=some r->r[j]?=some x->∃u,w.cell? ⟨g,a*ti.size+j,none⟩=some u/\u.oneCell'=true/\R x u:=by
 obtain⟨i,xs,h1,h2,h3,h4,h5,h6⟩:=h
 rw[hi] at h1
 injection h1 with h1
 subst h1
 intro a r j x ha hj
 obtain⟨u,hu,hr⟩:=h6 a r j x ha hj
 have:=h3.cells (g:=g) rfl _ u hu
 rw[Addr.add_lit] at this
 refine⟨u,by simpa using this,h5 u (List.mem_of_getElem? hu),hr⟩
theorem zQ {A:cV} {o:Oper} (t:TypeId) (x:Operand) (aU:o.op=.load t x) {V L S:Nat->Prop} {rho:Nat->Value} {s:AS} {a:Act} {w:World} {K:KK} (hC:bV A.C) (sim:cu A V L S rho s a w) (hV:∀j,x=.tmp j->V j) (hq:bY A.C o (ev s.t) s.h K):
  ∃av v,K av [] none/\bF S w A.C.P L rho s.h av v/\(Instr.loadAt t (a.eval x)).run A.C.P w=.ok v w:=by
 simp only[bY,aU] at hq
 have hx:=bH sim x hV
 split at hq
 ·exact hq.elim
 rename_i ti hT
 have e_:=hC.gE t ti hT
 split at hq
 ·rename_i cs m_
  rw[m_] at hx
  obtain⟨b,off,U,hv,hb,hcell,hrep⟩:=hx.fI.ue
  split at hq
  ·rename_i sM
   split at hq
   ·rename_i hle
    have hle:=jh hle
    have hlen:(cs.take ti.size).length=ti.size:=by simp;omega
    refine⟨_,_,hq,.p _ _ (DT _ U fun j x hj=>?_),?_⟩
    ·have Gq:cs[j]?=some x:=by rw[List.getElem?_take] at hj;split at hj;exact hj;cases hj
     exact⟨(hcell j x Gq).2,hrep j x Gq⟩
    have:=jy (w:=w) e_ sM b off ((List.range (cs.take ti.size).length).map U) (by simp;omega) (fun j v hj=>by
     have rq:j < (cs.take ti.size).length:=by have:=aP hj;simpa using this
     rw[List.getElem?_map,List.getElem?_range rq] at hj
     simp at hj
     have Nc:j < cs.length:=by rw[hlen] at rq;omega
     rw[(hcell j _ (List.getElem?_eq_getElem Nc)).1,hj])
    rw[hv];exact this
   exact hq.elim
  rename_i sM
  split at hq
  ·rename_i c r
   refine⟨_,_,hq,.p _ _ (hrep 0 c rfl),?_⟩
   have:=iV (w:=w) e_ sM b off (U 0) (by simpa using (hcell 0 c rfl).1)
   rw[hv];exact this
  exact hq.elim
 ·rename_i id off m_
  rw[m_] at hx
  split at hq
  ·rename_i cs bb
   obtain⟨hL,g,hg,hv⟩:=hx.gH (by rw[bb];trivial)
   have hh:=sim.hp id hL
   rw[bb] at hh
   obtain⟨g',ty,c,h1,h2,h3,h4⟩:=hh
   rw[hg] at h1
   injection h1 with h1
   injection h1 with h1
   injection h1 with h1
   subst h1
   have hcell:∀j u,c[j]?=some u->w.cell? ⟨g,j,none⟩=some u:=fun j u hu=>by rw[cell_of_row w g j c ty (0,0) h2];exact hu
   split at hq
   ·rename_i sM
    split at hq
    ·rename_i xs hle qb
     have hle:=jh hle
     obtain⟨hl,EH⟩:=fT qb
     have hlen:xs.length=ti.size:=by rw[<-hl];exact iR hle
     have hU:∀(j:Nat) x,xs[j]?=some x->∃u,c[off+j]?=some u/\u.oneCell'=true/\bu S w x u:=by
      intro j x hj
      obtain⟨y,hy⟩:∃y,((cs.drop off).take ti.size)[j]?=some y:=⟨_,List.getElem?_eq_getElem (by rw[hl];exact aP hj)⟩
      have lC:=iQ hy
      obtain⟨u,hu⟩:=jg h3.symm (aP lC)
      obtain⟨h5,h6⟩:=h4 _ _ _ lC hu
      exact⟨u,hu,h5,h6.tH (EH j y x hy hj)⟩
     refine⟨_,_,hq,.p _ _ (DT xs (fun j=>(c[off+j]?).getD undef) fun j x hj=>?_),?_⟩
     ·obtain⟨u,h5,h6,h7⟩:=hU j x hj
      rw[h5]
      exact⟨h6,h7⟩
     have:=jy (w:=w) e_ sM g off ((List.range xs.length).map (fun j=>(c[off+j]?).getD undef)) (by simpa using hlen) (fun j v hj=>by
      have rq:j < xs.length:=by have:=aP hj;simpa using this
      rw[List.getElem?_map,List.getElem?_range rq] at hj
      obtain⟨u,h5,_⟩:=hU j _ (List.getElem?_eq_getElem rq)
      simp[h5] at hj
      rw[hcell _ _ h5,hj])
     rw[hv];exact this
    exact hq.elim
   rename_i sM
   split at hq
   ·rename_i y r hy
    have lC:=lD hy
    obtain⟨u,hu⟩:=jg h3.symm (aP lC)
    obtain⟨h5,h6⟩:=h4 _ _ _ lC hu
    refine⟨_,_,hq,h6,?_⟩
    have:=iV (w:=w) e_ sM g off u (hcell _ _ hu)
    rw[hv];exact this
   exact hq.elim
  ·rename_i cs bb
   obtain⟨hL,g,hg,hv⟩:=hx.gH (by rw[bb];trivial)
   have hh:=sim.hp id hL
   rw[bb] at hh
   obtain⟨b,TY,U,h1,hb,hcell,hrep⟩:=bu.ue hh
   rw[hg] at h1
   injection h1 with h1
   injection h1 with h1
   injection h1 with h1 h2
   subst h1 h2
   split at hq
   ·rename_i sM
    split at hq
    ·rename_i hle
     have hle:=jh hle
     have hlen:=iR hle
     refine⟨_,_,hq,.p _ _ (DT _ (fun j=>U (off+j)) fun j x hj=>?_),?_⟩
     ·have Gq:=iQ hj
      exact⟨(hcell _ x Gq).2,hrep _ x Gq⟩
     have:=jy (w:=w) e_ sM g off ((List.range ((cs.drop off).take ti.size).length).map (fun j=>U (off+j))) (by simpa using hlen) (fun j v hj=>by
      have rq:j < ((cs.drop off).take ti.size).length:=by have:=aP hj;simpa using this
      rw[List.getElem?_map,List.getElem?_range rq] at hj
      simp at hj
      have Nc:off+j < cs.length:=by rw[hlen] at rq;omega
      have h5:=(hcell _ _ (List.getElem?_eq_getElem Nc)).1
      rw[Nat.zero_add] at h5
      rw[h5,hj])
     rw[hv];exact this
    exact hq.elim
   rename_i sM
   split at hq
   ·rename_i y r hy
    have lC:=lD hy
    refine⟨_,_,hq,.p _ _ (hrep _ _ lC),?_⟩
    have:=iV (w:=w) e_ sM g off (U off) (by simpa using (hcell _ _ lC).1)
    rw[hv];exact this
   exact hq.elim
  exact hq.elim
 ·rename_i id i off m_
  rw[m_] at hx
  split at hq
  ·rename_i e es aL
   obtain⟨hL,g,n,c,tj,hg,wV,hv⟩:=hx.uh aL
   have hh:=sim.hp id hL
   rw[aL] at hh
   have IW:aR A.C.P w (bu S w) e es (.slice (some ⟨g,0,none⟩) n c):=by rw[<-hg];exact hh
   have hcell:=IW.cell wV
   obtain⟨r,hr,hq⟩:=hq
   split at hq
   ·rename_i sM
    split at hq
    ·rename_i hle
     have hle:=jh hle
     have hlen:=iR hle
     have hU:∀(j:Nat) x,((r.drop off).take ti.size)[j]?=some x->∃u,w.cell? ⟨g,i*tj.size+off+j,none⟩=some u/\u.oneCell'=true/\bu S w x u:=by
      intro j x hj
      obtain⟨u,h1,h2,h3⟩:=hcell i r _ x hr (iQ hj)
      exact⟨u,by rw[Nat.add_assoc];exact h1,h2,h3⟩
     refine⟨_,_,hq,.p _ _ (DT _ (fun j=>(w.cell? ⟨g,i*tj.size+off+j,none⟩).getD undef) fun j x hj=>?_),?_⟩
     ·obtain⟨u,h5,h6,h7⟩:=hU j x hj
      rw[h5]
      exact⟨h6,h7⟩
     have:=jy (w:=w) e_ sM g (i*tj.size+off) ((List.range ((r.drop off).take ti.size).length).map (fun j=>(w.cell? ⟨g,i*tj.size+off+j,none⟩).getD undef)) (by simpa using hlen) (fun j v hj=>by
      have rq:j < ((r.drop off).take ti.size).length:=by have:=aP hj;simpa using this
      rw[List.getElem?_map,List.getElem?_range rq] at hj
      obtain⟨u,h5,_⟩:=hU j _ (List.getElem?_eq_getElem rq)
      simp[h5] at hj
      rw[h5,hj])
     rw[hv];exact this
    exact hq.elim
   rename_i sM
   split at hq
   ·rename_i y r' hy
    have lC:=lD hy
    obtain⟨u,h1,h2,h3⟩:=hcell i r _ y hr lC
    refine⟨_,_,hq,.p _ _ h3,?_⟩
    have:=iV (w:=w) e_ sM g (i*tj.size+off) u h1
    rw[hv];exact this
   exact hq.elim
  ·rename_i e es aL
   obtain⟨hL,g,n,c,tj,hg,wV,hv⟩:=hx.qd aL
   have hh:=sim.hp id hL
   rw[aL] at hh
   have IW:aR A.C.P w (o8 S w A.C.P L rho s.h) e es (.slice (some ⟨g,0,none⟩) n c):=by rw[<-hg];exact hh.1
   have hcell:=IW.cell wV
   obtain⟨r,hr,hq⟩:=hq
   split at hq
   ·exact hq.elim
   rename_i sM
   split at hq
   ·rename_i y r' hy
    have lC:=lD hy
    obtain⟨u,h1,h2,h3⟩:=hcell i r _ _ hr lC
    refine⟨_,_,hq,h3,?_⟩
    have:=iV (w:=w) e_ sM g (i*tj.size+off) u h1
    rw[hv];exact this
   exact hq.elim
  exact hq.elim
 exact hq.elim
theorem Je {A:cV} {o:Oper} (t:TypeId) (x:Operand) (aU:o.op=.load t x):gF A o:=by
 intro V L S rho s a w K next Q hC sim hV hd hq _ hnext
 obtain⟨av,v,h1,h2,h3⟩:=zQ t x aU hC sim (fun j hj=>hV j (by simp[aU,Op.operands,hj])) hq
 exact a7 sim hd hnext h1 h2 (by simp only[execOp,aU,Sem.run_bind,h3,Result.andThen_ok,Sem.run_pure])
theorem lA.under {P:Program} {t:TypeId} {ti:TI} (h:lA P t ti):match ti.ud with
  | .sc=>(∃d,P.underlying t=some d/\(match d with | .struct _ | .array _ _=>False | _=>True))/\(ti.eq=true->P.underlying t=some .bool)
  | .int k=>P.underlying t=some (.int k)
  | .st fs=>∃gs,P.underlying t=some (.struct gs)/\fs.length=gs.size/\(∀(i:Nat) f g,fs[i]?=some f->gs[i]?=some g->f.1=g.offset/\f.2.1≠0/\(∃i2,P.info? g.type=some i2/\i2.size=f.2.1)/\
    (∃d,P.underlying g.type=some d/\f.2.2=(match d with | .struct _ | .array _ _=>true | _=>false)))
  | .sl e=>P.underlying t=some (.slice e)
  | .str=>P.underlying t=some .string
  | .mp k e=>P.underlying t=some (.map k e):=by
 obtain⟨_,_,_,_,_,_,_,_,_,h⟩:=h
 exact h
theorem lA.info {P:Program} {t:TypeId} {ti:TI} (h:lA P t ti):∃info z,P.info? t=some info/\info.size=ti.size/\info.bytes=ti.bytes/\info.zero=some z/\z.cells=ti.zero.toArray/\(∀v∈ti.zero,v.oneCell'=true):=by
 obtain⟨i,z,h1,h2,h3,h4,h5,h6,h7,h⟩:=h
 exact⟨i,z,h1,h2,h3,h4,h5,h7⟩
theorem lA.Gr {P:Program} {t:TypeId} {ti:TI} (h:lA P t ti):ti.zero.length=ti.size:=by
 obtain⟨i,z,h1,h2,h3,h4,h5,h6,h7,h⟩:=h
 exact h6
theorem xX {A:cV} {o:Oper} (t:TypeId) (x:Operand) (f:Nat) (aU:o.op=.fieldAddr t x f):gF A o:=by
 intro V L S rho s a w K next Q hC sim hV hd hq _ hnext
 simp only[bY,aU] at hq
 have hx:=bH sim x fun j hj=>hV j (by simp[aU,Op.operands,hj])
 split at hq
 ·rename_i fs size bytes zero eq hT
  have e_:=(hC.gE t _ hT).under
  obtain⟨gs,Gs,hl,hf⟩:=e_
  split at hq
  ·rename_i off sz ag Jf
   obtain⟨g,hg⟩:=jg hl (aP Jf)
   obtain⟨e1,e2,⟨i2,Gt,Ly⟩,_⟩:=hf f _ g Jf hg
   have hrun:∀b o',(Instr.fieldAt t (.pointer (some ⟨b,o',none⟩)) f).run A.C.P w=.ok (.pointer (some ⟨b,o'+off,none⟩)) w:=by
    intro b o'
    simp only at e1 e2 Ly
    simp[Instr.fieldAt,run_underlying Gs,hg,Instr.sureAddr,fieldPlace,Go.sizeOf,typeInfo,Gt,Ly,e2,Addr.add_lit,<-e1]
   split at hq
   ·rename_i cs m_
    rw[m_] at hx
    obtain⟨b,o',U,hv,hb,hcell,hrep⟩:=hx.fI.ue
    refine a7 sim hd hnext hq (.p _ _ (.ip _ b (o'+off) (fun j=>U (off+j)) hb (fun j y hj=>?_) fun j y hj=>?_)) (by simp[execOp,aU,hv,hrun])
    ·rw[List.getElem?_drop] at hj
     rw[Nat.add_assoc]
     exact hcell _ y hj
    rw[List.getElem?_drop] at hj
    exact hrep _ y hj
   ·rename_i id o' m_
    rw[m_] at hx
    split at hq
    ·exact hq.elim
    rename_i b8
    have ht:(s.h id).there:=by
     cases hh:s.h id <;> first | trivial | exact absurd hh (by simpa using b8)
    obtain⟨hL,g',mc,hv⟩:=hx.gH ht
    exact a7 sim hd hnext hq (.bx _ _ _ fun _=>⟨hL,g',mc,rfl⟩) (by simp[execOp,aU,hv,hrun])
   ·rename_i id i o' m_
    rw[m_] at hx
    split at hq
    ·rename_i e es aL
     obtain⟨hL,g',n,c,tj,mc,wV,hv⟩:=hx.uh aL
     refine a7 sim hd hnext hq (v:=.pointer (some ⟨g',i*tj.size+o'+off,none⟩)) (.rp _ _ _ _ fun e2 qe=>?_) (by simp[execOp,aU,hv,hrun])
     rw[aL] at qe
     injection qe with qe
     subst qe
     exact⟨hL,g',n,c,tj,mc,wV,by rw[Nat.add_assoc]⟩
    ·rename_i e es aL
     obtain⟨hL,g',n,c,tj,mc,wV,hv⟩:=hx.qd aL
     refine a7 sim hd hnext hq (v:=.pointer (some ⟨g',i*tj.size+o'+off,none⟩)) (.rp _ _ _ _ fun e2 qe=>?_) (by simp[execOp,aU,hv,hrun])
     rw[aL] at qe
     injection qe with qe
     subst qe
     exact⟨hL,g',n,c,tj,mc,wV,by rw[Nat.add_assoc]⟩
    exact hq.elim
   exact hq.elim
  exact hq.elim
 exact hq.elim
theorem Gu {A:cV} {o:Oper} (t:TypeId) (x:Operand) (f:Nat) (aU:o.op=.field t x f):gF A o:=by
 intro V L S rho s a w K next Q hC sim hV hd hq _ hnext
 simp only[bY,aU] at hq
 have hx:=bH sim x fun j hj=>hV j (by simp[aU,Op.operands,hj])
 split at hq
 ·rename_i fs size bytes zero eq cs hT m_
  have e_:=(hC.gE t _ hT).under
  obtain⟨gs,Gs,hl,hf⟩:=e_
  rw[m_] at hx
  obtain⟨vs,hv,xW,h1,hc⟩:=hx.fI.rB
  split at hq
  ·rename_i off sz ag Jf
   obtain⟨g,hg⟩:=jg hl (aP Jf)
   obtain⟨e1,e2,⟨i2,Gt,Ly⟩,d,Nd,sM⟩:=hf f _ g Jf hg
   simp only at e1 e2 Ly sM
   split at hq
   ·split at hq
    ·rename_i hle
     have hle:=jh hle
     have hlen:=iR hle
     refine a7 sim hd hnext hq (v:=.agg (vs.extract off (off+sz))) (.p _ _ (.ag _ _ (by simp;omega) (fun u hu=>h1 u ?_) fun i c v Sy Pq=>?_)) ?_
     ·simp at hu
      exact List.mem_of_mem_drop (List.mem_of_mem_take hu)
     ·have hi:=aP Sy
      rw[hlen] at hi
      have Qf:vs[off+i]?=some v:=by
       rw[Array.getElem?_extract] at Pq
       split at Pq
       ·exact Pq
       cases Pq
      exact hc _ c v (iQ Sy) Qf
     have ha:(isAgg g.type).run A.C.P w=.ok true w:=by
      rw[Go.isAgg,Sem.run_bind,run_underlying Nd]
      cases d <;> simp at sM <;> rfl
     simp[execOp,aU,hv,Instr.field,run_underlying Gs,hg,asAgg,part,ha,Go.sizeOf,typeInfo,Gt,Ly,<-e1]
    exact hq.elim
   split at hq
   ·rename_i c r hy
    have lC:=lD hy
    obtain⟨u,hu⟩:=jg xW (aP lC)
    refine a7 sim hd hnext hq (.p _ _ (hc _ _ _ lC hu)) ?_
    have ha:(isAgg g.type).run A.C.P w=.ok false w:=by
     rw[Go.isAgg,Sem.run_bind,run_underlying Nd]
     cases d <;> simp at sM <;> rfl
    simp[execOp,aU,hv,Instr.field,run_underlying Gs,hg,asAgg,part,ha,<-e1,hu]
   exact hq.elim
  exact hq.elim
 exact hq.elim
theorem nJ {P:Program} {w:World} {t e:TypeId} {ti:TypeInfo} (ht:P.underlying t=some (.slice e)) (hi:P.info? e=some ti) (b off n c:Nat) (k:IntKind) (i:Int) (h0:0<=i) (h1:i.toNat < n):
  (Instr.indexAt t (.slice (some ⟨b,off,none⟩) n c) (.int k i)).run P w=.ok (.pointer (some ⟨b,off+i.toNat*ti.size,none⟩)) w:=by
 have h2:i < n:=by omega
 simp[Instr.indexAt,asIntOf,run_underlying ht,h0,h2,Go.sizeOf,typeInfo,hi,Addr.add_lit]
theorem xY {A:cV} {o:Oper} (t:TypeId) (x ix:Operand) (aU:o.op=.indexAddr t x ix):gF A o:=by
 intro V L S rho s a w K next Q hC sim hV hd hq _ hnext
 simp only[bY,aU] at hq
 have hx:=bH sim x fun j hj=>hV j (by simp[aU,Op.operands,hj])
 have hy:=bH sim ix fun j hj=>hV j (by simp[aU,Op.operands,hj])
 split at hq
 ·rename_i e size bytes zero eq k i hT Lz
  have e_:=(hC.gE t _ hT).under
  simp only at e_
  rw[Lz] at hy
  replace hy:=hy.ca
  split at hq
  ·exact hq.elim
  rename_i te rC
  obtain⟨ie,ze,nK,we,_⟩:=(hC.gE e te rC).info
  have Sz:∀(es:List (List PV)),bu S w (.sl es) (a.eval x)->(∃r,(0<=i/\es[i.toNat]?=some r)/\match v_ r.length te.size with | true=>K (.p (.ip r)) [] none | false=>False)->o.wp A.C.P a w next Q:=by
   intro es hrep hq
   obtain⟨r,⟨h0,hr⟩,hq⟩:=hq
   split at hq
   ·rename_i hlen
    have hlen:=gG hlen
    obtain⟨ad,c,hv,hle,b8⟩:=hrep.mj
    obtain⟨b,off,k',rfl,hb,hk,hcell⟩:=b8 (by intro e;rw[e] at hr;simp at hr)
    have tI:k'=te.size:=by rw[<-hk r (List.mem_of_getElem? hr),hlen]
    have hU:∀(j:Nat) y,r[j]?=some y->∃u,w.cell? ⟨b,off+i.toNat*te.size+j,none⟩=some u/\u.oneCell'=true/\bu S w y u:=by
     intro j y hj
     have:=hcell _ _ j y hr hj
     rw[tI] at this
     exact this
    refine a7 sim hd hnext hq (.p _ _ (.ip _ b (off+i.toNat*te.size) (fun j=>(w.cell? ⟨b,off+i.toNat*te.size+j,none⟩).getD undef) hb (fun j y hj=>?_) fun j y hj=>?_)) ?_
    ·obtain⟨u,h1,h2,h3⟩:=hU j y hj
     simp[h1,h2]
    ·obtain⟨u,h1,h2,h3⟩:=hU j y hj
     simp only[h1]
     exact h3
    have:=nJ (w:=w) e_ nK b off es.length c k i h0 (aP hr)
    simp only[execOp,aU,hv,hy,Sem.run_bind,this,Result.andThen_ok,Sem.run_pure,we]
   exact hq.elim
  split at hq
  ·rename_i es DS
   rw[DS] at hx
   exact Sz es hx.fI hq
  ·rename_i id DS
   rw[DS] at hx
   split at hq
   ·rename_i e' es aL
    split at hq
    ·rename_i wg
     have wg:=gG wg
     subst wg
     obtain⟨hL,hv⟩:=hx.de (by rw[aL];trivial)
     have hh:=sim.hp id hL
     rw[aL] at hh
     have IW:aR A.C.P w (bu S w) e' es (rho id):=hh
     obtain⟨⟨h0,eL⟩,hq⟩:=hq
     obtain⟨i',xs,h1,h2,h3,h4,h5,h6⟩:=IW
     rcases h3.2 with⟨_,hn⟩ | ⟨g,cap,cur,hg,_,_,hle,_⟩
     ·omega
     refine a7 sim hd hnext hq (v:=.pointer (some ⟨g,i.toNat*ie.size,none⟩)) (.rp _ _ _ _ fun e2 qe=>?_) ?_
     ·rw[aL] at qe
      injection qe with qe
      subst qe
      exact⟨hL,g,_,_,ie,hg,nK,by rw[Nat.add_zero]⟩
     have:=nJ (w:=w) e_ nK g 0 es.length cap k i h0 eL
     rw[hg] at hv
     rw[Nat.zero_add] at this
     simp only[execOp,aU,hv,hy,Sem.run_bind,this,Result.andThen_ok,Sem.run_pure]
    exact hq.elim
   ·rename_i e' es aL
    split at hq
    ·rename_i wg
     have wg:=gG wg
     subst wg
     obtain⟨hL,hv⟩:=hx.de (by rw[aL];trivial)
     have hh:=sim.hp id hL
     rw[aL] at hh
     have IW:aR A.C.P w (o8 S w A.C.P L rho s.h) e' es (rho id):=hh.1
     obtain⟨⟨h0,eL⟩,hq⟩:=hq
     obtain⟨i',xs,h1,h2,h3,h4,h5,h6⟩:=IW
     rcases h3.2 with⟨_,hn⟩ | ⟨g,cap,cur,hg,_,_,hle,_⟩
     ·omega
     refine a7 sim hd hnext hq (v:=.pointer (some ⟨g,i.toNat*ie.size,none⟩)) (.rp _ _ _ _ fun e2 qe=>?_) ?_
     ·rw[aL] at qe
      injection qe with qe
      subst qe
      exact⟨hL,g,_,_,ie,hg,nK,by rw[Nat.add_zero]⟩
     have:=nJ (w:=w) e_ nK g 0 es.length cap k i h0 eL
     rw[hg] at hv
     rw[Nat.zero_add] at this
     simp only[execOp,aU,hv,hy,Sem.run_bind,this,Result.andThen_ok,Sem.run_pure]
    exact hq.elim
   ·rename_i es EI
    obtain⟨hL,hv⟩:=hx.de (by rw[EI];trivial)
    have hh:=sim.hp id hL
    rw[EI] at hh
    exact Sz es (by rw[hv];exact hh) hq
   exact hq.elim
  exact hq.elim
 exact hq.elim
theorem Gv {A:cV} {o:Oper} (t:TypeId) (x ix:Operand) (aU:o.op=.index t x ix):gF A o:=by
 intro V L S rho s a w K next Q hC sim hV hd hq _ hnext
 simp only[bY,aU] at hq
 have hx:=bH sim x fun j hj=>hV j (by simp[aU,Op.operands,hj])
 have hy:=bH sim ix fun j hj=>hV j (by simp[aU,Op.operands,hj])
 split at hq
 ·rename_i size bytes zero eq st k i hT hs Lz
  have e_:=(hC.gE t _ hT).under
  simp only at e_
  rw[Lz] at hy
  rw[hs] at hx
  obtain⟨b,⟨h0,hb⟩,hq⟩:=hq
  refine a7 sim hd hnext hq (.p _ _ (.im _)) ?_
  simp[execOp,aU,hx.ca,hy.ca,Instr.index,asIntOf,run_underlying e_,h0,hb]
 exact hq.elim
theorem B7 {A:cV} {o:Oper} (src dst:TypeId) (x:Operand) (aU:o.op=.convert src dst x):gF A o:=by
 intro V L S rho s a w K next Q hC sim hV hd hq _ hnext
 simp only[bY,aU] at hq
 have hx:=bH sim x fun j hj=>hV j (by simp[aU,Op.operands,hj])
 split at hq
 ·rename_i k' n TZ k size bytes zero eq hv Qg Qh
  have h2:=(hC.gE dst _ Qh).under
  simp only at h2
  rw[hv] at hx
  have h1:∃d,A.C.P.underlying src=some d:=by
   have:=(hC.gE src _ Qg).under
   cases hu:TZ.ud <;> rw[hu] at this
   ·exact⟨_,this.1.choose_spec.1⟩
   ·exact⟨_,this⟩
   ·exact⟨_,this.choose_spec.1⟩
   ·exact⟨_,this⟩
   ·exact⟨_,this⟩
   exact⟨_,this⟩
  obtain⟨d1,h1⟩:=h1
  exact a7 sim hd hnext (lB hq) (.p _ _ (.im _)) (by simp[execOp,aU,hx.ca,convert,run_underlying h1,run_underlying h2,Conv.intToInt])
 ·rename_i str SA Qi SB VM SC Qj SD VN hv Qg Qh
  have h2:=(hC.gE dst _ Qh).under
  have h1:=(hC.gE src _ Qg).under
  simp only at h1 h2
  rw[hv] at hx
  exact a7 sim hd hnext hq (.p _ _ (.im _)) (by simp[execOp,aU,hx.ca,convert,run_underlying h1,run_underlying h2])
 exact hq.elim
theorem zR {A:cV} {o:Oper} (x:Operand) (aU:o.op=.nilCheck x):gF A o:=by
 intro V L S rho s a w K next Q hC sim hV hd hq _ hnext
 simp only[bY,aU] at hq
 have hx:=bH sim x fun j hj=>hV j (by simp[aU,Op.operands,hj])
 have fin:∀av ad,K av [] none->bF S w A.C.P L rho s.h av (a.eval x)->a.eval x=.pointer (some ad)->o.wp A.C.P a w next Q:=by
  intro av ad hq hl he
  exact a7 sim hd hnext hq hl (by simp[execOp,aU,he])
 split at hq
 ·rename_i cs m_
  rw[m_] at hx
  obtain⟨b,off,U,hv,_⟩:=hx.fI.ue
  exact fin _ _ hq hx hv
 ·rename_i id off m_
  rw[m_] at hx
  split at hq
  ·rename_i hb
   obtain⟨_,g,_,hv⟩:=hx.gH (by rw[hb];trivial)
   exact fin _ _ hq hx hv
  ·rename_i hb
   obtain⟨_,g,_,hv⟩:=hx.gH (by rw[hb];trivial)
   exact fin _ _ hq hx hv
  exact hq.elim
 ·rename_i id i off m_
  rw[m_] at hx
  split at hq
  ·rename_i hb
   obtain⟨_,g,n,c,tj,_,_,hv⟩:=hx.uh hb
   exact fin _ _ hq hx hv
  ·rename_i hb
   obtain⟨_,g,n,c,tj,_,_,hv⟩:=hx.qd hb
   exact fin _ _ hq hx hv
  exact hq.elim
 exact hq.elim
theorem zS {A:cV} {o:Oper} (f:FuncId) (first cap:Array Operand) (aU:o.op=.makeFunc (.func f) first cap):gF A o:=by
 intro V L S rho s a w K next Q hC sim hV hd hq _ hnext
 simp only[bY,aU] at hq
 split at hq
 ·rename_i hn
  have he:first=#[]:=by
   obtain⟨l⟩:=first
   cases l with
   | nil=>rfl
   | cons y l=>simp[isNil] at hn
  subst he
  refine a7 sim hd hnext hq (.fn f _ (cap.map a.eval) (by simp) fun i c v hc hv=>?_) (by simp[execOp,aU,Instr.makeFunc])
  rw[List.getElem?_map] at hc
  obtain⟨y,hy,rfl⟩:=Option.map_eq_some_iff.1 hc
  have lC:cap[i]?=some y:=by simpa using hy
  rw[Array.getElem?_map,lC] at hv
  simp at hv
  rw[<-hv]
  exact bH sim y fun j hj=>hV j (by simp[aU,Op.operands];rw[<-hj];exact Array.mem_of_getElem? lC)
 exact hq.elim
end Go.AM
namespace Go.AM
open Go.RowKit
theorem cJ (h:Nat->AB) (a b:List (Nat×AB)):app h (a++b)=app (app h a) b:=by
 induction a generalizing h with
 | nil=>rfl
 | cons x a ih=>exact ih _
theorem bD {α:Type} (f:Nat->α) (i:Nat) (x:α) (j:Nat):(j=i/\br f i x j=x)\/(j≠i/\br f i x j=f j):=by
 by_cases e:j=i
 ·subst e;exact .inl ⟨rfl,aO _ _ _⟩
 exact .inr ⟨e,bw _ _ e⟩
theorem aR.zT {P:Program} {S S':Nat->Prop} {w:World} {e:TypeId} {es:List (List PV)} {v:Value} (h:aR P w (bu S w) e es v) (hS:∀b,S b->S' b) (hb:∀g,cU v=some g->S' g):bu S' w (.sl es) v:=by
 obtain⟨i,xs,h1,h2,h3,h4,h5,h6⟩:=h
 rcases h3.2 with⟨rfl,hn⟩ | ⟨g,cap,cur,rfl,_,_,hle,_⟩
 ·have:es=[]:=List.eq_nil_of_length_eq_zero hn
  subst this
  exact .nil _ _
 refine .sl es i.size g 0 cap (fun a j=>(xs[a*i.size+j]?).getD undef) hle (hb g rfl) h4 (fun a r j x ha hj=>?_) fun a r j x ha hj=>?_
 ·obtain⟨u,hu,hr⟩:=h6 a r j x ha hj
  have:=h3.cells (g:=g) rfl _ u hu
  rw[Addr.add_lit] at this
  rw[hu,Nat.add_assoc]
  exact⟨this,h5 u (List.mem_of_getElem? hu)⟩
 obtain⟨u,hu,hr⟩:=h6 a r j x ha hj
 rw[hu]
 exact hr.mono hS (fun _ _=>rfl)
theorem eD {w:World} {h:Nat->AB} {id:Nat} {b:AB} {i:Nat} {v:Value} {g:Nat} (hi:i≠id) (ho:hasB w (br h id b i) v g):hasB w (h i) v g:=by rw[bw _ _ hi] at ho;exact ho
theorem cu.wW {A:cV} {V L S:Nat->Prop} {rho:Nat->Value} {s:AS} {a:Act} {w:World} (sim:cu A V L S rho s a w) (hC:bV A.C) (id:Nat) (hL:L id) {e:TypeId} {es:List (List PV)} (aL:s.h id=.row e es):
  cu A V L (fun b=>S b\/cU (rho id)=some b) rho ⟨s.t,br s.h id (.iv es)⟩ a w:=by
 have T:jx S (fun b=>S b\/cU (rho id)=some b) w w L L rho rho s.h (br s.h id (.iv es)):=by
  refine⟨fun b h=>.inl h,fun _ _=>rfl,fun j hj=>⟨?_,fun hl=>⟨hl,rfl⟩⟩,fun j e' hj=>?_⟩
  ·rcases bD s.h id (.iv es) j with⟨rfl,h⟩ | ⟨_,h⟩
   ·rw[aL];trivial
   rw[h] at hj;exact hj
  rcases bD s.h id (.iv es) j with⟨rfl,h⟩ | ⟨_,h⟩
  ·rw[h] at hj;cases hj
  rw[h] at hj;exact hj
 have eQ:∀j,((br s.h id (.iv es)) j).live->j≠id/\(s.h j).live:=by
  intro j hj
  rcases bD s.h id (.iv es) j with⟨rfl,h⟩ | ⟨h1,h⟩
  ·rw[h] at hj;exact hj.elim
  rw[h] at hj;exact⟨h1,hj⟩
 have bZ:(s.h id).live:=by rw[aL];trivial
 exact
 {tm:=fun j hj=>(sim.tm j hj).lz T
  sz:=sim.sz,df:=sim.df,nb:=sim.nb,pn:=sim.pn
  ev:=hC.env _ _ _ _ sim.ev (fun b h=>.inl h) (fun _ _=>rfl) (Nat.le_refl _)
  s0:=fun b h=>.inl (sim.s0 b h)
  st:=fun b h=>h.elim (sim.st b) fun h=>(sim.nG id b hL bZ h).1
  sb:=fun b h=>h.elim (sim.sb b) fun h=>.inr (sim.nG id b hL bZ h).2.2
  hp:=fun j hj=>by
   have hh:=sim.hp j hj
   rcases bD s.h id (.iv es) j with⟨rfl,h⟩ | ⟨h1,h⟩
   ·show eC _ _ _ _ _ _ _ (br s.h j (.iv es) j)
    rw[h]
    rw[aL] at hh
    exact aR.zT hh (fun b h=>.inl h) (fun g h=>.inr h)
   show eC _ _ _ _ _ _ _ (br s.h id (.iv es) j)
   rw[h]
   exact hh.lz T (fun _ _ _=>rfl) (fun _=>rfl)
  dj:=fun i j g hi hj li lj eR iC=>sim.dj i j g hi hj (eQ i li).2 (eQ j lj).2 (eD (eQ i li).1 eR) (eD (eQ j lj).1 iC)
  lv:=fun i g hi li hg=>by
   obtain⟨h1,h2⟩:=eQ i li
   have hg:=eD h1 hg
   obtain⟨h3,h4,h5⟩:=sim.lv i g hi h2 hg
   refine⟨h3,fun h=>h.elim h4 fun h=>h1 (sim.dj i id g hi hL h2 bZ hg (.inl h)),h5⟩
  fr:=sim.fr }
theorem cu.EJ {A:cV} {V L S:Nat->Prop} {rho:Nat->Value} {s:AS} {a:Act} {w:World} (sim:cu A V L S rho s a w) (hC:bV A.C) (id:Nat) (hL:L id) {cs:List AV} {xs:List PV} (aL:s.h id=.box cs) (qb:dT cs=some xs):
  cu A V L (fun b=>S b\/cU (rho id)=some b) rho ⟨s.t,br s.h id (.iP xs)⟩ a w:=by
 have T:jx S (fun b=>S b\/cU (rho id)=some b) w w L L rho rho s.h (br s.h id (.iP xs)):=by
  refine⟨fun b h=>.inl h,fun _ _=>rfl,fun j hj=>⟨?_,fun hl=>⟨hl,rfl⟩⟩,fun j e' hj=>?_⟩
  ·rcases bD s.h id (.iP xs) j with⟨rfl,h⟩ | ⟨_,h⟩
   ·rw[aL];trivial
   rw[h] at hj;exact hj
  rcases bD s.h id (.iP xs) j with⟨rfl,h⟩ | ⟨_,h⟩
  ·rw[h] at hj;cases hj
  rw[h] at hj;exact hj
 have eQ:∀j,((br s.h id (.iP xs)) j).live->j≠id/\(s.h j).live:=by
  intro j hj
  rcases bD s.h id (.iP xs) j with⟨rfl,h⟩ | ⟨h1,h⟩
  ·rw[h] at hj;exact hj.elim
  rw[h] at hj;exact⟨h1,hj⟩
 have bZ:(s.h id).live:=by rw[aL];trivial
 exact
 {tm:=fun j hj=>(sim.tm j hj).lz T
  sz:=sim.sz,df:=sim.df,nb:=sim.nb,pn:=sim.pn
  ev:=hC.env _ _ _ _ sim.ev (fun b h=>.inl h) (fun _ _=>rfl) (Nat.le_refl _)
  s0:=fun b h=>.inl (sim.s0 b h)
  st:=fun b h=>h.elim (sim.st b) fun h=>(sim.nG id b hL bZ h).1
  sb:=fun b h=>h.elim (sim.sb b) fun h=>.inr (sim.nG id b hL bZ h).2.2
  hp:=fun j hj=>by
   have hh:=sim.hp j hj
   rcases bD s.h id (.iP xs) j with⟨rfl,h⟩ | ⟨h1,h⟩
   ·show eC _ _ _ _ _ _ _ (br s.h j (.iP xs) j)
    rw[h]
    rw[aL] at hh
    obtain⟨g,ty,c,k1,k2,k3,k4⟩:=hh
    show bu _ w (.ip xs) (rho j)
    rw[k1]
    obtain⟨hl,EH⟩:=fT qb
    have hU:∀(i:Nat) x,xs[i]?=some x->∃u,c[i]?=some u/\u.oneCell'=true/\bu S w x u:=by
     intro i x hi
     obtain⟨y,hy⟩:∃y,cs[i]?=some y:=⟨_,List.getElem?_eq_getElem (by rw[hl];exact aP hi)⟩
     obtain⟨u,hu⟩:=jg k3.symm (aP hy)
     obtain⟨h5,h6⟩:=k4 _ _ _ hy hu
     exact⟨u,hu,h5,h6.tH (EH i y x hy hi)⟩
    refine .ip xs g 0 (fun i=>(c[i]?).getD undef) (.inr rfl) (fun i x hi=>?_) fun i x hi=>?_
    ·obtain⟨u,h5,h6,h7⟩:=hU i x hi
     rw[Nat.zero_add,cell_of_row w g i c ty (0,0) k2,h5]
     exact⟨rfl,h6⟩
    obtain⟨u,h5,h6,h7⟩:=hU i x hi
    rw[h5]
    exact h7.mono (fun b h=>.inl h) (fun _ _=>rfl)
   show eC _ _ _ _ _ _ _ (br s.h id (.iP xs) j)
   rw[h]
   exact hh.lz T (fun _ _ _=>rfl) (fun _=>rfl)
  dj:=fun i j g hi hj li lj eR iC=>sim.dj i j g hi hj (eQ i li).2 (eQ j lj).2 (eD (eQ i li).1 eR) (eD (eQ j lj).1 iC)
  lv:=fun i g hi li hg=>by
   obtain⟨h1,h2⟩:=eQ i li
   have hg:=eD h1 hg
   obtain⟨h3,h4,h5⟩:=sim.lv i g hi h2 hg
   refine⟨h3,fun h=>h.elim h4 fun h=>h1 (sim.dj i id g hi hL h2 bZ hg (.inl h)),h5⟩
  fr:=sim.fr }
def Xd (h h':Nat->AB):Prop:=∀id,h' id=h id\/(∃e es,h id=.row e es/\h' id=.iv es)\/(∃cs xs,h id=.box cs/\dT cs=some xs/\h' id=.iP xs)
theorem Xd.refl (h:Nat->AB):Xd h h:=fun _=>.inl rfl
theorem Xd.Gw {h h':Nat->AB} (H:Xd h h') {id:Nat} {e:TypeId} {es:List (List PV)} (hr:h id=.row e es):Xd h (br h' id (.iv es)):=by
 intro j
 rcases bD h' id (.iv es) j with⟨rfl,h1⟩ | ⟨_,h1⟩
 ·exact .inr (.inl ⟨e,es,hr,h1⟩)
 rw[h1];exact H j
theorem Xd.Gx {h h':Nat->AB} (H:Xd h h') {id:Nat} {cs:List AV} {xs:List PV} (hr:h id=.box cs) (hx:dT cs=some xs):Xd h (br h' id (.iP xs)):=by
 intro j
 rcases bD h' id (.iP xs) j with⟨rfl,h1⟩ | ⟨_,h1⟩
 ·exact .inr (.inr ⟨cs,xs,hr,hx,h1⟩)
 rw[h1];exact H j
theorem bu.qf {S:Nat->Prop} {w:World} {xs:List PV} {g off:Nat} {v:Value} (h:bu S w (.ip xs) v) (hv:v=.pointer (some ⟨g,0,none⟩)):bu S w (.ip (xs.drop off)) (.pointer (some ⟨g,off,none⟩)):=by
 subst hv
 obtain⟨b,o,U,hv,hb,hcell,hrep⟩:=h.ue
 injection hv with hv
 injection hv with hv
 injection hv with h1 h2
 subst h1 h2
 refine .ip _ g off (fun j=>U (off+j)) hb (fun j x hj=>?_) fun j x hj=>?_
 ·rw[List.getElem?_drop] at hj
  have:=hcell _ x hj
  rwa [Nat.zero_add] at this
 rw[List.getElem?_drop] at hj
 exact hrep _ x hj
theorem wX {A:cV} {V L S:Nat->Prop} {rho:Nat->Value} {s:AS} {a:Act} {w:World} (hC:bV A.C) {h:Nat->AB} (sim:cu A V L S rho s a w) (hF:Xd h s.h) {x:AV} {v:Value} (hx:bF S w A.C.P L rho s.h x v) {K:PV->List (Nat×AB)->Prop} (hq:jN h x K):
  ∃y fz S',K y fz/\cu A V L S' rho ⟨s.t,app s.h fz⟩ a w/\bu S' w y v/\(∀b,S b->S' b)/\Xd h (app s.h fz)/\(∀p∈fz,L p.1)/\(∀p∈fz,¬p.2.live):=by
 unfold jN at hq
 split at hq
 ·exact⟨_,[],S,hq,sim,hx.fI,fun _ h=>h,hF,by simp,by simp⟩
 ·cases hx
  exact⟨_,[],S,hq,sim,.nil _ _,fun _ h=>h,hF,by simp,by simp⟩
 ·rename_i id
  split at hq
  ·rename_i e es aL
   rcases hF id with h1 | ⟨e',wk,h1,h2⟩ | ⟨cs,xs,h1,_,_⟩
   ·rw[aL] at h1
    obtain⟨hL,hv⟩:=hx.de (by rw[h1];trivial)
    refine⟨_,_,_,hq,sim.wW hC id hL h1,?_,fun b h=>.inl h,hF.Gw aL,by simpa using hL,by simp[AB.live]⟩
    have hh:=sim.hp id hL
    rw[h1] at hh
    rw[hv]
    exact aR.zT hh (fun b h=>.inl h) (fun g h=>.inr h)
   ·rw[aL] at h1
    injection h1 with e1 e2
    subst e1 e2
    obtain⟨hL,hv⟩:=hx.de (by rw[h2];trivial)
    have hh:=sim.hp id hL
    rw[h2] at hh
    refine⟨_,_,S,hq,?_,by rw[hv];exact hh,fun _ h=>h,hF.Gw aL,by simpa using hL,by simp[AB.live]⟩
    show cu A V L S rho ⟨s.t,br s.h id (.iv es)⟩ a w
    rw[eU _ _ _ h2]
    exact sim
   rw[aL] at h1;cases h1
  ·rename_i es EI
   rcases hF id with h1 | ⟨e',wk,h1,h2⟩ | ⟨cs,xs,h1,_,_⟩
   ·rw[EI] at h1
    obtain⟨hL,hv⟩:=hx.de (by rw[h1];trivial)
    have hh:=sim.hp id hL
    rw[h1] at hh
    exact⟨_,[],S,hq,sim,by rw[hv];exact hh,fun _ h=>h,hF,by simp,by simp⟩
   ·rw[EI] at h1;cases h1
   rw[EI] at h1;cases h1
  exact hq.elim
 ·rename_i id off
  split at hq
  ·rename_i cs bb
   split at hq
   ·rename_i xs qb
    rcases hF id with h1 | ⟨e',wk,h1,h2⟩ | ⟨kI,o9,h1,Jg,h2⟩
    ·rw[bb] at h1
     obtain⟨hL,g,hg,hv⟩:=hx.gH (by rw[h1];trivial)
     have cc:=sim.EJ hC id hL h1 qb
     refine⟨_,_,_,hq,cc,?_,fun b h=>.inl h,hF.Gx bb qb,by simpa using hL,by simp[AB.live]⟩
     have hh:=cc.hp id hL
     have IW:eC _ w A.C.P L rho _ id (br s.h id (.iP xs) id):=hh
     rw[aO] at IW
     have LA:bu _ w (.ip xs) (rho id):=IW
     rw[hv]
     exact LA.qf hg
    ·rw[bb] at h1;cases h1
    rw[bb] at h1
    injection h1 with h1
    subst h1
    rw[qb] at Jg
    injection Jg with Jg
    subst Jg
    obtain⟨hL,g,hg,hv⟩:=hx.gH (by rw[h2];trivial)
    have hh:=sim.hp id hL
    rw[h2] at hh
    have LA:bu _ w (.ip xs) (rho id):=hh
    refine⟨_,_,S,hq,?_,by rw[hv];exact LA.qf hg,fun _ h=>h,hF.Gx bb qb,by simpa using hL,by simp[AB.live]⟩
    show cu A V L S rho ⟨s.t,br s.h id (.iP xs)⟩ a w
    rw[eU _ _ _ h2]
    exact sim
   exact hq.elim
  ·rename_i xs LB
   rcases hF id with h1 | ⟨e',wk,h1,h2⟩ | ⟨cs,o9,h1,_,_⟩
   ·rw[LB] at h1
    obtain⟨hL,g,hg,hv⟩:=hx.gH (by rw[h1];trivial)
    have hh:=sim.hp id hL
    rw[h1] at hh
    have LA:bu _ w (.ip xs) (rho id):=hh
    exact⟨_,[],S,hq,sim,by rw[hv];exact LA.qf hg,fun _ h=>h,hF,by simp,by simp⟩
   ·rw[LB] at h1;cases h1
   rw[LB] at h1;cases h1
  exact hq.elim
 exact hq.elim
theorem EK {b:AB} {e:TypeId} (h:b.mf=some e):b.live:=by cases b <;> first | trivial | cases h
theorem EL {fz:List (Nat×AB)} (hn:∀p∈fz,¬p.2.live):∀{h:Nat->AB} {id:Nat},(app h fz id).live->app h fz id=h id:=by
 induction fz with
 | nil=>intro h id _;rfl
 | cons p fz ih=>
  intro h id hl
  obtain⟨i,b⟩:=p
  have e:=ih (fun p hp=>hn p (by simp[hp])) (h:=br h i b) (id:=id) hl
  have e2:app h ((i,b)::fz) id=br h i b id:=e
  by_cases ei:id=i
  ·subst ei
   rw[e2,aO] at hl
   exact absurd hl (hn (id,b) (by simp))
  rw[e2,bw _ _ ei]
theorem Xd.there {h h':Nat->AB} (H:Xd h h') (id:Nat):(h' id).there↔(h id).there:=by
 rcases H id with h1 | ⟨e,es,h1,h2⟩ | ⟨cs,xs,h1,_,h2⟩
 ·rw[h1]
 ·rw[h1,h2];exact Iff.rfl
 rw[h1,h2];exact Iff.rfl
theorem bF.froze {S S':Nat->Prop} {w:World} {P:Program} {L:Nat->Prop} {rho:Nat->Value} {h h':Nat->AB} {fz:List (Nat×AB)} (hS:∀b,S b->S' b) (H:Xd h h') (H2:Xd h (app h' fz)) (hn:∀p∈fz,¬p.2.live) {x:AV} {v:Value} (hx:bF S w P L rho h' x v):bF S' w P L rho (app h' fz) x v:=
 hx.lz ⟨hS,fun _ _=>rfl,fun id ht=>⟨(H.there id).2 ((H2.there id).1 ht),fun hl=>⟨hl,rfl⟩⟩,fun id e hr=>by rw[<-EL (h:=h') (id:=id) hn (EK hr)];exact hr⟩
theorem wY {A:cV} {V L:Nat->Prop} {rho:Nat->Value} {t:Nat->AV} {a:Act} {w:World} (hC:bV A.C) {h:Nat->AB}:∀(cap:List AV) (vs:List Value) (S:Nat->Prop) (h':Nat->AB) {K:List PV->List (Nat×AB)->Prop},cap.length=vs.length->cu A V L S rho ⟨t,h'⟩ a w->Xd h h' ->
  (∀(i:Nat) c v,cap[i]?=some c->vs[i]?=some v->bF S w A.C.P L rho h' c v)->sF h cap K ->
  ∃xs fz S',K xs fz/\cu A V L S' rho ⟨t,app h' fz⟩ a w/\(∀(i:Nat) x v,xs[i]?=some x->vs[i]?=some v->bu S' w x v)/\(∀b,S b->S' b)/\Xd h (app h' fz)/\(∀p∈fz,L p.1)/\xs.length=vs.length:=by
 intro cap
 induction cap with
 | nil=>
  intro vs S h' K hl sim hF _ hq
  have:vs=[]:=List.eq_nil_of_length_eq_zero hl.symm
  subst this
  exact⟨[],[],S,hq,sim,by simp,fun _ h=>h,hF,by simp,rfl⟩
 | cons c cap ih=>
  intro vs S h' K hl sim hF hrep hq
  cases vs with
  | nil=>simp at hl
  | cons v vs=>
   obtain⟨y,fz,S2,hq,bI,hp,xZ,F_,zK,T1⟩:=wX (s:=⟨t,h'⟩) hC sim hF (hrep 0 c v rfl rfl) hq
   obtain⟨xs,W0,S',k1,k2,k3,k4,k5,k6,k7⟩:=ih vs S2 (app h' fz) (by simpa using hl) bI F_ (fun i x u hx hu=>(hrep (i+1) x u (by simpa using hx) (by simpa using hu)).froze xZ hF F_ T1) hq
   refine⟨y::xs,fz++W0,S',k1,by rw[cJ];exact k2,fun i x u hx hu=>?_,fun b hb=>k4 b (xZ b hb),by rw[cJ];exact k5,fun p hp=>(List.mem_append.1 hp).elim (zK p) (k6 p),by simp[k7]⟩
   cases i with
   | zero=>simp at hx hu;subst hx hu;exact hp.mono k4 (fun _ _=>rfl)
   | succ i=>exact k3 i x u (by simpa using hx) (by simpa using hu)
theorem gm {A:cV} {V L S:Nat->Prop} {rho:Nat->Value} {s:AS} {a:Act} {w:World} (hC:bV A.C) {h:Nat->AB} (sim:cu A V L S rho s a w) (hF:Xd h s.h) {x:AV} {v:Value} (hx:bF S w A.C.P L rho s.h x v) {K:PV->List (Nat×AB)->Prop} (hq:gC h x K):
  ∃y fz S',K y fz/\cu A V L S' rho ⟨s.t,app s.h fz⟩ a w/\bu S' w y v/\(∀b,S b->S' b)/\Xd h (app s.h fz)/\(∀p∈fz,L p.1):=by
 unfold gC at hq
 split at hq
 ·rename_i f cap
  cases hx with
  | fn _ _ vs hl hc=>
   obtain⟨xs,fz,S',k1,k2,k3,k4,k5,k6,k7⟩:=wY (t:=s.t) hC cap vs.toList S s.h (by simpa using hl) sim hF (fun i c v h1 h2=>hc i c v h1 (by simpa using h2)) hq
   exact⟨_,fz,S',k1,k2,.fn f xs vs (by simpa using k7) (fun i c v h1 h2=>k3 i c v h1 (by simpa using h2)),k4,k5,k6⟩
 obtain⟨y,fz,S',h1,h2,h3,h4,h5,h6,_⟩:=wX hC sim hF hx hq
 exact⟨y,fz,S',h1,h2,h3,h4,h5,h6⟩
theorem gy {d:Nat}:∀{fz:List (Nat×AB)} {h:Nat->AB},(∀p∈fz,p.1≠d)->app h fz d=h d:=by
 intro fz
 induction fz with
 | nil=>intro h _;rfl
 | cons x fz ih=>
  intro h hn
  show app (br h x.1 x.2) fz d=h d
  rw[ih (fun p hp=>hn p (by simp[hp])),bw _ _ (fun e=>hn x (by simp) e.symm)]
theorem cu.kill {A:cV} {V L S:Nat->Prop} {rho:Nat->Value} {s:AS} {a:Act} {w:World} (sim:cu A V L S rho s a w) (id:Nat):cu A V L S rho ⟨s.t,br s.h id .none⟩ a w:=by
 have T:jx S S w w L L rho rho s.h (br s.h id .none):=by
  refine⟨fun b h=>h,fun _ _=>rfl,fun j hj=>⟨?_,fun hl=>⟨hl,rfl⟩⟩,fun j e' hj=>?_⟩
  ·rcases bD s.h id .none j with⟨rfl,h⟩ | ⟨_,h⟩
   ·rw[h] at hj;exact hj.elim
   rw[h] at hj;exact hj
  rcases bD s.h id .none j with⟨rfl,h⟩ | ⟨_,h⟩
  ·rw[h] at hj;cases hj
  rw[h] at hj;exact hj
 have eQ:∀j,((br s.h id .none) j).live->j≠id/\(s.h j).live:=by
  intro j hj
  rcases bD s.h id .none j with⟨rfl,h⟩ | ⟨h1,h⟩
  ·rw[h] at hj;exact hj.elim
  rw[h] at hj;exact⟨h1,hj⟩
 exact
 {tm:=fun j hj=>(sim.tm j hj).lz T
  sz:=sim.sz,df:=sim.df,nb:=sim.nb,pn:=sim.pn,ev:=sim.ev,s0:=sim.s0,st:=sim.st,sb:=sim.sb
  hp:=fun j hj=>by
   have hh:=sim.hp j hj
   rcases bD s.h id .none j with⟨rfl,h⟩ | ⟨h1,h⟩
   ·show eC _ _ _ _ _ _ _ (br s.h j .none j)
    rw[h]
    trivial
   show eC _ _ _ _ _ _ _ (br s.h id .none j)
   rw[h]
   exact hh.lz T (fun _ _ _=>rfl) (fun _=>rfl)
  dj:=fun i j g hi hj li lj eR iC=>sim.dj i j g hi hj (eQ i li).2 (eQ j lj).2 (eD (eQ i li).1 eR) (eD (eQ j lj).1 iC)
  lv:=fun i g hi li hg=>sim.lv i g hi (eQ i li).2 (eD (eQ i li).1 hg)
  fr:=sim.fr }
theorem cu.qg {A:cV} {V L S:Nat->Prop} {rho:Nat->Value} {s:AS} {a:Act} {w:World} (sim:cu A V L S rho s a w) (hC:bV A.C) (d:Nat) (b:AB) (hdb:d < 100000) (hL:¬L d) (hb:s.h d=b) (w':World) (ho:w'.os=w.os) (ht:w'.tape=w.tape) (hu:w'.output=w.output)
  (hsz:w.heap.size<=w'.heap.size) (R:Nat->Prop) (hold:∀k,k < w.heap.size->¬R k->w'.heap[k]?=w.heap[k]?) (hR:∀k,R k->¬S k/\(∀i,L i->(s.h i).live->¬hasB w (s.h i) (rho i) k)/\(A.mv k\/A.w0.heap.size<=k))
  (hv:Value) (hblk:∀g,hasB w' b hv g->g < w'.heap.size/\(w.heap.size<=g\/R g))
  (hrep:jx S S w w' L (fun i=>L i\/i=d) rho (br rho d hv) s.h s.h->eC S w' A.C.P (fun i=>L i\/i=d) (br rho d hv) s.h d b):
  cu A V (fun i=>L i\/i=d) S (br rho d hv) s a w':=by
 have iW:∀b,S b->w'.heap[b]?=w.heap[b]?:=fun k hk=>hold k (sim.st k hk) fun hr=>(hR k hr).1 hk
 have b8:∀i,L i->i≠d:=fun i hi e=>hL (e ▸ hi)
 have T:jx S S w w' L (fun i=>L i\/i=d) rho (br rho d hv) s.h s.h:=
  ⟨fun b h=>h,iW,fun j hj=>⟨hj,fun hl=>⟨.inl hl,bw _ _ (b8 j hl)⟩⟩,fun j e' hj=>hj⟩
 exact
 {tm:=fun j hj=>(sim.tm j hj).lz T
  sz:=sim.sz,df:=sim.df,nb:=sim.nb,pn:=fun id h=>by rw[bw _ _ (by omega)];exact sim.pn id h
  ev:=hC.env _ _ _ _ sim.ev (fun b h=>h) iW hsz
  s0:=sim.s0
  st:=fun b hb=>Nat.lt_of_lt_of_le (sim.st b hb) hsz
  sb:=sim.sb
  hp:=fun j hj=>by
   by_cases e:j=d
   ·subst e
    rw[hb]
    exact hrep T
   have hl:L j:=hj.resolve_right e
   refine (sim.hp j hl).lz T (fun li g hg=>?_) (fun _=>bw _ _ e)
   exact hold g (sim.lv j g hl li hg).1 fun hr=>(hR g hr).2.1 j hl li hg
  dj:=fun i j g hi hj li lj eR iC=>by
   have back:∀i g,L i->(s.h i).live->hasB w' (s.h i) (rho i) g->hasB w (s.h i) (rho i) g:=fun i g hl li h=>dC (fun k hk=>hold k (sim.nG i k hl li hk).1 fun hr=>(hR k hr).2.1 i hl li (.inl hk)) h
   by_cases e1:i=d
   ·by_cases e2:j=d
    ·rw[e1,e2]
    have hl:L j:=hj.resolve_right e2
    rw[bw _ _ e2] at iC
    have iC:=back j g hl lj iC
    rw[e1,aO,hb] at eR
    rcases (hblk g eR).2 with h | h
    ·exact absurd (sim.lv j g hl lj iC).1 (by omega)
    exact absurd iC ((hR g h).2.1 j hl lj)
   have hl:L i:=hi.resolve_right e1
   rw[bw _ _ e1] at eR
   have eR:=back i g hl li eR
   by_cases e2:j=d
   ·rw[e2,aO,hb] at iC
    rcases (hblk g iC).2 with h | h
    ·exact absurd (sim.lv i g hl li eR).1 (by omega)
    exact absurd eR ((hR g h).2.1 i hl li)
   have xW:L j:=hj.resolve_right e2
   rw[bw _ _ e2] at iC
   exact sim.dj i j g hl xW li lj eR (back j g xW lj iC)
  lv:=fun i g hi li hg=>by
   by_cases e:i=d
   ·rw[e,aO,hb] at hg
    obtain⟨h1,h2⟩:=hblk g hg
    refine⟨h1,?_⟩
    rcases h2 with h | h
    ·exact⟨fun hs=>absurd (sim.st g hs) (by omega),.inr (Nat.le_trans sim.fr.size h)⟩
    exact⟨(hR g h).1,(hR g h).2.2⟩
   have hl:L i:=hi.resolve_right e
   rw[bw _ _ e] at hg
   obtain⟨h1,h2,h3⟩:=sim.lv i g hl li (dC (fun k hk=>hold k (sim.nG i k hl li hk).1 fun hr=>(hR k hr).2.1 i hl li (.inl hk)) hg)
   exact⟨Nat.lt_of_lt_of_le h1 hsz,h2,h3⟩
  fr:=sim.fr.next ho ht hu hsz fun k hk hn=>hold k (Nat.lt_of_lt_of_le hk sim.fr.size) fun hr=>by
   rcases (hR k hr).2.2 with h | h
   ·exact hn h
   omega }
theorem cu.new {A:cV} {V L S:Nat->Prop} {rho:Nat->Value} {s:AS} {a:Act} {w:World} (sim:cu A V L S rho s a w) (hC:bV A.C) (d:Nat) (b:AB) (hdb:d < 100000) (hL:¬L d) (hb:s.h d=b) (w':World) (ho:w'.os=w.os) (ht:w'.tape=w.tape) (hu:w'.output=w.output)
  (hsz:w.heap.size<=w'.heap.size) (R:Nat->Prop) (hold:∀k,k < w.heap.size->¬R k->w'.heap[k]?=w.heap[k]?) (hR:∀k,R k->¬S k/\(∀i,L i->(s.h i).live->¬hasB w (s.h i) (rho i) k)/\(A.mv k\/A.w0.heap.size<=k))
  (hv:Value) (hblk:∀g,cU hv=some g->g < w'.heap.size/\(w.heap.size<=g\/R g))
  (hrep:jx S S w w' L (fun i=>L i\/i=d) rho (br rho d hv) s.h s.h->eC S w' A.C.P (fun i=>L i\/i=d) (br rho d hv) s.h d b)
  (hnh:Lq b=true:=by rfl):
  cu A V (fun i=>L i\/i=d) S (br rho d hv) s a w':=
 sim.qg hC d b hdb hL hb w' ho ht hu hsz R hold hR hv (fun g h=>hblk g (a6 hnh h)) hrep
theorem cu.Nw {A:cV} {V L S:Nat->Prop} {rho:Nat->Value} {s:AS} {a:Act} {w:World} (sim:cu A V L S rho s a w) (hC:bV A.C) (w':World) (hf:Fr (fun _=>False) w w') (S':Nat->Prop) (h1:∀b,S b->S' b) (h2:∀b,S' b->b < w'.heap.size) (h3:∀b,S' b->S b\/w.heap.size<=b):cu A V L S' rho s a w':=by
 have iW:∀b,S b->w'.heap[b]?=w.heap[b]?:=fun k hk=>hf.block k (sim.st k hk) (fun h=>h)
 have T:jx S S' w w' L L rho rho s.h s.h:=⟨h1,iW,fun j hj=>⟨hj,fun hl=>⟨hl,rfl⟩⟩,fun j e' hj=>hj⟩
 exact
 {tm:=fun j hj=>(sim.tm j hj).lz T
  sz:=sim.sz,df:=sim.df,nb:=sim.nb,pn:=sim.pn
  ev:=hC.env _ _ _ _ sim.ev h1 iW hf.size
  s0:=fun b hb=>h1 b (sim.s0 b hb)
  st:=h2
  sb:=fun b hb=>by
   rcases h3 b hb with h | h
   ·exact sim.sb b h
   exact .inr (.inr (Nat.le_trans sim.fr.size h))
  hp:=fun j hj=>(sim.hp j hj).lz T (fun li g hg=>hf.block g (sim.lv j g hj li hg).1 (fun h=>h)) (fun _=>rfl)
  dj:=fun i j g hi hj li lj eR iC=>sim.dj i j g hi hj li lj (dC (fun k hk=>hf.block k (sim.nG i k hi li hk).1 (fun h=>h)) eR) (dC (fun k hk=>hf.block k (sim.nG j k hj lj hk).1 (fun h=>h)) iC)
  lv:=fun i g hi li hg=>by
   obtain⟨a1,a2,a3⟩:=sim.lv i g hi li (dC (fun k hk=>hf.block k (sim.nG i k hi li hk).1 (fun h=>h)) hg)
   refine⟨Nat.lt_of_lt_of_le a1 hf.size,fun h=>?_,a3⟩
   rcases h3 g h with h | h
   ·exact a2 h
   omega
  fr:=sim.fr.next hf.os hf.tape hf.output hf.size fun k hk _=>hf.block k (Nat.lt_of_lt_of_le hk sim.fr.size) (fun h=>h) }
theorem cu.LC {A:cV} {V L S:Nat->Prop} {rho:Nat->Value} {s:AS} {a:Act} {w:World} (sim:cu A V L S rho s a w) (d:Nat) (es:List (List PV)) (hdb:d < 100000) (hL:¬L d) (hb:s.h d=.iv es) (hv:Value)
  (hrep:bu S w (.sl es) hv):cu A V (fun i=>L i\/i=d) S (br rho d hv) s a w:=by
 have b8:∀i,L i->i≠d:=fun i hi e=>hL (e ▸ hi)
 have T:jx S S w w L (fun i=>L i\/i=d) rho (br rho d hv) s.h s.h:=
  ⟨fun b h=>h,fun _ _=>rfl,fun j hj=>⟨hj,fun hl=>⟨.inl hl,bw _ _ (b8 j hl)⟩⟩,fun j e' hj=>hj⟩
 have out:∀i,(L i\/i=d)->(s.h i).live->L i/\i≠d:=fun i hi li=>by
  by_cases e:i=d
  ·rw[e,hb] at li;exact li.elim
  exact⟨hi.resolve_right e,e⟩
 exact
 {tm:=fun j hj=>(sim.tm j hj).lz T
  sz:=sim.sz,df:=sim.df,nb:=sim.nb,pn:=fun id h=>by rw[bw _ _ (by omega)];exact sim.pn id h
  ev:=sim.ev
  s0:=sim.s0
  st:=sim.st
  sb:=sim.sb
  hp:=fun j hj=>by
   by_cases e:j=d
   ·subst e
    rw[hb]
    show bu S w (.sl es) (br rho j hv j)
    rw[aO]
    exact hrep
   have hl:L j:=hj.resolve_right e
   exact (sim.hp j hl).lz T (fun li g hg=>rfl) (fun _=>bw _ _ e)
  dj:=fun i j g hi hj li lj eR iC=>by
   obtain⟨l1,e1⟩:=out i hi li
   obtain⟨l2,e2⟩:=out j hj lj
   rw[bw _ _ e1] at eR
   rw[bw _ _ e2] at iC
   exact sim.dj i j g l1 l2 li lj eR iC
  lv:=fun i g hi li eR=>by
   obtain⟨l1,e1⟩:=out i hi li
   rw[bw _ _ e1] at eR
   exact sim.lv i g l1 li eR
  fr:=sim.fr }
theorem cu.x8 {A:cV} {V L S:Nat->Prop} {rho:Nat->Value} {s:AS} {a:Act} {w:World} (sim:cu A V L S rho s a w) (hC:bV A.C) (id:Nat) (hL:L id) (bZ:(s.h id).live) (b':AB) (hb':∀e,b'.mf=some e->(s.h id).mf=some e)
  (w':World) (ho:w'.os=w.os) (ht:w'.tape=w.tape) (hu:w'.output=w.output) (hsz:w'.heap.size=w.heap.size) (hold:∀k,cU (rho id)≠some k->w'.heap[k]?=w.heap[k]?)
  (hrep:jx S S w w' L L rho rho s.h (br s.h id b')->eC S w' A.C.P L rho (br s.h id b') id b') (hown:∀g,hasB w' b' (rho id) g->hasB w (s.h id) (rho id) g):cu A V L S rho ⟨s.t,br s.h id b'⟩ a w':=by
 have iW:∀b,S b->w'.heap[b]?=w.heap[b]?:=fun k hk=>hold k fun e=>(sim.nG id k hL bZ e).2.1 hk
 have LD:(s.h id).there:=by cases hh:s.h id <;> rw[hh] at bZ <;> first | trivial | exact bZ.elim
 have T:jx S S w w' L L rho rho s.h (br s.h id b'):=by
  refine⟨fun b h=>h,iW,fun j hj=>⟨?_,fun hl=>⟨hl,rfl⟩⟩,fun j e' hj=>?_⟩
  ·rcases bD s.h id b' j with⟨rfl,h⟩ | ⟨_,h⟩
   ·exact LD
   rw[h] at hj;exact hj
  rcases bD s.h id b' j with⟨rfl,h⟩ | ⟨_,h⟩
  ·rw[h] at hj;exact hb' e' hj
  rw[h] at hj;exact hj
 have eQ:∀j,((br s.h id b') j).live->(s.h j).live:=by
  intro j hj
  rcases bD s.h id b' j with⟨rfl,h⟩ | ⟨h1,h⟩
  ·exact bZ
  rw[h] at hj;exact hj
 have back:∀j g,L j->((br s.h id b') j).live->hasB w' (br s.h id b' j) (rho j) g->hasB w (s.h j) (rho j) g:=by
  intro j g hl hj IX
  rcases bD s.h id b' j with⟨rfl,h⟩ | ⟨h1,h⟩
  ·rw[h] at IX;exact hown g IX
  rw[h] at IX hj
  exact dC (fun k hk=>hold k fun e=>h1 (sim.Pp j id k hl hL hj bZ hk e)) IX
 exact
 {tm:=fun j hj=>(sim.tm j hj).lz T
  sz:=sim.sz,df:=sim.df,nb:=sim.nb,pn:=sim.pn
  ev:=hC.env _ _ _ _ sim.ev (fun b h=>h) iW (Nat.le_of_eq hsz.symm)
  s0:=sim.s0
  st:=fun b hb=>by rw[hsz];exact sim.st b hb
  sb:=sim.sb
  hp:=fun j hj=>by
   rcases bD s.h id b' j with⟨rfl,h⟩ | ⟨h1,h⟩
   ·show eC _ _ _ _ _ _ _ (br s.h j b' j)
    rw[h]
    exact hrep T
   show eC _ _ _ _ _ _ _ (br s.h id b' j)
   rw[h]
   refine (sim.hp j hj).lz T (fun li g hg=>hold g fun e=>?_) (fun _=>rfl)
   exact h1 (sim.dj j id g hj hL li bZ hg (.inl e))
  dj:=fun i j g hi hj li lj eR iC=>sim.dj i j g hi hj (eQ i li) (eQ j lj) (back i g hi li eR) (back j g hj lj iC)
  lv:=fun i g hi li hg=>by rw[hsz];exact sim.lv i g hi (eQ i li) (back i g hi li hg)
  fr:=sim.fr.next ho ht hu (Nat.le_of_eq hsz.symm) fun k hk hn=>hold k fun e=>by
   rcases (sim.nG id k hL bZ e).2.2 with h | h
   ·exact hn h
   omega }
theorem cu.write {A:cV} {V L S:Nat->Prop} {rho:Nat->Value} {s:AS} {a:Act} {w:World} (sim:cu A V L S rho s a w) (hC:bV A.C) (id:Nat) (hL:L id) (bZ:(s.h id).live) (b':AB) (hb':∀e,b'.mf=some e->(s.h id).mf=some e)
  (w':World) (ho:w'.os=w.os) (ht:w'.tape=w.tape) (hu:w'.output=w.output) (hsz:w'.heap.size=w.heap.size) (hold:∀k,cU (rho id)≠some k->w'.heap[k]?=w.heap[k]?)
  (hrep:jx S S w w' L L rho rho s.h (br s.h id b')->eC S w' A.C.P L rho (br s.h id b') id b') (hnh:Lq b'=true:=by rfl):cu A V L S rho ⟨s.t,br s.h id b'⟩ a w':=
 sim.x8 hC id hL bZ b' hb' w' ho ht hu hsz hold hrep fun _ h=>.inl (a6 hnh h)
theorem cu.nd {A:cV} {V L S:Nat->Prop} {rho:Nat->Value} {s:AS} {a:Act} {w:World} (sim:cu A V L S rho s a w) {dst:Option Tmp} (hd:∀d,dst=some d->d < A.n):dst.getD 0 < 100000:=by
 cases dst with
 | none=>exact Nat.zero_lt_succ _
 | some d=>exact Nat.lt_of_lt_of_le (hd d rfl) sim.nb
theorem oB {A:cV} {V L S:Nat->Prop} {rho:Nat->Value} {s:AS} {a:Act} {w:World} (sim:cu A V L S rho s a w) {x:AV} {v:Value} (h:ry s.h x=true) (hx:bF S w A.C.P L rho s.h x v):v.oneCell'=true:=by
 unfold ry at h
 split at h
 ·rw[hx.ca];exact h
 ·cases h
 ·rename_i y h1 h2
  have hy:=hx.fI
  cases hy with
  | im=>exact absurd rfl (h1 _)
  | ag cs vs=>exact absurd rfl (h2 cs)
  | nil=>rfl
  | sl=>rfl
  | ip=>rfl
  | fn=>rfl
 ·cases hx;rfl
 ·rename_i id
  split at h
  ·rename_i e es aL
   obtain⟨hL,hv⟩:=hx.de (by rw[aL];trivial)
   have hh:=sim.hp id hL
   rw[aL] at hh
   obtain⟨i,xs,_,_,h3,_⟩:=hh
   rw[hv]
   rcases h3.2 with⟨h4,_⟩ | ⟨g,cap,cur,h4,_⟩ <;> rw[h4] <;> rfl
  ·rename_i e es aL
   obtain⟨hL,hv⟩:=hx.de (by rw[aL];trivial)
   have hh:=sim.hp id hL
   rw[aL] at hh
   obtain⟨⟨i,xs,_,_,h3,_⟩,_⟩:=hh
   rw[hv]
   rcases h3.2 with⟨h4,_⟩ | ⟨g,cap,cur,h4,_⟩ <;> rw[h4] <;> rfl
  ·rename_i es aL
   obtain⟨hL,hv⟩:=hx.de (by rw[aL];trivial)
   have hh:=sim.hp id hL
   rw[aL] at hh
   obtain⟨ad,c,h4,_⟩:=bu.mj hh
   rw[hv,h4];rfl
  cases h
 ·rename_i id off
  split at h
  ·cases h
  rename_i b8
  have ht:(s.h id).there:=by
   cases hh:s.h id <;> first | trivial | exact absurd hh (by simpa using b8)
  obtain⟨_,g,_,hv⟩:=hx.gH ht
  rw[hv];rfl
 ·rename_i id i off
  split at h
  ·rename_i e es aL
   obtain⟨_,g,n,c,tj,_,_,hv⟩:=hx.uh aL
   rw[hv];rfl
  ·rename_i e es aL
   obtain⟨_,g,n,c,tj,_,_,hv⟩:=hx.qd aL
   rw[hv];rfl
  cases h
 ·cases hx;rfl
 cases h
theorem cells_one {v:Value} (h:v.oneCell'=true):v.cells=#[v]:=by cases v <;> first | rfl | cases h
theorem sN {S:Nat->Prop} {w:World} {x:PV} {ys:List PV} {v:Value} (h:pC x=some ys) (hx:bu S w x v):v.cells.size=ys.length/\(∀u∈v.cells.toList,u.oneCell'=true)/\∀(j:Nat) y u,ys[j]?=some y->v.cells[j]?=some u->bu S w y u:=by
 have one:∀{v:Value},v.oneCell'=true->bu S w x v->ys=[x]->v.cells.size=ys.length/\(∀u∈v.cells.toList,u.oneCell'=true)/\∀(j:Nat) y u,ys[j]?=some y->v.cells[j]?=some u->bu S w y u:=by
  intro v h1 hx hy
  subst hy
  rw[cells_one h1]
  refine⟨rfl,by simpa using h1,fun j y u hj hu=>?_⟩
  cases j with
  | zero=>simp at hj hu;subst hj hu;exact hx
  | succ j=>simp at hj
 unfold pC at h
 split at h
 ·injection h with h
  subst h
  obtain⟨vs,rfl,h1,h2,h3⟩:=hx.rB
  exact⟨h1.symm,h2,h3⟩
 ·split at h
  ·rename_i h1
   injection h with h
   exact one (by rw[hx.ca];exact h1) hx h.symm
  cases h
 rename_i h1 h2
 injection h with h
 refine one ?_ hx h.symm
 cases hx with
 | im=>exact absurd rfl (h2 _)
 | ag cs=>exact absurd rfl (h1 cs)
 | nil=>rfl
 | sl=>rfl
 | ip=>rfl
 | fn=>rfl
theorem LF {A:cV} {o:Oper} (e:TypeId) (x:Operand) (aU:o.op=.box e x):gF A o:=by
 intro V L S rho s a w K next Q hC sim hV hd hq hn hnext
 simp only[bY,aU] at hq
 have hx:=bH sim x fun j hj=>hV j (by simp[aU,Op.operands,hj])
 have hr:(execOp a.eval o).run A.C.P w=.ok (.value (.pointer (some ⟨w.heap.size,0,none⟩))) (w.alloc (.cells (a.eval x).cells e)):=by
  simp[execOp,aU,Instr.box,newVar,newRow,newObj,Sem.run]
 have main:∀cs:List AV,K (.bx (o.dst.getD 0) 0) [] (some (.box cs))->(a.eval x).cells.size=cs.length->(∀(j:Nat) y u,cs[j]?=some y->(a.eval x).cells[j]?=some u->u.oneCell'=true/\bF S w A.C.P L rho s.h y u)->o.wp A.C.P a w next Q:=by
  intro cs hq hl hc
  obtain⟨hL,hb⟩:=hn _ _ _ hq
  have cc:=sim.new hC (o.dst.getD 0) (.box cs) (sim.nd hd) hL hb (w.alloc (.cells (a.eval x).cells e)) rfl rfl rfl (by simp) (fun _=>False) (fun k hk _=>Below.heap_alloc _ _ _ hk) (fun _ h=>h.elim) (.pointer (some ⟨w.heap.size,0,none⟩))
   (fun g hg=>by simp[cU] at hg;subst hg;simp) (fun T=>⟨w.heap.size,e,(a.eval x).cells,aO _ _ _,heap_alloc_new w _,hl,fun j y u hj hu=>⟨(hc j y u hj hu).1,(hc j y u hj hu).2.lz T⟩⟩)
  refine dP hr (hnext _ _ _ _ _ _ _ hq (cc.value o.dst hd _ _ (.bx _ _ _ fun _=>⟨.inr rfl,w.heap.size,aO _ _ _,rfl⟩)))
 split at hq
 ·rename_i cs m_
  rw[m_] at hx
  obtain⟨vs,hv,h1,h2,h3⟩:=hx.fI.rB
  refine main _ hq (by rw[hv];simp[Value.cells,h1]) fun j y u hj hu=>?_
  rw[hv] at hu
  rw[List.getElem?_map] at hj
  obtain⟨z,hz,rfl⟩:=Option.map_eq_some_iff.1 hj
  have oC:vs[j]?=some u:=hu
  exact⟨h2 u (by simpa using Array.mem_of_getElem? oC),.p _ _ (h3 j z u hz oC)⟩
 ·rename_i xs m_
  rw[m_] at hx
  obtain⟨vs,hv,h1,h2,h3⟩:=hx.Lw
  refine main _ hq (by rw[hv];simp[Value.cells,h1]) fun j y u hj hu=>?_
  rw[hv] at hu
  have oC:vs[j]?=some u:=hu
  exact⟨h2 u (by simpa using Array.mem_of_getElem? oC),h3 j y u hj oC⟩
 split at hq
 ·rename_i h1
  have h2:=oB sim h1 hx
  refine main _ hq (by rw[cells_one h2];rfl) fun j y u hj hu=>?_
  rw[cells_one h2] at hu
  cases j with
  | zero=>simp at hj hu;subst hj hu;exact⟨h2,hx⟩
  | succ j=>simp at hj
 exact hq.elim
theorem Gy {A:cV} {o:Oper} (e:TypeId) (aU:o.op=.alloc e):gF A o:=by
 intro V L S rho s a w K next Q hC sim hV hd hq hn hnext
 simp only[bY,aU] at hq
 split at hq
 ·rename_i ti hT
  obtain⟨info,z,hi,h1,h2,hz,hcells,gT⟩:=(hC.gE e ti hT).info
  have hr:(execOp a.eval o).run A.C.P w=.ok (.value (.pointer (some ⟨w.heap.size,0,none⟩))) (w.alloc (.cells z.cells e)):=by
   simp[execOp,aU,Instr.alloc,zeroValue,typeInfo,hi,hz,newVar,newRow,newObj,Sem.run]
  split at hq
  ·obtain⟨hL,hb⟩:=hn _ _ _ hq
   have cc:=sim.new hC (o.dst.getD 0) _ (sim.nd hd) hL hb (w.alloc (.cells z.cells e)) rfl rfl rfl (by simp) (fun _=>False) (fun k hk _=>Below.heap_alloc _ _ _ hk) (fun _ h=>h.elim) (.pointer (some ⟨w.heap.size,0,none⟩))
    (fun g hg=>by simp[cU] at hg;subst hg;simp) (fun T=>⟨w.heap.size,e,z.cells,aO _ _ _,heap_alloc_new w _,by rw[hcells];simp,fun j y u hj hu=>by
     rw[hcells] at hu
     rw[List.getElem?_map] at hj
     obtain⟨v,hv,rfl⟩:=Option.map_eq_some_iff.1 hj
     have oC:ti.zero[j]?=some u:=by simpa using hu
     rw[hv] at oC
     injection oC with oC
     subst oC
     exact⟨gT v (List.mem_of_getElem? hv),uc _ _ _ _ _ _ v⟩⟩)
   refine dP hr (hnext _ _ _ _ _ _ _ hq (cc.value o.dst hd _ _ (.bx _ _ _ fun _=>⟨.inr rfl,w.heap.size,aO _ _ _,rfl⟩)))
  obtain⟨hL,hb⟩:=hn _ _ _ hq
  have cc:=sim.new hC (o.dst.getD 0) _ (sim.nd hd) hL hb (w.alloc (.cells z.cells e)) rfl rfl rfl (by simp) (fun _=>False) (fun k hk _=>Below.heap_alloc _ _ _ hk) (fun _ h=>h.elim) (.pointer (some ⟨w.heap.size,0,none⟩))
   (fun g hg=>by simp[cU] at hg;subst hg;simp) (fun T=>⟨w.heap.size,z.cells,aO _ _ _,heap_alloc_new w _,by rw[hcells];simp,fun j y u hj hu=>by
    rw[hcells] at hu
    rw[List.getElem?_map] at hj
    obtain⟨v,hv,rfl⟩:=Option.map_eq_some_iff.1 hj
    have oC:ti.zero[j]?=some u:=by simpa using hu
    rw[hv] at oC
    injection oC with oC
    subst oC
    exact⟨gT v (List.mem_of_getElem? hv),uc _ _ _ _ _ _ v⟩⟩)
  refine dP hr (hnext _ _ _ _ _ _ _ hq (cc.value o.dst hd _ _ (.bx _ _ _ fun _=>⟨.inr rfl,w.heap.size,aO _ _ _,rfl⟩)))
 exact hq.elim
end Go.AM
namespace Go.AM
open Go.RowKit
theorem jP {id:Nat}:∀{fz:List (Nat×AB)} {h:Nat->AB},p8 id fz=true->app h fz id=h id:=by
 intro fz
 induction fz with
 | nil=>intro h _;rfl
 | cons x fz ih=>
  intro h hn
  unfold p8 at hn
  split at hn
  ·cases hn
  rename_i b8
  show app (br h x.1 x.2) fz id=h id
  rw[ih hn,bw _ _ (fun e=>by rw[e] at b8;simp at b8)]
theorem c8 {α:Type}:∀(ys:List α) (cs:List α) (off:Nat),(setCells cs off ys).length=cs.length:=by
 intro ys
 induction ys with
 | nil=>intro cs off;rfl
 | cons y ys ih=>intro cs off;simp[setCells,ih]
theorem dU {α:Type}:∀(ys:List α) (cs:List α) (off j:Nat),off+ys.length<=cs.length->(setCells cs off ys)[j]?=if off<=j/\j < off+ys.length then ys[j - off]? else cs[j]?:=by
 intro ys
 induction ys with
 | nil=>intro cs off j _;simp only[setCells,List.length_nil];rw[if_neg (by omega)]
 | cons y ys ih=>
  intro cs off j hl
  simp only[List.length_cons] at hl ⊢
  simp only[setCells]
  rw[ih _ _ _ (by simp;omega)]
  by_cases h1:j=off
  ·subst h1
   rw[if_neg (by omega),if_pos (by omega),Nat.sub_self,List.getElem?_set_self (by omega)]
   rfl
  by_cases h2:off+1<=j/\j < off+1+ys.length
  ·rw[if_pos h2,if_pos (by omega),show j - off=(j - (off+1))+1 by omega,List.getElem?_cons_succ]
  rw[if_neg h2,if_neg (by omega),List.getElem?_set_ne (by omega)]
theorem mn {α:Type} (cs ys:List α) (off j:Nat) (hl:off+ys.length<=cs.length):(cs.take off++ys++cs.drop (off+ys.length))[j]?=if off<=j/\j < off+ys.length then ys[j - off]? else cs[j]?:=by
 have h0:(cs.take off).length=off:=by simp;omega
 by_cases h1:j < off
 ·rw[if_neg (by omega),List.append_assoc,List.getElem?_append_left (by omega),List.getElem?_take_of_lt h1]
 by_cases h2:j < off+ys.length
 ·rw[if_pos (by omega),List.append_assoc,List.getElem?_append_right (by omega),h0,List.getElem?_append_left (by omega)]
 rw[if_neg (by omega),List.append_assoc,List.getElem?_append_right (by omega),h0,List.getElem?_append_right (by omega),List.getElem?_drop]
 congr 1
 omega
theorem Jh {α:Type} (cs:List α) (off j:Nat) (y:α) (hl:off < cs.length):(cs.set off y)[j]?=if off<=j/\j < off+1 then [y][j - off]? else cs[j]?:=dU [y] cs off j hl
theorem nL {P:Program} {w:World} {t:TypeId} {ti:TI} (h:lA P t ti) (g off:Nat) (ty:TypeId) (cur:Array Value) (v:Value) (hg:w.heap[g]?=some (.cells cur ty (0,0))) (hs:v.cells.size=ti.size) (hl:off+ti.size<=cur.size) (h1:∀u∈v.cells.toList,u.oneCell'=true):
  (Instr.storeAt t (.pointer (some ⟨g,off,none⟩)) v).run P w=.ok () (w.setRow g (cur.toList.take off++v.cells.toList++cur.toList.drop (off+v.cells.toList.length)).toArray):=by
 have:=run_storeCells_at P g off ty v.cells.toList 0 cur w hg (by simp[hs];omega) h1
 simp only[Nat.add_zero] at this
 simp[Instr.storeAt,Instr.sureAddr,storeVar,h.sizeOf,hs]
 simpa [hs] using this
theorem W3 {P:Program} {a:Act} {o:Oper} {w w':World} {t:TypeId} {x y:Operand} (aU:o.op=.store t x y) (h:(Instr.storeAt t (a.eval x) (a.eval y)).run P w=.ok () w'):(execOp a.eval o).run P w=.ok .skip w':=by
 simp only[execOp,aU,Sem.run_bind,h,Result.andThen_ok,Sem.run_pure]
theorem aR.stored {α:Type} {P:Program} {w:World} {R R':α->Value->Prop} {e:TypeId} {es:List (List α)} {g n c:Nat} {tj:TypeInfo} (h:aR P w R e es (.slice (some ⟨g,0,none⟩) n c)) (wV:P.info? e=some tj) {cur:Array Value} (hg:w.heap[g]?=some (.cells cur e (0,0)))
  {i off:Nat} {r:List α} (hr:es[i]?=some r) {ys:List α} {us:List Value} (hle:off+ys.length<=r.length) (hlen:us.length=ys.length) (gT:∀u∈us,u.oneCell'=true) (hR:∀x u,R x u->R' x u) (hcells:∀(j:Nat) z u,ys[j]?=some z->us[j]?=some u->R' z u):
  aR P (w.setRow g (cur.toList.take (i*tj.size+off)++us++cur.toList.drop (i*tj.size+off+us.length)).toArray) R' e (es.set i (setCells r off ys)) (.slice (some ⟨g,0,none⟩) n c):=by
 obtain⟨ie,xs,k1,k2,k3,k4,k5,k6⟩:=h
 rw[wV] at k1
 injection k1 with k1
 subst k1
 rcases k3.2 with⟨k7,_⟩ | ⟨g',cap,LG,k7,_,k8,k9,Pr,LH,Nx⟩
 ·cases k7
 injection k7 with k7 kn kc
 injection k7 with k7
 injection k7 with k7
 subst k7 kn kc
 rw[hg] at k8
 injection k8 with k8
 injection k8 with k8
 subst k8
 have hi:=aP hr
 have tF:=k4 r (List.mem_of_getElem? hr)
 have Ny:i*tj.size+tj.size<=es.length*tj.size:=by rw[<-Nat.succ_mul];exact Nat.mul_le_mul_right _ hi
 have Nz:es.length*tj.size<=cur.size:=by rw[LH];exact Nat.mul_le_mul_right _ k9
 have KA:xs.length=es.length*tj.size:=k3.1
 have EH:=fun j=>mn cur.toList us (i*tj.size+off) j (by simp;omega)
 have Ji:=fun j=>dU us xs (i*tj.size+off) j (by omega)
 refine⟨tj,setCells xs (i*tj.size+off) us,wV,k2,⟨by rw[c8,KA,List.length_set],.inr ⟨g,c,_,by rw[List.length_set],Nat.zero_le _,setRow_heap w g cur _ e (0,0) hg,by rw[List.length_set];exact k9,Pr,?_,?_⟩⟩,?_,?_,?_⟩
 ·simp only[List.size_toArray,List.length_append,List.length_take,List.length_drop,Array.length_toList]
  rw[LH] at *
  omega
 ·apply List.ext_getElem?
  intro j
  rw[List.getElem?_take]
  simp only[List.length_set]
  split
  ·rename_i hj
   rw[EH,Ji]
   split
   ·rfl
   rw[<-Nx,List.getElem?_take_of_lt hj]
  rename_i hj
  rw[List.getElem?_eq_none]
  rw[c8,KA]
  omega
 ·intro q Qk
  rcases List.mem_or_eq_of_mem_set Qk with h | h
  ·exact k4 q h
  rw[h,c8];exact tF
 ·intro u hu
  obtain⟨j,hj⟩:=List.mem_iff_getElem?.1 hu
  rw[Ji] at hj
  split at hj
  ·exact gT u (List.mem_of_getElem? hj)
  exact k5 u (List.mem_of_getElem? hj)
 intro a' q j z rD hz
 have Pt:q.length=tj.size:=by
  rcases List.mem_or_eq_of_mem_set (List.mem_of_getElem? rD) with h | h
  ·exact k4 q h
  rw[h,c8];exact tF
 have rq:=aP hz
 rw[Ji]
 by_cases Gz:a'=i
 ·subst Gz
  rw[List.getElem?_set_self hi] at rD
  injection rD with rD
  subst rD
  rw[dU _ _ _ _ (by omega)] at hz
  split at hz
  ·rename_i p6
   rw[if_pos (by omega),show a'*tj.size+j - (a'*tj.size+off)=j - off by omega]
   have SE:=aP hz
   exact⟨us[j - off]'(by omega),List.getElem?_eq_getElem _,hcells _ z _ hz (List.getElem?_eq_getElem _)⟩
  rename_i p6
  rw[if_neg (by omega)]
  obtain⟨u,hu,iD⟩:=k6 _ _ _ _ hr hz
  exact⟨u,hu,hR _ _ iD⟩
 rw[List.getElem?_set_ne (fun e=>Gz e.symm)] at rD
 have b8:¬(i*tj.size+off<=a'*tj.size+j/\a'*tj.size+j < i*tj.size+off+us.length):=by
  rintro⟨h1,h2⟩
  rcases Nat.lt_or_gt_of_ne Gz with h | h
  ·have:=Nat.mul_le_mul_right tj.size (Nat.succ_le_of_lt h)
   rw[Nat.succ_mul] at this
   omega
  have:=Nat.mul_le_mul_right tj.size (Nat.succ_le_of_lt h)
  rw[Nat.succ_mul] at this
  omega
 rw[if_neg b8]
 obtain⟨u,hu,iD⟩:=k6 _ _ _ _ rD hz
 exact⟨u,hu,hR _ _ iD⟩
theorem aR.block {α:Type} {P:Program} {w:World} {R:α->Value->Prop} {e:TypeId} {es:List (List α)} {g n c:Nat} (h:aR P w R e es (.slice (some ⟨g,0,none⟩) n c)) {tj:TypeInfo} (wV:P.info? e=some tj):∃cur:Array Value,w.heap[g]?=some (.cells cur e (0,0))/\es.length*tj.size<=cur.size/\(∀r∈es,r.length=tj.size)/\0 < tj.size:=by
 obtain⟨ie,xs,k1,k2,k3,k4,k5,k6⟩:=h
 rw[wV] at k1
 injection k1 with k1
 subst k1
 rcases k3.2 with⟨k7,_⟩ | ⟨g',cap,LG,k7,_,k8,k9,Pr,LH,Nx⟩
 ·cases k7
 injection k7 with k7 kn kc
 injection k7 with k7
 injection k7 with k7
 subst k7
 exact⟨LG,k8,by rw[LH];exact Nat.mul_le_mul_right _ k9,k4,k2⟩
theorem gM {g o n c:Nat} {p:Option Nat} {k:Nat}:cU (.slice (some ⟨g,o,p⟩) n c)=some k↔k=g:=by
 simp only[cU,Option.some.injEq]
 exact⟨fun h=>h.symm,fun h=>h.symm⟩
theorem rv.GA {P:Program} {w:World} {R:HX->Value->Prop} {e:TypeId} {es:List (List HX)} {v:Value} (hS:rv w es v) (h:aR P w R e es v):
  aR P w (fun x u=>R x u/\∀e' o9,x=.row e' o9->∀g b,cU v=some g->cU u=some b->b≠g) e es v:=by
 obtain⟨i,xs,h1,h2,h3,h4,h5,h6⟩:=h
 refine⟨i,xs,h1,h2,h3,h4,h5,fun a r j x ha hj=>?_⟩
 obtain⟨u,hu,hr⟩:=h6 a r j x ha hj
 refine⟨u,hu,hr,fun e' o9 hx g b hg hb=>?_⟩
 subst hx
 have tF:=h4 r (List.mem_of_getElem? ha)
 rcases h3.2 with⟨hn,hz⟩ | ⟨g',cap,cur,hv,_,BZ,k1,k2,k3,k4⟩
 ·have:=(List.getElem?_eq_some_iff.1 ha).1
  omega
 rw[hv] at hg
 obtain rfl:=gM.1 hg
 refine hS.top g a j u b (by rw[hv];rfl) ⟨r,e',o9,_,_,_,ha,hj,BZ,?_⟩ hb
 rw[tF]
 rw[<-k4,List.getElem?_take] at hu
 split at hu
 ·simpa using hu
 cases hu
theorem cu.Ql {A:cV} {V L S:Nat->Prop} {rho:Nat->Value} {s:AS} {a:Act} {w:World} (sim:cu A V L S rho s a w) (hC:bV A.C) {id:Nat} (hL:L id) {e:TypeId} {es:List (List HX)} (aL:s.h id=.aL e es) {g n c:Nat} (hg:rho id=.slice (some ⟨g,0,none⟩) n c) {tj:TypeInfo} (wV:A.C.P.info? e=some tj)
  {i off:Nat} {r:List HX} (hr:es[i]?=some r) (hle:off+1<=r.length) {x:AV} {u:Value} (gT:u.oneCell'=true) (hx:bF S w A.C.P L rho s.h x u):
  ∃cur:Array Value,w.heap[g]?=some (.cells cur e (0,0))/\i*tj.size+off+1<=cur.size/\cu A V L S rho ⟨s.t,br s.h id (.aL e (es.set i (r.set off (.av x))))⟩ a (w.setRow g (cur.toList.take (i*tj.size+off)++[u]++cur.toList.drop (i*tj.size+off+1)).toArray):=by
 have hh:=sim.hp id hL
 rw[aL] at hh
 obtain⟨hR,hS⟩:=hh
 rw[hg] at hR hS
 obtain⟨cur,zU,hsz,hlen,hpos⟩:=hR.block wV
 have hi:=aP hr
 have tF:=hlen r (List.mem_of_getElem? hr)
 have Ny:i*tj.size+tj.size<=es.length*tj.size:=by rw[<-Nat.succ_mul];exact Nat.mul_le_mul_right _ hi
 have fh:∀k j v,dG (w.setRow g (cur.toList.take (i*tj.size+off)++[u]++cur.toList.drop (i*tj.size+off+1)).toArray) (es.set i (r.set off (.av x))) g k j v->dG w es g k j v:=by
  rintro k j v ⟨q,e',o9,c',SF,m',h1,h2,h3,h4⟩
  rw[setRow_heap w g cur _ e (0,0) zU] at h3
  injection h3 with h3
  injection h3 with h3 h3' T2
  have rq:=aP h2
  have Pt:q.length=tj.size:=by
   rcases List.mem_or_eq_of_mem_set (List.mem_of_getElem? h1) with h | h
   ·exact hlen q h
   rw[h,List.length_set];exact tF
  have key:∀p,p≠i*tj.size+off->c'[p]?=some v->cur[p]?=some v:=fun p hp h=>by
   rw[<-h3] at h
   have h:(cur.toList.take (i*tj.size+off)++[u]++cur.toList.drop (i*tj.size+off+1))[p]?=some v:=by simpa using h
   have h2:=mn cur.toList [u] (i*tj.size+off) p (by simp;omega)
   simp only[List.length_singleton] at h2
   rw[h2,if_neg (by omega)] at h
   simpa using h
  by_cases GB:k=i
  ·subst GB
   rw[List.getElem?_set_self hi] at h1
   injection h1 with h1
   subst h1
   have SE:j≠off:=fun e0=>by
    subst e0
    rw[List.getElem?_set_self (by omega)] at h2
    injection h2 with h2
    cases h2
   rw[List.getElem?_set_ne (fun e=>SE e.symm)] at h2
   refine⟨r,e',o9,cur,_,_,hr,h2,zU,?_⟩
   rw[Pt] at h4
   rw[tF]
   exact key _ (by omega) h4
  rw[List.getElem?_set_ne (fun e=>GB e.symm)] at h1
  refine⟨q,e',o9,cur,_,_,h1,h2,zU,?_⟩
  refine key _ ?_ h4
  rw[Pt]
  intro he
  rcases Nat.lt_or_gt_of_ne GB with h | h
  ·have:=Nat.mul_le_mul_right tj.size (Nat.succ_le_of_lt h)
   rw[Nat.succ_mul] at this
   omega
  have:=Nat.mul_le_mul_right tj.size (Nat.succ_le_of_lt h)
  rw[Nat.succ_mul] at this
  omega
 refine⟨cur,zU,by omega,?_⟩
 refine sim.x8 hC id hL (by rw[aL];trivial) _ (fun e' h=>by rw[aL];exact h) _ (setRow_os w g _) (setRow_tape w g _) (setRow_output w g _) (setRow_size w g _) (fun k hk=>setRow_other w g k _ fun e=>hk (by rw[hg,e];rfl)) (fun T=>?_) (fun k hk=>?_)
 ·show aR _ _ _ _ _ (rho id)/\rv _ _ (rho id)
  rw[hg]
  refine⟨(hS.GA hR).stored wV zU (ys:=[.av x]) (us:=[u]) hr hle rfl (by simpa using gT) (fun y v hy=>?_) (fun j z v hz hv=>?_),?_⟩
  ·cases y with
   | av y=>exact bF.lz T hy.1
   | row e' o9=>exact aR.lz hy.1 (fun k hk=>setRow_other w g k _ (hy.2 _ _ rfl g k rfl hk)) (fun x u hu=>hu.mono T.hS T.keep)
  ·cases j with
   | zero=>simp at hz hv;subst hz hv;exact bF.lz T hx
   | succ j=>simp at hz
  exact⟨fun g' k j v b h1 h2 h3=>by
   obtain rfl:=gM.1 h1
   exact hS.top _ k j v b h1 (fh k j v h2) h3,fun g' k j k' j' v v' b h1 h2 h3 h4 h5=>by
   obtain rfl:=gM.1 h1
   exact hS.dis _ k j k' j' v v' b h1 (fh k j v h2) (fh k' j' v' h3) h4 h5⟩
 rw[aL]
 rcases hk with hk | ⟨cs,g',h,_⟩ | ⟨e',wk,g',k',j,v,h1,h2,h3,h4⟩
 ·exact .inl hk
 ·cases h
 injection h1 with h1 Jc
 subst h1 Jc
 have DR:=h2
 rw[hg] at DR
 obtain rfl:=gM.1 DR
 exact .inr (.inr ⟨_,_,_,_,_,_,rfl,h2,fh _ _ _ h3,h4⟩)
theorem GC {A:cV} {o:Oper} (t:TypeId) (x y:Operand) (aU:o.op=.store t x y):gF A o:=by
 intro V L S rho s a w K next Q hC sim hV hd hq hn hnext
 simp only[bY,aU] at hq
 have hx:=bH sim x fun j hj=>hV j (by simp[aU,Op.operands,hj])
 have hy:=bH sim y fun j hj=>hV j (by simp[aU,Op.operands,hj])
 split at hq
 ·exact hq.elim
 rename_i ti hT
 have e_:=hC.gE t ti hT
 split at hq
 ·rename_i id off LI
  rw[LI] at hx
  split at hq
  ·rename_i cs bb
   obtain⟨hL,g,hg,hv⟩:=hx.gH (by rw[bb];trivial)
   have main:∀(S2:Nat->Prop) (s2:AS) (kI:List AV) (ws:List AV),cu A V L S2 rho s2 a w->s2.h id=.box cs->(a.eval y).cells.size=ti.size->ws.length=ti.size->off+ti.size<=cs.length->(∀u∈(a.eval y).cells.toList,u.oneCell'=true)->
     (∀(j:Nat) z u,ws[j]?=some z->(a.eval y).cells[j]?=some u->bF S2 w A.C.P L rho s2.h z u)->kI.length=cs.length->(∀j,kI[j]?=if off<=j/\j < off+ws.length then ws[j - off]? else cs[j]?)->
     ∃w',(execOp a.eval o).run A.C.P w=.ok .skip w'/\cu A V L S2 rho ⟨s2.t,br s2.h id (.box kI)⟩ a w':=by
    intro S2 s2 kI ws bI oD hsz Qm hle gT hcells hlen rE
    have hh:=bI.hp id hL
    rw[oD] at hh
    obtain⟨g',ty,c,k1,k2,k3,k4⟩:=hh
    rw[hg] at k1
    injection k1 with k1
    injection k1 with k1
    injection k1 with k1
    subst k1
    have hrun:=nL (w:=w) e_ g off ty c (a.eval y) k2 hsz (by omega) gT
    refine⟨_,W3 aU (by rw[hv];exact hrun),?_⟩
    refine bI.write hC id hL (by rw[oD];trivial) (.box kI) (fun _ h=>by cases h) _ (by simp) (by simp) (by simp) (by simp) (fun k hk=>setRow_other w g k _ fun e=>hk (by rw[hg,e];rfl)) fun T=>?_
    have iE:(a.eval y).cells.toList.length=ti.size:=by simpa using hsz
    refine⟨g,ty,_,hg,setRow_heap w g c _ ty (0,0) k2,by simp[iE];omega,fun j z u hj hu=>?_⟩
    have oC:(c.toList.take off++(a.eval y).cells.toList++c.toList.drop (off+(a.eval y).cells.toList.length))[j]?=some u:=by simpa using hu
    rw[mn _ _ _ _ (by rw[iE];simpa [k3] using hle)] at oC
    rw[rE j] at hj
    rw[iE] at oC
    rw[Qm] at hj
    split at hj
    ·rename_i p6
     rw[if_pos p6] at oC
     have Qn:(a.eval y).cells[j - off]?=some u:=by simpa using oC
     exact⟨gT u (List.mem_of_getElem? oC),(hcells _ z u hj Qn).lz T⟩
    rename_i p6
    rw[if_neg p6] at oC
    have Qn:c[j]?=some u:=by simpa using oC
    obtain⟨h5,h6⟩:=k4 _ _ _ hj Qn
    exact⟨h5,h6.lz T⟩
   split at hq
   ·rename_i sM
    obtain⟨yv,fz,S2,hq,bI,hrep,xZ,hF,zK⟩:=gm hC sim (Xd.refl s.h) hy hq
    split at hq
    ·rename_i ys
     split at hq
     ·rename_i iX
      simp only[Bool.and_eq_true] at iX
      obtain⟨⟨e1,e2⟩,e3⟩:=iX
      have e1:=gG e1
      have e2:=jh e2
      obtain⟨vs,GF,h1,h2,h3⟩:=hrep.rB
      have iE:(a.eval y).cells=vs:=by rw[GF];rfl
      obtain⟨w',hrun,eE⟩:=main S2 _ (setCells cs off (ys.map M_)) (ys.map M_) bI (by simp only;rw[jP e3];exact bb) (by rw[iE];omega) (by simpa using e1) e2 (by rw[iE];exact h2)
       (fun j z u hj hu=>by
        rw[iE] at hu
        rw[List.getElem?_map] at hj
        obtain⟨z',hz,rfl⟩:=Option.map_eq_some_iff.1 hj
        exact tG (h3 j z' u hz hu)) (c8 _ _ _) (fun j=>dU _ _ _ _ (by simpa [e1] using e2))
      refine nH hrun (hnext _ _ _ S2 rho _ _ hq ?_)
      have:=eE.value o.dst hd .junk undef (.junk _)
      simp only[cJ,app]
      exact this
     exact hq.elim
    exact hq.elim
   rename_i sM
   split at hq
   ·rename_i iX
    simp only[Bool.and_eq_true] at iX
    obtain⟨⟨e1,e2⟩,e3⟩:=iX
    have e1:=jh e1
    have e2:=gG e2
    have h1:=oB sim e3 hy
    have iE:=cells_one h1
    obtain⟨w',hrun,eE⟩:=main S s (cs.set off (ev s.t y)) [ev s.t y] sim bb (by rw[iE,e2];rfl) (by rw[e2];rfl) (by omega) (by rw[iE];simpa using h1)
     (fun j z u hj hu=>by
      rw[iE] at hu
      cases j with
      | zero=>simp at hj hu;subst hj hu;exact hy
      | succ j=>simp at hj) (by simp) (fun j=>Jh _ _ _ _ (by omega))
    refine nH hrun (hnext _ _ _ S rho _ _ hq ?_)
    exact eE.value o.dst hd .junk undef (.junk _)
   exact hq.elim
  exact hq.elim
 ·rename_i id i off LI
  rw[LI] at hx
  split at hq
  ·rename_i e es aL
   obtain⟨hL,g,n,c,tj,hg,wV,hv⟩:=hx.uh aL
   obtain⟨r,hr,hq⟩:=hq
   obtain⟨yv,fz,S2,hq,bI,hrep,xZ,hF,zK⟩:=gm hC sim (Xd.refl s.h) hy hq
   split at hq
   ·rename_i ys LJ
    split at hq
    ·rename_i iX
     simp only[Bool.and_eq_true] at iX
     obtain⟨⟨e1,e2⟩,e3⟩:=iX
     have e1:=gG e1
     have e2:=jh e2
     obtain⟨Qo,gT,hcells⟩:=sN LJ hrep
     have oD:(app s.h fz) id=.row e es:=by rw[jP e3];exact aL
     have hh:=bI.hp id hL
     have hh:eC S2 w A.C.P L rho (app s.h fz) id ((app s.h fz) id):=hh
     rw[oD] at hh
     obtain⟨ie,xs,k1,k2,k3,k4,k5,k6⟩:=hh
     rw[wV] at k1
     injection k1 with k1
     subst k1
     rw[hg] at k3
     rcases k3.2 with⟨k7,_⟩ | ⟨g',cap,cur,k7,_,k8,k9,Pr,LH,Nx⟩
     ·cases k7
     injection k7 with k7 kn kc
     injection k7 with k7
     injection k7 with k7
     subst k7 kn kc
     have hi:=aP hr
     have tF:=k4 r (List.mem_of_getElem? hr)
     have Ny:i*tj.size+tj.size<=es.length*tj.size:=by rw[<-Nat.succ_mul];exact Nat.mul_le_mul_right _ hi
     have Nz:es.length*tj.size<=cur.size:=by rw[LH];exact Nat.mul_le_mul_right _ k9
     have iE:(a.eval y).cells.toList.length=ti.size:=by simp;omega
     have hrun:=nL (w:=w) e_ g (i*tj.size+off) e cur (a.eval y) k8 (by omega) (by omega) gT
     refine nH (W3 aU (by rw[hv];exact hrun)) (hnext _ _ _ S2 rho _ _ hq ?_)
     have eE:cu A V L S2 rho ⟨s.t,br (app s.h fz) id (.row e (es.set i (setCells r off ys)))⟩ a (w.setRow g (cur.toList.take (i*tj.size+off)++(a.eval y).cells.toList++cur.toList.drop (i*tj.size+off+(a.eval y).cells.toList.length)).toArray):=by
      refine bI.write hC id hL (by show (app s.h fz id).live;rw[oD];trivial) (.row e (es.set i (setCells r off ys))) (fun e' h=>by show (app s.h fz id).mf=_;rw[oD];exact h) _ (setRow_os w g _) (setRow_tape w g _) (setRow_output w g _) (setRow_size w g _)
       (fun k hk=>setRow_other w g k _ fun e=>hk (by rw[hg,e];rfl)) (fun T=>?_)
      show aR _ _ _ _ _ (rho id)
      rw[hg]
      have KA:xs.length=es.length*tj.size:=k3.1
      have zU:∀(j:Nat) u,xs[j]?=some u->cur.toList[j]?=some u:=fun j u hj=>by
       rw[<-Nx] at hj
       rw[List.getElem?_take] at hj
       split at hj
       ·exact hj
       cases hj
      have EH:=fun j=>mn cur.toList (a.eval y).cells.toList (i*tj.size+off) j (by rw[iE];simp;omega)
      have Ji:=fun j=>dU (a.eval y).cells.toList xs (i*tj.size+off) j (by rw[iE,KA];omega)
      refine⟨tj,setCells xs (i*tj.size+off) (a.eval y).cells.toList,wV,k2,⟨by rw[c8,KA,List.length_set],.inr ⟨g,c,_,by rw[List.length_set],Nat.zero_le _,setRow_heap w g cur _ e (0,0) k8,by rw[List.length_set];exact k9,Pr,?_,?_⟩⟩,?_,?_,?_⟩
      ·simp only[List.size_toArray,List.length_append,List.length_take,List.length_drop,Array.length_toList]
       rw[LH] at *
       simp at iE
       omega
      ·apply List.ext_getElem?
       intro j
       rw[List.getElem?_take]
       simp only[List.length_set]
       split
       ·rename_i hj
        rw[EH,Ji]
        split
        ·rfl
        rw[<-Nx,List.getElem?_take_of_lt hj]
       rename_i hj
       rw[List.getElem?_eq_none]
       rw[c8,KA]
       omega
      ·intro q Qk
       rcases List.mem_or_eq_of_mem_set Qk with h | h
       ·exact k4 q h
       rw[h,c8];exact tF
      ·intro u hu
       obtain⟨j,hj⟩:=List.mem_iff_getElem?.1 hu
       rw[Ji] at hj
       split at hj
       ·exact gT u (List.mem_of_getElem? hj)
       exact k5 u (List.mem_of_getElem? hj)
      intro a' q j z rD hz
      have Pt:q.length=tj.size:=by
       rcases List.mem_or_eq_of_mem_set (List.mem_of_getElem? rD) with h | h
       ·exact k4 q h
       rw[h,c8];exact tF
      have rq:=aP hz
      rw[Ji]
      by_cases Gz:a'=i
      ·subst Gz
       rw[List.getElem?_set_self hi] at rD
       injection rD with rD
       subst rD
       rw[dU _ _ _ _ (by omega)] at hz
       split at hz
       ·rename_i p6
        rw[if_pos (by omega),show a'*tj.size+j - (a'*tj.size+off)=j - off by omega]
        obtain⟨u,hu⟩:=jg Qo.symm (aP hz)
        exact⟨u,by simpa using hu,(hcells _ z u hz hu).mono T.hS T.keep⟩
       rename_i p6
       rw[if_neg (by omega)]
       obtain⟨u,hu,iD⟩:=k6 _ _ _ _ hr hz
       exact⟨u,hu,iD.mono T.hS T.keep⟩
      rw[List.getElem?_set_ne (fun e=>Gz e.symm)] at rD
      have b8:¬(i*tj.size+off<=a'*tj.size+j/\a'*tj.size+j < i*tj.size+off+(a.eval y).cells.toList.length):=by
       rintro⟨h1,h2⟩
       rcases Nat.lt_or_gt_of_ne Gz with h | h
       ·have:=Nat.mul_le_mul_right tj.size (Nat.succ_le_of_lt h)
        rw[Nat.succ_mul] at this
        omega
       have:=Nat.mul_le_mul_right tj.size (Nat.succ_le_of_lt h)
       rw[Nat.succ_mul] at this
       omega
      rw[if_neg b8]
      obtain⟨u,hu,iD⟩:=k6 _ _ _ _ rD hz
      exact⟨u,hu,iD.mono T.hS T.keep⟩
     have:=eE.value o.dst hd .junk undef (.junk _)
     simp only[cJ,app]
     exact this
    exact hq.elim
   exact hq.elim
  ·rename_i e es aL
   obtain⟨hL,g,n,c,tj,hg,wV,hv⟩:=hx.qd aL
   obtain⟨r,hr,hq⟩:=hq
   split at hq
   ·exact hq.elim
   split at hq
   ·rename_i iX
    simp only[Bool.and_eq_true] at iX
    obtain⟨⟨e1,e2⟩,e3⟩:=iX
    have e1:=jh e1
    have e2:=gG e2
    have h1:=oB sim e3 hy
    have iE:=cells_one h1
    obtain⟨cur,zU,hsz,eE⟩:=sim.Ql hC hL aL hg wV hr e1 h1 hy
    have hrun:=nL (w:=w) e_ g (i*tj.size+off) e cur (a.eval y) zU (by rw[iE,e2];rfl) (by omega) (by rw[iE];simpa using h1)
    rw[iE] at hrun
    refine nH (W3 aU (by rw[hv];exact hrun)) (hnext _ _ _ S rho _ _ hq ?_)
    exact eE.value o.dst hd .junk undef (.junk _)
   exact hq.elim
  exact hq.elim
 exact hq.elim
end Go.AM
namespace Go.AM
open Go.RowKit
theorem LK {A:cV} {o:Oper} (c:Call) (aU:o.op=.call c) (hc:c.callee=.builtin .len):gF A o:=by
 intro V L S rho s a w K next Q hC sim hV hd hq _ hnext
 obtain⟨callee,args,argTypes⟩:=c
 simp only at hc
 subst hc
 simp only[bY,aU,ef,eS] at hq
 split at hq
 ·rename_i x t hargs GG
  have hx:=bH sim x fun j hj=>hV j (by simp[aU,Op.operands,Call.operands,hj];rw[<-hj];exact Array.mem_toList_iff.1 (by rw[hargs];simp))
  have e1:args=#[x]:=by rw[<-Array.toArray_toList (xs:=args),hargs]
  have e2:argTypes=#[t]:=by rw[<-Array.toArray_toList (xs:=argTypes),GG]
  subst e1 e2
  split at hq
  ·rename_i size bytes zero eq hT
   have e_:=(hC.gE t _ hT).under
   simp only at e_
   split at hq
   ·rename_i st zL
    rw[zL] at hx
    exact a7 sim hd hnext hq (.p _ _ (.im _)) (by simp[execOp,aU,resolve,invoke,builtin,hx.ca,Builtin.len_,run_underlying e_,goInt])
   exact hq.elim
  ·rename_i e size bytes zero eq hT
   have e_:=(hC.gE t _ hT).under
   simp only at e_
   have fin:∀(es:List (List PV)) ad c,K (.p (.im (.int .i64 es.length))) [] none->a.eval x=.slice ad es.length c->o.wp A.C.P a w next Q:=fun es ad c hq he=>
    a7 sim hd hnext hq (.p _ _ (.im _)) (by simp[execOp,aU,resolve,invoke,builtin,he,Builtin.len_,run_underlying e_,goInt])
   split at hq
   ·rename_i m hm
    unfold hlen at hm
    split at hm
    ·rename_i id DS
     rw[DS] at hx
     split at hm
     ·rename_i e' es aL
      injection hm with hm
      subst hm
      obtain⟨hL,hv⟩:=hx.de (by rw[aL];trivial)
      have hh:=sim.hp id hL
      rw[aL] at hh
      obtain⟨⟨i,xs,_,_,h3,_⟩,_⟩:=hh
      obtain⟨ad,c,Qp⟩:∃ad c,rho id=.slice ad es.length c:=by
       rcases h3.2 with⟨h4,h5⟩ | ⟨g,cap,cur,h4,_⟩
       ·exact⟨none,0,by rw[h4,h5]⟩
       exact⟨_,cap,h4⟩
      exact a7 sim hd hnext hq (.p _ _ (.im _)) (by simp[execOp,aU,resolve,invoke,builtin,hv,Qp,Builtin.len_,run_underlying e_,goInt])
     cases hm
    cases hm
   unfold fH at hq
   split at hq
   ·rename_i es DS
    rw[DS] at hx
    obtain⟨ad,c,hv,_⟩:=hx.fI.mj
    exact fin es ad c hq hv
   ·rename_i DS
    rw[DS] at hx
    have:a.eval x=.slice none 0 0:=by cases h:a.eval x <;> rw[h] at hx <;> cases hx;rfl
    exact fin [] none 0 hq this
   ·rename_i id DS
    rw[DS] at hx
    split at hq
    ·rename_i e' es aL
     obtain⟨hL,hv⟩:=hx.de (by rw[aL];trivial)
     have hh:=sim.hp id hL
     rw[aL] at hh
     obtain⟨i,xs,_,_,h3,_⟩:=hh
     rcases h3.2 with⟨h4,h5⟩ | ⟨g,cap,cur,h4,_⟩
     ·exact fin es none 0 hq (by rw[hv,h4,h5])
     exact fin es _ cap hq (by rw[hv,h4])
    ·rename_i es aL
     obtain⟨hL,hv⟩:=hx.de (by rw[aL];trivial)
     have hh:=sim.hp id hL
     rw[aL] at hh
     obtain⟨ad,c,h4,_⟩:=bu.mj hh
     exact fin es ad c hq (by rw[hv,h4])
    exact hq.elim
   exact hq.elim
  ·rename_i kt et size bytes zero eq hT
   have e_:=(hC.gE t _ hT).under
   simp only at e_
   split at hq
   case h_2=>exact hq.elim
   rename_i id hid
   split at hq
   case h_2=>exact hq.elim
   rename_i mk es hm
   rw[hid] at hx
   obtain⟨hL,hv⟩:=hx.de (by rw[hm];trivial)
   have hh:=sim.hp id hL
   rw[hm] at hh
   obtain⟨g,ms,clock,h1,h2,h3,_⟩:=hh
   exact a7 sim hd hnext hq (.p _ _ (.im _)) (by simp[execOp,aU,resolve,invoke,builtin,hv,h1,Builtin.len_,run_underlying e_,MapKept.run_getObj_map h2,h3,goInt])
  exact hq.elim
 exact hq.elim
theorem LM {A:cV} {o:Oper} (c:Call) (aU:o.op=.call c) (hc:c.callee=.builtin .min):gF A o:=by
 intro V L S rho s a w K next Q hC sim hV hd hq _ hnext
 obtain⟨callee,args,argTypes⟩:=c
 simp only at hc
 subst hc
 simp only[bY,aU,ef,eS] at hq
 split at hq
 ·rename_i x y hargs
  have hx:=bH sim x fun j hj=>hV j (by simp[aU,Op.operands,Call.operands,hj];rw[<-hj];exact Array.mem_toList_iff.1 (by rw[hargs];simp))
  have hy:=bH sim y fun j hj=>hV j (by simp[aU,Op.operands,Call.operands,hj];rw[<-hj];exact Array.mem_toList_iff.1 (by rw[hargs];simp))
  have e1:args=#[x,y]:=by rw[<-Array.toArray_toList (xs:=args),hargs]
  subst e1
  split at hq
  ·rename_i k m k' n h1 h2
   rw[h1] at hx;rw[h2] at hy
   exact a7 sim hd hnext hq (.p _ _ (.im _)) (by
    simp[execOp,aU,resolve,invoke,builtin,hx.ca,hy.ca,Builtin.min_,Builtin.min2]
    rw[Int.min_def]
    split <;> split <;> omega)
  exact hq.elim
 exact hq.elim
theorem zY {P:Program} {w:World} (k k':IntKind) (m n:Int):(Builtin.max2 (.int k m) (.int k' n)).run P w=.ok (.int k (max m n)) w:=by
 simp only[Builtin.max2,Sem.run_pure]
 rw[Int.max_def]
 by_cases h:n > m
 ·rw[if_pos h,if_pos (by omega)]
 rw[if_neg h]
 by_cases h2:m<=n
 ·rw[if_pos h2,show m=n by omega]
 rw[if_neg h2]
theorem LN {A:cV} {o:Oper} (c:Call) (aU:o.op=.call c) (hc:c.callee=.builtin .max):gF A o:=by
 intro V L S rho s a w K next Q hC sim hV hd hq _ hnext
 obtain⟨callee,args,argTypes⟩:=c
 simp only at hc
 subst hc
 simp only[bY,aU,ef,eS] at hq
 split at hq
 ·rename_i x y hargs
  have hx:=bH sim x fun j hj=>hV j (by simp[aU,Op.operands,Call.operands,hj];rw[<-hj];exact Array.mem_toList_iff.1 (by rw[hargs];simp))
  have hy:=bH sim y fun j hj=>hV j (by simp[aU,Op.operands,Call.operands,hj];rw[<-hj];exact Array.mem_toList_iff.1 (by rw[hargs];simp))
  have e1:args=#[x,y]:=by rw[<-Array.toArray_toList (xs:=args),hargs]
  subst e1
  split at hq
  ·rename_i k m k' n h1 h2
   rw[h1] at hx;rw[h2] at hy
   exact a7 sim hd hnext hq (.p _ _ (.im _)) (by
    simp[execOp,aU,resolve,invoke,builtin,hx.ca,hy.ca,Builtin.max_,Builtin.max2]
    rw[Int.max_def]
    split <;> split <;> omega)
  exact hq.elim
 ·rename_i x y z hargs
  have hx:=bH sim x fun j hj=>hV j (by simp[aU,Op.operands,Call.operands,hj];rw[<-hj];exact Array.mem_toList_iff.1 (by rw[hargs];simp))
  have hy:=bH sim y fun j hj=>hV j (by simp[aU,Op.operands,Call.operands,hj];rw[<-hj];exact Array.mem_toList_iff.1 (by rw[hargs];simp))
  have hz:=bH sim z fun j hj=>hV j (by simp[aU,Op.operands,Call.operands,hj];rw[<-hj];exact Array.mem_toList_iff.1 (by rw[hargs];simp))
  have e1:args=#[x,y,z]:=by rw[<-Array.toArray_toList (xs:=args),hargs]
  subst e1
  split at hq
  ·rename_i k0 m0 k1 m1 k2 m2 g0 g1 g2
   rw[g0] at hx
   rw[g1] at hy
   rw[g2] at hz
   exact a7 sim hd hnext hq (.p _ _ (.im _)) (by
    simp[execOp,aU,resolve,invoke,builtin,hx.ca,hy.ca,hz.ca,Builtin.max_,zY])
  exact hq.elim
 ·rename_i x y z u v hargs
  have hx:=bH sim x fun j hj=>hV j (by simp[aU,Op.operands,Call.operands,hj];rw[<-hj];exact Array.mem_toList_iff.1 (by rw[hargs];simp))
  have hy:=bH sim y fun j hj=>hV j (by simp[aU,Op.operands,Call.operands,hj];rw[<-hj];exact Array.mem_toList_iff.1 (by rw[hargs];simp))
  have hz:=bH sim z fun j hj=>hV j (by simp[aU,Op.operands,Call.operands,hj];rw[<-hj];exact Array.mem_toList_iff.1 (by rw[hargs];simp))
  have hu:=bH sim u fun j hj=>hV j (by simp[aU,Op.operands,Call.operands,hj];rw[<-hj];exact Array.mem_toList_iff.1 (by rw[hargs];simp))
  have hv:=bH sim v fun j hj=>hV j (by simp[aU,Op.operands,Call.operands,hj];rw[<-hj];exact Array.mem_toList_iff.1 (by rw[hargs];simp))
  have e1:args=#[x,y,z,u,v]:=by rw[<-Array.toArray_toList (xs:=args),hargs]
  subst e1
  split at hq
  ·rename_i k0 m0 k1 m1 k2 m2 k3 m3 k4 m4 g0 g1 g2 g3 g4
   rw[g0] at hx
   rw[g1] at hy
   rw[g2] at hz
   rw[g3] at hu
   rw[g4] at hv
   exact a7 sim hd hnext hq (.p _ _ (.im _)) (by
    simp[execOp,aU,resolve,invoke,builtin,hx.ca,hy.ca,hz.ca,hu.ca,hv.ca,Builtin.max_,zY])
  exact hq.elim
 exact hq.elim
theorem wZ {A:cV} {o:Oper} {V L S:Nat->Prop} {rho:Nat->Value} {s:AS} {a:Act} {w:World} {K:KK} {next:Act->World->Prop} {Q:Exit->Act->World->Prop} {fz:List (Nat×AB)} (sim:cu A V L S rho ⟨s.t,app s.h fz⟩ a w) (hd:∀d,o.dst=some d->d < A.n)
  (hnext:∀v eff new S' rho' a' w',K v eff new->cu A (wc V o.dst) (zO L new (o.dst.getD 0)) S' rho' ⟨eu s.t o.dst v,app s.h eff⟩ a' w'->next a' w') {x:AV} {v:Value} (hq:K x fz none) (hv:bF S w A.C.P L rho (app s.h fz) x v)
  (hr:(execOp a.eval o).run A.C.P w=.ok (.value v) w):o.wp A.C.P a w next Q:=
 dP hr (hnext _ _ _ _ _ _ _ hq (sim.value o.dst hd x v hv))
theorem bu.Jj {S:Nat->Prop} {w:World} {es:List (List PV)} {ad:Option Addr} {c l h sz:Nat} (hx:bu S w (.sl es) (.slice ad es.length c)) (hl:l<=h) (hh:h<=es.length) (hc:es.length<=c)
  (hk:∀b off k,ad=some ⟨b,off,none⟩->(∀e∈es,e.length=k)->l < h->k=sz):bu S w (.sl ((es.take h).drop l)) (.slice (if c=l then ad else ad.map (·.add (l*sz))) (h - l) (c - l)):=by
 have hlen:((es.take h).drop l).length=h - l:=by simp;omega
 by_cases he:h - l=0
 ·have:(es.take h).drop l=[]:=List.eq_nil_of_length_eq_zero (by omega)
  rw[this,he]
  exact .nil _ _
 obtain⟨VO,c',hv,hle,b8⟩:=hx.mj
 injection hv with e1 e2 e3
 subst e1 e3
 obtain⟨b,off,k,e4,hb,Pu,hcell⟩:=b8 (by intro e;rw[e] at hh;simp at hh;omega)
 have Nf:=hk b off k e4 Pu (by omega)
 subst e4
 rw[if_neg (by omega)]
 show bu S w _ (.slice (some (Addr.add ⟨b,off,none⟩ (l*sz))) (h - l) (c - l))
 rw[Addr.add_lit,<-hlen]
 have rE:∀(i:Nat) e,((es.take h).drop l)[i]?=some e->es[l+i]?=some e:=by
  intro i e hi
  rw[List.getElem?_drop,List.getElem?_take] at hi
  split at hi
  ·exact hi
  cases hi
 refine .sl _ k b (off+l*sz) _ (fun i j=>(w.cell? ⟨b,off+l*sz+i*k+j,none⟩).getD undef) (by rw[hlen];omega) hb (fun e he=>Pu e (List.mem_of_mem_take (List.mem_of_mem_drop he))) (fun i e j x h1 h2=>?_) fun i e j x h1 h2=>?_
 ·obtain⟨u,h3,h4,h5⟩:=hcell _ e j x (rE i e h1) h2
  have:off+l*sz+i*k+j=off+(l+i)*k+j:=by rw[<-Nf,Nat.add_mul];omega
  rw[this,h3]
  exact⟨rfl,h4⟩
 obtain⟨u,h3,h4,h5⟩:=hcell _ e j x (rE i e h1) h2
 have:off+l*sz+i*k+j=off+(l+i)*k+j:=by rw[<-Nf,Nat.add_mul];omega
 rw[this,h3]
 exact h5
theorem fA {P:Program} {w:World} (k:IntKind) (i:Int) (y:Nat) (code:BoundsCode) (h:0<=i/\i<=y):(Instr.sliceBound (.int k i) y code).run P w=.ok i.toNat w:=by
 simp[Instr.sliceBound,asIntOf,h.1,h.2]
theorem ui {A:cV} {V L S:Nat->Prop} {rho:Nat->Value} {s:AS} {a:Act} {w:World} (_:cu A V L S rho s a w) (lo hi:Option Operand) (DU:∀y,lo=some y->bF S w A.C.P L rho s.h (ev s.t y) (a.eval y)) (DV:∀y,hi=some y->bF S w A.C.P L rho s.h (ev s.t y) (a.eval y)):
  ∀(isSlice:Bool) (len cap:Nat) (k:IntKind) (m:Int) (k':IntKind) (n:Int),len<=cap->(match lo with | some y=>ev s.t y | none=>.p (.im (.int .i64 0)))=.p (.im (.int k m))->(match hi with | some y=>ev s.t y | none=>.p (.im (.int .i64 len)))=.p (.im (.int k' n))->0<=m->m<=n->n<=len ->
   (Instr.sliceBounds isSlice len cap (lo.map a.eval) (hi.map a.eval) none).run A.C.P w=.ok (m.toNat,n.toNat,cap) w:=by
  intro isSlice len cap k m k' n VP h1 h2 h3 h4 h5
  have e2:∀y,hi=some y->a.eval y=.int k' n:=fun y hy=>by
   have:=DV y hy
   subst hy
   rw[show ev s.t y=_ from h2] at this
   exact this.ca
  have e1:∀y,lo=some y->a.eval y=.int k m:=fun y hy=>by
   have:=DU y hy
   subst hy
   rw[show ev s.t y=_ from h1] at this
   exact this.ca
  have nb:((n.toNat:Nat):Int)=n:=by omega
  cases hi with
  | some yh=>
   have e2:=e2 yh rfl
   cases lo with
   | some yl=>
    have e1:=e1 yl rfl
    cases isSlice <;> simp[Instr.sliceBounds,e1,e2,fA k' n cap _ ⟨by omega,by omega⟩,fA k m n.toNat _ ⟨h3,by omega⟩]
   | none=>
    have Jc:m=0:=by simp at h1;exact h1.2.symm
    subst Jc
    cases isSlice <;> simp[Instr.sliceBounds,e2,fA k' n cap _ ⟨by omega,by omega⟩]
  | none=>
   have DR:n=len:=by simp at h2;exact h2.2.symm
   subst DR
   cases lo with
   | some yl=>
    have e1:=e1 yl rfl
    cases isSlice <;> simp[Instr.sliceBounds,e1,fA k m len _ ⟨h3,by omega⟩]
   | none=>
    have Jc:m=0:=by simp at h1;exact h1.2.symm
    subst Jc
    cases isSlice <;> simp[Instr.sliceBounds]
theorem EM {A:cV} {o:Oper} (t:TypeId) (x:Operand) (lo hi:Option Operand) (aU:o.op=.slice t x lo hi none) {V L S:Nat->Prop} {rho:Nat->Value} {s:AS} {a:Act} {w:World} {K:KK} {next:Act->World->Prop} {Q:Exit->Act->World->Prop} (hC:bV A.C) (sim:cu A V L S rho s a w)
  (hV:∀j,(.tmp j)∈o.op.operands->V j) (hd:∀d,o.dst=some d->d < A.n) (hq:fx A.C (ev s.t) s.h t x lo hi K)
  (hnext:∀v eff new S' rho' a' w',K v eff new->cu A (wc V o.dst) (zO L new (o.dst.getD 0)) S' rho' ⟨eu s.t o.dst v,app s.h eff⟩ a' w'->next a' w'):o.wp A.C.P a w next Q:=by
 simp only[fx] at hq
 have hx:=bH sim x fun j hj=>hV j (by simp[aU,Op.operands,hj])
 have DU:∀y,lo=some y->bF S w A.C.P L rho s.h (ev s.t y) (a.eval y):=fun y hy=>bH sim y fun j hj=>hV j (by simp[aU,Op.operands,hj,hy])
 have DV:∀y,hi=some y->bF S w A.C.P L rho s.h (ev s.t y) (a.eval y):=fun y hy=>bH sim y fun j hj=>hV j (by simp[aU,Op.operands,hj,hy])
 have bounds:∀(isSlice:Bool) (len cap:Nat) (k:IntKind) (m:Int) (k':IntKind) (n:Int),len<=cap->(match lo with | some y=>ev s.t y | none=>.p (.im (.int .i64 0)))=.p (.im (.int k m))->(match hi with | some y=>ev s.t y | none=>.p (.im (.int .i64 len)))=.p (.im (.int k' n))->0<=m->m<=n->n<=len ->
   (Instr.sliceBounds isSlice len cap (lo.map a.eval) (hi.map a.eval) none).run A.C.P w=.ok (m.toNat,n.toNat,cap) w:=by
  exact ui sim lo hi DU DV
 split at hq
 ·rename_i size bytes zero eq hT
  have e_:=(hC.gE t _ hT).under
  simp only at e_
  split at hq
  ·rename_i st zL
   rw[zL] at hx
   split at hq
   ·rename_i k m k' n h1 h2
    obtain⟨⟨h3,h4,h5⟩,hq⟩:=hq
    have hb:=bounds false st.size st.size k m k' n (Nat.le_refl _) h1 h2 h3 h4 h5
    exact a7 sim hd hnext hq (.p _ _ (.im _)) (by simp[execOp,aU,Instr.sliceAt,Instr.slice,hx.ca,run_underlying e_,hb])
   exact hq.elim
  exact hq.elim
 ·rename_i e size bytes zero eq hT
  have e_:=(hC.gE t _ hT).under
  simp only at e_
  split at hq
  ·exact hq.elim
  rename_i te rC
  obtain⟨ie,ze,nK,we,_⟩:=(hC.gE e te rC).info
  obtain⟨y,fz,S2,hq,bI,hrep,xZ,hF,zK⟩:=gm hC sim (Xd.refl s.h) hx hq
  split at hq
  ·rename_i es
   split at hq
   ·rename_i k m k' n h1 h2
    obtain⟨⟨h3,h4,h5,h6⟩,hq⟩:=hq
    obtain⟨ad,c,hv,hle,_⟩:=hrep.mj
    have hb:=bounds true es.length c k m k' n hle h1 h2 h3 h4 h5
    rw[hv] at hrep
    refine wZ bI hd hnext hq (.p _ _ (hrep.Jj (sz:=te.size) (l:=m.toNat) (h:=n.toNat) (by omega) (by omega) hle fun b off kk Pv Xe eL=>?_)) ?_
    ·have hpos:0 < es.length:=by omega
     have hm:es[0]∈es:=List.getElem_mem _
     rw[<-Xe _ hm,h6 _ hm]
    simp[execOp,aU,Instr.sliceAt,Instr.slice,hv,run_underlying e_,hb,Go.sizeOf,typeInfo,nK,we]
   exact hq.elim
  exact hq.elim
 exact hq.elim
structure Flat (S:Nat->Prop) (w:World) (k:Nat) (es:List (List PV)) (xs:List Value):Prop where
 len:xs.length=es.length*k
 row:∀r∈es,r.length=k
 one:∀u∈xs,u.oneCell'=true
 rep:∀(i:Nat) r (j:Nat) x,es[i]?=some r->r[j]?=some x->∃u,xs[i*k+j]?=some u/\bu S w x u
theorem Flat.mono {S S':Nat->Prop} {w w':World} {k:Nat} {es:List (List PV)} {xs:List Value} (h:Flat S w k es xs) (hS:∀b,S b->S' b) (hw:∀b,S b->w'.heap[b]?=w.heap[b]?):Flat S' w' k es xs:=
 ⟨h.len,h.row,h.one,fun i r j x h1 h2=>by obtain⟨u,h3,h4⟩:=h.rep i r j x h1 h2;exact⟨u,h3,h4.mono hS hw⟩⟩
theorem Flat.app {S:Nat->Prop} {w:World} {k:Nat} {es fs:List (List PV)} {xs ys:List Value} (h:Flat S w k es xs) (g:Flat S w k fs ys):Flat S w k (es++fs) (xs++ys):=by
 refine⟨by rw[List.length_append,List.length_append,h.len,g.len,Nat.add_mul],fun r hr=>(List.mem_append.1 hr).elim (h.row r) (g.row r),fun u hu=>(List.mem_append.1 hu).elim (h.one u) (g.one u),fun i r j x h1 h2=>?_⟩
 by_cases hi:i < es.length
 ·rw[List.getElem?_append_left hi] at h1
  obtain⟨u,h3,h4⟩:=h.rep i r j x h1 h2
  exact⟨u,by rw[List.getElem?_append_left (aP h3)];exact h3,h4⟩
 rw[List.getElem?_append_right (by omega)] at h1
 obtain⟨u,h3,h4⟩:=g.rep _ r j x h1 h2
 refine⟨u,?_,h4⟩
 have hm:es.length*k<=i*k:=Nat.mul_le_mul_right _ (by omega)
 rw[List.getElem?_append_right (by rw[h.len];omega),h.len]
 rw[Nat.sub_mul] at h3
 rw[<-h3]
 congr 1
 omega
theorem Flat.set {S:Nat->Prop} {w:World} {k:Nat} {es:List (List PV)} {xs:List Value} (h:Flat S w k es xs) (i:Nat) (hi:i < es.length) (ys:List PV) (vs:List Value) (hy:ys.length=k) (hv:vs.length=k) (h1:∀u∈vs,u.oneCell'=true) (hr:∀(j:Nat) y u,ys[j]?=some y->vs[j]?=some u->bu S w y u):
  Flat S w k (es.set i ys) (setCells xs (i*k) vs):=by
 have hb:i*k+k<=xs.length:=by rw[h.len,<-Nat.succ_mul];exact Nat.mul_le_mul_right _ hi
 have hg:=fun j=>dU vs xs (i*k) j (by rw[hv];exact hb)
 refine⟨by rw[c8,List.length_set,h.len],fun r hr=>?_,fun u hu=>?_,fun a r j x ha hj=>?_⟩
 ·rcases List.mem_or_eq_of_mem_set hr with h' | h'
  ·exact h.row r h'
  rw[h'];exact hy
 ·obtain⟨j,hj⟩:=List.mem_iff_getElem?.1 hu
  rw[hg] at hj
  split at hj
  ·exact h1 u (List.mem_of_getElem? hj)
  exact h.one u (List.mem_of_getElem? hj)
 have rq:=aP hj
 rw[hg]
 by_cases Gz:a=i
 ·subst Gz
  rw[List.getElem?_set_self hi] at ha
  injection ha with ha
  subst ha
  rw[if_pos (by omega),show a*k+j - a*k=j by omega]
  have:j < vs.length:=by omega
  exact⟨_,List.getElem?_eq_getElem this,hr j x _ hj (List.getElem?_eq_getElem this)⟩
 rw[List.getElem?_set_ne (fun e=>Gz e.symm)] at ha
 have tF:=h.row r (List.mem_of_getElem? ha)
 rw[if_neg]
 ·exact h.rep a r j x ha hj
 rintro⟨h2,h3⟩
 rcases Nat.lt_or_gt_of_ne Gz with h4 | h4
 ·have:=Nat.mul_le_mul_right k (Nat.succ_le_of_lt h4)
  rw[Nat.succ_mul] at this
  omega
 have:=Nat.mul_le_mul_right k (Nat.succ_le_of_lt h4)
 rw[Nat.succ_mul] at this
 omega
theorem Flat.zero (S:Nat->Prop) (w:World) {P:Program} {t:TypeId} {ti:TI} (h:lA P t ti) (hk:0 < ti.size) (n:Nat):Flat S w ti.size (List.replicate n (ti.zero.map pB)) ((Array.range (n*ti.size)).map (ti.zero.toArray[· % ti.zero.toArray.size]!)).toList:=by
 have hz:=h.Gr
 obtain⟨_,_,_,_,_,_,_,gT⟩:=h.info
 have rE:∀j,j < n*ti.size->((Array.range (n*ti.size)).map (ti.zero.toArray[· % ti.zero.toArray.size]!)).toList[j]?=ti.zero[j % ti.size]?:=by
  intro j hj
  have hm:j % ti.size < ti.zero.length:=by rw[hz];exact Nat.mod_lt _ hk
  simp[hj,hz]
  rw[List.getElem?_eq_getElem hm]
  rfl
 refine⟨by simp,fun r hr=>by rw[List.eq_of_mem_replicate hr,List.length_map,hz],fun u hu=>?_,fun i r j x hi hj=>?_⟩
 ·obtain⟨j,hj⟩:=List.mem_iff_getElem?.1 hu
  have rq:=aP hj
  rw[rE j (by simpa using rq)] at hj
  exact gT u (List.mem_of_getElem? hj)
 have p6:i < n:=by have:=aP hi;simpa using this
 have hr:r=ti.zero.map pB:=List.eq_of_mem_replicate (List.mem_of_getElem? hi)
 subst hr
 have rq:j < ti.size:=by have:=aP hj;rw[List.length_map,hz] at this;exact this
 rw[List.getElem?_map] at hj
 obtain⟨v,hv,rfl⟩:=Option.map_eq_some_iff.1 hj
 have hb:i*ti.size+j < n*ti.size:=by
  have:=Nat.mul_le_mul_right ti.size (Nat.succ_le_of_lt p6)
  rw[Nat.succ_mul] at this
  omega
 refine⟨v,?_,nI S w v⟩
 rw[rE _ hb,Nat.mul_comm,Nat.mul_add_mod,Nat.mod_eq_of_lt rq]
 exact hv
theorem aR.of_flat {P:Program} {S:Nat->Prop} {w:World} {e:TypeId} {i:TypeInfo} {es:List (List PV)} {v:Value} {xs:List Value} (hi:P.info? e=some i) (hk:0 < i.size) (ho:w.ownsRow 0 e i.size v es.length xs) (hf:Flat S w i.size es xs):aR P w (bu S w) e es v:=
 ⟨i,xs,hi,hk,ho,hf.row,hf.one,hf.rep⟩
theorem aR.flat {P:Program} {S:Nat->Prop} {w:World} {e:TypeId} {i:TypeInfo} {es:List (List PV)} {v:Value} (hi:P.info? e=some i) (h:aR P w (bu S w) e es v):∃xs,0 < i.size/\w.ownsRow 0 e i.size v es.length xs/\Flat S w i.size es xs:=by
 obtain⟨i',xs,h1,h2,h3,h4,h5,h6⟩:=h
 rw[hi] at h1
 injection h1 with h1
 subst h1
 exact⟨xs,h2,h3,⟨h3.1,h4,h5,h6⟩⟩
theorem bu.flat {S:Nat->Prop} {w:World} {es:List (List PV)} {v:Value} {k:Nat} (hx:bu S w (.sl es) v) (hk:∀r∈es,r.length=k):∃ad c xs,v=.slice ad es.length c/\Flat S w k es xs/\(es≠[]->∃b off,ad=some ⟨b,off,none⟩/\∀(j:Nat) u,xs[j]?=some u->w.cell? ⟨b,off+j,none⟩=some u):=by
 obtain⟨ad,c,hv,hle,b8⟩:=hx.mj
 by_cases he:es=[]
 ·subst he
  exact⟨ad,c,[],hv,⟨by simp,by simp,by simp,by simp⟩,fun h=>absurd rfl h⟩
 obtain⟨b,off,k',rfl,hb,Pu,hcell⟩:=b8 he
 have LO:k'=k:=by
  obtain⟨r,hr⟩:=List.exists_mem_of_ne_nil _ he
  rw[<-Pu r hr,hk r hr]
 subst LO
 have key:∀q,q < es.length*k'->∃u,w.cell? ⟨b,off+q,none⟩=some u/\u.oneCell'=true:=by
  intro q hq
  have DW:0 < k':=Nat.pos_of_ne_zero fun h=>by rw[h] at hq;simp at hq
  have hi:q / k' < es.length:=(Nat.div_lt_iff_lt_mul DW).2 hq
  have hj:q % k' < k':=Nat.mod_lt _ DW
  have hr:=hk _ (List.getElem_mem hi)
  obtain⟨u,h1,h2,_⟩:=hcell (q / k') _ (q % k') _ (List.getElem?_eq_getElem hi) (List.getElem?_eq_getElem (by omega))
  refine⟨u,?_,h2⟩
  rw[<-h1]
  congr 2
  have:=Nat.div_add_mod q k'
  rw[Nat.mul_comm] at this
  omega
 refine⟨_,c,(List.range (es.length*k')).map fun q=>(w.cell? ⟨b,off+q,none⟩).getD undef,hv,⟨by simp,hk,fun u hu=>?_,fun i r j x h1 h2=>?_⟩,fun _=>⟨b,off,rfl,fun j u hj=>?_⟩⟩
 ·simp at hu
  obtain⟨q,hq,rfl⟩:=hu
  obtain⟨u,h1,h2⟩:=key q hq
  rw[h1]
  exact h2
 ·obtain⟨u,h3,h4,h5⟩:=hcell i r j x h1 h2
  refine⟨u,?_,h5⟩
  have tJ:=aP h1
  have rq:=aP h2
  rw[hk r (List.mem_of_getElem? h1)] at rq
  have oD:i*k'+j < es.length*k':=by
   have:=Nat.mul_le_mul_right k' (Nat.succ_le_of_lt tJ)
   rw[Nat.succ_mul] at this
   omega
  rw[List.getElem?_map,List.getElem?_range oD]
  simp only[Option.map_some]
  rw[<-Nat.add_assoc,h3]
  rfl
 have rq:=aP hj
 simp at rq
 rw[List.getElem?_map,List.getElem?_range rq] at hj
 obtain⟨u',h1,_⟩:=key j rq
 simp[h1] at hj
 rw[h1,hj]
def Src (S:Nat->Prop) (w:World) (es:List (List PV)) (v:Value):Prop:=
 ∀k,(∀r∈es,r.length=k)->∃ad c xs,v=.slice ad es.length c/\Flat S w k es xs/\(es≠[]->∃b off,ad=some ⟨b,off,none⟩/\∀(j:Nat) u,xs[j]?=some u->w.cell? ⟨b,off+j,none⟩=some u)
theorem aR.src {P:Program} {S:Nat->Prop} {w:World} {e:TypeId} {es:List (List PV)} {v:Value} (h:aR P w (bu S w) e es v):Src S w es v:=by
 intro k hk
 obtain⟨i,xs,h1,h2,h3,h4,h5,h6⟩:=h
 by_cases he:es=[]
 ·subst he
  rcases h3.2 with⟨rfl,_⟩ | ⟨g,cap,cur,rfl,_⟩
  ·exact⟨none,0,[],rfl,⟨by simp,by simp,by simp,by simp⟩,fun h=>absurd rfl h⟩
  exact⟨_,cap,[],rfl,⟨by simp,by simp,by simp,by simp⟩,fun h=>absurd rfl h⟩
 have LO:k=i.size:=by
  obtain⟨r,hr⟩:=List.exists_mem_of_ne_nil _ he
  rw[<-hk r hr,h4 r hr]
 subst LO
 rcases h3.2 with⟨_,hn⟩ | ⟨g,cap,cur,hv,_⟩
 ·exact absurd (List.eq_nil_of_length_eq_zero hn) he
 refine⟨_,cap,xs,hv,⟨h3.1,h4,h5,h6⟩,fun _=>⟨g,0,rfl,fun j u hj=>?_⟩⟩
 have:=h3.cells (g:=g) (by rw[hv];rfl) j u hj
 rw[Addr.add_lit] at this
 exact this
theorem B8 {A:cV} {V L S:Nat->Prop} {rho:Nat->Value} {s:AS} {a:Act} {w:World} (sim:cu A V L S rho s a w) {x:AV} {v:Value} (hx:bF S w A.C.P L rho s.h x v) {K:List (List PV)->Prop} (hq:fH s.h x K):∃es,K es/\Src S w es v:=by
 unfold fH at hq
 split at hq
 ·exact⟨_,hq,fun k hk=>hx.fI.flat hk⟩
 ·have:v=.slice none 0 0:=by cases hx;rfl
  exact⟨[],hq,fun k hk=>⟨none,0,[],this,⟨by simp,by simp,by simp,by simp⟩,fun h=>absurd rfl h⟩⟩
 ·rename_i id
  split at hq
  ·rename_i e es aL
   obtain⟨hL,hv⟩:=hx.de (by rw[aL];trivial)
   have hh:=sim.hp id hL
   rw[aL] at hh
   exact⟨es,hq,by rw[hv];exact aR.src hh⟩
  ·rename_i es aL
   obtain⟨hL,hv⟩:=hx.de (by rw[aL];trivial)
   have hh:=sim.hp id hL
   rw[aL] at hh
   exact⟨es,hq,by rw[hv];exact fun k hk=>bu.flat hh hk⟩
  exact hq.elim
 exact hq.elim
theorem o_ {P:Program} (w:World) (t ty e:TypeId) (i:TypeInfo) (z:Value) (ht:P.underlying t=some (.slice e)) (hi:P.info? e=some i) (hz:i.zero=some z) (Qq:z.cells.size=i.size) (hsz:0 < i.size)
  (v:Value) (n:Nat) (xs:List Value) (hown:w.ownsRow 0 e i.size v n xs) (ad:Option Addr) (m c:Nat) (news:List Value) (hl:news.length=m*i.size)
  (hnews:m≠0->∃b off,ad=some ⟨b,off,none⟩/\∀(j:Nat) u,news[j]?=some u->w.cell? ⟨b,off+j,none⟩=some u) (h1:∀u∈news,u.oneCell'=true) (Jk:n+m<=maxLen) (pE:(n+m)*i.bytes<=140737488355328):
  ∃v' w',(Builtin.append_ #[t,t] ty #[v,.slice ad m c]).run P w=.ok v' w'/\w'.ownsRow 0 e i.size v' (n+m) (xs++news)/\w.grownBy w' v.ownBlock/\(v'.ownBlock=v.ownBlock\/v'.ownBlock=some w.heap.size):=by
 by_cases hm:m=0
 ·subst hm
  have hn:news=[]:=List.eq_nil_of_length_eq_zero (by simpa using hl)
  subst hn
  refine⟨v,w,?_,by simpa using hown,⟨rfl,rfl,rfl,Nat.le_refl _,fun _ _ _=>rfl⟩,.inl rfl⟩
  have hf:(Builtin.firstCells i.size 0 (.slice ad 0 c)).run P w=.ok #[] w:=by cases ad <;> simp[Builtin.firstCells,loadCells,loadCellsFrom]
  rcases hown.2 with⟨rfl,rfl⟩ | ⟨g,cap,cur,rfl,_,_,LP,_⟩
  ·simp[Builtin.append_,run_underlying ht,sizeOf,typeInfo,hi,Builtin.lenOf,hf]
  simp[Builtin.append_,run_underlying ht,sizeOf,typeInfo,hi,Builtin.lenOf,LP,hf,storeCells]
 obtain⟨b,off,rfl,hc⟩:=hnews hm
 have x9:∀(j:Nat) u,news[j]?=some u->w.cell? ((⟨b,off,none⟩:Addr).add j)=some u:=fun j u hj=>by rw[Addr.add_lit];exact hc j u hj
 obtain⟨v',w',hr,h2,h3,_⟩:=run_append_own (P:=P) w 0 t ty e i z i.size i.bytes ht hi hz rfl rfl Qq hsz v n xs hown ⟨b,off,none⟩ m c news hl x9 h1 Jk pE (Nat.zero_le _)
 refine⟨v',w',hr,h2,h3,?_⟩
 have LQ:n+m<=9223372036854775807:=by simp only[maxLen] at Jk;omega
 rcases hown.2 with⟨rfl,rfl⟩ | ⟨g,cap,cur,rfl,_,hg,LP,Qr,m_,KB⟩
 ·have iD:=run_append_nil (P:=P) w t ty e i z ht hi hz ⟨b,off,none⟩ m c news hl x9 (by omega) (by omega) (by have hb:=pE;simp only[Nat.zero_add] at hb;omega)
  rw[hr] at iD
  injection iD with iD
  rw[iD]
  exact .inr rfl
 by_cases DX:n+m<=cap
 ·have Qt:n*i.size+news.length<=cur.size:=by rw[hl,m_,<-Nat.add_mul];exact Nat.mul_le_mul_right _ DX
  have iD:=run_append_room (P:=P) w t ty e i ht hi g n cap cur hg ⟨b,off,none⟩ m c news hl x9 h1 DX Qt
  rw[hr] at iD
  injection iD with iD
  rw[iD]
  exact .inl rfl
 have iD:=run_append_grow (P:=P) w t ty e i z ht hi hz ⟨g,0,none⟩ n cap xs hown.1 (hown.cells (g:=g) rfl) ⟨b,off,none⟩ m c news hl x9 (by omega) (by omega) (growslice_fits (by omega) pE)
 rw[hr] at iD
 injection iD with iD
 rw[iD]
 exact .inr rfl
theorem cS {v:Value} {a:Option Addr} {n c:Nat} (h:v=.slice a n c):v.ownBlock=cU v:=by
 subst h
 cases a <;> rfl
theorem cP {w:World} {base:Nat} {e:TypeId} {size:Nat} {v:Value} {n:Nat} {xs:List Value} (h:w.ownsRow base e size v n xs):∃a c,v=.slice a n c:=by
 rcases h.2 with⟨rfl,rfl⟩ | ⟨g,cap,cur,rfl,_⟩
 ·exact⟨none,0,rfl⟩
 exact⟨_,cap,rfl⟩
theorem oE {w:World} {es:List (List HX)} {v:Value} {e:TypeId} {k:Nat} {ws:List Value} (hown:w.ownsRow 0 e k v es.length ws) (hk:∀r∈es,r.length=k) {g:Nat} (hg:cU v=some g) {a j:Nat} {u:Value}:
  dG w es g a j u↔∃r e' o9,es[a]?=some r/\r[j]?=some (.row e' o9)/\ws[a*k+j]?=some u:=by
 rcases hown.2 with⟨hn,_⟩ | ⟨g',cap,cur,hv,_,BZ,k1,k2,k3,k4⟩
 ·rw[hn] at hg;cases hg
 rw[hv] at hg
 obtain rfl:=gM.1 hg
 have SG:∀{r:List HX} {x:HX},es[a]?=some r->r[j]?=some x->r.length=k/\a*k+j < es.length*k:=fun {r x} h1 h2=>by
  have hr:=hk r (List.mem_of_getElem? h1)
  have h3:=aP h1
  have h4:=aP h2
  have:=Nat.mul_le_mul_right k (Nat.succ_le_of_lt h3)
  rw[Nat.succ_mul] at this
  exact⟨hr,by omega⟩
 constructor
 ·rintro⟨r,e',o9,c,ty,m,h1,h2,h3,h4⟩
  rw[BZ] at h3
  injection h3 with h3
  injection h3 with h3
  subst h3
  obtain⟨b1,b2⟩:=SG h1 h2
  refine⟨r,e',o9,h1,h2,?_⟩
  rw[<-k4,List.getElem?_take_of_lt b2]
  rw[b1] at h4
  simpa using h4
 rintro⟨r,e',o9,h1,h2,h3⟩
 obtain⟨b1,b2⟩:=SG h1 h2
 refine⟨r,e',o9,cur,_,_,h1,h2,BZ,?_⟩
 rw[<-k4,List.getElem?_take_of_lt b2] at h3
 rw[b1]
 simpa using h3
theorem cu.Qu {A:cV} {V L S:Nat->Prop} {rho:Nat->Value} {s:AS} {a:Act} {w:World} (sim:cu A V L S rho s a w) (hC:bV A.C) {id d:Nat} (jQ:L id) {e:TypeId} {xs:List (List HX)} (aL:s.h id=.aL e xs) {ys:List (List PV)} {ie:TypeInfo} (nK:A.C.P.info? e=some ie)
  (hdb:d < 100000) (hL:¬L d) (hb:s.h d=.aL e (xs++ys.map qb)) {news:List Value} (GH:Flat S w ie.size ys news) {v':Value} {w':World} {ws:List Value} (hown:w.ownsRow 0 e ie.size (rho id) xs.length ws) (h2:w'.ownsRow 0 e ie.size v' (xs.length+ys.length) (ws++news)) (h3:w.grownBy w' (cU (rho id))) (h4:cU v'=cU (rho id)\/cU v'=some w.heap.size):
  cu A V (fun i=>L i\/i=d) S (br rho d v') ⟨s.t,br s.h id .none⟩ a w':=by
 have bZ:(s.h id).live:=by rw[aL];trivial
 have LR:id≠d:=fun e=>hL (e ▸ jQ)
 have hh:=sim.hp id jQ
 rw[aL] at hh
 obtain⟨hR,hS⟩:=hh
 have Qv:=hS.GA hR
 obtain⟨i0,NA,k1,k2,k3,k4,k5,k6⟩:=Qv
 rw[nK] at k1
 injection k1 with k1
 subst k1
 have Qm:NA=ws:=by
  rcases k3.2 with⟨q1,q2⟩ | ⟨g,cap,cur,q1,_,q3,q4,q5,q6,q7⟩
  ·have a1:NA=[]:=List.eq_nil_of_length_eq_zero (by rw[k3.1,q2];simp)
   have a2:ws=[]:=List.eq_nil_of_length_eq_zero (by rw[hown.1,q2];simp)
   rw[a1,a2]
  rcases hown.2 with⟨r1,_⟩ | ⟨g',T3,LG,r1,_,r3,r4,r5,r6,r7⟩
  ·rw[r1] at q1;cases q1
  rw[r1] at q1
  injection q1 with q1
  injection q1 with q1
  injection q1 with q1
  subst q1
  rw[q3] at r3
  injection r3 with r3
  injection r3 with r3
  subst r3
  rw[<-q7,<-r7]
 subst Qm
 have LS:∀r∈ys.map qb,r.length=ie.size:=fun r hr=>by
  obtain⟨q,hq,rfl⟩:=List.mem_map.1 hr
  rw[qb,List.length_map]
  exact GH.row q hq
 have DY:∀r∈xs++ys.map qb,r.length=ie.size:=fun r hr=>(List.mem_append.1 hr).elim (k4 r) (LS r)
 have qh:w'.ownsRow 0 e ie.size v' (xs++ys.map qb).length (NA++news):=by rw[List.length_append,List.length_map];exact h2
 have NB:NA.length=xs.length*ie.size:=k3.1
 have fh:∀g' k j u,cU v'=some g'->dG w' (xs++ys.map qb) g' k j u->∃g,cU (rho id)=some g/\dG w xs g k j u:=fun g' k j u mc hc=>by
  obtain⟨r,e',o9,q1,q2,q3⟩:=(oE qh DY mc).1 hc
  by_cases hk:k < xs.length
  ·rw[List.getElem?_append_left hk] at q1
   have rq:=aP q2
   have tF:=k4 r (List.mem_of_getElem? q1)
   have:=Nat.mul_le_mul_right ie.size (Nat.succ_le_of_lt hk)
   rw[Nat.succ_mul] at this
   rw[List.getElem?_append_left (by omega)] at q3
   obtain⟨g,u2,g1,g2,_⟩:=hR.zM q1 q2
   refine⟨g,g1,(oE k3 k4 g1).2 ⟨r,e',o9,q1,q2,q3⟩⟩
  rw[List.getElem?_append_right (by omega),List.getElem?_map] at q1
  obtain⟨q,_,rfl⟩:=Option.map_eq_some_iff.1 q1
  rw[qb,List.getElem?_map] at q2
  obtain⟨z,_,hz⟩:=Option.map_eq_some_iff.1 q2
  cases hz
 have LU:∀g k j u b,cU (rho id)=some g->dG w xs g k j u->cU u=some b->hasB w (s.h id) (rho id) b:=fun g k j u b h1 h5 h6=>by rw[aL];exact .inr (.inr ⟨_,_,_,_,_,_,rfl,h1,h5,h6⟩)
 have T0:jx S S w w L L rho rho s.h (br s.h id .none):=⟨fun _ h=>h,fun _ _=>rfl,fun j hj=>⟨by
   rcases bD s.h id .none j with⟨rfl,h⟩ | ⟨_,h⟩
   ·rw[h] at hj;exact hj.elim
   ·rw[h] at hj;exact hj,fun h=>⟨h,rfl⟩⟩,fun j e' hj=>by
   rcases bD s.h id .none j with⟨rfl,h⟩ | ⟨_,h⟩
   ·rw[h] at hj;cases hj
   rw[h] at hj;exact hj⟩
 have KE:∀k,k < w.heap.size->cU (rho id)≠some k->w'.heap[k]?=w.heap[k]?:=fun k hk hn=>h3.block k hk fun e=>hn e.symm
 refine (sim.kill id).qg hC d (.aL e (xs++ys.map qb)) hdb hL (by show br s.h id .none d=_;rw[bw _ _ LR.symm];exact hb) w' h3.os h3.tape h3.output h3.size (fun k=>hasB w (s.h id) (rho id) k) (fun k hk hn=>KE k hk fun h=>hn (.inl h)) (fun k hk=>?_) v' (fun g hg=>?_) (fun T=>?_)
 ·obtain⟨q1,q2,q3⟩:=sim.lv id k jQ bZ hk
  refine⟨q2,fun i hi li eR=>?_,q3⟩
  have lh:(br s.h id .none i).live:=li
  rcases bD s.h id .none i with⟨rfl,h⟩ | ⟨b8,h⟩
  ·rw[h] at lh;exact lh.elim
  rw[h] at lh;exact b8 (sim.dj i id k hi jQ lh bZ (eD b8 eR) hk)
 ·rcases hg with hg | ⟨cs,g',h,_⟩ | ⟨e',wk,g',k',j,u,q1,q2,q3,q4⟩
  ·obtain⟨a1,c1,B9⟩:=cP h2
   refine⟨(h2.lt g (by rw[cS B9];exact hg)).2,?_⟩
   rcases h4 with h | h
   ·exact .inr (.inl (h ▸ hg))
   rw[h] at hg
   injection hg with hg
   exact .inl (by omega)
  ·cases h
  injection q1 with q1 T4
  subst q1 T4
  obtain⟨g0,g1,g2⟩:=fh _ _ _ _ q2 q3
  have Qw:=LU _ _ _ _ _ g1 g2 q4
  exact⟨Nat.lt_of_lt_of_le (sim.lv id g jQ bZ Qw).1 h3.size,.inr Qw⟩
 show aR _ _ _ _ _ (br rho d v' d)/\rv _ _ (br rho d v' d)
 rw[aO]
 refine⟨⟨ie,NA++news,nK,k2,qh,DY,fun u hu=>(List.mem_append.1 hu).elim (k5 u) (GH.one u),fun p r j x hp hj=>?_⟩,fun g k j u b hg hc hb'=>?_,fun g k j k' j' u u' b hg hc hc' GI oD=>?_⟩
 ·by_cases hk:p < xs.length
  ·rw[List.getElem?_append_left hk] at hp
   obtain⟨u,hu,wb,Qx⟩:=k6 p r j x hp hj
   refine⟨u,by rw[List.getElem?_append_left (aP hu)];exact hu,?_⟩
   cases x with
   | av x=>exact bF.lz T (bF.lz T0 wb)
   | row e' o9=>
    refine aR.lz (show aR _ _ _ _ _ _ from wb) (fun b hb'=>KE b ?_ fun h=>Qx _ _ rfl b b h hb' rfl) (fun x u hu=>hu.mono T.hS T.keep)
    obtain⟨g,u2,g1,g2,_⟩:=hR.zM hp hj
    have:u2=u:=by
     obtain⟨r',_,_,q1,q2,q3⟩:=(oE k3 k4 g1).1 g2
     rw[hu] at q3
     injection q3 with q3
     exact q3.symm
    subst this
    exact (sim.lv id b jQ bZ (LU _ _ _ _ _ g1 g2 hb')).1
  rw[List.getElem?_append_right (by omega),List.getElem?_map] at hp
  obtain⟨q,hq,rfl⟩:=Option.map_eq_some_iff.1 hp
  rw[qb,List.getElem?_map] at hj
  obtain⟨z,hz,rfl⟩:=Option.map_eq_some_iff.1 hj
  obtain⟨u,hu,wb⟩:=GH.rep _ _ _ _ hq hz
  refine⟨u,?_,tG (wb.mono T.hS T.keep)⟩
  have hm:xs.length*ie.size<=p*ie.size:=Nat.mul_le_mul_right _ (by omega)
  rw[List.getElem?_append_right (by rw[NB];omega),NB]
  rw[Nat.sub_mul] at hu
  rw[<-hu]
  congr 1
  omega
 ·obtain⟨g0,g1,g2⟩:=fh _ _ _ _ hg hc
  rcases h4 with h | h
  ·rw[h,g1] at hg
   injection hg with hg
   subst hg
   exact hS.top _ _ _ _ _ g1 g2 hb'
  rw[h] at hg
  injection hg with hg
  have:=(sim.lv id b jQ bZ (LU _ _ _ _ _ g1 g2 hb')).1
  omega
 obtain⟨g0,g1,g2⟩:=fh _ _ _ _ hg hc
 obtain⟨VQ,Pw,T6⟩:=fh _ _ _ _ hg hc'
 rw[g1] at Pw
 injection Pw with Pw
 subst Pw
 exact hS.dis _ _ _ _ _ _ _ _ g1 g2 T6 GI oD
theorem EN {A:cV} {o:Oper} (c:Call) (aU:o.op=.call c) (hc:c.callee=.builtin .append):gF A o:=by
 intro V L S rho s a w K next Q hC sim hV hd hq hn hnext
 obtain⟨callee,args,argTypes⟩:=c
 simp only at hc
 subst hc
 simp only[bY,aU,ef,eS] at hq
 split at hq
 ·rename_i x y t t' hargs GG
  have hx:=bH sim x fun j hj=>hV j (by simp[aU,Op.operands,Call.operands,hj];rw[<-hj];exact Array.mem_toList_iff.1 (by rw[hargs];simp))
  have hy:=bH sim y fun j hj=>hV j (by simp[aU,Op.operands,Call.operands,hj];rw[<-hj];exact Array.mem_toList_iff.1 (by rw[hargs];simp))
  have e1:args=#[x,y]:=by rw[<-Array.toArray_toList (xs:=args),hargs]
  have e2:argTypes=#[t,t']:=by rw[<-Array.toArray_toList (xs:=argTypes),GG]
  subst e1 e2
  split at hq
  ·rename_i e size bytes zero eq Qy hT
   have Qy:=gG Qy
   subst Qy
   have e_:=(hC.gE t _ hT).under
   simp only at e_
   split at hq
   ·rename_i te rC
    obtain⟨ie,ze,nK,we,Ng,Jl,Jm,gT⟩:=(hC.gE e te rC).info
    have LV:=(hC.gE e te rC).Gr
    split at hq
    ·rename_i hpos
     have hpos:0 < ie.size:=by rw[we];exact Nat.le_of_ble_eq_true hpos
     obtain⟨ys,hq,NC⟩:=B8 sim hy hq
     have main:∀(xs:List (List PV)) (v:Value) (ws:List Value) (s2:AS),a.eval x=v->w.ownsRow 0 e ie.size v xs.length ws->Flat S w ie.size xs ws->(∀r∈ys,r.length=te.size)->(xs.length+ys.length)*te.bytes<=140737488355328->xs.length+ys.length<=140737488355328 ->
       cu A V L S rho s2 a w->(∀g,cU v=some g->¬S g/\(∀i,L i->(s2.h i).live->¬hasB w (s2.h i) (rho i) g)/\(A.mv g\/A.w0.heap.size<=g))->¬L (o.dst.getD 0)->s2.h (o.dst.getD 0)=.row e (xs++ys)->
       ∃v' w' rho',(execOp a.eval o).run A.C.P w=.ok (.value v') w'/\cu A V (fun i=>L i\/i=o.dst.getD 0) S rho' s2 a w'/\v'=rho' (o.dst.getD 0):=by
      intro xs v ws s2 hv hown sO hlen GI oD bI hR hL hb
      obtain⟨ad,c',news,QA,GH,hcell⟩:=NC ie.size (fun r hr=>by rw[hlen r hr,we])
      obtain⟨v',w',hr,h2,h3,h4⟩:=o_ (P:=A.C.P) w t o.type e ie ze e_ nK Jl (by rw[Jm];simp[LV,we]) hpos v xs.length ws hown ad ys.length c' news GH.len
       (fun h0=>hcell (fun e=>h0 (by rw[e];rfl))) GH.one (by simp only[maxLen];omega) (by rw[Ng];exact GI)
      obtain⟨a0,c0,ND⟩:=cP hown
      obtain⟨a1,c1,B9⟩:=cP h2
      rw[cS ND] at h3 h4
      rw[cS B9] at h4
      refine⟨v',w',br rho (o.dst.getD 0) v',by simp[execOp,aU,resolve,invoke,builtin,hv,QA,hr],?_,(aO _ _ _).symm⟩
      refine bI.new hC (o.dst.getD 0) _ (bI.nd hd) hL hb w' h3.os h3.tape h3.output h3.size (fun k=>cU v=some k) (fun k hk NF=>h3.block k hk (fun e=>NF e.symm)) (fun k hk=>hR k hk) v' (fun g hg=>?_) (fun T=>?_)
      ·refine⟨(h2.lt g (by rw[cS B9];exact hg)).2,?_⟩
       rcases h4 with h | h
       ·exact .inr (h ▸ hg)
       rw[h] at hg
       injection hg with hg
       exact .inl (by omega)
      show aR A.C.P w' (bu S w') e (xs++ys) (br rho (o.dst.getD 0) v' (o.dst.getD 0))
      rw[aO]
      exact aR.of_flat nK hpos (by rw[List.length_append];exact h2) ((sO.app GH).mono T.hS T.keep)
     split at hq
     ·rename_i LI
      rw[LI] at hx
      have hv:a.eval x=.slice none 0 0:=by cases h:a.eval x <;> rw[h] at hx <;> cases hx;rfl
      obtain⟨⟨h1,h2,h3⟩,hq⟩:=hq
      obtain⟨hL,hb⟩:=hn _ _ _ hq
      obtain⟨v',w',rho',hr,bI,B4⟩:=main [] _ [] s hv ⟨by simp,.inl ⟨rfl,rfl⟩⟩ ⟨by simp,by simp,by simp,by simp⟩ h1 (by simpa using h2) (by simpa using h3) sim (fun g hg=>by simp[cU] at hg) hL (by simpa using hb)
      exact dP hr (hnext _ _ _ S rho' _ _ hq (bI.value o.dst hd _ _ (.ow _ _ fun _=>⟨.inr rfl,B4⟩)))
     ·rename_i id LI
      rw[LI] at hx
      split at hq
      ·rename_i e' xs aL
       split at hq
       ·rename_i wg
        have wg:=gG wg
        subst wg
        obtain⟨⟨h1,h2,h3⟩,hq⟩:=hq
        obtain⟨hL,hb⟩:=hn _ _ _ hq
        obtain⟨jQ,hv⟩:=hx.de (by rw[aL];trivial)
        have hh:=sim.hp id jQ
        rw[aL] at hh
        obtain⟨ws,_,hown,sO⟩:=aR.flat nK hh
        have LR:id≠o.dst.getD 0:=fun e=>hL (e ▸ jQ)
        have bZ:(s.h id).live:=by rw[aL];trivial
        obtain⟨v',w',rho',hr,bI,B4⟩:=main xs _ ws ⟨s.t,br s.h id .none⟩ hv hown sO h1 h2 h3 (sim.kill id) (fun g hg=>by
          obtain⟨k1,k2,k3⟩:=sim.nG id g jQ bZ hg
          refine⟨k2,fun i hi li eR=>?_,k3⟩
          have lh:(br s.h id .none i).live:=li
          rcases bD s.h id .none i with⟨rfl,h⟩ | ⟨b8,h⟩
          ·rw[h] at lh;exact lh.elim
          rw[h] at lh;exact b8 (sim.dj i id g hi jQ lh bZ (eD b8 eR) (.inl hg))) hL (by show br s.h id .none (o.dst.getD 0)=_;rw[bw _ _ LR.symm];exact hb)
        exact dP hr (hnext _ _ _ S rho' _ _ hq (bI.value o.dst hd _ _ (.ow _ _ fun _=>⟨.inr rfl,B4⟩)))
       exact hq.elim
      ·rename_i e' xs aL
       split at hq
       ·rename_i wg
        have wg:=gG wg
        subst wg
        obtain⟨⟨h1,h2,h3⟩,hq⟩:=hq
        obtain⟨hL,hb⟩:=hn _ _ _ hq
        obtain⟨jQ,hv⟩:=hx.de (by rw[aL];trivial)
        have hh:=sim.hp id jQ
        rw[aL] at hh
        obtain⟨⟨i0,ws,Nh,_,hown,_⟩,_⟩:=hh
        rw[nK] at Nh
        injection Nh with Nh
        subst Nh
        obtain⟨ad,c',news,QA,GH,hcell⟩:=NC ie.size (fun r hr=>by rw[h1 r hr,we])
        obtain⟨v',w',hr,q2,q3,q4⟩:=o_ (P:=A.C.P) w t o.type e' ie ze e_ nK Jl (by rw[Jm];simp[LV,we]) hpos (rho id) xs.length ws hown ad ys.length c' news GH.len
         (fun h0=>hcell (fun e=>h0 (by rw[e];rfl))) GH.one (by simp only[maxLen];omega) (by rw[Ng];exact h2)
        obtain⟨a0,c0,ND⟩:=cP hown
        obtain⟨a1,c1,B9⟩:=cP q2
        rw[cS ND] at q3 q4
        rw[cS B9] at q4
        have bI:=sim.Qu hC jQ aL nK (sim.nd hd) hL hb GH hown q2 q3 q4
        exact dP (by simp[execOp,aU,resolve,invoke,builtin,hv,QA,hr]) (hnext _ _ _ S _ _ _ hq (bI.value o.dst hd _ _ (.ow _ _ fun _=>⟨.inr rfl,(aO _ _ _).symm⟩)))
       exact hq.elim
      exact hq.elim
     exact hq.elim
    exact hq.elim
   exact hq.elim
  exact hq.elim
 exact hq.elim
theorem x_ {A:cV} {o:Oper} (t:TypeId) (x y:Operand) (aU:o.op=.makeSlice t x y):gF A o:=by
 intro V L S rho s a w K next Q hC sim hV hd hq hn hnext
 simp only[bY,aU] at hq
 have hx:=bH sim x fun j hj=>hV j (by simp[aU,Op.operands,hj])
 have hy:=bH sim y fun j hj=>hV j (by simp[aU,Op.operands,hj])
 split at hq
 ·rename_i e size bytes zero eq k n k' c hT h1 h2
  have e_:=(hC.gE t _ hT).under
  simp only at e_
  rw[h1] at hx;rw[h2] at hy
  split at hq
  ·rename_i te rC
   obtain⟨ie,ze,nK,we,Ng,Jl,Jm,gT⟩:=(hC.gE e te rC).info
   have LV:=(hC.gE e te rC).Gr
   split at hq
   ·rename_i hpos
    have hpos:0 < te.size:=Nat.le_of_ble_eq_true hpos
    obtain⟨⟨h0,LP,hb,Jk⟩,hq⟩:=hq
    obtain⟨hL,hdb⟩:=hn _ _ _ hq
    have hr:=run_make (P:=A.C.P) w t e ie ze e_ nK Jl k k' n c h0 LP (by rw[Ng,Int.mul_comm];omega) Jk
    have sO:=Flat.zero S (w.alloc (.cells (madeCells ze.cells (c.toNat*ie.size)) e)) (hC.gE e te rC) hpos n.toNat
    have key:∀(W:World) es xs,Flat S W te.size es xs->Flat S W ie.size es xs:=fun W es xs h=>by rw[we];exact h
    have hle:n.toNat*te.size<=c.toNat*te.size:=Nat.mul_le_mul_right _ (by omega)
    have NG:((Array.range (n.toNat*te.size)).map (te.zero.toArray[· % te.zero.toArray.size]!)).toList=(madeCells ze.cells (c.toNat*ie.size)).toList.take (n.toNat*te.size):=by
     apply List.ext_getElem?
     intro j
     rw[List.getElem?_take]
     split
     ·rename_i hj
      simp[madeCells,Jm,we,hj,Nat.lt_of_lt_of_le hj hle]
     rename_i hj
     rw[List.getElem?_eq_none (by simpa using hj)]
    have bI:=sim.new hC (o.dst.getD 0) _ (sim.nd hd) hL hdb (w.alloc (.cells (madeCells ze.cells (c.toNat*ie.size)) e)) rfl rfl rfl (by simp) (fun _=>False) (fun k hk _=>Below.heap_alloc _ _ _ hk) (fun _ h=>h.elim) (.slice (some ⟨w.heap.size,0,none⟩) n.toNat c.toNat)
     (fun g hg=>by simp[cU] at hg;subst hg;simp) (fun T=>by
      show aR A.C.P _ _ e _ (br rho (o.dst.getD 0) _ (o.dst.getD 0))
      rw[aO]
      refine aR.of_flat nK (by omega) ?_ (key _ _ _ sO)
      rw[NG,<-we]
      refine⟨by rw[List.length_take,List.length_replicate,Array.length_toList,size_madeCells,we];omega,.inr ⟨w.heap.size,c.toNat,_,by simp,Nat.zero_le _,heap_alloc_new w _,by simp;omega,by simp only[maxLen];omega,size_madeCells _ _,by simp⟩⟩)
    exact dP (by simp only[execOp,aU,hx.ca,hy.ca,Sem.run_bind,hr,Result.andThen_ok,Sem.run_pure]) (hnext _ _ _ S _ _ _ hq (bI.value o.dst hd _ _ (.ow _ _ fun _=>⟨.inr rfl,(aO _ _ _).symm⟩)))
   exact hq.elim
  exact hq.elim
 exact hq.elim
end Go.AM
namespace Go.AM
open Go.RowKit
theorem GJ (off:Nat):∀(vs:List Value) (k:Nat) (cs:Array Value),(vs.zipIdx k).foldl (fun (cs:Array Value) (x:Value×Nat)=>cs.setIfInBounds (off+x.2) x.1) cs=(setCells cs.toList (off+k) vs).toArray:=by
 intro vs
 induction vs with
 | nil=>intro k cs;simp[setCells]
 | cons v vs ih=>
  intro k cs
  simp only[List.zipIdx_cons,List.foldl_cons]
  rw[ih]
  simp[setCells,Nat.add_assoc]
theorem rF (place:Nat->Option (Nat×Nat)) (cells:Array Value) (i:Nat) (v:Value) (rest:List (Nat×Value)) (off size:Nat) (hp:place i=some (off,size)) (hs:v.cells.size=size) (hl:off+size<=cells.size):
  Instr.fill place cells ((i,v)::rest)=Instr.fill place (setCells cells.toList off v.cells.toList).toArray rest:=by
 rw[Instr.fill,hp]
 simp only
 rw[if_neg (by simp[hs];omega)]
 congr 1
 have:=GJ off v.cells.toList 0 cells
 rw[Nat.add_zero] at this
 rw[<-this,<-Array.foldl_toList,Array.toList_zipIdx]
structure gz (S:Nat->Prop) (w:World) (cs:List PV) (vs:List Value):Prop where
 len:vs.length=cs.length
 one:∀u∈vs,u.oneCell'=true
 rep:∀(j:Nat) x u,cs[j]?=some x->vs[j]?=some u->bu S w x u
theorem gz.mono {S S':Nat->Prop} {w:World} {cs:List PV} {vs:List Value} (h:gz S w cs vs) (hS:∀b,S b->S' b):gz S' w cs vs:=
 ⟨h.len,h.one,fun j x u h1 h2=>(h.rep j x u h1 h2).mono hS (fun _ _=>rfl)⟩
theorem gz.set {S:Nat->Prop} {w:World} {cs ys:List PV} {vs us:List Value} (h:gz S w cs vs) (g:gz S w ys us) (off:Nat) (hl:off+ys.length<=cs.length):gz S w (setCells cs off ys) (setCells vs off us):=by
 have e1:=fun j=>dU ys cs off j hl
 have e2:=fun j=>dU us vs off j (by rw[g.len,h.len];exact hl)
 refine⟨by rw[c8,c8,h.len],fun u hu=>?_,fun j x u hj hu=>?_⟩
 ·obtain⟨j,hj⟩:=List.mem_iff_getElem?.1 hu
  rw[e2] at hj
  split at hj
  ·exact g.one u (List.mem_of_getElem? hj)
  exact h.one u (List.mem_of_getElem? hj)
 rw[e1] at hj
 rw[e2,g.len] at hu
 split at hj
 ·rename_i p6
  rw[if_pos p6] at hu
  exact g.rep _ x u hj hu
 rename_i p6
 rw[if_neg p6] at hu
 exact h.rep _ x u hj hu
theorem w7 {S:Nat->Prop} {w:World} {x:PV} {ys:List PV} {v:Value} (h:pC x=some ys) (hx:bu S w x v):gz S w ys v.cells.toList:=by
 obtain⟨h1,h2,h3⟩:=sN h hx
 exact⟨by simpa using h1,h2,fun j y u hj hu=>h3 j y u hj (by simpa using hu)⟩
theorem EO {A:cV} (hC:bV A.C) {V L:Nat->Prop} {rho:Nat->Value} {t:Nat->AV} {a:Act} {w:World} {h:Nat->AB} {fs:List (Nat×Nat×Bool)} (place:Nat->Option (Nat×Nat)) (hp:∀(i:Nat) f,fs[i]?=some f->place i=some (f.1,f.2.1)):
  ∀(ps:List (Nat×Operand)) (h':Nat->AB) (S:Nat->Prop) (cs:List PV) (vs:List Value) (K:List PV->List (Nat×AB)->Prop),(∀p∈ps,∀j,p.2=.tmp j->V j)->cu A V L S rho ⟨t,h'⟩ a w->Xd h h'->gz S w cs vs->iy h fs (ev t) ps cs K ->
  ∃kI fz S' kA,K kI fz/\cu A V L S' rho ⟨t,app h' fz⟩ a w/\Xd h (app h' fz)/\gz S' w kI kA/\Instr.fill place vs.toArray (ps.map fun p=>(p.1,a.eval p.2))=some kA.toArray/\(∀p∈fz,L p.1):=by
 intro ps
 induction ps with
 | nil=>intro h' S cs vs K _ sim hF hc hq;exact⟨cs,[],S,vs,hq,sim,hF,hc,rfl,by simp⟩
 | cons p ps ih=>
  intro h' S cs vs K hV sim hF hc hq
  obtain⟨i,x⟩:=p
  unfold iy at hq
  split at hq
  ·rename_i off size ag Jf
   have hx:=bH sim x fun j hj=>hV (i,x) (by simp) j hj
   obtain⟨y,fz,S2,hq,bI,hrep,xZ,F_,zK⟩:=gm hC sim hF hx hq
   split at hq
   ·rename_i ys LJ
    split at hq
    ·rename_i iX
     simp only[Bool.and_eq_true] at iX
     have e1:=gG iX.1
     have e2:=jh iX.2
     have hok:=w7 LJ hrep
     obtain⟨kI,W0,S',kA,k1,k2,k3,k4,k5,k9⟩:=ih (app h' fz) S2 _ _ _ (fun p hp=>hV p (by simp[hp])) bI F_ ((hc.mono xZ).set hok off (by omega)) hq
     refine⟨kI,fz++W0,S',kA,k1,by rw[cJ];exact k2,by rw[cJ];exact k3,k4,?_,fun p hp=>(List.mem_append.1 hp).elim (zK p) (k9 p)⟩
     rw[List.map_cons,rF place _ i _ _ off size (hp i _ Jf) (by simpa [e1] using hok.len) (by simp[hc.len];omega)]
     exact k5
    exact hq.elim
   exact hq.elim
  exact hq.elim
theorem GK {P:Program} {t:TypeId} {fs:List (Nat×Nat×Bool)} {size bytes:Nat} {zero:List Value} {eq:Bool} (e_:lA P t ⟨.st fs,size,bytes,zero,eq⟩) {l:List (Nat×Value)} {kA:Array Value}
  (k5:Instr.fill (fun i=>(fs[i]?).map fun f=>(f.1,f.2.1)) zero.toArray l=some kA):P.built t l=some kA:=by
 obtain⟨info,z,hi,hsz,LW,hz,hcells,gT⟩:=e_.info
 obtain⟨gs,Gs,hl,hf⟩:=e_.under
 simp only at hcells
 have ya:gs.toList.mapM (fun f=>(P.info? f.type).map fun i=>(f.offset,i.size))=some (fs.map fun f=>(f.1,f.2.1)):=by
  have gen:∀(gl:List Field) (fl:List (Nat×Nat×Bool)),fl.length=gl.length->(∀(i:Nat) f g,fl[i]?=some f->gl[i]?=some g->f.1=g.offset/\(∃i2,P.info? g.type=some i2/\i2.size=f.2.1))->gl.mapM (fun f=>(P.info? f.type).map fun i=>(f.offset,i.size))=some (fl.map fun f=>(f.1,f.2.1)):=by
   intro gl
   induction gl with
   | nil=>intro fl h1 _;have:fl=[]:=List.eq_nil_of_length_eq_zero h1;subst this;rfl
   | cons g gl ih=>
    intro fl h1 h2
    cases fl with
    | nil=>simp at h1
    | cons f fl=>
     obtain⟨e1,i2,e2,e3⟩:=h2 0 f g rfl rfl
     have:=ih fl (by simpa using h1) (fun i f g h3 h4=>h2 (i+1) f g (by simpa using h3) (by simpa using h4))
     rw[List.mapM_cons,e2,this]
     simp[e1,e3]
  exact gen gs.toList fs (by simpa using hl) (fun i f g h3 h4=>by
   obtain⟨e1,_,e2,_⟩:=hf i f g h3 (by simpa using h4)
   exact⟨e1,e2⟩)
 unfold Program.built
 rw[hi,Gs]
 simp only[hz,ya,hcells]
 rw[<-k5]
 congr 1
 funext i
 simp
theorem EP {A:cV} {V L S:Nat->Prop} {rho:Nat->Value} {s:AS} {a:Act} {w:World} (sim:cu A V L S rho s a w) {fs:List (Nat×Nat×Bool)} (place:Nat->Option (Nat×Nat)) (hp:∀(i:Nat) f,fs[i]?=some f->place i=some (f.1,f.2.1)):
  ∀(ps:List (Nat×Operand)) (cs:List AV) (vs:List Value) (K:List AV->Prop),(∀p∈ps,∀j,p.2=.tmp j->V j)->cs.length=vs.length->(∀u∈vs,u.oneCell'=true)->(∀(i:Nat) c u,cs[i]?=some c->vs[i]?=some u->bF S w A.C.P L rho s.h c u)->js s.h fs (ev s.t) ps cs K ->
  ∃(kI:List AV) (kA:List Value),K kI/\kI.length=kA.length/\(∀u∈kA,u.oneCell'=true)/\(∀(i:Nat) c u,kI[i]?=some c->kA[i]?=some u->bF S w A.C.P L rho s.h c u)/\Instr.fill place vs.toArray (ps.map fun p=>(p.1,a.eval p.2))=some kA.toArray:=by
 intro ps
 induction ps with
 | nil=>intro cs vs K _ hl h1 hc hq;exact⟨cs,vs,hq,hl,h1,hc,rfl⟩
 | cons p ps ih=>
  intro cs vs K hV hl h1 hc hq
  obtain⟨i,x⟩:=p
  unfold js at hq
  split at hq
  ·rename_i off size ag Jf
   split at hq
   ·rename_i iX
    simp only[Bool.and_eq_true] at iX
    obtain⟨⟨e1,e2⟩,e3⟩:=iX
    have e1:=gG e1
    have e2:=jh e2
    have hx:=bH sim x fun j hj=>hV (i,x) (by simp) j hj
    have o1:=oB sim e3 hx
    have iE:=cells_one o1
    have hlen:off < vs.length:=by omega
    obtain⟨kI,kA,k1,k2,k3,k4,k5⟩:=ih (cs.set off (ev s.t x)) (vs.set off (a.eval x)) K (fun p hp=>hV p (by simp[hp])) (by simp[hl]) (fun u hu=>by
      rcases List.mem_or_eq_of_mem_set hu with h | h
      ·exact h1 u h
      ·rw[h];exact o1) (fun j c u hj hu=>by
      by_cases e:j=off
      ·subst e
       rw[List.getElem?_set_self (by omega)] at hj hu
       injection hj with hj
       injection hu with hu
       subst hj hu
       exact hx
      rw[List.getElem?_set_ne (fun e'=>e e'.symm)] at hj hu
      exact hc j c u hj hu) hq
    refine⟨kI,kA,k1,k2,k3,k4,?_⟩
    rw[List.map_cons,rF place _ i _ _ off size (hp i _ Jf) (by rw[iE,e1];rfl) (by simp;omega),iE]
    exact k5
   exact hq.elim
  exact hq.elim
theorem GL {A:cV} {o:Oper} (t:TypeId) (ps:Array (Nat×Operand)) (aU:o.op=.build t ps):gF A o:=by
 intro V L S rho s a w K next Q hC sim hV hd hq _ hnext
 simp only[bY,aU] at hq
 split at hq
 ·rename_i fs size bytes zero eq hT
  have e_:=(hC.gE t _ hT).under
  obtain⟨info,z,hi,hsz,LW,hz,hcells,gT⟩:=(hC.gE t _ hT).info
  obtain⟨gs,Gs,hl,hf⟩:=e_
  simp only at hcells gT
  have qi:∀(i:Nat) f,fs[i]?=some f->(fun i=>(fs[i]?).map fun f=>(f.1,f.2.1)) i=some (f.1,f.2.1):=fun i f h=>by simp[h]
  split at hq
  case h_2=>
   obtain⟨kI,kA,k1,k2,k3,k4,k5⟩:=EP sim (fun i=>(fs[i]?).map fun f=>(f.1,f.2.1)) qi ps.toList (zero.map ED) zero (fun cs=>K (.st cs) [] none)
    (fun p hp j hj=>hV j (by simp[aU,Op.operands];exact⟨p.1,by rw[<-hj];exact Array.mem_toList_iff.1 hp⟩)) (by simp) gT (fun j x u hj hu=>by
     rw[List.getElem?_map,hu] at hj
     simp at hj
     rw[<-hj]
     exact uc _ _ _ _ _ _ u) hq
   have B_:=GK (hC.gE t _ hT) k5
   exact a7 sim hd hnext k1 (.st _ kA.toArray (by simpa using k2) (by simpa using k3) (fun i c u h1 h2=>k4 i c u h1 (by simpa using h2))) (by
    have hr:=run_build (P:=A.C.P) w t (ps.map fun p=>(p.1,a.eval p.2)) kA.toArray (by simpa using B_)
    simp only[execOp,aU,Sem.run_bind]
    rw[hr]
    simp)
  obtain⟨kI,fz,S',kA,k1,k2,k3,k4,k5,_⟩:=EO hC (fun i=>(fs[i]?).map fun f=>(f.1,f.2.1)) qi ps.toList s.h S (zero.map (P_ (A.C.bn t))) zero (fun cs fz=>K (.p (.ag cs)) fz none)
   (fun p hp j hj=>hV j (by simp[aU,Op.operands];exact⟨p.1,by rw[<-hj];exact Array.mem_toList_iff.1 hp⟩)) sim (Xd.refl _) ⟨by simp,gT,fun j x u hj hu=>by
    rw[List.getElem?_map,hu] at hj
    simp at hj
    rw[<-hj]
    exact I8 _ _ _ u⟩ hq
  have ya:gs.toList.mapM (fun f=>(A.C.P.info? f.type).map fun i=>(f.offset,i.size))=some (fs.map fun f=>(f.1,f.2.1)):=by
   have gen:∀(gl:List Field) (fl:List (Nat×Nat×Bool)),fl.length=gl.length->(∀(i:Nat) f g,fl[i]?=some f->gl[i]?=some g->f.1=g.offset/\(∃i2,A.C.P.info? g.type=some i2/\i2.size=f.2.1))->gl.mapM (fun f=>(A.C.P.info? f.type).map fun i=>(f.offset,i.size))=some (fl.map fun f=>(f.1,f.2.1)):=by
    intro gl
    induction gl with
    | nil=>intro fl h1 _;have:fl=[]:=List.eq_nil_of_length_eq_zero h1;subst this;rfl
    | cons g gl ih=>
     intro fl h1 h2
     cases fl with
     | nil=>simp at h1
     | cons f fl=>
      obtain⟨e1,i2,e2,e3⟩:=h2 0 f g rfl rfl
      have:=ih fl (by simpa using h1) (fun i f g h3 h4=>h2 (i+1) f g (by simpa using h3) (by simpa using h4))
      rw[List.mapM_cons,e2,this]
      simp[e1,e3]
   exact gen gs.toList fs (by simpa using hl) (fun i f g h3 h4=>by
    obtain⟨e1,_,e2,_⟩:=hf i f g h3 (by simpa using h4)
    exact⟨e1,e2⟩)
  have B_:A.C.P.built t (ps.toList.map fun p=>(p.1,a.eval p.2))=some kA.toArray:=by
   unfold Program.built
   rw[hi,Gs]
   simp only[hz,ya,hcells]
   rw[<-k5]
   congr 1
   funext i
   simp
  refine wZ (s:=s) k2 hd hnext k1 (v:=.agg kA.toArray) (.p _ _ (.ag _ _ (by simp[k4.len]) (by simpa using k4.one) fun i c v h1 h2=>k4.rep i c v h1 (by simpa using h2))) ?_
  have hr:=run_build (P:=A.C.P) w t (ps.map fun p=>(p.1,a.eval p.2)) kA.toArray (by simpa using B_)
  simp only[execOp,aU,Sem.run_bind]
  rw[hr]
  simp
 exact hq.elim
theorem ER {A:cV} {V L S:Nat->Prop} {rho:Nat->Value} {s:AS} {a:Act} {w:World} {b:Bool} (hC:bV A.C) {h:Nat->AB} (sim:cu A V L S rho s a w) (hF:Xd h s.h) {x:AV} {v:Value} (hx:bF S w A.C.P L rho s.h x v) {K:PV->List (Nat×AB)->Prop} (hq:sK b h x K):
  ∃y fz S',K y fz/\cu A V L S' rho ⟨s.t,app s.h fz⟩ a w/\bu S' w y v/\(∀b,S b->S' b)/\Xd h (app s.h fz)/\(∀p∈fz,L p.1):=by
 unfold sK at hq
 split at hq
 ·have:v=.slice none 0 0:=by cases hx;rfl
  rw[this]
  exact⟨_,[],S,hq,sim,.im _,fun _ h=>h,hF,by simp⟩
 exact gm hC sim hF hx hq
theorem uj {A:cV} (hC:bV A.C) {V L:Nat->Prop} {rho:Nat->Value} {t:Nat->AV} {a:Act} {w:World} {h:Nat->AB} {size:Nat} {b:Bool}:
  ∀(ps:List (Nat×Operand)) (h':Nat->AB) (S:Nat->Prop) (es:List (List PV)) (vs:List Value) (K:List (List PV)->List (Nat×AB)->Prop),(∀p∈ps,∀j,p.2=.tmp j->V j)->cu A V L S rho ⟨t,h'⟩ a w->Xd h h'->Flat S w size es vs->fG b h size (ev t) ps es K ->
  ∃wk fz S' kA,K wk fz/\cu A V L S' rho ⟨t,app h' fz⟩ a w/\Xd h (app h' fz)/\Flat S' w size wk kA/\wk.length=es.length/\Instr.fill (fun i=>some (i*size,size)) vs.toArray (ps.map fun p=>(p.1,a.eval p.2))=some kA.toArray/\(∀p∈fz,L p.1):=by
 intro ps
 induction ps with
 | nil=>intro h' S es vs K _ sim hF hc hq;exact⟨es,[],S,vs,hq,sim,hF,hc,rfl,rfl,by simp⟩
 | cons p ps ih=>
  intro h' S es vs K hV sim hF hc hq
  obtain⟨i,x⟩:=p
  unfold fG at hq
  have hx:=bH sim x fun j hj=>hV (i,x) (by simp) j hj
  obtain⟨y,fz,S2,hq,bI,hrep,xZ,F_,zK⟩:=ER hC sim hF hx hq
  split at hq
  ·rename_i ys LJ
   split at hq
   ·rename_i iX
    simp only[Bool.and_eq_true] at iX
    have e1:=gG iX.1
    have e2:i < es.length:=Nat.le_of_ble_eq_true iX.2
    have hok:=w7 LJ hrep
    have NH:(a.eval x).cells.toList.length=size:=by rw[hok.len,e1]
    have hb:i*size+size<=vs.length:=by rw[hc.len,<-Nat.succ_mul];exact Nat.mul_le_mul_right _ e2
    obtain⟨wk,W0,S',kA,k1,k2,k3,k4,k5,k6,k9⟩:=ih (app h' fz) S2 _ _ _ (fun p hp=>hV p (by simp[hp])) bI F_ ((hc.mono xZ (fun _ _=>rfl)).set i e2 ys _ e1 NH hok.one (fun j y u h1 h2=>hok.rep j y u h1 h2)) hq
    refine⟨wk,fz++W0,S',kA,k1,by rw[cJ];exact k2,by rw[cJ];exact k3,k4,by rw[k5,List.length_set],?_,fun p hp=>(List.mem_append.1 hp).elim (zK p) (k9 p)⟩
    rw[List.map_cons,rF _ _ i _ _ (i*size) size rfl (by simpa using NH) (by simpa using hb)]
    exact k6
   exact hq.elim
  exact hq.elim
theorem wh {A:cV} {o:Oper} (t:TypeId) (len:Nat) (ps:Array (Nat×Operand)) (aU:o.op=.buildSlice t len ps):gF A o:=by
 intro V L S rho s a w K next Q hC sim hV hd hq hn hnext
 simp only[bY,aU] at hq
 split at hq
 ·rename_i e size bytes zero eq hT
  have e_:=(hC.gE t _ hT).under
  simp only at e_
  split at hq
  ·rename_i te rC
   obtain⟨ie,ze,nK,we,Ng,Jl,Jm,gT⟩:=(hC.gE e te rC).info
   have LV:=(hC.gE e te rC).Gr
   split at hq
   ·rename_i iX
    simp only[Bool.and_eq_true] at iX
    have hpos:0 < te.size:=Nat.le_of_ble_eq_true iX.1
    have Px:=jh iX.2
    split at hq
    ·rename_i NI
     obtain⟨wk,fz,S',kA,k1,k2,k3,k4,k5,k6,k9⟩:=uj hC ps.toList s.h S _ _ (fun es fz=>K (.ow (o.dst.getD 0)) fz (some (.row e es)))
      (fun p hp j hj=>hV j (by simp[aU,Op.operands];exact⟨p.1,by rw[<-hj];exact Array.mem_toList_iff.1 hp⟩)) sim (Xd.refl _) (Flat.zero S w (hC.gE e te rC) hpos len) hq
     rw[List.length_replicate] at k5
     obtain⟨hL,hb⟩:=hn _ _ _ k1
     have LX:(app s.h fz) (o.dst.getD 0)=.row e wk:=by
      rw[gy (fun p hp (e:p.1=_)=>hL (by rw[<-e];exact k9 p hp)),hb]
     have hrun:(execOp a.eval o).run A.C.P w=.ok (.value (.slice (some ⟨w.heap.size,0,none⟩) len len)) (w.alloc (.cells kA.toArray e)):=by
      have e0:len*te.size=(Array.range (len*te.size)).size:=by simp
      have QB:¬16777216 < len*te.size:=by omega
      have NJ:Instr.fill (fun i=>some (i*te.size,te.size)) ((Array.range (len*te.size)).map (te.zero.toArray[· % te.zero.toArray.size]!)) (ps.map fun p=>(p.1,a.eval p.2)).toList=some kA.toArray:=by
       rw[Array.toList_map]
       rw[<-k6]
      have hsz:(Go.sizeOf e).run A.C.P w=.ok te.size w:=(hC.gE e te rC).sizeOf w
      simp only[execOp,aU,Instr.buildSlice,Sem.run_bind,run_underlying e_,Result.andThen_ok,hsz]
      rw[if_neg (show ¬len*te.size > 2 ^ 24 by omega)]
      by_cases h0:len*te.size=0
      ·rw[if_pos h0]
       have k7:Instr.fill (fun i=>some (i*te.size,te.size)) ((Array.range (len*te.size)).map ((#[]:Array Value)[· % (#[]:Array Value).size]!)) (ps.map fun p=>(p.1,a.eval p.2)).toList=some kA.toArray:=by
        have Ga:∀f:Nat->Value,(Array.range 0).map f=#[]:=fun f=>by apply Array.ext';simp
        rw[<-NJ,h0,Ga,Ga]
       simp only[Sem.run_bind,Sem.run_pure,Result.andThen_ok]
       rw[k7]
       simp[newRow,newObj,Sem.run]
      rw[if_neg h0]
      have QC:(zeroValue e).run A.C.P w=.ok ze w:=by simp[zeroValue,typeInfo,nK,Jl]
      simp only[Sem.run_bind,Sem.run_pure,Result.andThen_ok,QC]
      rw[Jm,NJ]
      simp[newRow,newObj,Sem.run]
     have bI:=k2.new hC (o.dst.getD 0) _ (k2.nd hd) hL LX (w.alloc (.cells kA.toArray e)) rfl rfl rfl (by simp) (fun _=>False) (fun k hk _=>Below.heap_alloc _ _ _ hk) (fun _ h=>h.elim) (.slice (some ⟨w.heap.size,0,none⟩) len len)
      (fun g hg=>by simp[cU] at hg;subst hg;simp) (fun T=>by
       show aR A.C.P _ _ e _ (br rho (o.dst.getD 0) _ (o.dst.getD 0))
       rw[aO]
       refine aR.of_flat nK (by omega) ?_ (by rw[we];exact k4.mono T.hS T.keep)
       have:=World.ownsRow_lit (base:=0) (e:=e) (size:=te.size) w kA.toArray len (Nat.zero_le _) (by simp only[maxLen];have:=Nat.le_mul_of_pos_right len hpos;omega) (by simp[k4.len,k5])
       rw[we,k5]
       exact this)
     exact dP hrun (hnext _ _ _ S' _ _ _ k1 (bI.value o.dst hd _ _ (.ow _ _ fun _=>⟨.inr rfl,(aO _ _ _).symm⟩)))
    rename_i NI
    obtain⟨wk,fz,S',kA,k1,k2,k3,k4,k5,k6,k9⟩:=uj hC ps.toList s.h S _ _ (fun es fz=>K (.ow (o.dst.getD 0)) fz (some (.iv es)))
     (fun p hp j hj=>hV j (by simp[aU,Op.operands];exact⟨p.1,by rw[<-hj];exact Array.mem_toList_iff.1 hp⟩)) sim (Xd.refl _) (Flat.zero S w (hC.gE e te rC) hpos len) hq
    rw[List.length_replicate] at k5
    obtain⟨hL,hb⟩:=hn _ _ _ k1
    have LX:(app s.h fz) (o.dst.getD 0)=.iv wk:=by
     rw[gy (fun p hp (e:p.1=_)=>hL (by rw[<-e];exact k9 p hp)),hb]
    have hrun:(execOp a.eval o).run A.C.P w=.ok (.value (.slice (some ⟨w.heap.size,0,none⟩) len len)) (w.alloc (.cells kA.toArray e)):=by
     have e0:len*te.size=(Array.range (len*te.size)).size:=by simp
     have QB:¬16777216 < len*te.size:=by omega
     have NJ:Instr.fill (fun i=>some (i*te.size,te.size)) ((Array.range (len*te.size)).map (te.zero.toArray[· % te.zero.toArray.size]!)) (ps.map fun p=>(p.1,a.eval p.2)).toList=some kA.toArray:=by
      rw[Array.toList_map]
      rw[<-k6]
     have hsz:(Go.sizeOf e).run A.C.P w=.ok te.size w:=(hC.gE e te rC).sizeOf w
     simp only[execOp,aU,Instr.buildSlice,Sem.run_bind,run_underlying e_,Result.andThen_ok,hsz]
     rw[if_neg (show ¬len*te.size > 2 ^ 24 by omega)]
     by_cases h0:len*te.size=0
     ·rw[if_pos h0]
      have k7:Instr.fill (fun i=>some (i*te.size,te.size)) ((Array.range (len*te.size)).map ((#[]:Array Value)[· % (#[]:Array Value).size]!)) (ps.map fun p=>(p.1,a.eval p.2)).toList=some kA.toArray:=by
       have Ga:∀f:Nat->Value,(Array.range 0).map f=#[]:=fun f=>by apply Array.ext';simp
       rw[<-NJ,h0,Ga,Ga]
      simp only[Sem.run_bind,Sem.run_pure,Result.andThen_ok]
      rw[k7]
      simp[newRow,newObj,Sem.run]
     rw[if_neg h0]
     have QC:(zeroValue e).run A.C.P w=.ok ze w:=by simp[zeroValue,typeInfo,nK,Jl]
     simp only[Sem.run_bind,Sem.run_pure,Result.andThen_ok,QC]
     rw[Jm,NJ]
     simp[newRow,newObj,Sem.run]
    have KF:Fr (fun _=>False) w (w.alloc (.cells kA.toArray e)):=⟨rfl,rfl,rfl,by simp,fun k hk _=>Below.heap_alloc _ _ _ hk⟩
    have grow:=k2.Nw hC (w.alloc (.cells kA.toArray e)) KF (fun b=>S' b\/b=w.heap.size) (fun b h=>.inl h) (fun b h=>by
     rcases h with h | h
     ·exact Nat.lt_of_lt_of_le (k2.st b h) KF.size
     subst h;simp) (fun b h=>h.imp id fun h=>by omega)
    have rr:aR A.C.P (w.alloc (.cells kA.toArray e)) (bu S' (w.alloc (.cells kA.toArray e))) e wk (.slice (some ⟨w.heap.size,0,none⟩) len len):=by
     refine aR.of_flat nK (by omega) ?_ (by rw[we];exact k4.mono (fun _ h=>h) (fun b hb=>Below.heap_alloc _ _ _ (k2.st b hb)))
     have:=World.ownsRow_lit (base:=0) (e:=e) (size:=te.size) w kA.toArray len (Nat.zero_le _) (by simp only[maxLen];have:=Nat.le_mul_of_pos_right len hpos;omega) (by simp[k4.len,k5])
     rw[we,k5]
     exact this
    have GM:bu (fun b=>S' b\/b=w.heap.size) (w.alloc (.cells kA.toArray e)) (.sl wk) (.slice (some ⟨w.heap.size,0,none⟩) len len):=rr.zT (fun b h=>.inl h) (fun g hg=>by simp[cU] at hg;exact .inr hg.symm)
    have bI:=grow.LC (o.dst.getD 0) wk (k2.nd hd) hL LX _ GM
    exact dP hrun (hnext _ _ _ _ _ _ _ k1 (bI.value o.dst hd _ _ (.ow _ _ fun _=>⟨.inr rfl,(aO _ _ _).symm⟩)))
   exact hq.elim
  exact hq.elim
 exact hq.elim
end Go.AM
namespace Go.AM
open Go.RowKit
theorem GN {a b:MK} (h:P9 a b=true):a=b:=by
 cases a with
 | str=>cases b with | str=>rfl | int k=>cases h
 | int k=>cases b with
  | str=>cases k <;> cases h
  | int k'=>cases k <;> cases k' <;> first | rfl | cases h
def descOf:MK->TypeDesc
 | .str=>.string
 | .int k=>.int k
theorem uk {P:Program} {t:TypeId} {ti:TI} (h:lA P t ti) {mk:MK} (hm:Gh ti.ud=some mk):P.underlying t=some (descOf mk):=by
 have hu:=h.under
 cases QD:ti.ud <;> rw[QD] at hm hu <;> simp[Gh] at hm
 ·subst hm;exact hu
 subst hm;exact hu
theorem um {mk:MK} {a:AV} {k:Value} (h:keyOf mk a=some k):a=.p (.im k)/\mk.ok k/\MapKept.IsKey (descOf mk) k:=by
 unfold keyOf at h
 split at h
 ·injection h with h;subst h;exact⟨rfl,trivial,trivial⟩
 ·injection h with h;subst h;exact⟨rfl,rfl,rfl⟩
 cases h
theorem Ca {mk:MK} {a b:Value} (ha:mk.ok a) (hb:mk.ok b):Instr.sameNow (descOf mk) a b=some (v8 a b):=by
 cases mk with
 | str=>
  cases a <;> first | (exact ha.elim) | skip
  cases b <;> first | (exact hb.elim) | skip
  simp only[Instr.sameNow,descOf,v8]
  congr 1
  rw[Bool.eq_iff_iff,MapKept.bytes_beq];simp
 | int k=>
  cases a <;> first | (exact ha.elim) | skip
  cases b <;> first | (exact hb.elim) | skip
  have h1:_=k:=ha
  have h2:_=k:=hb
  subst h1
  subst h2
  simp[Instr.sameNow,descOf,v8]
  rw[Bool.eq_iff_iff];simp
theorem LY {mk:MK} {a b:Value} (ha:mk.ok a) (hb:mk.ok b) (h:v8 a b=true):a=b:=by
 cases mk with
 | str=>
  cases a <;> first | (exact ha.elim) | skip
  cases b <;> first | (exact hb.elim) | skip
  simp[v8] at h
  rw[h]
 | int k=>
  cases a <;> first | (exact ha.elim) | skip
  cases b <;> first | (exact hb.elim) | skip
  have h1:_=k:=ha
  have h2:_=k:=hb
  subst h1
  subst h2
  simp[v8] at h
  rw[h]
theorem find_spec {mk:MK} {k:Value} (hk:mk.ok k):∀(es:List (Value×PV)) (ms:List MapEntry) (j:Nat),ms.length=es.length->(∀(i:Nat) p m,es[i]?=some p->ms[i]?=some m->m.key=p.1/\mk.ok p.1)->
  (Instr.findNow (descOf mk) k ms j=some none/\gR es k=none/\∀v,jw es k v=es++[(k,v)])\/
  ∃i m p,Instr.findNow (descOf mk) k ms j=some (some (j+i,m.val))/\ms[i]?=some m/\es[i]?=some p/\p.1=k/\gR es k=some p.2/\∀v,jw es k v=es.set i (k,v):=by
 intro es
 induction es with
 | nil=>
  intro ms j hl _
  have:ms=[]:=List.eq_nil_of_length_eq_zero hl
  subst this
  exact .inl ⟨rfl,rfl,fun v=>rfl⟩
 | cons p es ih=>
  intro ms j hl NK
  cases ms with
  | nil=>cases hl
  | cons m ms=>
   obtain⟨k',u⟩:=p
   obtain⟨h1,h2⟩:=NK 0 _ _ rfl rfl
   simp only at h1 h2
   have hs:=Ca hk h2
   rw[<-h1] at hs
   cases hv:v8 k k' with
   | true=>
    refine .inr ⟨0,m,(k',u),?_,rfl,rfl,(LY hk h2 hv).symm,by simp[gR,hv],fun v=>by simp[jw,hv]⟩
    rw[h1,hv] at hs
    rw[<-h1] at hs
    simp[Instr.findNow,hs]
   | false=>
    rw[h1,hv] at hs
    rw[<-h1] at hs
    rcases ih ms (j+1) (by simpa using hl) (fun i p m hp hm=>NK (i+1) p m (by simpa using hp) (by simpa using hm)) with⟨q1,q2,q3⟩ | ⟨i,m',p,q1,q2,q3,q4,q5,q6⟩
    ·exact .inl ⟨by simp[Instr.findNow,hs,q1],by simp[gR,hv,q2],fun v=>by simp[jw,hv,q3 v]⟩
    refine .inr ⟨i+1,m',p,?_,by simpa using q2,by simpa using q3,q4,by simp[gR,hv,q5],fun v=>by simp[jw,hv,q6 v]⟩
    simp only[Instr.findNow,hs,q1]
    rw[Nat.add_assoc,Nat.add_comm 1 i]
theorem sameBits_self {mk:MK} {k:Value} (hk:mk.ok k):Instr.sameBits 10000 k k=true:=by
 cases mk with
 | str=>
  cases k <;> first | (exact hk.elim) | skip
  simp only[Instr.sameBits]
  exact (MapKept.bytes_beq _ _).2 rfl
 | int j=>
  cases k <;> first | (exact hk.elim) | skip
  simp[Instr.sameBits]
theorem Cb {A:cV} {o:Oper} (t:TypeId) (aU:o.op=.makeMap t none):gF A o:=by
 intro V L S rho s a w K next Q hC sim hV hd hq hn hnext
 simp only[bY,aU] at hq
 split at hq
 ·split at hq
  ·split at hq
   ·obtain⟨hL,hdb⟩:=hn _ _ _ hq
    have bI:=sim.new hC (o.dst.getD 0) _ (sim.nd hd) hL hdb (w.alloc (.map #[] 0)) rfl rfl rfl (by simp) (fun _=>False) (fun k hk _=>Below.heap_alloc _ _ _ hk) (fun _ h=>h.elim) (.map (some w.heap.size))
     (fun g hg=>by simp[cU] at hg;subst hg;simp) (fun T=>by
      refine⟨w.heap.size,#[],0,aO _ _ _,(MapKept.heap_alloc w _).1,rfl,by simp⟩)
    exact dP (by simp[execOp,aU,Instr.makeMap]) (hnext _ _ _ S _ _ _ hq (bI.value o.dst hd _ _ (.ow _ _ fun _=>⟨.inr rfl,(aO _ _ _).symm⟩)))
   exact hq.elim
  exact hq.elim
 exact hq.elim
theorem w8 {S:Nat->Prop} {w:World} {P:Program} {L:Nat->Prop} {rho:Nat->Value} {h:Nat->AB} {id:Nat} {mk:MK} {es:List (Value×PV)} (hh:eC S w P L rho h id (.map mk es)):
  ∃g ms clock,rho id=.map (some g)/\w.heap[g]?=some (.map ms clock)/\ms.size=es.length/\∀(i:Nat) p m,es[i]?=some p->ms[i]?=some m->m.key=p.1/\mk.ok p.1/\bu S w p.2 m.val:=hh
theorem Cc {P:Program} {t:TypeId} {ti:TI} (h:lA P t ti) (hz:B3 P t ti) (S:Nat->Prop) (w:World):∃z,(zeroValue t).run P w=.ok z w/\bu S w (t_ ti) z:=by
 obtain⟨info,z,h1,h2,h3,h4,h5,h6,h7,h8⟩:=h
 obtain⟨SH,z',g1,g2,g3⟩:=hz
 rw[h1] at g1;injection g1 with g1;subst g1
 rw[h4] at g2;injection g2 with g2;subst g2
 refine⟨z,by simp[zeroValue,typeInfo,h1,h4],?_⟩
 unfold t_
 cases sM:ti.ud.agg with
 | true=>
  rw[sM] at g3
  cases z <;> first | cases g3 | skip
  rename_i cs
  have hc:cs=ti.zero.toArray:=h5
  subst hc
  refine .ag _ _ (by simp) (fun u hu=>h7 u (by simpa using hu)) fun i c v hi hv=>?_
  rw[List.getElem?_map] at hi
  obtain⟨u,hu,rfl⟩:=Option.map_eq_some_iff.1 hi
  have:u=v:=by simpa [hu] using hv
  subst this
  exact nI S w u
 | false=>
  rw[sM] at g3
  have hc:z.cells=#[z]:=by cases z <;> first | rfl | cases g3
  rw[hc] at h5
  have:ti.zero=[z]:=by simpa using (congrArg Array.toList h5).symm
  rw[this]
  exact nI S w z
theorem ES {A:cV} {o:Oper} (t:TypeId) (x i:Operand) (ck:Bool) (aU:o.op=.lookup t x i ck):gF A o:=by
 intro V L S rho s a w K next Q hC sim hV hd hq hn hnext
 simp only[bY,aU] at hq
 have hx:=bH sim x fun j hj=>hV j (by simp[aU,Op.operands,hj])
 have hi:=bH sim i fun j hj=>hV j (by simp[aU,Op.operands,hj])
 split at hq
 case h_2=>exact hq.elim
 rename_i kt et size bytes zero eq hT
 have e_:=(hC.gE t _ hT).under
 simp only at e_
 split at hq
 case h_2=>exact hq.elim
 rename_i tk te QE rC
 split at hq
 case h_2=>exact hq.elim
 rename_i mk hmk
 have Jn:=uk (hC.gE kt tk QE) hmk
 split at hq
 case h_2=>exact hq.elim
 rename_i id hid
 split at hq
 case h_2=>exact hq.elim
 rename_i mk' es Cd
 split at hq
 case h_2=>exact hq.elim
 rename_i Jo
 obtain rfl:=GN Jo
 split at hq
 case h_2=>exact hq.elim
 rename_i k hk
 obtain⟨Pv,Xe,NL⟩:=um hk
 obtain⟨r,hr,hq⟩:=hq
 rw[hid] at hx
 obtain⟨hL,hv⟩:=hx.de (by rw[Cd];trivial)
 have hh:=sim.hp id hL
 rw[Cd] at hh
 obtain⟨g,ms,clock,h1,h2,h3,h4⟩:=w8 hh
 rw[Pv] at hi
 have hi:=hi.ca
 obtain⟨z,hz,T7⟩:=Cc (hC.gE et te rC) (hC.zs et te rC) S w
 have key:∃u,(Instr.lookup t (a.eval x) (a.eval i) ck).run A.C.P w=.ok (if ck then .tuple #[u,.bool r.isSome] else u) w/\bu S w (r.getD (t_ te)) u:=by
  rcases find_spec Xe es ms.toList 0 (by simpa using h3) (fun i p m hp hm=>by obtain⟨q1,q2,_⟩:=h4 i p m hp (by simpa using hm);exact⟨q1,q2⟩) with⟨q1,q2,_⟩ | ⟨j,m,p,q1,q2,q3,q4,q5,_⟩
  ·rw[hr] at q2
   subst q2
   refine⟨z,?_,T7⟩
   cases ck <;> simp[Instr.lookup,run_underlying e_,hv,h1,MapKept.run_getObj_map h2,hi,MapKept.run_checkKey Jn NL,MapKept.run_findKey Jn q1,hz]
  rw[hr] at q5
  subst q5
  refine⟨m.val,?_,(h4 j p m q3 (by simpa using q2)).2.2⟩
  cases ck <;> simp[Instr.lookup,run_underlying e_,hv,h1,MapKept.run_getObj_map h2,hi,MapKept.run_checkKey Jn NL,MapKept.run_findKey Jn q1]
 obtain⟨u,hrun,hu⟩:=key
 cases ck with
 | true=>
  refine a7 sim hd hnext hq (.tu _ _ rfl fun i c v hc hv=>?_) (by simp only[execOp,aU,Sem.run_bind,hrun,Result.andThen_ok,Sem.run_pure];rfl)
  match i with
  | 0=>simp at hc hv;subst hc hv;exact .p _ _ hu
  | 1=>simp at hc hv;subst hc hv;exact .p _ _ (.im _)
  | i+2=>simp at hc
 | false=>exact a7 sim hd hnext hq (.p _ _ hu) (by simp only[execOp,aU,Sem.run_bind,hrun,Result.andThen_ok,Sem.run_pure];rfl)
theorem yb {A:cV} {o:Oper} (t:TypeId) (x i y:Operand) (aU:o.op=.mapUpdate t x i y):gF A o:=by
 intro V L S rho s a w K next Q hC sim hV hd hq hn hnext
 simp only[bY,aU] at hq
 have hx:=bH sim x fun j hj=>hV j (by simp[aU,Op.operands,hj])
 have hi:=bH sim i fun j hj=>hV j (by simp[aU,Op.operands,hj])
 have hy:=bH sim y fun j hj=>hV j (by simp[aU,Op.operands,hj])
 split at hq
 case h_2=>exact hq.elim
 rename_i kt et size bytes zero eq hT
 have e_:=(hC.gE t _ hT).under
 simp only at e_
 split at hq
 case h_2=>exact hq.elim
 rename_i tk QE
 split at hq
 case h_2=>exact hq.elim
 rename_i mk hmk
 have Jn:=uk (hC.gE kt tk QE) hmk
 split at hq
 case h_2=>exact hq.elim
 rename_i id hid
 split at hq
 case h_2=>exact hq.elim
 rename_i mk' es Cd
 split at hq
 case h_2=>exact hq.elim
 rename_i Jo
 obtain rfl:=GN Jo
 split at hq
 case h_2=>exact hq.elim
 rename_i k hk
 obtain⟨Pv,Xe,NL⟩:=um hk
 obtain⟨yv,fz,S2,hq,bI,hrep,xZ,hF,zK⟩:=gm hC sim (Xd.refl s.h) hy hq
 split at hq
 case h_2=>exact hq.elim
 rename_i Jp
 have oD:app s.h fz id=.map mk es:=by rw[jP Jp];exact Cd
 rw[hid] at hx
 obtain⟨hL,hv⟩:=hx.de (by rw[Cd];trivial)
 have hh:=bI.hp id hL
 have hh:eC S2 w A.C.P L rho (app s.h fz) id (app s.h fz id):=hh
 rw[oD] at hh
 obtain⟨g,ms,clock,h1,h2,h3,h4⟩:=w8 hh
 rw[Pv] at hi
 have hi:=hi.ca
 have fin:∀KG rG,(Instr.mapUpdate t (a.eval x) (a.eval i) (a.eval y)).run A.C.P w=.ok () { w with heap:=w.heap.setIfInBounds g (.map KG rG) }->KG.size=(jw es k yv).length ->
   (∀(i:Nat) p m,(jw es k yv)[i]?=some p->KG[i]?=some m->m.key=p.1/\mk.ok p.1/\bu S2 w p.2 m.val)->o.wp A.C.P a w next Q:=by
  intro KG rG hrun hsz QF
  obtain⟨g1,g2⟩:=MapKept.heap_set (o':=.map KG rG) h2
  refine nH (w':={ w with heap:=w.heap.setIfInBounds g (.map KG rG) }) (by simp only[execOp,aU,Sem.run_bind,hrun,Result.andThen_ok,Sem.run_pure]) ?_
  have eE:=bI.write hC id hL (by show (app s.h fz id).live;rw[oD];trivial) (.map mk (jw es k yv)) (fun _ h=>by cases h) { w with heap:=w.heap.setIfInBounds g (.map KG rG) } rfl rfl rfl (by simp) (fun k hk=>g2 k fun e=>hk (by rw[h1,e];rfl)) fun T=>by
   refine⟨g,KG,rG,h1,g1,hsz,fun i p m hp hm=>?_⟩
   obtain⟨q1,q2,q3⟩:=QF i p m hp hm
   exact⟨q1,q2,q3.mono T.hS T.keep⟩
  have:=hnext _ _ _ S2 _ _ _ hq (by
   rw[cJ]
   exact eE.value o.dst hd .junk undef (.junk _))
  exact this
 rcases find_spec Xe es ms.toList 0 (by simpa using h3) (fun i p m hp hm=>by obtain⟨q1,q2,_⟩:=h4 i p m hp (by simpa using hm);exact⟨q1,q2⟩) with⟨q1,q2,q3⟩ | ⟨j,m,p,q1,q2,q3,q4,q5,q6⟩
 ·refine fin (ms.push { key:=k,val:=a.eval y,born:=clock }) (clock+1) ?_ (by rw[q3];simp[h3]) fun i p m hp hm=>?_
  ·simp[Instr.mapUpdate,run_underlying e_,hv,h1,MapKept.run_getObj_map h2,hi,MapKept.run_checkKey Jn NL,MapKept.run_findKey Jn q1,MapKept.run_setObj_map _ h2]
  rw[q3] at hp
  by_cases eL:i < es.length
  ·rw[List.getElem?_append_left eL] at hp
   rw[Array.getElem?_push_lt (by omega)] at hm
   exact h4 i p m hp (by rw[<-hm];exact Array.getElem?_eq_getElem _)
  have nK:i=es.length:=by
   have:=aP hp
   simp at this
   omega
  subst nK
  rw[<-h3] at hm
  simp at hp hm
  subst hp hm
  exact⟨rfl,Xe,hrep⟩
 have NM:ms[j]?=some m:=by simpa using q2
 have hmk:m.key=k:=by rw[<-q4];exact (h4 j p m q3 NM).1
 refine fin (ms.modify j fun e=>{ e with key:=k,val:=a.eval y }) clock ?_ (by rw[q6];simp[h3]) fun i p' m' hp hm=>?_
 ·simp[Instr.mapUpdate,run_underlying e_,hv,h1,MapKept.run_getObj_map h2,hi,MapKept.run_checkKey Jn NL,MapKept.run_findKey Jn q1,NM,hmk,Instr.keyThatStays,sameBits_self Xe,MapKept.run_setObj_map _ h2]
 rw[q6] at hp
 rw[Array.getElem?_modify] at hm
 by_cases e:j=i
 ·subst e
  rw[if_pos rfl,NM] at hm
  rw[List.getElem?_set_self (aP q3)] at hp
  simp at hp hm
  subst hp hm
  exact⟨rfl,Xe,hrep⟩
 rw[if_neg e] at hm
 rw[List.getElem?_set_ne e] at hp
 exact h4 i p' m' hp hm
theorem ok_slice {A:cV} {o:Oper} (t:TypeId) (x:Operand) (lo hi:Option Operand) (aU:o.op=.slice t x lo hi none):gF A o:=by
 intro V L S rho s a w K next Q hC sim hV hd hq hn hnext
 have old:=EM t x lo hi aU hC sim hV hd (K:=K) (Q:=Q) (next:=next)
 simp only[bY,aU] at hq
 split at hq
 case h_2=>exact old hq hnext
 rename_i id hid
 split at hq
 case h_2=>exact old hq hnext
 rename_i e' es aL
 rcases hq with hq | hq
 case inr=>exact old hq hnext
 have hx:=bH sim x fun j hj=>hV j (by simp[aU,Op.operands,hj])
 have DU:∀y,lo=some y->bF S w A.C.P L rho s.h (ev s.t y) (a.eval y):=fun y hy=>bH sim y fun j hj=>hV j (by simp[aU,Op.operands,hj,hy])
 have DV:∀y,hi=some y->bF S w A.C.P L rho s.h (ev s.t y) (a.eval y):=fun y hy=>bH sim y fun j hj=>hV j (by simp[aU,Op.operands,hj,hy])
 unfold qa at hq
 split at hq
 case h_2=>exact hq.elim
 rename_i e size bytes zero eq hT
 have e_:=(hC.gE t _ hT).under
 simp only at e_
 split at hq
 case h_2=>exact hq.elim
 rename_i wg
 obtain rfl:=gG wg
 split at hq
 case h_2=>exact hq.elim
 rename_i k m k' n h1 h2
 obtain⟨⟨h3,h4,h5⟩,hq⟩:=hq
 rw[hid] at hx
 obtain⟨hL,hv⟩:=hx.de (by rw[aL];trivial)
 have hh:=sim.hp id hL
 rw[aL] at hh
 have hh:aR A.C.P w (bu S w) e' es (rho id):=hh
 obtain⟨ie,xs,nK,hpos,hown,_⟩:=hh
 have DZ:∃ad c,rho id=.slice ad es.length c/\es.length<=c:=by
  rcases hown.2 with⟨g1,g2⟩ | ⟨g,cap,cur,g1,_,_,g2,_⟩
  ·exact⟨none,0,by rw[g1,g2],by omega⟩
  exact⟨_,cap,g1,g2⟩
 obtain⟨ad,c,DZ,hle⟩:=DZ
 have hb:=ui sim lo hi DU DV true es.length c k m k' n hle h1 h2 h3 h4 h5
 refine a7 sim hd hnext hq (.vw id _ _ _ fun e2 qe=>?_) (by simp[execOp,aU,Instr.sliceAt,Instr.slice,hv,DZ,run_underlying e_,hb,Go.sizeOf,typeInfo,nK];rfl)
 rw[aL] at qe
 injection qe with qe
 subst qe
 exact⟨hL,es.length,c,ad,ie,DZ,nK,by omega,by omega,hle,rfl⟩
theorem Flat.take {S:Nat->Prop} {w:World} {k:Nat} {es:List (List PV)} {xs:List Value} (h:Flat S w k es xs) (n:Nat) (hn:n<=es.length):Flat S w k (es.take n) (xs.take (n*k)):=by
 have NF:n*k<=es.length*k:=Nat.mul_le_mul_right _ hn
 refine⟨by rw[List.length_take,List.length_take,h.len];rw[Nat.min_eq_left NF,Nat.min_eq_left hn],fun r hr=>h.row r (List.mem_of_mem_take hr),fun u hu=>h.one u (List.mem_of_mem_take hu),fun i r j x hi hj=>?_⟩
 have tJ:=aP hi
 rw[List.length_take] at tJ
 rw[List.getElem?_take_of_lt (by omega)] at hi
 obtain⟨u,h1,h2⟩:=h.rep i r j x hi hj
 have VR:j < k:=by rw[<-h.row r (List.mem_of_getElem? hi)];exact aP hj
 refine⟨u,?_,h2⟩
 rw[List.getElem?_take_of_lt,h1]
 have:=Nat.mul_le_mul_right k (show i+1<=n by omega)
 rw[Nat.succ_mul] at this
 omega
theorem Flat.drop {S:Nat->Prop} {w:World} {k:Nat} {es:List (List PV)} {xs:List Value} (h:Flat S w k es xs) (n:Nat):Flat S w k (es.drop n) (xs.drop (n*k)):=by
 refine⟨by rw[List.length_drop,List.length_drop,h.len,Nat.sub_mul],fun r hr=>h.row r (List.mem_of_mem_drop hr),fun u hu=>h.one u (List.mem_of_mem_drop hu),fun i r j x hi hj=>?_⟩
 rw[List.getElem?_drop] at hi
 obtain⟨u,h1,h2⟩:=h.rep (n+i) r j x hi hj
 refine⟨u,?_,h2⟩
 rw[List.getElem?_drop,<-h1]
 congr 1
 rw[Nat.add_mul,Nat.add_assoc]
theorem bF.GO {S:Nat->Prop} {w:World} {P:Program} {L:Nat->Prop} {rho:Nat->Value} {h:Nat->AB} {id lo hi:Nat} {v:Value} (hx:bF S w P L rho h (.vw id lo hi) v) {e:TypeId} {es:List (List PV)} (he:h id=.row e es):
  L id/\∃n c a ti,rho id=.slice a n c/\P.info? e=some ti/\lo<=hi/\hi<=n/\n<=c/\v=.slice (if c=lo then a else a.map (·.add (lo*ti.size))) (hi - lo) (c - lo):=by
 cases hx with
 | vw _ _ _ _ hv=>exact hv e (by rw[he];rfl)
theorem GP {A:cV} {o:Oper} (c:Call) (aU:o.op=.call c) (hc:c.callee=.builtin .clear):gF A o:=by
 intro V L S rho s a w K next Q hC sim hV hd hq _ hnext
 obtain⟨callee,args,argTypes⟩:=c
 simp only at hc
 subst hc
 simp only[bY,aU,ef,eS] at hq
 split at hq
 case h_2=>exact hq.elim
 rename_i x t hargs GG
 have hx:=bH sim x fun j hj=>hV j (by simp[aU,Op.operands,Call.operands,hj];rw[<-hj];exact Array.mem_toList_iff.1 (by rw[hargs];simp))
 have e1:args=#[x]:=by rw[<-Array.toArray_toList (xs:=args),hargs]
 have e2:argTypes=#[t]:=by rw[<-Array.toArray_toList (xs:=argTypes),GG]
 subst e1 e2
 split at hq
 case h_2=>exact hq.elim
 rename_i e size bytes zero eq hT
 have e_:=(hC.gE t _ hT).under
 simp only at e_
 split at hq
 case h_2=>exact hq.elim
 rename_i ti rC
 split at hq
 case h_2=>exact hq.elim
 rename_i id lo hi hid
 split at hq
 case h_2=>exact hq.elim
 rename_i e' es aL
 split at hq
 case h_2=>exact hq.elim
 rename_i D0
 simp only[Bool.and_eq_true] at D0
 obtain⟨wg,hpos⟩:=D0
 obtain⟨⟨VS,T8⟩,hq⟩:=hq
 obtain rfl:=gG wg
 have hpos:0 < ti.size:=Nat.le_of_ble_eq_true hpos
 rw[hid] at hx
 obtain⟨hL,n,cp,ad,T9,mq,D1,_,VT,LP,hval⟩:=hx.GO aL
 have hh:=sim.hp id hL
 rw[aL] at hh
 have hh:aR A.C.P w (bu S w) e' es (rho id):=hh
 obtain⟨ie,ze,nK,we,Ng,Jl,Jm,gT⟩:=(hC.gE e' ti rC).info
 rw[nK] at D1;injection D1 with D1;subst D1
 obtain⟨xs,Gb,hown,sO⟩:=aR.flat nK hh
 have fin:∀w',(∀ty,(Builtin.clear_ #[t] ty #[a.eval x]).run A.C.P w=.ok (.tuple #[]) w')->cu A V L S rho ⟨s.t,br s.h id (.row e' (es.take lo++List.replicate (hi - lo) (ti.zero.map pB)++es.drop hi))⟩ a w'->o.wp A.C.P a w next Q:=by
  intro w' hrun cc
  exact dP (v:=.tuple #[]) (by simp[execOp,aU,resolve,invoke,builtin,hrun]) (hnext _ _ _ S _ _ _ hq (cc.value o.dst hd (.tu []) _ (.tu [] #[] rfl (by simp))))
 by_cases heq:hi=lo
 ·subst heq
  refine fin w (fun ty=>?_) ?_
  ·rw[hval,Nat.sub_self]
   cases (if cp=hi then ad else ad.map (·.add (hi*ie.size))) <;> simp[Builtin.clear_,run_underlying e_]
  rw[Nat.sub_self,List.replicate_zero,List.append_nil,List.take_append_drop,eU _ _ _ aL]
  exact sim
 rcases hown.2 with⟨g1,g2⟩ | ⟨g,cap,cur,g1,_,g3,g4,g5,g6,g7⟩
 ·exact absurd g2 (by omega)
 have KH:=mq
 rw[g1] at KH
 injection KH with r1 r2 r3
 subst r1 r2 r3
 have Qp:a.eval x=.slice (some ⟨g,lo*ie.size,none⟩) (hi - lo) (cap - lo):=by
  rw[hval,if_neg (by omega)]
  simp only[Option.map_some,Addr.add]
  split
  ·rename_i h0;rw[h0]
  simp
 have Qq:((Array.range ((hi - lo)*ti.size)).map (ti.zero.toArray[· % ti.zero.toArray.size]!))=Builtin.zeroCells ze.cells (hi - lo):=by
  unfold Builtin.zeroCells
  rw[Jm,(show ti.zero.toArray.size=ti.size by simpa using (hC.gE e' ti rC).Gr)]
 have hz:=Flat.zero S w (hC.gE e' ti rC) hpos (hi - lo)
 rw[Qq,<-we] at hz
 have iE:(Builtin.zeroCells ze.cells (hi - lo)).toList.length=(hi - lo)*ie.size:=by rw[hz.len,List.length_replicate]
 have Ce:hi*ie.size<=cap*ie.size:=Nat.mul_le_mul_right _ (by omega)
 have QG:lo*ie.size+(hi - lo)*ie.size=hi*ie.size:=by rw[<-Nat.add_mul];congr 1;omega
 have zL:=run_storeCells_at A.C.P g (lo*ie.size) e' (Builtin.zeroCells ze.cells (hi - lo)).toList 0 cur w g3 (by rw[iE,g6];omega) hz.one
 simp only[Nat.add_zero] at zL
 have ET:hi - lo≠0:=by omega
 refine fin (w.setRow g (cur.toList.take (lo*ie.size)++(Builtin.zeroCells ze.cells (hi - lo)).toList++cur.toList.drop (lo*ie.size+(Builtin.zeroCells ze.cells (hi - lo)).toList.length)).toArray) (fun ty=>?_) ?_
 ·rw[Qp]
  cases hk:hi - lo with
  | zero=>exact absurd hk ET
  | succ m=>
   rw[hk] at zL
   simp[Builtin.clear_,run_underlying e_,zeroValue,typeInfo,nK,Jl,zL]
 refine sim.write hC id hL (by rw[aL];trivial) _ (fun e2 h=>by rw[aL];exact h) _ (setRow_os w g _) (setRow_tape w g _) (setRow_output w g _) (setRow_size w g _) (fun k hk=>setRow_other w g k _ fun e=>hk (by rw[g1,e];rfl)) fun T=>?_
 show aR A.C.P _ _ e' _ (rho id)
 have hF:Flat S w ie.size (es.take lo++List.replicate (hi - lo) (ti.zero.map pB)++es.drop hi) (xs.take (lo*ie.size)++(Builtin.zeroCells ze.cells (hi - lo)).toList++xs.drop (hi*ie.size)):=((sO.take lo (by omega)).app hz).app (sO.drop hi)
 refine aR.of_flat nK Gb ?_ (hF.mono T.hS T.keep)
 have SI:(es.take lo++List.replicate (hi - lo) (ti.zero.map pB)++es.drop hi).length=es.length:=by simp;omega
 rw[SI]
 refine⟨by rw[hF.len,SI],.inr ⟨g,cap,_,g1,Nat.zero_le _,setRow_heap w g cur _ e' (0,0) g3,g4,g5,?_,?_⟩⟩
 ·rw[List.size_toArray,List.length_append,List.length_append,iE,List.length_take,List.length_drop,Array.length_toList,g6]
  omega
 rw[<-g7,iE,QG]
 have h1:lo*ie.size<=es.length*ie.size:=Nat.mul_le_mul_right _ (by omega)
 have h2:hi*ie.size<=es.length*ie.size:=Nat.mul_le_mul_right _ T8
 have h3:es.length*ie.size<=cap*ie.size:=Nat.mul_le_mul_right _ g4
 simp only[List.take_append,List.length_append,List.length_take,Array.length_toList,g6,iE,List.take_take,List.drop_take]
 rw[Nat.min_eq_left (show lo*ie.size<=cap*ie.size by omega),Nat.min_eq_left h1]
 rw[Nat.min_eq_right h1,List.take_of_length_le (l:=(Builtin.zeroCells ze.cells (hi - lo)).toList) (by rw[iE];omega)]
 rw[show es.length*ie.size - (lo*ie.size+(hi - lo)*ie.size)=es.length*ie.size - hi*ie.size by omega]
end Go.AM
