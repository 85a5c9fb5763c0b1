/- Part 13 of 14 of the proof of HouseOrdersMatchSpec (the names are shortened by a program: the size of a claim is limited). -/
import Derived.Test.YtiaifckpmefinaaGreatDoorO12
import Derived.DataShut
set_option linter.unusedVariables false
set_option linter.unusedSimpArgs false
set_option maxRecDepth 100000
set_option maxHeartbeats 8000000
namespace Go.AM
open Go.RowKit Go.ChangeShapes
section
variable {H:Type} {enc:TypeId×Value->H} {P:Program} {w:World} {S:Nat->Prop}
theorem EA {t:TypeId} (ht:P.underlying t=some .bool):A7 enc P w S t 1 fun xs d=>∃b:Bool,xs=[.im (.bool b)]:=fun n cs x h=>by
 obtain⟨b,rfl,rfl⟩:=DataW.trod_bool ht h
 exact⟨[.im (.bool b)],rfl,rfl,one_cell ⟨.im _,rfl⟩,b,rfl⟩
theorem wK {G:DataW H->Prop} {t e:TypeId} {k:Nat} {Q:List PV->DataW H->Prop} (ht:P.underlying t=some (.slice e)) (hc:P.cellsOf e=k) (hk:0 < k) (hS:∀b,b < w.heap.size->S b) (he:∀n cs x,G x.1->DataW.trod enc P w 0 (fun _=>true) true n e cs=some x->∃xs,xs.length=k/\cs.length=k/\(∀(i:Nat) c v,xs[i]?=some c->cs[i]?=some v->bu S w c v/\v.oneCell'=true)/\Q xs x.1):
  ∀n cs x,(∀es sp,x.1=.slice es sp->∀y∈es,G y)->DataW.trod enc P w 0 (fun _=>true) true n t cs=some x->∃xs,xs.length=1/\cs.length=1/\(∀(i:Nat) c v,xs[i]?=some c->cs[i]?=some v->bu S w c v/\v.oneCell'=true)/\(∃(es:List (List PV)) (ds sp:List (DataW H)),xs=[.sl es]/\es.length=ds.length/\(x.1=.nil/\ds=[]\/x.1=.slice ds sp)/\∀(i:Nat) x y,es[i]?=some x->ds[i]?=some y->Q x y):=fun n cs x hG h=>by
 rcases Go.Deep.open_slice ht h with⟨rfl,rfl⟩ | ⟨a,len,cap,m,n,D,Pl,rfl,hb,hl,hm,C9,rfl,hx⟩
 ·exact⟨[.sl []],rfl,rfl,one_cell ⟨.nil _ _,rfl⟩,[],[],[],rfl,rfl,.inl ⟨rfl,rfl⟩,fun i x y h=>by cases h⟩
 have Mr:len<=m:=by rw[C9];split <;> omega
 rcases Nat.eq_zero_or_pos len with h0 | hpos
 ·subst h0
  exact⟨[.sl []],rfl,rfl,one_cell ⟨.nil _ _,rfl⟩,[],[],_,rfl,rfl,.inr rfl,fun i x y h=>by cases h⟩
 rw[hc] at hx
 have each:∀i,i < len->∃p:List PV×List Value,p.1.length=k/\p.2.length=k/\(∀j,j < k->w.cell? ((a.add (i*k)).add j)=p.2[j]?)/\(∀(j:Nat) c v,p.1[j]?=some c->p.2[j]?=some v->bu S w c v/\v.oneCell'=true)/\Q p.1 (D i):=fun i hi=>by
  obtain⟨jF,h1,h2⟩:=hx i (by omega)
  obtain⟨_,hlen,hcell⟩:=World.cells?_some h1
  obtain⟨xs,l1,l2,l3,l4⟩:=he _ _ _ (hG _ _ rfl _ (List.mem_map.2 ⟨i,List.mem_range.2 hi,rfl⟩)) h2
  exact⟨(xs,jF),l1,l2,hcell,l3,l4⟩
 obtain⟨F,hF⟩:=Go.Deep.choose_lt (α:=List PV×List Value) each
 have get:∀(i:Nat) e,((List.range len).map fun i=>(F i).1)[i]?=some e->i < len/\e=(F i).1:=fun i e h=>by
  rw[List.getElem?_map,Option.map_eq_some_iff] at h
  obtain⟨j,hj,rfl⟩:=h
  obtain⟨h1,h2⟩:=List.getElem?_eq_some_iff.1 hj
  rw[List.getElem_range] at h2
  subst h2
  exact⟨by simpa using h1,rfl⟩
 have cellOf:∀i j,i < len->j < k->w.cell? ((a.add (i*k)).add j)=some (((F i).2[j]?).getD .nilIface):=fun i j hi hj=>by
  obtain⟨_,l2,h3,_⟩:=hF i hi
  rw[h3 j hj,List.getElem?_eq_getElem (by omega)]
  rfl
 have hz:=A8 (cellOf 0 0 hpos hk)
 obtain⟨b,off,spot⟩:=a
 have tG:spot=none:=by simpa [Addr.add] using hz.1
 subst tG
 have H_:b < w.heap.size:=by simpa [Addr.add] using hz.2
 have a7:∀i j,((⟨b,off,none⟩:Addr).add (i*k)).add j=⟨b,off+i*k+j,none⟩:=fun i j=>by
  unfold Addr.add
  by_cases h1:i*k=0
  ·rw[if_pos h1,h1]
   by_cases h2:j=0
   ·rw[if_pos h2,h2];rfl
   rw[if_neg h2];rfl
  rw[if_neg h1]
  by_cases h2:j=0
  ·rw[if_pos h2,h2];rfl
  rw[if_neg h2]
 refine⟨[.sl ((List.range len).map fun i=>(F i).1)],rfl,rfl,one_cell ⟨?_,rfl⟩,(List.range len).map fun i=>(F i).1,(List.range len).map D,_,rfl,by simp,.inr rfl,fun i x y h1 h2=>?_⟩
 ·have hlen:((List.range len).map fun i=>(F i).1).length=len:=by simp
  have:=bu.sl (S:=S) (w:=w) ((List.range len).map fun i=>(F i).1) k b off cap (fun i j=>((F i).2[j]?).getD .nilIface) (by rw[hlen];exact hl) (hS b H_)
   (fun e J1=>by obtain⟨i,hi,rfl⟩:=List.mem_map.1 J1;exact (hF i (List.mem_range.1 hi)).1)
   (fun i e j x h1 h2=>by
    obtain⟨hi,rfl⟩:=get i e h1
    have hj:j < k:=by rw[<-(hF i hi).1];exact (List.getElem?_eq_some_iff.1 h2).1
    have hv:(F i).2[j]?=some (((F i).2[j]?).getD .nilIface):=by rw[List.getElem?_eq_getElem (by rw[(hF i hi).2.1];exact hj)];rfl
    exact⟨by rw[<-a7];exact cellOf i j hi hj,((hF i hi).2.2.2.1 j x _ h2 hv).2⟩)
   (fun i e j x h1 h2=>by
    obtain⟨hi,rfl⟩:=get i e h1
    have hj:j < k:=by rw[<-(hF i hi).1];exact (List.getElem?_eq_some_iff.1 h2).1
    have hv:(F i).2[j]?=some (((F i).2[j]?).getD .nilIface):=by rw[List.getElem?_eq_getElem (by rw[(hF i hi).2.1];exact hj)];rfl
    exact ((hF i hi).2.2.2.1 j x _ h2 hv).1)
  rw[hlen] at this
  exact this
 obtain⟨hi,rfl⟩:=get i x h1
 rw[List.getElem?_map,List.getElem?_range hi] at h2
 cases h2
 exact (hF i hi).2.2.2.2
def bW (S:Nat->Prop) (w:World) (o:Nat) (xs:List PV) (cs:List Value):Prop:=∀(i:Nat) c v,xs[i]?=some c->cs[o+i]?=some v->bu S w c v/\v.oneCell'=true
theorem bW.join {o:Nat} {xs ys:List PV} {cs:List Value} (h:bW S w o xs cs) (k:bW S w (o+xs.length) ys cs):bW S w o (xs++ys) cs:=fun i c v h1 h2=>by
 by_cases e:i < xs.length
 ·rw[List.getElem?_append_left e] at h1
  exact h i c v h1 h2
 rw[List.getElem?_append_right (by omega)] at h1
 refine k (i - xs.length) c v h1 ?_
 rw[<-h2]
 congr 1
 omega
theorem nS {G:DataW H->Prop} {t:TypeId} {fs:Array Field} (ht:P.underlying t=some (.struct fs)) (ks:Nat->Nat) (hk:∀(i:Nat) (f:Field),fs[i]?=some f->P.cellsOf f.type=ks i) (Qs:Nat->List PV->DataW H->Prop) (hf:∀(i:Nat) (f:Field),fs[i]?=some f->∀n cs y,G y.1->DataW.trod enc P w 0 (fun _=>true) true n f.type cs=some y->∃xs,xs.length=ks i/\cs.length=ks i/\(∀(i:Nat) c v,xs[i]?=some c->cs[i]?=some v->bu S w c v/\v.oneCell'=true)/\Qs i xs y.1) {n:Nat} {cs:List Value} {x:DataW H×List MemPlace} (hG:∀es,x.1=.agg es->∀y∈es,G y) (h:DataW.trod enc P w 0 (fun _=>true) true n t cs=some x):
  cs.length=P.cellsOf t/\∃ds:List (DataW H),x.1=.agg ds/\ds.length=fs.size/\∀(i:Nat) (f:Field),fs[i]?=some f->∃xs d,xs.length=ks i/\bW S w f.offset xs cs/\ds[i]?=some d/\Qs i xs d:=by
 obtain⟨ys,m,_,rfl,hl,hlen,hy⟩:=DataW.trod_struct ht h
 refine⟨hl,ys.map (·.1),rfl,by rw[List.length_map,hlen],fun i f GQ=>?_⟩
 have hi:i < fs.size:=(Array.getElem?_eq_some_iff.1 GQ).1
 have GR:=hy i f GQ
 have Kw:ys[i]?=some ys[i]:=List.getElem?_eq_getElem (by omega)
 rw[Kw,hk i f GQ] at GR
 obtain⟨xs,l1,l2,l3,l4⟩:=hf i f GQ _ _ _ (hG _ rfl _ (List.mem_map.2 ⟨ys[i],List.getElem_mem _,rfl⟩)) GR
 refine⟨xs,ys[i].1,l1,fun j c v h1 h2=>l3 j c v h1 ?_,by rw[List.getElem?_map,Kw];rfl,l4⟩
 have hj:=(List.getElem?_eq_some_iff.1 h1).1
 rw[List.getElem?_take_of_lt (by omega),List.getElem?_drop]
 exact h2
theorem cN {t:TypeId} {fs:Array Field} (ht:P.underlying t=some (.struct fs)) (ks:Nat->Nat) (hk:∀(i:Nat) (f:Field),fs[i]?=some f->P.cellsOf f.type=ks i) (Qs:Nat->List PV->DataW H->Prop) (hf:∀(i:Nat) (f:Field),fs[i]?=some f->A7 enc P w S f.type (ks i) (Qs i)) {n:Nat} {cs:List Value} {x:DataW H×List MemPlace} (h:DataW.trod enc P w 0 (fun _=>true) true n t cs=some x):
  cs.length=P.cellsOf t/\∃ds:List (DataW H),x.1=.agg ds/\ds.length=fs.size/\∀(i:Nat) (f:Field),fs[i]?=some f->∃xs d,xs.length=ks i/\bW S w f.offset xs cs/\ds[i]?=some d/\Qs i xs d:=
 nS (G:=fun _=>True) ht ks hk Qs (fun i f O3 n cs y _ h=>hf i f O3 n cs y h) (fun _ _ _ _=>trivial) h
end
end Go.AM
namespace Go.Proofs.YtiaifckpmefinaaGreatDoor
namespace M
open Go.AM Go.RowKit Go.Lib
open bq (bw cv ff)
variable {H:Type} {enc:TypeId×Value->H} {w:World} {S:Nat->Prop}
def Iw (P:Program) (fs:Array Field) (ks:Nat->Nat):Bool:=(List.range fs.size).all fun i=>match fs[i]? with
 | some f=>Nat.beq (P.cellsOf f.type) (ks i)
 | none=>true
theorem dJ {P:Program} {fs:Array Field} {ks:Nat->Nat} (h:Iw P fs ks=true):∀(i:Nat) (f:Field),fs[i]?=some f->P.cellsOf f.type=ks i:=fun i f hf=>by
 have hi:=(Array.getElem?_eq_some_iff.1 hf).1
 have:=List.all_eq_true.1 h i (List.mem_range.2 hi)
 rw[hf] at this
 exact Nat.eq_of_beq_eq_true this
def UB {γ:Type} (OK:γ->Prop):γ->Nat->Prop:=fun r n=>n<=1048576->OK r
theorem Bp {γ:Type} {OK:γ->Prop}:∀r m n,m<=n->UB OK r m->UB OK r n:=fun _ _ _ h k hn=>k (Nat.le_trans h hn)
theorem nu {t:TypeId} {k:Nat} {γ:Type} {f:γ->List PV} {B B':γ->Nat->Prop} (h:Sp enc w S t k f B) (hb:∀r n,B r n->B' r n):Sp enc w S t k f B':=fun n cs x hx=>by
 obtain⟨xs,l1,l2,l3,r,e,b⟩:=h n cs x hx
 exact⟨xs,l1,l2,l3,r,e,hb _ _ b⟩
theorem us:Sp enc w S 9 1 (fun s=>[str s]) (UB bO):=nu Ii fun _ _ h hn=>Ij (Nat.le_trans h hn)
theorem ui:Sp enc w S 3 1 (fun n=>[i64 n]) (UB fun _=>True):=nu re fun _ _ _ _=>trivial
theorem GY:Sp enc w S 4 1 (fun b=>[bool b]) (UB fun _=>True):=fun n cs x h=>by
 obtain⟨xs,l1,l2,l3,b,e⟩:=EA (S:=S) Tryz.underlying4 n cs x h
 exact⟨xs,l1,l2,l3,b,e,fun _=>trivial⟩
theorem tB:Sp enc w S 52 2 (fun p:Int×Int=>[i64 p.1,i64 p.2]) (UB fun _=>True):=nu Ek fun _ _ _ _=>trivial
theorem KT:Sp enc w S 221 4 rc (UB fun _=>True):=nu Bc fun _ _ _ _=>trivial
def fp {γ:Type} (OK:γ->Prop) (l:List γ):Prop:=l.length<=1048576/\∀r∈l,OK r
theorem fR {t e:TypeId} {k:Nat} {γ:Type} {f:γ->List PV} {OK:γ->Prop} (ht:Tryz.prog.underlying t=some (.slice e)) (hc:Tryz.prog.cellsOf e=k) (hk:0 < k) (hS:∀b,b < w.heap.size->S b) (he:Sp enc w S e k f (UB OK)):Sp enc w S t 1 (fun l:List γ=>[.sl (l.map f)]) (UB (fp OK)):=
 nu (mA ht hc hk hS Bp he) fun _ _ h hn=>⟨Nat.le_trans h.1 hn,fun r hr=>h.2 r hr hn⟩
theorem Ix (hS:∀b,b < w.heap.size->S b):Sp enc w S 41 7 rl (UB nn):=nu (Ej hS) fun r n h hn=>El (wq _ _ _ hn h)
theorem Iy:Sp enc w S 229 3 gM (UB (fun x=>bO x.name)):=fun n cs x h=>by
 obtain⟨hl,ds,e,ld,q⟩:=cN (S:=S) (ks:=fun i=>match i with | _=>1) (hk:=dJ (by kernel_rfl)) (Qs:=fun i xs d=>match i with
   | 0=>∃r:ByteArray,xs=[str r]/\UB bO r (Rows.uptoBulk d)
   | 1=>∃r:Int,xs=[i64 r]/\UB (fun _=>True) r (Rows.uptoBulk d)
   | _=>∃r:Int,xs=[i64 r]/\UB (fun _=>True) r (Rows.uptoBulk d)) Tryz.underlying229 (fun i f hf=>by
  match i,hf with
  | 0,hf=>cases hf;exact us
  | 1,hf=>cases hf;exact ui
  | 2,hf=>cases hf;exact ui
  | n+3,hf=>cases hf) h
 have hl:cs.length=3:=hl.trans (by kernel_rfl)
 obtain⟨x0,c0,_,r0,i0,n0,e0,b0⟩:=q 0 _ rfl
 obtain⟨x1,c1,_,r1,i1,n1,e1,b1⟩:=q 1 _ rfl
 obtain⟨x2,c2,_,r2,i2,n2,e2,b2⟩:=q 2 _ rfl
 cases e0;cases e1;cases e2
 have rel:bW S w 0 ([str n0]++([i64 n1]++([i64 n2]))) cs:=bW.join r0 (bW.join r1 (r2))
 have j0:=bJ i0
 have j1:=bJ i1
 have j2:=bJ i2
 rw[<-e] at j0 j1 j2
 exact⟨_,rfl,hl,fun i c v h1 h2=>rel i c v h1 (by rw[Nat.zero_add];exact h2),⟨n0,n1,n2⟩,rfl,fun hn=>b0 (Nat.le_trans j0 hn)⟩
theorem Iz (hS:∀b,b < w.heap.size->S b):Sp enc w S 139 2 g_ (UB (fun x=>bO x.name/\sY x.pins)):=fun n cs x h=>by
 obtain⟨hl,ds,e,ld,q⟩:=cN (S:=S) (ks:=fun i=>match i with | _=>1) (hk:=dJ (by kernel_rfl)) (Qs:=fun i xs d=>match i with
   | 0=>∃r:ByteArray,xs=[str r]/\UB bO r (Rows.uptoBulk d)
   | _=>∃r:List cJ,xs=[.sl (r.map gM)]/\UB (fp (fun x:cJ=>bO x.name)) r (Rows.uptoBulk d)) Tryz.underlying139 (fun i f hf=>by
  match i,hf with
  | 0,hf=>cases hf;exact us
  | 1,hf=>cases hf;exact fR (k:=3) Tryz.underlying137 (by kernel_rfl) (by decide) hS (Iy)
  | n+2,hf=>cases hf) h
 have hl:cs.length=2:=hl.trans (by kernel_rfl)
 obtain⟨x0,c0,_,r0,i0,n0,e0,b0⟩:=q 0 _ rfl
 obtain⟨x1,c1,_,r1,i1,n1,e1,b1⟩:=q 1 _ rfl
 cases e0;cases e1
 have rel:bW S w 0 ([str n0]++([.sl (n1.map gM)])) cs:=bW.join r0 (r1)
 have j0:=bJ i0
 have j1:=bJ i1
 rw[<-e] at j0 j1
 exact⟨_,rfl,hl,fun i c v h1 h2=>rel i c v h1 (by rw[Nat.zero_add];exact h2),⟨n0,n1⟩,rfl,fun hn=>⟨b0 (Nat.le_trans j0 hn),b1 (Nat.le_trans j1 hn)⟩⟩
theorem IA:Sp enc w S 215 2 kb (UB (fun x=>bO x.name/\bO x.type)):=fun n cs x h=>by
 obtain⟨hl,ds,e,ld,q⟩:=cN (S:=S) (ks:=fun i=>match i with | _=>1) (hk:=dJ (by kernel_rfl)) (Qs:=fun i xs d=>match i with
   | 0=>∃r:ByteArray,xs=[str r]/\UB bO r (Rows.uptoBulk d)
   | _=>∃r:ByteArray,xs=[str r]/\UB bO r (Rows.uptoBulk d)) Tryz.underlying215 (fun i f hf=>by
  match i,hf with
  | 0,hf=>cases hf;exact us
  | 1,hf=>cases hf;exact us
  | n+2,hf=>cases hf) h
 have hl:cs.length=2:=hl.trans (by kernel_rfl)
 obtain⟨x0,c0,_,r0,i0,n0,e0,b0⟩:=q 0 _ rfl
 obtain⟨x1,c1,_,r1,i1,n1,e1,b1⟩:=q 1 _ rfl
 cases e0;cases e1
 have rel:bW S w 0 ([str n0]++([str n1])) cs:=bW.join r0 (r1)
 have j0:=bJ i0
 have j1:=bJ i1
 rw[<-e] at j0 j1
 exact⟨_,rfl,hl,fun i c v h1 h2=>rel i c v h1 (by rw[Nat.zero_add];exact h2),⟨n0,n1⟩,rfl,fun hn=>⟨b0 (Nat.le_trans j0 hn),b1 (Nat.le_trans j1 hn)⟩⟩
theorem KU:Sp enc w S 197 2 kL (UB (fun _=>True)):=fun n cs x h=>by
 obtain⟨hl,ds,e,ld,q⟩:=cN (S:=S) (ks:=fun i=>match i with | _=>1) (hk:=dJ (by kernel_rfl)) (Qs:=fun i xs d=>match i with
   | 0=>∃r:ByteArray,xs=[str r]/\UB bO r (Rows.uptoBulk d)
   | _=>∃r:ByteArray,xs=[str r]/\UB bO r (Rows.uptoBulk d)) Tryz.underlying197 (fun i f hf=>by
  match i,hf with
  | 0,hf=>cases hf;exact us
  | 1,hf=>cases hf;exact us
  | n+2,hf=>cases hf) h
 have hl:cs.length=2:=hl.trans (by kernel_rfl)
 obtain⟨x0,c0,_,r0,i0,n0,e0,b0⟩:=q 0 _ rfl
 obtain⟨x1,c1,_,r1,i1,n1,e1,b1⟩:=q 1 _ rfl
 cases e0;cases e1
 have rel:bW S w 0 ([str n0]++([str n1])) cs:=bW.join r0 (r1)
 have j0:=bJ i0
 have j1:=bJ i1
 rw[<-e] at j0 j1
 exact⟨_,rfl,hl,fun i c v h1 h2=>rel i c v h1 (by rw[Nat.zero_add];exact h2),⟨n0,n1⟩,rfl,fun hn=>trivial⟩
theorem KV (hS:∀b,b < w.heap.size->S b):Sp enc w S 194 3 s4 (UB (fun n=>bO n.name/\n.pins.length<=1048576/\n.ports.length<=1048576)):=fun n cs x h=>by
 obtain⟨hl,ds,e,ld,q⟩:=cN (S:=S) (ks:=fun i=>match i with | _=>1) (hk:=dJ (by kernel_rfl)) (Qs:=fun i xs d=>match i with
   | 0=>∃r:ByteArray,xs=[str r]/\UB bO r (Rows.uptoBulk d)
   | 1=>∃r:List jJ,xs=[.sl (r.map kL)]/\UB (fp (fun _=>True)) r (Rows.uptoBulk d)
   | _=>∃r:List ByteArray,xs=[strs r]/\UB (fp bO) r (Rows.uptoBulk d)) Tryz.underlying194 (fun i f hf=>by
  match i,hf with
  | 0,hf=>cases hf;exact us
  | 1,hf=>cases hf;exact fR (k:=2) Tryz.underlying191 (by kernel_rfl) (by decide) hS (KU)
  | 2,hf=>cases hf;exact fR (k:=1) Tryz.underlying192 (by kernel_rfl) (by decide) hS us
  | n+3,hf=>cases hf) h
 have hl:cs.length=3:=hl.trans (by kernel_rfl)
 obtain⟨x0,c0,_,r0,i0,n0,e0,b0⟩:=q 0 _ rfl
 obtain⟨x1,c1,_,r1,i1,n1,e1,b1⟩:=q 1 _ rfl
 obtain⟨x2,c2,_,r2,i2,n2,e2,b2⟩:=q 2 _ rfl
 cases e0;cases e1;cases e2
 have rel:bW S w 0 ([str n0]++([.sl (n1.map kL)]++([strs n2]))) cs:=bW.join r0 (bW.join r1 (r2))
 have j0:=bJ i0
 have j1:=bJ i1
 have j2:=bJ i2
 rw[<-e] at j0 j1 j2
 exact⟨_,rfl,hl,fun i c v h1 h2=>rel i c v h1 (by rw[Nat.zero_add];exact h2),⟨n0,n1,n2⟩,rfl,fun hn=>⟨b0 (Nat.le_trans j0 hn),(b1 (Nat.le_trans j1 hn)).1,(b2 (Nat.le_trans j2 hn)).1⟩⟩
theorem IB (hS:∀b,b < w.heap.size->S b):Sp enc w S 26 2 yC (UB qg):=fun n cs x h=>by
 obtain⟨hl,ds,e,ld,q⟩:=cN (S:=S) (ks:=fun i=>match i with | _=>1) (hk:=dJ (by kernel_rfl)) (Qs:=fun i xs d=>match i with
   | 0=>∃r:List Part,xs=[.sl (r.map kb)]/\UB (fp (fun x:Part=>bO x.name/\bO x.type)) r (Rows.uptoBulk d)
   | _=>∃r:List Net,xs=[.sl (r.map s4)]/\UB (fp (fun n:Net=>bO n.name/\n.pins.length<=1048576/\n.ports.length<=1048576)) r (Rows.uptoBulk d)) Tryz.underlying26 (fun i f hf=>by
  match i,hf with
  | 0,hf=>cases hf;exact fR (k:=2) Tryz.underlying23 (by kernel_rfl) (by decide) hS (IA)
  | 1,hf=>cases hf;exact fR (k:=3) Tryz.underlying24 (by kernel_rfl) (by decide) hS (KV hS)
  | n+2,hf=>cases hf) h
 have hl:cs.length=2:=hl.trans (by kernel_rfl)
 obtain⟨x0,c0,_,r0,i0,n0,e0,b0⟩:=q 0 _ rfl
 obtain⟨x1,c1,_,r1,i1,n1,e1,b1⟩:=q 1 _ rfl
 cases e0;cases e1
 have rel:bW S w 0 ([.sl (n0.map kb)]++([.sl (n1.map s4)])) cs:=bW.join r0 (r1)
 have j0:=bJ i0
 have j1:=bJ i1
 rw[<-e] at j0 j1
 exact⟨_,rfl,hl,fun i c v h1 h2=>rel i c v h1 (by rw[Nat.zero_add];exact h2),⟨n0,n1⟩,rfl,fun hn=>⟨b0 (Nat.le_trans j0 hn),b1 (Nat.le_trans j1 hn)⟩⟩
theorem KW:Sp enc w S 187 4 jT (UB (fun x=>bO x.name)):=fun n cs x h=>by
 obtain⟨hl,ds,e,ld,q⟩:=cN (S:=S) (ks:=fun i=>match i with | _=>1) (hk:=dJ (by kernel_rfl)) (Qs:=fun i xs d=>match i with
   | 0=>∃r:ByteArray,xs=[str r]/\UB bO r (Rows.uptoBulk d)
   | 1=>∃r:Int,xs=[i64 r]/\UB (fun _=>True) r (Rows.uptoBulk d)
   | 2=>∃r:Int,xs=[i64 r]/\UB (fun _=>True) r (Rows.uptoBulk d)
   | _=>∃r:Int,xs=[i64 r]/\UB (fun _=>True) r (Rows.uptoBulk d)) Tryz.underlying187 (fun i f hf=>by
  match i,hf with
  | 0,hf=>cases hf;exact us
  | 1,hf=>cases hf;exact ui
  | 2,hf=>cases hf;exact ui
  | 3,hf=>cases hf;exact ui
  | n+4,hf=>cases hf) h
 have hl:cs.length=4:=hl.trans (by kernel_rfl)
 obtain⟨x0,c0,_,r0,i0,n0,e0,b0⟩:=q 0 _ rfl
 obtain⟨x1,c1,_,r1,i1,n1,e1,b1⟩:=q 1 _ rfl
 obtain⟨x2,c2,_,r2,i2,n2,e2,b2⟩:=q 2 _ rfl
 obtain⟨x3,c3,_,r3,i3,n3,e3,b3⟩:=q 3 _ rfl
 cases e0;cases e1;cases e2;cases e3
 have rel:bW S w 0 ([str n0]++([i64 n1]++([i64 n2]++([i64 n3])))) cs:=bW.join r0 (bW.join r1 (bW.join r2 (r3)))
 have j0:=bJ i0
 have j1:=bJ i1
 have j2:=bJ i2
 have j3:=bJ i3
 rw[<-e] at j0 j1 j2 j3
 exact⟨_,rfl,hl,fun i c v h1 h2=>rel i c v h1 (by rw[Nat.zero_add];exact h2),⟨n0,n1,n2,n3⟩,rfl,fun hn=>b0 (Nat.le_trans j0 hn)⟩
theorem KX:Sp enc w S 121 2 jf (UB (fun x=>bO x.name/\bO x.mat)):=fun n cs x h=>by
 obtain⟨hl,ds,e,ld,q⟩:=cN (S:=S) (ks:=fun i=>match i with | _=>1) (hk:=dJ (by kernel_rfl)) (Qs:=fun i xs d=>match i with
   | 0=>∃r:ByteArray,xs=[str r]/\UB bO r (Rows.uptoBulk d)
   | _=>∃r:ByteArray,xs=[str r]/\UB bO r (Rows.uptoBulk d)) Tryz.underlying121 (fun i f hf=>by
  match i,hf with
  | 0,hf=>cases hf;exact us
  | 1,hf=>cases hf;exact us
  | n+2,hf=>cases hf) h
 have hl:cs.length=2:=hl.trans (by kernel_rfl)
 obtain⟨x0,c0,_,r0,i0,n0,e0,b0⟩:=q 0 _ rfl
 obtain⟨x1,c1,_,r1,i1,n1,e1,b1⟩:=q 1 _ rfl
 cases e0;cases e1
 have rel:bW S w 0 ([str n0]++([str n1])) cs:=bW.join r0 (r1)
 have j0:=bJ i0
 have j1:=bJ i1
 rw[<-e] at j0 j1
 exact⟨_,rfl,hl,fun i c v h1 h2=>rel i c v h1 (by rw[Nat.zero_add];exact h2),⟨n0,n1⟩,rfl,fun hn=>⟨b0 (Nat.le_trans j0 hn),b1 (Nat.le_trans j1 hn)⟩⟩
theorem IC (hS:∀b,b < w.heap.size->S b):Sp enc w S 125 2 ug (UB wA):=fun n cs x h=>by
 obtain⟨hl,ds,e,ld,q⟩:=cN (S:=S) (ks:=fun i=>match i with | _=>1) (hk:=dJ (by kernel_rfl)) (Qs:=fun i xs d=>match i with
   | 0=>∃r:ByteArray,xs=[str r]/\UB bO r (Rows.uptoBulk d)
   | _=>∃r:List bw,xs=[cd r]/\UB (fp fun _=>True) r (Rows.uptoBulk d)) Tryz.underlying125 (fun i f hf=>by
  match i,hf with
  | 0,hf=>cases hf;exact us
  | 1,hf=>cases hf;exact fR (k:=4) Tryz.underlying123 (by kernel_rfl) (by decide) hS KT
  | n+2,hf=>cases hf) h
 have hl:cs.length=2:=hl.trans (by kernel_rfl)
 obtain⟨x0,c0,_,r0,i0,n0,e0,b0⟩:=q 0 _ rfl
 obtain⟨x1,c1,_,r1,i1,n1,e1,b1⟩:=q 1 _ rfl
 cases e0;cases e1
 have rel:bW S w 0 ([str n0]++([cd n1])) cs:=bW.join r0 (r1)
 have j0:=bJ i0
 have j1:=bJ i1
 rw[<-e] at j0 j1
 exact⟨_,rfl,hl,fun i c v h1 h2=>rel i c v h1 (by rw[Nat.zero_add];exact h2),⟨n0,n1⟩,rfl,fun hn=>⟨b0 (Nat.le_trans j0 hn),(b1 (Nat.le_trans j1 hn)).1⟩⟩
theorem ID:Sp enc w S 95 6 Cv (UB (fun _=>True)):=fun n cs x h=>by
 obtain⟨hl,ds,e,ld,q⟩:=cN (S:=S) (ks:=fun i=>match i with | 0=>2 | _=>1) (hk:=dJ (by kernel_rfl)) (Qs:=fun i xs d=>match i with
   | 0=>∃r:Int×Int,xs=[i64 r.1,i64 r.2]/\UB (fun _=>True) r (Rows.uptoBulk d)
   | 1=>∃r:Int,xs=[i64 r]/\UB (fun _=>True) r (Rows.uptoBulk d)
   | 2=>∃r:Int,xs=[i64 r]/\UB (fun _=>True) r (Rows.uptoBulk d)
   | 3=>∃r:Int,xs=[i64 r]/\UB (fun _=>True) r (Rows.uptoBulk d)
   | _=>∃r:Bool,xs=[bool r]/\UB (fun _=>True) r (Rows.uptoBulk d)) Tryz.underlying95 (fun i f hf=>by
  match i,hf with
  | 0,hf=>cases hf;exact tB
  | 1,hf=>cases hf;exact ui
  | 2,hf=>cases hf;exact ui
  | 3,hf=>cases hf;exact ui
  | 4,hf=>cases hf;exact GY
  | n+5,hf=>cases hf) h
 have hl:cs.length=6:=hl.trans (by kernel_rfl)
 obtain⟨x0,c0,_,r0,i0,n0,e0,b0⟩:=q 0 _ rfl
 obtain⟨x1,c1,_,r1,i1,n1,e1,b1⟩:=q 1 _ rfl
 obtain⟨x2,c2,_,r2,i2,n2,e2,b2⟩:=q 2 _ rfl
 obtain⟨x3,c3,_,r3,i3,n3,e3,b3⟩:=q 3 _ rfl
 obtain⟨x4,c4,_,r4,i4,n4,e4,b4⟩:=q 4 _ rfl
 cases e0;cases e1;cases e2;cases e3;cases e4
 have rel:bW S w 0 ([i64 n0.1,i64 n0.2]++([i64 n1]++([i64 n2]++([i64 n3]++([bool n4]))))) cs:=bW.join r0 (bW.join r1 (bW.join r2 (bW.join r3 (r4))))
 have j0:=bJ i0
 have j1:=bJ i1
 have j2:=bJ i2
 have j3:=bJ i3
 have j4:=bJ i4
 rw[<-e] at j0 j1 j2 j3 j4
 exact⟨_,rfl,hl,fun i c v h1 h2=>rel i c v h1 (by rw[Nat.zero_add];exact h2),⟨n0.1,n0.2,n1,n2,n3,n4⟩,rfl,fun hn=>trivial⟩
theorem IE:Sp enc w S 206 5 mF (UB (fun x=>bO x.name/\bO x.nozzle)):=fun n cs x h=>by
 obtain⟨hl,ds,e,ld,q⟩:=cN (S:=S) (ks:=fun i=>match i with | _=>1) (hk:=dJ (by kernel_rfl)) (Qs:=fun i xs d=>match i with
   | 0=>∃r:ByteArray,xs=[str r]/\UB bO r (Rows.uptoBulk d)
   | 1=>∃r:Int,xs=[i64 r]/\UB (fun _=>True) r (Rows.uptoBulk d)
   | 2=>∃r:Int,xs=[i64 r]/\UB (fun _=>True) r (Rows.uptoBulk d)
   | 3=>∃r:Int,xs=[i64 r]/\UB (fun _=>True) r (Rows.uptoBulk d)
   | _=>∃r:ByteArray,xs=[str r]/\UB bO r (Rows.uptoBulk d)) Tryz.underlying206 (fun i f hf=>by
  match i,hf with
  | 0,hf=>cases hf;exact us
  | 1,hf=>cases hf;exact ui
  | 2,hf=>cases hf;exact ui
  | 3,hf=>cases hf;exact ui
  | 4,hf=>cases hf;exact us
  | n+5,hf=>cases hf) h
 have hl:cs.length=5:=hl.trans (by kernel_rfl)
 obtain⟨x0,c0,_,r0,i0,n0,e0,b0⟩:=q 0 _ rfl
 obtain⟨x1,c1,_,r1,i1,n1,e1,b1⟩:=q 1 _ rfl
 obtain⟨x2,c2,_,r2,i2,n2,e2,b2⟩:=q 2 _ rfl
 obtain⟨x3,c3,_,r3,i3,n3,e3,b3⟩:=q 3 _ rfl
 obtain⟨x4,c4,_,r4,i4,n4,e4,b4⟩:=q 4 _ rfl
 cases e0;cases e1;cases e2;cases e3;cases e4
 have rel:bW S w 0 ([str n0]++([i64 n1]++([i64 n2]++([i64 n3]++([str n4]))))) cs:=bW.join r0 (bW.join r1 (bW.join r2 (bW.join r3 (r4))))
 have j0:=bJ i0
 have j1:=bJ i1
 have j2:=bJ i2
 have j3:=bJ i3
 have j4:=bJ i4
 rw[<-e] at j0 j1 j2 j3 j4
 exact⟨_,rfl,hl,fun i c v h1 h2=>rel i c v h1 (by rw[Nat.zero_add];exact h2),⟨n0,n1,n2,n3,n4⟩,rfl,fun hn=>⟨b0 (Nat.le_trans j0 hn),b4 (Nat.le_trans j4 hn)⟩⟩
theorem F8:Sp enc w S 132 6 lY (UB (fun x=>bO x.part/\bO x.type)):=fun n cs x h=>by
 obtain⟨hl,ds,e,ld,q⟩:=cN (S:=S) (ks:=fun i=>match i with | 2=>2 | _=>1) (hk:=dJ (by kernel_rfl)) (Qs:=fun i xs d=>match i with
   | 0=>∃r:ByteArray,xs=[str r]/\UB bO r (Rows.uptoBulk d)
   | 1=>∃r:ByteArray,xs=[str r]/\UB bO r (Rows.uptoBulk d)
   | 2=>∃r:Int×Int,xs=[i64 r.1,i64 r.2]/\UB (fun _=>True) r (Rows.uptoBulk d)
   | 3=>∃r:Int,xs=[i64 r]/\UB (fun _=>True) r (Rows.uptoBulk d)
   | _=>∃r:Bool,xs=[bool r]/\UB (fun _=>True) r (Rows.uptoBulk d)) Tryz.underlying132 (fun i f hf=>by
  match i,hf with
  | 0,hf=>cases hf;exact us
  | 1,hf=>cases hf;exact us
  | 2,hf=>cases hf;exact tB
  | 3,hf=>cases hf;exact ui
  | 4,hf=>cases hf;exact GY
  | n+5,hf=>cases hf) h
 have hl:cs.length=6:=hl.trans (by kernel_rfl)
 obtain⟨x0,c0,_,r0,i0,n0,e0,b0⟩:=q 0 _ rfl
 obtain⟨x1,c1,_,r1,i1,n1,e1,b1⟩:=q 1 _ rfl
 obtain⟨x2,c2,_,r2,i2,n2,e2,b2⟩:=q 2 _ rfl
 obtain⟨x3,c3,_,r3,i3,n3,e3,b3⟩:=q 3 _ rfl
 obtain⟨x4,c4,_,r4,i4,n4,e4,b4⟩:=q 4 _ rfl
 cases e0;cases e1;cases e2;cases e3;cases e4
 have rel:bW S w 0 ([str n0]++([str n1]++([i64 n2.1,i64 n2.2]++([i64 n3]++([bool n4]))))) cs:=bW.join r0 (bW.join r1 (bW.join r2 (bW.join r3 (r4))))
 have j0:=bJ i0
 have j1:=bJ i1
 have j2:=bJ i2
 have j3:=bJ i3
 have j4:=bJ i4
 rw[<-e] at j0 j1 j2 j3 j4
 exact⟨_,rfl,hl,fun i c v h1 h2=>rel i c v h1 (by rw[Nat.zero_add];exact h2),⟨n0,n1,n2.1,n2.2,n3,n4⟩,rfl,fun hn=>⟨b0 (Nat.le_trans j0 hn),b1 (Nat.le_trans j1 hn)⟩⟩
theorem IF:Sp enc w S 142 3 gW (UB (fun s=>bO s.pin)):=fun n cs x h=>by
 obtain⟨hl,ds,e,ld,q⟩:=cN (S:=S) (ks:=fun i=>match i with | 1=>2 | _=>1) (hk:=dJ (by kernel_rfl)) (Qs:=fun i xs d=>match i with
   | 0=>∃r:ByteArray,xs=[str r]/\UB bO r (Rows.uptoBulk d)
   | _=>∃r:Int×Int,xs=[i64 r.1,i64 r.2]/\UB (fun _=>True) r (Rows.uptoBulk d)) Tryz.underlying142 (fun i f hf=>by
  match i,hf with
  | 0,hf=>cases hf;exact us
  | 1,hf=>cases hf;exact tB
  | n+2,hf=>cases hf) h
 have hl:cs.length=3:=hl.trans (by kernel_rfl)
 obtain⟨x0,c0,_,r0,i0,n0,e0,b0⟩:=q 0 _ rfl
 obtain⟨x1,c1,_,r1,i1,n1,e1,b1⟩:=q 1 _ rfl
 cases e0;cases e1
 have rel:bW S w 0 ([str n0]++([i64 n1.1,i64 n1.2])) cs:=bW.join r0 (r1)
 have j0:=bJ i0
 have j1:=bJ i1
 rw[<-e] at j0 j1
 exact⟨_,rfl,hl,fun i c v h1 h2=>rel i c v h1 (by rw[Nat.zero_add];exact h2),⟨n0,n1.1,n1.2⟩,rfl,fun hn=>b0 (Nat.le_trans j0 hn)⟩
theorem IG (hS:∀b,b < w.heap.size->S b):Sp enc w S 136 2 tv (UB (fun f=>bO f.type/\f.spots.length<=1048576/\∀s∈f.spots,bO s.pin)):=fun n cs x h=>by
 obtain⟨hl,ds,e,ld,q⟩:=cN (S:=S) (ks:=fun i=>match i with | _=>1) (hk:=dJ (by kernel_rfl)) (Qs:=fun i xs d=>match i with
   | 0=>∃r:ByteArray,xs=[str r]/\UB bO r (Rows.uptoBulk d)
   | _=>∃r:List gC,xs=[.sl (r.map gW)]/\UB (fp (fun s:gC=>bO s.pin)) r (Rows.uptoBulk d)) Tryz.underlying136 (fun i f hf=>by
  match i,hf with
  | 0,hf=>cases hf;exact us
  | 1,hf=>cases hf;exact fR (k:=3) Tryz.underlying134 (by kernel_rfl) (by decide) hS (IF)
  | n+2,hf=>cases hf) h
 have hl:cs.length=2:=hl.trans (by kernel_rfl)
 obtain⟨x0,c0,_,r0,i0,n0,e0,b0⟩:=q 0 _ rfl
 obtain⟨x1,c1,_,r1,i1,n1,e1,b1⟩:=q 1 _ rfl
 cases e0;cases e1
 have rel:bW S w 0 ([str n0]++([.sl (n1.map gW)])) cs:=bW.join r0 (r1)
 have j0:=bJ i0
 have j1:=bJ i1
 rw[<-e] at j0 j1
 exact⟨_,rfl,hl,fun i c v h1 h2=>rel i c v h1 (by rw[Nat.zero_add];exact h2),⟨n0,n1⟩,rfl,fun hn=>⟨b0 (Nat.le_trans j0 hn),(b1 (Nat.le_trans j1 hn)).1,(b1 (Nat.le_trans j1 hn)).2⟩⟩
def pA:List (fL×Steps)->Steps
 | []=>.nil
 | (s,u)::r=>.cons s u (pA r)
theorem lE:∀l:List (fL×Steps),(pA l).rows=l.map fun x=>kM x.1 x.2.rows
 | []=>rfl
 | (s,u)::r=>by rw[pA,Steps.rows,lE r];rfl
def GZ (x:fL×Steps):Prop:=lB x.1/\x.2.rows.length<=1048576/\x.2.ok
theorem tC:∀l:List (fL×Steps),(∀x∈l,GZ x)->(pA l).ok
 | [],_=>trivial
 | (s,u)::r,h=>by
  obtain⟨h1,h2,h3⟩:=h (s,u) List.mem_cons_self
  exact⟨h1,h2,h3,tC r fun x hx=>h x (List.mem_cons_of_mem _ hx)⟩
def rK (u:Steps):Prop:=u.rows.length<=1048576/\u.ok
theorem Am (hS:∀b,b < w.heap.size->S b):∀(N n:Nat) (cs:List Value) (x:DataW H×List MemPlace),SizeOf.sizeOf x.1 < N->DataW.trod enc Tryz.prog w 0 (fun _=>true) true n 31 cs=some x->∃xs,xs.length=1/\cs.length=1/\(∀(i:Nat) c v,xs[i]?=some c->cs[i]?=some v->bu S w c v/\v.oneCell'=true)/\∃u:Steps,xs=[.sl u.rows]/\UB rK u (Rows.uptoBulk x.1):=by
 intro N
 induction N with
 | zero=>intro n cs x h;omega
 | succ N ih=>
  intro n cs x hN h
  obtain⟨xs,l1,l2,l3,es,ds,Pw,e1,hl,hd,q⟩:=wK (S:=S) (k:=8) (G:=fun y=>SizeOf.sizeOf y < N) (Q:=fun xs d=>∃r:fL×Steps,xs=kM r.1 r.2.rows/\UB GZ r (Rows.uptoBulk d)) Tryz.underlying31 (by kernel_rfl) (by decide) hS (fun n cs x hx h=>by
   obtain⟨hl,ds,e,ld,q⟩:=nS (S:=S) (G:=fun y=>SizeOf.sizeOf y < N) (ks:=fun i=>match i with | 2=>2 | _=>1) (hk:=dJ (by kernel_rfl)) (Qs:=fun i xs d=>match i with
     | 0=>∃r:Int,xs=[i64 r]/\UB (fun _=>True) r (Rows.uptoBulk d)
     | 1=>∃r:ByteArray,xs=[str r]/\UB bO r (Rows.uptoBulk d)
     | 2=>∃r:Int×Int,xs=[i64 r.1,i64 r.2]/\UB (fun _=>True) r (Rows.uptoBulk d)
     | 3=>∃r:List (Int×Int),xs=[.sl (r.map fun p=>[i64 p.1,i64 p.2])]/\UB (fp fun _=>True) r (Rows.uptoBulk d)
     | 4=>∃r:Int,xs=[i64 r]/\UB (fun _=>True) r (Rows.uptoBulk d)
     | 5=>∃r:Int,xs=[i64 r]/\UB (fun _=>True) r (Rows.uptoBulk d)
     | _=>∃u:Steps,xs=[.sl u.rows]/\UB rK u (Rows.uptoBulk d)) Tryz.underlying224 (fun i f hf n cs y hy h=>by
    match i,hf with
    | 0,hf=>cases hf;exact ui n cs y h
    | 1,hf=>cases hf;exact us n cs y h
    | 2,hf=>cases hf;exact tB n cs y h
    | 3,hf=>cases hf;exact fR (k:=2) Tryz.underlying222 (by kernel_rfl) (by decide) hS tB n cs y h
    | 4,hf=>cases hf;exact ui n cs y h
    | 5,hf=>cases hf;exact ui n cs y h
    | 6,hf=>cases hf;exact ih n cs y hy h
    | n+7,hf=>cases hf) (fun es he y hy=>by
     have h1:=List.sizeOf_lt_of_mem hy
     have h2:SizeOf.sizeOf x.1=1+SizeOf.sizeOf es:=by rw[he];simp
     omega) h
   have hl:cs.length=8:=hl.trans (by kernel_rfl)
   obtain⟨x0,c0,_,r0,i0,n0,e0,b0⟩:=q 0 _ rfl
   obtain⟨x1,c1,_,r1,i1,n1,e1,b1⟩:=q 1 _ rfl
   obtain⟨x2,c2,_,r2,i2,n2,e2,b2⟩:=q 2 _ rfl
   obtain⟨x3,c3,_,r3,i3,n3,e3,b3⟩:=q 3 _ rfl
   obtain⟨x4,c4,_,r4,i4,n4,e4,b4⟩:=q 4 _ rfl
   obtain⟨x5,c5,_,r5,i5,n5,e5,b5⟩:=q 5 _ rfl
   obtain⟨x6,c6,_,r6,i6,n6,e6,b6⟩:=q 6 _ rfl
   cases e0;cases e1;cases e2;cases e3;cases e4;cases e5;cases e6
   have rel:bW S w 0 ([i64 n0]++([str n1]++([i64 n2.1,i64 n2.2]++([.sl (n3.map fun p=>[i64 p.1,i64 p.2])]++([i64 n4]++([i64 n5]++[.sl n6.rows])))))) cs:=bW.join r0 (bW.join r1 (bW.join r2 (bW.join r3 (bW.join r4 (bW.join r5 r6)))))
   have j1:=bJ i1
   have j3:=bJ i3
   have j6:=bJ i6
   rw[<-e] at j1 j3 j6
   exact⟨_,rfl,hl,fun i c v h1 h2=>rel i c v h1 (by rw[Nat.zero_add];exact h2),(⟨n0,n1,n2.1,n2.2,n3,n4,n5⟩,n6),rfl,fun hn=>⟨⟨b1 (Nat.le_trans j1 hn),(b3 (Nat.le_trans j3 hn)).1⟩,(b6 (Nat.le_trans j6 hn)).1,(b6 (Nat.le_trans j6 hn)).2⟩⟩) n cs x (fun es sp he y hy=>by
    have h1:=List.sizeOf_lt_of_mem hy
    have h2:SizeOf.sizeOf x.1=1+SizeOf.sizeOf es+SizeOf.sizeOf sp:=by rw[he];simp
    omega) h
  obtain⟨l,rfl,b1,b2⟩:=wo (f:=fun r:fL×Steps=>kM r.1 r.2.rows) Bp hl q
  have hb:Rows.uptoBulkAll ds<=Rows.uptoBulk x.1:=by
   rcases hd with⟨h1,h2⟩ | h1
   ·rw[h2];exact Nat.zero_le _
   rw[h1];simp only[Rows.uptoBulk];omega
  refine⟨xs,l1,l2,l3,pA l,by rw[e1,lE],fun hn=>⟨?_,tC l fun r hr=>b2 r hr (Nat.le_trans hb hn)⟩⟩
  rw[lE,List.length_map]
  omega
theorem F9 (hS:∀b,b < w.heap.size->S b):Sp enc w S 31 1 (fun u:Steps=>[.sl u.rows]) (UB rK):=fun n cs x h=>Am hS _ n cs x (Nat.lt_succ_self _) h
theorem EB (hS:∀b,b < w.heap.size->S b):Sp enc w S 33 3 cS (UB mK):=fun n cs x h=>by
 obtain⟨hl,ds,e,ld,q⟩:=cN (S:=S) (ks:=fun i=>match i with | _=>1) (hk:=dJ (by kernel_rfl)) (Qs:=fun i xs d=>match i with
   | 0=>∃r:Int,xs=[i64 r]/\UB (fun _=>True) r (Rows.uptoBulk d)
   | 1=>∃r:List da,xs=[.sl (r.map ug)]/\UB (fp wA) r (Rows.uptoBulk d)
   | _=>∃r:Steps,xs=[.sl r.rows]/\UB rK r (Rows.uptoBulk d)) Tryz.underlying33 (fun i f hf=>by
  match i,hf with
  | 0,hf=>cases hf;exact ui
  | 1,hf=>cases hf;exact fR (k:=2) Tryz.underlying30 (by kernel_rfl) (by decide) hS (IC hS)
  | 2,hf=>cases hf;exact F9 hS
  | n+3,hf=>cases hf) h
 have hl:cs.length=3:=hl.trans (by kernel_rfl)
 obtain⟨x0,c0,_,r0,i0,n0,e0,b0⟩:=q 0 _ rfl
 obtain⟨x1,c1,_,r1,i1,n1,e1,b1⟩:=q 1 _ rfl
 obtain⟨x2,c2,_,r2,i2,n2,e2,b2⟩:=q 2 _ rfl
 cases e0;cases e1;cases e2
 have rel:bW S w 0 ([i64 n0]++([.sl (n1.map ug)]++([.sl n2.rows]))) cs:=bW.join r0 (bW.join r1 (r2))
 have j0:=bJ i0
 have j1:=bJ i1
 have j2:=bJ i2
 rw[<-e] at j0 j1 j2
 exact⟨_,rfl,hl,fun i c v h1 h2=>rel i c v h1 (by rw[Nat.zero_add];exact h2),⟨n0,n1,n2⟩,rfl,fun hn=>⟨b1 (Nat.le_trans j1 hn),b2 (Nat.le_trans j2 hn)⟩⟩
theorem F_ (hS:∀b,b < w.heap.size->S b):Sp enc w S 43 20 nH (UB f_):=fun n cs x h=>by
 obtain⟨hl,ds,e,ld,q⟩:=cN (S:=S) (ks:=fun i=>match i with | 1=>2 | 5=>3 | 10=>7 | _=>1) (hk:=dJ (by kernel_rfl)) (Qs:=fun i xs d=>match i with
   | 0=>∃r:List bh,xs=[.sl (r.map g_)]/\UB (fp (fun x:bh=>bO x.name/\sY x.pins)) r (Rows.uptoBulk d)
   | 1=>∃r:p_,xs=yC r/\UB qg r (Rows.uptoBulk d)
   | 2=>∃r:List eJ,xs=[.sl (r.map jT)]/\UB (fp (fun x:eJ=>bO x.name)) r (Rows.uptoBulk d)
   | 3=>∃r:List Lay,xs=[.sl (r.map jf)]/\UB (fp (fun x:Lay=>bO x.name/\bO x.mat)) r (Rows.uptoBulk d)
   | 4=>∃r:List fM,xs=[.sl (r.map cS)]/\UB (fp mK) r (Rows.uptoBulk d)
   | 5=>∃r:fM,xs=cS r/\UB mK r (Rows.uptoBulk d)
   | 6=>∃r:List Bo,xs=[.sl (r.map Cv)]/\UB (fp (fun _:Bo=>True)) r (Rows.uptoBulk d)
   | 7=>∃r:List Body,xs=[.sl (r.map mF)]/\UB (fp (fun x:Body=>bO x.name/\bO x.nozzle)) r (Rows.uptoBulk d)
   | 8=>∃r:List Place,xs=[.sl (r.map lY)]/\UB (fp (fun x:Place=>bO x.part/\bO x.type)) r (Rows.uptoBulk d)
   | 9=>∃r:List fZ,xs=[.sl (r.map tv)]/\UB (fp (fun f:fZ=>bO f.type/\f.spots.length<=1048576/\∀s∈f.spots,bO s.pin)) r (Rows.uptoBulk d)
   | _=>∃r:lP,xs=rl r/\UB nn r (Rows.uptoBulk d)) Tryz.underlying43 (fun i f hf=>by
  match i,hf with
  | 0,hf=>cases hf;exact fR (k:=2) Tryz.underlying22 (by kernel_rfl) (by decide) hS (Iz hS)
  | 1,hf=>cases hf;exact IB hS
  | 2,hf=>cases hf;exact fR (k:=4) Tryz.underlying27 (by kernel_rfl) (by decide) hS (KW)
  | 3,hf=>cases hf;exact fR (k:=2) Tryz.underlying28 (by kernel_rfl) (by decide) hS (KX)
  | 4,hf=>cases hf;exact fR (k:=3) Tryz.underlying29 (by kernel_rfl) (by decide) hS (EB hS)
  | 5,hf=>cases hf;exact EB hS
  | 6,hf=>cases hf;exact fR (k:=6) Tryz.underlying34 (by kernel_rfl) (by decide) hS (ID)
  | 7,hf=>cases hf;exact fR (k:=5) Tryz.underlying35 (by kernel_rfl) (by decide) hS (IE)
  | 8,hf=>cases hf;exact fR (k:=6) Tryz.underlying36 (by kernel_rfl) (by decide) hS (F8)
  | 9,hf=>cases hf;exact fR (k:=2) Tryz.underlying37 (by kernel_rfl) (by decide) hS (IG hS)
  | 10,hf=>cases hf;exact Ix hS
  | n+11,hf=>cases hf) h
 have hl:cs.length=20:=hl.trans (by kernel_rfl)
 obtain⟨x0,c0,_,r0,i0,n0,e0,b0⟩:=q 0 _ rfl
 obtain⟨x1,c1,_,r1,i1,n1,e1,b1⟩:=q 1 _ rfl
 obtain⟨x2,c2,_,r2,i2,n2,e2,b2⟩:=q 2 _ rfl
 obtain⟨x3,c3,_,r3,i3,n3,e3,b3⟩:=q 3 _ rfl
 obtain⟨x4,c4,_,r4,i4,n4,e4,b4⟩:=q 4 _ rfl
 obtain⟨x5,c5,_,r5,i5,n5,e5,b5⟩:=q 5 _ rfl
 obtain⟨x6,c6,_,r6,i6,n6,e6,b6⟩:=q 6 _ rfl
 obtain⟨x7,c7,_,r7,i7,n7,e7,b7⟩:=q 7 _ rfl
 obtain⟨x8,c8,_,r8,i8,n8,e8,b8⟩:=q 8 _ rfl
 obtain⟨x9,c9,_,r9,i9,n9,e9,b9⟩:=q 9 _ rfl
 obtain⟨Px,Py,_,O4,i10,n10,Jd,O5⟩:=q 10 _ rfl
 cases e0;cases e1;cases e2;cases e3;cases e4;cases e5;cases e6;cases e7;cases e8;cases e9;cases Jd
 have rel:bW S w 0 ([.sl (n0.map g_)]++(yC n1++([.sl (n2.map jT)]++([.sl (n3.map jf)]++([.sl (n4.map cS)]++(cS n5++([.sl (n6.map Cv)]++([.sl (n7.map mF)]++([.sl (n8.map lY)]++([.sl (n9.map tv)]++(rl n10))))))))))) cs:=bW.join r0 (bW.join r1 (bW.join r2 (bW.join r3 (bW.join r4 (bW.join r5 (bW.join r6 (bW.join r7 (bW.join r8 (bW.join r9 (O4))))))))))
 have j0:=bJ i0
 have j1:=bJ i1
 have j2:=bJ i2
 have j3:=bJ i3
 have j4:=bJ i4
 have j5:=bJ i5
 have j6:=bJ i6
 have j7:=bJ i7
 have j8:=bJ i8
 have j9:=bJ i9
 have NT:=bJ i10
 rw[<-e] at j0 j1 j2 j3 j4 j5 j6 j7 j8 j9 NT
 exact⟨_,rfl,hl,fun i c v h1 h2=>rel i c v h1 (by rw[Nat.zero_add];exact h2),⟨n0,n1,n2,n3,n4,n5,n6,n7,n8,n9,n10⟩,rfl,fun hn=>⟨b0 (Nat.le_trans j0 hn),b1 (Nat.le_trans j1 hn),b2 (Nat.le_trans j2 hn),b3 (Nat.le_trans j3 hn),b4 (Nat.le_trans j4 hn),b5 (Nat.le_trans j5 hn),(b6 (Nat.le_trans j6 hn)).1,b7 (Nat.le_trans j7 hn),b8 (Nat.le_trans j8 hn),b9 (Nat.le_trans j9 hn),O5 (Nat.le_trans NT hn)⟩⟩
end M
namespace M
open Go.AM Go.RowKit Go.Lib
open bq (bw cv ff)
def EC:ByteArray:=⟨#[108,105,115,116]⟩
def wL:ByteArray:=⟨#[115,116,97,99,107]⟩
def Bq:ByteArray:=⟨#[112,108,111,116,115]⟩
def u9:ByteArray:=⟨#[111,117,116,108,105,110,101]⟩
def Br:ByteArray:=⟨#[98,111,114,101,115]⟩
def yt:ByteArray:=⟨#[112,108,97,99,101,115]⟩
def ED:ByteArray:=⟨#[102,101,101,116]⟩
def Bs:ByteArray:=⟨#[114,117,108,101,115]⟩
def rL:ByteArray:=⟨#[108,97,110,100,115]⟩
def mQ (k:Nat):ByteArray:=(⟨#[112,108,111,116,32]⟩:ByteArray)++Iv (Lib.itoa k)
def gY:List fM->Nat->Int×ByteArray
 | [],_=>(0,aF)
 | p::r,k=>if cn p=0 then gY r (k+1) else (cn p,mQ k)
def iR (o:Order):Int×ByteArray:=
 if cn o.outline≠0 then (cn o.outline,u9) else
 if 500 < o.bores.length then (2,Br) else
 if cP o.bodies o.places≠0 then (cP o.bodies o.places,yt) else
 if dt o.types o.feet≠0 then (dt o.types o.feet,ED) else
 if cM o.rules≠0 then (cM o.rules,Bs) else (0,aF)
def dn (o:Order):Int×ByteArray:=
 if dL o.types o.list≠0 then (dL o.types o.list,EC) else
 if dD o.mats o.stack≠0 then (dD o.mats o.stack,wL) else
 if o.plots.length≠gX o.stack then (3,Bq) else
 if (gY o.plots 0).1≠0 then gY o.plots 0 else iR o
theorem qW {l:List fM} {i:Nat} {p:fM} (h:l[i]?=some p):gY (l.drop i) i=if cn p=0 then gY (l.drop (i+1)) (i+1) else (cn p,mQ i):=by
 have e:l.drop i=p::l.drop (i+1):=by
  obtain⟨hi,rfl⟩:=List.getElem?_eq_some_iff.1 h
  exact List.drop_eq_getElem_cons hi
 rw[e,gY]
def IH (x:Int×ByteArray):List PV:=[i64 x.1,str x.2]
theorem kh {s:ByteArray} {f:Int} (h:f≠0):EV s f=[i64 f,str s]:=by rw[EV,if_neg h]
theorem qX (o:Order) (ho:f_ o):aw C 18 [.pv (.ag (nH o))] (.p (.ag (IH (dn o)))) []:=by
 refine aE hC Tryz.func18 rfl rfl 85 rfl (by decide) (by kernel_rfl) fun _ _ _ _ _=>?_
 have lm:=aJ o.plots fun p=>cS p
 have lb:=aJ o.bores Cv
 have Jn:=kG o.stack
 have Iu:=ho.stack.1
 have oa:=ho.plots.1
 ((refine yS<|yn Z<|az zI<|aR<|ai<|yn Z<|az zI<|aR<|ai<|yT<|an<|yS<|yV Z<|yP Z ?_;refine yV Z<|yP Z<|yn Z<|aL zI ?_);refine⟨_,_,(rq o.types o.list ho.types ho.list),?_⟩)
 (refine br Z Z<|ae<|yA Z<|yU<|yP Z<|yP Z<|yT<|ak Z ?_;refine aa (fun g1=>?_) (fun g1=>?_) <;> try simp only[zB] at g1)
 ·have g1:dL o.types o.list≠0:=by simpa using g1
  have iW:=fQ EC (dL o.types o.list)
  rw[kh g1] at iW
  (refine yS<|yP Z<|yn Z<|aL zI ?_;refine⟨_,_,iW,?_⟩)
  (refine br Z Z<|ae<|yq Z<|az zI<|aX<|aM<|aU<|yT<|aA<|af<|aB zi ?_;refine And.intro ?_ trivial)
  rw[dn,if_pos g1];rfl
 have g1:dL o.types o.list=0:=by simpa using g1
 have ht:cz o.types=0:=(fK g1).1
 (refine ar<|ah<|an<|yS<|yV Z<|yP Z<|yV Z<|yP Z<|yn Z<|aL zI ?_;refine⟨_,_,(qd o.mats o.stack ho.mats ho.stack),?_⟩)
 (refine br Z Z<|ae<|yA Z<|yU<|yP Z<|yP Z<|yT<|ak Z ?_;refine aa (fun g2=>?_) (fun g2=>?_) <;> try simp only[zB] at g2)
 ·have g2:dD o.mats o.stack≠0:=by simpa using g2
  have iW:=fQ wL (dD o.mats o.stack)
  rw[kh g2] at iW
  (refine yS<|yP Z<|yn Z<|aL zI ?_;refine⟨_,_,iW,?_⟩)
  (refine br Z Z<|ae<|yq Z<|az zI<|aX<|aM<|aU<|yT<|aA<|af<|aB zi ?_;refine And.intro ?_ trivial)
  rw[dn,if_neg (fun h=>h g1),if_pos g2];rfl
 have g2:dD o.mats o.stack=0:=by simpa using g2
 ((refine ar<|ah<|an<|an<|cF [] false Lo rfl (by kernel_rfl)<|aK Z<|aK Z<|aK Z<|aK Z<|eG Z Z<|cE Z<|yW Z<|yD Z<|yD Z ?_;refine yD Z<|dq Z<|aL zI ?_);refine⟨_,_,(nR o Iu),?_⟩)
 (refine bM<|ae<|yD Z<|bR<|bS Z<|ah<|ak Z ?_;refine aa (fun g3=>?_) (fun g3=>?_) <;> try simp only[zB] at g3)
 ·have g3:o.plots.length≠gX o.stack:=fun e=>g3 (by show (((o.plots.map fun p=>cS p).length:Nat):Int)=(gX o.stack:Nat);omega)
  have iW:=fQ Bq 3
  rw[kh (by decide)] at iW
  (refine yS<|yn Z<|aL zI ?_;refine⟨_,_,iW,?_⟩)
  (refine br Z Z<|ae<|yq Z<|az zI<|aX<|aM<|aU<|yT<|aA<|af<|aB zi ?_;refine And.intro ?_ trivial)
  rw[dn,if_neg (fun h=>h g1),if_neg (fun h=>h g2),if_pos g3];rfl
 have g3:(((o.plots.map fun p=>cS p).length:Nat):Int)=(gX o.stack:Nat):=by simpa using g3
 have g3:¬o.plots.length≠gX o.stack:=fun h=>h (by omega)
 refine ar<|ah<|an<|yS<|yV Z<|yP Z<|yP Z<|yP Z<|yT<|aO ?_
 refine aC (fun i:Nat=>i<=o.plots.length/\gY o.plots 0=gY (o.plots.drop i) i) (fun i=>[(1,.bx 1 0),(2,.bx 2 0),(37,.p (.sl (o.plots.map fun p=>cS p))),(38,.p (i64 o.plots.length)),(39,.p (i64 i))]) (fun _=>[(1,.box ((nH o).map .p)),(2,.box [.p (i64 0),.p (str aF)])]) (fun i=>o.plots.length - i) 0 _ (bg.refl _ _) ⟨Nat.zero_le _,rfl⟩ ⟨rfl,rfl,rfl,congrArg (fun n:Nat=>AV.p (i64 n)) lm,Z,Y⟩ ⟨Z,Z,Y⟩ fun i hi t h=>?_
 (refine yS<|yP Z<|yT<|an<|ak Z ?_;refine aa (fun h1=>?_) (fun h1=>?_) <;> try simp only[zB] at h1)
 ·obtain⟨p,hx⟩:=aH (l:=o.plots) (i:=i) (by omega)
  have CC:=qW hx
  (refine ar<|ah<|an<|aO<|yS<|yP Z<|yq Z<|aL zI ?_;refine⟨(cS p),(idx rfl hx),?_⟩)
  ((refine yk<|yP Z<|yn Z<|az zI<|aR<|ai<|yA Z<|yq Z<|az zI<|aX<|aM<|aU<|yU<|yP Z ?_;refine yn Z<|aL zI ?_);refine⟨_,_,(lQ p (ho.plots.2 p (List.mem_of_getElem? hx))),?_⟩)
  (refine br Z Z<|ae<|yA Z<|yU<|yP Z<|yP Z<|yT<|ak Z ?_;refine aa (fun a1=>?_) (fun a1=>?_) <;> try simp only[zB] at a1)
  ·have a1:cn p≠0:=by simpa using a1
   have e:gY o.plots 0=(cn p,mQ i):=by rw[hi.2,CC,if_neg a1]
   have Ju:=Lib.itoa_length_le (i:Int) (by omega) (by omega)
   have KY:(Iv (Lib.itoa i)).size=(Lib.itoa i).length:=by simp[Iv,ByteArray.size]
   (refine yS<|yP Z<|yn Z<|aL zI ?_;refine⟨_,_,(tz i (by omega)),?_⟩)
   (refine br Z Z<|ae<|yq Z<|bb zI ?_;refine And.intro (by rw[KY];show (5:Nat)+_<=_;omega) ?_)
   have iW:=fQ (mQ i) (cn p)
   rw[kh a1] at iW
   (refine yk<|yP Z<|yn Z<|aL zI ?_;refine⟨_,_,iW,?_⟩)
   ((refine br Z Z<|ae<|yq Z<|az zI<|aX<|aM<|aU<|yT<|aA<|aq<|af<|af<|aq<|af ?_;refine aB zi ?_);refine And.intro ?_ trivial)
   rw[dn,if_neg (fun h=>h g1),if_neg (fun h=>h g2),if_neg g3,if_pos (by rw[e];exact a1),e];rfl
  have a1:cn p=0:=by simpa using a1
  (refine ar<|aS<|ah<|aP<|yq Z<|bb zI ?_;refine sI ?_)
  (refine yk<|yP Z<|yT<|au ?_;refine⟨(i+1),_,bg.refl _ _,?_⟩)
  exact⟨⟨by omega,by rw[hi.2,CC,if_pos a1]⟩,by omega,⟨Z,Z,Z,Z,Z,Y⟩,⟨Z,Z,Y⟩⟩
 have e:gY o.plots 0=(0,aF):=by rw[hi.2,List.drop_of_length_le (by omega)];rfl
 rw[show dn o=iR o by rw[dn,if_neg (fun h=>h g1),if_neg (fun h=>h g2),if_neg g3,if_neg (by rw[e];simp)]]
 (refine bF<|aQ<|aQ<|bG<|ah<|an<|yS<|yV Z<|yP Z<|yn Z<|aL zI ?_;refine⟨_,_,(lQ o.outline ho.outline),?_⟩)
 (refine br Z Z<|ae<|yA Z<|yU<|yP Z<|yP Z<|yT<|ak Z ?_;refine aa (fun k1=>?_) (fun k1=>?_) <;> try simp only[zB] at k1)
 ·have k1:cn o.outline≠0:=by simpa using k1
  have iW:=fQ u9 (cn o.outline)
  rw[kh k1] at iW
  (refine yS<|yP Z<|yn Z<|aL zI ?_;refine⟨_,_,iW,?_⟩)
  (refine br Z Z<|ae<|yq Z<|az zI<|aX<|aM<|aU<|yT<|aA<|af<|aB zi ?_;refine And.intro ?_ trivial)
  rw[iR,if_pos k1];rfl
 have k1:cn o.outline=0:=by simpa using k1
 (refine ar<|ah<|an<|yS<|yV Z<|yP Z<|yP Z<|yP Z<|yT<|ak Z ?_;refine aa (fun k2=>?_) (fun k2=>?_) <;> try simp only[zB] at k2)
 ·have iW:=fQ Br 2
  rw[kh (by decide)] at iW
  (refine yS<|yn Z<|aL zI ?_;refine⟨_,_,iW,?_⟩)
  (refine br Z Z<|ae<|yq Z<|az zI<|aX<|aM<|aU<|yT<|aA<|af<|aB zi ?_;refine And.intro ?_ trivial)
  rw[iR,if_neg (fun h=>h k1),if_pos (by omega)];rfl
 (refine ar<|ah<|an<|yS<|yV Z<|yP Z<|yV Z<|yP Z<|yn Z<|aL zI ?_;refine⟨_,_,(px o.bodies o.places ho.bodies ho.places),?_⟩)
 (refine br Z Z<|ae<|yA Z<|yU<|yP Z<|yP Z<|yT<|ak Z ?_;refine aa (fun k3=>?_) (fun k3=>?_) <;> try simp only[zB] at k3)
 ·have k3:cP o.bodies o.places≠0:=by simpa using k3
  have iW:=fQ yt (cP o.bodies o.places)
  rw[kh k3] at iW
  (refine yS<|yP Z<|yn Z<|aL zI ?_;refine⟨_,_,iW,?_⟩)
  (refine br Z Z<|ae<|yq Z<|az zI<|aX<|aM<|aU<|yT<|aA<|af<|aB zi ?_;refine And.intro ?_ trivial)
  rw[iR,if_neg (fun h=>h k1),if_neg (by omega),if_pos k3];rfl
 have k3:cP o.bodies o.places=0:=by simpa using k3
 (refine ar<|ah<|an<|yS<|yP Z<|yn Z<|aL zI ?_;refine⟨_,_,(rv o ho ht),?_⟩)
 (refine br Z Z<|ae<|yA Z<|yU<|yP Z<|yP Z<|yT<|ak Z ?_;refine aa (fun k4=>?_) (fun k4=>?_) <;> try simp only[zB] at k4)
 ·have k4:dt o.types o.feet≠0:=by simpa using k4
  have iW:=fQ ED (dt o.types o.feet)
  rw[kh k4] at iW
  (refine yS<|yP Z<|yn Z<|aL zI ?_;refine⟨_,_,iW,?_⟩)
  (refine br Z Z<|ae<|yq Z<|az zI<|aX<|aM<|aU<|yT<|aA<|af<|aB zi ?_;refine And.intro ?_ trivial)
  rw[iR,if_neg (fun h=>h k1),if_neg (by omega),if_neg (fun h=>h k3),if_pos k4];rfl
 have k4:dt o.types o.feet=0:=by simpa using k4
 (refine ar<|ah<|yS<|yV Z<|yP Z<|yn Z<|aL zI ?_;refine⟨_,_,(p8 o.rules ho.rules),?_⟩)
 have iW:=fQ Bs (cM o.rules)
 by_cases e0:cM o.rules=0
 ·rw[EV,if_pos e0] at iW
  (refine br Z Z<|ae<|yn Z<|aL zI ?_;refine⟨_,_,iW,?_⟩)
  (refine br Z Z<|ae<|yq Z<|az zI<|aX<|aM<|aU<|yR zi ?_;refine And.intro ?_ trivial)
  rw[iR,if_neg (fun h=>h k1),if_neg (by omega),if_neg (fun h=>h k3),if_neg (fun h=>h k4),if_neg (fun h=>h e0)];rfl
 rw[EV,if_neg e0] at iW
 (refine br Z Z<|ae<|yn Z<|aL zI ?_;refine⟨_,_,iW,?_⟩)
 (refine br Z Z<|ae<|yq Z<|az zI<|aX<|aM<|aU<|yR zi ?_;refine And.intro ?_ trivial)
 rw[iR,if_neg (fun h=>h k1),if_neg (by omega),if_neg (fun h=>h k3),if_neg (fun h=>h k4),if_pos e0];rfl
theorem kH (o:Order) (ho:f_ o):aw C 6 [.pv (.ag (nH o))] (.tu [str (dn o).2,i64 (dn o).1]) []:=by
 refine aE hC Tryz.func6 rfl rfl 11 rfl (by decide) (by kernel_rfl) fun _ _ _ _ _=>?_
 (refine yS<|yn Z<|az zI<|aR<|ai<|yA Z<|yA Z<|yU<|yP Z<|yn Z<|aL zI ?_;refine⟨_,_,(qX o ho),?_⟩)
 ((refine br Z Z (ae (yn Z (az zI (aR (ai (yq Z (az zI (aX (aM (aU (yT (an (cF [] false Lo rfl (by kernel_rfl) ?_)))))))))))));refine cE Z<|yW Z<|yD Z<|yW Z<|yD Z<|yD Z<|yD Z<|bR<|ao Z<|ao Z<|ao Z<|ao Z<|dH Z Z<|dH Z Z ?_;refine bS Z<|ah<|aA<|aB zi ?_);refine And.intro ?_ trivial)
 rfl
theorem kI (o:Order) (ho:f_ o):aw C 7 [.pv (.ag (nH o))] (.tu [str (dn o).2,i64 (dn o).1]) []:=by
 refine aE hC Tryz.func7 rfl rfl 82 rfl (by decide) (by kernel_rfl) fun _ _ _ _ _=>?_
 have lm:=aJ o.plots fun p=>cS p
 have lb:=aJ o.bores Cv
 have Jn:=kG o.stack
 have Iu:=ho.stack.1
 have oa:=ho.plots.1
 ((refine yS<|yn Z<|az zI<|aR<|ai<|yA Z<|yA Z<|yT<|an<|yS<|yV Z<|yP Z<|yV Z<|yP Z ?_;refine yn Z<|aL zI ?_);refine⟨_,_,(tr o.types o.list ho.types ho.list),?_⟩)
 (refine br Z Z<|ae<|yA Z<|yU<|yP Z<|yP Z<|yT<|ak Z ?_;refine aa (fun g1=>?_) (fun g1=>?_) <;> try simp only[zB] at g1)
 ·have g1:dL o.types o.list≠0:=by simpa using g1
  (refine yS<|yP Z<|yA Z<|yA Z<|yT<|aA<|af<|aB zi ?_;refine And.intro ?_ trivial)
  rw[dn,if_pos g1];rfl
 have g1:dL o.types o.list=0:=by simpa using g1
 have ht:cz o.types=0:=(fK g1).1
 (refine ar<|ah<|an<|yS<|yV Z<|yP Z<|yV Z<|yP Z<|yn Z<|aL zI ?_;refine⟨_,_,(rm o.mats o.stack ho.mats ho.stack),?_⟩)
 (refine br Z Z<|ae<|yA Z<|yU<|yP Z<|yP Z<|yT<|ak Z ?_;refine aa (fun g2=>?_) (fun g2=>?_) <;> try simp only[zB] at g2)
 ·have g2:dD o.mats o.stack≠0:=by simpa using g2
  (refine yS<|yP Z<|yA Z<|yA Z<|yT<|aA<|af<|aB zi ?_;refine And.intro ?_ trivial)
  rw[dn,if_neg (fun h=>h g1),if_pos g2];rfl
 have g2:dD o.mats o.stack=0:=by simpa using g2
 have O6:=ru o Iu
 have F7:((mP o.stack o.stack.length).map fun n=>[i64 n]).length=gX o.stack:=by
  rw[List.length_map,qi _ _ (Nat.le_refl _),List.take_length]
 ((refine ar<|ah<|an<|an<|cF [] false I_ rfl (by kernel_rfl)<|aK Z<|aK Z<|aK Z<|aK Z<|eG Z Z<|cE Z<|yW Z<|yD Z<|yD Z ?_;refine yD Z<|dq Z<|aL zI ?_);refine⟨_,_,O6,?_⟩)
 (refine vN Z Z<|aG<|yD Z<|yD Z<|bR<|bS Z<|ah<|ak Z ?_;refine aa (fun g3=>?_) (fun g3=>?_) <;> try simp only[zB] at g3)
 ·have g3:o.plots.length≠gX o.stack:=fun e=>g3 (by show (((o.plots.map fun p=>cS p).length:Nat):Int)=((((mP o.stack o.stack.length).map fun n=>[i64 n]).length:Nat):Int);omega)
  (refine yS<|yA Z<|yA Z<|yT<|aA<|af<|aB zi ?_;refine And.intro ?_ trivial)
  rw[dn,if_neg (fun h=>h g1),if_neg (fun h=>h g2),if_pos g3];rfl
 have g3:(((o.plots.map fun p=>cS p).length:Nat):Int)=((((mP o.stack o.stack.length).map fun n=>[i64 n]).length:Nat):Int):=by simpa using g3
 have g3:¬o.plots.length≠gX o.stack:=fun h=>h (by omega)
 refine ar<|ah<|an<|yS<|yV Z<|yP Z<|yP Z<|yP Z<|yT<|aO ?_
 refine aC (fun i:Nat=>i<=o.plots.length/\gY o.plots 0=gY (o.plots.drop i) i) (fun i=>[(1,.bx 1 0),(37,.p (.sl (o.plots.map fun p=>cS p))),(38,.p (i64 o.plots.length)),(39,.p (i64 i))]) (fun _=>[(1,.box ((nH o).map .p))]) (fun i=>o.plots.length - i) 0 _ (bg.refl _ _) ⟨Nat.zero_le _,rfl⟩ ⟨rfl,rfl,congrArg (fun n:Nat=>AV.p (i64 n)) lm,Z,Y⟩ ⟨Z,Y⟩ fun i hi t h=>?_
 (refine yS<|yP Z<|yT<|an<|ak Z ?_;refine aa (fun h1=>?_) (fun h1=>?_) <;> try simp only[zB] at h1)
 ·obtain⟨p,hx⟩:=aH (l:=o.plots) (i:=i) (by omega)
  have CC:=qW hx
  (refine ar<|ah<|an<|aO<|yS<|yP Z<|yq Z<|aL zI ?_;refine⟨(cS p),(idx rfl hx),?_⟩)
  ((refine yk<|yP Z<|yn Z<|az zI<|aR<|ai<|yA Z<|yq Z<|az zI<|aX<|aM<|aU<|yU<|yP Z ?_;refine yn Z<|aL zI ?_);refine⟨_,_,(mL p (ho.plots.2 p (List.mem_of_getElem? hx))),?_⟩)
  (refine br Z Z<|ae<|yA Z<|yU<|yP Z<|yP Z<|yT<|ak Z ?_;refine aa (fun a1=>?_) (fun a1=>?_) <;> try simp only[zB] at a1)
  ·have a1:cn p≠0:=by simpa using a1
   have e:gY o.plots 0=(cn p,mQ i):=by rw[hi.2,CC,if_neg a1]
   have Ju:=Lib.itoa_length_le (i:Int) (by omega) (by omega)
   have KY:(Iv (Lib.itoa i)).size=(Lib.itoa i).length:=by simp[Iv,ByteArray.size]
   (refine yS<|yP Z<|yn Z<|aL zI ?_;refine⟨_,_,(tz i (by omega)),?_⟩)
   (refine br Z Z<|ae<|yq Z<|bb zI ?_;refine And.intro (by rw[KY];show (5:Nat)+_<=_;omega) ?_)
   (refine yk<|yP Z<|yA Z<|yA Z<|yT<|aA<|aq<|af<|af<|aq<|af<|aB zi ?_;refine And.intro ?_ trivial)
   rw[dn,if_neg (fun h=>h g1),if_neg (fun h=>h g2),if_neg g3,if_pos (by rw[e];exact a1),e];rfl
  have a1:cn p=0:=by simpa using a1
  (refine ar<|aS<|ah<|aP<|yq Z<|bb zI ?_;refine sI ?_)
  (refine yk<|yP Z<|yT<|au ?_;refine⟨(i+1),_,bg.refl _ _,?_⟩)
  exact⟨⟨by omega,by rw[hi.2,CC,if_pos a1]⟩,by omega,⟨Z,Z,Z,Z,Y⟩,⟨Z,Y⟩⟩
 have e:gY o.plots 0=(0,aF):=by rw[hi.2,List.drop_of_length_le (by omega)];rfl
 rw[show dn o=iR o by rw[dn,if_neg (fun h=>h g1),if_neg (fun h=>h g2),if_neg g3,if_neg (by rw[e];simp)]]
 (refine bF<|aQ<|aQ<|bG<|ah<|an<|yS<|yV Z<|yP Z<|yn Z<|aL zI ?_;refine⟨_,_,(mL o.outline ho.outline),?_⟩)
 (refine br Z Z<|ae<|yA Z<|yU<|yP Z<|yP Z<|yT<|ak Z ?_;refine aa (fun k1=>?_) (fun k1=>?_) <;> try simp only[zB] at k1)
 ·have k1:cn o.outline≠0:=by simpa using k1
  (refine yS<|yP Z<|yA Z<|yA Z<|yT<|aA<|af<|aB zi ?_;refine And.intro ?_ trivial)
  rw[iR,if_pos k1];rfl
 have k1:cn o.outline=0:=by simpa using k1
 (refine ar<|ah<|an<|yS<|yV Z<|yP Z<|yP Z<|yP Z<|yT<|ak Z ?_;refine aa (fun k2=>?_) (fun k2=>?_) <;> try simp only[zB] at k2)
 ·(refine yS<|yA Z<|yA Z<|yT<|aA<|af<|aB zi ?_;refine And.intro ?_ trivial)
  rw[iR,if_neg (fun h=>h k1),if_pos (by omega)];rfl
 (refine ar<|ah<|an<|yS<|yV Z<|yP Z<|yV Z<|yP Z<|yn Z<|aL zI ?_;refine⟨_,_,(py o.bodies o.places ho.bodies ho.places),?_⟩)
 (refine br Z Z<|ae<|yA Z<|yU<|yP Z<|yP Z<|yT<|ak Z ?_;refine aa (fun k3=>?_) (fun k3=>?_) <;> try simp only[zB] at k3)
 ·have k3:cP o.bodies o.places≠0:=by simpa using k3
  (refine yS<|yP Z<|yA Z<|yA Z<|yT<|aA<|af<|aB zi ?_;refine And.intro ?_ trivial)
  rw[iR,if_neg (fun h=>h k1),if_neg (by omega),if_pos k3];rfl
 have k3:cP o.bodies o.places=0:=by simpa using k3
 (refine ar<|ah<|an<|yS<|yP Z<|yn Z<|aL zI ?_;refine⟨_,_,(ry o ho ht),?_⟩)
 (refine br Z Z<|ae<|yA Z<|yU<|yP Z<|yP Z<|yT<|ak Z ?_;refine aa (fun k4=>?_) (fun k4=>?_) <;> try simp only[zB] at k4)
 ·have k4:dt o.types o.feet≠0:=by simpa using k4
  (refine yS<|yP Z<|yA Z<|yA Z<|yT<|aA<|af<|aB zi ?_;refine And.intro ?_ trivial)
  rw[iR,if_neg (fun h=>h k1),if_neg (by omega),if_neg (fun h=>h k3),if_pos k4];rfl
 have k4:dt o.types o.feet=0:=by simpa using k4
 (refine ar<|ah<|an<|yS<|yV Z<|yP Z<|yn Z<|aL zI ?_;refine⟨_,_,(sW o.rules ho.rules),?_⟩)
 (refine br Z Z<|ae<|yA Z<|yU<|yP Z<|yP Z<|yT<|ak Z ?_;refine aa (fun k5=>?_) (fun k5=>?_) <;> try simp only[zB] at k5)
 ·have k5:cM o.rules≠0:=by simpa using k5
  (refine yS<|yP Z<|yA Z<|yA Z<|yT<|aA<|af<|aB zi ?_;refine And.intro ?_ trivial)
  rw[iR,if_neg (fun h=>h k1),if_neg (by omega),if_neg (fun h=>h k3),if_neg (fun h=>h k4),if_pos k5];rfl
 have k5:cM o.rules=0:=by simpa using k5
 (refine ar<|ah<|yS<|yA Z<|yA Z<|yR zi ?_;refine And.intro ?_ trivial)
 rw[iR,if_neg (fun h=>h k1),if_neg (by omega),if_neg (fun h=>h k3),if_neg (fun h=>h k4),if_neg (fun h=>h k5)];rfl
structure kJ where
 part:ByteArray
 pin:ByteArray
 layer:Int
 x:Int
 y:Int
deriving DecidableEq
def uz (l:kJ):List PV:=[str l.part,str l.pin,i64 l.layer,i64 l.x,i64 l.y]
def nv (p:Int×Int):Nat->Int×Int
 | 0=>p
 | n+1=>(0 - (nv p n).2,(nv p n).1)
theorem mR {p:Int×Int} {b:Int} (h:(-b<=p.1/\p.1<=b)/\(-b<=p.2/\p.2<=b)):∀n,(-b<=(nv p n).1/\(nv p n).1<=b)/\(-b<=(nv p n).2/\(nv p n).2<=b)
 | 0=>h
 | n+1=>by
  have ih:=mR h n
  rw[nv]
  dsimp only
  omega
def cQ (flip:Bool) (q:Int) (x y:Int):Int×Int:=nv (if flip=true then 0 - x else x,y) q.toNat
theorem Bt {flip:Bool} {q x y:Int} (hx:-100000<=x/\x<=100000) (hy:-100000<=y/\y<=100000):((-100000<=(cQ flip q x y).1/\(cQ flip q x y).1<=100000)/\(-100000<=(cQ flip q x y).2/\(cQ flip q x y).2<=100000)):=by
 refine mR ?_ _
 cases flip <;> simp <;> omega
theorem lS (flip:Bool) (q x y ax ay:Int) (hx:-100000<=x/\x<=100000) (hy:-100000<=y/\y<=100000) (hq:0<=q/\q<=3) (ha:-1000000<=ax/\ax<=1000000) (O7:-1000000<=ay/\ay<=1000000):aw C 72 [.pv (.ag [i64 x,i64 y]),.pv (.ag [bool flip,i64 q,i64 ax,i64 ay])] (.p (.ag [i64 ((cQ flip q x y).1+ax),i64 ((cQ flip q x y).2+ay)])) []:=by
 refine aE hC Tryz.func72 rfl rfl 36 rfl (by decide) (by kernel_rfl) fun _ _ _ _ _=>?_
 have body:∀z:Int,(-100000<=z/\z<=100000)->cQ flip q x y=nv (z,y) q.toNat->∀n:Nat,((-100000<=(nv (z,y) n).1/\(nv (z,y) n).1<=100000)/\(-100000<=(nv (z,y) n).2/\(nv (z,y) n).2<=100000)):=fun z hz _ n=>mR ⟨hz,hy⟩ n
 ((refine yS<|yn Z<|az zI<|aR<|ai<|yn Z<|az zI<|aR<|ai<|yn Z<|az zI<|aR<|ai<|yT ?_;refine an<|yS<|yV Z<|yP Z<|yT<|ak Z ?_);refine aa (fun f1=>?_) (fun f1=>?_) <;> try simp only[zB] at f1)
 ·have ht:cQ flip q x y=nv (0 - x,y) q.toNat:=by rw[cQ,if_pos f1]
  have hb:=mR (p:=(0 - x,y)) (b:=100000) ⟨by dsimp only;omega,by dsimp only;omega⟩
  (refine aP<|yV Z<|yP Z<|yq Z<|bb zI ?_;refine sI ?_)
  (refine yk<|yV Z<|yq Z<|az zI<|aX<|aM<|aU<|yT<|an<|yS<|yV Z<|yP Z<|yP Z<|yT ?_;refine aO ?_)
  refine aC (fun i:Nat=>(i:Int)<=q) (fun i=>[(2,.bx 2 0),(3,.bx 3 0),(4,.bx 4 0),(12,.p (i64 q)),(13,.p (i64 i))]) (fun i=>[(2,.box [.p (i64 (nv (0 - x,y) i).1),.p (i64 (nv (0 - x,y) i).2)]),(3,.box ([bool flip,i64 q,i64 ax,i64 ay].map .p)),(4,.box [.p (i64 0),.p (i64 0)])]) (fun i=>q.toNat - i) 0 _ (bg.refl _ _) (by show ((0:Nat):Int)<=q;omega) ⟨Z,Z,Z,Z,Z,Y⟩ ⟨Z,Z,Z,Y⟩ fun i hi t h=>?_
  have Nj:=hb i
  (refine yS<|yP Z<|yT<|an<|ak Z ?_;refine aa (fun h1=>?_) (fun h1=>?_) <;> try simp only[zB] at h1)
  ·(refine ar<|ah<|an<|aO<|aP<|yV Z<|yP Z<|yq Z<|bb zI ?_;refine sI ?_)
   ((refine yk<|yV Z<|yP Z<|yV Z<|yq Z<|az zI<|aX<|aM<|aU<|yV Z<|yq Z<|az zI<|aX<|aM ?_;refine aU<|dB<|aS<|ah<|aP<|yq Z<|bb zI ?_);refine sI ?_)
   (refine yk<|yP Z<|yT<|au ?_;refine⟨(i+1),_,bg.refl _ _,?_⟩)
   exact⟨by omega,by omega,⟨Z,Z,Z,Z,Z,Y⟩,⟨Z,Z,Z,Y⟩⟩
  have e:i=q.toNat:=by omega
  (refine bF<|aQ<|aQ<|bG<|ah<|yS<|yV Z<|yP Z<|yV Z<|yV Z<|yP Z<|yq Z<|bb zI ?_;refine sI ?_)
  (refine yk<|yV Z<|yP Z<|yV Z<|yV Z<|yP Z<|yq Z<|bb zI ?_;refine sI ?_)
  (refine yk<|yP Z<|yq Z<|az zI<|aX<|aM<|aU<|yR zi ?_;refine And.intro ?_ trivial)
  rw[ht,<-e]
  rfl
 have ht:cQ flip q x y=nv (x,y) q.toNat:=by rw[cQ,if_neg (by simp[f1])]
 have hb:=mR (p:=(x,y)) (b:=100000) ⟨by dsimp only;omega,by dsimp only;omega⟩
 refine ar<|ah<|an<|yS<|yV Z<|yP Z<|yP Z<|yT<|aO ?_
 refine aC (fun i:Nat=>(i:Int)<=q) (fun i=>[(2,.bx 2 0),(3,.bx 3 0),(4,.bx 4 0),(12,.p (i64 q)),(13,.p (i64 i))]) (fun i=>[(2,.box [.p (i64 (nv (x,y) i).1),.p (i64 (nv (x,y) i).2)]),(3,.box ([bool flip,i64 q,i64 ax,i64 ay].map .p)),(4,.box [.p (i64 0),.p (i64 0)])]) (fun i=>q.toNat - i) 0 _ (bg.refl _ _) (by show ((0:Nat):Int)<=q;omega) ⟨Z,Z,Z,Z,Z,Y⟩ ⟨Z,Z,Z,Y⟩ fun i hi t h=>?_
 have Nj:=hb i
 (refine yS<|yP Z<|yT<|an<|ak Z ?_;refine aa (fun h1=>?_) (fun h1=>?_) <;> try simp only[zB] at h1)
 ·(refine ar<|ah<|an<|aO<|aP<|yV Z<|yP Z<|yq Z<|bb zI ?_;refine sI ?_)
  ((refine yk<|yV Z<|yP Z<|yV Z<|yq Z<|az zI<|aX<|aM<|aU<|yV Z<|yq Z<|az zI<|aX<|aM ?_;refine aU<|dB<|aS<|ah<|aP<|yq Z<|bb zI ?_);refine sI ?_)
  (refine yk<|yP Z<|yT<|au ?_;refine⟨(i+1),_,bg.refl _ _,?_⟩)
  exact⟨by omega,by omega,⟨Z,Z,Z,Z,Z,Y⟩,⟨Z,Z,Z,Y⟩⟩
 have e:i=q.toNat:=by omega
 (refine bF<|aQ<|aQ<|bG<|ah<|yS<|yV Z<|yP Z<|yV Z<|yV Z<|yP Z<|yq Z<|bb zI ?_;refine sI ?_)
 (refine yk<|yV Z<|yP Z<|yV Z<|yV Z<|yP Z<|yq Z<|bb zI ?_;refine sI ?_)
 (refine yk<|yP Z<|yq Z<|az zI<|aX<|aM<|aU<|yR zi ?_;refine And.intro ?_ trivial)
 rw[ht,<-e]
 rfl
theorem pB (p:Place) (x y:Int) (hx:-100000<=x/\x<=100000) (hy:-100000<=y/\y<=100000) (hq:0<=p.quarters/\p.quarters<=3) (ha:-1000000<=p.x/\p.x<=1000000) (O7:-1000000<=p.y/\p.y<=1000000):aw C 76 [.pv (.ag (lY p)),.pv (.ag [i64 x,i64 y])] (.p (.ag [i64 ((cQ p.below p.quarters x y).1+p.x),i64 ((cQ p.below p.quarters x y).2+p.y)])) []:=by
 refine aE hC Tryz.func76 rfl rfl 35 rfl (by decide) (by kernel_rfl) fun _ _ _ _ _=>?_
 have body:∀z:Int,(-100000<=z/\z<=100000)->cQ p.below p.quarters x y=nv (z,y) p.quarters.toNat->∀n:Nat,((-100000<=(nv (z,y) n).1/\(nv (z,y) n).1<=100000)/\(-100000<=(nv (z,y) n).2/\(nv (z,y) n).2<=100000)):=fun z hz _ n=>mR ⟨hz,hy⟩ n
 ((refine yS<|yn Z<|az zI<|aR<|ai<|yn Z<|az zI<|aR<|ai<|yn Z<|az zI<|aR<|ai<|yT ?_;refine an<|yS<|yV Z<|yP Z<|yT<|ak Z ?_);refine aa (fun f1=>?_) (fun f1=>?_) <;> try simp only[zB] at f1)
 ·have ht:cQ p.below p.quarters x y=nv (0 - x,y) p.quarters.toNat:=by rw[cQ,if_pos f1]
  have hb:=mR (p:=(0 - x,y)) (b:=100000) ⟨by dsimp only;omega,by dsimp only;omega⟩
  (refine aP<|yV Z<|yP Z<|yq Z<|bb zI ?_;refine sI ?_)
  (refine yk<|yV Z<|yq Z<|az zI<|aX<|aM<|aU<|yT<|an<|yS<|yV Z<|yP Z<|yP Z<|yT ?_;refine aO ?_)
  refine aC (fun i:Nat=>(i:Int)<=p.quarters) (fun i=>[(3,.bx 3 0),(2,.bx 2 0),(4,.bx 4 0),(12,.p (i64 p.quarters)),(13,.p (i64 i))]) (fun i=>[(3,.box [.p (i64 (nv (0 - x,y) i).1),.p (i64 (nv (0 - x,y) i).2)]),(2,.box ((lY p).map .p)),(4,.box [.p (i64 0),.p (i64 0)])]) (fun i=>p.quarters.toNat - i) 0 _ (bg.refl _ _) (by show ((0:Nat):Int)<=p.quarters;omega) ⟨Z,Z,Z,Z,Z,Y⟩ ⟨Z,Z,Z,Y⟩ fun i hi t h=>?_
  have Nj:=hb i
  (refine yS<|yP Z<|yT<|an<|ak Z ?_;refine aa (fun h1=>?_) (fun h1=>?_) <;> try simp only[zB] at h1)
  ·(refine ar<|ah<|an<|aO<|aP<|yV Z<|yP Z<|yq Z<|bb zI ?_;refine sI ?_)
   ((refine yk<|yV Z<|yP Z<|yP Z<|yq Z<|az zI<|aX<|aM<|aU<|dB<|aS<|ah<|aP<|yq Z ?_;refine bb zI ?_);refine sI ?_)
   (refine yk<|yP Z<|yT<|au ?_;refine⟨(i+1),_,bg.refl _ _,?_⟩)
   exact⟨by omega,by omega,⟨Z,Z,Z,Z,Z,Y⟩,⟨Z,Z,Z,Y⟩⟩
  have e:i=p.quarters.toNat:=by omega
  (refine bF<|aQ<|aQ<|bG<|ah<|yS<|yV Z<|yV Z<|yP Z<|yV Z<|yP Z<|yq Z<|bb zI ?_;refine sI ?_)
  (refine yk<|yV Z<|yV Z<|yP Z<|yV Z<|yP Z<|yq Z<|bb zI ?_;refine sI ?_)
  (refine yk<|yP Z<|yq Z<|az zI<|aX<|aM<|aU<|yR zi ?_;refine And.intro ?_ trivial)
  rw[ht,<-e]
  rw[Int.add_comm (nv _ _).1 p.x,Int.add_comm (nv _ _).2 p.y];rfl
 have ht:cQ p.below p.quarters x y=nv (x,y) p.quarters.toNat:=by rw[cQ,if_neg (by simp[f1])]
 have hb:=mR (p:=(x,y)) (b:=100000) ⟨by dsimp only;omega,by dsimp only;omega⟩
 refine ar<|ah<|an<|yS<|yV Z<|yP Z<|yP Z<|yT<|aO ?_
 refine aC (fun i:Nat=>(i:Int)<=p.quarters) (fun i=>[(3,.bx 3 0),(2,.bx 2 0),(4,.bx 4 0),(12,.p (i64 p.quarters)),(13,.p (i64 i))]) (fun i=>[(3,.box [.p (i64 (nv (x,y) i).1),.p (i64 (nv (x,y) i).2)]),(2,.box ((lY p).map .p)),(4,.box [.p (i64 0),.p (i64 0)])]) (fun i=>p.quarters.toNat - i) 0 _ (bg.refl _ _) (by show ((0:Nat):Int)<=p.quarters;omega) ⟨Z,Z,Z,Z,Z,Y⟩ ⟨Z,Z,Z,Y⟩ fun i hi t h=>?_
 have Nj:=hb i
 (refine yS<|yP Z<|yT<|an<|ak Z ?_;refine aa (fun h1=>?_) (fun h1=>?_) <;> try simp only[zB] at h1)
 ·(refine ar<|ah<|an<|aO<|aP<|yV Z<|yP Z<|yq Z<|bb zI ?_;refine sI ?_)
  ((refine yk<|yV Z<|yP Z<|yP Z<|yq Z<|az zI<|aX<|aM<|aU<|dB<|aS<|ah<|aP<|yq Z ?_;refine bb zI ?_);refine sI ?_)
  (refine yk<|yP Z<|yT<|au ?_;refine⟨(i+1),_,bg.refl _ _,?_⟩)
  exact⟨by omega,by omega,⟨Z,Z,Z,Z,Z,Y⟩,⟨Z,Z,Z,Y⟩⟩
 have e:i=p.quarters.toNat:=by omega
 (refine bF<|aQ<|aQ<|bG<|ah<|yS<|yV Z<|yV Z<|yP Z<|yV Z<|yP Z<|yq Z<|bb zI ?_;refine sI ?_)
 (refine yk<|yV Z<|yV Z<|yP Z<|yV Z<|yP Z<|yq Z<|bb zI ?_;refine sI ?_)
 (refine yk<|yP Z<|yq Z<|az zI<|aX<|aM<|aU<|yR zi ?_;refine And.intro ?_ trivial)
 rw[ht,<-e]
 rw[Int.add_comm (nv _ _).1 p.x,Int.add_comm (nv _ _).2 p.y];rfl
theorem EE (p:Part) (s:ByteArray):aw C 155 [.pv (.ag (kb p)),.pv (str s)] (.p (i64 (Lib.compareBytes p.name.data.toList s.data.toList))) []:=by
 refine aE hC Tryz.func155 rfl rfl 9 rfl (by decide) (by kernel_rfl) fun _ _ _ _ _=>?_
 (refine yS<|yn Z<|az zI<|aR<|ai<|yA Z<|yU<|yV Z<|yP Z<|yP Z<|yn Z<|aL zI ?_;refine⟨_,_,(eZ p.name s),?_⟩)
 (refine br Z Z<|ae<|yA Z<|yR zi ?_;refine And.intro ?_ trivial)
 rfl
theorem Cw (l:List Part) (x:ByteArray) (hs:cG Part.name l) (hN:l.length<=1000000000):aw C 154 [.pv (.sl (l.map kb)),.pv (str x),.pv (Be 155)] (.tu [i64 (kd Part.name l x),bool (dk Part.name l x)]) []:=by
 refine aE hC Tryz.func154 rfl rfl 49 rfl (by decide) (by kernel_rfl) fun _ _ _ _ _=>?_
 have lm:=aJ l kb
 refine yS<|yA Z<|yA Z<|yU<|yP Z<|yP Z<|yA Z<|yU<|yP Z<|yA Z<|yA Z<|yT<|an<|aO ?_
 refine aC (fun p:Nat×Nat=>p.1<=p.2/\p.2<=l.length/\(∀(k:Nat) y,k < p.1->l[k]?=some y->cB (Part.name y) x=true)/\(∀(k:Nat) y,p.2<=k->l[k]?=some y->cB (Part.name y) x=false)) (fun p=>[(0,.p (.sl (l.map kb))),(1,.p (str x)),(2,.p (Be 155)),(8,.p (i64 l.length)),(9,.p (i64 p.1)),(10,.p (i64 p.2))]) (fun _=>[]) (fun p=>p.2 - p.1) (0,l.length) _ (bg.refl _ _) ⟨Nat.zero_le _,Nat.le_refl _,fun k y h=>by omega,fun k y h1 h2=>by have:=(List.getElem?_eq_some_iff.1 h2).1;simp only at h1;omega⟩ ⟨rfl,rfl,rfl,cb (by rw[lm]),rfl,cb (by rw[lm]),trivial⟩ trivial fun ⟨a,b⟩ hi t h=>?_
 obtain⟨q1,q2,q3,q4⟩:=hi
 simp only at q1 q2 q3 q4
 (refine an<|yS<|yP Z<|yP Z<|yP Z<|yT<|ak Z ?_;refine aa (fun h1=>?_) (fun h1=>?_) <;> try simp only[zB] at h1)
 ·have hm:=kz (a:=a) (b:=b) (by omega)
  obtain⟨y,hy⟩:=aH (l:=l) (i:=(a+b) / 2) (by omega)
  (refine ar<|ah<|aO<|yS<|yP Z<|yP Z<|yq Z<|bb zI ?_;refine And.intro ⟨by simp only;omega,by simp only;omega⟩ ?_)
  (refine yk<|yP Z<|yq Z<|bb zI ?_;refine And.intro ⟨by decide,by decide⟩ ?_)
  (refine yk<|yq Z<|bb zI ?_;refine And.intro ⟨by simp only;rw[hm];omega,by simp only;rw[hm];omega⟩ ?_)
  (refine yk<|yA Z<|yU<|yP Z<|yP Z<|yP Z<|yq Z<|aL zI ?_;refine⟨(kb y),(idx hm hy),?_⟩)
  (refine yk<|yP Z<|yP Z<|yn Z<|aL zI ?_;refine⟨_,_,(EE y x),?_⟩)
  have hc:=mG y.name x
  (refine br Z Z<|ae<|yP Z<|yT<|ak Z ?_;refine aa (fun h2=>?_) (fun h2=>?_) <;> try simp only[zB] at h2)
  ·have h2:cB (Part.name y) x=true:=by rw[<-hc];exact decide_eq_true h2
   (refine aP<|yP Z<|yq Z<|bb zI ?_;refine And.intro ⟨by simp only;rw[hm];omega,by simp only;rw[hm];omega⟩ ?_)
   (refine yk<|yA Z<|dB<|aS<|ah<|au ?_;refine⟨((a+b) / 2+1,b),_,bg.refl _ _,?_⟩)
   refine⟨⟨by simp only;omega,q2,fun k z hk hz=>?_,q4⟩,by simp only;omega,⟨rfl,rfl,rfl,rfl,cb (by simp only;rw[hm];omega),Z,Y⟩,trivial⟩
   by_cases e:k=(a+b) / 2
   ·subst e
    rw[hy] at hz;injection hz with hz;subst hz;exact h2
   exact dC (cc hs hz hy (by simp only at hk;omega)) h2
  have h2:cB (Part.name y) x=false:=by rw[<-hc];exact decide_eq_false h2
  (refine aP<|yP Z<|yA Z<|dB<|aS<|ah<|au ?_;refine⟨(a,(a+b) / 2),_,bg.refl _ _,?_⟩)
  refine⟨⟨by simp only;omega,by simp only;omega,q3,fun k z hk hz=>?_⟩,by simp only;omega,⟨rfl,rfl,rfl,rfl,rfl,cb hm,trivial⟩,trivial⟩
  by_cases e:k=(a+b) / 2
  ·subst e
   rw[hy] at hz;injection hz with hz;subst hz;exact h2
  rw[Bool.eq_false_iff]
  intro fC
  rw[dC (cc hs hy hz (by simp only at hk;omega)) fC] at h2
  cases h2
 have e:a=b:=by omega
 subst e
 have hb:=ib q2 q3 q4
 (refine bF<|aQ<|aQ<|bG<|ah<|yS<|yP Z<|yP Z<|yP Z<|yP Z<|yP Z<|yg Z ?_;refine aa (fun h2=>?_) (fun h2=>?_) <;> try simp only[zB] at h2)
 ·obtain⟨y,hy⟩:=aH (l:=l) (i:=a) (by omega)
  (refine aV<|aN Z Z<|az zI<|yk<|y1 Z<|y1 Z<|y2 Z<|aN Z Z<|aL zI ?_;refine⟨(kb y),(idx rfl hy),?_⟩)
  (refine yk<|y1 Z<|y1 Z<|y2 Z<|cx Z Z Z<|aL zI ?_;refine⟨_,_,(EE y x),?_⟩)
  (refine br Z Z<|ae<|y1 Z<|yP Z<|yA Z<|yA Z<|yR zi ?_;refine And.intro ?_ trivial)
  have hq:=cmp_eq y.name x
  have h4:dk Part.name l x=decide (Lib.compareBytes y.name.data.toList x.data.toList=0):=by
   by_cases e:y.name=x
   ·rw[decide_eq_true (hq.2 e)]
    exact cZ.2 ⟨y,List.mem_of_getElem? hy,e⟩
   rw[decide_eq_false (fun h=>e (hq.1 h))]
   exact np hs q3 hy (q4 a y (Nat.le_refl _) hy) e
  rw[hb,h4]
  rfl
 (refine aT<|ae<|y0 Z<|y0 Z<|y0 Z<|y0 Z<|y0 Z<|y0 Z<|y0 Z<|yP Z<|yA Z<|yA Z<|yR zi ?_;refine And.intro ?_ trivial)
 have h4:dk Part.name l x=false:=by
  rw[Bool.eq_false_iff]
  intro h4
  obtain⟨z,hz,Aa⟩:=cZ.1 h4
  obtain⟨k,hk⟩:=List.mem_iff_getElem?.1 hz
  have:=q3 k z (by have:=(List.getElem?_eq_some_iff.1 hk).1;omega) hk
  rw[gS Aa] at this;cases this
 rw[hb,h4]
 rfl
def dY (l:List fZ) (x:ByteArray):Option (List gC):=(l.find? fun f=>decide (f.type=x)).map fZ.spots
def tD (o:Order) (x:ByteArray):ByteArray:=match qc Part.name o.list.parts x with
 | some q=>q.type
 | none=>aF
def iy (o:Order) (p:Place):Bool:=o.list.parts.any fun q=>decide (q.name=p.part) && (decide (q.type=p.type) && true)
theorem wM (o:Order) (x:ByteArray) (hs:cG Part.name o.list.parts) (hN:o.list.parts.length<=1000000):aw C 71 [.pv (.ag (nH o)),.pv (str x)] (.p (str (tD o x))) []:=by
 refine aE hC Tryz.func71 rfl rfl 24 rfl (by decide) (by kernel_rfl) fun _ _ _ _ _=>?_
 have hp:=gG (x:=x) hs
 (refine yS<|yn Z<|az zI<|aR<|ai<|yA Z<|yU<|yV Z<|yV Z<|yP Z<|yP Z<|yn Z<|aL zI ?_;refine⟨_,_,(Cw o.list.parts x hs (by omega)),?_⟩)
 ((refine br Z Z<|bU<|yq Z<|az zI<|aX<|bU<|yP Z<|yP Z<|yA Z<|yA Z<|yT<|an<|yS<|yP Z ?_;refine yP Z<|yT<|ak Z ?_);refine aa (fun h1=>?_) (fun h1=>?_) <;> try simp only[zB] at h1)
 ·(refine yS<|yA Z<|yT<|aA<|af<|aB zi ?_;refine And.intro ?_ trivial)
  have h1:dk Part.name o.list.parts x=false:=by simpa using h1
  rw[tD,je h1];rfl
 have h1:dk Part.name o.list.parts x=true:=by simpa using h1
 rw[if_pos h1] at hp
 obtain⟨k,q,e1,e2,e3,e4⟩:=ig h1
 (refine ar<|ah<|yS<|yV Z<|yV Z<|yP Z<|yP Z<|yq Z<|aL zI ?_;refine⟨(kb q),(idx (hp.symm.trans e1) e2),?_⟩)
 (refine yk<|yP Z<|yP Z<|yA Z<|yR zi ?_;refine And.intro ?_ trivial)
 rw[tD,e4]
theorem Ga (q:Part) (p:Place):(decide (p.part=q.name) && (decide (p.type=q.type) && true))=(decide (q.name=p.part) && (decide (q.type=p.type) && true)):=by
 rw[show decide (p.part=q.name)=decide (q.name=p.part) from decide_eq_decide.2 eq_comm,show decide (p.type=q.type)=decide (q.type=p.type) from decide_eq_decide.2 eq_comm]
theorem An (l:List Part) (p:Place) (hN:l.length<=140737488355328):aw C 223 [.pv (.sl (l.map kb)),.pv (.ag [str p.part,str p.type])] (.p (i64 (eH (fun q:Part=>decide (q.name=p.part) && (decide (q.type=p.type) && true)) l 0))) []:=by
 refine aE hC Tryz.func223 rfl rfl 19 rfl (by decide) (by kernel_rfl) fun _ _ _ _ _=>?_
 have lm:=aJ l kb
 refine yS<|yn Z<|az zI<|aR<|ai<|yA Z<|yT<|an<|yS<|yP Z<|yP Z<|yP Z<|yT<|aO ?_
 refine aC (fun i:Nat=>i<=l.length/\∀z∈l.take i,(decide (Part.name z=p.part) && (decide (z.type=p.type) && true))=false) (fun i=>[(0,.p (.sl (l.map kb))),(3,.bx 3 0),(7,.p (i64 (l.map kb).length)),(8,.p (i64 i))]) (fun _=>[(3,.box ([str p.part,str p.type].map .p))]) (fun i=>l.length - i) 0 _ (bg.refl _ _) ⟨Nat.zero_le _,by simp⟩ ⟨Z,Z,Z,Z,Y⟩ ⟨Z,Y⟩ fun i hi t h=>?_
 (refine yS<|yP Z<|yT<|an<|ak Z ?_;refine aa (fun h1=>?_) (fun h1=>?_) <;> try simp only[zB] at h1)
 ·rw[lm] at h1
  obtain⟨r,hr⟩:=aH (l:=l) (i:=i) (by omega)
  have he:=Ga r p
  ((refine ar<|ah<|an<|aO<|yS<|yP Z<|yA Z<|yT<|an<|cF [] false Lo rfl (by kernel_rfl)<|cE Z<|yD Z<|yD Z<|yD Z ?_;refine dq Z<|aL zI ?_);refine⟨(kb r),(idx rfl hr),?_⟩)
  (refine bM<|ae<|yD Z<|yD Z<|bR<|bS Z<|ah<|ak Z ?_;refine aa (fun h2=>?_) (fun h2=>?_) <;> try simp only[zB] at h2)
  ·(refine yS<|yP Z<|yA Z<|yT<|aA<|aq<|af<|af<|aq<|af<|aB zi ?_;refine And.intro ?_ trivial)
   have h2:(decide (r.name=p.part) && (decide (r.type=p.type) && true))=true:=by rw[<-he];exact h2
   rw[cY (p:=fun q:Part=>decide (q.name=p.part) && (decide (q.type=p.type) && true)) hr h2 hi.2,Nat.zero_add]
  have h2:(decide (r.name=p.part) && (decide (r.type=p.type) && true))=false:=by
   rw[<-he]
   rw[Bool.eq_false_iff]
   exact fun e=>by rw[e] at h2;cases h2
  (refine ar<|aS<|ah<|aP<|yq Z<|bb zI ?_;refine sI ?_)
  (refine yk<|yP Z<|yT<|au ?_;refine⟨(i+1),_,bg.refl _ _,?_⟩)
  exact⟨⟨by omega,dV (p:=fun q:Part=>decide (q.name=p.part) && (decide (q.type=p.type) && true)) hr h2 hi.2⟩,by omega,⟨Z,Z,Z,Z,Y⟩,⟨Z,Y⟩⟩
 rw[lm] at h1
 (refine bF<|aQ<|aQ<|bG<|ah<|yS<|yA Z<|yR zi ?_;refine And.intro ?_ trivial)
 have h2:=hi.2
 rw[List.take_of_length_le (by omega)] at h2
 rw[cr (p:=fun q:Part=>decide (q.name=p.part) && (decide (q.type=p.type) && true)) h2]
 rfl
theorem uA (l:List Part) (p:Place) (hN:l.length<=140737488355328):aw C 158 [.pv (.sl (l.map kb)),.pv (.ag [str p.part,str p.type])] (.p (bool (l.any fun q:Part=>decide (q.name=p.part) && (decide (q.type=p.type) && true)))) []:=by
 refine aE hC Tryz.func158 rfl rfl 9 rfl (by decide) (by kernel_rfl) fun _ _ _ _ _=>?_
 (refine yS<|yn Z<|az zI<|aR<|ai<|yA Z<|yU<|yP Z<|yP Z<|yn Z<|aL zI ?_;refine⟨_,_,(An l p hN),?_⟩)
 (refine br Z Z<|ae<|yP Z<|yA Z<|yR zi ?_;refine And.intro ?_ trivial)
 rw[<-gB _ l 0]
 rfl
theorem wN (o:Order) (p:Place) (hN:o.list.parts.length<=1000000):aw C 75 [.pv (.ag (nH o)),.pv (.ag (lY p))] (.p (bool (iy o p))) []:=by
 refine aE hC Tryz.func75 rfl rfl 14 rfl (by decide) (by kernel_rfl) fun _ _ _ _ _=>?_
 ((refine yS<|yn Z<|az zI<|aR<|ai<|yn Z<|az zI<|aR<|ai<|yA Z<|yU<|yV Z<|yV Z<|yP Z ?_;refine yV Z<|yP Z<|yV Z<|yP Z<|yP Z<|yn Z<|aL zI ?_);refine⟨_,_,(uA o.list.parts p (by omega)),?_⟩)
 (refine br Z Z<|ae<|yA Z<|yR zi ?_;refine And.intro ?_ trivial)
 rfl
theorem wO (o:Order) (x:ByteArray) (hN:o.feet.length<=1048576):aw C 74 [.pv (.ag (nH o)),.pv (str x)] (.tu [.sl (((dY o.feet x).getD []).map gW),bool (dY o.feet x).isSome]) []:=by
 refine aE hC Tryz.func74 rfl rfl 22 rfl (by decide) (by kernel_rfl) fun _ _ _ _ _=>?_
 have lm:=aJ o.feet tv
 (refine yS<|yn Z<|az zI<|aR<|ai<|yB Z<|yA Z<|yT<|an<|yS<|yV Z<|yP Z<|yP Z<|yP Z ?_;refine yT<|aO ?_)
 refine aC (fun i:Nat=>i<=o.feet.length/\(o.feet.take i).find? (fun f=>decide (f.type=x))=none) (fun i=>[(1,.p (str x)),(9,.p (.sl (o.feet.map tv))),(10,.p (i64 (o.feet.map tv).length)),(11,.p (i64 i))]) (fun _=>[]) (fun i=>o.feet.length - i) 0 _ (bg.refl _ _) ⟨Nat.zero_le _,rfl⟩ ⟨Z,Z,Z,Z,Y⟩ trivial fun i hi t h=>?_
 (refine yS<|yP Z<|yT<|an<|ak Z ?_;refine aa (fun h1=>?_) (fun h1=>?_) <;> try simp only[zB] at h1)
 ·rw[lm] at h1
  obtain⟨f,hf⟩:=aH (l:=o.feet) (i:=i) (by omega)
  have CC:(o.feet.take (i+1)).find? (fun f=>decide (f.type=x))=if f.type=x then some f else none:=by
   rw[bB hf,List.find?_append,hi.2]
   by_cases e:f.type=x <;> simp[e]
  (refine ar<|ah<|an<|aO<|yS<|yq Z<|aL zI ?_;refine⟨(tv f),(idx rfl hf),?_⟩)
  ((refine yk<|yP Z<|yn Z<|az zI<|aR<|ai<|yq Z<|az zI<|aX<|aM<|aU<|yU<|yV Z<|yP Z ?_;refine yP Z<|yP Z<|yT<|ak Z ?_);refine aa (fun h2=>?_) (fun h2=>?_) <;> try simp only[zB] at h2)
  ·have h2:f.type=x:=h2
   rw[if_pos h2] at CC
   have e:o.feet.find? (fun f=>decide (f.type=x))=some f:=by
    rw[<-List.take_append_drop (i+1) o.feet,List.find?_append,CC];rfl
   (refine yS<|yV Z<|yP Z<|yA Z<|yA Z<|yT<|aA<|aq<|af<|af<|aq<|af<|aB zi ?_;refine And.intro ?_ trivial)
   rw[dY,e]
   rfl
  have h2:¬f.type=x:=h2
  rw[if_neg h2] at CC
  (refine ar<|aS<|ah<|aP<|yq Z<|bb zI ?_;refine sI ?_)
  (refine yk<|yP Z<|yT<|au ?_;refine⟨(i+1),_,bg.refl _ _,?_⟩)
  exact⟨⟨by omega,CC⟩,by omega,⟨Z,Z,Z,Z,Y⟩,trivial⟩
 rw[lm] at h1
 have h2:=hi.2
 rw[List.take_of_length_le (by omega)] at h2
 (refine bF<|aQ<|aQ<|bG<|ah<|yS<|yB Z<|yA Z<|yR zi ?_;refine And.intro ?_ trivial)
 rw[dY,h2]
 rfl
def lF (o:Order) (p:Place):Int:=if p.below=true then (gX o.stack:Int) - 1 else 0
def eu (o:Order) (p:Place) (s:gC):kJ:=⟨p.part,s.pin,lF o p,(cQ p.below p.quarters s.x s.y).1+p.x,(cQ p.below p.quarters s.x s.y).2+p.y⟩
def dZ (o:Order) (p:Place):List kJ:=if iy o p=true then ((dY o.feet p.type).getD []).map (eu o p) else []
def bP (o:Order) (i:Nat):List kJ:=(o.places.take i).flatMap (dZ o)
def d_ (o:Order):List kJ:=o.places.flatMap (dZ o)
def Ao (l:kJ):Bool:=bq.ju l.x && bq.ju l.y
def fv (l:List kJ) (k:Nat):Int:=match l[k]? with
 | some x=>if 1000<=k then 2 else if Ao x=true then 0 else 1
 | none=>0
def dP (o:Order):Int:=a8 (fv (d_ o)) 0 (d_ o).length
structure nz (o:Order):Prop where
 ok:f_ o
 parts:cG Part.name o.list.parts/\o.list.parts.length<=1000
 places:∀p∈o.places,¬p.type=aF/\(-1000000<=p.x/\p.x<=1000000)/\(-1000000<=p.y/\p.y<=1000000)/\0<=p.quarters/\p.quarters<=3
 feet:cG fZ.type o.feet/\o.feet.length<=200
 spots:∀f∈o.feet,f.spots.length<=200/\∀s∈f.spots,(-100000<=s.x/\s.x<=100000)/\(-100000<=s.y/\s.y<=100000)
 plots:o.plots.length=gX o.stack
theorem wP {l:List Body} (h:cH l=0):∀x∈l,¬x.name=aF:=fun x hx e=>by
 unfold cH at h
 split at h
 ·cases h
 obtain⟨k,hk⟩:=List.mem_iff_getElem?.1 hx
 have h2:=c_ h k (Nat.zero_le _) (by rw[Nat.zero_add];exact (List.getElem?_eq_some_iff.1 hk).1)
 simp only[gV,hk] at h2
 rw[e,if_neg (by decide)] at h2
 cases h2
theorem tE {o:Order} (ho:f_ o) (h:(dn o).1=0):nz o:=by
 unfold dn at h
 split at h
 ·rename_i h1;exact absurd h h1
 rename_i h1
 have h1:dL o.types o.list=0:=Classical.not_not.1 h1
 split at h
 ·rename_i h2;exact absurd h h2
 split at h
 ·cases h
 rename_i Nk
 split at h
 ·rename_i h3;exact absurd h h3
 unfold iR at h
 split at h
 ·rename_i h4;exact absurd h h4
 split at h
 ·cases h
 split at h
 ·rename_i h5;exact absurd h h5
 rename_i h5
 have h5:cP o.bodies o.places=0:=Classical.not_not.1 h5
 split at h
 ·rename_i h6;exact absurd h h6
 rename_i h6
 have h6:dt o.types o.feet=0:=Classical.not_not.1 h6
 have hp:=ox (fK (fK h1).2).1
 obtain⟨hb,oa⟩:=fK h5
 have O8:=wP hb
 refine⟨ho,⟨hp.ord,hp.len⟩,fun p hp=>?_,?_,fun f hf=>?_,Classical.not_not.1 Nk⟩
 ·split at oa
  ·cases oa
  obtain⟨k,hk⟩:=List.mem_iff_getElem?.1 hp
  have h2:=c_ oa k (Nat.zero_le _) (by rw[Nat.zero_add];exact (List.getElem?_eq_some_iff.1 hk).1)
  simp only[gq,hk] at h2
  have h3:=(fK h2).1
  unfold fo at h3
  split at h3
  ·split at h3
   ·rename_i qZ
    split at h3
    ·rename_i Lu
     split at h3
     ·rename_i hq
      have Lu:(-1000000<=p.x/\p.x<=1000000)/\(-1000000<=p.y/\p.y<=1000000):=by simpa [bq.ju] using Lu
      obtain⟨y,hy,ES⟩:=cZ.1 qZ
      exact⟨fun e=>O8 y hy (ES.trans e),Lu.1,Lu.2,eE.1 hq⟩
     cases h3
    cases h3
   cases h3
  cases h3
 ·unfold dt at h6
  split at h6
  ·cases h6
  refine⟨gH fun i hi=>?_,by omega⟩
  have h2:=c_ h6 i (Nat.zero_le _) (by omega)
  obtain⟨f,hf⟩:=aH (l:=o.feet) (i:=i) hi
  simp only[dX,hf] at h2
  split at h2
  ·split at h2
   ·cases h2
   have h3:=(fK h2).2
   cases e:bE (o.feet.map fZ.type) i with
   | false=>rfl
   | true=>rw[e] at h3;cases h3
  cases h2
 unfold dt at h6
 split at h6
 ·cases h6
 obtain⟨k,hk⟩:=List.mem_iff_getElem?.1 hf
 have h2:=c_ h6 k (Nat.zero_le _) (by rw[Nat.zero_add];exact (List.getElem?_eq_some_iff.1 hk).1)
 simp only[dX,hk] at h2
 split at h2
 ·split at h2
  ·cases h2
  have h3:=(fK h2).1
  refine⟨by omega,fun s hs=>?_⟩
  obtain⟨j,hj⟩:=List.mem_iff_getElem?.1 hs
  have h4:=c_ h3 j (Nat.zero_le _) (by rw[Nat.zero_add];exact (List.getElem?_eq_some_iff.1 hj).1)
  simp only[eQ,hj] at h4
  split at h4
  ·split at h4
   ·rename_i hx
    split at h4
    ·rename_i hy
     exact⟨eE.1 hx,eE.1 hy⟩
    cases h4
   cases h4
  cases h4
 cases h2
theorem wQ {o:Order} (hs:cG Part.name o.list.parts) {p:Place} (hp:¬p.type=aF):decide (tD o p.part=p.type)=iy o p:=by
 rw[Bool.eq_iff_iff,decide_eq_true_iff]
 unfold tD iy
 rw[List.any_eq_true]
 cases h:dk Part.name o.list.parts p.part with
 | false=>
  rw[je h]
  refine⟨fun e=>absurd e.symm hp,fun ⟨q,hq,e⟩=>?_⟩
  simp only[Bool.and_true,Bool.and_eq_true,decide_eq_true_eq] at e
  rw[cZ.2 ⟨q,hq,e.1⟩] at h
  cases h
 | true=>
  obtain⟨k,q,e1,e2,e3,e4⟩:=ig h
  rw[e4]
  refine⟨fun e=>⟨q,List.mem_of_getElem? e2,by simp[e3,show q.type=p.type from e]⟩,fun ⟨r,hr,e⟩=>?_⟩
  simp only[Bool.and_true,Bool.and_eq_true,decide_eq_true_eq] at e
  obtain⟨j,hj⟩:=List.mem_iff_getElem?.1 hr
  have:j=k:=by
   rcases Nat.lt_trichotomy j k with h1 | h1 | h1
   ·have:=cc hs hj e2 h1
    rw[e.1,e3,fJ] at this;cases this
   ·exact h1
   have:=cc hs e2 hj h1
   rw[e.1,e3,fJ] at this;cases this
  subst this
  rw[e2] at hj
  injection hj with hj
  exact (congrArg Part.type hj).trans e.2
theorem Ap {l:List fZ} (hs:cG fZ.type l) {i:Nat} {f:fZ} (hf:l[i]?=some f) (x:ByteArray):dY (l.take (i+1)) x=if x=f.type then some f.spots else dY (l.take i) x:=by
 unfold dY
 rw[bB hf,List.find?_append]
 by_cases e:x=f.type
 ·rw[if_pos e]
  have hn:(l.take i).find? (fun g=>decide (g.type=x))=none:=by
   rw[List.find?_eq_none]
   intro z hz
   obtain⟨j,hj⟩:=List.mem_iff_getElem?.1 hz
   rw[List.getElem?_take] at hj
   split at hj
   ·have:=cc hs hj hf (by assumption)
    simp only[decide_eq_true_eq]
    intro e2
    rw[e2,e,fJ] at this;cases this
   cases hj
  rw[hn]
  simp[e]
 rw[if_neg e]
 have:([f].find? fun g=>decide (g.type=x))=none:=by
  simp
  exact fun h=>e h.symm
 rw[this]
 cases (l.take i).find? fun g=>decide (g.type=x) <;> rfl
theorem qj {o:Order} (hg:nz o) {x:ByteArray}:((dY o.feet x).getD []).length<=200/\∀s∈(dY o.feet x).getD [],(-100000<=s.x/\s.x<=100000)/\(-100000<=s.y/\s.y<=100000):=by
 unfold dY
 cases h:o.feet.find? fun f=>decide (f.type=x) with
 | none=>exact⟨by simp,fun s hs=>by simp at hs⟩
 | some f=>exact hg.spots f (List.mem_of_find?_eq_some h)
theorem lG {o:Order} {i:Nat} {p:Place} (hp:o.places[i]?=some p):bP o (i+1)=bP o i++dZ o p:=by
 unfold bP
 rw[bB hp,List.flatMap_append]
 simp
theorem rM {o:Order} {i:Nat} {p:Place} (hp:o.places[i]?=some p) {j:Nat} {x:kJ} (hx:(dZ o p)[j]?=some x):(d_ o)[(bP o i).length+j]?=some x:=by
 have e:d_ o=bP o (i+1)++(o.places.drop (i+1)).flatMap (dZ o):=by
  unfold d_ bP
  rw[<-List.flatMap_append,List.take_append_drop]
 have hj:=(List.getElem?_eq_some_iff.1 hx).1
 rw[e,lG hp,List.append_assoc,List.getElem?_append_right (by omega),Nat.add_sub_cancel_left,List.getElem?_append_left hj,hx]
theorem jW {o:Order}:bP o o.places.length=d_ o:=by
 unfold bP d_
 rw[List.take_length]
end M
end Go.Proofs.YtiaifckpmefinaaGreatDoor
