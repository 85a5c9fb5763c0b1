/- Part 10 of the proof of HouseDrillingMatchesSpec. -/
import Derived.Test.YtnpkopkpbgflnaaGreatDoorG09
import Derived.DataShut
import Derived.StillTailTactics
set_option linter.unusedVariables false
set_option linter.unusedSimpArgs false
set_option maxRecDepth 100000
set_option maxHeartbeats 8000000
namespace Go
abbrev ED:=@List.cons_append
abbrev sN:=@Go.World.cell?_alloc_at
abbrev za:=@Bool.and_eq_true_iff
end Go
namespace Go.AM
open Go.RowKit Go.ChangeShapes
section
variable {H:Type} {enc:TypeId×Value->H} {P:Program} {w:World} {S:Nat->Prop}
theorem NK{t:TypeId}(u:P.underlying t=some .bool):HZ enc P w S t 1 fun xs d=>∃b:Bool,xs=[.im (.bool b)]:=fun n cs x h=>by
 obtain⟨b,rfl,rfl⟩:=DataW.trod_bool u h;exact⟨[.im (.bool b)],rfl,rfl,one_cell ⟨.im _,rfl⟩,b,rfl⟩
theorem EE{G:DataW H->Prop}{t e:TypeId}{k:Nat}{Q:List PV->DataW H->Prop}(ht:P.underlying t=some (.slice e))(hc:P.cellsOf e=k)(hk:0<k)(hS:∀b,b<w.heap.size->S b)(he:∀n cs x,G x.1->DataW.trod enc P w 0 (fun _=>true) true n e cs=some x->∃xs,xs.length=k/\cs.length=k/\(∀(i:Nat) c v,xs[i]?=some c->cs[i]?=some v->aQ S w c v/\v.oneCell'=true)/\Q xs x.1):
  ∀n cs x,(∀es sp,x.1=.slice es sp->∀y∈es,G y)->DataW.trod enc P w 0 (fun _=>true) true n t cs=some x->∃xs,xs.length=1/\cs.length=1/\(∀(i:Nat) c v,xs[i]?=some c->cs[i]?=some v->aQ S w c v/\v.oneCell'=true)/\(∃(es:List (List PV)) (ds sp:List (DataW H)),xs=[.sl es]/\es.length=ds.length/\(x.1=.nil/\ds=[]\/x.1=.slice ds sp)/\∀(i:Nat) x y,es[i]?=some x->ds[i]?=some y->Q x y):=fun n cs x hG h=>by
 rcases Go.Deep.open_slice ht h with⟨rfl,rfl⟩ | ⟨a,len,cap,m,n,D,Pl,rfl,hb,hl,hm,Ma,rfl,Y⟩
 ·exact⟨[.sl []],rfl,rfl,one_cell ⟨.nil _ _,rfl⟩,[],[],[],rfl,rfl,.inl ⟨rfl,rfl⟩,fun i x y h=>by cases h⟩
 have Qi:len<=m:=by rw[Ma];split<;>omega
 rcases Nat.eq_zero_or_pos len with h0 | U
 ·subst h0;exact⟨[.sl []],rfl,rfl,one_cell ⟨.nil _ _,rfl⟩,[],[],_,rfl,rfl,.inr rfl,fun i x y h=>by cases h⟩
 rw[hc]at Y;have V:∀i,i<len->∃p:List PV×List Value,p.1.length=k/\p.2.length=k/\(∀j,j<k->w.cell? ((a.add (i*k)).add j)=p.2[j]?)/\(∀(j:Nat) c v,p.1[j]?=some c->p.2[j]?=some v->aQ S w c v/\v.oneCell'=true)/\Q p.1 (D i):=fun i hi=>by
  obtain⟨nz,z,d⟩:=Y i (by omega);obtain⟨_,hlen,N⟩:=World.cells?_some z;obtain⟨xs,l1,Z,l3,l4⟩:=he _ _ _ (hG _ _ rfl _ (bF.2 ⟨i,fN.2 hi,rfl⟩)) d;exact⟨(xs,nz),l1,Z,N,l3,l4⟩
 obtain⟨F,I⟩:=D3 (α:=List PV×List Value) V;have O:∀(i:Nat) e,((List.range len).map fun i=>(F i).1)[i]?=some e->i<len/\e=(F i).1:=fun i e h=>by
  rw[aB,aT]at h;obtain⟨j,J,rfl⟩:=h;obtain⟨z,d⟩:=aU.1 J;rw[List.getElem_range]at d;subst d;exact⟨by simpa using z,rfl⟩
 have u:∀i j,i<len->j<k->w.cell? ((a.add (i*k)).add j)=some (((F i).2[j]?).getD .nilIface):=fun i j hi J=>by
  obtain⟨_,Z,h3,_⟩:=I i hi;rw[h3 j J,aX (by omega)];rfl
 have hz:=Jp (u 0 0 U hk);obtain⟨b,R,spot⟩:=a;have rQ:spot=none:=by simpa [Addr.add] using hz.1
 subst rQ;have RT:b<w.heap.size:=by simpa [Addr.add] using hz.2
 have ay:∀i j,((⟨b,R,none⟩:Addr).add (i*k)).add j=⟨b,R+i*k+j,none⟩:=fun i j=>by
  unfold Addr.add;by_cases z:i*k=0
  ·rw[ae z,z];by_cases d:j=0
   ·rw[ae d,d];rfl
   rw[aa d];rfl
  rw[aa z];by_cases d:j=0
  ·rw[ae d,d];rfl
  rw[aa d]
 refine⟨[.sl ((List.range len).map fun i=>(F i).1)],rfl,rfl,one_cell ⟨?_,rfl⟩,(List.range len).map fun i=>(F i).1,(List.range len).map D,_,rfl,by simp,.inr rfl,fun i x y z d=>?_⟩
 ·have hlen:((List.range len).map fun i=>(F i).1).length=len:=by simp
  have:=aQ.sl (S:=S) (w:=w) ((List.range len).map fun i=>(F i).1) k b R cap (fun i j=>((F i).2[j]?).getD .nilIface) (by rw[hlen];exact hl) (hS b RT)
   (fun e T9=>by obtain⟨i,hi,rfl⟩:=bF.1 T9;exact (I i (fN.1 hi)).1)
   (fun i e j x z d=>by
    obtain⟨hi,rfl⟩:=O i e z;have J:j<k:=by rw[<-(I i hi).1];exact (aU.1 d).1
    have W:(F i).2[j]?=some (((F i).2[j]?).getD .nilIface):=by rw[aX (by rw[(I i hi).2.1];exact J)];rfl
    exact⟨by rw[<-ay];exact u i j hi J,((I i hi).2.2.2.1 j x _ d W).2⟩)
   (fun i e j x z d=>by
    obtain⟨hi,rfl⟩:=O i e z;have J:j<k:=by rw[<-(I i hi).1];exact (aU.1 d).1
    have W:(F i).2[j]?=some (((F i).2[j]?).getD .nilIface):=by rw[aX (by rw[(I i hi).2.1];exact J)];rfl
    exact ((I i hi).2.2.2.1 j x _ d W).1)
  rw[hlen]at this;exact this
 obtain⟨hi,rfl⟩:=O i x z;rw[aB,iu hi]at d;cases d;exact (I i hi).2.2.2.2
def bI(S:Nat->Prop)(w:World)(o:Nat)(xs:List PV)(cs:List Value):Prop:=∀(i:Nat) c v,xs[i]?=some c->cs[o+i]?=some v->aQ S w c v/\v.oneCell'=true
variable {cs:List Value}
theorem bI.join{o:Nat}{xs ys:List PV}(h:bI S w o xs cs)(k:bI S w (o+xs.length) ys cs):bI S w o (xs++ys) cs:=fun i c v d u=>by
 by_cases e:i<xs.length
 ·rw[dU e]at d;exact h i c v d u
 rw[dV (by omega)]at d;refine k (i-xs.length) c v d ?_;rw[<-u];congr 1;omega
theorem tA{G:DataW H->Prop}{t:TypeId}{u:Array Field}(N:P.underlying t=some (.struct u))(ks:Nat->Nat)(hk:∀(i:Nat) (f:Field),u[i]?=some f->P.cellsOf f.type=ks i)(Qs:Nat->List PV->DataW H->Prop)(O:∀(i:Nat) (f:Field),u[i]?=some f->∀n cs y,G y.1->DataW.trod enc P w 0 (fun _=>true) true n f.type cs=some y->∃xs,xs.length=ks i/\cs.length=ks i/\(∀(i:Nat) c v,xs[i]?=some c->cs[i]?=some v->aQ S w c v/\v.oneCell'=true)/\Qs i xs y.1){n:Nat}{x:DataW H×List MemPlace}(R:∀es,x.1=.agg es->∀y∈es,G y)(h:DataW.trod enc P w 0 (fun _=>true) true n t cs=some x):
  cs.length=P.cellsOf t/\∃ds:List (DataW H),x.1=.agg ds/\ds.length=u.size/\∀(i:Nat) (f:Field),u[i]?=some f->∃xs d,xs.length=ks i/\bI S w f.offset xs cs/\ds[i]?=some d/\Qs i xs d:=by
 obtain⟨ys,m,_,rfl,U,hlen,V⟩:=DataW.trod_struct N h;refine⟨U,ys.map (·.1),rfl,by rw[aw,hlen],fun i f z=>?_⟩;have hi:i<u.size:=(dq.1 z).1;have D:=V i f z;have I:ys[i]?=some ys[i]:=aX (by omega);rw[I,hk i f z]at D;obtain⟨xs,W,l2,Y,Z⟩:=O i f z _ _ _ (R _ rfl _ (bF.2 ⟨ys[i],uw _,rfl⟩)) D;refine⟨xs,ys[i].1,W,fun j c v J h2=>Y j c v J ?_,by rw[aB,I];rfl,Z⟩;have hj:=(aU.1 J).1;rw[iv (by omega),eE];exact h2
theorem cT{t:TypeId}{u:Array Field}(z:P.underlying t=some (.struct u))(ks:Nat->Nat)(hk:∀(i:Nat) (f:Field),u[i]?=some f->P.cellsOf f.type=ks i)(Qs:Nat->List PV->DataW H->Prop)(D:∀(i:Nat) (f:Field),u[i]?=some f->HZ enc P w S f.type (ks i) (Qs i)){n:Nat}{x:DataW H×List MemPlace}(h:DataW.trod enc P w 0 (fun _=>true) true n t cs=some x):
  cs.length=P.cellsOf t/\∃ds:List (DataW H),x.1=.agg ds/\ds.length=u.size/\∀(i:Nat) (f:Field),u[i]?=some f->∃xs d,xs.length=ks i/\bI S w f.offset xs cs/\ds[i]?=some d/\Qs i xs d:=
 tA (G:=fun _=>True) z ks hk Qs (fun i f I n cs y _ h=>D i f I n cs y h) (fun _ _ _ _=>trivial) h
end
end Go.AM
namespace Go.Proofs.YtnpkopkpbgflnaaGreatDoor
namespace M
open Go.AM Go.RowKit Go.Lib
open Reg (aZ cR gQ)
variable {H:Type} {enc:TypeId×Value->H} {w:World} {S:Nat->Prop}
def Sb(P:Program)(fs:Array Field)(ks:Nat->Nat):Bool:=(List.range fs.size).all fun i=>match fs[i]? with
 | some f=>Nat.beq (P.cellsOf f.type) (ks i)
 | none=>true
theorem dZ{P:Program}{d:Array Field}{ks:Nat->Nat}(h:Sb P d ks=true):∀(i:Nat) (f:Field),d[i]?=some f->P.cellsOf f.type=ks i:=fun i f u=>by
 have hi:=(dq.1 u).1;have:=ep.1 h i (fN.2 hi);rw[u]at this;exact de this
def UB{γ:Type}(OK:γ->Prop):γ->Nat->Prop:=fun r n=>n<=1048576->OK r
variable {γ:Type}
theorem JG{d:γ->Prop}:∀r m n,m<=n->UB d r m->UB d r n:=fun _ _ _ h k u=>k (aO h u)
theorem sO{t:TypeId}{k:Nat}{f:γ->List PV}{B d:γ->Nat->Prop}(h:Sp enc w S t k f B)(hb:∀r n,B r n->d r n):Sp enc w S t k f d:=fun n cs x u=>by
 obtain⟨xs,z,D,I,r,e,b⟩:=h n cs x u;exact⟨xs,z,D,I,r,e,hb _ _ b⟩
theorem us:Sp enc w S 9 1 (fun s=>[str s]) (UB bE):=sO R0 fun _ _ h d=>R2 (aO h d)
theorem ui:Sp enc w S 3 1 (fun n=>[i64 n]) (UB fun _=>True):=sO ym fun _ _ _ _=>trivial
theorem QG:Sp enc w S 4 1 (fun b=>[bool b]) (UB fun _=>True):=fun n cs x h=>by
 obtain⟨xs,d,u,z,b,e⟩:=NK (S:=S) mo n cs x h;exact⟨xs,d,u,z,b,e,fun _=>trivial⟩
theorem AF:Sp enc w S 61 2 (fun p:Int×Int=>[i64 p.1,i64 p.2]) (UB fun _=>True):=sO Nv fun _ _ _ _=>trivial
theorem US:Sp enc w S 125 4 rc (UB fun _=>True):=sO Ju fun _ _ _ _=>trivial
def gR{γ:Type}(OK:γ->Prop)(l:List γ):Prop:=l.length<=1048576/\∀r∈l,OK r
theorem gS{t e:TypeId}{k:Nat}{f:γ->List PV}{d:γ->Prop}(z:Tryz.prog.underlying t=some (.slice e))(D:Tryz.prog.cellsOf e=k)(hk:0<k)(hS:∀b,b<w.heap.size->S b)(I:Sp enc w S e k f (UB d)):Sp enc w S t 1 (fun l:List γ=>[.sl (l.map f)]) (UB (gR d)):=
 sO (ra z D hk hS JG I) fun _ _ h u=>⟨aO h.1 u,fun r J=>h.2 r J u⟩
theorem Sc(hS:∀b,b<w.heap.size->S b):Sp enc w S 41 7 rl (UB sK):=sO (Nu hS) fun r n h d=>Nw (Em _ _ _ d h)
theorem Sd:Sp enc w S 350 3 jJ (UB (fun x=>bE x.name)):=fun n cs x h=>by
 obtain⟨z,ds,e,ld,q⟩:=cT (S:=S) (ks:=fun i=>match i with | _=>1) (hk:=dZ (by kernel_rfl)) (Qs:=fun i xs d=>match i with
   | 0=>∃r:ByteArray,xs=[str r]/\UB bE r (Rows.uptoBulk d)
   | 1=>∃r:Int,xs=[i64 r]/\UB (fun _=>True) r (Rows.uptoBulk d)
   | _=>∃r:Int,xs=[i64 r]/\UB (fun _=>True) r (Rows.uptoBulk d)) Tryz.underlying350 (fun i f u=>by
  match i,u with
  | 0,u=>cases u;exact us
  | 1,u=>cases u;exact ui
  | 2,u=>cases u;exact ui
  | n+3,u=>cases u) h
 have z:cs.length=3:=z.trans (by kernel_rfl);obtain⟨x0,c0,_,R,U,I,V,b0⟩:=q 0 _ rfl;obtain⟨x1,c1,_,W,Y,J,Z,b1⟩:=q 1 _ rfl;obtain⟨x2,c2,_,r2,i2,N,e2,b2⟩:=q 2 _ rfl;cases V;cases Z;cases e2;have D:bI S w 0 ([str I]++([i64 J]++([i64 N]))) cs:=bI.join R (bI.join W (r2));have O:=bu U;have j1:=bu Y;have j2:=bu i2;rw[<-e]at O j1 j2;exact⟨_,rfl,z,fun i c v h1 h2=>D i c v h1 (by rw[aY];exact h2),⟨I,J,N⟩,rfl,fun hn=>b0 (aO O hn)⟩
theorem Se(hS:∀b,b<w.heap.size->S b):Sp enc w S 269 2 kp (UB (fun x=>bE x.name/\Ai x.pins)):=fun n cs x h=>by
 obtain⟨z,ds,e,ld,q⟩:=cT (S:=S) (ks:=fun i=>match i with | _=>1) (hk:=dZ (by kernel_rfl)) (Qs:=fun i xs d=>match i with
   | 0=>∃r:ByteArray,xs=[str r]/\UB bE r (Rows.uptoBulk d)
   | _=>∃r:List cY,xs=[.sl (r.map jJ)]/\UB (gR (fun x:cY=>bE x.name)) r (Rows.uptoBulk d)) Tryz.underlying269 (fun i f u=>by
  match i,u with
  | 0,u=>cases u;exact us
  | 1,u=>cases u;exact gS (k:=3) Tryz.underlying267 (by kernel_rfl) (by decide) hS (Sd)
  | n+2,u=>cases u) h
 have z:cs.length=2:=z.trans (by kernel_rfl);obtain⟨x0,c0,_,U,V,I,W,b0⟩:=q 0 _ rfl;obtain⟨x1,c1,_,Y,Z,J,e1,b1⟩:=q 1 _ rfl;cases W;cases e1;have D:bI S w 0 ([str I]++([.sl (J.map jJ)])) cs:=bI.join U (Y);have N:=bu V;have O:=bu Z;rw[<-e]at N O;exact⟨_,rfl,z,fun i c v h1 h2=>D i c v h1 (by rw[aY];exact h2),⟨I,J⟩,rfl,fun R=>⟨b0 (aO N R),b1 (aO O R)⟩⟩
theorem Sf:Sp enc w S 233 2 uq (UB (fun x=>bE x.name/\bE x.type)):=fun n cs x h=>by
 obtain⟨z,ds,e,ld,q⟩:=cT (S:=S) (ks:=fun i=>match i with | _=>1) (hk:=dZ (by kernel_rfl)) (Qs:=fun i xs d=>match i with
   | 0=>∃r:ByteArray,xs=[str r]/\UB bE r (Rows.uptoBulk d)
   | _=>∃r:ByteArray,xs=[str r]/\UB bE r (Rows.uptoBulk d)) Tryz.underlying233 (fun i f u=>by
  match i,u with
  | 0,u=>cases u;exact us
  | 1,u=>cases u;exact us
  | n+2,u=>cases u) h
 have z:cs.length=2:=z.trans (by kernel_rfl);obtain⟨x0,c0,_,U,V,I,W,b0⟩:=q 0 _ rfl;obtain⟨x1,c1,_,Y,Z,J,e1,b1⟩:=q 1 _ rfl;cases W;cases e1;have D:bI S w 0 ([str I]++([str J])) cs:=bI.join U (Y);have N:=bu V;have O:=bu Z;rw[<-e]at N O;exact⟨_,rfl,z,fun i c v h1 h2=>D i c v h1 (by rw[aY];exact h2),⟨I,J⟩,rfl,fun R=>⟨b0 (aO N R),b1 (aO O R)⟩⟩
theorem UT:Sp enc w S 243 2 pf (UB (fun _=>True)):=fun n cs x h=>by
 obtain⟨z,ds,e,ld,q⟩:=cT (S:=S) (ks:=fun i=>match i with | _=>1) (hk:=dZ (by kernel_rfl)) (Qs:=fun i xs d=>match i with
   | 0=>∃r:ByteArray,xs=[str r]/\UB bE r (Rows.uptoBulk d)
   | _=>∃r:ByteArray,xs=[str r]/\UB bE r (Rows.uptoBulk d)) Tryz.underlying243 (fun i f u=>by
  match i,u with
  | 0,u=>cases u;exact us
  | 1,u=>cases u;exact us
  | n+2,u=>cases u) h
 have z:cs.length=2:=z.trans (by kernel_rfl);obtain⟨x0,c0,_,N,O,I,R,b0⟩:=q 0 _ rfl;obtain⟨x1,c1,_,U,V,J,W,b1⟩:=q 1 _ rfl;cases R;cases W;have D:bI S w 0 ([str I]++([str J])) cs:=bI.join N (U);have Y:=bu O;have Z:=bu V;rw[<-e]at Y Z;exact⟨_,rfl,z,fun i c v h1 h2=>D i c v h1 (by rw[aY];exact h2),⟨I,J⟩,rfl,fun hn=>trivial⟩
theorem UU(hS:∀b,b<w.heap.size->S b):Sp enc w S 240 3 Al (UB (fun n=>bE n.name/\n.pins.length<=1048576/\n.ports.length<=1048576)):=fun n cs x h=>by
 obtain⟨z,ds,e,ld,q⟩:=cT (S:=S) (ks:=fun i=>match i with | _=>1) (hk:=dZ (by kernel_rfl)) (Qs:=fun i xs d=>match i with
   | 0=>∃r:ByteArray,xs=[str r]/\UB bE r (Rows.uptoBulk d)
   | 1=>∃r:List nG,xs=[.sl (r.map pf)]/\UB (gR (fun _=>True)) r (Rows.uptoBulk d)
   | _=>∃r:List ByteArray,xs=[strs r]/\UB (gR bE) r (Rows.uptoBulk d)) Tryz.underlying240 (fun i f u=>by
  match i,u with
  | 0,u=>cases u;exact us
  | 1,u=>cases u;exact gS (k:=2) Tryz.underlying238 (by kernel_rfl) (by decide) hS (UT)
  | 2,u=>cases u;exact gS (k:=1) Tryz.underlying73 (by kernel_rfl) (by decide) hS us
  | n+3,u=>cases u) h
 have z:cs.length=3:=z.trans (by kernel_rfl);obtain⟨x0,c0,_,W,Y,J,Z,b0⟩:=q 0 _ rfl;obtain⟨x1,c1,_,r1,i1,N,e1,b1⟩:=q 1 _ rfl;obtain⟨x2,c2,_,r2,i2,O,e2,b2⟩:=q 2 _ rfl;cases Z;cases e1;cases e2;have D:bI S w 0 ([str J]++([.sl (N.map pf)]++([strs O]))) cs:=bI.join W (bI.join r1 (r2));have R:=bu Y;have U:=bu i1;have V:=bu i2;rw[<-e]at R U V;exact⟨_,rfl,z,fun i c v h1 h2=>D i c v h1 (by rw[aY];exact h2),⟨J,N,O⟩,rfl,fun I=>⟨b0 (aO R I),(b1 (aO U I)).1,(b2 (aO V I)).1⟩⟩
theorem Sg(hS:∀b,b<w.heap.size->S b):Sp enc w S 26 2 GX (UB wX):=fun n cs x h=>by
 obtain⟨z,ds,e,ld,q⟩:=cT (S:=S) (ks:=fun i=>match i with | _=>1) (hk:=dZ (by kernel_rfl)) (Qs:=fun i xs d=>match i with
   | 0=>∃r:List Part,xs=[.sl (r.map uq)]/\UB (gR (fun x:Part=>bE x.name/\bE x.type)) r (Rows.uptoBulk d)
   | _=>∃r:List Net,xs=[.sl (r.map Al)]/\UB (gR (fun n:Net=>bE n.name/\n.pins.length<=1048576/\n.ports.length<=1048576)) r (Rows.uptoBulk d)) Tryz.underlying26 (fun i f u=>by
  match i,u with
  | 0,u=>cases u;exact gS (k:=2) Tryz.underlying23 (by kernel_rfl) (by decide) hS (Sf)
  | 1,u=>cases u;exact gS (k:=3) Tryz.underlying24 (by kernel_rfl) (by decide) hS (UU hS)
  | n+2,u=>cases u) h
 have z:cs.length=2:=z.trans (by kernel_rfl);obtain⟨x0,c0,_,U,V,I,W,b0⟩:=q 0 _ rfl;obtain⟨x1,c1,_,Y,Z,J,e1,b1⟩:=q 1 _ rfl;cases W;cases e1;have D:bI S w 0 ([.sl (I.map uq)]++([.sl (J.map Al)])) cs:=bI.join U (Y);have N:=bu V;have O:=bu Z;rw[<-e]at N O;exact⟨_,rfl,z,fun i c v h1 h2=>D i c v h1 (by rw[aY];exact h2),⟨I,J⟩,rfl,fun R=>⟨b0 (aO N R),b1 (aO O R)⟩⟩
theorem UW:Sp enc w S 183 4 iX (UB (fun x=>bE x.name)):=fun n cs x h=>by
 obtain⟨z,ds,e,ld,q⟩:=cT (S:=S) (ks:=fun i=>match i with | _=>1) (hk:=dZ (by kernel_rfl)) (Qs:=fun i xs d=>match i with
   | 0=>∃r:ByteArray,xs=[str r]/\UB bE r (Rows.uptoBulk d)
   | 1=>∃r:Int,xs=[i64 r]/\UB (fun _=>True) r (Rows.uptoBulk d)
   | 2=>∃r:Int,xs=[i64 r]/\UB (fun _=>True) r (Rows.uptoBulk d)
   | _=>∃r:Int,xs=[i64 r]/\UB (fun _=>True) r (Rows.uptoBulk d)) Tryz.underlying183 (fun i f u=>by
  match i,u with
  | 0,u=>cases u;exact us
  | 1,u=>cases u;exact ui
  | 2,u=>cases u;exact ui
  | 3,u=>cases u;exact ui
  | n+4,u=>cases u) h
 have z:cs.length=4:=z.trans (by kernel_rfl);obtain⟨x0,c0,_,U,V,I,W,b0⟩:=q 0 _ rfl;obtain⟨x1,c1,_,Y,Z,J,e1,b1⟩:=q 1 _ rfl;obtain⟨x2,c2,_,r2,i2,N,e2,b2⟩:=q 2 _ rfl;obtain⟨x3,c3,_,r3,i3,O,e3,b3⟩:=q 3 _ rfl;cases W;cases e1;cases e2;cases e3;have D:bI S w 0 ([str I]++([i64 J]++([i64 N]++([i64 O])))) cs:=bI.join U (bI.join Y (bI.join r2 (r3)));have R:=bu V;have j1:=bu Z;have j2:=bu i2;have j3:=bu i3;rw[<-e]at R j1 j2 j3;exact⟨_,rfl,z,fun i c v h1 h2=>D i c v h1 (by rw[aY];exact h2),⟨I,J,N,O⟩,rfl,fun hn=>b0 (aO R hn)⟩
theorem UX:Sp enc w S 169 2 gJ (UB (fun x=>bE x.name/\bE x.mat)):=fun n cs x h=>by
 obtain⟨z,ds,e,ld,q⟩:=cT (S:=S) (ks:=fun i=>match i with | _=>1) (hk:=dZ (by kernel_rfl)) (Qs:=fun i xs d=>match i with
   | 0=>∃r:ByteArray,xs=[str r]/\UB bE r (Rows.uptoBulk d)
   | _=>∃r:ByteArray,xs=[str r]/\UB bE r (Rows.uptoBulk d)) Tryz.underlying169 (fun i f u=>by
  match i,u with
  | 0,u=>cases u;exact us
  | 1,u=>cases u;exact us
  | n+2,u=>cases u) h
 have z:cs.length=2:=z.trans (by kernel_rfl);obtain⟨x0,c0,_,U,V,I,W,b0⟩:=q 0 _ rfl;obtain⟨x1,c1,_,Y,Z,J,e1,b1⟩:=q 1 _ rfl;cases W;cases e1;have D:bI S w 0 ([str I]++([str J])) cs:=bI.join U (Y);have N:=bu V;have O:=bu Z;rw[<-e]at N O;exact⟨_,rfl,z,fun i c v h1 h2=>D i c v h1 (by rw[aY];exact h2),⟨I,J⟩,rfl,fun R=>⟨b0 (aO N R),b1 (aO O R)⟩⟩
theorem Sh(hS:∀b,b<w.heap.size->S b):Sp enc w S 253 2 BN (UB Et):=fun n cs x h=>by
 obtain⟨z,ds,e,ld,q⟩:=cT (S:=S) (ks:=fun i=>match i with | _=>1) (hk:=dZ (by kernel_rfl)) (Qs:=fun i xs d=>match i with
   | 0=>∃r:ByteArray,xs=[str r]/\UB bE r (Rows.uptoBulk d)
   | _=>∃r:List aZ,xs=[cd r]/\UB (gR fun _=>True) r (Rows.uptoBulk d)) Tryz.underlying253 (fun i f u=>by
  match i,u with
  | 0,u=>cases u;exact us
  | 1,u=>cases u;exact gS (k:=4) Tryz.underlying66 (by kernel_rfl) (by decide) hS US
  | n+2,u=>cases u) h
 have z:cs.length=2:=z.trans (by kernel_rfl);obtain⟨x0,c0,_,U,V,I,W,b0⟩:=q 0 _ rfl;obtain⟨x1,c1,_,Y,Z,J,e1,b1⟩:=q 1 _ rfl;cases W;cases e1;have D:bI S w 0 ([str I]++([cd J])) cs:=bI.join U (Y);have N:=bu V;have O:=bu Z;rw[<-e]at N O;exact⟨_,rfl,z,fun i c v h1 h2=>D i c v h1 (by rw[aY];exact h2),⟨I,J⟩,rfl,fun R=>⟨b0 (aO N R),(b1 (aO O R)).1⟩⟩
theorem Si:Sp enc w S 63 6 l5 (UB (fun _=>True)):=fun n cs x h=>by
 obtain⟨D,ds,e,ld,q⟩:=cT (S:=S) (ks:=fun i=>match i with | 0=>2 | _=>1) (hk:=dZ (by kernel_rfl)) (Qs:=fun i xs d=>match i with
   | 0=>∃r:Int×Int,xs=[i64 r.1,i64 r.2]/\UB (fun _=>True) r (Rows.uptoBulk d)
   | 1=>∃r:Int,xs=[i64 r]/\UB (fun _=>True) r (Rows.uptoBulk d)
   | 2=>∃r:Int,xs=[i64 r]/\UB (fun _=>True) r (Rows.uptoBulk d)
   | 3=>∃r:Int,xs=[i64 r]/\UB (fun _=>True) r (Rows.uptoBulk d)
   | _=>∃r:Bool,xs=[bool r]/\UB (fun _=>True) r (Rows.uptoBulk d)) Tryz.underlying63 (fun i f u=>by
  match i,u with
  | 0,u=>cases u;exact AF
  | 1,u=>cases u;exact ui
  | 2,u=>cases u;exact ui
  | 3,u=>cases u;exact ui
  | 4,u=>cases u;exact QG
  | n+5,u=>cases u) h
 have D:cs.length=6:=D.trans (by kernel_rfl);obtain⟨x0,c0,_,U,V,z,W,b0⟩:=q 0 _ rfl;obtain⟨x1,c1,_,Y,Z,J,e1,b1⟩:=q 1 _ rfl;obtain⟨x2,c2,_,r2,i2,N,e2,b2⟩:=q 2 _ rfl;obtain⟨x3,c3,_,r3,i3,O,e3,b3⟩:=q 3 _ rfl;obtain⟨x4,c4,_,r4,i4,R,e4,b4⟩:=q 4 _ rfl;cases W;cases e1;cases e2;cases e3;cases e4;have I:bI S w 0 ([i64 z.1,i64 z.2]++([i64 J]++([i64 N]++([i64 O]++([bool R]))))) cs:=bI.join U (bI.join Y (bI.join r2 (bI.join r3 (r4))));have j0:=bu V;have j1:=bu Z;have j2:=bu i2;have j3:=bu i3;have j4:=bu i4;rw[<-e]at j0 j1 j2 j3 j4;exact⟨_,rfl,D,fun i c v h1 h2=>I i c v h1 (by rw[aY];exact h2),⟨z.1,z.2,J,N,O,R⟩,rfl,fun hn=>trivial⟩
theorem Sj:Sp enc w S 259 5 rj (UB (fun x=>bE x.name/\bE x.nozzle)):=fun n cs x h=>by
 obtain⟨z,ds,e,ld,q⟩:=cT (S:=S) (ks:=fun i=>match i with | _=>1) (hk:=dZ (by kernel_rfl)) (Qs:=fun i xs d=>match i with
   | 0=>∃r:ByteArray,xs=[str r]/\UB bE r (Rows.uptoBulk d)
   | 1=>∃r:Int,xs=[i64 r]/\UB (fun _=>True) r (Rows.uptoBulk d)
   | 2=>∃r:Int,xs=[i64 r]/\UB (fun _=>True) r (Rows.uptoBulk d)
   | 3=>∃r:Int,xs=[i64 r]/\UB (fun _=>True) r (Rows.uptoBulk d)
   | _=>∃r:ByteArray,xs=[str r]/\UB bE r (Rows.uptoBulk d)) Tryz.underlying259 (fun i f u=>by
  match i,u with
  | 0,u=>cases u;exact us
  | 1,u=>cases u;exact ui
  | 2,u=>cases u;exact ui
  | 3,u=>cases u;exact ui
  | 4,u=>cases u;exact us
  | n+5,u=>cases u) h
 have z:cs.length=5:=z.trans (by kernel_rfl);obtain⟨x0,c0,_,Y,Z,I,e0,b0⟩:=q 0 _ rfl;obtain⟨x1,c1,_,r1,i1,J,e1,b1⟩:=q 1 _ rfl;obtain⟨x2,c2,_,r2,i2,N,e2,b2⟩:=q 2 _ rfl;obtain⟨x3,c3,_,r3,i3,O,e3,b3⟩:=q 3 _ rfl;obtain⟨x4,c4,_,r4,i4,R,e4,b4⟩:=q 4 _ rfl;cases e0;cases e1;cases e2;cases e3;cases e4;have D:bI S w 0 ([str I]++([i64 J]++([i64 N]++([i64 O]++([str R]))))) cs:=bI.join Y (bI.join r1 (bI.join r2 (bI.join r3 (r4))));have U:=bu Z;have j1:=bu i1;have j2:=bu i2;have j3:=bu i3;have V:=bu i4;rw[<-e]at U j1 j2 j3 V;exact⟨_,rfl,z,fun i c v h1 h2=>D i c v h1 (by rw[aY];exact h2),⟨I,J,N,O,R⟩,rfl,fun W=>⟨b0 (aO U W),b4 (aO V W)⟩⟩
theorem Pz:Sp enc w S 217 6 Gq (UB (fun x=>bE x.part/\bE x.type)):=fun n cs x h=>by
 obtain⟨D,ds,e,ld,q⟩:=cT (S:=S) (ks:=fun i=>match i with | 2=>2 | _=>1) (hk:=dZ (by kernel_rfl)) (Qs:=fun i xs d=>match i with
   | 0=>∃r:ByteArray,xs=[str r]/\UB bE r (Rows.uptoBulk d)
   | 1=>∃r:ByteArray,xs=[str r]/\UB bE r (Rows.uptoBulk d)
   | 2=>∃r:Int×Int,xs=[i64 r.1,i64 r.2]/\UB (fun _=>True) r (Rows.uptoBulk d)
   | 3=>∃r:Int,xs=[i64 r]/\UB (fun _=>True) r (Rows.uptoBulk d)
   | _=>∃r:Bool,xs=[bool r]/\UB (fun _=>True) r (Rows.uptoBulk d)) Tryz.underlying217 (fun i f u=>by
  match i,u with
  | 0,u=>cases u;exact us
  | 1,u=>cases u;exact us
  | 2,u=>cases u;exact AF
  | 3,u=>cases u;exact ui
  | 4,u=>cases u;exact QG
  | n+5,u=>cases u) h
 have D:cs.length=6:=D.trans (by kernel_rfl);obtain⟨x0,c0,_,Y,Z,J,e0,b0⟩:=q 0 _ rfl;obtain⟨x1,c1,_,r1,i1,N,e1,b1⟩:=q 1 _ rfl;obtain⟨x2,c2,_,r2,i2,z,e2,b2⟩:=q 2 _ rfl;obtain⟨x3,c3,_,r3,i3,O,e3,b3⟩:=q 3 _ rfl;obtain⟨x4,c4,_,r4,i4,R,e4,b4⟩:=q 4 _ rfl;cases e0;cases e1;cases e2;cases e3;cases e4;have I:bI S w 0 ([str J]++([str N]++([i64 z.1,i64 z.2]++([i64 O]++([bool R]))))) cs:=bI.join Y (bI.join r1 (bI.join r2 (bI.join r3 (r4))));have U:=bu Z;have V:=bu i1;have j2:=bu i2;have j3:=bu i3;have j4:=bu i4;rw[<-e]at U V j2 j3 j4;exact⟨_,rfl,D,fun i c v h1 h2=>I i c v h1 (by rw[aY];exact h2),⟨J,N,z.1,z.2,O,R⟩,rfl,fun W=>⟨b0 (aO U W),b1 (aO V W)⟩⟩
theorem Sk:Sp enc w S 223 3 yu (UB (fun s=>bE s.pin)):=fun n cs x h=>by
 obtain⟨D,ds,e,ld,q⟩:=cT (S:=S) (ks:=fun i=>match i with | 1=>2 | _=>1) (hk:=dZ (by kernel_rfl)) (Qs:=fun i xs d=>match i with
   | 0=>∃r:ByteArray,xs=[str r]/\UB bE r (Rows.uptoBulk d)
   | _=>∃r:Int×Int,xs=[i64 r.1,i64 r.2]/\UB (fun _=>True) r (Rows.uptoBulk d)) Tryz.underlying223 (fun i f u=>by
  match i,u with
  | 0,u=>cases u;exact us
  | 1,u=>cases u;exact AF
  | n+2,u=>cases u) h
 have D:cs.length=3:=D.trans (by kernel_rfl);obtain⟨x0,c0,_,O,R,J,U,b0⟩:=q 0 _ rfl;obtain⟨x1,c1,_,V,W,z,Y,b1⟩:=q 1 _ rfl;cases U;cases Y;have I:bI S w 0 ([str J]++([i64 z.1,i64 z.2])) cs:=bI.join O (V);have N:=bu R;have Z:=bu W;rw[<-e]at N Z;exact⟨_,rfl,D,fun i c v h1 h2=>I i c v h1 (by rw[aY];exact h2),⟨J,z.1,z.2⟩,rfl,fun hn=>b0 (aO N hn)⟩
theorem Sl(hS:∀b,b<w.heap.size->S b):Sp enc w S 264 2 GY (UB (fun f=>bE f.type/\f.spots.length<=1048576/\∀s∈f.spots,bE s.pin)):=fun n cs x h=>by
 obtain⟨z,ds,e,ld,q⟩:=cT (S:=S) (ks:=fun i=>match i with | _=>1) (hk:=dZ (by kernel_rfl)) (Qs:=fun i xs d=>match i with
   | 0=>∃r:ByteArray,xs=[str r]/\UB bE r (Rows.uptoBulk d)
   | _=>∃r:List lI,xs=[.sl (r.map yu)]/\UB (gR (fun s:lI=>bE s.pin)) r (Rows.uptoBulk d)) Tryz.underlying264 (fun i f u=>by
  match i,u with
  | 0,u=>cases u;exact us
  | 1,u=>cases u;exact gS (k:=3) Tryz.underlying218 (by kernel_rfl) (by decide) hS (Sk)
  | n+2,u=>cases u) h
 have z:cs.length=2:=z.trans (by kernel_rfl);obtain⟨x0,c0,_,V,W,N,Y,b0⟩:=q 0 _ rfl;obtain⟨x1,c1,_,Z,i1,O,e1,R⟩:=q 1 _ rfl;cases Y;cases e1;have D:bI S w 0 ([str N]++([.sl (O.map yu)])) cs:=bI.join V (Z);have U:=bu W;have I:=bu i1;rw[<-e]at U I;exact⟨_,rfl,z,fun i c v h1 h2=>D i c v h1 (by rw[aY];exact h2),⟨N,O⟩,rfl,fun J=>⟨b0 (aO U J),(R (aO I J)).1,(R (aO I J)).2⟩⟩
def vL:List (iZ×Steps)->Steps
 | []=>.nil
 | (s,u)::r=>.cons s u (vL r)
theorem qc:∀l:List (iZ×Steps),(vL l).rows=l.map fun x=>pg x.1 x.2.rows
 | []=>rfl
 | (s,u)::r=>by rw[vL,Steps.rows,qc r];rfl
def QH(x:iZ×Steps):Prop:=p_ x.1/\x.2.rows.length<=1048576/\x.2.ok
theorem AG:∀l:List (iZ×Steps),(∀x∈l,QH x)->(vL l).ok
 | [],_=>trivial
 | (s,u)::r,h=>by
  obtain⟨d,z,D⟩:=h (s,u) bK;exact⟨d,z,D,AG r fun x I=>h x (cK _ I)⟩
def zb(u:Steps):Prop:=u.rows.length<=1048576/\u.ok
theorem Im(hS:∀b,b<w.heap.size->S b):∀(N n:Nat) (cs:List Value) (x:DataW H×List MemPlace),SizeOf.sizeOf x.1<N->DataW.trod enc Tryz.prog w 0 (fun _=>true) true n 31 cs=some x->∃xs,xs.length=1/\cs.length=1/\(∀(i:Nat) c v,xs[i]?=some c->cs[i]?=some v->aQ S w c v/\v.oneCell'=true)/\∃u:Steps,xs=[.sl u.rows]/\UB zb u (Rows.uptoBulk x.1):=by
 intro N
 induction N with
 | zero=>intro n cs x h;omega
 | succ N ih=>
  intro n cs x hN h;obtain⟨xs,l1,l2,l3,es,ds,sp',V,J,hd,q⟩:=EE (S:=S) (k:=8) (G:=fun y=>SizeOf.sizeOf y<N) (Q:=fun xs d=>∃r:iZ×Steps,xs=pg r.1 r.2.rows/\UB QH r (Rows.uptoBulk d)) Tryz.underlying31 (by kernel_rfl) (by decide) hS (fun n cs x hx h=>by
   obtain⟨J,ds,e,ld,q⟩:=tA (S:=S) (G:=fun y=>SizeOf.sizeOf y<N) (ks:=fun i=>match i with | 2=>2 | _=>1) (hk:=dZ (by kernel_rfl)) (Qs:=fun i xs d=>match i with
     | 0=>∃r:Int,xs=[i64 r]/\UB (fun _=>True) r (Rows.uptoBulk d)
     | 1=>∃r:ByteArray,xs=[str r]/\UB bE r (Rows.uptoBulk d)
     | 2=>∃r:Int×Int,xs=[i64 r.1,i64 r.2]/\UB (fun _=>True) r (Rows.uptoBulk d)
     | 3=>∃r:List (Int×Int),xs=[.sl (r.map fun p=>[i64 p.1,i64 p.2])]/\UB (gR fun _=>True) r (Rows.uptoBulk d)
     | 4=>∃r:Int,xs=[i64 r]/\UB (fun _=>True) r (Rows.uptoBulk d)
     | 5=>∃r:Int,xs=[i64 r]/\UB (fun _=>True) r (Rows.uptoBulk d)
     | _=>∃u:Steps,xs=[.sl u.rows]/\UB zb u (Rows.uptoBulk d)) Tryz.underlying342 (fun i f z n cs y O h=>by
    match i,z with
    | 0,z=>cases z;exact ui n cs y h
    | 1,z=>cases z;exact us n cs y h
    | 2,z=>cases z;exact AF n cs y h
    | 3,z=>cases z;exact gS (k:=2) Tryz.underlying54 (by kernel_rfl) (by decide) hS AF n cs y h
    | 4,z=>cases z;exact ui n cs y h
    | 5,z=>cases z;exact ui n cs y h
    | 6,z=>cases z;exact ih n cs y O h
    | n+7,z=>cases z) (fun es W y O=>by
     have D:=List.sizeOf_lt_of_mem O;have R:SizeOf.sizeOf x.1=1+SizeOf.sizeOf es:=by rw[W];simp
     omega) h
   have J:cs.length=8:=J.trans (by kernel_rfl);obtain⟨x0,c0,_,r0,i0,n0,e0,b0⟩:=q 0 _ rfl;obtain⟨x1,c1,_,r1,i1,n1,V,b1⟩:=q 1 _ rfl;obtain⟨x2,c2,_,r2,i2,U,e2,b2⟩:=q 2 _ rfl;obtain⟨x3,c3,_,r3,i3,n3,e3,b3⟩:=q 3 _ rfl;obtain⟨x4,c4,_,r4,i4,n4,e4,b4⟩:=q 4 _ rfl;obtain⟨x5,c5,_,r5,i5,n5,e5,b5⟩:=q 5 _ rfl;obtain⟨x6,c6,_,r6,i6,n6,e6,b6⟩:=q 6 _ rfl;cases e0;cases V;cases e2;cases e3;cases e4;cases e5;cases e6;have Y:bI S w 0 ([i64 n0]++([str n1]++([i64 U.1,i64 U.2]++([.sl (n3.map fun p=>[i64 p.1,i64 p.2])]++([i64 n4]++([i64 n5]++[.sl n6.rows])))))) cs:=bI.join r0 (bI.join r1 (bI.join r2 (bI.join r3 (bI.join r4 (bI.join r5 r6)))));have j1:=bu i1;have j3:=bu i3;have Z:=bu i6;rw[<-e]at j1 j3 Z;exact⟨_,rfl,J,fun i c v D R=>Y i c v D (by rw[aY];exact R),(⟨n0,n1,U.1,U.2,n3,n4,n5⟩,n6),rfl,fun I=>⟨⟨b1 (aO j1 I),(b3 (aO j3 I)).1⟩,(b6 (aO Z I)).1,(b6 (aO Z I)).2⟩⟩) n cs x (fun es sp W y O=>by
    have D:=List.sizeOf_lt_of_mem O;have R:SizeOf.sizeOf x.1=1+SizeOf.sizeOf es+SizeOf.sizeOf sp:=by rw[W];simp
    omega) h
  obtain⟨l,rfl,b1,b2⟩:=El (f:=fun r:iZ×Steps=>pg r.1 r.2.rows) JG J q;have hb:Rows.uptoBulkAll ds<=Rows.uptoBulk x.1:=by
   rcases hd with⟨D,R⟩ | D
   ·rw[R];exact ai _
   rw[D];simp only[Rows.uptoBulk];omega
  refine⟨xs,l1,l2,l3,vL l,by rw[V,qc],fun I=>⟨?_,AG l fun r hr=>b2 r hr (aO hb I)⟩⟩;rw[qc,aw];omega
theorem PA(hS:∀b,b<w.heap.size->S b):Sp enc w S 31 1 (fun u:Steps=>[.sl u.rows]) (UB zb):=fun n cs x h=>Im hS _ n cs x (Nat.lt_succ_self _) h
theorem NL(hS:∀b,b<w.heap.size->S b):Sp enc w S 33 3 di (UB ru):=fun n cs x h=>by
 obtain⟨z,ds,e,ld,q⟩:=cT (S:=S) (ks:=fun i=>match i with | _=>1) (hk:=dZ (by kernel_rfl)) (Qs:=fun i xs d=>match i with
   | 0=>∃r:Int,xs=[i64 r]/\UB (fun _=>True) r (Rows.uptoBulk d)
   | 1=>∃r:List dw,xs=[.sl (r.map BN)]/\UB (gR Et) r (Rows.uptoBulk d)
   | _=>∃r:Steps,xs=[.sl r.rows]/\UB zb r (Rows.uptoBulk d)) Tryz.underlying33 (fun i f u=>by
  match i,u with
  | 0,u=>cases u;exact ui
  | 1,u=>cases u;exact gS (k:=2) Tryz.underlying30 (by kernel_rfl) (by decide) hS (Sh hS)
  | 2,u=>cases u;exact PA hS
  | n+3,u=>cases u) h
 have z:cs.length=3:=z.trans (by kernel_rfl);obtain⟨x0,c0,_,V,W,I,Y,b0⟩:=q 0 _ rfl;obtain⟨x1,c1,_,Z,i1,J,e1,b1⟩:=q 1 _ rfl;obtain⟨x2,c2,_,r2,i2,N,e2,b2⟩:=q 2 _ rfl;cases Y;cases e1;cases e2;have D:bI S w 0 ([i64 I]++([.sl (J.map BN)]++([.sl N.rows]))) cs:=bI.join V (bI.join Z (r2));have j0:=bu W;have O:=bu i1;have R:=bu i2;rw[<-e]at j0 O R;exact⟨_,rfl,z,fun i c v h1 h2=>D i c v h1 (by rw[aY];exact h2),⟨I,J,N⟩,rfl,fun U=>⟨b1 (aO O U),b2 (aO R U)⟩⟩
theorem PB(hS:∀b,b<w.heap.size->S b):Sp enc w S 43 20 oF (UB jn):=fun n cs x h=>by
 obtain⟨I,ds,e,ld,q⟩:=cT (S:=S) (ks:=fun i=>match i with | 1=>2 | 5=>3 | 10=>7 | _=>1) (hk:=dZ (by kernel_rfl)) (Qs:=fun i xs d=>match i with
   | 0=>∃r:List aS,xs=[.sl (r.map kp)]/\UB (gR (fun x:aS=>bE x.name/\Ai x.pins)) r (Rows.uptoBulk d)
   | 1=>∃r:wQ,xs=GX r/\UB wX r (Rows.uptoBulk d)
   | 2=>∃r:List cw,xs=[.sl (r.map iX)]/\UB (gR (fun x:cw=>bE x.name)) r (Rows.uptoBulk d)
   | 3=>∃r:List Lay,xs=[.sl (r.map gJ)]/\UB (gR (fun x:Lay=>bE x.name/\bE x.mat)) r (Rows.uptoBulk d)
   | 4=>∃r:List ic,xs=[.sl (r.map di)]/\UB (gR ru) r (Rows.uptoBulk d)
   | 5=>∃r:ic,xs=di r/\UB ru r (Rows.uptoBulk d)
   | 6=>∃r:List oZ,xs=[.sl (r.map l5)]/\UB (gR (fun _:oZ=>True)) r (Rows.uptoBulk d)
   | 7=>∃r:List Body,xs=[.sl (r.map rj)]/\UB (gR (fun x:Body=>bE x.name/\bE x.nozzle)) r (Rows.uptoBulk d)
   | 8=>∃r:List Place,xs=[.sl (r.map Gq)]/\UB (gR (fun x:Place=>bE x.part/\bE x.type)) r (Rows.uptoBulk d)
   | 9=>∃r:List kI,xs=[.sl (r.map GY)]/\UB (gR (fun f:kI=>bE f.type/\f.spots.length<=1048576/\∀s∈f.spots,bE s.pin)) r (Rows.uptoBulk d)
   | _=>∃r:qt,xs=rl r/\UB sK r (Rows.uptoBulk d)) Tryz.underlying43 (fun i f u=>by
  match i,u with
  | 0,u=>cases u;exact gS (k:=2) Tryz.underlying22 (by kernel_rfl) (by decide) hS (Se hS)
  | 1,u=>cases u;exact Sg hS
  | 2,u=>cases u;exact gS (k:=4) Tryz.underlying27 (by kernel_rfl) (by decide) hS (UW)
  | 3,u=>cases u;exact gS (k:=2) Tryz.underlying28 (by kernel_rfl) (by decide) hS (UX)
  | 4,u=>cases u;exact gS (k:=3) Tryz.underlying29 (by kernel_rfl) (by decide) hS (NL hS)
  | 5,u=>cases u;exact NL hS
  | 6,u=>cases u;exact gS (k:=6) Tryz.underlying34 (by kernel_rfl) (by decide) hS (Si)
  | 7,u=>cases u;exact gS (k:=5) Tryz.underlying35 (by kernel_rfl) (by decide) hS (Sj)
  | 8,u=>cases u;exact gS (k:=6) Tryz.underlying36 (by kernel_rfl) (by decide) hS (Pz)
  | 9,u=>cases u;exact gS (k:=2) Tryz.underlying37 (by kernel_rfl) (by decide) hS (Sl hS)
  | 10,u=>cases u;exact Sc hS
  | n+11,u=>cases u) h
 have I:cs.length=20:=I.trans (by kernel_rfl);obtain⟨x0,c0,_,r0,i0,O,e0,b0⟩:=q 0 _ rfl;obtain⟨x1,c1,_,r1,i1,R,e1,b1⟩:=q 1 _ rfl;obtain⟨x2,c2,_,r2,i2,U,e2,b2⟩:=q 2 _ rfl;obtain⟨x3,c3,_,r3,i3,V,e3,b3⟩:=q 3 _ rfl;obtain⟨x4,c4,_,r4,i4,W,e4,b4⟩:=q 4 _ rfl;obtain⟨x5,c5,_,r5,i5,Y,e5,b5⟩:=q 5 _ rfl;obtain⟨x6,c6,_,r6,i6,n6,e6,b6⟩:=q 6 _ rfl;obtain⟨x7,c7,_,r7,i7,Z,e7,b7⟩:=q 7 _ rfl;obtain⟨x8,c8,_,r8,i8,n8,e8,b8⟩:=q 8 _ rfl;obtain⟨x9,c9,_,r9,i9,n9,e9,b9⟩:=q 9 _ rfl;obtain⟨x10,c10,_,ZT,J,D,Tg,ZU⟩:=q 10 _ rfl;cases e0;cases e1;cases e2;cases e3;cases e4;cases e5;cases e6;cases e7;cases e8;cases e9;cases Tg;have N:bI S w 0 ([.sl (O.map kp)]++(GX R++([.sl (U.map iX)]++([.sl (V.map gJ)]++([.sl (W.map di)]++(di Y++([.sl (n6.map l5)]++([.sl (Z.map rj)]++([.sl (n8.map Gq)]++([.sl (n9.map GY)]++(rl D))))))))))) cs:=bI.join r0 (bI.join r1 (bI.join r2 (bI.join r3 (bI.join r4 (bI.join r5 (bI.join r6 (bI.join r7 (bI.join r8 (bI.join r9 (ZT))))))))));have j0:=bu i0;have j1:=bu i1;have j2:=bu i2;have j3:=bu i3;have j4:=bu i4;have j5:=bu i5;have j6:=bu i6;have j7:=bu i7;have j8:=bu i8;have j9:=bu i9;have YH:=bu J;rw[<-e]at j0 j1 j2 j3 j4 j5 j6 j7 j8 j9 YH;exact⟨_,rfl,I,fun i c v h1 h2=>N i c v h1 (by rw[aY];exact h2),⟨O,R,U,V,W,Y,n6,Z,n8,n9,D⟩,rfl,fun z=>⟨b0 (aO j0 z),b1 (aO j1 z),b2 (aO j2 z),b3 (aO j3 z),b4 (aO j4 z),b5 (aO j5 z),(b6 (aO j6 z)).1,b7 (aO j7 z),b8 (aO j8 z),b9 (aO j9 z),ZU (aO YH z)⟩⟩
end M
namespace Reg
def eB{α:Type}(q:α->Bool)(l:List α)(i:Nat):List Nat:=(List.range i).filter fun k=>match l[k]? with
 | some x=>q x
 | none=>false
variable {α:Type}
theorem jw{q:α->Bool}{l:List α}{i:Nat}{x:α}(h:l[i]?=some x):eB q l (i+1)=eB q l i++if q x=true then [i] else []:=by
 unfold eB;rw[kY,iD];congr 1;cases hq:q x<;>simp[h,hq]
theorem mN(q:α->Bool)(l:List α):∀i,i<=l.length->(eB q l i).length=((l.take i).filter q).length
 | 0,_=>by simp[eB]
 | i+1,h=>by
  have d:l[i]?=some l[i]:=aX (by omega);rw[jw d,bG,mN q l i (by omega),yY,d,iD,bG];cases hq:q l[i]<;>simp[hq]
theorem w4{q:α->Bool}{l:List α}{i k:Nat}(h:k∈eB q l i):k<i/\∃x,l[k]?=some x/\q x=true:=by
 unfold eB at h;rw[ml,fN]at h;refine⟨h.1,?_⟩;cases hx:l[k]? with
 | none=>rw[hx]at h;exact absurd h.2 (by simp)
 | some x=>rw[hx]at h;exact⟨x,rfl,h.2⟩
theorem np(q:α->Bool)(l:List α)(i:Nat):(eB q l i).length<=i:=aO (nY _ _) (by simp)
def kg(l ks:List Nat):List Nat:=ks.map fun k=>l[k]?.getD 0
def qH{α:Type}[DecidableEq α]:α->List α->List α
 | _,[]=>[]
 | p,x::r=>if x=p then qH p r else x::qH x r
def v8{α:Type}[DecidableEq α]:List α->List α
 | []=>[]
 | x::r=>x::qH x r
section
variable {α:Type} [DecidableEq α]
theorem w5(y z:α):∀(l:List α) (p:α),(p::l).getLast?=some z->qH p (l++[y])=qH p l++if y=z then [] else [y]
 | [],p,h=>by
  simp at h;subst h;simp only[List.nil_append,qH]
 | x::r,p,h=>by
  have d:(x::r).getLast?=some z:=by rw[<-h];simp[List.getLast?_cons]
  simp only[ED,qH];by_cases e:x=p
  ·subst e;rw[ae rfl,ae rfl];exact w5 y z r x d
  rw[aa e,aa e,w5 y z r x d,ED]
variable {l:List α}
theorem NM{y z:α}(h:l.getLast?=some z):v8 (l++[y])=v8 l++if y=z then [] else [y]:=by
 cases l with
 | nil=>cases h
 | cons x r=>rw[ED,v8,w5 y z r x h];rfl
theorem AH{x:α}:∀{l:List α} {p:α},x∈qH p l->x∈l
 | [],_,h=>h
 | y::r,p,h=>by
  rw[qH]at h;split at h
  ·exact cK _ (AH h)
  rcases aE.1 h with h | h
  ·exact h▸bK ..
  exact cK _ (AH h)
theorem AI{x:α}:∀{l:List α} {p:α},x∈l->x=p\/x∈qH p l
 | y::r,p,h=>by
  rw[qH];rcases aE.1 h with rfl | h
  ·by_cases e:x=p
   ·exact .inl e
   rw[aa e];exact .inr (bK ..)
  by_cases e:y=p
  ·rw[ae e];exact AI h
  rw[aa e];rcases AI (p:=y) h with h | h
  ·exact .inr (h▸bK ..)
  exact .inr (cK _ h)
theorem JH{x:α}:x∈v8 l↔x∈l:=by
 cases l with
 | nil=>exact fH
 | cons y r=>
  rw[v8];constructor
  ·intro h;rcases aE.1 h with h | h
   ·exact h▸bK ..
   exact cK _ (AH h)
  intro h;rcases aE.1 h with h | h
  ·exact h▸bK ..
  rcases AI (p:=y) h with h | h
  ·exact h▸bK ..
  exact cK _ h
theorem EF{lt:α->α->Prop}(d:∀a b c,lt a b->lt b c->lt a c):∀{l:List α} {p:α},(p::l).Pairwise (fun a b=>a=b\/lt a b)->(p::qH p l).Pairwise lt
 | [],p,_=>by simp[qH]
 | x::r,p,h=>by
  rw[mn]at h;obtain⟨D,z⟩:=h;rw[qH];by_cases e:x=p
  ·subst e;rw[ae rfl];exact EF d z
  rw[aa e];have hp:lt p x:=by
   rcases D x (bK ..) with h | h
   ·exact absurd h.symm e
   exact h
  have ih:=EF d z;rw[mn];refine⟨fun y u=>?_,ih⟩;rcases aE.1 u with rfl | u
  ·exact hp
  exact d _ _ _ hp ((mn.1 ih).1 y u)
theorem Sm{lt:α->α->Prop}(d:∀a b c,lt a b->lt b c->lt a c)(h:l.Pairwise (fun a b=>a=b\/lt a b)):(v8 l).Pairwise lt:=by
 cases l with
 | nil=>simp[v8]
 | cons x r=>exact EF d h
theorem sP:∀(l:List α),(v8 l).length<=l.length:=by
 have:∀(l:List α) (p:α),(qH p l).length<=l.length:=by
  intro l
  induction l with
  | nil=>intro p;simp[qH]
  | cons x r ih=>
   intro p;rw[qH];split
   ·have:=ih p;simp only[cH];omega
   have:=ih x;simp only[cH];omega
 intro l;cases l with
 | nil=>simp[v8]
 | cons x r=>rw[v8];have:=this r x;simp only[cH];omega
end
def lexLt(a b:Int×Int):Prop:=a.1<b.1\/a.1=b.1/\a.2<b.2
instance (a b:Int×Int):Decidable (lexLt a b):=by unfold lexLt;infer_instance
theorem lexLt.tr(a b c:Int×Int)(h:lexLt a b)(k:lexLt b c):lexLt a c:=by
 rcases h with h | ⟨h,h'⟩<;>rcases k with k | ⟨k,k'⟩
 ·exact .inl (by omega)
 ·exact .inl (by omega)
 ·exact .inl (by omega)
 exact .inr ⟨by omega,by omega⟩
theorem lexLt.ne{a b:Int×Int}(h:lexLt a b):a≠b:=fun e=>by
 subst e;rcases h with h | ⟨h,h'⟩<;>omega
theorem lexLt.YI(a b:Int×Int)(h:¬lexLt b a):a=b\/lexLt a b:=by
 obtain⟨a1,a2⟩:=a;obtain⟨b1,b2⟩:=b;simp only[lexLt,Prod.mk.injEq]at h ⊢;omega
theorem qd:∀{l m:List (Int×Int)},l.Pairwise lexLt->m.Pairwise lexLt->(∀x,x∈l↔x∈m)->l=m
 | [],[],_,_,_=>rfl
 | [],y::m,_,_,h=>absurd ((h y).2 (bK ..)) (by simp)
 | x::l,[],_,_,h=>absurd ((h x).1 (bK ..)) (by simp)
 | x::l,y::m,h1,h2,h=>by
  rw[mn]at h1 h2;have e:x=y:=by
   rcases aE.1 ((h x).1 (bK ..)) with e | D
   ·exact e
   rcases aE.1 ((h y).2 (bK ..)) with e | I
   ·exact e.symm
   exact absurd rfl (lexLt.tr _ _ _ (h1.1 y I) (h2.1 x D)).ne
  subst e;rw[qd h1.2 h2.2 fun z=>⟨fun d=>?_,fun d=>?_⟩]
  ·rcases aE.1 ((h z).1 (cK _ d)) with e | u
   ·exact absurd e.symm (h1.1 z d).ne
   exact u
  rcases aE.1 ((h z).2 (cK _ d)) with e | u
  ·exact absurd e.symm (h2.1 z d).ne
  exact u
end Reg
namespace M
open Go.AM Go.RowKit Go.Lib Go.Sort
open Reg (lexLt)
def eQ(p:Int×Int):List Value:=[.int .i64 (cl p.1),.int .i64 (cl p.2)]
def Bs(p:Int×Int):Prop:=(-4611686018427387904<=p.1/\p.1<=4611686018427387903)/\(-4611686018427387904<=p.2/\p.2<=4611686018427387903)
theorem NN{p:Int×Int}(h:Bs p):(eQ p).map PV.im=sp p:=by
 simp only[eQ,ku h.1,ku h.2];rfl
variable {l:List (Int×Int)}
theorem xV(h:∀r∈l,Bs r):az (l.map eQ)=l.map sp:=by
 unfold az;rw[mq];exact nW fun r d=>NN (h r d)
theorem sQ:∀r∈l.map eQ,r.length=2:=by
 intro r d;obtain⟨x,_,rfl⟩:=bF.1 d;rfl
theorem Gs(d:Array (Int×Int)):flatK eQ 2 d=(d.toList.map eQ).flatten.toArray:=by
 apply D4;intro q;have hlen:(d.toList.map eQ).flatten.length=d.size*2:=by rw[gI (k:=2) sQ];simp
 by_cases D:q<d.size*2
 ·have u:q / 2<d.size:=by omega
  have I:q % 2<2:=pk _ (by omega);have e:q / 2*2+q % 2=q:=by omega
  have J:=get_flatK eQ 2 d q D;have hsz:(flatK eQ 2 d).size=d.size*2:=by simp
  rw[cx (by omega),<-getElem!_pos (flatK eQ 2 d) q (by omega),J];have N:(d.toList.map eQ)[q / 2]?=some (eQ d[q / 2]!):=by
   rw[aB,jN,cx u,fG,getElem!_pos d _ u]
  have O:(eQ d[q / 2]!)[q % 2]?=some ((eQ d[q / 2]!)[q % 2]!):=by
   have z:q % 2<(eQ d[q / 2]!).length:=I;rw[aX z,getElem!_pos (eQ d[q / 2]!) (q % 2) z]
  have:=y8 (k:=2) sQ N O;rw[e]at this;simpa using this.symm
 rw[vj (by simp;omega),vj (by simp only[eF];omega)]
def yy(a b:Int×Int):Int:=if cl a.1=cl b.1 then cl a.2-cl b.2 else cl a.1-cl b.1
def vM(x y:Int):Int:=if x<y then -1 else if y<x then 1 else 0
def Ot(a b:Int):Int:=if a=0 then b else a
def Gt(a b:Int×Int):Int:=Ot (vM (cl a.2-cl a.1) (cl b.2-cl b.1)) (vM (cl a.1) (cl b.1))
theorem PC(a b:Int×Int):ltOf yy a b=decide (cl a.1<cl b.1\/cl a.1=cl b.1/\cl a.2<cl b.2):=by
 unfold ltOf yy;congr 1;apply propext;split<;>omega
theorem PD(a b:Int×Int):ltOf Gt a b=decide (cl a.2-cl a.1<cl b.2-cl b.1\/cl a.2-cl a.1=cl b.2-cl b.1/\cl a.1<cl b.1):=by
 unfold ltOf Gt Ot vM;congr 1;apply propext
 repeat' split
 all_goals omega
theorem B1:SWO (ltOf yy) where
 irrefl x:=by rw[PC];simp
 trans x y z h1 h2:=by rw[PC,cz]at *;omega
 ntrans x y z h1 h2:=by rw[PC,dI]at *;omega
theorem Io:SWO (ltOf Gt) where
 irrefl x:=by rw[PD];simp
 trans x y z h1 h2:=by rw[PD,cz]at *;omega
 ntrans x y z h1 h2:=by rw[PD,dI]at *;omega
def gW(cf:Int×Int->Int×Int->Int)(l:List (Int×Int)):List (Int×Int):=(pdq (ltOf cf) l.toArray 0 l.toArray.size (Lib.bitLen l.toArray.size) true true).toList
theorem db(u:Int×Int->Int×Int->Int)(J:SWO (ltOf u))(l:List (Int×Int)):(gW u l).Perm l/\(gW u l).Pairwise fun a b=>ltOf u b a=false:=by
 obtain⟨N,O⟩:=pdq_sorts (ltOf u) J l.toArray 0 l.toArray.size (Lib.bitLen l.toArray.size) true true (ai _) (aF _) (Or.inl rfl);obtain⟨R,_,D⟩:=N;have hp:(gW u l).Perm l:=by
  have I:∀d:Array (Int×Int),d.size=l.toArray.size->(d.extract 0 l.toArray.size).toList=d.toList:=fun d h=>by rw[<-h];simp
  rw[I _ R,I _ rfl]at D;unfold gW;simpa using D
 refine⟨hp,?_⟩;rw[jU];intro i j hi z U;have hs:(gW u l).length=l.toArray.size:=by rw[hp.length_eq];simp
 have:=O i j (ai _) U (by omega);unfold gW at hi z ⊢;simp only[gd]at hi z;rw[getElem!_pos _ j z,getElem!_pos _ i hi]at this;simpa using this
theorem NO(h:∀r∈l,Bs r):(gW yy l).Pairwise fun a b=>a=b\/lexLt a b:=by
 obtain⟨d,I⟩:=db yy B1 l;refine I.imp_of_mem fun {a b} ha hb u=>?_;have z:=h a (d.mem_iff.1 ha);have D:=h b (d.mem_iff.1 hb);rw[PC,ku z.1,ku z.2,ku D.1,ku D.2]at u;exact lexLt.YI a b (of_decide_eq_false u)
theorem AJ(d:Int×Int->Int×Int->Int)(U:SWO (ltOf d))(g:Nat)(Z:∀args w,(callFunc g args).run Tryz.prog w=.ok (.enter g args) w)
  (J:∀(x y:Int×Int) (W:World),Calls Tryz.prog g #[.agg (eQ x).toArray,.agg (eQ y).toArray] W fun e w'=>e=.returned (.int .i64 (d x y))/\∃q Ni,w'=grow (W.drewN q) Ni)
  (l:List (Int×Int)) (V:∀r∈l,Bs r) (hN:l.length<4611686018427387904):af C 68 [.row 94 (l.map sp),.pv (.im (.func (.func g) #[] #[]))] (.tu []) [.row ((gW d l).map sp)]:=by
 obtain⟨hp,_⟩:=db d U l;have Xo:∀r∈gW d l,Bs r:=fun r N=>V r (hp.mem_iff.1 N);have:=tW hC (f:=68) 94 _ rfl (by decide) [.func (.func g) #[] #[]] (l.map eQ) ((gW d l).map eQ) sQ sQ (by rw[aw,aw,hp.length_eq])
  (fun r N v u=>by
   obtain⟨x,_,rfl⟩:=bF.1 N;simp only[eQ,aE,oh,or_false]at u;rcases u with rfl | rfl<;>rfl)
  ⟨_,Tryz.func68,rfl,rfl⟩
  (fun _ w=>AnyF.slices_SortFunc_none Tryz.laysSortSpan none 0 (.func (.func g) #[] #[]) w)
  (fun S w bY cap hE D _ z=>by
   have hH:HoldsK eQ 2 w bY 0 l.toArray:=by
    unfold HoldsK;intro j I;rw[Gs]at I ⊢;simp only[eF]at I;have u:(l.map eQ).flatten[j]?=some ((l.map eQ).flatten[j]'I):=aX I;obtain⟨O,R⟩:=z j _ u;rw[aY];refine⟨?_,R⟩;rw[O];congr 1;rw[getElem!_pos _ j (by simpa using I)];simp
   have Y:=AnyQ.slices_SortFunc_eq Tryz.laysSortSpan 2 (fun w=>(hC.tab 94 _ rfl).isAgg w) (fun w=>(hC.tab 94 _ rfl).sizeOf w) eQ (fun _=>rfl) (fun x v u=>by
    simp only[eQ,aE,oh,or_false]at u;rcases u with rfl | rfl<;>rfl) d U g #[] bY 0 cap l.toArray w Z (fun _ _ _ _ x y=>J x y _) hH D (by simpa using hN)
   have e:l.toArray.size=(l.map eQ).length:=by simp
   rw[e]at Y;refine Y.mono fun e' w' ⟨O,n,os,R⟩=>⟨O,n,os,?_⟩;rw[R];unfold sortWorldK putRowK qZ;rw[Gs,<-e];rfl)
 rw[xV V,xV Xo]at this;exact this
theorem NP(x y:Int×Int)(W:World):Calls Tryz.prog 69 #[.agg (eQ x).toArray,.agg (eQ y).toArray] W fun e w'=>e=.returned (.int .i64 (yy x y))/\∃q d,w'=grow (W.drewN q) d:=by
 have h1:=qs x.1;have h2:=qs y.1;have h3:=qs x.2;have h4:=qs y.2;unfold eQ yy;generalize cl x.1=u at *;generalize cl x.2=a2 at *;generalize cl y.1=z at *;generalize cl y.2=b2 at *;by_cases h:u=z
 ·subst h;rw[ae rfl]
  go_enter Tryz.func69,Tryz.ntmps69
  go_wp2
  go_ret
  exact⟨rfl,0,_,by rw[alloc_eq_grow,alloc_eq_grow,grow_grow];rfl⟩
 rw[aa h]
 go_enter Tryz.func69,Tryz.ntmps69
 go_wp2
 go_ret
 exact⟨rfl,0,_,by rw[alloc_eq_grow,alloc_eq_grow,grow_grow];rfl⟩
theorem Xv(n:Int)(W:World):Calls Tryz.prog 267 #[.int .i64 n] W fun e w'=>e=.returned (.bool false)/\w'=W:=by
 go_enter Tryz.func267,Tryz.ntmps267
 go_wp2
 go_ret
 exact⟨by simp,rfl⟩
theorem UY(a b:Int)(W:World):Calls Tryz.prog 164 #[.int .i64 a,.int .i64 b] W fun e w'=>e=.returned (.int .i64 (vM a b))/\w'=W:=by
 go_enter Tryz.func164,Tryz.ntmps164
 go_wp2_with (go_at_call 267;refine (Xv _ _).mono ?_;rintro e w' ⟨rfl,d⟩;rw[d])
 all_goals (go_ret;refine⟨?_,rfl⟩;unfold vM;(repeat' split)<;>first | rfl | (exfalso;omega))
theorem PE(W:World)(bY:Nat)(a b:Int)(h0:W.cell? ⟨bY,0,none⟩=some (.int .i64 a))(h1:W.cell? ⟨bY,1,none⟩=some (.int .i64 b))(c:Nat):Calls Tryz.prog 163 #[.slice (some ⟨bY,0,none⟩) 2 c] W fun e w'=>e=.returned (.int .i64 (Ot a b))/\w'=W:=by
 unfold Ot
 go_enter Tryz.func163,Tryz.ntmps163
 go_wp2
 go_loop [8] (fun i=>∃k:Nat,k<=2/\i=.int .i64 k/\(0<k->a=0)/\(1<k->b=0)) (fun i=>2-(intOf i).toNat)
 case atStart=>exact⟨0,by omega,rfl,fun h=>by omega,fun h=>by omega⟩
 case round=>
  obtain⟨k,hk,rfl,d,u⟩:=hrel;rcases (show k=0\/k=1\/k=2 by omega) with rfl | rfl | rfl
  ·by_cases e:a=0
   ·subst e
    go_wp2
    go_round
    case rel=>exact⟨1,by omega,by go_num,fun _=>by trivial,fun h=>by omega⟩
    case measure=>simp[intOf]
   go_wp2
   go_ret
   exact⟨by first | rfl | simp[e],rfl⟩
  ·have e:=d (by omega);subst e;by_cases e:b=0
   ·subst e
    go_wp2
    go_round
    case rel=>exact⟨2,by omega,by go_num,fun _=>by trivial,fun _=>by trivial⟩
    case measure=>simp[intOf]
   go_wp2
   go_ret
   exact⟨by first | rfl | simp[e],rfl⟩
  have e:=d (by omega);have z:=u (by omega);subst e;subst z
  go_wp2
  go_ret
  exact⟨rfl,rfl⟩
theorem NQ(x y:Int×Int)(W:World):Calls Tryz.prog 265 #[.agg (eQ x).toArray,.agg (eQ y).toArray] W fun e w'=>e=.returned (.int .i64 (Gt x y))/\∃q N,w'=grow (W.drewN q) N:=by
 have h1:=qs x.1;have h2:=qs y.1;have h3:=qs x.2;have h4:=qs y.2;unfold eQ Gt;generalize cl x.1=d at *;generalize cl x.2=a2 at *;generalize cl y.1=u at *;generalize cl y.2=I at *;have w1:IntKind.i64.wrap (a2-d)=a2-d:=IntWalk.i64_in _ ⟨by omega,by omega⟩;have w2:IntKind.i64.wrap (I-u)=I-u:=IntWalk.i64_in _ ⟨by omega,by omega⟩
 go_enter Tryz.func265,Tryz.ntmps265
 obtain⟨z,D⟩:∃w3,w3=({ ((W.alloc (Obj.cells #[Value.int IntKind.i64 d,Value.int IntKind.i64 a2] 94)).alloc (Obj.cells #[Value.int IntKind.i64 u,Value.int IntKind.i64 I] 94)) with drawn:=((W.alloc (Obj.cells #[Value.int IntKind.i64 d,Value.int IntKind.i64 a2] 94)).alloc (Obj.cells #[Value.int IntKind.i64 u,Value.int IntKind.i64 I] 94)).drawn+1 }:World):=⟨_,rfl⟩;have hs:z.heap.size=W.heap.size+2:=by rw[D];exact (kT ..).trans (ah (·+1) (kT ..))
 have c0:z.cell? ⟨W.heap.size,0,none⟩=some (.int .i64 d):=by
  rw[D];exact (World.cell?_alloc_past (w:=W.alloc _) _ _ _ (by rw[show (W.alloc _).heap.size=W.heap.size+1 from kT ..];omega)).trans (sN _ _ _ _ rfl)
 have c1:z.cell? ⟨W.heap.size,1,none⟩=some (.int .i64 a2):=by
  rw[D];exact (World.cell?_alloc_past (w:=W.alloc _) _ _ _ (by rw[show (W.alloc _).heap.size=W.heap.size+1 from kT ..];omega)).trans (sN _ _ _ _ rfl)
 have c2:z.cell? ⟨W.heap.size+1,0,none⟩=some (.int .i64 u):=by
  rw[D];exact sN (w:=W.alloc _) _ _ _ _ (kT ..).symm
 have c3:z.cell? ⟨W.heap.size+1,1,none⟩=some (.int .i64 I):=by
  rw[D];exact sN (w:=W.alloc _) _ _ _ _ (kT ..).symm
 have J:z=grow (W.drewN 1) #[Obj.cells #[Value.int IntKind.i64 d,Value.int IntKind.i64 a2] 94,Obj.cells #[Value.int IntKind.i64 u,Value.int IntKind.i64 I] 94]:=by
  rw[D,alloc_eq_grow,alloc_eq_grow,grow_grow];rfl
 have O:=Lib.hid J;clear J
 go_wp2_with fail
 refine wp_region_still_tail 16 (by kernel_rfl) (by kernel_rfl) ?_;rw[<-D];clear D;simp only[List.take_succ_cons,List.take_zero,List.drop_succ_cons,List.drop_zero]
 repeat still_step
 still_call (UY (a2-d) (I-u) z)
 repeat still_step
 still_call (UY d u z)
 refine wpStill_nil ?_
 go_wp2_with (go_at_call 163;refine (PE _ _ _ _ (sN _ _ _ _ (by omega)) (sN _ _ _ _ (by omega)) _).mono ?_;rintro e w' ⟨rfl,R⟩;rw[R])
 go_ret
 have J:=O.out;exact⟨rfl,1,_,by rw[J,alloc_eq_grow,grow_grow]⟩
theorem EG(l:List (Int×Int))(d:∀r∈l,Bs r)(u:l.length<4611686018427387904):af C 68 [.row 94 (l.map sp),.pv (.im (.func (.func 69) #[] #[]))] (.tu []) [.row ((gW yy l).map sp)]:=
 AJ yy B1 _ (enters_of Tryz.func69 (by kernel_rfl) rfl) NP l d u
theorem EH(l:List (Int×Int))(d:∀r∈l,Bs r)(u:l.length<4611686018427387904):af C 68 [.row 94 (l.map sp),.pv (.im (.func (.func 265) #[] #[]))] (.tu []) [.row ((gW Gt l).map sp)]:=
 AJ Gt Io _ (enters_of Tryz.func265 (by kernel_rfl) rfl) NQ l d u
open Reg (aZ cR gQ)
def NR:ByteArray:=⟨#[108,105,115,116]⟩
def EI:ByteArray:=⟨#[115,116,97,99,107]⟩
def JI:ByteArray:=⟨#[112,108,111,116,115]⟩
def CF:ByteArray:=⟨#[111,117,116,108,105,110,101]⟩
def lf:ByteArray:=⟨#[98,111,114,101,115]⟩
def Gu:ByteArray:=⟨#[112,108,97,99,101,115]⟩
def NS:ByteArray:=⟨#[102,101,101,116]⟩
def JJ:ByteArray:=⟨#[114,117,108,101,115]⟩
def rA(k:Nat):ByteArray:=(⟨#[112,108,111,116,32]⟩:ByteArray)++Sa (Lib.itoa k)
def kh:List ic->Nat->Int×ByteArray
 | [],_=>(0,ar)
 | p::r,k=>if cn p=0 then kh r (k+1) else (cn p,rA k)
def ma(o:Order):Int×ByteArray:=
 if cn o.outline≠0 then (cn o.outline,CF) else
 if 500<o.bores.length then (2,lf) else
 if dy o.bodies o.places≠0 then (dy o.bodies o.places,Gu) else
 if fh o.types o.feet≠0 then (fh o.types o.feet,NS) else
 if da o.rules≠0 then (da o.rules,JJ) else (0,ar)
def dE(o:Order):Int×ByteArray:=
 if fg o.types o.list≠0 then (fg o.types o.list,NR) else
 if bH o.mats o.stack≠0 then (bH o.mats o.stack,EI) else
 if o.plots.length≠bX o.stack then (3,JI) else
 if (kh o.plots 0).1≠0 then kh o.plots 0 else ma o
theorem xW{l:List ic}{i:Nat}{p:ic}(h:l[i]?=some p):kh (l.drop i) i=if cn p=0 then kh (l.drop (i+1)) (i+1) else (cn p,rA i):=by
 have e:l.drop i=p::l.drop (i+1):=by
  obtain⟨hi,rfl⟩:=aU.1 h;exact pO hi
 rw[e,kh]
def Sn(x:Int×ByteArray):List PV:=[i64 x.1,str x.2]
theorem nq{s:ByteArray}{f:Int}(h:f≠0):K7 s f=[i64 f,str s]:=by rw[K7,aa h]
theorem xX(o:Order)(u:jn o):af C 21 [.pv (.ag (oF o))] (.p (.ag (Sn (dE o)))) []:=by
 refine fW hC Tryz.func21 rfl (by kernel_rfl) fun _=>?_;have lm:=ak o.plots fun p=>di p;have lb:=ak o.bores l5;have IW:=jb o.stack;have Ch:=u.stack.1;have qE:=u.plots.1;refine⟨_,_,(yt o.types o.list u.types u.list),iW ?_ ?_⟩<;>intro z
 ·have z:fg o.types o.list≠0:=by simpa using z
  have d:=il NR (fg o.types o.list);rw[nq z]at d;refine⟨_,_,d,?_,trivial⟩;rw[dE,ae z];rfl
 have z:fg o.types o.list=0:=by simpa using z
 have ht:cD o.types=0:=(ez z).1;refine⟨_,_,(oY o.mats o.stack u.mats u.stack),iW ?_ ?_⟩<;>intro I
 ·have I:bH o.mats o.stack≠0:=by simpa using I
  have d:=il EI (bH o.mats o.stack);rw[nq I]at d;refine⟨_,_,d,?_,trivial⟩;rw[dE,aa (fun h=>h z),ae I];rfl
 have I:bH o.mats o.stack=0:=by simpa using I
 refine⟨_,_,(tz o Ch),iW ?_ ?_⟩<;>intro N
 ·have N:o.plots.length≠bX o.stack:=fun e=>N (by show (((o.plots.map fun p=>di p).length:Nat):Int)=(bX o.stack:Nat);omega);have d:=il JI 3;rw[nq (by decide)]at d;refine⟨_,_,d,?_,trivial⟩;rw[dE,aa (fun h=>h z),aa (fun h=>h I),ae N];rfl
 have N:(((o.plots.map fun p=>di p).length:Nat):Int)=(bX o.stack:Nat):=by simpa using N
 have N:¬o.plots.length≠bX o.stack:=fun h=>h (by omega);refine ax (fun i:Nat=>i<=o.plots.length/\kh o.plots 0=kh (o.plots.drop i) i) (fun i=>[(1,.bx 1 0),(2,.bx 2 0),(37,.p (.sl (o.plots.map fun p=>di p))),(38,.p (i64 o.plots.length)),(39,.p (i64 i))]) (fun _=>[(1,.box ((oF o).map .p)),(2,.box [.p (i64 0),.p (str ar)])]) (fun i=>o.plots.length-i) 0 _ (au.refl _ _) ⟨ai _,rfl⟩ ⟨rfl,rfl,rfl,ah (fun n:Nat=>AV.p (i64 n)) lm,Z,Y⟩ ⟨Z,Z,Y⟩ fun i hi t h=>?_;apply iW<;>intro h1
 ·obtain⟨p,V⟩:=aj (l:=o.plots) (i:=i) (by omega);have W:=xW V;refine⟨(di p),(idx rfl V),_,_,(qu p (u.plots.2 p (an V))),iW ?_ ?_⟩<;>intro O
  ·have O:cn p≠0:=by simpa using O
   have e:kh o.plots 0=(cn p,rA i):=by rw[hi.2,W,aa O]
   have LZ:=Lib.itoa_length_le (i:Int) (by omega) (by omega);have Ou:(Sa (Lib.itoa i)).size=(Lib.itoa i).length:=by simp[Sa,ByteArray.size]
   refine⟨_,_,(AD i (by omega)),by rw[Ou];show (5:Nat)+_<=_;omega,?_⟩;have d:=il (rA i) (cn p);rw[nq O]at d;refine⟨_,_,d,?_,trivial⟩;rw[dE,aa (fun h=>h z),aa (fun h=>h I),aa N,ae (by rw[e];exact O),e];rfl
  have O:cn p=0:=by simpa using O
  exact⟨wO (by omega),(i+1),_,au.refl _ _,⟨by omega,by rw[hi.2,W,ae O]⟩,by omega,⟨Z,Z,Z,Z,Z,Y⟩,⟨Z,Z,Y⟩⟩
 have e:kh o.plots 0=(0,ar):=by rw[hi.2,fv (by omega)];rfl
 rw[show dE o=ma o by rw[dE,aa (fun h=>h z),aa (fun h=>h I),aa N,aa (by rw[e];simp)]];refine⟨_,_,(qu o.outline u.outline),iW ?_ ?_⟩<;>intro D
 ·have D:cn o.outline≠0:=by simpa using D
  have d:=il CF (cn o.outline);rw[nq D]at d;refine⟨_,_,d,?_,trivial⟩;rw[ma,ae D];rfl
 have D:cn o.outline=0:=by simpa using D
 apply iW<;>intro k2
 ·have d:=il lf 2;rw[nq (by decide)]at d;refine⟨_,_,d,?_,trivial⟩;rw[ma,aa (fun h=>h D),ae (by omega)];rfl
 refine⟨_,_,(vH o.bodies o.places u.bodies u.places),iW ?_ ?_⟩<;>intro J
 ·have J:dy o.bodies o.places≠0:=by simpa using J
  have d:=il Gu (dy o.bodies o.places);rw[nq J]at d;refine⟨_,_,d,?_,trivial⟩;rw[ma,aa (fun h=>h D),aa (by omega),ae J];rfl
 have J:dy o.bodies o.places=0:=by simpa using J
 refine⟨_,_,(yw o u ht),iW ?_ ?_⟩<;>intro R
 ·have R:fh o.types o.feet≠0:=by simpa using R
  have d:=il NS (fh o.types o.feet);rw[nq R]at d;refine⟨_,_,d,?_,trivial⟩;rw[ma,aa (fun h=>h D),aa (by omega),aa (fun h=>h J),ae R];rfl
 have R:fh o.types o.feet=0:=by simpa using R
 refine⟨_,_,(wN o.rules u.rules),?_⟩;have d:=il JJ (da o.rules);by_cases U:da o.rules=0
 ·rw[K7,ae U]at d;refine⟨_,_,d,?_,trivial⟩;rw[ma,aa (fun h=>h D),aa (by omega),aa (fun h=>h J),aa (fun h=>h R),aa (fun h=>h U)];rfl
 rw[K7,aa U]at d;refine⟨_,_,d,?_,trivial⟩;rw[ma,aa (fun h=>h D),aa (by omega),aa (fun h=>h J),aa (fun h=>h R),ae U];rfl
theorem w6(o:Order)(d:jn o):af C 34 [.pv (.ag (oF o))] (.tu [str (dE o).2,i64 (dE o).1]) []:=by
 refine fW hC Tryz.func34 rfl (by kernel_rfl) fun _=>?_;refine⟨_,_,(xX o d),?_,trivial⟩;rfl
theorem w7(o:Order)(d:jn o):af C 26 [.pv (.ag (oF o))] (.tu [str (dE o).2,i64 (dE o).1]) []:=by
 refine fW hC Tryz.func26 rfl (by kernel_rfl) fun _=>?_;have W:=ak o.plots fun p=>di p;have lb:=ak o.bores l5;have IW:=jb o.stack;have Ch:=d.stack.1;have qE:=d.plots.1;refine⟨_,_,(Az o.types o.list d.types d.list),iW ?_ ?_⟩<;>intro u
 ·have u:fg o.types o.list≠0:=by simpa using u
  refine⟨?_,trivial⟩;rw[dE,ae u];rfl
 have u:fg o.types o.list=0:=by simpa using u
 have ht:cD o.types=0:=(ez u).1;refine⟨_,_,(qw o.mats o.stack d.mats d.stack),iW ?_ ?_⟩<;>intro D
 ·have D:bH o.mats o.stack≠0:=by simpa using D
  refine⟨?_,trivial⟩;rw[dE,aa (fun h=>h u),ae D];rfl
 have D:bH o.mats o.stack=0:=by simpa using D
 have VO:=qx o Ch;have LA:((l_ o.stack o.stack.length).map fun n=>[i64 n]).length=bX o.stack:=by
  rw[aw,wZ _ _ (aF _),fQ]
 refine⟨_,_,VO,iW ?_ ?_⟩<;>intro I
 ·have I:o.plots.length≠bX o.stack:=fun e=>I (by show (((o.plots.map fun p=>di p).length:Nat):Int)=((((l_ o.stack o.stack.length).map fun n=>[i64 n]).length:Nat):Int);omega);refine⟨?_,trivial⟩;rw[dE,aa (fun h=>h u),aa (fun h=>h D),ae I];rfl
 have I:(((o.plots.map fun p=>di p).length:Nat):Int)=((((l_ o.stack o.stack.length).map fun n=>[i64 n]).length:Nat):Int):=by simpa using I
 have I:¬o.plots.length≠bX o.stack:=fun h=>h (by omega);refine ax (fun i:Nat=>i<=o.plots.length/\kh o.plots 0=kh (o.plots.drop i) i) (fun i=>[(1,.bx 1 0),(37,.p (.sl (o.plots.map fun p=>di p))),(38,.p (i64 o.plots.length)),(39,.p (i64 i))]) (fun _=>[(1,.box ((oF o).map .p))]) (fun i=>o.plots.length-i) 0 _ (au.refl _ _) ⟨ai _,rfl⟩ ⟨rfl,rfl,ah (fun n:Nat=>AV.p (i64 n)) W,Z,Y⟩ ⟨Z,Y⟩ fun i hi t h=>?_;apply iW<;>intro h1
 ·obtain⟨p,U⟩:=aj (l:=o.plots) (i:=i) (by omega);have V:=xW U;refine⟨(di p),(idx rfl U),_,_,(rv p (d.plots.2 p (an U))),iW ?_ ?_⟩<;>intro N
  ·have N:cn p≠0:=by simpa using N
   have e:kh o.plots 0=(cn p,rA i):=by rw[hi.2,V,aa N]
   have LZ:=Lib.itoa_length_le (i:Int) (by omega) (by omega);have Ou:(Sa (Lib.itoa i)).size=(Lib.itoa i).length:=by simp[Sa,ByteArray.size]
   refine⟨_,_,(AD i (by omega)),by rw[Ou];show (5:Nat)+_<=_;omega,?_,trivial⟩;rw[dE,aa (fun h=>h u),aa (fun h=>h D),aa I,ae (by rw[e];exact N),e];rfl
  have N:cn p=0:=by simpa using N
  exact⟨wO (by omega),(i+1),_,au.refl _ _,⟨by omega,by rw[hi.2,V,ae N]⟩,by omega,⟨Z,Z,Z,Z,Y⟩,⟨Z,Y⟩⟩
 have e:kh o.plots 0=(0,ar):=by rw[hi.2,fv (by omega)];rfl
 rw[show dE o=ma o by rw[dE,aa (fun h=>h u),aa (fun h=>h D),aa I,aa (by rw[e];simp)]];refine⟨_,_,(rv o.outline d.outline),iW ?_ ?_⟩<;>intro z
 ·have z:cn o.outline≠0:=by simpa using z
  refine⟨?_,trivial⟩;rw[ma,ae z];rfl
 have z:cn o.outline=0:=by simpa using z
 apply iW<;>intro k2
 ·refine⟨?_,trivial⟩;rw[ma,aa (fun h=>h z),ae (by omega)];rfl
 refine⟨_,_,(vI o.bodies o.places d.bodies d.places),iW ?_ ?_⟩<;>intro J
 ·have J:dy o.bodies o.places≠0:=by simpa using J
  refine⟨?_,trivial⟩;rw[ma,aa (fun h=>h z),aa (by omega),ae J];rfl
 have J:dy o.bodies o.places=0:=by simpa using J
 refine⟨_,_,(yx o d ht),iW ?_ ?_⟩<;>intro O
 ·have O:fh o.types o.feet≠0:=by simpa using O
  refine⟨?_,trivial⟩;rw[ma,aa (fun h=>h z),aa (by omega),aa (fun h=>h J),ae O];rfl
 have O:fh o.types o.feet=0:=by simpa using O
 refine⟨_,_,(Ag o.rules d.rules),iW ?_ ?_⟩<;>intro R
 ·have R:da o.rules≠0:=by simpa using R
  refine⟨?_,trivial⟩;rw[ma,aa (fun h=>h z),aa (by omega),aa (fun h=>h J),aa (fun h=>h O),ae R];rfl
 have R:da o.rules=0:=by simpa using R
 refine⟨?_,trivial⟩;rw[ma,aa (fun h=>h z),aa (by omega),aa (fun h=>h J),aa (fun h=>h O),aa (fun h=>h R)];rfl
open Reg (v8 qH)
theorem K8{α:Type}{l:List α}{i:Nat}{x:α}(h:l[i]?=some x):(l.take (i+1)).getLast?=some x:=by
 rw[aN h,List.getLast?_append];simp
theorem AK{i:Nat}{x y:Int×Int}(d:l[i]?=some x)(u:l[i+1]?=some y):v8 (l.take (i+2))=v8 (l.take (i+1))++if y=x then [] else [y]:=by
 rw[aN u,Reg.NM (K8 d)]
theorem B2(l:List (Int×Int))(hN:l.length<=1000000):af C 70 [.row 94 (l.map sp)] (.own 94 ((v8 l).map sp)) [.gone]:=by
 refine fW hC Tryz.func70 rfl (by kernel_rfl) fun _=>?_;have d:=ak l sp;apply iW<;>intro R
 ·have e:v8 l=l:=by
   match l,d,R with
   | [],_,_=>rfl
   | [x],_,_=>rfl
   | x::y::r,d,R=>simp only[cH]at d R;omega
  rw[e];exact⟨Z,Z,Y⟩
 refine ax (fun k:Nat=>1<=k/\k<=l.length/\v8 (l.take k)=l.take k) (fun k=>[(0,.ow 100000),(3,.p (i64 k))]) (fun _=>[(100000,.row 94 (l.map sp))]) (fun k=>l.length-k) 1 _ (au.refl _ _) ⟨by omega,by omega,by cases l<;>rfl⟩ ⟨Z,Z,Y⟩ ⟨Z,Y⟩ fun k hk t h=>?_;obtain⟨k1,k2,D⟩:=hk;apply iW<;>intro h1
 ·rw[d]at h1;obtain⟨x,U⟩:=aj (l:=l) (i:=k-1) (by omega);obtain⟨y,I⟩:=aj (l:=l) (i:=k) (by omega);refine⟨⟨by omega,by rw[d];omega⟩,(sp y),(idx rfl I).2,wO (by omega),⟨by omega,by rw[d];omega⟩,(sp x),(idx (show (k:Int)-1=((k-1:Nat):Int) by omega) U).2,iW ?_ ?_⟩<;>intro J<;>try simp only[zB]at J
  ·have V:y=x:=uZ (by simpa using (za.1 J).1) (by simpa using (za.1 J).2);refine Or.inl ?_;refine⟨⟨by omega,by rw[d];omega,by omega⟩,?_⟩;refine ax (fun p:Nat×Nat×List (Int×Int)=>k<=p.1/\p.1<p.2.1/\p.2.1<=l.length/\p.2.2.length=l.length/\p.2.2.take p.1=v8 (l.take p.2.1)/\p.2.2.drop (p.2.1-1)=l.drop (p.2.1-1)) (fun p=>[(0,.ow 100000),(3,.p (i64 p.1)),(4,.vw 100000 k l.length),(5,.p (i64 (p.2.1-k:Nat)))]) (fun p=>[(100000,.row 94 (p.2.2.map sp))]) (fun p=>l.length-p.2.1) (k,k+1,l) _ (au.refl _ _) ⟨by simp,by simp only;omega,by simp only;omega,rfl,?_,rfl⟩ ⟨rfl,rfl,by show AV.vw _ _ _=AV.vw _ _ _;rw[bU,bU,d],bc (by simp only;omega),trivial⟩ ⟨Z,Y⟩ fun ⟨a,b,m⟩ hi t h=>?_
   ·simp only;rw[show k+1=(k-1)+2 by omega,AK U (by rw[show k-1+1=k by omega];exact I),ae V,show k-1+1=k by omega,D,cQ]
   simp only at hi;obtain⟨q1,q2,q3,q4,W,N⟩:=hi;have mm:=ak m sp;apply iW<;>intro h3<;>try simp only[zB]at h3
   ·have hb:b<l.length:=by omega
    obtain⟨u,hu⟩:=aj (l:=l) (i:=b-1) (by omega);obtain⟨v,hv⟩:=aj (l:=l) (i:=b) (by omega);have VA:m[b-1]?=some u:=by
     have:(m.drop (b-1))[0]?=(l.drop (b-1))[0]?:=by rw[N]
     simpa [hu] using this
    have Nb:m[b]?=some v:=by
     have:(m.drop (b-1))[1]?=(l.drop (b-1))[1]?:=by rw[N]
     simpa [show b-1+1=b by omega,hv] using this
    have O:v8 (l.take (b+1))=v8 (l.take b)++if v=u then [] else [v]:=by
     have:=AK hu (by rw[show b-1+1=b by omega];exact hv);rw[show b-1+2=b+1 by omega,show b-1+1=b by omega]at this;exact this
    have i1:k+((b-k:Nat):Int).toNat=b:=by omega
    have i2:k+(((b-k:Nat):Int)-1).toNat=b-1:=by omega
    refine⟨⟨by dsimp only;omega,by dsimp only;omega⟩,(sp v),(by dsimp only;rw[i1];exact pQ sp Nb),⟨by dsimp only;omega,by dsimp only;omega⟩,⟨by dsimp only;omega,by dsimp only;omega⟩,(sp u),(by dsimp only;rw[i2];exact pQ sp VA),iW ?_ ?_⟩<;>intro h4<;>try simp only[zB]at h4
    ·have e4:¬v=u:=fun e=>by subst e;simp at h4
     rw[aa e4]at O;obtain⟨z,hz⟩:=aj (l:=m) (i:=a) (by omega);refine⟨⟨by dsimp only;omega,by dsimp only;omega⟩,(sp v),(by dsimp only;rw[i1];exact pQ sp Nb),⟨by dsimp only;omega,by dsimp only;rw[mm];omega⟩,(sp z),(idx rfl hz).2,⟨by dsimp only;omega,by dsimp only;omega⟩,⟨by dsimp only;omega,by dsimp only;omega⟩,(a+1,b+1,m.set a v),_,au.refl _ _,⟨by dsimp only;omega,by dsimp only;omega,by dsimp only;omega,by dsimp only;rw[List.length_set];exact q4,?_,?_⟩,by dsimp only;omega,⟨rfl,bc (by dsimp only;omega),rfl,bc (by dsimp only;omega),trivial⟩,⟨?_,trivial⟩⟩
     ·dsimp only;rw[F3 (by omega),W,O]
     ·dsimp only;rw[List.drop_set_of_lt (by omega)];have:=ah (List.drop 1) N;simpa [vk,show b-1+1=b by omega] using this
     show AB.row _ ((m.map sp).set a (sp v))=AB.row _ ((m.set a v).map sp);rw[sH]
    have e4:v=u:=by
     have:(decide (v.1=u.1)&&(decide (v.2=u.2)&&true))=true:=by simpa using h4
     exact uZ (by simpa using (za.1 this).1) (by simpa using (za.1 this).2)
    rw[ae e4,cQ]at O;refine⟨⟨by dsimp only;omega,by dsimp only;omega⟩,(a,b+1,m),_,au.refl _ _,⟨by dsimp only;omega,by dsimp only;omega,by dsimp only;omega,q4,by dsimp only;rw[O];exact W,?_⟩,by dsimp only;omega,⟨rfl,rfl,rfl,bc (by dsimp only;omega),trivial⟩,⟨Z,Y⟩⟩;have:=ah (List.drop 1) N;simpa [vk,show b-1+1=b by omega] using this
   have hb:b=l.length:=by omega
   refine Or.inl ?_;refine⟨⟨by dsimp only;omega,by dsimp only;rw[mm];omega,by dsimp only;omega⟩,⟨by simp only[Int.toNat_natCast];omega,by simp only[Int.toNat_natCast];omega⟩,?_⟩;refine Or.inl ?_;have Nl:((((m.map sp).take a++List.replicate ((m.map sp).length-a) [i64 0,i64 0]++(m.map sp).drop (m.map sp).length).length:Nat):Int)=m.length:=by simp;omega
   refine⟨⟨by omega,by dsimp only;omega,by simp only[Int.toNat_natCast];exact Int.le_trans (show (a:Int)<=m.length by omega) (Int.le_of_eq Nl.symm)⟩,?_,Z,Y⟩;simp only[bU];rw[gT,mr (by rw[aV,mm];omega),po,yZ,<-iC,W,hb,fQ]
  have V:¬y=x:=fun e=>by subst e;simp at J
  refine⟨wO (by omega),(k+1),_,au.refl _ _,⟨by omega,by omega,?_⟩,by omega,⟨Z,Z,Y⟩,⟨Z,Y⟩⟩;rw[show k+1=(k-1)+2 by omega,AK U (by rw[show k-1+1=k by omega];exact I),aa V,show k-1+1=k by omega,D,show k-1+2=k+1 by omega,aN I]
 rw[d]at h1;have e:k=l.length:=by omega
 rw[e,fQ]at D;rw[D];exact⟨Z,Z,Y⟩
theorem xY(l:List (Int×Int))(d:l.length<=1000000):af C 263 [.pv (.sl (l.map sp))] (.own 94 (l.map sp)) []:=by
 have lm:=ak l sp;cases l with
 | nil=>
  refine fW hC Tryz.func263 rfl (by kernel_rfl) fun _=>?_;refine⟨?_,?_⟩
  ·exact⟨Z,Y⟩
  exact⟨⟨by simp,by simp,by simp⟩,Z,Z,Y⟩
 | cons x r=>
  refine fW hC Tryz.func263 rfl (by kernel_rfl) fun _=>?_;have hr:r.length<=1000000:=Nat.le_of_succ_le d;exact⟨⟨j_ fun _=>rfl,by simp;omega,by simp;omega⟩,Z,Z,Y⟩
theorem iI(x z:Int×Int):(decide (x.1=z.1)&&(decide (x.2=z.2)&&true))=decide (x=z):=by
 obtain⟨a,b⟩:=x;obtain⟨c,d⟩:=z;by_cases h:a=c<;>by_cases u:b=d<;>simp[h,u]
theorem Ip(l:List (Int×Int))(hN:l.length<=140737488355328)(x:Int×Int):af C 363 [.pv (.sl (l.map sp)),.pv (.ag (sp x))] (.p (i64 (fy (fun z=>decide (x=z)) l 0))) []:=by
 refine fW hC Tryz.func363 rfl (by kernel_rfl) fun _=>?_;have D:=ak l sp;refine ax (fun i:Nat=>i<=l.length/\∀z∈l.take i,decide (x=z)=false) (fun i=>[(0,.p (.sl (l.map sp))),(3,.bx 3 0),(7,.p (i64 (l.map sp).length)),(8,.p (i64 i))]) (fun _=>[(3,.box ((sp x).map .p))]) (fun i=>l.length-i) 0 _ (au.refl _ _) ⟨ai _,by simp⟩ ⟨Z,Z,Z,Z,Y⟩ ⟨Z,Y⟩ fun i hi t h=>?_;apply iW<;>intro I
 ·rw[D]at I;obtain⟨r,u⟩:=aj (l:=l) (i:=i) (by omega);refine⟨(sp r),(idx rfl u),iW ?_ ?_⟩<;>intro d<;>try simp only[zB]at d
  ·refine⟨?_,trivial⟩;rw[iI]at d;rw[cX (p:=fun z=>decide (x=z)) u d hi.2,aY]
  refine⟨wO (by omega),(i+1),_,au.refl _ _,?_⟩;rw[iI]at d;exact⟨⟨by omega,cN (p:=fun z=>decide (x=z)) u d hi.2⟩,by omega,⟨Z,Z,Z,Z,Y⟩,⟨Z,Y⟩⟩
 rw[D]at I;refine⟨?_,trivial⟩;have d:=hi.2;rw[aW (by omega)]at d;rw[bW (p:=fun z=>decide (x=z)) d];rfl
theorem tB(l:List (Int×Int))(d:l.length<=140737488355328)(x:Int×Int):af C 264 [.pv (.sl (l.map sp)),.pv (.ag (sp x))] (.p (bool (decide (x∈l)))) []:=by
 refine fW hC Tryz.func264 rfl (by kernel_rfl) fun _=>?_;refine⟨_,_,(Ip l d x),?_,trivial⟩;have e:decide (x∈l)=l.any fun z=>decide (x=z):=by
  rw[kO,decide_eq_true_iff,gz];exact⟨fun h=>⟨x,h,aP rfl⟩,fun ⟨z,h,e⟩=>fO e▸h⟩
 rw[e,<-ib _ l 0];rfl
theorem w8(a b:Int×Int):af C 259 [.pv (.ag (sp a)),.pv (.ag (sp b))] (.p (bool (decide (b.1<=a.1)&&decide (a.2<=b.2)))) []:=by
 refine fW hC Tryz.func259 rfl (by kernel_rfl) fun _=>?_;apply iW<;>intro h
 ·refine⟨?_,trivial⟩;simp[bool,h]
 refine⟨?_,trivial⟩;simp[bool,h]
def l6(m:List cw)(s:List Lay)(k:Nat):Bool:=match s[k]? with
 | some l=>decide (cg m l.mat=2)
 | none=>false
def nC(m:List cw)(s:List Lay)(k:Nat):Int:=(cZ m s k).length
def bA(m:List cw)(s:List Lay)(i:Nat):List (Int×Int):=((List.range i).filter (l6 m s)).map fun k=>(nC m s k,nC m s k+1)
variable {s:List Lay}
theorem AL{m:List cw}{i:Nat}:bA m s (i+1)=bA m s i++(if l6 m s i=true then [(nC m s i,nC m s i+1)] else []):=by
 unfold bA;rw[kY,iD,bz];congr 1;cases h:l6 m s i<;>simp[h]
theorem sR{m:List cw}{i:Nat}:(bA m s i).length<=i:=by
 unfold bA;rw[aw];exact aO (nY _ _) (by simp)
theorem rB{m:List cw}{s:List Lay}{i:Nat}:0<=nC m s i/\nC m s i<=i:=by
 have:=ry (m:=m) (s:=s) (i:=i);unfold nC;omega
theorem vN{m:List cw}{i:Nat}:nC m s (i+1)=nC m s i+(if fo m s i=true then 1 else 0):=by
 unfold nC;rw[wT];split<;>simp
theorem Gv(m:List cw)(s:List Lay)(hs:dC cw.name m)(R:m.length<=1000000)(hS:s.length<=1048576):af C 262 [.pv (.sl (m.map iX)),.pv (.sl (s.map gJ))] (.own 94 ((bA m s s.length).map sp)) []:=by
 refine fW hC Tryz.func262 rfl (by kernel_rfl) fun _=>?_;have U:=ak s gJ;refine ax (fun i:Nat=>i<=s.length) (fun i=>[(0,.p (.sl (m.map iX))),(5,.ow 5),(6,.p (i64 (nC m s i))),(9,.p (.sl (s.map gJ))),(10,.p (i64 s.length)),(11,.p (i64 i))]) (fun i=>[(5,.row 94 ((bA m s i).map sp))]) (fun i=>s.length-i) 0 _ (au.ed hC _ 5 94 _ (by decide) rfl rfl (by decide)) (ai _) ⟨rfl,rfl,rfl,rfl,ah (fun n:Nat=>AV.p (i64 n)) U,Z,Y⟩ ⟨Z,Y⟩ fun i hi t h=>?_;apply iW<;>intro h1
 ·obtain⟨x,D⟩:=aj (l:=s) (i:=i) (by omega);have J:fo m s i=decide (cg m x.mat=1):=by rw[fo,D]
  have I:l6 m s i=decide (cg m x.mat=2):=by rw[l6,D]
  have u:=AL (m:=m) (s:=s) (i:=i);have N:=vN (m:=m) (s:=s) (i:=i);have hle:=sR (m:=m) (s:=s) (i:=i);have HL:=rB (m:=m) (s:=s) (i:=i);have O:((bA m s i).map sp).length=(bA m s i).length:=aw ..;refine⟨(gJ x),(idx rfl D),_,_,(mF m x hs R),iW ?_ ?_⟩<;>intro d
  ·have d:cg m x.mat=1:=d;rw[J,ae (aP d)]at N;rw[I,aa (by rw[d];decide),cQ]at u;exact⟨wO (by omega),wO (by omega),(i+1),_,au.refl _ _,by omega,by omega,⟨rfl,rfl,bc (by omega),Z,Z,Z,Y⟩,⟨by rw[u];rfl,trivial⟩⟩
  have d:¬cg m x.mat=1:=d;rw[J,aa (by rw[aL d];decide),jm]at N;apply iW<;>intro z
  ·have z:cg m x.mat=2:=z;rw[I,ae (aP z)]at u;exact⟨wO (by omega),⟨fun r V=>(by rw[bM.1 V];rfl),by rw[O];simp;omega,by rw[O];simp;omega⟩,wO (by omega),(i+1),_,au.refl _ _,by omega,by omega,⟨rfl,rfl,bc (by omega),Z,Z,Z,Y⟩,⟨by rw[u,bz];rfl,trivial⟩⟩
  have z:¬cg m x.mat=2:=z;rw[I,aa (by rw[aL z];decide),cQ]at u;exact⟨wO (by omega),(i+1),_,au.refl _ _,by omega,by omega,⟨rfl,rfl,bc (by omega),Z,Z,Z,Y⟩,⟨by rw[u];rfl,trivial⟩⟩
 have e:i=s.length:=by omega
 rw[e];exact⟨Z,Z,Y⟩
def ov(cs acc:List (Int×Int))(x:Int×Int):List (Int×Int):=if x∈cs then acc else if x∈acc then acc else acc++[x]
def gD(cs L:List (Int×Int)):List (Int×Int):=L.foldl (ov cs) []
def w9(m:List cw)(s:List Lay)(l:List (Int×Int)):List (Int×Int):=l++[(1,nC m s s.length)]
def fS(m:List cw)(s:List Lay)(l:List (Int×Int)):List (Int×Int):=gW Gt (gD (bA m s s.length) (w9 m s l))
def cq(m:List cw)(s:List Lay)(l:List (Int×Int)):List (Int×Int):=bA m s s.length++fS m s l
theorem AN{cs L:List (Int×Int)}{i:Nat}{x:Int×Int}(h:L[i]?=some x):gD cs (L.take (i+1))=ov cs (gD cs (L.take i)) x:=by
 unfold gD;rw[aN h,se];rfl
theorem K9(cs d:List (Int×Int))(x:Int×Int):(ov cs d x).length<=d.length+1:=by
 unfold ov;split
 ·omega
 split
 ·omega
 simp
theorem sS(cs L:List (Int×Int)):∀i,i<=L.length->(gD cs (L.take i)).length<=i
 | 0,_=>by simp[gD]
 | i+1,h=>by
  obtain⟨x,d⟩:=aj (l:=L) (i:=i) (by omega);rw[AN d];have:=K9 cs (gD cs (L.take i)) x;have:=sS cs L i (by omega);omega
theorem o5{cs L:List (Int×Int)}{x:Int×Int}:x∈gD cs L↔x∈L/\¬x∈cs:=by
 have:∀(L d:List (Int×Int)),(∀y∈d,¬y∈cs)->(x∈L.foldl (ov cs) d↔x∈d\/x∈L/\¬x∈cs):=by
  intro L
  induction L with
  | nil=>intro d _;simp
  | cons y L ih=>
   intro d J;rw[jg];by_cases D:y∈cs
   ·rw[show ov cs d y=d from ae D,ih d J,aE];constructor
    ·rintro (h | ⟨h,u⟩)
     ·exact .inl h
     exact .inr ⟨.inr h,u⟩
    rintro (h | ⟨h | h,u⟩)
    ·exact .inl h
    ·exact absurd (h▸D) u
    exact .inr ⟨h,u⟩
   by_cases N:y∈d
   ·rw[show ov cs d y=d by rw[ov,aa D,ae N],ih d J,aE];constructor
    ·rintro (h | ⟨h,u⟩)
     ·exact .inl h
     exact .inr ⟨.inr h,u⟩
    rintro (h | ⟨h | h,u⟩)
    ·exact .inl h
    ·exact .inl (h▸N)
    exact .inr ⟨h,u⟩
   rw[show ov cs d y=d++[y] by rw[ov,aa D,aa N],ih (d++[y]) (fun z I=>by
    rcases cm.1 I with I | I
    ·exact J z I
    rw[bM.1 I];exact D),cm,bM,aE]
   constructor
   ·rintro ((h | h) | ⟨h,u⟩)
    ·exact .inl h
    ·exact .inr ⟨.inl h,h▸D⟩
    exact .inr ⟨.inr h,u⟩
   rintro (h | ⟨h | h,u⟩)
   ·exact .inl (.inl h)
   ·exact .inl (.inr h)
   exact .inr ⟨h,u⟩
 rw[gD,this L [] (by simp)];simp
theorem xZ(cs:List (Int×Int)):∀(L d:List (Int×Int)),d.Nodup->(L.foldl (ov cs) d).Nodup
 | [],_,h=>h
 | y::L,d,h=>by
  rw[jg];refine xZ cs L _ ?_;unfold ov;split
  ·exact h
  split
  ·exact h
  rename_i u;rw[List.nodup_append];exact⟨h,by simp,fun a z b hb e=>u (by rw[bM]at hb;exact hb▸e▸z)⟩
theorem EJ{m:List cw}{s:List Lay}(hS:s.length<=1048576)(hb:∀x∈l,Bs x):∀x∈w9 m s l,Bs x:=fun x d=>by
 rcases cm.1 d with h | h
 ·exact hb x h
 rw[bM.1 h];have:=rB (m:=m) (s:=s) (i:=s.length);exact⟨⟨by dsimp only;decide,by dsimp only;decide⟩,by dsimp only;omega,by dsimp only;omega⟩
theorem vO(m:List cw)(s:List Lay)(l:List (Int×Int))(hs:dC cw.name m)(V:m.length<=1000000)(hS:s.length<=1048576)(hl:l.length<=1000)(hb:∀x∈l,Bs x):af C 160 [.pv (.sl (m.map iX)),.pv (.sl (s.map gJ)),.pv (.sl (l.map sp))] (.tu [.sl ((cq m s l).map sp),i64 (bA m s s.length).length]) []:=by
 refine fW hC Tryz.func160 rfl (by kernel_rfl) fun _=>?_;have lm:=ak l sp;have W:=Gv m s hs V hS;have Wu:=oE m s hs V hS;have N:=xY l (by omega);have cl:=sR (m:=m) (s:=s) (i:=s.length);have hn:(((cZ m s s.length).map fun n=>[i64 n]).length:Int)=nC m s s.length:=by rw[aw];rfl
 obtain⟨cs,nR⟩:∃cs,cs=bA m s s.length:=⟨_,rfl⟩;obtain⟨L,d⟩:∃L,L=w9 m s l:=⟨_,rfl⟩;have Iq:L.length<=1001:=by rw[d,w9];simp;omega
 have lL:=ak L sp;have lc:=ak cs sp;have he:l.map sp++[[i64 1,i64 (((cZ m s s.length).map fun n=>[i64 n]).length:Int)]]=L.map sp:=by rw[hn,d,w9,bz];rfl
 have S4:((l.map sp++[[i64 1,i64 (((cZ m s s.length).map fun n=>[i64 n]).length:Int)]]).length:Int)=L.length:=by rw[he,lL]
 rw[<-nR]at W cl;refine⟨_,_,W,_,_,N,_,_,Wu,⟨fun r O=>(by rw[bM.1 O];rfl),by simp;omega,by simp;omega⟩,?_⟩;refine ax (fun i:Nat=>i<=L.length) (fun i=>[(6,.ow 6),(7,.p (i64 cs.length)),(8,.ow 8),(24,.p (.sl (L.map sp))),(25,.p (i64 L.length)),(26,.p (i64 i))]) (fun i=>[(6,.row 94 (cs.map sp)),(8,.row 94 ((gD cs (L.take i)).map sp))]) (fun i=>L.length-i) 0 _ (au.trans (au.ed hC _ 8 94 _ (by decide) rfl rfl (by decide)) (au.gn hC _ 24 (y:=.sl (l.map sp++[[i64 1,i64 (((cZ m s s.length).map fun n=>[i64 n]).length:Int)]])) ⟨rfl,rfl⟩)) (ai _) ⟨rfl,ah (fun n:Nat=>AV.p (i64 n)) lc,rfl,ah (fun r=>AV.p (PV.sl r)) he,ah (fun n:Int=>AV.p (i64 n)) S4,Z,Y⟩ ⟨Z,Z,Y⟩ fun i hi t h=>?_;apply iW<;>intro h1
 ·obtain⟨x,u⟩:=aj (l:=L) (i:=i) (by omega);have hp:=AN (cs:=cs) u;have qE:=sS cs L i (by omega);have R:=ak (gD cs (L.take i)) sp;have z:=tB cs (by omega) x;have D:=tB (gD cs (L.take i)) (by omega) x;refine⟨(sp x),(idx rfl u),?_⟩;by_cases I:x∈cs
  ·rw[aP I]at z;rw[ov,ae I]at hp;exact⟨_,_,z,wO (by omega),(i+1),_,au.refl _ _,by omega,by omega,⟨Z,Z,Z,Z,Z,Z,Y⟩,⟨rfl,by rw[hp];rfl,trivial⟩⟩
  rw[aL I]at z;rw[ov,aa I]at hp;refine⟨_,_,z,?_⟩;by_cases J:x∈gD cs (L.take i)
  ·rw[aP J]at D;rw[ae J]at hp;exact⟨_,_,D,wO (by omega),(i+1),_,au.refl _ _,by omega,by omega,⟨Z,Z,Z,Z,Z,Z,Y⟩,⟨rfl,by rw[hp];rfl,trivial⟩⟩
  rw[aL J]at D;rw[aa J]at hp;exact⟨_,_,D,⟨fun r O=>(by rw[bM.1 O];rfl),by rw[R];simp;omega,by rw[R];simp;omega⟩,wO (by omega),(i+1),_,au.refl _ _,by omega,by omega,⟨Z,Z,Z,Z,Z,Z,Y⟩,⟨rfl,by rw[hp,bz];rfl,trivial⟩⟩
 have e:i=L.length:=by omega
 have qE:=sS cs L i (by omega);rw[e,fQ]at qE ⊢;have U:∀x∈gD cs L,Bs x:=fun x u=>EJ hS hb x (d▸(o5.1 u).1);have R:=(db Gt Io (gD cs L)).1.length_eq;have lq:=ak (gW Gt (gD cs L)) sp;refine⟨_,_,(EH (gD cs L) U (by omega)),⟨j_ fun _=>rfl,by show ((cs.map sp).length+((gW Gt (gD cs L)).map sp).length)*16<=_;omega,by omega⟩,?_⟩;rw[cq,fS,<-nR,<-d,bz];exact⟨Z,Y⟩
def qy(a b:Int×Int):Bool:=decide (b.1<=a.1)&&decide (a.2<=b.2)
def rC(a:Int×Int)(c:Int)(b:Int×Int):Bool:=!decide (b=a)&&(qy b a&&(decide (b.1<=c)&&decide (c<=b.2)))
theorem U0(a b:Int×Int)(c:Int):af C 261 [.pv (.ag (sp b)),.pv (.ip (sp a)),.pv (.ip [i64 c])] (.p (bool (rC a c b))) []:=by
 refine fW hC Tryz.func261 rfl (by kernel_rfl) fun _=>?_;have u:=w8 b a
 repeat' first | apply iW<;>intro d<;>try simp only[zB]at d | refine⟨_,_,u,?_⟩
 all_goals refine⟨?_,trivial⟩
 all_goals simp_all [bool,rC,qy,Prod.ext_iff]<;>omega
theorem K_(l:List (Int×Int))(hN:l.length<=140737488355328)(a:Int×Int)(c:Int):af C 362 [.pv (.sl (l.map sp)),.pv (.fn 261 [.ip (sp a),.ip [i64 c]])] (.p (i64 (fy (rC a c) l 0))) []:=by
 refine fW hC Tryz.func362 rfl (by kernel_rfl) fun _=>?_;have D:=ak l sp;refine ax (fun i:Nat=>i<=l.length/\∀z∈l.take i,rC a c z=false) (fun i=>[(0,.p (.sl (l.map sp))),(1,.p (.fn 261 [.ip (sp a),.ip [i64 c]])),(7,.p (i64 (l.map sp).length)),(8,.p (i64 i))]) (fun _=>[]) (fun i=>l.length-i) 0 _ (au.refl _ _) ⟨ai _,by simp⟩ ⟨Z,Z,Z,Z,Y⟩ trivial fun i hi t h=>?_;apply iW<;>intro I
 ·rw[D]at I;obtain⟨r,u⟩:=aj (l:=l) (i:=i) (by omega);refine⟨(sp r),(idx rfl u),_,_,(U0 a r c),iW ?_ ?_⟩<;>intro d
  ·refine⟨?_,trivial⟩;rw[cX u d hi.2,aY]
  exact⟨wO (by omega),(i+1),_,au.refl _ _,⟨by omega,cN u d hi.2⟩,by omega,⟨Z,Z,Z,Z,Y⟩,trivial⟩
 rw[D]at I;refine⟨?_,trivial⟩;have d:=hi.2;rw[aW (by omega)]at d;rw[bW d];rfl
theorem EK(l:List (Int×Int))(d:l.length<=140737488355328)(a:Int×Int)(c:Int):af C 260 [.pv (.sl (l.map sp)),.pv (.fn 261 [.ip (sp a),.ip [i64 c]])] (.p (bool (l.any (rC a c)))) []:=by
 refine fW hC Tryz.func260 rfl (by kernel_rfl) fun _=>?_;refine⟨_,_,(K_ l d a c),?_,trivial⟩;rw[<-ib _ l 0];rfl
def jo(n:Int)(l:List (Int×Int))(i:Nat):Int:=match l[i]? with
 | some x=>if x.1<1\/n<x.2\/x.2<=x.1 then 1 else match l[i-1]? with
  | some p=>if 0<i/\¬lexLt p x then 8 else 0
  | none=>0
 | none=>0
def uf(a b:Int×Int):Bool:=decide (a.1<=b.2)&&(decide (b.1<=a.2)&&(!qy a b&&!qy b a))
def tC(B:List (Int×Int))(i:Nat):Int:=match B[i]? with
 | some a=>if (B.take i).any (uf a)=true then 12 else 0
 | none=>0
def o6(B:List (Int×Int))(a:Int×Int)(k:Nat):Bool:=(List.range k).any fun j=>!B.any (rC a (a.1+1+(j:Int)))
def AO(B P:List (Int×Int))(i:Nat):Int:=match P[i]? with
 | some a=>if o6 B a (a.2-a.1-1).toNat=true then 11 else 0
 | none=>0
def rD(m:List cw)(s:List Lay)(l:List (Int×Int)):Int:=p8 (aG (tC (cq m s l)) 0 (cq m s l).length) (aG (AO (cq m s l) (fS m s l)) 0 (fS m s l).length)
def bQ(m:List cw)(s:List Lay)(l:List (Int×Int)):Int:=p8 (bH m s) (if 200<l.length then 2 else p8 (aG (jo (nC m s s.length) l) 0 l.length) (rD m s l))
end M
end Go.Proofs.YtnpkopkpbgflnaaGreatDoor
