/- Part 8 of the proof of HousePricesAddUp. -/
import Derived.Test.YtihgjolmpjjblaaGreatDoorP07
import Derived.DataShut
set_option linter.unusedVariables false
set_option linter.unusedSimpArgs false
set_option maxRecDepth 100000
set_option maxHeartbeats 8000000
namespace Go
abbrev rG:=@Bool.false_xor
abbrev Gz:=@List.getLast?_cons_cons
abbrev MR:=@List.getLast?_eq_none_iff
abbrev xB:=@List.pairwise_map
end Go
namespace Go.AM
open Go.RowKit Go.ChangeShapes
section
variable {H:Type} {enc:TypeId×Value->H} {P:Program} {w:World} {S:Nat->Prop}
theorem RC{t:TypeId}(z:P.underlying t=some .bool):Mz enc P w S t 1 fun xs d=>∃b:Bool,xs=[.im (.bool b)]:=fun n cs x h=>by
 obtain⟨b,rfl,rfl⟩:=DataW.trod_bool z h;exact⟨[.im (.bool b)],rfl,rfl,one_cell ⟨.im _,rfl⟩,b,rfl⟩
theorem GB{G:DataW H->Prop}{t e:TypeId}{k:Nat}{Q:List PV->DataW H->Prop}(ht:P.underlying t=some (.slice e))(hc:P.cellsOf e=k)(hk:0<k)(hS:∀b,b<w.heap.size->S b)(he:∀n cs x,G x.1->DataW.trod enc P w 0 (fun _=>true) true n e cs=some x->∃xs,xs.length=k/\cs.length=k/\(∀(i:Nat) c v,xs[i]?=some c->cs[i]?=some v->aO S w c v/\v.oneCell'=true)/\Q xs x.1):
  ∀n cs x,(∀es sp,x.1=.slice es sp->∀y∈es,G y)->DataW.trod enc P w 0 (fun _=>true) true n t cs=some x->∃xs,xs.length=1/\cs.length=1/\(∀(i:Nat) c v,xs[i]?=some c->cs[i]?=some v->aO S w c v/\v.oneCell'=true)/\(∃(es:List (List PV)) (ds sp:List (DataW H)),xs=[.sl es]/\es.length=ds.length/\(x.1=.nil/\ds=[]\/x.1=.slice ds sp)/\∀(i:Nat) x y,es[i]?=some x->ds[i]?=some y->Q x y):=fun n cs x hG h=>by
 rcases Go.Deep.open_slice ht h with⟨rfl,rfl⟩ | ⟨a,len,cap,m,n,D,Pl,rfl,hb,hl,hm,P_,rfl,Z⟩
 ·exact⟨[.sl []],rfl,rfl,one_cell ⟨.nil _ _,rfl⟩,[],[],[],rfl,rfl,.inl ⟨rfl,rfl⟩,fun i x y h=>by cases h⟩
 have Yk:len<=m:=by rw[P_];split<;>omega
 rcases wZ len with h0 | V
 ·subst h0;exact⟨[.sl []],rfl,rfl,one_cell ⟨.nil _ _,rfl⟩,[],[],_,rfl,rfl,.inr rfl,fun i x y h=>by cases h⟩
 rw[hc]at Z;have W:∀i,i<len->∃p:List PV×List Value,p.1.length=k/\p.2.length=k/\(∀j,j<k->w.cell? ((a.add (i*k)).add j)=p.2[j]?)/\(∀(j:Nat) c v,p.1[j]?=some c->p.2[j]?=some v->aO S w c v/\v.oneCell'=true)/\Q p.1 (D i):=fun i hi=>by
  obtain⟨oM,J,z⟩:=Z i (by omega);obtain⟨_,hlen,R⟩:=World.cells?_some J;obtain⟨xs,l1,l2,l3,l4⟩:=he _ _ _ (hG _ _ rfl _ (aZ.2 ⟨i,gG.2 hi,rfl⟩)) z;exact⟨(xs,oM),l1,l2,R,l3,l4⟩
 obtain⟨F,N⟩:=Ga (α:=List PV×List Value) W;have U:∀(i:Nat) e,((List.range len).map fun i=>(F i).1)[i]?=some e->i<len/\e=(F i).1:=fun i e h=>by
  rw[aD,aV]at h;obtain⟨j,O,rfl⟩:=h;obtain⟨J,z⟩:=az.1 O;rw[List.getElem_range]at z;subst z;exact⟨by simpa using J,rfl⟩
 have I:∀i j,i<len->j<k->w.cell? ((a.add (i*k)).add j)=some (((F i).2[j]?).getD .nilIface):=fun i j hi O=>by
  obtain⟨_,l2,h3,_⟩:=N i hi;rw[h3 j O,aW (by omega)];rfl
 have hz:=MA (I 0 0 V hk);obtain⟨b,off,spot⟩:=a;have Bv:spot=none:=by simpa [Addr.add] using hz.1
 subst Bv;have W6:b<w.heap.size:=by simpa [Addr.add] using hz.2
 have aw:∀i j,((⟨b,off,none⟩:Addr).add (i*k)).add j=⟨b,off+i*k+j,none⟩:=fun i j=>by
  unfold Addr.add;by_cases J:i*k=0
  ·rw[ae J,J];by_cases z:j=0
   ·rw[ae z,z];rfl
   rw[aa z];rfl
  rw[aa J];by_cases z:j=0
  ·rw[ae z,z];rfl
  rw[aa z]
 refine⟨[.sl ((List.range len).map fun i=>(F i).1)],rfl,rfl,one_cell ⟨?_,rfl⟩,(List.range len).map fun i=>(F i).1,(List.range len).map D,_,rfl,by simp,.inr rfl,fun i x y J z=>?_⟩
 ·have hlen:((List.range len).map fun i=>(F i).1).length=len:=by simp
  have:=aO.sl (S:=S) (w:=w) ((List.range len).map fun i=>(F i).1) k b off cap (fun i j=>((F i).2[j]?).getD .nilIface) (by rw[hlen];exact hl) (hS b W6)
   (fun e TH=>by obtain⟨i,hi,rfl⟩:=aZ.1 TH;exact (N i (gG.1 hi)).1)
   (fun i e j x J z=>by
    obtain⟨hi,rfl⟩:=U i e J;have O:j<k:=by rw[<-(N i hi).1];exact (az.1 z).1
    have Y:(F i).2[j]?=some (((F i).2[j]?).getD .nilIface):=by rw[aW (by rw[(N i hi).2.1];exact O)];rfl
    exact⟨by rw[<-aw];exact I i j hi O,((N i hi).2.2.2.1 j x _ z Y).2⟩)
   (fun i e j x J z=>by
    obtain⟨hi,rfl⟩:=U i e J;have O:j<k:=by rw[<-(N i hi).1];exact (az.1 z).1
    have Y:(F i).2[j]?=some (((F i).2[j]?).getD .nilIface):=by rw[aW (by rw[(N i hi).2.1];exact O)];rfl
    exact ((N i hi).2.2.2.1 j x _ z Y).1)
  rw[hlen]at this;exact this
 obtain⟨hi,rfl⟩:=U i x J;rw[aD,fX hi]at z;cases z;exact (N i hi).2.2.2.2
def bL(S:Nat->Prop)(w:World)(o:Nat)(xs:List PV)(cs:List Value):Prop:=∀(i:Nat) c v,xs[i]?=some c->cs[o+i]?=some v->aO S w c v/\v.oneCell'=true
variable {cs:List Value}
theorem bL.join{o:Nat}{xs ys:List PV}(h:bL S w o xs cs)(k:bL S w (o+xs.length) ys cs):bL S w o (xs++ys) cs:=fun i c v z D=>by
 by_cases e:i<xs.length
 ·rw[dN e]at z;exact h i c v z D
 rw[du (by omega)]at z;refine k (i-xs.length) c v z ?_;rw[<-D];congr 1;omega
theorem va{G:DataW H->Prop}{t:TypeId}{z:Array Field}(O:P.underlying t=some (.struct z))(ks:Nat->Nat)(hk:∀(i:Nat) (f:Field),z[i]?=some f->P.cellsOf f.type=ks i)(Qs:Nat->List PV->DataW H->Prop)(R:∀(i:Nat) (f:Field),z[i]?=some f->∀n cs y,G y.1->DataW.trod enc P w 0 (fun _=>true) true n f.type cs=some y->∃xs,xs.length=ks i/\cs.length=ks i/\(∀(i:Nat) c v,xs[i]?=some c->cs[i]?=some v->aO S w c v/\v.oneCell'=true)/\Qs i xs y.1){n:Nat}{x:DataW H×List MemPlace}(U:∀es,x.1=.agg es->∀y∈es,G y)(h:DataW.trod enc P w 0 (fun _=>true) true n t cs=some x):
  cs.length=P.cellsOf t/\∃ds:List (DataW H),x.1=.agg ds/\ds.length=z.size/\∀(i:Nat) (f:Field),z[i]?=some f->∃xs d,xs.length=ks i/\bL S w f.offset xs cs/\ds[i]?=some d/\Qs i xs d:=by
 obtain⟨ys,m,_,rfl,hl,hlen,V⟩:=DataW.trod_struct O h;refine⟨hl,ys.map (·.1),rfl,by rw[au,hlen],fun i f D=>?_⟩;have hi:i<z.size:=(cL.1 D).1;have I:=V i f D;have J:ys[i]?=some ys[i]:=aW (by omega);rw[J,hk i f D]at I;obtain⟨xs,l1,l2,W,Y⟩:=R i f D _ _ _ (U _ rfl _ (aZ.2 ⟨ys[i],o5 _,rfl⟩)) I;refine⟨xs,ys[i].1,l1,fun j c v N Z=>W j c v N ?_,by rw[aD,J];rfl,Y⟩;have hj:=(az.1 N).1;rw[oZ (by omega),gB];exact Z
theorem cU{t:TypeId}{z:Array Field}(I:P.underlying t=some (.struct z))(ks:Nat->Nat)(hk:∀(i:Nat) (f:Field),z[i]?=some f->P.cellsOf f.type=ks i)(Qs:Nat->List PV->DataW H->Prop)(J:∀(i:Nat) (f:Field),z[i]?=some f->Mz enc P w S f.type (ks i) (Qs i)){n:Nat}{x:DataW H×List MemPlace}(h:DataW.trod enc P w 0 (fun _=>true) true n t cs=some x):
  cs.length=P.cellsOf t/\∃ds:List (DataW H),x.1=.agg ds/\ds.length=z.size/\∀(i:Nat) (f:Field),z[i]?=some f->∃xs d,xs.length=ks i/\bL S w f.offset xs cs/\ds[i]?=some d/\Qs i xs d:=
 va (G:=fun _=>True) I ks hk Qs (fun i f D n cs y _ h=>J i f D n cs y h) (fun _ _ _ _=>trivial) h
end
end Go.AM
namespace Go.Proofs.YtihgjolmpjjblaaGreatDoor
namespace M
open Go.AM Go.RowKit Go.Lib
open Reg (aB cw aR)
variable {H:Type} {enc:TypeId×Value->H} {w:World} {S:Nat->Prop}
def Xj(P:Program)(fs:Array Field)(ks:Nat->Nat):Bool:=(List.range fs.size).all fun i=>match fs[i]? with
 | some f=>Nat.beq (P.cellsOf f.type) (ks i)
 | none=>true
theorem dI{P:Program}{z:Array Field}{ks:Nat->Nat}(h:Xj P z ks=true):∀(i:Nat) (f:Field),z[i]?=some f->P.cellsOf f.type=ks i:=fun i f D=>by
 have hi:=(cL.1 D).1;have:=dY.1 h i (gG.2 hi);rw[D]at this;exact cY this
def UB{γ:Type}(OK:γ->Prop):γ->Nat->Prop:=fun r n=>n<=1048576->OK r
variable {γ:Type}
theorem MS{z:γ->Prop}:∀r m n,m<=n->UB z r m->UB z r n:=fun _ _ _ h k D=>k (aS h D)
theorem uv{t:TypeId}{k:Nat}{f:γ->List PV}{B z:γ->Nat->Prop}(h:Sp enc w S t k f B)(hb:∀r n,B r n->z r n):Sp enc w S t k f z:=fun n cs x D=>by
 obtain⟨xs,l1,l2,I,r,e,b⟩:=h n cs x D;exact⟨xs,l1,l2,I,r,e,hb _ _ b⟩
theorem us:Sp enc w S 9 1 (fun s=>[str s]) (UB bK):=uv Xc fun _ _ h z=>Xd (aS h z)
theorem ui:Sp enc w S 3 1 (fun n=>[i64 n]) (UB fun _=>True):=uv An fun _ _ _ _=>trivial
theorem VL:Sp enc w S 4 1 (fun b=>[bool b]) (UB fun _=>True):=fun n cs x h=>by
 obtain⟨xs,l1,l2,z,b,e⟩:=RC (S:=S) tW n cs x h;exact⟨xs,l1,l2,z,b,e,fun _=>trivial⟩
theorem Cq:Sp enc w S 78 2 (fun p:Int×Int=>[i64 p.1,i64 p.2]) (UB fun _=>True):=uv Ro fun _ _ _ _=>trivial
theorem ZZ:Sp enc w S 93 4 rc (UB fun _=>True):=uv MF fun _ _ _ _=>trivial
def ic{γ:Type}(OK:γ->Prop)(l:List γ):Prop:=l.length<=1048576/\∀r∈l,OK r
theorem iJ{t e:TypeId}{k:Nat}{f:γ->List PV}{z:γ->Prop}(I:Tryz.prog.underlying t=some (.slice e))(J:Tryz.prog.cellsOf e=k)(hk:0<k)(hS:∀b,b<w.heap.size->S b)(N:Sp enc w S e k f (UB z)):Sp enc w S t 1 (fun l:List γ=>[.sl (l.map f)]) (UB (ic z)):=
 uv (sV I J hk hS MS N) fun _ _ h D=>⟨aS h.1 D,fun r O=>h.2 r O D⟩
theorem Xk(hS:∀b,b<w.heap.size->S b):Sp enc w S 41 7 rl (UB xj):=uv (Rn hS) fun r n h z=>Rp (Gl _ _ _ z h)
theorem Xl:Sp enc w S 231 3 uj (UB (fun x=>bK x.name)):=fun n cs x h=>by
 obtain⟨hl,ds,e,ld,q⟩:=cU (S:=S) (ks:=fun i=>match i with | _=>1) (hk:=dI (by kernel_rfl)) (Qs:=fun i xs d=>match i with
   | 0=>∃r:ByteArray,xs=[str r]/\UB bK r (Rows.uptoBulk d)
   | 1=>∃r:Int,xs=[i64 r]/\UB (fun _=>True) r (Rows.uptoBulk d)
   | _=>∃r:Int,xs=[i64 r]/\UB (fun _=>True) r (Rows.uptoBulk d)) Tryz.underlying231 (fun i f z=>by
  match i,z with
  | 0,z=>cases z;exact us
  | 1,z=>cases z;exact ui
  | 2,z=>cases z;exact ui
  | n+3,z=>cases z) h
 have hl:cs.length=3:=hl.trans (by kernel_rfl);obtain⟨x0,c0,_,R,U,I,V,b0⟩:=q 0 _ rfl;obtain⟨x1,c1,_,W,Y,J,Z,b1⟩:=q 1 _ rfl;obtain⟨x2,c2,_,r2,i2,N,e2,b2⟩:=q 2 _ rfl;cases V;cases Z;cases e2;have D:bL S w 0 ([str I]++([i64 J]++([i64 N]))) cs:=bL.join R (bL.join W (r2));have O:=bE U;have j1:=bE Y;have j2:=bE i2;rw[<-e]at O j1 j2;exact⟨_,rfl,hl,fun i c v h1 h2=>D i c v h1 (by rw[bp];exact h2),⟨I,J,N⟩,rfl,fun hn=>b0 (aS O hn)⟩
theorem Xm(hS:∀b,b<w.heap.size->S b):Sp enc w S 166 2 vU (UB (fun x=>bK x.name/\Gp x.pins)):=fun n cs x h=>by
 obtain⟨hl,ds,e,ld,q⟩:=cU (S:=S) (ks:=fun i=>match i with | _=>1) (hk:=dI (by kernel_rfl)) (Qs:=fun i xs d=>match i with
   | 0=>∃r:ByteArray,xs=[str r]/\UB bK r (Rows.uptoBulk d)
   | _=>∃r:List eV,xs=[.sl (r.map uj)]/\UB (ic (fun x:eV=>bK x.name)) r (Rows.uptoBulk d)) Tryz.underlying166 (fun i f z=>by
  match i,z with
  | 0,z=>cases z;exact us
  | 1,z=>cases z;exact iJ (k:=3) Tryz.underlying164 (by kernel_rfl) (by decide) hS (Xl)
  | n+2,z=>cases z) h
 have hl:cs.length=2:=hl.trans (by kernel_rfl);obtain⟨x0,c0,_,U,V,I,W,b0⟩:=q 0 _ rfl;obtain⟨x1,c1,_,Y,Z,J,e1,b1⟩:=q 1 _ rfl;cases W;cases e1;have D:bL S w 0 ([str I]++([.sl (J.map uj)])) cs:=bL.join U (Y);have N:=bE V;have O:=bE Z;rw[<-e]at N O;exact⟨_,rfl,hl,fun i c v h1 h2=>D i c v h1 (by rw[bp];exact h2),⟨I,J⟩,rfl,fun R=>⟨b0 (aS N R),b1 (aS O R)⟩⟩
theorem Xn:Sp enc w S 185 2 yV (UB (fun x=>bK x.name/\bK x.type)):=fun n cs x h=>by
 obtain⟨hl,ds,e,ld,q⟩:=cU (S:=S) (ks:=fun i=>match i with | _=>1) (hk:=dI (by kernel_rfl)) (Qs:=fun i xs d=>match i with
   | 0=>∃r:ByteArray,xs=[str r]/\UB bK r (Rows.uptoBulk d)
   | _=>∃r:ByteArray,xs=[str r]/\UB bK r (Rows.uptoBulk d)) Tryz.underlying185 (fun i f z=>by
  match i,z with
  | 0,z=>cases z;exact us
  | 1,z=>cases z;exact us
  | n+2,z=>cases z) h
 have hl:cs.length=2:=hl.trans (by kernel_rfl);obtain⟨x0,c0,_,U,V,I,W,b0⟩:=q 0 _ rfl;obtain⟨x1,c1,_,Y,Z,J,e1,b1⟩:=q 1 _ rfl;cases W;cases e1;have D:bL S w 0 ([str I]++([str J])) cs:=bL.join U (Y);have N:=bE V;have O:=bE Z;rw[<-e]at N O;exact⟨_,rfl,hl,fun i c v h1 h2=>D i c v h1 (by rw[bp];exact h2),⟨I,J⟩,rfl,fun R=>⟨b0 (aS N R),b1 (aS O R)⟩⟩
theorem Z0:Sp enc w S 141 2 Gm (UB (fun _=>True)):=fun n cs x h=>by
 obtain⟨hl,ds,e,ld,q⟩:=cU (S:=S) (ks:=fun i=>match i with | _=>1) (hk:=dI (by kernel_rfl)) (Qs:=fun i xs d=>match i with
   | 0=>∃r:ByteArray,xs=[str r]/\UB bK r (Rows.uptoBulk d)
   | _=>∃r:ByteArray,xs=[str r]/\UB bK r (Rows.uptoBulk d)) Tryz.underlying141 (fun i f z=>by
  match i,z with
  | 0,z=>cases z;exact us
  | 1,z=>cases z;exact us
  | n+2,z=>cases z) h
 have hl:cs.length=2:=hl.trans (by kernel_rfl);obtain⟨x0,c0,_,N,O,I,R,b0⟩:=q 0 _ rfl;obtain⟨x1,c1,_,U,V,J,W,b1⟩:=q 1 _ rfl;cases R;cases W;have D:bL S w 0 ([str I]++([str J])) cs:=bL.join N (U);have Y:=bE O;have Z:=bE V;rw[<-e]at Y Z;exact⟨_,rfl,hl,fun i c v h1 h2=>D i c v h1 (by rw[bp];exact h2),⟨I,J⟩,rfl,fun hn=>trivial⟩
theorem Z1(hS:∀b,b<w.heap.size->S b):Sp enc w S 138 3 Uh (UB (fun n=>bK n.name/\n.pins.length<=1048576/\n.ports.length<=1048576)):=fun n cs x h=>by
 obtain⟨hl,ds,e,ld,q⟩:=cU (S:=S) (ks:=fun i=>match i with | _=>1) (hk:=dI (by kernel_rfl)) (Qs:=fun i xs d=>match i with
   | 0=>∃r:ByteArray,xs=[str r]/\UB bK r (Rows.uptoBulk d)
   | 1=>∃r:List sy,xs=[.sl (r.map Gm)]/\UB (ic (fun _=>True)) r (Rows.uptoBulk d)
   | _=>∃r:List ByteArray,xs=[strs r]/\UB (ic bK) r (Rows.uptoBulk d)) Tryz.underlying138 (fun i f z=>by
  match i,z with
  | 0,z=>cases z;exact us
  | 1,z=>cases z;exact iJ (k:=2) Tryz.underlying135 (by kernel_rfl) (by decide) hS (Z0)
  | 2,z=>cases z;exact iJ (k:=1) FZ (by kernel_rfl) (by decide) hS us
  | n+3,z=>cases z) h
 have hl:cs.length=3:=hl.trans (by kernel_rfl);obtain⟨x0,c0,_,W,Y,J,Z,b0⟩:=q 0 _ rfl;obtain⟨x1,c1,_,r1,i1,N,e1,b1⟩:=q 1 _ rfl;obtain⟨x2,c2,_,r2,i2,O,e2,b2⟩:=q 2 _ rfl;cases Z;cases e1;cases e2;have D:bL S w 0 ([str J]++([.sl (N.map Gm)]++([strs O]))) cs:=bL.join W (bL.join r1 (r2));have R:=bE Y;have U:=bE i1;have V:=bE i2;rw[<-e]at R U V;exact⟨_,rfl,hl,fun i c v h1 h2=>D i c v h1 (by rw[bp];exact h2),⟨J,N,O⟩,rfl,fun I=>⟨b0 (aS R I),(b1 (aS U I)).1,(b2 (aS V I)).1⟩⟩
theorem Xo(hS:∀b,b<w.heap.size->S b):Sp enc w S 26 2 S9 (UB Gy):=fun n cs x h=>by
 obtain⟨hl,ds,e,ld,q⟩:=cU (S:=S) (ks:=fun i=>match i with | _=>1) (hk:=dI (by kernel_rfl)) (Qs:=fun i xs d=>match i with
   | 0=>∃r:List Part,xs=[.sl (r.map yV)]/\UB (ic (fun x:Part=>bK x.name/\bK x.type)) r (Rows.uptoBulk d)
   | _=>∃r:List Net,xs=[.sl (r.map Uh)]/\UB (ic (fun n:Net=>bK n.name/\n.pins.length<=1048576/\n.ports.length<=1048576)) r (Rows.uptoBulk d)) Tryz.underlying26 (fun i f z=>by
  match i,z with
  | 0,z=>cases z;exact iJ (k:=2) Tryz.underlying23 (by kernel_rfl) (by decide) hS (Xn)
  | 1,z=>cases z;exact iJ (k:=3) Tryz.underlying24 (by kernel_rfl) (by decide) hS (Z1 hS)
  | n+2,z=>cases z) h
 have hl:cs.length=2:=hl.trans (by kernel_rfl);obtain⟨x0,c0,_,U,V,I,W,b0⟩:=q 0 _ rfl;obtain⟨x1,c1,_,Y,Z,J,e1,b1⟩:=q 1 _ rfl;cases W;cases e1;have D:bL S w 0 ([.sl (I.map yV)]++([.sl (J.map Uh)])) cs:=bL.join U (Y);have N:=bE V;have O:=bE Z;rw[<-e]at N O;exact⟨_,rfl,hl,fun i c v h1 h2=>D i c v h1 (by rw[bp];exact h2),⟨I,J⟩,rfl,fun R=>⟨b0 (aS N R),b1 (aS O R)⟩⟩
theorem Z2:Sp enc w S 147 4 vV (UB (fun x=>bK x.name)):=fun n cs x h=>by
 obtain⟨hl,ds,e,ld,q⟩:=cU (S:=S) (ks:=fun i=>match i with | _=>1) (hk:=dI (by kernel_rfl)) (Qs:=fun i xs d=>match i with
   | 0=>∃r:ByteArray,xs=[str r]/\UB bK r (Rows.uptoBulk d)
   | 1=>∃r:Int,xs=[i64 r]/\UB (fun _=>True) r (Rows.uptoBulk d)
   | 2=>∃r:Int,xs=[i64 r]/\UB (fun _=>True) r (Rows.uptoBulk d)
   | _=>∃r:Int,xs=[i64 r]/\UB (fun _=>True) r (Rows.uptoBulk d)) Tryz.underlying147 (fun i f z=>by
  match i,z with
  | 0,z=>cases z;exact us
  | 1,z=>cases z;exact ui
  | 2,z=>cases z;exact ui
  | 3,z=>cases z;exact ui
  | n+4,z=>cases z) h
 have hl:cs.length=4:=hl.trans (by kernel_rfl);obtain⟨x0,c0,_,U,V,I,W,b0⟩:=q 0 _ rfl;obtain⟨x1,c1,_,Y,Z,J,e1,b1⟩:=q 1 _ rfl;obtain⟨x2,c2,_,r2,i2,N,e2,b2⟩:=q 2 _ rfl;obtain⟨x3,c3,_,r3,i3,O,e3,b3⟩:=q 3 _ rfl;cases W;cases e1;cases e2;cases e3;have D:bL S w 0 ([str I]++([i64 J]++([i64 N]++([i64 O])))) cs:=bL.join U (bL.join Y (bL.join r2 (r3)));have R:=bE V;have j1:=bE Z;have j2:=bE i2;have j3:=bE i3;rw[<-e]at R j1 j2 j3;exact⟨_,rfl,hl,fun i c v h1 h2=>D i c v h1 (by rw[bp];exact h2),⟨I,J,N,O⟩,rfl,fun hn=>b0 (aS R hn)⟩
theorem Z3:Sp enc w S 124 2 yq (UB (fun x=>bK x.name/\bK x.mat)):=fun n cs x h=>by
 obtain⟨hl,ds,e,ld,q⟩:=cU (S:=S) (ks:=fun i=>match i with | _=>1) (hk:=dI (by kernel_rfl)) (Qs:=fun i xs d=>match i with
   | 0=>∃r:ByteArray,xs=[str r]/\UB bK r (Rows.uptoBulk d)
   | _=>∃r:ByteArray,xs=[str r]/\UB bK r (Rows.uptoBulk d)) Tryz.underlying124 (fun i f z=>by
  match i,z with
  | 0,z=>cases z;exact us
  | 1,z=>cases z;exact us
  | n+2,z=>cases z) h
 have hl:cs.length=2:=hl.trans (by kernel_rfl);obtain⟨x0,c0,_,U,V,I,W,b0⟩:=q 0 _ rfl;obtain⟨x1,c1,_,Y,Z,J,e1,b1⟩:=q 1 _ rfl;cases W;cases e1;have D:bL S w 0 ([str I]++([str J])) cs:=bL.join U (Y);have N:=bE V;have O:=bE Z;rw[<-e]at N O;exact⟨_,rfl,hl,fun i c v h1 h2=>D i c v h1 (by rw[bp];exact h2),⟨I,J⟩,rfl,fun R=>⟨b0 (aS N R),b1 (aS O R)⟩⟩
theorem Xp(hS:∀b,b<w.heap.size->S b):Sp enc w S 153 2 zU (UB Gt):=fun n cs x h=>by
 obtain⟨hl,ds,e,ld,q⟩:=cU (S:=S) (ks:=fun i=>match i with | _=>1) (hk:=dI (by kernel_rfl)) (Qs:=fun i xs d=>match i with
   | 0=>∃r:ByteArray,xs=[str r]/\UB bK r (Rows.uptoBulk d)
   | _=>∃r:List aB,xs=[aE r]/\UB (ic fun _=>True) r (Rows.uptoBulk d)) Tryz.underlying153 (fun i f z=>by
  match i,z with
  | 0,z=>cases z;exact us
  | 1,z=>cases z;exact iJ (k:=4) Tryz.underlying52 (by kernel_rfl) (by decide) hS ZZ
  | n+2,z=>cases z) h
 have hl:cs.length=2:=hl.trans (by kernel_rfl);obtain⟨x0,c0,_,U,V,I,W,b0⟩:=q 0 _ rfl;obtain⟨x1,c1,_,Y,Z,J,e1,b1⟩:=q 1 _ rfl;cases W;cases e1;have D:bL S w 0 ([str I]++([aE J])) cs:=bL.join U (Y);have N:=bE V;have O:=bE Z;rw[<-e]at N O;exact⟨_,rfl,hl,fun i c v h1 h2=>D i c v h1 (by rw[bp];exact h2),⟨I,J⟩,rfl,fun R=>⟨b0 (aS N R),(b1 (aS O R)).1⟩⟩
theorem Xq:Sp enc w S 80 6 vK (UB (fun _=>True)):=fun n cs x h=>by
 obtain⟨hl,ds,e,ld,q⟩:=cU (S:=S) (ks:=fun i=>match i with | 0=>2 | _=>1) (hk:=dI (by kernel_rfl)) (Qs:=fun i xs d=>match i with
   | 0=>∃r:Int×Int,xs=[i64 r.1,i64 r.2]/\UB (fun _=>True) r (Rows.uptoBulk d)
   | 1=>∃r:Int,xs=[i64 r]/\UB (fun _=>True) r (Rows.uptoBulk d)
   | 2=>∃r:Int,xs=[i64 r]/\UB (fun _=>True) r (Rows.uptoBulk d)
   | 3=>∃r:Int,xs=[i64 r]/\UB (fun _=>True) r (Rows.uptoBulk d)
   | _=>∃r:Bool,xs=[bool r]/\UB (fun _=>True) r (Rows.uptoBulk d)) Tryz.underlying80 (fun i f z=>by
  match i,z with
  | 0,z=>cases z;exact Cq
  | 1,z=>cases z;exact ui
  | 2,z=>cases z;exact ui
  | 3,z=>cases z;exact ui
  | 4,z=>cases z;exact VL
  | n+5,z=>cases z) h
 have hl:cs.length=6:=hl.trans (by kernel_rfl);obtain⟨x0,c0,_,U,V,D,W,b0⟩:=q 0 _ rfl;obtain⟨x1,c1,_,Y,Z,J,e1,b1⟩:=q 1 _ rfl;obtain⟨x2,c2,_,r2,i2,N,e2,b2⟩:=q 2 _ rfl;obtain⟨x3,c3,_,r3,i3,O,e3,b3⟩:=q 3 _ rfl;obtain⟨x4,c4,_,r4,i4,R,e4,b4⟩:=q 4 _ rfl;cases W;cases e1;cases e2;cases e3;cases e4;have I:bL S w 0 ([i64 D.1,i64 D.2]++([i64 J]++([i64 N]++([i64 O]++([bool R]))))) cs:=bL.join U (bL.join Y (bL.join r2 (bL.join r3 (r4))));have j0:=bE V;have j1:=bE Z;have j2:=bE i2;have j3:=bE i3;have j4:=bE i4;rw[<-e]at j0 j1 j2 j3 j4;exact⟨_,rfl,hl,fun i c v h1 h2=>I i c v h1 (by rw[bp];exact h2),⟨D.1,D.2,J,N,O,R⟩,rfl,fun hn=>trivial⟩
theorem Xr:Sp enc w S 159 5 DO (UB (fun x=>bK x.name/\bK x.nozzle)):=fun n cs x h=>by
 obtain⟨hl,ds,e,ld,q⟩:=cU (S:=S) (ks:=fun i=>match i with | _=>1) (hk:=dI (by kernel_rfl)) (Qs:=fun i xs d=>match i with
   | 0=>∃r:ByteArray,xs=[str r]/\UB bK r (Rows.uptoBulk d)
   | 1=>∃r:Int,xs=[i64 r]/\UB (fun _=>True) r (Rows.uptoBulk d)
   | 2=>∃r:Int,xs=[i64 r]/\UB (fun _=>True) r (Rows.uptoBulk d)
   | 3=>∃r:Int,xs=[i64 r]/\UB (fun _=>True) r (Rows.uptoBulk d)
   | _=>∃r:ByteArray,xs=[str r]/\UB bK r (Rows.uptoBulk d)) Tryz.underlying159 (fun i f z=>by
  match i,z with
  | 0,z=>cases z;exact us
  | 1,z=>cases z;exact ui
  | 2,z=>cases z;exact ui
  | 3,z=>cases z;exact ui
  | 4,z=>cases z;exact us
  | n+5,z=>cases z) h
 have hl:cs.length=5:=hl.trans (by kernel_rfl);obtain⟨x0,c0,_,Y,Z,I,e0,b0⟩:=q 0 _ rfl;obtain⟨x1,c1,_,r1,i1,J,e1,b1⟩:=q 1 _ rfl;obtain⟨x2,c2,_,r2,i2,N,e2,b2⟩:=q 2 _ rfl;obtain⟨x3,c3,_,r3,i3,O,e3,b3⟩:=q 3 _ rfl;obtain⟨x4,c4,_,r4,i4,R,e4,b4⟩:=q 4 _ rfl;cases e0;cases e1;cases e2;cases e3;cases e4;have D:bL S w 0 ([str I]++([i64 J]++([i64 N]++([i64 O]++([str R]))))) cs:=bL.join Y (bL.join r1 (bL.join r2 (bL.join r3 (r4))));have U:=bE Z;have j1:=bE i1;have j2:=bE i2;have j3:=bE i3;have V:=bE i4;rw[<-e]at U j1 j2 j3 V;exact⟨_,rfl,hl,fun i c v h1 h2=>D i c v h1 (by rw[bp];exact h2),⟨I,J,N,O,R⟩,rfl,fun W=>⟨b0 (aS U W),b4 (aS V W)⟩⟩
theorem Uo:Sp enc w S 110 6 EG (UB (fun x=>bK x.part/\bK x.type)):=fun n cs x h=>by
 obtain⟨hl,ds,e,ld,q⟩:=cU (S:=S) (ks:=fun i=>match i with | 2=>2 | _=>1) (hk:=dI (by kernel_rfl)) (Qs:=fun i xs d=>match i with
   | 0=>∃r:ByteArray,xs=[str r]/\UB bK r (Rows.uptoBulk d)
   | 1=>∃r:ByteArray,xs=[str r]/\UB bK r (Rows.uptoBulk d)
   | 2=>∃r:Int×Int,xs=[i64 r.1,i64 r.2]/\UB (fun _=>True) r (Rows.uptoBulk d)
   | 3=>∃r:Int,xs=[i64 r]/\UB (fun _=>True) r (Rows.uptoBulk d)
   | _=>∃r:Bool,xs=[bool r]/\UB (fun _=>True) r (Rows.uptoBulk d)) Tryz.underlying110 (fun i f z=>by
  match i,z with
  | 0,z=>cases z;exact us
  | 1,z=>cases z;exact us
  | 2,z=>cases z;exact Cq
  | 3,z=>cases z;exact ui
  | 4,z=>cases z;exact VL
  | n+5,z=>cases z) h
 have hl:cs.length=6:=hl.trans (by kernel_rfl);obtain⟨x0,c0,_,Y,Z,J,e0,b0⟩:=q 0 _ rfl;obtain⟨x1,c1,_,r1,i1,N,e1,b1⟩:=q 1 _ rfl;obtain⟨x2,c2,_,r2,i2,D,e2,b2⟩:=q 2 _ rfl;obtain⟨x3,c3,_,r3,i3,O,e3,b3⟩:=q 3 _ rfl;obtain⟨x4,c4,_,r4,i4,R,e4,b4⟩:=q 4 _ rfl;cases e0;cases e1;cases e2;cases e3;cases e4;have I:bL S w 0 ([str J]++([str N]++([i64 D.1,i64 D.2]++([i64 O]++([bool R]))))) cs:=bL.join Y (bL.join r1 (bL.join r2 (bL.join r3 (r4))));have U:=bE Z;have V:=bE i1;have j2:=bE i2;have j3:=bE i3;have j4:=bE i4;rw[<-e]at U V j2 j3 j4;exact⟨_,rfl,hl,fun i c v h1 h2=>I i c v h1 (by rw[bp];exact h2),⟨J,N,D.1,D.2,O,R⟩,rfl,fun W=>⟨b0 (aS U W),b1 (aS V W)⟩⟩
theorem Xt:Sp enc w S 115 3 rJ (UB (fun s=>bK s.pin)):=fun n cs x h=>by
 obtain⟨hl,ds,e,ld,q⟩:=cU (S:=S) (ks:=fun i=>match i with | 1=>2 | _=>1) (hk:=dI (by kernel_rfl)) (Qs:=fun i xs d=>match i with
   | 0=>∃r:ByteArray,xs=[str r]/\UB bK r (Rows.uptoBulk d)
   | _=>∃r:Int×Int,xs=[i64 r.1,i64 r.2]/\UB (fun _=>True) r (Rows.uptoBulk d)) Tryz.underlying115 (fun i f z=>by
  match i,z with
  | 0,z=>cases z;exact us
  | 1,z=>cases z;exact Cq
  | n+2,z=>cases z) h
 have hl:cs.length=3:=hl.trans (by kernel_rfl);obtain⟨x0,c0,_,O,R,J,U,b0⟩:=q 0 _ rfl;obtain⟨x1,c1,_,V,W,D,Y,b1⟩:=q 1 _ rfl;cases U;cases Y;have I:bL S w 0 ([str J]++([i64 D.1,i64 D.2])) cs:=bL.join O (V);have N:=bE R;have Z:=bE W;rw[<-e]at N Z;exact⟨_,rfl,hl,fun i c v h1 h2=>I i c v h1 (by rw[bp];exact h2),⟨J,D.1,D.2⟩,rfl,fun hn=>b0 (aS N hn)⟩
theorem Xu(hS:∀b,b<w.heap.size->S b):Sp enc w S 108 2 OD (UB (fun f=>bK f.type/\f.spots.length<=1048576/\∀s∈f.spots,bK s.pin)):=fun n cs x h=>by
 obtain⟨hl,ds,e,ld,q⟩:=cU (S:=S) (ks:=fun i=>match i with | _=>1) (hk:=dI (by kernel_rfl)) (Qs:=fun i xs d=>match i with
   | 0=>∃r:ByteArray,xs=[str r]/\UB bK r (Rows.uptoBulk d)
   | _=>∃r:List pY,xs=[.sl (r.map rJ)]/\UB (ic (fun s:pY=>bK s.pin)) r (Rows.uptoBulk d)) Tryz.underlying108 (fun i f z=>by
  match i,z with
  | 0,z=>cases z;exact us
  | 1,z=>cases z;exact iJ (k:=3) Tryz.underlying106 (by kernel_rfl) (by decide) hS (Xt)
  | n+2,z=>cases z) h
 have hl:cs.length=2:=hl.trans (by kernel_rfl);obtain⟨x0,c0,_,V,W,N,Y,b0⟩:=q 0 _ rfl;obtain⟨x1,c1,_,Z,i1,O,e1,R⟩:=q 1 _ rfl;cases Y;cases e1;have D:bL S w 0 ([str N]++([.sl (O.map rJ)])) cs:=bL.join V (Z);have U:=bE W;have I:=bE i1;rw[<-e]at U I;exact⟨_,rfl,hl,fun i c v h1 h2=>D i c v h1 (by rw[bp];exact h2),⟨N,O⟩,rfl,fun J=>⟨b0 (aS U J),(R (aS I J)).1,(R (aS I J)).2⟩⟩
def xC:List (gp×Steps)->Steps
 | []=>.nil
 | (s,u)::r=>.cons s u (xC r)
theorem rK:∀l:List (gp×Steps),(xC l).rows=l.map fun x=>Dp x.1 x.2.rows
 | []=>rfl
 | (s,u)::r=>by rw[xC,Steps.rows,rK r];rfl
def VM(x:gp×Steps):Prop:=sX x.1/\x.2.rows.length<=1048576/\x.2.ok
theorem Cr:∀l:List (gp×Steps),(∀x∈l,VM x)->(xC l).ok
 | [],_=>trivial
 | (s,u)::r,h=>by
  obtain⟨z,D,I⟩:=h (s,u) bW;exact⟨z,D,I,Cr r fun x J=>h x (cD _ J)⟩
def A9(u:Steps):Prop:=u.rows.length<=1048576/\u.ok
theorem Ld(hS:∀b,b<w.heap.size->S b):∀(N n:Nat) (cs:List Value) (x:DataW H×List MemPlace),SizeOf.sizeOf x.1<N->DataW.trod enc Tryz.prog w 0 (fun _=>true) true n 31 cs=some x->∃xs,xs.length=1/\cs.length=1/\(∀(i:Nat) c v,xs[i]?=some c->cs[i]?=some v->aO S w c v/\v.oneCell'=true)/\∃u:Steps,xs=[.sl u.rows]/\UB A9 u (Rows.uptoBulk x.1):=by
 intro N
 induction N with
 | zero=>intro n cs x h;omega
 | succ N ih=>
  intro n cs x hN h;obtain⟨xs,l1,l2,l3,es,ds,sp',U,hl,hd,q⟩:=GB (S:=S) (k:=8) (G:=fun y=>SizeOf.sizeOf y<N) (Q:=fun xs d=>∃r:gp×Steps,xs=Dp r.1 r.2.rows/\UB VM r (Rows.uptoBulk d)) Tryz.underlying31 (by kernel_rfl) (by decide) hS (fun n cs x hx h=>by
   obtain⟨hl,ds,e,ld,q⟩:=va (S:=S) (G:=fun y=>SizeOf.sizeOf y<N) (ks:=fun i=>match i with | 2=>2 | _=>1) (hk:=dI (by kernel_rfl)) (Qs:=fun i xs d=>match i with
     | 0=>∃r:Int,xs=[i64 r]/\UB (fun _=>True) r (Rows.uptoBulk d)
     | 1=>∃r:ByteArray,xs=[str r]/\UB bK r (Rows.uptoBulk d)
     | 2=>∃r:Int×Int,xs=[i64 r.1,i64 r.2]/\UB (fun _=>True) r (Rows.uptoBulk d)
     | 3=>∃r:List (Int×Int),xs=[.sl (r.map fun p=>[i64 p.1,i64 p.2])]/\UB (ic fun _=>True) r (Rows.uptoBulk d)
     | 4=>∃r:Int,xs=[i64 r]/\UB (fun _=>True) r (Rows.uptoBulk d)
     | 5=>∃r:Int,xs=[i64 r]/\UB (fun _=>True) r (Rows.uptoBulk d)
     | _=>∃u:Steps,xs=[.sl u.rows]/\UB A9 u (Rows.uptoBulk d)) Tryz.underlying223 (fun i f z n cs y J h=>by
    match i,z with
    | 0,z=>cases z;exact ui n cs y h
    | 1,z=>cases z;exact us n cs y h
    | 2,z=>cases z;exact Cq n cs y h
    | 3,z=>cases z;exact iJ (k:=2) Tryz.underlying221 (by kernel_rfl) (by decide) hS Cq n cs y h
    | 4,z=>cases z;exact ui n cs y h
    | 5,z=>cases z;exact ui n cs y h
    | 6,z=>cases z;exact ih n cs y J h
    | n+7,z=>cases z) (fun es V y J=>by
     have D:=List.sizeOf_lt_of_mem J;have O:SizeOf.sizeOf x.1=1+SizeOf.sizeOf es:=by rw[V];simp
     omega) h
   have hl:cs.length=8:=hl.trans (by kernel_rfl);obtain⟨x0,c0,_,r0,i0,Z,e0,b0⟩:=q 0 _ rfl;obtain⟨x1,c1,_,r1,i1,n1,U,b1⟩:=q 1 _ rfl;obtain⟨x2,c2,_,r2,i2,R,e2,b2⟩:=q 2 _ rfl;obtain⟨x3,c3,_,r3,i3,n3,e3,b3⟩:=q 3 _ rfl;obtain⟨x4,c4,_,r4,i4,n4,e4,b4⟩:=q 4 _ rfl;obtain⟨x5,c5,_,r5,i5,n5,e5,b5⟩:=q 5 _ rfl;obtain⟨x6,c6,_,r6,i6,n6,e6,b6⟩:=q 6 _ rfl;cases e0;cases U;cases e2;cases e3;cases e4;cases e5;cases e6;have W:bL S w 0 ([i64 Z]++([str n1]++([i64 R.1,i64 R.2]++([.sl (n3.map fun p=>[i64 p.1,i64 p.2])]++([i64 n4]++([i64 n5]++[.sl n6.rows])))))) cs:=bL.join r0 (bL.join r1 (bL.join r2 (bL.join r3 (bL.join r4 (bL.join r5 r6)))));have j1:=bE i1;have j3:=bE i3;have Y:=bE i6;rw[<-e]at j1 j3 Y;exact⟨_,rfl,hl,fun i c v D O=>W i c v D (by rw[bp];exact O),(⟨Z,n1,R.1,R.2,n3,n4,n5⟩,n6),rfl,fun I=>⟨⟨b1 (aS j1 I),(b3 (aS j3 I)).1⟩,(b6 (aS Y I)).1,(b6 (aS Y I)).2⟩⟩) n cs x (fun es sp V y J=>by
    have D:=List.sizeOf_lt_of_mem J;have O:SizeOf.sizeOf x.1=1+SizeOf.sizeOf es+SizeOf.sizeOf sp:=by rw[V];simp
    omega) h
  obtain⟨l,rfl,b1,b2⟩:=Gk (f:=fun r:gp×Steps=>Dp r.1 r.2.rows) MS hl q;have hb:Rows.uptoBulkAll ds<=Rows.uptoBulk x.1:=by
   rcases hd with⟨D,O⟩ | D
   ·rw[O];exact ak _
   rw[D];simp only[Rows.uptoBulk];omega
  refine⟨xs,l1,l2,l3,xC l,by rw[U,rK],fun I=>⟨?_,Cr l fun r hr=>b2 r hr (aS hb I)⟩⟩;rw[rK,au];omega
theorem Up(hS:∀b,b<w.heap.size->S b):Sp enc w S 31 1 (fun u:Steps=>[.sl u.rows]) (UB A9):=fun n cs x h=>Ld hS _ n cs x (Nat.lt_succ_self _) h
theorem RD(hS:∀b,b<w.heap.size->S b):Sp enc w S 33 3 dE (UB pW):=fun n cs x h=>by
 obtain⟨hl,ds,e,ld,q⟩:=cU (S:=S) (ks:=fun i=>match i with | _=>1) (hk:=dI (by kernel_rfl)) (Qs:=fun i xs d=>match i with
   | 0=>∃r:Int,xs=[i64 r]/\UB (fun _=>True) r (Rows.uptoBulk d)
   | 1=>∃r:List dD,xs=[.sl (r.map zU)]/\UB (ic Gt) r (Rows.uptoBulk d)
   | _=>∃r:Steps,xs=[.sl r.rows]/\UB A9 r (Rows.uptoBulk d)) Tryz.underlying33 (fun i f z=>by
  match i,z with
  | 0,z=>cases z;exact ui
  | 1,z=>cases z;exact iJ (k:=2) Tryz.underlying30 (by kernel_rfl) (by decide) hS (Xp hS)
  | 2,z=>cases z;exact Up hS
  | n+3,z=>cases z) h
 have hl:cs.length=3:=hl.trans (by kernel_rfl);obtain⟨x0,c0,_,V,W,I,Y,b0⟩:=q 0 _ rfl;obtain⟨x1,c1,_,Z,i1,J,e1,b1⟩:=q 1 _ rfl;obtain⟨x2,c2,_,r2,i2,N,e2,b2⟩:=q 2 _ rfl;cases Y;cases e1;cases e2;have D:bL S w 0 ([i64 I]++([.sl (J.map zU)]++([.sl N.rows]))) cs:=bL.join V (bL.join Z (r2));have j0:=bE W;have O:=bE i1;have R:=bE i2;rw[<-e]at j0 O R;exact⟨_,rfl,hl,fun i c v h1 h2=>D i c v h1 (by rw[bp];exact h2),⟨I,J,N⟩,rfl,fun U=>⟨b1 (aS O U),b2 (aS R U)⟩⟩
theorem Uq(hS:∀b,b<w.heap.size->S b):Sp enc w S 43 20 A8 (UB gP):=fun n cs x h=>by
 obtain⟨hl,ds,e,ld,q⟩:=cU (S:=S) (ks:=fun i=>match i with | 1=>2 | 5=>3 | 10=>7 | _=>1) (hk:=dI (by kernel_rfl)) (Qs:=fun i xs d=>match i with
   | 0=>∃r:List bG,xs=[.sl (r.map vU)]/\UB (ic (fun x:bG=>bK x.name/\Gp x.pins)) r (Rows.uptoBulk d)
   | 1=>∃r:DP,xs=S9 r/\UB Gy r (Rows.uptoBulk d)
   | 2=>∃r:List fy,xs=[.sl (r.map vV)]/\UB (ic (fun x:fy=>bK x.name)) r (Rows.uptoBulk d)
   | 3=>∃r:List Lay,xs=[.sl (r.map yq)]/\UB (ic (fun x:Lay=>bK x.name/\bK x.mat)) r (Rows.uptoBulk d)
   | 4=>∃r:List cy,xs=[.sl (r.map dE)]/\UB (ic pW) r (Rows.uptoBulk d)
   | 5=>∃r:cy,xs=dE r/\UB pW r (Rows.uptoBulk d)
   | 6=>∃r:List u_,xs=[.sl (r.map vK)]/\UB (ic (fun _:u_=>True)) r (Rows.uptoBulk d)
   | 7=>∃r:List Body,xs=[.sl (r.map DO)]/\UB (ic (fun x:Body=>bK x.name/\bK x.nozzle)) r (Rows.uptoBulk d)
   | 8=>∃r:List Place,xs=[.sl (r.map EG)]/\UB (ic (fun x:Place=>bK x.part/\bK x.type)) r (Rows.uptoBulk d)
   | 9=>∃r:List nH,xs=[.sl (r.map OD)]/\UB (ic (fun f:nH=>bK f.type/\f.spots.length<=1048576/\∀s∈f.spots,bK s.pin)) r (Rows.uptoBulk d)
   | _=>∃r:u6,xs=rl r/\UB xj r (Rows.uptoBulk d)) Tryz.underlying43 (fun i f z=>by
  match i,z with
  | 0,z=>cases z;exact iJ (k:=2) Tryz.underlying22 (by kernel_rfl) (by decide) hS (Xm hS)
  | 1,z=>cases z;exact Xo hS
  | 2,z=>cases z;exact iJ (k:=4) Tryz.underlying27 (by kernel_rfl) (by decide) hS (Z2)
  | 3,z=>cases z;exact iJ (k:=2) Tryz.underlying28 (by kernel_rfl) (by decide) hS (Z3)
  | 4,z=>cases z;exact iJ (k:=3) Tryz.underlying29 (by kernel_rfl) (by decide) hS (RD hS)
  | 5,z=>cases z;exact RD hS
  | 6,z=>cases z;exact iJ (k:=6) Tryz.underlying34 (by kernel_rfl) (by decide) hS (Xq)
  | 7,z=>cases z;exact iJ (k:=5) Tryz.underlying35 (by kernel_rfl) (by decide) hS (Xr)
  | 8,z=>cases z;exact iJ (k:=6) Tryz.underlying36 (by kernel_rfl) (by decide) hS (Uo)
  | 9,z=>cases z;exact iJ (k:=2) Tryz.underlying37 (by kernel_rfl) (by decide) hS (Xu hS)
  | 10,z=>cases z;exact Xk hS
  | n+11,z=>cases z) h
 have hl:cs.length=20:=hl.trans (by kernel_rfl);obtain⟨x0,c0,_,r0,i0,W,e0,b0⟩:=q 0 _ rfl;obtain⟨x1,c1,_,r1,i1,Y,e1,b1⟩:=q 1 _ rfl;obtain⟨x2,c2,_,r2,i2,Z,e2,b2⟩:=q 2 _ rfl;obtain⟨x3,c3,_,r3,i3,n3,e3,b3⟩:=q 3 _ rfl;obtain⟨x4,c4,_,r4,i4,n4,e4,b4⟩:=q 4 _ rfl;obtain⟨x5,c5,_,r5,i5,n5,e5,b5⟩:=q 5 _ rfl;obtain⟨x6,c6,_,r6,i6,n6,e6,b6⟩:=q 6 _ rfl;obtain⟨x7,c7,_,r7,i7,n7,e7,b7⟩:=q 7 _ rfl;obtain⟨x8,c8,_,r8,i8,n8,e8,b8⟩:=q 8 _ rfl;obtain⟨x9,c9,_,r9,i9,n9,e9,b9⟩:=q 9 _ rfl;obtain⟨x10,c10,_,N,O,I,R,U⟩:=q 10 _ rfl;cases e0;cases e1;cases e2;cases e3;cases e4;cases e5;cases e6;cases e7;cases e8;cases e9;cases R;have V:bL S w 0 ([.sl (W.map vU)]++(S9 Y++([.sl (Z.map vV)]++([.sl (n3.map yq)]++([.sl (n4.map dE)]++(dE n5++([.sl (n6.map vK)]++([.sl (n7.map DO)]++([.sl (n8.map EG)]++([.sl (n9.map OD)]++(rl I))))))))))) cs:=bL.join r0 (bL.join r1 (bL.join r2 (bL.join r3 (bL.join r4 (bL.join r5 (bL.join r6 (bL.join r7 (bL.join r8 (bL.join r9 (N))))))))));have j0:=bE i0;have j1:=bE i1;have j2:=bE i2;have j3:=bE i3;have j4:=bE i4;have j5:=bE i5;have j6:=bE i6;have j7:=bE i7;have j8:=bE i8;have j9:=bE i9;have J:=bE O;rw[<-e]at j0 j1 j2 j3 j4 j5 j6 j7 j8 j9 J;exact⟨_,rfl,hl,fun i c v h1 h2=>V i c v h1 (by rw[bp];exact h2),⟨W,Y,Z,n3,n4,n5,n6,n7,n8,n9,I⟩,rfl,fun D=>⟨b0 (aS j0 D),b1 (aS j1 D),b2 (aS j2 D),b3 (aS j3 D),b4 (aS j4 D),b5 (aS j5 D),(b6 (aS j6 D)).1,b7 (aS j7 D),b8 (aS j8 D),b9 (aS j9 D),U (aS J D)⟩⟩
end M
namespace Reg
def par:List Int->Int->Bool
 | [],_=>false
 | c::a,x=>Bool.xor (decide (c<=x)) (par a x)
theorem rM{a:List Int}{x:Int}(h:∀c∈a,x<c):par a x=false:=by
 induction a with
 | nil=>rfl
 | cons c a ih=>
  have h1:=h c (by simp);rw[par,ih (fun d z=>h d (by simp[z])),aY (by omega)];rfl
theorem za{a:List Int}{x:Int}(h:∀c∈a,c<=x):par a x=decide (a.length % 2=1):=by
 induction a with
 | nil=>rfl
 | cons c a ih=>
  have z:=h c (by simp);rw[par,ih (fun d D=>h d (by simp[D])),jS z,bN];rcases Nat.mod_two_eq_zero_or_one a.length with e | e
  ·rw[aY (by omega),jS (by omega)];rfl
  rw[jS (by omega),aY (by omega)];rfl
theorem ct.tail{c:Int}{a:List Int}(h:ct (c::a)):ct a:=(iY.1 h).2
theorem ct.behind{c:Int}{a:List Int}(h:ct (c::a)):∀d∈a,c<d:=(iY.1 h).1
def pG:List Int->List Int->Option Int
 | [],[]=>none
 | p::_,[]=>some p
 | [],q::_=>some q
 | p::_,q::_=>some (if p<=q then p else q)
def kg(x:Int):List Int->Bool->List Int×Bool
 | [],s=>([],s)
 | p::r,s=>if p=x then (r,!s) else (p::r,s)
theorem EH{x:Int}{a:List Int}{s:Bool}(z:ct a)(N:∀c∈a,x<=c):ct (kg x a s).1/\(∀c∈(kg x a s).1,x<c/\c∈a)/\(∀y,x<=y->Bool.xor (kg x a s).2 (par (kg x a s).1 y)=Bool.xor s (par a y))/\(kg x a s).1.length<=a.length/\(a.head?=some x->(kg x a s).1.length+1=a.length):=by
 cases a with
 | nil=>exact⟨z,fun c h=>by simp[kg]at h,fun y _=>rfl,aG _,fun h=>by cases h⟩
 | cons p r=>
  by_cases e:p=x
  ·subst e;have I:kg p (p::r) s=(r,!s):=by simp[kg]
   rw[I];refine⟨z.tail,fun c D=>⟨z.behind c D,by simp[D]⟩,fun y J=>?_,by simp,fun _=>rfl⟩;rw[par,jS J];cases s<;>cases par r y<;>rfl
  have I:kg x (p::r) s=(p::r,s):=by simp[kg,e]
  rw[I];refine⟨z,fun c D=>⟨?_,D⟩,fun y J=>rfl,aG _,fun h=>absurd (by simpa using h) e⟩;have h1:=N p (by simp);rcases aq.1 D with h | h
  ·omega
  have:=z.behind c h;omega
def iv(k:Bool->Bool->Bool):Nat->List Int->List Int->Bool->Bool->Bool->List Int
 | 0,_,_,_,_,_=>[]
 | n+1,a,b,ia,ib,is=>match pG a b with
  | none=>[]
  | some x=>if k (kg x a ia).2 (kg x b ib).2=is then iv k n (kg x a ia).1 (kg x b ib).1 (kg x a ia).2 (kg x b ib).2 is
   else x::iv k n (kg x a ia).1 (kg x b ib).1 (kg x a ia).2 (kg x b ib).2 (k (kg x a ia).2 (kg x b ib).2)
def kh(k:Bool->Bool->Bool)(a b:List Int):List Int:=iv k (a.length+b.length) a b false false false
theorem Le{a b:List Int}(z:ct a)(hb:ct b):match pG a b with
  | none=>a=[]/\b=[]
  | some x=>(∀c∈a,x<=c)/\(∀c∈b,x<=c)/\(a.head?=some x\/b.head?=some x):=by
 cases a with
 | nil=>
  cases b with
  | nil=>exact⟨rfl,rfl⟩
  | cons q u=>
   show (∀c∈([]:List Int),q<=c)/\(∀c∈q::u,q<=c)/\(([]:List Int).head?=some q\/(q::u).head?=some q);refine⟨fun c h=>(by cases h),fun c h=>?_,.inr rfl⟩;rcases aq.1 h with h | h
   ·omega
   have:=hb.behind c h;omega
 | cons p r=>
  cases b with
  | nil=>
   show (∀c∈p::r,p<=c)/\(∀c∈([]:List Int),p<=c)/\((p::r).head?=some p\/([]:List Int).head?=some p);refine⟨fun c h=>?_,fun c h=>(by cases h),.inl rfl⟩;rcases aq.1 h with h | h
   ·omega
   have:=z.behind c h;omega
  | cons q u=>
   have D:∀c∈p::r,p<=c:=fun c h=>by
    rcases aq.1 h with h | h
    ·omega
    have:=z.behind c h;omega
   have I:∀c∈q::u,q<=c:=fun c h=>by
    rcases aq.1 h with h | h
    ·omega
    have:=hb.behind c h;omega
   by_cases e:p<=q
   ·simp only[pG,ae e];exact⟨D,fun c h=>by have:=I c h;omega,.inl rfl⟩
   simp only[pG,aa e];exact⟨fun c h=>by have:=D c h;omega,I,.inr rfl⟩
theorem Lf(k:Bool->Bool->Bool):∀(n:Nat) (a b:List Int) (z D J:Bool),a.length+b.length<=n->ct a->ct b->J=k z D ->
  ct (iv k n a b z D J)/\(∀c∈iv k n a b z D J,c∈a\/c∈b)/\(∀y,Bool.xor J (par (iv k n a b z D J) y)=k (Bool.xor z (par a y)) (Bool.xor D (par b y))):=by
 intro n
 induction n with
 | zero=>
  intro a b z D J hn _ _ R;have ea:a=[]:=cI (by omega);have eb:b=[]:=cI (by omega);subst ea eb;exact⟨List.Pairwise.nil,fun c h=>by simp[iv]at h,fun y=>by simp[iv,par,R]⟩
 | succ n ih=>
  intro a b z D J hn ha hb R;have U:=Le ha hb;unfold iv;cases hc:pG a b with
  | none=>
   rw[hc]at U;obtain⟨rfl,rfl⟩:=U;exact⟨List.Pairwise.nil,fun c h=>by simp at h,fun y=>by simp[par,R]⟩
  | some x=>
   rw[hc]at U;obtain⟨xa,xb,xh⟩:=U;obtain⟨a1,V,a3,a4,a5⟩:=EH (s:=z) ha xa;obtain⟨b1,W,b3,b4,b5⟩:=EH (s:=D) hb xb;have Fu:(kg x a z).1.length+(kg x b D).1.length<=n:=by
    rcases xh with h | h
    ·have:=a5 h;omega
    have:=b5 h;omega
   simp only;have I:∀y,y<x->k (Bool.xor z (par a y)) (Bool.xor D (par b y))=J:=fun y N=>by
    rw[rM (fun c h=>by have:=xa c h;omega),rM (fun c h=>by have:=xb c h;omega),R];simp
   split
   ·rename_i hk;obtain⟨Y,O,Z⟩:=ih _ _ _ _ J Fu a1 b1 hk.symm;refine⟨Y,fun c h=>?_,fun y=>?_⟩
    ·rcases O c h with h | h
     ·exact .inl (V c h).2
     exact .inr (W c h).2
    by_cases N:x<=y
    ·rw[Z y,a3 y N,b3 y N]
    rw[I y (by omega),rM (fun c h=>by
     rcases O c h with h | h
     ·have:=(V c h).1;omega
     have:=(W c h).1;omega)]
    simp
   rename_i hk;obtain⟨Y,O,Z⟩:=ih _ _ _ _ (k (kg x a z).2 (kg x b D).2) Fu a1 b1 rfl;have up:∀c∈iv k n (kg x a z).1 (kg x b D).1 (kg x a z).2 (kg x b D).2 (k (kg x a z).2 (kg x b D).2),x<c:=fun c h=>by
    rcases O c h with h | h
    ·exact (V c h).1
    exact (W c h).1
   refine⟨iY.2 ⟨up,Y⟩,fun c h=>?_,fun y=>?_⟩
   ·rcases aq.1 h with h | h
    ·subst h;rcases xh with h | h
     ·exact .inl (List.mem_of_mem_head? (by rw[h];rfl))
     exact .inr (List.mem_of_mem_head? (by rw[h];rfl))
    rcases O c h with h | h
    ·exact .inl (V c h).2
    exact .inr (W c h).2
   by_cases N:x<=y
   ·rw[<-a3 y N,<-b3 y N,<-Z y,par,jS N];revert hk;cases k (kg x a z).2 (kg x b D).2<;>cases J<;>simp
   rw[I y (by omega),rM (fun c h=>by
    rcases aq.1 h with h | h
    ·omega
    have:=up c h;omega)]
   simp
variable {k:Bool->Bool->Bool}
theorem IW(hk:k false false=false){a b:List Int}(N:ct a)(hb:ct b)(O:a.length % 2=0)(R:b.length % 2=0):
  ct (kh k a b)/\(∀c∈kh k a b,c∈a\/c∈b)/\(∀y,par (kh k a b) y=k (par a y) (par b y))/\(kh k a b).length % 2=0:=by
 obtain⟨U,D,V⟩:=Lf k _ a b false false false (aG _) N hb hk.symm;have I:∀y,par (kh k a b) y=k (par a y) (par b y):=fun y=>by have:=V y;rw[rG,rG,rG]at this;exact this
 refine⟨U,D,I,?_⟩;obtain⟨m,z⟩:∃m:Int,(∀c∈a,c<=m)/\∀c∈b,c<=m:=by
  have up:∀l:List Int,∃m:Int,∀c∈l,c<=m:=fun l=>by
   induction l with
   | nil=>exact⟨0,fun c h=>by cases h⟩
   | cons c l ih=>
    obtain⟨m,z⟩:=ih;refine⟨max m c,fun d W=>?_⟩;rcases aq.1 W with h | h
    ·omega
    have:=z d h;omega
  obtain⟨Y,Z⟩:=up a;obtain⟨m2,g2⟩:=up b;exact⟨max Y m2,fun c h=>by have:=Z c h;omega,fun c h=>by have:=g2 c h;omega⟩
 have J:=I m;rw[za z.1,za z.2,za (a:=kh k a b) (fun c h=>(D c h).elim (z.1 c) (z.2 c)),O,R]at J;simp[hk]at J;omega
def cm:cw->List Int
 | []=>[]
 | p::s=>p.1::p.2::cm s
def pairUp:List Int->cw
 | p::q::r=>(p,q)::pairUp r
 | _=>[]
theorem s6:∀l:List Int,l.length % 2=0->cm (pairUp l)=l
 | [],_=>rfl
 | [_],h=>by simp at h
 | p::q::r,h=>by
  rw[pairUp,cm,s6 r (by simp at h ⊢;omega)]
theorem pH(s:cw):(cm s).length=2*s.length:=by
 induction s with
 | nil=>rfl
 | cons p s ih=>simp only[cm,bN,ih];omega
theorem mz{s:cw}{c:Int}:c∈cm s↔∃p∈s,c=p.1\/c=p.2:=by
 induction s with
 | nil=>simp[cm]
 | cons p s ih=>
  simp only[cm,aq,ih];constructor
  ·rintro (h | h | ⟨q,z,h⟩)
   ·exact⟨p,.inl rfl,.inl h⟩
   ·exact⟨p,.inl rfl,.inr h⟩
   exact⟨q,.inr z,h⟩
  rintro⟨q,rfl | z,h⟩
  ·rcases h with h | h
   ·exact .inl h
   exact .inr (.inl h)
  exact .inr (.inr ⟨q,z,h⟩)
theorem pI{s:cw}(h:Canon s):ct (cm s):=by
 induction s with
 | nil=>exact List.Pairwise.nil
 | cons p s ih=>
  have O:=h.head;have J:=h.behind;have N:∀d∈cm s,p.2<d:=fun d D=>by
   obtain⟨q,z,e⟩:=mz.1 D;have R:=J q z;have h4:q.1<q.2:=by
    clear ih e O J R D;have:=h.tail;clear h
    induction s with
    | nil=>cases z
    | cons a s I=>
     rcases aq.1 z with rfl | z
     ·exact this.head
     exact I z this.tail
   omega
  refine iY.2 ⟨fun d D=>?_,iY.2 ⟨N,ih h.tail⟩⟩;rcases aq.1 D with h | h
  ·omega
  have:=N d h;omega
theorem rN:∀l:List Int,ct l->Canon (pairUp l)
 | [],_=>trivial
 | [_],_=>trivial
 | p::q::r,h=>by
  have D:=h.behind q (by simp);have I:=h.tail.behind;refine Canon.cons D (fun t z=>?_) (rN r h.tail.tail);have:∀(l:List Int) (t:Int×Int),t∈pairUp l->t.1∈l:=fun l=>by
   induction l using pairUp.induct with
   | case1 a b l ih=>
    intro t z;rw[pairUp,aq]at z;rcases z with h | h
    ·subst h;simp
    have:=ih t h;simp[this]
   | case2 l hl=>intro t z;rw[pairUp]at z;cases z;exact hl
  exact I _ (this r t z)
theorem dL{s:cw}(h:Canon s)(x:Int):par (cm s) x=true↔cover s x:=by
 induction s with
 | nil=>simp[cm,par,gX]
 | cons p s ih=>
  have h1:=h.head;rw[cm,par,par,bQ,<-ih h.tail];by_cases z:p.1<=x
  ·by_cases I:p.2<=x
   ·rw[jS z,jS I];simp;omega
   have D:par (cm s) x=false:=by
    rw[cu];intro hp;exact h.lH (x:=x) (by omega) ((ih h.tail).1 hp)
   rw[D,jS z,aY I];simp;omega
  have D:par (cm s) x=false:=by
   rw[cu];intro hp;exact h.lH (x:=x) (by omega) ((ih h.tail).1 hp)
  rw[D,aY z,aY (by omega)];simp;omega
def at'(s:List aR)(x y:Int):Bool:=s.any fun b=>decide (b.y0<=y)&&decide (y<b.y1)&&par (cm b.xs) x
variable {s:List aR}
theorem zb{x y:Int}:at' s x y=true↔∃b∈s,b.y0<=y/\y<b.y1/\par (cm b.xs) x=true:=by
 simp[at',ee,and_assoc]
theorem lK(s t:List aR)(x y:Int):at' (s++t) x y=(at' s x y||at' t x y):=by simp[at',Mx]
theorem at_one(b:aR)(x y:Int):at' [b] x y=(decide (b.y0<=y)&&decide (y<b.y1)&&par (cm b.xs) x):=by simp[at']
theorem lM{x y:Int}(h:∀b∈s,y<b.y0\/b.y1<=y):at' s x y=false:=by
 rw[cu];intro hp;obtain⟨b,hb,h1,h2,_⟩:=zb.1 hp;rcases h b hb with h | h<;>omega
structure Lg(b:aR):Prop where
 lt:b.y0<b.y1
 ne:b.xs≠[]
 can:Canon b.xs
def dF:List aR->Prop
 | []=>True
 | [b]=>Lg b
 | b::c::r=>Lg b/\b.y1<=c.y0/\(b.y1=c.y0->b.xs≠c.xs)/\dF (c::r)
theorem dF.head{b:aR}(h:dF (b::s)):Lg b:=by
 cases s with
 | nil=>exact h
 | cons c r=>exact h.1
theorem dF.tail{b:aR}(h:dF (b::s)):dF s:=by
 cases s with
 | nil=>trivial
 | cons c r=>exact h.2.2.2
theorem dF.j_{b:aR}(h:dF (b::s)):∀t∈s,b.y1<=t.y0:=by
 induction s generalizing b with
 | nil=>intro t z;cases z
 | cons c r ih=>
  intro t z;rcases aq.1 z with e | z
  ·subst e;exact h.2.1
  have h1:=ih h.tail t z;have h2:=h.tail.head.lt;have h3:=h.2.1;omega
theorem dF.mem(h:dF s):∀b∈s,Lg b:=by
 induction s with
 | nil=>intro b hb;cases hb
 | cons c r ih=>
  intro b hb;rcases aq.1 hb with e | hb
  ·subst e;exact h.head
  exact ih h.tail b hb
theorem Cs{b:aR}(h:dF s)(hb:Lg b)(D:∀t∈s,t.y1<=b.y0)(hl:∀t,s.getLast?=some t->t.y1=b.y0->t.xs≠b.xs):dF (s++[b]):=by
 induction s with
 | nil=>exact hb
 | cons c r ih=>
  cases r with
  | nil=>exact⟨h.head,D c (by simp),hl c rfl,hb⟩
  | cons d u=>
   have:=ih h.tail (fun t z=>D t (by simp[z])) (fun t z=>hl t (by rw[Gz];exact z));exact⟨h.1,h.2.1,h.2.2.1,this⟩
theorem RE{b:aR}(h:dF (s++[b])):dF s/\Lg b/\(∀t∈s,t.y1<=b.y0)/\(∀t,s.getLast?=some t->t.y1=b.y0->t.xs≠b.xs):=by
 induction s with
 | nil=>exact⟨trivial,h,fun t z=>(by cases z),fun t z=>(by cases z)⟩
 | cons c r ih=>
  cases r with
  | nil=>
   refine⟨h.head,h.2.2.2,fun t z=>?_,fun t z=>?_⟩
   ·rw[bV]at z;subst z;exact h.2.1
   simp at z;subst z;exact h.2.2.1
  | cons d u=>
   obtain⟨D,I,J,N⟩:=ih h.tail;refine⟨⟨h.1,h.2.1,h.2.2.1,D⟩,I,fun t z=>?_,fun t z=>N t (by rw[Gz]at z;exact z)⟩;rcases aq.1 z with e | z
   ·subst e;have O:=h.j_ b (by simp);exact O
   exact J t z
theorem rO{b:aR}(h:dF s)(U:b.y0<b.y1)(V:Canon b.xs)(J:∀t∈s,t.y1<=b.y0):
  dF (fj s b)/\(∀t∈fj s b,t.y1<=b.y1)/\(∀x y,at' (fj s b) x y=(at' s x y||at' [b] x y))/\(∀t∈fj s b,(∃u∈s,u.xs=t.xs/\u.y0=t.y0)\/(t.xs=b.xs/\t.y0=b.y0)):=by
 unfold fj;by_cases I:b.xs=[]
 ·rw[ae I];refine⟨h,fun t D=>by have:=J t D;omega,fun x y=>?_,fun t D=>.inl ⟨t,D,rfl,rfl⟩⟩;rw[at_one,I];simp[cm,par]
 rw[aa I];have hb:Lg b:=⟨U,I,V⟩;cases hl:s.getLast? with
 | none=>
  have:s=[]:=MR.1 hl;subst this;exact⟨hb,fun t D=>by rw[bV]at D;subst D;exact cz _,fun x y=>by rw[show at' [] x y=false from rfl,iq],fun t D=>.inr (by rw[bV]at D;subst D;exact⟨rfl,rfl⟩)⟩
 | some t=>
  simp only;obtain⟨d,W⟩:=dc.1 hl;subst W;obtain⟨Y,N,R,Z⟩:=RE h;split
  ·rename_i O;obtain⟨m1,m2⟩:=O;rw[List.dropLast_concat];have t1:=N.lt;refine⟨Cs Y ⟨?_,N.ne,N.can⟩ R Z,fun u z=>?_,fun x y=>?_,fun u z=>?_⟩
   ·show t.y0<b.y1;omega
   ·rcases b_.1 z with z | z
    ·have:=R u z;omega
    rw[bV]at z;subst z;exact cz _
   ·rw[lK,lK,at_one,at_one,at_one,<-m2,Bool.or_assoc];congr 1;show (decide (t.y0<=y)&&decide (y<b.y1)&&par (cm t.xs) x)=_;by_cases c1:t.y0<=y<;>by_cases c2:y<b.y1<;>by_cases c3:y<t.y1<;>by_cases c4:b.y0<=y<;>simp[c1,c2,c3,c4]<;>omega
   rcases b_.1 z with z | z
   ·exact .inl ⟨u,by simp[z],rfl,rfl⟩
   rw[bV]at z;subst z;exact .inl ⟨t,by simp,rfl,rfl⟩
  rename_i O;refine⟨Cs h hb J (fun u z h1 h2=>O ?_),fun u z=>?_,fun x y=>lK _ _ x y,fun u z=>?_⟩
  ·rw[hl]at z;cases z;exact⟨h1,h2⟩
  ·rcases b_.1 z with z | z
   ·have:=J u z;omega
   rw[bV]at z;subst z;exact cz _
  rcases b_.1 z with z | z
  ·exact .inl ⟨u,z,rfl,rfl⟩
  rw[bV]at z;subst z;exact .inr ⟨rfl,rfl⟩
def oA(s:List aR)(y e:Int):cw×Int:=match s with
 | []=>([],e)
 | b::_=>if y<b.y0 then ([],min e b.y0) else (b.xs,min e b.y1)
def bD(y:Int):List aR->List aR
 | []=>[]
 | b::s=>if b.y1<=y then bD y s else b::s
theorem nJ{y:Int}(h:dF s):dF (bD y s)/\(∀t∈bD y s,t∈s/\y<t.y1)/\∀x z,y<=z->at' (bD y s) x z=at' s x z:=by
 induction s with
 | nil=>exact⟨trivial,fun t D=>(by cases D),fun x z _=>rfl⟩
 | cons b s ih=>
  obtain⟨J,I,N⟩:=ih h.tail;by_cases e:b.y1<=y
  ·rw[bD,ae e];refine⟨J,fun t D=>⟨by simp[(I t D).1],(I t D).2⟩,fun x z O=>?_⟩;rw[N x z O,show b::s=[b]++s from rfl,lK,at_one,aY (by omega:¬z<b.y1)];simp
  rw[bD,aa e];refine⟨h,fun t D=>⟨D,?_⟩,fun x z _=>rfl⟩;rcases aq.1 D with e | D
  ·subst e;omega
  have h1:=h.j_ t D;have h2:=(h.tail.mem t D).lt;omega
theorem uw{s:List aR}{y e:Int}(h:dF s)(N:∀t∈s,y<t.y1)(O:y<e):Canon (oA s y e).1/\y<(oA s y e).2/\(oA s y e).2<=e/\(∀p∈(oA s y e).1,∃b∈s,p∈b.xs)/\∀x z,y<=z->z<(oA s y e).2->at' s x z=par (cm (oA s y e).1) x:=by
 cases s with
 | nil=>exact⟨trivial,O,cz _,fun p hp=>by simp[oA]at hp,fun x z _ _=>rfl⟩
 | cons b s=>
  have hb:=N b (by simp);by_cases c:y<b.y0
  ·have J:oA (b::s) y e=([],min e b.y0):=by simp[oA,c]
   rw[J];refine⟨trivial,by show y<min e b.y0;omega,by show min e b.y0<=e;omega,fun p hp=>by simp at hp,fun x z R D=>?_⟩;have D:z<min e b.y0:=D;rw[show cm ([]:cw)=[] from rfl,show par [] x=false from rfl];refine lM fun t I=>.inl ?_;rcases aq.1 I with e | I
   ·subst e;omega
   have h3:=h.j_ t I;have h4:=h.head.lt;omega
  have J:oA (b::s) y e=(b.xs,min e b.y1):=by simp[oA,c]
  rw[J];refine⟨h.head.can,by show y<min e b.y1;omega,by show min e b.y1<=e;omega,fun p hp=>⟨b,by simp,hp⟩,fun x z R D=>?_⟩;have D:z<min e b.y1:=D;rw[show b::s=[b]++s from rfl,lK,at_one,jS (by omega:b.y0<=z),jS (by omega:z<b.y1),lM (s:=s) fun t I=>.inl (by have:=h.j_ t I;omega)];simp
def lN(k:Bool->Bool->Bool):Nat->List aR->List aR->Int->Int->List aR->List aR
 | 0,_,_,_,_,out=>out
 | n+1,a,b,y,e,out=>if y<e then lN k n (bD y a) (bD y b) (min (oA (bD y a) y e).2 (oA (bD y b) y e).2) e
   (fj out ⟨y,min (oA (bD y a) y e).2 (oA (bD y b) y e).2,pairUp (kh k (cm (oA (bD y a) y e).1) (cm (oA (bD y b) y e).1))⟩) else out
def gy(K:Int)(s:List aR):Prop:=∀b∈s,-K<=b.y0/\b.y1<=K/\∀p∈b.xs,-K<=p.1/\p.2<=K
theorem iK{s:cw}(h:Canon s):∀p∈s,p.1<p.2:=by
 induction s with
 | nil=>intro p hp;cases hp
 | cons a s ih=>
  intro p hp;rcases aq.1 hp with e | hp
  ·subst e;exact h.head
  exact ih h.tail p hp
theorem wU(hk:k false false=false){s t:cw}(I:Canon s)(J:Canon t):Canon (pairUp (kh k (cm s) (cm t)))/\(∀x,par (cm (pairUp (kh k (cm s) (cm t)))) x=k (par (cm s) x) (par (cm t) x))/\cm (pairUp (kh k (cm s) (cm t)))=kh k (cm s) (cm t)/\
  ∀K,(∀p∈s,-K<=p.1/\p.2<=K)->(∀p∈t,-K<=p.1/\p.2<=K)->∀p∈pairUp (kh k (cm s) (cm t)),-K<=p.1/\p.2<=K:=by
 obtain⟨N,O,R,U⟩:=IW hk (pI I) (pI J) (by rw[pH];omega) (by rw[pH];omega);have D:=s6 _ U;refine⟨rN _ N,fun x=>by rw[D,R],D,fun K V W p hp=>?_⟩;have all:∀c∈kh k (cm s) (cm t),-K<=c/\c<=K:=fun c Y=>by
  rcases O c Y with h | h
  ·obtain⟨q,z,e⟩:=mz.1 h;have:=V q z;have:=iK I q z;omega
  obtain⟨q,z,e⟩:=mz.1 h;have:=W q z;have:=iK J q z;omega
 rw[<-D]at all;exact⟨(all p.1 (mz.2 ⟨p,hp,.inl rfl⟩)).1,(all p.2 (mz.2 ⟨p,hp,.inr rfl⟩)).2⟩
theorem IX(hk:k false false=false):∀(n:Nat) (a b:List aR) (y e:Int) (out:List aR),(e-y).toNat<=n->dF a->dF b->dF out->(∀t∈out,t.y1<=y)->(∀t∈a,t.y1<=e)->(∀t∈b,t.y1<=e)->
  dF (lN k n a b y e out)/\(∀x z,at' (lN k n a b y e out) x z=if z<y then at' out x z else k (at' a x z) (at' b x z))/\∀K,gy K a->gy K b->gy K out->-K<=y->e<=K->gy K (lN k n a b y e out):=by
 intro n;have stop:∀(a b:List aR) (y e:Int) (out:List aR),¬y<e->dF out->(∀t∈out,t.y1<=y)->(∀t∈a,t.y1<=e)->(∀t∈b,t.y1<=e)->∀x z,at' out x z=if z<y then at' out x z else k (at' a x z) (at' b x z):=fun a b y e out hn I J N O x z=>by
  split
  ·rfl
  rw[lM (s:=out) fun t D=>.inr (by have:=J t D;omega),lM (s:=a) fun t D=>.inr (by have:=N t D;omega),lM (s:=b) fun t D=>.inr (by have:=O t D;omega),hk]
 induction n with
 | zero=>
  intro a b y e out hn ha hb I J N O;exact⟨I,stop a b y e out (by omega) I J N O,fun K _ _ g _ _=>g⟩
 | succ n ih=>
  intro a b y e out hn ha hb I J N O;rw[lN];split
  ·rename_i R;obtain⟨a1,U,a3⟩:=nJ (y:=y) ha;obtain⟨b1,V,b3⟩:=nJ (y:=y) hb;obtain⟨c1,c2,c3,c4,c5⟩:=uw a1 (fun t D=>(U t D).2) R;obtain⟨d1,d2,d3,d4,d5⟩:=uw b1 (fun t D=>(V t D).2) R;obtain⟨r1,r2,r3,r4⟩:=wU hk c1 d1;obtain⟨nx,Kq⟩:∃nx,nx=min (oA (bD y a) y e).2 (oA (bD y b) y e).2:=⟨_,rfl⟩;rw[<-Kq];have n1:y<nx:=by omega
   have n2:nx<=e:=by omega
   obtain⟨p1,p2,p3,p4⟩:=rO (b:=⟨y,nx,pairUp (kh k (cm (oA (bD y a) y e).1) (cm (oA (bD y b) y e).1))⟩) I n1 r1 J;obtain⟨i1,i2,i3⟩:=ih (bD y a) (bD y b) nx e _ (by omega) a1 b1 p1 p2 (fun t D=>N t (U t D).1) (fun t D=>O t (V t D).1);refine⟨i1,fun x z=>?_,fun K g1 g2 g3 g4 g5=>?_⟩
   ·rw[i2 x z,p3 x z,at_one];by_cases z1:z<y
    ·rw[ae (by omega),ae z1,aY (by omega:¬y<=z)];simp
    rw[aa z1];by_cases W:z<nx
    ·rw[ae W,jS (by omega:y<=z),jS W,r2 x,<-c5 x z (by omega) (by omega),<-d5 x z (by omega) (by omega),a3 x z (by omega),b3 x z (by omega),lM (s:=out) fun t D=>.inr (by have:=J t D;omega)];simp
    rw[aa W,a3 x z (by omega),b3 x z (by omega)]
   refine i3 K (fun t D=>g1 t (U t D).1) (fun t D=>g2 t (V t D).1) (fun t D=>?_) (by omega) g5;have e1:=p2 t D;have e1:t.y1<=nx:=e1;have rr:=r4 K (fun p hp=>by obtain⟨q,Y,hp⟩:=c4 p hp;exact (g1 q (U q Y).1).2.2 p hp) (fun p hp=>by obtain⟨q,Y,hp⟩:=d4 p hp;exact (g2 q (V q Y).1).2.2 p hp);rcases p4 t D with⟨u,hu,x1,Z⟩ | ⟨x1,Z⟩
   ·have:=g3 u hu;rw[<-x1,<-Z];exact⟨this.1,by omega,this.2.2⟩
   rw[x1,Z];exact⟨g4,by omega,rr⟩
  rename_i R;exact⟨I,stop a b y e out R I J N O,fun K _ _ g _ _=>g⟩
def oV(x y:Int)(r:aB):Bool:=((decide (r.x0<=x)&&decide (x<r.x1))&&decide (r.y0<=y))&&decide (y<r.y1)
theorem dC{x y:Int}{r:aB}:oV x y r=true↔r.x0<=x/\x<r.x1/\r.y0<=y/\y<r.y1:=by
 simp[oV,and_assoc]
def Full(r:aB):Prop:=r.x0<r.x1/\r.y0<r.y1
def RK(K:Int)(r:aB):Prop:=-K<=r.x0/\-K<=r.y0/\r.x1<=K/\r.y1<=K
theorem gap{ys:List Int}(h:ct ys){k:Nat}{a b c:Int}(J:ys[k]?=some a)(hb:ys[k+1]?=some b)(N:c∈ys):c<=a\/b<=c:=by
 obtain⟨j,O⟩:=ca.1 N;obtain⟨R,U⟩:=az.1 J;obtain⟨V,W⟩:=az.1 hb;obtain⟨z,D⟩:=az.1 O;have H:=cS.1 h;rcases il j k with e | e | e
 ·have:=H j k z R e;omega
 ·subst e;rw[U]at D;omega
 rcases uc (k+1) j with I | I
 ·have:=H (k+1) j V z I;omega
 have:j=k+1:=by omega
 subst this;rw[W]at D;omega
theorem getD_some{l:List Int}{k:Nat}{a:Int}(h:l[k]?=some a):l.getD k 0=a:=by rw[F1,h];rfl
theorem Ur{l:List aB}(hl:∀r∈l,Full r)(y:Int)(x:Int):par (cm (rowOf l y)) x=l.any (oV x y):=by
 obtain⟨D,I⟩:=qm l y (fun r z=>(hl r z).1);rw[fV,dL D,I,ee];constructor
 ·rintro⟨r,z,a,b⟩;exact⟨r,z,dC.2 ⟨b.1,b.2,a.1,a.2⟩⟩
 rintro⟨r,z,a⟩;obtain⟨J,N,O,R⟩:=dC.1 a;exact⟨r,z,⟨O,R⟩,J,N⟩
theorem RF{l:List aB}(hl:∀r∈l,Full r)(y:Int){K:Int}(hk:∀r∈l,RK K r):∀p∈rowOf l y,-K<=p.1/\p.2<=K:=by
 obtain⟨I,D⟩:=qm l y (fun r z=>(hl r z).1);intro p hp;have J:=iK I p hp;obtain⟨r,z,_,a,_⟩:=(D p.1).1 ⟨p,hp,cz _,J⟩;obtain⟨q,N,_,b1,b2⟩:=(D (p.2-1)).1 ⟨p,hp,by omega,by omega⟩;have O:=hk r z;have R:=hk q N;exact⟨by have:=O.1;omega,by have:=R.2.2.1;omega⟩
theorem DS{l:List aB}(hl:∀r∈l,Full r):∀(k:Nat) (y:Int),(cr l)[k]?=some y ->
  dF (dw l (cr l) k)/\(∀t∈dw l (cr l) k,t.y1<=y)/\(∀x z,at' (dw l (cr l) k) x z=(decide (z<y)&&l.any (oV x z)))/\∀K,(∀r∈l,RK K r)->gy K (dw l (cr l) k):=by
 obtain⟨N,U⟩:=gY l;intro k
 induction k with
 | zero=>
  intro y J;refine⟨trivial,fun t O=>(by cases O),fun x z=>?_,fun K _ t O=>(by cases O)⟩;show false=_;symm;rw[nt];by_cases hz:z<y
  ·right;rw[cu];intro hp;obtain⟨r,I,h⟩:=ee.1 hp;obtain⟨_,_,h3,_⟩:=dC.1 h;have h4:r.y0∈cr l:=(U _).2 ⟨r,I,.inl rfl⟩;obtain⟨j,hj⟩:=ca.1 h4;obtain⟨V,Z⟩:=az.1 J;obtain⟨j1,j2⟩:=az.1 hj;rcases wZ j with e | e
   ·subst e;rw[Z]at j2;omega
   have:=cS.1 N 0 j V j1 e;omega
  left;exact aY hz
 | succ k ih=>
  intro y J;obtain⟨D,R⟩:∃D,(cr l)[k]?=some D:=by
   have:=(az.1 J).1;exact⟨_,aW (by omega)⟩
  obtain⟨i1,i2,i3,i4⟩:=ih D R;have eX:D < y:=by
   obtain⟨V,Z⟩:=az.1 J;obtain⟨b1,b2⟩:=az.1 R;have:=cS.1 N k (k+1) b1 V (by omega);omega
  rw[dw,getD_some R,getD_some J];obtain⟨h1,h2⟩:=qm l D (fun r N=>(hl r N).1);obtain⟨p1,p2,p3,p4⟩:=rO (b:=⟨D,y,rowOf l D⟩) i1 eX h1 i2;refine⟨p1,p2,fun x z=>?_,fun K hk t O=>?_⟩
  ·rw[p3,i3,at_one];show (decide (z<D)&&l.any (oV x z)||decide (D<=z)&&decide (z<y)&&par (cm (rowOf l D)) x)=_;rw[Ur hl];by_cases W:z<D
   ·rw[jS W,aY (by omega:¬D<=z),jS (by omega:z<y)];simp
   by_cases c2:z<y
   ·rw[aY W,jS (by omega:D<=z),jS c2];simp only[uh,iq,nk];rw[fV,ee,ee];have go:∀r∈l,(oV x D r=true↔oV x z r=true):=fun r I=>by
     have g1:=gap N R J ((U r.y0).2 ⟨r,I,.inl rfl⟩);have g2:=gap N R J ((U r.y1).2 ⟨r,I,.inr rfl⟩);rw[dC,dC];omega
    constructor
    ·rintro⟨r,I,h⟩;exact⟨r,I,(go r I).1 h⟩
    rintro⟨r,I,h⟩;exact⟨r,I,(go r I).2 h⟩
   rw[aY W,aY c2];simp
  have e1:=p2 t O;have e1:t.y1<=y:=e1;have top:∀c,c∈cr l->-K<=c/\c<=K:=fun c hc=>by
   obtain⟨r,I,e⟩:=(U c).1 hc;have g:=hk r I;have g2:=hl r I;unfold RK at g;unfold Full at g2;omega
  have t1:=top y (aj J);have t2:=top D (aj R);rcases p4 t O with⟨u,hu,x1,Y⟩ | ⟨x1,Y⟩
  ·have g:=i4 K hk u hu;rw[<-x1,<-Y];exact⟨g.1,by omega,g.2.2⟩
  rw[x1,Y];exact⟨t2.1,by omega,RF hl D hk⟩
theorem eS{l:List aB}(hl:∀r∈l,Full r):dF (cH l)/\(∀x z,at' (cH l) x z=l.any (oV x z))/\∀K,(∀r∈l,RK K r)->gy K (cH l):=by
 obtain⟨N,D⟩:=gY l;cases hg:cr l with
 | nil=>
  have e:l=[]:=by
   cases l with
   | nil=>rfl
   | cons r l=>
    have:r.y0∈cr (r::l):=(D _).2 ⟨r,by simp,.inl rfl⟩;rw[hg]at this;cases this
  subst e;exact⟨trivial,fun x z=>rfl,fun K _ t O=>by cases O⟩
 | cons a u=>
  obtain⟨y,I⟩:∃y,(cr l)[(cr l).length-1]?=some y:=⟨_,aW (by rw[hg];simp)⟩;obtain⟨R,h2,U,V⟩:=DS hl _ y I;refine⟨R,fun x z=>?_,V⟩;show at' (dw l (cr l) ((cr l).length-1)) x z=_;rw[U];by_cases J:z<y
  ·rw[jS J,nk]
  rw[aY J,uh];symm;rw[cu];intro hp;obtain⟨r,W,h⟩:=ee.1 hp;obtain⟨_,_,_,h5⟩:=dC.1 h;obtain⟨j,Y⟩:=ca.1 ((D r.y1).2 ⟨r,W,.inr rfl⟩);obtain⟨Z,a2⟩:=az.1 I;obtain⟨j1,j2⟩:=az.1 Y;rcases uc j ((cr l).length-1) with e | e
  ·have:=cS.1 N j _ j1 Z e;omega
  have:j=(cr l).length-1:=by omega
  subst this;rw[a2]at j2;omega
theorem mA{q:aB}:q∈told s↔∃b∈s,∃p∈b.xs,q=⟨p.1,b.y0,p.2,b.y1⟩:=by
 simp only[told,tJ,aZ];constructor
 ·rintro⟨b,hb,p,hp,e⟩;exact⟨b,hb,p,hp,e.symm⟩
 rintro⟨b,hb,p,hp,e⟩;exact⟨b,hb,p,hp,e.symm⟩
theorem Ct(h:dF s)(x y:Int):(told s).any (oV x y)=at' s x y:=by
 rw[fV,ee,zb];constructor
 ·rintro⟨q,N,O⟩;obtain⟨b,hb,p,hp,rfl⟩:=mA.1 N;obtain⟨z,D,I,J⟩:=dC.1 O;exact⟨b,hb,I,J,(dL (h.mem b hb).can x).2 ⟨p,hp,z,D⟩⟩
 rintro⟨b,hb,I,J,hp⟩;obtain⟨p,hp,z,D⟩:=(dL (h.mem b hb).can x).1 hp;exact⟨_,mA.2 ⟨b,hb,p,hp,rfl⟩,dC.2 ⟨z,D,I,J⟩⟩
theorem nW(h:dF s):∀q∈told s,Full q:=fun q z=>by
 obtain⟨b,hb,p,hp,rfl⟩:=mA.1 z;exact⟨iK (h.mem b hb).can p hp,(h.mem b hb).lt⟩
theorem ux(h:dF s){K:Int}(hk:gy K s):∀q∈told s,RK K q:=fun q z=>by
 obtain⟨b,hb,p,hp,rfl⟩:=mA.1 z;obtain⟨D,I,J⟩:=hk b hb;obtain⟨N,O⟩:=J p hp;exact⟨N,D,O,I⟩
theorem IY(h:dF s)(D:∀x y,at' s x y=false):s=[]:=by
 cases s with
 | nil=>rfl
 | cons b s=>
  have hb:=h.head;obtain⟨p,u,e⟩:∃p u,b.xs=p::u:=by
   cases hx:b.xs with
   | nil=>exact absurd hx hb.ne
   | cons p u=>exact⟨p,u,rfl⟩
  have z:at' (b::s) p.1 b.y0=true:=zb.2 ⟨b,by simp,cz _,hb.lt,(dL hb.can _).2 ⟨p,by rw[e];simp,cz _,iK hb.can p (by rw[e];simp)⟩⟩;rw[D]at z;cases z
def jr(l r d u:Int)(q:aB):aB:=⟨q.x0-l,q.y0-d,q.x1+r,q.y1+u⟩
def me(s:List aR)(l r d u:Int):List aR:=cH ((told s).map (jr l r d u))
def Cu(a b:List aR):Int:=match a,b with
 | p::_,q::_=>min p.y0 q.y0
 | p::_,[]=>p.y0
 | [],q::_=>q.y0
 | [],[]=>0
def fp:List aR->Int
 | []=>0
 | [b]=>b.y1
 | _::c::r=>fp (c::r)
def Cv(a b:List aR):Int:=match a,b with
 | p::r,q::u=>max (fp (p::r)) (fp (q::u))
 | p::r,[]=>fp (p::r)
 | [],q::u=>fp (q::u)
 | [],[]=>0
theorem GC(h:dF s):∀t∈s,t.y1<=fp s:=by
 induction s with
 | nil=>intro t z;cases z
 | cons b s ih=>
  cases s with
  | nil=>intro t z;rw[bV]at z;subst z;exact cz _
  | cons c r=>
   intro t z;rw[fp];rcases aq.1 z with e | z
   ·subst e;have h1:=ih h.tail c (by simp);have h2:=h.2.1;have h3:=h.tail.head.lt;omega
   exact ih h.tail t z
theorem p6{K:Int}:∀{s:List aR},s≠[]->gy K s->fp s<=K
 | [],h,_=>absurd rfl h
 | [b],_,hk=>(hk b (by simp)).2.1
 | _::c::r,_,hk=>by rw[fp];exact p6 (by simp) (fun t z=>hk t (by simp at z ⊢;exact .inr z))
def oB(k:Bool->Bool->Bool)(a b:List aR):List aR:=if a.length+b.length=0 then [] else lN k (Cv a b-Cu a b).toNat a b (Cu a b) (Cv a b) []
theorem xD(hk:k false false=false){a b:List aR}(N:dF a)(hb:dF b):
  dF (oB k a b)/\(∀x y,at' (oB k a b) x y=k (at' a x y) (at' b x y))/\∀K,gy K a->gy K b->gy K (oB k a b):=by
 unfold oB;by_cases e:a.length+b.length=0
 ·rw[ae e];have O:a=[]:=cI (by omega);have R:b=[]:=cI (by omega);subst O R;exact⟨trivial,fun x y=>hk.symm,fun K _ _ t z=>by cases z⟩
 rw[aa e];have U:∀t∈a,Cu a b<=t.y0:=fun t z=>by
  cases a with
  | nil=>cases z
  | cons p r=>
   have D:p.y0<=t.y0:=by
    rcases aq.1 z with e | z
    ·subst e;exact cz _
    have:=N.j_ t z;have:=N.head.lt;omega
   cases b with
   | nil=>exact D
   | cons q u=>show min p.y0 q.y0<=t.y0;omega
 have V:∀t∈b,Cu a b<=t.y0:=fun t z=>by
  cases b with
  | nil=>cases z
  | cons q u=>
   have D:q.y0<=t.y0:=by
    rcases aq.1 z with e | z
    ·subst e;exact cz _
    have:=hb.j_ t z;have:=hb.head.lt;omega
   cases a with
   | nil=>exact D
   | cons p r=>show min p.y0 q.y0<=t.y0;omega
 have W:∀t∈a,t.y1<=Cv a b:=fun t z=>by
  have D:=GC N t z;cases a with
  | nil=>cases z
  | cons p r=>
   cases b with
   | nil=>exact D
   | cons q u=>show t.y1<=max (fp (p::r)) (fp (q::u));omega
 have Y:∀t∈b,t.y1<=Cv a b:=fun t z=>by
  have D:=GC hb t z;cases b with
  | nil=>cases z
  | cons q u=>
   cases a with
   | nil=>exact D
   | cons p r=>show t.y1<=max (fp (p::r)) (fp (q::u));omega
 obtain⟨Z,m2,m3⟩:=IX hk _ a b (Cu a b) (Cv a b) [] (aG _) N hb trivial (fun t z=>by cases z) W Y;refine⟨Z,fun x y=>?_,fun K I J=>m3 K I J (fun t z=>by cases z) ?_ ?_⟩
 ·rw[m2];split
  ·rename_i hy;rw[lM (s:=a) fun t z=>.inl (by have:=U t z;omega),lM (s:=b) fun t z=>.inl (by have:=V t z;omega),hk];rfl
  rfl
 ·cases a with
  | nil=>
   cases b with
   | nil=>exact absurd rfl e
   | cons q u=>exact (J q (by simp)).1
  | cons p r=>
   cases b with
   | nil=>exact (I p (by simp)).1
   | cons q u=>
    have:=(I p (by simp)).1;have:=(J q (by simp)).1;show -K<=min p.y0 q.y0;omega
 cases a with
 | nil=>
  cases b with
  | nil=>exact absurd rfl e
  | cons q u=>exact p6 (by simp) J
 | cons p r=>
  cases b with
  | nil=>exact p6 (by simp) I
  | cons q u=>
   have D:=p6 (by simp) I;have h2:=p6 (by simp) J;show max (fp (p::r)) (fp (q::u))<=K;omega
def RG(a b:Bool):Bool:=a&&!b
def iL(a b:List aR):List aR:=oB RG a b
theorem oC{a b:List aR}(z:dF a)(hb:dF b):dF (iL a b)/\(∀x y,at' (iL a b) x y=(at' a x y&&!at' b x y))/\∀K,gy K a->gy K b->gy K (iL a b):=xD rfl z hb
def fv(b:aR):Int:=(cm b.xs).headD 0
def jg(b:aR):Int:=((cm b.xs).getLast?).getD 0
def iw(r:aB)(b:aR):aB:=⟨min r.x0 (fv b),r.y0,max r.x1 (jg b),r.y1⟩
def fg:List aR->aB
 | []=>⟨0,0,0,0⟩
 | b::s=>(b::s).foldl iw ⟨fv b,b.y0,(cm b.xs).getD 1 0,fp (b::s)⟩
theorem Xv{b:aR}(h:Canon b.xs):∀p∈b.xs,fv b<=p.1:=fun p hp=>by
 have D:=pI h;have z:p.1∈cm b.xs:=mz.2 ⟨p,hp,.inl rfl⟩;unfold fv;cases hc:cm b.xs with
 | nil=>rw[hc]at z;cases z
 | cons c u=>
  rw[hc]at z D;show c<=p.1;rcases aq.1 z with e | z
  ·omega
  have:=ct.behind D _ z;omega
theorem le_last{b:aR}(h:Canon b.xs):∀p∈b.xs,p.2<=jg b:=fun p hp=>by
 have D:=pI h;have z:p.2∈cm b.xs:=mz.2 ⟨p,hp,.inr rfl⟩;unfold jg;cases hl:(cm b.xs).getLast? with
 | none=>rw[MR.1 hl]at z;cases z
 | some c=>
  obtain⟨d,I⟩:=dc.1 hl;rw[I]at z D;show p.2<=c;rcases b_.1 z with z | z
  ·have:=(rm.1 D).2.2 _ z c (by simp);omega
  rw[bV]at z;omega
theorem Lh{b:aR}{K:Int}(hb:Lg b)(h:∀p∈b.xs,-K<=p.1/\p.2<=K):-K<=fv b/\jg b<=K/\(cm b.xs).getD 1 0<=K/\fv b<(cm b.xs).getD 1 0:=by
 have z:=hb.can;cases hx:b.xs with
 | nil=>exact absurd hx hb.ne
 | cons p u=>
  rw[hx]at h z;have D:=h p (by simp);have J:=z.head;refine⟨by unfold fv;rw[hx];exact D.1,?_,by exact D.2,by unfold fv;rw[hx];exact J⟩;unfold jg;rw[hx];cases hl:(cm (p::u)).getLast? with
  | none=>rw[MR]at hl;cases hl
  | some c=>
   obtain⟨q,I,e⟩:=mz.1 (List.mem_of_getLast? hl);have:=h q I;have:=iK z q I;show c<=K;omega
theorem Li:∀(s:List aR) (r:aB),(s.foldl iw r).y0=r.y0/\(s.foldl iw r).y1=r.y1/\(s.foldl iw r).x0<=r.x0/\r.x1<=(s.foldl iw r).x1/\(∀b∈s,(s.foldl iw r).x0<=fv b/\jg b<=(s.foldl iw r).x1)/\
  ∀K,-K<=r.x0->r.x1<=K->(∀b∈s,-K<=fv b/\jg b<=K)->-K<=(s.foldl iw r).x0/\(s.foldl iw r).x1<=K:=by
 intro s
 induction s with
 | nil=>intro r;exact⟨rfl,rfl,cz _,cz _,fun b hb=>(by cases hb),fun K D I _=>⟨D,I⟩⟩
 | cons b s ih=>
  intro r;obtain⟨N,O,i3,i4,R,U⟩:=ih (iw r b);have w1:(iw r b).x0=min r.x0 (fv b):=rfl;have w2:(iw r b).x1=max r.x1 (jg b):=rfl;rw[jN];refine⟨N,O,by omega,by omega,fun c z=>?_,fun K D I J=>?_⟩
  ·rcases aq.1 z with e | z
   ·subst e;omega
   exact R c z
  have:=J b (by simp);exact U K (by omega) (by omega) fun c z=>J c (by simp[z])
theorem GD(h:dF s)(Y:s≠[]):Full (fg s)/\(∀x y,at' s x y=true->oV x y (fg s)=true)/\∀K,gy K s->RK K (fg s):=by
 cases s with
 | nil=>exact absurd rfl Y
 | cons b s=>
  have hb:=h.head;obtain⟨N,O,w3,R,U,V⟩:=Li (b::s) ⟨fv b,b.y0,(cm b.xs).getD 1 0,fp (b::s)⟩;have tm:=GC h;obtain⟨K0,D⟩:∃K,∀p∈b.xs,-K<=p.1/\p.2<=K:=by
   have:∀l:cw,∃K,∀p∈l,-K<=p.1/\p.2<=K:=fun l=>by
    induction l with
    | nil=>exact⟨0,fun p h=>by cases h⟩
    | cons q l ih=>
     obtain⟨K,Z⟩:=ih;refine⟨max K (max (-q.1) q.2),fun p hp=>?_⟩;rcases aq.1 hp with e | hp
     ·subst e;omega
     have:=Z p hp;omega
   exact this _
  have cb:=(Lh hb D).2.2.2;have t1:=tm b (by simp);have eX:=hb.lt;have e1:fg (b::s)=(b::s).foldl iw ⟨fv b,b.y0,(cm b.xs).getD 1 0,fp (b::s)⟩:=rfl;rw[<-e1]at N O w3 R U V;simp only at N O w3 R;refine⟨⟨by omega,by omega⟩,fun x y PB=>?_,fun K hk=>?_⟩
  ·obtain⟨c,z,W,c2,I⟩:=zb.1 PB;have J:=h.mem c z;obtain⟨p,hp,p1,p2⟩:=(dL J.can x).1 I;have f1:=Xv J.can p hp;have f2:=le_last J.can p hp;have f3:=U c z;have f4:=tm c z;have f5:b.y0<=c.y0:=by
    rcases aq.1 z with e | z
    ·subst e;exact cz _
    have:=h.j_ c z;omega
   exact dC.2 ⟨by omega,by omega,by omega,by omega⟩
  obtain⟨W,c2,I,_⟩:=Lh hb (hk b (by simp)).2.2;obtain⟨g1,g2⟩:=V K W I fun c z=>by
   obtain⟨d1,d2,_,_⟩:=Lh (h.mem c z) (hk c z).2.2;exact⟨d1,d2⟩
  have g3:=p6 (K:=K) (by simp) hk;have g4:=(hk b (by simp)).1;exact⟨g1,by omega,g2,by omega⟩
def Open(s:List aR)(w x y:Int):Prop:=∃a b,a<=x/\x<a+w/\b<=y/\y<b+w/\∀c d,a<=c->c<a+w->b<=d->d<b+w->at' s c d=true
theorem gy.up{A B:Int}{t:List aR}(h:A<=B)(z:gy A t):gy B t:=fun b hb=>by
 obtain⟨x1,x2,D⟩:=z b hb;exact⟨by omega,by omega,fun p hp=>by have:=D p hp;omega⟩
theorem EI{hi:Int}:∀{s:cw} {p:Int×Int},Canon (p::s)->(∀q∈p::s,q.2<=hi)->2*((s.length:Int)+1)<=hi-p.1+1
 | [],p,h,hb=>by
  have D:=h.head;have I:=hb p (by simp);simp only[kv];omega
 | q::s,p,h,hb=>by
  have ih:=EI (s:=s) (p:=q) h.tail (fun t z=>hb t (by simp at z ⊢;exact .inr z));have D:=h.head;have I:=h.behind q (by simp);simp only[bN];omega
theorem uy{s:cw}{K:Int}(h:Canon s)(hK:0<=K)(hb:∀q∈s,-K<=q.1/\q.2<=K):2*(s.length:Int)<=2*K+1:=by
 cases s with
 | nil=>simp only[kv];omega
 | cons p s=>
  have h1:=EI h (fun q z=>(hb q z).2);have h2:=(hb p (by simp)).1;simp only[bN];omega
theorem MT{hi:Int}:∀{s:List aR} {b:aR},dF (b::s)->(∀t∈b::s,t.y1<=hi)->(s.length:Int)+1<=hi-b.y0
 | [],b,h,hb=>by
  have D:=h.head.lt;have I:=hb b (by simp);simp only[kv];omega
 | c::s,b,h,hb=>by
  have ih:=MT (s:=s) (b:=c) h.tail (fun t z=>hb t (by simp at z ⊢;exact .inr z));have D:=h.head.lt;have I:=h.2.1;simp only[bN];omega
theorem eW{K:Int}(h:dF s)(hK:0<=K)(hb:gy K s):(s.length:Int)<=2*K:=by
 cases s with
 | nil=>simp only[kv];omega
 | cons b s=>
  have h1:=MT h (fun t z=>(hb t z).2.1);have h2:=(hb b (by simp)).1;simp only[bN];omega
theorem rP{K:Int}(h:dF s)(D:0<=K)(hb:gy K s):∀t∈s,2*(t.xs.length:Int)<=2*K+1:=fun t z=>uy (h.mem t z).can D (hb t z).2.2
theorem Cw{M:Nat}:∀{s:List aR},(∀t∈s,t.xs.length<=M)->(told s).length<=s.length*M
 | [],_=>by simp[told]
 | b::s,h=>by
  have ih:=Cw (s:=s) (fun t z=>h t (by simp[z]));have h1:=h b (by simp);unfold told at ih ⊢;rw[q_,bJ,au,bN,mZ];omega
theorem lO{s:List aR}(h:dF s)(hb:gy 1400000 s):(told s).length<=4398046511104:=by
 have h1:=eW h (by omega) hb;have h2:=Cw (M:=1400000) (s:=s) fun t z=>by have:=rP h (by omega) hb t z;omega
 have h3:s.length*1400000<=2800000*1400000:=cq _ (by omega);omega
theorem IZ{k:Bool->Bool->Bool}(h0:k false false=false){K:Int}{a b out:List aR}{y e:Int}(O:y<e)(ha:dF a)(hb:dF b)(ho:dF out)(h1:∀t∈out,t.y1<=y)(R:gy K a)(U:gy K b)(ko:gy K out)(hy:-K<=y)(he:e<=K):
  ∃nx L,nx=min (oA (bD y a) y e).2 (oA (bD y b) y e).2/\L=kh k (cm (oA (bD y a) y e).1) (cm (oA (bD y b) y e).1)/\y<nx/\nx<=e/\cm (pairUp L)=L/\dF (bD y a)/\dF (bD y b)/\gy K (bD y a)/\gy K (bD y b)/\
   dF (fj out ⟨y,nx,pairUp L⟩)/\(∀t∈fj out ⟨y,nx,pairUp L⟩,t.y1<=nx)/\gy K (fj out ⟨y,nx,pairUp L⟩)/\Canon (oA (bD y a) y e).1/\Canon (oA (bD y b) y e).1/\(∀p∈(oA (bD y a) y e).1,-K<=p.1/\p.2<=K)/\(∀p∈(oA (bD y b) y e).1,-K<=p.1/\p.2<=K):=by
 obtain⟨V,D,a3⟩:=nJ (y:=y) ha;obtain⟨W,I,b3⟩:=nJ (y:=y) hb;obtain⟨Y,c2,c3,c4,c5⟩:=uw V (fun t z=>(D t z).2) O;obtain⟨Z,d2,d3,d4,d5⟩:=uw W (fun t z=>(I t z).2) O;obtain⟨r1,r2,r3,r4⟩:=wU (k:=k) h0 Y Z;obtain⟨nx,Kq⟩:∃nx,nx=min (oA (bD y a) y e).2 (oA (bD y b) y e).2:=⟨_,rfl⟩;have n1:y<nx:=by omega
 have n2:nx<=e:=by omega
 have g1:∀p∈(oA (bD y a) y e).1,-K<=p.1/\p.2<=K:=fun p hp=>by obtain⟨q,J,hp⟩:=c4 p hp;exact (R q (D q J).1).2.2 p hp
 have g2:∀p∈(oA (bD y b) y e).1,-K<=p.1/\p.2<=K:=fun p hp=>by obtain⟨q,J,hp⟩:=d4 p hp;exact (U q (I q J).1).2.2 p hp
 have rr:=r4 K g1 g2;obtain⟨p1,p2,p3,p4⟩:=rO (b:=⟨y,nx,pairUp (kh k (cm (oA (bD y a) y e).1) (cm (oA (bD y b) y e).1))⟩) ho n1 r1 h1;refine⟨nx,_,Kq,rfl,n1,n2,r3,V,W,fun t z=>R t (D t z).1,fun t z=>U t (I t z).1,p1,p2,fun t z=>?_,Y,Z,g1,g2⟩;have e1:=p2 t z;have e1:t.y1<=nx:=e1;rcases p4 t z with⟨u,hu,x1,N⟩ | ⟨x1,N⟩
 ·have:=ko u hu;rw[<-x1,<-N];exact⟨this.1,by omega,this.2.2⟩
 rw[x1,N];exact⟨hy,by omega,rr⟩
theorem A_:∀(b:aR) (s:List aR),∃t,(b::s)[s.length]?=some t/\t.y1=fp (b::s)
 | b,[]=>⟨b,rfl,rfl⟩
 | b,c::s=>by
  obtain⟨t,z,D⟩:=A_ c s;exact⟨t,by simpa using z,by rw[fp];exact D⟩
theorem Z4{K:Int}{a b:List aR}(z:gy K a)(D:gy K b)(I:a.length+b.length≠0):-K<=Cu a b:=by
 cases a with
 | nil=>
  cases b with
  | nil=>simp at I
  | cons q u=>exact (D q (by simp)).1
 | cons p r=>
  cases b with
  | nil=>exact (z p (by simp)).1
  | cons q u=>
   have:=(z p (by simp)).1;have:=(D q (by simp)).1;show -K<=min p.y0 q.y0;omega
theorem Z5{K:Int}{a b:List aR}(z:gy K a)(D:gy K b)(I:a.length+b.length≠0):Cv a b<=K:=by
 cases a with
 | nil=>
  cases b with
  | nil=>simp at I
  | cons q u=>exact p6 (by simp) D
 | cons p r=>
  cases b with
  | nil=>exact p6 (by simp) z
  | cons q u=>
   have h1:=p6 (by simp) z;have h2:=p6 (by simp) D;show max (fp (p::r)) (fp (q::u))<=K;omega
theorem nK{b:aR}{s:List aR}(h:dF (b::s)){x y:Int}(z:b.y0<=y)(D:y<b.y1):at' (b::s) x y=par (cm b.xs) x:=by
 rw[show b::s=[b]++s from rfl,lK,at_one,jS z,jS D,lM (s:=s) fun t I=>.inl (by have:=h.j_ t I;omega)];simp
theorem rQ{b:aR}{x y:Int}(h2:b.y1<=y):at' (b::s) x y=at' s x y:=by
 rw[show b::s=[b]++s from rfl,lK,at_one,aY (by omega:¬y<b.y1)];simp
theorem xE{b:aR}(h:Lg b):∃x,par (cm b.xs) x=true:=by
 cases hx:b.xs with
 | nil=>exact absurd hx h.ne
 | cons p u=>exact⟨p.1,by rw[<-hx];exact (dL h.can _).2 ⟨p,by rw[hx];simp,cz _,iK h.can p (by rw[hx];simp)⟩⟩
theorem RH{p q:aR}{r u:List aR}(z:dF (p::r))(hb:dF (q::u))(J:∀x y,at' (p::r) x y=at' (q::u) x y):q.y0<=p.y0:=by
 obtain⟨x,N⟩:=xE z.head;have I:=nK z (x:=x) (cz _) z.head.lt;rw[N,J]at I;obtain⟨t,D,O,t2,_⟩:=zb.1 I;rcases aq.1 D with e | D
 ·subst e;exact O
 have:=hb.j_ t D;have:=hb.head.lt;omega
theorem MU{p q:aR}{r u:List aR}(z:dF (p::r))(hb:dF (q::u))(J:∀x y,at' (p::r) x y=at' (q::u) x y)(h0:p.y0=q.y0)(N:p.xs=q.xs):q.y1<=p.y1:=by
 rcases Int.lt_or_le p.y1 q.y1 with h | h
 ·exfalso;have hp:=z.head.lt;have row:∀x,at' r x p.y1=par (cm p.xs) x:=fun x=>by
   rw[<-rQ (b:=p) (cz _),J,nK hb (by omega) h,N]
  cases r with
  | nil=>
   obtain⟨x,D⟩:=xE z.head;rw[<-row]at D;cases D
  | cons c r=>
   have hc:=z.2.1;rcases Int.lt_or_le p.y1 c.y0 with O | O
   ·obtain⟨x,D⟩:=xE z.head;rw[<-row,lM (s:=c::r) fun t I=>.inl (by
     rcases aq.1 I with e | I
     ·subst e;omega
     have:=z.tail.j_ t I;have:=z.tail.head.lt;omega)]at D
    cases D
   have e:p.y1=c.y0:=by omega
   refine z.2.2.1 e (nv _ _ z.head.can z.tail.head.can fun x=>?_);rw[<-dL z.head.can,<-dL z.tail.head.can,<-row x,nK z.tail (by omega) (by have:=z.tail.head.lt;omega)]
 exact h
theorem Cx:∀(a b:List aR),dF a->dF b->(∀x y,at' a x y=at' b x y)->a=b
 | [],b,_,hb,he=>(IY hb fun x y=>(he x y).symm).symm
 | p::r,[],ha,_,he=>IY ha fun x y=>he x y
 | p::r,q::u,ha,hb,he=>by
  have z:p.y0=q.y0:=Int.le_antisymm (RH hb ha fun x y=>(he x y).symm) (RH ha hb he);have D:p.xs=q.xs:=nv _ _ ha.head.can hb.head.can fun x=>by
   rw[<-dL ha.head.can,<-dL hb.head.can,<-nK ha (cz _) ha.head.lt,he,nK hb (by omega) (by have:=hb.head.lt;omega)]
  have J:p.y1=q.y1:=Int.le_antisymm (MU hb ha (fun x y=>(he x y).symm) z.symm D.symm) (MU ha hb he z D);have ih:=Cx r u ha.tail hb.tail fun x y=>by
   rcases Int.lt_or_le y p.y1 with h | h
   ·rw[lM (s:=r) fun t I=>.inl (by have:=ha.j_ t I;omega),lM (s:=u) fun t I=>.inl (by have:=hb.j_ t I;omega)]
   rw[<-rQ (b:=p) h,he,rQ (by omega)]
  have:p=q:=by
   cases p;cases q;simp only at z J D;subst z J D;rfl
  rw[this,ih]
theorem vL{a b:aB}:before a b=true↔a.y0<b.y0\/(a.y0=b.y0/\a.x0<b.x0):=by simp[before]
theorem Lj{s:cw}(h:Canon s):s.Pairwise fun p q=>p.1<q.1:=by
 induction s with
 | nil=>exact List.Pairwise.nil
 | cons p s ih=>
  refine iY.2 ⟨fun q z=>?_,ih h.tail⟩;have:=h.behind q z;have:=h.head;omega
theorem Lk(h:dF s):(told s).Pairwise fun a b=>before a b=true:=by
 induction s with
 | nil=>exact List.Pairwise.nil
 | cons b s ih=>
  have e:told (b::s)=(b.xs.map fun p=>⟨p.1,b.y0,p.2,b.y1⟩)++told s:=rfl;rw[e];have aw:(b.xs.map fun p=>(⟨p.1,b.y0,p.2,b.y1⟩:aB)).Pairwise fun a b=>before a b=true:=by
   rw[xB];refine (Lj h.head.can).imp fun {p q} hp=>?_;exact vL.2 (.inr ⟨rfl,hp⟩)
  refine rm.2 ⟨aw,ih h.tail,fun a z c D=>?_⟩;obtain⟨p,_,rfl⟩:=aZ.1 z;obtain⟨t,I,q,_,rfl⟩:=mA.1 D;have h1:=h.j_ t I;have h2:=h.head.lt;exact vL.2 (.inl (by show b.y0<t.y0;omega))
def orK(a b:Bool):Bool:=a||b
def RI(a b:List aR):List aR:=oB orK a b
theorem I0{a b:List aR}(z:dF a)(hb:dF b):dF (RI a b)/\(∀x y,at' (RI a b) x y=(at' a x y||at' b x y))/\∀K,gy K a->gy K b->gy K (RI a b):=xD rfl z hb
end Reg
end Go.Proofs.YtihgjolmpjjblaaGreatDoor
