/- Part 6 of the proof of HouseFlowsAreRight. -/
import Derived.Test.YtedjhhieekileaaGreatDoorR05
import Derived.Shelf.SlSortCmp.WholeK
import Derived.Deep.Slices
import Derived.Test.YtedjhhieekileaaGreatDoorCards
import Derived.Test.YtedjhhieekileaaGreatDoorTie
import Derived.WalkKit
import Derived.ProofKit
import Derived.OpenShut
import Derived.Deep.DeepHandedRow
import Derived.Lib.LaidTab
import Derived.LaidMore
import Derived.Lay
import Derived.Stop.Joined
import Derived.Stop.LaidErr
import Derived.MakeChecks
import Derived.Deep.Fields
import Derived.Carry
import Derived.DataShut
import Derived.Shelf.SlSortCmp.NoneTotal
import Derived.StillTailTactics
set_option linter.unusedVariables false
set_option linter.unusedSimpArgs false
set_option maxRecDepth 100000
set_option maxHeartbeats 8000000
namespace Go
abbrev wz:=@Array.getElem?_eq_none
abbrev oW:=@Go.Deep.hone_of
abbrev ji:=@Go.World.cell?_alloc_at
abbrev oX:=@List.take_length
abbrev rA:=@Int.le_refl
end Go
namespace Go.AM
open Go.RowKit
variable {k:Nat}
theorem wA{α:Type}:∀{L:List (List α)} {a:Nat} {r:List α} {j:Nat} {v:α},(∀r∈L,r.length=k)->L[a]?=some r->r[j]?=some v->L.flatten[a*k+j]?=some v:=by
 intro L
 induction L with
 | nil=>intro a r j v _ h;simp at h
 | cons x L ih=>
  intro a r j v u c m;have hx:=u x (by simp);cases a with
  | zero=>
   simp at c;subst c;rw[v_,Nat.zero_mul,cV,bQ (ah m)];exact m
  | succ a=>
   rw[v_,bR,bY (by omega)];have:=ih (a:=a) (r:=r) (j:=j) (v:=v) (fun r z=>u r (by simp[z])) (by simpa using c) m;rw[<-this];congr 1;omega
theorem lQ{α:Type}:∀{L:List (List α)},(∀r∈L,r.length=k)->L.flatten.length=L.length*k:=by
 intro L
 induction L with
 | nil=>intro _;simp
 | cons x L ih=>
  intro c;rw[v_,bZ,ih fun r m=>c r (by simp[m]),c x (by simp),cD,bR];omega
def bG(L:List (List Value)):List (List PV):=L.map fun r=>r.map PV.im
variable {L:List (List Value)}
theorem CL{P:Program}{S:Nat->Prop}{w:World}(c:∀r∈L,r.length=k){xs:List Value}(hl:xs.length=L.length*k)(h:∀(a:Nat) r (j:Nat) x,(bG L)[a]?=some r->r[j]?=some x->∃u,xs[a*k+j]?=some u/\ay S w x u):xs=L.flatten:=by
 have Ko:=lQ c;apply fj;intro q;by_cases m:q<L.length*k
 ·have z:0<k:=Nat.pos_of_ne_zero fun e=>by rw[e]at m;simp at m
  have D:q / k<L.length:=(Nat.div_lt_iff_lt_mul z).2 m;have hj:q % k<k:=nK _ z;have G:L[q / k]?=some L[q / k]:=aM D;have nP:=c _ (uW D);have I:L[q / k][q % k]?=some (L[q / k][q % k]'(by omega)):=aM _;have e:q / k*k+q % k=q:=by rw[Nat.mul_comm];exact Nat.div_add_mod q k
  obtain⟨u,J,O⟩:=h (q / k) _ (q % k) _ (by unfold bG;rw[ao,G];rfl) (by rw[ao,I];rfl);rw[e]at J;have N:=wA c G I;rw[e]at N;rw[J,N,O.bc]
 rw[dI (by omega),dI (by omega)]
theorem CM{S:Nat->Prop}{w:World}(z:∀r∈L,r.length=k):∀(a:Nat) r (j:Nat) x,(bG L)[a]?=some r->r[j]?=some x->∃u,L.flatten[a*k+j]?=some u/\ay S w x u:=by
 intro a r j x c m;unfold bG at c;rw[ao]at c;obtain⟨r0,D,rfl⟩:=az.1 c;rw[ao]at m;obtain⟨v,G,rfl⟩:=az.1 m;exact⟨v,wA z D G,.im v⟩
theorem GW(c:∀r∈L,r.length=k):∀r∈bG L,r.length=k:=by
 intro r m;obtain⟨u,h,rfl⟩:=aR.1 m;rw[aB,c u h]
def tF(w:World)(g n:Nat)(F:Array Value)(os:Array Obj):World:=Sort.grow (Sort.putRow id (Sort.ahead w n) g 0 F) os
theorem zZ(w:World)(g n:Nat)(F:Array Value)(os:Array Obj):(tF w g n F os).os=w.os/\(tF w g n F os).tape=w.tape/\(tF w g n F os).output=w.output/\w.heap.size<=(tF w g n F os).heap.size/\∀k,k<w.heap.size->(tF w g n F os).heap[k]?=if k=g then (w.heap[k]?).map (Sort.onCells (Sort.putCells id 0 F)) else w.heap[k]?:=by
 refine⟨rfl,rfl,rfl,?_,fun k c=>?_⟩
 ·simp[tF,Sort.grow,Sort.putRow,Sort.mapBlock,Sort.ahead]
 simp only[tF,Sort.grow,Sort.putRow,Sort.mapBlock,Sort.ahead];rw[AF (by simpa using c),u3];by_cases e:g=k
 ·rw[ae e,ae e.symm]
 rw[af e,af fun h=>e h.symm]
theorem wB(F c:Array Value)(h:F.size<=c.size):(Sort.putCells id 0 F c).size=c.size/\(Sort.putCells id 0 F c).toList.take F.size=F.toList:=by
 refine⟨by simp[Sort.putCells],?_⟩;apply fj;intro j;rw[cB];split
 ·rename_i m;rw[gy,gy];simp only[Sort.putCells,Array.getElem?_mapIdx];rw[bE (by omega:j<c.size),bE m,eM,ae ⟨bd _,by omega⟩,Nat.sub_zero,getElem!_pos F j m];rfl
 rename_i m;rw[dI (by simpa using m)]
theorem CN{w w':World}{e:TypeId}{es z:List (List PV)}{c:Value}{zs:List Value}(hs:w.heap.size<=w'.heap.size)(h:∀g,bH c=some g->g<w.heap.size/\Mv w (.row e es::zs.map fun a=>.pv (.im a)) (#[c]++zs.toArray) g):p6 w w' (.row e es::zs.map fun a=>.pv (.im a)) [.row z] (#[c]++zs.toArray):=by
 have u:∀i g,cq w' (.row e es::zs.map fun a=>.pv (.im a)) [.row z] (#[c]++zs.toArray).toList i g->i=0/\bH c=some g:=fun i g m=>by
  simp only[n5]at m;cases i with
  | zero=>exact⟨rfl,al rfl m.2⟩
  | succ i=>exact (rk zs i g m).elim
 exact⟨fun i g m=>by obtain⟨D,G⟩:=h g (u i g m).2;exact⟨bg D hs,.inr G⟩,fun i j g I J=>by rw[(u i g I).1,(u j g J).1]⟩
theorem z6{C:Ctx}(hC:aL C){f:FuncId}(e:TypeId)(R:TI)(hT:C.T e=some R)(FZ:0<R.size)(zs:List Value)(L L':List (List Value))(hL:∀r∈L,r.length=R.size)(V:∀r∈L',r.length=R.size)(hlen:L'.length=L.length)
  (h1:∀r∈L',∀v∈r,v.oneCell'=true) (hf:vX C f)
  (U:L=[]->∀w,Calls C.P f (#[.slice none 0 0]++zs.toArray) w fun e' w'=>e'=.returned (.tuple #[])/\w'=w)
  (h:∀S w bH m,C.E S w->bH<w.heap.size->L.length<=m->(∀j v,L.flatten[j]?=some v->w.cell? ⟨bH,j,none⟩=some v/\w.frozen? ⟨bH,j,none⟩=false)->
   Calls C.P f (#[.slice (some ⟨bH,0,none⟩) L.length m]++zs.toArray) w fun e' w'=>e'=.returned (.tuple #[])/\∃n os,w'=tF w bH n L'.flatten.toArray os):
  aT C f (.row e (bG L)::zs.map fun a=>.pv (.im a)) (.tu []) [.row (bG L')]:=by
 refine⟨hf,fun S w vs hE hS hl hr _=>?_⟩;obtain⟨c,vr,rfl⟩:∃c vr,vs=#[c]++vr:=by
  obtain⟨l⟩:=vs;cases l with
  | nil=>simp at hl
  | cons c l=>exact⟨c,⟨l⟩,by simp⟩
 have IS:vr=zs.toArray:=rj (S:=S) (w:=w) (P:=C.P) (by simp at hl ⊢;omega) fun j x v hx hv=>hr (j+1) x v (by simpa using hx) (by rw[j8 (by simp)];simpa using hv);subst IS;have ai:an C.P w (ay S w) e (bG L) c/\∀g,bH c=some g->¬S g:=hr 0 _ c rfl (by simp);obtain⟨⟨i,xs,hi,G,hown,SI,ga,I⟩,Qx⟩:=ai;obtain⟨info,z,W,N,_⟩:=hC.eL e R hT;rw[hi]at W;injection W with W;subst W;have J:(bG L).length=L.length:=aB ..;have Y:(bG L').length=L.length:=by rw[<-hlen];exact aB ..
 have hx:xs=L.flatten:=CL (P:=C.P) (k:=i.size) (by rw[N];exact hL) (by rw[<-J];exact hown.1) I;have Ln:∀g,bH c=some g->Mv w (.row e (bG L)::zs.map fun a=>.pv (.im a)) (#[c]++zs.toArray) g:=fun g Z=>⟨0,_,c,rfl,by simp,rfl,.inl Z⟩;have tail:∀w':World,jk S w' C.P (.row e (bG L)) (.row (bG L')) c->eV S w' C.P (.row e (bG L)::zs.map fun a=>.pv (.im a)) [.row (bG L')] (#[c]++zs.toArray).toList:=fun w' C4=>by
  simp only[n5];exact⟨C4,vY zs⟩
 have Qy:∀w':World,w.heap.size<=w'.heap.size->p6 w w' (.row e (bG L)::zs.map fun a=>.pv (.im a)) [.row (bG L')] (#[c]++zs.toArray):=fun w' hs=>CN hs (fun g Z=>⟨(hown.lt g (by rw[cm (bP hown).choose_spec.choose_spec];exact Z)).2,Ln g Z⟩);rcases hown.2 with⟨q1,q2⟩ | ⟨g,m,D,q1,q2,q3,q4,q5,q6,q7⟩
 ·have Ea:L=[]:=cW (by rw[<-J];exact q2);subst q1;refine (U Ea w).mono fun e' w' ⟨he,hw⟩=>?_;subst hw;refine⟨.tuple #[],S,he,Fr.refl _ _,fun _ h=>h,hS,fun b hb=>.inl hb,⟨#[],rfl,rfl,by simp⟩,tail _ ⟨?_,Qx⟩,Qy _ (aC _),fun g h=>by cases h⟩;have Po:L'=[]:=cW (by rw[hlen,Ea];rfl);subst Po;exact⟨i,[],hi,G,World.ownsRow_nil _ _ _ _,by simp[bG],by simp,by simp[bG]⟩
 subst q1;have Mt:g<w.heap.size:=(nZ.1 q3).1;have R7:L'.flatten.toArray.size=L.length*i.size:=by rw[lV,lQ V,hlen,N]
 have js:L.length*i.size<=D.size:=by rw[q6];exact ba _ (by rw[<-J];exact q4)
 have hh:=h S w g m hE Mt (by rw[<-J];exact q4) fun j v O=>by
  have kX:j<L.length*i.size:=by have:=ah O;rw[lQ hL]at this;rw[N];exact this
  have:D[j]?=some v:=by
   rw[<-hx,<-q7]at O;rw[cB]at O;split at O
   ·simpa using O
   cases O
  exact⟨by rw[cell_of_row w g j D e (0,0) q3];exact this,by simp[World.frozen?,q3]⟩
 rw[<-J]at hh;refine hh.mono fun e' w' ⟨he,n,os,hw⟩=>?_;subst hw;obtain⟨p1,p2,p3,p4,p5⟩:=zZ w g n L'.flatten.toArray os;obtain⟨c1,c2⟩:=wB L'.flatten.toArray D (by omega);have eY:(tF w g n L'.flatten.toArray os).heap[g]?=some (.cells (Sort.putCells id 0 L'.flatten.toArray D) e (0,0)):=by rw[p5 g Mt,ae rfl,q3];rfl
 refine⟨.tuple #[],S,he,⟨p1,p2,p3,p4,fun k hk hn=>?_⟩,fun _ h=>h,fun b hb=>bg (hS b hb) p4,fun b hb=>.inl hb,⟨#[],rfl,rfl,by simp⟩,tail _ ⟨?_,Qx⟩,Qy _ p4,fun g h=>by cases h⟩
 ·rw[p5 k hk,af];intro e;subst e;exact hn (Ln k rfl)
 refine⟨i,L'.flatten,hi,G,⟨by rw[Y,<-hlen,N];exact lQ V,.inr ⟨g,m,_,by rw[Y,J],bd _,eY,by rw[Y,<-J];exact q4,q5,by rw[c1];exact q6,?_⟩⟩,by rw[N];exact GW V,fun u hu=>?_,CM (by rw[N];exact V)⟩
 ·rw[Y,<-R7];exact c2
 obtain⟨r,FA,jb⟩:=List.mem_flatten.1 hu;exact h1 r FA u jb
end Go.AM
namespace Go.AM
open Go.RowKit
end Go.AM
namespace Go.AM
open Go.RowKit Go.ChangeShapes
section
variable {H:Type} {enc:TypeId×Value->H} {P:Program} {w:World} {S:Nat->Prop}
def FI(enc:TypeId×Value->H)(P:Program)(w:World)(S:Nat->Prop)(t:TypeId)(k:Nat)(Q:List PV->DataW H->Prop):Prop:=
 ∀n cs x,DataW.trod enc P w 0 (fun _=>true) true n t cs=some x->∃xs,xs.length=k/\cs.length=k/\(∀(i:Nat) c v,xs[i]?=some c->cs[i]?=some v->ay S w c v/\v.oneCell'=true)/\Q xs x.1
theorem one_cell{c:PV}{u:Value}(h:ay S w c u/\u.oneCell'=true):∀(i:Nat) D v,[c][i]?=some D->[u][i]?=some v->ay S w D v/\v.oneCell'=true:=fun i D v m z=>by
 match i,m,z with
 | 0,m,z=>cases m;cases z;exact h
 | n+1,m,z=>cases m
theorem GY{t:TypeId}(c:P.underlying t=some (.int .i64)):FI enc P w S t 1 fun xs d=>∃n:Int,xs=[.im (.int .i64 n)]/\d=.lit (.int .i64 n):=fun n cs x h=>by
 obtain⟨z,rfl,rfl,_⟩:=DataW.trod_int c h;exact⟨[.im (.int .i64 z)],rfl,rfl,one_cell ⟨.im _,rfl⟩,z,rfl,rfl⟩
theorem GZ{t:TypeId}(c:P.underlying t=some .string):FI enc P w S t 1 fun xs d=>∃s:ByteArray,xs=[.im (.string s)]/\d=.lit (.string s.data.toList):=fun n cs x h=>by
 obtain⟨s,rfl,rfl,_⟩:=DataW.trod_string c h;exact⟨[.im (.string s)],rfl,rfl,one_cell ⟨.im _,rfl⟩,s,rfl,rfl⟩
theorem G2{a:Addr}{v:Value}(h:w.cell? a=some v):a.spot=none/\a.block<w.heap.size:=by
 unfold World.cell? at h;split at h
 ·rename_i c _ _ m;refine⟨?_,?_⟩
  ·cases hs:a.spot with
   | none=>rfl
   | some s=>rw[hs]at h;cases h
  rcases Nat.lt_or_ge a.block w.heap.size with h' | h'
  ·exact h'
  rw[wz h']at m;cases m
 cases h
theorem CO{t e:TypeId}{k:Nat}{Q:List PV->DataW H->Prop}(ht:P.underlying t=some (.slice e))(hc:P.cellsOf e=k)(hk:0<k)(hS:∀b,b<w.heap.size->S b)(he:FI enc P w S e k Q):
  FI enc P w S t 1 fun xs d=>∃(es:List (List PV)) (ds sp:List (DataW H)),xs=[.sl es]/\es.length=ds.length/\(d=.nil/\ds=[]\/d=.slice ds sp)/\∀(i:Nat) x y,es[i]?=some x->ds[i]?=some y->Q x y:=fun n cs x h=>by
 rcases Go.Deep.open_slice ht h with⟨rfl,rfl⟩ | ⟨a,len,W,m,n,D,Pl,rfl,hb,hl,hm,BR,rfl,Z⟩
 ·exact⟨[.sl []],rfl,rfl,one_cell ⟨.nil _ _,rfl⟩,[],[],[],rfl,rfl,.inl ⟨rfl,rfl⟩,fun i x y h=>by cases h⟩
 have PX:len<=m:=by rw[BR];split<;>omega
 rcases Nat.eq_zero_or_pos len with h0 | U
 ·subst h0;exact⟨[.sl []],rfl,rfl,one_cell ⟨.nil _ _,rfl⟩,[],[],_,rfl,rfl,.inr rfl,fun i x y h=>by cases h⟩
 rw[hc]at Z;have V:∀i,i<len->∃p:List PV×List Value,p.1.length=k/\p.2.length=k/\(∀j,j<k->w.cell? ((a.add (i*k)).add j)=p.2[j]?)/\(∀(j:Nat) c v,p.1[j]?=some c->p.2[j]?=some v->ay S w c v/\v.oneCell'=true)/\Q p.1 (D i):=fun i z=>by
  obtain⟨dB,I,u⟩:=Z i (by omega);obtain⟨_,hlen,O⟩:=World.cells?_some I;obtain⟨xs,l1,l2,l3,l4⟩:=he _ _ _ u;exact⟨(xs,dB),l1,l2,O,l3,l4⟩
 obtain⟨F,J⟩:=Go.Deep.choose_lt (α:=List PV×List Value) V;have get:∀(i:Nat) e,((List.range len).map fun i=>(F i).1)[i]?=some e->i<len/\e=(F i).1:=fun i e h=>by
  rw[ao,az]at h;obtain⟨j,N,rfl⟩:=h;obtain⟨I,u⟩:=cL.1 N;rw[List.getElem_range]at u;subst u;exact⟨by simpa using I,rfl⟩
 have G:∀i j,i<len->j<k->w.cell? ((a.add (i*k)).add j)=some (((F i).2[j]?).getD .nilIface):=fun i j z N=>by
  obtain⟨_,l2,h3,_⟩:=J i z;rw[h3 j N,aM (by omega)];rfl
 have hz:=G2 (G 0 0 U hk);obtain⟨b,R,spot⟩:=a;have BC:spot=none:=by simpa [Addr.add] using hz.1
 subst BC;have Pp:b<w.heap.size:=by simpa [Addr.add] using hz.2
 have ai:∀i j,((⟨b,R,none⟩:Addr).add (i*k)).add j=⟨b,R+i*k+j,none⟩:=fun i j=>by
  unfold Addr.add;by_cases I:i*k=0
  ·rw[ae I,I];by_cases u:j=0
   ·rw[ae u,u];rfl
   rw[af u];rfl
  rw[af I];by_cases u:j=0
  ·rw[ae u,u];rfl
  rw[af u]
 refine⟨[.sl ((List.range len).map fun i=>(F i).1)],rfl,rfl,one_cell ⟨?_,rfl⟩,(List.range len).map fun i=>(F i).1,(List.range len).map D,_,rfl,by simp,.inr rfl,fun i x y I u=>?_⟩
 ·have hlen:((List.range len).map fun i=>(F i).1).length=len:=by simp
  have:=ay.sl (S:=S) (w:=w) ((List.range len).map fun i=>(F i).1) k b R W (fun i j=>((F i).2[j]?).getD .nilIface) (by rw[hlen];exact hl) (hS b Pp)
   (fun e Ox=>by obtain⟨i,z,rfl⟩:=aR.1 Ox;exact (J i (fR.1 z)).1)
   (fun i e j x I u=>by
    obtain⟨z,rfl⟩:=get i e I;have N:j<k:=by rw[<-(J i z).1];exact (cL.1 u).1
    have Y:(F i).2[j]?=some (((F i).2[j]?).getD .nilIface):=by rw[aM (by rw[(J i z).2.1];exact N)];rfl
    exact⟨by rw[<-ai];exact G i j z N,((J i z).2.2.2.1 j x _ u Y).2⟩)
   (fun i e j x I u=>by
    obtain⟨z,rfl⟩:=get i e I;have N:j<k:=by rw[<-(J i z).1];exact (cL.1 u).1
    have Y:(F i).2[j]?=some (((F i).2[j]?).getD .nilIface):=by rw[aM (by rw[(J i z).2.1];exact N)];rfl
    exact ((J i z).2.2.2.1 j x _ u Y).1)
  rw[hlen]at this;exact this
 obtain⟨z,rfl⟩:=get i x I;rw[ao,fG z]at u;cases u;exact (J i z).2.2.2.2
instance:Inhabited PV:=⟨.sl []⟩
theorem nD{t:TypeId}{u:Array Field}(W:P.underlying t=some (.struct u))(Y:∀(i:Nat) (f:Field),u[i]?=some f->f.offset=i/\P.cellsOf f.type=1)(Z:P.cellsOf t=u.size)(Qs:Nat->List PV->DataW H->Prop)
  (hf:∀(i:Nat) (f:Field),u[i]?=some f->FI enc P w S f.type 1 (Qs i)):
  FI enc P w S t u.size fun xs d=>∃ds:List (DataW H),d=.agg ds/\ds.length=u.size/\∀(i:Nat) x y,xs[i]?=some x->ds[i]?=some y->Qs i [x] y:=fun n cs x h=>by
 obtain⟨ys,m,_,rfl,hl,hlen,hy⟩:=DataW.trod_struct W h;rw[Z]at hl;have G:∀i,i<u.size->∃c:PV,∃y v,ys[i]?=some y/\cs[i]?=some v/\ay S w c v/\v.oneCell'=true/\Qs i [c] y.1:=fun i D=>by
  have J:u[i]?=some u[i]:=bE D;obtain⟨ho,z⟩:=Y i _ J;have N:=hy i _ J;rw[ho,z]at N;have R:ys[i]?=some ys[i]:=aM (by omega);rw[R]at N;obtain⟨xs,l1,l2,O,l4⟩:=hf i _ J _ _ _ N;have js:cs[i]?=some cs[i]:=aM (by omega);have hd:(cs.drop i).take 1=[cs[i]]:=by
   rw[cn (by omega)];rfl
  rw[hd]at O;obtain⟨c,rfl⟩:∃c,xs=[c]:=by
   match xs,l1 with
   | [c],_=>exact⟨c,rfl⟩
  exact⟨c,ys[i],cs[i],R,js,(O 0 _ _ rfl rfl).1,(O 0 _ _ rfl rfl).2,l4⟩
 obtain⟨F,U⟩:=Go.Deep.choose_lt (α:=PV) G;refine⟨(List.range u.size).map F,by simp,hl,fun i c v z I=>?_,ys.map (·.1),rfl,by rw[aB,hlen],fun i x y z I=>?_⟩
 ·have D:i<u.size:=by have:=(cL.1 z).1;simpa using this
  rw[ao,fG D]at z;cases z;obtain⟨y,v',_,V,e3,e4,_⟩:=U i D;rw[I]at V;cases V;exact⟨e3,e4⟩
 have D:i<u.size:=by have:=(cL.1 z).1;simpa using this
 rw[ao,fG D]at z;cases z;obtain⟨y',v',e1,_,_,_,e5⟩:=U i D;rw[ao,e1]at I;cases I;exact e5
theorem pR{t e:TypeId}{Q:List PV->DataW H->Prop}{r:Reach}{m:Nat}(u:P.underlying t=some (.slice e))(z:FI enc P w S t 1 Q){v:Value}{d:DataW H}{D:List MemPlace}(G:Value.okWide P w r m t v)(h:DataW.Trod enc P w 0 (fun _=>true) true t v d D):
  ∃c,ay S w c v/\Q [c] d:=by
 obtain⟨a,l,c,rfl⟩:=Go.WideShapes.okWide_slice u G;obtain⟨n,I⟩:=h;obtain⟨xs,J,l2,N,O⟩:=z _ _ _ I;obtain⟨x,rfl⟩:∃x,xs=[x]:=by
  match xs,J with
  | [x],_=>exact⟨x,rfl⟩
 exact⟨x,(N 0 x _ rfl rfl).1,O⟩
theorem Mu(w:World)(xs:List PV)(m:Array Value)(g:Nat):¬Mv w (xs.map Arg.pv) m g:=by
 rintro⟨j,y,v,c,_,u,_⟩;rw[ao,az]at c;obtain⟨x,_,rfl⟩:=c;cases u
def G3(S:Nat->Prop)(w:World)(xs:List PV)(vs:List Value):Prop:=xs.length=vs.length/\∀(j:Nat) x v,xs[j]?=some x->vs[j]?=some v->ay S w x v
theorem E_:G3 S w [] []:=⟨rfl,fun j x v h=>by cases h⟩
theorem pS{x:PV}{v:Value}{xs:List PV}{u:List Value}(h:ay S w x v)(z:G3 S w xs u):G3 S w (x::xs) (v::u):=⟨by rw[cD,cD,z.1],fun j D G c m=>by
 match j,c,m with
 | 0,c,m=>cases c;cases m;exact h
 | j+1,c,m=>exact z.2 j D G c m⟩
theorem JL{C:Ctx}{f:FuncId}{xs:List PV}{y:Value}(h:aT C f (xs.map Arg.pv) (.p (.im y)) []){z:Array Value}(I:C.E (fun b=>b<w.heap.size) w)(G:G3 (fun b=>b<w.heap.size) w xs z.toList):
  Calls C.P f z w fun e w'=>e=.returned y/\Below w.heap.size w w':=by
 refine (h.2 (fun b=>b<w.heap.size) w z I (fun _ h=>h) (by rw[aB,G.1];simp) (fun j x v c J=>?_) (fun i j x y v u g c _ _ _ N=>?_)).mono ?_
 ·rw[ao,az]at c;obtain⟨x,O,rfl⟩:=c;exact G.2 j x v O (by rw[gy];exact J)
 ·rw[ao,az]at c;obtain⟨x,_,rfl⟩:=c;cases N
 rintro e w' ⟨v,S',rfl,m,_,_,_,D,_⟩;have D:ay S' w' (.im y) v:=D;cases D;exact⟨rfl,m.os,m.tape,m.output,m.size,fun k R=>m.block k R (Mu _ _ _ _)⟩
end
end Go.AM
namespace Go.Proofs.YtedjhhieekileaaGreatDoor
open Go.ChangeShapes Go.WideShapes Go.ChangeAt Go.RowKit
section
variable {H:Type} {enc:TypeId×Value->H} {P:Program}
theorem tG{f:Func}{s:ChangeSpec}{c J m N:Bool}{W R:World}{args:Array Value}{v:Value}{ds gs:List (DataW H)}{before pa pv:List MemPlace}
  (V:DataW.Whole enc P f.params.toList s.vars c W args.toList ds gs before)
  (G:∀(b:Nat) (O:Nat->Bool) (hd:Bool),DataW.TrodAll enc P R b O hd f.resultTypes.toList (v.resultList f.resultTypes.size) (s.fn H (ds++gs)).results [])
  (u:∀O:Nat->Bool,(∀p∈before,O p.block=true)->DataW.TrodAll enc P R 0 O true f.params.toList args.toList (s.fn H (ds++gs)).args pa)
  (z:∀O:Nat->Bool,(∀p∈before,O p.block=true)->DataW.TrodVars enc P R O s.vars (s.fn H (ds++gs)).vars pv)
  (D:before=pa++pv) (hb:Below W.heap.size W R)
  (Y:∀(j:Nat) (t:TypeId) (r:Value),f.resultTypes[j]?=some t->(v.resultList f.resultTypes.size)[j]?=some r->Value.okWide P R .any 0 t r):
  s.post enc P f c J m N W args v R:=by
 have Z:∀p∈before,p.block<W.heap.size:=fun p hp=>V.lt p hp;have I:∀p∈before,(fun b=>decide (b<W.heap.size)) p.block=true:=fun p hp=>by simpa using Z p hp
 refine⟨ds,gs,before,[],pa,pv,V,G _ _ _,u _ I,z _ I,World.keptBut_mono (fun p hp=>⟨hp,?_⟩) (hb.frame (·∈before)),fun _=>?_⟩
 ·rw[D,cX]at hp;exact Or.inr hp
 obtain⟨_,_,_,_,_,hz,hn⟩:=V;refine⟨Y,_,_,([]++pa)++pv,⟨[]++pa,pv,trodAll_append (u _ (fun _ _=>rfl)) (G _ _ _),z _ (fun _ _=>rfl),rfl,?_,?_⟩,?_⟩
 ·intro b U hp;have iR:MemPlace.cell b U∈before:=by rw[D];simpa using hp
  rw[hb.frozen (Z _ iR)];exact hz b U iR
 ·intro ha;have:=hn ha;rw[D]at this;simpa using this
 intro p hp _;rw[D];simpa using hp
theorem qG{C:Checked}{os:Os}{f:FuncId}{fn:Func}{s:OpenSpec}{c:List PathCond}{m:Bool}{laid:List (String×DataW Unit)}(w0:World)(args:Array Value)(D:w0.os=os)
  (z:(w0.forCall (fun _ _=>0) ⟨#[],args,[]⟩).Shaped C.prog)
  (u:Input.okWideB C.prog (w0.forCall (fun _ _=>0) ⟨#[],args,[]⟩) f ⟨#[],args,[]⟩=true)
  (ai:s.preRow enc C.prog fn c m laid (w0.forCall (fun _ _=>0) ⟨#[],args,[]⟩).memory args):
  ∃(w:World) (tape:Tape) (i:Input),w.os=os/\(w.forCall tape i).Shaped C.prog/\i.vars=[]/\Input.okWide C.prog (w.forCall tape i) .any w.heap.size f i /\
   s.preRow enc C.prog fn c m laid (w.forCall tape i).memory i.args/\({}:Assume).holds C.prog (lone (Frame.enter C.prog f i.args .normal) [] (w.forCall tape i)):=
 ⟨w0,fun _ _=>0,⟨#[],args,[]⟩,D,z,(Input.okWide_of_okWideB (base:=0) u).1,(Input.okWide_of_okWideB u).2,ai,by
  simp only[Assume.holds];exact⟨by simp,by simp,fun _=>Modest.zero,by simp,by simp⟩⟩
end
theorem own:ownKnob Tryz.prog.godebug=none:=by kernel_rfl
variable {H:Type}
theorem Fa(d:DataW H):1<=Rows.uptoBulk d:=by
 cases d with
 | lit l=>cases l<;>simp[Rows.uptoBulk]
 | nil=>simp[Rows.uptoBulk]
 | ptr d=>simp[Rows.uptoBulk]
 | slice elems spare=>simp[Rows.uptoBulk]
 | agg parts=>simp[Rows.uptoBulk]
 | iface t d=>simp[Rows.uptoBulk]
 | map entries=>simp[Rows.uptoBulk]
 | held h=>simp[Rows.uptoBulk]
theorem uH{d:DataW H}{l:List (DataW H)}(h:d∈l):Rows.uptoBulk d<=Rows.uptoBulkAll l:=by
 induction l with
 | nil=>cases h
 | cons x r ih=>
  simp only[Rows.uptoBulkAll];cases fK.1 h with
  | inl e=>subst e;omega
  | inr e=>have:=ih e;omega
theorem x8{H:Type}(bytes:List UInt8):Rows.uptoBulk (DataW.lit (H:=H) (.string bytes))=bytes.length+1:=by
 simp[Rows.uptoBulk]
theorem z7{l:List (DataW H)}(c:Rows.uptoSmall H l=true):Rows.uptoBulkAll l<=1048576:=ov c
end Go.Proofs.YtedjhhieekileaaGreatDoor
namespace Go.Proofs.YtedjhhieekileaaGreatDoor
namespace M
open Go.AM Go.RowKit Go.Lib
variable {H:Type} {enc:TypeId×Value->H} {w:World} {S:Nat->Prop}
theorem Mw:FI enc Tryz.prog w S 3 1 fun xs d=>∃n:Int,xs=[i64 n]/\d=.lit (.int .i64 n):=GY ib
theorem Mx:FI enc Tryz.prog w S 9 1 fun xs d=>∃s:ByteArray,xs=[str s]/\d=.lit (.string s.data.toList):=GZ ij
abbrev Sp(enc:TypeId×Value->H)(w:World)(S:Nat->Prop)(t:TypeId)(k:Nat){γ:Type}(f:γ->List PV)(B:γ->Nat->Prop):Prop:=FI enc Tryz.prog w S t k fun xs d=>∃r,xs=f r/\B r (Rows.uptoBulk d)
theorem x9:Sp enc w S 3 1 (fun n=>[i64 n]) fun _ _=>True:=fun n cs x h=>by
 obtain⟨xs,c,m,u,z,e,_⟩:=Mw (S:=S) n cs x h;exact⟨xs,c,m,u,z,e,trivial⟩
theorem JM:Sp enc w S 9 1 (fun s=>[str s]) fun s n=>s.size<=n:=fun n cs x h=>by
 obtain⟨xs,c,m,u,z,e,d⟩:=Mx (S:=S) n cs x h;refine⟨xs,c,m,u,z,e,?_⟩;rw[d,x8];have:z.data.toList.length=z.size:=by simp
 omega
theorem Bo{α γ:Type}{f:γ->α}{B:γ->Nat->Prop}(c:∀r m n,m<=n->B r m->B r n):∀{es:List α} {ds:List (DataW H)},es.length=ds.length->(∀(i:Nat) x y,es[i]?=some x->ds[i]?=some y->∃r,x=f r/\B r (Rows.uptoBulk y))->∃l:List γ,es=l.map f/\l.length<=Rows.uptoBulkAll ds/\∀r∈l,B r (Rows.uptoBulkAll ds)
 | [],_,_,_=>⟨[],rfl,bd _,fun r h=>by cases h⟩
 | x::es,[],hl,_=>by cases hl
 | x::es,y::ds,hl,h=>by
  obtain⟨r,rfl,D⟩:=h 0 x y rfl rfl;obtain⟨l,rfl,z,u⟩:=Bo c (es:=es) (ds:=ds) (by simpa using hl) (fun i a b z u=>h (i+1) a b (by simpa using z) (by simpa using u));have e:Rows.uptoBulkAll (y::ds)=Rows.uptoBulk y+Rows.uptoBulkAll ds:=by simp only[Rows.uptoBulkAll]
  have b1:=Fa y;refine⟨r::l,rfl,by rw[cD];omega,fun q G=>?_⟩;rcases fK.1 G with h | h
  ·subst h;exact c _ _ _ (by omega) D
  exact c _ _ _ (by omega) (u q h)
theorem sU{t e:TypeId}{k:Nat}{γ:Type}{f:γ->List PV}{B:γ->Nat->Prop}(z:Tryz.prog.underlying t=some (.slice e))(D:Tryz.prog.cellsOf e=k)(G:0<k)(hS:∀b,b<w.heap.size->S b)(c:∀r m n,m<=n->B r m->B r n)(I:Sp enc w S e k f B):
  Sp enc w S t 1 (fun l:List γ=>[.sl (l.map f)]) fun l n=>l.length<=n/\∀r∈l,B r n:=fun n cs x h=>by
 obtain⟨xs,J,N,O,es,ds,sp,rfl,hl,R,q⟩:=CO z D G hS I _ _ _ h;obtain⟨l,rfl,b1,U⟩:=Bo c hl q;have hb:Rows.uptoBulkAll ds<=Rows.uptoBulk x.1:=by
  rcases R with⟨u,V⟩ | u
  ·rw[V];exact bd _
  rw[u];simp only[Rows.uptoBulk];omega
 exact⟨_,J,N,O,l,rfl,by omega,fun r W=>c _ _ _ hb (U r W)⟩
theorem z8{ds:List (DataW H)}{i:Nat}{y:DataW H}(h:ds[i]?=some y):Rows.uptoBulk y<=Rows.uptoBulk (.agg ds):=by
 have:=uH (aj h);simp only[Rows.uptoBulk];omega
theorem JN:Sp enc w S 41 4 gq fun x n=>x.name.size<=n:=fun n cs x h=>by
 obtain⟨xs,u,G,I,ds,e,z,q⟩:=nD (S:=S) (Qs:=fun i xs d=>match i with
   | 0=>∃r,xs=[str r]/\r.size<=Rows.uptoBulk d
   | 1=>∃r,xs=[i64 r]/\True
   | 2=>∃r,xs=[i64 r]/\True
   | _=>∃r,xs=[i64 r]/\True) Tryz.underlying41 (oW (by kernel_rfl)) (by kernel_rfl) (fun i f m=>by
  match i,m with
  | 0,m=>cases m;exact JM
  | 1,m=>cases m;exact x9
  | 2,m=>cases m;exact x9
  | 3,m=>cases m;exact x9
  | n+4,m=>cases m) _ _ _ h
 have u:xs.length=4:=u;have z:ds.length=4:=z;obtain⟨x0,x1,x2,x3,rfl⟩:∃a b c d,xs=[a,b,c,d]:=by
  match xs,u with
  | [a,b,c,d],_=>exact⟨a,b,c,d,rfl⟩
 obtain⟨J,N,O,R,rfl⟩:∃a b c d,ds=[a,b,c,d]:=by
  match ds,z with
  | [a,b,c,d],_=>exact⟨a,b,c,d,rfl⟩
 obtain⟨U,V,W⟩:=q 0 _ _ rfl rfl;obtain⟨Y,Z,p1⟩:=q 1 _ _ rfl rfl;obtain⟨n2,e2,p2⟩:=q 2 _ _ rfl rfl;obtain⟨n3,e3,p3⟩:=q 3 _ _ rfl rfl;cases V;cases Z;cases e2;cases e3;have D:=z8 (ds:=[J,N,O,R]) (i:=0) rfl;rw[<-e]at D;exact⟨_,rfl,G,I,⟨U,Y,n2,n3⟩,rfl,by exact bM W D⟩
theorem My:Sp enc w S 43 3 jK fun x n=>x.name.size<=n:=fun n cs x h=>by
 obtain⟨xs,u,G,I,ds,e,z,q⟩:=nD (S:=S) (Qs:=fun i xs d=>match i with
   | 0=>∃r,xs=[str r]/\r.size<=Rows.uptoBulk d
   | 1=>∃r,xs=[i64 r]/\True
   | _=>∃r,xs=[i64 r]/\True) Tryz.underlying43 (oW (by kernel_rfl)) (by kernel_rfl) (fun i f m=>by
  match i,m with
  | 0,m=>cases m;exact JM
  | 1,m=>cases m;exact x9
  | 2,m=>cases m;exact x9
  | n+3,m=>cases m) _ _ _ h
 have u:xs.length=3:=u;have z:ds.length=3:=z;obtain⟨x0,x1,x2,rfl⟩:∃a b c,xs=[a,b,c]:=by
  match xs,u with
  | [a,b,c],_=>exact⟨a,b,c,rfl⟩
 obtain⟨J,N,O,rfl⟩:∃a b c,ds=[a,b,c]:=by
  match ds,z with
  | [a,b,c],_=>exact⟨a,b,c,rfl⟩
 obtain⟨R,U,V⟩:=q 0 _ _ rfl rfl;obtain⟨W,Y,p1⟩:=q 1 _ _ rfl rfl;obtain⟨Z,e2,p2⟩:=q 2 _ _ rfl rfl;cases U;cases Y;cases e2;have D:=z8 (ds:=[J,N,O]) (i:=0) rfl;rw[<-e]at D;exact⟨_,rfl,G,I,⟨R,W,Z⟩,rfl,by exact bM V D⟩
theorem Mz:Sp enc w S 58 4 CJ fun x n=>x.lot.size<=n:=fun n cs x h=>by
 obtain⟨xs,u,G,I,ds,e,z,q⟩:=nD (S:=S) (Qs:=fun i xs d=>match i with
   | 0=>∃r,xs=[str r]/\r.size<=Rows.uptoBulk d
   | 1=>∃r,xs=[i64 r]/\True
   | 2=>∃r,xs=[i64 r]/\True
   | _=>∃r,xs=[i64 r]/\True) Tryz.underlying58 (oW (by kernel_rfl)) (by kernel_rfl) (fun i f m=>by
  match i,m with
  | 0,m=>cases m;exact JM
  | 1,m=>cases m;exact x9
  | 2,m=>cases m;exact x9
  | 3,m=>cases m;exact x9
  | n+4,m=>cases m) _ _ _ h
 have u:xs.length=4:=u;have z:ds.length=4:=z;obtain⟨x0,x1,x2,x3,rfl⟩:∃a b c d,xs=[a,b,c,d]:=by
  match xs,u with
  | [a,b,c,d],_=>exact⟨a,b,c,d,rfl⟩
 obtain⟨J,N,O,R,rfl⟩:∃a b c d,ds=[a,b,c,d]:=by
  match ds,z with
  | [a,b,c,d],_=>exact⟨a,b,c,d,rfl⟩
 obtain⟨U,V,W⟩:=q 0 _ _ rfl rfl;obtain⟨Y,Z,p1⟩:=q 1 _ _ rfl rfl;obtain⟨n2,e2,p2⟩:=q 2 _ _ rfl rfl;obtain⟨n3,e3,p3⟩:=q 3 _ _ rfl rfl;cases V;cases Z;cases e2;cases e3;have D:=z8 (ds:=[J,N,O,R]) (i:=0) rfl;rw[<-e]at D;exact⟨_,rfl,G,I,⟨U,Y,n2,n3⟩,rfl,by exact bM W D⟩
theorem G4(hS:∀b,b<w.heap.size->S b):Sp enc w S 22 1 (fun l:List gI=>[.sl (l.map gq)]) fun l n=>l.length<=n/\∀x∈l,x.name.size<=n:=sU (k:=4) Tryz.underlying22 (by kernel_rfl) (by decide) hS (fun _ _ _ c m=>bM m c) JN
theorem JO(hS:∀b,b<w.heap.size->S b):Sp enc w S 23 1 (fun l:List Lt=>[.sl (l.map jK)]) fun l n=>l.length<=n/\∀x∈l,x.name.size<=n:=sU (k:=3) Tryz.underlying23 (by kernel_rfl) (by decide) hS (fun _ _ _ c m=>bM m c) My
theorem JP(hS:∀b,b<w.heap.size->S b):Sp enc w S 24 1 (fun l:List Fl=>[.sl (l.map CJ)]) fun l n=>l.length<=n/\∀x∈l,x.lot.size<=n:=sU (k:=4) Tryz.underlying24 (by kernel_rfl) (by decide) hS (fun _ _ _ c m=>bM m c) Mz
def Fb(l:List gI):Prop:=(∀x∈l,A7 x.name)/\l.length<=140737488355328
def Ig(l:List Lt):Prop:=(∀x∈l,A7 x.name)/\l.length<=140737488355328
def Ih(l:List Fl):Prop:=(∀x∈l,A7 x.lot)/\l.length<=140737488355328
theorem wC{d:DataW H}{l:List (DataW H)}(c:Rows.uptoSmall H l=true)(h:d∈l):Rows.uptoBulk d<=1048576:=bM (uH h) (z7 c)
theorem uI{P:Program}(hl:laidOutB P=true){W I:World}(hb:Below W.heap.size W I):∀{m:List TypeId} {G:List Value} {ds:List (DataW H)} {u:List MemPlace},(m.all fun t=>P.readableRec t&&decide (t<P.types.size))=true->DataW.TrodAll enc P W 0 (fun _=>true) true m G ds u->(∀p∈u,p.block<W.heap.size)->∀z:Nat->Bool,(∀p∈u,z p.block=true)->DataW.TrodAll enc P I 0 z true m G ds u
 | [],[],[],_,_,h,_,_,_=>h
 | t::m,v::G,d::ds,u,D,h,J,z,hs=>by
  obtain⟨p,q,N,O,rfl⟩:=h;simp only[qP,aw,dS]at D;have R:(m.all fun t=>P.readableRec t&&decide (t<P.types.size))=true:=by simpa using D.2
  exact⟨p,q,Go.WideElems.Trod_stays hl D.1.1 D.1.2 N (fun x c=>hb.same (J x (qZ _ c))) (fun x c=>hs x (qZ _ c)),
   uI hl hb R O (fun x c=>J x (kf _ c)) z (fun x c=>hs x (kf _ c)),rfl⟩
 | [],_::_,_,_,_,h,_,_,_=>h.elim
 | [],[],_::_,_,_,h,_,_,_=>h.elim
 | _::_,[],_,_,_,h,_,_,_=>h.elim
 | _::_,_::_,[],_,_,h,_,_,_=>h.elim
theorem x_ {W : World} (h1 : ∃ m : Int, W.cell? ⟨0, 0, none⟩ = some (.int .i64 m)) (h2 : Lib.TabIs Tryz.prog W "internal/strconv.uint64pow10" .u64 Lib.pow10Tab) : Env (fun b => b < W.heap.size) W := by
 refine⟨?_,block_lt_of_cell (h2.cell Js 0 (by decide)),h1,h2⟩;obtain⟨m,hm⟩:=h1;exact block_lt_of_cell hm
theorem MA:laidOutB Tryz.prog=true:=by kernel_rfl
theorem z_{s:ByteArray}(h:s.size<=1048576):A7 s:=Nat.lt_of_le_of_lt h (by decide)
theorem G5{l:List gI}{n:Nat}(c:n<=1048576)(h:l.length<=n/\∀x∈l,x.name.size<=n):Fb l:=⟨fun x m=>z_ (bM (h.2 x m) c),bM h.1 (bM c (by decide))⟩
theorem JQ{l:List Lt}{n:Nat}(c:n<=1048576)(h:l.length<=n/\∀x∈l,x.name.size<=n):Ig l:=⟨fun x m=>z_ (bM (h.2 x m) c),bM h.1 (bM c (by decide))⟩
theorem JR{l:List Fl}{n:Nat}(c:n<=1048576)(h:l.length<=n/\∀x∈l,x.lot.size<=n):Ih l:=⟨fun x m=>z_ (bM (h.2 x m) c),bM h.1 (bM c (by decide))⟩
end M
namespace M
open Go.AM Go.RowKit Go.Lib
theorem wD{α:Type}{f:List α->α->Int}{l:List α}(h:mW f [] l=0):∀(i:Nat) (a:α),l[i]?=some a->f (l.take i) a=0:=by
 have key:∀n,n<=l.length->mW f [] l=mW f (l.take n) (l.drop n):=by
  intro n
  induction n with
  | zero=>intro _;rfl
  | succ n ih=>
   intro hn;obtain⟨a,m⟩:=a8 (l:=l) (i:=n) (by omega);have e:=ih (by omega);by_cases c:f (l.take n) a=0
   ·exact lP m e c
   exact absurd (oV m e rfl c) (by rw[h];exact fun e=>c e.symm)
 intro i a m;by_cases c:f (l.take i) a=0
 ·exact c
 exact absurd (oV m (key i (by have:=ah m;omega)) rfl c) (by rw[h];exact fun e=>c e.symm)
theorem oY{n c m:Int}:pK n c m=true↔c<=n/\n<=m:=by simp[pK]
theorem ya{α:Type}{f:α->ByteArray}{l:List α}(h:∀i a b,l[i]?=some a->l[i+1]?=some b->kT (f a) (f b)=true):gL f l:=by
 have key:∀d i a b,l[i]?=some a->l[i+1+d]?=some b->kT (f a) (f b)=true:=by
  intro d
  induction d with
  | zero=>exact h
  | succ d ih=>
   intro i a b u hb;obtain⟨c,m⟩:=a8 (l:=l) (i:=i+1+d) (by have:=ah hb;omega);exact iA (ih i a c u m) (h _ c b m hb)
 refine wj.2 fun i j z D F8=>?_;exact key (j-i-1) i _ _ (aM z) (by rw[show i+1+(j-i-1)=j by omega];exact aM D)
variable {l:List Lt}
theorem oZ(h:cA l=0):l.length<=100/\gL Lt.name l/\∀x∈l,jh x.name=true/\(1<=x.panels/\x.panels<=200)/\(0<=x.at_/\x.at_<=1000000000):=by
 unfold cA at h;split at h
 ·cases h
 rename_i hlen;have m:=wD h;have one:∀(i:Nat) (x:Lt),l[i]?=some x->jh x.name=true/\(pK x.panels 1 200=true/\pK x.at_ 0 1000000000=true)/\(∀y,(l.take i).getLast?=some y->kT y.name x.name=true):=fun i x c=>by
  have:=m i x c;unfold fq at this;split at this
  ·rename_i w;split at this
   ·rename_i r;refine⟨w,r,fun y u=>?_⟩;rw[u]at this;simp only at this;split at this
    ·assumption
    cases this
   cases this
  cases this
 refine⟨by omega,ya fun i a b z hb=>?_,fun x c=>?_⟩
 ·exact (one (i+1) b hb).2.2 a (Bn (by omega) (by simpa using z))
 obtain⟨i,D⟩:=cf.1 c;obtain⟨w,r,_⟩:=one i x D;exact⟨w,oY.1 r.1,oY.1 r.2⟩
theorem o5{l:List gI}(h:cz l=0):(0<l.length/\l.length<=30)/\∀(i:Nat) (s:gI),l[i]?=some s->jh s.name=true/\(1<=s.minutes/\s.minutes<=10000)/\(1<=s.machines/\s.machines<=20)/\(-1<=s.back/\s.back<=i):=by
 unfold cz at h;split at h
 ·cases h
 split at h
 ·cases h
 refine⟨by omega,fun i s hs=>?_⟩;have:=wD h i s hs;unfold eK at this;split at this
 ·rename_i w;split at this
  ·cases this
  split at this
  ·rename_i r;have e:(l.take i).length=i:=by rw[cu];have:=ah hs;omega
   rw[e]at r;exact⟨w,oY.1 r.1,oY.1 r.2.1,oY.1 r.2.2⟩
  cases this
 cases this
theorem yb{l:List Fl}{f:Fl}(h:¬l.any (sT f)=true):qB ((mL l).map Bz) (FG f) (.im (.bool true))=(mL (l++[f])).map Bz:=by
 induction l with
 | nil=>rfl
 | cons g l ih=>
  rw[wi,qV,not_or]at h;have e:yx (FG f) (FG g)=false:=by
   rw[EW];simp only[sT,dS]at h;simp only[v7];exact fun c=>h.1 ⟨c.1.symm,c.2.1.symm,c.2.2.1.symm,c.2.2.2.symm⟩
  have:=ih h.2;unfold mL at this ⊢;simp only[aV,uV,qB,Bz];rw[e];simp only;rw[<-this]
theorem Fc(l:List Fl)(f:Fl):pc ((mL l).map Bz) (FG f)=match l.any (sT f) with | true=>some (.im (.bool true)) | false=>none:=Bk ⟨[],[],l,[]⟩ f
variable {k:Nat}
theorem CP{f:Fl}(hs:gL Lt.name l){y:Lt}(m:l[k]?=some y)(u:y.name=f.lot):pQ l f=pK f.panel 0 (y.panels-1):=by
 unfold pQ;rw[gU,ia];constructor
 ·rintro⟨x,z,hp⟩;simp only[aw,dS]at hp;obtain⟨i,c⟩:=cf.1 z;have e:i=k:=by
   rcases vp i k with h | h | h
   ·have:=c_ hs c m h;rw[hp.1,u,db]at this;cases this
   ·exact h
   have:=c_ hs m c h;rw[hp.1,u,db]at this;cases this
  subst e;rw[m]at c;injection c with c;rw[c];exact hp.2
 intro h;exact⟨y,aj m,by simp[u,h]⟩
theorem CQ{l:List Lt}{f:Fl}(h:sR Lt.name l f.lot<0):pQ l f=false:=by
 have c:=E7 (f:=Lt.name) (l:=l) (x:=f.lot);rw[wk h]at c;have m:tD Lt.name l f.lot=false:=by simpa using c.symm
 rw[cr];intro u;obtain⟨x,z,hp⟩:=ia.1 u;simp only[aw,dS]at hp;rw[gO.2 ⟨x,z,hp.1⟩]at m;cases m
theorem jP(s:List gI)(l:List Lt)(b:List Fl)(hs:0<s.length/\s.length<=30)(hl:cA l=0)(hN:b.length<=140737488355328):aT C 16 [.pv (.sl (s.map gq)),.pv (.sl (l.map jK)),.pv (.sl (b.map CJ))] (.p (i64 (de s l b))) []:=by
 refine fW hC Tryz.func16 rfl (by kernel_rfl) fun _=>?_;have lm:=cH b CJ;have J:=cH s gq;obtain⟨l1,N,l3⟩:=oZ hl;apply iW<;>intro g1<;>try simp only[zB]at g1
 ·refine⟨?_,trivial⟩;rw[de,ae (by omega)];rfl
 rw[de,af (by omega)];refine d_ (fun i:Nat=>i<=b.length/\mW (fX s l) [] b=mW (fX s l) (b.take i) (b.drop i)) (fun i=>[(0,.p (.sl (s.map gq))),(1,.p (.sl (l.map jK))),(7,.ow 14),(15,.p (.sl (b.map CJ))),(16,.p (i64 b.length)),(17,.p (i64 i))]) (fun i=>[(14,.map (.st [0,1,1,1]) ((mL (b.take i)).map Bz))]) (fun i=>b.length-i) 0 _ (aY.refl _ _) ⟨bd _,rfl⟩ ⟨rfl,rfl,rfl,rfl,aa (fun n:Nat=>AV.p (i64 n)) lm,Z,Y⟩ ⟨Z,Y⟩ fun i z t h=>?_;apply iW<;>intro h1<;>try simp only[zB]at h1
 ·obtain⟨f,m⟩:=a8 (l:=b) (i:=i) (by omega);have bad:∀c:Int,fX s l (b.take i) f=c->c≠0->mW (fX s l) [] b=c:=fun c=>oV m z.2;have D:¬(pQ l f=true/\pK f.step 0 (s.length-1)=true)->mW (fX s l) [] b=9:=fun h=>bad 9 (by rw[fX,af h]) (by decide);refine⟨(CJ f),(idx rfl m),_,_,(x7 l f.lot N (by omega)),iW ?_ ?_⟩<;>intro O<;>try simp only[zB]at O
  ·refine⟨?_,trivial⟩;rw[D (fun h=>by rw[CQ O]at h;cases h.1)];rfl
  obtain⟨k,y,hk,G,hn⟩:=E6 (f:=Lt.name) (l:=l) (x:=f.lot) (by omega);have R:=CP N G hn;have hp:=(l3 y (aj G)).2.1;refine⟨(jK y),(idx (show max (sR Lt.name l f.lot) 0=(k:Int) by rw[hk];omega) G),wO (by omega),_,_,(cI f.panel 0 (y.panels-1)),iW ?_ ?_⟩<;>intro U<;>try simp only[zB]at U
  ·refine⟨?_,trivial⟩;rw[D (fun h=>by rw[R]at h;simp_all)];rfl
  refine⟨wO (by omega),?_⟩;have V:=cI f.step 0 (s.length-1);rw[<-J]at V;refine⟨_,_,V,iW ?_ ?_⟩<;>intro W<;>try simp only[zB]at W
  ·refine⟨?_,trivial⟩;rw[D (fun h=>by simp_all)];rfl
  have I:pQ l f=true/\pK f.step 0 (s.length-1)=true:=⟨by rw[R];simpa using U,by rw[<-J];simpa using W⟩;refine⟨_,_,(cI f.visit 1 6),iW ?_ ?_⟩<;>intro h5<;>try simp only[zB]at h5
  ·refine⟨?_,trivial⟩;rw[bad 1 (by rw[fX,ae I,af (by simp_all)]) (by decide)];rfl
  have w2:pK f.visit 1 6=true:=by simpa using h5
  have u:=Fc (b.take i) f;cases hq:(b.take i).any (sT f) with
  | true=>
   rw[hq]at u;refine⟨(some (.im (.bool true))),u,?_,trivial⟩;rw[bad 7 (by rw[fX,ae I,ae w2,ae hq]) (by decide)];rfl
  | false=>
   rw[hq]at u;refine⟨none,u,?_⟩;have hm:=yb (l:=b.take i) (f:=f) (by rw[hq];decide);have ht:=bT m;exact⟨wO (by omega),(i+1),_,aY.refl _ _,⟨by omega,lP m z.2 (by rw[fX,ae I,ae w2,af (by rw[hq];decide)])⟩,by omega,⟨Z,Z,Z,Z,Z,Z,Y⟩,⟨by rw[ht];exact aa (AB.map _) hm,trivial⟩⟩
 refine⟨?_,trivial⟩;rw[wx (by omega) z.2];rfl
open Go.Sort
instance:Inhabited dQ:=⟨⟨.empty,0,0,0,0,0,false⟩⟩
def qv(d:dQ):List Value:=[.string d.lot,.int .i64 d.panel,.int .i64 d.step,.int .i64 d.machine,.int .i64 d.from_,.int .i64 d.till,.bool d.good]
theorem o6(l:List dQ):bG (l.map qv)=l.map dc:=by
 unfold bG;rw[vz];exact ou fun r _=>rfl
theorem rz{l:List dQ}:∀r∈l.map qv,r.length=7:=by
 intro r c;obtain⟨x,_,rfl⟩:=aR.1 c;rfl
theorem yc(d:Array dQ):flatK qv 7 d=(d.toList.map qv).flatten.toArray:=by
 apply Array.ext_getElem?;intro q;have hlen:(d.toList.map qv).flatten.length=d.size*7:=by rw[lQ (k:=7) rz];simp
 by_cases u:q<d.size*7
 ·have c:q / 7<d.size:=by omega
  have z:q % 7<7:=nK _ (by omega);have e:q / 7*7+q % 7=q:=by omega
  have D:=get_flatK qv 7 d q u;have hsz:(flatK qv 7 d).size=d.size*7:=by simp
  rw[bE (by omega),<-getElem!_pos (flatK qv 7 d) q (by omega),D];have G:(d.toList.map qv)[q / 7]?=some (qv d[q / 7]!):=by
   rw[ao,gy,bE c,eM,getElem!_pos d _ c]
  have I:(qv d[q / 7]!)[q % 7]?=some ((qv d[q / 7]!)[q % 7]!):=by
   have m:q % 7<(qv d[q / 7]!).length:=z;rw[aM m,getElem!_pos (qv d[q / 7]!) (q % 7) m]
  have:=wA (k:=7) rz G I;rw[e]at this;simpa using this.symm
 rw[wz (by simp;omega),wz (by simp only[lV];omega)]
theorem Nl(a b:dQ):ltOf tB a b=!H6 b a:=ES a b
theorem MB:SWO (ltOf tB) where
 irrefl x:=by rw[Nl];simp[H6]
 trans x y z h1 h2:=by
  rw[Nl]at *;simp only[H6,vn,v7]at *;omega
 ntrans x y z h1 h2:=by
  rw[Nl]at *;simp only[H6,Bool.not_eq_false',dS]at *;omega
def iO(l:List dQ):List dQ:=(pdq (ltOf tB) l.toArray 0 l.toArray.size (Lib.bitLen l.toArray.size) true true).toList
theorem sV(l:List dQ):(iO l).Perm l/\(iO l).Pairwise fun a b=>H6 a b=true:=by
 obtain⟨D,G⟩:=pdq_sorts (ltOf tB) MB l.toArray 0 l.toArray.size (Lib.bitLen l.toArray.size) true true (bd _) (aC _) (Or.inl rfl);obtain⟨I,_,u⟩:=D;have hp:(iO l).Perm l:=by
  have z:∀d:Array dQ,d.size=l.toArray.size->(d.extract 0 l.toArray.size).toList=d.toList:=fun d h=>by rw[<-h];simp
  rw[z _ I,z _ rfl]at u;unfold iO;simpa using u
 refine⟨hp,?_⟩;rw[wj];intro i j c m J;have hs:(iO l).length=l.toArray.size:=by rw[hp.length_eq];simp
 have:=G i j (bd _) J (by omega);unfold iO at c m ⊢;simp only[gx]at c m;rw[getElem!_pos _ j m,getElem!_pos _ i c,Nl]at this;simpa using this
theorem Pr(n:Int)(W:World):Calls Tryz.prog 78 #[.int .i64 n] W fun e w'=>e=.returned (.bool false)/\w'=W:=by
 go_enter Tryz.func78,Tryz.ntmps78
 go_wp2
 go_ret
 exact⟨by simp,rfl⟩
theorem JS(a b:Int)(W:World):Calls Tryz.prog 46 #[.int .i64 a,.int .i64 b] W fun e w'=>e=.returned (.int .i64 (jI a b))/\w'=W:=by
 go_enter Tryz.func46,Tryz.ntmps46
 go_wp2_with (go_at_call 78;refine (Pr _ _).mono ?_;rintro e w' ⟨rfl,c⟩;rw[c])
 all_goals (go_ret;refine⟨?_,rfl⟩;unfold jI;(repeat' split)<;>first | rfl | (exfalso;omega))
theorem G6(W:World)(bH:Nat)(a b d:Int)(h0:W.cell? ⟨bH,0,none⟩=some (.int .i64 a))(h1:W.cell? ⟨bH,1,none⟩=some (.int .i64 b))(h2:W.cell? ⟨bH,2,none⟩=some (.int .i64 d))(c:Nat):Calls Tryz.prog 45 #[.slice (some ⟨bH,0,none⟩) 3 c] W fun e w'=>e=.returned (.int .i64 (A6 [a,b,d]))/\w'=W:=by
 simp only[A6]
 go_enter Tryz.func45,Tryz.ntmps45
 go_wp2
 go_loop [8] (fun i=>∃k:Nat,k<=3/\i=.int .i64 k/\(0<k->a=0)/\(1<k->b=0)/\(2<k->d=0)) (fun i=>3-(intOf i).toNat)
 case atStart=>exact⟨0,by omega,rfl,fun h=>by omega,fun h=>by omega,fun h=>by omega⟩
 case round=>
  obtain⟨k,hk,rfl,m,z,D⟩:=hrel;rcases (show k=0\/k=1\/k=2\/k=3 by omega) with rfl | rfl | rfl | rfl
  ·by_cases e:a=0
   ·subst e
    go_wp2
    go_round
    case rel=>exact⟨1,by omega,by go_num,fun _=>by trivial,fun h=>by omega,fun h=>by omega⟩
    case measure=>simp[intOf]
   go_wp2
   go_ret
   exact⟨by first | rfl | simp[e],rfl⟩
  ·have e:=m (by omega);subst e;by_cases e:b=0
   ·subst e
    go_wp2
    go_round
    case rel=>exact⟨2,by omega,by go_num,fun _=>by trivial,fun _=>by trivial,fun h=>by omega⟩
    case measure=>simp[intOf]
   go_wp2
   go_ret
   exact⟨by first | rfl | simp[e],rfl⟩
  ·have e:=m (by omega);have u:=z (by omega);subst e;subst u;by_cases e:d=0
   ·subst e
    go_wp2
    go_round
    case rel=>exact⟨3,by omega,by go_num,fun _=>by trivial,fun _=>by trivial,fun _=>by trivial⟩
    case measure=>simp[intOf]
   go_wp2
   go_ret
   exact⟨by first | rfl | simp[e],rfl⟩
  have e:=m (by omega);have u:=z (by omega);have G:=D (by omega);subst e;subst u;subst G
  go_wp2
  go_ret
  exact⟨rfl,rfl⟩
theorem Ff(x y:dQ)(W:World):Calls Tryz.prog 20 #[.agg (qv x).toArray,.agg (qv y).toArray] W fun e w'=>e=.returned (.int .i64 (tB x y))/\∃q R_,w'=grow (W.drewN q) R_:=by
 unfold qv tB;obtain⟨Y,Z,D,G,I,a6,a7⟩:=x;obtain⟨b1,b2,J,N,O,b6,b7⟩:=y;simp only
 go_enter Tryz.func20,Tryz.ntmps20
 obtain⟨R,QA⟩:∃o,o=Obj.cells #[Value.string Y,Value.int IntKind.i64 Z,Value.int IntKind.i64 D,Value.int IntKind.i64 G,Value.int IntKind.i64 I,Value.int IntKind.i64 a6,Value.bool a7] 34:=⟨_,rfl⟩;obtain⟨U,QB⟩:∃o,o=Obj.cells #[Value.string b1,Value.int IntKind.i64 b2,Value.int IntKind.i64 J,Value.int IntKind.i64 N,Value.int IntKind.i64 O,Value.int IntKind.i64 b6,Value.bool b7] 34:=⟨_,rfl⟩;obtain⟨c,m⟩:∃w3,w3=({ ((W.alloc R).alloc U) with drawn:=((W.alloc R).alloc U).drawn+1 }:World):=⟨_,rfl⟩;have hs:c.heap.size=W.heap.size+2:=by rw[m];exact (fT ..).trans (aa (·+1) (fT ..))
 have u:∀(i:Nat) v,#[Value.string Y,Value.int IntKind.i64 Z,Value.int IntKind.i64 D,Value.int IntKind.i64 G,Value.int IntKind.i64 I,Value.int IntKind.i64 a6,Value.bool a7][i]?=some v->c.cell? ⟨W.heap.size,i,none⟩=some v:=fun i v V=>by
  rw[m];refine (World.cell?_alloc_past (w:=W.alloc _) _ _ _ (by rw[show (W.alloc _).heap.size=W.heap.size+1 from fT ..];omega)).trans ?_;rw[QA];exact (ji _ _ _ _ rfl).trans V
 have c1:∀(i:Nat) v,#[Value.string b1,Value.int IntKind.i64 b2,Value.int IntKind.i64 J,Value.int IntKind.i64 N,Value.int IntKind.i64 O,Value.int IntKind.i64 b6,Value.bool b7][i]?=some v->c.cell? ⟨W.heap.size+1,i,none⟩=some v:=fun i v V=>by
  rw[m];rw[QB];exact (ji (w:=W.alloc _) _ _ _ _ (fT ..).symm).trans V
 have d4:=u 4 _ rfl;have d2:=u 2 _ rfl;have d3:=u 3 _ rfl;have e4:=c1 4 _ rfl;have e2:=c1 2 _ rfl;have e3:=c1 3 _ rfl;clear u c1;have z:c=grow (W.drewN 1) #[R,U]:=by
  rw[m,alloc_eq_grow,alloc_eq_grow,grow_grow];rfl
 have HG:=Lib.hid z;clear z
 go_wp2_with fail
 refine wp_region_still_tail 15 (by kernel_rfl) (by kernel_rfl) ?_;rw[<-QA,<-QB,<-m];clear m;simp only[c8,rq,List.drop_succ_cons,List.drop_zero]
 repeat still_step
 still_call (JS I O c)
 repeat still_step
 still_call (JS D J c)
 repeat still_step
 still_call (JS G N c)
 refine wpStill_nil ?_
 go_wp2_with (go_at_call 45;refine (G6 _ _ _ _ _ (ji _ _ _ _ (by omega)) (ji _ _ _ _ (by omega)) (ji _ _ _ _ (by omega)) _).mono ?_;rintro e w' ⟨rfl,hw⟩;rw[hw])
 go_ret
 have z:=HG.out;exact⟨rfl,1,_,by rw[z,alloc_eq_grow,grow_grow]⟩
theorem yd(l:List dQ)(N:l.length<4611686018427387904):aT C 19 [.row 34 (l.map dc),.pv (.im (.func (.func 20) #[] #[]))] (.tu []) [.row ((iO l).map dc)]:=by
 obtain⟨hp,_⟩:=sV l;have O:=enters_of Tryz.func20 (by kernel_rfl) rfl;have:=z6 hC (f:=19) 34 _ rfl (by decide) [.func (.func 20) #[] #[]] (l.map qv) ((iO l).map qv) rz rz (by rw[aB,aB,hp.length_eq])
  (fun r R v c=>by
   obtain⟨x,_,rfl⟩:=aR.1 R;simp only[qv,fK,List.not_mem_nil,or_false]at c;rcases c with rfl | rfl | rfl | rfl | rfl | rfl | rfl<;>rfl)
  ⟨_,Tryz.func19,rfl,rfl⟩
  (fun _ w=>AnyF.slices_SortFunc_none Tryz.laysSortDoing none 0 (.func (.func 20) #[] #[]) w)
  (fun S w bH D hE u _ m=>by
   have U:HoldsK qv 7 w bH 0 l.toArray:=by
    unfold HoldsK;intro j z;rw[yc]at z ⊢;simp only[lV]at z;have c:(l.map qv).flatten[j]?=some ((l.map qv).flatten[j]'z):=aM z;obtain⟨G,I⟩:=m j _ c;rw[cV];refine⟨?_,I⟩;rw[G];congr 1;rw[getElem!_pos _ j (by simpa using z)];simp
   have J:=AnyQ.slices_SortFunc_eq Tryz.laysSortDoing 7 (fun w=>(hC.eL 34 _ rfl).isAgg w) (fun w=>(hC.eL 34 _ rfl).sizeOf w) qv (fun _=>rfl) (fun x v c=>by
    simp only[qv,fK,List.not_mem_nil,or_false]at c;rcases c with rfl | rfl | rfl | rfl | rfl | rfl | rfl<;>rfl) tB MB 20 #[] bH 0 D l.toArray w O (fun _ _ _ _ x y=>Ff x y _) U u (by simpa using N)
   have e:l.toArray.size=(l.map qv).length:=by simp
   rw[e]at J;refine J.mono fun e' w' ⟨G,n,os,I⟩=>⟨G,n,os,?_⟩;rw[I];unfold sortWorldK putRowK tF;rw[yc,<-e];rfl)
 rw[o6,o6]at this;exact this
variable {s:List gI}
theorem CR{b:List Fl}(h:de s l b=0){i:Nat}{f:Fl}(c:b[i]?=some f):¬(b.take i).any (sT f)=true:=by
 unfold de at h;split at h
 ·cases h
 have:=wD h i f c;unfold fX at this;split at this
 ·split at this
  ·split at this
   ·cases this
   assumption
  cases this
 cases this
def mX(x:gI):List Bool:=List.replicate x.machines.toNat false
def qx(s:List gI)(x:Lt)(k:Nat):lH:=⟨0,0,0,List.replicate s.length 0,⟨x.name,k,false,0,0⟩⟩
def iP(s:List gI)(x:Lt)(n:Nat):List lH:=(List.range n).map (qx s x)
def gh(s:List gI)(l:List Lt):List lH:=l.flatMap fun x=>iP s x x.panels.toNat
def jj(a:Int)(i:Nat):Nat->List Wt->List Wt
 | 0,Q=>Q
 | k+1,Q=>eH (jj a i k Q) (a,(i:Int),(k:Int))
def dh(l:List Lt):Nat->List Wt
 | 0=>[]
 | i+1=>match l[i]? with
  | some x=>jj x.at_ i x.panels.toNat (dh l i)
  | none=>dh l i
theorem pT(a:Int)(i:Nat):∀(k:Nat) (Q:List Wt),(jj a i k Q).length=Q.length+k
 | 0,Q=>rfl
 | k+1,Q=>by rw[jj,pN,pT a i k Q];omega
theorem pU(h:∀x∈l,x.panels<=200):∀i,(dh l i).length<=200*i
 | 0=>aC _
 | i+1=>by
  have ih:=pU h i;unfold dh;split
  ·rename_i x c;have:=h x (aj c);rw[pT];omega
  omega
def tH(g:Nat):List HX:=[.av (.p (ptr g))]
theorem Bp(d:Nat)(l:List Nat):(l.map tH).map (fun r=>r.map (HX.eS (sc d)))=l.map tH:=by
 rw[vz];rfl
theorem Bq(i d:Nat)(l:List Nat):(l.map tH).map (fun r=>r.map (HX.eS (rn i d)))=l.map tH:=by
 rw[vz];rfl
def Fg(gs:List (List Nat)):List (List PV):=gs.map fun r=>[CE r]
def cQ(s:List gI)(Q:List Wt):List (List Wt):=(List.replicate s.length ([]:List Wt)).set 0 Q
theorem G7(l:List Nat):Kf (l.map tH) (l.map fun g=>[ptr g]):=Kf.map fun g _=>⟨rfl,fun j u v c m=>by
 cases j with
 | zero=>
  simp[tH]at c m;subst c;subst m;exact .p _
 | succ j=>simp[tH]at c⟩
theorem qy(h:0<s.length)(Q:List Wt):(cQ s Q)[0]?=some Q:=by
 rw[cQ,aP (by simpa using h)]
theorem ye(s:List gI)(Q c:List Wt):(cQ s Q).set 0 c=cQ s c:=by
 rw[cQ,wg];rfl
theorem lS(s:List gI)(Q:List Wt):(cQ s Q).length=s.length:=by
 rw[cQ,aF,di]
theorem Aa{i:Nat}{x:Lt}(h:l[i]?=some x):gh s (l.take (i+1))=gh s (l.take i)++iP s x x.panels.toNat:=by
 rw[bT h,gh,List.flatMap_append];simp[gh]
theorem Ab(s:List gI)(x:Lt)(k:Nat):iP s x (k+1)=iP s x k++[qx s x k]:=by
 rw[iP,List.range_succ,dJ];rfl
theorem Fh{A:List Nat}{B:List lH}(h:A.length=B.length)(g:Nat)(j:lH):nz (A++[g]) (B++[j])=nz A B++[(g,pL j)]:=by
 rw[nz,List.zipWith_append h];rfl
theorem mB{s:List gI}:∀{l:List Lt} {gs:List (List Nat)},gs.map List.length=l.map (fun x=>x.panels.toNat)->gs.flatten.length=(gh s l).length
 | [],[],_=>rfl
 | [],_::_,h=>by cases h
 | _::_,[],h=>by cases h
 | x::l,r::gs,h=>by
  simp only[aV,List.cons.injEq]at h;have:=mB (s:=s) h.2;simp only[gh,dA,v_,bZ]at this ⊢;rw[this,h.1];simp[iP]
theorem bz.iU{st:Stat}:∀(n:Nat) {x:a_},bz st x->bz st (M.iU n st x)
 | 0,x,h=>h
 | n+1,x,h=>by
  obtain⟨c,f2,m⟩:=h.fy;unfold M.iU;split
  ·rename_i a u;exact bz.iU n (c.next m u).1
  exact c.start.1
theorem bz.iV{st:Stat}{x:a_}(h:bz st x):bz st (M.iV st x):=bz.iU _ h
theorem Fi{gs:List (List Nat)}{i:Nat}{r:List Nat}(h:gs[i]?=some r):pos gs (i+1) 0=pos gs i r.length:=by
 rw[pos,pos,bT h,dJ,List.sum_append];simp
theorem G8(gs:List (List Nat)):pos gs gs.length 0=gs.flatten.length:=by
 rw[pos,oX,List.length_flatten];rfl
theorem yf{s:List gI}:∀{l:List Lt},(∀x∈l,x.panels<=200)->(gh s l).length<=200*l.length
 | [],_=>aC _
 | x::l,h=>by
  have ih:=yf (s:=s) fun y c=>h y (cg _ c);have:=h x aW;simp only[gh,dA,bZ,cD]at ih ⊢;have e:(iP s x x.panels.toNat).length=x.panels.toNat:=by simp[iP]
  omega
def fY(s:List gI)(l:List Lt):a_:=⟨gh s l,cQ s (dh l l.length),[],s.map mX,0,[]⟩
variable {sW:List (List Nat)}
theorem wE{b:List Fl}{gs:List (List Nat)}(h:gs.map List.length=sW.map List.length)(w:Wt):bU ⟨s,l,b,gs⟩ w=bU ⟨s,l,b,sW⟩ w:=by
 simp only[bU,pos];rw[wy,wy,h]
theorem G9{b:List Fl}{gs:List (List Nat)}(h:gs.map List.length=sW.map List.length)(x:a_):eI ⟨s,l,b,gs⟩ x=eI ⟨s,l,b,sW⟩ x:=by
 unfold eI;simp only[wE h];rfl
theorem JT{b:List Fl}{gs:List (List Nat)}(h:gs.map List.length=sW.map List.length)(x:a_):fx ⟨s,l,b,gs⟩ x=fx ⟨s,l,b,sW⟩ x:=by
 funext w;unfold fx;rw[wE h]
theorem Fj{b:List Fl}{gs:List (List Nat)}(h:gs.map List.length=sW.map List.length)(x:a_):eW ⟨s,l,b,gs⟩ x=eW ⟨s,l,b,sW⟩ x:=by
 unfold eW;rw[JT h]
theorem Br{b:List Fl}{gs:List (List Nat)}(h:gs.map List.length=sW.map List.length):∀(n:Nat) (x:a_),kz n ⟨s,l,b,gs⟩ x=kz n ⟨s,l,b,sW⟩ x
 | 0,x=>rfl
 | n+1,x=>by
  unfold kz;rw[G9 h];split
  ·exact Br h n _
  rfl
theorem CS{b:List Fl}{gs:List (List Nat)}(h:gs.map List.length=sW.map List.length)(i:Nat)(x:a_):du ⟨s,l,b,gs⟩ i x=du ⟨s,l,b,sW⟩ i x:=by
 unfold du;simp only[wE h]
theorem uJ{b:List Fl}{gs:List (List Nat)}(h:gs.map List.length=sW.map List.length)(i:Nat):∀(n:Nat) (x:a_),eo n ⟨s,l,b,gs⟩ i x=eo n ⟨s,l,b,sW⟩ i x
 | 0,x=>rfl
 | n+1,x=>by
  unfold eo;rw[CS h];split
  ·exact uJ h i n _
  rfl
theorem CT{b:List Fl}{gs:List (List Nat)}(h:gs.map List.length=sW.map List.length)(x:a_):bV ⟨s,l,b,gs⟩ x=bV ⟨s,l,b,sW⟩ x:=by
 have e:(fun x i=>dE ⟨s,l,b,gs⟩ i x)=(fun x i=>dE ⟨s,l,b,sW⟩ i x):=by
  funext x i;exact uJ h i _ x
 unfold bV;rw[e]
theorem G_{b:List Fl}{gs:List (List Nat)}(h:gs.map List.length=sW.map List.length)(x:a_):fy ⟨s,l,b,gs⟩ x=fy ⟨s,l,b,sW⟩ x:=by
 unfold fy;rw[Fj h];exact Br h _ x
theorem Bs{b:List Fl}{gs:List (List Nat)}(h:gs.map List.length=sW.map List.length):∀(n:Nat) (x:a_),iU n ⟨s,l,b,gs⟩ x=iU n ⟨s,l,b,sW⟩ x
 | 0,x=>rfl
 | n+1,x=>by
  unfold iU;rw[G_ h,CT h];split
  ·exact Bs h n _
  rfl
theorem Ha{b:List Fl}{gs:List (List Nat)}(h:gs.map List.length=sW.map List.length)(x:a_):iV ⟨s,l,b,gs⟩ x=iV ⟨s,l,b,sW⟩ x:=by
 unfold iV;rw[Fj h];exact Bs h _ x
theorem uK{a:Int}{i:Nat}:∀{k:Nat} {Q:List Wt} {w:Wt},w∈jj a i k Q->w∈Q\/∃m,m<k/\w=(a,(i:Int),(m:Int))
 | 0,Q,w,h=>.inl h
 | k+1,Q,w,h=>by
  rcases gu h with h | rfl
  ·rcases uK h with h | ⟨m,h1,c⟩
   ·exact .inl h
   exact .inr ⟨m,by omega,c⟩
  exact .inr ⟨k,by omega,rfl⟩
theorem pV:∀{i:Nat} {w:Wt},w∈dh l i->∃(n:Nat) (x:Lt) (m:Nat),n<i/\l[n]?=some x/\m<x.panels.toNat/\w=(x.at_,(n:Int),(m:Int))
 | 0,w,h=>by cases h
 | i+1,w,h=>by
  unfold dh at h;split at h
  ·rename_i x z;rcases uK h with h | ⟨m,u,c⟩
   ·obtain⟨n,y,m,u,c⟩:=pV h;exact⟨n,y,m,by omega,c⟩
   exact⟨i,x,m,by omega,z,u,c⟩
  obtain⟨n,y,m,u,c⟩:=pV h;exact⟨n,y,m,by omega,c⟩
theorem sX{a:Int}{i:Nat}:∀(k:Nat) {Q:List Wt},Heap Q->Heap (jj a i k Q)
 | 0,Q,h=>h
 | k+1,Q,h=>nB _ (sX k h)
theorem sY:Heap []:=fun c a b _ h=>by simp at h
theorem nE(l:List Lt):∀i,Heap (dh l i)
 | 0=>sY
 | i+1=>by
  unfold dh;split
  ·exact sX _ (nE l i)
  exact nE l i
def Nn(p:Int×Int)(w:Wt):Nat:=if w.2=p then 1 else 0
theorem uL(p:Int×Int)(a:Int)(i:Nat):∀(k:Nat) (Q:List Wt),bK (Nn p) (jj a i k Q)=bK (Nn p) Q+(if p.1=i/\0<=p.2/\p.2<k then 1 else 0)
 | 0,Q=>by
  rw[af (by omega)];rfl
 | k+1,Q=>by
  rw[jj,jM,uL p a i k Q];obtain⟨p1,p2⟩:=p;simp only[Nn,Prod.mk.injEq]
  repeat' split
  all_goals omega
theorem uM(p:Int×Int)(l:List Lt):∀i,bK (Nn p) (dh l i)<=if 0<=p.1/\p.1<i then 1 else 0
 | 0=>by rw[dh];simp[bK]
 | i+1=>by
  have ih:=uM p l i;unfold dh;split
  ·rw[uL]
   repeat' split
   all_goals (repeat' split at ih)
   all_goals omega
  repeat' split
  all_goals (repeat' split at ih)
  all_goals omega
theorem JU(f:Wt->Nat)(n:Nat):eJ f (List.replicate n [])=0:=by
 induction n with
 | zero=>rfl
 | succ n ih=>simp only[eJ,l_,aV,fU]at ih ⊢;rw[ih];rfl
theorem Hb(h:0<s.length)(f:Wt->Nat)(Q:List Wt):eJ f (cQ s Q)=bK f Q:=by
 have c:=jN (f:=f) (l:=List.replicate s.length ([]:List Wt)) (i:=0) (q:=[]) Q (by rw[vA,ae h]);rw[JU]at c;have h2:bK f []=0:=rfl;rw[cQ];omega
theorem Bt{f:Wt->Nat}{c:Nat}:∀{l:List Wt},(∀w∈l,f w<=c)->bK f l<=c*l.length
 | [],_=>bd _
 | a::l,h=>by
  have m:=Bt (l:=l) fun w u=>h w (cg _ u);have h2:=h a aW;simp only[bK,aV,fU,cD,Nat.mul_add,Nat.mul_one]at m ⊢;omega
theorem CU{j:lH}(h:j∈gh s l):∃x∈l,∃k,k<x.panels.toNat/\j=qx s x k:=by
 simp only[gh,q9,iP,aR,fR]at h;obtain⟨x,c,k,m,rfl⟩:=h;exact⟨x,c,k,m,rfl⟩
variable {q:List Wt}
theorem lT{Q:List Wt}(h:q∈cQ s Q):q=[]\/q=Q:=by
 rcases cw h with h | h
 ·exact .inl (qM h)
 exact .inr h
theorem Ac{Q:List Wt}{i:Nat}(h:(cQ s Q)[i]?=some q):(i=0/\q=Q)\/q=[]:=by
 by_cases e:i=0
 ·subst e;have hl:0<s.length:=by have:=ah h;rw[lS]at this;exact this
  rw[qy hl]at h;injection h with h;exact .inl ⟨rfl,h.symm⟩
 rw[cQ,bw (fun h=>e h.symm),vA]at h;split at h
 ·injection h with h;exact .inr h.symm
 cases h
theorem bz.zero{s:List gI}{l:List Lt}{b:List Fl}{gs:List (List Nat)}(h1:cz s=0)(h2:cA l=0)(R:gs.map List.length=l.map fun x=>x.panels.toNat):bz ⟨s,l,b,gs⟩ (fY s l):=by
 obtain⟨s1,s2⟩:=o5 h1;obtain⟨l1,l2,Y⟩:=oZ h2;have QC:gs.length=l.length:=by simpa using aa List.length R
 have kX:=mB (s:=s) R;have Fw:=pU (l:=l) (fun x G=>(Y x G).2.1.2) l.length;have ok:∀w∈dh l l.length,yq ⟨s,l,b,gs⟩ w/\0<=w.1/\w.1<=1000000000:=fun w u=>by
  obtain⟨n,x,m,N,J,Z,rfl⟩:=pV u;obtain⟨r,hr⟩:=a8 (l:=gs) (i:=n) (by omega);have e:r.length=x.panels.toNat:=by
   have z:(gs.map List.length)[n]?=some r.length:=by rw[ao,hr];rfl
   rw[R,ao,J]at z;injection z with z;exact z.symm
  obtain⟨g,xd⟩:=a8 (l:=r) (i:=m) (by omega);exact⟨⟨n,m,r,g,rfl,rfl,hr,xd⟩,(Y x (aj J)).2.2⟩
 have U:∀(n:Nat) (j:lH),(gh s l)[n]?=some j->j.step=0/\j.visits.length=s.length/\(∀v∈j.visits,v=0)/\j.made.rework=0:=fun n j D=>by
  obtain⟨x,_,k,_,rfl⟩:=CU (aj D);exact⟨rfl,by simp[qx],fun v V=>qM V,rfl⟩
 have BU:∀f:Wt->Nat,eJ f (fY s l).queues=bK f (dh l l.length):=fun f=>Hb s1.1 f _;have JF:∀w,fx ⟨s,l,b,gs⟩ (fY s l) w<=180:=fun w=>by
  unfold fx;split
  ·rename_i j D;obtain⟨z,_,_,O⟩:=U _ j D;rw[z,O];show (5-0:Int).toNat*s.length+(s.length-0)<=180;have:(5-0:Int).toNat=5:=rfl;rw[this];omega
  omega
 have JD:eW ⟨s,l,b,gs⟩ (fY s l)<=lL:=by
  have e0:lL=15000000:=rfl;have b1:bK (fun w=>4*fx ⟨s,l,b,gs⟩ (fY s l) w+2+fF (fY s l) w) (dh l l.length)<=723*(dh l l.length).length:=Bt fun w _=>by
   have:=JF w;have:fF (fY s l) w<=1:=by unfold fF;split<;>omega
   omega
  unfold eW;rw[BU];have b2:bK (fun w=>4*fx ⟨s,l,b,gs⟩ (fY s l) w+fF (fY s l) w) (fY s l).ends=0:=rfl;omega
 have hlen:oQ (cQ s (dh l l.length))<=20000:=by
  have N:=oR (l:=List.replicate s.length ([]:List Wt)) (i:=0) (q:=[]) (dh l l.length) (by rw[vA,ae s1.1]);have J:oQ (List.replicate s.length ([]:List Wt))=0:=by simp[oQ]
  rw[cQ];simp only[jU]at N;omega
 refine⟨⟨lS _ _,by simp[fY],kX.symm,fun q I w u=>?_,?_,fun c hc=>?_,⟨rA _,(by decide:(0:Int)<=1000000000000000)⟩,fun x G=>?_⟩,⟨s1.1,by show s.length<=1000;omega⟩,fun i x G=>?_,QC.symm,sY,fun q I=>?_,fun w u=>(by cases u),fun j D=>?_,fun p=>?_,fun i q w I u=>?_,fun w u=>(by cases u),?_,fun w u=>?_,?_⟩
 ·rcases lT I with rfl | rfl
  ·cases u
  exact (ok w u).1
 ·show oQ (cQ s (dh l l.length))+0<=500000;omega
 ·obtain⟨x,G,rfl⟩:=aR.1 hc;obtain⟨i,W⟩:=cf.1 G;have:=(s2 i x W).2.2.1;rw[mX,di];omega
 ·obtain⟨i,W⟩:=cf.1 G;have:=(s2 i x W).2.1;omega
 ·have:=s2 i x G;omega
 ·rcases lT I with rfl | rfl
  ·exact sY
  exact nE _ _
 ·obtain⟨n,hn⟩:=cf.1 D;obtain⟨z,e2,e3,O⟩:=U n j hn;exact⟨by rw[z];exact s1.1,e2,fun v V=>by rw[e3 v V];exact⟨rA _,rA _⟩,by rw[O];decide,by rw[O];decide⟩
 ·unfold qE;rw[BU];have:=uM p l l.length;have e:bK (fun w=>if w.2=p then 1 else 0) (fY s l).ends=0:=rfl;rw[e];have this:bK (fun w=>if w.2=p then 1 else 0) (dh l l.length)<=if 0<=p.1/\p.1<l.length then 1 else 0:=this;split at this<;>omega
 ·rcases Ac I with⟨rfl,rfl⟩ | rfl
  ·obtain⟨i,k,r,g,N,J,Z,a4⟩:=(ok w u).1;have hf:=gr gs i k r g Z a4;obtain⟨j,D⟩:=a8 (l:=gh s l) (i:=pos gs i k) (by have:=ah hf;omega);refine⟨j,?_,(U _ j D).1⟩;rw[bU,N,J,gH,gH];exact D
  cases u
 ·show 2*0+_<=_;omega
 ·rcases u with u | ⟨q,I,u⟩
  ·cases u
  rcases lT I with rfl | rfl
  ·cases u
  have:=(ok w u).2;omega
 show (0:Int)<=_;omega
def MC(s:List gI)(l:List Lt)(b:List Fl):Stat:=⟨s,l,b,l.map fun x=>List.replicate x.panels.toNat 0⟩
def pW(s:List gI)(l:List Lt)(b:List Fl):a_:=iV (MC s l b) (fY s l)
def jQ(s:List gI)(l:List Lt)(b:List Fl):List dQ×List Made×Int:=
 if cz s=0 then if cA l=0 then if de s l b=0 then (iO (pW s l b).done,(pW s l b).jobs.map lH.made,0) else ([],[],de s l b) else ([],[],cA l) else ([],[],cz s)
theorem bz.pW{b:List Fl}(c:cz s=0)(m:cA l=0):bz (MC s l b) (M.pW s l b):=bz.iV (bz.zero c m (by rw[vz];exact ou fun x _=>di ..))
theorem bz.ind{st:Stat}(P:a_->Prop)(G:∀x y,bz st x->P x->M.eI st x=some y->P y)(hs:∀i x y,bz st x->P x->M.du st i x=some y->P y)(I:∀x a,bz st x->P x->x.now<a->(∀w∈x.ends,a<=w.1)->P { x with now:=a }){x:a_}(h:bz st x)(J:P x):P (M.iV st x):=by
 have fin:∀(n:Nat) (x:a_),bz st x->P x->P (kz n st x):=by
  intro n
  induction n with
  | zero=>intro x _ hp;exact hp
  | succ n ih=>
   intro x h hp;unfold kz;split
   ·rename_i y c;exact ih y (h.eI c).1 (G x y h hp c)
   exact hp
 have N:∀(i n:Nat) (x:a_),bz st x->P x->bz st (M.eo n st i x)/\P (M.eo n st i x):=by
  intro i n
  induction n with
  | zero=>intro x h hp;exact⟨h,hp⟩
  | succ n ih=>
   intro x h hp;unfold M.eo;split
   ·rename_i y c;exact ih y (h.du c).1 (hs i x y h hp c)
   exact⟨h,hp⟩
 have all:∀(l:List Nat) (x:a_),bz st x->P x->P (l.foldl (fun x i=>dE st i x) x):=by
  intro l
  induction l with
  | nil=>intro x _ hp;exact hp
  | cons i l ih=>
   intro x h hp;rw[qN];obtain⟨a,b⟩:=N i (bF x i).length x h hp;exact ih _ a b
 have run:∀(n:Nat) (x:a_),bz st x->P x->P (M.iU n st x):=by
  intro n
  induction n with
  | zero=>intro x _ hp;exact hp
  | succ n ih=>
   intro x h hp;obtain⟨m,f2,u⟩:=h.fy;have z:P (bV st (M.fy st x)):=all _ _ m (fin _ x h hp);unfold M.iU;split
   ·rename_i a D;obtain⟨s1,s2,s3,O⟩:=bz.lN (List.range st.steps.length) m;obtain⟨R,U,_⟩:=Bj (O (xY m u)) s1.eh D;exact ih _ (m.next u D).1 (I _ a s1 z R U)
   exact z
 exact run _ x h J
structure Fk(st:Stat)(x y:a_)(w:Wt)(i k:Nat)(j:lH)(s:gI)(b:List Bool)(lt:Lt)(v:Int):Prop where
 he:∃W,x.ends=w::W
 hw:w=(x.now,(i:Int),(k:Int))
 hg:∃r g,st.gs[i]?=some r/\r[k]?=some g
 hj:x.jobs[bU st w]?=some j
 hs:st.steps[j.step]?=some s
 hb:x.busy[j.step]?=some b
 hm:j.machine<b.length
 hl:st.lots[i]?=some lt
 hv:j.visits[j.step]?=some v
 hy:y=mM st { x with ends:=dD x.ends } w k (bU st w) j s b v lt.name (tC st ⟨lt.name,k,j.step,v+1⟩)
variable {y:a_}
theorem bz.MD{st:Stat}{x:a_}(h:bz st x)(c:M.eI st x=some y):∃w i k j s b lt v,Fk st x y w i k j s b lt v:=by
 obtain⟨w,W,m,u⟩:∃w W,x.ends=w::W/\w.1=x.now:=by
  unfold M.eI at c;split at c
  ·cases c
  rename_i w W m;split at c
  ·rename_i u;exact⟨w,W,m,u⟩
  cases c
 obtain⟨i,k,r,g,j,s,b,lt,v,z,G,I,D,hs,hb,J,N,O,Ks,H_,R4,R⟩:=h.fin m u;rw[R]at c;injection c with c;have hp:bU st w=pos st.gs i k:=by rw[bU,z];simp
 rw[<-hp]at D c;exact⟨w,i,k,j,s,b,lt,v,⟨W,m⟩,z,⟨r,g,G,I⟩,D,hs,hb,J,N,O,c.symm⟩
theorem Fk.parts{st:Stat}{x:a_}{w:Wt}{i:Nat}{j:lH}{s:gI}{b:List Bool}{lt:Lt}{v:Int}(h:Fk st x y w i k j s b lt v):
  y.ends=dD x.ends/\y.busy=x.busy.set j.step (b.set j.machine false)/\y.now=x.now/\y.done=x.done++[eT x k j lt.name (tC st ⟨lt.name,k,j.step,v+1⟩)]/\∃j',y.jobs=x.jobs.set (bU st w) j'/\j'.made.lot=j.made.lot/\j'.made.panel=j.made.panel:=by
 obtain⟨_,_,_,_,_,_,_,_,_,c⟩:=h;subst c;unfold mM;simp only;split
 ·exact⟨rfl,rfl,rfl,rfl,_,rfl,rfl,rfl⟩
 split
 ·exact⟨rfl,rfl,rfl,rfl,_,rfl,rfl,rfl⟩
 exact⟨rfl,rfl,rfl,rfl,_,rfl,rfl,rfl⟩
theorem bz.alone{st:Stat}{x:a_}(h:bz st x){w:Wt}{W:List Wt}(c:x.ends=w::W):∀u∈dD x.ends,u.2≠w.2:=by
 intro u m e;have z:=h.un w.2;have D:bK (fun u=>if u.2=w.2 then 1 else 0) (dD x.ends)+(if w.2=w.2 then 1 else 0)=bK (fun u=>if u.2=w.2 then 1 else 0) x.ends:=by rw[c];exact oS w W
 simp only[ae]at D;unfold qE at z;have G:=jO (f:=fun u=>if u.2=w.2 then 1 else 0) m;simp only[ae e]at G;omega
theorem bz.JV{st:Stat}{x:a_}(h:bz st x){i:Nat}{a:Wt}(c:x.queues[i]?=some q)(m:a∈q):∀u∈x.ends,u.2≠a.2:=by
 intro u z e;have D:=h.un a.2;have G:=jO (f:=fun u=>if u.2=a.2 then 1 else 0) z;have I:=jO (f:=fun u=>if u.2=a.2 then 1 else 0) m;have b2:=sL (f:=fun u=>if u.2=a.2 then 1 else 0) (aj c);simp only[ae e,ae]at G I;unfold qE at D;omega
def sZ(y x:dQ):Prop:=y.till<=x.from_\/x.till<=y.from_\/¬(x.step=y.step/\x.machine=y.machine\/x.lot=y.lot/\x.panel=y.panel)
def Ad(j:lH):ByteArray×Int:=(j.made.lot,j.made.panel)
structure kR(st:Stat)(K:List (ByteArray×Int))(x:a_):Prop where
 kj:x.jobs.map Ad=K
 bl:∀(i:Nat) b s,x.busy[i]?=some b->st.steps[i]?=some s->b.length=s.machines.toNat
 we:∀w∈x.ends,∃j s b,x.jobs[bU st w]?=some j/\st.steps[j.step]?=some s/\x.busy[j.step]?=some b/\b[j.machine]?=some true/\w.1=j.from_+s.minutes/\0<=j.from_/\j.from_<=x.now
 ds:∀w∈x.ends,∀u∈x.ends,∀j j',x.jobs[bU st w]?=some j->x.jobs[bU st u]?=some j'->j.step=j'.step->j.machine=j'.machine->w.2=u.2
 d1:∀d∈x.done,∃(k m:Nat) (s:gI),d.step=k/\st.steps[k]?=some s/\d.machine=m/\m<s.machines.toNat/\d.till=d.from_+s.minutes/\d.till<=x.now/\0<=d.from_
 dw:∀d∈x.done,∀w∈x.ends,∀j,x.jobs[bU st w]?=some j->(d.step=j.step/\d.machine=j.machine\/d.lot=j.made.lot/\d.panel=j.made.panel)->d.till<=j.from_
 dp:x.done.Pairwise sZ
structure Ae(st:Stat)(K:List (ByteArray×Int)):Prop where
 at_:∀i k r g lt,st.gs[i]?=some r->r[k]?=some g->st.lots[i]?=some lt->K[pos st.gs i k]?=some (lt.name,(k:Int))
 inj:∀w u p,yq st w->yq st u->K[bU st w]?=some p->K[bU st u]?=some p->w.2=u.2
theorem kR.fin{st:Stat}{K:List (ByteArray×Int)}(hK:Ae st K){x:a_}(h:bz st x)(a:kR st K x)(hy:M.eI st x=some y):kR st K y:=by
 obtain⟨w,i,k,j,s,b,lt,v,E⟩:=h.MD hy;obtain⟨y1,y2,y3,y4,j',y5,y6,y7⟩:=E.parts;obtain⟨⟨W,he⟩,hw,⟨r,g,On,xd⟩,I,hs,hb,hm,hl,hv,_⟩:=E;have N:w∈x.ends:=by rw[he];exact aW
 have O:=(h.ew w N).1;have Pt:=h.alone he;have R:∀u∈y.ends,u∈x.ends/\u.2≠w.2:=fun u m=>by rw[y1]at m;exact⟨lK m,Pt u m⟩
 have V:∀u∈y.ends,y.jobs[bU st u]?=x.jobs[bU st u]?:=fun u m=>by
  obtain⟨h1,h2⟩:=R u m;rw[y5,gK I,af fun e=>h2 ((h.ew u h1).1.inj O e)]
 have DM:K[bU st w]?=some (j.made.lot,j.made.panel):=by rw[<-a.kj,ao,I];rfl
 have ME:(j.made.lot,j.made.panel)=(lt.name,(k:Int)):=by
  have:=hK.at_ i k r g lt On xd hl;have hp:bU st w=pos st.gs i k:=by rw[bU,hw];simp
  rw[<-hp,DM]at this;injection this
 injection ME with MF MG;obtain⟨j0,s0,b0,Y,Z,e3,e4,e5,e6,e7⟩:=a.we w N;rw[I]at Y;injection Y with Y;subst Y;rw[hs]at Z;injection Z with Z;subst Z;have FB:w.1=x.now:=by rw[hw]
 refine⟨?_,fun n c t D ht=>?_,fun u m=>?_,fun u m z hz p q hp hq h1 h2=>?_,fun d G=>?_,fun d G u m p hp D=>?_,?_⟩
 ·rw[y5,rm,show Ad j'=Ad j by rw[Ad,Ad,y6,y7],<-a.kj];exact dP (by rw[ao,I];rfl)
 ·rw[y2,eR hb]at D;split at D
  ·rename_i e;injection D with D;subst D;rw[aF];exact a.bl n b t (by rw[e];exact hb) ht
  exact a.bl n c t D ht
 ·obtain⟨J,u2⟩:=R u m;obtain⟨p,t,c,c1,c2,U,c4,c5,c6,c7⟩:=a.we u J;rw[V u m,y2,y3];by_cases e:p.step=j.step
  ·rw[e,hb]at U;injection U with U;subst U;refine⟨p,t,_,c1,c2,by rw[eR hb,ae e],?_,c5,c6,c7⟩;have bO:p.machine≠j.machine:=fun em=>u2 (a.ds u J w N p j c1 I e em);rw[bw (fun e=>bO e.symm)];exact c4
  exact⟨p,t,c,c1,c2,by rw[eR hb,af e];exact U,c4,c5,c6,c7⟩
 ·rw[V u m]at hp;rw[V z hz]at hq;exact a.ds u (R u m).1 z (R z hz).1 p q hp hq h1 h2
 ·rw[y4,cX,jc]at G;rw[y3];rcases G with G | rfl
  ·exact a.d1 d G
  exact⟨j.step,j.machine,s,rfl,hs,rfl,by rw[<-a.bl _ b s hb hs];exact hm,by show x.now=j.from_+s.minutes;omega,rA _,e6⟩
 ·obtain⟨J,u2⟩:=R u m;rw[V u m]at hp;rw[y4,cX,jc]at G;rcases G with G | rfl
  ·exact a.dw d G u J p hp D
  exfalso;rcases D with⟨c1,c2⟩ | ⟨c1,c2⟩
  ·have c1:(j.step:Int)=p.step:=c1;have c2:(j.machine:Int)=p.machine:=c2;exact u2 (a.ds u J w N p j hp I (by omega) (by omega))
  have c1:lt.name=p.made.lot:=c1;have c2:(k:Int)=p.made.panel:=c2;refine u2 (hK.inj u w (lt.name,(k:Int)) (h.ew u J).1 O ?_ ?_)
  ·rw[<-a.kj,ao,hp,c1,c2];rfl
  rw[DM,MF,MG]
 rw[y4,List.pairwise_append];refine⟨a.dp,An ..,fun d G e j6=>?_⟩;rw[jc]at j6;subst j6;by_cases D:(j.step:Int)=d.step/\(j.machine:Int)=d.machine\/lt.name=d.lot/\(k:Int)=d.panel
 ·left;refine a.dw d G w N j I ?_;rcases D with⟨c1,c2⟩ | ⟨c1,c2⟩
  ·exact .inl ⟨c1.symm,c2.symm⟩
  exact .inr ⟨by rw[MF,c1],by rw[MG,c2]⟩
 exact .inr (.inr D)
theorem Hc{b:List Bool}(h:dR b<b.length):b[dR b]?=some false:=by
 rw[aM h];have:=List.findIdx_getElem (p:=fun x=>!x) (w:=h);have e:b[dR b]=false:=by
  show b[List.findIdx (fun x=>!x) b]=false;simpa using this
 rw[e]
theorem kR.start{st:Stat}{K:List (ByteArray×Int)}{i:Nat}{x:a_}(h:bz st x)(a:kR st K x)(D:M.du st i x=some y):kR st K y:=by
 unfold M.du at D;split at D
 ·rename_i s u Q b h1 Z O;split at D
  ·rename_i hc;split at D
   ·rename_i j W;injection D with D;have Pt:=h.JV Z aW;have dq:=aj Z;have hok:=h.sv.qw _ dq u aW;have Y:j.step=i:=by
     obtain⟨j2,c1,c2⟩:=h.qs i _ u Z aW;rw[W]at c1;injection c1 with c1;rw[c1];exact c2
    have y1:y.jobs=x.jobs.set (bU st u) { j with machine:=dR b,from_:=x.now }:=by rw[<-D];rfl
    have y2:y.ends=eH x.ends (x.now+s.minutes,u.2.1,u.2.2):=by rw[<-D];rfl
    have y3:y.busy=x.busy.set i (b.set (dR b) true):=by rw[<-D];rfl
    have y4:y.now=x.now:=by rw[<-D];rfl
    have y5:y.done=x.done:=by rw[<-D];rfl
    have eu:((x.now+s.minutes,u.2.1,u.2.2):Wt).2=u.2:=rfl;have U:∀w∈y.ends,w∈x.ends\/w=(x.now+s.minutes,u.2.1,u.2.2):=fun w m=>by rw[y2]at m;exact gu m
    have old:∀w∈x.ends,y.jobs[bU st w]?=x.jobs[bU st w]?:=fun w m=>by
     rw[y1,gK W,af fun e=>Pt w m ((h.ew w m).1.inj hok e)]
    have new:y.jobs[bU st (x.now+s.minutes,u.2.1,u.2.2)]?=some { j with machine:=dR b,from_:=x.now }:=by
     rw[wv eu,y1,gK W,ae rfl]
    have Sb:=Hc hc.2;have tZ:∀w∈x.ends,∀p,x.jobs[bU st w]?=some p->p.step=i->p.machine≠dR b:=fun w m p hp e em=>by
     obtain⟨p2,t,c,c1,c2,G,V,_⟩:=a.we w m;rw[hp]at c1;injection c1 with c1;subst c1;rw[e,O]at G;injection G with G;subst G;rw[em,Sb]at V;cases V
    refine⟨?_,fun n c t I ht=>?_,fun w m=>?_,fun w m z J p q hp N g1 g2=>?_,fun d R=>?_,fun d R w m p hp I=>?_,by rw[y5];exact a.dp⟩
    ·rw[y1,rm,<-a.kj];exact dP (by rw[ao,W];rfl)
    ·rw[y3,eR O]at I;split at I
     ·rename_i e;injection I with I;subst I;rw[aF];exact a.bl n b t (by rw[e];exact O) ht
     exact a.bl n c t I ht
    ·rw[y4];rcases U w m with m | rfl
     ·obtain⟨p,t,c,c1,c2,G,V,c5,c6,c7⟩:=a.we w m;rw[old w m,y3];by_cases e:p.step=i
      ·rw[e,O]at G;injection G with G;subst G;refine⟨p,t,_,c1,c2,by rw[eR O,ae e],?_,c5,c6,c7⟩;rw[bw (fun em=>tZ w m p c1 e em.symm)];exact V
      exact⟨p,t,c,c1,c2,by rw[eR O,af e];exact G,V,c5,c6,c7⟩
     rw[new,y3];refine⟨_,s,b.set (dR b) true,rfl,by show st.steps[j.step]?=_;rw[Y];exact h1,by show (x.busy.set i _)[j.step]?=_;rw[Y,eR O,ae rfl],?_,rfl,h.sv.now.1,rA _⟩;show (b.set (dR b) true)[dR b]?=some true;rw[aP hc.2]
    ·rcases U w m with m | rfl
     ·rw[old w m]at hp;rcases U z J with J | rfl
      ·rw[old z J]at N;exact a.ds w m z J p q hp N g1 g2
      rw[new]at N;injection N with N;subst N;exact absurd g2 (tZ w m p hp (g1.trans Y))
     rw[new]at hp;injection hp with hp;subst hp;rcases U z J with J | rfl
     ·rw[old z J]at N;exact absurd g2.symm (tZ z J q N (g1.symm.trans Y))
     rfl
    ·rw[y5]at R;rw[y4];exact a.d1 d R
    rw[y5]at R;rcases U w m with m | rfl
    ·rw[old w m]at hp;exact a.dw d R w m p hp I
    rw[new]at hp;injection hp with hp;subst hp;obtain⟨_,_,_,_,_,_,_,_,d6,_⟩:=a.d1 d R;exact d6
   cases D
  cases D
 cases D
theorem kR.now{st:Stat}{K:List (ByteArray×Int)}{x:a_}(a:kR st K x){t:Int}(ht:x.now<t):kR st K { x with now:=t }:=by
 refine⟨a.kj,a.bl,fun w I=>?_,a.ds,fun d J=>?_,a.dw,a.dp⟩
 ·obtain⟨j,s,b,c1,c2,c,u,z,D,G⟩:=a.we w I;exact⟨j,s,b,c1,c2,c,u,z,D,by show j.from_<=t;omega⟩
 obtain⟨k,m,s,c1,c2,c,u,z,D,G⟩:=a.d1 d J;exact⟨k,m,s,c1,c2,c,u,z,by show d.till<=t;omega,G⟩
theorem kR.run{st:Stat}{K:List (ByteArray×Int)}(c:Ae st K){x:a_}(h:bz st x)(a:kR st K x):kR st K (M.iV st x):=
 h.ind (kR st K) (fun _ _ h a=>a.fin c h) (fun _ _ _ h a=>a.start h) (fun _ _ _ a m _=>a.now m) a
def qz(x:Lt):List (ByteArray×Int):=(List.range x.panels.toNat).map fun (k:Nat)=>(x.name,(k:Int))
def fZ(l:List Lt):List (ByteArray×Int):=l.flatMap qz
theorem CV(s:List gI)(x:Lt):(iP s x x.panels.toNat).map Ad=qz x:=by
 rw[iP,vz];rfl
theorem CW(s:List gI)(l:List Lt):(gh s l).map Ad=fZ l:=by
 rw[gh,List.map_flatMap,fZ];congr 1;funext x;exact CV s x
theorem CX(l:List Lt):(fZ l).length=(l.map fun x=>x.panels.toNat).sum:=by
 induction l with
 | nil=>rfl
 | cons x l ih=>
  simp only[fZ,dA,bZ,aV,fU]at ih ⊢;rw[ih];simp[qz]
theorem s5(x:Lt)(h:k<x.panels.toNat):(qz x)[k]?=some (x.name,(k:Int)):=by
 rw[qz,ao,fG h];rfl
theorem fC(x:Lt):(qz x).length=x.panels.toNat:=by simp[qz]
def Ii(l:List Lt):List (List Nat):=l.map fun x=>List.replicate x.panels.toNat 0
theorem yg:∀{l:List Lt} {i k:Nat} {x:Lt},l[i]?=some x->k<x.panels.toNat->(fZ l)[pos (Ii l) i k]?=some (x.name,(k:Int))
 | [],i,k,x,h,_=>by simp at h
 | a::l,0,k,x,h,hk=>by
  simp at h;subst h;simp only[pos,rq,my,List.sum_nil,cV,fZ,dA];rw[bQ (by rw[fC];exact hk)];exact s5 a hk
 | a::l,i+1,k,x,h,hk=>by
  have ih:=yg (l:=l) (i:=i) (k:=k) (by simpa using h) hk;rw[Ii,aV,lM,di];simp only[fZ,dA]at ih ⊢;rw[bY (by rw[fC];omega),fC,l9];exact ih
theorem pX{p:ByteArray×Int}(h:p∈fZ l):∃x∈l,p.1=x.name/\0<=p.2/\p.2<x.panels:=by
 simp only[fZ,q9,qz,aR,fR]at h;obtain⟨x,c,k,hk,rfl⟩:=h;exact⟨x,c,rfl,by simp only;omega,by simp only;omega⟩
theorem vP{b:List Fl}(hl:gL Lt.name l):Ae (MC s l b) (fZ l):=by
 have Pu:∀(i:Nat) (r:List Nat),(Ii l)[i]?=some r->∃x:Lt,l[i]?=some x/\r.length=x.panels.toNat:=fun i r z=>by
  rw[Ii,ao]at z;obtain⟨x,c,rfl⟩:=az.1 z;exact⟨x,c,di ..⟩
 have G:∀(i k:Nat) (r:List Nat) (g:Nat),(Ii l)[i]?=some r->r[k]?=some g->∃x,l[i]?=some x/\(fZ l)[pos (Ii l) i k]?=some (x.name,(k:Int)):=fun i k r g z I=>by
  obtain⟨x,c,hlen⟩:=Pu i r z;exact⟨x,c,yg c (by have:=ah I;omega)⟩
 refine⟨fun i k r g lt z I D=>?_,fun w u p hw hu N O=>?_⟩
 ·obtain⟨x,c,h⟩:=G i k r g z I;have D:l[i]?=some lt:=D;rw[c]at D;injection D with D;rw[<-D];exact h
 obtain⟨i,k,r,g,R,U,a3,a4⟩:=hw;obtain⟨J,V,r',g',W,Y,b3,b4⟩:=hu;obtain⟨x,c,Sc⟩:=G i k r g a3 a4;obtain⟨y,Z,Pw⟩:=G J V r' g' b3 b4;rw[bU,R,U,gH,gH]at N;rw[bU,W,Y,gH,gH]at O;have e1:some p=some (x.name,(k:Int)):=N.symm.trans Sc;have m:some p=some (y.name,(V:Int)):=O.symm.trans Pw;rw[e1]at m;injection m with m;injection m with m e3;have ei:i=J:=by
  rcases vp i J with h | h | h
  ·have:=c_ hl c Z h;rw[m,db]at this;cases this
  ·exact h
  have:=c_ hl Z c h;rw[m,db]at this;cases this
 exact Prod.ext (by rw[R,W,ei]) (by rw[U,Y,e3])
theorem kR.zero{b:List Fl}:kR (MC s l b) (fZ l) (fY s l):=by
 refine⟨CW s l,fun i c t m u=>?_,fun w z=>(by cases z),fun w z=>(by cases z),fun d D=>(by cases D),fun d D=>(by cases D),List.Pairwise.nil⟩;have m:(s.map mX)[i]?=some c:=m;have u:s[i]?=some t:=u;rw[ao,u]at m;injection m with m;rw[<-m];exact di ..
theorem yi:∀{l:List Lt},gL Lt.name l->∀{n:Nat} {p q:ByteArray×Int},(fZ l)[n]?=some p->(fZ l)[n+1]?=some q->kT p.1 q.1=true\/(p.1=q.1/\q.2=p.2+1)
 | [],_,n,p,q,h,_=>by simp[fZ]at h
 | x::l,hs,n,p,q,hp,hq=>by
  have c:=List.pairwise_cons.1 hs;simp only[fZ,dA]at hp hq;by_cases m:n<x.panels.toNat
  ·rw[bQ (by rw[fC];exact m),s5 x m]at hp;injection hp with hp;by_cases u:n+1<x.panels.toNat
   ·rw[bQ (by rw[fC];exact u),s5 x u]at hq;injection hq with hq;right;rw[<-hp,<-hq];exact⟨rfl,by simp only;omega⟩
   rw[bY (by rw[fC];omega)]at hq;obtain⟨y,z,D,_⟩:=pX (l:=l) (aj hq);left;rw[<-hp,D];exact c.1 y z
  rw[bY (by rw[fC];omega),fC]at hp hq;rw[show n+1-x.panels.toNat=n-x.panels.toNat+1 by omega]at hq;exact yi c.2 hp hq
structure JW(s:List gI)(l:List Lt)(D:List dQ)(M:List Made):Prop where
 len:D.length<=7500000
 d1:∀d∈D,∃(k m:Nat) (t:gI),d.step=k/\s[k]?=some t/\d.machine=m/\(m:Int)<t.machines/\d.till=d.from_+t.minutes/\d.till<=1000000000000000/\0<=d.from_
 dp:D.Pairwise sZ
 ks:(M.map fun m=>(m.lot,m.panel))=fZ l
theorem sZ.symm{x y:dQ}(h:sZ x y):sZ y x:=by
 rcases h with h | h | h
 ·exact .inr (.inl h)
 ·exact .inl h
 refine .inr (.inr fun c=>h ?_);rcases c with⟨a,b⟩ | ⟨a,b⟩
 ·exact .inl ⟨a.symm,b.symm⟩
 exact .inr ⟨a.symm,b.symm⟩
theorem Fm{b:List Fl}(z:cz s=0)(c:cA l=0):JW s l (iO (pW s l b).done) ((pW s l b).jobs.map lH.made):=by
 have D:=bz.pW (b:=b) z c;have G:=bz.zero (b:=b) (gs:=Ii l) z c (by rw[Ii,vz];exact ou fun x _=>di ..);have u:kR (MC s l b) (fZ l) (pW s l b):=kR.run (vP (oZ c).2.1) G kR.zero;obtain⟨hp,_⟩:=sV (pW s l b).done;refine⟨?_,fun d I=>?_,(hp.pairwise_iff fun h=>h.symm).2 u.dp,?_⟩
 ·rw[hp.length_eq];have:=D.dn;have e:lL=15000000:=rfl;omega
 ·obtain⟨k,m,t,c1,c2,J,c4,N,c6,O⟩:=u.d1 d (hp.mem_iff.1 I);have:=D.sv.now;exact⟨k,m,t,c1,c2,J,by omega,N,by omega,O⟩
 rw[vz];exact u.kj
end M
end Go.Proofs.YtedjhhieekileaaGreatDoor
