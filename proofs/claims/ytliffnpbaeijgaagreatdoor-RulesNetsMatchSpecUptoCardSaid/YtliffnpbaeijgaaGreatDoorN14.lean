/- NetsOf gives just what the reference gives, with all errors. Condition: what is read is of bulk at most 1048576; the listed variables are tied to the program's text by the card. -/
import Derived.Test.YtliffnpbaeijgaaGreatDoorN13
import Derived.Test.YtliffnpbaeijgaaGreatDoorProg
import Derived.WalkKit
import Derived.WalkSpells
import Derived.WalkLawsBesides
import Derived.Lib.Hide
import Derived.Shelf.Strings.Builder1
import Derived.Laws.AppendOwn
import Derived.Lib.AppendIntMem
import Derived.Lib.ItoaLen
set_option linter.unusedVariables false
set_option linter.unusedSimpArgs false
set_option maxRecDepth 100000
set_option maxHeartbeats 8000000
namespace Go
abbrev afu:=@Go.Oper.upon_value
abbrev aag:=@Go.Lib.cell_of_heap
abbrev aai:=@Go.Lib.hid
abbrev afv:=@Go.RowKit.Below.heap_setCell
end Go
namespace Go.Proofs.YtliffnpbaeijgaaGreatDoor
namespace M
open Go.AM Go.RowKit Go.Lib
open Reg (aB dq oW yr Piece dW aX)
def lB(st:ByteArray×Bool×Bool)(n:ByteArray):ByteArray×Bool×Bool:=(n,st.2.1&&(!decide (n=bC)&&(!st.2.2||decide (n=st.1))),true)
def agK(st:ByteArray×Bool×Bool):ByteArray:=if st.2.1=true then st.1 else bC
theorem agc:∀(r:List ByteArray) (name:ByteArray) (one:Bool),(r.foldl lB (name,one,true)).2.1=(one&&r.all fun u=>decide (u=name)&&!decide (u=bC))/\((r.foldl lB (name,one,true)).2.1=true->(r.foldl lB (name,one,true)).1=name)
 | [],name,one=>⟨by simp,fun _=>rfl⟩
 | u::r,name,one=>by
  obtain⟨D,I⟩:=agc r u (one&&(!decide (u=bC)&&(!true||decide (u=name))));have e:(u::r).foldl lB (name,one,true)=r.foldl lB (u,one&&(!decide (u=bC)&&(!true||decide (u=name))),true):=rfl;rw[e];by_cases c:u=name
  ·subst c;refine⟨?_,I⟩;rw[D,vZ];simp[rm]
  have z:(r.foldl lB (u,one&&(!decide (u=bC)&&(!true||decide (u=name))),true)).2.1=false:=by
   rw[D,fJ c];simp
  rw[z];exact⟨by rw[vZ,fJ c];simp,fun h=>by cases h⟩
theorem aiN(vs:List ByteArray):agK (vs.foldl lB (bC,true,false))=HQ vs:=by
 cases vs with
 | nil=>rfl
 | cons v r=>
  obtain⟨D,J⟩:=agc r v (true&&(!decide (v=bC)&&(!false||decide (v=bC))));have e:(v::r).foldl lB (bC,true,false)=r.foldl lB (v,true&&(!decide (v=bC)&&(!false||decide (v=bC))),true):=rfl;rw[e,agK,HQ];by_cases c:v=bC
  ·rw[D];subst c;simp
  by_cases d:(r.all fun u=>decide (u=v))=true
  ·have z:(r.foldl lB (v,true&&(!decide (v=bC)&&(!false||decide (v=bC))),true)).2.1=true:=by
    rw[D,fJ c];simp only[Bb,Ft,qJ,tG];refine dY.2 fun u I=>?_;have L:u=v:=iY (dY.1 d u I);rw[L,nq rfl,fJ c];rfl
   rw[ae z,ae d,J z]
  rw[aa d,aa];rw[D];intro h;refine d (dY.2 fun u I=>?_);have h:=(aJ _ _▸h:_/\_).2;have h:=dY.1 h u I;rw[aJ]at h;exact h.1
theorem adY{t:List bG}{x:DP}{l:List (ByteArray×ByteArray)}{j:Nat}{p:ByteArray×ByteArray}{v:ByteArray}(hp:l[j]?=some p)(h:nameAt t x (ab0 p)=some v)(s:ByteArray×Bool×Bool):(c8 t x (l.take (j+1))).foldl lB s=lB ((c8 t x (l.take j)).foldl lB s) v:=by
 rw[bq hp,c8,E8,M8,eH,xB,GU h,xX,u7];rfl
theorem adZ{t:List bG}{x:DP}{l:List (ByteArray×ByteArray)}{j:Nat}{p:ByteArray×ByteArray}(hp:l[j]?=some p)(h:nameAt t x (ab0 p)=none):c8 t x (l.take (j+1))=c8 t x (l.take j):=by
 rw[bq hp,c8,E8,M8,eH,xB,uK h,xX,aq];rfl
theorem agd(t:List bG)(x:DP)(a:yr)(L:Gq t)(N:Gy x)(ha:M6 a):ai C 5 [.pv (.sl (t.map vU)),.pv (.ag (S9 x)),.pv (.ag (uR a))] (.tu [strs (adj t x a).1,i64 (adj t x a).2]) []:=by
 have jx:=abH t x L N;have Q3:=aeJ a ha;by_cases D:jf t x=0
 case neg=>
  rw[adj,aaE,ae D,aa D];refine fW hC Tryz.func5 rfl (by kernel_rfl) fun _=>?_;refine⟨_,_,jx,iW ?_ ?_⟩<;>intro g
  ·refine⟨?_,trivial⟩;rfl
  exact absurd (by simpa using g) D
 by_cases J:gw a=0
 case neg=>
  have b:aaE t x a=gw a:=by rw[aaE,aa (by simpa using D)]
  rw[adj,b,aa J];rw[D]at jx;refine fW hC Tryz.func5 rfl (by kernel_rfl) fun _=>?_;refine⟨_,_,jx,_,_,Q3,iW ?_ ?_⟩<;>intro g
  ·refine⟨?_,trivial⟩;rfl
  exact absurd (by simpa using g) J
 have b:aaE t x a=0:=by rw[aaE,aa (by simpa using D),J]
 rw[adj,ae b];rw[D]at jx;rw[J]at Q3;have O:=aft a J;have gd:=abV J;obtain⟨few,R⟩:=acp gd;obtain⟨u,vt⟩:∃u,u=(aX a).placed.groups:=⟨_,rfl⟩;rw[<-vt]at few R O ⊢;have lg:=an u DZ;have lsc:∀l:List ByteArray,(sc1 l).length=l.length:=fun l=>E5 ..;refine fW hC Tryz.func5 rfl (by kernel_rfl) fun _=>?_;refine⟨_,_,jx,_,_,Q3,_,_,O,?_⟩;refine aP (fun i:Nat=>i<=u.length) (fun i=>[(0,.p (.sl (t.map vU))),(4,.p (.ip (S9 x))),(10,.p (.ip (rbc a (aX a).pieces u (aX a).fP))),(11,.ow 11),(12,.p (i64 i))]) (fun i=>[(11,.row 9 (sc1 (HB t x (u.take i))))]) (fun i=>u.length-i) 0 _ ((aA.iT (by exact hC) _ 4 (y:=.ip (S9 x)) (fz:=[(4,.nd (S9 x))]) (by exact⟨rfl,rfl⟩)).trans (aA.eK (by exact hC) _ 11 9 _ (by decide) (by exact rfl) (by exact rfl) (by decide))) (ak _) ⟨Z,Z,Z,Z,Z,Y⟩ ⟨Z,Y⟩ fun i hi s h=>?_;apply iW<;>intro c1
 ·obtain⟨g,V⟩:=ax (l:=u) (i:=i) (by omega);have fp:=R g (aj V);have lpp:=an g.pins pc;refine aP (fun y:Nat×ByteArray×Bool×Bool=>y.1<=g.pins.length/\(c8 t x (g.pins.take y.1)).foldl lB (bC,true,false)=y.2) (fun y=>[(0,.p (.sl (t.map vU))),(4,.p (.ip (S9 x))),(10,.p (.ip (rbc a (aX a).pieces u (aX a).fP))),(11,.ow 11),(12,.p (i64 i)),(13,.p (str y.2.1)),(14,.p (bool y.2.2.1)),(15,.p (bool y.2.2.2)),(16,.p (i64 y.1))]) (fun y=>[(11,.row 9 (sc1 (HB t x (u.take i))))]) (fun y=>g.pins.length-y.1) (0,bC,true,false) _ (aA.refl _ _) ⟨ak _,rfl⟩ ⟨Z,Z,Z,Z,Z,Z,Z,Z,Z,Y⟩ ⟨Z,Y⟩ fun ⟨j,name,one,any⟩ hy s h=>?_;obtain⟨y1,U⟩:=hy;dsimp only at y1 U;refine⟨(DZ g),(idx rfl V),iW ?_ ?_⟩<;>intro c2
  ·obtain⟨p,I⟩:=ax (l:=g.pins) (i:=j) (by omega);have W:=agF t x (ab0 p) L N D;refine⟨(DZ g),(idx rfl V),(pc p),(idx rfl I),?_⟩;cases hv:nameAt t x (ab0 p) with
   | none=>
    rw[show atR t x (ab0 p)=(bC,false) by simp only[atR,hv]]at W;have hk:=adZ I hv;exact⟨_,_,W,wO (by omega),(j+1,name,one,any),_,aA.refl _ _,⟨by dsimp only;omega,by rw[hk];exact U⟩,by dsimp only;omega,⟨Z,Z,Z,Z,Z,Z,Z,Z,Z,Y⟩,⟨Z,Y⟩⟩
   | some v=>
    rw[show atR t x (ab0 p)=(v,true) by simp only[atR,hv]]at W;have hk:=adY I hv (bC,true,false);rw[U]at hk;refine⟨_,_,W,?_⟩;cases one with
    | false=>
     exact⟨wO (by omega),(j+1,v,false,true),_,aA.refl _ _,⟨by dsimp only;omega,by rw[hk];rfl⟩,by dsimp only;omega,⟨Z,Z,Z,Z,Z,Z,Z,Z,Z,Y⟩,⟨Z,Y⟩⟩
    | true=>
     cases any with
     | false=>
      apply iW<;>intro z
      ·have z:¬v=bC:=z;exact⟨wO (by omega),(j+1,v,true,true),_,aA.refl _ _,⟨by dsimp only;omega,by rw[hk,lB,decide_eq_false z];rfl⟩,by dsimp only;omega,⟨Z,Z,Z,Z,Z,Z,Z,Z,Z,Y⟩,⟨Z,Y⟩⟩
      have z:v=bC:=z;exact⟨wO (by omega),(j+1,v,false,true),_,aA.refl _ _,⟨by dsimp only;omega,by rw[hk,lB,decide_eq_true z];rfl⟩,by dsimp only;omega,⟨Z,Z,Z,Z,Z,Z,Z,Z,Z,Y⟩,⟨Z,Y⟩⟩
     | true=>
      apply iW<;>intro z
      ·have z:¬v=bC:=z;exact⟨wO (by omega),(j+1,v,decide (v=name),true),_,aA.refl _ _,⟨by dsimp only;omega,by rw[hk,lB,decide_eq_false z];rfl⟩,by dsimp only;omega,⟨Z,Z,Z,Z,Z,Z,Z,Z,Z,Y⟩,⟨Z,Y⟩⟩
      have z:v=bC:=z;exact⟨wO (by omega),(j+1,v,false,true),_,aA.refl _ _,⟨by dsimp only;omega,by rw[hk,lB,decide_eq_true z];rfl⟩,by dsimp only;omega,⟨Z,Z,Z,Z,Z,Z,Z,Z,Z,Y⟩,⟨Z,Y⟩⟩
  have ej:j=g.pins.length:=by omega
  have e0:=aiN (c8 t x g.pins);rw[ej,nu]at U;rw[U]at e0;have eo:HB t x (u.take (i+1))=HB t x (u.take i)++[agK (name,one,any)]:=by rw[bq V,HB,E8,e0];rfl
  have lo:(sc1 (HB t x (u.take i))).length=i:=by rw[lsc,HB,E5,cE];omega
  cases one with
  | true=>
   refine⟨⟨kL rfl,by rw[lo];simp;omega,by rw[lo];simp;omega⟩,wO (by omega),(i+1),_,aA.refl _ _,by omega,by omega,⟨Z,Z,Z,Z,Z,Y⟩,⟨?_,trivial⟩⟩;show AB.row _ _=AB.row _ (sc1 (HB t x (u.take (i+1))));rw[eo,sc1,sc1,E8];rfl
  | false=>
   refine⟨⟨kL rfl,by rw[lo];simp;omega,by rw[lo];simp;omega⟩,wO (by omega),(i+1),_,aA.refl _ _,by omega,by omega,⟨Z,Z,Z,Z,Z,Y⟩,⟨?_,trivial⟩⟩;show AB.row _ _=AB.row _ (sc1 (HB t x (u.take (i+1))));rw[eo,sc1,sc1,E8];rfl
 have ei:i=u.length:=by omega
 refine⟨?_,trivial⟩;rw[ei,nu];rfl
end M
end Go.Proofs.YtliffnpbaeijgaaGreatDoor
namespace Go.Proofs.YtliffnpbaeijgaaGreatDoor
open Go.RowKit Go.Shelf
theorem szB:(Tryz.prog.info? 102).map (·.size)=some 2:=by kernel_rfl
theorem alI:liesAt Tryz.prog Tryz.prog.depth 102 (2 / Tryz.prog.cellsOf 102) 0 102 1=true:=by kernel_rfl
theorem abS(b:Nat)(w:World)(h0:w.cell? ⟨b,0,none⟩=some (.pointer (some ⟨b,0,none⟩))):
  Calls Tryz.prog 75 #[.pointer (some ⟨b,0,none⟩)] w fun e w'=>e=.returned (.tuple #[])/\w'=w:=by
 obtain⟨j,u,_⟩:=qI.1 szB
 go_enter Tryz.func75,Tryz.ntmps75
 go_wp2
 rw[Lib.run_neq_ptr_same w _ wJ u]
 go_wp2
 go_end0
 exact⟨rfl,rfl⟩
theorem abt(b:Nat)(w:World)(h0:w.cell? ⟨b,0,none⟩=some (.pointer none))(u:w.shape? b=some (102,2))(Hs:w.frozen? ⟨b,0,none⟩=false):
  Calls Tryz.prog 75 #[.pointer (some ⟨b,0,none⟩)] w fun e w'=>e=.returned (.tuple #[])/\w'=w.setCell ⟨b,0,none⟩ (.pointer (some ⟨b,0,none⟩)):=by
 obtain⟨j,D,z⟩:=qI.1 szB
 go_enter Tryz.func75,Tryz.ntmps75
 go_wp2
 rw[Lib.run_to_unsafe w ⟨b,0,none⟩ wJ wK D (by rw[z];decide) u (Nat.zero_lt_succ 1)];simp only[Result.andThen];rw[afu]
 go_wp2
 rw[run_callFunc_extern Tryz.func132 (by kernel_rfl) (by kernel_rfl) (by kernel_rfl) (e:=Extern.AbiNoEscape.same) (by kernel_rfl)];rw[Lib.run_noEscape];simp only[Result.andThen];rw[afu]
 go_wp2
 rw[Lib.run_from_unsafe w ⟨b,0,none⟩ wK wJ D u alI];simp only[Result.andThen];rw[afu]
 go_wp2
 go_end0
 exact⟨rfl,rfl⟩
theorem ahw(B b:Nat)(bs:List Value)(w:World)(h:Lib.IsBuilder 102 5 B b bs w):
  Calls Tryz.prog 75 #[.pointer (some ⟨b,0,none⟩)] w fun e w'=>e=.returned (.tuple #[])/\(Lib.BuilderAt 102 5 B b (.pointer (some ⟨b,0,none⟩)) bs w'/\Below B w w'):=by
 rcases h with h | h
 ·refine (abt b w h.cell0 h.shape h.frozen0).mono ?_;rintro e w' ⟨rfl,rfl⟩;exact⟨rfl,h.used _,(Mt B w).setCell (p:=⟨b,0,none⟩) h.1 _⟩
 refine (abS b w h.cell0).mono ?_;rintro e w' ⟨rfl,rfl⟩;exact⟨rfl,h,Mt B _⟩
theorem aih:(Tryz.prog.info? 5).map (fun i=>(i.zero,i.size,i.bytes))=some (some (.int .u8 0),1,1):=by kernel_rfl
theorem writeString(B b:Nat)(bs:List Value)(s:ByteArray)(w:World)(h:Lib.IsBuilder 102 5 B b bs w)(hlen:bs.length+s.size<=140737488355328)(hBw:B<=w.heap.size):
  Calls Tryz.prog 33 #[.pointer (some ⟨b,0,none⟩),.string s] w fun e w'=>e=.returned (.tuple #[.int .i64 s.size,.nilIface])/\(Lib.BuilderAt 102 5 B b (.pointer (some ⟨b,0,none⟩)) (bs++Lib.strCells s) w'/\Below B w w'):=by
 obtain⟨i0,hi,N,O,R⟩:=info_parts aih
 go_enter Tryz.func33,Tryz.ntmps33
 go_wp2_with (go_at_call 75;refine (ahw B b bs _ h).mono ?_)
 rintro e I ⟨rfl,h1,U⟩;obtain⟨W,v,u,hown,cO⟩:=h1;have c0:I.cell? ⟨b,0,none⟩=some (.pointer (some ⟨b,0,none⟩)):=by rw[aag u];rfl
 have c1:I.cell? ⟨b,1,none⟩=some v:=by rw[aag u];rfl
 go_wp2_with (at_builtin;refine Lib.wpList_append_own_string _ rfl _ _ 100 9 rfl B 5 i0 wI tW hi N O R _ _ _ rfl hown s rfl ?c3 ?c4 ?c5 ?_)
 case c3=>unfold maxLen;omega
 case c4=>omega
 case c5=>have:=U.size;omega
 intro v' J Y D _;have eX:b<I.heap.size:=by
  rcases AF b I.heap.size with h' | h'
  ·exact h'
  simp[Ga h']at u
 have L:J.heap[b]?=some (.cells #[.pointer (some ⟨b,0,none⟩),v] 102 (0,0)):=by
  rw[D.block b eX (fun e=>cO e.symm)];exact u
 have d0:J.cell? ⟨b,0,none⟩=some (.pointer (some ⟨b,0,none⟩)):=by rw[aag L];rfl
 have d1:J.cell? ⟨b,1,none⟩=some v:=by rw[aag L];rfl
 have f1:J.frozen? ⟨b,1,none⟩=false:=Lib.frozen_of_heap L 1;obtain⟨Z,n',z,rfl⟩:∃Z n' z,v'=.slice Z n' z:=by
  rcases Y.2 with⟨V,_⟩ | ⟨g,z,cur,V,_⟩
  ·exact⟨_,_,_,V⟩
  exact⟨_,_,_,V⟩
 go_wp2
 go_ret2
 refine⟨rfl,?_,?_⟩
 ·exact Lib.BuilderAt.put (T:=102) (e:=5) W L (bs':=bs++Lib.strCells s) (by simpa [Lib.strCells_length] using Y) (by decide)
 exact (U.grown D (by have:=U.size;omega) (fun k hk=>(hown.lt k hk).1)).setCell (p:=⟨b,1,none⟩) W _
end Go.Proofs.YtliffnpbaeijgaaGreatDoor
namespace Go.Proofs.YtliffnpbaeijgaaGreatDoor
open Go.RowKit Go.Shelf
theorem aiY{T e:TypeId}{B b:Nat}{p:Value}{bs:List Value}{w w':World}(h:Lib.BuilderAt T e B b p bs w)(hb:Below w.heap.size w w'):Lib.BuilderAt T e B b p bs w':=by
 obtain⟨J,v,u,hown,L⟩:=h;have lt:∀k o,w.heap[k]?=some o->k<w.heap.size:=fun k o hk=>by
  rcases AF k w.heap.size with h' | h'
  ·exact h'
  simp[Ga h']at hk
 refine⟨J,v,(hb.block b (lt _ _ u)).trans u,⟨hown.1,?_⟩,L⟩;rcases hown.2 with h | ⟨g,z,D,N,O,I,r⟩
 ·exact .inl h
 exact .inr ⟨g,z,D,N,O,(hb.block g (lt _ _ I)).trans I,r⟩
theorem aiZ{T e:TypeId}{B b:Nat}{bs:List Value}{w w':World}(h:Lib.IsBuilder T e B b bs w)(hb:Below w.heap.size w w'):Lib.IsBuilder T e B b bs w':=
 h.elim (fun h=>.inl (aiY h hb)) (fun h=>.inr (aiY h hb))
theorem aii:Builder.Extra Tryz.prog Tryz.lays156_ren where
 sizeBuilder:=by kernel_rfl
 liesBuilder:=by kernel_rfl
 t5:=wL
 a5:=wM
 z5:=wN
 v5:=wP
 infoByte:=by kernel_rfl
 cellsByte:=by kernel_rfl
 sizeByte:=by kernel_rfl
 neB5:=by decide
theorem ai0(D o c:Nat)(xs:List ByteArray)(u:ByteArray)(w:World)(z:∀(j:Nat) x,xs[j]?=some x->w.cell? ⟨D,o+j,none⟩=some (.string x))(I:D<w.heap.size)(J:xs.length<=140737488355328)(L:xs.length<=c)(hlen:(Lib.join (xs.map (·.data.toList)) u.data.toList).length<=140737488355328):
  Calls Tryz.prog 34 #[.slice (some ⟨D,o,none⟩) xs.length c,.string u] w fun e w'=>e=.returned (.string ⟨(Lib.join (xs.map (·.data.toList)) u.data.toList).toArray⟩)/\Below w.heap.size w w':=Any.strings_Join Tryz.lays156 aii D o c xs u w z I J L hlen
theorem ai1:(Tryz.prog.info? 9).map (fun i=>(i.zero,i.size,i.bytes))=some (some (.string ⟨#[]⟩),1,16):=by kernel_rfl
def adQ(word:ByteArray)(l:List ByteArray):ByteArray:=⟨(Lib.join ((word::l).map (·.data.toList)) [32]).toArray⟩++⟨#[10]⟩
theorem line(B b:Nat)(bs:List Value)(z:ByteArray)(l:List ByteArray)(W c:Nat)(w:World)(h:Lib.IsBuilder 102 5 B b bs w)(R:B<=w.heap.size)
  (N:∀(j:Nat) x,l[j]?=some x->w.cell? ⟨W,j,none⟩=some (.string x)) (hN:l.length<=1000000)
  (hlen:bs.length+(Lib.join ((z::l).map (·.data.toList)) [32]).length<=1000000000):
  Calls Tryz.prog 32 #[.string z,.slice (some ⟨W,0,none⟩) l.length c,.pointer (some ⟨b,0,none⟩)] w fun e w'=>e=.returned (.tuple #[])/\(Lib.BuilderAt 102 5 B b (.pointer (some ⟨b,0,none⟩)) (bs++Lib.strCells (adQ z l)) w'/\Below B w w'):=by
 obtain⟨i,hi,hz,hs,hb⟩:=info_parts ai1;obtain⟨U,O⟩:∃U:ByteArray,U=⟨(Lib.join ((z::l).map (·.data.toList)) [32]).toArray⟩:=⟨_,rfl⟩;have zz:U.size=(Lib.join ((z::l).map (·.data.toList)) [32]).length:=by rw[O];simp[ByteArray.size]
 have nz:¬9223372036854775807<U.size+1:=by omega
 have Y:bs.length+(U++⟨#[10]⟩).size<=140737488355328:=by
  rw[ByteArray.size_append,zz,show (⟨#[10]⟩:ByteArray).size=1 from rfl];omega
 have HS:=aai Y;have e1:adQ z l=U++⟨#[10]⟩:=by rw[adQ,O]
 rw[e1];have hl:=aai hlen;have HJ:=aai O;clear hlen O zz Y e1
 go_enter Tryz.func32,Tryz.ntmps32
 have Z:Below w.heap.size w (w.alloc (.cells #[.string z] 9)):=(Mt _ w).alloc (aG _) _
 go_wp2_with (at_builtin;refine wpList_append_own _ rfl _ _ 33 rfl w.heap.size 9 i _ 1 16 tZ hi hz hs hb rfl (by decide) _ 1 [.string z] rfl ?o1 ⟨W,0,none⟩ l.length c (l.map .string) rfl (by rw[E5,jQ]) ?o2 ?o3 ?o4 ?o5 ?o6 ?_)
 case o1=>exact⟨rfl,.inr ⟨w.heap.size,1,#[.string z],rfl,aG _,heap_alloc_new w _,aG _,by decide,rfl,rfl⟩⟩
 case o2=>
  intro j u hj;rw[aD,qI]at hj;obtain⟨x,hx,rfl⟩:=hj;have hc:=N j x hx;have:=(Z.cell (p:=⟨W,j,none⟩) (World.block_lt_of_cell? _ _ hc)).trans hc;rw[show (⟨W,0,none⟩:Addr).add j=⟨W,j,none⟩ by simp[Addr.add];omega];exact this
 case o3=>
  intro u hu;obtain⟨x,_,rfl⟩:=aZ.1 hu;rfl
 case o4=>unfold maxLen;omega
 case o5=>omega
 case o6=>exact Z.size
 intro v' L hown abb _;have b2:Below w.heap.size w L:=Z.grown abb Z.size (fun k hk=>by
  simp only[Value.ownBlock,Option.some.injEq]at hk;exact b_ hk)
 obtain⟨g,D,I,rfl,hg,hh,Fo,_,_,YN⟩:∃g D I,v'=.slice (some ⟨g,0,none⟩) (1+l.length) D/\w.heap.size<=g/\L.heap[g]?=some (.cells I 9 (0,0))/\1+l.length<=D/\D<=maxLen/\I.size=D*1/\I.toList.take ((1+l.length)*1)=[.string z]++l.map .string:=by
  rcases hown.2 with⟨_,h0⟩ | h
  ·omega
  exact h
 have hgl:g<L.heap.size:=by
  rcases AF g L.heap.size with h' | h'
  ·exact h'
  simp[Ga h']at hh
 have V:∀(j:Nat) x,(z::l)[j]?=some x->L.cell? ⟨g,0+j,none⟩=some (.string x):=fun j x hx=>by
  rw[fX,aag hh];have h1:(I.toList.take ((1+l.length)*1))[j]?=some (.string x):=by
   rw[YN,show [Value.string z]++l.map Value.string=(z::l).map Value.string from rfl,aD,hx];rfl
  rw[dM]at h1;split at h1
  ·rw[<-kC];exact h1
  cases h1
 have V6:Lib.IsBuilder 102 5 B b bs L:=aiZ h b2;have J:=ai0 g 0 D (z::l) ⟨#[32]⟩ L V hgl (by simp;omega) (by simp;omega) (aS (aS (Nat.le_add_left _ bs.length) hl.out) (by omega));rw[show (z::l).length=1+l.length by simp;omega]at J;have JJ:=aai J;clear J;have JK:Hid (Calls Tryz.prog 34 #[.slice (some ⟨g,0,none⟩) (1+l.length) D,.string ⟨#[32]⟩] L fun e w'=>e=.returned (.string U)/\Below L.heap.size L w'):=aai (by rw[HJ.out];exact JJ.out);clear JJ
 go_wp2_with (go_at_call 34;refine (JK.out).mono ?_;rintro e w3 ⟨rfl,b3⟩)
 refine (writeString B b bs _ w3 (aiZ V6 b3) HS.out (aS R (aS b2.size b3.size))).mono ?_;rintro e w4 ⟨rfl,h4,b4⟩
 go_wp2
 go_end0
 exact⟨rfl,h4,(b2.mono R).trans ((b3.mono (aS R b2.size)).trans b4)⟩
end Go.Proofs.YtliffnpbaeijgaaGreatDoor
namespace Go.Proofs.YtliffnpbaeijgaaGreatDoor
open Go.RowKit Go.Shelf
open Go.AM (Fr)
section
variable {P:Program}
theorem agL(w:World)(t u N e:TypeId)(i:TypeInfo)(U:P.underlying t=some (.slice e))(V:P.underlying u=some .string)(hi:P.info? e=some i)(Y:i.zero=some (.int .u8 0))(I:i.size=1)(J:i.bytes=1)
  (v:Value) (n:Nat) (xs:List Value) (hown:w.ownsRow 0 e 1 v n xs) (s:ByteArray) (O:n+s.size<=maxLen) (Z:n+s.size<=140737488355328):
  ∃L w',(Builtin.append_ #[t,u] N #[v,.string s]).run P w=.ok L w'/\w'.ownsRow 0 e 1 L (n+s.size) (xs++Lib.strCells s)/\w.grownBy w' v.ownBlock/\(L.ownBlock=v.ownBlock\/L.ownBlock=some w.heap.size):=by
 obtain⟨L,w',W,h2,h3,h4⟩:=Lib.run_append_own_string (P:=P) w 0 t u N e i U V hi Y I J v n xs hown s O Z (ak _);refine⟨L,w',W,h2,h3,?_⟩;have Wg:xs.length=n:=by simpa using hown.1
 have abv:n+s.size<=9223372036854775807:=by simp only[maxLen]at O;omega
 rcases hown.2 with⟨rfl,rfl⟩ | ⟨g,D,R,rfl,Zy,hg,Yf,hcm,nP,adx⟩
 ·by_cases hm:s.size=0
  ·rw[h4.2 ⟨rfl,hm⟩];exact .inl rfl
  have z:=run_append_nil_string (P:=P) w t u N e i (.int .u8 0) U V hi Y s (by omega) (by omega) (by rw[J];omega);rw[W]at z;injection z with z;rw[z];exact .inr rfl
 by_cases Vf:n+s.size<=D
 ·have aon:R.size=D:=by simpa using nP
  have z:=Lib.run_append_room_string (P:=P) w t u N e i U V hi I g n D R hg s Vf (by omega);rw[W]at z;injection z with z;rw[z];exact .inl rfl
 have holds:∀j u,xs[j]?=some u->w.cell? ((⟨g,0,none⟩:Addr).add j)=some u:=hown.cells (g:=g) rfl;have z:=Lib.run_append_grow_string (P:=P) w t u N e i (.int .u8 0) U V hi Y ⟨g,0,none⟩ n D xs (by rw[I];simpa using Wg) holds s (by omega) (by omega) (by rw[J];exact growslice_fits (by omega) (by omega));rw[W]at z;injection z with z;rw[z];exact .inr rfl
theorem aeL{w:World}{ops:Array Oper}{rest:List Oper}{o:Oper}{a:Act}{Q:Exit->Act->World->Prop}(D:o.guard=none)(sl x:Operand)(t u:TypeId)
  (N:o.op=.call { callee:=.builtin .append,args:=#[sl,x],argTypes:=#[t,u] }) (e:TypeId) (i:TypeInfo) (O:P.underlying t=some (.slice e)) (R:P.underlying u=some .string) (hi:P.info? e=some i) (U:i.zero=some (.int .u8 0)) (I:i.size=1) (J:i.bytes=1)
  (v:Value) (n:Nat) (xs:List Value) (V:a.eval sl=v) (hown:w.ownsRow 0 e 1 v n xs) (s:ByteArray) (W:a.eval x=.string s) (L:n+s.size<=maxLen) (Y:n+s.size<=140737488355328)
  (h:∀z w',w'.ownsRow 0 e 1 z (n+s.size) (xs++Lib.strCells s)->w.grownBy w' v.ownBlock->(z.ownBlock=v.ownBlock\/z.ownBlock=some w.heap.size)->wpList P ops Q rest (a.put o.dst z) w'):wpList P ops Q (o::rest) a w:=by
 refine wpList_plain D fun K Z=>?_;obtain⟨z,w',hr,h2,h3,h4⟩:=agL (P:=P) w t u o.type e i O R hi U I J v n xs hown s L Y;unfold Oper.wp execOp;simp only[N,resolve,invoke,builtin,aV,dt,lR,List.map_toArray,eH,xB,V,W,hr];exact Z _ _ (h z w' h2 h3 h4)
end
structure BS(b:Nat)(bs:List Value)(u0 u1:Value)(w:World):Prop where
 heap:w.heap[b]?=some (.cells #[u0,u1] 102 (0,0))
 self:u0=.pointer none\/u0=.pointer (some ⟨b,0,none⟩)
 own:w.ownsRow 0 5 1 u1 bs.length bs
 ne:u1.ownBlock≠some b
variable {bs:List Value} {u0:Value}
theorem BS.is{b:Nat}{u1:Value}{w:World}(h:BS b bs u0 u1 w):Lib.IsBuilder 102 5 0 b bs w:=by
 rcases h.self with e | e
 ·exact .inl ⟨ak _,u1,by rw[<-e];exact h.heap,h.own,h.ne⟩
 exact .inr ⟨ak _,u1,by rw[<-e];exact h.heap,h.own,h.ne⟩
theorem BS.lt{b:Nat}{u1:Value}{w:World}(h:BS b bs u0 u1 w):b<w.heap.size:=by
 rcases AF b w.heap.size with h' | h'
 ·exact h'
 have:=h.heap;simp[Ga h']at this
theorem BS.below{b:Nat}{u1:Value}{w w':World}(h:BS b bs u0 u1 w)(hb:Below w.heap.size w w'):BS b bs u0 u1 w':=by
 have lt:∀k o,w.heap[k]?=some o->k<w.heap.size:=fun k o hk=>by
  rcases AF k w.heap.size with h' | h'
  ·exact h'
  simp[Ga h']at hk
 refine⟨(hb.block b h.lt).trans h.heap,h.self,⟨h.own.1,?_⟩,h.ne⟩;rcases h.own.2 with h | ⟨g,u,z,I,J,D,r⟩
 ·exact .inl h
 exact .inr ⟨g,u,z,I,J,(hb.block g (lt _ _ D)).trans D,r⟩
theorem agM(b:Nat)(bs:List Value)(u0 u1:Value)(w:World)(h:BS b bs u0 u1 w):
  Calls Tryz.prog 75 #[.pointer (some ⟨b,0,none⟩)] w fun e w'=>e=.returned (.tuple #[])/\(BS b bs (.pointer (some ⟨b,0,none⟩)) u1 w'/\Fr (fun k=>k=b) w w'/\w'.heap.size=w.heap.size):=by
 rcases h.self with e | e
 ·have u:Lib.BuilderAt 102 5 0 b (.pointer none) bs w:=⟨ak _,u1,by rw[<-e];exact h.heap,h.own,h.ne⟩;refine (abt b w u.cell0 u.shape u.frozen0).mono ?_;rintro e' w' ⟨rfl,rfl⟩;have z:(w.setCell ⟨b,0,none⟩ (.pointer (some ⟨b,0,none⟩))).heap.size=w.heap.size:=by simp[World.setCell]
  refine⟨rfl,⟨?_,.inr rfl,?_,h.ne⟩,⟨rfl,rfl,rfl,b_ z.symm,fun k _ D=>afv _ _ _ _ D⟩,z⟩
  ·have:=h.heap;simp[World.setCell,tA,this]
  refine h.own.kept (row:=some b) ⟨rfl,rfl,rfl,by simp[World.setCell],fun k _ hk=>afv _ _ _ _ (fun e=>hk (by simp[e]))⟩ ?_;exact Or.inr h.ne
 have u:Lib.BuilderAt 102 5 0 b (.pointer (some ⟨b,0,none⟩)) bs w:=⟨ak _,u1,by rw[<-e];exact h.heap,h.own,h.ne⟩;refine (abS b w u.cell0).mono ?_;rintro e' w' ⟨rfl,rfl⟩;exact⟨rfl,⟨by rw[<-e];exact h.heap,.inr rfl,h.own,h.ne⟩,Fr.refl _ _,rfl⟩
theorem aji(b:Nat)(bs:List Value)(u0 u1:Value)(s:ByteArray)(w:World)(h:BS b bs u0 u1 w)(hlen:bs.length+s.size<=140737488355328):
  Calls Tryz.prog 33 #[.pointer (some ⟨b,0,none⟩),.string s] w fun e w'=>e=.returned (.tuple #[.int .i64 s.size,.nilIface])/\∃V,BS b (bs++Lib.strCells s) (.pointer (some ⟨b,0,none⟩)) V w'/\Fr (fun k=>k=b\/u1.ownBlock=some k) w w'/\∀g,V.ownBlock=some g->g<w'.heap.size/\(u1.ownBlock=some g\/w.heap.size<=g):=by
 obtain⟨i0,hi,hz0,hz1,hz2⟩:=info_parts aih
 go_enter Tryz.func33,Tryz.ntmps33
 go_wp2_with (go_at_call 75;refine (agM b bs u0 u1 _ h).mono ?_)
 rintro e U ⟨rfl,h1,f1,s1⟩;obtain⟨I,Me,hown,cO⟩:=h1;have c0:U.cell? ⟨b,0,none⟩=some (.pointer (some ⟨b,0,none⟩)):=by rw[aag I];rfl
 have c1:U.cell? ⟨b,1,none⟩=some u1:=by rw[aag I];rfl
 go_wp2_with (at_builtin;refine aeL rfl _ _ 100 9 rfl 5 i0 wI tW hi hz0 hz1 hz2 _ _ _ rfl hown s rfl ?c3 ?c4 ?_)
 case c3=>unfold maxLen;omega
 case c4=>omega
 intro v' J Vg D QP;have eX:b<U.heap.size:=by
  rcases AF b U.heap.size with h' | h'
  ·exact h'
  simp[Ga h']at I
 have W:J.heap[b]?=some (.cells #[.pointer (some ⟨b,0,none⟩),u1] 102 (0,0)):=by
  rw[D.block b eX (fun e=>cO e.symm)];exact I
 have d0:J.cell? ⟨b,0,none⟩=some (.pointer (some ⟨b,0,none⟩)):=by rw[aag W];rfl
 have d1:J.cell? ⟨b,1,none⟩=some u1:=by rw[aag W];rfl
 have f1':J.frozen? ⟨b,1,none⟩=false:=Lib.frozen_of_heap W 1;obtain⟨L,N,u,rfl⟩:∃L N u,v'=.slice L N u:=by
  rcases Vg.2 with⟨hv,_⟩ | ⟨g,u,cur,hv,_⟩
  ·exact⟨_,_,_,hv⟩
  exact⟨_,_,_,hv⟩
 have hw2:∀k,k<U.heap.size->u1.ownBlock≠some k->J.heap[k]?=U.heap[k]?:=fun k hk Y=>D.block k hk fun e=>Y e.symm;have lt2:∀g,(Value.slice L N u).ownBlock=some g->g<J.heap.size:=fun g O=>(Vg.lt g O).2
 go_wp2
 go_ret2
 have put:=Lib.BuilderAt.put (T:=102) (e:=5) (ak b) W (bs':=bs++Lib.strCells s) (by simpa [Lib.strCells_length] using Vg) (by decide);obtain⟨_,v3,R,p2,p3⟩:=put;have hv3:v3=.slice L N u:=by
  have:(J.setCell ⟨b,1,none⟩ (.slice L N u)).heap[b]?=some (.cells #[.pointer (some ⟨b,0,none⟩),.slice L N u] 102 (0,0)):=by simp[World.setCell,tA,W]
  rw[this]at R;injection R with R;injection R with R;have:=ar (fun z=>z[1]?) R;simpa using this.symm
 subst hv3;have Z:(J.setCell ⟨b,1,none⟩ (.slice L N u)).heap.size=J.heap.size:=by simp[World.setCell]
 refine⟨rfl,.slice L N u,⟨R,.inr rfl,p2,p3⟩,⟨?_,?_,?_,?_,fun k hk Y=>?_⟩,fun g O=>⟨?_,?_⟩⟩
 ·exact D.os.trans f1.os
 ·exact D.tape.trans f1.tape
 ·exact D.output.trans f1.output
 ·rw[Z];exact aS (b_ s1.symm) D.size
 ·rw[afv _ _ _ _ (fun e=>Y (.inl e)),hw2 k (by omega) (fun e=>Y (.inr e))];exact f1.block k hk (fun e=>Y (.inl e))
 ·rw[Z];exact lt2 g O
 rcases QP with h | h
 ·exact .inl (by rw[<-h];exact O)
 rw[h]at O;injection O with O;exact .inr (by omega)
end Go.Proofs.YtliffnpbaeijgaaGreatDoor
namespace Go.Proofs.YtliffnpbaeijgaaGreatDoor
open Go.RowKit Go.Shelf
open Go.AM (Fr)
theorem iv(b:Nat)(bs:List Value)(u0 u1:Value)(z:ByteArray)(l:List ByteArray)(bk N c:Nat)(w:World)(h:BS b bs u0 u1 w)
  (O:∀(j:Nat) x,l[j]?=some x->w.cell? ⟨bk,N+j,none⟩=some (.string x)) (hN:l.length<=1000000)
  (hlen:bs.length+(Lib.join ((z::l).map (·.data.toList)) [32]).length<=1000000000000):
  Calls Tryz.prog 32 #[.string z,.slice (some ⟨bk,N,none⟩) l.length c,.pointer (some ⟨b,0,none⟩)] w fun e w'=>e=.returned (.tuple #[])/\∃R,BS b (bs++Lib.strCells (adQ z l)) (.pointer (some ⟨b,0,none⟩)) R w'/\Fr (fun k=>k=b\/u1.ownBlock=some k) w w'/\∀g,R.ownBlock=some g->g<w'.heap.size/\(u1.ownBlock=some g\/w.heap.size<=g):=by
 obtain⟨i,hi,hz,hs,hb⟩:=info_parts ai1;obtain⟨V,U⟩:∃V:ByteArray,V=⟨(Lib.join ((z::l).map (·.data.toList)) [32]).toArray⟩:=⟨_,rfl⟩;have zz:V.size=(Lib.join ((z::l).map (·.data.toList)) [32]).length:=by rw[U];simp[ByteArray.size]
 have nz:¬9223372036854775807<V.size+1:=by omega
 have Z:bs.length+(V++⟨#[10]⟩).size<=140737488355328:=by
  rw[ByteArray.size_append,zz,show (⟨#[10]⟩:ByteArray).size=1 from rfl];omega
 have HS:=aai Z;have e1:adQ z l=V++⟨#[10]⟩:=by rw[adQ,U]
 rw[e1];have hl:=aai hlen;have HJ:=aai U;clear hlen U zz Z e1
 go_enter Tryz.func32,Tryz.ntmps32
 have b0:Below w.heap.size w (w.alloc (.cells #[.string z] 9)):=(Mt _ w).alloc (aG _) _
 go_wp2_with (at_builtin;refine wpList_append_own _ rfl _ _ 33 rfl w.heap.size 9 i _ 1 16 tZ hi hz hs hb rfl (by decide) _ 1 [.string z] rfl ?o1 ⟨bk,N,none⟩ l.length c (l.map .string) rfl (by rw[E5,jQ]) ?o2 ?o3 ?o4 ?o5 ?o6 ?_)
 case o1=>exact⟨rfl,.inr ⟨w.heap.size,1,#[.string z],rfl,aG _,heap_alloc_new w _,aG _,by decide,rfl,rfl⟩⟩
 case o2=>
  intro j u hj;rw[aD,qI]at hj;obtain⟨x,hx,rfl⟩:=hj;have hc:=O j x hx;have:=(b0.cell (p:=⟨bk,N+j,none⟩) (World.block_lt_of_cell? _ _ hc)).trans hc;rw[bT];exact this
 case o3=>
  intro u hu;obtain⟨x,_,rfl⟩:=aZ.1 hu;rfl
 case o4=>unfold maxLen;omega
 case o5=>omega
 case o6=>exact b0.size
 intro v' L hown abb _;have b2:Below w.heap.size w L:=b0.grown abb b0.size (fun k hk=>by
  simp only[Value.ownBlock,Option.some.injEq]at hk;exact b_ hk)
 obtain⟨g,D,I,rfl,hg,hh,Fo,_,_,YN⟩:∃g D I,v'=.slice (some ⟨g,0,none⟩) (1+l.length) D/\w.heap.size<=g/\L.heap[g]?=some (.cells I 9 (0,0))/\1+l.length<=D/\D<=maxLen/\I.size=D*1/\I.toList.take ((1+l.length)*1)=[.string z]++l.map .string:=by
  rcases hown.2 with⟨_,h0⟩ | h
  ·omega
  exact h
 have hgl:g<L.heap.size:=by
  rcases AF g L.heap.size with h' | h'
  ·exact h'
  simp[Ga h']at hh
 have W:∀(j:Nat) x,(z::l)[j]?=some x->L.cell? ⟨g,0+j,none⟩=some (.string x):=fun j x hx=>by
  rw[fX,aag hh];have h1:(I.toList.take ((1+l.length)*1))[j]?=some (.string x):=by
   rw[YN,show [Value.string z]++l.map Value.string=(z::l).map Value.string from rfl,aD,hx];rfl
  rw[dM]at h1;split at h1
  ·rw[<-kC];exact h1
  cases h1
 have V6:BS b bs u0 u1 L:=h.below b2;have J:=ai0 g 0 D (z::l) ⟨#[32]⟩ L W hgl (by simp;omega) (by simp;omega) (aS (aS (Nat.le_add_left _ bs.length) hl.out) (by omega));rw[show (z::l).length=1+l.length by simp;omega]at J;have JJ:=aai J;clear J;have JK:Hid (Calls Tryz.prog 34 #[.slice (some ⟨g,0,none⟩) (1+l.length) D,.string ⟨#[32]⟩] L fun e w'=>e=.returned (.string V)/\Below L.heap.size L w'):=aai (by rw[HJ.out];exact JJ.out);clear JJ
 go_wp2_with (go_at_call 34;refine (JK.out).mono ?_;rintro e w3 ⟨rfl,b3⟩)
 refine (aji b bs u0 u1 _ w3 (V6.below b3) HS.out).mono ?_;rintro e w4 ⟨rfl,R,h4,f4,g4⟩
 go_wp2
 go_end0
 have Y:Below w.heap.size w w3:=b2.trans (b3.mono b2.size);refine⟨rfl,R,h4,⟨f4.os.trans Y.os,f4.tape.trans Y.tape,f4.output.trans Y.output,aS Y.size f4.size,fun k hk hn=>(f4.block k (cB hk Y.size) hn).trans (Y.block k hk)⟩,fun g hg=>⟨(g4 g hg).1,?_⟩⟩;rcases (g4 g hg).2 with h | h
 ·exact .inl h
 exact .inr (aS Y.size h)
end Go.Proofs.YtliffnpbaeijgaaGreatDoor
namespace Go.Proofs.YtliffnpbaeijgaaGreatDoor
namespace M
open Go.AM Go.RowKit Go.Lib
open Reg (aB cw aR)
def Xi(l:List UInt8):ByteArray:=⟨l.toArray⟩
def inI(n:Int):Prop:=-9223372036854775808<=n/\n<=9223372036854775807
theorem Cp(n:Int)(h:inI n):ai C 35 [.pv (i64 n)] (.p (str (Xi (Lib.itoa n)))) []:=
 tO [.int .i64 n] (.string (Xi (Lib.itoa n))) ⟨_,Tryz.func35,by decide,rfl⟩ fun S w u hS=>by
  refine (Tryz.strconv_Itoa n h.1 h.2 w u.2.2.2).mono ?_;rintro e w' ⟨rfl,k,os,rfl⟩;exact⟨rfl,Lib.below_grow _ _ (aG _) k os⟩
theorem kO{α:Type}{f:α->List UInt8}{k:Nat}{l:List α}(h:∀x∈l,(f x).length<=k):(l.flatMap f).length<=l.length*k:=by
 induction l with
 | nil=>simp
 | cons x l ih=>
  have h1:=h x (by simp);have h2:=ih (fun m u=>h m (by simp[u]));simp only[l6,bJ,bN,mY];omega
theorem aiP{S:Nat->Prop}{w:World}{x v:Value}(h:aO S w (.im x) v):v=x:=by cases h;rfl
def y6(l:List UInt8):List (List PV):=l.map fun u=>[.im (.int .u8 u.toNat)]
def iy(l:List UInt8):List Value:=l.map fun u=>.int .u8 u.toNat
theorem ai2:∃i,Tryz.prog.info? 5=some i/\i.size=1:=by
 obtain⟨z,hi,_,u,_⟩:=info_parts aih;exact⟨z,hi,u⟩
theorem ahx{w:World}{S:Nat->Prop}{l:List UInt8}{v:Value}(h:aH Tryz.prog w (aO S w) 5 (y6 l) v):w.ownsRow 0 5 1 v (iy l).length (iy l):=by
 obtain⟨i,xs,I,h2,D,h4,h5,J⟩:=h;obtain⟨i0,hi,O⟩:=ai2;rw[hi]at I;cases I;rw[O]at D J;have hl:xs.length=l.length:=by
  have:=D.1;simpa [y6] using this
 have e:xs=iy l:=by
  apply kz;intro k;by_cases hk:k<l.length
  ·obtain⟨u,L⟩:∃u,l[k]?=some u:=⟨_,oX hk⟩;obtain⟨z,N,R⟩:=J k [.im (.int .u8 u.toNat)] 0 (.im (.int .u8 u.toNat)) (by rw[y6,aD,L];rfl) rfl;rw[jQ,tz]at N;cases R;rw[N,iy,aD,L];rfl
  rw[iR (by omega),iR (by simp[iy];omega)]
 have hb:(y6 l).length=(iy l).length:=by simp[y6,iy]
 rw[<-hb,<-e];exact D
theorem ahy{w:World}{S:Nat->Prop}{l:List UInt8}{v:Value}(h:w.ownsRow 0 5 1 v (iy l).length (iy l)):aH Tryz.prog w (aO S w) 5 (y6 l) v:=by
 obtain⟨N,hi,D⟩:=ai2;have hb:(y6 l).length=(iy l).length:=by simp[y6,iy]
 refine⟨N,iy l,hi,by omega,by rw[D,hb];exact h,fun r O=>?_,fun u I=>?_,fun a r j x J L=>?_⟩
 ·obtain⟨u,_,rfl⟩:=aZ.1 O;rw[D];rfl
 ·obtain⟨z,_,rfl⟩:=aZ.1 I;rfl
 rw[y6,aD,qI]at J;obtain⟨u,I,rfl⟩:=J;cases j with
 | zero=>
  cases L;refine⟨.int .u8 u.toNat,?_,.im _⟩;rw[D,jQ,tz,iy,aD,I];rfl
 | succ j=>cases L
theorem aeC(s:ByteArray):Lib.strCells s=iy s.data.toList:=rfl
theorem agN(a b:List UInt8):iy a++iy b=iy (a++b):=by simp[iy]
theorem aij{w:World}{S:Nat->Prop}{b:Nat}{u0 u1:Value}{l:List UInt8}(z:w.heap[b]?=some (.cells #[u0,u1] 102 (0,0)))(D:u0=.pointer none\/u0=.pointer (some ⟨b,0,none⟩))(I:aH Tryz.prog w (aO S w) 5 (y6 l) u1)(J:∀g,cF u1=some g->¬S g/\g≠b/\g<w.heap.size):BS b (iy l) u0 u1 w:=by
 have u:=ahx I;obtain⟨a,c,L⟩:=dQ u;refine⟨z,D,u,fun e=>?_⟩;rw[fG L]at e;exact (J b e).2.1 rfl
theorem aik{S:Nat->Prop}{w:World}{l:List ByteArray}{v:Value}(hl:l≠[])(h:aO S w (strs l) v):∃D u c,v=.slice (some ⟨D,u,none⟩) l.length c/\∀(j:Nat) x,l[j]?=some x->w.cell? ⟨D,u+j,none⟩=some (.string x):=by
 unfold strs at h;generalize z:(l.map fun s=>[str s])=es at h;cases h with
 | nil a c=>
  cases l with
  | nil=>exact absurd rfl hl
  | cons x l=>cases z
 | sl es k b u c U hc hS hk hcell h=>
  have len:es.length=l.length:=by rw[<-z,E5]
  have J:k=1:=by
   cases l with
   | nil=>exact absurd rfl hl
   | cons x l=>
    have:=hk [str x] (by rw[<-z];simp);simpa using this.symm
  subst J;refine⟨b,u,c,by rw[len],fun j x L=>?_⟩;have e1:es[j]?=some [str x]:=by rw[<-z,aD,L];rfl
  have I:=(hcell j [str x] 0 (str x) e1 rfl).1;have N:U j 0=.string x:=aiP (h j [str x] 0 (str x) e1 rfl);rw[jQ,tz,N]at I;exact I
theorem agO(z:ByteArray)(l:List ByteArray)(hl:l≠[])(hN:l.length<=1000000)(bs:List UInt8)(hlen:bs.length+(Lib.join ((z::l).map (·.data.toList)) [32]).length<=1000000000000):
  V2 C 32 [str z,strs l] 102 5 (y6 bs) (.tu []) true (some (y6 (bs++(adQ z l).data.toList))):=by
 refine⟨⟨_,Tryz.func32,by decide,rfl⟩,fun S w vs b u0 u1 hE hS L U Y2 Me aw hSb I=>?_⟩;obtain⟨V,W,rfl⟩:∃V W,vs=[V,W]:=by
  match vs,L with
  | [a,b],_=>exact⟨a,b,rfl⟩
 have r0:=U 0 _ _ rfl rfl;cases r0;obtain⟨bk,N,c,rfl,D⟩:=aik hl (U 1 _ _ rfl rfl);have Y:=aij Y2 Me aw I;obtain⟨a1,c1,Z⟩:=dQ Y.own;refine (iv b (iy bs) u0 u1 z l bk N c w Y D hN (by rw[show (iy bs).length=bs.length by simp[iy]];exact hlen)).mono ?_;rintro e w' ⟨rfl,O,R,J,g4⟩;obtain⟨a2,c2,L3⟩:=dQ R.own;have fr:Fr (fun k=>k=b\/cF u1=some k) w w':=by
  refine⟨J.os,J.tape,J.output,J.size,fun k hk hn=>J.block k hk fun h=>hn (h.imp id fun h=>?_)⟩;rw[<-fG Z];exact h
 refine⟨_,rfl,fr,⟨#[],rfl,rfl,fun i x u h=>(by cases h)⟩,O,R.heap,ahy (by have:=R.own;rw[aeC,agN]at this;exact this),fun g hg=>?_⟩;obtain⟨q1,q2⟩:=g4 g (by rw[fG L3];exact hg);exact⟨q1,q2.imp (fun h=>by rw[<-fG Z];exact h) id⟩
theorem ahz(bs:List UInt8):V2 C 36 [] 102 5 (y6 bs) (.p (i64 bs.length)) false (some (y6 bs)):=by
 refine⟨⟨_,Tryz.func36,by decide,rfl⟩,fun S w vs b u0 u1 hE hS z hr D J aw hSb u=>?_⟩;obtain rfl:vs=[]:=by
  match vs,z with
  | [],_=>rfl
 have L:=aij D J aw u;refine (Tryz.Builder_Len_f 0 b (iy bs) w (Lib.IsBuilderF.of L.is)).mono ?_;rintro e w' ⟨rfl,rfl⟩;refine⟨_,rfl,Fr.refl _ _,?_,u1,D,aw,fun g I=>⟨(u g I).2.2,.inl I⟩⟩;rw[show (iy bs).length=bs.length by simp[iy]];exact .im _
theorem ajO(b:Nat)(l:List UInt8)(u0 u1:Value)(w:World)(h:BS b (Lib.byteCells l) u0 u1 w)(N:l≠[]):
  Calls Tryz.prog 37 #[.pointer (some ⟨b,0,none⟩)] w fun e w'=>e=.returned (.string ⟨l.toArray⟩)/\Fr (fun k=>u1.ownBlock=some k) w w':=by
 obtain⟨I,Me,hown,cO⟩:=h;have D:l.length≠0:=by simpa using N
 rw[Lib.byteCells_length]at hown;obtain⟨g,u,z,rfl,Zy,O,Yf,J,nP,adx⟩:∃g u z,u1=.slice (some ⟨g,0,none⟩) l.length u/\0<=g/\w.heap[g]?=some (.cells z 5 (0,0))/\l.length<=u/\u<=maxLen/\z.size=u*1/\z.toList.take (l.length*1)=Lib.byteCells l:=by
  rcases hown.2 with⟨_,R⟩ | ⟨g,u,z,U,r⟩
  ·exact absurd R D
  exact⟨g,u,z,U,r⟩
 have c1:w.drew.cell? ⟨b,1,none⟩=some (.slice (some ⟨g,0,none⟩) l.length u):=by
  have:w.drew.heap[b]?=some (.cells #[u0,.slice (some ⟨g,0,none⟩) l.length u] 102 (0,0)):=I;rw[aag this];rfl
 have hSD:(Builtin.unsafeSliceData_ #[100] 149 #[.slice (some ⟨g,0,none⟩) l.length u]).run Tryz.prog w.drew=.ok (.pointer (some ⟨g,0,none⟩)) w.drew:=
  Lib.run_unsafeSliceData_row _ _ _ _ _ _ (by omega)
 have hUS:(Builtin.unsafeString_ #[149,3] 9 #[.pointer (some ⟨g,0,none⟩),.int .i64 l.length]).run Tryz.prog w.drew=.ok (.string ⟨l.toArray⟩) (w.drew.freeze ⟨g,0,none⟩ l.length):=by
  refine Lib.run_unsafeString_row w.drew 149 3 9 5 Tryz.underlying149 (by kernel_rfl) g z.size (by have V:w.drew.heap[g]?=some (.cells z 5 (0,0)):=O;simp[World.shape?,V]) l N (by omega) (by unfold maxLen at J;omega) ?_;intro j x W;have:=hown.cells (g:=g) rfl j (.int .u8 x.toNat) (by simp[Lib.byteCells,W]);exact this
 have fin:Fr (fun k=>(Value.slice (some ⟨g,0,none⟩) l.length u).ownBlock=some k) w (w.drew.freeze ⟨g,0,none⟩ l.length):=by
  unfold World.freeze;rw[aa D];refine⟨rfl,rfl,rfl,b_ (show w.heap.size=(Array.modify w.heap g _).size from (Array.size_modify ..).symm),fun k _ Y=>?_⟩;have L:¬g=k:=fun e=>Y (by rw[<-e];rfl);show (Array.modify w.heap g _)[k]?=w.heap[k]?;rw[tA,aa L]
 have mixed:Tryz.prog.follows Departure.mixedOrders=true:=by kernel_rfl
 have Z:=aai fin;clear fin
 go_enter Tryz.func37,Tryz.ntmps37
 go_wp2
 go_region_o
 all_goals (go_wp2;go_ret;exact⟨rfl,Z.out⟩)
theorem agP(bs:List UInt8)(J:bs≠[]):V2 C 37 [] 102 5 (y6 bs) (.p (str (Xi bs))) false none:=by
 refine⟨⟨_,Tryz.func37,by decide,rfl⟩,fun S w vs b u0 u1 hE hS D hr L N aw hSb u=>?_⟩;obtain rfl:vs=[]:=by
  match vs,D with
  | [],_=>rfl
 have I:=aij L N aw u;obtain⟨a1,c1,O⟩:=dQ I.own;refine (ajO b bs u0 u1 w I J).mono ?_;rintro e w' ⟨rfl,z⟩;refine⟨_,rfl,⟨z.os,z.tape,z.output,z.size,fun k hk R=>z.block k hk fun h=>R (.inr (by rw[<-fG O];exact h))⟩,.im _,trivial⟩
def agQ:ByteArray:=⟨#[114,117,108,101,115]⟩
def itS(n:Int):ByteArray:=Xi (Lib.itoa n)
def r5:u6:=⟨0,5,0,0,0,[],[]⟩
def w5:List ByteArray:=[itS 0,itS 5,itS 0,itS 0,itS 0]
def L5:List UInt8:=[114,117,108,101,115,32,48,32,53,32,48,32,48,32,48,10]
theorem ok5:xj r5:=⟨(fun c h=>by cases h),by decide,by decide⟩
theorem ajQ:(adQ agQ w5).data.toList=L5:=by kernel_rfl
theorem alK:(Lib.join ((agQ::w5).map (·.data.toList)) [32]).length=15:=by kernel_rfl
theorem agf:ai C 15 [.pv (.ag (rl r5))] (.tu [str (Xi L5),i64 0]) []:=by
 have u:=yU r5 ok5;rw[show jW r5=0 by kernel_rfl]at u;have hl:=agO agQ w5 (by simp[w5]) (by simp[w5]) [] (by rw[alK];simp);rw[ajQ]at hl;refine FP ⟨[5],[],[],[7,11,16,20],[(7,[true,true,true,true,false,true,false,false,false,true,false,false,false,true,false,false,false,true,false,false,true,true,true]),(11,[true,false,false,true,true,true,false,true,false,false,false,true,false,false,true,true]),(16,[true,true,true,false,true,false,false,true,true,true]),(20,[true,true,true,true,false,true,false,false,false,true,false,false,false,true,false,false,true,true,true,true])],[]⟩ hC Tryz.func15 rfl (by kernel_rfl) fun _=>?_;refine⟨_,_,u,?_⟩;refine abA ((aA.iT (by exact hC) _ 1 (y:=.ip (rl r5)) (fz:=[(1,.nd (rl r5))]) (by exact⟨rfl,rfl⟩)).trans (aA.ahI (by exact hC) _ 5 1 90000 5 102 _ _ (by decide) (by decide) (by exact rfl) (by exact rfl) (by exact rfl) (by decide))) ?_;refine⟨_,_,(Cp 0 ⟨by decide,by decide⟩),_,_,(Cp 5 ⟨by decide,by decide⟩),_,_,(Cp 0 ⟨by decide,by decide⟩),_,_,(Cp 0 ⟨by decide,by decide⟩),_,_,(Cp 0 ⟨by decide,by decide⟩),_,_,_,hl,?_⟩;refine aP (fun _:Unit=>True) (fun _=>[(1,.p (.ip (rl r5))),(5,.bx 5 0),(6,.fn 32 [.bx 5 0]),(7,.p (.im (.func (.func 35) #[] #[]))),(46,.p (i64 0)),(47,.p (i64 0))]) (fun _=>[(5,.kr 102 [.bx 5 0,.ow 90000]),(90000,.row 5 (y6 L5))]) (fun _=>0) () _ (aA.N0 _ 43 90000 (by decide) (by decide)) trivial ⟨Z,Z,Z,Z,Z,Z,Y⟩ ⟨Z,Z,Y⟩ fun _ _ t h=>?_;refine aP (fun _:Unit=>True) (fun _=>[(5,.bx 5 0),(70,.p (i64 0)),(71,.p (i64 0))]) (fun _=>[(5,.kr 102 [.bx 5 0,.ow 90000]),(90000,.row 5 (y6 L5))]) (fun _=>0) () _ (aA.refl _ _) trivial ⟨Z,Z,Z,Y⟩ ⟨Z,Z,Y⟩ fun _ _ t h=>?_;refine⟨_,_,_,ahz L5,_,_,_,agP L5 (by simp[L5]),?_,trivial⟩;rfl
theorem ahA:ai C 7 [] (.p (bool true)) []:=by
 refine fW hC Tryz.func7 rfl (by kernel_rfl) fun _=>?_;refine⟨_,_,agf,?_,trivial⟩;exact ar (fun z=>PV.im (Value.bool z)) (show decide (Xi L5=Xi L5)=true from nq rfl)
open Reg (yr dW aX)
theorem aeM(l:List ByteArray)(hN:l.length<=140737488355328):ai C 6 [.pv (strs l),.pv (strs l)] (.p (bool true)) []:=by
 refine fW hC Tryz.func6 rfl (by kernel_rfl) fun _=>?_;have J:=an l fun s=>[str s];apply iW<;>intro u<;>try simp only[zB]at u
 ·exact absurd trivial u
 refine aP (fun i:Nat=>i<=l.length) (fun i=>[(0,.p (strs l)),(1,.p (strs l)),(12,.p (i64 (l.map fun s=>[str s]).length)),(13,.p (i64 i))]) (fun _=>[]) (fun i=>l.length-i) 0 _ (aA.refl _ _) (ak _) ⟨Z,Z,Z,Z,Y⟩ trivial fun i hi t h=>?_;apply iW<;>intro z<;>try simp only[zB]at z
 ·rw[J]at z;obtain⟨r,D⟩:=ax (l:=l) (i:=i) (by omega);refine⟨[str r],(idx rfl D),[str r],(idx rfl D),iW ?_ ?_⟩<;>intro I<;>try simp only[zB]at I
  ·exact absurd trivial I
  exact⟨wO (by omega),(i+1),_,aA.refl _ _,by omega,by omega,⟨Z,Z,Z,Z,Y⟩,trivial⟩
 refine⟨?_,trivial⟩;rfl
theorem aiQ(t:List bG)(x:DP)(a:yr):(adj t x a).1.length<=2500:=by
 rw[adj];split
 ·rename_i b;rw[HB,E5];exact (acp (abV (adi b).2)).1
 exact ak _
theorem ail(t:List bG)(x:DP)(a:yr)(u:Gq t)(z:Gy x)(D:M6 a):ai C 3 [.pv (.sl (t.map vU)),.pv (.ag (S9 x)),.pv (.ag (uR a))] (.p (bool true)) []:=by
 have J:=afq t x a u z D;have L:=agd t x a u z D;have N:=aeM (adj t x a).1 (by have:=aiQ t x a;omega);generalize adj t x a=R at *;obtain⟨R1,R2⟩:=R;refine fW hC Tryz.func3 rfl (by kernel_rfl) fun _=>?_;refine⟨_,_,J,_,_,L,_,_,N,iW ?_ ?_⟩<;>intro I<;>try simp only[zB]at I
 ·refine⟨_,_,ahA,?_,trivial⟩;rfl
 exact absurd trivial I
end M
end Go.Proofs.YtliffnpbaeijgaaGreatDoor
namespace Go.Proofs.YtliffnpbaeijgaaGreatDoor
open Go.ChangeShapes Go.WideShapes Go.ChangeAt Go.RowKit Go.AM
open Go.ChangeMaps (open_string shut_string)
open Go.Proofs.YtliffnpbaeijgaaGreatDoor.M
namespace rulesNetsMatchSpec
theorem Di{P:Program}{f:FuncId}{fn:Func}{s:ChangeSpec}{c:OpenClaim}(J:(laidOutB P)=true)(L:(mapsRowed P)=true)(N:((c.inPlace==P.inPlace f))=true)(z:((c.unfollowed==P.unfollowed f))=true)(D:((c.recurses==P.recurses f))=true)(O:((c.named==P.varsNamed f))=true)(I:((c.plainKeys==P.plainKeys))=true)(R:(P.stopsHeard)=true)(U:(P.mayEnter)=true)(V:((c.lifted==P.liftsFinal))=true)(W:((P.make==some c.make))=true)
  (u:(c.wf (OpenSpec.ofChange s)&&true&&fn.params.all (P.readableRec ·)&&namedTie P c.named s.vars&&(c.stops==[])&&(P.stops==[])&&(c.knobs==[])&&(P.stopKnobs==[])&&true&&(c.maps==(fn.params.toList++s.plain.varTypes P).any (P.mapsRec ·))&&(c.ifaces==(fn.params.toList++s.plain.varTypes P).any (P.ifacesRec ·))&&(c.mapsOut==P.mapsAmong fn.resultTypes.toList)&&(c.loops==(fn.params.toList++s.plain.varTypes P).any (P.loopsFrom ·))&&(c.wideKeys==(fn.params.toList++s.plain.varTypes P++fn.resultTypes.toList).any (P.wideKeysFrom ·))&&s.vars.all (P.varReadable ·)&&fn.resultTypes.all (fun t=>P.readableRec t&&decide (t<P.types.size))&&(c.ifacesOut==fn.resultTypes.toList.any (P.ifacesRec ·))&&(c.loopsOut==fn.resultTypes.toList.any (P.loopsFrom ·))&&c.shortTexts.isNone&&(c.kinds==(if c.domain.isEmpty then [] else fn.params.toList.map fun t=>match P.underlying t with | some (.int k)=>some k | _=>none))&&(c.pinned==c.pinnedBy)&&(c.veiled==(fn.params.toList++s.plain.varTypes P++fn.resultTypes.toList).any (P.veiledRec ·))&&c.veiledFits P fn.params.toList (fn.params.toList++s.plain.varTypes P++fn.resultTypes.toList))=true):joinedFacts P f fn s c=true:=by
 simp only[aJ]at u;simp only[joinedFacts,aJ];simp only[J,L,N,z,D,O,I,R,U,V,W,and_true];simp only[and_assoc,and_true]at u ⊢;exact u
theorem X4{W:World}(u:laidMetH Tryz.prog Rows.rulesNetsMatchSpecUptoRow.laid W)(h:W.ShapedOpen Tryz.prog):M.Env (fun b=>b<W.heap.size) W:=by
 refine IE (Go.Proofs.cell_of_shapedOpen_int (zero:=#[.int .i64 0]) (t:=3) h (iY (by kernel_rfl)) (by kernel_rfl) rfl (by kernel_rfl) (by kernel_rfl) FR) ?_;rw[MakeChecks.laidMetH_plain _ _ _ (by kernel_rfl)]at u;exact Lib.tabIs_of_head (rest:=Rows.rulesNetsMatchSpecUptoRow.laid.drop 3) M.W4 (by kernel_rfl) Tryz.underlying249 FW (by kernel_rfl) (by kernel_rfl) (laidMet.tail (laidMet.tail u))
theorem SQ(H:Type)(enc:TypeId×Value->H)(W:World)(base:Nat)(args:Array Value)(ds U:List (DataW H))(before:List MemPlace)
  (u:∀(j:Nat) t v,Tryz.f3.params[j]?=some t->args[j]?=some v->Value.okWide Tryz.prog W .any base t v)
  (V:DataW.Whole enc Tryz.prog Tryz.f3.params.toList Rows.rulesNetsMatchSpecSpec.vars false W args.toList ds U before) (hk:Rows.uptoSmall H (ds++U)=true) (hE:M.Env (fun b=>b<W.heap.size) W):
  Calls Tryz.prog 3 args W fun e D=>∃v,e=.returned v/\Rows.rulesNetsMatchSpecSpec.post enc Tryz.prog Tryz.f3 false true false false W args v D:=by
 have J:=V;obtain⟨Y,q,L,hV,rfl,Hs,SZ⟩:=V;have I:DataW.TrodAll enc Tryz.prog W 0 (fun _=>true) true Tryz.f3.params.toList args.toList ds Y:=L;have z:=fun (D:World) (hb:Below W.heap.size W D)=>EC ZT hb (by kernel_rfl) I I.lt;rw[Tryz.params3]at I u;obtain⟨Z,vs0,d0,ds0,p0,q0,hargs,rfl,hpp,h0,r0⟩:=trodAll_cons I;obtain⟨v1,vs1,d1,ds1,p1,q1,rfl,rfl,rfl,h1,r1⟩:=trodAll_cons r0;obtain⟨v2,vs2,d2,ds2,p2,q2,rfl,rfl,rfl,h2,r2⟩:=trodAll_cons r1;obtain⟨rfl,rfl,rfl⟩:=trodAll_nil r2;obtain rfl:args=#[Z,v1,v2]:=by cases args;simp_all
 obtain⟨rfl,rfl⟩:=trodVars_none hV;obtain⟨_,w0,t,e0,z0⟩:=ag8 (S:=fun b=>b<W.heap.size) Tryz.underlying22 (aiu fun _ h=>h) (u 0 22 Z rfl rfl) h0;cases e0;have N:Gq t:=z0 (Uc hk (q_ _ (by repeat (first | exact bW .. | apply cD))));obtain⟨_,w1,x,rfl,z1⟩:=B5 (S:=fun b=>b<W.heap.size) Tryz.underlying26 (Xo fun _ h=>h) (u 1 26 v1 rfl rfl) h1;have O:Gy x:=z1 (Uc hk (q_ _ (by repeat (first | exact bW .. | apply cD))));obtain⟨_,w2,a,rfl,z2⟩:=B5 (S:=fun b=>b<W.heap.size) Tryz.underlying32 (ai9 fun _ h=>h) (u 2 32 v2 rfl rfl) h2;have R:M6 a:=XT (agn _ _ _ (Uc hk (q_ _ (by repeat (first | exact bW .. | apply cD)))) z2);refine (W7 (C:=C) (xs:=[.sl (t.map vU),.ag (S9 x),.ag (uR a)]) (y:=.bool true) (ail t x a N O R) hE (ue (w0) (ue (w1) (ue (w2) Q9)))).mono fun e D ⟨he,hb⟩=>?_;subst he;exact⟨_,rfl,DN (pa:=Y) (pv:=[]) J (fun _ _ _=>trodAll_cons_mk (shut_bool tS _) trodAll_mk0) (fun sp h=>z D hb sp (fun p hp=>h p (q_ _ hp))) (fun _ _=>rfl) rfl
  hb (ok_one (by kernel_rfl) rfl (okWide_bool_mk tS _))⟩
theorem reads(os:Os){H:Type}(enc:TypeId×Value->H):∃u,DataW.whole enc Tryz.prog ((World.laidAll Tryz.prog os Rows.rulesNetsMatchSpecUptoRow.laid).forCall (fun _ _=>0) ⟨#[],#[.slice none 0 0,.agg #[.slice none 0 0,.slice none 0 0],.agg #[.slice none 0 0,.slice none 0 0,.slice none 0 0,.slice none 0 0]],[]⟩).memory Tryz.f3.params.toList Rows.rulesNetsMatchSpecSpec.vars false (#[.slice none 0 0,.agg #[.slice none 0 0,.slice none 0 0],.agg #[.slice none 0 0,.slice none 0 0,.slice none 0 0,.slice none 0 0]]:Array Value).toList 8=some ([.nil,.agg [.nil,.nil],.agg [.nil,.nil,.nil,.nil]],[],u):=
 ⟨[],by kernel_rfl⟩
theorem lifted(os:Os)(u:os.Started)(H:Type)(enc:TypeId×Value->H)(F:Stop.Interp):
  ReturnsInHanded {} Tryz.checked os 3 .any ((Rows.OpenSpec.upto Rows.rulesNetsMatchSpecSpec).preRow enc Tryz.prog Tryz.f3 Rows.rulesNetsMatchSpecUptoRow.domain false Rows.rulesNetsMatchSpecUptoRow.laid) (((Rows.OpenSpec.upto Rows.rulesNetsMatchSpecSpec).at F).post enc Tryz.prog Tryz.f3 false true false false):=by
 obtain⟨places,I⟩:=reads os enc;refine returnsInHanded_of_row (C:=Tryz.checked) (s:=Rows.OpenSpec.upto Rows.rulesNetsMatchSpecSpec) own u (by kernel_rfl) Tryz.func3
  (Am (enc:=enc) (C:=Tryz.checked) (World.laidAll Tryz.prog os Rows.rulesNetsMatchSpecUptoRow.laid) #[.slice none 0 0,.agg #[.slice none 0 0,.slice none 0 0],.agg #[.slice none 0 0,.slice none 0 0,.slice none 0 0,.slice none 0 0]] (World.laidAll_os _ _ _) (World.shaped_of_ZipB (by kernel_rfl) (by kernel_rfl)) (by kernel_rfl)
   (OpenSpec.preRow_of_cond 8 I (by kernel_rfl) (fun k hk=>by cases hk;kernel_rfl) (by kernel_rfl)
    (by rw[MakeChecks.laidMetH_plain _ _ _ (by kernel_rfl)];exact laidMet_laidAll _ (by kernel_rfl) (by kernel_rfl)))) ?_
 intro W base args ds J before z L _ N _ O D _;exact SQ H enc W base args ds J before z L (N _ rfl) (X4 O D)
theorem X5:laidOutB Tryz.prog=true:=by kernel_rfl
theorem U5:mapsRowed Tryz.prog=true:=by kernel_rfl
theorem X6:(Rows.rulesNetsMatchSpecUptoRow.inPlace==Tryz.prog.inPlace 3)=true:=by kernel_rfl
theorem aar:(Rows.rulesNetsMatchSpecUptoRow.unfollowed==Tryz.prog.unfollowed 3)=true:=by kernel_rfl
theorem aas:(Rows.rulesNetsMatchSpecUptoRow.recurses==Tryz.prog.recurses 3)=true:=by kernel_rfl
theorem U6:(Rows.rulesNetsMatchSpecUptoRow.named==Tryz.prog.varsNamed 3)=true:=by kernel_rfl
theorem aat:(Rows.rulesNetsMatchSpecUptoRow.plainKeys==Tryz.prog.plainKeys)=true:=by kernel_rfl
theorem U7:Tryz.prog.stopsHeard=true:=by kernel_rfl
theorem U8:Tryz.prog.mayEnter=true:=by kernel_rfl
theorem X7:(Rows.rulesNetsMatchSpecUptoRow.lifted==Tryz.prog.liftsFinal)=true:=by kernel_rfl
theorem X8:(Tryz.prog.make==some Rows.rulesNetsMatchSpecUptoRow.make)=true:=by kernel_rfl
theorem X9:false=Rows.rulesNetsMatchSpecUptoRow.goesBy Tryz.prog:=by kernel_rfl
theorem U9:false=Tryz.prog.looks []:=by kernel_rfl
theorem adq:Rows.rulesNetsMatchSpecUptoRow.wfByText (Rows.OpenSpec.upto Rows.rulesNetsMatchSpecSpec)=true:=by kernel_rfl
theorem jo:joinedFacts Tryz.prog 3 Tryz.f3 (Rows.OpenSpec.upto Rows.rulesNetsMatchSpecSpec).bare Rows.rulesNetsMatchSpecUptoRow=true:=
 Di X5 U5 X6 aar aas U6 aat U7 U8 X7 X8 (by kernel_rfl)
theorem SS:Rows.RulesNetsMatchSpecUptoSaid:=
 OpenClaim.holds_of_cond 3 Tryz.f3 rfl rfl rfl rfl rfl rfl rfl ⟨rfl,rfl,rfl,rfl,rfl⟩ rfl rfl rfl rfl rfl (by kernel_rfl) Tryz.func3 jo
  (iY (by kernel_rfl)) (by unfold Func.isWrapper;first | (rw[ae (by decide +kernel)];kernel_rfl) | (rw[aa (by decide +kernel)];exact⟨rfl,rfl⟩))
  (fun os u H enc _ F=>by rw[OpenClaim.pre_eq_preRow];exact lifted os u H enc F)
theorem plain(f:FuncId)(fn:Func)(I:Tryz.pinned.checked.prog.funcNamed Rows.rulesNetsMatchSpecUptoRow.func=some f)(z:Tryz.pinned.checked.prog.funcs[f]?=some fn):
  false=Tryz.pinned.checked.prog.looks []/\∀(j:Nat) t,fn.params[j]?=some t->Tryz.pinned.checked.prog.wantsStandIn t=false:=by
 obtain rfl:f=3:=Option.some.inj ((show Tryz.prog.funcNamed Rows.rulesNetsMatchSpecUptoRow.func=some 3 by kernel_rfl).symm.trans I) |>.symm;obtain rfl:fn=Tryz.f3:=(Option.some.inj (Tryz.func3.symm.trans z)).symm;refine⟨U9,fun j t D=>?_⟩;rw[Tryz.params3]at D;have J:=fB D;have L:((Tryz.f3.params.toList).all fun u=>!Tryz.prog.wantsStandIn u)=true:=by kernel_rfl
 exact (show Tryz.prog.wantsStandIn t=false by simpa using dY.1 L t (by rw[Tryz.params3];simpa using J))
theorem cardUpto:Rows.RulesNetsMatchSpecUptoCardSaid:=
 Claim7.holds_tied_plain_at .later [] _ _ _ _ SS (fun _ h=>by cases h) adq (fun _ h=>by cases h) rulesNetsMatchSpecUpto_row_tie rfl ⟨rfl,rfl⟩ (by kernel_rfl) rfl plain X9
end rulesNetsMatchSpec
end Go.Proofs.YtliffnpbaeijgaaGreatDoor
