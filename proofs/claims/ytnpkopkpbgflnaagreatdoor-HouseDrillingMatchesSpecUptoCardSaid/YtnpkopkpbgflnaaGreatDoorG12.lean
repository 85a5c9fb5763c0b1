/- Part 12 of the proof of HouseDrillingMatchesSpec. -/
import Derived.Test.YtnpkopkpbgflnaaGreatDoorG11
import Derived.Laws.IdiomCopy
import Derived.Laws.CopyRow
import Derived.Lib.AppendZerosOnto
import Derived.Lib.Overlaps
import Derived.Laws.NewBlocks
import Derived.Shelf.RegionOpenPlain
import Derived.Lib.Walk
import Derived.Lib.SliceRun
import Derived.Lib.JoinLaws
import Derived.Laws.Externs
set_option linter.unusedVariables false
set_option linter.unusedSimpArgs false
set_option maxRecDepth 100000
set_option maxHeartbeats 8000000
namespace Go
abbrev sW:=@Go.Proofs.Tryz.func183
abbrev JP:=@List.length_eq_zero_iff
abbrev vT:=@Go.Proofs.Tryz.ntmps183
abbrev ox:=@Go.Lib.wpList_append_run
abbrev sX:=@Nat.min_def
abbrev zh:=@Go.IntKind.wrap_i64
abbrev sY:=@Go.Proofs.Tryz.func294
abbrev vU:=@Go.Proofs.Tryz.ntmps294
end Go
namespace Go.Proofs.YtnpkopkpbgflnaaGreatDoor
namespace M
open Go.AM Go.RowKit Go.Lib
open Reg (lexLt v8 eB)
theorem fT(n lo hi:Int):af C 88 [.pv (i64 n),.pv (i64 lo),.pv (i64 hi)] (.p (bool (dR n lo hi))) []:=by
 refine fW hC Tryz.func88 rfl (by kernel_rfl) fun _=>?_;apply iW<;>intro h<;>(refine⟨?_,trivial⟩)<;>simp[bool,dR,h]
theorem GI(s:ByteArray)(hs:s.size<=9223372036854775807):af C 186 [.pv (str s)] (.p (bool (ct s))) []:=by
 refine fW hC Tryz.func186 rfl (by kernel_rfl) fun _=>?_;have hsz:s.data.toList.length=s.size:=by simp
 refine ax (fun i:Nat=>i<=s.size/\(s.data.toList.take i).all okB=true) (fun i=>[(0,.p (str s)),(6,.p (i64 s.size)),(7,.p (i64 i))]) (fun _=>[]) (fun i=>s.size-i) 0 _ (au.refl _ _) ⟨ai _,by simp⟩ ⟨Z,Z,Z,Y⟩ trivial fun i hi t h=>?_;apply iW<;>intro D<;>try simp only[zB]at D
 ·obtain⟨b,hb,u⟩:=lC (s:=s) (i:=i) (by omega);have I:okB b=false->ct s=false:=fun h=>by
   rw[ct,eH];refine .inl ?_;rw[jV];exact⟨b,an u,by simp[h]⟩
  have d:okB b=true->(s.data.toList.take (i+1)).all okB=true:=fun h=>by rw[aN u,jW,hi.2];simp[h]
  refine⟨b,⟨by omega,by rw[bU];exact hb⟩,?_⟩;have z:=gN ⟨#[95,43,45,35]⟩ b.toNat;rw[byte_back]at z
  repeat' first | apply iW<;>intro h<;>try simp only[zB]at h | refine⟨_,_,z,?_⟩
  all_goals skip
  all_goals first
   | (
     refine⟨wO (by omega),?_⟩;refine⟨(i+1),_,au.refl _ _,?_⟩;exact⟨⟨by omega,d (by simp only[okB,eG,aK,cz,jj,dI];omega)⟩,by omega,⟨Z,Z,Z,Y⟩,trivial⟩)
   | (
     refine⟨?_,trivial⟩;rw[I (by simp only[okB,gV,eH,dI,sF,cz];omega)];rfl)
 have J:s.data.toList.all okB=true:=by
  have:=hi.2
  rwa [aW (by omega)]at this
 refine⟨_,_,(fT s.size 1 40),?_,trivial⟩;rw[ct,J,fu];rfl
theorem EP(x y:Int):af C 187 [.pv (.ag [i64 x,i64 y])] (.p (bool (Reg.kC x&&Reg.kC y))) []:=by
 have d:=fT x (-1000000) 1000000;have u:=fT y (-1000000) 1000000;have z:dR x (-1000000) 1000000=Reg.kC x:=rfl;have D:dR y (-1000000) 1000000=Reg.kC y:=rfl;rw[z]at d;rw[D]at u;refine fW hC Tryz.func187 rfl (by kernel_rfl) fun _=>?_;refine⟨_,_,d,?_⟩;cases g:Reg.kC x with
 | false=>(refine⟨?_,trivial⟩);rfl
 | true=>
  refine⟨_,_,u,?_,trivial⟩;rfl
theorem qz(l:List dM)(hN:l.length<=1048576):af C 87 [.pv (.sl (l.map nB))] (.p (i64 (eh l))) []:=by
 refine fW hC Tryz.func87 rfl (by kernel_rfl) fun _=>?_;have N:=ak l nB;apply iW<;>intro O<;>try simp only[zB]at O
 ·refine⟨?_,trivial⟩;rw[eh,ae (by omega)];rfl
 rw[eh,aa (by omega)];refine ax (fun i:Nat=>i<=l.length/\(l.take i).all gi=true) (fun i=>[(8,.p (.sl (l.map nB))),(9,.p (i64 l.length)),(10,.p (i64 i))]) (fun _=>[]) (fun i=>l.length-i) 0 _ (au.refl _ _) ⟨ai _,rfl⟩ ⟨rfl,ah (fun n:Nat=>AV.p (i64 n)) N,Z,Y⟩ trivial fun i hi t h=>?_;apply iW<;>intro R<;>try simp only[zB]at R
 ·obtain⟨x,D⟩:=aj (l:=l) (i:=i) (by omega);have d:gi x=false->(if l.all gi=true then (0:Int) else 1)=1:=fun e=>aa (by rw[vu,jV];exact⟨x,an D,by rw[e];decide⟩);have U:gi x=true->(l.take (i+1)).all gi=true:=fun e=>by rw[aN D,jW,hi.2];simp[e]
  refine⟨(nB x),(idx rfl D),_,_,(EP x.x x.y),iW ?_ ?_⟩<;>intro u<;>try simp only[zB]at u
  ·refine⟨?_,trivial⟩;rw[d (by rw[gi,u];rfl)];rfl
  refine⟨_,_,(fT x.size 1 10000),iW ?_ ?_⟩<;>intro z<;>try simp only[zB]at z
  ·refine⟨?_,trivial⟩;rw[d (by rw[gi,u,z];rfl)];rfl
  refine⟨_,_,(fT x.depth 1 100000),iW ?_ ?_⟩<;>intro I<;>try simp only[zB]at I
  ·refine⟨?_,trivial⟩;rw[d (by rw[gi,u,z,I];rfl)];rfl
  exact⟨wO (by omega),(i+1),_,au.refl _ _,⟨by omega,U (by rw[gi,u,z,I];rfl)⟩,by omega,⟨Z,Z,Z,Y⟩,trivial⟩
 have J:=hi.2;rw[aW (by omega)]at J;refine⟨?_,trivial⟩;rw[ae J];rfl
theorem l8(l:List gG)(U:oG l):af C 86 [.pv (.sl (l.map ef))] (.p (i64 (eo l))) []:=by
 refine fW hC Tryz.func86 rfl (by kernel_rfl) fun _=>?_;have V:=ak l ef;apply iW<;>intro W<;>try simp only[zB]at W
 ·refine⟨?_,trivial⟩;rw[eo,ae (by omega)];rfl
 rw[eo,aa (by omega)];refine ax (fun i:Nat=>i<=l.length/\∀k,k<i->rF l k=0) (fun i=>[(0,.p (.sl (l.map ef))),(8,.p (.sl (l.map ef))),(9,.p (i64 l.length)),(10,.p (i64 i))]) (fun _=>[]) (fun i=>l.length-i) 0 _ (au.refl _ _) ⟨ai _,fun k h=>by omega⟩ ⟨rfl,rfl,ah (fun n:Nat=>AV.p (i64 n)) V,Z,Y⟩ trivial fun i hi t h=>?_;apply iW<;>intro h1<;>try simp only[zB]at h1
 ·obtain⟨x,D⟩:=aj (l:=l) (i:=i) (by omega);have d:rF l i=(if ct x.name=true then (if dR x.size 1 10000=true then (if dR x.life 1 2000=true then (if dR x.stack 0 1000=true then (if bg (l.map gG.name) i=true then 8 else 0) else 1) else 1) else 1) else 5):=by simp only[rF,D]
  refine⟨(ef x),(idx rfl D),?_⟩;have so:=U.2 x (an D);refine⟨_,_,(GI x.name so.le),iW ?_ ?_⟩<;>intro I<;>try simp only[zB]at I
  ·refine⟨?_,trivial⟩;rw[aa (by simp[I])]at d;rw[ao hi.2 (by omega) d (by decide)];rfl
  rw[ae (by simpa using I)]at d;refine⟨_,_,(fT x.size 1 10000),iW ?_ ?_⟩<;>intro J<;>try simp only[zB]at J
  ·refine⟨?_,trivial⟩;rw[aa (by simp[J])]at d;rw[ao hi.2 (by omega) d (by decide)];rfl
  rw[ae (by simpa using J)]at d;refine⟨_,_,(fT x.life 1 2000),iW ?_ ?_⟩<;>intro N<;>try simp only[zB]at N
  ·refine⟨?_,trivial⟩;rw[aa (by simp[N])]at d;rw[ao hi.2 (by omega) d (by decide)];rfl
  rw[ae (by simpa using N)]at d;refine⟨_,_,(fT x.stack 0 1000),iW ?_ ?_⟩<;>intro O<;>try simp only[zB]at O
  ·refine⟨?_,trivial⟩;rw[aa (by simp[O])]at d;rw[ao hi.2 (by omega) d (by decide)];rfl
  rw[ae (by simpa using O)]at d;apply iW<;>intro o1<;>try simp only[zB]at o1
  ·obtain⟨z,R⟩:=aj (l:=l) (i:=i-1) (by omega);rw[dK (f:=gG.name) D R (by omega)]at d;refine⟨wO (by omega),(ef z),(idx (show (i:Int)-1=((i-1:Nat):Int) by omega) R),iW ?_ ?_⟩<;>intro u<;>try simp only[zB]at u
   ·refine⟨?_,trivial⟩;have u:(cE (gG.name x) (gG.name z)||decide (gG.name x=gG.name z))=true:=by simpa [cE] using u
    rw[u,ae rfl]at d;rw[ao hi.2 (by omega) d (by decide)];rfl
   have u:(cE (gG.name x) (gG.name z)||decide (gG.name x=gG.name z))=false:=by simpa [cE] using u
   rw[u,aa (by decide)]at d;exact⟨wO (by omega),(i+1),_,au.refl _ _,⟨by omega,bO hi.2 d⟩,by omega,⟨Z,Z,Z,Z,Y⟩,trivial⟩
  have h0:i=0:=by omega
  rw[fA h0,aa (by decide)]at d;exact⟨wO (by omega),(i+1),_,au.refl _ _,⟨by omega,bO hi.2 d⟩,by omega,⟨Z,Z,Z,Z,Y⟩,trivial⟩
 refine⟨?_,trivial⟩;rw[aI fun k _ hk=>hi.2 k (by omega)];rfl
theorem N4(n:Int)(h:-1000000<=n/\n<=1000000):af C 188 [.pv (i64 n)] (.p (i64 (max n (0-n)))) []:=by
 refine fW hC Tryz.func188 rfl (by kernel_rfl) fun _=>?_;refine⟨wO (by omega),?_,trivial⟩;rfl
theorem Ix(size:Int)(b c:gG):qe size b c=true↔rG size b<rG size c\/rG size b=rG size c/\c.size<b.size:=by
 unfold qe Ot vM;rw[cz]
 repeat' split
 all_goals omega
theorem GJ(b:gG)(size:Int)(h1:1<=b.size/\b.size<=10000)(h2:1<=size/\size<=10000):af C 188 [.pv (i64 (b.size-size))] (.p (i64 (rG size b))) []:=by
 have h:=N4 (b.size-size) (by omega);have e:max (b.size-size) (0-(b.size-size))=rG size b:=by unfold rG;omega
 rwa [e]at h
theorem ER(t:List gG)(size near:Int)(J:∀b∈t,1<=b.size/\b.size<=10000)(N:1<=size/\size<=10000)(hN:t.length<=100):af C 89 [.pv (.sl (t.map ef)),.pv (i64 size),.pv (i64 near)] (.p (i64 (eR t size near t.length))) []:=by
 refine fW hC Tryz.func89 rfl (by kernel_rfl) fun _=>?_;have U:=ak t ef;refine ax (fun i:Nat=>i<=t.length) (fun i=>[(0,.p (.sl (t.map ef))),(1,.p (i64 size)),(2,.p (i64 near)),(7,.p (i64 (eR t size near i))),(12,.p (.sl (t.map ef))),(13,.p (i64 t.length)),(14,.p (i64 i))]) (fun _=>[]) (fun i=>t.length-i) 0 _ (au.refl _ _) (ai _) ⟨rfl,rfl,rfl,rfl,rfl,ah (fun n:Nat=>AV.p (i64 n)) U,Z,Y⟩ trivial fun i hi tt h=>?_;apply iW<;>intro h1
 ·obtain⟨b,hb⟩:=aj (l:=t) (i:=i) (by omega);have V:=J b (an hb);have u:=vQ t size near i;refine⟨(ef b),(idx rfl hb),wO (by omega),_,_,(GJ b size V N),iW ?_ ?_⟩<;>intro a1
  ·have e:=zg (size:=size) (near:=near) hb fun h=>by omega
   exact⟨wO (by omega),(i+1),_,au.refl _ _,by omega,by omega,⟨rfl,rfl,rfl,by rw[e];rfl,Z,Z,Z,Y⟩,trivial⟩
  apply iW<;>intro O
  ·have e:=vR (size:=size) (near:=near) hb ⟨by omega,.inl O⟩;exact⟨wO (by omega),(i+1),_,au.refl _ _,by omega,by omega,⟨rfl,rfl,rfl,by rw[e];rfl,Z,Z,Z,Y⟩,trivial⟩
  obtain⟨c,z⟩:=aj (l:=t) (i:=(eR t size near i).toNat) (by omega);have kc:=J c (an z);have R:eR t size near i=((eR t size near i).toNat:Int):=by omega
  have u:=Ix size b c;have yes:qe size b c=true->eR t size near (i+1)=i:=fun h=>vR (size:=size) (near:=near) hb ⟨by omega,.inr ⟨c,z,h⟩⟩;have no:¬qe size b c=true->eR t size near (i+1)=eR t size near i:=fun h=>zg (size:=size) (near:=near) hb fun D=>by
   rcases D.2 with D | ⟨d,I,D⟩
   ·exact O D
   rw[z]at I;injection I with I;subst I;exact h D
  refine⟨(ef c),(idx R z),wO (by omega),_,_,(GJ c size kc N),iW ?_ ?_⟩<;>intro W
  ·have e:=yes (u.2 (.inl W));exact⟨wO (by omega),(i+1),_,au.refl _ _,by omega,by omega,⟨rfl,rfl,rfl,by rw[e];rfl,Z,Z,Z,Y⟩,trivial⟩
  apply iW<;>intro a4
  ·refine⟨(ef c),(idx R z),iW ?_ ?_⟩<;>intro a5
   ·have e:=yes (u.2 (.inr ⟨a4,a5⟩));exact⟨wO (by omega),(i+1),_,au.refl _ _,by omega,by omega,⟨rfl,rfl,rfl,by rw[e];rfl,Z,Z,Z,Y⟩,trivial⟩
   have e:=no fun h=>by rcases u.1 h with h | h<;>omega
   exact⟨wO (by omega),(i+1),_,au.refl _ _,by omega,by omega,⟨rfl,rfl,rfl,by rw[e];rfl,Z,Z,Z,Y⟩,trivial⟩
  have e:=no fun h=>by rcases u.1 h with h | h<;>omega
  exact⟨wO (by omega),(i+1),_,au.refl _ _,by omega,by omega,⟨rfl,rfl,rfl,by rw[e];rfl,Z,Z,Z,Y⟩,trivial⟩
 have e:i=t.length:=by omega
 refine⟨?_,trivial⟩;rw[<-e]
theorem GK(t:List gG)(l:List dM)(near:Int)(ht:oG t)(hN:l.length<=1048576):af C 30 [.pv (.sl (t.map ef)),.pv (.sl (l.map nB)),.pv (i64 near)] (.tu (gX t l near)) []:=by
 by_cases u:eo t=0;rotate_left
 ·have e:EN t l near=eo t:=cu rfl u;rw[gX,aa (by rw[e];exact u),e];refine sd ⟨[16,20],[],[],[17,24],[],[]⟩ hC Tryz.func30 rfl (by kernel_rfl) fun _=>?_;refine⟨_,_,(l8 t ht),iW ?_ ?_⟩<;>intro g
  ·refine⟨?_,trivial⟩;rfl
  exact absurd (by simpa using g) u
 by_cases D:eh l=0;rotate_left
 ·have e:EN t l near=eh l:=by rw[EN,dF u,cu rfl D]
  have I:=l8 t ht;rw[u]at I;rw[gX,aa (by rw[e];exact D),e];refine sd ⟨[16,20],[],[],[17,24],[],[]⟩ hC Tryz.func30 rfl (by kernel_rfl) fun _=>?_;refine⟨_,_,I,_,_,(qz l hN),iW ?_ ?_⟩<;>intro g
  ·refine⟨?_,trivial⟩;rfl
  exact absurd (by simpa using g) D
 have I:=l8 t ht;have GH:=qz l hN;have U:=fT near 0 10000;rw[u]at I;rw[D]at GH;have J:EN t l near=if dR near 0 10000=true then 0 else 1:=by rw[EN,dF u,dF D]
 cases g3:dR near 0 10000 with
 | false=>
  rw[g3]at J U;rw[gX,aa (by rw[J];decide),J];refine sd ⟨[16,20],[],[],[17,24],[],[]⟩ hC Tryz.func30 rfl (by kernel_rfl) fun _=>?_;refine⟨_,_,I,_,_,GH,_,_,U,?_,trivial⟩;rfl
 | true=>
  rw[g3]at J U;rw[gX,ae (by rw[J];rfl)];obtain⟨tl,ts⟩:=AW u;obtain⟨hl,hs⟩:=A5 D;have lt:=ak t ef;have lh:=ak l nB;refine sd ⟨[16,20],[],[],[17,24],[],[]⟩ hC Tryz.func30 rfl (by kernel_rfl) fun _=>?_;refine⟨_,_,I,_,_,GH,_,_,U,⟨by omega,by omega,by show ((t.map ef).length:Int)*24<=_;omega,by omega⟩,?_⟩;refine ax (fun j:Nat=>j<=l.length) (fun j=>[(0,.p (.sl (t.map ef))),(2,.p (i64 near)),(11,.ow 11),(12,.ow 12),(35,.p (.sl (l.map nB))),(36,.p (i64 l.length)),(37,.p (i64 j))]) (fun j=>[(11,.ay 95 ((rL t l near j).map bh)),(12,.row 3 ((bZ (ko t l near j)).map fun n=>[i64 n]))]) (fun j=>l.length-j) 0 _ (au.trans (au.ed hC _ 12 3 _ (by decide) rfl rfl (by decide)) (au.Ys hC _ 11 (e:=95) (es:=List.replicate (t.map ef).length [.im (.slice none 0 0)]) (by exact rfl))) (ai _) ⟨rfl,rfl,rfl,rfl,rfl,ah (fun n:Nat=>AV.p (i64 n)) lh,Z,Y⟩ ⟨ah (AB.ay _) (by rw[GG,List.map_replicate,lt];rfl),Z,Y⟩ fun j hj tt h=>?_;apply iW<;>intro h1
  ·obtain⟨x,N⟩:=aj (l:=l) (i:=j) (by omega);have kx:=hs x (an N);have hb:=vQ t x.size near t.length;have O:ko t l near (j+1)=ko t l near j++if decide (tD t near x<0)=true then [j] else []:=Reg.jw N;have IW:(ko t l near j).length<=j:=Reg.np _ _ _;have R:((bZ (ko t l near j)).map fun n=>[i64 n]).length=(ko t l near j).length:=by rw[aw,bZ,aw]
   have U4:=ER t x.size near ts kx tl;obtain⟨v,V⟩:∃v,v=tD t near x:=⟨_,rfl⟩;have C7:v=eR t x.size near t.length:=V;rw[<-C7]at U4 hb;rw[<-V]at O;refine⟨(nB x),(idx rfl N),_,_,U4,?_⟩;by_cases c:v<0
   ·rw[ae (aP c)]at O;refine zW (au.refl _ _) ?_;apply iW<;>intro d;rotate_left
    ·exact absurd c d
    refine⟨⟨by simp,by rw[R];simp;omega,by rw[R];simp;omega⟩,wO (by omega),(j+1),_,au.refl _ _,by omega,by omega,⟨Z,Z,Z,Z,Z,Z,Z,Y⟩,⟨?_,?_,trivial⟩⟩
    ·rw[GD N (by rw[<-V];exact c)];refine ah (AB.ay _) ?_;simp only[JM,JN]
    rw[O,bZ,bZ,bz,bz];rfl
   rw[aa (by rw[aL c];decide),cQ]at O;obtain⟨k,rfl⟩:∃k:Nat,v=k:=⟨v.toNat,by omega⟩;have W:k<t.length:=by omega
   have hg:=qh (l:=l) (near:=near) (j:=j) W;have lH:=GF N V.symm W;have RX:=vS t l near j k;refine zW (au.QK (by exact hC) _ 11 k 90001 (LL:=rL t l near j) (x:=sV t l near j k) (by decide) (by decide) (by exact ah (AB.ay _) (by simp only[JM,JN])) hg (by exact rfl) (by decide)) ?_;have tJ:((rL t l near j).map bh).set k [.av (.ow 90001)]=((rL t l near j).map bh).set k [.av (.ow 90001)]:=rfl;have U5:(((rL t l near j).map bh).set k [.av (.ow 90001)])[((k:Int)).toNat]?=some [.av (.ow 90001)]:=by
    rw[bU];exact ga (by rw[aw,iK];exact W)
   have lK:=ak (sV t l near j k) nB;refine⟨⟨by omega,by simp[iK];omega⟩,[.av (.ow 90001)],(by rw[l7,l7];exact U5;rfl;rfl),⟨fun r hr=>(by rw[bM.1 hr];rfl),by rw[lK];simp;omega,by rw[lK];simp;omega⟩,⟨by omega,by simp[iK];omega⟩,[.av (.ow 90001)],(by rw[l7,l7];exact U5;rfl;rfl),wO (by omega),j+1,_,au.Qu (by exact hC) _ 11 k 0 61 (e:=95) (es:=((rL t l near j).map bh).set k [.av (.ow 61)]) (r:=[.av (.ow 61)]) (e':=98) (xs:=(sV t l near j k++[x]).map nB) (by decide) (by exact ah (AB.ay _) (by rw[l7,l7];rw[bU];exact vP ..;rfl;rfl)) (by exact ah (AB.row _) (by rw[bz];rfl)) (ga (by rw[aw,iK];exact W)) (by exact rfl),?_⟩;refine⟨by omega,⟨by omega,⟨Z,Z,Z,Z,Z,Z,Z,Y⟩,⟨?_,?_,trivial⟩⟩⟩
   ·refine ah (AB.ay _) ?_;show (((rL t l near j).map bh).set k [.av (.ow 61)]).set k [.row 98 ((sV t l near j k++[x]).map nB)]=(rL t l near (j+1)).map bh;rw[vP,lH,sH];congr 1;rw[bh,aa (by simp)]
   show AB.row _ _=AB.row _ _;rw[O]
  have e:j=l.length:=by omega
  rw[e];refine zW (au.Qv (by exact hC) _ 11 ((rL t l near l.length).map bp) (e:=95) (by exact rfl) (QJ _)) ?_;have lB:=ak (rL t l near l.length) bp;rw[iK]at lB;refine ax (fun i:Nat=>i<=t.length) (fun i=>[(11,.p (.sl ((rL t l near l.length).map bp))),(12,.ow 12),(16,.ow 16),(64,.p (.sl (t.map ef))),(65,.p (i64 t.length)),(66,.p (i64 i))]) (fun i=>[(12,.row 3 ((bZ (ko t l near l.length)).map fun n=>[i64 n])),(16,.row 178 ((kM t l near i).map qg))]) (fun i=>t.length-i) 0 _ (au.trans (au.ed hC _ 16 178 _ (by decide) rfl rfl (by decide)) (au.gn hC _ 11 (y:=.sl ((rL t l near l.length).map bp)) (fz:=[(11,.jr ((rL t l near l.length).map bp))]) ⟨rfl,rfl⟩)) (ai _) ⟨rfl,rfl,rfl,rfl,ah (fun n:Nat=>AV.p (i64 n)) lt,Z,Y⟩ ⟨Z,Z,Y⟩ fun i hi tt h=>?_;apply iW<;>intro h2
  ·obtain⟨b,hb⟩:=aj (l:=t) (i:=i) (by omega);have hg:=qh (l:=l) (near:=near) (j:=l.length) (show i<t.length by omega);have PL:=CL (l:=l) (near:=near) hb;have uo:=A6 t l near i;have HV:=vS t l near l.length i;have lj:=ak (kM t l near i) qg;have lk:=ak (sV t l near l.length i) nB;refine⟨(ef b),(idx rfl hb),(bp (sV t l near l.length i)),⟨by omega,by rw[bU];exact pQ bp hg⟩,iW ?_ ?_⟩<;>intro z
   ·have cU:¬sV t l near l.length i=[]:=fun e=>by
     have z:(0:Int)<(((sV t l near l.length i).map nB).length:Int):=z;rw[e]at z;simp at z
    rw[aa cU]at PL;exact⟨(bp (sV t l near l.length i)),⟨by omega,by rw[bU];exact pQ bp hg⟩,⟨fun r hr=>(by rw[bM.1 hr];rfl),by rw[lj];simp;omega,by rw[lj];simp;omega⟩,wO (by omega),(i+1),_,au.refl _ _,by omega,by omega,⟨Z,Z,Z,Z,Z,Z,Y⟩,⟨rfl,by rw[PL,bz];rfl,trivial⟩⟩
   have he:sV t l near l.length i=[]:=by
    have z:¬(0:Int)<(((sV t l near l.length i).map nB).length:Int):=z;rw[lk]at z;exact cP (by omega)
   rw[ae he,cQ]at PL;exact⟨wO (by omega),(i+1),_,au.refl _ _,by omega,by omega,⟨Z,Z,Z,Z,Z,Z,Y⟩,⟨rfl,by rw[PL];rfl,trivial⟩⟩
  have e2:i=t.length:=by omega
  rw[e2];exact⟨Z,Y⟩
open Reg (gE)
def eJ{α:Type}(o:Nat)(cs l:List α):List α:=l.take o++cs++l.drop (o+cs.length)
variable {α:Type}
theorem ir{o:Nat}{cs l:List α}(h:o+cs.length<=l.length):(eJ o cs l).length=l.length:=by
 simp only[eJ,bG,aV,dn];omega
theorem vV{p:Nat}{A x l:List α}(d:l.take p=A)(h:p+x.length<=l.length):(eJ p x l).take (p+x.length)=A++x:=by
 subst d;have:(l.take p++x).length=p+x.length:=by rw[bG,aV];omega
 rw[eJ,mr (by omega),<-this,fQ]
theorem JQ{p:Nat}{A x D l:List α}(d:l.take p=A)(h:p+x.length+D.length<=l.length):(eJ (p+x.length) D (eJ p x l)).take (p+x.length+D.length)=A++x++D:=
 vV (vV d (by omega)) (by rw[ir (by omega)];omega)
theorem JR{p:Nat}{A x D l:List α}(d:l.take p=A)(h:p+x.length+D.length<=l.length):(eJ p x (eJ (p+x.length) D l)).take (p+x.length+D.length)=A++x++D:=by
 subst d;have u:(eJ (p+x.length) D l).take p=l.take p:=by
  rw[eJ,gT,mr (by rw[aV];omega),po,gx (by omega)]
 have z:(eJ (p+x.length) D l).drop (p+x.length)=D++l.drop (p+x.length+D.length):=by
  have:(l.take (p+x.length)).length=p+x.length:=by rw[aV];omega
  rw[eJ,gT,List.drop_append,this,fv (by omega),rO];rfl
 rw[eJ,u,z,<-gT];have:(l.take p++x++D).length=p+x.length+D.length:=by simp only[bG,aV];omega
 rw[mr (by omega),<-this,fQ]
theorem jE{P:Program}(w:World)(I J N d:TypeId)(k g o z O:Nat)(a:Addr)(D R:Nat)(cur:Array Value)(t:TypeId)(cs:List Value)
  (U:P.underlying I=some (.slice d)) (hs:(P.info? d).map (·.size)=some k) (V:w.heap[g]?=some (.cells cur t (0,0))) (W:cs.length=Nat.min D z*k)
  (u:∀(j:Nat) v,cs[j]?=some v->w.cell? (a.add j)=some v) (Y:o+cs.length<=cur.size) (Z:∀v∈cs,v.oneCell'=true):
  (Builtin.copy_ #[I,J] N #[.slice (some ⟨g,o,none⟩) z O,.slice (some a) D R]).run P w=.ok (goInt (Nat.min D z)) (w.setRow g (eJ o cs cur.toList).toArray):=by
 have hl:=run_loadCells_list (P:=P) w a cs u;have Bk:=run_storeCells_at P g o t cs 0 cur w V (by simpa using Y) Z;cases hq:P.info? d with
 | none=>simp[hq]at hs
 | some i=>
  have hi:i.size=k:=by simpa [hq] using hs
  simp[Builtin.copy_,run_underlying U,Builtin.lenOf,Builtin.firstCells,sizeOf,typeInfo,hq,hi,<-W,hl,Bk,eJ]
theorem mH{P:Program}(w:World){ops:Array Oper}{rest:List Oper}{o:Oper}{a:Act}{Q:Exit->Act->World->Prop}(I:o.guard=none)(d s:Operand)(t z:TypeId)
  (J:o.op=.call { callee:=.builtin .copy,args:=#[d,s],argTypes:=#[t,z] }) (v u:Value) (N:a.eval d=v) (hs:a.eval s=u) {D:Value} {w':World}
  (O:(Builtin.copy_ #[t,z] o.type #[v,u]).run P w=.ok D w') (h:wpList P ops Q rest (a.put o.dst D) w'):wpList P ops Q (o::rest) a w:=
 wpList_plain I fun _ R=>by
  unfold Oper.wp execOp;simp only[J,resolve,invoke,builtin,bJ,fF,dm,List.map_toArray,fJ,List.map_nil,N,hs,O];exact R _ _ h
theorem qi{P:Program}{ops:Array Oper}{o:Oper}{a:Act}{w:World}{K:Act->World->Prop}{Q:Exit->Act->World->Prop}{E:Prop}
  (J:o.guard=none) (d x:Operand) (z D:TypeId) (N:o.op=Op.call { callee:=Callee.builtin Builtin.copy,args:=#[d,x],argTypes:=#[z,D] })
  (v u:Value) (O:a.eval d=v) (R:a.eval x=u) {I:Value} {w':World} (U:(Builtin.copy_ #[z,D] o.type #[v,u]).run P w=.ok I w') (V:K (a.put o.dst I) w'):
  if Region.wanted o (yielded ops a.tmps)=true then Oper.wp P o a w K Q else E:=by
 have W:Region.wanted o (yielded ops a.tmps)=true:=by simp[Region.wanted,J]
 rw[ae W];unfold Oper.wp;simp[execOp,N,resolve,invoke,builtin,O,R,U,Result.andThen];exact V
theorem CM(w W:World){mv:Nat->Prop}(o:Obj)(h:W.heap=w.heap.push o)(d:W.os=w.os)(u:W.tape=w.tape)(z:W.output=w.output):Fr mv w W:=
 ⟨d,u,z,by rw[h,kT];omega,fun k hk _=>by rw[h,yH hk,cx hk]⟩
variable {k:Nat}
theorem oy{W:World}{g n c:Nat}{e:TypeId}{cur:List Value}{xs:List Value}(z:W.heap[g]?=some (.cells cur.toArray e (0,0)))(d:n<=c)(D:c<=maxLen)(hs:cur.length=c*k)(u:cur.take (n*k)=xs):W.ownsRow 0 e k (.slice (some ⟨g,0,none⟩) n c) n xs:=
 ⟨by rw[<-u,aV,hs];exact gx (a8 _ d),.inr ⟨g,c,_,rfl,ai _,z,d,D,by simpa using hs,by simpa using u⟩⟩
theorem o_{z:Value}{q:Nat}(d:z.cells.size=k):(Builtin.zeroCells z.cells q).size=q*k:=by
 simp[Builtin.zeroCells,d]
theorem lg{W:World}{g:Nat}{o:Obj}(h:W.heap[g]?=some o):g<W.heap.size:=(dq.1 h).1
theorem dN(w:World)(g:Nat)(cs:Array Value):Fr (fun b=>b=g) w (w.setRow g cs):=⟨rfl,rfl,rfl,by simp[World.setRow],fun k hk d=>by
 simp only[World.setRow,C0];rw[aa fun e=>d e.symm]⟩
theorem CN{L:List (List Value)}{x:List Value}(d:∀r∈L,r.length=k){i:Nat}(hi:i<=L.length):(gE L i x).flatten=L.flatten.take (i*k)++x++L.flatten.drop (i*k):=by
 have h:=gI (L:=L.take i) fun r u=>d r (jK u);rw[aV,gx hi]at h;have e:L.flatten=(L.take i).flatten++(L.drop i).flatten:=by rw[<-List.flatten_append,nO]
 rw[e,<-h,List.take_left',List.drop_left',gE,List.flatten_append,vh,gT]<;>rfl
theorem GL(L:List (List Value))(x:List Value)(i:Nat)(hi:i<=L.length)(hL:∀r∈L,r.length=2)(U:x.length=2)(h1:∀r∈L,∀v∈r,v.oneCell'=true)(N5:∀v∈x,v.oneCell'=true)(hN:L.length<=1000000):
  af C 183 [.row 94 (az L),.pv (.im (.int .i64 i)),.row 94 (az [x])] (.own 94 (az (gE L i x))) [.gone,.gone]:=by
 obtain⟨i0,z,Ce,yg,xq,hz,Sw,P8,_⟩:=hC.tab 94 _ rfl;have tS:Tryz.prog.underlying 87=some (.slice 94):=Tryz.underlying87;have Ce:Tryz.prog.info? 94=some i0:=Ce;have yg:i0.size=2:=yg;have xq:i0.bytes=16:=xq;have hsz:(Tryz.prog.info? 94).map (·.size)=some 2:=by rw[Ce];simp[yg]
 have L0:z.cells.size=2:=by rw[Sw,eF,P8]
 have Iq:=gI hL;have VK:=CN (x:=x) hL hi;have LZ:(gE L i x).length=L.length+1:=by unfold gE;rw[bG,cH,aV,dn];omega
 have hm:∀r∈gE L i x,r=x\/r∈L:=fun r hr=>Reg.rH.1 hr;refine z8 hC 94 _ rfl i L (gE L i x) x hL U (fun r hr=>by rcases hm r hr with rfl | h;exact U;exact hL r h) (fun r hr=>by rcases hm r hr with rfl | h;exact N5;exact h1 r h) ⟨_,sW,rfl,rfl⟩ fun w v0 J Y tX hown cU Bn QW XE Sx=>?_;change w.ownsRow 0 94 2 v0 L.length L.flatten at hown;change tX.size=Y*2 at Sx;rw[LZ,VK];show Calls Tryz.prog 183 _ w fun e' w'=>∃I,e'=.returned I/\w'.ownsRow 0 94 2 I (L.length+1) _/\_;generalize hn:L.length=n at *;generalize qA:L.flatten=xs at *;have XF:∀v∈xs,v.oneCell'=true:=fun v hv=>by
  rw[<-qA]at hv;obtain⟨r,Mf,oM⟩:=vi.1 hv;exact h1 r Mf v oM
 have vW:∀(W:World),W.heap[J]?=some (.cells tX 94 (0,0))->∀(j:Nat) u,x[j]?=some u->W.cell? ((⟨J,0,none⟩:Addr).add j)=some u:=fun W hW j u hj=>by
  rw[jd,cell_of_row W J _ tX _ _ hW,aY];exact QW j u hj
 have last:i=n->xs.take (i*2)++x++xs.drop (i*2)=xs++x:=fun e=>by rw[aW (by omega),fv (by omega),cQ]
 have src:∀(W:World),W.heap[J]?=some (.cells tX 94 (0,0))->Src Tryz.prog i0.size 87 (.slice (some ⟨J,0,none⟩) 1 Y) 1 x W:=fun W hW=>Src.ofSlice W tS ⟨J,0,none⟩ 1 Y x (by rw[yg,U]) (vW W hW) N5;have fin:∀(I:Value) (w':World),w'.ownsRow 0 94 2 I (n+1) (xs.take (i*2)++x++xs.drop (i*2))->Fr (fun b=>bY v0=some b) w w'->(∀g,bY I=some g->w.heap.size<=g\/bY v0=some g)->Calls Tryz.prog 183 #[v0,.int .i64 i,.slice (some ⟨J,0,none⟩) 1 Y] w (fun e' Lg=>e'=.returned I/\Lg.heap=w'.heap/\Lg.os=w'.os/\Lg.tape=w'.tape/\Lg.output=w'.output)->
   Calls Tryz.prog 183 #[v0,.int .i64 i,.slice (some ⟨J,0,none⟩) 1 Y] w fun e' w'=>∃I,e'=.returned I/\w'.ownsRow 0 94 2 I (n+1) (xs.take (i*2)++x++xs.drop (i*2))/\Fr (fun b=>bY v0=some b) w w'/\∀g,bY I=some g->g<w'.heap.size/\(w.heap.size<=g\/bY v0=some g):=fun I w' ho hF hb hc=>hc.mono fun e' Lg ⟨h2,k1,k2,k3,k4⟩=>by
  have ho:Lg.ownsRow 0 94 2 I (n+1) (xs.take (i*2)++x++xs.drop (i*2)):=mf ho fun g _=>by rw[k1]
  refine⟨I,h2,ho,⟨k2.trans hF.os,k3.trans hF.tape,k4.trans hF.output,by rw[k1];exact hF.size,fun k hk hn=>by rw[k1];exact hF.block k hk hn⟩,fun g hg=>⟨?_,hb g hg⟩⟩;rcases ho.2 with⟨Z,r2⟩ | ⟨g',TA,LR,Z,_,r3,_⟩
  ·omega
  rw[Z]at hg;injection hg with hg;exact hg▸lg r3
 have grow:∀(base:Option Addr) (cap:Nat) (d:TypeId),v0=.slice base n cap->cap<n+1->i=n->(Builtin.firstCells i0.size n (.slice base n cap)).run Tryz.prog w.drew=.ok xs.toArray w.drew->∃I w',(Builtin.append_ #[87,87] d #[.slice base n cap,.slice (some ⟨J,0,none⟩) 1 Y]).run Tryz.prog w=.ok I w'/\w'.ownsRow 0 94 2 I (n+1) (xs.take (i*2)++x++xs.drop (i*2))/\Fr (fun b=>bY v0=some b) w w'/\(∀g,bY I=some g->w.heap.size<=g\/bY v0=some g):=fun base cap d e0 hc e hold=>by
  refine⟨_,_,run_append_grow_src w 87 87 d 94 i0 z tS Ce hz base n cap xs hold _ 1 x (src w Bn) hc (by omega) (by rw[xq];exact growslice_fits hc (by omega)),?_,?_,fun g hg=>.inl ?_⟩
  ·rw[last e];have hG:=grownCap_ge w (n+1) cap 94;have Sy:=grownCap_le_maxLen w (n+1) cap 94 (by unfold maxLen;omega);have hs:((xs++x).toArray++Builtin.zeroCells z.cells (grownCap w (n+1) cap 94-(n+1))).toList.length=grownCap w (n+1) cap 94*2:=by
    have:=o_ (q:=grownCap w (n+1) cap 94-(n+1)) L0;simp only[iz,bG,gd,this,Iq,U];omega
   refine oy (cur:=((xs++x).toArray++Builtin.zeroCells z.cells (grownCap w (n+1) cap 94-(n+1))).toList) (by rw[gw];unfold World.alloc;exact uO) hG Sy hs ?_;rw[iz,mr (by simp only[bG,Iq,U];omega)];exact aW (by simp only[bG,Iq,U];omega)
  ·exact CM w _ _ rfl rfl rfl rfl
  injection hg with hg;exact nL hg
 rcases hown.2 with⟨q1,q2⟩ | ⟨g,cap,cur,q1,_,q3,q4,q5,q6,q7⟩
 ·have ei:i=n:=by omega
  have en:n=0:=q2;obtain⟨I,w',Z,r2,r3,r4⟩:=grow none 0 87 (by rw[q1,en]) (by omega) ei (by rw[en,JP.1 (by omega:xs.length=0)];exact run_firstCells_none w.drew _ 0 0 0);have e0:(i:Int)=0:=by omega
  rw[en]at Z;refine fin I w' r2 r3 r4 ?_;rw[e0,q1]
  go_enter sW,vT
  go_wp2_with (at_builtin;refine ox _ rfl _ _ _ _ rfl _ _ rfl rfl _ _ Z ?_)
  go_ret
  exact⟨rfl,rfl,rfl,rfl,rfl⟩
 have hcl:cur.toList.length=cap*2:=by rw[gd,q6]
 have Js:∀W:World,Fr (fun b=>b=g) w W->Fr (fun b=>bY v0=some b) w W:=fun W h=>⟨h.os,h.tape,h.output,h.size,fun k hk hn=>h.block k hk fun e=>hn (by rw[q1,e];rfl)⟩;have U6:∀n' c',∀g',bY (.slice (some ⟨g,0,none⟩) n' c')=some g'->w.heap.size<=g'\/bY v0=some g':=fun n' c' g' h=>.inr (by rw[q1];exact h);have vX:∀(W:World),W.heap[g]?=some (.cells cur 94 (0,0))->∀(o j:Nat) u,(xs.drop o)[j]?=some u->W.cell? ((⟨g,o,none⟩:Addr).add j)=some u:=fun W hW o j u hj=>by
  rw[jd,cell_of_row W g _ cur _ _ hW];rw[eE,<-q7,cV]at hj;split at hj
  ·simpa using hj
  cases hj
 by_cases ei:i=n
 ·have e0:(i:Int)=(n:Int):=by omega
  by_cases kr:n+1<=cap
  ·obtain⟨D,V⟩:∃D,D=w.setRow g (eJ (n*2) x cur.toList).toArray:=⟨_,rfl⟩;have Z:(Builtin.append_ #[87,87] 87 #[.slice (some ⟨g,0,none⟩) n cap,.slice (some ⟨J,0,none⟩) 1 Y]).run Tryz.prog w=.ok (.slice (some ⟨g,0,none⟩) (n+1) cap) D:=by
    have Z:=run_append_room w 87 87 94 i0 tS Ce g n cap cur q3 ⟨J,0,none⟩ 1 Y x (by rw[yg,U]) (vW w Bn) N5 kr (by rw[yg,U,q6];omega);rw[yg]at Z;rw[V];exact Z
   refine fin (.slice (some ⟨g,0,none⟩) (n+1) cap) D ?_ (V▸Js _ (dN w g _)) (U6 (n+1) cap) ?_
   ·rw[last ei,V];refine oy (setRow_heap w g cur _ _ _ q3) kr q5 (by rw[ir (by rw[hcl,U];omega),hcl]) ?_;have:=vV (x:=x) q7 (by rw[hcl,U];omega);rw[U]at this;rw[dh];exact this
   rw[e0,q1]
   go_enter sW,vT
   go_wp2_with (at_builtin;refine ox _ rfl _ _ _ _ rfl _ _ rfl rfl _ _ Z ?_)
   all_goals
    go_ret
    exact⟨rfl,rfl,rfl,rfl,rfl⟩
  obtain⟨I,w',Z,r2,r3,r4⟩:=grow (some ⟨g,0,none⟩) cap 87 q1 (by omega) ei (by rw[yg];exact run_firstCells_some w.drew 2 n ⟨g,0,none⟩ n cap xs Iq fun j v hj=>vX w.drew q3 0 j v (by simpa using hj));refine fin I w' r2 r3 r4 ?_;rw[e0,q1]
  go_enter sW,vT
  go_wp2_with (at_builtin;refine ox _ rfl _ _ _ _ rfl _ _ rfl rfl _ _ Z ?_)
  all_goals
   go_ret
   exact⟨rfl,rfl,rfl,rfl,rfl⟩
 have oL:i<n:=by omega
 have XG:=lg q3;have U7:=lg Bn;have Fh:J≠g:=fun e=>cU (by rw[q1,e];rfl);have HO:(xs.drop (i*2)).length=(n-i)*2:=by rw[dn,Iq,pj]
 have mT:i*2+x.length+(xs.drop (i*2)).length=(n+1)*2:=by rw[HO,U,dh];have:=pj n i 2;have:=a8 2 hi;omega
 have Lv:∀v∈xs.drop (i*2),v.oneCell'=true:=fun v hv=>XF v (mc hv);have e1:(i+1)*2=i*2+x.length:=by rw[U,dh]
 have TF:cur.toList.take (i*2)=xs.take (i*2):=by rw[<-q7,po,gx (a8 _ hi)]
 have hz2:¬((i:Int)=(n:Int)):=by omega
 by_cases kr:n+1<=cap
 ·obtain⟨C1,M5⟩:∃C1,C1=eJ ((i+1)*2) (xs.drop (i*2)) cur.toList:=⟨_,rfl⟩;have Iy:C1.length=cap*2:=by rw[M5,e1,ir (by rw[mT,hcl];exact a8 _ kr),hcl]
  have U8:∀(W:World),W.heap=w.heap->∀d N sc,(Builtin.copy_ #[87,87] d #[.slice (some ⟨g,(i+1)*2,none⟩) (n-i) N,.slice (some ⟨g,i*2,none⟩) (n+1-i) sc]).run Tryz.prog W=.ok (goInt (Nat.min (n+1-i) (n-i))) (W.setRow g C1.toArray):=fun W hW d N sc=>by
   rw[M5];exact jE W _ _ d 94 2 g _ _ N ⟨g,i*2,none⟩ _ sc cur 94 (xs.drop (i*2)) tS hsz (by rw[hW];exact q3) (by rw[HO];congr 1;simp only[sX];split<;>omega) (vX W (by rw[hW];exact q3) _) (by rw[e1,mT,q6];exact a8 _ kr) Lv
  have U9:∀(W:World),W.heap=(w.setRow g C1.toArray).heap->∀d N,(Builtin.copy_ #[87,87] d #[.slice (some ⟨g,i*2,none⟩) (n+1-i) N,.slice (some ⟨J,0,none⟩) 1 Y]).run Tryz.prog W=.ok (goInt (Nat.min 1 (n+1-i))) (W.setRow g (eJ (i*2) x C1).toArray):=fun W hW d N=>by
   have:=jE (P:=Tryz.prog) W 87 87 d 94 2 g (i*2) (n+1-i) N ⟨J,0,none⟩ 1 Y C1.toArray 94 x tS hsz (by rw[hW];exact setRow_heap w g cur _ _ _ q3) (by rw[U,show Nat.min 1 (n+1-i)=1 by simp only[sX];split<;>omega]) (vW W (by rw[hW,(dN w g C1.toArray).block J U7 Fh];exact Bn)) (by rw[eF,Iy];omega) N5;exact this
  have XH:∀lb cb,(callFunc 289 #[.slice (some ⟨J,0,none⟩) 1 Y,.slice (some ⟨g,(i+1)*2,none⟩) lb cb]).run Tryz.prog w=.ok (.value (.bool false)) w:=fun lb cb=>by
   rw[run_callFunc_extern Tryz.func289 (by kernel_rfl) (by kernel_rfl) (by kernel_rfl) (e:=Extern.SlicesOverlaps.overlaps #[87,87] #[4]) (by kernel_rfl),
    Lib.run_overlaps_apart w 87 4 94 tS 2 (fun w=>(hC.tab 94 _ rfl).sizeOf w) ⟨J,0,none⟩ ⟨g,(i+1)*2,none⟩ 1 Y lb cb Fh 94 94 tX.size cur.size (by simp[World.shape?,Bn]) (by simp[World.shape?,q3]) (by omega) (by simp[World.frozen?,Bn]) (by simp[World.frozen?,Bn])]
   rfl
  refine fin (.slice (some ⟨g,0,none⟩) (n+1) cap) ((w.setRow g C1.toArray).setRow g (eJ (i*2) x C1).toArray) ?_ (Js _ ((dN w g _).trans (dN _ g _) fun i h=>.inl h)) (U6 (n+1) cap) ?_
  ·refine oy (setRow_heap _ g _ _ _ _ (setRow_heap w g cur _ _ _ q3)) kr q5 (by rw[ir (by rw[Iy];omega),Iy]) ?_;rw[M5,e1,<-mT];exact JR TF (by rw[mT,hcl];exact a8 _ kr)
  obtain⟨D,V⟩:∃D,D=w.drew.setRow g C1.toArray:=⟨_,rfl⟩;obtain⟨O,ES⟩:∃O,O=D.setRow g (eJ (i*2) x C1).toArray:=⟨_,rfl⟩;have cA:=fun d N sc=>U8 w.drew rfl d N sc;have cB:=fun d N=>U9 D (by rw[V];rfl) d N;rw[<-V]at cA;rw[<-ES]at cB;have Le:O.heap=((w.setRow g C1.toArray).setRow g (eJ (i*2) x C1).toArray).heap/\O.os=w.os/\O.tape=w.tape/\O.output=w.output:=by rw[ES,V];exact⟨rfl,rfl,rfl,rfl⟩
  rw[q1];clear mT Lv ES V M5 U8 U9 e1;have mixed:Tryz.prog.follows .mixedOrders=true:=hC.any;have Kg:IntKind.i64.wrap ((i:Int)+1)=(i:Int)+1:=by rw[zh];omega
  have XI:(0:Int)<=(i:Int)+1:=by omega
  have XJ:(i:Int)+1<=(n:Int)+1:=by omega
  have XK:((i:Int)+1).toNat=i+1:=by omega
  have XL:¬(cap=i+1):=by omega
  have XM:¬(cap=i):=by omega
  have XN:n+1-(i+1)=n-i:=by omega
  have XO:(i:Int)<=(n:Int)+1:=by omega
  have OJ:¬((cap:Int)<(n:Int)+1):=by omega
  go_enter sW,vT
  go_wp2_with (simp only[XH])
  go_region_law_o (refine qi rfl _ _ 87 87 rfl _ _ (by simp[Act.eval,Act.put]) (by simp[Act.eval,Act.put]) (cA _ _ _) ?_)
  go_wp2_with (at_builtin;refine mH _ rfl _ _ 87 87 rfl _ _ rfl rfl (cB _ _) ?_)
  go_ret
  exact⟨rfl,Le⟩
 have S_:cap=n:=by omega
 subst S_;obtain⟨G,hG⟩:∃G,G=grownCap w (cap+1) cap 94:=⟨_,rfl⟩;have PM:cap+1<=G:=by rw[hG];exact grownCap_ge w _ _ _
 have Sy:G<=maxLen:=by rw[hG];exact grownCap_le_maxLen w _ _ _ (by unfold maxLen;omega)
 obtain⟨R,hR⟩:∃R:List Value,R=((xs.take (i*2)).toArray++Builtin.zeroCells z.cells (cap+1-i)++Builtin.zeroCells z.cells (G-(cap+1))).toList:=⟨_,rfl⟩;have Sz:(xs.take (i*2)).length=i*2:=by rw[aV,Iq];exact gx (a8 _ hi)
 have N6:R.length=G*2:=by
  have z1:=o_ (q:=cap+1-i) L0;have z2:=o_ (q:=G-(cap+1)) L0;rw[hR];simp only[gd,Array.size_append,eF,z1,z2,Sz];omega
 have U_:R.take (i*2)=xs.take (i*2):=by
  rw[hR,iz,iz,gT,mr (nL Sz.symm)];exact aW (by omega)
 obtain⟨D,V⟩:∃D,D=w.drew.alloc (.cells R.toArray 94):=⟨_,rfl⟩;have PN:D.heap=w.heap.push (.cells R.toArray 94):=by rw[V];rfl
 have SA:D.heap[w.heap.size]?=some (.cells R.toArray 94 (0,0)):=by rw[PN];exact uO
 have old:∀k,k<w.heap.size->D.heap[k]?=w.heap[k]?:=fun k hk=>by rw[PN,yH hk,cx hk]
 have uG:(cap:Int)+1-(i:Int)=((cap+1-i:Nat):Int):=by omega
 have I_:i+(cap+1-i)=cap+1:=by omega
 have Z:(Builtin.append_ #[87,3] 87 #[.slice (some ⟨g,0,none⟩) i cap,.int .i64 ((cap:Int)+1-(i:Int))]).run Tryz.prog w=.ok (.slice (some ⟨w.heap.size,0,none⟩) (cap+1) G) D:=by
  have h:=Lib.run_append_grow_zeros w 87 3 87 94 i0 z .i64 .i64 tS iB Ce hz (some ⟨g,0,none⟩) i cap (xs.take (i*2)) (by rw[yg];exact run_firstCells_some w.drew 2 i ⟨g,0,none⟩ i cap _ Sz fun j v hj=>vX w.drew q3 0 j v (by
   rw[cV]at hj;split at hj
   ·simpa using hj
   cases hj)) (cap+1-i) (by omega) (by omega) (by omega) (by omega) (by rw[xq];omega) (by rw[xq,I_];exact growslice_fits (by omega) (by omega))
  rw[I_,<-hG]at h;rw[uG,h,V,hR,gw]
 obtain⟨R1,PO⟩:∃R1,R1=eJ (i*2) x R:=⟨_,rfl⟩;have ET:R1.length=G*2:=by rw[PO,ir (by rw[N6,U];omega),N6]
 obtain⟨O,ES⟩:∃O,O=D.setRow w.heap.size R1.toArray:=⟨_,rfl⟩;obtain⟨W3,E1⟩:∃W3,W3=O.drew.setRow w.heap.size (eJ ((i+1)*2) (xs.drop (i*2)) R1).toArray:=⟨_,rfl⟩;have cA:∀d N,(Builtin.copy_ #[87,87] d #[.slice (some ⟨w.heap.size,i*2,none⟩) (cap+1-i) N,.slice (some ⟨J,0,none⟩) 1 Y]).run Tryz.prog D=.ok (goInt (Nat.min 1 (cap+1-i))) O:=fun d N=>by
  rw[ES,PO];exact jE (P:=Tryz.prog) D 87 87 d 94 2 w.heap.size (i*2) (cap+1-i) N ⟨J,0,none⟩ 1 Y R.toArray 94 x tS hsz SA (by rw[U,show Nat.min 1 (cap+1-i)=1 by simp only[sX];split<;>omega]) (vW D (by rw[old J U7];exact Bn)) (by rw[eF,N6];omega) N5
 have N7:O.heap[w.heap.size]?=some (.cells R1.toArray 94 (0,0)):=by rw[ES];exact setRow_heap _ _ _ _ _ _ SA
 have Iz:∀k,k<w.heap.size->O.heap[k]?=w.heap[k]?:=fun k hk=>by rw[ES,(dN D w.heap.size R1.toArray).block k (by rw[PN,kT];omega) (by omega)];exact old k hk
 have cB:∀d N sc,(Builtin.copy_ #[87,87] d #[.slice (some ⟨w.heap.size,(i+1)*2,none⟩) (cap-i) N,.slice (some ⟨g,i*2,none⟩) (cap-i) sc]).run Tryz.prog O.drew=.ok (goInt (Nat.min (cap-i) (cap-i))) W3:=fun d N sc=>by
  rw[E1];have:=jE (P:=Tryz.prog) O.drew 87 87 d 94 2 w.heap.size ((i+1)*2) (cap-i) N ⟨g,i*2,none⟩ (cap-i) sc R1.toArray 94 (xs.drop (i*2)) tS hsz N7 (by rw[HO,show Nat.min (cap-i) (cap-i)=cap-i from yZ _]) (vX O.drew (by show O.heap[g]?=_;rw[Iz g XG];exact q3) _) (by rw[e1,mT,eF,ET];exact a8 _ PM) Lv;exact this
 have Va:Fr (fun b=>bY v0=some b) w W3:=by
  have f3:=dN O.drew w.heap.size (eJ ((i+1)*2) (xs.drop (i*2)) R1).toArray;rw[<-E1]at f3;have f2:=dN D w.heap.size R1.toArray;rw[<-ES]at f2;refine⟨f3.os.trans (f2.os.trans (by rw[V];rfl)),f3.tape.trans (f2.tape.trans (by rw[V];rfl)),f3.output.trans (f2.output.trans (by rw[V];rfl)),aO (sG (lg N7)) f3.size,fun k hk _=>?_⟩;rw[f3.block k (by show k<O.heap.size;have:=lg N7;omega) (by omega)];exact Iz k hk
 have N8:W3.ownsRow 0 94 2 (.slice (some ⟨w.heap.size,0,none⟩) (cap+1) G) (cap+1) (xs.take (i*2)++x++xs.drop (i*2)):=by
  rw[E1];refine oy (setRow_heap _ _ _ _ _ _ N7) PM Sy (by rw[ir (by rw[e1,mT,ET];exact a8 _ PM),ET]) ?_;rw[PO,e1,<-mT];exact JQ U_ (by rw[mT,N6];exact a8 _ PM)
 refine fin _ W3 N8 Va (fun g' lN=>.inl (by injection lN with lN;exact nL lN)) ?_;rw[q1];have mixed:Tryz.prog.follows .mixedOrders=true:=hC.any;have Kg:IntKind.i64.wrap ((i:Int)+1)=(i:Int)+1:=by rw[zh];omega
 have XI:(0:Int)<=(i:Int)+1:=by omega
 have XJ:(i:Int)+1<=(cap:Int)+1:=by omega
 have XK:((i:Int)+1).toNat=i+1:=by omega
 have XL:¬(G=i+1):=by omega
 have XM:¬(G=i):=by omega
 have XN:cap+1-(i+1)=cap-i:=by omega
 have XO:(i:Int)<=(cap:Int):=by omega
 have ZZ:¬(cap=i):=by omega
 have XP:(cap:Int)<(cap:Int)+1:=by omega
 clear mT Lv E1 ES V PO hR hG e1 N8 Va N7 Iz old SA PN ET U_ N6 fin grow uG I_
 go_enter sW,vT
 go_wp2_with (first
  | (at_builtin;refine ox _ rfl _ _ _ _ rfl _ _ rfl rfl _ _ Z ?_)
  | (at_builtin;refine mH _ rfl _ _ 87 87 rfl _ _ rfl rfl (cA _ _) ?_))
 go_region_law_o (refine qi rfl _ _ 87 87 rfl _ _ (by simp[Act.eval,Act.put]) (by simp[Act.eval,Act.put]) (cB _ _ _) ?_)
 go_wp2
 go_ret
 exact⟨rfl,rfl,rfl,rfl,rfl⟩
theorem IA(L:List (List Value))(x:List Value)(i:Nat)(hi:i<=L.length)(hL:∀r∈L,r.length=3)(U:x.length=3)(h1:∀r∈L,∀v∈r,v.oneCell'=true)(N5:∀v∈x,v.oneCell'=true)(hN:L.length<=1000000):
  af C 294 [.row 297 (az L),.pv (.im (.int .i64 i)),.row 297 (az [x])] (.own 297 (az (gE L i x))) [.gone,.gone]:=by
 obtain⟨i0,z,Ce,yg,xq,hz,Sw,P8,_⟩:=hC.tab 297 _ rfl;have tS:Tryz.prog.underlying 294=some (.slice 297):=Tryz.underlying294;have Ce:Tryz.prog.info? 297=some i0:=Ce;have yg:i0.size=3:=yg;have xq:i0.bytes=24:=xq;have hsz:(Tryz.prog.info? 297).map (·.size)=some 3:=by rw[Ce];simp[yg]
 have L0:z.cells.size=3:=by rw[Sw,eF,P8]
 have Iq:=gI hL;have VK:=CN (x:=x) hL hi;have LZ:(gE L i x).length=L.length+1:=by unfold gE;rw[bG,cH,aV,dn];omega
 have hm:∀r∈gE L i x,r=x\/r∈L:=fun r hr=>Reg.rH.1 hr;refine z8 hC 297 _ rfl i L (gE L i x) x hL U (fun r hr=>by rcases hm r hr with rfl | h;exact U;exact hL r h) (fun r hr=>by rcases hm r hr with rfl | h;exact N5;exact h1 r h) ⟨_,sY,rfl,rfl⟩ fun w v0 J Y tX hown cU Bn QW XE Sx=>?_;change w.ownsRow 0 297 3 v0 L.length L.flatten at hown;change tX.size=Y*3 at Sx;rw[LZ,VK];show Calls Tryz.prog 294 _ w fun e' w'=>∃I,e'=.returned I/\w'.ownsRow 0 297 3 I (L.length+1) _/\_;generalize hn:L.length=n at *;generalize qA:L.flatten=xs at *;have XF:∀v∈xs,v.oneCell'=true:=fun v hv=>by
  rw[<-qA]at hv;obtain⟨r,Mf,oM⟩:=vi.1 hv;exact h1 r Mf v oM
 have vW:∀(W:World),W.heap[J]?=some (.cells tX 297 (0,0))->∀(j:Nat) u,x[j]?=some u->W.cell? ((⟨J,0,none⟩:Addr).add j)=some u:=fun W hW j u hj=>by
  rw[jd,cell_of_row W J _ tX _ _ hW,aY];exact QW j u hj
 have last:i=n->xs.take (i*3)++x++xs.drop (i*3)=xs++x:=fun e=>by rw[aW (by omega),fv (by omega),cQ]
 have src:∀(W:World),W.heap[J]?=some (.cells tX 297 (0,0))->Src Tryz.prog i0.size 294 (.slice (some ⟨J,0,none⟩) 1 Y) 1 x W:=fun W hW=>Src.ofSlice W tS ⟨J,0,none⟩ 1 Y x (by rw[yg,U]) (vW W hW) N5;have fin:∀(I:Value) (w':World),w'.ownsRow 0 297 3 I (n+1) (xs.take (i*3)++x++xs.drop (i*3))->Fr (fun b=>bY v0=some b) w w'->(∀g,bY I=some g->w.heap.size<=g\/bY v0=some g)->Calls Tryz.prog 294 #[v0,.int .i64 i,.slice (some ⟨J,0,none⟩) 1 Y] w (fun e' Lg=>e'=.returned I/\Lg.heap=w'.heap/\Lg.os=w'.os/\Lg.tape=w'.tape/\Lg.output=w'.output)->
   Calls Tryz.prog 294 #[v0,.int .i64 i,.slice (some ⟨J,0,none⟩) 1 Y] w fun e' w'=>∃I,e'=.returned I/\w'.ownsRow 0 297 3 I (n+1) (xs.take (i*3)++x++xs.drop (i*3))/\Fr (fun b=>bY v0=some b) w w'/\∀g,bY I=some g->g<w'.heap.size/\(w.heap.size<=g\/bY v0=some g):=fun I w' ho hF hb hc=>hc.mono fun e' Lg ⟨h2,k1,k2,k3,k4⟩=>by
  have ho:Lg.ownsRow 0 297 3 I (n+1) (xs.take (i*3)++x++xs.drop (i*3)):=mf ho fun g _=>by rw[k1]
  refine⟨I,h2,ho,⟨k2.trans hF.os,k3.trans hF.tape,k4.trans hF.output,by rw[k1];exact hF.size,fun k hk hn=>by rw[k1];exact hF.block k hk hn⟩,fun g hg=>⟨?_,hb g hg⟩⟩;rcases ho.2 with⟨Z,r2⟩ | ⟨g',TA,LR,Z,_,r3,_⟩
  ·omega
  rw[Z]at hg;injection hg with hg;exact hg▸lg r3
 have grow:∀(base:Option Addr) (cap:Nat) (d:TypeId),v0=.slice base n cap->cap<n+1->i=n->(Builtin.firstCells i0.size n (.slice base n cap)).run Tryz.prog w.drew=.ok xs.toArray w.drew->∃I w',(Builtin.append_ #[294,294] d #[.slice base n cap,.slice (some ⟨J,0,none⟩) 1 Y]).run Tryz.prog w=.ok I w'/\w'.ownsRow 0 297 3 I (n+1) (xs.take (i*3)++x++xs.drop (i*3))/\Fr (fun b=>bY v0=some b) w w'/\(∀g,bY I=some g->w.heap.size<=g\/bY v0=some g):=fun base cap d e0 hc e hold=>by
  refine⟨_,_,run_append_grow_src w 294 294 d 297 i0 z tS Ce hz base n cap xs hold _ 1 x (src w Bn) hc (by omega) (by rw[xq];exact growslice_fits hc (by omega)),?_,?_,fun g hg=>.inl ?_⟩
  ·rw[last e];have hG:=grownCap_ge w (n+1) cap 297;have Sy:=grownCap_le_maxLen w (n+1) cap 297 (by unfold maxLen;omega);have hs:((xs++x).toArray++Builtin.zeroCells z.cells (grownCap w (n+1) cap 297-(n+1))).toList.length=grownCap w (n+1) cap 297*3:=by
    have:=o_ (q:=grownCap w (n+1) cap 297-(n+1)) L0;simp only[iz,bG,gd,this,Iq,U];omega
   refine oy (cur:=((xs++x).toArray++Builtin.zeroCells z.cells (grownCap w (n+1) cap 297-(n+1))).toList) (by rw[gw];unfold World.alloc;exact uO) hG Sy hs ?_;rw[iz,mr (by simp only[bG,Iq,U];omega)];exact aW (by simp only[bG,Iq,U];omega)
  ·exact CM w _ _ rfl rfl rfl rfl
  injection hg with hg;exact nL hg
 rcases hown.2 with⟨q1,q2⟩ | ⟨g,cap,cur,q1,_,q3,q4,q5,q6,q7⟩
 ·have ei:i=n:=by omega
  have en:n=0:=q2;obtain⟨I,w',Z,r2,r3,r4⟩:=grow none 0 294 (by rw[q1,en]) (by omega) ei (by rw[en,JP.1 (by omega:xs.length=0)];exact run_firstCells_none w.drew _ 0 0 0);have e0:(i:Int)=0:=by omega
  rw[en]at Z;refine fin I w' r2 r3 r4 ?_;rw[e0,q1]
  go_enter sY,vU
  go_wp2_with (at_builtin;refine ox _ rfl _ _ _ _ rfl _ _ rfl rfl _ _ Z ?_)
  go_ret
  exact⟨rfl,rfl,rfl,rfl,rfl⟩
 have hcl:cur.toList.length=cap*3:=by rw[gd,q6]
 have Js:∀W:World,Fr (fun b=>b=g) w W->Fr (fun b=>bY v0=some b) w W:=fun W h=>⟨h.os,h.tape,h.output,h.size,fun k hk hn=>h.block k hk fun e=>hn (by rw[q1,e];rfl)⟩;have U6:∀n' c',∀g',bY (.slice (some ⟨g,0,none⟩) n' c')=some g'->w.heap.size<=g'\/bY v0=some g':=fun n' c' g' h=>.inr (by rw[q1];exact h);have vX:∀(W:World),W.heap[g]?=some (.cells cur 297 (0,0))->∀(o j:Nat) u,(xs.drop o)[j]?=some u->W.cell? ((⟨g,o,none⟩:Addr).add j)=some u:=fun W hW o j u hj=>by
  rw[jd,cell_of_row W g _ cur _ _ hW];rw[eE,<-q7,cV]at hj;split at hj
  ·simpa using hj
  cases hj
 by_cases ei:i=n
 ·have e0:(i:Int)=(n:Int):=by omega
  by_cases kr:n+1<=cap
  ·obtain⟨D,V⟩:∃D,D=w.setRow g (eJ (n*3) x cur.toList).toArray:=⟨_,rfl⟩;have Z:(Builtin.append_ #[294,294] 294 #[.slice (some ⟨g,0,none⟩) n cap,.slice (some ⟨J,0,none⟩) 1 Y]).run Tryz.prog w=.ok (.slice (some ⟨g,0,none⟩) (n+1) cap) D:=by
    have Z:=run_append_room w 294 294 297 i0 tS Ce g n cap cur q3 ⟨J,0,none⟩ 1 Y x (by rw[yg,U]) (vW w Bn) N5 kr (by rw[yg,U,q6];omega);rw[yg]at Z;rw[V];exact Z
   refine fin (.slice (some ⟨g,0,none⟩) (n+1) cap) D ?_ (V▸Js _ (dN w g _)) (U6 (n+1) cap) ?_
   ·rw[last ei,V];refine oy (setRow_heap w g cur _ _ _ q3) kr q5 (by rw[ir (by rw[hcl,U];omega),hcl]) ?_;have:=vV (x:=x) q7 (by rw[hcl,U];omega);rw[U]at this;rw[dh];exact this
   rw[e0,q1]
   go_enter sY,vU
   go_wp2_with (at_builtin;refine ox _ rfl _ _ _ _ rfl _ _ rfl rfl _ _ Z ?_)
   all_goals
    go_ret
    exact⟨rfl,rfl,rfl,rfl,rfl⟩
  obtain⟨I,w',Z,r2,r3,r4⟩:=grow (some ⟨g,0,none⟩) cap 294 q1 (by omega) ei (by rw[yg];exact run_firstCells_some w.drew 3 n ⟨g,0,none⟩ n cap xs Iq fun j v hj=>vX w.drew q3 0 j v (by simpa using hj));refine fin I w' r2 r3 r4 ?_;rw[e0,q1]
  go_enter sY,vU
  go_wp2_with (at_builtin;refine ox _ rfl _ _ _ _ rfl _ _ rfl rfl _ _ Z ?_)
  all_goals
   go_ret
   exact⟨rfl,rfl,rfl,rfl,rfl⟩
 have oL:i<n:=by omega
 have XG:=lg q3;have U7:=lg Bn;have Fh:J≠g:=fun e=>cU (by rw[q1,e];rfl);have HO:(xs.drop (i*3)).length=(n-i)*3:=by rw[dn,Iq,pj]
 have mT:i*3+x.length+(xs.drop (i*3)).length=(n+1)*3:=by rw[HO,U,dh];have:=pj n i 3;have:=a8 3 hi;omega
 have Lv:∀v∈xs.drop (i*3),v.oneCell'=true:=fun v hv=>XF v (mc hv);have e1:(i+1)*3=i*3+x.length:=by rw[U,dh]
 have TF:cur.toList.take (i*3)=xs.take (i*3):=by rw[<-q7,po,gx (a8 _ hi)]
 have hz2:¬((i:Int)=(n:Int)):=by omega
 by_cases kr:n+1<=cap
 ·obtain⟨C1,M5⟩:∃C1,C1=eJ ((i+1)*3) (xs.drop (i*3)) cur.toList:=⟨_,rfl⟩;have Iy:C1.length=cap*3:=by rw[M5,e1,ir (by rw[mT,hcl];exact a8 _ kr),hcl]
  have U8:∀(W:World),W.heap=w.heap->∀d N sc,(Builtin.copy_ #[294,294] d #[.slice (some ⟨g,(i+1)*3,none⟩) (n-i) N,.slice (some ⟨g,i*3,none⟩) (n+1-i) sc]).run Tryz.prog W=.ok (goInt (Nat.min (n+1-i) (n-i))) (W.setRow g C1.toArray):=fun W hW d N sc=>by
   rw[M5];exact jE W _ _ d 297 3 g _ _ N ⟨g,i*3,none⟩ _ sc cur 297 (xs.drop (i*3)) tS hsz (by rw[hW];exact q3) (by rw[HO];congr 1;simp only[sX];split<;>omega) (vX W (by rw[hW];exact q3) _) (by rw[e1,mT,q6];exact a8 _ kr) Lv
  have U9:∀(W:World),W.heap=(w.setRow g C1.toArray).heap->∀d N,(Builtin.copy_ #[294,294] d #[.slice (some ⟨g,i*3,none⟩) (n+1-i) N,.slice (some ⟨J,0,none⟩) 1 Y]).run Tryz.prog W=.ok (goInt (Nat.min 1 (n+1-i))) (W.setRow g (eJ (i*3) x C1).toArray):=fun W hW d N=>by
   have:=jE (P:=Tryz.prog) W 294 294 d 297 3 g (i*3) (n+1-i) N ⟨J,0,none⟩ 1 Y C1.toArray 297 x tS hsz (by rw[hW];exact setRow_heap w g cur _ _ _ q3) (by rw[U,show Nat.min 1 (n+1-i)=1 by simp only[sX];split<;>omega]) (vW W (by rw[hW,(dN w g C1.toArray).block J U7 Fh];exact Bn)) (by rw[eF,Iy];omega) N5;exact this
  have XH:∀lb cb,(callFunc 375 #[.slice (some ⟨J,0,none⟩) 1 Y,.slice (some ⟨g,(i+1)*3,none⟩) lb cb]).run Tryz.prog w=.ok (.value (.bool false)) w:=fun lb cb=>by
   rw[run_callFunc_extern Tryz.func375 (by kernel_rfl) (by kernel_rfl) (by kernel_rfl) (e:=Extern.SlicesOverlaps.overlaps #[294,294] #[4]) (by kernel_rfl),
    Lib.run_overlaps_apart w 294 4 297 tS 3 (fun w=>(hC.tab 297 _ rfl).sizeOf w) ⟨J,0,none⟩ ⟨g,(i+1)*3,none⟩ 1 Y lb cb Fh 297 297 tX.size cur.size (by simp[World.shape?,Bn]) (by simp[World.shape?,q3]) (by omega) (by simp[World.frozen?,Bn]) (by simp[World.frozen?,Bn])]
   rfl
  refine fin (.slice (some ⟨g,0,none⟩) (n+1) cap) ((w.setRow g C1.toArray).setRow g (eJ (i*3) x C1).toArray) ?_ (Js _ ((dN w g _).trans (dN _ g _) fun i h=>.inl h)) (U6 (n+1) cap) ?_
  ·refine oy (setRow_heap _ g _ _ _ _ (setRow_heap w g cur _ _ _ q3)) kr q5 (by rw[ir (by rw[Iy];omega),Iy]) ?_;rw[M5,e1,<-mT];exact JR TF (by rw[mT,hcl];exact a8 _ kr)
  obtain⟨D,V⟩:∃D,D=w.drew.setRow g C1.toArray:=⟨_,rfl⟩;obtain⟨O,ES⟩:∃O,O=D.setRow g (eJ (i*3) x C1).toArray:=⟨_,rfl⟩;have cA:=fun d N sc=>U8 w.drew rfl d N sc;have cB:=fun d N=>U9 D (by rw[V];rfl) d N;rw[<-V]at cA;rw[<-ES]at cB;have Le:O.heap=((w.setRow g C1.toArray).setRow g (eJ (i*3) x C1).toArray).heap/\O.os=w.os/\O.tape=w.tape/\O.output=w.output:=by rw[ES,V];exact⟨rfl,rfl,rfl,rfl⟩
  rw[q1];clear mT Lv ES V M5 U8 U9 e1;have mixed:Tryz.prog.follows .mixedOrders=true:=hC.any;have Kg:IntKind.i64.wrap ((i:Int)+1)=(i:Int)+1:=by rw[zh];omega
  have XI:(0:Int)<=(i:Int)+1:=by omega
  have XJ:(i:Int)+1<=(n:Int)+1:=by omega
  have XK:((i:Int)+1).toNat=i+1:=by omega
  have XL:¬(cap=i+1):=by omega
  have XM:¬(cap=i):=by omega
  have XN:n+1-(i+1)=n-i:=by omega
  have XO:(i:Int)<=(n:Int)+1:=by omega
  have OJ:¬((cap:Int)<(n:Int)+1):=by omega
  go_enter sY,vU
  go_wp2_with (simp only[XH])
  go_region_law_o (refine qi rfl _ _ 294 294 rfl _ _ (by simp[Act.eval,Act.put]) (by simp[Act.eval,Act.put]) (cA _ _ _) ?_)
  go_wp2_with (at_builtin;refine mH _ rfl _ _ 294 294 rfl _ _ rfl rfl (cB _ _) ?_)
  go_ret
  exact⟨rfl,Le⟩
 have S_:cap=n:=by omega
 subst S_;obtain⟨G,hG⟩:∃G,G=grownCap w (cap+1) cap 297:=⟨_,rfl⟩;have PM:cap+1<=G:=by rw[hG];exact grownCap_ge w _ _ _
 have Sy:G<=maxLen:=by rw[hG];exact grownCap_le_maxLen w _ _ _ (by unfold maxLen;omega)
 obtain⟨R,hR⟩:∃R:List Value,R=((xs.take (i*3)).toArray++Builtin.zeroCells z.cells (cap+1-i)++Builtin.zeroCells z.cells (G-(cap+1))).toList:=⟨_,rfl⟩;have Sz:(xs.take (i*3)).length=i*3:=by rw[aV,Iq];exact gx (a8 _ hi)
 have N6:R.length=G*3:=by
  have z1:=o_ (q:=cap+1-i) L0;have z2:=o_ (q:=G-(cap+1)) L0;rw[hR];simp only[gd,Array.size_append,eF,z1,z2,Sz];omega
 have U_:R.take (i*3)=xs.take (i*3):=by
  rw[hR,iz,iz,gT,mr (nL Sz.symm)];exact aW (by omega)
 obtain⟨D,V⟩:∃D,D=w.drew.alloc (.cells R.toArray 297):=⟨_,rfl⟩;have PN:D.heap=w.heap.push (.cells R.toArray 297):=by rw[V];rfl
 have SA:D.heap[w.heap.size]?=some (.cells R.toArray 297 (0,0)):=by rw[PN];exact uO
 have old:∀k,k<w.heap.size->D.heap[k]?=w.heap[k]?:=fun k hk=>by rw[PN,yH hk,cx hk]
 have uG:(cap:Int)+1-(i:Int)=((cap+1-i:Nat):Int):=by omega
 have I_:i+(cap+1-i)=cap+1:=by omega
 have Z:(Builtin.append_ #[294,3] 294 #[.slice (some ⟨g,0,none⟩) i cap,.int .i64 ((cap:Int)+1-(i:Int))]).run Tryz.prog w=.ok (.slice (some ⟨w.heap.size,0,none⟩) (cap+1) G) D:=by
  have h:=Lib.run_append_grow_zeros w 294 3 294 297 i0 z .i64 .i64 tS iB Ce hz (some ⟨g,0,none⟩) i cap (xs.take (i*3)) (by rw[yg];exact run_firstCells_some w.drew 3 i ⟨g,0,none⟩ i cap _ Sz fun j v hj=>vX w.drew q3 0 j v (by
   rw[cV]at hj;split at hj
   ·simpa using hj
   cases hj)) (cap+1-i) (by omega) (by omega) (by omega) (by omega) (by rw[xq];omega) (by rw[xq,I_];exact growslice_fits (by omega) (by omega))
  rw[I_,<-hG]at h;rw[uG,h,V,hR,gw]
 obtain⟨R1,PO⟩:∃R1,R1=eJ (i*3) x R:=⟨_,rfl⟩;have ET:R1.length=G*3:=by rw[PO,ir (by rw[N6,U];omega),N6]
 obtain⟨O,ES⟩:∃O,O=D.setRow w.heap.size R1.toArray:=⟨_,rfl⟩;obtain⟨W3,E1⟩:∃W3,W3=O.drew.setRow w.heap.size (eJ ((i+1)*3) (xs.drop (i*3)) R1).toArray:=⟨_,rfl⟩;have cA:∀d N,(Builtin.copy_ #[294,294] d #[.slice (some ⟨w.heap.size,i*3,none⟩) (cap+1-i) N,.slice (some ⟨J,0,none⟩) 1 Y]).run Tryz.prog D=.ok (goInt (Nat.min 1 (cap+1-i))) O:=fun d N=>by
  rw[ES,PO];exact jE (P:=Tryz.prog) D 294 294 d 297 3 w.heap.size (i*3) (cap+1-i) N ⟨J,0,none⟩ 1 Y R.toArray 297 x tS hsz SA (by rw[U,show Nat.min 1 (cap+1-i)=1 by simp only[sX];split<;>omega]) (vW D (by rw[old J U7];exact Bn)) (by rw[eF,N6];omega) N5
 have N7:O.heap[w.heap.size]?=some (.cells R1.toArray 297 (0,0)):=by rw[ES];exact setRow_heap _ _ _ _ _ _ SA
 have Iz:∀k,k<w.heap.size->O.heap[k]?=w.heap[k]?:=fun k hk=>by rw[ES,(dN D w.heap.size R1.toArray).block k (by rw[PN,kT];omega) (by omega)];exact old k hk
 have cB:∀d N sc,(Builtin.copy_ #[294,294] d #[.slice (some ⟨w.heap.size,(i+1)*3,none⟩) (cap-i) N,.slice (some ⟨g,i*3,none⟩) (cap-i) sc]).run Tryz.prog O.drew=.ok (goInt (Nat.min (cap-i) (cap-i))) W3:=fun d N sc=>by
  rw[E1];have:=jE (P:=Tryz.prog) O.drew 294 294 d 297 3 w.heap.size ((i+1)*3) (cap-i) N ⟨g,i*3,none⟩ (cap-i) sc R1.toArray 297 (xs.drop (i*3)) tS hsz N7 (by rw[HO,show Nat.min (cap-i) (cap-i)=cap-i from yZ _]) (vX O.drew (by show O.heap[g]?=_;rw[Iz g XG];exact q3) _) (by rw[e1,mT,eF,ET];exact a8 _ PM) Lv;exact this
 have Va:Fr (fun b=>bY v0=some b) w W3:=by
  have f3:=dN O.drew w.heap.size (eJ ((i+1)*3) (xs.drop (i*3)) R1).toArray;rw[<-E1]at f3;have f2:=dN D w.heap.size R1.toArray;rw[<-ES]at f2;refine⟨f3.os.trans (f2.os.trans (by rw[V];rfl)),f3.tape.trans (f2.tape.trans (by rw[V];rfl)),f3.output.trans (f2.output.trans (by rw[V];rfl)),aO (sG (lg N7)) f3.size,fun k hk _=>?_⟩;rw[f3.block k (by show k<O.heap.size;have:=lg N7;omega) (by omega)];exact Iz k hk
 have N8:W3.ownsRow 0 297 3 (.slice (some ⟨w.heap.size,0,none⟩) (cap+1) G) (cap+1) (xs.take (i*3)++x++xs.drop (i*3)):=by
  rw[E1];refine oy (setRow_heap _ _ _ _ _ _ N7) PM Sy (by rw[ir (by rw[e1,mT,ET];exact a8 _ PM),ET]) ?_;rw[PO,e1,<-mT];exact JQ U_ (by rw[mT,N6];exact a8 _ PM)
 refine fin _ W3 N8 Va (fun g' lN=>.inl (by injection lN with lN;exact nL lN)) ?_;rw[q1];have mixed:Tryz.prog.follows .mixedOrders=true:=hC.any;have Kg:IntKind.i64.wrap ((i:Int)+1)=(i:Int)+1:=by rw[zh];omega
 have XI:(0:Int)<=(i:Int)+1:=by omega
 have XJ:(i:Int)+1<=(cap:Int)+1:=by omega
 have XK:((i:Int)+1).toNat=i+1:=by omega
 have XL:¬(G=i+1):=by omega
 have XM:¬(G=i):=by omega
 have XN:cap+1-(i+1)=cap-i:=by omega
 have XO:(i:Int)<=(cap:Int):=by omega
 have ZZ:¬(cap=i):=by omega
 have XP:(cap:Int)<(cap:Int)+1:=by omega
 clear mT Lv E1 ES V PO hR hG e1 N8 Va N7 Iz old SA PN ET U_ N6 fin grow uG I_
 go_enter sY,vU
 go_wp2_with (first
  | (at_builtin;refine ox _ rfl _ _ _ _ rfl _ _ rfl rfl _ _ Z ?_)
  | (at_builtin;refine mH _ rfl _ _ 294 294 rfl _ _ rfl rfl (cA _ _) ?_))
 go_region_law_o (refine qi rfl _ _ 294 294 rfl _ _ (by simp[Act.eval,Act.put]) (by simp[Act.eval,Act.put]) (cB _ _ _) ?_)
 go_wp2
 go_ret
 exact⟨rfl,rfl,rfl,rfl,rfl⟩
open Reg (dS du eC)
theorem rM(a b:Int×Int):af C 291 [.pv (.ag (sp a)),.pv (.ag (sp b))] (.p (bool (qy a b))) []:=by
 refine fW hC Tryz.func291 rfl (by kernel_rfl) fun _=>?_;apply iW<;>intro h<;>(refine⟨?_,trivial⟩)<;>simp[bool,qy,h]
theorem EU(a b:Int×Int)(d:Bs a)(hb:Bs b):af C 293 [.pv (.ag (sp a)),.pv (.ag (sp b))] (.p (bool (decide (dS a b)))) []:=by
 obtain⟨h1,h2⟩:=d;obtain⟨h3,h4⟩:=hb;refine fW hC Tryz.func293 rfl (by kernel_rfl) fun _=>?_;refine⟨wO (by omega),wO (by omega),iW ?_ ?_⟩<;>intro h
 ·refine⟨wO (by omega),wO (by omega),?_,trivial⟩;refine ah (fun b=>PV.im (.bool b)) (decide_eq_decide.2 ?_);unfold dS lexLt;dsimp only;omega
 refine⟨?_,trivial⟩;refine ah (fun b=>PV.im (.bool b)) (decide_eq_decide.2 ?_);unfold dS lexLt;dsimp only;omega
def N9(y:(Int×Int)×Bool):List Value:=[.int .i64 y.1.1,.int .i64 y.1.2,.bool y.2]
theorem A7(T:List ((Int×Int)×Bool)):az (T.map N9)=T.map fC:=by
 unfold az;rw[mq];rfl
theorem GM{β:Type}(f:α->β)(l:List α)(k:Nat)(x:α):gE (l.map f) k (f x)=(gE l k x).map f:=by
 unfold gE;rw[bz,fJ,iC,vd]
theorem GN(T:List ((Int×Int)×Bool))(k:Nat)(hk:k<=T.length)(x:(Int×Int)×Bool)(z:T.length<=1000000):af C 294 [.row 297 (T.map fC),.pv (i64 k),.row 297 [fC x]] (.own 297 ((gE T k x).map fC)) [.gone,.gone]:=by
 have h:=IA (T.map N9) (N9 x) k (by rw[aw];exact hk) (fun r u=>by obtain⟨y,_,rfl⟩:=bF.1 u;rfl) rfl (fun r u v d=>by
  obtain⟨y,_,rfl⟩:=bF.1 u;simp only[N9,aE,oh,or_false]at d;rcases d with rfl | rfl | rfl<;>rfl) (fun v d=>by
  simp only[N9,aE,oh,or_false]at d;rcases d with rfl | rfl | rfl<;>rfl) (by rw[aw];exact z)
 rw[GM,A7,A7]at h;exact h
theorem GO(c:Nat):∀(L B:List (Int×Int)),(L.foldl (eC c) B).length<=B.length+L.length
 | [],B=>by simp
 | x::L,B=>by
  rw[jg,cH];have h1:=GO c L (eC c B x);have h2:(eC c B x).length<=B.length+1:=by
   unfold eC;split
   ·omega
   unfold gE;rw[bG,cH,aV,dn];omega
  omega
theorem GP(c:Nat):∀(L B:List (Int×Int)) x,x∈L.foldl (eC c) B->x∈B\/x∈L
 | [],B,x,h=>.inl h
 | y::L,B,x,h=>by
  rw[jg]at h;rcases GP c L _ x h with h | h
  ·unfold eC at h;split at h
   ·exact .inl h
   rcases Reg.rH.1 h with h | h
   ·exact .inr (h▸bK ..)
   exact .inl h
  exact .inr (cK _ h)
theorem Lh(m:List cw)(s:List Lay)(l:List (Int×Int))(U:bH m s=0)(hs:s.length<=1048576)(hl:l.length<=1000)(hb:∀x∈l,Bs x):af C 185 [.pv (.sl (m.map iX)),.pv (.sl (s.map gJ)),.pv (.sl (l.map sp))] (.own 297 ((fB (bA m s s.length).length (cq m s l)).map fC)) []:=by
 have gm:=kG (ez U).1;have gl:=gm.len;have XQ:s.length<=60:=by
  obtain⟨_,R⟩:=ez U;split at R
  ·cases R
  omega
 have Aw:=qb m s (by omega) hs;have YL:=Ld U;have XR:=N1 (m:=m) hs hb;have cl:=sR (m:=m) (s:=s) (i:=s.length);have Om:=EJ (m:=m) hs hb;have YM:∀x∈bA m s s.length,Bs x:=fun x D=>by
  unfold bA at D;obtain⟨k,hk,rfl⟩:=bF.1 D;have:=rB (m:=m) (s:=s) (i:=k);have hk:=fN.1 (ml.1 hk).1;unfold Bs;dsimp only;omega
 have hcl:=xY l (by omega);have S_:1<=(cZ m s s.length).length:=by
  have h:=(sU U).2;unfold qa at h;split at h
  ·cases h
  omega
 have hcL:=ry (m:=m) (s:=s) (i:=s.length);have YN:∀(j:Nat) a,(cZ m s s.length)[j]?=some a->∃p:Nat,a=p/\p<s.length:=fun j a h=>by
  obtain⟨p,h1,R,_⟩:=Iu h;exact⟨p,h1,R⟩
 obtain⟨cs,nR⟩:∃cs,cs=bA m s s.length:=⟨_,rfl⟩;obtain⟨L,hL⟩:∃L,L=w9 m s l:=⟨_,rfl⟩;have IW:w9 m s l=l++[(1,((cZ m s s.length).length:Int))]:=rfl;rw[<-nR]at YL XR cl YM ⊢;rw[<-XR,<-hL];rw[<-hL]at Om IW;clear XR;generalize cZ m s s.length=c at *;have lc:=ak c fun n=>[i64 n];have lL:=ak L sp;have Iq:L.length<=1001:=by rw[IW];simp;omega
 refine sd ⟨[],[6],[],[],[],[]⟩ hC Tryz.func185 rfl (by kernel_rfl) fun _=>?_;refine⟨_,_,Aw,?_⟩;refine ax (fun i:Nat=>1<=i/\i<=c.length) (fun i=>[(0,.p (.sl (m.map iX))),(1,.p (.sl (s.map gJ))),(2,.p (.sl (l.map sp))),(7,.ow 7),(8,.p (ints c)),(9,.p (i64 i))]) (fun i=>[(7,.row 297 ((fp m s c i).map fun x=>fC (x,true)))]) (fun i=>c.length-i) 1 _ (au.trans (au.ed hC _ 7 297 _ (by decide) rfl rfl (by decide)) (au.gn hC _ 8 (y:=ints c) (fz:=[(8,.jr (c.map fun n=>[i64 n]))]) ⟨rfl,rfl⟩)) ⟨by omega,by omega⟩ ⟨Z,Z,Z,Z,Z,Z,Y⟩ ⟨Z,Y⟩ fun i hi t h=>?_;apply iW<;>intro h1
 ·obtain⟨a,V⟩:=aj (l:=c) (i:=i) (by omega);obtain⟨b,gZ⟩:=aj (l:=c) (i:=i-1) (by omega);obtain⟨pa,rfl,VJ⟩:=YN i a V;obtain⟨pb,rfl,TS⟩:=YN (i-1) b gZ;have xl:=Iv m s c i;have I:=x_ (m:=m) (s:=s) (c:=c) hi.1;have W:A2 m s c i=(decide ((pa:Int)-pb=2)&&l6 m s ((pa:Int)-1).toNat):=by simp only[A2,V,gZ]
  have lr:=ak (fp m s c i) fun x=>fC (x,true);refine⟨[i64 (pa:Int)],(idx rfl V),wO (by omega),[i64 (pb:Int)],(idx (show (i:Int)-1=((i-1:Nat):Int) by omega) gZ),wO (by omega),iW ?_ ?_⟩<;>intro d
  ·obtain⟨y,u⟩:=aj (l:=s) (i:=pa-1) (by omega);have e1:((pa:Int)-1).toNat=pa-1:=by omega
   have e9:l6 m s (pa-1)=decide (cg m y.mat=2):=by rw[l6,u]
   rw[aP d,fu,e1,e9]at W;refine⟨[i64 (pa:Int)],(idx rfl V),wO (by omega),(gJ y),(idx (show (pa:Int)-1=((pa-1:Nat):Int) by omega) u),_,_,(gK m y.mat (by omega)),iW ?_ ?_⟩<;>intro J
   ·have J:cg m y.mat=2:=J;rw[W,ae (aP J)]at I;exact⟨wO (by omega),⟨fun r hr=>(by rw[bM.1 hr];rfl),by rw[lr];simp;omega,by rw[lr];simp;omega⟩,wO (by omega),(i+1),_,au.refl _ _,⟨by omega,by omega⟩,by omega,⟨Z,Z,Z,Z,Z,Z,Y⟩,⟨by rw[I,bz];rfl,trivial⟩⟩
   have J:¬cg m y.mat=2:=J;rw[W,aa (by rw[aL J];decide),cQ]at I;exact⟨wO (by omega),(i+1),_,au.refl _ _,⟨by omega,by omega⟩,by omega,⟨Z,Z,Z,Z,Z,Z,Y⟩,⟨by rw[I];rfl,trivial⟩⟩
  rw[W,aL d,pU,aa (by decide),cQ]at I;exact⟨wO (by omega),(i+1),_,au.refl _ _,⟨by omega,by omega⟩,by omega,⟨Z,Z,Z,Z,Z,Z,Y⟩,⟨by rw[I];rfl,trivial⟩⟩
 have ei:i=c.length:=by omega
 subst ei;rw[YL];have lcs:(cs.map fun x=>fC (x,true)).length=cs.length:=aw ..;have he:l.map sp++[[i64 1,i64 ((c.map fun n=>[i64 n]).length:Int)]]=L.map sp:=by rw[IW,bz,lc];rfl
 have S4:((l.map sp++[[i64 1,i64 ((c.map fun n=>[i64 n]).length:Int)]]).length:Int)=L.length:=by rw[he,lL]
 have XS:fB cs.length cs=cs.map fun x=>(x,true):=by rw[fB,fQ,List.drop_length];simp
 refine⟨_,_,hcl,⟨fun r hr=>(by rw[bM.1 hr];rfl),by simp;omega,by simp;omega⟩,?_⟩;refine ax (fun i:Nat=>i<=L.length) (fun i=>[(7,.ow 7),(10,.p (i64 cs.length)),(68,.p (.sl (L.map sp))),(69,.p (i64 L.length)),(70,.p (i64 i))]) (fun i=>[(7,.row 297 ((fB cs.length ((L.take i).foldl (eC cs.length) cs)).map fC))]) (fun i=>L.length-i) 0 _ (au.gn hC _ 68 (y:=.sl (l.map sp++[[i64 1,i64 ((c.map fun n=>[i64 n]).length:Int)]])) ⟨rfl,rfl⟩) (ai _) ⟨rfl,ah (fun n:Nat=>AV.p (i64 n)) lcs,ah (fun r=>AV.p (PV.sl r)) he,bc S4,Z,Y⟩ ⟨by rw[List.take_zero,List.foldl_nil,XS,mq];rfl,trivial⟩ fun i hi t h=>?_;apply iW<;>intro R
 ·obtain⟨x,D⟩:=aj (l:=L) (i:=i) (by omega);have N:(L.take (i+1)).foldl (eC cs.length) cs=eC cs.length ((L.take i).foldl (eC cs.length) cs) x:=by rw[aN D,se];rfl
  have QI:=GO cs.length (L.take i) cs;have YO:∀y∈(L.take i).foldl (eC cs.length) cs,Bs y:=fun y u=>by
   rcases GP _ _ _ y u with h | h
   ·exact YM y h
   exact Om y (jK h)
  have YP:cs.length<=((L.take i).foldl (eC cs.length) cs).length:=by
   generalize L.take i=Q;clear QI YO N;have:∀(Q B:List (Int×Int)),B.length<=(Q.foldl (eC cs.length) B).length:=by
    intro Q
    induction Q with
    | nil=>intro B;exact aF _
    | cons z Q ih=>
     intro B;refine aO ?_ (ih (eC cs.length B z));unfold eC;split
     ·exact aF _
     unfold gE;rw[bG,cH,aV,dn];omega
   exact this Q cs
  rw[aV,gx (by omega)]at QI;have bx:=Om x (an D);generalize (L.take i).foldl (eC cs.length) cs=B at *;have lT:=qf cs.length B;have N_:=ak (fB cs.length B) fC;refine⟨(sp x),(idx rfl D),?_⟩;refine ax (fun k:Nat=>k<=B.length) (fun k=>[(7,.ow 7),(10,.p (i64 cs.length)),(68,.p (.sl (L.map sp))),(69,.p (i64 L.length)),(70,.p (i64 i)),(12,.bx 12 0),(13,.p (bool (((fB cs.length B).take k).any fun y=>decide (y.1=x)))),(74,.ow 7),(75,.p (i64 B.length)),(76,.p (i64 k))]) (fun _=>[(7,.row 297 ((fB cs.length B).map fC)),(12,.box ((sp x).map .p))]) (fun k=>B.length-k) 0 _ (au.refl _ _) (ai _) ⟨rfl,rfl,rfl,rfl,rfl,rfl,rfl,rfl,ah (fun n:Nat=>AV.p (i64 n)) (N_.trans lT),Z,Y⟩ ⟨Z,Z,Y⟩ fun k hk t h=>?_;apply iW<;>intro h3
  ·obtain⟨y,u⟩:=aj (l:=fB cs.length B) (i:=k) (by omega);have Kx:((fB cs.length B).take (k+1)).any (fun y=>decide (y.1=x))=(((fB cs.length B).take k).any (fun y=>decide (y.1=x))||decide (y.1=x)):=by rw[aN u,mz];simp
   refine⟨⟨by omega,by rw[N_];omega⟩,(fC y),(idx rfl u).2,?_⟩;generalize ((fB cs.length B).take k).any (fun y=>decide (y.1=x))=K at *;cases K with
   | true=>
    exact⟨wO (by omega),(k+1),_,au.refl _ _,by omega,by omega,⟨rfl,rfl,rfl,rfl,rfl,rfl,by rw[Kx];rfl,Z,Z,Z,Y⟩,⟨Z,Z,Y⟩⟩
   | false=>
    exact⟨wO (by omega),(k+1),_,au.refl _ _,by omega,by omega,⟨rfl,rfl,rfl,rfl,rfl,rfl,by rw[Kx,jk,<-iI];rfl,Z,Z,Z,Y⟩,⟨Z,Z,Y⟩⟩
  have ek:k=B.length:=by omega
  subst ek;have Nd:((fB cs.length B).take B.length).any (fun y=>decide (y.1=x))=decide (x∈B):=by rw[aW (by omega),PH]
  rw[Nd];by_cases hm:x∈B
  ·rw[aP hm];rw[eC,ae hm]at N;exact⟨wO (by omega),(i+1),_,au.refl _ _,by omega,by omega,⟨Z,Z,Z,Z,Z,Y⟩,⟨by rw[N];rfl,trivial⟩⟩
  rw[aL hm];rw[eC,aa hm]at N;obtain⟨q1,q2,_⟩:=Reg.kL dS (x:=x) B.length YP (aF _);obtain⟨z,hz⟩:∃z,z=du dS cs.length x B B.length:=⟨_,rfl⟩;rw[<-hz]at N q1 q2;refine DL (fun k:Nat=>k=z) (fun k=>[(7,.ow 7),(10,.p (i64 cs.length)),(68,.p (.sl (L.map sp))),(69,.p (i64 L.length)),(70,.p (i64 i)),(12,.bx 12 0),(16,.p (i64 k))]) (fun _=>[(7,.row 297 ((fB cs.length B).map fC)),(12,.box ((sp x).map .p))]) (fun k hk t h=>?_) ?_
  ·subst hk;exact⟨_,_,(GN (fB cs.length B) k (by omega) (x,false) (by omega)),wO (by omega),(i+1),_,au.refl _ _,by omega,by omega,⟨Z,Z,Z,Z,Z,Y⟩,⟨by rw[N,<-PG q1 q2];rfl,trivial⟩⟩
  refine ax (fun k:Nat=>cs.length<=k/\k<=B.length/\du dS cs.length x B k=z) (fun k=>[(7,.ow 7),(10,.p (i64 cs.length)),(68,.p (.sl (L.map sp))),(69,.p (i64 L.length)),(70,.p (i64 i)),(12,.bx 12 0),(16,.p (i64 k))]) (fun _=>[(7,.row 297 ((fB cs.length B).map fC)),(12,.box ((sp x).map .p))]) (fun k=>k) B.length _ (au.refl _ _) ⟨YP,aF _,hz.symm⟩ ⟨rfl,rfl,rfl,rfl,rfl,rfl,ah (fun n:Nat=>AV.p (i64 n)) (N_.trans lT),trivial⟩ ⟨Z,Z,Y⟩ fun k hk t h=>?_;obtain⟨k1,k2,k3⟩:=hk;apply iW<;>intro h4
  ·obtain⟨j,rfl⟩:∃j,k=j+1:=⟨k-1,by omega⟩;obtain⟨y,u⟩:=aj (l:=B) (i:=j) (by omega);have XT:=jq (q:=cs.length) u;have Z0:=YO y (an u);have O:du dS cs.length x B (j+1)=if cs.length<=j/\dS x y then du dS cs.length x B j else j+1:=by rw[du,u]
   have ej:((j+1:Nat):Int)-1=(j:Nat):=by omega
   refine⟨wO (by omega),⟨by omega,by rw[N_];omega⟩,(fC (y,decide (j<cs.length))),(idx ej XT).2,_,_,(EU x y bx Z0),iW ?_ ?_⟩<;>intro h5
   ·rw[ae ⟨by omega,h5⟩]at O;exact⟨wO (by omega),j,_,au.refl _ _,⟨by omega,by omega,O.symm.trans k3⟩,by omega,⟨rfl,rfl,rfl,rfl,rfl,rfl,bc ej,trivial⟩,⟨Z,Z,Y⟩⟩
   rw[aa (fun h=>h5 h.2)]at O;exact⟨j+1,O.symm.trans k3,⟨Z,Z,Z,Z,Z,Z,Z,Y⟩,⟨Z,Z,Y⟩⟩
  have ek:k=cs.length:=by omega
  have O:du dS cs.length x B k=k:=by
   subst ek;cases hq:cs.length with
   | zero=>rfl
   | succ j=>
    obtain⟨y,u⟩:=aj (l:=B) (i:=j) (by omega);rw[du,u];exact aa fun h=>by omega
  exact⟨k,O.symm.trans k3,⟨Z,Z,Z,Z,Z,Z,Z,Y⟩,⟨Z,Z,Y⟩⟩
 have e:i=L.length:=by omega
 subst e;rw[fQ];exact⟨Z,Z,Y⟩
end M
end Go.Proofs.YtnpkopkpbgflnaaGreatDoor
namespace Go.AM
open Go.RowKit
theorem fx.YQ{S S':Nat->Prop}{w:World}{P:Program}:∀{xs:List PV} {vs:List Value},fx S w P (xs.map .pv) [] vs->fx S' w P (xs.map .pv) [] vs
 | [],[],h=>h
 | [],_::_,h=>h
 | _::_,[],h=>h
 | _::xs,_::vs,h=>fx.YQ (xs:=xs) (vs:=vs) h
theorem af.jr{C:Ctx}{f:FuncId}{xs:List PV}{e:TypeId}{es:List (List PV)}(h:af C f (xs.map .pv) (.own e es) []):af C f (xs.map .pv) (.p (.sl es)) []:=by
 refine⟨h.1,fun S w vs u hS z D I=>(h.2 S w vs u hS z D I).mono ?_⟩;rintro e' w' ⟨v,S',rfl,fr,J,N,O,R,U,V,d⟩;have W:aC C.P w' (aQ S' w') e es v:=R.1;refine⟨v,fun b=>S' b\/bY v=some b,rfl,fr,fun b hb=>.inl (J b hb),fun b hb=>?_,fun b hb=>?_,W.Fa (fun b h=>.inl h) (fun g h=>.inr h),fx.YQ U,V,fun g Y=>by cases Y⟩
 ·rcases hb with hb | hb
  ·exact N b hb
  exact (d b rfl (E2 hb)).1
 rcases hb with hb | hb
 ·exact O b hb
 exact .inr (d b rfl (E2 hb)).2.1
end Go.AM
namespace Go.Proofs.YtnpkopkpbgflnaaGreatDoor
namespace M
open Go.AM Go.RowKit Go.Lib
open Reg (lexLt dS eB gE du eC)
theorem A8(m:List cw)(s:List Lay)(l:List (Int×Int))(d:bH m s=0)(hs:s.length<=1048576)(u:l.length<=1000)(hb:∀x∈l,Bs x):af C 185 [.pv (.sl (m.map iX)),.pv (.sl (s.map gJ)),.pv (.sl (l.map sp))] (.p (.sl ((fB (bA m s s.length).length (cq m s l)).map fC))) []:=af.jr (xs:=[.sl (m.map iX),.sl (s.map gJ),.sl (l.map sp)]) (Lh m s l d hs u hb)
theorem Li(B:List (Int×Int))(q:Nat)(a:Int×Int)(f:Bool)(hN:B.length<=1000000)(ha:1<=a.1/\a.1<=2000000/\a.2<=2000000):af C 292 [.pv (.sl ((fB q B).map fC)),.pv (.ag (fC (a,f)))] (.p (bool (!o6 B a (a.2-a.1-1).toNat))) []:=by
 have R:=qf q B;have U:=ak (fB q B) fC;obtain⟨K,V⟩:∃K,K=(a.2-a.1-1).toNat:=⟨_,rfl⟩;rw[<-V];refine fW hC Tryz.func292 rfl (by kernel_rfl) fun _=>?_;refine⟨⟨by dsimp only;omega,by dsimp only;omega⟩,?_⟩;refine ax (fun k:Nat=>k<=K/\o6 B a k=false) (fun k=>[(0,.p (.sl ((fB q B).map fC))),(3,.bx 3 0),(5,.p (i64 (a.1+1+(k:Int))))]) (fun _=>[(3,.box ((fC (a,f)).map .p))]) (fun k=>K-k) 0 _ (au.refl _ _) ⟨ai _,rfl⟩ ⟨rfl,rfl,bc (by simp),trivial⟩ ⟨Z,Y⟩ fun k hk t h=>?_;apply iW<;>intro J<;>dsimp only at J
 ·have W:k<K:=by omega
  have z:=AP B a k;rw[hk.2,jk]at z;obtain⟨c,hc⟩:∃c,c=a.1+1+(k:Int):=⟨_,rfl⟩;rw[<-hc]at z J ⊢;refine ax (fun j:Nat=>j<=B.length) (fun j=>[(0,.p (.sl ((fB q B).map fC))),(3,.bx 3 0),(5,.p (i64 c)),(6,.p (bool ((B.take j).any (rC a c)))),(20,.p (.sl ((fB q B).map fC))),(21,.p (i64 B.length)),(22,.p (i64 j))]) (fun _=>[(3,.box ((fC (a,f)).map .p))]) (fun j=>B.length-j) 0 _ (au.refl _ _) (ai _) ⟨rfl,rfl,rfl,rfl,rfl,ah (fun n:Nat=>AV.p (i64 n)) (U.trans R),Z,Y⟩ ⟨Z,Y⟩ fun j hj t h=>?_;apply iW<;>intro h2
  ·obtain⟨b,hb⟩:=aj (l:=B) (i:=j) (by omega);have XT:=jq (q:=q) hb;have N:(B.take (j+1)).any (rC a c)=((B.take j).any (rC a c)||rC a c b):=by rw[aN hb,mz];simp
   have O:=rM b a;have hw:=lD c b.1 b.2;have u:rC a c b=(!decide (b=a)&&(qy b a&&dR c b.1 b.2)):=rfl;refine⟨(fC (b,decide (j<q))),(idx rfl XT),?_⟩;generalize (B.take j).any (rC a c)=I at *;have go:∀v,I=false->rC a c b=v->(B.take (j+1)).any (rC a c)=v:=fun v e1 D=>by rw[N,e1,D];rfl
   cases I with
   | true=>
    exact⟨wO (by omega),(j+1),_,au.refl _ _,by omega,by omega,⟨rfl,rfl,rfl,by rw[N];rfl,Z,Z,Z,Y⟩,⟨Z,Y⟩⟩
   | false=>
    have go:=fun v D=>go v rfl D;apply iW<;>intro d
    ·have d:decide (b=a)=false:=by rw[<-iI];exact d
     rw[d,Bool.not_false,fu]at u;generalize qy b a=L1 at *;cases L1 with
     | false=>
      exact⟨_,_,O,wO (by omega),(j+1),_,au.refl _ _,by omega,by omega,⟨rfl,rfl,rfl,by rw[go _ u];rfl,Z,Z,Z,Y⟩,⟨Z,Y⟩⟩
     | true=>
      exact⟨_,_,O,_,_,hw,wO (by omega),(j+1),_,au.refl _ _,by omega,by omega,⟨rfl,rfl,rfl,by rw[go _ u];rfl,Z,Z,Z,Y⟩,⟨Z,Y⟩⟩
    have d:decide (b=a)=true:=by rw[<-iI];exact d
    rw[d,jR,pU]at u;exact⟨wO (by omega),(j+1),_,au.refl _ _,by omega,by omega,⟨rfl,rfl,rfl,by rw[go _ u];rfl,Z,Z,Z,Y⟩,⟨Z,Y⟩⟩
  have ej:j=B.length:=by omega
  subst ej;rw[fQ];generalize B.any (rC a c)=I at *;cases I with
  | true=>
   exact⟨wO (by omega),(k+1),_,au.refl _ _,⟨by omega,z⟩,by omega,⟨rfl,rfl,bc (by omega),trivial⟩,⟨Z,Y⟩⟩
  | false=>
   refine⟨?_,trivial⟩;rw[Gw z W];rfl
 have e:k=K:=by omega
 refine⟨?_,trivial⟩;rw[<-e,hk.2];rfl
theorem Lj{m:List cw}{s:List Lay}{l:List (Int×Int)}(D:bH m s=0)(h:∀x∈l,1<=x.1/\x.1<x.2/\x.2<=nC m s s.length):∀x∈cq m s l,1<=x.1+1/\x.1<=x.2/\x.2<=1048577/\(x∈fS m s l->1<=x.1):=fun x d=>by
 have hn:=rB (m:=m) (s:=s) (i:=s.length);have h2:2<=nC m s s.length/\s.length<=60:=by
  obtain⟨_,I⟩:=ez D;split at I
  ·cases I
  have u:=(sU D).2;unfold qa at u;split at u
  ·cases u
  unfold nC;omega
 have hp:∀y∈fS m s l,1<=y.1/\y.1<=y.2/\y.2<=nC m s s.length:=fun y J=>by
  have N:=(o5.1 ((db Gt Io _).1.mem_iff.1 J)).1;rcases cm.1 N with z | z
  ·have:=h y z;omega
  rw[List.mem_singleton.1 z];dsimp only;omega
 refine⟨?_,?_,?_,fun d=>(hp x d).1⟩
 all_goals
  rcases cm.1 d with d | d
  ·unfold bA at d;obtain⟨k,hk,rfl⟩:=bF.1 d;have:=rB (m:=m) (s:=s) (i:=k);have hk:=fN.1 (ml.1 hk).1;dsimp only;omega
  have:=hp x d;omega
theorem yz(m:List cw)(s:List Lay)(l:List (Int×Int))(hm:nn m)(hs:kZ s)(hN:l.length<=1048576):af C 184 [.pv (.sl (m.map iX)),.pv (.sl (s.map gJ)),.pv (.sl (l.map sp))] (.p (i64 (bQ m s l))) []:=by
 refine fW hC Tryz.func184 rfl (by kernel_rfl) fun _=>?_;have lm:=ak l sp;refine⟨_,_,(qw m s hm hs),iW ?_ ?_⟩<;>intro I
 ·have I:bH m s≠0:=by simpa using I
  refine⟨?_,trivial⟩;rw[bQ,cu rfl I]
 have I:bH m s=0:=by simpa using I
 have gm:=kG (ez I).1;have gl:=gm.len;rw[bQ,dF I];apply iW<;>intro g2
 ·refine⟨?_,trivial⟩;rw[ae (by omega)];rfl
 rw[aa (by omega)];have Aw:=af.jr (xs:=[.sl (m.map iX),.sl (s.map gJ)]) (qb m s (by omega) hs.1);have hn:(((cZ m s s.length).map fun n=>[i64 n]).length:Int)=nC m s s.length:=by rw[aw];rfl
 have HL:=rB (m:=m) (s:=s) (i:=s.length);have Ch:=hs.1;have XQ:s.length<=60:=by
  obtain⟨_,R⟩:=ez I;split at R
  ·cases R
  omega
 obtain⟨n,NT⟩:∃n,n=nC m s s.length:=⟨_,rfl⟩;rw[<-NT]at hn HL ⊢;refine ax (fun i:Nat=>i<=l.length/\∀k,k<i->jo n l k=0) (fun i=>[(0,.p (.sl (m.map iX))),(1,.p (.sl (s.map gJ))),(2,.p (.sl (l.map sp))),(26,.p (.sl (l.map sp))),(27,.p (i64 l.length)),(28,.p (i64 i))]) (fun _=>[]) (fun i=>l.length-i) 0 _ (au.refl _ _) ⟨ai _,fun k h=>by omega⟩ ⟨rfl,rfl,rfl,rfl,ah (fun n:Nat=>AV.p (i64 n)) lm,Z,Y⟩ trivial fun i hi t h=>?_;apply iW<;>intro h1
 ·obtain⟨x,N⟩:=aj (l:=l) (i:=i) (by omega);obtain⟨p,hp⟩:=aj (l:=l) (i:=i-1) (by omega);have u:=ug (n:=n) N hp;have D:∀{c:Int},jo n l i=c->c≠0->aG (jo n l) 0 l.length=c:=fun e h0=>ao hi.2 (by omega) e h0;refine⟨(sp x),(idx rfl N),iW ?_ ?_⟩<;>intro a1
  ·refine⟨?_,trivial⟩;rw[ae (.inl a1)]at u;rw[cu (D u (by decide)) (by decide)];rfl
  refine⟨_,_,Aw,iW ?_ ?_⟩<;>intro a2
  ·refine⟨?_,trivial⟩;rw[ae (.inr (.inl (by omega)))]at u;rw[cu (D u (by decide)) (by decide)];rfl
  apply iW<;>intro a3
  ·refine⟨?_,trivial⟩;rw[ae (.inr (.inr a3))]at u;rw[cu (D u (by decide)) (by decide)];rfl
  rw[aa (by omega)]at u;apply iW<;>intro b0
  ·have U:(i:Int)-1=((i-1:Nat):Int):=by omega
   refine⟨wO (by omega),(sp p),(idx U hp),iW ?_ ?_⟩<;>intro b1
   ·refine⟨?_,trivial⟩;rw[ae ⟨by omega,by unfold lexLt;omega⟩]at u;rw[cu (D u (by decide)) (by decide)];rfl
   refine⟨wO (by omega),(sp p),(idx U hp),iW ?_ ?_⟩<;>intro b2
   ·refine⟨wO (by omega),(sp p),(idx U hp),iW ?_ ?_⟩<;>intro b3
    ·refine⟨?_,trivial⟩;rw[ae ⟨by omega,by unfold lexLt;omega⟩]at u;rw[cu (D u (by decide)) (by decide)];rfl
    rw[aa (by unfold lexLt;omega)]at u;exact⟨wO (by omega),(i+1),_,au.refl _ _,⟨by omega,bO hi.2 u⟩,by omega,⟨Z,Z,Z,Z,Z,Z,Y⟩,trivial⟩
   rw[aa (by unfold lexLt;omega)]at u;exact⟨wO (by omega),(i+1),_,au.refl _ _,⟨by omega,bO hi.2 u⟩,by omega,⟨Z,Z,Z,Z,Z,Z,Y⟩,trivial⟩
  rw[aa (by omega)]at u;exact⟨wO (by omega),(i+1),_,au.refl _ _,⟨by omega,bO hi.2 u⟩,by omega,⟨Z,Z,Z,Z,Z,Z,Y⟩,trivial⟩
 have Gx:∀k,k<l.length->jo n l k=0:=fun k hk=>hi.2 k (by omega);have V:=w_ Gx;rw[dF (aI fun k _ hk=>Gx k (by omega))];have Xw:l.length<=200:=by omega
 have ND:=A8 m s l I Ch (by omega) fun x N=>by
  have:=V x N;exact⟨⟨by omega,by omega⟩,by omega,by omega⟩
 rw[NT]at V;have W:=Lj I V;obtain⟨QI,Xy⟩:=jx (m:=m) (s:=s) (l:=l);have Z1:∀i,(bA m s s.length).length<=i->(cq m s l)[i]?=(fS m s l)[i-(bA m s s.length).length]?:=fun i hi=>by rw[cq,dV hi]
 rw[rD];generalize cq m s l=B at *;generalize fS m s l=P at *;generalize (bA m s s.length).length=q at *;have lT:=qf q B;have N_:=ak (fB q B) fC;refine⟨_,_,ND,?_⟩;refine ax (fun i:Nat=>i<=B.length/\∀k,k<i->tC B k=0) (fun i=>[(10,.p (.sl ((fB q B).map fC))),(92,.p (.sl ((fB q B).map fC))),(93,.p (i64 B.length)),(94,.p (i64 i))]) (fun _=>[]) (fun i=>B.length-i) 0 _ (au.refl _ _) ⟨ai _,fun k h=>by omega⟩ ⟨rfl,rfl,ah (fun n:Nat=>AV.p (i64 n)) (N_.trans lT),Z,Y⟩ trivial fun i hi t h=>?_;apply iW<;>intro R
 ·obtain⟨a,J⟩:=aj (l:=B) (i:=i) (by omega);have XU:=jq (q:=q) J;have ka:=W a (an J);have u:tC B i=if (B.take i).any (uf a)=true then 12 else 0:=by simp only[tC,J]
  refine⟨(fC (a,decide (i<q))),(idx rfl XU),⟨by omega,by omega,by omega,j_ fun _=>rfl⟩,?_⟩;have eT:(((fB q B).map fC).take (i:Int).toNat).drop (0:Int).toNat=((fB q B).take i).map fC:=by simp
  have eL:(((((fB q B).map fC).take (i:Int).toNat).drop (0:Int).toNat).length:Int)=i:=by rw[eT,aw,aV];omega
  refine ax (fun j:Nat=>j<=i/\∀z∈(B.take i).take j,uf a z=false) (fun j=>[(10,.p (.sl ((fB q B).map fC))),(92,.p (.sl ((fB q B).map fC))),(93,.p (i64 B.length)),(94,.p (i64 i)),(12,.bx 12 0),(101,.p (.sl (((fB q B).take i).map fC))),(102,.p (i64 i)),(103,.p (i64 j))]) (fun _=>[(12,.box ((fC (a,decide (i<q))).map .p))]) (fun j=>i-j) 0 _ (au.refl _ _) ⟨ai _,by simp⟩ ⟨rfl,rfl,rfl,rfl,rfl,ah (fun r=>AV.p (PV.sl r)) eT,bc eL,Z,Y⟩ ⟨Z,Y⟩ fun j O t h=>?_;apply iW<;>intro h3
  ·obtain⟨b,hb⟩:=aj (l:=B.take i) (i:=j) (by rw[aV];omega);have xp:B[j]?=some b:=by rw[iv (by omega)]at hb;exact hb
   have XV:((fB q B).take i)[j]?=some (b,decide (j<q)):=by rw[iv (by omega)];exact jq xp
   have kb:=W b (an xp);have c1:=rM a b;have c2:=rM b a;have kc:uf a b=(decide (a.1<=b.2)&&(decide (b.1<=a.2)&&(!qy a b&&!qy b a))):=rfl;have stop:uf a b=true->tC B i=12:=fun kb=>by rw[u,ae (gz.2 ⟨b,an hb,kb⟩)]
   generalize qy a b=L1 at *;generalize qy b a=L2 at *;refine⟨(fC (b,decide (j<q))),(idx rfl XV),iW ?_ ?_⟩<;>intro d
   ·dsimp only at d;rw[aP (by omega),aP (by omega),fu,fu]at kc;cases L1 with
    | true=>
     exact⟨_,_,c1,wO (by omega),(j+1),_,au.refl _ _,⟨by omega,cN (p:=uf a) hb kc O.2⟩,by omega,⟨Z,Z,Z,Z,Z,Z,Z,Z,Y⟩,⟨Z,Y⟩⟩
    | false=>
     refine⟨_,_,c1,?_⟩;cases L2 with
     | true=>
      exact⟨_,_,c2,wO (by omega),(j+1),_,au.refl _ _,⟨by omega,cN (p:=uf a) hb kc O.2⟩,by omega,⟨Z,Z,Z,Z,Z,Z,Z,Z,Y⟩,⟨Z,Y⟩⟩
     | false=>
      refine⟨_,_,c2,?_,trivial⟩;rw[cu (ao hi.2 (by omega) (stop kc) (by decide)) (by decide)];rfl
   dsimp only at d;have kc:uf a b=false:=by
    rw[kc];by_cases e:a.1<=b.2
    ·rw[aL (show ¬b.1<=a.2 by omega),pU,sE]
    rw[aL e,pU]
   exact⟨wO (by omega),(j+1),_,au.refl _ _,⟨by omega,cN (p:=uf a) hb kc O.2⟩,by omega,⟨Z,Z,Z,Z,Z,Z,Z,Z,Y⟩,⟨Z,Y⟩⟩
  refine⟨wO (by omega),?_⟩;have Ln:=O.2;rw[aW (by rw[aV];omega)]at Ln;rw[aa (by rw[vu,jY];exact fun z hz=>by rw[Ln z hz];decide)]at u;exact⟨(i+1),_,au.refl _ _,⟨by omega,bO hi.2 u⟩,by omega,⟨Z,Z,Z,Z,Y⟩,trivial⟩
 have z2:aG (tC B) 0 B.length=0:=aI fun k _ hk=>hi.2 k (by omega);rw[dF z2];refine ax (fun i:Nat=>i<=B.length/\∀k,q+k<i->AO B P k=0) (fun i=>[(10,.p (.sl ((fB q B).map fC))),(140,.p (.sl ((fB q B).map fC))),(141,.p (i64 B.length)),(142,.p (i64 i))]) (fun _=>[]) (fun i=>B.length-i) 0 _ (au.refl _ _) ⟨ai _,fun k h=>by omega⟩ ⟨rfl,rfl,ah (fun n:Nat=>AV.p (i64 n)) (N_.trans lT),Z,Y⟩ trivial fun i hi t h=>?_;apply iW<;>intro h3
 ·obtain⟨a,J⟩:=aj (l:=B) (i:=i) (by omega);have XU:=jq (q:=q) J;have ka:=W a (an J);refine⟨(fC (a,decide (i<q))),(idx rfl XU),iW ?_ ?_⟩<;>intro d
  ·have d:q<=i:=by simpa using d
   have hP:=Z1 i d;rw[J]at hP;have Z2:=ka.2.2.2 (an hP.symm);have u:AO B P (i-q)=if o6 B a (a.2-a.1-1).toNat=true then 11 else 0:=by simp only[AO,<-hP]
   have hh:=Li B q a (decide (i<q)) (by omega) ⟨Z2,by omega,by omega⟩;generalize o6 B a (a.2-a.1-1).toNat=G at *;cases G with
   | true=>
    refine⟨_,_,hh,?_,trivial⟩;rw[ao (fun k hk=>hi.2 k (by omega)) (by omega) u (by decide)];rfl
   | false=>
    refine⟨_,_,hh,wO (by omega),(i+1),_,au.refl _ _,⟨by omega,fun k hk=>?_⟩,by omega,⟨Z,Z,Z,Z,Y⟩,trivial⟩;by_cases e:q+k<i
    ·exact hi.2 k e
    rw[show k=i-q by omega];exact u
  have d:i<q:=by simpa using d
  exact⟨wO (by omega),(i+1),_,au.refl _ _,⟨by omega,fun k hk=>by omega⟩,by omega,⟨Z,Z,Z,Z,Y⟩,trivial⟩
 refine⟨?_,trivial⟩;rw[aI fun k _ hk=>hi.2 k (by omega)];rfl
theorem EV(m:List cw)(s:List Lay)(l:List (Int×Int))(N:nn m)(hs:kZ s)(O:l.length<=1048576):af C 85 [.pv (.sl (m.map iX)),.pv (.sl (s.map gJ)),.pv (.sl (l.map sp))] (.tu (jc m s l)) []:=by
 have I:=yz m s l N hs O;by_cases u:bQ m s l=0;rotate_left
 ·rw[jc,aa u];refine sd ⟨[15],[],[],[],[],[]⟩ hC Tryz.func85 rfl (by kernel_rfl) fun _=>?_;refine⟨_,_,I,iW ?_ ?_⟩<;>intro g
  ·refine⟨?_,trivial⟩;rfl
  exact absurd (by simpa using g) u
 rw[jc,ae u];obtain⟨R,Xw,U⟩:=uh u;have V:=hs.1;have HL:=rB (m:=m) (s:=s) (i:=s.length);rw[u]at I;have W:=A8 m s l R V (by omega) fun x z=>by
  have:=U x z;exact⟨⟨by omega,by omega⟩,by omega,by omega⟩
 obtain⟨QI,Xy⟩:=jx (m:=m) (s:=s) (l:=l);rw[kJ];generalize cq m s l=B at *;generalize (bA m s s.length).length=q at *;have lT:=qf q B;have N_:=ak (fB q B) fC;have lm:=ak l sp;refine sd ⟨[15],[],[],[],[],[]⟩ hC Tryz.func85 rfl (by kernel_rfl) fun _=>?_;refine⟨_,_,I,_,_,W,?_⟩;refine ax (fun i:Nat=>i<=B.length) (fun i=>[(2,.p (.sl (l.map sp))),(9,.ow 9),(25,.p (.sl ((fB q B).map fC))),(26,.p (i64 B.length)),(27,.p (i64 i))]) (fun i=>[(9,.row 92 (kj (lJ q l) B i))]) (fun i=>B.length-i) 0 _ (au.ed hC _ 9 92 _ (by decide) rfl rfl (by decide)) (ai _) ⟨rfl,rfl,rfl,ah (fun n:Nat=>AV.p (i64 n)) (N_.trans lT),Z,Y⟩ ⟨Z,Y⟩ fun i hi t h=>?_;apply iW<;>intro h2
 ·obtain⟨b,hb⟩:=aj (l:=B) (i:=i) (by omega);have XV:=jq (q:=q) hb;have lH:=rE (f:=lJ q l) hb;have xl:=AQ (lJ q l) B i;have XW:decide ((i:Int)<(q:Int))=decide (i<q):=decide_eq_decide.2 (by omega);refine⟨(fC (b,decide (i<q))),(idx rfl XV),?_⟩;refine ax (fun j:Nat=>j<=l.length) (fun j=>[(2,.p (.sl (l.map sp))),(9,.ow 9),(25,.p (.sl ((fB q B).map fC))),(26,.p (i64 B.length)),(27,.p (i64 i)),(11,.bx 11 0),(12,.bx 12 0),(40,.p (.sl (l.map sp))),(41,.p (i64 l.length)),(42,.p (i64 j))]) (fun j=>[(9,.row 92 (kj (lJ q l) B i)),(11,.box ((fC (b,decide (i<q))).map .p)),(12,.box [.p (i64 b.1),.p (i64 b.2),.p (bool (decide (i<q))),.ow 90000]),(90000,.row 3 ((dD l b j).map fun n=>[i64 n]))]) (fun j=>l.length-j) 0 _ (au.uU hC _ 12 3 90000 3 _ _ (by decide) (by decide) rfl rfl rfl (by decide)) (ai _) ⟨rfl,rfl,rfl,rfl,rfl,rfl,rfl,rfl,ah (fun n:Nat=>AV.p (i64 n)) lm,Z,Y⟩ ⟨Z,Z,Z,Z,Y⟩ fun j hj t h=>?_;apply iW<;>intro h3
  ·obtain⟨x,z⟩:=aj (l:=l) (i:=j) (by omega);have D:=AT (b:=b) z;have Wj:=xa l b j;have J:=ak (dD l b j) fun n=>[i64 n];refine⟨(sp x),(idx rfl z),iW ?_ ?_⟩<;>intro d
   ·have d:decide (x=b)=true:=by rw[<-iI];exact d
    rw[ae (fO d)]at D;refine⟨⟨by simp,by rw[J];simp;omega,by rw[J];simp;omega⟩,wO (by omega),j+1,_,au.Qe _ 55 90000 (by decide) (by decide),by omega,by omega,⟨Z,Z,Z,Z,Z,Z,Z,Z,Z,Z,Y⟩,⟨rfl,rfl,rfl,?_,trivial⟩⟩;show AB.row _ _=AB.row _ _;rw[D,bz];rfl
   have d:decide (x=b)=false:=by rw[<-iI];exact d
   rw[aa (of_decide_eq_false d),cQ]at D;exact⟨wO (by omega),(j+1),_,au.refl _ _,by omega,by omega,⟨Z,Z,Z,Z,Z,Z,Z,Z,Z,Z,Y⟩,⟨rfl,rfl,rfl,by rw[D];rfl,trivial⟩⟩
  have e:j=l.length:=by omega
  refine zW (au.uV (by exact hC) _ 12 3 90000 3 _ _ (by decide) (by exact rfl) (by exact rfl) (by exact rfl)) ?_;refine⟨⟨by simp,by simp;omega,by simp;omega⟩,wO (by omega),(i+1),_,au.refl _ _,by omega,by omega,⟨Z,Z,Z,Z,Z,Y⟩,⟨?_,trivial⟩⟩;show AB.row _ _=AB.row _ _;rw[lH,lJ,<-e,XW];rfl
 have e:i=B.length:=by omega
 rw[e];exact⟨Z,Y⟩
end M
end Go.Proofs.YtnpkopkpbgflnaaGreatDoor
