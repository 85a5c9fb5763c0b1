/- Part 10 of the proof of RulesAllMatchSpec. -/
import Derived.Test.YtfloceomobknoaaGreatDoorA09
set_option linter.unusedVariables false
set_option linter.unusedSimpArgs false
set_option maxRecDepth 100000
set_option maxHeartbeats 8000000
namespace Go
abbrev aee:=@Int.toNat_of_nonneg
abbrev adM:=@List.map_replicate
abbrev aef:=@List.nodup_append
abbrev abV:=@List.length_range
end Go
namespace Go.Proofs.YtfloceomobknoaaGreatDoor
namespace M
open Go.AM Go.RowKit Go.Lib
open Reg (ae an aS fo fS Piece zx bE cv told aB bO aa through mV pz nA mF il)
def je(h:zx):List PV:=[bool h.bore,i64 h.num]
theorem Fk:M3=Reg.dE:=rfl
theorem Dl(a:fS)(ha:iD a)(l:fo)(J L N O U:List (List PV))(op ob:List Int)(P:List Piece)(hP:P.length<=1000000000)(Q9:∀p∈P,(told p.set).length<=4398046511104):af C 184 [.pv (.ip ((dX a)++[.sl J,.sl (P.map jb),.sl L,.sl N,ints op,ints ob,.sl O,.sl U])),.pv (.ag (lc l))] (.tu [.ag (je (il a.bores P l).1),bool (il a.bores P l).2]) []:=by
 have lb:=ai a.bores bc;have lp:=ai P jb;have zA:=ha.jB;obtain⟨R,hR⟩:∃R,R=il a.bores P l:=⟨_,rfl⟩;rw[<-hR];refine fW hC Tryz.func184 rfl (by kernel_rfl) fun _=>?_;refine aJ (fun i:Nat=>mF l P i (a.bores.drop i)=R) (fun i=>[(0,.p (.ip ((dX a)++[.sl J,.sl (P.map jb),.sl L,.sl N,ints op,ints ob,.sl O,.sl U]))),(3,.bx 3 0),(4,.bx 4 0),(14,.p (.sl (a.bores.map bc))),(15,.p (i64 a.bores.length)),(16,.p (i64 i))]) (fun _=>[(3,.box [.p (str l.part),.p (str l.pin),.p (i64 l.layer),.p (i64 l.x),.p (i64 l.y)]),(4,.box [.p (bool false),.p (i64 0)])]) (fun i=>a.bores.length-i) 0 _ (au.refl _ _) hR.symm ⟨rfl,rfl,rfl,rfl,adV (fun m:Nat=>AV.p (i64 m)) lb,Z,Y⟩ ⟨Z,Z,Y⟩ fun i hi t h=>?_;apply iW<;>intro g
 ·obtain⟨b,V⟩:=ak (l:=a.bores) (i:=i) (by omega);have uW:=ky (ha.bor b (aad V));rw[drop_at V,mF]at hi;refine⟨(bc b),(idx rfl V),?_⟩;have yes:mV l b=true->R=(⟨true,i⟩,true):=fun h=>by rw[aap h]at hi;exact hi.symm
  have no:mV l b=false->mF l P (i+1) (a.bores.drop (i+1))=R:=fun h=>by rw[aaa (by rw[h];decide)]at hi;exact hi
  apply iW<;>intro D
  ·refine⟨_,_,(jk b l.layer),iW ?_ ?_⟩<;>intro I
   ·refine⟨_,_,(cF b uW),_,_,(pU [aa b] (by simp) l.x l.y),iW ?_ ?_⟩<;>intro g3
    ·have W:=yes (by simp only[mV,aaZ];exact⟨⟨D,I⟩,by simpa [Fk] using g3⟩);exact And.intro (by rw[W];rfl) trivial
    have z:=no (by simp only[mV];rw[aaC];exact .inr (by simpa [Fk] using g3));exact⟨wO (by omega),(i+1),_,au.refl _ _,z,by omega,⟨Z,Z,Z,Z,Z,Z,Y⟩,⟨Z,Z,Y⟩⟩
   have z:=no (by simp only[mV];rw[I,aav,abp]);exact⟨wO (by omega),(i+1),_,au.refl _ _,z,by omega,⟨Z,Z,Z,Z,Z,Z,Y⟩,⟨Z,Z,Y⟩⟩
  have z:=no (by simp only[mV];rw[D,abp,abp]);exact⟨wO (by omega),(i+1),_,au.refl _ _,z,by omega,⟨Z,Z,Z,Z,Z,Z,Y⟩,⟨Z,Z,Y⟩⟩
 rw[ab1 (by omega),mF]at hi;refine aJ (fun k:Nat=>nA l k (P.drop k)=R) (fun k=>[(0,.p (.ip ((dX a)++[.sl J,.sl (P.map jb),.sl L,.sl N,ints op,ints ob,.sl O,.sl U]))),(3,.bx 3 0),(4,.bx 4 0),(43,.p (.sl (P.map jb))),(44,.p (i64 P.length)),(45,.p (i64 k))]) (fun _=>[(3,.box [.p (str l.part),.p (str l.pin),.p (i64 l.layer),.p (i64 l.x),.p (i64 l.y)]),(4,.box [.p (bool false),.p (i64 0)])]) (fun k=>P.length-k) 0 _ (au.refl _ _) hi ⟨rfl,rfl,rfl,rfl,adV (fun m:Nat=>AV.p (i64 m)) lp,Z,Y⟩ ⟨Z,Z,Y⟩ fun k hk t h=>?_;apply iW<;>intro g5
 ·obtain⟨p,J_⟩:=ak (l:=P) (i:=k) (by omega);have hpt:=Q9 p (aad J_);rw[drop_at J_,nA]at hk;have yes:pz l p=true->R=(⟨false,k⟩,true):=fun h=>by rw[aap h]at hk;exact hk.symm
  have no:pz l p=false->nA l (k+1) (P.drop (k+1))=R:=fun h=>by rw[aaa (by rw[h];decide)]at hk;exact hk
  refine⟨(jb p),(idx rfl J_),iW ?_ ?_⟩<;>intro D
  ·refine⟨_,_,(pU (told p.set) (by omega) l.x l.y),iW ?_ ?_⟩<;>intro I
   ·have W:=yes (by simp only[pz,aaZ,aaH];exact⟨D,I⟩);exact And.intro (by rw[W];rfl) trivial
   have z:=no (by simp only[pz];rw[aaC];exact .inr I);exact⟨wO (by omega),(k+1),_,au.refl _ _,z,by omega,⟨Z,Z,Z,Z,Z,Z,Y⟩,⟨Z,Z,Y⟩⟩
  have z:=no (by simp only[pz];rw[aaz D,abp]);exact⟨wO (by omega),(k+1),_,au.refl _ _,z,by omega,⟨Z,Z,Z,Z,Z,Z,Y⟩,⟨Z,Z,Y⟩⟩
 rw[ab1 (by omega),nA]at hk;exact And.intro (by rw[<-hk];rfl) trivial
theorem uB(a:fS)(hp:zx)(I J L N O:List (List PV))(op ob:List Int)(P:List Piece)(n:Nat)(D:hp.num=n)(v:Int)(z:(if hp.bore=true then ob else op)[n]?=some v):af C 185 [.pv (.ip ((dX a)++[.sl I,.sl (P.map jb),.sl J,.sl L,ints op,ints ob,.sl N,.sl O])),.pv (.ag (je hp))] (.p (i64 v)) []:=by
 obtain⟨b,m⟩:=hp;simp only at D z;subst D;refine fW hC Tryz.func185 rfl (by kernel_rfl) fun _=>?_;apply iW<;>intro g<;>try simp only[zB]at g
 ·rw[aap g]at z;refine⟨[i64 v],(idx rfl z),?_,trivial⟩;rfl
 rw[aaa (by rw[g];decide)]at z;refine⟨[i64 v],(idx rfl z),?_,trivial⟩;rfl
end M
namespace Reg
def I7:aS:=⟨0,0,0,0,0,false⟩
def bD(bs:List aS)(j:Nat):Bool:=(bs.getD j I7).plated
structure iB(bs:List aS)(n g:Nat)(l:List Nat)(s r:(List Int×List Int)×List Int×List Int):Prop where
 l1:r.1.1.length=s.1.1.length
 l2:r.1.2.length=s.1.2.length
 op:∀i,r.1.1[i]?=if i∈l/\i<n then some (g:Int) else s.1.1[i]?
 ob:∀j,r.1.2[j]?=if n+j∈l then some (if bD bs j=true then (g:Int) else -1) else s.1.2[j]?
 ps:∀x,x∈r.2.1↔x∈s.2.1\/∃i:Nat,i∈l/\i<n/\x=i
 bs':∀x,x∈r.2.2↔x∈s.2.2\/∃j:Nat,n+j∈l/\bD bs j=true/\x=j
theorem uC(bs:List aS)(n g:Nat):∀(l:List Nat) (s:(List Int×List Int)×List Int×List Int),s.1.1.length=n->s.1.2.length=bs.length->(∀i∈l,i<n+bs.length)->iB bs n g l s (l.foldl (jF bs n g) s)
 | [],s,_,_,_=>⟨rfl,rfl,fun i=>by simp,fun j=>by simp,fun x=>by simp,fun x=>by simp⟩
 | i::l,s,h1,h2,hl=>by
  have hi:=hl i adU;have I:∀i∈l,i<n+bs.length:=fun i h=>hl i (aaw _ h);rw[aaq];by_cases c:i<n
  ·have e:jF bs n g s i=((s.1.1.set i (g:Int),s.1.2),s.2.1++[(i:Int)],s.2.2):=by rw[jF,aap c]
   rw[e];have r:=uC bs n g l ((s.1.1.set i (g:Int),s.1.2),s.2.1++[(i:Int)],s.2.2) (by simp only[aaM];exact h1) h2 I;refine⟨r.l1.trans (aaM ..),r.l2,fun k=>?_,fun j=>?_,fun x=>?_,fun x=>?_⟩
   ·rw[r.op];by_cases hk:k∈l/\k<n
    ·rw[aap hk,aap ⟨aaw _ hk.1,hk.2⟩]
    rw[aaa hk,ew (by omega)];by_cases J:k=i
    ·subst J;rw[aap rfl,aap ⟨adU,c⟩]
    rw[aaa J,aaa (fun z=>hk ⟨(adq.1 z.1).resolve_left J,z.2⟩)]
   ·rw[r.ob];have:(n+j∈i::l)↔n+j∈l:=by
     rw[adq];exact⟨fun h=>h.resolve_left (by omega),.inr⟩
    simp only[this]
   ·rw[r.ps];simp only[abi,adq,adI,or_false];constructor
    ·rintro ((h | h) | ⟨k,a,b,e⟩)
     ·exact .inl h
     ·exact .inr ⟨i,.inl rfl,c,h⟩
     exact .inr ⟨k,.inr a,b,e⟩
    rintro (h | ⟨k,a | a,b,e⟩)
    ·exact .inl (.inl h)
    ·exact .inl (.inr (by rw[e,a]))
    exact .inr ⟨k,a,b,e⟩
   rw[r.bs'];simp only[adq];constructor
   ·rintro (h | ⟨k,a,b⟩)
    ·exact .inl h
    exact .inr ⟨k,.inr a,b⟩
   rintro (h | ⟨k,a | a,b⟩)
   ·exact .inl h
   ·omega
   exact .inr ⟨k,a,b⟩
  have N:(bs.getD (i-n) ⟨0,0,0,0,0,false⟩).plated=bD bs (i-n):=rfl;have L:∀k,(k∈i::l/\k<n)↔(k∈l/\k<n):=fun k=>by
   rw[adq];exact⟨fun h=>⟨h.1.resolve_left (by omega),h.2⟩,fun h=>⟨.inr h.1,h.2⟩⟩
  have O:∀x:Int,(∃k:Nat,k∈i::l/\k<n/\x=k)↔(∃k:Nat,k∈l/\k<n/\x=k):=fun x=>
   ⟨fun ⟨k,a,b,e⟩=>⟨k,((L k).1 ⟨a,b⟩).1,b,e⟩,fun ⟨k,a,b,e⟩=>⟨k,aaw _ a,b,e⟩⟩
  have R:∀(o:List Int) (v:Int) (j:Nat),o.length=bs.length->(v=if bD bs (i-n)=true then (g:Int) else -1)->(if n+j∈l then some (if bD bs j=true then (g:Int) else -1) else (o.set (i-n) v)[j]?)=if n+j∈i::l then some (if bD bs j=true then (g:Int) else -1) else o[j]?:=fun o v j ho V=>by
   by_cases D:n+j∈l
   ·rw[aap D,aap (aaw _ D)]
   rw[aaa D,ew (by omega)];by_cases U:j=i-n
   ·subst U;rw[aap rfl,aap (adq.2 (.inl (by omega))),V]
   rw[aaa U,aaa (fun z=>D ((adq.1 z).resolve_left (by omega)))]
  by_cases p:bD bs (i-n)=true
  ·have e:jF bs n g s i=((s.1.1,s.1.2.set (i-n) (g:Int)),s.2.1,s.2.2++[((i:Int)-n)]):=by rw[jF,aaa c,N,aap p]
   rw[e];have r:=uC bs n g l ((s.1.1,s.1.2.set (i-n) (g:Int)),s.2.1,s.2.2++[((i:Int)-n)]) h1 (by simp only[aaM];exact h2) I;refine⟨r.l1,r.l2.trans (aaM ..),fun k=>?_,fun j=>?_,fun x=>?_,fun x=>?_⟩
   ·rw[r.op];simp only[L]
   ·rw[r.ob];exact R _ _ _ h2 (by rw[aap p])
   ·rw[r.ps,O]
   rw[r.bs'];simp only[abi,adq,adI,or_false];constructor
   ·rintro ((h | h) | ⟨k,a,b,e⟩)
    ·exact .inl h
    ·exact .inr ⟨i-n,.inl (by omega),p,by omega⟩
    exact .inr ⟨k,.inr a,b,e⟩
   rintro (h | ⟨k,a | a,b,e⟩)
   ·exact .inl (.inl h)
   ·exact .inl (.inr (by omega))
   exact .inr ⟨k,a,b,e⟩
  have e:jF bs n g s i=((s.1.1,s.1.2.set (i-n) (-1)),s.2.1,s.2.2):=by rw[jF,aaa c,N,aaa p]
  rw[e];have r:=uC bs n g l ((s.1.1,s.1.2.set (i-n) (-1)),s.2.1,s.2.2) h1 (by simp only[aaM];exact h2) I;refine⟨r.l1,r.l2.trans (aaM ..),fun k=>?_,fun j=>?_,fun x=>?_,fun x=>?_⟩
  ·rw[r.op];simp only[L]
  ·rw[r.ob];exact R _ _ _ h2 (by rw[aaa p])
  ·rw[r.ps,O]
  rw[r.bs'];simp only[adq];constructor
  ·rintro (h | ⟨k,a,b⟩)
   ·exact .inl h
   exact .inr ⟨k,.inr a,b⟩
  rintro (h | ⟨k,a | a,b,e⟩)
  ·exact .inl h
  ·have:k=i-n:=by omega
   rw[this]at b;exact absurd b p
  exact .inr ⟨k,a,b,e⟩
structure Nz(bs:List aS)(n:Nat)(D:List (List Nat))(s:(List Int×List Int)×List bh):Prop where
 l1:s.1.1.length=n
 l2:s.1.2.length=bs.length
 a:∀i,i<n->(∃l∈D,i∈l)->∃(k:Nat) (g:bh),s.1.1[i]?=some (k:Int)/\s.2[k]?=some g/\(i:Int)∈g.pieces
 b:∀j,j<bs.length->bD bs j=true->(∃l∈D,n+j∈l)->∃(k:Nat) (g:bh),s.1.2[j]?=some (k:Int)/\s.2[k]?=some g/\(j:Int)∈g.bores
 c:∀(k:Nat) g,s.2[k]?=some g->g.pins=[]/\∀x∈g.pieces,∃i:Nat,x=i/\i<n/\s.1.1[i]?=some (k:Int)/\∃l∈D,i∈l
 d:∀j,j<bs.length->bD bs j=false->(∃l∈D,n+j∈l)->s.1.2[j]?=some (-1)
variable {bs:List aS}
theorem KP{n:Nat}{D:List (List Nat)}{s:(List Int×List Int)×List bh}(h:Nz bs n D s){l:List Nat}(hl:∀i∈l,i<n+bs.length)(hd:∀L∈D,∀i∈L,¬i∈l):Nz bs n (D++[l]) (AT bs n s l):=by
 have r:=uC bs n s.2.length l (s.1,[],[]) h.l1 h.l2 hl;obtain⟨q,hq⟩:∃q,q=l.foldl (jF bs n s.2.length) (s.1,[],[]):=⟨_,rfl⟩;rw[<-hq]at r;have hs:AT bs n s l=(q.1,if 0<q.2.1.length+q.2.2.length then s.2++[⟨q.2.1,q.2.2,[]⟩] else s.2):=by rw[hq];rfl
 rw[hs];have W:∀x,x∈q.2.1↔∃i:Nat,i∈l/\i<n/\x=i:=fun x=>by rw[r.ps];simp
 have ZC:∀x,x∈q.2.2↔∃j:Nat,n+j∈l/\bD bs j=true/\x=j:=fun x=>by rw[r.bs'];simp
 have keep:∀(k:Nat) g,s.2[k]?=some g->(if 0<q.2.1.length+q.2.2.length then s.2++[⟨q.2.1,q.2.2,[]⟩] else s.2)[k]?=some g:=fun k g hk=>by
  split
  ·rw[aaE (aao.1 hk).1];exact hk
  exact hk
 have Vr:∀x,(x∈q.2.1\/x∈q.2.2)->(if 0<q.2.1.length+q.2.2.length then s.2++[(⟨q.2.1,q.2.2,[]⟩:bh)] else s.2)[s.2.length]?=some ⟨q.2.1,q.2.2,[]⟩:=fun x R=>by
  have:0<q.2.1.length+q.2.2.length:=by rcases R with h | h<;>(have:=adL h;omega)
  rw[aap this,acu (aam _),aab];rfl
 have U:∀i,(∃L∈D++[l],i∈L)↔(∃L∈D,i∈L)\/i∈l:=fun i=>by
  constructor
  ·rintro⟨L,I,J⟩;rcases abi.1 I with I | I
   ·exact .inl ⟨L,I,J⟩
   rw[ab_]at I;subst I;exact .inr J
  rintro (⟨L,I,J⟩ | J)
  ·exact⟨L,abY _ I,J⟩
  exact⟨l,adt _ (ab_.2 rfl),J⟩
 refine⟨r.l1.trans h.l1,r.l2.trans h.l2,fun i hi N=>?_,fun j Y hp N=>?_,fun k g hk=>?_,fun j Y hp N=>?_⟩
 ·by_cases z:i∈l
  ·refine⟨s.2.length,_,by rw[r.op,aap ⟨z,hi⟩],Vr i (.inl ((W _).2 ⟨i,z,hi,rfl⟩)),(W _).2 ⟨i,z,hi,rfl⟩⟩
  obtain⟨k,g,I,J,Z⟩:=h.a i hi (((U i).1 N).resolve_right z);exact⟨k,g,by rw[r.op,aaa (fun V=>z V.1)];exact I,keep k g J,Z⟩
 ·by_cases z:n+j∈l
  ·refine⟨s.2.length,_,by rw[r.ob,aap z,aap hp],Vr j (.inr ((ZC _).2 ⟨j,z,hp,rfl⟩)),(ZC _).2 ⟨j,z,hp,rfl⟩⟩
  obtain⟨k,g,I,J,Z⟩:=h.b j Y hp (((U _).1 N).resolve_right z);exact⟨k,g,by rw[r.ob,aaa z];exact I,keep k g J,Z⟩
 ·by_cases Ts:k<s.2.length
  ·have xA:s.2[k]?=some g:=by
    have e:=keep k s.2[k] (acg Ts);have e2:=hk.symm.trans e;injection e2 with e2;rw[e2];exact acg Ts
   obtain⟨c1,c2⟩:=h.c k g xA;refine⟨c1,fun x R=>?_⟩;obtain⟨i,e,hi,ho,N⟩:=c2 x R;have z:¬i∈l:=fun V=>by
    obtain⟨L,I,J⟩:=N;exact hd L I i J V
   exact⟨i,e,hi,by rw[r.op,aaa (fun V=>z V.1)];exact ho,(U i).2 (.inl N)⟩
  have O:(if 0<q.2.1.length+q.2.2.length then s.2++[(⟨q.2.1,q.2.2,[]⟩:bh)] else s.2)[k]?=some g:=hk;split at O
  ·rw[acu (by omega)]at O;have Ov:k=s.2.length:=by
    have:=(aao.1 O).1;simp at this;omega
   rw[Ov,aab]at O;injection O with O;subst O;subst Ov;refine⟨rfl,fun x R=>?_⟩;obtain⟨i,z,hi,e⟩:=(W x).1 R;exact⟨i,e,hi,by rw[r.op,aap ⟨z,hi⟩],(U i).2 (.inr z)⟩
  exact absurd (aao.1 O).1 Ts
 by_cases z:n+j∈l
 ·rw[r.ob,aap z,hp];rfl
 rw[r.ob,aaa z];exact h.d j Y hp (((U _).1 N).resolve_right z)
theorem Fl{n:Nat}:∀(L D:List (List Nat)) (s:(List Int×List Int)×List bh),Nz bs n D s->(∀l∈L,∀i∈l,i<n+bs.length)->(∀z∈D,∀l∈L,∀i∈z,¬i∈l)->(L.Pairwise fun z l=>∀i∈z,¬i∈l)->Nz bs n (D++L) (L.foldl (AT bs n) s)
 | [],D,s,h,_,_,_=>by rw[acw];exact h
 | l::L,D,s,h,hl,hd,hp=>by
  have I:=ade.1 hp;have N:=KP h (hl l adU) fun z O=>hd z O l adU;have:=Fl L (D++[l]) (AT bs n s l) N (fun z h'=>hl z (aaw _ h')) (fun z h' m J i hi=>by
   rcases abi.1 h' with h' | h'
   ·exact hd z h' m (aaw _ J) i hi
   rw[ab_]at h';subst h';exact I.1 m J i hi) I.2
  rw[abx,ac3]at this;exact this
structure mG(bs:List aS)(n:Nat)(s:(List Int×List Int)×List bh):Prop where
 l1:s.1.1.length=n
 l2:s.1.2.length=bs.length
 a:∀i,i<n->∃(k:Nat) (g:bh),s.1.1[i]?=some (k:Int)/\s.2[k]?=some g/\(i:Int)∈g.pieces
 b:∀j,j<bs.length->bD bs j=true->∃(k:Nat) (g:bh),s.1.2[j]?=some (k:Int)/\s.2[k]?=some g/\(j:Int)∈g.bores
 c:∀(k:Nat) g,s.2[k]?=some g->g.pins=[]/\∀x∈g.pieces,∃i:Nat,x=i/\i<n/\s.1.1[i]?=some (k:Int)
 d:∀j,j<bs.length->bD bs j=false->s.1.2[j]?=some (-1)
theorem vL{n:Nat}{u:List Int}(L:UF u)(hl:u.length=n+bs.length):mG bs n (jn bs n (aP (cQ u) (n+bs.length))):=by
 have D:=rz L;rw[hl]at D;have N:Nz bs n [] ((List.replicate n 0,List.replicate bs.length 0),[]):=⟨aan,aan,fun i _ ⟨l,h,_⟩=>(by cases h),fun j _ _ ⟨l,h,_⟩=>(by cases h),fun k g h=>by simp at h,fun j _ _ ⟨l,h,_⟩=>(by cases h)⟩;have z:=Fl (aP (cQ u) (n+bs.length)) [] _ N (fun l h i hi=>by
  obtain⟨r,_,rfl⟩:=adS.1 h;exact (dx.1 hi).1) (fun l' h=>by cases h) (by
  rw[aP,abe];refine (afh _ _).imp fun {r q} O=>?_;intro i hi R;exact O ((dx.1 hi).2.symm.trans (dx.1 R).2))
 have I:∀i,i<n+bs.length->∃l∈[]++aP (cQ u) (n+bs.length),i∈l:=fun i hi=>by
  refine⟨dh (cQ u) (n+bs.length) (cQ u i),?_,dx.2 ⟨hi,rfl⟩⟩;rw[acZ,aP];exact adS.2 ⟨cQ u i,mem_keys.2 ⟨by have:=D.le i hi;omega,D.top i hi⟩,rfl⟩
 exact⟨z.l1,z.l2,fun i hi=>z.a i hi (I i (by omega)),fun j J hp=>z.b j J hp (I (n+j) (by omega)),fun k g hk=>⟨(z.c k g hk).1,fun x U=>by obtain⟨i,a,b,c,_⟩:=(z.c k g hk).2 x U;exact⟨i,a,b,c⟩⟩,fun j J hp=>z.d j J hp (I (n+j) (by omega))⟩
theorem Fm(l:fo):∀(ps:List Piece) (k:Nat),(nA l k ps).2=true->∃m:Nat,(nA l k ps).1=⟨false,m⟩/\k<=m/\m<k+ps.length
 | [],k,h=>by cases h
 | p::ps,k,h=>by
  rw[nA]at h ⊢;by_cases c:pz l p=true
  ·rw[aap c];exact⟨k,rfl,aam _,by simp⟩
  rw[aaa c]at h ⊢;obtain⟨m,a,b,d⟩:=Fm l ps (k+1) h;exact⟨m,a,by omega,by simp only[aaB];omega⟩
theorem zD(l:fo)(ps:List Piece):∀(bs:List aS) (k:Nat),(mF l ps k bs).2=true->(∃m:Nat,(mF l ps k bs).1=⟨false,m⟩/\m<ps.length)\/∃m:Nat,(mF l ps k bs).1=⟨true,m⟩/\k<=m/\m<k+bs.length/\bD bs (m-k)=true
 | [],k,h=>by
  rw[mF]at h ⊢;obtain⟨m,a,_,b⟩:=Fm l ps 0 h;exact .inl ⟨m,a,by omega⟩
 | b::bs,k,h=>by
  rw[mF]at h ⊢;by_cases c:mV l b=true
  ·rw[aap c];simp only[mV,aaZ]at c;exact .inr ⟨k,rfl,aam _,by simp,by rw[aab];exact c.1.1⟩
  rw[aaa c]at h ⊢;rcases zD l ps bs (k+1) h with⟨m,a,d⟩ | ⟨m,a,d,e,f⟩
  ·exact .inl ⟨m,a,d⟩
  refine .inr ⟨m,a,by omega,by simp only[aaB];omega,?_⟩;rw[show m-k=(m-(k+1))+1 by omega];exact f
theorem KQ{ps:List Piece}{s:(List Int×List Int)×List bh}(h:mG bs ps.length s)(l:fo)(I:(il bs ps l).2=true):∃m k:Nat,(il bs ps l).1.num=m/\(if (il bs ps l).1.bore=true then s.1.2 else s.1.1)[m]?=some (k:Int)/\k<s.2.length:=by
 rcases zD l ps bs 0 I with⟨m,a,d⟩ | ⟨m,a,_,d,e⟩
 ·obtain⟨k,g,z,D,_⟩:=h.a m d;refine⟨m,k,by rw[il,a],?_,(aao.1 D).1⟩;rw[il,a];exact z
 obtain⟨k,g,z,D,_⟩:=h.b m (by omega) e;refine⟨m,k,by rw[il,a],?_,(aao.1 D).1⟩;rw[il,a];exact z
end Reg
namespace M
open Go.AM Go.RowKit Go.Lib
open Reg (ae an aS fo fS Piece bh zx UF iota gj r_ uz jm bE cv told aB bO aa through jF AT jn mG qN uA iN il)
def sT(g:bh):List PV:=[ints g.pieces,ints g.bores,.sl (g.pins.map pc)]
def wR(g:bh):List PV:=[ints g.pieces,ints g.bores,.im (.slice none 0 0)]
def I8(p:List (ByteArray×ByteArray)):HX:=if p=[] then .av .nl else .row 205 (p.map pc)
def gh(g:bh):List HX:=[.av (.p (ints g.pieces)),.av (.p (ints g.bores)),I8 g.pins]
theorem PQ(f:AV->AV)(z:f .nl=.nl)(p:List (ByteArray×ByteArray)):HX.cS f (I8 p)=I8 p:=by
 unfold I8;split
 ·simp only[HX.cS,z]
 rfl
theorem NA(f:AV->AV)(hp:∀x,f (.p x)=.p x)(z:f .nl=.nl)(G:List bh):(G.map gh).map (fun r=>r.map (HX.cS f))=G.map gh:=by
 rw[ad6];refine aaG fun g _=>?_;show [HX.cS f _,HX.cS f _,HX.cS f (I8 g.pins)]=_;rw[PQ f z];simp only[HX.cS,hp];rfl
theorem qO(d:Nat)(G:List bh):(G.map gh).map (fun r=>r.map (HX.cS (sc d)))=G.map gh:=NA _ (fun _=>rfl) rfl G
theorem Fo(i d:Nat)(G:List bh):(G.map gh).map (fun r=>r.map (HX.cS (rn i d)))=G.map gh:=NA _ (fun _=>rfl) rfl G
theorem dC(n:Nat)(G:List bh)(k d:Nat)(a b:PV)(h:sc n (.ow d)=.ow d):((G.map gh).set k [.av (.p a),.av (.p b),.av (.ow d)]).map (fun r=>r.map (HX.cS (sc n)))=(G.map gh).set k [.av (.p a),.av (.p b),.av (.ow d)]:=by
 rw[ad8,qO];simp only[aa8,ac0,HX.cS,h];rfl
theorem NB{G:List bh}(h:∀g∈G,g.pins=[]):(G.map wR).map s9=G.map gh:=by
 rw[ad6];refine aaG fun g z=>?_;simp only[Function.comp,wR,gh,h g z];rfl
theorem SR(p:List (ByteArray×ByteArray)):Tr (I8 p) (.sl (p.map pc)):=by
 unfold I8;split
 ·rename_i e;rw[e];exact .nl
 exact .row _ _
theorem vM(G:List bh):Oi (G.map gh) (G.map sT):=Oi.map fun g _=>⟨rfl,fun j u v z D=>by
 match j with
 | 0=>simp only[gh,sT,aa9,Option.some.injEq]at z D;subst z;subst D;exact .p _
 | 1=>simp only[gh,sT,abc,aa9,Option.some.injEq]at z D;subst z;subst D;exact .p _
 | 2=>simp only[gh,sT,abc,aa9,Option.some.injEq]at z D;subst z;subst D;exact SR _
 | j+3=>simp[gh]at z⟩
theorem of_eq{A:cD}{s z:AS}(h:s=z):au A s z:=h▸au.refl A s
theorem au.I9{A:cD}(hC:bI A.C)(s:AS)(id k d:Nat){e:TypeId}{G:List bh}{g:bh}{L:TI}(N:d<100000)(hid:id≠d)(hb:s.h id=.az e (G.map gh))(hk:G[k]?=some g)(R:A.C.T 205=some L)(I:0<L.size):
  au A s ⟨(gX d s).t,aT (aT (gX d s).h d (.row 205 (g.pins.map pc))) id (.az e ((G.map gh).set k [.av (.p (ints g.pieces)),.av (.p (ints g.bores)),.av (.ow d)]))⟩:=by
 have U:=(aao.1 hk).1;have z:(G.map gh)[k]?=some (gh g):=by rw[aak,hk];rfl
 have O:∀r∈G.map gh,∀x∈r,IC x:=fun r z x D=>by
  obtain⟨g,_,rfl⟩:=adS.1 z;simp only[gh,adq,adI,or_false]at D;rcases D with rfl | rfl | rfl
  ·trivial
  ·trivial
  unfold I8;split<;>trivial
 by_cases c:g.pins=[]
 ·have V:=au.Sr hC s id k 2 (e':=205) hb z (by rw[gh,I8,aap c];rfl) R I;have J:=au.rq hC ⟨s.t,aT s.h id (.az e ((G.map gh).set k ((gh g).set 2 (.row 205 []))))⟩ id k 2 d (e:=e) (r:=(gh g).set 2 (.row 205 [])) N hid (aH _ _ _) (fun r z x D=>by
   rcases abg z with z | z
   ·exact O r z x D
   subst z;simp only[gh,List.set_cons_succ,List.set_cons_zero,adq,adI,or_false]at D;rcases D with rfl | rfl | rfl<;>trivial) (ab7 (by rw[aej];exact U)) rfl
  refine (V.trans J).trans (of_eq ?_);rw[c];refine adV (AS.mk _) ?_;funext j;by_cases e1:j=id
  ·subst e1;rw[aH,aH,abM];rfl
  rw[aV _ _ e1,aV _ _ e1];by_cases e2:j=d
  ·subst e2;rw[aH,aH];rfl
  rw[aV _ _ e2,aV _ _ e2];show aT (fun m=>xm d (aT s.h id _ m)) d .none j=aT (fun m=>xm d (s.h m)) d .none j;rw[aV _ _ e2,aV _ _ e2];show xm d (aT _ _ _ j)=_;rw[aV _ _ e1]
 have J:=au.rq hC s id k 2 d (e':=205) (xs:=g.pins.map pc) N hid hb O z (by rw[gh,I8,aaa c];rfl);exact J
theorem I_(p:List (ByteArray×ByteArray))(x:ByteArray×ByteArray):I8 (p++[x])=.row 205 ((p++[x]).map pc):=by
 rw[I8,aaa (by simp)]
theorem zE(a:fS)(ha:iD a)(J:List (List PV))(P:List Piece)(T:List (List Int))(hP:P.length<=2000)(Q9:∀p∈P,(told p.set).length<=4398046511104)(hT:T.length=a.bores.length)(U:List Int)(hU:U=jm P.length a.bores.length T)(o:List Int×List Int)(G0:List bh)(hF:jn a.bores P.length (Reg.aP (Reg.cQ U) (P.length+a.bores.length))=(o,G0))(R:qN)(hR:R=a.lands.foldl (uA a.bores P o) ⟨G0,[],[]⟩)(ZD:∀x∈T,∀p∈x,0<=p/\p<P.length)(Vs:∀x∈T,x.length<=1000000000):af C 102 [.aN [.p (.sl (a.coppers.map rr)),.p (aj a.outline),.p (.sl (a.bores.map bc)),.p (.sl (a.lands.map lc)),.row 59 J,.row 76 (P.map jb),.row 71 (T.map fun l=>[ints l]),.row 142 [],.row 3 [],.row 3 [],.row 3 [],.row 174 []]] (.tu []) [.aN [.p (.sl (a.coppers.map rr)),.p (aj a.outline),.p (.sl (a.bores.map bc)),.p (.sl (a.lands.map lc)),.row 59 J,.row 76 (P.map jb),.row 71 (T.map fun l=>[ints l]),.row 142 (R.groups.map sT),.row 3 (aA o.1),.row 3 (aA o.2),.row 3 (aA R.ofLand),.row 174 (R.atLand.map je)]]:=by
 have lb:=ai a.bores bc;have lp:=ai P jb;have lT:=ai T fun l=>[ints l];have zA:=ha.jB;obtain⟨n,hn⟩:∃n,n=P.length:=⟨_,rfl⟩;rw[<-hn]at hU hF;have abl:=Reg.qM (n:=n) (nb:=a.bores.length) T 0 (iota (n+a.bores.length)) (Reg.ny _) (Reg.aeM _) (by omega) (by rw[hn];exact ZD);refine UO ⟨[27,37],[],[(11,[66]),(37,[14,1000014,15,1000015,90003,1090003,100000,1100000]),(38,[14,1000014,15,1000015,90003,1090003,100000,1100000,219])],[28,37,38],[(11,[true,true,true,true,true,true,true,true,true,false,false,true,true,false,true,true,true]),(37,[true,false,false,false,true,true,true,true,true,true,true,true,true,true,true,true,false,true,true,true]),(38,[true,true,true,true,true,true,true,true,false,true,false,false,false,false,false,true,true,true,true,true,true,true])],[]⟩ hC Tryz.func102 rfl (by kernel_rfl) fun _=>⟨_,au.open hC _ 100000 [90000,90001,90002,90003,90004,90005,90006,90007] (by exact rfl) rfl rfl rfl,?_⟩;refine⟨wO (by omega),?_⟩;have GU:=KJ (n+a.bores.length) (by omega);have Vt:((n+a.bores.length:Nat):Int)=((P.map jb).length:Int)+((a.bores.map bc).length:Int):=by omega
 rw[Vt]at GU;refine⟨_,_,GU,?_⟩;refine aJ (fun x:Nat×List Int=>uz n x.1 (T.drop x.1) x.2=U/\UF x.2/\x.2.length=n+a.bores.length/\x.1<=T.length) (fun x=>[(0,.bx 100000 0),(2,.p (i64 n)),(3,.bx 31 0),(35,.ow 90002),(36,.p (i64 T.length)),(37,.p (i64 x.1))]) (fun x=>[(100000,.box [.p (.sl (a.coppers.map rr)),.p (aj a.outline),.p (.sl (a.bores.map bc)),.p (.sl (a.lands.map lc)),.ow 90000,.ow 90001,.ow 90002,.ow 90003,.ow 90004,.ow 90005,.ow 90006,.ow 90007]),(90000,.row 59 J),(90001,.row 76 (P.map jb)),(90002,.row 71 (T.map fun l=>[ints l])),(90003,.row 142 []),(90004,.row 3 []),(90005,.row 3 []),(90006,.row 3 []),(90007,.row 174 []),(31,.aN [.row 3 (aA x.2)])]) (fun x=>T.length-x.1) (0,iota (n+a.bores.length)) _ (au.refl _ _) ⟨hU.symm,Reg.ny _,Reg.aeM _,aaj _⟩ ⟨rfl,adV (fun m:Nat=>AV.p (i64 m)) (lp.trans hn.symm),rfl,rfl,adV (fun m:Nat=>AV.p (i64 m)) lT,Z,Y⟩ ⟨Z,Z,Z,Z,Z,Z,Z,Z,Z,Z,Y⟩ fun ⟨k,u⟩ hx t h=>?_;obtain⟨q1,q2,q3,q4⟩:=hx;simp only at q1 q2 q3 q4;apply iW<;>intro g<;>try simp only[zB]at g
 ·obtain⟨l,Ws⟩:=ak (l:=T) (i:=k) (by omega);have Wq:=ZD l (aad Ws);have ZE:=Vs l (aad Ws);have ll:=ai l fun n=>[i64 n];rw[drop_at Ws,uz]at q1;refine⟨⟨by omega,by (try dsimp only);omega⟩,[ints l],(idx rfl Ws).2,?_⟩;refine aJ (fun z:Nat×List Int=>r_ (n+k) (l.drop z.1) z.2=r_ (n+k) l u/\UF z.2/\z.2.length=n+a.bores.length) (fun z=>[(0,.bx 100000 0),(2,.p (i64 n)),(3,.bx 31 0),(35,.ow 90002),(36,.p (i64 T.length)),(37,.p (i64 k)),(4,.p (i64 k)),(42,.p (ints l)),(43,.p (i64 l.length)),(44,.p (i64 z.1))]) (fun z=>[(100000,.box [.p (.sl (a.coppers.map rr)),.p (aj a.outline),.p (.sl (a.bores.map bc)),.p (.sl (a.lands.map lc)),.ow 90000,.ow 90001,.ow 90002,.ow 90003,.ow 90004,.ow 90005,.ow 90006,.ow 90007]),(90000,.row 59 J),(90001,.row 76 (P.map jb)),(90002,.row 71 (T.map fun l=>[ints l])),(90003,.row 142 []),(90004,.row 3 []),(90005,.row 3 []),(90006,.row 3 []),(90007,.row 174 []),(31,.aN [.row 3 (aA z.2)])]) (fun z=>l.length-z.1) (0,u) _ (au.refl _ _) ⟨rfl,q2,q3⟩ ⟨rfl,rfl,rfl,rfl,rfl,rfl,rfl,rfl,adV (fun m:Nat=>AV.p (i64 m)) ll,Z,Y⟩ ⟨Z,Z,Z,Z,Z,Z,Z,Z,Z,Z,Y⟩ fun ⟨j,v⟩ hz t h=>?_;obtain⟨z1,z2,z3⟩:=hz;simp only at z1 z2 z3;apply iW<;>intro g2<;>try simp only[zB]at g2
  ·obtain⟨p,Yb⟩:=ak (l:=l) (i:=j) (by omega);have Wn:=Wq p (aad Yb);rw[drop_at Yb,r_]at z1;have ZF:((p.toNat:Nat):Int)=p:=aee Wn.1;have hj:=Hx v z2 p.toNat (n+k) (by omega) (by omega);rw[ZF,Int.natCast_add]at hj;obtain⟨L,w2⟩:=Reg.mC z2 (i:=p.toNat) (k:=n+k) (by omega) (by omega);exact⟨[i64 p],(idx rfl Yb),wO (by omega),_,_,hj,wO (by omega),(j+1,gj v p.toNat (n+k)),_,au.refl _ _,⟨z1,L,w2.trans z3⟩,by simp only;omega,⟨Z,Z,Z,Z,Z,Z,Z,Z,Z,Z,Y⟩,⟨Z,Z,Z,Z,Z,Z,Z,Z,Z,Z,Y⟩⟩
  rw[ab1 (by omega),r_]at z1;exact⟨wO (by omega),(k+1,v),_,au.refl _ _,⟨by rw[z1];exact q1,z2,z3,by simp only;omega⟩,by simp only;omega,⟨Z,Z,Z,Z,Z,Z,Y⟩,⟨Z,Z,Z,Z,Z,Z,Z,Z,Z,Z,Y⟩⟩
 rw[ab1 (by omega),uz]at q1;have NC:=Hz u q2 (by omega);rw[q3]at NC;obtain⟨O,PM⟩:∃O,O=Reg.aP (Reg.cQ u) (n+a.bores.length):=⟨_,rfl⟩;rw[<-PM]at NC;have hLi:∀l∈O,l.length<=n+a.bores.length/\∀i∈l,i<n+a.bores.length:=fun l hl=>by
  rw[PM,Reg.aP]at hl;obtain⟨r,_,rfl⟩:=adS.1 hl;exact⟨Reg.qJ _ _ _,fun i hi=>(Reg.dx.1 hi).1⟩
 have Gz:O.length<=n+a.bores.length:=by rw[PM,Reg.oq];exact Reg.qI _ _
 obtain⟨F,Yc⟩:∃F,F=jn a.bores n O:=⟨_,rfl⟩;have hFo:F=(o,G0):=by rw[Yc,PM,<-hF,<-q1]
 refine⟨⟨by omega,by omega,by dsimp only;omega,by omega⟩,⟨by omega,by omega,by dsimp only;omega,by omega⟩,_,_,NC,?_⟩;have lLL:=ai O pl;have op0:aA (List.replicate n 0)=List.replicate n [i64 0]:=by rw[aA,adM]
 have ob0:aA (List.replicate a.bores.length 0)=List.replicate a.bores.length [i64 0]:=by rw[aA,adM]
 refine aJ (fun x:Nat×(List Int×List Int)×List bh=>(O.drop x.1).foldl (AT a.bores n) x.2=F/\x.2.1.1.length=n/\x.2.1.2.length=a.bores.length/\x.2.2.length<=x.1/\x.1<=O.length) (fun x=>[(0,.bx 100000 0),(2,.p (i64 n)),(72,.p (.sl (O.map pl))),(73,.p (i64 O.length)),(74,.p (i64 x.1))]) (fun x=>[(100000,.box [.p (.sl (a.coppers.map rr)),.p (aj a.outline),.p (.sl (a.bores.map bc)),.p (.sl (a.lands.map lc)),.ow 90000,.ow 90001,.ow 90002,.ow 90003,.ow 90004,.ow 90005,.ow 90006,.ow 90007]),(90000,.row 59 J),(90001,.row 76 (P.map jb)),(90002,.row 71 (T.map fun l=>[ints l])),(90003,.row 142 (x.2.2.map wR)),(90004,.row 3 (aA x.2.1.1)),(90005,.row 3 (aA x.2.1.2)),(90006,.row 3 []),(90007,.row 174 [])]) (fun x=>O.length-x.1) (0,(List.replicate n 0,List.replicate a.bores.length 0),[]) _ ((au.own (by exact hC) _ 72 (id:=72) (by exact rfl) (by exact rfl)).trans ((au.pack (by exact hC) _ 100000 (cs:=[.p (.sl (a.coppers.map rr)),.p (aj a.outline),.p (.sl (a.bores.map bc)),.p (.sl (a.lands.map lc)),.row 59 J,.row 76 (P.map jb),.row 71 (T.map fun l=>[ints l]),.row 142 [],.row 3 (aA (List.replicate n 0)),.row 3 (aA (List.replicate a.bores.length 0)),.row 3 [],.row 174 []]) (by exact rfl) (by exact rfl) (by exact⟨rfl,rfl,rfl,rfl,rfl,rfl,rfl,rfl,adV (AB.row _) (by rw[op0];rfl),adV (AB.row _) (by rw[ob0,<-lb];rfl),Z,Z,Y⟩)).trans (au.open (by exact hC) _ 100000 [90000,90001,90002,90003,90004,90005,90006,90007] (cs:=[.p (.sl (a.coppers.map rr)),.p (aj a.outline),.p (.sl (a.bores.map bc)),.p (.sl (a.lands.map lc)),.row 59 J,.row 76 (P.map jb),.row 71 (T.map fun l=>[ints l]),.row 142 [],.row 3 (aA (List.replicate n 0)),.row 3 (aA (List.replicate a.bores.length 0)),.row 3 [],.row 174 []]) (by exact rfl) rfl rfl rfl))) ⟨Yc.symm,aan,aan,aaj _,aaj _⟩ ⟨rfl,rfl,rfl,adV (fun m:Nat=>AV.p (i64 m)) lLL,Z,Y⟩ ⟨Z,Z,Z,Z,Z,Z,Z,Z,Z,Y⟩ fun ⟨j,⟨op,ob⟩,G⟩ hx t h=>?_;obtain⟨y1,y2,y3,y4,y5⟩:=hx;simp only at y1 y2 y3 y4 y5;apply iW<;>intro g2<;>try simp only[zB]at g2
 ·obtain⟨l,Yd⟩:=ak (l:=O) (i:=j) (by omega);obtain⟨Qo,F4⟩:=hLi l (aad Yd);rw[drop_at Yd,aaq]at y1;refine⟨(pl l),(idx rfl Yd),?_⟩;have ZG:(aA (l.map fun (m:Nat)=>(m:Int))).length=l.length:=by rw[bQ,aej]
  obtain⟨r,I⟩:∃r,r=l.foldl (jF a.bores n G.length) ((op,ob),[],[]):=⟨_,rfl⟩;have mT:AT a.bores n ((op,ob),G) l=(r.1,if 0<r.2.1.length+r.2.2.length then G++[⟨r.2.1,r.2.2,[]⟩] else G):=by rw[I];rfl
  rw[mT]at y1;refine aJ (fun y:Nat×(List Int×List Int)×List Int×List Int=>(l.drop y.1).foldl (jF a.bores n G.length) y.2=r/\y.2.1.1.length=n/\y.2.1.2.length=a.bores.length/\y.2.2.1.length<=y.1/\y.2.2.2.length<=y.1/\y.1<=l.length) (fun y=>[(0,.bx 100000 0),(2,.p (i64 n)),(72,.p (.sl (O.map pl))),(73,.p (i64 O.length)),(74,.p (i64 j)),(10,.bx 10 0),(78,.p (.sl (aA (l.map fun (m:Nat)=>(m:Int))))),(79,.p (i64 l.length)),(80,.p (i64 y.1))]) (fun y=>[(100000,.box [.p (.sl (a.coppers.map rr)),.p (aj a.outline),.p (.sl (a.bores.map bc)),.p (.sl (a.lands.map lc)),.ow 90000,.ow 90001,.ow 90002,.ow 90003,.ow 90004,.ow 90005,.ow 90006,.ow 90007]),(90000,.row 59 J),(90001,.row 76 (P.map jb)),(90002,.row 71 (T.map fun l=>[ints l])),(90003,.row 142 (G.map wR)),(90004,.row 3 (aA y.2.1.1)),(90005,.row 3 (aA y.2.1.2)),(90006,.row 3 []),(90007,.row 174 []),(10,.box [.ow 90100,.ow 90101,.nl]),(90100,.row 3 (aA y.2.2.1)),(90101,.row 3 (aA y.2.2.2))]) (fun y=>l.length-y.1) (0,(op,ob),[],[]) _ ((au.aeK (by exact hC) _ 10 0 90100 3 _ _ (by decide) (by decide) (by exact rfl) (by exact rfl) (by exact rfl) (by decide)).trans (au.aeK (by exact hC) _ 10 1 90101 3 _ _ (by decide) (by decide) (by exact rfl) (by exact rfl) (by exact rfl) (by decide))) ⟨I.symm,y2,y3,aam _,aam _,aaj _⟩ ⟨rfl,rfl,rfl,rfl,rfl,rfl,rfl,adV (fun m:Nat=>AV.p (i64 m)) ZG,Z,Y⟩ ⟨Z,Z,Z,Z,Z,Z,Z,Z,Z,Z,Z,Z,Y⟩ fun ⟨m,⟨V,N⟩,ps,bs⟩ hy t h=>?_;obtain⟨L,w2,w3,w4,w5,w6⟩:=hy;simp only at L w2 w3 w4 w5 w6;apply iW<;>intro g3<;>try simp only[zB]at g3
  ·obtain⟨i,Ye⟩:=ak (l:=l) (i:=m) (by omega);have hiN:=F4 i (aad Ye);rw[drop_at Ye,aaq]at L;have lG:=ai G wR;refine⟨[i64 i],⟨by omega,cM (by rw[aak];simp[Ye])⟩,?_⟩;apply iW<;>intro g4
   ·rw[jF,aap (by omega)]at L;obtain⟨v,hv⟩:=ak (l:=V) (i:=i) (by omega);have lv:=bQ V;have Yf:=bQ ps;exact⟨⟨by omega,by (try dsimp only);omega⟩,[i64 v],(cM hv),⟨fun r I=>by simp at I;subst I;rfl,by simp only[Yf,List.length_set,List.length_replicate];omega,by simp only[Yf,List.length_set,List.length_replicate];omega⟩,wO (by omega),(m+1,(V.set i (G.length:Int),N),ps++[(i:Int)],bs),_,au.Cx _ 111 90100 (by decide) (by decide),⟨L,by simp only[List.length_set];exact w2,w3,by simp only[List.length_append,List.length_singleton];omega,by simp only;omega,by simp only;omega⟩,by simp only;omega,⟨Z,Z,Z,Z,Z,Z,Z,Z,Z,Y⟩,⟨rfl,rfl,rfl,rfl,rfl,congrArg (AB.row _) ((fV V i ((G.map wR).length:Int)).trans (by rw[lG])),rfl,rfl,rfl,rfl,congrArg (AB.row _) (gP ps i).symm,Z,Y⟩⟩
   rw[jF,aaa (by omega)]at L;refine⟨wO (by omega),?_⟩;obtain⟨b,Oz⟩:=ak (l:=a.bores) (i:=i-n) (by omega);have Ox:a.bores.getD (i-n) ⟨0,0,0,0,0,false⟩=b:=by rw[ad4,Oz];rfl
   rw[Ox]at L;refine⟨(bc b),(idx (show (i:Int)-n=((i-n:Nat):Int) by omega) Oz),iW ?_ ?_⟩<;>intro g5
   ·rw[aap g5]at L;have e1:(i:Int)-n=((i-n:Nat):Int):=by omega
    obtain⟨v,hv⟩:=ak (l:=N) (i:=i-n) (by omega);have lv:=bQ N;have Wo:=bQ bs;exact⟨wO (by omega),⟨by omega,by (try dsimp only);omega⟩,[i64 v],(by rw[e1];exact cM hv),wO (by omega),⟨fun r I=>by simp at I;subst I;rfl,by simp only[Wo,List.length_set,List.length_replicate];omega,by simp only[Wo,List.length_set,List.length_replicate];omega⟩,wO (by omega),(m+1,(V,N.set (i-n) (G.length:Int)),ps,bs++[(i:Int)-n]),_,au.Cx _ 144 90101 (by decide) (by decide),⟨L,w2,by simp only[List.length_set];exact w3,by simp only;omega,by simp only[List.length_append,List.length_singleton];omega,by simp only;omega⟩,by simp only;omega,⟨Z,Z,Z,Z,Z,Z,Z,Z,Z,Y⟩,⟨rfl,rfl,rfl,rfl,rfl,rfl,congrArg (AB.row _) ((congrArg (fun z=>List.set (aA N) z _) (show ((i:Int)-n).toNat=i-n by omega)).trans ((fV N (i-n) ((G.map wR).length:Int)).trans (by rw[lG]))),rfl,rfl,rfl,rfl,congrArg (AB.row _) (gP bs ((i:Int)-n)).symm,trivial⟩⟩
   rw[aaa (by rw[g5];decide)]at L;have e1:(i:Int)-n=((i-n:Nat):Int):=by omega
   obtain⟨v,hv⟩:=ak (l:=N) (i:=i-n) (by omega);have lv:=bQ N;exact⟨wO (by omega),⟨by omega,by (try dsimp only);omega⟩,[i64 v],(by rw[e1];exact cM hv),wO (by omega),(m+1,(V,N.set (i-n) (-1)),ps,bs),_,au.refl _ _,⟨L,w2,by simp only[List.length_set];exact w3,by simp only;omega,by simp only;omega,by simp only;omega⟩,by simp only;omega,⟨Z,Z,Z,Z,Z,Z,Z,Z,Z,Y⟩,⟨rfl,rfl,rfl,rfl,rfl,rfl,congrArg (AB.row _) ((congrArg (fun z=>List.set (aA N) z _) (show ((i:Int)-n).toNat=i-n by omega)).trans (fV N (i-n) (-1))),Z,Z,Z,Z,Z,Y⟩⟩
  have e:l.length<=m:=by omega
  rw[ab1 e]at L;have L:((V,N),ps,bs)=r:=L;rw[<-L]at y1;simp only at y1;have Yf:=bQ ps;have Wo:=bQ bs;have lG:=ai G wR;refine qy ((au.fB (by exact hC) _ 10 0 90100 3 _ _ (by decide) (by exact rfl) (by exact rfl) (by exact rfl)).trans ((au.fB (by exact hC) _ 10 1 90101 3 _ _ (by decide) (by exact rfl) (by exact rfl) (by exact rfl)).trans (au.MJ (by exact hC) _ 10 2 _ (by exact rfl) (by exact rfl)))) ?_;refine⟨⟨by dsimp only;omega,by dsimp only;omega⟩,iW ?_ ?_⟩<;>intro g4<;>try simp only[zB]at g4
  ·rw[aap (by omega)]at y1;exact⟨⟨fun r I=>by simp at I;subst I;rfl,by simp only[lG,aaM,aan];omega,by simp only[lG,aaM,aan];omega⟩,wO (by omega),(j+1,(V,N),G++[bh.mk ps bs []]),_,((au.pack (by exact hC) _ 100000 (cs:=[.p (.sl (a.coppers.map rr)),.p (aj a.outline),.p (.sl (a.bores.map bc)),.p (.sl (a.lands.map lc)),.row 59 J,.row 76 (P.map jb),.row 71 (T.map fun l=>[ints l]),.row 142 ((G++[bh.mk ps bs []]).map wR),.row 3 (aA V),.row 3 (aA N),.row 3 [],.row 174 []]) (by exact rfl) (by exact rfl) (by exact⟨rfl,rfl,rfl,rfl,rfl,rfl,rfl,by rw[abE];rfl,Z,Z,Z,Z,Y⟩)).trans (au.open (by exact hC) _ 100000 [90000,90001,90002,90003,90004,90005,90006,90007] (cs:=[.p (.sl (a.coppers.map rr)),.p (aj a.outline),.p (.sl (a.bores.map bc)),.p (.sl (a.lands.map lc)),.row 59 J,.row 76 (P.map jb),.row 71 (T.map fun l=>[ints l]),.row 142 ((G++[bh.mk ps bs []]).map wR),.row 3 (aA V),.row 3 (aA N),.row 3 [],.row 174 []]) (by exact rfl) rfl rfl rfl)),⟨y1,w2,w3,by simp only[acv,abS];omega,by simp only;omega⟩,by simp only;omega,⟨Z,Z,Z,Z,Z,Y⟩,⟨Z,Z,Z,Z,Z,Z,Z,Z,Z,Y⟩⟩
  rw[aaa (by omega)]at y1;exact⟨wO (by omega),(j+1,(V,N),G),_,au.refl _ _,⟨y1,w2,w3,by simp only;omega,by simp only;omega⟩,by simp only;omega,⟨Z,Z,Z,Z,Z,Y⟩,⟨Z,Z,Z,Z,Z,Z,Z,Z,Z,Y⟩⟩
 rw[ab1 (by omega)]at y1;have y1:((op,ob),G)=F:=y1;have SS:mG a.bores n F:=by rw[Yc,PM];exact Reg.vL q2 q3
 rw[<-y1]at SS;have lG:=ai G wR;have ll:=ai a.lands lc;have SU:=ha.lan;have Ja:∀g∈G,g.pins=[]:=fun g W=>by
  obtain⟨k,hk⟩:=ab8.1 W;exact (SS.c k g hk).1
 have hoG:((op,ob),G)=(o,G0):=y1.trans hFo;injection hoG with ho Vu;subst ho;subst Vu;refine aJ (fun x:Nat×qN=>(a.lands.drop x.1).foldl (uA a.bores P (op,ob)) x.2=R/\x.2.groups.length=G.length/\x.2.ofLand.length=x.1/\x.2.atLand.length=x.1/\x.1<=a.lands.length/\∀g∈x.2.groups,g.pins.length<=x.1) (fun x=>[(0,.bx 100000 0),(170,.p (.sl (a.lands.map lc))),(171,.p (i64 a.lands.length)),(172,.p (i64 x.1))]) (fun x=>[(100000,.box [.p (.sl (a.coppers.map rr)),.p (aj a.outline),.p (.sl (a.bores.map bc)),.p (.sl (a.lands.map lc)),.ow 90000,.ow 90001,.ow 90002,.ow 90003,.ow 90004,.ow 90005,.ow 90006,.ow 90007]),(90000,.row 59 J),(90001,.row 76 (P.map jb)),(90002,.row 71 (T.map fun l=>[ints l])),(90003,.az 142 (x.2.groups.map gh)),(90004,.row 3 (aA op)),(90005,.row 3 (aA ob)),(90006,.row 3 (aA x.2.ofLand)),(90007,.row 174 (x.2.atLand.map je))]) (fun x=>a.lands.length-x.1) (0,⟨G,[],[]⟩) _ (au.Wg (by exact hC) _ 90003 (e:=142) (es:=G.map wR) (by exact rfl)) ⟨hR.symm,rfl,rfl,rfl,aaj _,fun g W=>by rw[Ja g W];exact aam _⟩ ⟨rfl,rfl,adV (fun m:Nat=>AV.p (i64 m)) ll,Z,Y⟩ ⟨rfl,rfl,rfl,rfl,adV (AB.az _) (NB Ja),Z,Z,Z,Z,Y⟩ fun ⟨i,s⟩ hx t h=>?_;obtain⟨v1,v2,v3,v4,v5,v6⟩:=hx;simp only at v1 v2 v3 v4 v5 v6;apply iW<;>intro g3<;>try simp only[zB]at g3
 ·obtain⟨l,ZH⟩:=ak (l:=a.lands) (i:=i) (by omega);rw[drop_at ZH,aaq]at v1;refine⟨(lc l),(idx rfl ZH),?_⟩;obtain⟨hp,Vv⟩:∃hp,hp=il a.bores P l:=⟨_,rfl⟩;have Gp:=Dl a ha l J (T.map fun l=>[ints l]) (s.groups.map sT) (aA s.ofLand) (s.atLand.map je) op ob P (by omega) Q9;rw[<-Vv]at Gp;refine⟨[.ip ((dX a)++[.sl J,.sl (P.map jb),.sl (T.map fun l=>[ints l]),.sl (s.groups.map sT),ints op,ints ob,.sl (aA s.ofLand),.sl (s.atLand.map je)]),.ag (lc l)],_,.cons (.box 100000 0 _ ((dX a)++[.sl J,.sl (P.map jb),.sl (T.map fun l=>[ints l]),.sl (s.groups.map sT),ints op,ints ob,.sl (aA s.ofLand),.sl (s.atLand.map je)]) (by exact rfl) (.cons (.p _) (.cons (.p _) (.cons (.p _) (.cons (.p _) (.cons (.row 90000 _ _ (by exact rfl)) (.cons (.row 90001 _ _ (by exact rfl)) (.cons (.row 90002 _ _ (by exact rfl)) (.cons (.az 90003 142 (s.groups.map gh) (s.groups.map sT) (by exact adV (AB.az _) (by simp only[qO])) (vM _)) (.cons (.row 90004 _ _ (by exact rfl)) (.cons (.row 90005 _ _ (by exact rfl)) (.cons (.row 90006 _ _ (by exact rfl)) (.cons (.row 90007 _ _ (by exact rfl)) .nil))))))))))))) (.cons (.one (.p _)) .nil),Gp,rfl,iW ?_ ?_⟩<;>intro g4
  ·have Vw:mG a.bores P.length ((op,ob),G):=hn▸SS;obtain⟨m,k,e1,e2,e3⟩:=Reg.KQ Vw l (by rw[<-Vv];exact g4);rw[<-Vv]at e1 e2;have e3:k<G.length:=e3;obtain⟨D,PG⟩:=ak (l:=s.groups) (i:=k) (by omega);have qg:=v6 D (aad PG);have IM:uA a.bores P (op,ob) s l=⟨s.groups.set k (iN (l.part,l.pin) D),s.ofLand++[(k:Int)],s.atLand++[hp.1]⟩:=by
    rw[uA];simp only[<-Vv];have g4:hp.2=true:=g4;rw[g4,aap rfl,aap rfl,e1,ad2,ad4 (l:=if hp.1.bore=true then ob else op),e2];simp only[acy,ad2,ad4,PG]
   rw[IM]at v1;have hgh:=uB a hp.1 J (T.map fun l=>[ints l]) (s.groups.map sT) (aA s.ofLand) (s.atLand.map je) op ob P m e1 k e2;refine⟨[.ip ((dX a)++[.sl J,.sl (P.map jb),.sl (T.map fun l=>[ints l]),.sl (s.groups.map sT),ints op,ints ob,.sl (aA s.ofLand),.sl (s.atLand.map je)]),.ag (je hp.1)],_,.cons (.box 100000 0 _ ((dX a)++[.sl J,.sl (P.map jb),.sl (T.map fun l=>[ints l]),.sl (s.groups.map sT),ints op,ints ob,.sl (aA s.ofLand),.sl (s.atLand.map je)]) (by exact rfl) (.cons (.p _) (.cons (.p _) (.cons (.p _) (.cons (.p _) (.cons (.row 90000 _ _ (by exact rfl)) (.cons (.row 90001 _ _ (by exact rfl)) (.cons (.row 90002 _ _ (by exact rfl)) (.cons (.az 90003 142 (s.groups.map gh) (s.groups.map sT) (by exact adV (AB.az _) (by simp only[qO])) (vM _)) (.cons (.row 90004 _ _ (by exact rfl)) (.cons (.row 90005 _ _ (by exact rfl)) (.cons (.row 90006 _ _ (by exact rfl)) (.cons (.row 90007 _ _ (by exact rfl)) .nil))))))))))))) (.cons (.one (.p _)) .nil),hgh,rfl,?_⟩;refine qy (au.I9 (by exact hC) _ 90003 k 90200 (e:=142) (by decide) (by decide) (by exact adV (AB.az _) (by simp only[qO])) PG (by exact rfl) (by decide)) ?_;have Vx:(s.groups.map gh).length=s.groups.length:=aej _;have Vy:=ai D.pins pc;have Vz:=bQ s.ofLand;have VA:=ai s.atLand je;refine⟨⟨by omega,by simp only[aej,aaM];omega⟩,?_⟩;have NF:((s.groups.map gh).set k [.av (.p (ints D.pieces)),.av (.p (ints D.bores)),.av (.ow 90200)])[k]?=some [.av (.p (ints D.pieces)),.av (.p (ints D.bores)),.av (.ow 90200)]:=ab7 (by rw[Vx];omega);refine⟨[.av (.p (ints D.pieces)),.av (.p (ints D.bores)),.av (.ow 90200)],(by rw[dC,dC,dC];exact NF;rfl;rfl;rfl),_,_,(pw l),⟨fun r I=>by simp at I;subst I;rfl,by simp only[Vy,aaM,aan];omega,by simp only[Vy,aaM,aan];omega⟩,⟨by omega,by simp only[aej,aaM];omega⟩,[.av (.p (ints D.pieces)),.av (.p (ints D.bores)),.av (.ow 90200)],(by rw[dC,dC,dC];exact NF;rfl;rfl;rfl),⟨fun r I=>by simp at I;subst I;rfl,by simp only[Vz,aaM,aan];omega,by simp only[Vz,aaM,aan];omega⟩,⟨fun r I=>by simp at I;subst I;rfl,by simp only[VA,aaM,aan];omega,by simp only[VA,aaM,aan];omega⟩,wO (by omega),?_⟩;have SV:((s.groups.map gh).set k [.av (.p (ints D.pieces)),.av (.p (ints D.bores)),.av (.ow 202)]).set k (([.av (.p (ints D.pieces)),.av (.p (ints D.bores)),.av (.ow 202)]:List HX).set 2 (.row 205 ((D.pins++[(l.part,l.pin)]).map pc)))=(s.groups.set k (iN (l.part,l.pin) D)).map gh:=by
    rw[abM,ad8];congr 1;show _=[.av (.p (ints D.pieces)),.av (.p (ints D.bores)),I8 (D.pins++[(l.part,l.pin)])];rw[I_];rfl
   refine⟨(i+1,⟨s.groups.set k (iN (l.part,l.pin) D),s.ofLand++[(k:Int)],s.atLand++[hp.1]⟩),_,(au.Bm (by exact hC) _ 90003 k 2 202 (e:=142) (es:=(s.groups.map gh).set k [.av (.p (ints D.pieces)),.av (.p (ints D.bores)),.av (.ow 202)]) (r:=[.av (.p (ints D.pieces)),.av (.p (ints D.bores)),.av (.ow 202)]) (e':=205) (xs:=(D.pins++[(l.part,l.pin)]).map pc) (by decide) (by exact adV (AB.az _) (by rw[dC,dC,dC];simp only[ad2];rw[abM];show List.map (fun r=>List.map (HX.cS (sc 220)) r) (List.map (fun r=>List.map (HX.cS (sc 219)) r) (List.map (fun r=>List.map (HX.cS (sc 213)) r) (List.map (fun r=>List.map (HX.cS (sc 212)) r) ((List.map gh s.groups).set k [.av (.p (ints D.pieces)),.av (.p (ints D.bores)),.av (.ow 202)]))))=_;rw[dC,dC,dC,dC];all_goals rfl)) (by exact adV (AB.row _) (by rw[abE];rfl)) (ab7 (by rw[Vx];omega)) (by exact rfl)).trans ((au.Cx _ 213 90006 (by decide) (by decide)).trans (au.Cx _ 220 90007 (by decide) (by decide))),?_⟩;exact⟨⟨v1,by simp only[aaM];exact v2,by simp only[acv,abS];omega,by simp only[acv,abS];omega,by simp only;omega,fun g W=>by
    rcases abg W with W | W
    ·have:=v6 g W;simp only;omega
    subst W;simp only[iN,acv,abS];omega⟩,by simp only;omega,⟨Z,Z,Z,Z,Y⟩,⟨rfl,rfl,rfl,rfl,adV (AB.az _) (by refine (adV (List.map _) (adV (List.map _) SV)).trans ?_;simp only[Fo]),rfl,rfl,adV (AB.row _) (gP _ _).symm,adV (AB.row _) (by rw[abE (f:=je)];rfl),trivial⟩⟩
  have g4:hp.2=false:=g4;have IM:uA a.bores P (op,ob) s l=⟨s.groups,s.ofLand++[-1],s.atLand++[hp.1]⟩:=by
   rw[uA];simp only[<-Vv,g4];rfl
  rw[IM]at v1;have Vz:=bQ s.ofLand;have VA:=ai s.atLand je;exact⟨⟨fun r I=>by simp at I;subst I;rfl,by simp only[Vz,aaM,aan];omega,by simp only[Vz,aaM,aan];omega⟩,⟨fun r I=>by simp at I;subst I;rfl,by simp only[VA,aaM,aan];omega,by simp only[VA,aaM,aan];omega⟩,wO (by omega),(i+1,⟨s.groups,s.ofLand++[-1],s.atLand++[hp.1]⟩),_,(au.Cx _ 213 90006 (by decide) (by decide)).trans (au.Cx _ 220 90007 (by decide) (by decide)),⟨v1,v2,by simp only[acv,abS];omega,by simp only[acv,abS];omega,by simp only;omega,fun g W=>by have:=v6 g W;simp only;omega⟩,by simp only;omega,⟨Z,Z,Z,Z,Y⟩,⟨rfl,rfl,rfl,rfl,adV (AB.az _) (by show _=List.map gh s.groups;simp only[qO,Fo]),rfl,rfl,adV (AB.row _) (gP _ _).symm,adV (AB.row _) (by rw[abE (f:=je)];rfl),trivial⟩⟩
 rw[ab1 (by omega)]at v1;have v1:s=R:=v1;rw[<-v1];refine⟨_,au.ID (by exact hC) _ 90003 (s.groups.map sT) (e:=142) (by exact adV (AB.az _) (by simp only[qO,Fo])) (vM _),?_⟩;exact And.intro rfl (And.intro ⟨Z,Z,Z,Z,Z,Z,Z,Z,Z,Z,Z,Z,Z,Y⟩ trivial)
end M
namespace Reg
def eO(x y:aS):Bool:=(decide (x.lo<=y.hi)&&decide (y.lo<=x.hi))&&decide (fT (aa x) (aa y)=0)
def aeH(bs:List aS)(i:Nat):Bool:=(bs.take i).any (eO (bs.getD i I7))
def da(bs:List aS)(i:Nat):Bool:=(List.range' i (bs.length-i)).any (aeH bs)
variable {bs:List aS}
theorem HB{i:Nat}(h:i<bs.length):da bs i=(aeH bs i||da bs (i+1)):=by
 rw[da,show bs.length-i=(bs.length-(i+1))+1 by omega,List.range'_succ,abd];rfl
theorem KR{i:Nat}(h:bs.length<=i):da bs i=false:=by
 rw[da,show bs.length-i=0 by omega];rfl
def db:List (List ae)->Int
 | []=>0
 | r::l=>if aF r≠0 then aF r else db l
def sa(n:Int)(l:List (List ae)):Int:=l.foldl (fun n r=>n+r.length) n
theorem jo:∀{l:List (List ae)},db l=0->∀r∈l,aF r=0
 | [],_,r,h=>by cases h
 | q::l,h,r,z=>by
  rw[db]at h;by_cases e:aF q=0
  ·rw[aaa (by simpa using e)]at h;rcases adq.1 z with rfl | z
   ·exact e
   exact jo h r z
  rw[aap e]at h;exact absurd h e
structure BR where
 drilled:List (List an)
 pieces:List Piece
 bB:List (List Int)
 ofPiece:List Int
 ofBore:List Int
 placed:qN
def aC(a:fS):BR:=
 let P:=bG a.bores 0 a.coppers;let T:=bB a.bores P;let U:=jm P.length a.bores.length T;let F:=jn a.bores P.length (aP (cQ U) (P.length+a.bores.length))
 ⟨gO a.bores 0 a.coppers,P,T,F.1.1,F.1.2,a.lands.foldl (uA a.bores P F.1) ⟨F.2,[],[]⟩⟩
theorem mH:∀{l:List (List ae)} {k:Int} {p:Piece},p∈bG bs k l->∃(i:Nat) (r:List ae),l[i]?=some r/\p.layer=k+i/\p.set∈cV (bU bs (k+i) r)
 | [],k,p,h=>by cases h
 | r::l,k,p,h=>by
  rw[bG]at h;rcases abi.1 h with h | h
  ·obtain⟨s,z,rfl⟩:=adS.1 h;exact⟨0,r,rfl,by simp,by simpa using z⟩
  obtain⟨i,r',D,I,J⟩:=mH h;have e:k+((i+1:Nat):Int)=k+1+(i:Int):=by omega
  exact⟨i+1,r',by simpa using D,by rw[I,e],by rw[e];exact J⟩
theorem sU(b:aS):∀(ps:List Piece) (k:Nat),(fu b k ps).length<=ps.length
 | [],k=>aam _
 | q::ps,k=>by
  have:=sU b ps (k+1);rw[fu];split<;>simp only[aaB]<;>omega
end Reg
namespace M
open Go.AM Go.RowKit Go.Lib
open Reg (ae an aS fo fS Piece bh zx qN bE cv told aB bO aa fT eO aeH da db sa bT eG aC P4)
def kW(a:fS):List PV:=dX a++[.sl ((aC a).drilled.map fun s=>[aw s]),.sl ((aC a).pieces.map jb),.sl ((aC a).bB.map fun l=>[ints l]),.sl ((aC a).placed.groups.map sT),ints (aC a).ofPiece,ints (aC a).ofBore,ints (aC a).placed.ofLand,.sl ((aC a).placed.atLand.map je)]
def dc(a:fS):Int:=if a.coppers.length=0 then 9 else if 16<a.coppers.length then 2 else
 if db a.coppers≠0 then db a.coppers else
 if Reg.aF a.outline≠0 then Reg.aF a.outline else
 if 2000<sa a.outline.length a.coppers then 2 else
 if bT a≠0 then bT a else
 if c8 a≠0 then c8 a else
 if da a.bores 0=true then 12 else
 if eG a=true then 0 else 2
def Jb(a:fS):PV:=if dc a=0 then .ip (kW a) else .im (.pointer none)
theorem Fp(a:fS)(ho:ly a):af C 39 [.pv (.ag (dX a))] (.tu [Jb a,i64 (dc a)]) []:=by
 have lk:=ai a.coppers rr;have lk':(a.coppers.map fun r=>[aj r]).length=a.coppers.length:=lk;have lo:=ai a.outline rc;have lb:=ai a.bores bc;obtain⟨F,z⟩:∃F,F=dc a:=⟨_,rfl⟩;have hV:Jb a=if F=0 then .ip (kW a) else .im (.pointer none):=by rw[z];rfl
 rw[hV,<-z];rw[dc]at z;refine uX ⟨[36,40],[],[],[],[],[]⟩ hC Tryz.func39 rfl (by kernel_rfl) fun _=>?_;apply iW<;>intro g1
 ·rw[aap (by omega)]at z;refine⟨?_,trivial⟩;rw[z];rfl
 rw[aaa (by omega)]at z;apply iW<;>intro g2
 ·rw[aap (by omega)]at z;refine⟨?_,trivial⟩;rw[z];rfl
 rw[aaa (by omega)]at z;obtain⟨M,hM⟩:∃M,M=sa a.outline.length a.coppers:=⟨_,rfl⟩;rw[<-hM]at z;have Yg:=ho.out;refine aJ (fun x:Nat×Int=>sa x.2 (a.coppers.drop x.1)=M/\db (a.coppers.drop x.1)=db a.coppers/\0<=x.2/\x.2<=1048576+1048576*x.1) (fun x=>[(1,.bx 1 0),(4,.p (i64 x.2)),(28,.p (.sl (a.coppers.map rr))),(29,.p (i64 a.coppers.length)),(30,.p (i64 x.1))]) (fun _=>[(1,.box [.p (.sl (a.coppers.map rr)),.p (aj a.outline),.p (.sl (a.bores.map bc)),.p (.sl (a.lands.map lc))])]) (fun x=>a.coppers.length-x.1) (0,a.outline.length) _ (au.refl _ _) ⟨hM.symm,rfl,by simp only;omega,by simp only;omega⟩ ⟨rfl,adV (fun m:Nat=>AV.p (i64 m)) lo,rfl,adV (fun m:Nat=>AV.p (i64 m)) lk,Z,Y⟩ ⟨Z,Y⟩ fun ⟨i,n⟩ N t h=>?_;obtain⟨U,I,q3,q4⟩:=N;simp only at U I q3 q4;apply iW<;>intro g3<;>try simp only[zB]at g3
 ·obtain⟨r,W⟩:=ak (l:=a.coppers) (i:=i) (by omega);have xj:=ho.rcs r (aad W);have lr:=ai r rc;rw[drop_at W]at U I;rw[db]at I;refine⟨(rr r),(idx rfl W),_,_,(jj r),iW ?_ ?_⟩<;>intro D
  ·have D:Reg.aF r≠0:=by simpa using D
   rw[aap D]at I;rw[<-I,aap D]at z;refine⟨?_,trivial⟩;rw[z,aaa D]
  have D:Reg.aF r=0:=by simpa using D
  rw[aaa (by simpa using D)]at I;exact⟨wO (by omega),wO (by omega),(i+1,n+r.length),_,au.refl _ _,⟨U,I,by simp only;omega,by simp only;omega⟩,by simp only;omega,⟨rfl,adV (fun m:Nat=>AV.p (i64 (n+m))) lr,Z,Z,Z,Y⟩,⟨Z,Y⟩⟩
 rw[ab1 (by omega)]at U I;have U:n=M:=U;have I:db a.coppers=0:=I.symm;rw[aaa (by simpa using I)]at z;refine⟨_,_,(jj a.outline),iW ?_ ?_⟩<;>intro D
 ·have D:Reg.aF a.outline≠0:=by simpa using D
  rw[aap D]at z;refine⟨?_,trivial⟩;rw[z,aaa D]
 have D:Reg.aF a.outline=0:=by simpa using D
 rw[aaa (by simpa using D)]at z;apply iW<;>intro g5<;>try simp only[zB]at g5
 ·rw[aap (by omega)]at z;refine⟨?_,trivial⟩;rw[z];rfl
 rw[aaa (by omega)]at z;refine⟨_,_,(uu a (by omega)),iW ?_ ?_⟩<;>intro J
 ·have J:bT a≠0:=by simpa using J
  rw[aap J]at z;refine⟨?_,trivial⟩;rw[z,aaa J]
 have J:bT a=0:=by simpa using J
 rw[aaa (by simpa using J)]at z;refine⟨_,_,(uv a ho),iW ?_ ?_⟩<;>intro L
 ·have L:c8 a≠0:=by simpa using L
  rw[aap L]at z;refine⟨?_,trivial⟩;rw[z,aaa L]
 have L:c8 a=0:=by simpa using L
 rw[aaa (by simpa using L)]at z;have zA:a.bores.length<=500:=by
  unfold Reg.bT at J;split at J
  ·cases J
  omega
 have T4:Reg.c_ a.coppers.length a.bores=0:=by rwa [Reg.bT,aaa (by omega)]at J
 have Sq:=Reg.sM T4;have VB:∀b∈a.bores,bO b=true/\P4 1000000000 (aa b):=fun b hb=>by
  have R:=ky (Sq b hb);obtain⟨a1,a2,a3,a4⟩:=Reg.Q8 (Reg.bX R) (Reg.er R);exact⟨R,⟨by omega,by omega⟩,⟨by omega,by omega⟩,⟨by omega,by omega⟩,⟨by omega,by omega⟩⟩
 refine aJ (fun i:Nat=>da a.bores i=da a.bores 0) (fun i=>[(1,.bx 1 0),(63,.p (.sl (a.bores.map bc))),(64,.p (i64 a.bores.length)),(65,.p (i64 i))]) (fun _=>[(1,.box [.p (.sl (a.coppers.map rr)),.p (aj a.outline),.p (.sl (a.bores.map bc)),.p (.sl (a.lands.map lc))])]) (fun i=>a.bores.length-i) 0 _ (au.refl _ _) rfl ⟨rfl,rfl,adV (fun m:Nat=>AV.p (i64 m)) lb,Z,Y⟩ ⟨Z,Y⟩ fun i hi t h=>?_;apply iW<;>intro g8
 ·obtain⟨x,N⟩:=ak (l:=a.bores) (i:=i) (by omega);obtain⟨x1,x2⟩:=VB x (aad N);rw[Reg.HB (by omega)]at hi;have az:aeH a.bores i=(a.bores.take i).any (eO x):=by rw[aeH,ad4,N];rfl
  rw[az]at hi;refine⟨(bc x),(idx rfl N),⟨by decide,by omega,by omega,fun r W=>by obtain⟨b,_,rfl⟩:=adS.1 W;rfl⟩,?_⟩;have VC:((a.bores.take i).map bc).length=i:=by rw[aej,aat];omega
  have abu:(a.bores.take i).length=i:=by rw[aat];omega
  refine aJ (fun j:Nat=>((a.bores.take i).drop j).any (eO x)=(a.bores.take i).any (eO x)) (fun j=>[(1,.bx 1 0),(63,.p (.sl (a.bores.map bc))),(64,.p (i64 a.bores.length)),(65,.p (i64 i)),(12,.bx 12 0),(73,.p (.sl ((a.bores.take i).map bc))),(74,.p (i64 i)),(75,.p (i64 j))]) (fun _=>[(1,.box [.p (.sl (a.coppers.map rr)),.p (aj a.outline),.p (.sl (a.bores.map bc)),.p (.sl (a.lands.map lc))]),(12,.box [.p (i64 x.x),.p (i64 x.y),.p (i64 x.size),.p (i64 x.lo),.p (i64 x.hi),.p (bool x.plated)])]) (fun j=>i-j) 0 _ (au.refl _ _) rfl ⟨rfl,rfl,rfl,rfl,rfl,adV (fun l=>AV.p (PV.sl l)) (by simp[aco]),adV (fun m:Nat=>AV.p (i64 m)) (by simp;omega),Z,Y⟩ ⟨Z,Z,Y⟩ fun j O t h=>?_;apply iW<;>intro V
  ·obtain⟨y,hy⟩:=ak (l:=a.bores.take i) (i:=j) (by omega);obtain⟨y1,y2⟩:=VB y (acM (aad hy));rw[drop_at hy,abd]at O;have yes:eO x y=true->F=12:=fun hc=>by
    rw[hc,abn]at O;rw[<-O,abn]at hi;rw[<-hi,aap rfl]at z;exact z
   have no:eO x y=false->((a.bores.take i).drop (j+1)).any (eO x)=(a.bores.take i).any (eO x):=fun hc=>by
    rw[hc,abv]at O;exact O
   refine⟨(bc y),(idx rfl hy),iW ?_ ?_⟩<;>intro R
   ·apply iW<;>intro h2
    ·refine⟨_,_,(cF x x1),_,_,(cF y y1),_,_,(BM (aa x) (aa y) x2 y2),iW ?_ ?_⟩<;>intro h3
     ·have hy:=yes (by simp only[eO,aaZ,aaH];exact⟨⟨R,h2⟩,h3⟩);refine⟨?_,trivial⟩;rw[hy];rfl
     have hn:=no (by simp only[eO];rw[aaz h3,aav]);exact⟨wO (by omega),(j+1),_,au.refl _ _,hn,by omega,⟨Z,Z,Z,Z,Z,Z,Z,Z,Y⟩,⟨Z,Z,Y⟩⟩
    have hn:=no (by simp only[eO];rw[aaz h2,aav,abp]);exact⟨wO (by omega),(j+1),_,au.refl _ _,hn,by omega,⟨Z,Z,Z,Z,Z,Z,Z,Z,Y⟩,⟨Z,Z,Y⟩⟩
   have hn:=no (by simp only[eO];rw[aaz R,abp,abp]);exact⟨wO (by omega),(j+1),_,au.refl _ _,hn,by omega,⟨Z,Z,Z,Z,Z,Z,Z,Z,Y⟩,⟨Z,Z,Y⟩⟩
  rw[ab1 (by omega)]at O;have O:false=(a.bores.take i).any (eO x):=O;rw[<-O,abv]at hi;exact⟨wO (by omega),(i+1),_,au.refl _ _,hi,by omega,⟨Z,Z,Z,Z,Y⟩,⟨Z,Y⟩⟩
 rw[Reg.KR (by omega)]at hi;rw[<-hi,aaa (by decide)]at z;refine qy ((au.pX (by exact hC) _ 103 4 [.p (.sl (a.coppers.map rr)),.p (aj a.outline),.p (.sl (a.bores.map bc)),.p (.sl (a.lands.map lc)),.p (.im (.slice none 0 0)),.p (.im (.slice none 0 0)),.p (.im (.slice none 0 0)),.p (.im (.slice none 0 0)),.p (.im (.slice none 0 0)),.p (.im (.slice none 0 0)),.p (.im (.slice none 0 0)),.p (.im (.slice none 0 0))] (by exact rfl) (by exact rfl)).trans ((au.aeK (by exact hC) _ 103 4 90000 59 _ [.p (.sl (a.coppers.map rr)),.p (aj a.outline),.p (.sl (a.bores.map bc)),.p (.sl (a.lands.map lc)),.nl,.p (.im (.slice none 0 0)),.p (.im (.slice none 0 0)),.p (.im (.slice none 0 0)),.p (.im (.slice none 0 0)),.p (.im (.slice none 0 0)),.p (.im (.slice none 0 0)),.p (.im (.slice none 0 0))] (by decide) (by decide) (by exact rfl) (by exact rfl) (by exact rfl) (by decide)).trans ((au.pX (by exact hC) _ 103 5 [.p (.sl (a.coppers.map rr)),.p (aj a.outline),.p (.sl (a.bores.map bc)),.p (.sl (a.lands.map lc)),.ow 90000,.p (.im (.slice none 0 0)),.p (.im (.slice none 0 0)),.p (.im (.slice none 0 0)),.p (.im (.slice none 0 0)),.p (.im (.slice none 0 0)),.p (.im (.slice none 0 0)),.p (.im (.slice none 0 0))] (by exact rfl) (by exact rfl)).trans ((au.aeK (by exact hC) _ 103 5 90001 76 _ [.p (.sl (a.coppers.map rr)),.p (aj a.outline),.p (.sl (a.bores.map bc)),.p (.sl (a.lands.map lc)),.ow 90000,.nl,.p (.im (.slice none 0 0)),.p (.im (.slice none 0 0)),.p (.im (.slice none 0 0)),.p (.im (.slice none 0 0)),.p (.im (.slice none 0 0)),.p (.im (.slice none 0 0))] (by decide) (by decide) (by exact rfl) (by exact rfl) (by exact rfl) (by decide)).trans ((au.pX (by exact hC) _ 103 6 [.p (.sl (a.coppers.map rr)),.p (aj a.outline),.p (.sl (a.bores.map bc)),.p (.sl (a.lands.map lc)),.ow 90000,.ow 90001,.p (.im (.slice none 0 0)),.p (.im (.slice none 0 0)),.p (.im (.slice none 0 0)),.p (.im (.slice none 0 0)),.p (.im (.slice none 0 0)),.p (.im (.slice none 0 0))] (by exact rfl) (by exact rfl)).trans ((au.aeK (by exact hC) _ 103 6 90002 71 _ [.p (.sl (a.coppers.map rr)),.p (aj a.outline),.p (.sl (a.bores.map bc)),.p (.sl (a.lands.map lc)),.ow 90000,.ow 90001,.nl,.p (.im (.slice none 0 0)),.p (.im (.slice none 0 0)),.p (.im (.slice none 0 0)),.p (.im (.slice none 0 0)),.p (.im (.slice none 0 0))] (by decide) (by decide) (by exact rfl) (by exact rfl) (by exact rfl) (by decide)).trans ((au.pX (by exact hC) _ 103 7 [.p (.sl (a.coppers.map rr)),.p (aj a.outline),.p (.sl (a.bores.map bc)),.p (.sl (a.lands.map lc)),.ow 90000,.ow 90001,.ow 90002,.p (.im (.slice none 0 0)),.p (.im (.slice none 0 0)),.p (.im (.slice none 0 0)),.p (.im (.slice none 0 0)),.p (.im (.slice none 0 0))] (by exact rfl) (by exact rfl)).trans ((au.aeK (by exact hC) _ 103 7 90003 142 _ [.p (.sl (a.coppers.map rr)),.p (aj a.outline),.p (.sl (a.bores.map bc)),.p (.sl (a.lands.map lc)),.ow 90000,.ow 90001,.ow 90002,.nl,.p (.im (.slice none 0 0)),.p (.im (.slice none 0 0)),.p (.im (.slice none 0 0)),.p (.im (.slice none 0 0))] (by decide) (by decide) (by exact rfl) (by exact rfl) (by exact rfl) (by decide)).trans ((au.pX (by exact hC) _ 103 8 [.p (.sl (a.coppers.map rr)),.p (aj a.outline),.p (.sl (a.bores.map bc)),.p (.sl (a.lands.map lc)),.ow 90000,.ow 90001,.ow 90002,.ow 90003,.p (.im (.slice none 0 0)),.p (.im (.slice none 0 0)),.p (.im (.slice none 0 0)),.p (.im (.slice none 0 0))] (by exact rfl) (by exact rfl)).trans ((au.aeK (by exact hC) _ 103 8 90004 3 _ [.p (.sl (a.coppers.map rr)),.p (aj a.outline),.p (.sl (a.bores.map bc)),.p (.sl (a.lands.map lc)),.ow 90000,.ow 90001,.ow 90002,.ow 90003,.nl,.p (.im (.slice none 0 0)),.p (.im (.slice none 0 0)),.p (.im (.slice none 0 0))] (by decide) (by decide) (by exact rfl) (by exact rfl) (by exact rfl) (by decide)).trans ((au.pX (by exact hC) _ 103 9 [.p (.sl (a.coppers.map rr)),.p (aj a.outline),.p (.sl (a.bores.map bc)),.p (.sl (a.lands.map lc)),.ow 90000,.ow 90001,.ow 90002,.ow 90003,.ow 90004,.p (.im (.slice none 0 0)),.p (.im (.slice none 0 0)),.p (.im (.slice none 0 0))] (by exact rfl) (by exact rfl)).trans ((au.aeK (by exact hC) _ 103 9 90005 3 _ [.p (.sl (a.coppers.map rr)),.p (aj a.outline),.p (.sl (a.bores.map bc)),.p (.sl (a.lands.map lc)),.ow 90000,.ow 90001,.ow 90002,.ow 90003,.ow 90004,.nl,.p (.im (.slice none 0 0)),.p (.im (.slice none 0 0))] (by decide) (by decide) (by exact rfl) (by exact rfl) (by exact rfl) (by decide)).trans ((au.pX (by exact hC) _ 103 10 [.p (.sl (a.coppers.map rr)),.p (aj a.outline),.p (.sl (a.bores.map bc)),.p (.sl (a.lands.map lc)),.ow 90000,.ow 90001,.ow 90002,.ow 90003,.ow 90004,.ow 90005,.p (.im (.slice none 0 0)),.p (.im (.slice none 0 0))] (by exact rfl) (by exact rfl)).trans ((au.aeK (by exact hC) _ 103 10 90006 3 _ [.p (.sl (a.coppers.map rr)),.p (aj a.outline),.p (.sl (a.bores.map bc)),.p (.sl (a.lands.map lc)),.ow 90000,.ow 90001,.ow 90002,.ow 90003,.ow 90004,.ow 90005,.nl,.p (.im (.slice none 0 0))] (by decide) (by decide) (by exact rfl) (by exact rfl) (by exact rfl) (by decide)).trans ((au.pX (by exact hC) _ 103 11 [.p (.sl (a.coppers.map rr)),.p (aj a.outline),.p (.sl (a.bores.map bc)),.p (.sl (a.lands.map lc)),.ow 90000,.ow 90001,.ow 90002,.ow 90003,.ow 90004,.ow 90005,.ow 90006,.p (.im (.slice none 0 0))] (by exact rfl) (by exact rfl)).trans ((au.aeK (by exact hC) _ 103 11 90007 174 _ [.p (.sl (a.coppers.map rr)),.p (aj a.outline),.p (.sl (a.bores.map bc)),.p (.sl (a.lands.map lc)),.ow 90000,.ow 90001,.ow 90002,.ow 90003,.ow 90004,.ow 90005,.ow 90006,.nl] (by decide) (by decide) (by exact rfl) (by exact rfl) (by exact rfl) (by decide)).trans (au.pack (by exact hC) _ 103 (bs:=[.p (.sl (a.coppers.map rr)),.p (aj a.outline),.p (.sl (a.bores.map bc)),.p (.sl (a.lands.map lc)),.ow 90000,.ow 90001,.ow 90002,.ow 90003,.ow 90004,.ow 90005,.ow 90006,.ow 90007]) (cs:=[.p (.sl (a.coppers.map rr)),.p (aj a.outline),.p (.sl (a.bores.map bc)),.p (.sl (a.lands.map lc)),.row 59 [],.row 76 [],.row 71 [],.row 142 [],.row 3 [],.row 3 [],.row 3 [],.row 174 []]) (by exact rfl) (by exact rfl) (by exact⟨Z,Z,Z,Z,Z,Z,Z,Z,Z,Z,Z,Z,Y⟩)))))))))))))))))) ?_;have ha:iD a:=by
  refine⟨⟨by omega,by omega⟩,Reg.jo I,D,zA,Sq,?_⟩;unfold c8 at L;split at L
  ·cases L
  omega
 refine⟨_,_,(Dj a ha),iW ?_ ?_⟩<;>intro V
 ·rw[aaa (by simpa using V)]at z;refine⟨?_,trivial⟩;rw[z];rfl
 rw[aap (by simpa using V)]at z;have V:eG a=true:=by simpa using V
 simp only[eG,aaZ,aaH]at V;have Q9:∀p∈Reg.bG a.bores 0 a.coppers,(told p.set).length<=4398046511104:=fun p hp=>by
  obtain⟨i,r,R,h2,h3⟩:=Reg.mH hp;have dr:=jV (fun b hb=>ky (Sq b hb)) zA (0+(i:Int)) (Reg.jo I r (aad R));obtain⟨p1,_,_,p3⟩:=Reg.rD dr.sok h3;exact Reg.fj p1 ((p3 _ dr.ink).up (by omega))
 have Yh:=zE a ha ((Reg.gO a.bores 0 a.coppers).map fun s=>[aw s]) (Reg.bG a.bores 0 a.coppers) (Reg.bB a.bores (Reg.bG a.bores 0 a.coppers)) (by omega) Q9 (aej _) _ rfl _ _ rfl _ rfl (fun x N p hp=>by
  obtain⟨b,_,rfl⟩:=adS.1 N;have:=Reg.rE b _ 0 p hp;omega) (fun x N=>by
  obtain⟨b,_,rfl⟩:=adS.1 N;have:=Reg.sU b (Reg.bG a.bores 0 a.coppers) 0;omega)
 refine⟨_,_,(Dk a ha _ _ (by omega) Q9),_,_,Yh,?_⟩;refine qy ((au.open (by exact hC) _ 103 [90000,90001,90002,90003,90004,90005,90006,90007] (cs:=[.p (.sl (a.coppers.map rr)),.p (aj a.outline),.p (.sl (a.bores.map bc)),.p (.sl (a.lands.map lc)),.row 59 ((aC a).drilled.map fun s=>[aw s]),.row 76 ((aC a).pieces.map jb),.row 71 ((aC a).bB.map fun l=>[ints l]),.row 142 ((aC a).placed.groups.map sT),.row 3 (aA (aC a).ofPiece),.row 3 (aA (aC a).ofBore),.row 3 (aA (aC a).placed.ofLand),.row 174 ((aC a).placed.atLand.map je)]) (by exact rfl) rfl rfl rfl).trans ((au.fB (by exact hC) _ 103 4 90000 59 ((aC a).drilled.map fun s=>[aw s]) [.p (.sl (a.coppers.map rr)),.p (aj a.outline),.p (.sl (a.bores.map bc)),.p (.sl (a.lands.map lc)),.ow 90000,.ow 90001,.ow 90002,.ow 90003,.ow 90004,.ow 90005,.ow 90006,.ow 90007] (by decide) (by exact rfl) (by exact rfl) (by exact rfl)).trans ((au.fB (by exact hC) _ 103 5 90001 76 ((aC a).pieces.map jb) [.p (.sl (a.coppers.map rr)),.p (aj a.outline),.p (.sl (a.bores.map bc)),.p (.sl (a.lands.map lc)),.p (.sl ((aC a).drilled.map fun s=>[aw s])),.ow 90001,.ow 90002,.ow 90003,.ow 90004,.ow 90005,.ow 90006,.ow 90007] (by decide) (by exact rfl) (by exact rfl) (by exact rfl)).trans ((au.fB (by exact hC) _ 103 6 90002 71 ((aC a).bB.map fun l=>[ints l]) [.p (.sl (a.coppers.map rr)),.p (aj a.outline),.p (.sl (a.bores.map bc)),.p (.sl (a.lands.map lc)),.p (.sl ((aC a).drilled.map fun s=>[aw s])),.p (.sl ((aC a).pieces.map jb)),.ow 90002,.ow 90003,.ow 90004,.ow 90005,.ow 90006,.ow 90007] (by decide) (by exact rfl) (by exact rfl) (by exact rfl)).trans ((au.fB (by exact hC) _ 103 7 90003 142 ((aC a).placed.groups.map sT) [.p (.sl (a.coppers.map rr)),.p (aj a.outline),.p (.sl (a.bores.map bc)),.p (.sl (a.lands.map lc)),.p (.sl ((aC a).drilled.map fun s=>[aw s])),.p (.sl ((aC a).pieces.map jb)),.p (.sl ((aC a).bB.map fun l=>[ints l])),.ow 90003,.ow 90004,.ow 90005,.ow 90006,.ow 90007] (by decide) (by exact rfl) (by exact rfl) (by exact rfl)).trans ((au.fB (by exact hC) _ 103 8 90004 3 (aA (aC a).ofPiece) [.p (.sl (a.coppers.map rr)),.p (aj a.outline),.p (.sl (a.bores.map bc)),.p (.sl (a.lands.map lc)),.p (.sl ((aC a).drilled.map fun s=>[aw s])),.p (.sl ((aC a).pieces.map jb)),.p (.sl ((aC a).bB.map fun l=>[ints l])),.p (.sl ((aC a).placed.groups.map sT)),.ow 90004,.ow 90005,.ow 90006,.ow 90007] (by decide) (by exact rfl) (by exact rfl) (by exact rfl)).trans ((au.fB (by exact hC) _ 103 9 90005 3 (aA (aC a).ofBore) [.p (.sl (a.coppers.map rr)),.p (aj a.outline),.p (.sl (a.bores.map bc)),.p (.sl (a.lands.map lc)),.p (.sl ((aC a).drilled.map fun s=>[aw s])),.p (.sl ((aC a).pieces.map jb)),.p (.sl ((aC a).bB.map fun l=>[ints l])),.p (.sl ((aC a).placed.groups.map sT)),.p (.sl (aA (aC a).ofPiece)),.ow 90005,.ow 90006,.ow 90007] (by decide) (by exact rfl) (by exact rfl) (by exact rfl)).trans ((au.fB (by exact hC) _ 103 10 90006 3 (aA (aC a).placed.ofLand) [.p (.sl (a.coppers.map rr)),.p (aj a.outline),.p (.sl (a.bores.map bc)),.p (.sl (a.lands.map lc)),.p (.sl ((aC a).drilled.map fun s=>[aw s])),.p (.sl ((aC a).pieces.map jb)),.p (.sl ((aC a).bB.map fun l=>[ints l])),.p (.sl ((aC a).placed.groups.map sT)),.p (.sl (aA (aC a).ofPiece)),.p (.sl (aA (aC a).ofBore)),.ow 90006,.ow 90007] (by decide) (by exact rfl) (by exact rfl) (by exact rfl)).trans (au.fB (by exact hC) _ 103 11 90007 174 ((aC a).placed.atLand.map je) [.p (.sl (a.coppers.map rr)),.p (aj a.outline),.p (.sl (a.bores.map bc)),.p (.sl (a.lands.map lc)),.p (.sl ((aC a).drilled.map fun s=>[aw s])),.p (.sl ((aC a).pieces.map jb)),.p (.sl ((aC a).bB.map fun l=>[ints l])),.p (.sl ((aC a).placed.groups.map sT)),.p (.sl (aA (aC a).ofPiece)),.p (.sl (aA (aC a).ofBore)),.p (.sl (aA (aC a).placed.ofLand)),.ow 90007] (by decide) (by exact rfl) (by exact rfl) (by exact rfl)))))))))) ?_;exact And.intro (by rw[z,aap rfl];rfl) trivial
def jq:List an->Int×Int
 | []=>(0,0)
 | b::_=>((b.xs.headD (0,0)).1,b.y0)
def gn(h:Int->Bool):Nat->Int->Int->Int
 | 0,low,_=>low
 | n+1,low,high=>if low<high then (if h (low+(high-low+1).tdiv 2)=true then gn h n (low+(high-low+1).tdiv 2) high else gn h n low (low+(high-low+1).tdiv 2-1)) else low
def dL(h:Int->Bool)(cx:Int):Int:=gn h (cx+1).toNat (-1) cx
theorem pA{d:Int}(h:0<d):0<(d+1).tdiv 2/\(d+1).tdiv 2<=d:=by
 rw[abk (by omega)];omega
theorem nB(h:Int->Bool){n:Nat}{low high:Int}(hl:low<high)(hn:(high-low).toNat<=n):
  gn h n low high=if h (low+(high-low+1).tdiv 2)=true then gn h (n-1) (low+(high-low+1).tdiv 2) high else gn h (n-1) low (low+(high-low+1).tdiv 2-1):=by
 obtain⟨m,rfl⟩:∃m,n=m+1:=⟨n-1,by omega⟩;rw[gn,aap hl];rfl
theorem pB(h:Int->Bool){n:Nat}{low high:Int}(hl:¬low<high):gn h n low high=low:=by
 cases n with
 | zero=>rfl
 | succ n=>rw[gn,aaa hl]
theorem pC(h:Int->Bool):∀(n:Nat) (low high:Int),(high-low).toNat<=n->low<=high ->
  low<=gn h n low high/\gn h n low high<=high/\(gn h n low high=low\/h (gn h n low high)=true)/\(gn h n low high=high\/h (gn h n low high+1)=false)
 | 0,low,high,hn,hl=>by
  have:low=high:=by omega
  subst this;exact⟨acP _,acP _,.inl rfl,.inl rfl⟩
 | n+1,low,high,hn,hl=>by
  by_cases g:low<high
  ·obtain⟨m,L⟩:∃m,m=low+(high-low+1).tdiv 2:=⟨_,rfl⟩;have hf:=pA (d:=high-low) (by omega);rw[nB h g hn,<-L,Nat.add_sub_cancel];by_cases k:h m=true
   ·rw[aap k];obtain⟨I,J,z,D⟩:=pC h n m high (by omega) (by omega);refine⟨by omega,J,?_,D⟩;rcases z with e | e
    ·exact .inr (by rw[e];exact k)
    exact .inr e
   rw[aaa k];obtain⟨I,J,z,D⟩:=pC h n low (m-1) (by omega) (by omega);refine⟨I,by omega,z,?_⟩;rcases D with e | e
   ·refine .inr ?_;rw[e,Int.sub_add_cancel];simpa using k
   exact .inr e
  rw[pB h g];have:low=high:=by omega
  exact⟨acP _,hl,.inl rfl,.inl this⟩
theorem HD{h:Int->Bool}{z:Int}(h0:0<=z)(N:h z=false):-1<=dL h z/\dL h z<z/\(dL h z=-1\/h (dL h z)=true)/\h (dL h z+1)=false:=by
 obtain⟨I,L,D,J⟩:=pC h (z+1).toNat (-1) z (by omega) (by omega);have I:-1<=dL h z:=I;have L:dL h z<=z:=L;have D:dL h z=-1\/h (dL h z)=true:=D;have J:dL h z=z\/h (dL h z+1)=false:=J;have ne:dL h z≠z:=fun e=>by
  rcases D with e' | e'
  ·omega
  rw[e,N]at e';cases e'
 refine⟨I,by omega,D,?_⟩;rcases J with e | e
 ·exact absurd e ne
 exact e
open Reg (BR through afd E1 bN uo nM a_ coreS at')
structure Break where
 kind:Int
 a:Int
 b:Int
 is:Int
 need:Int
 spot:Int×Int
def aft(nets:List ByteArray)(g:Int):ByteArray:=nets.getD g.toNat M4
def aff(r:cP)(B:BR)(nets:List ByteArray)(i k:Nat)(p q:Piece):List Break:=
 if B.ofPiece.getD i 0=B.ofPiece.getD k 0 then [] else
 if (afd (told p.set) (told q.set)).dist<aeZ r (aft nets (B.ofPiece.getD i 0)) (aft nets (B.ofPiece.getD k 0)) p.layer (afd (told p.set) (told q.set)).src.1 (afd (told p.set) (told q.set)).src.2 then
  [⟨1,i,k,(afd (told p.set) (told q.set)).dist,aeZ r (aft nets (B.ofPiece.getD i 0)) (aft nets (B.ofPiece.getD k 0)) p.layer (afd (told p.set) (told q.set)).src.1 (afd (told p.set) (told q.set)).src.2,(afd (told p.set) (told q.set)).src⟩]
 else []
def aeX(r:cP)(B:BR)(nets:List ByteArray)(i:Nat)(p:Piece):Nat->List Piece->List Break
 | _,[]=>[]
 | k,q::t=>if q.layer=p.layer then aff r B nets i k p q++aeX r B nets i p (k+1) t else []
def aeE(r:cP)(B:BR)(nets:List ByteArray):Nat->List Piece->List Break
 | _,[]=>[]
 | i,p::t=>aeX r B nets i p (i+1) t++aeE r B nets (i+1) t
def afq(r:cP)(B:BR)(nets:List ByteArray)(i:Nat)(p:Piece):List Break:=
 if E1 p.set (E3 r (aft nets (B.ofPiece.getD i 0)))=[] then [] else
  [⟨2,i,0,dL (fun n=>decide (E1 p.set n=[])) (E3 r (aft nets (B.ofPiece.getD i 0))),E3 r (aft nets (B.ofPiece.getD i 0)),jq (E1 p.set (E3 r (aft nets (B.ofPiece.getD i 0))))⟩]
def aew(r:cP)(B:BR)(nets:List ByteArray):Nat->List Piece->List Break
 | _,[]=>[]
 | i,p::t=>afq r B nets i p++aew r B nets (i+1) t
def qP(x:aS):List an:=uo (a_ (aB [aa x]) 1 1 0 0) (a_ (aB [aa x]) 0 0 1 1)
def dM(bs:List aS)(i:Nat)(layer:Int):Nat->List aS->List an->List an
 | _,[],s=>s
 | k,y::t,s=>dM bs i layer (k+1) t (if k≠i/\through y layer=true then uo s (aB [aa y]) else s)
def fF(bs:List aS)(cs:List (List ae))(i:Nat)(layer:Int):List an:=dM bs i layer 0 bs (aB (cs.getD layer.toNat []))
def jr(own c:List an)(n:Int):List an:=bN (bN (a_ own n n n n) own) c
def lS(g:Int)(bs:List aS)(cs:List (List ae))(i:Nat)(x:aS)(layer:Int):List Break:=
 if nM (aB (cs.getD layer.toNat [])) (qP x)=[] then [] else
 if jr (aB [aa x]) (fF bs cs i layer) g=[] then [] else
  [⟨3,i,layer,dL (fun n=>decide (n<0)||decide (jr (aB [aa x]) (fF bs cs i layer) n=[])) g,g,jq (jr (aB [aa x]) (fF bs cs i layer) g)⟩]
def js(g:Int)(bs:List aS)(cs:List (List ae))(i:Nat)(x:aS):Nat->Int->List Break
 | 0,_=>[]
 | n+1,layer=>if x.plated=true/\layer<=x.hi then lS g bs cs i x layer++js g bs cs i x n (layer+1) else []
def fG(g:Int)(bs:List aS)(cs:List (List ae)):Nat->List aS->List Break
 | _,[]=>[]
 | i,x::t=>js g bs cs i x (x.hi+1-x.lo).toNat x.lo++fG g bs cs (i+1) t
def Dm(g:Int)(o:List an)(i:Nat)(p:Piece):List Break:=
 if bN p.set (coreS o g g g g)=[] then [] else
  [⟨4,i,0,dL (fun n=>decide (bN p.set (coreS o n n n n)=[])) g,g,jq (bN p.set (coreS o g g g g))⟩]
def gQ(g:Int)(o:List an):Nat->List Piece->List Break
 | _,[]=>[]
 | i,p::t=>Dm g o i p++gQ g o (i+1) t
def Dn(g:Int)(i k:Nat)(x y:aS):List Break:=
 if y.hi<x.lo\/x.hi<y.lo then [] else
 if fT (aa x) (aa y)-1<g then [⟨5,i,k,fT (aa x) (aa y)-1,g,((aa x).x0,(aa x).y0)⟩] else []
def nC(g:Int)(i:Nat)(x:aS):Nat->List aS->List Break
 | _,[]=>[]
 | k,y::t=>Dn g i k x y++nC g i x (k+1) t
def fY(g:Int):Nat->List aS->List Break
 | _,[]=>[]
 | i,x::t=>nC g i x (i+1) t++fY g (i+1) t
def afI(r:cP)(a:fS)(nets:List ByteArray):List Break:=
 aeE r (aC a) nets 0 (aC a).pieces++(aew r (aC a) nets 0 (aC a).pieces++(fG r.ring a.bores a.coppers 0 a.bores++(gQ r.edge (aB a.outline) 0 (aC a).pieces++fY r.holeGap 0 a.bores)))
def mI(l:List Break):List Break×Int:=if 5000<l.length then ([],2) else (l,0)
def aeJ(r:cP)(a:fS)(nets:List ByteArray):Int:=
 if bC r≠0 then bC r else
 if dc a≠0 then dc a else
 if nets.length≠(aC a).placed.groups.length then 3 else
 if (nets.any fun s=>!afe s)=true then 5 else 0
def af2(r:cP)(a:fS)(nets:List ByteArray):List Break×Int:=if aeJ r a nets=0 then mI (afI r a nets) else ([],aeJ r a nets)
end M
namespace Reg
theorem nD{y:Int}:∀{s:List an},bE s->∀{b c:an},b∈s->c∈s->b.y0<=y->y<b.y1->c.y0<=y->y<c.y1->b=c
 | [],_,b,c,hb,_,_,_,_,_=>by cases hb
 | d::s,h,b,c,hb,hc,L,N,c1,c2=>by
  rcases adq.1 hb with J | D
  ·rcases adq.1 hc with I | z
   ·rw[J,I]
   have:=h.fM c z;subst J;omega
  rcases adq.1 hc with I | z
  ·have:=h.fM b D;subst I;omega
  exact nD h.tail D z L N c1 c2
theorem wS{x:Int}:∀{s:aU},Canon s->∀{p q:Int×Int},p∈s->q∈s->p.1<=x->x<p.2->q.1<=x->x<q.2->p=q
 | [],_,p,q,hp,_,_,_,_,_=>by cases hp
 | d::s,h,p,q,hp,hq,J,L,q1,N=>by
  rcases adq.1 hp with I | D
  ·rcases adq.1 hq with eq | z
   ·rw[I,eq]
   have:=h.behind q z;subst I;omega
  rcases adq.1 hq with eq | z
  ·have:=h.behind p D;subst eq;omega
  exact wS h.tail D z J L q1 N
variable {s:List an}
theorem HE(h:bE s){x y:Int}{a b:ae}(D:a∈told s)(hb:b∈told s)(I:dE x y a=true)(J:dE x y b=true):a=b:=by
 obtain⟨c,z,p,hp,rfl⟩:=gf.1 D;obtain⟨d,L,q,N,rfl⟩:=gf.1 hb;obtain⟨O,R,U,V⟩:=aQ.1 I;obtain⟨W,Y,Z,b4⟩:=aQ.1 J;have e:=nD h z L U V Z b4;subst e;have e:=wS (h.mem c z).can hp N O R W Y;subst e;rfl
theorem HF(h:bE s):(told s).Nodup:=by
 rw[aed];refine (pk h).imp fun {a b} z e=>?_;have:=gN.1 z;subst e;omega
theorem vN(h:bE s){l:List ae}(hl:∀r∈l,r∈told s):(told (aB l)).length<=l.length:=by
 obtain⟨I,L,_⟩:=aR fun r J=>bP h r (hl r J);have hn:((told (aB l)).map fun q=>(q.y0,q.x0)).Nodup:=by
  rw[aed,abe];refine (pk I).imp fun {a b} qb e=>?_;have:=gN.1 qb;simp only[Prod.mk.injEq]at e;omega
 have:=uy (m:=l.map fun q=>(q.y0,q.x0)) hn fun z hz=>by
  obtain⟨q,hq,rfl⟩:=adS.1 hz;obtain⟨b,hb,p,hp,rfl⟩:=gf.1 hq;have D:=I.mem b hb;have V:at' (aB l) p.1 b.y0=true:=by
   rw[Dh I hb (acP _) D.lt,cu D.can];exact⟨p,hp,acP _,ga D.can p hp⟩
  rw[L,aci]at V;obtain⟨r,J,hx⟩:=V;have Yi:=hl r J;obtain⟨c,W,t,ht,rfl⟩:=gf.1 Yi;obtain⟨x1,x2,Y,Z⟩:=aQ.1 hx;simp only at x1 x2 Y Z;have e1:t.1=p.1:=by
   refine acz fun b8=>?_;have:at' (aB l) (p.1-1) b.y0=true:=by
    rw[L,aci];exact⟨_,J,aQ.2 ⟨by simp only;omega,by simp only;omega,Y,Z⟩⟩
   rw[Dh I hb (acP _) D.lt,cu D.can]at this;exact sS D.can hp this
  have e2:c.y0=b.y0:=by
   refine acz fun b8=>?_;obtain⟨x,Yj⟩:=BN I hb;refine Yj ?_;rw[L,L];refine oy fun r' m_=>?_;obtain⟨d,hd,u,hu,rfl⟩:=gf.1 (hl r' m_);rw[abb,aQ,aQ];simp only;constructor
   ·rintro⟨N,O,R,U⟩;have:=nD h hd W R U (by omega) (by omega);subst this;exact⟨N,O,by omega,by omega⟩
   rintro⟨N,O,R,U⟩;have:=nD h hd W R U (by omega) (by omega);subst this;exact⟨N,O,by omega,by omega⟩
  exact adS.2 ⟨_,J,by simp only[e1,e2]⟩
 rw[aej,aej]at this;exact this
theorem Fq{l:List ae}{m:Nat}(h:m<l.length):l[m]?=some (l.getD m bg):=by
 rw[ad4,acg h];rfl
theorem zF(p:Nat->Nat)(i r:Nat):(dh p i r).Nodup:=adK acf List.nodup_range
theorem BT{α:Type}:∀{l:List α},l.Nodup->∀{a b:Nat} {x:α},l[a]?=some x->l[b]?=some x->a=b
 | [],_,a,b,x,ha,_=>by simp at ha
 | y::l,h,a,b,x,ha,hb=>by
  have h':=aai.1 h;cases a with
  | zero=>
   cases b with
   | zero=>rfl
   | succ b=>
    have e:=Option.some.inj ha;exact absurd (by rw[e];exact aad (by simpa using hb)) h'.1
  | succ a=>
   cases b with
   | zero=>
    have e:=Option.some.inj hb;exact absurd (by rw[e];exact aad (by simpa using ha)) h'.1
   | succ b=>rw[BT h'.2 (a:=a) (b:=b) (by simpa using ha) (by simpa using hb)]
theorem KS(h:bE s){a b:Nat}{l m:List ae}(z:(ox s)[a]?=some l)(hb:(ox s)[b]?=some m)(Z:a≠b):
  l.length+m.length<=(told s).length/\∀r∈l,∀q∈m,∀x y,¬(dE x y r=true/\dE x y q=true):=by
 obtain⟨u1,u2⟩:=zv s;rw[ox,aak,aP,aak]at z hb;cases D:(cd (cQ (jE s)) (told s).length)[a]? with
 | none=>rw[D]at z;cases z
 | some L=>
  cases I:(cd (cQ (jE s)) (told s).length)[b]? with
  | none=>rw[I]at hb;cases hb
  | some N=>
   rw[D]at z;rw[I]at hb;have z:=(Option.some.inj z).symm;have hb:=(Option.some.inj hb).symm;have hk:L≠N:=fun e=>by
    subst e;exact Z (zn (afh _ _) D I)
   have hd:(dh (cQ (jE s)) (told s).length L++dh (cQ (jE s)) (told s).length N).Nodup:=by
    rw[aef];refine⟨zF _ _ _,zF _ _ _,fun i hi j J e=>?_⟩;subst e;exact hk ((dx.1 hi).2.symm.trans (dx.1 J).2)
   have:=uy (m:=List.range (told s).length) hd fun i hi=>by
    rw[abD];rcases abi.1 hi with hi | hi
    ·exact (dx.1 hi).1
    exact (dx.1 hi).1
   rw[acv,abV]at this;refine⟨by rw[z,hb,aej,aej];exact this,fun r O q R x y U=>?_⟩;rw[z]at O;rw[hb]at R;obtain⟨i,hi,rfl⟩:=adS.1 O;obtain⟨j,J,rfl⟩:=adS.1 R;obtain⟨V,i2⟩:=dx.1 hi;obtain⟨W,j2⟩:=dx.1 J;have e:=HE h (vK V) (vK W) U.1 U.2;have Y:=Fq V;have Lw:=Fq W;rw[e]at Y;have:=BT (HF h) Y Lw;subst this;exact hk (i2.symm.trans j2)
theorem NG{a:Nat}{l:List ae}(z:(ox s)[a]?=some l):l.length<=(told s).length:=by
 rw[ox,aak,aP,aak]at z;cases D:(cd (cQ (jE s)) (told s).length)[a]? with
 | none=>rw[D]at z;cases z
 | some ka=>
  rw[D]at z;have z:=(Option.some.inj z).symm;rw[z,aej];exact qJ _ _ _
variable {bs:List aS}
theorem HG{p q:Piece}(J:p.layer=q.layer)(l:List (List ae)):∀(k:Int) (i j:Nat),(bG bs k l)[i]?=some p->(bG bs k l)[j]?=some q->i<j ->
  ∃(n:Nat) (r:List ae) (a b:Nat),l[n]?=some r/\a<b/\(cV (bU bs (k+n) r))[a]?=some p.set/\(cV (bU bs (k+n) r))[b]?=some q.set:=by
 induction l with
 | nil=>intro k i j hp;rw[bG]at hp;cases hp
 | cons r l ih=>
  intro k i j hp D O;rw[bG]at hp D;obtain⟨S,hS⟩:∃S,S=cV (bU bs k r):=⟨_,rfl⟩;rw[<-hS]at hp D;by_cases c:j<S.length
  ·rw[aaE (by rw[aej];omega),aak]at hp D;cases I:S[i]? with
   | none=>rw[I]at hp;cases hp
   | some s=>
    cases eq:S[j]? with
    | none=>rw[eq]at D;cases D
    | some t=>
     rw[I]at hp;rw[eq]at D;have hp:=Option.some.inj hp;have D:=Option.some.inj D;have z:k+((0:Nat):Int)=k:=by omega
     refine⟨0,r,i,j,rfl,O,?_,?_⟩
     ·rw[z,<-hS,I,<-hp]
     rw[z,<-hS,eq,<-D]
  rw[acu (by rw[aej];omega)]at D;obtain⟨n,r',L,N,_⟩:=mH (aad D);by_cases d:i<S.length
  ·rw[aaE (by rw[aej];omega),aak]at hp;cases I:S[i]? with
   | none=>rw[I]at hp;cases hp
   | some s=>
    rw[I]at hp;have hp:=Option.some.inj hp;rw[<-hp]at J;simp only at J;omega
  rw[acu (by rw[aej];omega)]at hp;obtain⟨n,r',a,b,L,N,R,U⟩:=ih (k+1) _ _ hp D (by rw[aej];omega);have e:k+((n+1:Nat):Int)=k+1+(n:Int):=by omega
  exact⟨n+1,r',a,b,by simpa using L,N,by rw[e];exact R,by rw[e];exact U⟩
theorem xR:∀{l:List (List ae)} {k:Int},qL bs k l=true->∀(n:Nat) r,l[n]?=some r->(told (bU bs (k+n) r)).length<=2000
 | [],k,_,n,r,h=>by simp at h
 | q::l,k,hf,n,r,h=>by
  rw[qL,aaZ,aaH]at hf;cases n with
  | zero=>
   have:=Option.some.inj h;subst this;simpa using hf.1
  | succ n=>
   have:=xR hf.2 n r (by simpa using h);have e:k+((n+1:Nat):Int)=k+1+(n:Int):=by omega
   rw[e];exact this
structure O7(p q:Piece):Prop where
 jB:(told p.set).length+(told q.set).length<=2000
 apart:∀x y,¬(at' p.set x y=true/\at' q.set x y=true)
theorem PR{l:List (List ae)}{k:Int}{i j:Nat}{p q:Piece}(Y:∀(n:Nat) r,l[n]?=some r->bE (bU bs (k+n) r))(Z:qL bs k l=true)(hp:(bG bs k l)[i]?=some p)(hq:(bG bs k l)[j]?=some q)(DX:i<j)(he:p.layer=q.layer):O7 p q:=by
 obtain⟨n,r,a,b,R,h2,z,D⟩:=HG he _ _ _ _ hp hq DX;have I:=Y n r R;have zA:=xR Z n r R;rw[cV,aak]at z D;cases J:(ox (bU bs (k+n) r))[a]? with
 | none=>rw[J]at z;cases z
 | some x=>
  cases L:(ox (bU bs (k+n) r))[b]? with
  | none=>rw[L]at D;cases D
  | some y=>
   rw[J]at z;rw[L]at D;have z:=Option.some.inj z;have D:=Option.some.inj D;obtain⟨c1,c2⟩:=KS I J L (by omega);have U:=(afp (aad J)).2;have V:=(afp (aad L)).2;have sx:=vN I U;have sy:=vN I V;obtain⟨_,bx,_⟩:=aR fun r N=>bP I r (U r N);obtain⟨_,O,_⟩:=aR fun r N=>bP I r (V r N);refine⟨by rw[<-z,<-D];omega,fun u v W=>?_⟩;rw[<-z,<-D,bx,O,aci,aci]at W;obtain⟨⟨r1,m1,e1⟩,r2,m2,e2⟩:=W;exact c2 r1 m1 r2 m2 u v ⟨e1,e2⟩
end Reg
end Go.Proofs.YtfloceomobknoaaGreatDoor
