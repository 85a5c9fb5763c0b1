/- Part 8 of the proof of RulesRoomMatchSpec. -/
import Derived.Test.YtfloceomobknoaaGreatDoorR07
import Derived.Lib.AppendIntMem
import Derived.Lib.ItoaLen
set_option linter.unusedVariables false
set_option linter.unusedSimpArgs false
set_option maxRecDepth 100000
set_option maxHeartbeats 8000000
namespace Go
abbrev acf:=@List.find?_eq_none
abbrev ac2:=@List.Pairwise.sublist
abbrev aeb:=@List.filter_sublist
abbrev abM:=@List.range_succ
abbrev aec:=@List.getElem?_replicate
abbrev adL:=@List.set_set
end Go
namespace Go.Proofs.YtfloceomobknoaaGreatDoor
namespace M
open Go.AM Go.RowKit Go.Lib
open Reg (ae aU an)
theorem zb(cs:List Class)(L:∀c∈cs,C8 c)(hN:cs.length<=1048576)(i:Nat)(hi:i<cs.length):af C 202 [.pv (.sl (cs.map kl)),.pv (i64 i)] (.p (i64 (b_ cs i))) []:=by
 refine fW hC Tryz.func202 rfl (by kernel_rfl) fun _=>?_;have lm:=ai cs kl;obtain⟨c,V⟩:=ak (l:=cs) (i:=i) hi;obtain⟨o1,o2,o3⟩:=L c (aad V);have cf:b_ cs i=(if iU c.name=true then (if 1000<c.nets.length then 2 else
   if cU (bZ cs i c.nets) 0 c.nets.length=0 then
    (if (cL c.clearance&&cL c.width)=true then (if dH (cs.map Class.name) i=true then 8 else 0) else 1)
   else cU (bZ cs i c.nets) 0 c.nets.length) else 5):=by rw[b_,V]
 have lc:=ai c.nets fun s=>[str s];rw[cf];refine⟨(kl c),(idx rfl V),_,_,(qz c.name (by have:c.name.size<4294967281:=o1;omega)),iW ?_ ?_⟩<;>intro h2
 ·refine⟨?_,trivial⟩;rw[aaa (by simp[h2])];rfl
 rw[aap (by simpa using h2)];apply iW<;>intro h3
 ·refine⟨?_,trivial⟩;rw[aap (by omega)];rfl
 rw[aaa (by omega)];refine aJ (fun j:Nat=>j<=c.nets.length/\∀k,k<j->bZ cs i c.nets k=0) (fun j=>[(0,.p (.sl (cs.map kl))),(1,.p (i64 i)),(5,.bx 5 0),(6,.p (i64 j))]) (fun _=>[(5,.box [.p (str c.name),.p (strs c.nets),.p (i64 c.clearance),.p (i64 c.width)])]) (fun j=>c.nets.length-j) 0 _ (au.refl _ _) ⟨aaj _,fun k h=>by omega⟩ ⟨Z,Z,Z,Z,Y⟩ ⟨Z,Y⟩ fun j hj t h=>?_;obtain⟨p1,p2⟩:=hj;apply iW<;>intro h4
 ·obtain⟨y,J⟩:=ak (l:=c.nets) (i:=j) (by omega);have C9:bZ cs i c.nets j≠0->(if cU (bZ cs i c.nets) 0 c.nets.length=0 then
   (if (cL c.clearance&&cL c.width)=true then (if dH (cs.map Class.name) i=true then 8 else 0) else 1)
   else cU (bZ cs i c.nets) 0 c.nets.length)=bZ cs i c.nets j:=fun hb=>by
   have e:cU (bZ cs i c.nets) 0 c.nets.length=bZ cs i c.nets j:=gY hb (fun k _ hk=>p2 k hk) (aaj _) (by omega);rw[e,aaa hb]
  have D:bZ cs i c.nets j=(if lh y=true then (if dH c.nets j=true then 8 else if seenIn (cs.take i) y=true then 7 else 0) else 5):=by rw[bZ,J]
  refine⟨[str y],(idx rfl J),_,_,(wH y (o3 y (aad J))),iW ?_ ?_⟩<;>intro h5
  ·refine⟨?_,trivial⟩;rw[aaa (by simp[h5])]at D;rw[C9 (by rw[D];decide),D];rfl
  rw[aap (by simpa using h5)]at D;have next:bZ cs i c.nets j=0->∀k,k<j+1->bZ cs i c.nets k=0:=fun N k hk=>by
   by_cases e:k=j
   ·subst e;exact N
   exact p2 k (by omega)
  apply iW<;>intro h6
  ·obtain⟨z,hz⟩:=ak (l:=c.nets) (i:=j-1) (by omega);have O:dH c.nets j=(mO y z||decide (y=z)):=by
    simp only[dH,J,hz];rw[aaA (by omega:0<j)];rfl
   refine⟨[str y],(idx rfl J),wO (by omega),[str z],(idx (show (j:Int)-1=((j-1:Nat):Int) by omega) hz),iW ?_ ?_⟩<;>intro R
   ·refine⟨?_,trivial⟩;have R:(mO y z||decide (y=z))=true:=by simpa [mO] using R
    rw[O,R,aap rfl]at D;rw[C9 (by rw[D];decide),D];rfl
   have R:(mO y z||decide (y=z))=false:=by simpa [mO] using R
   rw[O,R,aaa (by decide)]at D;refine aJ (fun k:Nat=>k<=i/\seenIn (cs.take k) y=false) (fun k=>[(0,.p (.sl (cs.map kl))),(1,.p (i64 i)),(5,.bx 5 0),(6,.p (i64 j)),(7,.p (i64 k))]) (fun _=>[(5,.box [.p (str c.name),.p (strs c.nets),.p (i64 c.clearance),.p (i64 c.width)])]) (fun k=>i-k) 0 _ (au.refl _ _) ⟨aaj _,rfl⟩ ⟨Z,Z,Z,Z,Z,Y⟩ ⟨Z,Y⟩ fun k hk t h=>?_;obtain⟨u1,u2⟩:=hk;apply iW<;>intro h8
   ·obtain⟨d,I⟩:=ak (l:=cs) (i:=k) (by omega);have st:seenIn (cs.take (k+1)) y=hasB d.nets y:=by
     rw[aZ I];unfold seenIn at *;rw[ad9,u2];simp
    refine⟨(kl d),(idx rfl I),[str y],(idx rfl J),_,_,(Eu d.nets y (by have:=(L d (aad I)).2.1;omega)),iW ?_ ?_⟩<;>intro W
    ·have sn:seenIn (cs.take i) y=true:=by
      unfold seenIn;rw[aci];exact⟨d,ab8.2 ⟨k,by rw[aa7,aap (by omega)];exact I⟩,W⟩
     rw[sn,aap rfl]at D;refine⟨?_,trivial⟩;rw[C9 (by rw[D];decide),D];rfl
    exact⟨wO (by omega),(k+1),_,au.refl _ _,⟨by omega,by rw[st];simpa using W⟩,by omega,⟨Z,Z,Z,Z,Z,Y⟩,⟨Z,Y⟩⟩
   have e:k=i:=by omega
   subst e;rw[u2,aaa (by decide)]at D;exact⟨wO (by omega),(j+1),_,au.refl _ _,⟨by omega,next D⟩,by omega,⟨Z,Z,Z,Z,Y⟩,⟨Z,Y⟩⟩
  have N:j=0:=by omega
  have O:dH c.nets j=false:=by
   subst N;simp only[dH,J];rfl
  rw[O,aaa (by decide)]at D;refine aJ (fun k:Nat=>k<=i/\seenIn (cs.take k) y=false) (fun k=>[(0,.p (.sl (cs.map kl))),(1,.p (i64 i)),(5,.bx 5 0),(6,.p (i64 j)),(7,.p (i64 k))]) (fun _=>[(5,.box [.p (str c.name),.p (strs c.nets),.p (i64 c.clearance),.p (i64 c.width)])]) (fun k=>i-k) 0 _ (au.refl _ _) ⟨aaj _,rfl⟩ ⟨Z,Z,Z,Z,Z,Y⟩ ⟨Z,Y⟩ fun k hk t h=>?_;obtain⟨u1,u2⟩:=hk;apply iW<;>intro h8
  ·obtain⟨d,I⟩:=ak (l:=cs) (i:=k) (by omega);have st:seenIn (cs.take (k+1)) y=hasB d.nets y:=by
    rw[aZ I];unfold seenIn at *;rw[ad9,u2];simp
   refine⟨(kl d),(idx rfl I),[str y],(idx rfl J),_,_,(Eu d.nets y (by have:=(L d (aad I)).2.1;omega)),iW ?_ ?_⟩<;>intro W
   ·have sn:seenIn (cs.take i) y=true:=by
     unfold seenIn;rw[aci];exact⟨d,ab8.2 ⟨k,by rw[aa7,aap (by omega)];exact I⟩,W⟩
    rw[sn,aap rfl]at D;refine⟨?_,trivial⟩;rw[C9 (by rw[D];decide),D];rfl
   exact⟨wO (by omega),(k+1),_,au.refl _ _,⟨by omega,by rw[st];simpa using W⟩,by omega,⟨Z,Z,Z,Z,Z,Y⟩,⟨Z,Y⟩⟩
  have e:k=i:=by omega
  subst e;rw[u2,aaa (by decide)]at D;exact⟨wO (by omega),(j+1),_,au.refl _ _,⟨by omega,next D⟩,by omega,⟨Z,Z,Z,Z,Y⟩,⟨Z,Y⟩⟩
 have z0:cU (bZ cs i c.nets) 0 c.nets.length=0:=eZ fun k _ hk=>p2 k (by omega);rw[aap z0];have bn:∀d,cs[i-1]?=some d->0<i->dH (cs.map Class.name) i=(mO c.name d.name||decide (c.name=d.name)):=fun d I N=>by
  simp only[dH,aak,V,I,ab6];rw[aaA N];rfl
 refine⟨_,_,(iT c.clearance),iW ?_ ?_⟩<;>intro g1
 ·refine⟨?_,trivial⟩;rw[aaa (by simp[g1])];rfl
 refine⟨_,_,(iT c.width),iW ?_ ?_⟩<;>intro g2
 ·refine⟨?_,trivial⟩;rw[aaa (by simp[g2])];rfl
 rw[aap (by simp[g1,g2])];apply iW<;>intro g3
 ·obtain⟨d,I⟩:=ak (l:=cs) (i:=i-1) (by omega);refine⟨wO (by omega),(kl d),(idx (show (i:Int)-1=((i-1:Nat):Int) by omega) I),?_⟩;rw[bn d I (by omega)];apply iW<;>intro U
  ·refine⟨?_,trivial⟩;have U:(mO c.name d.name||decide (c.name=d.name))=true:=by simpa [mO] using U
   rw[U];rfl
  have U:(mO c.name d.name||decide (c.name=d.name))=false:=by simpa [mO] using U
  refine⟨?_,trivial⟩;rw[U];rfl
 have N:i=0:=by omega
 have O:dH (cs.map Class.name) i=false:=by
  subst N;simp only[dH,aak,V];rfl
 refine⟨?_,trivial⟩;rw[O];rfl
theorem aiJ(r:cP)(ho:e8 r):af C 130 [.pv (.ag (rl r))] (.p (i64 (bC r))) []:=by
 refine fW hC Tryz.func130 rfl (by kernel_rfl) fun _=>?_;obtain⟨o1,o2,o3⟩:=ho;have lm:=ai r.areas arr;have lc:=ai r.classes kl;refine⟨_,_,(iT r.clearance),iW ?_ ?_⟩<;>intro W
 ·refine⟨?_,trivial⟩;rw[bC,aaa (by simp[gM,W])];rfl
 refine⟨_,_,(iT r.width),iW ?_ ?_⟩<;>intro h2
 ·refine⟨?_,trivial⟩;rw[bC,aaa (by simp[gM,h2])];rfl
 refine⟨_,_,(iT r.ring),iW ?_ ?_⟩<;>intro O
 ·refine⟨?_,trivial⟩;rw[bC,aaa (by simp[gM,O])];rfl
 refine⟨_,_,(iT r.edge),iW ?_ ?_⟩<;>intro N
 ·refine⟨?_,trivial⟩;rw[bC,aaa (by simp[gM,N])];rfl
 refine⟨_,_,(iT r.holeGap),iW ?_ ?_⟩<;>intro D
 ·refine⟨?_,trivial⟩;rw[bC,aaa (by simp[gM,D])];rfl
 rw[bC,aap (by simp[gM,W,h2,O,N,D])];apply iW<;>intro R
 ·refine⟨?_,trivial⟩;rw[show dn r.classes=2 by rw[dn,aap (by omega)]];rfl
 have ce:dn r.classes=cU (b_ r.classes) 0 r.classes.length:=by rw[dn,aaa (by omega)]
 rw[ce];refine aJ (fun i:Nat=>i<=r.classes.length/\∀k,k<i->b_ r.classes k=0) (fun i=>[(1,.bx 1 0),(3,.p (i64 i))]) (fun _=>[(1,.box (C_ r))]) (fun i=>r.classes.length-i) 0 _ (au.refl _ _) ⟨aaj _,fun k h=>by omega⟩ ⟨Z,Z,Y⟩ ⟨Z,Y⟩ fun i hi t h=>?_;obtain⟨q1,I⟩:=hi;apply iW<;>intro U
 ·refine⟨_,_,(zb r.classes o1 o2 i (by omega)),iW ?_ ?_⟩<;>intro J
  ·have J:¬b_ r.classes i=0:=by simpa using J
   have e:=gY (f:=b_ r.classes) (m:=i) J (n:=r.classes.length) (i:=0) (fun k _ hk=>I k hk) (aaj _) (by omega);refine⟨?_,trivial⟩;rw[e,aaa J]
  have J:b_ r.classes i=0:=by simpa using J
  refine⟨wO (by omega),(i+1),_,au.refl _ _,⟨by omega,fun k hk=>?_⟩,by omega,⟨Z,Z,Y⟩,⟨Z,Y⟩⟩;by_cases e:k=i
  ·subst e;exact J
  exact I k (by omega)
 rw[aap (eZ fun k _ hk=>I k (by omega))];apply iW<;>intro h9
 ·refine⟨?_,trivial⟩;rw[iI,aap (by omega)];rfl
 rw[iI,aaa (by omega)];refine aJ (fun i:Nat=>i<=r.areas.length/\(∀k,k<i->cR r.areas k=0)/\ed (r.areas.take i)<=i*1000000) (fun i=>[(1,.bx 1 0),(5,.p (i64 (ed (r.areas.take i)))),(6,.p (i64 i))]) (fun _=>[(1,.box (C_ r))]) (fun i=>r.areas.length-i) 0 _ (au.refl _ _) ⟨aaj _,fun k h=>by omega,by simp[ed]⟩ ⟨Z,Z,Z,Y⟩ ⟨Z,Y⟩ fun i hi t h=>?_;obtain⟨q1,I,q3⟩:=hi;apply iW<;>intro O
 ·obtain⟨a,V⟩:=ak (l:=r.areas) (i:=i) (by omega);have L:cR r.areas i≠0->cU (cR r.areas) 0 r.areas.length=cR r.areas i:=fun hb=>gY hb (fun k _ hk=>I k hk) (aaj _) (by omega);have z:cR r.areas i=(if (decide (-1<=a.layer)&&decide (a.layer<=15))=true then (if Reg.aF a.region=0 then (if cL a.clearance=true then 0 else 1) else Reg.aF a.region) else 1):=by rw[cR,V]
  have la:=ai a.region rc;refine⟨(arr a),(idx rfl V),_,_,(wD a.layer (-1) 15),iW ?_ ?_⟩<;>intro N
  ·refine⟨?_,trivial⟩;rw[aaa (by simpa using N)]at z;rw[L (by rw[z];decide),z];rfl
  rw[aap (by simpa using N)]at z;refine⟨_,_,(kS a.region),iW ?_ ?_⟩<;>intro D
  ·refine⟨?_,trivial⟩;have D:¬Reg.aF a.region=0:=by simpa using D
   rw[aaa D]at z;rw[L (by rw[z];exact D),z,aaa D]
  have D:Reg.aF a.region=0:=by simpa using D
  rw[aap D]at z;have hl:=yY D;refine⟨_,_,(iT a.clearance),iW ?_ ?_⟩<;>intro R
  ·refine⟨?_,trivial⟩;rw[aaa (by simp[R])]at z;rw[L (by rw[z];decide),z];rfl
  rw[aap (by simpa using R)]at z;have s1:ed (r.areas.take (i+1))=ed (r.areas.take i)+a.region.length:=by
   rw[aZ V,wM];simp[ed]
  refine⟨wO (by omega),wO (by omega),(i+1),_,au.refl _ _,⟨by omega,fun k hk=>?_,by omega⟩,by omega,⟨rfl,a8 (by omega),Z,Y⟩,⟨Z,Y⟩⟩;by_cases e:k=i
  ·subst e;exact z
  exact I k (by omega)
 have e:i=r.areas.length:=by omega
 subst e;have z0:cU (cR r.areas) 0 r.areas.length=0:=eZ fun k _ hk=>I k (by omega);rw[aap z0];have tl:r.areas.take r.areas.length=r.areas:=acB;apply iW<;>intro U
 ·refine⟨?_,trivial⟩;rw[tl]at U;rw[aap (by omega)];rfl
 refine⟨?_,trivial⟩;rw[tl]at U;rw[aaa (by omega)];rfl
theorem r9:∀a b:List UInt8,Op.bytesLess a b=true\/a=b\/Op.bytesLess b a=true
 | [],[]=>.inr (.inl rfl)
 | [],y::ys=>.inl rfl
 | x::xs,[]=>.inr (.inr rfl)
 | x::xs,y::ys=>by
  rw[bytesLess_eq,bytesLess_eq];simp only[aaH,List.cons_lt_cons_iff];have ih:=r9 xs ys;rw[bytesLess_eq,bytesLess_eq]at ih;simp only[aaH]at ih;rcases ada x.toNat y.toNat with h | h | h
  ·exact .inl (.inl (UInt8.lt_iff_toNat_lt.2 h))
  ·have e:x=y:=UInt8.toNat_inj.1 h;subst e;rcases ih with h | h | h
   ·exact .inl (.inr ⟨rfl,h⟩)
   ·exact .inr (.inl (by rw[h]))
   exact .inr (.inr (.inr ⟨rfl,h⟩))
  exact .inr (.inr (.inl (UInt8.lt_iff_toNat_lt.2 h)))
theorem Ho{a b:ByteArray}(h:(mO a b||decide (a=b))=false):mO b a=true:=by
 rw[adX]at h;rcases r9 a.data.toList b.data.toList with z | z | z
 ·rw[mO,z]at h;cases h.1
 ·have:a=b:=by
   cases a with | mk a=>cases b with | mk b=>
   simp only at z;rw[Array.toList_inj.1 z]
  exact absurd this (of_decide_eq_false h.2)
 exact z
theorem xt{l:List ByteArray}(h:∀(j:Nat) a b,l[j]?=some a->l[j+1]?=some b->mO a b=true):IQ l:=by
 have key:∀(d i:Nat) a b,l[i]?=some a->l[i+1+d]?=some b->mO a b=true:=fun d=>by
  induction d with
  | zero=>intro i a b z hb;exact h i a b z hb
  | succ d ih=>
   intro i a b z hb;have hl:=(aao.1 hb).1;obtain⟨c,D⟩:=ak (l:=l) (i:=i+1+d) (by omega);exact Kw (ih i a c z D) (h _ c b D hb)
 refine abk.2 fun i j hi I DX=>?_;exact key (j-i-1) i _ _ (acg hi) (by rw[show i+1+(j-i-1)=j by omega];exact acg I)
theorem kJ{f:Nat->Int}:∀{n i:Nat},cU f i n=0->∀k,i<=k->k<i+n->f k=0
 | 0,i,_,k,h1,h2=>by omega
 | n+1,i,h,k,h1,h2=>by
  rw[cU]at h;split at h
  ·by_cases e:k=i
   ·subst e;assumption
   exact kJ h k (by omega) (by omega)
  contradiction
def vD(c:Class):Prop:=IQ c.nets/\c.nets.length<=1000/\(∀y∈c.nets,lh y=true)/\cL c.clearance=true/\cL c.width=true
theorem EV{cs:List Class}{i:Nat}{l:List ByteArray}{j:Nat}{y:ByteArray}(h:bZ cs i l j=0)(z:l[j]?=some y):lh y=true/\dH l j=false:=by
 rw[bZ,z]at h;simp only at h;split at h
 ·split at h
  ·cases h
  exact⟨by assumption,by simpa using ‹¬dH l j=true›⟩
 cases h
theorem Hp{cs:List Class}{i:Nat}{c:Class}(h:b_ cs i=0)(J:cs[i]?=some c):vD c:=by
 rw[b_,J]at h;simp only at h;split at h
 ·split at h
  ·cases h
  split at h
  ·rename_i L;have D:=kJ L;split at h
   ·rename_i z;rw[aaZ]at z;refine⟨xt fun j a b N hb=>?_,by omega,fun y O=>?_,z.1,z.2⟩
    ·have hl:=(aao.1 hb).1;have:=(EV (D (j+1) (aaj _) (by omega)) hb).2;rw[dH,hb,Nat.add_sub_cancel,N]at this;simp only at this;rw[aaA (by omega:0<j+1),adr]at this;exact Ho this
    obtain⟨j,I⟩:=ab8.1 O;exact (EV (D j (aaj _) (by have:=(aao.1 I).1;omega)) I).1
   cases h
  contradiction
 cases h
structure zd(r:cP):Prop where
 cl:∀c∈r.classes,vD c
 nc:r.classes.length<=50
 na:r.areas.length<=50
 ar:∀a∈r.areas,-1<=a.layer/\Reg.aF a.region=0/\cL a.clearance=true
 nums:gM r=true
theorem jU{r:cP}(h:bC r=0):zd r:=by
 rw[bC]at h;split at h
 ·rename_i I;split at h
  ·rename_i z;rw[dn]at z;split at z
   ·cases z
   rw[iI]at h;split at h
   ·cases h
   split at h
   ·rename_i J;refine⟨fun c L=>?_,by omega,by omega,fun a N=>?_,I⟩
    ·obtain⟨i,hi⟩:=ab8.1 L;exact Hp (kJ z i (aaj _) (by have:=(aao.1 hi).1;omega)) hi
    obtain⟨i,hi⟩:=ab8.1 N;have:=kJ J i (aaj _) (by have:=(aao.1 hi).1;omega);rw[cR,hi]at this;simp only at this;split at this
    ·rename_i D;rw[aaZ,aaH]at D;split at this
     ·split at this
      ·exact⟨D.1,by assumption,by assumption⟩
      cases this
     contradiction
    cases this
   contradiction
  contradiction
 cases h
def agP:Class:=⟨M4,[],0,0⟩
def aeR(cs:List Class)(x:ByteArray):Class:=(cs.find? fun c=>hasB c.nets x&&!decide (x=M4)).getD agP
theorem agQ{α:Type}{p:α->Bool}{l:List α}{i:Nat}{x:α}(z:l[i]?=some x)(hp:p x=true)(h:∀y∈l.take i,p y=false):l.find? p=some x:=by
 rw[<-aaU i l,List.find?_append,acf.2 (fun y D=>by rw[h y D];decide),Option.none_or];have:l.drop i=x::l.drop (i+1):=by
  obtain⟨hi,rfl⟩:=aao.1 z;exact ab1 hi
 rw[this,List.find?_cons,hp]
theorem afs(r:cP)(N:zd r)(x:ByteArray):af C 147 [.pv (.ag (rl r)),.pv (str x)] (.p (.ag (kl (aeR r.classes x)))) []:=by
 refine fW hC Tryz.func147 rfl (by kernel_rfl) fun _=>?_;have lm:=ai r.classes kl;have nc:=N.nc;refine aJ (fun i:Nat=>i<=r.classes.length/\∀c∈r.classes.take i,(hasB c.nets x&&!decide (x=M4))=false) (fun i=>[(1,.p (str x)),(4,.bx 4 0),(10,.p (.sl (r.classes.map kl))),(11,.p (i64 (r.classes.map kl).length)),(12,.p (i64 i))]) (fun _=>[(4,.box [.p (str M4),.nl,.p (i64 0),.p (i64 0)])]) (fun i=>r.classes.length-i) 0 _ (au.refl _ _) ⟨aaj _,by simp⟩ ⟨Z,Z,Z,Z,Z,Y⟩ ⟨Z,Y⟩ fun i hi t h=>?_;obtain⟨q1,J⟩:=hi;apply iW<;>intro h1
 ·obtain⟨c,L⟩:=ak (l:=r.classes) (i:=i) (by omega);obtain⟨R,c2,c3,c4,c5⟩:=N.cl c (aad L);refine⟨(kl c),(idx rfl L),_,_,(agi c.nets x R (by omega)),?_⟩;have z:(hasB c.nets x&&!decide (x=M4))=false->∀d∈r.classes.take (i+1),(hasB d.nets x&&!decide (x=M4))=false:=fun hb d D=>by
   rw[aZ L,abi,ab_]at D;rcases D with D | D
   ·exact J d D
   rw[D];exact hb
  apply iW<;>intro O
  ·apply iW<;>intro I
   ·have I:¬x=M4:=I;refine⟨?_,trivial⟩;rw[aeR,agQ L (by rw[O,aaC I];rfl) J];rfl
   have I:x=M4:=by simpa [M4] using I
   exact⟨wO (by omega),(i+1),_,au.refl _ _,⟨by omega,z (by rw[aaA I];simp)⟩,by omega,⟨Z,Z,Z,Z,Z,Y⟩,⟨Z,Y⟩⟩
  exact⟨wO (by omega),(i+1),_,au.refl _ _,⟨by omega,z (by rw[O];rfl)⟩,by omega,⟨Z,Z,Z,Z,Z,Y⟩,⟨Z,Y⟩⟩
 have e:i=r.classes.length:=by omega
 refine⟨?_,trivial⟩;rw[e,acB]at J;rw[aeR,acf.2 (fun y U=>by rw[J y U];decide)];rfl
def ae2(r:cP)(x:ByteArray):Int:=if 0<(aeR r.classes x).clearance then (aeR r.classes x).clearance else r.clearance
def E3(r:cP)(x:ByteArray):Int:=if 0<(aeR r.classes x).width then (aeR r.classes x).width else r.width
theorem afk(r:cP)(D:zd r)(x:ByteArray):af C 139 [.pv (.ag (rl r)),.pv (str x)] (.p (i64 (ae2 r x))) []:=by
 refine fW hC Tryz.func139 rfl (by kernel_rfl) fun _=>?_;refine⟨_,_,(afs r D x),iW ?_ ?_⟩<;>intro z
 ·refine⟨?_,trivial⟩;rw[ae2,aap z]
 refine⟨?_,trivial⟩;rw[ae2,aaa z]
theorem agu(r:cP)(D:zd r)(x:ByteArray):af C 67 [.pv (.ag (rl r)),.pv (str x)] (.p (i64 (E3 r x))) []:=by
 refine fW hC Tryz.func67 rfl (by kernel_rfl) fun _=>?_;refine⟨_,_,(afs r D x),iW ?_ ?_⟩<;>intro z
 ·refine⟨?_,trivial⟩;rw[E3,aap z]
 refine⟨?_,trivial⟩;rw[E3,aaa z]
def meets(layer x y:Int)(a:sJ):Bool:=onB a layer&&a.region.any (M3 x y)
def EW(l:List UInt8):ByteArray:=⟨l.toArray⟩
def Vh(n:Int):Prop:=-9223372036854775808<=n/\n<=9223372036854775807
theorem dB(n:Int)(h:Vh n):af C 119 [.pv (i64 n)] (.p (str (EW (Lib.itoa n)))) []:=
 vv [.int .i64 n] (.string (EW (Lib.itoa n))) ⟨_,Tryz.func119,by decide,rfl⟩ fun S w z hS=>by
  refine (Tryz.strconv_Itoa n h.1 h.2 w z.2.2.2).mono ?_;rintro e w' ⟨rfl,k,os,rfl⟩;exact⟨rfl,Lib.below_grow _ _ (aam _) k os⟩
theorem gL{α:Type}{f:α->List UInt8}{k:Nat}{l:List α}(h:∀x∈l,(f x).length<=k):(l.flatMap f).length<=l.length*k:=by
 induction l with
 | nil=>simp
 | cons x l ih=>
  have h1:=h x (by simp);have h2:=ih (fun m z=>h m (by simp[z]));simp only[abz,acv,aaB,abR];omega
variable {w:World}
theorem PF{S:Nat->Prop}{x v:Value}(h:aO S w (.im x) v):v=x:=by cases h;rfl
def dK(l:List UInt8):List (List PV):=l.map fun u=>[.im (.int .u8 u.toNat)]
def dV(l:List UInt8):List Value:=l.map fun u=>.int .u8 u.toNat
theorem Q7:∃i,Tryz.prog.info? 5=some i/\i.size=1:=by
 obtain⟨z,hi,_,D,_⟩:=info_parts Ni;exact⟨z,hi,D⟩
theorem KD{S:Nat->Prop}{l:List UInt8}{v:Value}(h:aG Tryz.prog w (aO S w) 5 (dK l) v):w.ownsRow 0 5 1 v (dV l).length (dV l):=by
 obtain⟨i,xs,I,h2,D,h4,h5,J⟩:=h;obtain⟨i0,hi,O⟩:=Q7;rw[hi]at I;cases I;rw[O]at D J;have hl:xs.length=l.length:=by
  have:=D.1;simpa [dK] using this
 have e:xs=dV l:=by
  apply ach;intro k;by_cases hk:k<l.length
  ·obtain⟨u,L⟩:∃u,l[k]?=some u:=⟨_,acg hk⟩;obtain⟨z,N,R⟩:=J k [.im (.int .u8 u.toNat)] 0 (.im (.int .u8 u.toNat)) (by rw[dK,aak,L];rfl) rfl;rw[acP,abQ]at N;cases R;rw[N,dV,aak,L];rfl
  rw[abI (by omega),abI (by simp[dV];omega)]
 have hb:(dK l).length=(dV l).length:=by simp[dK,dV]
 rw[<-hb,<-e];exact D
theorem KE{S:Nat->Prop}{l:List UInt8}{v:Value}(h:w.ownsRow 0 5 1 v (dV l).length (dV l)):aG Tryz.prog w (aO S w) 5 (dK l) v:=by
 obtain⟨N,hi,D⟩:=Q7;have hb:(dK l).length=(dV l).length:=by simp[dK,dV]
 refine⟨N,dV l,hi,by omega,by rw[D,hb];exact h,fun r O=>?_,fun u I=>?_,fun a r j x J L=>?_⟩
 ·obtain⟨u,_,rfl⟩:=adS.1 O;rw[D];rfl
 ·obtain⟨z,_,rfl⟩:=adS.1 I;rfl
 rw[dK,aak,acq]at J;obtain⟨u,I,rfl⟩:=J;cases j with
 | zero=>
  cases L;refine⟨.int .u8 u.toNat,?_,.im _⟩;rw[D,acP,abQ,dV,aak,I];rfl
 | succ j=>cases L
theorem zh(s:ByteArray):Lib.strCells s=dV s.data.toList:=rfl
theorem Ht(a b:List UInt8):dV a++dV b=dV (a++b):=by simp[dV]
theorem No{S:Nat->Prop}{b:Nat}{z u1:Value}{l:List UInt8}(I:w.heap[b]?=some (.cells #[z,u1] 150 (0,0)))(J:z=.pointer none\/z=.pointer (some ⟨b,0,none⟩))(L:aG Tryz.prog w (aO S w) 5 (dK l) u1)(N:∀g,cC u1=some g->¬S g/\g≠b/\g<w.heap.size):BS b (dV l) z u1 w:=by
 have D:=KD L;obtain⟨a,c,O⟩:=cr D;refine⟨I,J,D,fun e=>?_⟩;rw[cI O]at e;exact (N b e).2.1 rfl
theorem Np{S:Nat->Prop}{l:List ByteArray}{v:Value}(hl:l≠[])(h:aO S w (strs l) v):∃I z c,v=.slice (some ⟨I,z,none⟩) l.length c/\∀(j:Nat) x,l[j]?=some x->w.cell? ⟨I,z+j,none⟩=some (.string x):=by
 unfold strs at h;generalize D:(l.map fun s=>[str s])=es at h;cases h with
 | nil a c=>
  cases l with
  | nil=>exact absurd rfl hl
  | cons x l=>cases D
 | sl es k b z c U hc hS hk hcell h=>
  have len:es.length=l.length:=by rw[<-D,aej]
  have L:k=1:=by
   cases l with
   | nil=>exact absurd rfl hl
   | cons x l=>
    have:=hk [str x] (by rw[<-D];simp);simpa using this.symm
  subst L;refine⟨b,z,c,by rw[len],fun j x N=>?_⟩;have e1:es[j]?=some [str x]:=by rw[<-D,aak,N];rfl
  have J:=(hcell j [str x] 0 (str x) e1 rfl).1;have O:U j 0=.string x:=PF (h j [str x] 0 (str x) e1 rfl);rw[acP,abQ,O]at J;exact J
theorem sO(z:ByteArray)(l:List ByteArray)(hl:l≠[])(Z:l.length<=1000000)(bs:List UInt8)(hlen:bs.length+(Lib.join ((z::l).map (·.data.toList)) [32]).length<=1000000000000):
  Cf C 116 [str z,strs l] 150 5 (dK bs) (.tu []) true (some (dK (bs++(aeq z l).data.toList))):=by
 refine⟨⟨_,Tryz.func116,by decide,rfl⟩,fun S w vs b u0 u1 hE hS Vi R wh pQ az Zr I=>?_⟩;obtain⟨U,V,rfl⟩:∃U V,vs=[U,V]:=by
  match vs,Vi with
  | [a,b],_=>exact⟨a,b,rfl⟩
 have r0:=R 0 _ _ rfl rfl;cases r0;obtain⟨bk,L,c,rfl,D⟩:=Np hl (R 1 _ _ rfl rfl);have W:=No wh pQ az I;obtain⟨a1,c1,Y⟩:=cr W.own;refine (ahH b (dV bs) u0 u1 z l bk L c w W D Z (by rw[show (dV bs).length=bs.length by simp[dV]];exact hlen)).mono ?_;rintro e w' ⟨rfl,N,O,J,g4⟩;obtain⟨a2,c2,Rp⟩:=cr O.own;have fr:Fr (fun k=>k=b\/cC u1=some k) w w':=by
  refine⟨J.os,J.tape,J.output,J.size,fun k hk hn=>J.block k hk fun h=>hn (h.imp id fun h=>?_)⟩;rw[<-cI Y];exact h
 refine⟨_,rfl,fr,⟨#[],rfl,rfl,fun i x u h=>(by cases h)⟩,N,O.heap,KE (by have:=O.own;rw[zh,Ht]at this;exact this),fun g hg=>?_⟩;obtain⟨q1,q2⟩:=g4 g (by rw[cI Rp];exact hg);exact⟨q1,q2.imp (fun h=>by rw[<-cI Y];exact h) id⟩
theorem aet(bs:List UInt8):Cf C 120 [] 150 5 (dK bs) (.p (i64 bs.length)) false (some (dK bs)):=by
 refine⟨⟨_,Tryz.func120,by decide,rfl⟩,fun S w vs b u0 u1 hE hS J hr D L az Zr z=>?_⟩;obtain rfl:vs=[]:=by
  match vs,J with
  | [],_=>rfl
 have N:=No D L az z;refine (Tryz.Builder_Len_f 0 b (dV bs) w (Lib.IsBuilderF.of N.is)).mono ?_;rintro e w' ⟨rfl,rfl⟩;refine⟨_,rfl,Fr.refl _ _,?_,u1,D,az,fun g I=>⟨(z g I).2.2,.inl I⟩⟩;rw[show (dV bs).length=bs.length by simp[dV]];exact .im _
theorem Vj(b:Nat)(l:List UInt8)(I u1:Value)(w:World)(h:BS b (Lib.byteCells l) I u1 w)(J:l≠[]):
  Calls Tryz.prog 121 #[.pointer (some ⟨b,0,none⟩)] w fun e w'=>e=.returned (.string ⟨l.toArray⟩)/\Fr (fun k=>u1.ownBlock=some k) w w':=by
 obtain⟨N,pQ,hown,b8⟩:=h;have L:l.length≠0:=by simpa using J
 rw[Lib.byteCells_length]at hown;obtain⟨g,z,D,rfl,Sq,O,Qq,R,pN,Qu⟩:∃g z D,u1=.slice (some ⟨g,0,none⟩) l.length z/\0<=g/\w.heap[g]?=some (.cells D 5 (0,0))/\l.length<=z/\z<=maxLen/\D.size=z*1/\D.toList.take (l.length*1)=Lib.byteCells l:=by
  rcases hown.2 with⟨_,U⟩ | ⟨g,z,D,V,r⟩
  ·exact absurd U L
  exact⟨g,z,D,V,r⟩
 have c1:w.drew.cell? ⟨b,1,none⟩=some (.slice (some ⟨g,0,none⟩) l.length z):=by
  have:w.drew.heap[b]?=some (.cells #[I,.slice (some ⟨g,0,none⟩) l.length z] 150 (0,0)):=N;rw[ac0 this];rfl
 have hSD:(Builtin.unsafeSliceData_ #[148] 225 #[.slice (some ⟨g,0,none⟩) l.length z]).run Tryz.prog w.drew=.ok (.pointer (some ⟨g,0,none⟩)) w.drew:=
  Lib.run_unsafeSliceData_row _ _ _ _ _ _ (by omega)
 have hUS:(Builtin.unsafeString_ #[225,3] 9 #[.pointer (some ⟨g,0,none⟩),.int .i64 l.length]).run Tryz.prog w.drew=.ok (.string ⟨l.toArray⟩) (w.drew.freeze ⟨g,0,none⟩ l.length):=by
  refine Lib.run_unsafeString_row w.drew 225 3 9 5 Tryz.underlying225 (by kernel_rfl) g D.size (by have W:w.drew.heap[g]?=some (.cells D 5 (0,0)):=O;simp[World.shape?,W]) l J (by omega) (by unfold maxLen at R;omega) ?_;intro j x Y;have:=hown.cells (g:=g) rfl j (.int .u8 x.toNat) (by simp[Lib.byteCells,Y]);exact this
 have fin:Fr (fun k=>(Value.slice (some ⟨g,0,none⟩) l.length z).ownBlock=some k) w (w.drew.freeze ⟨g,0,none⟩ l.length):=by
  unfold World.freeze;rw[aaa L];refine⟨rfl,rfl,rfl,aay (show w.heap.size=(Array.modify w.heap g _).size from (Array.size_modify ..).symm),fun k _ Z=>?_⟩;have PG:¬g=k:=fun e=>Z (by rw[<-e];rfl);show (Array.modify w.heap g _)[k]?=w.heap[k]?;rw[aac,aaa PG]
 have mixed:Tryz.prog.follows Departure.mixedOrders=true:=by kernel_rfl
 have FN:=aea fin;clear fin
 go_enter Tryz.func121,Tryz.ntmps121
 go_wp2
 go_region_o
 all_goals (go_wp2;go_ret;exact⟨rfl,FN.out⟩)
theorem Hu(bs:List UInt8)(J:bs≠[]):Cf C 121 [] 150 5 (dK bs) (.p (str (EW bs))) false none:=by
 refine⟨⟨_,Tryz.func121,by decide,rfl⟩,fun S w vs b L u1 hE hS N hr O R az Zr z=>?_⟩;obtain rfl:vs=[]:=by
  match vs,N with
  | [],_=>rfl
 have I:=No O R az z;obtain⟨a1,c1,U⟩:=cr I.own;refine (Vj b bs L u1 w I J).mono ?_;rintro e w' ⟨rfl,D⟩;refine⟨_,rfl,⟨D.os,D.tape,D.output,D.size,fun k hk V=>D.block k hk fun h=>V (.inr (by rw[<-cI U];exact h))⟩,.im _,trivial⟩
def Df:ByteArray:=⟨#[114,117,108,101,115]⟩
def wP(n:Int):ByteArray:=EW (Lib.itoa n)
def r5:cP:=⟨0,5,0,0,0,[],[]⟩
def w5:List ByteArray:=[wP 0,wP 5,wP 0,wP 0,wP 0]
def L5:List UInt8:=[114,117,108,101,115,32,48,32,53,32,48,32,48,32,48,10]
theorem ok5:e8 r5:=⟨(fun c h=>by cases h),by decide,by decide⟩
theorem ahz:(aeq Df w5).data.toList=L5:=by kernel_rfl
theorem ahJ:(Lib.join ((Df::w5).map (·.data.toList)) [32]).length=15:=by kernel_rfl
theorem aho:af C 45 [.pv (.ag (rl r5))] (.tu [str (EW L5),i64 0]) []:=by
 have z:=jQ r5 ok5;rw[show bC r5=0 by kernel_rfl]at z;have hl:=sO Df w5 (by simp[w5]) (by simp[w5]) [] (by rw[ahJ];simp);rw[ahz]at hl;refine uX ⟨[5],[],[],[7,11,16,20],[(7,[true,true,true,true,false,true,false,false,false,true,false,false,false,true,false,false,false,true,false,false,true,true,true]),(11,[true,false,false,true,true,true,false,true,false,false,false,true,false,false,true,true]),(16,[true,true,true,false,true,false,false,true,true,true]),(20,[true,true,true,true,false,true,false,false,false,true,false,false,false,true,false,false,true,true,true,true])],[]⟩ hC Tryz.func45 rfl (by kernel_rfl) fun _=>?_;refine⟨_,_,z,?_⟩;refine qy ((au.gD (by exact hC) _ 1 (y:=.ip (rl r5)) (fz:=[(1,.jd (rl r5))]) (by exact⟨rfl,rfl⟩)).trans (au.MH (by exact hC) _ 5 1 90000 5 150 _ _ (by decide) (by decide) (by exact rfl) (by exact rfl) (by exact rfl) (by decide))) ?_;refine⟨_,_,(dB 0 ⟨by decide,by decide⟩),_,_,(dB 5 ⟨by decide,by decide⟩),_,_,(dB 0 ⟨by decide,by decide⟩),_,_,(dB 0 ⟨by decide,by decide⟩),_,_,(dB 0 ⟨by decide,by decide⟩),_,_,_,hl,?_⟩;refine aJ (fun _:Unit=>True) (fun _=>[(1,.p (.ip (rl r5))),(5,.bx 5 0),(6,.fn 116 [.bx 5 0]),(7,.p (.im (.func (.func 119) #[] #[]))),(46,.p (i64 0)),(47,.p (i64 0))]) (fun _=>[(5,.gC 150 [.bx 5 0,.ow 90000]),(90000,.row 5 (dK L5))]) (fun _=>0) () _ (au.Cx _ 43 90000 (by decide) (by decide)) trivial ⟨Z,Z,Z,Z,Z,Z,Y⟩ ⟨Z,Z,Y⟩ fun _ _ t h=>?_;refine aJ (fun _:Unit=>True) (fun _=>[(5,.bx 5 0),(70,.p (i64 0)),(71,.p (i64 0))]) (fun _=>[(5,.gC 150 [.bx 5 0,.ow 90000]),(90000,.row 5 (dK L5))]) (fun _=>0) () _ (au.refl _ _) trivial ⟨Z,Z,Z,Y⟩ ⟨Z,Z,Y⟩ fun _ _ t h=>?_;refine⟨_,_,_,aet L5,_,_,_,Hu L5 (by simp[L5]),?_,trivial⟩;rfl
theorem KG:af C 13 [] (.p (bool true)) []:=by
 refine fW hC Tryz.func13 rfl (by kernel_rfl) fun _=>?_;refine⟨_,_,aho,?_,trivial⟩;exact adV (fun z=>PV.im (Value.bool z)) (show decide (EW L5=EW L5)=true from aaA rfl)
open Reg (bw bE cv IV bN bK told dJ a_ coreS ahD Canon Full RK at')
theorem aj6{s:List an}(h:(gx s).2=0):(gx s).1=told s/\(told s).length<=2000:=by
 unfold gx at h ⊢;split at h
 ·cases h
 rename_i z;rw[aaa z];exact⟨rfl,by omega⟩
open Reg (aS fo fS aa ee bO cJ through bA fT c_ bT)
def dX(a:fS):List PV:=[.sl (a.coppers.map fun r=>[aj r]),aj a.outline,.sl (a.bores.map bc),.sl (a.lands.map lc)]
def pc(p:ByteArray×ByteArray):List PV:=[str p.1,str p.2]
theorem wQ(a b:ByteArray):af C 241 [.pv (str a),.pv (str b)] (.p (i64 (Lib.compareBytes a.data.toList b.data.toList))) []:=
 vv [.string a,.string b] _ ⟨_,Tryz.func241,rfl,rfl⟩ fun S w _ _=>(Tryz.strings_Compare a b w).mono fun e w' h=>⟨h.1,by rw[h.2];exact acE _ _⟩
def AO(p q:ByteArray×ByteArray):Int:=if Lib.compareBytes p.1.data.toList q.1.data.toList≠0 then Lib.compareBytes p.1.data.toList q.1.data.toList else Lib.compareBytes p.2.data.toList q.2.data.toList
theorem rJ(p q:ByteArray×ByteArray):af C 174 [.pv (.ag (pc p)),.pv (.ag (pc q))] (.p (i64 (AO p q))) []:=by
 refine fW hC Tryz.func174 rfl (by kernel_rfl) fun _=>?_;refine⟨_,_,(wQ p.1 q.1),iW ?_ ?_⟩<;>intro h
 ·refine⟨?_,trivial⟩;rw[AO,aap (by simpa using h)]
 refine⟨_,_,(wQ p.2 q.2),?_,trivial⟩;rw[AO,aaa (by simpa using h)]
theorem pw(l:fo):af C 175 [.pv (.ag (lc l))] (.p (.ag (pc (l.part,l.pin)))) []:=by
 refine fW hC Tryz.func175 rfl (by kernel_rfl) fun _=>?_;refine⟨?_,trivial⟩;rfl
theorem uu(a:fS)(hn:a.coppers.length<=1000000):af C 96 [.pv (.ag (dX a))] (.p (i64 (bT a))) []:=by
 refine fW hC Tryz.func96 rfl (by kernel_rfl) fun _=>?_;have lm:=ai a.bores bc;have R:=ai a.coppers fun r=>[aj r];apply iW<;>intro L
 ·rw[lm]at L;refine⟨?_,trivial⟩;rw[bT,aap (by omega)];rfl
 rw[lm]at L;have I:bT a=c_ a.coppers.length a.bores:=by rw[bT,aaa (by omega)]
 refine aJ (fun i:Nat=>i<=a.bores.length/\c_ a.coppers.length a.bores=c_ a.coppers.length (a.bores.drop i)) (fun i=>[(3,.p (i64 (a.coppers.map fun r=>[aj r]).length)),(16,.p (.sl (a.bores.map bc))),(17,.p (i64 (a.bores.map bc).length)),(18,.p (i64 i))]) (fun _=>[]) (fun i=>a.bores.length-i) 0 _ (au.refl _ _) ⟨aaj _,rfl⟩ ⟨Z,Z,Z,Z,Y⟩ trivial fun i hi t h=>?_;apply iW<;>intro N
 ·rw[lm]at N;obtain⟨b,hb⟩:=ak (l:=a.bores) (i:=i) (by omega);have z:=Reg.BC (n:=a.coppers.length) hb;refine⟨(bc b),(idx rfl hb),_,_,(AL b),iW ?_ ?_⟩<;>intro D
  ·have D:(ee b).2≠0:=by simpa using D
   refine⟨?_,trivial⟩;rw[I,hi.2,z,aap D]
  have D:¬(ee b).2≠0:=by simpa using D
  rw[aaa D]at z;refine⟨wO (by omega),_,_,(kx b.lo 0 (((a.coppers.map fun r=>[aj r]).length:Int)-1)),?_⟩;rw[R];apply iW<;>intro J
  ·refine⟨?_,trivial⟩;rw[I,hi.2,z,aaa (by rw[J];simp)];rfl
  refine⟨wO (by omega),_,_,(kx b.hi b.lo ((a.coppers.length:Int)-1)),iW ?_ ?_⟩<;>intro O
  ·refine⟨?_,trivial⟩;rw[I,hi.2,z,aaa (by rw[J,O];simp)];rfl
  rw[aap (by rw[J,O];rfl)]at z;exact⟨wO (by omega),(i+1),_,au.refl _ _,⟨by omega,by rw[hi.2,z]⟩,by omega,⟨Z,Z,Z,Z,Y⟩,trivial⟩
 rw[lm]at N;refine⟨?_,trivial⟩;rw[I,hi.2,aaz (by omega)];rfl
def dQ(n:Int)(ls:List fo)(i:Nat):Int:=match ls[i]? with
 | none=>0
 | some l=>if (lh l.part&&iU l.pin)=true then (if (Reg.within l.layer 0 (n-1)&&(Reg.kR l.x&&Reg.kR l.y))=true then (match ls[i-1]? with
   | some q=>if 0<i/\AO (l.part,l.pin) (q.part,q.pin)<=0 then 8 else 0
   | none=>0) else 1) else 5
def c8(a:fS):Int:=if 1000<a.lands.length then 2 else cU (dQ a.coppers.length a.lands) 0 a.lands.length
structure ly(a:fS):Prop where
 cop:a.coppers.length<=1048576
 rcs:∀r∈a.coppers,r.length<=1048576
 out:a.outline.length<=1048576
 bor:a.bores.length<=1048576
 lan:a.lands.length<=1048576
 str:∀l∈a.lands,ue l.part/\ue l.pin
theorem uv(a:fS)(J:ly a):af C 97 [.pv (.ag (dX a))] (.p (i64 (c8 a))) []:=by
 refine fW hC Tryz.func97 rfl (by kernel_rfl) fun _=>?_;have lm:=ai a.lands lc;have lk:=ai a.coppers fun r=>[aj r];have KH:=J.cop;apply iW<;>intro L
 ·rw[lm]at L;refine⟨?_,trivial⟩;rw[c8,aap (by omega)];rfl
 rw[lm]at L;have N:c8 a=cU (dQ a.coppers.length a.lands) 0 a.lands.length:=by rw[c8,aaa (by omega)]
 refine aJ (fun i:Nat=>i<=a.lands.length/\∀k,k<i->dQ a.coppers.length a.lands k=0) (fun i=>[(1,.bx 1 0),(10,.p (.sl (a.lands.map lc))),(11,.p (i64 (a.lands.map lc).length)),(12,.p (i64 i))]) (fun _=>[(1,.box ((dX a).map .p))]) (fun i=>a.lands.length-i) 0 _ (au.refl _ _) ⟨aaj _,by omega⟩ ⟨Z,Z,Z,Z,Y⟩ ⟨Z,Y⟩ fun i hi t h=>?_;apply iW<;>intro O
 ·rw[lm]at O;obtain⟨l,hl⟩:=ak (l:=a.lands) (i:=i) (by omega);obtain⟨s1,s2⟩:=J.str l (aad hl);have z:∀v,dQ a.coppers.length a.lands i=v->v≠0->c8 a=v:=fun v R b8=>by
   rw[N,gY (m:=i) (by rw[R];exact b8) (fun k _ hk=>hi.2 k hk) (by omega) (by omega),R]
  refine⟨(lc l),(idx rfl hl),_,_,(tX l.part s1),iW ?_ ?_⟩<;>intro D
  ·refine⟨?_,trivial⟩;rw[z 5 (by simp only[dQ,hl];rw[aaa (by rw[D];simp)]) (by decide)];rfl
  refine⟨_,_,(oY l.pin (by unfold ue at s2;omega)),iW ?_ ?_⟩<;>intro I
  ·refine⟨?_,trivial⟩;rw[z 5 (by simp only[dQ,hl];rw[aaa (by rw[I];simp)]) (by decide)];rfl
  refine⟨wO (by omega),_,_,(kx l.layer 0 (((a.coppers.map fun r=>[aj r]).length:Int)-1)),?_⟩;rw[lk];apply iW<;>intro U
  ·refine⟨?_,trivial⟩;rw[z 1 (by simp only[dQ,hl];rw[aap (by rw[D,I];rfl),aaa (by rw[U];simp)]) (by decide)];rfl
  refine⟨_,_,(rZ l.x l.y),iW ?_ ?_⟩<;>intro V
  ·refine⟨?_,trivial⟩;rw[z 1 (by simp only[dQ,hl];rw[aap (by rw[D,I];rfl),aaa (by rw[V];simp)]) (by decide)];rfl
  have pre:dQ a.coppers.length a.lands i=(match a.lands[i-1]? with
    | some q=>if 0<i/\AO (l.part,l.pin) (q.part,q.pin)<=0 then 8 else 0
    | none=>0):=by simp only[dQ,hl];rw[aap (by rw[D,I];rfl),aap (by rw[U,V];rfl)]
  apply iW<;>intro g5
  ·obtain⟨q,W⟩:=ak (l:=a.lands) (i:=i-1) (by omega);rw[W]at pre;simp only at pre;refine⟨_,_,(pw l),wO (by omega),(lc q),(idx (by omega) W),_,_,(pw q),_,_,(rJ (l.part,l.pin) (q.part,q.pin)),iW ?_ ?_⟩<;>intro g6
   ·rw[aap ⟨by omega,by simpa using g6⟩]at pre;refine⟨?_,trivial⟩;rw[z 8 pre (by decide)];rfl
   rw[aaa (fun e=>by simp at g6;omega)]at pre;exact⟨wO (by omega),(i+1),_,au.refl _ _,⟨by omega,fun k hk=>by by_cases e:k=i;exact e▸pre;exact hi.2 k (by omega)⟩,by omega,⟨Z,Z,Z,Z,Y⟩,⟨Z,Y⟩⟩
  have pre:dQ a.coppers.length a.lands i=0:=by
   rw[pre];split
   ·rw[aaa (by omega)]
   rfl
  exact⟨wO (by omega),(i+1),_,au.refl _ _,⟨by omega,fun k hk=>by by_cases e:k=i;exact e▸pre;exact hi.2 k (by omega)⟩,by omega,⟨Z,Z,Z,Z,Y⟩,⟨Z,Y⟩⟩
 rw[lm]at O;refine⟨?_,trivial⟩;rw[N,eZ fun k _ hk=>hi.2 k (by omega)];rfl
end M
namespace Reg
def UF(u:List Int):Prop:=∀(i:Nat) v,u[i]?=some v->0<=v/\v<=i
inductive eh(u:List Int):Nat->Nat->Prop
 | here (i:Nat) (h:u[i]?=some (i:Int)):eh u i i
 | up (i j r:Nat) (h:u[i]?=some (j:Int)) (b8:j≠i) (hr:eh u j r):eh u i r
variable {u:List Int}
theorem eh.lt{i r:Nat}(h:eh u i r):i<u.length:=by
 cases h with
 | here _ h=>exact (aao.1 h).1
 | up _ _ _ h=>exact (aao.1 h).1
theorem eh.top{i r:Nat}(h:eh u i r):u[r]?=some (r:Int):=by
 induction h with
 | here i h=>exact h
 | up i j r h b8 hr ih=>exact ih
theorem eh.le(z:UF u){i r:Nat}(h:eh u i r):r<=i:=by
 induction h with
 | here i h=>exact aam _
 | up i j r h b8 hr ih=>have:=z i j h;omega
theorem eh.uniq{i r q:Nat}(h:eh u i r)(k:eh u i q):r=q:=by
 induction h with
 | here i h=>
  cases k with
  | here=>rfl
  | up _ j _ h2 z _=>rw[h]at h2;injection h2 with h2;exact absurd (by omega) z
 | up i j r h z hr ih=>
  cases k with
  | here _ h2=>rw[h]at h2;injection h2 with h2;exact absurd (by omega) z
  | up _ D _ h2 RQ I=>
   rw[h]at h2;injection h2 with h2;have:j=D:=by omega
   subst this;exact ih I
theorem UF.parent(D:UF u){i:Nat}(hi:i<u.length):∃j:Nat,u[i]?=some (j:Int)/\j<=i:=by
 obtain⟨v,z⟩:∃v,u[i]?=some v:=⟨_,acg hi⟩;have:=D i v z;exact⟨v.toNat,by rw[z];congr 1;omega,by omega⟩
theorem UF.root(D:UF u):∀(i:Nat),i<u.length->∃r,eh u i r:=by
 intro i
 induction i using Nat.strongRecOn with
 | _ i ih=>
  intro hi;obtain⟨j,z,hle⟩:=D.parent hi;by_cases e:j=i
  ·subst e;exact⟨j,.here j z⟩
  obtain⟨r,I⟩:=ih j (by omega) (by omega);exact⟨r,.up i j r z e I⟩
theorem ahw{α:Type}{l:List α}{i j:Nat}{x:α}(hi:i<l.length):(l.set i x)[j]?=if j=i then some x else l[j]?:=by
 by_cases e:j=i
 ·subst e;rw[aap rfl,ab7 hi]
 rw[aaa e,ac5 (fun e'=>e e'.symm)]
theorem UF.set(D:UF u){i k:Nat}(hk:k<=i)(hi:i<u.length):UF (u.set i (k:Int)):=fun m v z=>by
 rw[ahw hi]at z;by_cases e:m=i
 ·rw[aap e]at z;injection z with z;omega
 rw[aaa e]at z;exact D m v z
theorem Ns(z:UF u){i j k:Nat}(D:u[i]?=some (j:Int))(hk:u[j]?=some (k:Int)):UF (u.set i (k:Int))/\∀m r,eh (u.set i (k:Int)) m r↔eh u m r:=by
 have hi:=(aao.1 D).1;have h1:=z i j D;have h2:=z j k hk;have Y:UF (u.set i (k:Int)):=z.set (by omega) hi;have I:∀m r,eh u m r->eh (u.set i (k:Int)) m r:=by
  intro m
  induction m using Nat.strongRecOn with
  | _ m ih=>
   intro r V;by_cases e:m=i
   ·subst e;have N:(u.set m (k:Int))[m]?=some (k:Int):=by rw[ahw hi,aap rfl]
    cases V with
    | here _ h=>
     rw[D]at h;injection h with h;have e1:j=m:=by omega
     subst e1;rw[D]at hk;injection hk with hk;have e2:j=k:=by omega
     subst e2;exact .here j N
    | up _ J _ h O L=>
     rw[D]at h;injection h with h;have e1:j=J:=by omega
     subst e1;by_cases e2:k=j
     ·subst e2;have:r=k:=(eh.uniq (.here k hk) L).symm;subst this;exact .up m r r N O (ih r (by omega) r L)
     have R:eh u k r:=by
      cases L with
      | here _ h=>rw[hk]at h;injection h with h;exact absurd (by omega) e2
      | up _ Z _ h _ U=>
       rw[hk]at h;injection h with h;have e3:k=Z:=by omega
       subst e3;exact U
     exact .up m k r N (by omega) (ih k (by omega) r R)
   cases V with
   | here _ h=>exact .here m (by rw[ahw hi,aaa e];exact h)
   | up _ J _ h O L=>
    have:=z m J h;exact .up m J r (by rw[ahw hi,aaa e];exact h) O (ih J (by omega) r L)
 refine⟨Y,fun m r=>⟨fun h=>?_,I m r⟩⟩;obtain⟨q,W⟩:=z.root m (by have:=h.lt;rwa [aaM]at this);have:=(I m q W).uniq h;subst this;exact W
theorem join(J:UF u){a b:Nat}(z:u[a]?=some (a:Int))(hb:u[b]?=some (b:Int)):UF (u.set (max a b) ((min a b:Nat):Int))/\∀m r,eh u m r->eh (u.set (max a b) ((min a b:Nat):Int)) m (if r=max a b then min a b else r):=by
 have hi:max a b<u.length:=by
  have h1:=(aao.1 z).1;have h2:=(aao.1 hb).1;omega
 have L:u[min a b]?=some ((min a b:Nat):Int):=by
  by_cases h:a<=b
  ·rw[show min a b=a by omega];exact z
  rw[show min a b=b by omega];exact hb
 have N:u[max a b]?=some ((max a b:Nat):Int):=by
  by_cases h:a<=b
  ·rw[show max a b=b by omega];exact hb
  rw[show max a b=a by omega];exact z
 refine⟨J.set (by omega) hi,fun m r D=>?_⟩
 induction D with
 | here i h=>
  by_cases e:i=max a b
  ·rw[aap e];by_cases e2:min a b=i
   ·subst e2;exact .here _ (by rw[ahw hi,aap e])
   refine .up i (min a b) _ (by rw[ahw hi,aap e]) e2 (.here _ ?_);rw[ahw hi,aaa (by omega)];exact L
  rw[aaa e];exact .here i (by rw[ahw hi,aaa e];exact h)
 | up i j r h I D ih=>
  refine .up i j _ ?_ I ih;rw[ahw hi,aaa]
  ·exact h
  intro e;rw[e,N]at h;injection h with h;exact I (by omega)
def kU(u:List Int)(i k:Nat):Prop:=∃r,eh u i r/\eh u k r
theorem PI{v:List Int}(h:∀m r,eh v m r↔eh u m r)(i k:Nat):kU v i k↔kU u i k:=by
 simp only[kU,h]
theorem KI(L:UF u){a b i k:Nat}(hi:eh u i a)(hk:eh u k b){p q:Nat}(hp:p<u.length)(V:q<u.length):
  kU (u.set (max a b) ((min a b:Nat):Int)) p q↔kU u p q\/(kU u p i/\kU u q k)\/(kU u p k/\kU u q i):=by
 obtain⟨j1,J⟩:=join L hi.top hk.top;obtain⟨r,D⟩:=L.root p hp;obtain⟨s,I⟩:=L.root q V;have e1:kU (u.set (max a b) ((min a b:Nat):Int)) p q↔(if r=max a b then min a b else r)=(if s=max a b then min a b else s):=
  ⟨fun ⟨z,N,O⟩=>((J p r D).uniq N).trans ((J q s I).uniq O).symm,fun e=>⟨_,J p r D,by rw[e];exact J q s I⟩⟩
 have same:∀{x y:Nat} {c d:Nat},eh u x c->eh u y d->(kU u x y↔c=d):=fun R U=>⟨fun ⟨z,N,O⟩=>(R.uniq N).trans (U.uniq O).symm,fun e=>⟨_,R,by rw[e];exact U⟩⟩;rw[e1,same D I,same D hi,same I hk,same D hk,same I hi];split<;>split<;>omega
def iota(n:Nat):List Int:=(List.range n).map fun (i:Nat)=>(i:Int)
theorem E_{n i:Nat}(h:i<n):(iota n)[i]?=some (i:Int):=by rw[iota,aak,abP h];rfl
theorem aeM(n:Nat):(iota n).length=n:=by simp[iota]
theorem ny(n:Nat):UF (iota n):=fun i v z=>by
 have hi:=(aao.1 z).1;rw[aeM]at hi;rw[E_ hi]at z;injection z with z;omega
theorem BI{n i r:Nat}(h:eh (iota n) i r):i=r:=by
 have hi:=h.lt;rw[aeM]at hi;exact ((eh.here i (E_ hi)).uniq h)
def cw:Nat->List Int->Nat->List Int×Nat
 | 0,u,i=>(u,i)
 | n+1,u,i=>if u.getD i 0=i then (u,i) else cw n (u.set i (u.getD (u.getD i 0).toNat 0)) (u.getD (u.getD i 0).toNat 0).toNat
structure Nt(u:List Int)(i:Nat)(x:List Int×Nat):Prop where
 uf:UF x.1
 len:x.1.length=u.length
 same:∀m q,eh x.1 m q↔eh u m q
 root:eh u i x.2
theorem fU:∀(n:Nat) (u:List Int) (i:Nat),UF u->i<u.length->i<=n->Nt u i (cw n u i)
 | 0,u,i,hu,hi,hn=>by
  have:i=0:=by omega
  subst this;obtain⟨j,z,D⟩:=hu.parent hi;have:j=0:=by omega
  subst this;exact⟨hu,rfl,fun _ _=>aaT,.here 0 z⟩
 | n+1,u,i,hu,hi,hn=>by
  obtain⟨j,z,D⟩:=hu.parent hi;have e1:u.getD i 0=j:=by rw[aav,z];rfl
  rw[cw];by_cases h:u.getD i 0=i
  ·rw[aap h];exact⟨hu,rfl,fun _ _=>aaT,.here i (by rw[z,<-e1,h])⟩
  rw[aaa h];rw[e1]at h ⊢;have O:j<u.length:=by omega
  obtain⟨k,hk,Vm⟩:=hu.parent O;have e2:u.getD (j:Int).toNat 0=k:=by rw[aaS,aav,hk];rfl
  rw[e2,aaS];obtain⟨R,I⟩:=Ns hu z hk;have ih:=fU n (u.set i (k:Int)) k R (by rw[aaM];omega) (by omega);refine⟨ih.uf,by rw[ih.len,aaM],fun m q=>(ih.same m q).trans (I m q),?_⟩;have J:=(I _ _).1 ih.root;have L:j≠i:=by omega
  by_cases N:k=j
  ·subst N;exact .up i k _ z L J
  exact .up i j _ z L (.up j k _ hk N J)
def gj(u:List Int)(i k:Nat):List Int:=(cw k (cw i u i).1 k).1.set (max (cw i u i).2 (cw k (cw i u i).1 k).2) ((min (cw i u i).2 (cw k (cw i u i).1 k).2:Nat):Int)
theorem mC(z:UF u){i k:Nat}(hi:i<u.length)(hk:k<u.length):UF (gj u i k)/\(gj u i k).length=u.length:=by
 have a:=fU i u i z hi (aam _);have b:=fU k (cw i u i).1 k a.uf (by rw[a.len];exact hk) (aam _);have D:∀m q,eh (cw k (cw i u i).1 k).1 m q↔eh u m q:=fun m q=>(b.same m q).trans (a.same m q);have I:=(D _ _).2 a.root;have J:=(b.same _ _).2 b.root;exact⟨(join b.uf I.top J.top).1,by rw[gj,aaM,b.len,a.len]⟩
end Reg
namespace M
open Go.AM Go.RowKit Go.Lib
open Reg (UF eh Nt cw fU iota)
theorem cM{u:List Int}{i:Nat}{v:Int}(h:u[i]?=some v):(aA u)[i]?=some [i64 v]:=by rw[aA,aak,h];rfl
theorem fV(u:List Int)(i:Nat)(v:Int):(aA u).set i [i64 v]=aA (u.set i v):=by simp[aA,abL]
theorem bQ(u:List Int):(aA u).length=u.length:=by simp[aA]
theorem BJ{n:Nat}{u:List Int}{i:Nat}(D:UF u)(hi:i<u.length)(hn:i<=n):∃j k:Nat,u[i]?=some (j:Int)/\u[j]?=some (k:Int)/\j<=i/\k<=j/\(j=i->cw n u i=(u,i))/\(j≠i->∃m,n=m+1/\cw n u i=cw m (u.set i (k:Int)) k):=by
 obtain⟨j,I,z⟩:=D.parent hi;obtain⟨k,hk,J⟩:=D.parent (i:=j) (by omega);have e1:u.getD i 0=j:=by rw[aav,I];rfl
 have e2:u.getD j 0=k:=by rw[aav,hk];rfl
 refine⟨j,k,I,hk,z,J,fun e=>?_,fun e=>?_⟩
 ·cases n with
  | zero=>rfl
  | succ n=>rw[cw,aap (by rw[e1];omega)]
 cases n with
 | zero=>omega
 | succ n=>
  refine⟨n,rfl,?_⟩;rw[cw,aaa (by rw[e1];omega),e1,aaS,e2,aaS]
theorem vF(u:List Int)(O:UF u)(i:Nat)(hi:i<u.length):af C 243 [.aN [.row 3 (aA u)],.pv (i64 i)] (.p (i64 (cw i u i).2)) [.aN [.row 3 (aA (cw i u i).1)]]:=by
 refine UP ⟨[],[],[],[],[],[]⟩ hC Tryz.func243 rfl (by kernel_rfl) fun _=>⟨_,au.open hC _ 100000 [90000] (by exact rfl) rfl rfl rfl,?_⟩;obtain⟨R,J⟩:∃R,R=cw i u i:=⟨_,rfl⟩;rw[<-J];refine aJ (fun x:Nat×List Int×Nat=>cw x.1 x.2.1 x.2.2=R/\UF x.2.1/\x.2.2<x.2.1.length/\x.2.2<=x.1) (fun x=>[(0,.bx 100000 0),(1,.p (i64 x.2.2))]) (fun x=>[(100000,.box [.ow 90000]),(90000,.row 3 (aA x.2.1))]) (fun x=>x.2.2) (i,u,i) _ (au.refl _ _) ⟨J.symm,O,hi,aam _⟩ ⟨Z,Z,Y⟩ ⟨Z,Z,Y⟩ fun ⟨n,v,k⟩ U t h=>?_;obtain⟨z,I,L,N⟩:=U;simp only at z I L N;obtain⟨j,l,D,hl,q1,q2,V,W⟩:=BJ I L N;have lv:=bQ v;refine⟨⟨by omega,by (try dsimp only);rw[lv];omega⟩,[i64 j],(cM D),iW ?_ ?_⟩<;>intro g<;>try simp only[zB]at g
 ·have b8:j≠k:=by omega
  obtain⟨m,rfl,q5⟩:=W b8;refine⟨⟨by omega,by (try dsimp only);rw[lv];omega⟩,[i64 j],(cM D),⟨by omega,by (try dsimp only);rw[lv];omega⟩,[i64 l],(cM hl),⟨by omega,by (try dsimp only);rw[lv];omega⟩,[i64 j],(cM D),⟨by omega,by (try dsimp only);rw[List.length_set,lv];omega⟩,[i64 l],(by rw[List.getElem?_set_self (by (try dsimp only);rw[lv];omega)];rfl),?_⟩;exact⟨(m,v.set k (l:Int),l),_,au.refl _ _,⟨by rw[<-q5];exact z,(Reg.Ns I D hl).1,by simp only[List.length_set];omega,by dsimp only;omega⟩,by simp only;omega,⟨Z,Z,Y⟩,⟨rfl,congrArg (AB.row _) (fV v k l),trivial⟩⟩
 have e:j=k:=by omega
 have z:=(V e).symm.trans z;subst z;exact And.intro rfl (And.intro ⟨Z,Z,Y⟩ trivial)
open Reg (gj)
theorem Hx(u:List Int)(z:UF u)(i k:Nat)(hi:i<u.length)(hk:k<u.length):af C 182 [.aN [.row 3 (aA u)],.pv (i64 i),.pv (i64 k)] (.tu []) [.aN [.row 3 (aA (gj u i k))]]:=by
 have a:=fU i u i z hi (aam _);have b:=fU k (cw i u i).1 k a.uf (by rw[a.len];exact hk) (aam _);refine uX ⟨[1],[],[],[],[],[]⟩ hC Tryz.func182 rfl (by kernel_rfl) fun _=>?_;refine⟨_,_,(vF u z i hi),_,_,(vF (cw i u i).1 a.uf k (by rw[a.len];exact hk)),?_⟩;refine qy (au.open (by exact hC) _ 100000 [90000] (by exact rfl) rfl rfl rfl) ?_;have ra:=(aao.1 ((b.same _ _).2 ((a.same _ _).2 a.root)).top).1;have rb:=(aao.1 ((b.same _ _).2 b.root).top).1;have D:((max ((cw i u i).2:Int) ((cw k (cw i u i).1 k).2:Int))).toNat=max (cw i u i).2 (cw k (cw i u i).1 k).2:=by omega
 have lv:=bQ (cw k (cw i u i).1 k).1;obtain⟨v,I⟩:∃v,(cw k (cw i u i).1 k).1[max (cw i u i).2 (cw k (cw i u i).1 k).2]?=some v:=⟨_,acg (by omega)⟩;refine⟨⟨by omega,by rw[lv];omega⟩,[i64 v],(by rw[D];exact cM I),rfl,(And.intro ⟨rfl,?_,trivial⟩ trivial)⟩;refine adV (AB.row _) ?_;rw[D];show (aA _).set _ [i64 (min _ _)]=_;rw[fV,gj];congr 1;congr 1;omega
end M
namespace Reg
def cd(p:Nat->Nat)(i:Nat):List Nat:=(List.range i).filter fun r=>decide (p r=r)
def dh(p:Nat->Nat)(i r:Nat):List Nat:=(List.range i).filter fun m=>decide (p m=r)
def aP(p:Nat->Nat)(i:Nat):List (List Nat):=(cd p i).map (dh p i)
structure Dg(p:Nat->Nat)(n:Nat):Prop where
 le:∀m,m<n->p m<=m
 top:∀m,m<n->p (p m)=p m
theorem mem_keys{p:Nat->Nat}{i r:Nat}:r∈cd p i↔r<i/\p r=r:=by simp[cd]
theorem dx{p:Nat->Nat}{i r m:Nat}:m∈dh p i r↔m<i/\p m=r:=by simp[dh]
theorem afh(p:Nat->Nat)(i:Nat):(cd p i).Nodup:=ac2 aeb List.nodup_range
theorem fE(p:Nat->Nat)(i:Nat):cd p (i+1)=if p i=i then cd p i++[i] else cd p i:=by
 rw[cd,abM,abU];by_cases h:p i=i<;>simp[h,cd]
theorem uw(p:Nat->Nat)(i r:Nat):dh p (i+1) r=if p i=r then dh p i r++[i] else dh p i r:=by
 rw[dh,abM,abU];by_cases h:p i=r<;>simp[h,dh]
theorem Nu{p:Nat->Nat}{n i:Nat}(hp:Dg p n)(hi:i<=n):dh p i i=[]:=by
 refine acY.2 fun m z=>?_;have h1:=abD.1 z;have:=hp.le m (by omega);simp;omega
theorem Fa{p:Nat->Nat}{n i:Nat}(hp:Dg p n)(hi:i<n)(h:p i=i):aP p (i+1)=aP p i++[[i]]:=by
 rw[aP,fE,aap h,abE];congr 1
 ·refine aaG fun r z=>?_;have:=(mem_keys.1 z).1;rw[uw,aaa (by omega)]
 simp[uw,h,Nu hp (Nat.le_of_lt hi)]
theorem Nv{p:Nat->Nat}{n i:Nat}(hp:Dg p n)(hi:i<n)(h:p i≠i):∃k:Nat,(cd p i)[k]?=some (p i):=by
 have h1:=hp.le i hi;exact ab8.1 (mem_keys.2 ⟨by omega,hp.top i hi⟩)
theorem aiK{l:List Nat}(h:l.Nodup){a b x:Nat}(J:l[a]?=some x)(hb:l[b]?=some x):a=b:=by
 obtain⟨D,e1⟩:=aao.1 J;obtain⟨I,e2⟩:=aao.1 hb;rcases ada a b with z | z | z
 ·exact absurd (e1.trans e2.symm) (abk.1 h _ _ D I z)
 ·exact z
 exact absurd (e2.trans e1.symm) (abk.1 h _ _ I D z)
theorem Fb{p:Nat->Nat}{i:Nat}(h:p i≠i){k:Nat}(hk:(cd p i)[k]?=some (p i)):aP p (i+1)=(aP p i).set k (dh p i (p i)++[i])/\(aP p i)[k]?=some (dh p i (p i)):=by
 have z:=(aao.1 hk).1;refine⟨?_,by rw[aP,aak,hk];rfl⟩;rw[aP,fE,aaa h];apply ach;intro m;rw[ahw (by rw[aP,aej];exact z),aP,aak,aak];by_cases e:m=k
 ·subst e;rw[aap rfl,hk];simp[uw]
 rw[aaa e];cases hm:(cd p i)[m]? with
 | none=>rfl
 | some r=>
  have D:p i≠r:=fun e2=>e (aiK (afh p i) hm (by rw[hk,e2]));simp[uw,D]
theorem oq(p:Nat->Nat)(i:Nat):(aP p i).length=(cd p i).length:=by simp[aP]
theorem qI(p:Nat->Nat)(i:Nat):(cd p i).length<=i:=by
 have:=adb (fun r=>decide (p r=r)) (List.range i);simpa [cd] using this
theorem qJ(p:Nat->Nat)(i r:Nat):(dh p i r).length<=i:=by
 have:=adb (fun m=>decide (p m=r)) (List.range i);simpa [dh] using this
def cQ(u:List Int)(i:Nat):Nat:=(cw i u i).2
variable {u:List Int}
theorem iM(z:UF u){i:Nat}(hi:i<u.length):eh u i (cQ u i):=(fU i u i z hi (aam _)).root
theorem zo(z:UF u){i r:Nat}(h:eh u i r):cQ u i=r:=(iM z h.lt).uniq h
theorem rz(z:UF u):Dg (cQ u) u.length:=
 ⟨fun m D=>(iM z D).le z,fun m D=>by
  have h:=iM z D;exact zo z (.here _ h.top)⟩
theorem ae8(z:UF u){i k:Nat}(hi:i<u.length)(hk:k<u.length):kU u i k↔cQ u i=cQ u k:=
 ⟨fun ⟨r,D,I⟩=>(zo z D).trans (zo z I).symm,fun e=>⟨_,iM z hi,by rw[e];exact iM z hk⟩⟩
end Reg
namespace M
open Go.AM Go.RowKit Go.Lib
open Reg (UF eh iota)
def sR(n i:Nat):List Int:=(List.range n).map fun (j:Nat)=>if j<i then (j:Int) else 0
theorem zp(n i:Nat):(sR n i).length=n:=by simp[sR]
theorem Fc{n i:Nat}(h:i<n):(sR n i)[i]?=some 0:=by
 rw[sR,aak,abP h];simp
theorem BK(n:Nat):aA (sR n 0)=List.replicate n [i64 0]:=by
 refine ach fun m=>?_;rw[aA,aak,sR,aak,aec];by_cases h:m<n
 ·rw[abP h,aap h];rfl
 rw[aaa h,abI (by simp;omega)];rfl
theorem Fe(n:Nat):sR n n=iota n:=aaG fun j z=>aap (abD.1 z)
theorem Ff{n i:Nat}(h:i<n):(sR n i).set i (i:Int)=sR n (i+1):=by
 refine ach fun m=>?_;rw[Reg.ahw (by rw[zp];exact h),sR,sR,aak,aak];by_cases e:m=i
 ·subst e;rw[aap rfl,abP h];simp
 rw[aaa e];by_cases D:m<n
 ·rw[abP D];simp only[ab6,Option.some.injEq];by_cases z:m<i
  ·rw[aap z,aap (by omega)]
  rw[aaa z,aaa (by omega)]
 rw[abI (by simp;omega)];rfl
theorem KJ(n:Nat)(hn:n<=1000000000):af C 181 [.pv (i64 n)] (.hown [.row 3 (aA (iota n))]) []:=by
 refine UO ⟨[],[0],[],[],[],[]⟩ hC Tryz.func181 rfl (by kernel_rfl) fun _=>⟨_,au.refl _ _,?_⟩;refine⟨⟨by omega,by omega,by dsimp only;omega,by omega⟩,?_⟩;refine p7 (fun _:Unit=>True) (fun _=>[(3,.bx 8 0)]) (fun _=>[(8,.box [.ow 6]),(6,.row 3 (aA (iota n)))]) (fun _ hO t h=>?_) ?_
 ·exact⟨_,au.pack (by exact hC) _ 8 (cs:=[.row 3 (aA (iota n))]) (by exact rfl) (by exact rfl) (by exact⟨Z,Y⟩),And.intro rfl (And.intro rfl trivial)⟩
 refine aJ (fun i:Nat=>i<=n) (fun i=>[(3,.bx 8 0),(13,.p (i64 n)),(14,.p (i64 i))]) (fun i=>[(8,.box [.ow 6]),(6,.row 3 (aA (sR n i)))]) (fun i=>n-i) 0 _ (au.refl _ _) (aaj _) ⟨rfl,adV (fun m:Nat=>AV.p (i64 m)) aan,Z,Y⟩ ⟨rfl,by rw[BK];rfl,trivial⟩ fun i hi t h=>?_;have lv:=bQ (sR n i);have lu:=zp n i;apply iW<;>intro h1
 ·exact⟨⟨by omega,by rw[lv];omega⟩,[i64 0],(cM (Fc (by omega))),wO (by omega),(i+1),_,au.refl _ _,by omega,by omega,⟨Z,Z,Z,Y⟩,⟨rfl,adV (AB.row _) ((fV _ _ _).trans (by rw[aaS,Ff (by omega)])),trivial⟩⟩
 have e:i=n:=by omega
 subst e;exact⟨(),trivial,⟨Z,Y⟩,⟨rfl,adV (AB.row _) (adV aA (Fe i)),trivial⟩⟩
theorem I4(k:IntKind)(a b:Int):Ak (.int k a) (.int k b)=decide (a=b):=rfl
theorem PJ{q:IntKind}{k:Int}{z:Value}(h:Ak (.int q k) z=true):∃D,z=.int D k:=by
 cases z<;>simp_all [Ak]
theorem mE(v:PV)(q:IntKind)(k n:Int):∀es:List (Value×PV),kz (mP es (.int q k) v) (.int q n)=if n=k then some v else kz es (.int q n)
 | []=>by
  simp only[mP,kz,I4];by_cases h:n=k<;>simp[h]
 | (k',u)::r=>by
  simp only[mP];cases h:Ak (.int q k) k'
  ·simp only[kz,mE v q k n r];by_cases e:n=k
   ·subst e;simp[h]
   simp[e]
  obtain⟨z,e⟩:=PJ h;subst e;simp only[kz,I4];by_cases e:n=k
  ·simp[e]
  rw[show Ak (Value.int q n) (Value.int z k)=decide (n=k) from rfl];simp[e]
theorem Hy(u:List Int)(D:UF u)(i r:Nat)(z:eh u i r):af C 243 [.aN [.row 3 (aA u)],.pv (i64 i)] (.p (i64 r)) [.aN [.row 3 (aA (Reg.cw i u i).1)]]:=by
 have h:=vF u D i z.lt;rw[(Reg.fU i u i D z.lt (aam _)).root.uniq z]at h;exact h
def hl(l:List Nat):List HX:=[.row 3 (aA (l.map fun (m:Nat)=>(m:Int)))]
def pl(l:List Nat):List PV:=[.sl (aA (l.map fun (m:Nat)=>(m:Int)))]
def ou(u:List Int):Nat->List Int
 | 0=>u
 | i+1=>(Reg.cw i (ou u i) i).1
structure PK(u:List Int)(i:Nat)(es:List (Value×PV)):Prop where
 le:i<=u.length
 key:∀(k r:Nat),(Reg.cd (Reg.cQ u) i)[k]?=some r->kz es (.int .i64 r)=some (i64 k)
theorem zq{u:List Int}(z:UF u):∀i,i<=u.length->UF (ou u i)/\(ou u i).length=u.length/\∀m r,eh (ou u i) m r↔eh u m r
 | 0,_=>⟨z,rfl,fun _ _=>aaT⟩
 | i+1,h=>by
  obtain⟨a,b,c⟩:=zq z i (by omega);have t:=Reg.fU i (ou u i) i a (by omega) (aam _);exact⟨t.uf,t.len.trans b,fun m r=>(t.same m r).trans (c m r)⟩
theorem BL(D:List (List Nat)):xH (D.map hl):=fun r I x z=>by
 obtain⟨l,_,rfl⟩:=adS.1 I;simp only[hl,adq,ab2,or_false]at z;subst z;trivial
theorem zr(f:AV->AV)(z:List (List Nat)):(z.map hl).map (fun r=>r.map (HX.cS f))=z.map hl:=by
 rw[abd];rfl
theorem vG(l:List Nat)(y:HX):(hl l).set 0 y=[y]:=rfl
theorem ae3(f:AV->AV)(z:List (List Nat))(k d:Nat)(h:f (.ow d)=.ow d):((z.map hl).set k [.av (.ow d)]).map (fun r=>r.map (HX.cS f))=(z.map hl).set k [.av (.ow d)]:=by
 rw[abL,zr];simp only[aa8,ac1,HX.cS,h]
theorem SH(f:AV->AV)(z:List (List Nat))(x:List (List HX)):(z.map hl++x).map (fun r=>r.map (HX.cS f))=z.map hl++x.map (fun r=>r.map (HX.cS f)):=by
 rw[abE,zr]
theorem vH(z:List (List Nat))(k d:Nat)(hk:k<z.length):((z.map hl).set k [.av (.ow d)])[k]?=some [.av (.ow d)]:=ab7 (by rw[aej];exact hk)
theorem ux{α:Type}(l:List α)(x y:α)(n:Nat)(h:n=l.length):(l++[x]).set n y=l++[y]:=by subst h;simp
theorem Vn(D:List (List Nat)):Oi (D.map hl) (D.map pl):=Oi.map fun l _=>⟨rfl,fun j u v z I=>by
 match j with
 | 0=>
  simp only[hl,pl,aa9,Option.some.injEq]at z I;subst z;subst I;exact .row _ _
 | j+1=>simp[hl]at z⟩
theorem Hz(u:List Int)(J:UF u)(hn:u.length<=1000000000):af C 183 [.aN [.row 3 (aA u)]] (.own 71 ((Reg.aP (Reg.cQ u) u.length).map pl)) [.aN [.row 3 (aA (ou u u.length))]]:=by
 refine UO ⟨[10],[0],[(10,[3,1000003,7])],[10],[(10,[true,true,true,false,true,true,true,true,true,true,true,true,false,true,true])],[]⟩ hC Tryz.func183 rfl (by kernel_rfl) fun _=>⟨_,au.open hC _ 100000 [90000] (by exact rfl) rfl rfl rfl,?_⟩;obtain⟨p,hp⟩:∃p,p=Reg.cQ u:=⟨_,rfl⟩;have N:Reg.Dg p u.length:=hp▸Reg.rz J;rw[<-hp];refine p7 (fun _:Unit=>True) (fun _=>[(0,.bx 100000 0),(3,.ow 3)]) (fun _=>[(100000,.aN [.row 3 (aA (ou u u.length))]),(3,.az 71 ((Reg.aP p u.length).map hl))]) (fun _ hO t h=>?_) ?_
 ·exact⟨_,au.ID (by exact hC) _ 2 ((Reg.aP p u.length).map pl) (e:=71) (by exact adV (AB.az _) (zr (rn 3 2) _)) (Vn _),And.intro rfl (And.intro rfl (And.intro rfl trivial))⟩
 refine aJ (fun x:Nat×List (Value×PV)=>PK u x.1 x.2) (fun x=>[(0,.bx 100000 0),(3,.ow 3),(4,.ow 7),(12,.p (i64 u.length)),(13,.p (i64 x.1))]) (fun x=>[(100000,.aN [.row 3 (aA (ou u x.1))]),(3,.az 71 ((Reg.aP p x.1).map hl)),(7,.map (.int .i64) x.2)]) (fun x=>u.length-x.1) (0,[]) _ ((au.pack (by exact hC) _ 100000 (cs:=[.row 3 (aA u)]) (by exact rfl) (by exact rfl) (by exact⟨Z,Y⟩)).trans ((au.dk (by exact hC) _ 3 71 _ (by decide) (by exact rfl) (by exact rfl) (by decide)).trans (au.Wg (by exact hC) _ 3 (e:=71) (es:=[]) (by exact rfl)))) ⟨aaj _,fun k r h=>by simp[Reg.cd]at h⟩ ⟨rfl,rfl,rfl,adV (fun m:Nat=>AV.p (i64 m)) (bQ u),Z,Y⟩ ⟨Z,Z,Z,Y⟩ fun ⟨i,es⟩ W t h=>?_;obtain⟨O,D⟩:=W;simp only at O D;rw[<-hp]at D;obtain⟨vu,vl,vr⟩:=zq J i O;apply iW<;>intro g<;>try simp only[zB]at g
 ·have z:eh (ou u i) i (p i):=(vr _ _).2 (by rw[hp];exact Reg.iM J (by omega));refine⟨_,_,(Hy _ vu i (p i) z),iW ?_ ?_⟩<;>intro g2<;>try simp only[zB]at g2
  ·have e:p i=i:=by omega
   have L:=Reg.Fa N (show i<u.length by omega) e;have kl:(Reg.cd p i).length<=i:=Reg.qI p i;have sl:(Reg.aP p i).length=(Reg.cd p i).length:=Reg.oq p i;refine⟨⟨fun r z=>by simp at z;subst z;rfl,by simp only[aej,aaM,aan];omega,by simp only[aej,aaM,aan];omega⟩,?_⟩;refine qy ((au.Sr (by exact hC) _ 3 (Reg.aP p i).length 0 (e:=71) (e':=3) (es:=(Reg.aP p i).map hl++[[.av .nl]]) (r:=[.av .nl]) (by exact adV (AB.az _) (by simp only[zr,SH];rfl)) (by rw[acu (by simp)];simp) (by exact rfl) (by exact rfl) (by decide)).trans (au.rq (by exact hC) _ 3 (Reg.aP p i).length 0 90001 (e:=71) (es:=(Reg.aP p i++[[]]).map hl) (e':=3) (r:=hl []) (xs:=[]) (by decide) (by decide) (by exact adV (AB.az _) (by rw[abE];refine (ux _ _ _ _ (aej _).symm).trans ?_;rfl)) (BL _) (by rw[abE,acu (by simp)];simp) (by exact rfl))) ?_;have R:∀v,kz (mP es (.int .i64 i) v) (.int .i64 (p i))=some v:=fun v=>by rw[mE,aap (by rw[e])]
   refine⟨(some _),(R _),(some _),(R _),?_⟩;have I:(List.map (fun r=>List.map (HX.cS (sc 18)) r) (List.map hl (Reg.aP p i))).length=(Reg.aP p i).length:=by simp
   refine⟨⟨by dsimp only;omega,by simp⟩,[.av (.ow 90001)],(by rw[vG,ae3,ae3];rw[I];exact vH (Reg.aP p i++[[]]) (Reg.aP p i).length 90001 (by simp);rfl;rfl),⟨fun r z=>by simp at z;subst z;rfl,by simp,by simp⟩,⟨by dsimp only;omega,by simp⟩,[.av (.ow 90001)],(by rw[vG,ae3,ae3];rw[I];exact vH (Reg.aP p i++[[]]) (Reg.aP p i).length 90001 (by simp);rfl;rfl),wO (by omega),(i+1,mP es (.int .i64 i) (i64 (Reg.aP p i).length)),_,au.Bm (by exact hC) _ 3 (Reg.aP p i).length 0 41 (e:=71) (es:=((Reg.aP p i++[[]]).map hl).set (Reg.aP p i).length [.av (.ow 41)]) (e':=3) (xs:=aA [(i:Int)]) (by decide) (by exact congrArg (AB.az _) (by rw[vG,ae3,ae3,I];exact List.set_set _;rfl;rfl)) (by exact rfl) (vH _ _ _ (by simp)) (by exact rfl),⟨by omega,fun k r hk=>?_⟩,⟨by omega,⟨Z,Z,Z,Z,Z,Y⟩,⟨rfl,?_,congrArg (AB.map _) ?_,trivial⟩⟩⟩
   ·rw[<-hp,Reg.fE,aap e]at hk;rw[mE];by_cases LG:k<(Reg.cd p i).length
    ·rw[aaE LG]at hk;have:=(Reg.mem_keys.1 (aad hk)).1;rw[aaa (by omega)];exact D k r hk
    rw[acu (by omega)]at hk;have Im:k=(Reg.cd p i).length:=by
     have:=(aao.1 hk).1;simp at this;omega
    subst Im;simp only[aab,aa9,Option.some.injEq]at hk;subst hk;rw[aap rfl,sl]
   ·refine adV (AB.az _) ?_;show ((List.map hl (Reg.aP p i++[[]])).set _ _).set _ _=List.map hl (Reg.aP p (i+1));rw[adL,L,abE,abE];exact ux _ _ _ _ (aej _).symm
   dsimp only;rw[I];rfl
  have e:p i≠i:=by omega
  obtain⟨k,hk⟩:=Reg.Nv N (show i<u.length by omega) e;obtain⟨L,Gp⟩:=Reg.Fb e hk;have U:=D k (p i) hk;have SI:((Reg.aP p i).map hl)[k]?=some (hl (Reg.dh p i (p i))):=by rw[aak,Gp];rfl
  refine qy (au.rq (by exact hC) _ 3 k 0 90001 (e:=71) (by decide) (by decide) (by exact adV (AB.az _) (by simp only[zr])) (BL _) SI (by exact rfl)) ?_;refine⟨(some (i64 k)),U,(some (i64 k)),U,?_⟩;have kl:=(aao.1 hk).1;have sl:(Reg.aP p i).length=(Reg.cd p i).length:=Reg.oq p i;refine⟨⟨by omega,by simp only[aej,aaM];omega⟩,[.av (.ow 90001)],(by rw[vG,ae3,ae3];exact vH (Reg.aP p i) k 90001 (by omega);rfl;rfl),?_⟩;have ml:=Reg.qJ p i (p i);refine⟨⟨fun r z=>by simp at z;subst z;rfl,by simp only[bQ,aej,aaM,aan];omega,by simp only[bQ,aej,aaM,aan];omega⟩,⟨by omega,by simp only[aej,aaM];omega⟩,[.av (.ow 90001)],(by rw[vG,ae3,ae3];exact vH (Reg.aP p i) k 90001 (by omega);rfl;rfl),wO (by omega),(i+1,es),_,au.Bm (by exact hC) _ 3 k 0 41 (e:=71) (es:=((Reg.aP p i).map hl).set k [.av (.ow 41)]) (e':=3) (xs:=aA ((Reg.dh p i (p i)++[i]).map fun (m:Nat)=>(m:Int))) (by decide) (by exact adV (AB.az _) (by rw[vG,ae3,ae3];exact adL _;rfl;rfl)) (by exact adV (AB.row _) (by simp[aA];rfl)) (vH _ _ _ (by omega)) (by exact rfl),⟨by omega,fun k' r V=>?_⟩,⟨by omega,⟨Z,Z,Z,Z,Z,Y⟩,⟨rfl,?_,Z,Y⟩⟩⟩
  ·rw[<-hp,Reg.fE,aaa e]at V;exact D k' r V
  refine adV (AB.az _) ?_;show ((List.map hl (Reg.aP p i)).set _ _).set _ _=List.map hl (Reg.aP p (i+1));rw[adL,L,abL];rfl
 have e:i=u.length:=by omega
 subst e;exact⟨(),trivial,⟨Z,Z,Y⟩,⟨Z,Z,Y⟩⟩
end M
namespace Reg
def P4(K:Int)(r:ae):Prop:=(-K<=r.x0/\r.x0<=K)/\(-K<=r.y0/\r.y0<=K)/\(-K<=r.x1/\r.x1<=K)/\(-K<=r.y1/\r.y1<=K)
theorem Q8{K:Int}{r:ae}(h:Full r)(k:RK K r):P4 K r:=by
 obtain⟨h1,h2⟩:=h;obtain⟨k1,k2,k3,k4⟩:=k;exact⟨⟨by omega,by omega⟩,⟨by omega,by omega⟩,⟨by omega,by omega⟩,⟨by omega,by omega⟩⟩
end Reg
namespace M
open Go.AM Go.RowKit Go.Lib
open Reg (ae P4 fT bA)
def pt(p:Int×Int):List PV:=[i64 p.1,i64 p.2]
theorem BM(a b:ae)(z:P4 1000000000 a)(hb:P4 1000000000 b):af C 98 [.pv (.ag (rc a)),.pv (.ag (rc b))] (.p (i64 (fT a b))) []:=by
 obtain⟨a1,a2,a3,a4⟩:=z;obtain⟨b1,b2,b3,b4⟩:=hb;refine fW hC Tryz.func98 rfl (by kernel_rfl) fun _=>?_;refine⟨_,_,(r8 a.x0 a.x1 b.x0 b.x1 (by omega)),_,_,(r8 a.y0 a.y1 b.y0 b.y1 (by omega)),?_,trivial⟩;rfl
theorem drop_at{α:Type}{l:List α}{i:Nat}{x:α}(h:l[i]?=some x):l.drop i=x::l.drop (i+1):=by
 obtain⟨hi,e⟩:=aao.1 h;rw[ab1 hi,e]
open Reg (aU an bw bE cv IV bN bK told dJ a_ coreS ahD Canon Full RK at')
theorem Fg{s:List an}(h:bE s)(hb:cv 1450000 s):(told s).length<=4398046511104:=by
 have h1:=Reg.ahe h (by omega) hb;have h2:=Reg.uj (M:=1450000) (s:=s) fun t z=>by have:=Reg.kT h (by omega) hb t z;omega
 have h3:s.length*1450000<=2900000*1450000:=abf _ (by omega);omega
theorem AP(s:List an)(D:bE s)(ks:cv 1450000 s)(l r d u:Int)(hl:0<=l/\l<=100000)(hr:0<=r/\r<=100000)(hd:0<=d/\d<=100000)(hu:0<=u/\u<=100000):af C 80 [.pv (aw s),.pv (i64 l),.pv (i64 r),.pv (i64 d),.pv (i64 u)] (.p (aw (a_ s l r d u))) []:=by
 refine fW hC Tryz.func80 rfl (by kernel_rfl) fun _=>?_;have ls:=Reg.ahe D (by omega) ks;have O:=Reg.kT D (by omega) ks;have lt:=Fg D ks;have I:=Reg.bP D;have J:=Reg.fR D ks;refine⟨_,_,(ae6 s (by omega) (fun t R=>by have:=O t R;omega) lt),?_⟩;have U:=kG ((told s).map (dJ l r d u)) 1550000 (by omega) (by omega) (fun q z=>by
  obtain⟨p,hp,rfl⟩:=adS.1 z;have:=I p hp;unfold Full at this;exact⟨by show p.x0-l<p.x1+r;omega,by show p.y0-d<p.y1+u;omega⟩) (fun q z=>by
  obtain⟨p,hp,rfl⟩:=adS.1 z;have:=J p hp;unfold RK at this;exact⟨by show -1550000<=p.x0-l;omega,by show -1550000<=p.y0-d;omega,by show p.x1+r<=1550000;omega,by show p.y1+u<=1550000;omega⟩) (by rw[aej];exact lt)
 rw[show a_ s l r d u=Reg.aB ((told s).map (dJ l r d u)) from rfl];generalize told s=L at *;have lm:=fun i=>ai (lQ l r d u L i) rc;have V:=IZ l r d u L;have W:lQ l r d u L 0=L:=by simp[lQ]
 refine aJ (fun i:Nat=>i<=L.length) (fun i=>[(1,.p (i64 l)),(2,.p (i64 r)),(3,.p (i64 d)),(4,.p (i64 u)),(11,.ow 11),(16,.ow 11),(17,.p (i64 (L.map rc).length)),(18,.p (i64 i))]) (fun i=>[(11,.row 87 ((lQ l r d u L i).map rc))]) (fun i=>L.length-i) 0 _ (au.refl _ _) (aaj _) ⟨Z,Z,Z,Z,Z,Z,Z,Z,Y⟩ ⟨by rw[W];rfl,trivial⟩ fun i hi t h=>?_;have lmi:=lm i;have mli:=V i;have lm0:=ai L rc;apply iW<;>intro g1
 ·obtain⟨q,z⟩:=ak (l:=L) (i:=i) (by omega);have a:=J q (aad z);have b:=I q (aad z);unfold RK at a;unfold Full at b;have N:=IY (l:=l) (r:=r) (d:=d) (u:=u) z;have mT:=I0 (l:=l) (r:=r) (d:=d) (u:=u) z;refine⟨wO (by omega),(rc q),(idx rfl N).2,wO (by omega),wO (by omega),wO (by omega),wO (by omega),wO (by omega),(rc q),(idx rfl N).2,wO (by omega),?_⟩;have e5:∀k:Nat,k=i->AB.row 87 (((lQ l r d u L i).map rc).set k (rc (dJ l r d u q)))=AB.row 87 ((lQ l r d u L (i+1)).map rc):=by
   intro k e;subst e;rw[<-abL,mT]
  exact⟨(i+1),_,au.refl _ _,by omega,by omega,⟨Z,Z,Z,Z,Z,Z,Z,Z,Y⟩,⟨e5 _ rfl,trivial⟩⟩
 have e:lQ l r d u L i=L.map (dJ l r d u):=by
  rw[lQ,adW (by omega),aaz (by omega),acw]
 rw[e];refine⟨_,_,U,?_,trivial⟩;rfl
theorem Fh(s:List an)(z:bE s)(ks:cv 1000000 s)(l r d u:Int)(hl:0<=l/\l<=100000)(I:0<=r/\r<=100000)(J:0<=d/\d<=100000)(L:0<=u/\u<=100000):af C 79 [.pv (aw s),.pv (i64 l),.pv (i64 r),.pv (i64 d),.pv (i64 u)] (.p (aw (coreS s l r d u))) []:=by
 refine fW hC Tryz.func79 rfl (by kernel_rfl) fun _=>?_;have R:=ai s hb;apply iW<;>intro N
 ·rw[R]at N;have e:s=[]:=adl (by omega);refine⟨?_,trivial⟩;rw[coreS,aap e];rfl
 rw[R]at N;have O:s≠[]:=fun e=>N (by rw[e];rfl);rw[coreS,aaa O];obtain⟨U,a2,a3⟩:=Reg.ui z O;have V:=a3 _ ks;have aN:∀q∈[dJ (l+r+d+u+1) (l+r+d+u+1) (l+r+d+u+1) (l+r+d+u+1) (bK s)],Full q:=fun q D=>by
  rw[ab_]at D;subst D;unfold Full at U;exact⟨by show (bK s).x0-(l+r+d+u+1)<(bK s).x1+(l+r+d+u+1);omega,by show (bK s).y0-(l+r+d+u+1)<(bK s).y1+(l+r+d+u+1);omega⟩
 have W:∀q∈[dJ (l+r+d+u+1) (l+r+d+u+1) (l+r+d+u+1) (l+r+d+u+1) (bK s)],RK 1400001 q:=fun q D=>by
  rw[ab_]at D;subst D;unfold RK at V;exact⟨by show -1400001<=(bK s).x0-(l+r+d+u+1);omega,by show -1400001<=(bK s).y0-(l+r+d+u+1);omega,by show (bK s).x1+(l+r+d+u+1)<=1400001;omega,by show (bK s).y1+(l+r+d+u+1)<=1400001;omega⟩
 obtain⟨Y,b2,b3⟩:=Reg.aR aN;have Z:=b3 _ W;obtain⟨c1,c2,c3⟩:=Reg.b6 Y z;have c4:=c3 1400001 Z (ks.up (by omega));obtain⟨d1,d2,d3⟩:=Reg.bW c1 I.1 hl.1 L.1 J.1;have d4:=(d3 1400001 100000 c4 I.2 hl.2 L.2 J.2).up (B:=2000000) (by omega);have so:=kG _ 1400001 (by omega) (by omega) aN W (by simp);have q1:=iJ _ s Y z (Z.up (by omega)) (ks.up (by omega));have q2:=AP _ c1 (c4.up (by omega)) r l u d I hl L J;have q3:=iJ s _ z d1 (ks.up (by omega)) d4;unfold RK at V;unfold Full at U;refine⟨_,_,(uk s z (ks.up (by omega)) O),wO (by omega),wO (by omega),wO (by omega),wO (by omega),wO (by omega),wO (by omega),wO (by omega),wO (by omega),_,_,so,_,_,q1,_,_,q2,_,_,q3,?_,trivial⟩;rfl
theorem zt(s:List an)(I:bE s)(ks:cv 1000000 s)(n:Int)(z:0<=n)(D:n<=100000):af C 133 [.pv (aw s),.pv (i64 n)] (.p (aw (coreS s n n n n))) []:=by
 refine fW hC Tryz.func133 rfl (by kernel_rfl) fun _=>?_;refine⟨_,_,(Fh s I ks n n n n ⟨z,D⟩ ⟨z,D⟩ ⟨z,D⟩ ⟨z,D⟩),?_,trivial⟩;rfl
end M
namespace Reg
end Reg
namespace M
open Go.AM Go.RowKit Go.Lib
open Reg (ae P4)
def rr(r:List ae):List PV:=[aj r]
end M
namespace Reg
def bg:ae:=⟨0,0,0,0⟩
def kK(a b:ae):Bool:=decide (a.x0<b.x1)&&decide (b.x0<a.x1)
def ov(all:List ae)(f e:Nat):Nat->List Int->Nat->Nat->List Int
 | 0,u,_,_=>u
 | n+1,u,i,j=>if i<f/\j<e then
   ov all f e n (if kK (all.getD i bg) (all.getD j bg)=true then gj u i j else u)
    (if (all.getD i bg).x1<(all.getD j bg).x1 then i+1 else i)
    (if (all.getD i bg).x1<(all.getD j bg).x1 then j else j+1)
  else u
def meets(p:Option an)(b:an):Bool:=match p with
 | some q=>decide (q.y1=b.y0)
 | none=>false
def pW(all:List ae):Option an->List an->List Int->Nat->Nat->List Int
 | _,[],u,_,_=>u
 | p,b::s,u,f,g=>pW all (some b) s (if meets p b=true then ov all f (f+b.xs.length) (f-g+b.xs.length) u g f else u) (f+b.xs.length) f
def jE(s:List an):List Int:=pW (told s) none s (iota (told s).length) 0 0
theorem xP(all:List ae)(f e:Nat):∀(n:Nat) (u:List Int) (i j:Nat),UF u->f<=u.length->e<=u.length->UF (ov all f e n u i j)/\(ov all f e n u i j).length=u.length
 | 0,u,i,j,h,_,_=>⟨h,rfl⟩
 | n+1,u,i,j,h,hf,he=>by
  rw[ov];by_cases c:i<f/\j<e
  ·rw[aap c];by_cases o:kK (all.getD i bg) (all.getD j bg)=true
   ·rw[aap o];obtain⟨a,b⟩:=mC h (i:=i) (k:=j) (by omega) (by omega);obtain⟨z,D⟩:=xP all f e n _ (if (all.getD i bg).x1<(all.getD j bg).x1 then i+1 else i) (if (all.getD i bg).x1<(all.getD j bg).x1 then j else j+1) a (by omega) (by omega);exact⟨z,D.trans b⟩
   rw[aaa o];exact xP all f e n u _ _ h hf he
  rw[aaa c];exact⟨h,rfl⟩
theorem zu(all:List ae):∀(s:List an) (p:Option an) (u:List Int) (f g:Nat),UF u->f+(told s).length<=u.length->UF (pW all p s u f g)/\(pW all p s u f g).length=u.length
 | [],p,u,f,g,h,_=>⟨h,rfl⟩
 | b::s,p,u,f,g,h,hl=>by
  have e:(told (b::s)).length=b.xs.length+(told s).length:=by simp[told]
  rw[e]at hl;rw[pW];by_cases c:meets p b=true
  ·rw[aap c];obtain⟨D,z⟩:=xP all f (f+b.xs.length) (f-g+b.xs.length) u g f h (by omega) (by omega);obtain⟨I,J⟩:=zu all s (some b) _ (f+b.xs.length) f D (by rw[z];omega);exact⟨I,J.trans z⟩
  rw[aaa c];exact zu all s (some b) u (f+b.xs.length) f h (by omega)
theorem zv(s:List an):UF (jE s)/\(jE s).length=(told s).length:=by
 have:=zu (told s) s none (iota (told s).length) 0 0 (ny _) (by rw[aeM];omega);rw[aeM]at this;exact this
def ox(s:List an):List (List ae):=(aP (cQ (jE s)) (told s).length).map fun l=>l.map fun m=>(told s).getD m bg
def cV(s:List an):List (List an):=(ox s).map aB
end Reg
namespace M
open Go.AM Go.RowKit Go.Lib
open Reg (UF eh Nt cw fU iota ae)
theorem vI(u:List Int)(O:UF u)(i:Nat)(hi:i<u.length):af C 242 [.pv (i64 i),.aN [.row 3 (aA u)]] (.p (i64 (cw i u i).2)) [.aN [.row 3 (aA (cw i u i).1)]]:=by
 refine UP ⟨[],[],[],[],[],[]⟩ hC Tryz.func242 rfl (by kernel_rfl) fun _=>⟨_,au.open hC _ 100001 [90000] (by exact rfl) rfl rfl rfl,?_⟩;obtain⟨R,J⟩:∃R,R=cw i u i:=⟨_,rfl⟩;rw[<-J];refine aJ (fun x:Nat×List Int×Nat=>cw x.1 x.2.1 x.2.2=R/\UF x.2.1/\x.2.2<x.2.1.length/\x.2.2<=x.1) (fun x=>[(1,.bx 100001 0),(0,.p (i64 x.2.2))]) (fun x=>[(100001,.box [.ow 90000]),(90000,.row 3 (aA x.2.1))]) (fun x=>x.2.2) (i,u,i) _ (au.refl _ _) ⟨J.symm,O,hi,aam _⟩ ⟨Z,Z,Y⟩ ⟨Z,Z,Y⟩ fun ⟨n,v,k⟩ U t h=>?_;obtain⟨z,I,L,N⟩:=U;simp only at z I L N;obtain⟨j,l,D,hl,q1,q2,V,W⟩:=BJ I L N;have lv:=bQ v;refine⟨⟨by omega,by (try dsimp only);rw[lv];omega⟩,[i64 j],(cM D),iW ?_ ?_⟩<;>intro g<;>try simp only[zB]at g
 ·have b8:j≠k:=by omega
  obtain⟨m,rfl,q5⟩:=W b8;refine⟨⟨by omega,by (try dsimp only);rw[lv];omega⟩,[i64 j],(cM D),⟨by omega,by (try dsimp only);rw[lv];omega⟩,[i64 l],(cM hl),⟨by omega,by (try dsimp only);rw[lv];omega⟩,[i64 j],(cM D),⟨by omega,by (try dsimp only);rw[List.length_set,lv];omega⟩,[i64 l],(by rw[List.getElem?_set_self (by (try dsimp only);rw[lv];omega)];rfl),?_⟩;exact⟨(m,v.set k (l:Int),l),_,au.refl _ _,⟨by rw[<-q5];exact z,(Reg.Ns I D hl).1,by simp only[List.length_set];omega,by dsimp only;omega⟩,by simp only;omega,⟨Z,Z,Y⟩,⟨rfl,congrArg (AB.row _) (fV v k l),trivial⟩⟩
 have e:j=k:=by omega
 have z:=(V e).symm.trans z;subst z;exact And.intro rfl (And.intro ⟨Z,Z,Y⟩ trivial)
def vJ(e:TypeId)(f:Nat->List PV)(l:List Nat):List HX:=[.row e (l.map f)]
def SJ(f:Nat->List PV)(l:List Nat):List PV:=[.sl (l.map f)]
theorem zw(e:TypeId)(f:Nat->List PV)(D:List (List Nat)):xH (D.map (vJ e f)):=fun r I x z=>by
 obtain⟨l,_,rfl⟩:=adS.1 I;simp only[vJ,adq,ab2,or_false]at z;subst z;trivial
theorem xQ(e:TypeId)(g:Nat->List PV)(f:AV->AV)(z:List (List Nat)):(z.map (vJ e g)).map (fun r=>r.map (HX.cS f))=z.map (vJ e g):=by
 rw[abd];rfl
theorem afo(e:TypeId)(f:Nat->List PV)(l:List Nat)(y:HX):(vJ e f l).set 0 y=[y]:=rfl
theorem iC(e:TypeId)(g:Nat->List PV)(f:AV->AV)(z:List (List Nat))(k d:Nat)(h:f (.ow d)=.ow d):((z.map (vJ e g)).set k [.av (.ow d)]).map (fun r=>r.map (HX.cS f))=(z.map (vJ e g)).set k [.av (.ow d)]:=by
 rw[abL,xQ];simp only[aa8,ac1,HX.cS,h]
theorem PL(e:TypeId)(g:Nat->List PV)(f:AV->AV)(z:List (List Nat))(x:List (List HX)):(z.map (vJ e g)++x).map (fun r=>r.map (HX.cS f))=z.map (vJ e g)++x.map (fun r=>r.map (HX.cS f)):=by
 rw[abE,xQ]
theorem rB(e:TypeId)(g:Nat->List PV)(z:List (List Nat))(k d:Nat)(hk:k<z.length):((z.map (vJ e g)).set k [.av (.ow d)])[k]?=some [.av (.ow d)]:=ab7 (by rw[aej];exact hk)
theorem SK(e:TypeId)(f:Nat->List PV)(D:List (List Nat)):Oi (D.map (vJ e f)) (D.map (SJ f)):=Oi.map fun l _=>⟨rfl,fun j u v z I=>by
 match j with
 | 0=>
  simp only[vJ,SJ,aa9,Option.some.injEq]at z I;subst z;subst I;exact .row _ _
 | j+1=>simp[vJ]at z⟩
end M
end Go.Proofs.YtfloceomobknoaaGreatDoor
