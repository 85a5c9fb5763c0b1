/- Part 8 of the proof of RulesHolesMatchSpec. -/
import Derived.Test.YtfloceomobknoaaGreatDoorH07
import Derived.Lib.AppendIntMem
import Derived.Lib.ItoaLen
set_option linter.unusedVariables false
set_option linter.unusedSimpArgs false
set_option maxRecDepth 100000
set_option maxHeartbeats 8000000
namespace Go
abbrev aea:=@List.Pairwise.sublist
abbrev ac1:=@List.filter_sublist
abbrev adK:=@List.range_succ
abbrev acf:=@List.filter_eq_nil_iff
abbrev ac2:=@List.getElem?_replicate
abbrev aeb:=@List.set_set
end Go
namespace Go.Proofs.YtfloceomobknoaaGreatDoor
namespace M
open Go.AM Go.RowKit Go.Lib
open Reg (ae aU an)
theorem zb(cs:List Class)(hok:∀c∈cs,C8 c)(hN:cs.length<=1048576)(i:Nat)(hi:i<cs.length):af C 202 [.pv (.sl (cs.map kl)),.pv (i64 i)] (.p (i64 (b_ cs i))) []:=by
 refine fW hC Tryz.func202 rfl (by kernel_rfl) fun _=>?_;have lm:=ai cs kl;obtain⟨c,hc⟩:=ak (l:=cs) (i:=i) hi;obtain⟨o1,o2,o3⟩:=hok c (aad hc);have cf:b_ cs i=(if iU c.name=true then (if 1000<c.nets.length then 2 else
   if cU (bZ cs i c.nets) 0 c.nets.length=0 then
    (if (cL c.clearance&&cL c.width)=true then (if dH (cs.map Class.name) i=true then 8 else 0) else 1)
   else cU (bZ cs i c.nets) 0 c.nets.length) else 5):=by rw[b_,hc]
 have lc:=ai c.nets fun s=>[str s];rw[cf];refine⟨(kl c),(idx rfl hc),?_⟩;refine⟨_,_,(qz c.name (by have:c.name.size<4294967281:=o1;omega)),?_⟩;refine iW ?_ ?_<;>intro h2
 ·refine⟨?_,trivial⟩;rw[aaa (by simp[h2])];rfl
 rw[aap (by simpa using h2)];refine iW ?_ ?_<;>intro h3
 ·refine⟨?_,trivial⟩;rw[aap (by omega)];rfl
 rw[aaa (by omega)];refine aJ (fun j:Nat=>j<=c.nets.length/\∀k,k<j->bZ cs i c.nets k=0) (fun j=>[(0,.p (.sl (cs.map kl))),(1,.p (i64 i)),(5,.bx 5 0),(6,.p (i64 j))]) (fun _=>[(5,.box [.p (str c.name),.p (strs c.nets),.p (i64 c.clearance),.p (i64 c.width)])]) (fun j=>c.nets.length-j) 0 _ (au.refl _ _) ⟨aaj _,fun k h=>by omega⟩ ⟨Z,Z,Z,Z,Y⟩ ⟨Z,Y⟩ fun j hj t h=>?_;obtain⟨p1,p2⟩:=hj;refine iW ?_ ?_<;>intro h4
 ·obtain⟨y,hy⟩:=ak (l:=c.nets) (i:=j) (by omega);have C9:bZ cs i c.nets j≠0->(if cU (bZ cs i c.nets) 0 c.nets.length=0 then
   (if (cL c.clearance&&cL c.width)=true then (if dH (cs.map Class.name) i=true then 8 else 0) else 1)
   else cU (bZ cs i c.nets) 0 c.nets.length)=bZ cs i c.nets j:=fun hb=>by
   have e:cU (bZ cs i c.nets) 0 c.nets.length=bZ cs i c.nets j:=gY hb (fun k _ hk=>p2 k hk) (aaj _) (by omega);rw[e,aaa hb]
  have nf:bZ cs i c.nets j=(if lh y=true then (if dH c.nets j=true then 8 else if seenIn (cs.take i) y=true then 7 else 0) else 5):=by rw[bZ,hy]
  refine⟨[str y],(idx rfl hy),?_⟩;refine⟨_,_,(wH y (o3 y (aad hy))),?_⟩;refine iW ?_ ?_<;>intro h5
  ·refine⟨?_,trivial⟩;rw[aaa (by simp[h5])]at nf;rw[C9 (by rw[nf];decide),nf];rfl
  rw[aap (by simpa using h5)]at nf;have next:bZ cs i c.nets j=0->∀k,k<j+1->bZ cs i c.nets k=0:=fun h0 k hk=>by
   by_cases e:k=j
   ·subst e;exact h0
   exact p2 k (by omega)
  refine iW ?_ ?_<;>intro h6
  ·obtain⟨z,hz⟩:=ak (l:=c.nets) (i:=j-1) (by omega);have bk:dH c.nets j=(mO y z||decide (y=z)):=by
    simp only[dH,hy,hz];rw[acd (by omega:0<j)];rfl
   refine⟨[str y],(idx rfl hy),?_⟩;refine⟨⟨by omega,by omega⟩,?_⟩;refine⟨[str z],(idx (show (j:Int)-1=((j-1:Nat):Int) by omega) hz),?_⟩;refine iW ?_ ?_<;>intro h7
   ·refine⟨?_,trivial⟩;have h7:(mO y z||decide (y=z))=true:=by simpa [mO] using h7
    rw[bk,h7,aap rfl]at nf;rw[C9 (by rw[nf];decide),nf];rfl
   have h7:(mO y z||decide (y=z))=false:=by simpa [mO] using h7
   rw[bk,h7,aaa (by decide)]at nf;refine aJ (fun k:Nat=>k<=i/\seenIn (cs.take k) y=false) (fun k=>[(0,.p (.sl (cs.map kl))),(1,.p (i64 i)),(5,.bx 5 0),(6,.p (i64 j)),(7,.p (i64 k))]) (fun _=>[(5,.box [.p (str c.name),.p (strs c.nets),.p (i64 c.clearance),.p (i64 c.width)])]) (fun k=>i-k) 0 _ (au.refl _ _) ⟨aaj _,rfl⟩ ⟨Z,Z,Z,Z,Z,Y⟩ ⟨Z,Y⟩ fun k hk t h=>?_;obtain⟨u1,u2⟩:=hk;refine iW ?_ ?_<;>intro h8
   ·obtain⟨d,hd⟩:=ak (l:=cs) (i:=k) (by omega);have st:seenIn (cs.take (k+1)) y=hasB d.nets y:=by
     rw[aZ hd];unfold seenIn at *;rw[abL,u2];simp
    refine⟨(kl d),(idx rfl hd),?_⟩;refine⟨[str y],(idx rfl hy),?_⟩;refine⟨_,_,(Eu d.nets y (by have:=(hok d (aad hd)).2.1;omega)),?_⟩;refine iW ?_ ?_<;>intro h9
    ·have sn:seenIn (cs.take i) y=true:=by
      unfold seenIn;rw[aci];exact⟨d,ab8.2 ⟨k,by rw[aa7,aap (by omega)];exact hd⟩,h9⟩
     rw[sn,aap rfl]at nf;refine⟨?_,trivial⟩;rw[C9 (by rw[nf];decide),nf];rfl
    refine⟨⟨by omega,by omega⟩,?_⟩;exact⟨(k+1),_,au.refl _ _,⟨by omega,by rw[st];simpa using h9⟩,by omega,⟨Z,Z,Z,Z,Z,Y⟩,⟨Z,Y⟩⟩
   have e:k=i:=by omega
   subst e;rw[u2,aaa (by decide)]at nf;refine⟨⟨by omega,by omega⟩,?_⟩;exact⟨(j+1),_,au.refl _ _,⟨by omega,next nf⟩,by omega,⟨Z,Z,Z,Z,Y⟩,⟨Z,Y⟩⟩
  have h0:j=0:=by omega
  have bk:dH c.nets j=false:=by
   subst h0;simp only[dH,hy];rfl
  rw[bk,aaa (by decide)]at nf;refine aJ (fun k:Nat=>k<=i/\seenIn (cs.take k) y=false) (fun k=>[(0,.p (.sl (cs.map kl))),(1,.p (i64 i)),(5,.bx 5 0),(6,.p (i64 j)),(7,.p (i64 k))]) (fun _=>[(5,.box [.p (str c.name),.p (strs c.nets),.p (i64 c.clearance),.p (i64 c.width)])]) (fun k=>i-k) 0 _ (au.refl _ _) ⟨aaj _,rfl⟩ ⟨Z,Z,Z,Z,Z,Y⟩ ⟨Z,Y⟩ fun k hk t h=>?_;obtain⟨u1,u2⟩:=hk;refine iW ?_ ?_<;>intro h8
  ·obtain⟨d,hd⟩:=ak (l:=cs) (i:=k) (by omega);have st:seenIn (cs.take (k+1)) y=hasB d.nets y:=by
    rw[aZ hd];unfold seenIn at *;rw[abL,u2];simp
   refine⟨(kl d),(idx rfl hd),?_⟩;refine⟨[str y],(idx rfl hy),?_⟩;refine⟨_,_,(Eu d.nets y (by have:=(hok d (aad hd)).2.1;omega)),?_⟩;refine iW ?_ ?_<;>intro h9
   ·have sn:seenIn (cs.take i) y=true:=by
     unfold seenIn;rw[aci];exact⟨d,ab8.2 ⟨k,by rw[aa7,aap (by omega)];exact hd⟩,h9⟩
    rw[sn,aap rfl]at nf;refine⟨?_,trivial⟩;rw[C9 (by rw[nf];decide),nf];rfl
   refine⟨⟨by omega,by omega⟩,?_⟩;exact⟨(k+1),_,au.refl _ _,⟨by omega,by rw[st];simpa using h9⟩,by omega,⟨Z,Z,Z,Z,Z,Y⟩,⟨Z,Y⟩⟩
  have e:k=i:=by omega
  subst e;rw[u2,aaa (by decide)]at nf;refine⟨⟨by omega,by omega⟩,?_⟩;exact⟨(j+1),_,au.refl _ _,⟨by omega,next nf⟩,by omega,⟨Z,Z,Z,Z,Y⟩,⟨Z,Y⟩⟩
 have z0:cU (bZ cs i c.nets) 0 c.nets.length=0:=eZ fun k _ hk=>p2 k (by omega);rw[aap z0];have bn:∀d,cs[i-1]?=some d->0<i->dH (cs.map Class.name) i=(mO c.name d.name||decide (c.name=d.name)):=fun d hd h0=>by
  simp only[dH,aak,hc,hd,ab6];rw[acd h0];rfl
 refine⟨_,_,(iT c.clearance),?_⟩;refine iW ?_ ?_<;>intro g1
 ·refine⟨?_,trivial⟩;rw[aaa (by simp[g1])];rfl
 refine⟨_,_,(iT c.width),?_⟩;refine iW ?_ ?_<;>intro g2
 ·refine⟨?_,trivial⟩;rw[aaa (by simp[g2])];rfl
 rw[aap (by simp[g1,g2])];refine iW ?_ ?_<;>intro g3
 ·obtain⟨d,hd⟩:=ak (l:=cs) (i:=i-1) (by omega);refine⟨⟨by omega,by omega⟩,?_⟩;refine⟨(kl d),(idx (show (i:Int)-1=((i-1:Nat):Int) by omega) hd),?_⟩;rw[bn d hd (by omega)];refine iW ?_ ?_<;>intro g4
  ·refine⟨?_,trivial⟩;have g4:(mO c.name d.name||decide (c.name=d.name))=true:=by simpa [mO] using g4
   rw[g4];rfl
  have g4:(mO c.name d.name||decide (c.name=d.name))=false:=by simpa [mO] using g4
  refine⟨?_,trivial⟩;rw[g4];rfl
 have h0:i=0:=by omega
 have bk:dH (cs.map Class.name) i=false:=by
  subst h0;simp only[dH,aak,hc];rfl
 refine⟨?_,trivial⟩;rw[bk];rfl
theorem zc(r:cP)(ho:e8 r):af C 130 [.pv (.ag (rl r))] (.p (i64 (bC r))) []:=by
 refine fW hC Tryz.func130 rfl (by kernel_rfl) fun _=>?_;obtain⟨o1,o2,o3⟩:=ho;have lm:=ai r.areas arr;have lc:=ai r.classes kl;refine⟨_,_,(iT r.clearance),?_⟩;refine iW ?_ ?_<;>intro h1
 ·refine⟨?_,trivial⟩;rw[bC,aaa (by simp[gM,h1])];rfl
 refine⟨_,_,(iT r.width),?_⟩;refine iW ?_ ?_<;>intro h2
 ·refine⟨?_,trivial⟩;rw[bC,aaa (by simp[gM,h2])];rfl
 refine⟨_,_,(iT r.ring),?_⟩;refine iW ?_ ?_<;>intro h3
 ·refine⟨?_,trivial⟩;rw[bC,aaa (by simp[gM,h3])];rfl
 refine⟨_,_,(iT r.edge),?_⟩;refine iW ?_ ?_<;>intro h4
 ·refine⟨?_,trivial⟩;rw[bC,aaa (by simp[gM,h4])];rfl
 refine⟨_,_,(iT r.holeGap),?_⟩;refine iW ?_ ?_<;>intro h5
 ·refine⟨?_,trivial⟩;rw[bC,aaa (by simp[gM,h5])];rfl
 rw[bC,aap (by simp[gM,h1,h2,h3,h4,h5])];refine iW ?_ ?_<;>intro h6
 ·refine⟨?_,trivial⟩;rw[show dn r.classes=2 by rw[dn,aap (by omega)]];rfl
 have ce:dn r.classes=cU (b_ r.classes) 0 r.classes.length:=by rw[dn,aaa (by omega)]
 rw[ce];refine aJ (fun i:Nat=>i<=r.classes.length/\∀k,k<i->b_ r.classes k=0) (fun i=>[(1,.bx 1 0),(3,.p (i64 i))]) (fun _=>[(1,.box (C_ r))]) (fun i=>r.classes.length-i) 0 _ (au.refl _ _) ⟨aaj _,fun k h=>by omega⟩ ⟨Z,Z,Y⟩ ⟨Z,Y⟩ fun i hi t h=>?_;obtain⟨q1,q2⟩:=hi;refine iW ?_ ?_<;>intro h7
 ·refine⟨_,_,(zb r.classes o1 o2 i (by omega)),?_⟩;refine iW ?_ ?_<;>intro h8
  ·have h8:¬b_ r.classes i=0:=by simpa using h8
   have e:=gY (f:=b_ r.classes) (m:=i) h8 (n:=r.classes.length) (i:=0) (fun k _ hk=>q2 k hk) (aaj _) (by omega);refine⟨?_,trivial⟩;rw[e,aaa h8]
  have h8:b_ r.classes i=0:=by simpa using h8
  refine⟨⟨by omega,by omega⟩,?_⟩;refine⟨(i+1),_,au.refl _ _,?_⟩;refine⟨⟨by omega,fun k hk=>?_⟩,by omega,⟨Z,Z,Y⟩,⟨Z,Y⟩⟩;by_cases e:k=i
  ·subst e;exact h8
  exact q2 k (by omega)
 rw[aap (eZ fun k _ hk=>q2 k (by omega))];refine iW ?_ ?_<;>intro h9
 ·refine⟨?_,trivial⟩;rw[iI,aap (by omega)];rfl
 rw[iI,aaa (by omega)];refine aJ (fun i:Nat=>i<=r.areas.length/\(∀k,k<i->cR r.areas k=0)/\ed (r.areas.take i)<=i*1000000) (fun i=>[(1,.bx 1 0),(5,.p (i64 (ed (r.areas.take i)))),(6,.p (i64 i))]) (fun _=>[(1,.box (C_ r))]) (fun i=>r.areas.length-i) 0 _ (au.refl _ _) ⟨aaj _,fun k h=>by omega,by simp[ed]⟩ ⟨Z,Z,Z,Y⟩ ⟨Z,Y⟩ fun i hi t h=>?_;obtain⟨q1,q2,q3⟩:=hi;refine iW ?_ ?_<;>intro h3
 ·obtain⟨a,ha⟩:=ak (l:=r.areas) (i:=i) (by omega);have bad:cR r.areas i≠0->cU (cR r.areas) 0 r.areas.length=cR r.areas i:=fun hb=>gY hb (fun k _ hk=>q2 k hk) (aaj _) (by omega);have cf:cR r.areas i=(if (decide (-1<=a.layer)&&decide (a.layer<=15))=true then (if Reg.aF a.region=0 then (if cL a.clearance=true then 0 else 1) else Reg.aF a.region) else 1):=by rw[cR,ha]
  have la:=ai a.region rc;refine⟨(arr a),(idx rfl ha),?_⟩;refine⟨_,_,(wD a.layer (-1) 15),?_⟩;refine iW ?_ ?_<;>intro h4
  ·refine⟨?_,trivial⟩;rw[aaa (by simpa using h4)]at cf;rw[bad (by rw[cf];decide),cf];rfl
  rw[aap (by simpa using h4)]at cf;refine⟨_,_,(kS a.region),?_⟩;refine iW ?_ ?_<;>intro h5
  ·refine⟨?_,trivial⟩;have h5:¬Reg.aF a.region=0:=by simpa using h5
   rw[aaa h5]at cf;rw[bad (by rw[cf];exact h5),cf,aaa h5]
  have h5:Reg.aF a.region=0:=by simpa using h5
  rw[aap h5]at cf;have hl:=yY h5;refine⟨_,_,(iT a.clearance),?_⟩;refine iW ?_ ?_<;>intro h6
  ·refine⟨?_,trivial⟩;rw[aaa (by simp[h6])]at cf;rw[bad (by rw[cf];decide),cf];rfl
  rw[aap (by simpa using h6)]at cf;have s1:ed (r.areas.take (i+1))=ed (r.areas.take i)+a.region.length:=by
   rw[aZ ha,wM];simp[ed]
  refine⟨⟨by omega,by omega⟩,?_⟩;refine⟨⟨by omega,by omega⟩,?_⟩;refine⟨(i+1),_,au.refl _ _,?_⟩;refine⟨⟨by omega,fun k hk=>?_,by omega⟩,by omega,⟨rfl,a8 (by omega),Z,Y⟩,⟨Z,Y⟩⟩;by_cases e:k=i
  ·subst e;exact cf
  exact q2 k (by omega)
 have e:i=r.areas.length:=by omega
 subst e;have z0:cU (cR r.areas) 0 r.areas.length=0:=eZ fun k _ hk=>q2 k (by omega);rw[aap z0];have tl:r.areas.take r.areas.length=r.areas:=abU;refine iW ?_ ?_<;>intro h7
 ·refine⟨?_,trivial⟩;rw[tl]at h7;rw[aap (by omega)];rfl
 refine⟨?_,trivial⟩;rw[tl]at h7;rw[aaa (by omega)];rfl
theorem r9:∀a b:List UInt8,Op.bytesLess a b=true\/a=b\/Op.bytesLess b a=true
 | [],[]=>.inr (.inl rfl)
 | [],y::ys=>.inl rfl
 | x::xs,[]=>.inr (.inr rfl)
 | x::xs,y::ys=>by
  rw[bytesLess_eq,bytesLess_eq];simp only[aaH,List.cons_lt_cons_iff];have ih:=r9 xs ys;rw[bytesLess_eq,bytesLess_eq]at ih;simp only[aaH]at ih;rcases ada x.toNat y.toNat with h | h | h
  ·exact .inl (.inl (UInt8.lt_iff_toNat_lt.2 h))
  ·have e:x=y:=UInt8.toNat_inj.1 h;subst e;rcases ih with h | h | h
   ·exact .inl (.inr ⟨rfl,h⟩)
   ·exact .inr (.inl (by rw[h]))
   exact .inr (.inr (.inr ⟨rfl,h⟩))
  exact .inr (.inr (.inl (UInt8.lt_iff_toNat_lt.2 h)))
theorem Ho{a b:ByteArray}(h:(mO a b||decide (a=b))=false):mO b a=true:=by
 rw[adX]at h;rcases r9 a.data.toList b.data.toList with h1 | h1 | h1
 ·rw[mO,h1]at h;cases h.1
 ·have:a=b:=by
   cases a with | mk a=>cases b with | mk b=>
   simp only at h1;rw[Array.toList_inj.1 h1]
  exact absurd this (of_decide_eq_false h.2)
 exact h1
theorem xt{l:List ByteArray}(h:∀(j:Nat) a b,l[j]?=some a->l[j+1]?=some b->mO a b=true):IQ l:=by
 have key:∀(d i:Nat) a b,l[i]?=some a->l[i+1+d]?=some b->mO a b=true:=fun d=>by
  induction d with
  | zero=>intro i a b ha hb;exact h i a b ha hb
  | succ d ih=>
   intro i a b ha hb;have hl:=(aao.1 hb).1;obtain⟨c,hc⟩:=ak (l:=l) (i:=i+1+d) (by omega);exact Kw (ih i a c ha hc) (h _ c b hc hb)
 refine aaS.2 fun i j hi hj DX=>?_;exact key (j-i-1) i _ _ (acg hi) (by rw[show i+1+(j-i-1)=j by omega];exact acg hj)
theorem kJ{f:Nat->Int}:∀{n i:Nat},cU f i n=0->∀k,i<=k->k<i+n->f k=0
 | 0,i,_,k,h1,h2=>by omega
 | n+1,i,h,k,h1,h2=>by
  rw[cU]at h;split at h
  ·by_cases e:k=i
   ·subst e;assumption
   exact kJ h k (by omega) (by omega)
  contradiction
def vD(c:Class):Prop:=IQ c.nets/\c.nets.length<=1000/\(∀y∈c.nets,lh y=true)/\cL c.clearance=true/\cL c.width=true
theorem EV{cs:List Class}{i:Nat}{l:List ByteArray}{j:Nat}{y:ByteArray}(h:bZ cs i l j=0)(hy:l[j]?=some y):lh y=true/\dH l j=false:=by
 rw[bZ,hy]at h;simp only at h;split at h
 ·split at h
  ·cases h
  exact⟨by assumption,by simpa using ‹¬dH l j=true›⟩
 cases h
theorem Hp{cs:List Class}{i:Nat}{c:Class}(h:b_ cs i=0)(hc:cs[i]?=some c):vD c:=by
 rw[b_,hc]at h;simp only at h;split at h
 ·split at h
  ·cases h
  split at h
  ·rename_i h0;have hz:=kJ h0;split at h
   ·rename_i h2;rw[aaZ]at h2;refine⟨xt fun j a b ha hb=>?_,by omega,fun y hy=>?_,h2.1,h2.2⟩
    ·have hl:=(aao.1 hb).1;have:=(EV (hz (j+1) (aaj _) (by omega)) hb).2;rw[dH,hb,Nat.add_sub_cancel,ha]at this;simp only at this;rw[acd (by omega:0<j+1),adr]at this;exact Ho this
    obtain⟨j,hj⟩:=ab8.1 hy;exact (EV (hz j (aaj _) (by have:=(aao.1 hj).1;omega)) hj).1
   cases h
  contradiction
 cases h
structure zd(r:cP):Prop where
 cl:∀c∈r.classes,vD c
 nc:r.classes.length<=50
 na:r.areas.length<=50
 ar:∀a∈r.areas,-1<=a.layer/\Reg.aF a.region=0/\cL a.clearance=true
 nums:gM r=true
theorem jU{r:cP}(h:bC r=0):zd r:=by
 rw[bC]at h;split at h
 ·rename_i h1;split at h
  ·rename_i h2;rw[dn]at h2;split at h2
   ·cases h2
   rw[iI]at h;split at h
   ·cases h
   split at h
   ·rename_i h3;refine⟨fun c hc=>?_,by omega,by omega,fun a ha=>?_,h1⟩
    ·obtain⟨i,hi⟩:=ab8.1 hc;exact Hp (kJ h2 i (aaj _) (by have:=(aao.1 hi).1;omega)) hi
    obtain⟨i,hi⟩:=ab8.1 ha;have:=kJ h3 i (aaj _) (by have:=(aao.1 hi).1;omega);rw[cR,hi]at this;simp only at this;split at this
    ·rename_i h4;rw[aaZ,aaH]at h4;split at this
     ·split at this
      ·exact⟨h4.1,by assumption,by assumption⟩
      cases this
     contradiction
    cases this
   contradiction
  contradiction
 cases h
def meets(layer x y:Int)(a:sJ):Bool:=onB a layer&&a.region.any (M3 x y)
def EW(l:List UInt8):ByteArray:=⟨l.toArray⟩
def Vh(n:Int):Prop:=-9223372036854775808<=n/\n<=9223372036854775807
theorem dB(n:Int)(h:Vh n):af C 119 [.pv (i64 n)] (.p (str (EW (Lib.itoa n)))) []:=
 vv [.int .i64 n] (.string (EW (Lib.itoa n))) ⟨_,Tryz.func119,by decide,rfl⟩ fun S w hE hS=>by
  refine (Tryz.strconv_Itoa n h.1 h.2 w hE.2.2.2).mono ?_;rintro e w' ⟨rfl,k,os,rfl⟩;exact⟨rfl,Lib.below_grow _ _ (aam _) k os⟩
theorem gL{α:Type}{f:α->List UInt8}{k:Nat}{l:List α}(h:∀x∈l,(f x).length<=k):(l.flatMap f).length<=l.length*k:=by
 induction l with
 | nil=>simp
 | cons x l ih=>
  have h1:=h x (by simp);have h2:=ih (fun m hm=>h m (by simp[hm]));simp only[abz,acv,aaB,abR];omega
variable {w:World}
theorem PF{S:Nat->Prop}{x v:Value}(h:aO S w (.im x) v):v=x:=by cases h;rfl
def dK(l:List UInt8):List (List PV):=l.map fun u=>[.im (.int .u8 u.toNat)]
def dV(l:List UInt8):List Value:=l.map fun u=>.int .u8 u.toNat
theorem Q7:∃i,Tryz.prog.info? 5=some i/\i.size=1:=by
 obtain⟨i0,hi,_,Vg,_⟩:=info_parts Ni;exact⟨i0,hi,Vg⟩
theorem KD{S:Nat->Prop}{l:List UInt8}{v:Value}(h:aG Tryz.prog w (aO S w) 5 (dK l) v):w.ownsRow 0 5 1 v (dV l).length (dV l):=by
 obtain⟨i,xs,h1,h2,h3,h4,h5,h6⟩:=h;obtain⟨i0,hi,hs⟩:=Q7;rw[hi]at h1;cases h1;rw[hs]at h3 h6;have hl:xs.length=l.length:=by
  have:=h3.1;simpa [dK] using this
 have e:xs=dV l:=by
  apply ach;intro k;by_cases hk:k<l.length
  ·obtain⟨u,hu⟩:∃u,l[k]?=some u:=⟨_,acg hk⟩;obtain⟨z,hz,hr⟩:=h6 k [.im (.int .u8 u.toNat)] 0 (.im (.int .u8 u.toNat)) (by rw[dK,aak,hu];rfl) rfl;rw[acE,abQ]at hz;cases hr;rw[hz,dV,aak,hu];rfl
  rw[abI (by omega),abI (by simp[dV];omega)]
 have hb:(dK l).length=(dV l).length:=by simp[dK,dV]
 rw[<-hb,<-e];exact h3
theorem KE{S:Nat->Prop}{l:List UInt8}{v:Value}(h:w.ownsRow 0 5 1 v (dV l).length (dV l)):aG Tryz.prog w (aO S w) 5 (dK l) v:=by
 obtain⟨i0,hi,hs⟩:=Q7;have hb:(dK l).length=(dV l).length:=by simp[dK,dV]
 refine⟨i0,dV l,hi,by omega,by rw[hs,hb];exact h,fun r hr=>?_,fun u hu=>?_,fun a r j x ha hj=>?_⟩
 ·obtain⟨u,_,rfl⟩:=adS.1 hr;rw[hs];rfl
 ·obtain⟨z,_,rfl⟩:=adS.1 hu;rfl
 rw[dK,aak,acq]at ha;obtain⟨u,hu,rfl⟩:=ha;cases j with
 | zero=>
  cases hj;refine⟨.int .u8 u.toNat,?_,.im _⟩;rw[hs,acE,abQ,dV,aak,hu];rfl
 | succ j=>cases hj
theorem zh(s:ByteArray):Lib.strCells s=dV s.data.toList:=rfl
theorem Ht(a b:List UInt8):dV a++dV b=dV (a++b):=by simp[dV]
theorem No{S:Nat->Prop}{b:Nat}{u0 u1:Value}{l:List UInt8}(h1:w.heap[b]?=some (.cells #[u0,u1] 150 (0,0)))(h2:u0=.pointer none\/u0=.pointer (some ⟨b,0,none⟩))(h3:aG Tryz.prog w (aO S w) 5 (dK l) u1)(h4:∀g,cC u1=some g->¬S g/\g≠b/\g<w.heap.size):BS b (dV l) u0 u1 w:=by
 have ho:=KD h3;obtain⟨a,c,hs⟩:=cr ho;refine⟨h1,h2,ho,fun e=>?_⟩;rw[cI hs]at e;exact (h4 b e).2.1 rfl
theorem Np{S:Nat->Prop}{l:List ByteArray}{v:Value}(hl:l≠[])(h:aO S w (strs l) v):∃bk off c,v=.slice (some ⟨bk,off,none⟩) l.length c/\∀(j:Nat) x,l[j]?=some x->w.cell? ⟨bk,off+j,none⟩=some (.string x):=by
 unfold strs at h;generalize he:(l.map fun s=>[str s])=es at h;cases h with
 | nil a c=>
  cases l with
  | nil=>exact absurd rfl hl
  | cons x l=>cases he
 | sl es k b off c U hc hS hk hcell h=>
  have len:es.length=l.length:=by rw[<-he,aej]
  have k1:k=1:=by
   cases l with
   | nil=>exact absurd rfl hl
   | cons x l=>
    have:=hk [str x] (by rw[<-he];simp);simpa using this.symm
  subst k1;refine⟨b,off,c,by rw[len],fun j x hx=>?_⟩;have e1:es[j]?=some [str x]:=by rw[<-he,aak,hx];rfl
  have a1:=(hcell j [str x] 0 (str x) e1 rfl).1;have a2:U j 0=.string x:=PF (h j [str x] 0 (str x) e1 rfl);rw[acE,abQ,a2]at a1;exact a1
theorem sO(word:ByteArray)(l:List ByteArray)(hl:l≠[])(hN:l.length<=1000000)(bs:List UInt8)(hlen:bs.length+(Lib.join ((word::l).map (·.data.toList)) [32]).length<=1000000000000):
  Cf C 116 [str word,strs l] 150 5 (dK bs) (.tu []) true (some (dK (bs++(aeq word l).data.toList))):=by
 refine⟨⟨_,Tryz.func116,by decide,rfl⟩,fun S w vs b u0 u1 hE hS Vi hr wh pQ az Zr hblk=>?_⟩;obtain⟨v0,v1,rfl⟩:∃v0 v1,vs=[v0,v1]:=by
  match vs,Vi with
  | [a,b],_=>exact⟨a,b,rfl⟩
 have r0:=hr 0 _ _ rfl rfl;cases r0;obtain⟨bk,off,c,rfl,hcell⟩:=Np hl (hr 1 _ _ rfl rfl);have hB:=No wh pQ az hblk;obtain⟨a1,c1,Gd⟩:=cr hB.own;refine (cn b (dV bs) u0 u1 word l bk off c w hB hcell hN (by rw[show (dV bs).length=bs.length by simp[dV]];exact hlen)).mono ?_;rintro e w' ⟨rfl,u1',h4,f4,g4⟩;obtain⟨a2,c2,Rp⟩:=cr h4.own;have fr:Fr (fun k=>k=b\/cC u1=some k) w w':=by
  refine⟨f4.os,f4.tape,f4.output,f4.size,fun k hk hn=>f4.block k hk fun h=>hn (h.imp id fun h=>?_)⟩;rw[<-cI Gd];exact h
 refine⟨_,rfl,fr,⟨#[],rfl,rfl,fun i x u h=>(by cases h)⟩,u1',h4.heap,KE (by have:=h4.own;rw[zh,Ht]at this;exact this),fun g hg=>?_⟩;obtain⟨q1,q2⟩:=g4 g (by rw[cI Rp];exact hg);exact⟨q1,q2.imp (fun h=>by rw[<-cI Gd];exact h) id⟩
theorem aet(bs:List UInt8):Cf C 120 [] 150 5 (dK bs) (.p (i64 bs.length)) false (some (dK bs)):=by
 refine⟨⟨_,Tryz.func120,by decide,rfl⟩,fun S w vs b u0 u1 hE hS Vi hr wh pQ az Zr hblk=>?_⟩;obtain rfl:vs=[]:=by
  match vs,Vi with
  | [],_=>rfl
 have hB:=No wh pQ az hblk;refine (Tryz.Builder_Len_f 0 b (dV bs) w (Lib.IsBuilderF.of hB.is)).mono ?_;rintro e w' ⟨rfl,rfl⟩;refine⟨_,rfl,Fr.refl _ _,?_,u1,wh,az,fun g hg=>⟨(hblk g hg).2.2,.inl hg⟩⟩;rw[show (dV bs).length=bs.length by simp[dV]];exact .im _
theorem Vj(b:Nat)(l:List UInt8)(u0 u1:Value)(w:World)(h:BS b (Lib.byteCells l) u0 u1 w)(h0:l≠[]):
  Calls Tryz.prog 121 #[.pointer (some ⟨b,0,none⟩)] w fun e w'=>e=.returned (.string ⟨l.toArray⟩)/\Fr (fun k=>u1.ownBlock=some k) w w':=by
 obtain⟨BD,pQ,hown,b8⟩:=h;have Wq:l.length≠0:=by simpa using h0
 rw[Lib.byteCells_length]at hown;obtain⟨g,cap,cur,rfl,Sq,hg,Qq,WN,pN,Qu⟩:∃g cap cur,u1=.slice (some ⟨g,0,none⟩) l.length cap/\0<=g/\w.heap[g]?=some (.cells cur 5 (0,0))/\l.length<=cap/\cap<=maxLen/\cur.size=cap*1/\cur.toList.take (l.length*1)=Lib.byteCells l:=by
  rcases hown.2 with⟨_,hz⟩ | ⟨g,cap,cur,hv,r⟩
  ·exact absurd hz Wq
  exact⟨g,cap,cur,hv,r⟩
 have c1:w.drew.cell? ⟨b,1,none⟩=some (.slice (some ⟨g,0,none⟩) l.length cap):=by
  have:w.drew.heap[b]?=some (.cells #[u0,.slice (some ⟨g,0,none⟩) l.length cap] 150 (0,0)):=BD;rw[ad_ this];rfl
 have hSD:(Builtin.unsafeSliceData_ #[148] 225 #[.slice (some ⟨g,0,none⟩) l.length cap]).run Tryz.prog w.drew=.ok (.pointer (some ⟨g,0,none⟩)) w.drew:=
  Lib.run_unsafeSliceData_row _ _ _ _ _ _ (by omega)
 have hUS:(Builtin.unsafeString_ #[225,3] 9 #[.pointer (some ⟨g,0,none⟩),.int .i64 l.length]).run Tryz.prog w.drew=.ok (.string ⟨l.toArray⟩) (w.drew.freeze ⟨g,0,none⟩ l.length):=by
  refine Lib.run_unsafeString_row w.drew 225 3 9 5 Tryz.underlying225 (by kernel_rfl) g cur.size (by have nS:w.drew.heap[g]?=some (.cells cur 5 (0,0)):=hg;simp[World.shape?,nS]) l h0 (by omega) (by unfold maxLen at WN;omega) ?_;intro j x hx;have:=hown.cells (g:=g) rfl j (.int .u8 x.toNat) (by simp[Lib.byteCells,hx]);exact this
 have fin:Fr (fun k=>(Value.slice (some ⟨g,0,none⟩) l.length cap).ownBlock=some k) w (w.drew.freeze ⟨g,0,none⟩ l.length):=by
  unfold World.freeze;rw[aaa Wq];refine⟨rfl,rfl,rfl,aay (show w.heap.size=(Array.modify w.heap g _).size from (Array.size_modify ..).symm),fun k _ hn=>?_⟩;have PG:¬g=k:=fun e=>hn (by rw[<-e];rfl);show (Array.modify w.heap g _)[k]?=w.heap[k]?;rw[aac,aaa PG]
 have mixed:Tryz.prog.follows Departure.mixedOrders=true:=by kernel_rfl
 have FN:=ab3 fin;clear fin
 go_enter Tryz.func121,Tryz.ntmps121
 go_wp2
 go_region_o
 all_goals (go_wp2;go_ret;exact⟨rfl,FN.out⟩)
theorem Hu(bs:List UInt8)(h0:bs≠[]):Cf C 121 [] 150 5 (dK bs) (.p (str (EW bs))) false none:=by
 refine⟨⟨_,Tryz.func121,by decide,rfl⟩,fun S w vs b u0 u1 hE hS Vi hr wh pQ az Zr hblk=>?_⟩;obtain rfl:vs=[]:=by
  match vs,Vi with
  | [],_=>rfl
 have hB:=No wh pQ az hblk;obtain⟨a1,c1,Gd⟩:=cr hB.own;refine (Vj b bs u0 u1 w hB h0).mono ?_;rintro e w' ⟨rfl,hf⟩;refine⟨_,rfl,⟨hf.os,hf.tape,hf.output,hf.size,fun k hk hn=>hf.block k hk fun h=>hn (.inr (by rw[<-cI Gd];exact h))⟩,.im _,trivial⟩
def Df:ByteArray:=⟨#[114,117,108,101,115]⟩
def wP(n:Int):ByteArray:=EW (Lib.itoa n)
def r5:cP:=⟨0,5,0,0,0,[],[]⟩
def w5:List ByteArray:=[wP 0,wP 5,wP 0,wP 0,wP 0]
def L5:List UInt8:=[114,117,108,101,115,32,48,32,53,32,48,32,48,32,48,10]
theorem ok5:e8 r5:=⟨(fun c h=>by cases h),by decide,by decide⟩
theorem ahz:(aeq Df w5).data.toList=L5:=by kernel_rfl
theorem ahJ:(Lib.join ((Df::w5).map (·.data.toList)) [32]).length=15:=by kernel_rfl
theorem aho:af C 45 [.pv (.ag (rl r5))] (.tu [str (EW L5),i64 0]) []:=by
 have h0:=jQ r5 ok5;rw[show bC r5=0 by kernel_rfl]at h0;have hl:=sO Df w5 (by simp[w5]) (by simp[w5]) [] (by rw[ahJ];simp);rw[ahz]at hl;refine uX ⟨[5],[],[],[7,11,16,20],[(7,[true,true,true,true,false,true,false,false,false,true,false,false,false,true,false,false,false,true,false,false,true,true,true]),(11,[true,false,false,true,true,true,false,true,false,false,false,true,false,false,true,true]),(16,[true,true,true,false,true,false,false,true,true,true]),(20,[true,true,true,true,false,true,false,false,false,true,false,false,false,true,false,false,true,true,true,true])],[]⟩ hC Tryz.func45 rfl (by kernel_rfl) fun _=>?_;refine⟨_,_,h0,?_⟩;refine qy ((au.gD (by exact hC) _ 1 (y:=.ip (rl r5)) (fz:=[(1,.jd (rl r5))]) (by exact⟨rfl,rfl⟩)).trans (au.MH (by exact hC) _ 5 1 90000 5 150 _ _ (by decide) (by decide) (by exact rfl) (by exact rfl) (by exact rfl) (by decide))) ?_;refine⟨_,_,(dB 0 ⟨by decide,by decide⟩),?_⟩;refine⟨_,_,(dB 5 ⟨by decide,by decide⟩),?_⟩;refine⟨_,_,(dB 0 ⟨by decide,by decide⟩),?_⟩;refine⟨_,_,(dB 0 ⟨by decide,by decide⟩),?_⟩;refine⟨_,_,(dB 0 ⟨by decide,by decide⟩),?_⟩;refine⟨_,_,_,hl,?_⟩;refine aJ (fun _:Unit=>True) (fun _=>[(1,.p (.ip (rl r5))),(5,.bx 5 0),(6,.fn 116 [.bx 5 0]),(7,.p (.im (.func (.func 119) #[] #[]))),(46,.p (i64 0)),(47,.p (i64 0))]) (fun _=>[(5,.gC 150 [.bx 5 0,.ow 90000]),(90000,.row 5 (dK L5))]) (fun _=>0) () _ (au.Cx _ 43 90000 (by decide) (by decide)) trivial ⟨Z,Z,Z,Z,Z,Z,Y⟩ ⟨Z,Z,Y⟩ fun _ _ t h=>?_;refine aJ (fun _:Unit=>True) (fun _=>[(5,.bx 5 0),(70,.p (i64 0)),(71,.p (i64 0))]) (fun _=>[(5,.gC 150 [.bx 5 0,.ow 90000]),(90000,.row 5 (dK L5))]) (fun _=>0) () _ (au.refl _ _) trivial ⟨Z,Z,Z,Y⟩ ⟨Z,Z,Y⟩ fun _ _ t h=>?_;refine⟨_,_,_,aet L5,?_⟩;refine⟨_,_,_,Hu L5 (by simp[L5]),?_⟩;refine⟨?_,trivial⟩;rfl
theorem KG:af C 13 [] (.p (bool true)) []:=by
 refine fW hC Tryz.func13 rfl (by kernel_rfl) fun _=>?_;refine⟨_,_,aho,?_⟩;refine⟨?_,trivial⟩;exact adV (fun z=>PV.im (Value.bool z)) (show decide (EW L5=EW L5)=true from acd rfl)
open Reg (bw bE cv IV bN bK told dJ a_ coreS Canon Full RK at')
open Reg (aS fo fS aa ee bO cJ through bA fT jD c_ bT)
def dX(a:fS):List PV:=[.sl (a.coppers.map fun r=>[aj r]),aj a.outline,.sl (a.bores.map bc),.sl (a.lands.map lc)]
def pc(p:ByteArray×ByteArray):List PV:=[str p.1,str p.2]
theorem wQ(a b:ByteArray):af C 241 [.pv (str a),.pv (str b)] (.p (i64 (Lib.compareBytes a.data.toList b.data.toList))) []:=
 vv [.string a,.string b] _ ⟨_,Tryz.func241,rfl,rfl⟩ fun S w _ _=>(Tryz.strings_Compare a b w).mono fun e w' h=>⟨h.1,by rw[h.2];exact abJ _ _⟩
def AO(p q:ByteArray×ByteArray):Int:=if Lib.compareBytes p.1.data.toList q.1.data.toList≠0 then Lib.compareBytes p.1.data.toList q.1.data.toList else Lib.compareBytes p.2.data.toList q.2.data.toList
theorem rJ(p q:ByteArray×ByteArray):af C 174 [.pv (.ag (pc p)),.pv (.ag (pc q))] (.p (i64 (AO p q))) []:=by
 refine fW hC Tryz.func174 rfl (by kernel_rfl) fun _=>?_;refine⟨_,_,(wQ p.1 q.1),?_⟩;refine iW ?_ ?_<;>intro h
 ·refine⟨?_,trivial⟩;rw[AO,aap (by simpa using h)]
 refine⟨_,_,(wQ p.2 q.2),?_⟩;refine⟨?_,trivial⟩;rw[AO,aaa (by simpa using h)]
theorem pw(l:fo):af C 175 [.pv (.ag (lc l))] (.p (.ag (pc (l.part,l.pin)))) []:=by
 refine fW hC Tryz.func175 rfl (by kernel_rfl) fun _=>?_;refine⟨?_,trivial⟩;rfl
theorem uu(a:fS)(hn:a.coppers.length<=1000000):af C 96 [.pv (.ag (dX a))] (.p (i64 (bT a))) []:=by
 refine fW hC Tryz.func96 rfl (by kernel_rfl) fun _=>?_;have lm:=ai a.bores bc;have lk:=ai a.coppers fun r=>[aj r];refine iW ?_ ?_<;>intro h0
 ·rw[lm]at h0;refine⟨?_,trivial⟩;rw[bT,aap (by omega)];rfl
 rw[lm]at h0;have hc:bT a=c_ a.coppers.length a.bores:=by rw[bT,aaa (by omega)]
 refine aJ (fun i:Nat=>i<=a.bores.length/\c_ a.coppers.length a.bores=c_ a.coppers.length (a.bores.drop i)) (fun i=>[(3,.p (i64 (a.coppers.map fun r=>[aj r]).length)),(16,.p (.sl (a.bores.map bc))),(17,.p (i64 (a.bores.map bc).length)),(18,.p (i64 i))]) (fun _=>[]) (fun i=>a.bores.length-i) 0 _ (au.refl _ _) ⟨aaj _,rfl⟩ ⟨Z,Z,Z,Z,Y⟩ trivial fun i hi t h=>?_;refine iW ?_ ?_<;>intro h1
 ·rw[lm]at h1;obtain⟨b,hb⟩:=ak (l:=a.bores) (i:=i) (by omega);have hs:=Reg.BC (n:=a.coppers.length) hb;refine⟨(bc b),(idx rfl hb),?_⟩;refine⟨_,_,(AL b),?_⟩;refine iW ?_ ?_<;>intro g1
  ·have g1:(ee b).2≠0:=by simpa using g1
   refine⟨?_,trivial⟩;rw[hc,hi.2,hs,aap g1]
  have g1:¬(ee b).2≠0:=by simpa using g1
  rw[aaa g1]at hs;refine⟨⟨by omega,by omega⟩,?_⟩;refine⟨_,_,(kx b.lo 0 (((a.coppers.map fun r=>[aj r]).length:Int)-1)),?_⟩;rw[lk];refine iW ?_ ?_<;>intro g2
  ·refine⟨?_,trivial⟩;rw[hc,hi.2,hs,aaa (by rw[g2];simp)];rfl
  refine⟨⟨by omega,by omega⟩,?_⟩;refine⟨_,_,(kx b.hi b.lo ((a.coppers.length:Int)-1)),?_⟩;refine iW ?_ ?_<;>intro g3
  ·refine⟨?_,trivial⟩;rw[hc,hi.2,hs,aaa (by rw[g2,g3];simp)];rfl
  rw[aap (by rw[g2,g3];rfl)]at hs;refine⟨⟨by omega,by omega⟩,?_⟩;exact⟨(i+1),_,au.refl _ _,⟨by omega,by rw[hi.2,hs]⟩,by omega,⟨Z,Z,Z,Z,Y⟩,trivial⟩
 rw[lm]at h1;refine⟨?_,trivial⟩;rw[hc,hi.2,ab1 (by omega)];rfl
def dQ(n:Int)(ls:List fo)(i:Nat):Int:=match ls[i]? with
 | none=>0
 | some l=>if (lh l.part&&iU l.pin)=true then (if (Reg.within l.layer 0 (n-1)&&(Reg.kR l.x&&Reg.kR l.y))=true then (match ls[i-1]? with
   | some q=>if 0<i/\AO (l.part,l.pin) (q.part,q.pin)<=0 then 8 else 0
   | none=>0) else 1) else 5
def c8(a:fS):Int:=if 1000<a.lands.length then 2 else cU (dQ a.coppers.length a.lands) 0 a.lands.length
structure ly(a:fS):Prop where
 cop:a.coppers.length<=1048576
 rcs:∀r∈a.coppers,r.length<=1048576
 out:a.outline.length<=1048576
 bor:a.bores.length<=1048576
 lan:a.lands.length<=1048576
 str:∀l∈a.lands,ue l.part/\ue l.pin
theorem uv(a:fS)(ho:ly a):af C 97 [.pv (.ag (dX a))] (.p (i64 (c8 a))) []:=by
 refine fW hC Tryz.func97 rfl (by kernel_rfl) fun _=>?_;have lm:=ai a.lands lc;have lk:=ai a.coppers fun r=>[aj r];have KH:=ho.cop;refine iW ?_ ?_<;>intro h0
 ·rw[lm]at h0;refine⟨?_,trivial⟩;rw[c8,aap (by omega)];rfl
 rw[lm]at h0;have hc:c8 a=cU (dQ a.coppers.length a.lands) 0 a.lands.length:=by rw[c8,aaa (by omega)]
 refine aJ (fun i:Nat=>i<=a.lands.length/\∀k,k<i->dQ a.coppers.length a.lands k=0) (fun i=>[(1,.bx 1 0),(10,.p (.sl (a.lands.map lc))),(11,.p (i64 (a.lands.map lc).length)),(12,.p (i64 i))]) (fun _=>[(1,.box ((dX a).map .p))]) (fun i=>a.lands.length-i) 0 _ (au.refl _ _) ⟨aaj _,by omega⟩ ⟨Z,Z,Z,Z,Y⟩ ⟨Z,Y⟩ fun i hi t h=>?_;refine iW ?_ ?_<;>intro h1
 ·rw[lm]at h1;obtain⟨l,hl⟩:=ak (l:=a.lands) (i:=i) (by omega);obtain⟨s1,s2⟩:=ho.str l (aad hl);have bad:∀v,dQ a.coppers.length a.lands i=v->v≠0->c8 a=v:=fun v hv b8=>by
   rw[hc,gY (m:=i) (by rw[hv];exact b8) (fun k _ hk=>hi.2 k hk) (by omega) (by omega),hv]
  refine⟨(lc l),(idx rfl hl),?_⟩;refine⟨_,_,(tX l.part s1),?_⟩;refine iW ?_ ?_<;>intro g1
  ·refine⟨?_,trivial⟩;rw[bad 5 (by simp only[dQ,hl];rw[aaa (by rw[g1];simp)]) (by decide)];rfl
  refine⟨_,_,(oY l.pin (by unfold ue at s2;omega)),?_⟩;refine iW ?_ ?_<;>intro g2
  ·refine⟨?_,trivial⟩;rw[bad 5 (by simp only[dQ,hl];rw[aaa (by rw[g2];simp)]) (by decide)];rfl
  refine⟨⟨by omega,by omega⟩,?_⟩;refine⟨_,_,(kx l.layer 0 (((a.coppers.map fun r=>[aj r]).length:Int)-1)),?_⟩;rw[lk];refine iW ?_ ?_<;>intro g3
  ·refine⟨?_,trivial⟩;rw[bad 1 (by simp only[dQ,hl];rw[aap (by rw[g1,g2];rfl),aaa (by rw[g3];simp)]) (by decide)];rfl
  refine⟨_,_,(rZ l.x l.y),?_⟩;refine iW ?_ ?_<;>intro g4
  ·refine⟨?_,trivial⟩;rw[bad 1 (by simp only[dQ,hl];rw[aap (by rw[g1,g2];rfl),aaa (by rw[g4];simp)]) (by decide)];rfl
  have pre:dQ a.coppers.length a.lands i=(match a.lands[i-1]? with
    | some q=>if 0<i/\AO (l.part,l.pin) (q.part,q.pin)<=0 then 8 else 0
    | none=>0):=by simp only[dQ,hl];rw[aap (by rw[g1,g2];rfl),aap (by rw[g3,g4];rfl)]
  refine iW ?_ ?_<;>intro g5
  ·obtain⟨q,hq⟩:=ak (l:=a.lands) (i:=i-1) (by omega);rw[hq]at pre;simp only at pre;refine⟨_,_,(pw l),?_⟩;refine⟨⟨by omega,by omega⟩,?_⟩;refine⟨(lc q),(idx (by omega) hq),?_⟩;refine⟨_,_,(pw q),?_⟩;refine⟨_,_,(rJ (l.part,l.pin) (q.part,q.pin)),?_⟩;refine iW ?_ ?_<;>intro g6
   ·rw[aap ⟨by omega,by simpa using g6⟩]at pre;refine⟨?_,trivial⟩;rw[bad 8 pre (by decide)];rfl
   rw[aaa (fun e=>by simp at g6;omega)]at pre;refine⟨⟨by omega,by omega⟩,?_⟩;exact⟨(i+1),_,au.refl _ _,⟨by omega,fun k hk=>by by_cases e:k=i;exact e▸pre;exact hi.2 k (by omega)⟩,by omega,⟨Z,Z,Z,Z,Y⟩,⟨Z,Y⟩⟩
  have pre:dQ a.coppers.length a.lands i=0:=by
   rw[pre];split
   ·rw[aaa (by omega)]
   rfl
  refine⟨⟨by omega,by omega⟩,?_⟩;exact⟨(i+1),_,au.refl _ _,⟨by omega,fun k hk=>by by_cases e:k=i;exact e▸pre;exact hi.2 k (by omega)⟩,by omega,⟨Z,Z,Z,Z,Y⟩,⟨Z,Y⟩⟩
 rw[lm]at h1;refine⟨?_,trivial⟩;rw[hc,eZ fun k _ hk=>hi.2 k (by omega)];rfl
end M
namespace Reg
def UF(u:List Int):Prop:=∀(i:Nat) v,u[i]?=some v->0<=v/\v<=i
inductive eh(u:List Int):Nat->Nat->Prop
 | here (i:Nat) (h:u[i]?=some (i:Int)):eh u i i
 | up (i j r:Nat) (h:u[i]?=some (j:Int)) (b8:j≠i) (hr:eh u j r):eh u i r
variable {u:List Int}
theorem eh.lt{i r:Nat}(h:eh u i r):i<u.length:=by
 cases h with
 | here _ h=>exact (aao.1 h).1
 | up _ _ _ h=>exact (aao.1 h).1
theorem eh.top{i r:Nat}(h:eh u i r):u[r]?=some (r:Int):=by
 induction h with
 | here i h=>exact h
 | up i j r h b8 hr ih=>exact ih
theorem eh.le(hu:UF u){i r:Nat}(h:eh u i r):r<=i:=by
 induction h with
 | here i h=>exact aam _
 | up i j r h b8 hr ih=>have:=hu i j h;omega
theorem eh.uniq{i r q:Nat}(h:eh u i r)(k:eh u i q):r=q:=by
 induction h with
 | here i h=>
  cases k with
  | here=>rfl
  | up _ j _ h2 b8 _=>rw[h]at h2;injection h2 with h2;exact absurd (by omega) b8
 | up i j r h b8 hr ih=>
  cases k with
  | here _ h2=>rw[h]at h2;injection h2 with h2;exact absurd (by omega) b8
  | up _ j2 _ h2 RQ iO=>
   rw[h]at h2;injection h2 with h2;have:j=j2:=by omega
   subst this;exact ih iO
theorem UF.parent(hu:UF u){i:Nat}(hi:i<u.length):∃j:Nat,u[i]?=some (j:Int)/\j<=i:=by
 obtain⟨v,hv⟩:∃v,u[i]?=some v:=⟨_,acg hi⟩;have:=hu i v hv;exact⟨v.toNat,by rw[hv];congr 1;omega,by omega⟩
theorem UF.root(hu:UF u):∀(i:Nat),i<u.length->∃r,eh u i r:=by
 intro i
 induction i using Nat.strongRecOn with
 | _ i ih=>
  intro hi;obtain⟨j,hj,hle⟩:=hu.parent hi;by_cases e:j=i
  ·subst e;exact⟨j,.here j hj⟩
  obtain⟨r,hr⟩:=ih j (by omega) (by omega);exact⟨r,.up i j r hj e hr⟩
theorem ew{α:Type}{l:List α}{i j:Nat}{x:α}(hi:i<l.length):(l.set i x)[j]?=if j=i then some x else l[j]?:=by
 by_cases e:j=i
 ·subst e;rw[aap rfl,ab7 hi]
 rw[aaa e,ac5 (fun e'=>e e'.symm)]
theorem UF.set(hu:UF u){i k:Nat}(hk:k<=i)(hi:i<u.length):UF (u.set i (k:Int)):=fun m v hv=>by
 rw[ew hi]at hv;by_cases e:m=i
 ·rw[aap e]at hv;injection hv with hv;omega
 rw[aaa e]at hv;exact hu m v hv
theorem Ns(hu:UF u){i j k:Nat}(hj:u[i]?=some (j:Int))(hk:u[j]?=some (k:Int)):UF (u.set i (k:Int))/\∀m r,eh (u.set i (k:Int)) m r↔eh u m r:=by
 have hi:=(aao.1 hj).1;have h1:=hu i j hj;have h2:=hu j k hk;have qa:UF (u.set i (k:Int)):=hu.set (by omega) hi;have fwd:∀m r,eh u m r->eh (u.set i (k:Int)) m r:=by
  intro m
  induction m using Nat.strongRecOn with
  | _ m ih=>
   intro r hr;by_cases e:m=i
   ·subst e;have mT:(u.set m (k:Int))[m]?=some (k:Int):=by rw[ew hi,aap rfl]
    cases hr with
    | here _ h=>
     rw[hj]at h;injection h with h;have e1:j=m:=by omega
     subst e1;rw[hj]at hk;injection hk with hk;have e2:j=k:=by omega
     subst e2;exact .here j mT
    | up _ j2 _ h b8 iO=>
     rw[hj]at h;injection h with h;have e1:j=j2:=by omega
     subst e1;by_cases e2:k=j
     ·subst e2;have:r=k:=(eh.uniq (.here k hk) iO).symm;subst this;exact .up m r r mT b8 (ih r (by omega) r iO)
     have hr3:eh u k r:=by
      cases iO with
      | here _ h=>rw[hk]at h;injection h with h;exact absurd (by omega) e2
      | up _ k2 _ h _ hr4=>
       rw[hk]at h;injection h with h;have e3:k=k2:=by omega
       subst e3;exact hr4
     exact .up m k r mT (by omega) (ih k (by omega) r hr3)
   cases hr with
   | here _ h=>exact .here m (by rw[ew hi,aaa e];exact h)
   | up _ j2 _ h b8 iO=>
    have:=hu m j2 h;exact .up m j2 r (by rw[ew hi,aaa e];exact h) b8 (ih j2 (by omega) r iO)
 refine⟨qa,fun m r=>⟨fun h=>?_,fwd m r⟩⟩;obtain⟨q,hq⟩:=hu.root m (by have:=h.lt;rwa [aaM]at this);have:=(fwd m q hq).uniq h;subst this;exact hq
theorem join(hu:UF u){a b:Nat}(ha:u[a]?=some (a:Int))(hb:u[b]?=some (b:Int)):UF (u.set (max a b) ((min a b:Nat):Int))/\∀m r,eh u m r->eh (u.set (max a b) ((min a b:Nat):Int)) m (if r=max a b then min a b else r):=by
 have hi:max a b<u.length:=by
  have h1:=(aao.1 ha).1;have h2:=(aao.1 hb).1;omega
 have X6:u[min a b]?=some ((min a b:Nat):Int):=by
  by_cases h:a<=b
  ·rw[show min a b=a by omega];exact ha
  rw[show min a b=b by omega];exact hb
 have E9:u[max a b]?=some ((max a b:Nat):Int):=by
  by_cases h:a<=b
  ·rw[show max a b=b by omega];exact hb
  rw[show max a b=a by omega];exact ha
 refine⟨hu.set (by omega) hi,fun m r hr=>?_⟩
 induction hr with
 | here i h=>
  by_cases e:i=max a b
  ·rw[aap e];by_cases e2:min a b=i
   ·subst e2;exact .here _ (by rw[ew hi,aap e])
   refine .up i (min a b) _ (by rw[ew hi,aap e]) e2 (.here _ ?_);rw[ew hi,aaa (by omega)];exact X6
  rw[aaa e];exact .here i (by rw[ew hi,aaa e];exact h)
 | up i j r h b8 hr ih=>
  refine .up i j _ ?_ b8 ih;rw[ew hi,aaa]
  ·exact h
  intro e;rw[e,E9]at h;injection h with h;exact b8 (by omega)
def kU(u:List Int)(i k:Nat):Prop:=∃r,eh u i r/\eh u k r
theorem PI{v:List Int}(h:∀m r,eh v m r↔eh u m r)(i k:Nat):kU v i k↔kU u i k:=by
 simp only[kU,h]
theorem KI(hu:UF u){a b i k:Nat}(hi:eh u i a)(hk:eh u k b){p q:Nat}(hp:p<u.length)(hq:q<u.length):
  kU (u.set (max a b) ((min a b:Nat):Int)) p q↔kU u p q\/(kU u p i/\kU u q k)\/(kU u p k/\kU u q i):=by
 obtain⟨j1,j2⟩:=join hu hi.top hk.top;obtain⟨r,hr⟩:=hu.root p hp;obtain⟨s,hs⟩:=hu.root q hq;have e1:kU (u.set (max a b) ((min a b:Nat):Int)) p q↔(if r=max a b then min a b else r)=(if s=max a b then min a b else s):=
  ⟨fun ⟨z,z1,z2⟩=>((j2 p r hr).uniq z1).trans ((j2 q s hs).uniq z2).symm,fun e=>⟨_,j2 p r hr,by rw[e];exact j2 q s hs⟩⟩
 have same:∀{x y:Nat} {c d:Nat},eh u x c->eh u y d->(kU u x y↔c=d):=fun hx hy=>⟨fun ⟨z,z1,z2⟩=>(hx.uniq z1).trans (hy.uniq z2).symm,fun e=>⟨_,hx,by rw[e];exact hy⟩⟩;rw[e1,same hr hs,same hr hi,same hs hk,same hr hk,same hs hi];split<;>split<;>omega
def iota(n:Nat):List Int:=(List.range n).map fun (i:Nat)=>(i:Int)
theorem E_{n i:Nat}(h:i<n):(iota n)[i]?=some (i:Int):=by rw[iota,aak,abP h];rfl
theorem aeM(n:Nat):(iota n).length=n:=by simp[iota]
theorem ny(n:Nat):UF (iota n):=fun i v hv=>by
 have hi:=(aao.1 hv).1;rw[aeM]at hi;rw[E_ hi]at hv;injection hv with hv;omega
theorem BI{n i r:Nat}(h:eh (iota n) i r):i=r:=by
 have hi:=h.lt;rw[aeM]at hi;exact ((eh.here i (E_ hi)).uniq h)
def cw:Nat->List Int->Nat->List Int×Nat
 | 0,u,i=>(u,i)
 | n+1,u,i=>if u.getD i 0=i then (u,i) else cw n (u.set i (u.getD (u.getD i 0).toNat 0)) (u.getD (u.getD i 0).toNat 0).toNat
structure Nt(u:List Int)(i:Nat)(x:List Int×Nat):Prop where
 uf:UF x.1
 len:x.1.length=u.length
 same:∀m q,eh x.1 m q↔eh u m q
 root:eh u i x.2
theorem fU:∀(n:Nat) (u:List Int) (i:Nat),UF u->i<u.length->i<=n->Nt u i (cw n u i)
 | 0,u,i,hu,hi,hn=>by
  have:i=0:=by omega
  subst this;obtain⟨j,hj,hle⟩:=hu.parent hi;have:j=0:=by omega
  subst this;exact⟨hu,rfl,fun _ _=>aaT,.here 0 hj⟩
 | n+1,u,i,hu,hi,hn=>by
  obtain⟨j,hj,hle⟩:=hu.parent hi;have e1:u.getD i 0=j:=by rw[ad4,hj];rfl
  rw[cw];by_cases h:u.getD i 0=i
  ·rw[aap h];exact⟨hu,rfl,fun _ _=>aaT,.here i (by rw[hj,<-e1,h])⟩
  rw[aaa h];rw[e1]at h ⊢;have Lw:j<u.length:=by omega
  obtain⟨k,hk,Vm⟩:=hu.parent Lw;have e2:u.getD (j:Int).toNat 0=k:=by rw[ad2,ad4,hk];rfl
  rw[e2,ad2];obtain⟨h1,h2⟩:=Ns hu hj hk;have ih:=fU n (u.set i (k:Int)) k h1 (by rw[aaM];omega) (by omega);refine⟨ih.uf,by rw[ih.len,aaM],fun m q=>(ih.same m q).trans (h2 m q),?_⟩;have hr:=(h2 _ _).1 ih.root;have b8:j≠i:=by omega
  by_cases e3:k=j
  ·subst e3;exact .up i k _ hj b8 hr
  exact .up i j _ hj b8 (.up j k _ hk e3 hr)
def gj(u:List Int)(i k:Nat):List Int:=(cw k (cw i u i).1 k).1.set (max (cw i u i).2 (cw k (cw i u i).1 k).2) ((min (cw i u i).2 (cw k (cw i u i).1 k).2:Nat):Int)
theorem mC(hu:UF u){i k:Nat}(hi:i<u.length)(hk:k<u.length):UF (gj u i k)/\(gj u i k).length=u.length:=by
 have a:=fU i u i hu hi (aam _);have b:=fU k (cw i u i).1 k a.uf (by rw[a.len];exact hk) (aam _);have s1:∀m q,eh (cw k (cw i u i).1 k).1 m q↔eh u m q:=fun m q=>(b.same m q).trans (a.same m q);have ra:=(s1 _ _).2 a.root;have rb:=(b.same _ _).2 b.root;exact⟨(join b.uf ra.top rb.top).1,by rw[gj,aaM,b.len,a.len]⟩
end Reg
namespace M
open Go.AM Go.RowKit Go.Lib
open Reg (UF eh Nt cw fU iota)
theorem cM{u:List Int}{i:Nat}{v:Int}(h:u[i]?=some v):(aA u)[i]?=some [i64 v]:=by rw[aA,aak,h];rfl
theorem fV(u:List Int)(i:Nat)(v:Int):(aA u).set i [i64 v]=aA (u.set i v):=by simp[aA,ad8]
theorem bQ(u:List Int):(aA u).length=u.length:=by simp[aA]
theorem BJ{n:Nat}{u:List Int}{i:Nat}(hu:UF u)(hi:i<u.length)(hn:i<=n):∃j k:Nat,u[i]?=some (j:Int)/\u[j]?=some (k:Int)/\j<=i/\k<=j/\(j=i->cw n u i=(u,i))/\(j≠i->∃m,n=m+1/\cw n u i=cw m (u.set i (k:Int)) k):=by
 obtain⟨j,hj,hle⟩:=hu.parent hi;obtain⟨k,hk,Vm⟩:=hu.parent (i:=j) (by omega);have e1:u.getD i 0=j:=by rw[ad4,hj];rfl
 have e2:u.getD j 0=k:=by rw[ad4,hk];rfl
 refine⟨j,k,hj,hk,hle,Vm,fun e=>?_,fun e=>?_⟩
 ·cases n with
  | zero=>rfl
  | succ n=>rw[cw,aap (by rw[e1];omega)]
 cases n with
 | zero=>omega
 | succ n=>
  refine⟨n,rfl,?_⟩;rw[cw,aaa (by rw[e1];omega),e1,ad2,e2,ad2]
theorem vF(u:List Int)(hu:UF u)(i:Nat)(hi:i<u.length):af C 243 [.aN [.row 3 (aA u)],.pv (i64 i)] (.p (i64 (cw i u i).2)) [.aN [.row 3 (aA (cw i u i).1)]]:=by
 refine UP ⟨[],[],[],[],[],[]⟩ hC Tryz.func243 rfl (by kernel_rfl) fun _=>⟨_,au.open hC _ 100000 [90000] (by exact rfl) rfl rfl rfl,?_⟩;obtain⟨R,hR⟩:∃R,R=cw i u i:=⟨_,rfl⟩;rw[<-hR];refine aJ (fun x:Nat×List Int×Nat=>cw x.1 x.2.1 x.2.2=R/\UF x.2.1/\x.2.2<x.2.1.length/\x.2.2<=x.1) (fun x=>[(0,.bx 100000 0),(1,.p (i64 x.2.2))]) (fun x=>[(100000,.box [.ow 90000]),(90000,.row 3 (aA x.2.1))]) (fun x=>x.2.2) (i,u,i) _ (au.refl _ _) ⟨hR.symm,hu,hi,aam _⟩ ⟨Z,Z,Y⟩ ⟨Z,Z,Y⟩ fun ⟨n,v,k⟩ hx t h=>?_;obtain⟨h1,h2,h3,h4⟩:=hx;simp only at h1 h2 h3 h4;obtain⟨j,l,hj,hl,q1,q2,q3,q4⟩:=BJ h2 h3 h4;have lv:=bQ v;refine⟨⟨by omega,by (try dsimp only);rw[lv];omega⟩,?_⟩;refine⟨[i64 j],(cM hj),?_⟩;refine iW ?_ ?_<;>intro g<;>try simp only[zB]at g
 ·have b8:j≠k:=by omega
  obtain⟨m,rfl,q5⟩:=q4 b8;refine⟨⟨by omega,by (try dsimp only);rw[lv];omega⟩,?_⟩;refine⟨[i64 j],(cM hj),?_⟩;refine⟨⟨by omega,by (try dsimp only);rw[lv];omega⟩,?_⟩;refine⟨[i64 l],(cM hl),?_⟩;refine⟨⟨by omega,by (try dsimp only);rw[lv];omega⟩,?_⟩;refine⟨[i64 j],(cM hj),?_⟩;refine⟨⟨by omega,by (try dsimp only);rw[List.length_set,lv];omega⟩,?_⟩;refine⟨[i64 l],(by rw[List.getElem?_set_self (by (try dsimp only);rw[lv];omega)];rfl),?_⟩;exact⟨(m,v.set k (l:Int),l),_,au.refl _ _,⟨by rw[<-q5];exact h1,(Reg.Ns h2 hj hl).1,by simp only[List.length_set];omega,by dsimp only;omega⟩,by simp only;omega,⟨Z,Z,Y⟩,⟨rfl,congrArg (AB.row _) (fV v k l),trivial⟩⟩
 have e:j=k:=by omega
 have h1:=(q3 e).symm.trans h1;subst h1;exact And.intro rfl (And.intro ⟨Z,Z,Y⟩ trivial)
open Reg (gj)
theorem Hx(u:List Int)(hu:UF u)(i k:Nat)(hi:i<u.length)(hk:k<u.length):af C 182 [.aN [.row 3 (aA u)],.pv (i64 i),.pv (i64 k)] (.tu []) [.aN [.row 3 (aA (gj u i k))]]:=by
 have a:=fU i u i hu hi (aam _);have b:=fU k (cw i u i).1 k a.uf (by rw[a.len];exact hk) (aam _);refine uX ⟨[1],[],[],[],[],[]⟩ hC Tryz.func182 rfl (by kernel_rfl) fun _=>?_;refine⟨_,_,(vF u hu i hi),?_⟩;refine⟨_,_,(vF (cw i u i).1 a.uf k (by rw[a.len];exact hk)),?_⟩;refine qy (au.open (by exact hC) _ 100000 [90000] (by exact rfl) rfl rfl rfl) ?_;have ra:=(aao.1 ((b.same _ _).2 ((a.same _ _).2 a.root)).top).1;have rb:=(aao.1 ((b.same _ _).2 b.root).top).1;have E9:((max ((cw i u i).2:Int) ((cw k (cw i u i).1 k).2:Int))).toNat=max (cw i u i).2 (cw k (cw i u i).1 k).2:=by omega
 have lv:=bQ (cw k (cw i u i).1 k).1;obtain⟨v,hv⟩:∃v,(cw k (cw i u i).1 k).1[max (cw i u i).2 (cw k (cw i u i).1 k).2]?=some v:=⟨_,acg (by omega)⟩;refine⟨⟨by omega,by rw[lv];omega⟩,?_⟩;refine⟨[i64 v],(by rw[E9];exact cM hv),?_⟩;refine⟨rfl,(And.intro ⟨rfl,?_,trivial⟩ trivial)⟩;refine adV (AB.row _) ?_;rw[E9];show (aA _).set _ [i64 (min _ _)]=_;rw[fV,gj];congr 1;congr 1;omega
end M
namespace Reg
def cd(p:Nat->Nat)(i:Nat):List Nat:=(List.range i).filter fun r=>decide (p r=r)
def dh(p:Nat->Nat)(i r:Nat):List Nat:=(List.range i).filter fun m=>decide (p m=r)
def aP(p:Nat->Nat)(i:Nat):List (List Nat):=(cd p i).map (dh p i)
structure Dg(p:Nat->Nat)(n:Nat):Prop where
 le:∀m,m<n->p m<=m
 top:∀m,m<n->p (p m)=p m
theorem mem_keys{p:Nat->Nat}{i r:Nat}:r∈cd p i↔r<i/\p r=r:=by simp[cd]
theorem dx{p:Nat->Nat}{i r m:Nat}:m∈dh p i r↔m<i/\p m=r:=by simp[dh]
theorem afh(p:Nat->Nat)(i:Nat):(cd p i).Nodup:=aea ac1 List.nodup_range
theorem fE(p:Nat->Nat)(i:Nat):cd p (i+1)=if p i=i then cd p i++[i] else cd p i:=by
 rw[cd,adK,acA];by_cases h:p i=i<;>simp[h,cd]
theorem uw(p:Nat->Nat)(i r:Nat):dh p (i+1) r=if p i=r then dh p i r++[i] else dh p i r:=by
 rw[dh,adK,acA];by_cases h:p i=r<;>simp[h,dh]
theorem Nu{p:Nat->Nat}{n i:Nat}(hp:Dg p n)(hi:i<=n):dh p i i=[]:=by
 refine acf.2 fun m hm=>?_;have h1:=abD.1 hm;have:=hp.le m (by omega);simp;omega
theorem Fa{p:Nat->Nat}{n i:Nat}(hp:Dg p n)(hi:i<n)(h:p i=i):aP p (i+1)=aP p i++[[i]]:=by
 rw[aP,fE,aap h,abE];congr 1
 ·refine aaG fun r hr=>?_;have:=(mem_keys.1 hr).1;rw[uw,aaa (by omega)]
 simp[uw,h,Nu hp (Nat.le_of_lt hi)]
theorem Nv{p:Nat->Nat}{n i:Nat}(hp:Dg p n)(hi:i<n)(h:p i≠i):∃k:Nat,(cd p i)[k]?=some (p i):=by
 have h1:=hp.le i hi;exact ab8.1 (mem_keys.2 ⟨by omega,hp.top i hi⟩)
theorem zn{l:List Nat}(h:l.Nodup){a b x:Nat}(ha:l[a]?=some x)(hb:l[b]?=some x):a=b:=by
 obtain⟨h1,e1⟩:=aao.1 ha;obtain⟨h2,e2⟩:=aao.1 hb;rcases ada a b with h3 | h3 | h3
 ·exact absurd (e1.trans e2.symm) (aaS.1 h _ _ h1 h2 h3)
 ·exact h3
 exact absurd (e2.trans e1.symm) (aaS.1 h _ _ h2 h1 h3)
theorem Fb{p:Nat->Nat}{i:Nat}(h:p i≠i){k:Nat}(hk:(cd p i)[k]?=some (p i)):aP p (i+1)=(aP p i).set k (dh p i (p i)++[i])/\(aP p i)[k]?=some (dh p i (p i)):=by
 have Ov:=(aao.1 hk).1;refine⟨?_,by rw[aP,aak,hk];rfl⟩;rw[aP,fE,aaa h];apply ach;intro m;rw[ew (by rw[aP,aej];exact Ov),aP,aak,aak];by_cases e:m=k
 ·subst e;rw[aap rfl,hk];simp[uw]
 rw[aaa e];cases hm:(cd p i)[m]? with
 | none=>rfl
 | some r=>
  have b8:p i≠r:=fun e2=>e (zn (afh p i) hm (by rw[hk,e2]));simp[uw,b8]
theorem oq(p:Nat->Nat)(i:Nat):(aP p i).length=(cd p i).length:=by simp[aP]
theorem qI(p:Nat->Nat)(i:Nat):(cd p i).length<=i:=by
 have:=adb (fun r=>decide (p r=r)) (List.range i);simpa [cd] using this
theorem qJ(p:Nat->Nat)(i r:Nat):(dh p i r).length<=i:=by
 have:=adb (fun m=>decide (p m=r)) (List.range i);simpa [dh] using this
def cQ(u:List Int)(i:Nat):Nat:=(cw i u i).2
variable {u:List Int}
theorem iM(hu:UF u){i:Nat}(hi:i<u.length):eh u i (cQ u i):=(fU i u i hu hi (aam _)).root
theorem zo(hu:UF u){i r:Nat}(h:eh u i r):cQ u i=r:=(iM hu h.lt).uniq h
theorem rz(hu:UF u):Dg (cQ u) u.length:=
 ⟨fun m hm=>(iM hu hm).le hu,fun m hm=>by
  have h:=iM hu hm;exact zo hu (.here _ h.top)⟩
theorem ae8(hu:UF u){i k:Nat}(hi:i<u.length)(hk:k<u.length):kU u i k↔cQ u i=cQ u k:=
 ⟨fun ⟨r,h1,h2⟩=>(zo hu h1).trans (zo hu h2).symm,fun e=>⟨_,iM hu hi,by rw[e];exact iM hu hk⟩⟩
end Reg
namespace M
open Go.AM Go.RowKit Go.Lib
open Reg (UF eh iota)
def sR(n i:Nat):List Int:=(List.range n).map fun (j:Nat)=>if j<i then (j:Int) else 0
theorem zp(n i:Nat):(sR n i).length=n:=by simp[sR]
theorem Fc{n i:Nat}(h:i<n):(sR n i)[i]?=some 0:=by
 rw[sR,aak,abP h];simp
theorem BK(n:Nat):aA (sR n 0)=List.replicate n [i64 0]:=by
 refine ach fun m=>?_;rw[aA,aak,sR,aak,ac2];by_cases h:m<n
 ·rw[abP h,aap h];rfl
 rw[aaa h,abI (by simp;omega)];rfl
theorem Fe(n:Nat):sR n n=iota n:=aaG fun j hj=>aap (abD.1 hj)
theorem Ff{n i:Nat}(h:i<n):(sR n i).set i (i:Int)=sR n (i+1):=by
 refine ach fun m=>?_;rw[Reg.ew (by rw[zp];exact h),sR,sR,aak,aak];by_cases e:m=i
 ·subst e;rw[aap rfl,abP h];simp
 rw[aaa e];by_cases hm:m<n
 ·rw[abP hm];simp only[ab6,Option.some.injEq];by_cases h2:m<i
  ·rw[aap h2,aap (by omega)]
  rw[aaa h2,aaa (by omega)]
 rw[abI (by simp;omega)];rfl
theorem KJ(n:Nat)(hn:n<=1000000000):af C 181 [.pv (i64 n)] (.hown [.row 3 (aA (iota n))]) []:=by
 refine UO ⟨[],[0],[],[],[],[]⟩ hC Tryz.func181 rfl (by kernel_rfl) fun _=>⟨_,au.refl _ _,?_⟩;refine⟨⟨by omega,by omega,by dsimp only;omega,by omega⟩,?_⟩;refine p7 (fun _:Unit=>True) (fun _=>[(3,.bx 8 0)]) (fun _=>[(8,.box [.ow 6]),(6,.row 3 (aA (iota n)))]) (fun _ hO t h=>?_) ?_
 ·exact⟨_,au.pack (by exact hC) _ 8 (cs:=[.row 3 (aA (iota n))]) (by exact rfl) (by exact rfl) (by exact⟨Z,Y⟩),And.intro rfl (And.intro rfl trivial)⟩
 refine aJ (fun i:Nat=>i<=n) (fun i=>[(3,.bx 8 0),(13,.p (i64 n)),(14,.p (i64 i))]) (fun i=>[(8,.box [.ow 6]),(6,.row 3 (aA (sR n i)))]) (fun i=>n-i) 0 _ (au.refl _ _) (aaj _) ⟨rfl,adV (fun m:Nat=>AV.p (i64 m)) aan,Z,Y⟩ ⟨rfl,by rw[BK];rfl,trivial⟩ fun i hi t h=>?_;have lv:=bQ (sR n i);have lu:=zp n i;refine iW ?_ ?_<;>intro h1
 ·refine⟨⟨by omega,by rw[lv];omega⟩,?_⟩;refine⟨[i64 0],(cM (Fc (by omega))),?_⟩;refine⟨⟨by omega,by omega⟩,?_⟩;exact⟨(i+1),_,au.refl _ _,by omega,by omega,⟨Z,Z,Z,Y⟩,⟨rfl,adV (AB.row _) ((fV _ _ _).trans (by rw[ad2,Ff (by omega)])),trivial⟩⟩
 have e:i=n:=by omega
 subst e;exact⟨(),trivial,⟨Z,Y⟩,⟨rfl,adV (AB.row _) (adV aA (Fe i)),trivial⟩⟩
theorem I4(k:IntKind)(a b:Int):Ak (.int k a) (.int k b)=decide (a=b):=rfl
theorem PJ{q:IntKind}{k:Int}{k':Value}(h:Ak (.int q k) k'=true):∃q',k'=.int q' k:=by
 cases k'<;>simp_all [Ak]
theorem mE(v:PV)(q:IntKind)(k n:Int):∀es:List (Value×PV),kz (mP es (.int q k) v) (.int q n)=if n=k then some v else kz es (.int q n)
 | []=>by
  simp only[mP,kz,I4];by_cases h:n=k<;>simp[h]
 | (k',u)::r=>by
  simp only[mP];cases h:Ak (.int q k) k'
  ·simp only[kz,mE v q k n r];by_cases e:n=k
   ·subst e;simp[h]
   simp[e]
  obtain⟨q',e⟩:=PJ h;subst e;simp only[kz,I4];by_cases e:n=k
  ·simp[e]
  rw[show Ak (Value.int q n) (Value.int q' k)=decide (n=k) from rfl];simp[e]
theorem Hy(u:List Int)(hu:UF u)(i r:Nat)(hr:eh u i r):af C 243 [.aN [.row 3 (aA u)],.pv (i64 i)] (.p (i64 r)) [.aN [.row 3 (aA (Reg.cw i u i).1)]]:=by
 have h:=vF u hu i hr.lt;rw[(Reg.fU i u i hu hr.lt (aam _)).root.uniq hr]at h;exact h
def hl(l:List Nat):List HX:=[.row 3 (aA (l.map fun (m:Nat)=>(m:Int)))]
def pl(l:List Nat):List PV:=[.sl (aA (l.map fun (m:Nat)=>(m:Int)))]
def ou(u:List Int):Nat->List Int
 | 0=>u
 | i+1=>(Reg.cw i (ou u i) i).1
structure PK(u:List Int)(i:Nat)(es:List (Value×PV)):Prop where
 le:i<=u.length
 key:∀(k r:Nat),(Reg.cd (Reg.cQ u) i)[k]?=some r->kz es (.int .i64 r)=some (i64 k)
theorem zq{u:List Int}(hu:UF u):∀i,i<=u.length->UF (ou u i)/\(ou u i).length=u.length/\∀m r,eh (ou u i) m r↔eh u m r
 | 0,_=>⟨hu,rfl,fun _ _=>aaT⟩
 | i+1,h=>by
  obtain⟨a,b,c⟩:=zq hu i (by omega);have t:=Reg.fU i (ou u i) i a (by omega) (aam _);exact⟨t.uf,t.len.trans b,fun m r=>(t.same m r).trans (c m r)⟩
theorem BL(ls:List (List Nat)):xH (ls.map hl):=fun r hr x hx=>by
 obtain⟨l,_,rfl⟩:=adS.1 hr;simp only[hl,adq,adI,or_false]at hx;subst hx;trivial
theorem zr(f:AV->AV)(ls:List (List Nat)):(ls.map hl).map (fun r=>r.map (HX.cS f))=ls.map hl:=by
 rw[ad6];rfl
theorem vG(l:List Nat)(y:HX):(hl l).set 0 y=[y]:=rfl
theorem ae3(f:AV->AV)(ls:List (List Nat))(k d:Nat)(h:f (.ow d)=.ow d):((ls.map hl).set k [.av (.ow d)]).map (fun r=>r.map (HX.cS f))=(ls.map hl).set k [.av (.ow d)]:=by
 rw[ad8,zr];simp only[aa8,ab4,HX.cS,h]
theorem SH(f:AV->AV)(ls:List (List Nat))(x:List (List HX)):(ls.map hl++x).map (fun r=>r.map (HX.cS f))=ls.map hl++x.map (fun r=>r.map (HX.cS f)):=by
 rw[abE,zr]
theorem vH(ls:List (List Nat))(k d:Nat)(hk:k<ls.length):((ls.map hl).set k [.av (.ow d)])[k]?=some [.av (.ow d)]:=ab7 (by rw[aej];exact hk)
theorem ux{α:Type}(l:List α)(x y:α)(n:Nat)(h:n=l.length):(l++[x]).set n y=l++[y]:=by subst h;simp
theorem Vn(ls:List (List Nat)):Oi (ls.map hl) (ls.map pl):=Oi.map fun l _=>⟨rfl,fun j u v hu hv=>by
 match j with
 | 0=>
  simp only[hl,pl,aa9,Option.some.injEq]at hu hv;subst hu;subst hv;exact .row _ _
 | j+1=>simp[hl]at hu⟩
theorem Hz(u:List Int)(hu:UF u)(hn:u.length<=1000000000):af C 183 [.aN [.row 3 (aA u)]] (.own 71 ((Reg.aP (Reg.cQ u) u.length).map pl)) [.aN [.row 3 (aA (ou u u.length))]]:=by
 refine UO ⟨[10],[0],[(10,[3,1000003,7])],[10],[(10,[true,true,true,false,true,true,true,true,true,true,true,true,false,true,true])],[]⟩ hC Tryz.func183 rfl (by kernel_rfl) fun _=>⟨_,au.open hC _ 100000 [90000] (by exact rfl) rfl rfl rfl,?_⟩;obtain⟨p,hp⟩:∃p,p=Reg.cQ u:=⟨_,rfl⟩;have hT:Reg.Dg p u.length:=hp▸Reg.rz hu;rw[<-hp];refine p7 (fun _:Unit=>True) (fun _=>[(0,.bx 100000 0),(3,.ow 3)]) (fun _=>[(100000,.aN [.row 3 (aA (ou u u.length))]),(3,.az 71 ((Reg.aP p u.length).map hl))]) (fun _ hO t h=>?_) ?_
 ·exact⟨_,au.ID (by exact hC) _ 2 ((Reg.aP p u.length).map pl) (e:=71) (by exact adV (AB.az _) (zr (rn 3 2) _)) (Vn _),And.intro rfl (And.intro rfl (And.intro rfl trivial))⟩
 refine aJ (fun x:Nat×List (Value×PV)=>PK u x.1 x.2) (fun x=>[(0,.bx 100000 0),(3,.ow 3),(4,.ow 7),(12,.p (i64 u.length)),(13,.p (i64 x.1))]) (fun x=>[(100000,.aN [.row 3 (aA (ou u x.1))]),(3,.az 71 ((Reg.aP p x.1).map hl)),(7,.map (.int .i64) x.2)]) (fun x=>u.length-x.1) (0,[]) _ ((au.pack (by exact hC) _ 100000 (cs:=[.row 3 (aA u)]) (by exact rfl) (by exact rfl) (by exact⟨Z,Y⟩)).trans ((au.dk (by exact hC) _ 3 71 _ (by decide) (by exact rfl) (by exact rfl) (by decide)).trans (au.Wg (by exact hC) _ 3 (e:=71) (es:=[]) (by exact rfl)))) ⟨aaj _,fun k r h=>by simp[Reg.cd]at h⟩ ⟨rfl,rfl,rfl,adV (fun m:Nat=>AV.p (i64 m)) (bQ u),Z,Y⟩ ⟨Z,Z,Z,Y⟩ fun ⟨i,es⟩ hx t h=>?_;obtain⟨h1,h2⟩:=hx;simp only at h1 h2;rw[<-hp]at h2;obtain⟨vu,vl,vr⟩:=zq hu i h1;refine iW ?_ ?_<;>intro g<;>try simp only[zB]at g
 ·have hr:eh (ou u i) i (p i):=(vr _ _).2 (by rw[hp];exact Reg.iM hu (by omega));refine⟨_,_,(Hy _ vu i (p i) hr),?_⟩;refine iW ?_ ?_<;>intro g2<;>try simp only[zB]at g2
  ·have e:p i=i:=by omega
   have nx:=Reg.Fa hT (show i<u.length by omega) e;have kl:(Reg.cd p i).length<=i:=Reg.qI p i;have sl:(Reg.aP p i).length=(Reg.cd p i).length:=Reg.oq p i;refine⟨⟨fun r hr=>by simp at hr;subst hr;rfl,by simp only[aej,aaM,aan];omega,by simp only[aej,aaM,aan];omega⟩,?_⟩;refine qy ((au.Sr (by exact hC) _ 3 (Reg.aP p i).length 0 (e:=71) (e':=3) (es:=(Reg.aP p i).map hl++[[.av .nl]]) (r:=[.av .nl]) (by exact adV (AB.az _) (by simp only[zr,SH];rfl)) (by rw[acu (by simp)];simp) (by exact rfl) (by exact rfl) (by decide)).trans (au.rq (by exact hC) _ 3 (Reg.aP p i).length 0 90001 (e:=71) (es:=(Reg.aP p i++[[]]).map hl) (e':=3) (r:=hl []) (xs:=[]) (by decide) (by decide) (by exact adV (AB.az _) (by rw[abE];refine (ux _ _ _ _ (aej _).symm).trans ?_;rfl)) (BL _) (by rw[abE,acu (by simp)];simp) (by exact rfl))) ?_;have Zt:∀v,kz (mP es (.int .i64 i) v) (.int .i64 (p i))=some v:=fun v=>by rw[mE,aap (by rw[e])]
   refine⟨(some _),(Zt _),?_⟩;refine⟨(some _),(Zt _),?_⟩;have e0:(List.map (fun r=>List.map (HX.cS (sc 18)) r) (List.map hl (Reg.aP p i))).length=(Reg.aP p i).length:=by simp
   refine⟨⟨by dsimp only;omega,by simp⟩,?_⟩;refine⟨[.av (.ow 90001)],(by rw[vG,ae3,ae3];rw[e0];exact vH (Reg.aP p i++[[]]) (Reg.aP p i).length 90001 (by simp);rfl;rfl),?_⟩;refine⟨⟨fun r hr=>by simp at hr;subst hr;rfl,by simp,by simp⟩,?_⟩;refine⟨⟨by dsimp only;omega,by simp⟩,?_⟩;refine⟨[.av (.ow 90001)],(by rw[vG,ae3,ae3];rw[e0];exact vH (Reg.aP p i++[[]]) (Reg.aP p i).length 90001 (by simp);rfl;rfl),?_⟩;refine⟨⟨by omega,by omega⟩,?_⟩;refine⟨(i+1,mP es (.int .i64 i) (i64 (Reg.aP p i).length)),_,au.Bm (by exact hC) _ 3 (Reg.aP p i).length 0 41 (e:=71) (es:=((Reg.aP p i++[[]]).map hl).set (Reg.aP p i).length [.av (.ow 41)]) (e':=3) (xs:=aA [(i:Int)]) (by decide) (by exact adV (AB.az _) (by rw[vG,ae3,ae3,e0];exact aeb _;rfl;rfl)) (by exact rfl) (vH _ _ _ (by simp)) (by exact rfl),?_⟩;refine⟨⟨by omega,fun k r hk=>?_⟩,⟨by omega,⟨Z,Z,Z,Z,Z,Y⟩,⟨rfl,?_,adV (AB.map _) ?_,trivial⟩⟩⟩
   ·rw[<-hp,Reg.fE,aap e]at hk;rw[mE];by_cases LG:k<(Reg.cd p i).length
    ·rw[aaE LG]at hk;have:=(Reg.mem_keys.1 (aad hk)).1;rw[aaa (by omega)];exact h2 k r hk
    rw[acu (by omega)]at hk;have Im:k=(Reg.cd p i).length:=by
     have:=(aao.1 hk).1;simp at this;omega
    subst Im;simp only[aab,aa9,Option.some.injEq]at hk;subst hk;rw[aap rfl,sl]
   ·refine adV (AB.az _) ?_;show ((List.map hl (Reg.aP p i++[[]])).set _ _).set _ _=List.map hl (Reg.aP p (i+1));rw[aeb,nx,abE,abE];exact ux _ _ _ _ (aej _).symm
   dsimp only;rw[e0];rfl
  have e:p i≠i:=by omega
  obtain⟨k,hk⟩:=Reg.Nv hT (show i<u.length by omega) e;obtain⟨nx,Gp⟩:=Reg.Fb e hk;have km:=h2 k (p i) hk;have SI:((Reg.aP p i).map hl)[k]?=some (hl (Reg.dh p i (p i))):=by rw[aak,Gp];rfl
  refine qy (au.rq (by exact hC) _ 3 k 0 90001 (e:=71) (by decide) (by decide) (by exact adV (AB.az _) (by simp only[zr])) (BL _) SI (by exact rfl)) ?_;refine⟨(some (i64 k)),km,?_⟩;refine⟨(some (i64 k)),km,?_⟩;have kl:=(aao.1 hk).1;have sl:(Reg.aP p i).length=(Reg.cd p i).length:=Reg.oq p i;refine⟨⟨by omega,by simp only[aej,aaM];omega⟩,?_⟩;refine⟨[.av (.ow 90001)],(by rw[vG,ae3,ae3];exact vH (Reg.aP p i) k 90001 (by omega);rfl;rfl),?_⟩;have ml:=Reg.qJ p i (p i);refine⟨⟨fun r hr=>by simp at hr;subst hr;rfl,by simp only[bQ,aej,aaM,aan];omega,by simp only[bQ,aej,aaM,aan];omega⟩,?_⟩;refine⟨⟨by omega,by simp only[aej,aaM];omega⟩,?_⟩;refine⟨[.av (.ow 90001)],(by rw[vG,ae3,ae3];exact vH (Reg.aP p i) k 90001 (by omega);rfl;rfl),?_⟩;refine⟨⟨by omega,by omega⟩,?_⟩;refine⟨(i+1,es),_,au.Bm (by exact hC) _ 3 k 0 41 (e:=71) (es:=((Reg.aP p i).map hl).set k [.av (.ow 41)]) (e':=3) (xs:=aA ((Reg.dh p i (p i)++[i]).map fun (m:Nat)=>(m:Int))) (by decide) (by exact adV (AB.az _) (by rw[vG,ae3,ae3];exact aeb _;rfl;rfl)) (by exact adV (AB.row _) (by simp[aA];rfl)) (vH _ _ _ (by omega)) (by exact rfl),?_⟩;refine⟨⟨by omega,fun k' r xA=>?_⟩,⟨by omega,⟨Z,Z,Z,Z,Z,Y⟩,⟨rfl,?_,Z,Y⟩⟩⟩
  ·rw[<-hp,Reg.fE,aaa e]at xA;exact h2 k' r xA
  refine adV (AB.az _) ?_;show ((List.map hl (Reg.aP p i)).set _ _).set _ _=List.map hl (Reg.aP p (i+1));rw[aeb,nx,ad8];rfl
 have e:i=u.length:=by omega
 subst e;exact⟨(),trivial,⟨Z,Z,Y⟩,⟨Z,Z,Y⟩⟩
end M
namespace Reg
def P4(K:Int)(r:ae):Prop:=(-K<=r.x0/\r.x0<=K)/\(-K<=r.y0/\r.y0<=K)/\(-K<=r.x1/\r.x1<=K)/\(-K<=r.y1/\r.y1<=K)
theorem Q8{K:Int}{r:ae}(h:Full r)(k:RK K r):P4 K r:=by
 obtain⟨h1,h2⟩:=h;obtain⟨k1,k2,k3,k4⟩:=k;exact⟨⟨by omega,by omega⟩,⟨by omega,by omega⟩,⟨by omega,by omega⟩,⟨by omega,by omega⟩⟩
theorem Nw{K:Int}{a b:ae}(ha:P4 K a)(hb:P4 K b):0<=fT a b/\fT a b<=2*K+1:=by
 obtain⟨a1,a2,a3,a4⟩:=ha;obtain⟨b1,b2,b3,b4⟩:=hb;simp only[fT,bA];omega
def xu(p:Int×Int):ae:=⟨p.1,p.2,p.1+1,p.2+1⟩
structure Zu where
 a:Int
 b:Int
 dist:Int
 src:Int×Int
 dst:Int×Int
end Reg
namespace M
open Go.AM Go.RowKit Go.Lib
open Reg (ae P4 fT bA jD xu Zu)
def pt(p:Int×Int):List PV:=[i64 p.1,i64 p.2]
theorem BM(a b:ae)(ha:P4 1000000000 a)(hb:P4 1000000000 b):af C 98 [.pv (.ag (rc a)),.pv (.ag (rc b))] (.p (i64 (fT a b))) []:=by
 obtain⟨a1,a2,a3,a4⟩:=ha;obtain⟨b1,b2,b3,b4⟩:=hb;refine fW hC Tryz.func98 rfl (by kernel_rfl) fun _=>?_;refine⟨_,_,(r8 a.x0 a.x1 b.x0 b.x1 (by omega)),?_⟩;refine⟨_,_,(r8 a.y0 a.y1 b.y0 b.y1 (by omega)),?_⟩;refine⟨?_,trivial⟩;rfl
theorem drop_at{α:Type}{l:List α}{i:Nat}{x:α}(h:l[i]?=some x):l.drop i=x::l.drop (i+1):=by
 obtain⟨hi,e⟩:=aao.1 h;rw[acX hi,e]
open Reg (aU an bw bE cv IV bN bK told dJ a_ coreS Canon Full RK at')
theorem Fg{s:List an}(h:bE s)(hb:cv 1450000 s):(told s).length<=4398046511104:=by
 have h1:=Reg.cc h (by omega) hb;have h2:=Reg.uj (M:=1450000) (s:=s) fun t ht=>by have:=Reg.kT h (by omega) hb t ht;omega
 have h3:s.length*1450000<=2900000*1450000:=abf _ (by omega);omega
theorem AP(s:List an)(hs:bE s)(ks:cv 1450000 s)(l r d u:Int)(hl:0<=l/\l<=100000)(hr:0<=r/\r<=100000)(hd:0<=d/\d<=100000)(hu:0<=u/\u<=100000):af C 80 [.pv (aw s),.pv (i64 l),.pv (i64 r),.pv (i64 d),.pv (i64 u)] (.p (aw (a_ s l r d u))) []:=by
 refine fW hC Tryz.func80 rfl (by kernel_rfl) fun _=>?_;have ls:=Reg.cc hs (by omega) ks;have lx:=Reg.kT hs (by omega) ks;have lt:=Fg hs ks;have tf:=Reg.bP hs;have ti:=Reg.fR hs ks;refine⟨_,_,(ae6 s (by omega) (fun t ht=>by have:=lx t ht;omega) lt),?_⟩;have so:=kG ((told s).map (dJ l r d u)) 1550000 (by omega) (by omega) (fun q hq=>by
  obtain⟨p,hp,rfl⟩:=adS.1 hq;have:=tf p hp;unfold Full at this;exact⟨by show p.x0-l<p.x1+r;omega,by show p.y0-d<p.y1+u;omega⟩) (fun q hq=>by
  obtain⟨p,hp,rfl⟩:=adS.1 hq;have:=ti p hp;unfold RK at this;exact⟨by show -1550000<=p.x0-l;omega,by show -1550000<=p.y0-d;omega,by show p.x1+r<=1550000;omega,by show p.y1+u<=1550000;omega⟩) (by rw[aej];exact lt)
 rw[show a_ s l r d u=Reg.aB ((told s).map (dJ l r d u)) from rfl];generalize told s=L at *;have lm:=fun i=>ai (lQ l r d u L i) rc;have ml:=IZ l r d u L;have m0:lQ l r d u L 0=L:=by simp[lQ]
 refine aJ (fun i:Nat=>i<=L.length) (fun i=>[(1,.p (i64 l)),(2,.p (i64 r)),(3,.p (i64 d)),(4,.p (i64 u)),(11,.ow 11),(16,.ow 11),(17,.p (i64 (L.map rc).length)),(18,.p (i64 i))]) (fun i=>[(11,.row 87 ((lQ l r d u L i).map rc))]) (fun i=>L.length-i) 0 _ (au.refl _ _) (aaj _) ⟨Z,Z,Z,Z,Z,Z,Z,Z,Y⟩ ⟨by rw[m0];rfl,trivial⟩ fun i hi t h=>?_;have lmi:=lm i;have mli:=ml i;have lm0:=ai L rc;refine iW ?_ ?_<;>intro g1
 ·obtain⟨q,hq⟩:=ak (l:=L) (i:=i) (by omega);have a:=ti q (aad hq);have b:=tf q (aad hq);unfold RK at a;unfold Full at b;have hm:=IY (l:=l) (r:=r) (d:=d) (u:=u) hq;have mT:=I0 (l:=l) (r:=r) (d:=d) (u:=u) hq;refine⟨⟨by omega,by omega⟩,?_⟩;refine⟨(rc q),(idx rfl hm).2,?_⟩;refine⟨⟨by omega,by omega⟩,?_⟩;refine⟨⟨by omega,by omega⟩,?_⟩;refine⟨⟨by omega,by omega⟩,?_⟩;refine⟨⟨by omega,by omega⟩,?_⟩;refine⟨⟨by omega,by omega⟩,?_⟩;refine⟨(rc q),(idx rfl hm).2,?_⟩;refine⟨⟨by omega,by omega⟩,?_⟩;have e5:∀k:Nat,k=i->AB.row 87 (((lQ l r d u L i).map rc).set k (rc (dJ l r d u q)))=AB.row 87 ((lQ l r d u L (i+1)).map rc):=by
   intro k e;subst e;rw[<-ad8,mT]
  exact⟨(i+1),_,au.refl _ _,by omega,by omega,⟨Z,Z,Z,Z,Z,Z,Z,Z,Y⟩,⟨e5 _ rfl,trivial⟩⟩
 have e:lQ l r d u L i=L.map (dJ l r d u):=by
  rw[lQ,adW (by omega),ab1 (by omega),acw]
 rw[e];refine⟨_,_,so,?_⟩;refine⟨?_,trivial⟩;rfl
theorem Fh(s:List an)(hs:bE s)(ks:cv 1000000 s)(l r d u:Int)(hl:0<=l/\l<=100000)(hr:0<=r/\r<=100000)(hd:0<=d/\d<=100000)(hu:0<=u/\u<=100000):af C 79 [.pv (aw s),.pv (i64 l),.pv (i64 r),.pv (i64 d),.pv (i64 u)] (.p (aw (coreS s l r d u))) []:=by
 refine fW hC Tryz.func79 rfl (by kernel_rfl) fun _=>?_;have ms:=ai s hb;refine iW ?_ ?_<;>intro g0
 ·rw[ms]at g0;have e:s=[]:=adl (by omega);refine⟨?_,trivial⟩;rw[coreS,aap e];rfl
 rw[ms]at g0;have b8:s≠[]:=fun e=>g0 (by rw[e];rfl);rw[coreS,aaa b8];obtain⟨a1,a2,a3⟩:=Reg.ui hs b8;have a4:=a3 _ ks;have aN:∀q∈[dJ (l+r+d+u+1) (l+r+d+u+1) (l+r+d+u+1) (l+r+d+u+1) (bK s)],Full q:=fun q hq=>by
  rw[ab_]at hq;subst hq;unfold Full at a1;exact⟨by show (bK s).x0-(l+r+d+u+1)<(bK s).x1+(l+r+d+u+1);omega,by show (bK s).y0-(l+r+d+u+1)<(bK s).y1+(l+r+d+u+1);omega⟩
 have Ty:∀q∈[dJ (l+r+d+u+1) (l+r+d+u+1) (l+r+d+u+1) (l+r+d+u+1) (bK s)],RK 1400001 q:=fun q hq=>by
  rw[ab_]at hq;subst hq;unfold RK at a4;exact⟨by show -1400001<=(bK s).x0-(l+r+d+u+1);omega,by show -1400001<=(bK s).y0-(l+r+d+u+1);omega,by show (bK s).x1+(l+r+d+u+1)<=1400001;omega,by show (bK s).y1+(l+r+d+u+1)<=1400001;omega⟩
 obtain⟨b1,b2,b3⟩:=Reg.aR aN;have b4:=b3 _ Ty;obtain⟨c1,c2,c3⟩:=Reg.b6 b1 hs;have c4:=c3 1400001 b4 (ks.up (by omega));obtain⟨d1,d2,d3⟩:=Reg.bW c1 hr.1 hl.1 hu.1 hd.1;have d4:=(d3 1400001 100000 c4 hr.2 hl.2 hu.2 hd.2).up (B:=2000000) (by omega);have so:=kG _ 1400001 (by omega) (by omega) aN Ty (by simp);have q1:=iJ _ s b1 hs (b4.up (by omega)) (ks.up (by omega));have q2:=AP _ c1 (c4.up (by omega)) r l u d hr hl hu hd;have q3:=iJ s _ hs d1 (ks.up (by omega)) d4;unfold RK at a4;unfold Full at a1;refine⟨_,_,(uk s hs (ks.up (by omega)) b8),?_⟩;refine⟨⟨by omega,by omega⟩,?_⟩;refine⟨⟨by omega,by omega⟩,?_⟩;refine⟨⟨by omega,by omega⟩,?_⟩;refine⟨⟨by omega,by omega⟩,?_⟩;refine⟨⟨by omega,by omega⟩,?_⟩;refine⟨⟨by omega,by omega⟩,?_⟩;refine⟨⟨by omega,by omega⟩,?_⟩;refine⟨⟨by omega,by omega⟩,?_⟩;refine⟨_,_,so,?_⟩;refine⟨_,_,q1,?_⟩;refine⟨_,_,q2,?_⟩;refine⟨_,_,q3,?_⟩;refine⟨?_,trivial⟩;rfl
theorem zt(s:List an)(hs:bE s)(ks:cv 1000000 s)(n:Int)(h0:0<=n)(h1:n<=100000):af C 133 [.pv (aw s),.pv (i64 n)] (.p (aw (coreS s n n n n))) []:=by
 refine fW hC Tryz.func133 rfl (by kernel_rfl) fun _=>?_;refine⟨_,_,(Fh s hs ks n n n n ⟨h0,h1⟩ ⟨h0,h1⟩ ⟨h0,h1⟩ ⟨h0,h1⟩),?_⟩;refine⟨?_,trivial⟩;rfl
end M
namespace Reg
end Reg
namespace M
open Go.AM Go.RowKit Go.Lib
open Reg (ae P4 Zu)
def rr(r:List ae):List PV:=[aj r]
end M
namespace Reg
def bg:ae:=⟨0,0,0,0⟩
def kK(a b:ae):Bool:=decide (a.x0<b.x1)&&decide (b.x0<a.x1)
def ov(all:List ae)(f e:Nat):Nat->List Int->Nat->Nat->List Int
 | 0,u,_,_=>u
 | n+1,u,i,j=>if i<f/\j<e then
   ov all f e n (if kK (all.getD i bg) (all.getD j bg)=true then gj u i j else u)
    (if (all.getD i bg).x1<(all.getD j bg).x1 then i+1 else i)
    (if (all.getD i bg).x1<(all.getD j bg).x1 then j else j+1)
  else u
def meets(p:Option an)(b:an):Bool:=match p with
 | some q=>decide (q.y1=b.y0)
 | none=>false
def pW(all:List ae):Option an->List an->List Int->Nat->Nat->List Int
 | _,[],u,_,_=>u
 | p,b::s,u,f,g=>pW all (some b) s (if meets p b=true then ov all f (f+b.xs.length) (f-g+b.xs.length) u g f else u) (f+b.xs.length) f
def jE(s:List an):List Int:=pW (told s) none s (iota (told s).length) 0 0
theorem xP(all:List ae)(f e:Nat):∀(n:Nat) (u:List Int) (i j:Nat),UF u->f<=u.length->e<=u.length->UF (ov all f e n u i j)/\(ov all f e n u i j).length=u.length
 | 0,u,i,j,h,_,_=>⟨h,rfl⟩
 | n+1,u,i,j,h,hf,he=>by
  rw[ov];by_cases c:i<f/\j<e
  ·rw[aap c];by_cases o:kK (all.getD i bg) (all.getD j bg)=true
   ·rw[aap o];obtain⟨a,b⟩:=mC h (i:=i) (k:=j) (by omega) (by omega);obtain⟨c1,c2⟩:=xP all f e n _ (if (all.getD i bg).x1<(all.getD j bg).x1 then i+1 else i) (if (all.getD i bg).x1<(all.getD j bg).x1 then j else j+1) a (by omega) (by omega);exact⟨c1,c2.trans b⟩
   rw[aaa o];exact xP all f e n u _ _ h hf he
  rw[aaa c];exact⟨h,rfl⟩
theorem zu(all:List ae):∀(s:List an) (p:Option an) (u:List Int) (f g:Nat),UF u->f+(told s).length<=u.length->UF (pW all p s u f g)/\(pW all p s u f g).length=u.length
 | [],p,u,f,g,h,_=>⟨h,rfl⟩
 | b::s,p,u,f,g,h,hl=>by
  have e:(told (b::s)).length=b.xs.length+(told s).length:=by simp[told]
  rw[e]at hl;rw[pW];by_cases c:meets p b=true
  ·rw[aap c];obtain⟨a1,a2⟩:=xP all f (f+b.xs.length) (f-g+b.xs.length) u g f h (by omega) (by omega);obtain⟨b1,b2⟩:=zu all s (some b) _ (f+b.xs.length) f a1 (by rw[a2];omega);exact⟨b1,b2.trans a2⟩
  rw[aaa c];exact zu all s (some b) u (f+b.xs.length) f h (by omega)
theorem zv(s:List an):UF (jE s)/\(jE s).length=(told s).length:=by
 have:=zu (told s) s none (iota (told s).length) 0 0 (ny _) (by rw[aeM];omega);rw[aeM]at this;exact this
def ox(s:List an):List (List ae):=(aP (cQ (jE s)) (told s).length).map fun l=>l.map fun m=>(told s).getD m bg
def cV(s:List an):List (List an):=(ox s).map aB
end Reg
namespace M
open Go.AM Go.RowKit Go.Lib
open Reg (UF eh Nt cw fU iota ae)
theorem vI(u:List Int)(hu:UF u)(i:Nat)(hi:i<u.length):af C 242 [.pv (i64 i),.aN [.row 3 (aA u)]] (.p (i64 (cw i u i).2)) [.aN [.row 3 (aA (cw i u i).1)]]:=by
 refine UP ⟨[],[],[],[],[],[]⟩ hC Tryz.func242 rfl (by kernel_rfl) fun _=>⟨_,au.open hC _ 100001 [90000] (by exact rfl) rfl rfl rfl,?_⟩;obtain⟨R,hR⟩:∃R,R=cw i u i:=⟨_,rfl⟩;rw[<-hR];refine aJ (fun x:Nat×List Int×Nat=>cw x.1 x.2.1 x.2.2=R/\UF x.2.1/\x.2.2<x.2.1.length/\x.2.2<=x.1) (fun x=>[(1,.bx 100001 0),(0,.p (i64 x.2.2))]) (fun x=>[(100001,.box [.ow 90000]),(90000,.row 3 (aA x.2.1))]) (fun x=>x.2.2) (i,u,i) _ (au.refl _ _) ⟨hR.symm,hu,hi,aam _⟩ ⟨Z,Z,Y⟩ ⟨Z,Z,Y⟩ fun ⟨n,v,k⟩ hx t h=>?_;obtain⟨h1,h2,h3,h4⟩:=hx;simp only at h1 h2 h3 h4;obtain⟨j,l,hj,hl,q1,q2,q3,q4⟩:=BJ h2 h3 h4;have lv:=bQ v;refine⟨⟨by omega,by (try dsimp only);rw[lv];omega⟩,?_⟩;refine⟨[i64 j],(cM hj),?_⟩;refine iW ?_ ?_<;>intro g<;>try simp only[zB]at g
 ·have b8:j≠k:=by omega
  obtain⟨m,rfl,q5⟩:=q4 b8;refine⟨⟨by omega,by (try dsimp only);rw[lv];omega⟩,?_⟩;refine⟨[i64 j],(cM hj),?_⟩;refine⟨⟨by omega,by (try dsimp only);rw[lv];omega⟩,?_⟩;refine⟨[i64 l],(cM hl),?_⟩;refine⟨⟨by omega,by (try dsimp only);rw[lv];omega⟩,?_⟩;refine⟨[i64 j],(cM hj),?_⟩;refine⟨⟨by omega,by (try dsimp only);rw[List.length_set,lv];omega⟩,?_⟩;refine⟨[i64 l],(by rw[List.getElem?_set_self (by (try dsimp only);rw[lv];omega)];rfl),?_⟩;exact⟨(m,v.set k (l:Int),l),_,au.refl _ _,⟨by rw[<-q5];exact h1,(Reg.Ns h2 hj hl).1,by simp only[List.length_set];omega,by dsimp only;omega⟩,by simp only;omega,⟨Z,Z,Y⟩,⟨rfl,congrArg (AB.row _) (fV v k l),trivial⟩⟩
 have e:j=k:=by omega
 have h1:=(q3 e).symm.trans h1;subst h1;exact And.intro rfl (And.intro ⟨Z,Z,Y⟩ trivial)
def vJ(e:TypeId)(f:Nat->List PV)(l:List Nat):List HX:=[.row e (l.map f)]
def SJ(f:Nat->List PV)(l:List Nat):List PV:=[.sl (l.map f)]
theorem zw(e:TypeId)(f:Nat->List PV)(ls:List (List Nat)):xH (ls.map (vJ e f)):=fun r hr x hx=>by
 obtain⟨l,_,rfl⟩:=adS.1 hr;simp only[vJ,adq,adI,or_false]at hx;subst hx;trivial
theorem xQ(e:TypeId)(g:Nat->List PV)(f:AV->AV)(ls:List (List Nat)):(ls.map (vJ e g)).map (fun r=>r.map (HX.cS f))=ls.map (vJ e g):=by
 rw[ad6];rfl
theorem afo(e:TypeId)(f:Nat->List PV)(l:List Nat)(y:HX):(vJ e f l).set 0 y=[y]:=rfl
theorem iC(e:TypeId)(g:Nat->List PV)(f:AV->AV)(ls:List (List Nat))(k d:Nat)(h:f (.ow d)=.ow d):((ls.map (vJ e g)).set k [.av (.ow d)]).map (fun r=>r.map (HX.cS f))=(ls.map (vJ e g)).set k [.av (.ow d)]:=by
 rw[ad8,xQ];simp only[aa8,ab4,HX.cS,h]
theorem PL(e:TypeId)(g:Nat->List PV)(f:AV->AV)(ls:List (List Nat))(x:List (List HX)):(ls.map (vJ e g)++x).map (fun r=>r.map (HX.cS f))=ls.map (vJ e g)++x.map (fun r=>r.map (HX.cS f)):=by
 rw[abE,xQ]
theorem rB(e:TypeId)(g:Nat->List PV)(ls:List (List Nat))(k d:Nat)(hk:k<ls.length):((ls.map (vJ e g)).set k [.av (.ow d)])[k]?=some [.av (.ow d)]:=ab7 (by rw[aej];exact hk)
theorem SK(e:TypeId)(f:Nat->List PV)(ls:List (List Nat)):Oi (ls.map (vJ e f)) (ls.map (SJ f)):=Oi.map fun l _=>⟨rfl,fun j u v hu hv=>by
 match j with
 | 0=>
  simp only[vJ,SJ,aa9,Option.some.injEq]at hu hv;subst hu;subst hv;exact .row _ _
 | j+1=>simp[vJ]at hu⟩
end M
end Go.Proofs.YtfloceomobknoaaGreatDoor
