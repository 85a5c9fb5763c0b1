/- Part 12 of the proof of RulesHolesMatchSpec. -/
import Derived.Test.YtfloceomobknoaaGreatDoorH11
set_option linter.unusedVariables false
set_option linter.unusedSimpArgs false
set_option maxRecDepth 100000
set_option maxHeartbeats 8000000
namespace Go
abbrev adN:=@List.Pairwise.imp
abbrev aeg:=@List.filter_map
abbrev adj:=@List.filter_congr
abbrev adO:=@List.map_singleton
end Go
namespace Go.Proofs.YtfloceomobknoaaGreatDoor
namespace M
open Go.AM Go.RowKit Go.Lib
open Reg (ae Full RK an bE cv told aB bN a_ coreS ff dy dp dD dJ en dN dO fT at')
theorem vS(q:ae)(n:Int)(hq:jZ q)(h0:0<=n)(h1:n<=1000000):af C 94 [.pv (.ag (rc q)),.pv (i64 n)] (.p (.ag (rc (ff q n)))) []:=by
 unfold jZ at hq;refine fW hC Tryz.func94 rfl (by kernel_rfl) fun _=>?_;refine⟨⟨by omega,by omega⟩,?_⟩;refine⟨⟨by omega,by omega⟩,?_⟩;refine⟨⟨by omega,by omega⟩,?_⟩;refine⟨⟨by omega,by omega⟩,?_⟩;refine⟨?_,trivial⟩;rfl
theorem sW{q:ae}(h:RK 2000000 q)(f:Full q):jZ q:=by
 obtain⟨a,b⟩:=f;unfold RK at h;unfold jZ;omega
theorem HQ(s:List an)(hs:bE s)(ks:cv 1200000 s)(n:Int)(h0:0<=n)(h1:n<=100000):af C 135 [.pv (aj (told s)),.pv (i64 n)] (.p (aj (told (a_ s n n n n)))) []:=by
 have lm:=ai (told s) rc;have RJ:=Reg.fj hs (ks.up (by omega));have hf:=Reg.bP hs;have hk:=Reg.fR hs ks;have NR:=vR (l:=(told s).map fun q=>ff q n) (fun q hq=>by
  obtain⟨p,hp,rfl⟩:=adS.1 hq;exact Reg.l6 (hf p hp) h0) (fun q hq=>by
  obtain⟨p,hp,rfl⟩:=adS.1 hq;have:=hk p hp;unfold RK at this ⊢;simp only[ff];omega) (by rw[aej];exact RJ)
 have e:a_ s n n n n=aB ((told s).map fun q=>ff q n):=rfl;rw[e];refine fW hC Tryz.func135 rfl (by kernel_rfl) fun _=>?_;refine aJ (fun i:Nat=>i<=(told s).length) (fun i=>[(0,.p (aj (told s))),(1,.p (i64 n)),(5,.ow 5),(6,.p (i64 i))]) (fun i=>[(5,.row 87 ((((told s).take i).map fun q=>ff q n).map rc))]) (fun i=>(told s).length-i) 0 _ (au.dk hC _ 5 87 _ (by decide) rfl rfl (by decide)) (aaj _) ⟨Z,Z,Z,Z,Y⟩ ⟨Z,Y⟩ fun i hi t h=>?_;have ll:=ai (((told s).take i).map fun q=>ff q n) rc;have ZG:(((told s).take i).map fun q=>ff q n).length<=i:=by rw[aej,aat];omega
 refine iW ?_ ?_<;>intro g
 ·rw[lm]at g;obtain⟨q,hq⟩:=ak (l:=told s) (i:=i) (by omega);have Om:=aad hq;refine⟨(rc q),(idx rfl hq),?_⟩;refine⟨_,_,(vS q n (sW (by have:=hk q Om;unfold RK at this ⊢;omega) (hf q Om)) h0 (by omega)),?_⟩;refine⟨⟨fun r hr=>by simp at hr;subst hr;rfl,by simp only[ll,aaB,acs,aaM,aan];omega,by simp only[ll,aaB,acs,aaM,aan];omega⟩,?_⟩;refine⟨⟨by omega,by omega⟩,?_⟩;exact⟨(i+1),_,au.refl _ _,by omega,by omega,⟨Z,Z,Z,Z,Y⟩,⟨by rw[aZ hq,abE,abE];rfl,trivial⟩⟩
 rw[lm]at g;have e2:(told s).take i=told s:=adW (by omega);rw[e2]at *;refine⟨_,_,NR,?_⟩;refine⟨?_,trivial⟩;rfl
theorem uK(r:List ae)(x:ae)(hx:r[0]?=some x):af C 56 [.pv (aj r)] (.p (.ag [i64 x.x0,i64 x.y0])) []:=by
 refine fW hC Tryz.func56 rfl (by kernel_rfl) fun _=>?_;refine⟨(rc x),(idx (i:=0) rfl hx),?_⟩;refine⟨(rc x),(idx (i:=0) rfl hx),?_⟩;refine⟨?_,trivial⟩;rfl
theorem vT(a b:ae)(ha:jZ a)(hb:jZ b):af C 59 [.pv (.ag (rc a)),.pv (.ag (rc b))] (.p (i64 (fT a b))) []:=by
 unfold jZ at ha hb;refine fW hC Tryz.func59 rfl (by kernel_rfl) fun _=>?_;refine⟨⟨by omega,by omega⟩,?_⟩;refine⟨⟨by omega,by omega⟩,?_⟩;refine⟨⟨by omega,by omega⟩,?_⟩;refine⟨⟨by omega,by omega⟩,?_⟩;refine⟨⟨by omega,by omega⟩,?_⟩;refine⟨⟨by omega,by omega⟩,?_⟩;refine⟨⟨by omega,by omega⟩,?_⟩;refine⟨⟨by omega,by omega⟩,?_⟩;refine⟨?_,trivial⟩;have e:fT a b=max (max (max (max 0 (b.x0-(a.x1-1))) (a.x0-(b.x1-1))) (b.y0-(a.y1-1))) (a.y0-(b.y1-1)):=by unfold fT Reg.bA;omega
 rw[e];rfl
theorem FK(r:List ae)(q:ae)(hr:∀p∈r,jZ p)(hq:jZ q)(hN:r.length<=4398046511104):af C 131 [.pv (aj r),.pv (.ag (rc q))] (.p (bool (r.any fun p=>en p q))) []:=by
 have lm:=ai r rc;refine fW hC Tryz.func131 rfl (by kernel_rfl) fun _=>?_;refine aJ (fun i:Nat=>((r.drop i).any fun p=>en p q)=(r.any fun p=>en p q)) (fun i=>[(0,.p (aj r)),(3,.bx 3 0),(5,.p (i64 i))]) (fun _=>[(3,.box ((rc q).map .p))]) (fun i=>r.length-i) 0 _ (au.refl _ _) rfl ⟨Z,Z,Z,Y⟩ ⟨Z,Y⟩ fun i hi t h=>?_;refine iW ?_ ?_<;>intro h1
 ·rw[lm]at h1;obtain⟨p,hp⟩:=ak (l:=r) (i:=i) (by omega);have mp:=hr p (aad hp);rw[drop_at hp,abd]at hi;have hs:en p q=((decide (0<dN p q)&&decide (0<=dO p q))||(decide (0<=dN p q)&&decide (0<dO p q))):=rfl;rw[hs]at hi;unfold jZ at mp hq;refine⟨(rc p),(idx rfl hp),?_⟩;refine⟨(rc p),(idx rfl hp),?_⟩;refine⟨⟨by omega,by omega⟩,?_⟩;refine⟨(rc p),(idx rfl hp),?_⟩;refine⟨(rc p),(idx rfl hp),?_⟩;refine⟨⟨by omega,by omega⟩,?_⟩;have ex:dN p q=min p.x1 q.x1-max p.x0 q.x0:=rfl;have ey:dO p q=min p.y1 q.y1-max p.y0 q.y0:=rfl;rw[ex,ey]at hi;generalize min p.x1 q.x1-max p.x0 q.x0=u at hi ⊢;generalize min p.y1 q.y1-max p.y0 q.y0=v at hi ⊢;refine iW ?_ ?_<;>intro h2
  ·refine iW ?_ ?_<;>intro h3
   ·refine⟨?_,trivial⟩;rw[<-hi,acd h2,acd h3];rfl
   refine iW ?_ ?_<;>intro h4
   ·refine iW ?_ ?_<;>intro h5
    ·exfalso;omega
    refine⟨⟨by omega,by omega⟩,?_⟩;exact⟨(i+1),_,au.refl _ _,by rw[<-hi,aaz h3,aaz h5];simp,by omega,⟨Z,Z,Z,Y⟩,⟨Z,Y⟩⟩
   exfalso;omega
  refine iW ?_ ?_<;>intro h4
  ·refine iW ?_ ?_<;>intro h5
   ·refine⟨?_,trivial⟩;rw[<-hi,acd h4,acd h5];simp;rfl
   refine⟨⟨by omega,by omega⟩,?_⟩;exact⟨(i+1),_,au.refl _ _,by rw[<-hi,aaz h2,aaz h5];simp,by omega,⟨Z,Z,Z,Y⟩,⟨Z,Y⟩⟩
  refine⟨⟨by omega,by omega⟩,?_⟩;exact⟨(i+1),_,au.refl _ _,by rw[<-hi,aaz h2,aaz h4];simp,by omega,⟨Z,Z,Z,Y⟩,⟨Z,Y⟩⟩
 rw[lm]at h1;rw[ab1 (by omega)]at hi;refine⟨?_,trivial⟩;rw[<-hi];rfl
theorem Dv(r:List ae)(hr:r≠[])(hN:r.length<=4398046511104):af C 95 [.pv (aj r)] (.p (.ag (rc (dy r)))) []:=by
 have lm:=ai r rc;obtain⟨x,hx⟩:=ak (l:=r) (i:=0) (by cases r with | nil=>exact absurd rfl hr | cons _ _=>simp);have hh:dD r=x:=by rw[dD,ad4,hx];rfl
 have e:dy r=r.foldl dp x:=by rw[dy,hh]
 rw[e];refine uX ⟨[],[],[],[],[(5,[true,true,true,true,true,true,true,true,true,true,true,true,false,true,false,true,true,true,true,true,false,true,false,true,true,true,true,true,false,true,false,true,true,false,true,false,true,false,true,true])],[]⟩ hC Tryz.func95 rfl (by kernel_rfl) fun _=>?_;refine⟨(rc x),(idx (i:=0) rfl hx),?_⟩;refine aJ (fun y:Nat×ae=>(r.drop y.1).foldl dp y.2=r.foldl dp x) (fun y=>[(0,.p (aj r)),(2,.bx 2 0),(3,.bx 3 0),(4,.p (i64 y.1))]) (fun y=>[(2,.box [.p (i64 0),.p (i64 0),.p (i64 0),.p (i64 0)]),(3,.box ((rc y.2).map .p))]) (fun y=>r.length-y.1) (0,x) _ (au.refl _ _) rfl ⟨Z,Z,Z,Z,Y⟩ ⟨Z,Z,Y⟩ fun ⟨i,o⟩ hi t h=>?_;simp only at hi;refine iW ?_ ?_<;>intro g<;>try simp only[zB]at g
 ·obtain⟨q,hq⟩:=ak (l:=r) (i:=i) (by omega);rw[drop_at hq,aaq]at hi;refine⟨(rc q),(idx rfl hq),?_⟩;refine⟨(rc q),(idx rfl hq),?_⟩;refine⟨(rc q),(idx rfl hq),?_⟩;refine⟨(rc q),(idx rfl hq),?_⟩;refine⟨⟨by omega,by omega⟩,?_⟩;exact⟨(i+1,dp o q),_,au.refl _ _,hi,by simp only;omega,⟨Z,Z,Z,Z,Y⟩,⟨Z,Z,Y⟩⟩
 rw[ab1 (by omega)]at hi;have hi:o=r.foldl dp x:=hi;refine⟨?_,trivial⟩;rw[<-hi];rfl
end M
namespace Reg
def mS(l:List Int)(n:Int):Bool:=l.any fun x=>decide (x=n)
theorem oA{l:List Int}{n:Int}:mS l n=true↔n∈l:=by simp[mS]
def fZ(l:List Int)(n:Int):Nat->Nat
 | 0=>0
 | k+1=>if n<l.getD k 0 then fZ l n k else k+1
def oB(l:List Int)(n:Int):List Int:=if 0<fZ l n l.length/\l.getD (fZ l n l.length-1) 0=n then l else (l.take (fZ l n l.length)++[n])++l.drop (fZ l n l.length)
theorem uL(l:List Int)(n:Int):∀k,k<=l.length->fZ l n k<=k/\(∀i,fZ l n k<=i->i<k->n<l.getD i 0)/\(0<fZ l n k->l.getD (fZ l n k-1) 0<=n)
 | 0,_=>⟨aam _,fun i _ h=>by omega,fun h=>by simp[fZ]at h⟩
 | k+1,hk=>by
  rw[fZ];by_cases c:n<l.getD k 0
  ·rw[aap c];obtain⟨h1,h2,h3⟩:=uL l n k (by omega);refine⟨by omega,fun i h4 h5=>?_,h3⟩;by_cases e:i=k
   ·rw[e];exact c
   exact h2 i h4 (by omega)
  rw[aaa c];exact⟨aam _,fun i h4 h5=>by omega,fun _=>by simpa using c⟩
theorem jL{l:List Int}(h:bF l){i j:Nat}(hi:i<j)(hj:j<l.length):l.getD i 0<l.getD j 0:=by
 have:=aaS.1 h i j (by omega) hj hi;rw[ad4,ad4,acg (by omega),acg hj];exact this
theorem zU{l:List Int}{i:Nat}(h:i<l.length):l[i]=l.getD i 0:=by rw[ad4,acg h];rfl
theorem sX{l:List Int}(h:bF l)(n:Int):bF (oB l n)/\∀x,x∈oB l n↔x∈l\/x=n:=by
 obtain⟨h1,h2,h3⟩:=uL l n l.length (aam _);rw[oB];generalize fZ l n l.length=k at h1 h2 h3 ⊢;by_cases c:0<k/\l.getD (k-1) 0=n
 ·rw[aap c];refine⟨h,fun x=>⟨.inl,fun g=>g.elim id fun e=>?_⟩⟩;rw[e,<-c.2,<-zU (by omega)];exact adn _
 rw[aaa c];have lo:∀a∈l.take k,a<n:=fun a ha=>by
  obtain⟨i,hi,rfl⟩:=List.mem_iff_getElem.1 ha;rw[aat]at hi;rw[List.getElem_take,zU (by omega)];have h5:=h3 (by omega);have h6:¬l.getD (k-1) 0=n:=fun e=>c ⟨by omega,e⟩;by_cases e:i=k-1
  ·rw[e];omega
  have:=jL h (i:=i) (j:=k-1) (by omega) (by omega);omega
 have hi:∀b∈l.drop k,n<b:=fun b hb=>by
  obtain⟨i,hi,rfl⟩:=List.mem_iff_getElem.1 hb;rw[aaN]at hi;rw[List.getElem_drop,zU (by omega)];exact h2 _ (by omega) (by omega)
 refine⟨?_,fun x=>?_⟩
 ·rw[bF,abx,abZ];refine⟨aea (List.take_sublist _ _) h,?_,fun a ha b hb=>?_⟩
  ·rw[aed,ade];exact⟨hi,aea (List.drop_sublist _ _) h⟩
  have:=lo a ha;rcases abi.1 hb with g | g
  ·rw[ab_.1 g];exact this
  have:=hi b g;omega
 rw[abi,abi,ab_];have:x∈l↔x∈l.take k\/x∈l.drop k:=by rw[<-abi,aaU]
 rw[this];constructor
 ·rintro ((g | g) | g)
  ·exact .inl (.inl g)
  ·exact .inr g
  exact .inl (.inr g)
 rintro ((g | g) | g)
 ·exact .inl (.inl g)
 ·exact .inr g
 exact .inl (.inr g)
structure sY where
 seen:List Bool
 pieces:List Int
 bores:List Int
 used:List Bool
 todo:List Int
def pI(s:sY)(p:Int):sY:=if s.seen.getD p.toNat true=true then s else ⟨s.seen.set p.toNat true,oB s.pieces p,s.bores,s.used,s.todo++[p]⟩
def nO(T:List (List Int))(x:Int)(s:sY)(j:Nat):sY:=if s.used.getD j true=true\/mS (T.getD j []) x=false then s else (T.getD j []).foldl pI ⟨s.seen,s.pieces,oB s.bores j,s.used.set j true,s.todo⟩
def p_(T:List (List Int)):Nat->Nat->sY->sY
 | 0,_,s=>s
 | f+1,i,s=>if i<s.todo.length then p_ T f (i+1) ((List.range T.length).foldl (nO T (s.todo.getD i 0)) s) else s
def eH(T:List (List Int))(n i:Nat)(seen:List Bool):sY:=p_ T n 0 ⟨seen.set i true,[(i:Int)],[],List.replicate T.length false,[(i:Int)]⟩
structure jc(T:List (List Int))(n:Nat)(D0:List Bool)(s:sY):Prop where
 len:s.seen.length=n
 ulen:s.used.length=T.length
 nod:s.todo.Nodup
 mem:∀p∈s.todo,(0<=p/\p<n)/\D0.getD p.toNat true=false
 done:∀p:Int,0<=p->p<n->(s.seen.getD p.toNat true=true↔D0.getD p.toNat true=true\/p∈s.todo)
 pr:bF s.pieces
 pm:∀p,p∈s.pieces↔p∈s.todo
 br:bF s.bores
 bm:∀x,x∈s.bores↔∃j:Nat,x=j/\j<T.length/\s.used.getD j true=true
structure iZ(s t:sY):Prop where
 todo:∃v,t.todo=s.todo++v
 used:∀j,s.used.getD j true=true->t.used.getD j true=true
theorem iZ.refl(s:sY):iZ s s:=⟨⟨[],by simp⟩,fun _ h=>h⟩
variable {s:sY}
theorem iZ.trans{t u:sY}(h:iZ s t)(k:iZ t u):iZ s u:=by
 obtain⟨v,hv⟩:=h.todo;obtain⟨w,hw⟩:=k.todo;exact⟨⟨v++w,by rw[hw,hv,abx]⟩,fun j hj=>k.used j (h.used j hj)⟩
theorem iZ.mem{t:sY}(h:iZ s t){p:Int}(hp:p∈s.todo):p∈t.todo:=by
 obtain⟨v,hv⟩:=h.todo;rw[hv];exact abY _ hp
variable {D0:List Bool}
theorem Ji{T:List (List Int)}{n:Nat}(h:jc T n D0 s){p:Int}(h0:0<=p)(hn:p<n):
  jc T n D0 (pI s p)/\iZ s (pI s p)/\(∀x,x∈(pI s p).todo↔x∈s.todo\/(x=p/\D0.getD p.toNat true=false))/\(pI s p).used=s.used:=by
 rw[pI];by_cases c:s.seen.getD p.toNat true=true
 ·rw[aap c];refine⟨h,iZ.refl s,fun x=>⟨.inl,fun g=>g.elim id fun ⟨e,g⟩=>?_⟩,rfl⟩;rcases (h.done p h0 hn).1 c with k | k
  ·rw[g]at k;cases k
  rw[e];exact k
 rw[aaa c];have DJ:¬(D0.getD p.toNat true=true\/p∈s.todo):=fun g=>c ((h.done p h0 hn).2 g);have hd:D0.getD p.toNat true=false:=by
  cases e:D0.getD p.toNat true with
  | false=>rfl
  | true=>exact absurd (.inl e) DJ
 obtain⟨s1,s2⟩:=sX h.pr p;refine⟨⟨by show (s.seen.set _ true).length=n;rw[aaM,h.len],h.ulen,?_,fun x hx=>?_,fun x x0 xn=>?_,s1,fun x=>?_,h.br,h.bm⟩,⟨⟨[p],rfl⟩,fun _ g=>g⟩,fun x=>?_,rfl⟩
 ·show (s.todo++[p]).Nodup;rw[aee];refine⟨h.nod,by simp,fun a ha b hb=>?_⟩;rw[ab_.1 hb];exact fun e=>DJ (.inr (e▸ha))
 ·rcases abi.1 hx with g | g
  ·exact h.mem x g
  rw[ab_.1 g];exact⟨⟨h0,hn⟩,hd⟩
 ·show (s.seen.set p.toNat true).getD x.toNat true=true↔_\/x∈s.todo++[p];rw[jx (by rw[h.len];omega),abi,ab_];by_cases e:x.toNat=p.toNat
  ·rw[aap e];exact⟨fun _=>.inr (.inr (by omega)),fun _=>rfl⟩
  rw[aaa e,h.done x x0 xn];constructor
  ·rintro (g | g)
   ·exact .inl g
   exact .inr (.inl g)
  rintro (g | g | g)
  ·exact .inl g
  ·exact .inr g
  exact absurd (by rw[g]) e
 ·show x∈oB s.pieces p↔x∈s.todo++[p];rw[s2,h.pm,abi,ab_]
 show x∈s.todo++[p]↔_;rw[abi,ab_];exact⟨fun g=>g.elim .inl fun e=>.inr ⟨e,hd⟩,fun g=>g.elim .inl fun e=>.inr e.1⟩
theorem zV{T:List (List Int)}{n:Nat}:∀(l:List Int) (s:sY),jc T n D0 s->(∀p∈l,0<=p/\p<n)->
  jc T n D0 (l.foldl pI s)/\iZ s (l.foldl pI s)/\(∀x,x∈(l.foldl pI s).todo↔x∈s.todo\/(x∈l/\D0.getD x.toNat true=false))/\(l.foldl pI s).used=s.used
 | [],s,h,_=>⟨h,iZ.refl s,fun x=>by simp,rfl⟩
 | p::l,s,h,hl=>by
  obtain⟨p0,pn⟩:=hl p adU;obtain⟨a1,a2,a3,a4⟩:=Ji h p0 pn;obtain⟨b1,b2,b3,b4⟩:=zV l _ a1 fun x hx=>hl x (aaw _ hx);refine⟨b1,a2.trans b2,fun x=>?_,b4.trans a4⟩;show x∈(l.foldl pI (pI s p)).todo↔_;rw[b3,a3,adq];constructor
  ·rintro ((g | ⟨g,g2⟩) | ⟨g,g2⟩)
   ·exact .inl g
   ·exact .inr ⟨.inl g,by rw[g];exact g2⟩
   exact .inr ⟨.inr g,g2⟩
  rintro (g | ⟨g | g,g2⟩)
  ·exact .inl (.inl g)
  ·exact .inl (.inr ⟨g,by rw[<-g];exact g2⟩)
  exact .inr ⟨g,g2⟩
structure HR(c:Nat->Nat)(T:List (List Int))(n:Nat):Prop where
 tops:Dg c n
 Lf:∀j,∀p∈T.getD j [],0<=p/\p<n
 edge:∀j a b,a∈T.getD j []->b∈T.getD j []->c a.toNat=c b.toNat
 cl:∀S:Nat->Prop,(∀j a b,a∈T.getD j []->b∈T.getD j []->S a.toNat->S b.toNat)->∀k,k<n->S (c k)->S k
structure FL(T:List (List Int))(c:Nat->Nat)(r:Nat)(D0:List Bool)(s:sY):Prop where
 u1:∀j,j<T.length->s.used.getD j true=true->∀p∈T.getD j [],D0.getD p.toNat true=false->p∈s.todo
 u2:∀j,j<T.length->s.used.getD j true=true->∃a∈s.todo,a∈T.getD j []
 u4:∀p∈s.todo,c p.toNat=r
theorem P0{T:List (List Int)}{n:Nat}{c:Nat->Nat}(hc:HR c T n){r:Nat}(h:jc T n D0 s)(g:FL T c r D0 s){x:Int}(hx:x∈s.todo){j:Nat}(hj:j<T.length):
  jc T n D0 (nO T x s j)/\FL T c r D0 (nO T x s j)/\iZ s (nO T x s j)/\(x∈T.getD j []->(nO T x s j).used.getD j true=true):=by
 rw[nO];by_cases k:s.used.getD j true=true\/mS (T.getD j []) x=false
 ·rw[aap k];refine⟨h,g,iZ.refl s,fun hm=>?_⟩;rcases k with k | k
  ·exact k
  rw[oA.2 hm]at k;cases k
 rw[aaa k];have hm:x∈T.getD j []:=by
  refine oA.1 ?_;cases e:mS (T.getD j []) x with
  | true=>rfl
  | false=>exact absurd (.inr e) k
 obtain⟨b1,b2⟩:=sX h.br (j:Int);have gu:∀i,(s.used.set j true).getD i true=true↔i=j\/s.used.getD i true=true:=fun i=>by
  rw[jx (by rw[h.ulen];exact hj)];by_cases e:i=j<;>simp[e]
 have h1:jc T n D0 ⟨s.seen,s.pieces,oB s.bores j,s.used.set j true,s.todo⟩:=
  ⟨h.len,by show (s.used.set j true).length=_;rw[aaM,h.ulen],h.nod,h.mem,h.done,h.pr,h.pm,b1,fun y=>by
   show y∈oB s.bores j↔∃i:Nat,y=i/\i<T.length/\(s.used.set j true).getD i true=true;rw[b2,h.bm];constructor
   ·rintro (⟨i,e,i1,i2⟩ | e)
    ·exact⟨i,e,i1,(gu i).2 (.inr i2)⟩
    exact⟨j,e,hj,(gu j).2 (.inl rfl)⟩
   rintro⟨i,e,i1,i2⟩;rcases (gu i).1 i2 with e2 | e2
   ·exact .inr (by rw[e,e2])
   exact .inl ⟨i,e,i1,e2⟩⟩
 obtain⟨c1,c2,c3,c4⟩:=zV (T.getD j []) _ h1 (hc.Lf j);have st:iZ s ⟨s.seen,s.pieces,oB s.bores j,s.used.set j true,s.todo⟩:=⟨⟨[],by simp⟩,fun i hi=>(gu i).2 (.inr hi)⟩;have TB:=st.trans c2;refine⟨c1,⟨fun i hi hu p hp hd=>?_,fun i hi hu=>?_,fun p hp=>?_⟩,TB,fun _=>c2.used j ((gu j).2 (.inl rfl))⟩
 ·rw[c4]at hu;rcases (gu i).1 hu with e | e
  ·rw[e]at hp;exact (c3 p).2 (.inr ⟨hp,hd⟩)
  exact TB.mem (g.u1 i hi e p hp hd)
 ·rw[c4]at hu;rcases (gu i).1 hu with e | e
  ·rw[e];exact⟨x,TB.mem hx,hm⟩
  obtain⟨a,a1,a2⟩:=g.u2 i hi e;exact⟨a,TB.mem a1,a2⟩
 rcases (c3 p).1 hp with e | ⟨e,_⟩
 ·exact g.u4 p e
 rw[hc.edge j p x e hm];exact g.u4 x hx
theorem FM{T:List (List Int)}{n:Nat}{c:Nat->Nat}(hc:HR c T n){r:Nat}{x:Int}:∀(l:List Nat) (s:sY),(∀j∈l,j<T.length)->jc T n D0 s->FL T c r D0 s->x∈s.todo ->
  jc T n D0 (l.foldl (nO T x) s)/\FL T c r D0 (l.foldl (nO T x) s)/\iZ s (l.foldl (nO T x) s)/\∀j∈l,x∈T.getD j []->(l.foldl (nO T x) s).used.getD j true=true
 | [],s,_,h,g,_=>⟨h,g,iZ.refl s,fun j hj=>by cases hj⟩
 | j::l,s,hl,h,g,hx=>by
  obtain⟨a1,a2,a3,a4⟩:=P0 hc h g hx (hl j adU);obtain⟨b1,b2,b3,b4⟩:=FM hc l _ (fun i hi=>hl i (aaw _ hi)) a1 a2 (a3.mem hx);refine⟨b1,b2,a3.trans b3,fun i hi hm=>?_⟩;rcases adq.1 hi with e | e
  ·rw[e]at hm ⊢;exact b3.used j (a4 hm)
  exact b4 i e hm
theorem FO{T:List (List Int)}{n:Nat}(h:jc T n D0 s):(s.todo.map Int.toNat).Nodup:=by
 have hp:=aaS.1 h.nod;refine aaS.2 fun i j hi hj DX=>?_;rw[aej]at hi hj;rw[List.getElem_map,List.getElem_map];have a:=(h.mem _ (adn hi)).1;have b:=(h.mem _ (adn hj)).1;have:=hp i j hi hj DX;omega
theorem jc.le{T:List (List Int)}{n:Nat}(h:jc T n D0 s):s.todo.length<=n:=by
 have:=abV (l₁:=s.todo.map Int.toNat) (l₂:=List.range n) (FO h) fun k hk=>by
  obtain⟨p,hp,rfl⟩:=adS.1 hk;have:=(h.mem p hp).1;exact abD.2 (by omega)
 simpa using this
theorem Jj{T:List (List Int)}{n:Nat}{c:Nat->Nat}(hc:HR c T n){r:Nat}(hr:r<n)(hd:∀k,k<n->c k=r->D0.getD k true=false):
  ∀(f i:Nat) (s:sY),jc T n D0 s->FL T c r D0 s->n<=f+i->(r:Int)∈s.todo->(∀m,m<i->m<s.todo.length->∀j,j<T.length->s.todo.getD m 0∈T.getD j []->s.used.getD j true=true)->
   jc T n D0 (p_ T f i s)/\(∀p,p∈(p_ T f i s).todo↔(0<=p/\p<n)/\c p.toNat=r)/\∀j,j<T.length->((p_ T f i s).used.getD j true=true↔∃a∈T.getD j [],c a.toNat=r)
 | f,i,s,h,g,hf,h0,h2=>by
  have fin:s.todo.length<=i->jc T n D0 s/\(∀p,p∈s.todo↔(0<=p/\p<n)/\c p.toNat=r)/\∀j,j<T.length->(s.used.getD j true=true↔∃a∈T.getD j [],c a.toNat=r):=fun hi=>by
   have full:∀a∈s.todo,∀j,j<T.length->a∈T.getD j []->s.used.getD j true=true:=fun a ha j hj hm=>by
    obtain⟨m,DW⟩:=ab8.1 ha;obtain⟨m1,m2⟩:=aao.1 DW;have e:s.todo.getD m 0=a:=by rw[ad4,DW];rfl
    exact h2 m (by omega) m1 j hj (by rw[e];exact hm)
   have all:∀p:Int,0<=p->p<n->c p.toNat=r->p∈s.todo:=fun p p0 pn e=>by
    have:=hc.cl (fun k=>(k:Int)∈s.todo) (fun j a b ha hb hS=>?_) p.toNat (by omega) (by show ((c p.toNat:Nat):Int)∈s.todo;rw[e];exact h0)
    ·rw[abO p0]at this;exact this
    have a0:=(hc.Lf j a ha).1;have b0:=hc.Lf j b hb;rw[abO a0]at hS;rw[abO b0.1];have hj:j<T.length:=by
     rcases aen j T.length with q | q
     ·exact q
     rw[ad4,abI q]at ha;cases ha
    refine g.u1 j hj (full a hS j hj ha) b hb (hd _ (by omega) ?_);rw[hc.edge j b a hb ha];exact g.u4 a hS
   refine⟨h,fun p=>⟨fun hp=>⟨(h.mem p hp).1,g.u4 p hp⟩,fun ⟨⟨p0,pn⟩,e⟩=>all p p0 pn e⟩,fun j hj=>⟨fun hu=>?_,fun ⟨a,ha,e⟩=>?_⟩⟩
   ·obtain⟨a,a1,a2⟩:=g.u2 j hj hu;exact⟨a,a2,g.u4 a a1⟩
   have:=hc.Lf j a ha;exact full a (all a this.1 this.2 e) j hj ha
  match f,hf with
  | 0,hf=>exact fin (by have:=h.le;omega)
  | f+1,hf=>
   rw[p_];by_cases k:i<s.todo.length
   ·rw[aap k];have ex:s.todo.getD i 0=s.todo[i]:=by rw[ad4,acg k];rfl
    have hm:s.todo.getD i 0∈s.todo:=by rw[ex];exact adn k
    obtain⟨b1,b2,b3,b4⟩:=FM hc (List.range T.length) s (fun j hj=>abD.1 hj) h g hm;refine Jj hc hr hd f (i+1) _ b1 b2 (by omega) (b3.mem h0) fun m hmi hml j hj DW=>?_;obtain⟨v,hv⟩:=b3.todo;have VG:m<s.todo.length:=by omega
    have e0:(s.todo++v).getD m 0=s.todo.getD m 0:=by rw[ad4,aaE VG,<-ad4]
    rw[hv,e0]at DW;by_cases e:m=i
    ·rw[e]at DW;exact b4 j (abD.2 hj) DW
    exact b3.used j (h2 m (by omega) VG j hj DW)
   rw[aaa k];exact fin (by omega)
theorem BY{m:Nat}:∀(l:List Int) (u:List Int) (E:List (Nat×Nat)),HL E u->m<u.length->(∀p∈l,0<=p/\p.toNat<u.length)->∃D,HL (E++D) (r_ m l u)/\∀e,e∈D↔∃p∈l,e=(p.toNat,m)
 | [],u,E,h,_,_=>⟨[],by rw[acw];exact h,fun e=>by simp⟩
 | p::r,u,E,h,hm,hl=>by
  have h1:=FA h (i:=p.toNat) (k:=m) (hl p adU).2 hm;have h2:=(mC h.uf (i:=p.toNat) (k:=m) (hl p adU).2 hm).2;obtain⟨D,d1,d2⟩:=BY r _ _ h1 (by rw[h2];exact hm) fun q hq=>by rw[h2];exact hl q (aaw _ hq)
  refine⟨(p.toNat,m)::D,by rw[abx,aed]at d1;exact d1,fun e=>?_⟩;rw[adq,d2];simp only[adq,exists_eq_or_imp]
theorem BZ{n nb:Nat}:∀(l:List (List Int)) (k:Nat) (u:List Int) (E:List (Nat×Nat)),HL E u->u.length=n+nb->k+l.length<=nb->(∀x∈l,∀p∈x,0<=p/\p<n)->
  ∃D,HL (E++D) (uz n k l u)/\∀e,e∈D↔∃j:Nat,∃p∈l.getD j [],e=(p.toNat,n+(k+j))
 | [],k,u,E,h,_,_,_=>⟨[],by rw[acw];exact h,fun e=>by simp⟩
 | x::r,k,u,E,h,hl,hk,hx=>by
  simp only[aaB]at hk;obtain⟨D,d1,d2⟩:=BY (m:=n+k) x u E h (by omega) fun p hp=>by have:=hx x adU p hp;omega
  have h2:=(zC (m:=n+k) x u h.uf (by omega) fun p hp=>by have:=hx x adU p hp;omega).2;obtain⟨D',d3,d4⟩:=BZ r (k+1) _ _ d1 (h2.trans hl) (by omega) fun y hy=>hx y (aaw _ hy);refine⟨D++D',by rw[<-abx];exact d3,fun e=>?_⟩;rw[abi,d2,d4];constructor
  ·rintro (⟨p,hp,rfl⟩ | ⟨j,p,hp,rfl⟩)
   ·exact⟨0,p,hp,rfl⟩
   exact⟨j+1,p,by simpa using hp,by rw[show n+(k+1+j)=n+(k+(j+1)) by omega]⟩
  rintro⟨j,p,hp,rfl⟩;cases j with
  | zero=>exact .inl ⟨p,by simpa using hp,rfl⟩
  | succ j=>exact .inr ⟨j,p,by simpa using hp,by rw[show n+(k+1+j)=n+(k+(j+1)) by omega]⟩
structure VH(c:Nat->Nat)(T:List (List Int))(n:Nat):Prop where
 tops:Dg c (n+T.length)
 pc:HR c T n
 e1:∀j,∀a∈T.getD j [],c a.toNat=c (n+j)
 e2:∀j,j<T.length->T.getD j []=[]->∀m,m<n+T.length->c m=c (n+j)->m=n+j
theorem B0{n:Nat}{T:List (List Int)}(hT:∀x∈T,∀p∈x,0<=p/\p<n):VH (cQ (jm n T.length T)) T n:=by
 obtain⟨D,d1,d2⟩:=BZ (n:=n) (nb:=T.length) T 0 (iota (n+T.length)) [] (Fz _) (aeM _) (by omega) hT;have d1:HL D (jm n T.length T):=d1;have len:(jm n T.length T).length=n+T.length:=(qM T 0 _ (ny _) (aeM _) (by omega) hT).2;have d2:∀e,e∈D↔∃j:Nat,∃p∈T.getD j [],e=(p.toNat,n+j):=fun e=>by rw[d2 e];simp only[abC]
 generalize jm n T.length T=U at d1 len;have tp:=rz d1.uf;rw[len]at tp;have lt:∀{j:Nat} {a:Int},a∈T.getD j []->j<T.length:=fun {j a} ha=>by
  rcases aen j T.length with q | q
  ·exact q
  rw[ad4,abI q]at ha;cases ha
 have Lf:∀j,∀p∈T.getD j [],0<=p/\p<n:=fun j p hp=>by
  have hj:=lt hp;rw[ad4,acg hj]at hp;exact hT _ (adn hj) p hp
 have e1:∀j,∀a∈T.getD j [],cQ U a.toNat=cQ U (n+j):=fun j a ha=>by
  have:=Lf j a ha;have hj:=lt ha;exact (ae8 d1.uf (by omega) (by omega)).1 (d1.edge _ ((d2 _).2 ⟨j,a,ha,rfl⟩)).2.2
 refine⟨tp,⟨⟨fun m hm=>tp.le m (by omega),fun m hm=>tp.top m (by omega)⟩,Lf,fun j a b ha hb=>(e1 j a ha).trans (e1 j b hb).symm,fun S hS k hk hs=>?_⟩,e1,fun j hj he m hm hs=>?_⟩
 ·have hle:=tp.le k (by omega);have ss:kU U (cQ U k) k:=(ae8 d1.uf (by omega) (by omega)).2 (tp.top k (by omega));have:=d1.cl (fun x=>if x<n then S x else ∃a∈T.getD (x-n) [],S a.toNat) (fun e he=>?_) _ _ ss
  ·simp only[aap hk,aap (show cQ U k<n by omega)]at this;exact this.1 hs
  obtain⟨j,p,hp,rfl⟩:=(d2 e).1 he;have:=Lf j p hp;simp only[aap (show p.toNat<n by omega),aaa (show ¬n+j<n by omega),abG];exact⟨fun g=>⟨p,hp,g⟩,fun ⟨a,ha,g⟩=>hS j a p ha hp g⟩
 have ss:kU U m (n+j):=(ae8 d1.uf (by omega) (by omega)).2 hs;refine (d1.cl (fun x=>x=n+j) (fun e u_=>?_) _ _ ss).2 rfl;obtain⟨i,p,hp,rfl⟩:=(d2 e).1 u_;have:=Lf i p hp;show p.toNat=n+j↔n+i=n+j;constructor
 ·intro g;omega
 intro g;have:i=j:=by omega
 rw[this,he]at hp;cases hp
def Dw(c:Nat->Nat)(n r:Nat):List Int:=(dh c n r).map fun (k:Nat)=>(k:Int)
def zW(c:Nat->Nat)(T:List (List Int))(r:Nat):List Int:=((List.range T.length).filter fun j=>(T.getD j []).any fun a=>decide (c a.toNat=r)).map fun (k:Nat)=>(k:Int)
theorem zX(f:Nat->Bool)(n:Nat):bF (((List.range n).filter f).map fun (k:Nat)=>(k:Int)):=by
 rw[bF,abp];refine adN ?_ (aea ac1 List.pairwise_lt_range);intro a b h;omega
theorem KZ(c:Nat->Nat)(n r:Nat):bF (Dw c n r):=zX _ n
def j_(T:List (List Int))(n:Nat)(s:List Bool×List bh)(i:Nat):List Bool×List bh:=
 if s.1.getD i true=true then s else ((eH T n i s.1).seen,s.2++[⟨(eH T n i s.1).pieces,(eH T n i s.1).bores,[]⟩])
theorem K1{T:List (List Int)}{n:Nat}{c:Nat->Nat}(hc:HR c T n)(hl:D0.length=n){r:Nat}(hr:r<n)(hk:c r=r)(hd:∀k,k<n->c k=r->D0.getD k true=false):
  (eH T n r D0).seen.length=n/\(∀k,k<n->((eH T n r D0).seen.getD k true=true↔D0.getD k true=true\/c k=r))/\(eH T n r D0).pieces=Dw c n r/\(eH T n r D0).bores=zW c T r:=by
 have Qy:=hd r hr hk;have vU:∀j,j<T.length->(List.replicate T.length false).getD j true=true->False:=fun j hj h=>by
  rw[ad4,ac2,aap hj]at h;cases h
 obtain⟨h,h1,h2⟩:=Jj hc (D0:=D0) hr hd n 0 ⟨D0.set r true,[(r:Int)],[],List.replicate T.length false,[(r:Int)]⟩
  ⟨by show (D0.set r true).length=n;rw[aaM,hl],aan,by simp,fun p hp=>by
   rw[ab_.1 hp];exact⟨⟨by omega,by omega⟩,by rw[ad2];exact Qy⟩,fun p p0 pn=>by
   show (D0.set r true).getD p.toNat true=true↔_\/p∈[(r:Int)];rw[jx (by rw[hl];exact hr),ab_];by_cases e:p.toNat=r
   ·rw[aap e];exact⟨fun _=>.inr (by omega),fun _=>rfl⟩
   rw[aaa e];exact⟨.inl,fun g=>g.elim id fun g=>absurd (by rw[g];simp) e⟩,abw _ _,fun p=>aaT,List.Pairwise.nil,fun x=>⟨fun g=>(adI g).elim,fun ⟨j,_,j1,j2⟩=>(vU j j1 j2).elim⟩⟩
  ⟨fun j hj hu=>(vU j hj hu).elim,fun j hj hu=>(vU j hj hu).elim,fun p hp=>by rw[ab_.1 hp,ad2];exact hk⟩
  (by omega) (ab_.2 rfl) (fun m hm=>by omega)
 refine⟨h.len,fun k DK=>?_,nI _ _ h.pr (KZ c n r) fun p=>?_,nI _ _ h.br (zX _ _) fun x=>?_⟩
 ·have:=h.done (k:Int) (by omega) (by omega);rw[ad2,h1,ad2]at this;rw[show (eH T n r D0)=p_ T n 0 ⟨D0.set r true,[(r:Int)],[],List.replicate T.length false,[(r:Int)]⟩ from rfl,this];exact⟨fun g=>g.imp id fun g=>g.2,fun g=>g.imp id fun g=>⟨⟨by omega,by omega⟩,g⟩⟩
 ·show p∈(p_ T n 0 _).pieces↔_;rw[h.pm,h1,Dw,adS];constructor
  ·rintro⟨⟨a,b⟩,e⟩;exact⟨p.toNat,dx.2 ⟨by omega,e⟩,by omega⟩
  rintro⟨k,l_,rfl⟩;obtain⟨a,b⟩:=dx.1 l_;exact⟨⟨by omega,by omega⟩,by rw[ad2];exact b⟩
 show x∈(p_ T n 0 _).bores↔_;rw[h.bm,zW,adS];constructor
 ·rintro⟨j,e,j1,j2⟩;refine⟨j,adu.2 ⟨abD.2 j1,aci.2 ?_⟩,e.symm⟩;obtain⟨a,ha,e2⟩:=(h2 j j1).1 j2;exact⟨a,ha,acd e2⟩
 rintro⟨j,hj,rfl⟩;obtain⟨j1,j2⟩:=adu.1 hj;have j1:=abD.1 j1;obtain⟨a,ha,e2⟩:=aci.1 j2;exact⟨j,rfl,j1,(h2 j j1).2 ⟨a,ha,adw e2⟩⟩
theorem sZ{T:List (List Int)}{n:Nat}{c:Nat->Nat}(hc:HR c T n):∀i,i<=n ->
  ((List.range i).foldl (j_ T n) (List.replicate n false,[])).1.length=n /\
  (∀k,k<n->(((List.range i).foldl (j_ T n) (List.replicate n false,[])).1.getD k true=true↔c k<i))/\
  ((List.range i).foldl (j_ T n) (List.replicate n false,[])).2=(cd c i).map fun r=>⟨Dw c n r,zW c T r,[]⟩
 | 0,_=>by
  refine⟨by simp,fun k hk=>?_,rfl⟩;simp[ad4,hk]
 | i+1,hi=>by
  obtain⟨l1,d1,m1⟩:=sZ hc i (by omega);rw[adK,aaD];generalize (List.range i).foldl (j_ T n) (List.replicate n false,[])=s at l1 d1 m1 ⊢;simp only[aaq,List.foldl_nil];have tp:=hc.tops.le i (by omega);rw[fE];by_cases e:c i=i
  ·have hd:s.1.getD i true=false:=by
    cases g:s.1.getD i true with
    | false=>rfl
    | true=>have:=(d1 i (by omega)).1 g;omega
   obtain⟨a1,a2,a3,a4⟩:=K1 hc l1 (r:=i) (by omega) e fun k hk g=>by
    cases q:s.1.getD k true with
    | false=>rfl
    | true=>have:=(d1 k hk).1 q;omega
   rw[j_,aaa (by rw[hd];simp),aap e];refine⟨a1,fun k hk=>?_,?_⟩
   ·rw[a2 k hk,d1 k hk];omega
   show s.2++_=_;rw[a3,a4,m1,abE];rfl
  have hd:s.1.getD i true=true:=(d1 i (by omega)).2 (by omega);rw[aaa e,j_,aap hd];refine⟨l1,fun k hk=>?_,m1⟩;rw[d1 k hk];constructor
  ·intro g;omega
  intro g;by_cases e2:c k=i
  ·have:=hc.tops.top k hk;rw[e2]at this;exact absurd this e
  omega
theorem zY(bs:List aS)(n g:Nat):∀(l:List Nat) (s:(List Int×List Int)×List Int×List Int),
  (l.foldl (jF bs n g) s).2.1=s.2.1++(l.filter fun i=>decide (i<n)).map (fun (i:Nat)=>(i:Int))/\
  (l.foldl (jF bs n g) s).2.2=s.2.2++(l.filter fun i=>!decide (i<n)&&bD bs (i-n)).map fun (i:Nat)=>(i:Int)-n
 | [],s=>by simp
 | i::l,s=>by
  obtain⟨h1,h2⟩:=zY bs n g l (jF bs n g s i);rw[aaq,h1,h2,jF];by_cases c:i<n
  ·rw[aap c,aby,aby];simp[c]
  rw[aaa c,aby,aby];have e:(bs.getD (i-n) ⟨0,0,0,0,0,false⟩).plated=bD bs (i-n):=rfl;rw[e];by_cases p:bD bs (i-n)=true
  ·rw[aap p];simp[c,p]
  rw[aaa p];simp[c,p]
def qT(bs:List aS)(n:Nat)(l:List Nat):bh:=⟨(l.filter fun i=>decide (i<n)).map (fun (i:Nat)=>(i:Int)),(l.filter fun i=>!decide (i<n)&&bD bs (i-n)).map (fun (i:Nat)=>(i:Int)-n),[]⟩
def B1(g:bh):Bool:=decide (0<g.pieces.length+g.bores.length)
theorem B2(bs:List aS)(n:Nat):∀(L:List (List Nat)) (s:(List Int×List Int)×List bh),(L.foldl (AT bs n) s).2=s.2++(L.map (qT bs n)).filter B1
 | [],s=>by simp
 | l::L,s=>by
  obtain⟨h1,h2⟩:=zY bs n s.2.length l (s.1,[],[]);rw[aaq,B2 bs n L,aa8,aby];have e:(AT bs n s l).2=s.2++if B1 (qT bs n l)=true then [qT bs n l] else []:=by
   show (if _ then _ else _)=_;rw[h1,h2,aaI,aaI];show (if 0<(qT bs n l).pieces.length+(qT bs n l).bores.length then s.2++[qT bs n l] else s.2)=_;by_cases c:B1 (qT bs n l)=true
   ·rw[aap c,aap (adw c)]
   rw[aaa c,aaa (fun g=>c (acd g)),acw]
  rw[e,abx];congr 1;by_cases c:B1 (qT bs n l)=true
  ·rw[aap c,aap c];rfl
  rw[aaa c,aaa c];rfl
def w8(bs:List aS)(T:List (List Int))(gs:List bh)(j:Nat):List bh:=if bD bs j=true/\(T.getD j []).length=0 then gs++[⟨[],[(j:Int)],[]⟩] else gs
def dR(bs:List aS)(T:List (List Int))(n:Nat):List bh:=(List.range T.length).foldl (w8 bs T) ((List.range n).foldl (j_ T n) (List.replicate n false,[])).2
theorem vV(bs:List aS)(T:List (List Int)):∀(l:List Nat) (gs:List bh),l.foldl (w8 bs T) gs=gs++(l.filter fun j=>bD bs j&&decide ((T.getD j []).length=0)).map fun (j:Nat)=>⟨[],[(j:Int)],[]⟩
 | [],gs=>by simp
 | j::l,gs=>by
  rw[aaq,vV bs T l,aby,w8];by_cases p:bD bs j=true/\(T.getD j []).length=0
  ·rw[aap p,p.1,acd p.2];simp
  rw[aaa p];have:(bD bs j&&decide ((T.getD j []).length=0))=false:=by
   rw[aaV];intro h;rw[aaZ]at h;exact p ⟨h.1,adw h.2⟩
  rw[this];rfl
theorem uM{bs:List aS}{T:List (List Int)}{n:Nat}(hlen:T.length=bs.length)(hT:∀x∈T,∀p∈x,0<=p/\p<n)(hp:∀j,j<T.length->bD bs j=false->T.getD j []=[]):
  dR bs T n=(jn bs n (aP (cQ (jm n bs.length T)) (n+bs.length))).2:=by
 rw[<-hlen];have bc:=B0 hT;generalize cQ (jm n T.length T)=c at bc;obtain⟨_,_,g3⟩:=sZ bc.pc n (aam _);have lt:∀{j:Nat} {a:Int},a∈T.getD j []->j<T.length:=fun {j a} ha=>by
  rcases aen j T.length with q | q
  ·exact q
  rw[ad4,abI q]at ha;cases ha
 rw[dR,g3,vV,jn,B2,aaI,aP,ad6];have ek:cd c (n+T.length)=cd c n++((List.range T.length).filter fun j=>decide (c (n+j)=n+j)).map fun j=>n+j:=by
  rw[cd,List.range_add,acA,cd,aeg];rfl
 have em:∀r,dh c (n+T.length) r=dh c n r++((List.range T.length).filter fun j=>decide (c (n+j)=r)).map fun j=>n+j:=fun r=>by
  rw[dh,List.range_add,acA,dh,aeg];rfl
 rw[ek,abE,acA];congr 1
 ·rw[ab2.2]
  ·refine aaG fun r hr=>?_;obtain⟨r1,r2⟩:=mem_keys.1 hr;show _=qT bs n (dh c (n+T.length) r);rw[qT,em,acA,acA];have f1:(dh c n r).filter (fun i=>decide (i<n))=dh c n r:=ab2.2 fun k hk=>acd (dx.1 hk).1;have f2:(((List.range T.length).filter fun j=>decide (c (n+j)=r)).map fun j=>n+j).filter (fun i=>decide (i<n))=[]:=acf.2 fun k hk=>by
    obtain⟨j,_,rfl⟩:=adS.1 hk;simp
   have f3:(dh c n r).filter (fun i=>!decide (i<n)&&bD bs (i-n))=[]:=acf.2 fun k hk=>by
    have:=(dx.1 hk).1;simp[this]
   rw[f1,f2,f3,acw,aaI,aeg,ad6,List.filter_filter];have f4:((List.range T.length).filter fun j=>((fun i=>!decide (i<n)&&bD bs (i-n))∘fun j=>n+j) j&&decide (c (n+j)=r))=(List.range T.length).filter fun j=>(T.getD j []).any fun a=>decide (c a.toNat=r):=by
    refine adj fun j hj=>?_;have hj:=abD.1 hj;rw[abb,aaZ,aci];simp only[Function.comp,abG,show ¬n+j<n by omega,decide_false,Bool.not_false,adr,aaH];constructor
    ·rintro⟨h1,h2⟩;cases e:T.getD j [] with
     | nil=>
      have Ro:=bc.e2 j hj e r (by omega) (by rw[r2];exact h2.symm);omega
     | cons a t=>exact⟨a,adU,by rw[bc.e1 j a (by rw[e];exact adU)];exact h2⟩
    rintro⟨a,ha,e⟩;refine⟨?_,by rw[<-bc.e1 j a ha];exact e⟩;cases q:bD bs j with
    | true=>rfl
    | false=>rw[hp j hj q]at ha;cases ha
   rw[f4];show (⟨Dw c n r,zW c T r,[]⟩:bh)=⟨Dw c n r,_,[]⟩;congr 1;refine aaG fun j _=>?_;show (j:Int)=((n+j:Nat):Int)-n;omega
  intro g hg;obtain⟨r,hr,rfl⟩:=adS.1 hg;obtain⟨r1,r2⟩:=mem_keys.1 hr;refine acd ?_;have:(r:Int)∈(qT bs n (dh c (n+T.length) r)).pieces:=adS.2 ⟨r,adu.2 ⟨dx.2 ⟨by omega,r2⟩,acd r1⟩,rfl⟩;have:=abM this;show 0<(qT bs n (dh c (n+T.length) r)).pieces.length+_;omega
 rw[ad6];have alone:∀j,j<T.length->c (n+j)=n+j->T.getD j []=[]:=fun j hj h=>by
  cases e:T.getD j [] with
  | nil=>rfl
  | cons a t=>
   have h1:=bc.e1 j a (by rw[e];exact adU);have h2:=bc.pc.Lf j a (by rw[e];exact adU);have h3:=bc.tops.le a.toNat (by omega);omega
 have self:∀j,j<T.length->T.getD j []=[]->c (n+j)=n+j:=fun j hj e=>by
  have h1:=bc.tops.le (n+j) (by omega);exact bc.e2 j hj e (c (n+j)) (by omega) (bc.tops.top _ (by omega))
 have VI:∀j,j<T.length->c (n+j)=n+j->qT bs n (dh c (n+T.length) (n+j))=⟨[],if bD bs j=true then [(j:Int)] else [],[]⟩:=fun j hj h=>by
  have e:=alone j hj h;have only:dh c (n+T.length) (n+j)=[n+j]:=by
   rw[em];have a1:dh c n (n+j)=[]:=acf.2 fun m hm=>by
    have hm:=abD.1 hm;have:=bc.tops.le m (by omega);simp only[aaH];omega
   have a2:(List.range T.length).filter (fun i=>decide (c (n+i)=n+j))=[j]:=by
    have:(List.range T.length).filter (fun i=>decide (c (n+i)=n+j))=(List.range T.length).filter (fun i=>decide (i=j)):=adj fun i hi=>by
     have hi:=abD.1 hi;rw[abb,aaH,aaH];constructor
     ·intro q;have:=bc.e2 j hj e (n+i) (by omega) (by rw[h];exact q);omega
     intro q;rw[q];exact h
    rw[this];clear this;have:∀N,j<N->(List.range N).filter (fun i=>decide (i=j))=[j]:=by
     intro N
     induction N with
     | zero=>intro h;omega
     | succ N ih=>
      intro hN;rw[adK,acA];by_cases q:j=N
      ·subst q;rw[acf.2 fun i hi=>by have:=abD.1 hi;simp;omega];simp
      rw[ih (by omega)];simp[Ne.symm q]
    exact this _ hj
   rw[a1,a2];rfl
  rw[only,qT];by_cases p:bD bs j=true
  ·simp[p];omega
  simp[p]
 rw[aeg,List.filter_filter];have ef:(List.range T.length).filter (fun j=>bD bs j&&decide ((T.getD j []).length=0))=(List.range T.length).filter (fun j=>(B1∘((qT bs n∘dh c (n+T.length))∘fun j=>n+j)) j&&decide (c (n+j)=n+j)):=by
  refine adj fun j hj=>?_;have hj:=abD.1 hj;by_cases h:c (n+j)=n+j
  ·have e:=alone j hj h;rw[acd h,ac7,e];show (bD bs j&&true)=B1 (qT bs n (dh c (n+T.length) (n+j)));rw[VI j hj h];cases bD bs j<;>rfl
  rw[aaz h,aav,aaC];refine .inr (aaz fun q=>h (self j hj (aef.1 q)))
 rw[<-ef];refine aaG fun j hj=>?_;obtain⟨h1,h2⟩:=adu.1 hj;have h1:=abD.1 h1;rw[aaZ]at h2;show _=qT bs n (dh c (n+T.length) (n+j));rw[VI j h1 (self j h1 (aef.1 (adw h2.2))),aap h2.1]
def Jk(p q:ae):Bool:=(decide (0<dN p q)&&decide (dO p q=0))||(decide (dN p q=0)&&decide (0<dO p q))
theorem FP{p q:ae}(hp:Full p)(hq:Full q):Jk p q=beside p q:=by
 obtain⟨p1,p2⟩:=hp;obtain⟨q1,q2⟩:=hq;have ex:dN p q=min p.x1 q.x1-max p.x0 q.x0:=rfl;have ey:dO p q=min p.y1 q.y1-max p.y0 q.y0:=rfl;have x0:0<dN p q↔p.x0<q.x1/\q.x0<p.x1:=by rw[ex];omega
 have y0:0<dO p q↔p.y0<q.y1/\q.y0<p.y1:=by rw[ey];omega
 have x1:dN p q=0↔p.x1=q.x0\/q.x1=p.x0:=by rw[ex];omega
 have y1:dO p q=0↔p.y1=q.y0\/q.y1=p.y0:=by rw[ey];omega
 rw[Jk,beside,decide_eq_decide.2 x0,decide_eq_decide.2 y0,decide_eq_decide.2 x1,decide_eq_decide.2 y1,Bool.decide_and,Bool.decide_and,Bool.decide_or,Bool.decide_or];rw[Bool.and_comm (decide (p.x1=q.x0)||decide (q.x1=p.x0))]
def w9(r:List ae)(q:ae):Bool:=r.any fun p=>Jk p q
def nP(b:aS)(p:Piece):Bool:=through b p.layer&&w9 (told p.set) (aa b)
def cZ(b:aS)(ps:List Piece)(k:Nat):List Int:=if b.plated=true then ((List.range k).filter fun i=>nP b (ps.getD i ⟨0,[]⟩)).map fun (i:Nat)=>(i:Int) else []
theorem uN(b:aS):∀(ps:List Piece) (k:Nat),fu b k ps=((List.range ps.length).filter fun i=>fX b (ps.getD i ⟨0,[]⟩)).map fun (i:Nat)=>((k+i:Nat):Int)
 | [],k=>rfl
 | p::ps,k=>by
  rw[fu,uN b ps (k+1),aaB,List.range_succ_eq_map,aby,aeg];have e:(((List.range ps.length).filter ((fun i=>fX b ((p::ps).getD i ⟨0,[]⟩))∘Nat.succ)).map Nat.succ).map (fun (i:Nat)=>((k+i:Nat):Int))=((List.range ps.length).filter fun i=>fX b (ps.getD i ⟨0,[]⟩)).map fun (i:Nat)=>((k+1+i:Nat):Int):=by
   rw[ad6];refine aaG fun i _=>?_;show ((k+(i+1):Nat):Int)=_;rw[show k+(i+1)=k+1+i by omega]
  by_cases c:fX b p=true
  ·have c0:fX b ((p::ps).getD 0 ⟨0,[]⟩)=true:=c;rw[aap c,aap c0,aa8,e];rfl
  have c0:¬fX b ((p::ps).getD 0 ⟨0,[]⟩)=true:=c;rw[aaa c,aaa c0,e]
theorem HT{b:aS}(hb:Full (aa b)){ps:List Piece}(hp:∀p∈ps,bE p.set):cZ b ps ps.length=fu b 0 ps:=by
 rw[uN,cZ];by_cases c:b.plated=true
 ·rw[aap c];have e:(List.range ps.length).filter (fun i=>nP b (ps.getD i ⟨0,[]⟩))=(List.range ps.length).filter fun i=>fX b (ps.getD i ⟨0,[]⟩):=by
   refine adj fun i hi=>?_;have hi:=abD.1 hi;have hm:ps.getD i ⟨0,[]⟩∈ps:=by
    rw[ad4,acg hi];exact adn hi
   have fl:=bP (hp _ hm);rw[nP,fX,c,adr,w9];congr 1;exact oy fun r hr=>FP (fl r hr) hb
  rw[e];refine aaG fun i _=>?_;rw[abC]
 rw[aaa c];have:(List.range ps.length).filter (fun i=>fX b (ps.getD i ⟨0,[]⟩))=[]:=acf.2 fun i _=>by
  simp[fX,c]
 rw[this];rfl
def hD(l:fo):Nat->List Piece->Option Nat
 | _,[]=>none
 | k,p::r=>if pz l p=true then some k else hD l (k+1) r
def jy(l:fo):Nat->List aS->Option Nat
 | _,[]=>none
 | k,b::r=>if mV l b=true then some k else jy l (k+1) r
def vW(bs:List aS)(ps:List Piece)(l:fo):zx×Bool:=match hD l 0 ps with
 | some k=>(⟨false,k⟩,true)
 | none=>match jy l 0 bs with
  | some k=>(⟨true,k⟩,true)
  | none=>(⟨false,0⟩,false)
theorem w_(l:fo):∀(ps:List Piece) (k:Nat),match hD l k ps with
  | some m=>nA l k ps=(⟨false,m⟩,true)/\∃p∈ps,pz l p=true
  | none=>(nA l k ps).2=false/\∀p∈ps,pz l p=false
 | [],k=>⟨rfl,fun p h=>by cases h⟩
 | p::ps,k=>by
  rw[hD,nA];by_cases c:pz l p=true
  ·rw[aap c,aap c];exact⟨rfl,p,adU,c⟩
  rw[aaa c,aaa c];have ih:=w_ l ps (k+1);cases e:hD l (k+1) ps with
  | some m=>
   rw[e]at ih;obtain⟨h1,q,hq,h2⟩:=ih;exact⟨h1,q,aaw _ hq,h2⟩
  | none=>
   rw[e]at ih;refine⟨ih.1,fun q hq=>?_⟩;rcases adq.1 hq with e | hq
   ·rw[e];simpa using c
   exact ih.2 q hq
theorem zZ(l:fo)(ps:List Piece):∀(bs:List aS) (k:Nat),match jy l k bs with
  | some m=>mF l ps k bs=(⟨true,m⟩,true)/\∃b∈bs,mV l b=true
  | none=>mF l ps k bs=nA l 0 ps/\∀b∈bs,mV l b=false
 | [],k=>⟨rfl,fun p h=>by cases h⟩
 | b::bs,k=>by
  rw[jy,mF];by_cases c:mV l b=true
  ·rw[aap c,aap c];exact⟨rfl,b,adU,c⟩
  rw[aaa c,aaa c];have ih:=zZ l ps bs (k+1);cases e:jy l (k+1) bs with
  | some m=>
   rw[e]at ih;obtain⟨h1,q,hq,h2⟩:=ih;exact⟨h1,q,aaw _ hq,h2⟩
  | none=>
   rw[e]at ih;refine⟨ih.1,fun q hq=>?_⟩;rcases adq.1 hq with e | hq
   ·rw[e];simpa using c
   exact ih.2 q hq
def NS(bs:List aS)(ps:List Piece):Prop:=∀p∈ps,∀b∈bs,∀x y,through b p.layer=true->dE x y (aa b)=true->(told p.set).any (dE x y)=false
theorem P1{bs:List aS}{ps:List Piece}(h:NS bs ps)(l:fo):(vW bs ps l).2=(il bs ps l).2/\((il bs ps l).2=true->vW bs ps l=il bs ps l):=by
 have hp:=w_ l ps 0;have hb:=zZ l ps bs 0;rw[il,vW];cases e:hD l 0 ps with
 | some m=>
  rw[e]at hp;obtain⟨p1,p,pm,p2⟩:=hp;cases f:jy l 0 bs with
  | some k=>
   rw[f]at hb;obtain⟨b1,b,bm,b2⟩:=hb;rw[pz,aaZ,aaH]at p2;rw[mV,aaZ,aaZ]at b2;have:=h p pm b bm l.x l.y (by rw[p2.1];exact b2.1.2) b2.2;rw[p2.2]at this;cases this
  | none=>
   rw[f]at hb;rw[hb.1,p1];exact⟨rfl,fun _=>rfl⟩
 | none=>
  rw[e]at hp;cases f:jy l 0 bs with
  | some k=>
   rw[f]at hb;rw[hb.1];exact⟨rfl,fun _=>rfl⟩
  | none=>
   rw[f]at hb;rw[hb.1,hp.1];exact⟨rfl,fun g=>by cases g⟩
def dz(h:zx)(g:bh):Bool:=(h.bore&&mS g.bores h.num)||(!h.bore&&mS g.pieces h.num)
def kY(h:zx):Nat->List bh->Int
 | _,[]=>-1
 | k,g::r=>if dz h g=true then k else kY h (k+1) r
theorem NT{h:zx}:∀{gs:List bh} {m:Nat} {k:Nat} {g:bh},gs[k]?=some g->dz h g=true->(∀i q,gs[i]?=some q->dz h q=true->i=k)->kY h m gs=((m+k:Nat):Int)
 | [],m,k,g,hk,_,_=>by cases hk
 | q::gs,m,k,g,hk,hg,hu=>by
  rw[kY];by_cases c:dz h q=true
  ·rw[aap c];have:=hu 0 q rfl c;rw[<-this];rfl
  rw[aaa c];cases k with
  | zero=>injection hk with hk;rw[hk]at c;exact absurd hg c
  | succ k=>
   rw[NT (k:=k) (g:=g) (by simpa using hk) hg fun i p hi hp=>by have:=hu (i+1) p (by simpa using hi) hp;omega];rw[show m+1+k=m+(k+1) by omega]
end Reg
namespace M
open Go.AM Go.RowKit Go.Lib
open Reg (ae Full aS fo fS aa bO cJ through fT)
theorem xU(n lo hi:Int):af C 187 [.pv (i64 n),.pv (i64 lo),.pv (i64 hi)] (.p (bool (Reg.within n lo hi))) []:=wE n lo hi
theorem di(b:aS)(h:bO b=true):af C 58 [.pv (.ag (bc b))] (.p (.ag (rc (aa b)))) []:=by
 simp[bO,Reg.within,Reg.kR]at h;have h1:0<=b.size.tdiv 2/\b.size.tdiv 2<=b.size:=by
  rw[abk (by omega)];omega
 refine fW hC Tryz.func58 rfl (by kernel_rfl) fun _=>?_;refine⟨by omega,?_⟩;refine⟨⟨by omega,by omega⟩,?_⟩;refine⟨⟨by omega,by omega⟩,?_⟩;refine⟨by omega,?_⟩;refine⟨⟨by omega,by omega⟩,?_⟩;refine⟨⟨by omega,by omega⟩,?_⟩;refine⟨⟨by omega,by omega⟩,?_⟩;refine⟨⟨by omega,by omega⟩,?_⟩;refine⟨?_,trivial⟩;rfl
theorem vX(b:aS):af C 186 [.pv (.ag (bc b))] (.p (i64 (if cJ b=true then 0 else 1))) []:=by
 refine fW hC Tryz.func186 rfl (by kernel_rfl) fun _=>?_;refine⟨_,_,(xU b.size 1 10000),?_⟩;refine iW ?_ ?_<;>intro h1
 ·refine⟨?_,trivial⟩;rw[aaa (by simp only[cJ,bO];rw[h1];simp)];rfl
 refine⟨_,_,(Br b.x b.y),?_⟩;refine iW ?_ ?_<;>intro h2
 ·refine⟨?_,trivial⟩;rw[aaa (by simp only[cJ,bO];rw[h1,h2];simp)];rfl
 have hok:bO b=true:=by simp only[bO];rw[h1,h2];rfl
 have go:cJ b=Reg.c7 (aa b):=by simp only[cJ];rw[hok,adr]
 rw[go];refine⟨_,_,(di b hok),?_⟩;refine⟨_,_,(nJ (aa b).x0),?_⟩;refine iW ?_ ?_<;>intro h3
 ·refine⟨?_,trivial⟩;rw[aaa (by simp only[Reg.c7];rw[h3];simp)];rfl
 refine⟨_,_,(nJ (aa b).y0),?_⟩;refine iW ?_ ?_<;>intro h4
 ·refine⟨?_,trivial⟩;rw[aaa (by simp only[Reg.c7];rw[h4];simp)];rfl
 refine⟨_,_,(nJ (aa b).x1),?_⟩;refine iW ?_ ?_<;>intro h5
 ·refine⟨?_,trivial⟩;rw[aaa (by simp only[Reg.c7];rw[h5];simp)];rfl
 refine⟨_,_,(nJ (aa b).y1),?_⟩;refine iW ?_ ?_<;>intro h6
 ·refine⟨?_,trivial⟩;rw[aaa (by simp only[Reg.c7];rw[h6];simp)];rfl
 refine⟨?_,trivial⟩;rw[aap (by simp only[Reg.c7];rw[h3,h4,h5,h6];rfl)];rfl
theorem pJ(b:aS)(l:Int):af C 110 [.pv (.ag (bc b)),.pv (i64 l)] (.p (bool (through b l))) []:=by
 refine fW hC Tryz.func110 rfl (by kernel_rfl) fun _=>?_;refine iW ?_ ?_<;>intro h<;>(refine⟨?_,trivial⟩)<;>simp[bool,through,h]
def Dx(x y:aS):Bool:=decide (x.lo<=y.hi)&&decide (y.lo<=x.hi)
theorem FQ(x y:aS):af C 106 [.pv (.ag (bc x)),.pv (.ag (bc y))] (.p (bool (Dx x y))) []:=by
 refine fW hC Tryz.func106 rfl (by kernel_rfl) fun _=>?_;refine iW ?_ ?_<;>intro h<;>(refine⟨?_,trivial⟩)<;>simp[bool,Dx,h]
def agz(p q:ae):Bool:=decide (max p.x0 q.x0<min p.x1 q.x1)&&decide (max p.y0 q.y0<min p.y1 q.y1)
theorem Dy(p q:ae):af C 107 [.pv (.ag (rc p)),.pv (.ag (rc q))] (.p (bool (agz p q))) []:=by
 refine fW hC Tryz.func107 rfl (by kernel_rfl) fun _=>?_;refine iW ?_ ?_<;>intro h<;>(refine⟨?_,trivial⟩)<;>simp[bool,agz,h]
theorem NU{p q:ae}(hp:Full p)(hq:Full q):agz p q=decide (fT p q=0):=by
 obtain⟨p1,p2⟩:=hp;obtain⟨q1,q2⟩:=hq;have ex:fT p q=0↔(q.x0<p.x1/\p.x0<q.x1)/\(q.y0<p.y1/\p.y0<q.y1):=by unfold fT Reg.bA;omega
 rw[abb,agz,aaZ,aaH,aaH,aaH,ex];rw[ac6,ac6,Int.min_def,Int.min_def];split<;>split<;>split<;>split<;>omega
theorem NV{x y:aS}(hx:bO x=true)(hy:bO y=true):(Dx x y&&agz (aa x) (aa y))=Reg.eO x y:=by
 rw[NU (Reg.bX hx) (Reg.bX hy)];rfl
open Reg (ee c_ bT db sa)
theorem vY:∀a b:List UInt8,(Lib.compareBytes a b<0↔a<b)/\(Lib.compareBytes a b=0↔a=b)
 | [],[]=>by simp[Lib.compareBytes]
 | [],_::_=>by simp[Lib.compareBytes]
 | _::_,[]=>by simp[Lib.compareBytes]
 | x::a,y::b=>by
  have ih:=vY a b;unfold Lib.compareBytes;rw[List.cons_lt_cons_iff,List.cons.injEq];by_cases e:x=y
  ·subst e;have hx:¬x<x:=UInt8.lt_irrefl x;simp[hx,ih.1,ih.2]
  rcases UInt8.lt_or_lt_of_ne e with h | h
  ·simp[e,h]
  have h2:¬x<y:=UInt8.not_lt.2 (UInt8.le_of_lt h);simp[e,h,h2]
theorem FT(a b:ByteArray):Lib.compareBytes a.data.toList b.data.toList=0↔a=b:=by
 rw[(vY _ _).2];refine⟨fun h=>?_,fun h=>by rw[h]⟩;obtain⟨⟨x⟩⟩:=a;obtain⟨⟨y⟩⟩:=b;simpa using h
theorem Jl(a b:ByteArray):Lib.compareBytes a.data.toList b.data.toList<0↔mO a b=true:=by
 rw[xM];exact (vY _ _).1
theorem NW(p q:ByteArray×ByteArray):(AO p q<=0)↔(mO p.1 q.1||(decide (p.1=q.1)&&(mO p.2 q.2||decide (p.2=q.2))))=true:=by
 have h1:=FT p.1 q.1;have h2:=Jl p.1 q.1;have h3:=FT p.2 q.2;have h4:=Jl p.2 q.2;rw[AO,adZ,aaZ,adZ,aaH,aaH,<-h1,<-h2,<-h3,<-h4];generalize Lib.compareBytes p.1.data.toList q.1.data.toList=u;generalize Lib.compareBytes p.2.data.toList q.2.data.toList=v;split<;>omega
theorem z7(a:fS)(ho:ly a)(i:Nat)(hi:i<a.lands.length):af C 188 [.pv (.ag (dX a)),.pv (i64 i)] (.p (i64 (dQ a.coppers.length a.lands i))) []:=by
 have lm:=ai a.lands lc;have lk:=ai a.coppers fun r=>[aj r];have KH:=ho.cop;have SU:=ho.lan;obtain⟨l,hl⟩:=ak hi;obtain⟨s1,s2⟩:=ho.str l (aad hl);have bad:∀v,(if (lh l.part&&iU l.pin)=true then (if (Reg.within l.layer 0 (a.coppers.length-1)&&(Reg.kR l.x&&Reg.kR l.y))=true then (match a.lands[i-1]? with
   | some q=>if 0<i/\AO (l.part,l.pin) (q.part,q.pin)<=0 then 8 else 0
   | none=>0) else 1) else 5)=v->dQ a.coppers.length a.lands i=v:=fun v hv=>by simp only[dQ,hl];exact hv
 refine fW hC Tryz.func188 rfl (by kernel_rfl) fun _=>?_;refine⟨(lc l),(idx rfl hl),?_⟩;refine⟨_,_,(wH l.part s1),?_⟩;refine iW ?_ ?_<;>intro g1
 ·refine⟨?_,trivial⟩;rw[bad 5 (by rw[aaa (by rw[g1];simp)])];rfl
 refine⟨_,_,(qz l.pin (by unfold ue at s2;omega)),?_⟩;refine iW ?_ ?_<;>intro g2
 ·refine⟨?_,trivial⟩;rw[bad 5 (by rw[aaa (by rw[g2];simp)])];rfl
 refine⟨⟨by omega,by omega⟩,?_⟩;refine⟨_,_,(xU l.layer 0 (((a.coppers.map fun r=>[aj r]).length:Int)-1)),?_⟩;rw[lk];refine iW ?_ ?_<;>intro g3
 ·refine⟨?_,trivial⟩;rw[bad 1 (by rw[aap (by rw[g1,g2];rfl),aaa (by rw[g3];simp)])];rfl
 refine⟨_,_,(Br l.x l.y),?_⟩;refine iW ?_ ?_<;>intro g4
 ·refine⟨?_,trivial⟩;rw[bad 1 (by rw[aap (by rw[g1,g2];rfl),aaa (by rw[g3,g4];simp)])];rfl
 have bad:∀v,(match a.lands[i-1]? with
   | some q=>if 0<i/\AO (l.part,l.pin) (q.part,q.pin)<=0 then 8 else 0
   | none=>0)=v->dQ a.coppers.length a.lands i=v:=fun v hv=>bad v (by rw[aap (by rw[g1,g2];rfl),aap (by rw[g3,g4];rfl)];exact hv)
 refine iW ?_ ?_<;>intro g5
 ·obtain⟨q,hq⟩:=ak (l:=a.lands) (i:=i-1) (by omega);have bad:∀v,(if (mO l.part q.part||(decide (l.part=q.part)&&(mO l.pin q.pin||decide (l.pin=q.pin))))=true then 8 else 0)=v->dQ a.coppers.length a.lands i=v:=fun v hv=>bad v (by
   rw[hq];show (if 0<i/\AO (l.part,l.pin) (q.part,q.pin)<=0 then (8:Int) else 0)=v;have:=NW (l.part,l.pin) (q.part,q.pin);simp only at this;by_cases c:(mO l.part q.part||(decide (l.part=q.part)&&(mO l.pin q.pin||decide (l.pin=q.pin))))=true
   ·rw[aap c]at hv;rw[aap ⟨by omega,this.2 c⟩,hv]
   rw[aaa c]at hv;rw[aaa (fun e=>c (this.1 e.2)),hv])
  refine⟨⟨by omega,by omega⟩,?_⟩;refine⟨(lc q),(idx (show ((i:Int)-1)=((i-1:Nat):Int) by omega) hq),?_⟩;refine iW ?_ ?_<;>intro g6
  ·have o6:mO l.part q.part=true:=g6;refine⟨?_,trivial⟩;rw[bad 8 (by rw[aap (by rw[o6];rfl)])];rfl
  have o6:mO l.part q.part=false:=by simpa [mO] using g6
  refine iW ?_ ?_<;>intro g7
  ·refine iW ?_ ?_<;>intro g8
   ·have o8:(mO l.pin q.pin||decide (l.pin=q.pin))=true:=by simpa [mO] using g8
    refine⟨?_,trivial⟩;rw[bad 8 (by rw[aap (by rw[o8,acd g7];simp)])];rfl
   have o8:(mO l.pin q.pin||decide (l.pin=q.pin))=false:=by simpa [mO] using g8
   refine⟨?_,trivial⟩;rw[bad 0 (by rw[aaa (by rw[o6,o8];simp)])];rfl
  refine⟨?_,trivial⟩;rw[bad 0 (by rw[aaa (by rw[o6,aaz g7];simp)])];rfl
 have bad:dQ a.coppers.length a.lands i=0:=bad 0 (by
  split
  ·rw[aaa (by omega)]
  rfl)
 refine⟨?_,trivial⟩;rw[bad];rfl
def fv(a:fS):Int:=if a.coppers.length=0 then 9 else if 16<a.coppers.length then 2 else
 if db a.coppers≠0 then db a.coppers else
 if Reg.aF a.outline≠0 then Reg.aF a.outline else
 if 2000<sa a.outline.length a.coppers then 2 else
 if bT a≠0 then bT a else c8 a
theorem drop_cons{α:Type}{l:List α}{i:Nat}{x:α}(h:l[i]?=some x):l.drop i=x::l.drop (i+1):=by
 obtain⟨h1,h2⟩:=aao.1 h;rw[acX h1,h2]
theorem xw(a:fS)(ho:ly a):af C 105 [.pv (.ag (dX a))] (.p (i64 (fv a))) []:=by
 have lk:=ai a.coppers fun r=>[aj r];have lo:=ai a.outline rc;have lb:=ai a.bores bc;have ll:=ai a.lands lc;have KH:=ho.cop;have Yg:=ho.out;have abB:=ho.bor;have SU:=ho.lan;obtain⟨F,hF⟩:∃F,F=fv a:=⟨_,rfl⟩;rw[<-hF];rw[fv]at hF;refine fW hC Tryz.func105 rfl (by kernel_rfl) fun _=>?_;refine iW ?_ ?_<;>intro g1
 ·rw[aap (by omega)]at hF;refine⟨?_,trivial⟩;rw[hF];rfl
 rw[aaa (by omega)]at hF;refine iW ?_ ?_<;>intro g2
 ·rw[aap (by omega)]at hF;refine⟨?_,trivial⟩;rw[hF];rfl
 rw[aaa (by omega)]at hF;obtain⟨M,hM⟩:∃M,M=sa a.outline.length a.coppers:=⟨_,rfl⟩;rw[<-hM]at hF;refine aJ (fun x:Nat×Int=>sa x.2 (a.coppers.drop x.1)=M/\db (a.coppers.drop x.1)=db a.coppers/\0<=x.2/\x.2<=1048576+1048576*x.1) (fun x=>[(1,.bx 1 0),(3,.p (i64 x.2)),(4,.p (i64 x.1))]) (fun x=>[(1,.box ((dX a).map .p))]) (fun x=>a.coppers.length-x.1) (0,a.outline.length) _ (au.refl _ _) ⟨hM.symm,rfl,by simp only;omega,by simp only;omega⟩ ⟨rfl,adV (fun m:Nat=>AV.p (i64 m)) lo,Z,Y⟩ ⟨Z,Y⟩ fun ⟨i,n⟩ hx t h=>?_;obtain⟨q1,q2,q3,q4⟩:=hx;simp only at q1 q2 q3 q4;refine iW ?_ ?_<;>intro g3<;>try simp only[zB]at g3
 ·obtain⟨r,hr⟩:=ak (l:=a.coppers) (i:=i) (by omega);have xj:=ho.rcs r (aad hr);have lr:=ai r rc;rw[drop_cons hr]at q1 q2;rw[db]at q2;refine⟨[aj r],(idx rfl hr),?_⟩;refine⟨_,_,(kS r),?_⟩;refine iW ?_ ?_<;>intro g4
  ·have g4:Reg.aF r≠0:=by simpa using g4
   rw[aap g4]at q2;rw[<-q2,aap g4]at hF;refine⟨?_,trivial⟩;rw[hF]
  have g4:Reg.aF r=0:=by simpa using g4
  rw[aaa (by simpa using g4)]at q2;refine⟨[aj r],(idx rfl hr),?_⟩;refine⟨⟨by omega,by omega⟩,?_⟩;refine⟨⟨by omega,by omega⟩,?_⟩;exact⟨(i+1,n+r.length),_,au.refl _ _,⟨q1,q2,by simp only;omega,by simp only;omega⟩,by simp only;omega,⟨rfl,adV (fun m:Nat=>AV.p (i64 (n+m))) lr,Z,Y⟩,⟨Z,Y⟩⟩
 rw[ab1 (by omega)]at q1 q2;have q1:n=M:=q1;have q2:db a.coppers=0:=q2.symm;rw[aaa (by simpa using q2)]at hF;refine⟨_,_,(kS a.outline),?_⟩;refine iW ?_ ?_<;>intro g4
 ·have g4:Reg.aF a.outline≠0:=by simpa using g4
  rw[aap g4]at hF;refine⟨?_,trivial⟩;rw[hF]
 have g4:Reg.aF a.outline=0:=by simpa using g4
 rw[aaa (by simpa using g4)]at hF;refine iW ?_ ?_<;>intro g5<;>try simp only[zB]at g5
 ·rw[aap (by omega)]at hF;refine⟨?_,trivial⟩;rw[hF];rfl
 rw[aaa (by omega)]at hF;have Q1:bT a=if 500<a.bores.length then 2 else c_ a.coppers.length a.bores:=rfl;refine iW ?_ ?_<;>intro g6
 ·rw[aap (by omega)]at Q1;rw[Q1,aap (by decide)]at hF;refine⟨?_,trivial⟩;rw[hF];rfl
 rw[aaa (by omega)]at Q1;rw[Q1]at hF;refine aJ (fun i:Nat=>c_ a.coppers.length (a.bores.drop i)=c_ a.coppers.length a.bores/\i<=a.bores.length) (fun i=>[(1,.bx 1 0),(7,.p (i64 i))]) (fun i=>[(1,.box ((dX a).map .p))]) (fun i=>a.bores.length-i) 0 _ (au.refl _ _) ⟨rfl,aaj _⟩ ⟨Z,Z,Y⟩ ⟨Z,Y⟩ fun i hi t h=>?_;obtain⟨i1,i2⟩:=hi;refine iW ?_ ?_<;>intro g7
 ·obtain⟨b,hb⟩:=ak (l:=a.bores) (i:=i) (by omega);rw[Reg.BC hb]at i1;have sq:(ee b).2=if cJ b=true then 0 else 1:=by rw[ee];split<;>rfl
  rw[sq]at i1;refine⟨(bc b),(idx rfl hb),?_⟩;refine⟨_,_,(vX b),?_⟩;by_cases c:cJ b=true
  ·rw[aap c]at i1 ⊢;rw[aaa (by decide)]at i1;refine⟨⟨by omega,by omega⟩,?_⟩;refine⟨_,_,(xU b.lo 0 (((a.coppers.map fun r=>[aj r]).length:Int)-1)),?_⟩;rw[lk];refine iW ?_ ?_<;>intro g8
   ·rw[aaa (by rw[g8];simp)]at i1;rw[<-i1,aap (by decide)]at hF;refine⟨?_,trivial⟩;rw[hF];rfl
   refine⟨⟨by omega,by omega⟩,?_⟩;refine⟨_,_,(xU b.hi b.lo (((a.coppers.map fun r=>[aj r]).length:Int)-1)),?_⟩;rw[lk];refine iW ?_ ?_<;>intro g9
   ·rw[aaa (by rw[g9];simp)]at i1;rw[<-i1,aap (by decide)]at hF;refine⟨?_,trivial⟩;rw[hF];rfl
   rw[aap (by rw[g8,g9];rfl)]at i1;refine⟨⟨by omega,by omega⟩,?_⟩;exact⟨(i+1),_,au.refl _ _,⟨i1,by omega⟩,by omega,⟨Z,Z,Y⟩,⟨Z,Y⟩⟩
  rw[aaa c]at i1 ⊢;rw[aap (by decide)]at i1;rw[<-i1,aap (by decide)]at hF;refine⟨?_,trivial⟩;rw[hF]
 rw[ab1 (by omega)]at i1;have i1:c_ a.coppers.length a.bores=0:=i1.symm;rw[i1,aaa (by decide)]at hF;refine iW ?_ ?_<;>intro g8
 ·rw[c8,aap (by omega)]at hF;refine⟨?_,trivial⟩;rw[hF];rfl
 rw[c8,aaa (by omega)]at hF;refine aJ (fun i:Nat=>i<=a.lands.length/\∀k,k<i->dQ a.coppers.length a.lands k=0) (fun i=>[(1,.bx 1 0),(10,.p (i64 i))]) (fun i=>[(1,.box ((dX a).map .p))]) (fun i=>a.lands.length-i) 0 _ (au.refl _ _) ⟨aaj _,by omega⟩ ⟨Z,Z,Y⟩ ⟨Z,Y⟩ fun i hi t h=>?_;obtain⟨i2,i3⟩:=hi;refine iW ?_ ?_<;>intro g9
 ·have eF:i<a.lands.length:=by omega
  refine⟨_,_,(z7 a ho i eF),?_⟩;refine iW ?_ ?_<;>intro g10
  ·have g10:dQ a.coppers.length a.lands i≠0:=by simpa using g10
   rw[gY (m:=i) g10 (fun k _ hk=>i3 k hk) (by omega) (by omega)]at hF;refine⟨?_,trivial⟩;rw[hF]
  have g10:dQ a.coppers.length a.lands i=0:=by simpa using g10
  refine⟨⟨by omega,by omega⟩,?_⟩;exact⟨(i+1),_,au.refl _ _,⟨by omega,fun k hk=>by by_cases e:k=i;exact e▸g10;exact i3 k (by omega)⟩,by omega,⟨Z,Z,Y⟩,⟨Z,Y⟩⟩
 rw[eZ fun k _ hk=>i3 k (by omega)]at hF;refine⟨?_,trivial⟩;rw[hF];rfl
open Reg (an bE told aB bR dN dO en cN dD bg kX zQ mW pE kL qR nN cB lU)
def NX(l:List (List ae)):PV:=.sl (l.map fun r=>[aj r])
theorem K2(a b:ae)(ha:jZ a)(hb:jZ b):af C 189 [.pv (.ag (rc a)),.pv (.ag (rc b))] (.p (bool (en a b))) []:=by
 unfold jZ at ha hb;refine fW hC Tryz.func189 rfl (by kernel_rfl) fun _=>?_;refine⟨⟨by omega,by omega⟩,?_⟩;refine⟨⟨by omega,by omega⟩,?_⟩;have e:en a b=((decide (0<min a.x1 b.x1-max a.x0 b.x0)&&decide (0<=min a.y1 b.y1-max a.y0 b.y0))||(decide (0<=min a.x1 b.x1-max a.x0 b.x0)&&decide (0<min a.y1 b.y1-max a.y0 b.y0))):=rfl;rw[e];generalize min a.x1 b.x1-max a.x0 b.x0=u;generalize min a.y1 b.y1-max a.y0 b.y0=v;refine iW ?_ ?_<;>intro h1
 ·refine iW ?_ ?_<;>intro h2
  ·refine⟨?_,trivial⟩;simp[bool,h1,h2]
  refine iW ?_ ?_<;>intro h3
  ·refine⟨?_,trivial⟩;simp[bool,h1,h2,h3]
  refine⟨?_,trivial⟩;simp[bool,h1,h2,h3]
 refine iW ?_ ?_<;>intro h3
 ·refine⟨?_,trivial⟩;simp[bool,h1,h3]
 refine⟨?_,trivial⟩;simp[bool,h1,h3]
theorem uO(l:List (List ae)):∀r∈l.map (fun r=>[aj r]),r.length=1:=by
 intro r hr;obtain⟨n,_,rfl⟩:=adS.1 hr;rfl
theorem Jm{r:List ae}{x:ae}(h:r[0]?=some x):dD r=x:=by rw[dD,ad4,h];rfl
theorem HU(l:List (List ae))(r:List ae)(hr:r≠[])(hl:∀q∈l,q≠[])(hN:l.length<=1000000):af C 190 [.pv (NX l),.pv (aj r)] (.p (NX (zQ l r))) []:=by
 refine uX ⟨[],[0],[],[],[],[]⟩ hC Tryz.func190 rfl (by kernel_rfl) fun _=>?_;have lm:=ai l fun r=>[aj r];obtain⟨x,hx⟩:=ak (l:=r) (i:=0) (by cases r with | nil=>exact absurd rfl hr | cons _ _=>simp);refine p7 (fun k:Nat=>k<=l.length/\kX (dD r) l l.length=k) (fun k=>[(0,.p (NX l)),(1,.p (aj r)),(5,.p (i64 k))]) (fun _=>[]) (fun k hk t h=>?_) ?_
 ·obtain⟨k1,k2⟩:=hk;have hp:zQ l r=(l.take k++[r])++l.drop k:=by rw[zQ,k2]
  refine⟨⟨by decide,by omega,by rw[lm];omega,uO l⟩,?_⟩;refine⟨⟨gJ (uO l),by simp only[aaN,aat,lm];omega,by simp only[aaN,aat,lm];omega⟩,?_⟩;refine⟨⟨by simp,by simp[lm];omega,by simp[lm];omega⟩,?_⟩;refine⟨⟨by omega,by rw[lm];omega,by omega,uO l⟩,?_⟩;refine⟨⟨gJ (uO l),by simp[lm];omega,by simp[lm];omega⟩,?_⟩;refine⟨?_,trivial⟩;rw[hp];simp[NX,aco,acb];rw[adW (by simp)]
 refine aJ (fun k:Nat=>k<=l.length/\kX (dD r) l l.length=kX (dD r) l k) (fun k=>[(0,.p (NX l)),(1,.p (aj r)),(5,.p (i64 k))]) (fun _=>[]) (fun k=>k) l.length _ (au.refl _ _) ⟨aam _,rfl⟩ ⟨rfl,rfl,adV (fun m:Nat=>AV.p (i64 m)) lm,trivial⟩ trivial fun k hk t h=>?_;obtain⟨k1,k2⟩:=hk;refine iW ?_ ?_<;>intro h1
 ·obtain⟨m,rfl⟩:∃m,k=m+1:=⟨k-1,by omega⟩;obtain⟨q,hq⟩:=ak (l:=l) (i:=m) (by omega);have hqn:=hl q (aad hq);obtain⟨z,hz⟩:=ak (l:=q) (i:=0) (by cases q with | nil=>exact absurd rfl hqn | cons _ _=>simp);have hp:kX (dD r) l (m+1)=if Reg.before x z=true then kX (dD r) l m else m+1:=by
   rw[kX,Jm hx,ad4,hq,acy,Jm hz]
  refine⟨(rc x),(idx (i:=0) rfl hx),?_⟩;refine⟨⟨by omega,by omega⟩,?_⟩;refine⟨[aj q],(idx (show ((m+1:Nat):Int)-1=(m:Nat) by omega) hq),?_⟩;refine⟨(rc z),(idx (i:=0) rfl hz),?_⟩;refine⟨_,_,(yL x z),?_⟩;refine iW ?_ ?_<;>intro h2
  ·rw[aap h2]at hp;refine⟨⟨by omega,by omega⟩,?_⟩;exact⟨m,_,au.refl _ _,⟨by omega,by rw[k2,hp]⟩,by omega,⟨rfl,rfl,a8 (by omega),trivial⟩,trivial⟩
  rw[aaa (by rw[h2];decide)]at hp;refine⟨m+1,⟨k1,by rw[k2,hp]⟩,⟨Z,Z,Z,Y⟩,trivial⟩
 have e:k=0:=by omega
 subst e;refine⟨0,⟨aaj _,by rw[k2];rfl⟩,⟨Z,Z,Z,Y⟩,trivial⟩
end M
namespace Reg
variable {D0:List Bool}
theorem s5{n:Nat}{i:Nat}(hl:D0.length=n)(hi:i<n)(hd:D0.getD i true=false):qR n D0 (D0.set i true,[i]):=
 ⟨by show (D0.set i true).length=n;rw[aaM,hl],by simp,fun k hk=>by rw[ab_.1 hk];exact⟨hi,hd⟩,fun k hk=>by
  show (D0.set i true).getD k true=true↔_;rw[jx (by rw[hl];exact hi),ab_];by_cases e:k=i<;>simp[e]⟩
theorem uP{n:Nat}(q:Nat->Nat->Bool):∀(f i:Nat) (s:List Bool×List Nat),qR n D0 s->qR n D0 (kL q n f i s)/\∃t,(kL q n f i s).2=s.2++t
 | 0,i,s,h=>⟨h,[],by simp[kL]⟩
 | f+1,i,s,h=>by
  rw[kL];split
  ·obtain⟨b1,_,t1,b3⟩:=vP (q:=q (s.2.getD i 0)) (List.range n) s h (fun k hk=>abD.1 hk);obtain⟨c1,t2,c2⟩:=uP q f (i+1) (pE (q (s.2.getD i 0)) n s) b1;refine⟨c1,t1++t2,?_⟩;rw[c2,pE,b3,abx]
  exact⟨h,[],by simp⟩
theorem z8(r:List ae):∀i,(cB r i).2.length<=i
 | 0=>by simp[cB]
 | i+1=>by
  have h:=z8 r i;rw[iz,nN];split
  ·omega
  simp only[zQ,acv,aat,aaN,abS];omega
theorem qU(r:List ae):∀i,i<=r.length->(cB r i).1.length=r.length
 | 0,_=>by simp[cB]
 | i+1,hi=>by
  have ih:=qU r i (by omega);rw[iz,nN];split
  ·exact ih
  rename_i hd;exact (uP _ _ _ _ (s5 ih (by omega) (by simpa using hd))).1.len
theorem NY{r:List ae}{s:List Bool×List Nat}(b:qR r.length D0 s):∀q∈s.2.map (fun k=>r.getD k bg),q∈r:=fun q hq=>by
 obtain⟨k,hk,rfl⟩:=adS.1 hq;have:=(b.mem k hk).1;rw[ad4,acg this];exact adn this
theorem piece_ne{r:List ae}(h:∀q∈r,Full q):∀i,i<=r.length->∀q∈(cB r i).2,q≠[]
 | 0,_=>fun q hq=>by simp[cB]at hq
 | i+1,hi=>fun q hq=>by
  have ih:=piece_ne h i (by omega);rw[iz,nN]at hq;split at hq
  ·exact ih q hq
  rename_i hd;have hm:q∈(cB r i).2\/q=bR ((kL (cN r) r.length r.length 0 ((cB r i).1.set i true,[i])).2.map fun k=>r.getD k bg):=by
   simp only[zQ,abi,ab_]at hq;rcases hq with (hq | hq) | hq
   ·exact .inl (acM hq)
   ·exact .inr hq
   exact .inl (abq hq)
  rcases hm with hm | hm
  ·exact ih q hm
  rw[hm];have hs:=s5 (n:=r.length) (D0:=(cB r i).1) (i:=i) (qU r i (by omega)) (by omega) (by simpa using hd);obtain⟨g1,t,g2⟩:=uP (cN r) r.length 0 _ hs;refine uH (fun u hu=>h u (NY g1 u hu)) fun e=>?_;rw[adL]at e;rw[e]at g2;exact absurd g2 (by simp)
theorem P2(q:Nat->Nat->Bool)(n f i:Nat)(s:List Bool×List Nat)(h:¬i<s.2.length):kL q n f i s=s:=by
 cases f with
 | zero=>rfl
 | succ f=>rw[kL,aaa h]
theorem z_{n k:Nat}(h:k<n):(List.range n).drop k=k::(List.range n).drop (k+1):=by
 rw[acX (by simpa using h),List.getElem_range]
end Reg
namespace M
open Go.AM Go.RowKit Go.Lib
open Reg (ae an bE cv Full RK told aB bR en cN dD bg zQ mW pE kL qR nN cB lU)
def bits(l:List Bool):List (List PV):=l.map fun b=>[bool b]
theorem oC(l:List Bool):(bits l).length=l.length:=aej ..
theorem kM{l:List Bool}{i:Int}{k:Nat}{b:Bool}(h:i=k)(hx:l[k]?=some b):(bits l)[i.toNat]?=some [bool b]:=by
 rw[h,ad2,bits,aak,hx];rfl
theorem qV(l:List Bool)(k:Nat)(b:Bool):(bits l).set k [bool b]=bits (l.set k b):=by rw[bits,bits,ad8]
def qW(r:List ae)(o:List Nat):List (List PV):=(o.map fun k=>r.getD k bg).map rc
theorem B3(r:List ae)(o:List Nat):(qW r o).length=o.length:=by rw[qW,aej,aej]
theorem aeu{r:List ae}{o:List Nat}{i:Int}{k m:Nat}{q:ae}(h:i=k)(hx:o[k]?=some m)(hq:r[m]?=some q):(qW r o)[i.toNat]?=some (rc q):=by
 rw[h,ad2,qW,aak,aak,hx];simp only[ab6,ad4,hq,acy]
theorem HV{r:List ae}{o:List Nat}{m:Nat}{q:ae}(hq:r[m]?=some q):qW r o++[rc q]=qW r (o++[m]):=by
 rw[qW,qW,abE,abE,adO,adO,ad4,hq,acy]
theorem oD{l:List Bool}{k:Nat}{b d:Bool}(h:l[k]?=some b):l.getD k d=b:=by rw[ad4,h];rfl
theorem vZ{l:List ae}{k:Nat}{b d:ae}(h:l[k]?=some b):l.getD k d=b:=by rw[ad4,h];rfl
structure Aa(r:List ae):Prop where
 jB:r.length<=2000
 full:∀q∈r,Full q
 inK:∀q∈r,RK 1400000 q
theorem NZ{r:List ae}(h:Aa r){q:ae}(hq:q∈r):jZ q:=by
 have h1:=h.full q hq;have h2:=h.inK q hq;unfold RK at h2;unfold Full at h1;unfold jZ;omega
theorem uQ(r:List ae)(ok:Aa r):af C 109 [.pv (aj r)] (.p (NX (lU r))) []:=by
 have lm:=ai r rc;have jB:=ok.jB;refine fW hC Tryz.func109 rfl (by kernel_rfl) fun _=>?_;refine⟨⟨by omega,by omega,by dsimp only;omega,by omega⟩,?_⟩;have h0:(List.replicate (r.map rc).length [bool false])=bits (cB r 0).1:=by rw[bits,cB];simp
 refine aJ (fun i:Nat=>i<=r.length) (fun i=>[(0,.p (aj r)),(3,.ow 3),(4,.p (NX (cB r i).2)),(5,.p (i64 i))]) (fun i=>[(3,.row 4 (bits (cB r i).1))]) (fun i=>r.length-i) 0 _ (au.nil hC _ 4 rfl) (aaj _) ⟨Z,Z,Z,Z,Y⟩ ⟨adV (AB.row _) h0,trivial⟩ fun i hi t h=>?_;refine iW ?_ ?_<;>intro h1
 ·rw[lm]at h1;have hd:=Reg.qU r i hi;have qg:=Reg.z8 r i;have Yq:=Reg.piece_ne ok.full i hi;have fJ:=Reg.iz r i;obtain⟨d,S7⟩:=ak (l:=(cB r i).1) (i:=i) (by omega);obtain⟨q0,ZL⟩:=ak (l:=r) (i:=i) (by omega);generalize cB r i=s at *;obtain⟨D0,L⟩:=s;have hd:D0.length=r.length:=hd;have qg:L.length<=i:=qg;have Yq:∀q∈L,q≠[]:=Yq;have S7:D0[i]?=some d:=S7;have lD:=oC D0;have eD:=oD (d:=true) S7;refine⟨⟨by omega,by dsimp only;omega⟩,?_⟩;refine⟨[bool d],(kM rfl S7),?_⟩;refine iW ?_ ?_<;>intro h2
  ·rw[nN,aap (by rw[eD];exact h2)]at fJ;refine⟨⟨by omega,by omega⟩,?_⟩;exact⟨(i+1),_,au.refl _ _,by omega,by omega,⟨rfl,rfl,by rw[fJ];rfl,Z,Y⟩,⟨by rw[fJ];rfl,trivial⟩⟩
  have ZM:D0.getD i true=false:=by rw[eD];simpa using h2
  have xl:=Reg.s5 (n:=r.length) hd (by omega) ZM;obtain⟨F,hF⟩:∃F,F=kL (cN r) r.length r.length 0 (D0.set i true,[i]):=⟨_,rfl⟩;rw[nN,aaa (by rw[ZM];decide),<-hF]at fJ;refine⟨⟨by omega,by dsimp only;omega⟩,?_⟩;refine⟨[bool d],(kM rfl S7),?_⟩;refine⟨(rc q0),(idx rfl ZL),?_⟩;refine aJ (fun x:Nat×List Bool×List Nat=>kL (cN r) r.length (r.length-x.1) x.1 x.2=F/\qR r.length D0 x.2/\x.1<=x.2.2.length) (fun x=>[(0,.p (aj r)),(3,.ow 3),(4,.p (NX L)),(5,.p (i64 i)),(6,.ow 6),(7,.p (i64 x.1))]) (fun x=>[(3,.row 4 (bits x.2.1)),(6,.row 87 (qW r x.2.2))]) (fun x=>r.length-x.1) (0,D0.set i true,[i]) _ (au.refl _ _) ⟨hF.symm,xl,aaj _⟩ ⟨Z,Z,Z,Z,Z,Z,Y⟩ ⟨adV (AB.row _) (qV D0 i true),adV (AB.row _) (by rw[qW,adO,vZ ZL];rfl),trivial⟩ fun ⟨at',D,o⟩ hx t h=>?_;obtain⟨x1,x2,x3⟩:=hx;simp only at x1 x2 x3;have lo:=B3 r o;have ole:=x2.le;simp only at ole;refine iW ?_ ?_<;>intro h3<;>try simp only[zB]at h3
  ·rw[lo]at h3;obtain⟨m,hm⟩:=ak (l:=o) (i:=at') (by omega);have hmn:=(x2.mem m (aad hm)).1;obtain⟨qm,Om⟩:=ak (l:=r) (i:=m) hmn;have N0:kL (cN r) r.length (r.length-at') at' (D,o)=kL (cN r) r.length (r.length-(at'+1)) (at'+1) (pE (cN r m) r.length (D,o)):=by
    rw[show r.length-at'=(r.length-(at'+1))+1 by omega,kL,aap (by simp only;omega),ad4,hm];rfl
   rw[N0]at x1;refine aJ (fun y:Nat×List Bool×List Nat=>((List.range r.length).drop y.1).foldl (mW (cN r m)) y.2=pE (cN r m) r.length (D,o)/\qR r.length D0 y.2/\y.2.2[at']?=some m/\y.1<=r.length) (fun y=>[(0,.p (aj r)),(3,.ow 3),(4,.p (NX L)),(5,.p (i64 i)),(6,.ow 6),(7,.p (i64 at')),(8,.p (i64 y.1))]) (fun y=>[(3,.row 4 (bits y.2.1)),(6,.row 87 (qW r y.2.2))]) (fun y=>r.length-y.1) (0,D,o) _ (au.refl _ _) ⟨rfl,x2,hm,aaj _⟩ ⟨Z,Z,Z,Z,Z,Z,Z,Y⟩ ⟨Z,Z,Y⟩ fun ⟨k,E,p⟩ hy t h=>?_;obtain⟨y1,y2,y3,y4⟩:=hy;simp only at y1 y2 y3 y4;have lp:=B3 r p;have lE:=oC E;have eE:E.length=r.length:=y2.len;have ple:=y2.le;simp only at ple;have VJ:=(aao.1 y3).1;refine iW ?_ ?_<;>intro h4<;>try simp only[zB]at h4
   ·rw[lm]at h4;have h4:k<r.length:=by omega
    obtain⟨e,he⟩:=ak (l:=E) (i:=k) (by omega);obtain⟨qk,VK⟩:=ak (l:=r) (i:=k) (by omega);have gE:=oD (d:=true) he;have ZN:cN r m k=en qm qk:=by rw[cN,vZ Om,vZ VK]
    rw[Reg.z_ h4,aaq]at y1;obtain⟨b1,_,tl,b3⟩:=Reg.Jf (q:=cN r m) y2 h4;have nm:(mW (cN r m) (E,p) k).2[at']?=some m:=by rw[b3,aaE VJ];exact y3
    refine⟨⟨by omega,by dsimp only;omega⟩,?_⟩;refine⟨[bool e],(kM rfl he),?_⟩;refine iW ?_ ?_<;>intro h5
    ·have h5:e=false:=by simpa using h5
     refine⟨⟨by omega,by dsimp only;omega⟩,?_⟩;refine⟨(rc qm),(aeu rfl y3 Om),?_⟩;refine⟨(rc qk),(idx rfl VK),?_⟩;refine⟨_,_,(K2 qm qk (NZ ok (aad Om)) (NZ ok (aad VK))),?_⟩;refine iW ?_ ?_<;>intro h6
     ·have hk:mW (cN r m) (E,p) k=(E.set k true,p++[k]):=by rw[mW,aap ⟨by simp only;rw[gE,h5],by rw[ZN,h6]⟩]
      rw[hk]at y1 b1 nm;refine⟨⟨by omega,by dsimp only;omega⟩,?_⟩;refine⟨[bool e],(kM rfl he),?_⟩;refine⟨(rc qk),(idx rfl VK),?_⟩;refine⟨⟨fun r hr=>by simp at hr;subst hr;rfl,by simp only[lp,aaB,acs,aaM,aan];omega,by simp only[lp,aaB,acs,aaM,aan];omega⟩,?_⟩;refine⟨⟨by omega,by omega⟩,?_⟩;exact⟨(k+1,E.set k true,p++[k]),_,au.refl _ _,⟨y1,b1,nm,by simp only;omega⟩,by simp only;omega,⟨Z,Z,Z,Z,Z,Z,Z,Y⟩,⟨adV (AB.row _) (qV E k true),adV (AB.row _) (HV VK),trivial⟩⟩
     have hk:mW (cN r m) (E,p) k=(E,p):=by rw[mW,aaa (fun c=>by rw[ZN,h6]at c;exact absurd c.2 (by decide))]
     rw[hk]at y1 b1 nm;refine⟨⟨by omega,by omega⟩,?_⟩;exact⟨(k+1,E,p),_,au.refl _ _,⟨y1,b1,nm,by simp only;omega⟩,by simp only;omega,⟨Z,Z,Z,Z,Z,Z,Z,Y⟩,⟨Z,Z,Y⟩⟩
    have h5:e=true:=by simpa using h5
    have hk:mW (cN r m) (E,p) k=(E,p):=by rw[mW,aaa (fun c=>by simp only at c;rw[gE,h5]at c;exact absurd c.1 (by decide))]
    rw[hk]at y1 b1 nm;refine⟨⟨by omega,by omega⟩,?_⟩;exact⟨(k+1,E,p),_,au.refl _ _,⟨y1,b1,nm,by simp only;omega⟩,by simp only;omega,⟨Z,Z,Z,Z,Z,Z,Z,Y⟩,⟨Z,Z,Y⟩⟩
   rw[lm]at h4;rw[ab1 (by rw[adM];omega)]at y1;have y1:(E,p)=pE (cN r m) r.length (D,o):=y1;rw[<-y1]at x1;refine⟨⟨by omega,by omega⟩,?_⟩;exact⟨(at'+1,E,p),_,au.refl _ _,⟨x1,y2,by simp only;omega⟩,by simp only;omega,⟨Z,Z,Z,Z,Z,Z,Y⟩,⟨Z,Z,Y⟩⟩
  rw[lo]at h3;rw[Reg.P2 _ _ _ _ _ (by simpa using h3)]at x1;rw[<-x1]at fJ;have own:=Reg.NY x2;have nem:(o.map fun k=>r.getD k bg)≠[]:=fun e=>by
   rw[adL]at e;obtain⟨_,t,c2⟩:=Reg.uP (cN r) r.length 0 _ xl;rw[<-hF,<-x1,e]at c2;exact absurd c2 (by simp)
  have NR:=vR (l:=o.map fun k=>r.getD k bg) (fun q hq=>ok.full q (own q hq)) (fun q hq=>ok.inK q (own q hq)) (by rw[aej];omega);have Yr:=HU L (bR (o.map fun k=>r.getD k bg)) (Reg.uH (fun q hq=>ok.full q (own q hq)) nem) Yq (by omega);refine⟨_,_,NR,?_⟩;refine⟨_,_,Yr,?_⟩;refine⟨⟨by omega,by omega⟩,?_⟩;exact⟨(i+1),_,au.refl _ _,by omega,by omega,⟨rfl,rfl,by rw[fJ];rfl,Z,Y⟩,⟨by rw[fJ];rfl,trivial⟩⟩
 rw[lm]at h1;have e:i=r.length:=by omega
 refine⟨?_,trivial⟩;rw[e];rfl
open Reg (bN cV aS fo fS Piece aa bO through bq bU gO bG qL eG eO aeH da I7)
theorem HW{bs:List aS}{i:Nat}{b:aS}(k:Int)(h:bs[i]?=some b):bq (bs.take (i+1)) k=if through b k=true then bq (bs.take i) k++[aa b] else bq (bs.take i) k:=by
 rw[aZ h,bq,bq,acA,abE];by_cases c:through b k=true
 ·rw[aap c,aby,aap c];rfl
 rw[aaa c,aby,aaa c];simp
theorem B4(bs:List aS)(k:Int):(bq bs k).length<=bs.length:=by rw[bq,aej];exact adb _ _
structure B5(bs:List aS):Prop where
 jB:bs.length<=500
 ok:∀b∈bs,bO b=true
theorem N1{bs:List aS}(h:∀b∈bs,bO b=true)(k:Int):(∀q∈bq bs k,Full q)/\∀q∈bq bs k,RK 1400000 q:=by
 refine⟨fun q hq=>?_,fun q hq=>?_⟩
 ·obtain⟨b,hb,rfl⟩:=adS.1 hq;exact Reg.bX (h b (adu.1 hb).1)
 obtain⟨b,hb,rfl⟩:=adS.1 hq;have:=Reg.er (h b (adu.1 hb).1);unfold RK at this ⊢;omega
theorem nF{r:List ae}(h:Reg.aF r=0):told (aB r)=r:=by
 unfold Reg.aF at h;split at h
 ·split at h
  ·split at h
   ·assumption
   cases h
  cases h
 rename_i c;exact absurd h c
theorem qX(a:fS)(ok:B5 a.bores)(k:Nat)(r:List ae)(hr:a.coppers[k]?=some r)(h0:Reg.aF r=0):af C 108 [.pv (.ag (dX a)),.pv (i64 k)] (.p (aj (told (bU a.bores k r)))) []:=by
 have lb:=ai a.bores bc;have jB:=ok.jB;have rg:=ph h0;have dr:=jV ok.ok jB k h0;obtain⟨hf,hk⟩:=N1 ok.ok (k:Int);obtain⟨b1,_,b3⟩:=Reg.aR hf;have hl:=B4 a.bores k;have NR:=vR hf hk (by omega);have RJ:=Reg.fj b1 (b3 _ hk);have FU:=mL rg.sok b1 (rg.ink.up (by omega)) (b3 _ hk) (by
  have:=rg.len;rw[nF h0];have h2:=rW (bq a.bores k) (by omega);have h3:(told (aB (bq a.bores k))).length<=500*1000000*2:=by
   have e:=nq (Reg.cg (bq a.bores k) (Reg.aE (bq a.bores k)) ((Reg.aE (bq a.bores k)).length-1)) (fun t ht=>by have:=oW (bq a.bores k) (Reg.aE (bq a.bores k)) _ t ht;omega);have e2:=gK (bq a.bores k) (Reg.aE (bq a.bores k)) ((Reg.aE (bq a.bores k)).length-1);have e3:=dm (bq a.bores k);have e4:(Reg.cg (bq a.bores k) (Reg.aE (bq a.bores k)) ((Reg.aE (bq a.bores k)).length-1)).length*1000000<=1000*1000000:=abf _ (by omega);have e5:told (aB (bq a.bores k))=told (Reg.cg (bq a.bores k) (Reg.aE (bq a.bores k)) ((Reg.aE (bq a.bores k)).length-1)):=rfl;rw[e5];omega
  omega)
 rw[nF h0]at FU;refine uX ⟨[7],[],[],[],[],[]⟩ hC Tryz.func108 rfl (by kernel_rfl) fun _=>?_;refine aJ (fun i:Nat=>i<=a.bores.length) (fun i=>[(1,.p (i64 k)),(2,.bx 2 0),(5,.ow 5),(6,.p (i64 i))]) (fun i=>[(2,.box ((dX a).map .p)),(5,.row 87 ((bq (a.bores.take i) k).map rc))]) (fun i=>a.bores.length-i) 0 _ (au.dk hC _ 5 87 _ (by decide) rfl rfl (by decide)) (aaj _) ⟨Z,Z,Z,Z,Y⟩ ⟨Z,Z,Y⟩ fun i hi t h=>?_;have ll:=ai (bq (a.bores.take i) k) rc;have F4:=B4 (a.bores.take i) k;rw[aat]at F4;refine iW ?_ ?_<;>intro h1
 ·obtain⟨b,hb⟩:=ak (l:=a.bores) (i:=i) (by omega);have hs:=HW (k:Int) hb;refine⟨(bc b),(idx rfl hb),?_⟩;refine⟨_,_,(pJ b k),?_⟩;refine iW ?_ ?_<;>intro h2
  ·rw[aap h2]at hs;refine⟨(bc b),(idx rfl hb),?_⟩;refine⟨_,_,(di b (ok.ok b (aad hb))),?_⟩;refine⟨⟨fun r hr=>by simp at hr;subst hr;rfl,by simp only[ll,aaB,acs,aaM,aan];omega,by simp only[ll,aaB,acs,aaM,aan];omega⟩,?_⟩;refine⟨⟨by omega,by omega⟩,?_⟩;exact⟨(i+1),_,au.refl _ _,by omega,by omega,⟨Z,Z,Z,Z,Y⟩,⟨rfl,by rw[hs,abE];rfl,trivial⟩⟩
  rw[aaa (by rw[h2];decide)]at hs;refine⟨⟨by omega,by omega⟩,?_⟩;exact⟨(i+1),_,au.refl _ _,by omega,by omega,⟨Z,Z,Z,Z,Y⟩,⟨rfl,by rw[hs];rfl,trivial⟩⟩
 have e:a.bores.take i=a.bores:=adW (by omega);rw[e]at *;refine qy (au.own (by exact hC) _ 5 (id:=5) (by exact rfl) (by exact rfl)) ?_;refine⟨[aj r],(idx rfl hr),?_⟩;refine⟨_,_,NR,?_⟩;refine⟨_,_,FU,?_⟩;refine⟨?_,trivial⟩;rfl
open Reg (BR fT aC uo nM a_ coreS P4)
def nQ(b:Break):List PV:=[i64 b.kind,i64 b.a,i64 b.b,i64 b.is,i64 b.need,i64 b.spot.1,i64 b.spot.2]
theorem S8(t:TypeId)(o:List Break)(b:Break):AB.row t ((o.map nQ)++[nQ b])=AB.row t ((o++[b]).map nQ):=by rw[abE];rfl
end M
end Go.Proofs.YtfloceomobknoaaGreatDoor
