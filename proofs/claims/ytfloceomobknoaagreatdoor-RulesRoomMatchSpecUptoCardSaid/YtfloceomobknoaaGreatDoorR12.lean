/- Part 12 of the proof of RulesRoomMatchSpec. -/
import Derived.Test.YtfloceomobknoaaGreatDoorR11
set_option linter.unusedVariables false
set_option linter.unusedSimpArgs false
set_option maxRecDepth 100000
set_option maxHeartbeats 8000000
namespace Go
abbrev afW:=@List.Pairwise.imp
abbrev afE:=@List.filter_map
abbrev agn:=@List.filter_congr
abbrev aiu:=@List.map_singleton
end Go
namespace Go.Proofs.YtfloceomobknoaaGreatDoor
namespace Reg
structure HR(c:Nat->Nat)(T:List (List Int))(n:Nat):Prop where
 tops:Dg c n
 Lf:∀j,∀p∈T.getD j [],0<=p/\p<n
 edge:∀j a b,a∈T.getD j []->b∈T.getD j []->c a.toNat=c b.toNat
 cl:∀S:Nat->Prop,(∀j a b,a∈T.getD j []->b∈T.getD j []->S a.toNat->S b.toNat)->∀k,k<n->S (c k)->S k
structure FL(T:List (List Int))(c:Nat->Nat)(r:Nat)(D0:List Bool)(s:sY):Prop where
 u1:∀j,j<T.length->s.used.getD j true=true->∀p∈T.getD j [],D0.getD p.toNat true=false->p∈s.todo
 u2:∀j,j<T.length->s.used.getD j true=true->∃a∈s.todo,a∈T.getD j []
 u4:∀p∈s.todo,c p.toNat=r
variable {D0:List Bool} {s:sY}
theorem P0{T:List (List Int)}{n:Nat}{c:Nat->Nat}(O:HR c T n){r:Nat}(h:jc T n D0 s)(g:FL T c r D0 s){x:Int}(R:x∈s.todo){j:Nat}(U:j<T.length):
  jc T n D0 (nO T x s j)/\FL T c r D0 (nO T x s j)/\iZ s (nO T x s j)/\(x∈T.getD j []->(nO T x s j).used.getD j true=true):=by
 rw[nO];by_cases k:s.used.getD j true=true\/mS (T.getD j []) x=false
 ·rw[aap k];refine⟨h,g,iZ.refl s,fun I=>?_⟩;rcases k with k | k
  ·exact k
  rw[oA.2 I]at k;cases k
 rw[aaa k];have I:x∈T.getD j []:=by
  refine oA.1 ?_;cases e:mS (T.getD j []) x with
  | true=>rfl
  | false=>exact absurd (.inr e) k
 obtain⟨b1,b2⟩:=sX h.br (j:Int);have z:∀i,(s.used.set j true).getD i true=true↔i=j\/s.used.getD i true=true:=fun i=>by
  rw[jx (by rw[h.ulen];exact U)];by_cases e:i=j<;>simp[e]
 have h1:jc T n D0 ⟨s.seen,s.pieces,oB s.bores j,s.used.set j true,s.todo⟩:=
  ⟨h.len,by show (s.used.set j true).length=_;rw[aaM,h.ulen],h.nod,h.mem,h.done,h.pr,h.pm,b1,fun y=>by
   show y∈oB s.bores j↔∃i:Nat,y=i/\i<T.length/\(s.used.set j true).getD i true=true;rw[b2,h.bm];constructor
   ·rintro (⟨i,e,L,N⟩ | e)
    ·exact⟨i,e,L,(z i).2 (.inr N)⟩
    exact⟨j,e,U,(z j).2 (.inl rfl)⟩
   rintro⟨i,e,L,N⟩;rcases (z i).1 N with e2 | e2
   ·exact .inr (by rw[e,e2])
   exact .inl ⟨i,e,L,e2⟩⟩
 obtain⟨c1,V,W,Y⟩:=zV (T.getD j []) _ h1 (O.Lf j);have st:iZ s ⟨s.seen,s.pieces,oB s.bores j,s.used.set j true,s.todo⟩:=⟨⟨[],by simp⟩,fun i hi=>(z i).2 (.inr hi)⟩;have J:=st.trans V;refine⟨c1,⟨fun i hi D p hp Z=>?_,fun i hi D=>?_,fun p hp=>?_⟩,J,fun _=>V.used j ((z j).2 (.inl rfl))⟩
 ·rw[Y]at D;rcases (z i).1 D with e | e
  ·rw[e]at hp;exact (W p).2 (.inr ⟨hp,Z⟩)
  exact J.mem (g.u1 i hi e p hp Z)
 ·rw[Y]at D;rcases (z i).1 D with e | e
  ·rw[e];exact⟨x,J.mem R,I⟩
  obtain⟨a,a1,a2⟩:=g.u2 i hi e;exact⟨a,J.mem a1,a2⟩
 rcases (W p).1 hp with e | ⟨e,_⟩
 ·exact g.u4 p e
 rw[O.edge j p x e I];exact g.u4 x R
theorem FM{T:List (List Int)}{n:Nat}{c:Nat->Nat}(D:HR c T n){r:Nat}{x:Int}:∀(l:List Nat) (s:sY),(∀j∈l,j<T.length)->jc T n D0 s->FL T c r D0 s->x∈s.todo ->
  jc T n D0 (l.foldl (nO T x) s)/\FL T c r D0 (l.foldl (nO T x) s)/\iZ s (l.foldl (nO T x) s)/\∀j∈l,x∈T.getD j []->(l.foldl (nO T x) s).used.getD j true=true
 | [],s,_,h,g,_=>⟨h,g,iZ.refl s,fun j L=>by cases L⟩
 | j::l,s,hl,h,g,hx=>by
  obtain⟨N,O,I,R⟩:=P0 D h g hx (hl j adU);obtain⟨U,V,J,W⟩:=FM D l _ (fun i hi=>hl i (aaw _ hi)) N O (I.mem hx);refine⟨U,V,I.trans J,fun i hi z=>?_⟩;rcases adq.1 hi with e | e
  ·rw[e]at z ⊢;exact J.used j (R z)
  exact W i e z
theorem FO{T:List (List Int)}{n:Nat}(h:jc T n D0 s):(s.todo.map Int.toNat).Nodup:=by
 have hp:=abk.1 h.nod;refine abk.2 fun i j hi z D=>?_;rw[aej]at hi z;rw[List.getElem_map,List.getElem_map];have a:=(h.mem _ (adn hi)).1;have b:=(h.mem _ (adn z)).1;have:=hp i j hi z D;omega
theorem jc.le{T:List (List Int)}{n:Nat}(h:jc T n D0 s):s.todo.length<=n:=by
 have:=adO (l₁:=s.todo.map Int.toNat) (l₂:=List.range n) (FO h) fun k hk=>by
  obtain⟨p,hp,rfl⟩:=adS.1 hk;have:=(h.mem p hp).1;exact abD.2 (by omega)
 simpa using this
theorem Jj{T:List (List Int)}{n:Nat}{c:Nat->Nat}(I:HR c T n){r:Nat}(V:r<n)(R:∀k,k<n->c k=r->D0.getD k true=false):
  ∀(f i:Nat) (s:sY),jc T n D0 s->FL T c r D0 s->n<=f+i->(r:Int)∈s.todo->(∀m,m<i->m<s.todo.length->∀j,j<T.length->s.todo.getD m 0∈T.getD j []->s.used.getD j true=true)->
   jc T n D0 (p_ T f i s)/\(∀p,p∈(p_ T f i s).todo↔(0<=p/\p<n)/\c p.toNat=r)/\∀j,j<T.length->((p_ T f i s).used.getD j true=true↔∃a∈T.getD j [],c a.toNat=r)
 | f,i,s,h,g,hf,h0,h2=>by
  have fin:s.todo.length<=i->jc T n D0 s/\(∀p,p∈s.todo↔(0<=p/\p<n)/\c p.toNat=r)/\∀j,j<T.length->(s.used.getD j true=true↔∃a∈T.getD j [],c a.toNat=r):=fun hi=>by
   have full:∀a∈s.todo,∀j,j<T.length->a∈T.getD j []->s.used.getD j true=true:=fun a D j z L=>by
    obtain⟨m,J⟩:=ab8.1 D;obtain⟨W,m2⟩:=aao.1 J;have e:s.todo.getD m 0=a:=by rw[aav,J];rfl
    exact h2 m (by omega) W j z (by rw[e];exact L)
   have all:∀p:Int,0<=p->p<n->c p.toNat=r->p∈s.todo:=fun p N pn e=>by
    have:=I.cl (fun k=>(k:Int)∈s.todo) (fun j a b D hb hS=>?_) p.toNat (by omega) (by show ((c p.toNat:Nat):Int)∈s.todo;rw[e];exact h0)
    ·rw[adM N]at this;exact this
    have Y:=(I.Lf j a D).1;have Z:=I.Lf j b hb;rw[adM Y]at hS;rw[adM Z.1];have z:j<T.length:=by
     rcases abm j T.length with q | q
     ·exact q
     rw[aav,abI q]at D;cases D
    refine g.u1 j z (full a hS j z D) b hb (R _ (by omega) ?_);rw[I.edge j b a hb D];exact g.u4 a hS
   refine⟨h,fun p=>⟨fun hp=>⟨(h.mem p hp).1,g.u4 p hp⟩,fun ⟨⟨N,pn⟩,e⟩=>all p N pn e⟩,fun j z=>⟨fun hu=>?_,fun ⟨a,D,e⟩=>?_⟩⟩
   ·obtain⟨a,a1,a2⟩:=g.u2 j z hu;exact⟨a,a2,g.u4 a a1⟩
   have:=I.Lf j a D;exact full a (all a this.1 this.2 e) j z D
  match f,hf with
  | 0,hf=>exact fin (by have:=h.le;omega)
  | f+1,hf=>
   rw[p_];by_cases k:i<s.todo.length
   ·rw[aap k];have ex:s.todo.getD i 0=s.todo[i]:=by rw[aav,acg k];rfl
    have L:s.todo.getD i 0∈s.todo:=by rw[ex];exact adn k
    obtain⟨b1,b2,O,b4⟩:=FM I (List.range T.length) s (fun j z=>abD.1 z) h g L;refine Jj I V R f (i+1) _ b1 b2 (by omega) (O.mem h0) fun m hmi hml j z J=>?_;obtain⟨v,hv⟩:=O.todo;have U:m<s.todo.length:=by omega
    have e0:(s.todo++v).getD m 0=s.todo.getD m 0:=by rw[aav,aaE U,<-aav]
    rw[hv,e0]at J;by_cases e:m=i
    ·rw[e]at J;exact b4 j (abD.2 z) J
    exact O.used j (h2 m (by omega) U j z J)
   rw[aaa k];exact fin (by omega)
theorem BY{m:Nat}:∀(l:List Int) (u:List Int) (E:List (Nat×Nat)),HL E u->m<u.length->(∀p∈l,0<=p/\p.toNat<u.length)->∃D,HL (E++D) (r_ m l u)/\∀e,e∈D↔∃p∈l,e=(p.toNat,m)
 | [],u,E,h,_,_=>⟨[],by rw[acw];exact h,fun e=>by simp⟩
 | p::r,u,E,h,hm,hl=>by
  have J:=FA h (i:=p.toNat) (k:=m) (hl p adU).2 hm;have z:=(mC h.uf (i:=p.toNat) (k:=m) (hl p adU).2 hm).2;obtain⟨D,I,L⟩:=BY r _ _ J (by rw[z];exact hm) fun q N=>by rw[z];exact hl q (aaw _ N)
  refine⟨(p.toNat,m)::D,by rw[abx,aee]at I;exact I,fun e=>?_⟩;rw[adq,L];simp only[adq,exists_eq_or_imp]
theorem BZ{n nb:Nat}:∀(l:List (List Int)) (k:Nat) (u:List Int) (E:List (Nat×Nat)),HL E u->u.length=n+nb->k+l.length<=nb->(∀x∈l,∀p∈x,0<=p/\p<n)->
  ∃D,HL (E++D) (uz n k l u)/\∀e,e∈D↔∃j:Nat,∃p∈l.getD j [],e=(p.toNat,n+(k+j))
 | [],k,u,E,h,_,_,_=>⟨[],by rw[acw];exact h,fun e=>by simp⟩
 | x::r,k,u,E,h,hl,hk,hx=>by
  simp only[aaB]at hk;obtain⟨D,z,I⟩:=BY (m:=n+k) x u E h (by omega) fun p hp=>by have:=hx x adU p hp;omega
  have J:=(zC (m:=n+k) x u h.uf (by omega) fun p hp=>by have:=hx x adU p hp;omega).2;obtain⟨L,N,O⟩:=BZ r (k+1) _ _ z (J.trans hl) (by omega) fun y R=>hx y (aaw _ R);refine⟨D++L,by rw[<-abx];exact N,fun e=>?_⟩;rw[abi,I,O];constructor
  ·rintro (⟨p,hp,rfl⟩ | ⟨j,p,hp,rfl⟩)
   ·exact⟨0,p,hp,rfl⟩
   exact⟨j+1,p,by simpa using hp,by rw[show n+(k+1+j)=n+(k+(j+1)) by omega]⟩
  rintro⟨j,p,hp,rfl⟩;cases j with
  | zero=>exact .inl ⟨p,by simpa using hp,rfl⟩
  | succ j=>exact .inr ⟨j,p,by simpa using hp,by rw[show n+(k+1+j)=n+(k+(j+1)) by omega]⟩
structure VH(c:Nat->Nat)(T:List (List Int))(n:Nat):Prop where
 tops:Dg c (n+T.length)
 pc:HR c T n
 e1:∀j,∀a∈T.getD j [],c a.toNat=c (n+j)
 e2:∀j,j<T.length->T.getD j []=[]->∀m,m<n+T.length->c m=c (n+j)->m=n+j
theorem B0{n:Nat}{T:List (List Int)}(O:∀x∈T,∀p∈x,0<=p/\p<n):VH (cQ (jm n T.length T)) T n:=by
 obtain⟨D,z,L⟩:=BZ (n:=n) (nb:=T.length) T 0 (iota (n+T.length)) [] (Fz _) (aeM _) (by omega) O;have z:HL D (jm n T.length T):=z;have len:(jm n T.length T).length=n+T.length:=(qM T 0 _ (ny _) (aeM _) (by omega) O).2;have L:∀e,e∈D↔∃j:Nat,∃p∈T.getD j [],e=(p.toNat,n+j):=fun e=>by rw[L e];simp only[abC]
 generalize jm n T.length T=U at z len;have J:=rz z.uf;rw[len]at J;have lt:∀{j:Nat} {a:Int},a∈T.getD j []->j<T.length:=fun {j a} I=>by
  rcases abm j T.length with q | q
  ·exact q
  rw[aav,abI q]at I;cases I
 have Lf:∀j,∀p∈T.getD j [],0<=p/\p<n:=fun j p hp=>by
  have N:=lt hp;rw[aav,acg N]at hp;exact O _ (adn N) p hp
 have e1:∀j,∀a∈T.getD j [],cQ U a.toNat=cQ U (n+j):=fun j a I=>by
  have:=Lf j a I;have N:=lt I;exact (ae8 z.uf (by omega) (by omega)).1 (z.edge _ ((L _).2 ⟨j,a,I,rfl⟩)).2.2
 refine⟨J,⟨⟨fun m Y=>J.le m (by omega),fun m Y=>J.top m (by omega)⟩,Lf,fun j a b I hb=>(e1 j a I).trans (e1 j b hb).symm,fun S hS k hk R=>?_⟩,e1,fun j N V m Y R=>?_⟩
 ·have hle:=J.le k (by omega);have W:kU U (cQ U k) k:=(ae8 z.uf (by omega) (by omega)).2 (J.top k (by omega));have:=z.cl (fun x=>if x<n then S x else ∃a∈T.getD (x-n) [],S a.toNat) (fun e V=>?_) _ _ W
  ·simp only[aap hk,aap (show cQ U k<n by omega)]at this;exact this.1 R
  obtain⟨j,p,hp,rfl⟩:=(L e).1 V;have:=Lf j p hp;simp only[aap (show p.toNat<n by omega),aaa (show ¬n+j<n by omega),abG];exact⟨fun g=>⟨p,hp,g⟩,fun ⟨a,I,g⟩=>hS j a p I hp g⟩
 have W:kU U m (n+j):=(ae8 z.uf (by omega) (by omega)).2 R;refine (z.cl (fun x=>x=n+j) (fun e Z=>?_) _ _ W).2 rfl;obtain⟨i,p,hp,rfl⟩:=(L e).1 Z;have:=Lf i p hp;show p.toNat=n+j↔n+i=n+j;constructor
 ·intro g;omega
 intro g;have:i=j:=by omega
 rw[this,V]at hp;cases hp
def Dw(c:Nat->Nat)(n r:Nat):List Int:=(dh c n r).map fun (k:Nat)=>(k:Int)
def zW(c:Nat->Nat)(T:List (List Int))(r:Nat):List Int:=((List.range T.length).filter fun j=>(T.getD j []).any fun a=>decide (c a.toNat=r)).map fun (k:Nat)=>(k:Int)
theorem zX(f:Nat->Bool)(n:Nat):bF (((List.range n).filter f).map fun (k:Nat)=>(k:Int)):=by
 rw[bF,acZ];refine afW ?_ (ac2 aeb List.pairwise_lt_range);intro a b h;omega
theorem KZ(c:Nat->Nat)(n r:Nat):bF (Dw c n r):=zX _ n
def j_(T:List (List Int))(n:Nat)(s:List Bool×List bh)(i:Nat):List Bool×List bh:=
 if s.1.getD i true=true then s else ((eH T n i s.1).seen,s.2++[⟨(eH T n i s.1).pieces,(eH T n i s.1).bores,[]⟩])
theorem K1{T:List (List Int)}{n:Nat}{c:Nat->Nat}(W:HR c T n){D0:List Bool}(hl:D0.length=n){r:Nat}(J:r<n)(hk:c r=r)(R:∀k,k<n->c k=r->D0.getD k true=false):
  (eH T n r D0).seen.length=n/\(∀k,k<n->((eH T n r D0).seen.getD k true=true↔D0.getD k true=true\/c k=r))/\(eH T n r D0).pieces=Dw c n r/\(eH T n r D0).bores=zW c T r:=by
 have Y:=R r J hk;have L:∀j,j<T.length->(List.replicate T.length false).getD j true=true->False:=fun j D h=>by
  rw[aav,aec,aap D]at h;cases h
 obtain⟨h,U,V⟩:=Jj W (D0:=D0) J R n 0 ⟨D0.set r true,[(r:Int)],[],List.replicate T.length false,[(r:Int)]⟩
  ⟨by show (D0.set r true).length=n;rw[aaM,hl],aan,by simp,fun p hp=>by
   rw[ab_.1 hp];exact⟨⟨by omega,by omega⟩,by rw[aaS];exact Y⟩,fun p p0 pn=>by
   show (D0.set r true).getD p.toNat true=true↔_\/p∈[(r:Int)];rw[jx (by rw[hl];exact J),ab_];by_cases e:p.toNat=r
   ·rw[aap e];exact⟨fun _=>.inr (by omega),fun _=>rfl⟩
   rw[aaa e];exact⟨.inl,fun g=>g.elim id fun g=>absurd (by rw[g];simp) e⟩,ad0 _ _,fun p=>aaT,List.Pairwise.nil,fun x=>⟨fun g=>(ab2 g).elim,fun ⟨j,_,z,I⟩=>(L j z I).elim⟩⟩
  ⟨fun j D N=>(L j D N).elim,fun j D N=>(L j D N).elim,fun p hp=>by rw[ab_.1 hp,aaS];exact hk⟩
  (by omega) (ab_.2 rfl) (fun m hm=>by omega)
 refine⟨h.len,fun k DK=>?_,nI _ _ h.pr (KZ c n r) fun p=>?_,nI _ _ h.br (zX _ _) fun x=>?_⟩
 ·have:=h.done (k:Int) (by omega) (by omega);rw[aaS,U,aaS]at this;rw[show (eH T n r D0)=p_ T n 0 ⟨D0.set r true,[(r:Int)],[],List.replicate T.length false,[(r:Int)]⟩ from rfl,this];exact⟨fun g=>g.imp id fun g=>g.2,fun g=>g.imp id fun g=>⟨⟨by omega,by omega⟩,g⟩⟩
 ·show p∈(p_ T n 0 _).pieces↔_;rw[h.pm,U,Dw,adS];constructor
  ·rintro⟨⟨a,b⟩,e⟩;exact⟨p.toNat,dx.2 ⟨by omega,e⟩,by omega⟩
  rintro⟨k,Z,rfl⟩;obtain⟨a,b⟩:=dx.1 Z;exact⟨⟨by omega,by omega⟩,by rw[aaS];exact b⟩
 show x∈(p_ T n 0 _).bores↔_;rw[h.bm,zW,adS];constructor
 ·rintro⟨j,e,z,I⟩;refine⟨j,adu.2 ⟨abD.2 z,aci.2 ?_⟩,e.symm⟩;obtain⟨a,O,e2⟩:=(V j z).1 I;exact⟨a,O,aaA e2⟩
 rintro⟨j,D,rfl⟩;obtain⟨z,I⟩:=adu.1 D;have z:=abD.1 z;obtain⟨a,O,e2⟩:=aci.1 I;exact⟨j,rfl,z,(V j z).2 ⟨a,O,abJ e2⟩⟩
theorem sZ{T:List (List Int)}{n:Nat}{c:Nat->Nat}(D:HR c T n):∀i,i<=n ->
  ((List.range i).foldl (j_ T n) (List.replicate n false,[])).1.length=n /\
  (∀k,k<n->(((List.range i).foldl (j_ T n) (List.replicate n false,[])).1.getD k true=true↔c k<i))/\
  ((List.range i).foldl (j_ T n) (List.replicate n false,[])).2=(cd c i).map fun r=>⟨Dw c n r,zW c T r,[]⟩
 | 0,_=>by
  refine⟨by simp,fun k hk=>?_,rfl⟩;simp[aav,hk]
 | i+1,hi=>by
  obtain⟨l1,z,I⟩:=sZ D i (by omega);rw[abM,abZ];generalize (List.range i).foldl (j_ T n) (List.replicate n false,[])=s at l1 z I ⊢;simp only[aaq,adk];have tp:=D.tops.le i (by omega);rw[fE];by_cases e:c i=i
  ·have J:s.1.getD i true=false:=by
    cases g:s.1.getD i true with
    | false=>rfl
    | true=>have:=(z i (by omega)).1 g;omega
   obtain⟨L,N,O,R⟩:=K1 D l1 (r:=i) (by omega) e fun k hk g=>by
    cases q:s.1.getD k true with
    | false=>rfl
    | true=>have:=(z k hk).1 q;omega
   rw[j_,aaa (by rw[J];simp),aap e];refine⟨L,fun k hk=>?_,?_⟩
   ·rw[N k hk,z k hk];omega
   show s.2++_=_;rw[O,R,I,abE];rfl
  have J:s.1.getD i true=true:=(z i (by omega)).2 (by omega);rw[aaa e,j_,aap J];refine⟨l1,fun k hk=>?_,I⟩;rw[z k hk];constructor
  ·intro g;omega
  intro g;by_cases e2:c k=i
  ·have:=D.tops.top k hk;rw[e2]at this;exact absurd this e
  omega
theorem zY(bs:List aS)(n g:Nat):∀(l:List Nat) (s:(List Int×List Int)×List Int×List Int),
  (l.foldl (jF bs n g) s).2.1=s.2.1++(l.filter fun i=>decide (i<n)).map (fun (i:Nat)=>(i:Int))/\
  (l.foldl (jF bs n g) s).2.2=s.2.2++(l.filter fun i=>!decide (i<n)&&bD bs (i-n)).map fun (i:Nat)=>(i:Int)-n
 | [],s=>by simp
 | i::l,s=>by
  obtain⟨z,D⟩:=zY bs n g l (jF bs n g s i);rw[aaq,z,D,jF];by_cases c:i<n
  ·rw[aap c,aby,aby];simp[c]
  rw[aaa c,aby,aby];have e:(bs.getD (i-n) ⟨0,0,0,0,0,false⟩).plated=bD bs (i-n):=rfl;rw[e];by_cases p:bD bs (i-n)=true
  ·rw[aap p];simp[c,p]
  rw[aaa p];simp[c,p]
def qT(bs:List aS)(n:Nat)(l:List Nat):bh:=⟨(l.filter fun i=>decide (i<n)).map (fun (i:Nat)=>(i:Int)),(l.filter fun i=>!decide (i<n)&&bD bs (i-n)).map (fun (i:Nat)=>(i:Int)-n),[]⟩
def B1(g:bh):Bool:=decide (0<g.pieces.length+g.bores.length)
theorem B2(bs:List aS)(n:Nat):∀(L:List (List Nat)) (s:(List Int×List Int)×List bh),(L.foldl (AT bs n) s).2=s.2++(L.map (qT bs n)).filter B1
 | [],s=>by simp
 | l::L,s=>by
  obtain⟨z,D⟩:=zY bs n s.2.length l (s.1,[],[]);rw[aaq,B2 bs n L,aa8,aby];have e:(AT bs n s l).2=s.2++if B1 (qT bs n l)=true then [qT bs n l] else []:=by
   show (if _ then _ else _)=_;rw[z,D,ab3,ab3];show (if 0<(qT bs n l).pieces.length+(qT bs n l).bores.length then s.2++[qT bs n l] else s.2)=_;by_cases c:B1 (qT bs n l)=true
   ·rw[aap c,aap (abJ c)]
   rw[aaa c,aaa (fun g=>c (aaA g)),acw]
  rw[e,abx];congr 1;by_cases c:B1 (qT bs n l)=true
  ·rw[aap c,aap c];rfl
  rw[aaa c,aaa c];rfl
def w8(bs:List aS)(T:List (List Int))(gs:List bh)(j:Nat):List bh:=if bD bs j=true/\(T.getD j []).length=0 then gs++[⟨[],[(j:Int)],[]⟩] else gs
def dR(bs:List aS)(T:List (List Int))(n:Nat):List bh:=(List.range T.length).foldl (w8 bs T) ((List.range n).foldl (j_ T n) (List.replicate n false,[])).2
theorem vV(bs:List aS)(T:List (List Int)):∀(l:List Nat) (z:List bh),l.foldl (w8 bs T) z=z++(l.filter fun j=>bD bs j&&decide ((T.getD j []).length=0)).map fun (j:Nat)=>⟨[],[(j:Int)],[]⟩
 | [],z=>by simp
 | j::l,z=>by
  rw[aaq,vV bs T l,aby,w8];by_cases p:bD bs j=true/\(T.getD j []).length=0
  ·rw[aap p,p.1,aaA p.2];simp
  rw[aaa p];have:(bD bs j&&decide ((T.getD j []).length=0))=false:=by
   rw[aaV];intro h;rw[aaZ]at h;exact p ⟨h.1,abJ h.2⟩
  rw[this];rfl
theorem uM{bs:List aS}{T:List (List Int)}{n:Nat}(hlen:T.length=bs.length)(Z:∀x∈T,∀p∈x,0<=p/\p<n)(hp:∀j,j<T.length->bD bs j=false->T.getD j []=[]):
  dR bs T n=(jn bs n (aP (cQ (jm n bs.length T)) (n+bs.length))).2:=by
 rw[<-hlen];have bc:=B0 Z;generalize cQ (jm n T.length T)=c at bc;obtain⟨_,_,g3⟩:=sZ bc.pc n (aam _);have lt:∀{j:Nat} {a:Int},a∈T.getD j []->j<T.length:=fun {j a} L=>by
  rcases abm j T.length with q | q
  ·exact q
  rw[aav,abI q]at L;cases L
 rw[dR,g3,vV,jn,B2,ab3,aP,abd];have ek:cd c (n+T.length)=cd c n++((List.range T.length).filter fun j=>decide (c (n+j)=n+j)).map fun j=>n+j:=by
  rw[cd,List.range_add,abU,cd,afE];rfl
 have U:∀r,dh c (n+T.length) r=dh c n r++((List.range T.length).filter fun j=>decide (c (n+j)=r)).map fun j=>n+j:=fun r=>by
  rw[dh,List.range_add,abU,dh,afE];rfl
 rw[ek,abE,abU];congr 1
 ·rw[ad7.2]
  ·refine aaG fun r O=>?_;obtain⟨V,R⟩:=mem_keys.1 O;show _=qT bs n (dh c (n+T.length) r);rw[qT,U,abU,abU];have f1:(dh c n r).filter (fun i=>decide (i<n))=dh c n r:=ad7.2 fun k hk=>aaA (dx.1 hk).1;have f2:(((List.range T.length).filter fun j=>decide (c (n+j)=r)).map fun j=>n+j).filter (fun i=>decide (i<n))=[]:=acY.2 fun k hk=>by
    obtain⟨j,_,rfl⟩:=adS.1 hk;simp
   have f3:(dh c n r).filter (fun i=>!decide (i<n)&&bD bs (i-n))=[]:=acY.2 fun k hk=>by
    have:=(dx.1 hk).1;simp[this]
   rw[f1,f2,f3,acw,ab3,afE,abd,List.filter_filter];have f4:((List.range T.length).filter fun j=>((fun i=>!decide (i<n)&&bD bs (i-n))∘fun j=>n+j) j&&decide (c (n+j)=r))=(List.range T.length).filter fun j=>(T.getD j []).any fun a=>decide (c a.toNat=r):=by
    refine agn fun j z=>?_;have z:=abD.1 z;rw[abb,aaZ,aci];simp only[Function.comp,abG,show ¬n+j<n by omega,decide_false,Bool.not_false,adr,aaH];constructor
    ·rintro⟨I,J⟩;cases e:T.getD j [] with
     | nil=>
      have Ro:=bc.e2 j z e r (by omega) (by rw[R];exact J.symm);omega
     | cons a t=>exact⟨a,adU,by rw[bc.e1 j a (by rw[e];exact adU)];exact J⟩
    rintro⟨a,L,e⟩;refine⟨?_,by rw[<-bc.e1 j a L];exact e⟩;cases q:bD bs j with
    | true=>rfl
    | false=>rw[hp j z q]at L;cases L
   rw[f4];show (⟨Dw c n r,zW c T r,[]⟩:bh)=⟨Dw c n r,_,[]⟩;congr 1;refine aaG fun j _=>?_;show (j:Int)=((n+j:Nat):Int)-n;omega
  intro g hg;obtain⟨r,O,rfl⟩:=adS.1 hg;obtain⟨V,R⟩:=mem_keys.1 O;refine aaA ?_;have:(r:Int)∈(qT bs n (dh c (n+T.length) r)).pieces:=adS.2 ⟨r,adu.2 ⟨dx.2 ⟨by omega,R⟩,aaA V⟩,rfl⟩;have:=aed this;show 0<(qT bs n (dh c (n+T.length) r)).pieces.length+_;omega
 rw[abd];have D:∀j,j<T.length->c (n+j)=n+j->T.getD j []=[]:=fun j z h=>by
  cases e:T.getD j [] with
  | nil=>rfl
  | cons a t=>
   have I:=bc.e1 j a (by rw[e];exact adU);have J:=bc.pc.Lf j a (by rw[e];exact adU);have h3:=bc.tops.le a.toNat (by omega);omega
 have self:∀j,j<T.length->T.getD j []=[]->c (n+j)=n+j:=fun j z e=>by
  have I:=bc.tops.le (n+j) (by omega);exact bc.e2 j z e (c (n+j)) (by omega) (bc.tops.top _ (by omega))
 have W:∀j,j<T.length->c (n+j)=n+j->qT bs n (dh c (n+T.length) (n+j))=⟨[],if bD bs j=true then [(j:Int)] else [],[]⟩:=fun j z h=>by
  have e:=D j z h;have only:dh c (n+T.length) (n+j)=[n+j]:=by
   rw[U];have a1:dh c n (n+j)=[]:=acY.2 fun m Y=>by
    have Y:=abD.1 Y;have:=bc.tops.le m (by omega);simp only[aaH];omega
   have a2:(List.range T.length).filter (fun i=>decide (c (n+i)=n+j))=[j]:=by
    have:(List.range T.length).filter (fun i=>decide (c (n+i)=n+j))=(List.range T.length).filter (fun i=>decide (i=j)):=agn fun i hi=>by
     have hi:=abD.1 hi;rw[abb,aaH,aaH];constructor
     ·intro q;have:=bc.e2 j z e (n+i) (by omega) (by rw[h];exact q);omega
     intro q;rw[q];exact h
    rw[this];clear this;have:∀N,j<N->(List.range N).filter (fun i=>decide (i=j))=[j]:=by
     intro N
     induction N with
     | zero=>intro h;omega
     | succ N ih=>
      intro hN;rw[abM,abU];by_cases q:j=N
      ·subst q;rw[acY.2 fun i hi=>by have:=abD.1 hi;simp;omega];simp
      rw[ih (by omega)];simp[Ne.symm q]
    exact this _ z
   rw[a1,a2];rfl
  rw[only,qT];by_cases p:bD bs j=true
  ·simp[p];omega
  simp[p]
 rw[afE,List.filter_filter];have ef:(List.range T.length).filter (fun j=>bD bs j&&decide ((T.getD j []).length=0))=(List.range T.length).filter (fun j=>(B1∘((qT bs n∘dh c (n+T.length))∘fun j=>n+j)) j&&decide (c (n+j)=n+j)):=by
  refine agn fun j z=>?_;have z:=abD.1 z;by_cases h:c (n+j)=n+j
  ·have e:=D j z h;rw[aaA h,ac7,e];show (bD bs j&&true)=B1 (qT bs n (dh c (n+T.length) (n+j)));rw[W j z h];cases bD bs j<;>rfl
  rw[aaC h,acC,abF];refine .inr (aaC fun q=>h (self j z (adj.1 q)))
 rw[<-ef];refine aaG fun j z=>?_;obtain⟨I,J⟩:=adu.1 z;have I:=abD.1 I;rw[aaZ]at J;show _=qT bs n (dh c (n+T.length) (n+j));rw[W j I (self j I (adj.1 (abJ J.2))),aap J.1]
def Jk(p q:ae):Bool:=(decide (0<dN p q)&&decide (dO p q=0))||(decide (dN p q=0)&&decide (0<dO p q))
theorem FP{p q:ae}(hp:Full p)(I:Full q):Jk p q=beside p q:=by
 obtain⟨p1,p2⟩:=hp;obtain⟨q1,q2⟩:=I;have z:dN p q=min p.x1 q.x1-max p.x0 q.x0:=rfl;have D:dO p q=min p.y1 q.y1-max p.y0 q.y0:=rfl;have x0:0<dN p q↔p.x0<q.x1/\q.x0<p.x1:=by rw[z];omega
 have y0:0<dO p q↔p.y0<q.y1/\q.y0<p.y1:=by rw[D];omega
 have x1:dN p q=0↔p.x1=q.x0\/q.x1=p.x0:=by rw[z];omega
 have y1:dO p q=0↔p.y1=q.y0\/q.y1=p.y0:=by rw[D];omega
 rw[Jk,beside,decide_eq_decide.2 x0,decide_eq_decide.2 y0,decide_eq_decide.2 x1,decide_eq_decide.2 y1,Bool.decide_and,Bool.decide_and,Bool.decide_or,Bool.decide_or];rw[Bool.and_comm (decide (p.x1=q.x0)||decide (q.x1=p.x0))]
def w9(r:List ae)(q:ae):Bool:=r.any fun p=>Jk p q
def nP(b:aS)(p:Piece):Bool:=through b p.layer&&w9 (told p.set) (aa b)
def cZ(b:aS)(ps:List Piece)(k:Nat):List Int:=if b.plated=true then ((List.range k).filter fun i=>nP b (ps.getD i ⟨0,[]⟩)).map fun (i:Nat)=>(i:Int) else []
theorem uN(b:aS):∀(ps:List Piece) (k:Nat),fu b k ps=((List.range ps.length).filter fun i=>fX b (ps.getD i ⟨0,[]⟩)).map fun (i:Nat)=>((k+i:Nat):Int)
 | [],k=>rfl
 | p::ps,k=>by
  rw[fu,uN b ps (k+1),aaB,List.range_succ_eq_map,aby,afE];have e:(((List.range ps.length).filter ((fun i=>fX b ((p::ps).getD i ⟨0,[]⟩))∘Nat.succ)).map Nat.succ).map (fun (i:Nat)=>((k+i:Nat):Int))=((List.range ps.length).filter fun i=>fX b (ps.getD i ⟨0,[]⟩)).map fun (i:Nat)=>((k+1+i:Nat):Int):=by
   rw[abd];refine aaG fun i _=>?_;show ((k+(i+1):Nat):Int)=_;rw[show k+(i+1)=k+1+i by omega]
  by_cases c:fX b p=true
  ·have z:fX b ((p::ps).getD 0 ⟨0,[]⟩)=true:=c;rw[aap c,aap z,aa8,e];rfl
  have z:¬fX b ((p::ps).getD 0 ⟨0,[]⟩)=true:=c;rw[aaa c,aaa z,e]
theorem HT{b:aS}(hb:Full (aa b)){ps:List Piece}(hp:∀p∈ps,bE p.set):cZ b ps ps.length=fu b 0 ps:=by
 rw[uN,cZ];by_cases c:b.plated=true
 ·rw[aap c];have e:(List.range ps.length).filter (fun i=>nP b (ps.getD i ⟨0,[]⟩))=(List.range ps.length).filter fun i=>fX b (ps.getD i ⟨0,[]⟩):=by
   refine agn fun i hi=>?_;have hi:=abD.1 hi;have z:ps.getD i ⟨0,[]⟩∈ps:=by
    rw[aav,acg hi];exact adn hi
   have D:=bP (hp _ z);rw[nP,fX,c,adr,w9];congr 1;exact oy fun r I=>FP (D r I) hb
  rw[e];refine aaG fun i _=>?_;rw[abC]
 rw[aaa c];have:(List.range ps.length).filter (fun i=>fX b (ps.getD i ⟨0,[]⟩))=[]:=acY.2 fun i _=>by
  simp[fX,c]
 rw[this];rfl
def hD(l:fo):Nat->List Piece->Option Nat
 | _,[]=>none
 | k,p::r=>if pz l p=true then some k else hD l (k+1) r
def jy(l:fo):Nat->List aS->Option Nat
 | _,[]=>none
 | k,b::r=>if mV l b=true then some k else jy l (k+1) r
def vW(bs:List aS)(ps:List Piece)(l:fo):zx×Bool:=match hD l 0 ps with
 | some k=>(⟨false,k⟩,true)
 | none=>match jy l 0 bs with
  | some k=>(⟨true,k⟩,true)
  | none=>(⟨false,0⟩,false)
theorem w_(l:fo):∀(ps:List Piece) (k:Nat),match hD l k ps with
  | some m=>nA l k ps=(⟨false,m⟩,true)/\∃p∈ps,pz l p=true
  | none=>(nA l k ps).2=false/\∀p∈ps,pz l p=false
 | [],k=>⟨rfl,fun p h=>by cases h⟩
 | p::ps,k=>by
  rw[hD,nA];by_cases c:pz l p=true
  ·rw[aap c,aap c];exact⟨rfl,p,adU,c⟩
  rw[aaa c,aaa c];have ih:=w_ l ps (k+1);cases e:hD l (k+1) ps with
  | some m=>
   rw[e]at ih;obtain⟨D,q,z,I⟩:=ih;exact⟨D,q,aaw _ z,I⟩
  | none=>
   rw[e]at ih;refine⟨ih.1,fun q z=>?_⟩;rcases adq.1 z with e | z
   ·rw[e];simpa using c
   exact ih.2 q z
theorem zZ(l:fo)(ps:List Piece):∀(bs:List aS) (k:Nat),match jy l k bs with
  | some m=>mF l ps k bs=(⟨true,m⟩,true)/\∃b∈bs,mV l b=true
  | none=>mF l ps k bs=nA l 0 ps/\∀b∈bs,mV l b=false
 | [],k=>⟨rfl,fun p h=>by cases h⟩
 | b::bs,k=>by
  rw[jy,mF];by_cases c:mV l b=true
  ·rw[aap c,aap c];exact⟨rfl,b,adU,c⟩
  rw[aaa c,aaa c];have ih:=zZ l ps bs (k+1);cases e:jy l (k+1) bs with
  | some m=>
   rw[e]at ih;obtain⟨D,q,z,I⟩:=ih;exact⟨D,q,aaw _ z,I⟩
  | none=>
   rw[e]at ih;refine⟨ih.1,fun q z=>?_⟩;rcases adq.1 z with e | z
   ·rw[e];simpa using c
   exact ih.2 q z
def NS(bs:List aS)(ps:List Piece):Prop:=∀p∈ps,∀b∈bs,∀x y,through b p.layer=true->dE x y (aa b)=true->(told p.set).any (dE x y)=false
theorem P1{bs:List aS}{ps:List Piece}(h:NS bs ps)(l:fo):(vW bs ps l).2=(il bs ps l).2/\((il bs ps l).2=true->vW bs ps l=il bs ps l):=by
 have hp:=w_ l ps 0;have hb:=zZ l ps bs 0;rw[il,vW];cases e:hD l 0 ps with
 | some m=>
  rw[e]at hp;obtain⟨I,p,pm,z⟩:=hp;cases f:jy l 0 bs with
  | some k=>
   rw[f]at hb;obtain⟨b1,b,bm,D⟩:=hb;rw[pz,aaZ,aaH]at z;rw[mV,aaZ,aaZ]at D;have:=h p pm b bm l.x l.y (by rw[z.1];exact D.1.2) D.2;rw[z.2]at this;cases this
  | none=>
   rw[f]at hb;rw[hb.1,I];exact⟨rfl,fun _=>rfl⟩
 | none=>
  rw[e]at hp;cases f:jy l 0 bs with
  | some k=>
   rw[f]at hb;rw[hb.1];exact⟨rfl,fun _=>rfl⟩
  | none=>
   rw[f]at hb;rw[hb.1,hp.1];exact⟨rfl,fun g=>by cases g⟩
def dz(h:zx)(g:bh):Bool:=(h.bore&&mS g.bores h.num)||(!h.bore&&mS g.pieces h.num)
def kY(h:zx):Nat->List bh->Int
 | _,[]=>-1
 | k,g::r=>if dz h g=true then k else kY h (k+1) r
theorem NT{h:zx}:∀{z:List bh} {m:Nat} {k:Nat} {g:bh},z[k]?=some g->dz h g=true->(∀i q,z[i]?=some q->dz h q=true->i=k)->kY h m z=((m+k:Nat):Int)
 | [],m,k,g,hk,_,_=>by cases hk
 | q::z,m,k,g,hk,hg,hu=>by
  rw[kY];by_cases c:dz h q=true
  ·rw[aap c];have:=hu 0 q rfl c;rw[<-this];rfl
  rw[aaa c];cases k with
  | zero=>injection hk with hk;rw[hk]at c;exact absurd hg c
  | succ k=>
   rw[NT (k:=k) (g:=g) (by simpa using hk) hg fun i p hi hp=>by have:=hu (i+1) p (by simpa using hi) hp;omega];rw[show m+1+k=m+(k+1) by omega]
end Reg
namespace M
open Go.AM Go.RowKit Go.Lib
open Reg (ae Full aS fo fS aa bO cJ through fT)
theorem xU(n lo hi:Int):af C 187 [.pv (i64 n),.pv (i64 lo),.pv (i64 hi)] (.p (bool (Reg.within n lo hi))) []:=wE n lo hi
theorem di(b:aS)(h:bO b=true):af C 58 [.pv (.ag (bc b))] (.p (.ag (rc (aa b)))) []:=by
 simp[bO,Reg.within,Reg.kR]at h;have h1:0<=b.size.tdiv 2/\b.size.tdiv 2<=b.size:=by
  rw[aco (by omega)];omega
 refine fW hC Tryz.func58 rfl (by kernel_rfl) fun _=>?_;refine⟨by omega,wO (by omega),wO (by omega),by omega,wO (by omega),wO (by omega),wO (by omega),wO (by omega),?_,trivial⟩;rfl
theorem vX(b:aS):af C 186 [.pv (.ag (bc b))] (.p (i64 (if cJ b=true then 0 else 1))) []:=by
 refine fW hC Tryz.func186 rfl (by kernel_rfl) fun _=>?_;refine⟨_,_,(xU b.size 1 10000),iW ?_ ?_⟩<;>intro D
 ·refine⟨?_,trivial⟩;rw[aaa (by simp only[cJ,bO];rw[D];simp)];rfl
 refine⟨_,_,(Br b.x b.y),iW ?_ ?_⟩<;>intro I
 ·refine⟨?_,trivial⟩;rw[aaa (by simp only[cJ,bO];rw[D,I];simp)];rfl
 have z:bO b=true:=by simp only[bO];rw[D,I];rfl
 have go:cJ b=Reg.c7 (aa b):=by simp only[cJ];rw[z,adr]
 rw[go];refine⟨_,_,(di b z),_,_,(nJ (aa b).x0),iW ?_ ?_⟩<;>intro J
 ·refine⟨?_,trivial⟩;rw[aaa (by simp only[Reg.c7];rw[J];simp)];rfl
 refine⟨_,_,(nJ (aa b).y0),iW ?_ ?_⟩<;>intro L
 ·refine⟨?_,trivial⟩;rw[aaa (by simp only[Reg.c7];rw[L];simp)];rfl
 refine⟨_,_,(nJ (aa b).x1),iW ?_ ?_⟩<;>intro N
 ·refine⟨?_,trivial⟩;rw[aaa (by simp only[Reg.c7];rw[N];simp)];rfl
 refine⟨_,_,(nJ (aa b).y1),iW ?_ ?_⟩<;>intro O
 ·refine⟨?_,trivial⟩;rw[aaa (by simp only[Reg.c7];rw[O];simp)];rfl
 refine⟨?_,trivial⟩;rw[aap (by simp only[Reg.c7];rw[J,L,N,O];rfl)];rfl
theorem pJ(b:aS)(l:Int):af C 110 [.pv (.ag (bc b)),.pv (i64 l)] (.p (bool (through b l))) []:=by
 refine fW hC Tryz.func110 rfl (by kernel_rfl) fun _=>?_;apply iW<;>intro h<;>(refine⟨?_,trivial⟩)<;>simp[bool,through,h]
def Dx(x y:aS):Bool:=decide (x.lo<=y.hi)&&decide (y.lo<=x.hi)
theorem FQ(x y:aS):af C 106 [.pv (.ag (bc x)),.pv (.ag (bc y))] (.p (bool (Dx x y))) []:=by
 refine fW hC Tryz.func106 rfl (by kernel_rfl) fun _=>?_;apply iW<;>intro h<;>(refine⟨?_,trivial⟩)<;>simp[bool,Dx,h]
def agz(p q:ae):Bool:=decide (max p.x0 q.x0<min p.x1 q.x1)&&decide (max p.y0 q.y0<min p.y1 q.y1)
theorem Dy(p q:ae):af C 107 [.pv (.ag (rc p)),.pv (.ag (rc q))] (.p (bool (agz p q))) []:=by
 refine fW hC Tryz.func107 rfl (by kernel_rfl) fun _=>?_;apply iW<;>intro h<;>(refine⟨?_,trivial⟩)<;>simp[bool,agz,h]
theorem NU{p q:ae}(hp:Full p)(z:Full q):agz p q=decide (fT p q=0):=by
 obtain⟨p1,p2⟩:=hp;obtain⟨q1,q2⟩:=z;have D:fT p q=0↔(q.x0<p.x1/\p.x0<q.x1)/\(q.y0<p.y1/\p.y0<q.y1):=by unfold fT Reg.bA;omega
 rw[abb,agz,aaZ,aaH,aaH,aaH,D];rw[ac6,ac6,Int.min_def,Int.min_def];split<;>split<;>split<;>split<;>omega
theorem NV{x y:aS}(z:bO x=true)(D:bO y=true):(Dx x y&&agz (aa x) (aa y))=Reg.eO x y:=by
 rw[NU (Reg.bX z) (Reg.bX D)];rfl
open Reg (ee c_ bT db sa)
theorem vY:∀a b:List UInt8,(Lib.compareBytes a b<0↔a<b)/\(Lib.compareBytes a b=0↔a=b)
 | [],[]=>by simp[Lib.compareBytes]
 | [],_::_=>by simp[Lib.compareBytes]
 | _::_,[]=>by simp[Lib.compareBytes]
 | x::a,y::b=>by
  have ih:=vY a b;unfold Lib.compareBytes;rw[List.cons_lt_cons_iff,List.cons.injEq];by_cases e:x=y
  ·subst e;have z:¬x<x:=UInt8.lt_irrefl x;simp[z,ih.1,ih.2]
  rcases UInt8.lt_or_lt_of_ne e with h | h
  ·simp[e,h]
  have D:¬x<y:=UInt8.not_lt.2 (UInt8.le_of_lt h);simp[e,h,D]
theorem FT(a b:ByteArray):Lib.compareBytes a.data.toList b.data.toList=0↔a=b:=by
 rw[(vY _ _).2];refine⟨fun h=>?_,fun h=>by rw[h]⟩;obtain⟨⟨x⟩⟩:=a;obtain⟨⟨y⟩⟩:=b;simpa using h
theorem Jl(a b:ByteArray):Lib.compareBytes a.data.toList b.data.toList<0↔mO a b=true:=by
 rw[xM];exact (vY _ _).1
theorem NW(p q:ByteArray×ByteArray):(AO p q<=0)↔(mO p.1 q.1||(decide (p.1=q.1)&&(mO p.2 q.2||decide (p.2=q.2))))=true:=by
 have z:=FT p.1 q.1;have D:=Jl p.1 q.1;have I:=FT p.2 q.2;have J:=Jl p.2 q.2;rw[AO,adZ,aaZ,adZ,aaH,aaH,<-z,<-D,<-I,<-J];generalize Lib.compareBytes p.1.data.toList q.1.data.toList=u;generalize Lib.compareBytes p.2.data.toList q.2.data.toList=v;split<;>omega
theorem z7(a:fS)(N:ly a)(i:Nat)(hi:i<a.lands.length):af C 188 [.pv (.ag (dX a)),.pv (i64 i)] (.p (i64 (dQ a.coppers.length a.lands i))) []:=by
 have lm:=ai a.lands lc;have lk:=ai a.coppers fun r=>[aj r];have KH:=N.cop;have SU:=N.lan;obtain⟨l,hl⟩:=ak hi;obtain⟨s1,s2⟩:=N.str l (aad hl);have z:∀v,(if (lh l.part&&iU l.pin)=true then (if (Reg.within l.layer 0 (a.coppers.length-1)&&(Reg.kR l.x&&Reg.kR l.y))=true then (match a.lands[i-1]? with
   | some q=>if 0<i/\AO (l.part,l.pin) (q.part,q.pin)<=0 then 8 else 0
   | none=>0) else 1) else 5)=v->dQ a.coppers.length a.lands i=v:=fun v D=>by simp only[dQ,hl];exact D
 refine fW hC Tryz.func188 rfl (by kernel_rfl) fun _=>?_;refine⟨(lc l),(idx rfl hl),_,_,(wH l.part s1),iW ?_ ?_⟩<;>intro I
 ·refine⟨?_,trivial⟩;rw[z 5 (by rw[aaa (by rw[I];simp)])];rfl
 refine⟨_,_,(qz l.pin (by unfold ue at s2;omega)),iW ?_ ?_⟩<;>intro J
 ·refine⟨?_,trivial⟩;rw[z 5 (by rw[aaa (by rw[J];simp)])];rfl
 refine⟨wO (by omega),_,_,(xU l.layer 0 (((a.coppers.map fun r=>[aj r]).length:Int)-1)),?_⟩;rw[lk];apply iW<;>intro O
 ·refine⟨?_,trivial⟩;rw[z 1 (by rw[aap (by rw[I,J];rfl),aaa (by rw[O];simp)])];rfl
 refine⟨_,_,(Br l.x l.y),iW ?_ ?_⟩<;>intro U
 ·refine⟨?_,trivial⟩;rw[z 1 (by rw[aap (by rw[I,J];rfl),aaa (by rw[O,U];simp)])];rfl
 have z:∀v,(match a.lands[i-1]? with
   | some q=>if 0<i/\AO (l.part,l.pin) (q.part,q.pin)<=0 then 8 else 0
   | none=>0)=v->dQ a.coppers.length a.lands i=v:=fun v D=>z v (by rw[aap (by rw[I,J];rfl),aap (by rw[O,U];rfl)];exact D)
 apply iW<;>intro g5
 ·obtain⟨q,V⟩:=ak (l:=a.lands) (i:=i-1) (by omega);have z:∀v,(if (mO l.part q.part||(decide (l.part=q.part)&&(mO l.pin q.pin||decide (l.pin=q.pin))))=true then 8 else 0)=v->dQ a.coppers.length a.lands i=v:=fun v D=>z v (by
   rw[V];show (if 0<i/\AO (l.part,l.pin) (q.part,q.pin)<=0 then (8:Int) else 0)=v;have:=NW (l.part,l.pin) (q.part,q.pin);simp only at this;by_cases c:(mO l.part q.part||(decide (l.part=q.part)&&(mO l.pin q.pin||decide (l.pin=q.pin))))=true
   ·rw[aap c]at D;rw[aap ⟨by omega,this.2 c⟩,D]
   rw[aaa c]at D;rw[aaa (fun e=>c (this.1 e.2)),D])
  refine⟨wO (by omega),(lc q),(idx (show ((i:Int)-1)=((i-1:Nat):Int) by omega) V),iW ?_ ?_⟩<;>intro W
  ·have L:mO l.part q.part=true:=W;refine⟨?_,trivial⟩;rw[z 8 (by rw[aap (by rw[L];rfl)])];rfl
  have L:mO l.part q.part=false:=by simpa [mO] using W
  apply iW<;>intro Y
  ·apply iW<;>intro Z
   ·have R:(mO l.pin q.pin||decide (l.pin=q.pin))=true:=by simpa [mO] using Z
    refine⟨?_,trivial⟩;rw[z 8 (by rw[aap (by rw[R,aaA Y];simp)])];rfl
   have R:(mO l.pin q.pin||decide (l.pin=q.pin))=false:=by simpa [mO] using Z
   refine⟨?_,trivial⟩;rw[z 0 (by rw[aaa (by rw[L,R];simp)])];rfl
  refine⟨?_,trivial⟩;rw[z 0 (by rw[aaa (by rw[L,aaC Y];simp)])];rfl
 have z:dQ a.coppers.length a.lands i=0:=z 0 (by
  split
  ·rw[aaa (by omega)]
  rfl)
 refine⟨?_,trivial⟩;rw[z];rfl
def fv(a:fS):Int:=if a.coppers.length=0 then 9 else if 16<a.coppers.length then 2 else
 if db a.coppers≠0 then db a.coppers else
 if Reg.aF a.outline≠0 then Reg.aF a.outline else
 if 2000<sa a.outline.length a.coppers then 2 else
 if bT a≠0 then bT a else c8 a
theorem drop_cons{α:Type}{l:List α}{i:Nat}{x:α}(h:l[i]?=some x):l.drop i=x::l.drop (i+1):=by
 obtain⟨z,D⟩:=aao.1 h;rw[ab1 z,D]
theorem xw(a:fS)(N:ly a):af C 105 [.pv (.ag (dX a))] (.p (i64 (fv a))) []:=by
 have lk:=ai a.coppers fun r=>[aj r];have lo:=ai a.outline rc;have lb:=ai a.bores bc;have ll:=ai a.lands lc;have KH:=N.cop;have Yg:=N.out;have abB:=N.bor;have SU:=N.lan;obtain⟨F,z⟩:∃F,F=fv a:=⟨_,rfl⟩;rw[<-z];rw[fv]at z;refine fW hC Tryz.func105 rfl (by kernel_rfl) fun _=>?_;apply iW<;>intro g1
 ·rw[aap (by omega)]at z;refine⟨?_,trivial⟩;rw[z];rfl
 rw[aaa (by omega)]at z;apply iW<;>intro g2
 ·rw[aap (by omega)]at z;refine⟨?_,trivial⟩;rw[z];rfl
 rw[aaa (by omega)]at z;obtain⟨M,hM⟩:∃M,M=sa a.outline.length a.coppers:=⟨_,rfl⟩;rw[<-hM]at z;refine aJ (fun x:Nat×Int=>sa x.2 (a.coppers.drop x.1)=M/\db (a.coppers.drop x.1)=db a.coppers/\0<=x.2/\x.2<=1048576+1048576*x.1) (fun x=>[(1,.bx 1 0),(3,.p (i64 x.2)),(4,.p (i64 x.1))]) (fun x=>[(1,.box ((dX a).map .p))]) (fun x=>a.coppers.length-x.1) (0,a.outline.length) _ (au.refl _ _) ⟨hM.symm,rfl,by simp only;omega,by simp only;omega⟩ ⟨rfl,adV (fun m:Nat=>AV.p (i64 m)) lo,Z,Y⟩ ⟨Z,Y⟩ fun ⟨i,n⟩ hx t h=>?_;obtain⟨O,L,q3,q4⟩:=hx;simp only at O L q3 q4;apply iW<;>intro g3<;>try simp only[zB]at g3
 ·obtain⟨r,R⟩:=ak (l:=a.coppers) (i:=i) (by omega);have xj:=N.rcs r (aad R);have lr:=ai r rc;rw[drop_cons R]at O L;rw[db]at L;refine⟨[aj r],(idx rfl R),_,_,(kS r),iW ?_ ?_⟩<;>intro I
  ·have I:Reg.aF r≠0:=by simpa using I
   rw[aap I]at L;rw[<-L,aap I]at z;refine⟨?_,trivial⟩;rw[z]
  have I:Reg.aF r=0:=by simpa using I
  rw[aaa (by simpa using I)]at L;exact⟨[aj r],(idx rfl R),wO (by omega),wO (by omega),(i+1,n+r.length),_,au.refl _ _,⟨O,L,by simp only;omega,by simp only;omega⟩,by simp only;omega,⟨rfl,adV (fun m:Nat=>AV.p (i64 (n+m))) lr,Z,Y⟩,⟨Z,Y⟩⟩
 rw[aaz (by omega)]at O L;have O:n=M:=O;have L:db a.coppers=0:=L.symm;rw[aaa (by simpa using L)]at z;refine⟨_,_,(kS a.outline),iW ?_ ?_⟩<;>intro I
 ·have I:Reg.aF a.outline≠0:=by simpa using I
  rw[aap I]at z;refine⟨?_,trivial⟩;rw[z]
 have I:Reg.aF a.outline=0:=by simpa using I
 rw[aaa (by simpa using I)]at z;apply iW<;>intro g5<;>try simp only[zB]at g5
 ·rw[aap (by omega)]at z;refine⟨?_,trivial⟩;rw[z];rfl
 rw[aaa (by omega)]at z;have U:bT a=if 500<a.bores.length then 2 else c_ a.coppers.length a.bores:=rfl;apply iW<;>intro g6
 ·rw[aap (by omega)]at U;rw[U,aap (by decide)]at z;refine⟨?_,trivial⟩;rw[z];rfl
 rw[aaa (by omega)]at U;rw[U]at z;refine aJ (fun i:Nat=>c_ a.coppers.length (a.bores.drop i)=c_ a.coppers.length a.bores/\i<=a.bores.length) (fun i=>[(1,.bx 1 0),(7,.p (i64 i))]) (fun i=>[(1,.box ((dX a).map .p))]) (fun i=>a.bores.length-i) 0 _ (au.refl _ _) ⟨rfl,aaj _⟩ ⟨Z,Z,Y⟩ ⟨Z,Y⟩ fun i hi t h=>?_;obtain⟨D,i2⟩:=hi;apply iW<;>intro g7
 ·obtain⟨b,hb⟩:=ak (l:=a.bores) (i:=i) (by omega);rw[Reg.BC hb]at D;have sq:(ee b).2=if cJ b=true then 0 else 1:=by rw[ee];split<;>rfl
  rw[sq]at D;refine⟨(bc b),(idx rfl hb),_,_,(vX b),?_⟩;by_cases c:cJ b=true
  ·rw[aap c]at D ⊢;rw[aaa (by decide)]at D;refine⟨wO (by omega),_,_,(xU b.lo 0 (((a.coppers.map fun r=>[aj r]).length:Int)-1)),?_⟩;rw[lk];apply iW<;>intro V
   ·rw[aaa (by rw[V];simp)]at D;rw[<-D,aap (by decide)]at z;refine⟨?_,trivial⟩;rw[z];rfl
   refine⟨wO (by omega),_,_,(xU b.hi b.lo (((a.coppers.map fun r=>[aj r]).length:Int)-1)),?_⟩;rw[lk];apply iW<;>intro W
   ·rw[aaa (by rw[W];simp)]at D;rw[<-D,aap (by decide)]at z;refine⟨?_,trivial⟩;rw[z];rfl
   rw[aap (by rw[V,W];rfl)]at D;exact⟨wO (by omega),(i+1),_,au.refl _ _,⟨D,by omega⟩,by omega,⟨Z,Z,Y⟩,⟨Z,Y⟩⟩
  rw[aaa c]at D ⊢;rw[aap (by decide)]at D;rw[<-D,aap (by decide)]at z;refine⟨?_,trivial⟩;rw[z]
 rw[aaz (by omega)]at D;have D:c_ a.coppers.length a.bores=0:=D.symm;rw[D,aaa (by decide)]at z;apply iW<;>intro V
 ·rw[c8,aap (by omega)]at z;refine⟨?_,trivial⟩;rw[z];rfl
 rw[c8,aaa (by omega)]at z;refine aJ (fun i:Nat=>i<=a.lands.length/\∀k,k<i->dQ a.coppers.length a.lands k=0) (fun i=>[(1,.bx 1 0),(10,.p (i64 i))]) (fun i=>[(1,.box ((dX a).map .p))]) (fun i=>a.lands.length-i) 0 _ (au.refl _ _) ⟨aaj _,by omega⟩ ⟨Z,Z,Y⟩ ⟨Z,Y⟩ fun i hi t h=>?_;obtain⟨i2,i3⟩:=hi;apply iW<;>intro W
 ·have eF:i<a.lands.length:=by omega
  refine⟨_,_,(z7 a N i eF),iW ?_ ?_⟩<;>intro J
  ·have J:dQ a.coppers.length a.lands i≠0:=by simpa using J
   rw[gY (m:=i) J (fun k _ hk=>i3 k hk) (by omega) (by omega)]at z;refine⟨?_,trivial⟩;rw[z]
  have J:dQ a.coppers.length a.lands i=0:=by simpa using J
  exact⟨wO (by omega),(i+1),_,au.refl _ _,⟨by omega,fun k hk=>by by_cases e:k=i;exact e▸J;exact i3 k (by omega)⟩,by omega,⟨Z,Z,Y⟩,⟨Z,Y⟩⟩
 rw[eZ fun k _ hk=>i3 k (by omega)]at z;refine⟨?_,trivial⟩;rw[z];rfl
open Reg (an bE told aB bR dN dO en cN dD bg kX zQ mW pE kL qR nN cB lU)
def NX(l:List (List ae)):PV:=.sl (l.map fun r=>[aj r])
theorem K2(a b:ae)(J:jZ a)(hb:jZ b):af C 189 [.pv (.ag (rc a)),.pv (.ag (rc b))] (.p (bool (en a b))) []:=by
 unfold jZ at J hb;refine fW hC Tryz.func189 rfl (by kernel_rfl) fun _=>?_;refine⟨wO (by omega),wO (by omega),?_⟩;have e:en a b=((decide (0<min a.x1 b.x1-max a.x0 b.x0)&&decide (0<=min a.y1 b.y1-max a.y0 b.y0))||(decide (0<=min a.x1 b.x1-max a.x0 b.x0)&&decide (0<min a.y1 b.y1-max a.y0 b.y0))):=rfl;rw[e];generalize min a.x1 b.x1-max a.x0 b.x0=u;generalize min a.y1 b.y1-max a.y0 b.y0=v;apply iW<;>intro z
 ·apply iW<;>intro I
  ·refine⟨?_,trivial⟩;simp[bool,z,I]
  apply iW<;>intro D
  ·refine⟨?_,trivial⟩;simp[bool,z,I,D]
  refine⟨?_,trivial⟩;simp[bool,z,I,D]
 apply iW<;>intro D
 ·refine⟨?_,trivial⟩;simp[bool,z,D]
 refine⟨?_,trivial⟩;simp[bool,z,D]
theorem uO(l:List (List ae)):∀r∈l.map (fun r=>[aj r]),r.length=1:=by
 intro r z;obtain⟨n,_,rfl⟩:=adS.1 z;rfl
theorem Jm{r:List ae}{x:ae}(h:r[0]?=some x):dD r=x:=by rw[dD,aav,h];rfl
theorem HU(l:List (List ae))(r:List ae)(U:r≠[])(hl:∀q∈l,q≠[])(hN:l.length<=1000000):af C 190 [.pv (NX l),.pv (aj r)] (.p (NX (zQ l r))) []:=by
 refine uX ⟨[],[0],[],[],[],[]⟩ hC Tryz.func190 rfl (by kernel_rfl) fun _=>?_;have lm:=ai l fun r=>[aj r];obtain⟨x,L⟩:=ak (l:=r) (i:=0) (by cases r with | nil=>exact absurd rfl U | cons _ _=>simp);refine p7 (fun k:Nat=>k<=l.length/\kX (dD r) l l.length=k) (fun k=>[(0,.p (NX l)),(1,.p (aj r)),(5,.p (i64 k))]) (fun _=>[]) (fun k hk t h=>?_) ?_
 ·obtain⟨N,D⟩:=hk;have hp:zQ l r=(l.take k++[r])++l.drop k:=by rw[zQ,D]
  refine⟨⟨by decide,by omega,by rw[lm];omega,uO l⟩,⟨gJ (uO l),by simp only[aaN,aat,lm];omega,by simp only[aaN,aat,lm];omega⟩,⟨by simp,by simp[lm];omega,by simp[lm];omega⟩,⟨by omega,by rw[lm];omega,by omega,uO l⟩,⟨gJ (uO l),by simp[lm];omega,by simp[lm];omega⟩,?_,trivial⟩;rw[hp];simp[NX,acb,acX];rw[adW (by simp)]
 refine aJ (fun k:Nat=>k<=l.length/\kX (dD r) l l.length=kX (dD r) l k) (fun k=>[(0,.p (NX l)),(1,.p (aj r)),(5,.p (i64 k))]) (fun _=>[]) (fun k=>k) l.length _ (au.refl _ _) ⟨aam _,rfl⟩ ⟨rfl,rfl,adV (fun m:Nat=>AV.p (i64 m)) lm,trivial⟩ trivial fun k hk t h=>?_;obtain⟨N,D⟩:=hk;apply iW<;>intro h1
 ·obtain⟨m,rfl⟩:∃m,k=m+1:=⟨k-1,by omega⟩;obtain⟨q,I⟩:=ak (l:=l) (i:=m) (by omega);have J:=hl q (aad I);obtain⟨z,O⟩:=ak (l:=q) (i:=0) (by cases q with | nil=>exact absurd rfl J | cons _ _=>simp);have hp:kX (dD r) l (m+1)=if Reg.before x z=true then kX (dD r) l m else m+1:=by
   rw[kX,Jm L,aav,I,acy,Jm O]
  refine⟨(rc x),(idx (i:=0) rfl L),wO (by omega),[aj q],(idx (show ((m+1:Nat):Int)-1=(m:Nat) by omega) I),(rc z),(idx (i:=0) rfl O),_,_,(yL x z),iW ?_ ?_⟩<;>intro R
  ·rw[aap R]at hp;exact⟨wO (by omega),m,_,au.refl _ _,⟨by omega,by rw[D,hp]⟩,by omega,⟨rfl,rfl,a8 (by omega),trivial⟩,trivial⟩
  rw[aaa (by rw[R];decide)]at hp;refine⟨m+1,⟨N,by rw[D,hp]⟩,⟨Z,Z,Z,Y⟩,trivial⟩
 have e:k=0:=by omega
 subst e;refine⟨0,⟨aaj _,by rw[D];rfl⟩,⟨Z,Z,Z,Y⟩,trivial⟩
end M
namespace Reg
variable {D0:List Bool}
theorem s5{n:Nat}{i:Nat}(hl:D0.length=n)(hi:i<n)(z:D0.getD i true=false):qR n D0 (D0.set i true,[i]):=
 ⟨by show (D0.set i true).length=n;rw[aaM,hl],by simp,fun k hk=>by rw[ab_.1 hk];exact⟨hi,z⟩,fun k hk=>by
  show (D0.set i true).getD k true=true↔_;rw[jx (by rw[hl];exact hi),ab_];by_cases e:k=i<;>simp[e]⟩
theorem uP{n:Nat}(q:Nat->Nat->Bool):∀(f i:Nat) (s:List Bool×List Nat),qR n D0 s->qR n D0 (kL q n f i s)/\∃t,(kL q n f i s).2=s.2++t
 | 0,i,s,h=>⟨h,[],by simp[kL]⟩
 | f+1,i,s,h=>by
  rw[kL];split
  ·obtain⟨z,_,D,I⟩:=vP (q:=q (s.2.getD i 0)) (List.range n) s h (fun k hk=>abD.1 hk);obtain⟨J,L,N⟩:=uP q f (i+1) (pE (q (s.2.getD i 0)) n s) z;refine⟨J,D++L,?_⟩;rw[N,pE,I,abx]
  exact⟨h,[],by simp⟩
theorem z8(r:List ae):∀i,(cB r i).2.length<=i
 | 0=>by simp[cB]
 | i+1=>by
  have h:=z8 r i;rw[iz,nN];split
  ·omega
  simp only[zQ,acv,aat,aaN,abS];omega
theorem qU(r:List ae):∀i,i<=r.length->(cB r i).1.length=r.length
 | 0,_=>by simp[cB]
 | i+1,hi=>by
  have ih:=qU r i (by omega);rw[iz,nN];split
  ·exact ih
  rename_i z;exact (uP _ _ _ _ (s5 ih (by omega) (by simpa using z))).1.len
theorem NY{r:List ae}{s:List Bool×List Nat}(b:qR r.length D0 s):∀q∈s.2.map (fun k=>r.getD k bg),q∈r:=fun q z=>by
 obtain⟨k,hk,rfl⟩:=adS.1 z;have:=(b.mem k hk).1;rw[aav,acg this];exact adn this
theorem piece_ne{r:List ae}(h:∀q∈r,Full q):∀i,i<=r.length->∀q∈(cB r i).2,q≠[]
 | 0,_=>fun q z=>by simp[cB]at z
 | i+1,hi=>fun q z=>by
  have ih:=piece_ne h i (by omega);rw[iz,nN]at z;split at z
  ·exact ih q z
  rename_i J;have D:q∈(cB r i).2\/q=bR ((kL (cN r) r.length r.length 0 ((cB r i).1.set i true,[i])).2.map fun k=>r.getD k bg):=by
   simp only[zQ,abi,ab_]at z;rcases z with (z | z) | z
   ·exact .inl (acM z)
   ·exact .inr z
   exact .inl (abq z)
  rcases D with D | D
  ·exact ih q D
  rw[D];have L:=s5 (n:=r.length) (D0:=(cB r i).1) (i:=i) (qU r i (by omega)) (by omega) (by simpa using J);obtain⟨N,t,I⟩:=uP (cN r) r.length 0 _ L;refine uH (fun u O=>h u (NY N u O)) fun e=>?_;rw[ac3]at e;rw[e]at I;exact absurd I (by simp)
theorem P2(q:Nat->Nat->Bool)(n f i:Nat)(s:List Bool×List Nat)(h:¬i<s.2.length):kL q n f i s=s:=by
 cases f with
 | zero=>rfl
 | succ f=>rw[kL,aaa h]
theorem z_{n k:Nat}(h:k<n):(List.range n).drop k=k::(List.range n).drop (k+1):=by
 rw[ab1 (by simpa using h),List.getElem_range]
end Reg
namespace M
open Go.AM Go.RowKit Go.Lib
open Reg (ae an bE cv Full RK told aB bR en cN dD bg zQ mW pE kL qR nN cB lU)
def bits(l:List Bool):List (List PV):=l.map fun b=>[bool b]
theorem oC(l:List Bool):(bits l).length=l.length:=aej ..
theorem kM{l:List Bool}{i:Int}{k:Nat}{b:Bool}(h:i=k)(z:l[k]?=some b):(bits l)[i.toNat]?=some [bool b]:=by
 rw[h,aaS,bits,aak,z];rfl
theorem qV(l:List Bool)(k:Nat)(b:Bool):(bits l).set k [bool b]=bits (l.set k b):=by rw[bits,bits,abL]
def qW(r:List ae)(o:List Nat):List (List PV):=(o.map fun k=>r.getD k bg).map rc
theorem B3(r:List ae)(o:List Nat):(qW r o).length=o.length:=by rw[qW,aej,aej]
theorem aeu{r:List ae}{o:List Nat}{i:Int}{k m:Nat}{q:ae}(h:i=k)(z:o[k]?=some m)(D:r[m]?=some q):(qW r o)[i.toNat]?=some (rc q):=by
 rw[h,aaS,qW,aak,aak,z];simp only[ab6,aav,D,acy]
theorem HV{r:List ae}{o:List Nat}{m:Nat}{q:ae}(z:r[m]?=some q):qW r o++[rc q]=qW r (o++[m]):=by
 rw[qW,qW,abE,abE,aiu,aiu,aav,z,acy]
theorem oD{l:List Bool}{k:Nat}{b d:Bool}(h:l[k]?=some b):l.getD k d=b:=by rw[aav,h];rfl
theorem vZ{l:List ae}{k:Nat}{b d:ae}(h:l[k]?=some b):l.getD k d=b:=by rw[aav,h];rfl
structure Aa(r:List ae):Prop where
 jB:r.length<=2000
 full:∀q∈r,Full q
 inK:∀q∈r,RK 1400000 q
theorem NZ{r:List ae}(h:Aa r){q:ae}(z:q∈r):jZ q:=by
 have D:=h.full q z;have I:=h.inK q z;unfold RK at I;unfold Full at D;unfold jZ;omega
theorem uQ(r:List ae)(ok:Aa r):af C 109 [.pv (aj r)] (.p (NX (lU r))) []:=by
 have lm:=ai r rc;have jB:=ok.jB;refine fW hC Tryz.func109 rfl (by kernel_rfl) fun _=>?_;refine⟨⟨by omega,by omega,by dsimp only;omega,by omega⟩,?_⟩;have h0:(List.replicate (r.map rc).length [bool false])=bits (cB r 0).1:=by rw[bits,cB];simp
 refine aJ (fun i:Nat=>i<=r.length) (fun i=>[(0,.p (aj r)),(3,.ow 3),(4,.p (NX (cB r i).2)),(5,.p (i64 i))]) (fun i=>[(3,.row 4 (bits (cB r i).1))]) (fun i=>r.length-i) 0 _ (au.nil hC _ 4 rfl) (aaj _) ⟨Z,Z,Z,Z,Y⟩ ⟨adV (AB.row _) h0,trivial⟩ fun i hi t h=>?_;apply iW<;>intro h1
 ·rw[lm]at h1;have hd:=Reg.qU r i hi;have qg:=Reg.z8 r i;have Yq:=Reg.piece_ne ok.full i hi;have z:=Reg.iz r i;obtain⟨d,R⟩:=ak (l:=(cB r i).1) (i:=i) (by omega);obtain⟨q0,ZL⟩:=ak (l:=r) (i:=i) (by omega);generalize cB r i=s at *;obtain⟨D0,L⟩:=s;have hd:D0.length=r.length:=hd;have qg:L.length<=i:=qg;have Yq:∀q∈L,q≠[]:=Yq;have R:D0[i]?=some d:=R;have lD:=oC D0;have eD:=oD (d:=true) R;refine⟨⟨by omega,by dsimp only;omega⟩,[bool d],(kM rfl R),iW ?_ ?_⟩<;>intro h2
  ·rw[nN,aap (by rw[eD];exact h2)]at z;exact⟨wO (by omega),(i+1),_,au.refl _ _,by omega,by omega,⟨rfl,rfl,by rw[z];rfl,Z,Y⟩,⟨by rw[z];rfl,trivial⟩⟩
  have ZM:D0.getD i true=false:=by rw[eD];simpa using h2
  have xl:=Reg.s5 (n:=r.length) hd (by omega) ZM;obtain⟨F,hF⟩:∃F,F=kL (cN r) r.length r.length 0 (D0.set i true,[i]):=⟨_,rfl⟩;rw[nN,aaa (by rw[ZM];decide),<-hF]at z;refine⟨⟨by omega,by dsimp only;omega⟩,[bool d],(kM rfl R),(rc q0),(idx rfl ZL),?_⟩;refine aJ (fun x:Nat×List Bool×List Nat=>kL (cN r) r.length (r.length-x.1) x.1 x.2=F/\qR r.length D0 x.2/\x.1<=x.2.2.length) (fun x=>[(0,.p (aj r)),(3,.ow 3),(4,.p (NX L)),(5,.p (i64 i)),(6,.ow 6),(7,.p (i64 x.1))]) (fun x=>[(3,.row 4 (bits x.2.1)),(6,.row 87 (qW r x.2.2))]) (fun x=>r.length-x.1) (0,D0.set i true,[i]) _ (au.refl _ _) ⟨hF.symm,xl,aaj _⟩ ⟨Z,Z,Z,Z,Z,Z,Y⟩ ⟨adV (AB.row _) (qV D0 i true),adV (AB.row _) (by rw[qW,aiu,vZ ZL];rfl),trivial⟩ fun ⟨at',D,o⟩ hx t h=>?_;obtain⟨x1,U,x3⟩:=hx;simp only at x1 U x3;have lo:=B3 r o;have ole:=U.le;simp only at ole;apply iW<;>intro h3<;>try simp only[zB]at h3
  ·rw[lo]at h3;obtain⟨m,hm⟩:=ak (l:=o) (i:=at') (by omega);have hmn:=(U.mem m (aad hm)).1;obtain⟨qm,Om⟩:=ak (l:=r) (i:=m) hmn;have N0:kL (cN r) r.length (r.length-at') at' (D,o)=kL (cN r) r.length (r.length-(at'+1)) (at'+1) (pE (cN r m) r.length (D,o)):=by
    rw[show r.length-at'=(r.length-(at'+1))+1 by omega,kL,aap (by simp only;omega),aav,hm];rfl
   rw[N0]at x1;refine aJ (fun y:Nat×List Bool×List Nat=>((List.range r.length).drop y.1).foldl (mW (cN r m)) y.2=pE (cN r m) r.length (D,o)/\qR r.length D0 y.2/\y.2.2[at']?=some m/\y.1<=r.length) (fun y=>[(0,.p (aj r)),(3,.ow 3),(4,.p (NX L)),(5,.p (i64 i)),(6,.ow 6),(7,.p (i64 at')),(8,.p (i64 y.1))]) (fun y=>[(3,.row 4 (bits y.2.1)),(6,.row 87 (qW r y.2.2))]) (fun y=>r.length-y.1) (0,D,o) _ (au.refl _ _) ⟨rfl,U,hm,aaj _⟩ ⟨Z,Z,Z,Z,Z,Z,Z,Y⟩ ⟨Z,Z,Y⟩ fun ⟨k,E,p⟩ hy t h=>?_;obtain⟨y1,V,y3,y4⟩:=hy;simp only at y1 V y3 y4;have lp:=B3 r p;have lE:=oC E;have eE:E.length=r.length:=V.len;have ple:=V.le;simp only at ple;have VJ:=(aao.1 y3).1;apply iW<;>intro I<;>try simp only[zB]at I
   ·rw[lm]at I;have I:k<r.length:=by omega
    obtain⟨e,he⟩:=ak (l:=E) (i:=k) (by omega);obtain⟨qk,W⟩:=ak (l:=r) (i:=k) (by omega);have gE:=oD (d:=true) he;have ZN:cN r m k=en qm qk:=by rw[cN,vZ Om,vZ W]
    rw[Reg.z_ I,aaq]at y1;obtain⟨J,_,tl,b3⟩:=Reg.Jf (q:=cN r m) V I;have N:(mW (cN r m) (E,p) k).2[at']?=some m:=by rw[b3,aaE VJ];exact y3
    refine⟨⟨by omega,by dsimp only;omega⟩,[bool e],(kM rfl he),iW ?_ ?_⟩<;>intro O
    ·have O:e=false:=by simpa using O
     refine⟨⟨by omega,by dsimp only;omega⟩,(rc qm),(aeu rfl y3 Om),(rc qk),(idx rfl W),_,_,(K2 qm qk (NZ ok (List.mem_of_getElem? Om)) (NZ ok (List.mem_of_getElem? W))),iW ?_ ?_⟩<;>intro h6
     ·have hk:mW (cN r m) (E,p) k=(E.set k true,p++[k]):=by rw[mW,aap ⟨by simp only;rw[gE,O],by rw[ZN,h6]⟩]
      rw[hk]at y1 J N;exact⟨⟨by omega,by dsimp only;omega⟩,[bool e],(kM rfl he),(rc qk),(idx rfl W),⟨fun r hr=>by simp at hr;subst hr;rfl,by simp only[lp,List.length_cons,List.length_nil,List.length_set,List.length_replicate];omega,by simp only[lp,List.length_cons,List.length_nil,List.length_set,List.length_replicate];omega⟩,wO (by omega),(k+1,E.set k true,p++[k]),_,au.refl _ _,⟨y1,J,N,by simp only;omega⟩,by simp only;omega,⟨Z,Z,Z,Z,Z,Z,Z,Y⟩,⟨congrArg (AB.row _) (qV E k true),congrArg (AB.row _) (HV W),trivial⟩⟩
     have hk:mW (cN r m) (E,p) k=(E,p):=by rw[mW,aaa (fun c=>by rw[ZN,h6]at c;exact absurd c.2 (by decide))]
     rw[hk]at y1 J N;exact⟨wO (by omega),(k+1,E,p),_,au.refl _ _,⟨y1,J,N,by simp only;omega⟩,by simp only;omega,⟨Z,Z,Z,Z,Z,Z,Z,Y⟩,⟨Z,Z,Y⟩⟩
    have O:e=true:=by simpa using O
    have hk:mW (cN r m) (E,p) k=(E,p):=by rw[mW,aaa (fun c=>by simp only at c;rw[gE,O]at c;exact absurd c.1 (by decide))]
    rw[hk]at y1 J N;exact⟨wO (by omega),(k+1,E,p),_,au.refl _ _,⟨y1,J,N,by simp only;omega⟩,by simp only;omega,⟨Z,Z,Z,Z,Z,Z,Z,Y⟩,⟨Z,Z,Y⟩⟩
   rw[lm]at I;rw[aaz (by rw[adN];omega)]at y1;have y1:(E,p)=pE (cN r m) r.length (D,o):=y1;rw[<-y1]at x1;exact⟨wO (by omega),(at'+1,E,p),_,au.refl _ _,⟨x1,V,by simp only;omega⟩,by simp only;omega,⟨Z,Z,Z,Z,Z,Z,Y⟩,⟨Z,Z,Y⟩⟩
  rw[lo]at h3;rw[Reg.P2 _ _ _ _ _ (by simpa using h3)]at x1;rw[<-x1]at z;have own:=Reg.NY U;have nem:(o.map fun k=>r.getD k bg)≠[]:=fun e=>by
   rw[ac3]at e;obtain⟨_,t,c2⟩:=Reg.uP (cN r) r.length 0 _ xl;rw[<-hF,<-x1,e]at c2;exact absurd c2 (by simp)
  have NR:=vR (l:=o.map fun k=>r.getD k bg) (fun q hq=>ok.full q (own q hq)) (fun q hq=>ok.inK q (own q hq)) (by rw[aej];omega);have Yr:=HU L (bR (o.map fun k=>r.getD k bg)) (Reg.uH (fun q hq=>ok.full q (own q hq)) nem) Yq (by omega);exact⟨_,_,NR,_,_,Yr,wO (by omega),(i+1),_,au.refl _ _,by omega,by omega,⟨rfl,rfl,by rw[z];rfl,Z,Y⟩,⟨by rw[z];rfl,trivial⟩⟩
 rw[lm]at h1;have e:i=r.length:=by omega
 refine⟨?_,trivial⟩;rw[e];rfl
open Reg (bN cV aS fo fS Piece aa bO through bq bU gO bG qL eG eO aeH da I7)
theorem HW{bs:List aS}{i:Nat}{b:aS}(k:Int)(h:bs[i]?=some b):bq (bs.take (i+1)) k=if through b k=true then bq (bs.take i) k++[aa b] else bq (bs.take i) k:=by
 rw[aZ h,bq,bq,abU,abE];by_cases c:through b k=true
 ·rw[aap c,aby,aap c];rfl
 rw[aaa c,aby,aaa c];simp
theorem B4(bs:List aS)(k:Int):(bq bs k).length<=bs.length:=by rw[bq,aej];exact adb _ _
structure B5(bs:List aS):Prop where
 jB:bs.length<=500
 ok:∀b∈bs,bO b=true
theorem N1{bs:List aS}(h:∀b∈bs,bO b=true)(k:Int):(∀q∈bq bs k,Full q)/\∀q∈bq bs k,RK 1400000 q:=by
 refine⟨fun q z=>?_,fun q z=>?_⟩
 ·obtain⟨b,hb,rfl⟩:=adS.1 z;exact Reg.bX (h b (adu.1 hb).1)
 obtain⟨b,hb,rfl⟩:=adS.1 z;have:=Reg.er (h b (adu.1 hb).1);unfold RK at this ⊢;omega
theorem nF{r:List ae}(h:Reg.aF r=0):told (aB r)=r:=by
 unfold Reg.aF at h;split at h
 ·split at h
  ·split at h
   ·assumption
   cases h
  cases h
 rename_i c;exact absurd h c
theorem qX(a:fS)(ok:B5 a.bores)(k:Nat)(r:List ae)(z:a.coppers[k]?=some r)(D:Reg.aF r=0):af C 108 [.pv (.ag (dX a)),.pv (i64 k)] (.p (aj (told (bU a.bores k r)))) []:=by
 have lb:=ai a.bores bc;have jB:=ok.jB;have J:=ph D;have dr:=jV ok.ok jB k D;obtain⟨N,hk⟩:=N1 ok.ok (k:Int);obtain⟨O,_,R⟩:=Reg.aR N;have hl:=B4 a.bores k;have W:=vR N hk (by omega);have RJ:=Reg.fj O (R _ hk);have U:=mL J.sok O (J.ink.up (by omega)) (R _ hk) (by
  have:=J.len;rw[nF D];have L:=rW (bq a.bores k) (by omega);have h3:(told (aB (bq a.bores k))).length<=500*1000000*2:=by
   have e:=nq (Reg.cg (bq a.bores k) (Reg.aE (bq a.bores k)) ((Reg.aE (bq a.bores k)).length-1)) (fun t ht=>by have:=oW (bq a.bores k) (Reg.aE (bq a.bores k)) _ t ht;omega);have e2:=gK (bq a.bores k) (Reg.aE (bq a.bores k)) ((Reg.aE (bq a.bores k)).length-1);have e3:=dm (bq a.bores k);have e4:(Reg.cg (bq a.bores k) (Reg.aE (bq a.bores k)) ((Reg.aE (bq a.bores k)).length-1)).length*1000000<=1000*1000000:=abf _ (by omega);have e5:told (aB (bq a.bores k))=told (Reg.cg (bq a.bores k) (Reg.aE (bq a.bores k)) ((Reg.aE (bq a.bores k)).length-1)):=rfl;rw[e5];omega
  omega)
 rw[nF D]at U;refine uX ⟨[7],[],[],[],[],[]⟩ hC Tryz.func108 rfl (by kernel_rfl) fun _=>?_;refine aJ (fun i:Nat=>i<=a.bores.length) (fun i=>[(1,.p (i64 k)),(2,.bx 2 0),(5,.ow 5),(6,.p (i64 i))]) (fun i=>[(2,.box ((dX a).map .p)),(5,.row 87 ((bq (a.bores.take i) k).map rc))]) (fun i=>a.bores.length-i) 0 _ (au.dk hC _ 5 87 _ (by decide) rfl rfl (by decide)) (aaj _) ⟨Z,Z,Z,Z,Y⟩ ⟨Z,Z,Y⟩ fun i hi t h=>?_;have V:=ai (bq (a.bores.take i) k) rc;have F4:=B4 (a.bores.take i) k;rw[aat]at F4;apply iW<;>intro h1
 ·obtain⟨b,hb⟩:=ak (l:=a.bores) (i:=i) (by omega);have I:=HW (k:Int) hb;refine⟨(bc b),(idx rfl hb),_,_,(pJ b k),iW ?_ ?_⟩<;>intro L
  ·rw[aap L]at I;exact⟨(bc b),(idx rfl hb),_,_,(di b (ok.ok b (aad hb))),⟨fun r z=>by simp at z;subst z;rfl,by simp only[V,aaB,acs,aaM,aan];omega,by simp only[V,aaB,acs,aaM,aan];omega⟩,wO (by omega),(i+1),_,au.refl _ _,by omega,by omega,⟨Z,Z,Z,Z,Y⟩,⟨rfl,by rw[I,abE];rfl,trivial⟩⟩
  rw[aaa (by rw[L];decide)]at I;exact⟨wO (by omega),(i+1),_,au.refl _ _,by omega,by omega,⟨Z,Z,Z,Z,Y⟩,⟨rfl,by rw[I];rfl,trivial⟩⟩
 have e:a.bores.take i=a.bores:=adW (by omega);rw[e]at *;refine qy (au.own (by exact hC) _ 5 (id:=5) (by exact rfl) (by exact rfl)) ?_;refine⟨[aj r],(idx rfl z),_,_,W,_,_,U,?_,trivial⟩;rfl
open Reg (BR fT aC ahD uo nM a_ coreS P4)
theorem af4(bs:List aS)(ps:List Piece)(o:List Int×List Int):∀(l:List Reg.fo) (s:Reg.qN),(l.foldl (Reg.uA bs ps o) s).groups.length=s.groups.length
 | [],s=>rfl
 | x::l,s=>by
  rw[aaq,af4 bs ps o l];simp only[Reg.uA];split
  ·rw[aaM]
  rfl
theorem agL(a:fS):(aC a).placed.groups.length=(Reg.jn a.bores (aC a).pieces.length (Reg.aP (Reg.cQ (Reg.jm (aC a).pieces.length a.bores.length (aC a).bB)) ((aC a).pieces.length+a.bores.length))).2.length:=af4 _ _ _ _ _
theorem afM{a:fS}(I:Ft a){nets:List ByteArray}(J:nets.length=(aC a).placed.groups.length){i:Nat}(hi:i<(aC a).pieces.length):∃(k:Nat) (s:ByteArray),(aC a).ofPiece[i]?=some (k:Int)/\(aC a).ofPiece.getD i 0=(k:Int)/\nets[k]?=some s/\aft nets (k:Int)=s:=by
 obtain⟨k,g,z,L,_⟩:=I.gr.a i hi;have hk:=(aao.1 L).1;have z:(aC a).ofPiece[i]?=some (k:Int):=z;rw[<-agL,<-J]at hk;obtain⟨s,D⟩:=ak hk;exact⟨k,s,z,by rw[aav,z];rfl,D,by rw[aft,aaS,aav,D];rfl⟩
open Reg (ff dy at')
theorem Jn{s:List an}(I:bE s)(ks:cv 1000000 s){n:Int}(z:0<=n):bE (coreS s n n n n)/\cv 1000000 (coreS s n n n n):=by
 have D:=Reg.pe I (l:=n) (r:=n) (d:=n) (u:=n) z z z z;exact⟨D.1,Dd D.1 I ks fun x y J=>(D.2.1 x y).1 J x y (by omega) (by omega) (by omega) (by omega)⟩
theorem xc(s:List an)(D:bE s)(ks:cv 1000000 s)(hn:(told s).length<=1000000)(n:Int)(z:0<=n)(I:n<=100000):af C 53 [.pv (aj (told s)),.pv (i64 n)] (.p (aj (told (coreS s n n n n)))) []:=by
 have lm:=ai (told s) rc;have e:=Reg.FE D z;rw[<-e];refine fW hC Tryz.func53 rfl (by kernel_rfl) fun _=>?_;apply iW<;>intro g
 ·refine⟨?_,trivial⟩;rw[Reg.xT,aap (by omega)];rfl
 have J:told s≠[]:=fun c=>g (by rw[c];rfl);have R:s≠[]:=fun c=>J (by rw[c];rfl);obtain⟨U,b2,b3⟩:=Reg.pG D R;have V:=b3 _ ks;have wf:=Reg.l6 U z;have wk:RK 1100000 (ff (dy (told s)) n):=by
  unfold RK at V ⊢;simp only[ff];omega
 obtain⟨W,_⟩:=Reg.gz wf;have w3:cv 1100000 (aB [ff (dy (told s)) n]):=(Reg.aR (l:=[ff (dy (told s)) n]) (fun q L=>by rw[ab_.1 L];exact wf)).2.2 _ fun q L=>by rw[ab_.1 L];exact wk
 have Y:=Reg.qS wf;obtain⟨l1,_,l3⟩:=Reg.b6 W D;have N:=l3 _ w3 (ks.up (by omega));have ll:=Reg.vQ (K:=1100000) l1 N;have Z:=mL W D (w3.up (by omega)) (ks.up (by omega)) (by rw[Y,abS];omega);rw[Y]at Z;have S9:=HQ _ l1 (N.up (by omega)) n z I;obtain⟨O,_,s3⟩:=Reg.bW l1 z z z z;have sk:=s3 _ _ N I I I I;have sl:=Reg.vQ (K:=1200000) O sk;have S_:=mL D O (ks.up (by omega)) (sk.up (by omega)) (by omega);refine⟨_,_,(Dv (told s) J (by omega)),_,_,(vS (dy (told s)) n (sW (by unfold RK at V ⊢;omega) U) z (by omega)),_,_,Z,_,_,S9,_,_,S_,?_,trivial⟩;rw[Reg.xT,aaa (fun c=>J (adj.1 c)),Reg.wZ D R z];have e2:Reg.bR ((told (bN (aB [ff (dy (told s)) n]) s)).map fun q=>ff q n)=told (a_ (bN (aB [ff (dy (told s)) n]) s) n n n n):=rfl;rw[e2,Reg.FC D O]
open Reg (aU)
theorem ahs{y:ByteArray}(h:lh y=true):y≠M4:=by
 rintro rfl;exact absurd h (by decide)
theorem agB{r:cP}(D:zd r){c:Class}(I:c∈r.classes)(x:ByteArray):(hasB c.nets x&&!decide (x=M4))=hasB c.nets x:=by
 by_cases z:x=M4
 ·have:hasB c.nets x=false:=by
   rw[aaV];exact fun h=>ahs ((D.cl c I).2.2.1 x (Et.1 h)) z
  rw[this];rfl
 rw[aaC z];simp
theorem af6(r:cP)(I:zd r)(x:ByteArray):af C 148 [.pv (.ag (rl r)),.pv (str x)] (.p (.ag (kl (aeR r.classes x)))) []:=by
 refine fW hC Tryz.func148 rfl (by kernel_rfl) fun _=>?_;have lm:=ai r.classes kl;have nc:=I.nc;refine aJ (fun i:Nat=>i<=r.classes.length/\∀c∈r.classes.take i,(hasB c.nets x&&!decide (x=M4))=false) (fun i=>[(1,.p (str x)),(2,.bx 2 0),(4,.bx 4 0),(5,.p (i64 i))]) (fun _=>[(2,.box (C_ r)),(4,.box [.p (str M4),.nl,.p (i64 0),.p (i64 0)])]) (fun i=>r.classes.length-i) 0 _ (au.refl _ _) ⟨aaj _,by simp⟩ ⟨Z,Z,Z,Z,Y⟩ ⟨Z,Z,Y⟩ fun i hi t h=>?_;obtain⟨q1,J⟩:=hi;apply iW<;>intro h1
 ·obtain⟨c,D⟩:=ak (l:=r.classes) (i:=i) (by omega);have L:=aad D;obtain⟨c1,c2,c3,c4,c5⟩:=I.cl c L;refine⟨(kl c),(idx rfl D),_,_,(Eu c.nets x (by omega)),iW ?_ ?_⟩<;>intro N
  ·refine⟨(kl c),(idx rfl D),?_,trivial⟩;rw[aeR,agQ D (by rw[agB I L,N]) J];rfl
  refine⟨wO (by omega),(i+1),_,au.refl _ _,⟨by omega,fun d z=>?_⟩,by omega,⟨Z,Z,Z,Z,Y⟩,⟨Z,Z,Y⟩⟩;rw[aZ D,abi,ab_]at z;rcases z with z | z
  ·exact J d z
  rw[z,agB I L];simpa using N
 have e:i=r.classes.length:=by omega
 refine⟨?_,trivial⟩;rw[e,acB]at J;rw[aeR,acf.2 (fun y O=>by rw[J y O];decide)];rfl
theorem afF(r:cP)(D:zd r)(x:ByteArray):af C 146 [.pv (.ag (rl r)),.pv (str x)] (.p (i64 (ae2 r x))) []:=by
 refine fW hC Tryz.func146 rfl (by kernel_rfl) fun _=>?_;refine⟨_,_,(af6 r D x),iW ?_ ?_⟩<;>intro z
 ·refine⟨?_,trivial⟩;rw[ae2,aap z]
 refine⟨?_,trivial⟩;rw[ae2,aaa z]
theorem agp(r:cP)(D:zd r)(x:ByteArray):af C 68 [.pv (.ag (rl r)),.pv (str x)] (.p (i64 (E3 r x))) []:=by
 refine fW hC Tryz.func68 rfl (by kernel_rfl) fun _=>?_;refine⟨_,_,(af6 r D x),iW ?_ ?_⟩<;>intro z
 ·refine⟨?_,trivial⟩;rw[E3,aap z]
 refine⟨?_,trivial⟩;rw[E3,aaa z]
theorem agq(s:ByteArray)(I:ue s):af C 140 [.pv (str s)] (.p (bool (afe s))) []:=by
 have D:s.size<4294967281:=I;refine fW hC Tryz.func140 rfl (by kernel_rfl) fun _=>?_;apply iW<;>intro z
 ·have z:s=M4:=by simpa [M4] using z
  refine⟨?_,trivial⟩;rw[afe,aaA z];rfl
 have z:¬s=M4:=by simpa [M4] using z
 refine⟨_,_,(wH s D),?_,trivial⟩;rw[afe,aaC z,abv]
end M
end Go.Proofs.YtfloceomobknoaaGreatDoor
