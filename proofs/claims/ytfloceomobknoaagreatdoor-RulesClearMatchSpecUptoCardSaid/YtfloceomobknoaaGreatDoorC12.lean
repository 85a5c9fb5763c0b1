/- Part 12 of the proof of RulesClearMatchSpec. -/
import Derived.Test.YtfloceomobknoaaGreatDoorC11
set_option linter.unusedVariables false
set_option linter.unusedSimpArgs false
set_option maxRecDepth 100000
set_option maxHeartbeats 8000000
namespace Go
abbrev aeg:=@List.Nodup.length_le_of_subset
abbrev adj:=@List.length_pos_iff
abbrev adO:=@List.Pairwise.imp
abbrev adk:=@List.filter_map
abbrev aeh:=@List.filter_congr
end Go
namespace Go.Proofs.YtfloceomobknoaaGreatDoor
namespace Reg
structure HL(E:List (Nat×Nat))(u:List Int):Prop where
 uf:UF u
 edge:∀e∈E,e.1<u.length/\e.2<u.length/\kU u e.1 e.2
 cl:∀S:Nat->Prop,(∀e∈E,S e.1↔S e.2)->∀i k,kU u i k->(S i↔S k)
theorem Fz(n:Nat):HL [] (iota n):=
 ⟨ny n,fun e he=>(by cases he),fun S _ i k ⟨r,h1,h2⟩=>by rw[BI h1,BI h2]⟩
theorem FA{E:List (Nat×Nat)}{u:List Int}(h:HL E u){i k:Nat}(hi:i<u.length)(hk:k<u.length):HL (E++[(i,k)]) (gj u i k):=by
 have a:=fU i u i h.uf hi (aam _);have b:=fU k (cw i u i).1 k a.uf (by rw[a.len];exact hk) (aam _);have s1:∀m q,eh (cw k (cw i u i).1 k).1 m q↔eh u m q:=fun m q=>(b.same m q).trans (a.same m q);have ra:=(s1 _ _).2 a.root;have rb:=(b.same _ _).2 b.root;have ss:=fun p q=>PI s1 p q;have len:(cw k (cw i u i).1 k).1.length=u.length:=by rw[b.len,a.len]
 have J:∀p q,p<u.length->q<u.length->(kU (gj u i k) p q↔kU u p q\/(kU u p i/\kU u q k)\/(kU u p k/\kU u q i)):=fun p q hp hq=>by
  rw[gj,KI b.uf ra rb (by rw[len];exact hp) (by rw[len];exact hq),ss,ss,ss,ss,ss]
 obtain⟨j1,j2⟩:=mC h.uf hi hk;have self:∀m,m<u.length->kU u m m:=fun m hm=>by
  obtain⟨r,hr⟩:=h.uf.root m hm;exact⟨r,hr,hr⟩
 refine⟨j1,fun e he=>?_,fun S hS p q hs=>?_⟩
 ·rw[j2];rcases abi.1 he with he | he
  ·obtain⟨e1,e2,e3⟩:=h.edge e he;exact⟨e1,e2,(J _ _ e1 e2).2 (.inl e3)⟩
  rw[ab_.1 he];exact⟨hi,hk,(J _ _ hi hk).2 (.inr (.inl ⟨self i hi,self k hk⟩))⟩
 obtain⟨r,RO,iO⟩:=id hs;have hp:=RO.lt;have hq:=iO.lt;rw[j2]at hp hq;have c:=h.cl S fun e he=>hS e (abY _ he);have O8:S i↔S k:=hS (i,k) (adt _ (ab_.2 rfl));rcases (J p q hp hq).1 hs with g | ⟨g1,g2⟩ | ⟨g1,g2⟩
 ·exact c p q g
 ·exact (c p i g1).trans (O8.trans (c q k g2).symm)
 exact (c p k g1).trans (O8.symm.trans (c q i g2).symm)
def mW(q:Nat->Bool)(s:List Bool×List Nat)(k:Nat):List Bool×List Nat:=if s.1.getD k true=false/\q k=true then (s.1.set k true,s.2++[k]) else s
def pE(q:Nat->Bool)(n:Nat)(s:List Bool×List Nat):List Bool×List Nat:=(List.range n).foldl (mW q) s
def kL(q:Nat->Nat->Bool)(n:Nat):Nat->Nat->List Bool×List Nat->List Bool×List Nat
 | 0,_,s=>s
 | f+1,i,s=>if i<s.2.length then kL q n f (i+1) (pE (q (s.2.getD i 0)) n s) else s
def mK(q:Nat->Nat->Bool)(n:Nat)(s:List Bool×List (List Nat))(i:Nat):List Bool×List (List Nat):=
 if s.1.getD i true=true then s else ((kL q n n 0 (s.1.set i true,[i])).1,s.2++[(kL q n n 0 (s.1.set i true,[i])).2])
def NI(q:Nat->Nat->Bool)(n:Nat):List (List Nat):=((List.range n).foldl (mK q n) (List.replicate n false,[])).2
structure qR(n:Nat)(D0:List Bool)(s:List Bool×List Nat):Prop where
 len:s.1.length=n
 nod:s.2.Nodup
 mem:∀k∈s.2,k<n/\D0.getD k true=false
 done:∀k,k<n->(s.1.getD k true=true↔D0.getD k true=true\/k∈s.2)
variable {D0:List Bool}
theorem qR.le{n:Nat}{s:List Bool×List Nat}(h:qR n D0 s):s.2.length<=n:=by
 have:=aeg h.nod (l₂:=List.range n) fun k hk=>abD.2 (h.mem k hk).1;simpa using this
theorem jx{l:List Bool}{k j:Nat}(hk:k<l.length):(l.set k true).getD j true=if j=k then true else l.getD j true:=by
 rw[ad4,ew hk,ad4];split<;>rfl
theorem Jf{n:Nat}{q:Nat->Bool}{s:List Bool×List Nat}(h:qR n D0 s){k:Nat}(hk:k<n):
  qR n D0 (mW q s k)/\(∀x,x∈(mW q s k).2↔x∈s.2\/(x=k/\q k=true/\D0.getD k true=false))/\(∃t,(mW q s k).2=s.2++t):=by
 rw[mW];by_cases c:s.1.getD k true=false/\q k=true
 ·rw[aap c];have h1:¬(D0.getD k true=true\/k∈s.2):=fun g=>by
   have:=(h.done k hk).2 g;rw[c.1]at this;cases this
  have h2:D0.getD k true=false:=by
   cases e:D0.getD k true with
   | false=>rfl
   | true=>exact absurd (.inl e) h1
  refine⟨⟨by show (s.1.set k true).length=n;rw[aaM,h.len],?_,fun x hx=>?_,fun x hx=>?_⟩,fun x=>?_,[k],rfl⟩
  ·show (s.2++[k]).Nodup;rw[aef];refine⟨h.nod,by simp,fun a ha b hb=>?_⟩;rw[ab_.1 hb];exact fun e=>h1 (.inr (e▸ha))
  ·rcases abi.1 hx with hx | hx
   ·exact h.mem x hx
   rw[ab_.1 hx];exact⟨hk,h2⟩
  ·show (s.1.set k true).getD x true=true↔_;rw[jx (by rw[h.len];exact hk)];by_cases e:x=k
   ·rw[aap e];exact⟨fun _=>.inr (adt _ (ab_.2 e)),fun _=>rfl⟩
   rw[aaa e,h.done x hx];constructor
   ·rintro (g | g)
    ·exact .inl g
    exact .inr (abY _ g)
   rintro (g | g)
   ·exact .inl g
   rcases abi.1 g with g | g
   ·exact .inr g
   exact absurd (ab_.1 g) e
  show x∈s.2++[k]↔_;rw[abi,ab_];exact⟨fun g=>g.elim .inl fun e=>.inr ⟨e,c.2,h2⟩,fun g=>g.elim .inl fun e=>.inr e.1⟩
 rw[aaa c];refine⟨h,fun x=>⟨.inl,fun g=>g.elim id fun ⟨e,h1,h2⟩=>?_⟩,[],by simp⟩;subst e;cases e:s.1.getD x true with
 | false=>exact absurd ⟨e,h1⟩ c
 | true=>
  rcases (h.done x hk).1 e with g | g
  ·rw[h2]at g;cases g
  exact g
theorem vP{n:Nat}{q:Nat->Bool}:∀(l:List Nat) (s:List Bool×List Nat),qR n D0 s->(∀k∈l,k<n)->
  qR n D0 (l.foldl (mW q) s)/\(∀x,x∈(l.foldl (mW q) s).2↔x∈s.2\/(x∈l/\q x=true/\D0.getD x true=false))/\(∃t,(l.foldl (mW q) s).2=s.2++t)
 | [],s,h,_=>⟨h,fun x=>by simp,[],by simp⟩
 | k::l,s,h,hl=>by
  obtain⟨a1,a2,t,a3⟩:=Jf (q:=q) h (hl k adU);obtain⟨b1,b2,v,b3⟩:=vP l _ a1 fun x hx=>hl x (aaw _ hx);refine⟨b1,fun x=>?_,t++v,?_⟩
  ·show x∈(l.foldl (mW q) (mW q s k)).2↔_;rw[b2,a2,adq];constructor
   ·rintro ((g | ⟨rfl,g⟩) | ⟨g,g2⟩)
    ·exact .inl g
    ·exact .inr ⟨.inl rfl,g⟩
    exact .inr ⟨.inr g,g2⟩
   rintro (g | ⟨rfl | g,g2⟩)
   ·exact .inl (.inl g)
   ·exact .inl (.inr ⟨rfl,g2⟩)
   exact .inr ⟨g,g2⟩
  show (l.foldl (mW q) (mW q s k)).2=_;rw[b3,a3,abx]
structure Ym(p:Nat->Nat)(q:Nat->Nat->Bool)(n:Nat):Prop where
 tops:Dg p n
 edge:∀a b,a<n->b<n->q a b=true->p a=p b
 cl:∀S:Nat->Prop,(∀a b,a<n->b<n->S a->q a b=true->S b)->∀k,k<n->S (p k)->S k
theorem Jg{p:Nat->Nat}{q:Nat->Nat->Bool}{n:Nat}(hc:Ym p q n){r:Nat}(hr:r<n)(hd:∀k,k<n->p k=r->D0.getD k true=false):
  ∀(f i:Nat) (s:List Bool×List Nat),qR n D0 s->n<=f+i->r∈s.2->(∀k∈s.2,p k=r)->(∀j,j<i->j<s.2.length->∀b,b<n->q (s.2.getD j 0) b=true->b∈s.2)->
   qR n D0 (kL q n f i s)/\∀k,k∈(kL q n f i s).2↔k<n/\p k=r
 | f,i,s,h,hf,h0,h1,h2=>by
  have fin:s.2.length<=i->qR n D0 s/\∀k,k∈s.2↔k<n/\p k=r:=fun hi=>by
   refine⟨h,fun k=>⟨fun hk=>⟨(h.mem k hk).1,h1 k hk⟩,fun ⟨hk,e⟩=>?_⟩⟩;refine hc.cl (fun x=>x∈s.2) (fun a b ha hb hm hq=>?_) k hk (by rw[e];exact h0);obtain⟨j,hj⟩:=ab8.1 hm;obtain⟨j1,j2⟩:=aao.1 hj;exact h2 j (by omega) j1 b hb (by rw[ad4,hj];exact hq)
  match f,hf with
  | 0,hf=>exact fin (by have:=h.le;omega)
  | f+1,hf=>
   rw[kL];by_cases c:i<s.2.length
   ·rw[aap c];have hx:s.2[i]?=some s.2[i]:=acg c;have ex:s.2.getD i 0=s.2[i]:=by rw[ad4,hx];rfl
    have hm:s.2[i]∈s.2:=adn c;obtain⟨b1,b2,t,b3⟩:=vP (q:=q (s.2.getD i 0)) (List.range n) s h fun k hk=>abD.1 hk;refine Jg hc hr hd f (i+1) _ b1 (by omega) ((b2 r).2 (.inl h0)) (fun k hk=>?_) (fun j hj hl b hb hq=>?_)
    ·rcases (b2 k).1 hk with g | ⟨g1,g2,_⟩
     ·exact h1 k g
     rw[ex]at g2;rw[<-hc.edge _ _ (h.mem _ hm).1 (abD.1 g1) g2];exact h1 _ hm
    have e3:(pE (q (s.2.getD i 0)) n s).2=s.2++t:=b3;have sw:j<s.2.length:=by omega
    rw[e3,ad4,aaE sw,<-ad4]at hq;refine (b2 b).2 ?_;by_cases e:j=i
    ·subst e;refine .inr ⟨abD.2 hb,hq,hd b hb ?_⟩;rw[ex]at hq;rw[<-hc.edge _ _ (h.mem _ hm).1 hb hq];exact h1 _ hm
    exact .inl (h2 j (by omega) sw b hb hq)
   rw[aaa c];exact fin (by omega)
theorem rF{p:Nat->Nat}{q:Nat->Nat->Bool}{n:Nat}(hc:Ym p q n):∀i,i<=n ->
  ((List.range i).foldl (mK q n) (List.replicate n false,[])).1.length=n /\
  (∀k,k<n->(((List.range i).foldl (mK q n) (List.replicate n false,[])).1.getD k true=true↔p k<i))/\
  ∃M:Nat->List Nat,((List.range i).foldl (mK q n) (List.replicate n false,[])).2=(cd p i).map M/\∀r∈cd p i,∀k,k∈M r↔k<n/\p k=r
 | 0,_=>by
  refine⟨by simp,fun k hk=>?_,fun _=>[],rfl,fun r hr=>?_⟩
  ·simp[ad4,hk]
  cases hr
 | i+1,hi=>by
  obtain⟨l1,d1,M,m1,m2⟩:=rF hc i (by omega);rw[ac2,aaD];generalize (List.range i).foldl (mK q n) (List.replicate n false,[])=s at l1 d1 m1 ⊢;simp only[aaq,List.foldl_nil];have tp:=hc.tops.le i (by omega);rw[fE];by_cases c:p i=i
  ·have hd:s.1.getD i true=false:=by
    cases e:s.1.getD i true with
    | false=>rfl
    | true=>have:=(d1 i (by omega)).1 e;omega
   have e0:(mK q n s i)=((kL q n n 0 (s.1.set i true,[i])).1,s.2++[(kL q n n 0 (s.1.set i true,[i])).2]):=by
    rw[mK,aaa (by rw[hd];simp)]
   obtain⟨b1,b2⟩:=Jg hc (D0:=s.1) (r:=i) (by omega) (fun k hk e=>by
     cases g:s.1.getD k true with
     | false=>rfl
     | true=>have:=(d1 k hk).1 g;omega) n 0 (s.1.set i true,[i])
    ⟨by show (s.1.set i true).length=n;rw[aaM,l1],by simp,fun k hk=>by rw[ab_.1 hk];exact⟨by omega,hd⟩,fun k hk=>by
     show (s.1.set i true).getD k true=true↔_;rw[jx (by rw[l1];omega),ab_];by_cases e:k=i<;>simp[e]⟩ (by omega) (by simp) (fun k hk=>by rw[ab_.1 hk];exact c) (fun j hj=>by omega)
   rw[aap c,e0];refine⟨b1.len,fun k hk=>?_,fun r=>if r=i then (kL q n n 0 (s.1.set i true,[i])).2 else M r,?_,fun r hr k=>?_⟩
   ·rw[b1.done k hk,d1 k hk,b2 k];constructor
    ·rintro (g | g)<;>omega
    intro g;by_cases e:p k=i
    ·exact .inr ⟨hk,e⟩
    exact .inl (by omega)
   ·show s.2++_=_;rw[m1,abE];congr 1
    ·refine aaG fun r hr=>?_;rw[aaa (by have:=(mem_keys.1 hr).1;omega)]
    simp
   show k∈(if r=i then _ else _)↔_;by_cases e:r=i
   ·rw[aap e,e];exact b2 k
   rw[aaa e];refine m2 r ?_ k;rcases abi.1 hr with g | g
   ·exact g
   exact absurd (ab_.1 g) e
  have hd:s.1.getD i true=true:=(d1 i (by omega)).2 (by omega);rw[aaa c,mK,aap hd];refine⟨l1,fun k hk=>?_,M,m1,m2⟩;rw[d1 k hk];constructor
  ·intro g;omega
  intro g;by_cases e:p k=i
  ·have:=hc.tops.top k hk;rw[e]at this;exact absurd this c
  omega
def dN(a b:ae):Int:=min a.x1 b.x1-max a.x0 b.x0
def dO(a b:ae):Int:=min a.y1 b.y1-max a.y0 b.y0
def en(a b:ae):Bool:=(decide (0<dN a b)&&decide (0<=dO a b))||(decide (0<=dN a b)&&decide (0<dO a b))
theorem jY{a b:ae}:en a b=true↔(0<dN a b/\0<=dO a b)\/(0<=dN a b/\0<dO a b):=by simp[en]
theorem zN(a b:ae):en a b=en b a:=by
 have h1:dN a b=dN b a:=by simp only[dN];omega
 have h2:dO a b=dO b a:=by simp only[dO];omega
 rw[en,en,h1,h2]
theorem wX:∀{s:aU},Canon s->s.Pairwise fun p q=>p.2<q.1
 | [],_=>List.Pairwise.nil
 | _::_,h=>ade.2 ⟨h.behind,wX h.tail⟩
theorem rG{a b:ae}:kK a b=true↔a.x0<b.x1/\b.x0<a.x1:=by simp[kK]
theorem zO(all:List ae){g f e:Nat}(hA:∀a b,g<=a->a<b->b<f->(all.getD a bg).x1<(all.getD b bg).x0)(hB:∀a b,f<=a->a<b->b<e->(all.getD a bg).x1<(all.getD b bg).x0):
  ∀(n:Nat) (u:List Int) (i j:Nat) (E:List (Nat×Nat)),g<=i->f<=j->f<=u.length->e<=u.length->(f-i)+(e-j)<=n->HL E u ->
   ∃D,HL (E++D) (ov all f e n u i j)/\(∀c∈D,(i<=c.1/\c.1<f)/\(j<=c.2/\c.2<e)/\kK (all.getD c.1 bg) (all.getD c.2 bg)=true)/\
    ∀a b,i<=a->a<f->j<=b->b<e->kK (all.getD a bg) (all.getD b bg)=true->(a,b)∈D
 | 0,u,i,j,E,_,_,_,_,hn,h=>⟨[],by rw[acw];exact h,fun c hc=>(by cases hc),fun a b h1 h2=>by omega⟩
 | n+1,u,i,j,E,hi,hj,hf,he,hn,h=>by
  rw[ov];by_cases c:i<f/\j<e
  ·rw[aap c];obtain⟨D,d1,d2,d3,d4⟩:∃D,HL (E++D) (if kK (all.getD i bg) (all.getD j bg)=true then gj u i j else u)/\(∀c∈D,c=(i,j)/\kK (all.getD i bg) (all.getD j bg)=true)/\
     (kK (all.getD i bg) (all.getD j bg)=true->(i,j)∈D)/\(if kK (all.getD i bg) (all.getD j bg)=true then gj u i j else u).length=u.length:=by
    by_cases o:kK (all.getD i bg) (all.getD j bg)=true
    ·rw[aap o];exact⟨[(i,j)],FA h (by omega) (by omega),fun c hc=>⟨ab_.1 hc,o⟩,fun _=>ab_.2 rfl,(mC h.uf (by omega) (by omega)).2⟩
    rw[aaa o];exact⟨[],by rw[acw];exact h,fun c hc=>(by cases hc),fun x=>absurd x o,rfl⟩
   generalize (if kK (all.getD i bg) (all.getD j bg)=true then gj u i j else u)=v at d1 d4 ⊢;by_cases x:(all.getD i bg).x1<(all.getD j bg).x1
   ·rw[aap x,aap x];obtain⟨D',e1,e2,e3⟩:=zO all hA hB n v (i+1) j (E++D) (by omega) hj (by omega) (by omega) (by omega) d1;refine⟨D++D',by rw[<-abx];exact e1,fun k hk=>?_,fun a b h1 h2 h3 h4 o=>?_⟩
    ·rcases abi.1 hk with hk | hk
     ·obtain⟨rfl,o⟩:=d2 k hk;exact⟨⟨aam _,c.1⟩,⟨aam _,c.2⟩,o⟩
     obtain⟨⟨a1,a2⟩,a3,a4⟩:=e2 k hk;exact⟨⟨by omega,a2⟩,a3,a4⟩
    by_cases ea:a=i
    ·subst ea;by_cases eb:b=j
     ·subst eb;exact abY _ (d3 o)
     have:=hB j b hj (by omega) h4;have:=rG.1 o;omega
    exact adt _ (e3 a b (by omega) h2 h3 h4 o)
   rw[aaa x,aaa x];obtain⟨D',e1,e2,e3⟩:=zO all hA hB n v i (j+1) (E++D) hi (by omega) (by omega) (by omega) (by omega) d1;refine⟨D++D',by rw[<-abx];exact e1,fun k hk=>?_,fun a b h1 h2 h3 h4 o=>?_⟩
   ·rcases abi.1 hk with hk | hk
    ·obtain⟨rfl,o⟩:=d2 k hk;exact⟨⟨aam _,c.1⟩,⟨aam _,c.2⟩,o⟩
    obtain⟨a1,⟨a2,a3⟩,a4⟩:=e2 k hk;exact⟨a1,⟨by omega,a3⟩,a4⟩
   by_cases eb:b=j
   ·subst eb;by_cases ea:a=i
    ·subst ea;exact abY _ (d3 o)
    have:=hA i a hi (by omega) h2;have:=rG.1 o;omega
   exact adt _ (e3 a b h1 h2 (by omega) h4 o)
  rw[aaa c];exact⟨[],by rw[acw];exact h,fun c hc=>(by cases hc),fun a b h1 h2 h3 h4=>by omega⟩
def Dr(all:List ae)(f:Nat)(b:an):Prop:=∀m,m<b.xs.length->∃p,b.xs[m]?=some p/\all.getD (f+m) bg=⟨p.1,b.y0,p.2,b.y1⟩
variable {all:List ae} {s:List an}
theorem KX{f:Nat}{b:an}(h:all.drop f=told (b::s)):Dr all f b:=fun m hm=>by
 have e:told (b::s)=b.xs.map (fun p=>(⟨p.1,b.y0,p.2,b.y1⟩:ae))++told s:=by simp[told]
 refine⟨b.xs[m],acg hm,?_⟩;rw[ad4,<-aas,h,e,aaE (by simpa using hm),aak,acg hm];rfl
theorem zP{f:Nat}{b:an}(h:Dr all f b)(hc:Canon b.xs):∀i j,f<=i->i<j->j<f+b.xs.length->(all.getD i bg).x1<(all.getD j bg).x0:=fun i j h1 h2 h3=>by
 obtain⟨p,p1,p2⟩:=h (i-f) (by omega);obtain⟨q,q1,q2⟩:=h (j-f) (by omega);rw[show f+(i-f)=i by omega]at p2;rw[show f+(j-f)=j by omega]at q2;rw[p2,q2];obtain⟨a1,a2⟩:=aao.1 p1;obtain⟨b1,b2⟩:=aao.1 q1;have:=aaS.1 (wX hc) (i-f) (j-f) a1 b1 (by omega);rw[a2,b2]at this;exact this
theorem oz{f:Nat}{b:an}(h:Dr all f b)(hc:Canon b.xs){i:Nat}(h1:f<=i)(h2:i<f+b.xs.length):(all.getD i bg).y0=b.y0/\(all.getD i bg).y1=b.y1/\(all.getD i bg).x0<(all.getD i bg).x1:=by
 obtain⟨p,p1,p2⟩:=h (i-f) (by omega);rw[show f+(i-f)=i by omega]at p2;rw[p2];exact⟨rfl,rfl,ga hc p (aad p1)⟩
theorem BV(all:List ae):∀(s:List an) (p:Option an) (u:List Int) (f g:Nat) (E:List (Nat×Nat)),bE s->u.length=all.length->all.drop f=told s->HL E u ->
  (∀q,p=some q->bE (q::s)/\f=g+q.xs.length/\Dr all g q)->(p=none->f=g)->(∀a,a<g->∀t∈s,(all.getD a bg).y1<t.y0)->
   ∃D,HL (E++D) (pW all p s u f g)/\(∀c∈D,en (all.getD c.1 bg) (all.getD c.2 bg)=true)/\∀a b,f<=b->b<all.length->a<b->en (all.getD a bg) (all.getD b bg)=true->(a,b)∈D
 | [],p,u,f,g,E,hs,hl,hd,h,hp,hn,S4=>by
  refine⟨[],by rw[acw];exact h,fun c hc=>(by cases hc),fun a b h1 h2=>?_⟩;have:=adV List.length hd;simp[told]at this;omega
 | b::s,p,u,f,g,E,hs,hl,hd,h,hp,hn,S4=>by
  have hb:=hs.head;have ba:=KX hd;have el:(told (b::s)).length=b.xs.length+(told s).length:=by simp[told]
  have hfl:f+b.xs.length<=all.length:=by
   have:=adV List.length hd;rw[aaN,el]at this;have b8:=hb.lt;rcases aen all.length f with g1 | g1
   ·have:b.xs.length=0:=by omega
    exact absurd (adN.1 this) hb.ne
   omega
  have Qp:all.drop (f+b.xs.length)=told s:=by
   have e:told (b::s)=b.xs.map (fun p=>(⟨p.1,b.y0,p.2,b.y1⟩:ae))++told s:=by simp[told]
   rw[<-ad7,hd,e,List.drop_append_of_le_length (by simp),ab1 (by simp),acZ]
  rw[pW];obtain⟨D,d1,d2,d3,d4⟩:∃D,HL (E++D) (if meets p b=true then ov all f (f+b.xs.length) (f-g+b.xs.length) u g f else u)/\(∀c∈D,en (all.getD c.1 bg) (all.getD c.2 bg)=true)/\
    (∀x y,g<=x->x<f->f<=y->y<f+b.xs.length->en (all.getD x bg) (all.getD y bg)=true->(x,y)∈D)/\(if meets p b=true then ov all f (f+b.xs.length) (f-g+b.xs.length) u g f else u).length=u.length:=by
   cases p with
   | none=>
    have:=hn rfl;exact⟨[],by rw[acw];exact h,fun c hc=>(by cases hc),fun x y h1 h2=>by omega,rfl⟩
   | some q=>
    obtain⟨q1,q2,q3⟩:=hp q rfl;have hq:=q1.head;have qb:=q1.fM b adU;have oF:=hq.lt;have JC:=hb.lt;have ty:∀x y,g<=x->x<f->f<=y->y<f+b.xs.length->dO (all.getD x bg) (all.getD y bg)=q.y1-b.y0:=fun x y h1 h2 h3 h4=>by
     obtain⟨a1,a2,_⟩:=oz q3 hq.can h1 (by omega);obtain⟨b1,b2,_⟩:=oz ba hb.can h3 h4;simp only[dO,a1,a2,b1,b2];omega
    by_cases m:meets (some q) b=true
    ·rw[aap m];have m:q.y1=b.y0:=adw m;obtain⟨D,e1,e2,e3⟩:=zO all (g:=g) (f:=f) (e:=f+b.xs.length) (by rw[q2];exact zP q3 hq.can) (zP ba hb.can) (f-g+b.xs.length) u g f E (aam _) (aam _) (by omega) (by omega) (by omega) h;refine⟨D,e1,fun c hc=>?_,fun x y h1 h2 h3 h4 ht=>?_,(xP all f _ _ u g f h.uf (by omega) (by omega)).2⟩
     ·obtain⟨⟨c1,c2⟩,⟨c3,c4⟩,o⟩:=e2 c hc;have o:=rG.1 o;have y:=ty _ _ c1 c2 c3 c4;obtain⟨_,_,a3⟩:=oz q3 hq.can c1 (by omega);obtain⟨_,_,b3⟩:=oz ba hb.can c3 c4;exact jY.2 (.inl ⟨by simp only[dN];omega,by omega⟩)
     have y:=ty _ _ h1 h2 h3 h4;refine e3 x _ h1 h2 h3 h4 (rG.2 ?_);rcases jY.1 ht with⟨t1,t2⟩ | ⟨t1,t2⟩
     ·simp only[dN]at t1;omega
     omega
    rw[aaa m];have m:¬q.y1=b.y0:=fun e=>m (acd e);refine⟨[],by rw[acw];exact h,fun c hc=>(by cases hc),fun x y h1 h2 h3 h4 ht=>?_,rfl⟩;have y:=ty _ _ h1 h2 h3 h4;rcases jY.1 ht with⟨t1,t2⟩ | ⟨t1,t2⟩<;>omega
  generalize (if meets p b=true then ov all f (f+b.xs.length) (f-g+b.xs.length) u g f else u)=v at d1 d4 ⊢;have Yn:∀a,a<f->∀t∈s,(all.getD a bg).y1<t.y0:=fun a ha t ht=>by
   have h1:=hs.fM t ht;have h2:=hb.lt;rcases aen a g with c | c
   ·have:=S4 a c b adU;omega
   cases p with
   | none=>have:=hn rfl;omega
   | some q=>
    obtain⟨q1,q2,q3⟩:=hp q rfl;have h3:=q1.fM b adU;obtain⟨_,a2,_⟩:=oz q3 q1.head.can c (by omega);omega
  obtain⟨D',e1,e2,e3⟩:=BV all s (some b) v (f+b.xs.length) f (E++D) hs.tail (by omega) Qp d1 (fun q hq=>by injection hq with hq;subst hq;exact⟨hs,rfl,ba⟩) (fun x=>by cases x) Yn;refine⟨D++D',by rw[<-abx];exact e1,fun c hc=>?_,fun x y h1 h2 h3 ht=>?_⟩
  ·rcases abi.1 hc with hc | hc
   ·exact d2 c hc
   exact e2 c hc
  rcases aen y (f+b.xs.length) with c | c
  ·obtain⟨b1,b2,b3⟩:=oz ba hb.can h1 c;rcases aen x g with c2 | c2
   ·have l:=S4 x c2 b adU;rcases jY.1 ht with⟨t1,t2⟩ | ⟨t1,t2⟩<;>simp only[dO]at t2<;>omega
   rcases aen x f with c3 | c3
   ·exact abY _ (d3 x y c2 c3 h1 c ht)
   have l:=zP ba hb.can x y c3 h3 c;rcases jY.1 ht with⟨t1,t2⟩ | ⟨t1,t2⟩<;>simp only[dN]at t1<;>omega
  exact adt _ (e3 x y c h2 h3 ht)
def cN(r:List ae)(a b:Nat):Bool:=en (r.getD a bg) (r.getD b bg)
theorem FB(h:bE s):Ym (cQ (jE s)) (cN (told s)) (told s).length:=by
 obtain⟨D,d1,d2,d3⟩:=BV (told s) s none (iota (told s).length) 0 0 [] h (aeM _) rfl (Fz _) (fun q hq=>by cases hq) (fun _=>rfl) (fun a ha=>by omega);have d1:HL D (jE s):=d1;have len:=(zv s).2;have tp:=rz d1.uf;rw[len]at tp;refine⟨tp,fun a b ha hb hq=>?_,fun S hS k hk hp=>?_⟩
 ·rcases ada a b with c | c | c
  ·exact (ae8 d1.uf (by omega) (by omega)).1 (d1.edge _ (d3 a b (by omega) hb c hq)).2.2
  ·rw[c]
  rw[cN,zN]at hq;exact ((ae8 d1.uf (by omega) (by omega)).1 (d1.edge _ (d3 b a (by omega) ha c hq)).2.2).symm
 refine (d1.cl S (fun e he=>?_) (cQ (jE s) k) k ?_).1 hp
 ·obtain⟨l1,l2,_⟩:=d1.edge e he;have ht:=d2 e he;exact⟨fun g=>hS _ _ (by omega) (by omega) g ht,fun g=>hS _ _ (by omega) (by omega) g (by rw[cN,zN];exact ht)⟩
 have:=tp.le k hk;exact (ae8 d1.uf (by omega) (by omega)).2 (tp.top k hk)
theorem HM{l m:List ae}(hl:∀r∈l,Full r)(h:∀r,r∈l↔r∈m):aB l=aB m:=by
 obtain⟨a1,a2,_⟩:=aR hl;obtain⟨b1,b2,_⟩:=aR (l:=m) fun r hr=>hl r ((h r).2 hr);refine iK _ _ a1 b1 fun x y=>?_;rw[a2,b2,abb,aci,aci];exact⟨fun ⟨r,h1,h2⟩=>⟨r,(h r).1 h1,h2⟩,fun ⟨r,h1,h2⟩=>⟨r,(h r).2 h1,h2⟩⟩
def Jh(r:List ae):List (List ae):=(NI (cN r) r.length).map fun L=>bR (L.map fun k=>r.getD k bg)
theorem Ds(h:bE s):Jh (told s)=(cV s).map told:=by
 have hc:=FB h;obtain⟨_,_,M,m1,m2⟩:=rF hc (told s).length (aam _);rw[Jh,NI,m1,cV,ox,aP,ad6,ad6,ad6,ad6];refine aaG fun r hr=>?_;show told (aB _)=told (aB _);have fl:=bP h;have hm:=m2 r hr;rw[HM]
 ·intro q hq;obtain⟨k,hk,rfl⟩:=adS.1 hq;have:=((hm k).1 hk).1;exact fl _ (by rw[ad4,acg this];exact adn this)
 intro q;simp only[adS];constructor
 ·rintro⟨k,hk,e⟩;exact⟨k,dx.2 ((hm k).1 hk),e⟩
 rintro⟨k,hk,e⟩;exact⟨k,(hm k).2 (dx.1 hk),e⟩
def dD(l:List ae):ae:=l.getD 0 bg
def kX(x:ae)(l:List (List ae)):Nat->Nat
 | 0=>0
 | k+1=>if before x (dD (l.getD k []))=true then kX x l k else k+1
def zQ(l:List (List ae))(r:List ae):List (List ae):=(l.take (kX (dD r) l l.length)++[r])++l.drop (kX (dD r) l l.length)
theorem NJ{l:List (List ae)}{r:List ae}(h:∀t,l.getLast?=some t->before (dD r) (dD t)=false):zQ l r=l++[r]:=by
 have e:kX (dD r) l l.length=l.length:=by
  cases hn:l.length with
  | zero=>rfl
  | succ k=>
   rw[kX];have hk:l[k]?=some l[k]:=acg (by omega);rw[aaa];rw[ad4,hk];have:=h l[k] (by rw[acB,show l.length-1=k by omega];exact hk);simp only[acy,this];simp
 rw[zQ,e,abU,List.drop_length,acw]
def nN(r:List ae)(s:List Bool×List (List ae))(i:Nat):List Bool×List (List ae):=
 if s.1.getD i true=true then s else ((kL (cN r) r.length r.length 0 (s.1.set i true,[i])).1,zQ s.2 (bR ((kL (cN r) r.length r.length 0 (s.1.set i true,[i])).2.map fun k=>r.getD k bg)))
def cB(r:List ae)(i:Nat):List Bool×List (List ae):=(List.range i).foldl (nN r) (List.replicate r.length false,[])
def lU(r:List ae):List (List ae):=(cB r r.length).2
theorem iz(r:List ae)(i:Nat):cB r (i+1)=nN r (cB r i) i:=by simp[cB,ac2,aaD]
theorem HN{a b:ae}:before a b=false↔¬(a.y0<b.y0\/(a.y0=b.y0/\a.x0<b.x0)):=by
 rw[<-Bool.not_eq_true,gN]
theorem HO{l:List ae}(hl:∀r∈l,Full r){q:ae}(hq:q∈l)(h:∀r∈l,q.y0<r.y0\/(q.y0=r.y0/\q.x0<=r.x0)):(dD (bR l)).y0=q.y0/\(dD (bR l)).x0=q.x0:=by
 obtain⟨a1,a2,_⟩:=aR hl;have fq:=hl q hq;have QU:at' (aB l) q.x0 q.y0=true:=by
  rw[a2,aci];exact⟨q,hq,aQ.2 ⟨acP _,fq.1,acP _,fq.2⟩⟩
 rw[bR];cases e:aB l with
 | nil=>rw[e]at QU;cases QU
 | cons b s=>
  rw[e]at a1 a2 QU;have hb:=a1.head;cases ex:b.xs with
  | nil=>exact absurd ex hb.ne
  | cons p t=>
   have e1:dD (told (b::s))=⟨p.1,b.y0,p.2,b.y1⟩:=by simp[dD,told,ex]
   rw[e1];show b.y0=q.y0/\p.1=q.x0;have hc:=hb.can;rw[ex]at hc;have hp:=hc.head;have hy:=hb.lt;have ZK:at' (b::s) p.1 b.y0=true:=qB.2 ⟨b,adU,acP _,hy,(cu hb.can _).2 ⟨p,by rw[ex];exact adU,acP _,hp⟩⟩;rw[a2,aci]at ZK;obtain⟨r,hr,iO⟩:=ZK;obtain⟨r1,r2,r3,r4⟩:=aQ.1 iO;have hqr:=h r hr;obtain⟨c,WD,c1,c2,c3⟩:=qB.1 QU;have eb:c=b:=by
    rcases adq.1 WD with g | g
    ·exact g
    have:=a1.fM c g;omega
   subst eb;obtain⟨u,hu,u1,u2⟩:=(cu hb.can _).1 c3;rw[ex]at hu;have:p.1<=u.1:=by
    rcases adq.1 hu with g | g
    ·rw[g];exact acP _
    have:=hc.behind u g;omega
   omega
theorem sd(h:bE s):∀i,i<=(told s).length ->
  (cB (told s) i).1=((List.range i).foldl (mK (cN (told s)) (told s).length) (List.replicate (told s).length false,[])).1 /\
  (cB (told s) i).2=((List.range i).foldl (mK (cN (told s)) (told s).length) (List.replicate (told s).length false,[])).2.map fun L=>bR (L.map fun k=>(told s).getD k bg)
 | 0,_=>⟨rfl,rfl⟩
 | i+1,hi=>by
  obtain⟨i1,i2⟩:=sd h i (by omega);have hc:=FB h;obtain⟨_,_,M,m1,m2⟩:=rF hc i (by omega);obtain⟨_,_,M',VF,Yo⟩:=rF hc (i+1) hi;rw[iz];have TB:(List.range (i+1)).foldl (mK (cN (told s)) (told s).length) (List.replicate (told s).length false,[])=mK (cN (told s)) (told s).length ((List.range i).foldl (mK (cN (told s)) (told s).length) (List.replicate (told s).length false,[])) i:=by
   rw[ac2,aaD];rfl
  rw[TB]at VF ⊢;generalize (List.range i).foldl (mK (cN (told s)) (told s).length) (List.replicate (told s).length false,[])=w at i1 i2 m1 VF ⊢;generalize cB (told s) i=v at i1 i2 ⊢;rw[nN,mK]at *;rw[i1];by_cases c:w.1.getD i true=true
  ·rw[aap c,aap c];exact⟨i1,i2⟩
  rw[aaa c]at VF ⊢;rw[aaa c];refine⟨rfl,?_⟩;generalize kL (cN (told s)) (told s).length (told s).length 0 (w.1.set i true,[i])=z at VF ⊢;show zQ v.2 (bR (z.2.map _))=_;have get:∀k,k<(told s).length->(told s)[k]?=some ((told s).getD k bg):=fun k hk=>by rw[ad4,acg hk];rfl
  have fl:=bP h;have ord:∀a b,a<b->b<(told s).length->before ((told s).getD a bg) ((told s).getD b bg)=true:=fun a b h1 h2=>by
   obtain⟨a1,a2⟩:=aao.1 (get a (by omega));obtain⟨b1,b2⟩:=aao.1 (get b h2);have:=aaS.1 (pk h) a b a1 b1 h1;rw[a2,b2]at this;exact this
  have hd:∀(r:Nat) (L:List Nat),r<(told s).length->cQ (jE s) r=r->(∀k,k∈L↔k<(told s).length/\cQ (jE s) k=r)->
    (dD (bR (L.map fun k=>(told s).getD k bg))).y0=((told s).getD r bg).y0/\(dD (bR (L.map fun k=>(told s).getD k bg))).x0=((told s).getD r bg).x0:=fun r L hr hp hL=>by
   refine HO (fun q hq=>?_) (adS.2 ⟨r,(hL r).2 ⟨hr,hp⟩,rfl⟩) fun q hq=>?_
   ·obtain⟨k,hk,rfl⟩:=adS.1 hq;exact fl _ (aad (get k ((hL k).1 hk).1))
   obtain⟨k,hk,rfl⟩:=adS.1 hq;obtain⟨k1,k2⟩:=(hL k).1 hk;have:=hc.tops.le k k1;by_cases e:r=k
   ·subst e;exact .inr ⟨rfl,acP _⟩
   have:=gN.1 (ord r k (by omega) k1);omega
  have KY:w.2++[z.2]=(cd (cQ (jE s)) (i+1)).map M':=VF;rw[fE]at KY Yo;by_cases pi:cQ (jE s) i=i
  ·rw[aap pi]at KY Yo;rw[abE]at KY;have zi:=(List.append_inj KY (by rw[m1];simp)).2;have zi:z.2=M' i:=by simpa using zi
   have mz:=Yo i (adt _ (ab_.2 rfl));rw[<-zi]at mz;rw[NJ,i2,abE]
   ·rfl
   intro t ht;rw[i2,m1,ad6]at ht;obtain⟨r,hr,rfl⟩:=adS.1 (acp ht);obtain⟨r1,r2⟩:=mem_keys.1 hr;obtain⟨a1,a2⟩:=hd i z.2 (by omega) pi mz;obtain⟨b1,b2⟩:=hd r (M r) (by omega) r2 (m2 r hr);have o:=gN.1 (ord r i r1 (by omega));rw[HN];simp only[Function.comp]at *;omega
  rw[aaa pi]at KY;have:=adV List.length KY;rw[m1]at this;simp at this
theorem uG(h:bE s):lU (told s)=(cV s).map told:=by
 rw[lU,(sd h _ (aam _)).2,<-Ds h];rfl
theorem pF(h:bE s):aB (told s)=s:=by
 obtain⟨a1,a2,_⟩:=aR (bP h);exact iK _ _ a1 h fun x y=>by rw[a2,iy h]
theorem FC{t:List an}(hs:bE s)(ht:bE t):aeB 3 (told s) (told t)=told (bN s t):=by rw[aeB,KU (bP hs) (bP ht),pF hs,pF ht]
theorem qS{r:ae}(h:Full r):told (aB [r])=[r]:=by rw[vC h];rfl
theorem gz{r:ae}(h:Full r):bE (aB [r])/\∀x y,at' (aB [r]) x y=dE x y r:=by
 obtain⟨a1,a2,_⟩:=aR (l:=[r]) fun q hq=>by rw[ab_.1 hq];exact h
 exact⟨a1,fun x y=>by rw[a2];simp⟩
def dp(o q:ae):ae:=⟨min o.x0 q.x0,min o.y0 q.y0,max o.x1 q.x1,max o.y1 q.y1⟩
def dy(r:List ae):ae:=r.foldl dp (dD r)
theorem wY:∀(l:List ae) (o:ae),((l.foldl dp o).x0<=o.x0/\(l.foldl dp o).y0<=o.y0/\o.x1<=(l.foldl dp o).x1/\o.y1<=(l.foldl dp o).y1)/\
  (∀q∈l,(l.foldl dp o).x0<=q.x0/\(l.foldl dp o).y0<=q.y0/\q.x1<=(l.foldl dp o).x1/\q.y1<=(l.foldl dp o).y1)/\∀K,RK K o->(∀q∈l,RK K q)->RK K (l.foldl dp o)
 | [],o=>⟨⟨acP _,acP _,acP _,acP _⟩,fun q hq=>(by cases hq),fun K h _=>h⟩
 | p::l,o=>by
  obtain⟨⟨a1,a2,a3,a4⟩,b,c⟩:=wY l (dp o p);have e1:(dp o p).x0=min o.x0 p.x0:=rfl;have e2:(dp o p).y0=min o.y0 p.y0:=rfl;have e3:(dp o p).x1=max o.x1 p.x1:=rfl;have e4:(dp o p).y1=max o.y1 p.y1:=rfl;rw[aaq];refine⟨⟨by omega,by omega,by omega,by omega⟩,fun q hq=>?_,fun K hK hl=>c K ?_ fun q hq=>hl q (aaw _ hq)⟩
  ·rcases adq.1 hq with e | hq
   ·rw[e];exact⟨by omega,by omega,by omega,by omega⟩
   exact b q hq
  have:=hl p adU;unfold RK at *;omega
theorem pG(h:bE s)(hn:s≠[]):Full (dy (told s))/\(∀x y,at' s x y=true->dE x y (dy (told s))=true)/\∀K,cv K s->RK K (dy (told s)):=by
 obtain⟨a,b,c⟩:=wY (told s) (dD (told s));have hm:dD (told s)∈told s:=by
  have:told s≠[]:=fun e=>hn (qD h e);rw[dD,ad4,acg (adj.2 this)];exact adn _
 have f:=bP h _ hm;have f1:=f.1;have f2:=f.2;refine⟨⟨?_,?_⟩,fun x y hx=>?_,fun K hK=>c K (fR h hK _ hm) fun q hq=>fR h hK q hq⟩
 ·show (List.foldl dp _ _).x0<(List.foldl dp _ _).x1;omega
 ·show (List.foldl dp _ _).y0<(List.foldl dp _ _).y1;omega
 rw[<-iy h,aci]at hx;obtain⟨q,hq,hh⟩:=hx;have:=b q hq;obtain⟨g1,g2,g3,g4⟩:=aQ.1 hh;exact aQ.2 ⟨by show (List.foldl dp _ _).x0<=x;omega,by show x<(List.foldl dp _ _).x1;omega,by show (List.foldl dp _ _).y0<=y;omega,by show y<(List.foldl dp _ _).y1;omega⟩
theorem FD(h:bE s){box:ae}(hf:Full box){l r d u:Int}(hl:0<=l)(hr:0<=r)(hd:0<=d)(hu:0<=u)
  (hb:∀x y,at' s x y=true->box.x0<=x-l/\x+r<box.x1/\box.y0<=y-d/\y+u<box.y1):bN s (a_ (bN (aB [box]) s) r l u d)=coreS s l r d u:=by
 obtain⟨b1,b2⟩:=gz hf;obtain⟨c1,c2,_⟩:=b6 b1 h;obtain⟨d1,d2,_⟩:=bW c1 hr hl hu hd;obtain⟨e1,e2,_⟩:=b6 h d1;obtain⟨k1,k2,_⟩:=pe h hl hr hd hu;refine iK _ _ e1 k1 fun x y=>?_;rw[abb,k2,e2,aaZ,ael];constructor
 ·rintro⟨h1,h2⟩ a b g1 g2 g3 g4;cases qb:at' s a b with
  | true=>rfl
  | false=>
   have ha:=hb x y h1;have:at' (a_ (bN (aB [box]) s) r l u d) x y=true:=(d2 x y).2 ⟨a,b,by
    rw[c2,b2,qb,aQ.2 ⟨by omega,by omega,by omega,by omega⟩];rfl,by omega,by omega,by omega,by omega⟩
   rw[h2]at this;cases this
 intro aeL;refine⟨aeL x y (by omega) (by omega) (by omega) (by omega),?_⟩;rw[aaV];intro hp;obtain⟨a,b,g0,g1,g2,g3,g4⟩:=(d2 x y).1 hp;rw[c2,aeL a b (by omega) (by omega) (by omega) (by omega)]at g0;simp at g0
def ff(q:ae)(n:Int):ae:=⟨q.x0-n,q.y0-n,q.x1+n,q.y1+n⟩
theorem l6{q:ae}(h:Full q){n:Int}(h0:0<=n):Full (ff q n):=⟨by have:=h.1;show q.x0-n<q.x1+n;omega,by have:=h.2;show q.y0-n<q.y1+n;omega⟩
def ot(w:Int)(q:ae):ae:=⟨q.x0-w+1,q.y0-w+1,q.x1,q.y1⟩
def af3(w:Int)(q:ae):ae:=⟨q.x0,q.y0,q.x1+w-1,q.y1+w-1⟩
theorem vQ{K:Nat}(h:bE s)(hb:cv K s):(told s).length<=2*K*K:=by
 have h1:=cc h (by omega) hb;have h2:=uj (M:=K) (s:=s) fun t ht=>by have:=kT h (by omega) hb t ht;omega
 exact aaF h2 (abf _ (by omega))
theorem zR{K:Nat}:∀{l:List Int} {a:Int},bF (a::l)->(∀y∈a::l,y<=K)->(l.length:Int)<=K-a
 | [],a,_,h=>by have:=h a (by simp);simp only[acs];omega
 | b::l,a,hr,h=>by
  have ih:=zR (l:=l) (a:=b) (ade.1 hr).2 (fun y hy=>h y (by simp at hy ⊢;exact .inr hy));have h1:=(ade.1 hr).1 b (by simp);simp only[aaB];omega
theorem BX{l:List ae}{K:Nat}(hf:∀r∈l,Full r)(hk:∀r∈l,RK K r):(aE l).length<=2*K+1:=by
 obtain⟨h1,h2⟩:=cT l;have h3:∀y∈aE l,-(K:Int)<=y/\y<=K:=fun y hy=>by
  obtain⟨r,hr,e⟩:=(h2 y).1 hy;have a:=hf r hr;obtain⟨b1,b2,b3,b4⟩:=hk r hr;have:=a.2;rcases e with e | e<;>omega
 generalize aE l=ys at *;cases ys with
 | nil=>simp
 | cons a ys=>
  have h4:=zR h1 fun y hy=>(h3 y hy).2;have h5:=(h3 a (by simp)).1;simp only[aaB];omega
theorem PZ(h:bE s)(hn:s≠[]):told s≠[]:=fun e=>hn (qD h e)
theorem uH{l:List ae}(hf:∀r∈l,Full r)(hn:l≠[]):bR l≠[]:=by
 obtain⟨h1,h2,_⟩:=aR hf;refine PZ h1 fun e=>?_;cases l with
 | nil=>exact hn rfl
 | cons r l=>
  have h3:=h2 r.x0 r.y0;rw[e]at h3;have h4:=hf r (by simp);have h5:dE r.x0 r.y0 r=true:=aQ.2 ⟨by omega,h4.1,by omega,h4.2⟩;rw[abd,h5,abn]at h3;cases h3
def Yp(YQ:List Int)(l:List ae):Prop:=∀r∈l,r.y0∈YQ/\r.y1∈YQ
theorem getD_in{ys:List Int}{k:Nat}(h:k<ys.length):ys.getD k 0∈ys:=by
 rw[ad4,acg h];exact adn h
theorem Yp.mono{YQ ZQ:List Int}{l:List ae}(h:Yp YQ l)(k:∀y∈YQ,y∈ZQ):Yp ZQ l:=fun r hr=>⟨k _ (h r hr).1,k _ (h r hr).2⟩
end Reg
namespace M
open Go.AM Go.RowKit
open Reg (ae aU an bE cv Full RK told aB aeB bN)
theorem FF(a b:List ae)(qb:a.length+b.length<=4398046511104)(hy:(Reg.aE (a++b)).length<=3000000000000)(hr:(aeB 3 a b).length<=4398046511104):af C 54 [.pv (aj a),.pv (aj b)] (.p (aj (aeB 3 a b))) []:=by
 refine fW hC Tryz.func54 rfl (by kernel_rfl) fun _=>?_;refine⟨_,_,(uF a b 3 qb hy hr),?_⟩;refine⟨?_,trivial⟩;rfl
theorem w7{s t:List an}(hs:bE s)(ht:bE t)(ks:cv 1400000 s)(kt:cv 1400000 t):(Reg.aE (told s++told t)).length<=3000000000000:=by
 have:=Reg.BX (K:=1400000) (l:=told s++told t) (fun r hr=>by
  rcases abi.1 hr with h | h
  ·exact Reg.bP hs r h
  ·exact Reg.bP ht r h) (fun r hr=>by
  rcases abi.1 hr with h | h
  ·exact Reg.fR hs ks r h
  exact Reg.fR ht kt r h)
 omega
theorem mL{s t:List an}(hs:bE s)(ht:bE t)(ks:cv 1400000 s)(kt:cv 1400000 t)(hn:(told s).length+(told t).length<=4398046511104):af C 54 [.pv (aj (told s)),.pv (aj (told t))] (.p (aj (told (bN s t)))) []:=by
 obtain⟨a1,a2,a3⟩:=Reg.b6 hs ht;have h:=FF (told s) (told t) hn (w7 hs ht ks kt) (by rw[Reg.FC hs ht];exact Reg.fj a1 (a3 _ ks kt))
 rwa [Reg.FC hs ht]at h
theorem vR{l:List ae}(hf:∀r∈l,Full r)(hk:∀r∈l,RK 1400000 r)(hn:l.length<=4398046511104):af C 93 [.pv (aj l)] (.p (aj (told (aB l)))) []:=by
 obtain⟨b1,_,b3⟩:=Reg.aR hf;have hh:=Reg.BX (K:=1400000) hf hk;exact rV l hn (by omega) (Reg.fj b1 (b3 _ hk))
end M
namespace Reg
def afl(a b:List ae):Int:=a.foldl (fun n x=>b.foldl (fun n y=>min n (fT x y)) n) (fT (dD a) (dD b))
theorem afJ(a b:List ae):∀n:Int,a.foldl (fun n x=>b.foldl (fun n y=>min n (fT x y)) n) n=(aeA a b).foldl min n:=by
 induction a with
 | nil=>intro n;rfl
 | cons x a ih=>
  intro n;have e:aeA (x::a) b=b.map (fT x)++aeA a b:=rfl;rw[aaq,ih,e,aaD,List.foldl_map]
theorem FH:∀(l:List Int) (n:Int),l.foldl min n<=n/\(∀x∈l,l.foldl min n<=x)/\(l.foldl min n=n\/l.foldl min n∈l)
 | [],n=>⟨acP _,fun x h=>(by cases h),.inl rfl⟩
 | m::l,n=>by
  obtain⟨h1,h2,h3⟩:=FH l (min n m);rw[aaq];refine⟨by omega,fun x hx=>?_,?_⟩
  ·rcases adq.1 hx with e | hx
   ·rw[e];omega
   exact h2 x hx
  rcases h3 with e | e
  ·rw[e];by_cases c:n<=m
   ·exact .inl (by omega)
   exact .inr (by rw[show min n m=m by omega];exact adU)
  exact .inr (aaw _ e)
theorem head_mem{l:List ae}(h:l≠[]):dD l∈l:=by
 rw[dD,ad4,acg (adj.2 h)];exact adn _
theorem afa{a b:List ae}{n:Int}:n∈aeA a b↔∃x∈a,∃y∈b,fT x y=n:=by simp[aeA]
theorem HP(a b:ae):0<=fT a b:=by simp only[fT,bA];omega
theorem agR{a b:List ae}(ha:a≠[])(hb:b≠[]):afl a b=aeP a b:=by
 rw[afl,afJ,aeP];have hm:fT (dD a) (dD b)∈aeA a b:=afa.2 ⟨_,head_mem ha,_,head_mem hb,rfl⟩;obtain⟨h1,h2,h3⟩:=FH (aeA a b) (fT (dD a) (dD b));obtain⟨k1,_,_,k4⟩:=afc (aeA a b) (-1) fun n hn=>by
  obtain⟨x,_,y,_,e⟩:=afa.1 hn;rw[<-e];exact HP _ _
 have k:aez (-1) (aeA a b)∈aeA a b:=by
  rcases k4 (aec hm) with e | ⟨e,_⟩
  ·exact e
  omega
 have h:(aeA a b).foldl min (fT (dD a) (dD b))∈aeA a b:=by
  rcases h3 with e | e
  ·rw[e];exact hm
  exact e
 have:=h2 _ k;have:=k1 _ h;omega
def aeY(n:Int)(s:Bool×Int×Int)(x y:ae):Bool×Int×Int:=
 if min x.x1 (y.x1+n)-1<(jD x y n).1\/min x.y1 (y.y1+n)-1<(jD x y n).2 then s else
 if s.1=false\/aeW (jD x y n) s.2=true then (true,jD x y n) else s
def afg(a b:List ae)(n:Int):Bool×Int×Int:=a.foldl (fun s x=>b.foldl (fun s y=>aeY n s x y) s) (false,0,0)
theorem ahf{x y:ae}(hx:Full x)(hy:Full y){n:Int}(h0:0<=n):¬(min x.x1 (y.x1+n)-1<(jD x y n).1\/min x.y1 (y.y1+n)-1<(jD x y n).2)↔fT x y<=n:=by
 obtain⟨x1,x2⟩:=hx;obtain⟨y1,y2⟩:=hy;simp only[jD,fT,bA];omega
theorem ahg{x y:ae}(hx:Full x)(hy:Full y){n:Int}(h0:0<=n)(h:n<=fT x y)(s:Bool×Int×Int):aeY n s x y=if fT x y=n/\(s.1=false\/aeW (jD x y n) s.2=true) then (true,jD x y n) else s:=by
 rw[aeY];have e:=ahf hx hy h0;by_cases c:fT x y=n
 ·rw[aaa (e.2 (by omega))];by_cases d:s.1=false\/aeW (jD x y n) s.2=true
  ·rw[aap d,aap ⟨c,d⟩]
  rw[aaa d,aaa fun g=>d g.2]
 rw[aap (acz fun g=>c (by have:=e.1 g;omega)),aaa fun g=>c g.1]
theorem agy{x:ae}(hx:Full x){n:Int}(h0:0<=n):∀(b:List ae) (s:Bool×Int×Int),(∀y∈b,Full y/\n<=fT x y)->b.foldl (fun s y=>aeY n s x y) s=G2 n s (b.map (kg n x))
 | [],s,_=>rfl
 | y::b,s,h=>by
  obtain⟨h1,h2⟩:=h y adU;rw[aaq,agy hx h0 b _ fun z hz=>h z (aaw _ hz),aa8,afi,ahg hx h1 h0 h2];rfl
theorem afK{b:List ae}{n:Int}(h0:0<=n):∀(a:List ae) (s:Bool×Int×Int),(∀x∈a,Full x/\∀y∈b,Full y/\n<=fT x y)->a.foldl (fun s x=>b.foldl (fun s y=>aeY n s x y) s) s=G2 n s (a.flatMap fun x=>b.map (kg n x))
 | [],s,_=>rfl
 | x::a,s,h=>by
  obtain⟨h1,h2⟩:=h x adU;rw[aaq,afK h0 a _ fun z hz=>h z (aaw _ hz),abz,afC,agy h1 h0 b s h2]
theorem afL(n:Int):∀(l:List (Int×Int×Int)) (s:Bool×Int×Int),(G2 n s l=s/\(s.1=true\/∀q∈l,q.1≠n))\/∃q∈l,q.1=n/\G2 n s l=(true,q.2)
 | [],s=>.inl ⟨rfl,.inr fun q h=>by cases h⟩
 | q::l,s=>by
  rw[afi];by_cases c:q.1=n/\(s.1=false\/aeW q.2 s.2=true)
  ·rw[aap c];rcases afL n l (true,q.2) with⟨e,_⟩ | ⟨p,hp,e1,e2⟩
   ·exact .inr ⟨q,adU,c.1,e⟩
   exact .inr ⟨p,aaw _ hp,e1,e2⟩
  rw[aaa c];rcases afL n l s with⟨e,h⟩ | ⟨p,hp,e1,e2⟩
  ·refine .inl ⟨e,?_⟩;rcases h with h | h
   ·exact .inl h
   by_cases d:s.1=true
   ·exact .inl d
   refine .inr fun p hp=>?_;rcases adq.1 hp with e | hp
   ·rw[e];exact fun g=>c ⟨g,.inl (by simpa using d)⟩
   exact h p hp
  exact .inr ⟨p,aaw _ hp,e1,e2⟩
theorem uI(a b c d:Int):bA a b c d=bA c d a b:=by simp only[bA];omega
theorem uJ(a b:ae):fT a b=fT b a:=by rw[fT,fT,uI a.x0,uI a.y0]
theorem zS{a b c d p:Int}(h1:c<=p)(h2:p<d):bA a b c d<=bA a b p (p+1):=by simp only[bA];omega
theorem NK{y u:ae}{p:Int×Int}(h:dE p.1 p.2 u=true):fT y u<=fT y (xu p):=by
 obtain⟨h1,h2,h3,h4⟩:=aQ.1 h;have a:=zS (a:=y.x0) (b:=y.x1) h1 h2;have b:=zS (a:=y.y0) (b:=y.y1) h3 h4;show max (bA y.x0 y.x1 u.x0 u.x1) (bA y.y0 y.y1 u.y0 u.y1)<=max (bA y.x0 y.x1 p.1 (p.1+1)) (bA y.y0 y.y1 p.2 (p.2+1));omega
theorem NL{u v:ae}(hu:Full u){n:Int}(h:fT u v<=n):dE (jD u v n).1 (jD u v n).2 u=true:=by
 obtain⟨u1,u2⟩:=hu;have h1:bA u.x0 u.x1 v.x0 v.x1<=n:=by unfold fT at h;omega
 have h2:bA u.y0 u.y1 v.y0 v.y1<=n:=by unfold fT at h;omega
 simp only[bA]at h1 h2;refine aQ.2 ⟨?_,?_,?_,?_⟩<;>simp only[jD]<;>omega
def ag1(a b:List ae):Zu:=⟨0,0,afl a b-1,(afg a b (afl a b)).2,(afg b [xu (afg a b (afl a b)).2] (afl a b)).2⟩
theorem ahq{a b:List ae}(ha:a≠[])(hb:b≠[])(fa:∀r∈a,Full r)(fb:∀r∈b,Full r):ag1 a b=afd a b:=by
 have lo:∀x∈a,∀y∈b,aeP a b<=fT x y:=fun x hx y hy=>(afc (aeA a b) (-1) fun n hn=>by
  obtain⟨x,_,y,_,e⟩:=afa.1 hn;rw[<-e];exact HP _ _).1 _ (afa.2 ⟨x,hx,y,hy,rfl⟩)
 have Lf:aeP a b∈aeA a b:=by
  rw[<-agR ha hb,afl,afJ];rcases (FH (aeA a b) (fT (dD a) (dD b))).2.2 with e | e
  ·rw[e];exact afa.2 ⟨_,head_mem ha,_,head_mem hb,rfl⟩
  exact e
 obtain⟨x,hx,y,hy,exy⟩:=afa.1 Lf;have h0:0<=aeP a b:=by rw[<-exy];exact HP _ _
 have e1:(afg a b (aeP a b)).2=aeT a b (aeP a b):=by
  rw[afg,afK h0 a _ fun x hx=>⟨fa x hx,fun y hy=>⟨fb y hy,lo x hx y hy⟩⟩];rfl
 rw[ag1,agR ha hb,e1,afd];obtain⟨u,hu,v,hv,euv,ef⟩:∃u∈a,∃v∈b,fT u v=aeP a b/\aeT a b (aeP a b)=jD u v (aeP a b):=by
  rcases afL (aeP a b) (a.flatMap fun x=>b.map (kg (aeP a b) x)) (false,0,0) with⟨_,h⟩ | ⟨q,hq,e1,e2⟩
  ·rcases h with h | h
   ·cases h
   exact absurd exy (h (kg (aeP a b) x y) (aax.2 ⟨x,hx,adS.2 ⟨y,hy,rfl⟩⟩))
  obtain⟨u,hu,hq⟩:=aax.1 hq;obtain⟨v,hv,rfl⟩:=adS.1 hq;exact⟨u,hu,v,hv,e1,by rw[aeT,e2];rfl⟩
 have e2:(afg b [xu (aeT a b (aeP a b))] (aeP a b)).2=ahc b (aeT a b (aeP a b)) (aeP a b):=by
  have key:∀(l:List ae) (p:ae),(l.flatMap fun y=>[p].map (kg (aeP a b) y))=l.map fun y=>kg (aeP a b) y p:=fun l p=>by
   induction l with
   | nil=>rfl
   | cons z l ih=>rw[abz,ih];rfl
  rw[afg,afK h0 b _ fun y hy=>⟨fb y hy,fun z hz=>?_⟩,key]
  ·rfl
  rw[ab_.1 hz];refine⟨⟨by show (aeT a b (aeP a b)).1<(aeT a b (aeP a b)).1+1;omega,by show (aeT a b (aeP a b)).2<(aeT a b (aeP a b)).2+1;omega⟩,?_⟩;have l1:=lo u hu y hy;rw[ef];have:=NK (y:=y) (NL (fa u hu) (v:=v) (n:=aeP a b) (by omega));rw[uJ]at l1;omega
 rw[e2]
end Reg
namespace M
open Go.AM Go.RowKit Go.Lib
open Reg (ae Full fT bA)
def jZ(r:ae):Prop:=(-4611686018427387000<=r.x0/\r.x0<=4611686018427387000)/\(-4611686018427387000<=r.y0/\r.y0<=4611686018427387000)/\(-4611686018427387000<=r.x1/\r.x1<=4611686018427387000)/\(-4611686018427387000<=r.y1/\r.y1<=4611686018427387000)
theorem agS(a0 a1 b0 b1:Int)(h:(-4611686018427387000<=a0/\a0<=4611686018427387000)/\(-4611686018427387000<=a1/\a1<=4611686018427387000)/\(-4611686018427387000<=b0/\b0<=4611686018427387000)/\(-4611686018427387000<=b1/\b1<=4611686018427387000)):af C 247 [.pv (i64 a0),.pv (i64 a1),.pv (i64 b0),.pv (i64 b1)] (.p (i64 (bA a0 a1 b0 b1))) []:=by
 refine fW hC Tryz.func247 rfl (by kernel_rfl) fun _=>?_;refine⟨⟨by omega,by omega⟩,?_⟩;refine⟨⟨by omega,by omega⟩,?_⟩;refine⟨⟨by omega,by omega⟩,?_⟩;refine⟨⟨by omega,by omega⟩,?_⟩;refine⟨?_,trivial⟩;have e:bA a0 a1 b0 b1=max (max 0 (b0-(a1-1))) (a0-(b1-1)):=by simp only[bA];omega
 rw[e];rfl
theorem afD(a b:ae)(ha:jZ a)(hb:jZ b):af C 193 [.pv (.ag (rc a)),.pv (.ag (rc b))] (.p (i64 (fT a b))) []:=by
 unfold jZ at ha hb;refine fW hC Tryz.func193 rfl (by kernel_rfl) fun _=>?_;refine⟨_,_,(agS a.x0 a.x1 b.x0 b.x1 ⟨by omega,by omega,by omega,by omega⟩),?_⟩;refine⟨_,_,(agS a.y0 a.y1 b.y0 b.y1 ⟨by omega,by omega,by omega,by omega⟩),?_⟩;refine⟨?_,trivial⟩;rfl
end M
namespace Reg
theorem ag2{h:Int->Bool}(hm:∀m n,0<=m->m<=n->h n=true->h m=true){x y:Int}(x0:0<=x)(y0:0<=y)(hx:h x=true)(R0:h (x+1)=false)(hy:h y=true)(hy':h (y+1)=false):x=y:=by
 rcases Int.lt_trichotomy x y with g | g | g
 ·rw[hm (x+1) y (by omega) (by omega) hy]at R0;cases R0
 ·exact g
 rw[hm (y+1) x (by omega) (by omega) hx]at hy';cases hy'
end Reg
namespace M
open Reg (ae an bE cv Full told aB ax bN a_ coreS at' dE ff aeB fT)
theorem zT{T:List an}(h:bE T)(hn:T≠[]):∃r t,told T=r::t/\(r.x0,r.y0)=jq T:=by
 cases T with
 | nil=>exact absurd rfl hn
 | cons b T=>
  have hb:=(Reg.bE.head h).ne;cases hx:b.xs with
  | nil=>exact absurd hx hb
  | cons p xs=>
   refine⟨⟨p.1,b.y0,p.2,b.y1⟩,(xs.map fun p=>⟨p.1,b.y0,p.2,b.y1⟩)++told T,?_,?_⟩
   ·unfold told;rw[abz,hx,aa8,aaI]
   rw[jq,hx];rfl
theorem told_none{T:List an}(h:bE T):(told T).length=0↔T=[]:=by
 constructor
 ·intro e;exact Reg.qD h (adN.1 e)
 intro e;rw[e];rfl
theorem NQ{low high:Int}(h:-1<=low)(hl:low<high):(low+high+1).tdiv 2=low+(high-low+1).tdiv 2:=by
 rw[abk (by omega),abk (by omega)];omega
theorem agK{h:Int->Bool}(hm:∀m n,0<=m->m<=n->h n=true->h m=true)(h0:h 0=true){l:Int}(hl:0<=l)(hn:h l=false):gn h l.toNat 0 l=dL h l:=by
 obtain⟨a1,a2,a3,a4⟩:=pC h l.toNat 0 l (by omega) hl;obtain⟨b1,b2,b3,b4⟩:=HD hl hn;generalize gn h l.toNat 0 l=x at *;generalize dL h l=y at *;have hx:h x=true:=by
  rcases a3 with e | e
  ·rw[e];exact h0
  exact e
 have R0:h (x+1)=false:=by
  rcases a4 with e | e
  ·rw[e,hn]at hx;cases hx
  exact e
 have y0:0<=y:=by
  by_cases c:y=-1
  ·rw[c]at b4;have b4:h 0=false:=b4;rw[h0]at b4;cases b4
  omega
 have hy:h y=true:=by
  rcases b3 with e | e
  ·omega
  exact e
 exact Reg.ag2 hm (by omega) y0 hx R0 hy b4
theorem ag3{s:List an}(hs:bE s){w:Int}(h0:0<=w)(hn:ax s w≠[]):gn (fun n=>decide (ax s n=[])) w.toNat 0 w=dL (fun n=>decide (ax s n=[])) w:=by
 refine agK (fun m n hm hmn h=>?_) ?_ h0 ?_
 ·rw[aaH]at h ⊢;refine Reg.qC (Reg.aeS hs m).1 fun x y=>?_;cases e:at' (ax s m) x y with
  | false=>rfl
  | true=>
   have:=Reg.agZ hs hmn x y e;rw[h]at this;cases this
 ·rw[aaH];exact Reg.ahb hs (by decide)
 rw[abF];exact hn
open Go.AM Go.RowKit Go.Lib
open Reg (RK dy dp dD dJ en dN dO)
theorem vS(q:ae)(n:Int)(hq:jZ q)(h0:0<=n)(h1:n<=1000000):af C 94 [.pv (.ag (rc q)),.pv (i64 n)] (.p (.ag (rc (ff q n)))) []:=by
 unfold jZ at hq;refine fW hC Tryz.func94 rfl (by kernel_rfl) fun _=>?_;refine⟨⟨by omega,by omega⟩,?_⟩;refine⟨⟨by omega,by omega⟩,?_⟩;refine⟨⟨by omega,by omega⟩,?_⟩;refine⟨⟨by omega,by omega⟩,?_⟩;refine⟨?_,trivial⟩;rfl
theorem sW{q:ae}(h:RK 2000000 q)(f:Full q):jZ q:=by
 obtain⟨a,b⟩:=f;unfold RK at h;unfold jZ;omega
theorem uK(r:List ae)(x:ae)(hx:r[0]?=some x):af C 56 [.pv (aj r)] (.p (.ag [i64 x.x0,i64 x.y0])) []:=by
 refine fW hC Tryz.func56 rfl (by kernel_rfl) fun _=>?_;refine⟨(rc x),(idx (i:=0) rfl hx),?_⟩;refine⟨(rc x),(idx (i:=0) rfl hx),?_⟩;refine⟨?_,trivial⟩;rfl
theorem Dv(r:List ae)(hr:r≠[])(hN:r.length<=4398046511104):af C 95 [.pv (aj r)] (.p (.ag (rc (dy r)))) []:=by
 have lm:=ai r rc;obtain⟨x,hx⟩:=ak (l:=r) (i:=0) (by cases r with | nil=>exact absurd rfl hr | cons _ _=>simp);have hh:dD r=x:=by rw[dD,ad4,hx];rfl
 have e:dy r=r.foldl dp x:=by rw[dy,hh]
 rw[e];refine uX ⟨[],[],[],[],[(5,[true,true,true,true,true,true,true,true,true,true,true,true,false,true,false,true,true,true,true,true,false,true,false,true,true,true,true,true,false,true,false,true,true,false,true,false,true,false,true,true])],[]⟩ hC Tryz.func95 rfl (by kernel_rfl) fun _=>?_;refine⟨(rc x),(idx (i:=0) rfl hx),?_⟩;refine aJ (fun y:Nat×ae=>(r.drop y.1).foldl dp y.2=r.foldl dp x) (fun y=>[(0,.p (aj r)),(2,.bx 2 0),(3,.bx 3 0),(4,.p (i64 y.1))]) (fun y=>[(2,.box [.p (i64 0),.p (i64 0),.p (i64 0),.p (i64 0)]),(3,.box ((rc y.2).map .p))]) (fun y=>r.length-y.1) (0,x) _ (au.refl _ _) rfl ⟨Z,Z,Z,Z,Y⟩ ⟨Z,Z,Y⟩ fun ⟨i,o⟩ hi t h=>?_;simp only at hi;refine iW ?_ ?_<;>intro g<;>try simp only[zB]at g
 ·obtain⟨q,hq⟩:=ak (l:=r) (i:=i) (by omega);rw[drop_at hq,aaq]at hi;refine⟨(rc q),(idx rfl hq),?_⟩;refine⟨(rc q),(idx rfl hq),?_⟩;refine⟨(rc q),(idx rfl hq),?_⟩;refine⟨(rc q),(idx rfl hq),?_⟩;refine⟨⟨by omega,by omega⟩,?_⟩;exact⟨(i+1,dp o q),_,au.refl _ _,hi,by simp only;omega,⟨Z,Z,Z,Z,Y⟩,⟨Z,Z,Y⟩⟩
 rw[ab1 (by omega)]at hi;have hi:o=r.foldl dp x:=hi;refine⟨?_,trivial⟩;rw[<-hi];rfl
end M
namespace Reg
def mS(l:List Int)(n:Int):Bool:=l.any fun x=>decide (x=n)
theorem oA{l:List Int}{n:Int}:mS l n=true↔n∈l:=by simp[mS]
def fZ(l:List Int)(n:Int):Nat->Nat
 | 0=>0
 | k+1=>if n<l.getD k 0 then fZ l n k else k+1
def oB(l:List Int)(n:Int):List Int:=if 0<fZ l n l.length/\l.getD (fZ l n l.length-1) 0=n then l else (l.take (fZ l n l.length)++[n])++l.drop (fZ l n l.length)
theorem uL(l:List Int)(n:Int):∀k,k<=l.length->fZ l n k<=k/\(∀i,fZ l n k<=i->i<k->n<l.getD i 0)/\(0<fZ l n k->l.getD (fZ l n k-1) 0<=n)
 | 0,_=>⟨aam _,fun i _ h=>by omega,fun h=>by simp[fZ]at h⟩
 | k+1,hk=>by
  rw[fZ];by_cases c:n<l.getD k 0
  ·rw[aap c];obtain⟨h1,h2,h3⟩:=uL l n k (by omega);refine⟨by omega,fun i h4 h5=>?_,h3⟩;by_cases e:i=k
   ·rw[e];exact c
   exact h2 i h4 (by omega)
  rw[aaa c];exact⟨aam _,fun i h4 h5=>by omega,fun _=>by simpa using c⟩
theorem jL{l:List Int}(h:bF l){i j:Nat}(hi:i<j)(hj:j<l.length):l.getD i 0<l.getD j 0:=by
 have:=aaS.1 h i j (by omega) hj hi;rw[ad4,ad4,acg (by omega),acg hj];exact this
theorem zU{l:List Int}{i:Nat}(h:i<l.length):l[i]=l.getD i 0:=by rw[ad4,acg h];rfl
theorem sX{l:List Int}(h:bF l)(n:Int):bF (oB l n)/\∀x,x∈oB l n↔x∈l\/x=n:=by
 obtain⟨h1,h2,h3⟩:=uL l n l.length (aam _);rw[oB];generalize fZ l n l.length=k at h1 h2 h3 ⊢;by_cases c:0<k/\l.getD (k-1) 0=n
 ·rw[aap c];refine⟨h,fun x=>⟨.inl,fun g=>g.elim id fun e=>?_⟩⟩;rw[e,<-c.2,<-zU (by omega)];exact adn _
 rw[aaa c];have lo:∀a∈l.take k,a<n:=fun a ha=>by
  obtain⟨i,hi,rfl⟩:=List.mem_iff_getElem.1 ha;rw[aat]at hi;rw[List.getElem_take,zU (by omega)];have h5:=h3 (by omega);have h6:¬l.getD (k-1) 0=n:=fun e=>c ⟨by omega,e⟩;by_cases e:i=k-1
  ·rw[e];omega
  have:=jL h (i:=i) (j:=k-1) (by omega) (by omega);omega
 have hi:∀b∈l.drop k,n<b:=fun b hb=>by
  obtain⟨i,hi,rfl⟩:=List.mem_iff_getElem.1 hb;rw[aaN]at hi;rw[List.getElem_drop,zU (by omega)];exact h2 _ (by omega) (by omega)
 refine⟨?_,fun x=>?_⟩
 ·rw[bF,abx,abZ];refine⟨adK (List.take_sublist _ _) h,?_,fun a ha b hb=>?_⟩
  ·rw[ac3,ade];exact⟨hi,adK (List.drop_sublist _ _) h⟩
  have:=lo a ha;rcases abi.1 hb with g | g
  ·rw[ab_.1 g];exact this
  have:=hi b g;omega
 rw[abi,abi,ab_];have:x∈l↔x∈l.take k\/x∈l.drop k:=by rw[<-abi,aaU]
 rw[this];constructor
 ·rintro ((g | g) | g)
  ·exact .inl (.inl g)
  ·exact .inr g
  exact .inl (.inr g)
 rintro ((g | g) | g)
 ·exact .inl (.inl g)
 ·exact .inr g
 exact .inl (.inr g)
structure sY where
 seen:List Bool
 pieces:List Int
 bores:List Int
 used:List Bool
 todo:List Int
def pI(s:sY)(p:Int):sY:=if s.seen.getD p.toNat true=true then s else ⟨s.seen.set p.toNat true,oB s.pieces p,s.bores,s.used,s.todo++[p]⟩
def nO(T:List (List Int))(x:Int)(s:sY)(j:Nat):sY:=if s.used.getD j true=true\/mS (T.getD j []) x=false then s else (T.getD j []).foldl pI ⟨s.seen,s.pieces,oB s.bores j,s.used.set j true,s.todo⟩
def p_(T:List (List Int)):Nat->Nat->sY->sY
 | 0,_,s=>s
 | f+1,i,s=>if i<s.todo.length then p_ T f (i+1) ((List.range T.length).foldl (nO T (s.todo.getD i 0)) s) else s
def eH(T:List (List Int))(n i:Nat)(seen:List Bool):sY:=p_ T n 0 ⟨seen.set i true,[(i:Int)],[],List.replicate T.length false,[(i:Int)]⟩
structure jc(T:List (List Int))(n:Nat)(D0:List Bool)(s:sY):Prop where
 len:s.seen.length=n
 ulen:s.used.length=T.length
 nod:s.todo.Nodup
 mem:∀p∈s.todo,(0<=p/\p<n)/\D0.getD p.toNat true=false
 done:∀p:Int,0<=p->p<n->(s.seen.getD p.toNat true=true↔D0.getD p.toNat true=true\/p∈s.todo)
 pr:bF s.pieces
 pm:∀p,p∈s.pieces↔p∈s.todo
 br:bF s.bores
 bm:∀x,x∈s.bores↔∃j:Nat,x=j/\j<T.length/\s.used.getD j true=true
structure iZ(s t:sY):Prop where
 todo:∃v,t.todo=s.todo++v
 used:∀j,s.used.getD j true=true->t.used.getD j true=true
theorem iZ.refl(s:sY):iZ s s:=⟨⟨[],by simp⟩,fun _ h=>h⟩
variable {s:sY}
theorem iZ.trans{t u:sY}(h:iZ s t)(k:iZ t u):iZ s u:=by
 obtain⟨v,hv⟩:=h.todo;obtain⟨w,hw⟩:=k.todo;exact⟨⟨v++w,by rw[hw,hv,abx]⟩,fun j hj=>k.used j (h.used j hj)⟩
theorem iZ.mem{t:sY}(h:iZ s t){p:Int}(hp:p∈s.todo):p∈t.todo:=by
 obtain⟨v,hv⟩:=h.todo;rw[hv];exact abY _ hp
variable {D0:List Bool}
theorem Ji{T:List (List Int)}{n:Nat}(h:jc T n D0 s){p:Int}(h0:0<=p)(hn:p<n):
  jc T n D0 (pI s p)/\iZ s (pI s p)/\(∀x,x∈(pI s p).todo↔x∈s.todo\/(x=p/\D0.getD p.toNat true=false))/\(pI s p).used=s.used:=by
 rw[pI];by_cases c:s.seen.getD p.toNat true=true
 ·rw[aap c];refine⟨h,iZ.refl s,fun x=>⟨.inl,fun g=>g.elim id fun ⟨e,g⟩=>?_⟩,rfl⟩;rcases (h.done p h0 hn).1 c with k | k
  ·rw[g]at k;cases k
  rw[e];exact k
 rw[aaa c];have DJ:¬(D0.getD p.toNat true=true\/p∈s.todo):=fun g=>c ((h.done p h0 hn).2 g);have hd:D0.getD p.toNat true=false:=by
  cases e:D0.getD p.toNat true with
  | false=>rfl
  | true=>exact absurd (.inl e) DJ
 obtain⟨s1,s2⟩:=sX h.pr p;refine⟨⟨by show (s.seen.set _ true).length=n;rw[aaM,h.len],h.ulen,?_,fun x hx=>?_,fun x x0 xn=>?_,s1,fun x=>?_,h.br,h.bm⟩,⟨⟨[p],rfl⟩,fun _ g=>g⟩,fun x=>?_,rfl⟩
 ·show (s.todo++[p]).Nodup;rw[aef];refine⟨h.nod,by simp,fun a ha b hb=>?_⟩;rw[ab_.1 hb];exact fun e=>DJ (.inr (e▸ha))
 ·rcases abi.1 hx with g | g
  ·exact h.mem x g
  rw[ab_.1 g];exact⟨⟨h0,hn⟩,hd⟩
 ·show (s.seen.set p.toNat true).getD x.toNat true=true↔_\/x∈s.todo++[p];rw[jx (by rw[h.len];omega),abi,ab_];by_cases e:x.toNat=p.toNat
  ·rw[aap e];exact⟨fun _=>.inr (.inr (by omega)),fun _=>rfl⟩
  rw[aaa e,h.done x x0 xn];constructor
  ·rintro (g | g)
   ·exact .inl g
   exact .inr (.inl g)
  rintro (g | g | g)
  ·exact .inl g
  ·exact .inr g
  exact absurd (by rw[g]) e
 ·show x∈oB s.pieces p↔x∈s.todo++[p];rw[s2,h.pm,abi,ab_]
 show x∈s.todo++[p]↔_;rw[abi,ab_];exact⟨fun g=>g.elim .inl fun e=>.inr ⟨e,hd⟩,fun g=>g.elim .inl fun e=>.inr e.1⟩
theorem zV{T:List (List Int)}{n:Nat}:∀(l:List Int) (s:sY),jc T n D0 s->(∀p∈l,0<=p/\p<n)->
  jc T n D0 (l.foldl pI s)/\iZ s (l.foldl pI s)/\(∀x,x∈(l.foldl pI s).todo↔x∈s.todo\/(x∈l/\D0.getD x.toNat true=false))/\(l.foldl pI s).used=s.used
 | [],s,h,_=>⟨h,iZ.refl s,fun x=>by simp,rfl⟩
 | p::l,s,h,hl=>by
  obtain⟨p0,pn⟩:=hl p adU;obtain⟨a1,a2,a3,a4⟩:=Ji h p0 pn;obtain⟨b1,b2,b3,b4⟩:=zV l _ a1 fun x hx=>hl x (aaw _ hx);refine⟨b1,a2.trans b2,fun x=>?_,b4.trans a4⟩;show x∈(l.foldl pI (pI s p)).todo↔_;rw[b3,a3,adq];constructor
  ·rintro ((g | ⟨g,g2⟩) | ⟨g,g2⟩)
   ·exact .inl g
   ·exact .inr ⟨.inl g,by rw[g];exact g2⟩
   exact .inr ⟨.inr g,g2⟩
  rintro (g | ⟨g | g,g2⟩)
  ·exact .inl (.inl g)
  ·exact .inl (.inr ⟨g,by rw[<-g];exact g2⟩)
  exact .inr ⟨g,g2⟩
structure HR(c:Nat->Nat)(T:List (List Int))(n:Nat):Prop where
 tops:Dg c n
 Lf:∀j,∀p∈T.getD j [],0<=p/\p<n
 edge:∀j a b,a∈T.getD j []->b∈T.getD j []->c a.toNat=c b.toNat
 cl:∀S:Nat->Prop,(∀j a b,a∈T.getD j []->b∈T.getD j []->S a.toNat->S b.toNat)->∀k,k<n->S (c k)->S k
structure FL(T:List (List Int))(c:Nat->Nat)(r:Nat)(D0:List Bool)(s:sY):Prop where
 u1:∀j,j<T.length->s.used.getD j true=true->∀p∈T.getD j [],D0.getD p.toNat true=false->p∈s.todo
 u2:∀j,j<T.length->s.used.getD j true=true->∃a∈s.todo,a∈T.getD j []
 u4:∀p∈s.todo,c p.toNat=r
theorem P0{T:List (List Int)}{n:Nat}{c:Nat->Nat}(hc:HR c T n){r:Nat}(h:jc T n D0 s)(g:FL T c r D0 s){x:Int}(hx:x∈s.todo){j:Nat}(hj:j<T.length):
  jc T n D0 (nO T x s j)/\FL T c r D0 (nO T x s j)/\iZ s (nO T x s j)/\(x∈T.getD j []->(nO T x s j).used.getD j true=true):=by
 rw[nO];by_cases k:s.used.getD j true=true\/mS (T.getD j []) x=false
 ·rw[aap k];refine⟨h,g,iZ.refl s,fun hm=>?_⟩;rcases k with k | k
  ·exact k
  rw[oA.2 hm]at k;cases k
 rw[aaa k];have hm:x∈T.getD j []:=by
  refine oA.1 ?_;cases e:mS (T.getD j []) x with
  | true=>rfl
  | false=>exact absurd (.inr e) k
 obtain⟨b1,b2⟩:=sX h.br (j:Int);have gu:∀i,(s.used.set j true).getD i true=true↔i=j\/s.used.getD i true=true:=fun i=>by
  rw[jx (by rw[h.ulen];exact hj)];by_cases e:i=j<;>simp[e]
 have h1:jc T n D0 ⟨s.seen,s.pieces,oB s.bores j,s.used.set j true,s.todo⟩:=
  ⟨h.len,by show (s.used.set j true).length=_;rw[aaM,h.ulen],h.nod,h.mem,h.done,h.pr,h.pm,b1,fun y=>by
   show y∈oB s.bores j↔∃i:Nat,y=i/\i<T.length/\(s.used.set j true).getD i true=true;rw[b2,h.bm];constructor
   ·rintro (⟨i,e,i1,i2⟩ | e)
    ·exact⟨i,e,i1,(gu i).2 (.inr i2)⟩
    exact⟨j,e,hj,(gu j).2 (.inl rfl)⟩
   rintro⟨i,e,i1,i2⟩;rcases (gu i).1 i2 with e2 | e2
   ·exact .inr (by rw[e,e2])
   exact .inl ⟨i,e,i1,e2⟩⟩
 obtain⟨c1,c2,c3,c4⟩:=zV (T.getD j []) _ h1 (hc.Lf j);have st:iZ s ⟨s.seen,s.pieces,oB s.bores j,s.used.set j true,s.todo⟩:=⟨⟨[],by simp⟩,fun i hi=>(gu i).2 (.inr hi)⟩;have TB:=st.trans c2;refine⟨c1,⟨fun i hi hu p hp hd=>?_,fun i hi hu=>?_,fun p hp=>?_⟩,TB,fun _=>c2.used j ((gu j).2 (.inl rfl))⟩
 ·rw[c4]at hu;rcases (gu i).1 hu with e | e
  ·rw[e]at hp;exact (c3 p).2 (.inr ⟨hp,hd⟩)
  exact TB.mem (g.u1 i hi e p hp hd)
 ·rw[c4]at hu;rcases (gu i).1 hu with e | e
  ·rw[e];exact⟨x,TB.mem hx,hm⟩
  obtain⟨a,a1,a2⟩:=g.u2 i hi e;exact⟨a,TB.mem a1,a2⟩
 rcases (c3 p).1 hp with e | ⟨e,_⟩
 ·exact g.u4 p e
 rw[hc.edge j p x e hm];exact g.u4 x hx
theorem FM{T:List (List Int)}{n:Nat}{c:Nat->Nat}(hc:HR c T n){r:Nat}{x:Int}:∀(l:List Nat) (s:sY),(∀j∈l,j<T.length)->jc T n D0 s->FL T c r D0 s->x∈s.todo ->
  jc T n D0 (l.foldl (nO T x) s)/\FL T c r D0 (l.foldl (nO T x) s)/\iZ s (l.foldl (nO T x) s)/\∀j∈l,x∈T.getD j []->(l.foldl (nO T x) s).used.getD j true=true
 | [],s,_,h,g,_=>⟨h,g,iZ.refl s,fun j hj=>by cases hj⟩
 | j::l,s,hl,h,g,hx=>by
  obtain⟨a1,a2,a3,a4⟩:=P0 hc h g hx (hl j adU);obtain⟨b1,b2,b3,b4⟩:=FM hc l _ (fun i hi=>hl i (aaw _ hi)) a1 a2 (a3.mem hx);refine⟨b1,b2,a3.trans b3,fun i hi hm=>?_⟩;rcases adq.1 hi with e | e
  ·rw[e]at hm ⊢;exact b3.used j (a4 hm)
  exact b4 i e hm
theorem FO{T:List (List Int)}{n:Nat}(h:jc T n D0 s):(s.todo.map Int.toNat).Nodup:=by
 have hp:=aaS.1 h.nod;refine aaS.2 fun i j hi hj DX=>?_;rw[aej]at hi hj;rw[List.getElem_map,List.getElem_map];have a:=(h.mem _ (adn hi)).1;have b:=(h.mem _ (adn hj)).1;have:=hp i j hi hj DX;omega
theorem jc.le{T:List (List Int)}{n:Nat}(h:jc T n D0 s):s.todo.length<=n:=by
 have:=aeg (l₁:=s.todo.map Int.toNat) (l₂:=List.range n) (FO h) fun k hk=>by
  obtain⟨p,hp,rfl⟩:=adS.1 hk;have:=(h.mem p hp).1;exact abD.2 (by omega)
 simpa using this
theorem Jj{T:List (List Int)}{n:Nat}{c:Nat->Nat}(hc:HR c T n){r:Nat}(hr:r<n)(hd:∀k,k<n->c k=r->D0.getD k true=false):
  ∀(f i:Nat) (s:sY),jc T n D0 s->FL T c r D0 s->n<=f+i->(r:Int)∈s.todo->(∀m,m<i->m<s.todo.length->∀j,j<T.length->s.todo.getD m 0∈T.getD j []->s.used.getD j true=true)->
   jc T n D0 (p_ T f i s)/\(∀p,p∈(p_ T f i s).todo↔(0<=p/\p<n)/\c p.toNat=r)/\∀j,j<T.length->((p_ T f i s).used.getD j true=true↔∃a∈T.getD j [],c a.toNat=r)
 | f,i,s,h,g,hf,h0,h2=>by
  have fin:s.todo.length<=i->jc T n D0 s/\(∀p,p∈s.todo↔(0<=p/\p<n)/\c p.toNat=r)/\∀j,j<T.length->(s.used.getD j true=true↔∃a∈T.getD j [],c a.toNat=r):=fun hi=>by
   have full:∀a∈s.todo,∀j,j<T.length->a∈T.getD j []->s.used.getD j true=true:=fun a ha j hj hm=>by
    obtain⟨m,DW⟩:=ab8.1 ha;obtain⟨m1,m2⟩:=aao.1 DW;have e:s.todo.getD m 0=a:=by rw[ad4,DW];rfl
    exact h2 m (by omega) m1 j hj (by rw[e];exact hm)
   have all:∀p:Int,0<=p->p<n->c p.toNat=r->p∈s.todo:=fun p p0 pn e=>by
    have:=hc.cl (fun k=>(k:Int)∈s.todo) (fun j a b ha hb hS=>?_) p.toNat (by omega) (by show ((c p.toNat:Nat):Int)∈s.todo;rw[e];exact h0)
    ·rw[aee p0]at this;exact this
    have a0:=(hc.Lf j a ha).1;have b0:=hc.Lf j b hb;rw[aee a0]at hS;rw[aee b0.1];have hj:j<T.length:=by
     rcases aen j T.length with q | q
     ·exact q
     rw[ad4,abI q]at ha;cases ha
    refine g.u1 j hj (full a hS j hj ha) b hb (hd _ (by omega) ?_);rw[hc.edge j b a hb ha];exact g.u4 a hS
   refine⟨h,fun p=>⟨fun hp=>⟨(h.mem p hp).1,g.u4 p hp⟩,fun ⟨⟨p0,pn⟩,e⟩=>all p p0 pn e⟩,fun j hj=>⟨fun hu=>?_,fun ⟨a,ha,e⟩=>?_⟩⟩
   ·obtain⟨a,a1,a2⟩:=g.u2 j hj hu;exact⟨a,a2,g.u4 a a1⟩
   have:=hc.Lf j a ha;exact full a (all a this.1 this.2 e) j hj ha
  match f,hf with
  | 0,hf=>exact fin (by have:=h.le;omega)
  | f+1,hf=>
   rw[p_];by_cases k:i<s.todo.length
   ·rw[aap k];have ex:s.todo.getD i 0=s.todo[i]:=by rw[ad4,acg k];rfl
    have hm:s.todo.getD i 0∈s.todo:=by rw[ex];exact adn k
    obtain⟨b1,b2,b3,b4⟩:=FM hc (List.range T.length) s (fun j hj=>abD.1 hj) h g hm;refine Jj hc hr hd f (i+1) _ b1 b2 (by omega) (b3.mem h0) fun m hmi hml j hj DW=>?_;obtain⟨v,hv⟩:=b3.todo;have VG:m<s.todo.length:=by omega
    have e0:(s.todo++v).getD m 0=s.todo.getD m 0:=by rw[ad4,aaE VG,<-ad4]
    rw[hv,e0]at DW;by_cases e:m=i
    ·rw[e]at DW;exact b4 j (abD.2 hj) DW
    exact b3.used j (h2 m (by omega) VG j hj DW)
   rw[aaa k];exact fin (by omega)
theorem BY{m:Nat}:∀(l:List Int) (u:List Int) (E:List (Nat×Nat)),HL E u->m<u.length->(∀p∈l,0<=p/\p.toNat<u.length)->∃D,HL (E++D) (r_ m l u)/\∀e,e∈D↔∃p∈l,e=(p.toNat,m)
 | [],u,E,h,_,_=>⟨[],by rw[acw];exact h,fun e=>by simp⟩
 | p::r,u,E,h,hm,hl=>by
  have h1:=FA h (i:=p.toNat) (k:=m) (hl p adU).2 hm;have h2:=(mC h.uf (i:=p.toNat) (k:=m) (hl p adU).2 hm).2;obtain⟨D,d1,d2⟩:=BY r _ _ h1 (by rw[h2];exact hm) fun q hq=>by rw[h2];exact hl q (aaw _ hq)
  refine⟨(p.toNat,m)::D,by rw[abx,ac3]at d1;exact d1,fun e=>?_⟩;rw[adq,d2];simp only[adq,exists_eq_or_imp]
theorem BZ{n nb:Nat}:∀(l:List (List Int)) (k:Nat) (u:List Int) (E:List (Nat×Nat)),HL E u->u.length=n+nb->k+l.length<=nb->(∀x∈l,∀p∈x,0<=p/\p<n)->
  ∃D,HL (E++D) (uz n k l u)/\∀e,e∈D↔∃j:Nat,∃p∈l.getD j [],e=(p.toNat,n+(k+j))
 | [],k,u,E,h,_,_,_=>⟨[],by rw[acw];exact h,fun e=>by simp⟩
 | x::r,k,u,E,h,hl,hk,hx=>by
  simp only[aaB]at hk;obtain⟨D,d1,d2⟩:=BY (m:=n+k) x u E h (by omega) fun p hp=>by have:=hx x adU p hp;omega
  have h2:=(zC (m:=n+k) x u h.uf (by omega) fun p hp=>by have:=hx x adU p hp;omega).2;obtain⟨D',d3,d4⟩:=BZ r (k+1) _ _ d1 (h2.trans hl) (by omega) fun y hy=>hx y (aaw _ hy);refine⟨D++D',by rw[<-abx];exact d3,fun e=>?_⟩;rw[abi,d2,d4];constructor
  ·rintro (⟨p,hp,rfl⟩ | ⟨j,p,hp,rfl⟩)
   ·exact⟨0,p,hp,rfl⟩
   exact⟨j+1,p,by simpa using hp,by rw[show n+(k+1+j)=n+(k+(j+1)) by omega]⟩
  rintro⟨j,p,hp,rfl⟩;cases j with
  | zero=>exact .inl ⟨p,by simpa using hp,rfl⟩
  | succ j=>exact .inr ⟨j,p,by simpa using hp,by rw[show n+(k+1+j)=n+(k+(j+1)) by omega]⟩
structure VH(c:Nat->Nat)(T:List (List Int))(n:Nat):Prop where
 tops:Dg c (n+T.length)
 pc:HR c T n
 e1:∀j,∀a∈T.getD j [],c a.toNat=c (n+j)
 e2:∀j,j<T.length->T.getD j []=[]->∀m,m<n+T.length->c m=c (n+j)->m=n+j
theorem B0{n:Nat}{T:List (List Int)}(hT:∀x∈T,∀p∈x,0<=p/\p<n):VH (cQ (jm n T.length T)) T n:=by
 obtain⟨D,d1,d2⟩:=BZ (n:=n) (nb:=T.length) T 0 (iota (n+T.length)) [] (Fz _) (aeM _) (by omega) hT;have d1:HL D (jm n T.length T):=d1;have len:(jm n T.length T).length=n+T.length:=(qM T 0 _ (ny _) (aeM _) (by omega) hT).2;have d2:∀e,e∈D↔∃j:Nat,∃p∈T.getD j [],e=(p.toNat,n+j):=fun e=>by rw[d2 e];simp only[abC]
 generalize jm n T.length T=U at d1 len;have tp:=rz d1.uf;rw[len]at tp;have lt:∀{j:Nat} {a:Int},a∈T.getD j []->j<T.length:=fun {j a} ha=>by
  rcases aen j T.length with q | q
  ·exact q
  rw[ad4,abI q]at ha;cases ha
 have Lf:∀j,∀p∈T.getD j [],0<=p/\p<n:=fun j p hp=>by
  have hj:=lt hp;rw[ad4,acg hj]at hp;exact hT _ (adn hj) p hp
 have e1:∀j,∀a∈T.getD j [],cQ U a.toNat=cQ U (n+j):=fun j a ha=>by
  have:=Lf j a ha;have hj:=lt ha;exact (ae8 d1.uf (by omega) (by omega)).1 (d1.edge _ ((d2 _).2 ⟨j,a,ha,rfl⟩)).2.2
 refine⟨tp,⟨⟨fun m hm=>tp.le m (by omega),fun m hm=>tp.top m (by omega)⟩,Lf,fun j a b ha hb=>(e1 j a ha).trans (e1 j b hb).symm,fun S hS k hk hs=>?_⟩,e1,fun j hj he m hm hs=>?_⟩
 ·have hle:=tp.le k (by omega);have ss:kU U (cQ U k) k:=(ae8 d1.uf (by omega) (by omega)).2 (tp.top k (by omega));have:=d1.cl (fun x=>if x<n then S x else ∃a∈T.getD (x-n) [],S a.toNat) (fun e he=>?_) _ _ ss
  ·simp only[aap hk,aap (show cQ U k<n by omega)]at this;exact this.1 hs
  obtain⟨j,p,hp,rfl⟩:=(d2 e).1 he;have:=Lf j p hp;simp only[aap (show p.toNat<n by omega),aaa (show ¬n+j<n by omega),abG];exact⟨fun g=>⟨p,hp,g⟩,fun ⟨a,ha,g⟩=>hS j a p ha hp g⟩
 have ss:kU U m (n+j):=(ae8 d1.uf (by omega) (by omega)).2 hs;refine (d1.cl (fun x=>x=n+j) (fun e u_=>?_) _ _ ss).2 rfl;obtain⟨i,p,hp,rfl⟩:=(d2 e).1 u_;have:=Lf i p hp;show p.toNat=n+j↔n+i=n+j;constructor
 ·intro g;omega
 intro g;have:i=j:=by omega
 rw[this,he]at hp;cases hp
def Dw(c:Nat->Nat)(n r:Nat):List Int:=(dh c n r).map fun (k:Nat)=>(k:Int)
def zW(c:Nat->Nat)(T:List (List Int))(r:Nat):List Int:=((List.range T.length).filter fun j=>(T.getD j []).any fun a=>decide (c a.toNat=r)).map fun (k:Nat)=>(k:Int)
theorem zX(f:Nat->Bool)(n:Nat):bF (((List.range n).filter f).map fun (k:Nat)=>(k:Int)):=by
 rw[bF,abe];refine adO ?_ (adK acf List.pairwise_lt_range);intro a b h;omega
theorem KZ(c:Nat->Nat)(n r:Nat):bF (Dw c n r):=zX _ n
def j_(T:List (List Int))(n:Nat)(s:List Bool×List bh)(i:Nat):List Bool×List bh:=
 if s.1.getD i true=true then s else ((eH T n i s.1).seen,s.2++[⟨(eH T n i s.1).pieces,(eH T n i s.1).bores,[]⟩])
theorem K1{T:List (List Int)}{n:Nat}{c:Nat->Nat}(hc:HR c T n)(hl:D0.length=n){r:Nat}(hr:r<n)(hk:c r=r)(hd:∀k,k<n->c k=r->D0.getD k true=false):
  (eH T n r D0).seen.length=n/\(∀k,k<n->((eH T n r D0).seen.getD k true=true↔D0.getD k true=true\/c k=r))/\(eH T n r D0).pieces=Dw c n r/\(eH T n r D0).bores=zW c T r:=by
 have Qy:=hd r hr hk;have vU:∀j,j<T.length->(List.replicate T.length false).getD j true=true->False:=fun j hj h=>by
  rw[ad4,aeb,aap hj]at h;cases h
 obtain⟨h,h1,h2⟩:=Jj hc (D0:=D0) hr hd n 0 ⟨D0.set r true,[(r:Int)],[],List.replicate T.length false,[(r:Int)]⟩
  ⟨by show (D0.set r true).length=n;rw[aaM,hl],aan,by simp,fun p hp=>by
   rw[ab_.1 hp];exact⟨⟨by omega,by omega⟩,by rw[ad2];exact Qy⟩,fun p p0 pn=>by
   show (D0.set r true).getD p.toNat true=true↔_\/p∈[(r:Int)];rw[jx (by rw[hl];exact hr),ab_];by_cases e:p.toNat=r
   ·rw[aap e];exact⟨fun _=>.inr (by omega),fun _=>rfl⟩
   rw[aaa e];exact⟨.inl,fun g=>g.elim id fun g=>absurd (by rw[g];simp) e⟩,abw _ _,fun p=>aaT,List.Pairwise.nil,fun x=>⟨fun g=>(adI g).elim,fun ⟨j,_,j1,j2⟩=>(vU j j1 j2).elim⟩⟩
  ⟨fun j hj hu=>(vU j hj hu).elim,fun j hj hu=>(vU j hj hu).elim,fun p hp=>by rw[ab_.1 hp,ad2];exact hk⟩
  (by omega) (ab_.2 rfl) (fun m hm=>by omega)
 refine⟨h.len,fun k DK=>?_,nI _ _ h.pr (KZ c n r) fun p=>?_,nI _ _ h.br (zX _ _) fun x=>?_⟩
 ·have:=h.done (k:Int) (by omega) (by omega);rw[ad2,h1,ad2]at this;rw[show (eH T n r D0)=p_ T n 0 ⟨D0.set r true,[(r:Int)],[],List.replicate T.length false,[(r:Int)]⟩ from rfl,this];exact⟨fun g=>g.imp id fun g=>g.2,fun g=>g.imp id fun g=>⟨⟨by omega,by omega⟩,g⟩⟩
 ·show p∈(p_ T n 0 _).pieces↔_;rw[h.pm,h1,Dw,adS];constructor
  ·rintro⟨⟨a,b⟩,e⟩;exact⟨p.toNat,dx.2 ⟨by omega,e⟩,by omega⟩
  rintro⟨k,l_,rfl⟩;obtain⟨a,b⟩:=dx.1 l_;exact⟨⟨by omega,by omega⟩,by rw[ad2];exact b⟩
 show x∈(p_ T n 0 _).bores↔_;rw[h.bm,zW,adS];constructor
 ·rintro⟨j,e,j1,j2⟩;refine⟨j,adu.2 ⟨abD.2 j1,aci.2 ?_⟩,e.symm⟩;obtain⟨a,ha,e2⟩:=(h2 j j1).1 j2;exact⟨a,ha,acd e2⟩
 rintro⟨j,hj,rfl⟩;obtain⟨j1,j2⟩:=adu.1 hj;have j1:=abD.1 j1;obtain⟨a,ha,e2⟩:=aci.1 j2;exact⟨j,rfl,j1,(h2 j j1).2 ⟨a,ha,adw e2⟩⟩
theorem sZ{T:List (List Int)}{n:Nat}{c:Nat->Nat}(hc:HR c T n):∀i,i<=n ->
  ((List.range i).foldl (j_ T n) (List.replicate n false,[])).1.length=n /\
  (∀k,k<n->(((List.range i).foldl (j_ T n) (List.replicate n false,[])).1.getD k true=true↔c k<i))/\
  ((List.range i).foldl (j_ T n) (List.replicate n false,[])).2=(cd c i).map fun r=>⟨Dw c n r,zW c T r,[]⟩
 | 0,_=>by
  refine⟨by simp,fun k hk=>?_,rfl⟩;simp[ad4,hk]
 | i+1,hi=>by
  obtain⟨l1,d1,m1⟩:=sZ hc i (by omega);rw[ac2,aaD];generalize (List.range i).foldl (j_ T n) (List.replicate n false,[])=s at l1 d1 m1 ⊢;simp only[aaq,List.foldl_nil];have tp:=hc.tops.le i (by omega);rw[fE];by_cases e:c i=i
  ·have hd:s.1.getD i true=false:=by
    cases g:s.1.getD i true with
    | false=>rfl
    | true=>have:=(d1 i (by omega)).1 g;omega
   obtain⟨a1,a2,a3,a4⟩:=K1 hc l1 (r:=i) (by omega) e fun k hk g=>by
    cases q:s.1.getD k true with
    | false=>rfl
    | true=>have:=(d1 k hk).1 q;omega
   rw[j_,aaa (by rw[hd];simp),aap e];refine⟨a1,fun k hk=>?_,?_⟩
   ·rw[a2 k hk,d1 k hk];omega
   show s.2++_=_;rw[a3,a4,m1,abE];rfl
  have hd:s.1.getD i true=true:=(d1 i (by omega)).2 (by omega);rw[aaa e,j_,aap hd];refine⟨l1,fun k hk=>?_,m1⟩;rw[d1 k hk];constructor
  ·intro g;omega
  intro g;by_cases e2:c k=i
  ·have:=hc.tops.top k hk;rw[e2]at this;exact absurd this e
  omega
theorem zY(bs:List aS)(n g:Nat):∀(l:List Nat) (s:(List Int×List Int)×List Int×List Int),
  (l.foldl (jF bs n g) s).2.1=s.2.1++(l.filter fun i=>decide (i<n)).map (fun (i:Nat)=>(i:Int))/\
  (l.foldl (jF bs n g) s).2.2=s.2.2++(l.filter fun i=>!decide (i<n)&&bD bs (i-n)).map fun (i:Nat)=>(i:Int)-n
 | [],s=>by simp
 | i::l,s=>by
  obtain⟨h1,h2⟩:=zY bs n g l (jF bs n g s i);rw[aaq,h1,h2,jF];by_cases c:i<n
  ·rw[aap c,aby,aby];simp[c]
  rw[aaa c,aby,aby];have e:(bs.getD (i-n) ⟨0,0,0,0,0,false⟩).plated=bD bs (i-n):=rfl;rw[e];by_cases p:bD bs (i-n)=true
  ·rw[aap p];simp[c,p]
  rw[aaa p];simp[c,p]
def qT(bs:List aS)(n:Nat)(l:List Nat):bh:=⟨(l.filter fun i=>decide (i<n)).map (fun (i:Nat)=>(i:Int)),(l.filter fun i=>!decide (i<n)&&bD bs (i-n)).map (fun (i:Nat)=>(i:Int)-n),[]⟩
def B1(g:bh):Bool:=decide (0<g.pieces.length+g.bores.length)
theorem B2(bs:List aS)(n:Nat):∀(L:List (List Nat)) (s:(List Int×List Int)×List bh),(L.foldl (AT bs n) s).2=s.2++(L.map (qT bs n)).filter B1
 | [],s=>by simp
 | l::L,s=>by
  obtain⟨h1,h2⟩:=zY bs n s.2.length l (s.1,[],[]);rw[aaq,B2 bs n L,aa8,aby];have e:(AT bs n s l).2=s.2++if B1 (qT bs n l)=true then [qT bs n l] else []:=by
   show (if _ then _ else _)=_;rw[h1,h2,acZ,acZ];show (if 0<(qT bs n l).pieces.length+(qT bs n l).bores.length then s.2++[qT bs n l] else s.2)=_;by_cases c:B1 (qT bs n l)=true
   ·rw[aap c,aap (adw c)]
   rw[aaa c,aaa (fun g=>c (acd g)),acw]
  rw[e,abx];congr 1;by_cases c:B1 (qT bs n l)=true
  ·rw[aap c,aap c];rfl
  rw[aaa c,aaa c];rfl
def w8(bs:List aS)(T:List (List Int))(gs:List bh)(j:Nat):List bh:=if bD bs j=true/\(T.getD j []).length=0 then gs++[⟨[],[(j:Int)],[]⟩] else gs
def dR(bs:List aS)(T:List (List Int))(n:Nat):List bh:=(List.range T.length).foldl (w8 bs T) ((List.range n).foldl (j_ T n) (List.replicate n false,[])).2
theorem vV(bs:List aS)(T:List (List Int)):∀(l:List Nat) (gs:List bh),l.foldl (w8 bs T) gs=gs++(l.filter fun j=>bD bs j&&decide ((T.getD j []).length=0)).map fun (j:Nat)=>⟨[],[(j:Int)],[]⟩
 | [],gs=>by simp
 | j::l,gs=>by
  rw[aaq,vV bs T l,aby,w8];by_cases p:bD bs j=true/\(T.getD j []).length=0
  ·rw[aap p,p.1,acd p.2];simp
  rw[aaa p];have:(bD bs j&&decide ((T.getD j []).length=0))=false:=by
   rw[aaV];intro h;rw[aaZ]at h;exact p ⟨h.1,adw h.2⟩
  rw[this];rfl
theorem uM{bs:List aS}{T:List (List Int)}{n:Nat}(hlen:T.length=bs.length)(hT:∀x∈T,∀p∈x,0<=p/\p<n)(hp:∀j,j<T.length->bD bs j=false->T.getD j []=[]):
  dR bs T n=(jn bs n (aP (cQ (jm n bs.length T)) (n+bs.length))).2:=by
 rw[<-hlen];have bc:=B0 hT;generalize cQ (jm n T.length T)=c at bc;obtain⟨_,_,g3⟩:=sZ bc.pc n (aam _);have lt:∀{j:Nat} {a:Int},a∈T.getD j []->j<T.length:=fun {j a} ha=>by
  rcases aen j T.length with q | q
  ·exact q
  rw[ad4,abI q]at ha;cases ha
 rw[dR,g3,vV,jn,B2,acZ,aP,ad6];have ek:cd c (n+T.length)=cd c n++((List.range T.length).filter fun j=>decide (c (n+j)=n+j)).map fun j=>n+j:=by
  rw[cd,List.range_add,acA,cd,adk];rfl
 have em:∀r,dh c (n+T.length) r=dh c n r++((List.range T.length).filter fun j=>decide (c (n+j)=r)).map fun j=>n+j:=fun r=>by
  rw[dh,List.range_add,acA,dh,adk];rfl
 rw[ek,abE,acA];congr 1
 ·rw[ab2.2]
  ·refine aaG fun r hr=>?_;obtain⟨r1,r2⟩:=mem_keys.1 hr;show _=qT bs n (dh c (n+T.length) r);rw[qT,em,acA,acA];have f1:(dh c n r).filter (fun i=>decide (i<n))=dh c n r:=ab2.2 fun k hk=>acd (dx.1 hk).1;have f2:(((List.range T.length).filter fun j=>decide (c (n+j)=r)).map fun j=>n+j).filter (fun i=>decide (i<n))=[]:=abL.2 fun k hk=>by
    obtain⟨j,_,rfl⟩:=adS.1 hk;simp
   have f3:(dh c n r).filter (fun i=>!decide (i<n)&&bD bs (i-n))=[]:=abL.2 fun k hk=>by
    have:=(dx.1 hk).1;simp[this]
   rw[f1,f2,f3,acw,acZ,adk,ad6,List.filter_filter];have f4:((List.range T.length).filter fun j=>((fun i=>!decide (i<n)&&bD bs (i-n))∘fun j=>n+j) j&&decide (c (n+j)=r))=(List.range T.length).filter fun j=>(T.getD j []).any fun a=>decide (c a.toNat=r):=by
    refine aeh fun j hj=>?_;have hj:=abD.1 hj;rw[abb,aaZ,aci];simp only[Function.comp,abG,show ¬n+j<n by omega,decide_false,Bool.not_false,adr,aaH];constructor
    ·rintro⟨h1,h2⟩;cases e:T.getD j [] with
     | nil=>
      have Ro:=bc.e2 j hj e r (by omega) (by rw[r2];exact h2.symm);omega
     | cons a t=>exact⟨a,adU,by rw[bc.e1 j a (by rw[e];exact adU)];exact h2⟩
    rintro⟨a,ha,e⟩;refine⟨?_,by rw[<-bc.e1 j a ha];exact e⟩;cases q:bD bs j with
    | true=>rfl
    | false=>rw[hp j hj q]at ha;cases ha
   rw[f4];show (⟨Dw c n r,zW c T r,[]⟩:bh)=⟨Dw c n r,_,[]⟩;congr 1;refine aaG fun j _=>?_;show (j:Int)=((n+j:Nat):Int)-n;omega
  intro g hg;obtain⟨r,hr,rfl⟩:=adS.1 hg;obtain⟨r1,r2⟩:=mem_keys.1 hr;refine acd ?_;have:(r:Int)∈(qT bs n (dh c (n+T.length) r)).pieces:=adS.2 ⟨r,adu.2 ⟨dx.2 ⟨by omega,r2⟩,acd r1⟩,rfl⟩;have:=adL this;show 0<(qT bs n (dh c (n+T.length) r)).pieces.length+_;omega
 rw[ad6];have alone:∀j,j<T.length->c (n+j)=n+j->T.getD j []=[]:=fun j hj h=>by
  cases e:T.getD j [] with
  | nil=>rfl
  | cons a t=>
   have h1:=bc.e1 j a (by rw[e];exact adU);have h2:=bc.pc.Lf j a (by rw[e];exact adU);have h3:=bc.tops.le a.toNat (by omega);omega
 have self:∀j,j<T.length->T.getD j []=[]->c (n+j)=n+j:=fun j hj e=>by
  have h1:=bc.tops.le (n+j) (by omega);exact bc.e2 j hj e (c (n+j)) (by omega) (bc.tops.top _ (by omega))
 have VI:∀j,j<T.length->c (n+j)=n+j->qT bs n (dh c (n+T.length) (n+j))=⟨[],if bD bs j=true then [(j:Int)] else [],[]⟩:=fun j hj h=>by
  have e:=alone j hj h;have only:dh c (n+T.length) (n+j)=[n+j]:=by
   rw[em];have a1:dh c n (n+j)=[]:=abL.2 fun m hm=>by
    have hm:=abD.1 hm;have:=bc.tops.le m (by omega);simp only[aaH];omega
   have a2:(List.range T.length).filter (fun i=>decide (c (n+i)=n+j))=[j]:=by
    have:(List.range T.length).filter (fun i=>decide (c (n+i)=n+j))=(List.range T.length).filter (fun i=>decide (i=j)):=aeh fun i hi=>by
     have hi:=abD.1 hi;rw[abb,aaH,aaH];constructor
     ·intro q;have:=bc.e2 j hj e (n+i) (by omega) (by rw[h];exact q);omega
     intro q;rw[q];exact h
    rw[this];clear this;have:∀N,j<N->(List.range N).filter (fun i=>decide (i=j))=[j]:=by
     intro N
     induction N with
     | zero=>intro h;omega
     | succ N ih=>
      intro hN;rw[ac2,acA];by_cases q:j=N
      ·subst q;rw[abL.2 fun i hi=>by have:=abD.1 hi;simp;omega];simp
      rw[ih (by omega)];simp[Ne.symm q]
    exact this _ hj
   rw[a1,a2];rfl
  rw[only,qT];by_cases p:bD bs j=true
  ·simp[p];omega
  simp[p]
 rw[adk,List.filter_filter];have ef:(List.range T.length).filter (fun j=>bD bs j&&decide ((T.getD j []).length=0))=(List.range T.length).filter (fun j=>(B1∘((qT bs n∘dh c (n+T.length))∘fun j=>n+j)) j&&decide (c (n+j)=n+j)):=by
  refine aeh fun j hj=>?_;have hj:=abD.1 hj;by_cases h:c (n+j)=n+j
  ·have e:=alone j hj h;rw[acd h,ac7,e];show (bD bs j&&true)=B1 (qT bs n (dh c (n+T.length) (n+j)));rw[VI j hj h];cases bD bs j<;>rfl
  rw[aaz h,aav,aaC];refine .inr (aaz fun q=>h (self j hj (adN.1 q)))
 rw[<-ef];refine aaG fun j hj=>?_;obtain⟨h1,h2⟩:=adu.1 hj;have h1:=abD.1 h1;rw[aaZ]at h2;show _=qT bs n (dh c (n+T.length) (n+j));rw[VI j h1 (self j h1 (adN.1 (adw h2.2))),aap h2.1]
end Reg
end Go.Proofs.YtfloceomobknoaaGreatDoor
