/- Part 7 of the proof of RulesClearMatchSpec. -/
import Derived.Test.YtfloceomobknoaaGreatDoorC06
import Derived.Test.YtfloceomobknoaaGreatDoorProg
import Derived.WalkKit
import Derived.WalkSpells
import Derived.WalkLawsBesides
import Derived.Lib.Hide
import Derived.Shelf.Strings.Builder1
set_option linter.unusedVariables false
set_option linter.unusedSimpArgs false
set_option maxRecDepth 100000
set_option maxHeartbeats 8000000
namespace Go
abbrev abp:=@Bool.false_and
abbrev abe:=@List.pairwise_map
abbrev aaI:=@List.cons_append
abbrev acZ:=@List.nil_append
abbrev ad_:=@Go.Oper.upon_value
abbrev ab3:=@Go.Lib.cell_of_heap
end Go
namespace Go.Proofs.YtfloceomobknoaaGreatDoor
namespace Reg
def dE(x y:Int)(r:ae):Bool:=((decide (r.x0<=x)&&decide (x<r.x1))&&decide (r.y0<=y))&&decide (y<r.y1)
theorem aQ{x y:Int}{r:ae}:dE x y r=true↔r.x0<=x/\x<r.x1/\r.y0<=y/\y<r.y1:=by
 simp[dE,and_assoc]
def Full(r:ae):Prop:=r.x0<r.x1/\r.y0<r.y1
def RK(K:Int)(r:ae):Prop:=-K<=r.x0/\-K<=r.y0/\r.x1<=K/\r.y1<=K
theorem Q0{ys:List Int}(h:bF ys){k:Nat}{a b c:Int}(ha:ys[k]?=some a)(hb:ys[k+1]?=some b)(hc:c∈ys):c<=a\/b<=c:=by
 obtain⟨j,hj⟩:=ab8.1 hc;obtain⟨a1,a2⟩:=aao.1 ha;obtain⟨b1,b2⟩:=aao.1 hb;obtain⟨j1,j2⟩:=aao.1 hj;have H:=aaS.1 h;rcases ada j k with e | e | e
 ·have:=H j k j1 a1 e;omega
 ·subst e;rw[a2]at j2;omega
 rcases aen (k+1) j with e2 | e2
 ·have:=H (k+1) j b1 j1 e2;omega
 have:j=k+1:=by omega
 subst this;rw[b2]at j2;omega
theorem getD_some{l:List Int}{k:Nat}{a:Int}(h:l[k]?=some a):l.getD k 0=a:=by rw[ad4,h];rfl
theorem Db{l:List ae}(hl:∀r∈l,Full r)(y:Int)(x:Int):par (bw (rowOf l y)) x=l.any (dE x y):=by
 obtain⟨h1,h2⟩:=iS l y (fun r hr=>(hl r hr).1);rw[abb,cu h1,h2,aci];constructor
 ·rintro⟨r,hr,a,b⟩;exact⟨r,hr,aQ.2 ⟨b.1,b.2,a.1,a.2⟩⟩
 rintro⟨r,hr,a⟩;obtain⟨a1,a2,a3,a4⟩:=aQ.1 a;exact⟨r,hr,⟨a3,a4⟩,a1,a2⟩
theorem Nb{l:List ae}(hl:∀r∈l,Full r)(y:Int){K:Int}(hk:∀r∈l,RK K r):∀p∈rowOf l y,-K<=p.1/\p.2<=K:=by
 obtain⟨h1,h2⟩:=iS l y (fun r hr=>(hl r hr).1);intro p hp;have eF:=ga h1 p hp;obtain⟨r,hr,_,a,_⟩:=(h2 p.1).1 ⟨p,hp,acP _,eF⟩;obtain⟨q,hq,_,b1,b2⟩:=(h2 (p.2-1)).1 ⟨p,hp,by omega,by omega⟩;have g1:=hk r hr;have g2:=hk q hq;exact⟨by have:=g1.1;omega,by have:=g2.2.2.1;omega⟩
theorem AH{l:List ae}(hl:∀r∈l,Full r):∀(k:Nat) (y:Int),(aE l)[k]?=some y ->
  bE (cg l (aE l) k)/\(∀t∈cg l (aE l) k,t.y1<=y)/\(∀x z,at' (cg l (aE l) k) x z=(decide (z<y)&&l.any (dE x z)))/\∀K,(∀r∈l,RK K r)->cv K (cg l (aE l) k):=by
 obtain⟨hr,hm⟩:=cT l;intro k
 induction k with
 | zero=>
  intro y hy;refine⟨trivial,fun t ht=>(by cases ht),fun x z=>?_,fun K _ t ht=>(by cases ht)⟩;show false=_;symm;rw[aaC];by_cases hz:z<y
  ·right;rw[aaV];intro hp;obtain⟨r,m_,h⟩:=aci.1 hp;obtain⟨_,_,h3,_⟩:=aQ.1 h;have h4:r.y0∈aE l:=(hm _).2 ⟨r,m_,.inl rfl⟩;obtain⟨j,hj⟩:=ab8.1 h4;obtain⟨a1,a2⟩:=aao.1 hy;obtain⟨j1,j2⟩:=aao.1 hj;rcases ace j with e | e
   ·subst e;rw[a2]at j2;omega
   have:=aaS.1 hr 0 j a1 j1 e;omega
  left;exact aaz hz
 | succ k ih=>
  intro y hy;obtain⟨y',hy'⟩:∃y',(aE l)[k]?=some y':=by
   have:=(aao.1 hy).1;exact⟨_,acg (by omega)⟩
  obtain⟨i1,i2,i3,i4⟩:=ih y' hy';have eF:y' < y:=by
   obtain⟨a1,a2⟩:=aao.1 hy;obtain⟨b1,b2⟩:=aao.1 hy';have:=aaS.1 hr k (k+1) b1 a1 (by omega);omega
  rw[cg,getD_some hy',getD_some hy];obtain⟨h1,h2⟩:=iS l y' (fun r hr=>(hl r hr).1);obtain⟨p1,p2,p3,p4⟩:=jT (b:=⟨y',y,rowOf l y'⟩) i1 eF h1 i2;refine⟨p1,p2,fun x z=>?_,fun K hk t ht=>?_⟩
  ·rw[p3,i3,at_one];show (decide (z<y')&&l.any (dE x z)||decide (y'<=z)&&decide (z<y)&&par (bw (rowOf l y')) x)=_;rw[Db hl];by_cases c1:z<y'
   ·rw[acd c1,aaz (by omega:¬y'<=z),acd (by omega:z<y)];simp
   by_cases c2:z<y
   ·rw[aaz c1,acd (by omega:y'<=z),acd c2];simp only[abp,abv,adr];rw[abb,aci,aci];have go:∀r∈l,(dE x y' r=true↔dE x z r=true):=fun r m_=>by
     have g1:=Q0 hr hy' hy ((hm r.y0).2 ⟨r,m_,.inl rfl⟩);have g2:=Q0 hr hy' hy ((hm r.y1).2 ⟨r,m_,.inr rfl⟩);rw[aQ,aQ];omega
    constructor
    ·rintro⟨r,m_,h⟩;exact⟨r,m_,(go r m_).1 h⟩
    rintro⟨r,m_,h⟩;exact⟨r,m_,(go r m_).2 h⟩
   rw[aaz c1,aaz c2];simp
  have e1:=p2 t ht;have e1:t.y1<=y:=e1;have top:∀c,c∈aE l->-K<=c/\c<=K:=fun c hc=>by
   obtain⟨r,m_,e⟩:=(hm c).1 hc;have g:=hk r m_;have g2:=hl r m_;unfold RK at g;unfold Full at g2;omega
  have t1:=top y (aad hy);have t2:=top y' (aad hy');rcases p4 t ht with⟨u,hu,x1,x2⟩ | ⟨x1,x2⟩
  ·have g:=i4 K hk u hu;rw[<-x1,<-x2];exact⟨g.1,by omega,g.2.2⟩
  rw[x1,x2];exact⟨t2.1,by omega,Nb hl y' hk⟩
theorem aR{l:List ae}(hl:∀r∈l,Full r):bE (aB l)/\(∀x z,at' (aB l) x z=l.any (dE x z))/\∀K,(∀r∈l,RK K r)->cv K (aB l):=by
 obtain⟨hr,hm⟩:=cT l;cases hg:aE l with
 | nil=>
  have e:l=[]:=by
   cases l with
   | nil=>rfl
   | cons r l=>
    have:r.y0∈aE (r::l):=(hm _).2 ⟨r,by simp,.inl rfl⟩;rw[hg]at this;cases this
  subst e;exact⟨trivial,fun x z=>rfl,fun K _ t ht=>by cases ht⟩
 | cons a u=>
  obtain⟨y,hy⟩:∃y,(aE l)[(aE l).length-1]?=some y:=⟨_,acg (by rw[hg];simp)⟩;obtain⟨h1,h2,h3,h4⟩:=AH hl _ y hy;refine⟨h1,fun x z=>?_,h4⟩;show at' (cg l (aE l) ((aE l).length-1)) x z=_;rw[h3];by_cases hz:z<y
  ·rw[acd hz,adr]
  rw[aaz hz,abp];symm;rw[aaV];intro hp;obtain⟨r,m_,h⟩:=aci.1 hp;obtain⟨_,_,_,h5⟩:=aQ.1 h;obtain⟨j,hj⟩:=ab8.1 ((hm r.y1).2 ⟨r,m_,.inr rfl⟩);obtain⟨a1,a2⟩:=aao.1 hy;obtain⟨j1,j2⟩:=aao.1 hj;rcases aen j ((aE l).length-1) with e | e
  ·have:=aaS.1 hr j _ j1 a1 e;omega
  have:j=(aE l).length-1:=by omega
  subst this;rw[a2]at j2;omega
variable {s:List an}
theorem gf{q:ae}:q∈told s↔∃b∈s,∃p∈b.xs,q=⟨p.1,b.y0,p.2,b.y1⟩:=by
 simp only[told,aax,adS];constructor
 ·rintro⟨b,hb,p,hp,e⟩;exact⟨b,hb,p,hp,e.symm⟩
 rintro⟨b,hb,p,hp,e⟩;exact⟨b,hb,p,hp,e.symm⟩
theorem iy(h:bE s)(x y:Int):(told s).any (dE x y)=at' s x y:=by
 rw[abb,aci,qB];constructor
 ·rintro⟨q,hq,hr⟩;obtain⟨b,hb,p,hp,rfl⟩:=gf.1 hq;obtain⟨h1,h2,h3,h4⟩:=aQ.1 hr;exact⟨b,hb,h3,h4,(cu (h.mem b hb).can x).2 ⟨p,hp,h1,h2⟩⟩
 rintro⟨b,hb,h3,h4,hp⟩;obtain⟨p,hp,h1,h2⟩:=(cu (h.mem b hb).can x).1 hp;exact⟨_,gf.2 ⟨b,hb,p,hp,rfl⟩,aQ.2 ⟨h1,h2,h3,h4⟩⟩
theorem bP(h:bE s):∀q∈told s,Full q:=fun q hq=>by
 obtain⟨b,hb,p,hp,rfl⟩:=gf.1 hq;exact⟨ga (h.mem b hb).can p hp,(h.mem b hb).lt⟩
theorem fR(h:bE s){K:Int}(hk:cv K s):∀q∈told s,RK K q:=fun q hq=>by
 obtain⟨b,hb,p,hp,rfl⟩:=gf.1 hq;obtain⟨h1,h2,h3⟩:=hk b hb;obtain⟨h4,h5⟩:=h3 p hp;exact⟨h4,h1,h5,h2⟩
theorem qC(h:bE s)(hn:∀x y,at' s x y=false):s=[]:=by
 cases s with
 | nil=>rfl
 | cons b s=>
  have hb:=h.head;obtain⟨p,u,e⟩:∃p u,b.xs=p::u:=by
   cases hx:b.xs with
   | nil=>exact absurd hx hb.ne
   | cons p u=>exact⟨p,u,rfl⟩
  have h1:at' (b::s) p.1 b.y0=true:=qB.2 ⟨b,by simp,acP _,hb.lt,(cu hb.can _).2 ⟨p,by rw[e];simp,acP _,ga hb.can p (by rw[e];simp)⟩⟩;rw[hn]at h1;cases h1
def dJ(l r d u:Int)(q:ae):ae:=⟨q.x0-l,q.y0-d,q.x1+r,q.y1+u⟩
def a_(s:List an)(l r d u:Int):List an:=aB ((told s).map (dJ l r d u))
theorem bW(h:bE s){l r d u:Int}(hl:0<=l)(hr:0<=r)(hd:0<=d)(hu:0<=u):
  bE (a_ s l r d u)/\(∀x y,at' (a_ s l r d u) x y=true↔∃a b,at' s a b=true/\x-r<=a/\a<=x+l/\y-u<=b/\b<=y+d)/\∀K M,cv K s->l<=M->r<=M->d<=M->u<=M->cv (K+M) (a_ s l r d u):=by
 have hf:∀q∈(told s).map (dJ l r d u),Full q:=fun q hq=>by
  obtain⟨p,hp,rfl⟩:=adS.1 hq;have:=bP h p hp;unfold Full at this;exact⟨by show p.x0-l<p.x1+r;omega,by show p.y0-d<p.y1+u;omega⟩
 obtain⟨h1,h2,h3⟩:=aR hf;refine⟨h1,fun x y=>?_,fun K M hk m1 m2 m3 m4=>h3 _ fun q hq=>?_⟩
 ·rw[a_,h2,aci];constructor
  ·rintro⟨q,hq,hh⟩;obtain⟨p,hp,rfl⟩:=adS.1 hq;obtain⟨g1,g2,g3,g4⟩:=aQ.1 hh;have g1:p.x0-l<=x:=g1;have g2:x<p.x1+r:=g2;have g3:p.y0-d<=y:=g3;have g4:y<p.y1+u:=g4;have hf:=bP h p hp;unfold Full at hf;refine⟨max p.x0 (min x (p.x1-1)),max p.y0 (min y (p.y1-1)),?_,by omega,by omega,by omega,by omega⟩;rw[<-iy h,aci];exact⟨p,hp,aQ.2 ⟨by omega,by omega,by omega,by omega⟩⟩
  rintro⟨a,b,qb,g1,g2,g3,g4⟩;rw[<-iy h,aci]at qb;obtain⟨p,hp,hh⟩:=qb;obtain⟨f1,f2,f3,f4⟩:=aQ.1 hh;exact⟨_,adS.2 ⟨p,hp,rfl⟩,aQ.2 ⟨by show p.x0-l<=x;omega,by show x<p.x1+r;omega,by show p.y0-d<=y;omega,by show y<p.y1+u;omega⟩⟩
 obtain⟨p,hp,rfl⟩:=adS.1 hq;obtain⟨f1,f2,f3,f4⟩:=fR h hk p hp;exact⟨by show -(K+M)<=p.x0-l;omega,by show -(K+M)<=p.y0-d;omega,by show p.x1+r<=K+M;omega,by show p.y1+u<=K+M;omega⟩
def p8(a b:List an):Int:=match a,b with
 | p::_,q::_=>min p.y0 q.y0
 | p::_,[]=>p.y0
 | [],q::_=>q.y0
 | [],[]=>0
def c9:List an->Int
 | []=>0
 | [b]=>b.y1
 | _::c::r=>c9 (c::r)
def p9(a b:List an):Int:=match a,b with
 | p::r,q::u=>max (c9 (p::r)) (c9 (q::u))
 | p::r,[]=>c9 (p::r)
 | [],q::u=>c9 (q::u)
 | [],[]=>0
theorem Dc(h:bE s):∀t∈s,t.y1<=c9 s:=by
 induction s with
 | nil=>intro t ht;cases ht
 | cons b s ih=>
  cases s with
  | nil=>intro t ht;rw[ab_]at ht;subst ht;exact acP _
  | cons c r=>
   intro t ht;rw[c9];rcases adq.1 ht with e | ht
   ·subst e;have h1:=ih h.tail c (by simp);have h2:=h.2.1;have h3:=h.tail.head.lt;omega
   exact ih h.tail t ht
theorem nL{K:Int}:∀{s:List an},s≠[]->cv K s->c9 s<=K
 | [],h,_=>absurd rfl h
 | [b],_,hk=>(hk b (by simp)).2.1
 | _::c::r,_,hk=>by rw[c9];exact nL (by simp) (fun t ht=>hk t (by simp at ht ⊢;exact .inr ht))
def ik(k:Bool->Bool->Bool)(a b:List an):List an:=if a.length+b.length=0 then [] else dI k (p9 a b-p8 a b).toNat a b (p8 a b) (p9 a b) []
theorem lO{k:Bool->Bool->Bool}(hk:k false false=false){a b:List an}(ha:bE a)(hb:bE b):
  bE (ik k a b)/\(∀x y,at' (ik k a b) x y=k (at' a x y) (at' b x y))/\∀K,cv K a->cv K b->cv K (ik k a b):=by
 unfold ik;by_cases e:a.length+b.length=0
 ·rw[aap e];have ea:a=[]:=adl (by omega);have eb:b=[]:=adl (by omega);subst ea eb;exact⟨trivial,fun x y=>hk.symm,fun K _ _ t ht=>by cases ht⟩
 rw[aaa e];have la:∀t∈a,p8 a b<=t.y0:=fun t ht=>by
  cases a with
  | nil=>cases ht
  | cons p r=>
   have h1:p.y0<=t.y0:=by
    rcases adq.1 ht with e | ht
    ·subst e;exact acP _
    have:=ha.fM t ht;have:=ha.head.lt;omega
   cases b with
   | nil=>exact h1
   | cons q u=>show min p.y0 q.y0<=t.y0;omega
 have lb:∀t∈b,p8 a b<=t.y0:=fun t ht=>by
  cases b with
  | nil=>cases ht
  | cons q u=>
   have h1:q.y0<=t.y0:=by
    rcases adq.1 ht with e | ht
    ·subst e;exact acP _
    have:=hb.fM t ht;have:=hb.head.lt;omega
   cases a with
   | nil=>exact h1
   | cons p r=>show min p.y0 q.y0<=t.y0;omega
 have ua:∀t∈a,t.y1<=p9 a b:=fun t ht=>by
  have h1:=Dc ha t ht;cases a with
  | nil=>cases ht
  | cons p r=>
   cases b with
   | nil=>exact h1
   | cons q u=>show t.y1<=max (c9 (p::r)) (c9 (q::u));omega
 have ub:∀t∈b,t.y1<=p9 a b:=fun t ht=>by
  have h1:=Dc hb t ht;cases b with
  | nil=>cases ht
  | cons q u=>
   cases a with
   | nil=>exact h1
   | cons p r=>show t.y1<=max (c9 (p::r)) (c9 (q::u));omega
 obtain⟨m1,m2,m3⟩:=EO hk _ a b (p8 a b) (p9 a b) [] (aam _) ha hb trivial (fun t ht=>by cases ht) ua ub;refine⟨m1,fun x y=>?_,fun K g1 g2=>m3 K g1 g2 (fun t ht=>by cases ht) ?_ ?_⟩
 ·rw[m2];split
  ·rename_i hy;rw[jS (s:=a) fun t ht=>.inl (by have:=la t ht;omega),jS (s:=b) fun t ht=>.inl (by have:=lb t ht;omega),hk];rfl
  rfl
 ·cases a with
  | nil=>
   cases b with
   | nil=>exact absurd rfl e
   | cons q u=>exact (g2 q (by simp)).1
  | cons p r=>
   cases b with
   | nil=>exact (g1 p (by simp)).1
   | cons q u=>
    have:=(g1 p (by simp)).1;have:=(g2 q (by simp)).1;show -K<=min p.y0 q.y0;omega
 cases a with
 | nil=>
  cases b with
  | nil=>exact absurd rfl e
  | cons q u=>exact nL (by simp) g2
 | cons p r=>
  cases b with
  | nil=>exact nL (by simp) g1
  | cons q u=>
   have h1:=nL (by simp) g1;have h2:=nL (by simp) g2;show max (c9 (p::r)) (c9 (q::u))<=K;omega
def cG(a b:Bool):Bool:=a&&!b
def bN(a b:List an):List an:=ik cG a b
theorem b6{a b:List an}(ha:bE a)(hb:bE b):bE (bN a b)/\(∀x y,at' (bN a b) x y=(at' a x y&&!at' b x y))/\∀K,cv K a->cv K b->cv K (bN a b):=lO rfl ha hb
def aeD(b:an):Int:=(bw b.xs).headD 0
def g_(b:an):Int:=((bw b.xs).getLast?).getD 0
def gw(r:ae)(b:an):ae:=⟨min r.x0 (aeD b),r.y0,max r.x1 (g_ b),r.y1⟩
def bK:List an->ae
 | []=>⟨0,0,0,0⟩
 | b::s=>(b::s).foldl gw ⟨aeD b,b.y0,(bw b.xs).getD 1 0,c9 (b::s)⟩
theorem SE{b:an}(h:Canon b.xs):∀p∈b.xs,aeD b<=p.1:=fun p hp=>by
 have hr:=nt h;have hm:p.1∈bw b.xs:=aep.2 ⟨p,hp,.inl rfl⟩;unfold aeD;cases hc:bw b.xs with
 | nil=>rw[hc]at hm;cases hm
 | cons c u=>
  rw[hc]at hm hr;show c<=p.1;rcases adq.1 hm with e | hm
  ·omega
  have:=bF.behind hr _ hm;omega
theorem le_last{b:an}(h:Canon b.xs):∀p∈b.xs,p.2<=g_ b:=fun p hp=>by
 have hr:=nt h;have hm:p.2∈bw b.xs:=aep.2 ⟨p,hp,.inr rfl⟩;unfold g_;cases hl:(bw b.xs).getLast? with
 | none=>rw[adJ.1 hl]at hm;cases hm
 | some c=>
  obtain⟨d,hd⟩:=ad3.1 hl;rw[hd]at hm hr;show p.2<=c;rcases abi.1 hm with hm | hm
  ·have:=(abZ.1 hr).2.2 _ hm c (by simp);omega
  rw[ab_]at hm;omega
theorem Hd{b:an}{K:Int}(hb:IV b)(h:∀p∈b.xs,-K<=p.1/\p.2<=K):-K<=aeD b/\g_ b<=K/\(bw b.xs).getD 1 0<=K/\aeD b<(bw b.xs).getD 1 0:=by
 have hc:=hb.can;cases hx:b.xs with
 | nil=>exact absurd hx hb.ne
 | cons p u=>
  rw[hx]at h hc;have h1:=h p (by simp);have h2:=hc.head;refine⟨by unfold aeD;rw[hx];exact h1.1,?_,by exact h1.2,by unfold aeD;rw[hx];exact h2⟩;unfold g_;rw[hx];cases hl:(bw (p::u)).getLast? with
  | none=>rw[adJ]at hl;cases hl
  | some c=>
   obtain⟨q,hq,e⟩:=aep.1 (acp hl);have:=h q hq;have:=ga hc q hq;show c<=K;omega
theorem He:∀(s:List an) (r:ae),(s.foldl gw r).y0=r.y0/\(s.foldl gw r).y1=r.y1/\(s.foldl gw r).x0<=r.x0/\r.x1<=(s.foldl gw r).x1/\(∀b∈s,(s.foldl gw r).x0<=aeD b/\g_ b<=(s.foldl gw r).x1)/\
  ∀K,-K<=r.x0->r.x1<=K->(∀b∈s,-K<=aeD b/\g_ b<=K)->-K<=(s.foldl gw r).x0/\(s.foldl gw r).x1<=K:=by
 intro s
 induction s with
 | nil=>intro r;exact⟨rfl,rfl,acP _,acP _,fun b hb=>(by cases hb),fun K h1 h2 _=>⟨h1,h2⟩⟩
 | cons b s ih=>
  intro r;obtain⟨i1,i2,i3,i4,i5,i6⟩:=ih (gw r b);have w1:(gw r b).x0=min r.x0 (aeD b):=rfl;have w2:(gw r b).x1=max r.x1 (g_ b):=rfl;rw[aaq];refine⟨i1,i2,by omega,by omega,fun c hc=>?_,fun K h1 h2 h3=>?_⟩
  ·rcases adq.1 hc with e | hc
   ·subst e;omega
   exact i5 c hc
  have:=h3 b (by simp);exact i6 K (by omega) (by omega) fun c hc=>h3 c (by simp[hc])
theorem ui(h:bE s)(hn:s≠[]):Full (bK s)/\(∀x y,at' s x y=true->dE x y (bK s)=true)/\∀K,cv K s->RK K (bK s):=by
 cases s with
 | nil=>exact absurd rfl hn
 | cons b s=>
  have hb:=h.head;obtain⟨w1,w2,w3,w4,w5,w6⟩:=He (b::s) ⟨aeD b,b.y0,(bw b.xs).getD 1 0,c9 (b::s)⟩;have tm:=Dc h;obtain⟨K0,hK0⟩:∃K,∀p∈b.xs,-K<=p.1/\p.2<=K:=by
   have:∀l:aU,∃K,∀p∈l,-K<=p.1/\p.2<=K:=fun l=>by
    induction l with
    | nil=>exact⟨0,fun p h=>by cases h⟩
    | cons q l ih=>
     obtain⟨K,hK⟩:=ih;refine⟨max K (max (-q.1) q.2),fun p hp=>?_⟩;rcases adq.1 hp with e | hp
     ·subst e;omega
     have:=hK p hp;omega
   exact this _
  have cb:=(Hd hb hK0).2.2.2;have t1:=tm b (by simp);have eF:=hb.lt;have e1:bK (b::s)=(b::s).foldl gw ⟨aeD b,b.y0,(bw b.xs).getD 1 0,c9 (b::s)⟩:=rfl;rw[<-e1]at w1 w2 w3 w4 w5 w6;simp only at w1 w2 w3 w4;refine⟨⟨by omega,by omega⟩,fun x y Oy=>?_,fun K hk=>?_⟩
  ·obtain⟨c,hc,c1,c2,c3⟩:=qB.1 Oy;have Q1:=h.mem c hc;obtain⟨p,hp,p1,p2⟩:=(cu Q1.can x).1 c3;have f1:=SE Q1.can p hp;have f2:=le_last Q1.can p hp;have f3:=w5 c hc;have f4:=tm c hc;have f5:b.y0<=c.y0:=by
    rcases adq.1 hc with e | hc
    ·subst e;exact acP _
    have:=h.fM c hc;omega
   exact aQ.2 ⟨by omega,by omega,by omega,by omega⟩
  obtain⟨c1,c2,c3,_⟩:=Hd hb (hk b (by simp)).2.2;obtain⟨g1,g2⟩:=w6 K c1 c3 fun c hc=>by
   obtain⟨d1,d2,_,_⟩:=Hd (h.mem c hc) (hk c hc).2.2;exact⟨d1,d2⟩
  have g3:=nL (K:=K) (by simp) hk;have g4:=(hk b (by simp)).1;exact⟨g1,by omega,g2,by omega⟩
def coreS(s:List an)(l r d u:Int):List an:=if s=[] then [] else
 bN s (a_ (bN (aB [dJ (l+r+d+u+1) (l+r+d+u+1) (l+r+d+u+1) (l+r+d+u+1) (bK s)]) s) r l u d)
theorem pe(h:bE s){l r d u:Int}(hl:0<=l)(hr:0<=r)(hd:0<=d)(hu:0<=u):
  bE (coreS s l r d u)/\(∀x y,at' (coreS s l r d u) x y=true↔∀a b,x-l<=a->a<=x+r->y-d<=b->b<=y+u->at' s a b=true)/\∀K,cv K s->cv (K+(l+r+d+u+1)+(l+r+d+u)) (coreS s l r d u):=by
 unfold coreS;by_cases e:s=[]
 ·rw[aap e];subst e;refine⟨trivial,fun x y=>⟨fun h=>(by cases h),fun h=>?_⟩,fun K _ t ht=>(by cases ht)⟩;exact absurd (h x y (by omega) (by omega) (by omega) (by omega)) (by simp[at'])
 rw[aaa e];obtain⟨a1,a2,a3⟩:=ui h e;obtain⟨n,hn⟩:∃n,n=l+r+d+u+1:=⟨_,rfl⟩;rw[<-hn];have aN:∀q∈[dJ n n n n (bK s)],Full q:=fun q hq=>by
  rw[ab_]at hq;subst hq;unfold Full at a1;exact⟨by show (bK s).x0-n<(bK s).x1+n;omega,by show (bK s).y0-n<(bK s).y1+n;omega⟩
 obtain⟨b1,b2,b3⟩:=aR aN;obtain⟨c1,c2,c3⟩:=b6 b1 h;obtain⟨d1,d2,d3⟩:=bW c1 hr hl hu hd;obtain⟨e1,e2,e3⟩:=b6 h d1;refine⟨e1,fun x y=>?_,fun K hk=>?_⟩
 ·rw[e2,aaZ,ael];constructor
  ·rintro⟨h1,h2⟩ a b g1 g2 g3 g4;cases qb:at' s a b with
   | true=>rfl
   | false=>
    have ha:=aQ.1 (a2 x y h1);have:at' (a_ (bN (aB [dJ n n n n (bK s)]) s) r l u d) x y=true:=(d2 x y).2 ⟨a,b,by
     rw[c2,b2,qb];have:dE a b (dJ n n n n (bK s))=true:=aQ.2 ⟨by show (bK s).x0-n<=a;omega,by show a<(bK s).x1+n;omega,by show (bK s).y0-n<=b;omega,by show b<(bK s).y1+n;omega⟩;simp[this],by omega,by omega,by omega,by omega⟩
    rw[h2]at this;cases this
  intro aeL;refine⟨aeL x y (by omega) (by omega) (by omega) (by omega),?_⟩;rw[aaV];intro hp;obtain⟨a,b,g0,g1,g2,g3,g4⟩:=(d2 x y).1 hp;rw[c2,aeL a b (by omega) (by omega) (by omega) (by omega)]at g0;simp at g0
 have k1:cv (K+n) (aB [dJ n n n n (bK s)]):=b3 _ fun q hq=>by
  rw[ab_]at hq;subst hq;obtain⟨f1,f2,f3,f4⟩:=a3 K hk;exact⟨by show -(K+n)<=(bK s).x0-n;omega,by show -(K+n)<=(bK s).y0-n;omega,by show (bK s).x1+n<=K+n;omega,by show (bK s).y1+n<=K+n;omega⟩
 have up:∀{A B:Int} {t:List an},A<=B->cv A t->cv B t:=fun hAB ht b hb=>by
  obtain⟨x1,x2,x3⟩:=ht b hb;exact⟨by omega,by omega,fun p hp=>by have:=x3 p hp;omega⟩
 have k2:=c3 _ k1 (up (by omega) hk);have k3:=d3 (K+n) (l+r+d+u) k2 (by omega) (by omega) (by omega) (by omega);exact e3 _ (up (by omega) hk) k3
def ax(s:List an)(w:Int):List an:=if w<1 then [] else bN s (a_ (coreS s 0 (w-1) 0 (w-1)) 0 (w-1) 0 (w-1))
def Open(s:List an)(w x y:Int):Prop:=∃a b,a<=x/\x<a+w/\b<=y/\y<b+w/\∀c d,a<=c->c<a+w->b<=d->d<b+w->at' s c d=true
theorem cv.up{A B:Int}{t:List an}(h:A<=B)(ht:cv A t):cv B t:=fun b hb=>by
 obtain⟨x1,x2,x3⟩:=ht b hb;exact⟨by omega,by omega,fun p hp=>by have:=x3 p hp;omega⟩
theorem aeS(h:bE s)(w:Int):bE (ax s w)/\(∀x y,at' (ax s w) x y=true↔1<=w/\at' s x y=true/\¬Open s w x y):=by
 unfold ax;by_cases hw:w<1
 ·rw[aap hw];exact⟨trivial,fun x y=>⟨fun h=>(by cases h),fun h=>by omega⟩⟩
 rw[aaa hw];obtain⟨c1,c2,c3⟩:=pe h (l:=0) (r:=w-1) (d:=0) (u:=w-1) (by omega) (by omega) (by omega) (by omega);obtain⟨d1,d2,d3⟩:=bW c1 (l:=0) (r:=w-1) (d:=0) (u:=w-1) (by omega) (by omega) (by omega) (by omega);obtain⟨e1,e2,e3⟩:=b6 h d1;refine⟨e1,fun x y=>?_⟩;rw[e2,aaZ,ael,aaV,ne_eq,d2];have:(∃a b,at' (coreS s 0 (w-1) 0 (w-1)) a b=true/\x-(w-1)<=a/\a<=x+0/\y-(w-1)<=b/\b<=y+0)↔Open s w x y:=by
  constructor
  ·rintro⟨a,b,h1,h2,h3,h4,h5⟩;exact⟨a,b,by omega,by omega,by omega,by omega,fun c d g1 g2 g3 g4=>(c2 a b).1 h1 c d (by omega) (by omega) (by omega) (by omega)⟩
  rintro⟨a,b,h1,h2,h3,h4,h5⟩;exact⟨a,b,(c2 a b).2 fun c d g1 g2 g3 g4=>h5 c d (by omega) (by omega) (by omega) (by omega),by omega,by omega,by omega,by omega⟩
 rw[this];exact⟨fun g=>⟨by omega,g⟩,fun g=>g.2⟩
variable {w:Int}
theorem agY{v x y:Int}(h0:1<=w)(h:w<=v)(ho:Open s v x y):Open s w x y:=by
 obtain⟨a,b,h1,h2,h3,h4,h5⟩:=ho;refine⟨max a (x-w+1),max b (y-w+1),by omega,by omega,by omega,by omega,fun c d g1 g2 g3 g4=>h5 c d (by omega) (by omega) (by omega) (by omega)⟩
theorem agZ(h:bE s){v:Int}(hw:w<=v)(x y:Int)(ht:at' (ax s w) x y=true):at' (ax s v) x y=true:=by
 obtain⟨h1,h2,h3⟩:=((aeS h w).2 x y).1 ht;exact ((aeS h v).2 x y).2 ⟨by omega,h2,fun ho=>h3 (agY h1 hw ho)⟩
theorem ahb(h:bE s)(hw:w<=1):ax s w=[]:=by
 obtain⟨h1,h2⟩:=aeS h w;refine qC h1 fun x y=>?_;rw[aaV];intro hp;obtain⟨g1,g2,g3⟩:=(h2 x y).1 hp;have:w=1:=by omega
 subst this;exact g3 ⟨x,y,by omega,by omega,by omega,by omega,fun c d e1 e2 e3 e4=>by rw[show c=x by omega,show d=y by omega];exact g2⟩
theorem BA{hi:Int}:∀{s:aU} {p:Int×Int},Canon (p::s)->(∀q∈p::s,q.2<=hi)->2*((s.length:Int)+1)<=hi-p.1+1
 | [],p,h,hb=>by
  have h1:=h.head;have h2:=hb p (by simp);simp only[acs];omega
 | q::s,p,h,hb=>by
  have ih:=BA (s:=s) (p:=q) h.tail (fun t ht=>hb t (by simp at ht ⊢;exact .inr ht));have h1:=h.head;have h2:=h.behind q (by simp);simp only[aaB];omega
theorem iY{s:aU}{K:Int}(h:Canon s)(hK:0<=K)(hb:∀q∈s,-K<=q.1/\q.2<=K):2*(s.length:Int)<=2*K+1:=by
 cases s with
 | nil=>simp only[acs];omega
 | cons p s=>
  have h1:=BA h (fun q hq=>(hb q hq).2);have h2:=(hb p (by simp)).1;simp only[aaB];omega
theorem IW{hi:Int}:∀{s:List an} {b:an},bE (b::s)->(∀t∈b::s,t.y1<=hi)->(s.length:Int)+1<=hi-b.y0
 | [],b,h,hb=>by
  have h1:=h.head.lt;have h2:=hb b (by simp);simp only[acs];omega
 | c::s,b,h,hb=>by
  have ih:=IW (s:=s) (b:=c) h.tail (fun t ht=>hb t (by simp at ht ⊢;exact .inr ht));have h1:=h.head.lt;have h2:=h.2.1;simp only[aaB];omega
theorem cc{K:Int}(h:bE s)(hK:0<=K)(hb:cv K s):(s.length:Int)<=2*K:=by
 cases s with
 | nil=>simp only[acs];omega
 | cons b s=>
  have h1:=IW h (fun t ht=>(hb t ht).2.1);have h2:=(hb b (by simp)).1;simp only[aaB];omega
theorem kT{K:Int}(h:bE s)(hK:0<=K)(hb:cv K s):∀t∈s,2*(t.xs.length:Int)<=2*K+1:=fun t ht=>iY (h.mem t ht).can hK (hb t ht).2.2
theorem uj{M:Nat}:∀{s:List an},(∀t∈s,t.xs.length<=M)->(told s).length<=s.length*M
 | [],_=>by simp[told]
 | b::s,h=>by
  have ih:=uj (s:=s) (fun t ht=>h t (by simp[ht]));have h1:=h b (by simp);unfold told at ih ⊢;rw[abz,acv,aej,aaB,abR];omega
theorem fj(h:bE s)(hb:cv 1400000 s):(told s).length<=4398046511104:=by
 have h1:=cc h (by omega) hb;have h2:=uj (M:=1400000) (s:=s) fun t ht=>by have:=kT h (by omega) hb t ht;omega
 have h3:s.length*1400000<=2800000*1400000:=abf _ (by omega);omega
theorem EP{k:Bool->Bool->Bool}(h0:k false false=false){K:Int}{a b out:List an}{y e:Int}(eF:y<e)(ha:bE a)(hb:bE b)(ho:bE out)(h1:∀t∈out,t.y1<=y)(ka:cv K a)(kb:cv K b)(ko:cv K out)(hy:-K<=y)(he:e<=K):
  ∃nx L,nx=min (eI (aq y a) y e).2 (eI (aq y b) y e).2/\L=eo k (bw (eI (aq y a) y e).1) (bw (eI (aq y b) y e).1)/\y<nx/\nx<=e/\bw (pairUp L)=L/\bE (aq y a)/\bE (aq y b)/\cv K (aq y a)/\cv K (aq y b)/\
   bE (cA out ⟨y,nx,pairUp L⟩)/\(∀t∈cA out ⟨y,nx,pairUp L⟩,t.y1<=nx)/\cv K (cA out ⟨y,nx,pairUp L⟩)/\Canon (eI (aq y a) y e).1/\Canon (eI (aq y b) y e).1/\(∀p∈(eI (aq y a) y e).1,-K<=p.1/\p.2<=K)/\(∀p∈(eI (aq y b) y e).1,-K<=p.1/\p.2<=K):=by
 obtain⟨a1,a2,a3⟩:=e_ (y:=y) ha;obtain⟨b1,b2,b3⟩:=e_ (y:=y) hb;obtain⟨c1,c2,c3,c4,c5⟩:=iX a1 (fun t ht=>(a2 t ht).2) eF;obtain⟨d1,d2,d3,d4,d5⟩:=iX b1 (fun t ht=>(b2 t ht).2) eF;obtain⟨r1,r2,r3,r4⟩:=mw (k:=k) h0 c1 d1;obtain⟨nx,Au⟩:∃nx,nx=min (eI (aq y a) y e).2 (eI (aq y b) y e).2:=⟨_,rfl⟩;have n1:y<nx:=by omega
 have n2:nx<=e:=by omega
 have g1:∀p∈(eI (aq y a) y e).1,-K<=p.1/\p.2<=K:=fun p hp=>by obtain⟨q,hq,hp⟩:=c4 p hp;exact (ka q (a2 q hq).1).2.2 p hp
 have g2:∀p∈(eI (aq y b) y e).1,-K<=p.1/\p.2<=K:=fun p hp=>by obtain⟨q,hq,hp⟩:=d4 p hp;exact (kb q (b2 q hq).1).2.2 p hp
 have rr:=r4 K g1 g2;obtain⟨p1,p2,p3,p4⟩:=jT (b:=⟨y,nx,pairUp (eo k (bw (eI (aq y a) y e).1) (bw (eI (aq y b) y e).1))⟩) ho n1 r1 h1;refine⟨nx,_,Au,rfl,n1,n2,r3,a1,b1,fun t ht=>ka t (a2 t ht).1,fun t ht=>kb t (b2 t ht).1,p1,p2,fun t ht=>?_,c1,d1,g1,g2⟩;have e1:=p2 t ht;have e1:t.y1<=nx:=e1;rcases p4 t ht with⟨u,hu,x1,x2⟩ | ⟨x1,x2⟩
 ·have:=ko u hu;rw[<-x1,<-x2];exact⟨this.1,by omega,this.2.2⟩
 rw[x1,x2];exact⟨hy,by omega,rr⟩
theorem nu:∀(b:an) (s:List an),∃t,(b::s)[s.length]?=some t/\t.y1=c9 (b::s)
 | b,[]=>⟨b,rfl,rfl⟩
 | b,c::s=>by
  obtain⟨t,h1,h2⟩:=nu c s;exact⟨t,by simpa using h1,by rw[c9];exact h2⟩
theorem Nc{K:Int}{a b:List an}(ka:cv K a)(kb:cv K b)(hn:a.length+b.length≠0):-K<=p8 a b:=by
 cases a with
 | nil=>
  cases b with
  | nil=>simp at hn
  | cons q u=>exact (kb q (by simp)).1
 | cons p r=>
  cases b with
  | nil=>exact (ka p (by simp)).1
  | cons q u=>
   have:=(ka p (by simp)).1;have:=(kb q (by simp)).1;show -K<=min p.y0 q.y0;omega
theorem Nd{K:Int}{a b:List an}(ka:cv K a)(kb:cv K b)(hn:a.length+b.length≠0):p9 a b<=K:=by
 cases a with
 | nil=>
  cases b with
  | nil=>simp at hn
  | cons q u=>exact nL (by simp) kb
 | cons p r=>
  cases b with
  | nil=>exact nL (by simp) ka
  | cons q u=>
   have h1:=nL (by simp) ka;have h2:=nL (by simp) kb;show max (c9 (p::r)) (c9 (q::u))<=K;omega
theorem lR{b:an}(h:bE (b::s)){x y:Int}(h1:b.y0<=y)(h2:y<b.y1):at' (b::s) x y=par (bw b.xs) x:=by
 rw[show b::s=[b]++s from rfl,jR,at_one,acd h1,acd h2,jS (s:=s) fun t ht=>.inl (by have:=h.fM t ht;omega)];simp
theorem pj{b:an}{x y:Int}(h2:b.y1<=y):at' (b::s) x y=at' s x y:=by
 rw[show b::s=[b]++s from rfl,jR,at_one,aaz (by omega:¬y<b.y1)];simp
theorem um{b:an}(h:IV b):∃x,par (bw b.xs) x=true:=by
 cases hx:b.xs with
 | nil=>exact absurd hx h.ne
 | cons p u=>exact⟨p.1,by rw[<-hx];exact (cu h.can _).2 ⟨p,by rw[hx];simp,acP _,ga h.can p (by rw[hx];simp)⟩⟩
theorem Ng{p q:an}{r u:List an}(ha:bE (p::r))(hb:bE (q::u))(he:∀x y,at' (p::r) x y=at' (q::u) x y):q.y0<=p.y0:=by
 obtain⟨x,hx⟩:=um ha.head;have h1:=lR ha (x:=x) (acP _) ha.head.lt;rw[hx,he]at h1;obtain⟨t,ht,t1,t2,_⟩:=qB.1 h1;rcases adq.1 ht with e | ht
 ·subst e;exact t1
 have:=hb.fM t ht;have:=hb.head.lt;omega
theorem I2{p q:an}{r u:List an}(ha:bE (p::r))(hb:bE (q::u))(he:∀x y,at' (p::r) x y=at' (q::u) x y)(h0:p.y0=q.y0)(hx:p.xs=q.xs):q.y1<=p.y1:=by
 rcases Int.lt_or_le p.y1 q.y1 with h | h
 ·exfalso;have hp:=ha.head.lt;have row:∀x,at' r x p.y1=par (bw p.xs) x:=fun x=>by
   rw[<-pj (b:=p) (acP _),he,lR hb (by omega) h,hx]
  cases r with
  | nil=>
   obtain⟨x,h1⟩:=um ha.head;rw[<-row]at h1;cases h1
  | cons c r=>
   have hc:=ha.2.1;rcases Int.lt_or_le p.y1 c.y0 with h2 | h2
   ·obtain⟨x,h1⟩:=um ha.head;rw[<-row,jS (s:=c::r) fun t ht=>.inl (by
     rcases adq.1 ht with e | ht
     ·subst e;omega
     have:=ha.tail.fM t ht;have:=ha.tail.head.lt;omega)]at h1
    cases h1
   have e:p.y1=c.y0:=by omega
   refine ha.2.2.1 e (lJ _ _ ha.head.can ha.tail.head.can fun x=>?_);rw[<-cu ha.head.can,<-cu ha.tail.head.can,<-row x,lR ha.tail (by omega) (by have:=ha.tail.head.lt;omega)]
 exact h
theorem iK:∀(a b:List an),bE a->bE b->(∀x y,at' a x y=at' b x y)->a=b
 | [],b,_,hb,he=>(qC hb fun x y=>(he x y).symm).symm
 | p::r,[],ha,_,he=>qC ha fun x y=>he x y
 | p::r,q::u,ha,hb,he=>by
  have e0:p.y0=q.y0:=Int.le_antisymm (Ng hb ha fun x y=>(he x y).symm) (Ng ha hb he);have ex:p.xs=q.xs:=lJ _ _ ha.head.can hb.head.can fun x=>by
   rw[<-cu ha.head.can,<-cu hb.head.can,<-lR ha (acP _) ha.head.lt,he,lR hb (by omega) (by have:=hb.head.lt;omega)]
  have e1:p.y1=q.y1:=Int.le_antisymm (I2 hb ha (fun x y=>(he x y).symm) e0.symm ex.symm) (I2 ha hb he e0 ex);have ih:=iK r u ha.tail hb.tail fun x y=>by
   rcases Int.lt_or_le y p.y1 with h | h
   ·rw[jS (s:=r) fun t ht=>.inl (by have:=ha.fM t ht;omega),jS (s:=u) fun t ht=>.inl (by have:=hb.fM t ht;omega)]
   rw[<-pj (b:=p) h,he,pj (by omega)]
  have:p=q:=by
   cases p;cases q;simp only at e0 e1 ex;subst e0 e1 ex;rfl
  rw[this,ih]
theorem gN{a b:ae}:before a b=true↔a.y0<b.y0\/(a.y0=b.y0/\a.x0<b.x0):=by simp[before]
theorem Hh{s:aU}(h:Canon s):s.Pairwise fun p q=>p.1<q.1:=by
 induction s with
 | nil=>exact List.Pairwise.nil
 | cons p s ih=>
  refine ade.2 ⟨fun q hq=>?_,ih h.tail⟩;have:=h.behind q hq;have:=h.head;omega
theorem pk(h:bE s):(told s).Pairwise fun a b=>before a b=true:=by
 induction s with
 | nil=>exact List.Pairwise.nil
 | cons b s ih=>
  have e:told (b::s)=(b.xs.map fun p=>⟨p.1,b.y0,p.2,b.y1⟩)++told s:=rfl;rw[e];have az:(b.xs.map fun p=>(⟨p.1,b.y0,p.2,b.y1⟩:ae)).Pairwise fun a b=>before a b=true:=by
   rw[abe];refine (Hh h.head.can).imp fun {p q} hp=>?_;exact gN.2 (.inr ⟨rfl,hp⟩)
  refine abZ.2 ⟨az,ih h.tail,fun a ha c hc=>?_⟩;obtain⟨p,_,rfl⟩:=adS.1 ha;obtain⟨t,ht,q,_,rfl⟩:=gf.1 hc;have h1:=h.fM t ht;have h2:=h.head.lt;exact gN.2 (.inl (by show b.y0<t.y0;omega))
theorem qD(h:bE s)(hn:told s=[]):s=[]:=qC h fun x y=>by rw[<-iy h,hn];rfl
def ahE(a b:Bool):Bool:=a&&b
def nv(a b:Bool):Bool:=a||b
end Reg
namespace M
open Go.AM Go.RowKit Go.Lib
open Reg (ae aU an cn eo dv gZ cG)
def vA(f:FuncId):PV:=.im (.func (.func f) #[] #[])
inductive K3 where
 | less
 | and
 | or
def kF:K3->Bool->Bool->Bool
 | .less=>cG
 | .and=>Reg.ahE
 | .or=>Reg.nv
def kI:K3->FuncId
 | .less=>156
 | .and=>201
 | .or=>200
theorem aex(k:K3):kF k false false=false:=by cases k<;>rfl
theorem aev(k:K3)(a b:Bool):af C (kI k) [.pv (bool a),.pv (bool b)] (.p (bool (kF k a b))) []:=by
 cases k
 ·refine fW hC Tryz.func156 rfl (by kernel_rfl) fun _=>?_;refine iW ?_ ?_<;>intro h
  ·refine⟨?_,trivial⟩;subst h;rfl
  refine⟨?_,trivial⟩;have h:a=false:=by simpa using h
  subst h;rfl
 ·refine fW hC Tryz.func201 rfl (by kernel_rfl) fun _=>?_;refine iW ?_ ?_<;>intro h
  ·refine⟨?_,trivial⟩;subst h;rfl
  refine⟨?_,trivial⟩;have h:a=false:=by simpa using h
  subst h;rfl
 refine fW hC Tryz.func200 rfl (by kernel_rfl) fun _=>?_;refine iW ?_ ?_<;>intro h
 ·refine⟨?_,trivial⟩;subst h;rfl
 refine⟨?_,trivial⟩;have h:a=false:=by simpa using h
 subst h;rfl
theorem vB(k:Bool->Bool->Bool)(n:Nat)(ia ib is:Bool):cn k n [] [] ia ib is=[]:=by cases n<;>rfl
theorem eu(t:TypeId)(out:List Int)(p:Int):AB.row t ((out.map fun n=>[i64 n])++[[i64 p]])=AB.row t ((out++[p]).map fun n=>[i64 n]):=by simp
theorem bL(x:List PV)(es:List (List PV)):AV.p (.sl (((x::es).take ((((x::es).length:Nat):Int)).toNat).drop (1:Int).toNat))=AV.p (.sl es):=by simp
def aA(l:List Int):List (List PV):=l.map fun n=>[i64 n]
theorem aes(k3:K3)(a b:List Int)(hN:a.length+b.length<=4398046511104):af C 215 [.pv (ints a),.pv (ints b),.pv (vA (kI k3))] (.p (ints (eo (kF k3) a b))) []:=by
 have hk:=aev k3;obtain⟨KF,e7⟩:∃KF,KF=kF k3:=⟨_,rfl⟩;rw[<-e7]at hk ⊢;clear e7;cases k3
 all_goals
  refine fW hC Tryz.func215 rfl (by kernel_rfl) fun _=>?_;refine aJ (fun x:Nat×List Int×List Int×Bool×Bool×Bool×List Int=>x.2.1.length+x.2.2.1.length<=x.1/\x.2.2.2.2.2.2++cn KF x.1 x.2.1 x.2.2.1 x.2.2.2.1 x.2.2.2.2.1 x.2.2.2.2.2.1=eo KF a b/\x.2.2.2.2.2.2.length+x.1<=a.length+b.length)
   (fun x=>[(0,.p (ints x.2.1)),(1,.p (ints x.2.2.1)),(2,.p (vA _)),(7,.ow 7),(8,.p (bool x.2.2.2.1)),(9,.p (bool x.2.2.2.2.1)),(10,.p (bool x.2.2.2.2.2.1))])
   (fun x=>[(7,.row 3 (aA x.2.2.2.2.2.2))]) (fun x=>x.1) (a.length+b.length,a,b,false,false,false,[]) _ (au.dk hC _ 7 3 _ (by decide) rfl rfl (by decide)) ⟨aam _,rfl,by simp⟩ ⟨Z,Z,Z,Z,Z,Z,Z,Y⟩ ⟨Z,Y⟩ fun ⟨n,a',b',ia,ib,is,out⟩ hi t h=>?_
  obtain⟨h1,h2,h3⟩:=hi;simp only at h1 h2 h3;have lm:∀l:List Int,(l.map fun n=>[i64 n]).length=l.length:=fun l=>aej ..;rcases a' with _ | ⟨p,r⟩
  ·rcases b' with _ | ⟨q,u⟩
   ·rw[vB,acw]at h2;refine⟨?_,trivial⟩;rw[<-h2];rfl
   obtain⟨m,rfl⟩:∃m,n=m+1:=⟨n-1,by simp at h1;omega⟩;have e:cn KF (m+1) [] (q::u) ia ib is=if KF ia (!ib)=is then cn KF m [] u ia (!ib) is else q::cn KF m [] u ia (!ib) (KF ia (!ib)):=by simp[cn,gZ,dv]
   rw[e]at h2;simp at h1;refine iW ?_ ?_<;>intro g1<;>try simp only[zB]at g1
   ··
     refine⟨[i64 q],(idx (i:=0) rfl rfl),?_⟩;refine iW ?_ ?_<;>intro g2<;>try simp only[zB]at g2
     ·refine⟨[i64 q],(idx (i:=0) rfl rfl),?_⟩;refine iW ?_ ?_<;>intro g3<;>try simp only[zB]at g3
      ·refine⟨⟨by simp,by simp;omega⟩,?_⟩;refine⟨_,_,(hk ia (!ib)),?_⟩;refine iW ?_ ?_<;>intro g9<;>try simp only[zB]at g9
       ·have g9:¬KF ia (!ib)=is:=by simpa using g9
        rw[aaa g9]at h2;refine⟨⟨by simp,by simp[aA];omega,by simp[aA];omega⟩,?_⟩;exact⟨(m,[],u,ia,(!ib),KF ia (!ib),out++[q]),_,au.refl _ _,⟨by simp;omega,by simp only[abx,aaI,acZ];exact h2,by simp;omega⟩,by simp only;omega,⟨rfl,bL [i64 q] _,Z,Z,Z,Z,Z,Y⟩,⟨eu _ out q,trivial⟩⟩
       have g9:KF ia (!ib)=is:=by simpa using g9
       rw[aap g9]at h2;exact⟨(m,[],u,ia,(!ib),is,out),_,au.refl _ _,⟨by simp;omega,h2,by simp only;omega⟩,by simp only;omega,⟨rfl,bL [i64 q] _,Z,Z,Z,Z,Z,Y⟩,⟨Z,Y⟩⟩
      exact absurd trivial g3
     simp at g2
   simp at g1
  rcases b' with _ | ⟨q,u⟩
  ·obtain⟨m,rfl⟩:∃m,n=m+1:=⟨n-1,by simp at h1;omega⟩;have e:cn KF (m+1) (p::r) [] ia ib is=if KF (!ia) ib=is then cn KF m r [] (!ia) ib is else p::cn KF m r [] (!ia) ib (KF (!ia) ib):=by simp[cn,gZ,dv]
   rw[e]at h2;simp at h1;refine iW ?_ ?_<;>intro g1<;>try simp only[zB]at g1
   ·refine⟨[i64 p],(idx (i:=0) rfl rfl),?_⟩;refine iW ?_ ?_<;>intro g2<;>try simp only[zB]at g2
    ·refine⟨[i64 p],(idx (i:=0) rfl rfl),?_⟩;refine iW ?_ ?_<;>intro g3<;>try simp only[zB]at g3
     ·refine⟨⟨by simp,by simp;omega⟩,?_⟩;refine⟨_,_,(hk (!ia) ib),?_⟩;refine iW ?_ ?_<;>intro g9<;>try simp only[zB]at g9
      ·have g9:¬KF (!ia) ib=is:=by simpa using g9
       rw[aaa g9]at h2;refine⟨⟨by simp,by simp[aA];omega,by simp[aA];omega⟩,?_⟩;exact⟨(m,r,[],(!ia),ib,KF (!ia) ib,out++[p]),_,au.refl _ _,⟨by simp;omega,by simp only[abx,aaI,acZ];exact h2,by simp;omega⟩,by simp only;omega,⟨bL [i64 p] _,Z,Z,Z,Z,Z,Z,Y⟩,⟨eu _ out p,trivial⟩⟩
      have g9:KF (!ia) ib=is:=by simpa using g9
      rw[aap g9]at h2;exact⟨(m,r,[],(!ia),ib,is,out),_,au.refl _ _,⟨by simp;omega,h2,by simp only;omega⟩,by simp only;omega,⟨bL [i64 p] _,Z,Z,Z,Z,Z,Z,Y⟩,⟨Z,Y⟩⟩
     exact absurd trivial g3
    simp at g2
   simp at g1
  obtain⟨m,rfl⟩:∃m,n=m+1:=⟨n-1,by simp at h1;omega⟩;have e:cn KF (m+1) (p::r) (q::u) ia ib is=if KF (dv (if p<=q then p else q) (p::r) ia).2 (dv (if p<=q then p else q) (q::u) ib).2=is then cn KF m (dv (if p<=q then p else q) (p::r) ia).1 (dv (if p<=q then p else q) (q::u) ib).1 (dv (if p<=q then p else q) (p::r) ia).2 (dv (if p<=q then p else q) (q::u) ib).2 is else (if p<=q then p else q)::cn KF m (dv (if p<=q then p else q) (p::r) ia).1 (dv (if p<=q then p else q) (q::u) ib).1 (dv (if p<=q then p else q) (p::r) ia).2 (dv (if p<=q then p else q) (q::u) ib).2 (KF (dv (if p<=q then p else q) (p::r) ia).2 (dv (if p<=q then p else q) (q::u) ib).2):=rfl;rw[e]at h2;simp at h1;refine iW ?_ ?_<;>intro g1<;>try simp only[zB]at g1
  ··
    refine iW ?_ ?_<;>intro g3<;>try simp only[zB]at g3
    ·refine⟨[i64 p],(idx (i:=0) rfl rfl),?_⟩;refine⟨[i64 q],(idx (i:=0) rfl rfl),?_⟩;refine iW ?_ ?_<;>intro g4
     ·rw[aap g4]at h2;refine⟨[i64 p],(idx (i:=0) rfl rfl),?_⟩;refine iW ?_ ?_<;>intro g5<;>try simp only[zB]at g5
      ·refine⟨[i64 p],(idx (i:=0) rfl rfl),?_⟩;refine iW ?_ ?_<;>intro g6<;>try simp only[zB]at g6
       ·refine⟨⟨by simp,by simp;omega⟩,?_⟩;refine iW ?_ ?_<;>intro g7<;>try simp only[zB]at g7
        ·refine⟨[i64 q],(idx (i:=0) rfl rfl),?_⟩;refine iW ?_ ?_<;>intro g8
         ·refine⟨⟨by simp,by simp;omega⟩,?_⟩;rw[show dv p (p::r) ia=(r,!ia) by simp[dv],show dv p (q::u) ib=(u,!ib) by simp[dv,g8]]at h2;simp only at h2;refine⟨_,_,(hk (!ia) (!ib)),?_⟩;refine iW ?_ ?_<;>intro g9<;>try simp only[zB]at g9
          ·have g9:¬KF (!ia) (!ib)=is:=by simpa using g9
           rw[aaa g9]at h2;refine⟨⟨by simp,by simp[aA];omega,by simp[aA];omega⟩,?_⟩;exact⟨(m,r,u,(!ia),(!ib),KF (!ia) (!ib),out++[p]),_,au.refl _ _,⟨by simp;omega,by simp only[abx,aaI,acZ];exact h2,by simp;omega⟩,by simp only;omega,⟨bL [i64 p] _,bL [i64 q] _,Z,Z,Z,Z,Z,Y⟩,⟨eu _ out p,trivial⟩⟩
          have g9:KF (!ia) (!ib)=is:=by simpa using g9
          rw[aap g9]at h2;exact⟨(m,r,u,(!ia),(!ib),is,out),_,au.refl _ _,⟨by simp;omega,h2,by simp only;omega⟩,by simp only;omega,⟨bL [i64 p] _,bL [i64 q] _,Z,Z,Z,Z,Z,Y⟩,⟨Z,Y⟩⟩
         rw[show dv p (p::r) ia=(r,!ia) by simp[dv],show dv p (q::u) ib=(q::u,ib) by simp[dv,g8]]at h2;simp only at h2;refine⟨_,_,(hk (!ia) ib),?_⟩;refine iW ?_ ?_<;>intro g9<;>try simp only[zB]at g9
         ·have g9:¬KF (!ia) ib=is:=by simpa using g9
          rw[aaa g9]at h2;refine⟨⟨by simp,by simp[aA];omega,by simp[aA];omega⟩,?_⟩;exact⟨(m,r,(q::u),(!ia),ib,KF (!ia) ib,out++[p]),_,au.refl _ _,⟨by simp;omega,by simp only[abx,aaI,acZ];exact h2,by simp;omega⟩,by simp only;omega,⟨bL [i64 p] _,Z,Z,Z,Z,Z,Z,Y⟩,⟨eu _ out p,trivial⟩⟩
         have g9:KF (!ia) ib=is:=by simpa using g9
         rw[aap g9]at h2;exact⟨(m,r,(q::u),(!ia),ib,is,out),_,au.refl _ _,⟨by simp;omega,h2,by simp only;omega⟩,by simp only;omega,⟨bL [i64 p] _,Z,Z,Z,Z,Z,Z,Y⟩,⟨Z,Y⟩⟩
        simp at g7
       exact absurd trivial g6
      simp at g5
     rw[aaa g4]at h2;refine⟨[i64 q],(idx (i:=0) rfl rfl),?_⟩;refine iW ?_ ?_<;>intro g5<;>try simp only[zB]at g5
     ·refine⟨[i64 p],(idx (i:=0) rfl rfl),?_⟩;refine iW ?_ ?_<;>intro g6
      ·omega
      refine iW ?_ ?_<;>intro g7<;>try simp only[zB]at g7
      ·refine⟨[i64 q],(idx (i:=0) rfl rfl),?_⟩;refine iW ?_ ?_<;>intro g8<;>try simp only[zB]at g8
       ·refine⟨⟨by simp,by simp;omega⟩,?_⟩;rw[show dv q (q::u) ib=(u,!ib) by simp[dv],show dv q (p::r) ia=(p::r,ia) by simp[dv,g6]]at h2;simp only at h2;refine⟨_,_,(hk ia (!ib)),?_⟩;refine iW ?_ ?_<;>intro g9<;>try simp only[zB]at g9
        ·have g9:¬KF ia (!ib)=is:=by simpa using g9
         rw[aaa g9]at h2;refine⟨⟨by simp,by simp[aA];omega,by simp[aA];omega⟩,?_⟩;exact⟨(m,(p::r),u,ia,(!ib),KF ia (!ib),out++[q]),_,au.refl _ _,⟨by simp;omega,by simp only[abx,aaI,acZ];exact h2,by simp;omega⟩,by simp only;omega,⟨rfl,bL [i64 q] _,Z,Z,Z,Z,Z,Y⟩,⟨eu _ out q,trivial⟩⟩
        have g9:KF ia (!ib)=is:=by simpa using g9
        rw[aap g9]at h2;exact⟨(m,(p::r),u,ia,(!ib),is,out),_,au.refl _ _,⟨by simp;omega,h2,by simp only;omega⟩,by simp only;omega,⟨rfl,bL [i64 q] _,Z,Z,Z,Z,Z,Y⟩,⟨Z,Y⟩⟩
       exact absurd trivial g8
      simp at g7
     simp at g5
    simp at g3
  simp at g1
open Reg (eI aq dI ik p8 p9 c9 bw pairUp bE cv cA bN Canon)
theorem lZ:∀s:aU,flat s=bw s
 | []=>rfl
 | p::s=>by rw[flat,bw,lZ s]
def aw(s:List an):PV:=.sl (s.map hb)
theorem om(s:List an)(y e:Int):af C 214 [.pv (aw s),.pv (i64 y),.pv (i64 e)] (.tu [ints (bw (eI s y e).1),i64 (eI s y e).2]) []:=by
 refine fW hC Tryz.func214 rfl (by kernel_rfl) fun _=>?_;rcases s with _ | ⟨b,s⟩
 ·refine⟨?_,trivial⟩;rfl
 have e1:eI (b::s) y e=if y<b.y0 then ([],min e b.y0) else (b.xs,min e b.y1):=rfl;refine⟨(hb b),(idx (i:=0) rfl rfl),?_⟩;refine iW ?_ ?_<;>intro g2
 ·rw[e1,aap g2];refine⟨(hb b),(idx (i:=0) rfl rfl),?_⟩;refine⟨?_,trivial⟩;rfl
 rw[e1,aaa g2,<-lZ];refine⟨(hb b),(idx (i:=0) rfl rfl),?_⟩;refine⟨(hb b),(idx (i:=0) rfl rfl),?_⟩;refine⟨?_,trivial⟩;rfl
theorem ry{l:List an}:∀r∈l.map hb,r.length=3:=fun r hr=>by
 obtain⟨b,_,rfl⟩:=adS.1 hr;rfl
def st(a b:List an):Nat->Int×Int
 | 0=>(0,0)
 | 1=>match a with
  | []=>(0,0)
  | p::r=>(p.y0,c9 (p::r))
 | _=>(p8 a b,p9 a b)
theorem aer(k3:K3)(a b:List an)(ha:bE a)(hb':bE b)(ka:cv 2000000 a)(kb:cv 2000000 b):af C 155 [.pv (aw a),.pv (aw b),.pv (vA (kI k3))] (.p (aw (ik (kF k3) a b))) []:=by
 have hl:=aes k3;have h0:=aex k3;obtain⟨KF,e7⟩:∃KF,KF=kF k3:=⟨_,rfl⟩;rw[<-e7]at hl h0 ⊢;clear e7;let F:=kI k3;cases k3
 all_goals
  refine uX ⟨[],[4,6],[],[],[],[]⟩ hC Tryz.func155 rfl (by kernel_rfl) fun _=>?_;have la:=Reg.cc ha (by omega) ka;have lb:=Reg.cc hb' (by omega) kb;have ma:=ai a hb;have mb:=ai b hb;refine⟨⟨by rw[ma,mb];omega,by rw[ma,mb];omega⟩,?_⟩;refine iW ?_ ?_<;>intro g0
  ·rw[ma,mb]at g0;refine⟨?_,trivial⟩;rw[ik,aap (by omega)];rfl
  rw[ma,mb]at g0;have hn:a.length+b.length≠0:=by omega
  refine aJ (fun i:Nat=>i<=2) (fun i=>[(0,.p (aw a)),(1,.p (aw b)),(2,.p (vA F)),(7,.nl),(8,.p (i64 (st a b i).1)),(9,.p (i64 (st a b i).2)),(25,.ow 25),(26,.p (i64 (2:Nat))),(27,.p (i64 i))]) (fun i=>[(25,.row 59 [[aw a],[aw b]])]) (fun i=>2-i) 0 _ (au.refl _ _) (by omega) ⟨Z,Z,Z,Z,Z,Z,Z,Z,Z,Y⟩ ⟨Z,Y⟩ fun i hi t h=>?_;refine iW ?_ ?_<;>intro g1
  ·obtain rfl | rfl:i=0\/i=1:=by omega
   ·refine⟨⟨by simp,by simp⟩,?_⟩;refine⟨[aw a],rfl,?_⟩;rcases a with _ | ⟨p,r⟩
    ·refine⟨⟨by omega,by omega⟩,?_⟩;exact⟨1,_,au.refl _ _,by omega,by omega,⟨Z,Z,Z,Z,Z,Z,Z,Z,Z,Y⟩,⟨Z,Y⟩⟩
    obtain⟨t1,Aj,Lm⟩:=Reg.nu p r;simp at la;refine iW ?_ ?_<;>intro g2
    ·refine⟨(hb p),(idx (i:=0) rfl rfl),?_⟩;refine⟨⟨by simp,by simp;omega⟩,?_⟩;refine⟨(hb t1),(idx (show (((p::r).map hb).length:Int)-1=((r.length:Nat):Int) by simp) Aj),?_⟩;refine⟨(hb p),(idx (i:=0) rfl rfl),?_⟩;refine⟨⟨by simp,by simp;omega⟩,?_⟩;refine⟨(hb t1),(idx (show (((p::r).map hb).length:Int)-1=((r.length:Nat):Int) by simp) Aj),?_⟩;refine⟨⟨by omega,by omega⟩,?_⟩;exact⟨1,_,au.refl _ _,by omega,by omega,⟨rfl,rfl,rfl,rfl,a8 (show min p.y0 p.y0=p.y0 by omega),a8 (show max t1.y1 t1.y1=c9 (p::r) by omega),Z,Z,Z,Y⟩,⟨Z,Y⟩⟩
    simp at g2
   refine⟨⟨by simp,by simp⟩,?_⟩;refine⟨[aw b],rfl,?_⟩;rcases b with _ | ⟨q,u⟩
   ·refine⟨⟨by omega,by omega⟩,?_⟩;refine⟨2,_,au.refl _ _,?_⟩;have e1:st a [] 1=st a [] 2:=by
     rcases a with _ | ⟨p,r⟩
     ·simp at hn
     rfl
    exact⟨by omega,by omega,⟨rfl,rfl,rfl,rfl,a8 (by rw[e1]),a8 (by rw[e1]),Z,Z,Z,Y⟩,⟨Z,Y⟩⟩
   obtain⟨t1,Aj,Lm⟩:=Reg.nu q u;simp at lb;refine iW ?_ ?_<;>intro g2
   ·rcases a with _ | ⟨p,r⟩
    ·refine⟨(hb q),(idx (i:=0) rfl rfl),?_⟩;refine⟨⟨by simp,by simp;omega⟩,?_⟩;refine⟨(hb t1),(idx (show (((q::u).map hb).length:Int)-1=((u.length:Nat):Int) by simp) Aj),?_⟩;refine⟨(hb q),(idx (i:=0) rfl rfl),?_⟩;refine⟨⟨by simp,by simp;omega⟩,?_⟩;refine⟨(hb t1),(idx (show (((q::u).map hb).length:Int)-1=((u.length:Nat):Int) by simp) Aj),?_⟩;refine⟨⟨by omega,by omega⟩,?_⟩;exact⟨2,_,au.refl _ _,by omega,by omega,⟨rfl,rfl,rfl,rfl,a8 (show min q.y0 q.y0=q.y0 by omega),a8 (show max t1.y1 t1.y1=c9 (q::u) by omega),Z,Z,Z,Y⟩,⟨Z,Y⟩⟩
    refine⟨(hb q),(idx (i:=0) rfl rfl),?_⟩;refine⟨⟨by simp,by simp;omega⟩,?_⟩;refine⟨(hb t1),(idx (show (((q::u).map hb).length:Int)-1=((u.length:Nat):Int) by simp) Aj),?_⟩;refine⟨⟨by omega,by omega⟩,?_⟩;exact⟨2,_,au.refl _ _,by omega,by omega,⟨rfl,rfl,rfl,rfl,rfl,a8 (show max (c9 (p::r)) t1.y1=max (c9 (p::r)) (c9 (q::u)) by rw[Lm]),Z,Z,Z,Y⟩,⟨Z,Y⟩⟩
   simp at g2
  have e:i=2:=by omega
  subst e;have Ik:=Reg.Nc ka kb hn;have Il:=Reg.Nd ka kb hn;have e2:ik KF a b=dI KF (p9 a b-p8 a b).toNat a b (p8 a b) (p9 a b) []:=by rw[ik,aaa hn]
  rw[e2];obtain⟨lo,y8⟩:∃lo,lo=p8 a b:=⟨_,rfl⟩;obtain⟨e,GQ⟩:∃e,e=p9 a b:=⟨_,rfl⟩;rw[<-y8]at Ik;rw[<-GQ]at Il;rw[<-y8,<-GQ];have hR:∃R,R=dI KF (e-lo).toNat a b lo e []:=⟨_,rfl⟩;obtain⟨R,hR⟩:=hR;rw[<-hR];refine aJ (fun x:Nat×List an×List an×Int×List an=>(e-x.2.2.2.1).toNat<=x.1/\dI KF x.1 x.2.1 x.2.2.1 x.2.2.2.1 e x.2.2.2.2=R/\bE x.2.1/\bE x.2.2.1/\bE x.2.2.2.2/\(∀t∈x.2.2.2.2,t.y1<=x.2.2.2.1)/\cv 2000000 x.2.1/\cv 2000000 x.2.2.1/\cv 2000000 x.2.2.2.2/\-2000000<=x.2.2.2.1)
   (fun x=>[(0,.p (aw x.2.1)),(1,.p (aw x.2.2.1)),(2,.p (vA F)),(7,.ow 7),(8,.p (i64 x.2.2.2.1)),(9,.p (i64 e))]) (fun x=>[(7,.row 128 (x.2.2.2.2.map hb))]) (fun x=>x.1) ((e-lo).toNat,a,b,lo,[]) _
   (au.dk hC _ 7 128 _ (by decide) rfl rfl (by decide)) ⟨aam _,hR.symm,ha,hb',trivial,fun t ht=>(by cases ht),ka,kb,fun t ht=>(by cases ht),Ik⟩ ⟨rfl,rfl,rfl,rfl,a8 y8.symm,a8 GQ.symm,trivial⟩ ⟨Z,Y⟩ fun ⟨n,a',b',y,out⟩ hi t h=>?_
  obtain⟨i1,i2,i3,i4,i5,i6,i7,i8,i9,i10⟩:=hi;simp only at i1 i2 i3 i4 i5 i6 i7 i8 i9 i10;have Zm:=Reg.cc i3 (by omega) i7;have Zn:=Reg.cc i4 (by omega) i8;have U_:=Reg.cc i5 (by omega) i9;have Va:=Reg.kT i5 (by omega) i9;refine iW ?_ ?_<;>intro g2<;>try simp only[zB]at g2
  ·obtain⟨m,rfl⟩:∃m,n=m+1:=⟨n-1,by omega⟩;obtain⟨nx,L,Au,hL,j1,j2,j3,j4,j5,j6,j7,j8,j9,Vb,Vc,Vd,Ve,Vf⟩:=Reg.EP h0 g2 i3 i4 i5 i6 i7 i8 i9 i10 Il;rw[dI,aap g2,<-Au,<-hL]at i2;refine p7 (fun _:Unit=>True) (fun _=>[(0,.p (aw (aq y a'))),(1,.p (aw b')),(2,.p (vA F)),(7,.ow 7),(8,.p (i64 y)),(9,.p (i64 e))]) (fun _=>[(7,.row 128 (out.map hb))]) (fun _ _ t h=>?_) ?_;rotate_left
   ·refine aJ (fun s:List an=>aq y s=aq y a'/\(s.length:Int)<=4000000) (fun s=>[(0,.p (aw s)),(1,.p (aw b')),(2,.p (vA F)),(7,.ow 7),(8,.p (i64 y)),(9,.p (i64 e))]) (fun _=>[(7,.row 128 (out.map hb))]) (fun s=>s.length) a' _ (au.refl _ _) ⟨rfl,by omega⟩ ⟨Z,Z,Z,Z,Z,Z,Y⟩ ⟨Z,Y⟩ fun s hs t h=>?_;obtain⟨s1,s2⟩:=hs;rcases s with _ | ⟨c,s⟩
    ·rw[<-s1];exact⟨(),trivial,⟨Z,Z,Z,Z,Z,Z,Y⟩,⟨Z,Y⟩⟩
    simp at s2;refine iW ?_ ?_<;>intro d1
    ·refine⟨(hb c),(idx (i:=0) rfl rfl),?_⟩;refine iW ?_ ?_<;>intro d2
     ·refine⟨⟨by simp,(by first | omega | (simp;done) | (simp;omega)),(by first | omega | (simp;done) | (simp;omega)),ry⟩,?_⟩;refine⟨s,_,au.refl _ _,?_⟩;rw[aq,aap d2]at s1;exact⟨⟨s1,by omega⟩,by simp,⟨bL (hb c) _,Z,Z,Z,Z,Z,Y⟩,⟨Z,Y⟩⟩
     rw[aq,aaa d2]at s1;rw[<-s1];exact⟨(),trivial,⟨Z,Z,Z,Z,Z,Z,Y⟩,⟨Z,Y⟩⟩
    simp at d1
   refine p7 (fun _:Unit=>True) (fun _=>[(0,.p (aw (aq y a'))),(1,.p (aw (aq y b'))),(2,.p (vA F)),(7,.ow 7),(8,.p (i64 y)),(9,.p (i64 e))]) (fun _=>[(7,.row 128 (out.map hb))]) (fun _ _ t h=>?_) ?_;rotate_left
   ·refine aJ (fun s:List an=>aq y s=aq y b'/\(s.length:Int)<=4000000) (fun s=>[(0,.p (aw (aq y a'))),(1,.p (aw s)),(2,.p (vA F)),(7,.ow 7),(8,.p (i64 y)),(9,.p (i64 e))]) (fun _=>[(7,.row 128 (out.map hb))]) (fun s=>s.length) b' _ (au.refl _ _) ⟨rfl,by omega⟩ ⟨Z,Z,Z,Z,Z,Z,Y⟩ ⟨Z,Y⟩ fun s hs t h=>?_;obtain⟨s1,s2⟩:=hs;rcases s with _ | ⟨c,s⟩
    ·rw[<-s1];exact⟨(),trivial,⟨Z,Z,Z,Z,Z,Z,Y⟩,⟨Z,Y⟩⟩
    simp at s2;refine iW ?_ ?_<;>intro d1
    ·refine⟨(hb c),(idx (i:=0) rfl rfl),?_⟩;refine iW ?_ ?_<;>intro d2
     ·refine⟨⟨by simp,(by first | omega | (simp;done) | (simp;omega)),(by first | omega | (simp;done) | (simp;omega)),ry⟩,?_⟩;refine⟨s,_,au.refl _ _,?_⟩;rw[aq,aap d2]at s1;exact⟨⟨s1,by omega⟩,by simp,⟨rfl,bL (hb c) _,Z,Z,Z,Z,Y⟩,⟨Z,Y⟩⟩
     rw[aq,aaa d2]at s1;rw[<-s1];exact⟨(),trivial,⟨Z,Z,Z,Z,Z,Z,Y⟩,⟨Z,Y⟩⟩
    simp at d1
   have q1:=Reg.iY Vc (by omega) Ve;have q2:=Reg.iY Vd (by omega) Vf;have q3:=Reg.fN (eI (aq y a') y e).1;have q4:=Reg.fN (eI (aq y b') y e).1;have hp:af C 88 [.row 128 (out.map hb),.pv (.ag [i64 y,i64 (min (eI (aq y a') y e).2 (eI (aq y b') y e).2),ints (eo KF (bw (eI (aq y a') y e).1) (bw (eI (aq y b') y e).1))])] (.own 128 ((cA out ⟨y,nx,pairUp L⟩).map hb)) [.gone]:=by
    rw[<-Au,<-hL,show [i64 y,i64 nx,ints L]=hb ⟨y,nx,pairUp L⟩ by rw[hb,lZ,j3]];exact oZ out ⟨y,nx,pairUp L⟩ j1 (by omega) (fun t ht=>by have:=Va t ht;omega)
   refine⟨_,_,(om (aq y a') y e),?_⟩;refine⟨_,_,(om (aq y b') y e),?_⟩;refine⟨_,_,(hl (bw (eI (aq y a') y e).1) (bw (eI (aq y b') y e).1) (by omega)),?_⟩;refine⟨_,_,hp,?_⟩;exact⟨(m,aq y a',aq y b',nx,cA out ⟨y,nx,pairUp L⟩),_,au.refl _ _,⟨by simp only;omega,i2,j4,j5,j8,j9,j6,j7,Vb,by simp only;omega⟩,by simp only;omega,⟨rfl,rfl,rfl,rfl,a8 Au.symm,Z,Y⟩,⟨Z,Y⟩⟩
  have e3:dI KF n a' b' y e out=out:=by
   cases n with
   | zero=>rfl
   | succ n=>rw[dI,aaa g2]
  rw[e3]at i2;refine⟨?_,trivial⟩;rw[<-i2];rfl
open Reg (IV bK gw aeD g_ told dJ a_ coreS ax Full RK)
theorem iJ(a b:List an)(ha:bE a)(hb':bE b)(ka:cv 2000000 a)(kb:cv 2000000 b):af C 78 [.pv (aw a),.pv (aw b)] (.p (aw (bN a b))) []:=by
 refine fW hC Tryz.func78 rfl (by kernel_rfl) fun _=>?_;refine⟨_,_,(aer .less a b ha hb' ka kb),?_⟩;refine⟨?_,trivial⟩;rfl
theorem IX{b:an}(h:IV b):∃u,flat b.xs=aeD b::(bw b.xs).getD 1 0::u/\(flat b.xs)[(flat b.xs).length-1]?=some (g_ b):=by
 have b8:=h.ne;unfold aeD g_;rw[lZ];cases hx:b.xs with
 | nil=>exact absurd hx b8
 | cons p u=>
  refine⟨bw u,rfl,?_⟩;rw[<-acB];cases hl:(bw (p::u)).getLast? with
  | none=>rw[adJ]at hl;cases hl
  | some c=>rfl
theorem uk(s:List an)(hs:bE s)(ks:cv 2000000 s)(hn:s≠[]):af C 157 [.pv (aw s)] (.p (.ag (rc (bK s)))) []:=by
 refine uX ⟨[5],[],[],[],[(5,[true,true,true,true,true,true,true,true,true,true,false,true,false,false,true,false,false,true,true,false,true,true])],[]⟩ hC Tryz.func157 rfl (by kernel_rfl) fun _=>?_;have ls:=Reg.cc hs (by omega) ks;have ms:=ai s hb;rcases s with _ | ⟨b,s⟩
 ·exact absurd rfl hn
 obtain⟨u,hu,hl⟩:=IX hs.head;obtain⟨t1,Aj,Lm⟩:=Reg.nu b s;obtain⟨r0,Qy⟩:∃r0:ae,r0=⟨aeD b,b.y0,(bw b.xs).getD 1 0,t1.y1⟩:=⟨_,rfl⟩;have hA:bK (b::s)=(b::s).foldl gw r0:=by rw[Qy,Lm];rfl
 simp at ls;have Wo:(b::s).length<=4000000:=by simp;omega
 have g0:(flat b.xs)[0]?=some (aeD b):=by rw[hu];rfl
 have g1:(flat b.xs)[1]?=some ((bw b.xs).getD 1 0):=by rw[hu];rfl
 refine⟨(hb b),(idx (i:=0) rfl rfl),?_⟩;refine⟨[i64 (aeD b)],(idx (i:=0) rfl g0),?_⟩;refine⟨(hb b),(idx (i:=0) rfl rfl),?_⟩;refine⟨(hb b),(idx (i:=0) rfl rfl),?_⟩;refine⟨[i64 ((bw b.xs).getD 1 0)],(idx (i:=1) rfl g1),?_⟩;refine⟨⟨by simp,by simp;omega⟩,?_⟩;refine⟨(hb t1),(idx (show (((b::s).map hb).length:Int)-1=((s.length:Nat):Int) by simp) Aj),?_⟩;refine aJ (fun i:Nat=>i<=(b::s).length) (fun i=>[(2,.bx 2 0),(3,.bx 3 0),(30,.p (aw (b::s))),(31,.p (i64 ((b::s).map hb).length)),(32,.p (i64 i))]) (fun i=>[(2,.box [.p (i64 0),.p (i64 0),.p (i64 0),.p (i64 0)]),(3,.box [.p (i64 (((b::s).take i).foldl gw r0).x0),.p (i64 (((b::s).take i).foldl gw r0).y0),.p (i64 (((b::s).take i).foldl gw r0).x1),.p (i64 (((b::s).take i).foldl gw r0).y1)])]) (fun i=>(b::s).length-i) 0 _ (au.refl _ _) (aaj _) ⟨Z,Z,Z,Z,Z,Y⟩ ⟨rfl,by rw[Qy];rfl,trivial⟩ fun i hi t h=>?_;refine iW ?_ ?_<;>intro g2
 ·rw[ms]at g2;obtain⟨c,hc⟩:=ak (l:=b::s) (i:=i) (by omega);have cb:=hs.mem c (aad hc);obtain⟨u',qa,J1⟩:=IX cb;have lx:=Reg.kT hs (by omega) ks c (aad hc);have fl:=eY c.xs;have fm:=ai (flat c.xs) fun n=>[i64 n];have fne:1<=(flat c.xs).length:=by rw[qa];simp
  have g3:(flat c.xs)[0]?=some (aeD c):=by rw[qa];rfl
  have e1:((b::s).take (i+1)).foldl gw r0=gw (((b::s).take i).foldl gw r0) c:=by rw[aZ hc,aaD];rfl
  generalize ((b::s).take i).foldl gw r0=acc at *;refine⟨(hb c),(idx rfl hc),?_⟩;refine xp 5 (y:=.ip (hb c)) (fz:=[(5,.jd (hb c))]) (by exact hC) (by exact⟨rfl,rfl⟩) ?_;refine⟨[i64 (aeD c)],(idx (i:=0) rfl g3),?_⟩;refine⟨⟨by rw[fm];omega,by rw[fm];omega⟩,?_⟩;refine⟨[i64 (g_ c)],(idx (show (((flat c.xs).map fun n=>[i64 n]).length:Int)-1=(((flat c.xs).length-1:Nat):Int) by rw[fm];omega) J1),?_⟩;refine⟨⟨by omega,by omega⟩,?_⟩;refine⟨(i+1),_,au.refl _ _,?_⟩;rw[e1];exact⟨by omega,by omega,⟨Z,Z,Z,Z,Z,Y⟩,⟨Z,Z,Y⟩⟩
 rw[ms]at g2;refine⟨?_,trivial⟩;rw[adW (by omega),<-hA];rfl
theorem Kx{s:List an}{i:Nat}{b:an}(h:s[i]?=some b):(told (s.take (i+1))).length=(told (s.take i)).length+b.xs.length:=by
 rw[jM h,acv,aej]
theorem Hg(s:List an)(hN:s.length<=1000000000000)(hX:∀t∈s,t.xs.length<=1000000000000)(hT:(told s).length<=4398046511104):af C 90 [.pv (aw s)] (.p (i64 (told s).length)) []:=by
 refine fW hC Tryz.func90 rfl (by kernel_rfl) fun _=>?_;have ms:=ai s hb;have tl:∀i,(told (s.take i)).length<=(told s).length:=fun i=>by
  have e:told s=told (s.take i)++told (s.drop i):=by
   unfold told;rw[<-adG,aaU]
  rw[e,acv];omega
 refine aJ (fun i:Nat=>i<=s.length) (fun i=>[(3,.p (i64 (told (s.take i)).length)),(6,.p (aw s)),(7,.p (i64 (s.map hb).length)),(8,.p (i64 i))]) (fun i=>[]) (fun i=>s.length-i) 0 _ (au.refl _ _) (aaj _) ⟨Z,Z,Z,Z,Y⟩ trivial fun i hi t h=>?_;refine iW ?_ ?_<;>intro g2
 ·rw[ms]at g2;obtain⟨c,hc⟩:=ak (l:=s) (i:=i) (by omega);have fl:=eY c.xs;have fm:=ai (flat c.xs) fun n=>[i64 n];have e1:=Kx hc;have t1:=tl (i+1);have q:((((flat c.xs).map fun n=>[i64 n]).length:Nat):Int).tdiv 2=(c.xs.length:Int):=by
   rw[fm,fl,abk (by omega)];omega
  refine⟨(hb c),(idx rfl hc),?_⟩;refine⟨by decide,?_⟩;refine⟨⟨by rw[q];omega,by rw[q];omega⟩,?_⟩;refine⟨⟨by rw[q];omega,by rw[q];omega⟩,?_⟩;refine⟨⟨by omega,by omega⟩,?_⟩;exact⟨(i+1),_,au.refl _ _,by omega,by omega,⟨a8 (by rw[q,e1];omega),Z,Z,Z,Y⟩,trivial⟩
 rw[ms]at g2;refine⟨?_,trivial⟩;rw[adW (by omega)]
theorem y9:∀{l:List Int} {c hi:Int},Reg.bF (c::l)->(∀x∈c::l,x<=hi)->(l.length:Int)<=hi-c
 | [],c,hi,_,h=>by have:=h c (by simp);simp only[acs];omega
 | d::l,c,hi,hr,h=>by
  have ih:=y9 (l:=l) (c:=d) (hi:=hi) hr.tail (fun x hx=>h x (by simp at hx ⊢;exact .inr hx));have h1:=hr.behind d (by simp);simp only[aaB];omega
theorem kG(l:List ae)(K:Int)(h0:0<=K)(h1:K<=2000000)(hf:∀r∈l,Full r)(hk:∀r∈l,RK K r)(hN:l.length<=4398046511104):af C 34 [.pv (aj l)] (.own 128 ((Reg.aB l).map hb)) []:=by
 refine uc l (fun r hr=>?_) hN ?_ (fun y=>?_)
 ·have a:=hk r hr;have b:=hf r hr;unfold RK at a;unfold Full at b;exact⟨⟨by omega,by omega,by omega,by omega⟩,b.1,b.2⟩
 ·obtain⟨r1,r2⟩:=Reg.cT l;cases hh:Reg.aE l with
  | nil=>simp
  | cons c u=>
   rw[hh]at r1;have all:∀x∈c::u,-K<=x/\x<=K:=fun x hx=>by
    rw[<-hh]at hx;obtain⟨r,hr,e⟩:=(r2 x).1 hx;have a:=hk r hr;have b:=hf r hr;unfold RK at a;unfold Full at b;omega
   have:=y9 r1 (hi:=K) (fun x hx=>(all x hx).2);have:=(all c (by simp)).1;simp only[aaB];omega
 have c1:=(Reg.iS l y (fun r hr=>(hf r hr).1)).1;have:=Reg.iY c1 h0 (Reg.Nb hf y hk);omega
def lQ(l r d u:Int)(L:List ae)(i:Nat):List ae:=(L.take i).map (dJ l r d u)++L.drop i
theorem IY{l r d u:Int}{L:List ae}{i:Nat}{q:ae}(h:L[i]?=some q):(lQ l r d u L i)[i]?=some q:=by
 have hi:=(aao.1 h).1;have e:((L.take i).map (dJ l r d u)).length=i:=by rw[aej,aat];omega
 rw[lQ,acu (by omega),e,aab,aas,abQ,h]
theorem IZ(l r d u:Int)(L:List ae)(i:Nat):(lQ l r d u L i).length=L.length:=by
 rw[lQ,acv,aej,aat,aaN];omega
theorem I0{l r d u:Int}{L:List ae}{i:Nat}{q:ae}(h:L[i]?=some q):(lQ l r d u L i).set i (dJ l r d u q)=lQ l r d u L (i+1):=by
 have hi:=(aao.1 h).1;have e:((L.take i).map (dJ l r d u)).length=i:=by rw[aej,aat];omega
 have hd:L.drop i=q::L.drop (i+1):=by
  rw[acX hi,(aao.1 h).2]
 rw[lQ,List.set_append_right _ _ (by omega),e,aab,hd,lQ,aZ h,abE];simp
theorem pg(s:List an)(hs:bE s)(ks:cv 1400000 s)(l r d u:Int)(hl:0<=l/\l<=100000)(hr:0<=r/\r<=100000)(hd:0<=d/\d<=100000)(hu:0<=u/\u<=100000):af C 80 [.pv (aw s),.pv (i64 l),.pv (i64 r),.pv (i64 d),.pv (i64 u)] (.p (aw (a_ s l r d u))) []:=by
 refine fW hC Tryz.func80 rfl (by kernel_rfl) fun _=>?_;have ls:=Reg.cc hs (by omega) ks;have lx:=Reg.kT hs (by omega) ks;have lt:=Reg.fj hs ks;have tf:=Reg.bP hs;have ti:=Reg.fR hs ks;refine⟨_,_,(ae6 s (by omega) (fun t ht=>by have:=lx t ht;omega) lt),?_⟩;have so:=kG ((told s).map (dJ l r d u)) 1500000 (by omega) (by omega) (fun q hq=>by
  obtain⟨p,hp,rfl⟩:=adS.1 hq;have:=tf p hp;unfold Full at this;exact⟨by show p.x0-l<p.x1+r;omega,by show p.y0-d<p.y1+u;omega⟩) (fun q hq=>by
  obtain⟨p,hp,rfl⟩:=adS.1 hq;have:=ti p hp;unfold RK at this;exact⟨by show -1500000<=p.x0-l;omega,by show -1500000<=p.y0-d;omega,by show p.x1+r<=1500000;omega,by show p.y1+u<=1500000;omega⟩) (by rw[aej];exact lt)
 rw[show a_ s l r d u=Reg.aB ((told s).map (dJ l r d u)) from rfl];generalize told s=L at *;have lm:=fun i=>ai (lQ l r d u L i) rc;have ml:=IZ l r d u L;have m0:lQ l r d u L 0=L:=by simp[lQ]
 refine aJ (fun i:Nat=>i<=L.length) (fun i=>[(1,.p (i64 l)),(2,.p (i64 r)),(3,.p (i64 d)),(4,.p (i64 u)),(11,.ow 11),(16,.ow 11),(17,.p (i64 (L.map rc).length)),(18,.p (i64 i))]) (fun i=>[(11,.row 87 ((lQ l r d u L i).map rc))]) (fun i=>L.length-i) 0 _ (au.refl _ _) (aaj _) ⟨Z,Z,Z,Z,Z,Z,Z,Z,Y⟩ ⟨by rw[m0];rfl,trivial⟩ fun i hi t h=>?_;have lmi:=lm i;have mli:=ml i;have lm0:=ai L rc;refine iW ?_ ?_<;>intro g1
 ·obtain⟨q,hq⟩:=ak (l:=L) (i:=i) (by omega);have a:=ti q (aad hq);have b:=tf q (aad hq);unfold RK at a;unfold Full at b;have hm:=IY (l:=l) (r:=r) (d:=d) (u:=u) hq;have mT:=I0 (l:=l) (r:=r) (d:=d) (u:=u) hq;refine⟨⟨by omega,by omega⟩,?_⟩;refine⟨(rc q),(idx rfl hm).2,?_⟩;refine⟨⟨by omega,by omega⟩,?_⟩;refine⟨⟨by omega,by omega⟩,?_⟩;refine⟨⟨by omega,by omega⟩,?_⟩;refine⟨⟨by omega,by omega⟩,?_⟩;refine⟨⟨by omega,by omega⟩,?_⟩;refine⟨(rc q),(idx rfl hm).2,?_⟩;refine⟨⟨by omega,by omega⟩,?_⟩;have e5:∀k:Nat,k=i->AB.row 87 (((lQ l r d u L i).map rc).set k (rc (dJ l r d u q)))=AB.row 87 ((lQ l r d u L (i+1)).map rc):=by
   intro k e;subst e;rw[<-ad8,mT]
  exact⟨(i+1),_,au.refl _ _,by omega,by omega,⟨Z,Z,Z,Z,Z,Z,Z,Z,Y⟩,⟨e5 _ rfl,trivial⟩⟩
 have e:lQ l r d u L i=L.map (dJ l r d u):=by
  rw[lQ,adW (by omega),ab1 (by omega),acw]
 rw[e];refine⟨_,_,so,?_⟩;refine⟨?_,trivial⟩;rfl
open Reg (at')
theorem agH(s:List an)(hs:bE s)(ks:cv 1000000 s)(l r d u:Int)(hl:0<=l/\l<=100000)(hr:0<=r/\r<=100000)(hd:0<=d/\d<=100000)(hu:0<=u/\u<=100000)(hn:l+r+d+u<=199999):af C 79 [.pv (aw s),.pv (i64 l),.pv (i64 r),.pv (i64 d),.pv (i64 u)] (.p (aw (coreS s l r d u))) []:=by
 refine fW hC Tryz.func79 rfl (by kernel_rfl) fun _=>?_;have ms:=ai s hb;refine iW ?_ ?_<;>intro g0
 ·rw[ms]at g0;have e:s=[]:=adl (by omega);refine⟨?_,trivial⟩;rw[coreS,aap e];rfl
 rw[ms]at g0;have b8:s≠[]:=fun e=>g0 (by rw[e];rfl);rw[coreS,aaa b8];obtain⟨a1,a2,a3⟩:=Reg.ui hs b8;have a4:=a3 _ ks;have aN:∀q∈[dJ (l+r+d+u+1) (l+r+d+u+1) (l+r+d+u+1) (l+r+d+u+1) (bK s)],Full q:=fun q hq=>by
  rw[ab_]at hq;subst hq;unfold Full at a1;exact⟨by show (bK s).x0-(l+r+d+u+1)<(bK s).x1+(l+r+d+u+1);omega,by show (bK s).y0-(l+r+d+u+1)<(bK s).y1+(l+r+d+u+1);omega⟩
 have Ty:∀q∈[dJ (l+r+d+u+1) (l+r+d+u+1) (l+r+d+u+1) (l+r+d+u+1) (bK s)],RK 1200000 q:=fun q hq=>by
  rw[ab_]at hq;subst hq;unfold RK at a4;exact⟨by show -1200000<=(bK s).x0-(l+r+d+u+1);omega,by show -1200000<=(bK s).y0-(l+r+d+u+1);omega,by show (bK s).x1+(l+r+d+u+1)<=1200000;omega,by show (bK s).y1+(l+r+d+u+1)<=1200000;omega⟩
 obtain⟨b1,b2,b3⟩:=Reg.aR aN;have b4:=b3 _ Ty;obtain⟨c1,c2,c3⟩:=Reg.b6 b1 hs;have c4:=c3 1200000 b4 (ks.up (by omega));obtain⟨d1,d2,d3⟩:=Reg.bW c1 hr.1 hl.1 hu.1 hd.1;have d4:=(d3 1200000 100000 c4 hr.2 hl.2 hu.2 hd.2).up (B:=2000000) (by omega);have so:=kG _ 1200000 (by omega) (by omega) aN Ty (by simp);have q1:=iJ _ s b1 hs (b4.up (by omega)) (ks.up (by omega));have q2:=pg _ c1 (c4.up (by omega)) r l u d hr hl hu hd;have q3:=iJ s _ hs d1 (ks.up (by omega)) d4;unfold RK at a4;unfold Full at a1;refine⟨_,_,(uk s hs (ks.up (by omega)) b8),?_⟩;refine⟨⟨by omega,by omega⟩,?_⟩;refine⟨⟨by omega,by omega⟩,?_⟩;refine⟨⟨by omega,by omega⟩,?_⟩;refine⟨⟨by omega,by omega⟩,?_⟩;refine⟨⟨by omega,by omega⟩,?_⟩;refine⟨⟨by omega,by omega⟩,?_⟩;refine⟨⟨by omega,by omega⟩,?_⟩;refine⟨⟨by omega,by omega⟩,?_⟩;refine⟨_,_,so,?_⟩;refine⟨_,_,q1,?_⟩;refine⟨_,_,q2,?_⟩;refine⟨_,_,q3,?_⟩;refine⟨?_,trivial⟩;rfl
theorem Dd{a b:List an}(ha:bE a)(hb':bE b){K:Int}(kb:cv K b)(h:∀x y,at' a x y=true->at' b x y=true):cv K a:=fun t ht=>by
 have bt:=ha.mem t ht;have lt:=bt.lt;have pin:∀x y,at' b x y=true->-K<=x/\x<K/\-K<=y/\y<K:=fun x y Oy=>by
  rw[<-Reg.iy hb',aci]at Oy;obtain⟨q,hq,hh⟩:=Oy;obtain⟨h1,h2,h3,h4⟩:=Reg.aQ.1 hh;obtain⟨g1,g2,g3,g4⟩:=Reg.fR hb' kb q hq;exact⟨by omega,by omega,by omega,by omega⟩
 have pt:∀p∈t.xs,∀x y,p.1<=x->x<p.2->t.y0<=y->y<t.y1->at' b x y=true:=fun p hp x y h1 h2 h3 h4=>h x y (Reg.qB.2 ⟨t,ht,h3,h4,(Reg.cu bt.can x).2 ⟨p,hp,h1,h2⟩⟩);obtain⟨p,u,e⟩:∃p u,t.xs=p::u:=by
  cases hx:t.xs with
  | nil=>exact absurd hx bt.ne
  | cons p u=>exact⟨p,u,rfl⟩
 have pm:p∈t.xs:=by rw[e];simp
 have pl:=Reg.ga bt.can p pm;have c1:=pin p.1 t.y0 (pt p pm _ _ (by omega) (by omega) (by omega) (by omega));have c2:=pin p.1 (t.y1-1) (pt p pm _ _ (by omega) (by omega) (by omega) (by omega));refine⟨c1.2.2.1,by omega,fun q hq=>?_⟩;have ql:=Reg.ga bt.can q hq;have d1:=pin q.1 t.y0 (pt q hq _ _ (by omega) (by omega) (by omega) (by omega));have d2:=pin (q.2-1) t.y0 (pt q hq _ _ (by omega) (by omega) (by omega) (by omega));omega
theorem I1{a b:List an}(ha:bE a)(hb':bE b){K:Int}(ka:cv K a):cv K (bN a b):=by
 obtain⟨h1,h2,_⟩:=Reg.b6 ha hb';refine Dd h1 ha ka fun x y h=>?_;rw[h2,aaZ]at h;exact h.1
theorem afY(s:List an)(hs:bE s)(ks:cv 1000000 s)(w:Int)(h0:0<=w)(hw:w<=100000):af C 33 [.pv (aw s),.pv (i64 w)] (.p (aw (ax s w))) []:=by
 refine fW hC Tryz.func33 rfl (by kernel_rfl) fun _=>?_;refine iW ?_ ?_<;>intro g0
 ·refine⟨?_,trivial⟩;rw[ax,aap g0];rfl
 rw[ax,aaa g0];obtain⟨c1,c2,c3⟩:=Reg.pe hs (l:=0) (r:=w-1) (d:=0) (u:=w-1) (by omega) (by omega) (by omega) (by omega);have kc:cv 1000000 (coreS s 0 (w-1) 0 (w-1)):=Dd c1 hs ks fun x y h=>(c2 x y).1 h x y (by omega) (by omega) (by omega) (by omega);obtain⟨d1,d2,d3⟩:=Reg.bW c1 (l:=0) (r:=w-1) (d:=0) (u:=w-1) (by omega) (by omega) (by omega) (by omega);have d4:=(d3 1000000 100000 kc (by omega) (by omega) (by omega) (by omega)).up (B:=2000000) (by omega);have q1:=agH s hs ks 0 (w-1) 0 (w-1) ⟨by omega,by omega⟩ ⟨by omega,by omega⟩ ⟨by omega,by omega⟩ ⟨by omega,by omega⟩ (by omega);have q2:=pg _ c1 (kc.up (by omega)) 0 (w-1) 0 (w-1) ⟨by omega,by omega⟩ ⟨by omega,by omega⟩ ⟨by omega,by omega⟩ ⟨by omega,by omega⟩;have q3:=iJ s _ hs d1 (ks.up (by omega)) d4;refine⟨⟨by omega,by omega⟩,?_⟩;refine⟨⟨by omega,by omega⟩,?_⟩;refine⟨_,_,q1,?_⟩;refine⟨⟨by omega,by omega⟩,?_⟩;refine⟨⟨by omega,by omega⟩,?_⟩;refine⟨_,_,q2,?_⟩;refine⟨_,_,q3,?_⟩;refine⟨?_,trivial⟩;rfl
structure Nf(l:List ae):Prop where
 sok:bE (Reg.aB l)
 ink:cv 1000000 (Reg.aB l)
 at_:∀x y,at' (Reg.aB l) x y=l.any (Reg.dE x y)
 full:∀r∈l,Full r
 rk:∀r∈l,RK 1000000 r
 len:l.length<=2000
theorem ph{l:List ae}(h:Reg.aF l=0):Nf l:=by
 have h0:Reg.cz l=0:=by
  unfold Reg.aF at h;by_cases h0:Reg.cz l=0
  ·exact h0
  rw[aaa h0]at h;exact absurd h h0
 obtain⟨g1,g2⟩:=Reg.jK h0;have hf:∀r∈l,Full r:=fun r hr=>⟨(g2 r hr).2.1,(g2 r hr).2.2⟩;have hk:∀r∈l,RK 1000000 r:=fun r hr=>by
  have:=(g2 r hr).1;simp[Reg.c7,Reg.kR]at this;exact⟨by omega,by omega,by omega,by omega⟩
 obtain⟨b1,b2,b3⟩:=Reg.aR hf;exact⟨b1,b3 _ hk,b2,hf,hk,g1⟩
theorem BB{l:List ae}(h:Nf l):af C 34 [.pv (aj l)] (.own 128 ((Reg.aB l).map hb)) []:=kG l 1000000 (by omega) (by omega) h.full h.rk (by have:=h.len;omega)
end M
namespace Reg
structure aS where
 x:Int
 y:Int
 size:Int
 lo:Int
 hi:Int
 plated:Bool
structure fo where
 part:ByteArray
 pin:ByteArray
 layer:Int
 x:Int
 y:Int
structure fS where
 coppers:List (List ae)
 outline:List ae
 bores:List aS
 lands:List fo
def within(n lo hi:Int):Bool:=decide (lo<=n)&&decide (n<=hi)
def aa(b:aS):ae:=⟨b.x-b.size.tdiv 2,b.y-b.size.tdiv 2,b.x-b.size.tdiv 2+b.size,b.y-b.size.tdiv 2+b.size⟩
def bO(b:aS):Bool:=within b.size 1 10000&&(kR b.x&&kR b.y)
def cJ(b:aS):Bool:=bO b&&c7 (aa b)
def Q2:ae:=⟨0,0,0,0⟩
def ee(b:aS):ae×Int:=if cJ b=true then (aa b,0) else (Q2,1)
theorem bX{b:aS}(h:bO b=true):Full (aa b):=by
 simp[bO,within,kR]at h;exact⟨by simp[aa];omega,by simp[aa];omega⟩
theorem er{b:aS}(h:bO b=true):RK 1010000 (aa b):=by
 simp[bO,within,kR]at h;have h1:0<=b.size.tdiv 2/\b.size.tdiv 2<=b.size:=by
  rw[abk (by omega)];omega
 refine⟨?_,?_,?_,?_⟩<;>simp only[aa]<;>omega
theorem vC{r:ae}(h:Full r):aB [r]=[⟨r.y0,r.y1,[(r.x0,r.x1)]⟩]:=by
 have hf:∀q∈[r],Full q:=fun q hq=>by rw[ab_]at hq;subst hq;exact h
 obtain⟨b1,b2,_⟩:=aR hf;refine iK _ _ b1 ?_ fun x y=>?_
 ·show bE [_];exact y7 (s:=[]) trivial ⟨h.2,by simp,Canon.cons h.1 (by simp) trivial⟩ (by simp) (by simp)
 rw[b2,at_one];simp only[abd,List.any_nil,abo];rw[abb,aQ];have:=h.1;by_cases h1:x<r.x0
 ·simp[bw,par,h1];omega
 by_cases h2:x<r.x1
 ·simp[bw,par,h1,h2];omega
 simp[bw,par,h1,h2];omega
theorem Hi{r:ae}(h:Full r):bK (aB [r])=r:=by
 rw[vC h];simp[bK,gw,aeD,g_,bw,c9]
def through(b:aS)(layer:Int):Bool:=decide (b.lo<=layer)&&decide (layer<=b.hi)
def bA(a0 a1 b0 b1:Int):Int:=max (max 0 (b0-a1+1)) (a0-b1+1)
def fT(a b:ae):Int:=max (bA a.x0 a.x1 b.x0 b.x1) (bA a.y0 a.y1 b.y0 b.y1)
def jD(a b:ae)(n:Int):Int×Int:=(max a.x0 (b.x0-n),max a.y0 (b.y0-n))
def aeW(p q:Int×Int):Bool:=decide (p.2<q.2)||(decide (p.2=q.2)&&decide (p.1<q.1))
def c_(n:Int):List aS->Int
 | []=>0
 | b::r=>if (ee b).2≠0 then (ee b).2 else if (within b.lo 0 (n-1)&&within b.hi b.lo (n-1))=true then c_ n r else 1
def bT(a:fS):Int:=if 500<a.bores.length then 2 else c_ a.coppers.length a.bores
theorem BC{n:Int}{l:List aS}{i:Nat}{b:aS}(h:l[i]?=some b):c_ n (l.drop i)=if (ee b).2≠0 then (ee b).2 else if (within b.lo 0 (n-1)&&within b.hi b.lo (n-1))=true then c_ n (l.drop (i+1)) else 1:=by
 have:l.drop i=b::l.drop (i+1):=by
  obtain⟨h1,h2⟩:=aao.1 h;rw[acX h1,h2]
 rw[this];rfl
structure qF(n:Int)(b:aS):Prop where
 ok:cJ b=true
 lo:0<=b.lo
 le:b.lo<=b.hi
 hi:b.hi<=n-1
theorem sM{n:Int}:∀{l:List aS},c_ n l=0->∀b∈l,qF n b:=by
 intro l
 induction l with
 | nil=>intro _ b hb;cases hb
 | cons c l ih=>
  intro h b hb;rw[c_]at h;by_cases h1:(ee c).2≠0
  ·rw[aap h1]at h;exact absurd h h1
  rw[aaa h1]at h;by_cases h2:(within c.lo 0 (n-1)&&within c.hi c.lo (n-1))=true
  ·rw[aap h2]at h;rcases adq.1 hb with e | e
   ·subst e;simp[within]at h2;refine⟨?_,by omega,by omega,by omega⟩;by_cases h3:cJ b=true
    ·exact h3
    rw[ee,aaa h3]at h1;simp at h1
   exact ih h b e
  rw[aaa h2]at h;cases h
end Reg
namespace M
open Go.AM Go.RowKit Go.Lib
open Reg (ae aU an bw bE cv IV bN bK told dJ a_ coreS ax Canon Full RK at' aS fo fS aa ee bO cJ through bA fT jD aeW)
def bc(b:aS):List PV:=[i64 b.x,i64 b.y,i64 b.size,i64 b.lo,i64 b.hi,bool b.plated]
def lc(l:fo):List PV:=[str l.part,str l.pin,i64 l.layer,i64 l.x,i64 l.y]
theorem kx(n lo hi:Int):af C 170 [.pv (i64 n),.pv (i64 lo),.pv (i64 hi)] (.p (bool (Reg.within n lo hi))) []:=by
 refine fW hC Tryz.func170 rfl (by kernel_rfl) fun _=>?_;refine iW ?_ ?_<;>intro h<;>(refine⟨?_,trivial⟩)<;>simp[bool,Reg.within,h]
theorem jk(b:aS)(l:Int):af C 124 [.pv (.ag (bc b)),.pv (i64 l)] (.p (bool (through b l))) []:=by
 refine fW hC Tryz.func124 rfl (by kernel_rfl) fun _=>?_;refine iW ?_ ?_<;>intro h<;>(refine⟨?_,trivial⟩)<;>simp[bool,through,h]
theorem cF(b:aS)(h:bO b=true):af C 99 [.pv (.ag (bc b))] (.p (.ag (rc (aa b)))) []:=by
 simp[bO,Reg.within,Reg.kR]at h;have h1:0<=b.size.tdiv 2/\b.size.tdiv 2<=b.size:=by
  rw[abk (by omega)];omega
 refine fW hC Tryz.func99 rfl (by kernel_rfl) fun _=>?_;refine⟨by omega,?_⟩;refine⟨⟨by omega,by omega⟩,?_⟩;refine⟨⟨by omega,by omega⟩,?_⟩;refine⟨by omega,?_⟩;refine⟨⟨by omega,by omega⟩,?_⟩;refine⟨⟨by omega,by omega⟩,?_⟩;refine⟨⟨by omega,by omega⟩,?_⟩;refine⟨⟨by omega,by omega⟩,?_⟩;refine⟨?_,trivial⟩;rfl
theorem Hj(s:List an)(hs:bE s)(ks:cv 2000000 s):af C 239 [.pv (aw s)] (.p (bool (decide (s=[])||Reg.c7 (bK s)))) []:=by
 refine fW hC Tryz.func239 rfl (by kernel_rfl) fun _=>?_;have ms:=ai s hb;refine iW ?_ ?_<;>intro h
 ·rw[ms]at h;have e:s=[]:=adl (by omega);refine⟨?_,trivial⟩;simp[bool,e]
 rw[ms]at h;have e:s≠[]:=fun e=>h (by rw[e];rfl);refine⟨_,_,(uk s hs ks e),?_⟩;refine⟨_,_,(tV (bK s)),?_⟩;refine⟨?_,trivial⟩;simp[bool,e]
theorem AL(b:aS):af C 169 [.pv (.ag (bc b))] (.tu [.ag (rc (ee b).1),i64 (ee b).2]) []:=by
 refine fW hC Tryz.func169 rfl (by kernel_rfl) fun _=>?_;refine⟨_,_,(kx b.size 1 10000),?_⟩;have no:cJ b=false->ee b=(Reg.Q2,1):=fun h=>by rw[ee,h];rfl
 refine iW ?_ ?_<;>intro h1
 ·refine⟨?_,trivial⟩;rw[no (by simp only[cJ,bO];rw[h1];rfl)];rfl
 refine⟨_,_,(rZ b.x b.y),?_⟩;refine iW ?_ ?_<;>intro h2
 ·refine⟨?_,trivial⟩;rw[no (by simp only[cJ,bO];rw[h1,h2];rfl)];rfl
 have hok:bO b=true:=by simp only[bO];rw[h1,h2];rfl
 have hf:=Reg.bX hok;have hk:=Reg.er hok;have Zo:∀q∈[aa b],Full q:=fun q hq=>by rw[ab_]at hq;subst hq;exact hf
 have xA:∀q∈[aa b],RK 1010000 q:=fun q hq=>by rw[ab_]at hq;subst hq;exact hk
 obtain⟨b1,b2,b3⟩:=Reg.aR Zo;have so:=kG [aa b] 1010000 (by omega) (by omega) Zo xA (by simp);have fi:=Hj (Reg.aB [aa b]) b1 ((b3 _ xA).up (by omega));rw[Reg.Hi hf,show decide (Reg.aB [aa b]=[])=false by rw[Reg.vC hf];rfl,abv]at fi;refine⟨_,_,(cF b hok),?_⟩;refine⟨_,_,so,?_⟩;refine⟨_,_,fi,?_⟩;refine iW ?_ ?_<;>intro h3
 ·refine⟨?_,trivial⟩;rw[no (by simp only[cJ];rw[hok,h3];rfl)];rfl
 have e:ee b=(aa b,0):=by rw[ee,aap (by simp only[cJ];rw[hok,h3];rfl)]
 refine⟨?_,trivial⟩;rw[e];rfl
theorem ET(b:an)(s:List an)(p:Int×Int)(u:aU)(hx:b.xs=p::u):af C 129 [.pv (aw (b::s))] (.p (.ag [i64 p.1,i64 b.y0])) []:=by
 refine fW hC Tryz.func129 rfl (by kernel_rfl) fun _=>?_;refine⟨(hb b),(idx (i:=0) rfl rfl),?_⟩;refine⟨[i64 p.1],(idx (i:=0) rfl (by rw[hx];rfl)),?_⟩;refine⟨(hb b),(idx (i:=0) rfl rfl),?_⟩;refine⟨?_,trivial⟩;rfl
theorem r8(a0 a1 b0 b1:Int)(h:(-4611686018427387000<=a0/\a0<=4611686018427387000)/\(-4611686018427387000<=a1/\a1<=4611686018427387000)/\(-4611686018427387000<=b0/\b0<=4611686018427387000)/\(-4611686018427387000<=b1/\b1<=4611686018427387000)):af C 176 [.pv (i64 a0),.pv (i64 a1),.pv (i64 b0),.pv (i64 b1)] (.p (i64 (bA a0 a1 b0 b1))) []:=by
 refine fW hC Tryz.func176 rfl (by kernel_rfl) fun _=>?_;refine⟨⟨by omega,by omega⟩,?_⟩;refine⟨⟨by omega,by omega⟩,?_⟩;refine⟨⟨by omega,by omega⟩,?_⟩;refine⟨⟨by omega,by omega⟩,?_⟩;refine⟨?_,trivial⟩;rfl
end M
end Go.Proofs.YtfloceomobknoaaGreatDoor
namespace Go.Proofs.YtfloceomobknoaaGreatDoor
open Go.RowKit Go.Shelf
theorem Zp:(Tryz.prog.info? 150).map (·.size)=some 2:=by kernel_rfl
theorem X1:liesAt Tryz.prog Tryz.prog.depth 150 (2 / Tryz.prog.cellsOf 150) 0 150 1=true:=by kernel_rfl
theorem qG(b:Nat)(w:World)(h0:w.cell? ⟨b,0,none⟩=some (.pointer (some ⟨b,0,none⟩))):
  Calls Tryz.prog 197 #[.pointer (some ⟨b,0,none⟩)] w fun e w'=>e=.returned (.tuple #[])/\w'=w:=by
 obtain⟨j,hj,_⟩:=acq.1 Zp
 go_enter Tryz.func197,Tryz.ntmps197
 go_wp2
 rw[Lib.run_neq_ptr_same w _ adg hj]
 go_wp2
 go_end0
 exact⟨rfl,rfl⟩
theorem pV(b:Nat)(w:World)(h0:w.cell? ⟨b,0,none⟩=some (.pointer none))(hsh:w.shape? b=some (150,2))(DI:w.frozen? ⟨b,0,none⟩=false):
  Calls Tryz.prog 197 #[.pointer (some ⟨b,0,none⟩)] w fun e w'=>e=.returned (.tuple #[])/\w'=w.setCell ⟨b,0,none⟩ (.pointer (some ⟨b,0,none⟩)):=by
 obtain⟨j,hj,hjs⟩:=acq.1 Zp
 go_enter Tryz.func197,Tryz.ntmps197
 go_wp2
 rw[Lib.run_to_unsafe w ⟨b,0,none⟩ adg adh hj (by rw[hjs];decide) hsh (Nat.zero_lt_succ 1)];simp only[Result.andThen];rw[ad_]
 go_wp2
 rw[run_callFunc_extern Tryz.func249 (by kernel_rfl) (by kernel_rfl) (by kernel_rfl) (e:=Extern.AbiNoEscape.same) (by kernel_rfl)];rw[Lib.run_noEscape];simp only[Result.andThen];rw[ad_]
 go_wp2
 rw[Lib.run_from_unsafe w ⟨b,0,none⟩ adh adg hj hsh X1];simp only[Result.andThen];rw[ad_]
 go_wp2
 go_end0
 exact⟨rfl,rfl⟩
theorem KA(B b:Nat)(bs:List Value)(w:World)(h:Lib.IsBuilder 150 5 B b bs w):
  Calls Tryz.prog 197 #[.pointer (some ⟨b,0,none⟩)] w fun e w'=>e=.returned (.tuple #[])/\(Lib.BuilderAt 150 5 B b (.pointer (some ⟨b,0,none⟩)) bs w'/\Below B w w'):=by
 rcases h with h | h
 ·refine (pV b w h.cell0 h.shape h.frozen0).mono ?_;rintro e w' ⟨rfl,rfl⟩;exact⟨rfl,h.used _,(abJ B w).setCell (p:=⟨b,0,none⟩) h.1 _⟩
 refine (qG b w h.cell0).mono ?_;rintro e w' ⟨rfl,rfl⟩;exact⟨rfl,h,abJ B _⟩
theorem Ni:(Tryz.prog.info? 5).map (fun i=>(i.zero,i.size,i.bytes))=some (some (.int .u8 0),1,1):=by kernel_rfl
theorem writeString(B b:Nat)(bs:List Value)(s:ByteArray)(w:World)(h:Lib.IsBuilder 150 5 B b bs w)(hlen:bs.length+s.size<=140737488355328)(Wp:B<=w.heap.size):
  Calls Tryz.prog 117 #[.pointer (some ⟨b,0,none⟩),.string s] w fun e w'=>e=.returned (.tuple #[.int .i64 s.size,.nilIface])/\(Lib.BuilderAt 150 5 B b (.pointer (some ⟨b,0,none⟩)) (bs++Lib.strCells s) w'/\Below B w w'):=by
 obtain⟨i0,hi,OP,Vg,hz2⟩:=info_parts Ni
 go_enter Tryz.func117,Tryz.ntmps117
 go_wp2_with (go_at_call 197;refine (KA B b bs _ h).mono ?_)
 rintro e w1 ⟨rfl,h1,JC⟩;obtain⟨hB,v,BD,hown,b8⟩:=h1;have c0:w1.cell? ⟨b,0,none⟩=some (.pointer (some ⟨b,0,none⟩)):=by rw[ab3 BD];rfl
 have c1:w1.cell? ⟨b,1,none⟩=some v:=by rw[ab3 BD];rfl
 go_wp2_with (at_builtin;refine Lib.wpList_append_own_string _ rfl _ _ 148 9 rfl B 5 i0 adf acS hi OP Vg hz2 _ _ _ rfl hown s rfl ?c3 ?c4 ?c5 ?_)
 case c3=>unfold maxLen;omega
 case c4=>omega
 case c5=>have:=JC.size;omega
 intro v' w2 tx oo _;have eF:b<w1.heap.size:=by
  rcases aen b w1.heap.size with h' | h'
  ·exact h'
  simp[abm h']at BD
 have oE:w2.heap[b]?=some (.cells #[.pointer (some ⟨b,0,none⟩),v] 150 (0,0)):=by
  rw[oo.block b eF (fun e=>b8 e.symm)];exact BD
 have d0:w2.cell? ⟨b,0,none⟩=some (.pointer (some ⟨b,0,none⟩)):=by rw[ab3 oE];rfl
 have d1:w2.cell? ⟨b,1,none⟩=some v:=by rw[ab3 oE];rfl
 have f1:w2.frozen? ⟨b,1,none⟩=false:=Lib.frozen_of_heap oE 1;obtain⟨ao,n',cap,rfl⟩:∃ao n' cap,v'=.slice ao n' cap:=by
  rcases tx.2 with⟨hv,_⟩ | ⟨g,cap,cur,hv,_⟩
  ·exact⟨_,_,_,hv⟩
  exact⟨_,_,_,hv⟩
 go_wp2
 go_ret2
 refine⟨rfl,?_,?_⟩
 ·exact Lib.BuilderAt.put (T:=150) (e:=5) hB oE (bs':=bs++Lib.strCells s) (by simpa [Lib.strCells_length] using tx) (by decide)
 exact (JC.grown oo (by have:=JC.size;omega) (fun k hk=>(hown.lt k hk).1)).setCell (p:=⟨b,1,none⟩) hB _
end Go.Proofs.YtfloceomobknoaaGreatDoor
