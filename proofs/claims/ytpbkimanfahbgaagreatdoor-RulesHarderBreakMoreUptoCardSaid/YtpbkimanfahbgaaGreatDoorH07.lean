/- Part 7 of 14 of the proof of RulesHarderBreakMore (the names are shortened by a program: the size of a claim is limited). -/
import Derived.Test.YtpbkimanfahbgaaGreatDoorH06
set_option linter.unusedVariables false
set_option linter.unusedSimpArgs false
set_option maxRecDepth 100000
set_option maxHeartbeats 8000000
namespace Go.Proofs.YtpbkimanfahbgaaGreatDoor
namespace Reg
def iN (x y:Int) (r:aB):Bool:=((decide (r.x0<=x) && decide (x < r.x1)) && decide (r.y0<=y)) && decide (y < r.y1)
theorem cz {x y:Int} {r:aB}:iN x y r=true↔r.x0<=x/\x < r.x1/\r.y0<=y/\y < r.y1:=by
 simp[iN,and_assoc]
def Full (r:aB):Prop:=r.x0 < r.x1/\r.y0 < r.y1
def RK (K:Int) (r:aB):Prop:=-K<=r.x0/\-K<=r.y0/\r.x1<=K/\r.y1<=K
theorem Tg {ys:List Int} (h:cT ys) {k:Nat} {a b c:Int} (ha:ys[k]?=some a) (hb:ys[k+1]?=some b) (hc:c∈ys):c<=a\/b<=c:=by
 obtain⟨j,hj⟩:=List.mem_iff_getElem?.1 hc
 obtain⟨a1,a2⟩:=List.getElem?_eq_some_iff.1 ha
 obtain⟨b1,b2⟩:=List.getElem?_eq_some_iff.1 hb
 obtain⟨j1,j2⟩:=List.getElem?_eq_some_iff.1 hj
 have H:=List.pairwise_iff_getElem.1 h
 rcases Nat.lt_trichotomy j k with e | e | e
 ·have:=H j k j1 a1 e;omega
 ·subst e;rw[a2] at j2;omega
 rcases Nat.lt_or_ge (k+1) j with e2 | e2
 ·have:=H (k+1) j b1 j1 e2;omega
 have:j=k+1:=by omega
 subst this;rw[b2] at j2;omega
theorem getD_some {l:List Int} {k:Nat} {a:Int} (h:l[k]?=some a):l.getD k 0=a:=by rw[List.getD_eq_getElem?_getD,h];rfl
theorem J2 {l:List aB} (hl:∀r∈l,Full r) (y:Int) (x:Int):par (bK (rowOf l y)) x=l.any (iN x y):=by
 obtain⟨h1,h2⟩:=lJ l y (fun r hr=>(hl r hr).1)
 rw[Bool.eq_iff_iff,dn h1,h2,List.any_eq_true]
 constructor
 ·rintro⟨r,hr,a,b⟩
  exact⟨r,hr,cz.2 ⟨b.1,b.2,a.1,a.2⟩⟩
 rintro⟨r,hr,a⟩
 obtain⟨a1,a2,a3,a4⟩:=cz.1 a
 exact⟨r,hr,⟨a3,a4⟩,a1,a2⟩
theorem H9 {l:List aB} (hl:∀r∈l,Full r) (y:Int) {K:Int} (hk:∀r∈l,RK K r):∀p∈rowOf l y,-K<=p.1/\p.2<=K:=by
 obtain⟨h1,h2⟩:=lJ l y (fun r hr=>(hl r hr).1)
 intro p hp
 have eL:=fP h1 p hp
 obtain⟨r,hr,_,a,_⟩:=(h2 p.1).1 ⟨p,hp,Int.le_refl _,eL⟩
 obtain⟨q,hq,_,b1,b2⟩:=(h2 (p.2 - 1)).1 ⟨p,hp,by omega,by omega⟩
 have g1:=hk r hr
 have g2:=hk q hq
 exact⟨by have:=g1.1;omega,by have:=g2.2.2.1;omega⟩
theorem wH {l:List aB} (hl:∀r∈l,Full r):∀(k:Nat) (y:Int),(b_ l)[k]?=some y ->
  hZ (dp l (b_ l) k)/\(∀t∈dp l (b_ l) k,t.y1<=y)/\(∀x z,at' (dp l (b_ l) k) x z=(decide (z < y) && l.any (iN x z)))/\∀K,(∀r∈l,RK K r)->cQ K (dp l (b_ l) k):=by
 obtain⟨hr,hm⟩:=fv l
 intro k
 induction k with
 | zero=>
  intro y hy
  refine⟨trivial,fun t ht=>(by cases ht),fun x z=>?_,fun K _ t ht=>(by cases ht)⟩
  show false=_
  symm
  rw[Bool.and_eq_false_iff]
  by_cases hz:z < y
  ·right
   rw[Bool.eq_false_iff]
   intro hp
   obtain⟨r,sL,h⟩:=List.any_eq_true.1 hp
   obtain⟨_,_,h3,_⟩:=cz.1 h
   have h4:r.y0∈b_ l:=(hm _).2 ⟨r,sL,.inl rfl⟩
   obtain⟨j,hj⟩:=List.mem_iff_getElem?.1 h4
   obtain⟨a1,a2⟩:=List.getElem?_eq_some_iff.1 hy
   obtain⟨j1,j2⟩:=List.getElem?_eq_some_iff.1 hj
   rcases Nat.eq_zero_or_pos j with e | e
   ·subst e;rw[a2] at j2;omega
   have:=List.pairwise_iff_getElem.1 hr 0 j a1 j1 e;omega
  left;exact decide_eq_false hz
 | succ k ih=>
  intro y hy
  obtain⟨y',lC⟩:∃y',(b_ l)[k]?=some y':=by
   have:=(List.getElem?_eq_some_iff.1 hy).1
   exact⟨_,List.getElem?_eq_getElem (by omega)⟩
  obtain⟨i1,i2,i3,i4⟩:=ih y' lC
  have eL:y' < y:=by
   obtain⟨a1,a2⟩:=List.getElem?_eq_some_iff.1 hy
   obtain⟨b1,b2⟩:=List.getElem?_eq_some_iff.1 lC
   have:=List.pairwise_iff_getElem.1 hr k (k+1) b1 a1 (by omega)
   omega
  rw[dp,getD_some lC,getD_some hy]
  obtain⟨h1,h2⟩:=lJ l y' (fun r hr=>(hl r hr).1)
  obtain⟨p1,p2,p3,p4⟩:=kh (b:=⟨y',y,rowOf l y'⟩) i1 eL h1 i2
  refine⟨p1,p2,fun x z=>?_,fun K hk t ht=>?_⟩
  ·rw[p3,i3,at_one]
   show (decide (z < y') && l.any (iN x z) || decide (y'<=z) && decide (z < y) && par (bK (rowOf l y')) x)=_
   rw[J2 hl]
   by_cases c1:z < y'
   ·rw[decide_eq_true c1,decide_eq_false (by omega:¬y'<=z),decide_eq_true (by omega:z < y)]
    simp
   by_cases c2:z < y
   ·rw[decide_eq_false c1,decide_eq_true (by omega:y'<=z),decide_eq_true c2]
    simp only[Bool.false_and,Bool.false_or,Bool.true_and]
    rw[Bool.eq_iff_iff,List.any_eq_true,List.any_eq_true]
    have go:∀r∈l,(iN x y' r=true↔iN x z r=true):=fun r sL=>by
     have g1:=Tg hr lC hy ((hm r.y0).2 ⟨r,sL,.inl rfl⟩)
     have g2:=Tg hr lC hy ((hm r.y1).2 ⟨r,sL,.inr rfl⟩)
     rw[cz,cz]
     omega
    constructor
    ·rintro⟨r,sL,h⟩;exact⟨r,sL,(go r sL).1 h⟩
    rintro⟨r,sL,h⟩;exact⟨r,sL,(go r sL).2 h⟩
   rw[decide_eq_false c1,decide_eq_false c2]
   simp
  have e1:=p2 t ht
  have e1:t.y1<=y:=e1
  have top:∀c,c∈b_ l->-K<=c/\c<=K:=fun c hc=>by
   obtain⟨r,sL,e⟩:=(hm c).1 hc
   have g:=hk r sL
   have g2:=hl r sL
   unfold RK at g
   unfold Full at g2
   omega
  have t1:=top y (List.mem_of_getElem? hy)
  have t2:=top y' (List.mem_of_getElem? lC)
  rcases p4 t ht with⟨u,hu,x1,x2⟩ | ⟨x1,x2⟩
  ·have g:=i4 K hk u hu
   rw[<-x1,<-x2]
   exact⟨g.1,by omega,g.2.2⟩
  rw[x1,x2]
  exact⟨t2.1,by omega,H9 hl y' hk⟩
theorem gf {l:List aB} (hl:∀r∈l,Full r):hZ (a_ l)/\(∀x z,at' (a_ l) x z=l.any (iN x z))/\∀K,(∀r∈l,RK K r)->cQ K (a_ l):=by
 obtain⟨hr,hm⟩:=fv l
 cases hg:b_ l with
 | nil=>
  have e:l=[]:=by
   cases l with
   | nil=>rfl
   | cons r l=>
    have:r.y0∈b_ (r::l):=(hm _).2 ⟨r,by simp,.inl rfl⟩
    rw[hg] at this;cases this
  subst e
  exact⟨trivial,fun x z=>rfl,fun K _ t ht=>by cases ht⟩
 | cons a u=>
  obtain⟨y,hy⟩:∃y,(b_ l)[(b_ l).length - 1]?=some y:=⟨_,List.getElem?_eq_getElem (by rw[hg];simp)⟩
  obtain⟨h1,h2,h3,h4⟩:=wH hl _ y hy
  refine⟨h1,fun x z=>?_,h4⟩
  show at' (dp l (b_ l) ((b_ l).length - 1)) x z=_
  rw[h3]
  by_cases hz:z < y
  ·rw[decide_eq_true hz,Bool.true_and]
  rw[decide_eq_false hz,Bool.false_and]
  symm
  rw[Bool.eq_false_iff]
  intro hp
  obtain⟨r,sL,h⟩:=List.any_eq_true.1 hp
  obtain⟨_,_,_,h5⟩:=cz.1 h
  obtain⟨j,hj⟩:=List.mem_iff_getElem?.1 ((hm r.y1).2 ⟨r,sL,.inr rfl⟩)
  obtain⟨a1,a2⟩:=List.getElem?_eq_some_iff.1 hy
  obtain⟨j1,j2⟩:=List.getElem?_eq_some_iff.1 hj
  rcases Nat.lt_or_ge j ((b_ l).length - 1) with e | e
  ·have:=List.pairwise_iff_getElem.1 hr j _ j1 a1 e;omega
  have:j=(b_ l).length - 1:=by omega
  subst this;rw[a2] at j2;omega
theorem Wu {s:List ax} {q:aB}:q∈told s↔∃b∈s,∃p∈b.xs,q=⟨p.1,b.y0,p.2,b.y1⟩:=by
 simp only[told,List.mem_flatMap,List.mem_map]
 constructor
 ·rintro⟨b,hb,p,hp,e⟩;exact⟨b,hb,p,hp,e.symm⟩
 rintro⟨b,hb,p,hp,e⟩;exact⟨b,hb,p,hp,e.symm⟩
theorem lV {s:List ax} (h:hZ s) (x y:Int):(told s).any (iN x y)=at' s x y:=by
 rw[Bool.eq_iff_iff,List.any_eq_true,sd]
 constructor
 ·rintro⟨q,hq,hr⟩
  obtain⟨b,hb,p,hp,rfl⟩:=Wu.1 hq
  obtain⟨h1,h2,h3,h4⟩:=cz.1 hr
  exact⟨b,hb,h3,h4,(dn (h.mem b hb).can x).2 ⟨p,hp,h1,h2⟩⟩
 rintro⟨b,hb,h3,h4,hp⟩
 obtain⟨p,hp,h1,h2⟩:=(dn (h.mem b hb).can x).1 hp
 exact⟨_,Wu.2 ⟨b,hb,p,hp,rfl⟩,cz.2 ⟨h1,h2,h3,h4⟩⟩
theorem dK {s:List ax} (h:hZ s):∀q∈told s,Full q:=fun q hq=>by
 obtain⟨b,hb,p,hp,rfl⟩:=Wu.1 hq
 exact⟨fP (h.mem b hb).can p hp,(h.mem b hb).lt⟩
theorem kN {s:List ax} (h:hZ s) {K:Int} (hk:cQ K s):∀q∈told s,RK K q:=fun q hq=>by
 obtain⟨b,hb,p,hp,rfl⟩:=Wu.1 hq
 obtain⟨h1,h2,h3⟩:=hk b hb
 obtain⟨h4,h5⟩:=h3 p hp
 exact⟨h4,h1,h5,h2⟩
theorem qK {s:List ax} (h:hZ s) (hn:∀x y,at' s x y=false):s=[]:=by
 cases s with
 | nil=>rfl
 | cons b s=>
  have hb:=h.head
  obtain⟨p,u,e⟩:∃p u,b.xs=p::u:=by
   cases hx:b.xs with
   | nil=>exact absurd hx hb.ne
   | cons p u=>exact⟨p,u,rfl⟩
  have h1:at' (b::s) p.1 b.y0=true:=sd.2 ⟨b,by simp,Int.le_refl _,hb.lt,(dn hb.can _).2 ⟨p,by rw[e];simp,Int.le_refl _,fP hb.can p (by rw[e];simp)⟩⟩
  rw[hn] at h1
  cases h1
def dz (l r d u:Int) (q:aB):aB:=⟨q.x0 - l,q.y0 - d,q.x1+r,q.y1+u⟩
def bX (s:List ax) (l r d u:Int):List ax:=a_ ((told s).map (dz l r d u))
theorem ff {s:List ax} (h:hZ s) {l r d u:Int} (hl:0<=l) (hr:0<=r) (hd:0<=d) (hu:0<=u):
  hZ (bX s l r d u)/\(∀x y,at' (bX s l r d u) x y=true↔∃a b,at' s a b=true/\x - r<=a/\a<=x+l/\y - u<=b/\b<=y+d)/\∀K M,cQ K s->l<=M->r<=M->d<=M->u<=M->cQ (K+M) (bX s l r d u):=by
 have hf:∀q∈(told s).map (dz l r d u),Full q:=fun q hq=>by
  obtain⟨p,hp,rfl⟩:=List.mem_map.1 hq
  have:=dK h p hp
  unfold Full at this
  exact⟨by show p.x0 - l < p.x1+r;omega,by show p.y0 - d < p.y1+u;omega⟩
 obtain⟨h1,h2,h3⟩:=gf hf
 refine⟨h1,fun x y=>?_,fun K M hk m1 m2 m3 m4=>h3 _ fun q hq=>?_⟩
 ·rw[bX,h2,List.any_eq_true]
  constructor
  ·rintro⟨q,hq,hh⟩
   obtain⟨p,hp,rfl⟩:=List.mem_map.1 hq
   obtain⟨g1,g2,g3,g4⟩:=cz.1 hh
   have g1:p.x0 - l<=x:=g1
   have g2:x < p.x1+r:=g2
   have g3:p.y0 - d<=y:=g3
   have g4:y < p.y1+u:=g4
   have hf:=dK h p hp
   unfold Full at hf
   refine⟨max p.x0 (min x (p.x1 - 1)),max p.y0 (min y (p.y1 - 1)),?_,by omega,by omega,by omega,by omega⟩
   rw[<-lV h,List.any_eq_true]
   exact⟨p,hp,cz.2 ⟨by omega,by omega,by omega,by omega⟩⟩
  rintro⟨a,b,rX,g1,g2,g3,g4⟩
  rw[<-lV h,List.any_eq_true] at rX
  obtain⟨p,hp,hh⟩:=rX
  obtain⟨f1,f2,f3,f4⟩:=cz.1 hh
  exact⟨_,List.mem_map.2 ⟨p,hp,rfl⟩,cz.2 ⟨by show p.x0 - l<=x;omega,by show x < p.x1+r;omega,by show p.y0 - d<=y;omega,by show y < p.y1+u;omega⟩⟩
 obtain⟨p,hp,rfl⟩:=List.mem_map.1 hq
 obtain⟨f1,f2,f3,f4⟩:=kN h hk p hp
 exact⟨by show -(K+M)<=p.x0 - l;omega,by show -(K+M)<=p.y0 - d;omega,by show p.x1+r<=K+M;omega,by show p.y1+u<=K+M;omega⟩
def nE (a b:List ax):Int:=match a,b with
 | p::_,q::_=>min p.y0 q.y0
 | p::_,[]=>p.y0
 | [],q::_=>q.y0
 | [],[]=>0
def db:List ax->Int
 | []=>0
 | [b]=>b.y1
 | _::c::r=>db (c::r)
def nF (a b:List ax):Int:=match a,b with
 | p::r,q::u=>max (db (p::r)) (db (q::u))
 | p::r,[]=>db (p::r)
 | [],q::u=>db (q::u)
 | [],[]=>0
theorem zh {s:List ax} (h:hZ s):∀t∈s,t.y1<=db s:=by
 induction s with
 | nil=>intro t ht;cases ht
 | cons b s ih=>
  cases s with
  | nil=>intro t ht;rw[List.mem_singleton] at ht;subst ht;exact Int.le_refl _
  | cons c r=>
   intro t ht
   rw[db]
   rcases List.mem_cons.1 ht with e | ht
   ·subst e
    have h1:=ih h.tail c (by simp)
    have h2:=h.2.1
    have h3:=h.tail.head.lt
    omega
   exact ih h.tail t ht
theorem kX {K:Int}:∀{s:List ax},s≠[]->cQ K s->db s<=K
 | [],h,_=>absurd rfl h
 | [b],_,hk=>(hk b (by simp)).2.1
 | _::c::r,_,hk=>by rw[db];exact kX (by simp) (fun t ht=>hk t (by simp at ht ⊢;exact .inr ht))
def gK (k:Bool->Bool->Bool) (a b:List ax):List ax:=if a.length+b.length=0 then [] else dH k (nF a b - nE a b).toNat a b (nE a b) (nF a b) []
theorem mP {k:Bool->Bool->Bool} (hk:k false false=false) {a b:List ax} (ha:hZ a) (hb:hZ b):
  hZ (gK k a b)/\(∀x y,at' (gK k a b) x y=k (at' a x y) (at' b x y))/\∀K,cQ K a->cQ K b->cQ K (gK k a b):=by
 unfold gK
 by_cases e:a.length+b.length=0
 ·rw[if_pos e]
  have ea:a=[]:=List.eq_nil_of_length_eq_zero (by omega)
  have eb:b=[]:=List.eq_nil_of_length_eq_zero (by omega)
  subst ea eb
  exact⟨trivial,fun x y=>hk.symm,fun K _ _ t ht=>by cases ht⟩
 rw[if_neg e]
 have la:∀t∈a,nE a b<=t.y0:=fun t ht=>by
  cases a with
  | nil=>cases ht
  | cons p r=>
   have h1:p.y0<=t.y0:=by
    rcases List.mem_cons.1 ht with e | ht
    ·subst e;exact Int.le_refl _
    have:=ha.fZ t ht;have:=ha.head.lt;omega
   cases b with
   | nil=>exact h1
   | cons q u=>show min p.y0 q.y0<=t.y0;omega
 have lb:∀t∈b,nE a b<=t.y0:=fun t ht=>by
  cases b with
  | nil=>cases ht
  | cons q u=>
   have h1:q.y0<=t.y0:=by
    rcases List.mem_cons.1 ht with e | ht
    ·subst e;exact Int.le_refl _
    have:=hb.fZ t ht;have:=hb.head.lt;omega
   cases a with
   | nil=>exact h1
   | cons p r=>show min p.y0 q.y0<=t.y0;omega
 have ua:∀t∈a,t.y1<=nF a b:=fun t ht=>by
  have h1:=zh ha t ht
  cases a with
  | nil=>cases ht
  | cons p r=>
   cases b with
   | nil=>exact h1
   | cons q u=>show t.y1<=max (db (p::r)) (db (q::u));omega
 have ub:∀t∈b,t.y1<=nF a b:=fun t ht=>by
  have h1:=zh hb t ht
  cases b with
  | nil=>cases ht
  | cons q u=>
   cases a with
   | nil=>exact h1
   | cons p r=>show t.y1<=max (db (p::r)) (db (q::u));omega
 obtain⟨m1,m2,m3⟩:=A6 hk _ a b (nE a b) (nF a b) [] (Nat.le_refl _) ha hb trivial (fun t ht=>by cases ht) ua ub
 refine⟨m1,fun x y=>?_,fun K g1 g2=>m3 K g1 g2 (fun t ht=>by cases ht) ?_ ?_⟩
 ·rw[m2]
  split
  ·rename_i hy
   rw[iM (s:=a) fun t ht=>.inl (by have:=la t ht;omega),iM (s:=b) fun t ht=>.inl (by have:=lb t ht;omega),hk]
   rfl
  rfl
 ·cases a with
  | nil=>
   cases b with
   | nil=>exact absurd rfl e
   | cons q u=>exact (g2 q (by simp)).1
  | cons p r=>
   cases b with
   | nil=>exact (g1 p (by simp)).1
   | cons q u=>
    have:=(g1 p (by simp)).1
    have:=(g2 q (by simp)).1
    show -K<=min p.y0 q.y0
    omega
 cases a with
 | nil=>
  cases b with
  | nil=>exact absurd rfl e
  | cons q u=>exact kX (by simp) g2
 | cons p r=>
  cases b with
  | nil=>exact kX (by simp) g1
  | cons q u=>
   have h1:=kX (by simp) g1
   have h2:=kX (by simp) g2
   show max (db (p::r)) (db (q::u))<=K
   omega
def cR (a b:Bool):Bool:=a && !b
def cv (a b:List ax):List ax:=gK cR a b
theorem dZ {a b:List ax} (ha:hZ a) (hb:hZ b):hZ (cv a b)/\(∀x y,at' (cv a b) x y=(at' a x y && !at' b x y))/\∀K,cQ K a->cQ K b->cQ K (cv a b):=mP rfl ha hb
def ey (b:ax):Int:=(bK b.xs).headD 0
def fX (b:ax):Int:=((bK b.xs).getLast?).getD 0
def fC (r:aB) (b:ax):aB:=⟨min r.x0 (ey b),r.y0,max r.x1 (fX b),r.y1⟩
def bL:List ax->aB
 | []=>⟨0,0,0,0⟩
 | b::s=>(b::s).foldl fC ⟨ey b,b.y0,(bK b.xs).getD 1 0,db (b::s)⟩
theorem MF {b:ax} (h:Canon b.xs):∀p∈b.xs,ey b<=p.1:=fun p hp=>by
 have hr:=kM h
 have hm:p.1∈bK b.xs:=ja.2 ⟨p,hp,.inl rfl⟩
 unfold ey
 cases hc:bK b.xs with
 | nil=>rw[hc] at hm;cases hm
 | cons c u=>
  rw[hc] at hm hr
  show c<=p.1
  rcases List.mem_cons.1 hm with e | hm
  ·omega
  have:=cT.behind hr _ hm;omega
theorem le_last {b:ax} (h:Canon b.xs):∀p∈b.xs,p.2<=fX b:=fun p hp=>by
 have hr:=kM h
 have hm:p.2∈bK b.xs:=ja.2 ⟨p,hp,.inr rfl⟩
 unfold fX
 cases hl:(bK b.xs).getLast? with
 | none=>rw[List.getLast?_eq_none_iff.1 hl] at hm;cases hm
 | some c=>
  obtain⟨d,hd⟩:=List.getLast?_eq_some_iff.1 hl
  rw[hd] at hm hr
  show p.2<=c
  rcases List.mem_append.1 hm with hm | hm
  ·have:=(List.pairwise_append.1 hr).2.2 _ hm c (by simp);omega
  rw[List.mem_singleton] at hm;omega
theorem C5 {b:ax} {K:Int} (hb:A5 b) (h:∀p∈b.xs,-K<=p.1/\p.2<=K):-K<=ey b/\fX b<=K/\(bK b.xs).getD 1 0<=K/\ey b < (bK b.xs).getD 1 0:=by
 have hc:=hb.can
 cases hx:b.xs with
 | nil=>exact absurd hx hb.ne
 | cons p u=>
  rw[hx] at h hc
  have h1:=h p (by simp)
  have h2:=hc.head
  refine⟨by unfold ey;rw[hx];exact h1.1,?_,by exact h1.2,by unfold ey;rw[hx];exact h2⟩
  unfold fX
  rw[hx]
  cases hl:(bK (p::u)).getLast? with
  | none=>rw[List.getLast?_eq_none_iff] at hl;cases hl
  | some c=>
   obtain⟨q,hq,e⟩:=ja.1 (List.mem_of_getLast? hl)
   have:=h q hq
   have:=fP hc q hq
   show c<=K
   omega
theorem C6:∀(s:List ax) (r:aB),(s.foldl fC r).y0=r.y0/\(s.foldl fC r).y1=r.y1/\(s.foldl fC r).x0<=r.x0/\r.x1<=(s.foldl fC r).x1/\(∀b∈s,(s.foldl fC r).x0<=ey b/\fX b<=(s.foldl fC r).x1)/\
  ∀K,-K<=r.x0->r.x1<=K->(∀b∈s,-K<=ey b/\fX b<=K)->-K<=(s.foldl fC r).x0/\(s.foldl fC r).x1<=K:=by
 intro s
 induction s with
 | nil=>intro r;exact⟨rfl,rfl,Int.le_refl _,Int.le_refl _,fun b hb=>(by cases hb),fun K h1 h2 _=>⟨h1,h2⟩⟩
 | cons b s ih=>
  intro r
  obtain⟨i1,i2,i3,i4,i5,i6⟩:=ih (fC r b)
  have w1:(fC r b).x0=min r.x0 (ey b):=rfl
  have w2:(fC r b).x1=max r.x1 (fX b):=rfl
  rw[List.foldl_cons]
  refine⟨i1,i2,by omega,by omega,fun c hc=>?_,fun K h1 h2 h3=>?_⟩
  ·rcases List.mem_cons.1 hc with e | hc
   ·subst e;omega
   exact i5 c hc
  have:=h3 b (by simp)
  exact i6 K (by omega) (by omega) fun c hc=>h3 c (by simp[hc])
theorem qL {s:List ax} (h:hZ s) (hn:s≠[]):Full (bL s)/\(∀x y,at' s x y=true->iN x y (bL s)=true)/\∀K,cQ K s->RK K (bL s):=by
 cases s with
 | nil=>exact absurd rfl hn
 | cons b s=>
  have hb:=h.head
  obtain⟨w1,w2,w3,w4,w5,w6⟩:=C6 (b::s) ⟨ey b,b.y0,(bK b.xs).getD 1 0,db (b::s)⟩
  have tm:=zh h
  obtain⟨K0,UQ⟩:∃K,∀p∈b.xs,-K<=p.1/\p.2<=K:=by
   have:∀l:bC,∃K,∀p∈l,-K<=p.1/\p.2<=K:=fun l=>by
    induction l with
    | nil=>exact⟨0,fun p h=>by cases h⟩
    | cons q l ih=>
     obtain⟨K,hK⟩:=ih
     refine⟨max K (max (-q.1) q.2),fun p hp=>?_⟩
     rcases List.mem_cons.1 hp with e | hp
     ·subst e;omega
     have:=hK p hp;omega
   exact this _
  have cb:=(C5 hb UQ).2.2.2
  have t1:=tm b (by simp)
  have eL:=hb.lt
  have e1:bL (b::s)=(b::s).foldl fC ⟨ey b,b.y0,(bK b.xs).getD 1 0,db (b::s)⟩:=rfl
  rw[<-e1] at w1 w2 w3 w4 w5 w6
  simp only at w1 w2 w3 w4
  refine⟨⟨by omega,by omega⟩,fun x y I5=>?_,fun K hk=>?_⟩
  ·obtain⟨c,hc,c1,c2,c3⟩:=sd.1 I5
   have RX:=h.mem c hc
   obtain⟨p,hp,p1,p2⟩:=(dn RX.can x).1 c3
   have f1:=MF RX.can p hp
   have f2:=le_last RX.can p hp
   have f3:=w5 c hc
   have f4:=tm c hc
   have f5:b.y0<=c.y0:=by
    rcases List.mem_cons.1 hc with e | hc
    ·subst e;exact Int.le_refl _
    have:=h.fZ c hc;omega
   exact cz.2 ⟨by omega,by omega,by omega,by omega⟩
  obtain⟨c1,c2,c3,_⟩:=C5 hb (hk b (by simp)).2.2
  obtain⟨g1,g2⟩:=w6 K c1 c3 fun c hc=>by
   obtain⟨d1,d2,_,_⟩:=C5 (h.mem c hc) (hk c hc).2.2
   exact⟨d1,d2⟩
  have g3:=kX (K:=K) (by simp) hk
  have g4:=(hk b (by simp)).1
  exact⟨g1,by omega,g2,by omega⟩
def coreS (s:List ax) (l r d u:Int):List ax:=if s=[] then [] else
 cv s (bX (cv (a_ [dz (l+r+d+u+1) (l+r+d+u+1) (l+r+d+u+1) (l+r+d+u+1) (bL s)]) s) r l u d)
theorem u4 {s:List ax} (h:hZ s) {l r d u:Int} (hl:0<=l) (hr:0<=r) (hd:0<=d) (hu:0<=u):
  hZ (coreS s l r d u)/\(∀x y,at' (coreS s l r d u) x y=true↔∀a b,x - l<=a->a<=x+r->y - d<=b->b<=y+u->at' s a b=true)/\∀K,cQ K s->cQ (K+(l+r+d+u+1)+(l+r+d+u)) (coreS s l r d u):=by
 unfold coreS
 by_cases e:s=[]
 ·rw[if_pos e]
  subst e
  refine⟨trivial,fun x y=>⟨fun h=>(by cases h),fun h=>?_⟩,fun K _ t ht=>(by cases ht)⟩
  exact absurd (h x y (by omega) (by omega) (by omega) (by omega)) (by simp[at'])
 rw[if_neg e]
 obtain⟨a1,a2,a3⟩:=qL h e
 obtain⟨n,hn⟩:∃n,n=l+r+d+u+1:=⟨_,rfl⟩
 rw[<-hn]
 have bb:∀q∈[dz n n n n (bL s)],Full q:=fun q hq=>by
  rw[List.mem_singleton] at hq
  subst hq
  unfold Full at a1
  exact⟨by show (bL s).x0 - n < (bL s).x1+n;omega,by show (bL s).y0 - n < (bL s).y1+n;omega⟩
 obtain⟨b1,b2,b3⟩:=gf bb
 obtain⟨c1,c2,c3⟩:=dZ b1 h
 obtain⟨d1,d2,d3⟩:=ff c1 hr hl hu hd
 obtain⟨e1,e2,e3⟩:=dZ h d1
 refine⟨e1,fun x y=>?_,fun K hk=>?_⟩
 ·rw[e2,Bool.and_eq_true,Bool.not_eq_true']
  constructor
  ·rintro⟨h1,h2⟩ a b g1 g2 g3 g4
   cases rX:at' s a b with
   | true=>rfl
   | false=>
    have ha:=cz.1 (a2 x y h1)
    have:at' (bX (cv (a_ [dz n n n n (bL s)]) s) r l u d) x y=true:=(d2 x y).2 ⟨a,b,by
     rw[c2,b2,rX]
     have:iN a b (dz n n n n (bL s))=true:=cz.2 ⟨by show (bL s).x0 - n<=a;omega,by show a < (bL s).x1+n;omega,by show (bL s).y0 - n<=b;omega,by show b < (bL s).y1+n;omega⟩
     simp[this],by omega,by omega,by omega,by omega⟩
    rw[h2] at this
    cases this
  intro iB
  refine⟨iB x y (by omega) (by omega) (by omega) (by omega),?_⟩
  rw[Bool.eq_false_iff]
  intro hp
  obtain⟨a,b,g0,g1,g2,g3,g4⟩:=(d2 x y).1 hp
  rw[c2,iB a b (by omega) (by omega) (by omega) (by omega)] at g0
  simp at g0
 have k1:cQ (K+n) (a_ [dz n n n n (bL s)]):=b3 _ fun q hq=>by
  rw[List.mem_singleton] at hq
  subst hq
  obtain⟨f1,f2,f3,f4⟩:=a3 K hk
  exact⟨by show -(K+n)<=(bL s).x0 - n;omega,by show -(K+n)<=(bL s).y0 - n;omega,by show (bL s).x1+n<=K+n;omega,by show (bL s).y1+n<=K+n;omega⟩
 have up:∀{A B:Int} {t:List ax},A<=B->cQ A t->cQ B t:=fun VY ht b hb=>by
  obtain⟨x1,x2,x3⟩:=ht b hb
  exact⟨by omega,by omega,fun p hp=>by have:=x3 p hp;omega⟩
 have k2:=c3 _ k1 (up (by omega) hk)
 have k3:=d3 (K+n) (l+r+d+u) k2 (by omega) (by omega) (by omega) (by omega)
 exact e3 _ (up (by omega) hk) k3
def zk (s:List ax) (w:Int):List ax:=if w < 1 then [] else cv s (bX (coreS s 0 (w - 1) 0 (w - 1)) 0 (w - 1) 0 (w - 1))
def Open (s:List ax) (w x y:Int):Prop:=∃a b,a<=x/\x < a+w/\b<=y/\y < b+w/\∀c d,a<=c->c < a+w->b<=d->d < b+w->at' s c d=true
theorem cQ.up {A B:Int} {t:List ax} (h:A<=B) (ht:cQ A t):cQ B t:=fun b hb=>by
 obtain⟨x1,x2,x3⟩:=ht b hb
 exact⟨by omega,by omega,fun p hp=>by have:=x3 p hp;omega⟩
theorem Yp {s:List ax} (h:hZ s) (w:Int):hZ (zk s w)/\(∀x y,at' (zk s w) x y=true↔1<=w/\at' s x y=true/\¬Open s w x y):=by
 unfold zk
 by_cases hw:w < 1
 ·rw[if_pos hw]
  exact⟨trivial,fun x y=>⟨fun h=>(by cases h),fun h=>by omega⟩⟩
 rw[if_neg hw]
 obtain⟨c1,c2,c3⟩:=u4 h (l:=0) (r:=w - 1) (d:=0) (u:=w - 1) (by omega) (by omega) (by omega) (by omega)
 obtain⟨d1,d2,d3⟩:=ff c1 (l:=0) (r:=w - 1) (d:=0) (u:=w - 1) (by omega) (by omega) (by omega) (by omega)
 obtain⟨e1,e2,e3⟩:=dZ h d1
 refine⟨e1,fun x y=>?_⟩
 rw[e2,Bool.and_eq_true,Bool.not_eq_true',Bool.eq_false_iff,ne_eq,d2]
 have:(∃a b,at' (coreS s 0 (w - 1) 0 (w - 1)) a b=true/\x - (w - 1)<=a/\a<=x+0/\y - (w - 1)<=b/\b<=y+0)↔Open s w x y:=by
  constructor
  ·rintro⟨a,b,h1,h2,h3,h4,h5⟩
   exact⟨a,b,by omega,by omega,by omega,by omega,fun c d g1 g2 g3 g4=>(c2 a b).1 h1 c d (by omega) (by omega) (by omega) (by omega)⟩
  rintro⟨a,b,h1,h2,h3,h4,h5⟩
  exact⟨a,b,(c2 a b).2 fun c d g1 g2 g3 g4=>h5 c d (by omega) (by omega) (by omega) (by omega),by omega,by omega,by omega,by omega⟩
 rw[this]
 exact⟨fun g=>⟨by omega,g⟩,fun g=>g.2⟩
theorem ZP {s:List ax} {w v x y:Int} (h0:1<=w) (h:w<=v) (ho:Open s v x y):Open s w x y:=by
 obtain⟨a,b,h1,h2,h3,h4,h5⟩:=ho
 refine⟨max a (x - w+1),max b (y - w+1),by omega,by omega,by omega,by omega,fun c d g1 g2 g3 g4=>h5 c d (by omega) (by omega) (by omega) (by omega)⟩
theorem ZJ {s:List ax} (h:hZ s) {w v:Int} (hw:w<=v) (x y:Int) (ht:at' (zk s w) x y=true):at' (zk s v) x y=true:=by
 obtain⟨h1,h2,h3⟩:=((Yp h w).2 x y).1 ht
 exact ((Yp h v).2 x y).2 ⟨by omega,h2,fun ho=>h3 (ZP h1 hw ho)⟩
end Reg
namespace M
open Go.AM Go.RowKit Go.Lib
open Reg (aB bC ax cF dV dy fW cR)
def pj (f:FuncId):PV:=.im (.func (.func f) #[] #[])
theorem lW (a b:Bool):aD C 66 [.pv (bool a),.pv (bool b)] (.p (bool (cR a b))) []:=by
 refine aT hC Tryz.func66 rfl rfl 10 rfl (by decide) (by kernel_rfl) fun _ _ _ _ _=>?_
 (refine yS<|yA Z<|yU<|yP Z<|yP Z<|yg Z ?_;refine aa (fun h=>?_) (fun h=>?_) <;> try simp only[zB] at h)
 ·(refine bS<|bA Z Z<|aA zI<|yk<|y1 Z<|yP Z<|yA Z<|yR zi ?_;refine And.intro ?_ trivial)
  subst h;rfl
 (refine cB<|ae<|y0 Z<|yP Z<|yA Z<|yR zi ?_;refine And.intro ?_ trivial)
 have h:a=false:=by simpa using h
 subst h;rfl
theorem se (k:Bool->Bool->Bool) (n:Nat) (ia ib is:Bool):cF k n [] [] ia ib is=[]:=by cases n <;> rfl
theorem d_ (t:TypeId) (out:List Int) (p:Int):AB.row t ((out.map fun n=>[i64 n])++[[i64 p]])=AB.row t ((out++[p]).map fun n=>[i64 n]):=by simp
theorem bO (x:List PV) (es:List (List PV)):AV.p (.sl (((x::es).take ((((x::es).length:Nat):Int)).toNat).drop (1:Int).toNat))=AV.p (.sl es):=by simp
def aE (l:List Int):List (List PV):=l.map fun n=>[i64 n]
theorem C8 (a b:List Int) (hN:a.length+b.length<=4398046511104):aD C 112 [.pv (ints a),.pv (ints b),.pv (pj 66)] (.p (ints (dV cR a b))) []:=by
 refine aT hC Tryz.func112 rfl rfl 85 rfl (by decide) (by kernel_rfl) fun _ _ _ _ _=>?_
 refine yS<|yB Z<|yU<|yB Z<|yU<|yA Z<|yA Z<|yA Z<|yT<|au<|aZ ?_
 refine aI (fun x:Nat×List Int×List Int×Bool×Bool×Bool×List Int=>x.2.1.length+x.2.2.1.length<=x.1/\x.2.2.2.2.2.2++cF cR x.1 x.2.1 x.2.2.1 x.2.2.2.1 x.2.2.2.2.1 x.2.2.2.2.2.1=dV cR a b/\x.2.2.2.2.2.2.length+x.1<=a.length+b.length)
  (fun x=>[(0,.p (ints x.2.1)),(1,.p (ints x.2.2.1)),(2,.p (pj 66)),(7,.ow 7),(8,.p (bool x.2.2.2.1)),(9,.p (bool x.2.2.2.2.1)),(10,.p (bool x.2.2.2.2.2.1))])
  (fun x=>[(7,.row 3 (aE x.2.2.2.2.2.2))]) (fun x=>x.1) (a.length+b.length,a,b,false,false,false,[]) _ (aW.fa hC _ 7 3 _ (by decide) rfl rfl (by decide)) ⟨Nat.le_refl _,rfl,by simp⟩ ⟨Z,Z,Z,Z,Z,Z,Z,Y⟩ ⟨Z,Y⟩ fun ⟨n,a',b',ia,ib,is,out⟩ hi t h=>?_
 obtain⟨h1,h2,h3⟩:=hi
 simp only at h1 h2 h3
 have lm:∀l:List Int,(l.map fun n=>[i64 n]).length=l.length:=fun l=>List.length_map ..
 rcases a' with _ | ⟨p,r⟩
 ·rcases b' with _ | ⟨q,u⟩
  ·rw[se,List.append_nil] at h2
   ((refine au<|yS<|yP Z<|yP Z<|yP Z<|yP Z<|y1 Z<|y1 Z<|y1 Z<|yP Z<|yT<|az Z<|cM<|bT ?_;refine aY<|aY<|bU<|aj<|yS<|yq Z<|aA zI<|bd<|af<|cD Z<|cr Z Z Z Z Z<|yR zi ?_);refine And.intro ?_ trivial)
   rw[<-h2]
   rfl
  obtain⟨m,rfl⟩:∃m,n=m+1:=⟨n - 1,by simp at h1;omega⟩
  have e:cF cR (m+1) [] (q::u) ia ib is=if cR ia (!ib)=is then cF cR m [] u ia (!ib) is else q::cF cR m [] u ia (!ib) (cR ia (!ib)):=by simp[cF,fW,dy]
  rw[e] at h2
  simp at h1
  (refine au<|yS<|yP Z<|yP Z<|yP Z<|yP Z<|y1 Z<|y1 Z<|y1 Z<|yP Z<|yT<|az Z ?_;refine aa (fun g1=>?_) (fun g1=>?_) <;> try simp only[zB] at g1)
  ··
    ((refine aJ<|aj<|aZ<|yS<|yA Z<|yT<|au<|au<|cH [] false nD rfl (by kernel_rfl)<|cG Z<|yD Z<|yD Z<|yD Z<|yD Z ?_;refine d1 Z<|d1 Z<|d1 Z<|d1 Z<|d0 Z<|d0 Z<|d0 Z<|d0 Z<|d0 Z<|d0 Z<|d0 Z<|d1 Z<|yD Z<|cn ?_;refine fo Z<|aj<|az Z<|cM<|aM<|yP Z<|yq Z<|aK zI ?_);refine⟨[i64 q],(idx (i:=0) rfl rfl),?_⟩)
    ((refine yk<|yP Z<|yA Z<|yT<|au<|yS<|yP Z<|yP Z<|yP Z<|yP Z<|y0 Z<|y0 Z<|y0 Z<|y0 Z ?_;refine y0 Z<|yP Z<|yT<|az Z<|cM<|aJ<|aj<|au<|yS<|yP Z<|yP Z<|yP Z<|yP Z<|yg Z ?_);refine aa (fun g2=>?_) (fun g2=>?_) <;> try simp only[zB] at g2)
    ·(refine bS<|bA Z Z<|aA zI<|yk<|y2 Z<|bA Z Z<|aK zI ?_;refine⟨[i64 q],(idx (i:=0) rfl rfl),?_⟩)
     (refine yk<|y1 Z<|y1 Z<|y1 Z<|yP Z<|yT<|az Z ?_;refine aa (fun g3=>?_) (fun g3=>?_) <;> try simp only[zB] at g3)
     ·(refine aM<|yP Z<|yq Z<|bg zI ?_;refine And.intro ⟨by simp,by simp;omega⟩ ?_)
      (refine yk<|yP Z<|yP Z<|yA Z<|yA Z<|yU<|yP Z<|yP Z<|yP Z<|yn Z<|aK zI ?_;refine⟨_,_,(lW ia (!ib)),?_⟩)
      (refine b9 Z Z<|ae<|yA Z<|yU<|yP Z<|yP Z<|yP Z<|yT<|az Z ?_;refine aa (fun g9=>?_) (fun g9=>?_) <;> try simp only[zB] at g9)
      ·have g9:¬cR ia (!ib)=is:=by simpa using g9
       rw[if_neg g9] at h2
       (refine aM<|yq Z<|aA zI<|bd<|af<|yP Z<|yn Z<|aA zI<|aS<|af<|yn Z<|bg zI ?_;refine And.intro ⟨by simp,by simp[aE];omega,by simp[aE];omega⟩ ?_)
       (refine aS<|aF<|af<|yP Z<|cD Z<|cr Z Z Z Z Z<|yA Z<|cL<|bp<|aj<|ai ?_;refine⟨(m,[],u,ia,(!ib),cR ia (!ib),out++[q]),_,aW.refl _ _,?_⟩)
       exact⟨⟨by simp;omega,by simp only[List.append_assoc,List.cons_append,List.nil_append];exact h2,by simp;omega⟩,by simp only;omega,⟨rfl,bO [i64 q] _,Z,Z,Z,Z,Z,Y⟩,⟨d_ _ out q,trivial⟩⟩
      have g9:cR ia (!ib)=is:=by simpa using g9
      rw[if_pos g9] at h2
      (refine aJ<|bp<|aj<|ai ?_;refine⟨(m,[],u,ia,(!ib),is,out),_,aW.refl _ _,?_⟩)
      exact⟨⟨by simp;omega,h2,by simp only;omega⟩,by simp only;omega,⟨rfl,bO [i64 q] _,Z,Z,Z,Z,Z,Y⟩,⟨Z,Y⟩⟩
     exact absurd trivial g3
    simp at g2
  simp at g1
 rcases b' with _ | ⟨q,u⟩
 ·obtain⟨m,rfl⟩:∃m,n=m+1:=⟨n - 1,by simp at h1;omega⟩
  have e:cF cR (m+1) (p::r) [] ia ib is=if cR (!ia) ib=is then cF cR m r [] (!ia) ib is else p::cF cR m r [] (!ia) ib (cR (!ia) ib):=by simp[cF,fW,dy]
  rw[e] at h2
  simp at h1
  (refine au<|yS<|yP Z<|yP Z<|yP Z<|yP Z<|yg Z ?_;refine aa (fun g1=>?_) (fun g1=>?_) <;> try simp only[zB] at g1)
  ·((refine cB<|ae<|y0 Z<|y0 Z<|yP Z<|yT<|az Z<|fy<|aJ<|aj<|aZ<|yS<|yA Z<|yT ?_;refine au<|au<|cH [] false nD rfl (by kernel_rfl)<|cG Z<|yD Z<|yD Z<|yD Z<|yD Z<|d0 Z<|d0 Z<|d0 Z<|d0 Z<|gu Z Z Z Z<|ae ?_;refine gu Z Z Z Z<|ae<|gu Z Z Z Z<|ae<|gu Z Z Z Z<|ae<|gu Z Z Z Z<|ae<|gu Z Z Z Z<|ae<|gu Z Z Z Z<|ae<|d0 Z<|yD Z ?_;refine cn<|fo Z<|aj<|az Z<|fy<|aM<|yP Z<|yq Z<|aK zI ?_);refine⟨[i64 p],(idx (i:=0) rfl rfl),?_⟩)
   (refine yk<|yP Z<|yA Z<|yT<|au<|yS<|yP Z<|yP Z<|yP Z<|yP Z<|yg Z ?_;refine aa (fun g2=>?_) (fun g2=>?_) <;> try simp only[zB] at g2)
   ·(refine bS<|bA Z Z<|aA zI<|yk<|y2 Z<|bA Z Z<|aK zI ?_;refine⟨[i64 p],(idx (i:=0) rfl rfl),?_⟩)
    (refine yk<|y1 Z<|y1 Z<|y1 Z<|yP Z<|yT<|az Z ?_;refine aa (fun g3=>?_) (fun g3=>?_) <;> try simp only[zB] at g3)
    ·(refine aM<|yP Z<|yq Z<|bg zI ?_;refine And.intro ⟨by simp,by simp;omega⟩ ?_)
     ((refine yk<|yP Z<|yP Z<|yA Z<|yA Z<|yT<|au<|yS<|yP Z<|yP Z<|yP Z<|yP Z<|y0 Z<|y0 Z ?_;refine y0 Z<|y0 Z<|y0 Z<|yP Z<|yT<|az Z<|cM<|aJ<|aj<|yS<|yP Z<|yP Z<|yP Z<|yn Z ?_;refine aK zI ?_);refine⟨_,_,(lW (!ia) ib),?_⟩)
     (refine b9 Z Z<|ae<|yA Z<|yU<|yP Z<|yP Z<|yP Z<|yT<|az Z ?_;refine aa (fun g9=>?_) (fun g9=>?_) <;> try simp only[zB] at g9)
     ·have g9:¬cR (!ia) ib=is:=by simpa using g9
      rw[if_neg g9] at h2
      (refine aM<|yq Z<|aA zI<|bd<|af<|yP Z<|yn Z<|aA zI<|aS<|af<|yn Z<|bg zI ?_;refine And.intro ⟨by simp,by simp[aE];omega,by simp[aE];omega⟩ ?_)
      (refine aS<|aF<|af<|yP Z<|cD Z<|cr Z Z Z Z Z<|yA Z<|cL<|bp<|aj<|ai ?_;refine⟨(m,r,[],(!ia),ib,cR (!ia) ib,out++[p]),_,aW.refl _ _,?_⟩)
      exact⟨⟨by simp;omega,by simp only[List.append_assoc,List.cons_append,List.nil_append];exact h2,by simp;omega⟩,by simp only;omega,⟨bO [i64 p] _,Z,Z,Z,Z,Z,Z,Y⟩,⟨d_ _ out p,trivial⟩⟩
     have g9:cR (!ia) ib=is:=by simpa using g9
     rw[if_pos g9] at h2
     (refine aJ<|bp<|aj<|ai ?_;refine⟨(m,r,[],(!ia),ib,is,out),_,aW.refl _ _,?_⟩)
     exact⟨⟨by simp;omega,h2,by simp only;omega⟩,by simp only;omega,⟨bO [i64 p] _,Z,Z,Z,Z,Z,Z,Y⟩,⟨Z,Y⟩⟩
    exact absurd trivial g3
   simp at g2
  simp at g1
 obtain⟨m,rfl⟩:∃m,n=m+1:=⟨n - 1,by simp at h1;omega⟩
 have e:cF cR (m+1) (p::r) (q::u) ia ib is=if cR (dy (if p<=q then p else q) (p::r) ia).2 (dy (if p<=q then p else q) (q::u) ib).2=is then cF cR m (dy (if p<=q then p else q) (p::r) ia).1 (dy (if p<=q then p else q) (q::u) ib).1 (dy (if p<=q then p else q) (p::r) ia).2 (dy (if p<=q then p else q) (q::u) ib).2 is else (if p<=q then p else q)::cF cR m (dy (if p<=q then p else q) (p::r) ia).1 (dy (if p<=q then p else q) (q::u) ib).1 (dy (if p<=q then p else q) (p::r) ia).2 (dy (if p<=q then p else q) (q::u) ib).2 (cR (dy (if p<=q then p else q) (p::r) ia).2 (dy (if p<=q then p else q) (q::u) ib).2):=rfl
 rw[e] at h2
 simp at h1
 (refine au<|yS<|yP Z<|yP Z<|yP Z<|yP Z<|yg Z ?_;refine aa (fun g1=>?_) (fun g1=>?_) <;> try simp only[zB] at g1)
 ··
   ((refine cB<|ae<|y0 Z<|y0 Z<|yP Z<|yT<|az Z<|fy<|aJ<|aj<|aZ<|yS<|yA Z<|yT ?_;refine au<|au<|cH [] false nD rfl (by kernel_rfl)<|cG Z<|yD Z<|yD Z<|yD Z<|yD Z<|d1 Z<|d1 Z<|d1 Z<|d1 Z<|dg Z ?_);refine aa (fun g3=>?_) (fun g3=>?_) <;> try simp only[zB] at g3)
   ·(refine bS<|c_ Z<|aA zI<|bB<|ae<|d2 Z<|c_ Z<|aK zI ?_;refine⟨[i64 p],(idx (i:=0) rfl rfl),?_⟩)
    (refine bB<|ae<|d1 Z<|d1 Z<|d2 Z<|c_ Z<|aK zI ?_;refine⟨[i64 q],(idx (i:=0) rfl rfl),?_⟩)
    (refine bB<|ae<|d1 Z<|d1 Z<|d1 Z<|yD Z<|cn<|fo Z<|aj<|az Z ?_;refine aa (fun g4=>?_) (fun g4=>?_) <;> try simp only[zB] at g4)
    ·rw[if_pos g4] at h2
     (refine aM<|yP Z<|yq Z<|aK zI ?_;refine⟨[i64 p],(idx (i:=0) rfl rfl),?_⟩)
     (refine yk<|yP Z<|yA Z<|yT<|au<|yS<|yP Z<|yP Z<|yP Z<|yP Z<|yg Z ?_;refine aa (fun g5=>?_) (fun g5=>?_) <;> try simp only[zB] at g5)
     ·(refine bS<|bA Z Z<|aA zI<|yk<|y2 Z<|bA Z Z<|aK zI ?_;refine⟨[i64 p],(idx (i:=0) rfl rfl),?_⟩)
      (refine yk<|y1 Z<|y1 Z<|y1 Z<|yP Z<|yT<|az Z ?_;refine aa (fun g6=>?_) (fun g6=>?_) <;> try simp only[zB] at g6)
      ·(refine aM<|yP Z<|yq Z<|bg zI ?_;refine And.intro ⟨by simp,by simp;omega⟩ ?_)
       (refine yk<|yP Z<|yP Z<|yA Z<|yA Z<|yT<|au<|yS<|yP Z<|yP Z<|yP Z<|yP Z<|yg Z ?_;refine aa (fun g7=>?_) (fun g7=>?_) <;> try simp only[zB] at g7)
       ·(refine bS<|bA Z Z<|aA zI<|yk<|y2 Z<|bA Z Z<|aK zI ?_;refine⟨[i64 q],(idx (i:=0) rfl rfl),?_⟩)
        (refine yk<|y1 Z<|y1 Z<|y1 Z<|yP Z<|yT<|az Z ?_;refine aa (fun g8=>?_) (fun g8=>?_) <;> try simp only[zB] at g8)
        ·(refine aM<|yP Z<|yq Z<|bg zI ?_;refine And.intro ⟨by simp,by simp;omega⟩ ?_)
         rw[show dy p (p::r) ia=(r,!ia) by simp[dy],show dy p (q::u) ib=(u,!ib) by simp[dy,g8]] at h2
         simp only at h2
         (refine yk<|yP Z<|yP Z<|yA Z<|yA Z<|yU<|yP Z<|yP Z<|yP Z<|yn Z<|aK zI ?_;refine⟨_,_,(lW (!ia) (!ib)),?_⟩)
         (refine b9 Z Z<|ae<|yA Z<|yU<|yP Z<|yP Z<|yP Z<|yT<|az Z ?_;refine aa (fun g9=>?_) (fun g9=>?_) <;> try simp only[zB] at g9)
         ·have g9:¬cR (!ia) (!ib)=is:=by simpa using g9
          rw[if_neg g9] at h2
          (refine aM<|yq Z<|aA zI<|bd<|af<|yP Z<|yn Z<|aA zI<|aS<|af<|yn Z<|bg zI ?_;refine And.intro ⟨by simp,by simp[aE];omega,by simp[aE];omega⟩ ?_)
          (refine aS<|aF<|af<|yP Z<|cD Z<|cr Z Z Z Z Z<|yA Z<|cL<|bp<|aj<|ai ?_;refine⟨(m,r,u,(!ia),(!ib),cR (!ia) (!ib),out++[p]),_,aW.refl _ _,?_⟩)
          exact⟨⟨by simp;omega,by simp only[List.append_assoc,List.cons_append,List.nil_append];exact h2,by simp;omega⟩,by simp only;omega,⟨bO [i64 p] _,bO [i64 q] _,Z,Z,Z,Z,Z,Y⟩,⟨d_ _ out p,trivial⟩⟩
         have g9:cR (!ia) (!ib)=is:=by simpa using g9
         rw[if_pos g9] at h2
         (refine aJ<|bp<|aj<|ai ?_;refine⟨(m,r,u,(!ia),(!ib),is,out),_,aW.refl _ _,?_⟩)
         exact⟨⟨by simp;omega,h2,by simp only;omega⟩,by simp only;omega,⟨bO [i64 p] _,bO [i64 q] _,Z,Z,Z,Z,Z,Y⟩,⟨Z,Y⟩⟩
        rw[show dy p (p::r) ia=(r,!ia) by simp[dy],show dy p (q::u) ib=(q::u,ib) by simp[dy,g8]] at h2
        simp only at h2
        (refine aJ<|aj<|yS<|yP Z<|yP Z<|yP Z<|yn Z<|aK zI ?_;refine⟨_,_,(lW (!ia) ib),?_⟩)
        (refine b9 Z Z<|ae<|yA Z<|yU<|yP Z<|yP Z<|yP Z<|yT<|az Z ?_;refine aa (fun g9=>?_) (fun g9=>?_) <;> try simp only[zB] at g9)
        ·have g9:¬cR (!ia) ib=is:=by simpa using g9
         rw[if_neg g9] at h2
         (refine aM<|yq Z<|aA zI<|bd<|af<|yP Z<|yn Z<|aA zI<|aS<|af<|yn Z<|bg zI ?_;refine And.intro ⟨by simp,by simp[aE];omega,by simp[aE];omega⟩ ?_)
         (refine aS<|aF<|af<|yP Z<|cD Z<|cr Z Z Z Z Z<|yA Z<|cL<|bp<|aj<|ai ?_;refine⟨(m,r,(q::u),(!ia),ib,cR (!ia) ib,out++[p]),_,aW.refl _ _,?_⟩)
         exact⟨⟨by simp;omega,by simp only[List.append_assoc,List.cons_append,List.nil_append];exact h2,by simp;omega⟩,by simp only;omega,⟨bO [i64 p] _,Z,Z,Z,Z,Z,Z,Y⟩,⟨d_ _ out p,trivial⟩⟩
        have g9:cR (!ia) ib=is:=by simpa using g9
        rw[if_pos g9] at h2
        (refine aJ<|bp<|aj<|ai ?_;refine⟨(m,r,(q::u),(!ia),ib,is,out),_,aW.refl _ _,?_⟩)
        exact⟨⟨by simp;omega,h2,by simp only;omega⟩,by simp only;omega,⟨bO [i64 p] _,Z,Z,Z,Z,Z,Z,Y⟩,⟨Z,Y⟩⟩
       simp at g7
      exact absurd trivial g6
     simp at g5
    rw[if_neg g4] at h2
    (refine aM<|yP Z<|yq Z<|aK zI ?_;refine⟨[i64 q],(idx (i:=0) rfl rfl),?_⟩)
    (refine yk<|yP Z<|yA Z<|yT<|au<|yS<|yP Z<|yP Z<|yP Z<|yP Z<|yg Z ?_;refine aa (fun g5=>?_) (fun g5=>?_) <;> try simp only[zB] at g5)
    ·(refine bS<|bA Z Z<|aA zI<|yk<|y2 Z<|bA Z Z<|aK zI ?_;refine⟨[i64 p],(idx (i:=0) rfl rfl),?_⟩)
     (refine yk<|y1 Z<|y1 Z<|y1 Z<|yP Z<|yT<|az Z ?_;refine aa (fun g6=>?_) (fun g6=>?_) <;> try simp only[zB] at g6)
     ·omega
     (refine aJ<|aj<|au<|yS<|yP Z<|yP Z<|yP Z<|yP Z<|yg Z ?_;refine aa (fun g7=>?_) (fun g7=>?_) <;> try simp only[zB] at g7)
     ·(refine bS<|bA Z Z<|aA zI<|yk<|y2 Z<|bA Z Z<|aK zI ?_;refine⟨[i64 q],(idx (i:=0) rfl rfl),?_⟩)
      (refine yk<|y1 Z<|y1 Z<|y1 Z<|yP Z<|yT<|az Z ?_;refine aa (fun g8=>?_) (fun g8=>?_) <;> try simp only[zB] at g8)
      ·(refine aM<|yP Z<|yq Z<|bg zI ?_;refine And.intro ⟨by simp,by simp;omega⟩ ?_)
       rw[show dy q (q::u) ib=(u,!ib) by simp[dy],show dy q (p::r) ia=(p::r,ia) by simp[dy,g6]] at h2
       simp only at h2
       (refine yk<|yP Z<|yP Z<|yA Z<|yA Z<|yU<|yP Z<|yP Z<|yP Z<|yn Z<|aK zI ?_;refine⟨_,_,(lW ia (!ib)),?_⟩)
       (refine b9 Z Z<|ae<|yA Z<|yU<|yP Z<|yP Z<|yP Z<|yT<|az Z ?_;refine aa (fun g9=>?_) (fun g9=>?_) <;> try simp only[zB] at g9)
       ·have g9:¬cR ia (!ib)=is:=by simpa using g9
        rw[if_neg g9] at h2
        (refine aM<|yq Z<|aA zI<|bd<|af<|yP Z<|yn Z<|aA zI<|aS<|af<|yn Z<|bg zI ?_;refine And.intro ⟨by simp,by simp[aE];omega,by simp[aE];omega⟩ ?_)
        (refine aS<|aF<|af<|yP Z<|cD Z<|cr Z Z Z Z Z<|yA Z<|cL<|bp<|aj<|ai ?_;refine⟨(m,(p::r),u,ia,(!ib),cR ia (!ib),out++[q]),_,aW.refl _ _,?_⟩)
        exact⟨⟨by simp;omega,by simp only[List.append_assoc,List.cons_append,List.nil_append];exact h2,by simp;omega⟩,by simp only;omega,⟨rfl,bO [i64 q] _,Z,Z,Z,Z,Z,Y⟩,⟨d_ _ out q,trivial⟩⟩
       have g9:cR ia (!ib)=is:=by simpa using g9
       rw[if_pos g9] at h2
       (refine aJ<|bp<|aj<|ai ?_;refine⟨(m,(p::r),u,ia,(!ib),is,out),_,aW.refl _ _,?_⟩)
       exact⟨⟨by simp;omega,h2,by simp only;omega⟩,by simp only;omega,⟨rfl,bO [i64 q] _,Z,Z,Z,Z,Z,Y⟩,⟨Z,Y⟩⟩
      exact absurd trivial g8
     simp at g7
    simp at g5
   simp at g3
 simp at g1
end M
namespace Reg
theorem xy {hi:Int}:∀{s:bC} {p:Int×Int},Canon (p::s)->(∀q∈p::s,q.2<=hi)->2*((s.length:Int)+1)<=hi - p.1+1
 | [],p,h,hb=>by
  have h1:=h.head
  have h2:=hb p (by simp)
  simp only[List.length_nil]
  omega
 | q::s,p,h,hb=>by
  have ih:=xy (s:=s) (p:=q) h.tail (fun t ht=>hb t (by simp at ht ⊢;exact .inr ht))
  have h1:=h.head
  have h2:=h.behind q (by simp)
  simp only[List.length_cons]
  omega
theorem gO {s:bC} {K:Int} (h:Canon s) (hK:0<=K) (hb:∀q∈s,-K<=q.1/\q.2<=K):2*(s.length:Int)<=2*K+1:=by
 cases s with
 | nil=>simp only[List.length_nil];omega
 | cons p s=>
  have h1:=xy h (fun q hq=>(hb q hq).2)
  have h2:=(hb p (by simp)).1
  simp only[List.length_cons]
  omega
theorem El {hi:Int}:∀{s:List ax} {b:ax},hZ (b::s)->(∀t∈b::s,t.y1<=hi)->(s.length:Int)+1<=hi - b.y0
 | [],b,h,hb=>by
  have h1:=h.head.lt
  have h2:=hb b (by simp)
  simp only[List.length_nil]
  omega
 | c::s,b,h,hb=>by
  have ih:=El (s:=s) (b:=c) h.tail (fun t ht=>hb t (by simp at ht ⊢;exact .inr ht))
  have h1:=h.head.lt
  have h2:=h.2.1
  simp only[List.length_cons]
  omega
theorem cy {s:List ax} {K:Int} (h:hZ s) (hK:0<=K) (hb:cQ K s):(s.length:Int)<=2*K:=by
 cases s with
 | nil=>simp only[List.length_nil];omega
 | cons b s=>
  have h1:=El h (fun t ht=>(hb t ht).2.1)
  have h2:=(hb b (by simp)).1
  simp only[List.length_cons]
  omega
theorem jk {s:List ax} {K:Int} (h:hZ s) (hK:0<=K) (hb:cQ K s):∀t∈s,2*(t.xs.length:Int)<=2*K+1:=fun t ht=>gO (h.mem t ht).can hK (hb t ht).2.2
theorem u5 {M:Nat}:∀{s:List ax},(∀t∈s,t.xs.length<=M)->(told s).length<=s.length*M
 | [],_=>by simp[told]
 | b::s,h=>by
  have ih:=u5 (s:=s) (fun t ht=>h t (by simp[ht]))
  have h1:=h b (by simp)
  unfold told at ih ⊢
  rw[List.flatMap_cons,List.length_append,List.length_map,List.length_cons,Nat.add_mul]
  omega
theorem kj {s:List ax} (h:hZ s) (hb:cQ 1400000 s):(told s).length<=4398046511104:=by
 have h1:=cy h (by omega) hb
 have h2:=u5 (M:=1400000) (s:=s) fun t ht=>by have:=jk h (by omega) hb t ht;omega
 have h3:s.length*1400000<=2800000*1400000:=Nat.mul_le_mul_right _ (by omega)
 omega
theorem A7 {K:Int} {a b out:List ax} {y e:Int} (eL:y < e) (ha:hZ a) (hb:hZ b) (ho:hZ out) (h1:∀t∈out,t.y1<=y) (ka:cQ K a) (kb:cQ K b) (ko:cQ K out) (hy:-K<=y) (he:e<=K):
  ∃nx L,nx=min (eo (aC y a) y e).2 (eo (aC y b) y e).2/\L=dV cR (bK (eo (aC y a) y e).1) (bK (eo (aC y b) y e).1)/\y < nx/\nx<=e/\bK (pairUp L)=L/\hZ (aC y a)/\hZ (aC y b)/\cQ K (aC y a)/\cQ K (aC y b)/\
   hZ (du out ⟨y,nx,pairUp L⟩)/\(∀t∈du out ⟨y,nx,pairUp L⟩,t.y1<=nx)/\cQ K (du out ⟨y,nx,pairUp L⟩)/\Canon (eo (aC y a) y e).1/\Canon (eo (aC y b) y e).1/\(∀p∈(eo (aC y a) y e).1,-K<=p.1/\p.2<=K)/\(∀p∈(eo (aC y b) y e).1,-K<=p.1/\p.2<=K):=by
 obtain⟨a1,a2,a3⟩:=eH (y:=y) ha
 obtain⟨b1,b2,b3⟩:=eH (y:=y) hb
 obtain⟨c1,c2,c3,c4,c5⟩:=gN a1 (fun t ht=>(a2 t ht).2) eL
 obtain⟨d1,d2,d3,d4,d5⟩:=gN b1 (fun t ht=>(b2 t ht).2) eL
 obtain⟨r1,r2,r3,r4⟩:=lM (k:=cR) rfl c1 d1
 obtain⟨nx,wo⟩:∃nx,nx=min (eo (aC y a) y e).2 (eo (aC y b) y e).2:=⟨_,rfl⟩
 have n1:y < nx:=by omega
 have n2:nx<=e:=by omega
 have g1:∀p∈(eo (aC y a) y e).1,-K<=p.1/\p.2<=K:=fun p hp=>by obtain⟨q,hq,hp⟩:=c4 p hp;exact (ka q (a2 q hq).1).2.2 p hp
 have g2:∀p∈(eo (aC y b) y e).1,-K<=p.1/\p.2<=K:=fun p hp=>by obtain⟨q,hq,hp⟩:=d4 p hp;exact (kb q (b2 q hq).1).2.2 p hp
 have rr:=r4 K g1 g2
 obtain⟨p1,p2,p3,p4⟩:=kh (b:=⟨y,nx,pairUp (dV cR (bK (eo (aC y a) y e).1) (bK (eo (aC y b) y e).1))⟩) ho n1 r1 h1
 refine⟨nx,_,wo,rfl,n1,n2,r3,a1,b1,fun t ht=>ka t (a2 t ht).1,fun t ht=>kb t (b2 t ht).1,p1,p2,fun t ht=>?_,c1,d1,g1,g2⟩
 have e1:=p2 t ht
 have e1:t.y1<=nx:=e1
 rcases p4 t ht with⟨u,hu,x1,x2⟩ | ⟨x1,x2⟩
 ·have:=ko u hu
  rw[<-x1,<-x2]
  exact⟨this.1,by omega,this.2.2⟩
 rw[x1,x2]
 exact⟨hy,by omega,rr⟩
theorem kO:∀(b:ax) (s:List ax),∃t,(b::s)[s.length]?=some t/\t.y1=db (b::s)
 | b,[]=>⟨b,rfl,rfl⟩
 | b,c::s=>by
  obtain⟨t,h1,h2⟩:=kO c s
  exact⟨t,by simpa using h1,by rw[db];exact h2⟩
theorem H_ {K:Int} {a b:List ax} (ka:cQ K a) (kb:cQ K b) (hn:a.length+b.length≠0):-K<=nE a b:=by
 cases a with
 | nil=>
  cases b with
  | nil=>simp at hn
  | cons q u=>exact (kb q (by simp)).1
 | cons p r=>
  cases b with
  | nil=>exact (ka p (by simp)).1
  | cons q u=>
   have:=(ka p (by simp)).1
   have:=(kb q (by simp)).1
   show -K<=min p.y0 q.y0
   omega
theorem Ia {K:Int} {a b:List ax} (ka:cQ K a) (kb:cQ K b) (hn:a.length+b.length≠0):nF a b<=K:=by
 cases a with
 | nil=>
  cases b with
  | nil=>simp at hn
  | cons q u=>exact kX (by simp) kb
 | cons p r=>
  cases b with
  | nil=>exact kX (by simp) ka
  | cons q u=>
   have h1:=kX (by simp) ka
   have h2:=kX (by simp) kb
   show max (db (p::r)) (db (q::u))<=K
   omega
end Reg
namespace M
open Go.AM Go.RowKit Go.Lib
open Reg (aB bC ax cF dV cR eo aC dH gK nE nF db bK pairUp hZ cQ du cv Canon)
theorem jK:∀s:bC,flat s=bK s
 | []=>rfl
 | p::s=>by rw[flat,bK,jK s]
def aG (s:List ax):PV:=.sl (s.map hb)
theorem lX (s:List ax) (y e:Int):aD C 111 [.pv (aG s),.pv (i64 y),.pv (i64 e)] (.tu [ints (bK (eo s y e).1),i64 (eo s y e).2]) []:=by
 refine aT hC Tryz.func111 rfl rfl 36 rfl (by decide) (by kernel_rfl) fun _ _ _ _ _=>?_
 rcases s with _ | ⟨b,s⟩
 ·((refine yS<|yB Z<|yA Z<|yT<|au<|aZ<|yS<|yP Z<|yP Z<|yP Z<|yA Z<|yT<|az Z<|fy ?_;refine yS<|yP Z<|yB Z<|yA Z<|yT<|bP<|bW<|aX<|bQ zi ?_);refine And.intro ?_ trivial)
  rfl
 have e1:eo (b::s) y e=if y < b.y0 then ([],min e b.y0) else (b.xs,min e b.y1):=rfl
 ((refine yS<|yB Z<|yA Z<|yT<|au<|aZ<|yS<|yP Z<|yP Z<|yP Z<|yA Z<|yT<|az Z<|cM ?_;refine yS<|yP Z<|yP Z<|yq Z<|aK zI ?_);refine⟨(hb b),(idx (i:=0) rfl rfl),?_⟩)
 (refine yk<|yP Z<|yP Z<|yP Z<|yA Z<|yT<|az Z ?_;refine aa (fun g2=>?_) (fun g2=>?_) <;> try simp only[zB] at g2)
 ·rw[e1,if_pos g2]
  (refine au<|cH [] false RE rfl (by kernel_rfl)<|cG Z<|yD Z<|yD Z<|dq Z<|aK zI ?_;refine⟨(hb b),(idx (i:=0) rfl rfl),?_⟩)
  ((refine bB<|ae<|yD Z<|yD Z<|yD Z<|dq Z<|aA zI<|bB<|HA<|yD Z<|cn<|aq Z<|aq Z<|aq Z ?_;refine aq Z<|aq Z<|aq Z<|dW Z Z<|dW Z Z<|fo Z<|aj<|bP<|bW<|aX<|bQ zi ?_);refine And.intro ?_ trivial)
  rfl
 rw[e1,if_neg g2,<-jK]
 (refine aJ<|bp<|aj<|au<|cH [] false HF rfl (by kernel_rfl)<|cG Z<|yD Z<|dq Z<|aK zI ?_;refine⟨(hb b),(idx (i:=0) rfl rfl),?_⟩)
 (refine bB<|ae<|yD Z<|yD Z<|yD Z<|yD Z<|dq Z<|aK zI ?_;refine⟨(hb b),(idx (i:=0) rfl rfl),?_⟩)
 ((refine bB<|ae<|yD Z<|yD Z<|yD Z<|yD Z<|yD Z<|cn<|aq Z<|aq Z<|aq Z<|aq Z<|aq Z<|aq Z ?_;refine aq Z<|aq Z<|aq Z<|aq Z<|dW Z Z<|dW Z Z<|fo Z<|aj<|bP<|bQ zi ?_);refine And.intro ?_ trivial)
 rfl
theorem oO {l:List ax}:∀r∈l.map hb,r.length=3:=fun r hr=>by
 obtain⟨b,_,rfl⟩:=List.mem_map.1 hr
 rfl
def st (a b:List ax):Nat->Int×Int
 | 0=>(0,0)
 | 1=>match a with
  | []=>(0,0)
  | p::r=>(p.y0,db (p::r))
 | _=>(nE a b,nF a b)
theorem A8 (a b:List ax) (ha:hZ a) (hb':hZ b) (ka:cQ 2000000 a) (kb:cQ 2000000 b):aD C 65 [.pv (aG a),.pv (aG b),.pv (pj 66)] (.p (aG (cv a b))) []:=by
 refine aT hC Tryz.func65 rfl rfl 126 rfl (by decide) (by kernel_rfl) fun _ _ _ _ _=>?_
 have la:=Reg.cy ha (by omega) ka
 have lb:=Reg.cy hb' (by omega) kb
 have ma:=aN a hb
 have mb:=aN b hb
 (refine yS<|yB Z<|yU<|yB Z<|yT<|au<|yS<|yP Z<|yP Z<|yP Z<|yP Z<|yq Z<|bg zI ?_;refine And.intro ⟨by rw[ma,mb];omega,by rw[ma,mb];omega⟩ ?_)
 (refine yk<|yP Z<|yT<|az Z ?_;refine aa (fun g0=>?_) (fun g0=>?_) <;> try simp only[zB] at g0)
 ·rw[ma,mb] at g0
  (refine yS<|yB Z<|yT<|bP<|aX<|bQ zi ?_;refine And.intro ?_ trivial)
  rw[cv,gK,if_pos (by omega)]
  rfl
 rw[ma,mb] at g0
 have hn:a.length+b.length≠0:=by omega
 (refine aJ<|aj<|yS<|yA Z<|yA Z<|yT<|au<|yS<|yP Z<|yP Z<|yn Z<|aA zI<|aS<|af ?_;refine yP Z<|yP Z<|yT<|aZ ?_)
 refine aI (fun i:Nat=>i<=2) (fun i=>[(0,.p (aG a)),(1,.p (aG b)),(2,.p (pj 66)),(7,.nl),(8,.p (i64 (st a b i).1)),(9,.p (i64 (st a b i).2)),(25,.ow 25),(26,.p (i64 (2:Nat))),(27,.p (i64 i))]) (fun i=>[(25,.row 81 [[aG a],[aG b]])]) (fun i=>2 - i) 0 _ (aW.refl _ _) (by omega) ⟨Z,Z,Z,Z,Z,Z,Z,Z,Z,Y⟩ ⟨Z,Y⟩ fun i hi t h=>?_
 (refine yS<|yP Z<|yT<|au<|az Z ?_;refine aa (fun g1=>?_) (fun g1=>?_) <;> try simp only[zB] at g1)
 ·obtain rfl | rfl:i=0\/i=1:=by omega
  ·(refine aJ<|aj<|au<|aZ<|yS<|yP Z<|yq Z<|bg zI ?_;refine And.intro ⟨by simp,by simp⟩ ?_)
   (refine bd<|bJ<|yq Z<|aK zI ?_;refine⟨[aG a],rfl,?_⟩)
   rcases a with _ | ⟨p,r⟩
   ·((refine yk<|yA Z<|yA Z<|yU<|yP Z<|yP Z<|yP Z<|yT<|az Z<|cM<|aJ<|bp<|aj<|aM ?_;refine yq Z<|bg zI ?_);refine sI ?_)
    (refine yk<|yP Z<|yT<|ai ?_;refine⟨1,_,aW.refl _ _,?_⟩)
    exact⟨by omega,by omega,⟨Z,Z,Z,Z,Z,Z,Z,Z,Z,Y⟩,⟨Z,Y⟩⟩
   obtain⟨t1,v7,Gd⟩:=Reg.kO p r
   simp at la
   (refine yk<|yA Z<|yA Z<|yU<|yP Z<|yP Z<|yP Z<|yT<|az Z ?_;refine aa (fun g2=>?_) (fun g2=>?_) <;> try simp only[zB] at g2)
   ·(refine au<|yS<|yP Z<|yP Z<|yP Z<|y0 Z<|y0 Z<|y0 Z<|yP Z<|yT<|az Z<|fy<|cH [] false yz rfl (by kernel_rfl)<|cG Z ?_;refine yD Z<|dq Z<|aK zI ?_)
    (skip;refine⟨(hb p),(idx (i:=0) rfl rfl),?_⟩)
    (refine bB<|ae<|yD Z<|yD Z<|yD Z<|yD Z<|yD Z<|dq Z<|bg zI ?_;refine And.intro ⟨by simp,by simp;omega⟩ ?_)
    (refine bB<|ae<|dq Z<|aK zI ?_;refine⟨(hb t1),(idx (show (((p::r).map hb).length:Int) - 1=((r.length:Nat):Int) by simp) v7),?_⟩)
    ((refine bB<|ae<|yD Z<|yD Z<|yD Z<|yD Z<|cn<|aq Z<|aq Z<|aq Z<|aq Z<|aq Z<|aq Z<|aq Z ?_;refine aq Z<|aq Z<|aq Z<|aq Z<|dW Z Z<|dW Z Z<|fo Z<|aj<|cH [] false nD rfl (by kernel_rfl)<|cG Z<|yD Z<|yD Z<|dq Z<|aK zI ?_);refine⟨(hb p),(idx (i:=0) rfl rfl),?_⟩)
    (refine bB<|ae<|yD Z<|yD Z<|yD Z<|yD Z<|yD Z<|yD Z<|yD Z<|dq Z<|bg zI ?_;refine And.intro ⟨by simp,by simp;omega⟩ ?_)
    (refine bB<|ae<|dq Z<|aK zI ?_;refine⟨(hb t1),(idx (show (((p::r).map hb).length:Int) - 1=((r.length:Nat):Int) by simp) v7),?_⟩)
    ((refine bB<|ae<|yD Z<|yD Z<|yD Z<|yD Z<|yD Z<|cn<|aq Z<|aq Z<|aq Z<|aq Z<|aq Z<|aq Z ?_;refine aq Z<|aq Z<|aq Z<|aq Z<|aq Z<|aq Z<|aq Z<|aq Z<|aq Z<|dW Z Z<|dW Z Z<|fo Z<|bp<|aj ?_;refine aM<|yq Z<|bg zI ?_);refine sI ?_)
    (refine yk<|yP Z<|yT<|ai ?_;refine⟨1,_,aW.refl _ _,?_⟩)
    exact⟨by omega,by omega,⟨rfl,rfl,rfl,rfl,cd (show min p.y0 p.y0=p.y0 by omega),cd (show max t1.y1 t1.y1=db (p::r) by omega),Z,Z,Z,Y⟩,⟨Z,Y⟩⟩
   simp at g2
  (refine aJ<|aj<|au<|aZ<|yS<|yP Z<|yq Z<|bg zI ?_;refine And.intro ⟨by simp,by simp⟩ ?_)
  (refine bd<|bJ<|yq Z<|aK zI ?_;refine⟨[aG b],rfl,?_⟩)
  rcases b with _ | ⟨q,u⟩
  ·((refine yk<|yA Z<|yA Z<|yU<|yP Z<|yP Z<|yP Z<|yT<|az Z<|cM<|aJ<|bp<|aj<|aM ?_;refine yq Z<|bg zI ?_);refine sI ?_)
   (refine yk<|yP Z<|yT<|ai ?_;refine⟨2,_,aW.refl _ _,?_⟩)
   have e1:st a [] 1=st a [] 2:=by
    rcases a with _ | ⟨p,r⟩
    ·simp at hn
    rfl
   exact⟨by omega,by omega,⟨rfl,rfl,rfl,rfl,cd (by rw[e1]),cd (by rw[e1]),Z,Z,Z,Y⟩,⟨Z,Y⟩⟩
  obtain⟨t1,v7,Gd⟩:=Reg.kO q u
  simp at lb
  (refine yk<|yA Z<|yA Z<|yU<|yP Z<|yP Z<|yP Z<|yT<|az Z ?_;refine aa (fun g2=>?_) (fun g2=>?_) <;> try simp only[zB] at g2)
  ·rcases a with _ | ⟨p,r⟩
   ·(refine au<|yS<|yP Z<|yP Z<|yP Z<|y1 Z<|y1 Z<|y1 Z<|yP Z<|yT<|az Z<|fy<|cH [] false yz rfl (by kernel_rfl)<|cG Z ?_;refine yD Z<|dq Z<|aK zI ?_)
    (skip;refine⟨(hb q),(idx (i:=0) rfl rfl),?_⟩)
    (refine bB<|ae<|yD Z<|yD Z<|yD Z<|yD Z<|yD Z<|dq Z<|bg zI ?_;refine And.intro ⟨by simp,by simp;omega⟩ ?_)
    (refine bB<|ae<|dq Z<|aK zI ?_;refine⟨(hb t1),(idx (show (((q::u).map hb).length:Int) - 1=((u.length:Nat):Int) by simp) v7),?_⟩)
    ((refine bB<|ae<|yD Z<|yD Z<|yD Z<|yD Z<|cn<|aq Z<|aq Z<|aq Z<|aq Z<|aq Z<|aq Z<|aq Z ?_;refine aq Z<|aq Z<|aq Z<|aq Z<|dW Z Z<|dW Z Z<|fo Z<|aj<|cH [] false nD rfl (by kernel_rfl)<|cG Z<|yD Z<|yD Z<|dq Z<|aK zI ?_);refine⟨(hb q),(idx (i:=0) rfl rfl),?_⟩)
    (refine bB<|ae<|yD Z<|yD Z<|yD Z<|yD Z<|yD Z<|yD Z<|yD Z<|dq Z<|bg zI ?_;refine And.intro ⟨by simp,by simp;omega⟩ ?_)
    (refine bB<|ae<|dq Z<|aK zI ?_;refine⟨(hb t1),(idx (show (((q::u).map hb).length:Int) - 1=((u.length:Nat):Int) by simp) v7),?_⟩)
    ((refine bB<|ae<|yD Z<|yD Z<|yD Z<|yD Z<|yD Z<|cn<|aq Z<|aq Z<|aq Z<|aq Z<|aq Z<|aq Z ?_;refine aq Z<|aq Z<|aq Z<|aq Z<|aq Z<|aq Z<|aq Z<|aq Z<|aq Z<|dW Z Z<|dW Z Z<|fo Z<|bp<|aj ?_;refine aM<|yq Z<|bg zI ?_);refine sI ?_)
    (refine yk<|yP Z<|yT<|ai ?_;refine⟨2,_,aW.refl _ _,?_⟩)
    exact⟨by omega,by omega,⟨rfl,rfl,rfl,rfl,cd (show min q.y0 q.y0=q.y0 by omega),cd (show max t1.y1 t1.y1=db (q::u) by omega),Z,Z,Z,Y⟩,⟨Z,Y⟩⟩
   (refine au<|yS<|yP Z<|yP Z<|yP Z<|y1 Z<|y1 Z<|y1 Z<|yP Z<|yT<|az Z<|cM<|aJ<|aj ?_;refine cH [] false nD rfl (by kernel_rfl)<|cG Z<|yD Z<|yD Z<|dq Z<|aK zI ?_)
   (skip;refine⟨(hb q),(idx (i:=0) rfl rfl),?_⟩)
   (refine bB<|ae<|yD Z<|yD Z<|yD Z<|yD Z<|yD Z<|yD Z<|yD Z<|dq Z<|bg zI ?_;refine And.intro ⟨by simp,by simp;omega⟩ ?_)
   (refine bB<|ae<|dq Z<|aK zI ?_;refine⟨(hb t1),(idx (show (((q::u).map hb).length:Int) - 1=((u.length:Nat):Int) by simp) v7),?_⟩)
   ((refine bB<|ae<|yD Z<|yD Z<|yD Z<|yD Z<|yD Z<|cn<|aq Z<|aq Z<|aq Z<|aq Z<|aq Z<|aq Z ?_;refine aq Z<|aq Z<|aq Z<|aq Z<|aq Z<|aq Z<|aq Z<|aq Z<|aq Z<|dW Z Z<|dW Z Z<|fo Z<|bp<|aj ?_;refine aM<|yq Z<|bg zI ?_);refine sI ?_)
   (refine yk<|yP Z<|yT<|ai ?_;refine⟨2,_,aW.refl _ _,?_⟩)
   exact⟨by omega,by omega,⟨rfl,rfl,rfl,rfl,rfl,cd (show max (db (p::r)) t1.y1=max (db (p::r)) (db (q::u)) by rw[Gd]),Z,Z,Z,Y⟩,⟨Z,Y⟩⟩
  simp at g2
 have e:i=2:=by omega
 subst e
 have DU:=Reg.H_ ka kb hn
 have DV:=Reg.Ia ka kb hn
 have e2:cv a b=dH cR (nF a b - nE a b).toNat a b (nE a b) (nF a b) []:=by rw[cv,gK,if_neg hn]
 rw[e2]
 obtain⟨lo,u6⟩:∃lo,lo=nE a b:=⟨_,rfl⟩
 obtain⟨e,CE⟩:∃e,e=nF a b:=⟨_,rfl⟩
 rw[<-u6] at DU
 rw[<-CE] at DV
 rw[<-u6,<-CE]
 have hR:∃R,R=dH cR (e - lo).toNat a b lo e []:=⟨_,rfl⟩
 obtain⟨R,hR⟩:=hR
 rw[<-hR]
 refine bT<|aY<|aY<|bU<|aj<|au<|aZ ?_
 refine aI (fun x:Nat×List ax×List ax×Int×List ax=>(e - x.2.2.2.1).toNat<=x.1/\dH cR x.1 x.2.1 x.2.2.1 x.2.2.2.1 e x.2.2.2.2=R/\hZ x.2.1/\hZ x.2.2.1/\hZ x.2.2.2.2/\(∀t∈x.2.2.2.2,t.y1<=x.2.2.2.1)/\cQ 2000000 x.2.1/\cQ 2000000 x.2.2.1/\cQ 2000000 x.2.2.2.2/\-2000000<=x.2.2.2.1)
  (fun x=>[(0,.p (aG x.2.1)),(1,.p (aG x.2.2.1)),(2,.p (pj 66)),(7,.ow 7),(8,.p (i64 x.2.2.2.1)),(9,.p (i64 e))]) (fun x=>[(7,.row 145 (x.2.2.2.2.map hb))]) (fun x=>x.1) ((e - lo).toNat,a,b,lo,[]) _
  (aW.fa hC _ 7 145 _ (by decide) rfl rfl (by decide)) ⟨Nat.le_refl _,hR.symm,ha,hb',trivial,fun t ht=>(by cases ht),ka,kb,fun t ht=>(by cases ht),DU⟩ ⟨rfl,rfl,rfl,rfl,cd u6.symm,cd CE.symm,trivial⟩ ⟨Z,Y⟩ fun ⟨n,a',b',y,out⟩ hi t h=>?_
 obtain⟨i1,i2,i3,i4,i5,i6,i7,i8,i9,i10⟩:=hi
 simp only at i1 i2 i3 i4 i5 i6 i7 i8 i9 i10
 have Th:=Reg.cy i3 (by omega) i7
 have Ti:=Reg.cy i4 (by omega) i8
 have Tj:=Reg.cy i5 (by omega) i9
 have OJ:=Reg.jk i5 (by omega) i9
 (refine au<|yS<|yP Z<|yP Z<|yP Z<|yT<|az Z ?_;refine aa (fun g2=>?_) (fun g2=>?_) <;> try simp only[zB] at g2)
 ·obtain⟨m,rfl⟩:∃m,n=m+1:=⟨n - 1,by omega⟩
  obtain⟨nx,L,wo,hL,j1,j2,j3,j4,j5,j6,j7,j8,j9,OL,OM,ON,OO,OP⟩:=Reg.A7 g2 i3 i4 i5 i6 i7 i8 i9 i10 DV
  rw[dH,if_pos g2,<-wo,<-hL] at i2
  refine aJ<|aj<|aZ<|au<|aZ ?_
  refine nj (fun _:Unit=>True) (fun _=>[(0,.p (aG (aC y a'))),(1,.p (aG b')),(2,.p (pj 66)),(7,.ow 7),(8,.p (i64 y)),(9,.p (i64 e))]) (fun _=>[(7,.row 145 (out.map hb))]) (fun _ _ t h=>?_) ?_
  rotate_left
  ·refine aI (fun s:List ax=>aC y s=aC y a'/\(s.length:Int)<=4000000) (fun s=>[(0,.p (aG s)),(1,.p (aG b')),(2,.p (pj 66)),(7,.ow 7),(8,.p (i64 y)),(9,.p (i64 e))]) (fun _=>[(7,.row 145 (out.map hb))]) (fun s=>s.length) a' _ (aW.refl _ _) ⟨rfl,by omega⟩ ⟨Z,Z,Z,Z,Z,Z,Y⟩ ⟨Z,Y⟩ fun s hs t h=>?_
   obtain⟨s1,s2⟩:=hs
   rcases s with _ | ⟨c,s⟩
   ·(refine au<|yS<|yP Z<|yP Z<|yP Z<|yP Z<|y0 Z<|y0 Z<|y0 Z<|y0 Z<|y0 Z<|y0 Z<|yP Z<|yT ?_;refine az Z<|cM<|bT<|aY<|aY<|bU<|aj<|ai<|zX zi ?_)
    rw[<-s1]
    exact⟨(),trivial,⟨Z,Z,Z,Z,Z,Z,Y⟩,⟨Z,Y⟩⟩
   simp at s2
   (refine au<|yS<|yP Z<|yP Z<|yP Z<|yP Z<|yg Z ?_;refine aa (fun d1=>?_) (fun d1=>?_) <;> try simp only[zB] at d1)
   ·(refine bS<|bA Z Z<|aA zI<|yk<|y2 Z<|bA Z Z<|aK zI ?_;refine⟨(hb c),(idx (i:=0) rfl rfl),?_⟩)
    (refine yk<|y1 Z<|y1 Z<|y1 Z<|y1 Z<|yP Z<|yT<|az Z ?_;refine aa (fun d2=>?_) (fun d2=>?_) <;> try simp only[zB] at d2)
    ·(refine aJ<|aj<|aZ<|aM<|yP Z<|yq Z<|bg zI ?_;refine And.intro ⟨by simp,(by first | omega | (simp;done) | (simp;omega)),(by first | omega | (simp;done) | (simp;omega)),oO⟩ ?_)
     (refine yk<|yA Z<|cL<|bp<|aj<|ai ?_;refine⟨s,_,aW.refl _ _,?_⟩)
     rw[aC,if_pos d2] at s1
     exact⟨⟨s1,by omega⟩,by simp,⟨bO (hb c) _,Z,Z,Z,Z,Z,Y⟩,⟨Z,Y⟩⟩
    refine bT<|aY<|aY<|bU<|aj<|ai<|zX zi ?_
    rw[aC,if_neg d2] at s1
    rw[<-s1]
    exact⟨(),trivial,⟨Z,Z,Z,Z,Z,Z,Y⟩,⟨Z,Y⟩⟩
   simp at d1
  refine aj<|au<|aZ ?_
  refine nj (fun _:Unit=>True) (fun _=>[(0,.p (aG (aC y a'))),(1,.p (aG (aC y b'))),(2,.p (pj 66)),(7,.ow 7),(8,.p (i64 y)),(9,.p (i64 e))]) (fun _=>[(7,.row 145 (out.map hb))]) (fun _ _ t h=>?_) ?_
  rotate_left
  ·refine aI (fun s:List ax=>aC y s=aC y b'/\(s.length:Int)<=4000000) (fun s=>[(0,.p (aG (aC y a'))),(1,.p (aG s)),(2,.p (pj 66)),(7,.ow 7),(8,.p (i64 y)),(9,.p (i64 e))]) (fun _=>[(7,.row 145 (out.map hb))]) (fun s=>s.length) b' _ (aW.refl _ _) ⟨rfl,by omega⟩ ⟨Z,Z,Z,Z,Z,Z,Y⟩ ⟨Z,Y⟩ fun s hs t h=>?_
   obtain⟨s1,s2⟩:=hs
   rcases s with _ | ⟨c,s⟩
   ·(refine au<|yS<|yP Z<|yP Z<|yP Z<|yP Z<|y0 Z<|y0 Z<|y0 Z<|y0 Z<|y0 Z<|y0 Z<|yP Z<|yT ?_;refine az Z<|cM<|bT<|aY<|aY<|bU<|aj<|ai<|zX zi ?_)
    rw[<-s1]
    exact⟨(),trivial,⟨Z,Z,Z,Z,Z,Z,Y⟩,⟨Z,Y⟩⟩
   simp at s2
   (refine au<|yS<|yP Z<|yP Z<|yP Z<|yP Z<|yg Z ?_;refine aa (fun d1=>?_) (fun d1=>?_) <;> try simp only[zB] at d1)
   ·(refine bS<|bA Z Z<|aA zI<|yk<|y2 Z<|bA Z Z<|aK zI ?_;refine⟨(hb c),(idx (i:=0) rfl rfl),?_⟩)
    (refine yk<|y1 Z<|y1 Z<|y1 Z<|y1 Z<|yP Z<|yT<|az Z ?_;refine aa (fun d2=>?_) (fun d2=>?_) <;> try simp only[zB] at d2)
    ·(refine aJ<|aj<|aZ<|aM<|yP Z<|yq Z<|bg zI ?_;refine And.intro ⟨by simp,(by first | omega | (simp;done) | (simp;omega)),(by first | omega | (simp;done) | (simp;omega)),oO⟩ ?_)
     (refine yk<|yA Z<|cL<|bp<|aj<|ai ?_;refine⟨s,_,aW.refl _ _,?_⟩)
     rw[aC,if_pos d2] at s1
     exact⟨⟨s1,by omega⟩,by simp,⟨rfl,bO (hb c) _,Z,Z,Z,Z,Y⟩,⟨Z,Y⟩⟩
    refine bT<|aY<|aY<|bU<|aj<|ai<|zX zi ?_
    rw[aC,if_neg d2] at s1
    rw[<-s1]
    exact⟨(),trivial,⟨Z,Z,Z,Z,Z,Z,Y⟩,⟨Z,Y⟩⟩
   simp at d1
  have q1:=Reg.gO OM (by omega) OO
  have q2:=Reg.gO ON (by omega) OP
  have q3:=Reg.eY (eo (aC y a') y e).1
  have q4:=Reg.eY (eo (aC y b') y e).1
  have hp:aD C 82 [.row 145 (out.map hb),.pv (.ag [i64 y,i64 (min (eo (aC y a') y e).2 (eo (aC y b') y e).2),ints (dV cR (bK (eo (aC y a') y e).1) (bK (eo (aC y b') y e).1))])] (.own 145 ((du out ⟨y,nx,pairUp L⟩).map hb)) [.gone]:=by
   rw[<-wo,<-hL,show [i64 y,i64 nx,ints L]=hb ⟨y,nx,pairUp L⟩ by rw[hb,jK,j3]]
   exact mK out ⟨y,nx,pairUp L⟩ j1 (by omega) (fun t ht=>by have:=OJ t ht;omega)
  (refine aj<|yS<|yP Z<|yP Z<|yP Z<|yn Z<|aK zI ?_;refine⟨_,_,(lX (aC y a') y e),?_⟩)
  ((refine b9 Z Z<|bq<|yq Z<|aA zI<|bd<|bq<|yP Z<|yP Z<|yA Z<|yA Z<|yU<|yP Z<|yP Z<|yP Z ?_;refine yn Z<|aK zI ?_);refine⟨_,_,(lX (aC y b') y e),?_⟩)
  ((refine b9 Z Z<|bq<|yq Z<|aA zI<|bd<|bq<|yP Z<|yP Z<|yA Z<|yA Z<|yU<|yP Z<|yP Z<|yP Z ?_;refine yA Z<|yU<|yq Z<|aA zI<|bd<|af<|yP Z<|yP Z<|yP Z<|yP Z<|yP Z<|yn Z<|aK zI ?_);refine⟨_,_,(C8 (bK (eo (aC y a') y e).1) (bK (eo (aC y b') y e).1) (by omega)),?_⟩)
  (refine b9 Z Z<|ae<|yP Z<|yn Z<|aK zI ?_;refine⟨_,_,hp,?_⟩)
  (refine aS<|aF<|af<|cD Z<|cr Z Z Z Z Z<|yT<|aM<|yP Z<|yA Z<|cL<|bp<|aj<|ai ?_;refine⟨(m,aC y a',aC y b',nx,du out ⟨y,nx,pairUp L⟩),_,aW.refl _ _,?_⟩)
  exact⟨⟨by simp only;omega,i2,j4,j5,j8,j9,j6,j7,OL,by simp only;omega⟩,by simp only;omega,⟨rfl,rfl,rfl,rfl,cd wo.symm,Z,Y⟩,⟨Z,Y⟩⟩
 have e3:dH cR n a' b' y e out=out:=by
  cases n with
  | zero=>rfl
  | succ n=>rw[dH,if_neg g2]
 rw[e3] at i2
 (refine bT<|aY<|aY<|bU<|aj<|yS<|yq Z<|aA zI<|bd<|af<|cD Z<|cr Z Z Z Z Z<|yR zi ?_;refine And.intro ?_ trivial)
 rw[<-i2]
 rfl
open Reg (A5 bL fC ey fX told dz bX coreS zk Full RK)
theorem fQ (a b:List ax) (ha:hZ a) (hb':hZ b) (ka:cQ 2000000 a) (kb:cQ 2000000 b):aD C 24 [.pv (aG a),.pv (aG b)] (.p (aG (cv a b))) []:=by
 refine aT hC Tryz.func24 rfl rfl 8 rfl (by decide) (by kernel_rfl) fun _ _ _ _ _=>?_
 (refine yS<|yB Z<|yU<|yP Z<|yP Z<|yn Z<|aK zI ?_;refine⟨_,_,(A8 a b ha hb' ka kb),?_⟩)
 (refine b9 Z Z<|ae<|yA Z<|yR zi ?_;refine And.intro ?_ trivial)
 rfl
theorem Em {b:ax} (h:A5 b):∃u,flat b.xs=ey b::(bK b.xs).getD 1 0::u/\(flat b.xs)[(flat b.xs).length - 1]?=some (fX b):=by
 have b8:=h.ne
 unfold ey fX
 rw[jK]
 cases hx:b.xs with
 | nil=>exact absurd hx b8
 | cons p u=>
  refine⟨bK u,rfl,?_⟩
  rw[<-List.getLast?_eq_getElem?]
  cases hl:(bK (p::u)).getLast? with
  | none=>rw[List.getLast?_eq_none_iff] at hl;cases hl
  | some c=>rfl
theorem qM (s:List ax) (hs:hZ s) (ks:cQ 2000000 s) (hn:s≠[]):aD C 85 [.pv (aG s)] (.p (.ag (rc (bL s)))) []:=by
 refine aT hC Tryz.func85 rfl rfl 58 rfl (by decide) (by kernel_rfl) fun _ _ _ _ _=>?_
 have ls:=Reg.cy hs (by omega) ks
 have ms:=aN s hb
 rcases s with _ | ⟨b,s⟩
 ·exact absurd rfl hn
 obtain⟨u,hu,hl⟩:=Em hs.head
 obtain⟨t1,v7,Gd⟩:=Reg.kO b s
 obtain⟨r0,Ni⟩:∃r0:aB,r0=⟨ey b,b.y0,(bK b.xs).getD 1 0,t1.y1⟩:=⟨_,rfl⟩
 have hA:bL (b::s)=(b::s).foldl fC r0:=by rw[Ni,Gd];rfl
 simp at ls
 have PR:(b::s).length<=4000000:=by simp;omega
 have g0:(flat b.xs)[0]?=some (ey b):=by rw[hu];rfl
 have g1:(flat b.xs)[1]?=some ((bK b.xs).getD 1 0):=by rw[hu];rfl
 ((refine yS<|yn Z<|aA zI<|aS<|ak<|yT<|au<|cH [] false RJ rfl (by kernel_rfl)<|ay Z<|ay Z<|ay Z<|ay Z<|ay Z<|ay Z ?_;refine ay Z<|ay Z<|ay Z<|ay Z<|ay Z<|ay Z<|ay Z<|ay Z<|ay Z<|ay Z<|ay Z<|ay Z<|ay Z<|ay Z ?_;refine ay Z<|ay Z<|ay Z<|ay Z<|cA Z Z<|cG Z<|yD Z<|dq Z<|aK zI ?_);refine⟨(hb b),(idx (i:=0) rfl rfl),?_⟩)
 (refine bB<|ae<|yD Z<|yD Z<|dq Z<|aK zI ?_;refine⟨[i64 (ey b)],(idx (i:=0) rfl g0),?_⟩)
 (refine bB<|ae<|yD Z<|yD Z<|dq Z<|aK zI ?_;refine⟨(hb b),(idx (i:=0) rfl rfl),?_⟩)
 (refine bB<|ae<|yD Z<|yD Z<|yD Z<|dq Z<|aK zI ?_;refine⟨(hb b),(idx (i:=0) rfl rfl),?_⟩)
 (refine bB<|ae<|yD Z<|yD Z<|dq Z<|aK zI ?_;refine⟨[i64 ((bK b.xs).getD 1 0)],(idx (i:=1) rfl g1),?_⟩)
 (refine bB<|ae<|yD Z<|yD Z<|yD Z<|yD Z<|dq Z<|bg zI ?_;refine And.intro ⟨by simp,by simp;omega⟩ ?_)
 (refine bB<|ae<|dq Z<|aK zI ?_;refine⟨(hb t1),(idx (show (((b::s).map hb).length:Int) - 1=((s.length:Nat):Int) by simp) v7),?_⟩)
 (refine bB<|ae<|yD Z<|yD Z<|yD Z<|dq Z<|aA zI<|jA Z Z<|ak<|dq Z<|aA zI<|iG Z<|aF<|an ?_;refine cn<|fo Z<|aj<|au<|yS<|yP Z<|yP Z<|yP Z<|yT<|aZ ?_)
 refine aI (fun i:Nat=>i<=(b::s).length) (fun i=>[(2,.bx 2 0),(3,.bx 3 0),(30,.p (aG (b::s))),(31,.p (i64 ((b::s).map hb).length)),(32,.p (i64 i))]) (fun i=>[(2,.box [.p (i64 0),.p (i64 0),.p (i64 0),.p (i64 0)]),(3,.box [.p (i64 (((b::s).take i).foldl fC r0).x0),.p (i64 (((b::s).take i).foldl fC r0).y0),.p (i64 (((b::s).take i).foldl fC r0).x1),.p (i64 (((b::s).take i).foldl fC r0).y1)])]) (fun i=>(b::s).length - i) 0 _ (aW.refl _ _) (Nat.zero_le _) ⟨Z,Z,Z,Z,Z,Y⟩ ⟨rfl,by rw[Ni];rfl,trivial⟩ fun i hi t h=>?_
 (refine yS<|yP Z<|yT<|au<|az Z ?_;refine aa (fun g2=>?_) (fun g2=>?_) <;> try simp only[zB] at g2)
 ·rw[ms] at g2
  obtain⟨c,hc⟩:=bh (l:=b::s) (i:=i) (by omega)
  have cb:=hs.mem c (List.mem_of_getElem? hc)
  obtain⟨u',oC,E_⟩:=Em cb
  have lx:=Reg.jk hs (by omega) ks c (List.mem_of_getElem? hc)
  have fl:=eG c.xs
  have fm:=aN (flat c.xs) fun n=>[i64 n]
  have VZ:1<=(flat c.xs).length:=by rw[oC];simp
  have g3:(flat c.xs)[0]?=some (ey c):=by rw[oC];rfl
  have e1:((b::s).take (i+1)).foldl fC r0=fC (((b::s).take i).foldl fC r0) c:=by rw[cw hc,List.foldl_append];rfl
  generalize ((b::s).take i).foldl fC r0=acc at *
  refine aJ ?_
  refine aj ?_
  refine au ?_
  refine aZ ?_
  refine fB ?_
  (refine aM<|yq Z<|aK zI ?_;refine⟨(hb c),(idx rfl hc),?_⟩)
  refine yk<|yP Z<|yn Z<|aA zI<|aS<|ak<|yq Z<|aA zI<|bd<|aF<|an<|yT<|ai ?_
  refine I2 5 (y:=.ip (hb c)) (fz:=[(5,.iP (hb c))]) (by exact hC) (by exact⟨rfl,rfl⟩) ?_
  (refine cH [] false [true,true,true,true,true,true,true,true,true,true,false,true,false,false,true,false,false,true,true,false,true,true] rfl (by kernel_rfl) (cG Z (yW Z (yD Z (yD Z (yD Z (dq Z (aK zI ?_)))))));refine⟨[i64 (ey c)],(idx (i:=0) rfl g3),?_⟩)
  (refine bB<|ae<|yD Z<|yD Z<|yW Z<|yD Z<|yD Z<|yD Z<|yD Z<|yD Z<|yD Z<|dq Z<|bg zI ?_;refine And.intro ⟨by rw[fm];omega,by rw[fm];omega⟩ ?_)
  (refine bB<|ae<|dq Z<|aK zI ?_;refine⟨[i64 (fX c)],(idx (show (((flat c.xs).map fun n=>[i64 n]).length:Int) - 1=(((flat c.xs).length - 1:Nat):Int) by rw[fm];omega) E_),?_⟩)
  ((refine bB<|ae<|yD Z<|yD Z<|yW Z<|dq Z<|aA zI<|iG Z<|aF<|an<|yW Z<|dq Z<|aA zI<|iG Z ?_;refine aF<|an<|cn<|fo Z<|bp<|aj<|aM<|yq Z<|bg zI ?_);refine sI ?_)
  (refine yk<|yP Z<|yT<|ai ?_;refine⟨(i+1),_,aW.refl _ _,?_⟩)
  rw[e1]
  exact⟨by omega,by omega,⟨Z,Z,Z,Z,Z,Y⟩,⟨Z,Z,Y⟩⟩
 rw[ms] at g2
 (refine bT<|aY<|aY<|bU<|aj<|yS<|yP Z<|yq Z<|aA zI<|bd<|aF<|an<|yR zi ?_;refine And.intro ?_ trivial)
 rw[List.take_of_length_le (by omega),<-hA]
 rfl
theorem FE {s:List ax} {i:Nat} {b:ax} (h:s[i]?=some b):(told (s.take (i+1))).length=(told (s.take i)).length+b.xs.length:=by
 rw[lN h,List.length_append,List.length_map]
theorem u7 (s:List ax) (hN:s.length<=1000000000000) (hX:∀t∈s,t.xs.length<=1000000000000) (hT:(told s).length<=4398046511104):aD C 57 [.pv (aG s)] (.p (i64 (told s).length)) []:=by
 refine aT hC Tryz.func57 rfl rfl 20 rfl (by decide) (by kernel_rfl) fun _ _ _ _ _=>?_
 have ms:=aN s hb
 have tl:∀i,(told (s.take i)).length<=(told s).length:=fun i=>by
  have e:told s=told (s.take i)++told (s.drop i):=by
   unfold told
   rw[<-List.flatMap_append,List.take_append_drop]
  rw[e,List.length_append]
  omega
 refine yS<|yA Z<|yU<|yA Z<|yT<|au<|yS<|yP Z<|yP Z<|yP Z<|yT<|aZ ?_
 refine aI (fun i:Nat=>i<=s.length) (fun i=>[(3,.p (i64 (told (s.take i)).length)),(6,.p (aG s)),(7,.p (i64 (s.map hb).length)),(8,.p (i64 i))]) (fun i=>[]) (fun i=>s.length - i) 0 _ (aW.refl _ _) (Nat.zero_le _) ⟨Z,Z,Z,Z,Y⟩ trivial fun i hi t h=>?_
 (refine yS<|yP Z<|yT<|au<|az Z ?_;refine aa (fun g2=>?_) (fun g2=>?_) <;> try simp only[zB] at g2)
 ·rw[ms] at g2
  obtain⟨c,hc⟩:=bh (l:=s) (i:=i) (by omega)
  have fl:=eG c.xs
  have fm:=aN (flat c.xs) fun n=>[i64 n]
  have e1:=FE hc
  have t1:=tl (i+1)
  have q:((((flat c.xs).map fun n=>[i64 n]).length:Nat):Int).tdiv 2=(c.xs.length:Int):=by
   rw[fm,fl,Int.tdiv_eq_ediv_of_nonneg (by omega)]
   omega
  (refine aJ<|aj<|au<|aZ<|yS<|yq Z<|aK zI ?_;refine⟨(hb c),(idx rfl hc),?_⟩)
  ((refine yk<|yP Z<|yn Z<|aA zI<|aS<|ak<|yq Z<|aA zI<|bd<|aF<|an<|yT<|aM<|yP Z ?_;refine yV Z<|yP Z<|yP Z<|yq Z<|bg zI ?_);refine And.intro (by decide) ?_)
  (refine zA zi ?_;refine And.intro ⟨by rw[q];omega,by rw[q];omega⟩ ?_)
  (refine yk<|yq Z<|bg zI ?_;refine And.intro ⟨by rw[q];omega,by rw[q];omega⟩ ?_)
  (refine yk<|yA Z<|cL<|bp<|aj<|aM<|yq Z<|bg zI ?_;refine sI ?_)
  (refine yk<|yP Z<|yT<|ai ?_;refine⟨(i+1),_,aW.refl _ _,?_⟩)
  exact⟨by omega,by omega,⟨cd (by rw[q,e1];omega),Z,Z,Z,Y⟩,trivial⟩
 rw[ms] at g2
 (refine bT<|aY<|aY<|bU<|aj<|yS<|yP Z<|yA Z<|yR zi ?_;refine And.intro ?_ trivial)
 rw[List.take_of_length_le (by omega)]
theorem u9:∀{l:List Int} {c hi:Int},Reg.cT (c::l)->(∀x∈c::l,x<=hi)->(l.length:Int)<=hi - c
 | [],c,hi,_,h=>by have:=h c (by simp);simp only[List.length_nil];omega
 | d::l,c,hi,hr,h=>by
  have ih:=u9 (l:=l) (c:=d) (hi:=hi) hr.tail (fun x hx=>h x (by simp at hx ⊢;exact .inr hx))
  have h1:=hr.behind d (by simp)
  simp only[List.length_cons]
  omega
theorem jb (l:List aB) (K:Int) (h0:0<=K) (h1:K<=2000000) (hf:∀r∈l,Full r) (hk:∀r∈l,RK K r) (hN:l.length<=4398046511104):aD C 32 [.pv (aV l)] (.own 145 ((Reg.a_ l).map hb)) []:=by
 refine qG l (fun r hr=>?_) hN ?_ (fun y=>?_)
 ·have a:=hk r hr
  have b:=hf r hr
  unfold RK at a
  unfold Full at b
  exact⟨⟨by omega,by omega,by omega,by omega⟩,b.1,b.2⟩
 ·obtain⟨r1,r2⟩:=Reg.fv l
  cases hh:Reg.b_ l with
  | nil=>simp
  | cons c u=>
   rw[hh] at r1
   have all:∀x∈c::u,-K<=x/\x<=K:=fun x hx=>by
    rw[<-hh] at hx
    obtain⟨r,hr,e⟩:=(r2 x).1 hx
    have a:=hk r hr
    have b:=hf r hr
    unfold RK at a
    unfold Full at b
    omega
   have:=u9 r1 (hi:=K) (fun x hx=>(all x hx).2)
   have:=(all c (by simp)).1
   simp only[List.length_cons]
   omega
 have c1:=(Reg.lJ l y (fun r hr=>(hf r hr).1)).1
 have:=Reg.gO c1 h0 (Reg.H9 hf y hk)
 omega
def jE (l r d u:Int) (L:List aB) (i:Nat):List aB:=(L.take i).map (dz l r d u)++L.drop i
theorem En {l r d u:Int} {L:List aB} {i:Nat} {q:aB} (h:L[i]?=some q):(jE l r d u L i)[i]?=some q:=by
 have hi:=(List.getElem?_eq_some_iff.1 h).1
 have e:((L.take i).map (dz l r d u)).length=i:=by rw[List.length_map,List.length_take];omega
 rw[jE,List.getElem?_append_right (by omega),e,Nat.sub_self,List.getElem?_drop,Nat.add_zero,h]
theorem Eo (l r d u:Int) (L:List aB) (i:Nat):(jE l r d u L i).length=L.length:=by
 rw[jE,List.length_append,List.length_map,List.length_take,List.length_drop]
 omega
theorem Ep {l r d u:Int} {L:List aB} {i:Nat} {q:aB} (h:L[i]?=some q):(jE l r d u L i).set i (dz l r d u q)=jE l r d u L (i+1):=by
 have hi:=(List.getElem?_eq_some_iff.1 h).1
 have e:((L.take i).map (dz l r d u)).length=i:=by rw[List.length_map,List.length_take];omega
 have hd:L.drop i=q::L.drop (i+1):=by
  rw[List.drop_eq_getElem_cons hi,(List.getElem?_eq_some_iff.1 h).2]
 rw[jE,List.set_append_right _ _ (by omega),e,Nat.sub_self,hd,jE,cw h,List.map_append]
 simp
theorem zj (s:List ax) (hs:hZ s) (ks:cQ 1400000 s) (l r d u:Int) (hl:0<=l/\l<=100000) (hr:0<=r/\r<=100000) (hd:0<=d/\d<=100000) (hu:0<=u/\u<=100000):aD C 90 [.pv (aG s),.pv (i64 l),.pv (i64 r),.pv (i64 d),.pv (i64 u)] (.p (aG (bX s l r d u))) []:=by
 refine aT hC Tryz.func90 rfl rfl 46 rfl (by decide) (by kernel_rfl) fun _ _ _ _ _=>?_
 have ls:=Reg.cy hs (by omega) ks
 have lx:=Reg.jk hs (by omega) ks
 have lt:=Reg.kj hs ks
 have tf:=Reg.dK hs
 have ti:=Reg.kN hs ks
 (refine yS<|yB Z<|yU<|yP Z<|yn Z<|aK zI ?_;refine⟨_,_,(h_ s (by omega) (fun t ht=>by have:=lx t ht;omega) lt),?_⟩)
 have so:=jb ((told s).map (dz l r d u)) 1500000 (by omega) (by omega) (fun q hq=>by
  obtain⟨p,hp,rfl⟩:=List.mem_map.1 hq
  have:=tf p hp
  unfold Full at this
  exact⟨by show p.x0 - l < p.x1+r;omega,by show p.y0 - d < p.y1+u;omega⟩) (fun q hq=>by
  obtain⟨p,hp,rfl⟩:=List.mem_map.1 hq
  have:=ti p hp
  unfold RK at this
  exact⟨by show -1500000<=p.x0 - l;omega,by show -1500000<=p.y0 - d;omega,by show p.x1+r<=1500000;omega,by show p.y1+u<=1500000;omega⟩) (by rw[List.length_map];exact lt)
 rw[show bX s l r d u=Reg.a_ ((told s).map (dz l r d u)) from rfl]
 generalize told s=L at *
 have lm:=fun i=>aN (jE l r d u L i) rc
 have ml:=Eo l r d u L
 have m0:jE l r d u L 0=L:=by simp[jE]
 (refine aS<|af<|cD Z<|cr Z Z Z Z Z<|yT<|au<|yS<|yq Z<|aA zI<|bd<|af<|yP Z<|yP Z<|yT ?_;refine aZ ?_)
 refine aI (fun i:Nat=>i<=L.length) (fun i=>[(1,.p (i64 l)),(2,.p (i64 r)),(3,.p (i64 d)),(4,.p (i64 u)),(11,.ow 11),(16,.ow 11),(17,.p (i64 (L.map rc).length)),(18,.p (i64 i))]) (fun i=>[(11,.row 56 ((jE l r d u L i).map rc))]) (fun i=>L.length - i) 0 _ (aW.refl _ _) (Nat.zero_le _) ⟨Z,Z,Z,Z,Z,Z,Z,Z,Y⟩ ⟨by rw[m0];rfl,trivial⟩ fun i hi t h=>?_
 have UR:=lm i
 have US:=ml i
 have UT:=aN L rc
 (refine yS<|yP Z<|yT<|au<|az Z ?_;refine aa (fun g1=>?_) (fun g1=>?_) <;> try simp only[zB] at g1)
 ·obtain⟨q,hq⟩:=bh (l:=L) (i:=i) (by omega)
  have a:=ti q (List.mem_of_getElem? hq)
  have b:=tf q (List.mem_of_getElem? hq)
  unfold RK at a
  unfold Full at b
  have hm:=En (l:=l) (r:=r) (d:=d) (u:=u) hq
  have lH:=Ep (l:=l) (r:=r) (d:=d) (u:=u) hq
  (refine aJ<|aj<|au<|aZ<|yS<|yP Z<|yq Z<|bg zI ?_;refine sI ?_)
  (refine bd<|bJ<|yq Z<|aK zI ?_;refine⟨(rc q),(idx rfl hm).2,?_⟩)
  ((refine yk<|yn Z<|aA zI<|aS<|ak<|yA Z<|yq Z<|aA zI<|bd<|aF<|an<|yT<|aM<|yq Z ?_;refine aA zI<|bd<|af<|yP Z<|yV Z<|yP Z<|yP Z<|yq Z<|bg zI ?_);refine sI ?_)
  (refine yk<|yV Z<|yP Z<|yP Z<|yq Z<|bg zI ?_;refine sI ?_)
  (refine yk<|yV Z<|yP Z<|yP Z<|yq Z<|bg zI ?_;refine sI ?_)
  (refine yk<|yV Z<|yP Z<|yP Z<|yq Z<|bg zI ?_;refine sI ?_)
  (refine yk<|yP Z<|yq Z<|bg zI ?_;refine sI ?_)
  (refine bd<|bJ<|yq Z<|aK zI ?_;refine⟨(rc q),(idx rfl hm).2,?_⟩)
  (refine bd<|aF<|an<|cL<|bp<|aj<|aM<|yq Z<|bg zI ?_;refine sI ?_)
  have e5:∀k:Nat,k=i->AB.row 56 (((jE l r d u L i).map rc).set k (rc (dz l r d u q)))=AB.row 56 ((jE l r d u L (i+1)).map rc):=by
   intro k e
   subst e
   rw[<-List.map_set,lH]
  (refine yk<|yP Z<|yT<|ai ?_;refine⟨(i+1),_,aW.refl _ _,?_⟩)
  exact⟨by omega,by omega,⟨Z,Z,Z,Z,Z,Z,Z,Z,Y⟩,⟨e5 _ rfl,trivial⟩⟩
 have e:jE l r d u L i=L.map (dz l r d u):=by
  rw[jE,List.take_of_length_le (by omega),List.drop_of_length_le (by omega),List.append_nil]
 rw[e]
 (refine bT<|aY<|aY<|bU<|aj<|yS<|yq Z<|aA zI<|bd<|af<|yn Z<|aK zI ?_;refine⟨_,_,so,?_⟩)
 (refine aS<|aF<|af<|cD Z<|cr Z Z Z Z Z<|yR zi ?_;refine And.intro ?_ trivial)
 rfl
open Reg (at')
theorem Yq (s:List ax) (hs:hZ s) (ks:cQ 1000000 s) (l r d u:Int) (hl:0<=l/\l<=100000) (hr:0<=r/\r<=100000) (hd:0<=d/\d<=100000) (hu:0<=u/\u<=100000) (hn:l+r+d+u<=199999):aD C 98 [.pv (aG s),.pv (i64 l),.pv (i64 r),.pv (i64 d),.pv (i64 u)] (.p (aG (coreS s l r d u))) []:=by
 refine aT hC Tryz.func98 rfl rfl 56 rfl (by decide) (by kernel_rfl) fun _ _ _ _ _=>?_
 have ms:=aN s hb
 (refine yS<|yB Z<|yT<|au<|yS<|yP Z<|yP Z<|yP Z<|yT<|az Z ?_;refine aa (fun g0=>?_) (fun g0=>?_) <;> try simp only[zB] at g0)
 ·rw[ms] at g0
  have e:s=[]:=List.eq_nil_of_length_eq_zero (by omega)
  (refine yS<|yB Z<|yT<|bP<|aX<|bQ zi ?_;refine And.intro ?_ trivial)
  rw[coreS,if_pos e]
  rfl
 rw[ms] at g0
 have b8:s≠[]:=fun e=>g0 (by rw[e];rfl)
 rw[coreS,if_neg b8]
 obtain⟨a1,a2,a3⟩:=Reg.qL hs b8
 have a4:=a3 _ ks
 have bb:∀q∈[dz (l+r+d+u+1) (l+r+d+u+1) (l+r+d+u+1) (l+r+d+u+1) (bL s)],Full q:=fun q hq=>by
  rw[List.mem_singleton] at hq
  subst hq
  unfold Full at a1
  exact⟨by show (bL s).x0 - (l+r+d+u+1) < (bL s).x1+(l+r+d+u+1);omega,by show (bL s).y0 - (l+r+d+u+1) < (bL s).y1+(l+r+d+u+1);omega⟩
 have Nl:∀q∈[dz (l+r+d+u+1) (l+r+d+u+1) (l+r+d+u+1) (l+r+d+u+1) (bL s)],RK 1200000 q:=fun q hq=>by
  rw[List.mem_singleton] at hq
  subst hq
  unfold RK at a4
  exact⟨by show -1200000<=(bL s).x0 - (l+r+d+u+1);omega,by show -1200000<=(bL s).y0 - (l+r+d+u+1);omega,by show (bL s).x1+(l+r+d+u+1)<=1200000;omega,by show (bL s).y1+(l+r+d+u+1)<=1200000;omega⟩
 obtain⟨b1,b2,b3⟩:=Reg.gf bb
 have b4:=b3 _ Nl
 obtain⟨c1,c2,c3⟩:=Reg.dZ b1 hs
 have c4:=c3 1200000 b4 (ks.up (by omega))
 obtain⟨d1,d2,d3⟩:=Reg.ff c1 hr.1 hl.1 hu.1 hd.1
 have d4:=(d3 1200000 100000 c4 hr.2 hl.2 hu.2 hd.2).up (B:=2000000) (by omega)
 have so:=jb _ 1200000 (by omega) (by omega) bb Nl (by simp)
 have q1:=fQ _ s b1 hs (b4.up (by omega)) (ks.up (by omega))
 have q2:=zj _ c1 (c4.up (by omega)) r l u d hr hl hu hd
 have q3:=fQ s _ hs d1 (ks.up (by omega)) d4
 unfold RK at a4
 unfold Full at a1
 (refine aJ<|aj<|yS<|yP Z<|yn Z<|aK zI ?_;refine⟨_,_,(qM s hs (ks.up (by omega)) b8),?_⟩)
 ((refine b9 Z Z<|ae<|yn Z<|aA zI<|aS<|ak<|yq Z<|aA zI<|bd<|aF<|an<|yU<|yP Z<|yP Z ?_;refine yq Z<|bg zI ?_);refine sI ?_)
 (refine yk<|yP Z<|yq Z<|bg zI ?_;refine sI ?_)
 (refine yk<|yP Z<|yq Z<|bg zI ?_;refine sI ?_)
 (refine yk<|yq Z<|bg zI ?_;refine sI ?_)
 (refine yk<|yA Z<|yU<|yV Z<|yP Z<|yP Z<|yq Z<|bg zI ?_;refine sI ?_)
 (refine yk<|yV Z<|yP Z<|yP Z<|yq Z<|bg zI ?_;refine sI ?_)
 (refine yk<|yV Z<|yP Z<|yP Z<|yq Z<|bg zI ?_;refine sI ?_)
 (refine yk<|yV Z<|yP Z<|yP Z<|yq Z<|bg zI ?_;refine sI ?_)
 (refine yk<|yP Z<|yn Z<|aA zI<|aS<|af<|yn Z<|aK zI ?_;refine⟨_,_,so,?_⟩)
 (refine aS<|aF<|af<|cD Z<|cr Z Z Z Z Z<|yU<|yP Z<|yq Z<|aA zI<|bd<|af<|yP Z<|yn Z<|aK zI ?_;refine⟨_,_,q1,?_⟩)
 (refine b9 Z Z<|aF<|ae<|yP Z<|yP Z<|yP Z<|yP Z<|yn Z<|aK zI ?_;refine⟨_,_,q2,?_⟩)
 (refine b9 Z Z<|ae<|yn Z<|aK zI ?_;refine⟨_,_,q3,?_⟩)
 (refine b9 Z Z<|ae<|yA Z<|yR zi ?_;refine And.intro ?_ trivial)
 rfl
theorem zl {a b:List ax} (ha:hZ a) (hb':hZ b) {K:Int} (kb:cQ K b) (h:∀x y,at' a x y=true->at' b x y=true):cQ K a:=fun t ht=>by
 have bt:=ha.mem t ht
 have lt:=bt.lt
 have pin:∀x y,at' b x y=true->-K<=x/\x < K/\-K<=y/\y < K:=fun x y I5=>by
  rw[<-Reg.lV hb',List.any_eq_true] at I5
  obtain⟨q,hq,hh⟩:=I5
  obtain⟨h1,h2,h3,h4⟩:=Reg.cz.1 hh
  obtain⟨g1,g2,g3,g4⟩:=Reg.kN hb' kb q hq
  exact⟨by omega,by omega,by omega,by omega⟩
 have pt:∀p∈t.xs,∀x y,p.1<=x->x < p.2->t.y0<=y->y < t.y1->at' b x y=true:=fun p hp x y h1 h2 h3 h4=>h x y (Reg.sd.2 ⟨t,ht,h3,h4,(Reg.dn bt.can x).2 ⟨p,hp,h1,h2⟩⟩)
 obtain⟨p,u,e⟩:∃p u,t.xs=p::u:=by
  cases hx:t.xs with
  | nil=>exact absurd hx bt.ne
  | cons p u=>exact⟨p,u,rfl⟩
 have pm:p∈t.xs:=by rw[e];simp
 have pl:=Reg.fP bt.can p pm
 have c1:=pin p.1 t.y0 (pt p pm _ _ (by omega) (by omega) (by omega) (by omega))
 have c2:=pin p.1 (t.y1 - 1) (pt p pm _ _ (by omega) (by omega) (by omega) (by omega))
 refine⟨c1.2.2.1,by omega,fun q hq=>?_⟩
 have ql:=Reg.fP bt.can q hq
 have d1:=pin q.1 t.y0 (pt q hq _ _ (by omega) (by omega) (by omega) (by omega))
 have d2:=pin (q.2 - 1) t.y0 (pt q hq _ _ (by omega) (by omega) (by omega) (by omega))
 omega
theorem qN {a b:List ax} (ha:hZ a) (hb':hZ b) {K:Int} (ka:cQ K a):cQ K (cv a b):=by
 obtain⟨h1,h2,_⟩:=Reg.dZ ha hb'
 refine zl h1 ha ka fun x y h=>?_
 rw[h2,Bool.and_eq_true] at h
 exact h.1
theorem XL (s:List ax) (hs:hZ s) (ks:cQ 1000000 s) (w:Int) (h0:0<=w) (hw:w<=100000):aD C 45 [.pv (aG s),.pv (i64 w)] (.p (aG (zk s w))) []:=by
 refine aT hC Tryz.func45 rfl rfl 20 rfl (by decide) (by kernel_rfl) fun _ _ _ _ _=>?_
 (refine yS<|yB Z<|yT<|au<|yS<|yP Z<|yP Z<|yT<|az Z ?_;refine aa (fun g0=>?_) (fun g0=>?_) <;> try simp only[zB] at g0)
 ·(refine yS<|yB Z<|yT<|bP<|aX<|bQ zi ?_;refine And.intro ?_ trivial)
  rw[zk,if_pos g0]
  rfl
 rw[zk,if_neg g0]
 obtain⟨c1,c2,c3⟩:=Reg.u4 hs (l:=0) (r:=w - 1) (d:=0) (u:=w - 1) (by omega) (by omega) (by omega) (by omega)
 have kc:cQ 1000000 (coreS s 0 (w - 1) 0 (w - 1)):=zl c1 hs ks fun x y h=>(c2 x y).1 h x y (by omega) (by omega) (by omega) (by omega)
 obtain⟨d1,d2,d3⟩:=Reg.ff c1 (l:=0) (r:=w - 1) (d:=0) (u:=w - 1) (by omega) (by omega) (by omega) (by omega)
 have d4:=(d3 1000000 100000 kc (by omega) (by omega) (by omega) (by omega)).up (B:=2000000) (by omega)
 have q1:=Yq s hs ks 0 (w - 1) 0 (w - 1) ⟨by omega,by omega⟩ ⟨by omega,by omega⟩ ⟨by omega,by omega⟩ ⟨by omega,by omega⟩ (by omega)
 have q2:=zj _ c1 (kc.up (by omega)) 0 (w - 1) 0 (w - 1) ⟨by omega,by omega⟩ ⟨by omega,by omega⟩ ⟨by omega,by omega⟩ ⟨by omega,by omega⟩
 have q3:=fQ s _ hs d1 (ks.up (by omega)) d4
 (refine aJ<|aj<|yS<|yP Z<|yP Z<|yP Z<|yq Z<|bg zI ?_;refine sI ?_)
 (refine yk<|yP Z<|yq Z<|bg zI ?_;refine sI ?_)
 (refine yk<|yn Z<|aK zI ?_;refine⟨_,_,q1,?_⟩)
 (refine b9 Z Z<|ae<|yP Z<|yq Z<|bg zI ?_;refine sI ?_)
 (refine yk<|yP Z<|yq Z<|bg zI ?_;refine sI ?_)
 (refine yk<|yn Z<|aK zI ?_;refine⟨_,_,q2,?_⟩)
 (refine b9 Z Z<|ae<|yn Z<|aK zI ?_;refine⟨_,_,q3,?_⟩)
 (refine b9 Z Z<|ae<|yA Z<|yR zi ?_;refine And.intro ?_ trivial)
 rfl
structure Ib (l:List aB):Prop where
 sok:hZ (Reg.a_ l)
 ink:cQ 1000000 (Reg.a_ l)
 at_:∀x y,at' (Reg.a_ l) x y=l.any (Reg.iN x y)
 full:∀r∈l,Full r
 rk:∀r∈l,RK 1000000 r
 len:l.length<=2000
theorem mQ {l:List aB} (h:Reg.aH l=0):Ib l:=by
 have h0:Reg.dh l=0:=by
  unfold Reg.aH at h
  by_cases h0:Reg.dh l=0
  ·exact h0
  rw[if_neg h0] at h;exact absurd h h0
 obtain⟨g1,g2⟩:=Reg.jY h0
 have hf:∀r∈l,Full r:=fun r hr=>⟨(g2 r hr).2.1,(g2 r hr).2.2⟩
 have hk:∀r∈l,RK 1000000 r:=fun r hr=>by
  have:=(g2 r hr).1
  simp[Reg.eM,Reg.lK] at this
  exact⟨by omega,by omega,by omega,by omega⟩
 obtain⟨b1,b2,b3⟩:=Reg.gf hf
 exact⟨b1,b3 _ hk,b2,hf,hk,g1⟩
theorem jL {l:List aB} (h:Ib l):aD C 32 [.pv (aV l)] (.own 145 ((Reg.a_ l).map hb)) []:=jb l 1000000 (by omega) (by omega) h.full h.rk (by have:=h.len;omega)
end M
namespace Reg
theorem jF {b:ax} {s:List ax} (h:hZ (b::s)) {x y:Int} (h1:b.y0<=y) (h2:y < b.y1):at' (b::s) x y=par (bK b.xs) x:=by
 rw[show b::s=[b]++s from rfl,iL,at_one,decide_eq_true h1,decide_eq_true h2,iM (s:=s) fun t ht=>.inl (by have:=h.fZ t ht;omega)]
 simp
theorem mS {b:ax} {s:List ax} {x y:Int} (h2:b.y1<=y):at' (b::s) x y=at' s x y:=by
 rw[show b::s=[b]++s from rfl,iL,at_one,decide_eq_false (by omega:¬y < b.y1)]
 simp
theorem qO {b:ax} (h:A5 b):∃x,par (bK b.xs) x=true:=by
 cases hx:b.xs with
 | nil=>exact absurd hx h.ne
 | cons p u=>exact⟨p.1,by rw[<-hx];exact (dn h.can _).2 ⟨p,by rw[hx];simp,Int.le_refl _,fP h.can p (by rw[hx];simp)⟩⟩
theorem Ic {p q:ax} {r u:List ax} (ha:hZ (p::r)) (hb:hZ (q::u)) (he:∀x y,at' (p::r) x y=at' (q::u) x y):q.y0<=p.y0:=by
 obtain⟨x,hx⟩:=qO ha.head
 have h1:=jF ha (x:=x) (Int.le_refl _) ha.head.lt
 rw[hx,he] at h1
 obtain⟨t,ht,t1,t2,_⟩:=sd.1 h1
 rcases List.mem_cons.1 ht with e | ht
 ·subst e;exact t1
 have:=hb.fZ t ht
 have:=hb.head.lt
 omega
theorem Er {p q:ax} {r u:List ax} (ha:hZ (p::r)) (hb:hZ (q::u)) (he:∀x y,at' (p::r) x y=at' (q::u) x y) (h0:p.y0=q.y0) (hx:p.xs=q.xs):q.y1<=p.y1:=by
 rcases Int.lt_or_le p.y1 q.y1 with h | h
 ·exfalso
  have hp:=ha.head.lt
  have row:∀x,at' r x p.y1=par (bK p.xs) x:=fun x=>by
   rw[<-mS (b:=p) (Int.le_refl _),he,jF hb (by omega) h,hx]
  cases r with
  | nil=>
   obtain⟨x,h1⟩:=qO ha.head
   rw[<-row] at h1
   cases h1
  | cons c r=>
   have hc:=ha.2.1
   rcases Int.lt_or_le p.y1 c.y0 with h2 | h2
   ·obtain⟨x,h1⟩:=qO ha.head
    rw[<-row,iM (s:=c::r) fun t ht=>.inl (by
     rcases List.mem_cons.1 ht with e | ht
     ·subst e;omega
     have:=ha.tail.fZ t ht;have:=ha.tail.head.lt;omega)] at h1
    cases h1
   have e:p.y1=c.y0:=by omega
   refine ha.2.2.1 e (jC _ _ ha.head.can ha.tail.head.can fun x=>?_)
   rw[<-dn ha.head.can,<-dn ha.tail.head.can,<-row x,jF ha.tail (by omega) (by have:=ha.tail.head.lt;omega)]
 exact h
theorem pN:∀(a b:List ax),hZ a->hZ b->(∀x y,at' a x y=at' b x y)->a=b
 | [],b,_,hb,he=>(qK hb fun x y=>(he x y).symm).symm
 | p::r,[],ha,_,he=>qK ha fun x y=>he x y
 | p::r,q::u,ha,hb,he=>by
  have e0:p.y0=q.y0:=Int.le_antisymm (Ic hb ha fun x y=>(he x y).symm) (Ic ha hb he)
  have ex:p.xs=q.xs:=jC _ _ ha.head.can hb.head.can fun x=>by
   rw[<-dn ha.head.can,<-dn hb.head.can,<-jF ha (Int.le_refl _) ha.head.lt,he,jF hb (by omega) (by have:=hb.head.lt;omega)]
  have e1:p.y1=q.y1:=Int.le_antisymm (Er hb ha (fun x y=>(he x y).symm) e0.symm ex.symm) (Er ha hb he e0 ex)
  have ih:=pN r u ha.tail hb.tail fun x y=>by
   rcases Int.lt_or_le y p.y1 with h | h
   ·rw[iM (s:=r) fun t ht=>.inl (by have:=ha.fZ t ht;omega),iM (s:=u) fun t ht=>.inl (by have:=hb.fZ t ht;omega)]
   rw[<-mS (b:=p) h,he,mS (by omega)]
  have:p=q:=by
   cases p;cases q
   simp only at e0 e1 ex
   subst e0 e1 ex
   rfl
  rw[this,ih]
theorem WT {a b:aB}:before a b=true↔a.y0 < b.y0\/(a.y0=b.y0/\a.x0 < b.x0):=by simp[before]
theorem C9 {s:bC} (h:Canon s):s.Pairwise fun p q=>p.1 < q.1:=by
 induction s with
 | nil=>exact List.Pairwise.nil
 | cons p s ih=>
  refine List.pairwise_cons.2 ⟨fun q hq=>?_,ih h.tail⟩
  have:=h.behind q hq
  have:=h.head
  omega
theorem mT {s:List ax} (h:hZ s):(told s).Pairwise fun a b=>before a b=true:=by
 induction s with
 | nil=>exact List.Pairwise.nil
 | cons b s ih=>
  have e:told (b::s)=(b.xs.map fun p=>⟨p.1,b.y0,p.2,b.y1⟩)++told s:=rfl
  rw[e]
  have aL:(b.xs.map fun p=>(⟨p.1,b.y0,p.2,b.y1⟩:aB)).Pairwise fun a b=>before a b=true:=by
   rw[List.pairwise_map]
   refine (C9 h.head.can).imp fun {p q} hp=>?_
   exact WT.2 (.inr ⟨rfl,hp⟩)
  refine List.pairwise_append.2 ⟨aL,ih h.tail,fun a ha c hc=>?_⟩
  obtain⟨p,_,rfl⟩:=List.mem_map.1 ha
  obtain⟨t,ht,q,_,rfl⟩:=Wu.1 hc
  have h1:=h.fZ t ht
  have h2:=h.head.lt
  exact WT.2 (.inl (by show b.y0 < t.y0;omega))
end Reg
end Go.Proofs.YtpbkimanfahbgaaGreatDoor
