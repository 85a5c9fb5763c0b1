/- Part 7 of the proof of RulesRoomMatchSpec. -/
import Derived.Test.YtfloceomobknoaaGreatDoorR06
import Derived.Test.YtfloceomobknoaaGreatDoorProg
import Derived.WalkKit
import Derived.WalkSpells
import Derived.WalkLawsBesides
import Derived.Lib.Hide
import Derived.Shelf.Strings.Builder1
import Derived.Laws.AppendOwn
set_option linter.unusedVariables false
set_option linter.unusedSimpArgs false
set_option maxRecDepth 100000
set_option maxHeartbeats 8000000
namespace Go
abbrev acZ:=@List.pairwise_map
abbrev ad_:=@List.cons_append
abbrev ab3:=@List.nil_append
abbrev ab4:=@Go.Oper.upon_value
abbrev ac0:=@Go.Lib.cell_of_heap
abbrev aea:=@Go.Lib.hid
abbrev ac1:=@List.map_nil
abbrev adK:=@Go.RowKit.Below.heap_setCell
end Go
namespace Go.Proofs.YtfloceomobknoaaGreatDoor
namespace Reg
theorem b6{a b:List an}(z:bE a)(hb:bE b):bE (bN a b)/\(∀x y,at' (bN a b) x y=(at' a x y&&!at' b x y))/\∀K,cv K a->cv K b->cv K (bN a b):=lO rfl z hb
def aeD(b:an):Int:=(bw b.xs).headD 0
def g_(b:an):Int:=((bw b.xs).getLast?).getD 0
def gw(r:ae)(b:an):ae:=⟨min r.x0 (aeD b),r.y0,max r.x1 (g_ b),r.y1⟩
def bK:List an->ae
 | []=>⟨0,0,0,0⟩
 | b::s=>(b::s).foldl gw ⟨aeD b,b.y0,(bw b.xs).getD 1 0,c9 (b::s)⟩
theorem SE{b:an}(h:Canon b.xs):∀p∈b.xs,aeD b<=p.1:=fun p hp=>by
 have D:=nt h;have z:p.1∈bw b.xs:=aep.2 ⟨p,hp,.inl rfl⟩;unfold aeD;cases hc:bw b.xs with
 | nil=>rw[hc]at z;cases z
 | cons c u=>
  rw[hc]at z D;show c<=p.1;rcases adq.1 z with e | z
  ·omega
  have:=bF.behind D _ z;omega
theorem le_last{b:an}(h:Canon b.xs):∀p∈b.xs,p.2<=g_ b:=fun p hp=>by
 have D:=nt h;have z:p.2∈bw b.xs:=aep.2 ⟨p,hp,.inr rfl⟩;unfold g_;cases hl:(bw b.xs).getLast? with
 | none=>rw[abe.1 hl]at z;cases z
 | some c=>
  obtain⟨d,I⟩:=adG.1 hl;rw[I]at z D;show p.2<=c;rcases abi.1 z with z | z
  ·have:=(ade.1 D).2.2 _ z c (by simp);omega
  rw[ab_]at z;omega
theorem Hd{b:an}{K:Int}(hb:IV b)(h:∀p∈b.xs,-K<=p.1/\p.2<=K):-K<=aeD b/\g_ b<=K/\(bw b.xs).getD 1 0<=K/\aeD b<(bw b.xs).getD 1 0:=by
 have z:=hb.can;cases hx:b.xs with
 | nil=>exact absurd hx hb.ne
 | cons p u=>
  rw[hx]at h z;have D:=h p (by simp);have J:=z.head;refine⟨by unfold aeD;rw[hx];exact D.1,?_,by exact D.2,by unfold aeD;rw[hx];exact J⟩;unfold g_;rw[hx];cases hl:(bw (p::u)).getLast? with
  | none=>rw[abe]at hl;cases hl
  | some c=>
   obtain⟨q,I,e⟩:=aep.1 (ad4 hl);have:=h q I;have:=ahL z q I;show c<=K;omega
theorem He:∀(s:List an) (r:ae),(s.foldl gw r).y0=r.y0/\(s.foldl gw r).y1=r.y1/\(s.foldl gw r).x0<=r.x0/\r.x1<=(s.foldl gw r).x1/\(∀b∈s,(s.foldl gw r).x0<=aeD b/\g_ b<=(s.foldl gw r).x1)/\
  ∀K,-K<=r.x0->r.x1<=K->(∀b∈s,-K<=aeD b/\g_ b<=K)->-K<=(s.foldl gw r).x0/\(s.foldl gw r).x1<=K:=by
 intro s
 induction s with
 | nil=>intro r;exact⟨rfl,rfl,aaD _,aaD _,fun b hb=>(by cases hb),fun K D I _=>⟨D,I⟩⟩
 | cons b s ih=>
  intro r;obtain⟨L,N,i3,i4,O,R⟩:=ih (gw r b);have w1:(gw r b).x0=min r.x0 (aeD b):=rfl;have w2:(gw r b).x1=max r.x1 (g_ b):=rfl;rw[aaq];refine⟨L,N,by omega,by omega,fun c z=>?_,fun K D I J=>?_⟩
  ·rcases adq.1 z with e | z
   ·subst e;omega
   exact O c z
  have:=J b (by simp);exact R K (by omega) (by omega) fun c z=>J c (by simp[z])
variable {s:List an}
theorem ui(h:bE s)(V:s≠[]):Full (bK s)/\(∀x y,at' s x y=true->dE x y (bK s)=true)/\∀K,cv K s->RK K (bK s):=by
 cases s with
 | nil=>exact absurd rfl V
 | cons b s=>
  have hb:=h.head;obtain⟨L,N,w3,O,w5,R⟩:=He (b::s) ⟨aeD b,b.y0,(bw b.xs).getD 1 0,c9 (b::s)⟩;have tm:=Dc h;obtain⟨K0,D⟩:∃K,∀p∈b.xs,-K<=p.1/\p.2<=K:=by
   have:∀l:aU,∃K,∀p∈l,-K<=p.1/\p.2<=K:=fun l=>by
    induction l with
    | nil=>exact⟨0,fun p h=>by cases h⟩
    | cons q l ih=>
     obtain⟨K,W⟩:=ih;refine⟨max K (max (-q.1) q.2),fun p hp=>?_⟩;rcases adq.1 hp with e | hp
     ·subst e;omega
     have:=W p hp;omega
   exact this _
  have cb:=(Hd hb D).2.2.2;have t1:=tm b (by simp);have eF:=hb.lt;have e1:bK (b::s)=(b::s).foldl gw ⟨aeD b,b.y0,(bw b.xs).getD 1 0,c9 (b::s)⟩:=rfl;rw[<-e1]at L N w3 O w5 R;simp only at L N w3 O;refine⟨⟨by omega,by omega⟩,fun x y Y=>?_,fun K hk=>?_⟩
  ·obtain⟨c,z,U,Z,I⟩:=qB.1 Y;have J:=h.mem c z;obtain⟨p,hp,p1,p2⟩:=(cu J.can x).1 I;have f1:=SE J.can p hp;have f2:=le_last J.can p hp;have f3:=w5 c z;have f4:=tm c z;have f5:b.y0<=c.y0:=by
    rcases adq.1 z with e | z
    ·subst e;exact aaD _
    have:=h.fM c z;omega
   exact aQ.2 ⟨by omega,by omega,by omega,by omega⟩
  obtain⟨U,Z,I,_⟩:=Hd hb (hk b (by simp)).2.2;obtain⟨g1,g2⟩:=R K U I fun c z=>by
   obtain⟨d1,d2,_,_⟩:=Hd (h.mem c z) (hk c z).2.2;exact⟨d1,d2⟩
  have g3:=nL (K:=K) (by simp) hk;have g4:=(hk b (by simp)).1;exact⟨g1,by omega,g2,by omega⟩
def coreS(s:List an)(l r d u:Int):List an:=if s=[] then [] else
 bN s (a_ (bN (aB [dJ (l+r+d+u+1) (l+r+d+u+1) (l+r+d+u+1) (l+r+d+u+1) (bK s)]) s) r l u d)
theorem pe(h:bE s){l r d u:Int}(hl:0<=l)(O:0<=r)(R:0<=d)(U:0<=u):
  bE (coreS s l r d u)/\(∀x y,at' (coreS s l r d u) x y=true↔∀a b,x-l<=a->a<=x+r->y-d<=b->b<=y+u->at' s a b=true)/\∀K,cv K s->cv (K+(l+r+d+u+1)+(l+r+d+u)) (coreS s l r d u):=by
 unfold coreS;by_cases e:s=[]
 ·rw[aap e];subst e;refine⟨trivial,fun x y=>⟨fun h=>(by cases h),fun h=>?_⟩,fun K _ t I=>(by cases I)⟩;exact absurd (h x y (by omega) (by omega) (by omega) (by omega)) (by simp[at'])
 rw[aaa e];obtain⟨V,W,Y⟩:=ui h e;obtain⟨n,Z⟩:∃n,n=l+r+d+u+1:=⟨_,rfl⟩;rw[<-Z];have aN:∀q∈[dJ n n n n (bK s)],Full q:=fun q z=>by
  rw[ab_]at z;subst z;unfold Full at V;exact⟨by show (bK s).x0-n<(bK s).x1+n;omega,by show (bK s).y0-n<(bK s).y1+n;omega⟩
 obtain⟨b1,b2,b3⟩:=aR aN;obtain⟨c1,J,c3⟩:=b6 b1 h;obtain⟨d1,L,d3⟩:=bW c1 O hl U R;obtain⟨e1,e2,e3⟩:=b6 h d1;refine⟨e1,fun x y=>?_,fun K hk=>?_⟩
 ·rw[e2,aaZ,ael];constructor
  ·rintro⟨h1,h2⟩ a b g1 g2 g3 g4;cases qb:at' s a b with
   | true=>rfl
   | false=>
    have ha:=aQ.1 (W x y h1);have:at' (a_ (bN (aB [dJ n n n n (bK s)]) s) r l u d) x y=true:=(L x y).2 ⟨a,b,by
     rw[J,b2,qb];have:dE a b (dJ n n n n (bK s))=true:=aQ.2 ⟨by show (bK s).x0-n<=a;omega,by show a<(bK s).x1+n;omega,by show (bK s).y0-n<=b;omega,by show b<(bK s).y1+n;omega⟩;simp[this],by omega,by omega,by omega,by omega⟩
    rw[h2]at this;cases this
  intro D;refine⟨D x y (by omega) (by omega) (by omega) (by omega),?_⟩;rw[aaV];intro hp;obtain⟨a,b,N,g1,g2,g3,g4⟩:=(L x y).1 hp;rw[J,D a b (by omega) (by omega) (by omega) (by omega)]at N;simp at N
 have k1:cv (K+n) (aB [dJ n n n n (bK s)]):=b3 _ fun q z=>by
  rw[ab_]at z;subst z;obtain⟨f1,f2,f3,f4⟩:=Y K hk;exact⟨by show -(K+n)<=(bK s).x0-n;omega,by show -(K+n)<=(bK s).y0-n;omega,by show (bK s).x1+n<=K+n;omega,by show (bK s).y1+n<=K+n;omega⟩
 have up:∀{A B:Int} {t:List an},A<=B->cv A t->cv B t:=fun hAB I b hb=>by
  obtain⟨x1,x2,x3⟩:=I b hb;exact⟨by omega,by omega,fun p hp=>by have:=x3 p hp;omega⟩
 have k2:=c3 _ k1 (up (by omega) hk);have k3:=d3 (K+n) (l+r+d+u) k2 (by omega) (by omega) (by omega) (by omega);exact e3 _ (up (by omega) hk) k3
def ahD(s:List an)(w:Int):List an:=if w<1 then [] else bN s (a_ (coreS s 0 (w-1) 0 (w-1)) 0 (w-1) 0 (w-1))
def Open(s:List an)(w x y:Int):Prop:=∃a b,a<=x/\x<a+w/\b<=y/\y<b+w/\∀c d,a<=c->c<a+w->b<=d->d<b+w->at' s c d=true
theorem cv.up{A B:Int}{t:List an}(h:A<=B)(z:cv A t):cv B t:=fun b hb=>by
 obtain⟨x1,x2,D⟩:=z b hb;exact⟨by omega,by omega,fun p hp=>by have:=D p hp;omega⟩
theorem aeS(h:bE s)(w:Int):bE (ahD s w)/\(∀x y,at' (ahD s w) x y=true↔1<=w/\at' s x y=true/\¬Open s w x y):=by
 unfold ahD;by_cases z:w<1
 ·rw[aap z];exact⟨trivial,fun x y=>⟨fun h=>(by cases h),fun h=>by omega⟩⟩
 rw[aaa z];obtain⟨L,D,c3⟩:=pe h (l:=0) (r:=w-1) (d:=0) (u:=w-1) (by omega) (by omega) (by omega) (by omega);obtain⟨N,O,d3⟩:=bW L (l:=0) (r:=w-1) (d:=0) (u:=w-1) (by omega) (by omega) (by omega) (by omega);obtain⟨e1,e2,e3⟩:=b6 h N;refine⟨e1,fun x y=>?_⟩;rw[e2,aaZ,ael,aaV,ne_eq,O];have:(∃a b,at' (coreS s 0 (w-1) 0 (w-1)) a b=true/\x-(w-1)<=a/\a<=x+0/\y-(w-1)<=b/\b<=y+0)↔Open s w x y:=by
  constructor
  ·rintro⟨a,b,I,R,U,V,J⟩;exact⟨a,b,by omega,by omega,by omega,by omega,fun c d W Y Z g4=>(D a b).1 I c d (by omega) (by omega) (by omega) (by omega)⟩
  rintro⟨a,b,I,R,U,V,J⟩;exact⟨a,b,(D a b).2 fun c d W Y Z g4=>J c d (by omega) (by omega) (by omega) (by omega),by omega,by omega,by omega,by omega⟩
 rw[this];exact⟨fun g=>⟨by omega,g⟩,fun g=>g.2⟩
theorem BA{hi:Int}:∀{s:aU} {p:Int×Int},Canon (p::s)->(∀q∈p::s,q.2<=hi)->2*((s.length:Int)+1)<=hi-p.1+1
 | [],p,h,hb=>by
  have D:=h.head;have I:=hb p (by simp);simp only[acs];omega
 | q::s,p,h,hb=>by
  have ih:=BA (s:=s) (p:=q) h.tail (fun t z=>hb t (by simp at z ⊢;exact .inr z));have D:=h.head;have I:=h.behind q (by simp);simp only[aaB];omega
theorem iY{s:aU}{K:Int}(h:Canon s)(hK:0<=K)(hb:∀q∈s,-K<=q.1/\q.2<=K):2*(s.length:Int)<=2*K+1:=by
 cases s with
 | nil=>simp only[acs];omega
 | cons p s=>
  have h1:=BA h (fun q z=>(hb q z).2);have h2:=(hb p (by simp)).1;simp only[aaB];omega
theorem IW{hi:Int}:∀{s:List an} {b:an},bE (b::s)->(∀t∈b::s,t.y1<=hi)->(s.length:Int)+1<=hi-b.y0
 | [],b,h,hb=>by
  have D:=h.head.lt;have I:=hb b (by simp);simp only[acs];omega
 | c::s,b,h,hb=>by
  have ih:=IW (s:=s) (b:=c) h.tail (fun t z=>hb t (by simp at z ⊢;exact .inr z));have D:=h.head.lt;have I:=h.2.1;simp only[aaB];omega
theorem ahe{K:Int}(h:bE s)(hK:0<=K)(hb:cv K s):(s.length:Int)<=2*K:=by
 cases s with
 | nil=>simp only[acs];omega
 | cons b s=>
  have h1:=IW h (fun t z=>(hb t z).2.1);have h2:=(hb b (by simp)).1;simp only[aaB];omega
theorem kT{K:Int}(h:bE s)(D:0<=K)(hb:cv K s):∀t∈s,2*(t.xs.length:Int)<=2*K+1:=fun t z=>iY (h.mem t z).can D (hb t z).2.2
theorem uj{M:Nat}:∀{s:List an},(∀t∈s,t.xs.length<=M)->(told s).length<=s.length*M
 | [],_=>by simp[told]
 | b::s,h=>by
  have ih:=uj (s:=s) (fun t z=>h t (by simp[z]));have h1:=h b (by simp);unfold told at ih ⊢;rw[abz,acv,aej,aaB,abR];omega
theorem fj{s:List an}(h:bE s)(hb:cv 1400000 s):(told s).length<=4398046511104:=by
 have h1:=ahe h (by omega) hb;have h2:=uj (M:=1400000) (s:=s) fun t z=>by have:=kT h (by omega) hb t z;omega
 have h3:s.length*1400000<=2800000*1400000:=abf _ (by omega);omega
theorem EP{k:Bool->Bool->Bool}(h0:k false false=false){K:Int}{a b out:List an}{y e:Int}(R:y<e)(ha:bE a)(hb:bE b)(ho:bE out)(h1:∀t∈out,t.y1<=y)(U:cv K a)(V:cv K b)(ko:cv K out)(hy:-K<=y)(he:e<=K):
  ∃z L,z=min (eI (aq y a) y e).2 (eI (aq y b) y e).2/\L=eo k (bw (eI (aq y a) y e).1) (bw (eI (aq y b) y e).1)/\y<z/\z<=e/\bw (pairUp L)=L/\bE (aq y a)/\bE (aq y b)/\cv K (aq y a)/\cv K (aq y b)/\
   bE (cA out ⟨y,z,pairUp L⟩)/\(∀t∈cA out ⟨y,z,pairUp L⟩,t.y1<=z)/\cv K (cA out ⟨y,z,pairUp L⟩)/\Canon (eI (aq y a) y e).1/\Canon (eI (aq y b) y e).1/\(∀p∈(eI (aq y a) y e).1,-K<=p.1/\p.2<=K)/\(∀p∈(eI (aq y b) y e).1,-K<=p.1/\p.2<=K):=by
 obtain⟨W,I,a3⟩:=e_ (y:=y) ha;obtain⟨Y,J,b3⟩:=e_ (y:=y) hb;obtain⟨Z,c2,c3,c4,c5⟩:=iX W (fun t D=>(I t D).2) R;obtain⟨d1,d2,d3,d4,d5⟩:=iX Y (fun t D=>(J t D).2) R;obtain⟨r1,r2,r3,r4⟩:=mw (k:=k) h0 Z d1;obtain⟨z,Au⟩:∃z,z=min (eI (aq y a) y e).2 (eI (aq y b) y e).2:=⟨_,rfl⟩;have n1:y<z:=by omega
 have n2:z<=e:=by omega
 have g1:∀p∈(eI (aq y a) y e).1,-K<=p.1/\p.2<=K:=fun p hp=>by obtain⟨q,N,hp⟩:=c4 p hp;exact (U q (I q N).1).2.2 p hp
 have g2:∀p∈(eI (aq y b) y e).1,-K<=p.1/\p.2<=K:=fun p hp=>by obtain⟨q,N,hp⟩:=d4 p hp;exact (V q (J q N).1).2.2 p hp
 have rr:=r4 K g1 g2;obtain⟨p1,p2,p3,p4⟩:=jT (b:=⟨y,z,pairUp (eo k (bw (eI (aq y a) y e).1) (bw (eI (aq y b) y e).1))⟩) ho n1 r1 h1;refine⟨z,_,Au,rfl,n1,n2,r3,W,Y,fun t D=>U t (I t D).1,fun t D=>V t (J t D).1,p1,p2,fun t D=>?_,Z,d1,g1,g2⟩;have e1:=p2 t D;have e1:t.y1<=z:=e1;rcases p4 t D with⟨u,hu,x1,O⟩ | ⟨x1,O⟩
 ·have:=ko u hu;rw[<-x1,<-O];exact⟨this.1,by omega,this.2.2⟩
 rw[x1,O];exact⟨hy,by omega,rr⟩
theorem nu:∀(b:an) (s:List an),∃t,(b::s)[s.length]?=some t/\t.y1=c9 (b::s)
 | b,[]=>⟨b,rfl,rfl⟩
 | b,c::s=>by
  obtain⟨t,z,D⟩:=nu c s;exact⟨t,by simpa using z,by rw[c9];exact D⟩
theorem Nc{K:Int}{a b:List an}(z:cv K a)(D:cv K b)(I:a.length+b.length≠0):-K<=p8 a b:=by
 cases a with
 | nil=>
  cases b with
  | nil=>simp at I
  | cons q u=>exact (D q (by simp)).1
 | cons p r=>
  cases b with
  | nil=>exact (z p (by simp)).1
  | cons q u=>
   have:=(z p (by simp)).1;have:=(D q (by simp)).1;show -K<=min p.y0 q.y0;omega
theorem Nd{K:Int}{a b:List an}(z:cv K a)(D:cv K b)(I:a.length+b.length≠0):p9 a b<=K:=by
 cases a with
 | nil=>
  cases b with
  | nil=>simp at I
  | cons q u=>exact nL (by simp) D
 | cons p r=>
  cases b with
  | nil=>exact nL (by simp) z
  | cons q u=>
   have h1:=nL (by simp) z;have h2:=nL (by simp) D;show max (c9 (p::r)) (c9 (q::u))<=K;omega
theorem lR{b:an}{s:List an}(h:bE (b::s)){x y:Int}(z:b.y0<=y)(D:y<b.y1):at' (b::s) x y=par (bw b.xs) x:=by
 rw[show b::s=[b]++s from rfl,jR,at_one,aaA z,aaA D,jS (s:=s) fun t I=>.inl (by have:=h.fM t I;omega)];simp
theorem pj{b:an}{x y:Int}(h2:b.y1<=y):at' (b::s) x y=at' s x y:=by
 rw[show b::s=[b]++s from rfl,jR,at_one,aaC (by omega:¬y<b.y1)];simp
theorem um{b:an}(h:IV b):∃x,par (bw b.xs) x=true:=by
 cases hx:b.xs with
 | nil=>exact absurd hx h.ne
 | cons p u=>exact⟨p.1,by rw[<-hx];exact (cu h.can _).2 ⟨p,by rw[hx];simp,aaD _,ahL h.can p (by rw[hx];simp)⟩⟩
theorem Ng{p q:an}{r u:List an}(z:bE (p::r))(hb:bE (q::u))(J:∀x y,at' (p::r) x y=at' (q::u) x y):q.y0<=p.y0:=by
 obtain⟨x,L⟩:=um z.head;have I:=lR z (x:=x) (aaD _) z.head.lt;rw[L,J]at I;obtain⟨t,D,N,t2,_⟩:=qB.1 I;rcases adq.1 D with e | D
 ·subst e;exact N
 have:=hb.fM t D;have:=hb.head.lt;omega
theorem I2{p q:an}{r u:List an}(z:bE (p::r))(hb:bE (q::u))(J:∀x y,at' (p::r) x y=at' (q::u) x y)(h0:p.y0=q.y0)(L:p.xs=q.xs):q.y1<=p.y1:=by
 rcases Int.lt_or_le p.y1 q.y1 with h | h
 ·exfalso;have hp:=z.head.lt;have row:∀x,at' r x p.y1=par (bw p.xs) x:=fun x=>by
   rw[<-pj (b:=p) (aaD _),J,lR hb (by omega) h,L]
  cases r with
  | nil=>
   obtain⟨x,D⟩:=um z.head;rw[<-row]at D;cases D
  | cons c r=>
   have hc:=z.2.1;rcases Int.lt_or_le p.y1 c.y0 with N | N
   ·obtain⟨x,D⟩:=um z.head;rw[<-row,jS (s:=c::r) fun t I=>.inl (by
     rcases adq.1 I with e | I
     ·subst e;omega
     have:=z.tail.fM t I;have:=z.tail.head.lt;omega)]at D
    cases D
   have e:p.y1=c.y0:=by omega
   refine z.2.2.1 e (lJ _ _ z.head.can z.tail.head.can fun x=>?_);rw[<-cu z.head.can,<-cu z.tail.head.can,<-row x,lR z.tail (by omega) (by have:=z.tail.head.lt;omega)]
 exact h
theorem iK:∀(a b:List an),bE a->bE b->(∀x y,at' a x y=at' b x y)->a=b
 | [],b,_,hb,he=>(qC hb fun x y=>(he x y).symm).symm
 | p::r,[],ha,_,he=>qC ha fun x y=>he x y
 | p::r,q::u,ha,hb,he=>by
  have z:p.y0=q.y0:=Int.le_antisymm (Ng hb ha fun x y=>(he x y).symm) (Ng ha hb he);have D:p.xs=q.xs:=lJ _ _ ha.head.can hb.head.can fun x=>by
   rw[<-cu ha.head.can,<-cu hb.head.can,<-lR ha (aaD _) ha.head.lt,he,lR hb (by omega) (by have:=hb.head.lt;omega)]
  have e1:p.y1=q.y1:=Int.le_antisymm (I2 hb ha (fun x y=>(he x y).symm) z.symm D.symm) (I2 ha hb he z D);have ih:=iK r u ha.tail hb.tail fun x y=>by
   rcases Int.lt_or_le y p.y1 with h | h
   ·rw[jS (s:=r) fun t I=>.inl (by have:=ha.fM t I;omega),jS (s:=u) fun t I=>.inl (by have:=hb.fM t I;omega)]
   rw[<-pj (b:=p) h,he,pj (by omega)]
  have:p=q:=by
   cases p;cases q;simp only at z e1 D;subst z e1 D;rfl
  rw[this,ih]
theorem gN{a b:ae}:before a b=true↔a.y0<b.y0\/(a.y0=b.y0/\a.x0<b.x0):=by simp[before]
theorem Hh{s:aU}(h:Canon s):s.Pairwise fun p q=>p.1<q.1:=by
 induction s with
 | nil=>exact List.Pairwise.nil
 | cons p s ih=>
  refine abw.2 ⟨fun q z=>?_,ih h.tail⟩;have:=h.behind q z;have:=h.head;omega
theorem pk(h:bE s):(told s).Pairwise fun a b=>before a b=true:=by
 induction s with
 | nil=>exact List.Pairwise.nil
 | cons b s ih=>
  have e:told (b::s)=(b.xs.map fun p=>⟨p.1,b.y0,p.2,b.y1⟩)++told s:=rfl;rw[e];have az:(b.xs.map fun p=>(⟨p.1,b.y0,p.2,b.y1⟩:ae)).Pairwise fun a b=>before a b=true:=by
   rw[acZ];refine (Hh h.head.can).imp fun {p q} hp=>?_;exact gN.2 (.inr ⟨rfl,hp⟩)
  refine ade.2 ⟨az,ih h.tail,fun a z c D=>?_⟩;obtain⟨p,_,rfl⟩:=adS.1 z;obtain⟨t,I,q,_,rfl⟩:=gf.1 D;have h1:=h.fM t I;have h2:=h.head.lt;exact gN.2 (.inl (by show b.y0<t.y0;omega))
theorem qD(h:bE s)(z:told s=[]):s=[]:=qC h fun x y=>by rw[<-iy h,z];rfl
def ahE(a b:Bool):Bool:=a&&b
def nv(a b:Bool):Bool:=a||b
def nM(a b:List an):List an:=ik ahE a b
def uo(a b:List an):List an:=ik nv a b
theorem Ky{a b:List an}(z:bE a)(hb:bE b):bE (nM a b)/\(∀x y,at' (nM a b) x y=(at' a x y&&at' b x y))/\∀K,cv K a->cv K b->cv K (nM a b):=lO rfl z hb
theorem kH{a b:List an}(z:bE a)(hb:bE b):bE (uo a b)/\(∀x y,at' (uo a b) x y=(at' a x y||at' b x y))/\∀K,cv K a->cv K b->cv K (uo a b):=lO rfl z hb
end Reg
namespace M
open Go.AM Go.RowKit Go.Lib
open Reg (ae aU an ahH eo dv gZ cG)
def vA(f:FuncId):PV:=.im (.func (.func f) #[] #[])
inductive K3 where
 | less
 | and
 | or
def kF:K3->Bool->Bool->Bool
 | .less=>cG
 | .and=>Reg.ahE
 | .or=>Reg.nv
def kI:K3->FuncId
 | .less=>156
 | .and=>201
 | .or=>200
theorem aex(k:K3):kF k false false=false:=by cases k<;>rfl
theorem aev(k:K3)(a b:Bool):af C (kI k) [.pv (bool a),.pv (bool b)] (.p (bool (kF k a b))) []:=by
 cases k
 ·refine fW hC Tryz.func156 rfl (by kernel_rfl) fun _=>?_;apply iW<;>intro h
  ·refine⟨?_,trivial⟩;subst h;rfl
  refine⟨?_,trivial⟩;have h:a=false:=by simpa using h
  subst h;rfl
 ·refine fW hC Tryz.func201 rfl (by kernel_rfl) fun _=>?_;apply iW<;>intro h
  ·refine⟨?_,trivial⟩;subst h;rfl
  refine⟨?_,trivial⟩;have h:a=false:=by simpa using h
  subst h;rfl
 refine fW hC Tryz.func200 rfl (by kernel_rfl) fun _=>?_;apply iW<;>intro h
 ·refine⟨?_,trivial⟩;subst h;rfl
 refine⟨?_,trivial⟩;have h:a=false:=by simpa using h
 subst h;rfl
theorem vB(k:Bool->Bool->Bool)(n:Nat)(z D is:Bool):ahH k n [] [] z D is=[]:=by cases n<;>rfl
theorem eu(t:TypeId)(out:List Int)(p:Int):AB.row t ((out.map fun n=>[i64 n])++[[i64 p]])=AB.row t ((out++[p]).map fun n=>[i64 n]):=by simp
theorem bL(x:List PV)(es:List (List PV)):AV.p (.sl (((x::es).take ((((x::es).length:Nat):Int)).toNat).drop (1:Int).toNat))=AV.p (.sl es):=by simp
def aA(l:List Int):List (List PV):=l.map fun n=>[i64 n]
theorem aes(U:K3)(a b:List Int)(hN:a.length+b.length<=4398046511104):af C 215 [.pv (ints a),.pv (ints b),.pv (vA (kI U))] (.p (ints (eo (kF U) a b))) []:=by
 have hk:=aev U;obtain⟨J,e7⟩:∃J,J=kF U:=⟨_,rfl⟩;rw[<-e7]at hk ⊢;clear e7;cases U
 all_goals
  refine fW hC Tryz.func215 rfl (by kernel_rfl) fun _=>?_;refine aJ (fun x:Nat×List Int×List Int×Bool×Bool×Bool×List Int=>x.2.1.length+x.2.2.1.length<=x.1/\x.2.2.2.2.2.2++ahH J x.1 x.2.1 x.2.2.1 x.2.2.2.1 x.2.2.2.2.1 x.2.2.2.2.2.1=eo J a b/\x.2.2.2.2.2.2.length+x.1<=a.length+b.length)
   (fun x=>[(0,.p (ints x.2.1)),(1,.p (ints x.2.2.1)),(2,.p (vA _)),(7,.ow 7),(8,.p (bool x.2.2.2.1)),(9,.p (bool x.2.2.2.2.1)),(10,.p (bool x.2.2.2.2.2.1))])
   (fun x=>[(7,.row 3 (aA x.2.2.2.2.2.2))]) (fun x=>x.1) (a.length+b.length,a,b,false,false,false,[]) _ (au.dk hC _ 7 3 _ (by decide) rfl rfl (by decide)) ⟨aam _,rfl,by simp⟩ ⟨Z,Z,Z,Z,Z,Z,Z,Y⟩ ⟨Z,Y⟩ fun ⟨n,a',b',z,D,is,out⟩ hi t h=>?_
  obtain⟨R,L,h3⟩:=hi;simp only at R L h3;have lm:∀l:List Int,(l.map fun n=>[i64 n]).length=l.length:=fun l=>aej ..;rcases a' with _ | ⟨p,r⟩
  ·rcases b' with _ | ⟨q,u⟩
   ·rw[vB,acw]at L;refine⟨?_,trivial⟩;rw[<-L];rfl
   obtain⟨m,rfl⟩:∃m,n=m+1:=⟨n-1,by simp at R;omega⟩;have e:ahH J (m+1) [] (q::u) z D is=if J z (!D)=is then ahH J m [] u z (!D) is else q::ahH J m [] u z (!D) (J z (!D)):=by simp[ahH,gZ,dv]
   rw[e]at L;simp at R;apply iW<;>intro N<;>try simp only[zB]at N
   ··
     refine⟨[i64 q],(idx (i:=0) rfl rfl),iW ?_ ?_⟩<;>intro V<;>try simp only[zB]at V
     ·refine⟨[i64 q],(idx (i:=0) rfl rfl),iW ?_ ?_⟩<;>intro O<;>try simp only[zB]at O
      ·refine⟨⟨by simp,by simp;omega⟩,_,_,(hk z (!D)),iW ?_ ?_⟩<;>intro I<;>try simp only[zB]at I
       ·have I:¬J z (!D)=is:=by simpa using I
        rw[aaa I]at L;exact⟨⟨by simp,by simp[aA];omega,by simp[aA];omega⟩,(m,[],u,z,(!D),J z (!D),out++[q]),_,au.refl _ _,⟨by simp;omega,by simp only[abx,ad_,ab3];exact L,by simp;omega⟩,by simp only;omega,⟨rfl,bL [i64 q] _,Z,Z,Z,Z,Z,Y⟩,⟨eu _ out q,trivial⟩⟩
       have I:J z (!D)=is:=by simpa using I
       rw[aap I]at L;exact⟨(m,[],u,z,(!D),is,out),_,au.refl _ _,⟨by simp;omega,L,by simp only;omega⟩,by simp only;omega,⟨rfl,bL [i64 q] _,Z,Z,Z,Z,Z,Y⟩,⟨Z,Y⟩⟩
      exact absurd trivial O
     simp at V
   simp at N
  rcases b' with _ | ⟨q,u⟩
  ·obtain⟨m,rfl⟩:∃m,n=m+1:=⟨n-1,by simp at R;omega⟩;have e:ahH J (m+1) (p::r) [] z D is=if J (!z) D=is then ahH J m r [] (!z) D is else p::ahH J m r [] (!z) D (J (!z) D):=by simp[ahH,gZ,dv]
   rw[e]at L;simp at R;apply iW<;>intro N<;>try simp only[zB]at N
   ·refine⟨[i64 p],(idx (i:=0) rfl rfl),iW ?_ ?_⟩<;>intro V<;>try simp only[zB]at V
    ·refine⟨[i64 p],(idx (i:=0) rfl rfl),iW ?_ ?_⟩<;>intro O<;>try simp only[zB]at O
     ·refine⟨⟨by simp,by simp;omega⟩,_,_,(hk (!z) D),iW ?_ ?_⟩<;>intro I<;>try simp only[zB]at I
      ·have I:¬J (!z) D=is:=by simpa using I
       rw[aaa I]at L;exact⟨⟨by simp,by simp[aA];omega,by simp[aA];omega⟩,(m,r,[],(!z),D,J (!z) D,out++[p]),_,au.refl _ _,⟨by simp;omega,by simp only[abx,ad_,ab3];exact L,by simp;omega⟩,by simp only;omega,⟨bL [i64 p] _,Z,Z,Z,Z,Z,Z,Y⟩,⟨eu _ out p,trivial⟩⟩
      have I:J (!z) D=is:=by simpa using I
      rw[aap I]at L;exact⟨(m,r,[],(!z),D,is,out),_,au.refl _ _,⟨by simp;omega,L,by simp only;omega⟩,by simp only;omega,⟨bL [i64 p] _,Z,Z,Z,Z,Z,Z,Y⟩,⟨Z,Y⟩⟩
     exact absurd trivial O
    simp at V
   simp at N
  obtain⟨m,rfl⟩:∃m,n=m+1:=⟨n-1,by simp at R;omega⟩;have e:ahH J (m+1) (p::r) (q::u) z D is=if J (dv (if p<=q then p else q) (p::r) z).2 (dv (if p<=q then p else q) (q::u) D).2=is then ahH J m (dv (if p<=q then p else q) (p::r) z).1 (dv (if p<=q then p else q) (q::u) D).1 (dv (if p<=q then p else q) (p::r) z).2 (dv (if p<=q then p else q) (q::u) D).2 is else (if p<=q then p else q)::ahH J m (dv (if p<=q then p else q) (p::r) z).1 (dv (if p<=q then p else q) (q::u) D).1 (dv (if p<=q then p else q) (p::r) z).2 (dv (if p<=q then p else q) (q::u) D).2 (J (dv (if p<=q then p else q) (p::r) z).2 (dv (if p<=q then p else q) (q::u) D).2):=rfl;rw[e]at L;simp at R;apply iW<;>intro N<;>try simp only[zB]at N
  ··
    apply iW<;>intro O<;>try simp only[zB]at O
    ·refine⟨[i64 p],(idx (i:=0) rfl rfl),[i64 q],(idx (i:=0) rfl rfl),iW ?_ ?_⟩<;>intro g4
     ·rw[aap g4]at L;refine⟨[i64 p],(idx (i:=0) rfl rfl),iW ?_ ?_⟩<;>intro W<;>try simp only[zB]at W
      ·refine⟨[i64 p],(idx (i:=0) rfl rfl),iW ?_ ?_⟩<;>intro g6<;>try simp only[zB]at g6
       ·refine⟨⟨by simp,by simp;omega⟩,iW ?_ ?_⟩<;>intro g7<;>try simp only[zB]at g7
        ·refine⟨[i64 q],(idx (i:=0) rfl rfl),iW ?_ ?_⟩<;>intro g8
         ·refine⟨⟨by simp,by simp;omega⟩,?_⟩;rw[show dv p (p::r) z=(r,!z) by simp[dv],show dv p (q::u) D=(u,!D) by simp[dv,g8]]at L;simp only at L;refine⟨_,_,(hk (!z) (!D)),iW ?_ ?_⟩<;>intro I<;>try simp only[zB]at I
          ·have I:¬J (!z) (!D)=is:=by simpa using I
           rw[aaa I]at L;exact⟨⟨by simp,by simp[aA];omega,by simp[aA];omega⟩,(m,r,u,(!z),(!D),J (!z) (!D),out++[p]),_,au.refl _ _,⟨by simp;omega,by simp only[abx,ad_,ab3];exact L,by simp;omega⟩,by simp only;omega,⟨bL [i64 p] _,bL [i64 q] _,Z,Z,Z,Z,Z,Y⟩,⟨eu _ out p,trivial⟩⟩
          have I:J (!z) (!D)=is:=by simpa using I
          rw[aap I]at L;exact⟨(m,r,u,(!z),(!D),is,out),_,au.refl _ _,⟨by simp;omega,L,by simp only;omega⟩,by simp only;omega,⟨bL [i64 p] _,bL [i64 q] _,Z,Z,Z,Z,Z,Y⟩,⟨Z,Y⟩⟩
         rw[show dv p (p::r) z=(r,!z) by simp[dv],show dv p (q::u) D=(q::u,D) by simp[dv,g8]]at L;simp only at L;refine⟨_,_,(hk (!z) D),iW ?_ ?_⟩<;>intro I<;>try simp only[zB]at I
         ·have I:¬J (!z) D=is:=by simpa using I
          rw[aaa I]at L;exact⟨⟨by simp,by simp[aA];omega,by simp[aA];omega⟩,(m,r,(q::u),(!z),D,J (!z) D,out++[p]),_,au.refl _ _,⟨by simp;omega,by simp only[abx,ad_,ab3];exact L,by simp;omega⟩,by simp only;omega,⟨bL [i64 p] _,Z,Z,Z,Z,Z,Z,Y⟩,⟨eu _ out p,trivial⟩⟩
         have I:J (!z) D=is:=by simpa using I
         rw[aap I]at L;exact⟨(m,r,(q::u),(!z),D,is,out),_,au.refl _ _,⟨by simp;omega,L,by simp only;omega⟩,by simp only;omega,⟨bL [i64 p] _,Z,Z,Z,Z,Z,Z,Y⟩,⟨Z,Y⟩⟩
        simp at g7
       exact absurd trivial g6
      simp at W
     rw[aaa g4]at L;refine⟨[i64 q],(idx (i:=0) rfl rfl),iW ?_ ?_⟩<;>intro W<;>try simp only[zB]at W
     ·refine⟨[i64 p],(idx (i:=0) rfl rfl),iW ?_ ?_⟩<;>intro g6
      ·omega
      apply iW<;>intro g7<;>try simp only[zB]at g7
      ·refine⟨[i64 q],(idx (i:=0) rfl rfl),iW ?_ ?_⟩<;>intro g8<;>try simp only[zB]at g8
       ·refine⟨⟨by simp,by simp;omega⟩,?_⟩;rw[show dv q (q::u) D=(u,!D) by simp[dv],show dv q (p::r) z=(p::r,z) by simp[dv,g6]]at L;simp only at L;refine⟨_,_,(hk z (!D)),iW ?_ ?_⟩<;>intro I<;>try simp only[zB]at I
        ·have I:¬J z (!D)=is:=by simpa using I
         rw[aaa I]at L;exact⟨⟨by simp,by simp[aA];omega,by simp[aA];omega⟩,(m,(p::r),u,z,(!D),J z (!D),out++[q]),_,au.refl _ _,⟨by simp;omega,by simp only[abx,ad_,ab3];exact L,by simp;omega⟩,by simp only;omega,⟨rfl,bL [i64 q] _,Z,Z,Z,Z,Z,Y⟩,⟨eu _ out q,trivial⟩⟩
        have I:J z (!D)=is:=by simpa using I
        rw[aap I]at L;exact⟨(m,(p::r),u,z,(!D),is,out),_,au.refl _ _,⟨by simp;omega,L,by simp only;omega⟩,by simp only;omega,⟨rfl,bL [i64 q] _,Z,Z,Z,Z,Z,Y⟩,⟨Z,Y⟩⟩
       exact absurd trivial g8
      simp at g7
     simp at W
    simp at O
  simp at N
open Reg (eI aq dI ik p8 p9 c9 bw pairUp bE cv cA bN Canon)
theorem aim:∀s:aU,flat s=bw s
 | []=>rfl
 | p::s=>by rw[flat,bw,aim s]
def aw(s:List an):PV:=.sl (s.map hb)
theorem om(s:List an)(y e:Int):af C 214 [.pv (aw s),.pv (i64 y),.pv (i64 e)] (.tu [ints (bw (eI s y e).1),i64 (eI s y e).2]) []:=by
 refine fW hC Tryz.func214 rfl (by kernel_rfl) fun _=>?_;rcases s with _ | ⟨b,s⟩
 ·refine⟨?_,trivial⟩;rfl
 have e1:eI (b::s) y e=if y<b.y0 then ([],min e b.y0) else (b.xs,min e b.y1):=rfl;refine⟨(hb b),(idx (i:=0) rfl rfl),iW ?_ ?_⟩<;>intro z
 ·rw[e1,aap z];refine⟨(hb b),(idx (i:=0) rfl rfl),?_,trivial⟩;rfl
 rw[e1,aaa z,<-aim];refine⟨(hb b),(idx (i:=0) rfl rfl),(hb b),(idx (i:=0) rfl rfl),?_,trivial⟩;rfl
theorem ry{l:List an}:∀r∈l.map hb,r.length=3:=fun r z=>by
 obtain⟨b,_,rfl⟩:=adS.1 z;rfl
def st(a b:List an):Nat->Int×Int
 | 0=>(0,0)
 | 1=>match a with
  | []=>(0,0)
  | p::r=>(p.y0,c9 (p::r))
 | _=>(p8 a b,p9 a b)
theorem aer(U:K3)(a b:List an)(ha:bE a)(hb':bE b)(ka:cv 2000000 a)(kb:cv 2000000 b):af C 155 [.pv (aw a),.pv (aw b),.pv (vA (kI U))] (.p (aw (ik (kF U) a b))) []:=by
 have hl:=aes U;have h0:=aex U;obtain⟨N,e7⟩:∃N,N=kF U:=⟨_,rfl⟩;rw[<-e7]at hl h0 ⊢;clear e7;let F:=kI U;cases U
 all_goals
  refine uX ⟨[],[4,6],[],[],[],[]⟩ hC Tryz.func155 rfl (by kernel_rfl) fun _=>?_;have la:=Reg.ahe ha (by omega) ka;have lb:=Reg.ahe hb' (by omega) kb;have ma:=ai a hb;have mb:=ai b hb;refine⟨⟨by rw[ma,mb];omega,by rw[ma,mb];omega⟩,iW ?_ ?_⟩<;>intro g0
  ·rw[ma,mb]at g0;refine⟨?_,trivial⟩;rw[ik,aap (by omega)];rfl
  rw[ma,mb]at g0;have hn:a.length+b.length≠0:=by omega
  refine aJ (fun i:Nat=>i<=2) (fun i=>[(0,.p (aw a)),(1,.p (aw b)),(2,.p (vA F)),(7,.nl),(8,.p (i64 (st a b i).1)),(9,.p (i64 (st a b i).2)),(25,.ow 25),(26,.p (i64 (2:Nat))),(27,.p (i64 i))]) (fun i=>[(25,.row 59 [[aw a],[aw b]])]) (fun i=>2-i) 0 _ (au.refl _ _) (by omega) ⟨Z,Z,Z,Z,Z,Z,Z,Z,Z,Y⟩ ⟨Z,Y⟩ fun i hi t h=>?_;apply iW<;>intro g1
  ·obtain rfl | rfl:i=0\/i=1:=by omega
   ·refine⟨⟨by simp,by simp⟩,[aw a],rfl,?_⟩;rcases a with _ | ⟨p,r⟩
    ·exact⟨wO (by omega),1,_,au.refl _ _,by omega,by omega,⟨Z,Z,Z,Z,Z,Z,Z,Z,Z,Y⟩,⟨Z,Y⟩⟩
    obtain⟨I,V,Lm⟩:=Reg.nu p r;simp at la;apply iW<;>intro O
    ·exact⟨(hb p),(idx (i:=0) rfl rfl),⟨by simp,by simp;omega⟩,(hb I),(idx (show (((p::r).map hb).length:Int)-1=((r.length:Nat):Int) by simp) V),(hb p),(idx (i:=0) rfl rfl),⟨by simp,by simp;omega⟩,(hb I),(idx (show (((p::r).map hb).length:Int)-1=((r.length:Nat):Int) by simp) V),wO (by omega),1,_,au.refl _ _,by omega,by omega,⟨rfl,rfl,rfl,rfl,a8 (show min p.y0 p.y0=p.y0 by omega),a8 (show max I.y1 I.y1=c9 (p::r) by omega),Z,Z,Z,Y⟩,⟨Z,Y⟩⟩
    simp at O
   refine⟨⟨by simp,by simp⟩,[aw b],rfl,?_⟩;rcases b with _ | ⟨q,u⟩
   ·refine⟨wO (by omega),2,_,au.refl _ _,?_⟩;have e1:st a [] 1=st a [] 2:=by
     rcases a with _ | ⟨p,r⟩
     ·simp at hn
     rfl
    exact⟨by omega,by omega,⟨rfl,rfl,rfl,rfl,a8 (by rw[e1]),a8 (by rw[e1]),Z,Z,Z,Y⟩,⟨Z,Y⟩⟩
   obtain⟨I,V,Lm⟩:=Reg.nu q u;simp at lb;apply iW<;>intro O
   ·rcases a with _ | ⟨p,r⟩
    ·exact⟨(hb q),(idx (i:=0) rfl rfl),⟨by simp,by simp;omega⟩,(hb I),(idx (show (((q::u).map hb).length:Int)-1=((u.length:Nat):Int) by simp) V),(hb q),(idx (i:=0) rfl rfl),⟨by simp,by simp;omega⟩,(hb I),(idx (show (((q::u).map hb).length:Int)-1=((u.length:Nat):Int) by simp) V),wO (by omega),2,_,au.refl _ _,by omega,by omega,⟨rfl,rfl,rfl,rfl,a8 (show min q.y0 q.y0=q.y0 by omega),a8 (show max I.y1 I.y1=c9 (q::u) by omega),Z,Z,Z,Y⟩,⟨Z,Y⟩⟩
    exact⟨(hb q),(idx (i:=0) rfl rfl),⟨by simp,by simp;omega⟩,(hb I),(idx (show (((q::u).map hb).length:Int)-1=((u.length:Nat):Int) by simp) V),wO (by omega),2,_,au.refl _ _,by omega,by omega,⟨rfl,rfl,rfl,rfl,rfl,a8 (show max (c9 (p::r)) I.y1=max (c9 (p::r)) (c9 (q::u)) by rw[Lm]),Z,Z,Z,Y⟩,⟨Z,Y⟩⟩
   simp at O
  have e:i=2:=by omega
  subst e;have Ik:=Reg.Nc ka kb hn;have Il:=Reg.Nd ka kb hn;have e2:ik N a b=dI N (p9 a b-p8 a b).toNat a b (p8 a b) (p9 a b) []:=by rw[ik,aaa hn]
  rw[e2];obtain⟨lo,y8⟩:∃lo,lo=p8 a b:=⟨_,rfl⟩;obtain⟨e,GQ⟩:∃e,e=p9 a b:=⟨_,rfl⟩;rw[<-y8]at Ik;rw[<-GQ]at Il;rw[<-y8,<-GQ];have hR:∃R,R=dI N (e-lo).toNat a b lo e []:=⟨_,rfl⟩;obtain⟨R,hR⟩:=hR;rw[<-hR];refine aJ (fun x:Nat×List an×List an×Int×List an=>(e-x.2.2.2.1).toNat<=x.1/\dI N x.1 x.2.1 x.2.2.1 x.2.2.2.1 e x.2.2.2.2=R/\bE x.2.1/\bE x.2.2.1/\bE x.2.2.2.2/\(∀t∈x.2.2.2.2,t.y1<=x.2.2.2.1)/\cv 2000000 x.2.1/\cv 2000000 x.2.2.1/\cv 2000000 x.2.2.2.2/\-2000000<=x.2.2.2.1)
   (fun x=>[(0,.p (aw x.2.1)),(1,.p (aw x.2.2.1)),(2,.p (vA F)),(7,.ow 7),(8,.p (i64 x.2.2.2.1)),(9,.p (i64 e))]) (fun x=>[(7,.row 128 (x.2.2.2.2.map hb))]) (fun x=>x.1) ((e-lo).toNat,a,b,lo,[]) _
   (au.dk hC _ 7 128 _ (by decide) rfl rfl (by decide)) ⟨aam _,hR.symm,ha,hb',trivial,fun t ht=>(by cases ht),ka,kb,fun t ht=>(by cases ht),Ik⟩ ⟨rfl,rfl,rfl,rfl,a8 y8.symm,a8 GQ.symm,trivial⟩ ⟨Z,Y⟩ fun ⟨n,z,D,y,out⟩ hi t h=>?_
  obtain⟨i1,i2,i3,i4,i5,i6,i7,i8,i9,i10⟩:=hi;simp only at i1 i2 i3 i4 i5 i6 i7 i8 i9 i10;have Zm:=Reg.ahe i3 (by omega) i7;have Zn:=Reg.ahe i4 (by omega) i8;have U_:=Reg.ahe i5 (by omega) i9;have Va:=Reg.kT i5 (by omega) i9;apply iW<;>intro O<;>try simp only[zB]at O
  ·obtain⟨m,rfl⟩:∃m,n=m+1:=⟨n-1,by omega⟩;obtain⟨W,L,Au,hL,j1,j2,j3,j4,j5,j6,j7,j8,j9,Vb,Vc,Vd,Ve,Vf⟩:=Reg.EP h0 O i3 i4 i5 i6 i7 i8 i9 i10 Il;rw[dI,aap O,<-Au,<-hL]at i2;refine p7 (fun _:Unit=>True) (fun _=>[(0,.p (aw (aq y z))),(1,.p (aw D)),(2,.p (vA F)),(7,.ow 7),(8,.p (i64 y)),(9,.p (i64 e))]) (fun _=>[(7,.row 128 (out.map hb))]) (fun _ _ t h=>?_) ?_;rotate_left
   ·refine aJ (fun s:List an=>aq y s=aq y z/\(s.length:Int)<=4000000) (fun s=>[(0,.p (aw s)),(1,.p (aw D)),(2,.p (vA F)),(7,.ow 7),(8,.p (i64 y)),(9,.p (i64 e))]) (fun _=>[(7,.row 128 (out.map hb))]) (fun s=>s.length) z _ (au.refl _ _) ⟨rfl,by omega⟩ ⟨Z,Z,Z,Z,Z,Z,Y⟩ ⟨Z,Y⟩ fun s hs t h=>?_;obtain⟨J,s2⟩:=hs;rcases s with _ | ⟨c,s⟩
    ·rw[<-J];exact⟨(),trivial,⟨Z,Z,Z,Z,Z,Z,Y⟩,⟨Z,Y⟩⟩
    simp at s2;apply iW<;>intro d1
    ·refine⟨(hb c),(idx (i:=0) rfl rfl),iW ?_ ?_⟩<;>intro d2
     ·refine⟨⟨by simp,(by first | omega | (simp;done) | (simp;omega)),(by first | omega | (simp;done) | (simp;omega)),ry⟩,s,_,au.refl _ _,?_⟩;rw[aq,aap d2]at J;exact⟨⟨J,by omega⟩,by simp,⟨bL (hb c) _,Z,Z,Z,Z,Z,Y⟩,⟨Z,Y⟩⟩
     rw[aq,aaa d2]at J;rw[<-J];exact⟨(),trivial,⟨Z,Z,Z,Z,Z,Z,Y⟩,⟨Z,Y⟩⟩
    simp at d1
   refine p7 (fun _:Unit=>True) (fun _=>[(0,.p (aw (aq y z))),(1,.p (aw (aq y D))),(2,.p (vA F)),(7,.ow 7),(8,.p (i64 y)),(9,.p (i64 e))]) (fun _=>[(7,.row 128 (out.map hb))]) (fun _ _ t h=>?_) ?_;rotate_left
   ·refine aJ (fun s:List an=>aq y s=aq y D/\(s.length:Int)<=4000000) (fun s=>[(0,.p (aw (aq y z))),(1,.p (aw s)),(2,.p (vA F)),(7,.ow 7),(8,.p (i64 y)),(9,.p (i64 e))]) (fun _=>[(7,.row 128 (out.map hb))]) (fun s=>s.length) D _ (au.refl _ _) ⟨rfl,by omega⟩ ⟨Z,Z,Z,Z,Z,Z,Y⟩ ⟨Z,Y⟩ fun s hs t h=>?_;obtain⟨J,s2⟩:=hs;rcases s with _ | ⟨c,s⟩
    ·rw[<-J];exact⟨(),trivial,⟨Z,Z,Z,Z,Z,Z,Y⟩,⟨Z,Y⟩⟩
    simp at s2;apply iW<;>intro d1
    ·refine⟨(hb c),(idx (i:=0) rfl rfl),iW ?_ ?_⟩<;>intro d2
     ·refine⟨⟨by simp,(by first | omega | (simp;done) | (simp;omega)),(by first | omega | (simp;done) | (simp;omega)),ry⟩,s,_,au.refl _ _,?_⟩;rw[aq,aap d2]at J;exact⟨⟨J,by omega⟩,by simp,⟨rfl,bL (hb c) _,Z,Z,Z,Z,Y⟩,⟨Z,Y⟩⟩
     rw[aq,aaa d2]at J;rw[<-J];exact⟨(),trivial,⟨Z,Z,Z,Z,Z,Z,Y⟩,⟨Z,Y⟩⟩
    simp at d1
   have q1:=Reg.iY Vc (by omega) Ve;have q2:=Reg.iY Vd (by omega) Vf;have q3:=Reg.fN (eI (aq y z) y e).1;have q4:=Reg.fN (eI (aq y D) y e).1;have hp:af C 88 [.row 128 (out.map hb),.pv (.ag [i64 y,i64 (min (eI (aq y z) y e).2 (eI (aq y D) y e).2),ints (eo N (bw (eI (aq y z) y e).1) (bw (eI (aq y D) y e).1))])] (.own 128 ((cA out ⟨y,W,pairUp L⟩).map hb)) [.gone]:=by
    rw[<-Au,<-hL,show [i64 y,i64 W,ints L]=hb ⟨y,W,pairUp L⟩ by rw[hb,aim,j3]];exact oZ out ⟨y,W,pairUp L⟩ j1 (by omega) (fun t ht=>by have:=Va t ht;omega)
   exact⟨_,_,(om (aq y z) y e),_,_,(om (aq y D) y e),_,_,(hl (bw (eI (aq y z) y e).1) (bw (eI (aq y D) y e).1) (by omega)),_,_,hp,(m,aq y z,aq y D,W,cA out ⟨y,W,pairUp L⟩),_,au.refl _ _,⟨by simp only;omega,i2,j4,j5,j8,j9,j6,j7,Vb,by simp only;omega⟩,by simp only;omega,⟨rfl,rfl,rfl,rfl,a8 Au.symm,Z,Y⟩,⟨Z,Y⟩⟩
  have e3:dI N n z D y e out=out:=by
   cases n with
   | zero=>rfl
   | succ n=>rw[dI,aaa O]
  rw[e3]at i2;refine⟨?_,trivial⟩;rw[<-i2];rfl
open Reg (IV bK gw aeD g_ told dJ a_ coreS ahD Full RK)
theorem iJ(a b:List an)(D:bE a)(z:bE b)(I:cv 2000000 a)(J:cv 2000000 b):af C 78 [.pv (aw a),.pv (aw b)] (.p (aw (bN a b))) []:=by
 refine fW hC Tryz.func78 rfl (by kernel_rfl) fun _=>?_;refine⟨_,_,(aer .less a b D z I J),?_,trivial⟩;rfl
theorem IX{b:an}(h:IV b):∃u,flat b.xs=aeD b::(bw b.xs).getD 1 0::u/\(flat b.xs)[(flat b.xs).length-1]?=some (g_ b):=by
 have z:=h.ne;unfold aeD g_;rw[aim];cases hx:b.xs with
 | nil=>exact absurd hx z
 | cons p u=>
  refine⟨bw u,rfl,?_⟩;rw[<-ad3];cases hl:(bw (p::u)).getLast? with
  | none=>rw[abe]at hl;cases hl
  | some c=>rfl
theorem uk(s:List an)(D:bE s)(ks:cv 2000000 s)(W:s≠[]):af C 157 [.pv (aw s)] (.p (.ag (rc (bK s)))) []:=by
 refine uX ⟨[5],[],[],[],[(5,[true,true,true,true,true,true,true,true,true,true,false,true,false,false,true,false,false,true,true,false,true,true])],[]⟩ hC Tryz.func157 rfl (by kernel_rfl) fun _=>?_;have ls:=Reg.ahe D (by omega) ks;have L:=ai s hb;rcases s with _ | ⟨b,s⟩
 ·exact absurd rfl W
 obtain⟨u,N,hl⟩:=IX D.head;obtain⟨O,Aj,Lm⟩:=Reg.nu b s;obtain⟨z,R⟩:∃z:ae,z=⟨aeD b,b.y0,(bw b.xs).getD 1 0,O.y1⟩:=⟨_,rfl⟩;have hA:bK (b::s)=(b::s).foldl gw z:=by rw[R,Lm];rfl
 simp at ls;have Wo:(b::s).length<=4000000:=by simp;omega
 have g0:(flat b.xs)[0]?=some (aeD b):=by rw[N];rfl
 have g1:(flat b.xs)[1]?=some ((bw b.xs).getD 1 0):=by rw[N];rfl
 refine⟨(hb b),(idx (i:=0) rfl rfl),[i64 (aeD b)],(idx (i:=0) rfl g0),(hb b),(idx (i:=0) rfl rfl),(hb b),(idx (i:=0) rfl rfl),[i64 ((bw b.xs).getD 1 0)],(idx (i:=1) rfl g1),⟨by simp,by simp;omega⟩,(hb O),(idx (show (((b::s).map hb).length:Int)-1=((s.length:Nat):Int) by simp) Aj),?_⟩;refine aJ (fun i:Nat=>i<=(b::s).length) (fun i=>[(2,.bx 2 0),(3,.bx 3 0),(30,.p (aw (b::s))),(31,.p (i64 ((b::s).map hb).length)),(32,.p (i64 i))]) (fun i=>[(2,.box [.p (i64 0),.p (i64 0),.p (i64 0),.p (i64 0)]),(3,.box [.p (i64 (((b::s).take i).foldl gw z).x0),.p (i64 (((b::s).take i).foldl gw z).y0),.p (i64 (((b::s).take i).foldl gw z).x1),.p (i64 (((b::s).take i).foldl gw z).y1)])]) (fun i=>(b::s).length-i) 0 _ (au.refl _ _) (aaj _) ⟨Z,Z,Z,Z,Z,Y⟩ ⟨rfl,by rw[R];rfl,trivial⟩ fun i hi t h=>?_;apply iW<;>intro U
 ·rw[L]at U;obtain⟨c,I⟩:=ak (l:=b::s) (i:=i) (by omega);have cb:=D.mem c (aad I);obtain⟨u',V,J1⟩:=IX cb;have lx:=Reg.kT D (by omega) ks c (aad I);have fl:=eY c.xs;have J:=ai (flat c.xs) fun n=>[i64 n];have fne:1<=(flat c.xs).length:=by rw[V];simp
  have g3:(flat c.xs)[0]?=some (aeD c):=by rw[V];rfl
  have e1:((b::s).take (i+1)).foldl gw z=gw (((b::s).take i).foldl gw z) c:=by rw[aZ I,abZ];rfl
  generalize ((b::s).take i).foldl gw z=acc at *;refine⟨(hb c),(idx rfl I),?_⟩;refine xp 5 (y:=.ip (hb c)) (fz:=[(5,.jd (hb c))]) (by exact hC) (by exact⟨rfl,rfl⟩) ?_;refine⟨[i64 (aeD c)],(idx (i:=0) rfl g3),⟨by rw[J];omega,by rw[J];omega⟩,[i64 (g_ c)],(idx (show (((flat c.xs).map fun n=>[i64 n]).length:Int)-1=(((flat c.xs).length-1:Nat):Int) by rw[J];omega) J1),wO (by omega),(i+1),_,au.refl _ _,?_⟩;rw[e1];exact⟨by omega,by omega,⟨Z,Z,Z,Z,Z,Y⟩,⟨Z,Z,Y⟩⟩
 rw[L]at U;refine⟨?_,trivial⟩;rw[adW (by omega),<-hA];rfl
theorem Kx{s:List an}{i:Nat}{b:an}(h:s[i]?=some b):(told (s.take (i+1))).length=(told (s.take i)).length+b.xs.length:=by
 rw[jM h,acv,aej]
theorem Hg(s:List an)(hN:s.length<=1000000000000)(hX:∀t∈s,t.xs.length<=1000000000000)(hT:(told s).length<=4398046511104):af C 90 [.pv (aw s)] (.p (i64 (told s).length)) []:=by
 refine fW hC Tryz.func90 rfl (by kernel_rfl) fun _=>?_;have z:=ai s hb;have J:∀i,(told (s.take i)).length<=(told s).length:=fun i=>by
  have e:told s=told (s.take i)++told (s.drop i):=by
   unfold told;rw[<-acp,aaU]
  rw[e,acv];omega
 refine aJ (fun i:Nat=>i<=s.length) (fun i=>[(3,.p (i64 (told (s.take i)).length)),(6,.p (aw s)),(7,.p (i64 (s.map hb).length)),(8,.p (i64 i))]) (fun i=>[]) (fun i=>s.length-i) 0 _ (au.refl _ _) (aaj _) ⟨Z,Z,Z,Z,Y⟩ trivial fun i hi t h=>?_;apply iW<;>intro D
 ·rw[z]at D;obtain⟨c,I⟩:=ak (l:=s) (i:=i) (by omega);have L:=eY c.xs;have N:=ai (flat c.xs) fun n=>[i64 n];have e1:=Kx I;have t1:=J (i+1);have q:((((flat c.xs).map fun n=>[i64 n]).length:Nat):Int).tdiv 2=(c.xs.length:Int):=by
   rw[N,L,aco (by omega)];omega
  exact⟨(hb c),(idx rfl I),by decide,⟨by rw[q];omega,by rw[q];omega⟩,⟨by rw[q];omega,by rw[q];omega⟩,wO (by omega),(i+1),_,au.refl _ _,by omega,by omega,⟨a8 (by rw[q,e1];omega),Z,Z,Z,Y⟩,trivial⟩
 rw[z]at D;refine⟨?_,trivial⟩;rw[adW (by omega)]
theorem y9:∀{l:List Int} {c hi:Int},Reg.bF (c::l)->(∀x∈c::l,x<=hi)->(l.length:Int)<=hi-c
 | [],c,hi,_,h=>by have:=h c (by simp);simp only[acs];omega
 | d::l,c,hi,hr,h=>by
  have ih:=y9 (l:=l) (c:=d) (hi:=hi) hr.tail (fun x z=>h x (by simp at z ⊢;exact .inr z));have h1:=hr.behind d (by simp);simp only[aaB];omega
theorem kG(l:List ae)(K:Int)(N:0<=K)(h1:K<=2000000)(D:∀r∈l,Full r)(hk:∀r∈l,RK K r)(O:l.length<=4398046511104):af C 34 [.pv (aj l)] (.own 128 ((Reg.aB l).map hb)) []:=by
 refine uc l (fun r z=>?_) O ?_ (fun y=>?_)
 ·have a:=hk r z;have b:=D r z;unfold RK at a;unfold Full at b;exact⟨⟨by omega,by omega,by omega,by omega⟩,b.1,b.2⟩
 ·obtain⟨J,R⟩:=Reg.cT l;cases L:Reg.aE l with
  | nil=>simp
  | cons c u=>
   rw[L]at J;have all:∀x∈c::u,-K<=x/\x<=K:=fun x I=>by
    rw[<-L]at I;obtain⟨r,z,e⟩:=(R x).1 I;have a:=hk r z;have b:=D r z;unfold RK at a;unfold Full at b;omega
   have:=y9 J (hi:=K) (fun x I=>(all x I).2);have:=(all c (by simp)).1;simp only[aaB];omega
 have U:=(Reg.iS l y (fun r z=>(D r z).1)).1;have:=Reg.iY U N (Reg.Nb D y hk);omega
def lQ(l r d u:Int)(L:List ae)(i:Nat):List ae:=(L.take i).map (dJ l r d u)++L.drop i
theorem IY{l r d u:Int}{L:List ae}{i:Nat}{q:ae}(h:L[i]?=some q):(lQ l r d u L i)[i]?=some q:=by
 have hi:=(aao.1 h).1;have e:((L.take i).map (dJ l r d u)).length=i:=by rw[aej,aat];omega
 rw[lQ,acu (by omega),e,aab,aas,abQ,h]
theorem IZ(l r d u:Int)(L:List ae)(i:Nat):(lQ l r d u L i).length=L.length:=by
 rw[lQ,acv,aej,aat,aaN];omega
theorem I0{l r d u:Int}{L:List ae}{i:Nat}{q:ae}(h:L[i]?=some q):(lQ l r d u L i).set i (dJ l r d u q)=lQ l r d u L (i+1):=by
 have hi:=(aao.1 h).1;have e:((L.take i).map (dJ l r d u)).length=i:=by rw[aej,aat];omega
 have z:L.drop i=q::L.drop (i+1):=by
  rw[ab1 hi,(aao.1 h).2]
 rw[lQ,List.set_append_right _ _ (by omega),e,aab,z,lQ,aZ h,abE];simp
theorem pg(s:List an)(D:bE s)(ks:cv 1400000 s)(l r d u:Int)(hl:0<=l/\l<=100000)(hr:0<=r/\r<=100000)(hd:0<=d/\d<=100000)(hu:0<=u/\u<=100000):af C 80 [.pv (aw s),.pv (i64 l),.pv (i64 r),.pv (i64 d),.pv (i64 u)] (.p (aw (a_ s l r d u))) []:=by
 refine fW hC Tryz.func80 rfl (by kernel_rfl) fun _=>?_;have ls:=Reg.ahe D (by omega) ks;have O:=Reg.kT D (by omega) ks;have lt:=Reg.fj D ks;have I:=Reg.bP D;have J:=Reg.fR D ks;refine⟨_,_,(ae6 s (by omega) (fun t R=>by have:=O t R;omega) lt),?_⟩;have U:=kG ((told s).map (dJ l r d u)) 1500000 (by omega) (by omega) (fun q z=>by
  obtain⟨p,hp,rfl⟩:=adS.1 z;have:=I p hp;unfold Full at this;exact⟨by show p.x0-l<p.x1+r;omega,by show p.y0-d<p.y1+u;omega⟩) (fun q z=>by
  obtain⟨p,hp,rfl⟩:=adS.1 z;have:=J p hp;unfold RK at this;exact⟨by show -1500000<=p.x0-l;omega,by show -1500000<=p.y0-d;omega,by show p.x1+r<=1500000;omega,by show p.y1+u<=1500000;omega⟩) (by rw[aej];exact lt)
 rw[show a_ s l r d u=Reg.aB ((told s).map (dJ l r d u)) from rfl];generalize told s=L at *;have lm:=fun i=>ai (lQ l r d u L i) rc;have V:=IZ l r d u L;have W:lQ l r d u L 0=L:=by simp[lQ]
 refine aJ (fun i:Nat=>i<=L.length) (fun i=>[(1,.p (i64 l)),(2,.p (i64 r)),(3,.p (i64 d)),(4,.p (i64 u)),(11,.ow 11),(16,.ow 11),(17,.p (i64 (L.map rc).length)),(18,.p (i64 i))]) (fun i=>[(11,.row 87 ((lQ l r d u L i).map rc))]) (fun i=>L.length-i) 0 _ (au.refl _ _) (aaj _) ⟨Z,Z,Z,Z,Z,Z,Z,Z,Y⟩ ⟨by rw[W];rfl,trivial⟩ fun i hi t h=>?_;have lmi:=lm i;have mli:=V i;have lm0:=ai L rc;apply iW<;>intro g1
 ·obtain⟨q,z⟩:=ak (l:=L) (i:=i) (by omega);have a:=J q (aad z);have b:=I q (aad z);unfold RK at a;unfold Full at b;have N:=IY (l:=l) (r:=r) (d:=d) (u:=u) z;have mT:=I0 (l:=l) (r:=r) (d:=d) (u:=u) z;refine⟨wO (by omega),(rc q),(idx rfl N).2,wO (by omega),wO (by omega),wO (by omega),wO (by omega),wO (by omega),(rc q),(idx rfl N).2,wO (by omega),?_⟩;have e5:∀k:Nat,k=i->AB.row 87 (((lQ l r d u L i).map rc).set k (rc (dJ l r d u q)))=AB.row 87 ((lQ l r d u L (i+1)).map rc):=by
   intro k e;subst e;rw[<-abL,mT]
  exact⟨(i+1),_,au.refl _ _,by omega,by omega,⟨Z,Z,Z,Z,Z,Z,Z,Z,Y⟩,⟨e5 _ rfl,trivial⟩⟩
 have e:lQ l r d u L i=L.map (dJ l r d u):=by
  rw[lQ,adW (by omega),aaz (by omega),acw]
 rw[e];refine⟨_,_,U,?_,trivial⟩;rfl
open Reg (at')
theorem agH(s:List an)(z:bE s)(ks:cv 1000000 s)(l r d u:Int)(hl:0<=l/\l<=100000)(I:0<=r/\r<=100000)(J:0<=d/\d<=100000)(L:0<=u/\u<=100000)(hn:l+r+d+u<=199999):af C 79 [.pv (aw s),.pv (i64 l),.pv (i64 r),.pv (i64 d),.pv (i64 u)] (.p (aw (coreS s l r d u))) []:=by
 refine fW hC Tryz.func79 rfl (by kernel_rfl) fun _=>?_;have R:=ai s hb;apply iW<;>intro N
 ·rw[R]at N;have e:s=[]:=adl (by omega);refine⟨?_,trivial⟩;rw[coreS,aap e];rfl
 rw[R]at N;have O:s≠[]:=fun e=>N (by rw[e];rfl);rw[coreS,aaa O];obtain⟨U,a2,a3⟩:=Reg.ui z O;have V:=a3 _ ks;have aN:∀q∈[dJ (l+r+d+u+1) (l+r+d+u+1) (l+r+d+u+1) (l+r+d+u+1) (bK s)],Full q:=fun q D=>by
  rw[ab_]at D;subst D;unfold Full at U;exact⟨by show (bK s).x0-(l+r+d+u+1)<(bK s).x1+(l+r+d+u+1);omega,by show (bK s).y0-(l+r+d+u+1)<(bK s).y1+(l+r+d+u+1);omega⟩
 have W:∀q∈[dJ (l+r+d+u+1) (l+r+d+u+1) (l+r+d+u+1) (l+r+d+u+1) (bK s)],RK 1200000 q:=fun q D=>by
  rw[ab_]at D;subst D;unfold RK at V;exact⟨by show -1200000<=(bK s).x0-(l+r+d+u+1);omega,by show -1200000<=(bK s).y0-(l+r+d+u+1);omega,by show (bK s).x1+(l+r+d+u+1)<=1200000;omega,by show (bK s).y1+(l+r+d+u+1)<=1200000;omega⟩
 obtain⟨Y,b2,b3⟩:=Reg.aR aN;have Z:=b3 _ W;obtain⟨c1,c2,c3⟩:=Reg.b6 Y z;have c4:=c3 1200000 Z (ks.up (by omega));obtain⟨d1,d2,d3⟩:=Reg.bW c1 I.1 hl.1 L.1 J.1;have d4:=(d3 1200000 100000 c4 I.2 hl.2 L.2 J.2).up (B:=2000000) (by omega);have so:=kG _ 1200000 (by omega) (by omega) aN W (by simp);have q1:=iJ _ s Y z (Z.up (by omega)) (ks.up (by omega));have q2:=pg _ c1 (c4.up (by omega)) r l u d I hl L J;have q3:=iJ s _ z d1 (ks.up (by omega)) d4;unfold RK at V;unfold Full at U;refine⟨_,_,(uk s z (ks.up (by omega)) O),wO (by omega),wO (by omega),wO (by omega),wO (by omega),wO (by omega),wO (by omega),wO (by omega),wO (by omega),_,_,so,_,_,q1,_,_,q2,_,_,q3,?_,trivial⟩;rfl
theorem Dd{a b:List an}(U:bE a)(z:bE b){K:Int}(V:cv K b)(h:∀x y,at' a x y=true->at' b x y=true):cv K a:=fun t I=>by
 have bt:=U.mem t I;have lt:=bt.lt;have pin:∀x y,at' b x y=true->-K<=x/\x<K/\-K<=y/\y<K:=fun x y J=>by
  rw[<-Reg.iy z,aci]at J;obtain⟨q,D,W⟩:=J;obtain⟨L,N,O,R⟩:=Reg.aQ.1 W;obtain⟨g1,g2,g3,g4⟩:=Reg.fR z V q D;exact⟨by omega,by omega,by omega,by omega⟩
 have pt:∀p∈t.xs,∀x y,p.1<=x->x<p.2->t.y0<=y->y<t.y1->at' b x y=true:=fun p hp x y L N O R=>h x y (Reg.qB.2 ⟨t,I,O,R,(Reg.cu bt.can x).2 ⟨p,hp,L,N⟩⟩);obtain⟨p,u,e⟩:∃p u,t.xs=p::u:=by
  cases hx:t.xs with
  | nil=>exact absurd hx bt.ne
  | cons p u=>exact⟨p,u,rfl⟩
 have pm:p∈t.xs:=by rw[e];simp
 have pl:=Reg.ahL bt.can p pm;have Y:=pin p.1 t.y0 (pt p pm _ _ (by omega) (by omega) (by omega) (by omega));have c2:=pin p.1 (t.y1-1) (pt p pm _ _ (by omega) (by omega) (by omega) (by omega));refine⟨Y.2.2.1,by omega,fun q D=>?_⟩;have ql:=Reg.ahL bt.can q D;have d1:=pin q.1 t.y0 (pt q D _ _ (by omega) (by omega) (by omega) (by omega));have d2:=pin (q.2-1) t.y0 (pt q D _ _ (by omega) (by omega) (by omega) (by omega));omega
theorem I1{a b:List an}(D:bE a)(z:bE b){K:Int}(I:cv K a):cv K (bN a b):=by
 obtain⟨J,L,_⟩:=Reg.b6 D z;refine Dd J D I fun x y h=>?_;rw[L,aaZ]at h;exact h.1
theorem afY(s:List an)(z:bE s)(ks:cv 1000000 s)(w:Int)(h0:0<=w)(hw:w<=100000):af C 33 [.pv (aw s),.pv (i64 w)] (.p (aw (ahD s w))) []:=by
 refine fW hC Tryz.func33 rfl (by kernel_rfl) fun _=>?_;apply iW<;>intro I
 ·refine⟨?_,trivial⟩;rw[ahD,aap I];rfl
 rw[ahD,aaa I];obtain⟨D,J,c3⟩:=Reg.pe z (l:=0) (r:=w-1) (d:=0) (u:=w-1) (by omega) (by omega) (by omega) (by omega);have kc:cv 1000000 (coreS s 0 (w-1) 0 (w-1)):=Dd D z ks fun x y h=>(J x y).1 h x y (by omega) (by omega) (by omega) (by omega);obtain⟨L,d2,N⟩:=Reg.bW D (l:=0) (r:=w-1) (d:=0) (u:=w-1) (by omega) (by omega) (by omega) (by omega);have O:=(N 1000000 100000 kc (by omega) (by omega) (by omega) (by omega)).up (B:=2000000) (by omega);have R:=agH s z ks 0 (w-1) 0 (w-1) ⟨by omega,by omega⟩ ⟨by omega,by omega⟩ ⟨by omega,by omega⟩ ⟨by omega,by omega⟩ (by omega);have U:=pg _ D (kc.up (by omega)) 0 (w-1) 0 (w-1) ⟨by omega,by omega⟩ ⟨by omega,by omega⟩ ⟨by omega,by omega⟩ ⟨by omega,by omega⟩;have V:=iJ s _ z L (ks.up (by omega)) O;refine⟨wO (by omega),wO (by omega),_,_,R,wO (by omega),wO (by omega),_,_,U,_,_,V,?_,trivial⟩;rfl
def gx(s:List an):List ae×Int:=if 2000<(told s).length then ([],2) else (told s,0)
theorem l5(s:List an)(z:bE s)(ks:cv 1400000 s):af C 35 [.pv (aw s)] (.tu [aj (gx s).1,i64 (gx s).2]) []:=by
 refine fW hC Tryz.func35 rfl (by kernel_rfl) fun _=>?_;have ls:=Reg.ahe z (by omega) ks;have I:=Reg.kT z (by omega) ks;have lt:=Reg.fj z ks;refine⟨_,_,(Hg s (by omega) (fun t D=>by have:=I t D;omega) lt),iW ?_ ?_⟩<;>intro g0
 ·refine⟨?_,trivial⟩;rw[gx,aap (by omega)];rfl
 rw[gx,aaa (by omega)];refine⟨_,_,(ae6 s (by omega) (fun t D=>by have:=I t D;omega) lt),?_,trivial⟩;rfl
structure Nf(l:List ae):Prop where
 sok:bE (Reg.aB l)
 ink:cv 1000000 (Reg.aB l)
 at_:∀x y,at' (Reg.aB l) x y=l.any (Reg.dE x y)
 full:∀r∈l,Full r
 rk:∀r∈l,RK 1000000 r
 len:l.length<=2000
theorem ph{l:List ae}(h:Reg.aF l=0):Nf l:=by
 have z:Reg.cz l=0:=by
  unfold Reg.aF at h;by_cases z:Reg.cz l=0
  ·exact z
  rw[aaa z]at h;exact absurd h z
 obtain⟨L,I⟩:=Reg.jK z;have J:∀r∈l,Full r:=fun r D=>⟨(I r D).2.1,(I r D).2.2⟩;have hk:∀r∈l,RK 1000000 r:=fun r D=>by
  have:=(I r D).1;simp[Reg.c7,Reg.kR]at this;exact⟨by omega,by omega,by omega,by omega⟩
 obtain⟨N,O,R⟩:=Reg.aR J;exact⟨N,R _ hk,O,J,hk,L⟩
theorem BB{l:List ae}(h:Nf l):af C 34 [.pv (aj l)] (.own 128 ((Reg.aB l).map hb)) []:=kG l 1000000 (by omega) (by omega) h.full h.rk (by have:=h.len;omega)
open Reg (nM uo)
theorem Kz(a b:List an)(D:bE a)(z:bE b)(I:cv 2000000 a)(J:cv 2000000 b):af C 123 [.pv (aw a),.pv (aw b)] (.p (aw (nM a b))) []:=by
 refine fW hC Tryz.func123 rfl (by kernel_rfl) fun _=>?_;refine⟨_,_,(aer .and a b D z I J),?_,trivial⟩;rfl
theorem ES(a b:List an)(D:bE a)(z:bE b)(I:cv 2000000 a)(J:cv 2000000 b):af C 122 [.pv (aw a),.pv (aw b)] (.p (aw (uo a b))) []:=by
 refine fW hC Tryz.func122 rfl (by kernel_rfl) fun _=>?_;refine⟨_,_,(aer .or a b D z I J),?_,trivial⟩;rfl
end M
namespace Reg
structure aS where
 x:Int
 y:Int
 size:Int
 lo:Int
 hi:Int
 plated:Bool
structure fo where
 part:ByteArray
 pin:ByteArray
 layer:Int
 x:Int
 y:Int
structure fS where
 coppers:List (List ae)
 outline:List ae
 bores:List aS
 lands:List fo
def within(n lo hi:Int):Bool:=decide (lo<=n)&&decide (n<=hi)
def aa(b:aS):ae:=⟨b.x-b.size.tdiv 2,b.y-b.size.tdiv 2,b.x-b.size.tdiv 2+b.size,b.y-b.size.tdiv 2+b.size⟩
def bO(b:aS):Bool:=within b.size 1 10000&&(kR b.x&&kR b.y)
def cJ(b:aS):Bool:=bO b&&c7 (aa b)
def Q2:ae:=⟨0,0,0,0⟩
def ee(b:aS):ae×Int:=if cJ b=true then (aa b,0) else (Q2,1)
theorem bX{b:aS}(h:bO b=true):Full (aa b):=by
 simp[bO,within,kR]at h;exact⟨by simp[aa];omega,by simp[aa];omega⟩
theorem er{b:aS}(h:bO b=true):RK 1010000 (aa b):=by
 simp[bO,within,kR]at h;have h1:0<=b.size.tdiv 2/\b.size.tdiv 2<=b.size:=by
  rw[aco (by omega)];omega
 refine⟨?_,?_,?_,?_⟩<;>simp only[aa]<;>omega
theorem vC{r:ae}(h:Full r):aB [r]=[⟨r.y0,r.y1,[(r.x0,r.x1)]⟩]:=by
 have J:∀q∈[r],Full q:=fun q D=>by rw[ab_]at D;subst D;exact h
 obtain⟨L,N,_⟩:=aR J;refine iK _ _ L ?_ fun x y=>?_
 ·show bE [_];exact y7 (s:=[]) trivial ⟨h.2,by simp,Canon.cons h.1 (by simp) trivial⟩ (by simp) (by simp)
 rw[N,at_one];simp only[abK,List.any_nil,abo];rw[abb,aQ];have:=h.1;by_cases z:x<r.x0
 ·simp[bw,par,z];omega
 by_cases I:x<r.x1
 ·simp[bw,par,z,I];omega
 simp[bw,par,z,I];omega
theorem Hi{r:ae}(h:Full r):bK (aB [r])=r:=by
 rw[vC h];simp[bK,gw,aeD,g_,bw,c9]
def through(b:aS)(layer:Int):Bool:=decide (b.lo<=layer)&&decide (layer<=b.hi)
def bA(a0 a1 b0 b1:Int):Int:=max (max 0 (b0-a1+1)) (a0-b1+1)
def fT(a b:ae):Int:=max (bA a.x0 a.x1 b.x0 b.x1) (bA a.y0 a.y1 b.y0 b.y1)
def c_(n:Int):List aS->Int
 | []=>0
 | b::r=>if (ee b).2≠0 then (ee b).2 else if (within b.lo 0 (n-1)&&within b.hi b.lo (n-1))=true then c_ n r else 1
def bT(a:fS):Int:=if 500<a.bores.length then 2 else c_ a.coppers.length a.bores
theorem BC{n:Int}{l:List aS}{i:Nat}{b:aS}(h:l[i]?=some b):c_ n (l.drop i)=if (ee b).2≠0 then (ee b).2 else if (within b.lo 0 (n-1)&&within b.hi b.lo (n-1))=true then c_ n (l.drop (i+1)) else 1:=by
 have:l.drop i=b::l.drop (i+1):=by
  obtain⟨z,D⟩:=aao.1 h;rw[ab1 z,D]
 rw[this];rfl
structure qF(n:Int)(b:aS):Prop where
 ok:cJ b=true
 lo:0<=b.lo
 le:b.lo<=b.hi
 hi:b.hi<=n-1
theorem sM{n:Int}:∀{l:List aS},c_ n l=0->∀b∈l,qF n b:=by
 intro l
 induction l with
 | nil=>intro _ b hb;cases hb
 | cons c l ih=>
  intro h b hb;rw[c_]at h;by_cases z:(ee c).2≠0
  ·rw[aap z]at h;exact absurd h z
  rw[aaa z]at h;by_cases D:(within c.lo 0 (n-1)&&within c.hi c.lo (n-1))=true
  ·rw[aap D]at h;rcases adq.1 hb with e | e
   ·subst e;simp[within]at D;refine⟨?_,by omega,by omega,by omega⟩;by_cases I:cJ b=true
    ·exact I
    rw[ee,aaa I]at z;simp at z
   exact ih h b e
  rw[aaa D]at h;cases h
end Reg
namespace M
open Go.AM Go.RowKit Go.Lib
open Reg (ae aU an bw bE cv IV bN bK told dJ a_ coreS ahD Canon Full RK at' aS fo fS aa ee bO cJ through bA fT)
def bc(b:aS):List PV:=[i64 b.x,i64 b.y,i64 b.size,i64 b.lo,i64 b.hi,bool b.plated]
def lc(l:fo):List PV:=[str l.part,str l.pin,i64 l.layer,i64 l.x,i64 l.y]
theorem kx(n lo hi:Int):af C 170 [.pv (i64 n),.pv (i64 lo),.pv (i64 hi)] (.p (bool (Reg.within n lo hi))) []:=by
 refine fW hC Tryz.func170 rfl (by kernel_rfl) fun _=>?_;apply iW<;>intro h<;>(refine⟨?_,trivial⟩)<;>simp[bool,Reg.within,h]
theorem jk(b:aS)(l:Int):af C 124 [.pv (.ag (bc b)),.pv (i64 l)] (.p (bool (through b l))) []:=by
 refine fW hC Tryz.func124 rfl (by kernel_rfl) fun _=>?_;apply iW<;>intro h<;>(refine⟨?_,trivial⟩)<;>simp[bool,through,h]
theorem cF(b:aS)(h:bO b=true):af C 99 [.pv (.ag (bc b))] (.p (.ag (rc (aa b)))) []:=by
 simp[bO,Reg.within,Reg.kR]at h;have h1:0<=b.size.tdiv 2/\b.size.tdiv 2<=b.size:=by
  rw[aco (by omega)];omega
 refine fW hC Tryz.func99 rfl (by kernel_rfl) fun _=>?_;refine⟨by omega,wO (by omega),wO (by omega),by omega,wO (by omega),wO (by omega),wO (by omega),wO (by omega),?_,trivial⟩;rfl
theorem Hj(s:List an)(D:bE s)(ks:cv 2000000 s):af C 239 [.pv (aw s)] (.p (bool (decide (s=[])||Reg.c7 (bK s)))) []:=by
 refine fW hC Tryz.func239 rfl (by kernel_rfl) fun _=>?_;have z:=ai s hb;apply iW<;>intro h
 ·rw[z]at h;have e:s=[]:=adl (by omega);refine⟨?_,trivial⟩;simp[bool,e]
 rw[z]at h;have e:s≠[]:=fun e=>h (by rw[e];rfl);refine⟨_,_,(uk s D ks e),_,_,(tV (bK s)),?_,trivial⟩;simp[bool,e]
theorem AL(b:aS):af C 169 [.pv (.ag (bc b))] (.tu [.ag (rc (ee b).1),i64 (ee b).2]) []:=by
 refine fW hC Tryz.func169 rfl (by kernel_rfl) fun _=>?_;refine⟨_,_,(kx b.size 1 10000),?_⟩;have no:cJ b=false->ee b=(Reg.Q2,1):=fun h=>by rw[ee,h];rfl
 apply iW<;>intro I
 ·refine⟨?_,trivial⟩;rw[no (by simp only[cJ,bO];rw[I];rfl)];rfl
 refine⟨_,_,(rZ b.x b.y),iW ?_ ?_⟩<;>intro L
 ·refine⟨?_,trivial⟩;rw[no (by simp only[cJ,bO];rw[I,L];rfl)];rfl
 have z:bO b=true:=by simp only[bO];rw[I,L];rfl
 have J:=Reg.bX z;have hk:=Reg.er z;have N:∀q∈[aa b],Full q:=fun q D=>by rw[ab_]at D;subst D;exact J
 have O:∀q∈[aa b],RK 1010000 q:=fun q D=>by rw[ab_]at D;subst D;exact hk
 obtain⟨V,b2,W⟩:=Reg.aR N;have Y:=kG [aa b] 1010000 (by omega) (by omega) N O (by simp);have R:=Hj (Reg.aB [aa b]) V ((W _ O).up (by omega));rw[Reg.Hi J,show decide (Reg.aB [aa b]=[])=false by rw[Reg.vC J];rfl,abv]at R;refine⟨_,_,(cF b z),_,_,Y,_,_,R,iW ?_ ?_⟩<;>intro U
 ·refine⟨?_,trivial⟩;rw[no (by simp only[cJ];rw[z,U];rfl)];rfl
 have e:ee b=(aa b,0):=by rw[ee,aap (by simp only[cJ];rw[z,U];rfl)]
 refine⟨?_,trivial⟩;rw[e];rfl
theorem Nh(a b:List an)(D:bE a)(z:bE b)(I:cv 2000000 a)(J:cv 2000000 b):af C 66 [.pv (aw a),.pv (aw b)] (.p (bool (decide (bN a b=[])))) []:=by
 refine fW hC Tryz.func66 rfl (by kernel_rfl) fun _=>?_;refine⟨_,_,(iJ a b D z I J),?_,trivial⟩;simp[bool]
theorem Hk(s:List an)(I:bE s)(ks:cv 1400000 s)(n:Int)(z:0<=n)(D:n<=100000):af C 126 [.pv (aw s),.pv (i64 n)] (.p (aw (a_ s n n n n))) []:=by
 refine fW hC Tryz.func126 rfl (by kernel_rfl) fun _=>?_;refine⟨_,_,(pg s I ks n n n n ⟨z,D⟩ ⟨z,D⟩ ⟨z,D⟩ ⟨z,D⟩),?_,trivial⟩;rfl
theorem r8(z D I J:Int)(h:(-4611686018427387000<=z/\z<=4611686018427387000)/\(-4611686018427387000<=D/\D<=4611686018427387000)/\(-4611686018427387000<=I/\I<=4611686018427387000)/\(-4611686018427387000<=J/\J<=4611686018427387000)):af C 176 [.pv (i64 z),.pv (i64 D),.pv (i64 I),.pv (i64 J)] (.p (i64 (bA z D I J))) []:=by
 refine fW hC Tryz.func176 rfl (by kernel_rfl) fun _=>?_;refine⟨wO (by omega),wO (by omega),wO (by omega),wO (by omega),?_,trivial⟩;rfl
end M
end Go.Proofs.YtfloceomobknoaaGreatDoor
namespace Go.Proofs.YtfloceomobknoaaGreatDoor
open Go.RowKit Go.Shelf
theorem Zp:(Tryz.prog.info? 150).map (·.size)=some 2:=by kernel_rfl
theorem X1:liesAt Tryz.prog Tryz.prog.depth 150 (2 / Tryz.prog.cellsOf 150) 0 150 1=true:=by kernel_rfl
theorem qG(b:Nat)(w:World)(h0:w.cell? ⟨b,0,none⟩=some (.pointer (some ⟨b,0,none⟩))):
  Calls Tryz.prog 197 #[.pointer (some ⟨b,0,none⟩)] w fun e w'=>e=.returned (.tuple #[])/\w'=w:=by
 obtain⟨j,z,_⟩:=acq.1 Zp
 go_enter Tryz.func197,Tryz.ntmps197
 go_wp2
 rw[Lib.run_neq_ptr_same w _ adh z]
 go_wp2
 go_end0
 exact⟨rfl,rfl⟩
theorem pV(b:Nat)(w:World)(h0:w.cell? ⟨b,0,none⟩=some (.pointer none))(z:w.shape? b=some (150,2))(DI:w.frozen? ⟨b,0,none⟩=false):
  Calls Tryz.prog 197 #[.pointer (some ⟨b,0,none⟩)] w fun e w'=>e=.returned (.tuple #[])/\w'=w.setCell ⟨b,0,none⟩ (.pointer (some ⟨b,0,none⟩)):=by
 obtain⟨j,I,D⟩:=acq.1 Zp
 go_enter Tryz.func197,Tryz.ntmps197
 go_wp2
 rw[Lib.run_to_unsafe w ⟨b,0,none⟩ adh ad1 I (by rw[D];decide) z (Nat.zero_lt_succ 1)];simp only[Result.andThen];rw[ab4]
 go_wp2
 rw[run_callFunc_extern Tryz.func249 (by kernel_rfl) (by kernel_rfl) (by kernel_rfl) (e:=Extern.AbiNoEscape.same) (by kernel_rfl)];rw[Lib.run_noEscape];simp only[Result.andThen];rw[ab4]
 go_wp2
 rw[Lib.run_from_unsafe w ⟨b,0,none⟩ ad1 adh I z X1];simp only[Result.andThen];rw[ab4]
 go_wp2
 go_end0
 exact⟨rfl,rfl⟩
theorem KA(B b:Nat)(bs:List Value)(w:World)(h:Lib.IsBuilder 150 5 B b bs w):
  Calls Tryz.prog 197 #[.pointer (some ⟨b,0,none⟩)] w fun e w'=>e=.returned (.tuple #[])/\(Lib.BuilderAt 150 5 B b (.pointer (some ⟨b,0,none⟩)) bs w'/\Below B w w'):=by
 rcases h with h | h
 ·refine (pV b w h.cell0 h.shape h.frozen0).mono ?_;rintro e w' ⟨rfl,rfl⟩;exact⟨rfl,h.used _,(acE B w).setCell (p:=⟨b,0,none⟩) h.1 _⟩
 refine (qG b w h.cell0).mono ?_;rintro e w' ⟨rfl,rfl⟩;exact⟨rfl,h,acE B _⟩
theorem Ni:(Tryz.prog.info? 5).map (fun i=>(i.zero,i.size,i.bytes))=some (some (.int .u8 0),1,1):=by kernel_rfl
theorem writeString(B b:Nat)(bs:List Value)(s:ByteArray)(w:World)(h:Lib.IsBuilder 150 5 B b bs w)(hlen:bs.length+s.size<=140737488355328)(Wp:B<=w.heap.size):
  Calls Tryz.prog 117 #[.pointer (some ⟨b,0,none⟩),.string s] w fun e w'=>e=.returned (.tuple #[.int .i64 s.size,.nilIface])/\(Lib.BuilderAt 150 5 B b (.pointer (some ⟨b,0,none⟩)) (bs++Lib.strCells s) w'/\Below B w w'):=by
 obtain⟨i0,hi,OP,Vg,N⟩:=info_parts Ni
 go_enter Tryz.func117,Tryz.ntmps117
 go_wp2_with (go_at_call 197;refine (KA B b bs _ h).mono ?_)
 rintro e D ⟨rfl,h1,O⟩;obtain⟨U,v,I,hown,b8⟩:=h1;have c0:D.cell? ⟨b,0,none⟩=some (.pointer (some ⟨b,0,none⟩)):=by rw[ac0 I];rfl
 have c1:D.cell? ⟨b,1,none⟩=some v:=by rw[ac0 I];rfl
 go_wp2_with (at_builtin;refine Lib.wpList_append_own_string _ rfl _ _ 148 9 rfl B 5 i0 adg aca hi OP Vg N _ _ _ rfl hown s rfl ?c3 ?c4 ?c5 ?_)
 case c3=>unfold maxLen;omega
 case c4=>omega
 case c5=>have:=O.size;omega
 intro v' J V W _;have eF:b<D.heap.size:=by
  rcases abm b D.heap.size with h' | h'
  ·exact h'
  simp[ace h']at I
 have L:J.heap[b]?=some (.cells #[.pointer (some ⟨b,0,none⟩),v] 150 (0,0)):=by
  rw[W.block b eF (fun e=>b8 e.symm)];exact I
 have d0:J.cell? ⟨b,0,none⟩=some (.pointer (some ⟨b,0,none⟩)):=by rw[ac0 L];rfl
 have d1:J.cell? ⟨b,1,none⟩=some v:=by rw[ac0 L];rfl
 have f1:J.frozen? ⟨b,1,none⟩=false:=Lib.frozen_of_heap L 1;obtain⟨Y,Z,z,rfl⟩:∃Y Z z,v'=.slice Y Z z:=by
  rcases V.2 with⟨R,_⟩ | ⟨g,z,cur,R,_⟩
  ·exact⟨_,_,_,R⟩
  exact⟨_,_,_,R⟩
 go_wp2
 go_ret2
 refine⟨rfl,?_,?_⟩
 ·exact Lib.BuilderAt.put (T:=150) (e:=5) U L (bs':=bs++Lib.strCells s) (by simpa [Lib.strCells_length] using V) (by decide)
 exact (O.grown W (by have:=O.size;omega) (fun k hk=>(hown.lt k hk).1)).setCell (p:=⟨b,1,none⟩) U _
end Go.Proofs.YtfloceomobknoaaGreatDoor
namespace Go.Proofs.YtfloceomobknoaaGreatDoor
open Go.RowKit Go.Shelf
theorem Q3{T e:TypeId}{B b:Nat}{p:Value}{bs:List Value}{w w':World}(h:Lib.BuilderAt T e B b p bs w)(hb:Below w.heap.size w w'):Lib.BuilderAt T e B b p bs w':=by
 obtain⟨L,v,I,hown,N⟩:=h;have lt:∀k o,w.heap[k]?=some o->k<w.heap.size:=fun k o hk=>by
  rcases abm k w.heap.size with h' | h'
  ·exact h'
  simp[ace h']at hk
 refine⟨L,v,(hb.block b (lt _ _ I)).trans I,⟨hown.1,?_⟩,N⟩;rcases hown.2 with h | ⟨g,z,D,O,R,J,r⟩
 ·exact .inl h
 exact .inr ⟨g,z,D,O,R,(hb.block g (lt _ _ J)).trans J,r⟩
theorem Q4{T e:TypeId}{B b:Nat}{bs:List Value}{w w':World}(h:Lib.IsBuilder T e B b bs w)(hb:Below w.heap.size w w'):Lib.IsBuilder T e B b bs w':=
 h.elim (fun h=>.inl (Q3 h hb)) (fun h=>.inr (Q3 h hb))
theorem Nj:Builder.Extra Tryz.prog Tryz.lays156_ren where
 sizeBuilder:=by kernel_rfl
 liesBuilder:=by kernel_rfl
 t5:=acT
 a5:=acU
 z5:=acV
 v5:=acW
 infoByte:=by kernel_rfl
 cellsByte:=by kernel_rfl
 sizeByte:=by kernel_rfl
 neB5:=by decide
theorem Q5(I o c:Nat)(xs:List ByteArray)(z:ByteArray)(w:World)(D:∀(j:Nat) x,xs[j]?=some x->w.cell? ⟨I,o+j,none⟩=some (.string x))(J:I<w.heap.size)(L:xs.length<=140737488355328)(N:xs.length<=c)(hlen:(Lib.join (xs.map (·.data.toList)) z.data.toList).length<=140737488355328):
  Calls Tryz.prog 118 #[.slice (some ⟨I,o,none⟩) xs.length c,.string z] w fun e w'=>e=.returned (.string ⟨(Lib.join (xs.map (·.data.toList)) z.data.toList).toArray⟩)/\Below w.heap.size w w':=Any.strings_Join Tryz.lays156 Nj I o c xs z w D J L N hlen
theorem Q6:(Tryz.prog.info? 9).map (fun i=>(i.zero,i.size,i.bytes))=some (some (.string ⟨#[]⟩),1,16):=by kernel_rfl
def aeq(word:ByteArray)(l:List ByteArray):ByteArray:=⟨(Lib.join ((word::l).map (·.data.toList)) [32]).toArray⟩++⟨#[10]⟩
theorem line(B b:Nat)(bs:List Value)(z:ByteArray)(l:List ByteArray)(U c:Nat)(w:World)(h:Lib.IsBuilder 150 5 B b bs w)(Wp:B<=w.heap.size)
  (N:∀(j:Nat) x,l[j]?=some x->w.cell? ⟨U,j,none⟩=some (.string x)) (hN:l.length<=1000000)
  (hlen:bs.length+(Lib.join ((z::l).map (·.data.toList)) [32]).length<=1000000000):
  Calls Tryz.prog 116 #[.string z,.slice (some ⟨U,0,none⟩) l.length c,.pointer (some ⟨b,0,none⟩)] w fun e w'=>e=.returned (.tuple #[])/\(Lib.BuilderAt 150 5 B b (.pointer (some ⟨b,0,none⟩)) (bs++Lib.strCells (aeq z l)) w'/\Below B w w'):=by
 obtain⟨i,hi,hz,hs,hb⟩:=info_parts Q6;obtain⟨O,W⟩:∃O:ByteArray,O=⟨(Lib.join ((z::l).map (·.data.toList)) [32]).toArray⟩:=⟨_,rfl⟩;have zz:O.size=(Lib.join ((z::l).map (·.data.toList)) [32]).length:=by rw[W];simp[ByteArray.size]
 have nz:¬9223372036854775807<O.size+1:=by omega
 have V:bs.length+(O++⟨#[10]⟩).size<=140737488355328:=by
  rw[ByteArray.size_append,zz,show (⟨#[10]⟩:ByteArray).size=1 from rfl];omega
 have HS:=aea V;have e1:aeq z l=O++⟨#[10]⟩:=by rw[aeq,W]
 rw[e1];have hl:=aea hlen;have HJ:=aea W;clear hlen W zz V e1
 go_enter Tryz.func116,Tryz.ntmps116
 have Y:Below w.heap.size w (w.alloc (.cells #[.string z] 9)):=(acE _ w).alloc (aam _) _
 go_wp2_with (at_builtin;refine wpList_append_own _ rfl _ _ 49 rfl w.heap.size 9 i _ 1 16 adf hi hz hs hb rfl (by decide) _ 1 [.string z] rfl ?o1 ⟨U,0,none⟩ l.length c (l.map .string) rfl (by rw[aej,acP]) ?o2 ?o3 ?o4 ?o5 ?o6 ?_)
 case o1=>exact⟨rfl,.inr ⟨w.heap.size,1,#[.string z],rfl,aam _,heap_alloc_new w _,aam _,by decide,rfl,rfl⟩⟩
 case o2=>
  intro j u hj;rw[aak,acq]at hj;obtain⟨x,hx,rfl⟩:=hj;have hc:=N j x hx;have:=(Y.cell (p:=⟨U,j,none⟩) (World.block_lt_of_cell? _ _ hc)).trans hc;rw[show (⟨U,0,none⟩:Addr).add j=⟨U,j,none⟩ by simp[Addr.add];omega];exact this
 case o3=>
  intro u hu;obtain⟨x,_,rfl⟩:=adS.1 hu;rfl
 case o4=>unfold maxLen;omega
 case o5=>omega
 case o6=>exact Y.size
 intro v' L hown oo _;have Z:Below w.heap.size w L:=Y.grown oo Y.size (fun k hk=>by
  simp only[Value.ownBlock,Option.some.injEq]at hk;exact aay hk)
 obtain⟨g,D,I,rfl,hg,hh,Cs,_,_,T2⟩:∃g D I,v'=.slice (some ⟨g,0,none⟩) (1+l.length) D/\w.heap.size<=g/\L.heap[g]?=some (.cells I 9 (0,0))/\1+l.length<=D/\D<=maxLen/\I.size=D*1/\I.toList.take ((1+l.length)*1)=[.string z]++l.map .string:=by
  rcases hown.2 with⟨_,h0⟩ | h
  ·omega
  exact h
 have X2:g<L.heap.size:=by
  rcases abm g L.heap.size with h' | h'
  ·exact h'
  simp[ace h']at hh
 have R:∀(j:Nat) x,(z::l)[j]?=some x->L.cell? ⟨g,0+j,none⟩=some (.string x):=fun j x hx=>by
  rw[abC,ac0 hh];have h1:(I.toList.take ((1+l.length)*1))[j]?=some (.string x):=by
   rw[T2,show [Value.string z]++l.map Value.string=(z::l).map Value.string from rfl,aak,hx];rfl
  rw[aa7]at h1;split at h1
  ·rw[<-aek];exact h1
  cases h1
 have Jw:Lib.IsBuilder 150 5 B b bs L:=Q4 h Z;have J:=Q5 g 0 D (z::l) ⟨#[32]⟩ L R X2 (by simp;omega) (by simp;omega) (aaF (aaF (Nat.le_add_left _ bs.length) hl.out) (by omega));rw[show (z::l).length=1+l.length by simp;omega]at J;have JJ:=aea J;clear J;have JK:Hid (Calls Tryz.prog 118 #[.slice (some ⟨g,0,none⟩) (1+l.length) D,.string ⟨#[32]⟩] L fun e w'=>e=.returned (.string O)/\Below L.heap.size L w'):=aea (by rw[HJ.out];exact JJ.out);clear JJ
 go_wp2_with (go_at_call 118;refine (JK.out).mono ?_;rintro e w3 ⟨rfl,b3⟩)
 refine (writeString B b bs _ w3 (Q4 Jw b3) HS.out (aaF Wp (aaF Z.size b3.size))).mono ?_;rintro e w4 ⟨rfl,h4,b4⟩
 go_wp2
 go_end0
 exact⟨rfl,h4,(Z.mono Wp).trans ((b3.mono (aaF Wp Z.size)).trans b4)⟩
end Go.Proofs.YtfloceomobknoaaGreatDoor
namespace Go.Proofs.YtfloceomobknoaaGreatDoor
open Go.RowKit Go.Shelf
open Go.AM (Fr)
section
variable {P:Program}
theorem Hl(w:World)(t u J e:TypeId)(i:TypeInfo)(N:P.underlying t=some (.slice e))(O:P.underlying u=some .string)(hi:P.info? e=some i)(U:i.zero=some (.int .u8 0))(V:i.size=1)(W:i.bytes=1)
  (v:Value) (n:Nat) (xs:List Value) (hown:w.ownsRow 0 e 1 v n xs) (s:ByteArray) (Z:n+s.size<=maxLen) (Y:n+s.size<=140737488355328):
  ∃I w',(Builtin.append_ #[t,u] J #[v,.string s]).run P w=.ok I w'/\w'.ownsRow 0 e 1 I (n+s.size) (xs++Lib.strCells s)/\w.grownBy w' v.ownBlock/\(I.ownBlock=v.ownBlock\/I.ownBlock=some w.heap.size):=by
 obtain⟨I,w',R,h2,h3,h4⟩:=Lib.run_append_own_string (P:=P) w 0 t u J e i N O hi U V W v n xs hown s Z Y (aaj _);refine⟨I,w',R,h2,h3,?_⟩;have Qr:xs.length=n:=by simpa using hown.1
 have RE:n+s.size<=9223372036854775807:=by simp only[maxLen]at Z;omega
 rcases hown.2 with⟨rfl,rfl⟩ | ⟨g,D,L,rfl,Sq,hg,Qq,WN,pN,Qu⟩
 ·by_cases hm:s.size=0
  ·rw[h4.2 ⟨rfl,hm⟩];exact .inl rfl
  have z:=run_append_nil_string (P:=P) w t u J e i (.int .u8 0) N O hi U s (by omega) (by omega) (by rw[W];omega);rw[R]at z;injection z with z;rw[z];exact .inr rfl
 by_cases Io:n+s.size<=D
 ·have aa_:L.size=D:=by simpa using pN
  have z:=Lib.run_append_room_string (P:=P) w t u J e i N O hi V g n D L hg s Io (by omega);rw[R]at z;injection z with z;rw[z];exact .inl rfl
 have holds:∀j u,xs[j]?=some u->w.cell? ((⟨g,0,none⟩:Addr).add j)=some u:=hown.cells (g:=g) rfl;have z:=Lib.run_append_grow_string (P:=P) w t u J e i (.int .u8 0) N O hi U ⟨g,0,none⟩ n D xs (by rw[V];simpa using Qr) holds s (by omega) (by omega) (by rw[W];exact growslice_fits (by omega) (by omega));rw[R]at z;injection z with z;rw[z];exact .inr rfl
theorem AN{w:World}{ops:Array Oper}{rest:List Oper}{o:Oper}{a:Act}{Q:Exit->Act->World->Prop}(D:o.guard=none)(sl x:Operand)(t u:TypeId)
  (J:o.op=.call { callee:=.builtin .append,args:=#[sl,x],argTypes:=#[t,u] }) (e:TypeId) (i:TypeInfo) (L:P.underlying t=some (.slice e)) (N:P.underlying u=some .string) (hi:P.info? e=some i) (O:i.zero=some (.int .u8 0)) (R:i.size=1) (U:i.bytes=1)
  (v:Value) (n:Nat) (xs:List Value) (V:a.eval sl=v) (hown:w.ownsRow 0 e 1 v n xs) (s:ByteArray) (W:a.eval x=.string s) (Y:n+s.size<=maxLen) (I:n+s.size<=140737488355328)
  (h:∀z w',w'.ownsRow 0 e 1 z (n+s.size) (xs++Lib.strCells s)->w.grownBy w' v.ownBlock->(z.ownBlock=v.ownBlock\/z.ownBlock=some w.heap.size)->wpList P ops Q rest (a.put o.dst z) w'):wpList P ops Q (o::rest) a w:=by
 refine wpList_plain D fun K Z=>?_;obtain⟨z,w',hr,h2,h3,h4⟩:=Hl (P:=P) w t u o.type e i L N hi O R U v n xs hown s Y I;unfold Oper.wp execOp;simp only[J,resolve,invoke,builtin,aau,aa6,ab5,List.map_toArray,aa8,ac1,V,W,hr];exact Z _ _ (h z w' h2 h3 h4)
end
structure BS(b:Nat)(bs:List Value)(u0 u1:Value)(w:World):Prop where
 heap:w.heap[b]?=some (.cells #[u0,u1] 150 (0,0))
 self:u0=.pointer none\/u0=.pointer (some ⟨b,0,none⟩)
 own:w.ownsRow 0 5 1 u1 bs.length bs
 ne:u1.ownBlock≠some b
variable {bs:List Value} {u0:Value} {w:World}
theorem BS.is{b:Nat}{u1:Value}(h:BS b bs u0 u1 w):Lib.IsBuilder 150 5 0 b bs w:=by
 rcases h.self with e | e
 ·exact .inl ⟨aaj _,u1,by rw[<-e];exact h.heap,h.own,h.ne⟩
 exact .inr ⟨aaj _,u1,by rw[<-e];exact h.heap,h.own,h.ne⟩
theorem BS.lt{b:Nat}{u1:Value}(h:BS b bs u0 u1 w):b<w.heap.size:=by
 rcases abm b w.heap.size with h' | h'
 ·exact h'
 have:=h.heap;simp[ace h']at this
theorem BS.below{b:Nat}{u1:Value}{w':World}(h:BS b bs u0 u1 w)(hb:Below w.heap.size w w'):BS b bs u0 u1 w':=by
 have lt:∀k o,w.heap[k]?=some o->k<w.heap.size:=fun k o hk=>by
  rcases abm k w.heap.size with h' | h'
  ·exact h'
  simp[ace h']at hk
 refine⟨(hb.block b h.lt).trans h.heap,h.self,⟨h.own.1,?_⟩,h.ne⟩;rcases h.own.2 with h | ⟨g,z,D,J,L,I,r⟩
 ·exact .inl h
 exact .inr ⟨g,z,D,J,L,(hb.block g (lt _ _ I)).trans I,r⟩
theorem Hm(b:Nat)(bs:List Value)(u0 u1:Value)(w:World)(h:BS b bs u0 u1 w):
  Calls Tryz.prog 197 #[.pointer (some ⟨b,0,none⟩)] w fun e w'=>e=.returned (.tuple #[])/\(BS b bs (.pointer (some ⟨b,0,none⟩)) u1 w'/\Fr (fun k=>k=b) w w'/\w'.heap.size=w.heap.size):=by
 rcases h.self with e | e
 ·have z:Lib.BuilderAt 150 5 0 b (.pointer none) bs w:=⟨aaj _,u1,by rw[<-e];exact h.heap,h.own,h.ne⟩;refine (pV b w z.cell0 z.shape z.frozen0).mono ?_;rintro e' w' ⟨rfl,rfl⟩;have D:(w.setCell ⟨b,0,none⟩ (.pointer (some ⟨b,0,none⟩))).heap.size=w.heap.size:=by simp[World.setCell]
  refine⟨rfl,⟨?_,.inr rfl,?_,h.ne⟩,⟨rfl,rfl,rfl,aay D.symm,fun k _ I=>adK _ _ _ _ I⟩,D⟩
  ·have:=h.heap;simp[World.setCell,aac,this]
  refine h.own.kept (row:=some b) ⟨rfl,rfl,rfl,by simp[World.setCell],fun k _ hk=>adK _ _ _ _ (fun e=>hk (by simp[e]))⟩ ?_;exact Or.inr h.ne
 have z:Lib.BuilderAt 150 5 0 b (.pointer (some ⟨b,0,none⟩)) bs w:=⟨aaj _,u1,by rw[<-e];exact h.heap,h.own,h.ne⟩;refine (qG b w z.cell0).mono ?_;rintro e' w' ⟨rfl,rfl⟩;exact⟨rfl,⟨by rw[<-e];exact h.heap,.inr rfl,h.own,h.ne⟩,Fr.refl _ _,rfl⟩
theorem SF(b:Nat)(bs:List Value)(u0 u1:Value)(s:ByteArray)(w:World)(h:BS b bs u0 u1 w)(hlen:bs.length+s.size<=140737488355328):
  Calls Tryz.prog 117 #[.pointer (some ⟨b,0,none⟩),.string s] w fun e w'=>e=.returned (.tuple #[.int .i64 s.size,.nilIface])/\∃V,BS b (bs++Lib.strCells s) (.pointer (some ⟨b,0,none⟩)) V w'/\Fr (fun k=>k=b\/u1.ownBlock=some k) w w'/\∀g,V.ownBlock=some g->g<w'.heap.size/\(u1.ownBlock=some g\/w.heap.size<=g):=by
 obtain⟨i0,hi,OP,Vg,hz2⟩:=info_parts Ni
 go_enter Tryz.func117,Tryz.ntmps117
 go_wp2_with (go_at_call 197;refine (Hm b bs u0 u1 _ h).mono ?_)
 rintro e R ⟨rfl,h1,Z,s1⟩;obtain⟨BD,pQ,hown,b8⟩:=h1;have c0:R.cell? ⟨b,0,none⟩=some (.pointer (some ⟨b,0,none⟩)):=by rw[ac0 BD];rfl
 have c1:R.cell? ⟨b,1,none⟩=some u1:=by rw[ac0 BD];rfl
 go_wp2_with (at_builtin;refine AN rfl _ _ 148 9 rfl 5 i0 adg aca hi OP Vg hz2 _ _ _ rfl hown s rfl ?c3 ?c4 ?_)
 case c3=>unfold maxLen;omega
 case c4=>omega
 intro v' I tx U GU;have eF:b<R.heap.size:=by
  rcases abm b R.heap.size with h' | h'
  ·exact h'
  simp[ace h']at BD
 have W:I.heap[b]?=some (.cells #[.pointer (some ⟨b,0,none⟩),u1] 150 (0,0)):=by
  rw[U.block b eF (fun e=>b8 e.symm)];exact BD
 have d0:I.cell? ⟨b,0,none⟩=some (.pointer (some ⟨b,0,none⟩)):=by rw[ac0 W];rfl
 have d1:I.cell? ⟨b,1,none⟩=some u1:=by rw[ac0 W];rfl
 have f1':I.frozen? ⟨b,1,none⟩=false:=Lib.frozen_of_heap W 1;obtain⟨J,L,D,rfl⟩:∃J L D,v'=.slice J L D:=by
  rcases tx.2 with⟨hv,_⟩ | ⟨g,D,cur,hv,_⟩
  ·exact⟨_,_,_,hv⟩
  exact⟨_,_,_,hv⟩
 have hw2:∀k,k<R.heap.size->u1.ownBlock≠some k->I.heap[k]?=R.heap[k]?:=fun k hk Y=>U.block k hk fun e=>Y e.symm;have lt2:∀g,(Value.slice J L D).ownBlock=some g->g<I.heap.size:=fun g N=>(tx.lt g N).2
 go_wp2
 go_ret2
 have put:=Lib.BuilderAt.put (T:=150) (e:=5) (aaj b) W (bs':=bs++Lib.strCells s) (by simpa [Lib.strCells_length] using tx) (by decide);obtain⟨_,v3,O,p2,p3⟩:=put;have hv3:v3=.slice J L D:=by
  have:(I.setCell ⟨b,1,none⟩ (.slice J L D)).heap[b]?=some (.cells #[.pointer (some ⟨b,0,none⟩),.slice J L D] 150 (0,0)):=by simp[World.setCell,aac,W]
  rw[this]at O;injection O with O;injection O with O;have:=adV (fun z=>z[1]?) O;simpa using this.symm
 subst hv3;have Zq:(I.setCell ⟨b,1,none⟩ (.slice J L D)).heap.size=I.heap.size:=by simp[World.setCell]
 refine⟨rfl,.slice J L D,⟨O,.inr rfl,p2,p3⟩,⟨?_,?_,?_,?_,fun k hk Y=>?_⟩,fun g N=>⟨?_,?_⟩⟩
 ·exact U.os.trans Z.os
 ·exact U.tape.trans Z.tape
 ·exact U.output.trans Z.output
 ·rw[Zq];exact aaF (aay s1.symm) U.size
 ·rw[adK _ _ _ _ (fun e=>Y (.inl e)),hw2 k (by omega) (fun e=>Y (.inr e))];exact Z.block k hk (fun e=>Y (.inl e))
 ·rw[Zq];exact lt2 g N
 rcases GU with h | h
 ·exact .inl (by rw[<-h];exact N)
 rw[h]at N;injection N with N;exact .inr (by omega)
end Go.Proofs.YtfloceomobknoaaGreatDoor
namespace Go.Proofs.YtfloceomobknoaaGreatDoor
open Go.RowKit Go.Shelf
open Go.AM (Fr)
theorem ahH(b:Nat)(bs:List Value)(u0 u1:Value)(z:ByteArray)(l:List ByteArray)(bk N c:Nat)(w:World)(h:BS b bs u0 u1 w)
  (O:∀(j:Nat) x,l[j]?=some x->w.cell? ⟨bk,N+j,none⟩=some (.string x)) (hN:l.length<=1000000)
  (hlen:bs.length+(Lib.join ((z::l).map (·.data.toList)) [32]).length<=1000000000000):
  Calls Tryz.prog 116 #[.string z,.slice (some ⟨bk,N,none⟩) l.length c,.pointer (some ⟨b,0,none⟩)] w fun e w'=>e=.returned (.tuple #[])/\∃R,BS b (bs++Lib.strCells (aeq z l)) (.pointer (some ⟨b,0,none⟩)) R w'/\Fr (fun k=>k=b\/u1.ownBlock=some k) w w'/\∀g,R.ownBlock=some g->g<w'.heap.size/\(u1.ownBlock=some g\/w.heap.size<=g):=by
 obtain⟨i,hi,hz,hs,hb⟩:=info_parts Q6;obtain⟨U,PD⟩:∃U:ByteArray,U=⟨(Lib.join ((z::l).map (·.data.toList)) [32]).toArray⟩:=⟨_,rfl⟩;have zz:U.size=(Lib.join ((z::l).map (·.data.toList)) [32]).length:=by rw[PD];simp[ByteArray.size]
 have nz:¬9223372036854775807<U.size+1:=by omega
 have Y:bs.length+(U++⟨#[10]⟩).size<=140737488355328:=by
  rw[ByteArray.size_append,zz,show (⟨#[10]⟩:ByteArray).size=1 from rfl];omega
 have HS:=aea Y;have e1:aeq z l=U++⟨#[10]⟩:=by rw[aeq,PD]
 rw[e1];have hl:=aea hlen;have HJ:=aea PD;clear hlen PD zz Y e1
 go_enter Tryz.func116,Tryz.ntmps116
 have b0:Below w.heap.size w (w.alloc (.cells #[.string z] 9)):=(acE _ w).alloc (aam _) _
 go_wp2_with (at_builtin;refine wpList_append_own _ rfl _ _ 49 rfl w.heap.size 9 i _ 1 16 adf hi hz hs hb rfl (by decide) _ 1 [.string z] rfl ?o1 ⟨bk,N,none⟩ l.length c (l.map .string) rfl (by rw[aej,acP]) ?o2 ?o3 ?o4 ?o5 ?o6 ?_)
 case o1=>exact⟨rfl,.inr ⟨w.heap.size,1,#[.string z],rfl,aam _,heap_alloc_new w _,aam _,by decide,rfl,rfl⟩⟩
 case o2=>
  intro j u hj;rw[aak,acq]at hj;obtain⟨x,hx,rfl⟩:=hj;have hc:=O j x hx;have:=(b0.cell (p:=⟨bk,N+j,none⟩) (World.block_lt_of_cell? _ _ hc)).trans hc;rw[aaJ];exact this
 case o3=>
  intro u hu;obtain⟨x,_,rfl⟩:=adS.1 hu;rfl
 case o4=>unfold maxLen;omega
 case o5=>omega
 case o6=>exact b0.size
 intro v' L hown oo _;have b2:Below w.heap.size w L:=b0.grown oo b0.size (fun k hk=>by
  simp only[Value.ownBlock,Option.some.injEq]at hk;exact aay hk)
 obtain⟨g,D,I,rfl,hg,hh,Cs,_,_,T2⟩:∃g D I,v'=.slice (some ⟨g,0,none⟩) (1+l.length) D/\w.heap.size<=g/\L.heap[g]?=some (.cells I 9 (0,0))/\1+l.length<=D/\D<=maxLen/\I.size=D*1/\I.toList.take ((1+l.length)*1)=[.string z]++l.map .string:=by
  rcases hown.2 with⟨_,h0⟩ | h
  ·omega
  exact h
 have X2:g<L.heap.size:=by
  rcases abm g L.heap.size with h' | h'
  ·exact h'
  simp[ace h']at hh
 have V:∀(j:Nat) x,(z::l)[j]?=some x->L.cell? ⟨g,0+j,none⟩=some (.string x):=fun j x hx=>by
  rw[abC,ac0 hh];have h1:(I.toList.take ((1+l.length)*1))[j]?=some (.string x):=by
   rw[T2,show [Value.string z]++l.map Value.string=(z::l).map Value.string from rfl,aak,hx];rfl
  rw[aa7]at h1;split at h1
  ·rw[<-aek];exact h1
  cases h1
 have Jw:BS b bs u0 u1 L:=h.below b2;have J:=Q5 g 0 D (z::l) ⟨#[32]⟩ L V X2 (by simp;omega) (by simp;omega) (aaF (aaF (Nat.le_add_left _ bs.length) hl.out) (by omega));rw[show (z::l).length=1+l.length by simp;omega]at J;have JJ:=aea J;clear J;have JK:Hid (Calls Tryz.prog 118 #[.slice (some ⟨g,0,none⟩) (1+l.length) D,.string ⟨#[32]⟩] L fun e w'=>e=.returned (.string U)/\Below L.heap.size L w'):=aea (by rw[HJ.out];exact JJ.out);clear JJ
 go_wp2_with (go_at_call 118;refine (JK.out).mono ?_;rintro e w3 ⟨rfl,b3⟩)
 refine (SF b bs u0 u1 _ w3 (Jw.below b3) HS.out).mono ?_;rintro e w4 ⟨rfl,R,h4,Z,g4⟩
 go_wp2
 go_end0
 have W:Below w.heap.size w w3:=b2.trans (b3.mono b2.size);refine⟨rfl,R,h4,⟨Z.os.trans W.os,Z.tape.trans W.tape,Z.output.trans W.output,aaF W.size Z.size,fun k hk hn=>(Z.block k (aaW hk W.size) hn).trans (W.block k hk)⟩,fun g hg=>⟨(g4 g hg).1,?_⟩⟩;rcases (g4 g hg).2 with h | h
 ·exact .inl h
 exact .inr (aaF W.size h)
end Go.Proofs.YtfloceomobknoaaGreatDoor
