/- Part 4 of the proof of RulesNetsMatchSpec. -/
import Derived.Test.YtliffnpbaeijgaaGreatDoorN03
import Derived.Shelf.Strings.Builder1
import Derived.Shelf.Strings.Builder2
import Derived.Shelf.Strings.OnBuilder
import Derived.Shelf.Small.Bits
import Derived.Shelf.Small.Strs
import Derived.Shelf.Strings.BuilderF
import Derived.Shelf.Utf8.RuneCount
import Derived.Shelf.Strconv.Itoa0
import Derived.Shelf.Strconv.Itoa1
import Derived.Shelf.LaysM
import Derived.Shelf.Strconv.Itoa2
import Derived.Shelf.Strconv.Itoa3
import Derived.Shelf.Strings.Search1
import Derived.Shelf.Strings.Search2
import Derived.Shelf.Strings.Search3
import Derived.Shelf.Strings.Count
import Derived.Shelf.Strings.Shaped
import Derived.Shelf.Sort.Plain
import Derived.Shelf.Strings.Split
import Derived.Shelf.Strings.SplitShaped
import Derived.Shelf.Unicode.Decode
import Derived.Shelf.Strings.RuneCount
import Derived.Shelf.Strings.Explode
import Derived.Shelf.Unicode.DecodeSlow
import Derived.Shelf.Unicode.DecodeAny
import Derived.Shelf.Slices.Equal
import Derived.Ground.Names2Prog
import Derived.Shelf.Slices.CompactI
import Derived.Shelf.Slices.SearchI
import Derived.Shelf.Slices.Cells
import Derived.Shelf.Slices.In.SortNone
import Derived.Shelf.Slices.Empties2
import Derived.Shelf.SlSortCmp.WholeK
import Derived.Shelf.SlGeneric
import Derived.Ground.SlsfProg
import Derived.Test.YtliffnpbaeijgaaGreatDoorProg
import Derived.Lib.LaidTab
import Derived.Lib.ItoaNum
set_option linter.unusedVariables false
set_option linter.unusedSimpArgs false
set_option maxRecDepth 100000
set_option maxHeartbeats 8000000
namespace Go
abbrev pq:=@Int.le_refl
abbrev u7:=@List.foldl_append
abbrev pw:=@List.pairwise_cons
abbrev pz:=@Go.Proofs.Tryz.underlying0
abbrev rq:=@Go.Proofs.Tryz.isAgg0
abbrev ru:=@Go.Proofs.Tryz.sizeOf0
abbrev rv:=@Go.Proofs.Tryz.zeroValue0
abbrev FR:=@Go.Proofs.Tryz.underlying3
abbrev tP:=@Go.Proofs.Tryz.isAgg3
abbrev tQ:=@Go.Proofs.Tryz.sizeOf3
abbrev tR:=@Go.Proofs.Tryz.zeroValue3
abbrev tS:=@Go.Proofs.Tryz.underlying4
abbrev tT:=@Go.Proofs.Tryz.isAgg4
abbrev tU:=@Go.Proofs.Tryz.sizeOf4
abbrev tV:=@Go.Proofs.Tryz.zeroValue4
abbrev tW:=@Go.Proofs.Tryz.underlying9
abbrev np:=@Go.Proofs.Tryz.isAgg9
abbrev tX:=@Go.Proofs.Tryz.sizeOf9
abbrev tY:=@Go.Proofs.Tryz.zeroValue9
abbrev tZ:=@Go.Proofs.Tryz.underlying33
abbrev wI:=@Go.Proofs.Tryz.underlying100
abbrev wJ:=@Go.Proofs.Tryz.underlying99
abbrev wK:=@Go.Proofs.Tryz.underlying196
abbrev wL:=@Go.Proofs.Tryz.underlying5
abbrev wM:=@Go.Proofs.Tryz.isAgg5
abbrev wN:=@Go.Proofs.Tryz.sizeOf5
abbrev wP:=@Go.Proofs.Tryz.zeroValue5
abbrev wQ:=@Go.Proofs.Tryz.underlying223
abbrev wR:=@Go.Proofs.Tryz.isAgg223
abbrev AY:=@Go.Proofs.Tryz.sizeOf223
abbrev AZ:=@Go.Proofs.Tryz.zeroValue223
abbrev A0:=@Go.Proofs.Tryz.underlying250
abbrev FT:=@Go.Proofs.Tryz.isAgg250
abbrev FU:=@Go.Proofs.Tryz.sizeOf250
abbrev FV:=@Go.Proofs.Tryz.zeroValue250
abbrev FW:=@Go.Proofs.Tryz.underlying232
abbrev FX:=@List.take_add_one
abbrev FY:=@Int.toNat_natCast
abbrev FZ:=@List.pairwise_iff_getElem
abbrev F0:=@Int.tdiv_eq_ediv_of_nonneg
abbrev cS:=@List.map_take
abbrev fI:=@List.map_drop
abbrev l_:=@List.drop_eq_getElem_cons
abbrev jR:=@List.drop_of_length_le
abbrev fJ:=@decide_eq_false
abbrev F1:=@Bool.and_eq_false_iff
abbrev dG:=@decide_eq_false_iff_not
abbrev nq:=@decide_eq_true
abbrev gK:=@List.length_take_le
abbrev nt:=@List.filter_append
abbrev nu:=@List.take_length
abbrev jS:=@List.getLast?_eq_getElem?
abbrev aY:=@List.getLast?_eq_some_iff
abbrev aT:=@List.flatMap_append
abbrev dc:=@List.getD_eq_getElem?_getD
abbrev wS:=@Bool.and_false
end Go
namespace Go.Proofs.YtliffnpbaeijgaaGreatDoor
namespace Reg
structure aB where
 x0:Int
 y0:Int
 x1:Int
 y1:Int
theorem aB.Ib(a b:aB):a=b↔a.x0=b.x0/\a.y0=b.y0/\a.x1=b.x1/\a.y1=b.y1:=by
 constructor
 ·rintro rfl;exact⟨rfl,rfl,rfl,rfl⟩
 obtain⟨a1,a2,a3,a4⟩:=a;obtain⟨b1,b2,b3,b4⟩:=b;rintro⟨u,z,D,I⟩;simp only at u z D I;rw[u,z,D,I]
instance:DecidableEq aB:=fun a b=>decidable_of_iff' _ (aB.Ib a b)
abbrev cw:=List (Int×Int)
def cover(s:cw)(x:Int):Prop:=∃p∈s,p.1<=x/\x<p.2
def Canon:cw->Prop
 | []=>True
 | [p]=>p.1<p.2
 | p::q::r=>p.1<p.2/\p.2<q.1/\Canon (q::r)
theorem gX(x:Int):¬cover [] x:=fun ⟨_,h,_⟩=>by cases h
theorem bQ(p:Int×Int)(s:cw)(x:Int):cover (p::s) x↔(p.1<=x/\x<p.2)\/cover s x:=by
 constructor
 ·rintro⟨q,u,h⟩;rcases L8.1 u with rfl | u
  ·exact .inl h
  exact .inr ⟨q,u,h⟩
 rintro (h | ⟨q,u,h⟩)
 ·exact⟨p,bW ..,h⟩
 exact⟨q,cD _ u,h⟩
variable {s:cw}
theorem Canon.head{p:Int×Int}(h:Canon (p::s)):p.1<p.2:=by
 cases s with
 | nil=>exact h
 | cons q r=>exact h.1
theorem Canon.tail{p:Int×Int}(h:Canon (p::s)):Canon s:=by
 cases s with
 | nil=>trivial
 | cons q r=>exact h.2.2
theorem Canon.behind{p:Int×Int}(h:Canon (p::s)):∀q∈s,p.2<q.1:=by
 induction s generalizing p with
 | nil=>intro q u;cases u
 | cons a r ih=>
  intro q u;rcases L8.1 u with rfl | u
  ·exact h.2.1
  have:=ih h.2.2 q u;have h1:=h.2.1;have h2:=Canon.head h.2.2;omega
theorem Canon.cons{p:Int×Int}(u:p.1<p.2)(z:∀q∈s,p.2<q.1)(D:Canon s):Canon (p::s):=by
 cases s with
 | nil=>exact u
 | cons a r=>exact⟨u,z a (bW ..),D⟩
theorem Canon.lH{p:Int×Int}(h:Canon (p::s)){x:Int}(hx:x<=p.2):¬cover s x:=by
 rintro⟨q,u,h1,_⟩;have:=h.behind q u;omega
theorem nv:∀(s t:cw),Canon s->Canon t->(∀x,cover s x↔cover t x)->s=t:=by
 intro s
 induction s with
 | nil=>
  intro t _ I D;cases t with
  | nil=>rfl
  | cons q t=>
   have:=I.head;exact absurd ((D q.1).2 ((bQ q t q.1).2 (.inl ⟨pq _,this⟩))) (gX _)
 | cons p s ih=>
  intro t J I D;cases t with
  | nil=>
   have:=J.head;exact absurd ((D p.1).1 ((bQ p s p.1).2 (.inl ⟨pq _,this⟩))) (gX _)
  | cons q t=>
   have hp:=J.head;have N:=I.head;have least {p:Int×Int} {s:cw} (h:Canon (p::s)) {x:Int} (z:cover (p::s) x):p.1<=x:=by
    rcases (bQ p s x).1 z with u | ⟨r,O,u,_⟩
    ·exact u.1
    have:=h.behind r O;have:=h.head;omega
   have e1:p.1=q.1:=by
    have a:=least I ((D p.1).1 ((bQ p s p.1).2 (.inl ⟨pq _,hp⟩)));have b:=least J ((D q.1).2 ((bQ q t q.1).2 (.inl ⟨pq _,N⟩)));omega
   have e2:p.2=q.2:=by
    rcases Int.lt_trichotomy p.2 q.2 with h | h | h
    ·have z:=(D p.2).2 ((bQ q t p.2).2 (.inl ⟨by omega,h⟩));rcases (bQ p s p.2).1 z with u | u
     ·omega
     exact absurd u (J.lH (pq _))
    ·exact h
    have z:=(D q.2).1 ((bQ p s q.2).2 (.inl ⟨by omega,h⟩));rcases (bQ q t q.2).1 z with u | u
    ·omega
    exact absurd u (I.lH (pq _))
   have e:p=q:=Prod.ext e1 e2;subst e;congr 1;refine ih t J.tail I.tail fun x=>?_;constructor
   ·intro z;have L:¬x<=p.2:=fun h=>J.lH h z;rcases (bQ p t x).1 ((D x).1 ((bQ p s x).2 (.inr z))) with u | u
    ·omega
    exact u
   intro z;have L:¬x<=p.2:=fun h=>I.lH h z;rcases (bQ p s x).1 ((D x).2 ((bQ p t x).2 (.inr z))) with u | u
   ·omega
   exact u
def dH:cw->Int->Int->cw
 | [],a,b=>[(a,b)]
 | [p],a,b=>if a<=p.2 then [(p.1,max p.2 b)] else [p,(a,b)]
 | p::q::r,a,b=>p::dH (q::r) a b
theorem DF(s:cw)(a b:Int)(h:Canon s)(U:a<b)(N:∀p∈s,p.1<=a):
  Canon (dH s a b)/\(∀x,cover (dH s a b) x↔cover s x\/(a<=x/\x<b))/\(∀p∈dH s a b,p.1<=a)/\(∀p∈s,∀q∈(dH s a b).head?,∀r∈s.head?,q.1=r.1)/\(∀c:Int,(∀p∈s,c<p.1)->c<a->∀p∈dH s a b,c<p.1):=by
 induction s with
 | nil=>
  refine⟨U,fun x=>?_,?_,?_,?_⟩
  ·simp[dH,bQ,gX]
  ·simp[dH]
  ·intro p hp;cases hp
  intro c _ I p hp;simp[dH]at hp;subst hp;exact I
 | cons p s ih=>
  cases s with
  | nil=>
   have hp:=h.head;have J:=N p (bW ..);simp only[dH];split
   ·rename_i hle;refine⟨by show p.1<max p.2 b;omega,fun x=>?_,?_,?_,?_⟩
    ·simp only[bQ,gX,or_false];omega
    ·intro q D;simp at D;subst D;exact J
    ·intro q _ r L t z;simp at L z;subst L z;rfl
    intro c I _ q D;simp at D;subst D;exact I p (bW ..)
   rename_i hgt;refine⟨⟨hp,by show p.2<a;omega,U⟩,fun x=>?_,?_,?_,?_⟩
   ·simp only[bQ,gX,or_false]
   ·intro q D;simp at D;rcases D with rfl | rfl
    ·exact J
    exact pq _
   ·intro q _ r L t z;simp at L z;subst L z;rfl
   intro c I R q D;simp at D;rcases D with rfl | rfl
   ·exact I q (bW ..)
   exact R
  | cons q r=>
   obtain⟨W,Y,Z,_,V⟩:=ih h.tail (fun t z=>N t (cD _ z));simp only[dH];have hb:=h.behind;have qX:=N q (by simp);have hpq:=h.2.1;refine⟨Canon.cons h.head (V p.2 hb (by omega)) W,fun x=>?_,?_,?_,?_⟩
   ·rw[bQ,Y x,bQ p];exact or_assoc.symm
   ·intro t z;rcases L8.1 z with rfl | z
    ·exact N t (bW ..)
    exact Z t z
   ·intro _ _ t z u O;simp at z O;subst z O;rfl
   intro c I R t z;rcases L8.1 z with rfl | z
   ·exact I t (bW ..)
   exact V c (fun u O=>I u (cD _ O)) R t z
def dk(l:List aB):cw:=l.foldl (fun out r=>dH out r.x0 r.x1) []
theorem ry(l:List aB)(r:aB):dk (l++[r])=dH (dk l) r.x0 r.x1:=by
 unfold dk;rw[u7];rfl
theorem DG(l:List aB)(N:l.Pairwise fun a b=>a.x0<=b.x0)(O:∀r∈l,r.x0<r.x1):
  Canon (dk l)/\(∀x,cover (dk l) x↔∃r∈l,r.x0<=x/\x<r.x1)/\(∀c:Int,(∀r∈l,r.x0<=c)->∀p∈dk l,p.1<=c):=by
 suffices H:∀n (m:List aB),m.length=n->(m.Pairwise fun a b=>a.x0<=b.x0)->(∀r∈m,r.x0<r.x1)->
   Canon (dk m)/\(∀x,cover (dk m) x↔∃r∈m,r.x0<=x/\x<r.x1)/\(∀c:Int,(∀r∈m,r.x0<=c)->∀p∈dk m,p.1<=c) from H _ l rfl N O
 intro n
 induction n with
 | zero=>
  intro m z _ _;have:m=[]:=Az z;subst this;refine⟨trivial,fun x=>?_,fun c _ p hp=>by cases hp⟩;constructor
  ·intro h;exact absurd h (gX _)
  rintro⟨r,I,_⟩;cases I
 | succ n ih=>
  intro m z J D;obtain⟨k,r,rfl⟩:∃k r,m=k++[r]:=by
   have L:m≠[]:=by intro e;rw[e]at z;cases z
   exact⟨m.dropLast,m.getLast L,(tF L).symm⟩
  rw[af]at J;obtain⟨R,U,V⟩:=ih k (by simp at z;omega) J.1 (fun t u=>D t (q_ _ u));have I:=D r (by simp);obtain⟨W,Y,f3,_,_⟩:=DF (dk k) r.x0 r.x1 R I (V r.x0 fun t u=>J.2.2 t u r (by simp));rw[ry];refine⟨W,fun x=>?_,fun c Z p hp=>?_⟩
  ·rw[Y x,U x];constructor
   ·rintro (⟨t,u,h⟩ | h)
    ·exact⟨t,q_ _ u,h⟩
    exact⟨r,by simp,h⟩
   rintro⟨t,u,h⟩;rcases fC.1 u with u | u
   ·exact .inl ⟨t,u,h⟩
   have:t=r:=by simpa using u
   subst this;exact .inr h
  have:=f3 p hp;have:=Z r (by simp);omega
def ov:cw->Int->Int->cw
 | [],a,b=>[(a,b)]
 | p::l,a,b=>if p.1<=b then ov l (min a p.1) (max b p.2) else (a,b)::p::l
def jo:cw->Int->Int->cw
 | [],a,b=>[(a,b)]
 | p::l,a,b=>if p.2<a then p::jo l a b else ov (p::l) a b
theorem F2(s:cw):∀(a b:Int),Canon s->a<b->(∀p∈s,a<=p.2)->
  Canon (ov s a b)/\(∀x,cover (ov s a b) x↔cover s x\/(a<=x/\x<b))/\(∀c:Int,(∀p∈s,c<p.1)->c<a->∀p∈ov s a b,c<p.1):=by
 induction s with
 | nil=>
  intro a b _ I _;refine⟨I,fun x=>?_,fun c _ z p hp=>?_⟩
  ·simp[ov,bQ,gX]
  simp[ov]at hp;subst hp;exact z
 | cons p l ih=>
  intro a b h I J;have hp:=h.head;have hpa:=J p (bW ..);have hb:=h.behind;simp only[ov];split
  ·rename_i hle;obtain⟨N,O,R⟩:=ih (min a p.1) (max b p.2) h.tail (by omega) (fun q u=>by have:=hb q u;have:=J q (cD _ u);omega);refine⟨N,fun x=>?_,fun c z L=>R c (fun q u=>z q (cD _ u)) (by have:=z p (bW ..);omega)⟩;rw[O x,bQ];constructor
   ·rintro (D | D)
    ·exact .inl (.inr D)
    by_cases U:p.1<=x/\x<p.2
    ·exact .inl (.inl U)
    exact .inr (by omega)
   rintro ((D | D) | D)
   ·exact .inr (by omega)
   ·exact .inl D
   exact .inr (by omega)
  rename_i hgt;refine⟨⟨I,by show b<p.1;omega,h⟩,fun x=>?_,fun c z L q u=>?_⟩
  ·rw[bQ];exact or_comm
  rcases L8.1 u with rfl | u
  ·exact L
  exact z q u
theorem Canon.ends(h:Canon s){a:Int}:∀p l,s=p::l->a<=p.2->∀q∈s,a<=q.2:=by
 intro p l e hp q z;subst e;rcases L8.1 z with rfl | z
 ·exact hp
 have h1:=h.behind q z;have h2:q.1<q.2:=by
  have:∀(t:cw),Canon t->∀q∈t,q.1<q.2:=by
   intro t
   induction t with
   | nil=>intro _ q z;cases z
   | cons u t ih=>
    intro D q z;rcases L8.1 z with rfl | z
    ·exact D.head
    exact ih D.tail q z
  exact this l h.tail q z
 omega
theorem F3(s:cw)(a b:Int)(h:Canon s)(D:a<b):
  Canon (jo s a b)/\(∀x,cover (jo s a b) x↔cover s x\/(a<=x/\x<b))/\(∀c:Int,(∀p∈s,c<p.1)->c<a->∀p∈jo s a b,c<p.1):=by
 induction s with
 | nil=>
  refine⟨D,fun x=>?_,fun c _ u p hp=>?_⟩
  ·simp[jo,bQ,gX]
  simp[jo]at hp;subst hp;exact u
 | cons p l ih=>
  simp only[jo];split
  ·rename_i J;obtain⟨L,N,I⟩:=ih h.tail;refine⟨Canon.cons h.head (I p.2 h.behind J) L,fun x=>?_,fun c u O q z=>?_⟩
   ·rw[bQ,N x,bQ p];exact or_assoc.symm
   rcases L8.1 z with rfl | z
   ·exact u q (bW ..)
   exact I c (fun t R=>u t (cD _ R)) O q z
  rename_i hge;exact F2 (p::l) a b h D (h.ends p l rfl (by omega))
def rowOf(l:List aB)(y:Int):cw:=(l.filter fun r=>decide (r.y0<=y)&&decide (y<r.y1)).foldl (fun out r=>jo out r.x0 r.x1) []
theorem Ic(l:List aB)(D:∀r∈l,r.x0<r.x1):∀s:cw,Canon s->Canon (l.foldl (fun out r=>jo out r.x0 r.x1) s)/\(∀x,cover (l.foldl (fun out r=>jo out r.x0 r.x1) s) x↔cover s x\/∃r∈l,r.x0<=x/\x<r.x1):=by
 induction l with
 | nil=>intro s h;exact⟨h,fun x=>by simp⟩
 | cons r l ih=>
  intro s h;obtain⟨I,J,_⟩:=F3 s r.x0 r.x1 h (D r (bW ..));obtain⟨L,N⟩:=ih (fun t z=>D t (cD _ z)) _ I;refine⟨L,fun x=>?_⟩;rw[jN,N x,J x];constructor
  ·rintro ((u | u) | ⟨t,z,u⟩)
   ·exact .inl u
   ·exact .inr ⟨r,bW ..,u⟩
   exact .inr ⟨t,cD _ z,u⟩
  rintro (u | ⟨t,z,u⟩)
  ·exact .inl (.inl u)
  rcases L8.1 z with rfl | z
  ·exact .inl (.inr u)
  exact .inr ⟨t,z,u⟩
theorem HW(l:List aB)(y:Int)(z:∀r∈l,r.x0<r.x1):Canon (rowOf l y)/\∀x,cover (rowOf l y) x↔∃r∈l,(r.y0<=y/\y<r.y1)/\r.x0<=x/\x<r.x1:=by
 obtain⟨D,I⟩:=Ic (l.filter fun r=>decide (r.y0<=y)&&decide (y<r.y1)) (fun r u=>z r ((l5.1 u).1)) [] trivial;refine⟨D,fun x=>?_⟩;unfold rowOf;rw[I x];constructor
 ·rintro (h | ⟨r,u,h⟩)
  ·exact absurd h (gX _)
  rw[l5]at u;simp at u;exact⟨r,u.1,u.2,h⟩
 rintro⟨r,u,J,h⟩;exact .inr ⟨r,by rw[l5];simp[u,J],h⟩
theorem Ie(l a:List aB)(y:Int)(I:∀r∈l,r.x0<r.x1)(J:a.Pairwise fun p q=>p.x0<=q.x0)(z:∀r,r∈a↔r∈l/\r.y0<=y/\y<r.y1):dk a=rowOf l y:=by
 have D:∀r∈a,r.x0<r.x1:=fun r u=>I r ((z r).1 u).1;obtain⟨L,N,_⟩:=DG a J D;obtain⟨O,R⟩:=HW l y I;refine nv _ _ L O fun x=>?_;rw[N x,R x];constructor
 ·rintro⟨r,u,h⟩;obtain⟨U,V⟩:=(z r).1 u;exact⟨r,U,V,h⟩
 rintro⟨r,u,W,h⟩;exact⟨r,(z r).2 ⟨u,W⟩,h⟩
def ct(l:List Int):Prop:=l.Pairwise fun a b=>a<b
theorem DH:∀(a b:List Int),ct a->ct b->(∀x,x∈a↔x∈b)->a=b:=by
 intro a
 induction a with
 | nil=>
  intro b _ _ h;cases b with
  | nil=>rfl
  | cons y b=>exact absurd ((h y).2 (bW ..)) (by simp)
 | cons x a ih=>
  intro b L hb h;cases b with
  | nil=>exact absurd ((h x).1 (bW ..)) (by simp)
  | cons y b=>
   obtain⟨I,N⟩:=pw.1 L;obtain⟨J,O⟩:=pw.1 hb;have e:x=y:=by
    rcases L8.1 ((h x).1 (bW ..)) with e | R
    ·exact e
    rcases L8.1 ((h y).2 (bW ..)) with e | U
    ·exact e.symm
    have:=I y U;have:=J x R;omega
   subst e;congr 1;refine ih b N O fun z=>?_;constructor
   ·intro D;have:=I z D;rcases L8.1 ((h z).1 (cD _ D)) with e | u
    ·omega
    exact u
   intro D;have:=J z D;rcases L8.1 ((h z).2 (cD _ D)) with e | u
   ·omega
   exact u
def put:List Int->Int->List Int
 | [],n=>[n]
 | a::l,n=>if a<n then a::put l n else if a=n then a::l else n::a::l
theorem F4(l:List Int)(n x:Int):x∈put l n↔x∈l\/x=n:=by
 induction l with
 | nil=>simp[put]
 | cons a l ih=>
  simp only[put];split
  ·rw[L8,ih,L8];exact or_assoc.symm
  split
  ·rename_i h;subst h;simp only[L8];constructor
   ·exact fun h=>.inl h
   rintro (h | h)
   ·exact h
   exact .inl h
  simp only[L8];constructor
  ·rintro (h | h | h)
   ·exact .inr h
   ·exact .inl (.inl h)
   exact .inl (.inr h)
  rintro ((h | h) | h)
  ·exact .inr (.inl h)
  ·exact .inr (.inr h)
  exact .inl h
theorem B0(l:List Int)(n:Int)(h:ct l):ct (put l n):=by
 induction l with
 | nil=>exact E9 _ _
 | cons a l ih=>
  obtain⟨z,D⟩:=pw.1 h;simp only[put];split
  ·refine pw.2 ⟨fun x u=>?_,ih D⟩;rcases (F4 l n x).1 u with u | rfl
   ·exact z x u
   assumption
  split
  ·exact h
  refine pw.2 ⟨fun x u=>?_,h⟩;rcases L8.1 u with rfl | u
  ·omega
  have:=z x u;omega
def cr(l:List aB):List Int:=l.foldl (fun out r=>put (put out r.y0) r.y1) []
theorem gY(l:List aB):ct (cr l)/\∀y,y∈cr l↔∃r∈l,y=r.y0\/y=r.y1:=by
 have H:∀(l:List aB) (s:List Int),ct s->ct (l.foldl (fun out r=>put (put out r.y0) r.y1) s)/\∀y,y∈l.foldl (fun out r=>put (put out r.y0) r.y1) s↔y∈s\/∃r∈l,y=r.y0\/y=r.y1:=by
  intro l
  induction l with
  | nil=>intro s z;exact⟨z,fun y=>by simp⟩
  | cons r l ih=>
   intro s z;obtain⟨D,I⟩:=ih _ (B0 _ r.y1 (B0 s r.y0 z));refine⟨D,fun y=>?_⟩;rw[jN,I y,F4,F4];constructor
   ·rintro (((h | h) | h) | ⟨t,u,h⟩)
    ·exact .inl h
    ·exact .inr ⟨r,bW ..,.inl h⟩
    ·exact .inr ⟨r,bW ..,.inr h⟩
    exact .inr ⟨t,cD _ u,h⟩
   rintro (h | ⟨t,u,h⟩)
   ·exact .inl (.inl (.inl h))
   rcases L8.1 u with rfl | u
   ·rcases h with h | h
    ·exact .inl (.inl (.inr h))
    exact .inl (.inr h)
   exact .inr ⟨t,u,h⟩
 obtain⟨J,L⟩:=H l [] List.Pairwise.nil;exact⟨J,fun y=>(L y).trans (by simp)⟩
structure aR where
 y0:Int
 y1:Int
 xs:cw
def fj(l:List aR)(b:aR):List aR:=
 if b.xs=[] then l else
 match l.getLast? with
 | some t=>if t.y1=b.y0/\t.xs=b.xs then l.dropLast++[⟨t.y0,b.y1,t.xs⟩] else l++[b]
 | none=>[b]
def dw(l:List aB)(ys:List Int):Nat->List aR
 | 0=>[]
 | k+1=>fj (dw l ys k) ⟨ys.getD k 0,ys.getD (k+1) 0,rowOf l (ys.getD k 0)⟩
def cH(l:List aB):List aR:=dw l (cr l) ((cr l).length-1)
def told(s:List aR):List aB:=s.flatMap fun b=>b.xs.map fun p=>⟨p.1,b.y0,p.2,b.y1⟩
def t_(l:List aB):List aB:=told (cH l)
def iZ(n:Int):Bool:=decide (-1000000<=n)&&decide (n<=1000000)
def jq(r:aB):Bool:=iZ r.x0&&iZ r.y0&&iZ r.x1&&iZ r.y1
def gL:List aB->Int
 | []=>0
 | r::l=>if jq r=true then (if r.x1<=r.x0\/r.y1<=r.y0 then 13 else gL l) else 1
def c7(l:List aB):Int:=if 2000<l.length then 2 else gL l
def before(a b:aB):Bool:=decide (a.y0<b.y0)||(decide (a.y0=b.y0)&&decide (a.x0<b.x0))
def ordered:List aB->Bool
 | a::b::l=>before a b&&ordered (b::l)
 | _=>true
def bA(l:List aB):Int:=
 if c7 l=0 then (if ordered l=true then (if t_ l=l then 0 else 3) else 8) else c7 l
theorem Ig{l:List aB}(h:gL l=0):∀r∈l,jq r=true/\r.x0<r.x1/\r.y0<r.y1:=by
 induction l with
 | nil=>intro r u;cases u
 | cons a l ih=>
  simp only[gL]at h;split at h
  ·split at h
   ·cases h
   intro r u;rcases L8.1 u with rfl | u
   ·exact⟨by assumption,by omega,by omega⟩
   exact ih h r u
  cases h
theorem vD{l:List aB}(h:c7 l=0):l.length<=2000/\∀r∈l,jq r=true/\r.x0<r.x1/\r.y0<r.y1:=by
 unfold c7 at h;split at h
 ·cases h
 exact⟨by omega,Ig h⟩
end Reg
end Go.Proofs.YtliffnpbaeijgaaGreatDoor
namespace Go.Proofs
open Go.Shelf
def Tryz.lays156_ren:Go.Shelf.Ren:=⟨fun | 156=>34 | 165=>76 | 166=>33 | 169=>37 | 240=>75 | 241=>133 | 276=>132 | 277=>170 | n=>n,fun | 31=>33 | 9=>9 | 3=>3 | 4=>4 | 0=>0 | 20=>20 | 72=>102 | 76=>105 | 70=>99 | 37=>100 | 75=>104 | 127=>149 | 164=>196 | 5=>5 | 80=>115 | n=>n,fun | n=>n⟩
theorem Tryz.lays156:Go.Proofs.Lays.n156 Tryz.prog Tryz.lays156_ren:={
 mixed:=by kernel_rfl
 f156:=Tryz.func34.trans (ar some (by kernel_rfl))
 f165:=Tryz.func76.trans (ar some (by kernel_rfl))
 f166:=Tryz.func33.trans (ar some (by kernel_rfl))
 f169:=Tryz.func37.trans (ar some (by kernel_rfl))
 f240:=Tryz.func75.trans (ar some (by kernel_rfl))
 f241:=Tryz.func133.trans (ar some (by kernel_rfl))
 f276:=Tryz.func132.trans (ar some (by kernel_rfl))
 f277:=Tryz.func170.trans (ar some (by kernel_rfl))
 t0:=pz
 a0:=rq
 z0:=ru
 v0:=rv
 t3:=FR
 a3:=tP
 z3:=tQ
 v3:=tR
 t4:=tS
 a4:=tT
 z4:=tU
 v4:=tV
 t9:=tW
 a9:=np
 z9:=tX
 v9:=tY
 t20:=Tryz.underlying20
 a20:=Tryz.isAgg20
 z20:=Tryz.sizeOf20
 v20:=Tryz.zeroValue20
 t31:=tZ
 a31:=Tryz.isAgg33
 z31:=Tryz.sizeOf33
 v31:=Tryz.zeroValue33
 t37:=wI
 a37:=Tryz.isAgg100
 z37:=Tryz.sizeOf100
 v37:=Tryz.zeroValue100
 t70:=wJ
 a70:=Tryz.isAgg99
 z70:=Tryz.sizeOf99
 v70:=Tryz.zeroValue99
 t72:=Tryz.underlying102
 a72:=Tryz.isAgg102
 z72:=Tryz.sizeOf102
 v72:=Tryz.zeroValue102
 t75:=Tryz.underlying104
 a75:=Tryz.isAgg104
 z75:=Tryz.sizeOf104
 v75:=Tryz.zeroValue104
 t76:=Tryz.underlying105
 a76:=Tryz.isAgg105
 z76:=Tryz.sizeOf105
 v76:=Tryz.zeroValue105
 t127:=Tryz.underlying149
 a127:=Tryz.isAgg149
 z127:=Tryz.sizeOf149
 v127:=Tryz.zeroValue149
 t164:=wK
 a164:=Tryz.isAgg196
 z164:=Tryz.sizeOf196
 v164:=Tryz.zeroValue196 }
def Tryz.lays106_ren:Go.Shelf.Ren:=⟨fun | 106=>109 | 213=>162 | 265=>190 | n=>n,fun | 9=>9 | 3=>3 | n=>n,fun | n=>n⟩
theorem Tryz.lays106:Go.Proofs.Lays.n106 Tryz.prog Tryz.lays106_ren:={
 mixed:=by kernel_rfl
 f106:=Tryz.func109.trans (ar some (by kernel_rfl))
 f213:=Tryz.func162.trans (ar some (by kernel_rfl))
 f265:=Tryz.func190.trans (ar some (by kernel_rfl))
 t3:=FR
 a3:=tP
 z3:=tQ
 v3:=tR
 t9:=tW
 a9:=np
 z9:=tX
 v9:=tY }
open Go.RowKit in
theorem Tryz.strings_Compare(a b:ByteArray)(w:World):
  Calls Tryz.prog 109 #[.string a,.string b] w fun e w'=>e=.returned (.int .i64 (Lib.compareBytes a.data.toList b.data.toList))/\w'=w:=Any.strings_Compare Tryz.lays106 a b w
def Tryz.lays137_ren:Go.Shelf.Ren:=⟨fun | 137=>135 | 217=>175 | 266=>197 | n=>n,fun | 9=>9 | 5=>5 | 3=>3 | n=>n,fun | n=>n⟩
theorem Tryz.lays137:Go.Proofs.Lays.n137 Tryz.prog Tryz.lays137_ren:={
 mixed:=by kernel_rfl
 f137:=Tryz.func135.trans (ar some (by kernel_rfl))
 f217:=Tryz.func175.trans (ar some (by kernel_rfl))
 f266:=Tryz.func197.trans (ar some (by kernel_rfl))
 t3:=FR
 a3:=tP
 z3:=tQ
 v3:=tR
 t5:=wL
 a5:=wM
 z5:=wN
 v5:=wP
 t9:=tW
 a9:=np
 z9:=tX
 v9:=tY }
open Go.RowKit in
theorem Tryz.strings_IndexByte(s:ByteArray)(c:Int)(w:World):
  Calls Tryz.prog 135 #[.string s,.int .u8 c] w fun e w'=>e=.returned (.int .i64 (Lib.indexByte s.data.toList c.toNat.toUInt8))/\w'=w:=Any.strings_IndexByte Tryz.lays137 s c w
def Tryz.lays170_ren:Go.Shelf.Ren:=⟨fun | 170=>36 | n=>n,fun | 70=>99 | 3=>3 | 0=>0 | 72=>102 | 37=>100 | 5=>5 | n=>n,fun | n=>n⟩
theorem Tryz.lays170:Go.Proofs.Lays.n170 Tryz.prog Tryz.lays170_ren:={
 mixed:=by kernel_rfl
 f170:=Tryz.func36.trans (ar some (by kernel_rfl))
 t0:=pz
 a0:=rq
 z0:=ru
 v0:=rv
 t3:=FR
 a3:=tP
 z3:=tQ
 v3:=tR
 t37:=wI
 a37:=Tryz.isAgg100
 z37:=Tryz.sizeOf100
 v37:=Tryz.zeroValue100
 t70:=wJ
 a70:=Tryz.isAgg99
 z70:=Tryz.sizeOf99
 v70:=Tryz.zeroValue99
 t72:=Tryz.underlying102
 a72:=Tryz.isAgg102
 z72:=Tryz.sizeOf102
 v72:=Tryz.zeroValue102 }
open Go.RowKit in
theorem Tryz.Builder_Len_f(B b:Nat)(bs:List Value)(w:World)(h:Lib.IsBuilderF 102 5 B b bs w):
  Calls Tryz.prog 36 #[.pointer (some ⟨b,0,none⟩)] w fun e w'=>e=.returned (.int .i64 bs.length)/\w'=w:=Any.Builder_Len_f Tryz.lays170 B b bs w h
def Tryz.laysM171_ren:Go.Shelf.Ren:=⟨fun | 171=>35 | 243=>77 | 246=>134 | 283=>171 | 284=>172 | 285=>173 | 286=>174 | 129=>193 | 317=>192 | 318=>194 | 319=>195 | 320=>196 | 337=>220 | 338=>221 | n=>n,fun | 3=>3 | 9=>9 | 2=>2 | 4=>4 | 171=>231 | 0=>0 | 53=>232 | 37=>100 | 5=>5 | 173=>235 | 212=>249 | 51=>250 | 20=>20 | 213=>251 | 46=>223 | 232=>277 | 233=>278 | n=>n,fun | 17=>1 | 18=>2 | 19=>3 | n=>n⟩
theorem Tryz.laysM171:Go.Proofs.LaysM.n171 Tryz.prog Tryz.laysM171_ren:={
 mixed:=by kernel_rfl
 f129:=Tryz.func193.trans (ar some (by kernel_rfl))
 f171:=Tryz.func35.trans (ar some (by kernel_rfl))
 f243:=Tryz.func77.trans (ar some (by kernel_rfl))
 f246:=Tryz.func134.trans (ar some (by kernel_rfl))
 f283:=Tryz.func171.trans (ar some (by kernel_rfl))
 f284:=Tryz.func172.trans (ar some (by kernel_rfl))
 f285:=Tryz.func173.trans (ar some (by kernel_rfl))
 f286:=Tryz.func174.trans (ar some (by kernel_rfl))
 f317:=Tryz.func192.trans (ar some (by kernel_rfl))
 f318:=Tryz.func194.trans (ar some (by kernel_rfl))
 f319:=Tryz.func195.trans (ar some (by kernel_rfl))
 f320:=Tryz.func196.trans (ar some (by kernel_rfl))
 f337:=Tryz.func220.trans (ar some (by kernel_rfl))
 f338:=Tryz.func221.trans (ar some (by kernel_rfl))
 t0:=pz
 a0:=rq
 z0:=ru
 v0:=rv
 t2:=Tryz.underlying2
 a2:=Tryz.isAgg2
 z2:=Tryz.sizeOf2
 v2:=Tryz.zeroValue2
 t3:=FR
 a3:=tP
 z3:=tQ
 v3:=tR
 t4:=tS
 a4:=tT
 z4:=tU
 v4:=tV
 t5:=wL
 a5:=wM
 z5:=wN
 v5:=wP
 t9:=tW
 a9:=np
 z9:=tX
 v9:=tY
 t20:=Tryz.underlying20
 a20:=Tryz.isAgg20
 z20:=Tryz.sizeOf20
 v20:=Tryz.zeroValue20
 t37:=wI
 a37:=Tryz.isAgg100
 z37:=Tryz.sizeOf100
 v37:=Tryz.zeroValue100
 t46:=wQ
 a46:=wR
 z46:=AY
 v46:=AZ
 t51:=A0
 a51:=FT
 z51:=FU
 v51:=FV
 t53:=FW
 a53:=Tryz.isAgg232
 z53:=Tryz.sizeOf232
 v53:=Tryz.zeroValue232
 t171:=Tryz.underlying231
 a171:=Tryz.isAgg231
 z171:=Tryz.sizeOf231
 v171:=Tryz.zeroValue231
 t173:=Tryz.underlying235
 a173:=Tryz.isAgg235
 z173:=Tryz.sizeOf235
 v173:=Tryz.zeroValue235
 t212:=Tryz.underlying249
 a212:=Tryz.isAgg249
 z212:=Tryz.sizeOf249
 v212:=Tryz.zeroValue249
 t213:=Tryz.underlying251
 a213:=Tryz.isAgg251
 z213:=Tryz.sizeOf251
 t232:=Tryz.underlying277
 a232:=Tryz.isAgg277
 z232:=Tryz.sizeOf277
 v232:=Tryz.zeroValue277
 t233:=Tryz.underlying278
 a233:=Tryz.isAgg278
 z233:=Tryz.sizeOf278
 v233:=Tryz.zeroValue278
 g17:=by kernel_rfl
 g18:=by kernel_rfl
 g19:=by kernel_rfl
 i0:=by kernel_rfl
 i2:=by kernel_rfl
 i3:=by kernel_rfl
 i4:=by kernel_rfl
 i5:=by kernel_rfl
 i9:=by kernel_rfl
 i20:=by kernel_rfl
 i37:=by kernel_rfl
 i46:=by kernel_rfl
 i51:=by kernel_rfl
 i53:=by kernel_rfl
 i171:=by kernel_rfl
 i173:=by kernel_rfl
 i212:=by kernel_rfl
 i232:=by kernel_rfl
 i233:=by kernel_rfl
 m17:=by kernel_rfl
 m18:=by kernel_rfl
 m19:=by kernel_rfl }
open Go.RowKit Go.Sort Go.Lib in
theorem Tryz.strconv_Itoa (n : Int) (h0 : -9223372036854775808 ≤ n) (h1 : n ≤ 9223372036854775807) (w : World) (acG : Lib.TabIs Tryz.prog w "internal/strconv.uint64pow10" .u64 Lib.pow10Tab) :
  Calls Tryz.prog 35 #[.int .i64 n] w fun e w'=>e=.returned (.string ⟨(Lib.itoa n).toArray⟩)/\∃k os,w'=grow (w.drewN k) os:=Any.strconv_Itoa Tryz.laysM171 n h0 h1 w acG
def Tryz.lays189_ren:Go.Shelf.Ren:=⟨fun | 189=>148 | 125=>181 | 257=>182 | 128=>210 | 129=>193 | 294=>211 | 295=>212 | 296=>213 | 297=>214 | 298=>215 | 299=>216 | 216=>217 | 300=>218 | 301=>219 | 328=>231 | 329=>227 | 330=>228 | 331=>232 | 332=>233 | 215=>234 | 343=>237 | n=>n,fun | 28=>54 | 3=>3 | 46=>223 | 0=>0 | 51=>250 | 53=>232 | 4=>4 | 183=>257 | 182=>256 | 131=>61 | 5=>5 | 9=>9 | 218=>269 | 222=>273 | 228=>285 | 229=>286 | n=>n,fun | n=>n⟩
theorem Tryz.lays189:Go.Proofs.Lays.n189 Tryz.prog Tryz.lays189_ren:={
 mixed:=by kernel_rfl
 f125:=Tryz.func181.trans (ar some (by kernel_rfl))
 f128:=Tryz.func210.trans (ar some (by kernel_rfl))
 f129:=Tryz.func193.trans (ar some (by kernel_rfl))
 f189:=Tryz.func148.trans (ar some (by kernel_rfl))
 f215:=Tryz.func234.trans (ar some (by kernel_rfl))
 f216:=Tryz.func217.trans (ar some (by kernel_rfl))
 f257:=Tryz.func182.trans (ar some (by kernel_rfl))
 f294:=Tryz.func211.trans (ar some (by kernel_rfl))
 f295:=Tryz.func212.trans (ar some (by kernel_rfl))
 f296:=Tryz.func213.trans (ar some (by kernel_rfl))
 f297:=Tryz.func214.trans (ar some (by kernel_rfl))
 f298:=Tryz.func215.trans (ar some (by kernel_rfl))
 f299:=Tryz.func216.trans (ar some (by kernel_rfl))
 f300:=Tryz.func218.trans (ar some (by kernel_rfl))
 f301:=Tryz.func219.trans (ar some (by kernel_rfl))
 f328:=Tryz.func231.trans (ar some (by kernel_rfl))
 f329:=Tryz.func227.trans (ar some (by kernel_rfl))
 f330:=Tryz.func228.trans (ar some (by kernel_rfl))
 f331:=Tryz.func232.trans (ar some (by kernel_rfl))
 f332:=Tryz.func233.trans (ar some (by kernel_rfl))
 f343:=Tryz.func237.trans (ar some (by kernel_rfl))
 t0:=pz
 a0:=rq
 z0:=ru
 v0:=rv
 t3:=FR
 a3:=tP
 z3:=tQ
 v3:=tR
 t4:=tS
 a4:=tT
 z4:=tU
 v4:=tV
 t5:=wL
 a5:=wM
 z5:=wN
 v5:=wP
 t9:=tW
 a9:=np
 z9:=tX
 v9:=tY
 t28:=Tryz.underlying54
 a28:=Tryz.isAgg54
 z28:=Tryz.sizeOf54
 v28:=Tryz.zeroValue54
 t46:=wQ
 a46:=wR
 z46:=AY
 v46:=AZ
 t51:=A0
 a51:=FT
 z51:=FU
 v51:=FV
 t53:=FW
 a53:=Tryz.isAgg232
 z53:=Tryz.sizeOf232
 v53:=Tryz.zeroValue232
 t131:=Tryz.underlying61
 a131:=Tryz.isAgg61
 z131:=Tryz.sizeOf61
 v131:=Tryz.zeroValue61
 t182:=Tryz.underlying256
 a182:=Tryz.isAgg256
 z182:=Tryz.sizeOf256
 v182:=Tryz.zeroValue256
 t183:=Tryz.underlying257
 a183:=Tryz.isAgg257
 z183:=Tryz.sizeOf257
 v183:=Tryz.zeroValue257
 t218:=Tryz.underlying269
 a218:=Tryz.isAgg269
 z218:=Tryz.sizeOf269
 v218:=Tryz.zeroValue269
 t222:=Tryz.underlying273
 a222:=Tryz.isAgg273
 z222:=Tryz.sizeOf273
 v222:=Tryz.zeroValue273
 t228:=Tryz.underlying285
 a228:=Tryz.isAgg285
 z228:=Tryz.sizeOf285
 v228:=Tryz.zeroValue285
 t229:=Tryz.underlying286
 a229:=Tryz.isAgg286
 z229:=Tryz.sizeOf286
 v229:=Tryz.zeroValue286 }
open Go.Sort Go.RowKit in
theorem Tryz.slices_Sort_int(cF u z:Nat)(zs:List Int)(w:World)(J:Holds (Value.int .i64) w cF u zs.toArray)(D:cF<w.heap.size)(I:zs.length<4611686018427387904):
  Calls Tryz.prog 148 #[.slice (some ⟨cF,u,none⟩) zs.length z] w fun e w'=>
   e=.returned (.tuple #[])/\∃n os,w'=grow (putRow (Value.int .i64) (Sort.ahead w n) cF u (zs.mergeSort fun x y=>decide (x<=y)).toArray) os:=Any.slices_Sort_int Tryz.lays189 cF u z zs w J D I
def Tryz.lays146_ren:Go.Shelf.Ren:=⟨fun | 146=>81 | 221=>139 | 268=>177 | 138=>178 | 143=>179 | 195=>198 | 197=>199 | 218=>200 | 219=>201 | 260=>222 | 217=>175 | 225=>223 | 224=>224 | 267=>225 | 266=>197 | 314=>235 | n=>n,fun | 9=>9 | 31=>33 | 3=>3 | 4=>4 | 0=>0 | 105=>253 | 21=>21 | 5=>5 | 46=>223 | 119=>279 | 139=>282 | 138=>281 | 146=>283 | 51=>250 | n=>n,fun | 1=>0 | 3=>4 | 4=>5 | n=>n⟩
theorem Tryz.lays146:Go.Proofs.Lays.n146 Tryz.prog Tryz.lays146_ren:={
 mixed:=by kernel_rfl
 f138:=Tryz.func178.trans (ar some (by kernel_rfl))
 f143:=Tryz.func179.trans (ar some (by kernel_rfl))
 f146:=Tryz.func81.trans (ar some (by kernel_rfl))
 f195:=Tryz.func198.trans (ar some (by kernel_rfl))
 f197:=Tryz.func199.trans (ar some (by kernel_rfl))
 f217:=Tryz.func175.trans (ar some (by kernel_rfl))
 f218:=Tryz.func200.trans (ar some (by kernel_rfl))
 f219:=Tryz.func201.trans (ar some (by kernel_rfl))
 f221:=Tryz.func139.trans (ar some (by kernel_rfl))
 f224:=Tryz.func224.trans (ar some (by kernel_rfl))
 f225:=Tryz.func223.trans (ar some (by kernel_rfl))
 f260:=Tryz.func222.trans (ar some (by kernel_rfl))
 f266:=Tryz.func197.trans (ar some (by kernel_rfl))
 f267:=Tryz.func225.trans (ar some (by kernel_rfl))
 f268:=Tryz.func177.trans (ar some (by kernel_rfl))
 f314:=Tryz.func235.trans (ar some (by kernel_rfl))
 t0:=pz
 a0:=rq
 z0:=ru
 v0:=rv
 t3:=FR
 a3:=tP
 z3:=tQ
 v3:=tR
 t4:=tS
 a4:=tT
 z4:=tU
 v4:=tV
 t5:=wL
 a5:=wM
 z5:=wN
 v5:=wP
 t9:=tW
 a9:=np
 z9:=tX
 v9:=tY
 t21:=Tryz.underlying21
 a21:=Tryz.isAgg21
 z21:=Tryz.sizeOf21
 v21:=Tryz.zeroValue21
 t31:=tZ
 a31:=Tryz.isAgg33
 z31:=Tryz.sizeOf33
 v31:=Tryz.zeroValue33
 t46:=wQ
 a46:=wR
 z46:=AY
 v46:=AZ
 t51:=A0
 a51:=FT
 z51:=FU
 v51:=FV
 t105:=Tryz.underlying253
 a105:=Tryz.isAgg253
 z105:=Tryz.sizeOf253
 v105:=Tryz.zeroValue253
 t119:=Tryz.underlying279
 a119:=Tryz.isAgg279
 z119:=Tryz.sizeOf279
 t138:=Tryz.underlying281
 a138:=Tryz.isAgg281
 z138:=Tryz.sizeOf281
 v138:=Tryz.zeroValue281
 t139:=Tryz.underlying282
 a139:=Tryz.isAgg282
 z139:=Tryz.sizeOf282
 v139:=Tryz.zeroValue282
 t146:=Tryz.underlying283
 a146:=Tryz.isAgg283
 z146:=Tryz.sizeOf283
 v146:=Tryz.zeroValue283
 g1:=by kernel_rfl
 g3:=by kernel_rfl
 g4:=by kernel_rfl }
open Go.RowKit Go.Lib in
theorem Tryz.strings_Split(s u:ByteArray)(m:Int)(w:World)(z:s.size<4294967281)(D:w.cell? ⟨0,0,none⟩=some (.int .i64 m))(I:1<=u.size):
  Calls Tryz.prog 81 #[.string s,.string u] w fun e w'=>
   e=.returned (.slice (some ⟨w.heap.size,0,none⟩) (Lib.countB s u+1) (Lib.countB s u+1))/\w'=w.alloc (.cells ((Lib.splitB u 0 (Lib.countB s u) s).map Value.string).toArray 9):=Any.strings_Split Tryz.lays146 (by kernel_rfl) s u m w z D I
def Tryz.laysNm220_ren:Go.Shelf.Ren:=⟨fun | 20=>149 | n=>n,fun | 22=>54 | 3=>3 | 4=>4 | 0=>0 | n=>n,fun | n=>n⟩
theorem Tryz.laysNm220:Go.Proofs.Lays2.n20 Tryz.prog Tryz.laysNm220_ren:={
 mixed:=by kernel_rfl
 f20:=Tryz.func149.trans (ar some (by kernel_rfl))
 t0:=pz
 a0:=rq
 z0:=ru
 v0:=rv
 t3:=FR
 a3:=tP
 z3:=tQ
 v3:=tR
 t4:=tS
 a4:=tT
 z4:=tU
 v4:=tV
 t22:=Tryz.underlying54
 a22:=Tryz.isAgg54
 z22:=Tryz.sizeOf54
 v22:=Tryz.zeroValue54
 i3:=by kernel_rfl }
open Go.RowKit Go.Lib Go.Sort in
theorem Tryz.slices_Compact_int(cF u z:Nat)(zs:List Int)(w:World)(I:Holds (Value.int .i64) w cF u zs.toArray)(D:zs.length<=9223372036854775807)(J:zs.length<=z):
  Calls Tryz.prog 149 #[.slice (some ⟨cF,u,none⟩) zs.length z] w fun e w'=>e=.returned (.slice (some ⟨cF,u,none⟩) (Lib.compact zs).length z)/\∃q,w'=putRow (Value.int .i64) (Sort.ahead w q) cF u (Lib.compact zs++List.replicate (zs.length-(Lib.compact zs).length) 0).toArray:=Any.slices_Compact_int Tryz.laysNm220 cF u z zs w I D J
open Go.RowKit Go.Lib Go.Sort in
theorem Tryz.slices_Compact_int_empty(a:Option Addr)(u:Nat)(w:World):
  Calls Tryz.prog 149 #[.slice a 0 u] w fun e w'=>e=.returned (.slice a 0 u)/\w'=w:=Any.slices_Compact_int_empty Tryz.laysNm220 a u w
open Go.RowKit Go.Sort in
theorem Tryz.slices_Sort_int_none(p:Option Addr)(u:Nat)(w:World):
  Calls Tryz.prog 148 #[.slice p 0 u] w fun e w'=>e=.returned (.tuple #[])/\w'=w:=Any.slices_Sort_int_none Tryz.lays189 p u w
def Tryz.laysSortRect_ren:Go.Shelf.Ren:=⟨fun | 6=>146 | 15=>181 | 14=>180 | 28=>210 | 29=>193 | 20=>202 | 21=>203 | 22=>204 | 23=>205 | 24=>206 | 25=>207 | 26=>208 | 27=>209 | 46=>226 | 47=>227 | 48=>228 | 49=>229 | 50=>230 | 57=>236 | n=>n,fun | 22=>28 | 24=>90 | 25=>122 | 3=>3 | 39=>223 | 0=>0 | 53=>250 | 55=>232 | 4=>4 | 46=>257 | 45=>256 | 50=>61 | 5=>5 | 9=>9 | 66=>269 | 70=>273 | 76=>285 | 77=>286 | n=>n,fun | n=>n⟩
theorem Tryz.laysSortRect:Go.Proofs.SlLaysF0.n6 Tryz.prog Tryz.laysSortRect_ren:={
 mixed:=by kernel_rfl
 f6:=⟨Tryz.f146.name,by decide,Tryz.func146.trans (ar some (by kernel_rfl))⟩
 f14:=⟨Tryz.f180.name,by decide,Tryz.func180.trans (ar some (by kernel_rfl))⟩
 f15:=Tryz.func181.trans (ar some (by kernel_rfl))
 f20:=⟨Tryz.f202.name,by decide,Tryz.func202.trans (ar some (by kernel_rfl))⟩
 f21:=⟨Tryz.f203.name,by decide,Tryz.func203.trans (ar some (by kernel_rfl))⟩
 f22:=⟨Tryz.f204.name,by decide,Tryz.func204.trans (ar some (by kernel_rfl))⟩
 f23:=⟨Tryz.f205.name,by decide,Tryz.func205.trans (ar some (by kernel_rfl))⟩
 f24:=⟨Tryz.f206.name,by decide,Tryz.func206.trans (ar some (by kernel_rfl))⟩
 f25:=⟨Tryz.f207.name,by decide,Tryz.func207.trans (ar some (by kernel_rfl))⟩
 f26:=⟨Tryz.f208.name,by decide,Tryz.func208.trans (ar some (by kernel_rfl))⟩
 f27:=⟨Tryz.f209.name,by decide,Tryz.func209.trans (ar some (by kernel_rfl))⟩
 f28:=Tryz.func210.trans (ar some (by kernel_rfl))
 f29:=Tryz.func193.trans (ar some (by kernel_rfl))
 f46:=⟨Tryz.f226.name,by decide,Tryz.func226.trans (ar some (by kernel_rfl))⟩
 f47:=Tryz.func227.trans (ar some (by kernel_rfl))
 f48:=Tryz.func228.trans (ar some (by kernel_rfl))
 f49:=⟨Tryz.f229.name,by decide,Tryz.func229.trans (ar some (by kernel_rfl))⟩
 f50:=⟨Tryz.f230.name,by decide,Tryz.func230.trans (ar some (by kernel_rfl))⟩
 f57:=⟨Tryz.f236.name,by decide,Tryz.func236.trans (ar some (by kernel_rfl))⟩
 t0:=pz
 a0:=rq
 z0:=ru
 v0:=rv
 t3:=FR
 a3:=tP
 z3:=tQ
 v3:=tR
 t4:=tS
 a4:=tT
 z4:=tU
 v4:=tV
 t5:=wL
 a5:=wM
 z5:=wN
 v5:=wP
 t9:=tW
 a9:=np
 z9:=tX
 v9:=tY
 t22:=Tryz.underlying28
 a22:=Tryz.isAgg28
 z22:=Tryz.sizeOf28
 v22:=Tryz.zeroValue28
 t25:=Tryz.underlying122
 a25:=Tryz.isAgg122
 z25:=Tryz.sizeOf122
 v25:=Tryz.zeroValue122
 t39:=wQ
 a39:=wR
 z39:=AY
 v39:=AZ
 t45:=Tryz.underlying256
 a45:=Tryz.isAgg256
 z45:=Tryz.sizeOf256
 v45:=Tryz.zeroValue256
 t46:=Tryz.underlying257
 a46:=Tryz.isAgg257
 z46:=Tryz.sizeOf257
 v46:=Tryz.zeroValue257
 t50:=Tryz.underlying61
 a50:=Tryz.isAgg61
 z50:=Tryz.sizeOf61
 v50:=Tryz.zeroValue61
 t53:=A0
 a53:=FT
 z53:=FU
 v53:=FV
 t55:=FW
 a55:=Tryz.isAgg232
 z55:=Tryz.sizeOf232
 v55:=Tryz.zeroValue232
 t66:=Tryz.underlying269
 a66:=Tryz.isAgg269
 z66:=Tryz.sizeOf269
 v66:=Tryz.zeroValue269
 t70:=Tryz.underlying273
 a70:=Tryz.isAgg273
 z70:=Tryz.sizeOf273
 v70:=Tryz.zeroValue273
 t76:=Tryz.underlying285
 a76:=Tryz.isAgg285
 z76:=Tryz.sizeOf285
 v76:=Tryz.zeroValue285
 t77:=Tryz.underlying286
 a77:=Tryz.isAgg286
 z77:=Tryz.sizeOf286
 v77:=Tryz.zeroValue286 }
end Go.Proofs
namespace Go.Proofs.YtliffnpbaeijgaaGreatDoor
namespace M
open Go.AM Go.RowKit
def jw:List (Nat×TI):=([20,103,104].map fun n=>(n,⟨.sc,1,16,[.nilIface],false⟩))++(([21,297,298].map fun n=>(n,⟨.int .i32,1,4,[.int .i32 0],false⟩))++(([9,10,11].map fun n=>(n,⟨.str,1,16,[.string ByteArray.empty],false⟩))++(([12,223,232,269].map fun n=>(n,⟨.int .u64,1,8,[.int .u64 0],false⟩))++(([190,191,213,214].map fun n=>(n,⟨.st [(0,1,false),(1,1,false),(2,1,false)],3,40,[.int .i64 0,.int .i64 0,.slice none 0 0],false⟩))++(([2,3,34,256].map fun n=>(n,⟨.int .i64,1,8,[.int .i64 0],false⟩))++(([5,6,294,295].map fun n=>(n,⟨.int .u8,1,1,[.int .u8 0],false⟩))++(([15,16,17,40,66,99,149,172,273,285].map fun n=>(n,⟨.sc,1,8,[.pointer none],false⟩))++([(4,⟨.sc,1,1,[.bool false],true⟩),
 (7,⟨.st [(0,1,false),(1,1,false),(2,1,false),(3,1,false)],4,24,[.int .i64 0,.int .i64 0,.bool false,.int .u8 0],false⟩),
 (8,⟨.st [(0,1,false),(1,1,false),(2,1,false),(3,1,false)],4,24,[.int .i64 0,.int .i64 0,.bool false,.int .u8 0],false⟩),
 (13,⟨.st [(0,1,false),(1,1,false)],2,24,[.string ByteArray.empty,.int .u64 0],false⟩),
 (14,⟨.st [(0,1,false),(1,1,false)],2,24,[.string ByteArray.empty,.int .u64 0],false⟩),
 (18,⟨.st [(0,1,false)],1,8,[.pointer none],false⟩),
 (19,⟨.st [(0,1,false)],1,8,[.pointer none],false⟩),
 (22,⟨.sl 125,1,24,[.slice none 0 0],false⟩),
 (23,⟨.sl 80,1,24,[.slice none 0 0],false⟩),
 (24,⟨.sl 63,1,24,[.slice none 0 0],false⟩),
 (25,⟨.st [(0,1,false),(1,1,false)],2,48,[.slice none 0 0,.slice none 0 0],false⟩),
 (26,⟨.st [(0,1,false),(1,1,false)],2,48,[.slice none 0 0,.slice none 0 0],false⟩),
 (27,⟨.sl 28,1,24,[.slice none 0 0],false⟩),
 (28,⟨.sl 90,1,24,[.slice none 0 0],false⟩),
 (29,⟨.sl 87,1,24,[.slice none 0 0],false⟩),
 (30,⟨.sl 142,1,24,[.slice none 0 0],false⟩),
 (31,⟨.st [(0,1,false),(1,1,false),(2,1,false),(3,1,false)],4,96,[.slice none 0 0,.slice none 0 0,.slice none 0 0,.slice none 0 0],false⟩),
 (32,⟨.st [(0,1,false),(1,1,false),(2,1,false),(3,1,false)],4,96,[.slice none 0 0,.slice none 0 0,.slice none 0 0,.slice none 0 0],false⟩),
 (33,⟨.sl 9,1,24,[.slice none 0 0],false⟩),
 (43,⟨.mp 49 3,1,8,[.map none],false⟩),
 (45,⟨.mp 49 4,1,8,[.map none],false⟩),
 (46,⟨.sl 49,1,24,[.slice none 0 0],false⟩),
 (48,⟨.st [(0,1,false),(1,1,false)],2,32,[.string ByteArray.empty,.string ByteArray.empty],false⟩),
 (79,⟨.st [(0,1,false),(1,1,false)],2,32,[.string ByteArray.empty,.string ByteArray.empty],false⟩),
 (49,⟨.st [(0,1,false),(1,1,false)],2,32,[.string ByteArray.empty,.string ByteArray.empty],true⟩),
 (80,⟨.st [(0,1,false),(1,1,false)],2,32,[.string ByteArray.empty,.string ByteArray.empty],true⟩),
 (50,⟨.sl 158,1,24,[.slice none 0 0],false⟩),
 (51,⟨.sl 169,1,24,[.slice none 0 0],false⟩),
 (52,⟨.sl 54,1,24,[.slice none 0 0],false⟩),
 (53,⟨.sl 59,1,24,[.slice none 0 0],false⟩),
 (54,⟨.sl 3,1,24,[.slice none 0 0],false⟩),
 (55,⟨.sl 177,1,24,[.slice none 0 0],false⟩),
 (56,⟨.st [(0,4,true),(4,1,false),(5,1,false),(6,1,false),(7,1,false),(8,1,false),(9,1,false),(10,1,false),(11,1,false)],12,288,[.slice none 0 0,.slice none 0 0,.slice none 0 0,.slice none 0 0,.slice none 0 0,.slice none 0 0,.slice none 0 0,.slice none 0 0,.slice none 0 0,.slice none 0 0,.slice none 0 0,.slice none 0 0],false⟩),
 (57,⟨.st [(0,4,true),(4,1,false),(5,1,false),(6,1,false),(7,1,false),(8,1,false),(9,1,false),(10,1,false),(11,1,false)],12,288,[.slice none 0 0,.slice none 0 0,.slice none 0 0,.slice none 0 0,.slice none 0 0,.slice none 0 0,.slice none 0 0,.slice none 0 0,.slice none 0 0,.slice none 0 0,.slice none 0 0,.slice none 0 0],false⟩),
 (58,⟨.st [(0,1,false),(1,1,false),(2,1,false)],3,72,[.slice none 0 0,.slice none 0 0,.slice none 0 0],false⟩),
 (59,⟨.st [(0,1,false),(1,1,false),(2,1,false)],3,72,[.slice none 0 0,.slice none 0 0,.slice none 0 0],false⟩),
 (60,⟨.mp 9 4,1,8,[.map none],false⟩),
 (62,⟨.st [(0,1,false),(1,1,false),(2,1,false)],3,64,[.string ByteArray.empty,.slice none 0 0,.slice none 0 0],false⟩),
 (63,⟨.st [(0,1,false),(1,1,false),(2,1,false)],3,64,[.string ByteArray.empty,.slice none 0 0,.slice none 0 0],false⟩),
 (68,⟨.st [(0,4,true),(4,1,false),(5,1,false),(6,1,false),(7,1,false)],8,192,[.slice none 0 0,.slice none 0 0,.slice none 0 0,.slice none 0 0,.slice none 0 0,.slice none 0 0,.slice none 0 0,.slice none 0 0],false⟩),
 (69,⟨.st [(0,4,true),(4,1,false),(5,1,false),(6,1,false),(7,1,false)],8,192,[.slice none 0 0,.slice none 0 0,.slice none 0 0,.slice none 0 0,.slice none 0 0,.slice none 0 0,.slice none 0 0,.slice none 0 0],false⟩),
 (74,⟨.sl 111,1,24,[.slice none 0 0],false⟩),
 (75,⟨.sl 113,1,24,[.slice none 0 0],false⟩),
 (76,⟨.st [(0,1,false),(1,1,false),(2,1,false),(3,1,false),(4,1,false),(5,1,false),(6,1,false)],7,88,[.int .i64 0,.int .i64 0,.int .i64 0,.int .i64 0,.int .i64 0,.slice none 0 0,.slice none 0 0],false⟩),
 (77,⟨.st [(0,1,false),(1,1,false),(2,1,false),(3,1,false),(4,1,false),(5,1,false),(6,1,false)],7,88,[.int .i64 0,.int .i64 0,.int .i64 0,.int .i64 0,.int .i64 0,.slice none 0 0,.slice none 0 0],false⟩),
 (84,⟨.st [(0,1,false),(1,1,false)],2,16,[.int .i64 0,.int .i64 0],false⟩),
 (228,⟨.st [(0,1,false),(1,1,false)],2,16,[.int .i64 0,.int .i64 0],false⟩),
 (85,⟨.st [(0,1,false),(1,1,false)],2,16,[.int .i64 0,.int .i64 0],true⟩),
 (229,⟨.st [(0,1,false),(1,1,false)],2,16,[.int .i64 0,.int .i64 0],true⟩),
 (86,⟨.st [(0,2,true),(2,1,false),(3,1,false),(4,1,false),(5,1,false)],6,48,[.int .i64 0,.int .i64 0,.int .i64 0,.int .i64 0,.int .i64 0,.bool false],false⟩),
 (87,⟨.st [(0,2,true),(2,1,false),(3,1,false),(4,1,false),(5,1,false)],6,48,[.int .i64 0,.int .i64 0,.int .i64 0,.int .i64 0,.int .i64 0,.bool false],true⟩),
 (89,⟨.st [(0,1,false),(1,1,false),(2,1,false),(3,1,false)],4,32,[.int .i64 0,.int .i64 0,.int .i64 0,.int .i64 0],false⟩),
 (90,⟨.st [(0,1,false),(1,1,false),(2,1,false),(3,1,false)],4,32,[.int .i64 0,.int .i64 0,.int .i64 0,.int .i64 0],true⟩),
 (100,⟨.sl 5,1,24,[.slice none 0 0],false⟩),
 (101,⟨.st [(0,1,false),(1,1,false)],2,32,[.pointer none,.slice none 0 0],false⟩),
 (102,⟨.st [(0,1,false),(1,1,false)],2,32,[.pointer none,.slice none 0 0],false⟩),
 (110,⟨.st [(0,1,false),(1,1,false),(2,1,false),(3,1,false)],4,56,[.string ByteArray.empty,.slice none 0 0,.int .i64 0,.int .i64 0],false⟩),
 (111,⟨.st [(0,1,false),(1,1,false),(2,1,false),(3,1,false)],4,56,[.string ByteArray.empty,.slice none 0 0,.int .i64 0,.int .i64 0],false⟩),
 (112,⟨.st [(0,1,false),(1,1,false),(2,1,false)],3,40,[.int .i64 0,.slice none 0 0,.int .i64 0],false⟩),
 (113,⟨.st [(0,1,false),(1,1,false),(2,1,false)],3,40,[.int .i64 0,.slice none 0 0,.int .i64 0],false⟩),
 (123,⟨.sl 128,1,24,[.slice none 0 0],false⟩),
 (124,⟨.st [(0,1,false),(1,1,false)],2,40,[.string ByteArray.empty,.slice none 0 0],false⟩),
 (125,⟨.st [(0,1,false),(1,1,false)],2,40,[.string ByteArray.empty,.slice none 0 0],false⟩),
 (127,⟨.st [(0,1,false),(1,1,false),(2,1,false)],3,32,[.string ByteArray.empty,.int .i64 0,.int .i64 0],false⟩),
 (128,⟨.st [(0,1,false),(1,1,false),(2,1,false)],3,32,[.string ByteArray.empty,.int .i64 0,.int .i64 0],false⟩),
 (138,⟨.sl 4,1,24,[.slice none 0 0],false⟩),
 (141,⟨.st [(0,1,false),(1,1,false),(2,1,false),(3,2,true)],5,56,[.string ByteArray.empty,.string ByteArray.empty,.int .i64 0,.int .i64 0,.int .i64 0],false⟩),
 (142,⟨.st [(0,1,false),(1,1,false),(2,1,false),(3,2,true)],5,56,[.string ByteArray.empty,.string ByteArray.empty,.int .i64 0,.int .i64 0,.int .i64 0],true⟩),
 (157,⟨.sl 214,1,24,[.slice none 0 0],false⟩),
 (158,⟨.sl 214,1,24,[.slice none 0 0],false⟩),
 (168,⟨.st [(0,1,false),(1,1,false),(2,1,false)],3,56,[.int .i64 0,.slice none 0 0,.slice none 0 0],false⟩),
 (169,⟨.st [(0,1,false),(1,1,false),(2,1,false)],3,56,[.int .i64 0,.slice none 0 0,.slice none 0 0],false⟩),
 (176,⟨.st [(0,1,false),(1,1,false)],2,16,[.bool false,.int .i64 0],false⟩),
 (177,⟨.st [(0,1,false),(1,1,false)],2,16,[.bool false,.int .i64 0],false⟩),
 (186,⟨.sl 191,1,24,[.slice none 0 0],false⟩),
 (188,⟨.sl 229,1,24,[.slice none 0 0],false⟩),
 (218,⟨.mp 3 3,1,8,[.map none],false⟩),
 (220,⟨.st [(0,1,false)],1,24,[.slice none 0 0],false⟩),
 (221,⟨.st [(0,1,false)],1,24,[.slice none 0 0],false⟩),
 (250,⟨.int .u32,1,4,[.int .u32 0],false⟩),
 (280,⟨.st [(0,1,false),(1,1,false)],2,2,[.int .u8 0,.int .u8 0],false⟩),
 (281,⟨.st [(0,1,false),(1,1,false)],2,2,[.int .u8 0,.int .u8 0],false⟩),
 (289,⟨.st [(0,1,false),(1,1,false),(2,1,false),(3,1,false)],4,40,[.pointer none,.pointer none,.pointer none,.string ByteArray.empty],false⟩),
 (290,⟨.st [(0,1,false),(1,1,false),(2,1,false),(3,1,false)],4,40,[.pointer none,.pointer none,.pointer none,.string ByteArray.empty],false⟩),
 (299,⟨.st [(0,1,false),(1,1,false),(2,1,false),(3,1,false),(4,1,false),(5,1,false),(6,1,false),(7,1,false),(8,1,false),(9,1,false),(10,1,false)],11,48,[.int .u64 0,.int .u64 0,.int .u32 0,.int .u8 0,.int .u8 0,.int .u8 0,.int .u8 0,.nilFunc,.pointer none,.int .i32 0,.int .i32 0],false⟩),
 (300,⟨.st [(0,1,false),(1,1,false),(2,1,false),(3,1,false),(4,1,false),(5,1,false),(6,1,false),(7,1,false),(8,1,false),(9,1,false),(10,1,false)],11,48,[.int .u64 0,.int .u64 0,.int .u32 0,.int .u8 0,.int .u8 0,.int .u8 0,.int .u8 0,.nilFunc,.pointer none,.int .i32 0,.int .i32 0],false⟩)]++([1,36,37,38,39,42,44,47,64,65,67,71,73,78,81,82,83,88,91,92,93,94,95,97,98,106,107,108,109,114,115,116,117,118,119,120,121,122,126,129,130,131,132,133,134,135,136,137,139,140,143,144,145,146,147,148,150,151,152,153,154,155,156,159,160,162,163,164,165,166,167,170,171,173,174,175,179,180,181,182,183,184,185,187,189,192,193,194,195,197,198,199,200,201,202,203,204,205,206,207,208,209,210,211,212,215,216,217,219,222,224,225,226,227,230,233,234,236,237,238,239,240,241,242,243,245,246,247,248,252,254,255,258,259,260,261,262,263,264,265,266,267,268,270,271,272,274,275,276,284,287,288,296].map fun n=>(n,⟨.sc,1,8,[.nilFunc],false⟩))))))))))
def mdL:List (Nat×Nat):=[(29,0),(67,2),(67,90),(124,0),(146,0),(148,0),(149,0),(150,0),(159,0),(152,0),(153,0),(49,0),(50,0),(51,0),(160,0),(103,0),(104,0),(158,1),(41,2)]
def ZH:List (Nat×Nat)->Nat->Nat->Bool
 | [],_,_=>false
 | (f,j)::r,f',j'=>match Nat.beq f f',Nat.beq j j' with
  | true,true=>true
  | _,_=>ZH r f' j'
def Env (S : Nat → Prop) (w : World) : Prop := S 0 ∧ S 1 ∧ (∃ m : Int, w.cell? ⟨0, 0, none⟩ = some (.int .i64 m)) ∧ Lib.TabIs Tryz.prog w "internal/strconv.uint64pow10" .u64 Lib.pow10Tab
theorem W4 : Tryz.prog.globalNamed "internal/strconv.uint64pow10" = some 1 := by kernel_rfl
theorem Q4(S S':Nat->Prop)(w w':World)(h:Env S w)(hS:∀b,S b->S' b)(hk:∀b,S b->w'.heap[b]?=w.heap[b]?):Env S' w':=by
 obtain⟨z,D,⟨m,I⟩,u⟩:=h;refine⟨hS _ z,hS _ D,⟨m,(E3 (hk _ z)).trans I⟩,?_⟩;unfold Lib.TabIs World.var? at u ⊢;simp only[W4,Option.bind_some]at u ⊢;rw[hk _ D];exact u
noncomputable def C:Ctx:={ P:=Tryz.prog,T:=zJ jw,md:=ZH mdL,E:=Env,bl:=fun f=>Nat.beq f 32||(Nat.beq f 36||Nat.beq f 37),bt:=fun t=>Nat.beq t 102,bn:=fun t=>Nat.beq t 113||(Nat.beq t 59||(Nat.beq t 52||(Nat.beq t 27||(Nat.beq t 57||Nat.beq t 69)))),bo:=fun t=>Nat.beq t 221,bf:=fun d=>Nat.beq d 87||(Nat.beq d 79||Nat.beq d 81) }
theorem hC1:jw.all (tiB Tryz.prog)=true:=by kernel_rfl
theorem hC2:jw.all (WU Tryz.prog)=true:=by kernel_rfl
theorem hC3:jw.all (zsB Tryz.prog)=true:=by kernel_rfl
theorem hC4:jw.all (WZ Tryz.prog)=true:=by kernel_rfl
theorem hC:bP C:=⟨Zn hC3,WT hC1,fun S S' w w' h hS hk _=>Q4 S S' w w' h hS hk,by kernel_rfl,WX hC2,TS hC4⟩
def i64(n:Int):PV:=.im (.int .i64 n)
def bool(b:Bool):PV:=.im (.bool b)
def rc(r:Reg.aB):List PV:=[i64 r.x0,i64 r.y0,i64 r.x1,i64 r.y1]
def sp(p:Int×Int):List PV:=[i64 p.1,i64 p.2]
def aE(l:List Reg.aB):PV:=.sl (l.map rc)
def ints(l:List Int):PV:=.sl (l.map fun n=>[i64 n])
def n5(l:Reg.cw):PV:=.sl (l.map sp)
variable {α:Type}
theorem A1{l:List α}{i:Nat}{x:α}(f:α->List PV)(h:l[i]?=some x):(l.map f)[i]?=some (f x):=by rw[aD,h];rfl
open Reg (aB cw)
theorem agj(n lo hi:Int):ai C 164 [.pv (i64 n),.pv (i64 lo),.pv (i64 hi)] (.p (bool (decide (lo<=n)&&decide (n<=hi)))) []:=by
 refine fW hC Tryz.func164 rfl (by kernel_rfl) fun _=>?_;apply iW<;>intro h<;>(refine⟨?_,trivial⟩)<;>simp[bool,h]
theorem aa1(n:Int):ai C 119 [.pv (i64 n)] (.p (bool (Reg.iZ n))) []:=by
 refine fW hC Tryz.func119 rfl (by kernel_rfl) fun _=>?_;refine⟨_,_,(agj n (-1000000) 1000000),?_,trivial⟩;rfl
theorem aeN(x y:Int):ai C 118 [.pv (.ag [i64 x,i64 y])] (.p (bool (Reg.iZ x&&Reg.iZ y))) []:=by
 refine fW hC Tryz.func118 rfl (by kernel_rfl) fun _=>?_;refine⟨_,_,(aa1 x),iW ?_ ?_⟩<;>intro h
 ·refine⟨_,_,(aa1 y),?_,trivial⟩;simp[bool,h]
 refine⟨?_,trivial⟩;simp[bool,h]
theorem ad7(a b:aB):ai C 116 [.pv (.ag (rc a)),.pv (.ag (rc b))] (.p (bool (Reg.before a b))) []:=by
 refine fW hC Tryz.func116 rfl (by kernel_rfl) fun _=>?_;apply iW<;>intro h
 ·refine⟨?_,trivial⟩;simp[bool,Reg.before,h]
 apply iW<;>intro u<;>(refine⟨?_,trivial⟩)<;>simp[bool,Reg.before,h,u]
def ay(l:cw)(x:Int):Bool:=l.any fun p=>decide (p.1<=x)&&decide (x<p.2)
theorem bq{l:List α}{i:Nat}{r:α}(h:l[i]?=some r):l.take (i+1)=l.take i++[r]:=by rw[FX,h];rfl
theorem ax{l:List α}{i:Nat}(h:i<l.length):∃p,l[i]?=some p:=⟨l[i],oX h⟩
theorem idx{l:List α}{f:α->List PV}{i:Int}{k:Nat}{x:α}(h:i=k)(u:l[k]?=some x):0<=i/\(l.map f)[i.toNat]?=some (f x):=by
 subst h;exact⟨by omega,by rw[FY];exact A1 f u⟩
theorem bI{a b:Int}(h:a=b):AV.p (i64 a)=AV.p (i64 b):=by rw[h]
theorem an(l:List α)(f:α->List PV):(l.map f).length=l.length:=E5 ..
theorem acf(l:cw)(x:Int)(hl:l.length<=140737488355328):ai C 191 [.pv (n5 l),.pv (i64 x)] (.p (bool (ay l x))) []:=by
 refine fW hC Tryz.func191 rfl (by kernel_rfl) fun _=>?_;refine aP (fun i:Nat=>i<=l.length/\ay (l.take i) x=false) (fun i=>[(0,.p (n5 l)),(1,.p (i64 x)),(5,.p (i64 i))]) (fun _=>[]) (fun i=>l.length-i) 0 _ (aA.refl _ _) ⟨ak _,rfl⟩ ⟨Z,Z,Z,Y⟩ trivial fun i hi t h=>?_;apply iW<;>intro u
 ·simp only[E5]at u;obtain⟨p,hp⟩:=ax (l:=l) (i:=i) (by omega);refine⟨(sp p),(idx rfl hp),iW ?_ ?_⟩<;>intro z
  ·refine⟨(sp p),(idx rfl hp),iW ?_ ?_⟩<;>intro D
   ·refine⟨?_,trivial⟩;have:ay l x=true:=by
     unfold ay;rw[wy];exact⟨p,aj hp,by simp[z,D]⟩
    simp[bool,this]
   refine⟨wO (by omega),(i+1),_,aA.refl _ _,⟨by omega,?_⟩,by omega,⟨Z,Z,Z,Y⟩,trivial⟩;rw[bq hp];simp only[ay]at hi;simp[ay,hi.2,D]
  refine⟨wO (by omega),(i+1),_,aA.refl _ _,⟨by omega,?_⟩,by omega,⟨Z,Z,Z,Y⟩,trivial⟩;rw[bq hp];simp only[ay]at hi;simp[ay,hi.2,z]
 refine⟨?_,trivial⟩;simp only[E5]at u;have I:l.take i=l:=kG (by omega);rw[I]at hi;simp[bool,hi.2]
theorem ahK(x:Int):∀(l:List Int) (lo:Nat),(∀k y,k<lo->l[k]?=some y->y<x)->l[lo]?=some x->Reg.put l x=l:=by
 intro l
 induction l with
 | nil=>intro lo _ h;simp at h
 | cons a l ih=>
  intro lo z u;cases lo with
  | zero=>
   simp at u;subst u;simp[Reg.put]
  | succ lo=>
   have D:a<x:=z 0 a (by omega) rfl;rw[Reg.put,ae D,ih lo (fun k y hk I=>z (k+1) y (by omega) (by simpa using I)) (by simpa using u)]
theorem aio(x:Int):∀(l:List Int) (lo:Nat),lo<=l.length->(∀k y,k<lo->l[k]?=some y->y<x)->(∀y,l[lo]?=some y->x<y)->Reg.put l x=l.take lo++[x]++l.drop lo:=by
 intro l
 induction l with
 | nil=>intro lo u _ _;simp at u;subst u;simp[Reg.put]
 | cons a l ih=>
  intro lo u D I;cases lo with
  | zero=>
   have J:=I a rfl;rw[Reg.put,aa (by omega),aa (by omega)];simp
  | succ lo=>
   have J:a<x:=D 0 a (by omega) rfl;rw[Reg.put,ae J,ih lo (by simpa using u) (fun k y hk z=>D (k+1) y (by omega) (by simpa using z)) (fun y z=>I y (by simpa using z))];simp
theorem B1{l:List Int}(h:Reg.ct l){i j:Nat}{a b:Int}(z:l[i]?=some a)(hb:l[j]?=some b)(Ma:i<=j):a<=b:=by
 by_cases e:i=j
 ·subst e;rw[z]at hb;injection hb with hb;omega
 have hi:=(az.1 z);have D:=(az.1 hb);obtain⟨u,V6⟩:=hi;obtain⟨I,Ti⟩:=D;have:=(FZ.1 h) i j u I (by omega);omega
theorem B2(x:Int):∀(l:List Int),(Reg.put l x).length<=l.length+1:=by
 intro l
 induction l with
 | nil=>simp[Reg.put]
 | cons a l ih=>
  rw[Reg.put];split
  ·simp;omega
  split<;>simp
theorem afd(l:List aB)(r:aB):Reg.cr (l++[r])=Reg.put (Reg.put (Reg.cr l) r.y0) r.y1:=by
 unfold Reg.cr;rw[u7];rfl
theorem ag7{l:List aB}{k:Nat}{r:aB}(h:l[k]?=some r):l.take (k+1)=l.take k++[r]:=by
 rw[FX,h];rfl
theorem afe{l:List aB}{k:Nat}{r:aB}(h:l[k]?=some r):Reg.cr (l.take (k+1))=Reg.put (Reg.put (Reg.cr (l.take k)) r.y0) r.y1:=by
 rw[ag7 h,afd]
theorem B3(l:List aB):Reg.ct (Reg.cr l):=(Reg.gY l).1
theorem e8(l:List Int):∀r∈(l.map fun n=>[i64 n]),r.length=1:=by
 intro r u;obtain⟨n,_,rfl⟩:=aZ.1 u;rfl
theorem aaO{a b:Nat}:((a:Int)+(b:Int)).tdiv 2=((a+b) / 2:Nat):=by
 rw[F0 (by omega)];omega
theorem x8{es:List (List PV)}{n a b:Nat}(h:∀r∈es,r.length=n):∀r∈(es.take b).drop a,r.length=n:=fun r u=>h r (Ay (fY u))
theorem abU(l:List Int)(x:Int)(U:Reg.ct l)(hN:l.length<=10000000000000):ai C 166 [.pv (ints l),.pv (i64 x)] (.p (ints (Reg.put l x))) []:=by
 refine fW hC Tryz.func166 rfl (by kernel_rfl) fun _=>?_;refine aP (fun p:Nat×Nat=>p.1<=p.2/\p.2<=l.length/\(∀k y,k<p.1->l[k]?=some y->y<x)/\(∀k y,p.2<=k->l[k]?=some y->x<=y)) (fun p=>[(0,.p (ints l)),(1,.p (i64 x)),(5,.p (i64 p.1)),(6,.p (i64 p.2))]) (fun _=>[]) (fun p=>p.2-p.1) (0,l.length) _ (aA.refl _ _) ⟨ak _,aG _,fun k y h=>by omega,fun k y V L=>?_⟩ ⟨rfl,rfl,rfl,bI (by rw[an]),trivial⟩ trivial fun ⟨lo,hi⟩ Bw t h=>?_
 ·rw[iR (by omega)]at L;cases L
 obtain⟨q1,O,N,R⟩:=Bw;simp only at q1 O N R;have u:=an l fun n=>[i64 n];apply iW<;>intro V<;>try simp only[zB]at V
 ·refine⟨wO (by omega),by decide,⟨?_,?_⟩,?_⟩
  ·rw[aaO];omega
  ·rw[aaO];omega
  obtain⟨y,J⟩:=ax (l:=l) (i:=(lo+hi) / 2) (by omega);refine⟨[i64 y],(idx aaO J),iW ?_ ?_⟩<;>intro L
  ·refine⟨⟨by rw[aaO];omega,by rw[aaO];omega⟩,((lo+hi) / 2+1,hi),_,aA.refl _ _,⟨by simp only;omega,O,fun k z hk D=>?_,R⟩,by simp only;omega,⟨rfl,rfl,bI (by rw[aaO];rfl),Z,Y⟩,trivial⟩;exact Int.lt_of_le_of_lt (B1 U D J (by simp only at hk;omega)) L
  refine⟨(lo,(lo+hi) / 2),_,aA.refl _ _,⟨by simp only;omega,by simp only;omega,N,fun k z hk D=>?_⟩,by simp only;omega,⟨rfl,rfl,rfl,bI aaO,trivial⟩,trivial⟩;have:=B1 U J D hk;omega
 have e:lo=hi:=by omega
 subst e;have I:(∀y,l[lo]?=some y->y≠x)->Reg.put l x=l.take lo++[x]++l.drop lo:=fun cO=>aio x l lo O N fun y J=>by
  have h5:=R lo y (aG _) J;have h6:=cO y J;omega
 apply iW<;>intro L<;>try simp only[zB]at L
 ·rw[u]at L;obtain⟨y,J⟩:=ax (l:=l) (i:=lo) (by omega);refine⟨[i64 y],(idx rfl J),iW ?_ ?_⟩<;>intro W
  ·refine⟨?_,trivial⟩;rw[ahK x l lo N (by rw[J,W])]
  have hp:=I fun z D=>by rw[J]at D;injection D with D;subst D;exact W
  refine⟨⟨by decide,by omega,by rw[u];omega,e8 l⟩,⟨x8 (e8 l),by simp only[lU,cE,u];omega,by simp only[lU,cE,u];omega⟩,⟨by simp,by simp[u];omega,by simp[u];omega⟩,⟨by omega,by rw[u];omega,by omega,e8 l⟩,⟨x8 (e8 l),by simp[u];omega,by simp[u];omega⟩,?_,trivial⟩;rw[hp];simp[ints,cS,fI,i64];rw[kG (by simp)]
 have hp:=I fun z D=>by rw[iR (by omega)]at D;cases D
 refine⟨⟨by decide,by omega,by rw[u];omega,e8 l⟩,⟨x8 (e8 l),by simp only[lU,cE,u];omega,by simp only[lU,cE,u];omega⟩,⟨by simp,by simp[u];omega,by simp[u];omega⟩,⟨by omega,by rw[u];omega,by omega,e8 l⟩,⟨x8 (e8 l),by simp[u];omega,by simp[u];omega⟩,?_,trivial⟩;rw[hp];simp[ints,cS,fI,i64];rw[kG (by simp)]
theorem yR{l:List aB}{k:Nat}{r:aB}(h:l[k]?=some r):Reg.gL (l.drop k)=if Reg.jq r=true then (if r.x1<=r.x0\/r.y1<=r.y0 then 13 else Reg.gL (l.drop (k+1))) else 1:=by
 obtain⟨a,b⟩:=az.1 h;rw[l_ a,b];rfl
theorem ad8(l:List aB):ai C 115 [.pv (aE l)] (.p (i64 (Reg.c7 l))) []:=by
 refine fW hC Tryz.func115 rfl (by kernel_rfl) fun _=>?_;have D:=an l rc;apply iW<;>intro I
 ·rw[D]at I;refine⟨?_,trivial⟩;rw[Reg.c7,ae (by omega)];rfl
 rw[D]at I;have z:Reg.c7 l=Reg.gL l:=by rw[Reg.c7,aa (by omega)]
 refine aP (fun i:Nat=>i<=l.length/\Reg.gL l=Reg.gL (l.drop i)) (fun i=>[(0,.p (aE l)),(3,.p (i64 i))]) (fun _=>[]) (fun i=>l.length-i) 0 _ (aA.refl _ _) ⟨ak _,rfl⟩ ⟨Z,Z,Y⟩ trivial fun i hi t h=>?_;apply iW<;>intro J
 ·rw[D]at J;obtain⟨r,L⟩:=ax (l:=l) (i:=i) (by omega);have u:=yR L;refine⟨(rc r),(idx rfl L),_,_,(aa1 r.x0),iW ?_ ?_⟩<;>intro N
  ·refine⟨?_,trivial⟩;rw[z,hi.2,u,aa (by simp[Reg.jq,N])];rfl
  refine⟨_,_,(aa1 r.y0),iW ?_ ?_⟩<;>intro O
  ·refine⟨?_,trivial⟩;rw[z,hi.2,u,aa (by simp[Reg.jq,O])];rfl
  refine⟨_,_,(aa1 r.x1),iW ?_ ?_⟩<;>intro R
  ·refine⟨?_,trivial⟩;rw[z,hi.2,u,aa (by simp[Reg.jq,R])];rfl
  refine⟨_,_,(aa1 r.y1),iW ?_ ?_⟩<;>intro U
  ·refine⟨?_,trivial⟩;rw[z,hi.2,u,aa (by simp[Reg.jq,U])];rfl
  have V:Reg.jq r=true:=by simp[Reg.jq,N,O,R,U]
  rw[ae V]at u;apply iW<;>intro e1
  ·refine⟨?_,trivial⟩;rw[z,hi.2,u,ae (.inl e1)];rfl
  apply iW<;>intro e2
  ·refine⟨?_,trivial⟩;rw[z,hi.2,u,ae (.inr e2)];rfl
  refine⟨wO (by omega),(i+1),_,aA.refl _ _,⟨by omega,?_⟩,by omega,⟨Z,Z,Y⟩,trivial⟩;rw[hi.2,u,aa (by omega)]
 rw[D]at J;refine⟨?_,trivial⟩;rw[z,hi.2,jR (by omega)];rfl
theorem Ex{l m:List α}{k:Nat}{r t:α}(h:l[k]?=some r)(h':m[k]?=some t):(l.drop k=m.drop k)↔(r=t/\l.drop (k+1)=m.drop (k+1)):=by
 obtain⟨a,b⟩:=az.1 h;obtain⟨u,z⟩:=az.1 h';rw[l_ a,l_ u,b,z,List.cons.injEq]
theorem aeD(l m:List aB)(hN:l.length<=140737488355328):ai C 117 [.pv (aE l),.pv (aE m)] (.p (bool (decide (l=m)))) []:=by
 refine fW hC Tryz.func117 rfl (by kernel_rfl) fun _=>?_;have z:=an l rc;have I:=an m rc;apply iW<;>intro D
 ·rw[z,I]at D;refine⟨?_,trivial⟩;rw[fJ (fun e:l=m=>D (by rw[e]))];rfl
 rw[z,I]at D;refine aP (fun i:Nat=>i<=l.length/\(l=m↔l.drop i=m.drop i)) (fun i=>[(0,.p (aE l)),(1,.p (aE m)),(5,.p (i64 i))]) (fun _=>[]) (fun i=>l.length-i) 0 _ (aA.refl _ _) ⟨ak _,cI⟩ ⟨Z,Z,Z,Y⟩ trivial fun i hi t h=>?_;apply iW<;>intro J
 ·rw[z]at J;obtain⟨r,L⟩:=ax (l:=l) (i:=i) (by omega);obtain⟨q,N⟩:=ax (l:=m) (i:=i) (by omega);have O:=Ex L N;refine⟨(rc r),(idx rfl L),(rc q),(idx rfl N),?_⟩;have R:=Reg.aB.Ib r q;apply iW<;>intro u<;>try simp only[zB]at u
  ·refine⟨?_,trivial⟩;rw[fJ];rfl;rw[hi.2,O,R];simp only[F1,dG]at u;intro ⟨⟨e1,e2,U,V⟩,_⟩;simp[e1,e2,U,V]at u
  refine⟨wO (by omega),(i+1),_,aA.refl _ _,⟨by omega,?_⟩,by omega,⟨Z,Z,Z,Y⟩,trivial⟩;rw[hi.2,O,R];simp[fV]at u;exact and_iff_right u
 refine⟨?_,trivial⟩;rw[z]at J;rw[nq];rfl;rw[hi.2,jR (by omega),jR (by omega)]
theorem ado{l:cw}{a b:Int}:∀(k:Nat),(∀i p,i<k->l[i]?=some p->p.2<a)->k<=l.length->Reg.jo l a b=l.take k++Reg.jo (l.drop k) a b:=by
 induction l with
 | nil=>intro k _ hk;simp at hk;subst hk;simp
 | cons p l ih=>
  intro k h hk;cases k with
  | zero=>simp
  | succ k=>
   have hp:p.2<a:=h 0 p (by omega) rfl;rw[Reg.jo,ae hp,ih k (fun i q hi u=>h (i+1) q (by omega) (by simpa using u)) (by simpa using hk)];simp
theorem ab5{l:cw}{a b:Int}(h:∀p,l[0]?=some p->¬(p.2<a)):Reg.jo l a b=Reg.ov l a b:=by
 cases l with
 | nil=>rfl
 | cons p l=>rw[Reg.jo,aa (h p rfl)]
theorem ox(l:List aB):(Reg.cr l).length<=2*l.length:=by
 unfold Reg.cr
 suffices h:∀(o:List Int),(l.foldl (fun out r=>Reg.put (Reg.put out r.y0) r.y1) o).length<=o.length+2*l.length by
  have:=h [];simpa using this
 induction l with
 | nil=>intro o;simp
 | cons r l ih=>
  intro o;have h1:=ih (Reg.put (Reg.put o r.y0) r.y1);have h2:=B2 r.y0 o;have h3:=B2 r.y1 (Reg.put o r.y0);simp only[jN,bN];omega
theorem adr(l:List aB)(hN:l.length<=4398046511104):ai C 123 [.pv (aE l)] (.p (ints (Reg.cr l))) []:=by
 refine fW hC Tryz.func123 rfl (by kernel_rfl) fun _=>?_;have z:=an l rc;refine aP (fun i:Nat=>i<=l.length) (fun i=>[(0,.p (aE l)),(3,.p (ints (Reg.cr (l.take i)))),(4,.p (i64 i))]) (fun _=>[]) (fun i=>l.length-i) 0 _ (aA.nil hC _ 3 rfl) (ak _) ⟨Z,Z,Z,Y⟩ trivial fun i hi t h=>?_;apply iW<;>intro D
 ·rw[z]at D;obtain⟨r,u⟩:=ax (l:=l) (i:=i) (by omega);have hL:=ox (l.take i);have YV:=gK i l;refine⟨(rc r),(idx rfl u),?_⟩;have hL3:=B2 r.y0 (Reg.cr (l.take i));refine⟨_,_,(abU _ r.y0 (B3 _) (by omega)),(rc r),(idx rfl u),_,_,(abU _ r.y1 (Reg.B0 _ _ (B3 _)) (by omega)),wO (by omega),(i+1),_,aA.refl _ _,by omega,by omega,⟨rfl,?_,Z,Y⟩,trivial⟩;rw[afe u];rfl
 rw[z]at D;refine⟨?_,trivial⟩;rw[kG (by omega)]
theorem ai6(a b:Int×Int):a=b↔a.1=b.1/\a.2=b.2:=Prod.ext_iff
theorem aeG(l m:cw)(hN:l.length<=140737488355328):ai C 167 [.pv (n5 l),.pv (n5 m)] (.p (bool (decide (l=m)))) []:=by
 refine fW hC Tryz.func167 rfl (by kernel_rfl) fun _=>?_;have z:=an l sp;have I:=an m sp;apply iW<;>intro D
 ·rw[z,I]at D;refine⟨?_,trivial⟩;rw[fJ (fun e:l=m=>D (by rw[e]))];rfl
 rw[z,I]at D;refine aP (fun i:Nat=>i<=l.length/\(l=m↔l.drop i=m.drop i)) (fun i=>[(0,.p (n5 l)),(1,.p (n5 m)),(5,.p (i64 i))]) (fun _=>[]) (fun i=>l.length-i) 0 _ (aA.refl _ _) ⟨ak _,cI⟩ ⟨Z,Z,Z,Y⟩ trivial fun i hi t h=>?_;apply iW<;>intro J
 ·rw[z]at J;obtain⟨r,L⟩:=ax (l:=l) (i:=i) (by omega);obtain⟨q,N⟩:=ax (l:=m) (i:=i) (by omega);have O:=Ex L N;refine⟨(sp r),(idx rfl L),(sp q),(idx rfl N),?_⟩;have R:=ai6 r q;apply iW<;>intro u<;>try simp only[zB]at u
  ·refine⟨?_,trivial⟩;rw[fJ];rfl;rw[hi.2,O,R];simp only[F1,dG]at u;intro ⟨⟨e1,e2⟩,_⟩;simp[e1,e2]at u
  refine⟨wO (by omega),(i+1),_,aA.refl _ _,⟨by omega,?_⟩,by omega,⟨Z,Z,Z,Y⟩,trivial⟩;rw[hi.2,O,R];simp[fV]at u;exact and_iff_right u
 refine⟨?_,trivial⟩;rw[z]at J;rw[nq];rfl;rw[hi.2,jR (by omega),jR (by omega)]
theorem agU(l:cw):∀r∈l.map sp,r.length=2:=by
 intro r u;obtain⟨n,_,rfl⟩:=aZ.1 u;rfl
theorem afy{l:cw}{k:Nat}{p:Int×Int}{a b:Int}(h:l[k]?=some p):Reg.ov (l.drop k) a b=if p.1<=b then Reg.ov (l.drop (k+1)) (min a p.1) (max b p.2) else (a,b)::l.drop k:=by
 obtain⟨u,z⟩:=az.1 h;rw[l_ u,z];rfl
theorem aaP(l:cw)(a b:Int)(hN:l.length<=8796093022207):ai C 168 [.pv (n5 l),.pv (.ag (sp (a,b)))] (.p (n5 (Reg.jo l a b))) []:=by
 refine FP ⟨[],[0,2],[],[],[(7,[true,true,true,true,true,true,true,true,true,true,true,true,false,true,false,true,true,false,true,true])],[]⟩ hC Tryz.func168 rfl (by kernel_rfl) fun _=>?_;have I:=an l sp;refine Ak (fun i:Nat=>i<=l.length/\Reg.jo l a b=l.take i++Reg.ov (l.drop i) a b) (fun i=>[(0,.p (n5 l)),(3,.bx 3 0),(5,.ow 5),(6,.p (i64 i))]) (fun i=>[(3,.box [.p (i64 a),.p (i64 b)]),(5,.row 229 ((l.take i).map sp))]) (fun i hi t h=>?_) ?_
 ·obtain⟨U,W⟩:=hi;have lt:=gK i l;refine Ak (fun y:Nat×Int×Int=>(i<=y.1/\y.1<=l.length)/\Reg.jo l a b=l.take i++(y.2.1,y.2.2)::l.drop y.1) (fun y=>[(0,.p (n5 l)),(3,.bx 3 0),(5,.ow 5),(6,.p (i64 y.1))]) (fun y=>[(3,.box [.p (i64 y.2.1),.p (i64 y.2.2)]),(5,.row 229 ((l.take i).map sp))]) (fun y V t h=>?_) ?_
  ·obtain⟨k,N,O⟩:=y;obtain⟨z,u⟩:=V;simp only at z u;refine⟨⟨by simp,by simp;omega,by simp;omega⟩,⟨by omega,by rw[I];omega,by omega,agU l⟩,⟨x8 (agU l),by simp[I];omega,by simp[I];omega⟩,?_,trivial⟩;rw[u];simp[n5,cS,fI,sp,i64];rw[kG (by simp)]
  refine aP (fun y:Nat×Int×Int=>(i<=y.1/\y.1<=l.length)/\Reg.jo l a b=l.take i++Reg.ov (l.drop y.1) y.2.1 y.2.2) (fun y=>[(0,.p (n5 l)),(3,.bx 3 0),(5,.ow 5),(6,.p (i64 y.1))]) (fun y=>[(3,.box [.p (i64 y.2.1),.p (i64 y.2.2)]),(5,.row 229 ((l.take i).map sp))]) (fun y=>l.length-y.1) (i,a,b) _ (aA.refl _ _) ⟨⟨aG _,U⟩,W⟩ ⟨Z,Z,Z,Z,Y⟩ ⟨Z,Z,Y⟩ fun y V t h=>?_;obtain⟨k,N,O⟩:=y;obtain⟨z,u⟩:=V;simp only at z u;apply iW<;>intro J<;>try simp only[zB]at J
  ·rw[I]at J;obtain⟨r,D⟩:=ax (l:=l) (i:=k) (by omega);have R:=afy (a:=N) (b:=O) D;refine⟨(sp r),(idx rfl D),iW ?_ ?_⟩<;>intro L<;>try simp only[zB]at L
   ·rw[ae L]at R;exact⟨(sp r),(idx rfl D),(sp r),(idx rfl D),wO (by omega),(k+1,min N r.1,max O r.2),_,aA.refl _ _,⟨by simp only;omega,by rw[u,R]⟩,by simp only;omega,⟨Z,Z,Z,Z,Y⟩,⟨Z,Z,Y⟩⟩
   rw[aa L]at R;exact⟨(k,N,O),⟨z,by rw[u,R]⟩,⟨Z,Z,Z,Z,Y⟩,⟨Z,Z,Y⟩⟩
  rw[I]at J;refine⟨(k,N,O),⟨z,?_⟩,⟨Z,Z,Z,Z,Y⟩,⟨Z,Z,Y⟩⟩;rw[u,jR (show l.length<=k by omega)];rfl
 refine aP (fun i:Nat=>i<=l.length/\∀k p,k<i->l[k]?=some p->p.2<a) (fun i=>[(0,.p (n5 l)),(3,.bx 3 0),(5,.ow 5),(6,.p (i64 i))]) (fun i=>[(3,.box [.p (i64 a),.p (i64 b)]),(5,.row 229 ((l.take i).map sp))]) (fun i=>l.length-i) 0 _ (aA.eK hC _ 5 229 _ (by decide) rfl rfl (by decide)) ⟨ak _,fun k p h=>by omega⟩ ⟨Z,Z,Z,Z,Y⟩ ⟨Z,Z,Y⟩ fun i hi t h=>?_;have lt:=gK i l;apply iW<;>intro J
 ·rw[I]at J;obtain⟨r,D⟩:=ax (l:=l) (i:=i) (by omega);refine⟨(sp r),(idx rfl D),iW ?_ ?_⟩<;>intro L
  ·refine⟨(sp r),(idx rfl D),⟨by simp[sp],by simp;omega,by simp;omega⟩,wO (by omega),(i+1),_,aA.refl _ _,⟨by omega,fun k p hk hp=>?_⟩,by omega,⟨Z,Z,Z,Z,Y⟩,⟨rfl,?_,trivial⟩⟩
   ·by_cases e:k=i
    ·subst e;rw[D]at hp;injection hp with hp;rw[<-hp];exact L
    exact hi.2 k p (by omega) hp
   rw[bq D,E8];rfl
  refine⟨i,⟨hi.1,?_⟩,⟨Z,Z,Z,Z,Y⟩,⟨Z,Z,Y⟩⟩;rw[ado i hi.2 hi.1,ab5];intro p hp;rw[aW,tz,D]at hp;injection hp with hp;rw[<-hp];exact L
 rw[I]at J;refine⟨i,⟨hi.1,?_⟩,⟨Z,Z,Z,Z,Y⟩,⟨Z,Z,Y⟩⟩;rw[ado i hi.2 hi.1,ab5];intro p hp;rw[iR (by simp;omega)]at hp;cases hp
open Reg (aR)
theorem DI:∀(l:cw) (a b:Int),(Reg.ov l a b).length<=l.length+1:=by
 intro l
 induction l with
 | nil=>intro a b;simp[Reg.ov]
 | cons p l ih=>
  intro a b;rw[Reg.ov];split
  ·have:=ih (min a p.1) (max b p.2);simp only[bN];omega
  simp
theorem DJ:∀(l:cw) (a b:Int),(Reg.jo l a b).length<=l.length+1:=by
 intro l
 induction l with
 | nil=>intro a b;simp[Reg.jo]
 | cons p l ih=>
  intro a b;rw[Reg.jo];split
  ·have:=ih a b;simp only[bN];omega
  exact DI _ a b
theorem wU{l:List aB}{i:Nat}{r:aB}(y:Int)(h:l[i]?=some r):Reg.rowOf (l.take (i+1)) y=if r.y0<=y/\y<r.y1 then Reg.jo (Reg.rowOf (l.take i) y) r.x0 r.x1 else Reg.rowOf (l.take i) y:=by
 rw[bq h];unfold Reg.rowOf;rw[nt,u7];by_cases u:r.y0<=y/\y<r.y1
 ·rw[ae u];simp[u.1,u.2]
 rw[aa u];have:(decide (r.y0<=y)&&decide (y<r.y1))=false:=by simpa using fun z D=>u ⟨z,D⟩
 simp[this]
theorem KO(l:List aB)(y:Int):∀i,i<=l.length->(Reg.rowOf (l.take i) y).length<=i:=by
 intro i
 induction i with
 | zero=>intro _;simp[Reg.rowOf]
 | succ i ih=>
  intro hi;obtain⟨r,u⟩:=ax (l:=l) (i:=i) (by omega);rw[wU y u];have h1:=ih (by omega);have h2:=DJ (Reg.rowOf (l.take i) y) r.x0 r.x1;split<;>omega
theorem wV(l:List aB)(y:Int):(Reg.rowOf l y).length<=l.length:=by
 have:=KO l y l.length (aG _)
 rwa [nu]at this
theorem ad1(l:List aB)(y:Int)(hN:l.length<=4398046511104):ai C 125 [.pv (aE l),.pv (i64 y)] (.p (n5 (Reg.rowOf l y))) []:=by
 refine fW hC Tryz.func125 rfl (by kernel_rfl) fun _=>?_;have D:=an l rc;refine aP (fun i:Nat=>i<=l.length) (fun i=>[(0,.p (aE l)),(1,.p (i64 y)),(5,.p (n5 (Reg.rowOf (l.take i) y))),(6,.p (i64 i))]) (fun _=>[]) (fun i=>l.length-i) 0 _ (aA.nil hC _ 5 rfl) (ak _) ⟨Z,Z,Z,Z,Y⟩ trivial fun i hi t h=>?_;apply iW<;>intro I
 ·rw[D]at I;obtain⟨r,z⟩:=ax (l:=l) (i:=i) (by omega);have u:=wU y z;have hL:=KO l y i hi;refine⟨(rc r),(idx rfl z),iW ?_ ?_⟩<;>intro J
  ·refine⟨(rc r),(idx rfl z),iW ?_ ?_⟩<;>intro L
   ·rw[ae ⟨J,L⟩]at u;exact⟨(rc r),(idx rfl z),(rc r),(idx rfl z),_,_,(aaP _ r.x0 r.x1 (by omega)),wO (by omega),(i+1),_,aA.refl _ _,by omega,by omega,⟨rfl,rfl,by rw[u];rfl,Z,Y⟩,trivial⟩
   rw[aa (fun h=>L h.2)]at u;exact⟨wO (by omega),(i+1),_,aA.refl _ _,by omega,by omega,⟨rfl,rfl,by rw[u];rfl,Z,Y⟩,trivial⟩
  rw[aa (fun h=>J h.1)]at u;exact⟨wO (by omega),(i+1),_,aA.refl _ _,by omega,by omega,⟨rfl,rfl,by rw[u];rfl,Z,Y⟩,trivial⟩
 rw[D]at I;refine⟨?_,trivial⟩;rw[kG (by omega)]
theorem acv(l:List aB)(x y:Int)(u:l.length<=4398046511104):ai C 169 [.pv (aE l),.pv (.ag [i64 x,i64 y])] (.p (bool (ay (Reg.rowOf l y) x))) []:=by
 refine fW hC Tryz.func169 rfl (by kernel_rfl) fun _=>?_;have hL:=wV l y;refine⟨_,_,(ad1 l y u),_,_,(acf _ x (by omega)),?_,trivial⟩;rfl
def bd(b:aR):List PV:=[i64 b.y0,i64 b.y1,n5 b.xs]
theorem Ih{l:List α}{n:Nat}{x:α}(u:l.length=n+1)(h:l[n]?=some x):l.getLast?=some x:=by
 rw[jS,u];exact h
theorem ads(l:List aR)(b:aR)(hN:l.length<=3000000000000)(W:∀t∈l,t.xs.length<=10000000000000):ai C 124 [.row 191 (l.map bd),.pv (.ag (bd b))] (.own 191 ((Reg.fj l b).map bd)) [.gone]:=by
 refine fW hC Tryz.func124 rfl (by kernel_rfl) fun _=>?_;have u:=an l bd;have O:=an b.xs sp;have done:∀z:List aR,z=Reg.fj l b->AB.row 191 (z.map bd)=AB.row 191 ((Reg.fj l b).map bd):=fun z e=>by rw[e]
 apply iW<;>intro L
 ·rw[O]at L;have J:b.xs=[]:=Az (by omega);exact⟨done l (by rw[Reg.fj,ae J]),Z,Y⟩
 rw[O]at L;have J:b.xs≠[]:=fun e=>L (by rw[e];rfl);have D:l++[b]=Reg.fj l b->AB.row 191 (l.map bd++[bd b])=AB.row 191 ((Reg.fj l b).map bd):=fun e=>by rw[<-e,E8];rfl
 apply iW<;>intro R
 ·rw[u]at R;obtain⟨m,N⟩:∃m,l.length=m+1:=⟨l.length-1,by omega⟩;have hi:((l.map bd).length:Int)-1=(m:Nat):=by rw[u];omega
  have hp:Reg.fj l b=match l.getLast? with
   | some t=>if t.y1=b.y0/\t.xs=b.xs then l.dropLast++[⟨t.y0,b.y1,t.xs⟩] else l++[b]
   | none=>[b]:=by rw[Reg.fj,aa J]<;>rfl
  obtain⟨t,I⟩:=ax (l:=l) (i:=m) (by omega);rw[Ih N I]at hp;simp only at hp;refine⟨⟨by rw[u];omega,by rw[u];omega⟩,⟨by rw[hi];omega,by rw[hi,u];omega⟩,(bd t),(idx hi I).2,iW ?_ ?_⟩<;>intro U
  ·refine⟨⟨by rw[u];omega,by rw[u];omega⟩,⟨by rw[hi];omega,by rw[hi,u];omega⟩,(bd t),(idx hi I).2,_,_,(aeG t.xs b.xs (by have:=W t (aj I);omega)),iW ?_ ?_⟩<;>intro V
   ·refine⟨⟨by rw[u];omega,by rw[u];omega⟩,⟨by rw[hi];omega,by rw[hi,u];omega⟩,(bd t),(idx hi I).2,?_⟩;rw[ae ⟨U,V⟩]at hp;have qh:∀k:Nat,k=m->AB.row 191 ((l.map bd).set k [i64 t.y0,i64 b.y1,n5 t.xs])=AB.row 191 ((Reg.fj l b).map bd):=by
     intro k e;subst e;rw[hp];obtain⟨d,hd⟩:=aY.1 (Ih N I);subst hd;have hk:k=d.length:=by simp at N;omega
     subst hk;simp[bd]
    exact⟨qh _ (by rw[hi];rfl),Z,Y⟩
   rw[aa (fun h=>V h.2)]at hp;exact⟨⟨by simp,by simp;omega,by simp;omega⟩,D hp.symm,Z,Y⟩
  rw[aa (fun h=>U h.1)]at hp;exact⟨⟨by simp,by simp;omega,by simp;omega⟩,D hp.symm,Z,Y⟩
 rw[u]at R;have hl:l=[]:=Az (by omega);exact⟨⟨by simp,by simp;omega,by simp;omega⟩,D (by subst hl;rw[Reg.fj,aa J];rfl),Z,Y⟩
theorem qn{s:List aR}{i:Nat}{b:aR}(h:s[i]?=some b):Reg.told (s.take (i+1))=Reg.told (s.take i)++b.xs.map fun p=>⟨p.1,b.y0,p.2,b.y1⟩:=by
 rw[bq h];simp[Reg.told]
theorem zP(s:List aR)(u:∀t∈s,t.xs.length<=1000000):(Reg.told s).length<=s.length*1000000:=by
 induction s with
 | nil=>simp[Reg.told]
 | cons b s ih=>
  have h1:=u b (by simp);have z:=ih fun t D=>u t (by simp[D]);simp only[Reg.told,l6,bJ,E5,bN]at z ⊢;simp only[mY];omega
theorem kL{r:List PV}{n:Nat}(h:r.length=n):∀r'∈[r],r'.length=n:=fun r' u=>by rw[Fp.1 u];exact h
def oU(b:aR)(k:Nat):List aB:=(b.xs.take k).map fun p=>⟨p.1,b.y0,p.2,b.y1⟩
theorem afz(l:List aR)(hN:l.length<=3000000000000)(I:∀t∈l,t.xs.length<=10000000000000)(hT:(Reg.told l).length<=4398046511104):ai C 126 [.pv (.sl (l.map bd))] (.p (aE (Reg.told l))) []:=by
 refine FP ⟨[],[2],[],[8],[],[]⟩ hC Tryz.func126 rfl (by kernel_rfl) fun _=>?_;have u:=an l bd;have J:∀i,(Reg.told (l.take i)).length<=(Reg.told l).length:=fun i=>by
  have e:Reg.told l=Reg.told (l.take i)++Reg.told (l.drop i):=by
   unfold Reg.told;rw[<-aT,nj]
  rw[e,bJ];omega
 refine aP (fun i:Nat=>i<=l.length) (fun i=>[(0,.p (.sl (l.map bd))),(3,.ow 3),(4,.p (i64 i))]) (fun i=>[(3,.row 90 ((Reg.told (l.take i)).map rc))]) (fun i=>l.length-i) 0 _ (aA.eK hC _ 3 90 _ (by decide) rfl rfl (by decide)) (ak _) ⟨Z,Z,Z,Y⟩ ⟨Z,Y⟩ fun i hi t h=>?_;apply iW<;>intro z
 ·rw[u]at z;obtain⟨b,hb⟩:=ax (l:=l) (i:=i) (by omega);have bm:=an b.xs sp;have hb':=I b (aj hb);have L:=J (i+1);rw[qn hb,bJ,E5]at L;refine Ak (fun _:Unit=>True) (fun _=>[(0,.p (.sl (l.map bd))),(3,.ow 3),(4,.p (i64 i))]) (fun _=>[(3,.row 90 ((Reg.told (l.take (i+1))).map rc))]) (fun _ _ t h=>?_) ?_
  ·exact⟨wO (by omega),(i+1),_,aA.refl _ _,by omega,by omega,⟨Z,Z,Z,Y⟩,⟨Z,Y⟩⟩
  refine aP (fun k:Nat=>k<=b.xs.length) (fun k=>[(0,.p (.sl (l.map bd))),(3,.ow 3),(4,.p (i64 i)),(5,.p (i64 k))]) (fun k=>[(3,.row 90 ((Reg.told (l.take i)++oU b k).map rc))]) (fun k=>b.xs.length-k) 0 _ (aA.refl _ _) (ak _) ⟨Z,Z,Z,Z,Y⟩ ⟨by rw[oU];simp;rfl,trivial⟩ fun k hk t h=>?_;have KR:(oU b k).length<=k:=by simp[oU];omega
  refine⟨(bd b),(idx rfl hb),iW ?_ ?_⟩<;>intro D
  ·rw[bm]at D;obtain⟨p,hp⟩:=ax (l:=b.xs) (i:=k) (by omega);refine⟨(bd b),(idx rfl hb),(sp p),(idx rfl hp),(bd b),(idx rfl hb),(bd b),(idx rfl hb),(sp p),(idx rfl hp),(bd b),(idx rfl hb),⟨kL rfl,by simp;omega,by simp;omega⟩,wO (by omega),(k+1),_,aA.refl _ _,by omega,by omega,⟨Z,Z,Z,Z,Y⟩,⟨?_,trivial⟩⟩;have N:oU b (k+1)=oU b k++[⟨p.1,b.y0,p.2,b.y1⟩]:=by simp[oU,bq hp]
   have e:(Reg.told (l.take i)++oU b k).map rc++[rc ⟨p.1,b.y0,p.2,b.y1⟩]=(Reg.told (l.take i)++oU b (k+1)).map rc:=by
    rw[N,<-d_,E8 (l₂:=[_])];rfl
   exact ar (AB.row 90) e
  rw[bm]at D;refine⟨(),trivial,⟨Z,Z,Z,Y⟩,⟨?_,trivial⟩⟩;rw[qn hb];have:oU b k=b.xs.map fun p=>⟨p.1,b.y0,p.2,b.y1⟩:=by rw[oU,kG (by omega)]
  rw[<-this];rfl
 rw[u]at z;refine⟨?_,trivial⟩;rw[kG (by omega)];rfl
theorem F5(l:List aR)(b:aR):(Reg.fj l b).length<=l.length+1:=by
 unfold Reg.fj;split
 ·omega
 split
 ·split
  ·rw[bJ,List.length_dropLast];simp only[ij];omega
  simp
 simp
theorem Ii(l:List aR)(b:aR)(n:Nat)(hl:∀t∈l,t.xs.length<=n)(hb:b.xs.length<=n):∀t∈Reg.fj l b,t.xs.length<=n:=by
 unfold Reg.fj;split
 ·exact hl
 split
 ·rename_i t D;split
  ·intro u z;rcases fC.1 z with h | h
   ·exact hl u ((List.dropLast_sublist l).subset h)
   rw[Fp.1 h];exact hl t (List.mem_of_getLast? D)
  intro u z;rcases fC.1 z with h | h
  ·exact hl u h
  rw[Fp.1 h];exact hb
 intro u z;rw[Fp.1 z];exact hb
theorem sS(l:List aB)(ys:List Int):∀k,(Reg.dw l ys k).length<=k:=by
 intro k
 induction k with
 | zero=>simp[Reg.dw]
 | succ k ih=>rw[Reg.dw];have:=F5 (Reg.dw l ys k) ⟨ys.getD k 0,ys.getD (k+1) 0,Reg.rowOf l (ys.getD k 0)⟩;omega
theorem KP(l:List aB)(ys:List Int):∀k,∀t∈Reg.dw l ys k,t.xs.length<=l.length:=by
 intro k
 induction k with
 | zero=>simp[Reg.dw]
 | succ k ih=>rw[Reg.dw];exact Ii _ _ _ ih (wV _ _)
theorem A2{l:List Int}{i:Nat}{x:Int}(h:l[i]?=some x):l.getD i 0=x:=by rw[dc,h];rfl
theorem ab8(l:List aB)(R:l.length<=4398046511104)(u:(Reg.cr l).length<=3000000000000)(U:(Reg.t_ l).length<=4398046511104):ai C 64 [.pv (aE l)] (.p (aE (Reg.t_ l))) []:=by
 refine FP ⟨[],[],[],[6],[],[]⟩ hC Tryz.func64 rfl (by kernel_rfl) fun _=>?_;have I:=an (Reg.cr l) fun n=>[i64 n];have hL:=ox l;refine⟨_,_,(adr l R),?_⟩;refine aP (fun k:Nat=>k<=(Reg.cr l).length-1) (fun k=>[(0,.p (aE l)),(3,.p (ints (Reg.cr l))),(4,.ow 4),(5,.p (i64 ((k:Int)+1)))]) (fun k=>[(4,.row 191 ((Reg.dw l (Reg.cr l) k).map bd))]) (fun k=>(Reg.cr l).length-k) 0 _ (aA.eK hC _ 4 191 _ (by decide) rfl rfl (by decide)) (ak _) ⟨Z,Z,Z,Z,Y⟩ ⟨Z,Y⟩ fun k hk t h=>?_;have bl:=sS l (Reg.cr l) k;have bx:=KP l (Reg.cr l) k;apply iW<;>intro J
 ·rw[I]at J;obtain⟨y,u⟩:=ax (l:=Reg.cr l) (i:=k) (by omega);obtain⟨L,N⟩:=ax (l:=Reg.cr l) (i:=k+1) (by omega);have O:(k:Int)+1-1=(k:Nat):=by omega
  have z:(k:Int)+1=((k+1:Nat):Int):=by omega
  refine⟨wO (by omega),[i64 y],(idx O u),[i64 L],(idx z N),wO (by omega),[i64 y],(idx O u),_,_,(ad1 l y (by omega)),_,_,(ads _ ⟨y,L,Reg.rowOf l y⟩ (by omega) (fun t D=>by have:=bx t D;omega)),wO (by omega),(k+1),_,aA.refl _ _,by omega,by omega,⟨rfl,rfl,rfl,bI (by omega),trivial⟩,⟨?_,trivial⟩⟩;rw[Reg.dw,A2 u,A2 N];rfl
 rw[I]at J;refine⟨_,_,(afz _ (by omega) (fun t D=>by have:=bx t D;omega) (by rw[show k=(Reg.cr l).length-1 by omega];exact U)),?_,trivial⟩;rw[Reg.t_,Reg.cH,show (Reg.cr l).length-1=k by omega]
theorem ab_(l:List aB)(hN:l.length<=1000000):(Reg.t_ l).length<=4398046511104:=by
 have h1:=zP (Reg.dw l (Reg.cr l) ((Reg.cr l).length-1)) (fun t u=>by have:=KP l (Reg.cr l) _ t u;omega);have h2:=sS l (Reg.cr l) ((Reg.cr l).length-1);have h3:=ox l;have h4:(Reg.dw l (Reg.cr l) ((Reg.cr l).length-1)).length*1000000<=2000000*1000000:=cq _ (by omega);have e:Reg.t_ l=Reg.told (Reg.dw l (Reg.cr l) ((Reg.cr l).length-1)):=rfl;rw[e];omega
theorem DK{l:List aB}:∀{i:Nat} {a b:aB},l[i]?=some a->l[i+1]?=some b->Reg.before a b=false->Reg.ordered l=false:=by
 induction l with
 | nil=>intro i a b h;simp at h
 | cons x l ih=>
  intro i a b z u D;cases l with
  | nil=>simp at u
  | cons y l=>
   rw[Reg.ordered];cases i with
   | zero=>
    simp at z u;subst z;subst u;rw[D];rfl
   | succ i=>rw[ih (i:=i) (by simpa using z) (by simpa using u) D,wS]
theorem F6{l:List aB}:(∀(i:Nat) a b,l[i]?=some a->l[i+1]?=some b->Reg.before a b=true)->Reg.ordered l=true:=by
 induction l with
 | nil=>intro _;rfl
 | cons x l ih=>
  intro h;cases l with
  | nil=>rfl
  | cons y l=>
   rw[Reg.ordered,h 0 x y rfl rfl,ih fun i a b u z=>h (i+1) a b (by simpa using u) (by simpa using z)];rfl
theorem abq(l:List aB):ai C 59 [.pv (aE l)] (.p (i64 (Reg.bA l))) []:=by
 refine FP ⟨[],[0],[],[],[],[]⟩ hC Tryz.func59 rfl (by kernel_rfl) fun _=>?_;have N:=an l rc;refine⟨_,_,(ad8 l),iW ?_ ?_⟩<;>intro u
 ·refine⟨?_,trivial⟩;rw[Reg.bA,aa u]
 have u:Reg.c7 l=0:=by simpa using u
 obtain⟨hl,_⟩:=Reg.vD u;have L:Reg.bA l=(if Reg.ordered l=true then (if Reg.t_ l=l then 0 else 3) else 8):=by rw[Reg.bA,ae u]
 refine Ak (fun _:Unit=>Reg.ordered l=true) (fun _=>[(0,.p (aE l))]) (fun _=>[]) (fun _ R t h=>?_) ?_
 ·rw[ae R]at L;have hh:=ox l;refine⟨_,_,(ab8 l (by omega) (by omega) (ab_ l (by omega))),_,_,(aeD l _ (by omega)),iW ?_ ?_⟩<;>intro z
  ·refine⟨?_,trivial⟩;rw[L,aa (fun e=>z e.symm)];rfl
  refine⟨?_,trivial⟩;rw[L,ae (by simpa using z.symm)];rfl
 refine aP (fun i:Nat=>∀(j:Nat) a b,j<i->l[j]?=some a->l[j+1]?=some b->Reg.before a b=true) (fun i=>[(0,.p (aE l)),(4,.p (i64 ((i:Int)+1)))]) (fun _=>[]) (fun i=>l.length-i) 0 _ (aA.refl _ _) (fun j a b h=>by omega) ⟨Z,Z,Y⟩ trivial fun i hi t h=>?_;apply iW<;>intro O
 ·rw[N]at O;obtain⟨a,D⟩:=ax (l:=l) (i:=i) (by omega);obtain⟨b,hb⟩:=ax (l:=l) (i:=i+1) (by omega);refine⟨wO (by omega),(rc a),(idx (show ((i:Int)+1)-1=(i:Nat) by omega) D),(rc b),(idx (show ((i:Int)+1)=((i+1:Nat):Int) by omega) hb),_,_,(ad7 a b),iW ?_ ?_⟩<;>intro z
  ·refine⟨?_,trivial⟩;rw[L,aa (by rw[DK D hb z];decide)];rfl
  refine⟨wO (by omega),(i+1),_,aA.refl _ _,fun j x y hj I J=>?_,by omega,⟨rfl,bI (by omega),trivial⟩,trivial⟩;by_cases e:j=i
  ·subst e;rw[D]at I;injection I with I;rw[hb]at J;injection J with J;rw[<-I,<-J];simpa using z
  exact hi j x y (by omega) I J
 rw[N]at O;refine⟨(),F6 fun j a b D hb=>hi j a b ?_ D hb,⟨Z,Y⟩,trivial⟩;have:=(az.1 hb).1;omega
def str(s:ByteArray):PV:=.im (.string s)
def strs(l:List ByteArray):PV:=.sl (l.map fun s=>[str s])
def iG(n:Int):Bool:=decide (0<=n)&&decide (n<=100000)
def hasB(l:List ByteArray)(x:ByteArray):Bool:=l.any fun y=>decide (y=x)
end M
end Go.Proofs.YtliffnpbaeijgaaGreatDoor
