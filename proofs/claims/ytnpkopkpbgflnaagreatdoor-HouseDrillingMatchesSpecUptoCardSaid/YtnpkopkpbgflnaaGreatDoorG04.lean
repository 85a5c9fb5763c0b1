/- Part 4 of the proof of HouseDrillingMatchesSpec. -/
import Derived.Test.YtnpkopkpbgflnaaGreatDoorG03
import Derived.Shelf.Small.Bits
import Derived.Shelf.Small.Strs
import Derived.Shelf.Utf8.RuneCount
import Derived.Shelf.Strconv.Itoa0
import Derived.Shelf.Strconv.Itoa1
import Derived.Shelf.LaysM
import Derived.Shelf.Strconv.Itoa2
import Derived.Shelf.Strconv.Itoa3
import Derived.Shelf.Strings.Search1
import Derived.Shelf.Strings.Search2
import Derived.Shelf.Strings.Search3
import Derived.Shelf.Strings.Count
import Derived.Shelf.Strings.Shaped
import Derived.Shelf.Sort.Plain
import Derived.Shelf.Strings.Split
import Derived.Shelf.Strings.SplitShaped
import Derived.Shelf.Unicode.Decode
import Derived.Shelf.Strings.RuneCount
import Derived.Shelf.Strings.Explode
import Derived.Shelf.Unicode.DecodeSlow
import Derived.Shelf.Unicode.DecodeAny
import Derived.Shelf.Slices.Equal
import Derived.Ground.Names2Prog
import Derived.Shelf.Slices.CompactI
import Derived.Shelf.Slices.SearchI
import Derived.Shelf.Slices.Cells
import Derived.Shelf.Slices.In.SortNone
import Derived.Shelf.Slices.Empties2
import Derived.Shelf.SlSortCmp.WholeK
import Derived.Shelf.SlGeneric
import Derived.Ground.SlsfProg
import Derived.Test.YtnpkopkpbgflnaaGreatDoorProg
import Derived.Lib.LaidTab
import Derived.Lib.ItoaNum
set_option linter.unusedVariables false
set_option linter.unusedSimpArgs false
set_option maxRecDepth 100000
set_option maxHeartbeats 8000000
namespace Go
abbrev pK:=@Int.le_refl
abbrev uZ:=@Prod.ext
abbrev se:=@List.foldl_append
abbrev yU:=@List.pairwise_append
abbrev mn:=@List.pairwise_cons
abbrev iB:=@Go.Proofs.Tryz.underlying3
abbrev oa:=@Go.Proofs.Tryz.isAgg3
abbrev ob:=@Go.Proofs.Tryz.sizeOf3
abbrev oc:=@Go.Proofs.Tryz.zeroValue3
abbrev od:=@Go.Proofs.Tryz.underlying9
abbrev pL:=@Go.Proofs.Tryz.isAgg9
abbrev pM:=@Go.Proofs.Tryz.sizeOf9
abbrev pN:=@Go.Proofs.Tryz.zeroValue9
abbrev sf:=@Go.Proofs.Tryz.underlying5
abbrev sg:=@Go.Proofs.Tryz.isAgg5
abbrev si:=@Go.Proofs.Tryz.sizeOf5
abbrev sj:=@Go.Proofs.Tryz.zeroValue5
abbrev ss:=@Go.Proofs.Tryz.underlying0
abbrev su:=@Go.Proofs.Tryz.isAgg0
abbrev sv:=@Go.Proofs.Tryz.sizeOf0
abbrev sw:=@Go.Proofs.Tryz.zeroValue0
abbrev mo:=@Go.Proofs.Tryz.underlying4
abbrev sx:=@Go.Proofs.Tryz.isAgg4
abbrev sy:=@Go.Proofs.Tryz.sizeOf4
abbrev sA:=@Go.Proofs.Tryz.zeroValue4
abbrev u3:=@Go.Proofs.Tryz.underlying278
abbrev u4:=@Go.Proofs.Tryz.isAgg278
abbrev u5:=@Go.Proofs.Tryz.sizeOf278
abbrev u6:=@Go.Proofs.Tryz.zeroValue278
abbrev u7:=@Go.Proofs.Tryz.underlying363
abbrev u9:=@Go.Proofs.Tryz.isAgg363
abbrev u_:=@Go.Proofs.Tryz.sizeOf363
abbrev va:=@Go.Proofs.Tryz.zeroValue363
abbrev vc:=@Go.Proofs.Tryz.underlying365
abbrev yV:=@Go.Proofs.Tryz.isAgg365
abbrev yW:=@Go.Proofs.Tryz.sizeOf365
abbrev yX:=@Go.Proofs.Tryz.zeroValue365
abbrev DN:=@Go.Proofs.Tryz.underlying329
abbrev DO:=@Go.Proofs.Tryz.underlying356
abbrev DP:=@Go.Proofs.Tryz.underlying357
abbrev DQ:=@Go.Proofs.Tryz.underlying431
abbrev DR:=@Go.Proofs.Tryz.underlying435
abbrev DS:=@Go.Proofs.Tryz.underlying490
abbrev DT:=@Go.Proofs.Tryz.underlying311
abbrev yY:=@List.take_add_one
abbrev bU:=@Int.toNat_natCast
abbrev jU:=@List.pairwise_iff_getElem
abbrev DU:=@Int.tdiv_eq_ediv_of_nonneg
abbrev iC:=@List.map_take
abbrev vd:=@List.map_drop
abbrev pO:=@List.drop_eq_getElem_cons
abbrev fv:=@List.drop_of_length_le
abbrev aL:=@decide_eq_false
abbrev eH:=@Bool.and_eq_false_iff
abbrev dI:=@decide_eq_false_iff_not
abbrev aP:=@decide_eq_true
abbrev DV:=@List.length_take_le
abbrev iD:=@List.filter_append
abbrev fQ:=@List.take_length
abbrev Jl:=@List.getLast?_eq_some_iff
end Go
namespace Go.Proofs.YtnpkopkpbgflnaaGreatDoor
namespace Reg
structure aZ where
 x0:Int
 y0:Int
 x1:Int
 y1:Int
theorem aZ.zX(a b:aZ):a=b↔a.x0=b.x0/\a.y0=b.y0/\a.x1=b.x1/\a.y1=b.y1:=by
 constructor
 ·rintro rfl;exact⟨rfl,rfl,rfl,rfl⟩
 obtain⟨a1,a2,a3,a4⟩:=a;obtain⟨b1,b2,b3,b4⟩:=b;rintro⟨d,u,z,D⟩;simp only at d u z D;rw[d,u,z,D]
instance:DecidableEq aZ:=fun a b=>decidable_of_iff' _ (aZ.zX a b)
abbrev cR:=List (Int×Int)
def cover(s:cR)(x:Int):Prop:=∃p∈s,p.1<=x/\x<p.2
def Canon:cR->Prop
 | []=>True
 | [p]=>p.1<p.2
 | p::q::r=>p.1<p.2/\p.2<q.1/\Canon (q::r)
theorem iE(x:Int):¬cover [] x:=fun ⟨_,h,_⟩=>by cases h
theorem bP(p:Int×Int)(s:cR)(x:Int):cover (p::s) x↔(p.1<=x/\x<p.2)\/cover s x:=by
 constructor
 ·rintro⟨q,d,h⟩;rcases aE.1 d with rfl | d
  ·exact .inl h
  exact .inr ⟨q,d,h⟩
 rintro (h | ⟨q,d,h⟩)
 ·exact⟨p,bK ..,h⟩
 exact⟨q,cK _ d,h⟩
variable {s:cR}
theorem Canon.head{p:Int×Int}(h:Canon (p::s)):p.1<p.2:=by
 cases s with
 | nil=>exact h
 | cons q r=>exact h.1
theorem Canon.tail{p:Int×Int}(h:Canon (p::s)):Canon s:=by
 cases s with
 | nil=>trivial
 | cons q r=>exact h.2.2
theorem Canon.behind{p:Int×Int}(h:Canon (p::s)):∀q∈s,p.2<q.1:=by
 induction s generalizing p with
 | nil=>intro q d;cases d
 | cons a r ih=>
  intro q d;rcases aE.1 d with rfl | d
  ·exact h.2.1
  have:=ih h.2.2 q d;have h1:=h.2.1;have h2:=Canon.head h.2.2;omega
theorem Canon.cons{p:Int×Int}(d:p.1<p.2)(u:∀q∈s,p.2<q.1)(z:Canon s):Canon (p::s):=by
 cases s with
 | nil=>exact d
 | cons a r=>exact⟨d,u a (bK ..),z⟩
theorem Canon.sB{p:Int×Int}(h:Canon (p::s)){x:Int}(hx:x<=p.2):¬cover s x:=by
 rintro⟨q,d,h1,_⟩;have:=h.behind q d;omega
theorem DW:∀(s t:cR),Canon s->Canon t->(∀x,cover s x↔cover t x)->s=t:=by
 intro s
 induction s with
 | nil=>
  intro t _ D z;cases t with
  | nil=>rfl
  | cons q t=>
   have:=D.head;exact absurd ((z q.1).2 ((bP q t q.1).2 (.inl ⟨pK _,this⟩))) (iE _)
 | cons p s ih=>
  intro t hs D z;cases t with
  | nil=>
   have:=hs.head;exact absurd ((z p.1).1 ((bP p s p.1).2 (.inl ⟨pK _,this⟩))) (iE _)
  | cons q t=>
   have hp:=hs.head;have I:=D.head;have least {p:Int×Int} {s:cR} (h:Canon (p::s)) {x:Int} (u:cover (p::s) x):p.1<=x:=by
    rcases (bP p s x).1 u with d | ⟨r,J,d,_⟩
    ·exact d.1
    have:=h.behind r J;have:=h.head;omega
   have N:p.1=q.1:=by
    have a:=least D ((z p.1).1 ((bP p s p.1).2 (.inl ⟨pK _,hp⟩)));have b:=least hs ((z q.1).2 ((bP q t q.1).2 (.inl ⟨pK _,I⟩)));omega
   have O:p.2=q.2:=by
    rcases Int.lt_trichotomy p.2 q.2 with h | h | h
    ·have u:=(z p.2).2 ((bP q t p.2).2 (.inl ⟨by omega,h⟩));rcases (bP p s p.2).1 u with d | d
     ·omega
     exact absurd d (hs.sB (pK _))
    ·exact h
    have u:=(z q.2).1 ((bP p s q.2).2 (.inl ⟨by omega,h⟩));rcases (bP q t q.2).1 u with d | d
    ·omega
    exact absurd d (D.sB (pK _))
   have e:p=q:=uZ N O;subst e;congr 1;refine ih t hs.tail D.tail fun x=>?_;constructor
   ·intro u;have R:¬x<=p.2:=fun h=>hs.sB h u;rcases (bP p t x).1 ((z x).1 ((bP p s x).2 (.inr u))) with d | d
    ·omega
    exact d
   intro u;have R:¬x<=p.2:=fun h=>D.sB h u;rcases (bP p s x).1 ((z x).2 ((bP p t x).2 (.inr u))) with d | d
   ·omega
   exact d
def dW:cR->Int->Int->cR
 | [],a,b=>[(a,b)]
 | [p],a,b=>if a<=p.2 then [(p.1,max p.2 b)] else [p,(a,b)]
 | p::q::r,a,b=>p::dW (q::r) a b
theorem BC(s:cR)(a b:Int)(h:Canon s)(R:a<b)(J:∀p∈s,p.1<=a):
  Canon (dW s a b)/\(∀x,cover (dW s a b) x↔cover s x\/(a<=x/\x<b))/\(∀p∈dW s a b,p.1<=a)/\(∀p∈s,∀q∈(dW s a b).head?,∀r∈s.head?,q.1=r.1)/\(∀c:Int,(∀p∈s,c<p.1)->c<a->∀p∈dW s a b,c<p.1):=by
 induction s with
 | nil=>
  refine⟨R,fun x=>?_,?_,?_,?_⟩
  ·simp[dW,bP,iE]
  ·simp[dW]
  ·intro p hp;cases hp
  intro c _ D p hp;simp[dW]at hp;subst hp;exact D
 | cons p s ih=>
  cases s with
  | nil=>
   have hp:=h.head;have U:=J p (bK ..);simp only[dW];split
   ·rename_i hle;refine⟨by show p.1<max p.2 b;omega,fun x=>?_,?_,?_,?_⟩
    ·simp only[bP,iE,or_false];omega
    ·intro q z;simp at z;subst z;exact U
    ·intro q _ r I t d;simp at I d;subst I d;rfl
    intro c D _ q z;simp at z;subst z;exact D p (bK ..)
   rename_i Xh;refine⟨⟨hp,by show p.2<a;omega,R⟩,fun x=>?_,?_,?_,?_⟩
   ·simp only[bP,iE,or_false]
   ·intro q z;simp at z;rcases z with rfl | rfl
    ·exact U
    exact pK _
   ·intro q _ r I t d;simp at I d;subst I d;rfl
   intro c D O q z;simp at z;rcases z with rfl | rfl
   ·exact D q (bK ..)
   exact O
  | cons q r=>
   obtain⟨W,Y,Z,_,V⟩:=ih h.tail (fun t d=>J t (cK _ d));simp only[dW];have hb:=h.behind;have pH:=J q (by simp);have W4:=h.2.1;refine⟨Canon.cons h.head (V p.2 hb (by omega)) W,fun x=>?_,?_,?_,?_⟩
   ·rw[bP,Y x,bP p];exact or_assoc.symm
   ·intro t d;rcases aE.1 d with rfl | d
    ·exact J t (bK ..)
    exact Z t d
   ·intro _ _ t d u N;simp at d N;subst d N;rfl
   intro c D O t d;rcases aE.1 d with rfl | d
   ·exact D t (bK ..)
   exact V c (fun u N=>D u (cK _ N)) O t d
def dt(l:List aZ):cR:=l.foldl (fun out r=>dW out r.x0 r.x1) []
theorem pP(l:List aZ)(r:aZ):dt (l++[r])=dW (dt l) r.x0 r.x1:=by
 unfold dt;rw[se];rfl
theorem BD(l:List aZ)(hs:l.Pairwise fun a b=>a.x0<=b.x0)(N:∀r∈l,r.x0<r.x1):
  Canon (dt l)/\(∀x,cover (dt l) x↔∃r∈l,r.x0<=x/\x<r.x1)/\(∀c:Int,(∀r∈l,r.x0<=c)->∀p∈dt l,p.1<=c):=by
 suffices H:∀n (m:List aZ),m.length=n->(m.Pairwise fun a b=>a.x0<=b.x0)->(∀r∈m,r.x0<r.x1)->
   Canon (dt m)/\(∀x,cover (dt m) x↔∃r∈m,r.x0<=x/\x<r.x1)/\(∀c:Int,(∀r∈m,r.x0<=c)->∀p∈dt m,p.1<=c) from H _ l rfl hs N
 intro n
 induction n with
 | zero=>
  intro m u _ _;have:m=[]:=cP u;subst this;refine⟨trivial,fun x=>?_,fun c _ p hp=>by cases hp⟩;constructor
  ·intro h;exact absurd h (iE _)
  rintro⟨r,z,_⟩;cases z
 | succ n ih=>
  intro m u D I;obtain⟨k,r,rfl⟩:∃k r,m=k++[r]:=by
   have J:m≠[]:=by intro e;rw[e]at u;cases u
   exact⟨m.dropLast,m.getLast J,(I1 J).symm⟩
  rw[yU]at D;obtain⟨O,R,U⟩:=ih k (by simp at u;omega) D.1 (fun t d=>I t (jS _ d));have z:=I r (by simp);obtain⟨V,W,f3,_,_⟩:=BC (dt k) r.x0 r.x1 O z (U r.x0 fun t d=>D.2.2 t d r (by simp));rw[pP];refine⟨V,fun x=>?_,fun c Y p hp=>?_⟩
  ·rw[W x,R x];constructor
   ·rintro (⟨t,d,h⟩ | h)
    ·exact⟨t,jS _ d,h⟩
    exact⟨r,by simp,h⟩
   rintro⟨t,d,h⟩;rcases cm.1 d with d | d
   ·exact .inl ⟨t,d,h⟩
   have:t=r:=by simpa using d
   subst this;exact .inr h
  have:=f3 p hp;have:=Y r (by simp);omega
def iP:cR->Int->Int->cR
 | [],a,b=>[(a,b)]
 | p::l,a,b=>if p.1<=b then iP l (min a p.1) (max b p.2) else (a,b)::p::l
def eM:cR->Int->Int->cR
 | [],a,b=>[(a,b)]
 | p::l,a,b=>if p.2<a then p::eM l a b else iP (p::l) a b
theorem DX(s:cR):∀(a b:Int),Canon s->a<b->(∀p∈s,a<=p.2)->
  Canon (iP s a b)/\(∀x,cover (iP s a b) x↔cover s x\/(a<=x/\x<b))/\(∀c:Int,(∀p∈s,c<p.1)->c<a->∀p∈iP s a b,c<p.1):=by
 induction s with
 | nil=>
  intro a b _ D _;refine⟨D,fun x=>?_,fun c _ u p hp=>?_⟩
  ·simp[iP,bP,iE]
  simp[iP]at hp;subst hp;exact u
 | cons p l ih=>
  intro a b h D I;have hp:=h.head;have VJ:=I p (bK ..);have hb:=h.behind;simp only[iP];split
  ·rename_i hle;obtain⟨N,O,R⟩:=ih (min a p.1) (max b p.2) h.tail (by omega) (fun q d=>by have:=hb q d;have:=I q (cK _ d);omega);refine⟨N,fun x=>?_,fun c u J=>R c (fun q d=>u q (cK _ d)) (by have:=u p (bK ..);omega)⟩;rw[O x,bP];constructor
   ·rintro (z | z)
    ·exact .inl (.inr z)
    by_cases U:p.1<=x/\x<p.2
    ·exact .inl (.inl U)
    exact .inr (by omega)
   rintro ((z | z) | z)
   ·exact .inr (by omega)
   ·exact .inl z
   exact .inr (by omega)
  rename_i Xh;refine⟨⟨D,by show b<p.1;omega,h⟩,fun x=>?_,fun c u J q d=>?_⟩
  ·rw[bP];exact or_comm
  rcases aE.1 d with rfl | d
  ·exact J
  exact u q d
theorem Canon.ends(h:Canon s){a:Int}:∀p l,s=p::l->a<=p.2->∀q∈s,a<=q.2:=by
 intro p l e hp q d;subst e;rcases aE.1 d with rfl | d
 ·exact hp
 have h1:=h.behind q d;have h2:q.1<q.2:=by
  have:∀(t:cR),Canon t->∀q∈t,q.1<q.2:=by
   intro t
   induction t with
   | nil=>intro _ q d;cases d
   | cons u t ih=>
    intro z q d;rcases aE.1 d with rfl | d
    ·exact z.head
    exact ih z.tail q d
  exact this l h.tail q d
 omega
theorem DY(s:cR)(a b:Int)(h:Canon s)(z:a<b):
  Canon (eM s a b)/\(∀x,cover (eM s a b) x↔cover s x\/(a<=x/\x<b))/\(∀c:Int,(∀p∈s,c<p.1)->c<a->∀p∈eM s a b,c<p.1):=by
 induction s with
 | nil=>
  refine⟨z,fun x=>?_,fun c _ d p hp=>?_⟩
  ·simp[eM,bP,iE]
  simp[eM]at hp;subst hp;exact d
 | cons p l ih=>
  simp only[eM];split
  ·rename_i I;obtain⟨J,N,D⟩:=ih h.tail;refine⟨Canon.cons h.head (D p.2 h.behind I) J,fun x=>?_,fun c d O q u=>?_⟩
   ·rw[bP,N x,bP p];exact or_assoc.symm
   rcases aE.1 u with rfl | u
   ·exact d q (bK ..)
   exact D c (fun t R=>d t (cK _ R)) O q u
  rename_i hge;exact DX (p::l) a b h z (h.ends p l rfl (by omega))
def rowOf(l:List aZ)(y:Int):cR:=(l.filter fun r=>decide (r.y0<=y)&&decide (y<r.y1)).foldl (fun out r=>eM out r.x0 r.x1) []
theorem FK(l:List aZ)(z:∀r∈l,r.x0<r.x1):∀s:cR,Canon s->Canon (l.foldl (fun out r=>eM out r.x0 r.x1) s)/\(∀x,cover (l.foldl (fun out r=>eM out r.x0 r.x1) s) x↔cover s x\/∃r∈l,r.x0<=x/\x<r.x1):=by
 induction l with
 | nil=>intro s h;exact⟨h,fun x=>by simp⟩
 | cons r l ih=>
  intro s h;obtain⟨D,I,_⟩:=DY s r.x0 r.x1 h (z r (bK ..));obtain⟨J,N⟩:=ih (fun t u=>z t (cK _ u)) _ D;refine⟨J,fun x=>?_⟩;rw[jg,N x,I x];constructor
  ·rintro ((d | d) | ⟨t,u,d⟩)
   ·exact .inl d
   ·exact .inr ⟨r,bK ..,d⟩
   exact .inr ⟨t,cK _ u,d⟩
  rintro (d | ⟨t,u,d⟩)
  ·exact .inl (.inl d)
  rcases aE.1 u with rfl | u
  ·exact .inl (.inr d)
  exact .inr ⟨t,u,d⟩
theorem KR(l:List aZ)(y:Int)(u:∀r∈l,r.x0<r.x1):Canon (rowOf l y)/\∀x,cover (rowOf l y) x↔∃r∈l,(r.y0<=y/\y<r.y1)/\r.x0<=x/\x<r.x1:=by
 obtain⟨z,D⟩:=FK (l.filter fun r=>decide (r.y0<=y)&&decide (y<r.y1)) (fun r d=>u r ((ml.1 d).1)) [] trivial;refine⟨z,fun x=>?_⟩;unfold rowOf;rw[D x];constructor
 ·rintro (h | ⟨r,d,h⟩)
  ·exact absurd h (iE _)
  rw[ml]at d;simp at d;exact⟨r,d.1,d.2,h⟩
 rintro⟨r,d,I,h⟩;exact .inr ⟨r,by rw[ml];simp[d,I],h⟩
theorem FL(l a:List aZ)(y:Int)(z:∀r∈l,r.x0<r.x1)(hs:a.Pairwise fun p q=>p.x0<=q.x0)(u:∀r,r∈a↔r∈l/\r.y0<=y/\y<r.y1):dt a=rowOf l y:=by
 have D:∀r∈a,r.x0<r.x1:=fun r d=>z r ((u r).1 d).1;obtain⟨I,J,_⟩:=BD a hs D;obtain⟨N,O⟩:=KR l y z;refine DW _ _ I N fun x=>?_;rw[J x,O x];constructor
 ·rintro⟨r,d,h⟩;obtain⟨R,U⟩:=(u r).1 d;exact⟨r,R,U,h⟩
 rintro⟨r,d,V,h⟩;exact⟨r,(u r).2 ⟨d,V⟩,h⟩
def jv(l:List Int):Prop:=l.Pairwise fun a b=>a<b
theorem BE:∀(a b:List Int),jv a->jv b->(∀x,x∈a↔x∈b)->a=b:=by
 intro a
 induction a with
 | nil=>
  intro b _ _ h;cases b with
  | nil=>rfl
  | cons y b=>exact absurd ((h y).2 (bK ..)) (by simp)
 | cons x a ih=>
  intro b J hb h;cases b with
  | nil=>exact absurd ((h x).1 (bK ..)) (by simp)
  | cons y b=>
   obtain⟨D,N⟩:=mn.1 J;obtain⟨I,O⟩:=mn.1 hb;have e:x=y:=by
    rcases aE.1 ((h x).1 (bK ..)) with e | R
    ·exact e
    rcases aE.1 ((h y).2 (bK ..)) with e | U
    ·exact e.symm
    have:=D y U;have:=I x R;omega
   subst e;congr 1;refine ih b N O fun z=>?_;constructor
   ·intro u;have:=D z u;rcases aE.1 ((h z).1 (cK _ u)) with e | d
    ·omega
    exact d
   intro u;have:=I z u;rcases aE.1 ((h z).2 (cK _ u)) with e | d
   ·omega
   exact d
def put:List Int->Int->List Int
 | [],n=>[n]
 | a::l,n=>if a<n then a::put l n else if a=n then a::l else n::a::l
theorem DZ(l:List Int)(n x:Int):x∈put l n↔x∈l\/x=n:=by
 induction l with
 | nil=>simp[put]
 | cons a l ih=>
  simp only[put];split
  ·rw[aE,ih,aE];exact or_assoc.symm
  split
  ·rename_i h;subst h;simp only[aE];constructor
   ·exact fun h=>.inl h
   rintro (h | h)
   ·exact h
   exact .inl h
  simp only[aE];constructor
  ·rintro (h | h | h)
   ·exact .inr h
   ·exact .inl (.inl h)
   exact .inl (.inr h)
  rintro ((h | h) | h)
  ·exact .inr (.inl h)
  ·exact .inr (.inr h)
  exact .inl h
theorem tR(l:List Int)(n:Int)(h:jv l):jv (put l n):=by
 induction l with
 | nil=>exact List.pairwise_singleton _ _
 | cons a l ih=>
  obtain⟨u,z⟩:=mn.1 h;simp only[put];split
  ·refine mn.2 ⟨fun x d=>?_,ih z⟩;rcases (DZ l n x).1 d with d | rfl
   ·exact u x d
   assumption
  split
  ·exact h
  refine mn.2 ⟨fun x d=>?_,h⟩;rcases aE.1 d with rfl | d
  ·omega
  have:=u x d;omega
def bC(l:List aZ):List Int:=l.foldl (fun out r=>put (put out r.y0) r.y1) []
theorem oA(l:List aZ):jv (bC l)/\∀y,y∈bC l↔∃r∈l,y=r.y0\/y=r.y1:=by
 have H:∀(l:List aZ) (s:List Int),jv s->jv (l.foldl (fun out r=>put (put out r.y0) r.y1) s)/\∀y,y∈l.foldl (fun out r=>put (put out r.y0) r.y1) s↔y∈s\/∃r∈l,y=r.y0\/y=r.y1:=by
  intro l
  induction l with
  | nil=>intro s hs;exact⟨hs,fun y=>by simp⟩
  | cons r l ih=>
   intro s hs;obtain⟨u,z⟩:=ih _ (tR _ r.y1 (tR s r.y0 hs));refine⟨u,fun y=>?_⟩;rw[jg,z y,DZ,DZ];constructor
   ·rintro (((h | h) | h) | ⟨t,d,h⟩)
    ·exact .inl h
    ·exact .inr ⟨r,bK ..,.inl h⟩
    ·exact .inr ⟨r,bK ..,.inr h⟩
    exact .inr ⟨t,cK _ d,h⟩
   rintro (h | ⟨t,d,h⟩)
   ·exact .inl (.inl (.inl h))
   rcases aE.1 d with rfl | d
   ·rcases h with h | h
    ·exact .inl (.inl (.inr h))
    exact .inl (.inr h)
   exact .inr ⟨t,d,h⟩
 obtain⟨D,I⟩:=H l [] List.Pairwise.nil;exact⟨D,fun y=>(I y).trans (by simp)⟩
structure gQ where
 y0:Int
 y1:Int
 xs:cR
def pushB(l:List gQ)(b:gQ):List gQ:=
 if b.xs=[] then l else
 match l.getLast? with
 | some t=>if t.y1=b.y0/\t.xs=b.xs then l.dropLast++[⟨t.y0,b.y1,t.xs⟩] else l++[b]
 | none=>[b]
def dJ(l:List aZ)(ys:List Int):Nat->List gQ
 | 0=>[]
 | k+1=>pushB (dJ l ys k) ⟨ys.getD k 0,ys.getD (k+1) 0,rowOf l (ys.getD k 0)⟩
def qq(l:List aZ):List gQ:=dJ l (bC l) ((bC l).length-1)
def told(s:List gQ):List aZ:=s.flatMap fun b=>b.xs.map fun p=>⟨p.1,b.y0,p.2,b.y1⟩
def gM(l:List aZ):List aZ:=told (qq l)
def kC(n:Int):Bool:=decide (-1000000<=n)&&decide (n<=1000000)
def ia(r:aZ):Bool:=kC r.x0&&kC r.y0&&kC r.x1&&kC r.y1
def eN:List aZ->Int
 | []=>0
 | r::l=>if ia r=true then (if r.x1<=r.x0\/r.y1<=r.y0 then 13 else eN l) else 1
def dv(l:List aZ):Int:=if 2000<l.length then 2 else eN l
def before(a b:aZ):Bool:=decide (a.y0<b.y0)||(decide (a.y0=b.y0)&&decide (a.x0<b.x0))
def ordered:List aZ->Bool
 | a::b::l=>before a b&&ordered (b::l)
 | _=>true
def bS(l:List aZ):Int:=
 if dv l=0 then (if ordered l=true then (if gM l=l then 0 else 3) else 8) else dv l
theorem FM{l:List aZ}(h:eN l=0):∀r∈l,ia r=true/\r.x0<r.x1/\r.y0<r.y1:=by
 induction l with
 | nil=>intro r d;cases d
 | cons a l ih=>
  simp only[eN]at h;split at h
  ·split at h
   ·cases h
   intro r d;rcases aE.1 d with rfl | d
   ·exact⟨by assumption,by omega,by omega⟩
   exact ih h r d
  cases h
theorem tT{l:List aZ}(h:dv l=0):l.length<=2000/\∀r∈l,ia r=true/\r.x0<r.x1/\r.y0<r.y1:=by
 unfold dv at h;split at h
 ·cases h
 exact⟨by omega,FM h⟩
end Reg
end Go.Proofs.YtnpkopkpbgflnaaGreatDoor
namespace Go.Proofs
open Go.Shelf
def Tryz.lays106_ren:Go.Shelf.Ren:=⟨fun | 106=>161 | 213=>266 | 265=>364 | n=>n,fun | 9=>9 | 3=>3 | n=>n,fun | n=>n⟩
theorem Tryz.lays106:Go.Proofs.Lays.n106 Tryz.prog Tryz.lays106_ren:={
 mixed:=by kernel_rfl
 f106:=Tryz.func161.trans (ah some (by kernel_rfl))
 f213:=Tryz.func266.trans (ah some (by kernel_rfl))
 f265:=Tryz.func364.trans (ah some (by kernel_rfl))
 t3:=iB
 a3:=oa
 z3:=ob
 v3:=oc
 t9:=od
 a9:=pL
 z9:=pM
 v9:=pN }
open Go.RowKit in
theorem Tryz.strings_Compare(a b:ByteArray)(w:World):
  Calls Tryz.prog 161 #[.string a,.string b] w fun e w'=>e=.returned (.int .i64 (Lib.compareBytes a.data.toList b.data.toList))/\w'=w:=Any.strings_Compare Tryz.lays106 a b w
def Tryz.lays137_ren:Go.Shelf.Ren:=⟨fun | 137=>235 | 217=>347 | 266=>422 | n=>n,fun | 9=>9 | 5=>5 | 3=>3 | n=>n,fun | n=>n⟩
theorem Tryz.lays137:Go.Proofs.Lays.n137 Tryz.prog Tryz.lays137_ren:={
 mixed:=by kernel_rfl
 f137:=Tryz.func235.trans (ah some (by kernel_rfl))
 f217:=Tryz.func347.trans (ah some (by kernel_rfl))
 f266:=Tryz.func422.trans (ah some (by kernel_rfl))
 t3:=iB
 a3:=oa
 z3:=ob
 v3:=oc
 t5:=sf
 a5:=sg
 z5:=si
 v5:=sj
 t9:=od
 a9:=pL
 z9:=pM
 v9:=pN }
open Go.RowKit in
theorem Tryz.strings_IndexByte(s:ByteArray)(c:Int)(w:World):
  Calls Tryz.prog 235 #[.string s,.int .u8 c] w fun e w'=>e=.returned (.int .i64 (Lib.indexByte s.data.toList c.toNat.toUInt8))/\w'=w:=Any.strings_IndexByte Tryz.lays137 s c w
def Tryz.laysM171_ren:Go.Shelf.Ren:=⟨fun | 171=>52 | 243=>118 | 246=>214 | 283=>330 | 284=>331 | 285=>332 | 286=>333 | 129=>258 | 317=>409 | 318=>410 | 319=>411 | 320=>412 | 337=>445 | 338=>446 | n=>n,fun | 3=>3 | 9=>9 | 2=>2 | 4=>4 | 171=>406 | 0=>0 | 53=>365 | 37=>408 | 5=>5 | 173=>409 | 212=>477 | 51=>363 | 20=>20 | 213=>478 | 46=>278 | 232=>513 | 233=>514 | n=>n,fun | 17=>1 | 18=>2 | 19=>3 | n=>n⟩
theorem Tryz.laysM171:Go.Proofs.LaysM.n171 Tryz.prog Tryz.laysM171_ren:={
 mixed:=by kernel_rfl
 f129:=Tryz.func258.trans (ah some (by kernel_rfl))
 f171:=Tryz.func52.trans (ah some (by kernel_rfl))
 f243:=Tryz.func118.trans (ah some (by kernel_rfl))
 f246:=Tryz.func214.trans (ah some (by kernel_rfl))
 f283:=Tryz.func330.trans (ah some (by kernel_rfl))
 f284:=Tryz.func331.trans (ah some (by kernel_rfl))
 f285:=Tryz.func332.trans (ah some (by kernel_rfl))
 f286:=Tryz.func333.trans (ah some (by kernel_rfl))
 f317:=Tryz.func409.trans (ah some (by kernel_rfl))
 f318:=Tryz.func410.trans (ah some (by kernel_rfl))
 f319:=Tryz.func411.trans (ah some (by kernel_rfl))
 f320:=Tryz.func412.trans (ah some (by kernel_rfl))
 f337:=Tryz.func445.trans (ah some (by kernel_rfl))
 f338:=Tryz.func446.trans (ah some (by kernel_rfl))
 t0:=ss
 a0:=su
 z0:=sv
 v0:=sw
 t2:=Tryz.underlying2
 a2:=Tryz.isAgg2
 z2:=Tryz.sizeOf2
 v2:=Tryz.zeroValue2
 t3:=iB
 a3:=oa
 z3:=ob
 v3:=oc
 t4:=mo
 a4:=sx
 z4:=sy
 v4:=sA
 t5:=sf
 a5:=sg
 z5:=si
 v5:=sj
 t9:=od
 a9:=pL
 z9:=pM
 v9:=pN
 t20:=Tryz.underlying20
 a20:=Tryz.isAgg20
 z20:=Tryz.sizeOf20
 v20:=Tryz.zeroValue20
 t37:=Tryz.underlying408
 a37:=Tryz.isAgg408
 z37:=Tryz.sizeOf408
 v37:=Tryz.zeroValue408
 t46:=u3
 a46:=u4
 z46:=u5
 v46:=u6
 t51:=u7
 a51:=u9
 z51:=u_
 v51:=va
 t53:=vc
 a53:=yV
 z53:=yW
 v53:=yX
 t171:=Tryz.underlying406
 a171:=Tryz.isAgg406
 z171:=Tryz.sizeOf406
 v171:=Tryz.zeroValue406
 t173:=Tryz.underlying409
 a173:=Tryz.isAgg409
 z173:=Tryz.sizeOf409
 v173:=Tryz.zeroValue409
 t212:=Tryz.underlying477
 a212:=Tryz.isAgg477
 z212:=Tryz.sizeOf477
 v212:=Tryz.zeroValue477
 t213:=Tryz.underlying478
 a213:=Tryz.isAgg478
 z213:=Tryz.sizeOf478
 t232:=Tryz.underlying513
 a232:=Tryz.isAgg513
 z232:=Tryz.sizeOf513
 v232:=Tryz.zeroValue513
 t233:=Tryz.underlying514
 a233:=Tryz.isAgg514
 z233:=Tryz.sizeOf514
 v233:=Tryz.zeroValue514
 g17:=by kernel_rfl
 g18:=by kernel_rfl
 g19:=by kernel_rfl
 i0:=by kernel_rfl
 i2:=by kernel_rfl
 i3:=by kernel_rfl
 i4:=by kernel_rfl
 i5:=by kernel_rfl
 i9:=by kernel_rfl
 i20:=by kernel_rfl
 i37:=by kernel_rfl
 i46:=by kernel_rfl
 i51:=by kernel_rfl
 i53:=by kernel_rfl
 i171:=by kernel_rfl
 i173:=by kernel_rfl
 i212:=by kernel_rfl
 i232:=by kernel_rfl
 i233:=by kernel_rfl
 m17:=by kernel_rfl
 m18:=by kernel_rfl
 m19:=by kernel_rfl }
open Go.RowKit Go.Sort Go.Lib in
theorem Tryz.strconv_Itoa (n : Int) (h0 : -9223372036854775808 ≤ n) (h1 : n ≤ 9223372036854775807) (w : World) (Xi : Lib.TabIs Tryz.prog w "internal/strconv.uint64pow10" .u64 Lib.pow10Tab) :
  Calls Tryz.prog 52 #[.int .i64 n] w fun e w'=>e=.returned (.string ⟨(Lib.itoa n).toArray⟩)/\∃k os,w'=grow (w.drewN k) os:=Any.strconv_Itoa Tryz.laysM171 n h0 h1 w Xi
def Tryz.lays189_ren:Go.Shelf.Ren:=⟨fun | 189=>97 | 125=>158 | 257=>201 | 128=>257 | 129=>258 | 294=>311 | 295=>312 | 296=>313 | 297=>314 | 298=>315 | 299=>316 | 216=>317 | 300=>318 | 301=>319 | 328=>386 | 329=>358 | 330=>359 | 331=>387 | 332=>388 | 215=>267 | 343=>436 | n=>n,fun | 28=>90 | 3=>3 | 46=>278 | 0=>0 | 51=>363 | 53=>365 | 4=>4 | 183=>357 | 182=>356 | 131=>329 | 5=>5 | 9=>9 | 218=>431 | 222=>435 | 228=>490 | 229=>311 | n=>n,fun | n=>n⟩
theorem Tryz.lays189:Go.Proofs.Lays.n189 Tryz.prog Tryz.lays189_ren:={
 mixed:=by kernel_rfl
 f125:=Tryz.func158.trans (ah some (by kernel_rfl))
 f128:=Tryz.func257.trans (ah some (by kernel_rfl))
 f129:=Tryz.func258.trans (ah some (by kernel_rfl))
 f189:=Tryz.func97.trans (ah some (by kernel_rfl))
 f215:=Tryz.func267.trans (ah some (by kernel_rfl))
 f216:=Tryz.func317.trans (ah some (by kernel_rfl))
 f257:=Tryz.func201.trans (ah some (by kernel_rfl))
 f294:=Tryz.func311.trans (ah some (by kernel_rfl))
 f295:=Tryz.func312.trans (ah some (by kernel_rfl))
 f296:=Tryz.func313.trans (ah some (by kernel_rfl))
 f297:=Tryz.func314.trans (ah some (by kernel_rfl))
 f298:=Tryz.func315.trans (ah some (by kernel_rfl))
 f299:=Tryz.func316.trans (ah some (by kernel_rfl))
 f300:=Tryz.func318.trans (ah some (by kernel_rfl))
 f301:=Tryz.func319.trans (ah some (by kernel_rfl))
 f328:=Tryz.func386.trans (ah some (by kernel_rfl))
 f329:=Tryz.func358.trans (ah some (by kernel_rfl))
 f330:=Tryz.func359.trans (ah some (by kernel_rfl))
 f331:=Tryz.func387.trans (ah some (by kernel_rfl))
 f332:=Tryz.func388.trans (ah some (by kernel_rfl))
 f343:=Tryz.func436.trans (ah some (by kernel_rfl))
 t0:=ss
 a0:=su
 z0:=sv
 v0:=sw
 t3:=iB
 a3:=oa
 z3:=ob
 v3:=oc
 t4:=mo
 a4:=sx
 z4:=sy
 v4:=sA
 t5:=sf
 a5:=sg
 z5:=si
 v5:=sj
 t9:=od
 a9:=pL
 z9:=pM
 v9:=pN
 t28:=Tryz.underlying90
 a28:=Tryz.isAgg90
 z28:=Tryz.sizeOf90
 v28:=Tryz.zeroValue90
 t46:=u3
 a46:=u4
 z46:=u5
 v46:=u6
 t51:=u7
 a51:=u9
 z51:=u_
 v51:=va
 t53:=vc
 a53:=yV
 z53:=yW
 v53:=yX
 t131:=DN
 a131:=Tryz.isAgg329
 z131:=Tryz.sizeOf329
 v131:=Tryz.zeroValue329
 t182:=DO
 a182:=Tryz.isAgg356
 z182:=Tryz.sizeOf356
 v182:=Tryz.zeroValue356
 t183:=DP
 a183:=Tryz.isAgg357
 z183:=Tryz.sizeOf357
 v183:=Tryz.zeroValue357
 t218:=DQ
 a218:=Tryz.isAgg431
 z218:=Tryz.sizeOf431
 v218:=Tryz.zeroValue431
 t222:=DR
 a222:=Tryz.isAgg435
 z222:=Tryz.sizeOf435
 v222:=Tryz.zeroValue435
 t228:=DS
 a228:=Tryz.isAgg490
 z228:=Tryz.sizeOf490
 v228:=Tryz.zeroValue490
 t229:=DT
 a229:=Tryz.isAgg311
 z229:=Tryz.sizeOf311
 v229:=Tryz.zeroValue311 }
open Go.Sort Go.RowKit in
theorem Tryz.slices_Sort_int(bY d cap:Nat)(zs:List Int)(w:World)(D:Holds (Value.int .i64) w bY d zs.toArray)(u:bY<w.heap.size)(z:zs.length<4611686018427387904):
  Calls Tryz.prog 97 #[.slice (some ⟨bY,d,none⟩) zs.length cap] w fun e w'=>
   e=.returned (.tuple #[])/\∃n os,w'=grow (putRow (Value.int .i64) (Sort.ahead w n) bY d (zs.mergeSort fun x y=>decide (x<=y)).toArray) os:=Any.slices_Sort_int Tryz.lays189 bY d cap zs w D u z
def Tryz.lays146_ren:Go.Shelf.Ren:=⟨fun | 146=>228 | 221=>345 | 268=>419 | 138=>420 | 143=>421 | 195=>448 | 197=>449 | 218=>450 | 219=>451 | 260=>458 | 217=>347 | 225=>459 | 224=>460 | 267=>461 | 266=>422 | 314=>463 | n=>n,fun | 9=>9 | 31=>73 | 3=>3 | 4=>4 | 0=>0 | 105=>508 | 21=>21 | 5=>5 | 46=>278 | 119=>515 | 139=>518 | 138=>517 | 146=>519 | 51=>363 | n=>n,fun | 1=>0 | 3=>4 | 4=>5 | n=>n⟩
theorem Tryz.lays146:Go.Proofs.Lays.n146 Tryz.prog Tryz.lays146_ren:={
 mixed:=by kernel_rfl
 f138:=Tryz.func420.trans (ah some (by kernel_rfl))
 f143:=Tryz.func421.trans (ah some (by kernel_rfl))
 f146:=Tryz.func228.trans (ah some (by kernel_rfl))
 f195:=Tryz.func448.trans (ah some (by kernel_rfl))
 f197:=Tryz.func449.trans (ah some (by kernel_rfl))
 f217:=Tryz.func347.trans (ah some (by kernel_rfl))
 f218:=Tryz.func450.trans (ah some (by kernel_rfl))
 f219:=Tryz.func451.trans (ah some (by kernel_rfl))
 f221:=Tryz.func345.trans (ah some (by kernel_rfl))
 f224:=Tryz.func460.trans (ah some (by kernel_rfl))
 f225:=Tryz.func459.trans (ah some (by kernel_rfl))
 f260:=Tryz.func458.trans (ah some (by kernel_rfl))
 f266:=Tryz.func422.trans (ah some (by kernel_rfl))
 f267:=Tryz.func461.trans (ah some (by kernel_rfl))
 f268:=Tryz.func419.trans (ah some (by kernel_rfl))
 f314:=Tryz.func463.trans (ah some (by kernel_rfl))
 t0:=ss
 a0:=su
 z0:=sv
 v0:=sw
 t3:=iB
 a3:=oa
 z3:=ob
 v3:=oc
 t4:=mo
 a4:=sx
 z4:=sy
 v4:=sA
 t5:=sf
 a5:=sg
 z5:=si
 v5:=sj
 t9:=od
 a9:=pL
 z9:=pM
 v9:=pN
 t21:=Tryz.underlying21
 a21:=Tryz.isAgg21
 z21:=Tryz.sizeOf21
 v21:=Tryz.zeroValue21
 t31:=Tryz.underlying73
 a31:=Tryz.isAgg73
 z31:=Tryz.sizeOf73
 v31:=Tryz.zeroValue73
 t46:=u3
 a46:=u4
 z46:=u5
 v46:=u6
 t51:=u7
 a51:=u9
 z51:=u_
 v51:=va
 t105:=Tryz.underlying508
 a105:=Tryz.isAgg508
 z105:=Tryz.sizeOf508
 v105:=Tryz.zeroValue508
 t119:=Tryz.underlying515
 a119:=Tryz.isAgg515
 z119:=Tryz.sizeOf515
 t138:=Tryz.underlying517
 a138:=Tryz.isAgg517
 z138:=Tryz.sizeOf517
 v138:=Tryz.zeroValue517
 t139:=Tryz.underlying518
 a139:=Tryz.isAgg518
 z139:=Tryz.sizeOf518
 v139:=Tryz.zeroValue518
 t146:=Tryz.underlying519
 a146:=Tryz.isAgg519
 z146:=Tryz.sizeOf519
 v146:=Tryz.zeroValue519
 g1:=by kernel_rfl
 g3:=by kernel_rfl
 g4:=by kernel_rfl }
open Go.RowKit Go.Lib in
theorem Tryz.strings_Split(s d:ByteArray)(m:Int)(w:World)(hs:s.size<4294967281)(u:w.cell? ⟨0,0,none⟩=some (.int .i64 m))(z:1<=d.size):
  Calls Tryz.prog 228 #[.string s,.string d] w fun e w'=>
   e=.returned (.slice (some ⟨w.heap.size,0,none⟩) (Lib.countB s d+1) (Lib.countB s d+1))/\w'=w.alloc (.cells ((Lib.splitB d 0 (Lib.countB s d) s).map Value.string).toArray 9):=Any.strings_Split Tryz.lays146 (by kernel_rfl) s d m w hs u z
def Tryz.laysNm220_ren:Go.Shelf.Ren:=⟨fun | 20=>98 | n=>n,fun | 22=>90 | 3=>3 | 4=>4 | 0=>0 | n=>n,fun | n=>n⟩
theorem Tryz.laysNm220:Go.Proofs.Lays2.n20 Tryz.prog Tryz.laysNm220_ren:={
 mixed:=by kernel_rfl
 f20:=Tryz.func98.trans (ah some (by kernel_rfl))
 t0:=ss
 a0:=su
 z0:=sv
 v0:=sw
 t3:=iB
 a3:=oa
 z3:=ob
 v3:=oc
 t4:=mo
 a4:=sx
 z4:=sy
 v4:=sA
 t22:=Tryz.underlying90
 a22:=Tryz.isAgg90
 z22:=Tryz.sizeOf90
 v22:=Tryz.zeroValue90
 i3:=by kernel_rfl }
open Go.RowKit Go.Lib Go.Sort in
theorem Tryz.slices_Compact_int(bY d cap:Nat)(zs:List Int)(w:World)(z:Holds (Value.int .i64) w bY d zs.toArray)(u:zs.length<=9223372036854775807)(D:zs.length<=cap):
  Calls Tryz.prog 98 #[.slice (some ⟨bY,d,none⟩) zs.length cap] w fun e w'=>e=.returned (.slice (some ⟨bY,d,none⟩) (Lib.compact zs).length cap)/\∃q,w'=putRow (Value.int .i64) (Sort.ahead w q) bY d (Lib.compact zs++List.replicate (zs.length-(Lib.compact zs).length) 0).toArray:=Any.slices_Compact_int Tryz.laysNm220 bY d cap zs w z u D
open Go.RowKit Go.Lib Go.Sort in
theorem Tryz.slices_Compact_int_empty(a:Option Addr)(cap:Nat)(w:World):
  Calls Tryz.prog 98 #[.slice a 0 cap] w fun e w'=>e=.returned (.slice a 0 cap)/\w'=w:=Any.slices_Compact_int_empty Tryz.laysNm220 a cap w
open Go.RowKit Go.Sort in
theorem Tryz.slices_Sort_int_none(p:Option Addr)(cap:Nat)(w:World):
  Calls Tryz.prog 97 #[.slice p 0 cap] w fun e w'=>e=.returned (.tuple #[])/\w'=w:=Any.slices_Sort_int_none Tryz.lays189 p cap w
def Tryz.laysSortRect_ren:Go.Shelf.Ren:=⟨fun | 6=>95 | 15=>158 | 14=>200 | 28=>257 | 29=>258 | 20=>303 | 21=>304 | 22=>305 | 23=>306 | 24=>307 | 25=>308 | 26=>309 | 27=>310 | 46=>383 | 47=>358 | 48=>359 | 49=>384 | 50=>385 | 57=>435 | n=>n,fun | 22=>66 | 24=>125 | 25=>195 | 3=>3 | 39=>278 | 0=>0 | 53=>363 | 55=>365 | 4=>4 | 46=>357 | 45=>356 | 50=>329 | 5=>5 | 9=>9 | 66=>431 | 70=>435 | 76=>490 | 77=>311 | n=>n,fun | n=>n⟩
theorem Tryz.laysSortRect:Go.Proofs.SlLaysF0.n6 Tryz.prog Tryz.laysSortRect_ren:={
 mixed:=by kernel_rfl
 f6:=⟨Tryz.f95.name,by decide,Tryz.func95.trans (ah some (by kernel_rfl))⟩
 f14:=⟨Tryz.f200.name,by decide,Tryz.func200.trans (ah some (by kernel_rfl))⟩
 f15:=Tryz.func158.trans (ah some (by kernel_rfl))
 f20:=⟨Tryz.f303.name,by decide,Tryz.func303.trans (ah some (by kernel_rfl))⟩
 f21:=⟨Tryz.f304.name,by decide,Tryz.func304.trans (ah some (by kernel_rfl))⟩
 f22:=⟨Tryz.f305.name,by decide,Tryz.func305.trans (ah some (by kernel_rfl))⟩
 f23:=⟨Tryz.f306.name,by decide,Tryz.func306.trans (ah some (by kernel_rfl))⟩
 f24:=⟨Tryz.f307.name,by decide,Tryz.func307.trans (ah some (by kernel_rfl))⟩
 f25:=⟨Tryz.f308.name,by decide,Tryz.func308.trans (ah some (by kernel_rfl))⟩
 f26:=⟨Tryz.f309.name,by decide,Tryz.func309.trans (ah some (by kernel_rfl))⟩
 f27:=⟨Tryz.f310.name,by decide,Tryz.func310.trans (ah some (by kernel_rfl))⟩
 f28:=Tryz.func257.trans (ah some (by kernel_rfl))
 f29:=Tryz.func258.trans (ah some (by kernel_rfl))
 f46:=⟨Tryz.f383.name,by decide,Tryz.func383.trans (ah some (by kernel_rfl))⟩
 f47:=Tryz.func358.trans (ah some (by kernel_rfl))
 f48:=Tryz.func359.trans (ah some (by kernel_rfl))
 f49:=⟨Tryz.f384.name,by decide,Tryz.func384.trans (ah some (by kernel_rfl))⟩
 f50:=⟨Tryz.f385.name,by decide,Tryz.func385.trans (ah some (by kernel_rfl))⟩
 f57:=⟨Tryz.f435.name,by decide,Tryz.func435.trans (ah some (by kernel_rfl))⟩
 t0:=ss
 a0:=su
 z0:=sv
 v0:=sw
 t3:=iB
 a3:=oa
 z3:=ob
 v3:=oc
 t4:=mo
 a4:=sx
 z4:=sy
 v4:=sA
 t5:=sf
 a5:=sg
 z5:=si
 v5:=sj
 t9:=od
 a9:=pL
 z9:=pM
 v9:=pN
 t22:=Tryz.underlying66
 a22:=Tryz.isAgg66
 z22:=Tryz.sizeOf66
 v22:=Tryz.zeroValue66
 t25:=Tryz.underlying195
 a25:=Tryz.isAgg195
 z25:=Tryz.sizeOf195
 v25:=Tryz.zeroValue195
 t39:=u3
 a39:=u4
 z39:=u5
 v39:=u6
 t45:=DO
 a45:=Tryz.isAgg356
 z45:=Tryz.sizeOf356
 v45:=Tryz.zeroValue356
 t46:=DP
 a46:=Tryz.isAgg357
 z46:=Tryz.sizeOf357
 v46:=Tryz.zeroValue357
 t50:=DN
 a50:=Tryz.isAgg329
 z50:=Tryz.sizeOf329
 v50:=Tryz.zeroValue329
 t53:=u7
 a53:=u9
 z53:=u_
 v53:=va
 t55:=vc
 a55:=yV
 z55:=yW
 v55:=yX
 t66:=DQ
 a66:=Tryz.isAgg431
 z66:=Tryz.sizeOf431
 v66:=Tryz.zeroValue431
 t70:=DR
 a70:=Tryz.isAgg435
 z70:=Tryz.sizeOf435
 v70:=Tryz.zeroValue435
 t76:=DS
 a76:=Tryz.isAgg490
 z76:=Tryz.sizeOf490
 v76:=Tryz.zeroValue490
 t77:=DT
 a77:=Tryz.isAgg311
 z77:=Tryz.sizeOf311
 v77:=Tryz.zeroValue311 }
def Tryz.laysSortSpan_ren:Go.Shelf.Ren:=⟨fun | 6=>68 | 15=>158 | 14=>157 | 28=>257 | 29=>258 | 20=>249 | 21=>250 | 22=>251 | 23=>252 | 24=>253 | 25=>254 | 26=>255 | 27=>256 | 46=>357 | 47=>358 | 48=>359 | 49=>360 | 50=>361 | 57=>426 | n=>n,fun | 22=>87 | 24=>94 | 25=>164 | 3=>3 | 39=>278 | 0=>0 | 53=>363 | 55=>365 | 4=>4 | 46=>357 | 45=>356 | 50=>329 | 5=>5 | 9=>9 | 66=>431 | 70=>435 | 76=>490 | 77=>311 | n=>n,fun | n=>n⟩
theorem Tryz.laysSortSpan:Go.Proofs.SlLaysF0.n6 Tryz.prog Tryz.laysSortSpan_ren:={
 mixed:=by kernel_rfl
 f6:=⟨Tryz.f68.name,by decide,Tryz.func68.trans (ah some (by kernel_rfl))⟩
 f14:=⟨Tryz.f157.name,by decide,Tryz.func157.trans (ah some (by kernel_rfl))⟩
 f15:=Tryz.func158.trans (ah some (by kernel_rfl))
 f20:=⟨Tryz.f249.name,by decide,Tryz.func249.trans (ah some (by kernel_rfl))⟩
 f21:=⟨Tryz.f250.name,by decide,Tryz.func250.trans (ah some (by kernel_rfl))⟩
 f22:=⟨Tryz.f251.name,by decide,Tryz.func251.trans (ah some (by kernel_rfl))⟩
 f23:=⟨Tryz.f252.name,by decide,Tryz.func252.trans (ah some (by kernel_rfl))⟩
 f24:=⟨Tryz.f253.name,by decide,Tryz.func253.trans (ah some (by kernel_rfl))⟩
 f25:=⟨Tryz.f254.name,by decide,Tryz.func254.trans (ah some (by kernel_rfl))⟩
 f26:=⟨Tryz.f255.name,by decide,Tryz.func255.trans (ah some (by kernel_rfl))⟩
 f27:=⟨Tryz.f256.name,by decide,Tryz.func256.trans (ah some (by kernel_rfl))⟩
 f28:=Tryz.func257.trans (ah some (by kernel_rfl))
 f29:=Tryz.func258.trans (ah some (by kernel_rfl))
 f46:=⟨Tryz.f357.name,by decide,Tryz.func357.trans (ah some (by kernel_rfl))⟩
 f47:=Tryz.func358.trans (ah some (by kernel_rfl))
 f48:=Tryz.func359.trans (ah some (by kernel_rfl))
 f49:=⟨Tryz.f360.name,by decide,Tryz.func360.trans (ah some (by kernel_rfl))⟩
 f50:=⟨Tryz.f361.name,by decide,Tryz.func361.trans (ah some (by kernel_rfl))⟩
 f57:=⟨Tryz.f426.name,by decide,Tryz.func426.trans (ah some (by kernel_rfl))⟩
 t0:=ss
 a0:=su
 z0:=sv
 v0:=sw
 t3:=iB
 a3:=oa
 z3:=ob
 v3:=oc
 t4:=mo
 a4:=sx
 z4:=sy
 v4:=sA
 t5:=sf
 a5:=sg
 z5:=si
 v5:=sj
 t9:=od
 a9:=pL
 z9:=pM
 v9:=pN
 t22:=Tryz.underlying87
 a22:=Tryz.isAgg87
 z22:=Tryz.sizeOf87
 v22:=Tryz.zeroValue87
 t25:=Tryz.underlying164
 a25:=Tryz.isAgg164
 z25:=Tryz.sizeOf164
 v25:=Tryz.zeroValue164
 t39:=u3
 a39:=u4
 z39:=u5
 v39:=u6
 t45:=DO
 a45:=Tryz.isAgg356
 z45:=Tryz.sizeOf356
 v45:=Tryz.zeroValue356
 t46:=DP
 a46:=Tryz.isAgg357
 z46:=Tryz.sizeOf357
 v46:=Tryz.zeroValue357
 t50:=DN
 a50:=Tryz.isAgg329
 z50:=Tryz.sizeOf329
 v50:=Tryz.zeroValue329
 t53:=u7
 a53:=u9
 z53:=u_
 v53:=va
 t55:=vc
 a55:=yV
 z55:=yW
 v55:=yX
 t66:=DQ
 a66:=Tryz.isAgg431
 z66:=Tryz.sizeOf431
 v66:=Tryz.zeroValue431
 t70:=DR
 a70:=Tryz.isAgg435
 z70:=Tryz.sizeOf435
 v70:=Tryz.zeroValue435
 t76:=DS
 a76:=Tryz.isAgg490
 z76:=Tryz.sizeOf490
 v76:=Tryz.zeroValue490
 t77:=DT
 a77:=Tryz.isAgg311
 z77:=Tryz.sizeOf311
 v77:=Tryz.zeroValue311 }
end Go.Proofs
namespace Go.Proofs.YtnpkopkpbgflnaaGreatDoor
namespace M
open Go.AM Go.RowKit
def tab:List (Nat×TI):=([60,93,483].map fun n=>(n,⟨.st [(0,1,false),(1,1,false)],2,16,[.int .i64 0,.int .i64 0],false⟩))++(([61,94,484].map fun n=>(n,⟨.st [(0,1,false),(1,1,false)],2,16,[.int .i64 0,.int .i64 0],true⟩))++(([9,10,11].map fun n=>(n,⟨.str,1,16,[.string ByteArray.empty],false⟩))++(([114,115,349,350].map fun n=>(n,⟨.st [(0,1,false),(1,1,false),(2,1,false)],3,32,[.string ByteArray.empty,.int .i64 0,.int .i64 0],false⟩))++(([12,278,365,431].map fun n=>(n,⟨.int .u64,1,8,[.int .u64 0],false⟩))++(([168,169,232,242].map fun n=>(n,⟨.st [(0,1,false),(1,1,false)],2,32,[.string ByteArray.empty,.string ByteArray.empty],false⟩))++(([175,176,182,183].map fun n=>(n,⟨.st [(0,1,false),(1,1,false),(2,1,false),(3,1,false)],4,40,[.string ByteArray.empty,.int .i64 0,.int .i64 0,.int .i64 0],false⟩))++(([2,3,46,356].map fun n=>(n,⟨.int .i64,1,8,[.int .i64 0],false⟩))++(([202,203,417,418].map fun n=>(n,⟨.st [(0,1,false),(1,1,false),(2,1,false)],3,40,[.int .i64 0,.int .i64 0,.slice none 0 0],false⟩))++(([32,33,463,464].map fun n=>(n,⟨.st [(0,1,false),(1,1,false),(2,1,false)],3,56,[.int .i64 0,.slice none 0 0,.slice none 0 0],false⟩))++(([177,178,252,253,263,264,268,269].map fun n=>(n,⟨.st [(0,1,false),(1,1,false)],2,40,[.string ByteArray.empty,.slice none 0 0],false⟩))++(([15,16,17,186,208,318,435,465,490].map fun n=>(n,⟨.sc,1,8,[.pointer none],false⟩))++([(4,⟨.sc,1,1,[.bool false],true⟩),
 (5,⟨.int .u8,1,1,[.int .u8 0],false⟩),
 (6,⟨.int .u8,1,1,[.int .u8 0],false⟩),
 (7,⟨.st [(0,1,false),(1,1,false),(2,1,false),(3,1,false)],4,24,[.int .i64 0,.int .i64 0,.bool false,.int .u8 0],false⟩),
 (8,⟨.st [(0,1,false),(1,1,false),(2,1,false),(3,1,false)],4,24,[.int .i64 0,.int .i64 0,.bool false,.int .u8 0],false⟩),
 (13,⟨.st [(0,1,false),(1,1,false)],2,24,[.string ByteArray.empty,.int .u64 0],false⟩),
 (14,⟨.st [(0,1,false),(1,1,false)],2,24,[.string ByteArray.empty,.int .u64 0],false⟩),
 (18,⟨.st [(0,1,false)],1,8,[.pointer none],false⟩),
 (19,⟨.st [(0,1,false)],1,8,[.pointer none],false⟩),
 (20,⟨.sc,1,16,[.nilIface],false⟩),
 (21,⟨.int .i32,1,4,[.int .i32 0],false⟩),
 (22,⟨.sl 269,1,24,[.slice none 0 0],false⟩),
 (23,⟨.sl 233,1,24,[.slice none 0 0],false⟩),
 (24,⟨.sl 240,1,24,[.slice none 0 0],false⟩),
 (25,⟨.st [(0,1,false),(1,1,false)],2,48,[.slice none 0 0,.slice none 0 0],false⟩),
 (26,⟨.st [(0,1,false),(1,1,false)],2,48,[.slice none 0 0,.slice none 0 0],false⟩),
 (27,⟨.sl 183,1,24,[.slice none 0 0],false⟩),
 (28,⟨.sl 169,1,24,[.slice none 0 0],false⟩),
 (29,⟨.sl 33,1,24,[.slice none 0 0],false⟩),
 (30,⟨.sl 253,1,24,[.slice none 0 0],false⟩),
 (31,⟨.sl 342,1,24,[.slice none 0 0],false⟩),
 (34,⟨.sl 63,1,24,[.slice none 0 0],false⟩),
 (35,⟨.sl 259,1,24,[.slice none 0 0],false⟩),
 (36,⟨.sl 217,1,24,[.slice none 0 0],false⟩),
 (37,⟨.sl 264,1,24,[.slice none 0 0],false⟩),
 (38,⟨.sl 354,1,24,[.slice none 0 0],false⟩),
 (39,⟨.sl 274,1,24,[.slice none 0 0],false⟩),
 (40,⟨.st [(0,1,false),(1,1,false),(2,1,false),(3,1,false),(4,1,false),(5,1,false),(6,1,false)],7,88,[.int .i64 0,.int .i64 0,.int .i64 0,.int .i64 0,.int .i64 0,.slice none 0 0,.slice none 0 0],false⟩),
 (41,⟨.st [(0,1,false),(1,1,false),(2,1,false),(3,1,false),(4,1,false),(5,1,false),(6,1,false)],7,88,[.int .i64 0,.int .i64 0,.int .i64 0,.int .i64 0,.int .i64 0,.slice none 0 0,.slice none 0 0],false⟩),
 (42,⟨.st [(0,1,false),(1,2,true),(3,1,false),(4,1,false),(5,1,false),(6,3,true),(9,1,false),(10,1,false),(11,1,false),(12,1,false),(13,7,true)],20,384,[.slice none 0 0,.slice none 0 0,.slice none 0 0,.slice none 0 0,.slice none 0 0,.slice none 0 0,.int .i64 0,.slice none 0 0,.slice none 0 0,.slice none 0 0,.slice none 0 0,.slice none 0 0,.slice none 0 0,.int .i64 0,.int .i64 0,.int .i64 0,.int .i64 0,.int .i64 0,.slice none 0 0,.slice none 0 0],false⟩),
 (43,⟨.st [(0,1,false),(1,2,true),(3,1,false),(4,1,false),(5,1,false),(6,3,true),(9,1,false),(10,1,false),(11,1,false),(12,1,false),(13,7,true)],20,384,[.slice none 0 0,.slice none 0 0,.slice none 0 0,.slice none 0 0,.slice none 0 0,.slice none 0 0,.int .i64 0,.slice none 0 0,.slice none 0 0,.slice none 0 0,.slice none 0 0,.slice none 0 0,.slice none 0 0,.int .i64 0,.int .i64 0,.int .i64 0,.int .i64 0,.int .i64 0,.slice none 0 0,.slice none 0 0],false⟩),
 (44,⟨.sl 176,1,24,[.slice none 0 0],false⟩),
 (45,⟨.sl 103,1,24,[.slice none 0 0],false⟩),
 (52,⟨.sl 115,1,24,[.slice none 0 0],false⟩),
 (53,⟨.sl 130,1,24,[.slice none 0 0],false⟩),
 (54,⟨.sl 61,1,24,[.slice none 0 0],false⟩),
 (55,⟨.st [(0,1,false),(1,1,false),(2,1,false),(3,1,false),(4,1,false),(5,1,false),(6,1,false)],7,104,[.int .i64 0,.int .i64 0,.int .i64 0,.int .i64 0,.slice none 0 0,.slice none 0 0,.slice none 0 0],false⟩),
 (56,⟨.st [(0,1,false),(1,1,false),(2,1,false),(3,1,false),(4,1,false),(5,1,false),(6,1,false)],7,104,[.int .i64 0,.int .i64 0,.int .i64 0,.int .i64 0,.slice none 0 0,.slice none 0 0,.slice none 0 0],false⟩),
 (62,⟨.st [(0,2,true),(2,1,false),(3,1,false),(4,1,false),(5,1,false)],6,48,[.int .i64 0,.int .i64 0,.int .i64 0,.int .i64 0,.int .i64 0,.bool false],false⟩),
 (63,⟨.st [(0,2,true),(2,1,false),(3,1,false),(4,1,false),(5,1,false)],6,48,[.int .i64 0,.int .i64 0,.int .i64 0,.int .i64 0,.int .i64 0,.bool false],true⟩),
 (65,⟨.sl 66,1,24,[.slice none 0 0],false⟩),
 (66,⟨.sl 125,1,24,[.slice none 0 0],false⟩),
 (67,⟨.sl 151,1,24,[.slice none 0 0],false⟩),
 (68,⟨.st [(0,1,false),(1,1,false),(2,1,false),(3,1,false)],4,96,[.slice none 0 0,.slice none 0 0,.slice none 0 0,.slice none 0 0],false⟩),
 (69,⟨.st [(0,1,false),(1,1,false),(2,1,false),(3,1,false)],4,96,[.slice none 0 0,.slice none 0 0,.slice none 0 0,.slice none 0 0],false⟩),
 (73,⟨.sl 9,1,24,[.slice none 0 0],false⟩),
 (78,⟨.st [(0,1,false),(1,1,false),(2,1,false),(3,1,false),(4,1,false),(5,1,false)],6,48,[.int .i64 0,.int .i64 0,.int .i64 0,.int .i64 0,.int .i64 0,.int .i64 0],false⟩),
 (79,⟨.st [(0,1,false),(1,1,false),(2,1,false),(3,1,false),(4,1,false),(5,1,false)],6,48,[.int .i64 0,.int .i64 0,.int .i64 0,.int .i64 0,.int .i64 0,.int .i64 0],false⟩),
 (83,⟨.st [(0,1,false),(1,1,false)],2,24,[.int .i64 0,.string ByteArray.empty],false⟩),
 (84,⟨.st [(0,1,false),(1,1,false)],2,24,[.int .i64 0,.string ByteArray.empty],false⟩),
 (86,⟨.sl 92,1,24,[.slice none 0 0],false⟩),
 (87,⟨.sl 94,1,24,[.slice none 0 0],false⟩),
 (90,⟨.sl 3,1,24,[.slice none 0 0],false⟩),
 (91,⟨.st [(0,1,false),(1,1,false),(2,1,false),(3,1,false)],4,48,[.int .i64 0,.int .i64 0,.bool false,.slice none 0 0],false⟩),
 (92,⟨.st [(0,1,false),(1,1,false),(2,1,false),(3,1,false)],4,48,[.int .i64 0,.int .i64 0,.bool false,.slice none 0 0],false⟩),
 (95,⟨.sl 98,1,24,[.slice none 0 0],false⟩),
 (97,⟨.st [(0,2,true),(2,1,false),(3,1,false),(4,1,false)],5,40,[.int .i64 0,.int .i64 0,.int .i64 0,.int .i64 0,.bool false],false⟩),
 (98,⟨.st [(0,2,true),(2,1,false),(3,1,false),(4,1,false)],5,40,[.int .i64 0,.int .i64 0,.int .i64 0,.int .i64 0,.bool false],true⟩),
 (99,⟨.sl 178,1,24,[.slice none 0 0],false⟩),
 (102,⟨.st [(0,4,true),(4,1,false),(5,1,false)],6,96,[.int .i64 0,.int .i64 0,.bool false,.slice none 0 0,.slice none 0 0,.slice none 0 0],false⟩),
 (103,⟨.st [(0,4,true),(4,1,false),(5,1,false)],6,96,[.int .i64 0,.int .i64 0,.bool false,.slice none 0 0,.slice none 0 0,.slice none 0 0],false⟩),
 (118,⟨.sl 203,1,24,[.slice none 0 0],false⟩),
 (119,⟨.sl 203,1,24,[.slice none 0 0],false⟩),
 (124,⟨.st [(0,1,false),(1,1,false),(2,1,false),(3,1,false)],4,32,[.int .i64 0,.int .i64 0,.int .i64 0,.int .i64 0],false⟩),
 (125,⟨.st [(0,1,false),(1,1,false),(2,1,false),(3,1,false)],4,32,[.int .i64 0,.int .i64 0,.int .i64 0,.int .i64 0],true⟩),
 (129,⟨.st [(0,1,false),(1,1,false),(2,2,true)],4,40,[.string ByteArray.empty,.int .i64 0,.int .i64 0,.int .i64 0],false⟩),
 (130,⟨.st [(0,1,false),(1,1,false),(2,2,true)],4,40,[.string ByteArray.empty,.int .i64 0,.int .i64 0,.int .i64 0],false⟩),
 (131,⟨.st [(0,1,false),(1,1,false),(2,2,true)],4,32,[.bool false,.int .i64 0,.int .i64 0,.int .i64 0],false⟩),
 (132,⟨.st [(0,1,false),(1,1,false),(2,2,true)],4,32,[.bool false,.int .i64 0,.int .i64 0,.int .i64 0],false⟩),
 (150,⟨.st [(0,1,false),(1,1,false),(2,1,false),(3,2,true)],5,56,[.string ByteArray.empty,.string ByteArray.empty,.int .i64 0,.int .i64 0,.int .i64 0],false⟩),
 (151,⟨.st [(0,1,false),(1,1,false),(2,1,false),(3,2,true)],5,56,[.string ByteArray.empty,.string ByteArray.empty,.int .i64 0,.int .i64 0,.int .i64 0],true⟩),
 (173,⟨.sl 95,1,24,[.slice none 0 0],false⟩),
 (189,⟨.sl 119,1,24,[.slice none 0 0],false⟩),
 (190,⟨.st [(0,3,true),(3,1,false),(4,1,false),(5,1,false),(6,1,false),(7,2,true),(9,1,false),(10,1,false),(11,1,false)],12,160,[.int .i64 0,.slice none 0 0,.slice none 0 0,.slice none 0 0,.slice none 0 0,.bool false,.int .i64 0,.int .i64 0,.int .i64 0,.bool false,.int .i64 0,.int .i64 0],false⟩),
 (191,⟨.st [(0,3,true),(3,1,false),(4,1,false),(5,1,false),(6,1,false),(7,2,true),(9,1,false),(10,1,false),(11,1,false)],12,160,[.int .i64 0,.slice none 0 0,.slice none 0 0,.slice none 0 0,.slice none 0 0,.bool false,.int .i64 0,.int .i64 0,.int .i64 0,.bool false,.int .i64 0,.int .i64 0],false⟩),
 (211,⟨.st [(0,3,true),(3,2,true),(5,1,false),(6,1,false),(7,1,false),(8,1,false),(9,1,false),(10,1,false)],11,136,[.int .i64 0,.slice none 0 0,.slice none 0 0,.int .i64 0,.int .i64 0,.bool false,.int .i64 0,.bool false,.slice none 0 0,.int .i64 0,.int .i64 0],false⟩),
 (212,⟨.st [(0,3,true),(3,2,true),(5,1,false),(6,1,false),(7,1,false),(8,1,false),(9,1,false),(10,1,false)],11,136,[.int .i64 0,.slice none 0 0,.slice none 0 0,.int .i64 0,.int .i64 0,.bool false,.int .i64 0,.bool false,.slice none 0 0,.int .i64 0,.int .i64 0],false⟩),
 (216,⟨.st [(0,1,false),(1,1,false),(2,2,true),(4,1,false),(5,1,false)],6,64,[.string ByteArray.empty,.string ByteArray.empty,.int .i64 0,.int .i64 0,.int .i64 0,.bool false],false⟩),
 (217,⟨.st [(0,1,false),(1,1,false),(2,2,true),(4,1,false),(5,1,false)],6,64,[.string ByteArray.empty,.string ByteArray.empty,.int .i64 0,.int .i64 0,.int .i64 0,.bool false],false⟩),
 (218,⟨.sl 223,1,24,[.slice none 0 0],false⟩),
 (222,⟨.st [(0,1,false),(1,2,true)],3,32,[.string ByteArray.empty,.int .i64 0,.int .i64 0],false⟩),
 (223,⟨.st [(0,1,false),(1,2,true)],3,32,[.string ByteArray.empty,.int .i64 0,.int .i64 0],false⟩),
 (230,⟨.mp 9 9,1,8,[.map none],false⟩),
 (233,⟨.st [(0,1,false),(1,1,false)],2,32,[.string ByteArray.empty,.string ByteArray.empty],true⟩),
 (243,⟨.st [(0,1,false),(1,1,false)],2,32,[.string ByteArray.empty,.string ByteArray.empty],true⟩),
 (237,⟨.mp 243 4,1,8,[.map none],false⟩),
 (238,⟨.sl 243,1,24,[.slice none 0 0],false⟩),
 (239,⟨.st [(0,1,false),(1,1,false),(2,1,false)],3,64,[.string ByteArray.empty,.slice none 0 0,.slice none 0 0],false⟩),
 (240,⟨.st [(0,1,false),(1,1,false),(2,1,false)],3,64,[.string ByteArray.empty,.slice none 0 0,.slice none 0 0],false⟩),
 (247,⟨.mp 9 4,1,8,[.map none],false⟩),
 (258,⟨.st [(0,1,false),(1,1,false),(2,1,false),(3,1,false),(4,1,false)],5,56,[.string ByteArray.empty,.int .i64 0,.int .i64 0,.int .i64 0,.string ByteArray.empty],false⟩),
 (259,⟨.st [(0,1,false),(1,1,false),(2,1,false),(3,1,false),(4,1,false)],5,56,[.string ByteArray.empty,.int .i64 0,.int .i64 0,.int .i64 0,.string ByteArray.empty],false⟩),
 (267,⟨.sl 350,1,24,[.slice none 0 0],false⟩),
 (273,⟨.st [(0,1,false),(1,1,false),(2,1,false)],3,40,[.int .i64 0,.slice none 0 0,.int .i64 0],false⟩),
 (274,⟨.st [(0,1,false),(1,1,false),(2,1,false)],3,40,[.int .i64 0,.slice none 0 0,.int .i64 0],false⟩),
 (294,⟨.sl 297,1,24,[.slice none 0 0],false⟩),
 (296,⟨.st [(0,2,true),(2,1,false)],3,24,[.int .i64 0,.int .i64 0,.bool false],false⟩),
 (297,⟨.st [(0,2,true),(2,1,false)],3,24,[.int .i64 0,.int .i64 0,.bool false],true⟩),
 (317,⟨.mp 9 218,1,8,[.map none],false⟩),
 (327,⟨.sl 4,1,24,[.slice none 0 0],false⟩),
 (341,⟨.st [(0,1,false),(1,1,false),(2,2,true),(4,1,false),(5,1,false),(6,1,false),(7,1,false)],8,104,[.int .i64 0,.string ByteArray.empty,.int .i64 0,.int .i64 0,.slice none 0 0,.int .i64 0,.int .i64 0,.slice none 0 0],false⟩),
 (342,⟨.st [(0,1,false),(1,1,false),(2,2,true),(4,1,false),(5,1,false),(6,1,false),(7,1,false)],8,104,[.int .i64 0,.string ByteArray.empty,.int .i64 0,.int .i64 0,.slice none 0 0,.int .i64 0,.int .i64 0,.slice none 0 0],false⟩),
 (353,⟨.st [(0,1,false),(1,1,false),(2,1,false),(3,1,false)],4,56,[.string ByteArray.empty,.slice none 0 0,.int .i64 0,.int .i64 0],false⟩),
 (354,⟨.st [(0,1,false),(1,1,false),(2,1,false),(3,1,false)],4,56,[.string ByteArray.empty,.slice none 0 0,.int .i64 0,.int .i64 0],false⟩),
 (363,⟨.int .u32,1,4,[.int .u32 0],false⟩),
 (400,⟨.sl 464,1,24,[.slice none 0 0],false⟩),
 (401,⟨.sl 90,1,24,[.slice none 0 0],false⟩),
 (402,⟨.sl 470,1,24,[.slice none 0 0],false⟩),
 (403,⟨.sl 472,1,24,[.slice none 0 0],false⟩),
 (404,⟨.st [(0,4,true),(4,1,false),(5,1,false),(6,1,false),(7,1,false),(8,1,false),(9,1,false),(10,1,false),(11,1,false)],12,288,[.slice none 0 0,.slice none 0 0,.slice none 0 0,.slice none 0 0,.slice none 0 0,.slice none 0 0,.slice none 0 0,.slice none 0 0,.slice none 0 0,.slice none 0 0,.slice none 0 0,.slice none 0 0],false⟩),
 (405,⟨.st [(0,4,true),(4,1,false),(5,1,false),(6,1,false),(7,1,false),(8,1,false),(9,1,false),(10,1,false),(11,1,false)],12,288,[.slice none 0 0,.slice none 0 0,.slice none 0 0,.slice none 0 0,.slice none 0 0,.slice none 0 0,.slice none 0 0,.slice none 0 0,.slice none 0 0,.slice none 0 0,.slice none 0 0,.slice none 0 0],false⟩),
 (408,⟨.sl 5,1,24,[.slice none 0 0],false⟩),
 (413,⟨.sl 418,1,24,[.slice none 0 0],false⟩),
 (415,⟨.sl 484,1,24,[.slice none 0 0],false⟩),
 (424,⟨.st [(0,1,false),(1,1,false),(2,1,false),(3,1,false)],4,4,[.bool false,.bool false,.bool false,.bool false],false⟩),
 (425,⟨.st [(0,1,false),(1,1,false),(2,1,false),(3,1,false)],4,4,[.bool false,.bool false,.bool false,.bool false],false⟩),
 (456,⟨.sl 54,1,24,[.slice none 0 0],false⟩),
 (469,⟨.st [(0,1,false),(1,1,false),(2,1,false)],3,72,[.slice none 0 0,.slice none 0 0,.slice none 0 0],false⟩),
 (470,⟨.st [(0,1,false),(1,1,false),(2,1,false)],3,72,[.slice none 0 0,.slice none 0 0,.slice none 0 0],false⟩),
 (471,⟨.st [(0,1,false),(1,1,false)],2,16,[.bool false,.int .i64 0],false⟩),
 (472,⟨.st [(0,1,false),(1,1,false)],2,16,[.bool false,.int .i64 0],false⟩),
 (502,⟨.mp 3 3,1,8,[.map none],false⟩),
 (503,⟨.st [(0,1,false)],1,24,[.slice none 0 0],false⟩),
 (504,⟨.st [(0,1,false)],1,24,[.slice none 0 0],false⟩)]++([1,48,49,50,51,58,59,64,71,72,75,76,77,81,82,85,89,96,101,105,107,108,109,110,111,112,113,117,121,122,123,126,127,128,134,135,137,138,140,142,143,144,146,147,148,149,153,154,155,156,157,158,159,160,161,162,163,164,165,167,170,171,172,174,179,181,184,185,188,192,193,194,195,196,197,198,199,200,201,204,205,206,207,210,213,215,220,221,224,225,226,227,228,229,231,234,235,236,241,244,245,246,249,250,251,254,255,256,257,261,262,265,266,270,271,272,275,276,277,279,281,282,283,284,285,286,287,288,289,290,291,292,293,295,298,299,300,301,302,303,304,305,306,307,308,309,310,312,313,314,315,316,320,321,322,323,324,325,326,328,330,331,332,333,334,335,336,337,338,339,340,343,344,345,346,347,348,351,352,355,358,359,360,361,362,364,366,367,368,369,370,371,372,373,374,375,376,377,378,379,380,381,382,383,384,386,387,388,389,390,391,392,393,394,395,396,397,398,399,407,410,411,412,414,416,419,420,421,422,423,426,427,428,429,430,432,433,434,436,437,438,439,440,441,442,443,444,445,446,447,448,449,450,451,452,453,454,455,458,459,460,461,462,466,467,468,474,475,476,479,480,481,482,485,486,487,488,489,491,492,493,494,495,496,497,498,499,500,501,505,506,507,509,510,511,512].map fun n=>(n,⟨.sc,1,8,[.nilFunc],false⟩))))))))))))))
def ZB:List (Nat×Nat):=[(294,2),(294,0),(183,2),(183,0),(339,0),(95,0),(97,0),(98,0),(99,0),(202,0),(101,0),(102,0),(327,0),(328,0),(329,0),(443,0),(405,0),(406,0),(442,1),(133,2),(68,0),(70,0)]
def Uw:List (Nat×Nat)->Nat->Nat->Bool
 | [],_,_=>false
 | (f,j)::r,f',j'=>match Nat.beq f f',Nat.beq j j' with
  | true,true=>true
  | _,_=>Uw r f' j'
def Env (S : Nat → Prop) (w : World) : Prop := S 0 ∧ S 1 ∧ (∃ m : Int, w.cell? ⟨0, 0, none⟩ = some (.int .i64 m)) ∧ Lib.TabIs Tryz.prog w "internal/strconv.uint64pow10" .u64 Lib.pow10Tab
theorem RN : Tryz.prog.globalNamed "internal/strconv.uint64pow10" = some 1 := by kernel_rfl
theorem M4(S S':Nat->Prop)(w w':World)(h:Env S w)(hS:∀b,S b->S' b)(hk:∀b,S b->w'.heap[b]?=w.heap[b]?):Env S' w':=by
 obtain⟨u,z,⟨m,D⟩,d⟩:=h;refine⟨hS _ u,hS _ z,⟨m,(CT (hk _ u)).trans D⟩,?_⟩;unfold Lib.TabIs World.var? at d ⊢;simp only[RN,Option.bind_some]at d ⊢;rw[hk _ z];exact d
noncomputable def C:Ctx:={ P:=Tryz.prog,T:=xx tab,md:=Uw ZB,E:=Env,bn:=fun t=>Nat.beq t 92||(Nat.beq t 103||Nat.beq t 173),bf:=fun d=>Nat.beq d 46||(Nat.beq d 21||Nat.beq d 27) }
theorem M5:tab.all (VD Tryz.prog)=true:=by kernel_rfl
theorem ZC:tab.all (RF Tryz.prog)=true:=by kernel_rfl
theorem ZD:tab.all (W8 Tryz.prog)=true:=by kernel_rfl
theorem ZE:tab.all (RL Tryz.prog)=true:=by kernel_rfl
theorem hC:bR C:=⟨Ui ZD,RE M5,fun S S' w w' h hS hk _=>M4 S S' w w' h hS hk,by kernel_rfl,RI ZC,O9 ZE⟩
def i64(n:Int):PV:=.im (.int .i64 n)
def bool(b:Bool):PV:=.im (.bool b)
def rc(r:Reg.aZ):List PV:=[i64 r.x0,i64 r.y0,i64 r.x1,i64 r.y1]
def sp(p:Int×Int):List PV:=[i64 p.1,i64 p.2]
def cd(l:List Reg.aZ):PV:=.sl (l.map rc)
def ints(l:List Int):PV:=.sl (l.map fun n=>[i64 n])
def na(l:Reg.cR):PV:=.sl (l.map sp)
variable {α:Type}
theorem pQ{l:List α}{i:Nat}{x:α}(f:α->List PV)(h:l[i]?=some x):(l.map f)[i]?=some (f x):=by rw[aB,h];rfl
open Reg (aZ cR)
theorem HS(n lo hi:Int):af C 413 [.pv (i64 n),.pv (i64 lo),.pv (i64 hi)] (.p (bool (decide (lo<=n)&&decide (n<=hi)))) []:=by
 refine fW hC Tryz.func413 rfl (by kernel_rfl) fun _=>?_;apply iW<;>intro h<;>(refine⟨?_,trivial⟩)<;>simp[bool,h]
theorem wH(n:Int):af C 336 [.pv (i64 n)] (.p (bool (Reg.kC n))) []:=by
 refine fW hC Tryz.func336 rfl (by kernel_rfl) fun _=>?_;refine⟨_,_,(HS n (-1000000) 1000000),?_,trivial⟩;rfl
theorem HT(a b:aZ):af C 287 [.pv (.ag (rc a)),.pv (.ag (rc b))] (.p (bool (Reg.before a b))) []:=by
 refine fW hC Tryz.func287 rfl (by kernel_rfl) fun _=>?_;apply iW<;>intro h
 ·refine⟨?_,trivial⟩;simp[bool,Reg.before,h]
 apply iW<;>intro d<;>(refine⟨?_,trivial⟩)<;>simp[bool,Reg.before,h,d]
theorem aN{l:List α}{i:Nat}{r:α}(h:l[i]?=some r):l.take (i+1)=l.take i++[r]:=by rw[yY,h];rfl
theorem aj{l:List α}{i:Nat}(h:i<l.length):∃p,l[i]?=some p:=⟨l[i],aX h⟩
variable {k:Nat}
theorem idx{l:List α}{f:α->List PV}{i:Int}{x:α}(h:i=k)(d:l[k]?=some x):0<=i/\(l.map f)[i.toNat]?=some (f x):=by
 subst h;exact⟨by omega,by rw[bU];exact pQ f d⟩
theorem bc{a b:Int}(h:a=b):AV.p (i64 a)=AV.p (i64 b):=by rw[h]
theorem ak(l:List α)(f:α->List PV):(l.map f).length=l.length:=aw ..
theorem M6(x:Int):∀(l:List Int) (lo:Nat),(∀k y,k<lo->l[k]?=some y->y<x)->l[lo]?=some x->Reg.put l x=l:=by
 intro l
 induction l with
 | nil=>intro lo _ h;simp at h
 | cons a l ih=>
  intro lo u d;cases lo with
  | zero=>
   simp at d;subst d;simp[Reg.put]
  | succ lo=>
   have z:a<x:=u 0 a (by omega) rfl;rw[Reg.put,ae z,ih lo (fun k y hk D=>u (k+1) y (by omega) (by simpa using D)) (by simpa using d)]
theorem Pf(x:Int):∀(l:List Int) (lo:Nat),lo<=l.length->(∀k y,k<lo->l[k]?=some y->y<x)->(∀y,l[lo]?=some y->x<y)->Reg.put l x=l.take lo++[x]++l.drop lo:=by
 intro l
 induction l with
 | nil=>intro lo d _ _;simp at d;subst d;simp[Reg.put]
 | cons a l ih=>
  intro lo d z D;cases lo with
  | zero=>
   have I:=D a rfl;rw[Reg.put,aa (by omega),aa (by omega)];simp
  | succ lo=>
   have I:a<x:=z 0 a (by omega) rfl;rw[Reg.put,ae I,ih lo (by simpa using d) (fun k y hk u=>z (k+1) y (by omega) (by simpa using u)) (fun y u=>D y (by simpa using u))];simp
theorem pR{l:List Int}(h:Reg.jv l){i j:Nat}{a b:Int}(d:l[i]?=some a)(hb:l[j]?=some b)(Bm:i<=j):a<=b:=by
 by_cases e:i=j
 ·subst e;rw[d]at hb;injection hb with hb;omega
 have hi:=(aU.1 d);have u:=(aU.1 hb);obtain⟨z,IV⟩:=hi;obtain⟨D,Ln⟩:=u;have:=(jU.1 h) i j z D (by omega);omega
theorem tU(x:Int):∀(l:List Int),(Reg.put l x).length<=l.length+1:=by
 intro l
 induction l with
 | nil=>simp[Reg.put]
 | cons a l ih=>
  rw[Reg.put];split
  ·simp;omega
  split<;>simp
theorem D0(l:List aZ)(r:aZ):Reg.bC (l++[r])=Reg.put (Reg.put (Reg.bC l) r.y0) r.y1:=by
 unfold Reg.bC;rw[se];rfl
theorem KS{l:List aZ}{r:aZ}(h:l[k]?=some r):l.take (k+1)=l.take k++[r]:=by
 rw[yY,h];rfl
theorem D1{l:List aZ}{r:aZ}(h:l[k]?=some r):Reg.bC (l.take (k+1))=Reg.put (Reg.put (Reg.bC (l.take k)) r.y0) r.y1:=by
 rw[KS h,D0]
theorem nc(l:List aZ):Reg.jv (Reg.bC l):=(Reg.oA l).1
theorem jA(l:List Int):∀r∈(l.map fun n=>[i64 n]),r.length=1:=by
 intro r d;obtain⟨n,_,rfl⟩:=bF.1 d;rfl
theorem nd{a b:Nat}:((a:Int)+(b:Int)).tdiv 2=((a+b) / 2:Nat):=by
 rw[DU (by omega)];omega
theorem qW{es:List (List PV)}{n a b:Nat}(h:∀r∈es,r.length=n):∀r∈(es.take b).drop a,r.length=n:=fun r d=>h r (jK (mc d))
theorem Jm(l:List Int)(x:Int)(U:Reg.jv l)(hN:l.length<=10000000000000):af C 415 [.pv (ints l),.pv (i64 x)] (.p (ints (Reg.put l x))) []:=by
 refine fW hC Tryz.func415 rfl (by kernel_rfl) fun _=>?_;refine ax (fun p:Nat×Nat=>p.1<=p.2/\p.2<=l.length/\(∀k y,k<p.1->l[k]?=some y->y<x)/\(∀k y,p.2<=k->l[k]?=some y->x<=y)) (fun p=>[(0,.p (ints l)),(1,.p (i64 x)),(5,.p (i64 p.1)),(6,.p (i64 p.2))]) (fun _=>[]) (fun p=>p.2-p.1) (0,l.length) _ (au.refl _ _) ⟨ai _,aF _,fun k y h=>by omega,fun k y V J=>?_⟩ ⟨rfl,rfl,rfl,bc (by rw[ak]),trivial⟩ trivial fun ⟨lo,hi⟩ Bj t h=>?_
 ·rw[fI (by omega)]at J;cases J
 obtain⟨q1,O,N,R⟩:=Bj;simp only at q1 O N R;have d:=ak l fun n=>[i64 n];apply iW<;>intro V<;>try simp only[zB]at V
 ·refine⟨wO (by omega),by decide,⟨?_,?_⟩,?_⟩
  ·rw[nd];omega
  ·rw[nd];omega
  obtain⟨y,I⟩:=aj (l:=l) (i:=(lo+hi) / 2) (by omega);refine⟨[i64 y],(idx nd I),iW ?_ ?_⟩<;>intro J
  ·refine⟨⟨by rw[nd];omega,by rw[nd];omega⟩,((lo+hi) / 2+1,hi),_,au.refl _ _,⟨by simp only;omega,O,fun k z hk u=>?_,R⟩,by simp only;omega,⟨rfl,rfl,bc (by rw[nd];rfl),Z,Y⟩,trivial⟩;exact Int.lt_of_le_of_lt (pR U u I (by simp only at hk;omega)) J
  refine⟨(lo,(lo+hi) / 2),_,au.refl _ _,⟨by simp only;omega,by simp only;omega,N,fun k z hk u=>?_⟩,by simp only;omega,⟨rfl,rfl,rfl,bc nd,trivial⟩,trivial⟩;have:=pR U I u hk;omega
 have e:lo=hi:=by omega
 subst e;have D:(∀y,l[lo]?=some y->y≠x)->Reg.put l x=l.take lo++[x]++l.drop lo:=fun cU=>Pf x l lo O N fun y I=>by
  have h5:=R lo y (aF _) I;have h6:=cU y I;omega
 apply iW<;>intro J<;>try simp only[zB]at J
 ·rw[d]at J;obtain⟨y,I⟩:=aj (l:=l) (i:=lo) (by omega);refine⟨[i64 y],(idx rfl I),iW ?_ ?_⟩<;>intro W
  ·refine⟨?_,trivial⟩;rw[M6 x l lo N (by rw[I,W])]
  have hp:=D fun z u=>by rw[I]at u;injection u with u;subst u;exact W
  refine⟨⟨by decide,by omega,by rw[d];omega,jA l⟩,⟨qW (jA l),by simp only[dn,aV,d];omega,by simp only[dn,aV,d];omega⟩,⟨by simp,by simp[d];omega,by simp[d];omega⟩,⟨by omega,by rw[d];omega,by omega,jA l⟩,⟨qW (jA l),by simp[d];omega,by simp[d];omega⟩,?_,trivial⟩;rw[hp];simp[ints,iC,vd,i64];rw[aW (by simp)]
 have hp:=D fun z u=>by rw[fI (by omega)]at u;cases u
 refine⟨⟨by decide,by omega,by rw[d];omega,jA l⟩,⟨qW (jA l),by simp only[dn,aV,d];omega,by simp only[dn,aV,d];omega⟩,⟨by simp,by simp[d];omega,by simp[d];omega⟩,⟨by omega,by rw[d];omega,by omega,jA l⟩,⟨qW (jA l),by simp[d];omega,by simp[d];omega⟩,?_,trivial⟩;rw[hp];simp[ints,iC,vd,i64];rw[aW (by simp)]
theorem oS{l:List aZ}{r:aZ}(h:l[k]?=some r):Reg.eN (l.drop k)=if Reg.ia r=true then (if r.x1<=r.x0\/r.y1<=r.y0 then 13 else Reg.eN (l.drop (k+1))) else 1:=by
 obtain⟨a,b⟩:=aU.1 h;rw[pO a,b];rfl
theorem zY(l:List aZ):af C 286 [.pv (cd l)] (.p (i64 (Reg.dv l))) []:=by
 refine fW hC Tryz.func286 rfl (by kernel_rfl) fun _=>?_;have u:=ak l rc;apply iW<;>intro z
 ·rw[u]at z;refine⟨?_,trivial⟩;rw[Reg.dv,ae (by omega)];rfl
 rw[u]at z;have d:Reg.dv l=Reg.eN l:=by rw[Reg.dv,aa (by omega)]
 refine ax (fun i:Nat=>i<=l.length/\Reg.eN l=Reg.eN (l.drop i)) (fun i=>[(0,.p (cd l)),(3,.p (i64 i))]) (fun _=>[]) (fun i=>l.length-i) 0 _ (au.refl _ _) ⟨ai _,rfl⟩ ⟨Z,Z,Y⟩ trivial fun i hi t h=>?_;apply iW<;>intro D
 ·rw[u]at D;obtain⟨r,I⟩:=aj (l:=l) (i:=i) (by omega);have hs:=oS I;refine⟨(rc r),(idx rfl I),_,_,(wH r.x0),iW ?_ ?_⟩<;>intro J
  ·refine⟨?_,trivial⟩;rw[d,hi.2,hs,aa (by simp[Reg.ia,J])];rfl
  refine⟨_,_,(wH r.y0),iW ?_ ?_⟩<;>intro N
  ·refine⟨?_,trivial⟩;rw[d,hi.2,hs,aa (by simp[Reg.ia,N])];rfl
  refine⟨_,_,(wH r.x1),iW ?_ ?_⟩<;>intro O
  ·refine⟨?_,trivial⟩;rw[d,hi.2,hs,aa (by simp[Reg.ia,O])];rfl
  refine⟨_,_,(wH r.y1),iW ?_ ?_⟩<;>intro R
  ·refine⟨?_,trivial⟩;rw[d,hi.2,hs,aa (by simp[Reg.ia,R])];rfl
  have U:Reg.ia r=true:=by simp[Reg.ia,J,N,O,R]
  rw[ae U]at hs;apply iW<;>intro V
  ·refine⟨?_,trivial⟩;rw[d,hi.2,hs,ae (.inl V)];rfl
  apply iW<;>intro W
  ·refine⟨?_,trivial⟩;rw[d,hi.2,hs,ae (.inr W)];rfl
  refine⟨wO (by omega),(i+1),_,au.refl _ _,⟨by omega,?_⟩,by omega,⟨Z,Z,Y⟩,trivial⟩;rw[hi.2,hs,aa (by omega)]
 rw[u]at D;refine⟨?_,trivial⟩;rw[d,hi.2,fv (by omega)];rfl
theorem sC{l m:List α}{r t:α}(h:l[k]?=some r)(h':m[k]?=some t):(l.drop k=m.drop k)↔(r=t/\l.drop (k+1)=m.drop (k+1)):=by
 obtain⟨a,b⟩:=aU.1 h;obtain⟨d,u⟩:=aU.1 h';rw[pO a,pO d,b,u,List.cons.injEq]
theorem BF(l m:List aZ)(hN:l.length<=140737488355328):af C 288 [.pv (cd l),.pv (cd m)] (.p (bool (decide (l=m)))) []:=by
 refine fW hC Tryz.func288 rfl (by kernel_rfl) fun _=>?_;have u:=ak l rc;have D:=ak m rc;apply iW<;>intro z
 ·rw[u,D]at z;refine⟨?_,trivial⟩;rw[aL (fun e:l=m=>z (by rw[e]))];rfl
 rw[u,D]at z;refine ax (fun i:Nat=>i<=l.length/\(l=m↔l.drop i=m.drop i)) (fun i=>[(0,.p (cd l)),(1,.p (cd m)),(5,.p (i64 i))]) (fun _=>[]) (fun i=>l.length-i) 0 _ (au.refl _ _) ⟨ai _,fH⟩ ⟨Z,Z,Z,Y⟩ trivial fun i hi t h=>?_;apply iW<;>intro I
 ·rw[u]at I;obtain⟨r,J⟩:=aj (l:=l) (i:=i) (by omega);obtain⟨q,N⟩:=aj (l:=m) (i:=i) (by omega);have hs:=sC J N;refine⟨(rc r),(idx rfl J),(rc q),(idx rfl N),?_⟩;have O:=Reg.aZ.zX r q;apply iW<;>intro d<;>try simp only[zB]at d
  ·refine⟨?_,trivial⟩;rw[aL];rfl;rw[hi.2,hs,O];simp only[eH,dI]at d;intro ⟨⟨R,e2,U,V⟩,_⟩;simp[R,e2,U,V]at d
  refine⟨wO (by omega),(i+1),_,au.refl _ _,⟨by omega,?_⟩,by omega,⟨Z,Z,Z,Y⟩,trivial⟩;rw[hi.2,hs,O];simp[cz]at d;exact and_iff_right d
 refine⟨?_,trivial⟩;rw[u]at I;rw[aP];rfl;rw[hi.2,fv (by omega),fv (by omega)]
theorem xD{l:cR}{a b:Int}:∀(k:Nat),(∀i p,i<k->l[i]?=some p->p.2<a)->k<=l.length->Reg.eM l a b=l.take k++Reg.eM (l.drop k) a b:=by
 induction l with
 | nil=>intro k _ hk;simp at hk;subst hk;simp
 | cons p l ih=>
  intro k h hk;cases k with
  | zero=>simp
  | succ k=>
   have hp:p.2<a:=h 0 p (by omega) rfl;rw[Reg.eM,ae hp,ih k (fun i q hi d=>h (i+1) q (by omega) (by simpa using d)) (by simpa using hk)];simp
theorem tq{l:cR}{a b:Int}(h:∀p,l[0]?=some p->¬(p.2<a)):Reg.eM l a b=Reg.iP l a b:=by
 cases l with
 | nil=>rfl
 | cons p l=>rw[Reg.eM,aa (h p rfl)]
theorem fj(l:List aZ):(Reg.bC l).length<=2*l.length:=by
 unfold Reg.bC
 suffices h:∀(o:List Int),(l.foldl (fun out r=>Reg.put (Reg.put out r.y0) r.y1) o).length<=o.length+2*l.length by
  have:=h [];simpa using this
 induction l with
 | nil=>intro o;simp
 | cons r l ih=>
  intro o;have h1:=ih (Reg.put (Reg.put o r.y0) r.y1);have h2:=tU r.y0 o;have h3:=tU r.y1 (Reg.put o r.y0);simp only[jg,cH];omega
theorem FN(l:List aZ)(hN:l.length<=4398046511104):af C 338 [.pv (cd l)] (.p (ints (Reg.bC l))) []:=by
 refine fW hC Tryz.func338 rfl (by kernel_rfl) fun _=>?_;have u:=ak l rc;refine ax (fun i:Nat=>i<=l.length) (fun i=>[(0,.p (cd l)),(3,.p (ints (Reg.bC (l.take i)))),(4,.p (i64 i))]) (fun _=>[]) (fun i=>l.length-i) 0 _ (au.nil hC _ 3 rfl) (ai _) ⟨Z,Z,Z,Y⟩ trivial fun i hi t h=>?_;apply iW<;>intro z
 ·rw[u]at z;obtain⟨r,d⟩:=aj (l:=l) (i:=i) (by omega);have hL:=fj (l.take i);have S6:=DV i l;refine⟨(rc r),(idx rfl d),?_⟩;have Yf:=tU r.y0 (Reg.bC (l.take i));refine⟨_,_,(Jm _ r.y0 (nc _) (by omega)),(rc r),(idx rfl d),_,_,(Jm _ r.y1 (Reg.tR _ _ (nc _)) (by omega)),wO (by omega),(i+1),_,au.refl _ _,by omega,by omega,⟨rfl,?_,Z,Y⟩,trivial⟩;rw[D1 d];rfl
 rw[u]at z;refine⟨?_,trivial⟩;rw[aW (by omega)]
theorem RO(a b:Int×Int):a=b↔a.1=b.1/\a.2=b.2:=Prod.ext_iff
theorem BG(l m:cR)(hN:l.length<=140737488355328):af C 416 [.pv (na l),.pv (na m)] (.p (bool (decide (l=m)))) []:=by
 refine fW hC Tryz.func416 rfl (by kernel_rfl) fun _=>?_;have u:=ak l sp;have D:=ak m sp;apply iW<;>intro z
 ·rw[u,D]at z;refine⟨?_,trivial⟩;rw[aL (fun e:l=m=>z (by rw[e]))];rfl
 rw[u,D]at z;refine ax (fun i:Nat=>i<=l.length/\(l=m↔l.drop i=m.drop i)) (fun i=>[(0,.p (na l)),(1,.p (na m)),(5,.p (i64 i))]) (fun _=>[]) (fun i=>l.length-i) 0 _ (au.refl _ _) ⟨ai _,fH⟩ ⟨Z,Z,Z,Y⟩ trivial fun i hi t h=>?_;apply iW<;>intro I
 ·rw[u]at I;obtain⟨r,J⟩:=aj (l:=l) (i:=i) (by omega);obtain⟨q,N⟩:=aj (l:=m) (i:=i) (by omega);have hs:=sC J N;refine⟨(sp r),(idx rfl J),(sp q),(idx rfl N),?_⟩;have O:=RO r q;apply iW<;>intro d<;>try simp only[zB]at d
  ·refine⟨?_,trivial⟩;rw[aL];rfl;rw[hi.2,hs,O];simp only[eH,dI]at d;intro ⟨⟨R,e2⟩,_⟩;simp[R,e2]at d
  refine⟨wO (by omega),(i+1),_,au.refl _ _,⟨by omega,?_⟩,by omega,⟨Z,Z,Z,Y⟩,trivial⟩;rw[hi.2,hs,O];simp[cz]at d;exact and_iff_right d
 refine⟨?_,trivial⟩;rw[u]at I;rw[aP];rfl;rw[hi.2,fv (by omega),fv (by omega)]
theorem Jn(l:cR):∀r∈l.map sp,r.length=2:=by
 intro r d;obtain⟨n,_,rfl⟩:=bF.1 d;rfl
theorem FO{l:cR}{p:Int×Int}{a b:Int}(h:l[k]?=some p):Reg.iP (l.drop k) a b=if p.1<=b then Reg.iP (l.drop (k+1)) (min a p.1) (max b p.2) else (a,b)::l.drop k:=by
 obtain⟨d,u⟩:=aU.1 h;rw[pO d,u];rfl
theorem HU(l:cR)(a b:Int)(hN:l.length<=8796093022207):af C 417 [.pv (na l),.pv (.ag (sp (a,b)))] (.p (na (Reg.eM l a b))) []:=by
 refine sd ⟨[],[0,2],[],[],[(7,[true,true,true,true,true,true,true,true,true,true,true,true,false,true,false,true,true,false,true,true])],[]⟩ hC Tryz.func417 rfl (by kernel_rfl) fun _=>?_;have u:=ak l sp;refine DL (fun i:Nat=>i<=l.length/\Reg.eM l a b=l.take i++Reg.iP (l.drop i) a b) (fun i=>[(0,.p (na l)),(3,.bx 3 0),(5,.ow 5),(6,.p (i64 i))]) (fun i=>[(3,.box [.p (i64 a),.p (i64 b)]),(5,.row 484 ((l.take i).map sp))]) (fun i hi t h=>?_) ?_
 ·obtain⟨U,V⟩:=hi;have lt:=DV i l;refine DL (fun y:Nat×Int×Int=>(i<=y.1/\y.1<=l.length)/\Reg.eM l a b=l.take i++(y.2.1,y.2.2)::l.drop y.1) (fun y=>[(0,.p (na l)),(3,.bx 3 0),(5,.ow 5),(6,.p (i64 y.1))]) (fun y=>[(3,.box [.p (i64 y.2.1),.p (i64 y.2.2)]),(5,.row 484 ((l.take i).map sp))]) (fun y R t h=>?_) ?_
  ·obtain⟨k,J,N⟩:=y;obtain⟨O,z⟩:=R;simp only at O z;refine⟨⟨by simp,by simp;omega,by simp;omega⟩,⟨by omega,by rw[u];omega,by omega,Jn l⟩,⟨qW (Jn l),by simp[u];omega,by simp[u];omega⟩,?_,trivial⟩;rw[z];simp[na,iC,vd,sp,i64];rw[aW (by simp)]
  refine ax (fun y:Nat×Int×Int=>(i<=y.1/\y.1<=l.length)/\Reg.eM l a b=l.take i++Reg.iP (l.drop y.1) y.2.1 y.2.2) (fun y=>[(0,.p (na l)),(3,.bx 3 0),(5,.ow 5),(6,.p (i64 y.1))]) (fun y=>[(3,.box [.p (i64 y.2.1),.p (i64 y.2.2)]),(5,.row 484 ((l.take i).map sp))]) (fun y=>l.length-y.1) (i,a,b) _ (au.refl _ _) ⟨⟨aF _,U⟩,V⟩ ⟨Z,Z,Z,Z,Y⟩ ⟨Z,Z,Y⟩ fun y R t h=>?_;obtain⟨k,J,N⟩:=y;obtain⟨O,z⟩:=R;simp only at O z;apply iW<;>intro D<;>try simp only[zB]at D
  ·rw[u]at D;obtain⟨r,d⟩:=aj (l:=l) (i:=k) (by omega);have hs:=FO (a:=J) (b:=N) d;refine⟨(sp r),(idx rfl d),iW ?_ ?_⟩<;>intro I<;>try simp only[zB]at I
   ·rw[ae I]at hs;exact⟨(sp r),(idx rfl d),(sp r),(idx rfl d),wO (by omega),(k+1,min J r.1,max N r.2),_,au.refl _ _,⟨by simp only;omega,by rw[z,hs]⟩,by simp only;omega,⟨Z,Z,Z,Z,Y⟩,⟨Z,Z,Y⟩⟩
   rw[aa I]at hs;exact⟨(k,J,N),⟨O,by rw[z,hs]⟩,⟨Z,Z,Z,Z,Y⟩,⟨Z,Z,Y⟩⟩
  rw[u]at D;refine⟨(k,J,N),⟨O,?_⟩,⟨Z,Z,Z,Z,Y⟩,⟨Z,Z,Y⟩⟩;rw[z,fv (show l.length<=k by omega)];rfl
 refine ax (fun i:Nat=>i<=l.length/\∀k p,k<i->l[k]?=some p->p.2<a) (fun i=>[(0,.p (na l)),(3,.bx 3 0),(5,.ow 5),(6,.p (i64 i))]) (fun i=>[(3,.box [.p (i64 a),.p (i64 b)]),(5,.row 484 ((l.take i).map sp))]) (fun i=>l.length-i) 0 _ (au.ed hC _ 5 484 _ (by decide) rfl rfl (by decide)) ⟨ai _,fun k p h=>by omega⟩ ⟨Z,Z,Z,Z,Y⟩ ⟨Z,Z,Y⟩ fun i hi t h=>?_;have lt:=DV i l;apply iW<;>intro D
 ·rw[u]at D;obtain⟨r,d⟩:=aj (l:=l) (i:=i) (by omega);refine⟨(sp r),(idx rfl d),iW ?_ ?_⟩<;>intro I
  ·refine⟨(sp r),(idx rfl d),⟨by simp[sp],by simp;omega,by simp;omega⟩,wO (by omega),(i+1),_,au.refl _ _,⟨by omega,fun k p hk hp=>?_⟩,by omega,⟨Z,Z,Z,Z,Y⟩,⟨rfl,?_,trivial⟩⟩
   ·by_cases e:k=i
    ·subst e;rw[d]at hp;injection hp with hp;rw[<-hp];exact I
    exact hi.2 k p (by omega) hp
   rw[aN d,bz];rfl
  refine⟨i,⟨hi.1,?_⟩,⟨Z,Z,Z,Z,Y⟩,⟨Z,Z,Y⟩⟩;rw[xD i hi.2 hi.1,tq];intro p hp;rw[eE,nJ,d]at hp;injection hp with hp;rw[<-hp];exact I
 rw[u]at D;refine⟨i,⟨hi.1,?_⟩,⟨Z,Z,Z,Z,Y⟩,⟨Z,Z,Y⟩⟩;rw[xD i hi.2 hi.1,tq];intro p hp;rw[fI (by simp;omega)]at hp;cases hp
open Reg (gQ)
theorem BH:∀(l:cR) (a b:Int),(Reg.iP l a b).length<=l.length+1:=by
 intro l
 induction l with
 | nil=>intro a b;simp[Reg.iP]
 | cons p l ih=>
  intro a b;rw[Reg.iP];split
  ·have:=ih (min a p.1) (max b p.2);simp only[cH];omega
  simp
theorem BI:∀(l:cR) (a b:Int),(Reg.eM l a b).length<=l.length+1:=by
 intro l
 induction l with
 | nil=>intro a b;simp[Reg.eM]
 | cons p l ih=>
  intro a b;rw[Reg.eM];split
  ·have:=ih a b;simp only[cH];omega
  exact BH _ a b
theorem row_step{l:List aZ}{i:Nat}{r:aZ}(y:Int)(h:l[i]?=some r):Reg.rowOf (l.take (i+1)) y=if r.y0<=y/\y<r.y1 then Reg.eM (Reg.rowOf (l.take i) y) r.x0 r.x1 else Reg.rowOf (l.take i) y:=by
 rw[aN h];unfold Reg.rowOf;rw[iD,se];by_cases d:r.y0<=y/\y<r.y1
 ·rw[ae d];simp[d.1,d.2]
 rw[aa d];have:(decide (r.y0<=y)&&decide (y<r.y1))=false:=by simpa using fun u z=>d ⟨u,z⟩
 simp[this]
theorem zZ(l:List aZ)(y:Int):∀i,i<=l.length->(Reg.rowOf (l.take i) y).length<=i:=by
 intro i
 induction i with
 | zero=>intro _;simp[Reg.rowOf]
 | succ i ih=>
  intro hi;obtain⟨r,d⟩:=aj (l:=l) (i:=i) (by omega);rw[row_step y d];have h1:=ih (by omega);have h2:=BI (Reg.rowOf (l.take i) y) r.x0 r.x1;split<;>omega
theorem ve(l:List aZ)(y:Int):(Reg.rowOf l y).length<=l.length:=by
 have:=zZ l y l.length (aF _)
 rwa [fQ]at this
theorem Pg(l:List aZ)(y:Int)(hN:l.length<=4398046511104):af C 340 [.pv (cd l),.pv (i64 y)] (.p (na (Reg.rowOf l y))) []:=by
 refine fW hC Tryz.func340 rfl (by kernel_rfl) fun _=>?_;have u:=ak l rc;refine ax (fun i:Nat=>i<=l.length) (fun i=>[(0,.p (cd l)),(1,.p (i64 y)),(5,.p (na (Reg.rowOf (l.take i) y))),(6,.p (i64 i))]) (fun _=>[]) (fun i=>l.length-i) 0 _ (au.nil hC _ 5 rfl) (ai _) ⟨Z,Z,Z,Z,Y⟩ trivial fun i hi t h=>?_;apply iW<;>intro z
 ·rw[u]at z;obtain⟨r,d⟩:=aj (l:=l) (i:=i) (by omega);have hs:=row_step y d;have hL:=zZ l y i hi;refine⟨(rc r),(idx rfl d),iW ?_ ?_⟩<;>intro D
  ·refine⟨(rc r),(idx rfl d),iW ?_ ?_⟩<;>intro I
   ·rw[ae ⟨D,I⟩]at hs;exact⟨(rc r),(idx rfl d),(rc r),(idx rfl d),_,_,(HU _ r.x0 r.x1 (by omega)),wO (by omega),(i+1),_,au.refl _ _,by omega,by omega,⟨rfl,rfl,by rw[hs];rfl,Z,Y⟩,trivial⟩
   rw[aa (fun h=>I h.2)]at hs;exact⟨wO (by omega),(i+1),_,au.refl _ _,by omega,by omega,⟨rfl,rfl,by rw[hs];rfl,Z,Y⟩,trivial⟩
  rw[aa (fun h=>D h.1)]at hs;exact⟨wO (by omega),(i+1),_,au.refl _ _,by omega,by omega,⟨rfl,rfl,by rw[hs];rfl,Z,Y⟩,trivial⟩
 rw[u]at z;refine⟨?_,trivial⟩;rw[aW (by omega)]
def bd(b:gQ):List PV:=[i64 b.y0,i64 b.y1,na b.xs]
theorem vf{l:List α}{n:Nat}{x:α}(d:l.length=n+1)(h:l[n]?=some x):l.getLast?=some x:=by
 rw[List.getLast?_eq_getElem?,d];exact h
theorem FP(l:List gQ)(b:gQ)(hN:l.length<=3000000000000)(hX:∀t∈l,t.xs.length<=10000000000000):af C 339 [.row 418 (l.map bd),.pv (.ag (bd b))] (.own 418 ((Reg.pushB l b).map bd)) [.gone]:=by
 refine fW hC Tryz.func339 rfl (by kernel_rfl) fun _=>?_;have u:=ak l bd;have R:=ak b.xs sp;have done:∀z:List gQ,z=Reg.pushB l b->AB.row 418 (z.map bd)=AB.row 418 ((Reg.pushB l b).map bd):=fun z e=>by rw[e]
 apply iW<;>intro N
 ·rw[R]at N;have J:b.xs=[]:=cP (by omega);exact⟨done l (by rw[Reg.pushB,ae J]),Z,Y⟩
 rw[R]at N;have J:b.xs≠[]:=fun e=>N (by rw[e];rfl);have D:l++[b]=Reg.pushB l b->AB.row 418 (l.map bd++[bd b])=AB.row 418 ((Reg.pushB l b).map bd):=fun e=>by rw[<-e,bz];rfl
 apply iW<;>intro U
 ·rw[u]at U;obtain⟨m,O⟩:∃m,l.length=m+1:=⟨l.length-1,by omega⟩;have hi:((l.map bd).length:Int)-1=(m:Nat):=by rw[u];omega
  have hp:Reg.pushB l b=match l.getLast? with
   | some t=>if t.y1=b.y0/\t.xs=b.xs then l.dropLast++[⟨t.y0,b.y1,t.xs⟩] else l++[b]
   | none=>[b]:=by rw[Reg.pushB,aa J]<;>rfl
  obtain⟨t,I⟩:=aj (l:=l) (i:=m) (by omega);rw[vf O I]at hp;simp only at hp;refine⟨⟨by rw[u];omega,by rw[u];omega⟩,⟨by rw[hi];omega,by rw[hi,u];omega⟩,(bd t),(idx hi I).2,iW ?_ ?_⟩<;>intro V
  ·refine⟨⟨by rw[u];omega,by rw[u];omega⟩,⟨by rw[hi];omega,by rw[hi,u];omega⟩,(bd t),(idx hi I).2,_,_,(BG t.xs b.xs (by have:=hX t (an I);omega)),iW ?_ ?_⟩<;>intro W
   ·refine⟨⟨by rw[u];omega,by rw[u];omega⟩,⟨by rw[hi];omega,by rw[hi,u];omega⟩,(bd t),(idx hi I).2,?_⟩;rw[ae ⟨V,W⟩]at hp;have Dw:∀k:Nat,k=m->AB.row 418 ((l.map bd).set k [i64 t.y0,i64 b.y1,na t.xs])=AB.row 418 ((Reg.pushB l b).map bd):=by
     intro k e;subst e;rw[hp];obtain⟨d,hd⟩:=Jl.1 (vf O I);subst hd;have hk:k=d.length:=by simp at O;omega
     subst hk;simp[bd]
    exact⟨Dw _ (by rw[hi];rfl),Z,Y⟩
   rw[aa (fun h=>W h.2)]at hp;exact⟨⟨by simp,by simp;omega,by simp;omega⟩,D hp.symm,Z,Y⟩
  rw[aa (fun h=>V h.1)]at hp;exact⟨⟨by simp,by simp;omega,by simp;omega⟩,D hp.symm,Z,Y⟩
 rw[u]at U;have hl:l=[]:=cP (by omega);exact⟨⟨by simp,by simp;omega,by simp;omega⟩,D (by subst hl;rw[Reg.pushB,aa J];rfl),Z,Y⟩
theorem sD{s:List gQ}{i:Nat}{b:gQ}(h:s[i]?=some b):Reg.told (s.take (i+1))=Reg.told (s.take i)++b.xs.map fun p=>⟨p.1,b.y0,p.2,b.y1⟩:=by
 rw[aN h];simp[Reg.told]
theorem qX(s:List gQ)(d:∀t∈s,t.xs.length<=1000000):(Reg.told s).length<=s.length*1000000:=by
 induction s with
 | nil=>simp[Reg.told]
 | cons b s ih=>
  have h1:=d b (by simp);have u:=ih fun t z=>d t (by simp[z]);simp only[Reg.told,Ds,bG,aw,cH]at u ⊢;simp only[nK];omega
theorem D2{r:List PV}{n:Nat}(h:r.length=n):∀d∈[r],d.length=n:=fun d u=>by rw[bM.1 u];exact h
def nF(b:gQ)(k:Nat):List aZ:=(b.xs.take k).map fun p=>⟨p.1,b.y0,p.2,b.y1⟩
theorem M7(l:List gQ)(hN:l.length<=3000000000000)(I:∀t∈l,t.xs.length<=10000000000000)(hT:(Reg.told l).length<=4398046511104):af C 341 [.pv (.sl (l.map bd))] (.p (cd (Reg.told l))) []:=by
 refine sd ⟨[],[2],[],[8],[],[]⟩ hC Tryz.func341 rfl (by kernel_rfl) fun _=>?_;have d:=ak l bd;have J:∀i,(Reg.told (l.take i)).length<=(Reg.told l).length:=fun i=>by
  have e:Reg.told l=Reg.told (l.take i)++Reg.told (l.drop i):=by
   unfold Reg.told;rw[<-List.flatMap_append,nO]
  rw[e,bG];omega
 refine ax (fun i:Nat=>i<=l.length) (fun i=>[(0,.p (.sl (l.map bd))),(3,.ow 3),(4,.p (i64 i))]) (fun i=>[(3,.row 125 ((Reg.told (l.take i)).map rc))]) (fun i=>l.length-i) 0 _ (au.ed hC _ 3 125 _ (by decide) rfl rfl (by decide)) (ai _) ⟨Z,Z,Z,Y⟩ ⟨Z,Y⟩ fun i hi t h=>?_;apply iW<;>intro u
 ·rw[d]at u;obtain⟨b,hb⟩:=aj (l:=l) (i:=i) (by omega);have z:=ak b.xs sp;have gZ:=I b (an hb);have N:=J (i+1);rw[sD hb,bG,aw]at N;refine DL (fun _:Unit=>True) (fun _=>[(0,.p (.sl (l.map bd))),(3,.ow 3),(4,.p (i64 i))]) (fun _=>[(3,.row 125 ((Reg.told (l.take (i+1))).map rc))]) (fun _ _ t h=>?_) ?_
  ·exact⟨wO (by omega),(i+1),_,au.refl _ _,by omega,by omega,⟨Z,Z,Z,Y⟩,⟨Z,Y⟩⟩
  refine ax (fun k:Nat=>k<=b.xs.length) (fun k=>[(0,.p (.sl (l.map bd))),(3,.ow 3),(4,.p (i64 i)),(5,.p (i64 k))]) (fun k=>[(3,.row 125 ((Reg.told (l.take i)++nF b k).map rc))]) (fun k=>b.xs.length-k) 0 _ (au.refl _ _) (ai _) ⟨Z,Z,Z,Z,Y⟩ ⟨by rw[nF];simp;rfl,trivial⟩ fun k hk t h=>?_;have HV:(nF b k).length<=k:=by simp[nF];omega
  refine⟨(bd b),(idx rfl hb),iW ?_ ?_⟩<;>intro D
  ·rw[z]at D;obtain⟨p,hp⟩:=aj (l:=b.xs) (i:=k) (by omega);refine⟨(bd b),(idx rfl hb),(sp p),(idx rfl hp),(bd b),(idx rfl hb),(bd b),(idx rfl hb),(sp p),(idx rfl hp),(bd b),(idx rfl hb),⟨D2 rfl,by simp;omega,by simp;omega⟩,wO (by omega),(k+1),_,au.refl _ _,by omega,by omega,⟨Z,Z,Z,Z,Y⟩,⟨?_,trivial⟩⟩;have O:nF b (k+1)=nF b k++[⟨p.1,b.y0,p.2,b.y1⟩]:=by simp[nF,aN hp]
   have e:(Reg.told (l.take i)++nF b k).map rc++[rc ⟨p.1,b.y0,p.2,b.y1⟩]=(Reg.told (l.take i)++nF b (k+1)).map rc:=by
    rw[O,<-gT,bz (l₂:=[_])];rfl
   exact ah (AB.row 125) e
  rw[z]at D;refine⟨(),trivial,⟨Z,Z,Z,Y⟩,⟨?_,trivial⟩⟩;rw[sD hb];have:nF b k=b.xs.map fun p=>⟨p.1,b.y0,p.2,b.y1⟩:=by rw[nF,aW (by omega)]
  rw[<-this];rfl
 rw[d]at u;refine⟨?_,trivial⟩;rw[aW (by omega)];rfl
end M
end Go.Proofs.YtnpkopkpbgflnaaGreatDoor
