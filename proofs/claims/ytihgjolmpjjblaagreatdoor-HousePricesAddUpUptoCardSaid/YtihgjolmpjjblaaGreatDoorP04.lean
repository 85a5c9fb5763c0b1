/- Part 4 of the proof of HousePricesAddUp. -/
import Derived.Test.YtihgjolmpjjblaaGreatDoorP03
import Derived.Shelf.Small.Bits
import Derived.Shelf.Small.Strs
import Derived.Shelf.Strconv.Itoa0
import Derived.Shelf.Strconv.Itoa1
import Derived.Shelf.LaysM
import Derived.Shelf.Strconv.Itoa2
import Derived.Shelf.Strconv.Itoa3
import Derived.Shelf.Strings.Search1
import Derived.Shelf.Strings.Search2
import Derived.Shelf.Strings.Search3
import Derived.Shelf.Strings.Count
import Derived.Shelf.Strings.Shaped
import Derived.Shelf.Sort.Plain
import Derived.Shelf.Strings.Split
import Derived.Shelf.Strings.SplitShaped
import Derived.Shelf.Unicode.DecodeSlow
import Derived.Shelf.Slices.Equal
import Derived.Ground.Names2Prog
import Derived.Shelf.Slices.CompactI
import Derived.Shelf.Slices.Cells
import Derived.Shelf.Slices.In.SortNone
import Derived.Shelf.Slices.Empties2
import Derived.Shelf.SlSortCmp.WholeK
import Derived.Shelf.SlGeneric
import Derived.Ground.SlsfProg
import Derived.Test.YtihgjolmpjjblaaGreatDoorProg
import Derived.Lib.LaidTab
import Derived.Lib.ItoaNum
import Derived.Lib.SplitLaws
set_option linter.unusedVariables false
set_option linter.unusedSimpArgs false
set_option maxRecDepth 100000
set_option maxHeartbeats 8000000
namespace Go
abbrev cz:=@Int.le_refl
abbrev wH:=@List.foldl_append
abbrev rm:=@List.pairwise_append
abbrev iY:=@List.pairwise_cons
abbrev Mt:=@List.pairwise_singleton
abbrev jQ:=@Go.Proofs.Tryz.underlying3
abbrev pq:=@Go.Proofs.Tryz.isAgg3
abbrev pr:=@Go.Proofs.Tryz.sizeOf3
abbrev pw:=@Go.Proofs.Tryz.zeroValue3
abbrev pz:=@Go.Proofs.Tryz.underlying9
abbrev rq:=@Go.Proofs.Tryz.isAgg9
abbrev ru:=@Go.Proofs.Tryz.sizeOf9
abbrev rv:=@Go.Proofs.Tryz.zeroValue9
abbrev FR:=@Go.Proofs.Tryz.underlying5
abbrev tP:=@Go.Proofs.Tryz.isAgg5
abbrev tQ:=@Go.Proofs.Tryz.sizeOf5
abbrev tR:=@Go.Proofs.Tryz.zeroValue5
abbrev tS:=@Go.Proofs.Tryz.underlying0
abbrev tT:=@Go.Proofs.Tryz.isAgg0
abbrev tU:=@Go.Proofs.Tryz.sizeOf0
abbrev tV:=@Go.Proofs.Tryz.zeroValue0
abbrev tW:=@Go.Proofs.Tryz.underlying4
abbrev np:=@Go.Proofs.Tryz.isAgg4
abbrev tX:=@Go.Proofs.Tryz.sizeOf4
abbrev tY:=@Go.Proofs.Tryz.zeroValue4
abbrev tZ:=@Go.Proofs.Tryz.underlying127
abbrev wI:=@Go.Proofs.Tryz.isAgg127
abbrev wJ:=@Go.Proofs.Tryz.sizeOf127
abbrev wK:=@Go.Proofs.Tryz.zeroValue127
abbrev wL:=@Go.Proofs.Tryz.underlying204
abbrev wM:=@Go.Proofs.Tryz.isAgg204
abbrev wN:=@Go.Proofs.Tryz.sizeOf204
abbrev wP:=@Go.Proofs.Tryz.zeroValue204
abbrev wQ:=@Go.Proofs.Tryz.underlying206
abbrev wR:=@Go.Proofs.Tryz.isAgg206
abbrev AY:=@Go.Proofs.Tryz.sizeOf206
abbrev AZ:=@Go.Proofs.Tryz.zeroValue206
abbrev A0:=@Go.Proofs.Tryz.underlying182
abbrev FT:=@Go.Proofs.Tryz.underlying197
abbrev FU:=@Go.Proofs.Tryz.underlying198
abbrev FV:=@Go.Proofs.Tryz.underlying269
abbrev FW:=@Go.Proofs.Tryz.underlying273
abbrev FX:=@Go.Proofs.Tryz.underlying309
abbrev FY:=@Go.Proofs.Tryz.underlying310
abbrev FZ:=@Go.Proofs.Tryz.underlying136
abbrev F0:=@Int.toNat_natCast
abbrev cS:=@List.pairwise_iff_getElem
abbrev fI:=@List.drop_eq_getElem_cons
abbrev l_:=@List.filter_append
abbrev jR:=@List.take_length
abbrev fJ:=@List.getLast?_eq_getElem?
abbrev F1:=@List.getD_eq_getElem?_getD
abbrev dG:=@Bool.and_false
abbrev nq:=@List.map_map
abbrev gK:=@List.any_cons
abbrev nt:=@Bool.and_eq_false_iff
abbrev nu:=@decide_eq_false_iff_not
abbrev jS:=@decide_eq_true
abbrev aY:=@decide_eq_false
abbrev aT:=@List.drop_of_length_le
abbrev dc:=@List.getLast?_eq_some_iff
abbrev wS:=@List.flatMap_append
end Go
namespace Go.Proofs.YtihgjolmpjjblaaGreatDoor
namespace Reg
structure aB where
 x0:Int
 y0:Int
 x1:Int
 y1:Int
theorem aB.Ib(a b:aB):a=b↔a.x0=b.x0/\a.y0=b.y0/\a.x1=b.x1/\a.y1=b.y1:=by
 constructor
 ·rintro rfl;exact⟨rfl,rfl,rfl,rfl⟩
 obtain⟨a1,a2,a3,a4⟩:=a;obtain⟨b1,b2,b3,b4⟩:=b;rintro⟨z,D,I,J⟩;simp only at z D I J;rw[z,D,I,J]
instance:DecidableEq aB:=fun a b=>decidable_of_iff' _ (aB.Ib a b)
abbrev cw:=List (Int×Int)
def cover(s:cw)(x:Int):Prop:=∃p∈s,p.1<=x/\x<p.2
def Canon:cw->Prop
 | []=>True
 | [p]=>p.1<p.2
 | p::q::r=>p.1<p.2/\p.2<q.1/\Canon (q::r)
theorem gX(x:Int):¬cover [] x:=fun ⟨_,h,_⟩=>by cases h
theorem bQ(p:Int×Int)(s:cw)(x:Int):cover (p::s) x↔(p.1<=x/\x<p.2)\/cover s x:=by
 constructor
 ·rintro⟨q,z,h⟩;rcases aq.1 z with rfl | z
  ·exact .inl h
  exact .inr ⟨q,z,h⟩
 rintro (h | ⟨q,z,h⟩)
 ·exact⟨p,bW ..,h⟩
 exact⟨q,cD _ z,h⟩
variable {s:cw}
theorem Canon.head{p:Int×Int}(h:Canon (p::s)):p.1<p.2:=by
 cases s with
 | nil=>exact h
 | cons q r=>exact h.1
theorem Canon.tail{p:Int×Int}(h:Canon (p::s)):Canon s:=by
 cases s with
 | nil=>trivial
 | cons q r=>exact h.2.2
theorem Canon.behind{p:Int×Int}(h:Canon (p::s)):∀q∈s,p.2<q.1:=by
 induction s generalizing p with
 | nil=>intro q z;cases z
 | cons a r ih=>
  intro q z;rcases aq.1 z with rfl | z
  ·exact h.2.1
  have:=ih h.2.2 q z;have h1:=h.2.1;have h2:=Canon.head h.2.2;omega
theorem Canon.cons{p:Int×Int}(z:p.1<p.2)(D:∀q∈s,p.2<q.1)(I:Canon s):Canon (p::s):=by
 cases s with
 | nil=>exact z
 | cons a r=>exact⟨z,D a (bW ..),I⟩
theorem Canon.lH{p:Int×Int}(h:Canon (p::s)){x:Int}(hx:x<=p.2):¬cover s x:=by
 rintro⟨q,z,h1,_⟩;have:=h.behind q z;omega
theorem nv:∀(s t:cw),Canon s->Canon t->(∀x,cover s x↔cover t x)->s=t:=by
 intro s
 induction s with
 | nil=>
  intro t _ J I;cases t with
  | nil=>rfl
  | cons q t=>
   have:=J.head;exact absurd ((I q.1).2 ((bQ q t q.1).2 (.inl ⟨cz _,this⟩))) (gX _)
 | cons p s ih=>
  intro t N J I;cases t with
  | nil=>
   have:=N.head;exact absurd ((I p.1).1 ((bQ p s p.1).2 (.inl ⟨cz _,this⟩))) (gX _)
  | cons q t=>
   have hp:=N.head;have R:=J.head;have least {p:Int×Int} {s:cw} (h:Canon (p::s)) {x:Int} (D:cover (p::s) x):p.1<=x:=by
    rcases (bQ p s x).1 D with z | ⟨r,U,z,_⟩
    ·exact z.1
    have:=h.behind r U;have:=h.head;omega
   have V:p.1=q.1:=by
    have a:=least J ((I p.1).1 ((bQ p s p.1).2 (.inl ⟨cz _,hp⟩)));have b:=least N ((I q.1).2 ((bQ q t q.1).2 (.inl ⟨cz _,R⟩)));omega
   have W:p.2=q.2:=by
    rcases Int.lt_trichotomy p.2 q.2 with h | h | h
    ·have D:=(I p.2).2 ((bQ q t p.2).2 (.inl ⟨by omega,h⟩));rcases (bQ p s p.2).1 D with z | z
     ·omega
     exact absurd z (N.lH (cz _))
    ·exact h
    have D:=(I q.2).1 ((bQ p s q.2).2 (.inl ⟨by omega,h⟩));rcases (bQ q t q.2).1 D with z | z
    ·omega
    exact absurd z (J.lH (cz _))
   have e:p=q:=Prod.ext V W;subst e;congr 1;refine ih t N.tail J.tail fun x=>?_;constructor
   ·intro D;have O:¬x<=p.2:=fun h=>N.lH h D;rcases (bQ p t x).1 ((I x).1 ((bQ p s x).2 (.inr D))) with z | z
    ·omega
    exact z
   intro D;have O:¬x<=p.2:=fun h=>J.lH h D;rcases (bQ p s x).1 ((I x).2 ((bQ p t x).2 (.inr D))) with z | z
   ·omega
   exact z
def dH:cw->Int->Int->cw
 | [],a,b=>[(a,b)]
 | [p],a,b=>if a<=p.2 then [(p.1,max p.2 b)] else [p,(a,b)]
 | p::q::r,a,b=>p::dH (q::r) a b
theorem DF(s:cw)(a b:Int)(h:Canon s)(V:a<b)(O:∀p∈s,p.1<=a):
  Canon (dH s a b)/\(∀x,cover (dH s a b) x↔cover s x\/(a<=x/\x<b))/\(∀p∈dH s a b,p.1<=a)/\(∀p∈s,∀q∈(dH s a b).head?,∀r∈s.head?,q.1=r.1)/\(∀c:Int,(∀p∈s,c<p.1)->c<a->∀p∈dH s a b,c<p.1):=by
 induction s with
 | nil=>
  refine⟨V,fun x=>?_,?_,?_,?_⟩
  ·simp[dH,bQ,gX]
  ·simp[dH]
  ·intro p hp;cases hp
  intro c _ I p hp;simp[dH]at hp;subst hp;exact I
 | cons p s ih=>
  cases s with
  | nil=>
   have hp:=h.head;have J:=O p (bW ..);simp only[dH];split
   ·rename_i hle;refine⟨by show p.1<max p.2 b;omega,fun x=>?_,?_,?_,?_⟩
    ·simp only[bQ,gX,or_false];omega
    ·intro q D;simp at D;subst D;exact J
    ·intro q _ r N t z;simp at N z;subst N z;rfl
    intro c I _ q D;simp at D;subst D;exact I p (bW ..)
   rename_i hgt;refine⟨⟨hp,by show p.2<a;omega,V⟩,fun x=>?_,?_,?_,?_⟩
   ·simp only[bQ,gX,or_false]
   ·intro q D;simp at D;rcases D with rfl | rfl
    ·exact J
    exact cz _
   ·intro q _ r N t z;simp at N z;subst N z;rfl
   intro c I U q D;simp at D;rcases D with rfl | rfl
   ·exact I q (bW ..)
   exact U
  | cons q r=>
   obtain⟨Y,Z,i3,_,W⟩:=ih h.tail (fun t z=>O t (cD _ z));simp only[dH];have hb:=h.behind;have qX:=O q (by simp);have hpq:=h.2.1;refine⟨Canon.cons h.head (W p.2 hb (by omega)) Y,fun x=>?_,?_,?_,?_⟩
   ·rw[bQ,Z x,bQ p];exact or_assoc.symm
   ·intro t z;rcases aq.1 z with rfl | z
    ·exact O t (bW ..)
    exact i3 t z
   ·intro _ _ t z u R;simp at z R;subst z R;rfl
   intro c I U t z;rcases aq.1 z with rfl | z
   ·exact I t (bW ..)
   exact W c (fun u R=>I u (cD _ R)) U t z
def dk(l:List aB):cw:=l.foldl (fun out r=>dH out r.x0 r.x1) []
theorem ry(l:List aB)(r:aB):dk (l++[r])=dH (dk l) r.x0 r.x1:=by
 unfold dk;rw[wH];rfl
theorem DG(l:List aB)(R:l.Pairwise fun a b=>a.x0<=b.x0)(U:∀r∈l,r.x0<r.x1):
  Canon (dk l)/\(∀x,cover (dk l) x↔∃r∈l,r.x0<=x/\x<r.x1)/\(∀c:Int,(∀r∈l,r.x0<=c)->∀p∈dk l,p.1<=c):=by
 suffices H:∀n (m:List aB),m.length=n->(m.Pairwise fun a b=>a.x0<=b.x0)->(∀r∈m,r.x0<r.x1)->
   Canon (dk m)/\(∀x,cover (dk m) x↔∃r∈m,r.x0<=x/\x<r.x1)/\(∀c:Int,(∀r∈m,r.x0<=c)->∀p∈dk m,p.1<=c) from H _ l rfl R U
 intro n
 induction n with
 | zero=>
  intro m D _ _;have:m=[]:=cI D;subst this;refine⟨trivial,fun x=>?_,fun c _ p hp=>by cases hp⟩;constructor
  ·intro h;exact absurd h (gX _)
  rintro⟨r,J,_⟩;cases J
 | succ n ih=>
  intro m D N I;obtain⟨k,r,rfl⟩:∃k r,m=k++[r]:=by
   have O:m≠[]:=by intro e;rw[e]at D;cases D
   exact⟨m.dropLast,m.getLast O,(L9 O).symm⟩
  rw[rm]at N;obtain⟨V,W,Y⟩:=ih k (by simp at D;omega) N.1 (fun t z=>I t (ir _ z));have J:=I r (by simp);obtain⟨Z,f2,f3,_,_⟩:=DF (dk k) r.x0 r.x1 V J (Y r.x0 fun t z=>N.2.2 t z r (by simp));rw[ry];refine⟨Z,fun x=>?_,fun c hc p hp=>?_⟩
  ·rw[f2 x,W x];constructor
   ·rintro (⟨t,z,h⟩ | h)
    ·exact⟨t,ir _ z,h⟩
    exact⟨r,by simp,h⟩
   rintro⟨t,z,h⟩;rcases b_.1 z with z | z
   ·exact .inl ⟨t,z,h⟩
   have:t=r:=by simpa using z
   subst this;exact .inr h
  have:=f3 p hp;have:=hc r (by simp);omega
def ov:cw->Int->Int->cw
 | [],a,b=>[(a,b)]
 | p::l,a,b=>if p.1<=b then ov l (min a p.1) (max b p.2) else (a,b)::p::l
def jo:cw->Int->Int->cw
 | [],a,b=>[(a,b)]
 | p::l,a,b=>if p.2<a then p::jo l a b else ov (p::l) a b
theorem F2(s:cw):∀(a b:Int),Canon s->a<b->(∀p∈s,a<=p.2)->
  Canon (ov s a b)/\(∀x,cover (ov s a b) x↔cover s x\/(a<=x/\x<b))/\(∀c:Int,(∀p∈s,c<p.1)->c<a->∀p∈ov s a b,c<p.1):=by
 induction s with
 | nil=>
  intro a b _ J _;refine⟨J,fun x=>?_,fun c _ D p hp=>?_⟩
  ·simp[ov,bQ,gX]
  simp[ov]at hp;subst hp;exact D
 | cons p l ih=>
  intro a b h J N;have hp:=h.head;have hpa:=N p (bW ..);have hb:=h.behind;simp only[ov];split
  ·rename_i hle;obtain⟨R,U,V⟩:=ih (min a p.1) (max b p.2) h.tail (by omega) (fun q z=>by have:=hb q z;have:=N q (cD _ z);omega);refine⟨R,fun x=>?_,fun c D O=>V c (fun q z=>D q (cD _ z)) (by have:=D p (bW ..);omega)⟩;rw[U x,bQ];constructor
   ·rintro (I | I)
    ·exact .inl (.inr I)
    by_cases W:p.1<=x/\x<p.2
    ·exact .inl (.inl W)
    exact .inr (by omega)
   rintro ((I | I) | I)
   ·exact .inr (by omega)
   ·exact .inl I
   exact .inr (by omega)
  rename_i hgt;refine⟨⟨J,by show b<p.1;omega,h⟩,fun x=>?_,fun c D O q z=>?_⟩
  ·rw[bQ];exact or_comm
  rcases aq.1 z with rfl | z
  ·exact O
  exact D q z
theorem Canon.ends(h:Canon s){a:Int}:∀p l,s=p::l->a<=p.2->∀q∈s,a<=q.2:=by
 intro p l e hp q z;subst e;rcases aq.1 z with rfl | z
 ·exact hp
 have h1:=h.behind q z;have h2:q.1<q.2:=by
  have:∀(t:cw),Canon t->∀q∈t,q.1<q.2:=by
   intro t
   induction t with
   | nil=>intro _ q z;cases z
   | cons u t ih=>
    intro D q z;rcases aq.1 z with rfl | z
    ·exact D.head
    exact ih D.tail q z
  exact this l h.tail q z
 omega
theorem F3(s:cw)(a b:Int)(h:Canon s)(I:a<b):
  Canon (jo s a b)/\(∀x,cover (jo s a b) x↔cover s x\/(a<=x/\x<b))/\(∀c:Int,(∀p∈s,c<p.1)->c<a->∀p∈jo s a b,c<p.1):=by
 induction s with
 | nil=>
  refine⟨I,fun x=>?_,fun c _ z p hp=>?_⟩
  ·simp[jo,bQ,gX]
  simp[jo]at hp;subst hp;exact z
 | cons p l ih=>
  simp only[jo];split
  ·rename_i N;obtain⟨O,R,J⟩:=ih h.tail;refine⟨Canon.cons h.head (J p.2 h.behind N) O,fun x=>?_,fun c z U q D=>?_⟩
   ·rw[bQ,R x,bQ p];exact or_assoc.symm
   rcases aq.1 D with rfl | D
   ·exact z q (bW ..)
   exact J c (fun t V=>z t (cD _ V)) U q D
  rename_i hge;exact F2 (p::l) a b h I (h.ends p l rfl (by omega))
def rowOf(l:List aB)(y:Int):cw:=(l.filter fun r=>decide (r.y0<=y)&&decide (y<r.y1)).foldl (fun out r=>jo out r.x0 r.x1) []
theorem Ic(l:List aB)(I:∀r∈l,r.x0<r.x1):∀s:cw,Canon s->Canon (l.foldl (fun out r=>jo out r.x0 r.x1) s)/\(∀x,cover (l.foldl (fun out r=>jo out r.x0 r.x1) s) x↔cover s x\/∃r∈l,r.x0<=x/\x<r.x1):=by
 induction l with
 | nil=>intro s h;exact⟨h,fun x=>by simp⟩
 | cons r l ih=>
  intro s h;obtain⟨J,N,_⟩:=F3 s r.x0 r.x1 h (I r (bW ..));obtain⟨O,R⟩:=ih (fun t D=>I t (cD _ D)) _ J;refine⟨O,fun x=>?_⟩;rw[jN,R x,N x];constructor
  ·rintro ((z | z) | ⟨t,D,z⟩)
   ·exact .inl z
   ·exact .inr ⟨r,bW ..,z⟩
   exact .inr ⟨t,cD _ D,z⟩
  rintro (z | ⟨t,D,z⟩)
  ·exact .inl (.inl z)
  rcases aq.1 D with rfl | D
  ·exact .inl (.inr z)
  exact .inr ⟨t,D,z⟩
theorem qm(l:List aB)(y:Int)(D:∀r∈l,r.x0<r.x1):Canon (rowOf l y)/\∀x,cover (rowOf l y) x↔∃r∈l,(r.y0<=y/\y<r.y1)/\r.x0<=x/\x<r.x1:=by
 obtain⟨I,J⟩:=Ic (l.filter fun r=>decide (r.y0<=y)&&decide (y<r.y1)) (fun r z=>D r ((qZ.1 z).1)) [] trivial;refine⟨I,fun x=>?_⟩;unfold rowOf;rw[J x];constructor
 ·rintro (h | ⟨r,z,h⟩)
  ·exact absurd h (gX _)
  rw[qZ]at z;simp at z;exact⟨r,z.1,z.2,h⟩
 rintro⟨r,z,N,h⟩;exact .inr ⟨r,by rw[qZ];simp[z,N],h⟩
theorem Ie(l a:List aB)(y:Int)(J:∀r∈l,r.x0<r.x1)(N:a.Pairwise fun p q=>p.x0<=q.x0)(D:∀r,r∈a↔r∈l/\r.y0<=y/\y<r.y1):dk a=rowOf l y:=by
 have I:∀r∈a,r.x0<r.x1:=fun r z=>J r ((D r).1 z).1;obtain⟨O,R,_⟩:=DG a N I;obtain⟨U,V⟩:=qm l y J;refine nv _ _ O U fun x=>?_;rw[R x,V x];constructor
 ·rintro⟨r,z,h⟩;obtain⟨W,Y⟩:=(D r).1 z;exact⟨r,W,Y,h⟩
 rintro⟨r,z,Z,h⟩;exact⟨r,(D r).2 ⟨z,Z⟩,h⟩
def ct(l:List Int):Prop:=l.Pairwise fun a b=>a<b
theorem DH:∀(a b:List Int),ct a->ct b->(∀x,x∈a↔x∈b)->a=b:=by
 intro a
 induction a with
 | nil=>
  intro b _ _ h;cases b with
  | nil=>rfl
  | cons y b=>exact absurd ((h y).2 (bW ..)) (by simp)
 | cons x a ih=>
  intro b O hb h;cases b with
  | nil=>exact absurd ((h x).1 (bW ..)) (by simp)
  | cons y b=>
   obtain⟨J,R⟩:=iY.1 O;obtain⟨N,U⟩:=iY.1 hb;have e:x=y:=by
    rcases aq.1 ((h x).1 (bW ..)) with e | V
    ·exact e
    rcases aq.1 ((h y).2 (bW ..)) with e | W
    ·exact e.symm
    have:=J y W;have:=N x V;omega
   subst e;congr 1;refine ih b R U fun z=>?_;constructor
   ·intro I;have:=J z I;rcases aq.1 ((h z).1 (cD _ I)) with e | D
    ·omega
    exact D
   intro I;have:=N z I;rcases aq.1 ((h z).2 (cD _ I)) with e | D
   ·omega
   exact D
def put:List Int->Int->List Int
 | [],n=>[n]
 | a::l,n=>if a<n then a::put l n else if a=n then a::l else n::a::l
theorem F4(l:List Int)(n x:Int):x∈put l n↔x∈l\/x=n:=by
 induction l with
 | nil=>simp[put]
 | cons a l ih=>
  simp only[put];split
  ·rw[aq,ih,aq];exact or_assoc.symm
  split
  ·rename_i h;subst h;simp only[aq];constructor
   ·exact fun h=>.inl h
   rintro (h | h)
   ·exact h
   exact .inl h
  simp only[aq];constructor
  ·rintro (h | h | h)
   ·exact .inr h
   ·exact .inl (.inl h)
   exact .inl (.inr h)
  rintro ((h | h) | h)
  ·exact .inr (.inl h)
  ·exact .inr (.inr h)
  exact .inl h
theorem B0(l:List Int)(n:Int)(h:ct l):ct (put l n):=by
 induction l with
 | nil=>exact Mt _ _
 | cons a l ih=>
  obtain⟨D,I⟩:=iY.1 h;simp only[put];split
  ·refine iY.2 ⟨fun x z=>?_,ih I⟩;rcases (F4 l n x).1 z with z | rfl
   ·exact D x z
   assumption
  split
  ·exact h
  refine iY.2 ⟨fun x z=>?_,h⟩;rcases aq.1 z with rfl | z
  ·omega
  have:=D x z;omega
def cr(l:List aB):List Int:=l.foldl (fun out r=>put (put out r.y0) r.y1) []
theorem gY(l:List aB):ct (cr l)/\∀y,y∈cr l↔∃r∈l,y=r.y0\/y=r.y1:=by
 have H:∀(l:List aB) (s:List Int),ct s->ct (l.foldl (fun out r=>put (put out r.y0) r.y1) s)/\∀y,y∈l.foldl (fun out r=>put (put out r.y0) r.y1) s↔y∈s\/∃r∈l,y=r.y0\/y=r.y1:=by
  intro l
  induction l with
  | nil=>intro s D;exact⟨D,fun y=>by simp⟩
  | cons r l ih=>
   intro s D;obtain⟨I,J⟩:=ih _ (B0 _ r.y1 (B0 s r.y0 D));refine⟨I,fun y=>?_⟩;rw[jN,J y,F4,F4];constructor
   ·rintro (((h | h) | h) | ⟨t,z,h⟩)
    ·exact .inl h
    ·exact .inr ⟨r,bW ..,.inl h⟩
    ·exact .inr ⟨r,bW ..,.inr h⟩
    exact .inr ⟨t,cD _ z,h⟩
   rintro (h | ⟨t,z,h⟩)
   ·exact .inl (.inl (.inl h))
   rcases aq.1 z with rfl | z
   ·rcases h with h | h
    ·exact .inl (.inl (.inr h))
    exact .inl (.inr h)
   exact .inr ⟨t,z,h⟩
 obtain⟨N,O⟩:=H l [] List.Pairwise.nil;exact⟨N,fun y=>(O y).trans (by simp)⟩
structure aR where
 y0:Int
 y1:Int
 xs:cw
def fj(l:List aR)(b:aR):List aR:=
 if b.xs=[] then l else
 match l.getLast? with
 | some t=>if t.y1=b.y0/\t.xs=b.xs then l.dropLast++[⟨t.y0,b.y1,t.xs⟩] else l++[b]
 | none=>[b]
def dw(l:List aB)(ys:List Int):Nat->List aR
 | 0=>[]
 | k+1=>fj (dw l ys k) ⟨ys.getD k 0,ys.getD (k+1) 0,rowOf l (ys.getD k 0)⟩
def cH(l:List aB):List aR:=dw l (cr l) ((cr l).length-1)
def told(s:List aR):List aB:=s.flatMap fun b=>b.xs.map fun p=>⟨p.1,b.y0,p.2,b.y1⟩
def t_(l:List aB):List aB:=told (cH l)
def iZ(n:Int):Bool:=decide (-1000000<=n)&&decide (n<=1000000)
def jq(r:aB):Bool:=iZ r.x0&&iZ r.y0&&iZ r.x1&&iZ r.y1
def gL:List aB->Int
 | []=>0
 | r::l=>if jq r=true then (if r.x1<=r.x0\/r.y1<=r.y0 then 13 else gL l) else 1
def eo(l:List aB):Int:=if 2000<l.length then 2 else gL l
def before(a b:aB):Bool:=decide (a.y0<b.y0)||(decide (a.y0=b.y0)&&decide (a.x0<b.x0))
def ordered:List aB->Bool
 | a::b::l=>before a b&&ordered (b::l)
 | _=>true
def bA(l:List aB):Int:=
 if eo l=0 then (if ordered l=true then (if t_ l=l then 0 else 3) else 8) else eo l
theorem Ig{l:List aB}(h:gL l=0):∀r∈l,jq r=true/\r.x0<r.x1/\r.y0<r.y1:=by
 induction l with
 | nil=>intro r z;cases z
 | cons a l ih=>
  simp only[gL]at h;split at h
  ·split at h
   ·cases h
   intro r z;rcases aq.1 z with rfl | z
   ·exact⟨by assumption,by omega,by omega⟩
   exact ih h r z
  cases h
theorem vD{l:List aB}(h:eo l=0):l.length<=2000/\∀r∈l,jq r=true/\r.x0<r.x1/\r.y0<r.y1:=by
 unfold eo at h;split at h
 ·cases h
 exact⟨by omega,Ig h⟩
end Reg
end Go.Proofs.YtihgjolmpjjblaaGreatDoor
namespace Go.Proofs
open Go.Shelf
def Tryz.lays106_ren:Go.Shelf.Ren:=⟨fun | 106=>71 | 213=>127 | 265=>182 | n=>n,fun | 9=>9 | 3=>3 | n=>n,fun | n=>n⟩
theorem Tryz.lays106:Go.Proofs.Lays.n106 Tryz.prog Tryz.lays106_ren:={
 mixed:=by kernel_rfl
 f106:=Tryz.func71.trans (af some (by kernel_rfl))
 f213:=Tryz.func127.trans (af some (by kernel_rfl))
 f265:=Tryz.func182.trans (af some (by kernel_rfl))
 t3:=jQ
 a3:=pq
 z3:=pr
 v3:=pw
 t9:=pz
 a9:=rq
 z9:=ru
 v9:=rv }
open Go.RowKit in
theorem Tryz.strings_Compare(a b:ByteArray)(w:World):
  Calls Tryz.prog 71 #[.string a,.string b] w fun e w'=>e=.returned (.int .i64 (Lib.compareBytes a.data.toList b.data.toList))/\w'=w:=Any.strings_Compare Tryz.lays106 a b w
def Tryz.lays137_ren:Go.Shelf.Ren:=⟨fun | 137=>106 | 217=>159 | 266=>196 | n=>n,fun | 9=>9 | 5=>5 | 3=>3 | n=>n,fun | n=>n⟩
theorem Tryz.lays137:Go.Proofs.Lays.n137 Tryz.prog Tryz.lays137_ren:={
 mixed:=by kernel_rfl
 f137:=Tryz.func106.trans (af some (by kernel_rfl))
 f217:=Tryz.func159.trans (af some (by kernel_rfl))
 f266:=Tryz.func196.trans (af some (by kernel_rfl))
 t3:=jQ
 a3:=pq
 z3:=pr
 v3:=pw
 t5:=FR
 a5:=tP
 z5:=tQ
 v5:=tR
 t9:=pz
 a9:=rq
 z9:=ru
 v9:=rv }
open Go.RowKit in
theorem Tryz.strings_IndexByte(s:ByteArray)(c:Int)(w:World):
  Calls Tryz.prog 106 #[.string s,.int .u8 c] w fun e w'=>e=.returned (.int .i64 (Lib.indexByte s.data.toList c.toNat.toUInt8))/\w'=w:=Any.strings_IndexByte Tryz.lays137 s c w
def Tryz.laysM171_ren:Go.Shelf.Ren:=⟨fun | 171=>15 | 243=>32 | 246=>68 | 283=>123 | 284=>124 | 285=>125 | 286=>126 | 129=>89 | 317=>178 | 318=>179 | 319=>180 | 320=>181 | 337=>209 | 338=>210 | n=>n,fun | 3=>3 | 9=>9 | 2=>2 | 4=>4 | 171=>240 | 0=>0 | 53=>206 | 37=>242 | 5=>5 | 173=>243 | 212=>300 | 51=>204 | 20=>20 | 213=>301 | 46=>127 | 232=>345 | 233=>346 | n=>n,fun | 17=>0 | 18=>2 | 19=>3 | n=>n⟩
theorem Tryz.laysM171:Go.Proofs.LaysM.n171 Tryz.prog Tryz.laysM171_ren:={
 mixed:=by kernel_rfl
 f129:=Tryz.func89.trans (af some (by kernel_rfl))
 f171:=Tryz.func15.trans (af some (by kernel_rfl))
 f243:=Tryz.func32.trans (af some (by kernel_rfl))
 f246:=Tryz.func68.trans (af some (by kernel_rfl))
 f283:=Tryz.func123.trans (af some (by kernel_rfl))
 f284:=Tryz.func124.trans (af some (by kernel_rfl))
 f285:=Tryz.func125.trans (af some (by kernel_rfl))
 f286:=Tryz.func126.trans (af some (by kernel_rfl))
 f317:=Tryz.func178.trans (af some (by kernel_rfl))
 f318:=Tryz.func179.trans (af some (by kernel_rfl))
 f319:=Tryz.func180.trans (af some (by kernel_rfl))
 f320:=Tryz.func181.trans (af some (by kernel_rfl))
 f337:=Tryz.func209.trans (af some (by kernel_rfl))
 f338:=Tryz.func210.trans (af some (by kernel_rfl))
 t0:=tS
 a0:=tT
 z0:=tU
 v0:=tV
 t2:=Tryz.underlying2
 a2:=Tryz.isAgg2
 z2:=Tryz.sizeOf2
 v2:=Tryz.zeroValue2
 t3:=jQ
 a3:=pq
 z3:=pr
 v3:=pw
 t4:=tW
 a4:=np
 z4:=tX
 v4:=tY
 t5:=FR
 a5:=tP
 z5:=tQ
 v5:=tR
 t9:=pz
 a9:=rq
 z9:=ru
 v9:=rv
 t20:=Tryz.underlying20
 a20:=Tryz.isAgg20
 z20:=Tryz.sizeOf20
 v20:=Tryz.zeroValue20
 t37:=Tryz.underlying242
 a37:=Tryz.isAgg242
 z37:=Tryz.sizeOf242
 v37:=Tryz.zeroValue242
 t46:=tZ
 a46:=wI
 z46:=wJ
 v46:=wK
 t51:=wL
 a51:=wM
 z51:=wN
 v51:=wP
 t53:=wQ
 a53:=wR
 z53:=AY
 v53:=AZ
 t171:=Tryz.underlying240
 a171:=Tryz.isAgg240
 z171:=Tryz.sizeOf240
 v171:=Tryz.zeroValue240
 t173:=Tryz.underlying243
 a173:=Tryz.isAgg243
 z173:=Tryz.sizeOf243
 v173:=Tryz.zeroValue243
 t212:=Tryz.underlying300
 a212:=Tryz.isAgg300
 z212:=Tryz.sizeOf300
 v212:=Tryz.zeroValue300
 t213:=Tryz.underlying301
 a213:=Tryz.isAgg301
 z213:=Tryz.sizeOf301
 t232:=Tryz.underlying345
 a232:=Tryz.isAgg345
 z232:=Tryz.sizeOf345
 v232:=Tryz.zeroValue345
 t233:=Tryz.underlying346
 a233:=Tryz.isAgg346
 z233:=Tryz.sizeOf346
 v233:=Tryz.zeroValue346
 g17:=by kernel_rfl
 g18:=by kernel_rfl
 g19:=by kernel_rfl
 i0:=by kernel_rfl
 i2:=by kernel_rfl
 i3:=by kernel_rfl
 i4:=by kernel_rfl
 i5:=by kernel_rfl
 i9:=by kernel_rfl
 i20:=by kernel_rfl
 i37:=by kernel_rfl
 i46:=by kernel_rfl
 i51:=by kernel_rfl
 i53:=by kernel_rfl
 i171:=by kernel_rfl
 i173:=by kernel_rfl
 i212:=by kernel_rfl
 i232:=by kernel_rfl
 i233:=by kernel_rfl
 m17:=by kernel_rfl
 m18:=by kernel_rfl
 m19:=by kernel_rfl }
open Go.RowKit Go.Sort Go.Lib in
theorem Tryz.strconv_Itoa (n : Int) (h0 : -9223372036854775808 ≤ n) (h1 : n ≤ 9223372036854775807) (w : World) (acG : Lib.TabIs Tryz.prog w "internal/strconv.uint64pow10" .u64 Lib.pow10Tab) :
  Calls Tryz.prog 15 #[.int .i64 n] w fun e w'=>e=.returned (.string ⟨(Lib.itoa n).toArray⟩)/\∃k os,w'=grow (w.drewN k) os:=Any.strconv_Itoa Tryz.laysM171 n h0 h1 w acG
def Tryz.lays189_ren:Go.Shelf.Ren:=⟨fun | 189=>171 | 125=>38 | 257=>201 | 128=>88 | 129=>89 | 294=>227 | 295=>228 | 296=>229 | 297=>230 | 298=>231 | 299=>232 | 216=>233 | 300=>234 | 301=>235 | 328=>248 | 329=>146 | 330=>147 | 331=>249 | 332=>250 | 215=>191 | 343=>256 | n=>n,fun | 28=>60 | 3=>3 | 46=>127 | 0=>0 | 51=>204 | 53=>206 | 4=>4 | 183=>198 | 182=>197 | 131=>182 | 5=>5 | 9=>9 | 218=>269 | 222=>273 | 228=>309 | 229=>310 | n=>n,fun | n=>n⟩
theorem Tryz.lays189:Go.Proofs.Lays.n189 Tryz.prog Tryz.lays189_ren:={
 mixed:=by kernel_rfl
 f125:=Tryz.func38.trans (af some (by kernel_rfl))
 f128:=Tryz.func88.trans (af some (by kernel_rfl))
 f129:=Tryz.func89.trans (af some (by kernel_rfl))
 f189:=Tryz.func171.trans (af some (by kernel_rfl))
 f215:=Tryz.func191.trans (af some (by kernel_rfl))
 f216:=Tryz.func233.trans (af some (by kernel_rfl))
 f257:=Tryz.func201.trans (af some (by kernel_rfl))
 f294:=Tryz.func227.trans (af some (by kernel_rfl))
 f295:=Tryz.func228.trans (af some (by kernel_rfl))
 f296:=Tryz.func229.trans (af some (by kernel_rfl))
 f297:=Tryz.func230.trans (af some (by kernel_rfl))
 f298:=Tryz.func231.trans (af some (by kernel_rfl))
 f299:=Tryz.func232.trans (af some (by kernel_rfl))
 f300:=Tryz.func234.trans (af some (by kernel_rfl))
 f301:=Tryz.func235.trans (af some (by kernel_rfl))
 f328:=Tryz.func248.trans (af some (by kernel_rfl))
 f329:=Tryz.func146.trans (af some (by kernel_rfl))
 f330:=Tryz.func147.trans (af some (by kernel_rfl))
 f331:=Tryz.func249.trans (af some (by kernel_rfl))
 f332:=Tryz.func250.trans (af some (by kernel_rfl))
 f343:=Tryz.func256.trans (af some (by kernel_rfl))
 t0:=tS
 a0:=tT
 z0:=tU
 v0:=tV
 t3:=jQ
 a3:=pq
 z3:=pr
 v3:=pw
 t4:=tW
 a4:=np
 z4:=tX
 v4:=tY
 t5:=FR
 a5:=tP
 z5:=tQ
 v5:=tR
 t9:=pz
 a9:=rq
 z9:=ru
 v9:=rv
 t28:=Tryz.underlying60
 a28:=Tryz.isAgg60
 z28:=Tryz.sizeOf60
 v28:=Tryz.zeroValue60
 t46:=tZ
 a46:=wI
 z46:=wJ
 v46:=wK
 t51:=wL
 a51:=wM
 z51:=wN
 v51:=wP
 t53:=wQ
 a53:=wR
 z53:=AY
 v53:=AZ
 t131:=A0
 a131:=Tryz.isAgg182
 z131:=Tryz.sizeOf182
 v131:=Tryz.zeroValue182
 t182:=FT
 a182:=Tryz.isAgg197
 z182:=Tryz.sizeOf197
 v182:=Tryz.zeroValue197
 t183:=FU
 a183:=Tryz.isAgg198
 z183:=Tryz.sizeOf198
 v183:=Tryz.zeroValue198
 t218:=FV
 a218:=Tryz.isAgg269
 z218:=Tryz.sizeOf269
 v218:=Tryz.zeroValue269
 t222:=FW
 a222:=Tryz.isAgg273
 z222:=Tryz.sizeOf273
 v222:=Tryz.zeroValue273
 t228:=FX
 a228:=Tryz.isAgg309
 z228:=Tryz.sizeOf309
 v228:=Tryz.zeroValue309
 t229:=FY
 a229:=Tryz.isAgg310
 z229:=Tryz.sizeOf310
 v229:=Tryz.zeroValue310 }
open Go.Sort Go.RowKit in
theorem Tryz.slices_Sort_int(cF off cap:Nat)(zs:List Int)(w:World)(I:Holds (Value.int .i64) w cF off zs.toArray)(z:cF<w.heap.size)(D:zs.length<4611686018427387904):
  Calls Tryz.prog 171 #[.slice (some ⟨cF,off,none⟩) zs.length cap] w fun e w'=>
   e=.returned (.tuple #[])/\∃n os,w'=grow (putRow (Value.int .i64) (Sort.ahead w n) cF off (zs.mergeSort fun x y=>decide (x<=y)).toArray) os:=Any.slices_Sort_int Tryz.lays189 cF off cap zs w I z D
def Tryz.lays146_ren:Go.Shelf.Ren:=⟨fun | 146=>99 | 221=>157 | 268=>193 | 138=>194 | 143=>195 | 195=>215 | 197=>216 | 218=>217 | 219=>218 | 260=>241 | 217=>159 | 225=>242 | 224=>243 | 267=>244 | 266=>196 | 314=>254 | n=>n,fun | 9=>9 | 31=>136 | 3=>3 | 4=>4 | 0=>0 | 105=>329 | 21=>21 | 5=>5 | 46=>127 | 119=>353 | 139=>356 | 138=>355 | 146=>357 | 51=>204 | n=>n,fun | 1=>1 | 3=>4 | 4=>5 | n=>n⟩
theorem Tryz.lays146:Go.Proofs.Lays.n146 Tryz.prog Tryz.lays146_ren:={
 mixed:=by kernel_rfl
 f138:=Tryz.func194.trans (af some (by kernel_rfl))
 f143:=Tryz.func195.trans (af some (by kernel_rfl))
 f146:=Tryz.func99.trans (af some (by kernel_rfl))
 f195:=Tryz.func215.trans (af some (by kernel_rfl))
 f197:=Tryz.func216.trans (af some (by kernel_rfl))
 f217:=Tryz.func159.trans (af some (by kernel_rfl))
 f218:=Tryz.func217.trans (af some (by kernel_rfl))
 f219:=Tryz.func218.trans (af some (by kernel_rfl))
 f221:=Tryz.func157.trans (af some (by kernel_rfl))
 f224:=Tryz.func243.trans (af some (by kernel_rfl))
 f225:=Tryz.func242.trans (af some (by kernel_rfl))
 f260:=Tryz.func241.trans (af some (by kernel_rfl))
 f266:=Tryz.func196.trans (af some (by kernel_rfl))
 f267:=Tryz.func244.trans (af some (by kernel_rfl))
 f268:=Tryz.func193.trans (af some (by kernel_rfl))
 f314:=Tryz.func254.trans (af some (by kernel_rfl))
 t0:=tS
 a0:=tT
 z0:=tU
 v0:=tV
 t3:=jQ
 a3:=pq
 z3:=pr
 v3:=pw
 t4:=tW
 a4:=np
 z4:=tX
 v4:=tY
 t5:=FR
 a5:=tP
 z5:=tQ
 v5:=tR
 t9:=pz
 a9:=rq
 z9:=ru
 v9:=rv
 t21:=Tryz.underlying21
 a21:=Tryz.isAgg21
 z21:=Tryz.sizeOf21
 v21:=Tryz.zeroValue21
 t31:=FZ
 a31:=Tryz.isAgg136
 z31:=Tryz.sizeOf136
 v31:=Tryz.zeroValue136
 t46:=tZ
 a46:=wI
 z46:=wJ
 v46:=wK
 t51:=wL
 a51:=wM
 z51:=wN
 v51:=wP
 t105:=Tryz.underlying329
 a105:=Tryz.isAgg329
 z105:=Tryz.sizeOf329
 v105:=Tryz.zeroValue329
 t119:=Tryz.underlying353
 a119:=Tryz.isAgg353
 z119:=Tryz.sizeOf353
 t138:=Tryz.underlying355
 a138:=Tryz.isAgg355
 z138:=Tryz.sizeOf355
 v138:=Tryz.zeroValue355
 t139:=Tryz.underlying356
 a139:=Tryz.isAgg356
 z139:=Tryz.sizeOf356
 v139:=Tryz.zeroValue356
 t146:=Tryz.underlying357
 a146:=Tryz.isAgg357
 z146:=Tryz.sizeOf357
 v146:=Tryz.zeroValue357
 g1:=by kernel_rfl
 g3:=by kernel_rfl
 g4:=by kernel_rfl }
open Go.RowKit Go.Lib in
theorem Tryz.strings_Split(s z:ByteArray)(m:Int)(w:World)(D:s.size<4294967281)(I:w.cell? ⟨1,0,none⟩=some (.int .i64 m))(J:1<=z.size):
  Calls Tryz.prog 99 #[.string s,.string z] w fun e w'=>
   e=.returned (.slice (some ⟨w.heap.size,0,none⟩) (Lib.countB s z+1) (Lib.countB s z+1))/\w'=w.alloc (.cells ((Lib.splitB z 0 (Lib.countB s z) s).map Value.string).toArray 9):=Any.strings_Split Tryz.lays146 (by kernel_rfl) s z m w D I J
def Tryz.laysNm220_ren:Go.Shelf.Ren:=⟨fun | 20=>172 | n=>n,fun | 22=>60 | 3=>3 | 4=>4 | 0=>0 | n=>n,fun | n=>n⟩
theorem Tryz.laysNm220:Go.Proofs.Lays2.n20 Tryz.prog Tryz.laysNm220_ren:={
 mixed:=by kernel_rfl
 f20:=Tryz.func172.trans (af some (by kernel_rfl))
 t0:=tS
 a0:=tT
 z0:=tU
 v0:=tV
 t3:=jQ
 a3:=pq
 z3:=pr
 v3:=pw
 t4:=tW
 a4:=np
 z4:=tX
 v4:=tY
 t22:=Tryz.underlying60
 a22:=Tryz.isAgg60
 z22:=Tryz.sizeOf60
 v22:=Tryz.zeroValue60
 i3:=by kernel_rfl }
open Go.RowKit Go.Lib Go.Sort in
theorem Tryz.slices_Compact_int(cF off cap:Nat)(zs:List Int)(w:World)(D:Holds (Value.int .i64) w cF off zs.toArray)(z:zs.length<=9223372036854775807)(I:zs.length<=cap):
  Calls Tryz.prog 172 #[.slice (some ⟨cF,off,none⟩) zs.length cap] w fun e w'=>e=.returned (.slice (some ⟨cF,off,none⟩) (Lib.compact zs).length cap)/\∃q,w'=putRow (Value.int .i64) (Sort.ahead w q) cF off (Lib.compact zs++List.replicate (zs.length-(Lib.compact zs).length) 0).toArray:=Any.slices_Compact_int Tryz.laysNm220 cF off cap zs w D z I
open Go.RowKit Go.Lib Go.Sort in
theorem Tryz.slices_Compact_int_empty(a:Option Addr)(cap:Nat)(w:World):
  Calls Tryz.prog 172 #[.slice a 0 cap] w fun e w'=>e=.returned (.slice a 0 cap)/\w'=w:=Any.slices_Compact_int_empty Tryz.laysNm220 a cap w
open Go.RowKit Go.Sort in
theorem Tryz.slices_Sort_int_none(p:Option Addr)(cap:Nat)(w:World):
  Calls Tryz.prog 171 #[.slice p 0 cap] w fun e w'=>e=.returned (.tuple #[])/\w'=w:=Any.slices_Sort_int_none Tryz.lays189 p cap w
def Tryz.laysSortRect_ren:Go.Shelf.Ren:=⟨fun | 6=>169 | 15=>38 | 14=>200 | 28=>88 | 29=>89 | 20=>219 | 21=>220 | 22=>221 | 23=>222 | 24=>223 | 25=>224 | 26=>225 | 27=>226 | 46=>245 | 47=>146 | 48=>147 | 49=>246 | 50=>247 | 57=>255 | n=>n,fun | 22=>52 | 24=>93 | 25=>188 | 3=>3 | 39=>127 | 0=>0 | 53=>204 | 55=>206 | 4=>4 | 46=>198 | 45=>197 | 50=>182 | 5=>5 | 9=>9 | 66=>269 | 70=>273 | 76=>309 | 77=>310 | n=>n,fun | n=>n⟩
theorem Tryz.laysSortRect:Go.Proofs.SlLaysF0.n6 Tryz.prog Tryz.laysSortRect_ren:={
 mixed:=by kernel_rfl
 f6:=⟨Tryz.f169.name,by decide,Tryz.func169.trans (af some (by kernel_rfl))⟩
 f14:=⟨Tryz.f200.name,by decide,Tryz.func200.trans (af some (by kernel_rfl))⟩
 f15:=Tryz.func38.trans (af some (by kernel_rfl))
 f20:=⟨Tryz.f219.name,by decide,Tryz.func219.trans (af some (by kernel_rfl))⟩
 f21:=⟨Tryz.f220.name,by decide,Tryz.func220.trans (af some (by kernel_rfl))⟩
 f22:=⟨Tryz.f221.name,by decide,Tryz.func221.trans (af some (by kernel_rfl))⟩
 f23:=⟨Tryz.f222.name,by decide,Tryz.func222.trans (af some (by kernel_rfl))⟩
 f24:=⟨Tryz.f223.name,by decide,Tryz.func223.trans (af some (by kernel_rfl))⟩
 f25:=⟨Tryz.f224.name,by decide,Tryz.func224.trans (af some (by kernel_rfl))⟩
 f26:=⟨Tryz.f225.name,by decide,Tryz.func225.trans (af some (by kernel_rfl))⟩
 f27:=⟨Tryz.f226.name,by decide,Tryz.func226.trans (af some (by kernel_rfl))⟩
 f28:=Tryz.func88.trans (af some (by kernel_rfl))
 f29:=Tryz.func89.trans (af some (by kernel_rfl))
 f46:=⟨Tryz.f245.name,by decide,Tryz.func245.trans (af some (by kernel_rfl))⟩
 f47:=Tryz.func146.trans (af some (by kernel_rfl))
 f48:=Tryz.func147.trans (af some (by kernel_rfl))
 f49:=⟨Tryz.f246.name,by decide,Tryz.func246.trans (af some (by kernel_rfl))⟩
 f50:=⟨Tryz.f247.name,by decide,Tryz.func247.trans (af some (by kernel_rfl))⟩
 f57:=⟨Tryz.f255.name,by decide,Tryz.func255.trans (af some (by kernel_rfl))⟩
 t0:=tS
 a0:=tT
 z0:=tU
 v0:=tV
 t3:=jQ
 a3:=pq
 z3:=pr
 v3:=pw
 t4:=tW
 a4:=np
 z4:=tX
 v4:=tY
 t5:=FR
 a5:=tP
 z5:=tQ
 v5:=tR
 t9:=pz
 a9:=rq
 z9:=ru
 v9:=rv
 t22:=Tryz.underlying52
 a22:=Tryz.isAgg52
 z22:=Tryz.sizeOf52
 v22:=Tryz.zeroValue52
 t25:=Tryz.underlying188
 a25:=Tryz.isAgg188
 z25:=Tryz.sizeOf188
 v25:=Tryz.zeroValue188
 t39:=tZ
 a39:=wI
 z39:=wJ
 v39:=wK
 t45:=FT
 a45:=Tryz.isAgg197
 z45:=Tryz.sizeOf197
 v45:=Tryz.zeroValue197
 t46:=FU
 a46:=Tryz.isAgg198
 z46:=Tryz.sizeOf198
 v46:=Tryz.zeroValue198
 t50:=A0
 a50:=Tryz.isAgg182
 z50:=Tryz.sizeOf182
 v50:=Tryz.zeroValue182
 t53:=wL
 a53:=wM
 z53:=wN
 v53:=wP
 t55:=wQ
 a55:=wR
 z55:=AY
 v55:=AZ
 t66:=FV
 a66:=Tryz.isAgg269
 z66:=Tryz.sizeOf269
 v66:=Tryz.zeroValue269
 t70:=FW
 a70:=Tryz.isAgg273
 z70:=Tryz.sizeOf273
 v70:=Tryz.zeroValue273
 t76:=FX
 a76:=Tryz.isAgg309
 z76:=Tryz.sizeOf309
 v76:=Tryz.zeroValue309
 t77:=FY
 a77:=Tryz.isAgg310
 z77:=Tryz.sizeOf310
 v77:=Tryz.zeroValue310 }
def Tryz.laysSortSpan_ren:Go.Shelf.Ren:=⟨fun | 6=>20 | 15=>38 | 14=>37 | 28=>88 | 29=>89 | 20=>80 | 21=>81 | 22=>82 | 23=>83 | 24=>84 | 25=>85 | 26=>86 | 27=>87 | 46=>145 | 47=>146 | 48=>147 | 49=>148 | 50=>149 | 57=>190 | n=>n,fun | 22=>63 | 24=>86 | 25=>88 | 3=>3 | 39=>127 | 0=>0 | 53=>204 | 55=>206 | 4=>4 | 46=>198 | 45=>197 | 50=>182 | 5=>5 | 9=>9 | 66=>269 | 70=>273 | 76=>309 | 77=>310 | n=>n,fun | n=>n⟩
theorem Tryz.laysSortSpan:Go.Proofs.SlLaysF0.n6 Tryz.prog Tryz.laysSortSpan_ren:={
 mixed:=by kernel_rfl
 f6:=⟨Tryz.f20.name,by decide,Tryz.func20.trans (af some (by kernel_rfl))⟩
 f14:=⟨Tryz.f37.name,by decide,Tryz.func37.trans (af some (by kernel_rfl))⟩
 f15:=Tryz.func38.trans (af some (by kernel_rfl))
 f20:=⟨Tryz.f80.name,by decide,Tryz.func80.trans (af some (by kernel_rfl))⟩
 f21:=⟨Tryz.f81.name,by decide,Tryz.func81.trans (af some (by kernel_rfl))⟩
 f22:=⟨Tryz.f82.name,by decide,Tryz.func82.trans (af some (by kernel_rfl))⟩
 f23:=⟨Tryz.f83.name,by decide,Tryz.func83.trans (af some (by kernel_rfl))⟩
 f24:=⟨Tryz.f84.name,by decide,Tryz.func84.trans (af some (by kernel_rfl))⟩
 f25:=⟨Tryz.f85.name,by decide,Tryz.func85.trans (af some (by kernel_rfl))⟩
 f26:=⟨Tryz.f86.name,by decide,Tryz.func86.trans (af some (by kernel_rfl))⟩
 f27:=⟨Tryz.f87.name,by decide,Tryz.func87.trans (af some (by kernel_rfl))⟩
 f28:=Tryz.func88.trans (af some (by kernel_rfl))
 f29:=Tryz.func89.trans (af some (by kernel_rfl))
 f46:=⟨Tryz.f145.name,by decide,Tryz.func145.trans (af some (by kernel_rfl))⟩
 f47:=Tryz.func146.trans (af some (by kernel_rfl))
 f48:=Tryz.func147.trans (af some (by kernel_rfl))
 f49:=⟨Tryz.f148.name,by decide,Tryz.func148.trans (af some (by kernel_rfl))⟩
 f50:=⟨Tryz.f149.name,by decide,Tryz.func149.trans (af some (by kernel_rfl))⟩
 f57:=⟨Tryz.f190.name,by decide,Tryz.func190.trans (af some (by kernel_rfl))⟩
 t0:=tS
 a0:=tT
 z0:=tU
 v0:=tV
 t3:=jQ
 a3:=pq
 z3:=pr
 v3:=pw
 t4:=tW
 a4:=np
 z4:=tX
 v4:=tY
 t5:=FR
 a5:=tP
 z5:=tQ
 v5:=tR
 t9:=pz
 a9:=rq
 z9:=ru
 v9:=rv
 t22:=Tryz.underlying63
 a22:=Tryz.isAgg63
 z22:=Tryz.sizeOf63
 v22:=Tryz.zeroValue63
 t25:=Tryz.underlying88
 a25:=Tryz.isAgg88
 z25:=Tryz.sizeOf88
 v25:=Tryz.zeroValue88
 t39:=tZ
 a39:=wI
 z39:=wJ
 v39:=wK
 t45:=FT
 a45:=Tryz.isAgg197
 z45:=Tryz.sizeOf197
 v45:=Tryz.zeroValue197
 t46:=FU
 a46:=Tryz.isAgg198
 z46:=Tryz.sizeOf198
 v46:=Tryz.zeroValue198
 t50:=A0
 a50:=Tryz.isAgg182
 z50:=Tryz.sizeOf182
 v50:=Tryz.zeroValue182
 t53:=wL
 a53:=wM
 z53:=wN
 v53:=wP
 t55:=wQ
 a55:=wR
 z55:=AY
 v55:=AZ
 t66:=FV
 a66:=Tryz.isAgg269
 z66:=Tryz.sizeOf269
 v66:=Tryz.zeroValue269
 t70:=FW
 a70:=Tryz.isAgg273
 z70:=Tryz.sizeOf273
 v70:=Tryz.zeroValue273
 t76:=FX
 a76:=Tryz.isAgg309
 z76:=Tryz.sizeOf309
 v76:=Tryz.zeroValue309
 t77:=FY
 a77:=Tryz.isAgg310
 z77:=Tryz.sizeOf310
 v77:=Tryz.zeroValue310 }
end Go.Proofs
namespace Go.Proofs.YtihgjolmpjjblaaGreatDoor
namespace M
open Go.AM Go.RowKit
def jw:List (Nat×TI):=([21,371,372].map fun n=>(n,⟨.int .i32,1,4,[.int .i32 0],false⟩))++(([9,10,11].map fun n=>(n,⟨.str,1,16,[.string ByteArray.empty],false⟩))++(([12,127,206,269].map fun n=>(n,⟨.int .u64,1,8,[.int .u64 0],false⟩))++(([123,124,140,184].map fun n=>(n,⟨.st [(0,1,false),(1,1,false)],2,32,[.string ByteArray.empty,.string ByteArray.empty],false⟩))++(([2,3,46,197].map fun n=>(n,⟨.int .i64,1,8,[.int .i64 0],false⟩))++(([32,33,253,254].map fun n=>(n,⟨.st [(0,1,false),(1,1,false),(2,1,false)],3,56,[.int .i64 0,.slice none 0 0,.slice none 0 0],false⟩))++(([5,6,367,368].map fun n=>(n,⟨.int .u8,1,1,[.int .u8 0],false⟩))++(([107,108,152,153,165,166].map fun n=>(n,⟨.st [(0,1,false),(1,1,false)],2,40,[.string ByteArray.empty,.slice none 0 0],false⟩))++(([15,16,17,120,173,258,273,309,370].map fun n=>(n,⟨.sc,1,8,[.pointer none],false⟩))++([(4,⟨.sc,1,1,[.bool false],true⟩),
 (7,⟨.st [(0,1,false),(1,1,false),(2,1,false),(3,1,false)],4,24,[.int .i64 0,.int .i64 0,.bool false,.int .u8 0],false⟩),
 (8,⟨.st [(0,1,false),(1,1,false),(2,1,false),(3,1,false)],4,24,[.int .i64 0,.int .i64 0,.bool false,.int .u8 0],false⟩),
 (13,⟨.st [(0,1,false),(1,1,false)],2,24,[.string ByteArray.empty,.int .u64 0],false⟩),
 (14,⟨.st [(0,1,false),(1,1,false)],2,24,[.string ByteArray.empty,.int .u64 0],false⟩),
 (18,⟨.st [(0,1,false)],1,8,[.pointer none],false⟩),
 (19,⟨.st [(0,1,false)],1,8,[.pointer none],false⟩),
 (20,⟨.sc,1,16,[.nilIface],false⟩),
 (22,⟨.sl 166,1,24,[.slice none 0 0],false⟩),
 (23,⟨.sl 185,1,24,[.slice none 0 0],false⟩),
 (24,⟨.sl 138,1,24,[.slice none 0 0],false⟩),
 (25,⟨.st [(0,1,false),(1,1,false)],2,48,[.slice none 0 0,.slice none 0 0],false⟩),
 (26,⟨.st [(0,1,false),(1,1,false)],2,48,[.slice none 0 0,.slice none 0 0],false⟩),
 (27,⟨.sl 147,1,24,[.slice none 0 0],false⟩),
 (28,⟨.sl 124,1,24,[.slice none 0 0],false⟩),
 (29,⟨.sl 33,1,24,[.slice none 0 0],false⟩),
 (30,⟨.sl 153,1,24,[.slice none 0 0],false⟩),
 (31,⟨.sl 223,1,24,[.slice none 0 0],false⟩),
 (34,⟨.sl 80,1,24,[.slice none 0 0],false⟩),
 (35,⟨.sl 159,1,24,[.slice none 0 0],false⟩),
 (36,⟨.sl 110,1,24,[.slice none 0 0],false⟩),
 (37,⟨.sl 108,1,24,[.slice none 0 0],false⟩),
 (38,⟨.sl 235,1,24,[.slice none 0 0],false⟩),
 (39,⟨.sl 171,1,24,[.slice none 0 0],false⟩),
 (40,⟨.st [(0,1,false),(1,1,false),(2,1,false),(3,1,false),(4,1,false),(5,1,false),(6,1,false)],7,88,[.int .i64 0,.int .i64 0,.int .i64 0,.int .i64 0,.int .i64 0,.slice none 0 0,.slice none 0 0],false⟩),
 (41,⟨.st [(0,1,false),(1,1,false),(2,1,false),(3,1,false),(4,1,false),(5,1,false),(6,1,false)],7,88,[.int .i64 0,.int .i64 0,.int .i64 0,.int .i64 0,.int .i64 0,.slice none 0 0,.slice none 0 0],false⟩),
 (42,⟨.st [(0,1,false),(1,2,true),(3,1,false),(4,1,false),(5,1,false),(6,3,true),(9,1,false),(10,1,false),(11,1,false),(12,1,false),(13,7,true)],20,384,[.slice none 0 0,.slice none 0 0,.slice none 0 0,.slice none 0 0,.slice none 0 0,.slice none 0 0,.int .i64 0,.slice none 0 0,.slice none 0 0,.slice none 0 0,.slice none 0 0,.slice none 0 0,.slice none 0 0,.int .i64 0,.int .i64 0,.int .i64 0,.int .i64 0,.int .i64 0,.slice none 0 0,.slice none 0 0],false⟩),
 (43,⟨.st [(0,1,false),(1,2,true),(3,1,false),(4,1,false),(5,1,false),(6,3,true),(9,1,false),(10,1,false),(11,1,false),(12,1,false),(13,7,true)],20,384,[.slice none 0 0,.slice none 0 0,.slice none 0 0,.slice none 0 0,.slice none 0 0,.slice none 0 0,.int .i64 0,.slice none 0 0,.slice none 0 0,.slice none 0 0,.slice none 0 0,.slice none 0 0,.slice none 0 0,.int .i64 0,.int .i64 0,.int .i64 0,.int .i64 0,.int .i64 0,.slice none 0 0,.slice none 0 0],false⟩),
 (44,⟨.st [(0,1,false),(1,1,false),(2,1,false),(3,1,false),(4,1,false),(5,1,false)],6,48,[.int .i64 0,.int .i64 0,.int .i64 0,.int .i64 0,.int .i64 0,.int .i64 0],false⟩),
 (45,⟨.st [(0,1,false),(1,1,false),(2,1,false),(3,1,false),(4,1,false),(5,1,false)],6,48,[.int .i64 0,.int .i64 0,.int .i64 0,.int .i64 0,.int .i64 0,.int .i64 0],false⟩),
 (51,⟨.sl 52,1,24,[.slice none 0 0],false⟩),
 (52,⟨.sl 93,1,24,[.slice none 0 0],false⟩),
 (53,⟨.sl 113,1,24,[.slice none 0 0],false⟩),
 (54,⟨.st [(0,1,false),(1,1,false),(2,1,false),(3,1,false)],4,96,[.slice none 0 0,.slice none 0 0,.slice none 0 0,.slice none 0 0],false⟩),
 (55,⟨.st [(0,1,false),(1,1,false),(2,1,false),(3,1,false)],4,96,[.slice none 0 0,.slice none 0 0,.slice none 0 0,.slice none 0 0],false⟩),
 (56,⟨.st [(0,1,false),(1,1,false)],2,24,[.int .i64 0,.string ByteArray.empty],false⟩),
 (57,⟨.st [(0,1,false),(1,1,false)],2,24,[.int .i64 0,.string ByteArray.empty],false⟩),
 (60,⟨.sl 3,1,24,[.slice none 0 0],false⟩),
 (62,⟨.sl 68,1,24,[.slice none 0 0],false⟩),
 (63,⟨.sl 86,1,24,[.slice none 0 0],false⟩),
 (67,⟨.st [(0,1,false),(1,1,false),(2,1,false),(3,1,false)],4,48,[.int .i64 0,.int .i64 0,.bool false,.slice none 0 0],false⟩),
 (68,⟨.st [(0,1,false),(1,1,false),(2,1,false),(3,1,false)],4,48,[.int .i64 0,.int .i64 0,.bool false,.slice none 0 0],false⟩),
 (77,⟨.st [(0,1,false),(1,1,false)],2,16,[.int .i64 0,.int .i64 0],false⟩),
 (85,⟨.st [(0,1,false),(1,1,false)],2,16,[.int .i64 0,.int .i64 0],false⟩),
 (78,⟨.st [(0,1,false),(1,1,false)],2,16,[.int .i64 0,.int .i64 0],true⟩),
 (86,⟨.st [(0,1,false),(1,1,false)],2,16,[.int .i64 0,.int .i64 0],true⟩),
 (79,⟨.st [(0,2,true),(2,1,false),(3,1,false),(4,1,false),(5,1,false)],6,48,[.int .i64 0,.int .i64 0,.int .i64 0,.int .i64 0,.int .i64 0,.bool false],false⟩),
 (80,⟨.st [(0,2,true),(2,1,false),(3,1,false),(4,1,false),(5,1,false)],6,48,[.int .i64 0,.int .i64 0,.int .i64 0,.int .i64 0,.int .i64 0,.bool false],true⟩),
 (92,⟨.st [(0,1,false),(1,1,false),(2,1,false),(3,1,false)],4,32,[.int .i64 0,.int .i64 0,.int .i64 0,.int .i64 0],false⟩),
 (93,⟨.st [(0,1,false),(1,1,false),(2,1,false),(3,1,false)],4,32,[.int .i64 0,.int .i64 0,.int .i64 0,.int .i64 0],true⟩),
 (100,⟨.sl 180,1,24,[.slice none 0 0],false⟩),
 (101,⟨.sl 180,1,24,[.slice none 0 0],false⟩),
 (105,⟨.mp 9 106,1,8,[.map none],false⟩),
 (106,⟨.sl 115,1,24,[.slice none 0 0],false⟩),
 (109,⟨.st [(0,1,false),(1,1,false),(2,2,true),(4,1,false),(5,1,false)],6,64,[.string ByteArray.empty,.string ByteArray.empty,.int .i64 0,.int .i64 0,.int .i64 0,.bool false],false⟩),
 (110,⟨.st [(0,1,false),(1,1,false),(2,2,true),(4,1,false),(5,1,false)],6,64,[.string ByteArray.empty,.string ByteArray.empty,.int .i64 0,.int .i64 0,.int .i64 0,.bool false],false⟩),
 (112,⟨.st [(0,1,false),(1,1,false),(2,1,false),(3,2,true)],5,56,[.string ByteArray.empty,.string ByteArray.empty,.int .i64 0,.int .i64 0,.int .i64 0],false⟩),
 (113,⟨.st [(0,1,false),(1,1,false),(2,1,false),(3,2,true)],5,56,[.string ByteArray.empty,.string ByteArray.empty,.int .i64 0,.int .i64 0,.int .i64 0],true⟩),
 (114,⟨.st [(0,1,false),(1,2,true)],3,32,[.string ByteArray.empty,.int .i64 0,.int .i64 0],false⟩),
 (115,⟨.st [(0,1,false),(1,2,true)],3,32,[.string ByteArray.empty,.int .i64 0,.int .i64 0],false⟩),
 (117,⟨.st [(0,1,false),(1,1,false),(2,2,true)],4,32,[.bool false,.int .i64 0,.int .i64 0,.int .i64 0],false⟩),
 (118,⟨.st [(0,1,false),(1,1,false),(2,2,true)],4,32,[.bool false,.int .i64 0,.int .i64 0,.int .i64 0],false⟩),
 (134,⟨.mp 141 4,1,8,[.map none],false⟩),
 (135,⟨.sl 141,1,24,[.slice none 0 0],false⟩),
 (136,⟨.sl 9,1,24,[.slice none 0 0],false⟩),
 (137,⟨.st [(0,1,false),(1,1,false),(2,1,false)],3,64,[.string ByteArray.empty,.slice none 0 0,.slice none 0 0],false⟩),
 (138,⟨.st [(0,1,false),(1,1,false),(2,1,false)],3,64,[.string ByteArray.empty,.slice none 0 0,.slice none 0 0],false⟩),
 (141,⟨.st [(0,1,false),(1,1,false)],2,32,[.string ByteArray.empty,.string ByteArray.empty],true⟩),
 (185,⟨.st [(0,1,false),(1,1,false)],2,32,[.string ByteArray.empty,.string ByteArray.empty],true⟩),
 (145,⟨.mp 9 4,1,8,[.map none],false⟩),
 (146,⟨.st [(0,1,false),(1,1,false),(2,1,false),(3,1,false)],4,40,[.string ByteArray.empty,.int .i64 0,.int .i64 0,.int .i64 0],false⟩),
 (147,⟨.st [(0,1,false),(1,1,false),(2,1,false),(3,1,false)],4,40,[.string ByteArray.empty,.int .i64 0,.int .i64 0,.int .i64 0],false⟩),
 (158,⟨.st [(0,1,false),(1,1,false),(2,1,false),(3,1,false),(4,1,false)],5,56,[.string ByteArray.empty,.int .i64 0,.int .i64 0,.int .i64 0,.string ByteArray.empty],false⟩),
 (159,⟨.st [(0,1,false),(1,1,false),(2,1,false),(3,1,false),(4,1,false)],5,56,[.string ByteArray.empty,.int .i64 0,.int .i64 0,.int .i64 0,.string ByteArray.empty],false⟩),
 (164,⟨.sl 231,1,24,[.slice none 0 0],false⟩),
 (170,⟨.st [(0,1,false),(1,1,false),(2,1,false)],3,40,[.int .i64 0,.slice none 0 0,.int .i64 0],false⟩),
 (171,⟨.st [(0,1,false),(1,1,false),(2,1,false)],3,40,[.int .i64 0,.slice none 0 0,.int .i64 0],false⟩),
 (176,⟨.sl 101,1,24,[.slice none 0 0],false⟩),
 (177,⟨.st [(0,3,true),(3,1,false),(4,1,false),(5,1,false),(6,1,false),(7,2,true),(9,1,false),(10,1,false),(11,1,false)],12,160,[.int .i64 0,.slice none 0 0,.slice none 0 0,.slice none 0 0,.slice none 0 0,.bool false,.int .i64 0,.int .i64 0,.int .i64 0,.bool false,.int .i64 0,.int .i64 0],false⟩),
 (178,⟨.st [(0,3,true),(3,1,false),(4,1,false),(5,1,false),(6,1,false),(7,2,true),(9,1,false),(10,1,false),(11,1,false)],12,160,[.int .i64 0,.slice none 0 0,.slice none 0 0,.slice none 0 0,.slice none 0 0,.bool false,.int .i64 0,.int .i64 0,.int .i64 0,.bool false,.int .i64 0,.int .i64 0],false⟩),
 (179,⟨.st [(0,1,false),(1,1,false),(2,1,false)],3,40,[.int .i64 0,.int .i64 0,.slice none 0 0],false⟩),
 (180,⟨.st [(0,1,false),(1,1,false),(2,1,false)],3,40,[.int .i64 0,.int .i64 0,.slice none 0 0],false⟩),
 (190,⟨.sl 254,1,24,[.slice none 0 0],false⟩),
 (191,⟨.sl 60,1,24,[.slice none 0 0],false⟩),
 (192,⟨.sl 263,1,24,[.slice none 0 0],false⟩),
 (193,⟨.sl 265,1,24,[.slice none 0 0],false⟩),
 (194,⟨.st [(0,4,true),(4,1,false),(5,1,false),(6,1,false),(7,1,false),(8,1,false),(9,1,false),(10,1,false),(11,1,false)],12,288,[.slice none 0 0,.slice none 0 0,.slice none 0 0,.slice none 0 0,.slice none 0 0,.slice none 0 0,.slice none 0 0,.slice none 0 0,.slice none 0 0,.slice none 0 0,.slice none 0 0,.slice none 0 0],false⟩),
 (195,⟨.st [(0,4,true),(4,1,false),(5,1,false),(6,1,false),(7,1,false),(8,1,false),(9,1,false),(10,1,false),(11,1,false)],12,288,[.slice none 0 0,.slice none 0 0,.slice none 0 0,.slice none 0 0,.slice none 0 0,.slice none 0 0,.slice none 0 0,.slice none 0 0,.slice none 0 0,.slice none 0 0,.slice none 0 0,.slice none 0 0],false⟩),
 (204,⟨.int .u32,1,4,[.int .u32 0],false⟩),
 (221,⟨.sl 78,1,24,[.slice none 0 0],false⟩),
 (222,⟨.st [(0,1,false),(1,1,false),(2,2,true),(4,1,false),(5,1,false),(6,1,false),(7,1,false)],8,104,[.int .i64 0,.string ByteArray.empty,.int .i64 0,.int .i64 0,.slice none 0 0,.int .i64 0,.int .i64 0,.slice none 0 0],false⟩),
 (223,⟨.st [(0,1,false),(1,1,false),(2,2,true),(4,1,false),(5,1,false),(6,1,false),(7,1,false)],8,104,[.int .i64 0,.string ByteArray.empty,.int .i64 0,.int .i64 0,.slice none 0 0,.int .i64 0,.int .i64 0,.slice none 0 0],false⟩),
 (230,⟨.st [(0,1,false),(1,1,false),(2,1,false)],3,32,[.string ByteArray.empty,.int .i64 0,.int .i64 0],false⟩),
 (231,⟨.st [(0,1,false),(1,1,false),(2,1,false)],3,32,[.string ByteArray.empty,.int .i64 0,.int .i64 0],false⟩),
 (234,⟨.st [(0,1,false),(1,1,false),(2,1,false),(3,1,false)],4,56,[.string ByteArray.empty,.slice none 0 0,.int .i64 0,.int .i64 0],false⟩),
 (235,⟨.st [(0,1,false),(1,1,false),(2,1,false),(3,1,false)],4,56,[.string ByteArray.empty,.slice none 0 0,.int .i64 0,.int .i64 0],false⟩),
 (242,⟨.sl 5,1,24,[.slice none 0 0],false⟩),
 (262,⟨.st [(0,1,false),(1,1,false),(2,1,false)],3,72,[.slice none 0 0,.slice none 0 0,.slice none 0 0],false⟩),
 (263,⟨.st [(0,1,false),(1,1,false),(2,1,false)],3,72,[.slice none 0 0,.slice none 0 0,.slice none 0 0],false⟩),
 (264,⟨.st [(0,1,false),(1,1,false)],2,16,[.bool false,.int .i64 0],false⟩),
 (265,⟨.st [(0,1,false),(1,1,false)],2,16,[.bool false,.int .i64 0],false⟩),
 (284,⟨.st [(0,1,false),(1,1,false),(2,1,false),(3,1,false)],4,4,[.bool false,.bool false,.bool false,.bool false],false⟩),
 (285,⟨.st [(0,1,false),(1,1,false),(2,1,false),(3,1,false)],4,4,[.bool false,.bool false,.bool false,.bool false],false⟩),
 (304,⟨.mp 3 3,1,8,[.map none],false⟩),
 (306,⟨.st [(0,1,false)],1,24,[.slice none 0 0],false⟩),
 (307,⟨.st [(0,1,false)],1,24,[.slice none 0 0],false⟩),
 (352,⟨.sl 221,1,24,[.slice none 0 0],false⟩),
 (354,⟨.st [(0,1,false),(1,1,false)],2,2,[.int .u8 0,.int .u8 0],false⟩),
 (355,⟨.st [(0,1,false),(1,1,false)],2,2,[.int .u8 0,.int .u8 0],false⟩),
 (362,⟨.st [(0,1,false),(1,1,false),(2,1,false),(3,1,false)],4,40,[.pointer none,.pointer none,.pointer none,.string ByteArray.empty],false⟩),
 (363,⟨.st [(0,1,false),(1,1,false),(2,1,false),(3,1,false)],4,40,[.pointer none,.pointer none,.pointer none,.string ByteArray.empty],false⟩),
 (373,⟨.st [(0,1,false),(1,1,false),(2,1,false),(3,1,false),(4,1,false),(5,1,false),(6,1,false),(7,1,false),(8,1,false),(9,1,false),(10,1,false)],11,48,[.int .u64 0,.int .u64 0,.int .u32 0,.int .u8 0,.int .u8 0,.int .u8 0,.int .u8 0,.nilFunc,.pointer none,.int .i32 0,.int .i32 0],false⟩),
 (374,⟨.st [(0,1,false),(1,1,false),(2,1,false),(3,1,false),(4,1,false),(5,1,false),(6,1,false),(7,1,false),(8,1,false),(9,1,false),(10,1,false)],11,48,[.int .u64 0,.int .u64 0,.int .u32 0,.int .u8 0,.int .u8 0,.int .u8 0,.int .u8 0,.nilFunc,.pointer none,.int .i32 0,.int .i32 0],false⟩)]++([1,48,49,50,59,61,65,66,70,71,73,74,75,76,82,83,84,87,88,89,91,94,95,96,97,98,99,103,104,111,116,119,122,125,126,128,130,131,132,133,139,142,143,144,149,150,151,154,155,156,157,161,162,163,167,168,169,172,175,181,183,186,187,188,189,196,199,200,201,202,203,205,207,208,209,210,211,212,213,214,215,216,217,218,219,220,224,225,226,227,228,229,232,233,236,237,238,239,241,244,246,247,248,249,250,251,252,255,256,257,259,260,261,267,268,270,271,272,274,275,276,277,278,279,280,281,282,283,286,287,288,289,290,291,292,293,294,295,296,297,298,299,302,303,305,308,311,312,313,314,315,316,317,318,319,320,321,322,323,324,326,327,328,330,331,332,333,334,335,336,337,338,339,340,341,342,343,344,347,348,349,350,351,358,359,360,361,369].map fun n=>(n,⟨.sc,1,8,[.nilFunc],false⟩)))))))))))
def mdL:List (Nat×Nat):=[(169,0),(171,0),(172,0),(173,0),(187,0),(175,0),(176,0),(77,0),(78,0),(79,0),(188,0),(141,0),(142,0),(186,1),(44,2),(20,0),(22,0),(204,0),(205,0),(206,0),(207,0),(208,0),(177,0),(122,0),(237,0),(205,91)]
def ZH:List (Nat×Nat)->Nat->Nat->Bool
 | [],_,_=>false
 | (f,j)::r,f',j'=>match Nat.beq f f',Nat.beq j j' with
  | true,true=>true
  | _,_=>ZH r f' j'
def Env (S : Nat → Prop) (w : World) : Prop := S 1 ∧ S 0 ∧ (∃ m : Int, w.cell? ⟨1, 0, none⟩ = some (.int .i64 m)) ∧ Lib.TabIs Tryz.prog w "internal/strconv.uint64pow10" .u64 Lib.pow10Tab
theorem W4 : Tryz.prog.globalNamed "internal/strconv.uint64pow10" = some 0 := by kernel_rfl
theorem Q4(S S':Nat->Prop)(w w':World)(h:Env S w)(hS:∀b,S b->S' b)(hk:∀b,S b->w'.heap[b]?=w.heap[b]?):Env S' w':=by
 obtain⟨D,I,⟨m,J⟩,z⟩:=h;refine⟨hS _ D,hS _ I,⟨m,(E3 (hk _ D)).trans J⟩,?_⟩;unfold Lib.TabIs World.var? at z ⊢;simp only[W4,Option.bind_some]at z ⊢;rw[hk _ I];exact z
noncomputable def C:Ctx:={ P:=Tryz.prog,T:=zJ jw,md:=ZH mdL,E:=Env,bn:=fun t=>Nat.beq t 178||(Nat.beq t 68||(Nat.beq t 263||(Nat.beq t 191||(Nat.beq t 51||Nat.beq t 195)))),bo:=fun t=>Nat.beq t 307 }
theorem hC1:jw.all (tiB Tryz.prog)=true:=by kernel_rfl
theorem hC2:jw.all (WU Tryz.prog)=true:=by kernel_rfl
theorem hC3:jw.all (zsB Tryz.prog)=true:=by kernel_rfl
theorem hC4:jw.all (WZ Tryz.prog)=true:=by kernel_rfl
theorem hC:bP C:=⟨Zn hC3,WT hC1,fun S S' w w' h hS hk _=>Q4 S S' w w' h hS hk,by kernel_rfl,WX hC2,TS hC4⟩
def i64(n:Int):PV:=.im (.int .i64 n)
def bool(b:Bool):PV:=.im (.bool b)
def rc(r:Reg.aB):List PV:=[i64 r.x0,i64 r.y0,i64 r.x1,i64 r.y1]
def sp(p:Int×Int):List PV:=[i64 p.1,i64 p.2]
def aE(l:List Reg.aB):PV:=.sl (l.map rc)
def ints(l:List Int):PV:=.sl (l.map fun n=>[i64 n])
variable {α:Type}
theorem A1{l:List α}{i:Nat}{x:α}(f:α->List PV)(h:l[i]?=some x):(l.map f)[i]?=some (f x):=by rw[aD,h];rfl
open Reg (aB cw)
theorem bq{l:List α}{i:Nat}{r:α}(h:l[i]?=some r):l.take (i+1)=l.take i++[r]:=by rw[List.take_add_one,h];rfl
theorem ao{l:List α}{i:Nat}(h:i<l.length):∃p,l[i]?=some p:=⟨l[i],aW h⟩
variable {k:Nat}
theorem idx{l:List α}{f:α->List PV}{i:Int}{x:α}(h:i=k)(z:l[k]?=some x):0<=i/\(l.map f)[i.toNat]?=some (f x):=by
 subst h;exact⟨by omega,by rw[F0];exact A1 f z⟩
theorem bI{a b:Int}(h:a=b):AV.p (i64 a)=AV.p (i64 b):=by rw[h]
theorem an(l:List α)(f:α->List PV):(l.map f).length=l.length:=au ..
theorem B1{l:List Int}(h:Reg.ct l){i j:Nat}{a b:Int}(D:l[i]?=some a)(hb:l[j]?=some b)(Ma:i<=j):a<=b:=by
 by_cases e:i=j
 ·subst e;rw[D]at hb;injection hb with hb;omega
 have hi:=(az.1 D);have I:=(az.1 hb);obtain⟨z,V6⟩:=hi;obtain⟨J,Ti⟩:=I;have:=(cS.1 h) i j z J (by omega);omega
theorem B2(x:Int):∀(l:List Int),(Reg.put l x).length<=l.length+1:=by
 intro l
 induction l with
 | nil=>simp[Reg.put]
 | cons a l ih=>
  rw[Reg.put];split
  ·simp;omega
  split<;>simp
theorem B3(l:List aB):Reg.ct (Reg.cr l):=(Reg.gY l).1
theorem yR{l:List aB}{r:aB}(h:l[k]?=some r):Reg.gL (l.drop k)=if Reg.jq r=true then (if r.x1<=r.x0\/r.y1<=r.y0 then 13 else Reg.gL (l.drop (k+1))) else 1:=by
 obtain⟨a,b⟩:=az.1 h;rw[fI a,b];rfl
theorem Ex{l m:List α}{r t:α}(h:l[k]?=some r)(h':m[k]?=some t):(l.drop k=m.drop k)↔(r=t/\l.drop (k+1)=m.drop (k+1)):=by
 obtain⟨a,b⟩:=az.1 h;obtain⟨z,D⟩:=az.1 h';rw[fI a,fI z,b,D,List.cons.injEq]
theorem ox(l:List aB):(Reg.cr l).length<=2*l.length:=by
 unfold Reg.cr
 suffices h:∀(o:List Int),(l.foldl (fun out r=>Reg.put (Reg.put out r.y0) r.y1) o).length<=o.length+2*l.length by
  have:=h [];simpa using this
 induction l with
 | nil=>intro o;simp
 | cons r l ih=>
  intro o;have h1:=ih (Reg.put (Reg.put o r.y0) r.y1);have h2:=B2 r.y0 o;have h3:=B2 r.y1 (Reg.put o r.y0);simp only[jN,bN];omega
open Reg (aR)
theorem DI:∀(l:cw) (a b:Int),(Reg.ov l a b).length<=l.length+1:=by
 intro l
 induction l with
 | nil=>intro a b;simp[Reg.ov]
 | cons p l ih=>
  intro a b;rw[Reg.ov];split
  ·have:=ih (min a p.1) (max b p.2);simp only[bN];omega
  simp
theorem DJ:∀(l:cw) (a b:Int),(Reg.jo l a b).length<=l.length+1:=by
 intro l
 induction l with
 | nil=>intro a b;simp[Reg.jo]
 | cons p l ih=>
  intro a b;rw[Reg.jo];split
  ·have:=ih a b;simp only[bN];omega
  exact DI _ a b
theorem wU{l:List aB}{i:Nat}{r:aB}(y:Int)(h:l[i]?=some r):Reg.rowOf (l.take (i+1)) y=if r.y0<=y/\y<r.y1 then Reg.jo (Reg.rowOf (l.take i) y) r.x0 r.x1 else Reg.rowOf (l.take i) y:=by
 rw[bq h];unfold Reg.rowOf;rw[l_,wH];by_cases z:r.y0<=y/\y<r.y1
 ·rw[ae z];simp[z.1,z.2]
 rw[aa z];have:(decide (r.y0<=y)&&decide (y<r.y1))=false:=by simpa using fun D I=>z ⟨D,I⟩
 simp[this]
theorem KO(l:List aB)(y:Int):∀i,i<=l.length->(Reg.rowOf (l.take i) y).length<=i:=by
 intro i
 induction i with
 | zero=>intro _;simp[Reg.rowOf]
 | succ i ih=>
  intro hi;obtain⟨r,z⟩:=ao (l:=l) (i:=i) (by omega);rw[wU y z];have h1:=ih (by omega);have h2:=DJ (Reg.rowOf (l.take i) y) r.x0 r.x1;split<;>omega
theorem wV(l:List aB)(y:Int):(Reg.rowOf l y).length<=l.length:=by
 have:=KO l y l.length (aG _)
 rwa [jR]at this
theorem Ih{l:List α}{n:Nat}{x:α}(z:l.length=n+1)(h:l[n]?=some x):l.getLast?=some x:=by
 rw[fJ,z];exact h
theorem qn{s:List aR}{i:Nat}{b:aR}(h:s[i]?=some b):Reg.told (s.take (i+1))=Reg.told (s.take i)++b.xs.map fun p=>⟨p.1,b.y0,p.2,b.y1⟩:=by
 rw[bq h];simp[Reg.told]
theorem zP(s:List aR)(z:∀t∈s,t.xs.length<=1000000):(Reg.told s).length<=s.length*1000000:=by
 induction s with
 | nil=>simp[Reg.told]
 | cons b s ih=>
  have h1:=z b (by simp);have D:=ih fun t I=>z t (by simp[I]);simp only[Reg.told,q_,bJ,au,bN]at D ⊢;simp only[mZ];omega
theorem kL{r:List PV}{n:Nat}(h:r.length=n):∀z∈[r],z.length=n:=fun z D=>by rw[bV.1 D];exact h
def oU(b:aR)(k:Nat):List aB:=(b.xs.take k).map fun p=>⟨p.1,b.y0,p.2,b.y1⟩
theorem F5(l:List aR)(b:aR):(Reg.fj l b).length<=l.length+1:=by
 unfold Reg.fj;split
 ·omega
 split
 ·split
  ·rw[bJ,List.length_dropLast];simp only[ij];omega
  simp
 simp
theorem Ii(l:List aR)(b:aR)(n:Nat)(hl:∀t∈l,t.xs.length<=n)(hb:b.xs.length<=n):∀t∈Reg.fj l b,t.xs.length<=n:=by
 unfold Reg.fj;split
 ·exact hl
 split
 ·rename_i t D;split
  ·intro u z;rcases b_.1 z with h | h
   ·exact hl u ((List.dropLast_sublist l).subset h)
   rw[bV.1 h];exact hl t (List.mem_of_getLast? D)
  intro u z;rcases b_.1 z with h | h
  ·exact hl u h
  rw[bV.1 h];exact hb
 intro u z;rw[bV.1 z];exact hb
theorem sS(l:List aB)(ys:List Int):∀k,(Reg.dw l ys k).length<=k:=by
 intro k
 induction k with
 | zero=>simp[Reg.dw]
 | succ k ih=>rw[Reg.dw];have:=F5 (Reg.dw l ys k) ⟨ys.getD k 0,ys.getD (k+1) 0,Reg.rowOf l (ys.getD k 0)⟩;omega
theorem KP(l:List aB)(ys:List Int):∀k,∀t∈Reg.dw l ys k,t.xs.length<=l.length:=by
 intro k
 induction k with
 | zero=>simp[Reg.dw]
 | succ k ih=>rw[Reg.dw];exact Ii _ _ _ ih (wV _ _)
theorem A2{l:List Int}{i:Nat}{x:Int}(h:l[i]?=some x):l.getD i 0=x:=by rw[F1,h];rfl
theorem DK{l:List aB}:∀{i:Nat} {a b:aB},l[i]?=some a->l[i+1]?=some b->Reg.before a b=false->Reg.ordered l=false:=by
 induction l with
 | nil=>intro i a b h;simp at h
 | cons x l ih=>
  intro i a b D z I;cases l with
  | nil=>simp at z
  | cons y l=>
   rw[Reg.ordered];cases i with
   | zero=>
    simp at D z;subst D;subst z;rw[I];rfl
   | succ i=>rw[ih (i:=i) (by simpa using D) (by simpa using z) I,dG]
theorem F6{l:List aB}:(∀(i:Nat) a b,l[i]?=some a->l[i+1]?=some b->Reg.before a b=true)->Reg.ordered l=true:=by
 induction l with
 | nil=>intro _;rfl
 | cons x l ih=>
  intro h;cases l with
  | nil=>rfl
  | cons y l=>
   rw[Reg.ordered,h 0 x y rfl rfl,ih fun i a b z D=>h (i+1) a b (by simpa using z) (by simpa using D)];rfl
def str(s:ByteArray):PV:=.im (.string s)
def strs(l:List ByteArray):PV:=.sl (l.map fun s=>[str s])
def iG(n:Int):Bool:=decide (0<=n)&&decide (n<=100000)
def hasB(l:List ByteArray)(x:ByteArray):Bool:=l.any fun y=>decide (y=x)
theorem DL(s:ByteArray)(c:Int):ai C 106 [.pv (str s),.pv (.im (.int .u8 c))] (.p (i64 (Lib.indexByte s.data.toList c.toNat.toUInt8))) []:=
 tO [.string s,.int .u8 c] _ ⟨_,Tryz.func106,rfl,rfl⟩ fun _ w _ _=>(Tryz.strings_IndexByte s c w).mono fun _ _ ⟨z,D⟩=>⟨z,by rw[D];exact Below.refl _ _⟩
def okB(b:UInt8):Bool:=(decide ((97:Int)<=b.toNat)&&decide ((b.toNat:Int)<=122))||(decide ((65:Int)<=b.toNat)&&decide ((b.toNat:Int)<=90))||(decide ((48:Int)<=b.toNat)&&decide ((b.toNat:Int)<=57))||!decide (Lib.indexByte [95,43,45,35] b<0)
theorem byte_back(b:UInt8):((b.toNat:Int)).toNat.toUInt8=b:=by simp
def gV(s:ByteArray):Bool:=s.data.toList.all okB&&(decide ((1:Int)<=s.size)&&decide ((s.size:Int)<=40))
theorem Ij{s:ByteArray}{i:Nat}(h:i<s.size):∃b:UInt8,s[i]?=some b/\s.data.toList[i]?=some b:=by
 refine⟨s[i],getElem?_pos s i h,?_⟩;rw[kC];exact cC h
def zQ:ByteArray:=⟨#[47]⟩
def parts(s:ByteArray):List ByteArray:=Lib.splitB zQ 0 (Lib.countB s zQ) s
def si(s:ByteArray):Bool:=(parts s).all gV&&decide ((s.size:Int)<=200)
theorem Ik(D:ByteArray):∀(k:Nat) (s:ByteArray),∀x∈Lib.splitB D 0 k s,x.size<=s.size:=by
 intro k
 induction k with
 | zero=>
  intro s x z;rw[Lib.splitB_zero,bV]at z;rw[z];omega
 | succ k ih=>
  intro s x z;unfold Lib.splitB at z;split at z
  ·rw[bV]at z;rw[z];omega
  rcases aq.1 z with h | h
  ·rw[h,ByteArray.size_extract];omega
  have:=ih _ x h;rw[ByteArray.size_extract]at this;omega
theorem wW(s:ByteArray):(parts s).length=Lib.countB s zQ+1:=Lib.splitB_all zQ (by decide) 0 _ s rfl
theorem Il(s:ByteArray):(parts s).length<=s.size+1:=by
 rw[wW];have:=Lib.countB_le zQ (by decide) s.size s (aG _);omega
theorem Q5(l:List ByteArray):(l.map Value.string).map (fun v=>[PV.im v])=l.map fun s=>[str s]:=by
 rw[nq];rfl
theorem Om(s:ByteArray)(z:s.size<4294967281):ai C 99 [.pv (str s),.pv (str zQ)] (.own 9 ((parts s).map fun s=>[str s])) []:=by
 have h:=Ia hC (f:=99) [.string s,.string zQ] 9 ((parts s).map Value.string) _ rfl rfl (by simp[Value.oneCell']) (by rw[au];have:=Il s;have:maxLen=9223372036854775807:=rfl;omega) ⟨_,Tryz.func99,rfl,rfl⟩ fun S w D _=>by
  obtain⟨_,_,⟨m,I⟩,_⟩:=D;refine (Tryz.strings_Split s zQ m w z I (by decide)).mono fun _ _ ⟨J,N⟩=>⟨?_,N⟩;rw[J,au,wW]
 rw[Q5]at h;exact h
theorem wX(n lo hi:Int):ai C 65 [.pv (i64 n),.pv (i64 lo),.pv (i64 hi)] (.p (bool (decide (lo<=n)&&decide (n<=hi)))) []:=by
 refine fW hC Tryz.func65 rfl (by kernel_rfl) fun _=>?_;apply iW<;>intro h<;>(refine⟨?_,trivial⟩)<;>simp[bool,h]
theorem nz(n:Int):ai C 63 [.pv (i64 n)] (.p (bool (iG n))) []:=by
 refine fW hC Tryz.func63 rfl (by kernel_rfl) fun _=>?_;refine⟨_,_,(wX n 0 100000),?_,trivial⟩;rfl
theorem F7(n:Int):ai C 62 [.pv (i64 n)] (.p (bool (!iG n))) []:=by
 refine fW hC Tryz.func62 rfl (by kernel_rfl) fun _=>?_;refine⟨_,_,(nz n),?_,trivial⟩;rfl
theorem F8(n lo hi:Int):ai C 128 [.pv (i64 n),.pv (i64 lo),.pv (i64 hi)] (.p (bool (decide (lo<=n)&&decide (n<=hi)))) []:=by
 refine fW hC Tryz.func128 rfl (by kernel_rfl) fun _=>?_;apply iW<;>intro h<;>(refine⟨?_,trivial⟩)<;>simp[bool,h]
theorem lI(n:Int):ai C 72 [.pv (i64 n)] (.p (bool (Reg.iZ n))) []:=by
 refine fW hC Tryz.func72 rfl (by kernel_rfl) fun _=>?_;refine⟨_,_,(F8 n (-1000000) 1000000),?_,trivial⟩;rfl
theorem dR(x y:Int):ai C 35 [.pv (.ag [i64 x,i64 y])] (.p (bool (Reg.iZ x&&Reg.iZ y))) []:=by
 refine fW hC Tryz.func35 rfl (by kernel_rfl) fun _=>?_;refine⟨_,_,(lI x),iW ?_ ?_⟩<;>intro h
 ·refine⟨_,_,(lI y),?_,trivial⟩;simp[bool,h]
 refine⟨?_,trivial⟩;simp[bool,h]
theorem wY(r:aB):ai C 167 [.pv (.ag (rc r))] (.p (bool (Reg.jq r))) []:=by
 refine fW hC Tryz.func167 rfl (by kernel_rfl) fun _=>?_;refine⟨_,_,(lI r.x0),iW ?_ ?_⟩<;>intro z
 ·refine⟨_,_,(lI r.y0),iW ?_ ?_⟩<;>intro D
  ·refine⟨_,_,(lI r.x1),iW ?_ ?_⟩<;>intro I
   ·refine⟨_,_,(lI r.y1),?_,trivial⟩;simp[bool,Reg.jq,z,D,I]
   refine⟨?_,trivial⟩;simp[bool,Reg.jq,z,D,I]
  refine⟨?_,trivial⟩;simp[bool,Reg.jq,z,D]
 refine⟨?_,trivial⟩;simp[bool,Reg.jq,z]
def eM{α:Type}(p:α->Bool):List α->Nat->Int
 | [],_=>-1
 | x::r,k=>match p x with
  | true=>k
  | false=>eM p r (k+1)
theorem cT{p:α->Bool}:∀{l:List α} {k:Nat},(∀x∈l,p x=false)->eM p l k=-1:=by
 intro l
 induction l with
 | nil=>intro k _;rfl
 | cons x l ih=>intro k h;rw[eM,h x (by simp)];exact ih fun y z=>h y (by simp[z])
theorem eU{p:α->Bool}:∀{l:List α} {i k:Nat} {x:α},l[i]?=some x->p x=true->(∀y∈l.take i,p y=false)->eM p l k=((k+i:Nat):Int):=by
 intro l
 induction l with
 | nil=>intro i k x h;simp at h
 | cons y l ih=>
  intro i k x h hp D;cases i with
  | zero=>simp at h;subst h;rw[eM,hp];rfl
  | succ i=>
   rw[eM,D y (by simp)];have:=ih (i:=i) (k:=k+1) (by simpa using h) hp fun z I=>D z (by simp[I]);simp only[this];omega
theorem eZ(p:α->Bool):∀(l:List α) (k:Nat),decide (0<=eM p l k)=l.any p:=by
 intro l
 induction l with
 | nil=>intro k;rfl
 | cons x l ih=>
  intro k;rw[eM,gK];cases p x with
  | true=>simp
  | false=>simpa using ih (k+1)
theorem iu{p:α->Bool}{l:List α}{i:Nat}{x:α}(D:l[i]?=some x)(hp:p x=false)(h:∀y∈l.take i,p y=false):∀y∈l.take (i+1),p y=false:=by
 intro y z;rw[bq D,b_,bV]at z;rcases z with z | rfl
 ·exact h y z
 exact hp
theorem On(l:List Int)(hN:l.length<=140737488355328):ai C 117 [.pv (ints l),.pv (.im (.func (.func 62) #[] #[]))] (.p (i64 (eM (fun n=>!iG n) l 0))) []:=by
 refine fW hC Tryz.func117 rfl (by kernel_rfl) fun _=>?_;have I:=an l fun n=>[i64 n];refine aP (fun i:Nat=>i<=l.length/\∀x∈l.take i,(!iG x)=false) (fun i=>[(0,.p (ints l)),(1,.p (.im (.func (.func 62) #[] #[]))),(7,.p (i64 (l.map fun n=>[i64 n]).length)),(8,.p (i64 i))]) (fun _=>[]) (fun i=>l.length-i) 0 _ (aA.refl _ _) ⟨ak _,by simp⟩ ⟨Z,Z,Z,Z,Y⟩ trivial fun i hi t h=>?_;apply iW<;>intro J
 ·rw[I]at J;obtain⟨x,D⟩:=ao (l:=l) (i:=i) (by omega);refine⟨[i64 x],(idx rfl D),_,_,(F7 x),iW ?_ ?_⟩<;>intro z
  ·refine⟨?_,trivial⟩;rw[eU D (by simp[z]) hi.2,bp]
  exact⟨wO (by omega),(i+1),_,aA.refl _ _,⟨by omega,iu D (by simp[z]) hi.2⟩,by omega,⟨Z,Z,Z,Z,Y⟩,trivial⟩
 rw[I]at J;refine⟨?_,trivial⟩;have z:=hi.2;rw[cK (by omega)]at z;rw[cT z];rfl
theorem F9(l:List Int)(z:l.length<=140737488355328):ai C 61 [.pv (ints l),.pv (.im (.func (.func 62) #[] #[]))] (.p (bool (l.any fun n=>!iG n))) []:=by
 refine fW hC Tryz.func61 rfl (by kernel_rfl) fun _=>?_;refine⟨_,_,(On l z),?_,trivial⟩;rw[<-eZ _ l 0];rfl
theorem eN(s:ByteArray)(hs:s.size<=9223372036854775807):ai C 49 [.pv (str s)] (.p (bool (gV s))) []:=by
 refine fW hC Tryz.func49 rfl (by kernel_rfl) fun _=>?_;have hsz:s.data.toList.length=s.size:=by simp
 refine aP (fun i:Nat=>i<=s.size/\(s.data.toList.take i).all okB=true) (fun i=>[(0,.p (str s)),(6,.p (i64 s.size)),(7,.p (i64 i))]) (fun _=>[]) (fun i=>s.size-i) 0 _ (aA.refl _ _) ⟨ak _,by simp⟩ ⟨Z,Z,Z,Y⟩ trivial fun i hi t h=>?_;apply iW<;>intro h1
 ·obtain⟨b,hb,D⟩:=Ij (s:=s) (i:=i) (by omega);have O:okB b=false->gV s=false:=fun h=>by
   rw[gV,nt];refine .inl ?_;rw[List.all_eq_false];exact⟨b,aj D,by simp[h]⟩
  have z:okB b=true->(s.data.toList.take (i+1)).all okB=true:=fun h=>by rw[bq D,List.all_append,hi.2];simp[h]
  refine⟨b,⟨by omega,by rw[F0];exact hb⟩,?_⟩;have I:=DL ⟨#[95,43,45,35]⟩ b.toNat;rw[byte_back]at I
  repeat' first | apply iW<;>intro h<;>try simp only[zB]at h | refine⟨_,_,I,?_⟩
  all_goals skip
  all_goals first
   | (
     refine⟨wO (by omega),?_⟩;refine⟨(i+1),_,aA.refl _ _,?_⟩;exact⟨⟨by omega,z (by simp only[okB,gF,aJ,db,qS,nu];omega)⟩,by omega,⟨Z,Z,Z,Y⟩,trivial⟩)
   | (
     refine⟨?_,trivial⟩;rw[O (by simp only[okB,o_,nt,nu,Bool.not_eq_false',db];omega)];rfl)
 have J:s.data.toList.all okB=true:=by
  have:=hi.2
  rwa [cK (by omega)]at this
 apply iW<;>intro N
 ·refine⟨?_,trivial⟩;simp[bool,gV,J,N]
 refine⟨?_,trivial⟩;simp[bool,gV,J,N]
theorem Q6(s:ByteArray)(z:s.size<=9223372036854775807):ai C 100 [.pv (str s)] (.p (bool (!gV s))) []:=by
 refine fW hC Tryz.func100 rfl (by kernel_rfl) fun _=>?_;refine⟨_,_,(eN s z),?_,trivial⟩;rfl
theorem Oo(l:List ByteArray)(hN:l.length<=140737488355328)(hS:∀s∈l,s.size<=9223372036854775807):ai C 156 [.pv (strs l),.pv (.im (.func (.func 100) #[] #[]))] (.p (i64 (eM (fun s=>!gV s) l 0))) []:=by
 refine fW hC Tryz.func156 rfl (by kernel_rfl) fun _=>?_;have I:=an l fun s=>[str s];refine aP (fun i:Nat=>i<=l.length/\∀x∈l.take i,(!gV x)=false) (fun i=>[(0,.p (strs l)),(1,.p (.im (.func (.func 100) #[] #[]))),(7,.p (i64 (l.map fun s=>[str s]).length)),(8,.p (i64 i))]) (fun _=>[]) (fun i=>l.length-i) 0 _ (aA.refl _ _) ⟨ak _,by simp⟩ ⟨Z,Z,Z,Z,Y⟩ trivial fun i hi t h=>?_;apply iW<;>intro J
 ·rw[I]at J;obtain⟨x,D⟩:=ao (l:=l) (i:=i) (by omega);refine⟨[str x],(idx rfl D),_,_,(Q6 x (hS x (aj D))),iW ?_ ?_⟩<;>intro z
  ·refine⟨?_,trivial⟩;rw[eU D (by simp[z]) hi.2,bp]
  exact⟨wO (by omega),(i+1),_,aA.refl _ _,⟨by omega,iu D (by simp[z]) hi.2⟩,by omega,⟨Z,Z,Z,Z,Y⟩,trivial⟩
 rw[I]at J;refine⟨?_,trivial⟩;have z:=hi.2;rw[cK (by omega)]at z;rw[cT z];rfl
theorem F_(l:List ByteArray)(z:l.length<=140737488355328)(hS:∀s∈l,s.size<=9223372036854775807):ai C 98 [.pv (strs l),.pv (.im (.func (.func 100) #[] #[]))] (.p (bool (l.any fun s=>!gV s))) []:=by
 refine fW hC Tryz.func98 rfl (by kernel_rfl) fun _=>?_;refine⟨_,_,(Oo l z hS),?_,trivial⟩;rw[<-eZ _ l 0];rfl
theorem TZ(p:α->Bool):∀l:List α,(!l.any fun s=>!p s)=l.all p:=by
 intro l
 induction l with
 | nil=>rfl
 | cons x l ih=>rw[gK,vZ,<-ih,Bool.not_or,Bool.not_not]
theorem kM(s:ByteArray)(D:s.size<4294967281):ai C 43 [.pv (str s)] (.p (bool (si s))) []:=by
 refine fW hC Tryz.func43 rfl (by kernel_rfl) fun _=>?_;have pl:=Il s;apply iW<;>intro z
 ·refine⟨_,_,(Om s D),_,_,(F_ (parts s) (by omega) fun x I=>by have:=Ik _ _ _ x I;omega),?_,trivial⟩;rw[TZ,si,jS z,qJ];rfl
 refine⟨?_,trivial⟩;rw[si,aY z,dG];rfl
theorem yS(l:List aB):ai C 118 [.pv (aE l)] (.p (i64 (Reg.eo l))) []:=by
 refine fW hC Tryz.func118 rfl (by kernel_rfl) fun _=>?_;have D:=an l rc;apply iW<;>intro J
 ·rw[D]at J;refine⟨?_,trivial⟩;rw[Reg.eo,ae (by omega)];rfl
 rw[D]at J;have I:Reg.eo l=Reg.gL l:=by rw[Reg.eo,aa (by omega)]
 refine aP (fun i:Nat=>i<=l.length/\Reg.gL l=Reg.gL (l.drop i)) (fun i=>[(8,.p (aE l)),(9,.p (i64 (l.map rc).length)),(10,.p (i64 i))]) (fun _=>[]) (fun i=>l.length-i) 0 _ (aA.refl _ _) ⟨ak _,rfl⟩ ⟨Z,Z,Z,Y⟩ trivial fun i hi t h=>?_;apply iW<;>intro N
 ·rw[D]at N;obtain⟨r,O⟩:=ao (l:=l) (i:=i) (by omega);have z:=yR O;refine⟨(rc r),(idx rfl O),_,_,(wY r),iW ?_ ?_⟩<;>intro R
  ·refine⟨?_,trivial⟩;rw[I,hi.2,z,aa (by simp[R])];rfl
  rw[ae R]at z;apply iW<;>intro U
  ·refine⟨?_,trivial⟩;rw[I,hi.2,z,ae (.inl U)];rfl
  apply iW<;>intro V
  ·refine⟨?_,trivial⟩;rw[I,hi.2,z,ae (.inr V)];rfl
  refine⟨wO (by omega),(i+1),_,aA.refl _ _,⟨by omega,?_⟩,by omega,⟨Z,Z,Z,Y⟩,trivial⟩;rw[hi.2,z,aa (by omega)]
 rw[D]at N;refine⟨?_,trivial⟩;rw[I,hi.2,aT (by omega)];rfl
theorem Io(l m:List aB)(hN:l.length<=140737488355328):ai C 119 [.pv (aE l),.pv (aE m)] (.p (bool (decide (l=m)))) []:=by
 refine fW hC Tryz.func119 rfl (by kernel_rfl) fun _=>?_;have D:=an l rc;have J:=an m rc;apply iW<;>intro I
 ·rw[D,J]at I;refine⟨?_,trivial⟩;rw[aY (fun e:l=m=>I (by rw[e]))];rfl
 rw[D,J]at I;refine aP (fun i:Nat=>i<=l.length/\(l=m↔l.drop i=m.drop i)) (fun i=>[(0,.p (aE l)),(1,.p (aE m)),(12,.p (i64 (l.map rc).length)),(13,.p (i64 i))]) (fun _=>[]) (fun i=>l.length-i) 0 _ (aA.refl _ _) ⟨ak _,fC⟩ ⟨Z,Z,Z,Z,Y⟩ trivial fun i hi t h=>?_;apply iW<;>intro N
 ·rw[D]at N;obtain⟨r,O⟩:=ao (l:=l) (i:=i) (by omega);obtain⟨q,R⟩:=ao (l:=m) (i:=i) (by omega);have U:=Ex O R;refine⟨(rc r),(idx rfl O),(rc q),(idx rfl R),?_⟩;have V:=Reg.aB.Ib r q;apply iW<;>intro z<;>try simp only[zB]at z
  ·refine⟨?_,trivial⟩;rw[aY];rfl;rw[hi.2,U,V];simp only[nt,nu]at z;intro ⟨⟨W,e2,e3,e4⟩,_⟩;simp[W,e2,e3,e4]at z
  refine⟨wO (by omega),(i+1),_,aA.refl _ _,⟨by omega,?_⟩,by omega,⟨Z,Z,Z,Z,Y⟩,trivial⟩;rw[hi.2,U,V];simp[db]at z;exact and_iff_right z
 refine⟨?_,trivial⟩;rw[D]at N;rw[jS];rfl;rw[hi.2,aT (by omega),aT (by omega)]
theorem KQ(l m:List Int)(hN:l.length<=140737488355328):ai C 202 [.pv (ints l),.pv (ints m)] (.p (bool (decide (l=m)))) []:=by
 refine fW hC Tryz.func202 rfl (by kernel_rfl) fun _=>?_;have z:=an l fun n=>[i64 n];have I:=an m fun n=>[i64 n];apply iW<;>intro D
 ·rw[z,I]at D;refine⟨?_,trivial⟩;rw[aY (fun e:l=m=>D (by rw[e]))];rfl
 rw[z,I]at D;refine aP (fun i:Nat=>i<=l.length/\(l=m↔l.drop i=m.drop i)) (fun i=>[(0,.p (ints l)),(1,.p (ints m)),(12,.p (i64 (l.map fun n=>[i64 n]).length)),(13,.p (i64 i))]) (fun _=>[]) (fun i=>l.length-i) 0 _ (aA.refl _ _) ⟨ak _,fC⟩ ⟨Z,Z,Z,Z,Y⟩ trivial fun i hi t h=>?_;apply iW<;>intro J
 ·rw[z]at J;obtain⟨r,N⟩:=ao (l:=l) (i:=i) (by omega);obtain⟨q,O⟩:=ao (l:=m) (i:=i) (by omega);have R:=Ex N O;refine⟨[i64 r],(idx rfl N),[i64 q],(idx rfl O),iW ?_ ?_⟩<;>intro U
  ·refine⟨?_,trivial⟩;rw[aY];rfl;rw[hi.2,R];exact fun h=>U h.1
  refine⟨wO (by omega),(i+1),_,aA.refl _ _,⟨by omega,?_⟩,by omega,⟨Z,Z,Z,Z,Y⟩,trivial⟩;rw[hi.2,R];exact and_iff_right U
 refine⟨?_,trivial⟩;rw[z]at J;rw[jS];rfl;rw[hi.2,aT (by omega),aT (by omega)]
def flat:cw->List Int
 | []=>[]
 | p::s=>p.1::p.2::flat s
theorem fK:∀s:cw,(flat s).length=2*s.length:=by
 intro s
 induction s with
 | nil=>rfl
 | cons p s ih=>simp only[flat,bN,ih];omega
theorem Q7:∀{s u:cw},flat s=flat u->s=u:=by
 intro s
 induction s with
 | nil=>intro u h;cases u with | nil=>rfl | cons=>cases h
 | cons p s ih=>
  intro u h;cases u with
  | nil=>cases h
  | cons q u=>
   simp only[flat,List.cons.injEq]at h;rw[ih h.2.2,Prod.ext h.1 h.2.1]
def hb(b:aR):List PV:=[i64 b.y0,i64 b.y1,ints (flat b.xs)]
theorem vE(l:List aR)(b:aR)(Nz:b.y0<b.y1)(hN:l.length<=1000000000000)(hX:∀t∈l,t.xs.length<=1000000000000):ai C 175 [.row 180 (l.map hb),.pv (.ag (hb b))] (.own 180 ((Reg.fj l b).map hb)) [.gone]:=by
 refine fW hC Tryz.func175 rfl (by kernel_rfl) fun _=>?_;have I:=an l hb;have V:=an (flat b.xs) fun n=>[i64 n];have W:=fK b.xs;have done:∀z:List aR,z=Reg.fj l b->AB.row 180 (z.map hb)=AB.row 180 ((Reg.fj l b).map hb):=fun z e=>by rw[e]
 apply iW<;>intro R
 ·rw[V,W]at R;have O:b.xs=[]:=cI (by omega);exact⟨done l (by rw[Reg.fj,ae O]),Z,Y⟩
 rw[V,W]at R;have O:b.xs≠[]:=fun e=>R (by rw[e];rfl);have D:l++[b]=Reg.fj l b->AB.row 180 (l.map hb++[hb b])=AB.row 180 ((Reg.fj l b).map hb):=fun e=>by rw[<-e,bB];rfl
 apply iW<;>intro h0
 ·omega
 refine⟨⟨by rw[I];omega,by rw[I];omega⟩,iW ?_ ?_⟩<;>intro h2
 ·rw[I]at h2;obtain⟨m,U⟩:∃m,l.length=m+1:=⟨l.length-1,by omega⟩;have hi:((l.map hb).length:Int)-1=(m:Nat):=by rw[I];omega
  have hp:Reg.fj l b=match l.getLast? with
   | some t=>if t.y1=b.y0/\t.xs=b.xs then l.dropLast++[⟨t.y0,b.y1,t.xs⟩] else l++[b]
   | none=>[b]:=by rw[Reg.fj,aa O]<;>rfl
  obtain⟨t,J⟩:=ao (l:=l) (i:=m) (by omega);rw[Ih U J]at hp;simp only at hp;have ft:=fK t.xs;refine⟨⟨by rw[hi];omega,by rw[hi,I];omega⟩,(hb t),(idx hi J).2,iW ?_ ?_⟩<;>intro h3
  ·refine⟨⟨by rw[hi];omega,by rw[hi,I];omega⟩,(hb t),(idx hi J).2,_,_,(KQ (flat t.xs) (flat b.xs) (by have:=hX t (aj J);omega)),iW ?_ ?_⟩<;>intro N
   ·have N:t.xs=b.xs:=Q7 N;refine⟨⟨by rw[hi];omega,by rw[hi,I];omega⟩,(hb t),(idx hi J).2,?_⟩;rw[ae ⟨h3,N⟩]at hp;have qh:∀k:Nat,k=m->AB.row 180 ((l.map hb).set k [i64 t.y0,i64 b.y1,ints (flat t.xs)])=AB.row 180 ((Reg.fj l b).map hb):=by
     intro k e;subst e;rw[hp];obtain⟨d,hd⟩:=dc.1 (Ih U J);subst hd;have hk:k=d.length:=by simp at U;omega
     subst hk;simp[hb]
    exact⟨qh _ (by rw[hi];rfl),Z,Y⟩
   have N:t.xs≠b.xs:=fun e=>N (by rw[e]);rw[aa (fun h=>N h.2)]at hp;exact⟨⟨by simp,by simp;omega,by simp;omega⟩,D hp.symm,Z,Y⟩
  rw[aa (fun h=>h3 h.1)]at hp;exact⟨⟨by simp,by simp;omega,by simp;omega⟩,D hp.symm,Z,Y⟩
 rw[I]at h2;have hl:l=[]:=cI (by omega);exact⟨⟨by simp,by simp;omega,by simp;omega⟩,D (by subst hl;rw[Reg.fj,aa O];rfl),Z,Y⟩
theorem Ip:∀{s:cw} {k:Nat} {p:Int×Int},s[k]?=some p->(flat s)[2*k]?=some p.1/\(flat s)[2*k+1]?=some p.2:=by
 intro s
 induction s with
 | nil=>intro k p h;simp at h
 | cons q s ih=>
  intro k p h;cases k with
  | zero=>simp at h;subst h;exact⟨rfl,rfl⟩
  | succ k=>
   obtain⟨z,D⟩:=ih (k:=k) (p:=p) (by simpa using h);rw[show 2*(k+1)=(2*k+1)+1 by omega];exact⟨by simpa [flat] using z,by simpa [flat] using D⟩
theorem rz(l:List aR)(hN:l.length<=1000000000000)(R:∀t∈l,t.xs.length<=1000000000000)(hT:(Reg.told l).length<=4398046511104):ai C 31 [.pv (.sl (l.map hb))] (.own 93 ((Reg.told l).map rc)) []:=by
 refine FP ⟨[],[2],[],[8],[],[]⟩ hC Tryz.func31 rfl (by kernel_rfl) fun _=>?_;have D:=an l hb;have U:∀i,(Reg.told (l.take i)).length<=(Reg.told l).length:=fun i=>by
  have e:Reg.told l=Reg.told (l.take i)++Reg.told (l.drop i):=by
   unfold Reg.told;rw[<-wS,o6]
  rw[e,bJ];omega
 refine aP (fun i:Nat=>i<=l.length) (fun i=>[(7,.p (.sl (l.map hb))),(8,.p (i64 (l.map hb).length)),(3,.ow 3),(9,.p (i64 i))]) (fun i=>[(3,.row 93 ((Reg.told (l.take i)).map rc))]) (fun i=>l.length-i) 0 _ (aA.eK hC _ 3 93 _ (by decide) rfl rfl (by decide)) (ak _) ⟨Z,Z,Z,Z,Y⟩ ⟨Z,Y⟩ fun i hi t h=>?_;apply iW<;>intro I
 ·rw[D]at I;obtain⟨b,z⟩:=ao (l:=l) (i:=i) (by omega);have J:=an (flat b.xs) fun n=>[i64 n];have N:=fK b.xs;have hb':=R b (aj z);have V:=U (i+1);rw[qn z,bJ,au]at V;refine⟨(hb b),(idx rfl z),?_⟩;refine Ak (fun _:Unit=>True) (fun _=>[(7,.p (.sl (l.map hb))),(8,.p (i64 (l.map hb).length)),(3,.ow 3),(9,.p (i64 i))]) (fun _=>[(3,.row 93 ((Reg.told (l.take (i+1))).map rc))]) (fun _ _ t h=>?_) ?_
  ·exact⟨wO (by omega),(i+1),_,aA.refl _ _,by omega,by omega,⟨Z,Z,Z,Z,Y⟩,⟨Z,Y⟩⟩
  refine aP (fun k:Nat=>k<=b.xs.length) (fun k=>[(7,.p (.sl (l.map hb))),(8,.p (i64 (l.map hb).length)),(3,.ow 3),(9,.p (i64 i)),(5,.bx 5 0),(6,.p (i64 ((2*k:Nat):Int)))]) (fun k=>[(3,.row 93 ((Reg.told (l.take i)++oU b k).map rc)),(5,.box [.p (i64 b.y0),.p (i64 b.y1),.p (ints (flat b.xs))])]) (fun k=>b.xs.length-k) 0 _ (aA.refl _ _) (ak _) ⟨Z,Z,Z,Z,Z,Z,Y⟩ ⟨by rw[oU];simp;rfl,Z,Y⟩ fun k hk t h=>?_;have KR:(oU b k).length<=k:=by simp[oU];omega
  apply iW<;>intro O
  ·rw[J,N]at O;obtain⟨p,hp⟩:=ao (l:=b.xs) (i:=k) (by omega);obtain⟨W,g2⟩:=Ip hp;refine⟨[i64 p.1],(idx rfl W),wO (by omega),[i64 p.2],(idx (by omega) g2),⟨kL rfl,by simp;omega,by simp;omega⟩,wO (by omega),(k+1),_,aA.refl _ _,by omega,by omega,⟨rfl,rfl,rfl,rfl,rfl,bI (by omega),trivial⟩,⟨?_,Z,Y⟩⟩;have hc:oU b (k+1)=oU b k++[⟨p.1,b.y0,p.2,b.y1⟩]:=by simp[oU,bq hp]
   have e:(Reg.told (l.take i)++oU b k).map rc++[rc ⟨p.1,b.y0,p.2,b.y1⟩]=(Reg.told (l.take i)++oU b (k+1)).map rc:=by
    rw[hc,<-d_,bB (l₂:=[_])];rfl
   exact af (AB.row 93) e
  rw[J,N]at O;refine⟨(),trivial,⟨Z,Z,Z,Z,Y⟩,⟨?_,trivial⟩⟩;rw[qn z];have:oU b k=b.xs.map fun p=>⟨p.1,b.y0,p.2,b.y1⟩:=by rw[oU,cK (by omega)]
  rw[<-this];rfl
 rw[D]at I;rw[cK (by omega)];exact⟨Z,Z,Y⟩
theorem Iq(l:List aR)(D:l.length<=1000000)(z:∀t∈l,t.xs.length<=1000000):ai C 31 [.pv (.sl (l.map hb))] (.own 93 ((Reg.told l).map rc)) []:=
 rz l (by omega) (fun t I=>by have:=z t I;omega) (by
  have h1:=zP l z;have h3:l.length*1000000<=1000000*1000000:=cq _ D;omega)
end M
end Go.Proofs.YtihgjolmpjjblaaGreatDoor
