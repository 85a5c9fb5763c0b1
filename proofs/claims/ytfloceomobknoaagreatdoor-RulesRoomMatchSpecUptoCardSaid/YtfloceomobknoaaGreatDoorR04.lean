/- Part 4 of the proof of RulesRoomMatchSpec. -/
import Derived.Test.YtfloceomobknoaaGreatDoorR03
import Derived.Shelf.Strings.Builder1
import Derived.Shelf.Strings.Builder2
import Derived.Shelf.Strings.OnBuilder
import Derived.Shelf.Small.Bits
import Derived.Shelf.Small.Strs
import Derived.Shelf.Strings.BuilderF
import Derived.Shelf.Strconv.Itoa0
import Derived.Shelf.Strconv.Itoa1
import Derived.Shelf.LaysM
import Derived.Shelf.Strconv.Itoa2
import Derived.Shelf.Strconv.Itoa3
import Derived.Shelf.Strings.Search1
import Derived.Shelf.Strings.Search2
import Derived.Shelf.Strings.Search3
import Derived.Shelf.Strings.Count
import Derived.Shelf.Strings.Shaped
import Derived.Shelf.Sort.Plain
import Derived.Shelf.Strings.Split
import Derived.Shelf.Strings.SplitShaped
import Derived.Shelf.Unicode.DecodeSlow
import Derived.Shelf.Slices.Equal
import Derived.Ground.Names2Prog
import Derived.Shelf.Slices.CompactI
import Derived.Shelf.Slices.Cells
import Derived.Shelf.Slices.In.SortNone
import Derived.Shelf.Slices.Empties2
import Derived.Shelf.SlSortCmp.WholeK
import Derived.Shelf.SlGeneric
import Derived.Ground.SlsfProg
import Derived.Test.YtfloceomobknoaaGreatDoorProg
import Derived.Lib.LaidTab
import Derived.Lib.ItoaNum
set_option linter.unusedVariables false
set_option linter.unusedSimpArgs false
set_option maxRecDepth 100000
set_option maxHeartbeats 8000000
namespace Go
abbrev aaD:=@Int.le_refl
abbrev abZ:=@List.foldl_append
abbrev ade:=@List.pairwise_append
abbrev abw:=@List.pairwise_cons
abbrev ad0:=@List.pairwise_singleton
abbrev acF:=@Go.Proofs.Tryz.underlying0
abbrev acG:=@Go.Proofs.Tryz.isAgg0
abbrev acH:=@Go.Proofs.Tryz.sizeOf0
abbrev acI:=@Go.Proofs.Tryz.zeroValue0
abbrev ab0:=@Go.Proofs.Tryz.underlying3
abbrev acj:=@Go.Proofs.Tryz.isAgg3
abbrev ack:=@Go.Proofs.Tryz.sizeOf3
abbrev acm:=@Go.Proofs.Tryz.zeroValue3
abbrev acn:=@Go.Proofs.Tryz.underlying4
abbrev acQ:=@Go.Proofs.Tryz.isAgg4
abbrev acR:=@Go.Proofs.Tryz.sizeOf4
abbrev acS:=@Go.Proofs.Tryz.zeroValue4
abbrev aca:=@Go.Proofs.Tryz.underlying9
abbrev acJ:=@Go.Proofs.Tryz.isAgg9
abbrev acK:=@Go.Proofs.Tryz.sizeOf9
abbrev acL:=@Go.Proofs.Tryz.zeroValue9
abbrev adf:=@Go.Proofs.Tryz.underlying49
abbrev adg:=@Go.Proofs.Tryz.underlying148
abbrev adh:=@Go.Proofs.Tryz.underlying147
abbrev ad1:=@Go.Proofs.Tryz.underlying271
abbrev acT:=@Go.Proofs.Tryz.underlying5
abbrev acU:=@Go.Proofs.Tryz.isAgg5
abbrev acV:=@Go.Proofs.Tryz.sizeOf5
abbrev acW:=@Go.Proofs.Tryz.zeroValue5
abbrev adx:=@Go.Proofs.Tryz.underlying187
abbrev ady:=@Go.Proofs.Tryz.isAgg187
abbrev adz:=@Go.Proofs.Tryz.sizeOf187
abbrev adA:=@Go.Proofs.Tryz.zeroValue187
abbrev adB:=@Go.Proofs.Tryz.underlying250
abbrev adC:=@Go.Proofs.Tryz.isAgg250
abbrev adD:=@Go.Proofs.Tryz.sizeOf250
abbrev adE:=@Go.Proofs.Tryz.zeroValue250
abbrev adF:=@Go.Proofs.Tryz.underlying252
abbrev ad2:=@List.take_add_one
abbrev aaS:=@Int.toNat_natCast
abbrev abk:=@List.pairwise_iff_getElem
abbrev aco:=@Int.tdiv_eq_ediv_of_nonneg
abbrev acb:=@List.map_take
abbrev acX:=@List.map_drop
abbrev ab1:=@List.drop_eq_getElem_cons
abbrev aaz:=@List.drop_of_length_le
abbrev aaC:=@decide_eq_false
abbrev abF:=@Bool.and_eq_false_iff
abbrev acd:=@decide_eq_false_iff_not
abbrev aaA:=@decide_eq_true
abbrev acA:=@List.length_take_le
abbrev abU:=@List.filter_append
abbrev acB:=@List.take_length
abbrev ad3:=@List.getLast?_eq_getElem?
abbrev adG:=@List.getLast?_eq_some_iff
abbrev acp:=@List.flatMap_append
abbrev ad4:=@List.mem_of_getLast?
abbrev aav:=@List.getD_eq_getElem?_getD
abbrev acC:=@Bool.and_false
end Go
namespace Go.Proofs.YtfloceomobknoaaGreatDoor
namespace Reg
structure ae where
 x0:Int
 y0:Int
 x1:Int
 y1:Int
theorem ae.yK(a b:ae):a=b↔a.x0=b.x0/\a.y0=b.y0/\a.x1=b.x1/\a.y1=b.y1:=by
 constructor
 ·rintro rfl;exact⟨rfl,rfl,rfl,rfl⟩
 obtain⟨a1,a2,a3,a4⟩:=a;obtain⟨b1,b2,b3,b4⟩:=b;rintro⟨z,D,I,J⟩;simp only at z D I J;rw[z,D,I,J]
instance:DecidableEq ae:=fun a b=>decidable_of_iff' _ (ae.yK a b)
abbrev aU:=List (Int×Int)
def cover(s:aU)(x:Int):Prop:=∃p∈s,p.1<=x/\x<p.2
def Canon:aU->Prop
 | []=>True
 | [p]=>p.1<p.2
 | p::q::r=>p.1<p.2/\p.2<q.1/\Canon (q::r)
theorem eQ(x:Int):¬cover [] x:=fun ⟨_,h,_⟩=>by cases h
theorem bJ(p:Int×Int)(s:aU)(x:Int):cover (p::s) x↔(p.1<=x/\x<p.2)\/cover s x:=by
 constructor
 ·rintro⟨q,z,h⟩;rcases adq.1 z with rfl | z
  ·exact .inl h
  exact .inr ⟨q,z,h⟩
 rintro (h | ⟨q,z,h⟩)
 ·exact⟨p,adU ..,h⟩
 exact⟨q,aaw _ z,h⟩
variable {s:aU}
theorem Canon.head{p:Int×Int}(h:Canon (p::s)):p.1<p.2:=by
 cases s with
 | nil=>exact h
 | cons q r=>exact h.1
theorem Canon.tail{p:Int×Int}(h:Canon (p::s)):Canon s:=by
 cases s with
 | nil=>trivial
 | cons q r=>exact h.2.2
theorem Canon.behind{p:Int×Int}(h:Canon (p::s)):∀q∈s,p.2<q.1:=by
 induction s generalizing p with
 | nil=>intro q z;cases z
 | cons a r ih=>
  intro q z;rcases adq.1 z with rfl | z
  ·exact h.2.1
  have:=ih h.2.2 q z;have h1:=h.2.1;have h2:=Canon.head h.2.2;omega
theorem Canon.cons{p:Int×Int}(z:p.1<p.2)(D:∀q∈s,p.2<q.1)(I:Canon s):Canon (p::s):=by
 cases s with
 | nil=>exact z
 | cons a r=>exact⟨z,D a (adU ..),I⟩
theorem Canon.jJ{p:Int×Int}(h:Canon (p::s)){x:Int}(hx:x<=p.2):¬cover s x:=by
 rintro⟨q,z,h1,_⟩;have:=h.behind q z;omega
theorem lJ:∀(s t:aU),Canon s->Canon t->(∀x,cover s x↔cover t x)->s=t:=by
 intro s
 induction s with
 | nil=>
  intro t _ J I;cases t with
  | nil=>rfl
  | cons q t=>
   have:=J.head;exact absurd ((I q.1).2 ((bJ q t q.1).2 (.inl ⟨aaD _,this⟩))) (eQ _)
 | cons p s ih=>
  intro t L J I;cases t with
  | nil=>
   have:=L.head;exact absurd ((I p.1).1 ((bJ p s p.1).2 (.inl ⟨aaD _,this⟩))) (eQ _)
  | cons q t=>
   have hp:=L.head;have N:=J.head;have least {p:Int×Int} {s:aU} (h:Canon (p::s)) {x:Int} (D:cover (p::s) x):p.1<=x:=by
    rcases (bJ p s x).1 D with z | ⟨r,O,z,_⟩
    ·exact z.1
    have:=h.behind r O;have:=h.head;omega
   have e1:p.1=q.1:=by
    have a:=least J ((I p.1).1 ((bJ p s p.1).2 (.inl ⟨aaD _,hp⟩)));have b:=least L ((I q.1).2 ((bJ q t q.1).2 (.inl ⟨aaD _,N⟩)));omega
   have e2:p.2=q.2:=by
    rcases Int.lt_trichotomy p.2 q.2 with h | h | h
    ·have D:=(I p.2).2 ((bJ q t p.2).2 (.inl ⟨by omega,h⟩));rcases (bJ p s p.2).1 D with z | z
     ·omega
     exact absurd z (L.jJ (aaD _))
    ·exact h
    have D:=(I q.2).1 ((bJ p s q.2).2 (.inl ⟨by omega,h⟩));rcases (bJ q t q.2).1 D with z | z
    ·omega
    exact absurd z (J.jJ (aaD _))
   have e:p=q:=Prod.ext e1 e2;subst e;congr 1;refine ih t L.tail J.tail fun x=>?_;constructor
   ·intro D;have R:¬x<=p.2:=fun h=>L.jJ h D;rcases (bJ p t x).1 ((I x).1 ((bJ p s x).2 (.inr D))) with z | z
    ·omega
    exact z
   intro D;have R:¬x<=p.2:=fun h=>J.jJ h D;rcases (bJ p s x).1 ((I x).2 ((bJ p t x).2 (.inr D))) with z | z
   ·omega
   exact z
def dw:aU->Int->Int->aU
 | [],a,b=>[(a,b)]
 | [p],a,b=>if a<=p.2 then [(p.1,max p.2 b)] else [p,(a,b)]
 | p::q::r,a,b=>p::dw (q::r) a b
theorem Ax(s:aU)(a b:Int)(h:Canon s)(R:a<b)(L:∀p∈s,p.1<=a):
  Canon (dw s a b)/\(∀x,cover (dw s a b) x↔cover s x\/(a<=x/\x<b))/\(∀p∈dw s a b,p.1<=a)/\(∀p∈s,∀q∈(dw s a b).head?,∀r∈s.head?,q.1=r.1)/\(∀c:Int,(∀p∈s,c<p.1)->c<a->∀p∈dw s a b,c<p.1):=by
 induction s with
 | nil=>
  refine⟨R,fun x=>?_,?_,?_,?_⟩
  ·simp[dw,bJ,eQ]
  ·simp[dw]
  ·intro p hp;cases hp
  intro c _ I p hp;simp[dw]at hp;subst hp;exact I
 | cons p s ih=>
  cases s with
  | nil=>
   have hp:=h.head;have U:=L p (adU ..);simp only[dw];split
   ·rename_i hle;refine⟨by show p.1<max p.2 b;omega,fun x=>?_,?_,?_,?_⟩
    ·simp only[bJ,eQ,or_false];omega
    ·intro q D;simp at D;subst D;exact U
    ·intro q _ r J t z;simp at J z;subst J z;rfl
    intro c I _ q D;simp at D;subst D;exact I p (adU ..)
   rename_i XQ;refine⟨⟨hp,by show p.2<a;omega,R⟩,fun x=>?_,?_,?_,?_⟩
   ·simp only[bJ,eQ,or_false]
   ·intro q D;simp at D;rcases D with rfl | rfl
    ·exact U
    exact aaD _
   ·intro q _ r J t z;simp at J z;subst J z;rfl
   intro c I O q D;simp at D;rcases D with rfl | rfl
   ·exact I q (adU ..)
   exact O
  | cons q r=>
   obtain⟨W,Y,Z,_,V⟩:=ih h.tail (fun t z=>L t (aaw _ z));simp only[dw];have hb:=h.behind;have oF:=L q (by simp);have XB:=h.2.1;refine⟨Canon.cons h.head (V p.2 hb (by omega)) W,fun x=>?_,?_,?_,?_⟩
   ·rw[bJ,Y x,bJ p];exact or_assoc.symm
   ·intro t z;rcases adq.1 z with rfl | z
    ·exact L t (adU ..)
    exact Z t z
   ·intro _ _ t z u N;simp at z N;subst z N;rfl
   intro c I O t z;rcases adq.1 z with rfl | z
   ·exact I t (adU ..)
   exact V c (fun u N=>I u (aaw _ N)) O t z
def cY(l:List ae):aU:=l.foldl (fun out r=>dw out r.x0 r.x1) []
theorem oV(l:List ae)(r:ae):cY (l++[r])=dw (cY l) r.x0 r.x1:=by
 unfold cY;rw[abZ];rfl
theorem Ay(l:List ae)(O:l.Pairwise fun a b=>a.x0<=b.x0)(R:∀r∈l,r.x0<r.x1):
  Canon (cY l)/\(∀x,cover (cY l) x↔∃r∈l,r.x0<=x/\x<r.x1)/\(∀c:Int,(∀r∈l,r.x0<=c)->∀p∈cY l,p.1<=c):=by
 suffices H:∀n (m:List ae),m.length=n->(m.Pairwise fun a b=>a.x0<=b.x0)->(∀r∈m,r.x0<r.x1)->
   Canon (cY m)/\(∀x,cover (cY m) x↔∃r∈m,r.x0<=x/\x<r.x1)/\(∀c:Int,(∀r∈m,r.x0<=c)->∀p∈cY m,p.1<=c) from H _ l rfl O R
 intro n
 induction n with
 | zero=>
  intro m D _ _;have:m=[]:=adl D;subst this;refine⟨trivial,fun x=>?_,fun c _ p hp=>by cases hp⟩;constructor
  ·intro h;exact absurd h (eQ _)
  rintro⟨r,I,_⟩;cases I
 | succ n ih=>
  intro m D J L;obtain⟨k,r,rfl⟩:∃k r,m=k++[r]:=by
   have N:m≠[]:=by intro e;rw[e]at D;cases D
   exact⟨m.dropLast,m.getLast N,(aar N).symm⟩
  rw[ade]at J;obtain⟨U,V,W⟩:=ih k (by simp at D;omega) J.1 (fun t z=>L t (abY _ z));have I:=L r (by simp);obtain⟨Y,Z,f3,_,_⟩:=Ax (cY k) r.x0 r.x1 U I (W r.x0 fun t z=>J.2.2 t z r (by simp));rw[oV];refine⟨Y,fun x=>?_,fun c hc p hp=>?_⟩
  ·rw[Z x,V x];constructor
   ·rintro (⟨t,z,h⟩ | h)
    ·exact⟨t,abY _ z,h⟩
    exact⟨r,by simp,h⟩
   rintro⟨t,z,h⟩;rcases abi.1 z with z | z
   ·exact .inl ⟨t,z,h⟩
   have:t=r:=by simpa using z
   subst this;exact .inr h
  have:=f3 p hp;have:=hc r (by simp);omega
def ic:aU->Int->Int->aU
 | [],a,b=>[(a,b)]
 | p::l,a,b=>if p.1<=b then ic l (min a p.1) (max b p.2) else (a,b)::p::l
def dG:aU->Int->Int->aU
 | [],a,b=>[(a,b)]
 | p::l,a,b=>if p.2<a then p::dG l a b else ic (p::l) a b
theorem CT(s:aU):∀(a b:Int),Canon s->a<b->(∀p∈s,a<=p.2)->
  Canon (ic s a b)/\(∀x,cover (ic s a b) x↔cover s x\/(a<=x/\x<b))/\(∀c:Int,(∀p∈s,c<p.1)->c<a->∀p∈ic s a b,c<p.1):=by
 induction s with
 | nil=>
  intro a b _ J _;refine⟨J,fun x=>?_,fun c _ D p hp=>?_⟩
  ·simp[ic,bJ,eQ]
  simp[ic]at hp;subst hp;exact D
 | cons p l ih=>
  intro a b h J L;have hp:=h.head;have UQ:=L p (adU ..);have hb:=h.behind;simp only[ic];split
  ·rename_i hle;obtain⟨O,R,U⟩:=ih (min a p.1) (max b p.2) h.tail (by omega) (fun q z=>by have:=hb q z;have:=L q (aaw _ z);omega);refine⟨O,fun x=>?_,fun c D N=>U c (fun q z=>D q (aaw _ z)) (by have:=D p (adU ..);omega)⟩;rw[R x,bJ];constructor
   ·rintro (I | I)
    ·exact .inl (.inr I)
    by_cases V:p.1<=x/\x<p.2
    ·exact .inl (.inl V)
    exact .inr (by omega)
   rintro ((I | I) | I)
   ·exact .inr (by omega)
   ·exact .inl I
   exact .inr (by omega)
  rename_i XQ;refine⟨⟨J,by show b<p.1;omega,h⟩,fun x=>?_,fun c D N q z=>?_⟩
  ·rw[bJ];exact or_comm
  rcases adq.1 z with rfl | z
  ·exact N
  exact D q z
theorem Canon.ends(h:Canon s){a:Int}:∀p l,s=p::l->a<=p.2->∀q∈s,a<=q.2:=by
 intro p l e hp q z;subst e;rcases adq.1 z with rfl | z
 ·exact hp
 have h1:=h.behind q z;have h2:q.1<q.2:=by
  have:∀(t:aU),Canon t->∀q∈t,q.1<q.2:=by
   intro t
   induction t with
   | nil=>intro _ q z;cases z
   | cons u t ih=>
    intro D q z;rcases adq.1 z with rfl | z
    ·exact D.head
    exact ih D.tail q z
  exact this l h.tail q z
 omega
theorem tN(s:aU)(a b:Int)(h:Canon s)(I:a<b):
  Canon (dG s a b)/\(∀x,cover (dG s a b) x↔cover s x\/(a<=x/\x<b))/\(∀c:Int,(∀p∈s,c<p.1)->c<a->∀p∈dG s a b,c<p.1):=by
 induction s with
 | nil=>
  refine⟨I,fun x=>?_,fun c _ z p hp=>?_⟩
  ·simp[dG,bJ,eQ]
  simp[dG]at hp;subst hp;exact z
 | cons p l ih=>
  simp only[dG];split
  ·rename_i L;obtain⟨N,O,J⟩:=ih h.tail;refine⟨Canon.cons h.head (J p.2 h.behind L) N,fun x=>?_,fun c z R q D=>?_⟩
   ·rw[bJ,O x,bJ p];exact or_assoc.symm
   rcases adq.1 D with rfl | D
   ·exact z q (adU ..)
   exact J c (fun t U=>z t (aaw _ U)) R q D
  rename_i hge;exact CT (p::l) a b h I (h.ends p l rfl (by omega))
def rowOf(l:List ae)(y:Int):aU:=(l.filter fun r=>decide (r.y0<=y)&&decide (y<r.y1)).foldl (fun out r=>dG out r.x0 r.x1) []
theorem En(l:List ae)(I:∀r∈l,r.x0<r.x1):∀s:aU,Canon s->Canon (l.foldl (fun out r=>dG out r.x0 r.x1) s)/\(∀x,cover (l.foldl (fun out r=>dG out r.x0 r.x1) s) x↔cover s x\/∃r∈l,r.x0<=x/\x<r.x1):=by
 induction l with
 | nil=>intro s h;exact⟨h,fun x=>by simp⟩
 | cons r l ih=>
  intro s h;obtain⟨J,L,_⟩:=tN s r.x0 r.x1 h (I r (adU ..));obtain⟨N,O⟩:=ih (fun t D=>I t (aaw _ D)) _ J;refine⟨N,fun x=>?_⟩;rw[aaq,O x,L x];constructor
  ·rintro ((z | z) | ⟨t,D,z⟩)
   ·exact .inl z
   ·exact .inr ⟨r,adU ..,z⟩
   exact .inr ⟨t,aaw _ D,z⟩
  rintro (z | ⟨t,D,z⟩)
  ·exact .inl (.inl z)
  rcases adq.1 D with rfl | D
  ·exact .inl (.inr z)
  exact .inr ⟨t,D,z⟩
theorem iS(l:List ae)(y:Int)(D:∀r∈l,r.x0<r.x1):Canon (rowOf l y)/\∀x,cover (rowOf l y) x↔∃r∈l,(r.y0<=y/\y<r.y1)/\r.x0<=x/\x<r.x1:=by
 obtain⟨I,J⟩:=En (l.filter fun r=>decide (r.y0<=y)&&decide (y<r.y1)) (fun r z=>D r ((adu.1 z).1)) [] trivial;refine⟨I,fun x=>?_⟩;unfold rowOf;rw[J x];constructor
 ·rintro (h | ⟨r,z,h⟩)
  ·exact absurd h (eQ _)
  rw[adu]at z;simp at z;exact⟨r,z.1,z.2,h⟩
 rintro⟨r,z,L,h⟩;exact .inr ⟨r,by rw[adu];simp[z,L],h⟩
theorem Eo(l a:List ae)(y:Int)(J:∀r∈l,r.x0<r.x1)(L:a.Pairwise fun p q=>p.x0<=q.x0)(D:∀r,r∈a↔r∈l/\r.y0<=y/\y<r.y1):cY a=rowOf l y:=by
 have I:∀r∈a,r.x0<r.x1:=fun r z=>J r ((D r).1 z).1;obtain⟨N,O,_⟩:=Ay a L I;obtain⟨R,U⟩:=iS l y J;refine lJ _ _ N R fun x=>?_;rw[O x,U x];constructor
 ·rintro⟨r,z,h⟩;obtain⟨V,W⟩:=(D r).1 z;exact⟨r,V,W,h⟩
 rintro⟨r,z,Y,h⟩;exact⟨r,(D r).2 ⟨z,Y⟩,h⟩
def bF(l:List Int):Prop:=l.Pairwise fun a b=>a<b
theorem nI:∀(a b:List Int),bF a->bF b->(∀x,x∈a↔x∈b)->a=b:=by
 intro a
 induction a with
 | nil=>
  intro b _ _ h;cases b with
  | nil=>rfl
  | cons y b=>exact absurd ((h y).2 (adU ..)) (by simp)
 | cons x a ih=>
  intro b N hb h;cases b with
  | nil=>exact absurd ((h x).1 (adU ..)) (by simp)
  | cons y b=>
   obtain⟨J,O⟩:=abw.1 N;obtain⟨L,R⟩:=abw.1 hb;have e:x=y:=by
    rcases adq.1 ((h x).1 (adU ..)) with e | U
    ·exact e
    rcases adq.1 ((h y).2 (adU ..)) with e | V
    ·exact e.symm
    have:=J y V;have:=L x U;omega
   subst e;congr 1;refine ih b O R fun z=>?_;constructor
   ·intro I;have:=J z I;rcases adq.1 ((h z).1 (aaw _ I)) with e | D
    ·omega
    exact D
   intro I;have:=L z I;rcases adq.1 ((h z).2 (aaw _ I)) with e | D
   ·omega
   exact D
def put:List Int->Int->List Int
 | [],n=>[n]
 | a::l,n=>if a<n then a::put l n else if a=n then a::l else n::a::l
theorem tO(l:List Int)(n x:Int):x∈put l n↔x∈l\/x=n:=by
 induction l with
 | nil=>simp[put]
 | cons a l ih=>
  simp only[put];split
  ·rw[adq,ih,adq];exact or_assoc.symm
  split
  ·rename_i h;subst h;simp only[adq];constructor
   ·exact fun h=>.inl h
   rintro (h | h)
   ·exact h
   exact .inl h
  simp only[adq];constructor
  ·rintro (h | h | h)
   ·exact .inr h
   ·exact .inl (.inl h)
   exact .inl (.inr h)
  rintro ((h | h) | h)
  ·exact .inr (.inl h)
  ·exact .inr (.inr h)
  exact .inl h
theorem iG(l:List Int)(n:Int)(h:bF l):bF (put l n):=by
 induction l with
 | nil=>exact ad0 _ _
 | cons a l ih=>
  obtain⟨D,I⟩:=abw.1 h;simp only[put];split
  ·refine abw.2 ⟨fun x z=>?_,ih I⟩;rcases (tO l n x).1 z with z | rfl
   ·exact D x z
   assumption
  split
  ·exact h
  refine abw.2 ⟨fun x z=>?_,h⟩;rcases adq.1 z with rfl | z
  ·omega
  have:=D x z;omega
def aE(l:List ae):List Int:=l.foldl (fun out r=>put (put out r.y0) r.y1) []
theorem cT(l:List ae):bF (aE l)/\∀y,y∈aE l↔∃r∈l,y=r.y0\/y=r.y1:=by
 have H:∀(l:List ae) (s:List Int),bF s->bF (l.foldl (fun out r=>put (put out r.y0) r.y1) s)/\∀y,y∈l.foldl (fun out r=>put (put out r.y0) r.y1) s↔y∈s\/∃r∈l,y=r.y0\/y=r.y1:=by
  intro l
  induction l with
  | nil=>intro s D;exact⟨D,fun y=>by simp⟩
  | cons r l ih=>
   intro s D;obtain⟨I,J⟩:=ih _ (iG _ r.y1 (iG s r.y0 D));refine⟨I,fun y=>?_⟩;rw[aaq,J y,tO,tO];constructor
   ·rintro (((h | h) | h) | ⟨t,z,h⟩)
    ·exact .inl h
    ·exact .inr ⟨r,adU ..,.inl h⟩
    ·exact .inr ⟨r,adU ..,.inr h⟩
    exact .inr ⟨t,aaw _ z,h⟩
   rintro (h | ⟨t,z,h⟩)
   ·exact .inl (.inl (.inl h))
   rcases adq.1 z with rfl | z
   ·rcases h with h | h
    ·exact .inl (.inl (.inr h))
    exact .inl (.inr h)
   exact .inr ⟨t,z,h⟩
 obtain⟨L,N⟩:=H l [] List.Pairwise.nil;exact⟨L,fun y=>(N y).trans (by simp)⟩
structure an where
 y0:Int
 y1:Int
 xs:aU
def cA(l:List an)(b:an):List an:=
 if b.xs=[] then l else
 match l.getLast? with
 | some t=>if t.y1=b.y0/\t.xs=b.xs then l.dropLast++[⟨t.y0,b.y1,t.xs⟩] else l++[b]
 | none=>[b]
def cg(l:List ae)(ys:List Int):Nat->List an
 | 0=>[]
 | k+1=>cA (cg l ys k) ⟨ys.getD k 0,ys.getD (k+1) 0,rowOf l (ys.getD k 0)⟩
def aB(l:List ae):List an:=cg l (aE l) ((aE l).length-1)
def told(s:List an):List ae:=s.flatMap fun b=>b.xs.map fun p=>⟨p.1,b.y0,p.2,b.y1⟩
def bR(l:List ae):List ae:=told (aB l)
def kR(n:Int):Bool:=decide (-1000000<=n)&&decide (n<=1000000)
def c7(r:ae):Bool:=kR r.x0&&kR r.y0&&kR r.x1&&kR r.y1
def dU:List ae->Int
 | []=>0
 | r::l=>if c7 r=true then (if r.x1<=r.x0\/r.y1<=r.y0 then 13 else dU l) else 1
def cz(l:List ae):Int:=if 2000<l.length then 2 else dU l
def before(a b:ae):Bool:=decide (a.y0<b.y0)||(decide (a.y0=b.y0)&&decide (a.x0<b.x0))
def ordered:List ae->Bool
 | a::b::l=>before a b&&ordered (b::l)
 | _=>true
def aF(l:List ae):Int:=
 if cz l=0 then (if ordered l=true then (if bR l=l then 0 else 3) else 8) else cz l
theorem Ep{l:List ae}(h:dU l=0):∀r∈l,c7 r=true/\r.x0<r.x1/\r.y0<r.y1:=by
 induction l with
 | nil=>intro r z;cases z
 | cons a l ih=>
  simp only[dU]at h;split at h
  ·split at h
   ·cases h
   intro r z;rcases adq.1 z with rfl | z
   ·exact⟨by assumption,by omega,by omega⟩
   exact ih h r z
  cases h
theorem jK{l:List ae}(h:cz l=0):l.length<=2000/\∀r∈l,c7 r=true/\r.x0<r.x1/\r.y0<r.y1:=by
 unfold cz at h;split at h
 ·cases h
 exact⟨by omega,Ep h⟩
end Reg
end Go.Proofs.YtfloceomobknoaaGreatDoor
namespace Go.Proofs
open Go.Shelf
def Tryz.lays156_ren:Go.Shelf.Ren:=⟨fun | 156=>118 | 165=>198 | 166=>117 | 169=>121 | 240=>197 | 241=>250 | 276=>249 | 277=>270 | n=>n,fun | 31=>49 | 9=>9 | 3=>3 | 4=>4 | 0=>0 | 20=>20 | 72=>150 | 76=>153 | 70=>147 | 37=>148 | 75=>152 | 127=>225 | 164=>271 | 5=>5 | 80=>162 | n=>n,fun | n=>n⟩
theorem Tryz.lays156:Go.Proofs.Lays.n156 Tryz.prog Tryz.lays156_ren:={
 mixed:=by kernel_rfl
 f156:=Tryz.func118.trans (adV some (by kernel_rfl))
 f165:=Tryz.func198.trans (adV some (by kernel_rfl))
 f166:=Tryz.func117.trans (adV some (by kernel_rfl))
 f169:=Tryz.func121.trans (adV some (by kernel_rfl))
 f240:=Tryz.func197.trans (adV some (by kernel_rfl))
 f241:=Tryz.func250.trans (adV some (by kernel_rfl))
 f276:=Tryz.func249.trans (adV some (by kernel_rfl))
 f277:=Tryz.func270.trans (adV some (by kernel_rfl))
 t0:=acF
 a0:=acG
 z0:=acH
 v0:=acI
 t3:=ab0
 a3:=acj
 z3:=ack
 v3:=acm
 t4:=acn
 a4:=acQ
 z4:=acR
 v4:=acS
 t9:=aca
 a9:=acJ
 z9:=acK
 v9:=acL
 t20:=Tryz.underlying20
 a20:=Tryz.isAgg20
 z20:=Tryz.sizeOf20
 v20:=Tryz.zeroValue20
 t31:=adf
 a31:=Tryz.isAgg49
 z31:=Tryz.sizeOf49
 v31:=Tryz.zeroValue49
 t37:=adg
 a37:=Tryz.isAgg148
 z37:=Tryz.sizeOf148
 v37:=Tryz.zeroValue148
 t70:=adh
 a70:=Tryz.isAgg147
 z70:=Tryz.sizeOf147
 v70:=Tryz.zeroValue147
 t72:=Tryz.underlying150
 a72:=Tryz.isAgg150
 z72:=Tryz.sizeOf150
 v72:=Tryz.zeroValue150
 t75:=Tryz.underlying152
 a75:=Tryz.isAgg152
 z75:=Tryz.sizeOf152
 v75:=Tryz.zeroValue152
 t76:=Tryz.underlying153
 a76:=Tryz.isAgg153
 z76:=Tryz.sizeOf153
 v76:=Tryz.zeroValue153
 t127:=Tryz.underlying225
 a127:=Tryz.isAgg225
 z127:=Tryz.sizeOf225
 v127:=Tryz.zeroValue225
 t164:=ad1
 a164:=Tryz.isAgg271
 z164:=Tryz.sizeOf271
 v164:=Tryz.zeroValue271 }
def Tryz.lays106_ren:Go.Shelf.Ren:=⟨fun | 106=>241 | 213=>269 | 265=>283 | n=>n,fun | 9=>9 | 3=>3 | n=>n,fun | n=>n⟩
theorem Tryz.lays106:Go.Proofs.Lays.n106 Tryz.prog Tryz.lays106_ren:={
 mixed:=by kernel_rfl
 f106:=Tryz.func241.trans (adV some (by kernel_rfl))
 f213:=Tryz.func269.trans (adV some (by kernel_rfl))
 f265:=Tryz.func283.trans (adV some (by kernel_rfl))
 t3:=ab0
 a3:=acj
 z3:=ack
 v3:=acm
 t9:=aca
 a9:=acJ
 z9:=acK
 v9:=acL }
open Go.RowKit in
theorem Tryz.strings_Compare(a b:ByteArray)(w:World):
  Calls Tryz.prog 241 #[.string a,.string b] w fun e w'=>e=.returned (.int .i64 (Lib.compareBytes a.data.toList b.data.toList))/\w'=w:=Any.strings_Compare Tryz.lays106 a b w
def Tryz.lays137_ren:Go.Shelf.Ren:=⟨fun | 137=>206 | 217=>255 | 266=>279 | n=>n,fun | 9=>9 | 5=>5 | 3=>3 | n=>n,fun | n=>n⟩
theorem Tryz.lays137:Go.Proofs.Lays.n137 Tryz.prog Tryz.lays137_ren:={
 mixed:=by kernel_rfl
 f137:=Tryz.func206.trans (adV some (by kernel_rfl))
 f217:=Tryz.func255.trans (adV some (by kernel_rfl))
 f266:=Tryz.func279.trans (adV some (by kernel_rfl))
 t3:=ab0
 a3:=acj
 z3:=ack
 v3:=acm
 t5:=acT
 a5:=acU
 z5:=acV
 v5:=acW
 t9:=aca
 a9:=acJ
 z9:=acK
 v9:=acL }
open Go.RowKit in
theorem Tryz.strings_IndexByte(s:ByteArray)(c:Int)(w:World):
  Calls Tryz.prog 206 #[.string s,.int .u8 c] w fun e w'=>e=.returned (.int .i64 (Lib.indexByte s.data.toList c.toNat.toUInt8))/\w'=w:=Any.strings_IndexByte Tryz.lays137 s c w
def Tryz.lays170_ren:Go.Shelf.Ren:=⟨fun | 170=>120 | n=>n,fun | 70=>147 | 3=>3 | 0=>0 | 72=>150 | 37=>148 | 5=>5 | n=>n,fun | n=>n⟩
theorem Tryz.lays170:Go.Proofs.Lays.n170 Tryz.prog Tryz.lays170_ren:={
 mixed:=by kernel_rfl
 f170:=Tryz.func120.trans (adV some (by kernel_rfl))
 t0:=acF
 a0:=acG
 z0:=acH
 v0:=acI
 t3:=ab0
 a3:=acj
 z3:=ack
 v3:=acm
 t37:=adg
 a37:=Tryz.isAgg148
 z37:=Tryz.sizeOf148
 v37:=Tryz.zeroValue148
 t70:=adh
 a70:=Tryz.isAgg147
 z70:=Tryz.sizeOf147
 v70:=Tryz.zeroValue147
 t72:=Tryz.underlying150
 a72:=Tryz.isAgg150
 z72:=Tryz.sizeOf150
 v72:=Tryz.zeroValue150 }
open Go.RowKit in
theorem Tryz.Builder_Len_f(B b:Nat)(bs:List Value)(w:World)(h:Lib.IsBuilderF 150 5 B b bs w):
  Calls Tryz.prog 120 #[.pointer (some ⟨b,0,none⟩)] w fun e w'=>e=.returned (.int .i64 bs.length)/\w'=w:=Any.Builder_Len_f Tryz.lays170 B b bs w h
def Tryz.laysM171_ren:Go.Shelf.Ren:=⟨fun | 171=>119 | 243=>199 | 246=>251 | 283=>271 | 284=>272 | 285=>273 | 286=>274 | 129=>225 | 317=>284 | 318=>285 | 319=>286 | 320=>287 | 337=>292 | 338=>293 | n=>n,fun | 3=>3 | 9=>9 | 2=>2 | 4=>4 | 171=>285 | 0=>0 | 53=>252 | 37=>148 | 5=>5 | 173=>287 | 212=>297 | 51=>250 | 20=>20 | 213=>298 | 46=>187 | 232=>305 | 233=>306 | n=>n,fun | 17=>1 | 18=>4 | 19=>5 | n=>n⟩
theorem Tryz.laysM171:Go.Proofs.LaysM.n171 Tryz.prog Tryz.laysM171_ren:={
 mixed:=by kernel_rfl
 f129:=Tryz.func225.trans (adV some (by kernel_rfl))
 f171:=Tryz.func119.trans (adV some (by kernel_rfl))
 f243:=Tryz.func199.trans (adV some (by kernel_rfl))
 f246:=Tryz.func251.trans (adV some (by kernel_rfl))
 f283:=Tryz.func271.trans (adV some (by kernel_rfl))
 f284:=Tryz.func272.trans (adV some (by kernel_rfl))
 f285:=Tryz.func273.trans (adV some (by kernel_rfl))
 f286:=Tryz.func274.trans (adV some (by kernel_rfl))
 f317:=Tryz.func284.trans (adV some (by kernel_rfl))
 f318:=Tryz.func285.trans (adV some (by kernel_rfl))
 f319:=Tryz.func286.trans (adV some (by kernel_rfl))
 f320:=Tryz.func287.trans (adV some (by kernel_rfl))
 f337:=Tryz.func292.trans (adV some (by kernel_rfl))
 f338:=Tryz.func293.trans (adV some (by kernel_rfl))
 t0:=acF
 a0:=acG
 z0:=acH
 v0:=acI
 t2:=Tryz.underlying2
 a2:=Tryz.isAgg2
 z2:=Tryz.sizeOf2
 v2:=Tryz.zeroValue2
 t3:=ab0
 a3:=acj
 z3:=ack
 v3:=acm
 t4:=acn
 a4:=acQ
 z4:=acR
 v4:=acS
 t5:=acT
 a5:=acU
 z5:=acV
 v5:=acW
 t9:=aca
 a9:=acJ
 z9:=acK
 v9:=acL
 t20:=Tryz.underlying20
 a20:=Tryz.isAgg20
 z20:=Tryz.sizeOf20
 v20:=Tryz.zeroValue20
 t37:=adg
 a37:=Tryz.isAgg148
 z37:=Tryz.sizeOf148
 v37:=Tryz.zeroValue148
 t46:=adx
 a46:=ady
 z46:=adz
 v46:=adA
 t51:=adB
 a51:=adC
 z51:=adD
 v51:=adE
 t53:=adF
 a53:=Tryz.isAgg252
 z53:=Tryz.sizeOf252
 v53:=Tryz.zeroValue252
 t171:=Tryz.underlying285
 a171:=Tryz.isAgg285
 z171:=Tryz.sizeOf285
 v171:=Tryz.zeroValue285
 t173:=Tryz.underlying287
 a173:=Tryz.isAgg287
 z173:=Tryz.sizeOf287
 v173:=Tryz.zeroValue287
 t212:=Tryz.underlying297
 a212:=Tryz.isAgg297
 z212:=Tryz.sizeOf297
 v212:=Tryz.zeroValue297
 t213:=Tryz.underlying298
 a213:=Tryz.isAgg298
 z213:=Tryz.sizeOf298
 t232:=Tryz.underlying305
 a232:=Tryz.isAgg305
 z232:=Tryz.sizeOf305
 v232:=Tryz.zeroValue305
 t233:=Tryz.underlying306
 a233:=Tryz.isAgg306
 z233:=Tryz.sizeOf306
 v233:=Tryz.zeroValue306
 g17:=by kernel_rfl
 g18:=by kernel_rfl
 g19:=by kernel_rfl
 i0:=by kernel_rfl
 i2:=by kernel_rfl
 i3:=by kernel_rfl
 i4:=by kernel_rfl
 i5:=by kernel_rfl
 i9:=by kernel_rfl
 i20:=by kernel_rfl
 i37:=by kernel_rfl
 i46:=by kernel_rfl
 i51:=by kernel_rfl
 i53:=by kernel_rfl
 i171:=by kernel_rfl
 i173:=by kernel_rfl
 i212:=by kernel_rfl
 i232:=by kernel_rfl
 i233:=by kernel_rfl
 m17:=by kernel_rfl
 m18:=by kernel_rfl
 m19:=by kernel_rfl }
open Go.RowKit Go.Sort Go.Lib in
theorem Tryz.strconv_Itoa (n : Int) (h0 : -9223372036854775808 ≤ n) (h1 : n ≤ 9223372036854775807) (w : World) (XR : Lib.TabIs Tryz.prog w "internal/strconv.uint64pow10" .u64 Lib.pow10Tab) :
  Calls Tryz.prog 119 #[.int .i64 n] w fun e w'=>e=.returned (.string ⟨(Lib.itoa n).toArray⟩)/\∃k os,w'=grow (w.drewN k) os:=Any.strconv_Itoa Tryz.laysM171 n h0 h1 w XR
def Tryz.lays189_ren:Go.Shelf.Ren:=⟨fun | 189=>84 | 125=>159 | 257=>160 | 128=>224 | 129=>225 | 294=>226 | 295=>227 | 296=>228 | 297=>229 | 298=>230 | 299=>231 | 216=>232 | 300=>233 | 301=>234 | 328=>265 | 329=>261 | 330=>262 | 331=>266 | 332=>267 | 215=>268 | 343=>282 | n=>n,fun | 28=>71 | 3=>3 | 46=>187 | 0=>0 | 51=>250 | 53=>252 | 4=>4 | 183=>244 | 182=>243 | 131=>234 | 5=>5 | 9=>9 | 218=>276 | 222=>280 | 228=>292 | 229=>293 | n=>n,fun | n=>n⟩
theorem Tryz.lays189:Go.Proofs.Lays.n189 Tryz.prog Tryz.lays189_ren:={
 mixed:=by kernel_rfl
 f125:=Tryz.func159.trans (adV some (by kernel_rfl))
 f128:=Tryz.func224.trans (adV some (by kernel_rfl))
 f129:=Tryz.func225.trans (adV some (by kernel_rfl))
 f189:=Tryz.func84.trans (adV some (by kernel_rfl))
 f215:=Tryz.func268.trans (adV some (by kernel_rfl))
 f216:=Tryz.func232.trans (adV some (by kernel_rfl))
 f257:=Tryz.func160.trans (adV some (by kernel_rfl))
 f294:=Tryz.func226.trans (adV some (by kernel_rfl))
 f295:=Tryz.func227.trans (adV some (by kernel_rfl))
 f296:=Tryz.func228.trans (adV some (by kernel_rfl))
 f297:=Tryz.func229.trans (adV some (by kernel_rfl))
 f298:=Tryz.func230.trans (adV some (by kernel_rfl))
 f299:=Tryz.func231.trans (adV some (by kernel_rfl))
 f300:=Tryz.func233.trans (adV some (by kernel_rfl))
 f301:=Tryz.func234.trans (adV some (by kernel_rfl))
 f328:=Tryz.func265.trans (adV some (by kernel_rfl))
 f329:=Tryz.func261.trans (adV some (by kernel_rfl))
 f330:=Tryz.func262.trans (adV some (by kernel_rfl))
 f331:=Tryz.func266.trans (adV some (by kernel_rfl))
 f332:=Tryz.func267.trans (adV some (by kernel_rfl))
 f343:=Tryz.func282.trans (adV some (by kernel_rfl))
 t0:=acF
 a0:=acG
 z0:=acH
 v0:=acI
 t3:=ab0
 a3:=acj
 z3:=ack
 v3:=acm
 t4:=acn
 a4:=acQ
 z4:=acR
 v4:=acS
 t5:=acT
 a5:=acU
 z5:=acV
 v5:=acW
 t9:=aca
 a9:=acJ
 z9:=acK
 v9:=acL
 t28:=Tryz.underlying71
 a28:=Tryz.isAgg71
 z28:=Tryz.sizeOf71
 v28:=Tryz.zeroValue71
 t46:=adx
 a46:=ady
 z46:=adz
 v46:=adA
 t51:=adB
 a51:=adC
 z51:=adD
 v51:=adE
 t53:=adF
 a53:=Tryz.isAgg252
 z53:=Tryz.sizeOf252
 v53:=Tryz.zeroValue252
 t131:=Tryz.underlying234
 a131:=Tryz.isAgg234
 z131:=Tryz.sizeOf234
 v131:=Tryz.zeroValue234
 t182:=Tryz.underlying243
 a182:=Tryz.isAgg243
 z182:=Tryz.sizeOf243
 v182:=Tryz.zeroValue243
 t183:=Tryz.underlying244
 a183:=Tryz.isAgg244
 z183:=Tryz.sizeOf244
 v183:=Tryz.zeroValue244
 t218:=Tryz.underlying276
 a218:=Tryz.isAgg276
 z218:=Tryz.sizeOf276
 v218:=Tryz.zeroValue276
 t222:=Tryz.underlying280
 a222:=Tryz.isAgg280
 z222:=Tryz.sizeOf280
 v222:=Tryz.zeroValue280
 t228:=Tryz.underlying292
 a228:=Tryz.isAgg292
 z228:=Tryz.sizeOf292
 v228:=Tryz.zeroValue292
 t229:=Tryz.underlying293
 a229:=Tryz.isAgg293
 z229:=Tryz.sizeOf293
 v229:=Tryz.zeroValue293 }
open Go.Sort Go.RowKit in
theorem Tryz.slices_Sort_int(cC z D:Nat)(zs:List Int)(w:World)(L:Holds (Value.int .i64) w cC z zs.toArray)(I:cC<w.heap.size)(J:zs.length<4611686018427387904):
  Calls Tryz.prog 84 #[.slice (some ⟨cC,z,none⟩) zs.length D] w fun e w'=>
   e=.returned (.tuple #[])/\∃n os,w'=grow (putRow (Value.int .i64) (Sort.ahead w n) cC z (zs.mergeSort fun x y=>decide (x<=y)).toArray) os:=Any.slices_Sort_int Tryz.lays189 cC z D zs w L I J
def Tryz.lays146_ren:Go.Shelf.Ren:=⟨fun | 146=>141 | 221=>205 | 268=>252 | 138=>253 | 143=>254 | 195=>275 | 197=>276 | 218=>277 | 219=>278 | 260=>288 | 217=>255 | 225=>289 | 224=>290 | 267=>291 | 266=>279 | 314=>294 | n=>n,fun | 9=>9 | 31=>49 | 3=>3 | 4=>4 | 0=>0 | 105=>290 | 21=>21 | 5=>5 | 46=>187 | 119=>299 | 139=>302 | 138=>301 | 146=>303 | 51=>250 | n=>n,fun | 1=>0 | 3=>2 | 4=>3 | n=>n⟩
theorem Tryz.lays146:Go.Proofs.Lays.n146 Tryz.prog Tryz.lays146_ren:={
 mixed:=by kernel_rfl
 f138:=Tryz.func253.trans (adV some (by kernel_rfl))
 f143:=Tryz.func254.trans (adV some (by kernel_rfl))
 f146:=Tryz.func141.trans (adV some (by kernel_rfl))
 f195:=Tryz.func275.trans (adV some (by kernel_rfl))
 f197:=Tryz.func276.trans (adV some (by kernel_rfl))
 f217:=Tryz.func255.trans (adV some (by kernel_rfl))
 f218:=Tryz.func277.trans (adV some (by kernel_rfl))
 f219:=Tryz.func278.trans (adV some (by kernel_rfl))
 f221:=Tryz.func205.trans (adV some (by kernel_rfl))
 f224:=Tryz.func290.trans (adV some (by kernel_rfl))
 f225:=Tryz.func289.trans (adV some (by kernel_rfl))
 f260:=Tryz.func288.trans (adV some (by kernel_rfl))
 f266:=Tryz.func279.trans (adV some (by kernel_rfl))
 f267:=Tryz.func291.trans (adV some (by kernel_rfl))
 f268:=Tryz.func252.trans (adV some (by kernel_rfl))
 f314:=Tryz.func294.trans (adV some (by kernel_rfl))
 t0:=acF
 a0:=acG
 z0:=acH
 v0:=acI
 t3:=ab0
 a3:=acj
 z3:=ack
 v3:=acm
 t4:=acn
 a4:=acQ
 z4:=acR
 v4:=acS
 t5:=acT
 a5:=acU
 z5:=acV
 v5:=acW
 t9:=aca
 a9:=acJ
 z9:=acK
 v9:=acL
 t21:=Tryz.underlying21
 a21:=Tryz.isAgg21
 z21:=Tryz.sizeOf21
 v21:=Tryz.zeroValue21
 t31:=adf
 a31:=Tryz.isAgg49
 z31:=Tryz.sizeOf49
 v31:=Tryz.zeroValue49
 t46:=adx
 a46:=ady
 z46:=adz
 v46:=adA
 t51:=adB
 a51:=adC
 z51:=adD
 v51:=adE
 t105:=Tryz.underlying290
 a105:=Tryz.isAgg290
 z105:=Tryz.sizeOf290
 v105:=Tryz.zeroValue290
 t119:=Tryz.underlying299
 a119:=Tryz.isAgg299
 z119:=Tryz.sizeOf299
 t138:=Tryz.underlying301
 a138:=Tryz.isAgg301
 z138:=Tryz.sizeOf301
 v138:=Tryz.zeroValue301
 t139:=Tryz.underlying302
 a139:=Tryz.isAgg302
 z139:=Tryz.sizeOf302
 v139:=Tryz.zeroValue302
 t146:=Tryz.underlying303
 a146:=Tryz.isAgg303
 z146:=Tryz.sizeOf303
 v146:=Tryz.zeroValue303
 g1:=by kernel_rfl
 g3:=by kernel_rfl
 g4:=by kernel_rfl }
open Go.RowKit Go.Lib in
theorem Tryz.strings_Split(s z:ByteArray)(m:Int)(w:World)(D:s.size<4294967281)(I:w.cell? ⟨0,0,none⟩=some (.int .i64 m))(J:1<=z.size):
  Calls Tryz.prog 141 #[.string s,.string z] w fun e w'=>
   e=.returned (.slice (some ⟨w.heap.size,0,none⟩) (Lib.countB s z+1) (Lib.countB s z+1))/\w'=w.alloc (.cells ((Lib.splitB z 0 (Lib.countB s z) s).map Value.string).toArray 9):=Any.strings_Split Tryz.lays146 (by kernel_rfl) s z m w D I J
def Tryz.laysNm220_ren:Go.Shelf.Ren:=⟨fun | 20=>85 | n=>n,fun | 22=>71 | 3=>3 | 4=>4 | 0=>0 | n=>n,fun | n=>n⟩
theorem Tryz.laysNm220:Go.Proofs.Lays2.n20 Tryz.prog Tryz.laysNm220_ren:={
 mixed:=by kernel_rfl
 f20:=Tryz.func85.trans (adV some (by kernel_rfl))
 t0:=acF
 a0:=acG
 z0:=acH
 v0:=acI
 t3:=ab0
 a3:=acj
 z3:=ack
 v3:=acm
 t4:=acn
 a4:=acQ
 z4:=acR
 v4:=acS
 t22:=Tryz.underlying71
 a22:=Tryz.isAgg71
 z22:=Tryz.sizeOf71
 v22:=Tryz.zeroValue71
 i3:=by kernel_rfl }
open Go.RowKit Go.Lib Go.Sort in
theorem Tryz.slices_Compact_int(cC z D:Nat)(zs:List Int)(w:World)(J:Holds (Value.int .i64) w cC z zs.toArray)(I:zs.length<=9223372036854775807)(L:zs.length<=D):
  Calls Tryz.prog 85 #[.slice (some ⟨cC,z,none⟩) zs.length D] w fun e w'=>e=.returned (.slice (some ⟨cC,z,none⟩) (Lib.compact zs).length D)/\∃q,w'=putRow (Value.int .i64) (Sort.ahead w q) cC z (Lib.compact zs++List.replicate (zs.length-(Lib.compact zs).length) 0).toArray:=Any.slices_Compact_int Tryz.laysNm220 cC z D zs w J I L
open Go.RowKit Go.Lib Go.Sort in
theorem Tryz.slices_Compact_int_empty(a:Option Addr)(z:Nat)(w:World):
  Calls Tryz.prog 85 #[.slice a 0 z] w fun e w'=>e=.returned (.slice a 0 z)/\w'=w:=Any.slices_Compact_int_empty Tryz.laysNm220 a z w
open Go.RowKit Go.Sort in
theorem Tryz.slices_Sort_int_none(p:Option Addr)(z:Nat)(w:World):
  Calls Tryz.prog 84 #[.slice p 0 z] w fun e w'=>e=.returned (.tuple #[])/\w'=w:=Any.slices_Sort_int_none Tryz.lays189 p z w
def Tryz.laysSortRect_ren:Go.Shelf.Ren:=⟨fun | 6=>82 | 15=>159 | 14=>158 | 28=>224 | 29=>225 | 20=>216 | 21=>217 | 22=>218 | 23=>219 | 24=>220 | 25=>221 | 26=>222 | 27=>223 | 46=>260 | 47=>261 | 48=>262 | 49=>263 | 50=>264 | 57=>281 | n=>n,fun | 22=>22 | 24=>87 | 25=>102 | 3=>3 | 39=>187 | 0=>0 | 53=>250 | 55=>252 | 4=>4 | 46=>244 | 45=>243 | 50=>234 | 5=>5 | 9=>9 | 66=>276 | 70=>280 | 76=>292 | 77=>293 | n=>n,fun | n=>n⟩
theorem Tryz.laysSortRect:Go.Proofs.SlLaysF0.n6 Tryz.prog Tryz.laysSortRect_ren:={
 mixed:=by kernel_rfl
 f6:=⟨Tryz.f82.name,by decide,Tryz.func82.trans (adV some (by kernel_rfl))⟩
 f14:=⟨Tryz.f158.name,by decide,Tryz.func158.trans (adV some (by kernel_rfl))⟩
 f15:=Tryz.func159.trans (adV some (by kernel_rfl))
 f20:=⟨Tryz.f216.name,by decide,Tryz.func216.trans (adV some (by kernel_rfl))⟩
 f21:=⟨Tryz.f217.name,by decide,Tryz.func217.trans (adV some (by kernel_rfl))⟩
 f22:=⟨Tryz.f218.name,by decide,Tryz.func218.trans (adV some (by kernel_rfl))⟩
 f23:=⟨Tryz.f219.name,by decide,Tryz.func219.trans (adV some (by kernel_rfl))⟩
 f24:=⟨Tryz.f220.name,by decide,Tryz.func220.trans (adV some (by kernel_rfl))⟩
 f25:=⟨Tryz.f221.name,by decide,Tryz.func221.trans (adV some (by kernel_rfl))⟩
 f26:=⟨Tryz.f222.name,by decide,Tryz.func222.trans (adV some (by kernel_rfl))⟩
 f27:=⟨Tryz.f223.name,by decide,Tryz.func223.trans (adV some (by kernel_rfl))⟩
 f28:=Tryz.func224.trans (adV some (by kernel_rfl))
 f29:=Tryz.func225.trans (adV some (by kernel_rfl))
 f46:=⟨Tryz.f260.name,by decide,Tryz.func260.trans (adV some (by kernel_rfl))⟩
 f47:=Tryz.func261.trans (adV some (by kernel_rfl))
 f48:=Tryz.func262.trans (adV some (by kernel_rfl))
 f49:=⟨Tryz.f263.name,by decide,Tryz.func263.trans (adV some (by kernel_rfl))⟩
 f50:=⟨Tryz.f264.name,by decide,Tryz.func264.trans (adV some (by kernel_rfl))⟩
 f57:=⟨Tryz.f281.name,by decide,Tryz.func281.trans (adV some (by kernel_rfl))⟩
 t0:=acF
 a0:=acG
 z0:=acH
 v0:=acI
 t3:=ab0
 a3:=acj
 z3:=ack
 v3:=acm
 t4:=acn
 a4:=acQ
 z4:=acR
 v4:=acS
 t5:=acT
 a5:=acU
 z5:=acV
 v5:=acW
 t9:=aca
 a9:=acJ
 z9:=acK
 v9:=acL
 t22:=Tryz.underlying22
 a22:=Tryz.isAgg22
 z22:=Tryz.sizeOf22
 v22:=Tryz.zeroValue22
 t25:=Tryz.underlying102
 a25:=Tryz.isAgg102
 z25:=Tryz.sizeOf102
 v25:=Tryz.zeroValue102
 t39:=adx
 a39:=ady
 z39:=adz
 v39:=adA
 t45:=Tryz.underlying243
 a45:=Tryz.isAgg243
 z45:=Tryz.sizeOf243
 v45:=Tryz.zeroValue243
 t46:=Tryz.underlying244
 a46:=Tryz.isAgg244
 z46:=Tryz.sizeOf244
 v46:=Tryz.zeroValue244
 t50:=Tryz.underlying234
 a50:=Tryz.isAgg234
 z50:=Tryz.sizeOf234
 v50:=Tryz.zeroValue234
 t53:=adB
 a53:=adC
 z53:=adD
 v53:=adE
 t55:=adF
 a55:=Tryz.isAgg252
 z55:=Tryz.sizeOf252
 v55:=Tryz.zeroValue252
 t66:=Tryz.underlying276
 a66:=Tryz.isAgg276
 z66:=Tryz.sizeOf276
 v66:=Tryz.zeroValue276
 t70:=Tryz.underlying280
 a70:=Tryz.isAgg280
 z70:=Tryz.sizeOf280
 v70:=Tryz.zeroValue280
 t76:=Tryz.underlying292
 a76:=Tryz.isAgg292
 z76:=Tryz.sizeOf292
 v76:=Tryz.zeroValue292
 t77:=Tryz.underlying293
 a77:=Tryz.isAgg293
 z77:=Tryz.sizeOf293
 v77:=Tryz.zeroValue293 }
end Go.Proofs
namespace Go.Proofs.YtfloceomobknoaaGreatDoor
namespace M
open Go.AM Go.RowKit
def iq:List (Nat×TI):=([20,151,152].map fun n=>(n,⟨.sc,1,16,[.nilIface],false⟩))++(([21,315,316].map fun n=>(n,⟨.int .i32,1,4,[.int .i32 0],false⟩))++(([9,10,11].map fun n=>(n,⟨.str,1,16,[.string ByteArray.empty],false⟩))++(([12,187,252,276].map fun n=>(n,⟨.int .u64,1,8,[.int .u64 0],false⟩))++(([127,128,195,196].map fun n=>(n,⟨.st [(0,1,false),(1,1,false),(2,1,false)],3,40,[.int .i64 0,.int .i64 0,.slice none 0 0],false⟩))++(([2,3,28,243].map fun n=>(n,⟨.int .i64,1,8,[.int .i64 0],false⟩))++(([5,6,312,313].map fun n=>(n,⟨.int .u8,1,1,[.int .u8 0],false⟩))++(([15,16,17,64,81,147,210,225,280,292].map fun n=>(n,⟨.sc,1,8,[.pointer none],false⟩))++([(4,⟨.sc,1,1,[.bool false],true⟩),
 (7,⟨.st [(0,1,false),(1,1,false),(2,1,false),(3,1,false)],4,24,[.int .i64 0,.int .i64 0,.bool false,.int .u8 0],false⟩),
 (8,⟨.st [(0,1,false),(1,1,false),(2,1,false),(3,1,false)],4,24,[.int .i64 0,.int .i64 0,.bool false,.int .u8 0],false⟩),
 (13,⟨.st [(0,1,false),(1,1,false)],2,24,[.string ByteArray.empty,.int .u64 0],false⟩),
 (14,⟨.st [(0,1,false),(1,1,false)],2,24,[.string ByteArray.empty,.int .u64 0],false⟩),
 (18,⟨.st [(0,1,false)],1,8,[.pointer none],false⟩),
 (19,⟨.st [(0,1,false)],1,8,[.pointer none],false⟩),
 (22,⟨.sl 87,1,24,[.slice none 0 0],false⟩),
 (23,⟨.sl 22,1,24,[.slice none 0 0],false⟩),
 (24,⟨.sl 95,1,24,[.slice none 0 0],false⟩),
 (25,⟨.sl 201,1,24,[.slice none 0 0],false⟩),
 (26,⟨.st [(0,1,false),(1,1,false),(2,1,false),(3,1,false)],4,96,[.slice none 0 0,.slice none 0 0,.slice none 0 0,.slice none 0 0],false⟩),
 (27,⟨.st [(0,1,false),(1,1,false),(2,1,false),(3,1,false)],4,96,[.slice none 0 0,.slice none 0 0,.slice none 0 0,.slice none 0 0],false⟩),
 (36,⟨.sl 159,1,24,[.slice none 0 0],false⟩),
 (37,⟨.sl 161,1,24,[.slice none 0 0],false⟩),
 (38,⟨.st [(0,1,false),(1,1,false),(2,1,false),(3,1,false),(4,1,false),(5,1,false),(6,1,false)],7,88,[.int .i64 0,.int .i64 0,.int .i64 0,.int .i64 0,.int .i64 0,.slice none 0 0,.slice none 0 0],false⟩),
 (39,⟨.st [(0,1,false),(1,1,false),(2,1,false),(3,1,false),(4,1,false),(5,1,false),(6,1,false)],7,88,[.int .i64 0,.int .i64 0,.int .i64 0,.int .i64 0,.int .i64 0,.slice none 0 0,.slice none 0 0],false⟩),
 (40,⟨.sl 47,1,24,[.slice none 0 0],false⟩),
 (44,⟨.st [(0,1,false),(1,1,false)],2,16,[.int .i64 0,.int .i64 0],false⟩),
 (262,⟨.st [(0,1,false),(1,1,false)],2,16,[.int .i64 0,.int .i64 0],false⟩),
 (45,⟨.st [(0,1,false),(1,1,false)],2,16,[.int .i64 0,.int .i64 0],true⟩),
 (263,⟨.st [(0,1,false),(1,1,false)],2,16,[.int .i64 0,.int .i64 0],true⟩),
 (46,⟨.st [(0,1,false),(1,1,false),(2,1,false),(3,1,false),(4,1,false),(5,2,true)],7,56,[.int .i64 0,.int .i64 0,.int .i64 0,.int .i64 0,.int .i64 0,.int .i64 0,.int .i64 0],false⟩),
 (47,⟨.st [(0,1,false),(1,1,false),(2,1,false),(3,1,false),(4,1,false),(5,2,true)],7,56,[.int .i64 0,.int .i64 0,.int .i64 0,.int .i64 0,.int .i64 0,.int .i64 0,.int .i64 0],true⟩),
 (49,⟨.sl 9,1,24,[.slice none 0 0],false⟩),
 (58,⟨.sl 128,1,24,[.slice none 0 0],false⟩),
 (59,⟨.sl 128,1,24,[.slice none 0 0],false⟩),
 (67,⟨.sl 59,1,24,[.slice none 0 0],false⟩),
 (68,⟨.sl 76,1,24,[.slice none 0 0],false⟩),
 (69,⟨.sl 71,1,24,[.slice none 0 0],false⟩),
 (70,⟨.sl 142,1,24,[.slice none 0 0],false⟩),
 (71,⟨.sl 3,1,24,[.slice none 0 0],false⟩),
 (72,⟨.sl 174,1,24,[.slice none 0 0],false⟩),
 (73,⟨.st [(0,4,true),(4,1,false),(5,1,false),(6,1,false),(7,1,false),(8,1,false),(9,1,false),(10,1,false),(11,1,false)],12,288,[.slice none 0 0,.slice none 0 0,.slice none 0 0,.slice none 0 0,.slice none 0 0,.slice none 0 0,.slice none 0 0,.slice none 0 0,.slice none 0 0,.slice none 0 0,.slice none 0 0,.slice none 0 0],false⟩),
 (74,⟨.st [(0,4,true),(4,1,false),(5,1,false),(6,1,false),(7,1,false),(8,1,false),(9,1,false),(10,1,false),(11,1,false)],12,288,[.slice none 0 0,.slice none 0 0,.slice none 0 0,.slice none 0 0,.slice none 0 0,.slice none 0 0,.slice none 0 0,.slice none 0 0,.slice none 0 0,.slice none 0 0,.slice none 0 0,.slice none 0 0],false⟩),
 (75,⟨.st [(0,1,false),(1,1,false),(2,1,false)],3,56,[.int .i64 0,.slice none 0 0,.slice none 0 0],false⟩),
 (76,⟨.st [(0,1,false),(1,1,false),(2,1,false)],3,56,[.int .i64 0,.slice none 0 0,.slice none 0 0],false⟩),
 (77,⟨.st [(0,1,false),(1,1,false),(2,1,false),(3,2,true),(5,2,true)],7,56,[.int .i64 0,.int .i64 0,.int .i64 0,.int .i64 0,.int .i64 0,.int .i64 0,.int .i64 0],false⟩),
 (78,⟨.st [(0,1,false),(1,1,false),(2,1,false),(3,2,true),(5,2,true)],7,56,[.int .i64 0,.int .i64 0,.int .i64 0,.int .i64 0,.int .i64 0,.int .i64 0,.int .i64 0],false⟩),
 (84,⟨.st [(0,4,true),(4,1,false),(5,1,false),(6,1,false),(7,1,false)],8,192,[.slice none 0 0,.slice none 0 0,.slice none 0 0,.slice none 0 0,.slice none 0 0,.slice none 0 0,.slice none 0 0,.slice none 0 0],false⟩),
 (85,⟨.st [(0,4,true),(4,1,false),(5,1,false),(6,1,false),(7,1,false)],8,192,[.slice none 0 0,.slice none 0 0,.slice none 0 0,.slice none 0 0,.slice none 0 0,.slice none 0 0,.slice none 0 0,.slice none 0 0],false⟩),
 (86,⟨.st [(0,1,false),(1,1,false),(2,1,false),(3,1,false)],4,32,[.int .i64 0,.int .i64 0,.int .i64 0,.int .i64 0],false⟩),
 (87,⟨.st [(0,1,false),(1,1,false),(2,1,false),(3,1,false)],4,32,[.int .i64 0,.int .i64 0,.int .i64 0,.int .i64 0],true⟩),
 (94,⟨.st [(0,2,true),(2,1,false),(3,1,false),(4,1,false),(5,1,false)],6,48,[.int .i64 0,.int .i64 0,.int .i64 0,.int .i64 0,.int .i64 0,.bool false],false⟩),
 (95,⟨.st [(0,2,true),(2,1,false),(3,1,false),(4,1,false),(5,1,false)],6,48,[.int .i64 0,.int .i64 0,.int .i64 0,.int .i64 0,.int .i64 0,.bool false],false⟩),
 (140,⟨.sl 205,1,24,[.slice none 0 0],false⟩),
 (141,⟨.st [(0,1,false),(1,1,false),(2,1,false)],3,72,[.slice none 0 0,.slice none 0 0,.slice none 0 0],false⟩),
 (142,⟨.st [(0,1,false),(1,1,false),(2,1,false)],3,72,[.slice none 0 0,.slice none 0 0,.slice none 0 0],false⟩),
 (148,⟨.sl 5,1,24,[.slice none 0 0],false⟩),
 (149,⟨.st [(0,1,false),(1,1,false)],2,32,[.pointer none,.slice none 0 0],false⟩),
 (150,⟨.st [(0,1,false),(1,1,false)],2,32,[.pointer none,.slice none 0 0],false⟩),
 (158,⟨.st [(0,1,false),(1,1,false),(2,1,false),(3,1,false)],4,56,[.string ByteArray.empty,.slice none 0 0,.int .i64 0,.int .i64 0],false⟩),
 (159,⟨.st [(0,1,false),(1,1,false),(2,1,false),(3,1,false)],4,56,[.string ByteArray.empty,.slice none 0 0,.int .i64 0,.int .i64 0],false⟩),
 (160,⟨.st [(0,1,false),(1,1,false),(2,1,false)],3,40,[.int .i64 0,.slice none 0 0,.int .i64 0],false⟩),
 (161,⟨.st [(0,1,false),(1,1,false),(2,1,false)],3,40,[.int .i64 0,.slice none 0 0,.int .i64 0],false⟩),
 (167,⟨.sl 170,1,24,[.slice none 0 0],false⟩),
 (169,⟨.st [(0,1,false),(1,1,false)],2,32,[.int .i64 0,.slice none 0 0],false⟩),
 (170,⟨.st [(0,1,false),(1,1,false)],2,32,[.int .i64 0,.slice none 0 0],false⟩),
 (173,⟨.st [(0,1,false),(1,1,false)],2,16,[.bool false,.int .i64 0],false⟩),
 (174,⟨.st [(0,1,false),(1,1,false)],2,16,[.bool false,.int .i64 0],false⟩),
 (175,⟨.sl 178,1,24,[.slice none 0 0],false⟩),
 (177,⟨.st [(0,1,false),(1,1,false)],2,32,[.slice none 0 0,.int .i64 0],false⟩),
 (178,⟨.st [(0,1,false),(1,1,false)],2,32,[.slice none 0 0,.int .i64 0],false⟩),
 (191,⟨.sl 196,1,24,[.slice none 0 0],false⟩),
 (193,⟨.sl 263,1,24,[.slice none 0 0],false⟩),
 (200,⟨.st [(0,1,false),(1,1,false),(2,1,false),(3,2,true)],5,56,[.string ByteArray.empty,.string ByteArray.empty,.int .i64 0,.int .i64 0,.int .i64 0],false⟩),
 (201,⟨.st [(0,1,false),(1,1,false),(2,1,false),(3,2,true)],5,56,[.string ByteArray.empty,.string ByteArray.empty,.int .i64 0,.int .i64 0,.int .i64 0],false⟩),
 (204,⟨.st [(0,1,false),(1,1,false)],2,32,[.string ByteArray.empty,.string ByteArray.empty],false⟩),
 (205,⟨.st [(0,1,false),(1,1,false)],2,32,[.string ByteArray.empty,.string ByteArray.empty],false⟩),
 (218,⟨.sl 4,1,24,[.slice none 0 0],false⟩),
 (228,⟨.mp 3 59,1,8,[.map none],false⟩),
 (250,⟨.int .u32,1,4,[.int .u32 0],false⟩),
 (266,⟨.mp 3 3,1,8,[.map none],false⟩),
 (267,⟨.st [(0,1,false)],1,24,[.slice none 0 0],false⟩),
 (268,⟨.st [(0,1,false)],1,24,[.slice none 0 0],false⟩),
 (270,⟨.mp 9 4,1,8,[.map none],false⟩),
 (300,⟨.st [(0,1,false),(1,1,false)],2,2,[.int .u8 0,.int .u8 0],false⟩),
 (301,⟨.st [(0,1,false),(1,1,false)],2,2,[.int .u8 0,.int .u8 0],false⟩),
 (307,⟨.st [(0,1,false),(1,1,false),(2,1,false),(3,1,false)],4,40,[.pointer none,.pointer none,.pointer none,.string ByteArray.empty],false⟩),
 (308,⟨.st [(0,1,false),(1,1,false),(2,1,false),(3,1,false)],4,40,[.pointer none,.pointer none,.pointer none,.string ByteArray.empty],false⟩),
 (317,⟨.st [(0,1,false),(1,1,false),(2,1,false),(3,1,false),(4,1,false),(5,1,false),(6,1,false),(7,1,false),(8,1,false),(9,1,false),(10,1,false)],11,48,[.int .u64 0,.int .u64 0,.int .u32 0,.int .u8 0,.int .u8 0,.int .u8 0,.int .u8 0,.nilFunc,.pointer none,.int .i32 0,.int .i32 0],false⟩),
 (318,⟨.st [(0,1,false),(1,1,false),(2,1,false),(3,1,false),(4,1,false),(5,1,false),(6,1,false),(7,1,false),(8,1,false),(9,1,false),(10,1,false)],11,48,[.int .u64 0,.int .u64 0,.int .u32 0,.int .u8 0,.int .u8 0,.int .u8 0,.int .u8 0,.nilFunc,.pointer none,.int .i32 0,.int .i32 0],false⟩)]++([1,30,32,33,34,35,42,43,48,50,52,53,54,55,56,57,60,61,62,63,66,79,80,82,83,89,90,91,92,93,97,98,99,100,101,102,103,104,106,107,108,109,110,111,112,113,114,115,116,117,118,119,120,121,122,123,124,125,126,129,130,131,132,133,134,135,136,137,138,139,143,145,146,154,155,156,157,162,163,164,165,166,168,171,172,176,179,180,181,182,183,184,185,186,188,189,190,192,194,197,199,202,203,206,207,208,209,211,212,213,215,216,217,219,220,221,222,223,224,226,227,229,231,232,233,235,236,237,238,240,241,242,245,246,247,248,249,251,253,254,255,256,257,258,259,260,261,264,265,269,272,273,274,275,277,278,279,281,282,283,284,286,288,289,291,294,295,296,304,314].map fun n=>(n,⟨.sc,1,8,[.nilFunc],false⟩))))))))))
def mdL:List (Nat×Nat):=[(112,0),(191,2),(191,90),(166,0),(82,0),(84,0),(85,0),(86,0),(161,0),(88,0),(89,0),(100,0),(101,0),(102,0),(243,0),(182,0),(183,0),(242,1)]
def US:List (Nat×Nat)->Nat->Nat->Bool
 | [],_,_=>false
 | (f,j)::r,f',j'=>match Nat.beq f f',Nat.beq j j' with
  | true,true=>true
  | _,_=>US r f' j'
def Env (S : Nat → Prop) (w : World) : Prop := S 0 ∧ S 1 ∧ (∃ m : Int, w.cell? ⟨0, 0, none⟩ = some (.int .i64 m)) ∧ Lib.TabIs Tryz.prog w "internal/strconv.uint64pow10" .u64 Lib.pow10Tab
theorem St : Tryz.prog.globalNamed "internal/strconv.uint64pow10" = some 1 := by kernel_rfl
theorem MO(S S':Nat->Prop)(w w':World)(h:Env S w)(hS:∀b,S b->S' b)(hk:∀b,S b->w'.heap[b]?=w.heap[b]?):Env S' w':=by
 obtain⟨D,I,⟨m,J⟩,z⟩:=h;refine⟨hS _ D,hS _ I,⟨m,(adP (hk _ D)).trans J⟩,?_⟩;unfold Lib.TabIs World.var? at z ⊢;simp only[St,Option.bind_some]at z ⊢;rw[hk _ I];exact z
noncomputable def C:Ctx:={ P:=Tryz.prog,T:=wq iq,md:=US mdL,E:=Env,bl:=fun f=>Nat.beq f 116||(Nat.beq f 120||Nat.beq f 121),bt:=fun t=>Nat.beq t 150,bn:=fun t=>Nat.beq t 161||(Nat.beq t 142||(Nat.beq t 69||(Nat.beq t 23||(Nat.beq t 74||Nat.beq t 85)))),bo:=fun t=>Nat.beq t 268,bf:=fun d=>Nat.beq d 87||(Nat.beq d 79||Nat.beq d 81) }
theorem hC1:iq.all (Wd Tryz.prog)=true:=by kernel_rfl
theorem hC2:iq.all (Sf Tryz.prog)=true:=by kernel_rfl
theorem hC3:iq.all (XF Tryz.prog)=true:=by kernel_rfl
theorem hC4:iq.all (Sl Tryz.prog)=true:=by kernel_rfl
theorem hC:bI C:=⟨Uz hC3,Se hC1,fun S S' w w' h hS hk _=>MO S S' w w' h hS hk,by kernel_rfl,Sj hC2,Pg hC4⟩
def i64(n:Int):PV:=.im (.int .i64 n)
def bool(b:Bool):PV:=.im (.bool b)
def rc(r:Reg.ae):List PV:=[i64 r.x0,i64 r.y0,i64 r.x1,i64 r.y1]
def sp(p:Int×Int):List PV:=[i64 p.1,i64 p.2]
def aj(l:List Reg.ae):PV:=.sl (l.map rc)
def ints(l:List Int):PV:=.sl (l.map fun n=>[i64 n])
def fD(l:Reg.aU):PV:=.sl (l.map sp)
variable {α:Type}
theorem Pn{l:List α}{i:Nat}{x:α}(f:α->List PV)(h:l[i]?=some x):(l.map f)[i]?=some (f x):=by rw[aak,h];rfl
open Reg (ae aU)
theorem G5(n lo hi:Int):af C 235 [.pv (i64 n),.pv (i64 lo),.pv (i64 hi)] (.p (bool (decide (lo<=n)&&decide (n<=hi)))) []:=by
 refine fW hC Tryz.func235 rfl (by kernel_rfl) fun _=>?_;apply iW<;>intro h<;>(refine⟨?_,trivial⟩)<;>simp[bool,h]
theorem nJ(n:Int):af C 164 [.pv (i64 n)] (.p (bool (Reg.kR n))) []:=by
 refine fW hC Tryz.func164 rfl (by kernel_rfl) fun _=>?_;refine⟨_,_,(G5 n (-1000000) 1000000),?_,trivial⟩;rfl
theorem Br(x y:Int):af C 244 [.pv (.ag [i64 x,i64 y])] (.p (bool (Reg.kR x&&Reg.kR y))) []:=by
 refine fW hC Tryz.func244 rfl (by kernel_rfl) fun _=>?_;refine⟨_,_,(nJ x),iW ?_ ?_⟩<;>intro h
 ·refine⟨_,_,(nJ y),?_,trivial⟩;simp[bool,h]
 refine⟨?_,trivial⟩;simp[bool,h]
theorem yL(a b:ae):af C 92 [.pv (.ag (rc a)),.pv (.ag (rc b))] (.p (bool (Reg.before a b))) []:=by
 refine fW hC Tryz.func92 rfl (by kernel_rfl) fun _=>?_;apply iW<;>intro h
 ·refine⟨?_,trivial⟩;simp[bool,Reg.before,h]
 apply iW<;>intro z<;>(refine⟨?_,trivial⟩)<;>simp[bool,Reg.before,h,z]
def aL(l:aU)(x:Int):Bool:=l.any fun p=>decide (p.1<=x)&&decide (x<p.2)
theorem aZ{l:List α}{i:Nat}{r:α}(h:l[i]?=some r):l.take (i+1)=l.take i++[r]:=by rw[ad2,h];rfl
theorem ak{l:List α}{i:Nat}(h:i<l.length):∃p,l[i]?=some p:=⟨l[i],acg h⟩
theorem idx{l:List α}{f:α->List PV}{i:Int}{k:Nat}{x:α}(h:i=k)(z:l[k]?=some x):0<=i/\(l.map f)[i.toNat]?=some (f x):=by
 subst h;exact⟨by omega,by rw[aaS];exact Pn f z⟩
theorem a8{a b:Int}(h:a=b):AV.p (i64 a)=AV.p (i64 b):=by rw[h]
theorem ai(l:List α)(f:α->List PV):(l.map f).length=l.length:=aej ..
theorem sI(l:aU)(x:Int)(hl:l.length<=140737488355328):af C 212 [.pv (fD l),.pv (i64 x)] (.p (bool (aL l x))) []:=by
 refine fW hC Tryz.func212 rfl (by kernel_rfl) fun _=>?_;refine aJ (fun i:Nat=>i<=l.length/\aL (l.take i) x=false) (fun i=>[(0,.p (fD l)),(1,.p (i64 x)),(5,.p (i64 i))]) (fun _=>[]) (fun i=>l.length-i) 0 _ (au.refl _ _) ⟨aaj _,rfl⟩ ⟨Z,Z,Z,Y⟩ trivial fun i hi t h=>?_;apply iW<;>intro z
 ·simp only[aej]at z;obtain⟨p,hp⟩:=ak (l:=l) (i:=i) (by omega);refine⟨(sp p),(idx rfl hp),iW ?_ ?_⟩<;>intro D
  ·refine⟨(sp p),(idx rfl hp),iW ?_ ?_⟩<;>intro I
   ·refine⟨?_,trivial⟩;have:aL l x=true:=by
     unfold aL;rw[aci];exact⟨p,aad hp,by simp[D,I]⟩
    simp[bool,this]
   refine⟨wO (by omega),(i+1),_,au.refl _ _,⟨by omega,?_⟩,by omega,⟨Z,Z,Z,Y⟩,trivial⟩;rw[aZ hp];simp only[aL]at hi;simp[aL,hi.2,I]
  refine⟨wO (by omega),(i+1),_,au.refl _ _,⟨by omega,?_⟩,by omega,⟨Z,Z,Z,Y⟩,trivial⟩;rw[aZ hp];simp only[aL]at hi;simp[aL,hi.2,D]
 refine⟨?_,trivial⟩;simp only[aej]at z;have J:l.take i=l:=adW (by omega);rw[J]at hi;simp[bool,hi.2]
theorem MP(x:Int):∀(l:List Int) (lo:Nat),(∀k y,k<lo->l[k]?=some y->y<x)->l[lo]?=some x->Reg.put l x=l:=by
 intro l
 induction l with
 | nil=>intro lo _ h;simp at h
 | cons a l ih=>
  intro lo D z;cases lo with
  | zero=>
   simp at z;subst z;simp[Reg.put]
  | succ lo=>
   have I:a<x:=D 0 a (by omega) rfl;rw[Reg.put,aap I,ih lo (fun k y hk J=>D (k+1) y (by omega) (by simpa using J)) (by simpa using z)]
theorem Po(x:Int):∀(l:List Int) (lo:Nat),lo<=l.length->(∀k y,k<lo->l[k]?=some y->y<x)->(∀y,l[lo]?=some y->x<y)->Reg.put l x=l.take lo++[x]++l.drop lo:=by
 intro l
 induction l with
 | nil=>intro lo z _ _;simp at z;subst z;simp[Reg.put]
 | cons a l ih=>
  intro lo z I J;cases lo with
  | zero=>
   have L:=J a rfl;rw[Reg.put,aaa (by omega),aaa (by omega)];simp
  | succ lo=>
   have L:a<x:=I 0 a (by omega) rfl;rw[Reg.put,aap L,ih lo (by simpa using z) (fun k y hk D=>I (k+1) y (by omega) (by simpa using D)) (fun y D=>J y (by simpa using D))];simp
theorem jL{l:List Int}(h:Reg.bF l){i j:Nat}{a b:Int}(z:l[i]?=some a)(hb:l[j]?=some b)(DX:i<=j):a<=b:=by
 by_cases e:i=j
 ·subst e;rw[z]at hb;injection hb with hb;omega
 have hi:=(aao.1 z);have D:=(aao.1 hb);obtain⟨I,Jw⟩:=hi;obtain⟨J,Ro⟩:=D;have:=(abk.1 h) i j I J (by omega);omega
theorem iH(x:Int):∀(l:List Int),(Reg.put l x).length<=l.length+1:=by
 intro l
 induction l with
 | nil=>simp[Reg.put]
 | cons a l ih=>
  rw[Reg.put];split
  ·simp;omega
  split<;>simp
theorem CU(l:List ae)(r:ae):Reg.aE (l++[r])=Reg.put (Reg.put (Reg.aE l) r.y0) r.y1:=by
 unfold Reg.aE;rw[abZ];rfl
theorem Km{l:List ae}{k:Nat}{r:ae}(h:l[k]?=some r):l.take (k+1)=l.take k++[r]:=by
 rw[ad2,h];rfl
theorem CV{l:List ae}{k:Nat}{r:ae}(h:l[k]?=some r):Reg.aE (l.take (k+1))=Reg.put (Reg.put (Reg.aE (l.take k)) r.y0) r.y1:=by
 rw[Km h,CU]
theorem ae9(l:List ae):Reg.bF (Reg.aE l):=(Reg.cT l).1
theorem dt(l:List Int):∀r∈(l.map fun n=>[i64 n]),r.length=1:=by
 intro r z;obtain⟨n,_,rfl⟩:=adS.1 z;rfl
theorem mq{a b:Nat}:((a:Int)+(b:Int)).tdiv 2=((a+b) / 2:Nat):=by
 rw[aco (by omega)];omega
theorem gJ{es:List (List PV)}{n a b:Nat}(h:∀r∈es,r.length=n):∀r∈(es.take b).drop a,r.length=n:=fun r z=>h r (acM (abq z))
theorem ru(l:List Int)(x:Int)(U:Reg.bF l)(hN:l.length<=10000000000000):af C 236 [.pv (ints l),.pv (i64 x)] (.p (ints (Reg.put l x))) []:=by
 refine fW hC Tryz.func236 rfl (by kernel_rfl) fun _=>?_;refine aJ (fun p:Nat×Nat=>p.1<=p.2/\p.2<=l.length/\(∀k y,k<p.1->l[k]?=some y->y<x)/\(∀k y,p.2<=k->l[k]?=some y->x<=y)) (fun p=>[(0,.p (ints l)),(1,.p (i64 x)),(5,.p (i64 p.1)),(6,.p (i64 p.2))]) (fun _=>[]) (fun p=>p.2-p.1) (0,l.length) _ (au.refl _ _) ⟨aaj _,aam _,fun k y h=>by omega,fun k y V L=>?_⟩ ⟨rfl,rfl,rfl,a8 (by rw[ai]),trivial⟩ trivial fun ⟨lo,hi⟩ xB t h=>?_
 ·rw[abI (by omega)]at L;cases L
 obtain⟨q1,O,N,R⟩:=xB;simp only at q1 O N R;have lm:=ai l fun n=>[i64 n];apply iW<;>intro V<;>try simp only[zB]at V
 ·refine⟨wO (by omega),by decide,⟨?_,?_⟩,?_⟩
  ·rw[mq];omega
  ·rw[mq];omega
  obtain⟨y,J⟩:=ak (l:=l) (i:=(lo+hi) / 2) (by omega);refine⟨[i64 y],(idx mq J),iW ?_ ?_⟩<;>intro L
  ·refine⟨⟨by rw[mq];omega,by rw[mq];omega⟩,((lo+hi) / 2+1,hi),_,au.refl _ _,⟨by simp only;omega,O,fun k z hk D=>?_,R⟩,by simp only;omega,⟨rfl,rfl,a8 (by rw[mq];rfl),Z,Y⟩,trivial⟩;exact Int.lt_of_le_of_lt (jL U D J (by simp only at hk;omega)) L
  refine⟨(lo,(lo+hi) / 2),_,au.refl _ _,⟨by simp only;omega,by simp only;omega,N,fun k z hk D=>?_⟩,by simp only;omega,⟨rfl,rfl,rfl,a8 mq,trivial⟩,trivial⟩;have:=jL U J D hk;omega
 have e:lo=hi:=by omega
 subst e;have I:(∀y,l[lo]?=some y->y≠x)->Reg.put l x=l.take lo++[x]++l.drop lo:=fun b8=>Po x l lo O N fun y J=>by
  have h5:=R lo y (aam _) J;have h6:=b8 y J;omega
 apply iW<;>intro L<;>try simp only[zB]at L
 ·rw[lm]at L;obtain⟨y,J⟩:=ak (l:=l) (i:=lo) (by omega);refine⟨[i64 y],(idx rfl J),iW ?_ ?_⟩<;>intro W
  ·refine⟨?_,trivial⟩;rw[MP x l lo N (by rw[J,W])]
  have hp:=I fun z D=>by rw[J]at D;injection D with D;subst D;exact W
  refine⟨⟨by decide,by omega,by rw[lm];omega,dt l⟩,⟨gJ (dt l),by simp only[aaN,aat,lm];omega,by simp only[aaN,aat,lm];omega⟩,⟨by simp,by simp[lm];omega,by simp[lm];omega⟩,⟨by omega,by rw[lm];omega,by omega,dt l⟩,⟨gJ (dt l),by simp[lm];omega,by simp[lm];omega⟩,?_,trivial⟩;rw[hp];simp[ints,acb,acX,i64];rw[adW (by simp)]
 have hp:=I fun z D=>by rw[abI (by omega)]at D;cases D
 refine⟨⟨by decide,by omega,by rw[lm];omega,dt l⟩,⟨gJ (dt l),by simp only[aaN,aat,lm];omega,by simp only[aaN,aat,lm];omega⟩,⟨by simp,by simp[lm];omega,by simp[lm];omega⟩,⟨by omega,by rw[lm];omega,by omega,dt l⟩,⟨gJ (dt l),by simp[lm];omega,by simp[lm];omega⟩,?_,trivial⟩;rw[hp];simp[ints,acb,acX,i64];rw[adW (by simp)]
theorem oc{l:List ae}{k:Nat}{r:ae}(h:l[k]?=some r):Reg.dU (l.drop k)=if Reg.c7 r=true then (if r.x1<=r.x0\/r.y1<=r.y0 then 13 else Reg.dU (l.drop (k+1))) else 1:=by
 obtain⟨a,b⟩:=aao.1 h;rw[ab1 a,b];rfl
theorem yM(l:List ae):af C 91 [.pv (aj l)] (.p (i64 (Reg.cz l))) []:=by
 refine fW hC Tryz.func91 rfl (by kernel_rfl) fun _=>?_;have lm:=ai l rc;apply iW<;>intro I
 ·rw[lm]at I;refine⟨?_,trivial⟩;rw[Reg.cz,aap (by omega)];rfl
 rw[lm]at I;have D:Reg.cz l=Reg.dU l:=by rw[Reg.cz,aaa (by omega)]
 refine aJ (fun i:Nat=>i<=l.length/\Reg.dU l=Reg.dU (l.drop i)) (fun i=>[(0,.p (aj l)),(3,.p (i64 i))]) (fun _=>[]) (fun i=>l.length-i) 0 _ (au.refl _ _) ⟨aaj _,rfl⟩ ⟨Z,Z,Y⟩ trivial fun i hi t h=>?_;apply iW<;>intro J
 ·rw[lm]at J;obtain⟨r,L⟩:=ak (l:=l) (i:=i) (by omega);have z:=oc L;refine⟨(rc r),(idx rfl L),_,_,(nJ r.x0),iW ?_ ?_⟩<;>intro N
  ·refine⟨?_,trivial⟩;rw[D,hi.2,z,aaa (by simp[Reg.c7,N])];rfl
  refine⟨_,_,(nJ r.y0),iW ?_ ?_⟩<;>intro O
  ·refine⟨?_,trivial⟩;rw[D,hi.2,z,aaa (by simp[Reg.c7,O])];rfl
  refine⟨_,_,(nJ r.x1),iW ?_ ?_⟩<;>intro R
  ·refine⟨?_,trivial⟩;rw[D,hi.2,z,aaa (by simp[Reg.c7,R])];rfl
  refine⟨_,_,(nJ r.y1),iW ?_ ?_⟩<;>intro U
  ·refine⟨?_,trivial⟩;rw[D,hi.2,z,aaa (by simp[Reg.c7,U])];rfl
  have V:Reg.c7 r=true:=by simp[Reg.c7,N,O,R,U]
  rw[aap V]at z;apply iW<;>intro e1
  ·refine⟨?_,trivial⟩;rw[D,hi.2,z,aap (.inl e1)];rfl
  apply iW<;>intro e2
  ·refine⟨?_,trivial⟩;rw[D,hi.2,z,aap (.inr e2)];rfl
  refine⟨wO (by omega),(i+1),_,au.refl _ _,⟨by omega,?_⟩,by omega,⟨Z,Z,Y⟩,trivial⟩;rw[hi.2,z,aaa (by omega)]
 rw[lm]at J;refine⟨?_,trivial⟩;rw[D,hi.2,aaz (by omega)];rfl
theorem rv{l m:List α}{k:Nat}{r t:α}(h:l[k]?=some r)(h':m[k]?=some t):(l.drop k=m.drop k)↔(r=t/\l.drop (k+1)=m.drop (k+1)):=by
 obtain⟨a,b⟩:=aao.1 h;obtain⟨z,D⟩:=aao.1 h';rw[ab1 a,ab1 z,b,D,List.cons.injEq]
theorem Az(l m:List ae)(hN:l.length<=140737488355328):af C 12 [.pv (aj l),.pv (aj m)] (.p (bool (decide (l=m)))) []:=by
 refine fW hC Tryz.func12 rfl (by kernel_rfl) fun _=>?_;have lm:=ai l rc;have I:=ai m rc;apply iW<;>intro D
 ·rw[lm,I]at D;refine⟨?_,trivial⟩;rw[aaC (fun e:l=m=>D (by rw[e]))];rfl
 rw[lm,I]at D;refine aJ (fun i:Nat=>i<=l.length/\(l=m↔l.drop i=m.drop i)) (fun i=>[(0,.p (aj l)),(1,.p (aj m)),(5,.p (i64 i))]) (fun _=>[]) (fun i=>l.length-i) 0 _ (au.refl _ _) ⟨aaj _,aaT⟩ ⟨Z,Z,Z,Y⟩ trivial fun i hi t h=>?_;apply iW<;>intro J
 ·rw[lm]at J;obtain⟨r,L⟩:=ak (l:=l) (i:=i) (by omega);obtain⟨q,N⟩:=ak (l:=m) (i:=i) (by omega);have O:=rv L N;refine⟨(rc r),(idx rfl L),(rc q),(idx rfl N),?_⟩;have R:=Reg.ae.yK r q;apply iW<;>intro z<;>try simp only[zB]at z
  ·refine⟨?_,trivial⟩;rw[aaC];rfl;rw[hi.2,O,R];simp only[abF,acd]at z;intro ⟨⟨e1,e2,U,V⟩,_⟩;simp[e1,e2,U,V]at z
  refine⟨wO (by omega),(i+1),_,au.refl _ _,⟨by omega,?_⟩,by omega,⟨Z,Z,Z,Y⟩,trivial⟩;rw[hi.2,O,R];simp[aaH]at z;exact and_iff_right z
 refine⟨?_,trivial⟩;rw[lm]at J;rw[aaA];rfl;rw[hi.2,aaz (by omega),aaz (by omega)]
theorem wA{l:aU}{a b:Int}:∀(k:Nat),(∀i p,i<k->l[i]?=some p->p.2<a)->k<=l.length->Reg.dG l a b=l.take k++Reg.dG (l.drop k) a b:=by
 induction l with
 | nil=>intro k _ hk;simp at hk;subst hk;simp
 | cons p l ih=>
  intro k h hk;cases k with
  | zero=>simp
  | succ k=>
   have hp:p.2<a:=h 0 p (by omega) rfl;rw[Reg.dG,aap hp,ih k (fun i q hi z=>h (i+1) q (by omega) (by simpa using z)) (by simpa using hk)];simp
theorem rT{l:aU}{a b:Int}(h:∀p,l[0]?=some p->¬(p.2<a)):Reg.dG l a b=Reg.ic l a b:=by
 cases l with
 | nil=>rfl
 | cons p l=>rw[Reg.dG,aaa (h p rfl)]
theorem dm(l:List ae):(Reg.aE l).length<=2*l.length:=by
 unfold Reg.aE
 suffices h:∀(o:List Int),(l.foldl (fun out r=>Reg.put (Reg.put out r.y0) r.y1) o).length<=o.length+2*l.length by
  have:=h [];simpa using this
 induction l with
 | nil=>intro o;simp
 | cons r l ih=>
  intro o;have h1:=ih (Reg.put (Reg.put o r.y0) r.y1);have h2:=iH r.y0 o;have h3:=iH r.y1 (Reg.put o r.y0);simp only[aaq,aaB];omega
theorem wB(l:List ae)(hN:l.length<=4398046511104):af C 165 [.pv (aj l)] (.p (ints (Reg.aE l))) []:=by
 refine fW hC Tryz.func165 rfl (by kernel_rfl) fun _=>?_;have lm:=ai l rc;refine aJ (fun i:Nat=>i<=l.length) (fun i=>[(0,.p (aj l)),(3,.p (ints (Reg.aE (l.take i)))),(4,.p (i64 i))]) (fun _=>[]) (fun i=>l.length-i) 0 _ (au.nil hC _ 3 rfl) (aaj _) ⟨Z,Z,Z,Y⟩ trivial fun i hi t h=>?_;apply iW<;>intro D
 ·rw[lm]at D;obtain⟨r,z⟩:=ak (l:=l) (i:=i) (by omega);have hL:=dm (l.take i);have OV:=acA i l;refine⟨(rc r),(idx rfl z),?_⟩;have V7:=iH r.y0 (Reg.aE (l.take i));refine⟨_,_,(ru _ r.y0 (ae9 _) (by omega)),(rc r),(idx rfl z),_,_,(ru _ r.y1 (Reg.iG _ _ (ae9 _)) (by omega)),wO (by omega),(i+1),_,au.refl _ _,by omega,by omega,⟨rfl,?_,Z,Y⟩,trivial⟩;rw[CV z];rfl
 rw[lm]at D;refine⟨?_,trivial⟩;rw[adW (by omega)]
theorem Su(a b:Int×Int):a=b↔a.1=b.1/\a.2=b.2:=Prod.ext_iff
theorem AA(l m:aU)(hN:l.length<=140737488355328):af C 237 [.pv (fD l),.pv (fD m)] (.p (bool (decide (l=m)))) []:=by
 refine fW hC Tryz.func237 rfl (by kernel_rfl) fun _=>?_;have lm:=ai l sp;have I:=ai m sp;apply iW<;>intro D
 ·rw[lm,I]at D;refine⟨?_,trivial⟩;rw[aaC (fun e:l=m=>D (by rw[e]))];rfl
 rw[lm,I]at D;refine aJ (fun i:Nat=>i<=l.length/\(l=m↔l.drop i=m.drop i)) (fun i=>[(0,.p (fD l)),(1,.p (fD m)),(5,.p (i64 i))]) (fun _=>[]) (fun i=>l.length-i) 0 _ (au.refl _ _) ⟨aaj _,aaT⟩ ⟨Z,Z,Z,Y⟩ trivial fun i hi t h=>?_;apply iW<;>intro J
 ·rw[lm]at J;obtain⟨r,L⟩:=ak (l:=l) (i:=i) (by omega);obtain⟨q,N⟩:=ak (l:=m) (i:=i) (by omega);have O:=rv L N;refine⟨(sp r),(idx rfl L),(sp q),(idx rfl N),?_⟩;have R:=Su r q;apply iW<;>intro z<;>try simp only[zB]at z
  ·refine⟨?_,trivial⟩;rw[aaC];rfl;rw[hi.2,O,R];simp only[abF,acd]at z;intro ⟨⟨e1,e2⟩,_⟩;simp[e1,e2]at z
  refine⟨wO (by omega),(i+1),_,au.refl _ _,⟨by omega,?_⟩,by omega,⟨Z,Z,Z,Y⟩,trivial⟩;rw[hi.2,O,R];simp[aaH]at z;exact and_iff_right z
 refine⟨?_,trivial⟩;rw[lm]at J;rw[aaA];rfl;rw[hi.2,aaz (by omega),aaz (by omega)]
theorem II(l:aU):∀r∈l.map sp,r.length=2:=by
 intro r z;obtain⟨n,_,rfl⟩:=adS.1 z;rfl
theorem Er{l:aU}{k:Nat}{p:Int×Int}{a b:Int}(h:l[k]?=some p):Reg.ic (l.drop k) a b=if p.1<=b then Reg.ic (l.drop (k+1)) (min a p.1) (max b p.2) else (a,b)::l.drop k:=by
 obtain⟨z,D⟩:=aao.1 h;rw[ab1 z,D];rfl
theorem ae_(l:aU)(a b:Int)(hN:l.length<=8796093022207):af C 238 [.pv (fD l),.pv (.ag (sp (a,b)))] (.p (fD (Reg.dG l a b))) []:=by
 refine uX ⟨[],[0,2],[],[],[(7,[true,true,true,true,true,true,true,true,true,true,true,true,false,true,false,true,true,false,true,true])],[]⟩ hC Tryz.func238 rfl (by kernel_rfl) fun _=>?_;have lm:=ai l sp;refine p7 (fun i:Nat=>i<=l.length/\Reg.dG l a b=l.take i++Reg.ic (l.drop i) a b) (fun i=>[(0,.p (fD l)),(3,.bx 3 0),(5,.ow 5),(6,.p (i64 i))]) (fun i=>[(3,.box [.p (i64 a),.p (i64 b)]),(5,.row 263 ((l.take i).map sp))]) (fun i hi t h=>?_) ?_
 ·obtain⟨V,W⟩:=hi;have lt:=acA i l;refine p7 (fun y:Nat×Int×Int=>(i<=y.1/\y.1<=l.length)/\Reg.dG l a b=l.take i++(y.2.1,y.2.2)::l.drop y.1) (fun y=>[(0,.p (fD l)),(3,.bx 3 0),(5,.ow 5),(6,.p (i64 y.1))]) (fun y=>[(3,.box [.p (i64 y.2.1),.p (i64 y.2.2)]),(5,.row 263 ((l.take i).map sp))]) (fun y U t h=>?_) ?_
  ·obtain⟨k,L,N⟩:=y;obtain⟨O,D⟩:=U;simp only at O D;refine⟨⟨by simp,by simp;omega,by simp;omega⟩,⟨by omega,by rw[lm];omega,by omega,II l⟩,⟨gJ (II l),by simp[lm];omega,by simp[lm];omega⟩,?_,trivial⟩;rw[D];simp[fD,acb,acX,sp,i64];rw[adW (by simp)]
  refine aJ (fun y:Nat×Int×Int=>(i<=y.1/\y.1<=l.length)/\Reg.dG l a b=l.take i++Reg.ic (l.drop y.1) y.2.1 y.2.2) (fun y=>[(0,.p (fD l)),(3,.bx 3 0),(5,.ow 5),(6,.p (i64 y.1))]) (fun y=>[(3,.box [.p (i64 y.2.1),.p (i64 y.2.2)]),(5,.row 263 ((l.take i).map sp))]) (fun y=>l.length-y.1) (i,a,b) _ (au.refl _ _) ⟨⟨aam _,V⟩,W⟩ ⟨Z,Z,Z,Z,Y⟩ ⟨Z,Z,Y⟩ fun y U t h=>?_;obtain⟨k,L,N⟩:=y;obtain⟨O,D⟩:=U;simp only at O D;apply iW<;>intro I<;>try simp only[zB]at I
  ·rw[lm]at I;obtain⟨r,z⟩:=ak (l:=l) (i:=k) (by omega);have R:=Er (a:=L) (b:=N) z;refine⟨(sp r),(idx rfl z),iW ?_ ?_⟩<;>intro J<;>try simp only[zB]at J
   ·rw[aap J]at R;exact⟨(sp r),(idx rfl z),(sp r),(idx rfl z),wO (by omega),(k+1,min L r.1,max N r.2),_,au.refl _ _,⟨by simp only;omega,by rw[D,R]⟩,by simp only;omega,⟨Z,Z,Z,Z,Y⟩,⟨Z,Z,Y⟩⟩
   rw[aaa J]at R;exact⟨(k,L,N),⟨O,by rw[D,R]⟩,⟨Z,Z,Z,Z,Y⟩,⟨Z,Z,Y⟩⟩
  rw[lm]at I;refine⟨(k,L,N),⟨O,?_⟩,⟨Z,Z,Z,Z,Y⟩,⟨Z,Z,Y⟩⟩;rw[D,aaz (show l.length<=k by omega)];rfl
 refine aJ (fun i:Nat=>i<=l.length/\∀k p,k<i->l[k]?=some p->p.2<a) (fun i=>[(0,.p (fD l)),(3,.bx 3 0),(5,.ow 5),(6,.p (i64 i))]) (fun i=>[(3,.box [.p (i64 a),.p (i64 b)]),(5,.row 263 ((l.take i).map sp))]) (fun i=>l.length-i) 0 _ (au.dk hC _ 5 263 _ (by decide) rfl rfl (by decide)) ⟨aaj _,fun k p h=>by omega⟩ ⟨Z,Z,Z,Z,Y⟩ ⟨Z,Z,Y⟩ fun i hi t h=>?_;have lt:=acA i l;apply iW<;>intro I
 ·rw[lm]at I;obtain⟨r,z⟩:=ak (l:=l) (i:=i) (by omega);refine⟨(sp r),(idx rfl z),iW ?_ ?_⟩<;>intro J
  ·refine⟨(sp r),(idx rfl z),⟨by simp[sp],by simp;omega,by simp;omega⟩,wO (by omega),(i+1),_,au.refl _ _,⟨by omega,fun k p hk hp=>?_⟩,by omega,⟨Z,Z,Z,Z,Y⟩,⟨rfl,?_,trivial⟩⟩
   ·by_cases e:k=i
    ·subst e;rw[z]at hp;injection hp with hp;rw[<-hp];exact J
    exact hi.2 k p (by omega) hp
   rw[aZ z,abE];rfl
  refine⟨i,⟨hi.1,?_⟩,⟨Z,Z,Z,Z,Y⟩,⟨Z,Z,Y⟩⟩;rw[wA i hi.2 hi.1,rT];intro p hp;rw[aas,abQ,z]at hp;injection hp with hp;rw[<-hp];exact J
 rw[lm]at I;refine⟨i,⟨hi.1,?_⟩,⟨Z,Z,Z,Z,Y⟩,⟨Z,Z,Y⟩⟩;rw[wA i hi.2 hi.1,rT];intro p hp;rw[abI (by simp;omega)]at hp;cases hp
open Reg (an)
theorem AD:∀(l:aU) (a b:Int),(Reg.ic l a b).length<=l.length+1:=by
 intro l
 induction l with
 | nil=>intro a b;simp[Reg.ic]
 | cons p l ih=>
  intro a b;rw[Reg.ic];split
  ·have:=ih (min a p.1) (max b p.2);simp only[aaB];omega
  simp
theorem rU:∀(l:aU) (a b:Int),(Reg.dG l a b).length<=l.length+1:=by
 intro l
 induction l with
 | nil=>intro a b;simp[Reg.dG]
 | cons p l ih=>
  intro a b;rw[Reg.dG];split
  ·have:=ih a b;simp only[aaB];omega
  exact AD _ a b
theorem mw{l:List ae}{i:Nat}{r:ae}(y:Int)(h:l[i]?=some r):Reg.rowOf (l.take (i+1)) y=if r.y0<=y/\y<r.y1 then Reg.dG (Reg.rowOf (l.take i) y) r.x0 r.x1 else Reg.rowOf (l.take i) y:=by
 rw[aZ h];unfold Reg.rowOf;rw[abU,abZ];by_cases z:r.y0<=y/\y<r.y1
 ·rw[aap z];simp[z.1,z.2]
 rw[aaa z];have:(decide (r.y0<=y)&&decide (y<r.y1))=false:=by simpa using fun D I=>z ⟨D,I⟩
 simp[this]
theorem yN(l:List ae)(y:Int):∀i,i<=l.length->(Reg.rowOf (l.take i) y).length<=i:=by
 intro i
 induction i with
 | zero=>intro _;simp[Reg.rowOf]
 | succ i ih=>
  intro hi;obtain⟨r,z⟩:=ak (l:=l) (i:=i) (by omega);rw[mw y z];have h1:=ih (by omega);have h2:=rU (Reg.rowOf (l.take i) y) r.x0 r.x1;split<;>omega
theorem fQ(l:List ae)(y:Int):(Reg.rowOf l y).length<=l.length:=by
 have:=yN l y l.length (aam _)
 rwa [acB]at this
theorem xK(l:List ae)(y:Int)(hN:l.length<=4398046511104):af C 167 [.pv (aj l),.pv (i64 y)] (.p (fD (Reg.rowOf l y))) []:=by
 refine fW hC Tryz.func167 rfl (by kernel_rfl) fun _=>?_;have lm:=ai l rc;refine aJ (fun i:Nat=>i<=l.length) (fun i=>[(0,.p (aj l)),(1,.p (i64 y)),(5,.p (fD (Reg.rowOf (l.take i) y))),(6,.p (i64 i))]) (fun _=>[]) (fun i=>l.length-i) 0 _ (au.nil hC _ 5 rfl) (aaj _) ⟨Z,Z,Z,Z,Y⟩ trivial fun i hi t h=>?_;apply iW<;>intro I
 ·rw[lm]at I;obtain⟨r,D⟩:=ak (l:=l) (i:=i) (by omega);have z:=mw y D;have hL:=yN l y i hi;refine⟨(rc r),(idx rfl D),iW ?_ ?_⟩<;>intro J
  ·refine⟨(rc r),(idx rfl D),iW ?_ ?_⟩<;>intro L
   ·rw[aap ⟨J,L⟩]at z;exact⟨(rc r),(idx rfl D),(rc r),(idx rfl D),_,_,(ae_ _ r.x0 r.x1 (by omega)),wO (by omega),(i+1),_,au.refl _ _,by omega,by omega,⟨rfl,rfl,by rw[z];rfl,Z,Y⟩,trivial⟩
   rw[aaa (fun h=>L h.2)]at z;exact⟨wO (by omega),(i+1),_,au.refl _ _,by omega,by omega,⟨rfl,rfl,by rw[z];rfl,Z,Y⟩,trivial⟩
  rw[aaa (fun h=>J h.1)]at z;exact⟨wO (by omega),(i+1),_,au.refl _ _,by omega,by omega,⟨rfl,rfl,by rw[z];rfl,Z,Y⟩,trivial⟩
 rw[lm]at I;refine⟨?_,trivial⟩;rw[adW (by omega)]
theorem tP(l:List ae)(x y:Int)(z:l.length<=4398046511104):af C 152 [.pv (aj l),.pv (.ag [i64 x,i64 y])] (.p (bool (aL (Reg.rowOf l y) x))) []:=by
 refine fW hC Tryz.func152 rfl (by kernel_rfl) fun _=>?_;have hL:=fQ l y;refine⟨_,_,(xK l y z),_,_,(sI _ x (by omega)),?_,trivial⟩;rfl
def bd(b:an):List PV:=[i64 b.y0,i64 b.y1,fD b.xs]
theorem tQ{l:List α}{n:Nat}{x:α}(z:l.length=n+1)(h:l[n]?=some x):l.getLast?=some x:=by
 rw[ad3,z];exact h
theorem wC(l:List an)(b:an)(hN:l.length<=3000000000000)(W:∀t∈l,t.xs.length<=10000000000000):af C 166 [.row 196 (l.map bd),.pv (.ag (bd b))] (.own 196 ((Reg.cA l b).map bd)) [.gone]:=by
 refine fW hC Tryz.func166 rfl (by kernel_rfl) fun _=>?_;have lm:=ai l bd;have O:=ai b.xs sp;have done:∀z:List an,z=Reg.cA l b->AB.row 196 (z.map bd)=AB.row 196 ((Reg.cA l b).map bd):=fun z e=>by rw[e]
 apply iW<;>intro L
 ·rw[O]at L;have J:b.xs=[]:=adl (by omega);exact⟨done l (by rw[Reg.cA,aap J]),Z,Y⟩
 rw[O]at L;have J:b.xs≠[]:=fun e=>L (by rw[e];rfl);have D:l++[b]=Reg.cA l b->AB.row 196 (l.map bd++[bd b])=AB.row 196 ((Reg.cA l b).map bd):=fun e=>by rw[<-e,abE];rfl
 apply iW<;>intro R
 ·rw[lm]at R;obtain⟨m,N⟩:∃m,l.length=m+1:=⟨l.length-1,by omega⟩;have hi:((l.map bd).length:Int)-1=(m:Nat):=by rw[lm];omega
  have hp:Reg.cA l b=match l.getLast? with
   | some t=>if t.y1=b.y0/\t.xs=b.xs then l.dropLast++[⟨t.y0,b.y1,t.xs⟩] else l++[b]
   | none=>[b]:=by rw[Reg.cA,aaa J]<;>rfl
  obtain⟨t,I⟩:=ak (l:=l) (i:=m) (by omega);rw[tQ N I]at hp;simp only at hp;refine⟨⟨by rw[lm];omega,by rw[lm];omega⟩,⟨by rw[hi];omega,by rw[hi,lm];omega⟩,(bd t),(idx hi I).2,iW ?_ ?_⟩<;>intro U
  ·refine⟨⟨by rw[lm];omega,by rw[lm];omega⟩,⟨by rw[hi];omega,by rw[hi,lm];omega⟩,(bd t),(idx hi I).2,_,_,(AA t.xs b.xs (by have:=W t (aad I);omega)),iW ?_ ?_⟩<;>intro V
   ·refine⟨⟨by rw[lm];omega,by rw[lm];omega⟩,⟨by rw[hi];omega,by rw[hi,lm];omega⟩,(bd t),(idx hi I).2,?_⟩;rw[aap ⟨U,V⟩]at hp;have mT:∀k:Nat,k=m->AB.row 196 ((l.map bd).set k [i64 t.y0,i64 b.y1,fD t.xs])=AB.row 196 ((Reg.cA l b).map bd):=by
     intro k e;subst e;rw[hp];obtain⟨d,hd⟩:=adG.1 (tQ N I);subst hd;have hk:k=d.length:=by simp at N;omega
     subst hk;simp[bd]
    exact⟨mT _ (by rw[hi];rfl),Z,Y⟩
   rw[aaa (fun h=>V h.2)]at hp;exact⟨⟨by simp,by simp;omega,by simp;omega⟩,D hp.symm,Z,Y⟩
  rw[aaa (fun h=>U h.1)]at hp;exact⟨⟨by simp,by simp;omega,by simp;omega⟩,D hp.symm,Z,Y⟩
 rw[lm]at R;have hl:l=[]:=adl (by omega);exact⟨⟨by simp,by simp;omega,by simp;omega⟩,D (by subst hl;rw[Reg.cA,aaa J];rfl),Z,Y⟩
theorem jM{s:List an}{i:Nat}{b:an}(h:s[i]?=some b):Reg.told (s.take (i+1))=Reg.told (s.take i)++b.xs.map fun p=>⟨p.1,b.y0,p.2,b.y1⟩:=by
 rw[aZ h];simp[Reg.told]
theorem nq(s:List an)(z:∀t∈s,t.xs.length<=1000000):(Reg.told s).length<=s.length*1000000:=by
 induction s with
 | nil=>simp[Reg.told]
 | cons b s ih=>
  have h1:=z b (by simp);have D:=ih fun t I=>z t (by simp[I]);simp only[Reg.told,abz,acv,aej,aaB]at D ⊢;simp only[abR];omega
theorem xL{r:List PV}{n:Nat}(h:r.length=n):∀r'∈[r],r'.length=n:=fun r' z=>by rw[ab_.1 z];exact h
def ig(b:an)(k:Nat):List ae:=(b.xs.take k).map fun p=>⟨p.1,b.y0,p.2,b.y1⟩
theorem Es(l:List an)(hN:l.length<=3000000000000)(I:∀t∈l,t.xs.length<=10000000000000)(hT:(Reg.told l).length<=4398046511104):af C 168 [.pv (.sl (l.map bd))] (.p (aj (Reg.told l))) []:=by
 refine uX ⟨[],[2],[],[8],[],[]⟩ hC Tryz.func168 rfl (by kernel_rfl) fun _=>?_;have lm:=ai l bd;have J:∀i,(Reg.told (l.take i)).length<=(Reg.told l).length:=fun i=>by
  have e:Reg.told l=Reg.told (l.take i)++Reg.told (l.drop i):=by
   unfold Reg.told;rw[<-acp,aaU]
  rw[e,acv];omega
 refine aJ (fun i:Nat=>i<=l.length) (fun i=>[(0,.p (.sl (l.map bd))),(3,.ow 3),(4,.p (i64 i))]) (fun i=>[(3,.row 87 ((Reg.told (l.take i)).map rc))]) (fun i=>l.length-i) 0 _ (au.dk hC _ 3 87 _ (by decide) rfl rfl (by decide)) (aaj _) ⟨Z,Z,Z,Y⟩ ⟨Z,Y⟩ fun i hi t h=>?_;apply iW<;>intro z
 ·rw[lm]at z;obtain⟨b,hb⟩:=ak (l:=l) (i:=i) (by omega);have bm:=ai b.xs sp;have hb':=I b (aad hb);have L:=J (i+1);rw[jM hb,acv,aej]at L;refine p7 (fun _:Unit=>True) (fun _=>[(0,.p (.sl (l.map bd))),(3,.ow 3),(4,.p (i64 i))]) (fun _=>[(3,.row 87 ((Reg.told (l.take (i+1))).map rc))]) (fun _ _ t h=>?_) ?_
  ·exact⟨wO (by omega),(i+1),_,au.refl _ _,by omega,by omega,⟨Z,Z,Z,Y⟩,⟨Z,Y⟩⟩
  refine aJ (fun k:Nat=>k<=b.xs.length) (fun k=>[(0,.p (.sl (l.map bd))),(3,.ow 3),(4,.p (i64 i)),(5,.p (i64 k))]) (fun k=>[(3,.row 87 ((Reg.told (l.take i)++ig b k).map rc))]) (fun k=>b.xs.length-k) 0 _ (au.refl _ _) (aaj _) ⟨Z,Z,Z,Z,Y⟩ ⟨by rw[ig];simp;rfl,trivial⟩ fun k hk t h=>?_;have Ov:(ig b k).length<=k:=by simp[ig];omega
  refine⟨(bd b),(idx rfl hb),iW ?_ ?_⟩<;>intro D
  ·rw[bm]at D;obtain⟨p,hp⟩:=ak (l:=b.xs) (i:=k) (by omega);refine⟨(bd b),(idx rfl hb),(sp p),(idx rfl hp),(bd b),(idx rfl hb),(bd b),(idx rfl hb),(sp p),(idx rfl hp),(bd b),(idx rfl hb),⟨xL rfl,by simp;omega,by simp;omega⟩,wO (by omega),(k+1),_,au.refl _ _,by omega,by omega,⟨Z,Z,Z,Z,Y⟩,⟨?_,trivial⟩⟩;have N:ig b (k+1)=ig b k++[⟨p.1,b.y0,p.2,b.y1⟩]:=by simp[ig,aZ hp]
   have e:(Reg.told (l.take i)++ig b k).map rc++[rc ⟨p.1,b.y0,p.2,b.y1⟩]=(Reg.told (l.take i)++ig b (k+1)).map rc:=by
    rw[N,<-abx,abE (l₂:=[_])];rfl
   exact adV (AB.row 87) e
  rw[bm]at D;refine⟨(),trivial,⟨Z,Z,Z,Y⟩,⟨?_,trivial⟩⟩;rw[jM hb];have:ig b k=b.xs.map fun p=>⟨p.1,b.y0,p.2,b.y1⟩:=by rw[ig,adW (by omega)]
  rw[<-this];rfl
 rw[lm]at z;refine⟨?_,trivial⟩;rw[adW (by omega)];rfl
theorem tR(l:List an)(b:an):(Reg.cA l b).length<=l.length+1:=by
 unfold Reg.cA;split
 ·omega
 split
 ·split
  ·rw[acv,List.length_dropLast];simp only[abS];omega
  simp
 simp
theorem yO(l:List an)(b:an)(n:Nat)(hl:∀t∈l,t.xs.length<=n)(hb:b.xs.length<=n):∀t∈Reg.cA l b,t.xs.length<=n:=by
 unfold Reg.cA;split
 ·exact hl
 split
 ·rename_i t D;split
  ·intro u z;rcases abi.1 z with h | h
   ·exact hl u ((List.dropLast_sublist l).subset h)
   rw[ab_.1 h];exact hl t (ad4 D)
  intro u z;rcases abi.1 z with h | h
  ·exact hl u h
  rw[ab_.1 h];exact hb
 intro u z;rw[ab_.1 z];exact hb
theorem gK(l:List ae)(ys:List Int):∀k,(Reg.cg l ys k).length<=k:=by
 intro k
 induction k with
 | zero=>simp[Reg.cg]
 | succ k ih=>rw[Reg.cg];have:=tR (Reg.cg l ys k) ⟨ys.getD k 0,ys.getD (k+1) 0,Reg.rowOf l (ys.getD k 0)⟩;omega
theorem oW(l:List ae)(ys:List Int):∀k,∀t∈Reg.cg l ys k,t.xs.length<=l.length:=by
 intro k
 induction k with
 | zero=>simp[Reg.cg]
 | succ k ih=>rw[Reg.cg];exact yO _ _ _ ih (fQ _ _)
theorem cO{l:List Int}{i:Nat}{x:Int}(h:l[i]?=some x):l.getD i 0=x:=by rw[aav,h];rfl
theorem rV(l:List ae)(O:l.length<=4398046511104)(D:(Reg.aE l).length<=3000000000000)(R:(Reg.bR l).length<=4398046511104):af C 93 [.pv (aj l)] (.p (aj (Reg.bR l))) []:=by
 refine uX ⟨[],[],[],[6],[],[]⟩ hC Tryz.func93 rfl (by kernel_rfl) fun _=>?_;have lm:=ai (Reg.aE l) fun n=>[i64 n];have hL:=dm l;refine⟨_,_,(wB l O),?_⟩;refine aJ (fun k:Nat=>k<=(Reg.aE l).length-1) (fun k=>[(0,.p (aj l)),(3,.p (ints (Reg.aE l))),(4,.ow 4),(5,.p (i64 ((k:Int)+1)))]) (fun k=>[(4,.row 196 ((Reg.cg l (Reg.aE l) k).map bd))]) (fun k=>(Reg.aE l).length-k) 0 _ (au.dk hC _ 4 196 _ (by decide) rfl rfl (by decide)) (aaj _) ⟨Z,Z,Z,Z,Y⟩ ⟨Z,Y⟩ fun k hk t h=>?_;have bl:=gK l (Reg.aE l) k;have bx:=oW l (Reg.aE l) k;apply iW<;>intro J
 ·rw[lm]at J;obtain⟨y,D⟩:=ak (l:=Reg.aE l) (i:=k) (by omega);obtain⟨L,z⟩:=ak (l:=Reg.aE l) (i:=k+1) (by omega);have N:(k:Int)+1-1=(k:Nat):=by omega
  have U:(k:Int)+1=((k+1:Nat):Int):=by omega
  refine⟨wO (by omega),[i64 y],(idx N D),[i64 L],(idx U z),wO (by omega),[i64 y],(idx N D),_,_,(xK l y (by omega)),_,_,(wC _ ⟨y,L,Reg.rowOf l y⟩ (by omega) (fun t I=>by have:=bx t I;omega)),wO (by omega),(k+1),_,au.refl _ _,by omega,by omega,⟨rfl,rfl,rfl,a8 (by omega),trivial⟩,⟨?_,trivial⟩⟩;rw[Reg.cg,cO D,cO z];rfl
 rw[lm]at J;refine⟨_,_,(Es _ (by omega) (fun t I=>by have:=bx t I;omega) (by rw[show k=(Reg.aE l).length-1 by omega];exact R)),?_,trivial⟩;rw[Reg.bR,Reg.aB,show (Reg.aE l).length-1=k by omega]
theorem rW(l:List ae)(hN:l.length<=1000000):(Reg.bR l).length<=4398046511104:=by
 have h1:=nq (Reg.cg l (Reg.aE l) ((Reg.aE l).length-1)) (fun t z=>by have:=oW l (Reg.aE l) _ t z;omega);have h2:=gK l (Reg.aE l) ((Reg.aE l).length-1);have h3:=dm l;have h4:(Reg.cg l (Reg.aE l) ((Reg.aE l).length-1)).length*1000000<=2000000*1000000:=abf _ (by omega);have e:Reg.bR l=Reg.told (Reg.cg l (Reg.aE l) ((Reg.aE l).length-1)):=rfl;rw[e];omega
theorem rX{l:List ae}:∀{i:Nat} {a b:ae},l[i]?=some a->l[i+1]?=some b->Reg.before a b=false->Reg.ordered l=false:=by
 induction l with
 | nil=>intro i a b h;simp at h
 | cons x l ih=>
  intro i a b D z I;cases l with
  | nil=>simp at z
  | cons y l=>
   rw[Reg.ordered];cases i with
   | zero=>
    simp at D z;subst D;subst z;rw[I];rfl
   | succ i=>rw[ih (i:=i) (by simpa using D) (by simpa using z) I,acC]
theorem tS{l:List ae}:(∀(i:Nat) a b,l[i]?=some a->l[i+1]?=some b->Reg.before a b=true)->Reg.ordered l=true:=by
 induction l with
 | nil=>intro _;rfl
 | cons x l ih=>
  intro h;cases l with
  | nil=>rfl
  | cons y l=>
   rw[Reg.ordered,h 0 x y rfl rfl,ih fun i a b z D=>h (i+1) a b (by simpa using z) (by simpa using D)];rfl
theorem kS(l:List ae):af C 36 [.pv (aj l)] (.p (i64 (Reg.aF l))) []:=by
 refine uX ⟨[],[0],[],[],[],[]⟩ hC Tryz.func36 rfl (by kernel_rfl) fun _=>?_;have lm:=ai l rc;refine⟨_,_,(yM l),iW ?_ ?_⟩<;>intro z
 ·refine⟨?_,trivial⟩;rw[Reg.aF,aaa z]
 have z:Reg.cz l=0:=by simpa using z
 obtain⟨hl,_⟩:=Reg.jK z;have N:Reg.aF l=(if Reg.ordered l=true then (if Reg.bR l=l then 0 else 3) else 8):=by rw[Reg.aF,aap z]
 refine p7 (fun _:Unit=>Reg.ordered l=true) (fun _=>[(0,.p (aj l))]) (fun _=>[]) (fun _ R t h=>?_) ?_
 ·rw[aap R]at N;have hh:=dm l;refine⟨_,_,(rV l (by omega) (by omega) (rW l (by omega))),_,_,(Az l _ (by omega)),iW ?_ ?_⟩<;>intro D
  ·refine⟨?_,trivial⟩;rw[N,aaa (fun e=>D e.symm)];rfl
  refine⟨?_,trivial⟩;rw[N,aap (by simpa using D.symm)];rfl
 refine aJ (fun i:Nat=>∀(j:Nat) a b,j<i->l[j]?=some a->l[j+1]?=some b->Reg.before a b=true) (fun i=>[(0,.p (aj l)),(4,.p (i64 ((i:Int)+1)))]) (fun _=>[]) (fun i=>l.length-i) 0 _ (au.refl _ _) (fun j a b h=>by omega) ⟨Z,Z,Y⟩ trivial fun i hi t h=>?_;apply iW<;>intro O
 ·rw[lm]at O;obtain⟨a,I⟩:=ak (l:=l) (i:=i) (by omega);obtain⟨b,hb⟩:=ak (l:=l) (i:=i+1) (by omega);refine⟨wO (by omega),(rc a),(idx (show ((i:Int)+1)-1=(i:Nat) by omega) I),(rc b),(idx (show ((i:Int)+1)=((i+1:Nat):Int) by omega) hb),_,_,(yL a b),iW ?_ ?_⟩<;>intro D
  ·refine⟨?_,trivial⟩;rw[N,aaa (by rw[rX I hb D];decide)];rfl
  refine⟨wO (by omega),(i+1),_,au.refl _ _,fun j x y hj J L=>?_,by omega,⟨rfl,a8 (by omega),trivial⟩,trivial⟩;by_cases e:j=i
  ·subst e;rw[I]at J;injection J with J;rw[hb]at L;injection L with L;rw[<-J,<-L];simpa using D
  exact hi j x y (by omega) J L
 rw[lm]at O;refine⟨(),tS fun j a b I hb=>hi j a b ?_ I hb,⟨Z,Y⟩,trivial⟩;have:=(aao.1 hb).1;omega
def str(s:ByteArray):PV:=.im (.string s)
def strs(l:List ByteArray):PV:=.sl (l.map fun s=>[str s])
def cL(n:Int):Bool:=decide (0<=n)&&decide (n<=100000)
theorem wD(n lo hi:Int):af C 64 [.pv (i64 n),.pv (i64 lo),.pv (i64 hi)] (.p (bool (decide (lo<=n)&&decide (n<=hi)))) []:=by
 refine fW hC Tryz.func64 rfl (by kernel_rfl) fun _=>?_;apply iW<;>intro h<;>(refine⟨?_,trivial⟩)<;>simp[bool,h]
theorem iT(n:Int):af C 37 [.pv (i64 n)] (.p (bool (cL n))) []:=by
 refine fW hC Tryz.func37 rfl (by kernel_rfl) fun _=>?_;refine⟨_,_,(wD n 0 100000),?_,trivial⟩;rfl
def hasB(l:List ByteArray)(x:ByteArray):Bool:=l.any fun y=>decide (y=x)
theorem Et{l:List ByteArray}{x:ByteArray}:hasB l x=true↔x∈l:=by
 simp[hasB]
theorem Eu(l:List ByteArray)(x:ByteArray)(hN:l.length<=140737488355328):af C 209 [.pv (strs l),.pv (str x)] (.p (bool (hasB l x))) []:=by
 refine fW hC Tryz.func209 rfl (by kernel_rfl) fun _=>?_;have lm:=ai l fun s=>[str s];refine aJ (fun i:Nat=>i<=l.length/\x ∉ l.take i) (fun i=>[(0,.p (strs l)),(1,.p (str x)),(5,.p (i64 i))]) (fun _=>[]) (fun i=>l.length-i) 0 _ (au.refl _ _) ⟨aaj _,by simp⟩ ⟨Z,Z,Z,Y⟩ trivial fun i hi t h=>?_;apply iW<;>intro I
 ·rw[lm]at I;obtain⟨y,D⟩:=ak (l:=l) (i:=i) (by omega);refine⟨[str y],(idx rfl D),iW ?_ ?_⟩<;>intro z
  ·refine⟨?_,trivial⟩;rw[Et.2 (by rw[<-z];exact aad D)];rfl
  refine⟨wO (by omega),(i+1),_,au.refl _ _,⟨by omega,?_⟩,by omega,⟨Z,Z,Z,Y⟩,trivial⟩;rw[aZ D,abi,ab_];rintro (h | h)
  ·exact hi.2 h
  exact z h.symm
 rw[lm]at I;refine⟨?_,trivial⟩;have z:=hi.2;rw[adW (by omega)]at z;rw[show hasB l x=false by rw[aaV];exact fun h=>z (Et.1 h)];rfl
end M
end Go.Proofs.YtfloceomobknoaaGreatDoor
