/- Part 4 of the proof of RulesHolesMatchSpec. -/
import Derived.Test.YtfloceomobknoaaGreatDoorH03
import Derived.Shelf.Strings.Builder1
import Derived.Shelf.Strings.Builder2
import Derived.Shelf.Strings.OnBuilder
import Derived.Shelf.Small.Bits
import Derived.Shelf.Small.Strs
import Derived.Shelf.Strings.BuilderF
import Derived.Shelf.Strconv.Itoa0
import Derived.Shelf.Strconv.Itoa1
import Derived.Shelf.LaysM
import Derived.Shelf.Strconv.Itoa2
import Derived.Shelf.Strconv.Itoa3
import Derived.Shelf.Strings.Search1
import Derived.Shelf.Strings.Search2
import Derived.Shelf.Strings.Search3
import Derived.Shelf.Strings.Count
import Derived.Shelf.Strings.Shaped
import Derived.Shelf.Sort.Plain
import Derived.Shelf.Strings.Split
import Derived.Shelf.Strings.SplitShaped
import Derived.Shelf.Unicode.DecodeSlow
import Derived.Shelf.Slices.Equal
import Derived.Ground.Names2Prog
import Derived.Shelf.Slices.CompactI
import Derived.Shelf.Slices.Cells
import Derived.Shelf.Slices.In.SortNone
import Derived.Shelf.Slices.Empties2
import Derived.Shelf.SlSortCmp.WholeK
import Derived.Shelf.SlGeneric
import Derived.Ground.SlsfProg
import Derived.Test.YtfloceomobknoaaGreatDoorProg
import Derived.Lib.LaidTab
import Derived.Lib.ItoaNum
set_option linter.unusedVariables false
set_option linter.unusedSimpArgs false
set_option maxRecDepth 100000
set_option maxHeartbeats 8000000
namespace Go
abbrev acP:=@Int.le_refl
abbrev aaD:=@List.foldl_append
abbrev abZ:=@List.pairwise_append
abbrev ade:=@List.pairwise_cons
abbrev abw:=@List.pairwise_singleton
abbrev ad0:=@Go.Proofs.Tryz.underlying0
abbrev acF:=@Go.Proofs.Tryz.isAgg0
abbrev acG:=@Go.Proofs.Tryz.sizeOf0
abbrev acH:=@Go.Proofs.Tryz.zeroValue0
abbrev acI:=@Go.Proofs.Tryz.underlying3
abbrev ab0:=@Go.Proofs.Tryz.isAgg3
abbrev acj:=@Go.Proofs.Tryz.sizeOf3
abbrev ack:=@Go.Proofs.Tryz.zeroValue3
abbrev acm:=@Go.Proofs.Tryz.underlying4
abbrev acn:=@Go.Proofs.Tryz.isAgg4
abbrev acQ:=@Go.Proofs.Tryz.sizeOf4
abbrev acR:=@Go.Proofs.Tryz.zeroValue4
abbrev acS:=@Go.Proofs.Tryz.underlying9
abbrev aca:=@Go.Proofs.Tryz.isAgg9
abbrev acJ:=@Go.Proofs.Tryz.sizeOf9
abbrev acK:=@Go.Proofs.Tryz.zeroValue9
abbrev acL:=@Go.Proofs.Tryz.underlying49
abbrev adf:=@Go.Proofs.Tryz.underlying148
abbrev adg:=@Go.Proofs.Tryz.underlying147
abbrev adh:=@Go.Proofs.Tryz.underlying271
abbrev ad1:=@Go.Proofs.Tryz.underlying5
abbrev acT:=@Go.Proofs.Tryz.isAgg5
abbrev acU:=@Go.Proofs.Tryz.sizeOf5
abbrev acV:=@Go.Proofs.Tryz.zeroValue5
abbrev acW:=@Go.Proofs.Tryz.underlying187
abbrev adx:=@Go.Proofs.Tryz.isAgg187
abbrev ady:=@Go.Proofs.Tryz.sizeOf187
abbrev adz:=@Go.Proofs.Tryz.zeroValue187
abbrev adA:=@Go.Proofs.Tryz.underlying250
abbrev adB:=@Go.Proofs.Tryz.isAgg250
abbrev adC:=@Go.Proofs.Tryz.sizeOf250
abbrev adD:=@Go.Proofs.Tryz.zeroValue250
abbrev adE:=@Go.Proofs.Tryz.underlying252
abbrev adF:=@List.take_add_one
abbrev ad2:=@Int.toNat_natCast
abbrev aaS:=@List.pairwise_iff_getElem
abbrev abk:=@Int.tdiv_eq_ediv_of_nonneg
abbrev aco:=@List.map_take
abbrev acb:=@List.map_drop
abbrev acX:=@List.drop_eq_getElem_cons
abbrev ab1:=@List.drop_of_length_le
abbrev aaz:=@decide_eq_false
abbrev aaC:=@Bool.and_eq_false_iff
abbrev abF:=@decide_eq_false_iff_not
abbrev acd:=@decide_eq_true
abbrev aaA:=@List.length_take_le
abbrev acA:=@List.filter_append
abbrev abU:=@List.take_length
abbrev acB:=@List.getLast?_eq_getElem?
abbrev ad3:=@List.getLast?_eq_some_iff
abbrev adG:=@List.flatMap_append
abbrev acp:=@List.mem_of_getLast?
abbrev ad4:=@List.getD_eq_getElem?_getD
abbrev aav:=@Bool.and_false
end Go
namespace Go.Proofs.YtfloceomobknoaaGreatDoor
namespace Reg
structure ae where
 x0:Int
 y0:Int
 x1:Int
 y1:Int
theorem ae.yK(a b:ae):a=b↔a.x0=b.x0/\a.y0=b.y0/\a.x1=b.x1/\a.y1=b.y1:=by
 constructor
 ·rintro rfl;exact⟨rfl,rfl,rfl,rfl⟩
 obtain⟨a1,a2,a3,a4⟩:=a;obtain⟨b1,b2,b3,b4⟩:=b;rintro⟨h1,h2,h3,h4⟩;simp only at h1 h2 h3 h4;rw[h1,h2,h3,h4]
instance:DecidableEq ae:=fun a b=>decidable_of_iff' _ (ae.yK a b)
abbrev aU:=List (Int×Int)
def cover(s:aU)(x:Int):Prop:=∃p∈s,p.1<=x/\x<p.2
def Canon:aU->Prop
 | []=>True
 | [p]=>p.1<p.2
 | p::q::r=>p.1<p.2/\p.2<q.1/\Canon (q::r)
theorem eQ(x:Int):¬cover [] x:=fun ⟨_,h,_⟩=>by cases h
theorem bJ(p:Int×Int)(s:aU)(x:Int):cover (p::s) x↔(p.1<=x/\x<p.2)\/cover s x:=by
 constructor
 ·rintro⟨q,hq,h⟩;rcases adq.1 hq with rfl | hq
  ·exact .inl h
  exact .inr ⟨q,hq,h⟩
 rintro (h | ⟨q,hq,h⟩)
 ·exact⟨p,adU ..,h⟩
 exact⟨q,aaw _ hq,h⟩
variable {s:aU}
theorem Canon.head{p:Int×Int}(h:Canon (p::s)):p.1<p.2:=by
 cases s with
 | nil=>exact h
 | cons q r=>exact h.1
theorem Canon.tail{p:Int×Int}(h:Canon (p::s)):Canon s:=by
 cases s with
 | nil=>trivial
 | cons q r=>exact h.2.2
theorem Canon.behind{p:Int×Int}(h:Canon (p::s)):∀q∈s,p.2<q.1:=by
 induction s generalizing p with
 | nil=>intro q hq;cases hq
 | cons a r ih=>
  intro q hq;rcases adq.1 hq with rfl | hq
  ·exact h.2.1
  have:=ih h.2.2 q hq;have h1:=h.2.1;have h2:=Canon.head h.2.2;omega
theorem Canon.cons{p:Int×Int}(h1:p.1<p.2)(h2:∀q∈s,p.2<q.1)(h3:Canon s):Canon (p::s):=by
 cases s with
 | nil=>exact h1
 | cons a r=>exact⟨h1,h2 a (adU ..),h3⟩
theorem Canon.jJ{p:Int×Int}(h:Canon (p::s)){x:Int}(hx:x<=p.2):¬cover s x:=by
 rintro⟨q,hq,h1,_⟩;have:=h.behind q hq;omega
theorem lJ:∀(s t:aU),Canon s->Canon t->(∀x,cover s x↔cover t x)->s=t:=by
 intro s
 induction s with
 | nil=>
  intro t _ ht hc;cases t with
  | nil=>rfl
  | cons q t=>
   have:=ht.head;exact absurd ((hc q.1).2 ((bJ q t q.1).2 (.inl ⟨acP _,this⟩))) (eQ _)
 | cons p s ih=>
  intro t hs ht hc;cases t with
  | nil=>
   have:=hs.head;exact absurd ((hc p.1).1 ((bJ p s p.1).2 (.inl ⟨acP _,this⟩))) (eQ _)
  | cons q t=>
   have hp:=hs.head;have hq:=ht.head;have least {p:Int×Int} {s:aU} (h:Canon (p::s)) {x:Int} (hx:cover (p::s) x):p.1<=x:=by
    rcases (bJ p s x).1 hx with h1 | ⟨r,hr,h1,_⟩
    ·exact h1.1
    have:=h.behind r hr;have:=h.head;omega
   have e1:p.1=q.1:=by
    have a:=least ht ((hc p.1).1 ((bJ p s p.1).2 (.inl ⟨acP _,hp⟩)));have b:=least hs ((hc q.1).2 ((bJ q t q.1).2 (.inl ⟨acP _,hq⟩)));omega
   have e2:p.2=q.2:=by
    rcases Int.lt_trichotomy p.2 q.2 with h | h | h
    ·have hx:=(hc p.2).2 ((bJ q t p.2).2 (.inl ⟨by omega,h⟩));rcases (bJ p s p.2).1 hx with h1 | h1
     ·omega
     exact absurd h1 (hs.jJ (acP _))
    ·exact h
    have hx:=(hc q.2).1 ((bJ p s q.2).2 (.inl ⟨by omega,h⟩));rcases (bJ q t q.2).1 hx with h1 | h1
    ·omega
    exact absurd h1 (ht.jJ (acP _))
   have e:p=q:=Prod.ext e1 e2;subst e;congr 1;refine ih t hs.tail ht.tail fun x=>?_;constructor
   ·intro hx;have XQ:¬x<=p.2:=fun h=>hs.jJ h hx;rcases (bJ p t x).1 ((hc x).1 ((bJ p s x).2 (.inr hx))) with h1 | h1
    ·omega
    exact h1
   intro hx;have XQ:¬x<=p.2:=fun h=>ht.jJ h hx;rcases (bJ p s x).1 ((hc x).2 ((bJ p t x).2 (.inr hx))) with h1 | h1
   ·omega
   exact h1
def dw:aU->Int->Int->aU
 | [],a,b=>[(a,b)]
 | [p],a,b=>if a<=p.2 then [(p.1,max p.2 b)] else [p,(a,b)]
 | p::q::r,a,b=>p::dw (q::r) a b
theorem Ax(s:aU)(a b:Int)(h:Canon s)(qb:a<b)(ha:∀p∈s,p.1<=a):
  Canon (dw s a b)/\(∀x,cover (dw s a b) x↔cover s x\/(a<=x/\x<b))/\(∀p∈dw s a b,p.1<=a)/\(∀p∈s,∀q∈(dw s a b).head?,∀r∈s.head?,q.1=r.1)/\(∀c:Int,(∀p∈s,c<p.1)->c<a->∀p∈dw s a b,c<p.1):=by
 induction s with
 | nil=>
  refine⟨qb,fun x=>?_,?_,?_,?_⟩
  ·simp[dw,bJ,eQ]
  ·simp[dw]
  ·intro p hp;cases hp
  intro c _ hc p hp;simp[dw]at hp;subst hp;exact hc
 | cons p s ih=>
  cases s with
  | nil=>
   have hp:=h.head;have UQ:=ha p (adU ..);simp only[dw];split
   ·rename_i hle;refine⟨by show p.1<max p.2 b;omega,fun x=>?_,?_,?_,?_⟩
    ·simp only[bJ,eQ,or_false];omega
    ·intro q hq;simp at hq;subst hq;exact UQ
    ·intro q _ r hr t ht;simp at hr ht;subst hr ht;rfl
    intro c hc _ q hq;simp at hq;subst hq;exact hc p (adU ..)
   rename_i XQ;refine⟨⟨hp,by show p.2<a;omega,qb⟩,fun x=>?_,?_,?_,?_⟩
   ·simp only[bJ,eQ,or_false]
   ·intro q hq;simp at hq;rcases hq with rfl | rfl
    ·exact UQ
    exact acP _
   ·intro q _ r hr t ht;simp at hr ht;subst hr ht;rfl
   intro c hc QS q hq;simp at hq;rcases hq with rfl | rfl
   ·exact hc q (adU ..)
   exact QS
  | cons q r=>
   obtain⟨i1,i2,i3,_,i5⟩:=ih h.tail (fun t ht=>ha t (aaw _ ht));simp only[dw];have hb:=h.behind;have oF:=ha q (by simp);have XB:=h.2.1;refine⟨Canon.cons h.head (i5 p.2 hb (by omega)) i1,fun x=>?_,?_,?_,?_⟩
   ·rw[bJ,i2 x,bJ p];exact or_assoc.symm
   ·intro t ht;rcases adq.1 ht with rfl | ht
    ·exact ha t (adU ..)
    exact i3 t ht
   ·intro _ _ t ht u hu;simp at ht hu;subst ht hu;rfl
   intro c hc QS t ht;rcases adq.1 ht with rfl | ht
   ·exact hc t (adU ..)
   exact i5 c (fun u hu=>hc u (aaw _ hu)) QS t ht
def cY(l:List ae):aU:=l.foldl (fun out r=>dw out r.x0 r.x1) []
theorem oV(l:List ae)(r:ae):cY (l++[r])=dw (cY l) r.x0 r.x1:=by
 unfold cY;rw[aaD];rfl
theorem Ay(l:List ae)(hs:l.Pairwise fun a b=>a.x0<=b.x0)(hx:∀r∈l,r.x0<r.x1):
  Canon (cY l)/\(∀x,cover (cY l) x↔∃r∈l,r.x0<=x/\x<r.x1)/\(∀c:Int,(∀r∈l,r.x0<=c)->∀p∈cY l,p.1<=c):=by
 suffices H:∀n (m:List ae),m.length=n->(m.Pairwise fun a b=>a.x0<=b.x0)->(∀r∈m,r.x0<r.x1)->
   Canon (cY m)/\(∀x,cover (cY m) x↔∃r∈m,r.x0<=x/\x<r.x1)/\(∀c:Int,(∀r∈m,r.x0<=c)->∀p∈cY m,p.1<=c) from H _ l rfl hs hx
 intro n
 induction n with
 | zero=>
  intro m hm _ _;have:m=[]:=adl hm;subst this;refine⟨trivial,fun x=>?_,fun c _ p hp=>by cases hp⟩;constructor
  ·intro h;exact absurd h (eQ _)
  rintro⟨r,hr,_⟩;cases hr
 | succ n ih=>
  intro m hm RJ UR;obtain⟨k,r,rfl⟩:∃k r,m=k++[r]:=by
   have b8:m≠[]:=by intro e;rw[e]at hm;cases hm
   exact⟨m.dropLast,m.getLast b8,(aar b8).symm⟩
  rw[abZ]at RJ;obtain⟨i1,i2,i3⟩:=ih k (by simp at hm;omega) RJ.1 (fun t ht=>UR t (abY _ ht));have hr:=UR r (by simp);obtain⟨f1,f2,f3,_,_⟩:=Ax (cY k) r.x0 r.x1 i1 hr (i3 r.x0 fun t ht=>RJ.2.2 t ht r (by simp));rw[oV];refine⟨f1,fun x=>?_,fun c hc p hp=>?_⟩
  ·rw[f2 x,i2 x];constructor
   ·rintro (⟨t,ht,h⟩ | h)
    ·exact⟨t,abY _ ht,h⟩
    exact⟨r,by simp,h⟩
   rintro⟨t,ht,h⟩;rcases abi.1 ht with ht | ht
   ·exact .inl ⟨t,ht,h⟩
   have:t=r:=by simpa using ht
   subst this;exact .inr h
  have:=f3 p hp;have:=hc r (by simp);omega
def ic:aU->Int->Int->aU
 | [],a,b=>[(a,b)]
 | p::l,a,b=>if p.1<=b then ic l (min a p.1) (max b p.2) else (a,b)::p::l
def dG:aU->Int->Int->aU
 | [],a,b=>[(a,b)]
 | p::l,a,b=>if p.2<a then p::dG l a b else ic (p::l) a b
theorem CT(s:aU):∀(a b:Int),Canon s->a<b->(∀p∈s,a<=p.2)->
  Canon (ic s a b)/\(∀x,cover (ic s a b) x↔cover s x\/(a<=x/\x<b))/\(∀c:Int,(∀p∈s,c<p.1)->c<a->∀p∈ic s a b,c<p.1):=by
 induction s with
 | nil=>
  intro a b _ qb _;refine⟨qb,fun x=>?_,fun c _ hc p hp=>?_⟩
  ·simp[ic,bJ,eQ]
  simp[ic]at hp;subst hp;exact hc
 | cons p l ih=>
  intro a b h qb ha;have hp:=h.head;have UQ:=ha p (adU ..);have hb:=h.behind;simp only[ic];split
  ·rename_i hle;obtain⟨i1,i2,i3⟩:=ih (min a p.1) (max b p.2) h.tail (by omega) (fun q hq=>by have:=hb q hq;have:=ha q (aaw _ hq);omega);refine⟨i1,fun x=>?_,fun c hc QS=>i3 c (fun q hq=>hc q (aaw _ hq)) (by have:=hc p (adU ..);omega)⟩;rw[i2 x,bJ];constructor
   ·rintro (h1 | h1)
    ·exact .inl (.inr h1)
    by_cases hx:p.1<=x/\x<p.2
    ·exact .inl (.inl hx)
    exact .inr (by omega)
   rintro ((h1 | h1) | h1)
   ·exact .inr (by omega)
   ·exact .inl h1
   exact .inr (by omega)
  rename_i XQ;refine⟨⟨qb,by show b<p.1;omega,h⟩,fun x=>?_,fun c hc QS q hq=>?_⟩
  ·rw[bJ];exact or_comm
  rcases adq.1 hq with rfl | hq
  ·exact QS
  exact hc q hq
theorem Canon.ends(h:Canon s){a:Int}:∀p l,s=p::l->a<=p.2->∀q∈s,a<=q.2:=by
 intro p l e hp q hq;subst e;rcases adq.1 hq with rfl | hq
 ·exact hp
 have h1:=h.behind q hq;have h2:q.1<q.2:=by
  have:∀(t:aU),Canon t->∀q∈t,q.1<q.2:=by
   intro t
   induction t with
   | nil=>intro _ q hq;cases hq
   | cons u t ih=>
    intro ht q hq;rcases adq.1 hq with rfl | hq
    ·exact ht.head
    exact ih ht.tail q hq
  exact this l h.tail q hq
 omega
theorem tN(s:aU)(a b:Int)(h:Canon s)(qb:a<b):
  Canon (dG s a b)/\(∀x,cover (dG s a b) x↔cover s x\/(a<=x/\x<b))/\(∀c:Int,(∀p∈s,c<p.1)->c<a->∀p∈dG s a b,c<p.1):=by
 induction s with
 | nil=>
  refine⟨qb,fun x=>?_,fun c _ hc p hp=>?_⟩
  ·simp[dG,bJ,eQ]
  simp[dG]at hp;subst hp;exact hc
 | cons p l ih=>
  simp only[dG];split
  ·rename_i eF;obtain⟨i1,i2,i3⟩:=ih h.tail;refine⟨Canon.cons h.head (i3 p.2 h.behind eF) i1,fun x=>?_,fun c hc QS q hq=>?_⟩
   ·rw[bJ,i2 x,bJ p];exact or_assoc.symm
   rcases adq.1 hq with rfl | hq
   ·exact hc q (adU ..)
   exact i3 c (fun t ht=>hc t (aaw _ ht)) QS q hq
  rename_i hge;exact CT (p::l) a b h qb (h.ends p l rfl (by omega))
def rowOf(l:List ae)(y:Int):aU:=(l.filter fun r=>decide (r.y0<=y)&&decide (y<r.y1)).foldl (fun out r=>dG out r.x0 r.x1) []
theorem En(l:List ae)(hx:∀r∈l,r.x0<r.x1):∀s:aU,Canon s->Canon (l.foldl (fun out r=>dG out r.x0 r.x1) s)/\(∀x,cover (l.foldl (fun out r=>dG out r.x0 r.x1) s) x↔cover s x\/∃r∈l,r.x0<=x/\x<r.x1):=by
 induction l with
 | nil=>intro s h;exact⟨h,fun x=>by simp⟩
 | cons r l ih=>
  intro s h;obtain⟨j1,j2,_⟩:=tN s r.x0 r.x1 h (hx r (adU ..));obtain⟨i1,i2⟩:=ih (fun t ht=>hx t (aaw _ ht)) _ j1;refine⟨i1,fun x=>?_⟩;rw[aaq,i2 x,j2 x];constructor
  ·rintro ((h1 | h1) | ⟨t,ht,h1⟩)
   ·exact .inl h1
   ·exact .inr ⟨r,adU ..,h1⟩
   exact .inr ⟨t,aaw _ ht,h1⟩
  rintro (h1 | ⟨t,ht,h1⟩)
  ·exact .inl (.inl h1)
  rcases adq.1 ht with rfl | ht
  ·exact .inl (.inr h1)
  exact .inr ⟨t,ht,h1⟩
theorem iS(l:List ae)(y:Int)(hx:∀r∈l,r.x0<r.x1):Canon (rowOf l y)/\∀x,cover (rowOf l y) x↔∃r∈l,(r.y0<=y/\y<r.y1)/\r.x0<=x/\x<r.x1:=by
 obtain⟨h1,h2⟩:=En (l.filter fun r=>decide (r.y0<=y)&&decide (y<r.y1)) (fun r hr=>hx r ((adu.1 hr).1)) [] trivial;refine⟨h1,fun x=>?_⟩;unfold rowOf;rw[h2 x];constructor
 ·rintro (h | ⟨r,hr,h⟩)
  ·exact absurd h (eQ _)
  rw[adu]at hr;simp at hr;exact⟨r,hr.1,hr.2,h⟩
 rintro⟨r,hr,hy,h⟩;exact .inr ⟨r,by rw[adu];simp[hr,hy],h⟩
theorem Eo(l a:List ae)(y:Int)(hx:∀r∈l,r.x0<r.x1)(hs:a.Pairwise fun p q=>p.x0<=q.x0)(hm:∀r,r∈a↔r∈l/\r.y0<=y/\y<r.y1):cY a=rowOf l y:=by
 have hxa:∀r∈a,r.x0<r.x1:=fun r hr=>hx r ((hm r).1 hr).1;obtain⟨s1,s2,_⟩:=Ay a hs hxa;obtain⟨r1,r2⟩:=iS l y hx;refine lJ _ _ s1 r1 fun x=>?_;rw[s2 x,r2 x];constructor
 ·rintro⟨r,hr,h⟩;obtain⟨h1,h2⟩:=(hm r).1 hr;exact⟨r,h1,h2,h⟩
 rintro⟨r,hr,hy,h⟩;exact⟨r,(hm r).2 ⟨hr,hy⟩,h⟩
def bF(l:List Int):Prop:=l.Pairwise fun a b=>a<b
theorem nI:∀(a b:List Int),bF a->bF b->(∀x,x∈a↔x∈b)->a=b:=by
 intro a
 induction a with
 | nil=>
  intro b _ _ h;cases b with
  | nil=>rfl
  | cons y b=>exact absurd ((h y).2 (adU ..)) (by simp)
 | cons x a ih=>
  intro b ha hb h;cases b with
  | nil=>exact absurd ((h x).1 (adU ..)) (by simp)
  | cons y b=>
   obtain⟨a1,a2⟩:=ade.1 ha;obtain⟨b1,b2⟩:=ade.1 hb;have e:x=y:=by
    rcases adq.1 ((h x).1 (adU ..)) with e | hx
    ·exact e
    rcases adq.1 ((h y).2 (adU ..)) with e | hy
    ·exact e.symm
    have:=a1 y hy;have:=b1 x hx;omega
   subst e;congr 1;refine ih b a2 b2 fun z=>?_;constructor
   ·intro hz;have:=a1 z hz;rcases adq.1 ((h z).1 (aaw _ hz)) with e | hz2
    ·omega
    exact hz2
   intro hz;have:=b1 z hz;rcases adq.1 ((h z).2 (aaw _ hz)) with e | hz2
   ·omega
   exact hz2
def put:List Int->Int->List Int
 | [],n=>[n]
 | a::l,n=>if a<n then a::put l n else if a=n then a::l else n::a::l
theorem tO(l:List Int)(n x:Int):x∈put l n↔x∈l\/x=n:=by
 induction l with
 | nil=>simp[put]
 | cons a l ih=>
  simp only[put];split
  ·rw[adq,ih,adq];exact or_assoc.symm
  split
  ·rename_i h;subst h;simp only[adq];constructor
   ·exact fun h=>.inl h
   rintro (h | h)
   ·exact h
   exact .inl h
  simp only[adq];constructor
  ·rintro (h | h | h)
   ·exact .inr h
   ·exact .inl (.inl h)
   exact .inl (.inr h)
  rintro ((h | h) | h)
  ·exact .inr (.inl h)
  ·exact .inr (.inr h)
  exact .inl h
theorem iG(l:List Int)(n:Int)(h:bF l):bF (put l n):=by
 induction l with
 | nil=>exact abw _ _
 | cons a l ih=>
  obtain⟨h1,h2⟩:=ade.1 h;simp only[put];split
  ·refine ade.2 ⟨fun x hx=>?_,ih h2⟩;rcases (tO l n x).1 hx with hx | rfl
   ·exact h1 x hx
   assumption
  split
  ·exact h
  refine ade.2 ⟨fun x hx=>?_,h⟩;rcases adq.1 hx with rfl | hx
  ·omega
  have:=h1 x hx;omega
def aE(l:List ae):List Int:=l.foldl (fun out r=>put (put out r.y0) r.y1) []
theorem cT(l:List ae):bF (aE l)/\∀y,y∈aE l↔∃r∈l,y=r.y0\/y=r.y1:=by
 have H:∀(l:List ae) (s:List Int),bF s->bF (l.foldl (fun out r=>put (put out r.y0) r.y1) s)/\∀y,y∈l.foldl (fun out r=>put (put out r.y0) r.y1) s↔y∈s\/∃r∈l,y=r.y0\/y=r.y1:=by
  intro l
  induction l with
  | nil=>intro s hs;exact⟨hs,fun y=>by simp⟩
  | cons r l ih=>
   intro s hs;obtain⟨i1,i2⟩:=ih _ (iG _ r.y1 (iG s r.y0 hs));refine⟨i1,fun y=>?_⟩;rw[aaq,i2 y,tO,tO];constructor
   ·rintro (((h | h) | h) | ⟨t,ht,h⟩)
    ·exact .inl h
    ·exact .inr ⟨r,adU ..,.inl h⟩
    ·exact .inr ⟨r,adU ..,.inr h⟩
    exact .inr ⟨t,aaw _ ht,h⟩
   rintro (h | ⟨t,ht,h⟩)
   ·exact .inl (.inl (.inl h))
   rcases adq.1 ht with rfl | ht
   ·rcases h with h | h
    ·exact .inl (.inl (.inr h))
    exact .inl (.inr h)
   exact .inr ⟨t,ht,h⟩
 obtain⟨h1,h2⟩:=H l [] List.Pairwise.nil;exact⟨h1,fun y=>(h2 y).trans (by simp)⟩
structure an where
 y0:Int
 y1:Int
 xs:aU
def cA(l:List an)(b:an):List an:=
 if b.xs=[] then l else
 match l.getLast? with
 | some t=>if t.y1=b.y0/\t.xs=b.xs then l.dropLast++[⟨t.y0,b.y1,t.xs⟩] else l++[b]
 | none=>[b]
def cg(l:List ae)(ys:List Int):Nat->List an
 | 0=>[]
 | k+1=>cA (cg l ys k) ⟨ys.getD k 0,ys.getD (k+1) 0,rowOf l (ys.getD k 0)⟩
def aB(l:List ae):List an:=cg l (aE l) ((aE l).length-1)
def told(s:List an):List ae:=s.flatMap fun b=>b.xs.map fun p=>⟨p.1,b.y0,p.2,b.y1⟩
def bR(l:List ae):List ae:=told (aB l)
def kR(n:Int):Bool:=decide (-1000000<=n)&&decide (n<=1000000)
def c7(r:ae):Bool:=kR r.x0&&kR r.y0&&kR r.x1&&kR r.y1
def dU:List ae->Int
 | []=>0
 | r::l=>if c7 r=true then (if r.x1<=r.x0\/r.y1<=r.y0 then 13 else dU l) else 1
def cz(l:List ae):Int:=if 2000<l.length then 2 else dU l
def before(a b:ae):Bool:=decide (a.y0<b.y0)||(decide (a.y0=b.y0)&&decide (a.x0<b.x0))
def ordered:List ae->Bool
 | a::b::l=>before a b&&ordered (b::l)
 | _=>true
def aF(l:List ae):Int:=
 if cz l=0 then (if ordered l=true then (if bR l=l then 0 else 3) else 8) else cz l
theorem Ep{l:List ae}(h:dU l=0):∀r∈l,c7 r=true/\r.x0<r.x1/\r.y0<r.y1:=by
 induction l with
 | nil=>intro r hr;cases hr
 | cons a l ih=>
  simp only[dU]at h;split at h
  ·split at h
   ·cases h
   intro r hr;rcases adq.1 hr with rfl | hr
   ·exact⟨by assumption,by omega,by omega⟩
   exact ih h r hr
  cases h
theorem jK{l:List ae}(h:cz l=0):l.length<=2000/\∀r∈l,c7 r=true/\r.x0<r.x1/\r.y0<r.y1:=by
 unfold cz at h;split at h
 ·cases h
 exact⟨by omega,Ep h⟩
end Reg
end Go.Proofs.YtfloceomobknoaaGreatDoor
namespace Go.Proofs
open Go.Shelf
def Tryz.lays156_ren:Go.Shelf.Ren:=⟨fun | 156=>118 | 165=>198 | 166=>117 | 169=>121 | 240=>197 | 241=>250 | 276=>249 | 277=>270 | n=>n,fun | 31=>49 | 9=>9 | 3=>3 | 4=>4 | 0=>0 | 20=>20 | 72=>150 | 76=>153 | 70=>147 | 37=>148 | 75=>152 | 127=>225 | 164=>271 | 5=>5 | 80=>162 | n=>n,fun | n=>n⟩
theorem Tryz.lays156:Go.Proofs.Lays.n156 Tryz.prog Tryz.lays156_ren:={
 mixed:=by kernel_rfl
 f156:=Tryz.func118.trans (adV some (by kernel_rfl))
 f165:=Tryz.func198.trans (adV some (by kernel_rfl))
 f166:=Tryz.func117.trans (adV some (by kernel_rfl))
 f169:=Tryz.func121.trans (adV some (by kernel_rfl))
 f240:=Tryz.func197.trans (adV some (by kernel_rfl))
 f241:=Tryz.func250.trans (adV some (by kernel_rfl))
 f276:=Tryz.func249.trans (adV some (by kernel_rfl))
 f277:=Tryz.func270.trans (adV some (by kernel_rfl))
 t0:=ad0
 a0:=acF
 z0:=acG
 v0:=acH
 t3:=acI
 a3:=ab0
 z3:=acj
 v3:=ack
 t4:=acm
 a4:=acn
 z4:=acQ
 v4:=acR
 t9:=acS
 a9:=aca
 z9:=acJ
 v9:=acK
 t20:=Tryz.underlying20
 a20:=Tryz.isAgg20
 z20:=Tryz.sizeOf20
 v20:=Tryz.zeroValue20
 t31:=acL
 a31:=Tryz.isAgg49
 z31:=Tryz.sizeOf49
 v31:=Tryz.zeroValue49
 t37:=adf
 a37:=Tryz.isAgg148
 z37:=Tryz.sizeOf148
 v37:=Tryz.zeroValue148
 t70:=adg
 a70:=Tryz.isAgg147
 z70:=Tryz.sizeOf147
 v70:=Tryz.zeroValue147
 t72:=Tryz.underlying150
 a72:=Tryz.isAgg150
 z72:=Tryz.sizeOf150
 v72:=Tryz.zeroValue150
 t75:=Tryz.underlying152
 a75:=Tryz.isAgg152
 z75:=Tryz.sizeOf152
 v75:=Tryz.zeroValue152
 t76:=Tryz.underlying153
 a76:=Tryz.isAgg153
 z76:=Tryz.sizeOf153
 v76:=Tryz.zeroValue153
 t127:=Tryz.underlying225
 a127:=Tryz.isAgg225
 z127:=Tryz.sizeOf225
 v127:=Tryz.zeroValue225
 t164:=adh
 a164:=Tryz.isAgg271
 z164:=Tryz.sizeOf271
 v164:=Tryz.zeroValue271 }
def Tryz.lays106_ren:Go.Shelf.Ren:=⟨fun | 106=>241 | 213=>269 | 265=>283 | n=>n,fun | 9=>9 | 3=>3 | n=>n,fun | n=>n⟩
theorem Tryz.lays106:Go.Proofs.Lays.n106 Tryz.prog Tryz.lays106_ren:={
 mixed:=by kernel_rfl
 f106:=Tryz.func241.trans (adV some (by kernel_rfl))
 f213:=Tryz.func269.trans (adV some (by kernel_rfl))
 f265:=Tryz.func283.trans (adV some (by kernel_rfl))
 t3:=acI
 a3:=ab0
 z3:=acj
 v3:=ack
 t9:=acS
 a9:=aca
 z9:=acJ
 v9:=acK }
open Go.RowKit in
theorem Tryz.strings_Compare(a b:ByteArray)(w:World):
  Calls Tryz.prog 241 #[.string a,.string b] w fun e w'=>e=.returned (.int .i64 (Lib.compareBytes a.data.toList b.data.toList))/\w'=w:=Any.strings_Compare Tryz.lays106 a b w
def Tryz.lays137_ren:Go.Shelf.Ren:=⟨fun | 137=>206 | 217=>255 | 266=>279 | n=>n,fun | 9=>9 | 5=>5 | 3=>3 | n=>n,fun | n=>n⟩
theorem Tryz.lays137:Go.Proofs.Lays.n137 Tryz.prog Tryz.lays137_ren:={
 mixed:=by kernel_rfl
 f137:=Tryz.func206.trans (adV some (by kernel_rfl))
 f217:=Tryz.func255.trans (adV some (by kernel_rfl))
 f266:=Tryz.func279.trans (adV some (by kernel_rfl))
 t3:=acI
 a3:=ab0
 z3:=acj
 v3:=ack
 t5:=ad1
 a5:=acT
 z5:=acU
 v5:=acV
 t9:=acS
 a9:=aca
 z9:=acJ
 v9:=acK }
open Go.RowKit in
theorem Tryz.strings_IndexByte(s:ByteArray)(c:Int)(w:World):
  Calls Tryz.prog 206 #[.string s,.int .u8 c] w fun e w'=>e=.returned (.int .i64 (Lib.indexByte s.data.toList c.toNat.toUInt8))/\w'=w:=Any.strings_IndexByte Tryz.lays137 s c w
def Tryz.lays170_ren:Go.Shelf.Ren:=⟨fun | 170=>120 | n=>n,fun | 70=>147 | 3=>3 | 0=>0 | 72=>150 | 37=>148 | 5=>5 | n=>n,fun | n=>n⟩
theorem Tryz.lays170:Go.Proofs.Lays.n170 Tryz.prog Tryz.lays170_ren:={
 mixed:=by kernel_rfl
 f170:=Tryz.func120.trans (adV some (by kernel_rfl))
 t0:=ad0
 a0:=acF
 z0:=acG
 v0:=acH
 t3:=acI
 a3:=ab0
 z3:=acj
 v3:=ack
 t37:=adf
 a37:=Tryz.isAgg148
 z37:=Tryz.sizeOf148
 v37:=Tryz.zeroValue148
 t70:=adg
 a70:=Tryz.isAgg147
 z70:=Tryz.sizeOf147
 v70:=Tryz.zeroValue147
 t72:=Tryz.underlying150
 a72:=Tryz.isAgg150
 z72:=Tryz.sizeOf150
 v72:=Tryz.zeroValue150 }
open Go.RowKit in
theorem Tryz.Builder_Len_f(B b:Nat)(bs:List Value)(w:World)(h:Lib.IsBuilderF 150 5 B b bs w):
  Calls Tryz.prog 120 #[.pointer (some ⟨b,0,none⟩)] w fun e w'=>e=.returned (.int .i64 bs.length)/\w'=w:=Any.Builder_Len_f Tryz.lays170 B b bs w h
def Tryz.laysM171_ren:Go.Shelf.Ren:=⟨fun | 171=>119 | 243=>199 | 246=>251 | 283=>271 | 284=>272 | 285=>273 | 286=>274 | 129=>225 | 317=>284 | 318=>285 | 319=>286 | 320=>287 | 337=>292 | 338=>293 | n=>n,fun | 3=>3 | 9=>9 | 2=>2 | 4=>4 | 171=>285 | 0=>0 | 53=>252 | 37=>148 | 5=>5 | 173=>287 | 212=>297 | 51=>250 | 20=>20 | 213=>298 | 46=>187 | 232=>305 | 233=>306 | n=>n,fun | 17=>1 | 18=>4 | 19=>5 | n=>n⟩
theorem Tryz.laysM171:Go.Proofs.LaysM.n171 Tryz.prog Tryz.laysM171_ren:={
 mixed:=by kernel_rfl
 f129:=Tryz.func225.trans (adV some (by kernel_rfl))
 f171:=Tryz.func119.trans (adV some (by kernel_rfl))
 f243:=Tryz.func199.trans (adV some (by kernel_rfl))
 f246:=Tryz.func251.trans (adV some (by kernel_rfl))
 f283:=Tryz.func271.trans (adV some (by kernel_rfl))
 f284:=Tryz.func272.trans (adV some (by kernel_rfl))
 f285:=Tryz.func273.trans (adV some (by kernel_rfl))
 f286:=Tryz.func274.trans (adV some (by kernel_rfl))
 f317:=Tryz.func284.trans (adV some (by kernel_rfl))
 f318:=Tryz.func285.trans (adV some (by kernel_rfl))
 f319:=Tryz.func286.trans (adV some (by kernel_rfl))
 f320:=Tryz.func287.trans (adV some (by kernel_rfl))
 f337:=Tryz.func292.trans (adV some (by kernel_rfl))
 f338:=Tryz.func293.trans (adV some (by kernel_rfl))
 t0:=ad0
 a0:=acF
 z0:=acG
 v0:=acH
 t2:=Tryz.underlying2
 a2:=Tryz.isAgg2
 z2:=Tryz.sizeOf2
 v2:=Tryz.zeroValue2
 t3:=acI
 a3:=ab0
 z3:=acj
 v3:=ack
 t4:=acm
 a4:=acn
 z4:=acQ
 v4:=acR
 t5:=ad1
 a5:=acT
 z5:=acU
 v5:=acV
 t9:=acS
 a9:=aca
 z9:=acJ
 v9:=acK
 t20:=Tryz.underlying20
 a20:=Tryz.isAgg20
 z20:=Tryz.sizeOf20
 v20:=Tryz.zeroValue20
 t37:=adf
 a37:=Tryz.isAgg148
 z37:=Tryz.sizeOf148
 v37:=Tryz.zeroValue148
 t46:=acW
 a46:=adx
 z46:=ady
 v46:=adz
 t51:=adA
 a51:=adB
 z51:=adC
 v51:=adD
 t53:=adE
 a53:=Tryz.isAgg252
 z53:=Tryz.sizeOf252
 v53:=Tryz.zeroValue252
 t171:=Tryz.underlying285
 a171:=Tryz.isAgg285
 z171:=Tryz.sizeOf285
 v171:=Tryz.zeroValue285
 t173:=Tryz.underlying287
 a173:=Tryz.isAgg287
 z173:=Tryz.sizeOf287
 v173:=Tryz.zeroValue287
 t212:=Tryz.underlying297
 a212:=Tryz.isAgg297
 z212:=Tryz.sizeOf297
 v212:=Tryz.zeroValue297
 t213:=Tryz.underlying298
 a213:=Tryz.isAgg298
 z213:=Tryz.sizeOf298
 t232:=Tryz.underlying305
 a232:=Tryz.isAgg305
 z232:=Tryz.sizeOf305
 v232:=Tryz.zeroValue305
 t233:=Tryz.underlying306
 a233:=Tryz.isAgg306
 z233:=Tryz.sizeOf306
 v233:=Tryz.zeroValue306
 g17:=by kernel_rfl
 g18:=by kernel_rfl
 g19:=by kernel_rfl
 i0:=by kernel_rfl
 i2:=by kernel_rfl
 i3:=by kernel_rfl
 i4:=by kernel_rfl
 i5:=by kernel_rfl
 i9:=by kernel_rfl
 i20:=by kernel_rfl
 i37:=by kernel_rfl
 i46:=by kernel_rfl
 i51:=by kernel_rfl
 i53:=by kernel_rfl
 i171:=by kernel_rfl
 i173:=by kernel_rfl
 i212:=by kernel_rfl
 i232:=by kernel_rfl
 i233:=by kernel_rfl
 m17:=by kernel_rfl
 m18:=by kernel_rfl
 m19:=by kernel_rfl }
open Go.RowKit Go.Sort Go.Lib in
theorem Tryz.strconv_Itoa (n : Int) (h0 : -9223372036854775808 ≤ n) (h1 : n ≤ 9223372036854775807) (w : World) (XR : Lib.TabIs Tryz.prog w "internal/strconv.uint64pow10" .u64 Lib.pow10Tab) :
  Calls Tryz.prog 119 #[.int .i64 n] w fun e w'=>e=.returned (.string ⟨(Lib.itoa n).toArray⟩)/\∃k os,w'=grow (w.drewN k) os:=Any.strconv_Itoa Tryz.laysM171 n h0 h1 w XR
def Tryz.lays189_ren:Go.Shelf.Ren:=⟨fun | 189=>84 | 125=>159 | 257=>160 | 128=>224 | 129=>225 | 294=>226 | 295=>227 | 296=>228 | 297=>229 | 298=>230 | 299=>231 | 216=>232 | 300=>233 | 301=>234 | 328=>265 | 329=>261 | 330=>262 | 331=>266 | 332=>267 | 215=>268 | 343=>282 | n=>n,fun | 28=>71 | 3=>3 | 46=>187 | 0=>0 | 51=>250 | 53=>252 | 4=>4 | 183=>244 | 182=>243 | 131=>234 | 5=>5 | 9=>9 | 218=>276 | 222=>280 | 228=>292 | 229=>293 | n=>n,fun | n=>n⟩
theorem Tryz.lays189:Go.Proofs.Lays.n189 Tryz.prog Tryz.lays189_ren:={
 mixed:=by kernel_rfl
 f125:=Tryz.func159.trans (adV some (by kernel_rfl))
 f128:=Tryz.func224.trans (adV some (by kernel_rfl))
 f129:=Tryz.func225.trans (adV some (by kernel_rfl))
 f189:=Tryz.func84.trans (adV some (by kernel_rfl))
 f215:=Tryz.func268.trans (adV some (by kernel_rfl))
 f216:=Tryz.func232.trans (adV some (by kernel_rfl))
 f257:=Tryz.func160.trans (adV some (by kernel_rfl))
 f294:=Tryz.func226.trans (adV some (by kernel_rfl))
 f295:=Tryz.func227.trans (adV some (by kernel_rfl))
 f296:=Tryz.func228.trans (adV some (by kernel_rfl))
 f297:=Tryz.func229.trans (adV some (by kernel_rfl))
 f298:=Tryz.func230.trans (adV some (by kernel_rfl))
 f299:=Tryz.func231.trans (adV some (by kernel_rfl))
 f300:=Tryz.func233.trans (adV some (by kernel_rfl))
 f301:=Tryz.func234.trans (adV some (by kernel_rfl))
 f328:=Tryz.func265.trans (adV some (by kernel_rfl))
 f329:=Tryz.func261.trans (adV some (by kernel_rfl))
 f330:=Tryz.func262.trans (adV some (by kernel_rfl))
 f331:=Tryz.func266.trans (adV some (by kernel_rfl))
 f332:=Tryz.func267.trans (adV some (by kernel_rfl))
 f343:=Tryz.func282.trans (adV some (by kernel_rfl))
 t0:=ad0
 a0:=acF
 z0:=acG
 v0:=acH
 t3:=acI
 a3:=ab0
 z3:=acj
 v3:=ack
 t4:=acm
 a4:=acn
 z4:=acQ
 v4:=acR
 t5:=ad1
 a5:=acT
 z5:=acU
 v5:=acV
 t9:=acS
 a9:=aca
 z9:=acJ
 v9:=acK
 t28:=Tryz.underlying71
 a28:=Tryz.isAgg71
 z28:=Tryz.sizeOf71
 v28:=Tryz.zeroValue71
 t46:=acW
 a46:=adx
 z46:=ady
 v46:=adz
 t51:=adA
 a51:=adB
 z51:=adC
 v51:=adD
 t53:=adE
 a53:=Tryz.isAgg252
 z53:=Tryz.sizeOf252
 v53:=Tryz.zeroValue252
 t131:=Tryz.underlying234
 a131:=Tryz.isAgg234
 z131:=Tryz.sizeOf234
 v131:=Tryz.zeroValue234
 t182:=Tryz.underlying243
 a182:=Tryz.isAgg243
 z182:=Tryz.sizeOf243
 v182:=Tryz.zeroValue243
 t183:=Tryz.underlying244
 a183:=Tryz.isAgg244
 z183:=Tryz.sizeOf244
 v183:=Tryz.zeroValue244
 t218:=Tryz.underlying276
 a218:=Tryz.isAgg276
 z218:=Tryz.sizeOf276
 v218:=Tryz.zeroValue276
 t222:=Tryz.underlying280
 a222:=Tryz.isAgg280
 z222:=Tryz.sizeOf280
 v222:=Tryz.zeroValue280
 t228:=Tryz.underlying292
 a228:=Tryz.isAgg292
 z228:=Tryz.sizeOf292
 v228:=Tryz.zeroValue292
 t229:=Tryz.underlying293
 a229:=Tryz.isAgg293
 z229:=Tryz.sizeOf293
 v229:=Tryz.zeroValue293 }
open Go.Sort Go.RowKit in
theorem Tryz.slices_Sort_int(cC off cap:Nat)(zs:List Int)(w:World)(hH:Holds (Value.int .i64) w cC off zs.toArray)(hblk:cC<w.heap.size)(hsz:zs.length<4611686018427387904):
  Calls Tryz.prog 84 #[.slice (some ⟨cC,off,none⟩) zs.length cap] w fun e w'=>
   e=.returned (.tuple #[])/\∃n os,w'=grow (putRow (Value.int .i64) (Sort.ahead w n) cC off (zs.mergeSort fun x y=>decide (x<=y)).toArray) os:=Any.slices_Sort_int Tryz.lays189 cC off cap zs w hH hblk hsz
def Tryz.lays146_ren:Go.Shelf.Ren:=⟨fun | 146=>141 | 221=>205 | 268=>252 | 138=>253 | 143=>254 | 195=>275 | 197=>276 | 218=>277 | 219=>278 | 260=>288 | 217=>255 | 225=>289 | 224=>290 | 267=>291 | 266=>279 | 314=>294 | n=>n,fun | 9=>9 | 31=>49 | 3=>3 | 4=>4 | 0=>0 | 105=>290 | 21=>21 | 5=>5 | 46=>187 | 119=>299 | 139=>302 | 138=>301 | 146=>303 | 51=>250 | n=>n,fun | 1=>0 | 3=>2 | 4=>3 | n=>n⟩
theorem Tryz.lays146:Go.Proofs.Lays.n146 Tryz.prog Tryz.lays146_ren:={
 mixed:=by kernel_rfl
 f138:=Tryz.func253.trans (adV some (by kernel_rfl))
 f143:=Tryz.func254.trans (adV some (by kernel_rfl))
 f146:=Tryz.func141.trans (adV some (by kernel_rfl))
 f195:=Tryz.func275.trans (adV some (by kernel_rfl))
 f197:=Tryz.func276.trans (adV some (by kernel_rfl))
 f217:=Tryz.func255.trans (adV some (by kernel_rfl))
 f218:=Tryz.func277.trans (adV some (by kernel_rfl))
 f219:=Tryz.func278.trans (adV some (by kernel_rfl))
 f221:=Tryz.func205.trans (adV some (by kernel_rfl))
 f224:=Tryz.func290.trans (adV some (by kernel_rfl))
 f225:=Tryz.func289.trans (adV some (by kernel_rfl))
 f260:=Tryz.func288.trans (adV some (by kernel_rfl))
 f266:=Tryz.func279.trans (adV some (by kernel_rfl))
 f267:=Tryz.func291.trans (adV some (by kernel_rfl))
 f268:=Tryz.func252.trans (adV some (by kernel_rfl))
 f314:=Tryz.func294.trans (adV some (by kernel_rfl))
 t0:=ad0
 a0:=acF
 z0:=acG
 v0:=acH
 t3:=acI
 a3:=ab0
 z3:=acj
 v3:=ack
 t4:=acm
 a4:=acn
 z4:=acQ
 v4:=acR
 t5:=ad1
 a5:=acT
 z5:=acU
 v5:=acV
 t9:=acS
 a9:=aca
 z9:=acJ
 v9:=acK
 t21:=Tryz.underlying21
 a21:=Tryz.isAgg21
 z21:=Tryz.sizeOf21
 v21:=Tryz.zeroValue21
 t31:=acL
 a31:=Tryz.isAgg49
 z31:=Tryz.sizeOf49
 v31:=Tryz.zeroValue49
 t46:=acW
 a46:=adx
 z46:=ady
 v46:=adz
 t51:=adA
 a51:=adB
 z51:=adC
 v51:=adD
 t105:=Tryz.underlying290
 a105:=Tryz.isAgg290
 z105:=Tryz.sizeOf290
 v105:=Tryz.zeroValue290
 t119:=Tryz.underlying299
 a119:=Tryz.isAgg299
 z119:=Tryz.sizeOf299
 t138:=Tryz.underlying301
 a138:=Tryz.isAgg301
 z138:=Tryz.sizeOf301
 v138:=Tryz.zeroValue301
 t139:=Tryz.underlying302
 a139:=Tryz.isAgg302
 z139:=Tryz.sizeOf302
 v139:=Tryz.zeroValue302
 t146:=Tryz.underlying303
 a146:=Tryz.isAgg303
 z146:=Tryz.sizeOf303
 v146:=Tryz.zeroValue303
 g1:=by kernel_rfl
 g3:=by kernel_rfl
 g4:=by kernel_rfl }
open Go.RowKit Go.Lib in
theorem Tryz.strings_Split(s sep:ByteArray)(m:Int)(w:World)(hs:s.size<4294967281)(hm:w.cell? ⟨0,0,none⟩=some (.int .i64 m))(h1:1<=sep.size):
  Calls Tryz.prog 141 #[.string s,.string sep] w fun e w'=>
   e=.returned (.slice (some ⟨w.heap.size,0,none⟩) (Lib.countB s sep+1) (Lib.countB s sep+1))/\w'=w.alloc (.cells ((Lib.splitB sep 0 (Lib.countB s sep) s).map Value.string).toArray 9):=Any.strings_Split Tryz.lays146 (by kernel_rfl) s sep m w hs hm h1
def Tryz.laysNm220_ren:Go.Shelf.Ren:=⟨fun | 20=>85 | n=>n,fun | 22=>71 | 3=>3 | 4=>4 | 0=>0 | n=>n,fun | n=>n⟩
theorem Tryz.laysNm220:Go.Proofs.Lays2.n20 Tryz.prog Tryz.laysNm220_ren:={
 mixed:=by kernel_rfl
 f20:=Tryz.func85.trans (adV some (by kernel_rfl))
 t0:=ad0
 a0:=acF
 z0:=acG
 v0:=acH
 t3:=acI
 a3:=ab0
 z3:=acj
 v3:=ack
 t4:=acm
 a4:=acn
 z4:=acQ
 v4:=acR
 t22:=Tryz.underlying71
 a22:=Tryz.isAgg71
 z22:=Tryz.sizeOf71
 v22:=Tryz.zeroValue71
 i3:=by kernel_rfl }
open Go.RowKit Go.Lib Go.Sort in
theorem Tryz.slices_Compact_int(cC off cap:Nat)(zs:List Int)(w:World)(hH:Holds (Value.int .i64) w cC off zs.toArray)(hsz:zs.length<=9223372036854775807)(Cs:zs.length<=cap):
  Calls Tryz.prog 85 #[.slice (some ⟨cC,off,none⟩) zs.length cap] w fun e w'=>e=.returned (.slice (some ⟨cC,off,none⟩) (Lib.compact zs).length cap)/\∃q,w'=putRow (Value.int .i64) (Sort.ahead w q) cC off (Lib.compact zs++List.replicate (zs.length-(Lib.compact zs).length) 0).toArray:=Any.slices_Compact_int Tryz.laysNm220 cC off cap zs w hH hsz Cs
open Go.RowKit Go.Lib Go.Sort in
theorem Tryz.slices_Compact_int_empty(a:Option Addr)(cap:Nat)(w:World):
  Calls Tryz.prog 85 #[.slice a 0 cap] w fun e w'=>e=.returned (.slice a 0 cap)/\w'=w:=Any.slices_Compact_int_empty Tryz.laysNm220 a cap w
open Go.RowKit Go.Sort in
theorem Tryz.slices_Sort_int_none(p:Option Addr)(cap:Nat)(w:World):
  Calls Tryz.prog 84 #[.slice p 0 cap] w fun e w'=>e=.returned (.tuple #[])/\w'=w:=Any.slices_Sort_int_none Tryz.lays189 p cap w
def Tryz.laysSortRect_ren:Go.Shelf.Ren:=⟨fun | 6=>82 | 15=>159 | 14=>158 | 28=>224 | 29=>225 | 20=>216 | 21=>217 | 22=>218 | 23=>219 | 24=>220 | 25=>221 | 26=>222 | 27=>223 | 46=>260 | 47=>261 | 48=>262 | 49=>263 | 50=>264 | 57=>281 | n=>n,fun | 22=>22 | 24=>87 | 25=>102 | 3=>3 | 39=>187 | 0=>0 | 53=>250 | 55=>252 | 4=>4 | 46=>244 | 45=>243 | 50=>234 | 5=>5 | 9=>9 | 66=>276 | 70=>280 | 76=>292 | 77=>293 | n=>n,fun | n=>n⟩
theorem Tryz.laysSortRect:Go.Proofs.SlLaysF0.n6 Tryz.prog Tryz.laysSortRect_ren:={
 mixed:=by kernel_rfl
 f6:=⟨Tryz.f82.name,by decide,Tryz.func82.trans (adV some (by kernel_rfl))⟩
 f14:=⟨Tryz.f158.name,by decide,Tryz.func158.trans (adV some (by kernel_rfl))⟩
 f15:=Tryz.func159.trans (adV some (by kernel_rfl))
 f20:=⟨Tryz.f216.name,by decide,Tryz.func216.trans (adV some (by kernel_rfl))⟩
 f21:=⟨Tryz.f217.name,by decide,Tryz.func217.trans (adV some (by kernel_rfl))⟩
 f22:=⟨Tryz.f218.name,by decide,Tryz.func218.trans (adV some (by kernel_rfl))⟩
 f23:=⟨Tryz.f219.name,by decide,Tryz.func219.trans (adV some (by kernel_rfl))⟩
 f24:=⟨Tryz.f220.name,by decide,Tryz.func220.trans (adV some (by kernel_rfl))⟩
 f25:=⟨Tryz.f221.name,by decide,Tryz.func221.trans (adV some (by kernel_rfl))⟩
 f26:=⟨Tryz.f222.name,by decide,Tryz.func222.trans (adV some (by kernel_rfl))⟩
 f27:=⟨Tryz.f223.name,by decide,Tryz.func223.trans (adV some (by kernel_rfl))⟩
 f28:=Tryz.func224.trans (adV some (by kernel_rfl))
 f29:=Tryz.func225.trans (adV some (by kernel_rfl))
 f46:=⟨Tryz.f260.name,by decide,Tryz.func260.trans (adV some (by kernel_rfl))⟩
 f47:=Tryz.func261.trans (adV some (by kernel_rfl))
 f48:=Tryz.func262.trans (adV some (by kernel_rfl))
 f49:=⟨Tryz.f263.name,by decide,Tryz.func263.trans (adV some (by kernel_rfl))⟩
 f50:=⟨Tryz.f264.name,by decide,Tryz.func264.trans (adV some (by kernel_rfl))⟩
 f57:=⟨Tryz.f281.name,by decide,Tryz.func281.trans (adV some (by kernel_rfl))⟩
 t0:=ad0
 a0:=acF
 z0:=acG
 v0:=acH
 t3:=acI
 a3:=ab0
 z3:=acj
 v3:=ack
 t4:=acm
 a4:=acn
 z4:=acQ
 v4:=acR
 t5:=ad1
 a5:=acT
 z5:=acU
 v5:=acV
 t9:=acS
 a9:=aca
 z9:=acJ
 v9:=acK
 t22:=Tryz.underlying22
 a22:=Tryz.isAgg22
 z22:=Tryz.sizeOf22
 v22:=Tryz.zeroValue22
 t25:=Tryz.underlying102
 a25:=Tryz.isAgg102
 z25:=Tryz.sizeOf102
 v25:=Tryz.zeroValue102
 t39:=acW
 a39:=adx
 z39:=ady
 v39:=adz
 t45:=Tryz.underlying243
 a45:=Tryz.isAgg243
 z45:=Tryz.sizeOf243
 v45:=Tryz.zeroValue243
 t46:=Tryz.underlying244
 a46:=Tryz.isAgg244
 z46:=Tryz.sizeOf244
 v46:=Tryz.zeroValue244
 t50:=Tryz.underlying234
 a50:=Tryz.isAgg234
 z50:=Tryz.sizeOf234
 v50:=Tryz.zeroValue234
 t53:=adA
 a53:=adB
 z53:=adC
 v53:=adD
 t55:=adE
 a55:=Tryz.isAgg252
 z55:=Tryz.sizeOf252
 v55:=Tryz.zeroValue252
 t66:=Tryz.underlying276
 a66:=Tryz.isAgg276
 z66:=Tryz.sizeOf276
 v66:=Tryz.zeroValue276
 t70:=Tryz.underlying280
 a70:=Tryz.isAgg280
 z70:=Tryz.sizeOf280
 v70:=Tryz.zeroValue280
 t76:=Tryz.underlying292
 a76:=Tryz.isAgg292
 z76:=Tryz.sizeOf292
 v76:=Tryz.zeroValue292
 t77:=Tryz.underlying293
 a77:=Tryz.isAgg293
 z77:=Tryz.sizeOf293
 v77:=Tryz.zeroValue293 }
end Go.Proofs
namespace Go.Proofs.YtfloceomobknoaaGreatDoor
namespace M
open Go.AM Go.RowKit
def iq:List (Nat×TI):=([20,151,152].map fun n=>(n,⟨.sc,1,16,[.nilIface],false⟩))++(([21,315,316].map fun n=>(n,⟨.int .i32,1,4,[.int .i32 0],false⟩))++(([9,10,11].map fun n=>(n,⟨.str,1,16,[.string ByteArray.empty],false⟩))++(([12,187,252,276].map fun n=>(n,⟨.int .u64,1,8,[.int .u64 0],false⟩))++(([127,128,195,196].map fun n=>(n,⟨.st [(0,1,false),(1,1,false),(2,1,false)],3,40,[.int .i64 0,.int .i64 0,.slice none 0 0],false⟩))++(([2,3,28,243].map fun n=>(n,⟨.int .i64,1,8,[.int .i64 0],false⟩))++(([5,6,312,313].map fun n=>(n,⟨.int .u8,1,1,[.int .u8 0],false⟩))++(([15,16,17,64,81,147,210,225,280,292].map fun n=>(n,⟨.sc,1,8,[.pointer none],false⟩))++([(4,⟨.sc,1,1,[.bool false],true⟩),
 (7,⟨.st [(0,1,false),(1,1,false),(2,1,false),(3,1,false)],4,24,[.int .i64 0,.int .i64 0,.bool false,.int .u8 0],false⟩),
 (8,⟨.st [(0,1,false),(1,1,false),(2,1,false),(3,1,false)],4,24,[.int .i64 0,.int .i64 0,.bool false,.int .u8 0],false⟩),
 (13,⟨.st [(0,1,false),(1,1,false)],2,24,[.string ByteArray.empty,.int .u64 0],false⟩),
 (14,⟨.st [(0,1,false),(1,1,false)],2,24,[.string ByteArray.empty,.int .u64 0],false⟩),
 (18,⟨.st [(0,1,false)],1,8,[.pointer none],false⟩),
 (19,⟨.st [(0,1,false)],1,8,[.pointer none],false⟩),
 (22,⟨.sl 87,1,24,[.slice none 0 0],false⟩),
 (23,⟨.sl 22,1,24,[.slice none 0 0],false⟩),
 (24,⟨.sl 95,1,24,[.slice none 0 0],false⟩),
 (25,⟨.sl 201,1,24,[.slice none 0 0],false⟩),
 (26,⟨.st [(0,1,false),(1,1,false),(2,1,false),(3,1,false)],4,96,[.slice none 0 0,.slice none 0 0,.slice none 0 0,.slice none 0 0],false⟩),
 (27,⟨.st [(0,1,false),(1,1,false),(2,1,false),(3,1,false)],4,96,[.slice none 0 0,.slice none 0 0,.slice none 0 0,.slice none 0 0],false⟩),
 (36,⟨.sl 159,1,24,[.slice none 0 0],false⟩),
 (37,⟨.sl 161,1,24,[.slice none 0 0],false⟩),
 (38,⟨.st [(0,1,false),(1,1,false),(2,1,false),(3,1,false),(4,1,false),(5,1,false),(6,1,false)],7,88,[.int .i64 0,.int .i64 0,.int .i64 0,.int .i64 0,.int .i64 0,.slice none 0 0,.slice none 0 0],false⟩),
 (39,⟨.st [(0,1,false),(1,1,false),(2,1,false),(3,1,false),(4,1,false),(5,1,false),(6,1,false)],7,88,[.int .i64 0,.int .i64 0,.int .i64 0,.int .i64 0,.int .i64 0,.slice none 0 0,.slice none 0 0],false⟩),
 (40,⟨.sl 47,1,24,[.slice none 0 0],false⟩),
 (44,⟨.st [(0,1,false),(1,1,false)],2,16,[.int .i64 0,.int .i64 0],false⟩),
 (262,⟨.st [(0,1,false),(1,1,false)],2,16,[.int .i64 0,.int .i64 0],false⟩),
 (45,⟨.st [(0,1,false),(1,1,false)],2,16,[.int .i64 0,.int .i64 0],true⟩),
 (263,⟨.st [(0,1,false),(1,1,false)],2,16,[.int .i64 0,.int .i64 0],true⟩),
 (46,⟨.st [(0,1,false),(1,1,false),(2,1,false),(3,1,false),(4,1,false),(5,2,true)],7,56,[.int .i64 0,.int .i64 0,.int .i64 0,.int .i64 0,.int .i64 0,.int .i64 0,.int .i64 0],false⟩),
 (47,⟨.st [(0,1,false),(1,1,false),(2,1,false),(3,1,false),(4,1,false),(5,2,true)],7,56,[.int .i64 0,.int .i64 0,.int .i64 0,.int .i64 0,.int .i64 0,.int .i64 0,.int .i64 0],true⟩),
 (49,⟨.sl 9,1,24,[.slice none 0 0],false⟩),
 (58,⟨.sl 128,1,24,[.slice none 0 0],false⟩),
 (59,⟨.sl 128,1,24,[.slice none 0 0],false⟩),
 (67,⟨.sl 59,1,24,[.slice none 0 0],false⟩),
 (68,⟨.sl 76,1,24,[.slice none 0 0],false⟩),
 (69,⟨.sl 71,1,24,[.slice none 0 0],false⟩),
 (70,⟨.sl 142,1,24,[.slice none 0 0],false⟩),
 (71,⟨.sl 3,1,24,[.slice none 0 0],false⟩),
 (72,⟨.sl 174,1,24,[.slice none 0 0],false⟩),
 (73,⟨.st [(0,4,true),(4,1,false),(5,1,false),(6,1,false),(7,1,false),(8,1,false),(9,1,false),(10,1,false),(11,1,false)],12,288,[.slice none 0 0,.slice none 0 0,.slice none 0 0,.slice none 0 0,.slice none 0 0,.slice none 0 0,.slice none 0 0,.slice none 0 0,.slice none 0 0,.slice none 0 0,.slice none 0 0,.slice none 0 0],false⟩),
 (74,⟨.st [(0,4,true),(4,1,false),(5,1,false),(6,1,false),(7,1,false),(8,1,false),(9,1,false),(10,1,false),(11,1,false)],12,288,[.slice none 0 0,.slice none 0 0,.slice none 0 0,.slice none 0 0,.slice none 0 0,.slice none 0 0,.slice none 0 0,.slice none 0 0,.slice none 0 0,.slice none 0 0,.slice none 0 0,.slice none 0 0],false⟩),
 (75,⟨.st [(0,1,false),(1,1,false),(2,1,false)],3,56,[.int .i64 0,.slice none 0 0,.slice none 0 0],false⟩),
 (76,⟨.st [(0,1,false),(1,1,false),(2,1,false)],3,56,[.int .i64 0,.slice none 0 0,.slice none 0 0],false⟩),
 (77,⟨.st [(0,1,false),(1,1,false),(2,1,false),(3,2,true),(5,2,true)],7,56,[.int .i64 0,.int .i64 0,.int .i64 0,.int .i64 0,.int .i64 0,.int .i64 0,.int .i64 0],false⟩),
 (78,⟨.st [(0,1,false),(1,1,false),(2,1,false),(3,2,true),(5,2,true)],7,56,[.int .i64 0,.int .i64 0,.int .i64 0,.int .i64 0,.int .i64 0,.int .i64 0,.int .i64 0],false⟩),
 (84,⟨.st [(0,4,true),(4,1,false),(5,1,false),(6,1,false),(7,1,false)],8,192,[.slice none 0 0,.slice none 0 0,.slice none 0 0,.slice none 0 0,.slice none 0 0,.slice none 0 0,.slice none 0 0,.slice none 0 0],false⟩),
 (85,⟨.st [(0,4,true),(4,1,false),(5,1,false),(6,1,false),(7,1,false)],8,192,[.slice none 0 0,.slice none 0 0,.slice none 0 0,.slice none 0 0,.slice none 0 0,.slice none 0 0,.slice none 0 0,.slice none 0 0],false⟩),
 (86,⟨.st [(0,1,false),(1,1,false),(2,1,false),(3,1,false)],4,32,[.int .i64 0,.int .i64 0,.int .i64 0,.int .i64 0],false⟩),
 (87,⟨.st [(0,1,false),(1,1,false),(2,1,false),(3,1,false)],4,32,[.int .i64 0,.int .i64 0,.int .i64 0,.int .i64 0],true⟩),
 (94,⟨.st [(0,2,true),(2,1,false),(3,1,false),(4,1,false),(5,1,false)],6,48,[.int .i64 0,.int .i64 0,.int .i64 0,.int .i64 0,.int .i64 0,.bool false],false⟩),
 (95,⟨.st [(0,2,true),(2,1,false),(3,1,false),(4,1,false),(5,1,false)],6,48,[.int .i64 0,.int .i64 0,.int .i64 0,.int .i64 0,.int .i64 0,.bool false],false⟩),
 (140,⟨.sl 205,1,24,[.slice none 0 0],false⟩),
 (141,⟨.st [(0,1,false),(1,1,false),(2,1,false)],3,72,[.slice none 0 0,.slice none 0 0,.slice none 0 0],false⟩),
 (142,⟨.st [(0,1,false),(1,1,false),(2,1,false)],3,72,[.slice none 0 0,.slice none 0 0,.slice none 0 0],false⟩),
 (148,⟨.sl 5,1,24,[.slice none 0 0],false⟩),
 (149,⟨.st [(0,1,false),(1,1,false)],2,32,[.pointer none,.slice none 0 0],false⟩),
 (150,⟨.st [(0,1,false),(1,1,false)],2,32,[.pointer none,.slice none 0 0],false⟩),
 (158,⟨.st [(0,1,false),(1,1,false),(2,1,false),(3,1,false)],4,56,[.string ByteArray.empty,.slice none 0 0,.int .i64 0,.int .i64 0],false⟩),
 (159,⟨.st [(0,1,false),(1,1,false),(2,1,false),(3,1,false)],4,56,[.string ByteArray.empty,.slice none 0 0,.int .i64 0,.int .i64 0],false⟩),
 (160,⟨.st [(0,1,false),(1,1,false),(2,1,false)],3,40,[.int .i64 0,.slice none 0 0,.int .i64 0],false⟩),
 (161,⟨.st [(0,1,false),(1,1,false),(2,1,false)],3,40,[.int .i64 0,.slice none 0 0,.int .i64 0],false⟩),
 (167,⟨.sl 170,1,24,[.slice none 0 0],false⟩),
 (169,⟨.st [(0,1,false),(1,1,false)],2,32,[.int .i64 0,.slice none 0 0],false⟩),
 (170,⟨.st [(0,1,false),(1,1,false)],2,32,[.int .i64 0,.slice none 0 0],false⟩),
 (173,⟨.st [(0,1,false),(1,1,false)],2,16,[.bool false,.int .i64 0],false⟩),
 (174,⟨.st [(0,1,false),(1,1,false)],2,16,[.bool false,.int .i64 0],false⟩),
 (175,⟨.sl 178,1,24,[.slice none 0 0],false⟩),
 (177,⟨.st [(0,1,false),(1,1,false)],2,32,[.slice none 0 0,.int .i64 0],false⟩),
 (178,⟨.st [(0,1,false),(1,1,false)],2,32,[.slice none 0 0,.int .i64 0],false⟩),
 (191,⟨.sl 196,1,24,[.slice none 0 0],false⟩),
 (193,⟨.sl 263,1,24,[.slice none 0 0],false⟩),
 (200,⟨.st [(0,1,false),(1,1,false),(2,1,false),(3,2,true)],5,56,[.string ByteArray.empty,.string ByteArray.empty,.int .i64 0,.int .i64 0,.int .i64 0],false⟩),
 (201,⟨.st [(0,1,false),(1,1,false),(2,1,false),(3,2,true)],5,56,[.string ByteArray.empty,.string ByteArray.empty,.int .i64 0,.int .i64 0,.int .i64 0],false⟩),
 (204,⟨.st [(0,1,false),(1,1,false)],2,32,[.string ByteArray.empty,.string ByteArray.empty],false⟩),
 (205,⟨.st [(0,1,false),(1,1,false)],2,32,[.string ByteArray.empty,.string ByteArray.empty],false⟩),
 (218,⟨.sl 4,1,24,[.slice none 0 0],false⟩),
 (228,⟨.mp 3 59,1,8,[.map none],false⟩),
 (250,⟨.int .u32,1,4,[.int .u32 0],false⟩),
 (266,⟨.mp 3 3,1,8,[.map none],false⟩),
 (267,⟨.st [(0,1,false)],1,24,[.slice none 0 0],false⟩),
 (268,⟨.st [(0,1,false)],1,24,[.slice none 0 0],false⟩),
 (270,⟨.mp 9 4,1,8,[.map none],false⟩),
 (300,⟨.st [(0,1,false),(1,1,false)],2,2,[.int .u8 0,.int .u8 0],false⟩),
 (301,⟨.st [(0,1,false),(1,1,false)],2,2,[.int .u8 0,.int .u8 0],false⟩),
 (307,⟨.st [(0,1,false),(1,1,false),(2,1,false),(3,1,false)],4,40,[.pointer none,.pointer none,.pointer none,.string ByteArray.empty],false⟩),
 (308,⟨.st [(0,1,false),(1,1,false),(2,1,false),(3,1,false)],4,40,[.pointer none,.pointer none,.pointer none,.string ByteArray.empty],false⟩),
 (317,⟨.st [(0,1,false),(1,1,false),(2,1,false),(3,1,false),(4,1,false),(5,1,false),(6,1,false),(7,1,false),(8,1,false),(9,1,false),(10,1,false)],11,48,[.int .u64 0,.int .u64 0,.int .u32 0,.int .u8 0,.int .u8 0,.int .u8 0,.int .u8 0,.nilFunc,.pointer none,.int .i32 0,.int .i32 0],false⟩),
 (318,⟨.st [(0,1,false),(1,1,false),(2,1,false),(3,1,false),(4,1,false),(5,1,false),(6,1,false),(7,1,false),(8,1,false),(9,1,false),(10,1,false)],11,48,[.int .u64 0,.int .u64 0,.int .u32 0,.int .u8 0,.int .u8 0,.int .u8 0,.int .u8 0,.nilFunc,.pointer none,.int .i32 0,.int .i32 0],false⟩)]++([1,30,32,33,34,35,42,43,48,50,52,53,54,55,56,57,60,61,62,63,66,79,80,82,83,89,90,91,92,93,97,98,99,100,101,102,103,104,106,107,108,109,110,111,112,113,114,115,116,117,118,119,120,121,122,123,124,125,126,129,130,131,132,133,134,135,136,137,138,139,143,145,146,154,155,156,157,162,163,164,165,166,168,171,172,176,179,180,181,182,183,184,185,186,188,189,190,192,194,197,199,202,203,206,207,208,209,211,212,213,215,216,217,219,220,221,222,223,224,226,227,229,231,232,233,235,236,237,238,240,241,242,245,246,247,248,249,251,253,254,255,256,257,258,259,260,261,264,265,269,272,273,274,275,277,278,279,281,282,283,284,286,288,289,291,294,295,296,304,314].map fun n=>(n,⟨.sc,1,8,[.nilFunc],false⟩))))))))))
def mdL:List (Nat×Nat):=[(112,0),(191,2),(191,90),(166,0),(82,0),(84,0),(85,0),(86,0),(161,0),(88,0),(89,0),(100,0),(101,0),(102,0),(243,0),(182,0),(183,0),(242,1)]
def US:List (Nat×Nat)->Nat->Nat->Bool
 | [],_,_=>false
 | (f,j)::r,f',j'=>match Nat.beq f f',Nat.beq j j' with
  | true,true=>true
  | _,_=>US r f' j'
def Env (S : Nat → Prop) (w : World) : Prop := S 0 ∧ S 1 ∧ (∃ m : Int, w.cell? ⟨0, 0, none⟩ = some (.int .i64 m)) ∧ Lib.TabIs Tryz.prog w "internal/strconv.uint64pow10" .u64 Lib.pow10Tab
theorem St : Tryz.prog.globalNamed "internal/strconv.uint64pow10" = some 1 := by kernel_rfl
theorem MO(S S':Nat->Prop)(w w':World)(h:Env S w)(hS:∀b,S b->S' b)(hk:∀b,S b->w'.heap[b]?=w.heap[b]?):Env S' w':=by
 obtain⟨h1,h2,⟨m,hm⟩,h3⟩:=h;refine⟨hS _ h1,hS _ h2,⟨m,(adP (hk _ h1)).trans hm⟩,?_⟩;unfold Lib.TabIs World.var? at h3 ⊢;simp only[St,Option.bind_some]at h3 ⊢;rw[hk _ h2];exact h3
noncomputable def C:Ctx:={ P:=Tryz.prog,T:=wq iq,md:=US mdL,E:=Env,bl:=fun f=>Nat.beq f 116||(Nat.beq f 120||Nat.beq f 121),bt:=fun t=>Nat.beq t 150,bn:=fun t=>Nat.beq t 161||(Nat.beq t 142||(Nat.beq t 69||(Nat.beq t 23||(Nat.beq t 74||Nat.beq t 85)))),bo:=fun t=>Nat.beq t 268,bf:=fun d=>Nat.beq d 87||(Nat.beq d 79||Nat.beq d 81) }
theorem hC1:iq.all (Wd Tryz.prog)=true:=by kernel_rfl
theorem hC2:iq.all (Sf Tryz.prog)=true:=by kernel_rfl
theorem hC3:iq.all (XF Tryz.prog)=true:=by kernel_rfl
theorem hC4:iq.all (Sl Tryz.prog)=true:=by kernel_rfl
theorem hC:bI C:=⟨Uz hC3,Se hC1,fun S S' w w' h hS hk _=>MO S S' w w' h hS hk,by kernel_rfl,Sj hC2,Pg hC4⟩
def i64(n:Int):PV:=.im (.int .i64 n)
def bool(b:Bool):PV:=.im (.bool b)
def rc(r:Reg.ae):List PV:=[i64 r.x0,i64 r.y0,i64 r.x1,i64 r.y1]
def sp(p:Int×Int):List PV:=[i64 p.1,i64 p.2]
def aj(l:List Reg.ae):PV:=.sl (l.map rc)
def ints(l:List Int):PV:=.sl (l.map fun n=>[i64 n])
def fD(l:Reg.aU):PV:=.sl (l.map sp)
variable {α:Type}
theorem Pn{l:List α}{i:Nat}{x:α}(f:α->List PV)(h:l[i]?=some x):(l.map f)[i]?=some (f x):=by rw[aak,h];rfl
open Reg (ae aU)
theorem G5(n lo hi:Int):af C 235 [.pv (i64 n),.pv (i64 lo),.pv (i64 hi)] (.p (bool (decide (lo<=n)&&decide (n<=hi)))) []:=by
 refine fW hC Tryz.func235 rfl (by kernel_rfl) fun _=>?_;refine iW ?_ ?_<;>intro h<;>(refine⟨?_,trivial⟩)<;>simp[bool,h]
theorem nJ(n:Int):af C 164 [.pv (i64 n)] (.p (bool (Reg.kR n))) []:=by
 refine fW hC Tryz.func164 rfl (by kernel_rfl) fun _=>?_;refine⟨_,_,(G5 n (-1000000) 1000000),?_⟩;refine⟨?_,trivial⟩;rfl
theorem Br(x y:Int):af C 244 [.pv (.ag [i64 x,i64 y])] (.p (bool (Reg.kR x&&Reg.kR y))) []:=by
 refine fW hC Tryz.func244 rfl (by kernel_rfl) fun _=>?_;refine⟨_,_,(nJ x),?_⟩;refine iW ?_ ?_<;>intro h
 ·refine⟨_,_,(nJ y),?_⟩;refine⟨?_,trivial⟩;simp[bool,h]
 refine⟨?_,trivial⟩;simp[bool,h]
theorem yL(a b:ae):af C 92 [.pv (.ag (rc a)),.pv (.ag (rc b))] (.p (bool (Reg.before a b))) []:=by
 refine fW hC Tryz.func92 rfl (by kernel_rfl) fun _=>?_;refine iW ?_ ?_<;>intro h
 ·refine⟨?_,trivial⟩;simp[bool,Reg.before,h]
 refine iW ?_ ?_<;>intro h2<;>(refine⟨?_,trivial⟩)<;>simp[bool,Reg.before,h,h2]
def aL(l:aU)(x:Int):Bool:=l.any fun p=>decide (p.1<=x)&&decide (x<p.2)
theorem aZ{l:List α}{i:Nat}{r:α}(h:l[i]?=some r):l.take (i+1)=l.take i++[r]:=by rw[adF,h];rfl
theorem ak{l:List α}{i:Nat}(h:i<l.length):∃p,l[i]?=some p:=⟨l[i],acg h⟩
theorem idx{l:List α}{f:α->List PV}{i:Int}{k:Nat}{x:α}(h:i=k)(hx:l[k]?=some x):0<=i/\(l.map f)[i.toNat]?=some (f x):=by
 subst h;exact⟨by omega,by rw[ad2];exact Pn f hx⟩
theorem a8{a b:Int}(h:a=b):AV.p (i64 a)=AV.p (i64 b):=by rw[h]
theorem ai(l:List α)(f:α->List PV):(l.map f).length=l.length:=aej ..
theorem sI(l:aU)(x:Int)(hl:l.length<=140737488355328):af C 212 [.pv (fD l),.pv (i64 x)] (.p (bool (aL l x))) []:=by
 refine fW hC Tryz.func212 rfl (by kernel_rfl) fun _=>?_;refine aJ (fun i:Nat=>i<=l.length/\aL (l.take i) x=false) (fun i=>[(0,.p (fD l)),(1,.p (i64 x)),(5,.p (i64 i))]) (fun _=>[]) (fun i=>l.length-i) 0 _ (au.refl _ _) ⟨aaj _,rfl⟩ ⟨Z,Z,Z,Y⟩ trivial fun i hi t h=>?_;refine iW ?_ ?_<;>intro h1
 ·simp only[aej]at h1;obtain⟨p,hp⟩:=ak (l:=l) (i:=i) (by omega);refine⟨(sp p),(idx rfl hp),?_⟩;refine iW ?_ ?_<;>intro h3
  ·refine⟨(sp p),(idx rfl hp),?_⟩;refine iW ?_ ?_<;>intro h4
   ·refine⟨?_,trivial⟩;have:aL l x=true:=by
     unfold aL;rw[aci];exact⟨p,aad hp,by simp[h3,h4]⟩
    simp[bool,this]
   refine⟨⟨by omega,by omega⟩,?_⟩;refine⟨(i+1),_,au.refl _ _,?_⟩;refine⟨⟨by omega,?_⟩,by omega,⟨Z,Z,Z,Y⟩,trivial⟩;rw[aZ hp];simp only[aL]at hi;simp[aL,hi.2,h4]
  refine⟨⟨by omega,by omega⟩,?_⟩;refine⟨(i+1),_,au.refl _ _,?_⟩;refine⟨⟨by omega,?_⟩,by omega,⟨Z,Z,Z,Y⟩,trivial⟩;rw[aZ hp];simp only[aL]at hi;simp[aL,hi.2,h3]
 refine⟨?_,trivial⟩;simp only[aej]at h1;have h2:l.take i=l:=adW (by omega);rw[h2]at hi;simp[bool,hi.2]
theorem MP(x:Int):∀(l:List Int) (lo:Nat),(∀k y,k<lo->l[k]?=some y->y<x)->l[lo]?=some x->Reg.put l x=l:=by
 intro l
 induction l with
 | nil=>intro lo _ h;simp at h
 | cons a l ih=>
  intro lo h1 h2;cases lo with
  | zero=>
   simp at h2;subst h2;simp[Reg.put]
  | succ lo=>
   have ha:a<x:=h1 0 a (by omega) rfl;rw[Reg.put,aap ha,ih lo (fun k y hk hy=>h1 (k+1) y (by omega) (by simpa using hy)) (by simpa using h2)]
theorem Po(x:Int):∀(l:List Int) (lo:Nat),lo<=l.length->(∀k y,k<lo->l[k]?=some y->y<x)->(∀y,l[lo]?=some y->x<y)->Reg.put l x=l.take lo++[x]++l.drop lo:=by
 intro l
 induction l with
 | nil=>intro lo h0 _ _;simp at h0;subst h0;simp[Reg.put]
 | cons a l ih=>
  intro lo h0 h1 h2;cases lo with
  | zero=>
   have ha:=h2 a rfl;rw[Reg.put,aaa (by omega),aaa (by omega)];simp
  | succ lo=>
   have ha:a<x:=h1 0 a (by omega) rfl;rw[Reg.put,aap ha,ih lo (by simpa using h0) (fun k y hk hy=>h1 (k+1) y (by omega) (by simpa using hy)) (fun y hy=>h2 y (by simpa using hy))];simp
theorem jL{l:List Int}(h:Reg.bF l){i j:Nat}{a b:Int}(ha:l[i]?=some a)(hb:l[j]?=some b)(DX:i<=j):a<=b:=by
 by_cases e:i=j
 ·subst e;rw[ha]at hb;injection hb with hb;omega
 have hi:=(aao.1 ha);have hj:=(aao.1 hb);obtain⟨XS,Jw⟩:=hi;obtain⟨Xe,Ro⟩:=hj;have:=(aaS.1 h) i j XS Xe (by omega);omega
theorem iH(x:Int):∀(l:List Int),(Reg.put l x).length<=l.length+1:=by
 intro l
 induction l with
 | nil=>simp[Reg.put]
 | cons a l ih=>
  rw[Reg.put];split
  ·simp;omega
  split<;>simp
theorem CU(l:List ae)(r:ae):Reg.aE (l++[r])=Reg.put (Reg.put (Reg.aE l) r.y0) r.y1:=by
 unfold Reg.aE;rw[aaD];rfl
theorem Km{l:List ae}{k:Nat}{r:ae}(h:l[k]?=some r):l.take (k+1)=l.take k++[r]:=by
 rw[adF,h];rfl
theorem CV{l:List ae}{k:Nat}{r:ae}(h:l[k]?=some r):Reg.aE (l.take (k+1))=Reg.put (Reg.put (Reg.aE (l.take k)) r.y0) r.y1:=by
 rw[Km h,CU]
theorem ae9(l:List ae):Reg.bF (Reg.aE l):=(Reg.cT l).1
theorem dt(l:List Int):∀r∈(l.map fun n=>[i64 n]),r.length=1:=by
 intro r hr;obtain⟨n,_,rfl⟩:=adS.1 hr;rfl
theorem mq{a b:Nat}:((a:Int)+(b:Int)).tdiv 2=((a+b) / 2:Nat):=by
 rw[abk (by omega)];omega
theorem gJ{es:List (List PV)}{n a b:Nat}(h:∀r∈es,r.length=n):∀r∈(es.take b).drop a,r.length=n:=fun r hr=>h r (acM (abq hr))
theorem ru(l:List Int)(x:Int)(hR:Reg.bF l)(hN:l.length<=10000000000000):af C 236 [.pv (ints l),.pv (i64 x)] (.p (ints (Reg.put l x))) []:=by
 refine fW hC Tryz.func236 rfl (by kernel_rfl) fun _=>?_;refine aJ (fun p:Nat×Nat=>p.1<=p.2/\p.2<=l.length/\(∀k y,k<p.1->l[k]?=some y->y<x)/\(∀k y,p.2<=k->l[k]?=some y->x<=y)) (fun p=>[(0,.p (ints l)),(1,.p (i64 x)),(5,.p (i64 p.1)),(6,.p (i64 p.2))]) (fun _=>[]) (fun p=>p.2-p.1) (0,l.length) _ (au.refl _ _) ⟨aaj _,aam _,fun k y h=>by omega,fun k y h1 h2=>?_⟩ ⟨rfl,rfl,rfl,a8 (by rw[ai]),trivial⟩ trivial fun ⟨lo,hi⟩ xB t h=>?_
 ·rw[abI (by omega)]at h2;cases h2
 obtain⟨q1,q2,q3,q4⟩:=xB;simp only at q1 q2 q3 q4;have lm:=ai l fun n=>[i64 n];refine iW ?_ ?_<;>intro h1<;>try simp only[zB]at h1
 ·refine⟨⟨by omega,by omega⟩,?_⟩;refine⟨by decide,⟨?_,?_⟩,?_⟩
  ·rw[mq];omega
  ·rw[mq];omega
  obtain⟨y,hy⟩:=ak (l:=l) (i:=(lo+hi) / 2) (by omega);refine⟨[i64 y],(idx mq hy),?_⟩;refine iW ?_ ?_<;>intro h2
  ·refine⟨⟨by rw[mq];omega,by rw[mq];omega⟩,?_⟩;refine⟨((lo+hi) / 2+1,hi),_,au.refl _ _,?_⟩;refine⟨⟨by simp only;omega,q2,fun k z hk hz=>?_,q4⟩,by simp only;omega,⟨rfl,rfl,a8 (by rw[mq];rfl),Z,Y⟩,trivial⟩;exact Int.lt_of_le_of_lt (jL hR hz hy (by simp only at hk;omega)) h2
  refine⟨(lo,(lo+hi) / 2),_,au.refl _ _,?_⟩;refine⟨⟨by simp only;omega,by simp only;omega,q3,fun k z hk hz=>?_⟩,by simp only;omega,⟨rfl,rfl,rfl,a8 mq,trivial⟩,trivial⟩;have:=jL hR hy hz hk;omega
 have e:lo=hi:=by omega
 subst e;have fresh:(∀y,l[lo]?=some y->y≠x)->Reg.put l x=l.take lo++[x]++l.drop lo:=fun b8=>Po x l lo q2 q3 fun y hy=>by
  have h5:=q4 lo y (aam _) hy;have h6:=b8 y hy;omega
 refine iW ?_ ?_<;>intro h2<;>try simp only[zB]at h2
 ·rw[lm]at h2;obtain⟨y,hy⟩:=ak (l:=l) (i:=lo) (by omega);refine⟨[i64 y],(idx rfl hy),?_⟩;refine iW ?_ ?_<;>intro h3
  ·refine⟨?_,trivial⟩;rw[MP x l lo q3 (by rw[hy,h3])]
  have hp:=fresh fun z hz=>by rw[hy]at hz;injection hz with hz;subst hz;exact h3
  refine⟨⟨by decide,by omega,by rw[lm];omega,dt l⟩,?_⟩;refine⟨⟨gJ (dt l),by simp only[aaN,aat,lm];omega,by simp only[aaN,aat,lm];omega⟩,?_⟩;refine⟨⟨by simp,by simp[lm];omega,by simp[lm];omega⟩,?_⟩;refine⟨⟨by omega,by rw[lm];omega,by omega,dt l⟩,?_⟩;refine⟨⟨gJ (dt l),by simp[lm];omega,by simp[lm];omega⟩,?_⟩;refine⟨?_,trivial⟩;rw[hp];simp[ints,aco,acb,i64];rw[adW (by simp)]
 have hp:=fresh fun z hz=>by rw[abI (by omega)]at hz;cases hz
 refine⟨⟨by decide,by omega,by rw[lm];omega,dt l⟩,?_⟩;refine⟨⟨gJ (dt l),by simp only[aaN,aat,lm];omega,by simp only[aaN,aat,lm];omega⟩,?_⟩;refine⟨⟨by simp,by simp[lm];omega,by simp[lm];omega⟩,?_⟩;refine⟨⟨by omega,by rw[lm];omega,by omega,dt l⟩,?_⟩;refine⟨⟨gJ (dt l),by simp[lm];omega,by simp[lm];omega⟩,?_⟩;refine⟨?_,trivial⟩;rw[hp];simp[ints,aco,acb,i64];rw[adW (by simp)]
theorem oc{l:List ae}{k:Nat}{r:ae}(h:l[k]?=some r):Reg.dU (l.drop k)=if Reg.c7 r=true then (if r.x1<=r.x0\/r.y1<=r.y0 then 13 else Reg.dU (l.drop (k+1))) else 1:=by
 obtain⟨a,b⟩:=aao.1 h;rw[acX a,b];rfl
theorem yM(l:List ae):af C 91 [.pv (aj l)] (.p (i64 (Reg.cz l))) []:=by
 refine fW hC Tryz.func91 rfl (by kernel_rfl) fun _=>?_;have lm:=ai l rc;refine iW ?_ ?_<;>intro h0
 ·rw[lm]at h0;refine⟨?_,trivial⟩;rw[Reg.cz,aap (by omega)];rfl
 rw[lm]at h0;have hc:Reg.cz l=Reg.dU l:=by rw[Reg.cz,aaa (by omega)]
 refine aJ (fun i:Nat=>i<=l.length/\Reg.dU l=Reg.dU (l.drop i)) (fun i=>[(0,.p (aj l)),(3,.p (i64 i))]) (fun _=>[]) (fun i=>l.length-i) 0 _ (au.refl _ _) ⟨aaj _,rfl⟩ ⟨Z,Z,Y⟩ trivial fun i hi t h=>?_;refine iW ?_ ?_<;>intro h1
 ·rw[lm]at h1;obtain⟨r,hr⟩:=ak (l:=l) (i:=i) (by omega);have hs:=oc hr;refine⟨(rc r),(idx rfl hr),?_⟩;refine⟨_,_,(nJ r.x0),?_⟩;refine iW ?_ ?_<;>intro g1
  ·refine⟨?_,trivial⟩;rw[hc,hi.2,hs,aaa (by simp[Reg.c7,g1])];rfl
  refine⟨_,_,(nJ r.y0),?_⟩;refine iW ?_ ?_<;>intro g2
  ·refine⟨?_,trivial⟩;rw[hc,hi.2,hs,aaa (by simp[Reg.c7,g2])];rfl
  refine⟨_,_,(nJ r.x1),?_⟩;refine iW ?_ ?_<;>intro g3
  ·refine⟨?_,trivial⟩;rw[hc,hi.2,hs,aaa (by simp[Reg.c7,g3])];rfl
  refine⟨_,_,(nJ r.y1),?_⟩;refine iW ?_ ?_<;>intro g4
  ·refine⟨?_,trivial⟩;rw[hc,hi.2,hs,aaa (by simp[Reg.c7,g4])];rfl
  have hg:Reg.c7 r=true:=by simp[Reg.c7,g1,g2,g3,g4]
  rw[aap hg]at hs;refine iW ?_ ?_<;>intro e1
  ·refine⟨?_,trivial⟩;rw[hc,hi.2,hs,aap (.inl e1)];rfl
  refine iW ?_ ?_<;>intro e2
  ·refine⟨?_,trivial⟩;rw[hc,hi.2,hs,aap (.inr e2)];rfl
  refine⟨⟨by omega,by omega⟩,?_⟩;refine⟨(i+1),_,au.refl _ _,?_⟩;refine⟨⟨by omega,?_⟩,by omega,⟨Z,Z,Y⟩,trivial⟩;rw[hi.2,hs,aaa (by omega)]
 rw[lm]at h1;refine⟨?_,trivial⟩;rw[hc,hi.2,ab1 (by omega)];rfl
theorem rv{l m:List α}{k:Nat}{r t:α}(h:l[k]?=some r)(h':m[k]?=some t):(l.drop k=m.drop k)↔(r=t/\l.drop (k+1)=m.drop (k+1)):=by
 obtain⟨a,b⟩:=aao.1 h;obtain⟨a',b'⟩:=aao.1 h';rw[acX a,acX a',b,b',List.cons.injEq]
theorem Az(l m:List ae)(hN:l.length<=140737488355328):af C 12 [.pv (aj l),.pv (aj m)] (.p (bool (decide (l=m)))) []:=by
 refine fW hC Tryz.func12 rfl (by kernel_rfl) fun _=>?_;have lm:=ai l rc;have mm:=ai m rc;refine iW ?_ ?_<;>intro h0
 ·rw[lm,mm]at h0;refine⟨?_,trivial⟩;rw[aaz (fun e:l=m=>h0 (by rw[e]))];rfl
 rw[lm,mm]at h0;refine aJ (fun i:Nat=>i<=l.length/\(l=m↔l.drop i=m.drop i)) (fun i=>[(0,.p (aj l)),(1,.p (aj m)),(5,.p (i64 i))]) (fun _=>[]) (fun i=>l.length-i) 0 _ (au.refl _ _) ⟨aaj _,aaT⟩ ⟨Z,Z,Z,Y⟩ trivial fun i hi t h=>?_;refine iW ?_ ?_<;>intro h1
 ·rw[lm]at h1;obtain⟨r,hr⟩:=ak (l:=l) (i:=i) (by omega);obtain⟨q,hq⟩:=ak (l:=m) (i:=i) (by omega);have hs:=rv hr hq;refine⟨(rc r),(idx rfl hr),?_⟩;refine⟨(rc q),(idx rfl hq),?_⟩;have he:=Reg.ae.yK r q;refine iW ?_ ?_<;>intro h2<;>try simp only[zB]at h2
  ·refine⟨?_,trivial⟩;rw[aaz];rfl;rw[hi.2,hs,he];simp only[aaC,abF]at h2;intro ⟨⟨e1,e2,e3,e4⟩,_⟩;simp[e1,e2,e3,e4]at h2
  refine⟨⟨by omega,by omega⟩,?_⟩;refine⟨(i+1),_,au.refl _ _,?_⟩;refine⟨⟨by omega,?_⟩,by omega,⟨Z,Z,Z,Y⟩,trivial⟩;rw[hi.2,hs,he];simp[aaH]at h2;exact and_iff_right h2
 refine⟨?_,trivial⟩;rw[lm]at h1;rw[acd];rfl;rw[hi.2,ab1 (by omega),ab1 (by omega)]
theorem wA{l:aU}{a b:Int}:∀(k:Nat),(∀i p,i<k->l[i]?=some p->p.2<a)->k<=l.length->Reg.dG l a b=l.take k++Reg.dG (l.drop k) a b:=by
 induction l with
 | nil=>intro k _ hk;simp at hk;subst hk;simp
 | cons p l ih=>
  intro k h hk;cases k with
  | zero=>simp
  | succ k=>
   have hp:p.2<a:=h 0 p (by omega) rfl;rw[Reg.dG,aap hp,ih k (fun i q hi hq=>h (i+1) q (by omega) (by simpa using hq)) (by simpa using hk)];simp
theorem rT{l:aU}{a b:Int}(h:∀p,l[0]?=some p->¬(p.2<a)):Reg.dG l a b=Reg.ic l a b:=by
 cases l with
 | nil=>rfl
 | cons p l=>rw[Reg.dG,aaa (h p rfl)]
theorem dm(l:List ae):(Reg.aE l).length<=2*l.length:=by
 unfold Reg.aE
 suffices h:∀(o:List Int),(l.foldl (fun out r=>Reg.put (Reg.put out r.y0) r.y1) o).length<=o.length+2*l.length by
  have:=h [];simpa using this
 induction l with
 | nil=>intro o;simp
 | cons r l ih=>
  intro o;have h1:=ih (Reg.put (Reg.put o r.y0) r.y1);have h2:=iH r.y0 o;have h3:=iH r.y1 (Reg.put o r.y0);simp only[aaq,aaB];omega
theorem wB(l:List ae)(hN:l.length<=4398046511104):af C 165 [.pv (aj l)] (.p (ints (Reg.aE l))) []:=by
 refine fW hC Tryz.func165 rfl (by kernel_rfl) fun _=>?_;have lm:=ai l rc;refine aJ (fun i:Nat=>i<=l.length) (fun i=>[(0,.p (aj l)),(3,.p (ints (Reg.aE (l.take i)))),(4,.p (i64 i))]) (fun _=>[]) (fun i=>l.length-i) 0 _ (au.nil hC _ 3 rfl) (aaj _) ⟨Z,Z,Z,Y⟩ trivial fun i hi t h=>?_;refine iW ?_ ?_<;>intro h1
 ·rw[lm]at h1;obtain⟨r,hr⟩:=ak (l:=l) (i:=i) (by omega);have hL:=dm (l.take i);have OV:=aaA i l;refine⟨(rc r),(idx rfl hr),?_⟩;have V7:=iH r.y0 (Reg.aE (l.take i));refine⟨_,_,(ru _ r.y0 (ae9 _) (by omega)),?_⟩;refine⟨(rc r),(idx rfl hr),?_⟩;refine⟨_,_,(ru _ r.y1 (Reg.iG _ _ (ae9 _)) (by omega)),?_⟩;refine⟨⟨by omega,by omega⟩,?_⟩;refine⟨(i+1),_,au.refl _ _,?_⟩;refine⟨by omega,by omega,⟨rfl,?_,Z,Y⟩,trivial⟩;rw[CV hr];rfl
 rw[lm]at h1;refine⟨?_,trivial⟩;rw[adW (by omega)]
theorem Su(a b:Int×Int):a=b↔a.1=b.1/\a.2=b.2:=Prod.ext_iff
theorem AA(l m:aU)(hN:l.length<=140737488355328):af C 237 [.pv (fD l),.pv (fD m)] (.p (bool (decide (l=m)))) []:=by
 refine fW hC Tryz.func237 rfl (by kernel_rfl) fun _=>?_;have lm:=ai l sp;have mm:=ai m sp;refine iW ?_ ?_<;>intro h0
 ·rw[lm,mm]at h0;refine⟨?_,trivial⟩;rw[aaz (fun e:l=m=>h0 (by rw[e]))];rfl
 rw[lm,mm]at h0;refine aJ (fun i:Nat=>i<=l.length/\(l=m↔l.drop i=m.drop i)) (fun i=>[(0,.p (fD l)),(1,.p (fD m)),(5,.p (i64 i))]) (fun _=>[]) (fun i=>l.length-i) 0 _ (au.refl _ _) ⟨aaj _,aaT⟩ ⟨Z,Z,Z,Y⟩ trivial fun i hi t h=>?_;refine iW ?_ ?_<;>intro h1
 ·rw[lm]at h1;obtain⟨r,hr⟩:=ak (l:=l) (i:=i) (by omega);obtain⟨q,hq⟩:=ak (l:=m) (i:=i) (by omega);have hs:=rv hr hq;refine⟨(sp r),(idx rfl hr),?_⟩;refine⟨(sp q),(idx rfl hq),?_⟩;have he:=Su r q;refine iW ?_ ?_<;>intro h2<;>try simp only[zB]at h2
  ·refine⟨?_,trivial⟩;rw[aaz];rfl;rw[hi.2,hs,he];simp only[aaC,abF]at h2;intro ⟨⟨e1,e2⟩,_⟩;simp[e1,e2]at h2
  refine⟨⟨by omega,by omega⟩,?_⟩;refine⟨(i+1),_,au.refl _ _,?_⟩;refine⟨⟨by omega,?_⟩,by omega,⟨Z,Z,Z,Y⟩,trivial⟩;rw[hi.2,hs,he];simp[aaH]at h2;exact and_iff_right h2
 refine⟨?_,trivial⟩;rw[lm]at h1;rw[acd];rfl;rw[hi.2,ab1 (by omega),ab1 (by omega)]
theorem II(l:aU):∀r∈l.map sp,r.length=2:=by
 intro r hr;obtain⟨n,_,rfl⟩:=adS.1 hr;rfl
theorem Er{l:aU}{k:Nat}{p:Int×Int}{a b:Int}(h:l[k]?=some p):Reg.ic (l.drop k) a b=if p.1<=b then Reg.ic (l.drop (k+1)) (min a p.1) (max b p.2) else (a,b)::l.drop k:=by
 obtain⟨h1,h2⟩:=aao.1 h;rw[acX h1,h2];rfl
theorem ae_(l:aU)(a b:Int)(hN:l.length<=8796093022207):af C 238 [.pv (fD l),.pv (.ag (sp (a,b)))] (.p (fD (Reg.dG l a b))) []:=by
 refine uX ⟨[],[0,2],[],[],[(7,[true,true,true,true,true,true,true,true,true,true,true,true,false,true,false,true,true,false,true,true])],[]⟩ hC Tryz.func238 rfl (by kernel_rfl) fun _=>?_;have lm:=ai l sp;refine p7 (fun i:Nat=>i<=l.length/\Reg.dG l a b=l.take i++Reg.ic (l.drop i) a b) (fun i=>[(0,.p (fD l)),(3,.bx 3 0),(5,.ow 5),(6,.p (i64 i))]) (fun i=>[(3,.box [.p (i64 a),.p (i64 b)]),(5,.row 263 ((l.take i).map sp))]) (fun i hi t h=>?_) ?_
 ·obtain⟨XS,Jw⟩:=hi;have lt:=aaA i l;refine p7 (fun y:Nat×Int×Int=>(i<=y.1/\y.1<=l.length)/\Reg.dG l a b=l.take i++(y.2.1,y.2.2)::l.drop y.1) (fun y=>[(0,.p (fD l)),(3,.bx 3 0),(5,.ow 5),(6,.p (i64 y.1))]) (fun y=>[(3,.box [.p (i64 y.2.1),.p (i64 y.2.2)]),(5,.row 263 ((l.take i).map sp))]) (fun y hy t h=>?_) ?_
  ·obtain⟨k,a',b'⟩:=y;obtain⟨UT,Sv⟩:=hy;simp only at UT Sv;refine⟨⟨by simp,by simp;omega,by simp;omega⟩,?_⟩;refine⟨⟨by omega,by rw[lm];omega,by omega,II l⟩,?_⟩;refine⟨⟨gJ (II l),by simp[lm];omega,by simp[lm];omega⟩,?_⟩;refine⟨?_,trivial⟩;rw[Sv];simp[fD,aco,acb,sp,i64];rw[adW (by simp)]
  refine aJ (fun y:Nat×Int×Int=>(i<=y.1/\y.1<=l.length)/\Reg.dG l a b=l.take i++Reg.ic (l.drop y.1) y.2.1 y.2.2) (fun y=>[(0,.p (fD l)),(3,.bx 3 0),(5,.ow 5),(6,.p (i64 y.1))]) (fun y=>[(3,.box [.p (i64 y.2.1),.p (i64 y.2.2)]),(5,.row 263 ((l.take i).map sp))]) (fun y=>l.length-y.1) (i,a,b) _ (au.refl _ _) ⟨⟨aam _,XS⟩,Jw⟩ ⟨Z,Z,Z,Z,Y⟩ ⟨Z,Z,Y⟩ fun y hy t h=>?_;obtain⟨k,a',b'⟩:=y;obtain⟨UT,Sv⟩:=hy;simp only at UT Sv;refine iW ?_ ?_<;>intro h1<;>try simp only[zB]at h1
  ·rw[lm]at h1;obtain⟨r,hr⟩:=ak (l:=l) (i:=k) (by omega);have hs:=Er (a:=a') (b:=b') hr;refine⟨(sp r),(idx rfl hr),?_⟩;refine iW ?_ ?_<;>intro h2<;>try simp only[zB]at h2
   ·rw[aap h2]at hs;refine⟨(sp r),(idx rfl hr),?_⟩;refine⟨(sp r),(idx rfl hr),?_⟩;refine⟨⟨by omega,by omega⟩,?_⟩;exact⟨(k+1,min a' r.1,max b' r.2),_,au.refl _ _,⟨by simp only;omega,by rw[Sv,hs]⟩,by simp only;omega,⟨Z,Z,Z,Z,Y⟩,⟨Z,Z,Y⟩⟩
   rw[aaa h2]at hs;exact⟨(k,a',b'),⟨UT,by rw[Sv,hs]⟩,⟨Z,Z,Z,Z,Y⟩,⟨Z,Z,Y⟩⟩
  rw[lm]at h1;refine⟨(k,a',b'),⟨UT,?_⟩,⟨Z,Z,Z,Z,Y⟩,⟨Z,Z,Y⟩⟩;rw[Sv,ab1 (show l.length<=k by omega)];rfl
 refine aJ (fun i:Nat=>i<=l.length/\∀k p,k<i->l[k]?=some p->p.2<a) (fun i=>[(0,.p (fD l)),(3,.bx 3 0),(5,.ow 5),(6,.p (i64 i))]) (fun i=>[(3,.box [.p (i64 a),.p (i64 b)]),(5,.row 263 ((l.take i).map sp))]) (fun i=>l.length-i) 0 _ (au.dk hC _ 5 263 _ (by decide) rfl rfl (by decide)) ⟨aaj _,fun k p h=>by omega⟩ ⟨Z,Z,Z,Z,Y⟩ ⟨Z,Z,Y⟩ fun i hi t h=>?_;have lt:=aaA i l;refine iW ?_ ?_<;>intro h1
 ·rw[lm]at h1;obtain⟨r,hr⟩:=ak (l:=l) (i:=i) (by omega);refine⟨(sp r),(idx rfl hr),?_⟩;refine iW ?_ ?_<;>intro h2
  ·refine⟨(sp r),(idx rfl hr),?_⟩;refine⟨⟨by simp[sp],by simp;omega,by simp;omega⟩,?_⟩;refine⟨⟨by omega,by omega⟩,?_⟩;refine⟨(i+1),_,au.refl _ _,?_⟩;refine⟨⟨by omega,fun k p hk hp=>?_⟩,by omega,⟨Z,Z,Z,Z,Y⟩,⟨rfl,?_,trivial⟩⟩
   ·by_cases e:k=i
    ·subst e;rw[hr]at hp;injection hp with hp;rw[<-hp];exact h2
    exact hi.2 k p (by omega) hp
   rw[aZ hr,abE];rfl
  refine⟨i,⟨hi.1,?_⟩,⟨Z,Z,Z,Z,Y⟩,⟨Z,Z,Y⟩⟩;rw[wA i hi.2 hi.1,rT];intro p hp;rw[aas,abQ,hr]at hp;injection hp with hp;rw[<-hp];exact h2
 rw[lm]at h1;refine⟨i,⟨hi.1,?_⟩,⟨Z,Z,Z,Z,Y⟩,⟨Z,Z,Y⟩⟩;rw[wA i hi.2 hi.1,rT];intro p hp;rw[abI (by simp;omega)]at hp;cases hp
open Reg (an)
theorem AD:∀(l:aU) (a b:Int),(Reg.ic l a b).length<=l.length+1:=by
 intro l
 induction l with
 | nil=>intro a b;simp[Reg.ic]
 | cons p l ih=>
  intro a b;rw[Reg.ic];split
  ·have:=ih (min a p.1) (max b p.2);simp only[aaB];omega
  simp
theorem rU:∀(l:aU) (a b:Int),(Reg.dG l a b).length<=l.length+1:=by
 intro l
 induction l with
 | nil=>intro a b;simp[Reg.dG]
 | cons p l ih=>
  intro a b;rw[Reg.dG];split
  ·have:=ih a b;simp only[aaB];omega
  exact AD _ a b
theorem mw{l:List ae}{i:Nat}{r:ae}(y:Int)(h:l[i]?=some r):Reg.rowOf (l.take (i+1)) y=if r.y0<=y/\y<r.y1 then Reg.dG (Reg.rowOf (l.take i) y) r.x0 r.x1 else Reg.rowOf (l.take i) y:=by
 rw[aZ h];unfold Reg.rowOf;rw[acA,aaD];by_cases hc:r.y0<=y/\y<r.y1
 ·rw[aap hc];simp[hc.1,hc.2]
 rw[aaa hc];have:(decide (r.y0<=y)&&decide (y<r.y1))=false:=by simpa using fun h1 h2=>hc ⟨h1,h2⟩
 simp[this]
theorem yN(l:List ae)(y:Int):∀i,i<=l.length->(Reg.rowOf (l.take i) y).length<=i:=by
 intro i
 induction i with
 | zero=>intro _;simp[Reg.rowOf]
 | succ i ih=>
  intro hi;obtain⟨r,hr⟩:=ak (l:=l) (i:=i) (by omega);rw[mw y hr];have h1:=ih (by omega);have h2:=rU (Reg.rowOf (l.take i) y) r.x0 r.x1;split<;>omega
theorem fQ(l:List ae)(y:Int):(Reg.rowOf l y).length<=l.length:=by
 have:=yN l y l.length (aam _)
 rwa [abU]at this
theorem xK(l:List ae)(y:Int)(hN:l.length<=4398046511104):af C 167 [.pv (aj l),.pv (i64 y)] (.p (fD (Reg.rowOf l y))) []:=by
 refine fW hC Tryz.func167 rfl (by kernel_rfl) fun _=>?_;have lm:=ai l rc;refine aJ (fun i:Nat=>i<=l.length) (fun i=>[(0,.p (aj l)),(1,.p (i64 y)),(5,.p (fD (Reg.rowOf (l.take i) y))),(6,.p (i64 i))]) (fun _=>[]) (fun i=>l.length-i) 0 _ (au.nil hC _ 5 rfl) (aaj _) ⟨Z,Z,Z,Z,Y⟩ trivial fun i hi t h=>?_;refine iW ?_ ?_<;>intro h1
 ·rw[lm]at h1;obtain⟨r,hr⟩:=ak (l:=l) (i:=i) (by omega);have hs:=mw y hr;have hL:=yN l y i hi;refine⟨(rc r),(idx rfl hr),?_⟩;refine iW ?_ ?_<;>intro h2
  ·refine⟨(rc r),(idx rfl hr),?_⟩;refine iW ?_ ?_<;>intro h3
   ·rw[aap ⟨h2,h3⟩]at hs;refine⟨(rc r),(idx rfl hr),?_⟩;refine⟨(rc r),(idx rfl hr),?_⟩;refine⟨_,_,(ae_ _ r.x0 r.x1 (by omega)),?_⟩;refine⟨⟨by omega,by omega⟩,?_⟩;exact⟨(i+1),_,au.refl _ _,by omega,by omega,⟨rfl,rfl,by rw[hs];rfl,Z,Y⟩,trivial⟩
   rw[aaa (fun h=>h3 h.2)]at hs;refine⟨⟨by omega,by omega⟩,?_⟩;exact⟨(i+1),_,au.refl _ _,by omega,by omega,⟨rfl,rfl,by rw[hs];rfl,Z,Y⟩,trivial⟩
  rw[aaa (fun h=>h2 h.1)]at hs;refine⟨⟨by omega,by omega⟩,?_⟩;exact⟨(i+1),_,au.refl _ _,by omega,by omega,⟨rfl,rfl,by rw[hs];rfl,Z,Y⟩,trivial⟩
 rw[lm]at h1;refine⟨?_,trivial⟩;rw[adW (by omega)]
theorem tP(l:List ae)(x y:Int)(hN:l.length<=4398046511104):af C 152 [.pv (aj l),.pv (.ag [i64 x,i64 y])] (.p (bool (aL (Reg.rowOf l y) x))) []:=by
 refine fW hC Tryz.func152 rfl (by kernel_rfl) fun _=>?_;have hL:=fQ l y;refine⟨_,_,(xK l y hN),?_⟩;refine⟨_,_,(sI _ x (by omega)),?_⟩;refine⟨?_,trivial⟩;rfl
def bd(b:an):List PV:=[i64 b.y0,i64 b.y1,fD b.xs]
theorem tQ{l:List α}{n:Nat}{x:α}(hn:l.length=n+1)(h:l[n]?=some x):l.getLast?=some x:=by
 rw[acB,hn];exact h
theorem wC(l:List an)(b:an)(hN:l.length<=3000000000000)(hX:∀t∈l,t.xs.length<=10000000000000):af C 166 [.row 196 (l.map bd),.pv (.ag (bd b))] (.own 196 ((Reg.cA l b).map bd)) [.gone]:=by
 refine fW hC Tryz.func166 rfl (by kernel_rfl) fun _=>?_;have lm:=ai l bd;have sm:=ai b.xs sp;have done:∀z:List an,z=Reg.cA l b->AB.row 196 (z.map bd)=AB.row 196 ((Reg.cA l b).map bd):=fun z e=>by rw[e]
 refine iW ?_ ?_<;>intro h1
 ·rw[sm]at h1;have he:b.xs=[]:=adl (by omega);exact⟨done l (by rw[Reg.cA,aap he]),Z,Y⟩
 rw[sm]at h1;have he:b.xs≠[]:=fun e=>h1 (by rw[e];rfl);have more:l++[b]=Reg.cA l b->AB.row 196 (l.map bd++[bd b])=AB.row 196 ((Reg.cA l b).map bd):=fun e=>by rw[<-e,abE];rfl
 refine iW ?_ ?_<;>intro h2
 ·rw[lm]at h2;obtain⟨m,hm⟩:∃m,l.length=m+1:=⟨l.length-1,by omega⟩;have hi:((l.map bd).length:Int)-1=(m:Nat):=by rw[lm];omega
  have hp:Reg.cA l b=match l.getLast? with
   | some t=>if t.y1=b.y0/\t.xs=b.xs then l.dropLast++[⟨t.y0,b.y1,t.xs⟩] else l++[b]
   | none=>[b]:=by rw[Reg.cA,aaa he]<;>rfl
  obtain⟨t,ht⟩:=ak (l:=l) (i:=m) (by omega);rw[tQ hm ht]at hp;simp only at hp;refine⟨⟨by rw[lm];omega,by rw[lm];omega⟩,?_⟩;refine⟨⟨by rw[hi];omega,by rw[hi,lm];omega⟩,?_⟩;refine⟨(bd t),(idx hi ht).2,?_⟩;refine iW ?_ ?_<;>intro h3
  ·refine⟨⟨by rw[lm];omega,by rw[lm];omega⟩,?_⟩;refine⟨⟨by rw[hi];omega,by rw[hi,lm];omega⟩,?_⟩;refine⟨(bd t),(idx hi ht).2,?_⟩;refine⟨_,_,(AA t.xs b.xs (by have:=hX t (aad ht);omega)),?_⟩;refine iW ?_ ?_<;>intro h4
   ·refine⟨⟨by rw[lm];omega,by rw[lm];omega⟩,?_⟩;refine⟨⟨by rw[hi];omega,by rw[hi,lm];omega⟩,?_⟩;refine⟨(bd t),(idx hi ht).2,?_⟩;rw[aap ⟨h3,h4⟩]at hp;have mT:∀k:Nat,k=m->AB.row 196 ((l.map bd).set k [i64 t.y0,i64 b.y1,fD t.xs])=AB.row 196 ((Reg.cA l b).map bd):=by
     intro k e;subst e;rw[hp];obtain⟨d,hd⟩:=ad3.1 (tQ hm ht);subst hd;have hk:k=d.length:=by simp at hm;omega
     subst hk;simp[bd]
    exact⟨mT _ (by rw[hi];rfl),Z,Y⟩
   rw[aaa (fun h=>h4 h.2)]at hp;refine⟨⟨by simp,by simp;omega,by simp;omega⟩,?_⟩;exact⟨more hp.symm,Z,Y⟩
  rw[aaa (fun h=>h3 h.1)]at hp;refine⟨⟨by simp,by simp;omega,by simp;omega⟩,?_⟩;exact⟨more hp.symm,Z,Y⟩
 rw[lm]at h2;have hl:l=[]:=adl (by omega);refine⟨⟨by simp,by simp;omega,by simp;omega⟩,?_⟩;exact⟨more (by subst hl;rw[Reg.cA,aaa he];rfl),Z,Y⟩
theorem jM{s:List an}{i:Nat}{b:an}(h:s[i]?=some b):Reg.told (s.take (i+1))=Reg.told (s.take i)++b.xs.map fun p=>⟨p.1,b.y0,p.2,b.y1⟩:=by
 rw[aZ h];simp[Reg.told]
theorem nq(s:List an)(hX:∀t∈s,t.xs.length<=1000000):(Reg.told s).length<=s.length*1000000:=by
 induction s with
 | nil=>simp[Reg.told]
 | cons b s ih=>
  have h1:=hX b (by simp);have h2:=ih fun t ht=>hX t (by simp[ht]);simp only[Reg.told,abz,acv,aej,aaB]at h2 ⊢;simp only[abR];omega
theorem xL{r:List PV}{n:Nat}(h:r.length=n):∀r'∈[r],r'.length=n:=fun r' hr=>by rw[ab_.1 hr];exact h
def ig(b:an)(k:Nat):List ae:=(b.xs.take k).map fun p=>⟨p.1,b.y0,p.2,b.y1⟩
theorem Es(l:List an)(hN:l.length<=3000000000000)(hX:∀t∈l,t.xs.length<=10000000000000)(hT:(Reg.told l).length<=4398046511104):af C 168 [.pv (.sl (l.map bd))] (.p (aj (Reg.told l))) []:=by
 refine uX ⟨[],[2],[],[8],[],[]⟩ hC Tryz.func168 rfl (by kernel_rfl) fun _=>?_;have lm:=ai l bd;have tl:∀i,(Reg.told (l.take i)).length<=(Reg.told l).length:=fun i=>by
  have e:Reg.told l=Reg.told (l.take i)++Reg.told (l.drop i):=by
   unfold Reg.told;rw[<-adG,aaU]
  rw[e,acv];omega
 refine aJ (fun i:Nat=>i<=l.length) (fun i=>[(0,.p (.sl (l.map bd))),(3,.ow 3),(4,.p (i64 i))]) (fun i=>[(3,.row 87 ((Reg.told (l.take i)).map rc))]) (fun i=>l.length-i) 0 _ (au.dk hC _ 3 87 _ (by decide) rfl rfl (by decide)) (aaj _) ⟨Z,Z,Z,Y⟩ ⟨Z,Y⟩ fun i hi t h=>?_;refine iW ?_ ?_<;>intro h1
 ·rw[lm]at h1;obtain⟨b,hb⟩:=ak (l:=l) (i:=i) (by omega);have bm:=ai b.xs sp;have hb':=hX b (aad hb);have ht:=tl (i+1);rw[jM hb,acv,aej]at ht;refine p7 (fun _:Unit=>True) (fun _=>[(0,.p (.sl (l.map bd))),(3,.ow 3),(4,.p (i64 i))]) (fun _=>[(3,.row 87 ((Reg.told (l.take (i+1))).map rc))]) (fun _ _ t h=>?_) ?_
  ·refine⟨⟨by omega,by omega⟩,?_⟩;exact⟨(i+1),_,au.refl _ _,by omega,by omega,⟨Z,Z,Z,Y⟩,⟨Z,Y⟩⟩
  refine aJ (fun k:Nat=>k<=b.xs.length) (fun k=>[(0,.p (.sl (l.map bd))),(3,.ow 3),(4,.p (i64 i)),(5,.p (i64 k))]) (fun k=>[(3,.row 87 ((Reg.told (l.take i)++ig b k).map rc))]) (fun k=>b.xs.length-k) 0 _ (au.refl _ _) (aaj _) ⟨Z,Z,Z,Z,Y⟩ ⟨by rw[ig];simp;rfl,trivial⟩ fun k hk t h=>?_;have Ov:(ig b k).length<=k:=by simp[ig];omega
  refine⟨(bd b),(idx rfl hb),?_⟩;refine iW ?_ ?_<;>intro h2
  ·rw[bm]at h2;obtain⟨p,hp⟩:=ak (l:=b.xs) (i:=k) (by omega);refine⟨(bd b),(idx rfl hb),?_⟩;refine⟨(sp p),(idx rfl hp),?_⟩;refine⟨(bd b),(idx rfl hb),?_⟩;refine⟨(bd b),(idx rfl hb),?_⟩;refine⟨(sp p),(idx rfl hp),?_⟩;refine⟨(bd b),(idx rfl hb),?_⟩;refine⟨⟨xL rfl,by simp;omega,by simp;omega⟩,?_⟩;refine⟨⟨by omega,by omega⟩,?_⟩;refine⟨(k+1),_,au.refl _ _,?_⟩;refine⟨by omega,by omega,⟨Z,Z,Z,Z,Y⟩,⟨?_,trivial⟩⟩;have hc:ig b (k+1)=ig b k++[⟨p.1,b.y0,p.2,b.y1⟩]:=by simp[ig,aZ hp]
   have e:(Reg.told (l.take i)++ig b k).map rc++[rc ⟨p.1,b.y0,p.2,b.y1⟩]=(Reg.told (l.take i)++ig b (k+1)).map rc:=by
    rw[hc,<-abx,abE (l₂:=[_])];rfl
   exact adV (AB.row 87) e
  rw[bm]at h2;refine⟨(),trivial,⟨Z,Z,Z,Y⟩,⟨?_,trivial⟩⟩;rw[jM hb];have:ig b k=b.xs.map fun p=>⟨p.1,b.y0,p.2,b.y1⟩:=by rw[ig,adW (by omega)]
  rw[<-this];rfl
 rw[lm]at h1;refine⟨?_,trivial⟩;rw[adW (by omega)];rfl
theorem tR(l:List an)(b:an):(Reg.cA l b).length<=l.length+1:=by
 unfold Reg.cA;split
 ·omega
 split
 ·split
  ·rw[acv,List.length_dropLast];simp only[abS];omega
  simp
 simp
theorem yO(l:List an)(b:an)(n:Nat)(hl:∀t∈l,t.xs.length<=n)(hb:b.xs.length<=n):∀t∈Reg.cA l b,t.xs.length<=n:=by
 unfold Reg.cA;split
 ·exact hl
 split
 ·rename_i t ht;split
  ·intro u hu;rcases abi.1 hu with h | h
   ·exact hl u ((List.dropLast_sublist l).subset h)
   rw[ab_.1 h];exact hl t (acp ht)
  intro u hu;rcases abi.1 hu with h | h
  ·exact hl u h
  rw[ab_.1 h];exact hb
 intro u hu;rw[ab_.1 hu];exact hb
theorem gK(l:List ae)(ys:List Int):∀k,(Reg.cg l ys k).length<=k:=by
 intro k
 induction k with
 | zero=>simp[Reg.cg]
 | succ k ih=>rw[Reg.cg];have:=tR (Reg.cg l ys k) ⟨ys.getD k 0,ys.getD (k+1) 0,Reg.rowOf l (ys.getD k 0)⟩;omega
theorem oW(l:List ae)(ys:List Int):∀k,∀t∈Reg.cg l ys k,t.xs.length<=l.length:=by
 intro k
 induction k with
 | zero=>simp[Reg.cg]
 | succ k ih=>rw[Reg.cg];exact yO _ _ _ ih (fQ _ _)
theorem cO{l:List Int}{i:Nat}{x:Int}(h:l[i]?=some x):l.getD i 0=x:=by rw[ad4,h];rfl
theorem rV(l:List ae)(hN:l.length<=4398046511104)(hy:(Reg.aE l).length<=3000000000000)(hr:(Reg.bR l).length<=4398046511104):af C 93 [.pv (aj l)] (.p (aj (Reg.bR l))) []:=by
 refine uX ⟨[],[],[],[6],[],[]⟩ hC Tryz.func93 rfl (by kernel_rfl) fun _=>?_;have lm:=ai (Reg.aE l) fun n=>[i64 n];have hL:=dm l;refine⟨_,_,(wB l hN),?_⟩;refine aJ (fun k:Nat=>k<=(Reg.aE l).length-1) (fun k=>[(0,.p (aj l)),(3,.p (ints (Reg.aE l))),(4,.ow 4),(5,.p (i64 ((k:Int)+1)))]) (fun k=>[(4,.row 196 ((Reg.cg l (Reg.aE l) k).map bd))]) (fun k=>(Reg.aE l).length-k) 0 _ (au.dk hC _ 4 196 _ (by decide) rfl rfl (by decide)) (aaj _) ⟨Z,Z,Z,Z,Y⟩ ⟨Z,Y⟩ fun k hk t h=>?_;have bl:=gK l (Reg.aE l) k;have bx:=oW l (Reg.aE l) k;refine iW ?_ ?_<;>intro h1
 ·rw[lm]at h1;obtain⟨y,hy⟩:=ak (l:=Reg.aE l) (i:=k) (by omega);obtain⟨y',cm⟩:=ak (l:=Reg.aE l) (i:=k+1) (by omega);have ek:(k:Int)+1-1=(k:Nat):=by omega
  have QT:(k:Int)+1=((k+1:Nat):Int):=by omega
  refine⟨⟨by omega,by omega⟩,?_⟩;refine⟨[i64 y],(idx ek hy),?_⟩;refine⟨[i64 y'],(idx QT cm),?_⟩;refine⟨⟨by omega,by omega⟩,?_⟩;refine⟨[i64 y],(idx ek hy),?_⟩;refine⟨_,_,(xK l y (by omega)),?_⟩;refine⟨_,_,(wC _ ⟨y,y',Reg.rowOf l y⟩ (by omega) (fun t ht=>by have:=bx t ht;omega)),?_⟩;refine⟨⟨by omega,by omega⟩,?_⟩;refine⟨(k+1),_,au.refl _ _,?_⟩;refine⟨by omega,by omega,⟨rfl,rfl,rfl,a8 (by omega),trivial⟩,⟨?_,trivial⟩⟩;rw[Reg.cg,cO hy,cO cm];rfl
 rw[lm]at h1;refine⟨_,_,(Es _ (by omega) (fun t ht=>by have:=bx t ht;omega) (by rw[show k=(Reg.aE l).length-1 by omega];exact hr)),?_⟩;refine⟨?_,trivial⟩;rw[Reg.bR,Reg.aB,show (Reg.aE l).length-1=k by omega]
theorem rW(l:List ae)(hN:l.length<=1000000):(Reg.bR l).length<=4398046511104:=by
 have h1:=nq (Reg.cg l (Reg.aE l) ((Reg.aE l).length-1)) (fun t ht=>by have:=oW l (Reg.aE l) _ t ht;omega);have h2:=gK l (Reg.aE l) ((Reg.aE l).length-1);have h3:=dm l;have h4:(Reg.cg l (Reg.aE l) ((Reg.aE l).length-1)).length*1000000<=2000000*1000000:=abf _ (by omega);have e:Reg.bR l=Reg.told (Reg.cg l (Reg.aE l) ((Reg.aE l).length-1)):=rfl;rw[e];omega
theorem rX{l:List ae}:∀{i:Nat} {a b:ae},l[i]?=some a->l[i+1]?=some b->Reg.before a b=false->Reg.ordered l=false:=by
 induction l with
 | nil=>intro i a b h;simp at h
 | cons x l ih=>
  intro i a b h1 h2 h3;cases l with
  | nil=>simp at h2
  | cons y l=>
   rw[Reg.ordered];cases i with
   | zero=>
    simp at h1 h2;subst h1;subst h2;rw[h3];rfl
   | succ i=>rw[ih (i:=i) (by simpa using h1) (by simpa using h2) h3,aav]
theorem tS{l:List ae}:(∀(i:Nat) a b,l[i]?=some a->l[i+1]?=some b->Reg.before a b=true)->Reg.ordered l=true:=by
 induction l with
 | nil=>intro _;rfl
 | cons x l ih=>
  intro h;cases l with
  | nil=>rfl
  | cons y l=>
   rw[Reg.ordered,h 0 x y rfl rfl,ih fun i a b h1 h2=>h (i+1) a b (by simpa using h1) (by simpa using h2)];rfl
theorem kS(l:List ae):af C 36 [.pv (aj l)] (.p (i64 (Reg.aF l))) []:=by
 refine uX ⟨[],[0],[],[],[],[]⟩ hC Tryz.func36 rfl (by kernel_rfl) fun _=>?_;have lm:=ai l rc;refine⟨_,_,(yM l),?_⟩;refine iW ?_ ?_<;>intro h0
 ·refine⟨?_,trivial⟩;rw[Reg.aF,aaa h0]
 have h0:Reg.cz l=0:=by simpa using h0
 obtain⟨hl,_⟩:=Reg.jK h0;have hc:Reg.aF l=(if Reg.ordered l=true then (if Reg.bR l=l then 0 else 3) else 8):=by rw[Reg.aF,aap h0]
 refine p7 (fun _:Unit=>Reg.ordered l=true) (fun _=>[(0,.p (aj l))]) (fun _=>[]) (fun _ hO t h=>?_) ?_
 ·rw[aap hO]at hc;have hh:=dm l;refine⟨_,_,(rV l (by omega) (by omega) (rW l (by omega))),?_⟩;refine⟨_,_,(Az l _ (by omega)),?_⟩;refine iW ?_ ?_<;>intro h2
  ·refine⟨?_,trivial⟩;rw[hc,aaa (fun e=>h2 e.symm)];rfl
  refine⟨?_,trivial⟩;rw[hc,aap (by simpa using h2.symm)];rfl
 refine aJ (fun i:Nat=>∀(j:Nat) a b,j<i->l[j]?=some a->l[j+1]?=some b->Reg.before a b=true) (fun i=>[(0,.p (aj l)),(4,.p (i64 ((i:Int)+1)))]) (fun _=>[]) (fun i=>l.length-i) 0 _ (au.refl _ _) (fun j a b h=>by omega) ⟨Z,Z,Y⟩ trivial fun i hi t h=>?_;refine iW ?_ ?_<;>intro h1
 ·rw[lm]at h1;obtain⟨a,ha⟩:=ak (l:=l) (i:=i) (by omega);obtain⟨b,hb⟩:=ak (l:=l) (i:=i+1) (by omega);refine⟨⟨by omega,by omega⟩,?_⟩;refine⟨(rc a),(idx (show ((i:Int)+1)-1=(i:Nat) by omega) ha),?_⟩;refine⟨(rc b),(idx (show ((i:Int)+1)=((i+1:Nat):Int) by omega) hb),?_⟩;refine⟨_,_,(yL a b),?_⟩;refine iW ?_ ?_<;>intro h2
  ·refine⟨?_,trivial⟩;rw[hc,aaa (by rw[rX ha hb h2];decide)];rfl
  refine⟨⟨by omega,by omega⟩,?_⟩;refine⟨(i+1),_,au.refl _ _,?_⟩;refine⟨fun j x y hj hx hy=>?_,by omega,⟨rfl,a8 (by omega),trivial⟩,trivial⟩;by_cases e:j=i
  ·subst e;rw[ha]at hx;injection hx with hx;rw[hb]at hy;injection hy with hy;rw[<-hx,<-hy];simpa using h2
  exact hi j x y (by omega) hx hy
 rw[lm]at h1;refine⟨(),tS fun j a b ha hb=>hi j a b ?_ ha hb,⟨Z,Y⟩,trivial⟩;have:=(aao.1 hb).1;omega
end M
end Go.Proofs.YtfloceomobknoaaGreatDoor
