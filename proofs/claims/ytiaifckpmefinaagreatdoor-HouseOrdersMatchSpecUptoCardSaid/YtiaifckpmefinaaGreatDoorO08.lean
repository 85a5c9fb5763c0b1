/- Part 8 of 14 of the proof of HouseOrdersMatchSpec (the names are shortened by a program: the size of a claim is limited). -/
import Derived.Test.YtiaifckpmefinaaGreatDoorO07
import Derived.Lib.Bytealg
set_option linter.unusedVariables false
set_option linter.unusedSimpArgs false
set_option maxRecDepth 100000
set_option maxHeartbeats 8000000
namespace Go.Proofs.YtiaifckpmefinaaGreatDoor
namespace M
open Go.AM Go.RowKit Go.Lib
open bq (bw cv ff)
structure cJ where
 name:ByteArray
 kind:Int
 group:Int
structure bh where
 name:ByteArray
 pins:List cJ
structure Part where
 name:ByteArray
 type:ByteArray
structure jJ where
 part:ByteArray
 pin:ByteArray
deriving DecidableEq
structure eJ where
 name:ByteArray
 kind:Int
 thick:Int
 grow:Int
structure Body where
 name:ByteArray
 w:Int
 h:Int
 tall:Int
 nozzle:ByteArray
def gM (p:cJ):List PV:=[str p.name,i64 p.kind,i64 p.group]
def g_ (t:bh):List PV:=[str t.name,.sl (t.pins.map gM)]
def kb (p:Part):List PV:=[str p.name,str p.type]
def kL (p:jJ):List PV:=[str p.part,str p.pin]
def jT (m:eJ):List PV:=[str m.name,i64 m.kind,i64 m.thick,i64 m.grow]
def mF (b:Body):List PV:=[str b.name,i64 b.w,i64 b.h,i64 b.tall,str b.nozzle]
theorem pj:∀a b:List UInt8,(Lib.compareBytes a b < 0↔a < b)/\(Lib.compareBytes a b=0↔a=b)
 | [],[]=>by simp[Lib.compareBytes]
 | [],_::_=>by simp[Lib.compareBytes]
 | _::_,[]=>by simp[Lib.compareBytes]
 | x::a,y::b=>by
  have ih:=pj a b
  unfold Lib.compareBytes
  rw[List.cons_lt_cons_iff,List.cons.injEq]
  by_cases e:x=y
  ·subst e
   have hx:¬x < x:=UInt8.lt_irrefl x
   simp[hx,ih.1,ih.2]
  rcases UInt8.lt_or_lt_of_ne e with h | h
  ·simp[e,h]
  have h2:¬x < y:=UInt8.not_lt.2 (UInt8.le_of_lt h)
  simp[e,h,h2]
theorem mG (a b:ByteArray):decide (Lib.compareBytes a.data.toList b.data.toList < 0)=cB a b:=by
 rw[Bool.eq_iff_iff,ln,decide_eq_true_iff]
 exact (pj _ _).1
theorem cmp_eq (a b:ByteArray):Lib.compareBytes a.data.toList b.data.toList=0↔a=b:=by
 rw[(pj _ _).2]
 refine⟨fun h=>?_,fun h=>by rw[h]⟩
 obtain⟨⟨x⟩⟩:=a
 obtain⟨⟨y⟩⟩:=b
 simpa using h
theorem eZ (a b:ByteArray):aw C 156 [.pv (str a),.pv (str b)] (.p (i64 (Lib.compareBytes a.data.toList b.data.toList))) []:=
 pW [.string a,.string b] _ ⟨_,Tryz.func156,rfl,rfl⟩ fun S w _ _=>(Tryz.strings_Compare a b w).mono fun e w' h=>⟨h.1,by rw[h.2];exact Below.refl _ _⟩
def Be (f:FuncId):PV:=.im (.func (.func f) #[] #[])
def kd {α:Type} (f:α->ByteArray) (l:List α) (x:ByteArray):Nat:=(l.filter fun y=>cB (f y) x).length
def dk {α:Type} (f:α->ByteArray) (l:List α) (x:ByteArray):Bool:=l.any fun y=>decide (f y=x)
def dO {α:Type} (f:α->ByteArray) (l:List α) (x:ByteArray):Int:=eH (fun y=>decide (f y=x)) l 0
def cG {α:Type} (f:α->ByteArray) (l:List α):Prop:=l.Pairwise fun a b=>cB (f a) (f b)=true
theorem cc {α:Type} {f:α->ByteArray} {l:List α} (h:cG f l) {i j:Nat} {a b:α} (ha:l[i]?=some a) (hb:l[j]?=some b) (CB:i < j):cB (f a) (f b)=true:=by
 obtain⟨hi,rfl⟩:=List.getElem?_eq_some_iff.1 ha
 obtain⟨hj,rfl⟩:=List.getElem?_eq_some_iff.1 hb
 exact List.pairwise_iff_getElem.1 h i j hi hj CB
theorem ib {α:Type} {f:α->ByteArray} {l:List α} {x:ByteArray} {i:Nat} (hi:i<=l.length) (h1:∀(k:Nat) y,k < i->l[k]?=some y->cB (f y) x=true) (h2:∀(k:Nat) y,i<=k->l[k]?=some y->cB (f y) x=false):kd f l x=i:=by
 unfold kd
 rw[<-List.take_append_drop i l,List.filter_append,List.length_append]
 have e1:(l.take i).filter (fun y=>cB (f y) x)=l.take i:=List.filter_eq_self.2 fun y hy=>by
  obtain⟨k,hk⟩:=List.mem_iff_getElem?.1 hy
  rw[List.getElem?_take] at hk
  split at hk
  ·exact h1 k y (by assumption) hk
  cases hk
 have e2:(l.drop i).filter (fun y=>cB (f y) x)=[]:=List.filter_eq_nil_iff.2 fun y hy=>by
  obtain⟨k,hk⟩:=List.mem_iff_getElem?.1 hy
  rw[List.getElem?_drop] at hk
  rw[h2 (i+k) y (by omega) hk];decide
 rw[e1,e2,List.length_take]
 simp;omega
theorem cZ {α:Type} {f:α->ByteArray} {l:List α} {x:ByteArray}:dk f l x=true↔∃y∈l,f y=x:=by simp[dk]
theorem gS {a b:ByteArray} (h:a=b):cB a b=false:=by rw[h,fJ]
theorem np {α:Type} {f:α->ByteArray} {l:List α} {x:ByteArray} {y:α} {a:Nat} (hs:cG f l) (q3:∀(k:Nat) z,k < a->l[k]?=some z->cB (f z) x=true) (hy:l[a]?=some y) (ES:cB (f y) x=false) (dh:¬f y=x):dk f l x=false:=by
 rw[Bool.eq_false_iff]
 intro h4
 obtain⟨z,hz,Aa⟩:=cZ.1 h4
 obtain⟨k,hk⟩:=List.mem_iff_getElem?.1 hz
 rcases Nat.lt_trichotomy k a with h | h | h
 ·have:=q3 k z h hk
  rw[gS Aa] at this;cases this
 ·subst h
  rw[hy] at hk;injection hk with hk;exact dh (by rw[hk];exact Aa)
 have:=cc hs hy hk h
 rw[Aa,ES] at this;cases this
theorem gG {α:Type} {f:α->ByteArray} {l:List α} {x:ByteArray} (hs:cG f l):dO f l x=if dk f l x=true then (kd f l x:Int) else -1:=by
 split
 ·rename_i h
  obtain⟨y,hy,ES⟩:=cZ.1 h
  obtain⟨k,hk⟩:=List.mem_iff_getElem?.1 hy
  have Jb:=(List.getElem?_eq_some_iff.1 hk).1
  have b:kd f l x=k:=ib (by omega) (fun j z hj hz=>by rw[<-ES];exact cc hs hz hk hj) (fun j z hj hz=>by
   by_cases e:j=k
   ·subst e;rw[hk] at hz;injection hz with hz;rw[<-hz];exact gS ES
   rw[Bool.eq_false_iff];intro h2
   have:=dC (cc hs hk hz (by omega)) h2
   rw[gS ES] at this;cases this)
  rw[b,dO,cY (p:=fun y=>decide (f y=x)) hk (by simp[ES]) (fun z hz=>?_)]
  ·omega
  obtain⟨j,hj⟩:=List.mem_iff_getElem?.1 hz
  rw[List.getElem?_take] at hj
  split at hj
  ·have:=cc hs hj hk (by assumption)
   simp only[decide_eq_false_iff_not]
   intro e
   rw[e,ES,fJ] at this;cases this
  cases hj
 rename_i h
 exact cr fun z hz=>by
  simp only[decide_eq_false_iff_not]
  exact fun e=>h (cZ.2 ⟨z,hz,e⟩)
theorem mH {α:Type} {f:α->ByteArray} {l:List α} {x:ByteArray} (h:0<=dO f l x):∃(k:Nat) (y:α),dO f l x=k/\l[k]?=some y/\f y=x:=by
 have key:∀(l:List α) (n:Nat),eH (fun y=>decide (f y=x)) l n=-1\/∃(k:Nat) (y:α),eH (fun y=>decide (f y=x)) l n=((n+k:Nat):Int)/\l[k]?=some y/\f y=x:=by
  intro l
  induction l with
  | nil=>exact fun n=>.inl rfl
  | cons a l ih=>
   intro n
   rw[eH]
   cases h:decide (f a=x) with
   | true=>exact .inr ⟨0,a,rfl,rfl,by simpa using h⟩
   | false=>
    rcases ih (n+1) with e | ⟨k,y,e1,e2,e3⟩
    ·exact .inl e
    exact .inr ⟨k+1,y,by simp only;rw[e1];congr 1;omega,by simpa using e2,e3⟩
 rcases key l 0 with e | ⟨k,y,e1,e2,e3⟩
 ·rw[dO,e] at h;omega
 exact⟨k,y,by rw[dO,e1,Nat.zero_add],e2,e3⟩
theorem gn {α:Type} {f:α->ByteArray} {l:List α} {x:ByteArray}:decide (dO f l x < 0)=!dk f l x:=by
 cases h:dk f l x with
 | true=>
  obtain⟨y,hy,ES⟩:=cZ.1 h
  simp only[Bool.not_true,decide_eq_false_iff_not]
  intro h2
  have e:(l.any fun y=>decide (f y=x))=true:=h
  rw[<-gB _ l 0] at e
  have e2:eH (fun y=>decide (f y=x)) l 0 < 0:=h2
  simp at e;omega
 | false=>
  simp only[Bool.not_false,decide_eq_true_eq]
  rw[dO,cr fun z hz=>by
   simp only[decide_eq_false_iff_not]
   exact fun e=>by rw[cZ.2 ⟨z,hz,e⟩] at h;cases h]
  decide
theorem Bf (p:bh) (s:ByteArray):aw C 194 [.pv (.ag (g_ p)),.pv (str s)] (.p (i64 (Lib.compareBytes p.name.data.toList s.data.toList))) []:=by
 refine aE hC Tryz.func194 rfl rfl 9 rfl (by decide) (by kernel_rfl) fun _ _ _ _ _=>?_
 (refine yS<|yn Z<|az zI<|aR<|ai<|yA Z<|yU<|yV Z<|yP Z<|yP Z<|yn Z<|aL zI ?_;refine⟨_,_,(eZ p.name s),?_⟩)
 (refine br Z Z<|ae<|yA Z<|yR zi ?_;refine And.intro ?_ trivial)
 rfl
theorem Ab (l:List bh) (x:ByteArray) (hs:cG bh.name l) (hN:l.length<=1000000000):aw C 193 [.pv (.sl (l.map g_)),.pv (str x),.pv (Be 194)] (.tu [i64 (kd bh.name l x),bool (dk bh.name l x)]) []:=by
 refine aE hC Tryz.func193 rfl rfl 49 rfl (by decide) (by kernel_rfl) fun _ _ _ _ _=>?_
 have lm:=aJ l g_
 refine yS<|yA Z<|yA Z<|yU<|yP Z<|yP Z<|yA Z<|yU<|yP Z<|yA Z<|yA Z<|yT<|an<|aO ?_
 refine aC (fun p:Nat×Nat=>p.1<=p.2/\p.2<=l.length/\(∀(k:Nat) y,k < p.1->l[k]?=some y->cB (bh.name y) x=true)/\(∀(k:Nat) y,p.2<=k->l[k]?=some y->cB (bh.name y) x=false)) (fun p=>[(0,.p (.sl (l.map g_))),(1,.p (str x)),(2,.p (Be 194)),(8,.p (i64 l.length)),(9,.p (i64 p.1)),(10,.p (i64 p.2))]) (fun _=>[]) (fun p=>p.2 - p.1) (0,l.length) _ (bg.refl _ _) ⟨Nat.zero_le _,Nat.le_refl _,fun k y h=>by omega,fun k y h1 h2=>by have:=(List.getElem?_eq_some_iff.1 h2).1;simp only at h1;omega⟩ ⟨rfl,rfl,rfl,cb (by rw[lm]),rfl,cb (by rw[lm]),trivial⟩ trivial fun ⟨a,b⟩ hi t h=>?_
 obtain⟨q1,q2,q3,q4⟩:=hi
 simp only at q1 q2 q3 q4
 (refine an<|yS<|yP Z<|yP Z<|yP Z<|yT<|ak Z ?_;refine aa (fun h1=>?_) (fun h1=>?_) <;> try simp only[zB] at h1)
 ·have hm:=kz (a:=a) (b:=b) (by omega)
  obtain⟨y,hy⟩:=aH (l:=l) (i:=(a+b) / 2) (by omega)
  (refine ar<|ah<|aO<|yS<|yP Z<|yP Z<|yq Z<|bb zI ?_;refine And.intro ⟨by simp only;omega,by simp only;omega⟩ ?_)
  (refine yk<|yP Z<|yq Z<|bb zI ?_;refine And.intro ⟨by decide,by decide⟩ ?_)
  (refine yk<|yq Z<|bb zI ?_;refine And.intro ⟨by simp only;rw[hm];omega,by simp only;rw[hm];omega⟩ ?_)
  (refine yk<|yA Z<|yU<|yP Z<|yP Z<|yP Z<|yq Z<|aL zI ?_;refine⟨(g_ y),(idx hm hy),?_⟩)
  (refine yk<|yP Z<|yP Z<|yn Z<|aL zI ?_;refine⟨_,_,(Bf y x),?_⟩)
  have hc:=mG y.name x
  (refine br Z Z<|ae<|yP Z<|yT<|ak Z ?_;refine aa (fun h2=>?_) (fun h2=>?_) <;> try simp only[zB] at h2)
  ·have h2:cB (bh.name y) x=true:=by rw[<-hc];exact decide_eq_true h2
   (refine aP<|yP Z<|yq Z<|bb zI ?_;refine And.intro ⟨by simp only;rw[hm];omega,by simp only;rw[hm];omega⟩ ?_)
   (refine yk<|yA Z<|dB<|aS<|ah<|au ?_;refine⟨((a+b) / 2+1,b),_,bg.refl _ _,?_⟩)
   refine⟨⟨by simp only;omega,q2,fun k z hk hz=>?_,q4⟩,by simp only;omega,⟨rfl,rfl,rfl,rfl,cb (by simp only;rw[hm];omega),Z,Y⟩,trivial⟩
   by_cases e:k=(a+b) / 2
   ·subst e
    rw[hy] at hz;injection hz with hz;subst hz;exact h2
   exact dC (cc hs hz hy (by simp only at hk;omega)) h2
  have h2:cB (bh.name y) x=false:=by rw[<-hc];exact decide_eq_false h2
  (refine aP<|yP Z<|yA Z<|dB<|aS<|ah<|au ?_;refine⟨(a,(a+b) / 2),_,bg.refl _ _,?_⟩)
  refine⟨⟨by simp only;omega,by simp only;omega,q3,fun k z hk hz=>?_⟩,by simp only;omega,⟨rfl,rfl,rfl,rfl,rfl,cb hm,trivial⟩,trivial⟩
  by_cases e:k=(a+b) / 2
  ·subst e
   rw[hy] at hz;injection hz with hz;subst hz;exact h2
  rw[Bool.eq_false_iff]
  intro fC
  rw[dC (cc hs hy hz (by simp only at hk;omega)) fC] at h2
  cases h2
 have e:a=b:=by omega
 subst e
 have hb:=ib q2 q3 q4
 (refine bF<|aQ<|aQ<|bG<|ah<|yS<|yP Z<|yP Z<|yP Z<|yP Z<|yP Z<|yg Z ?_;refine aa (fun h2=>?_) (fun h2=>?_) <;> try simp only[zB] at h2)
 ·obtain⟨y,hy⟩:=aH (l:=l) (i:=a) (by omega)
  (refine aV<|aN Z Z<|az zI<|yk<|y1 Z<|y1 Z<|y2 Z<|aN Z Z<|aL zI ?_;refine⟨(g_ y),(idx rfl hy),?_⟩)
  (refine yk<|y1 Z<|y1 Z<|y2 Z<|cx Z Z Z<|aL zI ?_;refine⟨_,_,(Bf y x),?_⟩)
  (refine br Z Z<|ae<|y1 Z<|yP Z<|yA Z<|yA Z<|yR zi ?_;refine And.intro ?_ trivial)
  have hq:=cmp_eq y.name x
  have h4:dk bh.name l x=decide (Lib.compareBytes y.name.data.toList x.data.toList=0):=by
   by_cases e:y.name=x
   ·rw[decide_eq_true (hq.2 e)]
    exact cZ.2 ⟨y,List.mem_of_getElem? hy,e⟩
   rw[decide_eq_false (fun h=>e (hq.1 h))]
   exact np hs q3 hy (q4 a y (Nat.le_refl _) hy) e
  rw[hb,h4]
  rfl
 (refine aT<|ae<|y0 Z<|y0 Z<|y0 Z<|y0 Z<|y0 Z<|y0 Z<|y0 Z<|yP Z<|yA Z<|yA Z<|yR zi ?_;refine And.intro ?_ trivial)
 have h4:dk bh.name l x=false:=by
  rw[Bool.eq_false_iff]
  intro h4
  obtain⟨z,hz,Aa⟩:=cZ.1 h4
  obtain⟨k,hk⟩:=List.mem_iff_getElem?.1 hz
  have:=q3 k z (by have:=(List.getElem?_eq_some_iff.1 hk).1;omega) hk
  rw[gS Aa] at this;cases this
 rw[hb,h4]
 rfl
theorem Bg (p:cJ) (s:ByteArray):aw C 196 [.pv (.ag (gM p)),.pv (str s)] (.p (i64 (Lib.compareBytes p.name.data.toList s.data.toList))) []:=by
 refine aE hC Tryz.func196 rfl rfl 9 rfl (by decide) (by kernel_rfl) fun _ _ _ _ _=>?_
 (refine yS<|yn Z<|az zI<|aR<|ai<|yA Z<|yU<|yV Z<|yP Z<|yP Z<|yn Z<|aL zI ?_;refine⟨_,_,(eZ p.name s),?_⟩)
 (refine br Z Z<|ae<|yA Z<|yR zi ?_;refine And.intro ?_ trivial)
 rfl
theorem Ac (l:List cJ) (x:ByteArray) (hs:cG cJ.name l) (hN:l.length<=1000000000):aw C 195 [.pv (.sl (l.map gM)),.pv (str x),.pv (Be 196)] (.tu [i64 (kd cJ.name l x),bool (dk cJ.name l x)]) []:=by
 refine aE hC Tryz.func195 rfl rfl 49 rfl (by decide) (by kernel_rfl) fun _ _ _ _ _=>?_
 have lm:=aJ l gM
 refine yS<|yA Z<|yA Z<|yU<|yP Z<|yP Z<|yA Z<|yU<|yP Z<|yA Z<|yA Z<|yT<|an<|aO ?_
 refine aC (fun p:Nat×Nat=>p.1<=p.2/\p.2<=l.length/\(∀(k:Nat) y,k < p.1->l[k]?=some y->cB (cJ.name y) x=true)/\(∀(k:Nat) y,p.2<=k->l[k]?=some y->cB (cJ.name y) x=false)) (fun p=>[(0,.p (.sl (l.map gM))),(1,.p (str x)),(2,.p (Be 196)),(8,.p (i64 l.length)),(9,.p (i64 p.1)),(10,.p (i64 p.2))]) (fun _=>[]) (fun p=>p.2 - p.1) (0,l.length) _ (bg.refl _ _) ⟨Nat.zero_le _,Nat.le_refl _,fun k y h=>by omega,fun k y h1 h2=>by have:=(List.getElem?_eq_some_iff.1 h2).1;simp only at h1;omega⟩ ⟨rfl,rfl,rfl,cb (by rw[lm]),rfl,cb (by rw[lm]),trivial⟩ trivial fun ⟨a,b⟩ hi t h=>?_
 obtain⟨q1,q2,q3,q4⟩:=hi
 simp only at q1 q2 q3 q4
 (refine an<|yS<|yP Z<|yP Z<|yP Z<|yT<|ak Z ?_;refine aa (fun h1=>?_) (fun h1=>?_) <;> try simp only[zB] at h1)
 ·have hm:=kz (a:=a) (b:=b) (by omega)
  obtain⟨y,hy⟩:=aH (l:=l) (i:=(a+b) / 2) (by omega)
  (refine ar<|ah<|aO<|yS<|yP Z<|yP Z<|yq Z<|bb zI ?_;refine And.intro ⟨by simp only;omega,by simp only;omega⟩ ?_)
  (refine yk<|yP Z<|yq Z<|bb zI ?_;refine And.intro ⟨by decide,by decide⟩ ?_)
  (refine yk<|yq Z<|bb zI ?_;refine And.intro ⟨by simp only;rw[hm];omega,by simp only;rw[hm];omega⟩ ?_)
  (refine yk<|yA Z<|yU<|yP Z<|yP Z<|yP Z<|yq Z<|aL zI ?_;refine⟨(gM y),(idx hm hy),?_⟩)
  (refine yk<|yP Z<|yP Z<|yn Z<|aL zI ?_;refine⟨_,_,(Bg y x),?_⟩)
  have hc:=mG y.name x
  (refine br Z Z<|ae<|yP Z<|yT<|ak Z ?_;refine aa (fun h2=>?_) (fun h2=>?_) <;> try simp only[zB] at h2)
  ·have h2:cB (cJ.name y) x=true:=by rw[<-hc];exact decide_eq_true h2
   (refine aP<|yP Z<|yq Z<|bb zI ?_;refine And.intro ⟨by simp only;rw[hm];omega,by simp only;rw[hm];omega⟩ ?_)
   (refine yk<|yA Z<|dB<|aS<|ah<|au ?_;refine⟨((a+b) / 2+1,b),_,bg.refl _ _,?_⟩)
   refine⟨⟨by simp only;omega,q2,fun k z hk hz=>?_,q4⟩,by simp only;omega,⟨rfl,rfl,rfl,rfl,cb (by simp only;rw[hm];omega),Z,Y⟩,trivial⟩
   by_cases e:k=(a+b) / 2
   ·subst e
    rw[hy] at hz;injection hz with hz;subst hz;exact h2
   exact dC (cc hs hz hy (by simp only at hk;omega)) h2
  have h2:cB (cJ.name y) x=false:=by rw[<-hc];exact decide_eq_false h2
  (refine aP<|yP Z<|yA Z<|dB<|aS<|ah<|au ?_;refine⟨(a,(a+b) / 2),_,bg.refl _ _,?_⟩)
  refine⟨⟨by simp only;omega,by simp only;omega,q3,fun k z hk hz=>?_⟩,by simp only;omega,⟨rfl,rfl,rfl,rfl,rfl,cb hm,trivial⟩,trivial⟩
  by_cases e:k=(a+b) / 2
  ·subst e
   rw[hy] at hz;injection hz with hz;subst hz;exact h2
  rw[Bool.eq_false_iff]
  intro fC
  rw[dC (cc hs hy hz (by simp only at hk;omega)) fC] at h2
  cases h2
 have e:a=b:=by omega
 subst e
 have hb:=ib q2 q3 q4
 (refine bF<|aQ<|aQ<|bG<|ah<|yS<|yP Z<|yP Z<|yP Z<|yP Z<|yP Z<|yg Z ?_;refine aa (fun h2=>?_) (fun h2=>?_) <;> try simp only[zB] at h2)
 ·obtain⟨y,hy⟩:=aH (l:=l) (i:=a) (by omega)
  (refine aV<|aN Z Z<|az zI<|yk<|y1 Z<|y1 Z<|y2 Z<|aN Z Z<|aL zI ?_;refine⟨(gM y),(idx rfl hy),?_⟩)
  (refine yk<|y1 Z<|y1 Z<|y2 Z<|cx Z Z Z<|aL zI ?_;refine⟨_,_,(Bg y x),?_⟩)
  (refine br Z Z<|ae<|y1 Z<|yP Z<|yA Z<|yA Z<|yR zi ?_;refine And.intro ?_ trivial)
  have hq:=cmp_eq y.name x
  have h4:dk cJ.name l x=decide (Lib.compareBytes y.name.data.toList x.data.toList=0):=by
   by_cases e:y.name=x
   ·rw[decide_eq_true (hq.2 e)]
    exact cZ.2 ⟨y,List.mem_of_getElem? hy,e⟩
   rw[decide_eq_false (fun h=>e (hq.1 h))]
   exact np hs q3 hy (q4 a y (Nat.le_refl _) hy) e
  rw[hb,h4]
  rfl
 (refine aT<|ae<|y0 Z<|y0 Z<|y0 Z<|y0 Z<|y0 Z<|y0 Z<|y0 Z<|yP Z<|yA Z<|yA Z<|yR zi ?_;refine And.intro ?_ trivial)
 have h4:dk cJ.name l x=false:=by
  rw[Bool.eq_false_iff]
  intro h4
  obtain⟨z,hz,Aa⟩:=cZ.1 h4
  obtain⟨k,hk⟩:=List.mem_iff_getElem?.1 hz
  have:=q3 k z (by have:=(List.getElem?_eq_some_iff.1 hk).1;omega) hk
  rw[gS Aa] at this;cases this
 rw[hb,h4]
 rfl
theorem xZ (p:Part) (s:ByteArray):aw C 250 [.pv (.ag (kb p)),.pv (str s)] (.p (i64 (Lib.compareBytes p.name.data.toList s.data.toList))) []:=by
 refine aE hC Tryz.func250 rfl rfl 9 rfl (by decide) (by kernel_rfl) fun _ _ _ _ _=>?_
 (refine yS<|yn Z<|az zI<|aR<|ai<|yA Z<|yU<|yV Z<|yP Z<|yP Z<|yn Z<|aL zI ?_;refine⟨_,_,(eZ p.name s),?_⟩)
 (refine br Z Z<|ae<|yA Z<|yR zi ?_;refine And.intro ?_ trivial)
 rfl
theorem x_ (l:List Part) (x:ByteArray) (hs:cG Part.name l) (hN:l.length<=1000000000):aw C 154 [.pv (.sl (l.map kb)),.pv (str x),.pv (Be 250)] (.tu [i64 (kd Part.name l x),bool (dk Part.name l x)]) []:=by
 refine aE hC Tryz.func154 rfl rfl 49 rfl (by decide) (by kernel_rfl) fun _ _ _ _ _=>?_
 have lm:=aJ l kb
 refine yS<|yA Z<|yA Z<|yU<|yP Z<|yP Z<|yA Z<|yU<|yP Z<|yA Z<|yA Z<|yT<|an<|aO ?_
 refine aC (fun p:Nat×Nat=>p.1<=p.2/\p.2<=l.length/\(∀(k:Nat) y,k < p.1->l[k]?=some y->cB (Part.name y) x=true)/\(∀(k:Nat) y,p.2<=k->l[k]?=some y->cB (Part.name y) x=false)) (fun p=>[(0,.p (.sl (l.map kb))),(1,.p (str x)),(2,.p (Be 250)),(8,.p (i64 l.length)),(9,.p (i64 p.1)),(10,.p (i64 p.2))]) (fun _=>[]) (fun p=>p.2 - p.1) (0,l.length) _ (bg.refl _ _) ⟨Nat.zero_le _,Nat.le_refl _,fun k y h=>by omega,fun k y h1 h2=>by have:=(List.getElem?_eq_some_iff.1 h2).1;simp only at h1;omega⟩ ⟨rfl,rfl,rfl,cb (by rw[lm]),rfl,cb (by rw[lm]),trivial⟩ trivial fun ⟨a,b⟩ hi t h=>?_
 obtain⟨q1,q2,q3,q4⟩:=hi
 simp only at q1 q2 q3 q4
 (refine an<|yS<|yP Z<|yP Z<|yP Z<|yT<|ak Z ?_;refine aa (fun h1=>?_) (fun h1=>?_) <;> try simp only[zB] at h1)
 ·have hm:=kz (a:=a) (b:=b) (by omega)
  obtain⟨y,hy⟩:=aH (l:=l) (i:=(a+b) / 2) (by omega)
  (refine ar<|ah<|aO<|yS<|yP Z<|yP Z<|yq Z<|bb zI ?_;refine And.intro ⟨by simp only;omega,by simp only;omega⟩ ?_)
  (refine yk<|yP Z<|yq Z<|bb zI ?_;refine And.intro ⟨by decide,by decide⟩ ?_)
  (refine yk<|yq Z<|bb zI ?_;refine And.intro ⟨by simp only;rw[hm];omega,by simp only;rw[hm];omega⟩ ?_)
  (refine yk<|yA Z<|yU<|yP Z<|yP Z<|yP Z<|yq Z<|aL zI ?_;refine⟨(kb y),(idx hm hy),?_⟩)
  (refine yk<|yP Z<|yP Z<|yn Z<|aL zI ?_;refine⟨_,_,(xZ y x),?_⟩)
  have hc:=mG y.name x
  (refine br Z Z<|ae<|yP Z<|yT<|ak Z ?_;refine aa (fun h2=>?_) (fun h2=>?_) <;> try simp only[zB] at h2)
  ·have h2:cB (Part.name y) x=true:=by rw[<-hc];exact decide_eq_true h2
   (refine aP<|yP Z<|yq Z<|bb zI ?_;refine And.intro ⟨by simp only;rw[hm];omega,by simp only;rw[hm];omega⟩ ?_)
   (refine yk<|yA Z<|dB<|aS<|ah<|au ?_;refine⟨((a+b) / 2+1,b),_,bg.refl _ _,?_⟩)
   refine⟨⟨by simp only;omega,q2,fun k z hk hz=>?_,q4⟩,by simp only;omega,⟨rfl,rfl,rfl,rfl,cb (by simp only;rw[hm];omega),Z,Y⟩,trivial⟩
   by_cases e:k=(a+b) / 2
   ·subst e
    rw[hy] at hz;injection hz with hz;subst hz;exact h2
   exact dC (cc hs hz hy (by simp only at hk;omega)) h2
  have h2:cB (Part.name y) x=false:=by rw[<-hc];exact decide_eq_false h2
  (refine aP<|yP Z<|yA Z<|dB<|aS<|ah<|au ?_;refine⟨(a,(a+b) / 2),_,bg.refl _ _,?_⟩)
  refine⟨⟨by simp only;omega,by simp only;omega,q3,fun k z hk hz=>?_⟩,by simp only;omega,⟨rfl,rfl,rfl,rfl,rfl,cb hm,trivial⟩,trivial⟩
  by_cases e:k=(a+b) / 2
  ·subst e
   rw[hy] at hz;injection hz with hz;subst hz;exact h2
  rw[Bool.eq_false_iff]
  intro fC
  rw[dC (cc hs hy hz (by simp only at hk;omega)) fC] at h2
  cases h2
 have e:a=b:=by omega
 subst e
 have hb:=ib q2 q3 q4
 (refine bF<|aQ<|aQ<|bG<|ah<|yS<|yP Z<|yP Z<|yP Z<|yP Z<|yP Z<|yg Z ?_;refine aa (fun h2=>?_) (fun h2=>?_) <;> try simp only[zB] at h2)
 ·obtain⟨y,hy⟩:=aH (l:=l) (i:=a) (by omega)
  (refine aV<|aN Z Z<|az zI<|yk<|y1 Z<|y1 Z<|y2 Z<|aN Z Z<|aL zI ?_;refine⟨(kb y),(idx rfl hy),?_⟩)
  (refine yk<|y1 Z<|y1 Z<|y2 Z<|cx Z Z Z<|aL zI ?_;refine⟨_,_,(xZ y x),?_⟩)
  (refine br Z Z<|ae<|y1 Z<|yP Z<|yA Z<|yA Z<|yR zi ?_;refine And.intro ?_ trivial)
  have hq:=cmp_eq y.name x
  have h4:dk Part.name l x=decide (Lib.compareBytes y.name.data.toList x.data.toList=0):=by
   by_cases e:y.name=x
   ·rw[decide_eq_true (hq.2 e)]
    exact cZ.2 ⟨y,List.mem_of_getElem? hy,e⟩
   rw[decide_eq_false (fun h=>e (hq.1 h))]
   exact np hs q3 hy (q4 a y (Nat.le_refl _) hy) e
  rw[hb,h4]
  rfl
 (refine aT<|ae<|y0 Z<|y0 Z<|y0 Z<|y0 Z<|y0 Z<|y0 Z<|y0 Z<|yP Z<|yA Z<|yA Z<|yR zi ?_;refine And.intro ?_ trivial)
 have h4:dk Part.name l x=false:=by
  rw[Bool.eq_false_iff]
  intro h4
  obtain⟨z,hz,Aa⟩:=cZ.1 h4
  obtain⟨k,hk⟩:=List.mem_iff_getElem?.1 hz
  have:=q3 k z (by have:=(List.getElem?_eq_some_iff.1 hk).1;omega) hk
  rw[gS Aa] at this;cases this
 rw[hb,h4]
 rfl
theorem Bh (p:eJ) (s:ByteArray):aw C 185 [.pv (.ag (jT p)),.pv (str s)] (.p (i64 (Lib.compareBytes p.name.data.toList s.data.toList))) []:=by
 refine aE hC Tryz.func185 rfl rfl 9 rfl (by decide) (by kernel_rfl) fun _ _ _ _ _=>?_
 (refine yS<|yn Z<|az zI<|aR<|ai<|yA Z<|yU<|yV Z<|yP Z<|yP Z<|yn Z<|aL zI ?_;refine⟨_,_,(eZ p.name s),?_⟩)
 (refine br Z Z<|ae<|yA Z<|yR zi ?_;refine And.intro ?_ trivial)
 rfl
theorem Ad (l:List eJ) (x:ByteArray) (hs:cG eJ.name l) (hN:l.length<=1000000000):aw C 184 [.pv (.sl (l.map jT)),.pv (str x),.pv (Be 185)] (.tu [i64 (kd eJ.name l x),bool (dk eJ.name l x)]) []:=by
 refine aE hC Tryz.func184 rfl rfl 49 rfl (by decide) (by kernel_rfl) fun _ _ _ _ _=>?_
 have lm:=aJ l jT
 refine yS<|yA Z<|yA Z<|yU<|yP Z<|yP Z<|yA Z<|yU<|yP Z<|yA Z<|yA Z<|yT<|an<|aO ?_
 refine aC (fun p:Nat×Nat=>p.1<=p.2/\p.2<=l.length/\(∀(k:Nat) y,k < p.1->l[k]?=some y->cB (eJ.name y) x=true)/\(∀(k:Nat) y,p.2<=k->l[k]?=some y->cB (eJ.name y) x=false)) (fun p=>[(0,.p (.sl (l.map jT))),(1,.p (str x)),(2,.p (Be 185)),(8,.p (i64 l.length)),(9,.p (i64 p.1)),(10,.p (i64 p.2))]) (fun _=>[]) (fun p=>p.2 - p.1) (0,l.length) _ (bg.refl _ _) ⟨Nat.zero_le _,Nat.le_refl _,fun k y h=>by omega,fun k y h1 h2=>by have:=(List.getElem?_eq_some_iff.1 h2).1;simp only at h1;omega⟩ ⟨rfl,rfl,rfl,cb (by rw[lm]),rfl,cb (by rw[lm]),trivial⟩ trivial fun ⟨a,b⟩ hi t h=>?_
 obtain⟨q1,q2,q3,q4⟩:=hi
 simp only at q1 q2 q3 q4
 (refine an<|yS<|yP Z<|yP Z<|yP Z<|yT<|ak Z ?_;refine aa (fun h1=>?_) (fun h1=>?_) <;> try simp only[zB] at h1)
 ·have hm:=kz (a:=a) (b:=b) (by omega)
  obtain⟨y,hy⟩:=aH (l:=l) (i:=(a+b) / 2) (by omega)
  (refine ar<|ah<|aO<|yS<|yP Z<|yP Z<|yq Z<|bb zI ?_;refine And.intro ⟨by simp only;omega,by simp only;omega⟩ ?_)
  (refine yk<|yP Z<|yq Z<|bb zI ?_;refine And.intro ⟨by decide,by decide⟩ ?_)
  (refine yk<|yq Z<|bb zI ?_;refine And.intro ⟨by simp only;rw[hm];omega,by simp only;rw[hm];omega⟩ ?_)
  (refine yk<|yA Z<|yU<|yP Z<|yP Z<|yP Z<|yq Z<|aL zI ?_;refine⟨(jT y),(idx hm hy),?_⟩)
  (refine yk<|yP Z<|yP Z<|yn Z<|aL zI ?_;refine⟨_,_,(Bh y x),?_⟩)
  have hc:=mG y.name x
  (refine br Z Z<|ae<|yP Z<|yT<|ak Z ?_;refine aa (fun h2=>?_) (fun h2=>?_) <;> try simp only[zB] at h2)
  ·have h2:cB (eJ.name y) x=true:=by rw[<-hc];exact decide_eq_true h2
   (refine aP<|yP Z<|yq Z<|bb zI ?_;refine And.intro ⟨by simp only;rw[hm];omega,by simp only;rw[hm];omega⟩ ?_)
   (refine yk<|yA Z<|dB<|aS<|ah<|au ?_;refine⟨((a+b) / 2+1,b),_,bg.refl _ _,?_⟩)
   refine⟨⟨by simp only;omega,q2,fun k z hk hz=>?_,q4⟩,by simp only;omega,⟨rfl,rfl,rfl,rfl,cb (by simp only;rw[hm];omega),Z,Y⟩,trivial⟩
   by_cases e:k=(a+b) / 2
   ·subst e
    rw[hy] at hz;injection hz with hz;subst hz;exact h2
   exact dC (cc hs hz hy (by simp only at hk;omega)) h2
  have h2:cB (eJ.name y) x=false:=by rw[<-hc];exact decide_eq_false h2
  (refine aP<|yP Z<|yA Z<|dB<|aS<|ah<|au ?_;refine⟨(a,(a+b) / 2),_,bg.refl _ _,?_⟩)
  refine⟨⟨by simp only;omega,by simp only;omega,q3,fun k z hk hz=>?_⟩,by simp only;omega,⟨rfl,rfl,rfl,rfl,rfl,cb hm,trivial⟩,trivial⟩
  by_cases e:k=(a+b) / 2
  ·subst e
   rw[hy] at hz;injection hz with hz;subst hz;exact h2
  rw[Bool.eq_false_iff]
  intro fC
  rw[dC (cc hs hy hz (by simp only at hk;omega)) fC] at h2
  cases h2
 have e:a=b:=by omega
 subst e
 have hb:=ib q2 q3 q4
 (refine bF<|aQ<|aQ<|bG<|ah<|yS<|yP Z<|yP Z<|yP Z<|yP Z<|yP Z<|yg Z ?_;refine aa (fun h2=>?_) (fun h2=>?_) <;> try simp only[zB] at h2)
 ·obtain⟨y,hy⟩:=aH (l:=l) (i:=a) (by omega)
  (refine aV<|aN Z Z<|az zI<|yk<|y1 Z<|y1 Z<|y2 Z<|aN Z Z<|aL zI ?_;refine⟨(jT y),(idx rfl hy),?_⟩)
  (refine yk<|y1 Z<|y1 Z<|y2 Z<|cx Z Z Z<|aL zI ?_;refine⟨_,_,(Bh y x),?_⟩)
  (refine br Z Z<|ae<|y1 Z<|yP Z<|yA Z<|yA Z<|yR zi ?_;refine And.intro ?_ trivial)
  have hq:=cmp_eq y.name x
  have h4:dk eJ.name l x=decide (Lib.compareBytes y.name.data.toList x.data.toList=0):=by
   by_cases e:y.name=x
   ·rw[decide_eq_true (hq.2 e)]
    exact cZ.2 ⟨y,List.mem_of_getElem? hy,e⟩
   rw[decide_eq_false (fun h=>e (hq.1 h))]
   exact np hs q3 hy (q4 a y (Nat.le_refl _) hy) e
  rw[hb,h4]
  rfl
 (refine aT<|ae<|y0 Z<|y0 Z<|y0 Z<|y0 Z<|y0 Z<|y0 Z<|y0 Z<|yP Z<|yA Z<|yA Z<|yR zi ?_;refine And.intro ?_ trivial)
 have h4:dk eJ.name l x=false:=by
  rw[Bool.eq_false_iff]
  intro h4
  obtain⟨z,hz,Aa⟩:=cZ.1 h4
  obtain⟨k,hk⟩:=List.mem_iff_getElem?.1 hz
  have:=q3 k z (by have:=(List.getElem?_eq_some_iff.1 hk).1;omega) hk
  rw[gS Aa] at this;cases this
 rw[hb,h4]
 rfl
theorem Bi (p:Body) (s:ByteArray):aw C 192 [.pv (.ag (mF p)),.pv (str s)] (.p (i64 (Lib.compareBytes p.name.data.toList s.data.toList))) []:=by
 refine aE hC Tryz.func192 rfl rfl 9 rfl (by decide) (by kernel_rfl) fun _ _ _ _ _=>?_
 (refine yS<|yn Z<|az zI<|aR<|ai<|yA Z<|yU<|yV Z<|yP Z<|yP Z<|yn Z<|aL zI ?_;refine⟨_,_,(eZ p.name s),?_⟩)
 (refine br Z Z<|ae<|yA Z<|yR zi ?_;refine And.intro ?_ trivial)
 rfl
theorem Ae (l:List Body) (x:ByteArray) (hs:cG Body.name l) (hN:l.length<=1000000000):aw C 191 [.pv (.sl (l.map mF)),.pv (str x),.pv (Be 192)] (.tu [i64 (kd Body.name l x),bool (dk Body.name l x)]) []:=by
 refine aE hC Tryz.func191 rfl rfl 49 rfl (by decide) (by kernel_rfl) fun _ _ _ _ _=>?_
 have lm:=aJ l mF
 refine yS<|yA Z<|yA Z<|yU<|yP Z<|yP Z<|yA Z<|yU<|yP Z<|yA Z<|yA Z<|yT<|an<|aO ?_
 refine aC (fun p:Nat×Nat=>p.1<=p.2/\p.2<=l.length/\(∀(k:Nat) y,k < p.1->l[k]?=some y->cB (Body.name y) x=true)/\(∀(k:Nat) y,p.2<=k->l[k]?=some y->cB (Body.name y) x=false)) (fun p=>[(0,.p (.sl (l.map mF))),(1,.p (str x)),(2,.p (Be 192)),(8,.p (i64 l.length)),(9,.p (i64 p.1)),(10,.p (i64 p.2))]) (fun _=>[]) (fun p=>p.2 - p.1) (0,l.length) _ (bg.refl _ _) ⟨Nat.zero_le _,Nat.le_refl _,fun k y h=>by omega,fun k y h1 h2=>by have:=(List.getElem?_eq_some_iff.1 h2).1;simp only at h1;omega⟩ ⟨rfl,rfl,rfl,cb (by rw[lm]),rfl,cb (by rw[lm]),trivial⟩ trivial fun ⟨a,b⟩ hi t h=>?_
 obtain⟨q1,q2,q3,q4⟩:=hi
 simp only at q1 q2 q3 q4
 (refine an<|yS<|yP Z<|yP Z<|yP Z<|yT<|ak Z ?_;refine aa (fun h1=>?_) (fun h1=>?_) <;> try simp only[zB] at h1)
 ·have hm:=kz (a:=a) (b:=b) (by omega)
  obtain⟨y,hy⟩:=aH (l:=l) (i:=(a+b) / 2) (by omega)
  (refine ar<|ah<|aO<|yS<|yP Z<|yP Z<|yq Z<|bb zI ?_;refine And.intro ⟨by simp only;omega,by simp only;omega⟩ ?_)
  (refine yk<|yP Z<|yq Z<|bb zI ?_;refine And.intro ⟨by decide,by decide⟩ ?_)
  (refine yk<|yq Z<|bb zI ?_;refine And.intro ⟨by simp only;rw[hm];omega,by simp only;rw[hm];omega⟩ ?_)
  (refine yk<|yA Z<|yU<|yP Z<|yP Z<|yP Z<|yq Z<|aL zI ?_;refine⟨(mF y),(idx hm hy),?_⟩)
  (refine yk<|yP Z<|yP Z<|yn Z<|aL zI ?_;refine⟨_,_,(Bi y x),?_⟩)
  have hc:=mG y.name x
  (refine br Z Z<|ae<|yP Z<|yT<|ak Z ?_;refine aa (fun h2=>?_) (fun h2=>?_) <;> try simp only[zB] at h2)
  ·have h2:cB (Body.name y) x=true:=by rw[<-hc];exact decide_eq_true h2
   (refine aP<|yP Z<|yq Z<|bb zI ?_;refine And.intro ⟨by simp only;rw[hm];omega,by simp only;rw[hm];omega⟩ ?_)
   (refine yk<|yA Z<|dB<|aS<|ah<|au ?_;refine⟨((a+b) / 2+1,b),_,bg.refl _ _,?_⟩)
   refine⟨⟨by simp only;omega,q2,fun k z hk hz=>?_,q4⟩,by simp only;omega,⟨rfl,rfl,rfl,rfl,cb (by simp only;rw[hm];omega),Z,Y⟩,trivial⟩
   by_cases e:k=(a+b) / 2
   ·subst e
    rw[hy] at hz;injection hz with hz;subst hz;exact h2
   exact dC (cc hs hz hy (by simp only at hk;omega)) h2
  have h2:cB (Body.name y) x=false:=by rw[<-hc];exact decide_eq_false h2
  (refine aP<|yP Z<|yA Z<|dB<|aS<|ah<|au ?_;refine⟨(a,(a+b) / 2),_,bg.refl _ _,?_⟩)
  refine⟨⟨by simp only;omega,by simp only;omega,q3,fun k z hk hz=>?_⟩,by simp only;omega,⟨rfl,rfl,rfl,rfl,rfl,cb hm,trivial⟩,trivial⟩
  by_cases e:k=(a+b) / 2
  ·subst e
   rw[hy] at hz;injection hz with hz;subst hz;exact h2
  rw[Bool.eq_false_iff]
  intro fC
  rw[dC (cc hs hy hz (by simp only at hk;omega)) fC] at h2
  cases h2
 have e:a=b:=by omega
 subst e
 have hb:=ib q2 q3 q4
 (refine bF<|aQ<|aQ<|bG<|ah<|yS<|yP Z<|yP Z<|yP Z<|yP Z<|yP Z<|yg Z ?_;refine aa (fun h2=>?_) (fun h2=>?_) <;> try simp only[zB] at h2)
 ·obtain⟨y,hy⟩:=aH (l:=l) (i:=a) (by omega)
  (refine aV<|aN Z Z<|az zI<|yk<|y1 Z<|y1 Z<|y2 Z<|aN Z Z<|aL zI ?_;refine⟨(mF y),(idx rfl hy),?_⟩)
  (refine yk<|y1 Z<|y1 Z<|y2 Z<|cx Z Z Z<|aL zI ?_;refine⟨_,_,(Bi y x),?_⟩)
  (refine br Z Z<|ae<|y1 Z<|yP Z<|yA Z<|yA Z<|yR zi ?_;refine And.intro ?_ trivial)
  have hq:=cmp_eq y.name x
  have h4:dk Body.name l x=decide (Lib.compareBytes y.name.data.toList x.data.toList=0):=by
   by_cases e:y.name=x
   ·rw[decide_eq_true (hq.2 e)]
    exact cZ.2 ⟨y,List.mem_of_getElem? hy,e⟩
   rw[decide_eq_false (fun h=>e (hq.1 h))]
   exact np hs q3 hy (q4 a y (Nat.le_refl _) hy) e
  rw[hb,h4]
  rfl
 (refine aT<|ae<|y0 Z<|y0 Z<|y0 Z<|y0 Z<|y0 Z<|y0 Z<|y0 Z<|yP Z<|yA Z<|yA Z<|yR zi ?_;refine And.intro ?_ trivial)
 have h4:dk Body.name l x=false:=by
  rw[Bool.eq_false_iff]
  intro h4
  obtain⟨z,hz,Aa⟩:=cZ.1 h4
  obtain⟨k,hk⟩:=List.mem_iff_getElem?.1 hz
  have:=q3 k z (by have:=(List.getElem?_eq_some_iff.1 hk).1;omega) hk
  rw[gS Aa] at this;cases this
 rw[hb,h4]
 rfl
theorem lz (l:List bh) (x:ByteArray) (hs:cG bh.name l) (hN:l.length<=1000000000):aw C 123 [.pv (.sl (l.map g_)),.pv (str x)] (.p (i64 (dO bh.name l x))) []:=by
 refine aE hC Tryz.func123 rfl rfl 16 rfl (by decide) (by kernel_rfl) fun _ _ _ _ _=>?_
 have hp:=gG (x:=x) hs
 (refine yS<|yA Z<|yU<|yP Z<|yP Z<|yn Z<|aL zI ?_;refine⟨_,_,(Ab l x hs hN),?_⟩)
 ((refine br Z Z<|bU<|yq Z<|az zI<|aX<|bU<|yP Z<|yP Z<|yA Z<|yA Z<|yT<|an<|yS<|yP Z ?_;refine yP Z<|yT<|ak Z ?_);refine aa (fun h1=>?_) (fun h1=>?_) <;> try simp only[zB] at h1)
 ·(refine yS<|yA Z<|yT<|aA<|af<|aB zi ?_;refine And.intro ?_ trivial)
  rw[hp,if_neg (by simp[h1])];rfl
 (refine ar<|ah<|yS<|yP Z<|yA Z<|yR zi ?_;refine And.intro ?_ trivial)
 rw[hp,if_pos (by simpa using h1)]
theorem qO (t:bh) (x:ByteArray) (hs:cG cJ.name t.pins) (hN:t.pins.length<=1000000000):aw C 124 [.pv (.ag (g_ t)),.pv (str x)] (.p (i64 (dO cJ.name t.pins x))) []:=by
 refine aE hC Tryz.func124 rfl rfl 17 rfl (by decide) (by kernel_rfl) fun _ _ _ _ _=>?_
 have hp:=gG (x:=x) hs
 (refine yS<|yn Z<|az zI<|aR<|ai<|yA Z<|yU<|yV Z<|yP Z<|yP Z<|yn Z<|aL zI ?_;refine⟨_,_,(Ac t.pins x hs hN),?_⟩)
 ((refine br Z Z<|bU<|yq Z<|az zI<|aX<|bU<|yP Z<|yP Z<|yA Z<|yA Z<|yT<|an<|yS<|yP Z ?_;refine yP Z<|yT<|ak Z ?_);refine aa (fun h1=>?_) (fun h1=>?_) <;> try simp only[zB] at h1)
 ·(refine yS<|yA Z<|yT<|aA<|af<|aB zi ?_;refine And.intro ?_ trivial)
  rw[hp,if_neg (by simp[h1])];rfl
 (refine ar<|ah<|yS<|yP Z<|yA Z<|yR zi ?_;refine And.intro ?_ trivial)
 rw[hp,if_pos (by simpa using h1)]
theorem wv (l:List Part) (x:ByteArray) (hs:cG Part.name l) (hN:l.length<=1000000000):aw C 182 [.pv (.sl (l.map kb)),.pv (str x)] (.p (i64 (dO Part.name l x))) []:=by
 refine aE hC Tryz.func182 rfl rfl 16 rfl (by decide) (by kernel_rfl) fun _ _ _ _ _=>?_
 have hp:=gG (x:=x) hs
 (refine yS<|yA Z<|yU<|yP Z<|yP Z<|yn Z<|aL zI ?_;refine⟨_,_,(x_ l x hs hN),?_⟩)
 ((refine br Z Z<|bU<|yq Z<|az zI<|aX<|bU<|yP Z<|yP Z<|yA Z<|yA Z<|yT<|an<|yS<|yP Z ?_;refine yP Z<|yT<|ak Z ?_);refine aa (fun h1=>?_) (fun h1=>?_) <;> try simp only[zB] at h1)
 ·(refine yS<|yA Z<|yT<|aA<|af<|aB zi ?_;refine And.intro ?_ trivial)
  rw[hp,if_neg (by simp[h1])];rfl
 (refine ar<|ah<|yS<|yP Z<|yA Z<|yR zi ?_;refine And.intro ?_ trivial)
 rw[hp,if_pos (by simpa using h1)]
theorem aI {f:Nat->Int} {i n:Nat} {c:Int} (h:∀k,k < i->f k=0) (hn:i < n) (e:f i=c) (hc:c≠0):a8 f 0 n=c:=by
 rw[gF (by rw[e];exact hc) (fun k _ hk=>h k hk) (Nat.zero_le _) (by omega),e]
theorem cw {f:Nat->Int} {i:Nat} (h:∀k,k < i->f k=0) (e:f i=0):∀k,k < i+1->f k=0:=fun k hk=>by
 by_cases e':k=i
 ·rw[e'];exact e
 exact h k (by omega)
theorem dG {α:Type} {l:List α} {f:α->ByteArray} {i:Nat} {a b:α} (ha:l[i]?=some a) (hb:l[i - 1]?=some b) (h0:0 < i):bE (l.map f) i=(cB (f a) (f b) || decide (f a=f b)):=by
 simp only[bE,List.getElem?_map,ha,hb,Option.map_some]
 rw[decide_eq_true h0];rfl
theorem eU {l:List ByteArray} {i:Nat} (h:i=0):bE l i=false:=by
 subst h
 unfold bE
 split <;> simp
theorem pk {α:Type} {f:α->List PV} {n:Nat} {l:List α} (h:∀x,(f x).length=n):∀r∈l.map f,r.length=n:=fun r hr=>by
 obtain⟨z,_,rfl⟩:=List.mem_map.1 hr
 exact h z
def nq (a b:Int):Int:=if a=0 then b else a
theorem eM {a b:Int} (h:a=0):nq a b=b:=if_pos h
theorem dy {a b c:Int} (h:a=c) (h0:c≠0):nq a b=c:=by rw[nq,if_neg (by rw[h];exact h0),h]
def ke (l:List cJ) (i:Nat):Int:=match l[i]? with
 | some x=>if cD x.name=true then (if er x.kind 1 7=true then (if er x.group 0 200=true then (if bE (l.map cJ.name) i=true then 8 else 0) else 1) else 4) else 5
 | none=>0
def ga (p q:cJ):Bool:=decide (0 < p.group) && decide (q.group=p.group) && !decide (q.kind=p.kind)
theorem Cq {p q:cJ} (h1:0 < p.group) (h2:p.group=q.group) (h3:¬p.kind=q.kind):ga p q=true:=by
 have h4:¬q.kind=p.kind:=fun e=>h3 e.symm
 simp[ga,h1,h2.symm,h4]
theorem sX {p q:cJ} (h:¬(0 < p.group/\p.group=q.group/\¬p.kind=q.kind)):ga p q=false:=by
 rw[Bool.eq_false_iff]
 intro hc
 simp[ga] at hc
 exact h ⟨hc.1.1,hc.1.2.symm,fun e=>hc.2 e.symm⟩
def iw (l:List cJ) (i:Nat):Int:=match l[i]? with
 | some x=>if (l.take i).any (ga x)=true then 12 else 0
 | none=>0
def ey (l:List cJ):Int:=if l.length=0 then 9 else if 200 < l.length then 2 else nq (a8 (ke l) 0 l.length) (a8 (iw l) 0 l.length)
def jU (x:bh):Int:=if cD x.name=true then ey x.pins else 5
def fW (l:List bh) (i:Nat):Int:=match l[i]? with
 | some x=>nq (jU x) (if bE (l.map bh.name) i=true then 8 else 0)
 | none=>0
def cz (l:List bh):Int:=if 200 < l.length then 2 else a8 (fW l) 0 l.length
def sY (l:List cJ):Prop:=l.length<=1048576/\∀x∈l,bO x.name
def po (l:List bh):Prop:=l.length<=1048576/\∀x∈l,bO x.name/\sY x.pins
theorem bO.le {s:ByteArray} (h:bO s):s.size<=9223372036854775807:=by unfold bO at h;omega
theorem F3 (q p:cJ):aw C 247 [.pv (.ag (gM q)),.pv (.ip (gM p))] (.p (bool (ga p q))) []:=by
 refine aE hC Tryz.func247 rfl rfl 21 rfl (by decide) (by kernel_rfl) fun _ _ _ _ _=>?_
 (refine yS<|yn Z<|az zI<|aR<|ai<|yA Z<|yU<|yP Z<|yP Z<|yP Z<|yP Z<|yg Z ?_;refine aa (fun h1=>?_) (fun h1=>?_) <;> try simp only[zB] at h1)
 ·(refine aV<|aN Z Z<|az zI<|aX<|ai<|y1 Z<|y1 Z<|y1 Z<|y1 Z<|yP Z<|yP Z<|yg Z ?_;refine aa (fun h2=>?_) (fun h2=>?_) <;> try simp only[zB] at h2)
  ·refine aV<|aN Z Z<|az zI<|aX<|ai<|y1 Z<|y1 Z<|y1 Z<|y1 Z<|yP Z<|yA Z<|yR zi ?_
   (skip;refine And.intro ?_ trivial)
   simp[bool,ga,h1,h2]
  refine aT<|ae<|y0 Z<|y0 Z<|y0 Z<|y0 Z<|yP Z<|yA Z<|yR zi ?_
  (skip;refine And.intro ?_ trivial)
  simp[bool,ga,h1,h2]
 (refine aT<|ae<|y0 Z<|y0 Z<|y0 Z<|y0 Z<|yP Z<|yP Z<|y0 Z<|y0 Z<|y0 Z<|y0 Z<|y0 Z<|yP Z ?_;refine yA Z<|yR zi ?_)
 (skip;refine And.intro ?_ trivial)
 simp[bool,ga,h1]
theorem ya (l:List cJ) (hN:l.length<=140737488355328) (p:cJ):aw C 285 [.pv (.sl (l.map gM)),.pv (.fn 247 [.ip (gM p)])] (.p (i64 (eH (ga p) l 0))) []:=by
 refine aE hC Tryz.func285 rfl rfl 19 rfl (by decide) (by kernel_rfl) fun _ _ _ _ _=>?_
 have lm:=aJ l gM
 refine yS<|yA Z<|yT<|an<|yS<|yP Z<|yP Z<|yP Z<|yT<|aO ?_
 refine aC (fun i:Nat=>i<=l.length/\∀z∈l.take i,ga p z=false) (fun i=>[(0,.p (.sl (l.map gM))),(1,.p (.fn 247 [.ip (gM p)])),(7,.p (i64 (l.map gM).length)),(8,.p (i64 i))]) (fun _=>[]) (fun i=>l.length - i) 0 _ (bg.refl _ _) ⟨Nat.zero_le _,by simp⟩ ⟨Z,Z,Z,Z,Y⟩ trivial fun i hi t h=>?_
 (refine yS<|yP Z<|yT<|an<|ak Z ?_;refine aa (fun h1=>?_) (fun h1=>?_) <;> try simp only[zB] at h1)
 ·rw[lm] at h1
  obtain⟨r,hr⟩:=aH (l:=l) (i:=i) (by omega)
  (refine ar<|ah<|an<|aO<|yS<|yP Z<|yA Z<|yU<|yP Z<|yP Z<|yP Z<|yq Z<|aL zI ?_;refine⟨(gM r),(idx rfl hr),?_⟩)
  (refine yk<|yP Z<|yn Z<|aL zI ?_;refine⟨_,_,(F3 r p),?_⟩)
  (refine br Z Z<|ae<|yT<|ak Z ?_;refine aa (fun h2=>?_) (fun h2=>?_) <;> try simp only[zB] at h2)
  ·(refine yS<|yP Z<|yA Z<|yT<|aA<|aq<|af<|af<|aq<|af<|aB zi ?_;refine And.intro ?_ trivial)
   rw[cY hr h2 hi.2,Nat.zero_add]
  (refine ar<|aS<|ah<|aP<|yq Z<|bb zI ?_;refine sI ?_)
  (refine yk<|yP Z<|yT<|au ?_;refine⟨(i+1),_,bg.refl _ _,?_⟩)
  exact⟨⟨by omega,dV hr h2 hi.2⟩,by omega,⟨Z,Z,Z,Z,Y⟩,trivial⟩
 rw[lm] at h1
 (refine bF<|aQ<|aQ<|bG<|ah<|yS<|yA Z<|yR zi ?_;refine And.intro ?_ trivial)
 have h2:=hi.2
 rw[List.take_of_length_le (by omega)] at h2
 rw[cr h2]
 rfl
theorem sZ (l:List cJ) (hN:l.length<=140737488355328) (p:cJ):aw C 246 [.pv (.sl (l.map gM)),.pv (.fn 247 [.ip (gM p)])] (.p (bool (l.any (ga p)))) []:=by
 refine aE hC Tryz.func246 rfl rfl 9 rfl (by decide) (by kernel_rfl) fun _ _ _ _ _=>?_
 (refine yS<|yA Z<|yU<|yP Z<|yP Z<|yn Z<|aL zI ?_;refine⟨_,_,(ya l hN p),?_⟩)
 (refine br Z Z<|ae<|yP Z<|yA Z<|yR zi ?_;refine And.intro ?_ trivial)
 rw[<-gB _ l 0]
 rfl
theorem rf (l:List cJ) (ho:sY l):aw C 177 [.pv (.sl (l.map gM))] (.p (i64 (ey l))) []:=by
 refine aE hC Tryz.func177 rfl rfl 71 rfl (by decide) (by kernel_rfl) fun _ _ _ _ _=>?_
 have lm:=aJ l gM
 (refine yS<|yA Z<|yT<|an<|yS<|yP Z<|yP Z<|yP Z<|yT<|ak Z ?_;refine aa (fun g0=>?_) (fun g0=>?_) <;> try simp only[zB] at g0)
 ·(refine yS<|yA Z<|yT<|aA<|af<|aB zi ?_;refine And.intro ?_ trivial)
  rw[ey,if_pos (by have:(((l.map gM).length:Nat):Int)=0:=g0;omega)];rfl
 have g0:¬l.length=0:=fun e=>g0 (by show (((l.map gM).length:Nat):Int)=0;omega)
 (refine ar<|ah<|an<|yS<|yP Z<|yP Z<|yP Z<|yT<|ak Z ?_;refine aa (fun g1=>?_) (fun g1=>?_) <;> try simp only[zB] at g1)
 ·(refine yS<|yA Z<|yT<|aA<|af<|aB zi ?_;refine And.intro ?_ trivial)
  rw[ey,if_neg g0,if_pos (by omega)];rfl
 rw[ey,if_neg g0,if_neg (by omega)]
 refine ar<|ah<|an<|yS<|yP Z<|yP Z<|yP Z<|yT<|aO ?_
 refine aC (fun i:Nat=>i<=l.length/\∀k,k < i->ke l k=0) (fun i=>[(0,.p (.sl (l.map gM))),(13,.p (.sl (l.map gM))),(14,.p (i64 l.length)),(15,.p (i64 i))]) (fun _=>[]) (fun i=>l.length - i) 0 _ (bg.refl _ _) ⟨Nat.zero_le _,fun k h=>by omega⟩ ⟨rfl,rfl,congrArg (fun n:Nat=>AV.p (i64 n)) lm,Z,Y⟩ trivial fun i hi t h=>?_
 (refine yS<|yP Z<|yT<|an<|ak Z ?_;refine aa (fun h1=>?_) (fun h1=>?_) <;> try simp only[zB] at h1)
 ·obtain⟨x,hx⟩:=aH (l:=l) (i:=i) (by omega)
  have cf:ke l i=(if cD x.name=true then (if er x.kind 1 7=true then (if er x.group 0 200=true then (if bE (l.map cJ.name) i=true then 8 else 0) else 1) else 4) else 5):=by simp only[ke,hx]
  (refine ar<|ah<|an<|aO<|yS<|yP Z<|yq Z<|aL zI ?_;refine⟨(gM x),(idx rfl hx),?_⟩)
  obtain so:=ho.2 x (List.mem_of_getElem? hx)
  ((refine yk<|yP Z<|yn Z<|az zI<|aR<|ai<|yA Z<|yq Z<|az zI<|aX<|aM<|aU<|yT<|aO ?_;refine yS<|yV Z<|yP Z<|yn Z<|aL zI ?_);refine⟨_,_,(eD x.name so.le),?_⟩)
  (refine br Z Z<|ae<|yP Z<|yA Z<|yT<|ak Z ?_;refine aa (fun a1=>?_) (fun a1=>?_) <;> try simp only[zB] at a1)
  ·(refine yS<|yA Z<|yT<|aA<|aq<|aq<|af<|af<|aq<|af<|aB zi ?_;refine And.intro ?_ trivial)
   rw[if_neg (by simp[a1])] at cf
   rw[aI hi.2 (by omega) cf (by decide)];rfl
  rw[if_pos (by simpa using a1)] at cf
  (refine yS<|yV Z<|yP Z<|yP Z<|yP Z<|yg Z ?_;refine aa (fun a2=>?_) (fun a2=>?_) <;> try simp only[zB] at a2)
  ·((refine aT<|ae<|y0 Z<|y0 Z<|yP Z<|yA Z<|yT<|ak Z<|cu<|yS<|yA Z<|yT<|aA<|aq ?_;refine aq<|af<|af<|aq<|af<|aB zi ?_);refine And.intro ?_ trivial)
   rw[if_neg (by simp[er];omega)] at cf
   rw[aI hi.2 (by omega) cf (by decide)];rfl
  (refine aV<|aN Z Z<|az zI<|aX<|ai<|y1 Z<|y1 Z<|yP Z<|yA Z<|yT<|ak Z ?_;refine aa (fun a3=>?_) (fun a3=>?_) <;> try simp only[zB] at a3)
  ·(refine yS<|yA Z<|yT<|aA<|aq<|aq<|af<|af<|aq<|af<|aB zi ?_;refine And.intro ?_ trivial)
   rw[if_neg (by simp[er];omega)] at cf
   rw[aI hi.2 (by omega) cf (by decide)];rfl
  rw[if_pos (by rw[eE];omega)] at cf
  (refine yS<|yV Z<|yP Z<|yP Z<|yP Z<|yg Z ?_;refine aa (fun a4=>?_) (fun a4=>?_) <;> try simp only[zB] at a4)
  ·((refine aT<|ae<|y0 Z<|y0 Z<|yP Z<|yA Z<|yT<|ak Z<|cu<|yS<|yA Z<|yT<|aA<|aq ?_;refine aq<|af<|af<|aq<|af<|aB zi ?_);refine And.intro ?_ trivial)
   rw[if_neg (by simp[er];omega)] at cf
   rw[aI hi.2 (by omega) cf (by decide)];rfl
  (refine aV<|aN Z Z<|az zI<|aX<|ai<|y1 Z<|y1 Z<|yP Z<|yA Z<|yT<|ak Z ?_;refine aa (fun a5=>?_) (fun a5=>?_) <;> try simp only[zB] at a5)
  ·(refine yS<|yA Z<|yT<|aA<|aq<|aq<|af<|af<|aq<|af<|aB zi ?_;refine And.intro ?_ trivial)
   rw[if_neg (by simp[er];omega)] at cf
   rw[aI hi.2 (by omega) cf (by decide)];rfl
  rw[if_pos (by rw[eE];omega)] at cf
  (refine an<|cF [] false lX rfl (by kernel_rfl)<|cE Z<|yD Z<|yD Z<|yD Z<|dg Z ?_;refine aa (fun o1=>?_) (fun o1=>?_) <;> try simp only[zB] at o1)
  ·obtain⟨z,hz⟩:=aH (l:=l) (i:=i - 1) (by omega)
   rw[dG (f:=cJ.name) hx hz (by omega)] at cf
   (refine aV<|bA Z<|az zI<|bM<|ai<|d1 Z<|d1 Z<|d1 Z<|d2 Z<|bA Z<|bb zI ?_;refine sI ?_)
   (refine bM<|ae<|d2 Z<|bA Z<|aL zI ?_;refine⟨(gM z),(idx (show (i:Int) - 1=((i - 1:Nat):Int) by omega) hz),?_⟩)
   ((refine bM<|ae<|d1 Z<|d1 Z<|d1 Z<|yD Z<|yD Z<|bR<|ao Z<|ao Z<|ao Z<|ao Z<|ao Z<|ao Z ?_;refine ao Z<|ao Z<|ao Z<|ao Z<|ao Z<|ao Z<|ao Z<|dH Z Z<|bS Z<|ah<|ak Z ?_);refine aa (fun o2=>?_) (fun o2=>?_) <;> try simp only[zB] at o2)
   ·(refine yS<|yA Z<|yT<|aA<|aq<|aq<|af<|af<|aq<|af<|aB zi ?_;refine And.intro ?_ trivial)
    have o2:(cB (cJ.name x) (cJ.name z) || decide (cJ.name x=cJ.name z))=true:=by simpa [cB] using o2
    rw[o2,if_pos rfl] at cf
    rw[aI hi.2 (by omega) cf (by decide)];rfl
   have o2:(cB (cJ.name x) (cJ.name z) || decide (cJ.name x=cJ.name z))=false:=by simpa [cB] using o2
   rw[o2,if_neg (by decide)] at cf
   (refine ar<|aS<|aS<|ah<|aP<|yq Z<|bb zI ?_;refine sI ?_)
   (refine yk<|yP Z<|yT<|au ?_;refine⟨(i+1),_,bg.refl _ _,?_⟩)
   exact⟨⟨by omega,cw hi.2 cf⟩,by omega,⟨Z,Z,Z,Z,Y⟩,trivial⟩
  have h0:i=0:=by omega
  rw[eU h0,if_neg (by decide)] at cf
  ((refine aT<|ae<|d0 Z<|d0 Z<|d0 Z<|d0 Z<|d0 Z<|d0 Z<|d0 Z<|d0 Z<|yD Z<|yD Z<|bR<|ao Z ?_;refine ao Z<|ao Z<|ao Z<|ao Z<|ao Z<|ao Z<|ao Z<|ao Z<|ao Z<|ao Z<|ao Z<|ao Z<|dH Z Z<|bS Z ?_;refine ah<|ak Z<|bz<|ar<|aS<|aS<|ah<|aP<|yq Z<|bb zI ?_);refine sI ?_)
  (refine yk<|yP Z<|yT<|au ?_;refine⟨(i+1),_,bg.refl _ _,?_⟩)
  exact⟨⟨by omega,cw hi.2 cf⟩,by omega,⟨Z,Z,Z,Z,Y⟩,trivial⟩
 skip
 have z0:a8 (ke l) 0 l.length=0:=bp fun k _ hk=>hi.2 k (by omega)
 rw[eM z0]
 refine bF<|aQ<|aQ<|bG<|ah<|an<|yS<|yP Z<|yP Z<|yP Z<|yT<|aO ?_
 refine aC (fun i:Nat=>i<=l.length/\∀k,k < i->iw l k=0) (fun i=>[(0,.p (.sl (l.map gM))),(58,.p (.sl (l.map gM))),(59,.p (i64 l.length)),(60,.p (i64 i))]) (fun _=>[]) (fun i=>l.length - i) 0 _ (bg.refl _ _) ⟨Nat.zero_le _,fun k h=>by omega⟩ ⟨rfl,rfl,congrArg (fun n:Nat=>AV.p (i64 n)) lm,Z,Y⟩ trivial fun i hi t h=>?_
 (refine yS<|yP Z<|yT<|an<|ak Z ?_;refine aa (fun h1=>?_) (fun h1=>?_) <;> try simp only[zB] at h1)
 ·obtain⟨x,hx⟩:=aH (l:=l) (i:=i) (by omega)
  have cf:iw l i=(if (l.take i).any (ga x)=true then 12 else 0):=by simp only[iw,hx]
  (refine ar<|ah<|an<|aO<|yS<|yP Z<|yq Z<|aL zI ?_;refine⟨(gM x),(idx rfl hx),?_⟩)
  have et:(l.map gM).take i=(l.take i).map gM:=List.map_take.symm
  ((refine yk<|yP Z<|yn Z<|az zI<|aR<|ai<|yA Z<|yq Z<|az zI<|aX<|aM<|aU<|yU<|yP Z ?_;refine yP Z<|yq Z<|bb zI ?_);refine And.intro ⟨by omega,by omega,by omega,pk fun _=>rfl⟩ ?_)
  have hcl:=sZ (l.take i) (by rw[List.length_take];omega) x
  rw[<-et] at hcl
  (refine yk<|yV Z<|yn Z<|aL zI ?_;refine⟨_,_,hcl,?_⟩)
  (refine br Z Z<|ae<|yT<|ak Z ?_;refine aa (fun b1=>?_) (fun b1=>?_) <;> try simp only[zB] at b1)
  ·(refine yS<|yA Z<|yT<|aA<|aq<|af<|af<|aq<|af<|aB zi ?_;refine And.intro ?_ trivial)
   rw[if_pos b1] at cf
   rw[aI hi.2 (by omega) cf (by decide)];rfl
  rw[if_neg (by simp[b1])] at cf
  (refine ar<|aS<|ah<|aP<|yq Z<|bb zI ?_;refine sI ?_)
  (refine yk<|yP Z<|yT<|au ?_;refine⟨(i+1),_,bg.refl _ _,?_⟩)
  exact⟨⟨by omega,cw hi.2 cf⟩,by omega,⟨Z,Z,Z,Z,Y⟩,trivial⟩
 (refine bF<|aQ<|aQ<|bG<|ah<|yS<|yA Z<|yR zi ?_;refine And.intro ?_ trivial)
 have z0:a8 (iw l) 0 l.length=0:=bp fun k _ hk=>hi.2 k (by omega)
 rw[z0];rfl
theorem p9 (l:List bh) (ho:po l):aw C 105 [.pv (.sl (l.map g_))] (.p (i64 (cz l))) []:=by
 refine aE hC Tryz.func105 rfl rfl 40 rfl (by decide) (by kernel_rfl) fun _ _ _ _ _=>?_
 have lm:=aJ l g_
 (refine yS<|yA Z<|yT<|an<|yS<|yP Z<|yP Z<|yP Z<|yT<|ak Z ?_;refine aa (fun g1=>?_) (fun g1=>?_) <;> try simp only[zB] at g1)
 ·(refine yS<|yA Z<|yT<|aA<|af<|aB zi ?_;refine And.intro ?_ trivial)
  rw[cz,if_pos (by omega)];rfl
 rw[cz,if_neg (by omega)]
 refine ar<|ah<|an<|yS<|yP Z<|yP Z<|yP Z<|yT<|aO ?_
 refine aC (fun i:Nat=>i<=l.length/\∀k,k < i->fW l k=0) (fun i=>[(0,.p (.sl (l.map g_))),(9,.p (.sl (l.map g_))),(10,.p (i64 l.length)),(11,.p (i64 i))]) (fun _=>[]) (fun i=>l.length - i) 0 _ (bg.refl _ _) ⟨Nat.zero_le _,fun k h=>by omega⟩ ⟨rfl,rfl,congrArg (fun n:Nat=>AV.p (i64 n)) lm,Z,Y⟩ trivial fun i hi t h=>?_
 (refine yS<|yP Z<|yT<|an<|ak Z ?_;refine aa (fun h1=>?_) (fun h1=>?_) <;> try simp only[zB] at h1)
 ·obtain⟨x,hx⟩:=aH (l:=l) (i:=i) (by omega)
  have cf:fW l i=nq (jU x) (if bE (l.map bh.name) i=true then 8 else 0):=by simp only[fW,hx]
  (refine ar<|ah<|an<|aO<|yS<|yP Z<|yq Z<|aL zI ?_;refine⟨(g_ x),(idx rfl hx),?_⟩)
  obtain⟨so,sp⟩:=ho.2 x (List.mem_of_getElem? hx)
  ((refine yk<|yP Z<|yn Z<|az zI<|aR<|ai<|yA Z<|yq Z<|az zI<|aX<|aM<|aU<|yT<|an ?_;refine yS<|yV Z<|yP Z<|yn Z<|aL zI ?_);refine⟨_,_,(eD x.name so.le),?_⟩)
  (refine br Z Z<|ae<|yP Z<|yT<|ak Z ?_;refine aa (fun a1=>?_) (fun a1=>?_) <;> try simp only[zB] at a1)
  ·(refine yS<|yA Z<|yT<|aA<|af<|aq<|af<|af<|aq<|af<|aB zi ?_;refine And.intro ?_ trivial)
   rw[dy (c:=5) (by rw[jU,if_neg (by simp[a1])]) (by decide)] at cf
   rw[aI hi.2 (by omega) cf (by decide)];rfl
  have et:jU x=ey x.pins:=by rw[jU,if_pos (by simpa using a1)]
  (refine ar<|ah<|an<|yS<|yV Z<|yP Z<|yn Z<|aL zI ?_;refine⟨_,_,(rf x.pins sp),?_⟩)
  (refine br Z Z<|ae<|yA Z<|yU<|yP Z<|yP Z<|yT<|ak Z ?_;refine aa (fun a2=>?_) (fun a2=>?_) <;> try simp only[zB] at a2)
  ·have a2:ey x.pins≠0:=by simpa using a2
   rw[dy et a2] at cf
   (refine yS<|yP Z<|yA Z<|yT<|aA<|af<|aq<|af<|af<|aq<|af<|aB zi ?_;refine And.intro ?_ trivial)
   rw[aI hi.2 (by omega) cf a2]
  have a2:ey x.pins=0:=by simpa using a2
  rw[eM (by rw[et,a2])] at cf
  (refine ar<|ah<|an<|cF [] false Ce rfl (by kernel_rfl)<|cE Z<|yD Z<|yD Z<|yD Z<|dg Z ?_;refine aa (fun o1=>?_) (fun o1=>?_) <;> try simp only[zB] at o1)
  ·obtain⟨z,hz⟩:=aH (l:=l) (i:=i - 1) (by omega)
   rw[dG (f:=bh.name) hx hz (by omega)] at cf
   (refine aV<|bA Z<|az zI<|bM<|ai<|d1 Z<|d1 Z<|d1 Z<|d2 Z<|bA Z<|bb zI ?_;refine sI ?_)
   (refine bM<|ae<|d2 Z<|bA Z<|aL zI ?_;refine⟨(g_ z),(idx (show (i:Int) - 1=((i - 1:Nat):Int) by omega) hz),?_⟩)
   (refine bM<|ae<|d1 Z<|d1 Z<|d1 Z<|yD Z<|bR<|bS Z<|ah<|ak Z ?_;refine aa (fun o2=>?_) (fun o2=>?_) <;> try simp only[zB] at o2)
   ·(refine yS<|yA Z<|yT<|aA<|aq<|af<|af<|aq<|af<|aB zi ?_;refine And.intro ?_ trivial)
    have o2:(cB (bh.name x) (bh.name z) || decide (bh.name x=bh.name z))=true:=by simpa [cB] using o2
    rw[o2,if_pos rfl] at cf
    rw[aI hi.2 (by omega) cf (by decide)];rfl
   have o2:(cB (bh.name x) (bh.name z) || decide (bh.name x=bh.name z))=false:=by simpa [cB] using o2
   rw[o2,if_neg (by decide)] at cf
   (refine ar<|aS<|ah<|aP<|yq Z<|bb zI ?_;refine sI ?_)
   (refine yk<|yP Z<|yT<|au ?_;refine⟨(i+1),_,bg.refl _ _,?_⟩)
   exact⟨⟨by omega,cw hi.2 cf⟩,by omega,⟨Z,Z,Z,Z,Y⟩,trivial⟩
  have h0:i=0:=by omega
  rw[eU h0,if_neg (by decide)] at cf
  ((refine aT<|ae<|d0 Z<|d0 Z<|d0 Z<|d0 Z<|d0 Z<|d0 Z<|d0 Z<|d0 Z<|yD Z<|bR<|bS Z<|ah ?_;refine ak Z<|bz<|ar<|aS<|ah<|aP<|yq Z<|bb zI ?_);refine sI ?_)
  (refine yk<|yP Z<|yT<|au ?_;refine⟨(i+1),_,bg.refl _ _,?_⟩)
  exact⟨⟨by omega,cw hi.2 cf⟩,by omega,⟨Z,Z,Z,Z,Y⟩,trivial⟩
 (refine bF<|aQ<|aQ<|bG<|ah<|yS<|yA Z<|yR zi ?_;refine And.intro ?_ trivial)
 have z0:a8 (fW l) 0 l.length=0:=bp fun k _ hk=>hi.2 k (by omega)
 rw[z0];rfl
theorem s3 (y:bh) (so:bO y.name) (sp:sY y.pins):aw C 131 [.pv (.ag (g_ y))] (.p (i64 (jU y))) []:=by
 refine aE hC Tryz.func131 rfl rfl 99 rfl (by decide) (by kernel_rfl) fun _ _ _ _ _=>?_
 have lm:=aJ y.pins gM
 (refine yS<|yn Z<|az zI<|aR<|ai<|yA Z<|yT<|an<|aO<|yS<|yV Z<|yP Z<|yn Z<|aL zI ?_;refine⟨_,_,(mC y.name so.le),?_⟩)
 (refine br Z Z<|ae<|yP Z<|yA Z<|yT<|ak Z ?_;refine aa (fun g0=>?_) (fun g0=>?_) <;> try simp only[zB] at g0)
 ·(refine yS<|yA Z<|yT<|aA<|aq<|af<|aB zi ?_;refine And.intro ?_ trivial)
  rw[jU,if_neg (by simp[g0])];rfl
 rw[jU,if_pos (by simpa using g0)]
 (refine yS<|yV Z<|yP Z<|yP Z<|yP Z<|yA Z<|yT<|ak Z ?_;refine aa (fun g1=>?_) (fun g1=>?_) <;> try simp only[zB] at g1)
 ·(refine yS<|yA Z<|yT<|aA<|aq<|af<|aB zi ?_;refine And.intro ?_ trivial)
  rw[ey,if_pos (by have:(((y.pins.map gM).length:Nat):Int)=0:=g1;omega)];rfl
 have g1:¬y.pins.length=0:=fun e=>g1 (by show (((y.pins.map gM).length:Nat):Int)=0;omega)
 (refine yS<|yV Z<|yP Z<|yP Z<|yP Z<|yA Z<|yT<|ak Z ?_;refine aa (fun g2=>?_) (fun g2=>?_) <;> try simp only[zB] at g2)
 ·(refine yS<|yA Z<|yT<|aA<|aq<|af<|aB zi ?_;refine And.intro ?_ trivial)
  rw[ey,if_neg g1,if_pos (by omega)];rfl
 rw[ey,if_neg g1,if_neg (by omega)]
 refine ar<|aS<|ah<|an<|yS<|yV Z<|yP Z<|yP Z<|yP Z<|yT<|aO ?_
 refine aC (fun i:Nat=>i<=y.pins.length/\∀k,k < i->ke y.pins k=0) (fun i=>[(1,.bx 1 0),(25,.p (.sl (y.pins.map gM))),(26,.p (i64 y.pins.length)),(27,.p (i64 i))]) (fun _=>[(1,.box [.p (str y.name),.p (.sl (y.pins.map gM))])]) (fun i=>y.pins.length - i) 0 _ (bg.refl _ _) ⟨Nat.zero_le _,fun k h=>by omega⟩ ⟨rfl,rfl,congrArg (fun n:Nat=>AV.p (i64 n)) lm,Z,Y⟩ ⟨Z,Y⟩ fun i hi t h=>?_
 (refine yS<|yP Z<|yT<|an<|ak Z ?_;refine aa (fun h1=>?_) (fun h1=>?_) <;> try simp only[zB] at h1)
 ·obtain⟨x,hx⟩:=aH (l:=y.pins) (i:=i) (by omega)
  have cf:ke y.pins i=(if cD x.name=true then (if er x.kind 1 7=true then (if er x.group 0 200=true then (if bE (y.pins.map cJ.name) i=true then 8 else 0) else 1) else 4) else 5):=by simp only[ke,hx]
  (refine ar<|ah<|an<|aO<|yS<|yP Z<|yq Z<|aL zI ?_;refine⟨(gM x),(idx rfl hx),?_⟩)
  obtain Em:=sp.2 x (List.mem_of_getElem? hx)
  ((refine yk<|yP Z<|yn Z<|az zI<|aR<|ai<|yA Z<|yq Z<|az zI<|aX<|aM<|aU<|yT<|aO ?_;refine yS<|yV Z<|yP Z<|yn Z<|aL zI ?_);refine⟨_,_,(mC x.name Em.le),?_⟩)
  (refine br Z Z<|ae<|yP Z<|yA Z<|yT<|ak Z ?_;refine aa (fun a1=>?_) (fun a1=>?_) <;> try simp only[zB] at a1)
  ·(refine yS<|yA Z<|yT<|aA<|aq<|aq<|af<|af<|aq<|af<|aB zi ?_;refine And.intro ?_ trivial)
   rw[if_neg (by simp[a1])] at cf
   rw[aI hi.2 (by omega) cf (by decide)];rfl
  rw[if_pos (by simpa using a1)] at cf
  (refine yS<|yV Z<|yP Z<|yn Z<|aL zI ?_;refine⟨_,_,(mB x.kind 1 7),?_⟩)
  (refine br Z Z<|ae<|yP Z<|yA Z<|yT<|ak Z ?_;refine aa (fun a2=>?_) (fun a2=>?_) <;> try simp only[zB] at a2)
  ·(refine yS<|yA Z<|yT<|aA<|aq<|aq<|af<|af<|aq<|af<|aB zi ?_;refine And.intro ?_ trivial)
   rw[if_neg (by simp[a2])] at cf
   rw[aI hi.2 (by omega) cf (by decide)];rfl
  rw[if_pos (by simpa using a2)] at cf
  (refine yS<|yV Z<|yP Z<|yn Z<|aL zI ?_;refine⟨_,_,(mB x.group 0 200),?_⟩)
  (refine br Z Z<|ae<|yP Z<|yA Z<|yT<|ak Z ?_;refine aa (fun a3=>?_) (fun a3=>?_) <;> try simp only[zB] at a3)
  ·(refine yS<|yA Z<|yT<|aA<|aq<|aq<|af<|af<|aq<|af<|aB zi ?_;refine And.intro ?_ trivial)
   rw[if_neg (by simp[a3])] at cf
   rw[aI hi.2 (by omega) cf (by decide)];rfl
  rw[if_pos (by simpa using a3)] at cf
  (refine an<|cF [] false FK rfl (by kernel_rfl)<|cE Z<|yD Z<|yD Z<|yD Z<|dg Z ?_;refine aa (fun o1=>?_) (fun o1=>?_) <;> try simp only[zB] at o1)
  ·obtain⟨z,hz⟩:=aH (l:=y.pins) (i:=i - 1) (by omega)
   rw[dG (f:=cJ.name) hx hz (by omega)] at cf
   ((refine aV<|bA Z<|az zI<|bM<|ai<|d1 Z<|d2 Z<|bA Z<|az zI<|bM<|ai<|d1 Z<|d1 Z<|d2 Z ?_;refine bA Z<|bb zI ?_);refine sI ?_)
   (refine bM<|ae<|d2 Z<|bA Z<|aL zI ?_;refine⟨(gM z),(idx (show (i:Int) - 1=((i - 1:Nat):Int) by omega) hz),?_⟩)
   ((refine bM<|ae<|d1 Z<|d1 Z<|d1 Z<|yD Z<|yD Z<|bR<|ao Z<|ao Z<|ao Z<|ao Z<|ao Z<|ao Z ?_;refine ao Z<|ao Z<|ao Z<|ao Z<|ao Z<|ao Z<|ao Z<|ao Z<|dH Z Z<|bS Z<|ah<|ak Z ?_);refine aa (fun o2=>?_) (fun o2=>?_) <;> try simp only[zB] at o2)
   ·(refine yS<|yA Z<|yT<|aA<|aq<|aq<|af<|af<|aq<|af<|aB zi ?_;refine And.intro ?_ trivial)
    have o2:(cB (cJ.name x) (cJ.name z) || decide (cJ.name x=cJ.name z))=true:=by simpa [cB] using o2
    rw[o2,if_pos rfl] at cf
    rw[aI hi.2 (by omega) cf (by decide)];rfl
   have o2:(cB (cJ.name x) (cJ.name z) || decide (cJ.name x=cJ.name z))=false:=by simpa [cB] using o2
   rw[o2,if_neg (by decide)] at cf
   (refine ar<|aS<|aS<|ah<|aP<|yq Z<|bb zI ?_;refine sI ?_)
   (refine yk<|yP Z<|yT<|au ?_;refine⟨(i+1),_,bg.refl _ _,?_⟩)
   exact⟨⟨by omega,cw hi.2 cf⟩,by omega,⟨Z,Z,Z,Z,Y⟩,⟨Z,Y⟩⟩
  have h0:i=0:=by omega
  rw[eU h0,if_neg (by decide)] at cf
  ((refine aT<|ae<|d0 Z<|d0 Z<|d0 Z<|d0 Z<|d0 Z<|d0 Z<|d0 Z<|d0 Z<|d0 Z<|yD Z<|yD Z<|bR ?_;refine ao Z<|ao Z<|ao Z<|ao Z<|ao Z<|ao Z<|ao Z<|ao Z<|ao Z<|ao Z<|ao Z<|ao Z<|ao Z<|ao Z ?_;refine dH Z Z<|bS Z<|ah<|ak Z<|bz<|ar<|aS<|aS<|ah<|aP<|yq Z<|bb zI ?_);refine sI ?_)
  (refine yk<|yP Z<|yT<|au ?_;refine⟨(i+1),_,bg.refl _ _,?_⟩)
  exact⟨⟨by omega,cw hi.2 cf⟩,by omega,⟨Z,Z,Z,Z,Y⟩,⟨Z,Y⟩⟩
 skip
 have z0:a8 (ke y.pins) 0 y.pins.length=0:=bp fun k _ hk=>hi.2 k (by omega)
 rw[eM z0]
 refine bF<|aQ<|aQ<|bG<|ah<|an<|yS<|yV Z<|yP Z<|yP Z<|yP Z<|yT<|aO ?_
 refine aC (fun i:Nat=>i<=y.pins.length/\∀k,k < i->iw y.pins k=0) (fun i=>[(1,.bx 1 0),(64,.p (.sl (y.pins.map gM))),(65,.p (i64 y.pins.length)),(66,.p (i64 i))]) (fun _=>[(1,.box [.p (str y.name),.p (.sl (y.pins.map gM))])]) (fun i=>y.pins.length - i) 0 _ (bg.refl _ _) ⟨Nat.zero_le _,fun k h=>by omega⟩ ⟨rfl,rfl,congrArg (fun n:Nat=>AV.p (i64 n)) lm,Z,Y⟩ ⟨Z,Y⟩ fun i hi t h=>?_
 (refine yS<|yP Z<|yT<|an<|ak Z ?_;refine aa (fun h1=>?_) (fun h1=>?_) <;> try simp only[zB] at h1)
 ·obtain⟨x,hx⟩:=aH (l:=y.pins) (i:=i) (by omega)
  have cf:iw y.pins i=(if (y.pins.take i).any (ga x)=true then 12 else 0):=by simp only[iw,hx]
  (refine ar<|ah<|an<|aO<|yS<|yP Z<|yq Z<|aL zI ?_;refine⟨(gM x),(idx rfl hx),?_⟩)
  have et:(y.pins.map gM).take i=(y.pins.take i).map gM:=List.map_take.symm
  have el:((y.pins.map gM).take i).length=i:=by rw[List.length_take];omega
  ((refine yk<|yP Z<|yn Z<|az zI<|aR<|ai<|yA Z<|yq Z<|az zI<|aX<|aM<|aU<|yU<|yV Z ?_;refine yP Z<|yP Z<|yq Z<|bb zI ?_);refine And.intro ⟨by omega,by omega,by omega,pk fun _=>rfl⟩ ?_)
  refine yk<|yP Z<|yP Z<|yT<|aO ?_
  refine aC (fun j:Nat=>j<=i/\∀z∈(y.pins.take i).take j,ga x z=false) (fun j=>[(1,.bx 1 0),(64,.p (.sl (y.pins.map gM))),(65,.p (i64 y.pins.length)),(66,.p (i64 i)),(6,.bx 6 0),(74,.p (.sl ((y.pins.map gM).take i))),(75,.p (i64 i)),(76,.p (i64 j))]) (fun _=>[(1,.box [.p (str y.name),.p (.sl (y.pins.map gM))]),(6,.box ((gM x).map .p))]) (fun j=>i - j) 0 _ (bg.refl _ _) ⟨Nat.zero_le _,by simp⟩ ⟨rfl,rfl,rfl,rfl,rfl,rfl,congrArg (fun n:Nat=>AV.p (i64 n)) el,Z,Y⟩ ⟨Z,Z,Y⟩ fun j hj t h=>?_
  (refine yS<|yP Z<|yT<|an<|ak Z ?_;refine aa (fun b1=>?_) (fun b1=>?_) <;> try simp only[zB] at b1)
  ·obtain⟨q,hq⟩:=aH (l:=y.pins.take i) (i:=j) (by rw[List.length_take];omega)
   have hb:ga x q=true->a8 (iw y.pins) 0 y.pins.length=12:=fun hh=>by
    rw[if_pos (List.any_eq_true.2 ⟨q,List.mem_of_getElem? hq,hh⟩)] at cf
    exact aI hi.2 (by omega) cf (by decide)
   rw[et]
   (refine ar<|ah<|an<|aO<|yS<|yq Z<|aL zI ?_;refine⟨(gM q),(idx rfl hq),?_⟩)
   have go:ga x q=false->∀z∈(y.pins.take i).take (j+1),ga x z=false:=fun hh=>dV hq (by simp[hh]) hj.2
   ((refine yk<|yP Z<|yn Z<|az zI<|aR<|ai<|yq Z<|az zI<|aX<|aM<|aU<|yU<|yV Z<|yP Z ?_;refine yP Z<|yP Z<|yg Z ?_);refine aa (fun c1=>?_) (fun c1=>?_) <;> try simp only[zB] at c1)
   ·((refine aV<|aN Z Z<|az zI<|aX<|ai<|y1 Z<|y2 Z<|aN Z Z<|az zI<|aX<|ai<|y1 Z<|y1 Z<|yP Z ?_;refine yP Z<|yg Z ?_);refine aa (fun c2=>?_) (fun c2=>?_) <;> try simp only[zB] at c2)
    ·((refine aV<|aN Z Z<|az zI<|aX<|ai<|y1 Z<|y2 Z<|aN Z Z<|az zI<|aX<|ai<|y1 Z<|y1 Z<|yP Z ?_;refine yT<|ak Z ?_);refine aa (fun c3=>?_) (fun c3=>?_) <;> try simp only[zB] at c3)
     ·(refine yS<|yA Z<|yT<|aA<|aq<|af<|af<|aq<|aq<|af<|af<|aq<|af<|aB zi ?_;refine And.intro ?_ trivial)
      rw[hb (Cq c1 c2 c3)];rfl
     rw[<-et]
     (refine ar<|aS<|ah<|aP<|yq Z<|bb zI ?_;refine sI ?_)
     (refine yk<|yP Z<|yT<|au ?_;refine⟨(j+1),_,bg.refl _ _,?_⟩)
     exact⟨⟨by omega,go (sX fun h=>h.2.2 c3)⟩,by omega,⟨Z,Z,Z,Z,Z,Z,Z,Z,Y⟩,⟨Z,Z,Y⟩⟩
    (refine aT<|ae<|y0 Z<|y0 Z<|y0 Z<|y0 Z<|yP Z<|yT<|ak Z<|bz<|ar<|aS<|ah<|aP ?_;refine yq Z<|bb zI ?_)
    rw[<-et]
    (skip;refine sI ?_)
    (refine yk<|yP Z<|yT<|au ?_;refine⟨(j+1),_,bg.refl _ _,?_⟩)
    exact⟨⟨by omega,go (sX fun h=>c2 h.2.1)⟩,by omega,⟨Z,Z,Z,Z,Z,Z,Z,Z,Y⟩,⟨Z,Z,Y⟩⟩
   (refine aT<|ae<|y0 Z<|y0 Z<|y0 Z<|y0 Z<|yP Z<|yP Z<|y0 Z<|y0 Z<|y0 Z<|y0 Z<|y0 Z<|yP Z ?_;refine yT<|ak Z<|bz<|ar<|aS<|ah<|aP<|yq Z<|bb zI ?_)
   rw[<-et]
   (skip;refine sI ?_)
   (refine yk<|yP Z<|yT<|au ?_;refine⟨(j+1),_,bg.refl _ _,?_⟩)
   exact⟨⟨by omega,go (sX fun h=>c1 h.1)⟩,by omega,⟨Z,Z,Z,Z,Z,Z,Z,Z,Y⟩,⟨Z,Z,Y⟩⟩
  have ej:j=i:=by omega
  have hz:(y.pins.take i).any (ga x)=false:=by
   rw[List.any_eq_false]
   intro z hz
   have:=hj.2 z (by rw[ej,List.take_of_length_le (by rw[List.length_take];omega)];exact hz)
   simp[this]
  rw[if_neg (by simp[hz])] at cf
  (refine bF<|aQ<|aQ<|bG<|aS<|ah<|aP<|yq Z<|bb zI ?_;refine sI ?_)
  (refine yk<|yP Z<|yT<|au ?_;refine⟨(i+1),_,bg.refl _ _,?_⟩)
  exact⟨⟨by omega,cw hi.2 cf⟩,by omega,⟨Z,Z,Z,Z,Y⟩,⟨Z,Y⟩⟩
 (refine bF<|aQ<|aQ<|bG<|ah<|yS<|yA Z<|yR zi ?_;refine And.intro ?_ trivial)
 have z0:a8 (iw y.pins) 0 y.pins.length=0:=bp fun k _ hk=>hi.2 k (by omega)
 rw[z0];rfl
theorem rh (l:List bh) (ho:po l):aw C 50 [.pv (.sl (l.map g_))] (.p (i64 (cz l))) []:=by
 refine aE hC Tryz.func50 rfl rfl 35 rfl (by decide) (by kernel_rfl) fun _ _ _ _ _=>?_
 have lm:=aJ l g_
 (refine yS<|yA Z<|yT<|an<|yS<|yP Z<|yP Z<|yP Z<|yT<|ak Z ?_;refine aa (fun g1=>?_) (fun g1=>?_) <;> try simp only[zB] at g1)
 ·(refine yS<|yA Z<|yT<|aA<|af<|aB zi ?_;refine And.intro ?_ trivial)
  rw[cz,if_pos (by omega)];rfl
 rw[cz,if_neg (by omega)]
 refine ar<|ah<|an<|yS<|yP Z<|yP Z<|yP Z<|yT<|aO ?_
 refine aC (fun i:Nat=>i<=l.length/\∀k,k < i->fW l k=0) (fun i=>[(0,.p (.sl (l.map g_))),(9,.p (.sl (l.map g_))),(10,.p (i64 l.length)),(11,.p (i64 i))]) (fun _=>[]) (fun i=>l.length - i) 0 _ (bg.refl _ _) ⟨Nat.zero_le _,fun k h=>by omega⟩ ⟨rfl,rfl,congrArg (fun n:Nat=>AV.p (i64 n)) lm,Z,Y⟩ trivial fun i hi t h=>?_
 (refine yS<|yP Z<|yT<|an<|ak Z ?_;refine aa (fun h1=>?_) (fun h1=>?_) <;> try simp only[zB] at h1)
 ·obtain⟨x,hx⟩:=aH (l:=l) (i:=i) (by omega)
  have cf:fW l i=nq (jU x) (if bE (l.map bh.name) i=true then 8 else 0):=by simp only[fW,hx]
  (refine ar<|ah<|an<|aO<|yS<|yP Z<|yq Z<|aL zI ?_;refine⟨(g_ x),(idx rfl hx),?_⟩)
  obtain⟨so,sp⟩:=ho.2 x (List.mem_of_getElem? hx)
  ((refine yk<|yP Z<|yn Z<|az zI<|aR<|ai<|yA Z<|yq Z<|az zI<|aX<|aM<|aU<|yT<|an ?_;refine yS<|yP Z<|yn Z<|aL zI ?_);refine⟨_,_,(s3 x so sp),?_⟩)
  (refine br Z Z<|ae<|yA Z<|yU<|yP Z<|yP Z<|yT<|ak Z ?_;refine aa (fun a2=>?_) (fun a2=>?_) <;> try simp only[zB] at a2)
  ·have a2:jU x≠0:=by simpa using a2
   rw[dy rfl a2] at cf
   (refine yS<|yP Z<|yA Z<|yT<|aA<|af<|aq<|af<|af<|aq<|af<|aB zi ?_;refine And.intro ?_ trivial)
   rw[aI hi.2 (by omega) cf a2]
  have a2:jU x=0:=by simpa using a2
  rw[eM a2] at cf
  (refine ar<|ah<|an<|cF [] false Ce rfl (by kernel_rfl)<|cE Z<|yD Z<|yD Z<|yD Z<|dg Z ?_;refine aa (fun o1=>?_) (fun o1=>?_) <;> try simp only[zB] at o1)
  ·obtain⟨z,hz⟩:=aH (l:=l) (i:=i - 1) (by omega)
   rw[dG (f:=bh.name) hx hz (by omega)] at cf
   (refine aV<|bA Z<|az zI<|bM<|ai<|d1 Z<|d1 Z<|d1 Z<|d2 Z<|bA Z<|bb zI ?_;refine sI ?_)
   (refine bM<|ae<|d2 Z<|bA Z<|aL zI ?_;refine⟨(g_ z),(idx (show (i:Int) - 1=((i - 1:Nat):Int) by omega) hz),?_⟩)
   (refine bM<|ae<|d1 Z<|d1 Z<|d1 Z<|yD Z<|bR<|bS Z<|ah<|ak Z ?_;refine aa (fun o2=>?_) (fun o2=>?_) <;> try simp only[zB] at o2)
   ·(refine yS<|yA Z<|yT<|aA<|aq<|af<|af<|aq<|af<|aB zi ?_;refine And.intro ?_ trivial)
    have o2:(cB (bh.name x) (bh.name z) || decide (bh.name x=bh.name z))=true:=by simpa [cB] using o2
    rw[o2,if_pos rfl] at cf
    rw[aI hi.2 (by omega) cf (by decide)];rfl
   have o2:(cB (bh.name x) (bh.name z) || decide (bh.name x=bh.name z))=false:=by simpa [cB] using o2
   rw[o2,if_neg (by decide)] at cf
   (refine ar<|aS<|ah<|aP<|yq Z<|bb zI ?_;refine sI ?_)
   (refine yk<|yP Z<|yT<|au ?_;refine⟨(i+1),_,bg.refl _ _,?_⟩)
   exact⟨⟨by omega,cw hi.2 cf⟩,by omega,⟨Z,Z,Z,Z,Y⟩,trivial⟩
  have h0:i=0:=by omega
  rw[eU h0,if_neg (by decide)] at cf
  ((refine aT<|ae<|d0 Z<|d0 Z<|d0 Z<|d0 Z<|d0 Z<|d0 Z<|d0 Z<|d0 Z<|yD Z<|bR<|bS Z<|ah ?_;refine ak Z<|bz<|ar<|aS<|ah<|aP<|yq Z<|bb zI ?_);refine sI ?_)
  (refine yk<|yP Z<|yT<|au ?_;refine⟨(i+1),_,bg.refl _ _,?_⟩)
  exact⟨⟨by omega,cw hi.2 cf⟩,by omega,⟨Z,Z,Z,Z,Y⟩,trivial⟩
 (refine bF<|aQ<|aQ<|bG<|ah<|yS<|yA Z<|yR zi ?_;refine And.intro ?_ trivial)
 have z0:a8 (fW l) 0 l.length=0:=bp fun k _ hk=>hi.2 k (by omega)
 rw[z0];rfl
structure Net where
 name:ByteArray
 pins:List jJ
 ports:List ByteArray
structure p_ where
 parts:List Part
 nets:List Net
def s4 (n:Net):List PV:=[str n.name,.sl (n.pins.map kL),strs n.ports]
def yC (x:p_):List PV:=[.sl (x.parts.map kb),.sl (x.nets.map s4)]
theorem c_ {f:Nat->Int}:∀{n i:Nat},a8 f i n=0->∀k,i<=k->k < i+n->f k=0
 | 0,i,_,k,h1,h2=>by omega
 | n+1,i,h,k,h1,h2=>by
  rw[a8] at h
  split at h
  ·rename_i h0
   by_cases e:k=i
   ·rw[e];exact h0
   exact c_ h k (by omega) (by omega)
  rename_i h0;exact absurd h h0
theorem fK {a b:Int} (h:nq a b=0):a=0/\b=0:=by
 unfold nq at h
 split at h
 ·rename_i h0;exact⟨h0,h⟩
 rename_i h0;exact absurd h h0
theorem u5 {a b:ByteArray} (h:cB a b=false) (hn:¬a=b):cB b a=true:=by
 rw[ln]
 have h1:¬a.data.toList < b.data.toList:=fun e=>by rw[ln.2 e] at h;cases h
 have h2:¬a.data.toList=b.data.toList:=fun e=>hn ((cmp_eq a b).1 ((pj _ _).2.2 e))
 rcases List.le_total a.data.toList b.data.toList with h3 | h3
 ·exact absurd (List.le_antisymm h3 (List.not_lt.1 h1)) h2
 rcases Classical.em (b.data.toList < a.data.toList) with h4 | h4
 ·exact h4
 exact absurd (List.le_antisymm (List.not_lt.1 h4) (List.not_lt.1 h1)) h2
theorem gH {α:Type} {f:α->ByteArray} {l:List α} (h:∀i,i < l.length->bE (l.map f) i=false):cG f l:=by
 unfold cG
 rw[List.pairwise_iff_getElem]
 intro i j hi hj CB
 obtain⟨d,rfl⟩:∃d,j=i+1+d:=⟨j - i - 1,by omega⟩
 have step:∀k (hk:k+1 < l.length),cB (f l[k]) (f l[k+1])=true:=fun k hk=>by
  have:=h (k+1) hk
  rw[dG (List.getElem?_eq_getElem hk) (List.getElem?_eq_getElem (show k+1 - 1 < l.length by omega)) (by omega),Bool.or_eq_false_iff] at this
  exact u5 this.1 (by simpa using this.2)
 clear CB
 induction d with
 | zero=>exact step i hj
 | succ d ih=>exact dC (ih (by omega) step) (step (i+1+d) hj)
structure ic (t:List bh):Prop where
 len:t.length<=200
 ord:cG bh.name t
 pins:∀x∈t,cG cJ.name x.pins/\x.pins.length<=200
theorem lA {t:List bh} (h:cz t=0):ic t:=by
 unfold cz at h
 split at h
 ·cases h
 have key:=fun k hk=>fK (c_ h k (Nat.zero_le _) (by rw[Nat.zero_add];exact hk) |> (fun e=>by
  obtain⟨x,hx⟩:=aH (l:=t) (i:=k) hk
  exact e:fW t k=0->fW t k=0) |> (fun e=>by
  obtain⟨x,hx⟩:=aH (l:=t) (i:=k) hk
  simp only[fW,hx] at e
  exact (by rw[show t[k]=x from Option.some.inj ((List.getElem?_eq_getElem hk).symm.trans hx)];exact e:nq (jU t[k]) (if bE (t.map bh.name) k=true then 8 else 0)=0)))
 refine⟨by omega,gH fun i hi=>?_,fun x hx=>?_⟩
 ·have:=(key i hi).2
  cases e:bE (t.map bh.name) i with
  | false=>rfl
  | true=>rw[e] at this;cases this
 obtain⟨k,hk⟩:=List.mem_iff_getElem?.1 hx
 have Jb:=(List.getElem?_eq_some_iff.1 hk).1
 have h1:=(key k Jb).1
 rw[show t[k]=x from Option.some.inj ((List.getElem?_eq_getElem Jb).symm.trans hk),jU] at h1
 split at h1
 ·unfold ey at h1
  split at h1
  ·cases h1
  split at h1
  ·cases h1
  refine⟨gH fun i hi=>?_,by omega⟩
  have h2:=c_ (fK h1).1 i (Nat.zero_le _) (by omega)
  obtain⟨y,hy⟩:=aH (l:=x.pins) (i:=i) hi
  simp only[ke,hy] at h2
  split at h2
  ·split at h2
   ·split at h2
    ·cases e:bE (x.pins.map cJ.name) i with
     | false=>rfl
     | true=>rw[e] at h2;cases h2
    cases h2
   cases h2
  cases h2
 cases h1
def gT (t:List bh) (l:List Part) (i:Nat):Int:=match l[i]? with
 | some x=>if eT x.name=true then (if dk bh.name t x.type=true then (if bE (l.map Part.name) i=true then 8 else 0) else 9) else 5
 | none=>0
def dm (t:List bh) (l:List Part):Int:=if 1000 < l.length then 2 else a8 (gT t l) 0 l.length
structure kA (t:List bh) (l:List Part):Prop where
 len:l.length<=1000
 ord:cG Part.name l
 typ:∀x∈l,dk bh.name t x.type=true
theorem ox {t:List bh} {l:List Part} (h:dm t l=0):kA t l:=by
 unfold dm at h
 split at h
 ·cases h
 have key:∀i x,l[i]?=some x->dk bh.name t x.type=true/\bE (l.map Part.name) i=false:=fun i x hx=>by
  have h2:=c_ h i (Nat.zero_le _) (by rw[Nat.zero_add];exact (List.getElem?_eq_some_iff.1 hx).1)
  simp only[gT,hx] at h2
  split at h2
  ·split at h2
   ·rename_i h3
    cases e:bE (l.map Part.name) i with
    | false=>exact⟨h3,rfl⟩
    | true=>rw[e] at h2;cases h2
   cases h2
  cases h2
 refine⟨by omega,gH fun i hi=>(key i _ (List.getElem?_eq_getElem hi)).2,fun x hx=>?_⟩
 obtain⟨k,hk⟩:=List.mem_iff_getElem?.1 hx
 exact (key k x hk).1
def gu (t:List bh) (l:List Part) (p:jJ):Bool:=decide (0<=dO Part.name l p.part) && (match l[(dO Part.name l p.part).toNat]? with
 | some q=>(match t[(dO bh.name t q.type).toNat]? with
  | some y=>decide (0<=dO cJ.name y.pins p.pin)
  | none=>false)
 | none=>false)
def ET (p q:jJ):Bool:=cB p.part q.part || (decide (p.part=q.part) && cB p.pin q.pin)
def En (p q:jJ):Int:=if Lib.compareBytes p.part.data.toList q.part.data.toList=0 then Lib.compareBytes p.pin.data.toList q.pin.data.toList else Lib.compareBytes p.part.data.toList q.part.data.toList
theorem Eo (a b:ByteArray):(Lib.compareBytes a.data.toList b.data.toList<=0)↔cB b a=false:=by
 constructor
 ·intro h
  rw[Bool.eq_false_iff]
  intro h2
  rcases Int.lt_or_eq_of_le h with h1 | h1
  ·have h3:cB a b=true:=by rw[<-mG];exact decide_eq_true h1
   have:=dC h3 h2
   rw[fJ] at this;cases this
  rw[(cmp_eq a b).1 h1,fJ] at h2;cases h2
 intro h
 by_cases e:a=b
 ·exact Int.le_of_eq ((cmp_eq a b).2 e)
 have h3:=u5 h (fun e'=>e e'.symm)
 have:=(mG a b).trans h3
 have:=of_decide_eq_true this
 omega
theorem F4 (p q:jJ):(En p q<=0)↔ET q p=false:=by
 unfold En ET
 by_cases e:p.part=q.part
 ·rw[if_pos ((cmp_eq _ _).2 e),Eo,e,fJ]
  simp
 rw[if_neg (fun h=>e ((cmp_eq _ _).1 h)),Eo,decide_eq_false (fun h=>e h.symm)]
 simp
def cA (l:List Net) (p:jJ):Bool:=l.any fun n=>n.pins.any fun q=>decide (q=p)
def pq (l:List jJ) (k:Nat):Bool:=match l[k]?,l[k - 1]? with
 | some a,some b=>decide (0 < k) && !ET b a
 | _,_=>false
def nE (t:List bh) (parts:List Part) (seen:jJ->Bool) (l:List jJ) (k:Nat):Int:=match l[k]? with
 | some p=>if gu t parts p=true then (if pq l k=true then 8 else if seen p=true then 7 else 0) else 9
 | none=>0
def dz (t:List bh) (parts:List Part) (seen:jJ->Bool) (l:List jJ):Int:=if 500 < l.length then 2 else a8 (nE t parts seen l) 0 l.length
theorem GW {l:List jJ} {i:Nat} {a b:jJ} (ha:l[i]?=some a) (hb:l[i - 1]?=some b) (h0:0 < i):pq l i=!ET b a:=by
 simp only[pq,ha,hb]
 rw[decide_eq_true h0];rfl
theorem KM {l:List jJ} {i:Nat} (h:i=0):pq l i=false:=by
 subst h
 unfold pq
 split <;> simp
theorem qP (l:List bh) (x:ByteArray) (hN:l.length<=140737488355328):aw C 133 [.pv (.sl (l.map g_)),.pv (str x)] (.p (i64 (dO bh.name l x))) []:=by
 refine aE hC Tryz.func133 rfl rfl 20 rfl (by decide) (by kernel_rfl) fun _ _ _ _ _=>?_
 have lm:=aJ l g_
 refine yS<|yA Z<|yT<|an<|yS<|yP Z<|yP Z<|yP Z<|yT<|aO ?_
 refine aC (fun i:Nat=>i<=l.length/\∀z∈l.take i,decide (z.name=x)=false) (fun i=>[(1,.p (str x)),(7,.p (.sl (l.map g_))),(8,.p (i64 (l.map g_).length)),(9,.p (i64 i))]) (fun _=>[]) (fun i=>l.length - i) 0 _ (bg.refl _ _) ⟨Nat.zero_le _,by simp⟩ ⟨Z,Z,Z,Z,Y⟩ trivial fun i hi t h=>?_
 (refine yS<|yP Z<|yT<|an<|ak Z ?_;refine aa (fun h1=>?_) (fun h1=>?_) <;> try simp only[zB] at h1)
 ·rw[lm] at h1
  obtain⟨r,hr⟩:=aH (l:=l) (i:=i) (by omega)
  (refine ar<|ah<|an<|aO<|yS<|yP Z<|yq Z<|aL zI ?_;refine⟨(g_ r),(idx rfl hr),?_⟩)
  ((refine yk<|yP Z<|yn Z<|az zI<|aR<|ai<|yA Z<|yq Z<|az zI<|aX<|aM<|aU<|yU<|yV Z ?_;refine yP Z<|yP Z<|yP Z<|yT<|ak Z ?_);refine aa (fun h2=>?_) (fun h2=>?_) <;> try simp only[zB] at h2)
  ·(refine yS<|yP Z<|yA Z<|yT<|aA<|aq<|af<|af<|aq<|af<|aB zi ?_;refine And.intro ?_ trivial)
   rw[dO,cY (p:=fun y=>decide (bh.name y=x)) hr (decide_eq_true h2) hi.2,Nat.zero_add]
  (refine ar<|aS<|ah<|aP<|yq Z<|bb zI ?_;refine sI ?_)
  (refine yk<|yP Z<|yT<|au ?_;refine⟨(i+1),_,bg.refl _ _,?_⟩)
  exact⟨⟨by omega,dV (p:=fun y=>decide (bh.name y=x)) hr (decide_eq_false h2) hi.2⟩,by omega,⟨Z,Z,Z,Z,Y⟩,trivial⟩
 rw[lm] at h1
 (refine bF<|aQ<|aQ<|bG<|ah<|yS<|yA Z<|yR zi ?_;refine And.intro ?_ trivial)
 have h2:=hi.2
 rw[List.take_of_length_le (by omega)] at h2
 rw[dO,cr (p:=fun y=>decide (bh.name y=x)) h2]
 rfl
theorem yb (l:List Part) (x:ByteArray) (hN:l.length<=140737488355328):aw C 204 [.pv (.sl (l.map kb)),.pv (str x)] (.p (i64 (dO Part.name l x))) []:=by
 refine aE hC Tryz.func204 rfl rfl 20 rfl (by decide) (by kernel_rfl) fun _ _ _ _ _=>?_
 have lm:=aJ l kb
 refine yS<|yA Z<|yT<|an<|yS<|yP Z<|yP Z<|yP Z<|yT<|aO ?_
 refine aC (fun i:Nat=>i<=l.length/\∀z∈l.take i,decide (z.name=x)=false) (fun i=>[(1,.p (str x)),(7,.p (.sl (l.map kb))),(8,.p (i64 (l.map kb).length)),(9,.p (i64 i))]) (fun _=>[]) (fun i=>l.length - i) 0 _ (bg.refl _ _) ⟨Nat.zero_le _,by simp⟩ ⟨Z,Z,Z,Z,Y⟩ trivial fun i hi t h=>?_
 (refine yS<|yP Z<|yT<|an<|ak Z ?_;refine aa (fun h1=>?_) (fun h1=>?_) <;> try simp only[zB] at h1)
 ·rw[lm] at h1
  obtain⟨r,hr⟩:=aH (l:=l) (i:=i) (by omega)
  (refine ar<|ah<|an<|aO<|yS<|yP Z<|yq Z<|aL zI ?_;refine⟨(kb r),(idx rfl hr),?_⟩)
  ((refine yk<|yP Z<|yn Z<|az zI<|aR<|ai<|yA Z<|yq Z<|az zI<|aX<|aM<|aU<|yU<|yV Z ?_;refine yP Z<|yP Z<|yP Z<|yT<|ak Z ?_);refine aa (fun h2=>?_) (fun h2=>?_) <;> try simp only[zB] at h2)
  ·(refine yS<|yP Z<|yA Z<|yT<|aA<|aq<|af<|af<|aq<|af<|aB zi ?_;refine And.intro ?_ trivial)
   rw[dO,cY (p:=fun y=>decide (Part.name y=x)) hr (decide_eq_true h2) hi.2,Nat.zero_add]
  (refine ar<|aS<|ah<|aP<|yq Z<|bb zI ?_;refine sI ?_)
  (refine yk<|yP Z<|yT<|au ?_;refine⟨(i+1),_,bg.refl _ _,?_⟩)
  exact⟨⟨by omega,dV (p:=fun y=>decide (Part.name y=x)) hr (decide_eq_false h2) hi.2⟩,by omega,⟨Z,Z,Z,Z,Y⟩,trivial⟩
 rw[lm] at h1
 (refine bF<|aQ<|aQ<|bG<|ah<|yS<|yA Z<|yR zi ?_;refine And.intro ?_ trivial)
 have h2:=hi.2
 rw[List.take_of_length_le (by omega)] at h2
 rw[dO,cr (p:=fun y=>decide (Part.name y=x)) h2]
 rfl
theorem Af (y:bh) (x:ByteArray) (hN:y.pins.length<=140737488355328):aw C 205 [.pv (.ag (g_ y)),.pv (str x)] (.p (i64 (dO cJ.name y.pins x))) []:=by
 refine aE hC Tryz.func205 rfl rfl 21 rfl (by decide) (by kernel_rfl) fun _ _ _ _ _=>?_
 have lm:=aJ y.pins gM
 (refine yS<|yn Z<|az zI<|aR<|ai<|yA Z<|yT<|an<|yS<|yV Z<|yP Z<|yP Z<|yP Z<|yT ?_;refine aO ?_)
 refine aC (fun i:Nat=>i<=y.pins.length/\∀z∈y.pins.take i,decide (z.name=x)=false) (fun i=>[(1,.p (str x)),(8,.p (.sl (y.pins.map gM))),(9,.p (i64 (y.pins.map gM).length)),(10,.p (i64 i))]) (fun _=>[]) (fun i=>y.pins.length - i) 0 _ (bg.refl _ _) ⟨Nat.zero_le _,by simp⟩ ⟨Z,Z,Z,Z,Y⟩ trivial fun i hi t h=>?_
 (refine yS<|yP Z<|yT<|an<|ak Z ?_;refine aa (fun h1=>?_) (fun h1=>?_) <;> try simp only[zB] at h1)
 ·rw[lm] at h1
  obtain⟨r,hr⟩:=aH (l:=y.pins) (i:=i) (by omega)
  (refine ar<|ah<|an<|aO<|yS<|yP Z<|yq Z<|aL zI ?_;refine⟨(gM r),(idx rfl hr),?_⟩)
  ((refine yk<|yP Z<|yn Z<|az zI<|aR<|ai<|yA Z<|yq Z<|az zI<|aX<|aM<|aU<|yU<|yV Z ?_;refine yP Z<|yP Z<|yP Z<|yT<|ak Z ?_);refine aa (fun h2=>?_) (fun h2=>?_) <;> try simp only[zB] at h2)
  ·(refine yS<|yP Z<|yA Z<|yT<|aA<|aq<|af<|af<|aq<|af<|aB zi ?_;refine And.intro ?_ trivial)
   rw[dO,cY (p:=fun y=>decide (cJ.name y=x)) hr (decide_eq_true h2) hi.2,Nat.zero_add]
  (refine ar<|aS<|ah<|aP<|yq Z<|bb zI ?_;refine sI ?_)
  (refine yk<|yP Z<|yT<|au ?_;refine⟨(i+1),_,bg.refl _ _,?_⟩)
  exact⟨⟨by omega,dV (p:=fun y=>decide (cJ.name y=x)) hr (decide_eq_false h2) hi.2⟩,by omega,⟨Z,Z,Z,Z,Y⟩,trivial⟩
 rw[lm] at h1
 (refine bF<|aQ<|aQ<|bG<|ah<|yS<|yA Z<|yR zi ?_;refine And.intro ?_ trivial)
 have h2:=hi.2
 rw[List.take_of_length_le (by omega)] at h2
 rw[dO,cr (p:=fun y=>decide (cJ.name y=x)) h2]
 rfl
theorem wx (l:List Body) (x:ByteArray) (hN:l.length<=140737488355328):aw C 146 [.pv (.sl (l.map mF)),.pv (str x)] (.p (i64 (dO Body.name l x))) []:=by
 refine aE hC Tryz.func146 rfl rfl 20 rfl (by decide) (by kernel_rfl) fun _ _ _ _ _=>?_
 have lm:=aJ l mF
 refine yS<|yA Z<|yT<|an<|yS<|yP Z<|yP Z<|yP Z<|yT<|aO ?_
 refine aC (fun i:Nat=>i<=l.length/\∀z∈l.take i,decide (z.name=x)=false) (fun i=>[(1,.p (str x)),(7,.p (.sl (l.map mF))),(8,.p (i64 (l.map mF).length)),(9,.p (i64 i))]) (fun _=>[]) (fun i=>l.length - i) 0 _ (bg.refl _ _) ⟨Nat.zero_le _,by simp⟩ ⟨Z,Z,Z,Z,Y⟩ trivial fun i hi t h=>?_
 (refine yS<|yP Z<|yT<|an<|ak Z ?_;refine aa (fun h1=>?_) (fun h1=>?_) <;> try simp only[zB] at h1)
 ·rw[lm] at h1
  obtain⟨r,hr⟩:=aH (l:=l) (i:=i) (by omega)
  (refine ar<|ah<|an<|aO<|yS<|yP Z<|yq Z<|aL zI ?_;refine⟨(mF r),(idx rfl hr),?_⟩)
  ((refine yk<|yP Z<|yn Z<|az zI<|aR<|ai<|yA Z<|yq Z<|az zI<|aX<|aM<|aU<|yU<|yV Z ?_;refine yP Z<|yP Z<|yP Z<|yT<|ak Z ?_);refine aa (fun h2=>?_) (fun h2=>?_) <;> try simp only[zB] at h2)
  ·(refine yS<|yP Z<|yA Z<|yT<|aA<|aq<|af<|af<|aq<|af<|aB zi ?_;refine And.intro ?_ trivial)
   rw[dO,cY (p:=fun y=>decide (Body.name y=x)) hr (decide_eq_true h2) hi.2,Nat.zero_add]
  (refine ar<|aS<|ah<|aP<|yq Z<|bb zI ?_;refine sI ?_)
  (refine yk<|yP Z<|yT<|au ?_;refine⟨(i+1),_,bg.refl _ _,?_⟩)
  exact⟨⟨by omega,dV (p:=fun y=>decide (Body.name y=x)) hr (decide_eq_false h2) hi.2⟩,by omega,⟨Z,Z,Z,Z,Y⟩,trivial⟩
 rw[lm] at h1
 (refine bF<|aQ<|aQ<|bG<|ah<|yS<|yA Z<|yR zi ?_;refine And.intro ?_ trivial)
 have h2:=hi.2
 rw[List.take_of_length_le (by omega)] at h2
 rw[dO,cr (p:=fun y=>decide (Body.name y=x)) h2]
 rfl
theorem wy (t:List bh) (l:List Part) (p:jJ) (ht:ic t) (hp:kA t l):aw C 110 [.pv (.sl (t.map g_)),.pv (.sl (l.map kb)),.pv (.ag (kL p))] (.p (bool (gu t l p))) []:=by
 refine aE hC Tryz.func110 rfl rfl 30 rfl (by decide) (by kernel_rfl) fun _ _ _ _ _=>?_
 have hl:=hp.len
 have uC:=ht.len
 (refine yS<|yn Z<|az zI<|aR<|ai<|yA Z<|yU<|yP Z<|yV Z<|yP Z<|yn Z<|aL zI ?_;refine⟨_,_,(wv l p.part hp.ord (by omega)),?_⟩)
 ((refine br Z Z<|ae<|yA Z<|yT<|an<|cF [] false MZ rfl (by kernel_rfl)<|aK Z<|aK Z<|aK Z<|aK Z<|aK Z<|aK Z<|aK Z<|aK Z ?_;refine aK Z<|aK Z<|eG Z Z<|aK Z<|aK Z<|aK Z<|aK Z<|eG Z Z<|cE Z<|yD Z<|yD Z<|yD Z<|dg Z ?_);refine aa (fun h1=>?_) (fun h1=>?_) <;> try simp only[zB] at h1)
 ·obtain⟨k,q,e1,hk,hq⟩:=mH h1
  have hT:=hp.typ q (List.mem_of_getElem? hk)
  have E5:0<=dO bh.name t q.type:=by
   have:=gn (f:=bh.name) (l:=t) (x:=q.type)
   rw[hT] at this
   have:=of_decide_eq_false this
   omega
  obtain⟨m,y,e2,hm,hy⟩:=mH E5
  have hP:=ht.pins y (List.mem_of_getElem? hm)
  have tG:gu t l p=decide (0<=dO cJ.name y.pins p.pin):=by
   unfold gu
   rw[decide_eq_true h1,e1,Int.toNat_natCast,hk]
   simp only
   rw[e2,Int.toNat_natCast,hm]
   rfl
  (refine aV<|bA Z<|az zI<|bM<|ae<|d1 Z<|d1 Z<|d1 Z<|d2 Z<|bA Z<|aL zI ?_;refine⟨(kb q),(idx e1 hk),?_⟩)
  (refine bM<|ae<|d1 Z<|d1 Z<|d2 Z<|bA Z<|aL zI ?_;refine⟨_,_,(lz t q.type ht.ord (by omega)),?_⟩)
  (refine bM<|ae<|d2 Z<|bA Z<|aL zI ?_;refine⟨(g_ y),(idx e2 hm),?_⟩)
  (refine bM<|ae<|d1 Z<|d2 Z<|bA Z<|az zI<|bM<|ai<|d1 Z<|d2 Z<|bA Z<|aL zI ?_;refine⟨_,_,(qO y p.pin hP.1 (by omega)),?_⟩)
  ((refine bM<|ae<|d1 Z<|yD Z<|yD Z<|bR<|ao Z<|ao Z<|ao Z<|ao Z<|ao Z<|ao Z<|ao Z<|ao Z ?_;refine ao Z<|ao Z<|ao Z<|ao Z<|ao Z<|ao Z<|ao Z<|ao Z<|ao Z<|ao Z<|dH Z Z<|bS Z<|ah<|aA ?_;refine aB zi ?_);refine And.intro ?_ trivial)
  rw[tG]
  rfl
 ((refine aT<|ae<|d0 Z<|d0 Z<|d0 Z<|d0 Z<|d0 Z<|d0 Z<|d0 Z<|d0 Z<|d0 Z<|d0 Z<|d0 Z<|d0 Z ?_;refine d0 Z<|yD Z<|yD Z<|bR<|ao Z<|ao Z<|ao Z<|ao Z<|ao Z<|ao Z<|ao Z<|ao Z<|ao Z<|ao Z ?_;refine ao Z<|ao Z<|ao Z<|ao Z<|ao Z<|ao Z<|ao Z<|ao Z<|dH Z Z<|bS Z<|ah<|aA<|aB zi ?_);refine And.intro ?_ trivial)
 rw[gu,decide_eq_false h1]
 rfl
theorem yc (t:List bh) (x:p_) (p:jJ) (ht:ic t) (hp:kA t x.parts):aw C 134 [.pv (.sl (t.map g_)),.pv (.ag (yC x)),.pv (.ag (kL p))] (.p (bool (gu t x.parts p))) []:=by
 refine aE hC Tryz.func134 rfl rfl 32 rfl (by decide) (by kernel_rfl) fun _ _ _ _ _=>?_
 have hl:=hp.len
 have uC:=ht.len
 ((refine yS<|yn Z<|az zI<|aR<|ai<|yn Z<|az zI<|aR<|ai<|yA Z<|yU<|yV Z<|yP Z<|yV Z ?_;refine yP Z<|yn Z<|aL zI ?_);refine⟨_,_,(yb x.parts p.part (by omega)),?_⟩)
 ((refine br Z Z<|ae<|yA Z<|yT<|an<|cF [] false H5 rfl (by kernel_rfl)<|aK Z<|aK Z<|aK Z<|aK Z<|aK Z<|aK Z<|aK Z<|aK Z ?_;refine aK Z<|aK Z<|aK Z<|eG Z Z<|aK Z<|aK Z<|aK Z<|aK Z<|eG Z Z<|cE Z<|yD Z<|yD Z<|yD Z<|dg Z ?_);refine aa (fun h1=>?_) (fun h1=>?_) <;> try simp only[zB] at h1)
 ·obtain⟨k,q,e1,hk,hq⟩:=mH h1
  have hT:=hp.typ q (List.mem_of_getElem? hk)
  have E5:0<=dO bh.name t q.type:=by
   have:=gn (f:=bh.name) (l:=t) (x:=q.type)
   rw[hT] at this
   have:=of_decide_eq_false this
   omega
  obtain⟨m,y,e2,hm,hy⟩:=mH E5
  have hP:=ht.pins y (List.mem_of_getElem? hm)
  have tG:gu t x.parts p=decide (0<=dO cJ.name y.pins p.pin):=by
   unfold gu
   rw[decide_eq_true h1,e1,Int.toNat_natCast,hk]
   simp only
   rw[e2,Int.toNat_natCast,hm]
   rfl
  ((refine aV<|bA Z<|az zI<|bM<|ae<|d1 Z<|d2 Z<|bA Z<|az zI<|bM<|ai<|d1 Z<|d1 Z<|d2 Z ?_;refine bA Z<|aL zI ?_);refine⟨(kb q),(idx e1 hk),?_⟩)
  (refine bM<|ae<|d1 Z<|d1 Z<|d2 Z<|bA Z<|aL zI ?_;refine⟨_,_,(qP t q.type (by omega)),?_⟩)
  (refine bM<|ae<|d2 Z<|bA Z<|aL zI ?_;refine⟨(g_ y),(idx e2 hm),?_⟩)
  (refine bM<|ae<|d1 Z<|d2 Z<|bA Z<|az zI<|bM<|ai<|d1 Z<|d2 Z<|bA Z<|aL zI ?_;refine⟨_,_,(Af y p.pin (by omega)),?_⟩)
  ((refine bM<|ae<|d1 Z<|yD Z<|yD Z<|bR<|ao Z<|ao Z<|ao Z<|ao Z<|ao Z<|ao Z<|ao Z<|ao Z ?_;refine ao Z<|ao Z<|ao Z<|ao Z<|ao Z<|ao Z<|ao Z<|ao Z<|ao Z<|ao Z<|ao Z<|dH Z Z<|bS Z<|ah ?_;refine aA<|aB zi ?_);refine And.intro ?_ trivial)
  rw[tG]
  rfl
 ((refine aT<|ae<|d0 Z<|d0 Z<|d0 Z<|d0 Z<|d0 Z<|d0 Z<|d0 Z<|d0 Z<|d0 Z<|d0 Z<|d0 Z<|d0 Z ?_;refine d0 Z<|d0 Z<|yD Z<|yD Z<|bR<|ao Z<|ao Z<|ao Z<|ao Z<|ao Z<|ao Z<|ao Z<|ao Z<|ao Z ?_;refine ao Z<|ao Z<|ao Z<|ao Z<|ao Z<|ao Z<|ao Z<|ao Z<|ao Z<|ao Z<|dH Z Z<|bS Z<|ah<|aA ?_;refine aB zi ?_);refine And.intro ?_ trivial)
 rw[gu,decide_eq_false h1]
 rfl
theorem Cr (t:List bh) (x:p_) (p:jJ) (ht:ic t) (hp:kA t x.parts):aw C 109 [.pv (.ag (kL p)),.pv (.ip [.sl (t.map g_)]),.pv (.ip (yC x))] (.p (bool (gu t x.parts p))) []:=by
 refine aE hC Tryz.func109 rfl rfl 10 rfl (by decide) (by kernel_rfl) fun _ _ _ _ _=>?_
 (refine yS<|yn Z<|az zI<|aR<|ai<|yA Z<|yU<|yP Z<|yP Z<|yP Z<|yP Z<|yn Z<|aL zI ?_;refine⟨_,_,(wy t x.parts p ht hp),?_⟩)
 (refine br Z Z<|ae<|yA Z<|yR zi ?_;refine And.intro ?_ trivial)
 rfl
theorem pr (p q:jJ):aw C 181 [.pv (.ag (kL p)),.pv (.ag (kL q))] (.p (i64 (En p q))) []:=by
 refine aE hC Tryz.func181 rfl rfl 19 rfl (by decide) (by kernel_rfl) fun _ _ _ _ _=>?_
 ((refine yS<|yn Z<|az zI<|aR<|ai<|yn Z<|az zI<|aR<|ai<|yA Z<|yT<|an<|yS<|yV Z ?_;refine yP Z<|yV Z<|yP Z<|yn Z<|aL zI ?_);refine⟨_,_,(eZ p.part q.part),?_⟩)
 (refine br Z Z<|ae<|yA Z<|yU<|yP Z<|yP Z<|yT<|ak Z ?_;refine aa (fun h=>?_) (fun h=>?_) <;> try simp only[zB] at h)
 ·(refine yS<|yP Z<|yA Z<|yT<|aA<|af<|aB zi ?_;refine And.intro ?_ trivial)
  rw[En,if_neg (by simpa using h)]
 (refine ar<|ah<|yS<|yV Z<|yP Z<|yV Z<|yP Z<|yn Z<|aL zI ?_;refine⟨_,_,(eZ p.pin q.pin),?_⟩)
 (refine br Z Z<|ae<|yA Z<|yR zi ?_;refine And.intro ?_ trivial)
 rw[En,if_pos (by simpa using h)]
theorem yd (p q:jJ):aw C 135 [.pv (.ag (kL p)),.pv (.ag (kL q))] (.p (bool (ET p q))) []:=by
 refine aE hC Tryz.func135 rfl rfl 24 rfl (by decide) (by kernel_rfl) fun _ _ _ _ _=>?_
 ((refine yS<|yn Z<|az zI<|aR<|ai<|yn Z<|az zI<|aR<|ai<|yA Z<|yU<|yV Z<|yP Z<|yV Z ?_;refine yP Z<|yP Z<|yP Z<|yg Z ?_);refine aa (fun h1=>?_) (fun h1=>?_) <;> try simp only[zB] at h1)
 ·(refine aT<|ae<|y0 Z<|y0 Z<|y0 Z<|y0 Z<|y0 Z<|aj Z Z Z Z<|ae<|aj Z Z Z Z<|ae<|aj Z Z Z Z<|ae<|aj Z Z Z Z ?_;refine ae<|aj Z Z Z Z<|ae<|y0 Z<|yP Z<|yA Z<|yR zi ?_)
  (skip;refine And.intro ?_ trivial)
  have h1:cB p.part q.part=true:=h1
  simp[bool,ET,h1]
 have h1:cB p.part q.part=false:=by simpa [cB] using h1
 ((refine aV<|aN Z Z<|az zI<|aX<|ai<|y1 Z<|y2 Z<|aN Z Z<|az zI<|aX<|ai<|y1 Z<|y1 Z<|y1 Z ?_;refine yg Z ?_);refine aa (fun h2=>?_) (fun h2=>?_) <;> try simp only[zB] at h2)
 ·((refine aV<|aN Z Z<|az zI<|aX<|ai<|y1 Z<|y2 Z<|aN Z Z<|az zI<|aX<|ai<|y1 Z<|y1 Z<|y1 Z ?_;refine yP Z<|yA Z<|yR zi ?_);refine And.intro ?_ trivial)
  rw[ET,h1,decide_eq_true h2]
  rfl
 (refine aT<|ae<|y0 Z<|y0 Z<|y0 Z<|y0 Z<|y1 Z<|yP Z<|yA Z<|yR zi ?_;refine And.intro ?_ trivial)
 rw[ET,h1,decide_eq_false h2]
 rfl
theorem Ep (p q:jJ):(decide (p.part=q.part) && (decide (p.pin=q.pin) && true))=decide (q=p):=by
 rw[Bool.eq_iff_iff]
 cases p;cases q
 simp only[Bool.and_true,Bool.and_eq_true,decide_eq_true_eq,jJ.mk.injEq]
 exact⟨fun h=>⟨h.1.symm,h.2.symm⟩,fun h=>⟨h.1.symm,h.2.symm⟩⟩
theorem Cs (l:List jJ) (p:jJ) (hN:l.length<=140737488355328):aw C 267 [.pv (.sl (l.map kL)),.pv (.ag (kL p))] (.p (i64 (eH (fun q=>decide (q=p)) l 0))) []:=by
 refine aE hC Tryz.func267 rfl rfl 19 rfl (by decide) (by kernel_rfl) fun _ _ _ _ _=>?_
 have lm:=aJ l kL
 refine yS<|yn Z<|az zI<|aR<|ai<|yA Z<|yT<|an<|yS<|yP Z<|yP Z<|yP Z<|yT<|aO ?_
 refine aC (fun i:Nat=>i<=l.length/\∀z∈l.take i,decide (z=p)=false) (fun i=>[(0,.p (.sl (l.map kL))),(3,.bx 3 0),(7,.p (i64 (l.map kL).length)),(8,.p (i64 i))]) (fun _=>[(3,.box ((kL p).map .p))]) (fun i=>l.length - i) 0 _ (bg.refl _ _) ⟨Nat.zero_le _,by simp⟩ ⟨Z,Z,Z,Z,Y⟩ ⟨Z,Y⟩ fun i hi t h=>?_
 (refine yS<|yP Z<|yT<|an<|ak Z ?_;refine aa (fun h1=>?_) (fun h1=>?_) <;> try simp only[zB] at h1)
 ·rw[lm] at h1
  obtain⟨r,hr⟩:=aH (l:=l) (i:=i) (by omega)
  have he:=Ep p r
  ((refine ar<|ah<|an<|aO<|yS<|yP Z<|yA Z<|yT<|an<|cF [] false Lo rfl (by kernel_rfl)<|cE Z<|yD Z<|yD Z<|yD Z ?_;refine dq Z<|aL zI ?_);refine⟨(kL r),(idx rfl hr),?_⟩)
  (refine bM<|ae<|yD Z<|yD Z<|bR<|bS Z<|ah<|ak Z ?_;refine aa (fun h2=>?_) (fun h2=>?_) <;> try simp only[zB] at h2)
  ·(refine yS<|yP Z<|yA Z<|yT<|aA<|aq<|af<|af<|aq<|af<|aB zi ?_;refine And.intro ?_ trivial)
   have h2:decide (r=p)=true:=by rw[<-he];exact h2
   rw[cY (p:=fun q=>decide (q=p)) hr h2 hi.2,Nat.zero_add]
  have h2:decide (r=p)=false:=by rw[<-he];simpa using h2
  (refine ar<|aS<|ah<|aP<|yq Z<|bb zI ?_;refine sI ?_)
  (refine yk<|yP Z<|yT<|au ?_;refine⟨(i+1),_,bg.refl _ _,?_⟩)
  exact⟨⟨by omega,dV (p:=fun q=>decide (q=p)) hr h2 hi.2⟩,by omega,⟨Z,Z,Z,Z,Y⟩,⟨Z,Y⟩⟩
 rw[lm] at h1
 (refine bF<|aQ<|aQ<|bG<|ah<|yS<|yA Z<|yR zi ?_;refine And.intro ?_ trivial)
 have h2:=hi.2
 rw[List.take_of_length_le (by omega)] at h2
 rw[cr (p:=fun q=>decide (q=p)) h2]
 rfl
theorem wz (l:List jJ) (p:jJ) (hN:l.length<=140737488355328):aw C 206 [.pv (.sl (l.map kL)),.pv (.ag (kL p))] (.p (bool (l.any fun q=>decide (q=p)))) []:=by
 refine aE hC Tryz.func206 rfl rfl 9 rfl (by decide) (by kernel_rfl) fun _ _ _ _ _=>?_
 (refine yS<|yn Z<|az zI<|aR<|ai<|yA Z<|yU<|yP Z<|yP Z<|yn Z<|aL zI ?_;refine⟨_,_,(Cs l p hN),?_⟩)
 (refine br Z Z<|ae<|yP Z<|yA Z<|yR zi ?_;refine And.intro ?_ trivial)
 rw[<-gB _ l 0]
 rfl
theorem ye (l:List Net) (p:jJ) (hN:l.length<=140737488355328) (hP:∀n∈l,n.pins.length<=140737488355328):aw C 136 [.pv (.sl (l.map s4)),.pv (.ag (kL p))] (.p (bool (cA l p))) []:=by
 refine aE hC Tryz.func136 rfl rfl 18 rfl (by decide) (by kernel_rfl) fun _ _ _ _ _=>?_
 have lm:=aJ l s4
 refine yS<|yn Z<|az zI<|aR<|ai<|yA Z<|yT<|an<|yS<|yP Z<|yP Z<|yP Z<|yT<|aO ?_
 refine aC (fun i:Nat=>i<=l.length/\cA (l.take i) p=false) (fun i=>[(3,.bx 3 0),(7,.p (.sl (l.map s4))),(8,.p (i64 (l.map s4).length)),(9,.p (i64 i))]) (fun _=>[(3,.box ((kL p).map .p))]) (fun i=>l.length - i) 0 _ (bg.refl _ _) ⟨Nat.zero_le _,rfl⟩ ⟨Z,Z,Z,Z,Y⟩ ⟨Z,Y⟩ fun i hi t h=>?_
 (refine yS<|yP Z<|yT<|an<|ak Z ?_;refine aa (fun h1=>?_) (fun h1=>?_) <;> try simp only[zB] at h1)
 ·rw[lm] at h1
  obtain⟨n,hn⟩:=aH (l:=l) (i:=i) (by omega)
  (refine ar<|ah<|an<|aO<|yS<|yq Z<|aL zI ?_;refine⟨(s4 n),(idx rfl hn),?_⟩)
  ((refine yk<|yP Z<|yn Z<|az zI<|aR<|ai<|yq Z<|az zI<|aX<|aM<|aU<|yU<|yV Z<|yP Z ?_;refine yP Z<|yn Z<|aL zI ?_);refine⟨_,_,(wz n.pins p (hP n (List.mem_of_getElem? hn))),?_⟩)
  (refine br Z Z<|ae<|yT<|ak Z ?_;refine aa (fun h2=>?_) (fun h2=>?_) <;> try simp only[zB] at h2)
  ·(refine yS<|yA Z<|yT<|aA<|aq<|af<|af<|aq<|af<|aB zi ?_;refine And.intro ?_ trivial)
   rw[cA,List.any_eq_true.2 ⟨n,List.mem_of_getElem? hn,h2⟩]
   rfl
  (refine ar<|aS<|ah<|aP<|yq Z<|bb zI ?_;refine sI ?_)
  (refine yk<|yP Z<|yT<|au ?_;refine⟨(i+1),_,bg.refl _ _,?_⟩)
  refine⟨⟨by omega,?_⟩,by omega,⟨Z,Z,Z,Z,Y⟩,⟨Z,Y⟩⟩
  have h3:=hi.2
  unfold cA at h3 ⊢
  rw[bB hn,List.any_append,h3]
  simp only[List.any_cons,List.any_nil,Bool.or_false,Bool.false_or]
  simpa using h2
 rw[lm] at h1
 (refine bF<|aQ<|aQ<|bG<|ah<|yS<|yA Z<|yR zi ?_;refine And.intro ?_ trivial)
 have h2:=hi.2
 rw[List.take_of_length_le (by omega)] at h2
 rw[h2]
 rfl
end M
end Go.Proofs.YtiaifckpmefinaaGreatDoor
