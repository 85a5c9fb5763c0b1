/- Part 5 of 14 of the proof of RulesHarderBreakMore (the names are shortened by a program: the size of a claim is limited). -/
import Derived.Test.YtpbkimanfahbgaaGreatDoorH04
import Derived.Shelf.SlSortCmp.WholeK
import Derived.Deep.Slices
import Derived.Shelf.SlSortCmp.NoneTotal
set_option linter.unusedVariables false
set_option linter.unusedSimpArgs false
set_option maxRecDepth 100000
set_option maxHeartbeats 8000000
namespace Go.Proofs.YtpbkimanfahbgaaGreatDoor
namespace M
open Go.AM Go.RowKit
open Reg (aB bC ax)
theorem rZ (l:List aB):aD C 94 [.pv (aV l)] (.p (i64 (Reg.dh l))) []:=by
 refine aT hC Tryz.func94 rfl rfl 30 rfl (by decide) (by kernel_rfl) fun _ _ _ _ _=>?_
 have lm:=aN l rc
 (refine yS<|yA Z<|yT<|au<|yS<|yP Z<|yP Z<|yP Z<|yT<|az Z ?_;refine aa (fun h0=>?_) (fun h0=>?_) <;> try simp only[zB] at h0)
 ·rw[lm] at h0
  (refine yS<|yA Z<|yT<|bP<|aX<|bQ zi ?_;refine And.intro ?_ trivial)
  rw[Reg.dh,if_pos (by omega)];rfl
 rw[lm] at h0
 have hc:Reg.dh l=Reg.dX l:=by rw[Reg.dh,if_neg (by omega)]
 refine aJ<|aj<|au<|yS<|yP Z<|yP Z<|yP Z<|yT<|aZ ?_
 refine aI (fun i:Nat=>i<=l.length/\Reg.dX l=Reg.dX (l.drop i)) (fun i=>[(8,.p (aV l)),(9,.p (i64 (l.map rc).length)),(10,.p (i64 i))]) (fun _=>[]) (fun i=>l.length - i) 0 _ (aW.refl _ _) ⟨Nat.zero_le _,rfl⟩ ⟨Z,Z,Z,Y⟩ trivial fun i hi t h=>?_
 (refine yS<|yP Z<|yT<|au<|az Z ?_;refine aa (fun h1=>?_) (fun h1=>?_) <;> try simp only[zB] at h1)
 ·rw[lm] at h1
  obtain⟨r,hr⟩:=bh (l:=l) (i:=i) (by omega)
  have hs:=rY hr
  (refine aJ<|aj<|au<|aZ<|yS<|yq Z<|aK zI ?_;refine⟨(rc r),(idx rfl hr),?_⟩)
  ((refine yk<|yP Z<|yn Z<|aA zI<|aS<|ak<|yq Z<|aA zI<|bd<|aF<|an<|yT<|au<|yS ?_;refine yP Z<|yn Z<|aK zI ?_);refine⟨_,_,(qC r),?_⟩)
  (refine b9 Z Z<|ae<|yP Z<|yT<|az Z ?_;refine aa (fun g1=>?_) (fun g1=>?_) <;> try simp only[zB] at g1)
  ·(refine yS<|yA Z<|yT<|bP<|aX<|bW<|aX<|aX<|bW<|aX<|bQ zi ?_;refine And.intro ?_ trivial)
   rw[hc,hi.2,hs,if_neg (by simp[g1])];rfl
  rw[if_pos g1] at hs
  (refine aJ<|aj<|yS<|yV Z<|yP Z<|yV Z<|yP Z<|yP Z<|yP Z<|yg Z ?_;refine aa (fun e1=>?_) (fun e1=>?_) <;> try simp only[zB] at e1)
  ·((refine cB<|ae<|y0 Z<|y0 Z<|y0 Z<|y0 Z<|yP Z<|yT<|az Z<|fy<|yS<|yA Z<|yT<|bP ?_;refine bW<|aX<|aX<|bW<|aX<|bQ zi ?_);refine And.intro ?_ trivial)
   rw[hc,hi.2,hs,if_pos (.inl e1)];rfl
  ((refine bS<|bA Z Z<|aA zI<|bd<|ak<|y1 Z<|y2 Z<|bA Z Z<|aA zI<|bd<|ak<|y1 Z<|y1 Z<|yP Z ?_;refine yT<|az Z ?_);refine aa (fun e2=>?_) (fun e2=>?_) <;> try simp only[zB] at e2)
  ·(refine yS<|yA Z<|yT<|bP<|bW<|aX<|aX<|bW<|aX<|bQ zi ?_;refine And.intro ?_ trivial)
   rw[hc,hi.2,hs,if_pos (.inr e2)];rfl
  (refine aJ<|bp<|aj<|aM<|yq Z<|bg zI ?_;refine sI ?_)
  (refine yk<|yP Z<|yT<|ai ?_;refine⟨(i+1),_,aW.refl _ _,?_⟩)
  refine⟨⟨by omega,?_⟩,by omega,⟨Z,Z,Z,Y⟩,trivial⟩
  rw[hi.2,hs,if_neg (by omega)]
 rw[lm] at h1
 (refine bT<|aY<|aY<|bU<|aj<|yS<|yA Z<|yR zi ?_;refine And.intro ?_ trivial)
 rw[hc,hi.2,List.drop_of_length_le (by omega)];rfl
theorem AJ (l m:List aB) (hN:l.length<=140737488355328):aD C 95 [.pv (aV l),.pv (aV m)] (.p (bool (decide (l=m)))) []:=by
 refine aT hC Tryz.func95 rfl rfl 26 rfl (by decide) (by kernel_rfl) fun _ _ _ _ _=>?_
 have lm:=aN l rc
 have mm:=aN m rc
 (refine yS<|yA Z<|yT<|au<|yS<|yP Z<|yP Z<|yP Z<|yP Z<|yP Z<|yT<|az Z ?_;refine aa (fun h0=>?_) (fun h0=>?_) <;> try simp only[zB] at h0)
 ·rw[lm,mm] at h0
  (refine yS<|yA Z<|yT<|bP<|aX<|bQ zi ?_;refine And.intro ?_ trivial)
  rw[decide_eq_false (fun e:l=m=>h0 (by rw[e]))]
  rfl
 rw[lm,mm] at h0
 refine aJ<|aj<|au<|yS<|yP Z<|yP Z<|yP Z<|yT<|aZ ?_
 refine aI (fun i:Nat=>i<=l.length/\(l=m↔l.drop i=m.drop i)) (fun i=>[(0,.p (aV l)),(1,.p (aV m)),(12,.p (i64 (l.map rc).length)),(13,.p (i64 i))]) (fun _=>[]) (fun i=>l.length - i) 0 _ (aW.refl _ _) ⟨Nat.zero_le _,Iff.rfl⟩ ⟨Z,Z,Z,Z,Y⟩ trivial fun i hi t h=>?_
 (refine yS<|yP Z<|yT<|au<|az Z ?_;refine aa (fun h1=>?_) (fun h1=>?_) <;> try simp only[zB] at h1)
 ·rw[lm] at h1
  obtain⟨r,hr⟩:=bh (l:=l) (i:=i) (by omega)
  obtain⟨q,hq⟩:=bh (l:=m) (i:=i) (by omega)
  have hs:=xr hr hq
  ((refine aJ<|aj<|au<|aZ<|yS<|yP Z<|yA Z<|yT<|au<|cH [] false PL rfl (by kernel_rfl)<|cG Z<|yD Z<|yD Z<|dq Z ?_;refine aK zI ?_);refine⟨(rc r),(idx rfl hr),?_⟩)
  (refine bB<|ae<|yD Z<|yD Z<|yD Z<|dq Z<|aK zI ?_;refine⟨(rc q),(idx rfl hq),?_⟩)
  have he:=Reg.aB.Ay r q
  (refine bB<|ae<|yD Z<|yD Z<|cn<|fo Z<|aj<|az Z ?_;refine aa (fun h2=>?_) (fun h2=>?_) <;> try simp only[zB] at h2)
  ·(refine yS<|yA Z<|yT<|bP<|bW<|aX<|aX<|bW<|aX<|bQ zi ?_;refine And.intro ?_ trivial)
   rw[decide_eq_false];rfl
   rw[hi.2,hs,he]
   simp only[Bool.and_eq_false_iff,decide_eq_false_iff_not] at h2
   intro ⟨⟨e1,e2,e3,e4⟩,_⟩
   simp[e1,e2,e3,e4] at h2
  (refine aJ<|bp<|aj<|aM<|yq Z<|bg zI ?_;refine sI ?_)
  (refine yk<|yP Z<|yT<|ai ?_;refine⟨(i+1),_,aW.refl _ _,?_⟩)
  refine⟨⟨by omega,?_⟩,by omega,⟨Z,Z,Z,Z,Y⟩,trivial⟩
  rw[hi.2,hs,he]
  simp[decide_eq_true_eq] at h2
  exact and_iff_right h2
 (refine bT<|aY<|aY<|bU<|aj<|yS<|yA Z<|yR zi ?_;refine And.intro ?_ trivial)
 rw[lm] at h1
 rw[decide_eq_true];rfl
 rw[hi.2,List.drop_of_length_le (by omega),List.drop_of_length_le (by omega)]
theorem CU (l m:List Int) (hN:l.length<=140737488355328):aD C 130 [.pv (ints l),.pv (ints m)] (.p (bool (decide (l=m)))) []:=by
 refine aT hC Tryz.func130 rfl rfl 26 rfl (by decide) (by kernel_rfl) fun _ _ _ _ _=>?_
 have lm:=aN l fun n=>[i64 n]
 have mm:=aN m fun n=>[i64 n]
 (refine yS<|yA Z<|yT<|au<|yS<|yP Z<|yP Z<|yP Z<|yP Z<|yP Z<|yT<|az Z ?_;refine aa (fun h0=>?_) (fun h0=>?_) <;> try simp only[zB] at h0)
 ·rw[lm,mm] at h0
  (refine yS<|yA Z<|yT<|bP<|aX<|bQ zi ?_;refine And.intro ?_ trivial)
  rw[decide_eq_false (fun e:l=m=>h0 (by rw[e]))]
  rfl
 rw[lm,mm] at h0
 refine aJ<|aj<|au<|yS<|yP Z<|yP Z<|yP Z<|yT<|aZ ?_
 refine aI (fun i:Nat=>i<=l.length/\(l=m↔l.drop i=m.drop i)) (fun i=>[(0,.p (ints l)),(1,.p (ints m)),(12,.p (i64 (l.map fun n=>[i64 n]).length)),(13,.p (i64 i))]) (fun _=>[]) (fun i=>l.length - i) 0 _ (aW.refl _ _) ⟨Nat.zero_le _,Iff.rfl⟩ ⟨Z,Z,Z,Z,Y⟩ trivial fun i hi t h=>?_
 (refine yS<|yP Z<|yT<|au<|az Z ?_;refine aa (fun h1=>?_) (fun h1=>?_) <;> try simp only[zB] at h1)
 ·rw[lm] at h1
  obtain⟨r,hr⟩:=bh (l:=l) (i:=i) (by omega)
  obtain⟨q,hq⟩:=bh (l:=m) (i:=i) (by omega)
  have hs:=xr hr hq
  ((refine aJ<|aj<|au<|aZ<|yS<|yP Z<|yA Z<|yT<|au<|cH [] false PL rfl (by kernel_rfl)<|cG Z<|yD Z<|yD Z<|dq Z ?_;refine aK zI ?_);refine⟨[i64 r],(idx rfl hr),?_⟩)
  (refine bB<|ae<|yD Z<|yD Z<|yD Z<|dq Z<|aK zI ?_;refine⟨[i64 q],(idx rfl hq),?_⟩)
  (refine bB<|ae<|yD Z<|yD Z<|cn<|fo Z<|aj<|az Z ?_;refine aa (fun h2=>?_) (fun h2=>?_) <;> try simp only[zB] at h2)
  ·(refine yS<|yA Z<|yT<|bP<|bW<|aX<|aX<|bW<|aX<|bQ zi ?_;refine And.intro ?_ trivial)
   rw[decide_eq_false];rfl
   rw[hi.2,hs]
   exact fun h=>h2 h.1
  (refine aJ<|bp<|aj<|aM<|yq Z<|bg zI ?_;refine sI ?_)
  (refine yk<|yP Z<|yT<|ai ?_;refine⟨(i+1),_,aW.refl _ _,?_⟩)
  refine⟨⟨by omega,?_⟩,by omega,⟨Z,Z,Z,Z,Y⟩,trivial⟩
  rw[hi.2,hs]
  exact and_iff_right h2
 (refine bT<|aY<|aY<|bU<|aj<|yS<|yA Z<|yR zi ?_;refine And.intro ?_ trivial)
 rw[lm] at h1
 rw[decide_eq_true];rfl
 rw[hi.2,List.drop_of_length_le (by omega),List.drop_of_length_le (by omega)]
def flat:bC->List Int
 | []=>[]
 | p::s=>p.1::p.2::flat s
theorem eG:∀s:bC,(flat s).length=2*s.length:=by
 intro s
 induction s with
 | nil=>rfl
 | cons p s ih=>simp only[flat,List.length_cons,ih];omega
theorem HM:∀{s u:bC},flat s=flat u->s=u:=by
 intro s
 induction s with
 | nil=>intro u h;cases u with | nil=>rfl | cons=>cases h
 | cons p s ih=>
  intro u h
  cases u with
  | nil=>cases h
  | cons q u=>
   simp only[flat,List.cons.injEq] at h
   rw[ih h.2.2,Prod.ext h.1 h.2.1]
def hb (b:ax):List PV:=[i64 b.y0,i64 b.y1,ints (flat b.xs)]
theorem mK (l:List ax) (b:ax) (Qw:b.y0 < b.y1) (hN:l.length<=1000000000000) (hX:∀t∈l,t.xs.length<=1000000000000):aD C 82 [.row 145 (l.map hb),.pv (.ag (hb b))] (.own 145 ((Reg.du l b).map hb)) [.gone]:=by
 refine aT hC Tryz.func82 rfl rfl 54 rfl (by decide) (by kernel_rfl) fun _ _ _ _ _=>?_
 have lm:=aN l hb
 have sm:=aN (flat b.xs) fun n=>[i64 n]
 have fl:=eG b.xs
 have done:∀z:List ax,z=Reg.du l b->AB.row 145 (z.map hb)=AB.row 145 ((Reg.du l b).map hb):=fun z e=>by rw[e]
 ((refine yS<|yn Z<|aA zI<|aS<|ak<|yB Z<|yT<|au<|yS<|yV Z<|yP Z<|yP Z<|yP Z<|yP Z ?_;refine yg Z ?_);refine aa (fun h1=>?_) (fun h1=>?_) <;> try simp only[zB] at h1)
 ·rw[sm,fl] at h1
  have he:b.xs=[]:=List.eq_nil_of_length_eq_zero (by omega)
  (refine cB<|ae<|y0 Z<|y0 Z<|y0 Z<|y0 Z<|yP Z<|yT<|az Z<|fy<|yS<|yq Z<|aA zI<|bd ?_;refine af<|cD Z<|cr Z Z Z Z Z<|yT<|bP<|aX<|bQ zi ?_)
  exact⟨done l (by rw[Reg.du,if_pos he]),Z,Y⟩
 rw[sm,fl] at h1
 have he:b.xs≠[]:=fun e=>h1 (by rw[e];rfl)
 have more:l++[b]=Reg.du l b->AB.row 145 (l.map hb++[hb b])=AB.row 145 ((Reg.du l b).map hb):=fun e=>by rw[<-e,List.map_append];rfl
 ((refine bS<|bA Z Z<|aA zI<|bd<|ak<|y1 Z<|y2 Z<|bA Z Z<|aA zI<|bd<|ak<|y1 Z<|y1 Z<|yP Z ?_;refine yT<|az Z ?_);refine aa (fun h0=>?_) (fun h0=>?_) <;> try simp only[zB] at h0)
 ·omega
 (refine aJ<|aj<|au<|yS<|yq Z<|aA zI<|bd<|af<|yP Z<|yq Z<|bg zI ?_;refine And.intro ⟨by rw[lm];omega,by rw[lm];omega⟩ ?_)
 ((refine yk<|yA Z<|yT<|au<|cH [] false RH rfl (by kernel_rfl)<|ay Z<|ay Z<|ay Z<|ay Z<|ay Z<|ay Z<|ay Z<|ay Z<|ay Z ?_;refine ay Z<|ay Z<|ay Z<|ay Z<|ay Z<|ay Z<|ay Z<|ay Z<|ay Z<|ay Z<|ay Z<|cA Z Z<|cG Z<|yD Z ?_;refine yD Z<|yD Z<|dg Z ?_);refine aa (fun h2=>?_) (fun h2=>?_) <;> try simp only[zB] at h2)
 ·rw[lm] at h2
  obtain⟨m,hm⟩:∃m,l.length=m+1:=⟨l.length - 1,by omega⟩
  have hi:((l.map hb).length:Int) - 1=(m:Nat):=by rw[lm];omega
  have hp:Reg.du l b=match l.getLast? with
   | some t=>if t.y1=b.y0/\t.xs=b.xs then l.dropLast++[⟨t.y0,b.y1,t.xs⟩] else l++[b]
   | none=>[b]:=by rw[Reg.du,if_neg he] <;> rfl
  obtain⟨t,ht⟩:=bh (l:=l) (i:=m) (by omega)
  rw[AE hm ht] at hp
  simp only at hp
  have ft:=eG t.xs
  (refine bS<|c_ Z<|aA zI<|bB<|af<|d1 Z<|d2 Z<|c_ Z<|bg zI ?_;refine And.intro ⟨by rw[hi];omega,by rw[hi,lm];omega⟩ ?_)
  (refine bB<|bJ<|d2 Z<|c_ Z<|aA zI<|bB<|bJ<|d2 Z<|c_ Z<|aK zI ?_;refine⟨(hb t),(idx hi ht).2,?_⟩)
  (refine bB<|ae<|d2 Z<|c_ Z<|aA zI<|bB<|ak<|d1 Z<|d1 Z<|yD Z<|yD Z<|dg Z ?_;refine aa (fun h3=>?_) (fun h3=>?_) <;> try simp only[zB] at h3)
  ·(refine bS<|c_ Z<|aA zI<|bB<|af<|d1 Z<|d2 Z<|c_ Z<|bg zI ?_;refine And.intro ⟨by rw[hi];omega,by rw[hi,lm];omega⟩ ?_)
   (refine bB<|bJ<|d2 Z<|c_ Z<|aA zI<|bB<|bJ<|d2 Z<|c_ Z<|aK zI ?_;refine⟨(hb t),(idx hi ht).2,?_⟩)
   (refine bB<|ae<|d2 Z<|c_ Z<|aA zI<|bB<|ak<|d1 Z<|d2 Z<|c_ Z<|aK zI ?_;refine⟨_,_,(CU (flat t.xs) (flat b.xs) (by have:=hX t (List.mem_of_getElem? ht);omega)),?_⟩)
   (refine bB<|ae<|yD Z<|cn<|fo Z<|aj<|az Z ?_;refine aa (fun h4=>?_) (fun h4=>?_) <;> try simp only[zB] at h4)
   ·have h4:t.xs=b.xs:=HM h4
    (refine yS<|yq Z<|aA zI<|bd<|af<|yP Z<|yV Z<|yP Z<|yq Z<|bg zI ?_;refine And.intro ⟨by rw[hi];omega,by rw[hi,lm];omega⟩ ?_)
    (refine bd<|bJ<|yV Z<|yq Z<|aK zI ?_;refine⟨(hb t),(idx hi ht).2,?_⟩)
    refine bd<|aF<|an<|yU<|yq Z<|aA zI<|bd<|af<|cD Z<|cr Z Z Z Z Z<|yT<|bP<|aX<|bQ zi ?_
    rw[if_pos ⟨h3,h4⟩] at hp
    have lH:∀k:Nat,k=m->AB.row 145 ((l.map hb).set k [i64 t.y0,i64 b.y1,ints (flat t.xs)])=AB.row 145 ((Reg.du l b).map hb):=by
     intro k e
     subst e
     rw[hp]
     obtain⟨d,hd⟩:=List.getLast?_eq_some_iff.1 (AE hm ht)
     subst hd
     have hk:k=d.length:=by simp at hm;omega
     subst hk
     simp[hb]
    exact⟨lH _ (by rw[hi];rfl),Z,Y⟩
   have h4:t.xs≠b.xs:=fun e=>h4 (by rw[e])
   rw[if_neg (fun h=>h4 h.2)] at hp
   (refine aJ<|aj<|yS<|yq Z<|aA zI<|bd<|af<|yP Z<|yn Z<|aA zI<|aS<|af<|yn Z<|bg zI ?_;refine And.intro ⟨by simp,by simp;omega,by simp;omega⟩ ?_)
   refine aS<|aF<|af<|cD Z<|cr Z Z Z Z Z<|yR zi ?_
   exact⟨more hp.symm,Z,Y⟩
  rw[if_neg (fun h=>h3 h.1)] at hp
  ((refine cB<|ae<|d0 Z<|d0 Z<|d0 Z<|d0 Z<|d0 Z<|d0 Z<|d0 Z<|yD Z<|cn<|fo Z<|aj<|az Z ?_;refine cM<|aJ<|aj<|yS<|yq Z<|aA zI<|bd<|af<|yP Z<|yn Z<|aA zI<|aS<|af<|yn Z ?_;refine bg zI ?_);refine And.intro ⟨by simp,by simp;omega,by simp;omega⟩ ?_)
  refine aS<|aF<|af<|cD Z<|cr Z Z Z Z Z<|yR zi ?_
  exact⟨more hp.symm,Z,Y⟩
 rw[lm] at h2
 have hl:l=[]:=List.eq_nil_of_length_eq_zero (by omega)
 ((refine cB<|ae<|d0 Z<|d0 Z<|d0 Z<|d0 Z<|d0 Z<|d0 Z<|d0 Z<|yD Z<|yD Z<|d0 Z<|d0 Z<|d0 Z ?_;refine d0 Z<|d0 Z<|d0 Z<|d0 Z<|d0 Z<|yD Z<|cn<|fo Z<|aj<|az Z<|cM<|aJ<|aj<|yS ?_;refine yq Z<|aA zI<|bd<|af<|yP Z<|yn Z<|aA zI<|aS<|af<|yn Z<|bg zI ?_);refine And.intro ⟨by simp,by simp;omega,by simp;omega⟩ ?_)
 refine aS<|aF<|af<|cD Z<|cr Z Z Z Z Z<|yR zi ?_
 exact⟨more (by subst hl;rw[Reg.du,if_neg he];rfl),Z,Y⟩
theorem AK:∀{s:bC} {k:Nat} {p:Int×Int},s[k]?=some p->(flat s)[2*k]?=some p.1/\(flat s)[2*k+1]?=some p.2:=by
 intro s
 induction s with
 | nil=>intro k p h;simp at h
 | cons q s ih=>
  intro k p h
  cases k with
  | zero=>simp at h;subst h;exact⟨rfl,rfl⟩
  | succ k=>
   obtain⟨h1,h2⟩:=ih (k:=k) (p:=p) (by simpa using h)
   rw[show 2*(k+1)=(2*k+1)+1 by omega]
   exact⟨by simpa [flat] using h1,by simpa [flat] using h2⟩
theorem h_ (l:List ax) (hN:l.length<=1000000000000) (hX:∀t∈l,t.xs.length<=1000000000000) (hT:(Reg.told l).length<=4398046511104):aD C 58 [.pv (.sl (l.map hb))] (.own 56 ((Reg.told l).map rc)) []:=by
 refine aT hC Tryz.func58 rfl rfl 41 rfl (by decide) (by kernel_rfl) fun _ _ _ _ _=>?_
 have lm:=aN l hb
 have tl:∀i,(Reg.told (l.take i)).length<=(Reg.told l).length:=fun i=>by
  have e:Reg.told l=Reg.told (l.take i)++Reg.told (l.drop i):=by
   unfold Reg.told
   rw[<-List.flatMap_append,List.take_append_drop]
  rw[e,List.length_append]
  omega
 refine yS<|yB Z<|yU<|yB Z<|yT<|au<|yS<|yP Z<|yP Z<|yP Z<|yT<|aZ ?_
 refine aI (fun i:Nat=>i<=l.length) (fun i=>[(7,.p (.sl (l.map hb))),(8,.p (i64 (l.map hb).length)),(3,.ow 3),(9,.p (i64 i))]) (fun i=>[(3,.row 56 ((Reg.told (l.take i)).map rc))]) (fun i=>l.length - i) 0 _ (aW.fa hC _ 3 56 _ (by decide) rfl rfl (by decide)) (Nat.zero_le _) ⟨Z,Z,Z,Z,Y⟩ ⟨Z,Y⟩ fun i hi t h=>?_
 (refine yS<|yP Z<|yT<|au<|az Z ?_;refine aa (fun h1=>?_) (fun h1=>?_) <;> try simp only[zB] at h1)
 ·rw[lm] at h1
  obtain⟨b,tM⟩:=bh (l:=l) (i:=i) (by omega)
  have bm:=aN (flat b.xs) fun n=>[i64 n]
  have fl:=eG b.xs
  have hb':=hX b (List.mem_of_getElem? tM)
  have ht:=tl (i+1)
  rw[lN tM,List.length_append,List.length_map] at ht
  (refine aJ<|aj<|au<|aZ<|yS<|yq Z<|aK zI ?_;refine⟨(hb b),(idx rfl tM),?_⟩)
  (refine yk<|yP Z<|yn Z<|aA zI<|aS<|ak<|yq Z<|aA zI<|bd<|aF<|an<|yU<|yA Z<|yT ?_;refine aZ ?_)
  refine nj (fun _:Unit=>True) (fun _=>[(7,.p (.sl (l.map hb))),(8,.p (i64 (l.map hb).length)),(3,.ow 3),(9,.p (i64 i))]) (fun _=>[(3,.row 56 ((Reg.told (l.take (i+1))).map rc))]) (fun _ _ t h=>?_) ?_
  ·(refine bp<|aj<|aM<|yq Z<|bg zI ?_;refine sI ?_)
   (refine yk<|yP Z<|yT<|ai ?_;refine⟨(i+1),_,aW.refl _ _,?_⟩)
   exact⟨by omega,by omega,⟨Z,Z,Z,Z,Y⟩,⟨Z,Y⟩⟩
  refine aI (fun k:Nat=>k<=b.xs.length) (fun k=>[(7,.p (.sl (l.map hb))),(8,.p (i64 (l.map hb).length)),(3,.ow 3),(9,.p (i64 i)),(5,.bx 5 0),(6,.p (i64 ((2*k:Nat):Int)))]) (fun k=>[(3,.row 56 ((Reg.told (l.take i)++kF b k).map rc)),(5,.box [.p (i64 b.y0),.p (i64 b.y1),.p (ints (flat b.xs))])]) (fun k=>b.xs.length - k) 0 _ (aW.refl _ _) (Nat.zero_le _) ⟨Z,Z,Z,Z,Z,Z,Y⟩ ⟨by rw[kF];simp;rfl,Z,Y⟩ fun k hk t h=>?_
  have JM:(kF b k).length<=k:=by simp[kF];omega
  (refine au<|yS<|yP Z<|yV Z<|yP Z<|yP Z<|yP Z<|yT<|az Z ?_;refine aa (fun h2=>?_) (fun h2=>?_) <;> try simp only[zB] at h2)
  ·rw[bm,fl] at h2
   obtain⟨p,hp⟩:=bh (l:=b.xs) (i:=k) (by omega)
   obtain⟨g1,g2⟩:=AK hp
   ((refine aJ<|aj<|au<|aZ<|cH [] true HG rfl (by kernel_rfl)<|ay Z<|ay Z<|ay Z<|ay Z<|ay Z<|ay Z<|ay Z<|ay Z<|ay Z ?_;refine ay Z<|ay Z<|ay Z<|ay Z<|ay Z<|ay Z<|ay Z<|ay Z<|cA Z Z<|cA Z Z<|cG Z<|dq Z<|aA zI<|bB ?_;refine af<|yW Z<|yD Z<|yD Z<|dq Z<|aK zI ?_);refine⟨[i64 p.1],(idx rfl g1),?_⟩)
   (refine bB<|ae<|yD Z<|yW Z<|yD Z<|yW Z<|yD Z<|yD Z<|dq Z<|bg zI ?_;refine sI ?_)
   (refine bB<|ae<|dq Z<|aK zI ?_;refine⟨[i64 p.2],(idx (by omega) g2),?_⟩)
   (refine bB<|ae<|yD Z<|yW Z<|yD Z<|yD Z<|dq Z<|aA zI<|jA Z Z<|af<|dq Z<|bg zI ?_;refine And.intro ⟨yH rfl,by simp;omega,by simp;omega⟩ ?_)
   ((refine hD Z Z Z<|fM<|g_<|af<|dq Z<|aA zI<|bB<|af<|cn<|aq Z<|aq Z<|aq Z<|aq Z<|aq Z ?_;refine aq Z<|aq Z<|aq Z<|aq Z<|aq Z<|aq Z<|aq Z<|aq Z<|aq Z<|aq Z<|aq Z<|aq Z<|aq Z<|aq Z ?_;refine Fp Z Z Z Z Z<|fo Z<|bp<|aj<|aM<|yP Z<|yq Z<|bg zI ?_);refine sI ?_)
   (refine yk<|yA Z<|yT<|ai ?_;refine⟨(k+1),_,aW.refl _ _,?_⟩)
   refine⟨by omega,by omega,⟨rfl,rfl,rfl,rfl,rfl,cd (by omega),trivial⟩,⟨?_,Z,Y⟩⟩
   have hc:kF b (k+1)=kF b k++[⟨p.1,b.y0,p.2,b.y1⟩]:=by simp[kF,cw hp]
   have e:(Reg.told (l.take i)++kF b k).map rc++[rc ⟨p.1,b.y0,p.2,b.y1⟩]=(Reg.told (l.take i)++kF b (k+1)).map rc:=by
    rw[hc,<-List.append_assoc,List.map_append (l₂:=[_])]
    rfl
   exact congrArg (AB.row 56) e
  rw[bm,fl] at h2
  refine bT<|aY<|aY<|bU<|aj<|ai<|zX zi ?_
  refine⟨(),trivial,⟨Z,Z,Z,Z,Y⟩,⟨?_,trivial⟩⟩
  rw[lN tM]
  have:kF b k=b.xs.map fun p=>⟨p.1,b.y0,p.2,b.y1⟩:=by rw[kF,List.take_of_length_le (by omega)]
  rw[<-this]
  rfl
 rw[lm] at h1
 refine bT<|aY<|aY<|bU<|aj<|yS<|yq Z<|aA zI<|bd<|af<|cD Z<|cr Z Z Z Z Z<|yR zi ?_
 rw[List.take_of_length_le (by omega)]
 exact⟨Z,Z,Y⟩
theorem AL (l:List ax) (hN:l.length<=1000000) (hX:∀t∈l,t.xs.length<=1000000):aD C 58 [.pv (.sl (l.map hb))] (.own 56 ((Reg.told l).map rc)) []:=
 h_ l (by omega) (fun t ht=>by have:=hX t ht;omega) (by
  have h1:=sZ l hX
  have h3:l.length*1000000<=1000000*1000000:=Nat.mul_le_mul_right _ hN
  omega)
end M
end Go.Proofs.YtpbkimanfahbgaaGreatDoor
namespace Go.AM
open Go.RowKit
theorem yO {α:Type} {k:Nat}:∀{L:List (List α)} {a:Nat} {r:List α} {j:Nat} {v:α},(∀r∈L,r.length=k)->L[a]?=some r->r[j]?=some v->L.flatten[a*k+j]?=some v:=by
 intro L
 induction L with
 | nil=>intro a r j v _ h;simp at h
 | cons x L ih=>
  intro a r j v hk h1 h2
  have hx:=hk x (by simp)
  cases a with
  | zero=>
   simp at h1
   subst h1
   rw[List.flatten_cons,Nat.zero_mul,Nat.zero_add,List.getElem?_append_left (aP h2)]
   exact h2
  | succ a=>
   rw[List.flatten_cons,Nat.succ_mul,List.getElem?_append_right (by omega)]
   have:=ih (a:=a) (r:=r) (j:=j) (v:=v) (fun r hr=>hk r (by simp[hr])) (by simpa using h1) h2
   rw[<-this]
   congr 1
   omega
theorem fO {α:Type} {k:Nat}:∀{L:List (List α)},(∀r∈L,r.length=k)->L.flatten.length=L.length*k:=by
 intro L
 induction L with
 | nil=>intro _;simp
 | cons x L ih=>
  intro hk
  rw[List.flatten_cons,List.length_append,ih fun r hr=>hk r (by simp[hr]),hk x (by simp),List.length_cons,Nat.succ_mul]
  omega
def bE (L:List (List Value)):List (List PV):=L.map fun r=>r.map PV.im
theorem xt {P:Program} {S:Nat->Prop} {w:World} {L:List (List Value)} {k:Nat} (hk:∀r∈L,r.length=k) {xs:List Value} (hl:xs.length=L.length*k) (h:∀(a:Nat) r (j:Nat) x,(bE L)[a]?=some r->r[j]?=some x->∃u,xs[a*k+j]?=some u/\bu S w x u):xs=L.flatten:=by
 have Ta:=fO hk
 apply List.ext_getElem?
 intro q
 by_cases hq:q < L.length*k
 ·have DW:0 < k:=Nat.pos_of_ne_zero fun e=>by rw[e] at hq;simp at hq
  have ha:q / k < L.length:=(Nat.div_lt_iff_lt_mul DW).2 hq
  have hj:q % k < k:=Nat.mod_lt _ DW
  have hr:L[q / k]?=some L[q / k]:=List.getElem?_eq_getElem ha
  have tF:=hk _ (List.getElem_mem ha)
  have hv:L[q / k][q % k]?=some (L[q / k][q % k]'(by omega)):=List.getElem?_eq_getElem _
  have e:q / k*k+q % k=q:=by rw[Nat.mul_comm];exact Nat.div_add_mod q k
  obtain⟨u,h1,h2⟩:=h (q / k) _ (q % k) _ (by unfold bE;rw[List.getElem?_map,hr];rfl) (by rw[List.getElem?_map,hv];rfl)
  rw[e] at h1
  have h3:=yO hk hr hv
  rw[e] at h3
  rw[h1,h3,h2.ca]
 rw[List.getElem?_eq_none (by omega),List.getElem?_eq_none (by omega)]
theorem xu {S:Nat->Prop} {w:World} {L:List (List Value)} {k:Nat} (hk:∀r∈L,r.length=k):∀(a:Nat) r (j:Nat) x,(bE L)[a]?=some r->r[j]?=some x->∃u,L.flatten[a*k+j]?=some u/\bu S w x u:=by
 intro a r j x h1 h2
 unfold bE at h1
 rw[List.getElem?_map] at h1
 obtain⟨r0,h3,rfl⟩:=Option.map_eq_some_iff.1 h1
 rw[List.getElem?_map] at h2
 obtain⟨v,h4,rfl⟩:=Option.map_eq_some_iff.1 h2
 exact⟨v,yO hk h3 h4,.im v⟩
theorem Ed {L:List (List Value)} {k:Nat} (hk:∀r∈L,r.length=k):∀r∈bE L,r.length=k:=by
 intro r hr
 obtain⟨r0,h,rfl⟩:=List.mem_map.1 hr
 rw[List.length_map,hk r0 h]
def oX (w:World) (g n:Nat) (F:Array Value) (os:Array Obj):World:=Sort.grow (Sort.putRow id (Sort.ahead w n) g 0 F) os
theorem uP (w:World) (g n:Nat) (F:Array Value) (os:Array Obj):(oX w g n F os).os=w.os/\(oX w g n F os).tape=w.tape/\(oX w g n F os).output=w.output/\w.heap.size<=(oX w g n F os).heap.size/\∀k,k < w.heap.size->(oX w g n F os).heap[k]?=if k=g then (w.heap[k]?).map (Sort.onCells (Sort.putCells id 0 F)) else w.heap[k]?:=by
 refine⟨rfl,rfl,rfl,?_,fun k hk=>?_⟩
 ·simp[oX,Sort.grow,Sort.putRow,Sort.mapBlock,Sort.ahead]
 simp only[oX,Sort.grow,Sort.putRow,Sort.mapBlock,Sort.ahead]
 rw[Array.getElem?_append_left (by simpa using hk),Array.getElem?_modify]
 by_cases e:g=k
 ·rw[if_pos e,if_pos e.symm]
 rw[if_neg e,if_neg fun h=>e h.symm]
theorem qD (F cur:Array Value) (h:F.size<=cur.size):(Sort.putCells id 0 F cur).size=cur.size/\(Sort.putCells id 0 F cur).toList.take F.size=F.toList:=by
 refine⟨by simp[Sort.putCells],?_⟩
 apply List.ext_getElem?
 intro j
 rw[List.getElem?_take]
 split
 ·rename_i hj
  rw[Array.getElem?_toList,Array.getElem?_toList]
  simp only[Sort.putCells,Array.getElem?_mapIdx]
  rw[Array.getElem?_eq_getElem (by omega:j < cur.size),Array.getElem?_eq_getElem hj,Option.map_some,if_pos ⟨Nat.zero_le _,by omega⟩,Nat.sub_zero,getElem!_pos F j hj]
  rfl
 rename_i hj
 rw[List.getElem?_eq_none (by simpa using hj)]
theorem Fu {w w':World} {e:TypeId} {es wk:List (List PV)} {v0:Value} {zs:List Value} (hs:w.heap.size<=w'.heap.size) (h:∀g,cU v0=some g->g < w.heap.size/\Mv w (.row e es::zs.map fun a=>.pv (.im a)) (#[v0]++zs.toArray) g):p9 w w' (.row e es::zs.map fun a=>.pv (.im a)) [.row wk] (#[v0]++zs.toArray):=by
 have RO:∀i g,dw w' (.row e es::zs.map fun a=>.pv (.im a)) [.row wk] (#[v0]++zs.toArray).toList i g->i=0/\cU v0=some g:=fun i g hg=>by
  simp only[Array.toList_append] at hg
  cases i with
  | zero=>exact⟨rfl,a6 rfl hg.2⟩
  | succ i=>exact (qz zs i g hg).elim
 exact⟨fun i g hg=>by obtain⟨h1,h2⟩:=h g (RO i g hg).2;exact⟨Nat.lt_of_lt_of_le h1 hs,.inr h2⟩,fun i j g hi hj=>by rw[(RO i g hi).1,(RO j g hj).1]⟩
theorem uQ {C:Ctx} (hC:bV C) {f:FuncId} (e:TypeId) (ti:TI) (hT:C.T e=some ti) (DW:0 < ti.size) (zs:List Value) (L L':List (List Value)) (hL:∀r∈L,r.length=ti.size) (JN:∀r∈L',r.length=ti.size) (hlen:L'.length=L.length)
  (h1:∀r∈L',∀v∈r,v.oneCell'=true) (hf:tQ C f)
  (hnil:L=[]->∀w,Calls C.P f (#[.slice none 0 0]++zs.toArray) w fun e' w'=>e'=.returned (.tuple #[])/\w'=w)
  (h:∀S w cU cap,C.E S w->cU < w.heap.size->L.length<=cap->(∀j v,L.flatten[j]?=some v->w.cell? ⟨cU,j,none⟩=some v/\w.frozen? ⟨cU,j,none⟩=false)->
   Calls C.P f (#[.slice (some ⟨cU,0,none⟩) L.length cap]++zs.toArray) w fun e' w'=>e'=.returned (.tuple #[])/\∃n os,w'=oX w cU n L'.flatten.toArray os):
  aD C f (.row e (bE L)::zs.map fun a=>.pv (.im a)) (.tu []) [.row (bE L')]:=by
 refine⟨hf,fun S w vs hE hS hl hr _=>?_⟩
 obtain⟨v0,vr,rfl⟩:∃v0 vr,vs=#[v0]++vr:=by
  obtain⟨l⟩:=vs
  cases l with
  | nil=>simp at hl
  | cons v0 l=>exact⟨v0,⟨l⟩,by simp⟩
 have RP:vr=zs.toArray:=tR (S:=S) (w:=w) (P:=C.P) (by simp at hl ⊢;omega) fun j x v hx hv=>hr (j+1) x v (by simpa using hx) (by rw[Array.getElem?_append_right (by simp)];simpa using hv)
 subst RP
 have aL:aR C.P w (bu S w) e (bE L) v0/\∀g,cU v0=some g->¬S g:=hr 0 _ v0 rfl (by simp)
 obtain⟨⟨i,xs,hi,hpos,hown,UI,gT,hcell⟩,PM⟩:=aL
 obtain⟨info,z,g1,g2,_⟩:=hC.gE e ti hT
 rw[hi] at g1;injection g1 with g1;subst g1
 have qi:(bE L).length=L.length:=List.length_map ..
 have yQ:(bE L').length=L.length:=by rw[<-hlen];exact List.length_map ..
 have hx:xs=L.flatten:=xt (P:=C.P) (k:=i.size) (by rw[g2];exact hL) (by rw[<-qi];exact hown.1) hcell
 have Oq:∀g,cU v0=some g->Mv w (.row e (bE L)::zs.map fun a=>.pv (.im a)) (#[v0]++zs.toArray) g:=fun g hg=>⟨0,_,v0,rfl,by simp,rfl,.inl hg⟩
 have tail:∀w':World,rA S w' C.P (.row e (bE L)) (.row (bE L')) v0->eK S w' C.P (.row e (bE L)::zs.map fun a=>.pv (.im a)) [.row (bE L')] (#[v0]++zs.toArray).toList:=fun w' KF=>by
  simp only[Array.toList_append]
  exact⟨KF,yC zs⟩
 have Ot:∀w':World,w.heap.size<=w'.heap.size->p9 w w' (.row e (bE L)::zs.map fun a=>.pv (.im a)) [.row (bE L')] (#[v0]++zs.toArray):=fun w' hs=>Fu hs (fun g hg=>⟨(hown.lt g (by rw[cS (cP hown).choose_spec.choose_spec];exact hg)).2,Oq g hg⟩)
 rcases hown.2 with⟨q1,q2⟩ | ⟨g,cap,cur,q1,q2,q3,q4,q5,q6,q7⟩
 ·have Cp:L=[]:=List.eq_nil_of_length_eq_zero (by rw[<-qi];exact q2)
  subst q1
  refine (hnil Cp w).mono fun e' w' ⟨he,hw⟩=>?_
  subst hw
  refine⟨.tuple #[],S,he,Fr.refl _ _,fun _ h=>h,hS,fun b hb=>.inl hb,⟨#[],rfl,rfl,by simp⟩,tail _ ⟨?_,PM⟩,Ot _ (Nat.le_refl _),fun g h=>by cases h⟩
  have Mx:L'=[]:=List.eq_nil_of_length_eq_zero (by rw[hlen,Cp];rfl)
  subst Mx
  exact⟨i,[],hi,hpos,World.ownsRow_nil _ _ _ _,by simp[bE],by simp,by simp[bE]⟩
 subst q1
 have Fv:g < w.heap.size:=(Array.getElem?_eq_some_iff.1 q3).1
 have RQ:L'.flatten.toArray.size=L.length*i.size:=by rw[List.size_toArray,fO JN,hlen,g2]
 have m_:L.length*i.size<=cur.size:=by rw[q6];exact Nat.mul_le_mul_right _ (by rw[<-qi];exact q4)
 have hh:=h S w g cap hE Fv (by rw[<-qi];exact q4) fun j v hj=>by
  have rq:j < L.length*i.size:=by have:=aP hj;rw[fO hL] at this;rw[g2];exact this
  have:cur[j]?=some v:=by
   rw[<-hx,<-q7] at hj
   rw[List.getElem?_take] at hj
   split at hj
   ·simpa using hj
   cases hj
  exact⟨by rw[cell_of_row w g j cur e (0,0) q3];exact this,by simp[World.frozen?,q3]⟩
 rw[<-qi] at hh
 refine hh.mono fun e' w' ⟨he,n,os,hw⟩=>?_
 subst hw
 obtain⟨p1,p2,p3,p4,p5⟩:=uP w g n L'.flatten.toArray os
 obtain⟨c1,c2⟩:=qD L'.flatten.toArray cur (by omega)
 have mc:(oX w g n L'.flatten.toArray os).heap[g]?=some (.cells (Sort.putCells id 0 L'.flatten.toArray cur) e (0,0)):=by rw[p5 g Fv,if_pos rfl,q3];rfl
 refine⟨.tuple #[],S,he,⟨p1,p2,p3,p4,fun k hk hn=>?_⟩,fun _ h=>h,fun b hb=>Nat.lt_of_lt_of_le (hS b hb) p4,fun b hb=>.inl hb,⟨#[],rfl,rfl,by simp⟩,tail _ ⟨?_,PM⟩,Ot _ p4,fun g h=>by cases h⟩
 ·rw[p5 k hk,if_neg]
  intro e
  subst e
  exact hn (Oq k rfl)
 refine⟨i,L'.flatten,hi,hpos,⟨by rw[yQ,<-hlen,g2];exact fO JN,.inr ⟨g,cap,_,by rw[yQ,qi],Nat.zero_le _,mc,by rw[yQ,<-qi];exact q4,q5,by rw[c1];exact q6,?_⟩⟩,by rw[g2];exact Ed JN,fun u hu=>?_,xu (by rw[g2];exact JN)⟩
 ·rw[yQ,<-RQ]
  exact c2
 obtain⟨r,NR,iD⟩:=List.mem_flatten.1 hu
 exact h1 r NR u iD
theorem CV {C:Ctx} (hC:bV C) {f:FuncId} (e:TypeId) (ti:TI) (hT:C.T e=some ti) (DW:0 < ti.size) (zs:List Value) (L L':List (List Value)) (m:Nat) (hm:m<=L.length) (hL:∀r∈L,r.length=ti.size) (JN:∀r∈L',r.length=ti.size) (hlen:L'.length=L.length)
  (h1:∀r∈L',∀v∈r,v.oneCell'=true) (hf:tQ C f)
  (hnil:L=[]->∀w,Calls C.P f (#[.slice none 0 0]++zs.toArray) w fun e' w'=>e'=.returned (.slice none 0 0)/\w'=w)
  (h:∀S w cU cap,C.E S w->cU < w.heap.size->L.length<=cap->(∀j v,L.flatten[j]?=some v->w.cell? ⟨cU,j,none⟩=some v/\w.frozen? ⟨cU,j,none⟩=false)->
   Calls C.P f (#[.slice (some ⟨cU,0,none⟩) L.length cap]++zs.toArray) w fun e' w'=>e'=.returned (.slice (some ⟨cU,0,none⟩) m cap)/\∃n os,w'=oX w cU n L'.flatten.toArray os):
  aD C f (.row e (bE L)::zs.map fun a=>.pv (.im a)) (.own e (bE (L'.take m))) [.gone]:=by
 refine⟨hf,fun S w vs hE hS hl hr _=>?_⟩
 obtain⟨v0,vr,rfl⟩:∃v0 vr,vs=#[v0]++vr:=by
  obtain⟨l⟩:=vs
  cases l with
  | nil=>simp at hl
  | cons v0 l=>exact⟨v0,⟨l⟩,by simp⟩
 have RP:vr=zs.toArray:=tR (S:=S) (w:=w) (P:=C.P) (by simp at hl ⊢;omega) fun j x v hx hv=>hr (j+1) x v (by simpa using hx) (by rw[Array.getElem?_append_right (by simp)];simpa using hv)
 subst RP
 have aL:aR C.P w (bu S w) e (bE L) v0/\∀g,cU v0=some g->¬S g:=hr 0 _ v0 rfl (by simp)
 obtain⟨⟨i,xs,hi,hpos,hown,UI,gT,hcell⟩,PM⟩:=aL
 obtain⟨info,z,g1,g2,_⟩:=hC.gE e ti hT
 rw[hi] at g1;injection g1 with g1;subst g1
 have qi:(bE L).length=L.length:=List.length_map ..
 have yQ:(bE L').length=L.length:=by rw[<-hlen];exact List.length_map ..
 have hx:xs=L.flatten:=xt (P:=C.P) (k:=i.size) (by rw[g2];exact hL) (by rw[<-qi];exact hown.1) hcell
 have Oq:∀g,cU v0=some g->Mv w (.row e (bE L)::zs.map fun a=>.pv (.im a)) (#[v0]++zs.toArray) g:=fun g hg=>⟨0,_,v0,rfl,by simp,rfl,.inl hg⟩
 have tail:∀w':World,eK S w' C.P (.row e (bE L)::zs.map fun a=>.pv (.im a)) [.gone] (#[v0]++zs.toArray).toList:=fun w'=>by
  simp only[Array.toList_append]
  exact⟨trivial,yC zs⟩
 have HN:∀(w':World) (i g:Nat),¬dw w' (.row e (bE L)::zs.map fun a=>.pv (.im a)) [.gone] (#[v0]++zs.toArray).toList i g:=fun w' i g hk=>by
  simp only[Array.toList_append] at hk
  cases i with
  | zero=>cases hk.1
  | succ i=>exact qz zs i g hk
 have Ot:∀w':World,p9 w w' (.row e (bE L)::zs.map fun a=>.pv (.im a)) [.gone] (#[v0]++zs.toArray):=fun w'=>⟨fun i g h=>(HN w' i g h).elim,fun i j g h=>(HN w' i g h).elim⟩
 have Ou:bE (L'.take m)=(bE L').take m:=by unfold bE;rw[List.map_take]
 rcases hown.2 with⟨q1,q2⟩ | ⟨g,cap,cur,q1,q2,q3,q4,q5,q6,q7⟩
 ·have Cp:L=[]:=List.eq_nil_of_length_eq_zero (by rw[<-qi];exact q2)
  subst q1
  refine (hnil Cp w).mono fun e' w' ⟨he,hw⟩=>?_
  subst hw
  have Mx:L'=[]:=List.eq_nil_of_length_eq_zero (by rw[hlen,Cp];rfl)
  subst Mx
  refine⟨.slice none 0 0,S,he,Fr.refl _ _,fun _ h=>h,hS,fun b hb=>.inl hb,⟨?_,fun g hg=>by cases hg⟩,tail _,Ot _,fun g _ hg=>by cases a6 rfl hg⟩
  rw[List.take_nil]
  exact⟨i,[],hi,hpos,World.ownsRow_nil _ _ _ _,by simp[bE],by simp,by simp[bE]⟩
 subst q1
 have Fv:g < w.heap.size:=(Array.getElem?_eq_some_iff.1 q3).1
 have RQ:L'.flatten.toArray.size=L.length*i.size:=by rw[List.size_toArray,fO JN,hlen,g2]
 have m_:L.length*i.size<=cur.size:=by rw[q6];exact Nat.mul_le_mul_right _ (by rw[<-qi];exact q4)
 have hh:=h S w g cap hE Fv (by rw[<-qi];exact q4) fun j v hj=>by
  have rq:j < L.length*i.size:=by have:=aP hj;rw[fO hL] at this;rw[g2];exact this
  have:cur[j]?=some v:=by
   rw[<-hx,<-q7] at hj
   rw[List.getElem?_take] at hj
   split at hj
   ·simpa using hj
   cases hj
  exact⟨by rw[cell_of_row w g j cur e (0,0) q3];exact this,by simp[World.frozen?,q3]⟩
 rw[<-qi] at hh
 refine hh.mono fun e' w' ⟨he,n,os,hw⟩=>?_
 subst hw
 obtain⟨p1,p2,p3,p4,p5⟩:=uP w g n L'.flatten.toArray os
 obtain⟨c1,c2⟩:=qD L'.flatten.toArray cur (by omega)
 have mc:(oX w g n L'.flatten.toArray os).heap[g]?=some (.cells (Sort.putCells id 0 L'.flatten.toArray cur) e (0,0)):=by rw[p5 g Fv,if_pos rfl,q3];rfl
 have Ov:aR C.P (oX w g n L'.flatten.toArray os) (bu S (oX w g n L'.flatten.toArray os)) e (bE L') (.slice (some ⟨g,0,none⟩) (bE L).length cap):=by
  refine⟨i,L'.flatten,hi,hpos,⟨by rw[yQ,<-hlen,g2];exact fO JN,.inr ⟨g,cap,_,by rw[yQ,qi],Nat.zero_le _,mc,by rw[yQ,<-qi];exact q4,q5,by rw[c1];exact q6,?_⟩⟩,by rw[g2];exact Ed JN,fun u hu=>?_,xu (by rw[g2];exact JN)⟩
  ·rw[yQ,<-RQ]
   exact c2
  obtain⟨r,NR,iD⟩:=List.mem_flatten.1 hu
  exact h1 r NR u iD
 refine⟨_,S,he,⟨p1,p2,p3,p4,fun k hk hn=>?_⟩,fun _ h=>h,fun b hb=>Nat.lt_of_lt_of_le (hS b hb) p4,fun b hb=>.inl hb,⟨?_,fun g' mc=>PM g' mc⟩,tail _,Ot _,fun g' _ mc=>⟨?_,.inr (Oq g' (a6 rfl mc)),fun i=>HN _ i g'⟩⟩
 ·rw[p5 k hk,if_neg]
  intro e
  subst e
  exact hn (Oq k rfl)
 ·rw[Ou]
  exact aR.front Ov rfl (by rw[qi];exact hm) rfl
 have mc:=a6 rfl mc
 have:g=g':=by injection mc
 rw[<-this]
 exact Nat.lt_of_lt_of_le Fv p4
end Go.AM
namespace Go.AM
open Go.RowKit Go.ChangeShapes
section
variable {H:Type} {enc:TypeId×Value->H} {P:Program} {w:World} {S:Nat->Prop}
def CW (enc:TypeId×Value->H) (P:Program) (w:World) (S:Nat->Prop) (t:TypeId) (k:Nat) (Q:List PV->DataW H->Prop):Prop:=
 ∀n cs x,DataW.trod enc P w 0 (fun _=>true) true n t cs=some x->∃xs,xs.length=k/\cs.length=k/\(∀(i:Nat) c v,xs[i]?=some c->cs[i]?=some v->bu S w c v/\v.oneCell'=true)/\Q xs x.1
theorem one_cell {c:PV} {u:Value} (h:bu S w c u/\u.oneCell'=true):∀(i:Nat) c' v,[c][i]?=some c'->[u][i]?=some v->bu S w c' v/\v.oneCell'=true:=fun i c' v h1 h2=>by
 match i,h1,h2 with
 | 0,h1,h2=>cases h1;cases h2;exact h
 | n+1,h1,h2=>cases h1
theorem JO {t:TypeId} (ht:P.underlying t=some (.int .i64)):CW enc P w S t 1 fun xs d=>∃n:Int,xs=[.im (.int .i64 n)]/\d=.lit (.int .i64 n):=fun n cs x h=>by
 obtain⟨z,rfl,rfl,_⟩:=DataW.trod_int ht h
 exact⟨[.im (.int .i64 z)],rfl,rfl,one_cell ⟨.im _,rfl⟩,z,rfl,rfl⟩
theorem JP {t:TypeId} (ht:P.underlying t=some .string):CW enc P w S t 1 fun xs d=>∃s:ByteArray,xs=[.im (.string s)]/\d=.lit (.string s.data.toList):=fun n cs x h=>by
 obtain⟨s,rfl,rfl,_⟩:=DataW.trod_string ht h
 exact⟨[.im (.string s)],rfl,rfl,one_cell ⟨.im _,rfl⟩,s,rfl,rfl⟩
theorem JQ {a:Addr} {v:Value} (h:w.cell? a=some v):a.spot=none/\a.block < w.heap.size:=by
 unfold World.cell? at h
 split at h
 ·rename_i c _ _ hh
  refine⟨?_,?_⟩
  ·cases hs:a.spot with
   | none=>rfl
   | some s=>rw[hs] at h;cases h
  rcases Nat.lt_or_ge a.block w.heap.size with h' | h'
  ·exact h'
  rw[Array.getElem?_eq_none h'] at hh;cases hh
 cases h
theorem Fw {t e:TypeId} {k:Nat} {Q:List PV->DataW H->Prop} (ht:P.underlying t=some (.slice e)) (hc:P.cellsOf e=k) (hk:0 < k) (hS:∀b,b < w.heap.size->S b) (he:CW enc P w S e k Q):
  CW enc P w S t 1 fun xs d=>∃(es:List (List PV)) (ds sp:List (DataW H)),xs=[.sl es]/\es.length=ds.length/\(d=.nil/\ds=[]\/d=.slice ds sp)/\∀(i:Nat) x y,es[i]?=some x->ds[i]?=some y->Q x y:=fun n cs x h=>by
 rcases Go.Deep.open_slice ht h with⟨rfl,rfl⟩ | ⟨a,len,cap,m,n,D,Pl,rfl,hb,hl,hm,Jo,rfl,hx⟩
 ·exact⟨[.sl []],rfl,rfl,one_cell ⟨.nil _ _,rfl⟩,[],[],[],rfl,rfl,.inl ⟨rfl,rfl⟩,fun i x y h=>by cases h⟩
 have PC:len<=m:=by rw[Jo];split <;> omega
 rcases Nat.eq_zero_or_pos len with h0 | hpos
 ·subst h0
  exact⟨[.sl []],rfl,rfl,one_cell ⟨.nil _ _,rfl⟩,[],[],_,rfl,rfl,.inr rfl,fun i x y h=>by cases h⟩
 rw[hc] at hx
 have each:∀i,i < len->∃p:List PV×List Value,p.1.length=k/\p.2.length=k/\(∀j,j < k->w.cell? ((a.add (i*k)).add j)=p.2[j]?)/\(∀(j:Nat) c v,p.1[j]?=some c->p.2[j]?=some v->bu S w c v/\v.oneCell'=true)/\Q p.1 (D i):=fun i hi=>by
  obtain⟨kI,h1,h2⟩:=hx i (by omega)
  obtain⟨_,hlen,hcell⟩:=World.cells?_some h1
  obtain⟨xs,l1,l2,l3,l4⟩:=he _ _ _ h2
  exact⟨(xs,kI),l1,l2,hcell,l3,l4⟩
 obtain⟨F,hF⟩:=Go.Deep.choose_lt (α:=List PV×List Value) each
 have get:∀(i:Nat) e,((List.range len).map fun i=>(F i).1)[i]?=some e->i < len/\e=(F i).1:=fun i e h=>by
  rw[List.getElem?_map,Option.map_eq_some_iff] at h
  obtain⟨j,hj,rfl⟩:=h
  obtain⟨h1,h2⟩:=List.getElem?_eq_some_iff.1 hj
  rw[List.getElem_range] at h2
  subst h2
  exact⟨by simpa using h1,rfl⟩
 have cellOf:∀i j,i < len->j < k->w.cell? ((a.add (i*k)).add j)=some (((F i).2[j]?).getD .nilIface):=fun i j hi hj=>by
  obtain⟨_,l2,h3,_⟩:=hF i hi
  rw[h3 j hj,List.getElem?_eq_getElem (by omega)]
  rfl
 have hz:=JQ (cellOf 0 0 hpos hk)
 obtain⟨b,off,spot⟩:=a
 have EH:spot=none:=by simpa [Addr.add] using hz.1
 subst EH
 have Z9:b < w.heap.size:=by simpa [Addr.add] using hz.2
 have aL:∀i j,((⟨b,off,none⟩:Addr).add (i*k)).add j=⟨b,off+i*k+j,none⟩:=fun i j=>by
  unfold Addr.add
  by_cases h1:i*k=0
  ·rw[if_pos h1,h1]
   by_cases h2:j=0
   ·rw[if_pos h2,h2];rfl
   rw[if_neg h2];rfl
  rw[if_neg h1]
  by_cases h2:j=0
  ·rw[if_pos h2,h2];rfl
  rw[if_neg h2]
 refine⟨[.sl ((List.range len).map fun i=>(F i).1)],rfl,rfl,one_cell ⟨?_,rfl⟩,(List.range len).map fun i=>(F i).1,(List.range len).map D,_,rfl,by simp,.inr rfl,fun i x y h1 h2=>?_⟩
 ·have hlen:((List.range len).map fun i=>(F i).1).length=len:=by simp
  have:=bu.sl (S:=S) (w:=w) ((List.range len).map fun i=>(F i).1) k b off cap (fun i j=>((F i).2[j]?).getD .nilIface) (by rw[hlen];exact hl) (hS b Z9)
   (fun e CE=>by obtain⟨i,hi,rfl⟩:=List.mem_map.1 CE;exact (hF i (List.mem_range.1 hi)).1)
   (fun i e j x h1 h2=>by
    obtain⟨hi,rfl⟩:=get i e h1
    have hj:j < k:=by rw[<-(hF i hi).1];exact (List.getElem?_eq_some_iff.1 h2).1
    have hv:(F i).2[j]?=some (((F i).2[j]?).getD .nilIface):=by rw[List.getElem?_eq_getElem (by rw[(hF i hi).2.1];exact hj)];rfl
    exact⟨by rw[<-aL];exact cellOf i j hi hj,((hF i hi).2.2.2.1 j x _ h2 hv).2⟩)
   (fun i e j x h1 h2=>by
    obtain⟨hi,rfl⟩:=get i e h1
    have hj:j < k:=by rw[<-(hF i hi).1];exact (List.getElem?_eq_some_iff.1 h2).1
    have hv:(F i).2[j]?=some (((F i).2[j]?).getD .nilIface):=by rw[List.getElem?_eq_getElem (by rw[(hF i hi).2.1];exact hj)];rfl
    exact ((hF i hi).2.2.2.1 j x _ h2 hv).1)
  rw[hlen] at this
  exact this
 obtain⟨hi,rfl⟩:=get i x h1
 rw[List.getElem?_map,List.getElem?_range hi] at h2
 cases h2
 exact (hF i hi).2.2.2.2
instance:Inhabited PV:=⟨.sl []⟩
theorem iK {t:TypeId} {fs:Array Field} (ht:P.underlying t=some (.struct fs)) (gT:∀(i:Nat) (f:Field),fs[i]?=some f->f.offset=i/\P.cellsOf f.type=1) (hc:P.cellsOf t=fs.size) (Qs:Nat->List PV->DataW H->Prop)
  (hf:∀(i:Nat) (f:Field),fs[i]?=some f->CW enc P w S f.type 1 (Qs i)):
  CW enc P w S t fs.size fun xs d=>∃ds:List (DataW H),d=.agg ds/\ds.length=fs.size/\∀(i:Nat) x y,xs[i]?=some x->ds[i]?=some y->Qs i [x] y:=fun n cs x h=>by
 obtain⟨ys,m,_,rfl,hl,hlen,hy⟩:=DataW.trod_struct ht h
 rw[hc] at hl
 have each:∀i,i < fs.size->∃c:PV,∃y v,ys[i]?=some y/\cs[i]?=some v/\bu S w c v/\v.oneCell'=true/\Qs i [c] y.1:=fun i hi=>by
  have I3:fs[i]?=some fs[i]:=Array.getElem?_eq_getElem hi
  obtain⟨ho,h1⟩:=gT i _ I3
  have K9:=hy i _ I3
  rw[ho,h1] at K9
  have Ow:ys[i]?=some ys[i]:=List.getElem?_eq_getElem (by omega)
  rw[Ow] at K9
  obtain⟨xs,l1,l2,l3,l4⟩:=hf i _ I3 _ _ _ K9
  have m_:cs[i]?=some cs[i]:=List.getElem?_eq_getElem (by omega)
  have hd:(cs.drop i).take 1=[cs[i]]:=by
   rw[List.drop_eq_getElem_cons (by omega)];rfl
  rw[hd] at l3
  obtain⟨c,rfl⟩:∃c,xs=[c]:=by
   match xs,l1 with
   | [c],_=>exact⟨c,rfl⟩
  exact⟨c,ys[i],cs[i],Ow,m_,(l3 0 _ _ rfl rfl).1,(l3 0 _ _ rfl rfl).2,l4⟩
 obtain⟨F,hF⟩:=Go.Deep.choose_lt (α:=PV) each
 refine⟨(List.range fs.size).map F,by simp,hl,fun i c v h1 h2=>?_,ys.map (·.1),rfl,by rw[List.length_map,hlen],fun i x y h1 h2=>?_⟩
 ·have hi:i < fs.size:=by have:=(List.getElem?_eq_some_iff.1 h1).1;simpa using this
  rw[List.getElem?_map,List.getElem?_range hi] at h1
  cases h1
  obtain⟨y,v',_,e2,e3,e4,_⟩:=hF i hi
  rw[h2] at e2
  cases e2
  exact⟨e3,e4⟩
 have hi:i < fs.size:=by have:=(List.getElem?_eq_some_iff.1 h1).1;simpa using this
 rw[List.getElem?_map,List.getElem?_range hi] at h1
 cases h1
 obtain⟨y',v',e1,_,_,_,e5⟩:=hF i hi
 rw[List.getElem?_map,e1] at h2
 cases h2
 exact e5
theorem JR {t:TypeId} {k:Nat} {Q:List PV->DataW H->Prop} (hd:CW enc P w S t k Q) {vs:Array Value} {d:DataW H} {ps:List MemPlace} (h:DataW.Trod enc P w 0 (fun _=>true) true t (.agg vs) d ps):
  ∃xs,bu S w (.ag xs) (.agg vs)/\xs.length=k/\Q xs d:=by
 obtain⟨n,hn⟩:=h
 obtain⟨xs,l1,l2,l3,l4⟩:=hd _ _ _ hn
 have l2:vs.toList.length=k:=l2
 have get:∀(i:Nat) (v:Value),vs[i]?=some v->vs.toList[i]?=some v:=fun i v h=>by rw[Array.getElem?_toList];exact h
 refine⟨xs,.ag xs vs (by rw[l1,<-l2];simp) (fun u hu=>?_) fun i c v h1 h2=>(l3 i c v h1 (get i v h2)).1,l1,l4⟩
 obtain⟨i,hi⟩:=List.mem_iff_getElem?.1 hu
 have eL:i < xs.length:=by have:=(List.getElem?_eq_some_iff.1 hi).1;omega
 exact (l3 i _ u (List.getElem?_eq_getElem eL) hi).2
theorem uR {t:TypeId} {fs:Array Field} {k:Nat} {Q:List PV->DataW H->Prop} {r:Reach} {b0:Nat} (ht:P.underlying t=some (.struct fs)) (hd:CW enc P w S t k Q) {v:Value} {d:DataW H} {ps:List MemPlace} (hv:Value.okWide P w r b0 t v) (h:DataW.Trod enc P w 0 (fun _=>true) true t v d ps):
  ∃xs,bu S w (.ag xs) v/\Q xs d:=by
 obtain⟨cs,rfl,_⟩:=Go.WideShapes.okWide_struct ht hv
 obtain⟨xs,h1,_,h2⟩:=JR hd h
 exact⟨xs,h1,h2⟩
theorem Fx {t e:TypeId} {Q:List PV->DataW H->Prop} {r:Reach} {b0:Nat} (ht:P.underlying t=some (.slice e)) (hd:CW enc P w S t 1 Q) {v:Value} {d:DataW H} {ps:List MemPlace} (hv:Value.okWide P w r b0 t v) (h:DataW.Trod enc P w 0 (fun _=>true) true t v d ps):
  ∃c,bu S w c v/\Q [c] d:=by
 obtain⟨a,l,c,rfl⟩:=Go.WideShapes.okWide_slice ht hv
 obtain⟨n,hn⟩:=h
 obtain⟨xs,l1,l2,l3,l4⟩:=hd _ _ _ hn
 obtain⟨x,rfl⟩:∃x,xs=[x]:=by
  match xs,l1 with
  | [x],_=>exact⟨x,rfl⟩
 exact⟨x,(l3 0 x _ rfl rfl).1,l4⟩
theorem Ox (w:World) (xs:List PV) (vs:Array Value) (g:Nat):¬Mv w (xs.map Arg.pv) vs g:=by
 rintro⟨j,y,v,h1,_,h2,_⟩
 rw[List.getElem?_map,Option.map_eq_some_iff] at h1
 obtain⟨x,_,rfl⟩:=h1
 cases h2
def JS (S:Nat->Prop) (w:World) (xs:List PV) (vs:List Value):Prop:=xs.length=vs.length/\∀(j:Nat) x v,xs[j]?=some x->vs[j]?=some v->bu S w x v
theorem HO:JS S w [] []:=⟨rfl,fun j x v h=>by cases h⟩
theorem lQ {x:PV} {v:Value} {xs:List PV} {vs:List Value} (h:bu S w x v) (hr:JS S w xs vs):JS S w (x::xs) (v::vs):=⟨by rw[List.length_cons,List.length_cons,hr.1],fun j x' v' h1 h2=>by
 match j,h1,h2 with
 | 0,h1,h2=>cases h1;cases h2;exact h
 | j+1,h1,h2=>exact hr.2 j x' v' h1 h2⟩
theorem My {C:Ctx} {f:FuncId} {xs:List PV} {y:Value} (h:aD C f (xs.map Arg.pv) (.p (.im y)) []) {vs:Array Value} (hE:C.E (fun b=>b < w.heap.size) w) (hr:JS (fun b=>b < w.heap.size) w xs vs.toList):
  Calls C.P f vs w fun e w'=>e=.returned y/\Below w.heap.size w w':=by
 refine (h.2 (fun b=>b < w.heap.size) w vs hE (fun _ h=>h) (by rw[List.length_map,hr.1];simp) (fun j x v h1 h2=>?_) (fun i j x y v u g h1 _ _ _ h5=>?_)).mono ?_
 ·rw[List.getElem?_map,Option.map_eq_some_iff] at h1
  obtain⟨x,hx,rfl⟩:=h1
  exact hr.2 j x v hx (by rw[Array.getElem?_toList];exact h2)
 ·rw[List.getElem?_map,Option.map_eq_some_iff] at h1
  obtain⟨x,_,rfl⟩:=h1
  cases h5
 rintro e w' ⟨v,S',rfl,hf,_,_,_,hv,_⟩
 have hv:bu S' w' (.im y) v:=hv
 cases hv
 exact⟨rfl,hf.os,hf.tape,hf.output,hf.size,fun k hk=>hf.block k hk (Ox _ _ _ _)⟩
end
end Go.AM
namespace Go.Proofs.YtpbkimanfahbgaaGreatDoor
namespace M
open Go.AM Go.RowKit Go.Lib Go.Sort
open Reg (aB bC ax)
instance:Inhabited aB:=⟨⟨0,0,0,0⟩⟩
def cl (n:Int):Int:=max (-4611686018427387904) (min n 4611686018427387903)
theorem Ee (n:Int):-4611686018427387904<=cl n/\cl n<=4611686018427387903:=by unfold cl;omega
theorem s6 {n:Int} (h:-4611686018427387904<=n/\n<=4611686018427387903):cl n=n:=by unfold cl;omega
def Bd (r:aB):Prop:=(-4611686018427387904<=r.x0/\r.x0<=4611686018427387903)/\(-4611686018427387904<=r.y0/\r.y0<=4611686018427387903)/\(-4611686018427387904<=r.x1/\r.x1<=4611686018427387903)/\(-4611686018427387904<=r.y1/\r.y1<=4611686018427387903)
def gb (r:aB):List Value:=[.int .i64 (cl r.x0),.int .i64 (cl r.y0),.int .i64 (cl r.x1),.int .i64 (cl r.y1)]
theorem JT {r:aB} (h:Bd r):(gb r).map PV.im=rc r:=by
 obtain⟨h1,h2,h3,h4⟩:=h
 simp only[gb,s6 h1,s6 h2,s6 h3,s6 h4]
 rfl
theorem s7 {l:List aB} (h:∀r∈l,Bd r):bE (l.map gb)=l.map rc:=by
 unfold bE
 rw[List.map_map]
 exact List.map_congr_left fun r hr=>JT (h r hr)
theorem qE {l:List aB}:∀r∈l.map gb,r.length=4:=by
 intro r hr
 obtain⟨x,_,rfl⟩:=List.mem_map.1 hr
 rfl
theorem AN (d:Array aB):flatK gb 4 d=(d.toList.map gb).flatten.toArray:=by
 apply Array.ext_getElem?
 intro q
 have hlen:(d.toList.map gb).flatten.length=d.size*4:=by rw[fO (k:=4) qE];simp
 by_cases hq:q < d.size*4
 ·have h1:q / 4 < d.size:=by omega
  have h2:q % 4 < 4:=Nat.mod_lt _ (by omega)
  have e:q / 4*4+q % 4=q:=by omega
  have hg:=get_flatK gb 4 d q hq
  have hsz:(flatK gb 4 d).size=d.size*4:=by simp
  rw[Array.getElem?_eq_getElem (by omega),<-getElem!_pos (flatK gb 4 d) q (by omega),hg]
  have hr:(d.toList.map gb)[q / 4]?=some (gb d[q / 4]!):=by
   rw[List.getElem?_map,Array.getElem?_toList,Array.getElem?_eq_getElem h1,Option.map_some,getElem!_pos d _ h1]
  have hv:(gb d[q / 4]!)[q % 4]?=some ((gb d[q / 4]!)[q % 4]!):=by
   have h3:q % 4 < (gb d[q / 4]!).length:=h2
   rw[List.getElem?_eq_getElem h3,getElem!_pos (gb d[q / 4]!) (q % 4) h3]
  have:=yO (k:=4) qE hr hv
  rw[e] at this
  simpa using this.symm
 rw[Array.getElem?_eq_none (by simp;omega),Array.getElem?_eq_none (by simp only[List.size_toArray];omega)]
def HP (a b:aB):Int:=cl a.y0 - cl b.y0
def CX (a b:aB):Int:=cl a.x0 - cl b.x0
theorem PN (a b:aB):ltOf HP a b=decide (cl a.y0 < cl b.y0):=by unfold ltOf HP;congr 1;exact propext ⟨fun h=>by omega,fun h=>by omega⟩
theorem PO (a b:aB):ltOf CX a b=decide (cl a.x0 < cl b.x0):=by unfold ltOf CX;congr 1;exact propext ⟨fun h=>by omega,fun h=>by omega⟩
theorem Oy:SWO (ltOf HP) where
 irrefl x:=by rw[PN];simp
 trans x y z h1 h2:=by rw[PN] at *;simp at *;omega
 ntrans x y z h1 h2:=by rw[PN] at *;simp at *;omega
theorem Oz:SWO (ltOf CX) where
 irrefl x:=by rw[PO];simp
 trans x y z h1 h2:=by rw[PO] at *;simp at *;omega
 ntrans x y z h1 h2:=by rw[PO] at *;simp at *;omega
theorem HQ (x y:aB) (W:World):Calls Tryz.prog 77 #[.agg (gb x).toArray,.agg (gb y).toArray] W fun e w'=>e=.returned (.int .i64 (HP x y))/\∃q OA,w'=grow (W.drewN q) OA:=by
 have h1:=Ee x.y0
 have h2:=Ee y.y0
 unfold gb HP
 generalize cl x.x0=a1 at *
 generalize cl x.y0=a2 at *
 generalize cl x.x1=a3 at *
 generalize cl x.y1=a4 at *
 generalize cl y.x0=b1 at *
 generalize cl y.y0=b2 at *
 generalize cl y.x1=b3 at *
 generalize cl y.y1=b4 at *
 go_enter Tryz.func77,Tryz.ntmps77
 go_wp2
 go_ret
 exact⟨rfl,0,_,by rw[alloc_eq_grow,alloc_eq_grow,grow_grow];rfl⟩
theorem HR (x y:aB) (W:World):Calls Tryz.prog 131 #[.agg (gb x).toArray,.agg (gb y).toArray] W fun e w'=>e=.returned (.int .i64 (CX x y))/\∃q OA,w'=grow (W.drewN q) OA:=by
 have h1:=Ee x.x0
 have h2:=Ee y.x0
 unfold gb CX
 generalize cl x.x0=a1 at *
 generalize cl x.y0=a2 at *
 generalize cl x.x1=a3 at *
 generalize cl x.y1=a4 at *
 generalize cl y.x0=b1 at *
 generalize cl y.y0=b2 at *
 generalize cl y.x1=b3 at *
 generalize cl y.y1=b4 at *
 go_enter Tryz.func131,Tryz.ntmps131
 go_wp2
 go_ret
 exact⟨rfl,0,_,by rw[alloc_eq_grow,alloc_eq_grow,grow_grow];rfl⟩
def eN (cf:aB->aB->Int) (l:List aB):List aB:=(pdq (ltOf cf) l.toArray 0 l.toArray.size (Lib.bitLen l.toArray.size) true true).toList
theorem mL (cf:aB->aB->Int) (hO:SWO (ltOf cf)) (l:List aB):(eN cf l).Perm l/\(eN cf l).Pairwise fun a b=>ltOf cf b a=false:=by
 obtain⟨h1,h2⟩:=pdq_sorts (ltOf cf) hO l.toArray 0 l.toArray.size (Lib.bitLen l.toArray.size) true true (Nat.zero_le _) (Nat.le_refl _) (Or.inl rfl)
 obtain⟨p1,_,p3⟩:=h1
 have hp:(eN cf l).Perm l:=by
  have e1:∀d:Array aB,d.size=l.toArray.size->(d.extract 0 l.toArray.size).toList=d.toList:=fun d h=>by rw[<-h];simp
  rw[e1 _ p1,e1 _ rfl] at p3
  unfold eN
  simpa using p3
 refine⟨hp,?_⟩
 rw[List.pairwise_iff_getElem]
 intro i j hi hj zZ
 have hs:(eN cf l).length=l.toArray.size:=by rw[hp.length_eq];simp
 have:=h2 i j (Nat.zero_le _) zZ (by omega)
 unfold eN at hi hj ⊢
 simp only[Array.length_toList] at hi hj
 rw[getElem!_pos _ j hj,getElem!_pos _ i hi] at this
 simpa using this
theorem AO {l:List aB} (h:∀r∈l,Bd r):(eN HP l).Perm l/\(eN HP l).Pairwise fun a b=>a.y0<=b.y0:=by
 obtain⟨h1,h2⟩:=mL HP Oy l
 refine⟨h1,h2.imp_of_mem fun {a b} ha hb rX=>?_⟩
 rw[PN,s6 (h b (h1.mem_iff.1 hb)).2.1,s6 (h a (h1.mem_iff.1 ha)).2.1] at rX
 simpa using rX
theorem s8 {l:List aB} (h:∀r∈l,Bd r):(eN CX l).Perm l/\(eN CX l).Pairwise fun a b=>a.x0<=b.x0:=by
 obtain⟨h1,h2⟩:=mL CX Oz l
 refine⟨h1,h2.imp_of_mem fun {a b} ha hb rX=>?_⟩
 rw[PO,s6 (h b (h1.mem_iff.1 hb)).1,s6 (h a (h1.mem_iff.1 ha)).1] at rX
 simpa using rX
theorem AP (cf:aB->aB->Int) (hO:SWO (ltOf cf)) (g:Nat) (eg:∀args w,(callFunc g args).run Tryz.prog w=.ok (.enter g args) w)
  (iE:∀(x y:aB) (W:World),Calls Tryz.prog g #[.agg (gb x).toArray,.agg (gb y).toArray] W fun e w'=>e=.returned (.int .i64 (cf x y))/\∃q OA,w'=grow (W.drewN q) OA)
  (l:List aB) (hl:∀r∈l,Bd r) (hN:l.length < 4611686018427387904):aD C 76 [.row 56 (l.map rc),.pv (.im (.func (.func g) #[] #[]))] (.tu []) [.row ((eN cf l).map rc)]:=by
 obtain⟨hp,_⟩:=mL cf hO l
 have JU:∀r∈eN cf l,Bd r:=fun r hr=>hl r (hp.mem_iff.1 hr)
 have:=uQ hC (f:=76) 56 _ rfl (by decide) [.func (.func g) #[] #[]] (l.map gb) ((eN cf l).map gb) qE qE (by rw[List.length_map,List.length_map,hp.length_eq])
  (fun r hr v hv=>by
   obtain⟨x,_,rfl⟩:=List.mem_map.1 hr
   simp only[gb,List.mem_cons,List.not_mem_nil,or_false] at hv
   rcases hv with rfl | rfl | rfl | rfl <;> rfl)
  ⟨_,Tryz.func76,rfl,rfl⟩
  (fun _ w=>AnyF.slices_SortFunc_none Tryz.laysSortRect none 0 (.func (.func g) #[] #[]) w)
  (fun S w cU cap hE hblk _ hcell=>by
   have hH:HoldsK gb 4 w cU 0 l.toArray:=by
    unfold HoldsK
    intro j hj
    rw[AN] at hj ⊢
    simp only[List.size_toArray] at hj
    have hv:(l.map gb).flatten[j]?=some ((l.map gb).flatten[j]'hj):=List.getElem?_eq_getElem hj
    obtain⟨h1,h2⟩:=hcell j _ hv
    rw[Nat.zero_add]
    refine⟨?_,h2⟩
    rw[h1]
    congr 1
    rw[getElem!_pos _ j (by simpa using hj)]
    simp
   have hc:=AnyQ.slices_SortFunc_eq Tryz.laysSortRect 4 (fun w=>(hC.gE 56 _ rfl).isAgg w) (fun w=>(hC.gE 56 _ rfl).sizeOf w) gb (fun _=>rfl) (fun x v hv=>by
    simp only[gb,List.mem_cons,List.not_mem_nil,or_false] at hv
    rcases hv with rfl | rfl | rfl | rfl <;> rfl) cf hO g #[] cU 0 cap l.toArray w eg (fun _ _ _ _ x y=>iE x y _) hH hblk (by simpa using hN)
   have e:l.toArray.size=(l.map gb).length:=by simp
   rw[e] at hc
   refine hc.mono fun e' w' ⟨h1,n,os,h2⟩=>⟨h1,n,os,?_⟩
   rw[h2]
   unfold sortWorldK putRowK oX
   rw[AN,<-e]
   rfl)
 rw[s7 hl,s7 JU] at this
 exact this
theorem Mz (l:List aB) (hl:∀r∈l,Bd r) (hN:l.length < 4611686018427387904):aD C 76 [.row 56 (l.map rc),.pv (.im (.func (.func 77) #[] #[]))] (.tu []) [.row ((eN HP l).map rc)]:=
 AP HP Oy _ (enters_of Tryz.func77 (by kernel_rfl) rfl) HQ l hl hN
theorem MA (l:List aB) (hl:∀r∈l,Bd r) (hN:l.length < 4611686018427387904):aD C 76 [.row 56 (l.map rc),.pv (.im (.func (.func 131) #[] #[]))] (.tu []) [.row ((eN CX l).map rc)]:=
 AP CX Oz _ (enters_of Tryz.func131 (by kernel_rfl) rfl) HR l hl hN
theorem yX (d:Array Int) (hs:∀i j,i<=j->j < d.size->d[i]!<=d[j]!):∀m,m<=d.size->Reg.cT (compactUpTo d m)/\(∀x,x∈compactUpTo d m↔∃j,j < m/\d[j]! = x):=by
 intro m
 induction m with
 | zero=>intro _;exact⟨by simp[compactUpTo,Reg.cT],by simp[compactUpTo]⟩
 | succ m ih=>
  intro hm
  obtain⟨h1,h2⟩:=ih (by omega)
  rw[compactUpTo_succ]
  cases hk:keeps d m with
  | true=>
   have Xe:m=0\/d[m]!≠d[m - 1]!:=by simpa [keeps] using hk
   have eL:∀x∈compactUpTo d m,x < d[m]!:=by
    intro x hx
    obtain⟨j,hj,rfl⟩:=(h2 x).1 hx
    rcases Xe with h | h
    ·omega
    have a:=hs j (m - 1) (by omega) (by omega)
    have b:=hs (m - 1) m (by omega) (by omega)
    omega
   refine⟨?_,fun x=>?_⟩
   ·simp only[if_pos]
    exact List.pairwise_append.2 ⟨h1,by simp,fun a ha b hb=>by simp at hb;subst hb;exact eL a ha⟩
   simp only[if_pos,List.mem_append,List.mem_singleton,h2]
   constructor
   ·rintro (⟨j,hj,rfl⟩ | rfl)
    ·exact⟨j,by omega,rfl⟩
    exact⟨m,by omega,rfl⟩
   rintro⟨j,hj,rfl⟩
   by_cases e:j=m
   ·exact .inr (by rw[e])
   exact .inl ⟨j,by omega,rfl⟩
  | false=>
   have Xe:m≠0/\d[m]! = d[m - 1]!:=by simpa [keeps] using hk
   simp only[Bool.false_eq_true,if_neg,List.append_nil,not_false_eq_true]
   refine⟨h1,fun x=>?_⟩
   rw[h2]
   constructor
   ·rintro⟨j,hj,rfl⟩;exact⟨j,by omega,rfl⟩
   rintro⟨j,hj,rfl⟩
   by_cases e:j=m
   ·exact⟨m - 1,by omega,by rw[e];exact Xe.2.symm⟩
   exact⟨j,by omega,rfl⟩
theorem wE {zs:List Int} (hs:zs.Pairwise (·<=·)):Reg.cT (compact zs)/\∀x,x∈compact zs↔x∈zs:=by
 have hg:∀i (h:i < zs.length),zs.toArray[i]! = zs[i]:=fun i h=>by rw[getElem!_pos _ i (by simpa using h)];simp
 obtain⟨h1,h2⟩:=yX zs.toArray (fun i j zZ hj=>by
  have hj:j < zs.length:=by simpa using hj
  rw[hg i (by omega),hg j hj]
  by_cases e:i=j
  ·subst e;omega
  exact List.pairwise_iff_getElem.1 hs i j (by omega) hj (by omega)) zs.length (by simp)
 refine⟨h1,fun x=>(h2 x).trans ?_⟩
 constructor
 ·rintro⟨j,hj,rfl⟩;rw[hg j hj];exact List.getElem_mem hj
 intro hx
 obtain⟨j,hj,rfl⟩:=List.getElem_of_mem hx
 exact⟨j,hj,hg j hj⟩
def encI (n:Int):List Value:=[.int .i64 n]
theorem qF {l:List Int}:∀r∈l.map encI,r.length=1:=by
 intro r hr
 obtain⟨x,_,rfl⟩:=List.mem_map.1 hr
 rfl
theorem mM (l:List Int):bE (l.map encI)=l.map fun n=>[i64 n]:=by
 unfold bE;rw[List.map_map];rfl
theorem r8 (l:List Int):(l.map encI).flatten=l.map (Value.int .i64):=by
 induction l with
 | nil=>rfl
 | cons a l ih=>rw[List.map_cons,List.flatten_cons,ih];rfl
theorem uS (w:World) (b n:Nat) (l:List Int):putRow (Value.int .i64) (Sort.ahead w n) b 0 l.toArray=putRow id (Sort.ahead w n) b 0 (l.map (Value.int .i64)).toArray:=by
 unfold putRow
 refine mapBlock_congr _ _ _ _ fun c _ _ _=>?_
 apply Array.ext_getElem?
 intro k
 simp only[putCells,Array.getElem?_mapIdx,List.size_toArray,List.length_map]
 cases c[k]? with
 | none=>rfl
 | some x=>
  simp only[Option.map_some]
  by_cases h:0<=k/\k < 0+l.length
  ·rw[if_pos h,if_pos h]
   congr 1
   rw[getElem!_pos _ (k - 0) (by simp;omega),getElem!_pos _ (k - 0) (by simp;omega)]
   simp
  rw[if_neg h,if_neg h]
theorem uT {w:World} {cU:Nat} {l:List Int} (h:∀j v,(l.map encI).flatten[j]?=some v->w.cell? ⟨cU,j,none⟩=some v/\w.frozen? ⟨cU,j,none⟩=false):Holds (Value.int .i64) w cU 0 l.toArray:=by
 intro j hj
 have Gq:j < l.length:=by simpa using hj
 rw[r8] at h
 obtain⟨h1,h2⟩:=h j (.int .i64 l[j]) (by rw[List.getElem?_map,List.getElem?_eq_getElem Gq];rfl)
 rw[Nat.zero_add,h1]
 refine⟨?_,h2⟩
 rw[getElem!_pos _ j hj]
 simp
def s9 (l:List Int):List Int:=l.mergeSort fun x y=>decide (x<=y)
theorem Fy (l:List Int) (hN:l.length < 4611686018427387904):aD C 78 [.row 3 (l.map fun n=>[i64 n])] (.tu []) [.row ((s9 l).map fun n=>[i64 n])]:=by
 have:=uQ hC (f:=78) 3 _ rfl (by decide) [] (l.map encI) ((s9 l).map encI) qF qF (by rw[List.length_map,List.length_map,s9,List.length_mergeSort])
  (fun r hr v hv=>by
   obtain⟨x,_,rfl⟩:=List.mem_map.1 hr
   simp only[encI,List.mem_singleton] at hv
   rw[hv];rfl)
  ⟨_,Tryz.func78,rfl,rfl⟩
  (fun _ w=>Tryz.slices_Sort_int_none none 0 w)
  (fun S w cU cap hE hblk _ hcell=>by
   have hc:=Tryz.slices_Sort_int cU 0 cap l w (uT hcell) hblk hN
   rw[List.length_map]
   refine hc.mono fun e' w' ⟨h1,n,os,h2⟩=>⟨h1,n,os,?_⟩
   rw[h2]
   unfold oX
   rw[r8,<-uS]
   rfl)
 rw[mM,mM] at this
 exact this
theorem yY (l:List Int) (hN:l.length<=9223372036854775807):aD C 79 [.row 3 (l.map fun n=>[i64 n])] (.own 3 ((compact l).map fun n=>[i64 n])) [.gone]:=by
 have iE:=compact_length_le l
 have:=CV hC (f:=79) 3 _ rfl (by decide) [] (l.map encI) ((compact l++List.replicate (l.length - (compact l).length) 0).map encI) (compact l).length (by rw[List.length_map];exact iE) qF qF (by simp;omega)
  (fun r hr v hv=>by
   obtain⟨x,_,rfl⟩:=List.mem_map.1 hr
   simp only[encI,List.mem_singleton] at hv
   rw[hv];rfl)
  ⟨_,Tryz.func79,rfl,rfl⟩
  (fun _ w=>Tryz.slices_Compact_int_empty none 0 w)
  (fun S w cU cap hE hblk Ce hcell=>by
   rw[List.length_map] at Ce
   have hc:=Tryz.slices_Compact_int cU 0 cap l w (uT hcell) hN Ce
   rw[List.length_map]
   refine hc.mono fun e' w' ⟨h1,n,h2⟩=>⟨h1,n,#[],?_⟩
   rw[h2]
   unfold oX
   rw[r8,<-uS,grow_empty])
 rw[<-List.map_take,mM,mM,List.take_left] at this
 exact this
theorem JV (l:List aB):∀r∈l.map rc,r.length=4:=by
 intro r hr
 obtain⟨x,_,rfl⟩:=List.mem_map.1 hr
 rfl
theorem AQ (l:List aB) (hN:l.length<=4398046511104):aD C 75 [.pv (aV l)] (.own 56 (l.map rc)) []:=by
 cases l with
 | nil=>
  refine aT hC Tryz.func75 rfl rfl 8 rfl (by decide) (by kernel_rfl) fun _ _ _ _ _=>?_
  refine yS<|yB Z<|yT<|au<|yS<|yP Z<|cD Z<|Ms Z Z ?_
  refine⟨?_,?_⟩
  ·refine yT<|az Z<|fy<|yS<|yB Z<|yT<|bP<|aX<|bQ zi ?_
   exact⟨Z,Y⟩
  (refine yT<|az Z<|cM<|aJ<|aj<|yS<|yn Z<|aA zI<|aS<|af<|yP Z<|yn Z<|bg zI ?_;refine And.intro ⟨by simp,by simp,by simp⟩ ?_)
  refine aS<|aF<|af<|cD Z<|cr Z Z Z Z Z<|yR zi ?_
  exact⟨Z,Z,Y⟩
 | cons a l=>
  have hr:=JV (a::l)
  have hl:=aN (a::l) rc
  refine aT hC Tryz.func75 rfl rfl 8 rfl (by decide) (by kernel_rfl) fun _ _ _ _ _=>?_
  ((refine yS<|yB Z<|yT<|au<|yS<|yP Z<|yP Z<|yT<|az Z<|cM<|aJ<|aj<|yS<|yn Z ?_;refine aA zI<|aS<|af<|yP Z<|yn Z<|bg zI ?_);refine And.intro ⟨hr,by simp at hN ⊢;omega,by simp at hN ⊢;omega⟩ ?_)
  refine aS<|aF<|af<|cD Z<|cr Z Z Z Z Z<|yR zi ?_
  exact⟨Z,Z,Y⟩
def lR (y:Int) (r:aB):Bool:=decide (r.y1<=y)
theorem Ef (r:aB) (ys:List Int) (k:Nat) (y:Int) (hy:ys[k]?=some y):aD C 81 [.pv (.ag (rc r)),.pv (.ip [ints ys]),.pv (.ip [i64 k])] (.p (bool (lR y r))) []:=by
 refine aT hC Tryz.func81 rfl rfl 12 rfl (by decide) (by kernel_rfl) fun _ _ _ _ _=>?_
 ((refine yS<|yn Z<|aA zI<|aS<|ak<|yA Z<|yT<|au<|cH [] false RE rfl (by kernel_rfl)<|cG Z<|yW Z<|yD Z<|yD Z<|yD Z ?_;refine dq Z<|aK zI ?_);refine⟨[i64 y],(idx rfl hy),?_⟩)
 ((refine bB<|ae<|yD Z<|yD Z<|yD Z<|cn<|aq Z<|aq Z<|aq Z<|aq Z<|aq Z<|aq Z<|aq Z<|dW Z Z ?_;refine fo Z<|aj<|bP<|bQ zi ?_);refine And.intro ?_ trivial)
 rfl
theorem AT (l:List aB) (hN:l.length<=140737488355328) (ys:List Int) (k:Nat) (y:Int) (hy:ys[k]?=some y):aD C 129 [.row 56 (l.map rc),.pv (.fn 81 [.ip [ints ys],.ip [i64 k]])] (.p (i64 (hY (lR y) l 0))) [.row (l.map rc)]:=by
 refine aT hC Tryz.func129 rfl rfl 19 rfl (by decide) (by kernel_rfl) fun _ _ _ _ _=>?_
 have lm:=aN l rc
 refine yS<|yA Z<|yT<|au<|yS<|yq Z<|aA zI<|bd<|af<|yP Z<|yP Z<|yT<|aZ ?_
 refine aI (fun i:Nat=>i<=l.length/\∀x∈l.take i,lR y x=false) (fun i=>[(0,.ow 100000),(1,.p (.fn 81 [.ip [ints ys],.ip [i64 k]])),(7,.p (i64 (l.map rc).length)),(8,.p (i64 i))]) (fun _=>[(100000,.row 56 (l.map rc))]) (fun i=>l.length - i) 0 _ (aW.refl _ _) ⟨Nat.zero_le _,by simp⟩ ⟨Z,Z,Z,Z,Y⟩ ⟨Z,Y⟩ fun i hi t h=>?_
 (refine yS<|yP Z<|yT<|au<|az Z ?_;refine aa (fun h1=>?_) (fun h1=>?_) <;> try simp only[zB] at h1)
 ·rw[lm] at h1
  obtain⟨x,hx⟩:=bh (l:=l) (i:=i) (by omega)
  ((refine aJ<|aj<|au<|aZ<|yS<|yP Z<|yA Z<|yU<|yP Z<|yq Z<|aA zI<|bd<|af<|yP Z ?_;refine yq Z<|bg zI ?_);refine And.intro ⟨by omega,by rw[lm];omega⟩ ?_)
  (refine bd<|bJ<|yq Z<|aK zI ?_;refine⟨(rc x),(idx rfl hx).2,?_⟩)
  (refine yk<|yn Z<|aK zI ?_;refine⟨_,_,(Ef x ys k y hy),?_⟩)
  (refine b9 Z Z<|ae<|yT<|az Z ?_;refine aa (fun h2=>?_) (fun h2=>?_) <;> try simp only[zB] at h2)
  ·refine yS<|yP Z<|yA Z<|yT<|bP<|bW<|aX<|aX<|bW<|aX<|bQ zi ?_
   exact⟨by rw[iJ hx h2 hi.2,Nat.zero_add],Z,Y⟩
  (refine aJ<|bp<|aj<|aM<|yq Z<|bg zI ?_;refine sI ?_)
  (refine yk<|yP Z<|yT<|ai ?_;refine⟨(i+1),_,aW.refl _ _,?_⟩)
  exact⟨⟨by omega,oM hx h2 hi.2⟩,by omega,⟨Z,Z,Z,Z,Y⟩,⟨Z,Y⟩⟩
 rw[lm] at h1
 refine bT<|aY<|aY<|bU<|aj<|yS<|yA Z<|yR zi ?_
 have h2:=hi.2
 rw[List.take_of_length_le (by omega)] at h2
 exact⟨by rw[fN h2];rfl,Z,Y⟩
theorem HT {α:Type} {p:α->Bool}:∀{l:List α},l.any p=true->∃i x,l[i]?=some x/\p x=true/\∀z∈l.take i,p z=false:=by
 intro l
 induction l with
 | nil=>intro h;cases h
 | cons y l ih=>
  intro h
  cases hy:p y with
  | true=>exact⟨0,y,rfl,hy,by simp⟩
  | false=>
   rw[List.any_cons,hy,Bool.false_or] at h
   obtain⟨i,x,h1,h2,h3⟩:=ih h
   refine⟨i+1,x,by simpa using h1,h2,fun z hz=>?_⟩
   rw[List.take_succ_cons,List.mem_cons] at hz
   rcases hz with rfl | hz
   ·exact hy
   exact h3 z hz
theorem HU {α:Type} {m:List α} {a:Nat} {x:α} (h:a < m.length):(m.set a x).take (a+1)=m.take a++[x]:=by
 apply List.ext_getElem?
 intro j
 rw[List.getElem?_take,List.getElem?_set]
 by_cases h1:j < a
 ·rw[if_pos (by omega),if_neg (by omega),List.getElem?_append_left (by rw[List.length_take];omega),List.getElem?_take,if_pos h1]
 by_cases h2:j=a
 ·subst h2
  rw[if_pos (by omega),if_pos rfl,if_pos h,List.getElem?_append_right (by rw[List.length_take];omega)]
  simp[Nat.min_eq_left (Nat.le_of_lt h)]
 rw[if_neg (by omega),List.getElem?_eq_none (by simp;omega)]
theorem filter_none {α:Type} {p:α->Bool} {l:List α} (h:∀x∈l,p x=false):l.filter (fun x=>!p x)=l:=List.filter_eq_self.2 fun x hx=>by simp[h x hx]
theorem n9 {α:Type} {p:α->Bool} {l:List α} {i:Nat} {x:α} (hx:l[i]?=some x):(l.take (i+1)).filter p=(l.take i).filter p++if p x then [x] else []:=by
 rw[cw hx,List.filter_append]
 congr 1
 cases h:p x <;> simp[List.filter,h]
theorem yZ (l:List aB) (hN:l.length<=4398046511104) (ys:List Int) (k:Nat) (y:Int) (hy:ys[k]?=some y):aD C 80 [.row 56 (l.map rc),.pv (.fn 81 [.ip [ints ys],.ip [i64 k]])] (.own 56 ((l.filter fun r=>!lR y r).map rc)) [.gone]:=by
 refine aT hC Tryz.func80 rfl rfl 42 rfl (by decide) (by kernel_rfl) fun _ _ _ _ _=>?_
 have lm:=aN l rc
 (refine yS<|yB Z<|yU<|yq Z<|aA zI<|bd<|af<|yP Z<|yn Z<|aK zI ?_;refine⟨_,_,(AT l (by omega) ys k y hy),?_⟩)
 by_cases OB:l.any (lR y)=true
 ·obtain⟨i0,x0,RT,PQ,Tc⟩:∃i x,l[i]?=some x/\lR y x=true/\∀z∈l.take i,lR y z=false:=HT OB
  rw[iJ RT PQ Tc,Nat.zero_add]
  have Nh:=(List.getElem?_eq_some_iff.1 RT).1
  ((refine b9 Z Z<|aF<|ae<|yA Z<|yT<|au<|yS<|yP Z<|yP Z<|yT<|az Z<|cM<|aJ<|aj ?_;refine au<|yS<|yP Z<|yq Z<|bg zI ?_);refine sI ?_)
  refine yk<|yA Z<|yT<|aZ ?_
  refine aI (fun p:Nat×Nat×List aB=>p.1 < p.2.1/\p.2.1<=l.length/\p.2.2.length=l.length/\p.2.2.take p.1=(l.take p.2.1).filter (fun r=>!lR y r)/\p.2.2.drop p.2.1=l.drop p.2.1) (fun p=>[(0,.ow 100000),(1,.p (.fn 81 [.ip [ints ys],.ip [i64 k]])),(5,.p (i64 p.1)),(6,.p (i64 p.2.1))]) (fun p=>[(100000,.row 56 (p.2.2.map rc))]) (fun p=>l.length - p.2.1) (i0,i0+1,l) _ (aW.refl _ _) ⟨by simp,by simp only;omega,rfl,?_,rfl⟩ ⟨rfl,rfl,rfl,cd (by simp only;omega),trivial⟩ ⟨Z,Y⟩ fun ⟨a,b,m⟩ hi t h=>?_
  ·simp only
   rw[n9 RT,filter_none Tc]
   simp[PQ]
  simp only at hi
  obtain⟨q1,q2,q3,q4,q5⟩:=hi
  have mm:=aN m rc
  (refine au<|yS<|yP Z<|yq Z<|aA zI<|bd<|af<|yP Z<|yP Z<|yT<|az Z ?_;refine aa (fun h2=>?_) (fun h2=>?_) <;> try simp only[zB] at h2)
  ·rw[mm,q3] at h2
   obtain⟨x,hx⟩:=bh (l:=l) (i:=b) (by omega)
   have UJ:m[b]?=some x:=by
    have:(m.drop b)[0]?=(l.drop b)[0]?:=by rw[q5]
    simpa [hx] using this
   (refine aJ<|aj<|au<|aZ<|yS<|yq Z<|aA zI<|bd<|af<|yP Z<|yq Z<|bg zI ?_;refine And.intro ⟨by simp only;omega,by simp only;rw[mm];omega⟩ ?_)
   (refine bd<|bJ<|yq Z<|aK zI ?_;refine⟨(rc x),(idx rfl UJ).2,?_⟩)
   ((refine yk<|yn Z<|aA zI<|aS<|ak<|yq Z<|aA zI<|bd<|aF<|an<|yU<|yP Z<|yP Z<|yn Z ?_;refine aK zI ?_);refine⟨_,_,(Ef x ys k y hy),?_⟩)
   (refine b9 Z Z<|ae<|yP Z<|yT<|az Z ?_;refine aa (fun h3=>?_) (fun h3=>?_) <;> try simp only[zB] at h3)
   ·obtain⟨z,hz⟩:=bh (l:=m) (i:=a) (by omega)
    (refine yS<|yq Z<|aA zI<|bd<|af<|yP Z<|yP Z<|yq Z<|bg zI ?_;refine And.intro ⟨by simp only;omega,by simp only;rw[mm];omega⟩ ?_)
    (refine bd<|bJ<|yq Z<|aK zI ?_;refine⟨(rc z),(idx rfl hz).2,?_⟩)
    (refine bd<|aF<|an<|yT<|aM<|yP Z<|yq Z<|bg zI ?_;refine And.intro ⟨by simp only;omega,by simp only;omega⟩ ?_)
    (refine yk<|yA Z<|cL<|bp<|aj<|aM<|yP Z<|yq Z<|bg zI ?_;refine And.intro ⟨by simp only;omega,by simp only;omega⟩ ?_)
    (refine yk<|yA Z<|yT<|ai ?_;refine⟨(a+1,b+1,m.set a x),_,aW.refl _ _,?_⟩)
    refine⟨⟨by simp only;omega,by simp only;omega,by simp only;rw[List.length_set];exact q3,?_,?_⟩,by simp only;omega,⟨rfl,rfl,cd (by simp only;omega),cd (by simp only;omega),trivial⟩,⟨?_,trivial⟩⟩
    ·simp only
     rw[HU (by omega),q4,n9 hx,h3]
     rfl
    ·simp only
     rw[List.drop_set_of_lt (by omega)]
     have:=congrArg (List.drop 1) q5
     simpa [List.drop_drop] using this
    show AB.row _ ((m.map rc).set a (rc x))=AB.row _ ((m.set a x).map rc)
    rw[List.map_set]
   (refine aJ<|bp<|aj<|aM<|yP Z<|yq Z<|bg zI ?_;refine And.intro ⟨by simp only;omega,by simp only;omega⟩ ?_)
   (refine yk<|yA Z<|yT<|ai ?_;refine⟨(a,b+1,m),_,aW.refl _ _,?_⟩)
   refine⟨⟨by simp only;omega,by simp only;omega,q3,?_,?_⟩,by simp only;omega,⟨rfl,rfl,rfl,cd (by simp only;omega),trivial⟩,⟨Z,Y⟩⟩
   ·simp only
    rw[q4,n9 hx,h3]
    simp
   have:=congrArg (List.drop 1) q5
   simpa [List.drop_drop] using this
  rw[mm,q3] at h2
  refine bT<|aY<|aY<|bU<|aj<|yS<|yq Z<|aA zI<|bd<|af<|yP Z<|yq Z<|Rt zI ?_
  refine Or.inl ?_
  (refine zA zi ?_;refine And.intro ⟨by simp only;omega,by simp only;rw[mm];omega,by simp only;omega⟩ ?_)
  (refine bd<|uJ<|yq Z<|bg zI ?_;refine And.intro ⟨by simp only[Int.toNat_natCast];omega,by simp only[Int.toNat_natCast];omega⟩ ?_)
  refine bd<|aF<|an<|yU<|yq Z<|aA zI<|bd<|af<|yP Z<|yq Z<|Rt zI ?_
  refine Or.inl ?_
  have OC:((((m.map rc).take a++List.replicate ((m.map rc).length - a) [i64 0,i64 0,i64 0,i64 0]++(m.map rc).drop (m.map rc).length).length:Nat):Int)=m.length:=by simp;omega
  (refine zA zi ?_;refine And.intro ⟨by omega,by simp only;omega,by simp only[Int.toNat_natCast];exact Int.le_trans (show (a:Int)<=m.length by omega) (Int.le_of_eq OC.symm)⟩ ?_)
  refine bd (uJ (cD Z (jW Z Z Z (nX Z) (uJ (yR zi ?_)))))
  refine⟨?_,Z,Y⟩
  simp only[Int.toNat_natCast]
  rw[List.append_assoc,List.take_append_of_le_length (by rw[List.length_take,mm];omega),List.take_take,Nat.min_self,<-List.map_take,q4,List.take_of_length_le (by omega)]
 have Jp:∀x∈l,lR y x=false:=fun x hx=>by
  cases h:lR y x with
  | false=>rfl
  | true=>exact absurd (List.any_eq_true.2 ⟨x,hx,h⟩) OB
 rw[fN Jp]
 (refine b9 Z Z<|aF<|ae<|yA Z<|yT<|au<|yS<|yP Z<|yP Z<|yT<|az Z<|fy<|yS<|yq Z ?_;refine aA zI<|bd<|af<|cD Z<|cr Z Z Z Z Z<|yT<|bP<|aX<|bQ zi ?_)
 rw[filter_none Jp]
 exact⟨Z,Z,Y⟩
theorem y7 (a b:Int):∀(s:bC),(s=[]->flat (Reg.dA s a b)=[a,b])/\(∀n,s.length=n+1->∃p,(flat s)[2*n+1]?=some p/\flat (Reg.dA s a b)=if a<=p then (flat s).set (2*n+1) (max p b) else flat s++[a,b]):=by
 intro s
 induction s with
 | nil=>exact⟨fun _=>rfl,fun n h=>by simp at h⟩
 | cons p s ih=>
  refine⟨fun h=>by simp at h,fun n hn=>?_⟩
  cases s with
  | nil=>
   have:n=0:=by simpa using hn.symm
   subst this
   refine⟨p.2,rfl,?_⟩
   rw[Reg.dA]
   split <;> rfl
  | cons q s=>
   cases n with
   | zero=>simp at hn
   | succ n=>
    obtain⟨z,h1,h2⟩:=ih.2 n (by simpa using hn)
    refine⟨z,?_,?_⟩
    ·rw[show 2*(n+1)+1=(2*n+1)+1+1 by omega]
     simpa [flat] using h1
    rw[Reg.dA,flat,h2,show 2*(n+1)+1=(2*n+1)+1+1 by omega]
    split
    ·simp[flat]
    simp[flat]
theorem uU (a b:Int):∀(s:bC),(Reg.dA s a b).length<=s.length+1:=by
 intro s
 induction s with
 | nil=>simp[Reg.dA]
 | cons p s ih=>
  cases s with
  | nil=>rw[Reg.dA];split <;> simp
  | cons q s=>rw[Reg.dA];simp only[List.length_cons] at ih ⊢;omega
theorem uV (l:List aB):(Reg.da l).length<=l.length:=by
 suffices H:∀n (m:List aB),m.length=n->(Reg.da m).length<=m.length from H _ l rfl
 intro n
 induction n with
 | zero=>
  intro m hm
  have:m=[]:=List.eq_nil_of_length_eq_zero hm
  subst this
  simp[Reg.da]
 | succ n ih=>
  intro m hm
  obtain⟨d,r,rfl⟩:∃d r,m=d++[r]:=by
   cases h:m.reverse with
   | nil=>simp at h;subst h;simp at hm
   | cons r d=>exact⟨d.reverse,r,by rw[<-List.reverse_reverse m,h];simp⟩
  rw[Reg.mG]
  have h1:=uU r.x0 r.x1 (Reg.da d)
  have h2:=ih d (by simp at hm;exact hm)
  simp only[List.length_append,List.length_singleton]
  omega
theorem tA (l:List aB) (hl:∀r∈l,Bd r) (hN:l.length<=4398046511104):aD C 83 [.row 56 (l.map rc)] (.p (ints (flat (Reg.da (eN CX l))))) [.row ((eN CX l).map rc)]:=by
 refine aT hC Tryz.func83 rfl rfl 48 rfl (by decide) (by kernel_rfl) fun _ _ _ _ _=>?_
 obtain⟨hp,_⟩:=s8 hl
 have qi:=hp.length_eq
 (refine yS<|yB Z<|yU<|yq Z<|aA zI<|bd<|af<|yn Z<|aK zI ?_;refine⟨_,_,(MA l hl (by omega)),?_⟩)
 generalize eN CX l=L at hp qi ⊢
 have lm:=aN L rc
 (refine b9 Z Z<|aF<|bq<|yU<|yB Z<|yT<|au<|yS<|yq Z<|aA zI<|bd<|af<|yP Z<|yP Z ?_;refine yT<|aZ ?_)
 refine aI (fun i:Nat=>i<=L.length) (fun i=>[(0,.ow 100000),(9,.ow 100000),(10,.p (i64 (L.map rc).length)),(11,.p (i64 i)),(3,.ow 3)]) (fun i=>[(100000,.row 56 (L.map rc)),(3,.row 3 ((flat (Reg.da (L.take i))).map fun n=>[i64 n]))]) (fun i=>L.length - i) 0 _ (aW.fa hC _ 3 3 _ (by decide) rfl rfl (by decide)) (Nat.zero_le _) ⟨Z,Z,Z,Z,Z,Y⟩ ⟨Z,Z,Y⟩ fun i hi t h=>?_
 have sl:=uV (L.take i)
 have fl:=eG (Reg.da (L.take i))
 have sm:=aN (flat (Reg.da (L.take i))) fun n=>[i64 n]
 rw[List.length_take] at sl
 (refine yS<|yP Z<|yT<|au<|az Z ?_;refine aa (fun h1=>?_) (fun h1=>?_) <;> try simp only[zB] at h1)
 ·rw[lm] at h1
  obtain⟨r,hr⟩:=bh (l:=L) (i:=i) (by omega)
  have zL:Reg.da (L.take (i+1))=Reg.dA (Reg.da (L.take i)) r.x0 r.x1:=by rw[cw hr,Reg.mG]
  obtain⟨a1,a2⟩:=y7 r.x0 r.x1 (Reg.da (L.take i))
  rw[<-zL] at a1 a2
  generalize Reg.da (L.take i)=s at *
  (refine aJ<|aj<|au<|aZ<|yS<|yq Z<|bg zI ?_;refine And.intro ⟨by omega,by rw[lm];omega⟩ ?_)
  (refine bd<|bJ<|yq Z<|aK zI ?_;refine⟨(rc r),(idx rfl hr).2,?_⟩)
  ((refine yk<|yn Z<|aA zI<|aS<|ak<|yq Z<|aA zI<|bd<|aF<|an<|yU<|yq Z<|aA zI<|bd ?_;refine af<|yP Z<|yq Z<|bg zI ?_);refine And.intro ⟨by rw[sm];omega,by rw[sm];omega⟩ ?_)
  (refine yk<|yA Z<|yT<|au<|cH [] false yy rfl (by kernel_rfl)<|cG Z<|yD Z<|yD Z<|yD Z<|dg Z ?_;refine aa (fun h2=>?_) (fun h2=>?_) <;> try simp only[zB] at h2)
  ·rw[sm,fl] at h2
   obtain⟨n,hn⟩:∃n,s.length=n+1:=⟨s.length - 1,by omega⟩
   obtain⟨p,RU,Gb⟩:=a2 n hn
   have hk:(((flat s).map fun n=>[i64 n]).length:Int) - 1=((2*n+1:Nat):Int):=by rw[sm,fl];omega
   ((refine bS<|c_ Z<|aA zI<|bB<|ak<|d1 Z<|d2 Z<|c_ Z<|aA zI<|bB<|af<|d1 Z<|d2 Z<|c_ Z ?_;refine bg zI ?_);refine And.intro ⟨by rw[hk];omega,by rw[hk,sm,fl];omega⟩ ?_)
   (refine bB<|bJ<|d2 Z<|c_ Z<|aK zI ?_;refine⟨[i64 p],(idx hk RU).2,?_⟩)
   (refine bB<|ae<|d1 Z<|yD Z<|cn<|fo Z<|aj<|az Z ?_;refine aa (fun h3=>?_) (fun h3=>?_) <;> try simp only[zB] at h3)
   ·rw[if_pos h3] at Gb
    (refine cH [] false yy rfl (by kernel_rfl)<|cG Z<|dq Z<|aA zI<|bB<|af<|yD Z<|dq Z<|aA zI<|bB<|af<|yD Z<|dq Z<|bg zI ?_;refine And.intro ⟨by rw[hk];omega,by rw[hk,sm,fl];omega⟩ ?_)
    (refine bB<|bJ<|dq Z<|aK zI ?_;refine⟨[i64 p],(idx hk RU).2,?_⟩)
    (refine bB<|ae<|yW Z<|yD Z<|yD Z<|dq Z<|bg zI ?_;refine And.intro ⟨by rw[hk];omega,by rw[hk,sm,fl];omega⟩ ?_)
    (refine bB<|bJ<|dq Z<|aK zI ?_;refine⟨[i64 p],(idx hk RU).2,?_⟩)
    (refine iG Z<|aF<|an<|cn<|fo Z<|bp<|aj<|aM<|yq Z<|bg zI ?_;refine sI ?_)
    (refine yk<|yP Z<|yT<|ai ?_;refine⟨(i+1),_,aW.refl _ _,?_⟩)
    refine⟨by omega,by omega,⟨Z,Z,Z,Z,Z,Y⟩,⟨rfl,?_,trivial⟩⟩
    have lH:∀k:Nat,k=2*n+1->AB.row 3 (((flat s).map fun n=>[i64 n]).set k [i64 (max p r.x1)])=AB.row 3 ((flat (Reg.da (L.take (i+1)))).map fun n=>[i64 n]):=by
     intro k e
     subst e
     rw[Gb,List.map_set]
    exact lH _ (by rw[hk];rfl)
   rw[if_neg h3] at Gb
   ((refine aM<|yq Z<|aA zI<|bd<|af<|yV Z<|yP Z<|yV Z<|yP Z<|yn Z<|aA zI<|aS<|af<|yn Z ?_;refine bg zI ?_);refine And.intro ⟨by simp,by simp;omega,by simp;omega⟩ ?_)
   (refine aS<|aF<|af<|cD Z<|cr Z Z Z Z Z<|cL<|bp<|aj<|aM<|yq Z<|bg zI ?_;refine sI ?_)
   (refine yk<|yP Z<|yT<|ai ?_;refine⟨(i+1),_,aW.refl _ _,?_⟩)
   refine⟨by omega,by omega,⟨Z,Z,Z,Z,Z,Y⟩,⟨rfl,?_,trivial⟩⟩
   rw[Gb,List.map_append]
   rfl
  rw[sm,fl] at h2
  have hs:s=[]:=List.eq_nil_of_length_eq_zero (by omega)
  have Gb:=a1 hs
  ((refine cB<|ae<|d0 Z<|d0 Z<|d0 Z<|d0 Z<|d0 Z<|d0 Z<|yD Z<|cn<|fo Z<|aj<|az Z<|cM ?_;refine aM<|yq Z<|aA zI<|bd<|af<|yV Z<|yP Z<|yV Z<|yP Z<|yn Z<|aA zI<|aS<|af<|yn Z ?_;refine bg zI ?_);refine And.intro ⟨by simp,by simp;omega,by simp;omega⟩ ?_)
  (refine aS<|aF<|af<|cD Z<|cr Z Z Z Z Z<|cL<|bp<|aj<|aM<|yq Z<|bg zI ?_;refine sI ?_)
  (refine yk<|yP Z<|yT<|ai ?_;refine⟨(i+1),_,aW.refl _ _,?_⟩)
  refine⟨by omega,by omega,⟨Z,Z,Z,Z,Z,Y⟩,⟨rfl,?_,trivial⟩⟩
  rw[Gb,hs]
  rfl
 rw[lm] at h1
 refine bT<|aY<|aY<|bU<|aj<|yS<|yq Z<|aA zI<|bd<|af<|cD Z<|cr Z Z Z Z Z<|yR zi ?_
 rw[List.take_of_length_le (by omega)]
 exact⟨Z,Z,Y⟩
def ends (l:List aB):List Int:=l.flatMap fun r=>[r.y0,r.y1]
theorem Fz {l:List aB} {i:Nat} {r:aB} (h:l[i]?=some r):ends (l.take (i+1))=ends (l.take i)++[r.y0,r.y1]:=by
 rw[cw h]
 simp[ends]
theorem HV (l:List aB) (y:Int):y∈ends l↔∃r∈l,y=r.y0\/y=r.y1:=by
 simp[ends]
theorem AU (l:List aB):(ends l).length=2*l.length:=by
 induction l with
 | nil=>rfl
 | cons r l ih=>simp only[ends,List.flatMap_cons,List.length_append,List.length_cons,List.length_nil] at ih ⊢;omega
theorem CY {l m:List aB} (hm:∀r,r∈m↔r∈l):compact (s9 (ends m))=Reg.b_ l:=by
 have hs:(s9 (ends m)).Pairwise (·<=·):=by
  have:=List.pairwise_mergeSort (le:=fun x y:Int=>decide (x<=y)) (fun a b c h1 h2=>by simp at *;omega) (fun a b=>by simp;omega) (ends m)
  exact this.imp fun h=>by simpa using h
 obtain⟨h1,h2⟩:=wE hs
 obtain⟨h3,h4⟩:=Reg.fv l
 refine Reg.wz _ _ h1 h3 fun x=>?_
 rw[h2,h4,s9,(List.mergeSort_perm _ _).mem_iff,HV]
 constructor
 ·rintro⟨r,hr,h⟩;exact⟨r,(hm r).1 hr,h⟩
 rintro⟨r,hr,h⟩;exact⟨r,(hm r).2 hr,h⟩
theorem FA {ys:List Int} (hR:Reg.cT ys) {k:Nat} {y q:Int} (hy:ys[k]?=some y) (hq:q∈ys) (h1:q<=y) (h2:∀j z,j+1=k->ys[j]?=some z->z < q):q=y:=by
 obtain⟨i,hi⟩:=List.mem_iff_getElem?.1 hq
 rcases Nat.lt_trichotomy i k with h | h | h
 ·obtain⟨z,hz⟩:=bh (l:=ys) (i:=k - 1) (by have:=(List.getElem?_eq_some_iff.1 hy).1;omega)
  have:=h2 (k - 1) z (by omega) hz
  have:=uL hR hi hz (by omega)
  omega
 ·subst h
  rw[hi] at hy
  injection hy
 have:=uL hR hy hi (by omega)
 omega
structure Eg (L:List aB) (ys:List Int) (k:Nat) (nw:List aB) (next:Nat):Prop where
 le:next<=L.length
 len:nw.length<=next
 mem:∀r,r∈nw↔r∈L.take next/\∀j y,j+1=k->ys[j]?=some y->y < r.y1
 below:∀r∈L.take next,∀j y,j+1=k->ys[j]?=some y->r.y0<=y
 fZ:∀r∈L.drop next,∀j y,j+1=k->ys[j]?=some y->y < r.y0
 zero:k=0->next=0
structure I4 (L:List aB) (y:Int) (nw:List aB) (next:Nat):Prop where
 le:next<=L.length
 len:nw.length<=next
 mem:∀r,r∈nw↔r∈L.take next/\y < r.y1
 below:∀r∈L.take next,r.y0<=y
theorem Eg.UK {L:List aB} {ys:List Int} {k:Nat} {nw:List aB} {next:Nat} (h:Eg L ys k nw next) (hR:Reg.cT ys) {y:Int} (hy:ys[k]?=some y):I4 L y (nw.filter fun r=>!lR y r) next:=by
 have prev:k≠0->∃z,ys[k - 1]?=some z/\z < y:=fun hk=>by
  have JM:=(List.getElem?_eq_some_iff.1 hy).1
  obtain⟨z,hz⟩:=bh (l:=ys) (i:=k - 1) (by omega)
  have a1:=List.getElem?_eq_some_iff.1 hz
  have a2:=List.getElem?_eq_some_iff.1 hy
  obtain⟨b1,b2⟩:=a1
  obtain⟨c1,c2⟩:=a2
  have:=(List.pairwise_iff_getElem.1 hR) (k - 1) k b1 c1 (by omega)
  exact⟨z,hz,by omega⟩
 refine⟨h.le,Nat.le_trans (List.length_filter_le _ _) h.len,fun r=>?_,fun r hr=>?_⟩
 ·rw[List.mem_filter,h.mem]
  simp only[lR,Bool.not_eq_true',decide_eq_false_iff_not]
  constructor
  ·rintro⟨⟨h1,_⟩,h2⟩;exact⟨h1,by omega⟩
  rintro⟨h1,h2⟩
  refine⟨⟨h1,fun j z hj hz=>?_⟩,by omega⟩
  obtain⟨z',OD,eL⟩:=prev (by omega)
  rw[show k - 1=j by omega,hz] at OD
  injection OD with OD
  omega
 by_cases hk:k=0
 ·rw[h.zero hk] at hr;simp at hr
 obtain⟨z,hz,eL⟩:=prev hk
 have:=h.below r hr (k - 1) z (by omega) hz
 omega
theorem I4.next {L:List aB} {y:Int} {nw:List aB} {next:Nat} (h:I4 L y nw next) {r:aB} (hr:L[next]?=some r) (h0:r.y0<=y) (h1:y < r.y1):I4 L y (nw++[r]) (next+1):=by
 have eL:=(List.getElem?_eq_some_iff.1 hr).1
 refine⟨by omega,by have:=h.len;simp;omega,fun q=>?_,fun q hq=>?_⟩
 ·rw[cw hr,List.mem_append,List.mem_append,List.mem_singleton,h.mem]
  constructor
  ·rintro (⟨a,b⟩ | rfl)
   ·exact⟨.inl a,b⟩
   exact⟨.inr rfl,h1⟩
  rintro⟨a | rfl,b⟩
  ·exact .inl ⟨a,b⟩
  exact .inr rfl
 rw[cw hr,List.mem_append,List.mem_singleton] at hq
 rcases hq with hq | rfl
 ·exact h.below q hq
 exact h0
theorem I4.row {L l:List aB} {y:Int} {nw:List aB} {next:Nat} (h:I4 L y nw next) (hm:∀r,r∈L↔r∈l) (HW:∀r∈L.drop next,y < r.y0):∀r,r∈nw↔r∈l/\r.y0<=y/\y < r.y1:=by
 intro r
 rw[h.mem,<-hm]
 constructor
 ·rintro⟨a,b⟩;exact⟨List.mem_of_mem_take a,h.below r a,b⟩
 rintro⟨a,b,c⟩
 refine⟨?_,c⟩
 rw[<-List.take_append_drop next L,List.mem_append] at a
 rcases a with a | a
 ·exact a
 have:=HW r a;omega
theorem I4.OE {L:List aB} {ys:List Int} {k:Nat} {nw m:List aB} {next:Nat} {y:Int} (h:I4 L y nw next) (hy:ys[k]?=some y) (hp:m.Perm nw) (HW:∀r∈L.drop next,y < r.y0):Eg L ys (k+1) m next:=by
 have one:∀j z,j+1=k+1->ys[j]?=some z->z=y:=fun j z hj hz=>by
  rw[show j=k by omega,hy] at hz;injection hz with hz;exact hz.symm
 refine⟨h.le,by rw[hp.length_eq];exact h.len,fun r=>?_,fun r hr j z hj hz=>?_,fun r hr j z hj hz=>?_,fun h=>by omega⟩
 ·rw[hp.mem_iff,h.mem]
  constructor
  ·rintro⟨a,b⟩;exact⟨a,fun j z hj hz=>by rw[one j z hj hz];exact b⟩
  rintro⟨a,b⟩;exact⟨a,b k y rfl hy⟩
 ·rw[one j z hj hz];exact h.below r hr
 rw[one j z hj hz];exact HW r hr
theorem CZ {L:List aB} (hs:L.Pairwise fun a b=>a.y0<=b.y0) {i:Nat} {r:aB} (hr:L[i]?=some r) {y:Int} (h:y < r.y0):∀q∈L.drop i,y < q.y0:=by
 intro q hq
 obtain⟨hi,he⟩:=List.getElem?_eq_some_iff.1 hr
 rw[List.drop_eq_getElem_cons hi,he,List.mem_cons] at hq
 rcases hq with rfl | hq
 ·exact h
 obtain⟨j,hj,rfl⟩:=List.getElem_of_mem hq
 rw[List.getElem_drop]
 have:=List.pairwise_iff_getElem.1 hs i (i+1+j) hi (by rw[List.length_drop] at hj;omega) (by omega)
 rw[he] at this
 omega
def Good (r:aB):Prop:=Bd r/\r.x0 < r.x1/\r.y0 < r.y1
theorem AW (l:List aB) (ys:List Int) {N:Nat} (h:∀y,(Reg.rowOf l y).length<=N):∀k,∀t∈Reg.dp l ys k,t.xs.length<=N:=by
 intro k
 induction k with
 | zero=>simp[Reg.dp]
 | succ k ih=>rw[Reg.dp];exact AG _ _ _ ih (h _)
theorem qG (l:List aB) (hl:∀r∈l,Good r) (hN:l.length<=4398046511104) (hH:(Reg.b_ l).length<=1000000000000) (hX:∀y,(Reg.rowOf l y).length<=1000000000000):aD C 32 [.pv (aV l)] (.own 145 ((Reg.a_ l).map hb)) []:=by
 refine aT hC Tryz.func32 rfl rfl 83 rfl (by decide) (by kernel_rfl) fun _ _ _ _ _=>?_
 have MB:∀r∈l,Bd r:=fun r hr=>(hl r hr).1
 obtain⟨hp,K_⟩:=AO MB
 have qi:=hp.length_eq
 (refine yS<|yB Z<|yU<|yP Z<|yn Z<|aK zI ?_;refine⟨_,_,(AQ l (by omega)),?_⟩)
 (refine aS<|af<|cD Z<|cr Z Z Z Z Z<|yU<|yq Z<|aA zI<|bd<|af<|yn Z<|aK zI ?_;refine⟨_,_,(Mz l MB (by omega)),?_⟩)
 generalize eN HP l=L at hp K_ qi
 have lm:=aN L rc
 (refine b9 Z Z<|aF<|bq<|yU<|yn Z<|aA zI<|aS<|ak<|yT<|au<|yS<|yq Z<|aA zI<|bd ?_;refine af<|yP Z<|yP Z<|yT<|aZ ?_)
 refine aI (fun i:Nat=>i<=L.length) (fun i=>[(0,.ow 0),(14,.ow 0),(15,.p (i64 (L.map rc).length)),(16,.p (i64 i)),(3,.bx 3 0)]) (fun i=>[(0,.row 56 (L.map rc)),(3,.box [.ow 90000]),(90000,.row 3 ((ends (L.take i)).map fun n=>[i64 n]))]) (fun i=>L.length - i) 0 _ (aW.gY hC _ 3 0 90000 3 _ _ (by decide) (by decide) rfl rfl rfl (by decide)) (Nat.zero_le _) ⟨Z,Z,Z,Z,Z,Y⟩ ⟨Z,Z,Z,Y⟩ fun i hi t h=>?_
 have el:=AU (L.take i)
 have em:=aN (ends (L.take i)) fun n=>[i64 n]
 rw[List.length_take] at el
 (refine yS<|yP Z<|yT<|au<|az Z ?_;refine aa (fun h1=>?_) (fun h1=>?_) <;> try simp only[zB] at h1)
 ·rw[lm] at h1
  obtain⟨r,hr⟩:=bh (l:=L) (i:=i) (by omega)
  (refine aJ<|aj<|au<|aZ<|yS<|yq Z<|bg zI ?_;refine And.intro ⟨by omega,by rw[lm];omega⟩ ?_)
  (refine bd<|bJ<|yq Z<|aK zI ?_;refine⟨(rc r),(idx rfl hr).2,?_⟩)
  ((refine yk<|yn Z<|aA zI<|aS<|ak<|yq Z<|aA zI<|bd<|aF<|an<|yT<|aM<|yq Z<|aA zI ?_;refine bd<|af<|yV Z<|yP Z<|yV Z<|yP Z<|yn Z<|aA zI<|aS<|af<|yn Z<|bg zI ?_);refine And.intro ⟨by simp,by simp;omega,by simp;omega⟩ ?_)
  (refine aS<|aF<|af<|yq Z<|aA zI<|bd<|aF<|an<|cL<|bp<|aj<|aM<|yq Z<|bg zI ?_;refine sI ?_)
  refine yk<|yP Z<|yT<|ai ?_
  refine⟨i+1,_,aW.E9 _ 26 90000 (by decide) (by decide),by omega,by omega,⟨Z,Z,Z,Z,Z,Y⟩,⟨rfl,rfl,?_,trivial⟩⟩
  show AB.row _ _=AB.row _ _
  rw[Fz hr,List.map_append]
  rfl
 rw[lm] at h1
 rw[List.take_of_length_le (show L.length<=i by omega)] at *
 (refine bT<|aY<|aY<|bU<|aj<|yS<|yV Z<|yn Z<|aK zI ?_;refine⟨_,_,(Fy (ends L) (by omega)),?_⟩)
 (refine b9 Z Z<|aF<|bq<|yU<|yq Z<|aA zI<|bd<|af<|yn Z<|aK zI ?_;refine⟨_,_,(yY (s9 (ends L)) (by rw[s9,List.length_mergeSort];omega)),?_⟩)
 have FB:∀r,r∈L↔r∈l:=fun r=>hp.mem_iff
 rw[CY FB]
 have hR:=uN l
 have hL:=jZ l
 have Td:=aN (Reg.b_ l) fun n=>[i64 n]
 have K9:∀r∈L,r.y0∈Reg.b_ l:=fun r hr=>((Reg.fv l).2 _).2 ⟨r,(FB r).1 hr,.inl rfl⟩
 have UL:=nY l (Reg.b_ l)
 have UM:=AW l (Reg.b_ l) hX
 have MC:Reg.a_ l=Reg.dp l (Reg.b_ l) ((Reg.b_ l).length - 1):=rfl
 generalize Reg.b_ l=ys at *
 (refine aS<|aF<|af<|yq Z<|aA zI<|bd<|aF<|an<|yU<|yB Z<|yU<|yB Z<|yU<|yA Z ?_;refine yT<|au<|yS<|yn Z<|aA zI<|aS<|ak<|yq Z<|aA zI<|bd<|aF<|an<|yT<|aZ ?_)
 refine aI (fun x:Nat×List aB×Nat=>x.1<=ys.length - 1/\Eg L ys x.1 x.2.1 x.2.2) (fun x=>[(0,.ow 0),(3,.p (.ip [ints ys])),(6,.ow 6),(7,.ow 7),(8,.p (i64 x.2.2)),(9,.bx 9 0)]) (fun x=>[(0,.row 56 (L.map rc)),(6,.row 145 ((Reg.dp l ys x.1).map hb)),(7,.row 56 (x.2.1.map rc)),(9,.box [.p (i64 x.1)])]) (fun x=>ys.length - x.1) (0,[],0) _
  (aW.trans (aW.fa hC _ 6 145 _ (by decide) rfl rfl (by decide)) (aW.trans (aW.fa hC _ 7 56 _ (by decide) rfl rfl (by decide)) (aW.trans (aW.gZ hC _ 3 0 31 3 _ _ (by decide) rfl rfl rfl) (aW.gC hC _ 3 (y:=.ip [ints ys]) (fz:=[(3,.iP [ints ys])]) ⟨rfl,rfl⟩))))
  ⟨Nat.zero_le _,⟨Nat.zero_le _,Nat.le_refl _,by simp,by simp,fun r _ j y h=>by omega,fun _=>rfl⟩⟩ ⟨Z,Z,Z,Z,Z,Z,Y⟩ ⟨Z,Z,Z,Z,Y⟩ fun ⟨k,nw,next⟩ hi t h=>?_
 obtain⟨hk,OF⟩:=hi
 simp only at hk OF
 (refine au<|yS<|yP Z<|yq Z<|bg zI ?_;refine And.intro ⟨by simp only;omega,by simp only;omega⟩ ?_)
 (refine yk<|yP Z<|yP Z<|yP Z<|yT<|az Z ?_;refine aa (fun h2=>?_) (fun h2=>?_) <;> try simp only[zB] at h2)
 ·rw[Td] at h2
  obtain⟨y,hy⟩:=bh (l:=ys) (i:=k) (by omega)
  obtain⟨y',lC⟩:=bh (l:=ys) (i:=k+1) (by omega)
  have RV:=OF.UK hR hy
  (refine aJ<|aj<|au<|aZ<|yS<|yq Z<|aA zI<|bd<|af<|yV Z<|yn Z<|aK zI ?_;refine⟨_,_,(yZ nw (by have:=OF.len;have:=OF.le;omega) ys k y hy),?_⟩)
  refine aS<|aF<|aF<|af<|cD Z<|cr Z Z Z Z Z<|yT<|au<|aZ ?_
  refine nj (fun p:List aB×Nat=>I4 L y p.1 p.2/\∀r∈L.drop p.2,y < r.y0) (fun p=>[(0,.ow 0),(3,.p (.ip [ints ys])),(6,.ow 6),(7,.ow 7),(8,.p (i64 p.2)),(9,.p (.ip [i64 k]))]) (fun p=>[(0,.row 56 (L.map rc)),(6,.row 145 ((Reg.dp l ys k).map hb)),(7,.row 56 (p.1.map rc))]) (fun ⟨La,uW⟩ Gb t h=>?_) ?_
  ·obtain⟨Gc,Nd⟩:=Gb
   simp only at Gc Nd
   have aL:=Gc.row FB Nd
   have oD:∀r∈La,Bd r:=fun r hr=>(hl r ((aL r).1 hr).1).1
   obtain⟨Te,Ji⟩:=s8 oD
   have UN:Reg.da (eN CX La)=Reg.rowOf l y:=Reg.AA l _ y (fun r hr=>(hl r hr).2.1) Ji fun r=>(Te.mem_iff).trans (aL r)
   have eL:y < y':=by
    obtain⟨b1,b2⟩:=List.getElem?_eq_some_iff.1 hy
    obtain⟨c1,c2⟩:=List.getElem?_eq_some_iff.1 lC
    have:=(List.pairwise_iff_getElem.1 hR) k (k+1) b1 c1 (by omega)
    omega
   ((refine aj (cH [] true [true,false,false,false,false,false,false,true,false,false,true,false,true,true,true] rfl (by kernel_rfl) (ay Z (ay Z (ay Z (ay Z (ay Z (ay Z (ay Z (ay Z (ay Z (ay Z (ay Z (cA Z Z ?_)))))))))))));refine ay Z<|cA Z Z<|cG Z<|dq Z<|aA zI<|bB<|af<|yD Z<|yD Z<|dq Z<|aK zI ?_);refine⟨[i64 y],(idx rfl hy),?_⟩)
   (refine bB<|ae<|yD Z<|yD Z<|yD Z<|dq Z<|bg zI ?_;refine sI ?_)
   (refine bB<|ae<|dq Z<|aK zI ?_;refine⟨[i64 y'],(idx (by omega) lC),?_⟩)
   (refine bB<|ae<|yD Z<|dq Z<|aA zI<|bB<|af<|dq Z<|aK zI ?_;refine⟨_,_,(tA La oD (by have:=Gc.len;have:=Gc.le;omega)),?_⟩)
   rw[UN]
   (refine iG Z<|aF<|ae<|yD Z<|dq Z<|aK zI ?_;refine⟨_,_,(mK (Reg.dp l ys k) ⟨y,y',Reg.rowOf l y⟩ eL (by have:=UL k;omega) (fun t ht=>by have:=UM k t ht;omega)),?_⟩)
   ((refine hD Z Z Z<|fM<|g_<|af<|dq Z<|aA zI<|bB<|af<|cn<|aq Z<|aq Z<|aq Z<|aq Z<|aq Z ?_;refine aq Z<|aq Z<|aq Z<|aq Z<|aq Z<|aq Z<|aq Z<|aq Z<|aq Z<|Fp Z Z Z Z Z<|fo Z<|bp<|aj<|au ?_;refine yS<|yP Z<|yT<|aM<|yn Z<|aA zI<|aS<|ak<|yq Z<|aA zI<|bd<|aF<|an<|yT ?_;refine aM<|yP Z<|yq Z<|bg zI ?_);refine sI ?_)
   (refine yk<|yq Z<|aA zI<|bd<|aF<|an<|yT<|ai ?_;refine⟨(k+1,eN CX La,uW),_,aW.refl _ _,?_⟩)
   refine⟨⟨by simp only;omega,Gc.OE hy Te Nd⟩,by simp only;omega,⟨Z,Z,Z,Z,Z,Z,Y⟩,⟨rfl,?_,rfl,?_,trivial⟩⟩
   ·simp only
    rw[Reg.dp,Ec hy,Ec lC]
    rfl
   exact congrArg (fun z=>AB.box [z]) (cd (by simp only;omega))
  refine aI (fun p:List aB×Nat=>next<=p.2/\I4 L y p.1 p.2) (fun p=>[(0,.ow 0),(3,.p (.ip [ints ys])),(6,.ow 6),(7,.ow 7),(8,.p (i64 p.2)),(9,.p (.ip [i64 k]))]) (fun p=>[(0,.row 56 (L.map rc)),(6,.row 145 ((Reg.dp l ys k).map hb)),(7,.row 56 (p.1.map rc))]) (fun p=>L.length - p.2) (nw.filter fun r=>!lR y r,next) _ (aW.gC hC _ 9 (y:=.ip [i64 k]) (fz:=[]) ⟨rfl,rfl⟩) ⟨Nat.le_refl _,RV⟩ ⟨Z,Z,Z,Z,Z,Z,Y⟩ ⟨Z,Z,Z,Y⟩ fun ⟨La,uW⟩ Gb t h=>?_
  obtain⟨RW,Gc⟩:=Gb
  simp only at RW Gc
  have SP:=Gc.le
  have xW:=Gc.len
  (refine au<|au<|cH [] false JH rfl (by kernel_rfl)<|cG Z<|yD Z<|dq Z<|aA zI<|bB<|af<|yD Z<|yD Z<|yD Z<|dg Z ?_;refine aa (fun g1=>?_) (fun g1=>?_) <;> try simp only[zB] at g1)
  ·rw[lm] at g1
   obtain⟨r,hr⟩:=bh (l:=L) (i:=uW) (by omega)
   (refine bS<|c_ Z<|aA zI<|bB<|af<|d1 Z<|d2 Z<|c_ Z<|bg zI ?_;refine And.intro ⟨by simp only;omega,by simp only;rw[lm];omega⟩ ?_)
   (refine bB<|bJ<|d2 Z<|c_ Z<|aA zI<|bB<|bJ<|d2 Z<|c_ Z<|aK zI ?_;refine⟨(rc r),(idx rfl hr).2,?_⟩)
   (refine bB<|ae<|d1 Z<|d1 Z<|d2 Z<|c_ Z<|aK zI ?_;refine⟨[i64 y],(idx rfl hy),?_⟩)
   (refine bB<|ae<|d1 Z<|d1 Z<|yD Z<|cn<|fo Z<|aj<|az Z ?_;refine aa (fun g2=>?_) (fun g2=>?_) <;> try simp only[zB] at g2)
   ·have MD:r∈L:=List.mem_of_getElem? hr
    have e:=FA hR hy (K9 r MD) g2 fun j z hj hz=>OF.fZ r (by
     refine List.mem_of_getElem? (i:=uW - next) ?_
     rw[List.getElem?_drop,<-hr]
     congr 1;omega) j z hj hz
    have hg:=hl r ((FB r).1 MD)
    ((refine aJ<|aj<|aZ<|aM<|yq Z<|aA zI<|bd<|af<|yq Z<|aA zI<|bd<|af<|yP Z<|yq Z ?_;refine bg zI ?_);refine And.intro ⟨by simp only;omega,by simp only;rw[lm];omega⟩ ?_)
    (refine bd<|bJ<|yq Z<|aK zI ?_;refine⟨(rc r),(idx rfl hr).2,?_⟩)
    (refine yk<|yn Z<|aA zI<|aS<|af<|yn Z<|bg zI ?_;refine And.intro ⟨yH rfl,by simp;omega,by simp;omega⟩ ?_)
    (refine aS<|aF<|af<|yP Z<|yq Z<|bg zI ?_;refine And.intro ⟨by simp only;omega,by simp only;omega⟩ ?_)
    (refine yk<|cD Z<|cr Z Z Z Z Z<|yA Z<|cL<|bp<|aj<|ai ?_;refine⟨(La++[r],uW+1),_,aW.refl _ _,?_⟩)
    refine⟨⟨by simp only;omega,Gc.next hr g2 (by have:=hg.2.2;omega)⟩,by simp only;omega,⟨rfl,rfl,rfl,rfl,cd (by simp only;omega),Z,Y⟩,⟨rfl,rfl,?_,trivial⟩⟩
    show AB.row _ _=AB.row _ _
    rw[List.map_append]
    rfl
   refine bT<|aY<|aY<|bU<|aj<|ai<|zX zi ?_
   exact⟨(La,uW),⟨Gc,CZ K_ hr (by omega)⟩,⟨Z,Z,Z,Z,Z,Z,Y⟩,⟨Z,Z,Z,Y⟩⟩
  rw[lm] at g1
  (refine cB<|ae<|d0 Z<|d0 Z<|d0 Z<|d0 Z<|d0 Z<|d0 Z<|d0 Z<|d0 Z<|d0 Z<|yD Z<|cn<|fo Z ?_;refine aj<|az Z<|cM<|bT<|aY<|aY<|bU<|aj<|ai<|zX zi ?_)
  refine⟨(La,uW),⟨Gc,fun r hr=>?_⟩,⟨Z,Z,Z,Z,Z,Z,Y⟩,⟨Z,Z,Z,Y⟩⟩
  rw[List.drop_of_length_le (by simp only;omega)] at hr
  cases hr
 rw[Td] at h2
 refine bT<|aY<|aY<|bU<|aj<|yS<|yq Z<|aA zI<|bd<|af<|cD Z<|cr Z Z Z Z Z<|yR zi ?_
 rw[MC,show ys.length - 1=k by omega]
 exact⟨Z,Z,Y⟩
theorem AX (l:List aB) (hl:∀r∈l,Good r) (hN:l.length<=400000):aD C 32 [.pv (aV l)] (.own 145 ((Reg.a_ l).map hb)) []:=
 qG l hl (by omega) (by have:=jZ l;omega) (fun y=>by have:=qA l y;omega)
end M
end Go.Proofs.YtpbkimanfahbgaaGreatDoor
