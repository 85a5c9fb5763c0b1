/- Part 5 of 14 of the proof of HouseOrdersMatchSpec (the names are shortened by a program: the size of a claim is limited). -/
import Derived.Test.YtiaifckpmefinaaGreatDoorO04
import Derived.Lib.SplitLaws
set_option linter.unusedVariables false
set_option linter.unusedSimpArgs false
set_option maxRecDepth 100000
set_option maxHeartbeats 8000000
namespace Go.Proofs.YtiaifckpmefinaaGreatDoor
namespace M
open Go.AM Go.RowKit
open bq (bw cv ff)
theorem ua:∀(l:cv) (a b:Int),(bq.gf l a b).length<=l.length+1:=by
 intro l
 induction l with
 | nil=>intro a b;simp[bq.gf]
 | cons p l ih=>
  intro a b
  rw[bq.gf]
  split
  ·have:=ih (min a p.1) (max b p.2)
   simp only[List.length_cons];omega
  simp
theorem ub:∀(l:cv) (a b:Int),(bq.dM l a b).length<=l.length+1:=by
 intro l
 induction l with
 | nil=>intro a b;simp[bq.dM]
 | cons p l ih=>
  intro a b
  rw[bq.dM]
  split
  ·have:=ih a b
   simp only[List.length_cons];omega
  exact ua _ a b
theorem xD {l:List bw} {i:Nat} {r:bw} (y:Int) (h:l[i]?=some r):bq.rowOf (l.take (i+1)) y=if r.y0<=y/\y < r.y1 then bq.dM (bq.rowOf (l.take i) y) r.x0 r.x1 else bq.rowOf (l.take i) y:=by
 rw[bB h]
 unfold bq.rowOf
 rw[List.filter_append,List.foldl_append]
 by_cases hc:r.y0<=y/\y < r.y1
 ·rw[if_pos hc]
  simp[hc.1,hc.2]
 rw[if_neg hc]
 have:(decide (r.y0<=y) && decide (y < r.y1))=false:=by simpa using fun h1 h2=>hc ⟨h1,h2⟩
 simp[this]
theorem sL (l:List bw) (y:Int):∀i,i<=l.length->(bq.rowOf (l.take i) y).length<=i:=by
 intro i
 induction i with
 | zero=>intro _;simp[bq.rowOf]
 | succ i ih=>
  intro hi
  obtain⟨r,hr⟩:=aH (l:=l) (i:=i) (by omega)
  rw[xD y hr]
  have h1:=ih (by omega)
  have h2:=ub (bq.rowOf (l.take i) y) r.x0 r.x1
  split <;> omega
theorem o6 (l:List bw) (y:Int):(bq.rowOf l y).length<=l.length:=by
 have:=sL l y l.length (Nat.le_refl _)
 rwa [List.take_length] at this
theorem FN (l:List bw) (y:Int) (hN:l.length<=1000000):aw C 219 [.pv (cd l),.pv (i64 y)] (.p (jv (bq.rowOf l y))) []:=by
 refine aE hC Tryz.func219 rfl rfl 43 rfl (by decide) (by kernel_rfl) fun _ _ _ _ _=>?_
 have lm:=aJ l rc
 refine yS<|yB Z<|yU<|yB Z<|yT<|an<|yS<|yA Z<|yT<|aO ?_
 refine aC (fun i:Nat=>i<=l.length) (fun i=>[(0,.p (cd l)),(1,.p (i64 y)),(5,.p (jv (bq.rowOf (l.take i) y))),(6,.p (i64 i))]) (fun _=>[]) (fun i=>l.length - i) 0 _ (bg.nil hC _ 5 rfl) (Nat.zero_le _) ⟨Z,Z,Z,Z,Y⟩ trivial fun i hi t h=>?_
 (refine an<|yS<|yP Z<|yP Z<|yP Z<|yP Z<|yT<|ak Z ?_;refine aa (fun h1=>?_) (fun h1=>?_) <;> try simp only[zB] at h1)
 ·rw[lm] at h1
  obtain⟨r,hr⟩:=aH (l:=l) (i:=i) (by omega)
  have hs:=xD y hr
  have hL:=sL l y i hi
  (refine ar<|ah<|an<|aO<|yS<|yP Z<|yP Z<|yq Z<|aL zI ?_;refine⟨(rc r),(idx rfl hr),?_⟩)
  (refine yk<|yP Z<|yP Z<|yP Z<|yP Z<|yP Z<|yg Z ?_;refine aa (fun h2=>?_) (fun h2=>?_) <;> try simp only[zB] at h2)
  ·(refine aV<|aN Z Z<|az zI<|yk<|y1 Z<|y1 Z<|y2 Z<|aN Z Z<|aL zI ?_;refine⟨(rc r),(idx rfl hr),?_⟩)
   (refine yk<|y1 Z<|y1 Z<|y1 Z<|yP Z<|yT<|ak Z ?_;refine aa (fun h3=>?_) (fun h3=>?_) <;> try simp only[zB] at h3)
   ·rw[if_pos ⟨h2,h3⟩] at hs
    ((refine cF [] false lX rfl (by kernel_rfl)<|aK Z<|aK Z<|aK Z<|aK Z<|aK Z<|aK Z<|aK Z<|aK Z<|aK Z<|aK Z<|aK Z<|aK Z<|eG Z Z ?_;refine cE Z<|yD Z<|yD Z<|yD Z<|dq Z<|aL zI ?_);refine⟨(rc r),(idx rfl hr),?_⟩)
    (refine bM<|ae<|yD Z<|yD Z<|yD Z<|yD Z<|dq Z<|aL zI ?_;refine⟨(rc r),(idx rfl hr),?_⟩)
    (refine bM<|ae<|yD Z<|yD Z<|yD Z<|dq Z<|aL zI ?_;refine⟨_,_,(zO _ r.x0 r.x1 (by omega)),?_⟩)
    ((refine bM<|ae<|yD Z<|bR<|ao Z<|ao Z<|ao Z<|ao Z<|ao Z<|ao Z<|ao Z<|ao Z<|ao Z<|ao Z ?_;refine ao Z<|ao Z<|ao Z<|dH Z Z<|bS Z<|aS<|ah<|aP<|yP Z<|yq Z<|bb zI ?_);refine sI ?_)
    (refine yk<|yA Z<|yT<|au ?_;refine⟨(i+1),_,bg.refl _ _,?_⟩)
    exact⟨by omega,by omega,⟨rfl,rfl,by rw[hs];rfl,Z,Y⟩,trivial⟩
   rw[if_neg (fun h=>h3 h.2)] at hs
   (refine ar<|aS<|ah<|aP<|yP Z<|yq Z<|bb zI ?_;refine sI ?_)
   (refine yk<|yA Z<|yT<|au ?_;refine⟨(i+1),_,bg.refl _ _,?_⟩)
   exact⟨by omega,by omega,⟨rfl,rfl,by rw[hs];rfl,Z,Y⟩,trivial⟩
  rw[if_neg (fun h=>h2 h.1)] at hs
  ((refine aT<|ae<|y0 Z<|y0 Z<|y0 Z<|y0 Z<|y0 Z<|y0 Z<|yP Z<|yT<|ak Z<|bz<|ar<|aS ?_;refine ah<|aP<|yP Z<|yq Z<|bb zI ?_);refine sI ?_)
  (refine yk<|yA Z<|yT<|au ?_;refine⟨(i+1),_,bg.refl _ _,?_⟩)
  exact⟨by omega,by omega,⟨rfl,rfl,by rw[hs];rfl,Z,Y⟩,trivial⟩
 rw[lm] at h1
 (refine bF<|aQ<|aQ<|bG<|ah<|yS<|yP Z<|yA Z<|yR zi ?_;refine And.intro ?_ trivial)
 rw[List.take_of_length_le (by omega)]
def bd (b:ff):List PV:=[i64 b.y0,i64 b.y1,jv b.xs]
theorem o7 {α:Type} {l:List α} {n:Nat} {x:α} (hn:l.length=n+1) (h:l[n]?=some x):l.getLast?=some x:=by
 rw[List.getLast?_eq_getElem?,hn]
 exact h
theorem xE (l:List ff) (b:ff) (hN:l.length<=1000000) (hX:∀t∈l,t.xs.length<=1000000):aw C 218 [.row 294 (l.map bd),.pv (.ag (bd b))] (.own 294 ((bq.fg l b).map bd)) [.gone]:=by
 refine aE hC Tryz.func218 rfl rfl 49 rfl (by decide) (by kernel_rfl) fun _ _ _ _ _=>?_
 have lm:=aJ l bd
 have sm:=aJ b.xs sp
 have done:∀z:List ff,z=bq.fg l b->AB.row 294 (z.map bd)=AB.row 294 ((bq.fg l b).map bd):=fun z e=>by rw[e]
 ((refine yS<|yn Z<|az zI<|aR<|ai<|yB Z<|yT<|an<|yS<|yV Z<|yP Z<|yP Z<|yP Z<|yT ?_;refine ak Z ?_);refine aa (fun h1=>?_) (fun h1=>?_) <;> try simp only[zB] at h1)
 ·rw[sm] at h1
  have he:b.xs=[]:=List.eq_nil_of_length_eq_zero (by omega)
  refine yS<|yq Z<|az zI<|aX<|aG<|dx Z<|cO Z Z Z Z Z<|yT<|aA<|af<|aB zi ?_
  exact⟨done l (by rw[bq.fg,if_pos he]),Z,Y⟩
 rw[sm] at h1
 have he:b.xs≠[]:=fun e=>h1 (by rw[e];rfl)
 have more:l++[b]=bq.fg l b->AB.row 294 (l.map bd++[bd b])=AB.row 294 ((bq.fg l b).map bd):=fun e=>by rw[<-e,List.map_append];rfl
 ((refine ar<|ah<|an<|yS<|yq Z<|az zI<|aX<|aG<|yP Z<|yA Z<|yT<|an<|cF [] false M1 rfl (by kernel_rfl)<|aK Z ?_;refine aK Z<|aK Z<|aK Z<|aK Z<|aK Z<|aK Z<|aK Z<|aK Z<|aK Z<|aK Z<|aK Z<|aK Z<|aK Z<|aK Z ?_;refine aK Z<|aK Z<|aK Z<|aK Z<|aK Z<|aK Z<|aK Z<|eG Z Z<|cE Z<|yD Z<|yD Z<|yD Z<|dg Z ?_);refine aa (fun h2=>?_) (fun h2=>?_) <;> try simp only[zB] at h2)
 ·rw[lm] at h2
  obtain⟨m,hm⟩:∃m,l.length=m+1:=⟨l.length - 1,by omega⟩
  have hi:((l.map bd).length:Int) - 1=(m:Nat):=by rw[lm];omega
  have hp:bq.fg l b=match l.getLast? with
   | some t=>if t.y1=b.y0/\t.xs=b.xs then l.dropLast++[⟨t.y0,b.y1,t.xs⟩] else l++[b]
   | none=>[b]:=by rw[bq.fg,if_neg he] <;> rfl
  obtain⟨t,ht⟩:=aH (l:=l) (i:=m) (by omega)
  rw[o7 hm ht] at hp
  simp only at hp
  (refine aV<|bA Z<|az zI<|bM<|aG<|d1 Z<|d2 Z<|bA Z<|bb zI ?_;refine And.intro ⟨by rw[lm];omega,by rw[lm];omega⟩ ?_)
  (refine bM<|ae<|d2 Z<|bA Z<|bb zI ?_;refine And.intro ⟨by rw[hi];omega,by rw[hi,lm];omega⟩ ?_)
  (refine bM<|eF<|d2 Z<|bA Z<|az zI<|bM<|eF<|d2 Z<|bA Z<|aL zI ?_;refine⟨(bd t),(idx hi ht).2,?_⟩)
  (refine bM<|ae<|d2 Z<|bA Z<|az zI<|bM<|ai<|d1 Z<|d1 Z<|yD Z<|yD Z<|dg Z ?_;refine aa (fun h3=>?_) (fun h3=>?_) <;> try simp only[zB] at h3)
  ·(refine aV<|bA Z<|az zI<|bM<|aG<|d1 Z<|d2 Z<|bA Z<|bb zI ?_;refine And.intro ⟨by rw[lm];omega,by rw[lm];omega⟩ ?_)
   (refine bM<|ae<|d2 Z<|bA Z<|bb zI ?_;refine And.intro ⟨by rw[hi];omega,by rw[hi,lm];omega⟩ ?_)
   (refine bM<|eF<|d2 Z<|bA Z<|az zI<|bM<|eF<|d2 Z<|bA Z<|aL zI ?_;refine⟨(bd t),(idx hi ht).2,?_⟩)
   (refine bM<|ae<|d2 Z<|bA Z<|az zI<|bM<|ai<|d1 Z<|d2 Z<|bA Z<|aL zI ?_;refine⟨_,_,(t_ t.xs b.xs (by have:=hX t (List.mem_of_getElem? ht);omega)),?_⟩)
   (refine bM<|ae<|yD Z<|bR<|bS Z<|ah<|ak Z ?_;refine aa (fun h4=>?_) (fun h4=>?_) <;> try simp only[zB] at h4)
   ·(refine yS<|yq Z<|az zI<|aX<|aG<|yP Z<|yq Z<|bb zI ?_;refine And.intro ⟨by rw[lm];omega,by rw[lm];omega⟩ ?_)
    (refine yk<|yV Z<|yP Z<|yq Z<|bb zI ?_;refine And.intro ⟨by rw[hi];omega,by rw[hi,lm];omega⟩ ?_)
    (refine aX<|eF<|yV Z<|yq Z<|aL zI ?_;refine⟨(bd t),(idx hi ht).2,?_⟩)
    refine aX<|aM<|aU<|yU<|yq Z<|az zI<|aX<|aG<|dx Z<|cO Z Z Z Z Z<|yT<|aA<|af<|aB zi ?_
    rw[if_pos ⟨h3,h4⟩] at hp
    have vA:∀k:Nat,k=m->AB.row 294 ((l.map bd).set k [i64 t.y0,i64 b.y1,jv t.xs])=AB.row 294 ((bq.fg l b).map bd):=by
     intro k e
     subst e
     rw[hp]
     obtain⟨d,hd⟩:=List.getLast?_eq_some_iff.1 (o7 hm ht)
     subst hd
     have hk:k=d.length:=by simp at hm;omega
     subst hk
     simp[bd]
    exact⟨vA _ (by rw[hi];rfl),Z,Y⟩
   rw[if_neg (fun h=>h4 h.2)] at hp
   (refine ar<|ah<|yS<|yq Z<|az zI<|aX<|aG<|yP Z<|yn Z<|az zI<|aR<|aG<|yn Z<|bb zI ?_;refine And.intro ⟨by simp,by simp;omega,by simp;omega⟩ ?_)
   refine aR<|aM<|aG<|dx Z<|cO Z Z Z Z Z<|yR zi ?_
   exact⟨more hp.symm,Z,Y⟩
  rw[if_neg (fun h=>h3 h.1)] at hp
  ((refine aT<|ae<|d0 Z<|d0 Z<|d0 Z<|d0 Z<|d0 Z<|d0 Z<|d0 Z<|d0 Z<|yD Z<|bR<|bS Z<|ah ?_;refine ak Z<|bz<|ar<|ah<|yS<|yq Z<|az zI<|aX<|aG<|yP Z<|yn Z<|az zI<|aR<|aG ?_;refine yn Z<|bb zI ?_);refine And.intro ⟨by simp,by simp;omega,by simp;omega⟩ ?_)
  refine aR<|aM<|aG<|dx Z<|cO Z Z Z Z Z<|yR zi ?_
  exact⟨more hp.symm,Z,Y⟩
 rw[lm] at h2
 have hl:l=[]:=List.eq_nil_of_length_eq_zero (by omega)
 ((refine aT<|ae<|d0 Z<|d0 Z<|d0 Z<|d0 Z<|d0 Z<|d0 Z<|d0 Z<|d0 Z<|yD Z<|yD Z<|d0 Z<|d0 Z ?_;refine d0 Z<|d0 Z<|d0 Z<|d0 Z<|d0 Z<|d0 Z<|d0 Z<|yD Z<|bR<|bS Z<|ah<|ak Z<|bz<|ar ?_;refine ah<|yS<|yq Z<|az zI<|aX<|aG<|yP Z<|yn Z<|az zI<|aR<|aG<|yn Z<|bb zI ?_);refine And.intro ⟨by simp,by simp;omega,by simp;omega⟩ ?_)
 refine aR<|aM<|aG<|dx Z<|cO Z Z Z Z Z<|yR zi ?_
 exact⟨more (by subst hl;rw[bq.fg,if_neg he];rfl),Z,Y⟩
theorem pY {s:List ff} {i:Nat} {b:ff} (h:s[i]?=some b):bq.told (s.take (i+1))=bq.told (s.take i)++b.xs.map fun p=>⟨p.1,b.y0,p.2,b.y1⟩:=by
 rw[bB h]
 simp[bq.told]
theorem mw (s:List ff) (hX:∀t∈s,t.xs.length<=1000000):(bq.told s).length<=s.length*1000000:=by
 induction s with
 | nil=>simp[bq.told]
 | cons b s ih=>
  have h1:=hX b (by simp)
  have h2:=ih fun t ht=>hX t (by simp[ht])
  simp only[bq.told,List.flatMap_cons,List.length_append,List.length_map,List.length_cons] at h2 ⊢
  simp only[Nat.add_mul]
  omega
theorem vV {r:List PV} {n:Nat} (h:r.length=n):∀r'∈[r],r'.length=n:=fun r' hr=>by rw[List.mem_singleton.1 hr];exact h
def jI (b:ff) (k:Nat):List bw:=(b.xs.take k).map fun p=>⟨p.1,b.y0,p.2,b.y1⟩
theorem D2 (l:List ff) (hN:l.length<=1000000) (hX:∀t∈l,t.xs.length<=1000000):aw C 220 [.pv (.sl (l.map bd))] (.p (cd (bq.told l))) []:=by
 refine aE hC Tryz.func220 rfl rfl 55 rfl (by decide) (by kernel_rfl) fun _ _ _ _ _=>?_
 have lm:=aJ l bd
 have tl:∀i,(bq.told (l.take i)).length<=1000000000000:=fun i=>by
  have h1:=mw (l.take i) fun t ht=>hX t (List.mem_of_mem_take ht)
  have h2:=List.length_take_le i l
  have h3:(l.take i).length*1000000<=1000000*1000000:=Nat.mul_le_mul_right _ (by rw[List.length_take];omega)
  omega
 refine yS<|yB Z<|yU<|yB Z<|yT<|an<|yS<|yA Z<|yT<|aO ?_
 refine aC (fun i:Nat=>i<=l.length) (fun i=>[(0,.p (.sl (l.map bd))),(3,.ow 3),(4,.p (i64 i))]) (fun i=>[(3,.row 221 ((bq.told (l.take i)).map rc))]) (fun i=>l.length - i) 0 _ (bg.iN hC _ 3 221 _ (by decide) rfl rfl (by decide)) (Nat.zero_le _) ⟨Z,Z,Z,Y⟩ ⟨Z,Y⟩ fun i hi t h=>?_
 (refine an<|yS<|yP Z<|yP Z<|yP Z<|yP Z<|yT<|ak Z ?_;refine aa (fun h1=>?_) (fun h1=>?_) <;> try simp only[zB] at h1)
 ·rw[lm] at h1
  obtain⟨b,hb⟩:=aH (l:=l) (i:=i) (by omega)
  have bm:=aJ b.xs sp
  have iI:=hX b (List.mem_of_getElem? hb)
  have ht:=tl i
  refine ar<|ah<|an<|aO<|yS<|yA Z<|yT<|aO ?_
  refine sH (fun _:Unit=>True) (fun _=>[(0,.p (.sl (l.map bd))),(3,.ow 3),(4,.p (i64 i))]) (fun _=>[(3,.row 221 ((bq.told (l.take (i+1))).map rc))]) (fun _ _ t h=>?_) ?_
  ·(refine aS<|ah<|aP<|yP Z<|yq Z<|bb zI ?_;refine sI ?_)
   (refine yk<|yA Z<|yT<|au ?_;refine⟨(i+1),_,bg.refl _ _,?_⟩)
   exact⟨by omega,by omega,⟨Z,Z,Z,Y⟩,⟨Z,Y⟩⟩
  refine aC (fun k:Nat=>k<=b.xs.length) (fun k=>[(0,.p (.sl (l.map bd))),(3,.ow 3),(4,.p (i64 i)),(5,.p (i64 k))]) (fun k=>[(3,.row 221 ((bq.told (l.take i)++jI b k).map rc))]) (fun k=>b.xs.length - k) 0 _ (bg.refl _ _) (Nat.zero_le _) ⟨Z,Z,Z,Z,Y⟩ ⟨by rw[jI];simp;rfl,trivial⟩ fun k hk t h=>?_
  have Jb:(jI b k).length<=k:=by simp[jI];omega
  (refine an<|yS<|yP Z<|yP Z<|yP Z<|yq Z<|aL zI ?_;refine⟨(bd b),(idx rfl hb),?_⟩)
  (refine yk<|yP Z<|yP Z<|yP Z<|yP Z<|yT<|ak Z ?_;refine aa (fun h2=>?_) (fun h2=>?_) <;> try simp only[zB] at h2)
  ·rw[bm] at h2
   obtain⟨p,hp⟩:=aH (l:=b.xs) (i:=k) (by omega)
   ((refine ar<|ah<|an<|aO<|cF [] true M3 rfl (by kernel_rfl)<|aK Z<|aK Z<|aK Z<|aK Z<|aK Z<|aK Z<|aK Z<|aK Z<|aK Z ?_;refine aK Z<|aK Z<|aK Z<|aK Z<|aK Z<|aK Z<|aK Z<|aK Z<|aK Z<|aK Z<|aK Z<|aK Z<|aK Z<|aK Z ?_;refine aK Z<|aK Z<|aK Z<|aK Z<|aK Z<|aK Z<|aK Z<|eG Z Z<|eG Z Z<|cE Z<|dq Z<|az zI<|bM<|aG ?_;refine yD Z<|yD Z<|dq Z<|aL zI ?_);refine⟨(bd b),(idx rfl hb),?_⟩)
   (refine bM<|ae<|yD Z<|yD Z<|yD Z<|dq Z<|aL zI ?_;refine⟨(sp p),(idx rfl hp),?_⟩)
   (refine bM<|ae<|yD Z<|yD Z<|yD Z<|yD Z<|dq Z<|aL zI ?_;refine⟨(bd b),(idx rfl hb),?_⟩)
   (refine bM<|ae<|yD Z<|yD Z<|yD Z<|yD Z<|dq Z<|aL zI ?_;refine⟨(bd b),(idx rfl hb),?_⟩)
   (refine bM<|ae<|yD Z<|yD Z<|yD Z<|dq Z<|aL zI ?_;refine⟨(sp p),(idx rfl hp),?_⟩)
   (refine bM<|ae<|yD Z<|yD Z<|yD Z<|yD Z<|dq Z<|aL zI ?_;refine⟨(bd b),(idx rfl hb),?_⟩)
   (refine bM<|ae<|yD Z<|yD Z<|yD Z<|dq Z<|az zI<|vN Z Z<|aG<|dq Z<|bb zI ?_;refine And.intro ⟨vV rfl,by simp;omega,by simp;omega⟩ ?_)
   ((refine A2 Z Z Z<|A0<|A1<|aG<|dq Z<|az zI<|bM<|aG<|bR<|ao Z<|ao Z<|ao Z<|ao Z<|ao Z ?_;refine ao Z<|ao Z<|ao Z<|ao Z<|ao Z<|ao Z<|ao Z<|ao Z<|ao Z<|ao Z<|ao Z<|ao Z<|ao Z<|ao Z ?_;refine ao Z<|ao Z<|ao Z<|ao Z<|ao Z<|ao Z<|ao Z<|ao Z<|ao Z<|ao Z<|ao Z<|ao Z<|ao Z<|FJ Z Z Z Z Z ?_;refine bS Z<|aS<|ah<|aP<|yP Z<|yq Z<|bb zI ?_);refine sI ?_)
   (refine yk<|yA Z<|yT<|au ?_;refine⟨(k+1),_,bg.refl _ _,?_⟩)
   refine⟨by omega,by omega,⟨Z,Z,Z,Z,Y⟩,⟨?_,trivial⟩⟩
   have hc:jI b (k+1)=jI b k++[⟨p.1,b.y0,p.2,b.y1⟩]:=by simp[jI,bB hp]
   have e:(bq.told (l.take i)++jI b k).map rc++[rc ⟨p.1,b.y0,p.2,b.y1⟩]=(bq.told (l.take i)++jI b (k+1)).map rc:=by
    rw[hc,<-List.append_assoc,List.map_append (l₂:=[_])]
    rfl
   exact congrArg (AB.row 221) e
  rw[bm] at h2
  refine bF<|aQ<|aQ<|bG<|ah<|au<|zX zi ?_
  refine⟨(),trivial,⟨Z,Z,Z,Y⟩,⟨?_,trivial⟩⟩
  rw[pY hb]
  have:jI b k=b.xs.map fun p=>⟨p.1,b.y0,p.2,b.y1⟩:=by rw[jI,List.take_of_length_le (by omega)]
  rw[<-this]
  rfl
 rw[lm] at h1
 (refine bF<|aQ<|aQ<|bG<|ah<|yS<|yq Z<|az zI<|aX<|aG<|dx Z<|cO Z Z Z Z Z<|yR zi ?_;refine And.intro ?_ trivial)
 rw[List.take_of_length_le (by omega)]
 rfl
theorem vW (l:List ff) (b:ff):(bq.fg l b).length<=l.length+1:=by
 unfold bq.fg
 split
 ·omega
 split
 ·split
  ·rw[List.length_append,List.length_dropLast];simp only[List.length_singleton];omega
  simp
 simp
theorem xF (l:List ff) (b:ff) (n:Nat) (hl:∀t∈l,t.xs.length<=n) (hb:b.xs.length<=n):∀t∈bq.fg l b,t.xs.length<=n:=by
 unfold bq.fg
 split
 ·exact hl
 split
 ·rename_i t ht
  split
  ·intro u hu
   rcases List.mem_append.1 hu with h | h
   ·exact hl u ((List.dropLast_sublist l).subset h)
   rw[List.mem_singleton.1 h];exact hl t (List.mem_of_getLast? ht)
  intro u hu
  rcases List.mem_append.1 hu with h | h
  ·exact hl u h
  rw[List.mem_singleton.1 h];exact hb
 intro u hu
 rw[List.mem_singleton.1 hu];exact hb
theorem jy (l:List bw) (ys:List Int):∀k,(bq.dK l ys k).length<=k:=by
 intro k
 induction k with
 | zero=>simp[bq.dK]
 | succ k ih=>rw[bq.dK];have:=vW (bq.dK l ys k) ⟨ys.getD k 0,ys.getD (k+1) 0,bq.rowOf l (ys.getD k 0)⟩;omega
theorem sM (l:List bw) (ys:List Int):∀k,∀t∈bq.dK l ys k,t.xs.length<=l.length:=by
 intro k
 induction k with
 | zero=>simp[bq.dK]
 | succ k ih=>rw[bq.dK];exact xF _ _ _ ih (o6 _ _)
theorem rG {l:List Int} {i:Nat} {x:Int} (h:l[i]?=some x):l.getD i 0=x:=by rw[List.getD_eq_getElem?_getD,h];rfl
theorem uc (l:List bw) (hN:l.length<=400000):aw C 153 [.pv (cd l)] (.p (cd (bq.h_ l))) []:=by
 refine aE hC Tryz.func153 rfl rfl 35 rfl (by decide) (by kernel_rfl) fun _ _ _ _ _=>?_
 have lm:=aJ (bq.ca l) fun n=>[i64 n]
 have hL:=fI l
 (refine yS<|yB Z<|yU<|yP Z<|yn Z<|aL zI ?_;refine⟨_,_,(xB l hN),?_⟩)
 refine br Z Z<|ae<|yA Z<|yU<|yB Z<|yT<|an<|yS<|yA Z<|yT<|aO ?_
 refine aC (fun k:Nat=>k<=(bq.ca l).length - 1) (fun k=>[(0,.p (cd l)),(3,.p (ints (bq.ca l))),(4,.ow 4),(5,.p (i64 ((k:Int)+1)))]) (fun k=>[(4,.row 294 ((bq.dK l (bq.ca l) k).map bd))]) (fun k=>(bq.ca l).length - k) 0 _ (bg.iN hC _ 4 294 _ (by decide) rfl rfl (by decide)) (Nat.zero_le _) ⟨Z,Z,Z,Z,Y⟩ ⟨Z,Y⟩ fun k hk t h=>?_
 have bl:=jy l (bq.ca l) k
 have bx:=sM l (bq.ca l) k
 (refine an<|yS<|yP Z<|yP Z<|yP Z<|yP Z<|yT<|ak Z ?_;refine aa (fun h1=>?_) (fun h1=>?_) <;> try simp only[zB] at h1)
 ·rw[lm] at h1
  obtain⟨y,hy⟩:=aH (l:=bq.ca l) (i:=k) (by omega)
  obtain⟨y',lT⟩:=aH (l:=bq.ca l) (i:=k+1) (by omega)
  have ek:(k:Int)+1 - 1=(k:Nat):=by omega
  have OM:(k:Int)+1=((k+1:Nat):Int):=by omega
  ((refine ar<|ah<|an<|aO<|cF [] true H5 rfl (by kernel_rfl)<|aK Z<|aK Z<|aK Z<|aK Z<|aK Z<|aK Z<|aK Z<|aK Z<|aK Z ?_;refine aK Z<|aK Z<|aK Z<|aK Z<|aK Z<|aK Z<|aK Z<|eG Z Z<|aK Z<|eG Z Z<|cE Z<|dq Z<|az zI<|bM ?_;refine aG<|yD Z<|yD Z<|dq Z<|bb zI ?_);refine sI ?_)
  (refine bM<|ae<|dq Z<|aL zI ?_;refine⟨[i64 y],(idx ek hy),?_⟩)
  (refine bM<|ae<|yD Z<|yD Z<|yD Z<|dq Z<|aL zI ?_;refine⟨[i64 y'],(idx OM lT),?_⟩)
  (refine bM<|ae<|yD Z<|yD Z<|yD Z<|yD Z<|dq Z<|bb zI ?_;refine sI ?_)
  (refine bM<|ae<|dq Z<|aL zI ?_;refine⟨[i64 y],(idx ek hy),?_⟩)
  (refine bM<|ae<|yD Z<|dq Z<|aL zI ?_;refine⟨_,_,(FN l y (by omega)),?_⟩)
  (refine bM<|ae<|yD Z<|dq Z<|aL zI ?_;refine⟨_,_,(xE _ ⟨y,y',bq.rowOf l y⟩ (by omega) (fun t ht=>by have:=bx t ht;omega)),?_⟩)
  (refine A2 Z Z Z<|A0<|A1<|aG<|dq Z<|az zI<|bM<|aG<|bR<|ao Z<|ao Z<|ao Z<|ao Z<|ao Z ?_;refine ao Z<|ao Z<|ao Z<|ao Z<|ao Z<|ao Z<|ao Z<|ao Z<|ao Z<|ao Z<|ao Z<|ao Z<|ao Z<|ao Z ?_;refine FJ Z Z Z Z Z<|bS Z<|aS<|ah<|aP<|yP Z<|yq Z<|bb zI ?_)
  (skip;refine sI ?_)
  (refine yk<|yA Z<|yT<|au ?_;refine⟨(k+1),_,bg.refl _ _,?_⟩)
  refine⟨by omega,by omega,⟨rfl,rfl,rfl,cb (by omega),trivial⟩,⟨?_,trivial⟩⟩
  rw[bq.dK,rG hy,rG lT]
  rfl
 rw[lm] at h1
 (refine bF<|aQ<|aQ<|bG<|ah<|yS<|yq Z<|az zI<|aX<|aG<|yn Z<|aL zI ?_;refine⟨_,_,(D2 _ (by omega) (fun t ht=>by have:=bx t ht;omega)),?_⟩)
 (refine br Z Z<|aM<|ae<|yA Z<|yR zi ?_;refine And.intro ?_ trivial)
 rw[bq.h_,bq.lO,show (bq.ca l).length - 1=k by omega]
theorem nP {l:List bw}:∀{i:Nat} {a b:bw},l[i]?=some a->l[i+1]?=some b->bq.before a b=false->bq.ordered l=false:=by
 induction l with
 | nil=>intro i a b h;simp at h
 | cons x l ih=>
  intro i a b h1 h2 h3
  cases l with
  | nil=>simp at h2
  | cons y l=>
   rw[bq.ordered]
   cases i with
   | zero=>
    simp at h1 h2
    subst h1;subst h2
    rw[h3];rfl
   | succ i=>rw[ih (i:=i) (by simpa using h1) (by simpa using h2) h3,Bool.and_false]
theorem o8 {l:List bw}:(∀(i:Nat) a b,l[i]?=some a->l[i+1]?=some b->bq.before a b=true)->bq.ordered l=true:=by
 induction l with
 | nil=>intro _;rfl
 | cons x l ih=>
  intro h
  cases l with
  | nil=>rfl
  | cons y l=>
   rw[bq.ordered,h 0 x y rfl rfl,ih fun i a b h1 h2=>h (i+1) a b (by simpa using h1) (by simpa using h2)]
   rfl
theorem q_ (l:List bw):aw C 70 [.pv (cd l)] (.p (i64 (bq.bZ l))) []:=by
 refine aE hC Tryz.func70 rfl rfl 32 rfl (by decide) (by kernel_rfl) fun _ _ _ _ _=>?_
 have lm:=aJ l rc
 (refine yS<|yA Z<|yT<|an<|yS<|yP Z<|yn Z<|aL zI ?_;refine⟨_,_,(sK l),?_⟩)
 (refine br Z Z<|ae<|yA Z<|yU<|yP Z<|yP Z<|yT<|ak Z ?_;refine aa (fun h0=>?_) (fun h0=>?_) <;> try simp only[zB] at h0)
 ·(refine yS<|yP Z<|yA Z<|yT<|aA<|af<|aB zi ?_;refine And.intro ?_ trivial)
  rw[bq.bZ,if_neg h0]
 have h0:bq.cX l=0:=by simpa using h0
 obtain⟨hl,_⟩:=bq.oq h0
 have hc:bq.bZ l=(if bq.ordered l=true then (if bq.h_ l=l then 0 else 3) else 8):=by rw[bq.bZ,if_pos h0]
 refine ar<|ah<|an<|yS<|yA Z<|yT<|aO ?_
 refine sH (fun _:Unit=>bq.ordered l=true) (fun _=>[(0,.p (cd l))]) (fun _=>[]) (fun _ hO t h=>?_) ?_
 ·rw[if_pos hO] at hc
  (refine ah<|an<|yS<|yP Z<|yP Z<|yn Z<|aL zI ?_;refine⟨_,_,(uc l (by omega)),?_⟩)
  (refine br Z Z<|ae<|yn Z<|aL zI ?_;refine⟨_,_,(tZ l _ (by omega)),?_⟩)
  (refine br Z Z<|ae<|yP Z<|yT<|ak Z ?_;refine aa (fun h2=>?_) (fun h2=>?_) <;> try simp only[zB] at h2)
  ·(refine yS<|yA Z<|yT<|aA<|af<|aB zi ?_;refine And.intro ?_ trivial)
   rw[hc,if_neg (fun e=>h2 e.symm)];rfl
  (refine ar<|ah<|yS<|yA Z<|yR zi ?_;refine And.intro ?_ trivial)
  rw[hc,if_pos (by simpa using h2.symm)];rfl
 refine aC (fun i:Nat=>∀(j:Nat) a b,j < i->l[j]?=some a->l[j+1]?=some b->bq.before a b=true) (fun i=>[(0,.p (cd l)),(4,.p (i64 ((i:Int)+1)))]) (fun _=>[]) (fun i=>l.length - i) 0 _ (bg.refl _ _) (fun j a b h=>by omega) ⟨Z,Z,Y⟩ trivial fun i hi t h=>?_
 (refine an<|yS<|yP Z<|yP Z<|yP Z<|yP Z<|yT<|ak Z ?_;refine aa (fun h1=>?_) (fun h1=>?_) <;> try simp only[zB] at h1)
 ·rw[lm] at h1
  obtain⟨a,ha⟩:=aH (l:=l) (i:=i) (by omega)
  obtain⟨b,hb⟩:=aH (l:=l) (i:=i+1) (by omega)
  ((refine ar<|ah<|an<|aO<|an<|cF [] false DZ rfl (by kernel_rfl)<|aK Z<|aK Z<|aK Z<|aK Z<|aK Z<|aK Z<|aK Z<|aK Z ?_;refine aK Z<|eG Z Z<|cE Z<|yD Z<|yD Z<|dq Z<|bb zI ?_);refine sI ?_)
  (refine bM<|ae<|dq Z<|aL zI ?_;refine⟨(rc a),(idx (show ((i:Int)+1) - 1=(i:Nat) by omega) ha),?_⟩)
  (refine bM<|ae<|yD Z<|yD Z<|yD Z<|dq Z<|aL zI ?_;refine⟨(rc b),(idx (show ((i:Int)+1)=((i+1:Nat):Int) by omega) hb),?_⟩)
  (refine bM<|ae<|yD Z<|dq Z<|aL zI ?_;refine⟨_,_,(zN a b),?_⟩)
  (refine bM<|ae<|yD Z<|bR<|bS Z<|ah<|ak Z ?_;refine aa (fun h2=>?_) (fun h2=>?_) <;> try simp only[zB] at h2)
  ·(refine yS<|yA Z<|yT<|aA<|aq<|af<|af<|aq<|af<|af<|aB zi ?_;refine And.intro ?_ trivial)
   rw[hc,if_neg (by rw[nP ha hb h2];decide)];rfl
  (refine ar<|aS<|ah<|aP<|yP Z<|yq Z<|bb zI ?_;refine sI ?_)
  (refine yk<|yA Z<|yT<|au ?_;refine⟨(i+1),_,bg.refl _ _,?_⟩)
  refine⟨fun j x y hj hx hy=>?_,by omega,⟨rfl,cb (by omega),trivial⟩,trivial⟩
  by_cases e:j=i
  ·subst e
   rw[ha] at hx;injection hx with hx;rw[hb] at hy;injection hy with hy
   rw[<-hx,<-hy];simpa using h2
  exact hi j x y (by omega) hx hy
 rw[lm] at h1
 refine bF<|aQ<|aQ<|bG<|ah<|au<|zX zi ?_
 refine⟨(),o8 fun j a b ha hb=>hi j a b ?_ ha hb,⟨Z,Y⟩,trivial⟩
 have:=(List.getElem?_eq_some_iff.1 hb).1
 omega
def str (s:ByteArray):PV:=.im (.string s)
def strs (l:List ByteArray):PV:=.sl (l.map fun s=>[str s])
def ef (n:Int):Bool:=decide (0<=n) && decide (n<=100000)
theorem qE (n lo hi:Int):aw C 69 [.pv (i64 n),.pv (i64 lo),.pv (i64 hi)] (.p (bool (decide (lo<=n) && decide (n<=hi)))) []:=by
 refine aE hC Tryz.func69 rfl rfl 15 rfl (by decide) (by kernel_rfl) fun _ _ _ _ _=>?_
 (refine yS<|yA Z<|yU<|yP Z<|yP Z<|yP Z<|yP Z<|yg Z ?_;refine aa (fun h=>?_) (fun h=>?_) <;> try simp only[zB] at h) <;> ((first | (refine aV<|aN Z Z<|az zI<|yk<|y1 Z<|y1 Z<|yP Z<|yA Z<|yR zi ?_) | (refine aT<|ae<|y0 Z<|y0 Z<|yP Z<|yA Z<|yR zi ?_));refine And.intro ?_ trivial) <;> simp[bool,h]
theorem gE (n:Int):aw C 67 [.pv (i64 n)] (.p (bool (ef n))) []:=by
 refine aE hC Tryz.func67 rfl rfl 5 rfl (by decide) (by kernel_rfl) fun _ _ _ _ _=>?_
 (refine yS<|yA Z<|yU<|yP Z<|yn Z<|aL zI ?_;refine⟨_,_,(qE n 0 100000),?_⟩)
 (refine br Z Z<|ae<|yA Z<|yR zi ?_;refine And.intro ?_ trivial)
 rfl
def hasB (l:List ByteArray) (x:ByteArray):Bool:=l.any fun y=>decide (y=x)
theorem xG {l:List ByteArray} {x:ByteArray}:hasB l x=true↔x∈l:=by
 simp[hasB]
theorem xH (l:List ByteArray) (x:ByteArray) (hN:l.length<=140737488355328):aw C 149 [.pv (strs l),.pv (str x)] (.p (bool (hasB l x))) []:=by
 refine aE hC Tryz.func149 rfl rfl 18 rfl (by decide) (by kernel_rfl) fun _ _ _ _ _=>?_
 have lm:=aJ l fun s=>[str s]
 refine yS<|yA Z<|yT<|an<|yS<|yA Z<|yT<|aO ?_
 refine aC (fun i:Nat=>i<=l.length/\x ∉ l.take i) (fun i=>[(0,.p (strs l)),(1,.p (str x)),(5,.p (i64 i))]) (fun _=>[]) (fun i=>l.length - i) 0 _ (bg.refl _ _) ⟨Nat.zero_le _,by simp⟩ ⟨Z,Z,Z,Y⟩ trivial fun i hi t h=>?_
 (refine an<|yS<|yP Z<|yP Z<|yP Z<|yP Z<|yT<|ak Z ?_;refine aa (fun h1=>?_) (fun h1=>?_) <;> try simp only[zB] at h1)
 ·rw[lm] at h1
  obtain⟨y,hy⟩:=aH (l:=l) (i:=i) (by omega)
  (refine ar<|ah<|an<|aO<|yS<|yP Z<|yP Z<|yq Z<|aL zI ?_;refine⟨[str y],(idx rfl hy),?_⟩)
  (refine yk<|yP Z<|yP Z<|yP Z<|yT<|ak Z ?_;refine aa (fun h2=>?_) (fun h2=>?_) <;> try simp only[zB] at h2)
  ·(refine yS<|yA Z<|yT<|aA<|aq<|af<|af<|aq<|af<|aB zi ?_;refine And.intro ?_ trivial)
   rw[xG.2 (by rw[<-h2];exact List.mem_of_getElem? hy)]
   rfl
  (refine ar<|aS<|ah<|aP<|yP Z<|yq Z<|bb zI ?_;refine sI ?_)
  (refine yk<|yA Z<|yT<|au ?_;refine⟨(i+1),_,bg.refl _ _,?_⟩)
  refine⟨⟨by omega,?_⟩,by omega,⟨Z,Z,Z,Y⟩,trivial⟩
  rw[bB hy,List.mem_append,List.mem_singleton]
  rintro (h | h)
  ·exact hi.2 h
  exact h2 h.symm
 rw[lm] at h1
 (refine bF<|aQ<|aQ<|bG<|ah<|yS<|yA Z<|yR zi ?_;refine And.intro ?_ trivial)
 have h2:=hi.2
 rw[List.take_of_length_le (by omega)] at h2
 rw[show hasB l x=false by rw[Bool.eq_false_iff];exact fun h=>h2 (xG.1 h)]
 rfl
theorem gk (s:ByteArray) (c:Int):aw C 186 [.pv (str s),.pv (.im (.int .u8 c))] (.p (i64 (Lib.indexByte s.data.toList c.toNat.toUInt8))) []:=
 pW [.string s,.int .u8 c] _ ⟨_,Tryz.func186,rfl,rfl⟩ fun _ w _ _=>(Tryz.strings_IndexByte s c w).mono fun _ _ ⟨h1,h2⟩=>⟨h1,by rw[h2];exact Below.refl _ _⟩
theorem xI (n lo hi:Int):aw C 216 [.pv (i64 n),.pv (i64 lo),.pv (i64 hi)] (.p (bool (decide (lo<=n) && decide (n<=hi)))) []:=by
 refine aE hC Tryz.func216 rfl rfl 15 rfl (by decide) (by kernel_rfl) fun _ _ _ _ _=>?_
 (refine yS<|yA Z<|yU<|yP Z<|yP Z<|yP Z<|yP Z<|yg Z ?_;refine aa (fun h=>?_) (fun h=>?_) <;> try simp only[zB] at h) <;> ((first | (refine aV<|aN Z Z<|az zI<|yk<|y1 Z<|y1 Z<|yP Z<|yA Z<|yR zi ?_) | (refine aT<|ae<|y0 Z<|y0 Z<|yP Z<|yA Z<|yR zi ?_));refine And.intro ?_ trivial) <;> simp[bool,h]
def okB (b:UInt8):Bool:=(decide ((97:Int)<=b.toNat) && decide ((b.toNat:Int)<=122)) || (decide ((65:Int)<=b.toNat) && decide ((b.toNat:Int)<=90)) || (decide ((48:Int)<=b.toNat) && decide ((b.toNat:Int)<=57)) || !decide (Lib.indexByte [95,43,45,35] b < 0)
theorem byte_back (b:UInt8):((b.toNat:Int)).toNat.toUInt8=b:=by simp
def cD (s:ByteArray):Bool:=s.data.toList.all okB && (decide ((1:Int)<=s.size) && decide ((s.size:Int)<=40))
theorem jz {s:ByteArray} {i:Nat} (h:i < s.size):∃b:UInt8,s[i]?=some b/\s.data.toList[i]?=some b:=by
 refine⟨s[i],getElem?_pos s i h,?_⟩
 rw[Array.getElem?_toList]
 exact Array.getElem?_eq_getElem h
theorem qF (s:ByteArray) (hs:s.size<=9223372036854775807):aw C 147 [.pv (str s)] (.p (bool (cD s))) []:=by
 refine aE hC Tryz.func147 rfl rfl 45 rfl (by decide) (by kernel_rfl) fun _ _ _ _ _=>?_
 have hsz:s.data.toList.length=s.size:=by simp
 refine yS<|yA Z<|yT<|an<|yS<|yA Z<|yT<|aO ?_
 refine aC (fun i:Nat=>i<=s.size/\(s.data.toList.take i).all okB=true) (fun i=>[(0,.p (str s)),(3,.p (i64 i))]) (fun _=>[]) (fun i=>s.size - i) 0 _ (bg.refl _ _) ⟨Nat.zero_le _,by simp⟩ ⟨Z,Z,Y⟩ trivial fun i hi t h=>?_
 (refine an<|yS<|yP Z<|yP Z<|yP Z<|yP Z<|yT<|ak Z ?_;refine aa (fun h1=>?_) (fun h1=>?_) <;> try simp only[zB] at h1)
 ·obtain⟨b,hb,iI⟩:=jz (s:=s) (i:=i) (by omega)
  have pZ:okB b=false->cD s=false:=fun h=>by
   rw[cD,Bool.and_eq_false_iff]
   refine .inl ?_
   rw[List.all_eq_false]
   exact⟨b,List.mem_of_getElem? iI,by simp[h]⟩
  have hnext:okB b=true->(s.data.toList.take (i+1)).all okB=true:=fun h=>by rw[bB iI,List.all_append,hi.2];simp[h]
  (refine ar<|ah<|an<|aO<|yS<|yP Z<|yP Z<|yq Z<|aL zI ?_;refine⟨b,⟨by omega,by rw[Int.toNat_natCast];exact hb⟩,?_⟩)
  have rA:=gk ⟨#[95,43,45,35]⟩ b.toNat
  rw[byte_back] at rA
  repeat' first | ((first | (refine aT<|ae<|y0 Z<|y1 Z<|yP Z<|yP Z<|y1 Z<|y1 Z<|y1 Z<|yg Z ?_) | (refine aT<|ae<|y0 Z<|yP Z<|yP Z<|y1 Z<|y1 Z<|y1 Z<|yg Z ?_) | (refine aV<|aN Z Z<|az zI<|yk<|y1 Z<|y1 Z<|yP Z<|yP Z<|yP Z<|yg Z ?_) | (refine aV<|aN Z Z<|az zI<|yk<|y1 Z<|y1 Z<|yP Z<|yP Z<|yg Z ?_) | (refine aV<|aN Z Z<|az zI<|yk<|y1 Z<|y1 Z<|yg Z ?_) | (refine yk<|yA Z<|yU<|yP Z<|yP Z<|yP Z<|yg Z ?_) | (refine aV<|aN Z Z<|az zI<|yk<|y1 Z<|yP Z<|yP Z<|yg Z ?_) | (refine br Z Z<|ae<|y1 Z<|yP Z<|yT<|ak Z ?_));refine aa (fun h=>?_) (fun h=>?_) <;> try simp only[zB] at h) | ((first | (refine aT<|ae<|y0 Z<|y1 Z<|yP Z<|yP Z<|yP Z<|y1 Z<|y2 Z<|cx Z Z Z<|aL zI ?_) | (refine aV<|aN Z Z<|az zI<|yk<|y2 Z<|cx Z Z Z<|aL zI ?_));refine⟨_,_,rA,?_⟩)
  all_goals (first | (refine aT<|ae<|y0 Z<|y0 Z<|aj Z Z Z Z<|ae<|aj Z Z Z Z<|ae<|y0 Z<|yP Z<|yP Z<|y0 Z<|y0 Z<|y0 Z ?_;refine aj Z Z Z Z<|ae<|aj Z Z Z Z<|ae<|y0 Z<|yP Z<|yP Z<|yP Z<|y0 Z<|y0 Z<|y0 Z<|yP Z<|yT<|ak Z ?_;refine bz<|ar<|aS<|ah<|aP<|yP Z<|yq Z<|bb zI ?_) | (refine aT<|ae<|y0 Z<|y0 Z<|aj Z Z Z Z<|ae<|aj Z Z Z Z<|ae<|y0 Z<|yP Z<|yP Z<|yP Z<|y0 Z<|y0 Z ?_;refine y0 Z<|yP Z<|yT<|ak Z<|bz<|ar<|aS<|ah<|aP<|yP Z<|yq Z<|bb zI ?_) | (refine aT<|ae<|y0 Z<|y0 Z<|yP Z<|yT<|ak Z<|bz<|ar<|aS<|ah<|aP<|yP Z<|yq Z ?_;refine bb zI ?_) | (refine yS<|yA Z<|yT<|aA<|aq<|af<|af<|aq<|af<|aB zi ?_) | (refine ar<|aS<|ah<|aP<|yP Z<|yq Z<|bb zI ?_))
  all_goals first
   | (
     refine sI ?_
     (refine yk<|yA Z<|yT<|au ?_;refine⟨(i+1),_,bg.refl _ _,?_⟩)
     exact⟨⟨by omega,hnext (by simp[okB, *])⟩,by omega,⟨Z,Z,Y⟩,trivial⟩)
   | (
     refine And.intro ?_ trivial
     rw[pZ (by simp[okB, *])]
     rfl)
 have eo:s.data.toList.all okB=true:=by
  have:=hi.2
  rwa [List.take_of_length_le (by omega)] at this
 (refine bF<|aQ<|aQ<|bG<|ah<|yS<|yP Z<|yP Z<|yn Z<|aL zI ?_;refine⟨_,_,(xI s.size 1 40),?_⟩)
 (refine br Z Z<|ae<|yA Z<|yR zi ?_;refine And.intro ?_ trivial)
 rw[cD,eo,Bool.true_and]
def qG:ByteArray:=⟨#[47]⟩
def parts (s:ByteArray):List ByteArray:=Lib.splitB qG 0 (Lib.countB s qG) s
def eT (s:ByteArray):Bool:=(parts s).all cD && decide ((s.size:Int)<=200)
theorem jQ (sep:ByteArray):∀(k:Nat) (s:ByteArray),∀x∈Lib.splitB sep 0 k s,x.size<=s.size:=by
 intro k
 induction k with
 | zero=>
  intro s x hx
  rw[Lib.splitB_zero,List.mem_singleton] at hx
  rw[hx]
  omega
 | succ k ih=>
  intro s x hx
  unfold Lib.splitB at hx
  split at hx
  ·rw[List.mem_singleton] at hx
   rw[hx]
   omega
  rcases List.mem_cons.1 hx with h | h
  ·rw[h,ByteArray.size_extract];omega
  have:=ih _ x h
  rw[ByteArray.size_extract] at this
  omega
theorem o9 (s:ByteArray):(parts s).length=Lib.countB s qG+1:=Lib.splitB_all qG (by decide) 0 _ s rfl
theorem my (s:ByteArray):(parts s).length<=s.size+1:=by
 rw[o9]
 have:=Lib.countB_le qG (by decide) s.size s (Nat.le_refl _)
 omega
theorem D3 (l:List ByteArray):(l.map Value.string).map (fun v=>[PV.im v])=l.map fun s=>[str s]:=by
 rw[List.map_map];rfl
theorem nk (s:ByteArray) (hs:s.size < 4294967281):aw C 179 [.pv (str s),.pv (str qG)] (.own 9 ((parts s).map fun s=>[str s])) []:=by
 have h:=xx hC (f:=179) [.string s,.string qG] 9 ((parts s).map Value.string) _ rfl rfl (by simp[Value.oneCell']) (by rw[List.length_map];have:=my s;have:maxLen=9223372036854775807:=rfl;omega) ⟨_,Tryz.func179,rfl,rfl⟩ fun S w hE _=>by
  obtain⟨_,_,⟨m,hm⟩,_⟩:=hE
  refine (Tryz.strings_Split s qG m w hs hm (by decide)).mono fun _ _ ⟨h1,h2⟩=>⟨?_,h2⟩
  rw[h1,List.length_map,o9]
 rw[D3] at h
 exact h
theorem xJ (s:ByteArray) (hs:s.size < 4294967281):aw C 148 [.pv (str s)] (.p (bool (eT s))) []:=by
 refine aE hC Tryz.func148 rfl rfl 22 rfl (by decide) (by kernel_rfl) fun _ _ _ _ _=>?_
 have lm:=aJ (parts s) fun s=>[str s]
 have pl:=my s
 (refine yS<|yA Z<|yU<|yP Z<|yn Z<|aL zI ?_;refine⟨_,_,(nk s hs),?_⟩)
 refine aR<|aG<|dx Z<|cO Z Z Z Z Z<|yT<|an<|yS<|yA Z<|yT<|aO ?_
 refine aC (fun i:Nat=>i<=(parts s).length/\((parts s).take i).all cD=true) (fun i=>[(0,.p (str s)),(3,.p (strs (parts s))),(4,.p (i64 i))]) (fun _=>[]) (fun i=>(parts s).length - i) 0 _ (bg.own hC _ 3 rfl rfl) ⟨Nat.zero_le _,by simp⟩ ⟨Z,Z,Z,Y⟩ trivial fun i hi t h=>?_
 (refine an<|yS<|yP Z<|yP Z<|yP Z<|yP Z<|yT<|ak Z ?_;refine aa (fun h1=>?_) (fun h1=>?_) <;> try simp only[zB] at h1)
 ·rw[lm] at h1
  obtain⟨x,hx⟩:=aH (l:=parts s) (i:=i) (by omega)
  have qp:=jQ _ _ _ x (List.mem_of_getElem? hx)
  (refine ar<|ah<|an<|aO<|yS<|yP Z<|yP Z<|yq Z<|aL zI ?_;refine⟨[str x],(idx rfl hx),?_⟩)
  (refine yk<|yP Z<|yn Z<|aL zI ?_;refine⟨_,_,(qF x (by omega)),?_⟩)
  (refine br Z Z<|ae<|yP Z<|yT<|ak Z ?_;refine aa (fun h2=>?_) (fun h2=>?_) <;> try simp only[zB] at h2)
  ·(refine yS<|yA Z<|yT<|aA<|aq<|af<|af<|aq<|af<|aB zi ?_;refine And.intro ?_ trivial)
   rw[show eT s=false from ?_]
   ·rfl
   rw[eT,Bool.and_eq_false_iff,List.all_eq_false]
   exact .inl ⟨x,List.mem_of_getElem? hx,by simp[h2]⟩
  (refine ar<|aS<|ah<|aP<|yP Z<|yq Z<|bb zI ?_;refine sI ?_)
  (refine yk<|yA Z<|yT<|au ?_;refine⟨(i+1),_,bg.refl _ _,?_⟩)
  refine⟨⟨by omega,?_⟩,by omega,⟨Z,Z,Z,Y⟩,trivial⟩
  rw[bB hx,List.all_append,hi.2]
  simp[h2]
 rw[lm] at h1
 (refine bF<|aQ<|aQ<|bG<|ah<|yS<|yP Z<|yP Z<|yP Z<|yA Z<|yR zi ?_;refine And.intro ?_ trivial)
 have eo:=hi.2
 rw[List.take_of_length_le (by omega)] at eo
 rw[eT,eo,Bool.true_and]
 rfl
theorem o_ (n lo hi:Int):aw C 129 [.pv (i64 n),.pv (i64 lo),.pv (i64 hi)] (.p (bool (decide (lo<=n) && decide (n<=hi)))) []:=by
 refine aE hC Tryz.func129 rfl rfl 15 rfl (by decide) (by kernel_rfl) fun _ _ _ _ _=>?_
 (refine yS<|yA Z<|yU<|yP Z<|yP Z<|yP Z<|yP Z<|yg Z ?_;refine aa (fun h=>?_) (fun h=>?_) <;> try simp only[zB] at h) <;> ((first | (refine aV<|aN Z Z<|az zI<|yk<|y1 Z<|y1 Z<|yP Z<|yA Z<|yR zi ?_) | (refine aT<|ae<|y0 Z<|y0 Z<|yP Z<|yA Z<|yR zi ?_));refine And.intro ?_ trivial) <;> simp[bool,h]
theorem iX (n:Int):aw C 127 [.pv (i64 n)] (.p (bool (ef n))) []:=by
 refine aE hC Tryz.func127 rfl rfl 5 rfl (by decide) (by kernel_rfl) fun _ _ _ _ _=>?_
 (refine yS<|yA Z<|yU<|yP Z<|yn Z<|aL zI ?_;refine⟨_,_,(o_ n 0 100000),?_⟩)
 (refine br Z Z<|ae<|yA Z<|yR zi ?_;refine And.intro ?_ trivial)
 rfl
theorem vX (n:Int):aw C 126 [.pv (i64 n)] (.p (bool (!ef n))) []:=by
 refine aE hC Tryz.func126 rfl rfl 6 rfl (by decide) (by kernel_rfl) fun _ _ _ _ _=>?_
 (refine yS<|yA Z<|yU<|yP Z<|yn Z<|aL zI ?_;refine⟨_,_,(iX n),?_⟩)
 (refine br Z Z<|ae<|yP Z<|yA Z<|yR zi ?_;refine And.intro ?_ trivial)
 rfl
theorem vY (n lo hi:Int):aw C 222 [.pv (i64 n),.pv (i64 lo),.pv (i64 hi)] (.p (bool (decide (lo<=n) && decide (n<=hi)))) []:=by
 refine aE hC Tryz.func222 rfl rfl 15 rfl (by decide) (by kernel_rfl) fun _ _ _ _ _=>?_
 (refine yS<|yA Z<|yU<|yP Z<|yP Z<|yP Z<|yP Z<|yg Z ?_;refine aa (fun h=>?_) (fun h=>?_) <;> try simp only[zB] at h) <;> ((first | (refine aV<|aN Z Z<|az zI<|yk<|y1 Z<|y1 Z<|yP Z<|yA Z<|yR zi ?_) | (refine aT<|ae<|y0 Z<|y0 Z<|yP Z<|yA Z<|yR zi ?_));refine And.intro ?_ trivial) <;> simp[bool,h]
theorem ia (n:Int):aw C 157 [.pv (i64 n)] (.p (bool (bq.ju n))) []:=by
 refine aE hC Tryz.func157 rfl rfl 5 rfl (by decide) (by kernel_rfl) fun _ _ _ _ _=>?_
 (refine yS<|yA Z<|yU<|yP Z<|yn Z<|aL zI ?_;refine⟨_,_,(vY n (-1000000) 1000000),?_⟩)
 (refine br Z Z<|ae<|yA Z<|yR zi ?_;refine And.intro ?_ trivial)
 rfl
theorem ka (x y:Int):aw C 73 [.pv (.ag [i64 x,i64 y])] (.p (bool (bq.ju x && bq.ju y))) []:=by
 refine aE hC Tryz.func73 rfl rfl 11 rfl (by decide) (by kernel_rfl) fun _ _ _ _ _=>?_
 (refine yS<|yn Z<|az zI<|aR<|ai<|yA Z<|yU<|yV Z<|yP Z<|yn Z<|aL zI ?_;refine⟨_,_,(ia x),?_⟩)
 (refine br Z Z<|ae<|yP Z<|yg Z ?_;refine aa (fun h=>?_) (fun h=>?_) <;> try simp only[zB] at h)
 ·(refine aV<|aN Z Z<|az zI<|aX<|ai<|y1 Z<|y2 Z<|cx Z Z Z<|aL zI ?_;refine⟨_,_,(ia y),?_⟩)
  (refine br Z Z<|ae<|yP Z<|yA Z<|yR zi ?_;refine And.intro ?_ trivial)
  simp[bool,h]
 (refine aT<|ae<|y0 Z<|y0 Z<|yP Z<|yA Z<|yR zi ?_;refine And.intro ?_ trivial)
 simp[bool,h]
theorem vZ (r:bw):aw C 259 [.pv (.ag (rc r))] (.p (bool (bq.fH r))) []:=by
 refine aE hC Tryz.func259 rfl rfl 21 rfl (by decide) (by kernel_rfl) fun _ _ _ _ _=>?_
 (refine yS<|yn Z<|az zI<|aR<|ai<|yA Z<|yU<|yV Z<|yP Z<|yn Z<|aL zI ?_;refine⟨_,_,(ia r.x0),?_⟩)
 (refine br Z Z<|ae<|yP Z<|yg Z ?_;refine aa (fun h1=>?_) (fun h1=>?_) <;> try simp only[zB] at h1)
 ·(refine aV<|aN Z Z<|az zI<|aX<|ai<|y1 Z<|y2 Z<|cx Z Z Z<|aL zI ?_;refine⟨_,_,(ia r.y0),?_⟩)
  (refine br Z Z<|ae<|yP Z<|yP Z<|yg Z ?_;refine aa (fun h2=>?_) (fun h2=>?_) <;> try simp only[zB] at h2)
  ·(refine aV<|aN Z Z<|az zI<|aX<|ai<|y1 Z<|y2 Z<|cx Z Z Z<|aL zI ?_;refine⟨_,_,(ia r.x1),?_⟩)
   (refine br Z Z<|ae<|yP Z<|yP Z<|yg Z ?_;refine aa (fun h3=>?_) (fun h3=>?_) <;> try simp only[zB] at h3)
   ·(refine aV<|aN Z Z<|az zI<|aX<|ai<|y1 Z<|y2 Z<|cx Z Z Z<|aL zI ?_;refine⟨_,_,(ia r.y1),?_⟩)
    (refine br Z Z<|ae<|yP Z<|yA Z<|yR zi ?_;refine And.intro ?_ trivial)
    simp[bool,bq.fH,h1,h2,h3]
   (refine aT<|ae<|y0 Z<|y0 Z<|yP Z<|yA Z<|yR zi ?_;refine And.intro ?_ trivial)
   simp[bool,bq.fH,h1,h2,h3]
  refine aT<|ae<|y0 Z<|y0 Z<|yP Z<|yP Z<|y0 Z<|y0 Z<|y0 Z<|yP Z<|yA Z<|yR zi ?_
  (skip;refine And.intro ?_ trivial)
  simp[bool,bq.fH,h1,h2]
 (refine aT<|ae<|y0 Z<|y0 Z<|yP Z<|yP Z<|y0 Z<|y0 Z<|y0 Z<|yP Z<|yP Z<|y0 Z<|y0 Z<|y0 Z ?_;refine yP Z<|yA Z<|yR zi ?_)
 (skip;refine And.intro ?_ trivial)
 simp[bool,bq.fH,h1]
def eH {α:Type} (p:α->Bool):List α->Nat->Int
 | [],_=>-1
 | x::r,k=>match p x with
  | true=>k
  | false=>eH p r (k+1)
theorem cr {α:Type} {p:α->Bool}:∀{l:List α} {k:Nat},(∀x∈l,p x=false)->eH p l k=-1:=by
 intro l
 induction l with
 | nil=>intro k _;rfl
 | cons x l ih=>intro k h;rw[eH,h x (by simp)];exact ih fun y hy=>h y (by simp[hy])
theorem cY {α:Type} {p:α->Bool}:∀{l:List α} {i k:Nat} {x:α},l[i]?=some x->p x=true->(∀y∈l.take i,p y=false)->eH p l k=((k+i:Nat):Int):=by
 intro l
 induction l with
 | nil=>intro i k x h;simp at h
 | cons y l ih=>
  intro i k x h hp hn
  cases i with
  | zero=>simp at h;subst h;rw[eH,hp];rfl
  | succ i=>
   rw[eH,hn y (by simp)]
   have:=ih (i:=i) (k:=k+1) (by simpa using h) hp fun z hz=>hn z (by simp[hz])
   simp only[this]
   omega
theorem gB {α:Type} (p:α->Bool):∀(l:List α) (k:Nat),decide (0<=eH p l k)=l.any p:=by
 intro l
 induction l with
 | nil=>intro k;rfl
 | cons x l ih=>
  intro k
  rw[eH,List.any_cons]
  cases p x with
  | true=>simp
  | false=>simpa using ih (k+1)
theorem dV {α:Type} {p:α->Bool} {l:List α} {i:Nat} {x:α} (hx:l[i]?=some x) (hp:p x=false) (h:∀y∈l.take i,p y=false):∀y∈l.take (i+1),p y=false:=by
 intro y hy
 rw[bB hx,List.mem_append,List.mem_singleton] at hy
 rcases hy with hy | rfl
 ·exact h y hy
 exact hp
theorem Ch (l:List Int) (hN:l.length<=140737488355328):aw C 197 [.pv (ints l),.pv (.im (.func (.func 126) #[] #[]))] (.p (i64 (eH (fun n=>!ef n) l 0))) []:=by
 refine aE hC Tryz.func197 rfl rfl 19 rfl (by decide) (by kernel_rfl) fun _ _ _ _ _=>?_
 have lm:=aJ l fun n=>[i64 n]
 refine yS<|yA Z<|yT<|an<|yS<|yP Z<|yP Z<|yP Z<|yT<|aO ?_
 refine aC (fun i:Nat=>i<=l.length/\∀x∈l.take i,(!ef x)=false) (fun i=>[(0,.p (ints l)),(1,.p (.im (.func (.func 126) #[] #[]))),(7,.p (i64 (l.map fun n=>[i64 n]).length)),(8,.p (i64 i))]) (fun _=>[]) (fun i=>l.length - i) 0 _ (bg.refl _ _) ⟨Nat.zero_le _,by simp⟩ ⟨Z,Z,Z,Z,Y⟩ trivial fun i hi t h=>?_
 (refine yS<|yP Z<|yT<|an<|ak Z ?_;refine aa (fun h1=>?_) (fun h1=>?_) <;> try simp only[zB] at h1)
 ·rw[lm] at h1
  obtain⟨x,hx⟩:=aH (l:=l) (i:=i) (by omega)
  (refine ar<|ah<|an<|aO<|yS<|yP Z<|yA Z<|yU<|yP Z<|yP Z<|yP Z<|yq Z<|aL zI ?_;refine⟨[i64 x],(idx rfl hx),?_⟩)
  (refine yk<|yP Z<|yn Z<|aL zI ?_;refine⟨_,_,(vX x),?_⟩)
  (refine br Z Z<|ae<|yT<|ak Z ?_;refine aa (fun h2=>?_) (fun h2=>?_) <;> try simp only[zB] at h2)
  ·(refine yS<|yP Z<|yA Z<|yT<|aA<|aq<|af<|af<|aq<|af<|aB zi ?_;refine And.intro ?_ trivial)
   rw[cY hx (by simp[h2]) hi.2,Nat.zero_add]
  (refine ar<|aS<|ah<|aP<|yq Z<|bb zI ?_;refine sI ?_)
  (refine yk<|yP Z<|yT<|au ?_;refine⟨(i+1),_,bg.refl _ _,?_⟩)
  exact⟨⟨by omega,dV hx (by simp[h2]) hi.2⟩,by omega,⟨Z,Z,Z,Z,Y⟩,trivial⟩
 rw[lm] at h1
 (refine bF<|aQ<|aQ<|bG<|ah<|yS<|yA Z<|yR zi ?_;refine And.intro ?_ trivial)
 have h2:=hi.2
 rw[List.take_of_length_le (by omega)] at h2
 rw[cr h2]
 rfl
theorem v7 (l:List Int) (hN:l.length<=140737488355328):aw C 125 [.pv (ints l),.pv (.im (.func (.func 126) #[] #[]))] (.p (bool (l.any fun n=>!ef n))) []:=by
 refine aE hC Tryz.func125 rfl rfl 9 rfl (by decide) (by kernel_rfl) fun _ _ _ _ _=>?_
 (refine yS<|yA Z<|yU<|yP Z<|yP Z<|yn Z<|aL zI ?_;refine⟨_,_,(Ch l hN),?_⟩)
 (refine br Z Z<|ae<|yP Z<|yA Z<|yR zi ?_;refine And.intro ?_ trivial)
 rw[<-gB _ l 0]
 rfl
theorem eD (s:ByteArray) (hs:s.size<=9223372036854775807):aw C 113 [.pv (str s)] (.p (bool (cD s))) []:=by
 refine aE hC Tryz.func113 rfl rfl 49 rfl (by decide) (by kernel_rfl) fun _ _ _ _ _=>?_
 have hsz:s.data.toList.length=s.size:=by simp
 refine yS<|yA Z<|yT<|an<|yS<|yP Z<|yP Z<|yP Z<|yT<|aO ?_
 refine aC (fun i:Nat=>i<=s.size/\(s.data.toList.take i).all okB=true) (fun i=>[(0,.p (str s)),(6,.p (i64 s.size)),(7,.p (i64 i))]) (fun _=>[]) (fun i=>s.size - i) 0 _ (bg.refl _ _) ⟨Nat.zero_le _,by simp⟩ ⟨Z,Z,Z,Y⟩ trivial fun i hi t h=>?_
 (refine yS<|yP Z<|yT<|an<|ak Z ?_;refine aa (fun h1=>?_) (fun h1=>?_) <;> try simp only[zB] at h1)
 ·obtain⟨b,hb,iI⟩:=jz (s:=s) (i:=i) (by omega)
  have pZ:okB b=false->cD s=false:=fun h=>by
   rw[cD,Bool.and_eq_false_iff]
   refine .inl ?_
   rw[List.all_eq_false]
   exact⟨b,List.mem_of_getElem? iI,by simp[h]⟩
  have hnext:okB b=true->(s.data.toList.take (i+1)).all okB=true:=fun h=>by rw[bB iI,List.all_append,hi.2];simp[h]
  (refine ar<|ah<|an<|aO<|yS<|yP Z<|yA Z<|yU<|yP Z<|yP Z<|yq Z<|aL zI ?_;refine⟨b,⟨by omega,by rw[Int.toNat_natCast];exact hb⟩,?_⟩)
  have rA:=gk ⟨#[95,43,45,35]⟩ b.toNat
  rw[byte_back] at rA
  repeat' first | ((first | (refine aT<|ae<|y0 Z<|y1 Z<|yP Z<|yP Z<|y1 Z<|y1 Z<|y1 Z<|yg Z ?_) | (refine aT<|ae<|y0 Z<|yP Z<|yP Z<|y1 Z<|y1 Z<|y1 Z<|yg Z ?_) | (refine aV<|aN Z Z<|az zI<|yk<|y1 Z<|y1 Z<|yP Z<|yP Z<|yg Z ?_) | (refine aV<|aN Z Z<|az zI<|yk<|y1 Z<|y1 Z<|yg Z ?_) | (refine yk<|yA Z<|yU<|yP Z<|yP Z<|yP Z<|yg Z ?_) | (refine aV<|aN Z Z<|az zI<|yk<|y1 Z<|yP Z<|yP Z<|yg Z ?_) | (refine br Z Z<|ae<|y1 Z<|yP Z<|yT<|ak Z ?_));refine aa (fun h=>?_) (fun h=>?_) <;> try simp only[zB] at h) | ((first | (refine aT<|ae<|y0 Z<|y1 Z<|yP Z<|yP Z<|y1 Z<|y2 Z<|cx Z Z Z<|aL zI ?_) | (refine aV<|aN Z Z<|az zI<|yk<|y2 Z<|cx Z Z Z<|aL zI ?_));refine⟨_,_,rA,?_⟩)
  all_goals (first | (refine aT<|ae<|y0 Z<|y0 Z<|aj Z Z Z Z<|ae<|aj Z Z Z Z<|ae<|y0 Z<|yP Z<|yP Z<|y0 Z<|y0 Z<|y0 Z ?_;refine aj Z Z Z Z<|ae<|aj Z Z Z Z<|ae<|y0 Z<|yP Z<|yP Z<|y0 Z<|y0 Z<|y0 Z<|yP Z<|yT<|ak Z<|bz ?_;refine ar<|aS<|ah<|aP<|yq Z<|bb zI ?_) | (refine aT<|ae<|y0 Z<|y0 Z<|aj Z Z Z Z<|ae<|aj Z Z Z Z<|ae<|y0 Z<|yP Z<|yP Z<|y0 Z<|y0 Z<|y0 Z ?_;refine yP Z<|yT<|ak Z<|bz<|ar<|aS<|ah<|aP<|yq Z<|bb zI ?_) | (refine aT<|ae<|y0 Z<|y0 Z<|yP Z<|yT<|ak Z<|bz<|ar<|aS<|ah<|aP<|yq Z<|bb zI ?_) | (refine yS<|yA Z<|yT<|aA<|aq<|af<|af<|aq<|af<|aB zi ?_) | (refine ar<|aS<|ah<|aP<|yq Z<|bb zI ?_))
  all_goals first
   | (
     refine sI ?_
     (refine yk<|yP Z<|yT<|au ?_;refine⟨(i+1),_,bg.refl _ _,?_⟩)
     exact⟨⟨by omega,hnext (by simp only[okB,Bool.or_eq_true,Bool.and_eq_true,decide_eq_true_eq,Bool.not_eq_true',decide_eq_false_iff_not];omega)⟩,by omega,⟨Z,Z,Z,Y⟩,trivial⟩)
   | (
     refine And.intro ?_ trivial
     rw[pZ (by simp only[okB,Bool.or_eq_false_iff,Bool.and_eq_false_iff,decide_eq_false_iff_not,Bool.not_eq_false',decide_eq_true_eq];omega)]
     rfl)
 have eo:s.data.toList.all okB=true:=by
  have:=hi.2
  rwa [List.take_of_length_le (by omega)] at this
 (refine bF<|aQ<|aQ<|bG<|ah<|yS<|yP Z<|yP Z<|yP Z<|yP Z<|yg Z ?_;refine aa (fun h2=>?_) (fun h2=>?_) <;> try simp only[zB] at h2)
 ·(refine aV<|aN Z Z<|az zI<|yk<|y1 Z<|y1 Z<|yP Z<|yA Z<|yR zi ?_;refine And.intro ?_ trivial)
  simp[bool,cD,eo,h2]
 (refine aT<|ae<|y0 Z<|y0 Z<|yP Z<|yA Z<|yR zi ?_;refine And.intro ?_ trivial)
 simp[bool,cD,eo,h2]
theorem D4 (s:ByteArray) (hs:s.size<=9223372036854775807):aw C 180 [.pv (str s)] (.p (bool (!cD s))) []:=by
 refine aE hC Tryz.func180 rfl rfl 6 rfl (by decide) (by kernel_rfl) fun _ _ _ _ _=>?_
 (refine yS<|yA Z<|yU<|yP Z<|yn Z<|aL zI ?_;refine⟨_,_,(eD s hs),?_⟩)
 (refine br Z Z<|ae<|yP Z<|yA Z<|yR zi ?_;refine And.intro ?_ trivial)
 rfl
theorem Ci (l:List ByteArray) (hN:l.length<=140737488355328) (hS:∀s∈l,s.size<=9223372036854775807):aw C 248 [.pv (strs l),.pv (.im (.func (.func 180) #[] #[]))] (.p (i64 (eH (fun s=>!cD s) l 0))) []:=by
 refine aE hC Tryz.func248 rfl rfl 19 rfl (by decide) (by kernel_rfl) fun _ _ _ _ _=>?_
 have lm:=aJ l fun s=>[str s]
 refine yS<|yA Z<|yT<|an<|yS<|yP Z<|yP Z<|yP Z<|yT<|aO ?_
 refine aC (fun i:Nat=>i<=l.length/\∀x∈l.take i,(!cD x)=false) (fun i=>[(0,.p (strs l)),(1,.p (.im (.func (.func 180) #[] #[]))),(7,.p (i64 (l.map fun s=>[str s]).length)),(8,.p (i64 i))]) (fun _=>[]) (fun i=>l.length - i) 0 _ (bg.refl _ _) ⟨Nat.zero_le _,by simp⟩ ⟨Z,Z,Z,Z,Y⟩ trivial fun i hi t h=>?_
 (refine yS<|yP Z<|yT<|an<|ak Z ?_;refine aa (fun h1=>?_) (fun h1=>?_) <;> try simp only[zB] at h1)
 ·rw[lm] at h1
  obtain⟨x,hx⟩:=aH (l:=l) (i:=i) (by omega)
  (refine ar<|ah<|an<|aO<|yS<|yP Z<|yA Z<|yU<|yP Z<|yP Z<|yP Z<|yq Z<|aL zI ?_;refine⟨[str x],(idx rfl hx),?_⟩)
  (refine yk<|yP Z<|yn Z<|aL zI ?_;refine⟨_,_,(D4 x (hS x (List.mem_of_getElem? hx))),?_⟩)
  (refine br Z Z<|ae<|yT<|ak Z ?_;refine aa (fun h2=>?_) (fun h2=>?_) <;> try simp only[zB] at h2)
  ·(refine yS<|yP Z<|yA Z<|yT<|aA<|aq<|af<|af<|aq<|af<|aB zi ?_;refine And.intro ?_ trivial)
   rw[cY hx (by simp[h2]) hi.2,Nat.zero_add]
  (refine ar<|aS<|ah<|aP<|yq Z<|bb zI ?_;refine sI ?_)
  (refine yk<|yP Z<|yT<|au ?_;refine⟨(i+1),_,bg.refl _ _,?_⟩)
  exact⟨⟨by omega,dV hx (by simp[h2]) hi.2⟩,by omega,⟨Z,Z,Z,Z,Y⟩,trivial⟩
 rw[lm] at h1
 (refine bF<|aQ<|aQ<|bG<|ah<|yS<|yA Z<|yR zi ?_;refine And.intro ?_ trivial)
 have h2:=hi.2
 rw[List.take_of_length_le (by omega)] at h2
 rw[cr h2]
 rfl
theorem v8 (l:List ByteArray) (hN:l.length<=140737488355328) (hS:∀s∈l,s.size<=9223372036854775807):aw C 178 [.pv (strs l),.pv (.im (.func (.func 180) #[] #[]))] (.p (bool (l.any fun s=>!cD s))) []:=by
 refine aE hC Tryz.func178 rfl rfl 9 rfl (by decide) (by kernel_rfl) fun _ _ _ _ _=>?_
 (refine yS<|yA Z<|yU<|yP Z<|yP Z<|yn Z<|aL zI ?_;refine⟨_,_,(Ci l hN hS),?_⟩)
 (refine br Z Z<|ae<|yP Z<|yA Z<|yR zi ?_;refine And.intro ?_ trivial)
 rw[<-gB _ l 0]
 rfl
theorem FO {α:Type} (p:α->Bool):∀l:List α,(!l.any fun s=>!p s)=l.all p:=by
 intro l
 induction l with
 | nil=>rfl
 | cons x l ih=>rw[List.any_cons,List.all_cons,<-ih,Bool.not_or,Bool.not_not]
theorem iY (s:ByteArray) (hs:s.size < 4294967281):aw C 107 [.pv (str s)] (.p (bool (eT s))) []:=by
 refine aE hC Tryz.func107 rfl rfl 12 rfl (by decide) (by kernel_rfl) fun _ _ _ _ _=>?_
 have pl:=my s
 (refine yS<|yA Z<|yU<|yP Z<|yP Z<|yP Z<|yP Z<|yg Z ?_;refine aa (fun h1=>?_) (fun h1=>?_) <;> try simp only[zB] at h1)
 ·(refine aV<|aN Z Z<|az zI<|yk<|y2 Z<|cx Z Z Z<|aL zI ?_;refine⟨_,_,(nk s hs),?_⟩)
  (refine aR<|aG<|y2 Z<|cx Z Z Z<|aL zI ?_;refine⟨_,_,(v8 (parts s) (by omega) fun x hx=>by have:=jQ _ _ _ x hx;omega),?_⟩)
  (refine br Z Z<|ae<|y1 Z<|yP Z<|yA Z<|yR zi ?_;refine And.intro ?_ trivial)
  rw[FO,eT,decide_eq_true h1,Bool.and_true]
  rfl
 (refine aT<|ae<|y0 Z<|y0 Z<|y0 Z<|yP Z<|yA Z<|yR zi ?_;refine And.intro ?_ trivial)
 rw[eT,decide_eq_false h1,Bool.and_false]
 rfl
theorem p6 (l:List bw):aw C 198 [.pv (cd l)] (.p (i64 (bq.cX l))) []:=by
 refine aE hC Tryz.func198 rfl rfl 30 rfl (by decide) (by kernel_rfl) fun _ _ _ _ _=>?_
 have lm:=aJ l rc
 (refine yS<|yA Z<|yT<|an<|yS<|yP Z<|yP Z<|yP Z<|yT<|ak Z ?_;refine aa (fun h0=>?_) (fun h0=>?_) <;> try simp only[zB] at h0)
 ·rw[lm] at h0
  (refine yS<|yA Z<|yT<|aA<|af<|aB zi ?_;refine And.intro ?_ trivial)
  rw[bq.cX,if_pos (by omega)];rfl
 rw[lm] at h0
 have hc:bq.cX l=bq.dN l:=by rw[bq.cX,if_neg (by omega)]
 refine ar<|ah<|an<|yS<|yP Z<|yP Z<|yP Z<|yT<|aO ?_
 refine aC (fun i:Nat=>i<=l.length/\bq.dN l=bq.dN (l.drop i)) (fun i=>[(8,.p (cd l)),(9,.p (i64 (l.map rc).length)),(10,.p (i64 i))]) (fun _=>[]) (fun i=>l.length - i) 0 _ (bg.refl _ _) ⟨Nat.zero_le _,rfl⟩ ⟨Z,Z,Z,Y⟩ trivial fun i hi t h=>?_
 (refine yS<|yP Z<|yT<|an<|ak Z ?_;refine aa (fun h1=>?_) (fun h1=>?_) <;> try simp only[zB] at h1)
 ·rw[lm] at h1
  obtain⟨r,hr⟩:=aH (l:=l) (i:=i) (by omega)
  have hs:=kx hr
  (refine ar<|ah<|an<|aO<|yS<|yq Z<|aL zI ?_;refine⟨(rc r),(idx rfl hr),?_⟩)
  ((refine yk<|yP Z<|yn Z<|az zI<|aR<|ai<|yq Z<|az zI<|aX<|aM<|aU<|yT<|an<|yS ?_;refine yP Z<|yn Z<|aL zI ?_);refine⟨_,_,(vZ r),?_⟩)
  (refine br Z Z<|ae<|yP Z<|yT<|ak Z ?_;refine aa (fun g1=>?_) (fun g1=>?_) <;> try simp only[zB] at g1)
  ·(refine yS<|yA Z<|yT<|aA<|af<|aq<|af<|af<|aq<|af<|aB zi ?_;refine And.intro ?_ trivial)
   rw[hc,hi.2,hs,if_neg (by simp[g1])];rfl
  rw[if_pos g1] at hs
  (refine ar<|ah<|yS<|yV Z<|yP Z<|yV Z<|yP Z<|yP Z<|yP Z<|yg Z ?_;refine aa (fun e1=>?_) (fun e1=>?_) <;> try simp only[zB] at e1)
  ·((refine aT<|ae<|y0 Z<|y0 Z<|y0 Z<|y0 Z<|yP Z<|yT<|ak Z<|cu<|yS<|yA Z<|yT<|aA ?_;refine aq<|af<|af<|aq<|af<|aB zi ?_);refine And.intro ?_ trivial)
   rw[hc,hi.2,hs,if_pos (.inl e1)];rfl
  ((refine aV<|aN Z Z<|az zI<|aX<|ai<|y1 Z<|y2 Z<|aN Z Z<|az zI<|aX<|ai<|y1 Z<|y1 Z<|yP Z ?_;refine yT<|ak Z ?_);refine aa (fun e2=>?_) (fun e2=>?_) <;> try simp only[zB] at e2)
  ·(refine yS<|yA Z<|yT<|aA<|aq<|af<|af<|aq<|af<|aB zi ?_;refine And.intro ?_ trivial)
   rw[hc,hi.2,hs,if_pos (.inr e2)];rfl
  (refine ar<|aS<|ah<|aP<|yq Z<|bb zI ?_;refine sI ?_)
  (refine yk<|yP Z<|yT<|au ?_;refine⟨(i+1),_,bg.refl _ _,?_⟩)
  refine⟨⟨by omega,?_⟩,by omega,⟨Z,Z,Z,Y⟩,trivial⟩
  rw[hi.2,hs,if_neg (by omega)]
 rw[lm] at h1
 (refine bF<|aQ<|aQ<|bG<|ah<|yS<|yA Z<|yR zi ?_;refine And.intro ?_ trivial)
 rw[hc,hi.2,List.drop_of_length_le (by omega)];rfl
theorem xK (l m:List bw) (hN:l.length<=140737488355328):aw C 199 [.pv (cd l),.pv (cd m)] (.p (bool (decide (l=m)))) []:=by
 refine aE hC Tryz.func199 rfl rfl 26 rfl (by decide) (by kernel_rfl) fun _ _ _ _ _=>?_
 have lm:=aJ l rc
 have mm:=aJ m rc
 (refine yS<|yA Z<|yT<|an<|yS<|yP Z<|yP Z<|yP Z<|yP Z<|yP Z<|yT<|ak Z ?_;refine aa (fun h0=>?_) (fun h0=>?_) <;> try simp only[zB] at h0)
 ·rw[lm,mm] at h0
  (refine yS<|yA Z<|yT<|aA<|af<|aB zi ?_;refine And.intro ?_ trivial)
  rw[decide_eq_false (fun e:l=m=>h0 (by rw[e]))]
  rfl
 rw[lm,mm] at h0
 refine ar<|ah<|an<|yS<|yP Z<|yP Z<|yP Z<|yT<|aO ?_
 refine aC (fun i:Nat=>i<=l.length/\(l=m↔l.drop i=m.drop i)) (fun i=>[(0,.p (cd l)),(1,.p (cd m)),(12,.p (i64 (l.map rc).length)),(13,.p (i64 i))]) (fun _=>[]) (fun i=>l.length - i) 0 _ (bg.refl _ _) ⟨Nat.zero_le _,Iff.rfl⟩ ⟨Z,Z,Z,Z,Y⟩ trivial fun i hi t h=>?_
 (refine yS<|yP Z<|yT<|an<|ak Z ?_;refine aa (fun h1=>?_) (fun h1=>?_) <;> try simp only[zB] at h1)
 ·rw[lm] at h1
  obtain⟨r,hr⟩:=aH (l:=l) (i:=i) (by omega)
  obtain⟨q,hq⟩:=aH (l:=m) (i:=i) (by omega)
  have hs:=nj hr hq
  ((refine ar<|ah<|an<|aO<|yS<|yP Z<|yA Z<|yT<|an<|cF [] false Ja rfl (by kernel_rfl)<|cE Z<|yD Z<|yD Z<|dq Z ?_;refine aL zI ?_);refine⟨(rc r),(idx rfl hr),?_⟩)
  (refine bM<|ae<|yD Z<|yD Z<|yD Z<|dq Z<|aL zI ?_;refine⟨(rc q),(idx rfl hq),?_⟩)
  have he:=bq.bw.sJ r q
  (refine bM<|ae<|yD Z<|yD Z<|bR<|bS Z<|ah<|ak Z ?_;refine aa (fun h2=>?_) (fun h2=>?_) <;> try simp only[zB] at h2)
  ·(refine yS<|yA Z<|yT<|aA<|aq<|af<|af<|aq<|af<|aB zi ?_;refine And.intro ?_ trivial)
   rw[decide_eq_false];rfl
   rw[hi.2,hs,he]
   simp only[Bool.and_eq_false_iff,decide_eq_false_iff_not] at h2
   intro ⟨⟨e1,e2,e3,e4⟩,_⟩
   simp[e1,e2,e3,e4] at h2
  (refine ar<|aS<|ah<|aP<|yq Z<|bb zI ?_;refine sI ?_)
  (refine yk<|yP Z<|yT<|au ?_;refine⟨(i+1),_,bg.refl _ _,?_⟩)
  refine⟨⟨by omega,?_⟩,by omega,⟨Z,Z,Z,Z,Y⟩,trivial⟩
  rw[hi.2,hs,he]
  simp[decide_eq_true_eq] at h2
  exact and_iff_right h2
 (refine bF<|aQ<|aQ<|bG<|ah<|yS<|yA Z<|yR zi ?_;refine And.intro ?_ trivial)
 rw[lm] at h1
 rw[decide_eq_true];rfl
 rw[hi.2,List.drop_of_length_le (by omega),List.drop_of_length_le (by omega)]
theorem zQ (l m:List Int) (hN:l.length<=140737488355328):aw C 41 [.pv (ints l),.pv (ints m)] (.p (bool (decide (l=m)))) []:=by
 refine aE hC Tryz.func41 rfl rfl 26 rfl (by decide) (by kernel_rfl) fun _ _ _ _ _=>?_
 have lm:=aJ l fun n=>[i64 n]
 have mm:=aJ m fun n=>[i64 n]
 (refine yS<|yA Z<|yT<|an<|yS<|yP Z<|yP Z<|yP Z<|yP Z<|yP Z<|yT<|ak Z ?_;refine aa (fun h0=>?_) (fun h0=>?_) <;> try simp only[zB] at h0)
 ·rw[lm,mm] at h0
  (refine yS<|yA Z<|yT<|aA<|af<|aB zi ?_;refine And.intro ?_ trivial)
  rw[decide_eq_false (fun e:l=m=>h0 (by rw[e]))]
  rfl
 rw[lm,mm] at h0
 refine ar<|ah<|an<|yS<|yP Z<|yP Z<|yP Z<|yT<|aO ?_
 refine aC (fun i:Nat=>i<=l.length/\(l=m↔l.drop i=m.drop i)) (fun i=>[(0,.p (ints l)),(1,.p (ints m)),(12,.p (i64 (l.map fun n=>[i64 n]).length)),(13,.p (i64 i))]) (fun _=>[]) (fun i=>l.length - i) 0 _ (bg.refl _ _) ⟨Nat.zero_le _,Iff.rfl⟩ ⟨Z,Z,Z,Z,Y⟩ trivial fun i hi t h=>?_
 (refine yS<|yP Z<|yT<|an<|ak Z ?_;refine aa (fun h1=>?_) (fun h1=>?_) <;> try simp only[zB] at h1)
 ·rw[lm] at h1
  obtain⟨r,hr⟩:=aH (l:=l) (i:=i) (by omega)
  obtain⟨q,hq⟩:=aH (l:=m) (i:=i) (by omega)
  have hs:=nj hr hq
  ((refine ar<|ah<|an<|aO<|yS<|yP Z<|yA Z<|yT<|an<|cF [] false Ja rfl (by kernel_rfl)<|cE Z<|yD Z<|yD Z<|dq Z ?_;refine aL zI ?_);refine⟨[i64 r],(idx rfl hr),?_⟩)
  (refine bM<|ae<|yD Z<|yD Z<|yD Z<|dq Z<|aL zI ?_;refine⟨[i64 q],(idx rfl hq),?_⟩)
  (refine bM<|ae<|yD Z<|yD Z<|bR<|bS Z<|ah<|ak Z ?_;refine aa (fun h2=>?_) (fun h2=>?_) <;> try simp only[zB] at h2)
  ·(refine yS<|yA Z<|yT<|aA<|aq<|af<|af<|aq<|af<|aB zi ?_;refine And.intro ?_ trivial)
   rw[decide_eq_false];rfl
   rw[hi.2,hs]
   exact fun h=>h2 h.1
  (refine ar<|aS<|ah<|aP<|yq Z<|bb zI ?_;refine sI ?_)
  (refine yk<|yP Z<|yT<|au ?_;refine⟨(i+1),_,bg.refl _ _,?_⟩)
  refine⟨⟨by omega,?_⟩,by omega,⟨Z,Z,Z,Z,Y⟩,trivial⟩
  rw[hi.2,hs]
  exact and_iff_right h2
 (refine bF<|aQ<|aQ<|bG<|ah<|yS<|yA Z<|yR zi ?_;refine And.intro ?_ trivial)
 rw[lm] at h1
 rw[decide_eq_true];rfl
 rw[hi.2,List.drop_of_length_le (by omega),List.drop_of_length_le (by omega)]
def flat:cv->List Int
 | []=>[]
 | p::s=>p.1::p.2::flat s
theorem jR:∀s:cv,(flat s).length=2*s.length:=by
 intro s
 induction s with
 | nil=>rfl
 | cons p s ih=>simp only[flat,List.length_cons,ih];omega
theorem D5:∀{s u:cv},flat s=flat u->s=u:=by
 intro s
 induction s with
 | nil=>intro u h;cases u with | nil=>rfl | cons=>cases h
 | cons p s ih=>
  intro u h
  cases u with
  | nil=>cases h
  | cons q u=>
   simp only[flat,List.cons.injEq] at h
   rw[ih h.2.2,Prod.ext h.1 h.2.1]
def hb (b:ff):List PV:=[i64 b.y0,i64 b.y1,ints (flat b.xs)]
theorem zR (l:List ff) (b:ff) (BH:b.y0 < b.y1) (hN:l.length<=1000000000000) (hX:∀t∈l,t.xs.length<=1000000000000):aw C 265 [.row 329 (l.map hb),.pv (.ag (hb b))] (.own 329 ((bq.fg l b).map hb)) [.gone]:=by
 refine aE hC Tryz.func265 rfl rfl 54 rfl (by decide) (by kernel_rfl) fun _ _ _ _ _=>?_
 have lm:=aJ l hb
 have sm:=aJ (flat b.xs) fun n=>[i64 n]
 have fl:=jR b.xs
 have done:∀z:List ff,z=bq.fg l b->AB.row 329 (z.map hb)=AB.row 329 ((bq.fg l b).map hb):=fun z e=>by rw[e]
 ((refine yS<|yn Z<|az zI<|aR<|ai<|yB Z<|yT<|an<|yS<|yV Z<|yP Z<|yP Z<|yP Z<|yP Z ?_;refine yg Z ?_);refine aa (fun h1=>?_) (fun h1=>?_) <;> try simp only[zB] at h1)
 ·rw[sm,fl] at h1
  have he:b.xs=[]:=List.eq_nil_of_length_eq_zero (by omega)
  (refine aT<|ae<|y0 Z<|y0 Z<|y0 Z<|y0 Z<|yP Z<|yT<|ak Z<|cu<|yS<|yq Z<|az zI<|aX ?_;refine aG<|dx Z<|cO Z Z Z Z Z<|yT<|aA<|af<|aB zi ?_)
  exact⟨done l (by rw[bq.fg,if_pos he]),Z,Y⟩
 rw[sm,fl] at h1
 have he:b.xs≠[]:=fun e=>h1 (by rw[e];rfl)
 have more:l++[b]=bq.fg l b->AB.row 329 (l.map hb++[hb b])=AB.row 329 ((bq.fg l b).map hb):=fun e=>by rw[<-e,List.map_append];rfl
 ((refine aV<|aN Z Z<|az zI<|aX<|ai<|y1 Z<|y2 Z<|aN Z Z<|az zI<|aX<|ai<|y1 Z<|y1 Z<|yP Z ?_;refine yT<|ak Z ?_);refine aa (fun h0=>?_) (fun h0=>?_) <;> try simp only[zB] at h0)
 ·omega
 (refine ar<|ah<|an<|yS<|yq Z<|az zI<|aX<|aG<|yP Z<|yq Z<|bb zI ?_;refine And.intro ⟨by rw[lm];omega,by rw[lm];omega⟩ ?_)
 ((refine yk<|yA Z<|yT<|an<|cF [] false M0 rfl (by kernel_rfl)<|aK Z<|aK Z<|aK Z<|aK Z<|aK Z<|aK Z<|aK Z<|aK Z<|aK Z ?_;refine aK Z<|aK Z<|aK Z<|aK Z<|aK Z<|aK Z<|aK Z<|aK Z<|aK Z<|aK Z<|aK Z<|eG Z Z<|cE Z<|yD Z ?_;refine yD Z<|yD Z<|dg Z ?_);refine aa (fun h2=>?_) (fun h2=>?_) <;> try simp only[zB] at h2)
 ·rw[lm] at h2
  obtain⟨m,hm⟩:∃m,l.length=m+1:=⟨l.length - 1,by omega⟩
  have hi:((l.map hb).length:Int) - 1=(m:Nat):=by rw[lm];omega
  have hp:bq.fg l b=match l.getLast? with
   | some t=>if t.y1=b.y0/\t.xs=b.xs then l.dropLast++[⟨t.y0,b.y1,t.xs⟩] else l++[b]
   | none=>[b]:=by rw[bq.fg,if_neg he] <;> rfl
  obtain⟨t,ht⟩:=aH (l:=l) (i:=m) (by omega)
  rw[o7 hm ht] at hp
  simp only at hp
  have ft:=jR t.xs
  (refine aV<|bA Z<|az zI<|bM<|aG<|d1 Z<|d2 Z<|bA Z<|bb zI ?_;refine And.intro ⟨by rw[hi];omega,by rw[hi,lm];omega⟩ ?_)
  (refine bM<|eF<|d2 Z<|bA Z<|az zI<|bM<|eF<|d2 Z<|bA Z<|aL zI ?_;refine⟨(hb t),(idx hi ht).2,?_⟩)
  (refine bM<|ae<|d2 Z<|bA Z<|az zI<|bM<|ai<|d1 Z<|d1 Z<|yD Z<|yD Z<|dg Z ?_;refine aa (fun h3=>?_) (fun h3=>?_) <;> try simp only[zB] at h3)
  ·(refine aV<|bA Z<|az zI<|bM<|aG<|d1 Z<|d2 Z<|bA Z<|bb zI ?_;refine And.intro ⟨by rw[hi];omega,by rw[hi,lm];omega⟩ ?_)
   (refine bM<|eF<|d2 Z<|bA Z<|az zI<|bM<|eF<|d2 Z<|bA Z<|aL zI ?_;refine⟨(hb t),(idx hi ht).2,?_⟩)
   (refine bM<|ae<|d2 Z<|bA Z<|az zI<|bM<|ai<|d1 Z<|d2 Z<|bA Z<|aL zI ?_;refine⟨_,_,(zQ (flat t.xs) (flat b.xs) (by have:=hX t (List.mem_of_getElem? ht);omega)),?_⟩)
   (refine bM<|ae<|yD Z<|bR<|bS Z<|ah<|ak Z ?_;refine aa (fun h4=>?_) (fun h4=>?_) <;> try simp only[zB] at h4)
   ·have h4:t.xs=b.xs:=D5 h4
    (refine yS<|yq Z<|az zI<|aX<|aG<|yP Z<|yV Z<|yP Z<|yq Z<|bb zI ?_;refine And.intro ⟨by rw[hi];omega,by rw[hi,lm];omega⟩ ?_)
    (refine aX<|eF<|yV Z<|yq Z<|aL zI ?_;refine⟨(hb t),(idx hi ht).2,?_⟩)
    refine aX<|aM<|aU<|yU<|yq Z<|az zI<|aX<|aG<|dx Z<|cO Z Z Z Z Z<|yT<|aA<|af<|aB zi ?_
    rw[if_pos ⟨h3,h4⟩] at hp
    have vA:∀k:Nat,k=m->AB.row 329 ((l.map hb).set k [i64 t.y0,i64 b.y1,ints (flat t.xs)])=AB.row 329 ((bq.fg l b).map hb):=by
     intro k e
     subst e
     rw[hp]
     obtain⟨d,hd⟩:=List.getLast?_eq_some_iff.1 (o7 hm ht)
     subst hd
     have hk:k=d.length:=by simp at hm;omega
     subst hk
     simp[hb]
    exact⟨vA _ (by rw[hi];rfl),Z,Y⟩
   have h4:t.xs≠b.xs:=fun e=>h4 (by rw[e])
   rw[if_neg (fun h=>h4 h.2)] at hp
   (refine ar<|ah<|yS<|yq Z<|az zI<|aX<|aG<|yP Z<|yn Z<|az zI<|aR<|aG<|yn Z<|bb zI ?_;refine And.intro ⟨by simp,by simp;omega,by simp;omega⟩ ?_)
   refine aR<|aM<|aG<|dx Z<|cO Z Z Z Z Z<|yR zi ?_
   exact⟨more hp.symm,Z,Y⟩
  rw[if_neg (fun h=>h3 h.1)] at hp
  ((refine aT<|ae<|d0 Z<|d0 Z<|d0 Z<|d0 Z<|d0 Z<|d0 Z<|d0 Z<|yD Z<|bR<|bS Z<|ah<|ak Z ?_;refine bz<|ar<|ah<|yS<|yq Z<|az zI<|aX<|aG<|yP Z<|yn Z<|az zI<|aR<|aG<|yn Z ?_;refine bb zI ?_);refine And.intro ⟨by simp,by simp;omega,by simp;omega⟩ ?_)
  refine aR<|aM<|aG<|dx Z<|cO Z Z Z Z Z<|yR zi ?_
  exact⟨more hp.symm,Z,Y⟩
 rw[lm] at h2
 have hl:l=[]:=List.eq_nil_of_length_eq_zero (by omega)
 ((refine aT<|ae<|d0 Z<|d0 Z<|d0 Z<|d0 Z<|d0 Z<|d0 Z<|d0 Z<|yD Z<|yD Z<|d0 Z<|d0 Z<|d0 Z ?_;refine d0 Z<|d0 Z<|d0 Z<|d0 Z<|d0 Z<|yD Z<|bR<|bS Z<|ah<|ak Z<|bz<|ar<|ah<|yS ?_;refine yq Z<|az zI<|aX<|aG<|yP Z<|yn Z<|az zI<|aR<|aG<|yn Z<|bb zI ?_);refine And.intro ⟨by simp,by simp;omega,by simp;omega⟩ ?_)
 refine aR<|aM<|aG<|dx Z<|cO Z Z Z Z Z<|yR zi ?_
 exact⟨more (by subst hl;rw[bq.fg,if_neg he];rfl),Z,Y⟩
theorem D6:∀{s:cv} {k:Nat} {p:Int×Int},s[k]?=some p->(flat s)[2*k]?=some p.1/\(flat s)[2*k+1]?=some p.2:=by
 intro s
 induction s with
 | nil=>intro k p h;simp at h
 | cons q s ih=>
  intro k p h
  cases k with
  | zero=>simp at h;subst h;exact⟨rfl,rfl⟩
  | succ k=>
   obtain⟨h1,h2⟩:=ih (k:=k) (p:=p) (by simpa using h)
   rw[show 2*(k+1)=(2*k+1)+1 by omega]
   exact⟨by simpa [flat] using h1,by simpa [flat] using h2⟩
theorem v_ (l:List ff) (hN:l.length<=1000000000000) (hX:∀t∈l,t.xs.length<=1000000000000) (hT:(bq.told l).length<=4398046511104):aw C 201 [.pv (.sl (l.map hb))] (.own 221 ((bq.told l).map rc)) []:=by
 refine aE hC Tryz.func201 rfl rfl 41 rfl (by decide) (by kernel_rfl) fun _ _ _ _ _=>?_
 have lm:=aJ l hb
 have tl:∀i,(bq.told (l.take i)).length<=(bq.told l).length:=fun i=>by
  have e:bq.told l=bq.told (l.take i)++bq.told (l.drop i):=by
   unfold bq.told
   rw[<-List.flatMap_append,List.take_append_drop]
  rw[e,List.length_append]
  omega
 refine yS<|yB Z<|yU<|yB Z<|yT<|an<|yS<|yP Z<|yP Z<|yP Z<|yT<|aO ?_
 refine aC (fun i:Nat=>i<=l.length) (fun i=>[(7,.p (.sl (l.map hb))),(8,.p (i64 (l.map hb).length)),(3,.ow 3),(9,.p (i64 i))]) (fun i=>[(3,.row 221 ((bq.told (l.take i)).map rc))]) (fun i=>l.length - i) 0 _ (bg.iN hC _ 3 221 _ (by decide) rfl rfl (by decide)) (Nat.zero_le _) ⟨Z,Z,Z,Z,Y⟩ ⟨Z,Y⟩ fun i hi t h=>?_
 (refine yS<|yP Z<|yT<|an<|ak Z ?_;refine aa (fun h1=>?_) (fun h1=>?_) <;> try simp only[zB] at h1)
 ·rw[lm] at h1
  obtain⟨b,HG⟩:=aH (l:=l) (i:=i) (by omega)
  have bm:=aJ (flat b.xs) fun n=>[i64 n]
  have fl:=jR b.xs
  have iI:=hX b (List.mem_of_getElem? HG)
  have ht:=tl (i+1)
  rw[pY HG,List.length_append,List.length_map] at ht
  (refine ar<|ah<|an<|aO<|yS<|yq Z<|aL zI ?_;refine⟨(hb b),(idx rfl HG),?_⟩)
  (refine yk<|yP Z<|yn Z<|az zI<|aR<|ai<|yq Z<|az zI<|aX<|aM<|aU<|yU<|yA Z<|yT ?_;refine aO ?_)
  refine sH (fun _:Unit=>True) (fun _=>[(7,.p (.sl (l.map hb))),(8,.p (i64 (l.map hb).length)),(3,.ow 3),(9,.p (i64 i))]) (fun _=>[(3,.row 221 ((bq.told (l.take (i+1))).map rc))]) (fun _ _ t h=>?_) ?_
  ·(refine aS<|ah<|aP<|yq Z<|bb zI ?_;refine sI ?_)
   (refine yk<|yP Z<|yT<|au ?_;refine⟨(i+1),_,bg.refl _ _,?_⟩)
   exact⟨by omega,by omega,⟨Z,Z,Z,Z,Y⟩,⟨Z,Y⟩⟩
  refine aC (fun k:Nat=>k<=b.xs.length) (fun k=>[(7,.p (.sl (l.map hb))),(8,.p (i64 (l.map hb).length)),(3,.ow 3),(9,.p (i64 i)),(5,.bx 5 0),(6,.p (i64 ((2*k:Nat):Int)))]) (fun k=>[(3,.row 221 ((bq.told (l.take i)++jI b k).map rc)),(5,.box [.p (i64 b.y0),.p (i64 b.y1),.p (ints (flat b.xs))])]) (fun k=>b.xs.length - k) 0 _ (bg.refl _ _) (Nat.zero_le _) ⟨Z,Z,Z,Z,Z,Z,Y⟩ ⟨by rw[jI];simp;rfl,Z,Y⟩ fun k hk t h=>?_
  have Jb:(jI b k).length<=k:=by simp[jI];omega
  (refine an<|yS<|yP Z<|yV Z<|yP Z<|yP Z<|yP Z<|yT<|ak Z ?_;refine aa (fun h2=>?_) (fun h2=>?_) <;> try simp only[zB] at h2)
  ·rw[bm,fl] at h2
   obtain⟨p,hp⟩:=aH (l:=b.xs) (i:=k) (by omega)
   obtain⟨g1,g2⟩:=D6 hp
   ((refine ar<|ah<|an<|aO<|cF [] true H5 rfl (by kernel_rfl)<|aK Z<|aK Z<|aK Z<|aK Z<|aK Z<|aK Z<|aK Z<|aK Z<|aK Z ?_;refine aK Z<|aK Z<|aK Z<|aK Z<|aK Z<|aK Z<|aK Z<|aK Z<|eG Z Z<|eG Z Z<|cE Z<|dq Z<|az zI<|bM ?_;refine aG<|yW Z<|yD Z<|yD Z<|dq Z<|aL zI ?_);refine⟨[i64 p.1],(idx rfl g1),?_⟩)
   (refine bM<|ae<|yD Z<|yW Z<|yD Z<|yW Z<|yD Z<|yD Z<|dq Z<|bb zI ?_;refine sI ?_)
   (refine bM<|ae<|dq Z<|aL zI ?_;refine⟨[i64 p.2],(idx (by omega) g2),?_⟩)
   (refine bM<|ae<|yD Z<|yW Z<|yD Z<|yD Z<|dq Z<|az zI<|vN Z Z<|aG<|dq Z<|bb zI ?_;refine And.intro ⟨vV rfl,by simp;omega,by simp;omega⟩ ?_)
   ((refine A2 Z Z Z<|A0<|A1<|aG<|dq Z<|az zI<|bM<|aG<|bR<|ao Z<|ao Z<|ao Z<|ao Z<|ao Z ?_;refine ao Z<|ao Z<|ao Z<|ao Z<|ao Z<|ao Z<|ao Z<|ao Z<|ao Z<|ao Z<|ao Z<|ao Z<|ao Z<|ao Z ?_;refine FJ Z Z Z Z Z<|bS Z<|aS<|ah<|aP<|yP Z<|yq Z<|bb zI ?_);refine sI ?_)
   (refine yk<|yA Z<|yT<|au ?_;refine⟨(k+1),_,bg.refl _ _,?_⟩)
   refine⟨by omega,by omega,⟨rfl,rfl,rfl,rfl,rfl,cb (by omega),trivial⟩,⟨?_,Z,Y⟩⟩
   have hc:jI b (k+1)=jI b k++[⟨p.1,b.y0,p.2,b.y1⟩]:=by simp[jI,bB hp]
   have e:(bq.told (l.take i)++jI b k).map rc++[rc ⟨p.1,b.y0,p.2,b.y1⟩]=(bq.told (l.take i)++jI b (k+1)).map rc:=by
    rw[hc,<-List.append_assoc,List.map_append (l₂:=[_])]
    rfl
   exact congrArg (AB.row 221) e
  rw[bm,fl] at h2
  refine bF<|aQ<|aQ<|bG<|ah<|au<|zX zi ?_
  refine⟨(),trivial,⟨Z,Z,Z,Z,Y⟩,⟨?_,trivial⟩⟩
  rw[pY HG]
  have:jI b k=b.xs.map fun p=>⟨p.1,b.y0,p.2,b.y1⟩:=by rw[jI,List.take_of_length_le (by omega)]
  rw[<-this]
  rfl
 rw[lm] at h1
 refine bF<|aQ<|aQ<|bG<|ah<|yS<|yq Z<|az zI<|aX<|aG<|dx Z<|cO Z Z Z Z Z<|yR zi ?_
 rw[List.take_of_length_le (by omega)]
 exact⟨Z,Z,Y⟩
theorem xL (l:List ff) (hN:l.length<=1000000) (hX:∀t∈l,t.xs.length<=1000000):aw C 201 [.pv (.sl (l.map hb))] (.own 221 ((bq.told l).map rc)) []:=
 v_ l (by omega) (fun t ht=>by have:=hX t ht;omega) (by
  have h1:=mw l hX
  have h3:l.length*1000000<=1000000*1000000:=Nat.mul_le_mul_right _ hN
  omega)
end M
end Go.Proofs.YtiaifckpmefinaaGreatDoor
