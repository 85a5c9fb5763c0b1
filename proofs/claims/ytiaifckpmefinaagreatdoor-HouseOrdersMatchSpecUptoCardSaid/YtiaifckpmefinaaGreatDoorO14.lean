/- CheckOrder and Lands give just what the reference gives, with all errors. Condition: what is read is of bulk at most 1048576; the listed variables are tied to the program's text by the card. -/
import Derived.Test.YtiaifckpmefinaaGreatDoorO13
set_option linter.unusedVariables false
set_option linter.unusedSimpArgs false
set_option maxRecDepth 100000
set_option maxHeartbeats 8000000
namespace Go.Proofs.YtiaifckpmefinaaGreatDoor
namespace M
open Go.AM Go.RowKit Go.Lib
open bq (bw cv ff)
def mS (o:Order):PV:=.sl (if dP o=0 then (d_ o).map uz else [])
theorem eV {o:Order} {c:Int} (h:dP o=c) (h0:c≠0):mS o=.sl []:=by rw[mS,if_neg (by rw[h];exact h0)]
theorem u_ {o:Order} {p:Place} (h:iy o p=false):dZ o p=[]:=by rw[dZ,h];rfl
theorem lH {o:Order} {p:Place} (h:iy o p=true) {l:List gC} (hl:dY o.feet p.type=some l) {j:Nat} {s:gC} (hs:l[j]?=some s):(dZ o p)[j]?=some (eu o p s):=by
 rw[dZ,if_pos h,hl,Option.getD_some,List.getElem?_map,hs];rfl
theorem oB {o:Order} {p:Place} (h:iy o p=true) {l:List gC} (hl:dY o.feet p.type=some l):(dZ o p).length=l.length:=by
 rw[dZ,if_pos h,hl,Option.getD_some,List.length_map]
theorem mT {o:Order} {p:Place} (hl:dY o.feet p.type=none):dZ o p=[]:=by
 unfold dZ
 rw[hl]
 split <;> rfl
theorem lI {o:Order} {k:Nat} {x:kJ} (hq:∀m,m < k->fv (d_ o) m=0) (hx:(d_ o)[k]?=some x) (h:1000<=k):dP o=2:=
 aI hq (List.getElem?_eq_some_iff.1 hx).1 (by simp only[fv,hx];rw[if_pos h]) (by decide)
theorem ik {o:Order} {k:Nat} {x:kJ} (hq:∀m,m < k->fv (d_ o) m=0) (hx:(d_ o)[k]?=some x) (h:¬1000<=k) (hp:Ao x=false):dP o=1:=
 aI hq (List.getElem?_eq_some_iff.1 hx).1 (by simp only[fv,hx];rw[if_neg h,if_neg (by rw[hp];decide)]) (by decide)
theorem rN {o:Order} {k:Nat} {x:kJ} (hx:(d_ o)[k]?=some x) (h:¬1000<=k) (hp:Ao x=true):fv (d_ o) k=0:=by
 simp only[fv,hx];rw[if_neg h,if_pos hp]
theorem nA {o:Order} {p:Place} {j:Nat} {x:kJ} (hx:(dZ o p)[j]?=some x):(dZ o p).take (j+1)=(dZ o p).take j++[x]:=bB hx
theorem yu (o:Order) (hg:nz o):aw C 28 [.pv (.ag (nH o))] (.tu [mS o,.ag (EV rL (dP o))]) []:=by
 refine aE hC Tryz.func28 rfl rfl 90 rfl (by decide) (by kernel_rfl) fun _ _ _ _ _=>?_
 have lm:=aJ o.feet tv
 have lp:=aJ o.places lY
 have Lp:=hg.feet.2
 have oa:=hg.ok.places.1
 have Iu:=hg.ok.stack.1
 have Jn:=kG o.stack
 have O9:=hg.parts.2
 have II:=fQ rL 2
 rw[kh (by decide)] at II
 have IJ:=fQ rL 1
 rw[kh (by decide)] at IJ
 (refine yS<|yn Z<|az zI<|aR<|ai<|yB Z<|yn Z<|az zI<|aR<|ai<|yU<|yn Z<|az zI<|aR ?_;refine aG (dx Z (sG Z Z Z (A3 Z) (aG (yT (an (yS (yV Z (yP Z (yP Z (yP Z (yT (aO ?_)))))))))))))
 refine aC (fun x:Nat×List (Value×PV)=>x.1<=o.feet.length/\∀n,gN x.2 (.string n)=(dY (o.feet.take x.1) n).map fun l=>PV.sl (l.map gW)) (fun x=>[(1,.bx 1 0),(3,.bx 3 0),(4,.ow 13),(15,.p (.sl (o.feet.map tv))),(16,.p (i64 o.feet.length)),(17,.p (i64 x.1))]) (fun x=>[(1,.box ((nH o).map .p)),(3,.box [.p (i64 0),.p (str aF)]),(13,.map .str x.2)]) (fun x=>o.feet.length - x.1) (0,[]) _ (bg.refl _ _) ⟨Nat.zero_le _,fun n=>rfl⟩ ⟨rfl,rfl,rfl,rfl,congrArg (fun n:Nat=>AV.p (i64 n)) lm,Z,Y⟩ ⟨Z,Z,Z,Y⟩ fun ⟨i,es⟩ hi t h=>?_
 obtain⟨q1,q2⟩:=hi
 simp only at q1 q2
 (refine yS<|yP Z<|yT<|an<|ak Z ?_;refine aa (fun h1=>?_) (fun h1=>?_) <;> try simp only[zB] at h1)
 ·obtain⟨f,hf⟩:=aH (l:=o.feet) (i:=i) (by omega)
  (refine ar<|ah<|an<|aO<|yS<|yq Z<|aL zI ?_;refine⟨(tv f),(idx rfl hf),?_⟩)
  ((refine yk<|yP Z<|yn Z<|az zI<|aR<|ai<|yq Z<|az zI<|aX<|aM<|aU<|yT<|aP<|yq Z ?_;refine az zI<|aX<|aG<|yV Z<|yP Z<|yV Z<|yP Z<|yq Z<|az zI<|aX<|aM<|aU<|dB<|aS ?_;refine ah<|aP<|yq Z<|bb zI ?_);refine And.intro ⟨by dsimp only;omega,by dsimp only;omega⟩ ?_)
  (refine yk<|yP Z<|yT<|au ?_;refine⟨(i+1,iz es (.string f.type) (.sl (f.spots.map gW))),_,bg.refl _ _,?_⟩)
  refine⟨⟨by dsimp only;omega,fun n=>?_⟩,by dsimp only;omega,⟨Z,Z,Z,Z,Z,Z,Y⟩,⟨Z,Z,Z,Y⟩⟩
  dsimp only
  rw[nm,Ap hg.feet.1 hf,q2 n]
  split <;> rfl
 have q2:∀n,gN es (.string n)=(dY o.feet n).map fun l=>PV.sl (l.map gW):=fun n=>by rw[q2 n,List.take_of_length_le (by omega)]
 (refine bF<|aQ<|aQ<|bG<|ah<|yS<|yB Z<|yT<|an<|yS<|yV Z<|yP Z<|yP Z<|yP Z ?_;refine yT<|aO ?_)
 refine aC (fun i:Nat=>i<=o.places.length/\(∀k,k < (bP o i).length->fv (d_ o) k=0)/\(bP o i).length<=1000) (fun i=>[(1,.bx 1 0),(3,.bx 3 0),(4,.ow 13),(7,.ow 7),(28,.p (.sl (o.places.map lY))),(29,.p (i64 o.places.length)),(30,.p (i64 i))]) (fun i=>[(1,.box ((nH o).map .p)),(3,.box [.p (i64 0),.p (str aF)]),(13,.map .str es),(7,.row 54 ((bP o i).map uz))]) (fun i=>o.places.length - i) 0 _ (bg.iN hC _ 7 54 _ (by decide) rfl rfl (by decide)) ⟨Nat.zero_le _,fun k hk=>by simp[bP] at hk,by simp[bP]⟩ ⟨rfl,rfl,rfl,rfl,rfl,congrArg (fun n:Nat=>AV.p (i64 n)) lp,Z,Y⟩ ⟨Z,Z,Z,Z,Y⟩ fun i hi t h=>?_
 obtain⟨q3,q4,q5⟩:=hi
 (refine yS<|yP Z<|yT<|an<|ak Z ?_;refine aa (fun h2=>?_) (fun h2=>?_) <;> try simp only[zB] at h2)
 ·obtain⟨p,hp⟩:=aH (l:=o.places) (i:=i) (by omega)
  obtain⟨p1,p2,p3,p4,p5⟩:=hg.places p (List.mem_of_getElem? hp)
  have Lv:=wQ hg.parts.1 p1
  have jg:=lG hp
  (refine ar<|ah<|an<|aO<|yS<|yq Z<|aL zI ?_;refine⟨(lY p),(idx rfl hp),?_⟩)
  ((refine yk<|yP Z<|yn Z<|az zI<|aR<|ai<|yq Z<|az zI<|aX<|aM<|aU<|yT<|an<|an ?_;refine cF [] false I_ rfl (by kernel_rfl)<|aK Z<|aK Z<|aK Z<|eG Z Z<|cE Z<|yD Z<|yW Z<|yD Z<|dq Z<|aL zI ?_);refine⟨_,_,(wM o p.part hg.parts.1 (by omega)),?_⟩)
  (refine bM<|ae<|yW Z<|yD Z<|yD Z<|bR<|bS Z<|ah<|ak Z ?_;refine aa (fun h3=>?_) (fun h3=>?_) <;> try simp only[zB] at h3)
  ·have h3:¬tD o p.part=p.type:=h3
   rw[decide_eq_false h3] at Lv
   rw[u_ Lv.symm,List.append_nil] at jg
   (refine bF<|aQ<|bG<|ah<|aP<|yq Z<|bb zI ?_;refine sI ?_)
   (refine yk<|yP Z<|yT<|au ?_;refine⟨(i+1),_,bg.refl _ _,?_⟩)
   exact⟨⟨by omega,by rw[jg];exact q4,by rw[jg];exact q5⟩,by omega,⟨Z,Z,Z,Z,Z,Z,Z,Y⟩,⟨rfl,rfl,rfl,by rw[jg];rfl,trivial⟩⟩
  have h3:tD o p.part=p.type:=by simpa using h3
  rw[decide_eq_true h3] at Lv
  have G0:iy o p=true:=Lv.symm
  have q:=q2 p.type
  ((refine ar<|ah<|yS<|yV Z<|yP Z<|yP Z<|yn Z<|az zI<|aR<|ai<|yq Z<|az zI<|aX<|aM ?_;refine aU<|yT<|an<|yS<|yV Z<|yP Z<|yT<|ak Z ?_);refine aa (fun h4=>?_) (fun h4=>?_) <;> try simp only[zB] at h4)
  ·have Aq:lF o p=(gX o.stack:Int) - 1:=by rw[lF,if_pos h4]
   (refine aP<|yP Z<|yn Z<|aL zI ?_;refine⟨_,_,(nR o Iu),?_⟩)
   (refine br Z Z<|ae<|yq Z<|bb zI ?_;refine sI ?_)
   cases hS:dY o.feet p.type with
   | none=>
    rw[hS] at q
    rw[mT hS,List.append_nil] at jg
    ((refine yk<|yV Z<|yq Z<|az zI<|aX<|aM<|aU<|yU<|yq Z<|az zI<|aX<|aG<|yV Z<|yP Z ?_;refine yq Z<|aL zI ?_);refine⟨none,q,?_⟩)
    refine yk<|yP Z<|yP Z<|yT<|aO ?_
    refine aC (fun j:Nat=>j=0) (fun j=>[(1,.bx 1 0),(3,.bx 3 0),(4,.ow 13),(7,.ow 7),(28,.p (.sl (o.places.map lY))),(29,.p (i64 o.places.length)),(30,.p (i64 i)),(54,.p (i64 0)),(55,.p (i64 j))]) (fun _=>[(1,.box ((nH o).map .p)),(3,.box [.p (i64 0),.p (str aF)]),(13,.map .str es),(7,.row 54 ((bP o i).map uz))]) (fun j=>0) 0 _ (bg.refl _ _) rfl ⟨Z,Z,Z,Z,Z,Z,Z,Z,Z,Y⟩ ⟨Z,Z,Z,Z,Y⟩ fun j hj t h=>?_
    ((refine yS<|yP Z<|yT<|an<|ak Z<|bz<|bF<|aQ<|aQ<|bG<|aS<|ah<|aP<|yq Z ?_;refine bb zI ?_);refine sI ?_)
    (refine yk<|yP Z<|yT<|au ?_;refine⟨(i+1),_,bg.refl _ _,?_⟩)
    exact⟨⟨by omega,by rw[jg];exact q4,by rw[jg];exact q5⟩,by omega,⟨Z,Z,Z,Z,Z,Z,Z,Y⟩,⟨rfl,rfl,rfl,by rw[jg];rfl,trivial⟩⟩
   | some l=>
    rw[hS] at q
    have AI:=qj hg (x:=p.type)
    rw[hS,Option.getD_some] at AI
    have ls:=aJ l gW
    have hlen:=oB G0 hS
    ((refine yk<|yV Z<|yq Z<|az zI<|aX<|aM<|aU<|yU<|yq Z<|az zI<|aX<|aG<|yV Z<|yP Z ?_;refine yq Z<|aL zI ?_);refine⟨(some (.sl (l.map gW))),q,?_⟩)
    refine yk<|yP Z<|yP Z<|yT<|aO ?_
    refine aC (fun x:Nat×ByteArray×Int×Int=>x.1<=l.length/\(∀k,k < (bP o i).length+x.1->fv (d_ o) k=0)/\(bP o i).length+x.1<=1000) (fun x=>[(1,.bx 1 0),(3,.bx 3 0),(4,.ow 13),(7,.ow 7),(28,.p (.sl (o.places.map lY))),(29,.p (i64 o.places.length)),(30,.p (i64 i)),(9,.bx 9 0),(10,.bx 10 0),(53,.p (.sl (l.map gW))),(54,.p (i64 l.length)),(55,.p (i64 x.1))]) (fun x=>[(1,.box ((nH o).map .p)),(3,.box [.p (i64 0),.p (str aF)]),(13,.map .str es),(7,.row 54 ((bP o i++(dZ o p).take x.1).map uz)),(9,.box ((lY p).map .p)),(10,.box [.p (str p.part),.p (str x.2.1),.p (i64 ((gX o.stack:Int) - 1)),.p (i64 x.2.2.1),.p (i64 x.2.2.2)])]) (fun x=>l.length - x.1) (0,aF,0,0) _ (bg.refl _ _) ⟨Nat.zero_le _,q4,q5⟩ ⟨rfl,rfl,rfl,rfl,rfl,rfl,rfl,rfl,rfl,rfl,congrArg (fun n:Nat=>AV.p (i64 n)) ls,Z,Y⟩ ⟨rfl,rfl,rfl,by rw[List.take_zero,List.append_nil];rfl,Z,Z,Y⟩ fun ⟨j,pin,x,y⟩ hj t h=>?_
    obtain⟨r1,r2,r3⟩:=hj
    simp only at r1 r2 r3
    (refine yS<|yP Z<|yT<|an<|ak Z ?_;refine aa (fun j1=>?_) (fun j1=>?_) <;> try simp only[zB] at j1)
    all_goals try dsimp only at j1
    ·obtain⟨s,hs⟩:=aH (l:=l) (i:=j) (by omega)
     obtain⟨s1,s2⟩:=AI.2 s (List.mem_of_getElem? hs)
     have jX:=lH G0 hS hs
     have iW:=rM hp jX
     have a7:((bP o i++(dZ o p).take j).map uz).length=(bP o i).length+j:=by
      rw[List.length_map,List.length_append,List.length_take];omega
     have eW:=Bt (flip:=p.below) (q:=p.quarters) s1 s2
     have Fc:=nA jX
     (refine ar<|ah<|an<|aO<|yS<|yq Z<|aL zI ?_;refine⟨(gW s),(idx rfl hs),?_⟩)
     ((refine yk<|yP Z<|yn Z<|az zI<|aR<|ai<|yq Z<|az zI<|aX<|aM<|aU<|yU<|yV Z<|yP Z ?_;refine yV Z<|yq Z<|az zI<|aX<|aM<|aU<|yU<|yV Z<|yP Z<|yV Z<|yP Z<|yV Z<|yP Z<|yV Z ?_;refine yP Z<|yP Z<|yn Z<|aL zI ?_);refine⟨_,_,(lS p.below p.quarters s.x s.y p.x p.y s1 s2 ⟨p4,p5⟩ p2 p3),?_⟩)
     ((refine br Z Z<|ae<|yV Z<|yq Z<|az zI<|aX<|aM<|aU<|yT<|an<|yS<|yq Z<|az zI<|aX ?_;refine aG<|yP Z<|yP Z<|yT<|ak Z ?_);refine aa (fun j2=>?_) (fun j2=>?_) <;> try simp only[zB] at j2)
     all_goals try dsimp only at j2
     ·have e2:dP o=2:=lI r2 iW (by omega)
      (refine yS<|yn Z<|aL zI ?_;refine⟨_,_,II,?_⟩)
      ((refine br Z Z<|ae<|yB Z<|yq Z<|az zI<|aX<|aM<|aU<|yT<|aA<|af<|aq<|af<|af ?_;refine aq<|aq<|af<|af<|aq<|af<|aB zi ?_);refine And.intro ?_ trivial)
      rw[eV e2 (by decide),e2]
      rfl
     (refine ar<|ah<|an<|yS<|yV Z<|yP Z<|yn Z<|aL zI ?_;refine⟨_,_,(ka ((cQ p.below p.quarters s.x s.y).1+p.x) ((cQ p.below p.quarters s.x s.y).2+p.y)),?_⟩)
     (refine br Z Z<|ae<|yP Z<|yT<|ak Z ?_;refine aa (fun j3=>?_) (fun j3=>?_) <;> try simp only[zB] at j3)
     ·have j3:Ao (eu o p s)=false:=by simpa [Ao,eu] using j3
      have e1:dP o=1:=ik r2 iW (by omega) j3
      (refine yS<|yn Z<|aL zI ?_;refine⟨_,_,IJ,?_⟩)
      ((refine br Z Z<|ae<|yB Z<|yq Z<|az zI<|aX<|aM<|aU<|yT<|aA<|af<|aq<|af<|af ?_;refine aq<|aq<|af<|af<|aq<|af<|aB zi ?_);refine And.intro ?_ trivial)
      rw[eV e1 (by decide),e1]
      rfl
     have j3:Ao (eu o p s)=true:=by simpa [Ao,eu] using j3
     have hok:=rN iW (by omega) j3
     (refine ar<|ah<|aP<|yq Z<|az zI<|aX<|aG<|yP Z<|yn Z<|az zI<|aR<|aG<|yn Z<|bb zI ?_;refine And.intro ⟨by simp,by dsimp only;rw[a7];simp;omega,by dsimp only;rw[a7];simp;omega⟩ ?_)
     (refine aR<|aM<|aG<|dx Z<|cO Z Z Z Z Z<|dB<|aS<|ah<|aP<|yq Z<|bb zI ?_;refine And.intro ⟨by first | omega | (dsimp only;omega),by first | omega | (dsimp only;omega)⟩ ?_)
     (refine yk<|yP Z<|yT<|au ?_;refine⟨(j+1,s.pin,(cQ p.below p.quarters s.x s.y).1+p.x,(cQ p.below p.quarters s.x s.y).2+p.y),_,bg.refl _ _,?_⟩)
     exact⟨⟨by dsimp only;omega,fun k hk=>cw (i:=(bP o i).length+j) r2 hok k (by dsimp only at hk;omega),by dsimp only;omega⟩,by dsimp only;omega,⟨Z,Z,Z,Z,Z,Z,Z,Z,Z,Z,Z,Z,Y⟩,⟨rfl,rfl,rfl,by dsimp only;rw[Fc,<-List.append_assoc,List.map_append (l₂:=[eu o p s])];unfold eu;rw[Aq];rfl,Z,Z,Y⟩⟩
    have ej:j=l.length:=by omega
    rw[ej,<-hlen] at r2 r3
    (refine bF<|aQ<|aQ<|bG<|aS<|ah<|aP<|yq Z<|bb zI ?_;refine sI ?_)
    (refine yk<|yP Z<|yT<|au ?_;refine⟨(i+1),_,bg.refl _ _,?_⟩)
    exact⟨⟨by omega,by rw[jg,List.length_append];exact r2,by rw[jg,List.length_append];exact r3⟩,by omega,⟨Z,Z,Z,Z,Z,Z,Z,Y⟩,⟨rfl,rfl,rfl,by dsimp only;rw[jg,ej,<-hlen,List.take_length];rfl,trivial⟩⟩
  have Aq:lF o p=0:=by rw[lF,if_neg (by simp[h4])]
  cases hS:dY o.feet p.type with
  | none=>
   rw[hS] at q
   rw[mT hS,List.append_nil] at jg
   (refine ar<|ah<|yS<|yq Z<|az zI<|aX<|aG<|yV Z<|yP Z<|yq Z<|aL zI ?_;refine⟨none,q,?_⟩)
   refine yk<|yP Z<|yP Z<|yT<|aO ?_
   refine aC (fun j:Nat=>j=0) (fun j=>[(1,.bx 1 0),(3,.bx 3 0),(4,.ow 13),(7,.ow 7),(28,.p (.sl (o.places.map lY))),(29,.p (i64 o.places.length)),(30,.p (i64 i)),(54,.p (i64 0)),(55,.p (i64 j))]) (fun _=>[(1,.box ((nH o).map .p)),(3,.box [.p (i64 0),.p (str aF)]),(13,.map .str es),(7,.row 54 ((bP o i).map uz))]) (fun j=>0) 0 _ (bg.refl _ _) rfl ⟨Z,Z,Z,Z,Z,Z,Z,Z,Z,Y⟩ ⟨Z,Z,Z,Z,Y⟩ fun j hj t h=>?_
   ((refine yS<|yP Z<|yT<|an<|ak Z<|bz<|bF<|aQ<|aQ<|bG<|aS<|ah<|aP<|yq Z ?_;refine bb zI ?_);refine sI ?_)
   (refine yk<|yP Z<|yT<|au ?_;refine⟨(i+1),_,bg.refl _ _,?_⟩)
   exact⟨⟨by omega,by rw[jg];exact q4,by rw[jg];exact q5⟩,by omega,⟨Z,Z,Z,Z,Z,Z,Z,Y⟩,⟨rfl,rfl,rfl,by rw[jg];rfl,trivial⟩⟩
  | some l=>
   rw[hS] at q
   have AI:=qj hg (x:=p.type)
   rw[hS,Option.getD_some] at AI
   have ls:=aJ l gW
   have hlen:=oB G0 hS
   (refine ar<|ah<|yS<|yq Z<|az zI<|aX<|aG<|yV Z<|yP Z<|yq Z<|aL zI ?_;refine⟨(some (.sl (l.map gW))),q,?_⟩)
   refine yk<|yP Z<|yP Z<|yT<|aO ?_
   refine aC (fun x:Nat×ByteArray×Int×Int=>x.1<=l.length/\(∀k,k < (bP o i).length+x.1->fv (d_ o) k=0)/\(bP o i).length+x.1<=1000) (fun x=>[(1,.bx 1 0),(3,.bx 3 0),(4,.ow 13),(7,.ow 7),(28,.p (.sl (o.places.map lY))),(29,.p (i64 o.places.length)),(30,.p (i64 i)),(9,.bx 9 0),(10,.bx 10 0),(53,.p (.sl (l.map gW))),(54,.p (i64 l.length)),(55,.p (i64 x.1))]) (fun x=>[(1,.box ((nH o).map .p)),(3,.box [.p (i64 0),.p (str aF)]),(13,.map .str es),(7,.row 54 ((bP o i++(dZ o p).take x.1).map uz)),(9,.box ((lY p).map .p)),(10,.box [.p (str p.part),.p (str x.2.1),.p (i64 (0)),.p (i64 x.2.2.1),.p (i64 x.2.2.2)])]) (fun x=>l.length - x.1) (0,aF,0,0) _ (bg.refl _ _) ⟨Nat.zero_le _,q4,q5⟩ ⟨rfl,rfl,rfl,rfl,rfl,rfl,rfl,rfl,rfl,rfl,congrArg (fun n:Nat=>AV.p (i64 n)) ls,Z,Y⟩ ⟨rfl,rfl,rfl,by rw[List.take_zero,List.append_nil];rfl,Z,Z,Y⟩ fun ⟨j,pin,x,y⟩ hj t h=>?_
   obtain⟨r1,r2,r3⟩:=hj
   simp only at r1 r2 r3
   (refine yS<|yP Z<|yT<|an<|ak Z ?_;refine aa (fun j1=>?_) (fun j1=>?_) <;> try simp only[zB] at j1)
   all_goals try dsimp only at j1
   ·obtain⟨s,hs⟩:=aH (l:=l) (i:=j) (by omega)
    obtain⟨s1,s2⟩:=AI.2 s (List.mem_of_getElem? hs)
    have jX:=lH G0 hS hs
    have iW:=rM hp jX
    have a7:((bP o i++(dZ o p).take j).map uz).length=(bP o i).length+j:=by
     rw[List.length_map,List.length_append,List.length_take];omega
    have eW:=Bt (flip:=p.below) (q:=p.quarters) s1 s2
    have Fc:=nA jX
    (refine ar<|ah<|an<|aO<|yS<|yq Z<|aL zI ?_;refine⟨(gW s),(idx rfl hs),?_⟩)
    ((refine yk<|yP Z<|yn Z<|az zI<|aR<|ai<|yq Z<|az zI<|aX<|aM<|aU<|yU<|yV Z<|yP Z ?_;refine yV Z<|yq Z<|az zI<|aX<|aM<|aU<|yU<|yV Z<|yP Z<|yV Z<|yP Z<|yV Z<|yP Z<|yV Z ?_;refine yP Z<|yP Z<|yn Z<|aL zI ?_);refine⟨_,_,(lS p.below p.quarters s.x s.y p.x p.y s1 s2 ⟨p4,p5⟩ p2 p3),?_⟩)
    ((refine br Z Z<|ae<|yV Z<|yq Z<|az zI<|aX<|aM<|aU<|yT<|an<|yS<|yq Z<|az zI<|aX ?_;refine aG<|yP Z<|yP Z<|yT<|ak Z ?_);refine aa (fun j2=>?_) (fun j2=>?_) <;> try simp only[zB] at j2)
    all_goals try dsimp only at j2
    ·have e2:dP o=2:=lI r2 iW (by omega)
     (refine yS<|yn Z<|aL zI ?_;refine⟨_,_,II,?_⟩)
     ((refine br Z Z<|ae<|yB Z<|yq Z<|az zI<|aX<|aM<|aU<|yT<|aA<|af<|aq<|af<|af ?_;refine aq<|aq<|af<|af<|aq<|af<|aB zi ?_);refine And.intro ?_ trivial)
     rw[eV e2 (by decide),e2]
     rfl
    (refine ar<|ah<|an<|yS<|yV Z<|yP Z<|yn Z<|aL zI ?_;refine⟨_,_,(ka ((cQ p.below p.quarters s.x s.y).1+p.x) ((cQ p.below p.quarters s.x s.y).2+p.y)),?_⟩)
    (refine br Z Z<|ae<|yP Z<|yT<|ak Z ?_;refine aa (fun j3=>?_) (fun j3=>?_) <;> try simp only[zB] at j3)
    ·have j3:Ao (eu o p s)=false:=by simpa [Ao,eu] using j3
     have e1:dP o=1:=ik r2 iW (by omega) j3
     (refine yS<|yn Z<|aL zI ?_;refine⟨_,_,IJ,?_⟩)
     ((refine br Z Z<|ae<|yB Z<|yq Z<|az zI<|aX<|aM<|aU<|yT<|aA<|af<|aq<|af<|af ?_;refine aq<|aq<|af<|af<|aq<|af<|aB zi ?_);refine And.intro ?_ trivial)
     rw[eV e1 (by decide),e1]
     rfl
    have j3:Ao (eu o p s)=true:=by simpa [Ao,eu] using j3
    have hok:=rN iW (by omega) j3
    (refine ar<|ah<|aP<|yq Z<|az zI<|aX<|aG<|yP Z<|yn Z<|az zI<|aR<|aG<|yn Z<|bb zI ?_;refine And.intro ⟨by simp,by dsimp only;rw[a7];simp;omega,by dsimp only;rw[a7];simp;omega⟩ ?_)
    (refine aR<|aM<|aG<|dx Z<|cO Z Z Z Z Z<|dB<|aS<|ah<|aP<|yq Z<|bb zI ?_;refine And.intro ⟨by first | omega | (dsimp only;omega),by first | omega | (dsimp only;omega)⟩ ?_)
    (refine yk<|yP Z<|yT<|au ?_;refine⟨(j+1,s.pin,(cQ p.below p.quarters s.x s.y).1+p.x,(cQ p.below p.quarters s.x s.y).2+p.y),_,bg.refl _ _,?_⟩)
    exact⟨⟨by dsimp only;omega,fun k hk=>cw (i:=(bP o i).length+j) r2 hok k (by dsimp only at hk;omega),by dsimp only;omega⟩,by dsimp only;omega,⟨Z,Z,Z,Z,Z,Z,Z,Z,Z,Z,Z,Z,Y⟩,⟨rfl,rfl,rfl,by dsimp only;rw[Fc,<-List.append_assoc,List.map_append (l₂:=[eu o p s])];unfold eu;rw[Aq];rfl,Z,Z,Y⟩⟩
   have ej:j=l.length:=by omega
   rw[ej,<-hlen] at r2 r3
   (refine bF<|aQ<|aQ<|bG<|aS<|ah<|aP<|yq Z<|bb zI ?_;refine sI ?_)
   (refine yk<|yP Z<|yT<|au ?_;refine⟨(i+1),_,bg.refl _ _,?_⟩)
   exact⟨⟨by omega,by rw[jg,List.length_append];exact r2,by rw[jg,List.length_append];exact r3⟩,by omega,⟨Z,Z,Z,Z,Z,Z,Z,Y⟩,⟨rfl,rfl,rfl,by dsimp only;rw[jg,ej,<-hlen,List.take_length];rfl,trivial⟩⟩
 have e:i=o.places.length:=by omega
 have z0:dP o=0:=bp fun k _ hk=>q4 k (by rw[e,jW];omega)
 ((refine bF<|aQ<|aQ<|bG<|ah<|yS<|yq Z<|az zI<|aX<|aG<|yP Z<|dx Z<|cO Z Z Z Z Z<|yq Z ?_;refine az zI<|aX<|aM<|aU<|yR zi ?_);refine And.intro ?_ trivial)
 rw[mS,z0,if_pos rfl,e,jW]
 rfl
theorem uB (o:Order) (hg:nz o):aw C 29 [.pv (.ag (nH o))] (.tu [mS o,i64 (dP o)]) []:=by
 refine aE hC Tryz.func29 rfl rfl 79 rfl (by decide) (by kernel_rfl) fun _ _ _ _ _=>?_
 have lp:=aJ o.places lY
 have O_:=aJ o.plots fun p=>cS p
 have Nk:=hg.plots
 have Lp:=hg.feet.2
 have oa:=hg.ok.places.1
 have Iu:=hg.ok.stack.1
 have Jn:=kG o.stack
 have O9:=hg.parts.2
 (refine yS<|yn Z<|az zI<|aR<|ai<|yB Z<|yA Z<|yU<|yB Z<|yT<|an<|yS<|yV Z<|yP Z ?_;refine yP Z<|yP Z<|yT<|aO ?_)
 refine aC (fun i:Nat=>i<=o.places.length/\(∀k,k < (bP o i).length->fv (d_ o) k=0)/\(bP o i).length<=1000) (fun i=>[(1,.bx 1 0),(4,.ow 4),(14,.p (.sl (o.places.map lY))),(15,.p (i64 o.places.length)),(16,.p (i64 i))]) (fun i=>[(1,.box ((nH o).map .p)),(4,.row 54 ((bP o i).map uz))]) (fun i=>o.places.length - i) 0 _ (bg.iN hC _ 4 54 _ (by decide) rfl rfl (by decide)) ⟨Nat.zero_le _,fun k hk=>by simp[bP] at hk,by simp[bP]⟩ ⟨rfl,rfl,rfl,congrArg (fun n:Nat=>AV.p (i64 n)) lp,Z,Y⟩ ⟨Z,Z,Y⟩ fun i hi t h=>?_
 obtain⟨q3,q4,q5⟩:=hi
 (refine yS<|yP Z<|yT<|an<|ak Z ?_;refine aa (fun h2=>?_) (fun h2=>?_) <;> try simp only[zB] at h2)
 ·obtain⟨p,hp⟩:=aH (l:=o.places) (i:=i) (by omega)
  obtain⟨p1,p2,p3,p4,p5⟩:=hg.places p (List.mem_of_getElem? hp)
  have jg:=lG hp
  have Lw:=wO o p.type (by omega)
  have AI:=qj hg (x:=p.type)
  (refine ar<|ah<|an<|aO<|yS<|yq Z<|aL zI ?_;refine⟨(lY p),(idx rfl hp),?_⟩)
  cases hS:dY o.feet p.type with
  | none=>
   rw[hS] at Lw
   rw[mT hS,List.append_nil] at jg
   ((refine yk<|yP Z<|yn Z<|az zI<|aR<|ai<|yq Z<|az zI<|aX<|aM<|aU<|yU<|yP Z<|yV Z ?_;refine yP Z<|yn Z<|aL zI ?_);refine⟨_,_,Lw,?_⟩)
   ((refine br Z Z<|bU<|yq Z<|az zI<|aX<|bU<|yP Z<|yP Z<|yA Z<|yA Z<|yT<|an<|yS<|yP Z ?_;refine yP Z<|yP Z<|y0 Z<|y0 Z<|y0 Z<|y0 Z<|yP Z<|yT<|ak Z<|cu<|bF<|aQ<|bG<|ah ?_;refine aP<|yq Z<|bb zI ?_);refine sI ?_)
   (refine yk<|yP Z<|yT<|au ?_;refine⟨(i+1),_,bg.refl _ _,?_⟩)
   exact⟨⟨by omega,by rw[jg];exact q4,by rw[jg];exact q5⟩,by omega,⟨Z,Z,Z,Z,Z,Y⟩,⟨rfl,by rw[jg];rfl,trivial⟩⟩
  | some l=>
   rw[hS] at Lw
   rw[hS,Option.getD_some] at AI
   have ls:=aJ l gW
   ((refine yk<|yP Z<|yn Z<|az zI<|aR<|ai<|yq Z<|az zI<|aX<|aM<|aU<|yU<|yP Z<|yV Z ?_;refine yP Z<|yn Z<|aL zI ?_);refine⟨_,_,Lw,?_⟩)
   ((refine br Z Z<|bU<|yq Z<|az zI<|aX<|bU<|yP Z<|yP Z<|yA Z<|yA Z<|yT<|an<|yS<|yP Z ?_;refine yP Z<|yP Z<|y1 Z<|y1 Z<|y2 Z<|cx Z Z Z<|aL zI ?_);refine⟨_,_,(wN o p (by omega)),?_⟩)
   (refine br Z Z<|ae<|y1 Z<|yP Z<|yT<|ak Z ?_;refine aa (fun h3=>?_) (fun h3=>?_) <;> try simp only[zB] at h3)
   ·have h3:iy o p=false:=by simpa using h3
    rw[u_ h3,List.append_nil] at jg
    (refine bF<|aQ<|bG<|ah<|aP<|yq Z<|bb zI ?_;refine sI ?_)
    (refine yk<|yP Z<|yT<|au ?_;refine⟨(i+1),_,bg.refl _ _,?_⟩)
    exact⟨⟨by omega,by rw[jg];exact q4,by rw[jg];exact q5⟩,by omega,⟨Z,Z,Z,Z,Z,Y⟩,⟨rfl,by rw[jg];rfl,trivial⟩⟩
   have G0:iy o p=true:=by simpa using h3
   have hlen:=oB G0 hS
   (refine ar<|ah<|yS<|yA Z<|yT<|an<|yS<|yV Z<|yP Z<|yT<|ak Z ?_;refine aa (fun h4=>?_) (fun h4=>?_) <;> try simp only[zB] at h4)
   ·have Aq:lF o p=(((o.plots.map fun p=>cS p).length:Nat):Int) - 1:=by rw[lF,if_pos h4,O_,Nk]
    (refine aP<|yV Z<|yP Z<|yP Z<|yq Z<|bb zI ?_;refine sI ?_)
    refine yk<|yA Z<|yU<|yP Z<|yP Z<|yP Z<|yT<|aO ?_
    refine aC (fun j:Nat=>j<=l.length/\(∀k,k < (bP o i).length+j->fv (d_ o) k=0)/\(bP o i).length+j<=1000) (fun j=>[(1,.bx 1 0),(4,.ow 4),(14,.p (.sl (o.places.map lY))),(15,.p (i64 o.places.length)),(16,.p (i64 i)),(6,.bx 6 0),(9,.p (i64 ((((o.plots.map fun p=>cS p).length:Nat):Int) - 1))),(41,.p (.sl (l.map gW))),(42,.p (i64 l.length)),(43,.p (i64 j))]) (fun j=>[(1,.box ((nH o).map .p)),(4,.row 54 ((bP o i++(dZ o p).take j).map uz)),(6,.box ((lY p).map .p))]) (fun j=>l.length - j) 0 _ (bg.refl _ _) ⟨Nat.zero_le _,q4,q5⟩ ⟨rfl,rfl,rfl,rfl,rfl,rfl,rfl,rfl,congrArg (fun n:Nat=>AV.p (i64 n)) ls,Z,Y⟩ ⟨rfl,by rw[List.take_zero,List.append_nil];rfl,Z,Y⟩ fun j hj t h=>?_
    obtain⟨r1,r2,r3⟩:=hj
    (refine yS<|yP Z<|yT<|an<|ak Z ?_;refine aa (fun j1=>?_) (fun j1=>?_) <;> try simp only[zB] at j1)
    ·obtain⟨s,hs⟩:=aH (l:=l) (i:=j) (by omega)
     obtain⟨s1,s2⟩:=AI.2 s (List.mem_of_getElem? hs)
     have jX:=lH G0 hS hs
     have iW:=rM hp jX
     have a7:((bP o i++(dZ o p).take j).map uz).length=(bP o i).length+j:=by
      rw[List.length_map,List.length_append,List.length_take];omega
     have Fc:=nA jX
     (refine ar<|ah<|an<|aO<|yS<|yq Z<|aL zI ?_;refine⟨(gW s),(idx rfl hs),?_⟩)
     ((refine yk (yP Z (yn Z (az zI (aR (ai (yq Z (az zI (aX (aM (aU (yT (an (cF [] false Ko rfl (by kernel_rfl) ?_)))))))))))));refine aK Z<|aK Z<|aK Z<|aK Z<|aK Z<|aK Z<|aK Z<|aK Z<|eG Z Z<|aK Z<|eG Z Z<|cE Z<|yW Z<|yD Z ?_;refine yW Z<|yD Z<|yD Z<|yD Z<|yW Z<|yD Z<|dq Z<|aL zI ?_);refine⟨_,_,(pB p s.x s.y s1 s2 ⟨p4,p5⟩ p2 p3),?_⟩)
     ((refine bM<|ae<|yD Z<|dq Z<|az zI<|vN Z Z<|ai<|dq Z<|az zI<|tV Z<|aM<|aU<|bR<|bS Z ?_;refine ah<|an<|yS<|yq Z<|az zI<|aX<|aG<|yP Z<|yP Z<|yT<|ak Z ?_);refine aa (fun j2=>?_) (fun j2=>?_) <;> try simp only[zB] at j2)
     ·have e2:dP o=2:=lI r2 iW (by omega)
      ((refine yS<|yB Z<|yA Z<|yT<|aA<|af<|aq<|af<|af<|aq<|aq<|af<|af<|aq ?_;refine af<|aB zi ?_);refine And.intro ?_ trivial)
      rw[eV e2 (by decide),e2]
      rfl
     (refine ar<|ah<|an<|yS<|yV Z<|yV Z<|yP Z<|yn Z<|aL zI ?_;refine⟨_,_,(fV ((cQ p.below p.quarters s.x s.y).1+p.x) (-1000000) 1000000),?_⟩)
     (refine br Z Z<|ae<|yP Z<|yP Z<|yg Z ?_;refine aa (fun j3=>?_) (fun j3=>?_) <;> try simp only[zB] at j3)
     ·have j3:er ((cQ p.below p.quarters s.x s.y).1+p.x) (-1000000) 1000000=false:=by simpa using j3
      have j4:Ao (eu o p s)=false:=by
       show (er ((cQ p.below p.quarters s.x s.y).1+p.x) (-1000000) 1000000 && _)=false
       rw[j3];rfl
      have e1:dP o=1:=ik r2 iW (by omega) j4
      ((refine aT<|ae<|y0 Z<|y0 Z<|y0 Z<|y0 Z<|yP Z<|yT<|ak Z<|cu<|yS<|yB Z<|yA Z<|yT ?_;refine aA<|af<|aq<|af<|af<|aq<|aq<|af<|af<|aq<|af<|aB zi ?_);refine And.intro ?_ trivial)
      rw[eV e1 (by decide),e1]
      rfl
     have j3:er ((cQ p.below p.quarters s.x s.y).1+p.x) (-1000000) 1000000=true:=by simpa using j3
     (refine aV<|aN Z Z<|az zI<|aX<|ai<|y2 Z<|aN Z Z<|az zI<|aX<|ai<|y1 Z<|y2 Z<|cx Z Z Z<|aL zI ?_;refine⟨_,_,(fV ((cQ p.below p.quarters s.x s.y).2+p.y) (-1000000) 1000000),?_⟩)
     have EM:Ao (eu o p s)=er ((cQ p.below p.quarters s.x s.y).2+p.y) (-1000000) 1000000:=by
      show (er ((cQ p.below p.quarters s.x s.y).1+p.x) (-1000000) 1000000 && er ((cQ p.below p.quarters s.x s.y).2+p.y) (-1000000) 1000000)=_
      rw[j3,Bool.true_and]
     (refine br Z Z<|ae<|y1 Z<|yP Z<|yT<|ak Z ?_;refine aa (fun j5=>?_) (fun j5=>?_) <;> try simp only[zB] at j5)
     ·have e1:dP o=1:=ik r2 iW (by omega) (by rw[EM];simpa using j5)
      ((refine yS<|yB Z<|yA Z<|yT<|aA<|af<|aq<|af<|af<|aq<|aq<|af<|af<|aq ?_;refine af<|aB zi ?_);refine And.intro ?_ trivial)
      rw[eV e1 (by decide),e1]
      rfl
     have hok:=rN iW (by omega) (by rw[EM];simpa using j5)
     (refine ar<|ah<|aP<|yq Z<|az zI<|aX<|aG<|yP Z<|yn Z<|az zI<|aR<|aG<|yn Z<|bb zI ?_;refine And.intro ⟨by simp,by rw[a7];simp;omega,by rw[a7];simp;omega⟩ ?_)
     (refine aR<|aM<|aG<|dx Z<|cO Z Z Z Z Z<|dB<|aS<|ah<|aP<|yq Z<|bb zI ?_;refine sI ?_)
     (refine yk<|yP Z<|yT<|au ?_;refine⟨(j+1),_,bg.refl _ _,?_⟩)
     exact⟨⟨by omega,fun k hk=>cw (i:=(bP o i).length+j) r2 hok k (by omega),by omega⟩,by omega,⟨Z,Z,Z,Z,Z,Z,Z,Z,Z,Z,Y⟩,⟨rfl,by rw[Fc,<-List.append_assoc,List.map_append (l₂:=[eu o p s])];unfold eu;rw[Aq];rfl,Z,Y⟩⟩
    have ej:j=l.length:=by omega
    rw[ej,<-hlen] at r2 r3
    (refine bF<|aQ<|aQ<|bG<|aS<|ah<|aP<|yq Z<|bb zI ?_;refine sI ?_)
    (refine yk<|yP Z<|yT<|au ?_;refine⟨(i+1),_,bg.refl _ _,?_⟩)
    exact⟨⟨by omega,by rw[jg,List.length_append];exact r2,by rw[jg,List.length_append];exact r3⟩,by omega,⟨Z,Z,Z,Z,Z,Y⟩,⟨rfl,by rw[jg,ej,<-hlen,List.take_length];rfl,trivial⟩⟩
   have Aq:lF o p=0:=by rw[lF,if_neg (by simp[h4])]
   refine ar<|ah<|yS<|yP Z<|yP Z<|yP Z<|yT<|aO ?_
   refine aC (fun j:Nat=>j<=l.length/\(∀k,k < (bP o i).length+j->fv (d_ o) k=0)/\(bP o i).length+j<=1000) (fun j=>[(1,.bx 1 0),(4,.ow 4),(14,.p (.sl (o.places.map lY))),(15,.p (i64 o.places.length)),(16,.p (i64 i)),(6,.bx 6 0),(9,.p (i64 (0))),(41,.p (.sl (l.map gW))),(42,.p (i64 l.length)),(43,.p (i64 j))]) (fun j=>[(1,.box ((nH o).map .p)),(4,.row 54 ((bP o i++(dZ o p).take j).map uz)),(6,.box ((lY p).map .p))]) (fun j=>l.length - j) 0 _ (bg.refl _ _) ⟨Nat.zero_le _,q4,q5⟩ ⟨rfl,rfl,rfl,rfl,rfl,rfl,rfl,rfl,congrArg (fun n:Nat=>AV.p (i64 n)) ls,Z,Y⟩ ⟨rfl,by rw[List.take_zero,List.append_nil];rfl,Z,Y⟩ fun j hj t h=>?_
   obtain⟨r1,r2,r3⟩:=hj
   (refine yS<|yP Z<|yT<|an<|ak Z ?_;refine aa (fun j1=>?_) (fun j1=>?_) <;> try simp only[zB] at j1)
   ·obtain⟨s,hs⟩:=aH (l:=l) (i:=j) (by omega)
    obtain⟨s1,s2⟩:=AI.2 s (List.mem_of_getElem? hs)
    have jX:=lH G0 hS hs
    have iW:=rM hp jX
    have a7:((bP o i++(dZ o p).take j).map uz).length=(bP o i).length+j:=by
     rw[List.length_map,List.length_append,List.length_take];omega
    have Fc:=nA jX
    (refine ar<|ah<|an<|aO<|yS<|yq Z<|aL zI ?_;refine⟨(gW s),(idx rfl hs),?_⟩)
    ((refine yk (yP Z (yn Z (az zI (aR (ai (yq Z (az zI (aX (aM (aU (yT (an (cF [] false Ko rfl (by kernel_rfl) ?_)))))))))))));refine aK Z<|aK Z<|aK Z<|aK Z<|aK Z<|aK Z<|aK Z<|aK Z<|eG Z Z<|aK Z<|eG Z Z<|cE Z<|yW Z<|yD Z ?_;refine yW Z<|yD Z<|yD Z<|yD Z<|yW Z<|yD Z<|dq Z<|aL zI ?_);refine⟨_,_,(pB p s.x s.y s1 s2 ⟨p4,p5⟩ p2 p3),?_⟩)
    ((refine bM<|ae<|yD Z<|dq Z<|az zI<|vN Z Z<|ai<|dq Z<|az zI<|tV Z<|aM<|aU<|bR<|bS Z ?_;refine ah<|an<|yS<|yq Z<|az zI<|aX<|aG<|yP Z<|yP Z<|yT<|ak Z ?_);refine aa (fun j2=>?_) (fun j2=>?_) <;> try simp only[zB] at j2)
    ·have e2:dP o=2:=lI r2 iW (by omega)
     ((refine yS<|yB Z<|yA Z<|yT<|aA<|af<|aq<|af<|af<|aq<|aq<|af<|af<|aq ?_;refine af<|aB zi ?_);refine And.intro ?_ trivial)
     rw[eV e2 (by decide),e2]
     rfl
    (refine ar<|ah<|an<|yS<|yV Z<|yV Z<|yP Z<|yn Z<|aL zI ?_;refine⟨_,_,(fV ((cQ p.below p.quarters s.x s.y).1+p.x) (-1000000) 1000000),?_⟩)
    (refine br Z Z<|ae<|yP Z<|yP Z<|yg Z ?_;refine aa (fun j3=>?_) (fun j3=>?_) <;> try simp only[zB] at j3)
    ·have j3:er ((cQ p.below p.quarters s.x s.y).1+p.x) (-1000000) 1000000=false:=by simpa using j3
     have j4:Ao (eu o p s)=false:=by
      show (er ((cQ p.below p.quarters s.x s.y).1+p.x) (-1000000) 1000000 && _)=false
      rw[j3];rfl
     have e1:dP o=1:=ik r2 iW (by omega) j4
     ((refine aT<|ae<|y0 Z<|y0 Z<|y0 Z<|y0 Z<|yP Z<|yT<|ak Z<|cu<|yS<|yB Z<|yA Z<|yT ?_;refine aA<|af<|aq<|af<|af<|aq<|aq<|af<|af<|aq<|af<|aB zi ?_);refine And.intro ?_ trivial)
     rw[eV e1 (by decide),e1]
     rfl
    have j3:er ((cQ p.below p.quarters s.x s.y).1+p.x) (-1000000) 1000000=true:=by simpa using j3
    (refine aV<|aN Z Z<|az zI<|aX<|ai<|y2 Z<|aN Z Z<|az zI<|aX<|ai<|y1 Z<|y2 Z<|cx Z Z Z<|aL zI ?_;refine⟨_,_,(fV ((cQ p.below p.quarters s.x s.y).2+p.y) (-1000000) 1000000),?_⟩)
    have EM:Ao (eu o p s)=er ((cQ p.below p.quarters s.x s.y).2+p.y) (-1000000) 1000000:=by
     show (er ((cQ p.below p.quarters s.x s.y).1+p.x) (-1000000) 1000000 && er ((cQ p.below p.quarters s.x s.y).2+p.y) (-1000000) 1000000)=_
     rw[j3,Bool.true_and]
    (refine br Z Z<|ae<|y1 Z<|yP Z<|yT<|ak Z ?_;refine aa (fun j5=>?_) (fun j5=>?_) <;> try simp only[zB] at j5)
    ·have e1:dP o=1:=ik r2 iW (by omega) (by rw[EM];simpa using j5)
     ((refine yS<|yB Z<|yA Z<|yT<|aA<|af<|aq<|af<|af<|aq<|aq<|af<|af<|aq ?_;refine af<|aB zi ?_);refine And.intro ?_ trivial)
     rw[eV e1 (by decide),e1]
     rfl
    have hok:=rN iW (by omega) (by rw[EM];simpa using j5)
    (refine ar<|ah<|aP<|yq Z<|az zI<|aX<|aG<|yP Z<|yn Z<|az zI<|aR<|aG<|yn Z<|bb zI ?_;refine And.intro ⟨by simp,by rw[a7];simp;omega,by rw[a7];simp;omega⟩ ?_)
    (refine aR<|aM<|aG<|dx Z<|cO Z Z Z Z Z<|dB<|aS<|ah<|aP<|yq Z<|bb zI ?_;refine sI ?_)
    (refine yk<|yP Z<|yT<|au ?_;refine⟨(j+1),_,bg.refl _ _,?_⟩)
    exact⟨⟨by omega,fun k hk=>cw (i:=(bP o i).length+j) r2 hok k (by omega),by omega⟩,by omega,⟨Z,Z,Z,Z,Z,Z,Z,Z,Z,Z,Y⟩,⟨rfl,by rw[Fc,<-List.append_assoc,List.map_append (l₂:=[eu o p s])];unfold eu;rw[Aq];rfl,Z,Y⟩⟩
   have ej:j=l.length:=by omega
   rw[ej,<-hlen] at r2 r3
   (refine bF<|aQ<|aQ<|bG<|aS<|ah<|aP<|yq Z<|bb zI ?_;refine sI ?_)
   (refine yk<|yP Z<|yT<|au ?_;refine⟨(i+1),_,bg.refl _ _,?_⟩)
   exact⟨⟨by omega,by rw[jg,List.length_append];exact r2,by rw[jg,List.length_append];exact r3⟩,by omega,⟨Z,Z,Z,Z,Z,Y⟩,⟨rfl,by rw[jg,ej,<-hlen,List.take_length];rfl,trivial⟩⟩
 have e:i=o.places.length:=by omega
 have z0:dP o=0:=bp fun k _ hk=>q4 k (by rw[e,jW];omega)
 (refine bF<|aQ<|aQ<|bG<|ah<|yS<|yq Z<|az zI<|aX<|aG<|dx Z<|cO Z Z Z Z Z<|yA Z<|yR zi ?_;refine And.intro ?_ trivial)
 rw[mS,z0,if_pos rfl,e,jW]
 rfl
def jE (o:Order):List PV:=if (dn o).1=0 then (if dP o=0 then [mS o,str aF,i64 0] else [.sl [],str rL,i64 (dP o)]) else [.sl [],str (dn o).2,i64 (dn o).1]
theorem yw (o:Order) (ho:f_ o):aw C 8 [.pv (.ag (nH o))] (.tu (jE o)) []:=by
 refine aE hC Tryz.func8 rfl rfl 25 rfl (by decide) (by kernel_rfl) fun _ _ _ _ _=>?_
 have Pa:=qX o ho
 have KY:=Ey (dn o).1 (dn o).2
 (refine yS<|yn Z<|az zI<|aR<|ai<|yB Z<|yA Z<|yA Z<|yU<|yP Z<|yn Z<|aL zI ?_;refine⟨_,_,Pa,?_⟩)
 ((refine br Z Z<|ae<|yn Z<|az zI<|aR<|ai<|yq Z<|az zI<|aX<|aM<|aU<|yT<|an<|yS ?_;refine yP Z<|yn Z<|aL zI ?_);refine⟨_,_,KY,?_⟩)
 (refine br Z Z<|ae<|yT<|ak Z ?_;refine aa (fun h1=>?_) (fun h1=>?_) <;> try simp only[zB] at h1)
 ·((refine an<|cF [] false I_ rfl (by kernel_rfl)<|cE Z<|yW Z<|yD Z<|yW Z<|yD Z<|dq Z<|az zI<|bM<|vM<|yD Z<|yD Z<|bR ?_;refine ao Z<|ao Z<|ao Z<|ao Z<|dH Z Z<|dH Z Z<|dH Z Z<|bS Z<|ah<|aA<|af<|aB zi ?_);refine And.intro ?_ trivial)
  rw[jE,if_neg h1]
  try rfl
 have h1:(dn o).1=0:=by simpa using h1
 have hl:=yu o (tE ho h1)
 by_cases e:dP o=0
 ·rw[e,EV,if_pos rfl] at hl
  (refine ar<|ah<|yS<|yP Z<|yn Z<|aL zI ?_;refine⟨_,_,hl,?_⟩)
  ((refine br Z Z<|bU<|yq Z<|az zI<|aX<|bU<|yP Z<|yP Z<|yA Z<|yq Z<|az zI<|aX<|aM<|aU ?_;refine yT<|an<|cF [] false Km rfl (by kernel_rfl)<|cE Z<|yD Z<|yW Z<|yD Z<|yW Z<|yD Z<|yD Z<|yD Z<|yD Z<|bR<|ao Z ?_;refine ao Z<|ao Z<|ao Z<|ao Z<|dH Z Z<|dH Z Z<|dH Z Z<|bS Z<|ah<|aA<|aB zi ?_);refine And.intro ?_ trivial)
  rw[jE,if_pos h1,if_pos e];rfl
 rw[EV,if_neg e] at hl
 (refine ar<|ah<|yS<|yP Z<|yn Z<|aL zI ?_;refine⟨_,_,hl,?_⟩)
 ((refine br Z Z<|bU<|yq Z<|az zI<|aX<|bU<|yP Z<|yP Z<|yA Z<|yq Z<|az zI<|aX<|aM<|aU ?_;refine yT<|an<|cF [] false Km rfl (by kernel_rfl)<|cE Z<|yD Z<|yW Z<|yD Z<|yW Z<|yD Z<|yD Z<|yD Z<|yD Z<|bR<|ao Z ?_;refine ao Z<|ao Z<|ao Z<|ao Z<|dH Z Z<|dH Z Z<|dH Z Z<|bS Z<|ah<|aA<|aB zi ?_);refine And.intro ?_ trivial)
 rw[jE,if_pos h1,if_neg e,eV rfl e];rfl
theorem yx (o:Order) (ho:f_ o):aw C 9 [.pv (.ag (nH o))] (.tu (jE o)) []:=by
 refine aE hC Tryz.func9 rfl rfl 27 rfl (by decide) (by kernel_rfl) fun _ _ _ _ _=>?_
 (refine yS<|yn Z<|az zI<|aR<|ai<|yB Z<|yA Z<|yA Z<|yT<|an<|yS<|yP Z<|yn Z<|aL zI ?_;refine⟨_,_,(kI o ho),?_⟩)
 ((refine br Z Z<|bU<|yq Z<|az zI<|aX<|bU<|yP Z<|yP Z<|yA Z<|yA Z<|yU<|yP Z<|yP Z<|yT ?_;refine ak Z ?_);refine aa (fun h1=>?_) (fun h1=>?_) <;> try simp only[zB] at h1)
 ·have h1:¬(dn o).1=0:=h1
  (refine yS<|yP Z<|yP Z<|yB Z<|yA Z<|yA Z<|yT<|aA<|af<|aB zi ?_;refine And.intro ?_ trivial)
  rw[jE,if_neg h1]
  try rfl
 have h1:(dn o).1=0:=by simpa using h1
 (refine ar<|ah<|yS<|yP Z<|yn Z<|aL zI ?_;refine⟨_,_,(uB o (tE ho h1)),?_⟩)
 ((refine br Z Z<|bU<|yq Z<|az zI<|aX<|bU<|yP Z<|yP Z<|yA Z<|yA Z<|yT<|an<|yS<|yP Z ?_;refine yP Z<|yT<|ak Z ?_);refine aa (fun h2=>?_) (fun h2=>?_) <;> try simp only[zB] at h2)
 ·have h2:¬dP o=0:=h2
  (refine yS<|yP Z<|yB Z<|yA Z<|yA Z<|yT<|aA<|af<|aB zi ?_;refine And.intro ?_ trivial)
  rw[jE,if_pos h1,if_neg h2];rfl
 have h2:dP o=0:=by simpa using h2
 (refine ar<|ah<|yS<|yP Z<|yA Z<|yA Z<|yA Z<|yR zi ?_;refine And.intro ?_ trivial)
 rw[jE,if_pos h1,if_pos h2]
 try rfl
theorem mU (l:List kJ) (hN:l.length<=140737488355328):aw C 10 [.pv (.sl (l.map uz)),.pv (.sl (l.map uz))] (.p (bool true)) []:=by
 refine aE hC Tryz.func10 rfl rfl 26 rfl (by decide) (by kernel_rfl) fun _ _ _ _ _=>?_
 have lm:=aJ l uz
 (refine yS<|yA Z<|yT<|an<|yS<|yP Z<|yP Z<|yP Z<|yP Z<|yP Z<|yT<|ak Z ?_;refine aa (fun g1=>?_) (fun g1=>?_) <;> try simp only[zB] at g1)
 ·exact absurd trivial g1
 refine ar<|ah<|an<|yS<|yP Z<|yP Z<|yP Z<|yT<|aO ?_
 refine aC (fun i:Nat=>i<=l.length) (fun i=>[(0,.p (.sl (l.map uz))),(1,.p (.sl (l.map uz))),(12,.p (i64 (l.map uz).length)),(13,.p (i64 i))]) (fun _=>[]) (fun i=>l.length - i) 0 _ (bg.refl _ _) (Nat.zero_le _) ⟨Z,Z,Z,Z,Y⟩ trivial fun i hi t h=>?_
 (refine yS<|yP Z<|yT<|an<|ak Z ?_;refine aa (fun h1=>?_) (fun h1=>?_) <;> try simp only[zB] at h1)
 ·rw[lm] at h1
  obtain⟨r,hr⟩:=aH (l:=l) (i:=i) (by omega)
  ((refine ar<|ah<|an<|aO<|yS<|yP Z<|yA Z<|yT<|an<|cF [] false Ja rfl (by kernel_rfl)<|cE Z<|yD Z<|yD Z<|dq Z ?_;refine aL zI ?_);refine⟨(uz r),(idx rfl hr),?_⟩)
  (refine bM<|ae<|yD Z<|yD Z<|yD Z<|dq Z<|aL zI ?_;refine⟨(uz r),(idx rfl hr),?_⟩)
  (refine bM<|ae<|yD Z<|yD Z<|bR<|bS Z<|ah<|ak Z ?_;refine aa (fun h2=>?_) (fun h2=>?_) <;> try simp only[zB] at h2)
  ·exfalso;simp at h2
  (refine ar<|aS<|ah<|aP<|yq Z<|bb zI ?_;refine sI ?_)
  (refine yk<|yP Z<|yT<|au ?_;refine⟨(i+1),_,bg.refl _ _,?_⟩)
  exact⟨by omega,by omega,⟨Z,Z,Z,Z,Y⟩,trivial⟩
 (refine bF<|aQ<|aQ<|bG<|ah<|yS<|yA Z<|yR zi ?_;refine And.intro ?_ trivial)
 rfl
def p0:fM:=⟨0,[],.nil⟩
def o0:Order:=⟨[],⟨[],[]⟩,[],[],[],p0,[],[],[],[],⟨0,0,0,0,0,[],[]⟩⟩
theorem EF:mK p0:=⟨⟨by decide,fun t ht=>by cases ht⟩,by decide,trivial⟩
theorem Cx:f_ o0 where
 types:=⟨by decide,fun t ht=>by cases ht⟩
 list:=⟨⟨by decide,fun t ht=>by cases ht⟩,by decide,fun t ht=>by cases ht⟩
 mats:=⟨by decide,fun t ht=>by cases ht⟩
 stack:=⟨by decide,fun t ht=>by cases ht⟩
 plots:=⟨by decide,fun t ht=>by cases ht⟩
 outline:=EF
 bores:=by decide
 bodies:=⟨by decide,fun t ht=>by cases ht⟩
 places:=⟨by decide,fun t ht=>by cases ht⟩
 feet:=⟨by decide,fun t ht=>by cases ht⟩
 rules:=⟨fun t ht=>(by cases ht),by decide,by decide⟩
theorem IK:dn o0=(3,wL):=by decide
theorem mV:aw C 11 [] (.p (bool true)) []:=by
 refine aE hC Tryz.func11 rfl rfl 14 rfl (by decide) (by kernel_rfl) fun _ _ _ _ _=>?_
 have h:=kH o0 Cx
 rw[IK] at h
 (refine yS<|yA Z<|yU<|yP Z<|yn Z<|aL zI ?_;refine⟨_,_,h,?_⟩)
 ((refine br Z Z<|bU<|yq Z<|az zI<|aX<|bU<|yP Z<|yP Z<|yA Z<|yA Z<|yU<|yP Z<|yP Z<|yP Z ?_;refine y1 Z<|y1 Z<|yP Z<|yA Z<|yR zi ?_);refine And.intro ?_ trivial)
 rfl
theorem Cy {o:Order} (h:dP o=0):(d_ o).length<=1000:=by
 rcases Nat.lt_or_ge 1000 (d_ o).length with h1 | h1
 ·have h2:=c_ h 1000 (Nat.zero_le _) (by omega)
  obtain⟨x,hx⟩:=aH (l:=d_ o) (i:=1000) h1
  simp only[fv,hx] at h2
  rw[if_pos (by decide)] at h2
  cases h2
 exact h1
theorem Ar (o:Order) (ho:f_ o):aw C 3 [.pv (.ag (nH o))] (.p (bool true)) []:=by
 refine aE hC Tryz.func3 rfl rfl 55 rfl (by decide) (by kernel_rfl) fun _ _ _ _ _=>?_
 have h1:=yw o ho
 have h2:=yx o ho
 (refine yS<|yn Z<|az zI<|aR<|ai<|yA Z<|yU<|yP Z<|yn Z<|aL zI ?_;refine⟨_,_,(kH o ho),?_⟩)
 (refine br Z Z<|bU<|yq Z<|az zI<|aX<|bU<|yP Z<|yP Z<|yA Z<|yA Z<|yU<|yP Z<|yn Z<|aL zI ?_;refine⟨_,_,(kI o ho),?_⟩)
 ((refine br Z Z<|bU<|yq Z<|az zI<|aX<|bU<|yP Z<|yP Z<|yA Z<|yA Z<|yT<|an<|yS<|yP Z ?_;refine yP Z<|yP Z<|yP Z<|yg Z ?_);refine aa (fun g1=>?_) (fun g1=>?_) <;> try simp only[zB] at g1)
 ·first | exact absurd trivial g1 | exact absurd g1 (by simp) | simp at g1
 (refine aV<|aN Z Z<|az zI<|yk<|y1 Z<|y1 Z<|yP Z<|yT<|ak Z ?_;refine aa (fun g2=>?_) (fun g2=>?_) <;> try simp only[zB] at g2)
 ·first | exact absurd trivial g2 | exact absurd g2 (by simp) | simp at g2
 by_cases e1:(dn o).1=0
 ·by_cases e2:dP o=0
  ·rw[jE,if_pos e1,if_pos e2,mS,if_pos e2] at h1 h2
   have he:=mU (d_ o) (by have:=Cy e2;omega)
   (refine ar<|ah<|yS<|yP Z<|yn Z<|aL zI ?_;refine⟨_,_,h1,?_⟩)
   ((refine br Z Z<|bU<|yq Z<|az zI<|aX<|bU<|yP Z<|yP Z<|yP Z<|yA Z<|yA Z<|yA Z<|yU<|yP Z ?_;refine yn Z<|aL zI ?_);refine⟨_,_,h2,?_⟩)
   ((refine br Z Z<|bU<|yq Z<|az zI<|aX<|bU<|yP Z<|yP Z<|yP Z<|yA Z<|yA Z<|yA Z<|yU<|yP Z ?_;refine yP Z<|yP Z<|yP Z<|y1 Z<|y1 Z<|y1 Z<|yP Z<|yP Z<|y1 Z<|y1 Z<|y2 Z<|cx Z Z Z<|aL zI ?_);refine⟨_,_,he,?_⟩)
   (refine br Z Z<|ae<|yP Z<|yP Z<|y2 Z<|cx Z Z Z<|aL zI ?_;refine⟨_,_,mV,?_⟩)
   (refine br Z Z<|ae<|yP Z<|yA Z<|yR zi ?_;refine And.intro ?_ trivial)
   rfl
  rw[jE,if_pos e1,if_neg e2] at h1 h2
  have he:=mU [] (by simp)
  (refine ar<|ah<|yS<|yP Z<|yn Z<|aL zI ?_;refine⟨_,_,h1,?_⟩)
  ((refine br Z Z<|bU<|yq Z<|az zI<|aX<|bU<|yP Z<|yP Z<|yP Z<|yA Z<|yA Z<|yA Z<|yU<|yP Z ?_;refine yn Z<|aL zI ?_);refine⟨_,_,h2,?_⟩)
  ((refine br Z Z<|bU<|yq Z<|az zI<|aX<|bU<|yP Z<|yP Z<|yP Z<|yA Z<|yA Z<|yA Z<|yU<|yP Z ?_;refine yP Z<|yP Z<|yP Z<|yg Z ?_);refine aa (fun g3=>?_) (fun g3=>?_) <;> try simp only[zB] at g3)
  rotate_left
  ·first | exact absurd trivial g3 | exact absurd g3 (by simp) | simp at g3
  (refine aV<|aN Z Z<|az zI<|yk<|y1 Z<|y1 Z<|yP Z<|yP Z<|y1 Z<|y1 Z<|y2 Z<|cx Z Z Z<|aL zI ?_;refine⟨_,_,he,?_⟩)
  (refine br Z Z<|ae<|yP Z<|yP Z<|y2 Z<|cx Z Z Z<|aL zI ?_;refine⟨_,_,mV,?_⟩)
  (refine br Z Z<|ae<|yP Z<|yA Z<|yR zi ?_;refine And.intro ?_ trivial)
  rfl
 rw[jE,if_neg e1] at h1 h2
 have he:=mU [] (by simp)
 (refine ar<|ah<|yS<|yP Z<|yn Z<|aL zI ?_;refine⟨_,_,h1,?_⟩)
 ((refine br Z Z<|bU<|yq Z<|az zI<|aX<|bU<|yP Z<|yP Z<|yP Z<|yA Z<|yA Z<|yA Z<|yU<|yP Z ?_;refine yn Z<|aL zI ?_);refine⟨_,_,h2,?_⟩)
 ((refine br Z Z<|bU<|yq Z<|az zI<|aX<|bU<|yP Z<|yP Z<|yP Z<|yA Z<|yA Z<|yA Z<|yU<|yP Z ?_;refine yP Z<|yP Z<|yP Z<|yg Z ?_);refine aa (fun g3=>?_) (fun g3=>?_) <;> try simp only[zB] at g3)
 rotate_left
 ·first | exact absurd trivial g3 | exact absurd g3 (by simp) | simp at g3
 (refine aV<|aN Z Z<|az zI<|yk<|y1 Z<|y1 Z<|yP Z<|yP Z<|yg Z ?_;refine aa (fun g4=>?_) (fun g4=>?_) <;> try simp only[zB] at g4)
 rotate_left
 ·first | exact absurd trivial g4 | exact absurd g4 (by simp) | simp at g4
 (refine aV<|aN Z Z<|az zI<|yk<|y1 Z<|y2 Z<|cx Z Z Z<|aL zI ?_;refine⟨_,_,he,?_⟩)
 (refine br Z Z<|ae<|yP Z<|yP Z<|y2 Z<|cx Z Z Z<|aL zI ?_;refine⟨_,_,mV,?_⟩)
 (refine br Z Z<|ae<|yP Z<|yA Z<|yR zi ?_;refine And.intro ?_ trivial)
 rfl
end M
end Go.Proofs.YtiaifckpmefinaaGreatDoor
namespace Go.Proofs.YtiaifckpmefinaaGreatDoor
open Go.ChangeShapes Go.WideShapes Go.ChangeAt Go.RowKit Go.AM
open Go.ChangeMaps (open_string shut_string)
open Go.Proofs.YtiaifckpmefinaaGreatDoor.M
namespace houseOrdersMatchSpec
theorem tF {P:Program} {f:FuncId} {fn:Func} {s:ChangeSpec} {c:OpenClaim} (IL:(laidOutB P)=true) (Gb:(mapsRowed P)=true) (IM:((c.inPlace == P.inPlace f))=true) (KZ:((c.unfollowed == P.unfollowed f))=true) (K0:((c.recurses == P.recurses f))=true) (Gc:((c.named == P.varsNamed f))=true) (K1:((c.plainKeys == P.plainKeys))=true) (Gd:(P.stopsHeard)=true) (Ge:(P.mayEnter)=true) (IN:((c.lifted == P.liftsFinal))=true) (IP:((P.make == some c.make))=true)
  (h_rest:(c.wf (OpenSpec.ofChange s) && true && fn.params.all (P.readableRec ·) && namedTie P c.named s.vars && (c.stops == []) && (P.stops == []) && (c.knobs == []) && (P.stopKnobs == []) && true && (c.maps == (fn.params.toList++s.plain.varTypes P).any (P.mapsRec ·)) && (c.ifaces == (fn.params.toList++s.plain.varTypes P).any (P.ifacesRec ·)) && (c.mapsOut == P.mapsAmong fn.resultTypes.toList) && (c.loops == (fn.params.toList++s.plain.varTypes P).any (P.loopsFrom ·)) && (c.wideKeys == (fn.params.toList++s.plain.varTypes P++fn.resultTypes.toList).any (P.wideKeysFrom ·)) && s.vars.all (P.varReadable ·) && fn.resultTypes.all (fun t=>P.readableRec t && decide (t < P.types.size)) && (c.ifacesOut == fn.resultTypes.toList.any (P.ifacesRec ·)) && (c.loopsOut == fn.resultTypes.toList.any (P.loopsFrom ·)) && c.shortTexts.isNone && (c.kinds == (if c.domain.isEmpty then [] else fn.params.toList.map fun t=>match P.underlying t with | some (.int k)=>some k | _=>none)) && (c.pinned == c.pinnedBy) && (c.veiled == (fn.params.toList++s.plain.varTypes P++fn.resultTypes.toList).any (P.veiledRec ·)) && c.veiledFits P fn.params.toList (fn.params.toList++s.plain.varTypes P++fn.resultTypes.toList))=true):joinedFacts P f fn s c=true:=by
 simp only[Bool.and_eq_true] at h_rest
 simp only[joinedFacts,Bool.and_eq_true]
 simp only[IL,Gb,IM,KZ,K0,Gc,K1,Gd,Ge,IN,IP,and_true]
 simp only[and_assoc,and_true] at h_rest ⊢
 exact h_rest
theorem IQ {W:World} (hL:laidMetH Tryz.prog Rows.houseOrdersMatchSpecUptoRow.laid W) (h:W.ShapedOpen Tryz.prog):M.Env (fun b=>b < W.heap.size) W:=by
 refine xW (Go.Proofs.cell_of_shapedOpen_int (zero:=#[.int .i64 0]) (t:=3) h (of_decide_eq_true (by kernel_rfl)) (by kernel_rfl) rfl (by kernel_rfl) (by kernel_rfl) Tryz.underlying3) ?_
 rw[MakeChecks.laidMetH_plain _ _ _ (by kernel_rfl)] at hL
 exact Lib.tabIs_of_head (rest:=Rows.houseOrdersMatchSpecUptoRow.laid.drop 3) M.H6 (by kernel_rfl) Tryz.underlying332 Tryz.underlying183 (by kernel_rfl) (by kernel_rfl) (laidMet.tail (laidMet.tail hL))
theorem EG (H:Type) (enc:TypeId×Value->H) (W:World) (base:Nat) (args:Array Value) (ds gs:List (DataW H)) (before:List MemPlace)
  (hval:∀(j:Nat) t v,Tryz.f3.params[j]?=some t->args[j]?=some v->Value.okWide Tryz.prog W .any base t v)
  (hW:DataW.Whole enc Tryz.prog Tryz.f3.params.toList Rows.houseOrdersMatchSpecSpec.vars false W args.toList ds gs before) (hk:Rows.uptoSmall H (ds++gs)=true) (hE:M.Env (fun b=>b < W.heap.size) W):
  Calls Tryz.prog 3 args W fun e W'=>∃v,e=.returned v/\Rows.houseOrdersMatchSpecSpec.post enc Tryz.prog Tryz.f3 false true false false W args v W':=by
 have Pb:=hW
 obtain⟨pp,q,Pc,hV,rfl,w4,EL⟩:=hW
 have hA:DataW.TrodAll enc Tryz.prog W 0 (fun _=>true) true Tryz.f3.params.toList args.toList ds pp:=Pc
 have again:=fun (W':World) (hb:Below W.heap.size W W')=>u4 KL hb (by kernel_rfl) hA hA.lt
 rw[Tryz.params3] at hA hval
 obtain⟨v0,Pz,d0,PA,p0,q0,hargs,rfl,PB,h0,r0⟩:=trodAll_cons hA
 obtain⟨rfl,rfl,rfl⟩:=trodAll_nil r0
 obtain rfl:args=#[v0]:=by cases args;simp_all
 obtain⟨rfl,rfl⟩:=trodVars_none hV
 obtain⟨_,w0,o,rfl,z0⟩:=zT (S:=fun b=>b < W.heap.size) Tryz.underlying43 (F_ fun _ h=>h) (hval 0 43 v0 rfl rfl) h0
 have Pd:f_ o:=z0 (F1 hk (List.mem_append_left _ (by repeat (first | exact List.mem_cons_self .. | apply List.mem_cons_of_mem))))
 refine (Ia (C:=C) (xs:=[.ag (nH o)]) (y:=.bool true) (Ar o Pd) hE (Cm (w0) D8)).mono fun e W' ⟨he,hb⟩=>?_
 subst he
 exact⟨_,rfl,uf (pa:=pp) (pv:=[]) Pb (fun _ _ _=>trodAll_cons_mk (shut_bool Tryz.underlying4 _) trodAll_mk0) (fun sp h=>again W' hb sp (fun p hp=>h p (List.mem_append_left _ hp))) (fun _ _=>rfl) rfl
  hb (ok_one (by kernel_rfl) rfl (okWide_bool_mk Tryz.underlying4 _))⟩
theorem reads (os:Os) {H:Type} (enc:TypeId×Value->H):∃places,DataW.whole enc Tryz.prog ((World.laidAll Tryz.prog os Rows.houseOrdersMatchSpecUptoRow.laid).forCall (fun _ _=>0) ⟨#[],#[.agg #[.slice none 0 0,.slice none 0 0,.slice none 0 0,.slice none 0 0,.slice none 0 0,.slice none 0 0,.int .i64 0,.slice none 0 0,.slice none 0 0,.slice none 0 0,.slice none 0 0,.slice none 0 0,.slice none 0 0,.int .i64 0,.int .i64 0,.int .i64 0,.int .i64 0,.int .i64 0,.slice none 0 0,.slice none 0 0]],[]⟩).memory Tryz.f3.params.toList Rows.houseOrdersMatchSpecSpec.vars false (#[.agg #[.slice none 0 0,.slice none 0 0,.slice none 0 0,.slice none 0 0,.slice none 0 0,.slice none 0 0,.int .i64 0,.slice none 0 0,.slice none 0 0,.slice none 0 0,.slice none 0 0,.slice none 0 0,.slice none 0 0,.int .i64 0,.int .i64 0,.int .i64 0,.int .i64 0,.int .i64 0,.slice none 0 0,.slice none 0 0]]:Array Value).toList 8=some ([.agg [.nil,.agg [.nil,.nil],.nil,.nil,.nil,.agg [.lit (.int .i64 0),.nil,.nil],.nil,.nil,.nil,.nil,.agg [.lit (.int .i64 0),.lit (.int .i64 0),.lit (.int .i64 0),.lit (.int .i64 0),.lit (.int .i64 0),.nil,.nil]]],[],places):=
 ⟨[],by kernel_rfl⟩
theorem lifted (os:Os) (started:os.Started) (H:Type) (enc:TypeId×Value->H) (F:Stop.Interp):
  ReturnsInHanded {} Tryz.checked os 3 .any ((Rows.OpenSpec.upto Rows.houseOrdersMatchSpecSpec).preRow enc Tryz.prog Tryz.f3 Rows.houseOrdersMatchSpecUptoRow.domain false Rows.houseOrdersMatchSpecUptoRow.laid) (((Rows.OpenSpec.upto Rows.houseOrdersMatchSpecSpec).at F).post enc Tryz.prog Tryz.f3 false true false false):=by
 obtain⟨places,hx⟩:=reads os enc
 refine returnsInHanded_of_row (C:=Tryz.checked) (s:=Rows.OpenSpec.upto Rows.houseOrdersMatchSpecSpec) own started (by kernel_rfl) Tryz.func3
  (rb (enc:=enc) (C:=Tryz.checked) (World.laidAll Tryz.prog os Rows.houseOrdersMatchSpecUptoRow.laid) #[.agg #[.slice none 0 0,.slice none 0 0,.slice none 0 0,.slice none 0 0,.slice none 0 0,.slice none 0 0,.int .i64 0,.slice none 0 0,.slice none 0 0,.slice none 0 0,.slice none 0 0,.slice none 0 0,.slice none 0 0,.int .i64 0,.int .i64 0,.int .i64 0,.int .i64 0,.int .i64 0,.slice none 0 0,.slice none 0 0]] (World.laidAll_os _ _ _) (World.shaped_of_ZipB (by kernel_rfl) (by kernel_rfl)) (by kernel_rfl)
   (OpenSpec.preRow_of_cond 8 hx (by kernel_rfl) (fun k hk=>by cases hk;kernel_rfl) (by kernel_rfl)
    (by rw[MakeChecks.laidMetH_plain _ _ _ (by kernel_rfl)];exact laidMet_laidAll _ (by kernel_rfl) (by kernel_rfl)))) ?_
 intro W base args ds gs before hval hW _ AK _ hL hsh _
 exact EG H enc W base args ds gs before hval hW (AK _ rfl) (IQ hL hsh)
theorem IS:laidOutB Tryz.prog=true:=by kernel_rfl
theorem Gf:mapsRowed Tryz.prog=true:=by kernel_rfl
theorem IT:(Rows.houseOrdersMatchSpecUptoRow.inPlace == Tryz.prog.inPlace 3)=true:=by kernel_rfl
theorem K2:(Rows.houseOrdersMatchSpecUptoRow.unfollowed == Tryz.prog.unfollowed 3)=true:=by kernel_rfl
theorem K3:(Rows.houseOrdersMatchSpecUptoRow.recurses == Tryz.prog.recurses 3)=true:=by kernel_rfl
theorem Gg:(Rows.houseOrdersMatchSpecUptoRow.named == Tryz.prog.varsNamed 3)=true:=by kernel_rfl
theorem K4:(Rows.houseOrdersMatchSpecUptoRow.plainKeys == Tryz.prog.plainKeys)=true:=by kernel_rfl
theorem Gh:Tryz.prog.stopsHeard=true:=by kernel_rfl
theorem Gi:Tryz.prog.mayEnter=true:=by kernel_rfl
theorem IU:(Rows.houseOrdersMatchSpecUptoRow.lifted == Tryz.prog.liftsFinal)=true:=by kernel_rfl
theorem IV:(Tryz.prog.make == some Rows.houseOrdersMatchSpecUptoRow.make)=true:=by kernel_rfl
theorem IW:false=Rows.houseOrdersMatchSpecUptoRow.goesBy Tryz.prog:=by kernel_rfl
theorem Gj:false=Tryz.prog.looks []:=by kernel_rfl
theorem Nl:Rows.houseOrdersMatchSpecUptoRow.wfByText (Rows.OpenSpec.upto Rows.houseOrdersMatchSpecSpec)=true:=by kernel_rfl
theorem dM:joinedFacts Tryz.prog 3 Tryz.f3 (Rows.OpenSpec.upto Rows.houseOrdersMatchSpecSpec).bare Rows.houseOrdersMatchSpecUptoRow=true:=
 tF IS Gf IT K2 K3 Gg K4 Gh Gi IU IV (by kernel_rfl)
theorem EH:Rows.HouseOrdersMatchSpecUptoSaid:=
 OpenClaim.holds_of_cond 3 Tryz.f3 rfl rfl rfl rfl rfl rfl rfl ⟨rfl,rfl,rfl,rfl,rfl⟩ rfl rfl rfl rfl rfl (by kernel_rfl) Tryz.func3 dM
  (of_decide_eq_true (by kernel_rfl)) (by unfold Func.isWrapper;first | (rw[if_pos (by decide +kernel)];kernel_rfl) | (rw[if_neg (by decide +kernel)];exact⟨rfl,rfl⟩))
  (fun os started H enc _ F=>by rw[OpenClaim.pre_eq_preRow];exact lifted os started H enc F)
theorem plain (f:FuncId) (fn:Func) (hf:Tryz.pinned.checked.prog.funcNamed Rows.houseOrdersMatchSpecUptoRow.func=some f) (Mk:Tryz.pinned.checked.prog.funcs[f]?=some fn):
  false=Tryz.pinned.checked.prog.looks []/\∀(j:Nat) t,fn.params[j]?=some t->Tryz.pinned.checked.prog.wantsStandIn t=false:=by
 obtain rfl:f=3:=Option.some.inj ((show Tryz.prog.funcNamed Rows.houseOrdersMatchSpecUptoRow.func=some 3 by kernel_rfl).symm.trans hf) |>.symm
 obtain rfl:fn=Tryz.f3:=(Option.some.inj (Tryz.func3.symm.trans Mk)).symm
 refine⟨Gj,fun j t ht=>?_⟩
 rw[Tryz.params3] at ht
 have hm:=Array.mem_of_getElem? ht
 have eo:((Tryz.f3.params.toList).all fun u=>!Tryz.prog.wantsStandIn u)=true:=by kernel_rfl
 exact (show Tryz.prog.wantsStandIn t=false by simpa using List.all_eq_true.1 eo t (by rw[Tryz.params3];simpa using hm))
theorem cardUpto:Rows.HouseOrdersMatchSpecUptoCardSaid:=
 Claim7.holds_tied_plain_at .later [] _ _ _ _ EH (fun _ h=>by cases h) Nl (fun _ h=>by cases h) houseOrdersMatchSpecUpto_row_tie rfl ⟨rfl,rfl⟩ (by kernel_rfl) rfl plain IW
end houseOrdersMatchSpec
end Go.Proofs.YtiaifckpmefinaaGreatDoor
