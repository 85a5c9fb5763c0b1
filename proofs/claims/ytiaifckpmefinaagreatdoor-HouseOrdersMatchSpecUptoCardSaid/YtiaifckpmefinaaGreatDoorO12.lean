/- Part 12 of 14 of the proof of HouseOrdersMatchSpec (the names are shortened by a program: the size of a claim is limited). -/
import Derived.Test.YtiaifckpmefinaaGreatDoorO11
import Derived.Lib.ItoaLen
import Derived.Lib.AppendIntMem
import Derived.Lib.SmallJoins
set_option linter.unusedVariables false
set_option linter.unusedSimpArgs false
set_option maxRecDepth 100000
set_option maxHeartbeats 8000000
namespace Go.Proofs.YtiaifckpmefinaaGreatDoor
namespace M
open Go.AM Go.RowKit Go.Lib
open bq (bw cv ff)
def qf (t:List bh) (x:p_) (i:Nat):Int:=match x.nets[i]? with
 | some n=>if eT n.name=true then (if n.pins.length=0 then 9 else nq (dz t x.parts (cA (x.nets.take i)) n.pins) (if 0 < n.ports.length then 3 else if bE (x.nets.map Net.name) i=true then 8 else 0)) else 5
 | none=>0
def ij (t:List bh) (x:p_):Int:=if 1000 < x.nets.length then 2 else a8 (qf t x) 0 x.nets.length
def dL (t:List bh) (x:p_):Int:=nq (cz t) (nq (dm t x.parts) (ij t x))
structure qg (x:p_):Prop where
 parts:x.parts.length<=1048576/\∀p∈x.parts,bO p.name/\bO p.type
 nets:x.nets.length<=1048576/\∀n∈x.nets,bO n.name/\n.pins.length<=1048576/\n.ports.length<=1048576
theorem Bm {t:List bh} {y:ByteArray} (h:dO bh.name t y < 0):¬dk bh.name t y=true:=fun e=>by
 have:=gn (f:=bh.name) (l:=t) (x:=y)
 rw[decide_eq_true h,e] at this
 cases this
theorem Bn {t:List bh} {y:ByteArray} (h:¬dO bh.name t y < 0):dk bh.name t y=true:=by
 have:=gn (f:=bh.name) (l:=t) (x:=y)
 rw[decide_eq_false h] at this
 cases e:dk bh.name t y with
 | true=>rfl
 | false=>rw[e] at this;cases this
theorem qh (t:List bh) (l:List Part) (ht:ic t) (hN:l.length<=1048576) (ho:∀p∈l,bO p.name/\bO p.type):aw C 106 [.pv (.sl (t.map g_)),.pv (.sl (l.map kb)),.pv (Be 107)] (.p (i64 (dm t l))) []:=by
 refine aE hC Tryz.func106 rfl rfl 46 rfl (by decide) (by kernel_rfl) fun _ _ _ _ _=>?_
 have lm:=aJ l kb
 have fC:=ht.len
 (refine yS<|yA Z<|yT<|an<|yS<|yP Z<|yP Z<|yP Z<|yT<|ak Z ?_;refine aa (fun g1=>?_) (fun g1=>?_) <;> try simp only[zB] at g1)
 ·(refine yS<|yA Z<|yT<|aA<|af<|aB zi ?_;refine And.intro ?_ trivial)
  rw[dm,if_pos (by omega)];rfl
 rw[dm,if_neg (by omega)]
 refine ar<|ah<|an<|yS<|yP Z<|yP Z<|yP Z<|yT<|aO ?_
 refine aC (fun i:Nat=>i<=l.length/\∀k,k < i->gT t l k=0) (fun i=>[(0,.p (.sl (t.map g_))),(1,.p (.sl (l.map kb))),(2,.p (Be 107)),(12,.p (.sl (l.map kb))),(13,.p (i64 l.length)),(14,.p (i64 i))]) (fun _=>[]) (fun i=>l.length - i) 0 _ (bg.refl _ _) ⟨Nat.zero_le _,fun k h=>by omega⟩ ⟨rfl,rfl,rfl,rfl,congrArg (fun n:Nat=>AV.p (i64 n)) lm,Z,Y⟩ trivial fun i hi tt h=>?_
 (refine yS<|yP Z<|yT<|an<|ak Z ?_;refine aa (fun h1=>?_) (fun h1=>?_) <;> try simp only[zB] at h1)
 ·obtain⟨x,hx⟩:=aH (l:=l) (i:=i) (by omega)
  have cf:gT t l i=(if eT x.name=true then (if dk bh.name t x.type=true then (if bE (l.map Part.name) i=true then 8 else 0) else 9) else 5):=by simp only[gT,hx]
  obtain⟨so,Em⟩:=ho x (List.mem_of_getElem? hx)
  (refine ar<|ah<|an<|aO<|yS<|yP Z<|yq Z<|aL zI ?_;refine⟨(kb x),(idx rfl hx),?_⟩)
  ((refine yk<|yP Z<|yn Z<|az zI<|aR<|ai<|yA Z<|yq Z<|az zI<|aX<|aM<|aU<|yT<|aO ?_;refine yS<|yP Z<|yV Z<|yP Z<|yn Z<|aL zI ?_);refine⟨_,_,(iY x.name so),?_⟩)
  (refine br Z Z<|ae<|yP Z<|yA Z<|yT<|ak Z ?_;refine aa (fun a1=>?_) (fun a1=>?_) <;> try simp only[zB] at a1)
  ·(refine yS<|yA Z<|yT<|aA<|aq<|aq<|af<|af<|aq<|af<|aB zi ?_;refine And.intro ?_ trivial)
   rw[if_neg (by simp[a1])] at cf
   rw[aI hi.2 (by omega) cf (by decide)];rfl
  rw[if_pos (by simpa using a1)] at cf
  (refine yS<|yP Z<|yV Z<|yP Z<|yn Z<|aL zI ?_;refine⟨_,_,(lz t x.type ht.ord (by omega)),?_⟩)
  (refine br Z Z<|ae<|yP Z<|yA Z<|yT<|ak Z ?_;refine aa (fun a2=>?_) (fun a2=>?_) <;> try simp only[zB] at a2)
  ·(refine yS<|yA Z<|yT<|aA<|aq<|aq<|af<|af<|aq<|af<|aB zi ?_;refine And.intro ?_ trivial)
   rw[if_neg (Bm a2)] at cf
   rw[aI hi.2 (by omega) cf (by decide)];rfl
  rw[if_pos (Bn a2)] at cf
  (refine an<|cF [] false lX rfl (by kernel_rfl)<|cE Z<|yD Z<|yD Z<|yD Z<|dg Z ?_;refine aa (fun o1=>?_) (fun o1=>?_) <;> try simp only[zB] at o1)
  ·obtain⟨z,hz⟩:=aH (l:=l) (i:=i - 1) (by omega)
   rw[dG (f:=Part.name) hx hz (by omega)] at cf
   (refine aV<|bA Z<|az zI<|bM<|ai<|d1 Z<|d1 Z<|d1 Z<|d2 Z<|bA Z<|bb zI ?_;refine sI ?_)
   (refine bM<|ae<|d2 Z<|bA Z<|aL zI ?_;refine⟨(kb z),(idx (show (i:Int) - 1=((i - 1:Nat):Int) by omega) hz),?_⟩)
   ((refine bM<|ae<|d1 Z<|d1 Z<|d1 Z<|yD Z<|yD Z<|bR<|ao Z<|ao Z<|ao Z<|ao Z<|ao Z<|ao Z ?_;refine ao Z<|ao Z<|ao Z<|ao Z<|ao Z<|ao Z<|ao Z<|dH Z Z<|bS Z<|ah<|ak Z ?_);refine aa (fun o2=>?_) (fun o2=>?_) <;> try simp only[zB] at o2)
   ·(refine yS<|yA Z<|yT<|aA<|aq<|aq<|af<|af<|aq<|af<|aB zi ?_;refine And.intro ?_ trivial)
    have o2:(cB (Part.name x) (Part.name z) || decide (Part.name x=Part.name z))=true:=by simpa [cB] using o2
    rw[o2,if_pos rfl] at cf
    rw[aI hi.2 (by omega) cf (by decide)];rfl
   have o2:(cB (Part.name x) (Part.name z) || decide (Part.name x=Part.name z))=false:=by simpa [cB] using o2
   rw[o2,if_neg (by decide)] at cf
   (refine ar<|aS<|aS<|ah<|aP<|yq Z<|bb zI ?_;refine sI ?_)
   (refine yk<|yP Z<|yT<|au ?_;refine⟨(i+1),_,bg.refl _ _,?_⟩)
   exact⟨⟨by omega,cw hi.2 cf⟩,by omega,⟨Z,Z,Z,Z,Z,Z,Y⟩,trivial⟩
  have h0:i=0:=by omega
  rw[eU h0,if_neg (by decide)] at cf
  ((refine aT<|ae<|d0 Z<|d0 Z<|d0 Z<|d0 Z<|d0 Z<|d0 Z<|d0 Z<|d0 Z<|yD Z<|yD Z<|bR<|ao Z ?_;refine ao Z<|ao Z<|ao Z<|ao Z<|ao Z<|ao Z<|ao Z<|ao Z<|ao Z<|ao Z<|ao Z<|ao Z<|dH Z Z<|bS Z ?_;refine ah<|ak Z<|bz<|ar<|aS<|aS<|ah<|aP<|yq Z<|bb zI ?_);refine sI ?_)
  (refine yk<|yP Z<|yT<|au ?_;refine⟨(i+1),_,bg.refl _ _,?_⟩)
  exact⟨⟨by omega,cw hi.2 cf⟩,by omega,⟨Z,Z,Z,Z,Z,Z,Y⟩,trivial⟩
 (refine bF<|aQ<|aQ<|bG<|ah<|yS<|yA Z<|yR zi ?_;refine And.intro ?_ trivial)
 have z0:a8 (gT t l) 0 l.length=0:=bp fun k _ hk=>hi.2 k (by omega)
 rw[z0];rfl
theorem rq (t:List bh) (x:p_) (Nh:po t) (KR:qg x):aw C 42 [.pv (.sl (t.map g_)),.pv (.ag (yC x))] (.p (i64 (dL t x))) []:=by
 refine aE hC Tryz.func42 rfl rfl 71 rfl (by decide) (by kernel_rfl) fun _ _ _ _ _=>?_
 have lm:=aJ x.nets s4
 obtain⟨⟨Jc,AL⟩,Mg,Hw⟩:=KR
 ((refine yS<|yn Z<|az zI<|aR<|ai<|yn Z<|az zI<|aR<|ai<|yA Z<|yT<|an<|yS<|yP Z ?_;refine yn Z<|aL zI ?_);refine⟨_,_,(p9 t Nh),?_⟩)
 (refine br Z Z<|ae<|yA Z<|yU<|yP Z<|yP Z<|yT<|ak Z ?_;refine aa (fun g1=>?_) (fun g1=>?_) <;> try simp only[zB] at g1)
 ·have g1:cz t≠0:=by simpa using g1
  (refine yS<|yP Z<|yA Z<|yT<|aA<|af<|aB zi ?_;refine And.intro ?_ trivial)
  rw[dL,dy rfl g1]
 have g1:cz t=0:=by simpa using g1
 have ht:=lA g1
 rw[dL,eM g1]
 (refine ar<|ah<|an<|yS<|yP Z<|yV Z<|yP Z<|yn Z<|aL zI ?_;refine⟨_,_,(qh t x.parts ht Jc AL),?_⟩)
 (refine br Z Z<|ae<|yA Z<|yU<|yP Z<|yP Z<|yT<|ak Z ?_;refine aa (fun g2=>?_) (fun g2=>?_) <;> try simp only[zB] at g2)
 ·have g2:dm t x.parts≠0:=by simpa using g2
  (refine yS<|yP Z<|yA Z<|yT<|aA<|af<|aB zi ?_;refine And.intro ?_ trivial)
  rw[dy rfl g2]
 have g2:dm t x.parts=0:=by simpa using g2
 have hp:=ox g2
 rw[eM g2]
 (refine ar<|ah<|an<|yS<|yV Z<|yP Z<|yP Z<|yP Z<|yT<|ak Z ?_;refine aa (fun g3=>?_) (fun g3=>?_) <;> try simp only[zB] at g3)
 ·(refine yS<|yA Z<|yT<|aA<|af<|aB zi ?_;refine And.intro ?_ trivial)
  rw[ij,if_pos (by omega)];rfl
 rw[ij,if_neg (by omega)]
 (refine ar (ah (yS (yn Z (az zI (aR (aG (dx Z (sG Z Z Z (A3 Z) (aG (yT (an (yS (yV Z ?_)))))))))))));refine yP Z<|yP Z<|yP Z<|yT<|aO ?_)
 refine aC (fun p:Nat×List (Value×PV)=>p.1<=x.nets.length/\(∀k,k < p.1->qf t x k=0)/\jb p.2/\∀q:jJ,gN p.2 (oz q)=if cA (x.nets.take p.1) q=true then some (bool true) else none) (fun p=>[(2,.p (.ip [.sl (t.map g_)])),(3,.p (.ip (yC x))),(7,.ow 27),(29,.p (.sl (x.nets.map s4))),(30,.p (i64 x.nets.length)),(31,.p (i64 p.1))]) (fun p=>[(27,.map (.st [0,0]) p.2)]) (fun p=>x.nets.length - p.1) (0,[]) _ (bg.trans (bg.gK hC _ 2 (y:=.ip [.sl (t.map g_)]) (fz:=[(2,.jK [.sl (t.map g_)])]) ⟨rfl,rfl⟩) (bg.gK hC _ 3 (y:=.ip (yC x)) (fz:=[(3,.jK (yC x))]) ⟨rfl,rfl⟩)) ⟨Nat.zero_le _,fun k h=>by simp only at h;omega,fun e he=>(by cases he),fun q=>rfl⟩ ⟨rfl,rfl,rfl,rfl,congrArg (fun n:Nat=>AV.p (i64 n)) lm,Z,Y⟩ ⟨Z,Y⟩ fun ⟨i,es⟩ hi tt h=>?_
 obtain⟨q1,q2,q3,q4⟩:=hi
 simp only at q1 q2 q3 q4
 (refine yS<|yP Z<|yT<|an<|ak Z ?_;refine aa (fun h1=>?_) (fun h1=>?_) <;> try simp only[zB] at h1)
 ·obtain⟨n,hx⟩:=aH (l:=x.nets) (i:=i) (by omega)
  have cf:qf t x i=(if eT n.name=true then (if n.pins.length=0 then 9 else nq (dz t x.parts (cA (x.nets.take i)) n.pins) (if 0 < n.ports.length then 3 else if bE (x.nets.map Net.name) i=true then 8 else 0)) else 5):=by simp only[qf,hx]
  obtain⟨so,sp,sq⟩:=Hw n (List.mem_of_getElem? hx)
  have lp:=aJ n.pins kL
  have lq:=aJ n.ports fun s=>[str s]
  have bad:∀{c:Int},qf t x i=c->c≠0->a8 (qf t x) 0 x.nets.length=c:=fun e h0=>aI q2 (by omega) e h0
  (refine ar<|ah<|an<|aO<|yS<|yP Z<|yq Z<|aL zI ?_;refine⟨(s4 n),(idx rfl hx),?_⟩)
  ((refine yk<|yP Z<|yn Z<|az zI<|aR<|ai<|yA Z<|yq Z<|az zI<|aX<|aM<|aU<|yT<|an ?_;refine yS<|yV Z<|yP Z<|yn Z<|aL zI ?_);refine⟨_,_,(iY n.name so),?_⟩)
  (refine br Z Z<|ae<|yP Z<|yT<|ak Z ?_;refine aa (fun a1=>?_) (fun a1=>?_) <;> try simp only[zB] at a1)
  ·(refine yS<|yA Z<|yT<|aA<|af<|aq<|af<|af<|aq<|af<|aB zi ?_;refine And.intro ?_ trivial)
   rw[if_neg (by simp[a1])] at cf
   rw[bad cf (by decide)];rfl
  rw[if_pos (by simpa using a1)] at cf
  (refine ar<|ah<|an<|yS<|yV Z<|yP Z<|yP Z<|yP Z<|yT<|ak Z ?_;refine aa (fun a2=>?_) (fun a2=>?_) <;> try simp only[zB] at a2)
  ·have a2:(((n.pins.map kL).length:Nat):Int)=0:=a2
   (refine yS<|yA Z<|yT<|aA<|af<|aq<|af<|af<|aq<|af<|aB zi ?_;refine And.intro ?_ trivial)
   rw[if_pos (by omega)] at cf
   rw[bad cf (by decide)];rfl
  have a2:¬(((n.pins.map kL).length:Nat):Int)=0:=a2
  rw[if_neg (by omega)] at cf
  (refine ar<|ah<|an<|yS<|yV Z<|yP Z<|yV Z<|yq Z<|az zI<|aX<|aG<|yn Z<|aL zI ?_;refine⟨_,_,(oA t x n.pins es (cA (x.nets.take i)) ht hp q3 q4 (by omega)),?_⟩)
  (refine br Z Z<|aM<|ae<|yA Z<|yU<|yP Z<|yP Z<|yT<|ak Z ?_;refine aa (fun a3=>?_) (fun a3=>?_) <;> try simp only[zB] at a3)
  ·have a3:dz t x.parts (cA (x.nets.take i)) n.pins≠0:=by simpa using a3
   (refine yS<|yP Z<|yA Z<|yT<|aA<|af<|aq<|af<|af<|aq<|af<|aB zi ?_;refine And.intro ?_ trivial)
   rw[dy rfl a3] at cf
   rw[bad cf a3]
  have a3:dz t x.parts (cA (x.nets.take i)) n.pins=0:=by simpa using a3
  rw[eM a3] at cf
  (refine ar<|ah<|an<|yS<|yV Z<|yP Z<|yP Z<|yP Z<|yT<|ak Z ?_;refine aa (fun a4=>?_) (fun a4=>?_) <;> try simp only[zB] at a4)
  ·(refine yS<|yA Z<|yT<|aA<|af<|aq<|af<|af<|aq<|af<|aB zi ?_;refine And.intro ?_ trivial)
   rw[if_pos (by omega)] at cf
   rw[bad cf (by decide)];rfl
  rw[if_neg (by omega)] at cf
  have keys:jb (if dz t x.parts (cA (x.nets.take i)) n.pins=0 then iP es n.pins else es):=by rw[if_pos a3];exact qU _ q3
  have KS:∀q:jJ,gN (if dz t x.parts (cA (x.nets.take i)) n.pins=0 then iP es n.pins else es) (oz q)=if cA (x.nets.take (i+1)) q=true then some (bool true) else none:=fun q=>by
   rw[if_pos a3,yr q _ q3,q4 q,bB hx]
   have e:cA (x.nets.take i++[n]) q=(cA (x.nets.take i) q || n.pins.any fun p=>decide (p=q)):=by simp[cA]
   rw[e]
   cases (n.pins.any fun p=>decide (p=q)) <;> cases cA (x.nets.take i) q <;> rfl
  (refine ar<|ah<|an<|cF [] false lX rfl (by kernel_rfl)<|cE Z<|yD Z<|yD Z<|yD Z<|dg Z ?_;refine aa (fun o1=>?_) (fun o1=>?_) <;> try simp only[zB] at o1)
  ·obtain⟨z,hz⟩:=aH (l:=x.nets) (i:=i - 1) (by omega)
   rw[dG (f:=Net.name) hx hz (by omega)] at cf
   (refine aV<|bA Z<|az zI<|bM<|ai<|d1 Z<|d1 Z<|d1 Z<|d1 Z<|d2 Z<|bA Z<|bb zI ?_;refine sI ?_)
   (refine bM<|ae<|d2 Z<|bA Z<|aL zI ?_;refine⟨(s4 z),(idx (show (i:Int) - 1=((i - 1:Nat):Int) by omega) hz),?_⟩)
   (refine bM<|ae<|d1 Z<|d1 Z<|d1 Z<|yD Z<|bR<|bS Z<|ah<|ak Z ?_;refine aa (fun o2=>?_) (fun o2=>?_) <;> try simp only[zB] at o2)
   ·(refine yS<|yA Z<|yT<|aA<|aq<|af<|af<|aq<|af<|aB zi ?_;refine And.intro ?_ trivial)
    have o2:(cB (Net.name n) (Net.name z) || decide (Net.name n=Net.name z))=true:=by simpa [cB] using o2
    rw[o2,if_pos rfl] at cf
    rw[bad cf (by decide)];rfl
   have o2:(cB (Net.name n) (Net.name z) || decide (Net.name n=Net.name z))=false:=by simpa [cB] using o2
   rw[o2,if_neg (by decide)] at cf
   (refine ar<|aS<|ah<|aP<|yq Z<|bb zI ?_;refine And.intro ⟨by dsimp only;omega,by dsimp only;omega⟩ ?_)
   (refine yk<|yP Z<|yT<|au ?_;refine⟨(i+1,if dz t x.parts (cA (x.nets.take i)) n.pins=0 then iP es n.pins else es),_,bg.refl _ _,?_⟩)
   exact⟨⟨by dsimp only;omega,cw q2 cf,keys,KS⟩,by dsimp only;omega,⟨Z,Z,Z,Z,Z,Z,Y⟩,⟨Z,Y⟩⟩
  rw[eU (by omega),if_neg (by decide)] at cf
  ((refine aT<|ae<|d0 Z<|d0 Z<|d0 Z<|d0 Z<|d0 Z<|d0 Z<|d0 Z<|d0 Z<|d0 Z<|yD Z<|bR<|bS Z ?_;refine ah<|ak Z<|bz<|ar<|aS<|ah<|aP<|yq Z<|bb zI ?_);refine And.intro ⟨by dsimp only;omega,by dsimp only;omega⟩ ?_)
  (refine yk<|yP Z<|yT<|au ?_;refine⟨(i+1,if dz t x.parts (cA (x.nets.take i)) n.pins=0 then iP es n.pins else es),_,bg.refl _ _,?_⟩)
  exact⟨⟨by dsimp only;omega,cw q2 cf,keys,KS⟩,by dsimp only;omega,⟨Z,Z,Z,Z,Z,Z,Y⟩,⟨Z,Y⟩⟩
 (refine bF<|aQ<|aQ<|bG<|ah<|yS<|yA Z<|yR zi ?_;refine And.intro ?_ trivial)
 rw[bp fun k _ hk=>q2 k (by omega)];rfl
theorem tq (t:List bh) (y:p_) (ht:ic t) (KR:qg y):aw C 51 [.pv (.sl (t.map g_)),.pv (.ag (yC y))] (.p (i64 (nq (dm t y.parts) (ij t y)))) []:=by
 refine aE hC Tryz.func51 rfl rfl 132 rfl (by decide) (by kernel_rfl) fun _ _ _ _ _=>?_
 have lm:=aJ y.parts kb
 have OZ:=aJ y.nets s4
 obtain⟨⟨Jc,ho⟩,Mg,Hw⟩:=KR
 have fC:=ht.len
 ((refine yS<|yn Z<|az zI<|aR<|ai<|yA Z<|yT<|an<|yS<|yV Z<|yP Z<|yP Z<|yP Z<|yT ?_;refine ak Z ?_);refine aa (fun g1=>?_) (fun g1=>?_) <;> try simp only[zB] at g1)
 ·(refine yS<|yA Z<|yT<|aA<|af<|aB zi ?_;refine And.intro ?_ trivial)
  rw[dm,if_pos (by omega)];rfl
 have tG:dm t y.parts=a8 (gT t y.parts) 0 y.parts.length:=by rw[dm,if_neg (by omega)]
 have EU:∀{c:Int},a8 (gT t y.parts) 0 y.parts.length=c->c≠0->nq (dm t y.parts) (ij t y)=c:=fun e h0=>dy (tG.trans e) h0
 refine ar<|ah<|an<|yS<|yV Z<|yP Z<|yP Z<|yP Z<|yT<|aO ?_
 refine aC (fun i:Nat=>i<=y.parts.length/\∀k,k < i->gT t y.parts k=0) (fun i=>[(0,.p (.sl (t.map g_))),(3,.bx 3 0),(16,.p (.sl (y.parts.map kb))),(17,.p (i64 y.parts.length)),(18,.p (i64 i))]) (fun _=>[(3,.box ((yC y).map .p))]) (fun i=>y.parts.length - i) 0 _ (bg.refl _ _) ⟨Nat.zero_le _,fun k h=>by omega⟩ ⟨rfl,rfl,rfl,congrArg (fun n:Nat=>AV.p (i64 n)) lm,Z,Y⟩ ⟨Z,Y⟩ fun i hi tt h=>?_
 (refine yS<|yP Z<|yT<|an<|ak Z ?_;refine aa (fun h1=>?_) (fun h1=>?_) <;> try simp only[zB] at h1)
 ·obtain⟨x,hx⟩:=aH (l:=y.parts) (i:=i) (by omega)
  have cf:gT t y.parts i=(if eT x.name=true then (if dk bh.name t x.type=true then (if bE (y.parts.map Part.name) i=true then 8 else 0) else 9) else 5):=by simp only[gT,hx]
  obtain⟨so,Em⟩:=ho x (List.mem_of_getElem? hx)
  (refine ar<|ah<|an<|aO<|yS<|yP Z<|yq Z<|aL zI ?_;refine⟨(kb x),(idx rfl hx),?_⟩)
  ((refine yk<|yP Z<|yn Z<|az zI<|aR<|ai<|yA Z<|yq Z<|az zI<|aX<|aM<|aU<|yT<|aO ?_;refine yS<|yV Z<|yP Z<|yn Z<|aL zI ?_);refine⟨_,_,(qN x.name so),?_⟩)
  (refine br Z Z<|ae<|yP Z<|yA Z<|yT<|ak Z ?_;refine aa (fun a1=>?_) (fun a1=>?_) <;> try simp only[zB] at a1)
  ·(refine yS<|yA Z<|yT<|aA<|aq<|aq<|af<|af<|aq<|af<|aB zi ?_;refine And.intro ?_ trivial)
   rw[if_neg (by simp[a1])] at cf
   rw[EU (aI hi.2 (by omega) cf (by decide)) (by decide)];rfl
  rw[if_pos (by simpa using a1)] at cf
  (refine yS<|yP Z<|yV Z<|yP Z<|yn Z<|aL zI ?_;refine⟨_,_,(qP t x.type (by omega)),?_⟩)
  (refine br Z Z<|ae<|yP Z<|yA Z<|yT<|ak Z ?_;refine aa (fun a2=>?_) (fun a2=>?_) <;> try simp only[zB] at a2)
  ·(refine yS<|yA Z<|yT<|aA<|aq<|aq<|af<|af<|aq<|af<|aB zi ?_;refine And.intro ?_ trivial)
   rw[if_neg (Bm a2)] at cf
   rw[EU (aI hi.2 (by omega) cf (by decide)) (by decide)];rfl
  rw[if_pos (Bn a2)] at cf
  (refine an<|cF [] false FK rfl (by kernel_rfl)<|cE Z<|yD Z<|yD Z<|yD Z<|dg Z ?_;refine aa (fun o1=>?_) (fun o1=>?_) <;> try simp only[zB] at o1)
  ·obtain⟨z,hz⟩:=aH (l:=y.parts) (i:=i - 1) (by omega)
   rw[dG (f:=Part.name) hx hz (by omega)] at cf
   ((refine aV<|bA Z<|az zI<|bM<|ai<|d1 Z<|d2 Z<|bA Z<|az zI<|bM<|ai<|d1 Z<|d1 Z<|d2 Z ?_;refine bA Z<|bb zI ?_);refine sI ?_)
   (refine bM<|ae<|d2 Z<|bA Z<|aL zI ?_;refine⟨(kb z),(idx (show (i:Int) - 1=((i - 1:Nat):Int) by omega) hz),?_⟩)
   ((refine bM<|ae<|d1 Z<|d1 Z<|d1 Z<|yD Z<|yD Z<|bR<|ao Z<|ao Z<|ao Z<|ao Z<|ao Z<|ao Z ?_;refine ao Z<|ao Z<|ao Z<|ao Z<|ao Z<|ao Z<|ao Z<|ao Z<|dH Z Z<|bS Z<|ah<|ak Z ?_);refine aa (fun o2=>?_) (fun o2=>?_) <;> try simp only[zB] at o2)
   ·(refine yS<|yA Z<|yT<|aA<|aq<|aq<|af<|af<|aq<|af<|aB zi ?_;refine And.intro ?_ trivial)
    have o2:(cB (Part.name x) (Part.name z) || decide (Part.name x=Part.name z))=true:=by simpa [cB] using o2
    rw[o2,if_pos rfl] at cf
    rw[EU (aI hi.2 (by omega) cf (by decide)) (by decide)];rfl
   have o2:(cB (Part.name x) (Part.name z) || decide (Part.name x=Part.name z))=false:=by simpa [cB] using o2
   rw[o2,if_neg (by decide)] at cf
   (refine ar<|aS<|aS<|ah<|aP<|yq Z<|bb zI ?_;refine sI ?_)
   (refine yk<|yP Z<|yT<|au ?_;refine⟨(i+1),_,bg.refl _ _,?_⟩)
   exact⟨⟨by omega,cw hi.2 cf⟩,by omega,⟨Z,Z,Z,Z,Z,Y⟩,⟨Z,Y⟩⟩
  have h0:i=0:=by omega
  rw[eU h0,if_neg (by decide)] at cf
  ((refine aT<|ae<|d0 Z<|d0 Z<|d0 Z<|d0 Z<|d0 Z<|d0 Z<|d0 Z<|d0 Z<|d0 Z<|yD Z<|yD Z<|bR ?_;refine ao Z<|ao Z<|ao Z<|ao Z<|ao Z<|ao Z<|ao Z<|ao Z<|ao Z<|ao Z<|ao Z<|ao Z<|ao Z<|ao Z ?_;refine dH Z Z<|bS Z<|ah<|ak Z<|bz<|ar<|aS<|aS<|ah<|aP<|yq Z<|bb zI ?_);refine sI ?_)
  (refine yk<|yP Z<|yT<|au ?_;refine⟨(i+1),_,bg.refl _ _,?_⟩)
  exact⟨⟨by omega,cw hi.2 cf⟩,by omega,⟨Z,Z,Z,Z,Z,Y⟩,⟨Z,Y⟩⟩
 have z0:dm t y.parts=0:=tG.trans (bp fun k _ hk=>hi.2 k (by omega))
 have hp:=ox z0
 rw[eM z0]
 (refine bF<|aQ<|aQ<|bG<|ah<|an<|yS<|yV Z<|yP Z<|yP Z<|yP Z<|yT<|ak Z ?_;refine aa (fun g3=>?_) (fun g3=>?_) <;> try simp only[zB] at g3)
 ·(refine yS<|yA Z<|yT<|aA<|af<|aB zi ?_;refine And.intro ?_ trivial)
  rw[ij,if_pos (by omega)];rfl
 rw[ij,if_neg (by omega)]
 refine ar<|ah<|an<|yS<|yV Z<|yP Z<|yP Z<|yP Z<|yT<|aO ?_
 refine aC (fun i:Nat=>i<=y.nets.length/\∀k,k < i->qf t y k=0) (fun i=>[(0,.p (.sl (t.map g_))),(3,.bx 3 0),(55,.p (.sl (y.nets.map s4))),(56,.p (i64 y.nets.length)),(57,.p (i64 i))]) (fun _=>[(3,.box ((yC y).map .p))]) (fun i=>y.nets.length - i) 0 _ (bg.refl _ _) ⟨Nat.zero_le _,fun k h=>by omega⟩ ⟨rfl,rfl,rfl,congrArg (fun n:Nat=>AV.p (i64 n)) OZ,Z,Y⟩ ⟨Z,Y⟩ fun i hi tt h=>?_
 (refine yS<|yP Z<|yT<|an<|ak Z ?_;refine aa (fun h2=>?_) (fun h2=>?_) <;> try simp only[zB] at h2)
 ·obtain⟨n,hx⟩:=aH (l:=y.nets) (i:=i) (by omega)
  have cf:qf t y i=(if eT n.name=true then (if n.pins.length=0 then 9 else nq (dz t y.parts (cA (y.nets.take i)) n.pins) (if 0 < n.ports.length then 3 else if bE (y.nets.map Net.name) i=true then 8 else 0)) else 5):=by simp only[qf,hx]
  obtain⟨so,sp,sq⟩:=Hw n (List.mem_of_getElem? hx)
  have lp:=aJ n.pins kL
  have lq:=aJ n.ports fun s=>[str s]
  have bad:∀{c:Int},qf t y i=c->c≠0->a8 (qf t y) 0 y.nets.length=c:=fun e h0=>aI hi.2 (by omega) e h0
  (refine ar<|ah<|an<|aO<|yS<|yP Z<|yq Z<|aL zI ?_;refine⟨(s4 n),(idx rfl hx),?_⟩)
  ((refine yk<|yP Z<|yn Z<|az zI<|aR<|ai<|yA Z<|yq Z<|az zI<|aX<|aM<|aU<|yT<|an ?_;refine aO<|yS<|yV Z<|yP Z<|yn Z<|aL zI ?_);refine⟨_,_,(qN n.name so),?_⟩)
  (refine br Z Z<|ae<|yP Z<|yA Z<|yT<|ak Z ?_;refine aa (fun a1=>?_) (fun a1=>?_) <;> try simp only[zB] at a1)
  ·(refine yS<|yA Z<|yT<|aA<|aq<|af<|aq<|af<|af<|aq<|af<|aB zi ?_;refine And.intro ?_ trivial)
   rw[if_neg (by simp[a1])] at cf
   rw[bad cf (by decide)];rfl
  rw[if_pos (by simpa using a1)] at cf
  (refine yS<|yV Z<|yP Z<|yP Z<|yP Z<|yA Z<|yT<|ak Z ?_;refine aa (fun a2=>?_) (fun a2=>?_) <;> try simp only[zB] at a2)
  ·have a2:(((n.pins.map kL).length:Nat):Int)=0:=a2
   (refine yS<|yA Z<|yT<|aA<|aq<|af<|aq<|af<|af<|aq<|af<|aB zi ?_;refine And.intro ?_ trivial)
   rw[if_pos (by omega)] at cf
   rw[bad cf (by decide)];rfl
  have a2:¬(((n.pins.map kL).length:Nat):Int)=0:=a2
  rw[if_neg (by omega)] at cf
  (refine yS<|yV Z<|yP Z<|yP Z<|yP Z<|yA Z<|yT<|ak Z ?_;refine aa (fun a3=>?_) (fun a3=>?_) <;> try simp only[zB] at a3)
  ·(refine yS<|yA Z<|yT<|aA<|aq<|af<|aq<|af<|af<|aq<|af<|aB zi ?_;refine And.intro ?_ trivial)
   rw[dy (c:=2) (by rw[dz,if_pos (by omega)]) (by decide)] at cf
   rw[bad cf (by decide)];rfl
  have I7:dz t y.parts (cA (y.nets.take i)) n.pins=a8 (nE t y.parts (cA (y.nets.take i)) n.pins) 0 n.pins.length:=by rw[dz,if_neg (by omega)]
  have Ew:∀{c:Int},a8 (nE t y.parts (cA (y.nets.take i)) n.pins) 0 n.pins.length=c->c≠0->a8 (qf t y) 0 y.nets.length=c:=fun e h0=>bad (cf.trans (dy (I7.trans e) h0)) h0
  have et:(y.nets.map s4).take i=(y.nets.take i).map s4:=List.map_take.symm
  have n_:∀p:jJ,aw C 136 [.pv (.sl ((y.nets.map s4).take i)),.pv (.ag (kL p))] (.p (bool (cA (y.nets.take i) p))) []:=fun p=>by
   rw[et]
   exact ye _ p (by rw[List.length_take];omega) fun m hm=>Nat.le_trans (Hw m (List.mem_of_mem_take hm)).2.1 (by decide)
  refine ar<|aS<|ah<|an<|yS<|yV Z<|yP Z<|yP Z<|yP Z<|yT<|aO ?_
  refine aC (fun j:Nat=>j<=n.pins.length/\∀k,k < j->nE t y.parts (cA (y.nets.take i)) n.pins k=0) (fun j=>[(0,.p (.sl (t.map g_))),(3,.bx 3 0),(55,.p (.sl (y.nets.map s4))),(56,.p (i64 y.nets.length)),(57,.p (i64 i)),(7,.p (i64 i)),(8,.bx 8 0),(78,.p (.sl (n.pins.map kL))),(79,.p (i64 n.pins.length)),(80,.p (i64 j))]) (fun _=>[(3,.box ((yC y).map .p)),(8,.box ((s4 n).map .p))]) (fun j=>n.pins.length - j) 0 _ (bg.refl _ _) ⟨Nat.zero_le _,fun k h=>by omega⟩ ⟨rfl,rfl,rfl,rfl,rfl,rfl,rfl,rfl,congrArg (fun n:Nat=>AV.p (i64 n)) lp,Z,Y⟩ ⟨Z,Z,Y⟩ fun j hj tt h=>?_
  (refine yS<|yP Z<|yT<|an<|ak Z ?_;refine aa (fun h3=>?_) (fun h3=>?_) <;> try simp only[zB] at h3)
  ·obtain⟨p,Ex⟩:=aH (l:=n.pins) (i:=j) (by omega)
   have df:nE t y.parts (cA (y.nets.take i)) n.pins j=(if gu t y.parts p=true then (if pq n.pins j=true then 8 else if cA (y.nets.take i) p=true then 7 else 0) else 9):=by simp only[nE,Ex]
   have pz:∀{c:Int},nE t y.parts (cA (y.nets.take i)) n.pins j=c->c≠0->a8 (qf t y) 0 y.nets.length=c:=fun e h0=>Ew (aI hj.2 (by omega) e h0) h0
   (refine ar<|ah<|an<|aO<|yS<|yP Z<|yq Z<|aL zI ?_;refine⟨(kL p),(idx rfl Ex),?_⟩)
   ((refine yk<|yP Z<|yn Z<|az zI<|aR<|ai<|yA Z<|yq Z<|az zI<|aX<|aM<|aU<|yT<|aO ?_;refine yS<|yP Z<|yP Z<|yP Z<|yn Z<|aL zI ?_);refine⟨_,_,(yc t y p ht hp),?_⟩)
   (refine br Z Z<|ae<|yP Z<|yA Z<|yT<|ak Z ?_;refine aa (fun b1=>?_) (fun b1=>?_) <;> try simp only[zB] at b1)
   ·((refine yS<|yA Z<|yT<|aA<|aq<|aq<|af<|af<|aq<|af<|aq<|af<|af<|aq ?_;refine af<|aB zi ?_);refine And.intro ?_ trivial)
    rw[if_neg (by simp[b1])] at df
    rw[pz df (by decide)];rfl
   rw[if_pos (by simpa using b1)] at df
   have tail:pq n.pins j=false->nE t y.parts (cA (y.nets.take i)) n.pins j=(if cA (y.nets.take i) p=true then 7 else 0):=fun h0=>by rw[df,h0,if_neg (by decide)]
   ((refine an<|cF [] false lX rfl (by kernel_rfl)<|aK Z<|aK Z<|aK Z<|aK Z<|aK Z<|aK Z<|aK Z<|aK Z<|aK Z<|aK Z<|eG Z Z<|cE Z ?_;refine yD Z<|yD Z<|yD Z<|dg Z ?_);refine aa (fun b2=>?_) (fun b2=>?_) <;> try simp only[zB] at b2)
   ·obtain⟨z,hz⟩:=aH (l:=n.pins) (i:=j - 1) (by omega)
    have hu:=GW Ex hz (by omega)
    (refine aV<|bA Z<|az zI<|bM<|ai<|d1 Z<|d1 Z<|d2 Z<|bA Z<|bb zI ?_;refine sI ?_)
    (refine bM<|ae<|d2 Z<|bA Z<|aL zI ?_;refine⟨(kL z),(idx (show (j:Int) - 1=((j - 1:Nat):Int) by omega) hz),?_⟩)
    (refine bM<|ae<|d1 Z<|d1 Z<|d2 Z<|bA Z<|aL zI ?_;refine⟨_,_,(yd z p),?_⟩)
    ((refine bM<|ae<|d1 Z<|yD Z<|yD Z<|bR<|ao Z<|ao Z<|ao Z<|ao Z<|ao Z<|ao Z<|ao Z<|ao Z ?_;refine ao Z<|ao Z<|ao Z<|ao Z<|ao Z<|dH Z Z<|bS Z<|ah<|ak Z ?_);refine aa (fun b3=>?_) (fun b3=>?_) <;> try simp only[zB] at b3)
    ·((refine yS<|yA Z<|yT<|aA<|aq<|aq<|af<|af<|aq<|af<|aq<|af<|af<|aq ?_;refine af<|aB zi ?_);refine And.intro ?_ trivial)
     rw[hu,if_pos (by simp[b3])] at df
     rw[pz df (by decide)];rfl
    have df:=tail (by rw[hu];simpa using b3)
    (refine an<|cF [] false I_ rfl (by kernel_rfl)<|aK Z<|aK Z<|aK Z<|aK Z<|aK Z<|eG Z Z<|cE Z<|yW Z<|yD Z<|yD Z<|dq Z<|bb zI ?_;refine And.intro ⟨by omega,by omega,by omega,pk fun _=>rfl⟩ ?_)
    (refine bM<|ae<|yD Z<|dq Z<|aL zI ?_;refine⟨_,_,(n_ p),?_⟩)
    (refine bM<|ae<|yD Z<|bR<|ao Z<|ao Z<|ao Z<|ao Z<|ao Z<|ao Z<|dH Z Z<|bS Z<|ah<|ak Z ?_;refine aa (fun b4=>?_) (fun b4=>?_) <;> try simp only[zB] at b4)
    ·((refine yS<|yA Z<|yT<|aA<|aq<|aq<|af<|af<|aq<|af<|aq<|af<|af<|aq ?_;refine af<|aB zi ?_);refine And.intro ?_ trivial)
     rw[if_pos b4] at df
     rw[pz df (by decide)];rfl
    rw[if_neg (by simp[b4])] at df
    (refine ar<|aS<|aS<|ah<|aP<|yq Z<|bb zI ?_;refine sI ?_)
    (refine yk<|yP Z<|yT<|au ?_;refine⟨(j+1),_,bg.refl _ _,?_⟩)
    exact⟨⟨by omega,cw hj.2 df⟩,by omega,⟨Z,Z,Z,Z,Z,Z,Z,Z,Z,Z,Y⟩,⟨Z,Z,Y⟩⟩
   have df:=tail (KM (by omega))
   ((refine aT<|ae<|d0 Z<|d0 Z<|d0 Z<|d0 Z<|d0 Z<|d0 Z<|d0 Z<|d0 Z<|yD Z<|yD Z<|bR<|ao Z ?_;refine ao Z<|ao Z<|ao Z<|ao Z<|ao Z<|ao Z<|ao Z<|ao Z<|ao Z<|ao Z<|ao Z<|ao Z<|dH Z Z<|bS Z ?_;refine ah<|ak Z<|bz<|an<|cF [] false I_ rfl (by kernel_rfl)<|aK Z<|aK Z<|aK Z<|aK Z<|aK Z<|eG Z Z<|cE Z<|yW Z<|yD Z ?_;refine yD Z<|dq Z<|bb zI ?_);refine And.intro ⟨by omega,by omega,by omega,pk fun _=>rfl⟩ ?_)
   (refine bM<|ae<|yD Z<|dq Z<|aL zI ?_;refine⟨_,_,(n_ p),?_⟩)
   (refine bM<|ae<|yD Z<|bR<|ao Z<|ao Z<|ao Z<|ao Z<|ao Z<|ao Z<|dH Z Z<|bS Z<|ah<|ak Z ?_;refine aa (fun b4=>?_) (fun b4=>?_) <;> try simp only[zB] at b4)
   ·((refine yS<|yA Z<|yT<|aA<|aq<|aq<|af<|af<|aq<|af<|aq<|af<|af<|aq ?_;refine af<|aB zi ?_);refine And.intro ?_ trivial)
    rw[if_pos b4] at df
    rw[pz df (by decide)];rfl
   rw[if_neg (by simp[b4])] at df
   (refine ar<|aS<|aS<|ah<|aP<|yq Z<|bb zI ?_;refine sI ?_)
   (refine yk<|yP Z<|yT<|au ?_;refine⟨(j+1),_,bg.refl _ _,?_⟩)
   exact⟨⟨by omega,cw hj.2 df⟩,by omega,⟨Z,Z,Z,Z,Z,Z,Z,Z,Z,Z,Y⟩,⟨Z,Z,Y⟩⟩
  have z1:=I7.trans (bp fun k _ hk=>hj.2 k (by omega))
  rw[eM z1] at cf
  (refine bF<|aQ<|aQ<|bG<|ah<|an<|yS<|yV Z<|yP Z<|yP Z<|yP Z<|yT<|ak Z ?_;refine aa (fun a4=>?_) (fun a4=>?_) <;> try simp only[zB] at a4)
  ·(refine yS<|yA Z<|yT<|aA<|af<|aq<|af<|af<|aq<|af<|aB zi ?_;refine And.intro ?_ trivial)
   rw[if_pos (by omega)] at cf
   rw[bad cf (by decide)];rfl
  rw[if_neg (by omega)] at cf
  (refine ar<|ah<|an<|cF [] false lX rfl (by kernel_rfl)<|cE Z<|yD Z<|yD Z<|yD Z<|dg Z ?_;refine aa (fun o1=>?_) (fun o1=>?_) <;> try simp only[zB] at o1)
  ·obtain⟨z,hz⟩:=aH (l:=y.nets) (i:=i - 1) (by omega)
   rw[dG (f:=Net.name) hx hz (by omega)] at cf
   ((refine aV<|bA Z<|az zI<|bM<|ai<|d1 Z<|d2 Z<|bA Z<|az zI<|bM<|ai<|d1 Z<|d1 Z<|d2 Z ?_;refine bA Z<|bb zI ?_);refine sI ?_)
   (refine bM<|ae<|d2 Z<|bA Z<|aL zI ?_;refine⟨(s4 z),(idx (show (i:Int) - 1=((i - 1:Nat):Int) by omega) hz),?_⟩)
   (refine bM<|ae<|d1 Z<|d1 Z<|d1 Z<|yD Z<|bR<|bS Z<|ah<|ak Z ?_;refine aa (fun o2=>?_) (fun o2=>?_) <;> try simp only[zB] at o2)
   ·(refine yS<|yA Z<|yT<|aA<|aq<|af<|af<|aq<|af<|aB zi ?_;refine And.intro ?_ trivial)
    have o2:(cB (Net.name n) (Net.name z) || decide (Net.name n=Net.name z))=true:=by simpa [cB] using o2
    rw[o2,if_pos rfl] at cf
    rw[aI hi.2 (by omega) cf (by decide)];rfl
   have o2:(cB (Net.name n) (Net.name z) || decide (Net.name n=Net.name z))=false:=by simpa [cB] using o2
   rw[o2,if_neg (by decide)] at cf
   (refine ar<|aS<|ah<|aP<|yq Z<|bb zI ?_;refine sI ?_)
   (refine yk<|yP Z<|yT<|au ?_;refine⟨(i+1),_,bg.refl _ _,?_⟩)
   exact⟨⟨by omega,cw hi.2 cf⟩,by omega,⟨Z,Z,Z,Z,Z,Y⟩,⟨Z,Y⟩⟩
  have h0:i=0:=by omega
  rw[eU h0,if_neg (by decide)] at cf
  ((refine aT<|ae<|d0 Z<|d0 Z<|d0 Z<|d0 Z<|d0 Z<|d0 Z<|d0 Z<|d0 Z<|d0 Z<|yD Z<|bR<|bS Z ?_;refine ah<|ak Z<|bz<|ar<|aS<|ah<|aP<|yq Z<|bb zI ?_);refine sI ?_)
  (refine yk<|yP Z<|yT<|au ?_;refine⟨(i+1),_,bg.refl _ _,?_⟩)
  exact⟨⟨by omega,cw hi.2 cf⟩,by omega,⟨Z,Z,Z,Z,Z,Y⟩,⟨Z,Y⟩⟩
 (refine bF<|aQ<|aQ<|bG<|ah<|yS<|yA Z<|yR zi ?_;refine And.intro ?_ trivial)
 rw[bp fun k _ hk=>hi.2 k (by omega)];rfl
theorem tr (t:List bh) (x:p_) (Nh:po t) (KR:qg x):aw C 19 [.pv (.sl (t.map g_)),.pv (.ag (yC x))] (.p (i64 (dL t x))) []:=by
 refine aE hC Tryz.func19 rfl rfl 14 rfl (by decide) (by kernel_rfl) fun _ _ _ _ _=>?_
 (refine yS<|yn Z<|az zI<|aR<|ai<|yA Z<|yT<|an<|yS<|yP Z<|yn Z<|aL zI ?_;refine⟨_,_,(rh t Nh),?_⟩)
 (refine br Z Z<|ae<|yA Z<|yU<|yP Z<|yP Z<|yT<|ak Z ?_;refine aa (fun g1=>?_) (fun g1=>?_) <;> try simp only[zB] at g1)
 ·have g1:cz t≠0:=by simpa using g1
  (refine yS<|yP Z<|yA Z<|yT<|aA<|af<|aB zi ?_;refine And.intro ?_ trivial)
  rw[dL,dy rfl g1]
 have g1:cz t=0:=by simpa using g1
 rw[dL,eM g1]
 (refine ar<|ah<|yS<|yP Z<|yP Z<|yn Z<|aL zI ?_;refine⟨_,_,(tq t x (lA g1) KR),?_⟩)
 (refine br Z Z<|ae<|yA Z<|yR zi ?_;refine And.intro ?_ trivial)
 rfl
structure gC where
 pin:ByteArray
 x:Int
 y:Int
structure fZ where
 type:ByteArray
 spots:List gC
structure Bo where
 x:Int
 y:Int
 size:Int
 lo:Int
 hi:Int
 plated:Bool
structure Order where
 types:List bh
 list:p_
 mats:List eJ
 stack:List Lay
 plots:List fM
 outline:fM
 bores:List Bo
 bodies:List Body
 places:List Place
 feet:List fZ
 rules:lP
def gW (s:gC):List PV:=[str s.pin,i64 s.x,i64 s.y]
def tv (f:fZ):List PV:=[str f.type,.sl (f.spots.map gW)]
def Cv (b:Bo):List PV:=[i64 b.x,i64 b.y,i64 b.size,i64 b.lo,i64 b.hi,bool b.plated]
def nH (o:Order):List PV:=[.sl (o.types.map g_),.sl (o.list.parts.map kb),.sl (o.list.nets.map s4),.sl (o.mats.map jT),.sl (o.stack.map jf),.sl (o.plots.map fun p=>cS p),i64 o.outline.unit,.sl (o.outline.tools.map ug),.sl o.outline.steps.rows,.sl (o.bores.map Cv),.sl (o.bodies.map mF),.sl (o.places.map lY),.sl (o.feet.map tv),i64 o.rules.clearance,i64 o.rules.width,i64 o.rules.ring,i64 o.rules.edge,i64 o.rules.holeGap,.sl (o.rules.classes.map kl),.sl (o.rules.areas.map arr)]
structure f_ (o:Order):Prop where
 types:po o.types
 list:qg o.list
 mats:tb o.mats
 stack:rI o.stack
 plots:o.plots.length<=1048576/\∀p∈o.plots,mK p
 outline:mK o.outline
 bores:o.bores.length<=1048576
 bodies:mO o.bodies
 places:tp o.places
 feet:o.feet.length<=1048576/\∀f∈o.feet,bO f.type/\f.spots.length<=1048576/\∀s∈f.spots,bO s.pin
 rules:nn o.rules
theorem qV {t:List bh} (h:cz t=0):∀x∈t,¬x.name=aF:=fun x hx e=>by
 unfold cz at h
 split at h
 ·cases h
 obtain⟨k,hk⟩:=List.mem_iff_getElem?.1 hx
 have h2:=c_ h k (Nat.zero_le _) (by rw[Nat.zero_add];exact (List.getElem?_eq_some_iff.1 hk).1)
 simp only[fW,hk] at h2
 have h3:=(fK h2).1
 rw[jU,e] at h3
 have h4:cD aF=false:=by decide
 rw[h4] at h3
 cases h3
def tw (t:List bh) (x:ByteArray):List cJ:=match qc bh.name t x with
 | some y=>y.pins
 | none=>[]
def eQ (pins:List cJ) (l:List gC) (k:Nat):Int:=match l[k]? with
 | some x=>if dk cJ.name pins x.pin=true then (if er x.x (-100000) 100000=true then (if er x.y (-100000) 100000=true then (if bE (l.map gC.pin) k=true then 8 else 0) else 1) else 1) else 9
 | none=>0
def dX (t:List bh) (l:List fZ) (i:Nat):Int:=match l[i]? with
 | some f=>if dk bh.name t f.type=true then (if 200 < f.spots.length then 2 else nq (a8 (eQ (tw t f.type) f.spots) 0 f.spots.length) (if bE (l.map fZ.type) i=true then 8 else 0)) else 9
 | none=>0
def dt (t:List bh) (l:List fZ):Int:=if 200 < l.length then 2 else a8 (dX t l) 0 l.length
def gX (s:List Lay):Nat:=(s.filter fun l=>!decide (l.name=aF)).length
theorem tx {s:List Lay} {i:Nat} {l:Lay} (h:s[i]?=some l):gX (s.take (i+1))=gX (s.take i)+(if l.name=aF then 0 else 1):=by
 unfold gX
 rw[bB h,List.filter_append,List.length_append]
 congr 1
 by_cases e:l.name=aF <;> simp[e]
theorem kG (s:List Lay):gX s<=s.length:=List.length_filter_le _ _
def O0:bh:=⟨aF,[]⟩
def Iv (l:List UInt8):ByteArray:=⟨l.toArray⟩
theorem tz (n:Int) (h:-9223372036854775808<=n/\n<=9223372036854775807):aw C 23 [.pv (i64 n)] (.p (str (Iv (Lib.itoa n)))) []:=
 pW [.int .i64 n] (.string (Iv (Lib.itoa n))) ⟨_,Tryz.func23,by decide,rfl⟩ fun S w hE hS=>by
  refine (Tryz.strconv_Itoa n h.1 h.2 w hE.2.2.2).mono ?_
  rintro e w' ⟨rfl,k,os,rfl⟩
  exact⟨rfl,Lib.below_grow _ _ (Nat.le_refl _) k os⟩
def EV (s:ByteArray) (f:Int):List PV:=if f=0 then [i64 0,str aF] else [i64 f,str s]
theorem fQ (s:ByteArray) (f:Int):aw C 43 [.pv (str s),.pv (i64 f)] (.p (.ag (EV s f))) []:=by
 refine aE hC Tryz.func43 rfl rfl 11 rfl (by decide) (by kernel_rfl) fun _ _ _ _ _=>?_
 (refine yS<|yn Z<|az zI<|aR<|ai<|yT<|an<|yS<|yP Z<|yP Z<|yT<|ak Z ?_;refine aa (fun h=>?_) (fun h=>?_) <;> try simp only[zB] at h)
 ·(refine yS<|yP Z<|yq Z<|az zI<|aX<|aM<|aU<|yT<|aA<|af<|aB zi ?_;refine And.intro ?_ trivial)
  rw[EV,if_pos h];rfl
 (refine ar<|ah<|yS<|yP Z<|yP Z<|yP Z<|yq Z<|az zI<|aX<|aM<|aU<|yR zi ?_;refine And.intro ?_ trivial)
 rw[EV,if_neg h];rfl
theorem Ey (f:Int) (s:ByteArray):aw C 27 [.pv (.ag [i64 f,str s])] (.p (bool (!decide (f=0)))) []:=by
 refine aE hC Tryz.func27 rfl rfl 6 rfl (by decide) (by kernel_rfl) fun _ _ _ _ _=>?_
 (refine yS<|yn Z<|az zI<|aR<|ai<|yA Z<|yU<|yV Z<|yP Z<|yP Z<|yA Z<|yR zi ?_;refine And.intro ?_ trivial)
 rfl
theorem nR (o:Order) (hN:o.stack.length<=1048576):aw C 45 [.pv (.ag (nH o))] (.p (i64 (gX o.stack))) []:=by
 refine aE hC Tryz.func45 rfl rfl 20 rfl (by decide) (by kernel_rfl) fun _ _ _ _ _=>?_
 have lm:=aJ o.stack jf
 (refine yS<|yn Z<|az zI<|aR<|ai<|yA Z<|yU<|yA Z<|yT<|an<|yS<|yV Z<|yP Z<|yP Z ?_;refine yP Z<|yT<|aO ?_)
 refine aC (fun i:Nat=>i<=o.stack.length) (fun i=>[(3,.p (i64 (gX (o.stack.take i)))),(7,.p (.sl (o.stack.map jf))),(8,.p (i64 o.stack.length)),(9,.p (i64 i))]) (fun _=>[]) (fun i=>o.stack.length - i) 0 _ (bg.refl _ _) (Nat.zero_le _) ⟨rfl,rfl,congrArg (fun n:Nat=>AV.p (i64 n)) lm,Z,Y⟩ trivial fun i hi t h=>?_
 have hle:=kG (o.stack.take i)
 rw[List.length_take] at hle
 (refine yS<|yP Z<|yT<|an<|ak Z ?_;refine aa (fun h1=>?_) (fun h1=>?_) <;> try simp only[zB] at h1)
 ·obtain⟨l,hl⟩:=aH (l:=o.stack) (i:=i) (by omega)
  have hs:=tx hl
  (refine ar<|ah<|an<|aO<|yS<|yq Z<|aL zI ?_;refine⟨(jf l),(idx rfl hl),?_⟩)
  ((refine yk<|yP Z<|yn Z<|az zI<|aR<|ai<|yq Z<|az zI<|aX<|aM<|aU<|yU<|yV Z<|yP Z ?_;refine yP Z<|yT<|ak Z ?_);refine aa (fun h2=>?_) (fun h2=>?_) <;> try simp only[zB] at h2)
  ·have h2:¬l.name=aF:=h2
   rw[if_neg h2] at hs
   (refine aP<|yP Z<|yq Z<|bb zI ?_;refine sI ?_)
   (refine yk<|yA Z<|dB<|aS<|ah<|aP<|yq Z<|bb zI ?_;refine sI ?_)
   (refine yk<|yP Z<|yT<|au ?_;refine⟨(i+1),_,bg.refl _ _,?_⟩)
   exact⟨by omega,by omega,⟨cb (by rw[hs];rfl),Z,Z,Z,Y⟩,trivial⟩
  have h2:l.name=aF:=by simpa [aF] using h2
  rw[if_pos h2] at hs
  (refine ar<|aS<|ah<|aP<|yq Z<|bb zI ?_;refine sI ?_)
  (refine yk<|yP Z<|yT<|au ?_;refine⟨(i+1),_,bg.refl _ _,?_⟩)
  exact⟨by omega,by omega,⟨cb (by rw[hs];rfl),Z,Z,Z,Y⟩,trivial⟩
 have e:o.stack.take i=o.stack:=List.take_of_length_le (by omega)
 (refine bF<|aQ<|aQ<|bG<|ah<|yS<|yP Z<|yA Z<|yR zi ?_;refine And.intro ?_ trivial)
 rw[e]
def mP (s:List Lay) (i:Nat):List Int:=((List.range i).filter fun k=>match s[k]? with | some l=>!decide (l.name=aF) | none=>false).map fun k:Nat=>(k:Int)
theorem tA {s:List Lay} {i:Nat} {l:Lay} (h:s[i]?=some l):mP s (i+1)=mP s i++(if l.name=aF then [] else [(i:Int)]):=by
 unfold mP
 rw[List.range_succ,List.filter_append,List.map_append]
 congr 1
 by_cases e:l.name=aF <;> simp[h,e]
theorem qi (s:List Lay):∀i,i<=s.length->(mP s i).length=gX (s.take i)
 | 0,_=>rfl
 | i+1,hi=>by
  obtain⟨l,hl⟩:=aH (l:=s) (i:=i) (by omega)
  rw[tA hl,tx hl,List.length_append,qi s i (by omega)]
  congr 1
  split <;> rfl
theorem ru (o:Order) (hN:o.stack.length<=1048576):aw C 21 [.pv (.ag (nH o))] (.own 3 ((mP o.stack o.stack.length).map fun n=>[i64 n])) []:=by
 refine aE hC Tryz.func21 rfl rfl 23 rfl (by decide) (by kernel_rfl) fun _ _ _ _ _=>?_
 have lm:=aJ o.stack jf
 (refine yS<|yn Z<|az zI<|aR<|ai<|yB Z<|yU<|yB Z<|yT<|an<|yS<|yV Z<|yP Z<|yP Z ?_;refine yP Z<|yT<|aO ?_)
 refine aC (fun i:Nat=>i<=o.stack.length) (fun i=>[(3,.ow 3),(7,.p (.sl (o.stack.map jf))),(8,.p (i64 o.stack.length)),(9,.p (i64 i))]) (fun i=>[(3,.row 3 ((mP o.stack i).map fun n=>[i64 n]))]) (fun i=>o.stack.length - i) 0 _ (bg.iN hC _ 3 3 _ (by decide) rfl rfl (by decide)) (Nat.zero_le _) ⟨rfl,rfl,congrArg (fun n:Nat=>AV.p (i64 n)) lm,Z,Y⟩ ⟨Z,Y⟩ fun i hi t h=>?_
 (refine yS<|yP Z<|yT<|an<|ak Z ?_;refine aa (fun h1=>?_) (fun h1=>?_) <;> try simp only[zB] at h1)
 ·obtain⟨l,hx⟩:=aH (l:=o.stack) (i:=i) (by omega)
  have jg:=tA hx
  have hle:=qi o.stack i (by omega)
  have Ig:=kG (o.stack.take i)
  rw[List.length_take] at Ig
  have F7:((mP o.stack i).map fun n=>[i64 n]).length=(mP o.stack i).length:=List.length_map ..
  (refine ar<|ah<|an<|aO<|yS<|yP Z<|yq Z<|aL zI ?_;refine⟨(jf l),(idx rfl hx),?_⟩)
  ((refine yk<|yP Z<|yn Z<|az zI<|aR<|ai<|yA Z<|yq Z<|az zI<|aX<|aM<|aU<|yU<|yV Z ?_;refine yP Z<|yP Z<|yT<|ak Z ?_);refine aa (fun h2=>?_) (fun h2=>?_) <;> try simp only[zB] at h2)
  ·have h2:¬l.name=aF:=h2
   rw[if_neg h2] at jg
   (refine aP<|yq Z<|az zI<|aX<|aG<|yP Z<|yn Z<|az zI<|aR<|aG<|yn Z<|bb zI ?_;refine And.intro ⟨by simp,by rw[F7];simp;omega,by rw[F7];simp;omega⟩ ?_)
   (refine aR<|aM<|aG<|dx Z<|cO Z Z Z Z Z<|dB<|aS<|ah<|aP<|yq Z<|bb zI ?_;refine sI ?_)
   (refine yk<|yP Z<|yT<|au ?_;refine⟨(i+1),_,bg.refl _ _,?_⟩)
   exact⟨by omega,by omega,⟨Z,Z,Z,Z,Y⟩,⟨by rw[jg,List.map_append];rfl,trivial⟩⟩
  have h2:l.name=aF:=by simpa [aF] using h2
  rw[if_pos h2,List.append_nil] at jg
  (refine ar<|aS<|ah<|aP<|yq Z<|bb zI ?_;refine sI ?_)
  (refine yk<|yP Z<|yT<|au ?_;refine⟨(i+1),_,bg.refl _ _,?_⟩)
  exact⟨by omega,by omega,⟨Z,Z,Z,Z,Y⟩,⟨by rw[jg];rfl,trivial⟩⟩
 have e:i=o.stack.length:=by omega
 refine bF<|aQ<|aQ<|bG<|ah<|yS<|yq Z<|az zI<|aX<|aG<|dx Z<|cO Z Z Z Z Z<|yR zi ?_
 rw[e]
 exact⟨Z,Z,Y⟩
theorem wI (o:Order) (x:ByteArray) (hN:o.types.length<=1048576):aw C 64 [.pv (.ag (nH o)),.pv (str x)] (.p (.ag (g_ ((qc bh.name o.types x).getD O0)))) []:=by
 refine aE hC Tryz.func64 rfl rfl 21 rfl (by decide) (by kernel_rfl) fun _ _ _ _ _=>?_
 have lm:=aJ o.types g_
 (refine yS<|yn Z<|az zI<|aR<|ai<|yn Z<|az zI<|aR<|ai<|yT<|an<|yS<|yV Z<|yP Z ?_;refine yP Z<|yP Z<|yT<|aO ?_)
 refine aC (fun i:Nat=>i<=o.types.length/\∀z∈o.types.take i,decide (z.name=x)=false) (fun i=>[(1,.p (str x)),(4,.bx 4 0),(8,.p (.sl (o.types.map g_))),(9,.p (i64 (o.types.map g_).length)),(10,.p (i64 i))]) (fun _=>[(4,.box [.p (str aF),.nl])]) (fun i=>o.types.length - i) 0 _ (bg.refl _ _) ⟨Nat.zero_le _,by simp⟩ ⟨Z,Z,Z,Z,Z,Y⟩ ⟨Z,Y⟩ fun i hi t h=>?_
 (refine yS<|yP Z<|yT<|an<|ak Z ?_;refine aa (fun h1=>?_) (fun h1=>?_) <;> try simp only[zB] at h1)
 ·rw[lm] at h1
  obtain⟨r,hr⟩:=aH (l:=o.types) (i:=i) (by omega)
  (refine ar<|ah<|an<|aO<|yS<|yq Z<|aL zI ?_;refine⟨(g_ r),(idx rfl hr),?_⟩)
  ((refine yk<|yP Z<|yn Z<|az zI<|aR<|ai<|yq Z<|az zI<|aX<|aM<|aU<|yU<|yV Z<|yP Z ?_;refine yP Z<|yP Z<|yT<|ak Z ?_);refine aa (fun h2=>?_) (fun h2=>?_) <;> try simp only[zB] at h2)
  ·((refine yS<|yP Z<|yq Z<|az zI<|aX<|aM<|aU<|yT<|aA<|aq<|af<|af<|aq<|af ?_;refine aB zi ?_);refine And.intro ?_ trivial)
   have e:dO bh.name o.types x=(i:Int):=by rw[dO,cY (p:=fun z=>decide (bh.name z=x)) hr (decide_eq_true h2) hi.2,Nat.zero_add]
   rw[qc,if_pos (by omega),e,Int.toNat_natCast,hr]
   rfl
  (refine ar<|aS<|ah<|aP<|yq Z<|bb zI ?_;refine sI ?_)
  (refine yk<|yP Z<|yT<|au ?_;refine⟨(i+1),_,bg.refl _ _,?_⟩)
  exact⟨⟨by omega,dV (p:=fun z=>decide (bh.name z=x)) hr (decide_eq_false h2) hi.2⟩,by omega,⟨Z,Z,Z,Z,Z,Y⟩,⟨Z,Y⟩⟩
 rw[lm] at h1
 (refine bF<|aQ<|aQ<|bG<|ah<|yS<|yP Z<|yq Z<|az zI<|aX<|aM<|aU<|yR zi ?_;refine And.intro ?_ trivial)
 have h2:=hi.2
 rw[List.take_of_length_le (by omega)] at h2
 have e:dO bh.name o.types x=-1:=by rw[dO,cr (p:=fun z=>decide (bh.name z=x)) h2]
 rw[qc,if_neg (by omega)]
 rfl
theorem wJ (y:bh) (x:ByteArray) (hN:y.pins.length<=1048576):aw C 65 [.pv (.ag (g_ y)),.pv (str x)] (.p (bool (dk cJ.name y.pins x))) []:=by
 refine aE hC Tryz.func65 rfl rfl 19 rfl (by decide) (by kernel_rfl) fun _ _ _ _ _=>?_
 have lm:=aJ y.pins gM
 (refine yS<|yn Z<|az zI<|aR<|ai<|yA Z<|yT<|an<|yS<|yV Z<|yP Z<|yP Z<|yP Z<|yT ?_;refine aO ?_)
 refine aC (fun i:Nat=>i<=y.pins.length/\∀z∈y.pins.take i,decide (z.name=x)=false) (fun i=>[(1,.p (str x)),(8,.p (.sl (y.pins.map gM))),(9,.p (i64 (y.pins.map gM).length)),(10,.p (i64 i))]) (fun _=>[]) (fun i=>y.pins.length - i) 0 _ (bg.refl _ _) ⟨Nat.zero_le _,by simp⟩ ⟨Z,Z,Z,Z,Y⟩ trivial fun i hi t h=>?_
 (refine yS<|yP Z<|yT<|an<|ak Z ?_;refine aa (fun h1=>?_) (fun h1=>?_) <;> try simp only[zB] at h1)
 ·rw[lm] at h1
  obtain⟨r,hr⟩:=aH (l:=y.pins) (i:=i) (by omega)
  (refine ar<|ah<|an<|aO<|yS<|yq Z<|aL zI ?_;refine⟨(gM r),(idx rfl hr),?_⟩)
  ((refine yk<|yP Z<|yn Z<|az zI<|aR<|ai<|yq Z<|az zI<|aX<|aM<|aU<|yU<|yV Z<|yP Z ?_;refine yP Z<|yP Z<|yT<|ak Z ?_);refine aa (fun h2=>?_) (fun h2=>?_) <;> try simp only[zB] at h2)
  ·(refine yS<|yA Z<|yT<|aA<|aq<|af<|af<|aq<|af<|aB zi ?_;refine And.intro ?_ trivial)
   rw[cZ.2 ⟨r,List.mem_of_getElem? hr,h2⟩];rfl
  (refine ar<|aS<|ah<|aP<|yq Z<|bb zI ?_;refine sI ?_)
  (refine yk<|yP Z<|yT<|au ?_;refine⟨(i+1),_,bg.refl _ _,?_⟩)
  exact⟨⟨by omega,dV (p:=fun z:cJ=>decide (z.name=x)) hr (decide_eq_false h2) hi.2⟩,by omega,⟨Z,Z,Z,Z,Y⟩,trivial⟩
 rw[lm] at h1
 (refine bF<|aQ<|aQ<|bG<|ah<|yS<|yA Z<|yR zi ?_;refine And.intro ?_ trivial)
 have h2:=hi.2
 rw[List.take_of_length_le (by omega)] at h2
 have e:dk cJ.name y.pins x=false:=by
  rw[dk,List.any_eq_false]
  intro z hz
  rw[h2 z hz];decide
 rw[e];rfl
theorem rv (o:Order) (ho:f_ o) (ht:cz o.types=0):aw C 48 [.pv (.ag (nH o))] (.p (i64 (dt o.types o.feet))) []:=by
 refine aE hC Tryz.func48 rfl rfl 93 rfl (by decide) (by kernel_rfl) fun _ _ _ _ _=>?_
 have lm:=aJ o.feet tv
 have tg:=lA ht
 have tn:=qV ht
 have tl:=tg.len
 obtain⟨O1,Ni⟩:=ho.feet
 ((refine yS<|yn Z<|az zI<|aR<|ai<|yA Z<|yT<|an<|yS<|yV Z<|yP Z<|yP Z<|yP Z<|yT ?_;refine ak Z ?_);refine aa (fun g1=>?_) (fun g1=>?_) <;> try simp only[zB] at g1)
 ·(refine yS<|yA Z<|yT<|aA<|af<|aB zi ?_;refine And.intro ?_ trivial)
  rw[dt,if_pos (by omega)];rfl
 rw[dt,if_neg (by omega)]
 refine ar<|ah<|an<|yS<|yV Z<|yP Z<|yP Z<|yP Z<|yT<|aO ?_
 refine aC (fun i:Nat=>i<=o.feet.length/\∀k,k < i->dX o.types o.feet k=0) (fun i=>[(1,.bx 1 0),(13,.p (.sl (o.feet.map tv))),(14,.p (i64 o.feet.length)),(15,.p (i64 i))]) (fun _=>[(1,.box ((nH o).map .p))]) (fun i=>o.feet.length - i) 0 _ (bg.refl _ _) ⟨Nat.zero_le _,fun k h=>by omega⟩ ⟨rfl,rfl,congrArg (fun n:Nat=>AV.p (i64 n)) lm,Z,Y⟩ ⟨Z,Y⟩ fun i hi t h=>?_
 (refine yS<|yP Z<|yT<|an<|ak Z ?_;refine aa (fun h1=>?_) (fun h1=>?_) <;> try simp only[zB] at h1)
 ·obtain⟨f,hx⟩:=aH (l:=o.feet) (i:=i) (by omega)
  have cf:dX o.types o.feet i=(if dk bh.name o.types f.type=true then (if 200 < f.spots.length then 2 else nq (a8 (eQ (tw o.types f.type) f.spots) 0 f.spots.length) (if bE (o.feet.map fZ.type) i=true then 8 else 0)) else 9):=by simp only[dX,hx]
  obtain⟨so,sl,sp⟩:=Ni f (List.mem_of_getElem? hx)
  have ls:=aJ f.spots gW
  have bad:∀{c:Int},dX o.types o.feet i=c->c≠0->a8 (dX o.types o.feet) 0 o.feet.length=c:=fun e h0=>aI hi.2 (by omega) e h0
  have GJ:=gn (f:=bh.name) (l:=o.types) (x:=f.type)
  (refine ar<|ah<|an<|aO<|yS<|yP Z<|yq Z<|aL zI ?_;refine⟨(tv f),(idx rfl hx),?_⟩)
  ((refine yk<|yP Z<|yn Z<|az zI<|aR<|ai<|yA Z<|yq Z<|az zI<|aX<|aM<|aU<|yU<|yV Z ?_;refine yP Z<|yV Z<|yP Z<|yn Z<|aL zI ?_);refine⟨_,_,(lz o.types f.type tg.ord (by omega)),?_⟩)
  (refine br Z Z<|ae<|yA Z<|yT<|an<|yS<|yP Z<|yP Z<|yT<|ak Z ?_;refine aa (fun a1=>?_) (fun a1=>?_) <;> try simp only[zB] at a1)
  ·rw[decide_eq_true a1] at GJ
   rw[if_neg (fun e=>by rw[e] at GJ;cases GJ)] at cf
   (refine yS<|yA Z<|yT<|aA<|af<|aq<|af<|af<|aq<|af<|aB zi ?_;refine And.intro ?_ trivial)
   rw[bad cf (by decide)];rfl
  rw[decide_eq_false a1] at GJ
  have hk:dk bh.name o.types f.type=true:=by simpa using GJ
  obtain⟨m,y,e1,e2,e3,e4⟩:=ig hk
  have Ez:tw o.types f.type=y.pins:=by rw[tw,e4]
  have hyp:=tg.pins y (List.mem_of_getElem? e2)
  rw[if_pos hk,Ez] at cf
  (refine ar<|ah<|an<|yS<|yV Z<|yP Z<|yP Z<|yP Z<|yT<|ak Z ?_;refine aa (fun a2=>?_) (fun a2=>?_) <;> try simp only[zB] at a2)
  ·(refine yS<|yA Z<|yT<|aA<|af<|aq<|af<|af<|aq<|af<|aB zi ?_;refine And.intro ?_ trivial)
   rw[if_pos (by omega)] at cf
   rw[bad cf (by decide)];rfl
  rw[if_neg (by omega)] at cf
  have Ew:∀{c:Int},a8 (eQ y.pins f.spots) 0 f.spots.length=c->c≠0->a8 (dX o.types o.feet) 0 o.feet.length=c:=fun e h0=>bad (cf.trans (dy e h0)) h0
  refine ar<|ah<|an<|yS<|yV Z<|yP Z<|yP Z<|yP Z<|yT<|aO ?_
  refine aC (fun j:Nat=>j<=f.spots.length/\∀k,k < j->eQ y.pins f.spots k=0) (fun j=>[(1,.bx 1 0),(13,.p (.sl (o.feet.map tv))),(14,.p (i64 o.feet.length)),(15,.p (i64 i)),(3,.p (i64 i)),(4,.bx 4 0),(5,.p (i64 (dO bh.name o.types f.type))),(32,.p (.sl (f.spots.map gW))),(33,.p (i64 f.spots.length)),(34,.p (i64 j))]) (fun _=>[(1,.box ((nH o).map .p)),(4,.box ((tv f).map .p))]) (fun j=>f.spots.length - j) 0 _ (bg.refl _ _) ⟨Nat.zero_le _,fun k h=>by omega⟩ ⟨rfl,rfl,rfl,rfl,rfl,rfl,rfl,rfl,congrArg (fun n:Nat=>AV.p (i64 n)) ls,Z,Y⟩ ⟨Z,Z,Y⟩ fun j hj t h=>?_
  (refine yS<|yP Z<|yT<|an<|ak Z ?_;refine aa (fun h2=>?_) (fun h2=>?_) <;> try simp only[zB] at h2)
  ·obtain⟨x,Ex⟩:=aH (l:=f.spots) (i:=j) (by omega)
   have df:eQ y.pins f.spots j=(if dk cJ.name y.pins x.pin=true then (if er x.x (-100000) 100000=true then (if er x.y (-100000) 100000=true then (if bE (f.spots.map gC.pin) j=true then 8 else 0) else 1) else 1) else 9):=by simp only[eQ,Ex]
   have pz:∀{c:Int},eQ y.pins f.spots j=c->c≠0->a8 (dX o.types o.feet) 0 o.feet.length=c:=fun e h0=>Ew (aI hj.2 (by omega) e h0) h0
   (refine ar<|ah<|an<|aO<|yS<|yP Z<|yq Z<|aL zI ?_;refine⟨(gW x),(idx rfl Ex),?_⟩)
   ((refine yk<|yP Z<|yn Z<|az zI<|aR<|ai<|yA Z<|yq Z<|az zI<|aX<|aM<|aU<|yT<|aO ?_;refine an<|cF [] false Kn rfl (by kernel_rfl)<|aK Z<|aK Z<|aK Z<|aK Z<|aK Z<|aK Z<|aK Z<|eG Z Z<|cE Z<|yW Z<|yD Z<|yD Z ?_;refine dq Z<|aL zI ?_);refine⟨(g_ y),(idx e1 e2),?_⟩)
   (refine bM<|ae<|yD Z<|yW Z<|yD Z<|dq Z<|aL zI ?_;refine⟨_,_,(qO y x.pin hyp.1 (by omega)),?_⟩)
   have hq:=gn (f:=cJ.name) (l:=y.pins) (x:=x.pin)
   ((refine bM<|ae<|yD Z<|yD Z<|bR<|ao Z<|ao Z<|ao Z<|ao Z<|ao Z<|ao Z<|ao Z<|ao Z<|ao Z ?_;refine dH Z Z<|bS Z<|ah<|ak Z ?_);refine aa (fun b1=>?_) (fun b1=>?_) <;> try simp only[zB] at b1)
   ·rw[decide_eq_true b1] at hq
    rw[if_neg (fun e=>by rw[e] at hq;cases hq)] at df
    ((refine yS<|yA Z<|yT<|aA<|aq<|aq<|af<|af<|aq<|af<|aq<|af<|af<|aq ?_;refine af<|aB zi ?_);refine And.intro ?_ trivial)
    rw[pz df (by decide)];rfl
   rw[decide_eq_false b1] at hq
   rw[if_pos (by simpa using hq)] at df
   (refine yS<|yV Z<|yV Z<|yP Z<|yn Z<|aL zI ?_;refine⟨_,_,(pg x.x (-100000) 100000),?_⟩)
   (refine br Z Z<|ae<|yP Z<|yP Z<|yg Z ?_;refine aa (fun b2=>?_) (fun b2=>?_) <;> try simp only[zB] at b2)
   ·rw[if_neg (by simp[b2])] at df
    ((refine aT<|ae<|y0 Z<|y0 Z<|y0 Z<|y0 Z<|yP Z<|yA Z<|yT<|ak Z<|cu<|yS<|yA Z<|yT ?_;refine aA<|aq<|aq<|af<|af<|aq<|af<|aq<|af<|af<|aq<|af<|aB zi ?_);refine And.intro ?_ trivial)
    rw[pz df (by decide)];rfl
   rw[if_pos (by simpa using b2)] at df
   (refine aV<|aN Z Z<|az zI<|aX<|ai<|y2 Z<|aN Z Z<|az zI<|aX<|ai<|y1 Z<|y2 Z<|cx Z Z Z<|aL zI ?_;refine⟨_,_,(pg x.y (-100000) 100000),?_⟩)
   (refine br Z Z<|ae<|y1 Z<|yP Z<|yA Z<|yT<|ak Z ?_;refine aa (fun b3=>?_) (fun b3=>?_) <;> try simp only[zB] at b3)
   ·rw[if_neg (by simp[b3])] at df
    ((refine yS<|yA Z<|yT<|aA<|aq<|aq<|af<|af<|aq<|af<|aq<|af<|af<|aq ?_;refine af<|aB zi ?_);refine And.intro ?_ trivial)
    rw[pz df (by decide)];rfl
   rw[if_pos (by simpa using b3)] at df
   (refine an<|cF [] false FK rfl (by kernel_rfl)<|cE Z<|yD Z<|yD Z<|yD Z<|dg Z ?_;refine aa (fun p1=>?_) (fun p1=>?_) <;> try simp only[zB] at p1)
   ·obtain⟨z,hz⟩:=aH (l:=f.spots) (i:=j - 1) (by omega)
    rw[dG (f:=gC.pin) Ex hz (by omega)] at df
    ((refine aV<|bA Z<|az zI<|bM<|ai<|d1 Z<|d2 Z<|bA Z<|az zI<|bM<|ai<|d1 Z<|d1 Z<|d2 Z ?_;refine bA Z<|bb zI ?_);refine sI ?_)
    (refine bM<|ae<|d2 Z<|bA Z<|aL zI ?_;refine⟨(gW z),(idx (show (j:Int) - 1=((j - 1:Nat):Int) by omega) hz),?_⟩)
    ((refine bM<|ae<|d1 Z<|d1 Z<|d1 Z<|yD Z<|yD Z<|bR<|ao Z<|ao Z<|ao Z<|ao Z<|ao Z<|ao Z ?_;refine ao Z<|ao Z<|ao Z<|ao Z<|ao Z<|ao Z<|ao Z<|ao Z<|dH Z Z<|bS Z<|ah<|ak Z ?_);refine aa (fun p2=>?_) (fun p2=>?_) <;> try simp only[zB] at p2)
    ·((refine yS<|yA Z<|yT<|aA<|aq<|aq<|af<|af<|aq<|af<|aq<|af<|af<|aq ?_;refine af<|aB zi ?_);refine And.intro ?_ trivial)
     have p2:(cB (gC.pin x) (gC.pin z) || decide (gC.pin x=gC.pin z))=true:=by simpa [cB] using p2
     rw[p2,if_pos rfl] at df
     rw[pz df (by decide)];rfl
    have p2:(cB (gC.pin x) (gC.pin z) || decide (gC.pin x=gC.pin z))=false:=by simpa [cB] using p2
    rw[p2,if_neg (by decide)] at df
    (refine ar<|aS<|aS<|ah<|aP<|yq Z<|bb zI ?_;refine sI ?_)
    (refine yk<|yP Z<|yT<|au ?_;refine⟨(j+1),_,bg.refl _ _,?_⟩)
    exact⟨⟨by omega,cw hj.2 df⟩,by omega,⟨Z,Z,Z,Z,Z,Z,Z,Z,Z,Z,Y⟩,⟨Z,Z,Y⟩⟩
   rw[eU (by omega),if_neg (by decide)] at df
   ((refine aT<|ae<|d0 Z<|d0 Z<|d0 Z<|d0 Z<|d0 Z<|d0 Z<|d0 Z<|d0 Z<|d0 Z<|yD Z<|yD Z<|bR ?_;refine ao Z<|ao Z<|ao Z<|ao Z<|ao Z<|ao Z<|ao Z<|ao Z<|ao Z<|ao Z<|ao Z<|ao Z<|ao Z<|ao Z ?_;refine dH Z Z<|bS Z<|ah<|ak Z<|bz<|ar<|aS<|aS<|ah<|aP<|yq Z<|bb zI ?_);refine sI ?_)
   (refine yk<|yP Z<|yT<|au ?_;refine⟨(j+1),_,bg.refl _ _,?_⟩)
   exact⟨⟨by omega,cw hj.2 df⟩,by omega,⟨Z,Z,Z,Z,Z,Z,Z,Z,Z,Z,Y⟩,⟨Z,Z,Y⟩⟩
  have z1:=bp (f:=eQ y.pins f.spots) (n:=f.spots.length) (i:=0) fun k _ hk=>hj.2 k (by omega)
  rw[eM z1] at cf
  (refine bF<|aQ<|aQ<|bG<|ah<|an<|cF [] false lX rfl (by kernel_rfl)<|cE Z<|yD Z<|yD Z<|yD Z<|dg Z ?_;refine aa (fun o1=>?_) (fun o1=>?_) <;> try simp only[zB] at o1)
  ·obtain⟨z,hz⟩:=aH (l:=o.feet) (i:=i - 1) (by omega)
   rw[dG (f:=fZ.type) hx hz (by omega)] at cf
   ((refine aV<|bA Z<|az zI<|bM<|ai<|d1 Z<|d2 Z<|bA Z<|az zI<|bM<|ai<|d1 Z<|d1 Z<|d2 Z ?_;refine bA Z<|bb zI ?_);refine sI ?_)
   (refine bM<|ae<|d2 Z<|bA Z<|aL zI ?_;refine⟨(tv z),(idx (show (i:Int) - 1=((i - 1:Nat):Int) by omega) hz),?_⟩)
   (refine bM<|ae<|d1 Z<|d1 Z<|d1 Z<|yD Z<|bR<|bS Z<|ah<|ak Z ?_;refine aa (fun o2=>?_) (fun o2=>?_) <;> try simp only[zB] at o2)
   ·(refine yS<|yA Z<|yT<|aA<|aq<|af<|af<|aq<|af<|aB zi ?_;refine And.intro ?_ trivial)
    have o2:(cB (fZ.type f) (fZ.type z) || decide (fZ.type f=fZ.type z))=true:=by simpa [cB] using o2
    rw[o2,if_pos rfl] at cf
    rw[aI hi.2 (by omega) cf (by decide)];rfl
   have o2:(cB (fZ.type f) (fZ.type z) || decide (fZ.type f=fZ.type z))=false:=by simpa [cB] using o2
   rw[o2,if_neg (by decide)] at cf
   (refine ar<|aS<|ah<|aP<|yq Z<|bb zI ?_;refine sI ?_)
   (refine yk<|yP Z<|yT<|au ?_;refine⟨(i+1),_,bg.refl _ _,?_⟩)
   exact⟨⟨by omega,cw hi.2 cf⟩,by omega,⟨Z,Z,Z,Z,Y⟩,⟨Z,Y⟩⟩
  have h0:i=0:=by omega
  rw[eU h0,if_neg (by decide)] at cf
  ((refine aT<|ae<|d0 Z<|d0 Z<|d0 Z<|d0 Z<|d0 Z<|d0 Z<|d0 Z<|d0 Z<|d0 Z<|yD Z<|bR<|bS Z ?_;refine ah<|ak Z<|bz<|ar<|aS<|ah<|aP<|yq Z<|bb zI ?_);refine sI ?_)
  (refine yk<|yP Z<|yT<|au ?_;refine⟨(i+1),_,bg.refl _ _,?_⟩)
  exact⟨⟨by omega,cw hi.2 cf⟩,by omega,⟨Z,Z,Z,Z,Y⟩,⟨Z,Y⟩⟩
 (refine bF<|aQ<|aQ<|bG<|ah<|yS<|yA Z<|yR zi ?_;refine And.intro ?_ trivial)
 have z0:a8 (dX o.types o.feet) 0 o.feet.length=0:=bp fun k _ hk=>hi.2 k (by omega)
 rw[z0];rfl
theorem ry (o:Order) (ho:f_ o) (ht:cz o.types=0):aw C 25 [.pv (.ag (nH o))] (.p (i64 (dt o.types o.feet))) []:=by
 refine aE hC Tryz.func25 rfl rfl 89 rfl (by decide) (by kernel_rfl) fun _ _ _ _ _=>?_
 have lm:=aJ o.feet tv
 have tg:=lA ht
 have tn:=qV ht
 have tl:=tg.len
 obtain⟨O1,Ni⟩:=ho.feet
 ((refine yS<|yn Z<|az zI<|aR<|ai<|yA Z<|yT<|an<|yS<|yV Z<|yP Z<|yP Z<|yP Z<|yT ?_;refine ak Z ?_);refine aa (fun g1=>?_) (fun g1=>?_) <;> try simp only[zB] at g1)
 ·(refine yS<|yA Z<|yT<|aA<|af<|aB zi ?_;refine And.intro ?_ trivial)
  rw[dt,if_pos (by omega)];rfl
 rw[dt,if_neg (by omega)]
 refine ar<|ah<|an<|yS<|yV Z<|yP Z<|yP Z<|yP Z<|yT<|aO ?_
 refine aC (fun i:Nat=>i<=o.feet.length/\∀k,k < i->dX o.types o.feet k=0) (fun i=>[(1,.bx 1 0),(13,.p (.sl (o.feet.map tv))),(14,.p (i64 o.feet.length)),(15,.p (i64 i))]) (fun _=>[(1,.box ((nH o).map .p))]) (fun i=>o.feet.length - i) 0 _ (bg.refl _ _) ⟨Nat.zero_le _,fun k h=>by omega⟩ ⟨rfl,rfl,congrArg (fun n:Nat=>AV.p (i64 n)) lm,Z,Y⟩ ⟨Z,Y⟩ fun i hi t h=>?_
 (refine yS<|yP Z<|yT<|an<|ak Z ?_;refine aa (fun h1=>?_) (fun h1=>?_) <;> try simp only[zB] at h1)
 ·obtain⟨f,hx⟩:=aH (l:=o.feet) (i:=i) (by omega)
  have cf:dX o.types o.feet i=(if dk bh.name o.types f.type=true then (if 200 < f.spots.length then 2 else nq (a8 (eQ (tw o.types f.type) f.spots) 0 f.spots.length) (if bE (o.feet.map fZ.type) i=true then 8 else 0)) else 9):=by simp only[dX,hx]
  obtain⟨so,sl,sp⟩:=Ni f (List.mem_of_getElem? hx)
  have ls:=aJ f.spots gW
  have bad:∀{c:Int},dX o.types o.feet i=c->c≠0->a8 (dX o.types o.feet) 0 o.feet.length=c:=fun e h0=>aI hi.2 (by omega) e h0
  have GJ:=gn (f:=bh.name) (l:=o.types) (x:=f.type)
  (refine ar<|ah<|an<|aO<|yS<|yP Z<|yq Z<|aL zI ?_;refine⟨(tv f),(idx rfl hx),?_⟩)
  ((refine yk<|yP Z<|yn Z<|az zI<|aR<|ai<|yA Z<|yq Z<|az zI<|aX<|aM<|aU<|yU<|yP Z ?_;refine yV Z<|yP Z<|yn Z<|aL zI ?_);refine⟨_,_,(wI o f.type (by omega)),?_⟩)
  cases hk:dk bh.name o.types f.type with
  | false=>
   rw[je hk]
   rw[hk,if_neg (by decide)] at cf
   ((refine br Z Z<|ae<|yn Z<|az zI<|aR<|ai<|yq Z<|az zI<|aX<|aM<|aU<|yT<|an<|yS ?_;refine yV Z<|yP Z<|yP Z<|yT<|ak Z<|cu<|yS<|yA Z<|yT<|aA<|af<|aq<|af<|af ?_;refine aq<|af<|aB zi ?_);refine And.intro ?_ trivial)
   rw[bad cf (by decide)];rfl
  | true=>
   obtain⟨m,y,e1,e2,e3,e4⟩:=ig hk
   have Ez:tw o.types f.type=y.pins:=by rw[tw,e4]
   rw[e4]
   have O2:=tn y (List.mem_of_getElem? e2)
   ((refine br Z Z<|ae<|yn Z<|az zI<|aR<|ai<|yq Z<|az zI<|aX<|aM<|aU<|yT<|an<|yS ?_;refine yV Z<|yP Z<|yP Z<|yT<|ak Z ?_);refine aa (fun a1=>?_) (fun a1=>?_) <;> try simp only[zB] at a1)
   ·exact absurd a1 O2
   have hyp:=tg.pins y (List.mem_of_getElem? e2)
   rw[if_pos hk,Ez] at cf
   (refine ar<|ah<|an<|yS<|yV Z<|yP Z<|yP Z<|yP Z<|yT<|ak Z ?_;refine aa (fun a2=>?_) (fun a2=>?_) <;> try simp only[zB] at a2)
   ·(refine yS<|yA Z<|yT<|aA<|af<|aq<|af<|af<|aq<|af<|aB zi ?_;refine And.intro ?_ trivial)
    rw[if_pos (by omega)] at cf
    rw[bad cf (by decide)];rfl
   rw[if_neg (by omega)] at cf
   have Ew:∀{c:Int},a8 (eQ y.pins f.spots) 0 f.spots.length=c->c≠0->a8 (dX o.types o.feet) 0 o.feet.length=c:=fun e h0=>bad (cf.trans (dy e h0)) h0
   refine ar<|ah<|an<|yS<|yV Z<|yP Z<|yP Z<|yP Z<|yT<|aO ?_
   refine aC (fun j:Nat=>j<=f.spots.length/\∀k,k < j->eQ y.pins f.spots k=0) (fun j=>[(1,.bx 1 0),(13,.p (.sl (o.feet.map tv))),(14,.p (i64 o.feet.length)),(15,.p (i64 i)),(3,.p (i64 i)),(4,.bx 4 0),(5,.bx 5 0),(32,.p (.sl (f.spots.map gW))),(33,.p (i64 f.spots.length)),(34,.p (i64 j))]) (fun _=>[(1,.box ((nH o).map .p)),(4,.box ((tv f).map .p)),(5,.box ((g_ y).map .p))]) (fun j=>f.spots.length - j) 0 _ (bg.refl _ _) ⟨Nat.zero_le _,fun k h=>by omega⟩ ⟨rfl,rfl,rfl,rfl,rfl,rfl,rfl,rfl,congrArg (fun n:Nat=>AV.p (i64 n)) ls,Z,Y⟩ ⟨Z,Z,Z,Y⟩ fun j hj t h=>?_
   (refine yS<|yP Z<|yT<|an<|ak Z ?_;refine aa (fun h2=>?_) (fun h2=>?_) <;> try simp only[zB] at h2)
   ·obtain⟨x,Ex⟩:=aH (l:=f.spots) (i:=j) (by omega)
    have df:eQ y.pins f.spots j=(if dk cJ.name y.pins x.pin=true then (if er x.x (-100000) 100000=true then (if er x.y (-100000) 100000=true then (if bE (f.spots.map gC.pin) j=true then 8 else 0) else 1) else 1) else 9):=by simp only[eQ,Ex]
    have pz:∀{c:Int},eQ y.pins f.spots j=c->c≠0->a8 (dX o.types o.feet) 0 o.feet.length=c:=fun e h0=>Ew (aI hj.2 (by omega) e h0) h0
    (refine ar<|ah<|an<|aO<|yS<|yP Z<|yq Z<|aL zI ?_;refine⟨(gW x),(idx rfl Ex),?_⟩)
    ((refine yk<|yP Z<|yn Z<|az zI<|aR<|ai<|yA Z<|yq Z<|az zI<|aX<|aM<|aU<|yT<|aO ?_;refine yS<|yP Z<|yV Z<|yP Z<|yn Z<|aL zI ?_);refine⟨_,_,(wJ y x.pin (by omega)),?_⟩)
    (refine br Z Z<|ae<|yP Z<|yA Z<|yT<|ak Z ?_;refine aa (fun b1=>?_) (fun b1=>?_) <;> try simp only[zB] at b1)
    ·rw[if_neg (by simp[b1])] at df
     ((refine yS<|yA Z<|yT<|aA<|aq<|aq<|af<|af<|aq<|af<|aq<|af<|af<|aq ?_;refine af<|aB zi ?_);refine And.intro ?_ trivial)
     rw[pz df (by decide)];rfl
    rw[if_pos (by simpa using b1)] at df
    (refine yS<|yV Z<|yV Z<|yP Z<|yn Z<|aL zI ?_;refine⟨_,_,(fV x.x (-100000) 100000),?_⟩)
    (refine br Z Z<|ae<|yP Z<|yP Z<|yg Z ?_;refine aa (fun b2=>?_) (fun b2=>?_) <;> try simp only[zB] at b2)
    ·rw[if_neg (by simp[b2])] at df
     ((refine aT<|ae<|y0 Z<|y0 Z<|y0 Z<|y0 Z<|yP Z<|yA Z<|yT<|ak Z<|cu<|yS<|yA Z<|yT ?_;refine aA<|aq<|aq<|af<|af<|aq<|af<|aq<|af<|af<|aq<|af<|aB zi ?_);refine And.intro ?_ trivial)
     rw[pz df (by decide)];rfl
    rw[if_pos (by simpa using b2)] at df
    (refine aV<|aN Z Z<|az zI<|aX<|ai<|y2 Z<|aN Z Z<|az zI<|aX<|ai<|y1 Z<|y2 Z<|cx Z Z Z<|aL zI ?_;refine⟨_,_,(fV x.y (-100000) 100000),?_⟩)
    (refine br Z Z<|ae<|y1 Z<|yP Z<|yA Z<|yT<|ak Z ?_;refine aa (fun b3=>?_) (fun b3=>?_) <;> try simp only[zB] at b3)
    ·rw[if_neg (by simp[b3])] at df
     ((refine yS<|yA Z<|yT<|aA<|aq<|aq<|af<|af<|aq<|af<|aq<|af<|af<|aq ?_;refine af<|aB zi ?_);refine And.intro ?_ trivial)
     rw[pz df (by decide)];rfl
    rw[if_pos (by simpa using b3)] at df
    (refine an<|cF [] false FK rfl (by kernel_rfl)<|cE Z<|yD Z<|yD Z<|yD Z<|dg Z ?_;refine aa (fun p1=>?_) (fun p1=>?_) <;> try simp only[zB] at p1)
    ·obtain⟨z,hz⟩:=aH (l:=f.spots) (i:=j - 1) (by omega)
     rw[dG (f:=gC.pin) Ex hz (by omega)] at df
     ((refine aV<|bA Z<|az zI<|bM<|ai<|d1 Z<|d2 Z<|bA Z<|az zI<|bM<|ai<|d1 Z<|d1 Z<|d2 Z ?_;refine bA Z<|bb zI ?_);refine sI ?_)
     (refine bM<|ae<|d2 Z<|bA Z<|aL zI ?_;refine⟨(gW z),(idx (show (j:Int) - 1=((j - 1:Nat):Int) by omega) hz),?_⟩)
     ((refine bM<|ae<|d1 Z<|d1 Z<|d1 Z<|yD Z<|yD Z<|bR<|ao Z<|ao Z<|ao Z<|ao Z<|ao Z<|ao Z ?_;refine ao Z<|ao Z<|ao Z<|ao Z<|ao Z<|ao Z<|ao Z<|ao Z<|dH Z Z<|bS Z<|ah<|ak Z ?_);refine aa (fun p2=>?_) (fun p2=>?_) <;> try simp only[zB] at p2)
     ·((refine yS<|yA Z<|yT<|aA<|aq<|aq<|af<|af<|aq<|af<|aq<|af<|af<|aq ?_;refine af<|aB zi ?_);refine And.intro ?_ trivial)
      have p2:(cB (gC.pin x) (gC.pin z) || decide (gC.pin x=gC.pin z))=true:=by simpa [cB] using p2
      rw[p2,if_pos rfl] at df
      rw[pz df (by decide)];rfl
     have p2:(cB (gC.pin x) (gC.pin z) || decide (gC.pin x=gC.pin z))=false:=by simpa [cB] using p2
     rw[p2,if_neg (by decide)] at df
     (refine ar<|aS<|aS<|ah<|aP<|yq Z<|bb zI ?_;refine sI ?_)
     (refine yk<|yP Z<|yT<|au ?_;refine⟨(j+1),_,bg.refl _ _,?_⟩)
     exact⟨⟨by omega,cw hj.2 df⟩,by omega,⟨Z,Z,Z,Z,Z,Z,Z,Z,Z,Z,Y⟩,⟨Z,Z,Z,Y⟩⟩
    rw[eU (by omega),if_neg (by decide)] at df
    ((refine aT<|ae<|d0 Z<|d0 Z<|d0 Z<|d0 Z<|d0 Z<|d0 Z<|d0 Z<|d0 Z<|d0 Z<|yD Z<|yD Z<|bR ?_;refine ao Z<|ao Z<|ao Z<|ao Z<|ao Z<|ao Z<|ao Z<|ao Z<|ao Z<|ao Z<|ao Z<|ao Z<|ao Z<|ao Z ?_;refine dH Z Z<|bS Z<|ah<|ak Z<|bz<|ar<|aS<|aS<|ah<|aP<|yq Z<|bb zI ?_);refine sI ?_)
    (refine yk<|yP Z<|yT<|au ?_;refine⟨(j+1),_,bg.refl _ _,?_⟩)
    exact⟨⟨by omega,cw hj.2 df⟩,by omega,⟨Z,Z,Z,Z,Z,Z,Z,Z,Z,Z,Y⟩,⟨Z,Z,Z,Y⟩⟩
   have z1:=bp (f:=eQ y.pins f.spots) (n:=f.spots.length) (i:=0) fun k _ hk=>hj.2 k (by omega)
   rw[eM z1] at cf
   (refine bF<|aQ<|aQ<|bG<|ah<|an<|cF [] false lX rfl (by kernel_rfl)<|cE Z<|yD Z<|yD Z<|yD Z<|dg Z ?_;refine aa (fun o1=>?_) (fun o1=>?_) <;> try simp only[zB] at o1)
   ·obtain⟨z,hz⟩:=aH (l:=o.feet) (i:=i - 1) (by omega)
    rw[dG (f:=fZ.type) hx hz (by omega)] at cf
    ((refine aV<|bA Z<|az zI<|bM<|ai<|d1 Z<|d2 Z<|bA Z<|az zI<|bM<|ai<|d1 Z<|d1 Z<|d2 Z ?_;refine bA Z<|bb zI ?_);refine sI ?_)
    (refine bM<|ae<|d2 Z<|bA Z<|aL zI ?_;refine⟨(tv z),(idx (show (i:Int) - 1=((i - 1:Nat):Int) by omega) hz),?_⟩)
    (refine bM<|ae<|d1 Z<|d1 Z<|d1 Z<|yD Z<|bR<|bS Z<|ah<|ak Z ?_;refine aa (fun o2=>?_) (fun o2=>?_) <;> try simp only[zB] at o2)
    ·(refine yS<|yA Z<|yT<|aA<|aq<|af<|af<|aq<|af<|aB zi ?_;refine And.intro ?_ trivial)
     have o2:(cB (fZ.type f) (fZ.type z) || decide (fZ.type f=fZ.type z))=true:=by simpa [cB] using o2
     rw[o2,if_pos rfl] at cf
     rw[aI hi.2 (by omega) cf (by decide)];rfl
    have o2:(cB (fZ.type f) (fZ.type z) || decide (fZ.type f=fZ.type z))=false:=by simpa [cB] using o2
    rw[o2,if_neg (by decide)] at cf
    (refine ar<|aS<|ah<|aP<|yq Z<|bb zI ?_;refine sI ?_)
    (refine yk<|yP Z<|yT<|au ?_;refine⟨(i+1),_,bg.refl _ _,?_⟩)
    exact⟨⟨by omega,cw hi.2 cf⟩,by omega,⟨Z,Z,Z,Z,Y⟩,⟨Z,Y⟩⟩
   have h0:i=0:=by omega
   rw[eU h0,if_neg (by decide)] at cf
   ((refine aT<|ae<|d0 Z<|d0 Z<|d0 Z<|d0 Z<|d0 Z<|d0 Z<|d0 Z<|d0 Z<|d0 Z<|yD Z<|bR<|bS Z ?_;refine ah<|ak Z<|bz<|ar<|aS<|ah<|aP<|yq Z<|bb zI ?_);refine sI ?_)
   (refine yk<|yP Z<|yT<|au ?_;refine⟨(i+1),_,bg.refl _ _,?_⟩)
   exact⟨⟨by omega,cw hi.2 cf⟩,by omega,⟨Z,Z,Z,Z,Y⟩,⟨Z,Y⟩⟩
 (refine bF<|aQ<|aQ<|bG<|ah<|yS<|yA Z<|yR zi ?_;refine And.intro ?_ trivial)
 have z0:a8 (dX o.types o.feet) 0 o.feet.length=0:=bp fun k _ hk=>hi.2 k (by omega)
 rw[z0];rfl
end M
end Go.Proofs.YtiaifckpmefinaaGreatDoor
