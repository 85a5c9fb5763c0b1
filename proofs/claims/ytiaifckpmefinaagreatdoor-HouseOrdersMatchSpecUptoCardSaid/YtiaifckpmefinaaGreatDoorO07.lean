/- Part 7 of 14 of the proof of HouseOrdersMatchSpec (the names are shortened by a program: the size of a claim is limited). -/
import Derived.Test.YtiaifckpmefinaaGreatDoorO06
import Derived.Test.YtiaifckpmefinaaGreatDoorCards
import Derived.Test.YtiaifckpmefinaaGreatDoorTie
import Derived.WalkKit
import Derived.ProofKit
import Derived.OpenShut
import Derived.Deep.DeepHandedRow
import Derived.Lib.LaidTab
import Derived.LaidMore
import Derived.Lay
import Derived.Stop.Joined
import Derived.Stop.LaidErr
import Derived.MakeChecks
import Derived.Deep.Fields
import Derived.Carry
import Derived.Sort.Walk0
set_option linter.unusedVariables false
set_option linter.unusedSimpArgs false
set_option maxRecDepth 100000
set_option maxHeartbeats 8000000
namespace Go.Proofs.YtiaifckpmefinaaGreatDoor
namespace M
open Go.AM Go.RowKit Go.Lib
open bq (bw cv ff)
def a8 (f:Nat->Int) (i:Nat):Nat->Int
 | 0=>0
 | n+1=>if f i=0 then a8 f (i+1) n else f i
theorem bp {f:Nat->Int}:∀{n i:Nat},(∀k,i<=k->k < i+n->f k=0)->a8 f i n=0
 | 0,_,_=>rfl
 | n+1,i,h=>by
  rw[a8,if_pos (h i (Nat.le_refl _) (by omega))]
  exact bp fun k h1 h2=>h k (by omega) (by omega)
theorem gF {f:Nat->Int} {m:Nat} (hm:f m≠0):∀{n i:Nat},(∀k,i<=k->k < m->f k=0)->i<=m->m < i+n->a8 f i n=f m
 | 0,i,_,h1,h2=>by omega
 | n+1,i,h,h1,h2=>by
  rw[a8]
  by_cases e:i=m
  ·subst e;rw[if_neg hm]
  rw[if_pos (h i (Nat.le_refl _) (by omega))]
  exact gF hm (fun k h3 h4=>h k (by omega) h4) (by omega) (by omega)
def bE (l:List ByteArray) (j:Nat):Bool:=match l[j]?,l[j - 1]? with
 | some a,some b=>decide (0 < j) && (cB a b || decide (a=b))
 | _,_=>false
def seenIn (cs:List Class) (x:ByteArray):Bool:=cs.any fun c=>hasB c.nets x
def cq (cs:List Class) (i:Nat) (l:List ByteArray) (j:Nat):Int:=match l[j]? with
 | some y=>if eT y=true then (if bE l j=true then 8 else if seenIn (cs.take i) y=true then 7 else 0) else 5
 | none=>0
def cy (cs:List Class) (i:Nat):Int:=match cs[i]? with
 | some c=>if cD c.name=true then (if 1000 < c.nets.length then 2 else
   if a8 (cq cs i c.nets) 0 c.nets.length=0 then
    (if (ef c.clearance && ef c.width)=true then (if bE (cs.map Class.name) i=true then 8 else 0) else 1)
   else a8 (cq cs i c.nets) 0 c.nets.length) else 5
 | none=>0
theorem Bb (a b:ByteArray):wU (.string a) (.string b)=decide (a=b):=rfl
theorem Ih {k:ByteArray} {k':Value} (h:wU (.string k) k'=true):k'=.string k:=by
 cases k' <;> simp_all [wU]
theorem nm (v:PV) (k n:ByteArray):∀es:List (Value×PV),gN (iz es (.string k) v) (.string n)=if n=k then some v else gN es (.string n)
 | []=>by
  simp only[iz,gN,Bb]
  by_cases h:n=k <;> simp[h]
 | (k',u)::r=>by
  simp only[iz]
  cases h:wU (.string k) k'
  ·simp only[gN,nm v k n r]
   by_cases e:n=k
   ·subst e;simp[h]
   simp[e]
  have e:=Ih h
  subst e
  simp only[gN,Bb]
  by_cases e:n=k <;> simp[e]
def bO (s:ByteArray):Prop:=s.size < 4294967281
def wk (c:Class):Prop:=bO c.name/\c.nets.length<=1048576/\∀s∈c.nets,bO s
theorem ou (cs:List Class) (hok:∀c∈cs,wk c) (hN:cs.length<=1048576):aw C 128 [.pv (.sl (cs.map kl))] (.p (i64 (if 50 < cs.length then 2 else a8 (cy cs) 0 cs.length))) []:=by
 refine aE hC Tryz.func128 rfl rfl 93 rfl (by decide) (by kernel_rfl) fun _ _ _ _ _=>?_
 have lm:=aJ cs kl
 (refine yS<|yA Z<|yT<|an<|yS<|yP Z<|yP Z<|yP Z<|yT<|ak Z ?_;refine aa (fun h0=>?_) (fun h0=>?_) <;> try simp only[zB] at h0)
 ·(refine yS<|yA Z<|yT<|aA<|af<|aB zi ?_;refine And.intro ?_ trivial)
  rw[if_pos (by omega)];rfl
 rw[if_neg (by omega)]
 (refine ar (ah (yS (yn Z (az zI (aR (aG (dx Z (sG Z Z Z (A3 Z) (aG (yT (an (yS (yP Z ?_)))))))))))));refine yP Z<|yP Z<|yT<|aO ?_)
 refine aC (fun p:Nat×List (Value×PV)=>p.1<=cs.length/\(∀k,k < p.1->cy cs k=0)/\∀n,gN p.2 (.string n)=if seenIn (cs.take p.1) n=true then some (bool true) else none) (fun p=>[(0,.p (.sl (cs.map kl))),(3,.ow 13),(14,.p (.sl (cs.map kl))),(15,.p (i64 (cs.map kl).length)),(16,.p (i64 p.1))]) (fun p=>[(13,.map .str p.2)]) (fun p=>cs.length - p.1) (0,[]) _ (bg.refl _ _) ⟨Nat.zero_le _,fun k h=>by omega,fun n=>rfl⟩ ⟨Z,Z,Z,Z,Z,Y⟩ ⟨Z,Y⟩ fun ⟨i,es⟩ hi t h=>?_
 obtain⟨q1,q2,q3⟩:=hi
 (refine yS<|yP Z<|yT<|an<|ak Z ?_;refine aa (fun h1=>?_) (fun h1=>?_) <;> try simp only[zB] at h1)
 ·obtain⟨c,hc⟩:=aH (l:=cs) (i:=i) (by omega)
  obtain⟨o1,o2,o3⟩:=hok c (List.mem_of_getElem? hc)
  have bad:cy cs i≠0->a8 (cy cs) 0 cs.length=cy cs i:=fun hb=>gF hb (fun k _ hk=>q2 k hk) (Nat.zero_le _) (by omega)
  have cf:cy cs i=(if cD c.name=true then (if 1000 < c.nets.length then 2 else
  if a8 (cq cs i c.nets) 0 c.nets.length=0 then
   (if (ef c.clearance && ef c.width)=true then (if bE (cs.map Class.name) i=true then 8 else 0) else 1)
  else a8 (cq cs i c.nets) 0 c.nets.length) else 5):=by rw[cy,hc]
  have lc:=aJ c.nets fun s=>[str s]
  (refine ar<|ah<|an<|aO<|yS<|yP Z<|yq Z<|aL zI ?_;refine⟨(kl c),(idx rfl hc),?_⟩)
  ((refine yk<|yP Z<|yn Z<|az zI<|aR<|ai<|yA Z<|yq Z<|az zI<|aX<|aM<|aU<|yT<|an ?_;refine yS<|yV Z<|yP Z<|yn Z<|aL zI ?_);refine⟨_,_,(eD c.name (by have:c.name.size < 4294967281:=o1;omega)),?_⟩)
  (refine br Z Z<|ae<|yP Z<|yT<|ak Z ?_;refine aa (fun h2=>?_) (fun h2=>?_) <;> try simp only[zB] at h2)
  ·(refine yS<|yA Z<|yT<|aA<|af<|aq<|af<|af<|aq<|af<|aB zi ?_;refine And.intro ?_ trivial)
   rw[if_neg (by simp[h2])] at cf
   rw[bad (by rw[cf];decide),cf];rfl
  rw[if_pos (by simpa using h2)] at cf
  (refine ar<|ah<|an<|yS<|yV Z<|yP Z<|yP Z<|yP Z<|yT<|ak Z ?_;refine aa (fun h3=>?_) (fun h3=>?_) <;> try simp only[zB] at h3)
  ·(refine yS<|yA Z<|yT<|aA<|af<|aq<|af<|af<|aq<|af<|aB zi ?_;refine And.intro ?_ trivial)
   rw[if_pos (by omega)] at cf
   rw[bad (by rw[cf];decide),cf];rfl
  rw[if_neg (by omega)] at cf
  refine ar<|ah<|an<|yS<|yV Z<|yP Z<|yP Z<|yP Z<|yT<|aO ?_
  refine aC (fun j:Nat=>j<=c.nets.length/\∀k,k < j->cq cs i c.nets k=0) (fun j=>[(0,.p (.sl (cs.map kl))),(3,.ow 13),(14,.p (.sl (cs.map kl))),(15,.p (i64 (cs.map kl).length)),(16,.p (i64 i)),(4,.p (i64 i)),(5,.bx 5 0),(30,.p (strs c.nets)),(31,.p (i64 (c.nets.map fun s=>[str s]).length)),(32,.p (i64 j))]) (fun _=>[(5,.box [.p (str c.name),.p (strs c.nets),.p (i64 c.clearance),.p (i64 c.width)]),(13,.map .str es)]) (fun j=>c.nets.length - j) 0 _ (bg.refl _ _) ⟨Nat.zero_le _,fun k h=>by omega⟩ ⟨Z,Z,Z,Z,Z,Z,Z,Z,Z,Z,Y⟩ ⟨Z,Z,Y⟩ fun j hj t h=>?_
  obtain⟨p1,p2⟩:=hj
  (refine yS<|yP Z<|yT<|an<|ak Z ?_;refine aa (fun h4=>?_) (fun h4=>?_) <;> try simp only[zB] at h4)
  ·obtain⟨y,hy⟩:=aH (l:=c.nets) (i:=j) (by omega)
   have wm:cq cs i c.nets j≠0->a8 (cy cs) 0 cs.length=cq cs i c.nets j:=fun hb=>by
    have e:a8 (cq cs i c.nets) 0 c.nets.length=cq cs i c.nets j:=gF hb (fun k _ hk=>p2 k hk) (Nat.zero_le _) (by omega)
    rw[e,if_neg hb] at cf
    rw[bad (by rw[cf];exact hb),cf]
   have nf:cq cs i c.nets j=(if eT y=true then (if bE c.nets j=true then 8 else if seenIn (cs.take i) y=true then 7 else 0) else 5):=by rw[cq,hy]
   (refine ar<|ah<|an<|aO<|yS<|yP Z<|yq Z<|aL zI ?_;refine⟨[str y],(idx rfl hy),?_⟩)
   (refine yk<|yP Z<|yA Z<|yA Z<|yT<|aO<|yS<|yP Z<|yn Z<|aL zI ?_;refine⟨_,_,(iY y (o3 y (List.mem_of_getElem? hy))),?_⟩)
   (refine br Z Z<|ae<|yP Z<|yA Z<|yT<|ak Z ?_;refine aa (fun h5=>?_) (fun h5=>?_) <;> try simp only[zB] at h5)
   ·((refine yS<|yA Z<|yT<|aA<|aq<|aq<|af<|af<|aq<|af<|aq<|af<|af<|aq ?_;refine af<|aB zi ?_);refine And.intro ?_ trivial)
    rw[if_neg (by simp[h5])] at nf
    rw[wm (by rw[nf];decide),nf];rfl
   rw[if_pos (by simpa using h5)] at nf
   have q:=q3 y
   have next:cq cs i c.nets j=0->∀k,k < j+1->cq cs i c.nets k=0:=fun h0 k hk=>by
    by_cases e:k=j
    ·subst e;exact h0
    exact p2 k (by omega)
   (refine yS<|yP Z<|yP Z<|yP Z<|yg Z ?_;refine aa (fun h6=>?_) (fun h6=>?_) <;> try simp only[zB] at h6)
   ·obtain⟨z,hz⟩:=aH (l:=c.nets) (i:=j - 1) (by omega)
    have bk:bE c.nets j=(cB y z || decide (y=z)):=by
     simp only[bE,hy,hz]
     rw[decide_eq_true (by omega:0 < j)];rfl
    (refine aV<|aN Z Z<|az zI<|yk<|y2 Z<|aN Z Z<|az zI<|aX<|ai<|y1 Z<|y1 Z<|y2 Z<|aN Z Z<|bb zI ?_;refine sI ?_)
    (refine yk<|y2 Z<|aN Z Z<|aL zI ?_;refine⟨[str z],(idx (show (j:Int) - 1=((j - 1:Nat):Int) by omega) hz),?_⟩)
    (refine yk<|y1 Z<|y1 Z<|yP Z<|yA Z<|yT<|ak Z ?_;refine aa (fun h7=>?_) (fun h7=>?_) <;> try simp only[zB] at h7)
    ·((refine yS<|yA Z<|yT<|aA<|aq<|aq<|af<|af<|aq<|af<|aq<|af<|af<|aq ?_;refine af<|aB zi ?_);refine And.intro ?_ trivial)
     have h7:(cB y z || decide (y=z))=true:=by simpa [cB] using h7
     rw[bk,h7,if_pos rfl] at nf
     rw[wm (by rw[nf];decide),nf];rfl
    have h7:(cB y z || decide (y=z))=false:=by simpa [cB] using h7
    rw[bk,h7,if_neg (by decide)] at nf
    cases hS:seenIn (cs.take i) y
    ·rw[hS] at q nf
     (refine yS<|yq Z<|az zI<|aX<|aG<|yP Z<|yq Z<|aL zI ?_;refine⟨none,q,?_⟩)
     (refine yk<|yA Z<|yT<|ak Z<|bz<|ar<|aS<|aS<|ah<|aP<|yq Z<|bb zI ?_;refine sI ?_)
     (refine yk<|yP Z<|yT<|au ?_;refine⟨(j+1),_,bg.refl _ _,?_⟩)
     exact⟨⟨by omega,next (by simpa using nf)⟩,by omega,⟨Z,Z,Z,Z,Z,Z,Z,Z,Z,Z,Y⟩,⟨Z,Z,Y⟩⟩
    rw[hS] at q nf
    rw[if_pos rfl] at nf
    (refine yS<|yq Z<|az zI<|aX<|aG<|yP Z<|yq Z<|aL zI ?_;refine⟨(some (bool true)),q,?_⟩)
    ((refine yk<|yA Z<|yT<|ak Z<|cu<|yS<|yA Z<|yT<|aA<|aq<|aq<|af<|af<|aq ?_;refine af<|aq<|af<|af<|aq<|af<|aB zi ?_);refine And.intro ?_ trivial)
    rw[wm (by rw[nf];decide),nf];rfl
   have h0:j=0:=by omega
   have bk:bE c.nets j=false:=by
    subst h0
    simp only[bE,hy]
    rfl
   rw[bk,if_neg (by decide)] at nf
   cases hS:seenIn (cs.take i) y
   ·rw[hS] at q nf
    ((refine aT<|ae<|y0 Z<|y0 Z<|y0 Z<|y0 Z<|y0 Z<|y0 Z<|y0 Z<|yP Z<|yA Z<|yT<|ak Z<|bz ?_;refine yS<|yq Z<|az zI<|aX<|aG<|yP Z<|yq Z<|aL zI ?_);refine⟨none,q,?_⟩)
    (refine yk<|yA Z<|yT<|ak Z<|bz<|ar<|aS<|aS<|ah<|aP<|yq Z<|bb zI ?_;refine sI ?_)
    (refine yk<|yP Z<|yT<|au ?_;refine⟨(j+1),_,bg.refl _ _,?_⟩)
    exact⟨⟨by omega,next (by simpa using nf)⟩,by omega,⟨Z,Z,Z,Z,Z,Z,Z,Z,Z,Z,Y⟩,⟨Z,Z,Y⟩⟩
   rw[hS] at q nf
   rw[if_pos rfl] at nf
   ((refine aT<|ae<|y0 Z<|y0 Z<|y0 Z<|y0 Z<|y0 Z<|y0 Z<|y0 Z<|yP Z<|yA Z<|yT<|ak Z<|bz ?_;refine yS<|yq Z<|az zI<|aX<|aG<|yP Z<|yq Z<|aL zI ?_);refine⟨(some (bool true)),q,?_⟩)
   ((refine yk<|yA Z<|yT<|ak Z<|cu<|yS<|yA Z<|yT<|aA<|aq<|aq<|af<|af<|aq ?_;refine af<|aq<|af<|af<|aq<|af<|aB zi ?_);refine And.intro ?_ trivial)
   rw[wm (by rw[nf];decide),nf];rfl
  have z0:a8 (cq cs i c.nets) 0 c.nets.length=0:=bp fun k _ hk=>p2 k (by omega)
  rw[if_pos z0] at cf
  refine bF<|aQ<|aQ<|bG<|ah<|an<|yS<|yV Z<|yP Z<|yP Z<|yP Z<|yT<|aO ?_
  refine aC (fun p:Nat×List (Value×PV)=>p.1<=c.nets.length/\∀n,gN p.2 (.string n)=if (seenIn (cs.take i) n || hasB (c.nets.take p.1) n)=true then some (bool true) else none) (fun p=>[(0,.p (.sl (cs.map kl))),(3,.ow 13),(14,.p (.sl (cs.map kl))),(15,.p (i64 (cs.map kl).length)),(16,.p (i64 i)),(4,.p (i64 i)),(5,.bx 5 0),(60,.p (strs c.nets)),(61,.p (i64 (c.nets.map fun s=>[str s]).length)),(62,.p (i64 p.1))]) (fun p=>[(5,.box [.p (str c.name),.p (strs c.nets),.p (i64 c.clearance),.p (i64 c.width)]),(13,.map .str p.2)]) (fun p=>c.nets.length - p.1) (0,es) _ (bg.refl _ _) ⟨Nat.zero_le _,fun n=>by rw[show hasB (c.nets.take 0) n=false from rfl,Bool.or_false];exact q3 n⟩ ⟨Z,Z,Z,Z,Z,Z,Z,Z,Z,Z,Y⟩ ⟨Z,Z,Y⟩ fun ⟨j,dw⟩ hj t h=>?_
  obtain⟨r1,r2⟩:=hj
  (refine yS<|yP Z<|yT<|an<|ak Z ?_;refine aa (fun h9=>?_) (fun h9=>?_) <;> try simp only[zB] at h9)
  ·obtain⟨y,hy⟩:=aH (l:=c.nets) (i:=j) (by omega)
   (refine ar<|ah<|an<|aO<|yS<|yq Z<|aL zI ?_;refine⟨[str y],(idx rfl hy),?_⟩)
   ((refine yk<|yP Z<|yA Z<|yT<|aP<|yq Z<|az zI<|aX<|aG<|yP Z<|yq Z<|az zI<|aX<|aM ?_;refine aU<|dB<|aS<|ah<|aP<|yq Z<|bb zI ?_);refine sI ?_)
   (refine yk<|yP Z<|yT<|au ?_;refine⟨(j+1,iz dw (.string y) (bool true)),_,bg.refl _ _,?_⟩)
   refine⟨⟨by omega,fun n=>?_⟩,by omega,⟨Z,Z,Z,Z,Z,Z,Z,Z,Z,Z,Y⟩,⟨Z,Z,Y⟩⟩
   simp only
   rw[nm,bB hy]
   by_cases e:n=y
   ·subst e
    rw[if_pos rfl,if_pos]
    simp[hasB]
   rw[if_neg e,r2 n]
   have:hasB (c.nets.take j++[y]) n=hasB (c.nets.take j) n:=by
    unfold hasB
    rw[List.any_append]
    rw[show ([y].any fun z=>decide (z=n))=(decide (y=n) || false) from rfl,decide_eq_false (fun h:y=n=>e h.symm)]
    simp
   rw[this]
  have e9:j=c.nets.length:=by simp only at r1;omega
  have s1:∀n,gN dw (.string n)=if seenIn (cs.take (i+1)) n=true then some (bool true) else none:=fun n=>by
   rw[r2 n,e9,List.take_length,bB hc]
   have:seenIn (cs.take i++[c]) n=(seenIn (cs.take i) n || hasB c.nets n):=by
    unfold seenIn
    rw[List.any_append]
    simp
   rw[this]
  have bn:∀d,cs[i - 1]?=some d->0 < i->bE (cs.map Class.name) i=(cB c.name d.name || decide (c.name=d.name)):=fun d hd h0=>by
   simp only[bE,List.getElem?_map,hc,hd,Option.map_some]
   rw[decide_eq_true h0];rfl
  have GV:cy cs i=0->∀k,k < i+1->cy cs k=0:=fun h0 k hk=>by
   by_cases e:k=i
   ·subst e;exact h0
   exact q2 k (by simp only;omega)
  (refine bF<|aQ<|aQ<|bG<|ah<|an<|yS<|yV Z<|yP Z<|yn Z<|aL zI ?_;refine⟨_,_,(iX c.clearance),?_⟩)
  (refine br Z Z<|ae<|yP Z<|yP Z<|yg Z ?_;refine aa (fun g1=>?_) (fun g1=>?_) <;> try simp only[zB] at g1)
  ·((refine aT<|ae<|y0 Z<|y0 Z<|y0 Z<|yP Z<|yT<|ak Z<|cu<|yS<|yA Z<|yT<|aA<|af ?_;refine aq<|af<|af<|aq<|af<|aB zi ?_);refine And.intro ?_ trivial)
   rw[if_neg (by simp[g1])] at cf
   rw[bad (by rw[cf];decide),cf];rfl
  (refine aV<|aN Z Z<|az zI<|aX<|ai<|y1 Z<|y2 Z<|cx Z Z Z<|aL zI ?_;refine⟨_,_,(iX c.width),?_⟩)
  (refine br Z Z<|ae<|y1 Z<|yP Z<|yT<|ak Z ?_;refine aa (fun g2=>?_) (fun g2=>?_) <;> try simp only[zB] at g2)
  ·(refine yS<|yA Z<|yT<|aA<|af<|aq<|af<|af<|aq<|af<|aB zi ?_;refine And.intro ?_ trivial)
   rw[if_neg (by simp[g2])] at cf
   rw[bad (by rw[cf];decide),cf];rfl
  rw[if_pos (by simp[g1,g2])] at cf
  (refine ar<|ah<|an<|cF [] false Ce rfl (by kernel_rfl)<|cE Z<|yD Z<|yD Z<|yD Z<|dg Z ?_;refine aa (fun g3=>?_) (fun g3=>?_) <;> try simp only[zB] at g3)
  ·obtain⟨d,hd⟩:=aH (l:=cs) (i:=i - 1) (by omega)
   (refine aV<|bA Z<|az zI<|bM<|ai<|d1 Z<|d1 Z<|d1 Z<|d2 Z<|bA Z<|bb zI ?_;refine sI ?_)
   (refine bM<|ae<|d2 Z<|bA Z<|aL zI ?_;refine⟨(kl d),(idx (show (i:Int) - 1=((i - 1:Nat):Int) by omega) hd),?_⟩)
   rw[bn d hd (by omega)] at cf
   (refine bM<|ae<|d1 Z<|d1 Z<|d1 Z<|yD Z<|bR<|bS Z<|ah<|ak Z ?_;refine aa (fun g4=>?_) (fun g4=>?_) <;> try simp only[zB] at g4)
   ·(refine yS<|yA Z<|yT<|aA<|aq<|af<|af<|aq<|af<|aB zi ?_;refine And.intro ?_ trivial)
    have g4:(cB c.name d.name || decide (c.name=d.name))=true:=by simpa [cB] using g4
    rw[g4,if_pos rfl] at cf
    rw[bad (by rw[cf];decide),cf];rfl
   have g4:(cB c.name d.name || decide (c.name=d.name))=false:=by simpa [cB] using g4
   rw[g4,if_neg (by decide)] at cf
   (refine ar<|aS<|ah<|aP<|yq Z<|bb zI ?_;refine sI ?_)
   (refine yk<|yP Z<|yT<|au ?_;refine⟨(i+1,dw),_,bg.refl _ _,?_⟩)
   exact⟨⟨by omega,GV cf,s1⟩,by omega,⟨Z,Z,Z,Z,Z,Y⟩,⟨Z,Y⟩⟩
  have h0:i=0:=by omega
  have bk:bE (cs.map Class.name) i=false:=by
   subst h0
   simp only[bE,List.getElem?_map,hc]
   rfl
  rw[bk,if_neg (by decide)] at cf
  ((refine aT<|ae<|d0 Z<|d0 Z<|d0 Z<|d0 Z<|d0 Z<|d0 Z<|d0 Z<|d0 Z<|yD Z<|bR<|bS Z<|ah ?_;refine ak Z<|bz<|ar<|aS<|ah<|aP<|yq Z<|bb zI ?_);refine sI ?_)
  (refine yk<|yP Z<|yT<|au ?_;refine⟨(i+1,dw),_,bg.refl _ _,?_⟩)
  exact⟨⟨by omega,GV cf,s1⟩,by omega,⟨Z,Z,Z,Z,Z,Y⟩,⟨Z,Y⟩⟩
 have e1:i=cs.length:=by simp only at q1;omega
 (refine bF<|aQ<|aQ<|bG<|ah<|yS<|yA Z<|yR zi ?_;refine And.intro ?_ trivial)
 rw[bp fun k _ hk=>q2 k (by simp only;omega)]
 rfl
def dr (al:List z6) (i:Nat):Int:=match al[i]? with
 | some a=>if (decide (-1<=a.layer) && decide (a.layer<=15))=true then (if bq.bZ a.region=0 then (if ef a.clearance=true then 0 else 1) else bq.bZ a.region) else 1
 | none=>0
def dW:List z6->Nat
 | []=>0
 | a::r=>a.region.length+dW r
theorem qL (a b:List z6):dW (a++b)=dW a+dW b:=by
 induction a with
 | nil=>simp[dW]
 | cons x r ih=>simp[dW,ih];omega
def lr (r:lP):Bool:=ef r.clearance && ef r.width && ef r.ring && ef r.edge && ef r.holeGap
def dF (cs:List Class):Int:=if 50 < cs.length then 2 else a8 (cy cs) 0 cs.length
def jB (al:List z6):Int:=if 50 < al.length then 2 else if a8 (dr al) 0 al.length=0 then (if 2000 < dW al then 2 else 0) else a8 (dr al) 0 al.length
def cM (r:lP):Int:=if lr r=true then (if dF r.classes=0 then jB r.areas else dF r.classes) else 1
theorem sU {l:List bw} (h:bq.bZ l=0):l.length<=1000000:=by
 unfold bq.bZ at h
 by_cases h0:bq.cX l=0
 ·have:=(bq.oq h0).1
  omega
 rw[if_neg h0] at h;exact absurd h h0
def nn (r:lP):Prop:=(∀c∈r.classes,wk c)/\r.classes.length<=1048576/\r.areas.length<=1048576
def KH (r:lP):List AV:=[.p (i64 r.clearance),.p (i64 r.width),.p (i64 r.ring),.p (i64 r.edge),.p (i64 r.holeGap),.p (.sl (r.classes.map kl)),.p (.sl (r.areas.map arr))]
theorem p8 (r:lP) (ho:nn r):aw C 49 [.pv (.ag (rl r))] (.p (i64 (cM r))) []:=by
 refine aE hC Tryz.func49 rfl rfl 59 rfl (by decide) (by kernel_rfl) fun _ _ _ _ _=>?_
 obtain⟨o1,o2,o3⟩:=ho
 ((refine yS<|yn Z<|az zI<|aR<|ai<|yA Z<|yT<|an<|yS<|yV Z<|yP Z<|yV Z<|yP Z<|yV Z ?_;refine yP Z<|yV Z<|yP Z<|yV Z<|yP Z<|yn Z<|az zI<|aR<|aG<|yn Z<|aL zI ?_);refine⟨_,_,(v7 [r.clearance,r.width,r.ring,r.edge,r.holeGap] (by simp)),?_⟩)
 have nb:([r.clearance,r.width,r.ring,r.edge,r.holeGap].any fun n=>!ef n)=!lr r:=by
  simp[lr,Bool.not_and,Bool.or_assoc]
 rw[nb]
 (refine br Z Z<|ae<|yT<|ak Z ?_;refine aa (fun h0=>?_) (fun h0=>?_) <;> try simp only[zB] at h0)
 ·(refine yS<|yA Z<|yT<|aA<|af<|aB zi ?_;refine And.intro ?_ trivial)
  rw[cM,if_neg (by simp[h0])];rfl
 rw[cM,if_pos (by simpa using h0)]
 (refine ar<|ah<|an<|yS<|yV Z<|yP Z<|yn Z<|aL zI ?_;refine⟨_,_,(ou r.classes o1 o2),?_⟩)
 (refine br Z Z<|ae<|yA Z<|yU<|yP Z<|yP Z<|yT<|ak Z ?_;refine aa (fun h1=>?_) (fun h1=>?_) <;> try simp only[zB] at h1)
 ·(refine yS<|yP Z<|yA Z<|yT<|aA<|af<|aB zi ?_;refine And.intro ?_ trivial)
  rw[if_neg (show ¬dF r.classes=0 from by simpa [dF] using h1)];rfl
 rw[if_pos (show dF r.classes=0 from by simpa [dF] using h1)]
 have lm:=aJ r.areas arr
 (refine ar<|ah<|an<|yS<|yV Z<|yP Z<|yP Z<|yP Z<|yT<|ak Z ?_;refine aa (fun h2=>?_) (fun h2=>?_) <;> try simp only[zB] at h2)
 ·(refine yS<|yA Z<|yT<|aA<|af<|aB zi ?_;refine And.intro ?_ trivial)
  rw[jB,if_pos (by omega)];rfl
 rw[jB,if_neg (by omega)]
 refine ar<|ah<|yS<|yA Z<|yT<|an<|yS<|yV Z<|yP Z<|yP Z<|yP Z<|yT<|aO ?_
 refine aC (fun i:Nat=>i<=r.areas.length/\(∀k,k < i->dr r.areas k=0)/\dW (r.areas.take i)<=i*1000000) (fun i=>[(4,.p (i64 (dW (r.areas.take i)))),(31,.p (.sl (r.areas.map arr))),(32,.p (i64 (r.areas.map arr).length)),(33,.p (i64 i))]) (fun _=>[]) (fun i=>r.areas.length - i) 0 _ (bg.refl _ _) ⟨Nat.zero_le _,fun k h=>by omega,by simp[dW]⟩ ⟨Z,Z,Z,Z,Y⟩ trivial fun i hi t h=>?_
 obtain⟨q1,q2,q3⟩:=hi
 (refine yS<|yP Z<|yT<|an<|ak Z ?_;refine aa (fun h3=>?_) (fun h3=>?_) <;> try simp only[zB] at h3)
 ·obtain⟨a,ha⟩:=aH (l:=r.areas) (i:=i) (by omega)
  have bad:dr r.areas i≠0->a8 (dr r.areas) 0 r.areas.length=dr r.areas i:=fun hb=>gF hb (fun k _ hk=>q2 k hk) (Nat.zero_le _) (by omega)
  have cf:dr r.areas i=(if (decide (-1<=a.layer) && decide (a.layer<=15))=true then (if bq.bZ a.region=0 then (if ef a.clearance=true then 0 else 1) else bq.bZ a.region) else 1):=by rw[dr,ha]
  have la:=aJ a.region rc
  (refine ar<|ah<|an<|aO<|yS<|yq Z<|aL zI ?_;refine⟨(arr a),(idx rfl ha),?_⟩)
  ((refine yk<|yP Z<|yn Z<|az zI<|aR<|ai<|yq Z<|az zI<|aX<|aM<|aU<|yT<|an<|yS ?_;refine yV Z<|yP Z<|yn Z<|aL zI ?_);refine⟨_,_,(o_ a.layer (-1) 15),?_⟩)
  (refine br Z Z<|ae<|yP Z<|yT<|ak Z ?_;refine aa (fun h4=>?_) (fun h4=>?_) <;> try simp only[zB] at h4)
  ·(refine yS<|yA Z<|yT<|aA<|af<|aq<|af<|af<|aq<|af<|aB zi ?_;refine And.intro ?_ trivial)
   rw[if_neg (by simpa using h4)] at cf
   rw[bad (by rw[cf];decide),cf];rfl
  rw[if_pos (by simpa using h4)] at cf
  (refine ar<|ah<|an<|yS<|yV Z<|yP Z<|yn Z<|aL zI ?_;refine⟨_,_,(pe a.region),?_⟩)
  (refine br Z Z<|ae<|yA Z<|yU<|yP Z<|yP Z<|yT<|ak Z ?_;refine aa (fun h5=>?_) (fun h5=>?_) <;> try simp only[zB] at h5)
  ·(refine yS<|yP Z<|yA Z<|yT<|aA<|af<|aq<|af<|af<|aq<|af<|aB zi ?_;refine And.intro ?_ trivial)
   have h5:¬bq.bZ a.region=0:=by simpa using h5
   rw[if_neg h5] at cf
   rw[bad (by rw[cf];exact h5),cf,if_neg h5]
  have h5:bq.bZ a.region=0:=by simpa using h5
  rw[if_pos h5] at cf
  have hl:=sU h5
  (refine ar<|ah<|an<|yS<|yV Z<|yP Z<|yn Z<|aL zI ?_;refine⟨_,_,(iX a.clearance),?_⟩)
  (refine br Z Z<|ae<|yP Z<|yT<|ak Z ?_;refine aa (fun h6=>?_) (fun h6=>?_) <;> try simp only[zB] at h6)
  ·(refine yS<|yA Z<|yT<|aA<|af<|aq<|af<|af<|aq<|af<|aB zi ?_;refine And.intro ?_ trivial)
   rw[if_neg (by simp[h6])] at cf
   rw[bad (by rw[cf];decide),cf];rfl
  rw[if_pos (by simpa using h6)] at cf
  have s1:dW (r.areas.take (i+1))=dW (r.areas.take i)+a.region.length:=by
   rw[bB ha,qL];simp[dW]
  (refine ar<|ah<|aP<|yP Z<|yV Z<|yP Z<|yP Z<|yq Z<|bb zI ?_;refine sI ?_)
  (refine yk<|yA Z<|dB<|aS<|ah<|aP<|yq Z<|bb zI ?_;refine sI ?_)
  (refine yk<|yP Z<|yT<|au ?_;refine⟨(i+1),_,bg.refl _ _,?_⟩)
  refine⟨⟨by omega,fun k hk=>?_,by omega⟩,by omega,⟨cb (by omega),Z,Z,Z,Y⟩,trivial⟩
  by_cases e:k=i
  ·subst e;exact cf
  exact q2 k (by omega)
 have e:i=r.areas.length:=by omega
 subst e
 have z0:a8 (dr r.areas) 0 r.areas.length=0:=bp fun k _ hk=>q2 k (by omega)
 rw[if_pos z0]
 have tl:r.areas.take r.areas.length=r.areas:=List.take_length
 (refine bF<|aQ<|aQ<|bG<|ah<|an<|yS<|yP Z<|yP Z<|yT<|ak Z ?_;refine aa (fun h7=>?_) (fun h7=>?_) <;> try simp only[zB] at h7)
 ·(refine yS<|yA Z<|yT<|aA<|af<|aB zi ?_;refine And.intro ?_ trivial)
  rw[tl] at h7
  rw[if_pos (by omega)];rfl
 (refine ar<|ah<|yS<|yA Z<|yR zi ?_;refine And.intro ?_ trivial)
 rw[tl] at h7
 rw[if_neg (by omega)];rfl
end M
end Go.Proofs.YtiaifckpmefinaaGreatDoor
namespace Go.Proofs.YtiaifckpmefinaaGreatDoor
open Go.ChangeShapes Go.WideShapes Go.ChangeAt Go.RowKit
section
variable {H:Type} {enc:TypeId×Value->H} {P:Program}
theorem uf {f:Func} {s:ChangeSpec} {apart fresh handsOn again:Bool} {W W':World} {args:Array Value} {v:Value} {ds gs:List (DataW H)} {before pa pv:List MemPlace}
  (hW:DataW.Whole enc P f.params.toList s.vars apart W args.toList ds gs before)
  (hres:∀(b:Nat) (sp:Nat->Bool) (hd:Bool),DataW.TrodAll enc P W' b sp hd f.resultTypes.toList (v.resultList f.resultTypes.size) (s.fn H (ds++gs)).results [])
  (hargs:∀sp:Nat->Bool,(∀p∈before,sp p.block=true)->DataW.TrodAll enc P W' 0 sp true f.params.toList args.toList (s.fn H (ds++gs)).args pa)
  (hvars:∀sp:Nat->Bool,(∀p∈before,sp p.block=true)->DataW.TrodVars enc P W' sp s.vars (s.fn H (ds++gs)).vars pv)
  (hps:before=pa++pv) (hb:Below W.heap.size W W')
  (hok:∀(j:Nat) (t:TypeId) (r:Value),f.resultTypes[j]?=some t->(v.resultList f.resultTypes.size)[j]?=some r->Value.okWide P W' .any 0 t r):
  s.post enc P f apart fresh handsOn again W args v W':=by
 have fC:∀p∈before,p.block < W.heap.size:=fun p hp=>hW.lt p hp
 have hold:∀p∈before,(fun b=>decide (b < W.heap.size)) p.block=true:=fun p hp=>by simpa using fC p hp
 refine⟨ds,gs,before,[],pa,pv,hW,hres _ _ _,hargs _ hold,hvars _ hold,World.keptBut_mono (fun p hp=>⟨hp,?_⟩) (hb.frame (·∈before)),fun _=>?_⟩
 ·rw[hps,List.mem_append] at hp
  exact Or.inr hp
 obtain⟨_,_,_,_,_,hz,hn⟩:=hW
 refine⟨hok,_,_,([]++pa)++pv,⟨[]++pa,pv,trodAll_append (hargs _ (fun _ _=>rfl)) (hres _ _ _),hvars _ (fun _ _=>rfl),rfl,?_,?_⟩,?_⟩
 ·intro b off hp
  have n_:MemPlace.cell b off∈before:=by rw[hps];simpa using hp
  rw[hb.frozen (fC _ n_)]
  exact hz b off n_
 ·intro ha
  have:=hn ha
  rw[hps] at this
  simpa using this
 intro p hp _
 rw[hps]
 simpa using hp
theorem rb {C:Checked} {os:Os} {f:FuncId} {fn:Func} {s:OpenSpec} {conds:List PathCond} {apart:Bool} {laid:List (String×DataW Unit)} (w0:World) (args:Array Value) (OU:w0.os=os)
  (hsh:(w0.forCall (fun _ _=>0) ⟨#[],args,[]⟩).Shaped C.prog)
  (hok:Input.okWideB C.prog (w0.forCall (fun _ _=>0) ⟨#[],args,[]⟩) f ⟨#[],args,[]⟩=true)
  (a7:s.preRow enc C.prog fn conds apart laid (w0.forCall (fun _ _=>0) ⟨#[],args,[]⟩).memory args):
  ∃(w:World) (tape:Tape) (i:Input),w.os=os/\(w.forCall tape i).Shaped C.prog/\i.vars=[]/\Input.okWide C.prog (w.forCall tape i) .any w.heap.size f i /\
   s.preRow enc C.prog fn conds apart laid (w.forCall tape i).memory i.args/\({}:Assume).holds C.prog (lone (Frame.enter C.prog f i.args .normal) [] (w.forCall tape i)):=
 ⟨w0,fun _ _=>0,⟨#[],args,[]⟩,OU,hsh,(Input.okWide_of_okWideB (base:=0) hok).1,(Input.okWide_of_okWideB hok).2,a7,by
  simp only[Assume.holds]
  exact⟨by simp,by simp,fun _=>Modest.zero,by simp,by simp⟩⟩
end
theorem own:ownKnob Tryz.prog.godebug=none:=by kernel_rfl
theorem Ef {H:Type} (d:DataW H):1<=Rows.uptoBulk d:=by
 cases d with
 | lit l=>cases l <;> simp[Rows.uptoBulk]
 | nil=>simp[Rows.uptoBulk]
 | ptr d=>simp[Rows.uptoBulk]
 | slice elems spare=>simp[Rows.uptoBulk]
 | agg parts=>simp[Rows.uptoBulk]
 | iface t d=>simp[Rows.uptoBulk]
 | map entries=>simp[Rows.uptoBulk]
 | held h=>simp[Rows.uptoBulk]
theorem u3 {H:Type} {d:DataW H} {l:List (DataW H)} (h:d∈l):Rows.uptoBulk d<=Rows.uptoBulkAll l:=by
 induction l with
 | nil=>cases h
 | cons x r ih=>
  simp only[Rows.uptoBulkAll]
  cases List.mem_cons.1 h with
  | inl e=>subst e;omega
  | inr e=>have:=ih e;omega
theorem xU {H:Type} (bytes:List UInt8):Rows.uptoBulk (DataW.lit (H:=H) (.string bytes))=bytes.length+1:=by
 simp[Rows.uptoBulk]
theorem z7 {H:Type} {l:List (DataW H)} (hk:Rows.uptoSmall H l=true):Rows.uptoBulkAll l<=1048576:=of_decide_eq_true hk
end Go.Proofs.YtiaifckpmefinaaGreatDoor
namespace Go.Proofs.YtiaifckpmefinaaGreatDoor
namespace M
open Go.AM Go.RowKit Go.Lib
open bq (bw cv ff)
variable {H:Type} {enc:TypeId×Value->H} {w:World} {S:Nat->Prop}
theorem xV:A7 enc Tryz.prog w S 3 1 fun xs d=>∃n:Int,xs=[i64 n]/\d=.lit (.int .i64 n):=FQ Tryz.underlying3
theorem KI:A7 enc Tryz.prog w S 9 1 fun xs d=>∃s:ByteArray,xs=[str s]/\d=.lit (.string s.data.toList):=FR Tryz.underlying9
theorem Eg:A7 enc Tryz.prog w S 221 4 fun xs _=>∃r:bw,xs=rc r:=fun n cs x h=>by
 obtain⟨xs,l1,l2,l3,ds,e,ld,q⟩:=jA (S:=S) (Qs:=fun _ xs d=>∃n:Int,xs=[i64 n]/\d=.lit (.int .i64 n)) Tryz.underlying221 (Go.Deep.hone_of (by kernel_rfl)) (by kernel_rfl) (fun i f hf=>by
  match i,hf with
  | 0,hf=>cases hf;exact xV
  | 1,hf=>cases hf;exact xV
  | 2,hf=>cases hf;exact xV
  | 3,hf=>cases hf;exact xV
  | n+4,hf=>cases hf) _ _ _ h
 have l1:xs.length=4:=l1
 have ld:ds.length=4:=ld
 obtain⟨a,b,c,d,rfl⟩:∃a b c d,xs=[a,b,c,d]:=by
  match xs,l1 with
  | [a,b,c,d],_=>exact⟨a,b,c,d,rfl⟩
 obtain⟨a',b',c',d',rfl⟩:∃a b c d,ds=[a,b,c,d]:=by
  match ds,ld with
  | [a,b,c,d],_=>exact⟨a,b,c,d,rfl⟩
 obtain⟨n0,e0,_⟩:=q 0 _ _ rfl rfl
 obtain⟨n1,e1,_⟩:=q 1 _ _ rfl rfl
 obtain⟨n2,e2,_⟩:=q 2 _ _ rfl rfl
 obtain⟨n3,e3,_⟩:=q 3 _ _ rfl rfl
 cases e0;cases e1;cases e2;cases e3
 exact⟨_,rfl,l2,l3,⟨n0,n1,n2,n3⟩,rfl⟩
abbrev Sp (enc:TypeId×Value->H) (w:World) (S:Nat->Prop) (t:TypeId) (k:Nat) {γ:Type} (f:γ->List PV) (B:γ->Nat->Prop):Prop:=A7 enc Tryz.prog w S t k fun xs d=>∃r,xs=f r/\B r (Rows.uptoBulk d)
theorem re:Sp enc w S 3 1 (fun n=>[i64 n]) fun _ _=>True:=fun n cs x h=>by
 obtain⟨xs,l1,l2,l3,z,e,_⟩:=xV (S:=S) n cs x h
 exact⟨xs,l1,l2,l3,z,e,trivial⟩
theorem Ii:Sp enc w S 9 1 (fun s=>[str s]) fun s n=>s.size<=n:=fun n cs x h=>by
 obtain⟨xs,l1,l2,l3,z,e,d⟩:=KI (S:=S) n cs x h
 refine⟨xs,l1,l2,l3,z,e,?_⟩
 rw[d,xU]
 have:z.data.toList.length=z.size:=by simp
 omega
theorem wo {α γ:Type} {f:γ->α} {B:γ->Nat->Prop} (hm:∀r m n,m<=n->B r m->B r n):∀{es:List α} {ds:List (DataW H)},es.length=ds.length->(∀(i:Nat) x y,es[i]?=some x->ds[i]?=some y->∃r,x=f r/\B r (Rows.uptoBulk y))->∃l:List γ,es=l.map f/\l.length<=Rows.uptoBulkAll ds/\∀r∈l,B r (Rows.uptoBulkAll ds)
 | [],_,_,_=>⟨[],rfl,Nat.zero_le _,fun r h=>by cases h⟩
 | x::es,[],hl,_=>by cases hl
 | x::es,y::ds,hl,h=>by
  obtain⟨r,rfl,hr⟩:=h 0 x y rfl rfl
  obtain⟨l,rfl,h1,h2⟩:=wo hm (es:=es) (ds:=ds) (by simpa using hl) (fun i a b h1 h2=>h (i+1) a b (by simpa using h1) (by simpa using h2))
  have e:Rows.uptoBulkAll (y::ds)=Rows.uptoBulk y+Rows.uptoBulkAll ds:=by simp only[Rows.uptoBulkAll]
  have b1:=Ef y
  refine⟨r::l,rfl,by rw[List.length_cons];omega,fun q hq=>?_⟩
  rcases List.mem_cons.1 hq with h | h
  ·subst h;exact hm _ _ _ (by omega) hr
  exact hm _ _ _ (by omega) (h2 q h)
theorem mA {t e:TypeId} {k:Nat} {γ:Type} {f:γ->List PV} {B:γ->Nat->Prop} (ht:Tryz.prog.underlying t=some (.slice e)) (hc:Tryz.prog.cellsOf e=k) (hk:0 < k) (hS:∀b,b < w.heap.size->S b) (hm:∀r m n,m<=n->B r m->B r n) (he:Sp enc w S e k f B):
  Sp enc w S t 1 (fun l:List γ=>[.sl (l.map f)]) fun l n=>l.length<=n/\∀r∈l,B r n:=fun n cs x h=>by
 obtain⟨xs,l1,l2,l3,es,ds,sp,rfl,hl,hd,q⟩:=Cl ht hc hk hS he _ _ _ h
 obtain⟨l,rfl,b1,b2⟩:=wo hm hl q
 have hb:Rows.uptoBulkAll ds<=Rows.uptoBulk x.1:=by
  rcases hd with⟨h1,h2⟩ | h1
  ·rw[h2];exact Nat.zero_le _
  rw[h1];simp only[Rows.uptoBulk];omega
 exact⟨_,l1,l2,l3,l,rfl,by omega,fun r hr=>hm _ _ _ hb (b2 r hr)⟩
theorem bJ {ds:List (DataW H)} {i:Nat} {y:DataW H} (h:ds[i]?=some y):Rows.uptoBulk y<=Rows.uptoBulk (.agg ds):=by
 have:=u3 (List.mem_of_getElem? h)
 simp only[Rows.uptoBulk]
 omega
theorem Bc:Sp enc w S 221 4 rc fun _ _=>True:=fun n cs x h=>by
 obtain⟨xs,l1,l2,l3,r,e⟩:=Eg (S:=S) n cs x h
 exact⟨xs,l1,l2,l3,r,e,trivial⟩
theorem Eh (hS:∀b,b < w.heap.size->S b):Sp enc w S 123 1 (fun l=>[cd l]) fun l n=>l.length<=n/\∀r∈l,True:=mA (k:=4) Tryz.underlying123 (by kernel_rfl) (by decide) hS (fun _ _ _ _ h=>h) Bc
theorem FZ (hS:∀b,b < w.heap.size->S b):Sp enc w S 192 1 (fun l=>[strs l]) fun l n=>l.length<=n/\∀s∈l,s.size<=n:=mA (k:=1) Tryz.underlying192 (by kernel_rfl) (by decide) hS (fun _ _ _ h1 h2=>Nat.le_trans h2 h1) Ii
theorem F0 (hS:∀b,b < w.heap.size->S b):Sp enc w S 147 3 arr fun _ _=>True:=fun n cs x h=>by
 obtain⟨xs,l1,l2,l3,ds,e,ld,q⟩:=jA (S:=S) (Qs:=fun i xs d=>match i with
   | 1=>∃r,xs=[cd r]/\(r.length<=Rows.uptoBulk d/\∀z∈r,True)
   | _=>∃r,xs=[i64 r]/\True) Tryz.underlying147 (Go.Deep.hone_of (by kernel_rfl)) (by kernel_rfl) (fun i f hf=>by
  match i,hf with
  | 0,hf=>cases hf;exact re
  | 1,hf=>cases hf;exact Eh hS
  | 2,hf=>cases hf;exact re
  | n+3,hf=>cases hf) _ _ _ h
 have l1:xs.length=3:=l1
 have ld:ds.length=3:=ld
 obtain⟨a,b,c,rfl⟩:∃a b c,xs=[a,b,c]:=by
  match xs,l1 with
  | [a,b,c],_=>exact⟨a,b,c,rfl⟩
 obtain⟨a',b',c',rfl⟩:∃a b c,ds=[a,b,c]:=by
  match ds,ld with
  | [a,b,c],_=>exact⟨a,b,c,rfl⟩
 obtain⟨n0,e0,_⟩:=q 0 _ _ rfl rfl
 obtain⟨n1,e1,_⟩:=q 1 _ _ rfl rfl
 obtain⟨n2,e2,_⟩:=q 2 _ _ rfl rfl
 cases e0;cases e1;cases e2
 exact⟨_,rfl,l2,l3,⟨n0,n1,n2⟩,Z,Y⟩
def pf (c:Class) (n:Nat):Prop:=c.name.size<=n/\c.nets.length<=n/\∀s∈c.nets,s.size<=n
theorem lu (c:Class) (m n:Nat) (h:m<=n):pf c m->pf c n:=fun ⟨h1,h2,h3⟩=>⟨by omega,by omega,fun s hs=>Nat.le_trans (h3 s hs) h⟩
theorem Ei (hS:∀b,b < w.heap.size->S b):Sp enc w S 231 4 kl pf:=fun n cs x h=>by
 obtain⟨xs,l1,l2,l3,ds,e,ld,q⟩:=jA (S:=S) (Qs:=fun i xs d=>match i with
   | 0=>∃r,xs=[str r]/\r.size<=Rows.uptoBulk d
   | 1=>∃r,xs=[strs r]/\(r.length<=Rows.uptoBulk d/\∀s∈r,s.size<=Rows.uptoBulk d)
   | _=>∃r,xs=[i64 r]/\True) Tryz.underlying231 (Go.Deep.hone_of (by kernel_rfl)) (by kernel_rfl) (fun i f hf=>by
  match i,hf with
  | 0,hf=>cases hf;exact Ii
  | 1,hf=>cases hf;exact FZ hS
  | 2,hf=>cases hf;exact re
  | 3,hf=>cases hf;exact re
  | n+4,hf=>cases hf) _ _ _ h
 have l1:xs.length=4:=l1
 have ld:ds.length=4:=ld
 obtain⟨a,b,c,d,rfl⟩:∃a b c d,xs=[a,b,c,d]:=by
  match xs,l1 with
  | [a,b,c,d],_=>exact⟨a,b,c,d,rfl⟩
 obtain⟨a',b',c',d',rfl⟩:∃a b c d,ds=[a,b,c,d]:=by
  match ds,ld with
  | [a,b,c,d],_=>exact⟨a,b,c,d,rfl⟩
 obtain⟨n0,e0,p0⟩:=q 0 _ _ rfl rfl
 obtain⟨n1,e1,p1,p2⟩:=q 1 _ _ rfl rfl
 obtain⟨n2,e2,_⟩:=q 2 _ _ rfl rfl
 obtain⟨n3,e3,_⟩:=q 3 _ _ rfl rfl
 cases e0;cases e1;cases e2;cases e3
 have i0:=bJ (ds:=[a',b',c',d']) (i:=0) rfl
 have i1:=bJ (ds:=[a',b',c',d']) (i:=1) rfl
 rw[<-e] at i0 i1
 exact⟨_,rfl,l2,l3,⟨n0,n1,n2,n3⟩,rfl,by exact Nat.le_trans p0 i0,by exact Nat.le_trans p1 i1,fun s hs=>Nat.le_trans (p2 s hs) i1⟩
def rH (r:lP) (n:Nat):Prop:=r.classes.length<=n/\r.areas.length<=n/\∀c∈r.classes,pf c n
theorem Ej (hS:∀b,b < w.heap.size->S b):Sp enc w S 41 7 rl rH:=fun n cs x h=>by
 obtain⟨xs,l1,l2,l3,ds,e,ld,q⟩:=jA (S:=S) (Qs:=fun i xs d=>match i with
   | 5=>∃r:List Class,xs=[.sl (r.map kl)]/\(r.length<=Rows.uptoBulk d/\∀c∈r,pf c (Rows.uptoBulk d))
   | 6=>∃r:List z6,xs=[.sl (r.map arr)]/\(r.length<=Rows.uptoBulk d/\∀c∈r,True)
   | _=>∃r,xs=[i64 r]/\True) Tryz.underlying41 (Go.Deep.hone_of (by kernel_rfl)) (by kernel_rfl) (fun i f hf=>by
  match i,hf with
  | 0,hf=>cases hf;exact re
  | 1,hf=>cases hf;exact re
  | 2,hf=>cases hf;exact re
  | 3,hf=>cases hf;exact re
  | 4,hf=>cases hf;exact re
  | 5,hf=>cases hf;exact mA (k:=4) Tryz.underlying38 (by kernel_rfl) (by decide) hS lu (Ei hS)
  | 6,hf=>cases hf;exact mA (k:=3) Tryz.underlying39 (by kernel_rfl) (by decide) hS (fun _ _ _ _ h=>h) (F0 hS)
  | n+7,hf=>cases hf) _ _ _ h
 have l1:xs.length=7:=l1
 have ld:ds.length=7:=ld
 obtain⟨x0,x1,x2,x3,x4,x5,x6,rfl⟩:∃a b c d e f g,xs=[a,b,c,d,e,f,g]:=by
  match xs,l1 with
  | [a,b,c,d,e,f,g],_=>exact⟨a,b,c,d,e,f,g,rfl⟩
 obtain⟨y0,y1,y2,y3,y4,y5,y6,rfl⟩:∃a b c d e f g,ds=[a,b,c,d,e,f,g]:=by
  match ds,ld with
  | [a,b,c,d,e,f,g],_=>exact⟨a,b,c,d,e,f,g,rfl⟩
 obtain⟨n0,e0,_⟩:=q 0 _ _ rfl rfl
 obtain⟨n1,e1,_⟩:=q 1 _ _ rfl rfl
 obtain⟨n2,e2,_⟩:=q 2 _ _ rfl rfl
 obtain⟨n3,e3,_⟩:=q 3 _ _ rfl rfl
 obtain⟨n4,e4,_⟩:=q 4 _ _ rfl rfl
 obtain⟨n5,e5,p1,p2⟩:=q 5 _ _ rfl rfl
 obtain⟨n6,e6,p3,_⟩:=q 6 _ _ rfl rfl
 cases e0;cases e1;cases e2;cases e3;cases e4;cases e5;cases e6
 have i0:=bJ (ds:=[y0,y1,y2,y3,y4,y5,y6]) (i:=5) rfl
 have i1:=bJ (ds:=[y0,y1,y2,y3,y4,y5,y6]) (i:=6) rfl
 rw[<-e] at i0 i1
 exact⟨_,rfl,l2,l3,⟨n0,n1,n2,n3,n4,n5,n6⟩,rfl,by exact Nat.le_trans p1 i0,by exact Nat.le_trans p3 i1,fun c hc=>lu c _ _ i0 (p2 c hc)⟩
theorem Ek:Sp enc w S 52 2 (fun p:Int×Int=>[i64 p.1,i64 p.2]) fun _ _=>True:=fun n cs x h=>by
 obtain⟨xs,l1,l2,l3,ds,e,ld,q⟩:=jA (S:=S) (Qs:=fun i xs d=>∃r,xs=[i64 r]/\True) Tryz.underlying52 (Go.Deep.hone_of (by kernel_rfl)) (by kernel_rfl) (fun i f hf=>by
  match i,hf with
  | 0,hf=>cases hf;exact re
  | 1,hf=>cases hf;exact re
  | n+2,hf=>cases hf) _ _ _ h
 have l1:xs.length=2:=l1
 have ld:ds.length=2:=ld
 obtain⟨a,b,rfl⟩:∃a b,xs=[a,b]:=by
  match xs,l1 with
  | [a,b],_=>exact⟨a,b,rfl⟩
 obtain⟨a',b',rfl⟩:∃a b,ds=[a,b]:=by
  match ds,ld with
  | [a,b],_=>exact⟨a,b,rfl⟩
 obtain⟨n0,e0,_⟩:=q 0 _ _ rfl rfl
 obtain⟨n1,e1,_⟩:=q 1 _ _ rfl rfl
 cases e0;cases e1
 exact⟨_,rfl,l2,l3,(n0,n1),Z,Y⟩
theorem El {r:lP} (h:rH r 1048576):nn r:=⟨fun c hc=>by
  obtain⟨h1,h2,h3⟩:=h.2.2 c hc
  exact⟨Nat.lt_of_le_of_lt h1 (by decide),h2,fun s hs=>Nat.lt_of_le_of_lt (h3 s hs) (by decide)⟩,h.1,h.2.1⟩
theorem wq (r:lP) (m n:Nat) (h:m<=n):rH r m->rH r n:=fun ⟨h1,h2,h3⟩=>⟨by omega,by omega,fun c hc=>lu c _ _ h (h3 c hc)⟩
theorem F1 {d:DataW H} {l:List (DataW H)} (hk:Rows.uptoSmall H l=true) (h:d∈l):Rows.uptoBulk d<=1048576:=Nat.le_trans (u3 h) (z7 hk)
theorem u4 {P:Program} (hl:laidOutB P=true) {W W':World} (hb:Below W.heap.size W W'):∀{ts:List TypeId} {vs:List Value} {ds:List (DataW H)} {ps:List MemPlace},(ts.all fun t=>P.readableRec t && decide (t < P.types.size))=true->DataW.TrodAll enc P W 0 (fun _=>true) true ts vs ds ps->(∀p∈ps,p.block < W.heap.size)->∀sp:Nat->Bool,(∀p∈ps,sp p.block=true)->DataW.TrodAll enc P W' 0 sp true ts vs ds ps
 | [],[],[],_,_,h,_,_,_=>h
 | t::ts,v::vs,d::ds,ps,ht,h,fC,sp,hs=>by
  obtain⟨p,q,h1,h2,rfl⟩:=h
  simp only[List.all_cons,Bool.and_eq_true,decide_eq_true_eq] at ht
  have KJ:(ts.all fun t=>P.readableRec t && decide (t < P.types.size))=true:=by simpa using ht.2
  exact⟨p,q,Go.WideElems.Trod_stays hl ht.1.1 ht.1.2 h1 (fun x hx=>hb.same (fC x (List.mem_append_left _ hx))) (fun x hx=>hs x (List.mem_append_left _ hx)),
   u4 hl hb KJ h2 (fun x hx=>fC x (List.mem_append_right _ hx)) sp (fun x hx=>hs x (List.mem_append_right _ hx)),rfl⟩
 | [],_::_,_,_,_,h,_,_,_=>h.elim
 | [],[],_::_,_,_,h,_,_,_=>h.elim
 | _::_,[],_,_,_,h,_,_,_=>h.elim
 | _::_,_::_,[],_,_,h,_,_,_=>h.elim
theorem xW {W : World} (h1 : ∃ m : Int, W.cell? ⟨1, 0, none⟩ = some (.int .i64 m)) (h2 : Lib.TabIs Tryz.prog W "internal/strconv.uint64pow10" .u64 Lib.pow10Tab) : Env (fun b => b < W.heap.size) W := by
 refine⟨?_,block_lt_of_cell (h2.cell H6 0 (by decide)),h1,h2⟩
 obtain⟨m,hm⟩:=h1
 exact block_lt_of_cell hm
theorem KL:laidOutB Tryz.prog=true:=by kernel_rfl
theorem Ij {s:ByteArray} (h:s.size<=1048576):bO s:=Nat.lt_of_le_of_lt h (by decide)
end M
namespace M
open Go.AM Go.RowKit Go.Lib
open bq (bw cv ff)
theorem sV (cs:List Class) (hok:∀c∈cs,wk c) (hN:cs.length<=1048576) (i:Nat) (hi:i < cs.length):aw C 68 [.pv (.sl (cs.map kl)),.pv (i64 i)] (.p (i64 (cy cs i))) []:=by
 refine aE hC Tryz.func68 rfl rfl 89 rfl (by decide) (by kernel_rfl) fun _ _ _ _ _=>?_
 have lm:=aJ cs kl
 obtain⟨c,hc⟩:=aH (l:=cs) (i:=i) hi
 obtain⟨o1,o2,o3⟩:=hok c (List.mem_of_getElem? hc)
 have cf:cy cs i=(if cD c.name=true then (if 1000 < c.nets.length then 2 else
   if a8 (cq cs i c.nets) 0 c.nets.length=0 then
    (if (ef c.clearance && ef c.width)=true then (if bE (cs.map Class.name) i=true then 8 else 0) else 1)
   else a8 (cq cs i c.nets) 0 c.nets.length) else 5):=by rw[cy,hc]
 have lc:=aJ c.nets fun s=>[str s]
 rw[cf]
 (refine yS<|yA Z<|yU<|yP Z<|yP Z<|yq Z<|aL zI ?_;refine⟨(kl c),(idx rfl hc),?_⟩)
 ((refine yk<|yP Z<|yn Z<|az zI<|aR<|ai<|yq Z<|az zI<|aX<|aM<|aU<|yT<|an<|yS ?_;refine yV Z<|yP Z<|yn Z<|aL zI ?_);refine⟨_,_,(qF c.name (by have:c.name.size < 4294967281:=o1;omega)),?_⟩)
 (refine br Z Z<|ae<|yP Z<|yT<|ak Z ?_;refine aa (fun h2=>?_) (fun h2=>?_) <;> try simp only[zB] at h2)
 ·(refine yS<|yA Z<|yT<|aA<|af<|aB zi ?_;refine And.intro ?_ trivial)
  rw[if_neg (by simp[h2])];rfl
 rw[if_pos (by simpa using h2)]
 (refine ar<|ah<|an<|yS<|yV Z<|yP Z<|yP Z<|yP Z<|yT<|ak Z ?_;refine aa (fun h3=>?_) (fun h3=>?_) <;> try simp only[zB] at h3)
 ·(refine yS<|yA Z<|yT<|aA<|af<|aB zi ?_;refine And.intro ?_ trivial)
  rw[if_pos (by omega)];rfl
 rw[if_neg (by omega)]
 refine ar<|ah<|an<|yS<|yA Z<|yT<|aO ?_
 refine aC (fun j:Nat=>j<=c.nets.length/\∀k,k < j->cq cs i c.nets k=0) (fun j=>[(0,.p (.sl (cs.map kl))),(1,.p (i64 i)),(5,.bx 5 0),(6,.p (i64 j))]) (fun _=>[(5,.box [.p (str c.name),.p (strs c.nets),.p (i64 c.clearance),.p (i64 c.width)])]) (fun j=>c.nets.length - j) 0 _ (bg.refl _ _) ⟨Nat.zero_le _,fun k h=>by omega⟩ ⟨Z,Z,Z,Z,Y⟩ ⟨Z,Y⟩ fun j hj t h=>?_
 obtain⟨p1,p2⟩:=hj
 (refine an<|yS<|yP Z<|yV Z<|yP Z<|yP Z<|yP Z<|yT<|ak Z ?_;refine aa (fun h4=>?_) (fun h4=>?_) <;> try simp only[zB] at h4)
 ·obtain⟨y,hy⟩:=aH (l:=c.nets) (i:=j) (by omega)
  have wm:cq cs i c.nets j≠0->(if a8 (cq cs i c.nets) 0 c.nets.length=0 then
   (if (ef c.clearance && ef c.width)=true then (if bE (cs.map Class.name) i=true then 8 else 0) else 1)
   else a8 (cq cs i c.nets) 0 c.nets.length)=cq cs i c.nets j:=fun hb=>by
   have e:a8 (cq cs i c.nets) 0 c.nets.length=cq cs i c.nets j:=gF hb (fun k _ hk=>p2 k hk) (Nat.zero_le _) (by omega)
   rw[e,if_neg hb]
  have nf:cq cs i c.nets j=(if eT y=true then (if bE c.nets j=true then 8 else if seenIn (cs.take i) y=true then 7 else 0) else 5):=by rw[cq,hy]
  (refine ar<|ah<|an<|aO<|an<|yS<|yV Z<|yP Z<|yP Z<|yq Z<|aL zI ?_;refine⟨[str y],(idx rfl hy),?_⟩)
  (refine yk<|yP Z<|yn Z<|aL zI ?_;refine⟨_,_,(xJ y (o3 y (List.mem_of_getElem? hy))),?_⟩)
  (refine br Z Z<|ae<|yP Z<|yT<|ak Z ?_;refine aa (fun h5=>?_) (fun h5=>?_) <;> try simp only[zB] at h5)
  ·(refine yS<|yA Z<|yT<|aA<|af<|aq<|af<|af<|aq<|af<|aB zi ?_;refine And.intro ?_ trivial)
   rw[if_neg (by simp[h5])] at nf
   rw[wm (by rw[nf];decide),nf];rfl
  rw[if_pos (by simpa using h5)] at nf
  have next:cq cs i c.nets j=0->∀k,k < j+1->cq cs i c.nets k=0:=fun h0 k hk=>by
   by_cases e:k=j
   ·subst e;exact h0
   exact p2 k (by omega)
  (refine ar<|ah<|an<|an<|cF [] false Kp rfl (by kernel_rfl)<|cE Z<|yD Z<|yD Z<|yD Z<|dg Z ?_;refine aa (fun h6=>?_) (fun h6=>?_) <;> try simp only[zB] at h6)
  ·obtain⟨z,hz⟩:=aH (l:=c.nets) (i:=j - 1) (by omega)
   have bk:bE c.nets j=(cB y z || decide (y=z)):=by
    simp only[bE,hy,hz]
    rw[decide_eq_true (by omega:0 < j)];rfl
   (refine aV<|bA Z<|az zI<|bM<|ai<|d1 Z<|d1 Z<|d2 Z<|bA Z<|aL zI ?_;refine⟨[str y],(idx rfl hy),?_⟩)
   (refine bM<|ae<|d1 Z<|d2 Z<|bA Z<|az zI<|bM<|ai<|d1 Z<|d1 Z<|d2 Z<|bA Z<|bb zI ?_;refine sI ?_)
   (refine bM<|ae<|d2 Z<|bA Z<|aL zI ?_;refine⟨[str z],(idx (show (j:Int) - 1=((j - 1:Nat):Int) by omega) hz),?_⟩)
   (refine bM<|ae<|d1 Z<|d1 Z<|yD Z<|bR<|bS Z<|ah<|ak Z ?_;refine aa (fun h7=>?_) (fun h7=>?_) <;> try simp only[zB] at h7)
   ·(refine yS<|yA Z<|yT<|aA<|af<|aq<|af<|af<|aq<|af<|aB zi ?_;refine And.intro ?_ trivial)
    have h7:(cB y z || decide (y=z))=true:=by simpa [cB] using h7
    rw[bk,h7,if_pos rfl] at nf
    rw[wm (by rw[nf];decide),nf];rfl
   have h7:(cB y z || decide (y=z))=false:=by simpa [cB] using h7
   rw[bk,h7,if_neg (by decide)] at nf
   refine ar<|ah<|yS<|yA Z<|yT<|aO ?_
   refine aC (fun k:Nat=>k<=i/\seenIn (cs.take k) y=false) (fun k=>[(0,.p (.sl (cs.map kl))),(1,.p (i64 i)),(5,.bx 5 0),(6,.p (i64 j)),(7,.p (i64 k))]) (fun _=>[(5,.box [.p (str c.name),.p (strs c.nets),.p (i64 c.clearance),.p (i64 c.width)])]) (fun k=>i - k) 0 _ (bg.refl _ _) ⟨Nat.zero_le _,rfl⟩ ⟨Z,Z,Z,Z,Z,Y⟩ ⟨Z,Y⟩ fun k hk t h=>?_
   obtain⟨u1,u2⟩:=hk
   (refine an<|yS<|yP Z<|yP Z<|yP Z<|yT<|ak Z ?_;refine aa (fun h8=>?_) (fun h8=>?_) <;> try simp only[zB] at h8)
   ·obtain⟨d,hd⟩:=aH (l:=cs) (i:=k) (by omega)
    have st:seenIn (cs.take (k+1)) y=hasB d.nets y:=by
     rw[bB hd]
     unfold seenIn at *
     rw[List.any_append,u2]
     simp
    ((refine ar<|ah<|an<|aO<|an<|cF [] false DZ rfl (by kernel_rfl)<|aK Z<|aK Z<|aK Z<|aK Z<|aK Z<|aK Z<|aK Z<|aK Z ?_;refine aK Z<|aK Z<|eG Z Z<|cE Z<|yD Z<|yD Z<|dq Z<|aL zI ?_);refine⟨(kl d),(idx rfl hd),?_⟩)
    (refine bM<|ae<|yD Z<|yD Z<|yW Z<|yD Z<|yD Z<|dq Z<|aL zI ?_;refine⟨[str y],(idx rfl hy),?_⟩)
    (refine bM<|ae<|yD Z<|dq Z<|aL zI ?_;refine⟨_,_,(xH d.nets y (by have:=(hok d (List.mem_of_getElem? hd)).2.1;omega)),?_⟩)
    (refine bM<|ae<|bR<|bS Z<|ah<|ak Z ?_;refine aa (fun h9=>?_) (fun h9=>?_) <;> try simp only[zB] at h9)
    ·have sn:seenIn (cs.take i) y=true:=by
      unfold seenIn
      rw[List.any_eq_true]
      exact⟨d,List.mem_iff_getElem?.2 ⟨k,by rw[List.getElem?_take,if_pos (by omega)];exact hd⟩,h9⟩
     rw[sn,if_pos rfl] at nf
     (refine yS<|yA Z<|yT<|aA<|aq<|af<|af<|aq<|aq<|af<|af<|aq<|af<|aB zi ?_;refine And.intro ?_ trivial)
     rw[wm (by rw[nf];decide),nf];rfl
    (refine ar<|aS<|ah<|aP<|yP Z<|yq Z<|bb zI ?_;refine sI ?_)
    (refine yk<|yA Z<|yT<|au ?_;refine⟨(k+1),_,bg.refl _ _,?_⟩)
    exact⟨⟨by omega,by rw[st];simpa using h9⟩,by omega,⟨Z,Z,Z,Z,Z,Y⟩,⟨Z,Y⟩⟩
   have e:k=i:=by omega
   subst e
   rw[u2,if_neg (by decide)] at nf
   (refine bF<|aQ<|aQ<|bG<|aS<|ah<|aP<|yP Z<|yq Z<|bb zI ?_;refine sI ?_)
   (refine yk<|yA Z<|yT<|au ?_;refine⟨(j+1),_,bg.refl _ _,?_⟩)
   exact⟨⟨by omega,next nf⟩,by omega,⟨Z,Z,Z,Z,Y⟩,⟨Z,Y⟩⟩
  have h0:j=0:=by omega
  have bk:bE c.nets j=false:=by
   subst h0
   simp only[bE,hy]
   rfl
  rw[bk,if_neg (by decide)] at nf
  (refine aT<|ae<|d0 Z<|d0 Z<|d0 Z<|d0 Z<|d0 Z<|d0 Z<|d0 Z<|d0 Z<|d0 Z<|d0 Z<|d0 Z<|yD Z ?_;refine bR<|bS Z<|ah<|ak Z<|bz<|ar<|ah<|yS<|yA Z<|yT<|aO ?_)
  refine aC (fun k:Nat=>k<=i/\seenIn (cs.take k) y=false) (fun k=>[(0,.p (.sl (cs.map kl))),(1,.p (i64 i)),(5,.bx 5 0),(6,.p (i64 j)),(7,.p (i64 k))]) (fun _=>[(5,.box [.p (str c.name),.p (strs c.nets),.p (i64 c.clearance),.p (i64 c.width)])]) (fun k=>i - k) 0 _ (bg.refl _ _) ⟨Nat.zero_le _,rfl⟩ ⟨Z,Z,Z,Z,Z,Y⟩ ⟨Z,Y⟩ fun k hk t h=>?_
  obtain⟨u1,u2⟩:=hk
  (refine an<|yS<|yP Z<|yP Z<|yP Z<|yT<|ak Z ?_;refine aa (fun h8=>?_) (fun h8=>?_) <;> try simp only[zB] at h8)
  ·obtain⟨d,hd⟩:=aH (l:=cs) (i:=k) (by omega)
   have st:seenIn (cs.take (k+1)) y=hasB d.nets y:=by
    rw[bB hd]
    unfold seenIn at *
    rw[List.any_append,u2]
    simp
   ((refine ar<|ah<|an<|aO<|an<|cF [] false DZ rfl (by kernel_rfl)<|aK Z<|aK Z<|aK Z<|aK Z<|aK Z<|aK Z<|aK Z<|aK Z ?_;refine aK Z<|aK Z<|eG Z Z<|cE Z<|yD Z<|yD Z<|dq Z<|aL zI ?_);refine⟨(kl d),(idx rfl hd),?_⟩)
   (refine bM<|ae<|yD Z<|yD Z<|yW Z<|yD Z<|yD Z<|dq Z<|aL zI ?_;refine⟨[str y],(idx rfl hy),?_⟩)
   (refine bM<|ae<|yD Z<|dq Z<|aL zI ?_;refine⟨_,_,(xH d.nets y (by have:=(hok d (List.mem_of_getElem? hd)).2.1;omega)),?_⟩)
   (refine bM<|ae<|bR<|bS Z<|ah<|ak Z ?_;refine aa (fun h9=>?_) (fun h9=>?_) <;> try simp only[zB] at h9)
   ·have sn:seenIn (cs.take i) y=true:=by
     unfold seenIn
     rw[List.any_eq_true]
     exact⟨d,List.mem_iff_getElem?.2 ⟨k,by rw[List.getElem?_take,if_pos (by omega)];exact hd⟩,h9⟩
    rw[sn,if_pos rfl] at nf
    (refine yS<|yA Z<|yT<|aA<|aq<|af<|af<|aq<|aq<|af<|af<|aq<|af<|aB zi ?_;refine And.intro ?_ trivial)
    rw[wm (by rw[nf];decide),nf];rfl
   (refine ar<|aS<|ah<|aP<|yP Z<|yq Z<|bb zI ?_;refine sI ?_)
   (refine yk<|yA Z<|yT<|au ?_;refine⟨(k+1),_,bg.refl _ _,?_⟩)
   exact⟨⟨by omega,by rw[st];simpa using h9⟩,by omega,⟨Z,Z,Z,Z,Z,Y⟩,⟨Z,Y⟩⟩
  have e:k=i:=by omega
  subst e
  rw[u2,if_neg (by decide)] at nf
  (refine bF<|aQ<|aQ<|bG<|aS<|ah<|aP<|yP Z<|yq Z<|bb zI ?_;refine sI ?_)
  (refine yk<|yA Z<|yT<|au ?_;refine⟨(j+1),_,bg.refl _ _,?_⟩)
  exact⟨⟨by omega,next nf⟩,by omega,⟨Z,Z,Z,Z,Y⟩,⟨Z,Y⟩⟩
 have z0:a8 (cq cs i c.nets) 0 c.nets.length=0:=bp fun k _ hk=>p2 k (by omega)
 rw[if_pos z0]
 have bn:∀d,cs[i - 1]?=some d->0 < i->bE (cs.map Class.name) i=(cB c.name d.name || decide (c.name=d.name)):=fun d hd h0=>by
  simp only[bE,List.getElem?_map,hc,hd,Option.map_some]
  rw[decide_eq_true h0];rfl
 (refine bF<|aQ<|aQ<|bG<|ah<|an<|yS<|yV Z<|yP Z<|yn Z<|aL zI ?_;refine⟨_,_,(gE c.clearance),?_⟩)
 (refine br Z Z<|ae<|yP Z<|yP Z<|yg Z ?_;refine aa (fun g1=>?_) (fun g1=>?_) <;> try simp only[zB] at g1)
 ·((refine aT<|ae<|y0 Z<|y0 Z<|y0 Z<|yP Z<|yT<|ak Z<|cu<|yS<|yA Z<|yT<|aA<|af ?_;refine aB zi ?_);refine And.intro ?_ trivial)
  rw[if_neg (by simp[g1])];rfl
 (refine aV<|aN Z Z<|az zI<|aX<|ai<|y1 Z<|y2 Z<|cx Z Z Z<|aL zI ?_;refine⟨_,_,(gE c.width),?_⟩)
 (refine br Z Z<|ae<|y1 Z<|yP Z<|yT<|ak Z ?_;refine aa (fun g2=>?_) (fun g2=>?_) <;> try simp only[zB] at g2)
 ·(refine yS<|yA Z<|yT<|aA<|af<|aB zi ?_;refine And.intro ?_ trivial)
  rw[if_neg (by simp[g2])];rfl
 rw[if_pos (by simp[g1,g2])]
 (refine ar<|ah<|an<|an<|cF [] false Ce rfl (by kernel_rfl)<|cE Z<|yD Z<|yD Z<|yD Z<|dg Z ?_;refine aa (fun g3=>?_) (fun g3=>?_) <;> try simp only[zB] at g3)
 ·obtain⟨d,hd⟩:=aH (l:=cs) (i:=i - 1) (by omega)
  (refine aV<|bA Z<|az zI<|bM<|ai<|d1 Z<|d1 Z<|d1 Z<|d2 Z<|bA Z<|bb zI ?_;refine sI ?_)
  (refine bM<|ae<|d2 Z<|bA Z<|aL zI ?_;refine⟨(kl d),(idx (show (i:Int) - 1=((i - 1:Nat):Int) by omega) hd),?_⟩)
  rw[bn d hd (by omega)]
  (refine bM<|ae<|d1 Z<|d1 Z<|d1 Z<|yD Z<|bR<|bS Z<|ah<|ak Z ?_;refine aa (fun g4=>?_) (fun g4=>?_) <;> try simp only[zB] at g4)
  ·(refine yS<|yA Z<|yT<|aA<|af<|aB zi ?_;refine And.intro ?_ trivial)
   have g4:(cB c.name d.name || decide (c.name=d.name))=true:=by simpa [cB] using g4
   rw[g4];rfl
  have g4:(cB c.name d.name || decide (c.name=d.name))=false:=by simpa [cB] using g4
  (refine ar<|ah<|yS<|yA Z<|yR zi ?_;refine And.intro ?_ trivial)
  rw[g4];rfl
 have h0:i=0:=by omega
 have bk:bE (cs.map Class.name) i=false:=by
  subst h0
  simp only[bE,List.getElem?_map,hc]
  rfl
 ((refine aT<|ae<|d0 Z<|d0 Z<|d0 Z<|d0 Z<|d0 Z<|d0 Z<|d0 Z<|d0 Z<|yD Z<|bR<|bS Z<|ah ?_;refine ak Z<|bz<|ar<|ah<|yS<|yA Z<|yR zi ?_);refine And.intro ?_ trivial)
 rw[bk];rfl
theorem sW (r:lP) (ho:nn r):aw C 26 [.pv (.ag (rl r))] (.p (i64 (cM r))) []:=by
 refine aE hC Tryz.func26 rfl rfl 92 rfl (by decide) (by kernel_rfl) fun _ _ _ _ _=>?_
 obtain⟨o1,o2,o3⟩:=ho
 have lm:=aJ r.areas arr
 have lc:=aJ r.classes kl
 (refine yS<|yn Z<|az zI<|aR<|ai<|yA Z<|yT<|an<|yS<|yV Z<|yP Z<|yn Z<|aL zI ?_;refine⟨_,_,(gE r.clearance),?_⟩)
 (refine br Z Z<|ae<|yP Z<|yP Z<|yg Z ?_;refine aa (fun h1=>?_) (fun h1=>?_) <;> try simp only[zB] at h1)
 ·((refine aT<|ae<|y0 Z<|y0 Z<|y0 Z<|yP Z<|yP Z<|y0 Z<|y0 Z<|y0 Z<|y0 Z<|yP Z<|yP Z<|y0 Z ?_;refine y0 Z<|y0 Z<|y0 Z<|yP Z<|yP Z<|y0 Z<|y0 Z<|y0 Z<|y0 Z<|yP Z<|yT<|ak Z<|cu<|yS ?_;refine yA Z<|yT<|aA<|af<|aB zi ?_);refine And.intro ?_ trivial)
  rw[cM,if_neg (by simp[lr,h1])];rfl
 (refine aV<|aN Z Z<|az zI<|aX<|ai<|y1 Z<|y2 Z<|cx Z Z Z<|aL zI ?_;refine⟨_,_,(gE r.width),?_⟩)
 (refine br Z Z<|ae<|y1 Z<|yP Z<|yP Z<|yg Z ?_;refine aa (fun h2=>?_) (fun h2=>?_) <;> try simp only[zB] at h2)
 ·((refine aT<|ae<|y0 Z<|y0 Z<|y0 Z<|yP Z<|yP Z<|y0 Z<|y0 Z<|y0 Z<|y0 Z<|yP Z<|yP Z<|y0 Z ?_;refine y0 Z<|y0 Z<|y0 Z<|yP Z<|yT<|ak Z<|cu<|yS<|yA Z<|yT<|aA<|af<|aB zi ?_);refine And.intro ?_ trivial)
  rw[cM,if_neg (by simp[lr,h2])];rfl
 (refine aV<|aN Z Z<|az zI<|aX<|ai<|y1 Z<|y2 Z<|cx Z Z Z<|aL zI ?_;refine⟨_,_,(gE r.ring),?_⟩)
 (refine br Z Z<|ae<|y1 Z<|yP Z<|yP Z<|yg Z ?_;refine aa (fun h3=>?_) (fun h3=>?_) <;> try simp only[zB] at h3)
 ·((refine aT<|ae<|y0 Z<|y0 Z<|y0 Z<|yP Z<|yP Z<|y0 Z<|y0 Z<|y0 Z<|y0 Z<|yP Z<|yT<|ak Z ?_;refine cu<|yS<|yA Z<|yT<|aA<|af<|aB zi ?_);refine And.intro ?_ trivial)
  rw[cM,if_neg (by simp[lr,h3])];rfl
 (refine aV<|aN Z Z<|az zI<|aX<|ai<|y1 Z<|y2 Z<|cx Z Z Z<|aL zI ?_;refine⟨_,_,(gE r.edge),?_⟩)
 (refine br Z Z<|ae<|y1 Z<|yP Z<|yP Z<|yg Z ?_;refine aa (fun h4=>?_) (fun h4=>?_) <;> try simp only[zB] at h4)
 ·((refine aT<|ae<|y0 Z<|y0 Z<|y0 Z<|yP Z<|yT<|ak Z<|cu<|yS<|yA Z<|yT<|aA<|af ?_;refine aB zi ?_);refine And.intro ?_ trivial)
  rw[cM,if_neg (by simp[lr,h4])];rfl
 (refine aV<|aN Z Z<|az zI<|aX<|ai<|y1 Z<|y2 Z<|cx Z Z Z<|aL zI ?_;refine⟨_,_,(gE r.holeGap),?_⟩)
 (refine br Z Z<|ae<|y1 Z<|yP Z<|yT<|ak Z ?_;refine aa (fun h5=>?_) (fun h5=>?_) <;> try simp only[zB] at h5)
 ·(refine yS<|yA Z<|yT<|aA<|af<|aB zi ?_;refine And.intro ?_ trivial)
  rw[cM,if_neg (by simp[lr,h5])];rfl
 rw[cM,if_pos (by simp[lr,h1,h2,h3,h4,h5])]
 (refine ar<|ah<|an<|yS<|yV Z<|yP Z<|yP Z<|yP Z<|yT<|ak Z ?_;refine aa (fun h6=>?_) (fun h6=>?_) <;> try simp only[zB] at h6)
 ·(refine yS<|yA Z<|yT<|aA<|af<|aB zi ?_;refine And.intro ?_ trivial)
  rw[show dF r.classes=2 by rw[dF,if_pos (by omega)]];rfl
 have ce:dF r.classes=a8 (cy r.classes) 0 r.classes.length:=by rw[dF,if_neg (by omega)]
 rw[ce]
 refine ar<|ah<|an<|yS<|yA Z<|yT<|aO ?_
 refine aC (fun i:Nat=>i<=r.classes.length/\∀k,k < i->cy r.classes k=0) (fun i=>[(1,.bx 1 0),(3,.p (i64 i))]) (fun _=>[(1,.box (KH r))]) (fun i=>r.classes.length - i) 0 _ (bg.refl _ _) ⟨Nat.zero_le _,fun k h=>by omega⟩ ⟨Z,Z,Y⟩ ⟨Z,Y⟩ fun i hi t h=>?_
 obtain⟨q1,q2⟩:=hi
 (refine an<|yS<|yP Z<|yV Z<|yP Z<|yP Z<|yP Z<|yT<|ak Z ?_;refine aa (fun h7=>?_) (fun h7=>?_) <;> try simp only[zB] at h7)
 ·(refine ar<|ah<|an<|aO<|yS<|yV Z<|yP Z<|yP Z<|yn Z<|aL zI ?_;refine⟨_,_,(sV r.classes o1 o2 i (by omega)),?_⟩)
  (refine br Z Z<|ae<|yA Z<|yU<|yP Z<|yP Z<|yT<|ak Z ?_;refine aa (fun h8=>?_) (fun h8=>?_) <;> try simp only[zB] at h8)
  ·have h8:¬cy r.classes i=0:=by simpa using h8
   have e:=gF (f:=cy r.classes) (m:=i) h8 (n:=r.classes.length) (i:=0) (fun k _ hk=>q2 k hk) (Nat.zero_le _) (by omega)
   (refine yS<|yP Z<|yA Z<|yT<|aA<|aq<|af<|af<|aq<|af<|aB zi ?_;refine And.intro ?_ trivial)
   rw[e,if_neg h8]
  have h8:cy r.classes i=0:=by simpa using h8
  (refine ar<|aS<|ah<|aP<|yP Z<|yq Z<|bb zI ?_;refine sI ?_)
  (refine yk<|yA Z<|yT<|au ?_;refine⟨(i+1),_,bg.refl _ _,?_⟩)
  refine⟨⟨by omega,fun k hk=>?_⟩,by omega,⟨Z,Z,Y⟩,⟨Z,Y⟩⟩
  by_cases e:k=i
  ·subst e;exact h8
  exact q2 k (by omega)
 rw[if_pos (bp fun k _ hk=>q2 k (by omega))]
 (refine bF<|aQ<|aQ<|bG<|ah<|an<|yS<|yV Z<|yP Z<|yP Z<|yP Z<|yT<|ak Z ?_;refine aa (fun h9=>?_) (fun h9=>?_) <;> try simp only[zB] at h9)
 ·(refine yS<|yA Z<|yT<|aA<|af<|aB zi ?_;refine And.intro ?_ trivial)
  rw[jB,if_pos (by omega)];rfl
 rw[jB,if_neg (by omega)]
 refine ar<|ah<|yS<|yA Z<|yT<|an<|yS<|yA Z<|yT<|aO ?_
 refine aC (fun i:Nat=>i<=r.areas.length/\(∀k,k < i->dr r.areas k=0)/\dW (r.areas.take i)<=i*1000000) (fun i=>[(1,.bx 1 0),(5,.p (i64 (dW (r.areas.take i)))),(6,.p (i64 i))]) (fun _=>[(1,.box (KH r))]) (fun i=>r.areas.length - i) 0 _ (bg.refl _ _) ⟨Nat.zero_le _,fun k h=>by omega,by simp[dW]⟩ ⟨Z,Z,Z,Y⟩ ⟨Z,Y⟩ fun i hi t h=>?_
 obtain⟨q1,q2,q3⟩:=hi
 (refine an<|yS<|yP Z<|yV Z<|yP Z<|yP Z<|yP Z<|yT<|ak Z ?_;refine aa (fun h3=>?_) (fun h3=>?_) <;> try simp only[zB] at h3)
 ·obtain⟨a,ha⟩:=aH (l:=r.areas) (i:=i) (by omega)
  have bad:dr r.areas i≠0->a8 (dr r.areas) 0 r.areas.length=dr r.areas i:=fun hb=>gF hb (fun k _ hk=>q2 k hk) (Nat.zero_le _) (by omega)
  have cf:dr r.areas i=(if (decide (-1<=a.layer) && decide (a.layer<=15))=true then (if bq.bZ a.region=0 then (if ef a.clearance=true then 0 else 1) else bq.bZ a.region) else 1):=by rw[dr,ha]
  have la:=aJ a.region rc
  (refine ar<|ah<|an<|aO<|yS<|yV Z<|yP Z<|yP Z<|yq Z<|aL zI ?_;refine⟨(arr a),(idx rfl ha),?_⟩)
  ((refine yk<|yP Z<|yn Z<|az zI<|aR<|ai<|yq Z<|az zI<|aX<|aM<|aU<|yT<|an<|yS ?_;refine yV Z<|yP Z<|yn Z<|aL zI ?_);refine⟨_,_,(qE a.layer (-1) 15),?_⟩)
  (refine br Z Z<|ae<|yP Z<|yT<|ak Z ?_;refine aa (fun h4=>?_) (fun h4=>?_) <;> try simp only[zB] at h4)
  ·(refine yS<|yA Z<|yT<|aA<|af<|aq<|af<|af<|aq<|af<|aB zi ?_;refine And.intro ?_ trivial)
   rw[if_neg (by simpa using h4)] at cf
   rw[bad (by rw[cf];decide),cf];rfl
  rw[if_pos (by simpa using h4)] at cf
  (refine ar<|ah<|an<|yS<|yV Z<|yP Z<|yn Z<|aL zI ?_;refine⟨_,_,(q_ a.region),?_⟩)
  (refine br Z Z<|ae<|yA Z<|yU<|yP Z<|yP Z<|yT<|ak Z ?_;refine aa (fun h5=>?_) (fun h5=>?_) <;> try simp only[zB] at h5)
  ·(refine yS<|yP Z<|yA Z<|yT<|aA<|af<|aq<|af<|af<|aq<|af<|aB zi ?_;refine And.intro ?_ trivial)
   have h5:¬bq.bZ a.region=0:=by simpa using h5
   rw[if_neg h5] at cf
   rw[bad (by rw[cf];exact h5),cf,if_neg h5]
  have h5:bq.bZ a.region=0:=by simpa using h5
  rw[if_pos h5] at cf
  have hl:=sU h5
  (refine ar<|ah<|an<|yS<|yV Z<|yP Z<|yn Z<|aL zI ?_;refine⟨_,_,(gE a.clearance),?_⟩)
  (refine br Z Z<|ae<|yP Z<|yT<|ak Z ?_;refine aa (fun h6=>?_) (fun h6=>?_) <;> try simp only[zB] at h6)
  ·(refine yS<|yA Z<|yT<|aA<|af<|aq<|af<|af<|aq<|af<|aB zi ?_;refine And.intro ?_ trivial)
   rw[if_neg (by simp[h6])] at cf
   rw[bad (by rw[cf];decide),cf];rfl
  rw[if_pos (by simpa using h6)] at cf
  have s1:dW (r.areas.take (i+1))=dW (r.areas.take i)+a.region.length:=by
   rw[bB ha,qL];simp[dW]
  (refine ar<|ah<|aP<|yP Z<|yV Z<|yP Z<|yP Z<|yq Z<|bb zI ?_;refine sI ?_)
  (refine yk<|yA Z<|dB<|aS<|ah<|aP<|yP Z<|yq Z<|bb zI ?_;refine sI ?_)
  (refine yk<|yA Z<|yT<|au ?_;refine⟨(i+1),_,bg.refl _ _,?_⟩)
  refine⟨⟨by omega,fun k hk=>?_,by omega⟩,by omega,⟨rfl,cb (by omega),Z,Y⟩,⟨Z,Y⟩⟩
  by_cases e:k=i
  ·subst e;exact cf
  exact q2 k (by omega)
 have e:i=r.areas.length:=by omega
 subst e
 have z0:a8 (dr r.areas) 0 r.areas.length=0:=bp fun k _ hk=>q2 k (by omega)
 rw[if_pos z0]
 have tl:r.areas.take r.areas.length=r.areas:=List.take_length
 (refine bF<|aQ<|aQ<|bG<|ah<|an<|yS<|yP Z<|yP Z<|yT<|ak Z ?_;refine aa (fun h7=>?_) (fun h7=>?_) <;> try simp only[zB] at h7)
 ·(refine yS<|yA Z<|yT<|aA<|af<|aB zi ?_;refine And.intro ?_ trivial)
  rw[tl] at h7
  rw[if_pos (by omega)];rfl
 (refine ar<|ah<|yS<|yA Z<|yR zi ?_;refine And.intro ?_ trivial)
 rw[tl] at h7
 rw[if_neg (by omega)];rfl
def er (n lo hi:Int):Bool:=decide (lo<=n) && decide (n<=hi)
theorem eE {n lo hi:Int}:er n lo hi=true↔lo<=n/\n<=hi:=by simp[er]
theorem F2 {n lo hi:Int}:er n lo hi=false↔¬(lo<=n/\n<=hi):=by
 rw[<-eE,Bool.not_eq_true]
theorem mB (n lo hi:Int):aw C 203 [.pv (i64 n),.pv (i64 lo),.pv (i64 hi)] (.p (bool (er n lo hi))) []:=by
 refine aE hC Tryz.func203 rfl rfl 15 rfl (by decide) (by kernel_rfl) fun _ _ _ _ _=>?_
 (refine yS<|yA Z<|yU<|yP Z<|yP Z<|yP Z<|yP Z<|yg Z ?_;refine aa (fun h=>?_) (fun h=>?_) <;> try simp only[zB] at h) <;> ((first | (refine aV<|aN Z Z<|az zI<|yk<|y1 Z<|y1 Z<|yP Z<|yA Z<|yR zi ?_) | (refine aT<|ae<|y0 Z<|y0 Z<|yP Z<|yA Z<|yR zi ?_));refine And.intro ?_ trivial) <;> simp[bool,er,h]
theorem eY (n lo hi:Int):aw C 56 [.pv (i64 n),.pv (i64 lo),.pv (i64 hi)] (.p (bool (er n lo hi))) []:=by
 refine aE hC Tryz.func56 rfl rfl 15 rfl (by decide) (by kernel_rfl) fun _ _ _ _ _=>?_
 (refine yS<|yA Z<|yU<|yP Z<|yP Z<|yP Z<|yP Z<|yg Z ?_;refine aa (fun h=>?_) (fun h=>?_) <;> try simp only[zB] at h) <;> ((first | (refine aV<|aN Z Z<|az zI<|yk<|y1 Z<|y1 Z<|yP Z<|yA Z<|yR zi ?_) | (refine aT<|ae<|y0 Z<|y0 Z<|yP Z<|yA Z<|yR zi ?_));refine And.intro ?_ trivial) <;> simp[bool,er,h]
theorem jS (n lo hi:Int):aw C 138 [.pv (i64 n),.pv (i64 lo),.pv (i64 hi)] (.p (bool (er n lo hi))) []:=by
 refine aE hC Tryz.func138 rfl rfl 15 rfl (by decide) (by kernel_rfl) fun _ _ _ _ _=>?_
 (refine yS<|yA Z<|yU<|yP Z<|yP Z<|yP Z<|yP Z<|yg Z ?_;refine aa (fun h=>?_) (fun h=>?_) <;> try simp only[zB] at h) <;> ((first | (refine aV<|aN Z Z<|az zI<|yk<|y1 Z<|y1 Z<|yP Z<|yA Z<|yR zi ?_) | (refine aT<|ae<|y0 Z<|y0 Z<|yP Z<|yA Z<|yR zi ?_));refine And.intro ?_ trivial) <;> simp[bool,er,h]
theorem e_ (n lo hi:Int):aw C 144 [.pv (i64 n),.pv (i64 lo),.pv (i64 hi)] (.p (bool (er n lo hi))) []:=by
 refine aE hC Tryz.func144 rfl rfl 15 rfl (by decide) (by kernel_rfl) fun _ _ _ _ _=>?_
 (refine yS<|yA Z<|yU<|yP Z<|yP Z<|yP Z<|yP Z<|yg Z ?_;refine aa (fun h=>?_) (fun h=>?_) <;> try simp only[zB] at h) <;> ((first | (refine aV<|aN Z Z<|az zI<|yk<|y1 Z<|y1 Z<|yP Z<|yA Z<|yR zi ?_) | (refine aT<|ae<|y0 Z<|y0 Z<|yP Z<|yA Z<|yR zi ?_));refine And.intro ?_ trivial) <;> simp[bool,er,h]
theorem fV (n lo hi:Int):aw C 66 [.pv (i64 n),.pv (i64 lo),.pv (i64 hi)] (.p (bool (er n lo hi))) []:=by
 refine aE hC Tryz.func66 rfl rfl 15 rfl (by decide) (by kernel_rfl) fun _ _ _ _ _=>?_
 (refine yS<|yA Z<|yU<|yP Z<|yP Z<|yP Z<|yP Z<|yg Z ?_;refine aa (fun h=>?_) (fun h=>?_) <;> try simp only[zB] at h) <;> ((first | (refine aV<|aN Z Z<|az zI<|yk<|y1 Z<|y1 Z<|yP Z<|yA Z<|yR zi ?_) | (refine aT<|ae<|y0 Z<|y0 Z<|yP Z<|yA Z<|yR zi ?_));refine And.intro ?_ trivial) <;> simp[bool,er,h]
theorem pg (n lo hi:Int):aw C 77 [.pv (i64 n),.pv (i64 lo),.pv (i64 hi)] (.p (bool (er n lo hi))) []:=by
 refine aE hC Tryz.func77 rfl rfl 15 rfl (by decide) (by kernel_rfl) fun _ _ _ _ _=>?_
 (refine yS<|yA Z<|yU<|yP Z<|yP Z<|yP Z<|yP Z<|yg Z ?_;refine aa (fun h=>?_) (fun h=>?_) <;> try simp only[zB] at h) <;> ((first | (refine aV<|aN Z Z<|az zI<|yk<|y1 Z<|y1 Z<|yP Z<|yA Z<|yR zi ?_) | (refine aT<|ae<|y0 Z<|y0 Z<|yP Z<|yA Z<|yR zi ?_));refine And.intro ?_ trivial) <;> simp[bool,er,h]
theorem lx (n lo hi:Int):aw C 183 [.pv (i64 n),.pv (i64 lo),.pv (i64 hi)] (.p (bool (er n lo hi))) []:=by
 refine aE hC Tryz.func183 rfl rfl 15 rfl (by decide) (by kernel_rfl) fun _ _ _ _ _=>?_
 (refine yS<|yA Z<|yU<|yP Z<|yP Z<|yP Z<|yP Z<|yg Z ?_;refine aa (fun h=>?_) (fun h=>?_) <;> try simp only[zB] at h) <;> ((first | (refine aV<|aN Z Z<|az zI<|yk<|y1 Z<|y1 Z<|yP Z<|yA Z<|yR zi ?_) | (refine aT<|ae<|y0 Z<|y0 Z<|yP Z<|yA Z<|yR zi ?_));refine And.intro ?_ trivial) <;> simp[bool,er,h]
theorem dI (n lo hi:Int):aw C 116 [.pv (i64 n),.pv (i64 lo),.pv (i64 hi)] (.p (bool (er n lo hi))) []:=by
 refine aE hC Tryz.func116 rfl rfl 15 rfl (by decide) (by kernel_rfl) fun _ _ _ _ _=>?_
 (refine yS<|yA Z<|yU<|yP Z<|yP Z<|yP Z<|yP Z<|yg Z ?_;refine aa (fun h=>?_) (fun h=>?_) <;> try simp only[zB] at h) <;> ((first | (refine aV<|aN Z Z<|az zI<|yk<|y1 Z<|y1 Z<|yP Z<|yA Z<|yR zi ?_) | (refine aT<|ae<|y0 Z<|y0 Z<|yP Z<|yA Z<|yR zi ?_));refine And.intro ?_ trivial) <;> simp[bool,er,h]
theorem iZ (n lo hi:Int):aw C 122 [.pv (i64 n),.pv (i64 lo),.pv (i64 hi)] (.p (bool (er n lo hi))) []:=by
 refine aE hC Tryz.func122 rfl rfl 15 rfl (by decide) (by kernel_rfl) fun _ _ _ _ _=>?_
 (refine yS<|yA Z<|yU<|yP Z<|yP Z<|yP Z<|yP Z<|yg Z ?_;refine aa (fun h=>?_) (fun h=>?_) <;> try simp only[zB] at h) <;> ((first | (refine aV<|aN Z Z<|az zI<|yk<|y1 Z<|y1 Z<|yP Z<|yA Z<|yR zi ?_) | (refine aT<|ae<|y0 Z<|y0 Z<|yP Z<|yA Z<|yR zi ?_));refine And.intro ?_ trivial) <;> simp[bool,er,h]
theorem mC (s:ByteArray) (hs:s.size<=9223372036854775807):aw C 202 [.pv (str s)] (.p (bool (cD s))) []:=by
 refine aE hC Tryz.func202 rfl rfl 44 rfl (by decide) (by kernel_rfl) fun _ _ _ _ _=>?_
 have hsz:s.data.toList.length=s.size:=by simp
 refine yS<|yA Z<|yT<|an<|yS<|yP Z<|yP Z<|yP Z<|yT<|aO ?_
 refine aC (fun i:Nat=>i<=s.size/\(s.data.toList.take i).all okB=true) (fun i=>[(0,.p (str s)),(6,.p (i64 s.size)),(7,.p (i64 i))]) (fun _=>[]) (fun i=>s.size - i) 0 _ (bg.refl _ _) ⟨Nat.zero_le _,by simp⟩ ⟨Z,Z,Z,Y⟩ trivial fun i hi t h=>?_
 (refine yS<|yP Z<|yT<|an<|ak Z ?_;refine aa (fun h1=>?_) (fun h1=>?_) <;> try simp only[zB] at h1)
 ·obtain⟨b,hb,iI⟩:=jz (s:=s) (i:=i) (by omega)
  have pZ:okB b=false->cD s=false:=fun h=>by
   rw[cD,Bool.and_eq_false_iff]
   refine .inl ?_
   rw[List.all_eq_false]
   exact⟨b,List.mem_of_getElem? iI,by simp[h]⟩
  have hnext:okB b=true->(s.data.toList.take (i+1)).all okB=true:=fun h=>by rw[bB iI,List.all_append,hi.2];simp[h]
  (refine ar<|ah<|an<|aO<|yS<|yP Z<|yA Z<|yU<|yP Z<|yP Z<|yq Z<|aL zI ?_;refine⟨b,⟨by omega,by rw[Int.toNat_natCast];exact hb⟩,?_⟩)
  have rA:=gk ⟨#[95,43,45,35]⟩ b.toNat
  rw[byte_back] at rA
  repeat' first | ((first | (refine aT<|ae<|y0 Z<|y1 Z<|yP Z<|yP Z<|y1 Z<|y1 Z<|y1 Z<|yg Z ?_) | (refine aT<|ae<|y0 Z<|yP Z<|yP Z<|y1 Z<|y1 Z<|y1 Z<|yg Z ?_) | (refine aV<|aN Z Z<|az zI<|yk<|y1 Z<|y1 Z<|yP Z<|yP Z<|yg Z ?_) | (refine aV<|aN Z Z<|az zI<|yk<|y1 Z<|y1 Z<|yg Z ?_) | (refine yk<|yA Z<|yU<|yP Z<|yP Z<|yP Z<|yg Z ?_) | (refine aV<|aN Z Z<|az zI<|yk<|y1 Z<|yP Z<|yP Z<|yg Z ?_) | (refine br Z Z<|ae<|y1 Z<|yP Z<|yT<|ak Z ?_));refine aa (fun h=>?_) (fun h=>?_) <;> try simp only[zB] at h) | ((first | (refine aT<|ae<|y0 Z<|y1 Z<|yP Z<|yP Z<|y1 Z<|y2 Z<|cx Z Z Z<|aL zI ?_) | (refine aV<|aN Z Z<|az zI<|yk<|y2 Z<|cx Z Z Z<|aL zI ?_));refine⟨_,_,rA,?_⟩)
  all_goals (first | (refine aT<|ae<|y0 Z<|y0 Z<|aj Z Z Z Z<|ae<|aj Z Z Z Z<|ae<|y0 Z<|yP Z<|yP Z<|y0 Z<|y0 Z<|y0 Z ?_;refine aj Z Z Z Z<|ae<|aj Z Z Z Z<|ae<|y0 Z<|yP Z<|yP Z<|y0 Z<|y0 Z<|y0 Z<|yP Z<|yT<|ak Z<|bz ?_;refine ar<|aS<|ah<|aP<|yq Z<|bb zI ?_) | (refine aT<|ae<|y0 Z<|y0 Z<|aj Z Z Z Z<|ae<|aj Z Z Z Z<|ae<|y0 Z<|yP Z<|yP Z<|y0 Z<|y0 Z<|y0 Z ?_;refine yP Z<|yT<|ak Z<|bz<|ar<|aS<|ah<|aP<|yq Z<|bb zI ?_) | (refine aT<|ae<|y0 Z<|y0 Z<|yP Z<|yT<|ak Z<|bz<|ar<|aS<|ah<|aP<|yq Z<|bb zI ?_) | (refine yS<|yA Z<|yT<|aA<|aq<|af<|af<|aq<|af<|aB zi ?_) | (refine ar<|aS<|ah<|aP<|yq Z<|bb zI ?_))
  all_goals first
   | (
     refine sI ?_
     (refine yk<|yP Z<|yT<|au ?_;refine⟨(i+1),_,bg.refl _ _,?_⟩)
     exact⟨⟨by omega,hnext (by simp only[okB,Bool.or_eq_true,Bool.and_eq_true,decide_eq_true_eq,Bool.not_eq_true',decide_eq_false_iff_not];omega)⟩,by omega,⟨Z,Z,Z,Y⟩,trivial⟩)
   | (
     refine And.intro ?_ trivial
     rw[pZ (by simp only[okB,Bool.or_eq_false_iff,Bool.and_eq_false_iff,decide_eq_false_iff_not,Bool.not_eq_false',decide_eq_true_eq];omega)]
     rfl)
 have eo:s.data.toList.all okB=true:=by
  have:=hi.2
  rwa [List.take_of_length_le (by omega)] at this
 (refine bF<|aQ<|aQ<|bG<|ah<|yS<|yP Z<|yP Z<|yn Z<|aL zI ?_;refine⟨_,_,(mB s.size 1 40),?_⟩)
 (refine br Z Z<|ae<|yA Z<|yR zi ?_;refine And.intro ?_ trivial)
 rw[cD,eo,Bool.true_and]
 rfl
theorem qM (s:ByteArray) (hs:s.size<=9223372036854775807):aw C 137 [.pv (str s)] (.p (bool (cD s))) []:=by
 refine aE hC Tryz.func137 rfl rfl 44 rfl (by decide) (by kernel_rfl) fun _ _ _ _ _=>?_
 have hsz:s.data.toList.length=s.size:=by simp
 refine yS<|yA Z<|yT<|an<|yS<|yP Z<|yP Z<|yP Z<|yT<|aO ?_
 refine aC (fun i:Nat=>i<=s.size/\(s.data.toList.take i).all okB=true) (fun i=>[(0,.p (str s)),(6,.p (i64 s.size)),(7,.p (i64 i))]) (fun _=>[]) (fun i=>s.size - i) 0 _ (bg.refl _ _) ⟨Nat.zero_le _,by simp⟩ ⟨Z,Z,Z,Y⟩ trivial fun i hi t h=>?_
 (refine yS<|yP Z<|yT<|an<|ak Z ?_;refine aa (fun h1=>?_) (fun h1=>?_) <;> try simp only[zB] at h1)
 ·obtain⟨b,hb,iI⟩:=jz (s:=s) (i:=i) (by omega)
  have pZ:okB b=false->cD s=false:=fun h=>by
   rw[cD,Bool.and_eq_false_iff]
   refine .inl ?_
   rw[List.all_eq_false]
   exact⟨b,List.mem_of_getElem? iI,by simp[h]⟩
  have hnext:okB b=true->(s.data.toList.take (i+1)).all okB=true:=fun h=>by rw[bB iI,List.all_append,hi.2];simp[h]
  (refine ar<|ah<|an<|aO<|yS<|yP Z<|yA Z<|yU<|yP Z<|yP Z<|yq Z<|aL zI ?_;refine⟨b,⟨by omega,by rw[Int.toNat_natCast];exact hb⟩,?_⟩)
  have rA:=gk ⟨#[95,43,45,35]⟩ b.toNat
  rw[byte_back] at rA
  repeat' first | ((first | (refine aT<|ae<|y0 Z<|y1 Z<|yP Z<|yP Z<|y1 Z<|y1 Z<|y1 Z<|yg Z ?_) | (refine aT<|ae<|y0 Z<|yP Z<|yP Z<|y1 Z<|y1 Z<|y1 Z<|yg Z ?_) | (refine aV<|aN Z Z<|az zI<|yk<|y1 Z<|y1 Z<|yP Z<|yP Z<|yg Z ?_) | (refine aV<|aN Z Z<|az zI<|yk<|y1 Z<|y1 Z<|yg Z ?_) | (refine yk<|yA Z<|yU<|yP Z<|yP Z<|yP Z<|yg Z ?_) | (refine aV<|aN Z Z<|az zI<|yk<|y1 Z<|yP Z<|yP Z<|yg Z ?_) | (refine br Z Z<|ae<|y1 Z<|yP Z<|yT<|ak Z ?_));refine aa (fun h=>?_) (fun h=>?_) <;> try simp only[zB] at h) | ((first | (refine aT<|ae<|y0 Z<|y1 Z<|yP Z<|yP Z<|y1 Z<|y2 Z<|cx Z Z Z<|aL zI ?_) | (refine aV<|aN Z Z<|az zI<|yk<|y2 Z<|cx Z Z Z<|aL zI ?_));refine⟨_,_,rA,?_⟩)
  all_goals (first | (refine aT<|ae<|y0 Z<|y0 Z<|aj Z Z Z Z<|ae<|aj Z Z Z Z<|ae<|y0 Z<|yP Z<|yP Z<|y0 Z<|y0 Z<|y0 Z ?_;refine aj Z Z Z Z<|ae<|aj Z Z Z Z<|ae<|y0 Z<|yP Z<|yP Z<|y0 Z<|y0 Z<|y0 Z<|yP Z<|yT<|ak Z<|bz ?_;refine ar<|aS<|ah<|aP<|yq Z<|bb zI ?_) | (refine aT<|ae<|y0 Z<|y0 Z<|aj Z Z Z Z<|ae<|aj Z Z Z Z<|ae<|y0 Z<|yP Z<|yP Z<|y0 Z<|y0 Z<|y0 Z ?_;refine yP Z<|yT<|ak Z<|bz<|ar<|aS<|ah<|aP<|yq Z<|bb zI ?_) | (refine aT<|ae<|y0 Z<|y0 Z<|yP Z<|yT<|ak Z<|bz<|ar<|aS<|ah<|aP<|yq Z<|bb zI ?_) | (refine yS<|yA Z<|yT<|aA<|aq<|af<|af<|aq<|af<|aB zi ?_) | (refine ar<|aS<|ah<|aP<|yq Z<|bb zI ?_))
  all_goals first
   | (
     refine sI ?_
     (refine yk<|yP Z<|yT<|au ?_;refine⟨(i+1),_,bg.refl _ _,?_⟩)
     exact⟨⟨by omega,hnext (by simp only[okB,Bool.or_eq_true,Bool.and_eq_true,decide_eq_true_eq,Bool.not_eq_true',decide_eq_false_iff_not];omega)⟩,by omega,⟨Z,Z,Z,Y⟩,trivial⟩)
   | (
     refine And.intro ?_ trivial
     rw[pZ (by simp only[okB,Bool.or_eq_false_iff,Bool.and_eq_false_iff,decide_eq_false_iff_not,Bool.not_eq_false',decide_eq_true_eq];omega)]
     rfl)
 have eo:s.data.toList.all okB=true:=by
  have:=hi.2
  rwa [List.take_of_length_le (by omega)] at this
 (refine bF<|aQ<|aQ<|bG<|ah<|yS<|yP Z<|yP Z<|yn Z<|aL zI ?_;refine⟨_,_,(jS s.size 1 40),?_⟩)
 (refine br Z Z<|ae<|yA Z<|yR zi ?_;refine And.intro ?_ trivial)
 rw[cD,eo,Bool.true_and]
 rfl
theorem ly (s:ByteArray) (hs:s.size<=9223372036854775807):aw C 143 [.pv (str s)] (.p (bool (cD s))) []:=by
 refine aE hC Tryz.func143 rfl rfl 44 rfl (by decide) (by kernel_rfl) fun _ _ _ _ _=>?_
 have hsz:s.data.toList.length=s.size:=by simp
 refine yS<|yA Z<|yT<|an<|yS<|yP Z<|yP Z<|yP Z<|yT<|aO ?_
 refine aC (fun i:Nat=>i<=s.size/\(s.data.toList.take i).all okB=true) (fun i=>[(0,.p (str s)),(6,.p (i64 s.size)),(7,.p (i64 i))]) (fun _=>[]) (fun i=>s.size - i) 0 _ (bg.refl _ _) ⟨Nat.zero_le _,by simp⟩ ⟨Z,Z,Z,Y⟩ trivial fun i hi t h=>?_
 (refine yS<|yP Z<|yT<|an<|ak Z ?_;refine aa (fun h1=>?_) (fun h1=>?_) <;> try simp only[zB] at h1)
 ·obtain⟨b,hb,iI⟩:=jz (s:=s) (i:=i) (by omega)
  have pZ:okB b=false->cD s=false:=fun h=>by
   rw[cD,Bool.and_eq_false_iff]
   refine .inl ?_
   rw[List.all_eq_false]
   exact⟨b,List.mem_of_getElem? iI,by simp[h]⟩
  have hnext:okB b=true->(s.data.toList.take (i+1)).all okB=true:=fun h=>by rw[bB iI,List.all_append,hi.2];simp[h]
  (refine ar<|ah<|an<|aO<|yS<|yP Z<|yA Z<|yU<|yP Z<|yP Z<|yq Z<|aL zI ?_;refine⟨b,⟨by omega,by rw[Int.toNat_natCast];exact hb⟩,?_⟩)
  have rA:=gk ⟨#[95,43,45,35]⟩ b.toNat
  rw[byte_back] at rA
  repeat' first | ((first | (refine aT<|ae<|y0 Z<|y1 Z<|yP Z<|yP Z<|y1 Z<|y1 Z<|y1 Z<|yg Z ?_) | (refine aT<|ae<|y0 Z<|yP Z<|yP Z<|y1 Z<|y1 Z<|y1 Z<|yg Z ?_) | (refine aV<|aN Z Z<|az zI<|yk<|y1 Z<|y1 Z<|yP Z<|yP Z<|yg Z ?_) | (refine aV<|aN Z Z<|az zI<|yk<|y1 Z<|y1 Z<|yg Z ?_) | (refine yk<|yA Z<|yU<|yP Z<|yP Z<|yP Z<|yg Z ?_) | (refine aV<|aN Z Z<|az zI<|yk<|y1 Z<|yP Z<|yP Z<|yg Z ?_) | (refine br Z Z<|ae<|y1 Z<|yP Z<|yT<|ak Z ?_));refine aa (fun h=>?_) (fun h=>?_) <;> try simp only[zB] at h) | ((first | (refine aT<|ae<|y0 Z<|y1 Z<|yP Z<|yP Z<|y1 Z<|y2 Z<|cx Z Z Z<|aL zI ?_) | (refine aV<|aN Z Z<|az zI<|yk<|y2 Z<|cx Z Z Z<|aL zI ?_));refine⟨_,_,rA,?_⟩)
  all_goals (first | (refine aT<|ae<|y0 Z<|y0 Z<|aj Z Z Z Z<|ae<|aj Z Z Z Z<|ae<|y0 Z<|yP Z<|yP Z<|y0 Z<|y0 Z<|y0 Z ?_;refine aj Z Z Z Z<|ae<|aj Z Z Z Z<|ae<|y0 Z<|yP Z<|yP Z<|y0 Z<|y0 Z<|y0 Z<|yP Z<|yT<|ak Z<|bz ?_;refine ar<|aS<|ah<|aP<|yq Z<|bb zI ?_) | (refine aT<|ae<|y0 Z<|y0 Z<|aj Z Z Z Z<|ae<|aj Z Z Z Z<|ae<|y0 Z<|yP Z<|yP Z<|y0 Z<|y0 Z<|y0 Z ?_;refine yP Z<|yT<|ak Z<|bz<|ar<|aS<|ah<|aP<|yq Z<|bb zI ?_) | (refine aT<|ae<|y0 Z<|y0 Z<|yP Z<|yT<|ak Z<|bz<|ar<|aS<|ah<|aP<|yq Z<|bb zI ?_) | (refine yS<|yA Z<|yT<|aA<|aq<|af<|af<|aq<|af<|aB zi ?_) | (refine ar<|aS<|ah<|aP<|yq Z<|bb zI ?_))
  all_goals first
   | (
     refine sI ?_
     (refine yk<|yP Z<|yT<|au ?_;refine⟨(i+1),_,bg.refl _ _,?_⟩)
     exact⟨⟨by omega,hnext (by simp only[okB,Bool.or_eq_true,Bool.and_eq_true,decide_eq_true_eq,Bool.not_eq_true',decide_eq_false_iff_not];omega)⟩,by omega,⟨Z,Z,Z,Y⟩,trivial⟩)
   | (
     refine And.intro ?_ trivial
     rw[pZ (by simp only[okB,Bool.or_eq_false_iff,Bool.and_eq_false_iff,decide_eq_false_iff_not,Bool.not_eq_false',decide_eq_true_eq];omega)]
     rfl)
 have eo:s.data.toList.all okB=true:=by
  have:=hi.2
  rwa [List.take_of_length_le (by omega)] at this
 (refine bF<|aQ<|aQ<|bG<|ah<|yS<|yP Z<|yP Z<|yn Z<|aL zI ?_;refine⟨_,_,(e_ s.size 1 40),?_⟩)
 (refine br Z Z<|ae<|yA Z<|yR zi ?_;refine And.intro ?_ trivial)
 rw[cD,eo,Bool.true_and]
 rfl
theorem qN (s:ByteArray) (hs:s.size < 4294967281):aw C 132 [.pv (str s)] (.p (bool (eT s))) []:=by
 refine aE hC Tryz.func132 rfl rfl 19 rfl (by decide) (by kernel_rfl) fun _ _ _ _ _=>?_
 have lm:=aJ (parts s) fun s=>[str s]
 have pl:=my s
 (refine yS<|yA Z<|yT<|an<|yS<|yP Z<|yn Z<|aL zI ?_;refine⟨_,_,(nk s hs),?_⟩)
 refine aR<|aG<|yP Z<|yP Z<|yT<|aO ?_
 refine aC (fun i:Nat=>i<=(parts s).length/\((parts s).take i).all cD=true) (fun i=>[(0,.p (str s)),(6,.p (strs (parts s))),(7,.p (i64 (parts s).length)),(8,.p (i64 i))]) (fun _=>[]) (fun i=>(parts s).length - i) 0 _ (bg.own hC _ 6 rfl rfl) ⟨Nat.zero_le _,by simp⟩ ⟨rfl,rfl,congrArg (fun n:Nat=>AV.p (i64 n)) lm,Z,Y⟩ trivial fun i hi t h=>?_
 (refine yS<|yP Z<|yT<|an<|ak Z ?_;refine aa (fun h1=>?_) (fun h1=>?_) <;> try simp only[zB] at h1)
 ·obtain⟨x,hx⟩:=aH (l:=parts s) (i:=i) (by omega)
  have qp:=jQ _ _ _ x (List.mem_of_getElem? hx)
  (refine ar<|ah<|an<|aO<|yS<|yq Z<|aL zI ?_;refine⟨[str x],(idx rfl hx),?_⟩)
  (refine yk<|yP Z<|yA Z<|yU<|yP Z<|yn Z<|aL zI ?_;refine⟨_,_,(mC x (by omega)),?_⟩)
  (refine br Z Z<|ae<|yP Z<|yT<|ak Z ?_;refine aa (fun h2=>?_) (fun h2=>?_) <;> try simp only[zB] at h2)
  ·(refine yS<|yA Z<|yT<|aA<|aq<|af<|af<|aq<|af<|aB zi ?_;refine And.intro ?_ trivial)
   rw[show eT s=false from ?_]
   ·rfl
   rw[eT,Bool.and_eq_false_iff,List.all_eq_false]
   exact .inl ⟨x,List.mem_of_getElem? hx,by simp[h2]⟩
  (refine ar<|aS<|ah<|aP<|yq Z<|bb zI ?_;refine sI ?_)
  (refine yk<|yP Z<|yT<|au ?_;refine⟨(i+1),_,bg.refl _ _,?_⟩)
  refine⟨⟨by omega,?_⟩,by omega,⟨Z,Z,Z,Z,Y⟩,trivial⟩
  rw[bB hx,List.all_append,hi.2]
  simp[h2]
 (refine bF<|aQ<|aQ<|bG<|ah<|yS<|yP Z<|yP Z<|yP Z<|yA Z<|yR zi ?_;refine And.intro ?_ trivial)
 have eo:=hi.2
 rw[List.take_of_length_le (by omega)] at eo
 rw[eT,eo,Bool.true_and]
 rfl
theorem wu (s:ByteArray) (hs:s.size < 4294967281):aw C 145 [.pv (str s)] (.p (bool (eT s))) []:=by
 refine aE hC Tryz.func145 rfl rfl 19 rfl (by decide) (by kernel_rfl) fun _ _ _ _ _=>?_
 have lm:=aJ (parts s) fun s=>[str s]
 have pl:=my s
 (refine yS<|yA Z<|yT<|an<|yS<|yP Z<|yn Z<|aL zI ?_;refine⟨_,_,(nk s hs),?_⟩)
 refine aR<|aG<|yP Z<|yP Z<|yT<|aO ?_
 refine aC (fun i:Nat=>i<=(parts s).length/\((parts s).take i).all cD=true) (fun i=>[(0,.p (str s)),(6,.p (strs (parts s))),(7,.p (i64 (parts s).length)),(8,.p (i64 i))]) (fun _=>[]) (fun i=>(parts s).length - i) 0 _ (bg.own hC _ 6 rfl rfl) ⟨Nat.zero_le _,by simp⟩ ⟨rfl,rfl,congrArg (fun n:Nat=>AV.p (i64 n)) lm,Z,Y⟩ trivial fun i hi t h=>?_
 (refine yS<|yP Z<|yT<|an<|ak Z ?_;refine aa (fun h1=>?_) (fun h1=>?_) <;> try simp only[zB] at h1)
 ·obtain⟨x,hx⟩:=aH (l:=parts s) (i:=i) (by omega)
  have qp:=jQ _ _ _ x (List.mem_of_getElem? hx)
  (refine ar<|ah<|an<|aO<|yS<|yq Z<|aL zI ?_;refine⟨[str x],(idx rfl hx),?_⟩)
  (refine yk<|yP Z<|yA Z<|yU<|yP Z<|yn Z<|aL zI ?_;refine⟨_,_,(ly x (by omega)),?_⟩)
  (refine br Z Z<|ae<|yP Z<|yT<|ak Z ?_;refine aa (fun h2=>?_) (fun h2=>?_) <;> try simp only[zB] at h2)
  ·(refine yS<|yA Z<|yT<|aA<|aq<|af<|af<|aq<|af<|aB zi ?_;refine And.intro ?_ trivial)
   rw[show eT s=false from ?_]
   ·rfl
   rw[eT,Bool.and_eq_false_iff,List.all_eq_false]
   exact .inl ⟨x,List.mem_of_getElem? hx,by simp[h2]⟩
  (refine ar<|aS<|ah<|aP<|yq Z<|bb zI ?_;refine sI ?_)
  (refine yk<|yP Z<|yT<|au ?_;refine⟨(i+1),_,bg.refl _ _,?_⟩)
  refine⟨⟨by omega,?_⟩,by omega,⟨Z,Z,Z,Z,Y⟩,trivial⟩
  rw[bB hx,List.all_append,hi.2]
  simp[h2]
 (refine bF<|aQ<|aQ<|bG<|ah<|yS<|yP Z<|yP Z<|yP Z<|yA Z<|yR zi ?_;refine And.intro ?_ trivial)
 have eo:=hi.2
 rw[List.take_of_length_le (by omega)] at eo
 rw[eT,eo,Bool.true_and]
 rfl
def z8 (b:UInt8):Bool:=(decide ((97:Int)<=b.toNat) && decide ((b.toNat:Int)<=122)) || (decide ((65:Int)<=b.toNat) && decide ((b.toNat:Int)<=90))
def z_ (b:UInt8):Bool:=decide ((b.toNat:Int)=95) || decide ((b.toNat:Int)=45) || (decide ((48:Int)<=b.toNat) && decide ((b.toNat:Int)<=57))
def ov (s:ByteArray) (i:Nat):Bool:=match s.data.toList[i]? with
 | some b=>z8 b || (decide (0 < i) && z_ b)
 | none=>true
def mD (f:Nat->Bool):Nat->Bool
 | 0=>true
 | n+1=>mD f n && f n
theorem mE {f:Nat->Bool} {i:Nat} (h:f i=false):∀{n:Nat},i < n->mD f n=false
 | 0,hn=>by omega
 | n+1,hn=>by
  rw[mD]
  by_cases e:i=n
  ·subst e;rw[h,Bool.and_false]
  rw[mE h (by omega:i < n),Bool.false_and]
def ph (s:ByteArray):Bool:=mD (ov s) s.size && er s.size 1 40
theorem xX (s:ByteArray) (hs:s.size<=9223372036854775807):aw C 187 [.pv (str s)] (.p (bool (ph s))) []:=by
 refine aE hC Tryz.func187 rfl rfl 59 rfl (by decide) (by kernel_rfl) fun _ _ _ _ _=>?_
 refine yS<|yA Z<|yT<|an<|yS<|yP Z<|yP Z<|yP Z<|yT<|aO ?_
 refine aC (fun i:Nat=>i<=s.size/\mD (ov s) i=true) (fun i=>[(0,.p (str s)),(7,.p (i64 s.size)),(8,.p (i64 i))]) (fun _=>[]) (fun i=>s.size - i) 0 _ (bg.refl _ _) ⟨Nat.zero_le _,rfl⟩ ⟨Z,Z,Z,Y⟩ trivial fun i hi t h=>?_
 (refine yS<|yP Z<|yT<|an<|ak Z ?_;refine aa (fun h1=>?_) (fun h1=>?_) <;> try simp only[zB] at h1)
 ·obtain⟨b,hb,iI⟩:=jz (s:=s) (i:=i) (by omega)
  have e0:ov s i=(z8 b || (decide (0 < i) && z_ b)):=by rw[ov,iI]
  have pZ:ov s i=false->ph s=false:=fun h=>by rw[ph,mE h (by omega),Bool.false_and]
  have hnext:ov s i=true->mD (ov s) (i+1)=true:=fun h=>by rw[mD,hi.2,h];rfl
  (refine ar<|ah<|an<|aO<|yS<|yP Z<|yA Z<|yU<|yP Z<|yP Z<|yq Z<|aL zI ?_;refine⟨b,⟨by omega,by rw[Int.toNat_natCast];exact hb⟩,?_⟩)
  repeat' ((first | (refine aT<|ae<|y0 Z<|y1 Z<|yP Z<|yA Z<|yU<|yP Z<|yP Z<|yP Z<|y1 Z<|y1 Z<|y1 Z<|yg Z ?_) | (refine aT<|ae<|y0 Z<|y1 Z<|y1 Z<|y1 Z<|y1 Z<|y1 Z<|y1 Z<|yg Z ?_) | (refine aV<|aN Z Z<|az zI<|yk<|y1 Z<|y1 Z<|yP Z<|yA Z<|yU<|yP Z<|yP Z<|yP Z<|yg Z ?_) | (refine aV<|aN Z Z<|az zI<|yk<|y1 Z<|y1 Z<|y1 Z<|yP Z<|yT<|ak Z ?_) | (refine aT<|ae<|y0 Z<|yP Z<|yP Z<|y1 Z<|y1 Z<|y1 Z<|yg Z ?_) | (refine aV<|aN Z Z<|az zI<|yk<|y1 Z<|y1 Z<|y1 Z<|yg Z ?_) | (refine aV<|aN Z Z<|az zI<|yk<|y1 Z<|y1 Z<|yg Z ?_) | (refine yk<|yA Z<|yU<|yP Z<|yP Z<|yP Z<|yg Z ?_) | (refine aV<|aN Z Z<|az zI<|yk<|y1 Z<|yP Z<|yP Z<|yg Z ?_));refine aa (fun h=>?_) (fun h=>?_) <;> try simp only[zB] at h)
  all_goals (first | (refine aT<|ae<|y0 Z<|y0 Z<|aj Z Z Z Z<|ae<|aj Z Z Z Z<|ae<|y0 Z<|yP Z<|yA Z<|yU<|yP Z<|yP Z ?_;refine yP Z<|y0 Z<|y0 Z<|y0 Z<|aj Z Z Z Z<|ae<|aj Z Z Z Z<|ae<|aj Z Z Z Z<|ae<|aj Z Z Z Z<|ae<|aj Z Z Z Z<|ae ?_;refine aj Z Z Z Z<|ae<|aj Z Z Z Z<|ae<|aj Z Z Z Z<|ae<|aj Z Z Z Z<|ae<|aj Z Z Z Z<|ae<|aj Z Z Z Z<|ae<|aj Z Z Z Z<|ae ?_;refine aj Z Z Z Z<|ae<|aj Z Z Z Z<|ae<|y0 Z<|yP Z<|yT<|ak Z<|bz<|ar<|aS<|ah<|aP<|yq Z ?_;refine bb zI ?_) | (refine aT<|ae<|y0 Z<|y0 Z<|aj Z Z Z Z<|ae<|aj Z Z Z Z<|ae<|y0 Z<|y0 Z<|aj Z Z Z Z<|ae<|aj Z Z Z Z<|ae ?_;refine y0 Z<|y0 Z<|aj Z Z Z Z<|ae<|aj Z Z Z Z<|ae<|y0 Z<|y1 Z<|yP Z<|yT<|ak Z<|cu<|yS<|yA Z ?_;refine yT<|aA<|aq<|af<|af<|aq<|af<|aB zi ?_) | (refine aT<|ae<|y0 Z<|y0 Z<|aj Z Z Z Z<|ae<|aj Z Z Z Z<|ae<|aj Z Z Z Z<|ae<|aj Z Z Z Z<|ae<|aj Z Z Z Z<|ae ?_;refine aj Z Z Z Z<|ae<|aj Z Z Z Z<|ae<|aj Z Z Z Z<|ae<|aj Z Z Z Z<|ae<|aj Z Z Z Z<|ae<|aj Z Z Z Z<|ae<|aj Z Z Z Z<|ae ?_;refine aj Z Z Z Z<|ae<|aj Z Z Z Z<|ae<|y0 Z<|yP Z<|yT<|ak Z<|bz<|ar<|aS<|ah<|aP<|yq Z ?_;refine bb zI ?_) | (refine aT<|ae<|y0 Z<|y1 Z<|y1 Z<|y0 Z<|y0 Z<|y1 Z<|y1 Z<|yP Z<|yT<|ak Z<|bz<|ar ?_;refine aS<|ah<|aP<|yq Z<|bb zI ?_) | (refine aT<|ae<|y0 Z<|y1 Z<|y1 Z<|yP Z<|yT<|ak Z<|bz<|ar<|aS<|ah<|aP<|yq Z ?_;refine bb zI ?_) | (refine yS<|yA Z<|yT<|aA<|aq<|af<|af<|aq<|af<|aB zi ?_) | (refine ar<|aS<|ah<|aP<|yq Z<|bb zI ?_))
  all_goals first
   | (
     refine sI ?_
     (refine yk<|yP Z<|yT<|au ?_;refine⟨(i+1),_,bg.refl _ _,?_⟩)
     exact⟨⟨by omega,hnext (by rw[e0];simp only[z8,z_,Bool.or_eq_true,Bool.and_eq_true,decide_eq_true_eq];omega)⟩,by omega,⟨Z,Z,Z,Y⟩,trivial⟩)
   | (
     refine And.intro ?_ trivial
     rw[pZ (by rw[e0];simp only[z8,z_,Bool.or_eq_false_iff,Bool.and_eq_false_iff,decide_eq_false_iff_not];omega)]
     rfl)
 have e1:i=s.size:=by omega
 have eo:mD (ov s) s.size=true:=by rw[<-e1];exact hi.2
 (refine bF<|aQ<|aQ<|bG<|ah<|yS<|yP Z<|yP Z<|yP Z<|yP Z<|yg Z ?_;refine aa (fun h2=>?_) (fun h2=>?_) <;> try simp only[zB] at h2) <;> ((first | (refine aV<|aN Z Z<|az zI<|yk<|y1 Z<|y1 Z<|yP Z<|yA Z<|yR zi ?_) | (refine aT<|ae<|y0 Z<|y0 Z<|yP Z<|yA Z<|yR zi ?_));refine And.intro ?_ trivial) <;> simp[bool,ph,er,eo,h2]
theorem xY (s:ByteArray) (hs:s.size<=9223372036854775807):aw C 57 [.pv (str s)] (.p (bool (ph s))) []:=by
 refine aE hC Tryz.func57 rfl rfl 55 rfl (by decide) (by kernel_rfl) fun _ _ _ _ _=>?_
 refine yS<|yA Z<|yT<|an<|yS<|yA Z<|yT<|aO ?_
 refine aC (fun i:Nat=>i<=s.size/\mD (ov s) i=true) (fun i=>[(0,.p (str s)),(3,.p (i64 i))]) (fun _=>[]) (fun i=>s.size - i) 0 _ (bg.refl _ _) ⟨Nat.zero_le _,rfl⟩ ⟨Z,Z,Y⟩ trivial fun i hi t h=>?_
 (refine an<|yS<|yP Z<|yP Z<|yP Z<|yP Z<|yT<|ak Z ?_;refine aa (fun h1=>?_) (fun h1=>?_) <;> try simp only[zB] at h1)
 ·obtain⟨b,hb,iI⟩:=jz (s:=s) (i:=i) (by omega)
  have e0:ov s i=(z8 b || (decide (0 < i) && z_ b)):=by rw[ov,iI]
  have pZ:ov s i=false->ph s=false:=fun h=>by rw[ph,mE h (by omega),Bool.false_and]
  have hnext:ov s i=true->mD (ov s) (i+1)=true:=fun h=>by rw[mD,hi.2,h];rfl
  (refine ar<|ah<|an<|aO<|yS<|yP Z<|yP Z<|yq Z<|aL zI ?_;refine⟨b,⟨by omega,by rw[Int.toNat_natCast];exact hb⟩,?_⟩)
  repeat' ((first | (refine aT<|ae<|y0 Z<|y1 Z<|yP Z<|yA Z<|yU<|yP Z<|yP Z<|yP Z<|y1 Z<|y1 Z<|y1 Z<|yg Z ?_) | (refine aV<|aN Z Z<|az zI<|yk<|y1 Z<|y1 Z<|y1 Z<|y1 Z<|y1 Z<|yP Z<|yT<|ak Z ?_) | (refine aV<|aN Z Z<|az zI<|yk<|y1 Z<|y1 Z<|yP Z<|yA Z<|yU<|yP Z<|yP Z<|yP Z<|yg Z ?_) | (refine aT<|ae<|y0 Z<|yP Z<|yP Z<|y1 Z<|y1 Z<|y1 Z<|yg Z ?_) | (refine aV<|aN Z Z<|az zI<|yk<|y1 Z<|y1 Z<|y1 Z<|yg Z ?_) | (refine aV<|aN Z Z<|az zI<|yk<|y1 Z<|y1 Z<|yg Z ?_) | (refine yk<|yA Z<|yU<|yP Z<|yP Z<|yP Z<|yg Z ?_) | (refine aV<|aN Z Z<|az zI<|yk<|y1 Z<|yP Z<|yP Z<|yg Z ?_));refine aa (fun h=>?_) (fun h=>?_) <;> try simp only[zB] at h)
  all_goals (first | (refine aT<|ae<|y0 Z<|y0 Z<|aj Z Z Z Z<|ae<|aj Z Z Z Z<|ae<|y0 Z<|yP Z<|yA Z<|yU<|yP Z<|yP Z ?_;refine yP Z<|y0 Z<|y0 Z<|y0 Z<|aj Z Z Z Z<|ae<|aj Z Z Z Z<|ae<|aj Z Z Z Z<|ae<|aj Z Z Z Z<|ae<|aj Z Z Z Z<|ae ?_;refine aj Z Z Z Z<|ae<|aj Z Z Z Z<|ae<|aj Z Z Z Z<|ae<|aj Z Z Z Z<|ae<|aj Z Z Z Z<|ae<|aj Z Z Z Z<|ae<|aj Z Z Z Z<|ae ?_;refine aj Z Z Z Z<|ae<|aj Z Z Z Z<|ae<|aj Z Z Z Z<|ae<|y0 Z<|yP Z<|yT<|ak Z<|bz<|ar<|aS<|ah ?_;refine aP<|yP Z<|yq Z<|bb zI ?_) | (refine aT<|ae<|y0 Z<|y0 Z<|aj Z Z Z Z<|ae<|aj Z Z Z Z<|ae<|y0 Z<|y0 Z<|aj Z Z Z Z<|ae<|aj Z Z Z Z<|ae ?_;refine aj Z Z Z Z<|ae<|aj Z Z Z Z<|ae<|aj Z Z Z Z<|ae<|aj Z Z Z Z<|ae<|aj Z Z Z Z<|ae<|y0 Z<|y1 Z<|yP Z<|yT ?_;refine ak Z<|cu<|yS<|yA Z<|yT<|aA<|aq<|af<|af<|aq<|af<|aB zi ?_) | (refine aT<|ae<|y0 Z<|y1 Z<|y1 Z<|y0 Z<|y0 Z<|y0 Z<|aj Z Z Z Z<|ae<|aj Z Z Z Z<|ae<|y0 Z<|y0 Z ?_;refine y1 Z<|y1 Z<|yP Z<|yT<|ak Z<|bz<|ar<|aS<|ah<|aP<|yP Z<|yq Z<|bb zI ?_) | (refine aT<|ae<|y0 Z<|y0 Z<|aj Z Z Z Z<|ae<|aj Z Z Z Z<|ae<|aj Z Z Z Z<|ae<|aj Z Z Z Z<|ae<|aj Z Z Z Z<|ae ?_;refine aj Z Z Z Z<|ae<|aj Z Z Z Z<|ae<|aj Z Z Z Z<|ae<|aj Z Z Z Z<|ae<|aj Z Z Z Z<|ae<|aj Z Z Z Z<|ae<|aj Z Z Z Z<|ae ?_;refine aj Z Z Z Z<|ae<|aj Z Z Z Z<|ae<|aj Z Z Z Z<|ae<|y0 Z<|yP Z<|yT<|ak Z<|bz<|ar<|aS<|ah ?_;refine aP<|yP Z<|yq Z<|bb zI ?_) | (refine aT<|ae<|y0 Z<|y1 Z<|y1 Z<|y1 Z<|y1 Z<|yP Z<|yT<|ak Z<|cu<|yS<|yA Z<|yT ?_;refine aA<|aq<|af<|af<|aq<|af<|aB zi ?_) | (refine aT<|ae<|y0 Z<|y0 Z<|aj Z Z Z Z<|ae<|aj Z Z Z Z<|ae<|y0 Z<|y0 Z<|y1 Z<|y1 Z<|yP Z<|yT ?_;refine ak Z<|bz<|ar<|aS<|ah<|aP<|yP Z<|yq Z<|bb zI ?_) | (refine yS<|yA Z<|yT<|aA<|aq<|af<|af<|aq<|af<|aB zi ?_) | (refine ar<|aS<|ah<|aP<|yP Z<|yq Z<|bb zI ?_))
  all_goals first
   | (
     refine sI ?_
     (refine yk<|yA Z<|yT<|au ?_;refine⟨(i+1),_,bg.refl _ _,?_⟩)
     exact⟨⟨by omega,hnext (by rw[e0];simp only[z8,z_,Bool.or_eq_true,Bool.and_eq_true,decide_eq_true_eq];omega)⟩,by omega,⟨Z,Z,Y⟩,trivial⟩)
   | (
     refine And.intro ?_ trivial
     rw[pZ (by rw[e0];simp only[z8,z_,Bool.or_eq_false_iff,Bool.and_eq_false_iff,decide_eq_false_iff_not];omega)]
     rfl)
 have e1:i=s.size:=by omega
 have eo:mD (ov s) s.size=true:=by rw[<-e1];exact hi.2
 (refine bF<|aQ<|aQ<|bG<|ah<|yS<|yP Z<|yP Z<|yn Z<|aL zI ?_;refine⟨_,_,(eY s.size 1 40),?_⟩)
 (refine br Z Z<|ae<|yA Z<|yR zi ?_;refine And.intro ?_ trivial)
 rw[ph,eo,Bool.true_and]
end M
end Go.Proofs.YtiaifckpmefinaaGreatDoor
