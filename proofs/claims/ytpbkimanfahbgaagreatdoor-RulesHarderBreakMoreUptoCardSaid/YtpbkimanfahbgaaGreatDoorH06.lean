/- Part 6 of 14 of the proof of RulesHarderBreakMore (the names are shortened by a program: the size of a claim is limited). -/
import Derived.Test.YtpbkimanfahbgaaGreatDoorH05
import Derived.Sort.Walk0
import Derived.Test.YtpbkimanfahbgaaGreatDoorCards
import Derived.Test.YtpbkimanfahbgaaGreatDoorTie
import Derived.WalkKit
import Derived.ProofKit
import Derived.OpenShut
import Derived.Deep.DeepHandedRow
import Derived.Lib.LaidTab
import Derived.LaidMore
import Derived.Lay
import Derived.Stop.Joined
import Derived.Stop.LaidErr
import Derived.MakeChecks
import Derived.Deep.Fields
import Derived.Carry
set_option linter.unusedVariables false
set_option linter.unusedSimpArgs false
set_option maxRecDepth 100000
set_option maxHeartbeats 8000000
namespace Go.Proofs.YtpbkimanfahbgaaGreatDoor
namespace M
open Go.AM Go.RowKit Go.Lib
open Reg (aB bC ax)
theorem JW {r:aB} (h:Reg.eM r=true/\r.x0 < r.x1/\r.y0 < r.y1):Good r:=by
 obtain⟨h1,h2,h3⟩:=h
 simp only[Reg.eM,Reg.lK,Bool.and_eq_true,decide_eq_true_eq] at h1
 exact⟨⟨by omega,by omega,by omega,by omega⟩,h2,h3⟩
theorem y8 (l:List aB) (hN:l.length<=400000):(Reg.a_ l).length<=1000000/\∀t∈Reg.a_ l,t.xs.length<=1000000:=by
 have h1:=nY l (Reg.b_ l) ((Reg.b_ l).length - 1)
 have h2:=jZ l
 exact⟨by unfold Reg.a_;omega,fun t ht=>by have:=CT l (Reg.b_ l) _ t ht;omega⟩
theorem dt (l:List aB):aD C 41 [.pv (aV l)] (.p (i64 (Reg.aH l))) []:=by
 refine aT hC Tryz.func41 rfl rfl 52 rfl (by decide) (by kernel_rfl) fun _ _ _ _ _=>?_
 have lm:=aN l rc
 (refine yS<|yA Z<|yT<|au<|yS<|yP Z<|yn Z<|aK zI ?_;refine⟨_,_,(rZ l),?_⟩)
 (refine b9 Z Z<|ae<|yA Z<|yU<|yP Z<|yP Z<|yT<|az Z ?_;refine aa (fun h0=>?_) (fun h0=>?_) <;> try simp only[zB] at h0)
 ·(refine yS<|yP Z<|yA Z<|yT<|bP<|aX<|bQ zi ?_;refine And.intro ?_ trivial)
  rw[Reg.aH,if_neg h0]
 have h0:Reg.dh l=0:=by simpa using h0
 obtain⟨hl,hg⟩:=Reg.jY h0
 have hc:Reg.aH l=(if Reg.ordered l=true then (if Reg.jJ l=l then 0 else 3) else 8):=by rw[Reg.aH,if_pos h0]
 obtain⟨bl,bx⟩:=y8 l (by omega)
 refine aJ<|aj<|au<|yS<|yA Z<|yT<|aZ ?_
 refine nj (fun _:Unit=>Reg.ordered l=true) (fun _=>[(0,.p (aV l))]) (fun _=>[]) (fun _ hO t h=>?_) ?_
 ·rw[if_pos hO] at hc
  (refine aj<|au<|yS<|yP Z<|yn Z<|aK zI ?_;refine⟨_,_,(AX l (fun r hr=>JW (hg r hr)) (by omega)),?_⟩)
  (refine aS<|af<|yn Z<|aK zI ?_;refine⟨_,_,(AL (Reg.a_ l) bl bx),?_⟩)
  (refine aS<|aF<|af<|yP Z<|yn Z<|aK zI ?_;refine⟨_,_,(AJ (Reg.told (Reg.a_ l)) l (by
   have:=sZ (Reg.a_ l) bx
   have:(Reg.a_ l).length*1000000<=1000000*1000000:=Nat.mul_le_mul_right _ bl
   omega)),?_⟩)
  (refine b9 Z Z<|ae<|yP Z<|yT<|az Z ?_;refine aa (fun h2=>?_) (fun h2=>?_) <;> try simp only[zB] at h2)
  ·(refine yS<|yA Z<|yT<|bP<|aX<|bQ zi ?_;refine And.intro ?_ trivial)
   rw[hc,if_neg (show ¬Reg.jJ l=l from h2)];rfl
  (refine aJ<|aj<|yS<|yA Z<|yR zi ?_;refine And.intro ?_ trivial)
  rw[hc,if_pos (show Reg.jJ l=l from h2)];rfl
 refine aI (fun i:Nat=>∀(j:Nat) a b,j < i->l[j]?=some a->l[j+1]?=some b->Reg.before a b=true) (fun i=>[(0,.p (aV l)),(4,.p (i64 ((i:Int)+1)))]) (fun _=>[]) (fun i=>l.length - i) 0 _ (aW.refl _ _) (fun j a b h=>by omega) ⟨Z,Z,Y⟩ trivial fun i hi t h=>?_
 (refine au<|yS<|yP Z<|yP Z<|yP Z<|yP Z<|yT<|az Z ?_;refine aa (fun h1=>?_) (fun h1=>?_) <;> try simp only[zB] at h1)
 ·rw[lm] at h1
  obtain⟨a,ha⟩:=bh (l:=l) (i:=i) (by omega)
  obtain⟨b,hb⟩:=bh (l:=l) (i:=i+1) (by omega)
  have stop:¬Reg.before a b=true->Reg.aH l=8:=fun hn=>by
   rw[hc,if_neg]
   rw[wC ha hb (by simpa using hn)];decide
  have cont:Reg.before a b=true->∀(j:Nat) x y,j < i+1->l[j]?=some x->l[j+1]?=some y->Reg.before x y=true:=fun hy j x y hj hx lC=>by
   by_cases e:j=i
   ·subst e
    rw[ha] at hx;injection hx with hx;rw[hb] at lC;injection lC with lC
    rw[<-hx,<-lC];exact hy
   exact hi j x y (by omega) hx lC
  ((refine aJ (aj (au (aZ (au (cH [] false [true,true,true,true,true,true,true,false,false,true,true,false,true] rfl (by kernel_rfl) (ay Z (ay Z (ay Z (ay Z (ay Z (ay Z (ay Z (ay Z ?_)))))))))))));refine ay Z<|cA Z Z<|cA Z Z<|cG Z<|yD Z<|yD Z<|dq Z<|bg zI ?_);refine sI ?_)
  (refine bB<|ae<|dq Z<|aK zI ?_;refine⟨(rc a),(idx (show ((i:Int)+1) - 1=(i:Nat) by omega) ha),?_⟩)
  (refine bB<|ae<|yD Z<|yD Z<|yD Z<|dq Z<|aK zI ?_;refine⟨(rc b),(idx (show ((i:Int)+1)=((i+1:Nat):Int) by omega) hb),?_⟩)
  ((refine bB<|ae<|yD Z<|dq Z<|aA zI<|jA Z Z<|ak<|dq Z<|aA zI<|jA Z Z<|ak<|dq Z<|aA zI<|iG Z ?_;refine aF<|an<|dq Z<|aA zI<|iG Z<|aF<|an<|cn<|fo Z<|aj<|yS<|yV Z<|yP Z<|yV Z ?_;refine yP Z<|yP Z<|yP Z<|yg Z ?_);refine aa (fun g1=>?_) (fun g1=>?_) <;> try simp only[zB] at g1)
  ·((refine cB<|ae<|y0 Z<|y0 Z<|y0 Z<|y0 Z<|y0 Z<|a8 Z Z Z Z<|ae<|a8 Z Z Z Z<|ae<|a8 Z Z Z Z<|ae<|a8 Z Z Z Z ?_;refine ae<|a8 Z Z Z Z<|ae<|y0 Z<|yP Z<|yT<|az Z<|fy<|yS<|yA Z<|yT<|bP<|bW<|aX ?_;refine aX<|bW<|aX<|aX<|bQ zi ?_);refine And.intro ?_ trivial)
   rw[stop (by simp[Reg.before];omega)];rfl
  ((refine bS<|bA Z Z<|aA zI<|bd<|ak<|y1 Z<|y2 Z<|bA Z Z<|aA zI<|bd<|ak<|y1 Z<|y1 Z<|y1 Z ?_;refine yg Z ?_);refine aa (fun g2=>?_) (fun g2=>?_) <;> try simp only[zB] at g2)
  ·((refine bS<|bA Z Z<|aA zI<|bd<|ak<|y1 Z<|y2 Z<|bA Z Z<|aA zI<|bd<|ak<|y1 Z<|y1 Z<|y1 Z ?_;refine yP Z<|yT<|az Z ?_);refine aa (fun g3=>?_) (fun g3=>?_) <;> try simp only[zB] at g3)
   ·(refine yS<|yA Z<|yT<|bP<|bW<|aX<|aX<|bW<|aX<|aX<|bQ zi ?_;refine And.intro ?_ trivial)
    rw[stop (by simp[Reg.before];omega)];rfl
   (refine aJ<|bp<|aj<|aM<|yP Z<|yq Z<|bg zI ?_;refine sI ?_)
   (refine yk<|yA Z<|yT<|ai ?_;refine⟨(i+1),_,aW.refl _ _,?_⟩)
   exact⟨cont (by simp[Reg.before];omega),by omega,⟨rfl,cd (by omega),trivial⟩,trivial⟩
  ((refine cB<|ae<|y0 Z<|y0 Z<|y0 Z<|y0 Z<|y1 Z<|yP Z<|yT<|az Z<|cM<|aJ<|bp<|aj ?_;refine aM<|yP Z<|yq Z<|bg zI ?_);refine sI ?_)
  (refine yk<|yA Z<|yT<|ai ?_;refine⟨(i+1),_,aW.refl _ _,?_⟩)
  exact⟨cont (by simp[Reg.before];omega),by omega,⟨rfl,cd (by omega),trivial⟩,trivial⟩
 rw[lm] at h1
 refine bT<|aY<|aY<|bU<|aj<|ai<|zX zi ?_
 refine⟨(),yJ fun j a b ha hb=>hi j a b ?_ ha hb,⟨Z,Y⟩,trivial⟩
 have:=(List.getElem?_eq_some_iff.1 hb).1
 omega
structure Class where
 name:ByteArray
 nets:List ByteArray
 clearance:Int
 width:Int
structure kd where
 layer:Int
 region:List aB
 clearance:Int
structure bR where
 clearance:Int
 width:Int
 ring:Int
 edge:Int
 holeGap:Int
 classes:List Class
 areas:List kd
def kl (c:Class):List PV:=[str c.name,strs c.nets,i64 c.clearance,i64 c.width]
def arr (a:kd):List PV:=[i64 a.layer,aV a.region,i64 a.clearance]
def rl (r:bR):List PV:=[i64 r.clearance,i64 r.width,i64 r.ring,i64 r.edge,i64 r.holeGap,.sl (r.classes.map kl),.sl (r.areas.map arr)]
def HY (x y:Int) (r:aB):Bool:=((decide (r.x0<=x) && decide (x < r.x1)) && decide (r.y0<=y)) && decide (y < r.y1)
theorem AY (r:aB) (x y:Int):aD C 137 [.pv (.ag (rc r)),.pv (.ip [i64 x,i64 y])] (.p (bool (HY x y r))) []:=by
 refine aT hC Tryz.func137 rfl rfl 30 rfl (by decide) (by kernel_rfl) fun _ _ _ _ _=>?_
 (refine yS<|yn Z<|aA zI<|aS<|ak<|yA Z<|yU<|yP Z<|yP Z<|yV Z<|yP Z<|yP Z<|yP Z<|yg Z ?_;refine aa (fun h1=>?_) (fun h1=>?_) <;> try simp only[zB] at h1)
 ·((refine bS<|bA Z Z<|aA zI<|yk<|y1 Z<|y2 Z<|bA Z Z<|aA zI<|bd<|ak<|y1 Z<|y1 Z<|yP Z<|yP Z ?_;refine yg Z ?_);refine aa (fun h2=>?_) (fun h2=>?_) <;> try simp only[zB] at h2)
  ·((refine bS<|bA Z Z<|aA zI<|yk<|y1 Z<|y2 Z<|bA Z Z<|aA zI<|bd<|ak<|y1 Z<|y1 Z<|yP Z<|yP Z ?_;refine yg Z ?_);refine aa (fun h3=>?_) (fun h3=>?_) <;> try simp only[zB] at h3)
   ·((refine bS<|bA Z Z<|aA zI<|yk<|y1 Z<|y2 Z<|bA Z Z<|aA zI<|bd<|ak<|y1 Z<|y1 Z<|yP Z<|yA Z ?_;refine yR zi ?_);refine And.intro ?_ trivial)
    simp[bool,HY,h1,h2,h3]
   (refine cB<|ae<|y0 Z<|y0 Z<|y0 Z<|y0 Z<|yP Z<|yA Z<|yR zi ?_;refine And.intro ?_ trivial)
   simp[bool,HY,h1,h2,h3]
  (refine cB<|ae<|y0 Z<|y0 Z<|y0 Z<|y0 Z<|yP Z<|yP Z<|y0 Z<|y0 Z<|y0 Z<|y0 Z<|y0 Z<|yP Z ?_;refine yA Z<|yR zi ?_)
  (skip;refine And.intro ?_ trivial)
  simp[bool,HY,h1,h2]
 (refine cB<|ae<|y0 Z<|y0 Z<|y0 Z<|y0 Z<|yP Z<|yP Z<|y0 Z<|y0 Z<|y0 Z<|y0 Z<|y0 Z<|yP Z ?_;refine yP Z<|y0 Z<|y0 Z<|y0 Z<|y0 Z<|y0 Z<|yP Z<|yA Z<|yR zi ?_)
 (skip;refine And.intro ?_ trivial)
 simp[bool,HY,h1]
theorem AZ (l:List aB) (hN:l.length<=140737488355328) (x y:Int):aD C 129 [.pv (aV l),.pv (.fn 137 [.ip [i64 x,i64 y]])] (.p (i64 (hY (HY x y) l 0))) []:=by
 refine aT hC Tryz.func129 rfl rfl 19 rfl (by decide) (by kernel_rfl) fun _ _ _ _ _=>?_
 have lm:=aN l rc
 refine yS<|yA Z<|yT<|au<|yS<|yP Z<|yP Z<|yP Z<|yT<|aZ ?_
 refine aI (fun i:Nat=>i<=l.length/\∀z∈l.take i,HY x y z=false) (fun i=>[(0,.p (aV l)),(1,.p (.fn 137 [.ip [i64 x,i64 y]])),(7,.p (i64 (l.map rc).length)),(8,.p (i64 i))]) (fun _=>[]) (fun i=>l.length - i) 0 _ (aW.refl _ _) ⟨Nat.zero_le _,by simp⟩ ⟨Z,Z,Z,Z,Y⟩ trivial fun i hi t h=>?_
 (refine yS<|yP Z<|yT<|au<|az Z ?_;refine aa (fun h1=>?_) (fun h1=>?_) <;> try simp only[zB] at h1)
 ·rw[lm] at h1
  obtain⟨r,hr⟩:=bh (l:=l) (i:=i) (by omega)
  (refine aJ<|aj<|au<|aZ<|yS<|yP Z<|yA Z<|yU<|yP Z<|yP Z<|yP Z<|yq Z<|aK zI ?_;refine⟨(rc r),(idx rfl hr),?_⟩)
  (refine yk<|yP Z<|yn Z<|aK zI ?_;refine⟨_,_,(AY r x y),?_⟩)
  (refine b9 Z Z<|ae<|yT<|az Z ?_;refine aa (fun h2=>?_) (fun h2=>?_) <;> try simp only[zB] at h2)
  ·(refine yS<|yP Z<|yA Z<|yT<|bP<|bW<|aX<|aX<|bW<|aX<|bQ zi ?_;refine And.intro ?_ trivial)
   rw[iJ hr h2 hi.2,Nat.zero_add]
  (refine aJ<|bp<|aj<|aM<|yq Z<|bg zI ?_;refine sI ?_)
  (refine yk<|yP Z<|yT<|ai ?_;refine⟨(i+1),_,aW.refl _ _,?_⟩)
  exact⟨⟨by omega,oM hr h2 hi.2⟩,by omega,⟨Z,Z,Z,Z,Y⟩,trivial⟩
 rw[lm] at h1
 (refine bT<|aY<|aY<|bU<|aj<|yS<|yA Z<|yR zi ?_;refine And.intro ?_ trivial)
 have h2:=hi.2
 rw[List.take_of_length_le (by omega)] at h2
 rw[fN h2]
 rfl
theorem wF (l:List aB) (hN:l.length<=140737488355328) (x y:Int):aD C 118 [.pv (aV l),.pv (.fn 137 [.ip [i64 x,i64 y]])] (.p (bool (l.any (HY x y)))) []:=by
 refine aT hC Tryz.func118 rfl rfl 9 rfl (by decide) (by kernel_rfl) fun _ _ _ _ _=>?_
 (refine yS<|yA Z<|yU<|yP Z<|yP Z<|yn Z<|aK zI ?_;refine⟨_,_,(AZ l hN x y),?_⟩)
 (refine b9 Z Z<|ae<|yP Z<|yA Z<|yR zi ?_;refine And.intro ?_ trivial)
 rw[<-j_ _ l 0]
 rfl
theorem nk (l:List aB) (hN:l.length<=140737488355328) (x y:Int):aD C 106 [.pv (aV l),.pv (.ag [i64 x,i64 y])] (.p (bool (l.any (HY x y)))) []:=by
 refine aT hC Tryz.func106 rfl rfl 8 rfl (by decide) (by kernel_rfl) fun _ _ _ _ _=>?_
 (refine yS<|yn Z<|aA zI<|aS<|ak<|yA Z<|yU<|yP Z<|yV Z<|yn Z<|aK zI ?_;refine⟨_,_,(wF l hN x y),?_⟩)
 (refine b9 Z Z<|ae<|yA Z<|yR zi ?_;refine And.intro ?_ trivial)
 rfl
def fb:ByteArray:=⟨#[]⟩
def pJ (s:ByteArray):Bool:=decide (s=fb) || nZ s
theorem s_ (s:ByteArray) (hs:s.size < 4294967281):aD C 48 [.pv (str s)] (.p (bool (pJ s))) []:=by
 refine aT hC Tryz.func48 rfl rfl 9 rfl (by decide) (by kernel_rfl) fun _ _ _ _ _=>?_
 (refine yS<|yA Z<|yU<|yP Z<|yP Z<|yP Z<|yg Z ?_;refine aa (fun h1=>?_) (fun h1=>?_) <;> try simp only[zB] at h1)
 ·have h1:s=fb:=h1
  (refine cB<|ae<|y0 Z<|yP Z<|yA Z<|yR zi ?_;refine And.intro ?_ trivial)
  rw[pJ,decide_eq_true h1]
  rfl
 have h1:¬s=fb:=h1
 (refine bS<|bA Z Z<|aA zI<|yk<|y2 Z<|jB Z Z Z<|aK zI ?_;refine⟨_,_,(mJ s hs),?_⟩)
 (refine b9 Z Z<|ae<|yP Z<|yA Z<|yR zi ?_;refine And.intro ?_ trivial)
 rw[pJ,decide_eq_false h1]
 rfl
def OG (a:kd) (layer:Int):Bool:=decide (a.layer < 0) || decide (a.layer=layer)
theorem C0 (a:kd) (layer:Int):aD C 105 [.pv (.ag (arr a)),.pv (i64 layer)] (.p (bool (OG a layer))) []:=by
 refine aT hC Tryz.func105 rfl rfl 14 rfl (by decide) (by kernel_rfl) fun _ _ _ _ _=>?_
 (refine yS<|yn Z<|aA zI<|aS<|ak<|yA Z<|yU<|yV Z<|yP Z<|yP Z<|yP Z<|yg Z ?_;refine aa (fun h1=>?_) (fun h1=>?_) <;> try simp only[zB] at h1)
 ·(refine cB<|ae<|y0 Z<|y0 Z<|y0 Z<|yP Z<|yA Z<|yR zi ?_;refine And.intro ?_ trivial)
  simp[bool,OG,h1]
 (refine bS<|bA Z Z<|aA zI<|bd<|ak<|y1 Z<|y1 Z<|y1 Z<|yP Z<|yA Z<|yR zi ?_;refine And.intro ?_ trivial)
 simp[bool,OG,h1]
def oN (a b:ByteArray):Bool:=Op.bytesLess a.data.toList b.data.toList
theorem tS {a b:ByteArray}:oN a b=true↔a.data.toList < b.data.toList:=by
 unfold oN
 rw[Go.Proofs.bytesLess_eq]
 simp
theorem uX (a:ByteArray):oN a a=false:=by
 rw[Bool.eq_false_iff]
 intro h
 exact List.lt_irrefl _ (tS.1 h)
theorem r9 {a b c:ByteArray} (h1:oN a b=true) (h2:oN b c=true):oN a c=true:=tS.2 (List.lt_trans (tS.1 h1) (tS.1 h2))
def qH (l:List ByteArray):Prop:=l.Pairwise fun a b=>oN a b=true
theorem n_ {l:List ByteArray} (h:qH l) {i j:Nat} {a b:ByteArray} (ha:l[i]?=some a) (hb:l[j]?=some b) (zZ:i < j):oN a b=true:=by
 obtain⟨hi,rfl⟩:=List.getElem?_eq_some_iff.1 ha
 obtain⟨hj,rfl⟩:=List.getElem?_eq_some_iff.1 hb
 exact List.pairwise_iff_getElem.1 h i j hi hj zZ
theorem FC (s:ByteArray):aD C 183 [.pv (str s)] (.p (bool false)) []:=by
 refine aT hC Tryz.func183 rfl rfl 6 rfl (by decide) (by kernel_rfl) fun _ _ _ _ _=>?_
 (refine yS<|yA Z<|yU<|yP Z<|yP Z<|yP Z<|yA Z<|yR zi ?_;refine And.intro ?_ trivial)
 simp[bool]
theorem y9 (s:ByteArray):aD C 165 [.pv (str s)] (.p (bool false)) []:=by
 refine aT hC Tryz.func165 rfl rfl 6 rfl (by decide) (by kernel_rfl) fun _ _ _ _ _=>?_
 (refine yS<|yA Z<|yU<|yP Z<|yP Z<|yP Z<|yA Z<|yR zi ?_;refine And.intro ?_ trivial)
 simp[bool]
theorem HZ (a b:ByteArray):aD C 164 [.pv (str a),.pv (str b)] (.p (bool (oN a b))) []:=by
 refine aT hC Tryz.func164 rfl rfl 17 rfl (by decide) (by kernel_rfl) fun _ _ _ _ _=>?_
 (refine yS<|yA Z<|yU<|yP Z<|yn Z<|aK zI ?_;refine⟨_,_,(FC a),?_⟩)
 (refine b9 Z Z<|ae<|yP Z<|y0 Z<|y0 Z<|y0 Z<|yP Z<|yP Z<|y1 Z<|y1 Z<|y1 Z<|yP Z<|yA Z<|yR zi ?_;refine And.intro ?_ trivial)
 rfl
theorem H0 {a b:Nat} (h:a+b < 4611686018427387904):(IntKind.u64.wrap ((a:Int)+(b:Int))).fdiv (2 ^ min (Int.toNat 1) IntKind.u64.bits)=(((a+b) / 2:Nat):Int):=by
 have h1:IntKind.u64.wrap ((a:Int)+(b:Int))=((a+b:Nat):Int):=by simp[IntKind.wrap,IntKind.bits,IntKind.signed];omega
 rw[h1]
 have h2:(2:Int) ^ min (Int.toNat 1) IntKind.u64.bits=2:=by decide
 rw[h2,Int.fdiv_eq_ediv_of_nonneg _ (by decide)]
 omega
def C1 (l:List ByteArray) (x:ByteArray):Nat:=(l.filter fun y=>oN y x).length
theorem FD {l:List ByteArray} {x:ByteArray} {i:Nat} (hi:i<=l.length) (h1:∀(k:Nat) y,k < i->l[k]?=some y->oN y x=true) (h2:∀(k:Nat) y,i<=k->l[k]?=some y->oN y x=false):C1 l x=i:=by
 unfold C1
 rw[<-List.take_append_drop i l,List.filter_append,List.length_append]
 have e1:(l.take i).filter (fun y=>oN y x)=l.take i:=List.filter_eq_self.2 fun y hy=>by
  obtain⟨k,hk⟩:=List.mem_iff_getElem?.1 hy
  rw[List.getElem?_take] at hk
  split at hk
  ·exact h1 k y (by assumption) hk
  cases hk
 have e2:(l.drop i).filter (fun y=>oN y x)=[]:=List.filter_eq_nil_iff.2 fun y hy=>by
  obtain⟨k,hk⟩:=List.mem_iff_getElem?.1 hy
  rw[List.getElem?_drop] at hk
  rw[h2 (i+k) y (by omega) hk];decide
 rw[e1,e2,List.length_take]
 simp;omega
theorem JX {l:List ByteArray} {x y:ByteArray} {a:Nat} (hs:qH l) (q3:∀(k:Nat) z,k < a->l[k]?=some z->oN z x=true) (hy:l[a]?=some y) (Tf:oN y x=false) (b8:¬y=x):hasB l x=false:=by
 rw[Bool.eq_false_iff]
 intro h4
 obtain⟨k,hk⟩:=List.mem_iff_getElem?.1 (uO.1 h4)
 rcases Nat.lt_trichotomy k a with h | h | h
 ·have:=q3 k x h hk
  rw[uX] at this;cases this
 ·subst h
  rw[hy] at hk;injection hk with hk;exact b8 hk
 rw[n_ hs hy hk h] at Tf;cases Tf
theorem y_ (l:List ByteArray) (x:ByteArray) (hs:qH l) (hN:l.length<=1000000000):aD C 133 [.pv (strs l),.pv (str x)] (.tu [i64 (C1 l x),bool (hasB l x)]) []:=by
 refine aT hC Tryz.func133 rfl rfl 54 rfl (by decide) (by kernel_rfl) fun _ _ _ _ _=>?_
 have lm:=aN l fun s=>[str s]
 refine yS<|yA Z<|yA Z<|yU<|yP Z<|yP Z<|yA Z<|yU<|yP Z<|yA Z<|yA Z<|yT<|au<|aZ ?_
 refine aI (fun p:Nat×Nat=>p.1<=p.2/\p.2<=l.length/\(∀(k:Nat) y,k < p.1->l[k]?=some y->oN y x=true)/\(∀(k:Nat) y,p.2<=k->l[k]?=some y->oN y x=false)) (fun p=>[(0,.p (strs l)),(1,.p (str x)),(6,.p (i64 (l.map fun s=>[str s]).length)),(7,.p (i64 p.1)),(8,.p (i64 p.2))]) (fun _=>[]) (fun p=>p.2 - p.1) (0,l.length) _ (aW.refl _ _) ⟨Nat.zero_le _,Nat.le_refl _,fun k y h=>by omega,fun k y h1 h2=>by have:=(List.getElem?_eq_some_iff.1 h2).1;simp only at h1;omega⟩ ⟨rfl,rfl,rfl,rfl,cd (by rw[lm]),trivial⟩ trivial fun ⟨a,b⟩ hi t h=>?_
 obtain⟨q1,q2,q3,q4⟩:=hi
 simp only at q1 q2 q3 q4
 (refine au<|yS<|yP Z<|yP Z<|yP Z<|yT<|az Z ?_;refine aa (fun h1=>?_) (fun h1=>?_) <;> try simp only[zB] at h1)
 ·have hm:=H0 (a:=a) (b:=b) (by omega)
  obtain⟨y,hy⟩:=bh (l:=l) (i:=(a+b) / 2) (by omega)
  (refine aJ<|aj<|aZ<|yS<|yP Z<|yP Z<|yq Z<|bg zI ?_;refine And.intro ⟨by simp only;omega,by simp only;omega⟩ ?_)
  (refine yk<|yP Z<|yq Z<|bg zI ?_;refine And.intro ⟨by decide,by decide⟩ ?_)
  (refine yk<|yq Z<|bg zI ?_;refine And.intro ⟨by simp only;rw[hm];omega,by simp only;rw[hm];omega⟩ ?_)
  (refine yk<|yA Z<|yU<|yP Z<|yP Z<|yq Z<|aK zI ?_;refine⟨[str y],(idx hm hy),?_⟩)
  (refine yk<|yP Z<|yP Z<|yn Z<|aK zI ?_;refine⟨_,_,(HZ y x),?_⟩)
  (refine b9 Z Z<|ae<|yT<|az Z ?_;refine aa (fun h2=>?_) (fun h2=>?_) <;> try simp only[zB] at h2)
  ·(refine aM<|yP Z<|yq Z<|bg zI ?_;refine And.intro ⟨by simp only;rw[hm];omega,by simp only;rw[hm];omega⟩ ?_)
   (refine yk<|yA Z<|cL<|bp<|aj<|ai ?_;refine⟨((a+b) / 2+1,b),_,aW.refl _ _,?_⟩)
   refine⟨⟨by simp only;omega,q2,fun k z hk hz=>?_,q4⟩,by simp only;omega,⟨rfl,rfl,rfl,cd (by simp only;rw[hm];omega),Z,Y⟩,trivial⟩
   by_cases e:k=(a+b) / 2
   ·subst e
    rw[hy] at hz;injection hz with hz;subst hz;exact h2
   exact r9 (n_ hs hz hy (by simp only at hk;omega)) h2
  (refine aM<|yP Z<|yA Z<|cL<|bp<|aj<|ai ?_;refine⟨(a,(a+b) / 2),_,aW.refl _ _,?_⟩)
  refine⟨⟨by simp only;omega,by simp only;omega,q3,fun k z hk hz=>?_⟩,by simp only;omega,⟨rfl,rfl,rfl,rfl,cd hm,trivial⟩,trivial⟩
  by_cases e:k=(a+b) / 2
  ·subst e
   rw[hy] at hz;injection hz with hz;subst hz;exact h2
  rw[Bool.eq_false_iff]
  intro eL
  rw[r9 (n_ hs hy hz (by simp only at hk;omega)) eL] at h2
  cases h2
 have e:a=b:=by omega
 subst e
 have hb:=FD q2 q3 q4
 (refine bT<|aY<|aY<|bU<|aj<|yS<|yP Z<|yP Z<|yP Z<|yP Z<|yP Z<|yg Z ?_;refine aa (fun h2=>?_) (fun h2=>?_) <;> try simp only[zB] at h2)
 ·rw[lm] at h2
  obtain⟨y,hy⟩:=bh (l:=l) (i:=a) (by omega)
  (refine bS<|bA Z Z<|aA zI<|yk<|y1 Z<|y2 Z<|bA Z Z<|aK zI ?_;refine⟨[str y],(idx rfl hy),?_⟩)
  (refine yk<|y1 Z<|y1 Z<|y1 Z<|y1 Z<|yg Z ?_;refine aa (fun h3=>?_) (fun h3=>?_) <;> try simp only[zB] at h3)
  ·((refine cB<|ae<|y0 Z<|y0 Z<|y0 Z<|y0 Z<|y0 Z<|a8 Z Z Z Z<|ae<|a8 Z Z Z Z<|ae<|y0 Z<|y1 Z<|yP Z ?_;refine yA Z<|yA Z<|yR zi ?_);refine And.intro ?_ trivial)
   have e:y=x:=by simpa using h3
   subst e
   have h4:hasB l y=true:=uO.2 (List.mem_iff_getElem?.2 ⟨a,hy⟩)
   rw[hb,h4]
   rfl
  (refine bS<|bA Z Z<|aA zI<|yk<|y1 Z<|y2 Z<|bA Z Z<|aK zI ?_;refine⟨[str y],(idx rfl hy),?_⟩)
  (refine yk<|y1 Z<|y2 Z<|jB Z Z Z<|aK zI ?_;refine⟨_,_,(y9 y),?_⟩)
  (refine b9 Z Z<|ae<|y1 Z<|y0 Z<|y0 Z<|y1 Z<|y1 Z<|yP Z<|yA Z<|yA Z<|yR zi ?_;refine And.intro ?_ trivial)
  have h4:hasB l x=false:=JX hs q3 hy (q4 a y (Nat.le_refl _) hy) (by simpa using h3)
  rw[hb,h4]
  rfl
 rw[lm] at h2
 ((refine cB<|ae<|y0 Z<|y0 Z<|y0 Z<|y0 Z<|y0 Z<|y0 Z<|a8 Z Z Z Z<|ae<|a8 Z Z Z Z<|ae<|a8 Z Z Z Z<|ae ?_;refine a8 Z Z Z Z<|ae<|a8 Z Z Z Z<|ae<|a8 Z Z Z Z<|ae<|a8 Z Z Z Z<|ae<|a8 Z Z Z Z<|ae<|a8 Z Z Z Z<|ae<|y0 Z<|yP Z ?_;refine yA Z<|yA Z<|yR zi ?_);refine And.intro ?_ trivial)
 have h4:hasB l x=false:=by
  rw[Bool.eq_false_iff]
  intro h4
  obtain⟨k,hk⟩:=List.mem_iff_getElem?.1 (uO.1 h4)
  have:=q3 k x (by have:=(List.getElem?_eq_some_iff.1 hk).1;omega) hk
  rw[uX] at this;cases this
 rw[hb,h4]
 rfl
def dY (f:Nat->Int) (i:Nat):Nat->Int
 | 0=>0
 | n+1=>if f i=0 then dY f (i+1) n else f i
theorem i_ {f:Nat->Int}:∀{n i:Nat},(∀k,i<=k->k < i+n->f k=0)->dY f i n=0
 | 0,_,_=>rfl
 | n+1,i,h=>by
  rw[dY,if_pos (h i (Nat.le_refl _) (by omega))]
  exact i_ fun k h1 h2=>h k (by omega) (by omega)
theorem lS {f:Nat->Int} {m:Nat} (hm:f m≠0):∀{n i:Nat},(∀k,i<=k->k < m->f k=0)->i<=m->m < i+n->dY f i n=f m
 | 0,i,_,h1,h2=>by omega
 | n+1,i,h,h1,h2=>by
  rw[dY]
  by_cases e:i=m
  ·subst e;rw[if_neg hm]
  rw[if_pos (h i (Nat.le_refl _) (by omega))]
  exact lS hm (fun k h3 h4=>h k (by omega) h4) (by omega) (by omega)
def gJ (l:List ByteArray) (j:Nat):Bool:=match l[j]?,l[j - 1]? with
 | some a,some b=>decide (0 < j) && (oN a b || decide (a=b))
 | _,_=>false
def seenIn (cs:List Class) (x:ByteArray):Bool:=cs.any fun c=>hasB c.nets x
def dQ (cs:List Class) (i:Nat) (l:List ByteArray) (j:Nat):Int:=match l[j]? with
 | some y=>if nZ y=true then (if gJ l j=true then 8 else if seenIn (cs.take i) y=true then 7 else 0) else 5
 | none=>0
def dD (cs:List Class) (i:Nat):Int:=match cs[i]? with
 | some c=>if lO c.name=true then (if 1000 < c.nets.length then 2 else
   if dY (dQ cs i c.nets) 0 c.nets.length=0 then
    (if (di c.clearance && di c.width)=true then (if gJ (cs.map Class.name) i=true then 8 else 0) else 1)
   else dY (dQ cs i c.nets) 0 c.nets.length) else 5
 | none=>0
theorem Eh (a b:ByteArray):v8 (.string a) (.string b)=decide (a=b):=rfl
theorem ME {k:ByteArray} {k':Value} (h:v8 (.string k) k'=true):k'=.string k:=by
 cases k' <;> simp_all [v8]
theorem xv (v:PV) (k n:ByteArray):∀es:List (Value×PV),gR (jw es (.string k) v) (.string n)=if n=k then some v else gR es (.string n)
 | []=>by
  simp only[jw,gR,Eh]
  by_cases h:n=k <;> simp[h]
 | (k',u)::r=>by
  simp only[jw]
  cases h:v8 (.string k) k'
  ·simp only[gR,xv v k n r]
   by_cases e:n=k
   ·subst e;simp[h]
   simp[e]
  have e:=ME h
  subst e
  simp only[gR,Eh]
  by_cases e:n=k <;> simp[e]
def jv (s:ByteArray):Prop:=s.size < 4294967281
def Ei (c:Class):Prop:=jv c.name/\c.nets.length<=1048576/\∀s∈c.nets,jv s
theorem pK (cs:List Class) (hok:∀c∈cs,Ei c) (hN:cs.length<=1048576):aD C 103 [.pv (.sl (cs.map kl))] (.p (i64 (if 50 < cs.length then 2 else dY (dD cs) 0 cs.length))) []:=by
 refine aT hC Tryz.func103 rfl rfl 93 rfl (by decide) (by kernel_rfl) fun _ _ _ _ _=>?_
 have lm:=aN cs kl
 (refine yS<|yA Z<|yT<|au<|yS<|yP Z<|yP Z<|yP Z<|yT<|az Z ?_;refine aa (fun h0=>?_) (fun h0=>?_) <;> try simp only[zB] at h0)
 ·(refine yS<|yA Z<|yT<|bP<|aX<|bQ zi ?_;refine And.intro ?_ trivial)
  rw[if_pos (by omega)];rfl
 rw[if_neg (by omega)]
 (refine aJ (aj (yS (yn Z (aA zI (aS (af (cD Z (jW Z Z Z (Eb Z) (af (yT (au (yS (yP Z ?_)))))))))))));refine yP Z<|yP Z<|yT<|aZ ?_)
 refine aI (fun p:Nat×List (Value×PV)=>p.1<=cs.length/\(∀k,k < p.1->dD cs k=0)/\∀n,gR p.2 (.string n)=if seenIn (cs.take p.1) n=true then some (bool true) else none) (fun p=>[(0,.p (.sl (cs.map kl))),(3,.ow 13),(14,.p (.sl (cs.map kl))),(15,.p (i64 (cs.map kl).length)),(16,.p (i64 p.1))]) (fun p=>[(13,.map .str p.2)]) (fun p=>cs.length - p.1) (0,[]) _ (aW.refl _ _) ⟨Nat.zero_le _,fun k h=>by omega,fun n=>rfl⟩ ⟨Z,Z,Z,Z,Z,Y⟩ ⟨Z,Y⟩ fun ⟨i,es⟩ hi t h=>?_
 obtain⟨q1,q2,q3⟩:=hi
 (refine yS<|yP Z<|yT<|au<|az Z ?_;refine aa (fun h1=>?_) (fun h1=>?_) <;> try simp only[zB] at h1)
 ·obtain⟨c,hc⟩:=bh (l:=cs) (i:=i) (by omega)
  obtain⟨o1,o2,o3⟩:=hok c (List.mem_of_getElem? hc)
  have bad:dD cs i≠0->dY (dD cs) 0 cs.length=dD cs i:=fun hb=>lS hb (fun k _ hk=>q2 k hk) (Nat.zero_le _) (by omega)
  have cf:dD cs i=(if lO c.name=true then (if 1000 < c.nets.length then 2 else
  if dY (dQ cs i c.nets) 0 c.nets.length=0 then
   (if (di c.clearance && di c.width)=true then (if gJ (cs.map Class.name) i=true then 8 else 0) else 1)
  else dY (dQ cs i c.nets) 0 c.nets.length) else 5):=by rw[dD,hc]
  have lc:=aN c.nets fun s=>[str s]
  (refine aJ<|aj<|au<|aZ<|yS<|yP Z<|yq Z<|aK zI ?_;refine⟨(kl c),(idx rfl hc),?_⟩)
  ((refine yk<|yP Z<|yn Z<|aA zI<|aS<|ak<|yA Z<|yq Z<|aA zI<|bd<|aF<|an<|yT<|au ?_;refine yS<|yV Z<|yP Z<|yn Z<|aK zI ?_);refine⟨_,_,(mI c.name (by have:c.name.size < 4294967281:=o1;omega)),?_⟩)
  (refine b9 Z Z<|ae<|yP Z<|yT<|az Z ?_;refine aa (fun h2=>?_) (fun h2=>?_) <;> try simp only[zB] at h2)
  ·(refine yS<|yA Z<|yT<|bP<|aX<|bW<|aX<|aX<|bW<|aX<|bQ zi ?_;refine And.intro ?_ trivial)
   rw[if_neg (by simp[h2])] at cf
   rw[bad (by rw[cf];decide),cf];rfl
  rw[if_pos (by simpa using h2)] at cf
  (refine aJ<|aj<|au<|yS<|yV Z<|yP Z<|yP Z<|yP Z<|yT<|az Z ?_;refine aa (fun h3=>?_) (fun h3=>?_) <;> try simp only[zB] at h3)
  ·(refine yS<|yA Z<|yT<|bP<|aX<|bW<|aX<|aX<|bW<|aX<|bQ zi ?_;refine And.intro ?_ trivial)
   rw[if_pos (by omega)] at cf
   rw[bad (by rw[cf];decide),cf];rfl
  rw[if_neg (by omega)] at cf
  refine aJ<|aj<|au<|yS<|yV Z<|yP Z<|yP Z<|yP Z<|yT<|aZ ?_
  refine aI (fun j:Nat=>j<=c.nets.length/\∀k,k < j->dQ cs i c.nets k=0) (fun j=>[(0,.p (.sl (cs.map kl))),(3,.ow 13),(14,.p (.sl (cs.map kl))),(15,.p (i64 (cs.map kl).length)),(16,.p (i64 i)),(4,.p (i64 i)),(5,.bx 5 0),(30,.p (strs c.nets)),(31,.p (i64 (c.nets.map fun s=>[str s]).length)),(32,.p (i64 j))]) (fun _=>[(5,.box [.p (str c.name),.p (strs c.nets),.p (i64 c.clearance),.p (i64 c.width)]),(13,.map .str es)]) (fun j=>c.nets.length - j) 0 _ (aW.refl _ _) ⟨Nat.zero_le _,fun k h=>by omega⟩ ⟨Z,Z,Z,Z,Z,Z,Z,Z,Z,Z,Y⟩ ⟨Z,Z,Y⟩ fun j hj t h=>?_
  obtain⟨p1,p2⟩:=hj
  (refine yS<|yP Z<|yT<|au<|az Z ?_;refine aa (fun h4=>?_) (fun h4=>?_) <;> try simp only[zB] at h4)
  ·obtain⟨y,hy⟩:=bh (l:=c.nets) (i:=j) (by omega)
   have JY:dQ cs i c.nets j≠0->dY (dD cs) 0 cs.length=dQ cs i c.nets j:=fun hb=>by
    have e:dY (dQ cs i c.nets) 0 c.nets.length=dQ cs i c.nets j:=lS hb (fun k _ hk=>p2 k hk) (Nat.zero_le _) (by omega)
    rw[e,if_neg hb] at cf
    rw[bad (by rw[cf];exact hb),cf]
   have nf:dQ cs i c.nets j=(if nZ y=true then (if gJ c.nets j=true then 8 else if seenIn (cs.take i) y=true then 7 else 0) else 5):=by rw[dQ,hy]
   (refine aJ<|aj<|au<|aZ<|yS<|yP Z<|yq Z<|aK zI ?_;refine⟨[str y],(idx rfl hy),?_⟩)
   (refine yk<|yP Z<|yA Z<|yA Z<|yT<|aZ<|yS<|yP Z<|yn Z<|aK zI ?_;refine⟨_,_,(mJ y (o3 y (List.mem_of_getElem? hy))),?_⟩)
   (refine b9 Z Z<|ae<|yP Z<|yA Z<|yT<|az Z ?_;refine aa (fun h5=>?_) (fun h5=>?_) <;> try simp only[zB] at h5)
   ·((refine yS<|yA Z<|yT<|bP<|bW<|bW<|aX<|aX<|bW<|aX<|bW<|aX<|aX<|bW ?_;refine aX<|bQ zi ?_);refine And.intro ?_ trivial)
    rw[if_neg (by simp[h5])] at nf
    rw[JY (by rw[nf];decide),nf];rfl
   rw[if_pos (by simpa using h5)] at nf
   have q:=q3 y
   have next:dQ cs i c.nets j=0->∀k,k < j+1->dQ cs i c.nets k=0:=fun h0 k hk=>by
    by_cases e:k=j
    ·subst e;exact h0
    exact p2 k (by omega)
   (refine yS<|yP Z<|yP Z<|yP Z<|yg Z ?_;refine aa (fun h6=>?_) (fun h6=>?_) <;> try simp only[zB] at h6)
   ·obtain⟨z,hz⟩:=bh (l:=c.nets) (i:=j - 1) (by omega)
    have bk:gJ c.nets j=(oN y z || decide (y=z)):=by
     simp only[gJ,hy,hz]
     rw[decide_eq_true (by omega:0 < j)];rfl
    (refine bS<|bA Z Z<|aA zI<|yk<|y2 Z<|bA Z Z<|aA zI<|bd<|ak<|y1 Z<|y1 Z<|y2 Z<|bA Z Z<|bg zI ?_;refine sI ?_)
    (refine yk<|y2 Z<|bA Z Z<|aK zI ?_;refine⟨[str z],(idx (show (j:Int) - 1=((j - 1:Nat):Int) by omega) hz),?_⟩)
    (refine yk<|y1 Z<|y1 Z<|yP Z<|yA Z<|yT<|az Z ?_;refine aa (fun h7=>?_) (fun h7=>?_) <;> try simp only[zB] at h7)
    ·((refine yS<|yA Z<|yT<|bP<|bW<|bW<|aX<|aX<|bW<|aX<|bW<|aX<|aX<|bW ?_;refine aX<|bQ zi ?_);refine And.intro ?_ trivial)
     have h7:(oN y z || decide (y=z))=true:=by simpa [oN] using h7
     rw[bk,h7,if_pos rfl] at nf
     rw[JY (by rw[nf];decide),nf];rfl
    have h7:(oN y z || decide (y=z))=false:=by simpa [oN] using h7
    rw[bk,h7,if_neg (by decide)] at nf
    cases hS:seenIn (cs.take i) y
    ·rw[hS] at q nf
     (refine yS<|yq Z<|aA zI<|bd<|af<|yP Z<|yq Z<|aK zI ?_;refine⟨none,q,?_⟩)
     (refine yk<|yA Z<|yT<|az Z<|cM<|aJ<|bp<|bp<|aj<|aM<|yq Z<|bg zI ?_;refine sI ?_)
     (refine yk<|yP Z<|yT<|ai ?_;refine⟨(j+1),_,aW.refl _ _,?_⟩)
     exact⟨⟨by omega,next (by simpa using nf)⟩,by omega,⟨Z,Z,Z,Z,Z,Z,Z,Z,Z,Z,Y⟩,⟨Z,Z,Y⟩⟩
    rw[hS] at q nf
    rw[if_pos rfl] at nf
    (refine yS<|yq Z<|aA zI<|bd<|af<|yP Z<|yq Z<|aK zI ?_;refine⟨(some (bool true)),q,?_⟩)
    ((refine yk<|yA Z<|yT<|az Z<|fy<|yS<|yA Z<|yT<|bP<|bW<|bW<|aX<|aX<|bW ?_;refine aX<|bW<|aX<|aX<|bW<|aX<|bQ zi ?_);refine And.intro ?_ trivial)
    rw[JY (by rw[nf];decide),nf];rfl
   have h0:j=0:=by omega
   have bk:gJ c.nets j=false:=by
    subst h0
    simp only[gJ,hy]
    rfl
   rw[bk,if_neg (by decide)] at nf
   cases hS:seenIn (cs.take i) y
   ·rw[hS] at q nf
    ((refine cB<|ae<|y0 Z<|y0 Z<|y0 Z<|y0 Z<|y0 Z<|y0 Z<|y0 Z<|yP Z<|yA Z<|yT<|az Z<|cM ?_;refine yS<|yq Z<|aA zI<|bd<|af<|yP Z<|yq Z<|aK zI ?_);refine⟨none,q,?_⟩)
    (refine yk<|yA Z<|yT<|az Z<|cM<|aJ<|bp<|bp<|aj<|aM<|yq Z<|bg zI ?_;refine sI ?_)
    (refine yk<|yP Z<|yT<|ai ?_;refine⟨(j+1),_,aW.refl _ _,?_⟩)
    exact⟨⟨by omega,next (by simpa using nf)⟩,by omega,⟨Z,Z,Z,Z,Z,Z,Z,Z,Z,Z,Y⟩,⟨Z,Z,Y⟩⟩
   rw[hS] at q nf
   rw[if_pos rfl] at nf
   ((refine cB<|ae<|y0 Z<|y0 Z<|y0 Z<|y0 Z<|y0 Z<|y0 Z<|y0 Z<|yP Z<|yA Z<|yT<|az Z<|cM ?_;refine yS<|yq Z<|aA zI<|bd<|af<|yP Z<|yq Z<|aK zI ?_);refine⟨(some (bool true)),q,?_⟩)
   ((refine yk<|yA Z<|yT<|az Z<|fy<|yS<|yA Z<|yT<|bP<|bW<|bW<|aX<|aX<|bW ?_;refine aX<|bW<|aX<|aX<|bW<|aX<|bQ zi ?_);refine And.intro ?_ trivial)
   rw[JY (by rw[nf];decide),nf];rfl
  have z0:dY (dQ cs i c.nets) 0 c.nets.length=0:=i_ fun k _ hk=>p2 k (by omega)
  rw[if_pos z0] at cf
  refine bT<|aY<|aY<|bU<|aj<|au<|yS<|yV Z<|yP Z<|yP Z<|yP Z<|yT<|aZ ?_
  refine aI (fun p:Nat×List (Value×PV)=>p.1<=c.nets.length/\∀n,gR p.2 (.string n)=if (seenIn (cs.take i) n || hasB (c.nets.take p.1) n)=true then some (bool true) else none) (fun p=>[(0,.p (.sl (cs.map kl))),(3,.ow 13),(14,.p (.sl (cs.map kl))),(15,.p (i64 (cs.map kl).length)),(16,.p (i64 i)),(4,.p (i64 i)),(5,.bx 5 0),(60,.p (strs c.nets)),(61,.p (i64 (c.nets.map fun s=>[str s]).length)),(62,.p (i64 p.1))]) (fun p=>[(5,.box [.p (str c.name),.p (strs c.nets),.p (i64 c.clearance),.p (i64 c.width)]),(13,.map .str p.2)]) (fun p=>c.nets.length - p.1) (0,es) _ (aW.refl _ _) ⟨Nat.zero_le _,fun n=>by rw[show hasB (c.nets.take 0) n=false from rfl,Bool.or_false];exact q3 n⟩ ⟨Z,Z,Z,Z,Z,Z,Z,Z,Z,Z,Y⟩ ⟨Z,Z,Y⟩ fun ⟨j,wk⟩ hj t h=>?_
  obtain⟨r1,r2⟩:=hj
  (refine yS<|yP Z<|yT<|au<|az Z ?_;refine aa (fun h9=>?_) (fun h9=>?_) <;> try simp only[zB] at h9)
  ·obtain⟨y,hy⟩:=bh (l:=c.nets) (i:=j) (by omega)
   (refine aJ<|aj<|au<|aZ<|yS<|yq Z<|aK zI ?_;refine⟨[str y],(idx rfl hy),?_⟩)
   ((refine yk<|yP Z<|yA Z<|yT<|aM<|yq Z<|aA zI<|bd<|af<|yP Z<|yq Z<|aA zI<|bd<|aF ?_;refine an<|cL<|bp<|aj<|aM<|yq Z<|bg zI ?_);refine sI ?_)
   (refine yk<|yP Z<|yT<|ai ?_;refine⟨(j+1,jw wk (.string y) (bool true)),_,aW.refl _ _,?_⟩)
   refine⟨⟨by omega,fun n=>?_⟩,by omega,⟨Z,Z,Z,Z,Z,Z,Z,Z,Z,Z,Y⟩,⟨Z,Z,Y⟩⟩
   simp only
   rw[xv,cw hy]
   by_cases e:n=y
   ·subst e
    rw[if_pos rfl,if_pos]
    simp[hasB]
   rw[if_neg e,r2 n]
   have:hasB (c.nets.take j++[y]) n=hasB (c.nets.take j) n:=by
    unfold hasB
    rw[List.any_append]
    rw[show ([y].any fun z=>decide (z=n))=(decide (y=n) || false) from rfl,decide_eq_false (fun h:y=n=>e h.symm)]
    simp
   rw[this]
  have e9:j=c.nets.length:=by simp only at r1;omega
  have s1:∀n,gR wk (.string n)=if seenIn (cs.take (i+1)) n=true then some (bool true) else none:=fun n=>by
   rw[r2 n,e9,List.take_length,cw hc]
   have:seenIn (cs.take i++[c]) n=(seenIn (cs.take i) n || hasB c.nets n):=by
    unfold seenIn
    rw[List.any_append]
    simp
   rw[this]
  have bn:∀d,cs[i - 1]?=some d->0 < i->gJ (cs.map Class.name) i=(oN c.name d.name || decide (c.name=d.name)):=fun d hd h0=>by
   simp only[gJ,List.getElem?_map,hc,hd,Option.map_some]
   rw[decide_eq_true h0];rfl
  have Lb:dD cs i=0->∀k,k < i+1->dD cs k=0:=fun h0 k hk=>by
   by_cases e:k=i
   ·subst e;exact h0
   exact q2 k (by simp only;omega)
  (refine bT<|aY<|aY<|bU<|aj<|au<|yS<|yV Z<|yP Z<|yn Z<|aK zI ?_;refine⟨_,_,(jD c.clearance),?_⟩)
  (refine b9 Z Z<|ae<|yP Z<|yP Z<|yg Z ?_;refine aa (fun g1=>?_) (fun g1=>?_) <;> try simp only[zB] at g1)
  ·((refine cB<|ae<|y0 Z<|y0 Z<|y0 Z<|yP Z<|yT<|az Z<|fy<|yS<|yA Z<|yT<|bP<|aX ?_;refine bW<|aX<|aX<|bW<|aX<|bQ zi ?_);refine And.intro ?_ trivial)
   rw[if_neg (by simp[g1])] at cf
   rw[bad (by rw[cf];decide),cf];rfl
  (refine bS<|bA Z Z<|aA zI<|bd<|ak<|y1 Z<|y2 Z<|jB Z Z Z<|aK zI ?_;refine⟨_,_,(jD c.width),?_⟩)
  (refine b9 Z Z<|ae<|y1 Z<|yP Z<|yT<|az Z ?_;refine aa (fun g2=>?_) (fun g2=>?_) <;> try simp only[zB] at g2)
  ·(refine yS<|yA Z<|yT<|bP<|aX<|bW<|aX<|aX<|bW<|aX<|bQ zi ?_;refine And.intro ?_ trivial)
   rw[if_neg (by simp[g2])] at cf
   rw[bad (by rw[cf];decide),cf];rfl
  rw[if_pos (by simp[g1,g2])] at cf
  (refine aJ<|aj<|au<|cH [] false yz rfl (by kernel_rfl)<|cG Z<|yD Z<|yD Z<|yD Z<|dg Z ?_;refine aa (fun g3=>?_) (fun g3=>?_) <;> try simp only[zB] at g3)
  ·obtain⟨d,hd⟩:=bh (l:=cs) (i:=i - 1) (by omega)
   (refine bS<|c_ Z<|aA zI<|bB<|ak<|d1 Z<|d1 Z<|d1 Z<|d2 Z<|c_ Z<|bg zI ?_;refine sI ?_)
   (refine bB<|ae<|d2 Z<|c_ Z<|aK zI ?_;refine⟨(kl d),(idx (show (i:Int) - 1=((i - 1:Nat):Int) by omega) hd),?_⟩)
   rw[bn d hd (by omega)] at cf
   (refine bB<|ae<|d1 Z<|d1 Z<|d1 Z<|yD Z<|cn<|fo Z<|aj<|az Z ?_;refine aa (fun g4=>?_) (fun g4=>?_) <;> try simp only[zB] at g4)
   ·(refine yS<|yA Z<|yT<|bP<|bW<|aX<|aX<|bW<|aX<|bQ zi ?_;refine And.intro ?_ trivial)
    have g4:(oN c.name d.name || decide (c.name=d.name))=true:=by simpa [oN] using g4
    rw[g4,if_pos rfl] at cf
    rw[bad (by rw[cf];decide),cf];rfl
   have g4:(oN c.name d.name || decide (c.name=d.name))=false:=by simpa [oN] using g4
   rw[g4,if_neg (by decide)] at cf
   (refine aJ<|bp<|aj<|aM<|yq Z<|bg zI ?_;refine sI ?_)
   (refine yk<|yP Z<|yT<|ai ?_;refine⟨(i+1,wk),_,aW.refl _ _,?_⟩)
   exact⟨⟨by omega,Lb cf,s1⟩,by omega,⟨Z,Z,Z,Z,Z,Y⟩,⟨Z,Y⟩⟩
  have h0:i=0:=by omega
  have bk:gJ (cs.map Class.name) i=false:=by
   subst h0
   simp only[gJ,List.getElem?_map,hc]
   rfl
  rw[bk,if_neg (by decide)] at cf
  ((refine cB<|ae<|d0 Z<|d0 Z<|d0 Z<|d0 Z<|d0 Z<|d0 Z<|d0 Z<|d0 Z<|yD Z<|cn<|fo Z<|aj ?_;refine az Z<|cM<|aJ<|bp<|aj<|aM<|yq Z<|bg zI ?_);refine sI ?_)
  (refine yk<|yP Z<|yT<|ai ?_;refine⟨(i+1,wk),_,aW.refl _ _,?_⟩)
  exact⟨⟨by omega,Lb cf,s1⟩,by omega,⟨Z,Z,Z,Z,Z,Y⟩,⟨Z,Y⟩⟩
 have e1:i=cs.length:=by simp only at q1;omega
 (refine bT<|aY<|aY<|bU<|aj<|yS<|yA Z<|yR zi ?_;refine And.intro ?_ trivial)
 rw[i_ fun k _ hk=>q2 k (by simp only;omega)]
 rfl
def eV (al:List kd) (i:Nat):Int:=match al[i]? with
 | some a=>if (decide (-1<=a.layer) && decide (a.layer<=15))=true then (if Reg.aH a.region=0 then (if di a.clearance=true then 0 else 1) else Reg.aH a.region) else 1
 | none=>0
def fV:List kd->Nat
 | []=>0
 | a::r=>a.region.length+fV r
theorem A0 (a b:List kd):fV (a++b)=fV a+fV b:=by
 induction a with
 | nil=>simp[fV]
 | cons x r ih=>simp[fV,ih];omega
def ke (r:bR):Bool:=di r.clearance && di r.width && di r.ring && di r.edge && di r.holeGap
def fc (cs:List Class):Int:=if 50 < cs.length then 2 else dY (dD cs) 0 cs.length
def kf (al:List kd):Int:=if 50 < al.length then 2 else if dY (eV al) 0 al.length=0 then (if 2000 < fV al then 2 else 0) else dY (eV al) 0 al.length
def cK (r:bR):Int:=if ke r=true then (if fc r.classes=0 then kf r.areas else fc r.classes) else 1
theorem C2 {l:List aB} (h:Reg.aH l=0):l.length<=1000000:=by
 unfold Reg.aH at h
 by_cases h0:Reg.dh l=0
 ·have:=(Reg.jY h0).1
  omega
 rw[if_neg h0] at h;exact absurd h h0
def ic (r:bR):Prop:=(∀c∈r.classes,Ei c)/\r.classes.length<=1048576/\r.areas.length<=1048576
def Y_ (r:bR):List AV:=[.p (i64 r.clearance),.p (i64 r.width),.p (i64 r.ring),.p (i64 r.edge),.p (i64 r.holeGap),.p (.sl (r.classes.map kl)),.p (.sl (r.areas.map arr))]
theorem lU (r:bR) (ho:ic r):aD C 47 [.pv (.ag (rl r))] (.p (i64 (cK r))) []:=by
 refine aT hC Tryz.func47 rfl rfl 59 rfl (by decide) (by kernel_rfl) fun _ _ _ _ _=>?_
 obtain⟨o1,o2,o3⟩:=ho
 ((refine yS<|yn Z<|aA zI<|aS<|ak<|yA Z<|yT<|au<|yS<|yV Z<|yP Z<|yV Z<|yP Z<|yV Z ?_;refine yP Z<|yV Z<|yP Z<|yV Z<|yP Z<|yn Z<|aA zI<|aS<|af<|yn Z<|aK zI ?_);refine⟨_,_,(yM [r.clearance,r.width,r.ring,r.edge,r.holeGap] (by simp)),?_⟩)
 have nb:([r.clearance,r.width,r.ring,r.edge,r.holeGap].any fun n=>!di n)=!ke r:=by
  simp[ke,Bool.not_and,Bool.or_assoc]
 rw[nb]
 (refine b9 Z Z<|ae<|yT<|az Z ?_;refine aa (fun h0=>?_) (fun h0=>?_) <;> try simp only[zB] at h0)
 ·(refine yS<|yA Z<|yT<|bP<|aX<|bQ zi ?_;refine And.intro ?_ trivial)
  rw[cK,if_neg (by simp[h0])];rfl
 rw[cK,if_pos (by simpa using h0)]
 (refine aJ<|aj<|au<|yS<|yV Z<|yP Z<|yn Z<|aK zI ?_;refine⟨_,_,(pK r.classes o1 o2),?_⟩)
 (refine b9 Z Z<|ae<|yA Z<|yU<|yP Z<|yP Z<|yT<|az Z ?_;refine aa (fun h1=>?_) (fun h1=>?_) <;> try simp only[zB] at h1)
 ·(refine yS<|yP Z<|yA Z<|yT<|bP<|aX<|bQ zi ?_;refine And.intro ?_ trivial)
  rw[if_neg (show ¬fc r.classes=0 from by simpa [fc] using h1)];rfl
 rw[if_pos (show fc r.classes=0 from by simpa [fc] using h1)]
 have lm:=aN r.areas arr
 (refine aJ<|aj<|au<|yS<|yV Z<|yP Z<|yP Z<|yP Z<|yT<|az Z ?_;refine aa (fun h2=>?_) (fun h2=>?_) <;> try simp only[zB] at h2)
 ·(refine yS<|yA Z<|yT<|bP<|aX<|bQ zi ?_;refine And.intro ?_ trivial)
  rw[kf,if_pos (by omega)];rfl
 rw[kf,if_neg (by omega)]
 refine aJ<|aj<|yS<|yA Z<|yT<|au<|yS<|yV Z<|yP Z<|yP Z<|yP Z<|yT<|aZ ?_
 refine aI (fun i:Nat=>i<=r.areas.length/\(∀k,k < i->eV r.areas k=0)/\fV (r.areas.take i)<=i*1000000) (fun i=>[(4,.p (i64 (fV (r.areas.take i)))),(31,.p (.sl (r.areas.map arr))),(32,.p (i64 (r.areas.map arr).length)),(33,.p (i64 i))]) (fun _=>[]) (fun i=>r.areas.length - i) 0 _ (aW.refl _ _) ⟨Nat.zero_le _,fun k h=>by omega,by simp[fV]⟩ ⟨Z,Z,Z,Z,Y⟩ trivial fun i hi t h=>?_
 obtain⟨q1,q2,q3⟩:=hi
 (refine yS<|yP Z<|yT<|au<|az Z ?_;refine aa (fun h3=>?_) (fun h3=>?_) <;> try simp only[zB] at h3)
 ·obtain⟨a,ha⟩:=bh (l:=r.areas) (i:=i) (by omega)
  have bad:eV r.areas i≠0->dY (eV r.areas) 0 r.areas.length=eV r.areas i:=fun hb=>lS hb (fun k _ hk=>q2 k hk) (Nat.zero_le _) (by omega)
  have cf:eV r.areas i=(if (decide (-1<=a.layer) && decide (a.layer<=15))=true then (if Reg.aH a.region=0 then (if di a.clearance=true then 0 else 1) else Reg.aH a.region) else 1):=by rw[eV,ha]
  have la:=aN a.region rc
  (refine aJ<|aj<|au<|aZ<|yS<|yq Z<|aK zI ?_;refine⟨(arr a),(idx rfl ha),?_⟩)
  ((refine yk<|yP Z<|yn Z<|aA zI<|aS<|ak<|yq Z<|aA zI<|bd<|aF<|an<|yT<|au<|yS ?_;refine yV Z<|yP Z<|yn Z<|aK zI ?_);refine⟨_,_,(mH a.layer (-1) 15),?_⟩)
  (refine b9 Z Z<|ae<|yP Z<|yT<|az Z ?_;refine aa (fun h4=>?_) (fun h4=>?_) <;> try simp only[zB] at h4)
  ·(refine yS<|yA Z<|yT<|bP<|aX<|bW<|aX<|aX<|bW<|aX<|bQ zi ?_;refine And.intro ?_ trivial)
   rw[if_neg (by simpa using h4)] at cf
   rw[bad (by rw[cf];decide),cf];rfl
  rw[if_pos (by simpa using h4)] at cf
  (refine aJ<|aj<|au<|yS<|yV Z<|yP Z<|yn Z<|aK zI ?_;refine⟨_,_,(dt a.region),?_⟩)
  (refine b9 Z Z<|ae<|yA Z<|yU<|yP Z<|yP Z<|yT<|az Z ?_;refine aa (fun h5=>?_) (fun h5=>?_) <;> try simp only[zB] at h5)
  ·(refine yS<|yP Z<|yA Z<|yT<|bP<|aX<|bW<|aX<|aX<|bW<|aX<|bQ zi ?_;refine And.intro ?_ trivial)
   have h5:¬Reg.aH a.region=0:=by simpa using h5
   rw[if_neg h5] at cf
   rw[bad (by rw[cf];exact h5),cf,if_neg h5]
  have h5:Reg.aH a.region=0:=by simpa using h5
  rw[if_pos h5] at cf
  have hl:=C2 h5
  (refine aJ<|aj<|au<|yS<|yV Z<|yP Z<|yn Z<|aK zI ?_;refine⟨_,_,(jD a.clearance),?_⟩)
  (refine b9 Z Z<|ae<|yP Z<|yT<|az Z ?_;refine aa (fun h6=>?_) (fun h6=>?_) <;> try simp only[zB] at h6)
  ·(refine yS<|yA Z<|yT<|bP<|aX<|bW<|aX<|aX<|bW<|aX<|bQ zi ?_;refine And.intro ?_ trivial)
   rw[if_neg (by simp[h6])] at cf
   rw[bad (by rw[cf];decide),cf];rfl
  rw[if_pos (by simpa using h6)] at cf
  have s1:fV (r.areas.take (i+1))=fV (r.areas.take i)+a.region.length:=by
   rw[cw ha,A0];simp[fV]
  (refine aJ<|aj<|aM<|yP Z<|yV Z<|yP Z<|yP Z<|yq Z<|bg zI ?_;refine sI ?_)
  (refine yk<|yA Z<|cL<|bp<|aj<|aM<|yq Z<|bg zI ?_;refine sI ?_)
  (refine yk<|yP Z<|yT<|ai ?_;refine⟨(i+1),_,aW.refl _ _,?_⟩)
  refine⟨⟨by omega,fun k hk=>?_,by omega⟩,by omega,⟨cd (by omega),Z,Z,Z,Y⟩,trivial⟩
  by_cases e:k=i
  ·subst e;exact cf
  exact q2 k (by omega)
 have e:i=r.areas.length:=by omega
 subst e
 have z0:dY (eV r.areas) 0 r.areas.length=0:=i_ fun k _ hk=>q2 k (by omega)
 rw[if_pos z0]
 have tl:r.areas.take r.areas.length=r.areas:=List.take_length
 (refine bT<|aY<|aY<|bU<|aj<|au<|yS<|yP Z<|yP Z<|yT<|az Z ?_;refine aa (fun h7=>?_) (fun h7=>?_) <;> try simp only[zB] at h7)
 ·(refine yS<|yA Z<|yT<|bP<|aX<|bQ zi ?_;refine And.intro ?_ trivial)
  rw[tl] at h7
  rw[if_pos (by omega)];rfl
 (refine aJ<|aj<|yS<|yA Z<|yR zi ?_;refine And.intro ?_ trivial)
 rw[tl] at h7
 rw[if_neg (by omega)];rfl
end M
end Go.Proofs.YtpbkimanfahbgaaGreatDoor
namespace Go.Proofs.YtpbkimanfahbgaaGreatDoor
open Go.ChangeShapes Go.WideShapes Go.ChangeAt Go.RowKit
section
variable {H:Type} {enc:TypeId×Value->H} {P:Program}
theorem wG {f:Func} {s:ChangeSpec} {apart fresh handsOn again:Bool} {W W':World} {args:Array Value} {v:Value} {ds gs:List (DataW H)} {before pa pv:List MemPlace}
  (hW:DataW.Whole enc P f.params.toList s.vars apart W args.toList ds gs before)
  (hres:∀(b:Nat) (sp:Nat->Bool) (hd:Bool),DataW.TrodAll enc P W' b sp hd f.resultTypes.toList (v.resultList f.resultTypes.size) (s.fn H (ds++gs)).results [])
  (hargs:∀sp:Nat->Bool,(∀p∈before,sp p.block=true)->DataW.TrodAll enc P W' 0 sp true f.params.toList args.toList (s.fn H (ds++gs)).args pa)
  (hvars:∀sp:Nat->Bool,(∀p∈before,sp p.block=true)->DataW.TrodVars enc P W' sp s.vars (s.fn H (ds++gs)).vars pv)
  (hps:before=pa++pv) (hb:Below W.heap.size W W')
  (hok:∀(j:Nat) (t:TypeId) (r:Value),f.resultTypes[j]?=some t->(v.resultList f.resultTypes.size)[j]?=some r->Value.okWide P W' .any 0 t r):
  s.post enc P f apart fresh handsOn again W args v W':=by
 have eL:∀p∈before,p.block < W.heap.size:=fun p hp=>hW.lt p hp
 have hold:∀p∈before,(fun b=>decide (b < W.heap.size)) p.block=true:=fun p hp=>by simpa using eL p hp
 refine⟨ds,gs,before,[],pa,pv,hW,hres _ _ _,hargs _ hold,hvars _ hold,World.keptBut_mono (fun p hp=>⟨hp,?_⟩) (hb.frame (·∈before)),fun _=>?_⟩
 ·rw[hps,List.mem_append] at hp
  exact Or.inr hp
 obtain⟨_,_,_,_,_,hz,hn⟩:=hW
 refine⟨hok,_,_,([]++pa)++pv,⟨[]++pa,pv,trodAll_append (hargs _ (fun _ _=>rfl)) (hres _ _ _),hvars _ (fun _ _=>rfl),rfl,?_,?_⟩,?_⟩
 ·intro b off hp
  have p6:MemPlace.cell b off∈before:=by rw[hps];simpa using hp
  rw[hb.frozen (eL _ p6)]
  exact hz b off p6
 ·intro ha
  have:=hn ha
  rw[hps] at this
  simpa using this
 intro p hp _
 rw[hps]
 simpa using hp
theorem tB {C:Checked} {os:Os} {f:FuncId} {fn:Func} {s:OpenSpec} {conds:List PathCond} {apart:Bool} {laid:List (String×DataW Unit)} (w0:World) (args:Array Value) (UO:w0.os=os)
  (hsh:(w0.forCall (fun _ _=>0) ⟨#[],args,[]⟩).Shaped C.prog)
  (hok:Input.okWideB C.prog (w0.forCall (fun _ _=>0) ⟨#[],args,[]⟩) f ⟨#[],args,[]⟩=true)
  (aL:s.preRow enc C.prog fn conds apart laid (w0.forCall (fun _ _=>0) ⟨#[],args,[]⟩).memory args):
  ∃(w:World) (tape:Tape) (i:Input),w.os=os/\(w.forCall tape i).Shaped C.prog/\i.vars=[]/\Input.okWide C.prog (w.forCall tape i) .any w.heap.size f i /\
   s.preRow enc C.prog fn conds apart laid (w.forCall tape i).memory i.args/\({}:Assume).holds C.prog (lone (Frame.enter C.prog f i.args .normal) [] (w.forCall tape i)):=
 ⟨w0,fun _ _=>0,⟨#[],args,[]⟩,UO,hsh,(Input.okWide_of_okWideB (base:=0) hok).1,(Input.okWide_of_okWideB hok).2,aL,by
  simp only[Assume.holds]
  exact⟨by simp,by simp,fun _=>Modest.zero,by simp,by simp⟩⟩
end
theorem own:ownKnob Tryz.prog.godebug=none:=by kernel_rfl
theorem H3 {H:Type} (d:DataW H):1<=Rows.uptoBulk d:=by
 cases d with
 | lit l=>cases l <;> simp[Rows.uptoBulk]
 | nil=>simp[Rows.uptoBulk]
 | ptr d=>simp[Rows.uptoBulk]
 | slice elems spare=>simp[Rows.uptoBulk]
 | agg parts=>simp[Rows.uptoBulk]
 | iface t d=>simp[Rows.uptoBulk]
 | map entries=>simp[Rows.uptoBulk]
 | held h=>simp[Rows.uptoBulk]
theorem r_ {H:Type} {d:DataW H} {l:List (DataW H)} (h:d∈l):Rows.uptoBulk d<=Rows.uptoBulkAll l:=by
 induction l with
 | nil=>cases h
 | cons x r ih=>
  simp only[Rows.uptoBulkAll]
  cases List.mem_cons.1 h with
  | inl e=>subst e;omega
  | inr e=>have:=ih e;omega
theorem ta {H:Type} (bytes:List UInt8):Rows.uptoBulk (DataW.lit (H:=H) (.string bytes))=bytes.length+1:=by
 simp[Rows.uptoBulk]
theorem uY {H:Type} {l:List (DataW H)} (hk:Rows.uptoSmall H l=true):Rows.uptoBulkAll l<=1048576:=of_decide_eq_true hk
end Go.Proofs.YtpbkimanfahbgaaGreatDoor
namespace Go.Proofs.YtpbkimanfahbgaaGreatDoor
namespace M
open Go.AM Go.RowKit Go.Lib
open Reg (aB bC ax)
variable {H:Type} {enc:TypeId×Value->H} {w:World} {S:Nat->Prop}
theorem A1:CW enc Tryz.prog w S 3 1 fun xs d=>∃n:Int,xs=[i64 n]/\d=.lit (.int .i64 n):=JO Tryz.underlying3
theorem OH:CW enc Tryz.prog w S 9 1 fun xs d=>∃s:ByteArray,xs=[str s]/\d=.lit (.string s.data.toList):=JP Tryz.underlying9
theorem H4:CW enc Tryz.prog w S 56 4 fun xs _=>∃r:aB,xs=rc r:=fun n cs x h=>by
 obtain⟨xs,l1,l2,l3,ds,e,ld,q⟩:=iK (S:=S) (Qs:=fun _ xs d=>∃n:Int,xs=[i64 n]/\d=.lit (.int .i64 n)) Tryz.underlying56 (Go.Deep.hone_of (by kernel_rfl)) (by kernel_rfl) (fun i f hf=>by
  match i,hf with
  | 0,hf=>cases hf;exact A1
  | 1,hf=>cases hf;exact A1
  | 2,hf=>cases hf;exact A1
  | 3,hf=>cases hf;exact A1
  | n+4,hf=>cases hf) _ _ _ h
 have l1:xs.length=4:=l1
 have ld:ds.length=4:=ld
 obtain⟨a,b,c,d,rfl⟩:∃a b c d,xs=[a,b,c,d]:=by
  match xs,l1 with
  | [a,b,c,d],_=>exact⟨a,b,c,d,rfl⟩
 obtain⟨a',b',c',d',rfl⟩:∃a b c d,ds=[a,b,c,d]:=by
  match ds,ld with
  | [a,b,c,d],_=>exact⟨a,b,c,d,rfl⟩
 obtain⟨n0,e0,_⟩:=q 0 _ _ rfl rfl
 obtain⟨n1,e1,_⟩:=q 1 _ _ rfl rfl
 obtain⟨n2,e2,_⟩:=q 2 _ _ rfl rfl
 obtain⟨n3,e3,_⟩:=q 3 _ _ rfl rfl
 cases e0;cases e1;cases e2;cases e3
 exact⟨_,rfl,l2,l3,⟨n0,n1,n2,n3⟩,rfl⟩
abbrev Sp (enc:TypeId×Value->H) (w:World) (S:Nat->Prop) (t:TypeId) (k:Nat) {γ:Type} (f:γ->List PV) (B:γ->Nat->Prop):Prop:=CW enc Tryz.prog w S t k fun xs d=>∃r,xs=f r/\B r (Rows.uptoBulk d)
theorem pL:Sp enc w S 3 1 (fun n=>[i64 n]) fun _ _=>True:=fun n cs x h=>by
 obtain⟨xs,l1,l2,l3,z,e,_⟩:=A1 (S:=S) n cs x h
 exact⟨xs,l1,l2,l3,z,e,trivial⟩
theorem JZ:Sp enc w S 9 1 (fun s=>[str s]) fun s n=>s.size<=n:=fun n cs x h=>by
 obtain⟨xs,l1,l2,l3,z,e,d⟩:=OH (S:=S) n cs x h
 refine⟨xs,l1,l2,l3,z,e,?_⟩
 rw[d,ta]
 have:z.data.toList.length=z.size:=by simp
 omega
theorem Ej {α γ:Type} {f:γ->α} {B:γ->Nat->Prop} (hm:∀r m n,m<=n->B r m->B r n):∀{es:List α} {ds:List (DataW H)},es.length=ds.length->(∀(i:Nat) x y,es[i]?=some x->ds[i]?=some y->∃r,x=f r/\B r (Rows.uptoBulk y))->∃l:List γ,es=l.map f/\l.length<=Rows.uptoBulkAll ds/\∀r∈l,B r (Rows.uptoBulkAll ds)
 | [],_,_,_=>⟨[],rfl,Nat.zero_le _,fun r h=>by cases h⟩
 | x::es,[],hl,_=>by cases hl
 | x::es,y::ds,hl,h=>by
  obtain⟨r,rfl,hr⟩:=h 0 x y rfl rfl
  obtain⟨l,rfl,h1,h2⟩:=Ej hm (es:=es) (ds:=ds) (by simpa using hl) (fun i a b h1 h2=>h (i+1) a b (by simpa using h1) (by simpa using h2))
  have e:Rows.uptoBulkAll (y::ds)=Rows.uptoBulk y+Rows.uptoBulkAll ds:=by simp only[Rows.uptoBulkAll]
  have b1:=H3 y
  refine⟨r::l,rfl,by rw[List.length_cons];omega,fun q hq=>?_⟩
  rcases List.mem_cons.1 hq with h | h
  ·subst h;exact hm _ _ _ (by omega) hr
  exact hm _ _ _ (by omega) (h2 q h)
theorem kg {t e:TypeId} {k:Nat} {γ:Type} {f:γ->List PV} {B:γ->Nat->Prop} (ht:Tryz.prog.underlying t=some (.slice e)) (hc:Tryz.prog.cellsOf e=k) (hk:0 < k) (hS:∀b,b < w.heap.size->S b) (hm:∀r m n,m<=n->B r m->B r n) (he:Sp enc w S e k f B):
  Sp enc w S t 1 (fun l:List γ=>[.sl (l.map f)]) fun l n=>l.length<=n/\∀r∈l,B r n:=fun n cs x h=>by
 obtain⟨xs,l1,l2,l3,es,ds,sp,rfl,hl,hd,q⟩:=Fw ht hc hk hS he _ _ _ h
 obtain⟨l,rfl,b1,b2⟩:=Ej hm hl q
 have hb:Rows.uptoBulkAll ds<=Rows.uptoBulk x.1:=by
  rcases hd with⟨h1,h2⟩ | h1
  ·rw[h2];exact Nat.zero_le _
  rw[h1];simp only[Rows.uptoBulk];omega
 exact⟨_,l1,l2,l3,l,rfl,by omega,fun r hr=>hm _ _ _ hb (b2 r hr)⟩
theorem kW {ds:List (DataW H)} {i:Nat} {y:DataW H} (h:ds[i]?=some y):Rows.uptoBulk y<=Rows.uptoBulk (.agg ds):=by
 have:=r_ (List.mem_of_getElem? h)
 simp only[Rows.uptoBulk]
 omega
theorem J0:Sp enc w S 56 4 rc fun _ _=>True:=fun n cs x h=>by
 obtain⟨xs,l1,l2,l3,r,e⟩:=H4 (S:=S) n cs x h
 exact⟨xs,l1,l2,l3,r,e,trivial⟩
theorem uZ (hS:∀b,b < w.heap.size->S b):Sp enc w S 27 1 (fun l=>[aV l]) fun l n=>l.length<=n/\∀r∈l,True:=kg (k:=4) Tryz.underlying27 (by kernel_rfl) (by decide) hS (fun _ _ _ _ h=>h) J0
theorem Ek (hS:∀b,b < w.heap.size->S b):Sp enc w S 32 1 (fun l=>[strs l]) fun l n=>l.length<=n/\∀s∈l,s.size<=n:=kg (k:=1) Tryz.underlying32 (by kernel_rfl) (by decide) hS (fun _ _ _ h1 h2=>Nat.le_trans h2 h1) JZ
theorem J1 (hS:∀b,b < w.heap.size->S b):Sp enc w S 138 3 arr fun _ _=>True:=fun n cs x h=>by
 obtain⟨xs,l1,l2,l3,ds,e,ld,q⟩:=iK (S:=S) (Qs:=fun i xs d=>match i with
   | 1=>∃r,xs=[aV r]/\(r.length<=Rows.uptoBulk d/\∀z∈r,True)
   | _=>∃r,xs=[i64 r]/\True) Tryz.underlying138 (Go.Deep.hone_of (by kernel_rfl)) (by kernel_rfl) (fun i f hf=>by
  match i,hf with
  | 0,hf=>cases hf;exact pL
  | 1,hf=>cases hf;exact uZ hS
  | 2,hf=>cases hf;exact pL
  | n+3,hf=>cases hf) _ _ _ h
 have l1:xs.length=3:=l1
 have ld:ds.length=3:=ld
 obtain⟨a,b,c,rfl⟩:∃a b c,xs=[a,b,c]:=by
  match xs,l1 with
  | [a,b,c],_=>exact⟨a,b,c,rfl⟩
 obtain⟨a',b',c',rfl⟩:∃a b c,ds=[a,b,c]:=by
  match ds,ld with
  | [a,b,c],_=>exact⟨a,b,c,rfl⟩
 obtain⟨n0,e0,_⟩:=q 0 _ _ rfl rfl
 obtain⟨n1,e1,_⟩:=q 1 _ _ rfl rfl
 obtain⟨n2,e2,_⟩:=q 2 _ _ rfl rfl
 cases e0;cases e1;cases e2
 exact⟨_,rfl,l2,l3,⟨n0,n1,n2⟩,Z,Y⟩
def qI (c:Class) (n:Nat):Prop:=c.name.size<=n/\c.nets.length<=n/\∀s∈c.nets,s.size<=n
theorem mN (c:Class) (m n:Nat) (h:m<=n):qI c m->qI c n:=fun ⟨h1,h2,h3⟩=>⟨by omega,by omega,fun s hs=>Nat.le_trans (h3 s hs) h⟩
theorem H5 (hS:∀b,b < w.heap.size->S b):Sp enc w S 136 4 kl qI:=fun n cs x h=>by
 obtain⟨xs,l1,l2,l3,ds,e,ld,q⟩:=iK (S:=S) (Qs:=fun i xs d=>match i with
   | 0=>∃r,xs=[str r]/\r.size<=Rows.uptoBulk d
   | 1=>∃r,xs=[strs r]/\(r.length<=Rows.uptoBulk d/\∀s∈r,s.size<=Rows.uptoBulk d)
   | _=>∃r,xs=[i64 r]/\True) Tryz.underlying136 (Go.Deep.hone_of (by kernel_rfl)) (by kernel_rfl) (fun i f hf=>by
  match i,hf with
  | 0,hf=>cases hf;exact JZ
  | 1,hf=>cases hf;exact Ek hS
  | 2,hf=>cases hf;exact pL
  | 3,hf=>cases hf;exact pL
  | n+4,hf=>cases hf) _ _ _ h
 have l1:xs.length=4:=l1
 have ld:ds.length=4:=ld
 obtain⟨a,b,c,d,rfl⟩:∃a b c d,xs=[a,b,c,d]:=by
  match xs,l1 with
  | [a,b,c,d],_=>exact⟨a,b,c,d,rfl⟩
 obtain⟨a',b',c',d',rfl⟩:∃a b c d,ds=[a,b,c,d]:=by
  match ds,ld with
  | [a,b,c,d],_=>exact⟨a,b,c,d,rfl⟩
 obtain⟨n0,e0,p0⟩:=q 0 _ _ rfl rfl
 obtain⟨n1,e1,p1,p2⟩:=q 1 _ _ rfl rfl
 obtain⟨n2,e2,_⟩:=q 2 _ _ rfl rfl
 obtain⟨n3,e3,_⟩:=q 3 _ _ rfl rfl
 cases e0;cases e1;cases e2;cases e3
 have i0:=kW (ds:=[a',b',c',d']) (i:=0) rfl
 have i1:=kW (ds:=[a',b',c',d']) (i:=1) rfl
 rw[<-e] at i0 i1
 exact⟨_,rfl,l2,l3,⟨n0,n1,n2,n3⟩,rfl,by exact Nat.le_trans p0 i0,by exact Nat.le_trans p1 i1,fun s hs=>Nat.le_trans (p2 s hs) i1⟩
def tT (r:bR) (n:Nat):Prop:=r.classes.length<=n/\r.areas.length<=n/\∀c∈r.classes,qI c n
theorem H6 (hS:∀b,b < w.heap.size->S b):Sp enc w S 25 7 rl tT:=fun n cs x h=>by
 obtain⟨xs,l1,l2,l3,ds,e,ld,q⟩:=iK (S:=S) (Qs:=fun i xs d=>match i with
   | 5=>∃r:List Class,xs=[.sl (r.map kl)]/\(r.length<=Rows.uptoBulk d/\∀c∈r,qI c (Rows.uptoBulk d))
   | 6=>∃r:List kd,xs=[.sl (r.map arr)]/\(r.length<=Rows.uptoBulk d/\∀c∈r,True)
   | _=>∃r,xs=[i64 r]/\True) Tryz.underlying25 (Go.Deep.hone_of (by kernel_rfl)) (by kernel_rfl) (fun i f hf=>by
  match i,hf with
  | 0,hf=>cases hf;exact pL
  | 1,hf=>cases hf;exact pL
  | 2,hf=>cases hf;exact pL
  | 3,hf=>cases hf;exact pL
  | 4,hf=>cases hf;exact pL
  | 5,hf=>cases hf;exact kg (k:=4) Tryz.underlying22 (by kernel_rfl) (by decide) hS mN (H5 hS)
  | 6,hf=>cases hf;exact kg (k:=3) Tryz.underlying23 (by kernel_rfl) (by decide) hS (fun _ _ _ _ h=>h) (J1 hS)
  | n+7,hf=>cases hf) _ _ _ h
 have l1:xs.length=7:=l1
 have ld:ds.length=7:=ld
 obtain⟨x0,x1,x2,x3,x4,x5,x6,rfl⟩:∃a b c d e f g,xs=[a,b,c,d,e,f,g]:=by
  match xs,l1 with
  | [a,b,c,d,e,f,g],_=>exact⟨a,b,c,d,e,f,g,rfl⟩
 obtain⟨y0,y1,y2,y3,y4,y5,y6,rfl⟩:∃a b c d e f g,ds=[a,b,c,d,e,f,g]:=by
  match ds,ld with
  | [a,b,c,d,e,f,g],_=>exact⟨a,b,c,d,e,f,g,rfl⟩
 obtain⟨n0,e0,_⟩:=q 0 _ _ rfl rfl
 obtain⟨n1,e1,_⟩:=q 1 _ _ rfl rfl
 obtain⟨n2,e2,_⟩:=q 2 _ _ rfl rfl
 obtain⟨n3,e3,_⟩:=q 3 _ _ rfl rfl
 obtain⟨n4,e4,_⟩:=q 4 _ _ rfl rfl
 obtain⟨n5,e5,p1,p2⟩:=q 5 _ _ rfl rfl
 obtain⟨n6,e6,p3,_⟩:=q 6 _ _ rfl rfl
 cases e0;cases e1;cases e2;cases e3;cases e4;cases e5;cases e6
 have i0:=kW (ds:=[y0,y1,y2,y3,y4,y5,y6]) (i:=5) rfl
 have i1:=kW (ds:=[y0,y1,y2,y3,y4,y5,y6]) (i:=6) rfl
 rw[<-e] at i0 i1
 exact⟨_,rfl,l2,l3,⟨n0,n1,n2,n3,n4,n5,n6⟩,rfl,by exact Nat.le_trans p1 i0,by exact Nat.le_trans p3 i1,fun c hc=>mN c _ _ i0 (p2 c hc)⟩
theorem A2:Sp enc w S 49 2 (fun p:Int×Int=>[i64 p.1,i64 p.2]) fun _ _=>True:=fun n cs x h=>by
 obtain⟨xs,l1,l2,l3,ds,e,ld,q⟩:=iK (S:=S) (Qs:=fun i xs d=>∃r,xs=[i64 r]/\True) Tryz.underlying49 (Go.Deep.hone_of (by kernel_rfl)) (by kernel_rfl) (fun i f hf=>by
  match i,hf with
  | 0,hf=>cases hf;exact pL
  | 1,hf=>cases hf;exact pL
  | n+2,hf=>cases hf) _ _ _ h
 have l1:xs.length=2:=l1
 have ld:ds.length=2:=ld
 obtain⟨a,b,rfl⟩:∃a b,xs=[a,b]:=by
  match xs,l1 with
  | [a,b],_=>exact⟨a,b,rfl⟩
 obtain⟨a',b',rfl⟩:∃a b,ds=[a,b]:=by
  match ds,ld with
  | [a,b],_=>exact⟨a,b,rfl⟩
 obtain⟨n0,e0,_⟩:=q 0 _ _ rfl rfl
 obtain⟨n1,e1,_⟩:=q 1 _ _ rfl rfl
 cases e0;cases e1
 exact⟨_,rfl,l2,l3,(n0,n1),Z,Y⟩
theorem H7 {r:bR} (h:tT r 1048576):ic r:=⟨fun c hc=>by
  obtain⟨h1,h2,h3⟩:=h.2.2 c hc
  exact⟨Nat.lt_of_le_of_lt h1 (by decide),h2,fun s hs=>Nat.lt_of_le_of_lt (h3 s hs) (by decide)⟩,h.1,h.2.1⟩
theorem zb (r:bR) (m n:Nat) (h:m<=n):tT r m->tT r n:=fun ⟨h1,h2,h3⟩=>⟨by omega,by omega,fun c hc=>mN c _ _ h (h3 c hc)⟩
theorem zd {d:DataW H} {l:List (DataW H)} (hk:Rows.uptoSmall H l=true) (h:d∈l):Rows.uptoBulk d<=1048576:=Nat.le_trans (r_ h) (uY hk)
theorem xw {P:Program} (hl:laidOutB P=true) {W W':World} (hb:Below W.heap.size W W'):∀{ts:List TypeId} {vs:List Value} {ds:List (DataW H)} {ps:List MemPlace},(ts.all fun t=>P.readableRec t && decide (t < P.types.size))=true->DataW.TrodAll enc P W 0 (fun _=>true) true ts vs ds ps->(∀p∈ps,p.block < W.heap.size)->∀sp:Nat->Bool,(∀p∈ps,sp p.block=true)->DataW.TrodAll enc P W' 0 sp true ts vs ds ps
 | [],[],[],_,_,h,_,_,_=>h
 | t::ts,v::vs,d::ds,ps,ht,h,eL,sp,hs=>by
  obtain⟨p,q,h1,h2,rfl⟩:=h
  simp only[List.all_cons,Bool.and_eq_true,decide_eq_true_eq] at ht
  have Gd:(ts.all fun t=>P.readableRec t && decide (t < P.types.size))=true:=by simpa using ht.2
  exact⟨p,q,Go.WideElems.Trod_stays hl ht.1.1 ht.1.2 h1 (fun x hx=>hb.same (eL x (List.mem_append_left _ hx))) (fun x hx=>hs x (List.mem_append_left _ hx)),
   xw hl hb Gd h2 (fun x hx=>eL x (List.mem_append_right _ hx)) sp (fun x hx=>hs x (List.mem_append_right _ hx)),rfl⟩
 | [],_::_,_,_,_,h,_,_,_=>h.elim
 | [],[],_::_,_,_,h,_,_,_=>h.elim
 | _::_,[],_,_,_,h,_,_,_=>h.elim
 | _::_,_::_,[],_,_,h,_,_,_=>h.elim
theorem A3 {W : World} (h1 : ∃ m : Int, W.cell? ⟨0, 0, none⟩ = some (.int .i64 m)) (h2 : Lib.TabIs Tryz.prog W "internal/strconv.uint64pow10" .u64 Lib.pow10Tab) : Env (fun b => b < W.heap.size) W := by
 refine⟨?_,block_lt_of_cell (h2.cell Mw 0 (by decide)),h1,h2⟩
 obtain⟨m,hm⟩:=h1
 exact block_lt_of_cell hm
theorem OI:laidOutB Tryz.prog=true:=by kernel_rfl
theorem zf {s:ByteArray} (h:s.size<=1048576):jv s:=Nat.lt_of_le_of_lt h (by decide)
end M
namespace Reg
def par:List Int->Int->Bool
 | [],_=>false
 | c::a,x=>Bool.xor (decide (c<=x)) (par a x)
theorem mO {a:List Int} {x:Int} (h:∀c∈a,x < c):par a x=false:=by
 induction a with
 | nil=>rfl
 | cons c a ih=>
  have h1:=h c (by simp)
  rw[par,ih (fun d hd=>h d (by simp[hd])),decide_eq_false (by omega)]
  rfl
theorem sa {a:List Int} {x:Int} (h:∀c∈a,c<=x):par a x=decide (a.length % 2=1):=by
 induction a with
 | nil=>rfl
 | cons c a ih=>
  have h1:=h c (by simp)
  rw[par,ih (fun d hd=>h d (by simp[hd])),decide_eq_true h1,List.length_cons]
  rcases Nat.mod_two_eq_zero_or_one a.length with e | e
  ·rw[decide_eq_false (by omega),decide_eq_true (by omega)];rfl
  rw[decide_eq_true (by omega),decide_eq_false (by omega)];rfl
theorem cT.tail {c:Int} {a:List Int} (h:cT (c::a)):cT a:=(List.pairwise_cons.1 h).2
theorem cT.behind {c:Int} {a:List Int} (h:cT (c::a)):∀d∈a,c < d:=(List.pairwise_cons.1 h).1
def fW:List Int->List Int->Option Int
 | [],[]=>none
 | p::_,[]=>some p
 | [],q::_=>some q
 | p::_,q::_=>some (if p<=q then p else q)
def dy (x:Int):List Int->Bool->List Int×Bool
 | [],s=>([],s)
 | p::r,s=>if p=x then (r,!s) else (p::r,s)
theorem xx {x:Int} {a:List Int} {s:Bool} (ha:cT a) (hx:∀c∈a,x<=c):cT (dy x a s).1/\(∀c∈(dy x a s).1,x < c/\c∈a)/\(∀y,x<=y->Bool.xor (dy x a s).2 (par (dy x a s).1 y)=Bool.xor s (par a y))/\(dy x a s).1.length<=a.length/\(a.head?=some x->(dy x a s).1.length+1=a.length):=by
 cases a with
 | nil=>exact⟨ha,fun c h=>by simp[dy] at h,fun y _=>rfl,Nat.le_refl _,fun h=>by cases h⟩
 | cons p r=>
  by_cases e:p=x
  ·subst e
   have e1:dy p (p::r) s=(r,!s):=by simp[dy]
   rw[e1]
   refine⟨ha.tail,fun c hc=>⟨ha.behind c hc,by simp[hc]⟩,fun y hy=>?_,by simp,fun _=>rfl⟩
   rw[par,decide_eq_true hy]
   cases s <;> cases par r y <;> rfl
  have e1:dy x (p::r) s=(p::r,s):=by simp[dy,e]
  rw[e1]
  refine⟨ha,fun c hc=>⟨?_,hc⟩,fun y hy=>rfl,Nat.le_refl _,fun h=>absurd (by simpa using h) e⟩
  have h1:=hx p (by simp)
  rcases List.mem_cons.1 hc with h | h
  ·omega
  have:=ha.behind c h
  omega
def cF (k:Bool->Bool->Bool):Nat->List Int->List Int->Bool->Bool->Bool->List Int
 | 0,_,_,_,_,_=>[]
 | n+1,a,b,ia,ib,is=>match fW a b with
  | none=>[]
  | some x=>if k (dy x a ia).2 (dy x b ib).2=is then cF k n (dy x a ia).1 (dy x b ib).1 (dy x a ia).2 (dy x b ib).2 is
   else x::cF k n (dy x a ia).1 (dy x b ib).1 (dy x a ia).2 (dy x b ib).2 (k (dy x a ia).2 (dy x b ib).2)
def dV (k:Bool->Bool->Bool) (a b:List Int):List Int:=cF k (a.length+b.length) a b false false false
theorem C3 {a b:List Int} (ha:cT a) (hb:cT b):match fW a b with
  | none=>a=[]/\b=[]
  | some x=>(∀c∈a,x<=c)/\(∀c∈b,x<=c)/\(a.head?=some x\/b.head?=some x):=by
 cases a with
 | nil=>
  cases b with
  | nil=>exact⟨rfl,rfl⟩
  | cons q u=>
   show (∀c∈([]:List Int),q<=c)/\(∀c∈q::u,q<=c)/\(([]:List Int).head?=some q\/(q::u).head?=some q)
   refine⟨fun c h=>(by cases h),fun c h=>?_,.inr rfl⟩
   rcases List.mem_cons.1 h with h | h
   ·omega
   have:=hb.behind c h;omega
 | cons p r=>
  cases b with
  | nil=>
   show (∀c∈p::r,p<=c)/\(∀c∈([]:List Int),p<=c)/\((p::r).head?=some p\/([]:List Int).head?=some p)
   refine⟨fun c h=>?_,fun c h=>(by cases h),.inl rfl⟩
   rcases List.mem_cons.1 h with h | h
   ·omega
   have:=ha.behind c h;omega
  | cons q u=>
   have h1:∀c∈p::r,p<=c:=fun c h=>by
    rcases List.mem_cons.1 h with h | h
    ·omega
    have:=ha.behind c h;omega
   have h2:∀c∈q::u,q<=c:=fun c h=>by
    rcases List.mem_cons.1 h with h | h
    ·omega
    have:=hb.behind c h;omega
   by_cases e:p<=q
   ·simp only[fW,if_pos e]
    exact⟨h1,fun c h=>by have:=h2 c h;omega,.inl rfl⟩
   simp only[fW,if_neg e]
   exact⟨fun c h=>by have:=h1 c h;omega,h2,.inr rfl⟩
theorem C4 (k:Bool->Bool->Bool):∀(n:Nat) (a b:List Int) (ia ib is:Bool),a.length+b.length<=n->cT a->cT b->is=k ia ib ->
  cT (cF k n a b ia ib is)/\(∀c∈cF k n a b ia ib is,c∈a\/c∈b)/\(∀y,Bool.xor is (par (cF k n a b ia ib is) y)=k (Bool.xor ia (par a y)) (Bool.xor ib (par b y))):=by
 intro n
 induction n with
 | zero=>
  intro a b ia ib is hn _ _ he
  have ea:a=[]:=List.eq_nil_of_length_eq_zero (by omega)
  have eb:b=[]:=List.eq_nil_of_length_eq_zero (by omega)
  subst ea eb
  exact⟨List.Pairwise.nil,fun c h=>by simp[cF] at h,fun y=>by simp[cF,par,he]⟩
 | succ n ih=>
  intro a b ia ib is hn ha hb he
  have hx:=C3 ha hb
  unfold cF
  cases hc:fW a b with
  | none=>
   rw[hc] at hx
   obtain⟨rfl,rfl⟩:=hx
   exact⟨List.Pairwise.nil,fun c h=>by simp at h,fun y=>by simp[par,he]⟩
  | some x=>
   rw[hc] at hx
   obtain⟨xa,xb,xh⟩:=hx
   obtain⟨a1,a2,a3,a4,a5⟩:=xx (s:=ia) ha xa
   obtain⟨b1,b2,b3,b4,b5⟩:=xx (s:=ib) hb xb
   have w_:(dy x a ia).1.length+(dy x b ib).1.length<=n:=by
    rcases xh with h | h
    ·have:=a5 h;omega
    have:=b5 h;omega
   simp only
   have early:∀y,y < x->k (Bool.xor ia (par a y)) (Bool.xor ib (par b y))=is:=fun y hy=>by
    rw[mO (fun c h=>by have:=xa c h;omega),mO (fun c h=>by have:=xb c h;omega),he];simp
   split
   ·rename_i hk
    obtain⟨i1,i2,i3⟩:=ih _ _ _ _ is w_ a1 b1 hk.symm
    refine⟨i1,fun c h=>?_,fun y=>?_⟩
    ·rcases i2 c h with h | h
     ·exact .inl (a2 c h).2
     exact .inr (b2 c h).2
    by_cases hy:x<=y
    ·rw[i3 y,a3 y hy,b3 y hy]
    rw[early y (by omega),mO (fun c h=>by
     rcases i2 c h with h | h
     ·have:=(a2 c h).1;omega
     have:=(b2 c h).1;omega)]
    simp
   rename_i hk
   obtain⟨i1,i2,i3⟩:=ih _ _ _ _ (k (dy x a ia).2 (dy x b ib).2) w_ a1 b1 rfl
   have up:∀c∈cF k n (dy x a ia).1 (dy x b ib).1 (dy x a ia).2 (dy x b ib).2 (k (dy x a ia).2 (dy x b ib).2),x < c:=fun c h=>by
    rcases i2 c h with h | h
    ·exact (a2 c h).1
    exact (b2 c h).1
   refine⟨List.pairwise_cons.2 ⟨up,i1⟩,fun c h=>?_,fun y=>?_⟩
   ·rcases List.mem_cons.1 h with h | h
    ·subst h
     rcases xh with h | h
     ·exact .inl (List.mem_of_mem_head? (by rw[h];rfl))
     exact .inr (List.mem_of_mem_head? (by rw[h];rfl))
    rcases i2 c h with h | h
    ·exact .inl (a2 c h).2
    exact .inr (b2 c h).2
   by_cases hy:x<=y
   ·rw[<-a3 y hy,<-b3 y hy,<-i3 y,par,decide_eq_true hy]
    revert hk
    cases k (dy x a ia).2 (dy x b ib).2 <;> cases is <;> simp
   rw[early y (by omega),mO (fun c h=>by
    rcases List.mem_cons.1 h with h | h
    ·omega
    have:=up c h;omega)]
   simp
theorem A4 {k:Bool->Bool->Bool} (hk:k false false=false) {a b:List Int} (ha:cT a) (hb:cT b) (ea:a.length % 2=0) (eb:b.length % 2=0):
  cT (dV k a b)/\(∀c∈dV k a b,c∈a\/c∈b)/\(∀y,par (dV k a b) y=k (par a y) (par b y))/\(dV k a b).length % 2=0:=by
 obtain⟨h1,h2,h3⟩:=C4 k _ a b false false false (Nat.le_refl _) ha hb hk.symm
 have h4:∀y,par (dV k a b) y=k (par a y) (par b y):=fun y=>by have:=h3 y;rw[Bool.false_xor,Bool.false_xor,Bool.false_xor] at this;exact this
 refine⟨h1,h2,h4,?_⟩
 obtain⟨m,hm⟩:∃m:Int,(∀c∈a,c<=m)/\∀c∈b,c<=m:=by
  have up:∀l:List Int,∃m:Int,∀c∈l,c<=m:=fun l=>by
   induction l with
   | nil=>exact⟨0,fun c h=>by cases h⟩
   | cons c l ih=>
    obtain⟨m,hm⟩:=ih
    refine⟨max m c,fun d hd=>?_⟩
    rcases List.mem_cons.1 hd with h | h
    ·omega
    have:=hm d h;omega
  obtain⟨m1,g1⟩:=up a
  obtain⟨m2,g2⟩:=up b
  exact⟨max m1 m2,fun c h=>by have:=g1 c h;omega,fun c h=>by have:=g2 c h;omega⟩
 have h5:=h4 m
 rw[sa hm.1,sa hm.2,sa (a:=dV k a b) (fun c h=>(h2 c h).elim (hm.1 c) (hm.2 c)),ea,eb] at h5
 simp[hk] at h5
 omega
def bK:bC->List Int
 | []=>[]
 | p::s=>p.1::p.2::bK s
def pairUp:List Int->bC
 | p::q::r=>(p,q)::pairUp r
 | _=>[]
theorem tb:∀l:List Int,l.length % 2=0->bK (pairUp l)=l
 | [],_=>rfl
 | [_],h=>by simp at h
 | p::q::r,h=>by
  rw[pairUp,bK,tb r (by simp at h ⊢;omega)]
theorem eY (s:bC):(bK s).length=2*s.length:=by
 induction s with
 | nil=>rfl
 | cons p s ih=>simp only[bK,List.length_cons,ih];omega
theorem ja {s:bC} {c:Int}:c∈bK s↔∃p∈s,c=p.1\/c=p.2:=by
 induction s with
 | nil=>simp[bK]
 | cons p s ih=>
  simp only[bK,List.mem_cons,ih]
  constructor
  ·rintro (h | h | ⟨q,hq,h⟩)
   ·exact⟨p,.inl rfl,.inl h⟩
   ·exact⟨p,.inl rfl,.inr h⟩
   exact⟨q,.inr hq,h⟩
  rintro⟨q,rfl | hq,h⟩
  ·rcases h with h | h
   ·exact .inl h
   exact .inr (.inl h)
  exact .inr (.inr ⟨q,hq,h⟩)
theorem kM {s:bC} (h:Canon s):cT (bK s):=by
 induction s with
 | nil=>exact List.Pairwise.nil
 | cons p s ih=>
  have h1:=h.head
  have h2:=h.behind
  have hc:∀d∈bK s,p.2 < d:=fun d hd=>by
   obtain⟨q,hq,e⟩:=ja.1 hd
   have h3:=h2 q hq
   have h4:q.1 < q.2:=by
    clear ih e h1 h2 h3 hd
    have:=h.tail
    clear h
    induction s with
    | nil=>cases hq
    | cons a s UP=>
     rcases List.mem_cons.1 hq with rfl | hq
     ·exact this.head
     exact UP hq this.tail
   omega
  refine List.pairwise_cons.2 ⟨fun d hd=>?_,List.pairwise_cons.2 ⟨hc,ih h.tail⟩⟩
  rcases List.mem_cons.1 hd with h | h
  ·omega
  have:=hc d h;omega
theorem qJ:∀l:List Int,cT l->Canon (pairUp l)
 | [],_=>trivial
 | [_],_=>trivial
 | p::q::r,h=>by
  have h1:=h.behind q (by simp)
  have h2:=h.tail.behind
  refine Canon.cons h1 (fun t ht=>?_) (qJ r h.tail.tail)
  have:∀(l:List Int) (t:Int×Int),t∈pairUp l->t.1∈l:=fun l=>by
   induction l using pairUp.induct with
   | case1 a b l ih=>
    intro t ht
    rw[pairUp,List.mem_cons] at ht
    rcases ht with h | h
    ·subst h;simp
    have:=ih t h;simp[this]
   | case2 l hl=>intro t ht;rw[pairUp] at ht;cases ht;exact hl
  exact h2 _ (this r t ht)
theorem dn {s:bC} (h:Canon s) (x:Int):par (bK s) x=true↔cover s x:=by
 induction s with
 | nil=>simp[bK,par,fu]
 | cons p s ih=>
  have h1:=h.head
  rw[bK,par,par,bN,<-ih h.tail]
  by_cases e1:p.1<=x
  ·by_cases e2:p.2<=x
   ·rw[decide_eq_true e1,decide_eq_true e2]
    simp
    omega
   have hn:par (bK s) x=false:=by
    rw[Bool.eq_false_iff]
    intro hp
    exact h.iH (x:=x) (by omega) ((ih h.tail).1 hp)
   rw[hn,decide_eq_true e1,decide_eq_false e2]
   simp
   omega
  have hn:par (bK s) x=false:=by
   rw[Bool.eq_false_iff]
   intro hp
   exact h.iH (x:=x) (by omega) ((ih h.tail).1 hp)
  rw[hn,decide_eq_false e1,decide_eq_false (by omega)]
  simp
  omega
def at' (s:List ax) (x y:Int):Bool:=s.any fun b=>decide (b.y0<=y) && decide (y < b.y1) && par (bK b.xs) x
theorem sd {s:List ax} {x y:Int}:at' s x y=true↔∃b∈s,b.y0<=y/\y < b.y1/\par (bK b.xs) x=true:=by
 simp[at',List.any_eq_true,and_assoc]
theorem iL (s t:List ax) (x y:Int):at' (s++t) x y=(at' s x y || at' t x y):=by simp[at',List.any_append]
theorem at_one (b:ax) (x y:Int):at' [b] x y=(decide (b.y0<=y) && decide (y < b.y1) && par (bK b.xs) x):=by simp[at']
theorem iM {s:List ax} {x y:Int} (h:∀b∈s,y < b.y0\/b.y1<=y):at' s x y=false:=by
 rw[Bool.eq_false_iff]
 intro hp
 obtain⟨b,hb,h1,h2,_⟩:=sd.1 hp
 rcases h b hb with h | h <;> omega
structure A5 (b:ax):Prop where
 lt:b.y0 < b.y1
 ne:b.xs≠[]
 can:Canon b.xs
def hZ:List ax->Prop
 | []=>True
 | [b]=>A5 b
 | b::c::r=>A5 b/\b.y1<=c.y0/\(b.y1=c.y0->b.xs≠c.xs)/\hZ (c::r)
theorem hZ.head {b:ax} {s:List ax} (h:hZ (b::s)):A5 b:=by
 cases s with
 | nil=>exact h
 | cons c r=>exact h.1
theorem hZ.tail {b:ax} {s:List ax} (h:hZ (b::s)):hZ s:=by
 cases s with
 | nil=>trivial
 | cons c r=>exact h.2.2.2
theorem hZ.fZ {b:ax} {s:List ax} (h:hZ (b::s)):∀t∈s,b.y1<=t.y0:=by
 induction s generalizing b with
 | nil=>intro t ht;cases ht
 | cons c r ih=>
  intro t ht
  rcases List.mem_cons.1 ht with e | ht
  ·subst e;exact h.2.1
  have h1:=ih h.tail t ht
  have h2:=h.tail.head.lt
  have h3:=h.2.1
  omega
theorem hZ.mem {s:List ax} (h:hZ s):∀b∈s,A5 b:=by
 induction s with
 | nil=>intro b hb;cases hb
 | cons c r ih=>
  intro b hb
  rcases List.mem_cons.1 hb with e | hb
  ·subst e;exact h.head
  exact ih h.tail b hb
theorem XK {s:List ax} {b:ax} (h:hZ s) (hb:A5 b) (hs:∀t∈s,t.y1<=b.y0) (hl:∀t,s.getLast?=some t->t.y1=b.y0->t.xs≠b.xs):hZ (s++[b]):=by
 induction s with
 | nil=>exact hb
 | cons c r ih=>
  cases r with
  | nil=>exact⟨h.head,hs c (by simp),hl c rfl,hb⟩
  | cons d u=>
   have:=ih h.tail (fun t ht=>hs t (by simp[ht])) (fun t ht=>hl t (by rw[List.getLast?_cons_cons];exact ht))
   exact⟨h.1,h.2.1,h.2.2.1,this⟩
theorem H8 {s:List ax} {b:ax} (h:hZ (s++[b])):hZ s/\A5 b/\(∀t∈s,t.y1<=b.y0)/\(∀t,s.getLast?=some t->t.y1=b.y0->t.xs≠b.xs):=by
 induction s with
 | nil=>exact⟨trivial,h,fun t ht=>(by cases ht),fun t ht=>(by cases ht)⟩
 | cons c r ih=>
  cases r with
  | nil=>
   refine⟨h.head,h.2.2.2,fun t ht=>?_,fun t ht=>?_⟩
   ·rw[List.mem_singleton] at ht;subst ht;exact h.2.1
   simp at ht;subst ht;exact h.2.2.1
  | cons d u=>
   obtain⟨i1,i2,i3,i4⟩:=ih h.tail
   refine⟨⟨h.1,h.2.1,h.2.2.1,i1⟩,i2,fun t ht=>?_,fun t ht=>i4 t (by rw[List.getLast?_cons_cons] at ht;exact ht)⟩
   rcases List.mem_cons.1 ht with e | ht
   ·subst e
    have a1:=h.fZ b (by simp)
    exact a1
   exact i3 t ht
theorem kh {s:List ax} {b:ax} (h:hZ s) (eL:b.y0 < b.y1) (hc:Canon b.xs) (hs:∀t∈s,t.y1<=b.y0):
  hZ (du s b)/\(∀t∈du s b,t.y1<=b.y1)/\(∀x y,at' (du s b) x y=(at' s x y || at' [b] x y))/\(∀t∈du s b,(∃u∈s,u.xs=t.xs/\u.y0=t.y0)\/(t.xs=b.xs/\t.y0=b.y0)):=by
 unfold du
 by_cases e0:b.xs=[]
 ·rw[if_pos e0]
  refine⟨h,fun t ht=>by have:=hs t ht;omega,fun x y=>?_,fun t ht=>.inl ⟨t,ht,rfl,rfl⟩⟩
  rw[at_one,e0]
  simp[bK,par]
 rw[if_neg e0]
 have hb:A5 b:=⟨eL,e0,hc⟩
 cases hl:s.getLast? with
 | none=>
  have:s=[]:=List.getLast?_eq_none_iff.1 hl
  subst this
  exact⟨hb,fun t ht=>by rw[List.mem_singleton] at ht;subst ht;exact Int.le_refl _,fun x y=>by rw[show at' [] x y=false from rfl,Bool.false_or],fun t ht=>.inr (by rw[List.mem_singleton] at ht;subst ht;exact⟨rfl,rfl⟩)⟩
 | some t=>
  simp only
  obtain⟨d,hd⟩:=List.getLast?_eq_some_iff.1 hl
  subst hd
  obtain⟨i1,i2,i3,i4⟩:=H8 h
  split
  ·rename_i hm
   obtain⟨m1,m2⟩:=hm
   rw[List.dropLast_concat]
   have t1:=i2.lt
   refine⟨XK i1 ⟨?_,i2.ne,i2.can⟩ i3 i4,fun u hu=>?_,fun x y=>?_,fun u hu=>?_⟩
   ·show t.y0 < b.y1
    omega
   ·rcases List.mem_append.1 hu with hu | hu
    ·have:=i3 u hu;omega
    rw[List.mem_singleton] at hu;subst hu;exact Int.le_refl _
   ·rw[iL,iL,at_one,at_one,at_one,<-m2,Bool.or_assoc]
    congr 1
    show (decide (t.y0<=y) && decide (y < b.y1) && par (bK t.xs) x)=_
    by_cases c1:t.y0<=y <;> by_cases c2:y < b.y1 <;> by_cases c3:y < t.y1 <;> by_cases c4:b.y0<=y <;> simp[c1,c2,c3,c4] <;> omega
   rcases List.mem_append.1 hu with hu | hu
   ·exact .inl ⟨u,by simp[hu],rfl,rfl⟩
   rw[List.mem_singleton] at hu;subst hu;exact .inl ⟨t,by simp,rfl,rfl⟩
  rename_i hm
  refine⟨XK h hb hs (fun u hu h1 h2=>hm ?_),fun u hu=>?_,fun x y=>iL _ _ x y,fun u hu=>?_⟩
  ·rw[hl] at hu;cases hu;exact⟨h1,h2⟩
  ·rcases List.mem_append.1 hu with hu | hu
   ·have:=hs u hu;omega
   rw[List.mem_singleton] at hu;subst hu;exact Int.le_refl _
  rcases List.mem_append.1 hu with hu | hu
  ·exact .inl ⟨u,hu,rfl,rfl⟩
  rw[List.mem_singleton] at hu;subst hu;exact .inr ⟨rfl,rfl⟩
def eo (s:List ax) (y e:Int):bC×Int:=match s with
 | []=>([],e)
 | b::_=>if y < b.y0 then ([],min e b.y0) else (b.xs,min e b.y1)
def aC (y:Int):List ax->List ax
 | []=>[]
 | b::s=>if b.y1<=y then aC y s else b::s
theorem eH {y:Int} {s:List ax} (h:hZ s):hZ (aC y s)/\(∀t∈aC y s,t∈s/\y < t.y1)/\∀x z,y<=z->at' (aC y s) x z=at' s x z:=by
 induction s with
 | nil=>exact⟨trivial,fun t ht=>(by cases ht),fun x z _=>rfl⟩
 | cons b s ih=>
  obtain⟨i1,i2,i3⟩:=ih h.tail
  by_cases e:b.y1<=y
  ·rw[aC,if_pos e]
   refine⟨i1,fun t ht=>⟨by simp[(i2 t ht).1],(i2 t ht).2⟩,fun x z hz=>?_⟩
   rw[i3 x z hz,show b::s=[b]++s from rfl,iL,at_one,decide_eq_false (by omega:¬z < b.y1)]
   simp
  rw[aC,if_neg e]
  refine⟨h,fun t ht=>⟨ht,?_⟩,fun x z _=>rfl⟩
  rcases List.mem_cons.1 ht with e | ht
  ·subst e;omega
  have h1:=h.fZ t ht
  have h2:=(h.tail.mem t ht).lt
  omega
theorem gN {s:List ax} {y e:Int} (h:hZ s) (hy:∀t∈s,y < t.y1) (he:y < e):Canon (eo s y e).1/\y < (eo s y e).2/\(eo s y e).2<=e/\(∀p∈(eo s y e).1,∃b∈s,p∈b.xs)/\∀x z,y<=z->z < (eo s y e).2->at' s x z=par (bK (eo s y e).1) x:=by
 cases s with
 | nil=>exact⟨trivial,he,Int.le_refl _,fun p hp=>by simp[eo] at hp,fun x z _ _=>rfl⟩
 | cons b s=>
  have hb:=hy b (by simp)
  by_cases c:y < b.y0
  ·have e1:eo (b::s) y e=([],min e b.y0):=by simp[eo,c]
   rw[e1]
   refine⟨trivial,by show y < min e b.y0;omega,by show min e b.y0<=e;omega,fun p hp=>by simp at hp,fun x z h1 h2=>?_⟩
   have h2:z < min e b.y0:=h2
   rw[show bK ([]:bC)=[] from rfl,show par [] x=false from rfl]
   refine iM fun t ht=>.inl ?_
   rcases List.mem_cons.1 ht with e | ht
   ·subst e;omega
   have h3:=h.fZ t ht
   have h4:=h.head.lt
   omega
  have e1:eo (b::s) y e=(b.xs,min e b.y1):=by simp[eo,c]
  rw[e1]
  refine⟨h.head.can,by show y < min e b.y1;omega,by show min e b.y1<=e;omega,fun p hp=>⟨b,by simp,hp⟩,fun x z h1 h2=>?_⟩
  have h2:z < min e b.y1:=h2
  rw[show b::s=[b]++s from rfl,iL,at_one,decide_eq_true (by omega:b.y0<=z),decide_eq_true (by omega:z < b.y1),iM (s:=s) fun t ht=>.inl (by have:=h.fZ t ht;omega)]
  simp
def dH (k:Bool->Bool->Bool):Nat->List ax->List ax->Int->Int->List ax->List ax
 | 0,_,_,_,_,out=>out
 | n+1,a,b,y,e,out=>if y < e then dH k n (aC y a) (aC y b) (min (eo (aC y a) y e).2 (eo (aC y b) y e).2) e
   (du out ⟨y,min (eo (aC y a) y e).2 (eo (aC y b) y e).2,pairUp (dV k (bK (eo (aC y a) y e).1) (bK (eo (aC y b) y e).1))⟩) else out
def cQ (K:Int) (s:List ax):Prop:=∀b∈s,-K<=b.y0/\b.y1<=K/\∀p∈b.xs,-K<=p.1/\p.2<=K
theorem fP {s:bC} (h:Canon s):∀p∈s,p.1 < p.2:=by
 induction s with
 | nil=>intro p hp;cases hp
 | cons a s ih=>
  intro p hp
  rcases List.mem_cons.1 hp with e | hp
  ·subst e;exact h.head
  exact ih h.tail p hp
theorem lM {k:Bool->Bool->Bool} (hk:k false false=false) {s t:bC} (hs:Canon s) (ht:Canon t):Canon (pairUp (dV k (bK s) (bK t)))/\(∀x,par (bK (pairUp (dV k (bK s) (bK t)))) x=k (par (bK s) x) (par (bK t) x))/\bK (pairUp (dV k (bK s) (bK t)))=dV k (bK s) (bK t)/\
  ∀K,(∀p∈s,-K<=p.1/\p.2<=K)->(∀p∈t,-K<=p.1/\p.2<=K)->∀p∈pairUp (dV k (bK s) (bK t)),-K<=p.1/\p.2<=K:=by
 obtain⟨h1,h2,h3,h4⟩:=A4 hk (kM hs) (kM ht) (by rw[eY];omega) (by rw[eY];omega)
 have h5:=tb _ h4
 refine⟨qJ _ h1,fun x=>by rw[h5,h3],h5,fun K g1 g2 p hp=>?_⟩
 have all:∀c∈dV k (bK s) (bK t),-K<=c/\c<=K:=fun c hc=>by
  rcases h2 c hc with h | h
  ·obtain⟨q,hq,e⟩:=ja.1 h
   have:=g1 q hq
   have:=fP hs q hq
   omega
  obtain⟨q,hq,e⟩:=ja.1 h
  have:=g2 q hq
  have:=fP ht q hq
  omega
 rw[<-h5] at all
 exact⟨(all p.1 (ja.2 ⟨p,hp,.inl rfl⟩)).1,(all p.2 (ja.2 ⟨p,hp,.inr rfl⟩)).2⟩
theorem A6 {k:Bool->Bool->Bool} (hk:k false false=false):∀(n:Nat) (a b:List ax) (y e:Int) (out:List ax),(e - y).toNat<=n->hZ a->hZ b->hZ out->(∀t∈out,t.y1<=y)->(∀t∈a,t.y1<=e)->(∀t∈b,t.y1<=e)->
  hZ (dH k n a b y e out)/\(∀x z,at' (dH k n a b y e out) x z=if z < y then at' out x z else k (at' a x z) (at' b x z))/\∀K,cQ K a->cQ K b->cQ K out->-K<=y->e<=K->cQ K (dH k n a b y e out):=by
 intro n
 have stop:∀(a b:List ax) (y e:Int) (out:List ax),¬y < e->hZ out->(∀t∈out,t.y1<=y)->(∀t∈a,t.y1<=e)->(∀t∈b,t.y1<=e)->∀x z,at' out x z=if z < y then at' out x z else k (at' a x z) (at' b x z):=fun a b y e out hn ho h1 h2 h3 x z=>by
  split
  ·rfl
  rw[iM (s:=out) fun t ht=>.inr (by have:=h1 t ht;omega),iM (s:=a) fun t ht=>.inr (by have:=h2 t ht;omega),iM (s:=b) fun t ht=>.inr (by have:=h3 t ht;omega),hk]
 induction n with
 | zero=>
  intro a b y e out hn ha hb ho h1 h2 h3
  exact⟨ho,stop a b y e out (by omega) ho h1 h2 h3,fun K _ _ g _ _=>g⟩
 | succ n ih=>
  intro a b y e out hn ha hb ho h1 h2 h3
  rw[dH]
  split
  ·rename_i eL
   obtain⟨a1,a2,a3⟩:=eH (y:=y) ha
   obtain⟨b1,b2,b3⟩:=eH (y:=y) hb
   obtain⟨c1,c2,c3,c4,c5⟩:=gN a1 (fun t ht=>(a2 t ht).2) eL
   obtain⟨d1,d2,d3,d4,d5⟩:=gN b1 (fun t ht=>(b2 t ht).2) eL
   obtain⟨r1,r2,r3,r4⟩:=lM hk c1 d1
   obtain⟨nx,wo⟩:∃nx,nx=min (eo (aC y a) y e).2 (eo (aC y b) y e).2:=⟨_,rfl⟩
   rw[<-wo]
   have n1:y < nx:=by omega
   have n2:nx<=e:=by omega
   obtain⟨p1,p2,p3,p4⟩:=kh (b:=⟨y,nx,pairUp (dV k (bK (eo (aC y a) y e).1) (bK (eo (aC y b) y e).1))⟩) ho n1 r1 h1
   obtain⟨i1,i2,i3⟩:=ih (aC y a) (aC y b) nx e _ (by omega) a1 b1 p1 p2 (fun t ht=>h2 t (a2 t ht).1) (fun t ht=>h3 t (b2 t ht).1)
   refine⟨i1,fun x z=>?_,fun K g1 g2 g3 g4 g5=>?_⟩
   ·rw[i2 x z,p3 x z,at_one]
    by_cases z1:z < y
    ·rw[if_pos (by omega),if_pos z1,decide_eq_false (by omega:¬y<=z)]
     simp
    rw[if_neg z1]
    by_cases z2:z < nx
    ·rw[if_pos z2,decide_eq_true (by omega:y<=z),decide_eq_true z2,r2 x,<-c5 x z (by omega) (by omega),<-d5 x z (by omega) (by omega),a3 x z (by omega),b3 x z (by omega),iM (s:=out) fun t ht=>.inr (by have:=h1 t ht;omega)]
     simp
    rw[if_neg z2,a3 x z (by omega),b3 x z (by omega)]
   refine i3 K (fun t ht=>g1 t (a2 t ht).1) (fun t ht=>g2 t (b2 t ht).1) (fun t ht=>?_) (by omega) g5
   have e1:=p2 t ht
   have e1:t.y1<=nx:=e1
   have rr:=r4 K (fun p hp=>by obtain⟨q,hq,hp⟩:=c4 p hp;exact (g1 q (a2 q hq).1).2.2 p hp) (fun p hp=>by obtain⟨q,hq,hp⟩:=d4 p hp;exact (g2 q (b2 q hq).1).2.2 p hp)
   rcases p4 t ht with⟨u,hu,x1,x2⟩ | ⟨x1,x2⟩
   ·have:=g3 u hu
    rw[<-x1,<-x2]
    exact⟨this.1,by omega,this.2.2⟩
   rw[x1,x2]
   exact⟨g4,by omega,rr⟩
  rename_i eL
  exact⟨ho,stop a b y e out eL ho h1 h2 h3,fun K _ _ g _ _=>g⟩
end Reg
end Go.Proofs.YtpbkimanfahbgaaGreatDoor
