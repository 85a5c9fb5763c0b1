/- Part 8 of 14 of the proof of RulesTellTrue (the names are shortened by a program: the size of a claim is limited). -/
import Derived.Test.YtpbkimanfahbgaaGreatDoorL07
import Derived.Test.YtpbkimanfahbgaaGreatDoorProg
import Derived.WalkKit
import Derived.WalkSpells
import Derived.WalkLawsBesides
import Derived.Lib.Hide
import Derived.Shelf.Strings.Builder1
import Derived.Laws.AppendOwn
set_option linter.unusedVariables false
set_option linter.unusedSimpArgs false
set_option maxRecDepth 100000
set_option maxHeartbeats 8000000
namespace Go.Proofs.YtpbkimanfahbgaaGreatDoor
namespace Reg
def eI (a b:Bool):Bool:=a && b
def kP (a b:Bool):Bool:=a || b
def jm (a b:List ax):List ax:=gK eI a b
def ru (a b:List ax):List ax:=gK kP a b
theorem oP {a b:List ax} (ha:hZ a) (hb:hZ b):hZ (jm a b)/\(∀x y,at' (jm a b) x y=(at' a x y && at' b x y))/\∀K,cQ K a->cQ K b->cQ K (jm a b):=mP rfl ha hb
theorem va {a b:List ax} (ha:hZ a) (hb:hZ b):hZ (ru a b)/\(∀x y,at' (ru a b) x y=(at' a x y || at' b x y))/\∀K,cQ K a->cQ K b->cQ K (ru a b):=mP rfl ha hb
theorem vc {K:Int} {a b out:List ax} {y e:Int} (eL:y < e) (ha:hZ a) (hb:hZ b) (ho:hZ out) (h1:∀t∈out,t.y1<=y) (ka:cQ K a) (kb:cQ K b) (ko:cQ K out) (hy:-K<=y) (he:e<=K):
  ∃nx L,nx=min (eo (aC y a) y e).2 (eo (aC y b) y e).2/\L=dV eI (bK (eo (aC y a) y e).1) (bK (eo (aC y b) y e).1)/\y < nx/\nx<=e/\bK (pairUp L)=L/\hZ (aC y a)/\hZ (aC y b)/\cQ K (aC y a)/\cQ K (aC y b)/\
   hZ (du out ⟨y,nx,pairUp L⟩)/\(∀t∈du out ⟨y,nx,pairUp L⟩,t.y1<=nx)/\cQ K (du out ⟨y,nx,pairUp L⟩)/\Canon (eo (aC y a) y e).1/\Canon (eo (aC y b) y e).1/\(∀p∈(eo (aC y a) y e).1,-K<=p.1/\p.2<=K)/\(∀p∈(eo (aC y b) y e).1,-K<=p.1/\p.2<=K):=by
 obtain⟨a1,a2,a3⟩:=eH (y:=y) ha
 obtain⟨b1,b2,b3⟩:=eH (y:=y) hb
 obtain⟨c1,c2,c3,c4,c5⟩:=gN a1 (fun t ht=>(a2 t ht).2) eL
 obtain⟨d1,d2,d3,d4,d5⟩:=gN b1 (fun t ht=>(b2 t ht).2) eL
 obtain⟨r1,r2,r3,r4⟩:=lM (k:=eI) rfl c1 d1
 obtain⟨nx,wo⟩:∃nx,nx=min (eo (aC y a) y e).2 (eo (aC y b) y e).2:=⟨_,rfl⟩
 have n1:y < nx:=by omega
 have n2:nx<=e:=by omega
 have g1:∀p∈(eo (aC y a) y e).1,-K<=p.1/\p.2<=K:=fun p hp=>by obtain⟨q,hq,hp⟩:=c4 p hp;exact (ka q (a2 q hq).1).2.2 p hp
 have g2:∀p∈(eo (aC y b) y e).1,-K<=p.1/\p.2<=K:=fun p hp=>by obtain⟨q,hq,hp⟩:=d4 p hp;exact (kb q (b2 q hq).1).2.2 p hp
 have rr:=r4 K g1 g2
 obtain⟨p1,p2,p3,p4⟩:=kh (b:=⟨y,nx,pairUp (dV eI (bK (eo (aC y a) y e).1) (bK (eo (aC y b) y e).1))⟩) ho n1 r1 h1
 refine⟨nx,_,wo,rfl,n1,n2,r3,a1,b1,fun t ht=>ka t (a2 t ht).1,fun t ht=>kb t (b2 t ht).1,p1,p2,fun t ht=>?_,c1,d1,g1,g2⟩
 have e1:=p2 t ht
 have e1:t.y1<=nx:=e1
 rcases p4 t ht with⟨u,hu,x1,x2⟩ | ⟨x1,x2⟩
 ·have:=ko u hu
  rw[<-x1,<-x2]
  exact⟨this.1,by omega,this.2.2⟩
 rw[x1,x2]
 exact⟨hy,by omega,rr⟩
theorem wI {K:Int} {a b out:List ax} {y e:Int} (eL:y < e) (ha:hZ a) (hb:hZ b) (ho:hZ out) (h1:∀t∈out,t.y1<=y) (ka:cQ K a) (kb:cQ K b) (ko:cQ K out) (hy:-K<=y) (he:e<=K):
  ∃nx L,nx=min (eo (aC y a) y e).2 (eo (aC y b) y e).2/\L=dV kP (bK (eo (aC y a) y e).1) (bK (eo (aC y b) y e).1)/\y < nx/\nx<=e/\bK (pairUp L)=L/\hZ (aC y a)/\hZ (aC y b)/\cQ K (aC y a)/\cQ K (aC y b)/\
   hZ (du out ⟨y,nx,pairUp L⟩)/\(∀t∈du out ⟨y,nx,pairUp L⟩,t.y1<=nx)/\cQ K (du out ⟨y,nx,pairUp L⟩)/\Canon (eo (aC y a) y e).1/\Canon (eo (aC y b) y e).1/\(∀p∈(eo (aC y a) y e).1,-K<=p.1/\p.2<=K)/\(∀p∈(eo (aC y b) y e).1,-K<=p.1/\p.2<=K):=by
 obtain⟨a1,a2,a3⟩:=eH (y:=y) ha
 obtain⟨b1,b2,b3⟩:=eH (y:=y) hb
 obtain⟨c1,c2,c3,c4,c5⟩:=gN a1 (fun t ht=>(a2 t ht).2) eL
 obtain⟨d1,d2,d3,d4,d5⟩:=gN b1 (fun t ht=>(b2 t ht).2) eL
 obtain⟨r1,r2,r3,r4⟩:=lM (k:=kP) rfl c1 d1
 obtain⟨nx,wo⟩:∃nx,nx=min (eo (aC y a) y e).2 (eo (aC y b) y e).2:=⟨_,rfl⟩
 have n1:y < nx:=by omega
 have n2:nx<=e:=by omega
 have g1:∀p∈(eo (aC y a) y e).1,-K<=p.1/\p.2<=K:=fun p hp=>by obtain⟨q,hq,hp⟩:=c4 p hp;exact (ka q (a2 q hq).1).2.2 p hp
 have g2:∀p∈(eo (aC y b) y e).1,-K<=p.1/\p.2<=K:=fun p hp=>by obtain⟨q,hq,hp⟩:=d4 p hp;exact (kb q (b2 q hq).1).2.2 p hp
 have rr:=r4 K g1 g2
 obtain⟨p1,p2,p3,p4⟩:=kh (b:=⟨y,nx,pairUp (dV kP (bK (eo (aC y a) y e).1) (bK (eo (aC y b) y e).1))⟩) ho n1 r1 h1
 refine⟨nx,_,wo,rfl,n1,n2,r3,a1,b1,fun t ht=>ka t (a2 t ht).1,fun t ht=>kb t (b2 t ht).1,p1,p2,fun t ht=>?_,c1,d1,g1,g2⟩
 have e1:=p2 t ht
 have e1:t.y1<=nx:=e1
 rcases p4 t ht with⟨u,hu,x1,x2⟩ | ⟨x1,x2⟩
 ·have:=ko u hu
  rw[<-x1,<-x2]
  exact⟨this.1,by omega,this.2.2⟩
 rw[x1,x2]
 exact⟨hy,by omega,rr⟩
end Reg
namespace M
open Go.AM Go.RowKit Go.Lib
open Reg (aB bC ax cF dV dy fW cR eI kP jm ru eo aC dH gK nE nF db bK pairUp hZ cQ du cv Canon told bL bX coreS)
theorem oa (a b:Bool):aD C 73 [.pv (bool a),.pv (bool b)] (.p (bool (eI a b))) []:=by
 refine aT hC Tryz.func73 rfl rfl 9 rfl (by decide) (by kernel_rfl) fun _ _ _ _ _=>?_
 (refine yS<|yA Z<|yU<|yP Z<|yP Z<|yg Z ?_;refine aa (fun h=>?_) (fun h=>?_) <;> try simp only[zB] at h)
 ·(refine bS<|bA Z Z<|aA zI<|yk<|yP Z<|yA Z<|yR zi ?_;refine And.intro ?_ trivial)
  subst h;rfl
 (refine cB<|ae<|yP Z<|yA Z<|yR zi ?_;refine And.intro ?_ trivial)
 have h:a=false:=by simpa using h
 subst h;rfl
theorem wJ (a b:List Int) (hN:a.length+b.length<=4398046511104):aD C 112 [.pv (ints a),.pv (ints b),.pv (pj 73)] (.p (ints (dV eI a b))) []:=by
 refine aT hC Tryz.func112 rfl rfl 85 rfl (by decide) (by kernel_rfl) fun _ _ _ _ _=>?_
 refine yS<|yB Z<|yU<|yB Z<|yU<|yA Z<|yA Z<|yA Z<|yT<|au<|aZ ?_
 refine aI (fun x:Nat×List Int×List Int×Bool×Bool×Bool×List Int=>x.2.1.length+x.2.2.1.length<=x.1/\x.2.2.2.2.2.2++cF eI x.1 x.2.1 x.2.2.1 x.2.2.2.1 x.2.2.2.2.1 x.2.2.2.2.2.1=dV eI a b/\x.2.2.2.2.2.2.length+x.1<=a.length+b.length)
  (fun x=>[(0,.p (ints x.2.1)),(1,.p (ints x.2.2.1)),(2,.p (pj 73)),(7,.ow 7),(8,.p (bool x.2.2.2.1)),(9,.p (bool x.2.2.2.2.1)),(10,.p (bool x.2.2.2.2.2.1))])
  (fun x=>[(7,.row 3 (aE x.2.2.2.2.2.2))]) (fun x=>x.1) (a.length+b.length,a,b,false,false,false,[]) _ (aW.fa hC _ 7 3 _ (by decide) rfl rfl (by decide)) ⟨Nat.le_refl _,rfl,by simp⟩ ⟨Z,Z,Z,Z,Z,Z,Z,Y⟩ ⟨Z,Y⟩ fun ⟨n,a',b',ia,ib,is,out⟩ hi t h=>?_
 obtain⟨h1,h2,h3⟩:=hi
 simp only at h1 h2 h3
 have lm:∀l:List Int,(l.map fun n=>[i64 n]).length=l.length:=fun l=>List.length_map ..
 rcases a' with _ | ⟨p,r⟩
 ·rcases b' with _ | ⟨q,u⟩
  ·rw[se,List.append_nil] at h2
   ((refine au<|yS<|yP Z<|yP Z<|yP Z<|yP Z<|y1 Z<|y1 Z<|y1 Z<|yP Z<|yT<|az Z<|cM<|bT ?_;refine aY<|aY<|bU<|aj<|yS<|yq Z<|aA zI<|bd<|af<|cD Z<|cr Z Z Z Z Z<|yR zi ?_);refine And.intro ?_ trivial)
   rw[<-h2]
   rfl
  obtain⟨m,rfl⟩:∃m,n=m+1:=⟨n - 1,by simp at h1;omega⟩
  have e:cF eI (m+1) [] (q::u) ia ib is=if eI ia (!ib)=is then cF eI m [] u ia (!ib) is else q::cF eI m [] u ia (!ib) (eI ia (!ib)):=by simp[cF,fW,dy]
  rw[e] at h2
  simp at h1
  (refine au<|yS<|yP Z<|yP Z<|yP Z<|yP Z<|y1 Z<|y1 Z<|y1 Z<|yP Z<|yT<|az Z ?_;refine aa (fun g1=>?_) (fun g1=>?_) <;> try simp only[zB] at g1)
  ··
    ((refine aJ<|aj<|aZ<|yS<|yA Z<|yT<|au<|au<|cH [] false nD rfl (by kernel_rfl)<|cG Z<|yD Z<|yD Z<|yD Z<|yD Z ?_;refine d1 Z<|d1 Z<|d1 Z<|d1 Z<|d0 Z<|d0 Z<|d0 Z<|d0 Z<|d0 Z<|d0 Z<|d0 Z<|d1 Z<|yD Z<|cn ?_;refine fo Z<|aj<|az Z<|cM<|aM<|yP Z<|yq Z<|aK zI ?_);refine⟨[i64 q],(idx (i:=0) rfl rfl),?_⟩)
    ((refine yk<|yP Z<|yA Z<|yT<|au<|yS<|yP Z<|yP Z<|yP Z<|yP Z<|y0 Z<|y0 Z<|y0 Z<|y0 Z ?_;refine y0 Z<|yP Z<|yT<|az Z<|cM<|aJ<|aj<|au<|yS<|yP Z<|yP Z<|yP Z<|yP Z<|yg Z ?_);refine aa (fun g2=>?_) (fun g2=>?_) <;> try simp only[zB] at g2)
    ·(refine bS<|bA Z Z<|aA zI<|yk<|y2 Z<|bA Z Z<|aK zI ?_;refine⟨[i64 q],(idx (i:=0) rfl rfl),?_⟩)
     (refine yk<|y1 Z<|y1 Z<|y1 Z<|yP Z<|yT<|az Z ?_;refine aa (fun g3=>?_) (fun g3=>?_) <;> try simp only[zB] at g3)
     ·(refine aM<|yP Z<|yq Z<|bg zI ?_;refine And.intro ⟨by simp,by simp;omega⟩ ?_)
      (refine yk<|yP Z<|yP Z<|yA Z<|yA Z<|yU<|yP Z<|yP Z<|yP Z<|yn Z<|aK zI ?_;refine⟨_,_,(oa ia (!ib)),?_⟩)
      (refine b9 Z Z<|ae<|yA Z<|yU<|yP Z<|yP Z<|yP Z<|yT<|az Z ?_;refine aa (fun g9=>?_) (fun g9=>?_) <;> try simp only[zB] at g9)
      ·have g9:¬eI ia (!ib)=is:=by simpa using g9
       rw[if_neg g9] at h2
       (refine aM<|yq Z<|aA zI<|bd<|af<|yP Z<|yn Z<|aA zI<|aS<|af<|yn Z<|bg zI ?_;refine And.intro ⟨by simp,by simp[aE];omega,by simp[aE];omega⟩ ?_)
       (refine aS<|aF<|af<|yP Z<|cD Z<|cr Z Z Z Z Z<|yA Z<|cL<|bp<|aj<|ai ?_;refine⟨(m,[],u,ia,(!ib),eI ia (!ib),out++[q]),_,aW.refl _ _,?_⟩)
       exact⟨⟨by simp;omega,by simp only[List.append_assoc,List.cons_append,List.nil_append];exact h2,by simp;omega⟩,by simp only;omega,⟨rfl,bO [i64 q] _,Z,Z,Z,Z,Z,Y⟩,⟨d_ _ out q,trivial⟩⟩
      have g9:eI ia (!ib)=is:=by simpa using g9
      rw[if_pos g9] at h2
      (refine aJ<|bp<|aj<|ai ?_;refine⟨(m,[],u,ia,(!ib),is,out),_,aW.refl _ _,?_⟩)
      exact⟨⟨by simp;omega,h2,by simp only;omega⟩,by simp only;omega,⟨rfl,bO [i64 q] _,Z,Z,Z,Z,Z,Y⟩,⟨Z,Y⟩⟩
     exact absurd trivial g3
    simp at g2
  simp at g1
 rcases b' with _ | ⟨q,u⟩
 ·obtain⟨m,rfl⟩:∃m,n=m+1:=⟨n - 1,by simp at h1;omega⟩
  have e:cF eI (m+1) (p::r) [] ia ib is=if eI (!ia) ib=is then cF eI m r [] (!ia) ib is else p::cF eI m r [] (!ia) ib (eI (!ia) ib):=by simp[cF,fW,dy]
  rw[e] at h2
  simp at h1
  (refine au<|yS<|yP Z<|yP Z<|yP Z<|yP Z<|yg Z ?_;refine aa (fun g1=>?_) (fun g1=>?_) <;> try simp only[zB] at g1)
  ·((refine cB<|ae<|y0 Z<|y0 Z<|yP Z<|yT<|az Z<|fy<|aJ<|aj<|aZ<|yS<|yA Z<|yT ?_;refine au<|au<|cH [] false nD rfl (by kernel_rfl)<|cG Z<|yD Z<|yD Z<|yD Z<|yD Z<|d0 Z<|d0 Z<|d0 Z<|d0 Z<|gu Z Z Z Z<|ae ?_;refine gu Z Z Z Z<|ae<|gu Z Z Z Z<|ae<|gu Z Z Z Z<|ae<|gu Z Z Z Z<|ae<|gu Z Z Z Z<|ae<|gu Z Z Z Z<|ae<|d0 Z<|yD Z ?_;refine cn<|fo Z<|aj<|az Z<|fy<|aM<|yP Z<|yq Z<|aK zI ?_);refine⟨[i64 p],(idx (i:=0) rfl rfl),?_⟩)
   (refine yk<|yP Z<|yA Z<|yT<|au<|yS<|yP Z<|yP Z<|yP Z<|yP Z<|yg Z ?_;refine aa (fun g2=>?_) (fun g2=>?_) <;> try simp only[zB] at g2)
   ·(refine bS<|bA Z Z<|aA zI<|yk<|y2 Z<|bA Z Z<|aK zI ?_;refine⟨[i64 p],(idx (i:=0) rfl rfl),?_⟩)
    (refine yk<|y1 Z<|y1 Z<|y1 Z<|yP Z<|yT<|az Z ?_;refine aa (fun g3=>?_) (fun g3=>?_) <;> try simp only[zB] at g3)
    ·(refine aM<|yP Z<|yq Z<|bg zI ?_;refine And.intro ⟨by simp,by simp;omega⟩ ?_)
     ((refine yk<|yP Z<|yP Z<|yA Z<|yA Z<|yT<|au<|yS<|yP Z<|yP Z<|yP Z<|yP Z<|y0 Z<|y0 Z ?_;refine y0 Z<|y0 Z<|y0 Z<|yP Z<|yT<|az Z<|cM<|aJ<|aj<|yS<|yP Z<|yP Z<|yP Z<|yn Z ?_;refine aK zI ?_);refine⟨_,_,(oa (!ia) ib),?_⟩)
     (refine b9 Z Z<|ae<|yA Z<|yU<|yP Z<|yP Z<|yP Z<|yT<|az Z ?_;refine aa (fun g9=>?_) (fun g9=>?_) <;> try simp only[zB] at g9)
     ·have g9:¬eI (!ia) ib=is:=by simpa using g9
      rw[if_neg g9] at h2
      (refine aM<|yq Z<|aA zI<|bd<|af<|yP Z<|yn Z<|aA zI<|aS<|af<|yn Z<|bg zI ?_;refine And.intro ⟨by simp,by simp[aE];omega,by simp[aE];omega⟩ ?_)
      (refine aS<|aF<|af<|yP Z<|cD Z<|cr Z Z Z Z Z<|yA Z<|cL<|bp<|aj<|ai ?_;refine⟨(m,r,[],(!ia),ib,eI (!ia) ib,out++[p]),_,aW.refl _ _,?_⟩)
      exact⟨⟨by simp;omega,by simp only[List.append_assoc,List.cons_append,List.nil_append];exact h2,by simp;omega⟩,by simp only;omega,⟨bO [i64 p] _,Z,Z,Z,Z,Z,Z,Y⟩,⟨d_ _ out p,trivial⟩⟩
     have g9:eI (!ia) ib=is:=by simpa using g9
     rw[if_pos g9] at h2
     (refine aJ<|bp<|aj<|ai ?_;refine⟨(m,r,[],(!ia),ib,is,out),_,aW.refl _ _,?_⟩)
     exact⟨⟨by simp;omega,h2,by simp only;omega⟩,by simp only;omega,⟨bO [i64 p] _,Z,Z,Z,Z,Z,Z,Y⟩,⟨Z,Y⟩⟩
    exact absurd trivial g3
   simp at g2
  simp at g1
 obtain⟨m,rfl⟩:∃m,n=m+1:=⟨n - 1,by simp at h1;omega⟩
 have e:cF eI (m+1) (p::r) (q::u) ia ib is=if eI (dy (if p<=q then p else q) (p::r) ia).2 (dy (if p<=q then p else q) (q::u) ib).2=is then cF eI m (dy (if p<=q then p else q) (p::r) ia).1 (dy (if p<=q then p else q) (q::u) ib).1 (dy (if p<=q then p else q) (p::r) ia).2 (dy (if p<=q then p else q) (q::u) ib).2 is else (if p<=q then p else q)::cF eI m (dy (if p<=q then p else q) (p::r) ia).1 (dy (if p<=q then p else q) (q::u) ib).1 (dy (if p<=q then p else q) (p::r) ia).2 (dy (if p<=q then p else q) (q::u) ib).2 (eI (dy (if p<=q then p else q) (p::r) ia).2 (dy (if p<=q then p else q) (q::u) ib).2):=rfl
 rw[e] at h2
 simp at h1
 (refine au<|yS<|yP Z<|yP Z<|yP Z<|yP Z<|yg Z ?_;refine aa (fun g1=>?_) (fun g1=>?_) <;> try simp only[zB] at g1)
 ··
   ((refine cB<|ae<|y0 Z<|y0 Z<|yP Z<|yT<|az Z<|fy<|aJ<|aj<|aZ<|yS<|yA Z<|yT ?_;refine au<|au<|cH [] false nD rfl (by kernel_rfl)<|cG Z<|yD Z<|yD Z<|yD Z<|yD Z<|d1 Z<|d1 Z<|d1 Z<|d1 Z<|dg Z ?_);refine aa (fun g3=>?_) (fun g3=>?_) <;> try simp only[zB] at g3)
   ·(refine bS<|c_ Z<|aA zI<|bB<|ae<|d2 Z<|c_ Z<|aK zI ?_;refine⟨[i64 p],(idx (i:=0) rfl rfl),?_⟩)
    (refine bB<|ae<|d1 Z<|d1 Z<|d2 Z<|c_ Z<|aK zI ?_;refine⟨[i64 q],(idx (i:=0) rfl rfl),?_⟩)
    (refine bB<|ae<|d1 Z<|d1 Z<|d1 Z<|yD Z<|cn<|fo Z<|aj<|az Z ?_;refine aa (fun g4=>?_) (fun g4=>?_) <;> try simp only[zB] at g4)
    ·rw[if_pos g4] at h2
     (refine aM<|yP Z<|yq Z<|aK zI ?_;refine⟨[i64 p],(idx (i:=0) rfl rfl),?_⟩)
     (refine yk<|yP Z<|yA Z<|yT<|au<|yS<|yP Z<|yP Z<|yP Z<|yP Z<|yg Z ?_;refine aa (fun g5=>?_) (fun g5=>?_) <;> try simp only[zB] at g5)
     ·(refine bS<|bA Z Z<|aA zI<|yk<|y2 Z<|bA Z Z<|aK zI ?_;refine⟨[i64 p],(idx (i:=0) rfl rfl),?_⟩)
      (refine yk<|y1 Z<|y1 Z<|y1 Z<|yP Z<|yT<|az Z ?_;refine aa (fun g6=>?_) (fun g6=>?_) <;> try simp only[zB] at g6)
      ·(refine aM<|yP Z<|yq Z<|bg zI ?_;refine And.intro ⟨by simp,by simp;omega⟩ ?_)
       (refine yk<|yP Z<|yP Z<|yA Z<|yA Z<|yT<|au<|yS<|yP Z<|yP Z<|yP Z<|yP Z<|yg Z ?_;refine aa (fun g7=>?_) (fun g7=>?_) <;> try simp only[zB] at g7)
       ·(refine bS<|bA Z Z<|aA zI<|yk<|y2 Z<|bA Z Z<|aK zI ?_;refine⟨[i64 q],(idx (i:=0) rfl rfl),?_⟩)
        (refine yk<|y1 Z<|y1 Z<|y1 Z<|yP Z<|yT<|az Z ?_;refine aa (fun g8=>?_) (fun g8=>?_) <;> try simp only[zB] at g8)
        ·(refine aM<|yP Z<|yq Z<|bg zI ?_;refine And.intro ⟨by simp,by simp;omega⟩ ?_)
         rw[show dy p (p::r) ia=(r,!ia) by simp[dy],show dy p (q::u) ib=(u,!ib) by simp[dy,g8]] at h2
         simp only at h2
         (refine yk<|yP Z<|yP Z<|yA Z<|yA Z<|yU<|yP Z<|yP Z<|yP Z<|yn Z<|aK zI ?_;refine⟨_,_,(oa (!ia) (!ib)),?_⟩)
         (refine b9 Z Z<|ae<|yA Z<|yU<|yP Z<|yP Z<|yP Z<|yT<|az Z ?_;refine aa (fun g9=>?_) (fun g9=>?_) <;> try simp only[zB] at g9)
         ·have g9:¬eI (!ia) (!ib)=is:=by simpa using g9
          rw[if_neg g9] at h2
          (refine aM<|yq Z<|aA zI<|bd<|af<|yP Z<|yn Z<|aA zI<|aS<|af<|yn Z<|bg zI ?_;refine And.intro ⟨by simp,by simp[aE];omega,by simp[aE];omega⟩ ?_)
          (refine aS<|aF<|af<|yP Z<|cD Z<|cr Z Z Z Z Z<|yA Z<|cL<|bp<|aj<|ai ?_;refine⟨(m,r,u,(!ia),(!ib),eI (!ia) (!ib),out++[p]),_,aW.refl _ _,?_⟩)
          exact⟨⟨by simp;omega,by simp only[List.append_assoc,List.cons_append,List.nil_append];exact h2,by simp;omega⟩,by simp only;omega,⟨bO [i64 p] _,bO [i64 q] _,Z,Z,Z,Z,Z,Y⟩,⟨d_ _ out p,trivial⟩⟩
         have g9:eI (!ia) (!ib)=is:=by simpa using g9
         rw[if_pos g9] at h2
         (refine aJ<|bp<|aj<|ai ?_;refine⟨(m,r,u,(!ia),(!ib),is,out),_,aW.refl _ _,?_⟩)
         exact⟨⟨by simp;omega,h2,by simp only;omega⟩,by simp only;omega,⟨bO [i64 p] _,bO [i64 q] _,Z,Z,Z,Z,Z,Y⟩,⟨Z,Y⟩⟩
        rw[show dy p (p::r) ia=(r,!ia) by simp[dy],show dy p (q::u) ib=(q::u,ib) by simp[dy,g8]] at h2
        simp only at h2
        (refine aJ<|aj<|yS<|yP Z<|yP Z<|yP Z<|yn Z<|aK zI ?_;refine⟨_,_,(oa (!ia) ib),?_⟩)
        (refine b9 Z Z<|ae<|yA Z<|yU<|yP Z<|yP Z<|yP Z<|yT<|az Z ?_;refine aa (fun g9=>?_) (fun g9=>?_) <;> try simp only[zB] at g9)
        ·have g9:¬eI (!ia) ib=is:=by simpa using g9
         rw[if_neg g9] at h2
         (refine aM<|yq Z<|aA zI<|bd<|af<|yP Z<|yn Z<|aA zI<|aS<|af<|yn Z<|bg zI ?_;refine And.intro ⟨by simp,by simp[aE];omega,by simp[aE];omega⟩ ?_)
         (refine aS<|aF<|af<|yP Z<|cD Z<|cr Z Z Z Z Z<|yA Z<|cL<|bp<|aj<|ai ?_;refine⟨(m,r,(q::u),(!ia),ib,eI (!ia) ib,out++[p]),_,aW.refl _ _,?_⟩)
         exact⟨⟨by simp;omega,by simp only[List.append_assoc,List.cons_append,List.nil_append];exact h2,by simp;omega⟩,by simp only;omega,⟨bO [i64 p] _,Z,Z,Z,Z,Z,Z,Y⟩,⟨d_ _ out p,trivial⟩⟩
        have g9:eI (!ia) ib=is:=by simpa using g9
        rw[if_pos g9] at h2
        (refine aJ<|bp<|aj<|ai ?_;refine⟨(m,r,(q::u),(!ia),ib,is,out),_,aW.refl _ _,?_⟩)
        exact⟨⟨by simp;omega,h2,by simp only;omega⟩,by simp only;omega,⟨bO [i64 p] _,Z,Z,Z,Z,Z,Z,Y⟩,⟨Z,Y⟩⟩
       simp at g7
      exact absurd trivial g6
     simp at g5
    rw[if_neg g4] at h2
    (refine aM<|yP Z<|yq Z<|aK zI ?_;refine⟨[i64 q],(idx (i:=0) rfl rfl),?_⟩)
    (refine yk<|yP Z<|yA Z<|yT<|au<|yS<|yP Z<|yP Z<|yP Z<|yP Z<|yg Z ?_;refine aa (fun g5=>?_) (fun g5=>?_) <;> try simp only[zB] at g5)
    ·(refine bS<|bA Z Z<|aA zI<|yk<|y2 Z<|bA Z Z<|aK zI ?_;refine⟨[i64 p],(idx (i:=0) rfl rfl),?_⟩)
     (refine yk<|y1 Z<|y1 Z<|y1 Z<|yP Z<|yT<|az Z ?_;refine aa (fun g6=>?_) (fun g6=>?_) <;> try simp only[zB] at g6)
     ·omega
     (refine aJ<|aj<|au<|yS<|yP Z<|yP Z<|yP Z<|yP Z<|yg Z ?_;refine aa (fun g7=>?_) (fun g7=>?_) <;> try simp only[zB] at g7)
     ·(refine bS<|bA Z Z<|aA zI<|yk<|y2 Z<|bA Z Z<|aK zI ?_;refine⟨[i64 q],(idx (i:=0) rfl rfl),?_⟩)
      (refine yk<|y1 Z<|y1 Z<|y1 Z<|yP Z<|yT<|az Z ?_;refine aa (fun g8=>?_) (fun g8=>?_) <;> try simp only[zB] at g8)
      ·(refine aM<|yP Z<|yq Z<|bg zI ?_;refine And.intro ⟨by simp,by simp;omega⟩ ?_)
       rw[show dy q (q::u) ib=(u,!ib) by simp[dy],show dy q (p::r) ia=(p::r,ia) by simp[dy,g6]] at h2
       simp only at h2
       (refine yk<|yP Z<|yP Z<|yA Z<|yA Z<|yU<|yP Z<|yP Z<|yP Z<|yn Z<|aK zI ?_;refine⟨_,_,(oa ia (!ib)),?_⟩)
       (refine b9 Z Z<|ae<|yA Z<|yU<|yP Z<|yP Z<|yP Z<|yT<|az Z ?_;refine aa (fun g9=>?_) (fun g9=>?_) <;> try simp only[zB] at g9)
       ·have g9:¬eI ia (!ib)=is:=by simpa using g9
        rw[if_neg g9] at h2
        (refine aM<|yq Z<|aA zI<|bd<|af<|yP Z<|yn Z<|aA zI<|aS<|af<|yn Z<|bg zI ?_;refine And.intro ⟨by simp,by simp[aE];omega,by simp[aE];omega⟩ ?_)
        (refine aS<|aF<|af<|yP Z<|cD Z<|cr Z Z Z Z Z<|yA Z<|cL<|bp<|aj<|ai ?_;refine⟨(m,(p::r),u,ia,(!ib),eI ia (!ib),out++[q]),_,aW.refl _ _,?_⟩)
        exact⟨⟨by simp;omega,by simp only[List.append_assoc,List.cons_append,List.nil_append];exact h2,by simp;omega⟩,by simp only;omega,⟨rfl,bO [i64 q] _,Z,Z,Z,Z,Z,Y⟩,⟨d_ _ out q,trivial⟩⟩
       have g9:eI ia (!ib)=is:=by simpa using g9
       rw[if_pos g9] at h2
       (refine aJ<|bp<|aj<|ai ?_;refine⟨(m,(p::r),u,ia,(!ib),is,out),_,aW.refl _ _,?_⟩)
       exact⟨⟨by simp;omega,h2,by simp only;omega⟩,by simp only;omega,⟨rfl,bO [i64 q] _,Z,Z,Z,Z,Z,Y⟩,⟨Z,Y⟩⟩
      exact absurd trivial g8
     simp at g7
    simp at g5
   simp at g3
 simp at g1
theorem vd (a b:List ax) (ha:hZ a) (hb':hZ b) (ka:cQ 2000000 a) (kb:cQ 2000000 b):aD C 65 [.pv (aG a),.pv (aG b),.pv (pj 73)] (.p (aG (jm a b))) []:=by
 refine aT hC Tryz.func65 rfl rfl 126 rfl (by decide) (by kernel_rfl) fun _ _ _ _ _=>?_
 have la:=Reg.cy ha (by omega) ka
 have lb:=Reg.cy hb' (by omega) kb
 have ma:=aN a hb
 have mb:=aN b hb
 (refine yS<|yB Z<|yU<|yB Z<|yT<|au<|yS<|yP Z<|yP Z<|yP Z<|yP Z<|yq Z<|bg zI ?_;refine And.intro ⟨by rw[ma,mb];omega,by rw[ma,mb];omega⟩ ?_)
 (refine yk<|yP Z<|yT<|az Z ?_;refine aa (fun g0=>?_) (fun g0=>?_) <;> try simp only[zB] at g0)
 ·rw[ma,mb] at g0
  (refine yS<|yB Z<|yT<|bP<|aX<|bQ zi ?_;refine And.intro ?_ trivial)
  rw[jm,gK,if_pos (by omega)]
  rfl
 rw[ma,mb] at g0
 have hn:a.length+b.length≠0:=by omega
 (refine aJ<|aj<|yS<|yA Z<|yA Z<|yT<|au<|yS<|yP Z<|yP Z<|yn Z<|aA zI<|aS<|af ?_;refine yP Z<|yP Z<|yT<|aZ ?_)
 refine aI (fun i:Nat=>i<=2) (fun i=>[(0,.p (aG a)),(1,.p (aG b)),(2,.p (pj 73)),(7,.nl),(8,.p (i64 (st a b i).1)),(9,.p (i64 (st a b i).2)),(25,.ow 25),(26,.p (i64 (2:Nat))),(27,.p (i64 i))]) (fun i=>[(25,.row 81 [[aG a],[aG b]])]) (fun i=>2 - i) 0 _ (aW.refl _ _) (by omega) ⟨Z,Z,Z,Z,Z,Z,Z,Z,Z,Y⟩ ⟨Z,Y⟩ fun i hi t h=>?_
 (refine yS<|yP Z<|yT<|au<|az Z ?_;refine aa (fun g1=>?_) (fun g1=>?_) <;> try simp only[zB] at g1)
 ·obtain rfl | rfl:i=0\/i=1:=by omega
  ·(refine aJ<|aj<|au<|aZ<|yS<|yP Z<|yq Z<|bg zI ?_;refine And.intro ⟨by simp,by simp⟩ ?_)
   (refine bd<|bJ<|yq Z<|aK zI ?_;refine⟨[aG a],rfl,?_⟩)
   rcases a with _ | ⟨p,r⟩
   ·((refine yk<|yA Z<|yA Z<|yU<|yP Z<|yP Z<|yP Z<|yT<|az Z<|cM<|aJ<|bp<|aj<|aM ?_;refine yq Z<|bg zI ?_);refine sI ?_)
    (refine yk<|yP Z<|yT<|ai ?_;refine⟨1,_,aW.refl _ _,?_⟩)
    exact⟨by omega,by omega,⟨Z,Z,Z,Z,Z,Z,Z,Z,Z,Y⟩,⟨Z,Y⟩⟩
   obtain⟨t1,v7,Gd⟩:=Reg.kO p r
   simp at la
   (refine yk<|yA Z<|yA Z<|yU<|yP Z<|yP Z<|yP Z<|yT<|az Z ?_;refine aa (fun g2=>?_) (fun g2=>?_) <;> try simp only[zB] at g2)
   ·(refine au<|yS<|yP Z<|yP Z<|yP Z<|y0 Z<|y0 Z<|y0 Z<|yP Z<|yT<|az Z<|fy<|cH [] false yz rfl (by kernel_rfl)<|cG Z ?_;refine yD Z<|dq Z<|aK zI ?_)
    (skip;refine⟨(hb p),(idx (i:=0) rfl rfl),?_⟩)
    (refine bB<|ae<|yD Z<|yD Z<|yD Z<|yD Z<|yD Z<|dq Z<|bg zI ?_;refine And.intro ⟨by simp,by simp;omega⟩ ?_)
    (refine bB<|ae<|dq Z<|aK zI ?_;refine⟨(hb t1),(idx (show (((p::r).map hb).length:Int) - 1=((r.length:Nat):Int) by simp) v7),?_⟩)
    ((refine bB<|ae<|yD Z<|yD Z<|yD Z<|yD Z<|cn<|aq Z<|aq Z<|aq Z<|aq Z<|aq Z<|aq Z<|aq Z ?_;refine aq Z<|aq Z<|aq Z<|aq Z<|dW Z Z<|dW Z Z<|fo Z<|aj<|cH [] false nD rfl (by kernel_rfl)<|cG Z<|yD Z<|yD Z<|dq Z<|aK zI ?_);refine⟨(hb p),(idx (i:=0) rfl rfl),?_⟩)
    (refine bB<|ae<|yD Z<|yD Z<|yD Z<|yD Z<|yD Z<|yD Z<|yD Z<|dq Z<|bg zI ?_;refine And.intro ⟨by simp,by simp;omega⟩ ?_)
    (refine bB<|ae<|dq Z<|aK zI ?_;refine⟨(hb t1),(idx (show (((p::r).map hb).length:Int) - 1=((r.length:Nat):Int) by simp) v7),?_⟩)
    ((refine bB<|ae<|yD Z<|yD Z<|yD Z<|yD Z<|yD Z<|cn<|aq Z<|aq Z<|aq Z<|aq Z<|aq Z<|aq Z ?_;refine aq Z<|aq Z<|aq Z<|aq Z<|aq Z<|aq Z<|aq Z<|aq Z<|aq Z<|dW Z Z<|dW Z Z<|fo Z<|bp<|aj ?_;refine aM<|yq Z<|bg zI ?_);refine sI ?_)
    (refine yk<|yP Z<|yT<|ai ?_;refine⟨1,_,aW.refl _ _,?_⟩)
    exact⟨by omega,by omega,⟨rfl,rfl,rfl,rfl,cd (show min p.y0 p.y0=p.y0 by omega),cd (show max t1.y1 t1.y1=db (p::r) by omega),Z,Z,Z,Y⟩,⟨Z,Y⟩⟩
   simp at g2
  (refine aJ<|aj<|au<|aZ<|yS<|yP Z<|yq Z<|bg zI ?_;refine And.intro ⟨by simp,by simp⟩ ?_)
  (refine bd<|bJ<|yq Z<|aK zI ?_;refine⟨[aG b],rfl,?_⟩)
  rcases b with _ | ⟨q,u⟩
  ·((refine yk<|yA Z<|yA Z<|yU<|yP Z<|yP Z<|yP Z<|yT<|az Z<|cM<|aJ<|bp<|aj<|aM ?_;refine yq Z<|bg zI ?_);refine sI ?_)
   (refine yk<|yP Z<|yT<|ai ?_;refine⟨2,_,aW.refl _ _,?_⟩)
   have e1:st a [] 1=st a [] 2:=by
    rcases a with _ | ⟨p,r⟩
    ·simp at hn
    rfl
   exact⟨by omega,by omega,⟨rfl,rfl,rfl,rfl,cd (by rw[e1]),cd (by rw[e1]),Z,Z,Z,Y⟩,⟨Z,Y⟩⟩
  obtain⟨t1,v7,Gd⟩:=Reg.kO q u
  simp at lb
  (refine yk<|yA Z<|yA Z<|yU<|yP Z<|yP Z<|yP Z<|yT<|az Z ?_;refine aa (fun g2=>?_) (fun g2=>?_) <;> try simp only[zB] at g2)
  ·rcases a with _ | ⟨p,r⟩
   ·(refine au<|yS<|yP Z<|yP Z<|yP Z<|y1 Z<|y1 Z<|y1 Z<|yP Z<|yT<|az Z<|fy<|cH [] false yz rfl (by kernel_rfl)<|cG Z ?_;refine yD Z<|dq Z<|aK zI ?_)
    (skip;refine⟨(hb q),(idx (i:=0) rfl rfl),?_⟩)
    (refine bB<|ae<|yD Z<|yD Z<|yD Z<|yD Z<|yD Z<|dq Z<|bg zI ?_;refine And.intro ⟨by simp,by simp;omega⟩ ?_)
    (refine bB<|ae<|dq Z<|aK zI ?_;refine⟨(hb t1),(idx (show (((q::u).map hb).length:Int) - 1=((u.length:Nat):Int) by simp) v7),?_⟩)
    ((refine bB<|ae<|yD Z<|yD Z<|yD Z<|yD Z<|cn<|aq Z<|aq Z<|aq Z<|aq Z<|aq Z<|aq Z<|aq Z ?_;refine aq Z<|aq Z<|aq Z<|aq Z<|dW Z Z<|dW Z Z<|fo Z<|aj<|cH [] false nD rfl (by kernel_rfl)<|cG Z<|yD Z<|yD Z<|dq Z<|aK zI ?_);refine⟨(hb q),(idx (i:=0) rfl rfl),?_⟩)
    (refine bB<|ae<|yD Z<|yD Z<|yD Z<|yD Z<|yD Z<|yD Z<|yD Z<|dq Z<|bg zI ?_;refine And.intro ⟨by simp,by simp;omega⟩ ?_)
    (refine bB<|ae<|dq Z<|aK zI ?_;refine⟨(hb t1),(idx (show (((q::u).map hb).length:Int) - 1=((u.length:Nat):Int) by simp) v7),?_⟩)
    ((refine bB<|ae<|yD Z<|yD Z<|yD Z<|yD Z<|yD Z<|cn<|aq Z<|aq Z<|aq Z<|aq Z<|aq Z<|aq Z ?_;refine aq Z<|aq Z<|aq Z<|aq Z<|aq Z<|aq Z<|aq Z<|aq Z<|aq Z<|dW Z Z<|dW Z Z<|fo Z<|bp<|aj ?_;refine aM<|yq Z<|bg zI ?_);refine sI ?_)
    (refine yk<|yP Z<|yT<|ai ?_;refine⟨2,_,aW.refl _ _,?_⟩)
    exact⟨by omega,by omega,⟨rfl,rfl,rfl,rfl,cd (show min q.y0 q.y0=q.y0 by omega),cd (show max t1.y1 t1.y1=db (q::u) by omega),Z,Z,Z,Y⟩,⟨Z,Y⟩⟩
   (refine au<|yS<|yP Z<|yP Z<|yP Z<|y1 Z<|y1 Z<|y1 Z<|yP Z<|yT<|az Z<|cM<|aJ<|aj ?_;refine cH [] false nD rfl (by kernel_rfl)<|cG Z<|yD Z<|yD Z<|dq Z<|aK zI ?_)
   (skip;refine⟨(hb q),(idx (i:=0) rfl rfl),?_⟩)
   (refine bB<|ae<|yD Z<|yD Z<|yD Z<|yD Z<|yD Z<|yD Z<|yD Z<|dq Z<|bg zI ?_;refine And.intro ⟨by simp,by simp;omega⟩ ?_)
   (refine bB<|ae<|dq Z<|aK zI ?_;refine⟨(hb t1),(idx (show (((q::u).map hb).length:Int) - 1=((u.length:Nat):Int) by simp) v7),?_⟩)
   ((refine bB<|ae<|yD Z<|yD Z<|yD Z<|yD Z<|yD Z<|cn<|aq Z<|aq Z<|aq Z<|aq Z<|aq Z<|aq Z ?_;refine aq Z<|aq Z<|aq Z<|aq Z<|aq Z<|aq Z<|aq Z<|aq Z<|aq Z<|dW Z Z<|dW Z Z<|fo Z<|bp<|aj ?_;refine aM<|yq Z<|bg zI ?_);refine sI ?_)
   (refine yk<|yP Z<|yT<|ai ?_;refine⟨2,_,aW.refl _ _,?_⟩)
   exact⟨by omega,by omega,⟨rfl,rfl,rfl,rfl,rfl,cd (show max (db (p::r)) t1.y1=max (db (p::r)) (db (q::u)) by rw[Gd]),Z,Z,Z,Y⟩,⟨Z,Y⟩⟩
  simp at g2
 have e:i=2:=by omega
 subst e
 have DU:=Reg.H_ ka kb hn
 have DV:=Reg.Ia ka kb hn
 have e2:jm a b=dH eI (nF a b - nE a b).toNat a b (nE a b) (nF a b) []:=by rw[jm,gK,if_neg hn]
 rw[e2]
 obtain⟨lo,u6⟩:∃lo,lo=nE a b:=⟨_,rfl⟩
 obtain⟨e,CE⟩:∃e,e=nF a b:=⟨_,rfl⟩
 rw[<-u6] at DU
 rw[<-CE] at DV
 rw[<-u6,<-CE]
 have hR:∃R,R=dH eI (e - lo).toNat a b lo e []:=⟨_,rfl⟩
 obtain⟨R,hR⟩:=hR
 rw[<-hR]
 refine bT<|aY<|aY<|bU<|aj<|au<|aZ ?_
 refine aI (fun x:Nat×List ax×List ax×Int×List ax=>(e - x.2.2.2.1).toNat<=x.1/\dH eI x.1 x.2.1 x.2.2.1 x.2.2.2.1 e x.2.2.2.2=R/\hZ x.2.1/\hZ x.2.2.1/\hZ x.2.2.2.2/\(∀t∈x.2.2.2.2,t.y1<=x.2.2.2.1)/\cQ 2000000 x.2.1/\cQ 2000000 x.2.2.1/\cQ 2000000 x.2.2.2.2/\-2000000<=x.2.2.2.1)
  (fun x=>[(0,.p (aG x.2.1)),(1,.p (aG x.2.2.1)),(2,.p (pj 73)),(7,.ow 7),(8,.p (i64 x.2.2.2.1)),(9,.p (i64 e))]) (fun x=>[(7,.row 145 (x.2.2.2.2.map hb))]) (fun x=>x.1) ((e - lo).toNat,a,b,lo,[]) _
  (aW.fa hC _ 7 145 _ (by decide) rfl rfl (by decide)) ⟨Nat.le_refl _,hR.symm,ha,hb',trivial,fun t ht=>(by cases ht),ka,kb,fun t ht=>(by cases ht),DU⟩ ⟨rfl,rfl,rfl,rfl,cd u6.symm,cd CE.symm,trivial⟩ ⟨Z,Y⟩ fun ⟨n,a',b',y,out⟩ hi t h=>?_
 obtain⟨i1,i2,i3,i4,i5,i6,i7,i8,i9,i10⟩:=hi
 simp only at i1 i2 i3 i4 i5 i6 i7 i8 i9 i10
 have Th:=Reg.cy i3 (by omega) i7
 have Ti:=Reg.cy i4 (by omega) i8
 have Tj:=Reg.cy i5 (by omega) i9
 have OJ:=Reg.jk i5 (by omega) i9
 (refine au<|yS<|yP Z<|yP Z<|yP Z<|yT<|az Z ?_;refine aa (fun g2=>?_) (fun g2=>?_) <;> try simp only[zB] at g2)
 ·obtain⟨m,rfl⟩:∃m,n=m+1:=⟨n - 1,by omega⟩
  obtain⟨nx,L,wo,hL,j1,j2,j3,j4,j5,j6,j7,j8,j9,OL,OM,ON,OO,OP⟩:=Reg.vc g2 i3 i4 i5 i6 i7 i8 i9 i10 DV
  rw[dH,if_pos g2,<-wo,<-hL] at i2
  refine aJ<|aj<|aZ<|au<|aZ ?_
  refine nj (fun _:Unit=>True) (fun _=>[(0,.p (aG (aC y a'))),(1,.p (aG b')),(2,.p (pj 73)),(7,.ow 7),(8,.p (i64 y)),(9,.p (i64 e))]) (fun _=>[(7,.row 145 (out.map hb))]) (fun _ _ t h=>?_) ?_
  rotate_left
  ·refine aI (fun s:List ax=>aC y s=aC y a'/\(s.length:Int)<=4000000) (fun s=>[(0,.p (aG s)),(1,.p (aG b')),(2,.p (pj 73)),(7,.ow 7),(8,.p (i64 y)),(9,.p (i64 e))]) (fun _=>[(7,.row 145 (out.map hb))]) (fun s=>s.length) a' _ (aW.refl _ _) ⟨rfl,by omega⟩ ⟨Z,Z,Z,Z,Z,Z,Y⟩ ⟨Z,Y⟩ fun s hs t h=>?_
   obtain⟨s1,s2⟩:=hs
   rcases s with _ | ⟨c,s⟩
   ·(refine au<|yS<|yP Z<|yP Z<|yP Z<|yP Z<|y0 Z<|y0 Z<|y0 Z<|y0 Z<|y0 Z<|y0 Z<|yP Z<|yT ?_;refine az Z<|cM<|bT<|aY<|aY<|bU<|aj<|ai<|zX zi ?_)
    rw[<-s1]
    exact⟨(),trivial,⟨Z,Z,Z,Z,Z,Z,Y⟩,⟨Z,Y⟩⟩
   simp at s2
   (refine au<|yS<|yP Z<|yP Z<|yP Z<|yP Z<|yg Z ?_;refine aa (fun d1=>?_) (fun d1=>?_) <;> try simp only[zB] at d1)
   ·(refine bS<|bA Z Z<|aA zI<|yk<|y2 Z<|bA Z Z<|aK zI ?_;refine⟨(hb c),(idx (i:=0) rfl rfl),?_⟩)
    (refine yk<|y1 Z<|y1 Z<|y1 Z<|y1 Z<|yP Z<|yT<|az Z ?_;refine aa (fun d2=>?_) (fun d2=>?_) <;> try simp only[zB] at d2)
    ·(refine aJ<|aj<|aZ<|aM<|yP Z<|yq Z<|bg zI ?_;refine And.intro ⟨by simp,(by first | omega | (simp;done) | (simp;omega)),(by first | omega | (simp;done) | (simp;omega)),oO⟩ ?_)
     (refine yk<|yA Z<|cL<|bp<|aj<|ai ?_;refine⟨s,_,aW.refl _ _,?_⟩)
     rw[aC,if_pos d2] at s1
     exact⟨⟨s1,by omega⟩,by simp,⟨bO (hb c) _,Z,Z,Z,Z,Z,Y⟩,⟨Z,Y⟩⟩
    refine bT<|aY<|aY<|bU<|aj<|ai<|zX zi ?_
    rw[aC,if_neg d2] at s1
    rw[<-s1]
    exact⟨(),trivial,⟨Z,Z,Z,Z,Z,Z,Y⟩,⟨Z,Y⟩⟩
   simp at d1
  refine aj<|au<|aZ ?_
  refine nj (fun _:Unit=>True) (fun _=>[(0,.p (aG (aC y a'))),(1,.p (aG (aC y b'))),(2,.p (pj 73)),(7,.ow 7),(8,.p (i64 y)),(9,.p (i64 e))]) (fun _=>[(7,.row 145 (out.map hb))]) (fun _ _ t h=>?_) ?_
  rotate_left
  ·refine aI (fun s:List ax=>aC y s=aC y b'/\(s.length:Int)<=4000000) (fun s=>[(0,.p (aG (aC y a'))),(1,.p (aG s)),(2,.p (pj 73)),(7,.ow 7),(8,.p (i64 y)),(9,.p (i64 e))]) (fun _=>[(7,.row 145 (out.map hb))]) (fun s=>s.length) b' _ (aW.refl _ _) ⟨rfl,by omega⟩ ⟨Z,Z,Z,Z,Z,Z,Y⟩ ⟨Z,Y⟩ fun s hs t h=>?_
   obtain⟨s1,s2⟩:=hs
   rcases s with _ | ⟨c,s⟩
   ·(refine au<|yS<|yP Z<|yP Z<|yP Z<|yP Z<|y0 Z<|y0 Z<|y0 Z<|y0 Z<|y0 Z<|y0 Z<|yP Z<|yT ?_;refine az Z<|cM<|bT<|aY<|aY<|bU<|aj<|ai<|zX zi ?_)
    rw[<-s1]
    exact⟨(),trivial,⟨Z,Z,Z,Z,Z,Z,Y⟩,⟨Z,Y⟩⟩
   simp at s2
   (refine au<|yS<|yP Z<|yP Z<|yP Z<|yP Z<|yg Z ?_;refine aa (fun d1=>?_) (fun d1=>?_) <;> try simp only[zB] at d1)
   ·(refine bS<|bA Z Z<|aA zI<|yk<|y2 Z<|bA Z Z<|aK zI ?_;refine⟨(hb c),(idx (i:=0) rfl rfl),?_⟩)
    (refine yk<|y1 Z<|y1 Z<|y1 Z<|y1 Z<|yP Z<|yT<|az Z ?_;refine aa (fun d2=>?_) (fun d2=>?_) <;> try simp only[zB] at d2)
    ·(refine aJ<|aj<|aZ<|aM<|yP Z<|yq Z<|bg zI ?_;refine And.intro ⟨by simp,(by first | omega | (simp;done) | (simp;omega)),(by first | omega | (simp;done) | (simp;omega)),oO⟩ ?_)
     (refine yk<|yA Z<|cL<|bp<|aj<|ai ?_;refine⟨s,_,aW.refl _ _,?_⟩)
     rw[aC,if_pos d2] at s1
     exact⟨⟨s1,by omega⟩,by simp,⟨rfl,bO (hb c) _,Z,Z,Z,Z,Y⟩,⟨Z,Y⟩⟩
    refine bT<|aY<|aY<|bU<|aj<|ai<|zX zi ?_
    rw[aC,if_neg d2] at s1
    rw[<-s1]
    exact⟨(),trivial,⟨Z,Z,Z,Z,Z,Z,Y⟩,⟨Z,Y⟩⟩
   simp at d1
  have q1:=Reg.gO OM (by omega) OO
  have q2:=Reg.gO ON (by omega) OP
  have q3:=Reg.eY (eo (aC y a') y e).1
  have q4:=Reg.eY (eo (aC y b') y e).1
  have hp:aD C 82 [.row 145 (out.map hb),.pv (.ag [i64 y,i64 (min (eo (aC y a') y e).2 (eo (aC y b') y e).2),ints (dV eI (bK (eo (aC y a') y e).1) (bK (eo (aC y b') y e).1))])] (.own 145 ((du out ⟨y,nx,pairUp L⟩).map hb)) [.gone]:=by
   rw[<-wo,<-hL,show [i64 y,i64 nx,ints L]=hb ⟨y,nx,pairUp L⟩ by rw[hb,jK,j3]]
   exact mK out ⟨y,nx,pairUp L⟩ j1 (by omega) (fun t ht=>by have:=OJ t ht;omega)
  (refine aj<|yS<|yP Z<|yP Z<|yP Z<|yn Z<|aK zI ?_;refine⟨_,_,(lX (aC y a') y e),?_⟩)
  ((refine b9 Z Z<|bq<|yq Z<|aA zI<|bd<|bq<|yP Z<|yP Z<|yA Z<|yA Z<|yU<|yP Z<|yP Z<|yP Z ?_;refine yn Z<|aK zI ?_);refine⟨_,_,(lX (aC y b') y e),?_⟩)
  ((refine b9 Z Z<|bq<|yq Z<|aA zI<|bd<|bq<|yP Z<|yP Z<|yA Z<|yA Z<|yU<|yP Z<|yP Z<|yP Z ?_;refine yA Z<|yU<|yq Z<|aA zI<|bd<|af<|yP Z<|yP Z<|yP Z<|yP Z<|yP Z<|yn Z<|aK zI ?_);refine⟨_,_,(wJ (bK (eo (aC y a') y e).1) (bK (eo (aC y b') y e).1) (by omega)),?_⟩)
  (refine b9 Z Z<|ae<|yP Z<|yn Z<|aK zI ?_;refine⟨_,_,hp,?_⟩)
  (refine aS<|aF<|af<|cD Z<|cr Z Z Z Z Z<|yT<|aM<|yP Z<|yA Z<|cL<|bp<|aj<|ai ?_;refine⟨(m,aC y a',aC y b',nx,du out ⟨y,nx,pairUp L⟩),_,aW.refl _ _,?_⟩)
  exact⟨⟨by simp only;omega,i2,j4,j5,j8,j9,j6,j7,OL,by simp only;omega⟩,by simp only;omega,⟨rfl,rfl,rfl,rfl,cd wo.symm,Z,Y⟩,⟨Z,Y⟩⟩
 have e3:dH eI n a' b' y e out=out:=by
  cases n with
  | zero=>rfl
  | succ n=>rw[dH,if_neg g2]
 rw[e3] at i2
 (refine bT<|aY<|aY<|bU<|aj<|yS<|yq Z<|aA zI<|bd<|af<|cD Z<|cr Z Z Z Z Z<|yR zi ?_;refine And.intro ?_ trivial)
 rw[<-i2]
 rfl
theorem xz (a b:List ax) (ha:hZ a) (hb':hZ b) (ka:cQ 2000000 a) (kb:cQ 2000000 b):aD C 29 [.pv (aG a),.pv (aG b)] (.p (aG (jm a b))) []:=by
 refine aT hC Tryz.func29 rfl rfl 8 rfl (by decide) (by kernel_rfl) fun _ _ _ _ _=>?_
 (refine yS<|yB Z<|yU<|yP Z<|yP Z<|yn Z<|aK zI ?_;refine⟨_,_,(vd a b ha hb' ka kb),?_⟩)
 (refine b9 Z Z<|ae<|yA Z<|yR zi ?_;refine And.intro ?_ trivial)
 rfl
theorem qP (a b:Bool):aD C 107 [.pv (bool a),.pv (bool b)] (.p (bool (kP a b))) []:=by
 refine aT hC Tryz.func107 rfl rfl 9 rfl (by decide) (by kernel_rfl) fun _ _ _ _ _=>?_
 (refine yS<|yA Z<|yU<|yP Z<|yP Z<|yg Z ?_;refine aa (fun h=>?_) (fun h=>?_) <;> try simp only[zB] at h)
 ·(refine cB<|ae<|yP Z<|yA Z<|yR zi ?_;refine And.intro ?_ trivial)
  subst h;rfl
 (refine bS<|bA Z Z<|aA zI<|yk<|yP Z<|yA Z<|yR zi ?_;refine And.intro ?_ trivial)
 have h:a=false:=by simpa using h
 subst h;rfl
theorem zm (a b:List Int) (hN:a.length+b.length<=4398046511104):aD C 112 [.pv (ints a),.pv (ints b),.pv (pj 107)] (.p (ints (dV kP a b))) []:=by
 refine aT hC Tryz.func112 rfl rfl 85 rfl (by decide) (by kernel_rfl) fun _ _ _ _ _=>?_
 refine yS<|yB Z<|yU<|yB Z<|yU<|yA Z<|yA Z<|yA Z<|yT<|au<|aZ ?_
 refine aI (fun x:Nat×List Int×List Int×Bool×Bool×Bool×List Int=>x.2.1.length+x.2.2.1.length<=x.1/\x.2.2.2.2.2.2++cF kP x.1 x.2.1 x.2.2.1 x.2.2.2.1 x.2.2.2.2.1 x.2.2.2.2.2.1=dV kP a b/\x.2.2.2.2.2.2.length+x.1<=a.length+b.length)
  (fun x=>[(0,.p (ints x.2.1)),(1,.p (ints x.2.2.1)),(2,.p (pj 107)),(7,.ow 7),(8,.p (bool x.2.2.2.1)),(9,.p (bool x.2.2.2.2.1)),(10,.p (bool x.2.2.2.2.2.1))])
  (fun x=>[(7,.row 3 (aE x.2.2.2.2.2.2))]) (fun x=>x.1) (a.length+b.length,a,b,false,false,false,[]) _ (aW.fa hC _ 7 3 _ (by decide) rfl rfl (by decide)) ⟨Nat.le_refl _,rfl,by simp⟩ ⟨Z,Z,Z,Z,Z,Z,Z,Y⟩ ⟨Z,Y⟩ fun ⟨n,a',b',ia,ib,is,out⟩ hi t h=>?_
 obtain⟨h1,h2,h3⟩:=hi
 simp only at h1 h2 h3
 have lm:∀l:List Int,(l.map fun n=>[i64 n]).length=l.length:=fun l=>List.length_map ..
 rcases a' with _ | ⟨p,r⟩
 ·rcases b' with _ | ⟨q,u⟩
  ·rw[se,List.append_nil] at h2
   ((refine au<|yS<|yP Z<|yP Z<|yP Z<|yP Z<|y1 Z<|y1 Z<|y1 Z<|yP Z<|yT<|az Z<|cM<|bT ?_;refine aY<|aY<|bU<|aj<|yS<|yq Z<|aA zI<|bd<|af<|cD Z<|cr Z Z Z Z Z<|yR zi ?_);refine And.intro ?_ trivial)
   rw[<-h2]
   rfl
  obtain⟨m,rfl⟩:∃m,n=m+1:=⟨n - 1,by simp at h1;omega⟩
  have e:cF kP (m+1) [] (q::u) ia ib is=if kP ia (!ib)=is then cF kP m [] u ia (!ib) is else q::cF kP m [] u ia (!ib) (kP ia (!ib)):=by simp[cF,fW,dy]
  rw[e] at h2
  simp at h1
  (refine au<|yS<|yP Z<|yP Z<|yP Z<|yP Z<|y1 Z<|y1 Z<|y1 Z<|yP Z<|yT<|az Z ?_;refine aa (fun g1=>?_) (fun g1=>?_) <;> try simp only[zB] at g1)
  ··
    ((refine aJ<|aj<|aZ<|yS<|yA Z<|yT<|au<|au<|cH [] false nD rfl (by kernel_rfl)<|cG Z<|yD Z<|yD Z<|yD Z<|yD Z ?_;refine d1 Z<|d1 Z<|d1 Z<|d1 Z<|d0 Z<|d0 Z<|d0 Z<|d0 Z<|d0 Z<|d0 Z<|d0 Z<|d1 Z<|yD Z<|cn ?_;refine fo Z<|aj<|az Z<|cM<|aM<|yP Z<|yq Z<|aK zI ?_);refine⟨[i64 q],(idx (i:=0) rfl rfl),?_⟩)
    ((refine yk<|yP Z<|yA Z<|yT<|au<|yS<|yP Z<|yP Z<|yP Z<|yP Z<|y0 Z<|y0 Z<|y0 Z<|y0 Z ?_;refine y0 Z<|yP Z<|yT<|az Z<|cM<|aJ<|aj<|au<|yS<|yP Z<|yP Z<|yP Z<|yP Z<|yg Z ?_);refine aa (fun g2=>?_) (fun g2=>?_) <;> try simp only[zB] at g2)
    ·(refine bS<|bA Z Z<|aA zI<|yk<|y2 Z<|bA Z Z<|aK zI ?_;refine⟨[i64 q],(idx (i:=0) rfl rfl),?_⟩)
     (refine yk<|y1 Z<|y1 Z<|y1 Z<|yP Z<|yT<|az Z ?_;refine aa (fun g3=>?_) (fun g3=>?_) <;> try simp only[zB] at g3)
     ·(refine aM<|yP Z<|yq Z<|bg zI ?_;refine And.intro ⟨by simp,by simp;omega⟩ ?_)
      (refine yk<|yP Z<|yP Z<|yA Z<|yA Z<|yU<|yP Z<|yP Z<|yP Z<|yn Z<|aK zI ?_;refine⟨_,_,(qP ia (!ib)),?_⟩)
      (refine b9 Z Z<|ae<|yA Z<|yU<|yP Z<|yP Z<|yP Z<|yT<|az Z ?_;refine aa (fun g9=>?_) (fun g9=>?_) <;> try simp only[zB] at g9)
      ·have g9:¬kP ia (!ib)=is:=by simpa using g9
       rw[if_neg g9] at h2
       (refine aM<|yq Z<|aA zI<|bd<|af<|yP Z<|yn Z<|aA zI<|aS<|af<|yn Z<|bg zI ?_;refine And.intro ⟨by simp,by simp[aE];omega,by simp[aE];omega⟩ ?_)
       (refine aS<|aF<|af<|yP Z<|cD Z<|cr Z Z Z Z Z<|yA Z<|cL<|bp<|aj<|ai ?_;refine⟨(m,[],u,ia,(!ib),kP ia (!ib),out++[q]),_,aW.refl _ _,?_⟩)
       exact⟨⟨by simp;omega,by simp only[List.append_assoc,List.cons_append,List.nil_append];exact h2,by simp;omega⟩,by simp only;omega,⟨rfl,bO [i64 q] _,Z,Z,Z,Z,Z,Y⟩,⟨d_ _ out q,trivial⟩⟩
      have g9:kP ia (!ib)=is:=by simpa using g9
      rw[if_pos g9] at h2
      (refine aJ<|bp<|aj<|ai ?_;refine⟨(m,[],u,ia,(!ib),is,out),_,aW.refl _ _,?_⟩)
      exact⟨⟨by simp;omega,h2,by simp only;omega⟩,by simp only;omega,⟨rfl,bO [i64 q] _,Z,Z,Z,Z,Z,Y⟩,⟨Z,Y⟩⟩
     exact absurd trivial g3
    simp at g2
  simp at g1
 rcases b' with _ | ⟨q,u⟩
 ·obtain⟨m,rfl⟩:∃m,n=m+1:=⟨n - 1,by simp at h1;omega⟩
  have e:cF kP (m+1) (p::r) [] ia ib is=if kP (!ia) ib=is then cF kP m r [] (!ia) ib is else p::cF kP m r [] (!ia) ib (kP (!ia) ib):=by simp[cF,fW,dy]
  rw[e] at h2
  simp at h1
  (refine au<|yS<|yP Z<|yP Z<|yP Z<|yP Z<|yg Z ?_;refine aa (fun g1=>?_) (fun g1=>?_) <;> try simp only[zB] at g1)
  ·((refine cB<|ae<|y0 Z<|y0 Z<|yP Z<|yT<|az Z<|fy<|aJ<|aj<|aZ<|yS<|yA Z<|yT ?_;refine au<|au<|cH [] false nD rfl (by kernel_rfl)<|cG Z<|yD Z<|yD Z<|yD Z<|yD Z<|d0 Z<|d0 Z<|d0 Z<|d0 Z<|gu Z Z Z Z<|ae ?_;refine gu Z Z Z Z<|ae<|gu Z Z Z Z<|ae<|gu Z Z Z Z<|ae<|gu Z Z Z Z<|ae<|gu Z Z Z Z<|ae<|gu Z Z Z Z<|ae<|d0 Z<|yD Z ?_;refine cn<|fo Z<|aj<|az Z<|fy<|aM<|yP Z<|yq Z<|aK zI ?_);refine⟨[i64 p],(idx (i:=0) rfl rfl),?_⟩)
   (refine yk<|yP Z<|yA Z<|yT<|au<|yS<|yP Z<|yP Z<|yP Z<|yP Z<|yg Z ?_;refine aa (fun g2=>?_) (fun g2=>?_) <;> try simp only[zB] at g2)
   ·(refine bS<|bA Z Z<|aA zI<|yk<|y2 Z<|bA Z Z<|aK zI ?_;refine⟨[i64 p],(idx (i:=0) rfl rfl),?_⟩)
    (refine yk<|y1 Z<|y1 Z<|y1 Z<|yP Z<|yT<|az Z ?_;refine aa (fun g3=>?_) (fun g3=>?_) <;> try simp only[zB] at g3)
    ·(refine aM<|yP Z<|yq Z<|bg zI ?_;refine And.intro ⟨by simp,by simp;omega⟩ ?_)
     ((refine yk<|yP Z<|yP Z<|yA Z<|yA Z<|yT<|au<|yS<|yP Z<|yP Z<|yP Z<|yP Z<|y0 Z<|y0 Z ?_;refine y0 Z<|y0 Z<|y0 Z<|yP Z<|yT<|az Z<|cM<|aJ<|aj<|yS<|yP Z<|yP Z<|yP Z<|yn Z ?_;refine aK zI ?_);refine⟨_,_,(qP (!ia) ib),?_⟩)
     (refine b9 Z Z<|ae<|yA Z<|yU<|yP Z<|yP Z<|yP Z<|yT<|az Z ?_;refine aa (fun g9=>?_) (fun g9=>?_) <;> try simp only[zB] at g9)
     ·have g9:¬kP (!ia) ib=is:=by simpa using g9
      rw[if_neg g9] at h2
      (refine aM<|yq Z<|aA zI<|bd<|af<|yP Z<|yn Z<|aA zI<|aS<|af<|yn Z<|bg zI ?_;refine And.intro ⟨by simp,by simp[aE];omega,by simp[aE];omega⟩ ?_)
      (refine aS<|aF<|af<|yP Z<|cD Z<|cr Z Z Z Z Z<|yA Z<|cL<|bp<|aj<|ai ?_;refine⟨(m,r,[],(!ia),ib,kP (!ia) ib,out++[p]),_,aW.refl _ _,?_⟩)
      exact⟨⟨by simp;omega,by simp only[List.append_assoc,List.cons_append,List.nil_append];exact h2,by simp;omega⟩,by simp only;omega,⟨bO [i64 p] _,Z,Z,Z,Z,Z,Z,Y⟩,⟨d_ _ out p,trivial⟩⟩
     have g9:kP (!ia) ib=is:=by simpa using g9
     rw[if_pos g9] at h2
     (refine aJ<|bp<|aj<|ai ?_;refine⟨(m,r,[],(!ia),ib,is,out),_,aW.refl _ _,?_⟩)
     exact⟨⟨by simp;omega,h2,by simp only;omega⟩,by simp only;omega,⟨bO [i64 p] _,Z,Z,Z,Z,Z,Z,Y⟩,⟨Z,Y⟩⟩
    exact absurd trivial g3
   simp at g2
  simp at g1
 obtain⟨m,rfl⟩:∃m,n=m+1:=⟨n - 1,by simp at h1;omega⟩
 have e:cF kP (m+1) (p::r) (q::u) ia ib is=if kP (dy (if p<=q then p else q) (p::r) ia).2 (dy (if p<=q then p else q) (q::u) ib).2=is then cF kP m (dy (if p<=q then p else q) (p::r) ia).1 (dy (if p<=q then p else q) (q::u) ib).1 (dy (if p<=q then p else q) (p::r) ia).2 (dy (if p<=q then p else q) (q::u) ib).2 is else (if p<=q then p else q)::cF kP m (dy (if p<=q then p else q) (p::r) ia).1 (dy (if p<=q then p else q) (q::u) ib).1 (dy (if p<=q then p else q) (p::r) ia).2 (dy (if p<=q then p else q) (q::u) ib).2 (kP (dy (if p<=q then p else q) (p::r) ia).2 (dy (if p<=q then p else q) (q::u) ib).2):=rfl
 rw[e] at h2
 simp at h1
 (refine au<|yS<|yP Z<|yP Z<|yP Z<|yP Z<|yg Z ?_;refine aa (fun g1=>?_) (fun g1=>?_) <;> try simp only[zB] at g1)
 ··
   ((refine cB<|ae<|y0 Z<|y0 Z<|yP Z<|yT<|az Z<|fy<|aJ<|aj<|aZ<|yS<|yA Z<|yT ?_;refine au<|au<|cH [] false nD rfl (by kernel_rfl)<|cG Z<|yD Z<|yD Z<|yD Z<|yD Z<|d1 Z<|d1 Z<|d1 Z<|d1 Z<|dg Z ?_);refine aa (fun g3=>?_) (fun g3=>?_) <;> try simp only[zB] at g3)
   ·(refine bS<|c_ Z<|aA zI<|bB<|ae<|d2 Z<|c_ Z<|aK zI ?_;refine⟨[i64 p],(idx (i:=0) rfl rfl),?_⟩)
    (refine bB<|ae<|d1 Z<|d1 Z<|d2 Z<|c_ Z<|aK zI ?_;refine⟨[i64 q],(idx (i:=0) rfl rfl),?_⟩)
    (refine bB<|ae<|d1 Z<|d1 Z<|d1 Z<|yD Z<|cn<|fo Z<|aj<|az Z ?_;refine aa (fun g4=>?_) (fun g4=>?_) <;> try simp only[zB] at g4)
    ·rw[if_pos g4] at h2
     (refine aM<|yP Z<|yq Z<|aK zI ?_;refine⟨[i64 p],(idx (i:=0) rfl rfl),?_⟩)
     (refine yk<|yP Z<|yA Z<|yT<|au<|yS<|yP Z<|yP Z<|yP Z<|yP Z<|yg Z ?_;refine aa (fun g5=>?_) (fun g5=>?_) <;> try simp only[zB] at g5)
     ·(refine bS<|bA Z Z<|aA zI<|yk<|y2 Z<|bA Z Z<|aK zI ?_;refine⟨[i64 p],(idx (i:=0) rfl rfl),?_⟩)
      (refine yk<|y1 Z<|y1 Z<|y1 Z<|yP Z<|yT<|az Z ?_;refine aa (fun g6=>?_) (fun g6=>?_) <;> try simp only[zB] at g6)
      ·(refine aM<|yP Z<|yq Z<|bg zI ?_;refine And.intro ⟨by simp,by simp;omega⟩ ?_)
       (refine yk<|yP Z<|yP Z<|yA Z<|yA Z<|yT<|au<|yS<|yP Z<|yP Z<|yP Z<|yP Z<|yg Z ?_;refine aa (fun g7=>?_) (fun g7=>?_) <;> try simp only[zB] at g7)
       ·(refine bS<|bA Z Z<|aA zI<|yk<|y2 Z<|bA Z Z<|aK zI ?_;refine⟨[i64 q],(idx (i:=0) rfl rfl),?_⟩)
        (refine yk<|y1 Z<|y1 Z<|y1 Z<|yP Z<|yT<|az Z ?_;refine aa (fun g8=>?_) (fun g8=>?_) <;> try simp only[zB] at g8)
        ·(refine aM<|yP Z<|yq Z<|bg zI ?_;refine And.intro ⟨by simp,by simp;omega⟩ ?_)
         rw[show dy p (p::r) ia=(r,!ia) by simp[dy],show dy p (q::u) ib=(u,!ib) by simp[dy,g8]] at h2
         simp only at h2
         (refine yk<|yP Z<|yP Z<|yA Z<|yA Z<|yU<|yP Z<|yP Z<|yP Z<|yn Z<|aK zI ?_;refine⟨_,_,(qP (!ia) (!ib)),?_⟩)
         (refine b9 Z Z<|ae<|yA Z<|yU<|yP Z<|yP Z<|yP Z<|yT<|az Z ?_;refine aa (fun g9=>?_) (fun g9=>?_) <;> try simp only[zB] at g9)
         ·have g9:¬kP (!ia) (!ib)=is:=by simpa using g9
          rw[if_neg g9] at h2
          (refine aM<|yq Z<|aA zI<|bd<|af<|yP Z<|yn Z<|aA zI<|aS<|af<|yn Z<|bg zI ?_;refine And.intro ⟨by simp,by simp[aE];omega,by simp[aE];omega⟩ ?_)
          (refine aS<|aF<|af<|yP Z<|cD Z<|cr Z Z Z Z Z<|yA Z<|cL<|bp<|aj<|ai ?_;refine⟨(m,r,u,(!ia),(!ib),kP (!ia) (!ib),out++[p]),_,aW.refl _ _,?_⟩)
          exact⟨⟨by simp;omega,by simp only[List.append_assoc,List.cons_append,List.nil_append];exact h2,by simp;omega⟩,by simp only;omega,⟨bO [i64 p] _,bO [i64 q] _,Z,Z,Z,Z,Z,Y⟩,⟨d_ _ out p,trivial⟩⟩
         have g9:kP (!ia) (!ib)=is:=by simpa using g9
         rw[if_pos g9] at h2
         (refine aJ<|bp<|aj<|ai ?_;refine⟨(m,r,u,(!ia),(!ib),is,out),_,aW.refl _ _,?_⟩)
         exact⟨⟨by simp;omega,h2,by simp only;omega⟩,by simp only;omega,⟨bO [i64 p] _,bO [i64 q] _,Z,Z,Z,Z,Z,Y⟩,⟨Z,Y⟩⟩
        rw[show dy p (p::r) ia=(r,!ia) by simp[dy],show dy p (q::u) ib=(q::u,ib) by simp[dy,g8]] at h2
        simp only at h2
        (refine aJ<|aj<|yS<|yP Z<|yP Z<|yP Z<|yn Z<|aK zI ?_;refine⟨_,_,(qP (!ia) ib),?_⟩)
        (refine b9 Z Z<|ae<|yA Z<|yU<|yP Z<|yP Z<|yP Z<|yT<|az Z ?_;refine aa (fun g9=>?_) (fun g9=>?_) <;> try simp only[zB] at g9)
        ·have g9:¬kP (!ia) ib=is:=by simpa using g9
         rw[if_neg g9] at h2
         (refine aM<|yq Z<|aA zI<|bd<|af<|yP Z<|yn Z<|aA zI<|aS<|af<|yn Z<|bg zI ?_;refine And.intro ⟨by simp,by simp[aE];omega,by simp[aE];omega⟩ ?_)
         (refine aS<|aF<|af<|yP Z<|cD Z<|cr Z Z Z Z Z<|yA Z<|cL<|bp<|aj<|ai ?_;refine⟨(m,r,(q::u),(!ia),ib,kP (!ia) ib,out++[p]),_,aW.refl _ _,?_⟩)
         exact⟨⟨by simp;omega,by simp only[List.append_assoc,List.cons_append,List.nil_append];exact h2,by simp;omega⟩,by simp only;omega,⟨bO [i64 p] _,Z,Z,Z,Z,Z,Z,Y⟩,⟨d_ _ out p,trivial⟩⟩
        have g9:kP (!ia) ib=is:=by simpa using g9
        rw[if_pos g9] at h2
        (refine aJ<|bp<|aj<|ai ?_;refine⟨(m,r,(q::u),(!ia),ib,is,out),_,aW.refl _ _,?_⟩)
        exact⟨⟨by simp;omega,h2,by simp only;omega⟩,by simp only;omega,⟨bO [i64 p] _,Z,Z,Z,Z,Z,Z,Y⟩,⟨Z,Y⟩⟩
       simp at g7
      exact absurd trivial g6
     simp at g5
    rw[if_neg g4] at h2
    (refine aM<|yP Z<|yq Z<|aK zI ?_;refine⟨[i64 q],(idx (i:=0) rfl rfl),?_⟩)
    (refine yk<|yP Z<|yA Z<|yT<|au<|yS<|yP Z<|yP Z<|yP Z<|yP Z<|yg Z ?_;refine aa (fun g5=>?_) (fun g5=>?_) <;> try simp only[zB] at g5)
    ·(refine bS<|bA Z Z<|aA zI<|yk<|y2 Z<|bA Z Z<|aK zI ?_;refine⟨[i64 p],(idx (i:=0) rfl rfl),?_⟩)
     (refine yk<|y1 Z<|y1 Z<|y1 Z<|yP Z<|yT<|az Z ?_;refine aa (fun g6=>?_) (fun g6=>?_) <;> try simp only[zB] at g6)
     ·omega
     (refine aJ<|aj<|au<|yS<|yP Z<|yP Z<|yP Z<|yP Z<|yg Z ?_;refine aa (fun g7=>?_) (fun g7=>?_) <;> try simp only[zB] at g7)
     ·(refine bS<|bA Z Z<|aA zI<|yk<|y2 Z<|bA Z Z<|aK zI ?_;refine⟨[i64 q],(idx (i:=0) rfl rfl),?_⟩)
      (refine yk<|y1 Z<|y1 Z<|y1 Z<|yP Z<|yT<|az Z ?_;refine aa (fun g8=>?_) (fun g8=>?_) <;> try simp only[zB] at g8)
      ·(refine aM<|yP Z<|yq Z<|bg zI ?_;refine And.intro ⟨by simp,by simp;omega⟩ ?_)
       rw[show dy q (q::u) ib=(u,!ib) by simp[dy],show dy q (p::r) ia=(p::r,ia) by simp[dy,g6]] at h2
       simp only at h2
       (refine yk<|yP Z<|yP Z<|yA Z<|yA Z<|yU<|yP Z<|yP Z<|yP Z<|yn Z<|aK zI ?_;refine⟨_,_,(qP ia (!ib)),?_⟩)
       (refine b9 Z Z<|ae<|yA Z<|yU<|yP Z<|yP Z<|yP Z<|yT<|az Z ?_;refine aa (fun g9=>?_) (fun g9=>?_) <;> try simp only[zB] at g9)
       ·have g9:¬kP ia (!ib)=is:=by simpa using g9
        rw[if_neg g9] at h2
        (refine aM<|yq Z<|aA zI<|bd<|af<|yP Z<|yn Z<|aA zI<|aS<|af<|yn Z<|bg zI ?_;refine And.intro ⟨by simp,by simp[aE];omega,by simp[aE];omega⟩ ?_)
        (refine aS<|aF<|af<|yP Z<|cD Z<|cr Z Z Z Z Z<|yA Z<|cL<|bp<|aj<|ai ?_;refine⟨(m,(p::r),u,ia,(!ib),kP ia (!ib),out++[q]),_,aW.refl _ _,?_⟩)
        exact⟨⟨by simp;omega,by simp only[List.append_assoc,List.cons_append,List.nil_append];exact h2,by simp;omega⟩,by simp only;omega,⟨rfl,bO [i64 q] _,Z,Z,Z,Z,Z,Y⟩,⟨d_ _ out q,trivial⟩⟩
       have g9:kP ia (!ib)=is:=by simpa using g9
       rw[if_pos g9] at h2
       (refine aJ<|bp<|aj<|ai ?_;refine⟨(m,(p::r),u,ia,(!ib),is,out),_,aW.refl _ _,?_⟩)
       exact⟨⟨by simp;omega,h2,by simp only;omega⟩,by simp only;omega,⟨rfl,bO [i64 q] _,Z,Z,Z,Z,Z,Y⟩,⟨Z,Y⟩⟩
      exact absurd trivial g8
     simp at g7
    simp at g5
   simp at g3
 simp at g1
theorem wK (a b:List ax) (ha:hZ a) (hb':hZ b) (ka:cQ 2000000 a) (kb:cQ 2000000 b):aD C 65 [.pv (aG a),.pv (aG b),.pv (pj 107)] (.p (aG (ru a b))) []:=by
 refine aT hC Tryz.func65 rfl rfl 126 rfl (by decide) (by kernel_rfl) fun _ _ _ _ _=>?_
 have la:=Reg.cy ha (by omega) ka
 have lb:=Reg.cy hb' (by omega) kb
 have ma:=aN a hb
 have mb:=aN b hb
 (refine yS<|yB Z<|yU<|yB Z<|yT<|au<|yS<|yP Z<|yP Z<|yP Z<|yP Z<|yq Z<|bg zI ?_;refine And.intro ⟨by rw[ma,mb];omega,by rw[ma,mb];omega⟩ ?_)
 (refine yk<|yP Z<|yT<|az Z ?_;refine aa (fun g0=>?_) (fun g0=>?_) <;> try simp only[zB] at g0)
 ·rw[ma,mb] at g0
  (refine yS<|yB Z<|yT<|bP<|aX<|bQ zi ?_;refine And.intro ?_ trivial)
  rw[ru,gK,if_pos (by omega)]
  rfl
 rw[ma,mb] at g0
 have hn:a.length+b.length≠0:=by omega
 (refine aJ<|aj<|yS<|yA Z<|yA Z<|yT<|au<|yS<|yP Z<|yP Z<|yn Z<|aA zI<|aS<|af ?_;refine yP Z<|yP Z<|yT<|aZ ?_)
 refine aI (fun i:Nat=>i<=2) (fun i=>[(0,.p (aG a)),(1,.p (aG b)),(2,.p (pj 107)),(7,.nl),(8,.p (i64 (st a b i).1)),(9,.p (i64 (st a b i).2)),(25,.ow 25),(26,.p (i64 (2:Nat))),(27,.p (i64 i))]) (fun i=>[(25,.row 81 [[aG a],[aG b]])]) (fun i=>2 - i) 0 _ (aW.refl _ _) (by omega) ⟨Z,Z,Z,Z,Z,Z,Z,Z,Z,Y⟩ ⟨Z,Y⟩ fun i hi t h=>?_
 (refine yS<|yP Z<|yT<|au<|az Z ?_;refine aa (fun g1=>?_) (fun g1=>?_) <;> try simp only[zB] at g1)
 ·obtain rfl | rfl:i=0\/i=1:=by omega
  ·(refine aJ<|aj<|au<|aZ<|yS<|yP Z<|yq Z<|bg zI ?_;refine And.intro ⟨by simp,by simp⟩ ?_)
   (refine bd<|bJ<|yq Z<|aK zI ?_;refine⟨[aG a],rfl,?_⟩)
   rcases a with _ | ⟨p,r⟩
   ·((refine yk<|yA Z<|yA Z<|yU<|yP Z<|yP Z<|yP Z<|yT<|az Z<|cM<|aJ<|bp<|aj<|aM ?_;refine yq Z<|bg zI ?_);refine sI ?_)
    (refine yk<|yP Z<|yT<|ai ?_;refine⟨1,_,aW.refl _ _,?_⟩)
    exact⟨by omega,by omega,⟨Z,Z,Z,Z,Z,Z,Z,Z,Z,Y⟩,⟨Z,Y⟩⟩
   obtain⟨t1,v7,Gd⟩:=Reg.kO p r
   simp at la
   (refine yk<|yA Z<|yA Z<|yU<|yP Z<|yP Z<|yP Z<|yT<|az Z ?_;refine aa (fun g2=>?_) (fun g2=>?_) <;> try simp only[zB] at g2)
   ·(refine au<|yS<|yP Z<|yP Z<|yP Z<|y0 Z<|y0 Z<|y0 Z<|yP Z<|yT<|az Z<|fy<|cH [] false yz rfl (by kernel_rfl)<|cG Z ?_;refine yD Z<|dq Z<|aK zI ?_)
    (skip;refine⟨(hb p),(idx (i:=0) rfl rfl),?_⟩)
    (refine bB<|ae<|yD Z<|yD Z<|yD Z<|yD Z<|yD Z<|dq Z<|bg zI ?_;refine And.intro ⟨by simp,by simp;omega⟩ ?_)
    (refine bB<|ae<|dq Z<|aK zI ?_;refine⟨(hb t1),(idx (show (((p::r).map hb).length:Int) - 1=((r.length:Nat):Int) by simp) v7),?_⟩)
    ((refine bB<|ae<|yD Z<|yD Z<|yD Z<|yD Z<|cn<|aq Z<|aq Z<|aq Z<|aq Z<|aq Z<|aq Z<|aq Z ?_;refine aq Z<|aq Z<|aq Z<|aq Z<|dW Z Z<|dW Z Z<|fo Z<|aj<|cH [] false nD rfl (by kernel_rfl)<|cG Z<|yD Z<|yD Z<|dq Z<|aK zI ?_);refine⟨(hb p),(idx (i:=0) rfl rfl),?_⟩)
    (refine bB<|ae<|yD Z<|yD Z<|yD Z<|yD Z<|yD Z<|yD Z<|yD Z<|dq Z<|bg zI ?_;refine And.intro ⟨by simp,by simp;omega⟩ ?_)
    (refine bB<|ae<|dq Z<|aK zI ?_;refine⟨(hb t1),(idx (show (((p::r).map hb).length:Int) - 1=((r.length:Nat):Int) by simp) v7),?_⟩)
    ((refine bB<|ae<|yD Z<|yD Z<|yD Z<|yD Z<|yD Z<|cn<|aq Z<|aq Z<|aq Z<|aq Z<|aq Z<|aq Z ?_;refine aq Z<|aq Z<|aq Z<|aq Z<|aq Z<|aq Z<|aq Z<|aq Z<|aq Z<|dW Z Z<|dW Z Z<|fo Z<|bp<|aj ?_;refine aM<|yq Z<|bg zI ?_);refine sI ?_)
    (refine yk<|yP Z<|yT<|ai ?_;refine⟨1,_,aW.refl _ _,?_⟩)
    exact⟨by omega,by omega,⟨rfl,rfl,rfl,rfl,cd (show min p.y0 p.y0=p.y0 by omega),cd (show max t1.y1 t1.y1=db (p::r) by omega),Z,Z,Z,Y⟩,⟨Z,Y⟩⟩
   simp at g2
  (refine aJ<|aj<|au<|aZ<|yS<|yP Z<|yq Z<|bg zI ?_;refine And.intro ⟨by simp,by simp⟩ ?_)
  (refine bd<|bJ<|yq Z<|aK zI ?_;refine⟨[aG b],rfl,?_⟩)
  rcases b with _ | ⟨q,u⟩
  ·((refine yk<|yA Z<|yA Z<|yU<|yP Z<|yP Z<|yP Z<|yT<|az Z<|cM<|aJ<|bp<|aj<|aM ?_;refine yq Z<|bg zI ?_);refine sI ?_)
   (refine yk<|yP Z<|yT<|ai ?_;refine⟨2,_,aW.refl _ _,?_⟩)
   have e1:st a [] 1=st a [] 2:=by
    rcases a with _ | ⟨p,r⟩
    ·simp at hn
    rfl
   exact⟨by omega,by omega,⟨rfl,rfl,rfl,rfl,cd (by rw[e1]),cd (by rw[e1]),Z,Z,Z,Y⟩,⟨Z,Y⟩⟩
  obtain⟨t1,v7,Gd⟩:=Reg.kO q u
  simp at lb
  (refine yk<|yA Z<|yA Z<|yU<|yP Z<|yP Z<|yP Z<|yT<|az Z ?_;refine aa (fun g2=>?_) (fun g2=>?_) <;> try simp only[zB] at g2)
  ·rcases a with _ | ⟨p,r⟩
   ·(refine au<|yS<|yP Z<|yP Z<|yP Z<|y1 Z<|y1 Z<|y1 Z<|yP Z<|yT<|az Z<|fy<|cH [] false yz rfl (by kernel_rfl)<|cG Z ?_;refine yD Z<|dq Z<|aK zI ?_)
    (skip;refine⟨(hb q),(idx (i:=0) rfl rfl),?_⟩)
    (refine bB<|ae<|yD Z<|yD Z<|yD Z<|yD Z<|yD Z<|dq Z<|bg zI ?_;refine And.intro ⟨by simp,by simp;omega⟩ ?_)
    (refine bB<|ae<|dq Z<|aK zI ?_;refine⟨(hb t1),(idx (show (((q::u).map hb).length:Int) - 1=((u.length:Nat):Int) by simp) v7),?_⟩)
    ((refine bB<|ae<|yD Z<|yD Z<|yD Z<|yD Z<|cn<|aq Z<|aq Z<|aq Z<|aq Z<|aq Z<|aq Z<|aq Z ?_;refine aq Z<|aq Z<|aq Z<|aq Z<|dW Z Z<|dW Z Z<|fo Z<|aj<|cH [] false nD rfl (by kernel_rfl)<|cG Z<|yD Z<|yD Z<|dq Z<|aK zI ?_);refine⟨(hb q),(idx (i:=0) rfl rfl),?_⟩)
    (refine bB<|ae<|yD Z<|yD Z<|yD Z<|yD Z<|yD Z<|yD Z<|yD Z<|dq Z<|bg zI ?_;refine And.intro ⟨by simp,by simp;omega⟩ ?_)
    (refine bB<|ae<|dq Z<|aK zI ?_;refine⟨(hb t1),(idx (show (((q::u).map hb).length:Int) - 1=((u.length:Nat):Int) by simp) v7),?_⟩)
    ((refine bB<|ae<|yD Z<|yD Z<|yD Z<|yD Z<|yD Z<|cn<|aq Z<|aq Z<|aq Z<|aq Z<|aq Z<|aq Z ?_;refine aq Z<|aq Z<|aq Z<|aq Z<|aq Z<|aq Z<|aq Z<|aq Z<|aq Z<|dW Z Z<|dW Z Z<|fo Z<|bp<|aj ?_;refine aM<|yq Z<|bg zI ?_);refine sI ?_)
    (refine yk<|yP Z<|yT<|ai ?_;refine⟨2,_,aW.refl _ _,?_⟩)
    exact⟨by omega,by omega,⟨rfl,rfl,rfl,rfl,cd (show min q.y0 q.y0=q.y0 by omega),cd (show max t1.y1 t1.y1=db (q::u) by omega),Z,Z,Z,Y⟩,⟨Z,Y⟩⟩
   (refine au<|yS<|yP Z<|yP Z<|yP Z<|y1 Z<|y1 Z<|y1 Z<|yP Z<|yT<|az Z<|cM<|aJ<|aj ?_;refine cH [] false nD rfl (by kernel_rfl)<|cG Z<|yD Z<|yD Z<|dq Z<|aK zI ?_)
   (skip;refine⟨(hb q),(idx (i:=0) rfl rfl),?_⟩)
   (refine bB<|ae<|yD Z<|yD Z<|yD Z<|yD Z<|yD Z<|yD Z<|yD Z<|dq Z<|bg zI ?_;refine And.intro ⟨by simp,by simp;omega⟩ ?_)
   (refine bB<|ae<|dq Z<|aK zI ?_;refine⟨(hb t1),(idx (show (((q::u).map hb).length:Int) - 1=((u.length:Nat):Int) by simp) v7),?_⟩)
   ((refine bB<|ae<|yD Z<|yD Z<|yD Z<|yD Z<|yD Z<|cn<|aq Z<|aq Z<|aq Z<|aq Z<|aq Z<|aq Z ?_;refine aq Z<|aq Z<|aq Z<|aq Z<|aq Z<|aq Z<|aq Z<|aq Z<|aq Z<|dW Z Z<|dW Z Z<|fo Z<|bp<|aj ?_;refine aM<|yq Z<|bg zI ?_);refine sI ?_)
   (refine yk<|yP Z<|yT<|ai ?_;refine⟨2,_,aW.refl _ _,?_⟩)
   exact⟨by omega,by omega,⟨rfl,rfl,rfl,rfl,rfl,cd (show max (db (p::r)) t1.y1=max (db (p::r)) (db (q::u)) by rw[Gd]),Z,Z,Z,Y⟩,⟨Z,Y⟩⟩
  simp at g2
 have e:i=2:=by omega
 subst e
 have DU:=Reg.H_ ka kb hn
 have DV:=Reg.Ia ka kb hn
 have e2:ru a b=dH kP (nF a b - nE a b).toNat a b (nE a b) (nF a b) []:=by rw[ru,gK,if_neg hn]
 rw[e2]
 obtain⟨lo,u6⟩:∃lo,lo=nE a b:=⟨_,rfl⟩
 obtain⟨e,CE⟩:∃e,e=nF a b:=⟨_,rfl⟩
 rw[<-u6] at DU
 rw[<-CE] at DV
 rw[<-u6,<-CE]
 have hR:∃R,R=dH kP (e - lo).toNat a b lo e []:=⟨_,rfl⟩
 obtain⟨R,hR⟩:=hR
 rw[<-hR]
 refine bT<|aY<|aY<|bU<|aj<|au<|aZ ?_
 refine aI (fun x:Nat×List ax×List ax×Int×List ax=>(e - x.2.2.2.1).toNat<=x.1/\dH kP x.1 x.2.1 x.2.2.1 x.2.2.2.1 e x.2.2.2.2=R/\hZ x.2.1/\hZ x.2.2.1/\hZ x.2.2.2.2/\(∀t∈x.2.2.2.2,t.y1<=x.2.2.2.1)/\cQ 2000000 x.2.1/\cQ 2000000 x.2.2.1/\cQ 2000000 x.2.2.2.2/\-2000000<=x.2.2.2.1)
  (fun x=>[(0,.p (aG x.2.1)),(1,.p (aG x.2.2.1)),(2,.p (pj 107)),(7,.ow 7),(8,.p (i64 x.2.2.2.1)),(9,.p (i64 e))]) (fun x=>[(7,.row 145 (x.2.2.2.2.map hb))]) (fun x=>x.1) ((e - lo).toNat,a,b,lo,[]) _
  (aW.fa hC _ 7 145 _ (by decide) rfl rfl (by decide)) ⟨Nat.le_refl _,hR.symm,ha,hb',trivial,fun t ht=>(by cases ht),ka,kb,fun t ht=>(by cases ht),DU⟩ ⟨rfl,rfl,rfl,rfl,cd u6.symm,cd CE.symm,trivial⟩ ⟨Z,Y⟩ fun ⟨n,a',b',y,out⟩ hi t h=>?_
 obtain⟨i1,i2,i3,i4,i5,i6,i7,i8,i9,i10⟩:=hi
 simp only at i1 i2 i3 i4 i5 i6 i7 i8 i9 i10
 have Th:=Reg.cy i3 (by omega) i7
 have Ti:=Reg.cy i4 (by omega) i8
 have Tj:=Reg.cy i5 (by omega) i9
 have OJ:=Reg.jk i5 (by omega) i9
 (refine au<|yS<|yP Z<|yP Z<|yP Z<|yT<|az Z ?_;refine aa (fun g2=>?_) (fun g2=>?_) <;> try simp only[zB] at g2)
 ·obtain⟨m,rfl⟩:∃m,n=m+1:=⟨n - 1,by omega⟩
  obtain⟨nx,L,wo,hL,j1,j2,j3,j4,j5,j6,j7,j8,j9,OL,OM,ON,OO,OP⟩:=Reg.wI g2 i3 i4 i5 i6 i7 i8 i9 i10 DV
  rw[dH,if_pos g2,<-wo,<-hL] at i2
  refine aJ<|aj<|aZ<|au<|aZ ?_
  refine nj (fun _:Unit=>True) (fun _=>[(0,.p (aG (aC y a'))),(1,.p (aG b')),(2,.p (pj 107)),(7,.ow 7),(8,.p (i64 y)),(9,.p (i64 e))]) (fun _=>[(7,.row 145 (out.map hb))]) (fun _ _ t h=>?_) ?_
  rotate_left
  ·refine aI (fun s:List ax=>aC y s=aC y a'/\(s.length:Int)<=4000000) (fun s=>[(0,.p (aG s)),(1,.p (aG b')),(2,.p (pj 107)),(7,.ow 7),(8,.p (i64 y)),(9,.p (i64 e))]) (fun _=>[(7,.row 145 (out.map hb))]) (fun s=>s.length) a' _ (aW.refl _ _) ⟨rfl,by omega⟩ ⟨Z,Z,Z,Z,Z,Z,Y⟩ ⟨Z,Y⟩ fun s hs t h=>?_
   obtain⟨s1,s2⟩:=hs
   rcases s with _ | ⟨c,s⟩
   ·(refine au<|yS<|yP Z<|yP Z<|yP Z<|yP Z<|y0 Z<|y0 Z<|y0 Z<|y0 Z<|y0 Z<|y0 Z<|yP Z<|yT ?_;refine az Z<|cM<|bT<|aY<|aY<|bU<|aj<|ai<|zX zi ?_)
    rw[<-s1]
    exact⟨(),trivial,⟨Z,Z,Z,Z,Z,Z,Y⟩,⟨Z,Y⟩⟩
   simp at s2
   (refine au<|yS<|yP Z<|yP Z<|yP Z<|yP Z<|yg Z ?_;refine aa (fun d1=>?_) (fun d1=>?_) <;> try simp only[zB] at d1)
   ·(refine bS<|bA Z Z<|aA zI<|yk<|y2 Z<|bA Z Z<|aK zI ?_;refine⟨(hb c),(idx (i:=0) rfl rfl),?_⟩)
    (refine yk<|y1 Z<|y1 Z<|y1 Z<|y1 Z<|yP Z<|yT<|az Z ?_;refine aa (fun d2=>?_) (fun d2=>?_) <;> try simp only[zB] at d2)
    ·(refine aJ<|aj<|aZ<|aM<|yP Z<|yq Z<|bg zI ?_;refine And.intro ⟨by simp,(by first | omega | (simp;done) | (simp;omega)),(by first | omega | (simp;done) | (simp;omega)),oO⟩ ?_)
     (refine yk<|yA Z<|cL<|bp<|aj<|ai ?_;refine⟨s,_,aW.refl _ _,?_⟩)
     rw[aC,if_pos d2] at s1
     exact⟨⟨s1,by omega⟩,by simp,⟨bO (hb c) _,Z,Z,Z,Z,Z,Y⟩,⟨Z,Y⟩⟩
    refine bT<|aY<|aY<|bU<|aj<|ai<|zX zi ?_
    rw[aC,if_neg d2] at s1
    rw[<-s1]
    exact⟨(),trivial,⟨Z,Z,Z,Z,Z,Z,Y⟩,⟨Z,Y⟩⟩
   simp at d1
  refine aj<|au<|aZ ?_
  refine nj (fun _:Unit=>True) (fun _=>[(0,.p (aG (aC y a'))),(1,.p (aG (aC y b'))),(2,.p (pj 107)),(7,.ow 7),(8,.p (i64 y)),(9,.p (i64 e))]) (fun _=>[(7,.row 145 (out.map hb))]) (fun _ _ t h=>?_) ?_
  rotate_left
  ·refine aI (fun s:List ax=>aC y s=aC y b'/\(s.length:Int)<=4000000) (fun s=>[(0,.p (aG (aC y a'))),(1,.p (aG s)),(2,.p (pj 107)),(7,.ow 7),(8,.p (i64 y)),(9,.p (i64 e))]) (fun _=>[(7,.row 145 (out.map hb))]) (fun s=>s.length) b' _ (aW.refl _ _) ⟨rfl,by omega⟩ ⟨Z,Z,Z,Z,Z,Z,Y⟩ ⟨Z,Y⟩ fun s hs t h=>?_
   obtain⟨s1,s2⟩:=hs
   rcases s with _ | ⟨c,s⟩
   ·(refine au<|yS<|yP Z<|yP Z<|yP Z<|yP Z<|y0 Z<|y0 Z<|y0 Z<|y0 Z<|y0 Z<|y0 Z<|yP Z<|yT ?_;refine az Z<|cM<|bT<|aY<|aY<|bU<|aj<|ai<|zX zi ?_)
    rw[<-s1]
    exact⟨(),trivial,⟨Z,Z,Z,Z,Z,Z,Y⟩,⟨Z,Y⟩⟩
   simp at s2
   (refine au<|yS<|yP Z<|yP Z<|yP Z<|yP Z<|yg Z ?_;refine aa (fun d1=>?_) (fun d1=>?_) <;> try simp only[zB] at d1)
   ·(refine bS<|bA Z Z<|aA zI<|yk<|y2 Z<|bA Z Z<|aK zI ?_;refine⟨(hb c),(idx (i:=0) rfl rfl),?_⟩)
    (refine yk<|y1 Z<|y1 Z<|y1 Z<|y1 Z<|yP Z<|yT<|az Z ?_;refine aa (fun d2=>?_) (fun d2=>?_) <;> try simp only[zB] at d2)
    ·(refine aJ<|aj<|aZ<|aM<|yP Z<|yq Z<|bg zI ?_;refine And.intro ⟨by simp,(by first | omega | (simp;done) | (simp;omega)),(by first | omega | (simp;done) | (simp;omega)),oO⟩ ?_)
     (refine yk<|yA Z<|cL<|bp<|aj<|ai ?_;refine⟨s,_,aW.refl _ _,?_⟩)
     rw[aC,if_pos d2] at s1
     exact⟨⟨s1,by omega⟩,by simp,⟨rfl,bO (hb c) _,Z,Z,Z,Z,Y⟩,⟨Z,Y⟩⟩
    refine bT<|aY<|aY<|bU<|aj<|ai<|zX zi ?_
    rw[aC,if_neg d2] at s1
    rw[<-s1]
    exact⟨(),trivial,⟨Z,Z,Z,Z,Z,Z,Y⟩,⟨Z,Y⟩⟩
   simp at d1
  have q1:=Reg.gO OM (by omega) OO
  have q2:=Reg.gO ON (by omega) OP
  have q3:=Reg.eY (eo (aC y a') y e).1
  have q4:=Reg.eY (eo (aC y b') y e).1
  have hp:aD C 82 [.row 145 (out.map hb),.pv (.ag [i64 y,i64 (min (eo (aC y a') y e).2 (eo (aC y b') y e).2),ints (dV kP (bK (eo (aC y a') y e).1) (bK (eo (aC y b') y e).1))])] (.own 145 ((du out ⟨y,nx,pairUp L⟩).map hb)) [.gone]:=by
   rw[<-wo,<-hL,show [i64 y,i64 nx,ints L]=hb ⟨y,nx,pairUp L⟩ by rw[hb,jK,j3]]
   exact mK out ⟨y,nx,pairUp L⟩ j1 (by omega) (fun t ht=>by have:=OJ t ht;omega)
  (refine aj<|yS<|yP Z<|yP Z<|yP Z<|yn Z<|aK zI ?_;refine⟨_,_,(lX (aC y a') y e),?_⟩)
  ((refine b9 Z Z<|bq<|yq Z<|aA zI<|bd<|bq<|yP Z<|yP Z<|yA Z<|yA Z<|yU<|yP Z<|yP Z<|yP Z ?_;refine yn Z<|aK zI ?_);refine⟨_,_,(lX (aC y b') y e),?_⟩)
  ((refine b9 Z Z<|bq<|yq Z<|aA zI<|bd<|bq<|yP Z<|yP Z<|yA Z<|yA Z<|yU<|yP Z<|yP Z<|yP Z ?_;refine yA Z<|yU<|yq Z<|aA zI<|bd<|af<|yP Z<|yP Z<|yP Z<|yP Z<|yP Z<|yn Z<|aK zI ?_);refine⟨_,_,(zm (bK (eo (aC y a') y e).1) (bK (eo (aC y b') y e).1) (by omega)),?_⟩)
  (refine b9 Z Z<|ae<|yP Z<|yn Z<|aK zI ?_;refine⟨_,_,hp,?_⟩)
  (refine aS<|aF<|af<|cD Z<|cr Z Z Z Z Z<|yT<|aM<|yP Z<|yA Z<|cL<|bp<|aj<|ai ?_;refine⟨(m,aC y a',aC y b',nx,du out ⟨y,nx,pairUp L⟩),_,aW.refl _ _,?_⟩)
  exact⟨⟨by simp only;omega,i2,j4,j5,j8,j9,j6,j7,OL,by simp only;omega⟩,by simp only;omega,⟨rfl,rfl,rfl,rfl,cd wo.symm,Z,Y⟩,⟨Z,Y⟩⟩
 have e3:dH kP n a' b' y e out=out:=by
  cases n with
  | zero=>rfl
  | succ n=>rw[dH,if_neg g2]
 rw[e3] at i2
 (refine bT<|aY<|aY<|bU<|aj<|yS<|yq Z<|aA zI<|bd<|af<|cD Z<|cr Z Z Z Z Z<|yR zi ?_;refine And.intro ?_ trivial)
 rw[<-i2]
 rfl
theorem A_ (a b:List ax) (ha:hZ a) (hb':hZ b) (ka:cQ 2000000 a) (kb:cQ 2000000 b):aD C 56 [.pv (aG a),.pv (aG b)] (.p (aG (ru a b))) []:=by
 refine aT hC Tryz.func56 rfl rfl 8 rfl (by decide) (by kernel_rfl) fun _ _ _ _ _=>?_
 (refine yS<|yB Z<|yU<|yP Z<|yP Z<|yn Z<|aK zI ?_;refine⟨_,_,(wK a b ha hb' ka kb),?_⟩)
 (refine b9 Z Z<|ae<|yA Z<|yR zi ?_;refine And.intro ?_ trivial)
 rfl
end M
namespace Reg
structure en where
 x:Int
 y:Int
 size:Int
 lo:Int
 hi:Int
 plated:Bool
structure jn where
 part:ByteArray
 pin:ByteArray
 layer:Int
 x:Int
 y:Int
structure Wt where
 coppers:List (List aB)
 outline:List aB
 bores:List en
 lands:List jn
def within (n lo hi:Int):Bool:=decide (lo<=n) && decide (n<=hi)
def aQ (b:en):aB:=⟨b.x - b.size.tdiv 2,b.y - b.size.tdiv 2,b.x - b.size.tdiv 2+b.size,b.y - b.size.tdiv 2+b.size⟩
def cx (b:en):Bool:=within b.size 1 10000 && (lK b.x && lK b.y)
def ed (b:en):Bool:=cx b && eM (aQ b)
def Lc:aB:=⟨0,0,0,0⟩
def eh (b:en):aB×Int:=if ed b=true then (aQ b,0) else (Lc,1)
theorem eZ {b:en} (h:cx b=true):Full (aQ b):=by
 simp[cx,within,lK] at h
 exact⟨by simp[aQ];omega,by simp[aQ];omega⟩
theorem jM {b:en} (h:cx b=true):RK 1010000 (aQ b):=by
 simp[cx,within,lK] at h
 have h1:0<=b.size.tdiv 2/\b.size.tdiv 2<=b.size:=by
  rw[Int.tdiv_eq_ediv_of_nonneg (by omega)]
  omega
 refine⟨?_,?_,?_,?_⟩ <;> simp only[aQ] <;> omega
theorem sf {r:aB} (h:Full r):a_ [r]=[⟨r.y0,r.y1,[(r.x0,r.x1)]⟩]:=by
 have hf:∀q∈[r],Full q:=fun q hq=>by rw[List.mem_singleton] at hq;subst hq;exact h
 obtain⟨b1,b2,_⟩:=gf hf
 refine pN _ _ b1 ?_ fun x y=>?_
 ·show hZ [_]
  exact XK (s:=[]) trivial ⟨h.2,by simp,Canon.cons h.1 (by simp) trivial⟩ (by simp) (by simp)
 rw[b2,at_one]
 simp only[List.any_cons,List.any_nil,Bool.or_false]
 rw[Bool.eq_iff_iff,cz]
 have:=h.1
 by_cases h1:x < r.x0
 ·simp[bK,par,h1];omega
 by_cases h2:x < r.x1
 ·simp[bK,par,h1,h2];omega
 simp[bK,par,h1,h2];omega
theorem C_ {r:aB} (h:Full r):bL (a_ [r])=r:=by
 rw[sf h]
 simp[bL,fC,ey,fX,bK,db]
def through (b:en) (layer:Int):Bool:=decide (b.lo<=layer) && decide (layer<=b.hi)
def oQ (a0 a1 b0 b1:Int):Int:=max (max 0 (b0 - a1+1)) (a0 - b1+1)
def B0 (a b:aB):Int:=max (oQ a.x0 a.x1 b.x0 b.x1) (oQ a.y0 a.y1 b.y0 b.y1)
def Wz (a b:aB) (n:Int):Int×Int:=(max a.x0 (b.x0 - n),max a.y0 (b.y0 - n))
def W1 (p q:Int×Int):Bool:=decide (p.2 < q.2) || (decide (p.2=q.2) && decide (p.1 < q.1))
def Wq (n:Int):List en->Int
 | []=>0
 | b::r=>if (eh b).2≠0 then (eh b).2 else if (within b.lo 0 (n - 1) && within b.hi b.lo (n - 1))=true then Wq n r else 1
def dk (a:Wt):Int:=if 500 < a.bores.length then 2 else Wq a.coppers.length a.bores
theorem FG {n:Int} {l:List en} {i:Nat} {b:en} (h:l[i]?=some b):Wq n (l.drop i)=if (eh b).2≠0 then (eh b).2 else if (within b.lo 0 (n - 1) && within b.hi b.lo (n - 1))=true then Wq n (l.drop (i+1)) else 1:=by
 have:l.drop i=b::l.drop (i+1):=by
  obtain⟨h1,h2⟩:=List.getElem?_eq_some_iff.1 h
  rw[List.drop_eq_getElem_cons h1,h2]
 rw[this];rfl
structure qQ (n:Int) (b:en):Prop where
 ok:ed b=true
 lo:0<=b.lo
 le:b.lo<=b.hi
 hi:b.hi<=n - 1
theorem ve {n:Int}:∀{l:List en},Wq n l=0->∀b∈l,qQ n b:=by
 intro l
 induction l with
 | nil=>intro _ b hb;cases hb
 | cons c l ih=>
  intro h b hb
  rw[Wq] at h
  by_cases h1:(eh c).2≠0
  ·rw[if_pos h1] at h;exact absurd h h1
  rw[if_neg h1] at h
  by_cases h2:(within c.lo 0 (n - 1) && within c.hi c.lo (n - 1))=true
  ·rw[if_pos h2] at h
   rcases List.mem_cons.1 hb with e | e
   ·subst e
    simp[within] at h2
    refine⟨?_,by omega,by omega,by omega⟩
    by_cases h3:ed b=true
    ·exact h3
    rw[eh,if_neg h3] at h1;simp at h1
   exact ih h b e
  rw[if_neg h2] at h;cases h
end Reg
namespace M
open Go.AM Go.RowKit Go.Lib
open Reg (aB bC ax bK hZ cQ A5 cv bL told dz bX coreS zk Canon Full RK at' en jn Wt aQ eh cx ed through oQ B0 Wz W1)
def bc (b:en):List PV:=[i64 b.x,i64 b.y,i64 b.size,i64 b.lo,i64 b.hi,bool b.plated]
def lc (l:jn):List PV:=[str l.part,str l.pin,i64 l.layer,i64 l.x,i64 l.y]
theorem gv (n lo hi:Int):aD C 28 [.pv (i64 n),.pv (i64 lo),.pv (i64 hi)] (.p (bool (Reg.within n lo hi))) []:=by
 refine aT hC Tryz.func28 rfl rfl 15 rfl (by decide) (by kernel_rfl) fun _ _ _ _ _=>?_
 (refine yS<|yA Z<|yU<|yP Z<|yP Z<|yP Z<|yP Z<|yg Z ?_;refine aa (fun h=>?_) (fun h=>?_) <;> try simp only[zB] at h) <;> ((first | (refine bS<|bA Z Z<|aA zI<|yk<|y1 Z<|y1 Z<|yP Z<|yA Z<|yR zi ?_) | (refine cB<|ae<|y0 Z<|y0 Z<|yP Z<|yA Z<|yR zi ?_));refine And.intro ?_ trivial) <;> simp[bool,Reg.within,h]
theorem ig (b:en) (l:Int):aD C 52 [.pv (.ag (bc b)),.pv (i64 l)] (.p (bool (through b l))) []:=by
 refine aT hC Tryz.func52 rfl rfl 15 rfl (by decide) (by kernel_rfl) fun _ _ _ _ _=>?_
 (refine yS<|yn Z<|aA zI<|aS<|ak<|yA Z<|yU<|yV Z<|yP Z<|yP Z<|yP Z<|yP Z<|yg Z ?_;refine aa (fun h=>?_) (fun h=>?_) <;> try simp only[zB] at h) <;> ((first | (refine bS<|bA Z Z<|aA zI<|yk<|y2 Z<|bA Z Z<|aA zI<|bd<|ak<|y1 Z<|y1 Z<|yP Z<|yA Z<|yR zi ?_) | (refine cB<|ae<|y0 Z<|y0 Z<|y0 Z<|yP Z<|yA Z<|yR zi ?_));refine And.intro ?_ trivial) <;> simp[bool,through,h]
theorem dv (b:en) (h:cx b=true):aD C 31 [.pv (.ag (bc b))] (.p (.ag (rc (aQ b)))) []:=by
 simp[cx,Reg.within,Reg.lK] at h
 have h1:0<=b.size.tdiv 2/\b.size.tdiv 2<=b.size:=by
  rw[Int.tdiv_eq_ediv_of_nonneg (by omega)]
  omega
 refine aT hC Tryz.func31 rfl rfl 30 rfl (by decide) (by kernel_rfl) fun _ _ _ _ _=>?_
 ((refine yS<|yn Z<|aA zI<|aS<|ak<|yn Z<|aA zI<|aS<|ak<|yT<|au<|cH [] false JH rfl (by kernel_rfl)<|cG Z<|yW Z ?_;refine yW Z<|yD Z<|yW Z<|yD Z<|dq Z<|bg zI ?_);refine And.intro (by omega) ?_)
 (refine zA zi ?_;refine sI ?_)
 (refine bB<|ae<|dq Z<|bg zI ?_;refine sI ?_)
 (refine bB<|ae<|yW Z<|yW Z<|yD Z<|yW Z<|yD Z<|dq Z<|bg zI ?_;refine And.intro (by omega) ?_)
 (refine zA zi ?_;refine sI ?_)
 (refine bB<|ae<|dq Z<|bg zI ?_;refine sI ?_)
 ((refine bB<|ae<|yD Z<|yD Z<|cn<|aq Z<|aq Z<|aq Z<|aq Z<|aq Z<|aq Z<|aq Z<|aq Z<|aq Z ?_;refine aq Z<|aq Z<|aq Z<|aq Z<|aq Z<|dW Z Z<|dW Z Z<|fo Z<|aj<|yS<|yP Z<|yP Z<|yP Z<|yV Z ?_;refine yP Z<|yq Z<|bg zI ?_);refine sI ?_)
 (refine yk<|yP Z<|yV Z<|yP Z<|yq Z<|bg zI ?_;refine sI ?_)
 (refine yk<|yP Z<|yq Z<|aA zI<|bd<|aF<|an<|yR zi ?_;refine And.intro ?_ trivial)
 rfl
theorem Da (s:List ax) (hs:hZ s) (ks:cQ 2000000 s):aD C 33 [.pv (aG s)] (.p (bool (decide (s=[]) || Reg.eM (bL s)))) []:=by
 refine aT hC Tryz.func33 rfl rfl 11 rfl (by decide) (by kernel_rfl) fun _ _ _ _ _=>?_
 have ms:=aN s hb
 (refine yS<|yA Z<|yU<|yP Z<|yP Z<|yP Z<|yP Z<|yg Z ?_;refine aa (fun h=>?_) (fun h=>?_) <;> try simp only[zB] at h)
 ·rw[ms] at h
  have e:s=[]:=List.eq_nil_of_length_eq_zero (by omega)
  (refine cB<|ae<|y0 Z<|y0 Z<|yP Z<|yA Z<|yR zi ?_;refine And.intro ?_ trivial)
  simp[bool,e]
 rw[ms] at h
 have e:s≠[]:=fun e=>h (by rw[e];rfl)
 (refine bS<|bA Z Z<|aA zI<|yk<|y2 Z<|jB Z Z Z<|aK zI ?_;refine⟨_,_,(qM s hs ks e),?_⟩)
 (refine b9 Z Z<|ae<|y2 Z<|jB Z Z Z<|aK zI ?_;refine⟨_,_,(qC (bL s)),?_⟩)
 (refine b9 Z Z<|ae<|yP Z<|yA Z<|yR zi ?_;refine And.intro ?_ trivial)
 simp[bool,e]
theorem pk (b:en):aD C 14 [.pv (.ag (bc b))] (.tu [.ag (rc (eh b).1),i64 (eh b).2]) []:=by
 refine aT hC Tryz.func14 rfl rfl 25 rfl (by decide) (by kernel_rfl) fun _ _ _ _ _=>?_
 ((refine yS<|yn Z<|aA zI<|aS<|ak<|yn Z<|aA zI<|aS<|ak<|yA Z<|yT<|au<|yS<|yV Z ?_;refine yP Z<|yn Z<|aK zI ?_);refine⟨_,_,(gv b.size 1 10000),?_⟩)
 have no:ed b=false->eh b=(Reg.Lc,1):=fun h=>by rw[eh,h];rfl
 (refine b9 Z Z<|ae<|yP Z<|yP Z<|yg Z ?_;refine aa (fun h1=>?_) (fun h1=>?_) <;> try simp only[zB] at h1)
 ·((refine cB<|ae<|y0 Z<|y0 Z<|y0 Z<|yP Z<|yT<|az Z<|fy<|yS<|yP Z<|yq Z<|aA zI<|bd ?_;refine aF<|an<|yA Z<|yT<|bP<|aX<|bQ zi ?_);refine And.intro ?_ trivial)
  rw[no (by simp only[ed,cx];rw[h1];rfl)];rfl
 (refine bS<|bA Z Z<|aA zI<|bd<|ak<|y1 Z<|y2 Z<|jB Z Z Z<|aK zI ?_;refine⟨_,_,(ph b.x b.y),?_⟩)
 (refine b9 Z Z<|ae<|y1 Z<|yP Z<|yT<|az Z ?_;refine aa (fun h2=>?_) (fun h2=>?_) <;> try simp only[zB] at h2)
 ·(refine yS<|yP Z<|yq Z<|aA zI<|bd<|aF<|an<|yA Z<|yT<|bP<|aX<|bQ zi ?_;refine And.intro ?_ trivial)
  rw[no (by simp only[ed,cx];rw[h1,h2];rfl)];rfl
 have hok:cx b=true:=by simp only[cx];rw[h1,h2];rfl
 have hf:=Reg.eZ hok
 have hk:=Reg.jM hok
 have Tk:∀q∈[aQ b],Full q:=fun q hq=>by rw[List.mem_singleton] at hq;subst hq;exact hf
 have tI:∀q∈[aQ b],RK 1010000 q:=fun q hq=>by rw[List.mem_singleton] at hq;subst hq;exact hk
 obtain⟨b1,b2,b3⟩:=Reg.gf Tk
 have so:=jb [aQ b] 1010000 (by omega) (by omega) Tk tI (by simp)
 have fi:=Da (Reg.a_ [aQ b]) b1 ((b3 _ tI).up (by omega))
 rw[Reg.C_ hf,show decide (Reg.a_ [aQ b]=[])=false by rw[Reg.sf hf];rfl,Bool.false_or] at fi
 (refine aJ<|aj<|yS<|yP Z<|yn Z<|aK zI ?_;refine⟨_,_,(dv b hok),?_⟩)
 ((refine b9 Z Z<|ae<|yn Z<|aA zI<|aS<|ak<|yq Z<|aA zI<|bd<|aF<|an<|yT<|au<|yS ?_;refine yP Z<|yn Z<|aA zI<|aS<|af<|yn Z<|aK zI ?_);refine⟨_,_,so,?_⟩)
 (refine aS<|aF<|af<|yn Z<|aK zI ?_;refine⟨_,_,fi,?_⟩)
 (refine b9 Z Z<|ae<|yP Z<|yT<|az Z ?_;refine aa (fun h3=>?_) (fun h3=>?_) <;> try simp only[zB] at h3)
 ·(refine yS<|yP Z<|yq Z<|aA zI<|bd<|aF<|an<|yA Z<|yT<|bP<|aX<|bQ zi ?_;refine And.intro ?_ trivial)
  rw[no (by simp only[ed];rw[hok,h3];rfl)];rfl
 have e:eh b=(aQ b,0):=by rw[eh,if_pos (by simp only[ed];rw[hok,h3];rfl)]
 (refine aJ<|aj<|yS<|yP Z<|yq Z<|aA zI<|bd<|aF<|an<|yA Z<|yR zi ?_;refine And.intro ?_ trivial)
 rw[e];rfl
theorem YI (a b:List ax) (ha:hZ a) (hb':hZ b) (ka:cQ 2000000 a) (kb:cQ 2000000 b):aD C 44 [.pv (aG a),.pv (aG b)] (.p (bool (decide (cv a b=[])))) []:=by
 refine aT hC Tryz.func44 rfl rfl 10 rfl (by decide) (by kernel_rfl) fun _ _ _ _ _=>?_
 (refine yS<|yA Z<|yU<|yP Z<|yP Z<|yn Z<|aK zI ?_;refine⟨_,_,(fQ a b ha hb' ka kb),?_⟩)
 (refine b9 Z Z<|ae<|yP Z<|yP Z<|yA Z<|yR zi ?_;refine And.intro ?_ trivial)
 simp[bool]
theorem vf (s:List ax) (hs:hZ s) (ks:cQ 1400000 s) (n:Int) (h0:0<=n) (h1:n<=100000):aD C 53 [.pv (aG s),.pv (i64 n)] (.p (aG (bX s n n n n))) []:=by
 refine aT hC Tryz.func53 rfl rfl 11 rfl (by decide) (by kernel_rfl) fun _ _ _ _ _=>?_
 (refine yS<|yB Z<|yU<|yP Z<|yP Z<|yP Z<|yP Z<|yP Z<|yn Z<|aK zI ?_;refine⟨_,_,(zj s hs ks n n n n ⟨h0,h1⟩ ⟨h0,h1⟩ ⟨h0,h1⟩ ⟨h0,h1⟩),?_⟩)
 (refine b9 Z Z<|ae<|yA Z<|yR zi ?_;refine And.intro ?_ trivial)
 rfl
theorem Ba (b:ax) (s:List ax) (p:Int×Int) (u:bC) (hx:b.xs=p::u):aD C 26 [.pv (aG (b::s))] (.p (.ag [i64 p.1,i64 b.y0])) []:=by
 refine aT hC Tryz.func26 rfl rfl 14 rfl (by decide) (by kernel_rfl) fun _ _ _ _ _=>?_
 (refine yS<|yn Z<|aA zI<|aS<|ak<|yT<|au<|cH [] false HF rfl (by kernel_rfl)<|cG Z<|yD Z<|dq Z<|aK zI ?_;refine⟨(hb b),(idx (i:=0) rfl rfl),?_⟩)
 (refine bB<|ae<|yD Z<|yD Z<|dq Z<|aK zI ?_;refine⟨[i64 p.1],(idx (i:=0) rfl (by rw[hx];rfl)),?_⟩)
 (refine bB<|ae<|yD Z<|yD Z<|dq Z<|aK zI ?_;refine⟨(hb b),(idx (i:=0) rfl rfl),?_⟩)
 ((refine bB<|ae<|yD Z<|yD Z<|yD Z<|dq Z<|aA zI<|iG Z<|aF<|an<|cn<|fo Z<|aj<|bP ?_;refine bQ zi ?_);refine And.intro ?_ trivial)
 rfl
theorem po (a0 a1 b0 b1:Int) (h:(-4611686018427387000<=a0/\a0<=4611686018427387000)/\(-4611686018427387000<=a1/\a1<=4611686018427387000)/\(-4611686018427387000<=b0/\b0<=4611686018427387000)/\(-4611686018427387000<=b1/\b1<=4611686018427387000)):aD C 116 [.pv (i64 a0),.pv (i64 a1),.pv (i64 b0),.pv (i64 b1)] (.p (i64 (oQ a0 a1 b0 b1))) []:=by
 refine aT hC Tryz.func116 rfl rfl 18 rfl (by decide) (by kernel_rfl) fun _ _ _ _ _=>?_
 (refine yS<|yA Z<|yU<|yP Z<|yP Z<|yq Z<|bg zI ?_;refine sI ?_)
 (refine yk<|yq Z<|bg zI ?_;refine sI ?_)
 (refine yk<|yP Z<|yP Z<|yq Z<|bg zI ?_;refine sI ?_)
 (refine yk<|yq Z<|bg zI ?_;refine sI ?_)
 (refine yk<|yP Z<|yA Z<|yR zi ?_;refine And.intro ?_ trivial)
 rfl
end M
end Go.Proofs.YtpbkimanfahbgaaGreatDoor
namespace Go.Proofs.YtpbkimanfahbgaaGreatDoor
open Go.RowKit Go.Shelf
theorem Tl:(Tryz.prog.info? 127).map (·.size)=some 2:=by kernel_rfl
theorem RY:liesAt Tryz.prog Tryz.prog.depth 127 (2 / Tryz.prog.cellsOf 127) 0 127 1=true:=by kernel_rfl
theorem oc (b:Nat) (w:World) (h0:w.cell? ⟨b,0,none⟩=some (.pointer (some ⟨b,0,none⟩))):
  Calls Tryz.prog 108 #[.pointer (some ⟨b,0,none⟩)] w fun e w'=>e=.returned (.tuple #[])/\w'=w:=by
 obtain⟨j,hj,_⟩:=Option.map_eq_some_iff.1 Tl
 go_enter Tryz.func108,Tryz.ntmps108
 go_wp2
 rw[Lib.run_neq_ptr_same w _ Tryz.underlying124 hj]
 go_wp2
 go_end0
 exact⟨rfl,rfl⟩
theorem nm (b:Nat) (w:World) (h0:w.cell? ⟨b,0,none⟩=some (.pointer none)) (hsh:w.shape? b=some (127,2)) (zK:w.frozen? ⟨b,0,none⟩=false):
  Calls Tryz.prog 108 #[.pointer (some ⟨b,0,none⟩)] w fun e w'=>e=.returned (.tuple #[])/\w'=w.setCell ⟨b,0,none⟩ (.pointer (some ⟨b,0,none⟩)):=by
 obtain⟨j,hj,UU⟩:=Option.map_eq_some_iff.1 Tl
 go_enter Tryz.func108,Tryz.ntmps108
 go_wp2
 rw[Lib.run_to_unsafe w ⟨b,0,none⟩ Tryz.underlying124 Tryz.underlying205 hj (by rw[UU];decide) hsh (Nat.zero_lt_succ 1)]
 simp only[Result.andThen]
 rw[Oper.upon_value]
 go_wp2
 rw[run_callFunc_extern Tryz.func138 (by kernel_rfl) (by kernel_rfl) (by kernel_rfl) (e:=Extern.AbiNoEscape.same) (by kernel_rfl)]
 rw[Lib.run_noEscape]
 simp only[Result.andThen]
 rw[Oper.upon_value]
 go_wp2
 rw[Lib.run_from_unsafe w ⟨b,0,none⟩ Tryz.underlying205 Tryz.underlying124 hj hsh RY]
 simp only[Result.andThen]
 rw[Oper.upon_value]
 go_wp2
 go_end0
 exact⟨rfl,rfl⟩
theorem FH (B b:Nat) (bs:List Value) (w:World) (h:Lib.IsBuilder 127 5 B b bs w):
  Calls Tryz.prog 108 #[.pointer (some ⟨b,0,none⟩)] w fun e w'=>e=.returned (.tuple #[])/\(Lib.BuilderAt 127 5 B b (.pointer (some ⟨b,0,none⟩)) bs w'/\Below B w w'):=by
 rcases h with h | h
 ·refine (nm b w h.cell0 h.shape h.frozen0).mono ?_
  rintro e w' ⟨rfl,rfl⟩
  exact⟨rfl,h.used _,(Below.refl B w).setCell (p:=⟨b,0,none⟩) h.1 _⟩
 refine (oc b w h.cell0).mono ?_
 rintro e w' ⟨rfl,rfl⟩
 exact⟨rfl,h,Below.refl B _⟩
theorem Ig:(Tryz.prog.info? 5).map (fun i=>(i.zero,i.size,i.bytes))=some (some (.int .u8 0),1,1):=by kernel_rfl
theorem writeString (B b:Nat) (bs:List Value) (s:ByteArray) (w:World) (h:Lib.IsBuilder 127 5 B b bs w) (hlen:bs.length+s.size<=140737488355328) (PS:B<=w.heap.size):
  Calls Tryz.prog 60 #[.pointer (some ⟨b,0,none⟩),.string s] w fun e w'=>e=.returned (.tuple #[.int .i64 s.size,.nilIface])/\(Lib.BuilderAt 127 5 B b (.pointer (some ⟨b,0,none⟩)) (bs++Lib.strCells s) w'/\Below B w w'):=by
 obtain⟨i0,hi,Ga,OQ,hz2⟩:=info_parts Ig
 go_enter Tryz.func60,Tryz.ntmps60
 go_wp2_with (go_at_call 108;refine (FH B b bs _ h).mono ?_)
 rintro e w1 ⟨rfl,h1,GI⟩
 obtain⟨hB,v,xA,hown,b8⟩:=h1
 have c0:w1.cell? ⟨b,0,none⟩=some (.pointer (some ⟨b,0,none⟩)):=by rw[Lib.cell_of_heap xA];rfl
 have c1:w1.cell? ⟨b,1,none⟩=some v:=by rw[Lib.cell_of_heap xA];rfl
 go_wp2_with (at_builtin;refine Lib.wpList_append_own_string _ rfl _ _ 125 9 rfl B 5 i0 Tryz.underlying125 Tryz.underlying9 hi Ga OQ hz2 _ _ _ rfl hown s rfl ?c3 ?c4 ?c5 ?_)
 case c3=>unfold maxLen;omega
 case c4=>omega
 case c5=>have:=GI.size;omega
 intro v' w2 qh lZ _
 have eL:b < w1.heap.size:=by
  rcases Nat.lt_or_ge b w1.heap.size with h' | h'
  ·exact h'
  simp[Array.getElem?_eq_none h'] at xA
 have oD:w2.heap[b]?=some (.cells #[.pointer (some ⟨b,0,none⟩),v] 127 (0,0)):=by
  rw[lZ.block b eL (fun e=>b8 e.symm)]
  exact xA
 have d0:w2.cell? ⟨b,0,none⟩=some (.pointer (some ⟨b,0,none⟩)):=by rw[Lib.cell_of_heap oD];rfl
 have d1:w2.cell? ⟨b,1,none⟩=some v:=by rw[Lib.cell_of_heap oD];rfl
 have f1:w2.frozen? ⟨b,1,none⟩=false:=Lib.frozen_of_heap oD 1
 obtain⟨ao,n',cap,rfl⟩:∃ao n' cap,v'=.slice ao n' cap:=by
  rcases qh.2 with⟨hv,_⟩ | ⟨g,cap,cur,hv,_⟩
  ·exact⟨_,_,_,hv⟩
  exact⟨_,_,_,hv⟩
 go_wp2
 go_ret2
 refine⟨rfl,?_,?_⟩
 ·exact Lib.BuilderAt.put (T:=127) (e:=5) hB oD (bs':=bs++Lib.strCells s) (by simpa [Lib.strCells_length] using qh) (by decide)
 exact (GI.grown lZ (by have:=GI.size;omega) (fun k hk=>(hown.lt k hk).1)).setCell (p:=⟨b,1,none⟩) hB _
end Go.Proofs.YtpbkimanfahbgaaGreatDoor
namespace Go.Proofs.YtpbkimanfahbgaaGreatDoor
open Go.RowKit Go.Shelf
theorem Ld {T e:TypeId} {B b:Nat} {p:Value} {bs:List Value} {w w':World} (h:Lib.BuilderAt T e B b p bs w) (hb:Below w.heap.size w w'):Lib.BuilderAt T e B b p bs w':=by
 obtain⟨hB,v,xA,hown,b8⟩:=h
 have lt:∀k o,w.heap[k]?=some o->k < w.heap.size:=fun k o hk=>by
  rcases Nat.lt_or_ge k w.heap.size with h' | h'
  ·exact h'
  simp[Array.getElem?_eq_none h'] at hk
 refine⟨hB,v,(hb.block b (lt _ _ xA)).trans xA,⟨hown.1,?_⟩,b8⟩
 rcases hown.2 with h | ⟨g,cap,cur,hv,hg,hh,r⟩
 ·exact .inl h
 exact .inr ⟨g,cap,cur,hv,hg,(hb.block g (lt _ _ hh)).trans hh,r⟩
theorem Le {T e:TypeId} {B b:Nat} {bs:List Value} {w w':World} (h:Lib.IsBuilder T e B b bs w) (hb:Below w.heap.size w w'):Lib.IsBuilder T e B b bs w':=
 h.elim (fun h=>.inl (Ld h hb)) (fun h=>.inr (Ld h hb))
theorem Ih:Builder.Extra Tryz.prog Tryz.lays156_ren where
 sizeBuilder:=by kernel_rfl
 liesBuilder:=by kernel_rfl
 t5:=Tryz.underlying5
 a5:=Tryz.isAgg5
 z5:=Tryz.sizeOf5
 v5:=Tryz.zeroValue5
 infoByte:=by kernel_rfl
 cellsByte:=by kernel_rfl
 sizeByte:=by kernel_rfl
 neB5:=by decide
theorem Lf (bk o c:Nat) (xs:List ByteArray) (sep:ByteArray) (w:World) (hcells:∀(j:Nat) x,xs[j]?=some x->w.cell? ⟨bk,o+j,none⟩=some (.string x)) (xA:bk < w.heap.size) (hN:xs.length<=140737488355328) (Ce:xs.length<=c) (hlen:(Lib.join (xs.map (·.data.toList)) sep.data.toList).length<=140737488355328):
  Calls Tryz.prog 61 #[.slice (some ⟨bk,o,none⟩) xs.length c,.string sep] w fun e w'=>e=.returned (.string ⟨(Lib.join (xs.map (·.data.toList)) sep.data.toList).toArray⟩)/\Below w.heap.size w w':=Any.strings_Join Tryz.lays156 Ih bk o c xs sep w hcells xA hN Ce hlen
theorem Lg:(Tryz.prog.info? 9).map (fun i=>(i.zero,i.size,i.bytes))=some (some (.string ⟨#[]⟩),1,16):=by kernel_rfl
def jd (word:ByteArray) (l:List ByteArray):ByteArray:=⟨(Lib.join ((word::l).map (·.data.toList)) [32]).toArray⟩++⟨#[10]⟩
theorem line (B b:Nat) (bs:List Value) (word:ByteArray) (l:List ByteArray) (bk c:Nat) (w:World) (h:Lib.IsBuilder 127 5 B b bs w) (PS:B<=w.heap.size)
  (hcells:∀(j:Nat) x,l[j]?=some x->w.cell? ⟨bk,j,none⟩=some (.string x)) (hN:l.length<=1000000)
  (hlen:bs.length+(Lib.join ((word::l).map (·.data.toList)) [32]).length<=1000000000):
  Calls Tryz.prog 59 #[.string word,.slice (some ⟨bk,0,none⟩) l.length c,.pointer (some ⟨b,0,none⟩)] w fun e w'=>e=.returned (.tuple #[])/\(Lib.BuilderAt 127 5 B b (.pointer (some ⟨b,0,none⟩)) (bs++Lib.strCells (jd word l)) w'/\Below B w w'):=by
 obtain⟨i,hi,hz,hs,hb⟩:=info_parts Lg
 obtain⟨jt,J3⟩:∃jt:ByteArray,jt=⟨(Lib.join ((word::l).map (·.data.toList)) [32]).toArray⟩:=⟨_,rfl⟩
 have zz:jt.size=(Lib.join ((word::l).map (·.data.toList)) [32]).length:=by rw[J3];simp[ByteArray.size]
 have nz:¬9223372036854775807 < jt.size+1:=by omega
 have hsz:bs.length+(jt++⟨#[10]⟩).size<=140737488355328:=by
  rw[ByteArray.size_append,zz,show (⟨#[10]⟩:ByteArray).size=1 from rfl]
  omega
 have HS:=Lib.hid hsz
 have e1:jd word l=jt++⟨#[10]⟩:=by rw[jd,J3]
 rw[e1]
 have hl:=Lib.hid hlen
 have HJ:=Lib.hid J3
 clear hlen J3 zz hsz e1
 go_enter Tryz.func59,Tryz.ntmps59
 have b0:Below w.heap.size w (w.alloc (.cells #[.string word] 9)):=(Below.refl _ w).alloc (Nat.le_refl _) _
 go_wp2_with (at_builtin;refine wpList_append_own _ rfl _ _ 32 rfl w.heap.size 9 i _ 1 16 Tryz.underlying32 hi hz hs hb rfl (by decide) _ 1 [.string word] rfl ?o1 ⟨bk,0,none⟩ l.length c (l.map .string) rfl (by rw[List.length_map,Nat.mul_one]) ?o2 ?o3 ?o4 ?o5 ?o6 ?_)
 case o1=>exact⟨rfl,.inr ⟨w.heap.size,1,#[.string word],rfl,Nat.le_refl _,heap_alloc_new w _,Nat.le_refl _,by decide,rfl,rfl⟩⟩
 case o2=>
  intro j u hj
  rw[List.getElem?_map,Option.map_eq_some_iff] at hj
  obtain⟨x,hx,rfl⟩:=hj
  have hc:=hcells j x hx
  have:=(b0.cell (p:=⟨bk,j,none⟩) (World.block_lt_of_cell? _ _ hc)).trans hc
  rw[show (⟨bk,0,none⟩:Addr).add j=⟨bk,j,none⟩ by simp[Addr.add];omega]
  exact this
 case o3=>
  intro u hu
  obtain⟨x,_,rfl⟩:=List.mem_map.1 hu
  rfl
 case o4=>unfold maxLen;omega
 case o5=>omega
 case o6=>exact b0.size
 intro v' w2 hown lZ _
 have b2:Below w.heap.size w w2:=b0.grown lZ b0.size (fun k hk=>by
  simp only[Value.ownBlock,Option.some.injEq] at hk
  exact Nat.le_of_eq hk)
 obtain⟨g,cap,cur,rfl,hg,hh,Ce,_,_,NG⟩:∃g cap cur,v'=.slice (some ⟨g,0,none⟩) (1+l.length) cap/\w.heap.size<=g/\w2.heap[g]?=some (.cells cur 9 (0,0))/\1+l.length<=cap/\cap<=maxLen/\cur.size=cap*1/\cur.toList.take ((1+l.length)*1)=[.string word]++l.map .string:=by
  rcases hown.2 with⟨_,h0⟩ | h
  ·omega
  exact h
 have RZ:g < w2.heap.size:=by
  rcases Nat.lt_or_ge g w2.heap.size with h' | h'
  ·exact h'
  simp[Array.getElem?_eq_none h'] at hh
 have hcell:∀(j:Nat) x,(word::l)[j]?=some x->w2.cell? ⟨g,0+j,none⟩=some (.string x):=fun j x hx=>by
  rw[Nat.zero_add,Lib.cell_of_heap hh]
  have h1:(cur.toList.take ((1+l.length)*1))[j]?=some (.string x):=by
   rw[NG,show [Value.string word]++l.map Value.string=(word::l).map Value.string from rfl,List.getElem?_map,hx]
   rfl
  rw[List.getElem?_take] at h1
  split at h1
  ·rw[<-Array.getElem?_toList];exact h1
  cases h1
 have Gt:Lib.IsBuilder 127 5 B b bs w2:=Le h b2
 have J:=Lf g 0 cap (word::l) ⟨#[32]⟩ w2 hcell RZ (by simp;omega) (by simp;omega) (Nat.le_trans (Nat.le_trans (Nat.le_add_left _ bs.length) hl.out) (by omega))
 rw[show (word::l).length=1+l.length by simp;omega] at J
 have JJ:=Lib.hid J
 clear J
 have JK:Hid (Calls Tryz.prog 61 #[.slice (some ⟨g,0,none⟩) (1+l.length) cap,.string ⟨#[32]⟩] w2 fun e w'=>e=.returned (.string jt)/\Below w2.heap.size w2 w'):=Lib.hid (by rw[HJ.out];exact JJ.out)
 clear JJ
 go_wp2_with (go_at_call 61;refine (JK.out).mono ?_;rintro e w3 ⟨rfl,b3⟩)
 refine (writeString B b bs _ w3 (Le Gt b3) HS.out (Nat.le_trans PS (Nat.le_trans b2.size b3.size))).mono ?_
 rintro e w4 ⟨rfl,h4,b4⟩
 go_wp2
 go_end0
 exact⟨rfl,h4,(b2.mono PS).trans ((b3.mono (Nat.le_trans PS b2.size)).trans b4)⟩
end Go.Proofs.YtpbkimanfahbgaaGreatDoor
