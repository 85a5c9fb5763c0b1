/- Part 11 of 14 of the proof of RulesHarderBreakMore (the names are shortened by a program: the size of a claim is limited). -/
import Derived.Test.YtpbkimanfahbgaaGreatDoorH10
set_option linter.unusedVariables false
set_option linter.unusedSimpArgs false
set_option maxRecDepth 100000
set_option maxHeartbeats 8000000
namespace Go.Proofs.YtpbkimanfahbgaaGreatDoor
namespace Reg
structure Piece where
 layer:Int
 set:List ax
structure dc where
 pieces:List Int
 bores:List Int
 pins:List (ByteArray×ByteArray)
structure Kd where
 bore:Bool
 num:Int
theorem FT {x y:Int} {q:aB} (h:¬(x=q.x0\/x=q.x1)):iN (x - 1) y q=iN x y q:=by
 rw[Bool.eq_iff_iff,cz,cz]
 omega
theorem FU {x y:Int} {q:aB} (h:¬(y=q.y0\/y=q.y1)):iN x (y - 1) q=iN x y q:=by
 rw[Bool.eq_iff_iff,cz,cz]
 omega
theorem ot {α:Type} {l:List α} {f g:α->Bool} (h:∀x∈l,f x=g x):l.any f=l.any g:=by
 induction l with
 | nil=>rfl
 | cons x l ih=>rw[List.any_cons,List.any_cons,h x List.mem_cons_self,ih fun y hy=>h y (List.mem_cons_of_mem _ hy)]
def MN (l:List aB):List Int:=l.flatMap fun q=>[q.x0,q.x1]
def MO (l:List aB):List Int:=l.flatMap fun q=>[q.y0,q.y1]
theorem Ev:∀l:List aB,(MN l).length=2*l.length
 | []=>rfl
 | q::l=>by have:=Ev l;simp only[MN,List.flatMap_cons,List.length_append,List.length_cons,List.length_nil] at this ⊢;omega
theorem Ew:∀l:List aB,(MO l).length=2*l.length
 | []=>rfl
 | q::l=>by have:=Ew l;simp only[MO,List.flatMap_cons,List.length_append,List.length_cons,List.length_nil] at this ⊢;omega
theorem FV {a b:List aB} (ha:∀r∈a,Full r) (hb:∀r∈b,Full r):(told (cv (a_ a) (a_ b))).length<=(2*(a.length+b.length))*(2*(a.length+b.length)):=by
 obtain⟨a1,a2,_⟩:=gf ha
 obtain⟨b1,b2,_⟩:=gf hb
 obtain⟨c1,c2,_⟩:=dZ a1 b1
 have hx:∀x y,¬x∈MN (a++b)->at' (cv (a_ a) (a_ b)) (x - 1) y=at' (cv (a_ a) (a_ b)) x y:=fun x y hn=>by
  have e:∀q∈a++b,iN (x - 1) y q=iN x y q:=fun q hq=>FT fun hc=>hn (List.mem_flatMap.2 ⟨q,hq,by simp;exact hc⟩)
  rw[c2,c2,a2,a2,b2,b2,ot (l:=a) fun q hq=>e q (List.mem_append_left _ hq),ot (l:=b) fun q hq=>e q (List.mem_append_right _ hq)]
 have hy:∀x y,¬y∈MO (a++b)->at' (cv (a_ a) (a_ b)) x (y - 1)=at' (cv (a_ a) (a_ b)) x y:=fun x y hn=>by
  have e:∀q∈a++b,iN x (y - 1) q=iN x y q:=fun q hq=>FU fun hc=>hn (List.mem_flatMap.2 ⟨q,hq,by simp;exact hc⟩)
  rw[c2,c2,a2,a2,b2,b2,ot (l:=a) fun q hq=>e q (List.mem_append_left _ hq),ot (l:=b) fun q hq=>e q (List.mem_append_right _ hq)]
 have:=Kc c1 hx hy
 rw[Ev,Ew,List.length_append] at this
 exact this
def beside (x y:aB):Bool:=((decide (x.x0 < y.x1) && decide (y.x0 < x.x1)) && (decide (x.y1=y.y0) || decide (y.y1=x.y0))) || ((decide (x.y0 < y.y1) && decide (y.y0 < x.y1)) && (decide (x.x1=y.x0) || decide (y.x1=x.x0)))
def eT (bs:List en) (layer:Int):List aB:=(bs.filter fun b=>through b layer).map aQ
def dS (bs:List en) (layer:Int) (r:List aB):List ax:=cv (a_ r) (a_ (eT bs layer))
def il (bs:List en):Int->List (List aB)->List (List ax)
 | _,[]=>[]
 | k,r::l=>dS bs k r::il bs (k+1) l
def cE (bs:List en):Int->List (List aB)->List Piece
 | _,[]=>[]
 | k,r::l=>(eP (dS bs k r)).map (⟨k,·⟩)++cE bs (k+1) l
def vA (bs:List en):Int->List (List aB)->Bool
 | _,[]=>true
 | k,r::l=>decide ((told (dS bs k r)).length<=2000) && vA bs (k+1) l
def iU (a:Wt):Bool:=vA a.bores 0 a.coppers && decide ((cE a.bores 0 a.coppers).length<=2000)
def ou (b:en) (p:Piece):Bool:=(b.plated && through b p.layer) && (told p.set).any fun r=>beside r (aQ b)
def WC (b:en):Nat->List Piece->List Int
 | _,[]=>[]
 | k,p::l=>if ou b p=true then (k:Int)::WC b (k+1) l else WC b (k+1) l
def cI (bs:List en) (ps:List Piece):List (List Int):=bs.map fun b=>WC b 0 ps
theorem FW (s:List ax):(eP s).length<=(told s).length:=by
 rw[eP,Xb,List.length_map,List.length_map,l6]
 exact om _ _
theorem ss {l:List aB} {m:Nat} (h:m < l.length):l.getD m gQ∈l:=by
 rw[List.getD_eq_getElem?_getD,List.getElem?_eq_getElem h]
 exact List.getElem_mem h
theorem oT {s:List ax} {l:List aB} (h:l∈Xb s):l≠[]/\∀r∈l,r∈told s:=by
 obtain⟨u1,u2⟩:=By s
 have hT:=tV u1
 obtain⟨ms,NM,rfl⟩:=List.mem_map.1 h
 obtain⟨r,hr,rfl⟩:=List.mem_map.1 NM
 obtain⟨h1,h2⟩:=mem_keys.1 hr
 refine⟨fun e=>?_,fun q hq=>?_⟩
 ·have:r∈fR (dR (oo s)) (told s).length r:=fD.2 ⟨h1,h2⟩
  rw[List.map_eq_nil_iff] at e
  rw[e] at this
  cases this
 obtain⟨m,hm,rfl⟩:=List.mem_map.1 hq
 exact ss (fD.1 hm).1
theorem su {s p:List ax} (h:hZ s) (hp:p∈eP s):hZ p/\p≠[]/\(∀x y,at' p x y=true->at' s x y=true)/\∀K,cQ K s->cQ K p:=by
 obtain⟨l,hl,rfl⟩:=List.mem_map.1 hp
 obtain⟨h1,h2⟩:=oT hl
 obtain⟨b1,b2,b3⟩:=gf fun r hr=>dK h r (h2 r hr)
 have sub:∀x y,at' (a_ l) x y=true->at' s x y=true:=fun x y I5=>by
  rw[b2,List.any_eq_true] at I5
  obtain⟨q,hq,hh⟩:=I5
  rw[<-lV h,List.any_eq_true]
  exact⟨q,h2 q hq,hh⟩
 refine⟨b1,fun e=>?_,sub,fun K hK=>b3 K fun r hr=>kN h hK r (h2 r hr)⟩
 obtain⟨q,hq⟩:=List.exists_mem_of_ne_nil _ h1
 have hf:=dK h q (h2 q hq)
 have:at' (a_ l) q.x0 q.y0=true:=by
  rw[b2,List.any_eq_true]
  exact⟨q,hq,cz.2 ⟨Int.le_refl _,hf.1,Int.le_refl _,hf.2⟩⟩
 rw[e] at this
 cases this
end Reg
end Go.Proofs.YtpbkimanfahbgaaGreatDoor
namespace Go.AM
theorem aW.tn {A:cV} (hC:bV A.C) (s:AS) (id j:Nat) (cs:List AV) (hb:s.h id=.box cs) (hn:cs[j]?=some (.p (.im (.slice none 0 0)))):aW A s ⟨s.t,br s.h id (.box (cs.set j .nl))⟩:=by
 intro S rho a w sim
 refine⟨S,rho,sim.write hC id trivial (by rw[hb];trivial) _ (fun _ h=>by cases h) w rfl rfl rfl rfl (fun _ _=>rfl) fun T=>?_⟩
 have hh:=sim.hp id trivial
 rw[hb] at hh
 obtain⟨g,ty,c,k1,k2,k3,k4⟩:=hh
 refine⟨g,ty,c,k1,k2,by rw[k3,List.length_set],fun q x u hi hu=>?_⟩
 by_cases ei:q=j
 ·subst ei
  rw[List.getElem?_set_self (aP hn)] at hi
  injection hi with hi
  subst hi
  obtain⟨k5,k6⟩:=k4 q _ u hn hu
  refine⟨k5,?_⟩
  have k7:bu S w (.im (.slice none 0 0)) u:=by cases k6;assumption
  exact (tG k7).lz T
 rw[List.getElem?_set_ne (fun e=>ei e.symm)] at hi
 obtain⟨k5,k6⟩:=k4 q x u hi hu
 exact⟨k5,k6.lz T⟩
end Go.AM
namespace Go.Proofs.YtpbkimanfahbgaaGreatDoor
namespace M
open Go.AM Go.RowKit Go.Lib
open Reg (aB beside aQ en through cx ax bC)
theorem wO (x y:aB):aD C 120 [.pv (.ag (rc x)),.pv (.ag (rc y))] (.p (bool (beside x y))) []:=by
 refine aT hC Tryz.func120 rfl rfl 63 rfl (by decide) (by kernel_rfl) fun _ _ _ _ _=>?_
 ((refine yS<|yn Z<|aA zI<|aS<|ak<|yn Z<|aA zI<|aS<|ak<|yA Z<|yU<|yV Z<|yP Z<|yV Z ?_;refine yP Z<|yP Z<|yP Z<|yg Z ?_);refine aa (fun a=>?_) (fun a=>?_) <;> try simp only[zB] at a)
 ·((refine bS<|bA Z Z<|aA zI<|bd<|ak<|y1 Z<|y2 Z<|bA Z Z<|aA zI<|bd<|ak<|y1 Z<|y1 Z<|yP Z ?_;refine yA Z<|yU<|yV Z<|yP Z<|yV Z<|yP Z<|yP Z<|yP Z<|yg Z ?_);refine aa (fun c=>?_) (fun c=>?_) <;> try simp only[zB] at c)
  ·((refine bS<|bA Z Z<|aA zI<|bd<|ak<|y1 Z<|y2 Z<|bA Z Z<|aA zI<|bd<|ak<|y1 Z<|y1 Z<|yP Z ?_;refine yA Z<|yU<|yP Z<|yP Z<|yg Z ?_);refine aa (fun b=>?_) (fun b=>?_) <;> try simp only[zB] at b)
   ·((refine bS<|bA Z Z<|aA zI<|bd<|ak<|y1 Z<|y2 Z<|bA Z Z<|aA zI<|bd<|ak<|y1 Z<|y1 Z<|y1 Z ?_;refine yg Z ?_);refine aa (fun e=>?_) (fun e=>?_) <;> try simp only[zB] at e)
    ·((refine cB<|ae<|y0 Z<|y0 Z<|y0 Z<|y0 Z<|y1 Z<|yP Z<|yP Z<|y0 Z<|y0 Z<|a8 Z Z Z Z<|ae<|a8 Z Z Z Z ?_;refine ae<|a8 Z Z Z Z<|ae<|a8 Z Z Z Z<|ae<|a8 Z Z Z Z<|ae<|a8 Z Z Z Z<|ae<|a8 Z Z Z Z<|ae<|a8 Z Z Z Z<|ae<|a8 Z Z Z Z ?_;refine ae<|a8 Z Z Z Z<|ae<|a8 Z Z Z Z<|ae<|a8 Z Z Z Z<|ae<|y0 Z<|yP Z<|yA Z<|yR zi ?_);refine And.intro ?_ trivial)
     simp[bool,beside,a,c,b,e]
    ((refine bS<|bA Z Z<|aA zI<|bd<|ak<|y1 Z<|y2 Z<|bA Z Z<|aA zI<|bd<|ak<|y1 Z<|y1 Z<|y1 Z ?_;refine yP Z<|yP Z<|yg Z ?_);refine aa (fun f=>?_) (fun f=>?_) <;> try simp only[zB] at f)
    ·((refine cB<|ae<|y0 Z<|a8 Z Z Z Z<|ae<|a8 Z Z Z Z<|ae<|a8 Z Z Z Z<|ae<|a8 Z Z Z Z<|ae<|a8 Z Z Z Z<|ae<|a8 Z Z Z Z ?_;refine ae<|a8 Z Z Z Z<|ae<|a8 Z Z Z Z<|ae<|a8 Z Z Z Z<|ae<|a8 Z Z Z Z<|ae<|a8 Z Z Z Z<|ae<|a8 Z Z Z Z<|ae<|y0 Z ?_;refine yP Z<|yA Z<|yR zi ?_);refine And.intro ?_ trivial)
     simp[bool,beside,a,c,b,e,f]
    (refine bS<|bA Z Z<|aA zI<|yk<|y1 Z<|yg Z ?_;refine aa (fun d=>?_) (fun d=>?_) <;> try simp only[zB] at d)
    ·((refine bS<|bA Z Z<|aA zI<|bd<|ak<|y1 Z<|y2 Z<|bA Z Z<|aA zI<|bd<|ak<|y1 Z<|y1 Z<|y1 Z ?_;refine yg Z ?_);refine aa (fun g=>?_) (fun g=>?_) <;> try simp only[zB] at g)
     ·(refine cB<|ae<|y0 Z<|y0 Z<|y0 Z<|y0 Z<|y1 Z<|y1 Z<|yP Z<|yA Z<|yR zi ?_;refine And.intro ?_ trivial)
      simp[bool,beside,a,c,b,e,f,d,g]
     ((refine bS<|bA Z Z<|aA zI<|bd<|ak<|y1 Z<|y2 Z<|bA Z Z<|aA zI<|bd<|ak<|y1 Z<|y1 Z<|y1 Z ?_;refine y1 Z<|yP Z<|yA Z<|yR zi ?_);refine And.intro ?_ trivial)
     simp[bool,beside,a,c,b,e,f,d,g]
    ((refine cB<|ae<|y0 Z<|y0 Z<|y0 Z<|y0 Z<|y0 Z<|a8 Z Z Z Z<|ae<|a8 Z Z Z Z<|ae<|a8 Z Z Z Z<|ae<|a8 Z Z Z Z ?_;refine ae<|a8 Z Z Z Z<|ae<|y0 Z<|y1 Z<|yP Z<|yA Z<|yR zi ?_);refine And.intro ?_ trivial)
    simp[bool,beside,a,c,b,e,f,d]
   ((refine cB<|ae<|y0 Z<|y0 Z<|y0 Z<|y0 Z<|y0 Z<|a8 Z Z Z Z<|ae<|a8 Z Z Z Z<|ae<|a8 Z Z Z Z<|ae<|a8 Z Z Z Z ?_;refine ae<|a8 Z Z Z Z<|ae<|y0 Z<|yP Z<|yP Z<|y1 Z<|y1 Z<|yg Z ?_);refine aa (fun d=>?_) (fun d=>?_) <;> try simp only[zB] at d)
   ·((refine bS<|bA Z Z<|aA zI<|bd<|ak<|y1 Z<|y2 Z<|bA Z Z<|aA zI<|bd<|ak<|y1 Z<|y1 Z<|y1 Z ?_;refine yg Z ?_);refine aa (fun g=>?_) (fun g=>?_) <;> try simp only[zB] at g)
    ·(refine cB<|ae<|y0 Z<|y0 Z<|y0 Z<|y0 Z<|y1 Z<|y1 Z<|yP Z<|yA Z<|yR zi ?_;refine And.intro ?_ trivial)
     simp[bool,beside,a,c,b,d,g]
    ((refine bS<|bA Z Z<|aA zI<|bd<|ak<|y1 Z<|y2 Z<|bA Z Z<|aA zI<|bd<|ak<|y1 Z<|y1 Z<|y1 Z ?_;refine y1 Z<|yP Z<|yA Z<|yR zi ?_);refine And.intro ?_ trivial)
    simp[bool,beside,a,c,b,d,g]
   ((refine cB<|ae<|y0 Z<|y0 Z<|y0 Z<|y0 Z<|y0 Z<|a8 Z Z Z Z<|ae<|a8 Z Z Z Z<|ae<|a8 Z Z Z Z<|ae<|a8 Z Z Z Z ?_;refine ae<|a8 Z Z Z Z<|ae<|y0 Z<|y1 Z<|yP Z<|yA Z<|yR zi ?_);refine And.intro ?_ trivial)
   simp[bool,beside,a,c,b,d]
  (refine cB<|ae<|y0 Z<|y0 Z<|y0 Z<|y0 Z<|yP Z<|yA Z<|yU<|yP Z<|yP Z<|yg Z ?_;refine aa (fun b=>?_) (fun b=>?_) <;> try simp only[zB] at b)
  ·((refine bS<|bA Z Z<|aA zI<|bd<|ak<|y1 Z<|y2 Z<|bA Z Z<|aA zI<|bd<|ak<|y1 Z<|y1 Z<|y1 Z ?_;refine yg Z ?_);refine aa (fun e=>?_) (fun e=>?_) <;> try simp only[zB] at e)
   ·((refine cB<|ae<|y0 Z<|y0 Z<|y0 Z<|y0 Z<|y1 Z<|yP Z<|yP Z<|y0 Z<|y0 Z<|a8 Z Z Z Z<|ae<|a8 Z Z Z Z ?_;refine ae<|a8 Z Z Z Z<|ae<|a8 Z Z Z Z<|ae<|a8 Z Z Z Z<|ae<|a8 Z Z Z Z<|ae<|a8 Z Z Z Z<|ae<|a8 Z Z Z Z<|ae<|a8 Z Z Z Z ?_;refine ae<|a8 Z Z Z Z<|ae<|a8 Z Z Z Z<|ae<|a8 Z Z Z Z<|ae<|y0 Z<|yP Z<|yA Z<|yR zi ?_);refine And.intro ?_ trivial)
    simp[bool,beside,a,c,b,e]
   ((refine bS<|bA Z Z<|aA zI<|bd<|ak<|y1 Z<|y2 Z<|bA Z Z<|aA zI<|bd<|ak<|y1 Z<|y1 Z<|y1 Z ?_;refine yP Z<|yP Z<|yg Z ?_);refine aa (fun f=>?_) (fun f=>?_) <;> try simp only[zB] at f)
   ·((refine cB<|ae<|y0 Z<|a8 Z Z Z Z<|ae<|a8 Z Z Z Z<|ae<|a8 Z Z Z Z<|ae<|a8 Z Z Z Z<|ae<|a8 Z Z Z Z<|ae<|a8 Z Z Z Z ?_;refine ae<|a8 Z Z Z Z<|ae<|a8 Z Z Z Z<|ae<|a8 Z Z Z Z<|ae<|a8 Z Z Z Z<|ae<|a8 Z Z Z Z<|ae<|a8 Z Z Z Z<|ae<|y0 Z ?_;refine yP Z<|yA Z<|yR zi ?_);refine And.intro ?_ trivial)
    simp[bool,beside,a,c,b,e,f]
   ((refine bS<|bA Z Z<|aA zI<|yk<|y1 Z<|y0 Z<|y0 Z<|y0 Z<|y0 Z<|y0 Z<|y0 Z<|a8 Z Z Z Z<|ae<|a8 Z Z Z Z ?_;refine ae<|a8 Z Z Z Z<|ae<|a8 Z Z Z Z<|ae<|a8 Z Z Z Z<|ae<|y0 Z<|y1 Z<|yP Z<|yA Z<|yR zi ?_);refine And.intro ?_ trivial)
   simp[bool,beside,a,c,b,e,f]
  ((refine cB<|ae<|y0 Z<|y0 Z<|y0 Z<|y0 Z<|y0 Z<|a8 Z Z Z Z<|ae<|a8 Z Z Z Z<|ae<|a8 Z Z Z Z<|ae<|a8 Z Z Z Z ?_;refine ae<|a8 Z Z Z Z<|ae<|y0 Z<|yP Z<|yP Z<|y1 Z<|y1 Z<|y0 Z<|y0 Z<|y0 Z<|y0 Z<|y0 Z<|y0 Z ?_;refine a8 Z Z Z Z<|ae<|a8 Z Z Z Z<|ae<|a8 Z Z Z Z<|ae<|a8 Z Z Z Z<|ae<|a8 Z Z Z Z<|ae<|y0 Z<|y1 Z<|yP Z<|yA Z ?_;refine yR zi ?_);refine And.intro ?_ trivial)
  simp[bool,beside,a,c,b]
 ((refine cB<|ae<|y0 Z<|y0 Z<|y0 Z<|y0 Z<|yP Z<|yA Z<|yU<|yV Z<|yP Z<|yV Z<|yP Z<|yP Z ?_;refine yP Z<|yg Z ?_);refine aa (fun c=>?_) (fun c=>?_) <;> try simp only[zB] at c)
 ·((refine bS<|bA Z Z<|aA zI<|bd<|ak<|y1 Z<|y2 Z<|bA Z Z<|aA zI<|bd<|ak<|y1 Z<|y1 Z<|yP Z ?_;refine yA Z<|yU<|yP Z<|yP Z<|y0 Z<|y0 Z<|y0 Z<|y0 Z<|y0 Z<|y0 Z<|a8 Z Z Z Z<|ae<|a8 Z Z Z Z<|ae ?_;refine a8 Z Z Z Z<|ae<|a8 Z Z Z Z<|ae<|a8 Z Z Z Z<|ae<|y0 Z<|yP Z<|yP Z<|y1 Z<|y1 Z<|yg Z ?_);refine aa (fun d=>?_) (fun d=>?_) <;> try simp only[zB] at d)
  ·((refine bS<|bA Z Z<|aA zI<|bd<|ak<|y1 Z<|y2 Z<|bA Z Z<|aA zI<|bd<|ak<|y1 Z<|y1 Z<|y1 Z ?_;refine yg Z ?_);refine aa (fun g=>?_) (fun g=>?_) <;> try simp only[zB] at g)
   ·(refine cB<|ae<|y0 Z<|y0 Z<|y0 Z<|y0 Z<|y1 Z<|y1 Z<|yP Z<|yA Z<|yR zi ?_;refine And.intro ?_ trivial)
    simp[bool,beside,a,c,d,g]
   ((refine bS<|bA Z Z<|aA zI<|bd<|ak<|y1 Z<|y2 Z<|bA Z Z<|aA zI<|bd<|ak<|y1 Z<|y1 Z<|y1 Z ?_;refine y1 Z<|yP Z<|yA Z<|yR zi ?_);refine And.intro ?_ trivial)
   simp[bool,beside,a,c,d,g]
  ((refine cB<|ae<|y0 Z<|y0 Z<|y0 Z<|y0 Z<|y0 Z<|a8 Z Z Z Z<|ae<|a8 Z Z Z Z<|ae<|a8 Z Z Z Z<|ae<|a8 Z Z Z Z ?_;refine ae<|a8 Z Z Z Z<|ae<|y0 Z<|y1 Z<|yP Z<|yA Z<|yR zi ?_);refine And.intro ?_ trivial)
  simp[bool,beside,a,c,d]
 ((refine cB<|ae<|y0 Z<|y0 Z<|y0 Z<|y0 Z<|yP Z<|yA Z<|yU<|yP Z<|yP Z<|y0 Z<|y0 Z<|y0 Z ?_;refine y0 Z<|y0 Z<|y0 Z<|a8 Z Z Z Z<|ae<|a8 Z Z Z Z<|ae<|a8 Z Z Z Z<|ae<|a8 Z Z Z Z<|ae<|a8 Z Z Z Z<|ae<|y0 Z ?_;refine yP Z<|yP Z<|y1 Z<|y1 Z<|y0 Z<|y0 Z<|y0 Z<|y0 Z<|y0 Z<|y0 Z<|a8 Z Z Z Z<|ae<|a8 Z Z Z Z<|ae ?_;refine a8 Z Z Z Z<|ae<|a8 Z Z Z Z<|ae<|a8 Z Z Z Z<|ae<|y0 Z<|y1 Z<|yP Z<|yA Z<|yR zi ?_);refine And.intro ?_ trivial)
 simp[bool,beside,a,c]
theorem Ke (r:aB) (b:en) (h:cx b=true):aD C 119 [.pv (.ag (rc r)),.pv (.ip (bc b))] (.p (bool (beside r (aQ b)))) []:=by
 refine aT hC Tryz.func119 rfl rfl 8 rfl (by decide) (by kernel_rfl) fun _ _ _ _ _=>?_
 ((refine yS<|yn Z<|aA zI<|aS<|ak<|yA Z<|yT<|au<|cH [] false Uy rfl (by kernel_rfl)<|ay Z<|ay Z<|cA Z Z<|cA Z Z<|cG Z ?_;refine yD Z<|yD Z<|dq Z<|aK zI ?_);refine⟨_,_,(dv b h),?_⟩)
 (refine bB<|ae<|dq Z<|aK zI ?_;refine⟨_,_,(wO r (aQ b)),?_⟩)
 (refine bB<|ae<|yD Z<|cn<|aq Z<|aq Z<|aq Z<|aq Z<|dW Z Z<|fo Z<|aj<|bP<|bQ zi ?_;refine And.intro ?_ trivial)
 rfl
theorem zv (l:List ax) (hN:l.length<=1000000000000) (hX:∀t∈l,t.xs.length<=1000000000000) (hT:(Reg.told l).length<=4398046511104):aD C 58 [.pv (.sl (l.map hb))] (.p (aV (Reg.told l))) []:=by
 refine aT hC Tryz.func58 rfl rfl 41 rfl (by decide) (by kernel_rfl) fun _ _ _ _ _=>?_
 have lm:=aN l hb
 have tl:∀i,(Reg.told (l.take i)).length<=(Reg.told l).length:=fun i=>by
  have e:Reg.told l=Reg.told (l.take i)++Reg.told (l.drop i):=by
   unfold Reg.told
   rw[<-List.flatMap_append,List.take_append_drop]
  rw[e,List.length_append]
  omega
 refine yS<|yB Z<|yU<|yB Z<|yT<|au<|yS<|yP Z<|yP Z<|yP Z<|yT<|aZ ?_
 refine aI (fun i:Nat=>i<=l.length) (fun i=>[(7,.p (.sl (l.map hb))),(8,.p (i64 (l.map hb).length)),(3,.ow 3),(9,.p (i64 i))]) (fun i=>[(3,.row 56 ((Reg.told (l.take i)).map rc))]) (fun i=>l.length - i) 0 _ (aW.fa hC _ 3 56 _ (by decide) rfl rfl (by decide)) (Nat.zero_le _) ⟨Z,Z,Z,Z,Y⟩ ⟨Z,Y⟩ fun i hi t h=>?_
 (refine yS<|yP Z<|yT<|au<|az Z ?_;refine aa (fun h1=>?_) (fun h1=>?_) <;> try simp only[zB] at h1)
 ·rw[lm] at h1
  obtain⟨b,tM⟩:=bh (l:=l) (i:=i) (by omega)
  have bm:=aN (flat b.xs) fun n=>[i64 n]
  have fl:=eG b.xs
  have hb':=hX b (List.mem_of_getElem? tM)
  have ht:=tl (i+1)
  rw[lN tM,List.length_append,List.length_map] at ht
  (refine aJ<|aj<|au<|aZ<|yS<|yq Z<|aK zI ?_;refine⟨(hb b),(idx rfl tM),?_⟩)
  (refine yk<|yP Z<|yn Z<|aA zI<|aS<|ak<|yq Z<|aA zI<|bd<|aF<|an<|yU<|yA Z<|yT ?_;refine aZ ?_)
  refine nj (fun _:Unit=>True) (fun _=>[(7,.p (.sl (l.map hb))),(8,.p (i64 (l.map hb).length)),(3,.ow 3),(9,.p (i64 i))]) (fun _=>[(3,.row 56 ((Reg.told (l.take (i+1))).map rc))]) (fun _ _ t h=>?_) ?_
  ·(refine bp<|aj<|aM<|yq Z<|bg zI ?_;refine sI ?_)
   (refine yk<|yP Z<|yT<|ai ?_;refine⟨(i+1),_,aW.refl _ _,?_⟩)
   exact⟨by omega,by omega,⟨Z,Z,Z,Z,Y⟩,⟨Z,Y⟩⟩
  refine aI (fun k:Nat=>k<=b.xs.length) (fun k=>[(7,.p (.sl (l.map hb))),(8,.p (i64 (l.map hb).length)),(3,.ow 3),(9,.p (i64 i)),(5,.bx 5 0),(6,.p (i64 ((2*k:Nat):Int)))]) (fun k=>[(3,.row 56 ((Reg.told (l.take i)++kF b k).map rc)),(5,.box [.p (i64 b.y0),.p (i64 b.y1),.p (ints (flat b.xs))])]) (fun k=>b.xs.length - k) 0 _ (aW.refl _ _) (Nat.zero_le _) ⟨Z,Z,Z,Z,Z,Z,Y⟩ ⟨by rw[kF];simp;rfl,Z,Y⟩ fun k hk t h=>?_
  have JM:(kF b k).length<=k:=by simp[kF];omega
  (refine au<|yS<|yP Z<|yV Z<|yP Z<|yP Z<|yP Z<|yT<|az Z ?_;refine aa (fun h2=>?_) (fun h2=>?_) <;> try simp only[zB] at h2)
  ·rw[bm,fl] at h2
   obtain⟨p,hp⟩:=bh (l:=b.xs) (i:=k) (by omega)
   obtain⟨g1,g2⟩:=AK hp
   ((refine aJ<|aj<|au<|aZ<|cH [] true HG rfl (by kernel_rfl)<|ay Z<|ay Z<|ay Z<|ay Z<|ay Z<|ay Z<|ay Z<|ay Z<|ay Z ?_;refine ay Z<|ay Z<|ay Z<|ay Z<|ay Z<|ay Z<|ay Z<|ay Z<|cA Z Z<|cA Z Z<|cG Z<|dq Z<|aA zI<|bB ?_;refine af<|yW Z<|yD Z<|yD Z<|dq Z<|aK zI ?_);refine⟨[i64 p.1],(idx rfl g1),?_⟩)
   (refine bB<|ae<|yD Z<|yW Z<|yD Z<|yW Z<|yD Z<|yD Z<|dq Z<|bg zI ?_;refine sI ?_)
   (refine bB<|ae<|dq Z<|aK zI ?_;refine⟨[i64 p.2],(idx (by omega) g2),?_⟩)
   (refine bB<|ae<|yD Z<|yW Z<|yD Z<|yD Z<|dq Z<|aA zI<|jA Z Z<|af<|dq Z<|bg zI ?_;refine And.intro ⟨yH rfl,by simp;omega,by simp;omega⟩ ?_)
   ((refine hD Z Z Z<|fM<|g_<|af<|dq Z<|aA zI<|bB<|af<|cn<|aq Z<|aq Z<|aq Z<|aq Z<|aq Z ?_;refine aq Z<|aq Z<|aq Z<|aq Z<|aq Z<|aq Z<|aq Z<|aq Z<|aq Z<|aq Z<|aq Z<|aq Z<|aq Z<|aq Z ?_;refine Fp Z Z Z Z Z<|fo Z<|bp<|aj<|aM<|yP Z<|yq Z<|bg zI ?_);refine sI ?_)
   (refine yk<|yA Z<|yT<|ai ?_;refine⟨(k+1),_,aW.refl _ _,?_⟩)
   refine⟨by omega,by omega,⟨rfl,rfl,rfl,rfl,rfl,cd (by omega),trivial⟩,⟨?_,Z,Y⟩⟩
   have hc:kF b (k+1)=kF b k++[⟨p.1,b.y0,p.2,b.y1⟩]:=by simp[kF,cw hp]
   have e:(Reg.told (l.take i)++kF b k).map rc++[rc ⟨p.1,b.y0,p.2,b.y1⟩]=(Reg.told (l.take i)++kF b (k+1)).map rc:=by
    rw[hc,<-List.append_assoc,List.map_append (l₂:=[_])]
    rfl
   exact congrArg (AB.row 56) e
  rw[bm,fl] at h2
  refine bT<|aY<|aY<|bU<|aj<|ai<|zX zi ?_
  refine⟨(),trivial,⟨Z,Z,Z,Z,Y⟩,⟨?_,trivial⟩⟩
  rw[lN tM]
  have:kF b k=b.xs.map fun p=>⟨p.1,b.y0,p.2,b.y1⟩:=by rw[kF,List.take_of_length_le (by omega)]
  rw[<-this]
  rfl
 rw[lm] at h1
 refine bT<|aY<|aY<|bU<|aj<|yS<|yq Z<|aA zI<|bd<|af<|cD Z<|cr Z Z Z Z Z<|yR zi ?_
 rw[List.take_of_length_le (by omega)]
 exact⟨Z,Y⟩
def R4 (b:en) (r:aB):Bool:=beside r (aQ b)
theorem BA (l:List aB) (hN:l.length<=140737488355328) (b:en) (hb':cx b=true):aD C 129 [.pv (aV l),.pv (.fn 119 [.ip (bc b)])] (.p (i64 (hY (R4 b) l 0))) []:=by
 refine aT hC Tryz.func129 rfl rfl 19 rfl (by decide) (by kernel_rfl) fun _ _ _ _ _=>?_
 have lm:=aN l rc
 refine yS<|yA Z<|yT<|au<|yS<|yP Z<|yP Z<|yP Z<|yT<|aZ ?_
 refine aI (fun i:Nat=>i<=l.length/\∀z∈l.take i,R4 b z=false) (fun i=>[(0,.p (aV l)),(1,.p (.fn 119 [.ip (bc b)])),(7,.p (i64 (l.map rc).length)),(8,.p (i64 i))]) (fun _=>[]) (fun i=>l.length - i) 0 _ (aW.refl _ _) ⟨Nat.zero_le _,by simp⟩ ⟨Z,Z,Z,Z,Y⟩ trivial fun i hi t h=>?_
 (refine yS<|yP Z<|yT<|au<|az Z ?_;refine aa (fun h1=>?_) (fun h1=>?_) <;> try simp only[zB] at h1)
 ·rw[lm] at h1
  obtain⟨r,hr⟩:=bh (l:=l) (i:=i) (by omega)
  (refine aJ<|aj<|au<|aZ<|yS<|yP Z<|yA Z<|yU<|yP Z<|yP Z<|yP Z<|yq Z<|aK zI ?_;refine⟨(rc r),(idx rfl hr),?_⟩)
  (refine yk<|yP Z<|yn Z<|aK zI ?_;refine⟨_,_,(Ke r b hb'),?_⟩)
  (refine b9 Z Z<|ae<|yT<|az Z ?_;refine aa (fun h2=>?_) (fun h2=>?_) <;> try simp only[zB] at h2)
  ·(refine yS<|yP Z<|yA Z<|yT<|bP<|bW<|aX<|aX<|bW<|aX<|bQ zi ?_;refine And.intro ?_ trivial)
   rw[iJ hr h2 hi.2,Nat.zero_add]
  (refine aJ<|bp<|aj<|aM<|yq Z<|bg zI ?_;refine sI ?_)
  (refine yk<|yP Z<|yT<|ai ?_;refine⟨(i+1),_,aW.refl _ _,?_⟩)
  exact⟨⟨by omega,oM hr h2 hi.2⟩,by omega,⟨Z,Z,Z,Z,Y⟩,trivial⟩
 rw[lm] at h1
 (refine bT<|aY<|aY<|bU<|aj<|yS<|yA Z<|yR zi ?_;refine And.intro ?_ trivial)
 have h2:=hi.2
 rw[List.take_of_length_le (by omega)] at h2
 rw[fN h2]
 rfl
theorem vB (l:List aB) (hN:l.length<=140737488355328) (b:en) (hb':cx b=true):aD C 118 [.pv (aV l),.pv (.fn 119 [.ip (bc b)])] (.p (bool (l.any (R4 b)))) []:=by
 refine aT hC Tryz.func118 rfl rfl 9 rfl (by decide) (by kernel_rfl) fun _ _ _ _ _=>?_
 (refine yS<|yA Z<|yU<|yP Z<|yP Z<|yn Z<|aK zI ?_;refine⟨_,_,(BA l hN b hb'),?_⟩)
 (refine b9 Z Z<|ae<|yP Z<|yA Z<|yR zi ?_;refine And.intro ?_ trivial)
 rw[<-j_ _ l 0]
 rfl
open Reg (Wt Piece hZ cQ Full RK told a_ cv eP ed qQ eT dS il cE vA iU)
def gw (p:Piece):List PV:=[i64 p.layer,aG p.set,aV (told p.set)]
structure jG (a:Wt):Prop where
 cop:0 < a.coppers.length/\a.coppers.length<=16
 reg:∀r∈a.coppers,Reg.aH r=0
 out:Reg.aH a.outline=0
 few:a.bores.length<=500
 bor:∀b∈a.bores,qQ a.coppers.length b
 lan:a.lands.length<=1000
theorem oU {n:Int} {b:en} (h:qQ n b):cx b=true:=by
 have:=h.ok
 simp only[ed,Bool.and_eq_true] at this
 exact this.1
structure O2 (s:List ax):Prop where
 sok:hZ s
 ink:cQ 1000000 s
 few:(told s).length<=25000000
theorem pY {bs:List en} (hb':∀b∈bs,cx b=true) (hn:bs.length<=500) (k:Int) {r:List aB} (hr:Reg.aH r=0):O2 (dS bs k r):=by
 have h:=mQ hr
 have hf:∀q∈eT bs k,Full q:=fun q hq=>by
  obtain⟨b,hb,rfl⟩:=List.mem_map.1 hq
  exact Reg.eZ (hb' b (List.mem_filter.1 hb).1)
 have hl:(eT bs k).length<=500:=by
  rw[eT,List.length_map]
  exact Nat.le_trans (List.length_filter_le _ _) hn
 obtain⟨b1,b2,b3⟩:=Reg.gf hf
 obtain⟨c1,c2,_⟩:=Reg.dZ h.sok b1
 refine⟨c1,qN h.sok b1 h.ink,Nat.le_trans (Reg.FV h.full hf) ?_⟩
 have:2*(r.length+(eT bs k).length)<=5000:=by have:=h.len;omega
 exact Nat.mul_le_mul this this
theorem zw (a:Wt) (ha:jG a):aD C 70 [.bb [.p (.sl (a.coppers.map rr)),.p (aV a.outline),.p (.sl (a.bores.map bc)),.p (.sl (a.lands.map lc)),.row 81 [],.row 97 [],.row 44 [],.row 47 [],.row 3 [],.row 3 [],.row 3 [],.row 189 []]] (.p (bool (iU a))) [.bb [.p (.sl (a.coppers.map rr)),.p (aV a.outline),.p (.sl (a.bores.map bc)),.p (.sl (a.lands.map lc)),.row 81 ((il a.bores 0 a.coppers).map fun s=>[aG s]),.row 97 ((cE a.bores 0 a.coppers).map gw),.row 44 [],.row 47 [],.row 3 [],.row 3 [],.row 3 [],.row 189 []]]:=by
 have lk:=aN a.coppers rr
 have lb:=aN a.bores bc
 have hb':∀b∈a.bores,cx b=true:=fun b h=>oU (ha.bor b h)
 have tD:=ha.few
 have R3:=ha.cop
 obtain⟨DD,Ts⟩:∃DD,DD=il a.bores 0 a.coppers:=⟨_,rfl⟩
 obtain⟨PP,R5⟩:∃PP,PP=cE a.bores 0 a.coppers:=⟨_,rfl⟩
 obtain⟨OK,Tt⟩:∃OK,OK=vA a.bores 0 a.coppers:=⟨_,rfl⟩
 have hres:iU a=(OK && decide (PP.length<=2000)):=by rw[iU,Tt,R5]
 rw[hres,<-Ts,<-R5]
 refine qy hC Tryz.func70 rfl rfl 95 rfl (by decide) (by kernel_rfl) fun _ _ _ _ _=>⟨_,aW.open hC _ 100000 [90000,90001,90002,90003,90004,90005,90006,90007] (by exact rfl) rfl rfl rfl,?_⟩
 (refine yS<|yA Z<|yU<|yA Z<|yT<|au<|yS<|yq Z<|aA zI<|bd<|ak<|yV Z<|yV Z<|yV Z ?_;refine yP Z<|yP Z<|yP Z<|yT<|aZ ?_)
 refine aI (fun x:Nat×Bool×List (List ax)×List Piece=>x.2.2.1++il a.bores x.1 (a.coppers.drop x.1)=DD/\x.2.2.2++cE a.bores x.1 (a.coppers.drop x.1)=PP/\(x.2.1 && vA a.bores x.1 (a.coppers.drop x.1))=OK/\x.2.2.1.length<=x.1/\x.2.2.2.length<=25000000*x.1/\x.1<=a.coppers.length) (fun x=>[(0,.bx 100000 0),(3,.p (bool x.2.1)),(16,.p (.sl (a.coppers.map rr))),(17,.p (i64 a.coppers.length)),(18,.p (i64 x.1))]) (fun x=>[(100000,.box [.p (.sl (a.coppers.map rr)),.p (aV a.outline),.p (.sl (a.bores.map bc)),.p (.sl (a.lands.map lc)),.ow 90000,.ow 90001,.ow 90002,.ow 90003,.ow 90004,.ow 90005,.ow 90006,.ow 90007]),(90000,.row 81 (x.2.2.1.map fun s=>[aG s])),(90001,.row 97 (x.2.2.2.map gw)),(90002,.row 44 []),(90003,.row 47 []),(90004,.row 3 []),(90005,.row 3 []),(90006,.row 3 []),(90007,.row 189 [])]) (fun x=>a.coppers.length - x.1) (0,true,[],[]) _ (aW.refl _ _) ⟨Ts.symm,R5.symm,by rw[Tt];rfl,Nat.le_refl _,Nat.zero_le _,Nat.zero_le _⟩ ⟨rfl,rfl,rfl,congrArg (fun m:Nat=>AV.p (i64 m)) lk,Z,Y⟩ ⟨Z,Z,Z,Z,Z,Z,Z,Z,Z,Y⟩ fun ⟨i,ok,D,P⟩ hx t h=>?_
 obtain⟨q1,q2,q3,q4,q5,q6⟩:=hx
 simp only at q1 q2 q3 q4 q5 q6
 (refine yS<|yP Z<|yT<|au<|az Z ?_;refine aa (fun g=>?_) (fun g=>?_) <;> try simp only[zB] at g)
 ·obtain⟨r,hr⟩:=bh (l:=a.coppers) (i:=i) (by omega)
  have O3:=ha.reg r (List.mem_of_getElem? hr)
  have R6:=mQ O3
  rw[drop_at hr] at q1 q2 q3
  simp only[il,cE,vA] at q1 q2 q3
  have Mp:=pY hb' tD i O3
  (refine aJ<|aj<|au<|aZ<|yS<|yP Z<|yq Z<|aK zI ?_;refine⟨(rr r),(idx rfl hr),?_⟩)
  (refine yk<|yP Z<|yA Z<|yA Z<|yU<|yB Z<|yT<|au<|yS<|yq Z<|aA zI<|bd<|ak<|yV Z ?_;refine yV Z<|yV Z<|yP Z<|yP Z<|yP Z<|yT<|aZ ?_)
  refine aI (fun y:Nat×List aB=>y.2++eT (a.bores.drop y.1) i=eT a.bores i/\y.2.length<=y.1/\y.1<=a.bores.length/\∀q∈y.2,∃b∈a.bores,q=aQ b) (fun y=>[(0,.bx 100000 0),(3,.p (bool ok)),(16,.p (.sl (a.coppers.map rr))),(17,.p (i64 a.coppers.length)),(18,.p (i64 i)),(4,.p (i64 i)),(5,.p (aV r)),(27,.p (.sl (a.bores.map bc))),(28,.p (i64 a.bores.length)),(29,.p (i64 y.1)),(6,.ow 6)]) (fun y=>[(100000,.box [.p (.sl (a.coppers.map rr)),.p (aV a.outline),.p (.sl (a.bores.map bc)),.p (.sl (a.lands.map lc)),.ow 90000,.ow 90001,.ow 90002,.ow 90003,.ow 90004,.ow 90005,.ow 90006,.ow 90007]),(90000,.row 81 (D.map fun s=>[aG s])),(90001,.row 97 (P.map gw)),(90002,.row 44 []),(90003,.row 47 []),(90004,.row 3 []),(90005,.row 3 []),(90006,.row 3 []),(90007,.row 189 []),(6,.row 56 (y.2.map rc))]) (fun y=>a.bores.length - y.1) (0,[]) _ (aW.fa (by exact hC) _ 6 56 _ (by decide) (by exact rfl) (by exact rfl) (by decide)) ⟨rfl,Nat.le_refl _,Nat.zero_le _,fun q h=>by cases h⟩ ⟨rfl,rfl,rfl,rfl,rfl,rfl,rfl,rfl,congrArg (fun m:Nat=>AV.p (i64 m)) lb,Z,Z,Y⟩ ⟨Z,Z,Z,Z,Z,Z,Z,Z,Z,Z,Y⟩ fun ⟨j,hl⟩ hy t h=>?_
  obtain⟨k1,k2,k3,k4⟩:=hy
  simp only at k1 k2 k3 k4
  (refine yS<|yP Z<|yT<|au<|az Z ?_;refine aa (fun g2=>?_) (fun g2=>?_) <;> try simp only[zB] at g2)
  ·obtain⟨b,PU⟩:=bh (l:=a.bores) (i:=j) (by omega)
   have tM:=hb' b (List.mem_of_getElem? PU)
   rw[drop_at PU] at k1
   (refine aJ<|aj<|au<|aZ<|yS<|yq Z<|aK zI ?_;refine⟨(bc b),(idx rfl PU),?_⟩)
   ((refine yk<|yP Z<|yn Z<|aA zI<|aS<|ak<|yq Z<|aA zI<|bd<|aF<|an<|yU<|yP Z<|yP Z ?_;refine yn Z<|aK zI ?_);refine⟨_,_,(ig b i),?_⟩)
   (refine b9 Z Z<|ae<|yT<|az Z ?_;refine aa (fun g3=>?_) (fun g3=>?_) <;> try simp only[zB] at g3)
   ·have e:eT (b::a.bores.drop (j+1)) i=aQ b::eT (a.bores.drop (j+1)) i:=by rw[eT,List.filter_cons,if_pos (by simpa using g3)];rfl
    rw[e] at k1
    (refine aM<|yq Z<|aA zI<|bd<|af<|yP Z<|yn Z<|aK zI ?_;refine⟨_,_,(dv b tM),?_⟩)
    (refine b9 Z Z<|ae<|yn Z<|aA zI<|aS<|af<|yn Z<|bg zI ?_;refine And.intro ⟨fun r hr=>by simp at hr;subst hr;rfl,by simp only[List.length_map,List.length_set,List.length_replicate];omega,by simp only[List.length_map,List.length_set,List.length_replicate];omega⟩ ?_)
    (refine aS<|aF<|af<|cD Z<|cr Z Z Z Z Z<|cL<|bp<|aj<|aM<|yq Z<|bg zI ?_;refine sI ?_)
    (refine yk<|yP Z<|yT<|ai ?_;refine⟨(j+1,hl++[aQ b]),_,aW.refl _ _,?_⟩)
    exact⟨⟨by simp only[List.append_assoc,List.singleton_append];exact k1,by simp only[List.length_append,List.length_singleton];omega,by simp only;omega,fun q hq=>by
     rcases List.mem_append.1 hq with hq | hq
     ·exact k4 q hq
     rw[List.mem_singleton] at hq
     exact⟨b,List.mem_of_getElem? PU,hq⟩⟩,by simp only;omega,⟨Z,Z,Z,Z,Z,Z,Z,Z,Z,Z,Z,Y⟩,⟨rfl,rfl,rfl,rfl,rfl,rfl,rfl,rfl,rfl,by rw[List.map_append];rfl,trivial⟩⟩
   have e:eT (b::a.bores.drop (j+1)) i=eT (a.bores.drop (j+1)) i:=by rw[eT,List.filter_cons,if_neg (by simpa using g3)];rfl
   rw[e] at k1
   (refine aJ<|bp<|aj<|aM<|yq Z<|bg zI ?_;refine sI ?_)
   (refine yk<|yP Z<|yT<|ai ?_;refine⟨(j+1,hl),_,aW.refl _ _,?_⟩)
   exact⟨⟨k1,by simp only;omega,by simp only;omega,k4⟩,by simp only;omega,⟨Z,Z,Z,Z,Z,Z,Z,Z,Z,Z,Z,Y⟩,⟨Z,Z,Z,Z,Z,Z,Z,Z,Z,Z,Y⟩⟩
  have e:hl=eT a.bores i:=by
   rw[List.drop_of_length_le (by omega)] at k1
   rw[<-k1];simp[eT]
  have so:=jb hl 1010000 (by omega) (by omega) (fun q hq=>by obtain⟨b,hb,rfl⟩:=k4 q hq;exact Reg.eZ (hb' b hb)) (fun q hq=>by obtain⟨b,hb,rfl⟩:=k4 q hq;exact Reg.jM (hb' b hb)) (by omega)
  have bf:=Reg.gf (l:=hl) fun q hq=>by obtain⟨b,hb,rfl⟩:=k4 q hq;exact Reg.eZ (hb' b hb)
  have bk:=bf.2.2 1010000 fun q hq=>by obtain⟨b,hb,rfl⟩:=k4 q hq;exact Reg.jM (hb' b hb)
  have JU:=fQ _ _ R6.sok bf.1 (R6.ink.up (by omega)) (bk.up (by omega))
  have hS:cv (a_ r) (a_ hl)=dS a.bores i r:=by rw[e];rfl
  rw[hS] at JU
  obtain⟨S,U5⟩:∃S,S=dS a.bores i r:=⟨_,rfl⟩
  rw[<-U5] at JU Mp q1 q2 q3
  obtain⟨d1,d2,d3⟩:=Mp
  have sl:=Reg.cy d1 (by omega) d2
  have sx:=Reg.jk d1 (by omega) d2
  (refine bT<|aY<|aY<|bU<|aj<|yS<|yP Z<|yn Z<|aK zI ?_;refine⟨_,_,(jL R6),?_⟩)
  (refine aS<|af<|yq Z<|aA zI<|bd<|af<|yn Z<|aK zI ?_;refine⟨_,_,so,?_⟩)
  (refine aS<|aF<|af<|yn Z<|aK zI ?_;refine⟨_,_,JU,?_⟩)
  refine b9 Z Z<|aF<|aF<|ae<|yA Z<|yT ?_
  have ml:=u7 S (by omega) (fun t ht=>by have:=sx t ht;omega) (by omega)
  refine au (RL (fun MP:Bool=>MP=(ok && decide ((told S).length<=2000))) (fun MP=>[(0,.bx 100000 0),(3,.p (bool MP)),(16,.p (.sl (a.coppers.map rr))),(17,.p (i64 a.coppers.length)),(18,.p (i64 i)),(4,.p (i64 i)),(9,.p (aG S))]) (fun _=>[(100000,.box [.p (.sl (a.coppers.map rr)),.p (aV a.outline),.p (.sl (a.bores.map bc)),.p (.sl (a.lands.map lc)),.ow 90000,.ow 90001,.ow 90002,.ow 90003,.ow 90004,.ow 90005,.ow 90006,.ow 90007]),(90000,.row 81 (D.map fun s=>[aG s])),(90001,.row 97 (P.map gw)),(90002,.row 44 []),(90003,.row 47 []),(90004,.row 3 []),(90005,.row 3 []),(90006,.row 3 []),(90007,.row 189 [])]) (fun MP hok t h=>?_) ?_)
  ·have U6:(MP && vA a.bores ((i:Int)+1) (a.coppers.drop (i+1)))=OK:=by rw[hok,Bool.and_assoc];exact q3
   ((refine yS<|yq Z<|aA zI<|bd<|ak<|yq Z<|aA zI<|bd<|ak<|yV Z<|yV Z<|yV Z<|yP Z<|yn Z ?_;refine aA zI<|aS<|af<|yn Z<|bg zI ?_);refine And.intro ⟨fun r hr=>by simp at hr;subst hr;rfl,by simp only[List.length_map,List.length_set,List.length_replicate];omega,by simp only[List.length_map,List.length_set,List.length_replicate];omega⟩ ?_)
   (refine aS<|aF<|af<|yV Z<|yV Z<|yq Z<|aA zI<|bd<|aF<|an<|yU<|yP Z<|yn Z<|aK zI ?_;refine⟨_,_,(Bz S d1 (d2.up (by omega)) (by omega)),?_⟩)
   have pf:=Reg.FW S
   have lp:=aN (eP S) fun p=>[aG p]
   refine aS<|af<|yP Z<|yP Z<|yT<|aZ ?_
   refine aI (fun z:Nat×List Piece=>z.2++((eP S).drop z.1).map (⟨(i:Int),·⟩)++cE a.bores ((i:Int)+1) (a.coppers.drop (i+1))=PP/\z.2.length<=25000000*i+z.1/\z.1<=(eP S).length) (fun z=>[(0,.bx 100000 0),(3,.p (bool MP)),(16,.p (.sl (a.coppers.map rr))),(17,.p (i64 a.coppers.length)),(18,.p (i64 i)),(4,.p (i64 i)),(64,.p (.sl ((eP S).map fun p=>[aG p]))),(65,.p (i64 (eP S).length)),(66,.p (i64 z.1))]) (fun z=>[(100000,.box [.p (.sl (a.coppers.map rr)),.p (aV a.outline),.p (.sl (a.bores.map bc)),.p (.sl (a.lands.map lc)),.ow 90000,.ow 90001,.ow 90002,.ow 90003,.ow 90004,.ow 90005,.ow 90006,.ow 90007]),(90000,.row 81 ((D++[S]).map fun s=>[aG s])),(90001,.row 97 (z.2.map gw)),(90002,.row 44 []),(90003,.row 47 []),(90004,.row 3 []),(90005,.row 3 []),(90006,.row 3 []),(90007,.row 189 [])]) (fun z=>(eP S).length - z.1) (0,P) _ ((aW.own (by exact hC) _ 64 (id:=64) (by exact rfl) (by exact rfl)).trans ((aW.pack (by exact hC) _ 100000 (cs:=[.p (.sl (a.coppers.map rr)),.p (aV a.outline),.p (.sl (a.bores.map bc)),.p (.sl (a.lands.map lc)),.row 81 ((D++[S]).map fun s=>[aG s]),.row 97 (P.map gw),.row 44 [],.row 47 [],.row 3 [],.row 3 [],.row 3 [],.row 189 []]) (by exact rfl) (by exact rfl) (by exact⟨rfl,rfl,rfl,rfl,by rw[List.map_append];rfl,Z,Z,Z,Z,Z,Z,Z,Y⟩)).trans (aW.open (by exact hC) _ 100000 [90000,90001,90002,90003,90004,90005,90006,90007] (cs:=[.p (.sl (a.coppers.map rr)),.p (aV a.outline),.p (.sl (a.bores.map bc)),.p (.sl (a.lands.map lc)),.row 81 ((D++[S]).map fun s=>[aG s]),.row 97 (P.map gw),.row 44 [],.row 47 [],.row 3 [],.row 3 [],.row 3 [],.row 189 []]) (by exact rfl) rfl rfl rfl))) ⟨by simp only[List.drop_zero,List.append_assoc];exact q2,by simp only;omega,Nat.zero_le _⟩ ⟨rfl,rfl,rfl,rfl,rfl,rfl,rfl,congrArg (fun m:Nat=>AV.p (i64 m)) lp,Z,Y⟩ ⟨Z,Z,Z,Z,Z,Z,Z,Z,Z,Y⟩ fun ⟨k,Ps⟩ hz t h=>?_
   obtain⟨z1,z2,z3⟩:=hz
   simp only at z1 z2 z3
   (refine yS<|yP Z<|yT<|au<|az Z ?_;refine aa (fun g5=>?_) (fun g5=>?_) <;> try simp only[zB] at g5)
   ·obtain⟨p,hp⟩:=bh (l:=eP S) (i:=k) (by omega)
    obtain⟨p1,_,_,p3⟩:=Reg.su d1 (List.mem_of_getElem? hp)
    have p4:=p3 _ d2
    have px:=Reg.jk p1 (by omega) p4
    have pb:=Reg.cy p1 (by omega) p4
    have pt:=Reg.kj p1 (p4.up (by omega))
    rw[drop_at hp,List.map_cons] at z1
    (refine aJ<|aj<|au<|aZ<|yS<|yq Z<|aK zI ?_;refine⟨[aG p],(idx rfl hp),?_⟩)
    ((refine yk<|yP Z<|yA Z<|yT<|cH [] true On rfl (by kernel_rfl)<|ay Z<|ay Z<|ay Z<|ay Z<|ay Z<|ay Z<|ay Z<|ay Z<|cA Z Z ?_;refine ay Z<|cA Z Z<|cA Z Z<|cG Z<|dq Z<|aA zI<|bB<|ak<|dq Z<|aA zI<|bB<|ak<|yW Z<|yW Z ?_;refine dq Z<|aA zI<|bB<|af<|yD Z<|yD Z<|yD Z<|dq Z<|aK zI ?_);refine⟨_,_,(zv p (by omega) (fun t ht=>by have:=px t ht;omega) pt),?_⟩)
    (refine bB<|ae<|yD Z<|dq Z<|aA zI<|jA Z Z<|af<|dq Z<|bg zI ?_;refine And.intro ⟨fun r hr=>by simp at hr;subst hr;rfl,by simp only[List.length_map,List.length_set,List.length_replicate];omega,by simp only[List.length_map,List.length_set,List.length_replicate];omega⟩ ?_)
    ((refine hD Z Z Z<|fM<|g_<|af<|yW Z<|yW Z<|dq Z<|aA zI<|iG Z<|aF<|an<|cn<|fo Z<|bp ?_;refine aj<|aM<|yq Z<|bg zI ?_);refine sI ?_)
    refine yk<|yP Z<|yT<|ai ?_
    refine⟨(k+1,Ps++[Piece.mk i p]),_,((aW.pack (by exact hC) _ 100000 (cs:=[.p (.sl (a.coppers.map rr)),.p (aV a.outline),.p (.sl (a.bores.map bc)),.p (.sl (a.lands.map lc)),.row 81 ((D++[S]).map fun s=>[aG s]),.row 97 ((Ps++[Piece.mk i p]).map gw),.row 44 [],.row 47 [],.row 3 [],.row 3 [],.row 3 [],.row 189 []]) (by exact rfl) (by exact rfl) (by exact⟨rfl,rfl,rfl,rfl,rfl,by rw[List.map_append (f:=gw)];rfl,Z,Z,Z,Z,Z,Z,Y⟩)).trans (aW.open (by exact hC) _ 100000 [90000,90001,90002,90003,90004,90005,90006,90007] (cs:=[.p (.sl (a.coppers.map rr)),.p (aV a.outline),.p (.sl (a.bores.map bc)),.p (.sl (a.lands.map lc)),.row 81 ((D++[S]).map fun s=>[aG s]),.row 97 ((Ps++[Piece.mk i p]).map gw),.row 44 [],.row 47 [],.row 3 [],.row 3 [],.row 3 [],.row 189 []]) (by exact rfl) rfl rfl rfl)),?_⟩
    exact⟨⟨by simp only[List.append_assoc,List.singleton_append,List.cons_append] at z1 ⊢;exact z1,by simp only[List.length_append,List.length_singleton];omega,by simp only;omega⟩,by simp only;omega,⟨Z,Z,Z,Z,Z,Z,Z,Z,Z,Y⟩,⟨Z,Z,Z,Z,Z,Z,Z,Z,Z,Y⟩⟩
   rw[List.drop_of_length_le (by omega),List.map_nil,List.append_nil] at z1
   (refine bT<|aY<|aY<|bU<|bp<|aj<|aM<|yq Z<|bg zI ?_;refine sI ?_)
   (refine yk<|yP Z<|yT<|ai ?_;refine⟨(i+1,MP,D++[S],Ps),_,aW.refl _ _,?_⟩)
   exact⟨⟨by simp only[List.append_assoc,List.singleton_append];exact q1,z1,U6,by simp only[List.length_append,List.length_singleton];omega,by simp only;omega,by simp only;omega⟩,by simp only;omega,⟨Z,Z,Z,Z,Z,Y⟩,⟨Z,Z,Z,Z,Z,Z,Z,Z,Z,Y⟩⟩
  (refine aM<|yP Z<|yP Z<|yg Z ?_;refine aa (fun g4=>?_) (fun g4=>?_) <;> try simp only[zB] at g4)
  ·have g4:ok=true:=g4
   (refine bS<|bA Z Z<|aA zI<|yk<|y2 Z<|jB Z Z Z<|aK zI ?_;refine⟨_,_,ml,?_⟩)
   refine b9 Z Z<|ae<|y1 Z<|yP Z<|yA Z<|yT<|ai<|zX zi ?_
   exact⟨_,by rw[g4,Bool.true_and];congr 1;exact propext ⟨fun h=>by omega,fun h=>by omega⟩,⟨Z,Z,Z,Z,Z,Z,Z,Y⟩,⟨Z,Z,Z,Z,Z,Z,Z,Z,Z,Y⟩⟩
  have g4:ok=false:=by simpa using g4
  refine cB<|ae<|y0 Z<|y0 Z<|yP Z<|yA Z<|yT<|ai<|zX zi ?_
  exact⟨false,by rw[g4];rfl,⟨Z,Z,Z,Z,Z,Z,Z,Y⟩,⟨Z,Z,Z,Z,Z,Z,Z,Z,Z,Y⟩⟩
 have e:a.coppers.length<=i:=by omega
 rw[List.drop_of_length_le e] at q1 q2 q3
 simp only[il,cE,vA,List.append_nil,Bool.and_true] at q1 q2 q3
 subst q1 q2 q3
 have lP:=aN P gw
 (refine bT<|aY<|aY<|bU<|aj<|yS<|yP Z<|yP Z<|yg Z ?_;refine aa (fun g4=>?_) (fun g4=>?_) <;> try simp only[zB] at g4)
 ·have g4:ok=true:=g4
  (refine bS<|bA Z Z<|aA zI<|bd<|ak<|y2 Z<|bA Z Z<|aA zI<|bd<|ak<|y2 Z<|bA Z Z<|aA zI<|bd ?_;refine ak<|y2 Z<|bA Z Z<|aA zI<|bd<|af<|y1 Z<|y1 Z<|yP Z<|yA Z<|yR zi ?_)
  exact And.intro (by rw[g4,Bool.true_and];exact congrArg (fun b:Bool=>PV.im (Value.bool b)) (decide_eq_decide.2 ⟨fun h=>by rw[lP] at h;omega,fun h=>by rw[lP];omega⟩)) (And.intro ⟨Z,Z,Z,Z,Z,Z,Z,Z,Z,Z,Z,Z,Z,Y⟩ trivial)
 have g4:ok=false:=by simpa using g4
 refine cB<|ae<|y0 Z<|y0 Z<|y0 Z<|y0 Z<|y0 Z<|yP Z<|yA Z<|yR zi ?_
 exact And.intro (by rw[g4];rfl) (And.intro ⟨Z,Z,Z,Z,Z,Z,Z,Z,Z,Z,Z,Z,Z,Y⟩ trivial)
open Reg (ou WC cI)
theorem jf (l:List Int) (k:Int):aE (l++[k])=aE l++[[i64 k]]:=by rw[aE,List.map_append];rfl
theorem zx (a:Wt) (ha:jG a) (dr:List (List PV)) (P:List Piece) (hP:P.length<=1000000000) (Lk:∀p∈P,(told p.set).length<=4398046511104):aD C 71 [.bb [.p (.sl (a.coppers.map rr)),.p (aV a.outline),.p (.sl (a.bores.map bc)),.p (.sl (a.lands.map lc)),.row 81 dr,.row 97 (P.map gw),.row 44 [],.row 47 [],.row 3 [],.row 3 [],.row 3 [],.row 189 []]] (.tu []) [.bb [.p (.sl (a.coppers.map rr)),.p (aV a.outline),.p (.sl (a.bores.map bc)),.p (.sl (a.lands.map lc)),.row 81 dr,.row 97 (P.map gw),.row 44 ((cI a.bores P).map fun l=>[ints l]),.row 47 [],.row 3 [],.row 3 [],.row 3 [],.row 189 []]]:=by
 have lb:=aN a.bores bc
 have lp:=aN P gw
 have tD:=ha.few
 obtain⟨TT,Tu⟩:∃TT,TT=cI a.bores P:=⟨_,rfl⟩
 rw[<-Tu]
 refine qy hC Tryz.func71 rfl rfl 57 rfl (by decide) (by kernel_rfl) fun _ _ _ _ _=>⟨_,aW.open hC _ 100000 [90000,90001,90002,90003,90004,90005,90006,90007] (by exact rfl) rfl rfl rfl,?_⟩
 refine yS<|yq Z<|aA zI<|bd<|ak<|yV Z<|yV Z<|yV Z<|yP Z<|yP Z<|yP Z<|yT<|aZ ?_
 refine aI (fun x:Nat×List (List Int)=>x.2++cI (a.bores.drop x.1) P=TT/\x.2.length<=x.1/\x.1<=a.bores.length) (fun x=>[(0,.bx 100000 0),(11,.p (.sl (a.bores.map bc))),(12,.p (i64 a.bores.length)),(13,.p (i64 x.1))]) (fun x=>[(100000,.box [.p (.sl (a.coppers.map rr)),.p (aV a.outline),.p (.sl (a.bores.map bc)),.p (.sl (a.lands.map lc)),.ow 90000,.ow 90001,.ow 90002,.ow 90003,.ow 90004,.ow 90005,.ow 90006,.ow 90007]),(90000,.row 81 dr),(90001,.row 97 (P.map gw)),(90002,.row 44 (x.2.map fun l=>[ints l])),(90003,.row 47 []),(90004,.row 3 []),(90005,.row 3 []),(90006,.row 3 []),(90007,.row 189 [])]) (fun x=>a.bores.length - x.1) (0,[]) _ (aW.refl _ _) ⟨Tu.symm,Nat.le_refl _,Nat.zero_le _⟩ ⟨rfl,rfl,congrArg (fun m:Nat=>AV.p (i64 m)) lb,Z,Y⟩ ⟨Z,Z,Z,Z,Z,Z,Z,Z,Z,Y⟩ fun ⟨i,T⟩ hx t h=>?_
 obtain⟨q1,q2,q3⟩:=hx
 simp only at q1 q2 q3
 (refine yS<|yP Z<|yT<|au<|az Z ?_;refine aa (fun g=>?_) (fun g=>?_) <;> try simp only[zB] at g)
 ·obtain⟨b,I6⟩:=bh (l:=a.bores) (i:=i) (by omega)
  have tM:=oU (ha.bor b (List.mem_of_getElem? I6))
  rw[drop_at I6,cI,List.map_cons] at q1
  (refine aJ<|aj<|au<|aZ<|yS<|yq Z<|aK zI ?_;refine⟨(bc b),(idx rfl I6),?_⟩)
  (refine yk<|yP Z<|yn Z<|aA zI<|aS<|ak<|yq Z<|aA zI<|bd<|aF<|an<|yU<|yB Z<|yT ?_;refine au<|yS<|yq Z<|aA zI<|bd<|ak<|yV Z<|yV Z<|yq Z<|aA zI<|bd<|af<|yP Z<|yP Z ?_;refine yT<|aZ ?_)
  refine aI (fun y:Nat×List Int=>y.2++WC b y.1 (P.drop y.1)=WC b 0 P/\y.2.length<=y.1/\y.1<=P.length) (fun y=>[(0,.bx 100000 0),(11,.p (.sl (a.bores.map bc))),(12,.p (i64 a.bores.length)),(13,.p (i64 i)),(3,.p (.ip (bc b))),(4,.ow 4),(20,.ow 90001),(21,.p (i64 P.length)),(22,.p (i64 y.1))]) (fun y=>[(100000,.box [.p (.sl (a.coppers.map rr)),.p (aV a.outline),.p (.sl (a.bores.map bc)),.p (.sl (a.lands.map lc)),.ow 90000,.ow 90001,.ow 90002,.ow 90003,.ow 90004,.ow 90005,.ow 90006,.ow 90007]),(90000,.row 81 dr),(90001,.row 97 (P.map gw)),(90002,.row 44 (T.map fun l=>[ints l])),(90003,.row 47 []),(90004,.row 3 []),(90005,.row 3 []),(90006,.row 3 []),(90007,.row 189 []),(4,.row 3 (aE y.2))]) (fun y=>P.length - y.1) (0,[]) _ ((aW.gC (by exact hC) _ 3 (y:=.ip (bc b)) (fz:=[(3,.iP (bc b))]) (by exact⟨rfl,rfl⟩)).trans (aW.fa (by exact hC) _ 4 3 _ (by decide) (by exact rfl) (by exact rfl) (by decide))) ⟨rfl,Nat.le_refl _,Nat.zero_le _⟩ ⟨rfl,rfl,rfl,rfl,rfl,rfl,rfl,congrArg (fun m:Nat=>AV.p (i64 m)) lp,Z,Y⟩ ⟨Z,Z,Z,Z,Z,Z,Z,Z,Z,Z,Y⟩ fun ⟨k,l⟩ hy t h=>?_
  obtain⟨k1,k2,k3⟩:=hy
  simp only at k1 k2 k3
  have ll:=cg l
  (refine yS<|yP Z<|yT<|au<|az Z ?_;refine aa (fun g2=>?_) (fun g2=>?_) <;> try simp only[zB] at g2)
  ·obtain⟨p,JB⟩:=bh (l:=P) (i:=k) (by omega)
   have U7:=Lk p (List.mem_of_getElem? JB)
   rw[drop_at JB,WC] at k1
   have yes:ou b p=true->l++[(k:Int)]++WC b (k+1) (P.drop (k+1))=WC b 0 P:=fun h=>by
    rw[if_pos h] at k1
    rw[List.append_assoc];exact k1
   have no:ou b p=false->l++WC b (k+1) (P.drop (k+1))=WC b 0 P:=fun h=>by
    rw[if_neg (by rw[h];decide)] at k1
    exact k1
   (refine aJ<|aj<|au<|aZ<|yS<|yP Z<|yq Z<|bg zI ?_;refine And.intro ⟨by omega,by (try dsimp only);omega⟩ ?_)
   (refine bd<|bJ<|yq Z<|aK zI ?_;refine⟨(gw p),(idx rfl JB).2,?_⟩)
   ((refine yk<|yn Z<|aA zI<|aS<|ak<|yA Z<|yq Z<|aA zI<|bd<|aF<|an<|yU<|yP Z<|yP Z ?_;refine yP Z<|yg Z ?_);refine aa (fun g3=>?_) (fun g3=>?_) <;> try simp only[zB] at g3)
   ·(refine bS<|bA Z Z<|aA zI<|yk<|y2 Z<|bA Z Z<|aA zI<|bd<|ak<|y1 Z<|y2 Z<|jB Z Z Z<|aK zI ?_;refine⟨_,_,(ig b p.layer),?_⟩)
    (refine b9 Z Z<|ae<|yP Z<|yP Z<|yg Z ?_;refine aa (fun g4=>?_) (fun g4=>?_) <;> try simp only[zB] at g4)
    ·(refine bS<|bA Z Z<|aA zI<|bd<|ak<|y1 Z<|y2 Z<|bA Z Z<|aA zI<|bd<|mE<|y2 Z<|jB Z Z Z<|aK zI ?_;refine⟨_,_,(vB (told p.set) (by omega) b tM),?_⟩)
     (refine b9 Z Z<|ae<|yP Z<|yT<|az Z ?_;refine aa (fun g5=>?_) (fun g5=>?_) <;> try simp only[zB] at g5)
     ·have hy:=yes (by simp only[ou,Bool.and_eq_true];exact⟨⟨g3,g4⟩,g5⟩)
      (refine aM<|yq Z<|aA zI<|bd<|af<|yP Z<|yn Z<|aA zI<|aS<|af<|yn Z<|bg zI ?_;refine And.intro ⟨fun r hr=>by simp at hr;subst hr;rfl,by simp only[ll,List.length_set,List.length_replicate];omega,by simp only[ll,List.length_set,List.length_replicate];omega⟩ ?_)
      (refine aS<|aF<|af<|cD Z<|cr Z Z Z Z Z<|cL<|bp<|aj<|aM<|yq Z<|bg zI ?_;refine sI ?_)
      (refine yk<|yP Z<|yT<|ai ?_;refine⟨(k+1,l++[(k:Int)]),_,aW.refl _ _,?_⟩)
      exact⟨⟨hy,by simp only[List.length_append,List.length_singleton];omega,by simp only;omega⟩,by simp only;omega,⟨Z,Z,Z,Z,Z,Z,Z,Z,Z,Y⟩,⟨rfl,rfl,rfl,rfl,rfl,rfl,rfl,rfl,rfl,congrArg (AB.row _) (jf l k).symm,trivial⟩⟩
     have hn:=no (by simp only[ou];rw[Bool.and_eq_false_iff];exact .inr g5)
     (refine aJ<|bp<|aj<|aM<|yq Z<|bg zI ?_;refine sI ?_)
     (refine yk<|yP Z<|yT<|ai ?_;refine⟨(k+1,l),_,aW.refl _ _,?_⟩)
     exact⟨⟨hn,by simp only;omega,by simp only;omega⟩,by simp only;omega,⟨Z,Z,Z,Z,Z,Z,Z,Z,Z,Y⟩,⟨Z,Z,Z,Z,Z,Z,Z,Z,Z,Z,Y⟩⟩
    have hn:=no (by simp only[ou];rw[g4,Bool.and_false,Bool.false_and])
    ((refine cB<|ae<|y0 Z<|y0 Z<|y0 Z<|yP Z<|yT<|az Z<|cM<|aJ<|bp<|aj<|aM<|yq Z ?_;refine bg zI ?_);refine sI ?_)
    (refine yk<|yP Z<|yT<|ai ?_;refine⟨(k+1,l),_,aW.refl _ _,?_⟩)
    exact⟨⟨hn,by simp only;omega,by simp only;omega⟩,by simp only;omega,⟨Z,Z,Z,Z,Z,Z,Z,Z,Z,Y⟩,⟨Z,Z,Z,Z,Z,Z,Z,Z,Z,Z,Y⟩⟩
   have hn:=no (by simp only[ou];rw[g3,Bool.false_and,Bool.false_and])
   ((refine cB<|ae<|y0 Z<|y0 Z<|y0 Z<|yP Z<|yP Z<|y0 Z<|y0 Z<|y0 Z<|y0 Z<|yP Z<|yT<|az Z ?_;refine cM<|aJ<|bp<|aj<|aM<|yq Z<|bg zI ?_);refine sI ?_)
   (refine yk<|yP Z<|yT<|ai ?_;refine⟨(k+1,l),_,aW.refl _ _,?_⟩)
   exact⟨⟨hn,by simp only;omega,by simp only;omega⟩,by simp only;omega,⟨Z,Z,Z,Z,Z,Z,Z,Z,Z,Y⟩,⟨Z,Z,Z,Z,Z,Z,Z,Z,Z,Z,Y⟩⟩
  rw[List.drop_of_length_le (by omega),WC,List.append_nil] at k1
  have lT:=aN T fun l=>[ints l]
  ((refine bT<|aY<|aY<|bU<|aj<|aM<|yq Z<|aA zI<|bd<|ak<|yq Z<|aA zI<|bd<|ak ?_;refine yV Z<|yV Z<|yV Z<|yq Z<|aA zI<|bd<|af<|yn Z<|aA zI<|aS<|aF<|af<|yn Z<|bg zI ?_);refine And.intro ⟨fun r hr=>by simp at hr;subst hr;rfl,by simp only[lT,List.length_set,List.length_replicate];omega,by simp only[lT,List.length_set,List.length_replicate];omega⟩ ?_)
  ((refine aS<|aF<|af<|yV Z<|yV Z<|yq Z<|aA zI<|bd<|aF<|an<|cL<|bp<|aj<|aM ?_;refine yq Z<|bg zI ?_);refine sI ?_)
  refine yk<|yP Z<|yT<|ai ?_
  refine⟨(i+1,T++[l]),_,((aW.pack (by exact hC) _ 100000 (cs:=[.p (.sl (a.coppers.map rr)),.p (aV a.outline),.p (.sl (a.bores.map bc)),.p (.sl (a.lands.map lc)),.row 81 dr,.row 97 (P.map gw),.row 44 ((T++[l]).map fun l=>[ints l]),.row 47 [],.row 3 [],.row 3 [],.row 3 [],.row 189 []]) (by exact rfl) (by exact rfl) (by exact⟨rfl,rfl,rfl,rfl,rfl,rfl,by rw[List.map_append];rfl,Z,Z,Z,Z,Z,Y⟩)).trans (aW.open (by exact hC) _ 100000 [90000,90001,90002,90003,90004,90005,90006,90007] (cs:=[.p (.sl (a.coppers.map rr)),.p (aV a.outline),.p (.sl (a.bores.map bc)),.p (.sl (a.lands.map lc)),.row 81 dr,.row 97 (P.map gw),.row 44 ((T++[l]).map fun l=>[ints l]),.row 47 [],.row 3 [],.row 3 [],.row 3 [],.row 189 []]) (by exact rfl) rfl rfl rfl)),?_⟩
  exact⟨⟨by rw[k1];simp only[List.append_assoc,List.singleton_append];exact q1,by simp only[List.length_append,List.length_singleton];omega,by simp only;omega⟩,by simp only;omega,⟨Z,Z,Z,Z,Y⟩,⟨Z,Z,Z,Z,Z,Z,Z,Z,Z,Y⟩⟩
 rw[List.drop_of_length_le (by omega),cI,List.map_nil,List.append_nil] at q1
 subst q1
 refine bT<|aY<|aY<|bU<|Mu zi ?_
 exact And.intro rfl (And.intro ⟨Z,Z,Z,Z,Z,Z,Z,Z,Z,Z,Z,Z,Z,Y⟩ trivial)
end M
namespace Reg
def wP (l:jn) (b:en):Bool:=(b.plated && through b l.layer) && iN l.x l.y (aQ b)
def BB (l:jn) (p:Piece):Bool:=decide (p.layer=l.layer) && (told p.set).any (iN l.x l.y)
def Xk (l:jn):Nat->List Piece->Kd×Bool
 | _,[]=>(⟨false,0⟩,false)
 | k,p::r=>if BB l p=true then (⟨false,k⟩,true) else Xk l (k+1) r
def Xc (l:jn) (ps:List Piece):Nat->List en->Kd×Bool
 | _,[]=>Xk l 0 ps
 | k,b::r=>if wP l b=true then (⟨true,k⟩,true) else Xc l ps (k+1) r
def oZ (bs:List en) (ps:List Piece) (l:jn):Kd×Bool:=Xc l ps 0 bs
def qZ (m:Nat):List Int->List Int->List Int
 | [],u=>u
 | p::r,u=>qZ m r (ik u p.toNat m)
def tp (n:Nat):Nat->List (List Int)->List Int->List Int
 | _,[],u=>u
 | k,l::r,u=>tp n (k+1) r (qZ (n+k) l u)
def jq (n nb:Nat) (T:List (List Int)):List Int:=tp n 0 T (iota (n+nb))
theorem BC {m:Nat}:∀(l u:List Int),UF u->m < u.length->(∀p∈l,0<=p/\p.toNat < u.length)->UF (qZ m l u)/\(qZ m l u).length=u.length
 | [],u,h,_,_=>⟨h,rfl⟩
 | p::r,u,h,hm,hl=>by
  obtain⟨a,b⟩:=qV h (i:=p.toNat) (k:=m) (hl p List.mem_cons_self).2 hm
  obtain⟨c,d⟩:=BC (m:=m) r (ik u p.toNat m) a (by omega) fun q hq=>by have:=hl q (List.mem_cons_of_mem _ hq);omega
  exact⟨c,d.trans b⟩
theorem vC {n nb:Nat}:∀(l:List (List Int)) (k:Nat) (u:List Int),UF u->u.length=n+nb->k+l.length<=nb->(∀x∈l,∀p∈x,0<=p/\p < n)->UF (tp n k l u)/\(tp n k l u).length=n+nb
 | [],k,u,h,hl,_,_=>⟨h,hl⟩
 | x::r,k,u,h,hl,hk,hx=>by
  simp only[List.length_cons] at hk
  obtain⟨a,b⟩:=BC (m:=n+k) x u h (by omega) fun p hp=>by have:=hx x List.mem_cons_self p hp;omega
  exact vC r (k+1) _ a (b.trans hl) (by omega) fun y hy=>hx y (List.mem_cons_of_mem _ hy)
theorem XA (b:en):∀(ps:List Piece) (k:Nat),∀p∈WC b k ps,(k:Int)<=p/\p < ((k+ps.length:Nat):Int)
 | [],k,p,h=>by cases h
 | q::ps,k,p,h=>by
  rw[WC] at h
  have ih:=XA b ps (k+1) p
  simp only[List.length_cons]
  split at h
  ·rcases List.mem_cons.1 h with rfl | h
   ·omega
   have:=ih h;omega
  have:=ih h;omega
def iA (bs:List en) (n g:Nat) (s:(List Int×List Int)×List Int×List Int) (i:Nat):(List Int×List Int)×List Int×List Int:=
 if i < n then ((s.1.1.set i (g:Int),s.1.2),s.2.1++[(i:Int)],s.2.2) else
 if (bs.getD (i - n) ⟨0,0,0,0,0,false⟩).plated=true then ((s.1.1,s.1.2.set (i - n) (g:Int)),s.2.1,s.2.2++[((i:Int) - n)]) else
 ((s.1.1,s.1.2.set (i - n) (-1)),s.2.1,s.2.2)
def wQ (bs:List en) (n:Nat) (s:(List Int×List Int)×List dc) (l:List Nat):(List Int×List Int)×List dc:=
 let r:=l.foldl (iA bs n s.2.length) (s.1,[],[])
 (r.1,if 0 < r.2.1.length+r.2.2.length then s.2++[⟨r.2.1,r.2.2,[]⟩] else s.2)
def gB (bs:List en) (n:Nat) (L:List (List Nat)):(List Int×List Int)×List dc:=L.foldl (wQ bs n) ((List.replicate n 0,List.replicate bs.length 0),[])
structure mX where
 groups:List dc
 ofLand:List Int
 atLand:List Kd
def sw (p:ByteArray×ByteArray) (g:dc):dc:={ g with pins:=g.pins++[p] }
def nt (bs:List en) (ps:List Piece) (o:List Int×List Int) (s:mX) (l:jn):mX:=
 let h:=oZ bs ps l
 let k:Int:=if h.2=true then (if h.1.bore=true then o.2 else o.1).getD h.1.num.toNat 0 else -1
 ⟨if h.2=true then s.groups.set k.toNat (sw (l.part,l.pin) (s.groups.getD k.toNat ⟨[],[],[]⟩)) else s.groups,s.ofLand++[k],s.atLand++[h.1]⟩
end Reg
namespace M
open Go.AM Go.RowKit Go.Lib
open Reg (aB ax en jn Wt Piece Kd hZ cQ told a_ cx aQ through wP BB Xk Xc oZ)
def iE (h:Kd):List PV:=[bool h.bore,i64 h.num]
theorem BD:HY=Reg.iN:=rfl
theorem zy (a:Wt) (ha:jG a) (l:jn) (dr tt gg ol ah:List (List PV)) (op ob:List Int) (P:List Piece) (hP:P.length<=1000000000) (Lk:∀p∈P,(told p.set).length<=4398046511104):aD C 124 [.pv (.ip ((kG a)++[.sl dr,.sl (P.map gw),.sl tt,.sl gg,ints op,ints ob,.sl ol,.sl ah])),.pv (.ag (lc l))] (.tu [.ag (iE (oZ a.bores P l).1),bool (oZ a.bores P l).2]) []:=by
 have lb:=aN a.bores bc
 have lp:=aN P gw
 have tD:=ha.few
 obtain⟨R,hR⟩:∃R,R=oZ a.bores P l:=⟨_,rfl⟩
 rw[<-hR]
 refine aT hC Tryz.func124 rfl rfl 66 rfl (by decide) (by kernel_rfl) fun _ _ _ _ _=>?_
 (refine yS<|yn Z<|aA zI<|aS<|ak<|yn Z<|aA zI<|aS<|ak<|yA Z<|yT<|au<|yS<|yP Z ?_;refine yP Z<|yP Z<|yP Z<|yP Z<|yP Z<|yP Z<|yT<|aZ ?_)
 refine aI (fun i:Nat=>Xc l P i (a.bores.drop i)=R) (fun i=>[(0,.p (.ip ((kG a)++[.sl dr,.sl (P.map gw),.sl tt,.sl gg,ints op,ints ob,.sl ol,.sl ah]))),(3,.bx 3 0),(4,.bx 4 0),(14,.p (.sl (a.bores.map bc))),(15,.p (i64 a.bores.length)),(16,.p (i64 i))]) (fun _=>[(3,.box [.p (str l.part),.p (str l.pin),.p (i64 l.layer),.p (i64 l.x),.p (i64 l.y)]),(4,.box [.p (bool false),.p (i64 0)])]) (fun i=>a.bores.length - i) 0 _ (aW.refl _ _) hR.symm ⟨rfl,rfl,rfl,rfl,congrArg (fun m:Nat=>AV.p (i64 m)) lb,Z,Y⟩ ⟨Z,Z,Y⟩ fun i hi t h=>?_
 (refine yS<|yP Z<|yT<|au<|az Z ?_;refine aa (fun g=>?_) (fun g=>?_) <;> try simp only[zB] at g)
 ·obtain⟨b,I6⟩:=bh (l:=a.bores) (i:=i) (by omega)
  have tM:=oU (ha.bor b (List.mem_of_getElem? I6))
  rw[drop_at I6,Xc] at hi
  (refine aJ<|aj<|au<|aZ<|yS<|yP Z<|yq Z<|aK zI ?_;refine⟨(bc b),(idx rfl I6),?_⟩)
  have yes:wP l b=true->R=(⟨true,i⟩,true):=fun h=>by rw[if_pos h] at hi;exact hi.symm
  have no:wP l b=false->Xc l P (i+1) (a.bores.drop (i+1))=R:=fun h=>by rw[if_neg (by rw[h];decide)] at hi;exact hi
  ((refine yk<|yP Z<|yn Z<|aA zI<|aS<|ak<|yA Z<|yq Z<|aA zI<|bd<|aF<|an<|yT<|au ?_;refine cH [] false JH rfl (by kernel_rfl)<|ay Z<|ay Z<|ay Z<|ay Z<|ay Z<|ay Z<|cA Z Z<|ay Z<|ay Z<|ay Z<|cA Z Z<|cA Z Z<|ay Z ?_;refine ay Z<|cA Z Z<|cG Z<|yW Z<|yD Z<|yD Z<|dg Z ?_);refine aa (fun g1=>?_) (fun g1=>?_) <;> try simp only[zB] at g1)
  ·(refine bS<|c_ Z<|aA zI<|bB<|ae<|d2 Z<|c_ Z<|aA zI<|bB<|ak<|d1 Z<|d2 Z<|c_ Z<|aK zI ?_;refine⟨_,_,(ig b l.layer),?_⟩)
   (refine bB<|ae<|yD Z<|yD Z<|dg Z ?_;refine aa (fun g2=>?_) (fun g2=>?_) <;> try simp only[zB] at g2)
   ·(refine bS<|c_ Z<|aA zI<|bB<|ae<|d2 Z<|c_ Z<|aK zI ?_;refine⟨_,_,(dv b tM),?_⟩)
    ((refine bB<|ae<|d2 Z<|c_ Z<|aA zI<|jA Z Z<|af<|d2 Z<|c_ Z<|aA zI<|bB<|ak<|d1 Z<|d2 Z ?_;refine c_ Z<|aK zI ?_);refine⟨_,_,(nk [aQ b] (by simp) l.x l.y),?_⟩)
    (refine bB<|ae<|yD Z<|cn<|fo Z<|aj<|az Z ?_;refine aa (fun g3=>?_) (fun g3=>?_) <;> try simp only[zB] at g3)
    ·have hy:=yes (by simp only[wP,Bool.and_eq_true];exact⟨⟨g1,g2⟩,by simpa [BD] using g3⟩)
     (refine yS<|yP Z<|yP Z<|yq Z<|aA zI<|bd<|aF<|an<|yA Z<|yT<|bP<|bW<|aX<|aX ?_;refine bW<|aX<|bQ zi ?_)
     exact And.intro (by rw[hy];rfl) trivial
    have hn:=no (by simp only[wP];rw[Bool.and_eq_false_iff];exact .inr (by simpa [BD] using g3))
    (refine aJ<|bp<|aj<|aM<|yq Z<|bg zI ?_;refine sI ?_)
    (refine yk<|yP Z<|yT<|ai ?_;refine⟨(i+1),_,aW.refl _ _,?_⟩)
    exact⟨hn,by omega,⟨Z,Z,Z,Z,Z,Z,Y⟩,⟨Z,Z,Y⟩⟩
   have hn:=no (by simp only[wP];rw[g2,Bool.and_false,Bool.false_and])
   ((refine cB<|ae<|d0 Z<|d0 Z<|d0 Z<|d0 Z<|d0 Z<|yD Z<|cn<|fo Z<|aj<|az Z<|cM<|aJ ?_;refine bp<|aj<|aM<|yq Z<|bg zI ?_);refine sI ?_)
   (refine yk<|yP Z<|yT<|ai ?_;refine⟨(i+1),_,aW.refl _ _,?_⟩)
   exact⟨hn,by omega,⟨Z,Z,Z,Z,Z,Z,Y⟩,⟨Z,Z,Y⟩⟩
  have hn:=no (by simp only[wP];rw[g1,Bool.false_and,Bool.false_and])
  ((refine cB<|ae<|d0 Z<|d0 Z<|d0 Z<|yD Z<|yD Z<|d0 Z<|d0 Z<|d0 Z<|d0 Z<|d0 Z<|d0 Z<|yD Z ?_;refine cn<|fo Z<|aj<|az Z<|cM<|aJ<|bp<|aj<|aM<|yq Z<|bg zI ?_);refine sI ?_)
  (refine yk<|yP Z<|yT<|ai ?_;refine⟨(i+1),_,aW.refl _ _,?_⟩)
  exact⟨hn,by omega,⟨Z,Z,Z,Z,Z,Z,Y⟩,⟨Z,Z,Y⟩⟩
 rw[List.drop_of_length_le (by omega),Xc] at hi
 (refine bT<|aY<|aY<|bU<|aj<|au<|yS<|yP Z<|yP Z<|yP Z<|yP Z<|yP Z<|yP Z<|yT ?_;refine aZ ?_)
 refine aI (fun k:Nat=>Xk l k (P.drop k)=R) (fun k=>[(0,.p (.ip ((kG a)++[.sl dr,.sl (P.map gw),.sl tt,.sl gg,ints op,ints ob,.sl ol,.sl ah]))),(3,.bx 3 0),(4,.bx 4 0),(43,.p (.sl (P.map gw))),(44,.p (i64 P.length)),(45,.p (i64 k))]) (fun _=>[(3,.box [.p (str l.part),.p (str l.pin),.p (i64 l.layer),.p (i64 l.x),.p (i64 l.y)]),(4,.box [.p (bool false),.p (i64 0)])]) (fun k=>P.length - k) 0 _ (aW.refl _ _) hi ⟨rfl,rfl,rfl,rfl,congrArg (fun m:Nat=>AV.p (i64 m)) lp,Z,Y⟩ ⟨Z,Z,Y⟩ fun k hk t h=>?_
 (refine yS<|yP Z<|yT<|au<|az Z ?_;refine aa (fun g5=>?_) (fun g5=>?_) <;> try simp only[zB] at g5)
 ·obtain⟨p,JB⟩:=bh (l:=P) (i:=k) (by omega)
  have U7:=Lk p (List.mem_of_getElem? JB)
  rw[drop_at JB,Xk] at hk
  have yes:BB l p=true->R=(⟨false,k⟩,true):=fun h=>by rw[if_pos h] at hk;exact hk.symm
  have no:BB l p=false->Xk l (k+1) (P.drop (k+1))=R:=fun h=>by rw[if_neg (by rw[h];decide)] at hk;exact hk
  (refine aJ<|aj<|au<|aZ<|yS<|yP Z<|yq Z<|aK zI ?_;refine⟨(gw p),(idx rfl JB),?_⟩)
  ((refine yk<|yP Z<|yn Z<|aA zI<|aS<|ak<|yA Z<|yq Z<|aA zI<|bd<|aF<|an<|yU<|yV Z ?_;refine yP Z<|yV Z<|yP Z<|yP Z<|yP Z<|yg Z ?_);refine aa (fun g1=>?_) (fun g1=>?_) <;> try simp only[zB] at g1)
  ·((refine bS<|bA Z Z<|aA zI<|bd<|ak<|y1 Z<|y2 Z<|bA Z Z<|aA zI<|bd<|ak<|y1 Z<|y2 Z<|jB Z Z Z ?_;refine aK zI ?_);refine⟨_,_,(nk (told p.set) (by omega) l.x l.y),?_⟩)
   (refine b9 Z Z<|ae<|yP Z<|yT<|az Z ?_;refine aa (fun g2=>?_) (fun g2=>?_) <;> try simp only[zB] at g2)
   ·have hy:=yes (by simp only[BB,Bool.and_eq_true,decide_eq_true_eq];exact⟨g1,g2⟩)
    (refine yS<|yP Z<|yP Z<|yq Z<|aA zI<|bd<|aF<|an<|yA Z<|yT<|bP<|bW<|aX<|aX ?_;refine bW<|aX<|bQ zi ?_)
    exact And.intro (by rw[hy];rfl) trivial
   have hn:=no (by simp only[BB];rw[Bool.and_eq_false_iff];exact .inr g2)
   (refine aJ<|bp<|aj<|aM<|yq Z<|bg zI ?_;refine sI ?_)
   (refine yk<|yP Z<|yT<|ai ?_;refine⟨(k+1),_,aW.refl _ _,?_⟩)
   exact⟨hn,by omega,⟨Z,Z,Z,Z,Z,Z,Y⟩,⟨Z,Z,Y⟩⟩
  have hn:=no (by simp only[BB];rw[decide_eq_false g1,Bool.false_and])
  ((refine cB<|ae<|y0 Z<|y0 Z<|y0 Z<|y0 Z<|yP Z<|yT<|az Z<|cM<|aJ<|bp<|aj<|aM ?_;refine yq Z<|bg zI ?_);refine sI ?_)
  (refine yk<|yP Z<|yT<|ai ?_;refine⟨(k+1),_,aW.refl _ _,?_⟩)
  exact⟨hn,by omega,⟨Z,Z,Z,Z,Z,Z,Y⟩,⟨Z,Z,Y⟩⟩
 rw[List.drop_of_length_le (by omega),Xk] at hk
 refine bT<|aY<|aY<|bU<|aj<|yS<|yP Z<|yq Z<|aA zI<|bd<|aF<|an<|yA Z<|yR zi ?_
 exact And.intro (by rw[<-hk];rfl) trivial
theorem q8 (a:Wt) (hp:Kd) (dr tt gg ol ah:List (List PV)) (op ob:List Int) (P:List Piece) (n:Nat) (hn:hp.num=n) (v:Int) (hv:(if hp.bore=true then ob else op)[n]?=some v):aD C 125 [.pv (.ip ((kG a)++[.sl dr,.sl (P.map gw),.sl tt,.sl gg,ints op,ints ob,.sl ol,.sl ah])),.pv (.ag (iE hp))] (.p (i64 v)) []:=by
 obtain⟨b,m⟩:=hp
 simp only at hn hv
 subst hn
 refine aT hC Tryz.func125 rfl rfl 23 rfl (by decide) (by kernel_rfl) fun _ _ _ _ _=>?_
 (refine yS<|yn Z<|aA zI<|aS<|ak<|yA Z<|yT<|au<|yS<|yV Z<|yP Z<|yT<|az Z ?_;refine aa (fun g=>?_) (fun g=>?_) <;> try simp only[zB] at g)
 ·rw[if_pos g] at hv
  (refine au<|cH [] false PL rfl (by kernel_rfl)<|cG Z<|yD Z<|yD Z<|yD Z<|yD Z<|yW Z<|yD Z<|dq Z<|aK zI ?_;refine⟨[i64 v],(idx rfl hv),?_⟩)
  ((refine bB<|ae<|yD Z<|yD Z<|cn<|aq Z<|aq Z<|aq Z<|aq Z<|aq Z<|aq Z<|aq Z<|aq Z<|dW Z Z ?_;refine fo Z<|aj<|bP<|aX<|bQ zi ?_);refine And.intro ?_ trivial)
  rfl
 rw[if_neg (by rw[g];decide)] at hv
 (refine aJ<|aj<|au<|cH [] false PL rfl (by kernel_rfl)<|cG Z<|yD Z<|yD Z<|yD Z<|yD Z<|yW Z<|yD Z<|dq Z<|aK zI ?_;refine⟨[i64 v],(idx rfl hv),?_⟩)
 ((refine bB<|ae<|yD Z<|yD Z<|cn<|aq Z<|aq Z<|aq Z<|aq Z<|aq Z<|aq Z<|aq Z<|aq Z<|dW Z Z ?_;refine fo Z<|aj<|bP<|bQ zi ?_);refine And.intro ?_ trivial)
 rfl
end M
namespace Reg
def Ll:en:=⟨0,0,0,0,0,false⟩
def eJ (bs:List en) (j:Nat):Bool:=(bs.getD j Ll).plated
structure gz (bs:List en) (n g:Nat) (l:List Nat) (s r:(List Int×List Int)×List Int×List Int):Prop where
 l1:r.1.1.length=s.1.1.length
 l2:r.1.2.length=s.1.2.length
 op:∀i,r.1.1[i]?=if i∈l/\i < n then some (g:Int) else s.1.1[i]?
 ob:∀j,r.1.2[j]?=if n+j∈l then some (if eJ bs j=true then (g:Int) else -1) else s.1.2[j]?
 ps:∀x,x∈r.2.1↔x∈s.2.1\/∃i:Nat,i∈l/\i < n/\x=i
 bs':∀x,x∈r.2.2↔x∈s.2.2\/∃j:Nat,n+j∈l/\eJ bs j=true/\x=j
theorem q9 (bs:List en) (n g:Nat):∀(l:List Nat) (s:(List Int×List Int)×List Int×List Int),s.1.1.length=n->s.1.2.length=bs.length->(∀i∈l,i < n+bs.length)->gz bs n g l s (l.foldl (iA bs n g) s)
 | [],s,_,_,_=>⟨rfl,rfl,fun i=>by simp,fun j=>by simp,fun x=>by simp,fun x=>by simp⟩
 | i::l,s,h1,h2,hl=>by
  have hi:=hl i List.mem_cons_self
  have E_:∀i∈l,i < n+bs.length:=fun i h=>hl i (List.mem_cons_of_mem _ h)
  rw[List.foldl_cons]
  by_cases c:i < n
  ·have e:iA bs n g s i=((s.1.1.set i (g:Int),s.1.2),s.2.1++[(i:Int)],s.2.2):=by rw[iA,if_pos c]
   rw[e]
   have r:=q9 bs n g l ((s.1.1.set i (g:Int),s.1.2),s.2.1++[(i:Int)],s.2.2) (by simp only[List.length_set];exact h1) h2 E_
   refine⟨r.l1.trans (List.length_set ..),r.l2,fun k=>?_,fun j=>?_,fun x=>?_,fun x=>?_⟩
   ·rw[r.op]
    by_cases hk:k∈l/\k < n
    ·rw[if_pos hk,if_pos ⟨List.mem_cons_of_mem _ hk.1,hk.2⟩]
    rw[if_neg hk,eW (by omega)]
    by_cases GB:k=i
    ·subst GB
     rw[if_pos rfl,if_pos ⟨List.mem_cons_self,c⟩]
    rw[if_neg GB,if_neg (fun hc=>hk ⟨(List.mem_cons.1 hc.1).resolve_left GB,hc.2⟩)]
   ·rw[r.ob]
    have:(n+j∈i::l)↔n+j∈l:=by
     rw[List.mem_cons]
     exact⟨fun h=>h.resolve_left (by omega),.inr⟩
    simp only[this]
   ·rw[r.ps]
    simp only[List.mem_append,List.mem_cons,List.not_mem_nil,or_false]
    constructor
    ·rintro ((h | h) | ⟨k,a,b,e⟩)
     ·exact .inl h
     ·exact .inr ⟨i,.inl rfl,c,h⟩
     exact .inr ⟨k,.inr a,b,e⟩
    rintro (h | ⟨k,a | a,b,e⟩)
    ·exact .inl (.inl h)
    ·exact .inl (.inr (by rw[e,a]))
    exact .inr ⟨k,a,b,e⟩
   rw[r.bs']
   simp only[List.mem_cons]
   constructor
   ·rintro (h | ⟨k,a,b⟩)
    ·exact .inl h
    exact .inr ⟨k,.inr a,b⟩
   rintro (h | ⟨k,a | a,b⟩)
   ·exact .inl h
   ·omega
   exact .inr ⟨k,a,b⟩
  have qi:(bs.getD (i - n) ⟨0,0,0,0,0,false⟩).plated=eJ bs (i - n):=rfl
  have R7:∀k,(k∈i::l/\k < n)↔(k∈l/\k < n):=fun k=>by
   rw[List.mem_cons]
   exact⟨fun h=>⟨h.1.resolve_left (by omega),h.2⟩,fun h=>⟨.inr h.1,h.2⟩⟩
  have Tv:∀x:Int,(∃k:Nat,k∈i::l/\k < n/\x=k)↔(∃k:Nat,k∈l/\k < n/\x=k):=fun x=>
   ⟨fun ⟨k,a,b,e⟩=>⟨k,((R7 k).1 ⟨a,b⟩).1,b,e⟩,fun ⟨k,a,b,e⟩=>⟨k,List.mem_cons_of_mem _ a,b,e⟩⟩
  have Tw:∀(o:List Int) (v:Int) (j:Nat),o.length=bs.length->(v=if eJ bs (i - n)=true then (g:Int) else -1)->(if n+j∈l then some (if eJ bs j=true then (g:Int) else -1) else (o.set (i - n) v)[j]?)=if n+j∈i::l then some (if eJ bs j=true then (g:Int) else -1) else o[j]?:=fun o v j ho hv=>by
   by_cases hj:n+j∈l
   ·rw[if_pos hj,if_pos (List.mem_cons_of_mem _ hj)]
   rw[if_neg hj,eW (by omega)]
   by_cases PI:j=i - n
   ·subst PI
    rw[if_pos rfl,if_pos (List.mem_cons.2 (.inl (by omega))),hv]
   rw[if_neg PI,if_neg (fun hc=>hj ((List.mem_cons.1 hc).resolve_left (by omega)))]
  by_cases p:eJ bs (i - n)=true
  ·have e:iA bs n g s i=((s.1.1,s.1.2.set (i - n) (g:Int)),s.2.1,s.2.2++[((i:Int) - n)]):=by rw[iA,if_neg c,qi,if_pos p]
   rw[e]
   have r:=q9 bs n g l ((s.1.1,s.1.2.set (i - n) (g:Int)),s.2.1,s.2.2++[((i:Int) - n)]) h1 (by simp only[List.length_set];exact h2) E_
   refine⟨r.l1,r.l2.trans (List.length_set ..),fun k=>?_,fun j=>?_,fun x=>?_,fun x=>?_⟩
   ·rw[r.op];simp only[R7]
   ·rw[r.ob];exact Tw _ _ _ h2 (by rw[if_pos p])
   ·rw[r.ps,Tv]
   rw[r.bs']
   simp only[List.mem_append,List.mem_cons,List.not_mem_nil,or_false]
   constructor
   ·rintro ((h | h) | ⟨k,a,b,e⟩)
    ·exact .inl h
    ·exact .inr ⟨i - n,.inl (by omega),p,by omega⟩
    exact .inr ⟨k,.inr a,b,e⟩
   rintro (h | ⟨k,a | a,b,e⟩)
   ·exact .inl (.inl h)
   ·exact .inl (.inr (by omega))
   exact .inr ⟨k,a,b,e⟩
  have e:iA bs n g s i=((s.1.1,s.1.2.set (i - n) (-1)),s.2.1,s.2.2):=by rw[iA,if_neg c,qi,if_neg p]
  rw[e]
  have r:=q9 bs n g l ((s.1.1,s.1.2.set (i - n) (-1)),s.2.1,s.2.2) h1 (by simp only[List.length_set];exact h2) E_
  refine⟨r.l1,r.l2.trans (List.length_set ..),fun k=>?_,fun j=>?_,fun x=>?_,fun x=>?_⟩
  ·rw[r.op];simp only[R7]
  ·rw[r.ob];exact Tw _ _ _ h2 (by rw[if_neg p])
  ·rw[r.ps,Tv]
  rw[r.bs']
  simp only[List.mem_cons]
  constructor
  ·rintro (h | ⟨k,a,b⟩)
   ·exact .inl h
   exact .inr ⟨k,.inr a,b⟩
  rintro (h | ⟨k,a | a,b,e⟩)
  ·exact .inl h
  ·have:k=i - n:=by omega
   rw[this] at b
   exact absurd b p
  exact .inr ⟨k,a,b,e⟩
structure IA (bs:List en) (n:Nat) (D:List (List Nat)) (s:(List Int×List Int)×List dc):Prop where
 l1:s.1.1.length=n
 l2:s.1.2.length=bs.length
 a:∀i,i < n->(∃l∈D,i∈l)->∃(k:Nat) (g:dc),s.1.1[i]?=some (k:Int)/\s.2[k]?=some g/\(i:Int)∈g.pieces
 b:∀j,j < bs.length->eJ bs j=true->(∃l∈D,n+j∈l)->∃(k:Nat) (g:dc),s.1.2[j]?=some (k:Int)/\s.2[k]?=some g/\(j:Int)∈g.bores
 c:∀(k:Nat) g,s.2[k]?=some g->g.pins=[]/\∀x∈g.pieces,∃i:Nat,x=i/\i < n/\s.1.1[i]?=some (k:Int)/\∃l∈D,i∈l
 d:∀j,j < bs.length->eJ bs j=false->(∃l∈D,n+j∈l)->s.1.2[j]?=some (-1)
theorem FX {bs:List en} {n:Nat} {D:List (List Nat)} {s:(List Int×List Int)×List dc} (h:IA bs n D s) {l:List Nat} (hl:∀i∈l,i < n+bs.length) (hd:∀l'∈D,∀i∈l',¬i∈l):IA bs n (D++[l]) (wQ bs n s l):=by
 have r:=q9 bs n s.2.length l (s.1,[],[]) h.l1 h.l2 hl
 obtain⟨q,hq⟩:∃q,q=l.foldl (iA bs n s.2.length) (s.1,[],[]):=⟨_,rfl⟩
 rw[<-hq] at r
 have hs:wQ bs n s l=(q.1,if 0 < q.2.1.length+q.2.2.length then s.2++[⟨q.2.1,q.2.2,[]⟩] else s.2):=by rw[hq];rfl
 rw[hs]
 have R8:∀x,x∈q.2.1↔∃i:Nat,i∈l/\i < n/\x=i:=fun x=>by rw[r.ps];simp
 have Tx:∀x,x∈q.2.2↔∃j:Nat,n+j∈l/\eJ bs j=true/\x=j:=fun x=>by rw[r.bs'];simp
 have keep:∀(k:Nat) g,s.2[k]?=some g->(if 0 < q.2.1.length+q.2.2.length then s.2++[⟨q.2.1,q.2.2,[]⟩] else s.2)[k]?=some g:=fun k g hk=>by
  split
  ·rw[List.getElem?_append_left (List.getElem?_eq_some_iff.1 hk).1];exact hk
  exact hk
 have O4:∀x,(x∈q.2.1\/x∈q.2.2)->(if 0 < q.2.1.length+q.2.2.length then s.2++[(⟨q.2.1,q.2.2,[]⟩:dc)] else s.2)[s.2.length]?=some ⟨q.2.1,q.2.2,[]⟩:=fun x hx=>by
  have:0 < q.2.1.length+q.2.2.length:=by rcases hx with h | h <;> (have:=List.length_pos_of_mem h;omega)
  rw[if_pos this,List.getElem?_append_right (Nat.le_refl _),Nat.sub_self];rfl
 have mD:∀i,(∃l'∈D++[l],i∈l')↔(∃l'∈D,i∈l')\/i∈l:=fun i=>by
  constructor
  ·rintro⟨l',h1,h2⟩
   rcases List.mem_append.1 h1 with h1 | h1
   ·exact .inl ⟨l',h1,h2⟩
   rw[List.mem_singleton] at h1;subst h1;exact .inr h2
  rintro (⟨l',h1,h2⟩ | h2)
  ·exact⟨l',List.mem_append_left _ h1,h2⟩
  exact⟨l,List.mem_append_right _ (List.mem_singleton.2 rfl),h2⟩
 refine⟨r.l1.trans h.l1,r.l2.trans h.l2,fun i hi hm=>?_,fun j hj hp hm=>?_,fun k g hk=>?_,fun j hj hp hm=>?_⟩
 ·by_cases tJ:i∈l
  ·refine⟨s.2.length,_,by rw[r.op,if_pos ⟨tJ,hi⟩],O4 i (.inl ((R8 _).2 ⟨i,tJ,hi,rfl⟩)),(R8 _).2 ⟨i,tJ,hi,rfl⟩⟩
  obtain⟨k,g,h1,h2,h3⟩:=h.a i hi (((mD i).1 hm).resolve_right tJ)
  exact⟨k,g,by rw[r.op,if_neg (fun hc=>tJ hc.1)];exact h1,keep k g h2,h3⟩
 ·by_cases tJ:n+j∈l
  ·refine⟨s.2.length,_,by rw[r.ob,if_pos tJ,if_pos hp],O4 j (.inr ((Tx _).2 ⟨j,tJ,hp,rfl⟩)),(Tx _).2 ⟨j,tJ,hp,rfl⟩⟩
  obtain⟨k,g,h1,h2,h3⟩:=h.b j hj hp (((mD _).1 hm).resolve_right tJ)
  exact⟨k,g,by rw[r.ob,if_neg tJ];exact h1,keep k g h2,h3⟩
 ·by_cases Nf:k < s.2.length
  ·have tI:s.2[k]?=some g:=by
    have e:=keep k s.2[k] (List.getElem?_eq_getElem Nf)
    have e2:=hk.symm.trans e
    injection e2 with e2
    rw[e2];exact List.getElem?_eq_getElem Nf
   obtain⟨c1,c2⟩:=h.c k g tI
   refine⟨c1,fun x hx=>?_⟩
   obtain⟨i,e,hi,ho,hm⟩:=c2 x hx
   have tJ:¬i∈l:=fun hc=>by
    obtain⟨l',h1,h2⟩:=hm
    exact hd l' h1 i h2 hc
   exact⟨i,e,hi,by rw[r.op,if_neg (fun hc=>tJ hc.1)];exact ho,(mD i).2 (.inl hm)⟩
  have Xe:(if 0 < q.2.1.length+q.2.2.length then s.2++[(⟨q.2.1,q.2.2,[]⟩:dc)] else s.2)[k]?=some g:=hk
  split at Xe
  ·rw[List.getElem?_append_right (by omega)] at Xe
   have JM:k=s.2.length:=by
    have:=(List.getElem?_eq_some_iff.1 Xe).1
    simp at this
    omega
   rw[JM,Nat.sub_self] at Xe
   injection Xe with Xe
   subst Xe
   subst JM
   refine⟨rfl,fun x hx=>?_⟩
   obtain⟨i,tJ,hi,e⟩:=(R8 x).1 hx
   exact⟨i,e,hi,by rw[r.op,if_pos ⟨tJ,hi⟩],(mD i).2 (.inr tJ)⟩
  exact absurd (List.getElem?_eq_some_iff.1 Xe).1 Nf
 by_cases tJ:n+j∈l
 ·rw[r.ob,if_pos tJ,hp];rfl
 rw[r.ob,if_neg tJ]
 exact h.d j hj hp (((mD _).1 hm).resolve_right tJ)
theorem BE {bs:List en} {n:Nat}:∀(L D:List (List Nat)) (s:(List Int×List Int)×List dc),IA bs n D s->(∀l∈L,∀i∈l,i < n+bs.length)->(∀l'∈D,∀l∈L,∀i∈l',¬i∈l)->(L.Pairwise fun l' l=>∀i∈l',¬i∈l)->IA bs n (D++L) (L.foldl (wQ bs n) s)
 | [],D,s,h,_,_,_=>by rw[List.append_nil];exact h
 | l::L,D,s,h,hl,hd,hp=>by
  have hp':=List.pairwise_cons.1 hp
  have h1:=FX h (hl l List.mem_cons_self) fun l' E_=>hd l' E_ l List.mem_cons_self
  have:=BE L (D++[l]) (wQ bs n s l) h1 (fun l' h'=>hl l' (List.mem_cons_of_mem _ h')) (fun l' h' m hm i hi=>by
   rcases List.mem_append.1 h' with h' | h'
   ·exact hd l' h' m (List.mem_cons_of_mem _ hm) i hi
   rw[List.mem_singleton] at h'
   subst h'
   exact hp'.1 m hm i hi) hp'.2
  rw[List.append_assoc,List.singleton_append] at this
  exact this
structure kx (bs:List en) (n:Nat) (s:(List Int×List Int)×List dc):Prop where
 l1:s.1.1.length=n
 l2:s.1.2.length=bs.length
 a:∀i,i < n->∃(k:Nat) (g:dc),s.1.1[i]?=some (k:Int)/\s.2[k]?=some g/\(i:Int)∈g.pieces
 b:∀j,j < bs.length->eJ bs j=true->∃(k:Nat) (g:dc),s.1.2[j]?=some (k:Int)/\s.2[k]?=some g/\(j:Int)∈g.bores
 c:∀(k:Nat) g,s.2[k]?=some g->g.pins=[]/\∀x∈g.pieces,∃i:Nat,x=i/\i < n/\s.1.1[i]?=some (k:Int)
 d:∀j,j < bs.length->eJ bs j=false->s.1.2[j]?=some (-1)
theorem xL {bs:List en} {n:Nat} {u:List Int} (hu:UF u) (hl:u.length=n+bs.length):kx bs n (gB bs n (ba (dR u) (n+bs.length))):=by
 have hT:=tV hu
 rw[hl] at hT
 have h0:IA bs n [] ((List.replicate n 0,List.replicate bs.length 0),[]):=⟨List.length_replicate,List.length_replicate,fun i _ ⟨l,h,_⟩=>(by cases h),fun j _ _ ⟨l,h,_⟩=>(by cases h),fun k g h=>by simp at h,fun j _ _ ⟨l,h,_⟩=>(by cases h)⟩
 have h1:=BE (ba (dR u) (n+bs.length)) [] _ h0 (fun l h i hi=>by
  obtain⟨r,_,rfl⟩:=List.mem_map.1 h
  exact (fD.1 hi).1) (fun l' h=>by cases h) (by
  rw[ba,List.pairwise_map]
  refine (pU _ _).imp fun {r q} b8=>?_
  intro i hi hc
  exact b8 ((fD.1 hi).2.symm.trans (fD.1 hc).2))
 have R9:∀i,i < n+bs.length->∃l∈[]++ba (dR u) (n+bs.length),i∈l:=fun i hi=>by
  refine⟨fR (dR u) (n+bs.length) (dR u i),?_,fD.2 ⟨hi,rfl⟩⟩
  rw[List.nil_append,ba]
  exact List.mem_map.2 ⟨dR u i,mem_keys.2 ⟨by have:=hT.le i hi;omega,hT.top i hi⟩,rfl⟩
 exact⟨h1.l1,h1.l2,fun i hi=>h1.a i hi (R9 i (by omega)),fun j hj hp=>h1.b j hj hp (R9 (n+j) (by omega)),fun k g hk=>⟨(h1.c k g hk).1,fun x hx=>by obtain⟨i,a,b,c,_⟩:=(h1.c k g hk).2 x hx;exact⟨i,a,b,c⟩⟩,fun j hj hp=>h1.d j hj hp (R9 (n+j) (by omega))⟩
theorem BF (l:jn):∀(ps:List Piece) (k:Nat),(Xk l k ps).2=true->∃m:Nat,(Xk l k ps).1=⟨false,m⟩/\k<=m/\m < k+ps.length
 | [],k,h=>by cases h
 | p::ps,k,h=>by
  rw[Xk] at h ⊢
  by_cases c:BB l p=true
  ·rw[if_pos c]
   exact⟨k,rfl,Nat.le_refl _,by simp⟩
  rw[if_neg c] at h ⊢
  obtain⟨m,a,b,d⟩:=BF l ps (k+1) h
  exact⟨m,a,by omega,by simp only[List.length_cons];omega⟩
theorem BG (l:jn) (ps:List Piece):∀(bs:List en) (k:Nat),(Xc l ps k bs).2=true->(∃m:Nat,(Xc l ps k bs).1=⟨false,m⟩/\m < ps.length)\/∃m:Nat,(Xc l ps k bs).1=⟨true,m⟩/\k<=m/\m < k+bs.length/\eJ bs (m - k)=true
 | [],k,h=>by
  rw[Xc] at h ⊢
  obtain⟨m,a,_,b⟩:=BF l ps 0 h
  exact .inl ⟨m,a,by omega⟩
 | b::bs,k,h=>by
  rw[Xc] at h ⊢
  by_cases c:wP l b=true
  ·rw[if_pos c]
   simp only[wP,Bool.and_eq_true] at c
   exact .inr ⟨k,rfl,Nat.le_refl _,by simp,by rw[Nat.sub_self];exact c.1.1⟩
  rw[if_neg c] at h ⊢
  rcases BG l ps bs (k+1) h with⟨m,a,d⟩ | ⟨m,a,d,e,f⟩
  ·exact .inl ⟨m,a,d⟩
  refine .inr ⟨m,a,by omega,by simp only[List.length_cons];omega,?_⟩
  rw[show m - k=(m - (k+1))+1 by omega]
  exact f
theorem FY {bs:List en} {ps:List Piece} {s:(List Int×List Int)×List dc} (h:kx bs ps.length s) (l:jn) (ht:(oZ bs ps l).2=true):∃m k:Nat,(oZ bs ps l).1.num=m/\(if (oZ bs ps l).1.bore=true then s.1.2 else s.1.1)[m]?=some (k:Int)/\k < s.2.length:=by
 rcases BG l ps bs 0 ht with⟨m,a,d⟩ | ⟨m,a,_,d,e⟩
 ·obtain⟨k,g,h1,h2,_⟩:=h.a m d
  refine⟨m,k,by rw[oZ,a],?_,(List.getElem?_eq_some_iff.1 h2).1⟩
  rw[oZ,a];exact h1
 obtain⟨k,g,h1,h2,_⟩:=h.b m (by omega) e
 refine⟨m,k,by rw[oZ,a],?_,(List.getElem?_eq_some_iff.1 h2).1⟩
 rw[oZ,a];exact h1
end Reg
end Go.Proofs.YtpbkimanfahbgaaGreatDoor
