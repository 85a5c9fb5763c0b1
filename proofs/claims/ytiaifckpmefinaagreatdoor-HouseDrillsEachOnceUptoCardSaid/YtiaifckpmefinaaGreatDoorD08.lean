/- Part 8 of 11 of the proof of HouseDrillsEachOnce (the names are shortened by a program: the size of a claim is limited). -/
import Derived.Test.YtiaifckpmefinaaGreatDoorD07
import Derived.Lib.ItoaLen
import Derived.Lib.AppendIntMem
import Derived.Lib.SmallJoins
import Derived.DataShut
set_option linter.unusedVariables false
set_option linter.unusedSimpArgs false
set_option maxRecDepth 100000
set_option maxHeartbeats 8000000
namespace Go.Proofs.YtiaifckpmefinaaGreatDoor
namespace M
open Go.AM Go.RowKit Go.Lib
open aK (aG bB fa)
structure Place where
 part:ByteArray
 type:ByteArray
 x:Int
 y:Int
 quarters:Int
 below:Bool
def E_ (p:Place):List PV:=[str p.part,str p.type,i64 p.x,i64 p.y,i64 p.quarters,bool p.below]
def b0:Body:=⟨aX,0,0,0,aX⟩
def mc (l:List Body) (i:Nat):Int:=match l[i]? with
 | some x=>if dw x.name=true then (if dP x.w 1 100000=true then (if dP x.h 1 100000=true then (if dP x.tall 1 100000=true then (if dw x.nozzle=true then (if a7 (l.map Body.name) i=true then 8 else 0) else 5) else 1) else 1) else 1) else 5
 | none=>0
def dy (l:List Body):Int:=if 200 < l.length then 2 else aH (mc l) 0 l.length
def sA (l:List Body):Prop:=l.length<=1048576/\∀x∈l,aQ x.name/\aQ x.nozzle
structure zU (l:List Body):Prop where
 len:l.length<=200
 ord:bM Body.name l
theorem xK {l:List Body} (h:dy l=0):zU l:=by
 unfold dy at h
 split at h
 ·cases h
 refine⟨by omega,gn fun i hi=>?_⟩
 have h2:=cD h i (Nat.zero_le _) (by omega)
 obtain⟨x,hx⟩:=aj (l:=l) (i:=i) hi
 simp only[mc,hx] at h2
 cases e:a7 (l.map Body.name) i with
 | false=>rfl
 | true=>
      rw[e] at h2;repeat' split at h2
      all_goals first | (cases h2;done) | (rename_i h3;exact absurd rfl h3)
def nj (b:List Body) (x:Place):Int:=if kW x.part=true then (if cJ Body.name b x.type=true then (if (aK.nX x.x && aK.nX x.y)=true then (if dP x.quarters 0 3=true then 0 else 1) else 1) else 9) else 5
def lg (b:List Body) (l:List Place) (i:Nat):Int:=match l[i]? with
 | some x=>nh (nj b x) (if a7 (l.map Place.part) i=true then 8 else 0)
 | none=>0
def dz (b:List Body) (l:List Place):Int:=nh (dy b) (if 1000 < l.length then 2 else aH (lg b l) 0 l.length)
def xL (l:List Place):Prop:=l.length<=1048576/\∀x∈l,aQ x.part/\aQ x.type
theorem oB (l:List Body) (ho:sA l):af C 120 [.pv (.sl (l.map tr))] (.p (i64 (dy l))) []:=by
 refine ah hC Tryz.func120 rfl rfl 57 rfl (by decide) (by kernel_rfl) fun _ _ _ _ _=>?_
 have lm:=ai l tr
 (repeat refine yY Z ?_);refine iF Z (fun g1=>?_) (fun g1=>?_)
 ·(repeat refine yY Z ?_);refine aa zi (And.intro ?_ trivial)
  rw[dy,if_pos (by omega)];rfl
 rw[dy,if_neg (by omega)]
 (repeat refine yY Z ?_)
 refine ak (fun i:Nat=>i<=l.length/\∀k,k < i->mc l k=0) (fun i=>[(0,.p (.sl (l.map tr))),(8,.p (.sl (l.map tr))),(9,.p (i64 l.length)),(10,.p (i64 i))]) (fun _=>[]) (fun i=>l.length - i) 0 _ (aD.refl _ _) ⟨Nat.zero_le _,fun k h=>by omega⟩ ⟨rfl,rfl,congrArg (fun n:Nat=>AV.p (i64 n)) lm,Z,Y⟩ trivial fun i hi t h=>?_
 (repeat refine yY Z ?_);refine iF Z (fun h1=>?_) (fun h1=>?_)
 ·obtain⟨x,hx⟩:=aj (l:=l) (i:=i) (by omega)
  have cf:mc l i=(if dw x.name=true then (if dP x.w 1 100000=true then (if dP x.h 1 100000=true then (if dP x.tall 1 100000=true then (if dw x.nozzle=true then (if a7 (l.map Body.name) i=true then 8 else 0) else 5) else 1) else 1) else 1) else 5):=by simp only[mc,hx]
  (repeat refine yY Z ?_);refine zX zi ⟨(tr x),(idx rfl hx),?_⟩
  obtain⟨so,My⟩:=ho.2 x (List.mem_of_getElem? hx)
  (repeat refine yY Z ?_);refine zX zi ⟨_,_,(cB x.name so.le),?_⟩
  (repeat refine yY Z ?_);refine iF Z (fun a1=>?_) (fun a1=>?_)
  ·(repeat refine yY Z ?_);refine aa zi (And.intro ?_ trivial)
   rw[if_neg (by simp[a1])] at cf
   rw[au hi.2 (by omega) cf (by decide)];rfl
  rw[if_pos (by simpa using a1)] at cf
  (repeat refine yY Z ?_);refine zX zi ⟨_,_,(gN x.w 1 100000),?_⟩
  (repeat refine yY Z ?_);refine iF Z (fun a2=>?_) (fun a2=>?_)
  ·(repeat refine yY Z ?_);refine aa zi (And.intro ?_ trivial)
   rw[if_neg (by simp[a2])] at cf
   rw[au hi.2 (by omega) cf (by decide)];rfl
  rw[if_pos (by simpa using a2)] at cf
  (repeat refine yY Z ?_);refine zX zi ⟨_,_,(gN x.h 1 100000),?_⟩
  (repeat refine yY Z ?_);refine iF Z (fun a3=>?_) (fun a3=>?_)
  ·(repeat refine yY Z ?_);refine aa zi (And.intro ?_ trivial)
   rw[if_neg (by simp[a3])] at cf
   rw[au hi.2 (by omega) cf (by decide)];rfl
  rw[if_pos (by simpa using a3)] at cf
  (repeat refine yY Z ?_);refine zX zi ⟨_,_,(gN x.tall 1 100000),?_⟩
  (repeat refine yY Z ?_);refine iF Z (fun a4=>?_) (fun a4=>?_)
  ·(repeat refine yY Z ?_);refine aa zi (And.intro ?_ trivial)
   rw[if_neg (by simp[a4])] at cf
   rw[au hi.2 (by omega) cf (by decide)];rfl
  rw[if_pos (by simpa using a4)] at cf
  (repeat refine yY Z ?_);refine zX zi ⟨_,_,(cB x.nozzle My.le),?_⟩
  (repeat refine yY Z ?_);refine iF Z (fun a5=>?_) (fun a5=>?_)
  ·(repeat refine yY Z ?_);refine aa zi (And.intro ?_ trivial)
   rw[if_neg (by simp[a5])] at cf
   rw[au hi.2 (by omega) cf (by decide)];rfl
  rw[if_pos (by simpa using a5)] at cf
  (repeat refine yY Z ?_);refine c_ [] false vf rfl (by kernel_rfl) ?_;(repeat refine yY Z ?_);refine iF Z (fun o1=>?_) (fun o1=>?_)
  ·obtain⟨z,hz⟩:=aj (l:=l) (i:=i - 1) (by omega)
   rw[eW (f:=Body.name) hx hz (by omega)] at cf
   (repeat refine yY Z ?_);refine zA zi (And.intro ⟨by omega,by omega⟩ ?_)
   (repeat refine yY Z ?_);refine zX zi ⟨(tr z),(idx (show (i:Int) - 1=((i - 1:Nat):Int) by omega) hz),?_⟩
   (repeat refine yY Z ?_);refine iF Z (fun o2=>?_) (fun o2=>?_)
   ·(repeat refine yY Z ?_);refine aa zi (And.intro ?_ trivial)
    have o2:(ct (Body.name x) (Body.name z) || decide (Body.name x=Body.name z))=true:=by simpa [ct] using o2
    rw[o2,if_pos rfl] at cf
    rw[au hi.2 (by omega) cf (by decide)];rfl
   have o2:(ct (Body.name x) (Body.name z) || decide (Body.name x=Body.name z))=false:=by simpa [ct] using o2
   rw[o2,if_neg (by decide)] at cf
   (repeat refine yY Z ?_);refine zA zi (And.intro ⟨by omega,by omega⟩ ?_)
   (repeat refine yY Z ?_);refine ae ⟨(i+1),_,aD.refl _ _,?_⟩
   exact⟨⟨by omega,cc hi.2 cf⟩,by omega,⟨Z,Z,Z,Z,Y⟩,trivial⟩
  have h0:i=0:=by omega
  rw[iz h0,if_neg (by decide)] at cf
  (repeat refine yY Z ?_);refine zA zi (And.intro ⟨by omega,by omega⟩ ?_)
  (repeat refine yY Z ?_);refine ae ⟨(i+1),_,aD.refl _ _,?_⟩
  exact⟨⟨by omega,cc hi.2 cf⟩,by omega,⟨Z,Z,Z,Z,Y⟩,trivial⟩
 (repeat refine yY Z ?_);refine aa zi (And.intro ?_ trivial)
 have z0:aH (mc l) 0 l.length=0:=aT fun k _ hk=>hi.2 k (by omega)
 rw[z0];rfl
theorem vS (m:List Body) (y:ByteArray) (hs:bM Body.name m) (hN:m.length<=1000000):af C 121 [.pv (.sl (m.map tr)),.pv (str y)] (.tu [.ag (tr ((vR Body.name m y).getD b0)),bool (cJ Body.name m y)]) []:=by
 refine ah hC Tryz.func121 rfl rfl 21 rfl (by decide) (by kernel_rfl) fun _ _ _ _ _=>?_
 have hp:=gk (x:=y) hs
 (repeat refine yY Z ?_);refine zX zi ⟨_,_,(zL m y hs (by omega)),?_⟩
 (repeat refine yY Z ?_);refine iF Z (fun h1=>?_) (fun h1=>?_)
 ·(repeat refine yY Z ?_);refine aa zi (And.intro ?_ trivial)
  have h1:cJ Body.name m y=false:=by simpa using h1
  rw[ma h1,h1]
  rfl
 have h1:cJ Body.name m y=true:=by simpa using h1
 rw[if_pos h1] at hp
 obtain⟨k,x,e1,e2,e3,e4⟩:=jq h1
 (repeat refine yY Z ?_);refine zX zi ⟨(tr x),(idx (hp.symm.trans e1) e2),?_⟩
 (repeat refine yY Z ?_);refine aa zi (And.intro ?_ trivial)
 rw[e4,h1]
 rfl
theorem oC (b:List Body) (l:List Place) (hb:sA b) (ho:xL l):af C 47 [.pv (.sl (b.map tr)),.pv (.sl (l.map E_))] (.p (i64 (dz b l))) []:=by
 refine ah hC Tryz.func47 rfl rfl 66 rfl (by decide) (by kernel_rfl) fun _ _ _ _ _=>?_
 have lm:=ai l E_
 (repeat refine yY Z ?_);refine zX zi ⟨_,_,(oB b hb),?_⟩
 (repeat refine yY Z ?_);refine iF Z (fun g0=>?_) (fun g0=>?_)
 ·have g0:dy b≠0:=by simpa using g0
  (repeat refine yY Z ?_);refine aa zi (And.intro ?_ trivial)
  rw[dz,cL rfl g0]
 have g0:dy b=0:=by simpa using g0
 have gb:=xK g0
 have gl:=gb.len
 rw[dz,fj g0]
 (repeat refine yY Z ?_);refine iF Z (fun g1=>?_) (fun g1=>?_)
 ·(repeat refine yY Z ?_);refine aa zi (And.intro ?_ trivial)
  rw[if_pos (by omega)];rfl
 rw[if_neg (by omega)]
 (repeat refine yY Z ?_)
 refine ak (fun i:Nat=>i<=l.length/\∀k,k < i->lg b l k=0) (fun i=>[(0,.p (.sl (b.map tr))),(1,.p (.sl (l.map E_))),(18,.p (.sl (l.map E_))),(19,.p (i64 l.length)),(20,.p (i64 i))]) (fun _=>[]) (fun i=>l.length - i) 0 _ (aD.refl _ _) ⟨Nat.zero_le _,fun k h=>by omega⟩ ⟨rfl,rfl,rfl,congrArg (fun n:Nat=>AV.p (i64 n)) lm,Z,Y⟩ trivial fun i hi t h=>?_
 (repeat refine yY Z ?_);refine iF Z (fun h1=>?_) (fun h1=>?_)
 ·obtain⟨x,hx⟩:=aj (l:=l) (i:=i) (by omega)
  have cf:lg b l i=nh (nj b x) (if a7 (l.map Place.part) i=true then 8 else 0):=by simp only[lg,hx]
  (repeat refine yY Z ?_);refine zX zi ⟨(E_ x),(idx rfl hx),?_⟩
  obtain⟨so,My⟩:=ho.2 x (List.mem_of_getElem? hx)
  (repeat refine yY Z ?_);refine zX zi ⟨_,_,(vS b x.type gb.ord (by omega)),?_⟩
  (repeat refine yY Z ?_);refine zX zi ⟨_,_,(gL x.part so),?_⟩
  (repeat refine yY Z ?_);refine iF Z (fun a1=>?_) (fun a1=>?_)
  ·(repeat refine yY Z ?_);refine aa zi (And.intro ?_ trivial)
   rw[cL (c:=5) (by rw[nj,if_neg (by simp[a1])]) (by decide)] at cf
   rw[au hi.2 (by omega) cf (by decide)];rfl
  have a1:kW x.part=true:=by simpa using a1
  (repeat refine yY Z ?_);refine iF Z (fun a2=>?_) (fun a2=>?_)
  ·(repeat refine yY Z ?_);refine aa zi (And.intro ?_ trivial)
   rw[cL (c:=9) (by rw[nj,if_pos a1,if_neg (by simp[a2])]) (by decide)] at cf
   rw[au hi.2 (by omega) cf (by decide)];rfl
  have a2:cJ Body.name b x.type=true:=by simpa using a2
  (repeat refine yY Z ?_);refine zX zi ⟨_,_,(mI x.x x.y),?_⟩
  (repeat refine yY Z ?_);refine iF Z (fun a3=>?_) (fun a3=>?_)
  ·(repeat refine yY Z ?_);refine aa zi (And.intro ?_ trivial)
   rw[cL (c:=1) (by rw[nj,if_pos a1,if_pos a2,if_neg (by simp[a3])]) (by decide)] at cf
   rw[au hi.2 (by omega) cf (by decide)];rfl
  have a3:(aK.nX x.x && aK.nX x.y)=true:=by simpa using a3
  (repeat refine yY Z ?_);refine zX zi ⟨_,_,(gN x.quarters 0 3),?_⟩
  (repeat refine yY Z ?_);refine iF Z (fun a4=>?_) (fun a4=>?_)
  ·(repeat refine yY Z ?_);refine aa zi (And.intro ?_ trivial)
   rw[cL (c:=1) (by rw[nj,if_pos a1,if_pos a2,if_pos a3,if_neg (by simp[a4])]) (by decide)] at cf
   rw[au hi.2 (by omega) cf (by decide)];rfl
  rw[fj (by rw[nj,if_pos a1,if_pos a2,if_pos a3,if_pos (by simpa using a4)])] at cf
  (repeat refine yY Z ?_);refine c_ [] false vf rfl (by kernel_rfl) ?_;(repeat refine yY Z ?_);refine iF Z (fun o1=>?_) (fun o1=>?_)
  ·obtain⟨z,hz⟩:=aj (l:=l) (i:=i - 1) (by omega)
   rw[eW (f:=Place.part) hx hz (by omega)] at cf
   (repeat refine yY Z ?_);refine zA zi (And.intro ⟨by omega,by omega⟩ ?_)
   (repeat refine yY Z ?_);refine zX zi ⟨(E_ z),(idx (show (i:Int) - 1=((i - 1:Nat):Int) by omega) hz),?_⟩
   (repeat refine yY Z ?_);refine iF Z (fun o2=>?_) (fun o2=>?_)
   ·(repeat refine yY Z ?_);refine aa zi (And.intro ?_ trivial)
    have o2:(ct (Place.part x) (Place.part z) || decide (Place.part x=Place.part z))=true:=by simpa [ct] using o2
    rw[o2,if_pos rfl] at cf
    rw[au hi.2 (by omega) cf (by decide)];rfl
   have o2:(ct (Place.part x) (Place.part z) || decide (Place.part x=Place.part z))=false:=by simpa [ct] using o2
   rw[o2,if_neg (by decide)] at cf
   (repeat refine yY Z ?_);refine zA zi (And.intro ⟨by omega,by omega⟩ ?_)
   (repeat refine yY Z ?_);refine ae ⟨(i+1),_,aD.refl _ _,?_⟩
   exact⟨⟨by omega,cc hi.2 cf⟩,by omega,⟨Z,Z,Z,Z,Z,Y⟩,trivial⟩
  have h0:i=0:=by omega
  rw[iz h0,if_neg (by decide)] at cf
  (repeat refine yY Z ?_);refine zA zi (And.intro ⟨by omega,by omega⟩ ?_)
  (repeat refine yY Z ?_);refine ae ⟨(i+1),_,aD.refl _ _,?_⟩
  exact⟨⟨by omega,cc hi.2 cf⟩,by omega,⟨Z,Z,Z,Z,Z,Y⟩,trivial⟩
 (repeat refine yY Z ?_);refine aa zi (And.intro ?_ trivial)
 have z0:aH (lg b l) 0 l.length=0:=aT fun k _ hk=>hi.2 k (by omega)
 rw[z0];rfl
def nk (p:kA):Value:=.agg #[.string p.part,.string p.pin]
theorem qV (p q:kA):wo (nk p) (nk q)=decide (p=q):=by
 show (decide (p.part=q.part) && (decide (p.pin=q.pin) && true))=_
 rw[IY,Bool.eq_iff_iff,decide_eq_true_iff,decide_eq_true_iff]
 exact eq_comm
def gR (es:List (Value×PV)):Prop:=∀e∈es,∃p:kA,e.1=nk p
theorem qk {es:List (Value×PV)} {p:kA} {v:PV} (h:gR es):gR (gu es (nk p) v):=by
 induction es with
 | nil=>intro e he;rw[gu,List.mem_singleton] at he;exact⟨p,by rw[he]⟩
 | cons a r ih=>
  intro e he
  obtain⟨k',u⟩:=a
  rw[gu] at he
  split at he
  ·rcases List.mem_cons.1 he with h1 | h1
   ·exact⟨p,by rw[h1]⟩
   exact h e (List.mem_cons_of_mem _ h1)
  rcases List.mem_cons.1 he with h1 | h1
  ·exact h e (by rw[h1];exact List.mem_cons_self)
  exact ih (fun e he=>h e (List.mem_cons_of_mem _ he)) e h1
theorem EH {es:List (Value×PV)} (h:gR es) (p n:kA) (v:PV):fO (gu es (nk p) v) (nk n)=if n=p then some v else fO es (nk n):=by
 induction es with
 | nil=>
  simp only[gu,fO,qV]
  by_cases e:n=p <;> simp[e]
 | cons a r ih=>
  obtain⟨k',u⟩:=a
  obtain⟨q,hq⟩:=h (k',u) List.mem_cons_self
  have hq:k'=nk q:=hq
  subst hq
  have ih:=ih fun e he=>h e (List.mem_cons_of_mem _ he)
  simp only[gu,qV]
  by_cases e:p=q
  ·subst e
   simp only[decide_true,fO,qV]
   by_cases e2:n=p <;> simp[e2]
  rw[decide_eq_false e]
  simp only[fO,qV,ih]
  by_cases e2:n=q
  ·subst e2
   have e3:¬n=p:=fun h=>e h.symm
   simp[e3]
  rw[decide_eq_false e2]
def gA (es:List (Value×PV)):List kA->List (Value×PV)
 | []=>es
 | p::r=>gA (gu es (nk p) (bool true)) r
theorem ql (p:kA):∀(l:List kA) (es:List (Value×PV)),gA es (l++[p])=gu (gA es l) (nk p) (bool true)
 | [],_=>rfl
 | _::r,_=>ql p r _
theorem qm:∀(l:List kA) {es:List (Value×PV)},gR es->gR (gA es l)
 | [],_,h=>h
 | _::r,_,h=>qm r (qk h)
theorem xM (n:kA):∀(l:List kA) {es:List (Value×PV)},gR es->fO (gA es l) (nk n)=if (l.any fun q=>decide (q=n))=true then some (bool true) else fO es (nk n)
 | [],_,_=>rfl
 | p::r,es,h=>by
  rw[gA,xM n r (qk h),EH h,List.any_cons]
  by_cases e:n=p
  ·subst e;simp
  rw[if_neg e,decide_eq_false (fun e2=>e e2.symm),Bool.false_or]
theorem nm (t:List aO) (x:tv) (l:List kA) (es:List (Value×PV)) (seen:kA->Bool) (ht:jo t) (hp:l9 t x.parts) (hk:gR es) (hs:∀p:kA,fO es (nk p)=if seen p=true then some (bool true) else none) (hN:l.length<=140737488355328):
  af C 108 [.pv (.sl (l.map vF)),.pv (.fn 109 [.ip [.sl (t.map nz)],.ip (E9 x)]),.map (.st [0,0]) es] (.p (i64 (cX t x.parts seen l))) [.map (if cX t x.parts seen l=0 then gA es l else es)]:=by
 refine ah hC Tryz.func108 rfl rfl 53 rfl (by decide) (by kernel_rfl) fun _ _ _ _ _=>?_
 have lm:=ai l vF
 (repeat refine yY Z ?_);refine iF Z (fun g1=>?_) (fun g1=>?_)
 ·have e:cX t x.parts seen l=2:=by rw[cX,if_pos (by omega)]
  (repeat refine yY Z ?_);refine aa zi ?_
  refine⟨?_,?_,trivial⟩
  all_goals first | (rw[e];rfl) | (rw[e,if_neg (by decide)])
 have Lv:cX t x.parts seen l=aH (vJ t x.parts seen l) 0 l.length:=by rw[cX,if_neg (by omega)]
 rw[Lv]
 (repeat refine yY Z ?_)
 refine ak (fun i:Nat=>i<=l.length/\∀k,k < i->vJ t x.parts seen l k=0) (fun i=>[(0,.p (.sl (l.map vF))),(1,.p (.fn 109 [.ip [.sl (t.map nz)],.ip (E9 x)])),(2,.ow 100002),(14,.p (.sl (l.map vF))),(15,.p (i64 l.length)),(16,.p (i64 i))]) (fun _=>[(100002,.map (.st [0,0]) es)]) (fun i=>l.length - i) 0 _ (aD.refl _ _) ⟨Nat.zero_le _,fun k h=>by omega⟩ ⟨rfl,rfl,rfl,rfl,congrArg (fun n:Nat=>AV.p (i64 n)) lm,Z,Y⟩ ⟨Z,Y⟩ fun i hi tt h=>?_
 (repeat refine yY Z ?_);refine iF Z (fun h1=>?_) (fun h1=>?_)
 ·obtain⟨p,hx⟩:=aj (l:=l) (i:=i) (by omega)
  have cf:vJ t x.parts seen l i=(if jY t x.parts p=true then (if sn l i=true then 8 else if seen p=true then 7 else 0) else 9):=by simp only[vJ,hx]
  have q:=hs p
  have bad:∀{c:Int},vJ t x.parts seen l i=c->c≠0->aH (vJ t x.parts seen l) 0 l.length=c:=fun e h0=>au hi.2 (by omega) e h0
  (repeat refine yY Z ?_);refine zX zi ⟨(vF p),(idx rfl hx),?_⟩
  (repeat refine yY Z ?_);refine zX zi ⟨_,_,(Cx t x p ht hp),?_⟩
  (repeat refine yY Z ?_);refine iF Z (fun a1=>?_) (fun a1=>?_)
  ·rw[if_neg (by simp[a1])] at cf
   (repeat refine yY Z ?_);refine aa zi ?_
   refine⟨?_,?_,trivial⟩
   all_goals first | (rw[bad cf (by decide)];rfl) | (rw[bad cf (by decide),if_neg (by decide)])
  rw[if_pos (by simpa using a1)] at cf
  have tail:sn l i=false->vJ t x.parts seen l i=(if seen p=true then 7 else 0):=fun h0=>by rw[cf,h0,if_neg (by decide)]
  (repeat refine yY Z ?_);refine c_ [] false IF rfl (by kernel_rfl) ?_;(repeat refine yY Z ?_);refine iF Z (fun a2=>?_) (fun a2=>?_)
  ·obtain⟨z,hz⟩:=aj (l:=l) (i:=i - 1) (by omega)
   have hu:=Ls hx hz (by omega)
   have hc:=Gh p z
   (repeat refine yY Z ?_);refine zA zi (And.intro ⟨by omega,by omega⟩ ?_)
   (repeat refine yY Z ?_);refine zX zi ⟨(vF z),(idx (show (i:Int) - 1=((i - 1:Nat):Int) by omega) hz),?_⟩
   (repeat refine yY Z ?_);refine zX zi ⟨_,_,(ov p z),?_⟩
   (repeat refine yY Z ?_);refine iF Z (fun a3=>?_) (fun a3=>?_)
   ·rw[hu,hc.1 a3,if_pos (by decide)] at cf
    (repeat refine yY Z ?_);refine aa zi ?_
    refine⟨?_,?_,trivial⟩
    all_goals first | (rw[bad cf (by decide)];rfl) | (rw[bad cf (by decide),if_neg (by decide)])
   have a4:JS z p=true:=by
    cases e:JS z p with
    | true=>rfl
    | false=>exact absurd (hc.2 e) a3
   have cf:=tail (by rw[hu,a4];rfl)
   cases hS:seen p with
   | true=>
    rw[hS] at q cf
    rw[if_pos rfl] at cf
    (repeat refine yY Z ?_);refine zX zi ⟨(some (bool true)),q,?_⟩
    (repeat refine yY Z ?_);refine aa zi ?_
    refine⟨?_,?_,trivial⟩
    all_goals first | (rw[bad cf (by decide)];rfl) | (rw[bad cf (by decide),if_neg (by decide)])
   | false=>
    rw[hS] at q cf
    rw[if_neg (by decide)] at cf
    (repeat refine yY Z ?_);refine zX zi ⟨none,q,?_⟩
    (repeat refine yY Z ?_);refine zA zi (And.intro ⟨by omega,by omega⟩ ?_)
    (repeat refine yY Z ?_);refine ae ⟨(i+1),_,aD.refl _ _,?_⟩
    exact⟨⟨by omega,cc hi.2 cf⟩,by omega,⟨Z,Z,Z,Z,Z,Z,Y⟩,⟨Z,Y⟩⟩
  have cf:=tail (OM (by omega))
  cases hS:seen p with
  | true=>
   rw[hS] at q cf
   rw[if_pos rfl] at cf
   (repeat refine yY Z ?_);refine zX zi ⟨(some (bool true)),q,?_⟩
   (repeat refine yY Z ?_);refine aa zi ?_
   refine⟨?_,?_,trivial⟩
   all_goals first | (rw[bad cf (by decide)];rfl) | (rw[bad cf (by decide),if_neg (by decide)])
  | false=>
   rw[hS] at q cf
   rw[if_neg (by decide)] at cf
   (repeat refine yY Z ?_);refine zX zi ⟨none,q,?_⟩
   (repeat refine yY Z ?_);refine zA zi (And.intro ⟨by omega,by omega⟩ ?_)
   (repeat refine yY Z ?_);refine ae ⟨(i+1),_,aD.refl _ _,?_⟩
   exact⟨⟨by omega,cc hi.2 cf⟩,by omega,⟨Z,Z,Z,Z,Z,Z,Y⟩,⟨Z,Y⟩⟩
 have z0:aH (vJ t x.parts seen l) 0 l.length=0:=aT fun k _ hk=>hi.2 k (by omega)
 rw[z0,if_pos rfl]
 (repeat refine yY Z ?_)
 refine ak (fun i:Nat=>i<=l.length) (fun i=>[(2,.ow 100002),(44,.p (.sl (l.map vF))),(45,.p (i64 l.length)),(46,.p (i64 i))]) (fun i=>[(100002,.map (.st [0,0]) (gA es (l.take i)))]) (fun i=>l.length - i) 0 _ (aD.refl _ _) (Nat.zero_le _) ⟨rfl,rfl,congrArg (fun n:Nat=>AV.p (i64 n)) lm,Z,Y⟩ ⟨Z,Y⟩ fun i hi tt h=>?_
 (repeat refine yY Z ?_);refine iF Z (fun h2=>?_) (fun h2=>?_)
 ·obtain⟨p,hx⟩:=aj (l:=l) (i:=i) (by omega)
  have Fp:=ql p (l.take i) es
  rw[<-aN hx] at Fp
  (repeat refine yY Z ?_);refine zX zi ⟨(vF p),(idx rfl hx),?_⟩
  (repeat refine yY Z ?_);refine zA zi (And.intro ⟨by omega,by omega⟩ ?_)
  (repeat refine yY Z ?_);refine ae ⟨(i+1),_,aD.refl _ _,?_⟩
  exact⟨by omega,by omega,⟨Z,Z,Z,Z,Y⟩,⟨by rw[Fp];rfl,trivial⟩⟩
 have e:l.take i=l:=List.take_of_length_le (by omega)
 (repeat refine yY Z ?_);refine aa zi ?_
 refine⟨?_,?_,trivial⟩
 all_goals first | rfl | (rw[e];rfl)
def Cz (t:List aO) (x:tv) (i:Nat):Int:=match x.nets[i]? with
 | some n=>if kW n.name=true then (if n.pins.length=0 then 9 else nh (cX t x.parts (dC (x.nets.take i)) n.pins) (if 0 < n.ports.length then 3 else if a7 (x.nets.map Net.name) i=true then 8 else 0)) else 5
 | none=>0
def pE (t:List aO) (x:tv):Int:=if 1000 < x.nets.length then 2 else aH (Cz t x) 0 x.nets.length
def fq (t:List aO) (x:tv):Int:=nh (cm t) (nh (d_ t x.parts) (pE t x))
structure vT (x:tv):Prop where
 parts:x.parts.length<=1048576/\∀p∈x.parts,aQ p.name/\aQ p.type
 nets:x.nets.length<=1048576/\∀n∈x.nets,aQ n.name/\n.pins.length<=1048576/\n.ports.length<=1048576
theorem Gl {t:List aO} {y:ByteArray} (h:fy aO.name t y < 0):¬cJ aO.name t y=true:=fun e=>by
 have:=iy (f:=aO.name) (l:=t) (x:=y)
 rw[decide_eq_true h,e] at this
 cases this
theorem Gm {t:List aO} {y:ByteArray} (h:¬fy aO.name t y < 0):cJ aO.name t y=true:=by
 have:=iy (f:=aO.name) (l:=t) (x:=y)
 rw[decide_eq_false h] at this
 cases e:cJ aO.name t y with
 | true=>rfl
 | false=>rw[e] at this;cases this
theorem pF (t:List aO) (l:List Part) (ht:jo t) (hN:l.length<=1048576) (ho:∀p∈l,aQ p.name/\aQ p.type):af C 106 [.pv (.sl (t.map nz)),.pv (.sl (l.map uf)),.pv (CU 107)] (.p (i64 (d_ t l))) []:=by
 refine ah hC Tryz.func106 rfl rfl 46 rfl (by decide) (by kernel_rfl) fun _ _ _ _ _=>?_
 have lm:=ai l uf
 have dS:=ht.len
 (repeat refine yY Z ?_);refine iF Z (fun g1=>?_) (fun g1=>?_)
 ·(repeat refine yY Z ?_);refine aa zi (And.intro ?_ trivial)
  rw[d_,if_pos (by omega)];rfl
 rw[d_,if_neg (by omega)]
 (repeat refine yY Z ?_)
 refine ak (fun i:Nat=>i<=l.length/\∀k,k < i->l8 t l k=0) (fun i=>[(0,.p (.sl (t.map nz))),(1,.p (.sl (l.map uf))),(2,.p (CU 107)),(12,.p (.sl (l.map uf))),(13,.p (i64 l.length)),(14,.p (i64 i))]) (fun _=>[]) (fun i=>l.length - i) 0 _ (aD.refl _ _) ⟨Nat.zero_le _,fun k h=>by omega⟩ ⟨rfl,rfl,rfl,rfl,congrArg (fun n:Nat=>AV.p (i64 n)) lm,Z,Y⟩ trivial fun i hi tt h=>?_
 (repeat refine yY Z ?_);refine iF Z (fun h1=>?_) (fun h1=>?_)
 ·obtain⟨x,hx⟩:=aj (l:=l) (i:=i) (by omega)
  have cf:l8 t l i=(if kW x.name=true then (if cJ aO.name t x.type=true then (if a7 (l.map Part.name) i=true then 8 else 0) else 9) else 5):=by simp only[l8,hx]
  obtain⟨so,My⟩:=ho x (List.mem_of_getElem? hx)
  (repeat refine yY Z ?_);refine zX zi ⟨(uf x),(idx rfl hx),?_⟩
  (repeat refine yY Z ?_);refine zX zi ⟨_,_,(gL x.name so),?_⟩
  (repeat refine yY Z ?_);refine iF Z (fun a1=>?_) (fun a1=>?_)
  ·(repeat refine yY Z ?_);refine aa zi (And.intro ?_ trivial)
   rw[if_neg (by simp[a1])] at cf
   rw[au hi.2 (by omega) cf (by decide)];rfl
  rw[if_pos (by simpa using a1)] at cf
  (repeat refine yY Z ?_);refine zX zi ⟨_,_,(jW t x.type ht.ord (by omega)),?_⟩
  (repeat refine yY Z ?_);refine iF Z (fun a2=>?_) (fun a2=>?_)
  ·(repeat refine yY Z ?_);refine aa zi (And.intro ?_ trivial)
   rw[if_neg (Gl a2)] at cf
   rw[au hi.2 (by omega) cf (by decide)];rfl
  rw[if_pos (Gm a2)] at cf
  (repeat refine yY Z ?_);refine c_ [] false vf rfl (by kernel_rfl) ?_;(repeat refine yY Z ?_);refine iF Z (fun o1=>?_) (fun o1=>?_)
  ·obtain⟨z,hz⟩:=aj (l:=l) (i:=i - 1) (by omega)
   rw[eW (f:=Part.name) hx hz (by omega)] at cf
   (repeat refine yY Z ?_);refine zA zi (And.intro ⟨by omega,by omega⟩ ?_)
   (repeat refine yY Z ?_);refine zX zi ⟨(uf z),(idx (show (i:Int) - 1=((i - 1:Nat):Int) by omega) hz),?_⟩
   (repeat refine yY Z ?_);refine iF Z (fun o2=>?_) (fun o2=>?_)
   ·(repeat refine yY Z ?_);refine aa zi (And.intro ?_ trivial)
    have o2:(ct (Part.name x) (Part.name z) || decide (Part.name x=Part.name z))=true:=by simpa [ct] using o2
    rw[o2,if_pos rfl] at cf
    rw[au hi.2 (by omega) cf (by decide)];rfl
   have o2:(ct (Part.name x) (Part.name z) || decide (Part.name x=Part.name z))=false:=by simpa [ct] using o2
   rw[o2,if_neg (by decide)] at cf
   (repeat refine yY Z ?_);refine zA zi (And.intro ⟨by omega,by omega⟩ ?_)
   (repeat refine yY Z ?_);refine ae ⟨(i+1),_,aD.refl _ _,?_⟩
   exact⟨⟨by omega,cc hi.2 cf⟩,by omega,⟨Z,Z,Z,Z,Z,Z,Y⟩,trivial⟩
  have h0:i=0:=by omega
  rw[iz h0,if_neg (by decide)] at cf
  (repeat refine yY Z ?_);refine zA zi (And.intro ⟨by omega,by omega⟩ ?_)
  (repeat refine yY Z ?_);refine ae ⟨(i+1),_,aD.refl _ _,?_⟩
  exact⟨⟨by omega,cc hi.2 cf⟩,by omega,⟨Z,Z,Z,Z,Z,Z,Y⟩,trivial⟩
 (repeat refine yY Z ?_);refine aa zi (And.intro ?_ trivial)
 have z0:aH (l8 t l) 0 l.length=0:=aT fun k _ hk=>hi.2 k (by omega)
 rw[z0];rfl
theorem qG (t:List aO) (x:tv) (Rb:vI t) (Rc:vT x):af C 42 [.pv (.sl (t.map nz)),.pv (.ag (E9 x))] (.p (i64 (fq t x))) []:=by
 refine ah hC Tryz.func42 rfl rfl 71 rfl (by decide) (by kernel_rfl) fun _ _ _ _ _=>?_
 have lm:=ai x.nets Gg
 obtain⟨⟨Lm,AG⟩,Pd,Mc⟩:=Rc
 (repeat refine yY Z ?_);refine zX zi ⟨_,_,(pz t Rb),?_⟩
 (repeat refine yY Z ?_);refine iF Z (fun g1=>?_) (fun g1=>?_)
 ·have g1:cm t≠0:=by simpa using g1
  (repeat refine yY Z ?_);refine aa zi (And.intro ?_ trivial)
  rw[fq,cL rfl g1]
 have g1:cm t=0:=by simpa using g1
 have ht:=sk g1
 rw[fq,fj g1]
 (repeat refine yY Z ?_);refine zX zi ⟨_,_,(pF t x.parts ht Lm AG),?_⟩
 (repeat refine yY Z ?_);refine iF Z (fun g2=>?_) (fun g2=>?_)
 ·have g2:d_ t x.parts≠0:=by simpa using g2
  (repeat refine yY Z ?_);refine aa zi (And.intro ?_ trivial)
  rw[cL rfl g2]
 have g2:d_ t x.parts=0:=by simpa using g2
 have hp:=zM g2
 rw[fj g2]
 (repeat refine yY Z ?_);refine iF Z (fun g3=>?_) (fun g3=>?_)
 ·(repeat refine yY Z ?_);refine aa zi (And.intro ?_ trivial)
  rw[pE,if_pos (by omega)];rfl
 rw[pE,if_neg (by omega)]
 (repeat refine yY Z ?_)
 refine ak (fun p:Nat×List (Value×PV)=>p.1<=x.nets.length/\(∀k,k < p.1->Cz t x k=0)/\gR p.2/\∀q:kA,fO p.2 (nk q)=if dC (x.nets.take p.1) q=true then some (bool true) else none) (fun p=>[(2,.p (.ip [.sl (t.map nz)])),(3,.p (.ip (E9 x))),(7,.ow 27),(29,.p (.sl (x.nets.map Gg))),(30,.p (i64 x.nets.length)),(31,.p (i64 p.1))]) (fun p=>[(27,.map (.st [0,0]) p.2)]) (fun p=>x.nets.length - p.1) (0,[]) _ (aD.trans (aD.eh hC _ 2 (y:=.ip [.sl (t.map nz)]) (fz:=[(2,.gC [.sl (t.map nz)])]) ⟨rfl,rfl⟩) (aD.eh hC _ 3 (y:=.ip (E9 x)) (fz:=[(3,.gC (E9 x))]) ⟨rfl,rfl⟩)) ⟨Nat.zero_le _,fun k h=>by simp only at h;omega,fun e he=>(by cases he),fun q=>rfl⟩ ⟨rfl,rfl,rfl,rfl,congrArg (fun n:Nat=>AV.p (i64 n)) lm,Z,Y⟩ ⟨Z,Y⟩ fun ⟨i,es⟩ hi tt h=>?_
 obtain⟨q1,q2,q3,q4⟩:=hi
 simp only at q1 q2 q3 q4
 (repeat refine yY Z ?_);refine iF Z (fun h1=>?_) (fun h1=>?_) <;> try simp only[zB] at h1
 ·obtain⟨n,hx⟩:=aj (l:=x.nets) (i:=i) (by omega)
  have cf:Cz t x i=(if kW n.name=true then (if n.pins.length=0 then 9 else nh (cX t x.parts (dC (x.nets.take i)) n.pins) (if 0 < n.ports.length then 3 else if a7 (x.nets.map Net.name) i=true then 8 else 0)) else 5):=by simp only[Cz,hx]
  obtain⟨so,sp,sq⟩:=Mc n (List.mem_of_getElem? hx)
  have lp:=ai n.pins vF
  have lq:=ai n.ports fun s=>[str s]
  have bad:∀{c:Int},Cz t x i=c->c≠0->aH (Cz t x) 0 x.nets.length=c:=fun e h0=>au q2 (by omega) e h0
  (repeat refine yY Z ?_);refine zX zi ⟨(Gg n),(idx rfl hx),?_⟩
  (repeat refine yY Z ?_);refine zX zi ⟨_,_,(gL n.name so),?_⟩
  (repeat refine yY Z ?_);refine iF Z (fun a1=>?_) (fun a1=>?_)
  ·(repeat refine yY Z ?_);refine aa zi (And.intro ?_ trivial)
   rw[if_neg (by simp[a1])] at cf
   rw[bad cf (by decide)];rfl
  rw[if_pos (by simpa using a1)] at cf
  (repeat refine yY Z ?_);refine iF Z (fun a2=>?_) (fun a2=>?_)
  ·have a2:(((n.pins.map vF).length:Nat):Int)=0:=a2
   (repeat refine yY Z ?_);refine aa zi (And.intro ?_ trivial)
   rw[if_pos (by omega)] at cf
   rw[bad cf (by decide)];rfl
  have a2:¬(((n.pins.map vF).length:Nat):Int)=0:=a2
  rw[if_neg (by omega)] at cf
  (repeat refine yY Z ?_);refine zX zi ⟨_,_,(nm t x n.pins es (dC (x.nets.take i)) ht hp q3 q4 (by omega)),?_⟩
  (repeat refine yY Z ?_);refine iF Z (fun a3=>?_) (fun a3=>?_)
  ·have a3:cX t x.parts (dC (x.nets.take i)) n.pins≠0:=by simpa using a3
   (repeat refine yY Z ?_);refine aa zi (And.intro ?_ trivial)
   rw[cL rfl a3] at cf
   rw[bad cf a3]
  have a3:cX t x.parts (dC (x.nets.take i)) n.pins=0:=by simpa using a3
  rw[fj a3] at cf
  (repeat refine yY Z ?_);refine iF Z (fun a4=>?_) (fun a4=>?_)
  ·(repeat refine yY Z ?_);refine aa zi (And.intro ?_ trivial)
   rw[if_pos (by omega)] at cf
   rw[bad cf (by decide)];rfl
  rw[if_neg (by omega)] at cf
  have keys:gR (if cX t x.parts (dC (x.nets.take i)) n.pins=0 then gA es n.pins else es):=by rw[if_pos a3];exact qm _ q3
  have Lw:∀q:kA,fO (if cX t x.parts (dC (x.nets.take i)) n.pins=0 then gA es n.pins else es) (nk q)=if dC (x.nets.take (i+1)) q=true then some (bool true) else none:=fun q=>by
   rw[if_pos a3,xM q _ q3,q4 q,aN hx]
   have e:dC (x.nets.take i++[n]) q=(dC (x.nets.take i) q || n.pins.any fun p=>decide (p=q)):=by simp[dC]
   rw[e]
   cases (n.pins.any fun p=>decide (p=q)) <;> cases dC (x.nets.take i) q <;> rfl
  (repeat refine yY Z ?_);refine c_ [] false vf rfl (by kernel_rfl) ?_;(repeat refine yY Z ?_);refine iF Z (fun o1=>?_) (fun o1=>?_) <;> try simp only[zB] at o1
  ·obtain⟨z,hz⟩:=aj (l:=x.nets) (i:=i - 1) (by omega)
   rw[eW (f:=Net.name) hx hz (by omega)] at cf
   (repeat refine yY Z ?_);refine zA zi (And.intro ⟨by omega,by omega⟩ ?_)
   (repeat refine yY Z ?_);refine zX zi ⟨(Gg z),(idx (show (i:Int) - 1=((i - 1:Nat):Int) by omega) hz),?_⟩
   (repeat refine yY Z ?_);refine iF Z (fun o2=>?_) (fun o2=>?_)
   ·(repeat refine yY Z ?_);refine aa zi (And.intro ?_ trivial)
    have o2:(ct (Net.name n) (Net.name z) || decide (Net.name n=Net.name z))=true:=by simpa [ct] using o2
    rw[o2,if_pos rfl] at cf
    rw[bad cf (by decide)];rfl
   have o2:(ct (Net.name n) (Net.name z) || decide (Net.name n=Net.name z))=false:=by simpa [ct] using o2
   rw[o2,if_neg (by decide)] at cf
   (repeat refine yY Z ?_);refine zA zi (And.intro ⟨by dsimp only;omega,by dsimp only;omega⟩ ?_)
   (repeat refine yY Z ?_);refine ae ⟨(i+1,if cX t x.parts (dC (x.nets.take i)) n.pins=0 then gA es n.pins else es),_,aD.refl _ _,?_⟩
   exact⟨⟨by dsimp only;omega,cc q2 cf,keys,Lw⟩,by dsimp only;omega,⟨Z,Z,Z,Z,Z,Z,Y⟩,⟨Z,Y⟩⟩
  rw[iz (by omega),if_neg (by decide)] at cf
  (repeat refine yY Z ?_);refine zA zi (And.intro ⟨by dsimp only;omega,by dsimp only;omega⟩ ?_)
  (repeat refine yY Z ?_);refine ae ⟨(i+1,if cX t x.parts (dC (x.nets.take i)) n.pins=0 then gA es n.pins else es),_,aD.refl _ _,?_⟩
  exact⟨⟨by dsimp only;omega,cc q2 cf,keys,Lw⟩,by dsimp only;omega,⟨Z,Z,Z,Z,Z,Z,Y⟩,⟨Z,Y⟩⟩
 (repeat refine yY Z ?_);refine aa zi (And.intro ?_ trivial)
 rw[aT fun k _ hk=>q2 k (by omega)];rfl
structure mw where
 pin:ByteArray
 x:Int
 y:Int
structure ll where
 type:ByteArray
 spots:List mw
structure lr where
 x:Int
 y:Int
 size:Int
 lo:Int
 hi:Int
 plated:Bool
structure Order where
 types:List aO
 list:tv
 mats:List cu
 stack:List Lay
 plots:List fG
 outline:fG
 bores:List lr
 bodies:List Body
 places:List Place
 feet:List ll
 rules:mK
def xN (s:mw):List PV:=[str s.pin,i64 s.x,i64 s.y]
def Fa (f:ll):List PV:=[str f.type,.sl (f.spots.map xN)]
def oD (b:lr):List PV:=[i64 b.x,i64 b.y,i64 b.size,i64 b.lo,i64 b.hi,bool b.plated]
def sR (o:Order):List PV:=[.sl (o.types.map nz),.sl (o.list.parts.map uf),.sl (o.list.nets.map Gg),.sl (o.mats.map l7),.sl (o.stack.map mM),.sl (o.plots.map fun p=>du p),i64 o.outline.unit,.sl (o.outline.tools.map yk),.sl o.outline.steps.rows,.sl (o.bores.map oD),.sl (o.bodies.map tr),.sl (o.places.map E_),.sl (o.feet.map Fa),i64 o.rules.clearance,i64 o.rules.width,i64 o.rules.ring,i64 o.rules.edge,i64 o.rules.holeGap,.sl (o.rules.classes.map kl),.sl (o.rules.areas.map arr)]
structure iU (o:Order):Prop where
 types:vI o.types
 list:vT o.list
 mats:pC o.mats
 stack:oA o.stack
 plots:o.plots.length<=1048576/\∀p∈o.plots,ni p
 outline:ni o.outline
 bores:o.bores.length<=1048576
 bodies:sA o.bodies
 places:xL o.places
 feet:o.feet.length<=1048576/\∀f∈o.feet,aQ f.type/\f.spots.length<=1048576/\∀s∈f.spots,aQ s.pin
 rules:om o.rules
theorem xO {t:List aO} (h:cm t=0):∀x∈t,¬x.name=aX:=fun x hx e=>by
 unfold cm at h
 split at h
 ·cases h
 obtain⟨k,hk⟩:=List.mem_iff_getElem?.1 hx
 have h2:=cD h k (Nat.zero_le _) (by rw[Nat.zero_add];exact (List.getElem?_eq_some_iff.1 hk).1)
 simp only[gO,hk] at h2
 have h3:=(dZ h2).1
 rw[qi,e] at h3
 have h4:dw aX=false:=by decide
 rw[h4] at h3
 cases h3
def Bk (t:List aO) (x:ByteArray):List cG:=match vR aO.name t x with
 | some y=>y.pins
 | none=>[]
def iV (pins:List cG) (l:List mw) (k:Nat):Int:=match l[k]? with
 | some x=>if cJ cG.name pins x.pin=true then (if dP x.x (-100000) 100000=true then (if dP x.y (-100000) 100000=true then (if a7 (l.map mw.pin) k=true then 8 else 0) else 1) else 1) else 9
 | none=>0
def gS (t:List aO) (l:List ll) (i:Nat):Int:=match l[i]? with
 | some f=>if cJ aO.name t f.type=true then (if 200 < f.spots.length then 2 else nh (aH (iV (Bk t f.type) f.spots) 0 f.spots.length) (if a7 (l.map ll.type) i=true then 8 else 0)) else 9
 | none=>0
def fu (t:List aO) (l:List ll):Int:=if 200 < l.length then 2 else aH (gS t l) 0 l.length
def bX (s:List Lay):Nat:=(s.filter fun l=>!decide (l.name=aX)).length
theorem sB {s:List Lay} {i:Nat} {l:Lay} (h:s[i]?=some l):bX (s.take (i+1))=bX (s.take i)+(if l.name=aX then 0 else 1):=by
 unfold bX
 rw[aN h,List.filter_append,List.length_append]
 congr 1
 by_cases e:l.name=aX <;> simp[e]
theorem lu (s:List Lay):bX s<=s.length:=List.length_filter_le _ _
def Lx (l:List UInt8):ByteArray:=⟨l.toArray⟩
theorem zV (n:Int) (h:-9223372036854775808<=n/\n<=9223372036854775807):af C 23 [.pv (i64 n)] (.p (str (Lx (Lib.itoa n)))) []:=
 pk [.int .i64 n] (.string (Lx (Lib.itoa n))) ⟨_,Tryz.func23,by decide,rfl⟩ fun S w hE hS=>by
  refine (Tryz.strconv_Itoa n h.1 h.2 w hE.2.2.2).mono ?_
  rintro e w' ⟨rfl,k,os,rfl⟩
  exact⟨rfl,Lib.below_grow _ _ (Nat.le_refl _) k os⟩
def CA (s:ByteArray) (f:Int):List PV:=if f=0 then [i64 0,str aX] else [i64 f,str s]
theorem ed (s:ByteArray) (f:Int):af C 43 [.pv (str s),.pv (i64 f)] (.p (.ag (CA s f))) []:=by
 refine ah hC Tryz.func43 rfl rfl 11 rfl (by decide) (by kernel_rfl) fun _ _ _ _ _=>?_
 (repeat refine yY Z ?_);refine iF Z (fun h=>?_) (fun h=>?_)
 ·(repeat refine yY Z ?_);refine aa zi (And.intro ?_ trivial)
  rw[CA,if_pos h];rfl
 (repeat refine yY Z ?_);refine aa zi (And.intro ?_ trivial)
 rw[CA,if_neg h];rfl
theorem oE (f:Int) (s:ByteArray):af C 27 [.pv (.ag [i64 f,str s])] (.p (bool (!decide (f=0)))) []:=by
 refine ah hC Tryz.func27 rfl rfl 6 rfl (by decide) (by kernel_rfl) fun _ _ _ _ _=>?_
 (repeat refine yY Z ?_);refine aa zi (And.intro ?_ trivial)
 rfl
theorem mN (o:Order) (hN:o.stack.length<=1048576):af C 45 [.pv (.ag (sR o))] (.p (i64 (bX o.stack))) []:=by
 refine ah hC Tryz.func45 rfl rfl 20 rfl (by decide) (by kernel_rfl) fun _ _ _ _ _=>?_
 have lm:=ai o.stack mM
 (repeat refine yY Z ?_)
 refine ak (fun i:Nat=>i<=o.stack.length) (fun i=>[(3,.p (i64 (bX (o.stack.take i)))),(7,.p (.sl (o.stack.map mM))),(8,.p (i64 o.stack.length)),(9,.p (i64 i))]) (fun _=>[]) (fun i=>o.stack.length - i) 0 _ (aD.refl _ _) (Nat.zero_le _) ⟨rfl,rfl,congrArg (fun n:Nat=>AV.p (i64 n)) lm,Z,Y⟩ trivial fun i hi t h=>?_
 have hle:=lu (o.stack.take i)
 rw[List.length_take] at hle
 (repeat refine yY Z ?_);refine iF Z (fun h1=>?_) (fun h1=>?_)
 ·obtain⟨l,hl⟩:=aj (l:=o.stack) (i:=i) (by omega)
  have hs:=sB hl
  (repeat refine yY Z ?_);refine zX zi ⟨(mM l),(idx rfl hl),?_⟩
  (repeat refine yY Z ?_);refine iF Z (fun h2=>?_) (fun h2=>?_)
  ·have h2:¬l.name=aX:=h2
   rw[if_neg h2] at hs
   (repeat refine yY Z ?_);refine zA zi (And.intro ⟨by omega,by omega⟩ ?_)
   (repeat refine yY Z ?_);refine zA zi (And.intro ⟨by omega,by omega⟩ ?_)
   (repeat refine yY Z ?_);refine ae ⟨(i+1),_,aD.refl _ _,?_⟩
   exact⟨by omega,by omega,⟨aS (by rw[hs];rfl),Z,Z,Z,Y⟩,trivial⟩
  have h2:l.name=aX:=by simpa [aX] using h2
  rw[if_pos h2] at hs
  (repeat refine yY Z ?_);refine zA zi (And.intro ⟨by omega,by omega⟩ ?_)
  (repeat refine yY Z ?_);refine ae ⟨(i+1),_,aD.refl _ _,?_⟩
  exact⟨by omega,by omega,⟨aS (by rw[hs];rfl),Z,Z,Z,Y⟩,trivial⟩
 have e:o.stack.take i=o.stack:=List.take_of_length_le (by omega)
 (repeat refine yY Z ?_);refine aa zi (And.intro ?_ trivial)
 rw[e]
theorem qH (o:Order) (ho:iU o) (ht:cm o.types=0):af C 48 [.pv (.ag (sR o))] (.p (i64 (fu o.types o.feet))) []:=by
 refine ah hC Tryz.func48 rfl rfl 93 rfl (by decide) (by kernel_rfl) fun _ _ _ _ _=>?_
 have lm:=ai o.feet Fa
 have tg:=sk ht
 have tn:=xO ht
 have tl:=tg.len
 obtain⟨RW,Re⟩:=ho.feet
 (repeat refine yY Z ?_);refine iF Z (fun g1=>?_) (fun g1=>?_)
 ·(repeat refine yY Z ?_);refine aa zi (And.intro ?_ trivial)
  rw[fu,if_pos (by omega)];rfl
 rw[fu,if_neg (by omega)]
 (repeat refine yY Z ?_)
 refine ak (fun i:Nat=>i<=o.feet.length/\∀k,k < i->gS o.types o.feet k=0) (fun i=>[(1,.bx 1 0),(13,.p (.sl (o.feet.map Fa))),(14,.p (i64 o.feet.length)),(15,.p (i64 i))]) (fun _=>[(1,.box ((sR o).map .p))]) (fun i=>o.feet.length - i) 0 _ (aD.refl _ _) ⟨Nat.zero_le _,fun k h=>by omega⟩ ⟨rfl,rfl,congrArg (fun n:Nat=>AV.p (i64 n)) lm,Z,Y⟩ ⟨Z,Y⟩ fun i hi t h=>?_
 (repeat refine yY Z ?_);refine iF Z (fun h1=>?_) (fun h1=>?_)
 ·obtain⟨f,hx⟩:=aj (l:=o.feet) (i:=i) (by omega)
  have cf:gS o.types o.feet i=(if cJ aO.name o.types f.type=true then (if 200 < f.spots.length then 2 else nh (aH (iV (Bk o.types f.type) f.spots) 0 f.spots.length) (if a7 (o.feet.map ll.type) i=true then 8 else 0)) else 9):=by simp only[gS,hx]
  obtain⟨so,sl,sp⟩:=Re f (List.mem_of_getElem? hx)
  have ls:=ai f.spots xN
  have bad:∀{c:Int},gS o.types o.feet i=c->c≠0->aH (gS o.types o.feet) 0 o.feet.length=c:=fun e h0=>au hi.2 (by omega) e h0
  have FM:=iy (f:=aO.name) (l:=o.types) (x:=f.type)
  (repeat refine yY Z ?_);refine zX zi ⟨(Fa f),(idx rfl hx),?_⟩
  (repeat refine yY Z ?_);refine zX zi ⟨_,_,(jW o.types f.type tg.ord (by omega)),?_⟩
  (repeat refine yY Z ?_);refine iF Z (fun a1=>?_) (fun a1=>?_)
  ·rw[decide_eq_true a1] at FM
   rw[if_neg (fun e=>by rw[e] at FM;cases FM)] at cf
   (repeat refine yY Z ?_);refine aa zi (And.intro ?_ trivial)
   rw[bad cf (by decide)];rfl
  rw[decide_eq_false a1] at FM
  have hk:cJ aO.name o.types f.type=true:=by simpa using FM
  obtain⟨m,y,e1,e2,e3,e4⟩:=jq hk
  have Ly:Bk o.types f.type=y.pins:=by rw[Bk,e4]
  have hyp:=tg.pins y (List.mem_of_getElem? e2)
  rw[if_pos hk,Ly] at cf
  (repeat refine yY Z ?_);refine iF Z (fun a2=>?_) (fun a2=>?_)
  ·(repeat refine yY Z ?_);refine aa zi (And.intro ?_ trivial)
   rw[if_pos (by omega)] at cf
   rw[bad cf (by decide)];rfl
  rw[if_neg (by omega)] at cf
  have OO:∀{c:Int},aH (iV y.pins f.spots) 0 f.spots.length=c->c≠0->aH (gS o.types o.feet) 0 o.feet.length=c:=fun e h0=>bad (cf.trans (cL e h0)) h0
  (repeat refine yY Z ?_)
  refine ak (fun j:Nat=>j<=f.spots.length/\∀k,k < j->iV y.pins f.spots k=0) (fun j=>[(1,.bx 1 0),(13,.p (.sl (o.feet.map Fa))),(14,.p (i64 o.feet.length)),(15,.p (i64 i)),(3,.p (i64 i)),(4,.bx 4 0),(5,.p (i64 (fy aO.name o.types f.type))),(32,.p (.sl (f.spots.map xN))),(33,.p (i64 f.spots.length)),(34,.p (i64 j))]) (fun _=>[(1,.box ((sR o).map .p)),(4,.box ((Fa f).map .p))]) (fun j=>f.spots.length - j) 0 _ (aD.refl _ _) ⟨Nat.zero_le _,fun k h=>by omega⟩ ⟨rfl,rfl,rfl,rfl,rfl,rfl,rfl,rfl,congrArg (fun n:Nat=>AV.p (i64 n)) ls,Z,Y⟩ ⟨Z,Z,Y⟩ fun j hj t h=>?_
  (repeat refine yY Z ?_);refine iF Z (fun h2=>?_) (fun h2=>?_)
  ·obtain⟨x,OP⟩:=aj (l:=f.spots) (i:=j) (by omega)
   have df:iV y.pins f.spots j=(if cJ cG.name y.pins x.pin=true then (if dP x.x (-100000) 100000=true then (if dP x.y (-100000) 100000=true then (if a7 (f.spots.map mw.pin) j=true then 8 else 0) else 1) else 1) else 9):=by simp only[iV,OP]
   have Gn:∀{c:Int},iV y.pins f.spots j=c->c≠0->aH (gS o.types o.feet) 0 o.feet.length=c:=fun e h0=>OO (au hj.2 (by omega) e h0) h0
   (repeat refine yY Z ?_);refine zX zi ⟨(xN x),(idx rfl OP),?_⟩
   (repeat refine yY Z ?_);refine c_ [] false D8 rfl (by kernel_rfl) ?_;(repeat refine yY Z ?_);refine zX zi ⟨(nz y),(idx e1 e2),?_⟩
   (repeat refine yY Z ?_);refine zX zi ⟨_,_,(qh y x.pin hyp.1 (by omega)),?_⟩
   have hq:=iy (f:=cG.name) (l:=y.pins) (x:=x.pin)
   (repeat refine yY Z ?_);refine iF Z (fun b1=>?_) (fun b1=>?_)
   ·rw[decide_eq_true b1] at hq
    rw[if_neg (fun e=>by rw[e] at hq;cases hq)] at df
    (repeat refine yY Z ?_);refine aa zi (And.intro ?_ trivial)
    rw[Gn df (by decide)];rfl
   rw[decide_eq_false b1] at hq
   rw[if_pos (by simpa using hq)] at df
   (repeat refine yY Z ?_);refine zX zi ⟨_,_,(gM x.x (-100000) 100000),?_⟩
   (repeat refine yY Z ?_);refine iF Z (fun b2=>?_) (fun b2=>?_)
   ·rw[if_neg (by simp[b2])] at df
    (repeat refine yY Z ?_);refine aa zi (And.intro ?_ trivial)
    rw[Gn df (by decide)];rfl
   rw[if_pos (by simpa using b2)] at df
   (repeat refine yY Z ?_);refine zX zi ⟨_,_,(gM x.y (-100000) 100000),?_⟩
   (repeat refine yY Z ?_);refine iF Z (fun b3=>?_) (fun b3=>?_)
   ·rw[if_neg (by simp[b3])] at df
    (repeat refine yY Z ?_);refine aa zi (And.intro ?_ trivial)
    rw[Gn df (by decide)];rfl
   rw[if_pos (by simpa using b3)] at df
   (repeat refine yY Z ?_);refine c_ [] false Oj rfl (by kernel_rfl) ?_;(repeat refine yY Z ?_);refine iF Z (fun p1=>?_) (fun p1=>?_)
   ·obtain⟨z,hz⟩:=aj (l:=f.spots) (i:=j - 1) (by omega)
    rw[eW (f:=mw.pin) OP hz (by omega)] at df
    (repeat refine yY Z ?_);refine zA zi (And.intro ⟨by omega,by omega⟩ ?_)
    (repeat refine yY Z ?_);refine zX zi ⟨(xN z),(idx (show (j:Int) - 1=((j - 1:Nat):Int) by omega) hz),?_⟩
    (repeat refine yY Z ?_);refine iF Z (fun p2=>?_) (fun p2=>?_)
    ·(repeat refine yY Z ?_);refine aa zi (And.intro ?_ trivial)
     have p2:(ct (mw.pin x) (mw.pin z) || decide (mw.pin x=mw.pin z))=true:=by simpa [ct] using p2
     rw[p2,if_pos rfl] at df
     rw[Gn df (by decide)];rfl
    have p2:(ct (mw.pin x) (mw.pin z) || decide (mw.pin x=mw.pin z))=false:=by simpa [ct] using p2
    rw[p2,if_neg (by decide)] at df
    (repeat refine yY Z ?_);refine zA zi (And.intro ⟨by omega,by omega⟩ ?_)
    (repeat refine yY Z ?_);refine ae ⟨(j+1),_,aD.refl _ _,?_⟩
    exact⟨⟨by omega,cc hj.2 df⟩,by omega,⟨Z,Z,Z,Z,Z,Z,Z,Z,Z,Z,Y⟩,⟨Z,Z,Y⟩⟩
   rw[iz (by omega),if_neg (by decide)] at df
   (repeat refine yY Z ?_);refine zA zi (And.intro ⟨by omega,by omega⟩ ?_)
   (repeat refine yY Z ?_);refine ae ⟨(j+1),_,aD.refl _ _,?_⟩
   exact⟨⟨by omega,cc hj.2 df⟩,by omega,⟨Z,Z,Z,Z,Z,Z,Z,Z,Z,Z,Y⟩,⟨Z,Z,Y⟩⟩
  have z1:=aT (f:=iV y.pins f.spots) (n:=f.spots.length) (i:=0) fun k _ hk=>hj.2 k (by omega)
  rw[fj z1] at cf
  (repeat refine yY Z ?_);refine c_ [] false vf rfl (by kernel_rfl) ?_;(repeat refine yY Z ?_);refine iF Z (fun o1=>?_) (fun o1=>?_)
  ·obtain⟨z,hz⟩:=aj (l:=o.feet) (i:=i - 1) (by omega)
   rw[eW (f:=ll.type) hx hz (by omega)] at cf
   (repeat refine yY Z ?_);refine zA zi (And.intro ⟨by omega,by omega⟩ ?_)
   (repeat refine yY Z ?_);refine zX zi ⟨(Fa z),(idx (show (i:Int) - 1=((i - 1:Nat):Int) by omega) hz),?_⟩
   (repeat refine yY Z ?_);refine iF Z (fun o2=>?_) (fun o2=>?_)
   ·(repeat refine yY Z ?_);refine aa zi (And.intro ?_ trivial)
    have o2:(ct (ll.type f) (ll.type z) || decide (ll.type f=ll.type z))=true:=by simpa [ct] using o2
    rw[o2,if_pos rfl] at cf
    rw[au hi.2 (by omega) cf (by decide)];rfl
   have o2:(ct (ll.type f) (ll.type z) || decide (ll.type f=ll.type z))=false:=by simpa [ct] using o2
   rw[o2,if_neg (by decide)] at cf
   (repeat refine yY Z ?_);refine zA zi (And.intro ⟨by omega,by omega⟩ ?_)
   (repeat refine yY Z ?_);refine ae ⟨(i+1),_,aD.refl _ _,?_⟩
   exact⟨⟨by omega,cc hi.2 cf⟩,by omega,⟨Z,Z,Z,Z,Y⟩,⟨Z,Y⟩⟩
  have h0:i=0:=by omega
  rw[iz h0,if_neg (by decide)] at cf
  (repeat refine yY Z ?_);refine zA zi (And.intro ⟨by omega,by omega⟩ ?_)
  (repeat refine yY Z ?_);refine ae ⟨(i+1),_,aD.refl _ _,?_⟩
  exact⟨⟨by omega,cc hi.2 cf⟩,by omega,⟨Z,Z,Z,Z,Y⟩,⟨Z,Y⟩⟩
 (repeat refine yY Z ?_);refine aa zi (And.intro ?_ trivial)
 have z0:aH (gS o.types o.feet) 0 o.feet.length=0:=aT fun k _ hk=>hi.2 k (by omega)
 rw[z0];rfl
end M
end Go.Proofs.YtiaifckpmefinaaGreatDoor
namespace Go.AM
open Go.RowKit Go.ChangeShapes
section
variable {H:Type} {enc:TypeId×Value->H} {P:Program} {w:World} {S:Nat->Prop}
theorem EI {t:TypeId} (ht:P.underlying t=some .bool):zx enc P w S t 1 fun xs d=>∃b:Bool,xs=[.im (.bool b)]:=fun n cs x h=>by
 obtain⟨b,rfl,rfl⟩:=DataW.trod_bool ht h
 exact⟨[.im (.bool b)],rfl,rfl,one_cell ⟨.im _,rfl⟩,b,rfl⟩
theorem vU {G:DataW H->Prop} {t e:TypeId} {k:Nat} {Q:List PV->DataW H->Prop} (ht:P.underlying t=some (.slice e)) (hc:P.cellsOf e=k) (hk:0 < k) (hS:∀b,b < w.heap.size->S b) (he:∀n cs x,G x.1->DataW.trod enc P w 0 (fun _=>true) true n e cs=some x->∃xs,xs.length=k/\cs.length=k/\(∀(i:Nat) c v,xs[i]?=some c->cs[i]?=some v->az S w c v/\v.oneCell'=true)/\Q xs x.1):
  ∀n cs x,(∀es sp,x.1=.slice es sp->∀y∈es,G y)->DataW.trod enc P w 0 (fun _=>true) true n t cs=some x->∃xs,xs.length=1/\cs.length=1/\(∀(i:Nat) c v,xs[i]?=some c->cs[i]?=some v->az S w c v/\v.oneCell'=true)/\(∃(es:List (List PV)) (ds sp:List (DataW H)),xs=[.sl es]/\es.length=ds.length/\(x.1=.nil/\ds=[]\/x.1=.slice ds sp)/\∀(i:Nat) x y,es[i]?=some x->ds[i]?=some y->Q x y):=fun n cs x hG h=>by
 rcases Go.Deep.open_slice ht h with⟨rfl,rfl⟩ | ⟨a,len,cap,m,n,D,Pl,rfl,hb,hl,hm,BP,rfl,hx⟩
 ·exact⟨[.sl []],rfl,rfl,one_cell ⟨.nil _ _,rfl⟩,[],[],[],rfl,rfl,.inl ⟨rfl,rfl⟩,fun i x y h=>by cases h⟩
 have JJ:len<=m:=by rw[BP];split <;> omega
 rcases Nat.eq_zero_or_pos len with h0 | hpos
 ·subst h0
  exact⟨[.sl []],rfl,rfl,one_cell ⟨.nil _ _,rfl⟩,[],[],_,rfl,rfl,.inr rfl,fun i x y h=>by cases h⟩
 rw[hc] at hx
 have each:∀i,i < len->∃p:List PV×List Value,p.1.length=k/\p.2.length=k/\(∀j,j < k->w.cell? ((a.add (i*k)).add j)=p.2[j]?)/\(∀(j:Nat) c v,p.1[j]?=some c->p.2[j]?=some v->az S w c v/\v.oneCell'=true)/\Q p.1 (D i):=fun i hi=>by
  obtain⟨iH,h1,h2⟩:=hx i (by omega)
  obtain⟨_,hlen,hcell⟩:=World.cells?_some h1
  obtain⟨xs,l1,l2,l3,l4⟩:=he _ _ _ (hG _ _ rfl _ (List.mem_map.2 ⟨i,List.mem_range.2 hi,rfl⟩)) h2
  exact⟨(xs,iH),l1,l2,hcell,l3,l4⟩
 obtain⟨F,hF⟩:=Go.Deep.choose_lt (α:=List PV×List Value) each
 have get:∀(i:Nat) e,((List.range len).map fun i=>(F i).1)[i]?=some e->i < len/\e=(F i).1:=fun i e h=>by
  rw[List.getElem?_map,Option.map_eq_some_iff] at h
  obtain⟨j,hj,rfl⟩:=h
  obtain⟨h1,h2⟩:=List.getElem?_eq_some_iff.1 hj
  rw[List.getElem_range] at h2
  subst h2
  exact⟨by simpa using h1,rfl⟩
 have cellOf:∀i j,i < len->j < k->w.cell? ((a.add (i*k)).add j)=some (((F i).2[j]?).getD .nilIface):=fun i j hi hj=>by
  obtain⟨_,l2,h3,_⟩:=hF i hi
  rw[h3 j hj,List.getElem?_eq_getElem (by omega)]
  rfl
 have hz:=A7 (cellOf 0 0 hpos hk)
 obtain⟨b,off,spot⟩:=a
 have rh:spot=none:=by simpa [Addr.add] using hz.1
 subst rh
 have IP:b < w.heap.size:=by simpa [Addr.add] using hz.2
 have an:∀i j,((⟨b,off,none⟩:Addr).add (i*k)).add j=⟨b,off+i*k+j,none⟩:=fun i j=>by
  unfold Addr.add
  by_cases h1:i*k=0
  ·rw[if_pos h1,h1]
   by_cases h2:j=0
   ·rw[if_pos h2,h2];rfl
   rw[if_neg h2];rfl
  rw[if_neg h1]
  by_cases h2:j=0
  ·rw[if_pos h2,h2];rfl
  rw[if_neg h2]
 refine⟨[.sl ((List.range len).map fun i=>(F i).1)],rfl,rfl,one_cell ⟨?_,rfl⟩,(List.range len).map fun i=>(F i).1,(List.range len).map D,_,rfl,by simp,.inr rfl,fun i x y h1 h2=>?_⟩
 ·have hlen:((List.range len).map fun i=>(F i).1).length=len:=by simp
  have:=az.sl (S:=S) (w:=w) ((List.range len).map fun i=>(F i).1) k b off cap (fun i j=>((F i).2[j]?).getD .nilIface) (by rw[hlen];exact hl) (hS b IP)
   (fun e KF=>by obtain⟨i,hi,rfl⟩:=List.mem_map.1 KF;exact (hF i (List.mem_range.1 hi)).1)
   (fun i e j x h1 h2=>by
    obtain⟨hi,rfl⟩:=get i e h1
    have hj:j < k:=by rw[<-(hF i hi).1];exact (List.getElem?_eq_some_iff.1 h2).1
    have hv:(F i).2[j]?=some (((F i).2[j]?).getD .nilIface):=by rw[List.getElem?_eq_getElem (by rw[(hF i hi).2.1];exact hj)];rfl
    exact⟨by rw[<-an];exact cellOf i j hi hj,((hF i hi).2.2.2.1 j x _ h2 hv).2⟩)
   (fun i e j x h1 h2=>by
    obtain⟨hi,rfl⟩:=get i e h1
    have hj:j < k:=by rw[<-(hF i hi).1];exact (List.getElem?_eq_some_iff.1 h2).1
    have hv:(F i).2[j]?=some (((F i).2[j]?).getD .nilIface):=by rw[List.getElem?_eq_getElem (by rw[(hF i hi).2.1];exact hj)];rfl
    exact ((hF i hi).2.2.2.1 j x _ h2 hv).1)
  rw[hlen] at this
  exact this
 obtain⟨hi,rfl⟩:=get i x h1
 rw[List.getElem?_map,List.getElem?_range hi] at h2
 cases h2
 exact (hF i hi).2.2.2.2
def aR (S:Nat->Prop) (w:World) (o:Nat) (xs:List PV) (cs:List Value):Prop:=∀(i:Nat) c v,xs[i]?=some c->cs[o+i]?=some v->az S w c v/\v.oneCell'=true
theorem aR.join {o:Nat} {xs ys:List PV} {cs:List Value} (h:aR S w o xs cs) (k:aR S w (o+xs.length) ys cs):aR S w o (xs++ys) cs:=fun i c v h1 h2=>by
 by_cases e:i < xs.length
 ·rw[List.getElem?_append_left e] at h1
  exact h i c v h1 h2
 rw[List.getElem?_append_right (by omega)] at h1
 refine k (i - xs.length) c v h1 ?_
 rw[<-h2]
 congr 1
 omega
theorem mO {G:DataW H->Prop} {t:TypeId} {fs:Array Field} (ht:P.underlying t=some (.struct fs)) (ks:Nat->Nat) (hk:∀(i:Nat) (f:Field),fs[i]?=some f->P.cellsOf f.type=ks i) (Qs:Nat->List PV->DataW H->Prop) (hf:∀(i:Nat) (f:Field),fs[i]?=some f->∀n cs y,G y.1->DataW.trod enc P w 0 (fun _=>true) true n f.type cs=some y->∃xs,xs.length=ks i/\cs.length=ks i/\(∀(i:Nat) c v,xs[i]?=some c->cs[i]?=some v->az S w c v/\v.oneCell'=true)/\Qs i xs y.1) {n:Nat} {cs:List Value} {x:DataW H×List MemPlace} (hG:∀es,x.1=.agg es->∀y∈es,G y) (h:DataW.trod enc P w 0 (fun _=>true) true n t cs=some x):
  cs.length=P.cellsOf t/\∃ds:List (DataW H),x.1=.agg ds/\ds.length=fs.size/\∀(i:Nat) (f:Field),fs[i]?=some f->∃xs d,xs.length=ks i/\aR S w f.offset xs cs/\ds[i]?=some d/\Qs i xs d:=by
 obtain⟨ys,m,_,rfl,hl,hlen,hy⟩:=DataW.trod_struct ht h
 refine⟨hl,ys.map (·.1),rfl,by rw[List.length_map,hlen],fun i f Hg=>?_⟩
 have hi:i < fs.size:=(Array.getElem?_eq_some_iff.1 Hg).1
 have Hh:=hy i f Hg
 have Lh:ys[i]?=some ys[i]:=List.getElem?_eq_getElem (by omega)
 rw[Lh,hk i f Hg] at Hh
 obtain⟨xs,l1,l2,l3,l4⟩:=hf i f Hg _ _ _ (hG _ rfl _ (List.mem_map.2 ⟨ys[i],List.getElem_mem _,rfl⟩)) Hh
 refine⟨xs,ys[i].1,l1,fun j c v h1 h2=>l3 j c v h1 ?_,by rw[List.getElem?_map,Lh];rfl,l4⟩
 have hj:=(List.getElem?_eq_some_iff.1 h1).1
 rw[List.getElem?_take_of_lt (by omega),List.getElem?_drop]
 exact h2
theorem bz {t:TypeId} {fs:Array Field} (ht:P.underlying t=some (.struct fs)) (ks:Nat->Nat) (hk:∀(i:Nat) (f:Field),fs[i]?=some f->P.cellsOf f.type=ks i) (Qs:Nat->List PV->DataW H->Prop) (hf:∀(i:Nat) (f:Field),fs[i]?=some f->zx enc P w S f.type (ks i) (Qs i)) {n:Nat} {cs:List Value} {x:DataW H×List MemPlace} (h:DataW.trod enc P w 0 (fun _=>true) true n t cs=some x):
  cs.length=P.cellsOf t/\∃ds:List (DataW H),x.1=.agg ds/\ds.length=fs.size/\∀(i:Nat) (f:Field),fs[i]?=some f->∃xs d,xs.length=ks i/\aR S w f.offset xs cs/\ds[i]?=some d/\Qs i xs d:=
 mO (G:=fun _=>True) ht ks hk Qs (fun i f Rf n cs y _ h=>hf i f Rf n cs y h) (fun _ _ _ _=>trivial) h
end
end Go.AM
namespace Go.Proofs.YtiaifckpmefinaaGreatDoor
namespace M
open Go.AM Go.RowKit Go.Lib
open aK (aG bB fa)
variable {H:Type} {enc:TypeId×Value->H} {w:World} {S:Nat->Prop}
def I3 (P:Program) (fs:Array Field) (ks:Nat->Nat):Bool:=(List.range fs.size).all fun i=>match fs[i]? with
 | some f=>Nat.beq (P.cellsOf f.type) (ks i)
 | none=>true
theorem bY {P:Program} {fs:Array Field} {ks:Nat->Nat} (h:I3 P fs ks=true):∀(i:Nat) (f:Field),fs[i]?=some f->P.cellsOf f.type=ks i:=fun i f hf=>by
 have hi:=(Array.getElem?_eq_some_iff.1 hf).1
 have:=List.all_eq_true.1 h i (List.mem_range.2 hi)
 rw[hf] at this
 exact Nat.eq_of_beq_eq_true this
def UB {γ:Type} (OK:γ->Prop):γ->Nat->Prop:=fun r n=>n<=1048576->OK r
theorem Bl {γ:Type} {OK:γ->Prop}:∀r m n,m<=n->UB OK r m->UB OK r n:=fun _ _ _ h k hn=>k (Nat.le_trans h hn)
theorem me {t:TypeId} {k:Nat} {γ:Type} {f:γ->List PV} {B B':γ->Nat->Prop} (h:Sp enc w S t k f B) (hb:∀r n,B r n->B' r n):Sp enc w S t k f B':=fun n cs x hx=>by
 obtain⟨xs,l1,l2,l3,r,e,b⟩:=h n cs x hx
 exact⟨xs,l1,l2,l3,r,e,hb _ _ b⟩
theorem us:Sp enc w S 9 1 (fun s=>[str s]) (UB aQ):=me IW fun _ _ h hn=>IX (Nat.le_trans h hn)
theorem ui:Sp enc w S 3 1 (fun n=>[i64 n]) (UB fun _=>True):=me qC fun _ _ _ _=>trivial
theorem Hp:Sp enc w S 4 1 (fun b=>[bool b]) (UB fun _=>True):=fun n cs x h=>by
 obtain⟨xs,l1,l2,l3,b,e⟩:=EI (S:=S) Tryz.underlying4 n cs x h
 exact⟨xs,l1,l2,l3,b,e,fun _=>trivial⟩
theorem sC:Sp enc w S 52 2 (fun p:Int×Int=>[i64 p.1,i64 p.2]) (UB fun _=>True):=me Ex fun _ _ _ _=>trivial
theorem Lz:Sp enc w S 221 4 rc (UB fun _=>True):=me Bb fun _ _ _ _=>trivial
def dM {γ:Type} (OK:γ->Prop) (l:List γ):Prop:=l.length<=1048576/\∀r∈l,OK r
theorem dN {t e:TypeId} {k:Nat} {γ:Type} {f:γ->List PV} {OK:γ->Prop} (ht:Tryz.prog.underlying t=some (.slice e)) (hc:Tryz.prog.cellsOf e=k) (hk:0 < k) (hS:∀b,b < w.heap.size->S b) (he:Sp enc w S e k f (UB OK)):Sp enc w S t 1 (fun l:List γ=>[.sl (l.map f)]) (UB (dM OK)):=
 me (k_ ht hc hk hS Bl he) fun _ _ h hn=>⟨Nat.le_trans h.1 hn,fun r hr=>h.2 r hr hn⟩
theorem I4 (hS:∀b,b < w.heap.size->S b):Sp enc w S 41 7 rl (UB om):=me (Ew hS) fun r n h hn=>Ey (vE _ _ _ hn h)
theorem I5:Sp enc w S 229 3 l6 (UB (fun x=>aQ x.name)):=fun n cs x h=>by
 obtain⟨hl,ds,e,ld,q⟩:=bz (S:=S) (ks:=fun i=>match i with | _=>1) (hk:=bY (by kernel_rfl)) (Qs:=fun i xs d=>match i with
   | 0=>∃r:ByteArray,xs=[str r]/\UB aQ r (Rows.uptoBulk d)
   | 1=>∃r:Int,xs=[i64 r]/\UB (fun _=>True) r (Rows.uptoBulk d)
   | _=>∃r:Int,xs=[i64 r]/\UB (fun _=>True) r (Rows.uptoBulk d)) Tryz.underlying229 (fun i f hf=>by
  match i,hf with
  | 0,hf=>cases hf;exact us
  | 1,hf=>cases hf;exact ui
  | 2,hf=>cases hf;exact ui
  | n+3,hf=>cases hf) h
 have hl:cs.length=3:=hl.trans (by kernel_rfl)
 obtain⟨x0,c0,_,r0,i0,n0,e0,b0⟩:=q 0 _ rfl
 obtain⟨x1,c1,_,r1,i1,n1,e1,b1⟩:=q 1 _ rfl
 obtain⟨x2,c2,_,r2,i2,n2,e2,b2⟩:=q 2 _ rfl
 cases e0;cases e1;cases e2
 have rel:aR S w 0 ([str n0]++([i64 n1]++([i64 n2]))) cs:=aR.join r0 (aR.join r1 (r2))
 have j0:=aJ i0
 have j1:=aJ i1
 have j2:=aJ i2
 rw[<-e] at j0 j1 j2
 exact⟨_,rfl,hl,fun i c v h1 h2=>rel i c v h1 (by rw[Nat.zero_add];exact h2),⟨n0,n1,n2⟩,rfl,fun hn=>b0 (Nat.le_trans j0 hn)⟩
theorem I6 (hS:∀b,b < w.heap.size->S b):Sp enc w S 139 2 nz (UB (fun x=>aQ x.name/\vH x.pins)):=fun n cs x h=>by
 obtain⟨hl,ds,e,ld,q⟩:=bz (S:=S) (ks:=fun i=>match i with | _=>1) (hk:=bY (by kernel_rfl)) (Qs:=fun i xs d=>match i with
   | 0=>∃r:ByteArray,xs=[str r]/\UB aQ r (Rows.uptoBulk d)
   | _=>∃r:List cG,xs=[.sl (r.map l6)]/\UB (dM (fun x:cG=>aQ x.name)) r (Rows.uptoBulk d)) Tryz.underlying139 (fun i f hf=>by
  match i,hf with
  | 0,hf=>cases hf;exact us
  | 1,hf=>cases hf;exact dN (k:=3) Tryz.underlying137 (by kernel_rfl) (by decide) hS (I5)
  | n+2,hf=>cases hf) h
 have hl:cs.length=2:=hl.trans (by kernel_rfl)
 obtain⟨x0,c0,_,r0,i0,n0,e0,b0⟩:=q 0 _ rfl
 obtain⟨x1,c1,_,r1,i1,n1,e1,b1⟩:=q 1 _ rfl
 cases e0;cases e1
 have rel:aR S w 0 ([str n0]++([.sl (n1.map l6)])) cs:=aR.join r0 (r1)
 have j0:=aJ i0
 have j1:=aJ i1
 rw[<-e] at j0 j1
 exact⟨_,rfl,hl,fun i c v h1 h2=>rel i c v h1 (by rw[Nat.zero_add];exact h2),⟨n0,n1⟩,rfl,fun hn=>⟨b0 (Nat.le_trans j0 hn),b1 (Nat.le_trans j1 hn)⟩⟩
theorem I7:Sp enc w S 215 2 uf (UB (fun x=>aQ x.name/\aQ x.type)):=fun n cs x h=>by
 obtain⟨hl,ds,e,ld,q⟩:=bz (S:=S) (ks:=fun i=>match i with | _=>1) (hk:=bY (by kernel_rfl)) (Qs:=fun i xs d=>match i with
   | 0=>∃r:ByteArray,xs=[str r]/\UB aQ r (Rows.uptoBulk d)
   | _=>∃r:ByteArray,xs=[str r]/\UB aQ r (Rows.uptoBulk d)) Tryz.underlying215 (fun i f hf=>by
  match i,hf with
  | 0,hf=>cases hf;exact us
  | 1,hf=>cases hf;exact us
  | n+2,hf=>cases hf) h
 have hl:cs.length=2:=hl.trans (by kernel_rfl)
 obtain⟨x0,c0,_,r0,i0,n0,e0,b0⟩:=q 0 _ rfl
 obtain⟨x1,c1,_,r1,i1,n1,e1,b1⟩:=q 1 _ rfl
 cases e0;cases e1
 have rel:aR S w 0 ([str n0]++([str n1])) cs:=aR.join r0 (r1)
 have j0:=aJ i0
 have j1:=aJ i1
 rw[<-e] at j0 j1
 exact⟨_,rfl,hl,fun i c v h1 h2=>rel i c v h1 (by rw[Nat.zero_add];exact h2),⟨n0,n1⟩,rfl,fun hn=>⟨b0 (Nat.le_trans j0 hn),b1 (Nat.le_trans j1 hn)⟩⟩
theorem LA:Sp enc w S 197 2 vF (UB (fun _=>True)):=fun n cs x h=>by
 obtain⟨hl,ds,e,ld,q⟩:=bz (S:=S) (ks:=fun i=>match i with | _=>1) (hk:=bY (by kernel_rfl)) (Qs:=fun i xs d=>match i with
   | 0=>∃r:ByteArray,xs=[str r]/\UB aQ r (Rows.uptoBulk d)
   | _=>∃r:ByteArray,xs=[str r]/\UB aQ r (Rows.uptoBulk d)) Tryz.underlying197 (fun i f hf=>by
  match i,hf with
  | 0,hf=>cases hf;exact us
  | 1,hf=>cases hf;exact us
  | n+2,hf=>cases hf) h
 have hl:cs.length=2:=hl.trans (by kernel_rfl)
 obtain⟨x0,c0,_,r0,i0,n0,e0,b0⟩:=q 0 _ rfl
 obtain⟨x1,c1,_,r1,i1,n1,e1,b1⟩:=q 1 _ rfl
 cases e0;cases e1
 have rel:aR S w 0 ([str n0]++([str n1])) cs:=aR.join r0 (r1)
 have j0:=aJ i0
 have j1:=aJ i1
 rw[<-e] at j0 j1
 exact⟨_,rfl,hl,fun i c v h1 h2=>rel i c v h1 (by rw[Nat.zero_add];exact h2),⟨n0,n1⟩,rfl,fun hn=>trivial⟩
theorem LB (hS:∀b,b < w.heap.size->S b):Sp enc w S 194 3 Gg (UB (fun n=>aQ n.name/\n.pins.length<=1048576/\n.ports.length<=1048576)):=fun n cs x h=>by
 obtain⟨hl,ds,e,ld,q⟩:=bz (S:=S) (ks:=fun i=>match i with | _=>1) (hk:=bY (by kernel_rfl)) (Qs:=fun i xs d=>match i with
   | 0=>∃r:ByteArray,xs=[str r]/\UB aQ r (Rows.uptoBulk d)
   | 1=>∃r:List kA,xs=[.sl (r.map vF)]/\UB (dM (fun _=>True)) r (Rows.uptoBulk d)
   | _=>∃r:List ByteArray,xs=[strs r]/\UB (dM aQ) r (Rows.uptoBulk d)) Tryz.underlying194 (fun i f hf=>by
  match i,hf with
  | 0,hf=>cases hf;exact us
  | 1,hf=>cases hf;exact dN (k:=2) Tryz.underlying191 (by kernel_rfl) (by decide) hS (LA)
  | 2,hf=>cases hf;exact dN (k:=1) Tryz.underlying192 (by kernel_rfl) (by decide) hS us
  | n+3,hf=>cases hf) h
 have hl:cs.length=3:=hl.trans (by kernel_rfl)
 obtain⟨x0,c0,_,r0,i0,n0,e0,b0⟩:=q 0 _ rfl
 obtain⟨x1,c1,_,r1,i1,n1,e1,b1⟩:=q 1 _ rfl
 obtain⟨x2,c2,_,r2,i2,n2,e2,b2⟩:=q 2 _ rfl
 cases e0;cases e1;cases e2
 have rel:aR S w 0 ([str n0]++([.sl (n1.map vF)]++([strs n2]))) cs:=aR.join r0 (aR.join r1 (r2))
 have j0:=aJ i0
 have j1:=aJ i1
 have j2:=aJ i2
 rw[<-e] at j0 j1 j2
 exact⟨_,rfl,hl,fun i c v h1 h2=>rel i c v h1 (by rw[Nat.zero_add];exact h2),⟨n0,n1,n2⟩,rfl,fun hn=>⟨b0 (Nat.le_trans j0 hn),(b1 (Nat.le_trans j1 hn)).1,(b2 (Nat.le_trans j2 hn)).1⟩⟩
theorem I8 (hS:∀b,b < w.heap.size->S b):Sp enc w S 26 2 E9 (UB vT):=fun n cs x h=>by
 obtain⟨hl,ds,e,ld,q⟩:=bz (S:=S) (ks:=fun i=>match i with | _=>1) (hk:=bY (by kernel_rfl)) (Qs:=fun i xs d=>match i with
   | 0=>∃r:List Part,xs=[.sl (r.map uf)]/\UB (dM (fun x:Part=>aQ x.name/\aQ x.type)) r (Rows.uptoBulk d)
   | _=>∃r:List Net,xs=[.sl (r.map Gg)]/\UB (dM (fun n:Net=>aQ n.name/\n.pins.length<=1048576/\n.ports.length<=1048576)) r (Rows.uptoBulk d)) Tryz.underlying26 (fun i f hf=>by
  match i,hf with
  | 0,hf=>cases hf;exact dN (k:=2) Tryz.underlying23 (by kernel_rfl) (by decide) hS (I7)
  | 1,hf=>cases hf;exact dN (k:=3) Tryz.underlying24 (by kernel_rfl) (by decide) hS (LB hS)
  | n+2,hf=>cases hf) h
 have hl:cs.length=2:=hl.trans (by kernel_rfl)
 obtain⟨x0,c0,_,r0,i0,n0,e0,b0⟩:=q 0 _ rfl
 obtain⟨x1,c1,_,r1,i1,n1,e1,b1⟩:=q 1 _ rfl
 cases e0;cases e1
 have rel:aR S w 0 ([.sl (n0.map uf)]++([.sl (n1.map Gg)])) cs:=aR.join r0 (r1)
 have j0:=aJ i0
 have j1:=aJ i1
 rw[<-e] at j0 j1
 exact⟨_,rfl,hl,fun i c v h1 h2=>rel i c v h1 (by rw[Nat.zero_add];exact h2),⟨n0,n1⟩,rfl,fun hn=>⟨b0 (Nat.le_trans j0 hn),b1 (Nat.le_trans j1 hn)⟩⟩
theorem LC:Sp enc w S 187 4 l7 (UB (fun x=>aQ x.name)):=fun n cs x h=>by
 obtain⟨hl,ds,e,ld,q⟩:=bz (S:=S) (ks:=fun i=>match i with | _=>1) (hk:=bY (by kernel_rfl)) (Qs:=fun i xs d=>match i with
   | 0=>∃r:ByteArray,xs=[str r]/\UB aQ r (Rows.uptoBulk d)
   | 1=>∃r:Int,xs=[i64 r]/\UB (fun _=>True) r (Rows.uptoBulk d)
   | 2=>∃r:Int,xs=[i64 r]/\UB (fun _=>True) r (Rows.uptoBulk d)
   | _=>∃r:Int,xs=[i64 r]/\UB (fun _=>True) r (Rows.uptoBulk d)) Tryz.underlying187 (fun i f hf=>by
  match i,hf with
  | 0,hf=>cases hf;exact us
  | 1,hf=>cases hf;exact ui
  | 2,hf=>cases hf;exact ui
  | 3,hf=>cases hf;exact ui
  | n+4,hf=>cases hf) h
 have hl:cs.length=4:=hl.trans (by kernel_rfl)
 obtain⟨x0,c0,_,r0,i0,n0,e0,b0⟩:=q 0 _ rfl
 obtain⟨x1,c1,_,r1,i1,n1,e1,b1⟩:=q 1 _ rfl
 obtain⟨x2,c2,_,r2,i2,n2,e2,b2⟩:=q 2 _ rfl
 obtain⟨x3,c3,_,r3,i3,n3,e3,b3⟩:=q 3 _ rfl
 cases e0;cases e1;cases e2;cases e3
 have rel:aR S w 0 ([str n0]++([i64 n1]++([i64 n2]++([i64 n3])))) cs:=aR.join r0 (aR.join r1 (aR.join r2 (r3)))
 have j0:=aJ i0
 have j1:=aJ i1
 have j2:=aJ i2
 have j3:=aJ i3
 rw[<-e] at j0 j1 j2 j3
 exact⟨_,rfl,hl,fun i c v h1 h2=>rel i c v h1 (by rw[Nat.zero_add];exact h2),⟨n0,n1,n2,n3⟩,rfl,fun hn=>b0 (Nat.le_trans j0 hn)⟩
theorem LD:Sp enc w S 121 2 mM (UB (fun x=>aQ x.name/\aQ x.mat)):=fun n cs x h=>by
 obtain⟨hl,ds,e,ld,q⟩:=bz (S:=S) (ks:=fun i=>match i with | _=>1) (hk:=bY (by kernel_rfl)) (Qs:=fun i xs d=>match i with
   | 0=>∃r:ByteArray,xs=[str r]/\UB aQ r (Rows.uptoBulk d)
   | _=>∃r:ByteArray,xs=[str r]/\UB aQ r (Rows.uptoBulk d)) Tryz.underlying121 (fun i f hf=>by
  match i,hf with
  | 0,hf=>cases hf;exact us
  | 1,hf=>cases hf;exact us
  | n+2,hf=>cases hf) h
 have hl:cs.length=2:=hl.trans (by kernel_rfl)
 obtain⟨x0,c0,_,r0,i0,n0,e0,b0⟩:=q 0 _ rfl
 obtain⟨x1,c1,_,r1,i1,n1,e1,b1⟩:=q 1 _ rfl
 cases e0;cases e1
 have rel:aR S w 0 ([str n0]++([str n1])) cs:=aR.join r0 (r1)
 have j0:=aJ i0
 have j1:=aJ i1
 rw[<-e] at j0 j1
 exact⟨_,rfl,hl,fun i c v h1 h2=>rel i c v h1 (by rw[Nat.zero_add];exact h2),⟨n0,n1⟩,rfl,fun hn=>⟨b0 (Nat.le_trans j0 hn),b1 (Nat.le_trans j1 hn)⟩⟩
theorem I9 (hS:∀b,b < w.heap.size->S b):Sp enc w S 125 2 yk (UB vM):=fun n cs x h=>by
 obtain⟨hl,ds,e,ld,q⟩:=bz (S:=S) (ks:=fun i=>match i with | _=>1) (hk:=bY (by kernel_rfl)) (Qs:=fun i xs d=>match i with
   | 0=>∃r:ByteArray,xs=[str r]/\UB aQ r (Rows.uptoBulk d)
   | _=>∃r:List aG,xs=[ca r]/\UB (dM fun _=>True) r (Rows.uptoBulk d)) Tryz.underlying125 (fun i f hf=>by
  match i,hf with
  | 0,hf=>cases hf;exact us
  | 1,hf=>cases hf;exact dN (k:=4) Tryz.underlying123 (by kernel_rfl) (by decide) hS Lz
  | n+2,hf=>cases hf) h
 have hl:cs.length=2:=hl.trans (by kernel_rfl)
 obtain⟨x0,c0,_,r0,i0,n0,e0,b0⟩:=q 0 _ rfl
 obtain⟨x1,c1,_,r1,i1,n1,e1,b1⟩:=q 1 _ rfl
 cases e0;cases e1
 have rel:aR S w 0 ([str n0]++([ca n1])) cs:=aR.join r0 (r1)
 have j0:=aJ i0
 have j1:=aJ i1
 rw[<-e] at j0 j1
 exact⟨_,rfl,hl,fun i c v h1 h2=>rel i c v h1 (by rw[Nat.zero_add];exact h2),⟨n0,n1⟩,rfl,fun hn=>⟨b0 (Nat.le_trans j0 hn),(b1 (Nat.le_trans j1 hn)).1⟩⟩
theorem I_:Sp enc w S 95 6 oD (UB (fun _=>True)):=fun n cs x h=>by
 obtain⟨hl,ds,e,ld,q⟩:=bz (S:=S) (ks:=fun i=>match i with | 0=>2 | _=>1) (hk:=bY (by kernel_rfl)) (Qs:=fun i xs d=>match i with
   | 0=>∃r:Int×Int,xs=[i64 r.1,i64 r.2]/\UB (fun _=>True) r (Rows.uptoBulk d)
   | 1=>∃r:Int,xs=[i64 r]/\UB (fun _=>True) r (Rows.uptoBulk d)
   | 2=>∃r:Int,xs=[i64 r]/\UB (fun _=>True) r (Rows.uptoBulk d)
   | 3=>∃r:Int,xs=[i64 r]/\UB (fun _=>True) r (Rows.uptoBulk d)
   | _=>∃r:Bool,xs=[bool r]/\UB (fun _=>True) r (Rows.uptoBulk d)) Tryz.underlying95 (fun i f hf=>by
  match i,hf with
  | 0,hf=>cases hf;exact sC
  | 1,hf=>cases hf;exact ui
  | 2,hf=>cases hf;exact ui
  | 3,hf=>cases hf;exact ui
  | 4,hf=>cases hf;exact Hp
  | n+5,hf=>cases hf) h
 have hl:cs.length=6:=hl.trans (by kernel_rfl)
 obtain⟨x0,c0,_,r0,i0,n0,e0,b0⟩:=q 0 _ rfl
 obtain⟨x1,c1,_,r1,i1,n1,e1,b1⟩:=q 1 _ rfl
 obtain⟨x2,c2,_,r2,i2,n2,e2,b2⟩:=q 2 _ rfl
 obtain⟨x3,c3,_,r3,i3,n3,e3,b3⟩:=q 3 _ rfl
 obtain⟨x4,c4,_,r4,i4,n4,e4,b4⟩:=q 4 _ rfl
 cases e0;cases e1;cases e2;cases e3;cases e4
 have rel:aR S w 0 ([i64 n0.1,i64 n0.2]++([i64 n1]++([i64 n2]++([i64 n3]++([bool n4]))))) cs:=aR.join r0 (aR.join r1 (aR.join r2 (aR.join r3 (r4))))
 have j0:=aJ i0
 have j1:=aJ i1
 have j2:=aJ i2
 have j3:=aJ i3
 have j4:=aJ i4
 rw[<-e] at j0 j1 j2 j3 j4
 exact⟨_,rfl,hl,fun i c v h1 h2=>rel i c v h1 (by rw[Nat.zero_add];exact h2),⟨n0.1,n0.2,n1,n2,n3,n4⟩,rfl,fun hn=>trivial⟩
theorem Ja:Sp enc w S 206 5 tr (UB (fun x=>aQ x.name/\aQ x.nozzle)):=fun n cs x h=>by
 obtain⟨hl,ds,e,ld,q⟩:=bz (S:=S) (ks:=fun i=>match i with | _=>1) (hk:=bY (by kernel_rfl)) (Qs:=fun i xs d=>match i with
   | 0=>∃r:ByteArray,xs=[str r]/\UB aQ r (Rows.uptoBulk d)
   | 1=>∃r:Int,xs=[i64 r]/\UB (fun _=>True) r (Rows.uptoBulk d)
   | 2=>∃r:Int,xs=[i64 r]/\UB (fun _=>True) r (Rows.uptoBulk d)
   | 3=>∃r:Int,xs=[i64 r]/\UB (fun _=>True) r (Rows.uptoBulk d)
   | _=>∃r:ByteArray,xs=[str r]/\UB aQ r (Rows.uptoBulk d)) Tryz.underlying206 (fun i f hf=>by
  match i,hf with
  | 0,hf=>cases hf;exact us
  | 1,hf=>cases hf;exact ui
  | 2,hf=>cases hf;exact ui
  | 3,hf=>cases hf;exact ui
  | 4,hf=>cases hf;exact us
  | n+5,hf=>cases hf) h
 have hl:cs.length=5:=hl.trans (by kernel_rfl)
 obtain⟨x0,c0,_,r0,i0,n0,e0,b0⟩:=q 0 _ rfl
 obtain⟨x1,c1,_,r1,i1,n1,e1,b1⟩:=q 1 _ rfl
 obtain⟨x2,c2,_,r2,i2,n2,e2,b2⟩:=q 2 _ rfl
 obtain⟨x3,c3,_,r3,i3,n3,e3,b3⟩:=q 3 _ rfl
 obtain⟨x4,c4,_,r4,i4,n4,e4,b4⟩:=q 4 _ rfl
 cases e0;cases e1;cases e2;cases e3;cases e4
 have rel:aR S w 0 ([str n0]++([i64 n1]++([i64 n2]++([i64 n3]++([str n4]))))) cs:=aR.join r0 (aR.join r1 (aR.join r2 (aR.join r3 (r4))))
 have j0:=aJ i0
 have j1:=aJ i1
 have j2:=aJ i2
 have j3:=aJ i3
 have j4:=aJ i4
 rw[<-e] at j0 j1 j2 j3 j4
 exact⟨_,rfl,hl,fun i c v h1 h2=>rel i c v h1 (by rw[Nat.zero_add];exact h2),⟨n0,n1,n2,n3,n4⟩,rfl,fun hn=>⟨b0 (Nat.le_trans j0 hn),b4 (Nat.le_trans j4 hn)⟩⟩
theorem Gp:Sp enc w S 132 6 E_ (UB (fun x=>aQ x.part/\aQ x.type)):=fun n cs x h=>by
 obtain⟨hl,ds,e,ld,q⟩:=bz (S:=S) (ks:=fun i=>match i with | 2=>2 | _=>1) (hk:=bY (by kernel_rfl)) (Qs:=fun i xs d=>match i with
   | 0=>∃r:ByteArray,xs=[str r]/\UB aQ r (Rows.uptoBulk d)
   | 1=>∃r:ByteArray,xs=[str r]/\UB aQ r (Rows.uptoBulk d)
   | 2=>∃r:Int×Int,xs=[i64 r.1,i64 r.2]/\UB (fun _=>True) r (Rows.uptoBulk d)
   | 3=>∃r:Int,xs=[i64 r]/\UB (fun _=>True) r (Rows.uptoBulk d)
   | _=>∃r:Bool,xs=[bool r]/\UB (fun _=>True) r (Rows.uptoBulk d)) Tryz.underlying132 (fun i f hf=>by
  match i,hf with
  | 0,hf=>cases hf;exact us
  | 1,hf=>cases hf;exact us
  | 2,hf=>cases hf;exact sC
  | 3,hf=>cases hf;exact ui
  | 4,hf=>cases hf;exact Hp
  | n+5,hf=>cases hf) h
 have hl:cs.length=6:=hl.trans (by kernel_rfl)
 obtain⟨x0,c0,_,r0,i0,n0,e0,b0⟩:=q 0 _ rfl
 obtain⟨x1,c1,_,r1,i1,n1,e1,b1⟩:=q 1 _ rfl
 obtain⟨x2,c2,_,r2,i2,n2,e2,b2⟩:=q 2 _ rfl
 obtain⟨x3,c3,_,r3,i3,n3,e3,b3⟩:=q 3 _ rfl
 obtain⟨x4,c4,_,r4,i4,n4,e4,b4⟩:=q 4 _ rfl
 cases e0;cases e1;cases e2;cases e3;cases e4
 have rel:aR S w 0 ([str n0]++([str n1]++([i64 n2.1,i64 n2.2]++([i64 n3]++([bool n4]))))) cs:=aR.join r0 (aR.join r1 (aR.join r2 (aR.join r3 (r4))))
 have j0:=aJ i0
 have j1:=aJ i1
 have j2:=aJ i2
 have j3:=aJ i3
 have j4:=aJ i4
 rw[<-e] at j0 j1 j2 j3 j4
 exact⟨_,rfl,hl,fun i c v h1 h2=>rel i c v h1 (by rw[Nat.zero_add];exact h2),⟨n0,n1,n2.1,n2.2,n3,n4⟩,rfl,fun hn=>⟨b0 (Nat.le_trans j0 hn),b1 (Nat.le_trans j1 hn)⟩⟩
theorem Jb:Sp enc w S 142 3 xN (UB (fun s=>aQ s.pin)):=fun n cs x h=>by
 obtain⟨hl,ds,e,ld,q⟩:=bz (S:=S) (ks:=fun i=>match i with | 1=>2 | _=>1) (hk:=bY (by kernel_rfl)) (Qs:=fun i xs d=>match i with
   | 0=>∃r:ByteArray,xs=[str r]/\UB aQ r (Rows.uptoBulk d)
   | _=>∃r:Int×Int,xs=[i64 r.1,i64 r.2]/\UB (fun _=>True) r (Rows.uptoBulk d)) Tryz.underlying142 (fun i f hf=>by
  match i,hf with
  | 0,hf=>cases hf;exact us
  | 1,hf=>cases hf;exact sC
  | n+2,hf=>cases hf) h
 have hl:cs.length=3:=hl.trans (by kernel_rfl)
 obtain⟨x0,c0,_,r0,i0,n0,e0,b0⟩:=q 0 _ rfl
 obtain⟨x1,c1,_,r1,i1,n1,e1,b1⟩:=q 1 _ rfl
 cases e0;cases e1
 have rel:aR S w 0 ([str n0]++([i64 n1.1,i64 n1.2])) cs:=aR.join r0 (r1)
 have j0:=aJ i0
 have j1:=aJ i1
 rw[<-e] at j0 j1
 exact⟨_,rfl,hl,fun i c v h1 h2=>rel i c v h1 (by rw[Nat.zero_add];exact h2),⟨n0,n1.1,n1.2⟩,rfl,fun hn=>b0 (Nat.le_trans j0 hn)⟩
theorem Jc (hS:∀b,b < w.heap.size->S b):Sp enc w S 136 2 Fa (UB (fun f=>aQ f.type/\f.spots.length<=1048576/\∀s∈f.spots,aQ s.pin)):=fun n cs x h=>by
 obtain⟨hl,ds,e,ld,q⟩:=bz (S:=S) (ks:=fun i=>match i with | _=>1) (hk:=bY (by kernel_rfl)) (Qs:=fun i xs d=>match i with
   | 0=>∃r:ByteArray,xs=[str r]/\UB aQ r (Rows.uptoBulk d)
   | _=>∃r:List mw,xs=[.sl (r.map xN)]/\UB (dM (fun s:mw=>aQ s.pin)) r (Rows.uptoBulk d)) Tryz.underlying136 (fun i f hf=>by
  match i,hf with
  | 0,hf=>cases hf;exact us
  | 1,hf=>cases hf;exact dN (k:=3) Tryz.underlying134 (by kernel_rfl) (by decide) hS (Jb)
  | n+2,hf=>cases hf) h
 have hl:cs.length=2:=hl.trans (by kernel_rfl)
 obtain⟨x0,c0,_,r0,i0,n0,e0,b0⟩:=q 0 _ rfl
 obtain⟨x1,c1,_,r1,i1,n1,e1,b1⟩:=q 1 _ rfl
 cases e0;cases e1
 have rel:aR S w 0 ([str n0]++([.sl (n1.map xN)])) cs:=aR.join r0 (r1)
 have j0:=aJ i0
 have j1:=aJ i1
 rw[<-e] at j0 j1
 exact⟨_,rfl,hl,fun i c v h1 h2=>rel i c v h1 (by rw[Nat.zero_add];exact h2),⟨n0,n1⟩,rfl,fun hn=>⟨b0 (Nat.le_trans j0 hn),(b1 (Nat.le_trans j1 hn)).1,(b1 (Nat.le_trans j1 hn)).2⟩⟩
def oF:List (fm×Steps)->Steps
 | []=>.nil
 | (s,u)::r=>.cons s u (oF r)
theorem j_:∀l:List (fm×Steps),(oF l).rows=l.map fun x=>ym x.1 x.2.rows
 | []=>rfl
 | (s,u)::r=>by rw[oF,Steps.rows,j_ r];rfl
def Hq (x:fm×Steps):Prop:=lf x.1/\x.2.rows.length<=1048576/\x.2.ok
theorem sD:∀l:List (fm×Steps),(∀x∈l,Hq x)->(oF l).ok
 | [],_=>trivial
 | (s,u)::r,h=>by
  obtain⟨h1,h2,h3⟩:=h (s,u) List.mem_cons_self
  exact⟨h1,h2,h3,sD r fun x hx=>h x (List.mem_cons_of_mem _ hx)⟩
def qW (u:Steps):Prop:=u.rows.length<=1048576/\u.ok
theorem zW (hS:∀b,b < w.heap.size->S b):∀(N n:Nat) (cs:List Value) (x:DataW H×List MemPlace),SizeOf.sizeOf x.1 < N->DataW.trod enc Tryz.prog w 0 (fun _=>true) true n 31 cs=some x->∃xs,xs.length=1/\cs.length=1/\(∀(i:Nat) c v,xs[i]?=some c->cs[i]?=some v->az S w c v/\v.oneCell'=true)/\∃u:Steps,xs=[.sl u.rows]/\UB qW u (Rows.uptoBulk x.1):=by
 intro N
 induction N with
 | zero=>intro n cs x h;omega
 | succ N ih=>
  intro n cs x hN h
  obtain⟨xs,l1,l2,l3,es,ds,RX,e1,hl,hd,q⟩:=vU (S:=S) (k:=8) (G:=fun y=>SizeOf.sizeOf y < N) (Q:=fun xs d=>∃r:fm×Steps,xs=ym r.1 r.2.rows/\UB Hq r (Rows.uptoBulk d)) Tryz.underlying31 (by kernel_rfl) (by decide) hS (fun n cs x hx h=>by
   obtain⟨hl,ds,e,ld,q⟩:=mO (S:=S) (G:=fun y=>SizeOf.sizeOf y < N) (ks:=fun i=>match i with | 2=>2 | _=>1) (hk:=bY (by kernel_rfl)) (Qs:=fun i xs d=>match i with
     | 0=>∃r:Int,xs=[i64 r]/\UB (fun _=>True) r (Rows.uptoBulk d)
     | 1=>∃r:ByteArray,xs=[str r]/\UB aQ r (Rows.uptoBulk d)
     | 2=>∃r:Int×Int,xs=[i64 r.1,i64 r.2]/\UB (fun _=>True) r (Rows.uptoBulk d)
     | 3=>∃r:List (Int×Int),xs=[.sl (r.map fun p=>[i64 p.1,i64 p.2])]/\UB (dM fun _=>True) r (Rows.uptoBulk d)
     | 4=>∃r:Int,xs=[i64 r]/\UB (fun _=>True) r (Rows.uptoBulk d)
     | 5=>∃r:Int,xs=[i64 r]/\UB (fun _=>True) r (Rows.uptoBulk d)
     | _=>∃u:Steps,xs=[.sl u.rows]/\UB qW u (Rows.uptoBulk d)) Tryz.underlying224 (fun i f hf n cs y hy h=>by
    match i,hf with
    | 0,hf=>cases hf;exact ui n cs y h
    | 1,hf=>cases hf;exact us n cs y h
    | 2,hf=>cases hf;exact sC n cs y h
    | 3,hf=>cases hf;exact dN (k:=2) Tryz.underlying222 (by kernel_rfl) (by decide) hS sC n cs y h
    | 4,hf=>cases hf;exact ui n cs y h
    | 5,hf=>cases hf;exact ui n cs y h
    | 6,hf=>cases hf;exact ih n cs y hy h
    | n+7,hf=>cases hf) (fun es he y hy=>by
     have h1:=List.sizeOf_lt_of_mem hy
     have h2:SizeOf.sizeOf x.1=1+SizeOf.sizeOf es:=by rw[he];simp
     omega) h
   have hl:cs.length=8:=hl.trans (by kernel_rfl)
   obtain⟨x0,c0,_,r0,i0,n0,e0,b0⟩:=q 0 _ rfl
   obtain⟨x1,c1,_,r1,i1,n1,e1,b1⟩:=q 1 _ rfl
   obtain⟨x2,c2,_,r2,i2,n2,e2,b2⟩:=q 2 _ rfl
   obtain⟨x3,c3,_,r3,i3,n3,e3,b3⟩:=q 3 _ rfl
   obtain⟨x4,c4,_,r4,i4,n4,e4,b4⟩:=q 4 _ rfl
   obtain⟨x5,c5,_,r5,i5,n5,e5,b5⟩:=q 5 _ rfl
   obtain⟨x6,c6,_,r6,i6,n6,e6,b6⟩:=q 6 _ rfl
   cases e0;cases e1;cases e2;cases e3;cases e4;cases e5;cases e6
   have rel:aR S w 0 ([i64 n0]++([str n1]++([i64 n2.1,i64 n2.2]++([.sl (n3.map fun p=>[i64 p.1,i64 p.2])]++([i64 n4]++([i64 n5]++[.sl n6.rows])))))) cs:=aR.join r0 (aR.join r1 (aR.join r2 (aR.join r3 (aR.join r4 (aR.join r5 r6)))))
   have j1:=aJ i1
   have j3:=aJ i3
   have j6:=aJ i6
   rw[<-e] at j1 j3 j6
   exact⟨_,rfl,hl,fun i c v h1 h2=>rel i c v h1 (by rw[Nat.zero_add];exact h2),(⟨n0,n1,n2.1,n2.2,n3,n4,n5⟩,n6),rfl,fun hn=>⟨⟨b1 (Nat.le_trans j1 hn),(b3 (Nat.le_trans j3 hn)).1⟩,(b6 (Nat.le_trans j6 hn)).1,(b6 (Nat.le_trans j6 hn)).2⟩⟩) n cs x (fun es sp he y hy=>by
    have h1:=List.sizeOf_lt_of_mem hy
    have h2:SizeOf.sizeOf x.1=1+SizeOf.sizeOf es+SizeOf.sizeOf sp:=by rw[he];simp
    omega) h
  obtain⟨l,rfl,b1,b2⟩:=vD (f:=fun r:fm×Steps=>ym r.1 r.2.rows) Bl hl q
  have hb:Rows.uptoBulkAll ds<=Rows.uptoBulk x.1:=by
   rcases hd with⟨h1,h2⟩ | h1
   ·rw[h2];exact Nat.zero_le _
   rw[h1];simp only[Rows.uptoBulk];omega
  refine⟨xs,l1,l2,l3,oF l,by rw[e1,j_],fun hn=>⟨?_,sD l fun r hr=>b2 r hr (Nat.le_trans hb hn)⟩⟩
  rw[j_,List.length_map]
  omega
theorem Gq (hS:∀b,b < w.heap.size->S b):Sp enc w S 31 1 (fun u:Steps=>[.sl u.rows]) (UB qW):=fun n cs x h=>zW hS _ n cs x (Nat.lt_succ_self _) h
theorem EJ (hS:∀b,b < w.heap.size->S b):Sp enc w S 33 3 du (UB ni):=fun n cs x h=>by
 obtain⟨hl,ds,e,ld,q⟩:=bz (S:=S) (ks:=fun i=>match i with | _=>1) (hk:=bY (by kernel_rfl)) (Qs:=fun i xs d=>match i with
   | 0=>∃r:Int,xs=[i64 r]/\UB (fun _=>True) r (Rows.uptoBulk d)
   | 1=>∃r:List dt,xs=[.sl (r.map yk)]/\UB (dM vM) r (Rows.uptoBulk d)
   | _=>∃r:Steps,xs=[.sl r.rows]/\UB qW r (Rows.uptoBulk d)) Tryz.underlying33 (fun i f hf=>by
  match i,hf with
  | 0,hf=>cases hf;exact ui
  | 1,hf=>cases hf;exact dN (k:=2) Tryz.underlying30 (by kernel_rfl) (by decide) hS (I9 hS)
  | 2,hf=>cases hf;exact Gq hS
  | n+3,hf=>cases hf) h
 have hl:cs.length=3:=hl.trans (by kernel_rfl)
 obtain⟨x0,c0,_,r0,i0,n0,e0,b0⟩:=q 0 _ rfl
 obtain⟨x1,c1,_,r1,i1,n1,e1,b1⟩:=q 1 _ rfl
 obtain⟨x2,c2,_,r2,i2,n2,e2,b2⟩:=q 2 _ rfl
 cases e0;cases e1;cases e2
 have rel:aR S w 0 ([i64 n0]++([.sl (n1.map yk)]++([.sl n2.rows]))) cs:=aR.join r0 (aR.join r1 (r2))
 have j0:=aJ i0
 have j1:=aJ i1
 have j2:=aJ i2
 rw[<-e] at j0 j1 j2
 exact⟨_,rfl,hl,fun i c v h1 h2=>rel i c v h1 (by rw[Nat.zero_add];exact h2),⟨n0,n1,n2⟩,rfl,fun hn=>⟨b1 (Nat.le_trans j1 hn),b2 (Nat.le_trans j2 hn)⟩⟩
theorem Gr (hS:∀b,b < w.heap.size->S b):Sp enc w S 43 20 sR (UB iU):=fun n cs x h=>by
 obtain⟨hl,ds,e,ld,q⟩:=bz (S:=S) (ks:=fun i=>match i with | 1=>2 | 5=>3 | 10=>7 | _=>1) (hk:=bY (by kernel_rfl)) (Qs:=fun i xs d=>match i with
   | 0=>∃r:List aO,xs=[.sl (r.map nz)]/\UB (dM (fun x:aO=>aQ x.name/\vH x.pins)) r (Rows.uptoBulk d)
   | 1=>∃r:tv,xs=E9 r/\UB vT r (Rows.uptoBulk d)
   | 2=>∃r:List cu,xs=[.sl (r.map l7)]/\UB (dM (fun x:cu=>aQ x.name)) r (Rows.uptoBulk d)
   | 3=>∃r:List Lay,xs=[.sl (r.map mM)]/\UB (dM (fun x:Lay=>aQ x.name/\aQ x.mat)) r (Rows.uptoBulk d)
   | 4=>∃r:List fG,xs=[.sl (r.map du)]/\UB (dM ni) r (Rows.uptoBulk d)
   | 5=>∃r:fG,xs=du r/\UB ni r (Rows.uptoBulk d)
   | 6=>∃r:List lr,xs=[.sl (r.map oD)]/\UB (dM (fun _:lr=>True)) r (Rows.uptoBulk d)
   | 7=>∃r:List Body,xs=[.sl (r.map tr)]/\UB (dM (fun x:Body=>aQ x.name/\aQ x.nozzle)) r (Rows.uptoBulk d)
   | 8=>∃r:List Place,xs=[.sl (r.map E_)]/\UB (dM (fun x:Place=>aQ x.part/\aQ x.type)) r (Rows.uptoBulk d)
   | 9=>∃r:List ll,xs=[.sl (r.map Fa)]/\UB (dM (fun f:ll=>aQ f.type/\f.spots.length<=1048576/\∀s∈f.spots,aQ s.pin)) r (Rows.uptoBulk d)
   | _=>∃r:mK,xs=rl r/\UB om r (Rows.uptoBulk d)) Tryz.underlying43 (fun i f hf=>by
  match i,hf with
  | 0,hf=>cases hf;exact dN (k:=2) Tryz.underlying22 (by kernel_rfl) (by decide) hS (I6 hS)
  | 1,hf=>cases hf;exact I8 hS
  | 2,hf=>cases hf;exact dN (k:=4) Tryz.underlying27 (by kernel_rfl) (by decide) hS (LC)
  | 3,hf=>cases hf;exact dN (k:=2) Tryz.underlying28 (by kernel_rfl) (by decide) hS (LD)
  | 4,hf=>cases hf;exact dN (k:=3) Tryz.underlying29 (by kernel_rfl) (by decide) hS (EJ hS)
  | 5,hf=>cases hf;exact EJ hS
  | 6,hf=>cases hf;exact dN (k:=6) Tryz.underlying34 (by kernel_rfl) (by decide) hS (I_)
  | 7,hf=>cases hf;exact dN (k:=5) Tryz.underlying35 (by kernel_rfl) (by decide) hS (Ja)
  | 8,hf=>cases hf;exact dN (k:=6) Tryz.underlying36 (by kernel_rfl) (by decide) hS (Gp)
  | 9,hf=>cases hf;exact dN (k:=2) Tryz.underlying37 (by kernel_rfl) (by decide) hS (Jc hS)
  | 10,hf=>cases hf;exact I4 hS
  | n+11,hf=>cases hf) h
 have hl:cs.length=20:=hl.trans (by kernel_rfl)
 obtain⟨x0,c0,_,r0,i0,n0,e0,b0⟩:=q 0 _ rfl
 obtain⟨x1,c1,_,r1,i1,n1,e1,b1⟩:=q 1 _ rfl
 obtain⟨x2,c2,_,r2,i2,n2,e2,b2⟩:=q 2 _ rfl
 obtain⟨x3,c3,_,r3,i3,n3,e3,b3⟩:=q 3 _ rfl
 obtain⟨x4,c4,_,r4,i4,n4,e4,b4⟩:=q 4 _ rfl
 obtain⟨x5,c5,_,r5,i5,n5,e5,b5⟩:=q 5 _ rfl
 obtain⟨x6,c6,_,r6,i6,n6,e6,b6⟩:=q 6 _ rfl
 obtain⟨x7,c7,_,r7,i7,n7,e7,b7⟩:=q 7 _ rfl
 obtain⟨x8,c8,_,r8,i8,n8,e8,b8⟩:=q 8 _ rfl
 obtain⟨x9,c9,_,r9,i9,n9,e9,b9⟩:=q 9 _ rfl
 obtain⟨RY,RZ,_,Rg,i10,n10,Rh,Ri⟩:=q 10 _ rfl
 cases e0;cases e1;cases e2;cases e3;cases e4;cases e5;cases e6;cases e7;cases e8;cases e9;cases Rh
 have rel:aR S w 0 ([.sl (n0.map nz)]++(E9 n1++([.sl (n2.map l7)]++([.sl (n3.map mM)]++([.sl (n4.map du)]++(du n5++([.sl (n6.map oD)]++([.sl (n7.map tr)]++([.sl (n8.map E_)]++([.sl (n9.map Fa)]++(rl n10))))))))))) cs:=aR.join r0 (aR.join r1 (aR.join r2 (aR.join r3 (aR.join r4 (aR.join r5 (aR.join r6 (aR.join r7 (aR.join r8 (aR.join r9 (Rg))))))))))
 have j0:=aJ i0
 have j1:=aJ i1
 have j2:=aJ i2
 have j3:=aJ i3
 have j4:=aJ i4
 have j5:=aJ i5
 have j6:=aJ i6
 have j7:=aJ i7
 have j8:=aJ i8
 have j9:=aJ i9
 have PN:=aJ i10
 rw[<-e] at j0 j1 j2 j3 j4 j5 j6 j7 j8 j9 PN
 exact⟨_,rfl,hl,fun i c v h1 h2=>rel i c v h1 (by rw[Nat.zero_add];exact h2),⟨n0,n1,n2,n3,n4,n5,n6,n7,n8,n9,n10⟩,rfl,fun hn=>⟨b0 (Nat.le_trans j0 hn),b1 (Nat.le_trans j1 hn),b2 (Nat.le_trans j2 hn),b3 (Nat.le_trans j3 hn),b4 (Nat.le_trans j4 hn),b5 (Nat.le_trans j5 hn),(b6 (Nat.le_trans j6 hn)).1,b7 (Nat.le_trans j7 hn),b8 (Nat.le_trans j8 hn),b9 (Nat.le_trans j9 hn),Ri (Nat.le_trans PN hn)⟩⟩
end M
namespace aK
def iB {α:Type} (q:α->Bool) (l:List α) (i:Nat):List Nat:=(List.range i).filter fun k=>match l[k]? with
 | some x=>q x
 | none=>false
theorem ka {α:Type} {q:α->Bool} {l:List α} {i:Nat} {x:α} (h:l[i]?=some x):iB q l (i+1)=iB q l i++if q x=true then [i] else []:=by
 unfold iB
 rw[List.range_succ,List.filter_append]
 congr 1
 cases hq:q x <;> simp[h,hq]
theorem mf {α:Type} (q:α->Bool) (l:List α):∀i,i<=l.length->(iB q l i).length=((l.take i).filter q).length
 | 0,_=>by simp[iB]
 | i+1,h=>by
  have hx:l[i]?=some l[i]:=List.getElem?_eq_getElem (by omega)
  rw[ka hx,List.length_append,mf q l i (by omega),List.take_add_one,hx,List.filter_append,List.length_append]
  cases hq:q l[i] <;> simp[hq]
theorem mg {α:Type} {q:α->Bool} {l:List α} {i k:Nat} (h:k∈iB q l i):k < i/\∃x,l[k]?=some x/\q x=true:=by
 unfold iB at h
 rw[List.mem_filter,List.mem_range] at h
 refine⟨h.1,?_⟩
 cases hx:l[k]? with
 | none=>rw[hx] at h;exact absurd h.2 (by simp)
 | some x=>rw[hx] at h;exact⟨x,rfl,h.2⟩
theorem qn {α:Type} (q:α->Bool) (l:List α) (i:Nat):(iB q l i).Nodup:=List.nodup_range.filter _
theorem oG {α:Type} (q:α->Bool) (l:List α) (i:Nat):(iB q l i).length<=i:=Nat.le_trans (List.length_filter_le _ _) (by simp)
def jv (l ks:List Nat):List Nat:=ks.map fun k=>l[k]?.getD 0
theorem CB {l ks:List Nat} (h:∀k∈ks,k < l.length) {x:Nat} (hx:x∈jv l ks):x∈l:=by
 obtain⟨k,hk,rfl⟩:=List.mem_map.1 hx
 have:=h k hk
 simp[List.getElem?_eq_getElem this]
theorem mh {α β:Type} {f:α->β}:∀{l:List α},l.Nodup->(∀a∈l,∀b∈l,f a=f b->a=b)->(l.map f).Nodup
 | [],_,_=>by simp
 | a::l,h,hf=>by
  rw[List.nodup_cons] at h
  rw[List.map_cons,List.nodup_cons]
  refine⟨fun hm=>?_,mh h.2 fun x hx y hy=>hf x (List.mem_cons_of_mem _ hx) y (List.mem_cons_of_mem _ hy)⟩
  obtain⟨b,hb,e⟩:=List.mem_map.1 hm
  exact h.1 (hf b (List.mem_cons_of_mem _ hb) a (List.mem_cons_self ..) e ▸ hb)
theorem xP {l ks:List Nat} (hl:l.Nodup) (hk:ks.Nodup) (h:∀k∈ks,k < l.length):(jv l ks).Nodup:=
 mh hk fun a ha b hb e=>by
  have h1:=h a ha
  have h2:=h b hb
  rw[List.getElem?_eq_getElem h1,List.getElem?_eq_getElem h2] at e
  have hp:=List.pairwise_iff_getElem.1 hl
  rcases Nat.lt_trichotomy a b with h3 | h3 | h3
  ·exact absurd e (hp a b h1 h2 h3)
  ·exact h3
  exact absurd e.symm (hp b a h2 h1 h3)
theorem mi {α β:Type} [DecidableEq β] (f:α->β):∀(bs:List β),bs.Nodup->∀(l:List α),(bs.map fun b=>(l.filter fun a=>decide (f a=b)).length).sum=(l.filter fun a=>decide (f a∈bs)).length
 | [],_,l=>by induction l <;> simp_all
 | b::bs,h,l=>by
  rw[List.nodup_cons] at h
  rw[List.map_cons,List.sum_cons,mi f bs h.2 l]
  clear mi
  induction l with
  | nil=>rfl
  | cons a l ih=>
   simp only[List.filter_cons,List.mem_cons,Bool.decide_or] at ih ⊢
   by_cases e:f a=b
   ·have hn:¬f a∈bs:=e ▸ h.1
    simp only[e,decide_true,if_true,List.length_cons,Bool.true_or]
    rw[e] at hn
    simp only[hn,decide_false]
    simp only[Bool.false_eq_true,if_false]
    omega
   simp only[e,decide_false,Bool.false_or,Bool.false_eq_true,if_false]
   by_cases e2:f a∈bs
   ·simp only[e2,decide_true,if_true,List.length_cons];omega
   simp only[e2,decide_false,Bool.false_eq_true,if_false];omega
theorem qo {β:Type} (key:Nat->β) (m:β->List Nat):∀(bs:List β),bs.Nodup->(∀b∈bs,(m b).Nodup/\∀k∈m b,key k=b)->(bs.flatMap m).Nodup
 | [],_,_=>by simp
 | b::bs,h,hm=>by
  rw[List.nodup_cons] at h
  rw[List.flatMap_cons,List.nodup_append]
  refine⟨(hm b (List.mem_cons_self ..)).1,qo key m bs h.2 fun c hc=>hm c (List.mem_cons_of_mem _ hc),fun x hx y hy e=>?_⟩
  obtain⟨c,hc,OQ⟩:=List.mem_flatMap.1 hy
  have h1:=(hm b (List.mem_cons_self ..)).2 x hx
  have h2:=(hm c (List.mem_cons_of_mem _ hc)).2 y OQ
  rw[e,h2] at h1
  exact h.1 (h1 ▸ hc)
def nn {α:Type} [DecidableEq α]:α->List α->List α
 | _,[]=>[]
 | p,x::r=>if x=p then nn p r else x::nn x r
def sS {α:Type} [DecidableEq α]:List α->List α
 | []=>[]
 | x::r=>x::nn x r
section
variable {α:Type} [DecidableEq α]
theorem pG (y z:α):∀(l:List α) (p:α),(p::l).getLast?=some z->nn p (l++[y])=nn p l++if y=z then [] else [y]
 | [],p,h=>by
  simp at h
  subst h
  simp only[List.nil_append,nn]
 | x::r,p,h=>by
  have h2:(x::r).getLast?=some z:=by rw[<-h];simp[List.getLast?_cons]
  simp only[List.cons_append,nn]
  by_cases e:x=p
  ·subst e
   rw[if_pos rfl,if_pos rfl]
   exact pG y z r x h2
  rw[if_neg e,if_neg e,pG y z r x h2,List.cons_append]
theorem EK {l:List α} {y z:α} (h:l.getLast?=some z):sS (l++[y])=sS l++if y=z then [] else [y]:=by
 cases l with
 | nil=>cases h
 | cons x r=>rw[List.cons_append,sS,pG y z r x h];rfl
theorem sE {x:α}:∀{l:List α} {p:α},x∈nn p l->x∈l
 | [],_,h=>h
 | y::r,p,h=>by
  rw[nn] at h
  split at h
  ·exact List.mem_cons_of_mem _ (sE h)
  rcases List.mem_cons.1 h with h | h
  ·exact h ▸ List.mem_cons_self ..
  exact List.mem_cons_of_mem _ (sE h)
theorem sF {x:α}:∀{l:List α} {p:α},x∈l->x=p\/x∈nn p l
 | y::r,p,h=>by
  rw[nn]
  rcases List.mem_cons.1 h with rfl | h
  ·by_cases e:x=p
   ·exact .inl e
   rw[if_neg e];exact .inr (List.mem_cons_self ..)
  by_cases e:y=p
  ·rw[if_pos e];exact sF h
  rw[if_neg e]
  rcases sF (p:=y) h with h | h
  ·exact .inr (h ▸ List.mem_cons_self ..)
  exact .inr (List.mem_cons_of_mem _ h)
theorem Gs {x:α} {l:List α}:x∈sS l↔x∈l:=by
 cases l with
 | nil=>exact Iff.rfl
 | cons y r=>
  rw[sS]
  constructor
  ·intro h
   rcases List.mem_cons.1 h with h | h
   ·exact h ▸ List.mem_cons_self ..
   exact List.mem_cons_of_mem _ (sE h)
  intro h
  rcases List.mem_cons.1 h with h | h
  ·exact h ▸ List.mem_cons_self ..
  rcases sF (p:=y) h with h | h
  ·exact h ▸ List.mem_cons_self ..
  exact List.mem_cons_of_mem _ h
theorem vV:∀(l:List α),(sS l).length<=l.length:=by
 have:∀(l:List α) (p:α),(nn p l).length<=l.length:=by
  intro l
  induction l with
  | nil=>intro p;simp[nn]
  | cons x r ih=>
   intro p
   rw[nn]
   split
   ·have:=ih p;simp only[List.length_cons];omega
   have:=ih x;simp only[List.length_cons];omega
 intro l
 cases l with
 | nil=>simp[sS]
 | cons x r=>rw[sS];have:=this r x;simp only[List.length_cons];omega
end
def lexLt (a b:Int×Int):Prop:=a.1 < b.1\/a.1=b.1/\a.2 < b.2
instance (a b:Int×Int):Decidable (lexLt a b):=by unfold lexLt;infer_instance
end aK
end Go.Proofs.YtiaifckpmefinaaGreatDoor
