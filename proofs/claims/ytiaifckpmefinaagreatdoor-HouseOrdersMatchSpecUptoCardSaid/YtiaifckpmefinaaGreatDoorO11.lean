/- Part 11 of 14 of the proof of HouseOrdersMatchSpec (the names are shortened by a program: the size of a claim is limited). -/
import Derived.Test.YtiaifckpmefinaaGreatDoorO10
set_option linter.unusedVariables false
set_option linter.unusedSimpArgs false
set_option maxRecDepth 100000
set_option maxHeartbeats 8000000
namespace Go.Proofs.YtiaifckpmefinaaGreatDoor
namespace M
open Go.AM Go.RowKit Go.Lib
open bq (bw cv ff)
def qc {α:Type} (f:α->ByteArray) (l:List α) (x:ByteArray):Option α:=if 0<=dO f l x then l[(dO f l x).toNat]? else none
theorem ig {α:Type} {f:α->ByteArray} {l:List α} {x:ByteArray} (h:dk f l x=true):∃(k:Nat) (y:α),dO f l x=k/\l[k]?=some y/\f y=x/\qc f l x=some y:=by
 have h2:0<=dO f l x:=by
  have:=gn (f:=f) (l:=l) (x:=x)
  rw[h] at this
  have:=of_decide_eq_false this
  omega
 obtain⟨k,y,e1,e2,e3⟩:=mH h2
 exact⟨k,y,e1,e2,e3,by rw[qc,if_pos h2,e1,Int.toNat_natCast,e2]⟩
theorem je {α:Type} {f:α->ByteArray} {l:List α} {x:ByteArray} (h:dk f l x=false):qc f l x=none:=by
 have:=gn (f:=f) (l:=l) (x:=x)
 rw[h] at this
 have:=of_decide_eq_true this
 rw[qc,if_neg (by omega)]
structure Lay where
 name:ByteArray
 mat:ByteArray
def jf (l:Lay):List PV:=[str l.name,str l.mat]
def m0:eJ:=⟨aF,0,0,0⟩
def kE (m:List eJ) (y:ByteArray):eJ:=(qc eJ.name m y).getD m0
def de (m:List eJ) (y:ByteArray):Int:=(kE m y).kind
def kf (l:List eJ) (i:Nat):Int:=match l[i]? with
 | some x=>if cD x.name=true then (if er x.kind 1 3=true then (if er x.thick 1 2000=true then (if er x.grow 0 1000=true then (if bE (l.map eJ.name) i=true then 8 else 0) else 1) else 1) else 4) else 5
 | none=>0
def ee (l:List eJ):Int:=if 50 < l.length then 2 else a8 (kf l) 0 l.length
def tb (l:List eJ):Prop:=l.length<=1048576/\∀x∈l,bO x.name
structure tc (l:List eJ):Prop where
 len:l.length<=50
 ord:cG eJ.name l
 kind:∀x∈l,1<=x.kind/\x.kind<=3
 thick:∀x∈l,1<=x.thick/\x.thick<=2000
theorem u6 {l:List eJ} (h:ee l=0):tc l:=by
 unfold ee at h
 split at h
 ·cases h
 have key:∀i x,l[i]?=some x->(1<=x.kind/\x.kind<=3)/\(1<=x.thick/\x.thick<=2000)/\bE (l.map eJ.name) i=false:=fun i x hx=>by
  have h2:=c_ h i (Nat.zero_le _) (by rw[Nat.zero_add];exact (List.getElem?_eq_some_iff.1 hx).1)
  simp only[kf,hx] at h2
  split at h2
  ·split at h2
   ·rename_i h3
    split at h2
    ·rename_i h5
     split at h2
     ·cases e:bE (l.map eJ.name) i with
      | false=>exact⟨eE.1 h3,eE.1 h5,rfl⟩
      | true=>rw[e] at h2;cases h2
     cases h2
    cases h2
   cases h2
  cases h2
 have mem:∀x∈l,∃k:Nat,l[k]?=some x:=fun x hx=>List.mem_iff_getElem?.1 hx
 exact⟨by omega,gH fun i hi=>(key i _ (List.getElem?_eq_getElem hi)).2.2,fun x hx=>by obtain⟨k,hk⟩:=mem x hx;exact (key k x hk).1,fun x hx=>by obtain⟨k,hk⟩:=mem x hx;exact (key k x hk).2.1⟩
theorem Et {m:List eJ} (hm:tc m) (y:ByteArray):(dk eJ.name m y=true/\1<=de m y/\de m y<=3)\/(dk eJ.name m y=false/\de m y=0):=by
 cases h:dk eJ.name m y with
 | true=>
  obtain⟨k,x,_,e2,_,e4⟩:=ig h
  refine .inl ⟨rfl,?_⟩
  rw[de,kE,e4]
  exact hm.kind x (List.mem_of_getElem? e2)
 | false=>exact .inr ⟨rfl,by rw[de,kE,je h];rfl⟩
def mM (m:List eJ) (s:List Lay) (i:Nat):Int:=if i=0 then 0 else match s[i - 1]? with
 | some l=>de m l.mat
 | none=>0
def lC (k b:Int):Prop:=(k=1/\b=1)\/(k=2/\b≠0/\b≠1)\/(b=2/\k≠1)
instance (k b:Int):Decidable (lC k b):=by unfold lC;infer_instance
def lR (s:List Lay) (n:ByteArray):Bool:=s.any fun l=>decide (l.name=n)
def eL (m:List eJ) (s:List Lay) (i:Nat):Int:=match s[i]? with
 | some l=>if de m l.mat=0 then 9 else if de m l.mat=1/\cD l.name=false then 5 else if de m l.mat≠1/\¬l.name=aF then 5 else if de m l.mat=1/\lR (s.take i) l.name=true then 7 else if lC (de m l.mat) (mM m s i) then 8 else 0
 | none=>0
def mN (m:List eJ) (s:List Lay) (k:Nat):Bool:=match s[k]? with
 | some l=>decide (de m l.mat=1)
 | none=>false
def fP (m:List eJ) (s:List Lay) (i:Nat):List Int:=((List.range i).filter (mN m s)).map fun k:Nat=>(k:Int)
def td (m:List eJ) (s:List Lay):Int:=if (fP m s s.length).length < 2 then 3 else if mN m s 0=false then 3 else if mN m s (s.length - 1)=false then 3 else 0
def dD (m:List eJ) (s:List Lay):Int:=nq (ee m) (if 60 < s.length then 2 else nq (a8 (eL m s) 0 s.length) (td m s))
def rI (s:List Lay):Prop:=s.length<=1048576/\∀l∈s,bO l.name/\bO l.mat
theorem u7 {m:List eJ} {s:List Lay} {i:Nat}:fP m s (i+1)=fP m s i++(if mN m s i=true then [(i:Int)] else []):=by
 unfold fP
 rw[List.range_succ,List.filter_append,List.map_append]
 congr 1
 cases h:mN m s i <;> simp[h]
theorem tf {m:List eJ} {s:List Lay} {i:Nat}:(fP m s i).length<=i:=by
 unfold fP
 rw[List.length_map]
 exact Nat.le_trans (List.length_filter_le _ _) (by simp)
theorem yp {m:List eJ} {s:List Lay} (h:¬(fP m s s.length).length < 2):2<=s.length:=by
 have:=tf (m:=m) (s:=s) (i:=s.length)
 omega
theorem rj (l:List eJ) (ho:tb l):aw C 111 [.pv (.sl (l.map jT))] (.p (i64 (ee l))) []:=by
 refine aE hC Tryz.func111 rfl rfl 51 rfl (by decide) (by kernel_rfl) fun _ _ _ _ _=>?_
 have lm:=aJ l jT
 (refine yS<|yA Z<|yT<|an<|yS<|yP Z<|yP Z<|yP Z<|yT<|ak Z ?_;refine aa (fun g1=>?_) (fun g1=>?_) <;> try simp only[zB] at g1)
 ·(refine yS<|yA Z<|yT<|aA<|af<|aB zi ?_;refine And.intro ?_ trivial)
  rw[ee,if_pos (by omega)];rfl
 rw[ee,if_neg (by omega)]
 refine ar<|ah<|an<|yS<|yP Z<|yP Z<|yP Z<|yT<|aO ?_
 refine aC (fun i:Nat=>i<=l.length/\∀k,k < i->kf l k=0) (fun i=>[(0,.p (.sl (l.map jT))),(8,.p (.sl (l.map jT))),(9,.p (i64 l.length)),(10,.p (i64 i))]) (fun _=>[]) (fun i=>l.length - i) 0 _ (bg.refl _ _) ⟨Nat.zero_le _,fun k h=>by omega⟩ ⟨rfl,rfl,congrArg (fun n:Nat=>AV.p (i64 n)) lm,Z,Y⟩ trivial fun i hi t h=>?_
 (refine yS<|yP Z<|yT<|an<|ak Z ?_;refine aa (fun h1=>?_) (fun h1=>?_) <;> try simp only[zB] at h1)
 ·obtain⟨x,hx⟩:=aH (l:=l) (i:=i) (by omega)
  have cf:kf l i=(if cD x.name=true then (if er x.kind 1 3=true then (if er x.thick 1 2000=true then (if er x.grow 0 1000=true then (if bE (l.map eJ.name) i=true then 8 else 0) else 1) else 1) else 4) else 5):=by simp only[kf,hx]
  (refine ar<|ah<|an<|aO<|yS<|yP Z<|yq Z<|aL zI ?_;refine⟨(jT x),(idx rfl hx),?_⟩)
  have so:=ho.2 x (List.mem_of_getElem? hx)
  ((refine yk<|yP Z<|yn Z<|az zI<|aR<|ai<|yA Z<|yq Z<|az zI<|aX<|aM<|aU<|yT<|aO ?_;refine yS<|yV Z<|yP Z<|yn Z<|aL zI ?_);refine⟨_,_,(eD x.name so.le),?_⟩)
  (refine br Z Z<|ae<|yP Z<|yA Z<|yT<|ak Z ?_;refine aa (fun a1=>?_) (fun a1=>?_) <;> try simp only[zB] at a1)
  ·(refine yS<|yA Z<|yT<|aA<|aq<|aq<|af<|af<|aq<|af<|aB zi ?_;refine And.intro ?_ trivial)
   rw[if_neg (by simp[a1])] at cf
   rw[aI hi.2 (by omega) cf (by decide)];rfl
  rw[if_pos (by simpa using a1)] at cf
  (refine yS<|yV Z<|yP Z<|yn Z<|aL zI ?_;refine⟨_,_,(lx x.kind 1 3),?_⟩)
  (refine br Z Z<|ae<|yP Z<|yA Z<|yT<|ak Z ?_;refine aa (fun a2=>?_) (fun a2=>?_) <;> try simp only[zB] at a2)
  ·(refine yS<|yA Z<|yT<|aA<|aq<|aq<|af<|af<|aq<|af<|aB zi ?_;refine And.intro ?_ trivial)
   rw[if_neg (by simp[a2])] at cf
   rw[aI hi.2 (by omega) cf (by decide)];rfl
  rw[if_pos (by simpa using a2)] at cf
  (refine yS<|yV Z<|yP Z<|yn Z<|aL zI ?_;refine⟨_,_,(lx x.thick 1 2000),?_⟩)
  (refine br Z Z<|ae<|yP Z<|yP Z<|yg Z ?_;refine aa (fun a3=>?_) (fun a3=>?_) <;> try simp only[zB] at a3)
  ·((refine aT<|ae<|y0 Z<|y0 Z<|y0 Z<|yP Z<|yA Z<|yT<|ak Z<|cu<|yS<|yA Z<|yT<|aA ?_;refine aq<|aq<|af<|af<|aq<|af<|aB zi ?_);refine And.intro ?_ trivial)
   rw[if_neg (by simp[a3])] at cf
   rw[aI hi.2 (by omega) cf (by decide)];rfl
  rw[if_pos (by simpa using a3)] at cf
  (refine aV<|aN Z Z<|az zI<|aX<|ai<|y1 Z<|y2 Z<|cx Z Z Z<|aL zI ?_;refine⟨_,_,(lx x.grow 0 1000),?_⟩)
  (refine br Z Z<|ae<|y1 Z<|yP Z<|yA Z<|yT<|ak Z ?_;refine aa (fun a4=>?_) (fun a4=>?_) <;> try simp only[zB] at a4)
  ·(refine yS<|yA Z<|yT<|aA<|aq<|aq<|af<|af<|aq<|af<|aB zi ?_;refine And.intro ?_ trivial)
   rw[if_neg (by simp[a4])] at cf
   rw[aI hi.2 (by omega) cf (by decide)];rfl
  rw[if_pos (by simpa using a4)] at cf
  (refine an<|cF [] false lX rfl (by kernel_rfl)<|cE Z<|yD Z<|yD Z<|yD Z<|dg Z ?_;refine aa (fun o1=>?_) (fun o1=>?_) <;> try simp only[zB] at o1)
  ·obtain⟨z,hz⟩:=aH (l:=l) (i:=i - 1) (by omega)
   rw[dG (f:=eJ.name) hx hz (by omega)] at cf
   (refine aV<|bA Z<|az zI<|bM<|ai<|d1 Z<|d1 Z<|d1 Z<|d2 Z<|bA Z<|bb zI ?_;refine sI ?_)
   (refine bM<|ae<|d2 Z<|bA Z<|aL zI ?_;refine⟨(jT z),(idx (show (i:Int) - 1=((i - 1:Nat):Int) by omega) hz),?_⟩)
   ((refine bM<|ae<|d1 Z<|d1 Z<|d1 Z<|yD Z<|yD Z<|bR<|ao Z<|ao Z<|ao Z<|ao Z<|ao Z<|ao Z ?_;refine ao Z<|ao Z<|ao Z<|ao Z<|ao Z<|ao Z<|ao Z<|dH Z Z<|bS Z<|ah<|ak Z ?_);refine aa (fun o2=>?_) (fun o2=>?_) <;> try simp only[zB] at o2)
   ·(refine yS<|yA Z<|yT<|aA<|aq<|aq<|af<|af<|aq<|af<|aB zi ?_;refine And.intro ?_ trivial)
    have o2:(cB (eJ.name x) (eJ.name z) || decide (eJ.name x=eJ.name z))=true:=by simpa [cB] using o2
    rw[o2,if_pos rfl] at cf
    rw[aI hi.2 (by omega) cf (by decide)];rfl
   have o2:(cB (eJ.name x) (eJ.name z) || decide (eJ.name x=eJ.name z))=false:=by simpa [cB] using o2
   rw[o2,if_neg (by decide)] at cf
   (refine ar<|aS<|aS<|ah<|aP<|yq Z<|bb zI ?_;refine sI ?_)
   (refine yk<|yP Z<|yT<|au ?_;refine⟨(i+1),_,bg.refl _ _,?_⟩)
   exact⟨⟨by omega,cw hi.2 cf⟩,by omega,⟨Z,Z,Z,Z,Y⟩,trivial⟩
  have h0:i=0:=by omega
  rw[eU h0,if_neg (by decide)] at cf
  ((refine aT<|ae<|d0 Z<|d0 Z<|d0 Z<|d0 Z<|d0 Z<|d0 Z<|d0 Z<|d0 Z<|yD Z<|yD Z<|bR<|ao Z ?_;refine ao Z<|ao Z<|ao Z<|ao Z<|ao Z<|ao Z<|ao Z<|ao Z<|ao Z<|ao Z<|ao Z<|ao Z<|dH Z Z<|bS Z ?_;refine ah<|ak Z<|bz<|ar<|aS<|aS<|ah<|aP<|yq Z<|bb zI ?_);refine sI ?_)
  (refine yk<|yP Z<|yT<|au ?_;refine⟨(i+1),_,bg.refl _ _,?_⟩)
  exact⟨⟨by omega,cw hi.2 cf⟩,by omega,⟨Z,Z,Z,Z,Y⟩,trivial⟩
 (refine bF<|aQ<|aQ<|bG<|ah<|yS<|yA Z<|yR zi ?_;refine And.intro ?_ trivial)
 have z0:a8 (kf l) 0 l.length=0:=bp fun k _ hk=>hi.2 k (by omega)
 rw[z0];rfl
theorem th (l:List eJ) (ho:tb l):aw C 52 [.pv (.sl (l.map jT))] (.p (i64 (ee l))) []:=by
 refine aE hC Tryz.func52 rfl rfl 51 rfl (by decide) (by kernel_rfl) fun _ _ _ _ _=>?_
 have lm:=aJ l jT
 (refine yS<|yA Z<|yT<|an<|yS<|yP Z<|yP Z<|yP Z<|yT<|ak Z ?_;refine aa (fun g1=>?_) (fun g1=>?_) <;> try simp only[zB] at g1)
 ·(refine yS<|yA Z<|yT<|aA<|af<|aB zi ?_;refine And.intro ?_ trivial)
  rw[ee,if_pos (by omega)];rfl
 rw[ee,if_neg (by omega)]
 refine ar<|ah<|an<|yS<|yP Z<|yP Z<|yP Z<|yT<|aO ?_
 refine aC (fun i:Nat=>i<=l.length/\∀k,k < i->kf l k=0) (fun i=>[(0,.p (.sl (l.map jT))),(8,.p (.sl (l.map jT))),(9,.p (i64 l.length)),(10,.p (i64 i))]) (fun _=>[]) (fun i=>l.length - i) 0 _ (bg.refl _ _) ⟨Nat.zero_le _,fun k h=>by omega⟩ ⟨rfl,rfl,congrArg (fun n:Nat=>AV.p (i64 n)) lm,Z,Y⟩ trivial fun i hi t h=>?_
 (refine yS<|yP Z<|yT<|an<|ak Z ?_;refine aa (fun h1=>?_) (fun h1=>?_) <;> try simp only[zB] at h1)
 ·obtain⟨x,hx⟩:=aH (l:=l) (i:=i) (by omega)
  have cf:kf l i=(if cD x.name=true then (if er x.kind 1 3=true then (if er x.thick 1 2000=true then (if er x.grow 0 1000=true then (if bE (l.map eJ.name) i=true then 8 else 0) else 1) else 1) else 4) else 5):=by simp only[kf,hx]
  (refine ar<|ah<|an<|aO<|yS<|yP Z<|yq Z<|aL zI ?_;refine⟨(jT x),(idx rfl hx),?_⟩)
  have so:=ho.2 x (List.mem_of_getElem? hx)
  ((refine yk<|yP Z<|yn Z<|az zI<|aR<|ai<|yA Z<|yq Z<|az zI<|aX<|aM<|aU<|yT<|aO ?_;refine yS<|yV Z<|yP Z<|yn Z<|aL zI ?_);refine⟨_,_,(qM x.name so.le),?_⟩)
  (refine br Z Z<|ae<|yP Z<|yA Z<|yT<|ak Z ?_;refine aa (fun a1=>?_) (fun a1=>?_) <;> try simp only[zB] at a1)
  ·(refine yS<|yA Z<|yT<|aA<|aq<|aq<|af<|af<|aq<|af<|aB zi ?_;refine And.intro ?_ trivial)
   rw[if_neg (by simp[a1])] at cf
   rw[aI hi.2 (by omega) cf (by decide)];rfl
  rw[if_pos (by simpa using a1)] at cf
  (refine yS<|yV Z<|yP Z<|yn Z<|aL zI ?_;refine⟨_,_,(jS x.kind 1 3),?_⟩)
  (refine br Z Z<|ae<|yP Z<|yA Z<|yT<|ak Z ?_;refine aa (fun a2=>?_) (fun a2=>?_) <;> try simp only[zB] at a2)
  ·(refine yS<|yA Z<|yT<|aA<|aq<|aq<|af<|af<|aq<|af<|aB zi ?_;refine And.intro ?_ trivial)
   rw[if_neg (by simp[a2])] at cf
   rw[aI hi.2 (by omega) cf (by decide)];rfl
  rw[if_pos (by simpa using a2)] at cf
  (refine yS<|yV Z<|yP Z<|yn Z<|aL zI ?_;refine⟨_,_,(jS x.thick 1 2000),?_⟩)
  (refine br Z Z<|ae<|yP Z<|yP Z<|yg Z ?_;refine aa (fun a3=>?_) (fun a3=>?_) <;> try simp only[zB] at a3)
  ·((refine aT<|ae<|y0 Z<|y0 Z<|y0 Z<|yP Z<|yA Z<|yT<|ak Z<|cu<|yS<|yA Z<|yT<|aA ?_;refine aq<|aq<|af<|af<|aq<|af<|aB zi ?_);refine And.intro ?_ trivial)
   rw[if_neg (by simp[a3])] at cf
   rw[aI hi.2 (by omega) cf (by decide)];rfl
  rw[if_pos (by simpa using a3)] at cf
  (refine aV<|aN Z Z<|az zI<|aX<|ai<|y1 Z<|y2 Z<|cx Z Z Z<|aL zI ?_;refine⟨_,_,(jS x.grow 0 1000),?_⟩)
  (refine br Z Z<|ae<|y1 Z<|yP Z<|yA Z<|yT<|ak Z ?_;refine aa (fun a4=>?_) (fun a4=>?_) <;> try simp only[zB] at a4)
  ·(refine yS<|yA Z<|yT<|aA<|aq<|aq<|af<|af<|aq<|af<|aB zi ?_;refine And.intro ?_ trivial)
   rw[if_neg (by simp[a4])] at cf
   rw[aI hi.2 (by omega) cf (by decide)];rfl
  rw[if_pos (by simpa using a4)] at cf
  (refine an<|cF [] false lX rfl (by kernel_rfl)<|cE Z<|yD Z<|yD Z<|yD Z<|dg Z ?_;refine aa (fun o1=>?_) (fun o1=>?_) <;> try simp only[zB] at o1)
  ·obtain⟨z,hz⟩:=aH (l:=l) (i:=i - 1) (by omega)
   rw[dG (f:=eJ.name) hx hz (by omega)] at cf
   (refine aV<|bA Z<|az zI<|bM<|ai<|d1 Z<|d1 Z<|d1 Z<|d2 Z<|bA Z<|bb zI ?_;refine sI ?_)
   (refine bM<|ae<|d2 Z<|bA Z<|aL zI ?_;refine⟨(jT z),(idx (show (i:Int) - 1=((i - 1:Nat):Int) by omega) hz),?_⟩)
   ((refine bM<|ae<|d1 Z<|d1 Z<|d1 Z<|yD Z<|yD Z<|bR<|ao Z<|ao Z<|ao Z<|ao Z<|ao Z<|ao Z ?_;refine ao Z<|ao Z<|ao Z<|ao Z<|ao Z<|ao Z<|ao Z<|dH Z Z<|bS Z<|ah<|ak Z ?_);refine aa (fun o2=>?_) (fun o2=>?_) <;> try simp only[zB] at o2)
   ·(refine yS<|yA Z<|yT<|aA<|aq<|aq<|af<|af<|aq<|af<|aB zi ?_;refine And.intro ?_ trivial)
    have o2:(cB (eJ.name x) (eJ.name z) || decide (eJ.name x=eJ.name z))=true:=by simpa [cB] using o2
    rw[o2,if_pos rfl] at cf
    rw[aI hi.2 (by omega) cf (by decide)];rfl
   have o2:(cB (eJ.name x) (eJ.name z) || decide (eJ.name x=eJ.name z))=false:=by simpa [cB] using o2
   rw[o2,if_neg (by decide)] at cf
   (refine ar<|aS<|aS<|ah<|aP<|yq Z<|bb zI ?_;refine sI ?_)
   (refine yk<|yP Z<|yT<|au ?_;refine⟨(i+1),_,bg.refl _ _,?_⟩)
   exact⟨⟨by omega,cw hi.2 cf⟩,by omega,⟨Z,Z,Z,Z,Y⟩,trivial⟩
  have h0:i=0:=by omega
  rw[eU h0,if_neg (by decide)] at cf
  ((refine aT<|ae<|d0 Z<|d0 Z<|d0 Z<|d0 Z<|d0 Z<|d0 Z<|d0 Z<|d0 Z<|yD Z<|yD Z<|bR<|ao Z ?_;refine ao Z<|ao Z<|ao Z<|ao Z<|ao Z<|ao Z<|ao Z<|ao Z<|ao Z<|ao Z<|ao Z<|ao Z<|dH Z Z<|bS Z ?_;refine ah<|ak Z<|bz<|ar<|aS<|aS<|ah<|aP<|yq Z<|bb zI ?_);refine sI ?_)
  (refine yk<|yP Z<|yT<|au ?_;refine⟨(i+1),_,bg.refl _ _,?_⟩)
  exact⟨⟨by omega,cw hi.2 cf⟩,by omega,⟨Z,Z,Z,Z,Y⟩,trivial⟩
 (refine bF<|aQ<|aQ<|bG<|ah<|yS<|yA Z<|yR zi ?_;refine And.intro ?_ trivial)
 have z0:a8 (kf l) 0 l.length=0:=bp fun k _ hk=>hi.2 k (by omega)
 rw[z0];rfl
theorem kF (m:List eJ) (y:ByteArray) (hs:cG eJ.name m) (hN:m.length<=1000000):aw C 112 [.pv (.sl (m.map jT)),.pv (str y)] (.tu [.ag (jT (kE m y)),bool (dk eJ.name m y)]) []:=by
 refine aE hC Tryz.func112 rfl rfl 21 rfl (by decide) (by kernel_rfl) fun _ _ _ _ _=>?_
 have hp:=gG (x:=y) hs
 (refine yS<|yn Z<|az zI<|aR<|ai<|yA Z<|yU<|yP Z<|yP Z<|yn Z<|aL zI ?_;refine⟨_,_,(Ad m y hs (by omega)),?_⟩)
 ((refine br Z Z<|bU<|yq Z<|az zI<|aX<|bU<|yP Z<|yP Z<|yA Z<|yA Z<|yT<|an<|yS<|yP Z ?_;refine yP Z<|yT<|ak Z ?_);refine aa (fun h1=>?_) (fun h1=>?_) <;> try simp only[zB] at h1)
 ·(refine yS<|yP Z<|yq Z<|az zI<|aX<|aM<|aU<|yA Z<|yT<|aA<|af<|aB zi ?_;refine And.intro ?_ trivial)
  have h1:dk eJ.name m y=false:=by simpa using h1
  rw[kE,je h1,h1]
  rfl
 have h1:dk eJ.name m y=true:=by simpa using h1
 rw[if_pos h1] at hp
 obtain⟨k,x,e1,e2,e3,e4⟩:=ig h1
 (refine ar<|ah<|yS<|yP Z<|yP Z<|yq Z<|aL zI ?_;refine⟨(jT x),(idx (hp.symm.trans e1) e2),?_⟩)
 (refine yk<|yP Z<|yq Z<|az zI<|aX<|aM<|aU<|yA Z<|yR zi ?_;refine And.intro ?_ trivial)
 rw[kE,e4,h1]
 rfl
theorem lD (m:List eJ) (l:Lay) (hs:cG eJ.name m) (hN:m.length<=1000000):aw C 115 [.pv (.sl (m.map jT)),.pv (.ag (jf l))] (.p (i64 (de m l.mat))) []:=by
 refine aE hC Tryz.func115 rfl rfl 16 rfl (by decide) (by kernel_rfl) fun _ _ _ _ _=>?_
 (refine yS<|yn Z<|az zI<|aR<|ai<|yA Z<|yU<|yP Z<|yV Z<|yP Z<|yn Z<|aL zI ?_;refine⟨_,_,(kF m l.mat hs hN),?_⟩)
 ((refine br Z Z<|bU<|yq Z<|az zI<|aX<|bU<|yP Z<|yP Z<|yn Z<|az zI<|aR<|ai<|yq Z<|az zI ?_;refine aX<|aM<|aU<|yA Z<|yU<|yV Z<|yP Z<|yA Z<|yR zi ?_);refine And.intro ?_ trivial)
 rfl
theorem gv (m:List eJ) (y:ByteArray) (hN:m.length<=140737488355328):aw C 139 [.pv (.sl (m.map jT)),.pv (str y)] (.p (.ag (jT (kE m y)))) []:=by
 refine aE hC Tryz.func139 rfl rfl 20 rfl (by decide) (by kernel_rfl) fun _ _ _ _ _=>?_
 have lm:=aJ m jT
 refine yS<|yn Z<|az zI<|aR<|ai<|yT<|an<|yS<|yP Z<|yP Z<|yP Z<|yT<|aO ?_
 refine aC (fun i:Nat=>i<=m.length/\∀z∈m.take i,decide (z.name=y)=false) (fun i=>[(1,.p (str y)),(4,.bx 4 0),(7,.p (.sl (m.map jT))),(8,.p (i64 (m.map jT).length)),(9,.p (i64 i))]) (fun _=>[(4,.box ((jT m0).map .p))]) (fun i=>m.length - i) 0 _ (bg.refl _ _) ⟨Nat.zero_le _,by simp⟩ ⟨Z,Z,Z,Z,Z,Y⟩ ⟨Z,Y⟩ fun i hi t h=>?_
 (refine yS<|yP Z<|yT<|an<|ak Z ?_;refine aa (fun h1=>?_) (fun h1=>?_) <;> try simp only[zB] at h1)
 ·rw[lm] at h1
  obtain⟨r,hr⟩:=aH (l:=m) (i:=i) (by omega)
  (refine ar<|ah<|an<|aO<|yS<|yq Z<|aL zI ?_;refine⟨(jT r),(idx rfl hr),?_⟩)
  ((refine yk<|yP Z<|yn Z<|az zI<|aR<|ai<|yq Z<|az zI<|aX<|aM<|aU<|yU<|yV Z<|yP Z ?_;refine yP Z<|yP Z<|yT<|ak Z ?_);refine aa (fun h2=>?_) (fun h2=>?_) <;> try simp only[zB] at h2)
  ·((refine yS<|yP Z<|yq Z<|az zI<|aX<|aM<|aU<|yT<|aA<|aq<|af<|af<|aq<|af ?_;refine aB zi ?_);refine And.intro ?_ trivial)
   have e:dO eJ.name m y=(i:Int):=by rw[dO,cY (p:=fun z=>decide (eJ.name z=y)) hr (decide_eq_true h2) hi.2,Nat.zero_add]
   rw[kE,qc,if_pos (by omega),e,Int.toNat_natCast,hr]
   rfl
  (refine ar<|aS<|ah<|aP<|yq Z<|bb zI ?_;refine sI ?_)
  (refine yk<|yP Z<|yT<|au ?_;refine⟨(i+1),_,bg.refl _ _,?_⟩)
  exact⟨⟨by omega,dV (p:=fun z=>decide (eJ.name z=y)) hr (decide_eq_false h2) hi.2⟩,by omega,⟨Z,Z,Z,Z,Z,Y⟩,⟨Z,Y⟩⟩
 rw[lm] at h1
 (refine bF<|aQ<|aQ<|bG<|ah<|yS<|yP Z<|yq Z<|az zI<|aX<|aM<|aU<|yR zi ?_;refine And.intro ?_ trivial)
 have h2:=hi.2
 rw[List.take_of_length_le (by omega)] at h2
 have e:dO eJ.name m y=-1:=by rw[dO,cr (p:=fun z=>decide (eJ.name z=y)) h2]
 rw[kE,qc,if_neg (by omega)]
 rfl
theorem kg (m:List eJ) (l:Lay) (hN:m.length<=140737488355328):aw C 55 [.pv (.sl (m.map jT)),.pv (.ag (jf l))] (.p (bool (decide (de m l.mat=1)))) []:=by
 refine aE hC Tryz.func55 rfl rfl 11 rfl (by decide) (by kernel_rfl) fun _ _ _ _ _=>?_
 (refine yS<|yn Z<|az zI<|aR<|ai<|yA Z<|yU<|yP Z<|yV Z<|yP Z<|yn Z<|aL zI ?_;refine⟨_,_,(gv m l.mat hN),?_⟩)
 (refine br Z Z<|ae<|yP Z<|yP Z<|yA Z<|yR zi ?_;refine And.intro ?_ trivial)
 rfl
theorem uy (m:List eJ) (s:List Lay) (hs:cG eJ.name m) (hN:m.length<=1000000) (hS:s.length<=1048576):aw C 114 [.pv (.sl (m.map jT)),.pv (.sl (s.map jf))] (.own 3 ((fP m s s.length).map fun n=>[i64 n])) []:=by
 refine aE hC Tryz.func114 rfl rfl 25 rfl (by decide) (by kernel_rfl) fun _ _ _ _ _=>?_
 have lm:=aJ s jf
 refine yS<|yB Z<|yU<|yB Z<|yT<|an<|yS<|yP Z<|yP Z<|yP Z<|yT<|aO ?_
 refine aC (fun i:Nat=>i<=s.length) (fun i=>[(0,.p (.sl (m.map jT))),(5,.ow 5),(8,.p (.sl (s.map jf))),(9,.p (i64 s.length)),(10,.p (i64 i))]) (fun i=>[(5,.row 3 ((fP m s i).map fun n=>[i64 n]))]) (fun i=>s.length - i) 0 _ (bg.iN hC _ 5 3 _ (by decide) rfl rfl (by decide)) (Nat.zero_le _) ⟨rfl,rfl,rfl,congrArg (fun n:Nat=>AV.p (i64 n)) lm,Z,Y⟩ ⟨Z,Y⟩ fun i hi t h=>?_
 (refine yS<|yP Z<|yT<|an<|ak Z ?_;refine aa (fun h1=>?_) (fun h1=>?_) <;> try simp only[zB] at h1)
 ·obtain⟨x,hx⟩:=aH (l:=s) (i:=i) (by omega)
  have hc:mN m s i=decide (de m x.mat=1):=by rw[mN,hx]
  have jg:=u7 (m:=m) (s:=s) (i:=i)
  have hle:=tf (m:=m) (s:=s) (i:=i)
  have F7:((fP m s i).map fun n=>[i64 n]).length=(fP m s i).length:=List.length_map ..
  (refine ar<|ah<|an<|aO<|yS<|yP Z<|yq Z<|aL zI ?_;refine⟨(jf x),(idx rfl hx),?_⟩)
  ((refine yk<|yP Z<|yn Z<|az zI<|aR<|ai<|yA Z<|yq Z<|az zI<|aX<|aM<|aU<|yU<|yP Z ?_;refine yP Z<|yn Z<|aL zI ?_);refine⟨_,_,(lD m x hs hN),?_⟩)
  (refine br Z Z<|ae<|yP Z<|yT<|ak Z ?_;refine aa (fun h2=>?_) (fun h2=>?_) <;> try simp only[zB] at h2)
  ·rw[hc,if_pos (decide_eq_true h2)] at jg
   (refine aP<|yq Z<|az zI<|aX<|aG<|yP Z<|yn Z<|az zI<|aR<|aG<|yn Z<|bb zI ?_;refine And.intro ⟨by simp,by rw[F7];simp;omega,by rw[F7];simp;omega⟩ ?_)
   (refine aR<|aM<|aG<|dx Z<|cO Z Z Z Z Z<|dB<|aS<|ah<|aP<|yq Z<|bb zI ?_;refine sI ?_)
   (refine yk<|yP Z<|yT<|au ?_;refine⟨(i+1),_,bg.refl _ _,?_⟩)
   exact⟨by omega,by omega,⟨Z,Z,Z,Z,Z,Y⟩,⟨by rw[jg,List.map_append];rfl,trivial⟩⟩
  rw[hc,if_neg (by rw[decide_eq_false h2];decide),List.append_nil] at jg
  (refine ar<|aS<|ah<|aP<|yq Z<|bb zI ?_;refine sI ?_)
  (refine yk<|yP Z<|yT<|au ?_;refine⟨(i+1),_,bg.refl _ _,?_⟩)
  exact⟨by omega,by omega,⟨Z,Z,Z,Z,Z,Y⟩,⟨by rw[jg];rfl,trivial⟩⟩
 have e:i=s.length:=by omega
 refine bF<|aQ<|aQ<|bG<|ah<|yS<|yq Z<|az zI<|aX<|aG<|dx Z<|cO Z Z Z Z Z<|yR zi ?_
 rw[e]
 exact⟨Z,Z,Y⟩
theorem wG (m:List eJ) (s:List Lay)  (hN:m.length<=1000000) (hS:s.length<=1048576):aw C 54 [.pv (.sl (m.map jT)),.pv (.sl (s.map jf))] (.own 3 ((fP m s s.length).map fun n=>[i64 n])) []:=by
 refine aE hC Tryz.func54 rfl rfl 24 rfl (by decide) (by kernel_rfl) fun _ _ _ _ _=>?_
 have lm:=aJ s jf
 refine yS<|yB Z<|yU<|yB Z<|yT<|an<|yS<|yP Z<|yP Z<|yP Z<|yT<|aO ?_
 refine aC (fun i:Nat=>i<=s.length) (fun i=>[(0,.p (.sl (m.map jT))),(5,.ow 5),(8,.p (.sl (s.map jf))),(9,.p (i64 s.length)),(10,.p (i64 i))]) (fun i=>[(5,.row 3 ((fP m s i).map fun n=>[i64 n]))]) (fun i=>s.length - i) 0 _ (bg.iN hC _ 5 3 _ (by decide) rfl rfl (by decide)) (Nat.zero_le _) ⟨rfl,rfl,rfl,congrArg (fun n:Nat=>AV.p (i64 n)) lm,Z,Y⟩ ⟨Z,Y⟩ fun i hi t h=>?_
 (refine yS<|yP Z<|yT<|an<|ak Z ?_;refine aa (fun h1=>?_) (fun h1=>?_) <;> try simp only[zB] at h1)
 ·obtain⟨x,hx⟩:=aH (l:=s) (i:=i) (by omega)
  have hc:mN m s i=decide (de m x.mat=1):=by rw[mN,hx]
  have jg:=u7 (m:=m) (s:=s) (i:=i)
  have hle:=tf (m:=m) (s:=s) (i:=i)
  have F7:((fP m s i).map fun n=>[i64 n]).length=(fP m s i).length:=List.length_map ..
  (refine ar<|ah<|an<|aO<|yS<|yP Z<|yq Z<|aL zI ?_;refine⟨(jf x),(idx rfl hx),?_⟩)
  ((refine yk<|yP Z<|yn Z<|az zI<|aR<|ai<|yA Z<|yq Z<|az zI<|aX<|aM<|aU<|yU<|yP Z ?_;refine yP Z<|yn Z<|aL zI ?_);refine⟨_,_,(kg m x (by omega)),?_⟩)
  (refine br Z Z<|ae<|yT<|ak Z ?_;refine aa (fun h2=>?_) (fun h2=>?_) <;> try simp only[zB] at h2)
  ·rw[hc,if_pos (decide_eq_true h2)] at jg
   (refine aP<|yq Z<|az zI<|aX<|aG<|yP Z<|yn Z<|az zI<|aR<|aG<|yn Z<|bb zI ?_;refine And.intro ⟨by simp,by rw[F7];simp;omega,by rw[F7];simp;omega⟩ ?_)
   (refine aR<|aM<|aG<|dx Z<|cO Z Z Z Z Z<|dB<|aS<|ah<|aP<|yq Z<|bb zI ?_;refine sI ?_)
   (refine yk<|yP Z<|yT<|au ?_;refine⟨(i+1),_,bg.refl _ _,?_⟩)
   exact⟨by omega,by omega,⟨Z,Z,Z,Z,Z,Y⟩,⟨by rw[jg,List.map_append];rfl,trivial⟩⟩
  rw[hc,if_neg (by rw[decide_eq_false h2];decide),List.append_nil] at jg
  (refine ar<|aS<|ah<|aP<|yq Z<|bb zI ?_;refine sI ?_)
  (refine yk<|yP Z<|yT<|au ?_;refine⟨(i+1),_,bg.refl _ _,?_⟩)
  exact⟨by omega,by omega,⟨Z,Z,Z,Z,Z,Y⟩,⟨by rw[jg];rfl,trivial⟩⟩
 have e:i=s.length:=by omega
 refine bF<|aQ<|aQ<|bG<|ah<|yS<|yq Z<|az zI<|aX<|aG<|dx Z<|cO Z Z Z Z Z<|yR zi ?_
 rw[e]
 exact⟨Z,Z,Y⟩
theorem Ak {s:List Lay} {i:Nat} {l:Lay} (h:s[i]?=some l) (n:ByteArray):lR (s.take (i+1)) n=(lR (s.take i) n || decide (l.name=n)):=by
 rw[bB h,lR,List.any_append]
 simp[lR]
theorem Cu {m:List eJ} {s:List Lay} {i:Nat} {l:Lay} (h:s[i]?=some l):mM m s (i+1)=de m l.mat:=by
 unfold mM
 rw[if_neg (by omega),Nat.add_sub_cancel,h]
theorem Eu {m:List eJ} {s:List Lay} {i:Nat} (hi:i<=s.length) (hq:∀k,k < i->eL m s k=0) (h0:0 < i):mM m s i≠0:=by
 obtain⟨l,hl⟩:=aH (l:=s) (i:=i - 1) (by omega)
 have h1:=hq (i - 1) (by omega)
 unfold mM
 rw[if_neg (by omega),hl]
 intro e
 simp only[eL,hl] at h1
 rw[if_pos e] at h1
 cases h1
theorem nt {m:List eJ} {s:List Lay} {k:Nat} {l:Lay} (h:s[k]?=some l):mN m s k=decide (de m l.mat=1):=by rw[mN,h]
theorem qd (m:List eJ) (s:List Lay) (hm:tb m) (hs:rI s):aw C 44 [.pv (.sl (m.map jT)),.pv (.sl (s.map jf))] (.p (i64 (dD m s))) []:=by
 refine aE hC Tryz.func44 rfl rfl 121 rfl (by decide) (by kernel_rfl) fun _ _ _ _ _=>?_
 have lm:=aJ s jf
 (refine yS<|yA Z<|yT<|an<|yS<|yP Z<|yn Z<|aL zI ?_;refine⟨_,_,(rj m hm),?_⟩)
 (refine br Z Z<|ae<|yA Z<|yU<|yP Z<|yP Z<|yT<|ak Z ?_;refine aa (fun g1=>?_) (fun g1=>?_) <;> try simp only[zB] at g1)
 ·have g1:ee m≠0:=by simpa using g1
  (refine yS<|yP Z<|yA Z<|yT<|aA<|af<|aB zi ?_;refine And.intro ?_ trivial)
  rw[dD,dy rfl g1]
 have g1:ee m=0:=by simpa using g1
 have gm:=u6 g1
 have gl:=gm.len
 rw[dD,eM g1]
 (refine ar<|ah<|an<|yS<|yP Z<|yP Z<|yP Z<|yT<|ak Z ?_;refine aa (fun g2=>?_) (fun g2=>?_) <;> try simp only[zB] at g2)
 ·(refine yS<|yA Z<|yT<|aA<|af<|aB zi ?_;refine And.intro ?_ trivial)
  rw[if_pos (by omega)];rfl
 rw[if_neg (by omega)]
 have It:=uy m s gm.ord (by omega) hs.1
 have hcl:=aJ (fP m s s.length) fun n=>[i64 n]
 (refine ar (ah (yS (yn Z (az zI (aR (aG (dx Z (sG Z Z Z (A3 Z) (aG (yU (yA Z (yT (an ?_)))))))))))));refine yS<|yP Z<|yP Z<|yP Z<|yT<|aO ?_)
 refine aC (fun p:Nat×List (Value×PV)=>p.1<=s.length/\(∀k,k < p.1->eL m s k=0)/\∀n,gN p.2 (.string n)=if lR (s.take p.1) n=true then some (bool true) else none) (fun p=>[(0,.p (.sl (m.map jT))),(1,.p (.sl (s.map jf))),(6,.ow 22),(7,.p (i64 (mM m s p.1))),(23,.p (.sl (s.map jf))),(24,.p (i64 s.length)),(25,.p (i64 p.1))]) (fun p=>[(22,.map .str p.2)]) (fun p=>s.length - p.1) (0,[]) _ (bg.refl _ _) ⟨Nat.zero_le _,fun k h=>by simp only at h;omega,fun n=>rfl⟩ ⟨rfl,rfl,rfl,rfl,rfl,congrArg (fun n:Nat=>AV.p (i64 n)) lm,Z,Y⟩ ⟨Z,Y⟩ fun ⟨i,es⟩ hi tt h=>?_
 obtain⟨q1,q2,q3⟩:=hi
 simp only at q1 q2 q3
 (refine yS<|yP Z<|yT<|an<|ak Z ?_;refine aa (fun h1=>?_) (fun h1=>?_) <;> try simp only[zB] at h1)
 ·obtain⟨l,hx⟩:=aH (l:=s) (i:=i) (by omega)
  have cf:eL m s i=(if de m l.mat=0 then 9 else if de m l.mat=1/\cD l.name=false then 5 else if de m l.mat≠1/\¬l.name=aF then 5 else if de m l.mat=1/\lR (s.take i) l.name=true then 7 else if lC (de m l.mat) (mM m s i) then 8 else 0):=by simp only[eL,hx]
  have bad:∀{c:Int},eL m s i=c->c≠0->a8 (eL m s) 0 s.length=c:=fun e h0=>aI q2 (by omega) e h0
  obtain⟨so,Em⟩:=hs.2 l (List.mem_of_getElem? hx)
  have q:=q3 l.name
  have hb:=Cu (m:=m) hx
  (refine ar<|ah<|an<|aO<|yS<|yq Z<|aL zI ?_;refine⟨(jf l),(idx rfl hx),?_⟩)
  ((refine yk<|yP Z<|yn Z<|az zI<|aR<|ai<|yq Z<|az zI<|aX<|aM<|aU<|yU<|yP Z<|yV Z ?_;refine yP Z<|yn Z<|aL zI ?_);refine⟨_,_,(kF m l.mat gm.ord (by omega)),?_⟩)
  rcases Et gm l.mat with⟨k1,k2,k3⟩ | ⟨k1,k2⟩
  rotate_left
  ·((refine br Z Z<|bU<|yq Z<|az zI<|aX<|bU<|yP Z<|yP Z<|yn Z<|az zI<|aR<|ai<|yq Z<|az zI ?_;refine aX<|aM<|aU<|yA Z<|yU<|yV Z<|yP Z<|yP Z<|yA Z<|yT<|an<|aO<|yS<|yP Z ?_;refine yP Z<|yA Z<|yT<|ak Z ?_);refine aa (fun a1=>?_) (fun a1=>?_) <;> try simp only[zB] at a1)
   ·(refine yS<|yA Z<|yT<|aA<|aq<|af<|aq<|af<|af<|aq<|af<|aB zi ?_;refine And.intro ?_ trivial)
    rw[if_pos k2] at cf
    rw[dy (bad cf (by decide)) (by decide)];rfl
   exfalso;rw[k1] at a1;simp at a1
  have vj:de m l.mat=(kE m l.mat).kind:=rfl
  generalize de m l.mat=K at *
  rw[if_neg (by omega)] at cf
  ((refine br Z Z<|bU<|yq Z<|az zI<|aX<|bU<|yP Z<|yP Z<|yn Z<|az zI<|aR<|ai<|yq Z<|az zI ?_;refine aX<|aM<|aU<|yA Z<|yU<|yV Z<|yP Z<|yP Z<|yA Z<|yT<|an<|aO<|yS<|yP Z ?_;refine yP Z<|yA Z<|yT<|ak Z ?_);refine aa (fun a1=>?_) (fun a1=>?_) <;> try simp only[zB] at a1)
  ·exfalso;rw[k1] at a1;simp at a1
  have keys:∀n,gN (iz es (.string l.name) (bool true)) (.string n)=if lR (s.take (i+1)) n=true then some (bool true) else none:=fun n=>by
   rw[nm,Ak hx]
   by_cases e:n=l.name
   ·rw[if_pos e,e];simp
   rw[if_neg e,q3 n,decide_eq_false (fun e2=>e e2.symm),Bool.or_false]
  have fin:¬lC K (mM m s i)->eL m s i=(if lC K (mM m s i) then 8 else 0)->∀k,k < i+1->eL m s k=0:=fun h0 e=>cw q2 (by rw[e,if_neg h0])
  (refine yS<|yP Z<|yP Z<|yg Z ?_;refine aa (fun a2=>?_) (fun a2=>?_) <;> try simp only[zB] at a2)
  ·have a2:K=1:=by rw[vj];exact a2
   (refine aV<|aN Z Z<|az zI<|aX<|ai<|y1 Z<|y2 Z<|cx Z Z Z<|aL zI ?_;refine⟨_,_,(eD l.name so.le),?_⟩)
   (refine br Z Z<|ae<|y1 Z<|yP Z<|yP Z<|yg Z ?_;refine aa (fun a3=>?_) (fun a3=>?_) <;> try simp only[zB] at a3)
   ·((refine aT<|ae<|y0 Z<|y0 Z<|aj Z Z Z Z<|ae<|aj Z Z Z Z<|ae<|aj Z Z Z Z<|ae<|y0 Z<|yP Z<|yA Z<|yT ?_;refine ak Z<|cu<|yS<|yA Z<|yT<|aA<|aq<|af<|aq<|af<|af<|aq<|af<|aB zi ?_);refine And.intro ?_ trivial)
    rw[if_pos ⟨a2,by simpa using a3⟩] at cf
    rw[dy (bad cf (by decide)) (by decide)];rfl
   rw[if_neg (fun e=>by simp[e.2] at a3),if_neg (fun e=>e.1 a2)] at cf
   (refine aV<|aN Z Z<|az zI<|yk<|y1 Z<|y1 Z<|yg Z ?_;refine aa (fun a4=>?_) (fun a4=>?_) <;> try simp only[zB] at a4)
   ·exfalso;omega
   (refine aT<|ae<|y0 Z<|y0 Z<|y1 Z<|yP Z<|yA Z<|yT<|ak Z<|bz<|yS<|yP Z<|yP Z<|yg Z ?_;refine aa (fun a5=>?_) (fun a5=>?_) <;> try simp only[zB] at a5)
   rotate_left
   ·exfalso;omega
   cases hS:lR (s.take i) l.name with
   | true=>
    rw[hS] at q cf
    (refine aV<|aN Z Z<|az zI<|aX<|aG<|y2 Z<|aN Z Z<|az zI<|aX<|ai<|y1 Z<|y2 Z<|aN Z Z<|aL zI ?_;refine⟨(some (bool true)),q,?_⟩)
    ((refine yk<|yP Z<|yA Z<|yT<|ak Z<|cu<|yS<|yA Z<|yT<|aA<|aq<|af<|aq<|af ?_;refine af<|aq<|af<|aB zi ?_);refine And.intro ?_ trivial)
    rw[if_pos ⟨a2,rfl⟩] at cf
    rw[dy (bad cf (by decide)) (by decide)];rfl
   | false=>
    rw[hS] at q cf
    rw[if_neg (fun e=>by cases e.2)] at cf
    (refine aV<|aN Z Z<|az zI<|aX<|aG<|y2 Z<|aN Z Z<|az zI<|aX<|ai<|y1 Z<|y2 Z<|aN Z Z<|aL zI ?_;refine⟨none,q,?_⟩)
    repeat' ((first | (refine aT<|ae<|y0 Z<|yP Z<|yP Z<|y0 Z<|y0 Z<|yP Z<|yA Z<|yT<|ak Z<|bz<|aP<|yP Z ?_;refine yP Z<|yP Z<|yg Z ?_) | (refine aT<|ae<|y0 Z<|yP Z<|yA Z<|yT<|ak Z<|bz<|yS<|yV Z<|yP Z<|yP Z<|yP Z<|yg Z ?_) | (refine aV<|aN Z Z<|az zI<|yk<|y1 Z<|yP Z<|yA Z<|yT<|ak Z ?_) | (refine aT<|ae<|y0 Z<|yP Z<|yA Z<|yT<|ak Z<|bz<|aP<|yP Z<|yP Z<|yP Z<|yg Z ?_) | (refine yk<|yP Z<|yA Z<|yT<|ak Z<|bz<|an<|yS<|yP Z<|yP Z<|yg Z ?_) | (refine aV<|aN Z Z<|az zI<|yk<|y1 Z<|yP Z<|yP Z<|yg Z ?_) | (refine yS<|yV Z<|yP Z<|yP Z<|yP Z<|yg Z ?_) | (refine aP<|yP Z<|yP Z<|yP Z<|yg Z ?_) | (refine ar<|ah<|ak Z ?_));refine aa (fun d=>?_) (fun d=>?_) <;> try simp only[zB] at d)
    all_goals (first | (refine aT<|ae<|y0 Z<|yP Z<|yA Z<|yT<|ak Z<|bz<|ar<|aS<|ah<|yS<|yq Z<|az zI ?_;refine aX<|aG<|yV Z<|yP Z<|yq Z<|az zI<|aX<|aM<|aU<|yT<|aP<|yV Z<|yP Z<|yA Z ?_;refine dB<|aS<|ah<|aP<|yq Z<|bb zI ?_) | (refine ar<|aS<|ah<|yS<|yq Z<|az zI<|aX<|aG<|yV Z<|yP Z<|yq Z<|az zI<|aX<|aM ?_;refine aU<|yT<|aP<|yV Z<|yP Z<|yA Z<|dB<|aS<|ah<|aP<|yq Z<|bb zI ?_) | (refine yS<|yA Z<|yT<|aA<|aq<|af<|aq<|af<|af<|aq<|af<|aB zi ?_))
    all_goals first
     | (exfalso;omega)
     | (
       refine And.intro ⟨by dsimp only;omega,by dsimp only;omega⟩ ?_
       (refine yk<|yP Z<|yT<|au ?_;refine⟨(i+1,iz es (.string l.name) (bool true)),_,bg.refl _ _,?_⟩)
       exact⟨⟨by dsimp only;omega,fin (by unfold lC;omega) cf,keys⟩,by dsimp only;omega,⟨rfl,rfl,rfl,cb (by rw[<-vj];exact hb.symm),Z,Z,Z,Y⟩,⟨Z,Y⟩⟩)
     | (
       refine And.intro ?_ trivial
       rw[if_pos (by unfold lC;omega)] at cf
       rw[dy (bad cf (by decide)) (by decide)];rfl)
  have a2:¬K=1:=by rw[vj];exact a2
  rw[if_neg (fun e=>a2 e.1)] at cf
  (refine aT<|ae<|y0 Z<|y0 Z<|y0 Z<|yP Z<|yP Z<|y1 Z<|y1 Z<|y1 Z<|yg Z ?_;refine aa (fun a4=>?_) (fun a4=>?_) <;> try simp only[zB] at a4)
  rotate_left
  ·exfalso;omega
  (refine aV<|aN Z Z<|az zI<|aX<|ai<|y1 Z<|y1 Z<|y1 Z<|yP Z<|yA Z<|yT<|ak Z ?_;refine aa (fun a3=>?_) (fun a3=>?_) <;> try simp only[zB] at a3)
  ·have a3:¬l.name=aF:=a3
   (refine yS<|yA Z<|yT<|aA<|aq<|af<|aq<|af<|af<|aq<|af<|aB zi ?_;refine And.intro ?_ trivial)
   rw[if_pos ⟨a2,a3⟩] at cf
   rw[dy (bad cf (by decide)) (by decide)];rfl
  have a3:l.name=aF:=by simpa [aF] using a3
  rw[if_neg (fun e=>e.2 a3),if_neg (fun e=>a2 e.1)] at cf
  repeat' ((first | (refine aT<|ae<|y0 Z<|yP Z<|yP Z<|y0 Z<|y0 Z<|yP Z<|yA Z<|yT<|ak Z<|bz<|aP<|yP Z ?_;refine yP Z<|yP Z<|yg Z ?_) | (refine aT<|ae<|y0 Z<|y0 Z<|y0 Z<|yP Z<|yA Z<|yT<|ak Z<|bz<|an<|yS<|yP Z<|yP Z ?_;refine yg Z ?_) | (refine aT<|ae<|y0 Z<|yP Z<|yA Z<|yT<|ak Z<|bz<|yS<|yV Z<|yP Z<|yP Z<|yP Z<|yg Z ?_) | (refine aV<|aN Z Z<|az zI<|yk<|y1 Z<|yP Z<|yA Z<|yT<|ak Z ?_) | (refine aT<|ae<|y0 Z<|yP Z<|yA Z<|yT<|ak Z<|bz<|aP<|yP Z<|yP Z<|yP Z<|yg Z ?_) | (refine aV<|aN Z Z<|az zI<|yk<|y1 Z<|yP Z<|yP Z<|yg Z ?_) | (refine yS<|yV Z<|yP Z<|yP Z<|yP Z<|yg Z ?_) | (refine yS<|yP Z<|yP Z<|yg Z ?_) | (refine aP<|yP Z<|yP Z<|yP Z<|yg Z ?_) | (refine ar<|ah<|ak Z ?_));refine aa (fun d=>?_) (fun d=>?_) <;> try simp only[zB] at d)
  all_goals (first | (refine aT<|ae<|y0 Z<|yP Z<|yA Z<|yT<|ak Z<|bz<|ar<|aS<|ah<|yS<|yq Z<|az zI ?_;refine aX<|aG<|yV Z<|yP Z<|yq Z<|az zI<|aX<|aM<|aU<|yT<|aP<|yV Z<|yP Z<|yA Z ?_;refine dB<|aS<|ah<|aP<|yq Z<|bb zI ?_) | (refine ar<|aS<|ah<|yS<|yq Z<|az zI<|aX<|aG<|yV Z<|yP Z<|yq Z<|az zI<|aX<|aM ?_;refine aU<|yT<|aP<|yV Z<|yP Z<|yA Z<|dB<|aS<|ah<|aP<|yq Z<|bb zI ?_) | (refine aV<|aN Z Z<|az zI<|aX<|aG<|y2 Z<|aN Z Z<|az zI<|aX<|ai<|y1 Z<|y2 Z<|aN Z Z<|aL zI ?_) | (refine yS<|yA Z<|yT<|aA<|aq<|af<|aq<|af<|af<|aq<|af<|aB zi ?_))
  all_goals first
   | (exfalso;omega)
   | (
     refine And.intro ⟨by dsimp only;omega,by dsimp only;omega⟩ ?_
     (refine yk<|yP Z<|yT<|au ?_;refine⟨(i+1,iz es (.string l.name) (bool true)),_,bg.refl _ _,?_⟩)
     exact⟨⟨by dsimp only;omega,fin (by unfold lC;omega) cf,keys⟩,by dsimp only;omega,⟨rfl,rfl,rfl,cb (by rw[<-vj];exact hb.symm),Z,Z,Z,Y⟩,⟨Z,Y⟩⟩)
   | (
     refine And.intro ?_ trivial
     rw[if_pos (by unfold lC;omega)] at cf
     rw[dy (bad cf (by decide)) (by decide)];rfl)
 have z0:a8 (eL m s) 0 s.length=0:=bp fun k _ hk=>q2 k (by omega)
 rw[eM z0]
 (refine bF<|aQ<|aQ<|bG<|ah<|an<|yS<|yP Z<|yP Z<|yn Z<|aL zI ?_;refine⟨_,_,It,?_⟩)
 (refine aR<|aG<|yP Z<|yA Z<|yU<|yP Z<|yP Z<|yP Z<|yg Z ?_;refine aa (fun e1=>?_) (fun e1=>?_) <;> try simp only[zB] at e1)
 ·((refine aT<|ae<|y0 Z<|y0 Z<|y0 Z<|y0 Z<|y0 Z<|yP Z<|yP Z<|y0 Z<|y0 Z<|y0 Z<|y0 Z<|y0 Z ?_;refine y0 Z<|y0 Z<|y0 Z<|y0 Z<|yP Z<|yT<|ak Z<|cu<|yS<|yA Z<|yT<|aA<|af<|aB zi ?_);refine And.intro ?_ trivial)
  rw[td,if_pos (by omega)];rfl
 have e2:=yp (m:=m) (s:=s) (by omega)
 rw[td,if_neg (by omega)]
 obtain⟨l,hl⟩:=aH (l:=s) (i:=0) (by omega)
 obtain⟨l2,uC⟩:=aH (l:=s) (i:=s.length - 1) (by omega)
 rw[nt hl,nt uC]
 (refine aV<|aN Z Z<|az zI<|yk<|y1 Z<|y2 Z<|aN Z Z<|aL zI ?_;refine⟨(jf l),(idx (k:=0) rfl hl),?_⟩)
 (refine yk<|y1 Z<|y2 Z<|cx Z Z Z<|aL zI ?_;refine⟨_,_,(lD m l gm.ord (by omega)),?_⟩)
 (refine br Z Z<|ae<|y1 Z<|yP Z<|yP Z<|yg Z ?_;refine aa (fun e3=>?_) (fun e3=>?_) <;> try simp only[zB] at e3)
 ·have e3:¬de m l.mat=1:=e3
  ((refine aT<|ae<|y0 Z<|y0 Z<|y0 Z<|y0 Z<|y0 Z<|y0 Z<|y0 Z<|y0 Z<|yP Z<|yT<|ak Z<|cu ?_;refine yS<|yA Z<|yT<|aA<|af<|aB zi ?_);refine And.intro ?_ trivial)
  rw[decide_eq_false e3];rfl
 have e3:de m l.mat=1:=by simpa using e3
 rw[decide_eq_true e3,if_neg (by decide)]
 (refine aV<|aN Z Z<|az zI<|yk<|y1 Z<|y1 Z<|y1 Z<|y2 Z<|aN Z Z<|bb zI ?_;refine sI ?_)
 (refine yk<|y2 Z<|aN Z Z<|aL zI ?_;refine⟨(jf l2),(idx (show ((((s.map jf).length:Nat):Int) - 1)=((s.length - 1:Nat):Int) by omega) uC),?_⟩)
 (refine yk<|y1 Z<|y2 Z<|cx Z Z Z<|aL zI ?_;refine⟨_,_,(lD m l2 gm.ord (by omega)),?_⟩)
 (refine br Z Z<|ae<|y1 Z<|yP Z<|yT<|ak Z ?_;refine aa (fun e4=>?_) (fun e4=>?_) <;> try simp only[zB] at e4)
 ·have e4:¬de m l2.mat=1:=e4
  (refine yS<|yA Z<|yT<|aA<|af<|aB zi ?_;refine And.intro ?_ trivial)
  rw[decide_eq_false e4];rfl
 have e4:de m l2.mat=1:=by simpa using e4
 rw[decide_eq_true e4,if_neg (by decide)]
 (refine ar<|ah<|yS<|yA Z<|yR zi ?_;refine And.intro ?_ trivial)
 rfl
theorem rk (m:List eJ) (s:List Lay) (i:Nat) (hi:i < s.length) (gm:tc m) (hs:rI s) (hq:∀k,k < i->eL m s k=0):aw C 53 [.pv (.sl (m.map jT)),.pv (.sl (s.map jf)),.pv (i64 i)] (.p (i64 (eL m s i))) []:=by
 refine aE hC Tryz.func53 rfl rfl 94 rfl (by decide) (by kernel_rfl) fun _ _ _ _ _=>?_
 have lm:=aJ s jf
 have gl:=gm.len
 have Iu:=hs.1
 obtain⟨l,hx⟩:=aH (l:=s) (i:=i) (by omega)
 obtain⟨so,Em⟩:=hs.2 l (List.mem_of_getElem? hx)
 have cf:eL m s i=(if de m l.mat=0 then 9 else if de m l.mat=1/\cD l.name=false then 5 else if de m l.mat≠1/\¬l.name=aF then 5 else if de m l.mat=1/\lR (s.take i) l.name=true then 7 else if lC (de m l.mat) (mM m s i) then 8 else 0):=by simp only[eL,hx]
 have vj:de m l.mat=(kE m l.mat).kind:=rfl
 have e8:(0 < i->mM m s i≠0):=Eu (by omega) hq
 have e9:i=0->mM m s i=0:=fun e=>by rw[mM,if_pos e]
 have Jd:∀z,s[i - 1]?=some z->0 < i->mM m s i=(kE m z.mat).kind:=fun z hz h0=>by
  unfold mM;rw[if_neg (by omega),hz];rfl
 (refine yS<|yA Z<|yU<|yP Z<|yP Z<|yP Z<|yq Z<|aL zI ?_;refine⟨(jf l),(idx rfl hx),?_⟩)
 (refine yk<|yP Z<|yP Z<|yn Z<|aL zI ?_;refine⟨_,_,(gv m l.mat (by omega)),?_⟩)
 generalize de m l.mat=K at *
 (refine br Z Z<|ae<|yP Z<|yA Z<|yT<|an<|yS<|yP Z<|yP Z<|yT<|ak Z ?_;refine aa (fun a1=>?_) (fun a1=>?_) <;> try simp only[zB] at a1)
 ·have a1:K=0:=by rw[vj];exact a1
  (refine yS<|yA Z<|yT<|aA<|af<|aB zi ?_;refine And.intro ?_ trivial)
  rw[cf,if_pos a1];rfl
 have a1:¬K=0:=by rw[vj];exact a1
 rw[if_neg a1] at cf
 have tail:¬i=0->∀z,s[i - 1]?=some z->eL m s i=(if lC K (mM m s i) then 8 else 0)->eL m s i=(if lC K (mM m s i) then 8 else 0):=fun _ _ _ h=>h
 (refine ar<|ah<|an<|yS<|yP Z<|yP Z<|yP Z<|yg Z ?_;refine aa (fun a2=>?_) (fun a2=>?_) <;> try simp only[zB] at a2)
 ·have a2:K=1:=by rw[vj];exact a2
  (refine aV<|aN Z Z<|az zI<|yk<|y1 Z<|y2 Z<|aN Z Z<|aL zI ?_;refine⟨(jf l),(idx rfl hx),?_⟩)
  (refine yk<|y1 Z<|y1 Z<|y2 Z<|cx Z Z Z<|aL zI ?_;refine⟨_,_,(qM l.name so.le),?_⟩)
  (refine br Z Z<|ae<|y1 Z<|yP Z<|yP Z<|yg Z ?_;refine aa (fun a3=>?_) (fun a3=>?_) <;> try simp only[zB] at a3)
  ·((refine aT<|ae<|y0 Z<|y0 Z<|aj Z Z Z Z<|ae<|aj Z Z Z Z<|ae<|aj Z Z Z Z<|ae<|aj Z Z Z Z<|ae<|aj Z Z Z Z<|ae ?_;refine aj Z Z Z Z<|ae<|y0 Z<|yP Z<|yT<|ak Z<|cu<|yS<|yA Z<|yT<|aA<|af<|aB zi ?_);refine And.intro ?_ trivial)
   rw[cf,if_pos ⟨a2,by simpa using a3⟩];rfl
  rw[if_neg (fun e=>by simp[e.2] at a3),if_neg (fun e=>e.1 a2)] at cf
  (refine aV<|aN Z Z<|az zI<|yk<|y1 Z<|y1 Z<|yg Z ?_;refine aa (fun a4=>?_) (fun a4=>?_) <;> try simp only[zB] at a4)
  ·exfalso;omega
  ((refine aT<|ae<|y0 Z<|y0 Z<|y0 Z<|y0 Z<|y0 Z<|y1 Z<|yP Z<|yT<|ak Z<|bz<|ar<|ah ?_;refine an<|yS<|yP Z<|yP Z<|yT<|ak Z ?_);refine aa (fun a5=>?_) (fun a5=>?_) <;> try simp only[zB] at a5)
  rotate_left
  ·exfalso;omega
  have et:(s.map jf).take i=(s.take i).map jf:=List.map_take.symm
  have el:((s.map jf).take i).length=i:=by rw[List.length_take];omega
  (refine yS<|yP Z<|yP Z<|yq Z<|bb zI ?_;refine And.intro ⟨by omega,by omega,by omega,pk fun _=>rfl⟩ ?_)
  refine yk<|yP Z<|yP Z<|yT<|aO ?_
  refine aC (fun j:Nat=>j<=i/\∀z∈(s.take i).take j,decide (z.name=l.name)=false) (fun j=>[(0,.p (.sl (m.map jT))),(1,.p (.sl (s.map jf))),(2,.p (i64 i)),(7,.p (i64 (kE m l.mat).kind)),(48,.p (.sl ((s.map jf).take i))),(49,.p (i64 i)),(50,.p (i64 j))]) (fun _=>[]) (fun j=>i - j) 0 _ (bg.refl _ _) ⟨Nat.zero_le _,by simp⟩ ⟨rfl,rfl,rfl,rfl,rfl,congrArg (fun n:Nat=>AV.p (i64 n)) el,Z,Y⟩ trivial fun j hj tt h=>?_
  (refine yS<|yP Z<|yT<|an<|ak Z ?_;refine aa (fun b1=>?_) (fun b1=>?_) <;> try simp only[zB] at b1)
  ·obtain⟨z,hz⟩:=aH (l:=s.take i) (i:=j) (by rw[List.length_take];omega)
   rw[et]
   (refine ar<|ah<|an<|aO<|yS<|yq Z<|aL zI ?_;refine⟨(jf z),(idx rfl hz),?_⟩)
   ((refine yk (yP Z (yn Z (az zI (aR (ai (yq Z (az zI (aX (aM (aU (yT (an (cF [] false Km rfl (by kernel_rfl) ?_)))))))))))));refine cE Z<|yW Z<|yD Z<|yD Z<|yD Z<|dq Z<|aL zI ?_);refine⟨(jf l),(idx rfl hx),?_⟩)
   (refine bM<|ae<|yD Z<|yD Z<|yD Z<|bR<|bS Z<|ah<|ak Z ?_;refine aa (fun b2=>?_) (fun b2=>?_) <;> try simp only[zB] at b2)
   ·have b2:z.name=l.name:=b2
    (refine yS<|yA Z<|yT<|aA<|aq<|af<|af<|aq<|af<|aB zi ?_;refine And.intro ?_ trivial)
    rw[cf,if_pos ⟨a2,List.any_eq_true.2 ⟨z,List.mem_of_getElem? hz,decide_eq_true b2⟩⟩];rfl
   have b2:¬z.name=l.name:=b2
   rw[<-et]
   (refine ar<|aS<|ah<|aP<|yq Z<|bb zI ?_;refine sI ?_)
   (refine yk<|yP Z<|yT<|au ?_;refine⟨(j+1),_,bg.refl _ _,?_⟩)
   exact⟨⟨by omega,dV (p:=fun y:Lay=>decide (y.name=l.name)) hz (decide_eq_false b2) hj.2⟩,by omega,⟨Z,Z,Z,Z,Z,Z,Z,Y⟩,trivial⟩
  have C_:lR (s.take i) l.name=false:=by
   rw[lR,List.any_eq_false]
   intro z hz
   have:=hj.2 z (by rw[List.take_of_length_le (by rw[List.length_take];omega)];exact hz)
   simp[this]
  rw[if_neg (fun e=>by rw[C_] at e;cases e.2)] at cf
  (refine bF<|aQ<|aQ<|bG<|ah<|an<|yS<|yP Z<|yP Z<|yT<|ak Z ?_;refine aa (fun b3=>?_) (fun b3=>?_) <;> try simp only[zB] at b3)
  ·(refine yS<|yA Z<|yT<|aA<|af<|aB zi ?_;refine And.intro ?_ trivial)
   have b3:i=0:=by omega
   rw[cf,if_neg (by rw[e9 b3];unfold lC;omega)];rfl
  have b3:0 < i:=by omega
  obtain⟨z,hz⟩:=aH (l:=s) (i:=i - 1) (by omega)
  have e8:=e8 b3
  have Jd:=Jd z hz b3
  (refine ar<|ah<|yS<|yP Z<|yP Z<|yP Z<|yq Z<|bb zI ?_;refine sI ?_)
  (refine yk<|yq Z<|aL zI ?_;refine⟨(jf z),(idx (show (i:Int) - 1=((i - 1:Nat):Int) by omega) hz),?_⟩)
  (refine yk<|yP Z<|yP Z<|yn Z<|aL zI ?_;refine⟨_,_,(gv m z.mat (by omega)),?_⟩)
  repeat' ((first | (refine aT<|ae<|y0 Z<|yP Z<|yP Z<|y1 Z<|y1 Z<|y1 Z<|yg Z ?_) | (refine aV<|aN Z Z<|az zI<|yk<|y1 Z<|y1 Z<|yP Z<|yT<|ak Z ?_) | (refine aT<|ae<|y0 Z<|yP Z<|yT<|ak Z<|bz<|ar<|ah<|an<|yS<|yP Z<|yP Z<|yP Z ?_;refine yg Z ?_) | (refine aV<|aN Z Z<|az zI<|yk<|y1 Z<|y1 Z<|yg Z ?_) | (refine br Z Z<|ae<|yP Z<|yA Z<|yT<|an<|yS<|yP Z<|yP Z<|yP Z<|yg Z ?_) | (refine aV<|aN Z Z<|az zI<|yk<|y1 Z<|yP Z<|yT<|ak Z ?_) | (refine aV<|aN Z Z<|az zI<|yk<|y1 Z<|yP Z<|yP Z<|yg Z ?_) | (refine ar<|ah<|an<|yS<|yP Z<|yP Z<|yP Z<|yg Z ?_));refine aa (fun d=>?_) (fun d=>?_) <;> try simp only[zB] at d)
  all_goals (first | (refine aT<|ae<|y0 Z<|y0 Z<|aj Z Z Z Z<|ae<|aj Z Z Z Z<|ae<|y0 Z<|yP Z<|yT<|ak Z<|cu<|yS ?_;refine yA Z<|yT<|aA<|af<|aB zi ?_) | (refine aT<|ae<|y0 Z<|y1 Z<|yP Z<|yT<|ak Z<|bz<|ar<|ah<|yS<|yA Z<|yR zi ?_) | (refine ar<|ah<|yS<|yA Z<|yR zi ?_) | (refine yS<|yA Z<|yT<|aA<|af<|aB zi ?_))
  all_goals first
   | (exfalso;omega)
   | (
     refine And.intro ?_ trivial
     rw[cf]
     first
      | (rw[if_pos (by unfold lC;omega)];rfl)
      | (rw[if_neg (by unfold lC;omega)];rfl))
 have a2:¬K=1:=by rw[vj];exact a2
 rw[if_neg (fun e=>a2 e.1)] at cf
 (refine aT<|ae<|y0 Z<|y0 Z<|y0 Z<|y0 Z<|y0 Z<|y0 Z<|yP Z<|yP Z<|y1 Z<|y1 Z<|y1 Z<|yg Z ?_;refine aa (fun a5=>?_) (fun a5=>?_) <;> try simp only[zB] at a5)
 rotate_left
 ·exfalso;omega
 (refine aV<|aN Z Z<|az zI<|yk<|y1 Z<|y2 Z<|aN Z Z<|aL zI ?_;refine⟨(jf l),(idx rfl hx),?_⟩)
 (refine yk<|y1 Z<|y1 Z<|y1 Z<|y1 Z<|yP Z<|yT<|ak Z ?_;refine aa (fun a3=>?_) (fun a3=>?_) <;> try simp only[zB] at a3)
 ·have a3:¬l.name=aF:=a3
  (refine yS<|yA Z<|yT<|aA<|af<|aB zi ?_;refine And.intro ?_ trivial)
  rw[cf,if_pos ⟨a2,a3⟩];rfl
 have a3:l.name=aF:=by simpa [aF] using a3
 rw[if_neg (fun e=>e.2 a3),if_neg (fun e=>a2 e.1)] at cf
 (refine ar<|ah<|an<|yS<|yP Z<|yP Z<|yT<|ak Z ?_;refine aa (fun a4=>?_) (fun a4=>?_) <;> try simp only[zB] at a4)
 ·exfalso;exact a2 (by rw[vj];exact a4)
 (refine ar<|ah<|an<|yS<|yP Z<|yP Z<|yT<|ak Z ?_;refine aa (fun b3=>?_) (fun b3=>?_) <;> try simp only[zB] at b3)
 ·(refine yS<|yA Z<|yT<|aA<|af<|aB zi ?_;refine And.intro ?_ trivial)
  have b3:i=0:=by omega
  rw[cf,if_neg (by rw[e9 b3];unfold lC;omega)];rfl
 have b3:0 < i:=by omega
 obtain⟨z,hz⟩:=aH (l:=s) (i:=i - 1) (by omega)
 have e8:=e8 b3
 have Jd:=Jd z hz b3
 (refine ar<|ah<|yS<|yP Z<|yP Z<|yP Z<|yq Z<|bb zI ?_;refine sI ?_)
 (refine yk<|yq Z<|aL zI ?_;refine⟨(jf z),(idx (show (i:Int) - 1=((i - 1:Nat):Int) by omega) hz),?_⟩)
 (refine yk<|yP Z<|yP Z<|yn Z<|aL zI ?_;refine⟨_,_,(gv m z.mat (by omega)),?_⟩)
 repeat' ((first | (refine aT<|ae<|y0 Z<|yP Z<|yP Z<|y1 Z<|y1 Z<|y1 Z<|yg Z ?_) | (refine aV<|aN Z Z<|az zI<|yk<|y1 Z<|y1 Z<|yP Z<|yT<|ak Z ?_) | (refine aT<|ae<|y0 Z<|yP Z<|yT<|ak Z<|bz<|ar<|ah<|an<|yS<|yP Z<|yP Z<|yP Z ?_;refine yg Z ?_) | (refine aV<|aN Z Z<|az zI<|yk<|y1 Z<|y1 Z<|yg Z ?_) | (refine br Z Z<|ae<|yP Z<|yA Z<|yT<|an<|yS<|yP Z<|yP Z<|yP Z<|yg Z ?_) | (refine aV<|aN Z Z<|az zI<|yk<|y1 Z<|yP Z<|yT<|ak Z ?_) | (refine aV<|aN Z Z<|az zI<|yk<|y1 Z<|yP Z<|yP Z<|yg Z ?_) | (refine ar<|ah<|an<|yS<|yP Z<|yP Z<|yP Z<|yg Z ?_));refine aa (fun d=>?_) (fun d=>?_) <;> try simp only[zB] at d)
 all_goals (first | (refine aT<|ae<|y0 Z<|y0 Z<|aj Z Z Z Z<|ae<|aj Z Z Z Z<|ae<|y0 Z<|yP Z<|yT<|ak Z<|cu<|yS ?_;refine yA Z<|yT<|aA<|af<|aB zi ?_) | (refine aT<|ae<|y0 Z<|y1 Z<|yP Z<|yT<|ak Z<|bz<|ar<|ah<|yS<|yA Z<|yR zi ?_) | (refine ar<|ah<|yS<|yA Z<|yR zi ?_) | (refine yS<|yA Z<|yT<|aA<|af<|aB zi ?_))
 all_goals first
  | (exfalso;omega)
  | (
    refine And.intro ?_ trivial
    rw[cf]
    first
     | (rw[if_pos (by unfold lC;omega)];rfl)
     | (rw[if_neg (by unfold lC;omega)];rfl))
theorem rm (m:List eJ) (s:List Lay) (hm:tb m) (hs:rI s):aw C 20 [.pv (.sl (m.map jT)),.pv (.sl (s.map jf))] (.p (i64 (dD m s))) []:=by
 refine aE hC Tryz.func20 rfl rfl 53 rfl (by decide) (by kernel_rfl) fun _ _ _ _ _=>?_
 have lm:=aJ s jf
 (refine yS<|yA Z<|yT<|an<|yS<|yP Z<|yn Z<|aL zI ?_;refine⟨_,_,(th m hm),?_⟩)
 (refine br Z Z<|ae<|yA Z<|yU<|yP Z<|yP Z<|yT<|ak Z ?_;refine aa (fun g1=>?_) (fun g1=>?_) <;> try simp only[zB] at g1)
 ·have g1:ee m≠0:=by simpa using g1
  (refine yS<|yP Z<|yA Z<|yT<|aA<|af<|aB zi ?_;refine And.intro ?_ trivial)
  rw[dD,dy rfl g1]
 have g1:ee m=0:=by simpa using g1
 have gm:=u6 g1
 have gl:=gm.len
 rw[dD,eM g1]
 (refine ar<|ah<|an<|yS<|yP Z<|yP Z<|yP Z<|yT<|ak Z ?_;refine aa (fun g2=>?_) (fun g2=>?_) <;> try simp only[zB] at g2)
 ·(refine yS<|yA Z<|yT<|aA<|af<|aB zi ?_;refine And.intro ?_ trivial)
  rw[if_pos (by omega)];rfl
 rw[if_neg (by omega)]
 have It:=wG m s (by omega) hs.1
 have hcl:=aJ (fP m s s.length) fun n=>[i64 n]
 refine ar<|ah<|an<|yS<|yP Z<|yP Z<|yP Z<|yT<|aO ?_
 refine aC (fun i:Nat=>i<=s.length/\∀k,k < i->eL m s k=0) (fun i=>[(0,.p (.sl (m.map jT))),(1,.p (.sl (s.map jf))),(17,.p (i64 s.length)),(18,.p (i64 i))]) (fun _=>[]) (fun i=>s.length - i) 0 _ (bg.refl _ _) ⟨Nat.zero_le _,fun k h=>by omega⟩ ⟨rfl,rfl,congrArg (fun n:Nat=>AV.p (i64 n)) lm,Z,Y⟩ trivial fun i hi tt h=>?_
 (refine yS<|yP Z<|yT<|an<|ak Z ?_;refine aa (fun h1=>?_) (fun h1=>?_) <;> try simp only[zB] at h1)
 ·(refine ar<|ah<|an<|aO<|yS<|yP Z<|yA Z<|yU<|yP Z<|yP Z<|yP Z<|yn Z<|aL zI ?_;refine⟨_,_,(rk m s i (by omega) gm hs hi.2),?_⟩)
  (refine br Z Z<|ae<|yA Z<|yU<|yP Z<|yP Z<|yT<|ak Z ?_;refine aa (fun a1=>?_) (fun a1=>?_) <;> try simp only[zB] at a1)
  ·have a1:eL m s i≠0:=by simpa using a1
   (refine yS<|yP Z<|yA Z<|yT<|aA<|aq<|af<|af<|aq<|af<|aB zi ?_;refine And.intro ?_ trivial)
   rw[dy (aI hi.2 (by omega) rfl a1) a1]
  have a1:eL m s i=0:=by simpa using a1
  (refine ar<|aS<|ah<|aP<|yq Z<|bb zI ?_;refine sI ?_)
  (refine yk<|yP Z<|yT<|au ?_;refine⟨(i+1),_,bg.refl _ _,?_⟩)
  exact⟨⟨by omega,cw hi.2 a1⟩,by omega,⟨Z,Z,Z,Z,Y⟩,trivial⟩
 have z0:a8 (eL m s) 0 s.length=0:=bp fun k _ hk=>hi.2 k (by omega)
 rw[eM z0]
 (refine bF<|aQ<|aQ<|bG<|ah<|an<|yS<|yP Z<|yP Z<|yn Z<|aL zI ?_;refine⟨_,_,It,?_⟩)
 (refine aR<|aG<|yP Z<|yP Z<|yP Z<|yg Z ?_;refine aa (fun e1=>?_) (fun e1=>?_) <;> try simp only[zB] at e1)
 ·((refine aT<|ae<|y0 Z<|y0 Z<|y0 Z<|y0 Z<|y0 Z<|yP Z<|yP Z<|y0 Z<|y0 Z<|y0 Z<|y0 Z<|y0 Z ?_;refine y0 Z<|y0 Z<|y0 Z<|y0 Z<|yP Z<|yT<|ak Z<|cu<|yS<|yA Z<|yT<|aA<|af<|aB zi ?_);refine And.intro ?_ trivial)
  rw[td,if_pos (by omega)];rfl
 have e2:=yp (m:=m) (s:=s) (by omega)
 rw[td,if_neg (by omega)]
 obtain⟨l,hl⟩:=aH (l:=s) (i:=0) (by omega)
 obtain⟨l2,uC⟩:=aH (l:=s) (i:=s.length - 1) (by omega)
 rw[nt hl,nt uC]
 (refine aV<|aN Z Z<|az zI<|yk<|y1 Z<|y2 Z<|aN Z Z<|aL zI ?_;refine⟨(jf l),(idx (k:=0) rfl hl),?_⟩)
 (refine yk<|y1 Z<|y2 Z<|cx Z Z Z<|aL zI ?_;refine⟨_,_,(kg m l (by omega)),?_⟩)
 (refine br Z Z<|ae<|y1 Z<|yP Z<|yP Z<|yg Z ?_;refine aa (fun e3=>?_) (fun e3=>?_) <;> try simp only[zB] at e3)
 ·have e3:decide (de m l.mat=1)=false:=by simpa using e3
  ((refine aT<|ae<|y0 Z<|y0 Z<|y0 Z<|y0 Z<|y0 Z<|y0 Z<|y0 Z<|y0 Z<|yP Z<|yT<|ak Z<|cu ?_;refine yS<|yA Z<|yT<|aA<|af<|aB zi ?_);refine And.intro ?_ trivial)
  rw[e3];rfl
 have e3:decide (de m l.mat=1)=true:=by simpa using e3
 rw[e3,if_neg (by decide)]
 (refine aV<|aN Z Z<|az zI<|yk<|y1 Z<|y1 Z<|y1 Z<|y2 Z<|aN Z Z<|bb zI ?_;refine sI ?_)
 (refine yk<|y2 Z<|aN Z Z<|aL zI ?_;refine⟨(jf l2),(idx (show ((((s.map jf).length:Nat):Int) - 1)=((s.length - 1:Nat):Int) by omega) uC),?_⟩)
 (refine yk<|y1 Z<|y2 Z<|cx Z Z Z<|aL zI ?_;refine⟨_,_,(kg m l2 (by omega)),?_⟩)
 (refine br Z Z<|ae<|y1 Z<|yP Z<|yT<|ak Z ?_;refine aa (fun e4=>?_) (fun e4=>?_) <;> try simp only[zB] at e4)
 ·have e4:decide (de m l2.mat=1)=false:=by simpa using e4
  (refine yS<|yA Z<|yT<|aA<|af<|aB zi ?_;refine And.intro ?_ trivial)
  rw[e4];rfl
 have e4:decide (de m l2.mat=1)=true:=by simpa using e4
 rw[e4,if_neg (by decide)]
 (refine ar<|ah<|yS<|yA Z<|yR zi ?_;refine And.intro ?_ trivial)
 rfl
structure Place where
 part:ByteArray
 type:ByteArray
 x:Int
 y:Int
 quarters:Int
 below:Bool
def lY (p:Place):List PV:=[str p.part,str p.type,i64 p.x,i64 p.y,i64 p.quarters,bool p.below]
def b0:Body:=⟨aF,0,0,0,aF⟩
def gV (l:List Body) (i:Nat):Int:=match l[i]? with
 | some x=>if cD x.name=true then (if er x.w 1 100000=true then (if er x.h 1 100000=true then (if er x.tall 1 100000=true then (if cD x.nozzle=true then (if bE (l.map Body.name) i=true then 8 else 0) else 5) else 1) else 1) else 1) else 5
 | none=>0
def cH (l:List Body):Int:=if 200 < l.length then 2 else a8 (gV l) 0 l.length
def mO (l:List Body):Prop:=l.length<=1048576/\∀x∈l,bO x.name/\bO x.nozzle
structure Al (l:List Body):Prop where
 len:l.length<=200
 ord:cG Body.name l
theorem qR {l:List Body} (h:cH l=0):Al l:=by
 unfold cH at h
 split at h
 ·cases h
 refine⟨by omega,gH fun i hi=>?_⟩
 have h2:=c_ h i (Nat.zero_le _) (by omega)
 obtain⟨x,hx⟩:=aH (l:=l) (i:=i) hi
 simp only[gV,hx] at h2
 cases e:bE (l.map Body.name) i with
 | false=>rfl
 | true=>
      rw[e] at h2;repeat' split at h2
      all_goals first | (cases h2;done) | (rename_i h3;exact absurd rfl h3)
def fo (b:List Body) (x:Place):Int:=if eT x.part=true then (if dk Body.name b x.type=true then (if (bq.ju x.x && bq.ju x.y)=true then (if er x.quarters 0 3=true then 0 else 1) else 1) else 9) else 5
def gq (b:List Body) (l:List Place) (i:Nat):Int:=match l[i]? with
 | some x=>nq (fo b x) (if bE (l.map Place.part) i=true then 8 else 0)
 | none=>0
def cP (b:List Body) (l:List Place):Int:=nq (cH b) (if 1000 < l.length then 2 else a8 (gq b l) 0 l.length)
def tp (l:List Place):Prop:=l.length<=1048576/\∀x∈l,bO x.part/\bO x.type
theorem pt (l:List Body) (ho:mO l):aw C 120 [.pv (.sl (l.map mF))] (.p (i64 (cH l))) []:=by
 refine aE hC Tryz.func120 rfl rfl 57 rfl (by decide) (by kernel_rfl) fun _ _ _ _ _=>?_
 have lm:=aJ l mF
 (refine yS<|yA Z<|yT<|an<|yS<|yP Z<|yP Z<|yP Z<|yT<|ak Z ?_;refine aa (fun g1=>?_) (fun g1=>?_) <;> try simp only[zB] at g1)
 ·(refine yS<|yA Z<|yT<|aA<|af<|aB zi ?_;refine And.intro ?_ trivial)
  rw[cH,if_pos (by omega)];rfl
 rw[cH,if_neg (by omega)]
 refine ar<|ah<|an<|yS<|yP Z<|yP Z<|yP Z<|yT<|aO ?_
 refine aC (fun i:Nat=>i<=l.length/\∀k,k < i->gV l k=0) (fun i=>[(0,.p (.sl (l.map mF))),(8,.p (.sl (l.map mF))),(9,.p (i64 l.length)),(10,.p (i64 i))]) (fun _=>[]) (fun i=>l.length - i) 0 _ (bg.refl _ _) ⟨Nat.zero_le _,fun k h=>by omega⟩ ⟨rfl,rfl,congrArg (fun n:Nat=>AV.p (i64 n)) lm,Z,Y⟩ trivial fun i hi t h=>?_
 (refine yS<|yP Z<|yT<|an<|ak Z ?_;refine aa (fun h1=>?_) (fun h1=>?_) <;> try simp only[zB] at h1)
 ·obtain⟨x,hx⟩:=aH (l:=l) (i:=i) (by omega)
  have cf:gV l i=(if cD x.name=true then (if er x.w 1 100000=true then (if er x.h 1 100000=true then (if er x.tall 1 100000=true then (if cD x.nozzle=true then (if bE (l.map Body.name) i=true then 8 else 0) else 5) else 1) else 1) else 1) else 5):=by simp only[gV,hx]
  (refine ar<|ah<|an<|aO<|yS<|yP Z<|yq Z<|aL zI ?_;refine⟨(mF x),(idx rfl hx),?_⟩)
  obtain⟨so,Em⟩:=ho.2 x (List.mem_of_getElem? hx)
  ((refine yk<|yP Z<|yn Z<|az zI<|aR<|ai<|yA Z<|yq Z<|az zI<|aX<|aM<|aU<|yT<|aO ?_;refine yS<|yV Z<|yP Z<|yn Z<|aL zI ?_);refine⟨_,_,(eD x.name so.le),?_⟩)
  (refine br Z Z<|ae<|yP Z<|yA Z<|yT<|ak Z ?_;refine aa (fun a1=>?_) (fun a1=>?_) <;> try simp only[zB] at a1)
  ·(refine yS<|yA Z<|yT<|aA<|aq<|aq<|af<|af<|aq<|af<|aB zi ?_;refine And.intro ?_ trivial)
   rw[if_neg (by simp[a1])] at cf
   rw[aI hi.2 (by omega) cf (by decide)];rfl
  rw[if_pos (by simpa using a1)] at cf
  (refine yS<|yV Z<|yP Z<|yn Z<|aL zI ?_;refine⟨_,_,(iZ x.w 1 100000),?_⟩)
  (refine br Z Z<|ae<|yP Z<|yP Z<|yg Z ?_;refine aa (fun a2=>?_) (fun a2=>?_) <;> try simp only[zB] at a2)
  ·((refine aT<|ae<|y0 Z<|y0 Z<|y0 Z<|yP Z<|yP Z<|y0 Z<|y0 Z<|y0 Z<|y0 Z<|yP Z<|yA Z<|yT ?_;refine ak Z<|cu<|yS<|yA Z<|yT<|aA<|aq<|aq<|af<|af<|aq<|af<|aB zi ?_);refine And.intro ?_ trivial)
   rw[if_neg (by simp[a2])] at cf
   rw[aI hi.2 (by omega) cf (by decide)];rfl
  rw[if_pos (by simpa using a2)] at cf
  (refine aV<|aN Z Z<|az zI<|aX<|ai<|y1 Z<|y2 Z<|cx Z Z Z<|aL zI ?_;refine⟨_,_,(iZ x.h 1 100000),?_⟩)
  (refine br Z Z<|ae<|y1 Z<|yP Z<|yP Z<|yg Z ?_;refine aa (fun a3=>?_) (fun a3=>?_) <;> try simp only[zB] at a3)
  ·((refine aT<|ae<|y0 Z<|y0 Z<|y0 Z<|yP Z<|yA Z<|yT<|ak Z<|cu<|yS<|yA Z<|yT<|aA ?_;refine aq<|aq<|af<|af<|aq<|af<|aB zi ?_);refine And.intro ?_ trivial)
   rw[if_neg (by simp[a3])] at cf
   rw[aI hi.2 (by omega) cf (by decide)];rfl
  rw[if_pos (by simpa using a3)] at cf
  (refine aV<|aN Z Z<|az zI<|aX<|ai<|y1 Z<|y2 Z<|cx Z Z Z<|aL zI ?_;refine⟨_,_,(iZ x.tall 1 100000),?_⟩)
  (refine br Z Z<|ae<|y1 Z<|yP Z<|yA Z<|yT<|ak Z ?_;refine aa (fun a4=>?_) (fun a4=>?_) <;> try simp only[zB] at a4)
  ·(refine yS<|yA Z<|yT<|aA<|aq<|aq<|af<|af<|aq<|af<|aB zi ?_;refine And.intro ?_ trivial)
   rw[if_neg (by simp[a4])] at cf
   rw[aI hi.2 (by omega) cf (by decide)];rfl
  rw[if_pos (by simpa using a4)] at cf
  (refine yS<|yV Z<|yP Z<|yn Z<|aL zI ?_;refine⟨_,_,(eD x.nozzle Em.le),?_⟩)
  (refine br Z Z<|ae<|yP Z<|yA Z<|yT<|ak Z ?_;refine aa (fun a5=>?_) (fun a5=>?_) <;> try simp only[zB] at a5)
  ·(refine yS<|yA Z<|yT<|aA<|aq<|aq<|af<|af<|aq<|af<|aB zi ?_;refine And.intro ?_ trivial)
   rw[if_neg (by simp[a5])] at cf
   rw[aI hi.2 (by omega) cf (by decide)];rfl
  rw[if_pos (by simpa using a5)] at cf
  (refine an<|cF [] false lX rfl (by kernel_rfl)<|cE Z<|yD Z<|yD Z<|yD Z<|dg Z ?_;refine aa (fun o1=>?_) (fun o1=>?_) <;> try simp only[zB] at o1)
  ·obtain⟨z,hz⟩:=aH (l:=l) (i:=i - 1) (by omega)
   rw[dG (f:=Body.name) hx hz (by omega)] at cf
   (refine aV<|bA Z<|az zI<|bM<|ai<|d1 Z<|d1 Z<|d1 Z<|d2 Z<|bA Z<|bb zI ?_;refine sI ?_)
   (refine bM<|ae<|d2 Z<|bA Z<|aL zI ?_;refine⟨(mF z),(idx (show (i:Int) - 1=((i - 1:Nat):Int) by omega) hz),?_⟩)
   ((refine bM<|ae<|d1 Z<|d1 Z<|d1 Z<|yD Z<|yD Z<|bR<|ao Z<|ao Z<|ao Z<|ao Z<|ao Z<|ao Z ?_;refine ao Z<|ao Z<|ao Z<|ao Z<|ao Z<|ao Z<|ao Z<|dH Z Z<|bS Z<|ah<|ak Z ?_);refine aa (fun o2=>?_) (fun o2=>?_) <;> try simp only[zB] at o2)
   ·(refine yS<|yA Z<|yT<|aA<|aq<|aq<|af<|af<|aq<|af<|aB zi ?_;refine And.intro ?_ trivial)
    have o2:(cB (Body.name x) (Body.name z) || decide (Body.name x=Body.name z))=true:=by simpa [cB] using o2
    rw[o2,if_pos rfl] at cf
    rw[aI hi.2 (by omega) cf (by decide)];rfl
   have o2:(cB (Body.name x) (Body.name z) || decide (Body.name x=Body.name z))=false:=by simpa [cB] using o2
   rw[o2,if_neg (by decide)] at cf
   (refine ar<|aS<|aS<|ah<|aP<|yq Z<|bb zI ?_;refine sI ?_)
   (refine yk<|yP Z<|yT<|au ?_;refine⟨(i+1),_,bg.refl _ _,?_⟩)
   exact⟨⟨by omega,cw hi.2 cf⟩,by omega,⟨Z,Z,Z,Z,Y⟩,trivial⟩
  have h0:i=0:=by omega
  rw[eU h0,if_neg (by decide)] at cf
  ((refine aT<|ae<|d0 Z<|d0 Z<|d0 Z<|d0 Z<|d0 Z<|d0 Z<|d0 Z<|d0 Z<|yD Z<|yD Z<|bR<|ao Z ?_;refine ao Z<|ao Z<|ao Z<|ao Z<|ao Z<|ao Z<|ao Z<|ao Z<|ao Z<|ao Z<|ao Z<|ao Z<|dH Z Z<|bS Z ?_;refine ah<|ak Z<|bz<|ar<|aS<|aS<|ah<|aP<|yq Z<|bb zI ?_);refine sI ?_)
  (refine yk<|yP Z<|yT<|au ?_;refine⟨(i+1),_,bg.refl _ _,?_⟩)
  exact⟨⟨by omega,cw hi.2 cf⟩,by omega,⟨Z,Z,Z,Z,Y⟩,trivial⟩
 (refine bF<|aQ<|aQ<|bG<|ah<|yS<|yA Z<|yR zi ?_;refine And.intro ?_ trivial)
 have z0:a8 (gV l) 0 l.length=0:=bp fun k _ hk=>hi.2 k (by omega)
 rw[z0];rfl
theorem pw (l:List Body) (ho:mO l):aw C 62 [.pv (.sl (l.map mF))] (.p (i64 (cH l))) []:=by
 refine aE hC Tryz.func62 rfl rfl 57 rfl (by decide) (by kernel_rfl) fun _ _ _ _ _=>?_
 have lm:=aJ l mF
 (refine yS<|yA Z<|yT<|an<|yS<|yP Z<|yP Z<|yP Z<|yT<|ak Z ?_;refine aa (fun g1=>?_) (fun g1=>?_) <;> try simp only[zB] at g1)
 ·(refine yS<|yA Z<|yT<|aA<|af<|aB zi ?_;refine And.intro ?_ trivial)
  rw[cH,if_pos (by omega)];rfl
 rw[cH,if_neg (by omega)]
 refine ar<|ah<|an<|yS<|yP Z<|yP Z<|yP Z<|yT<|aO ?_
 refine aC (fun i:Nat=>i<=l.length/\∀k,k < i->gV l k=0) (fun i=>[(0,.p (.sl (l.map mF))),(8,.p (.sl (l.map mF))),(9,.p (i64 l.length)),(10,.p (i64 i))]) (fun _=>[]) (fun i=>l.length - i) 0 _ (bg.refl _ _) ⟨Nat.zero_le _,fun k h=>by omega⟩ ⟨rfl,rfl,congrArg (fun n:Nat=>AV.p (i64 n)) lm,Z,Y⟩ trivial fun i hi t h=>?_
 (refine yS<|yP Z<|yT<|an<|ak Z ?_;refine aa (fun h1=>?_) (fun h1=>?_) <;> try simp only[zB] at h1)
 ·obtain⟨x,hx⟩:=aH (l:=l) (i:=i) (by omega)
  have cf:gV l i=(if cD x.name=true then (if er x.w 1 100000=true then (if er x.h 1 100000=true then (if er x.tall 1 100000=true then (if cD x.nozzle=true then (if bE (l.map Body.name) i=true then 8 else 0) else 5) else 1) else 1) else 1) else 5):=by simp only[gV,hx]
  (refine ar<|ah<|an<|aO<|yS<|yP Z<|yq Z<|aL zI ?_;refine⟨(mF x),(idx rfl hx),?_⟩)
  obtain⟨so,Em⟩:=ho.2 x (List.mem_of_getElem? hx)
  ((refine yk<|yP Z<|yn Z<|az zI<|aR<|ai<|yA Z<|yq Z<|az zI<|aX<|aM<|aU<|yT<|aO ?_;refine yS<|yV Z<|yP Z<|yn Z<|aL zI ?_);refine⟨_,_,(ly x.name so.le),?_⟩)
  (refine br Z Z<|ae<|yP Z<|yA Z<|yT<|ak Z ?_;refine aa (fun a1=>?_) (fun a1=>?_) <;> try simp only[zB] at a1)
  ·(refine yS<|yA Z<|yT<|aA<|aq<|aq<|af<|af<|aq<|af<|aB zi ?_;refine And.intro ?_ trivial)
   rw[if_neg (by simp[a1])] at cf
   rw[aI hi.2 (by omega) cf (by decide)];rfl
  rw[if_pos (by simpa using a1)] at cf
  (refine yS<|yV Z<|yP Z<|yn Z<|aL zI ?_;refine⟨_,_,(e_ x.w 1 100000),?_⟩)
  (refine br Z Z<|ae<|yP Z<|yP Z<|yg Z ?_;refine aa (fun a2=>?_) (fun a2=>?_) <;> try simp only[zB] at a2)
  ·((refine aT<|ae<|y0 Z<|y0 Z<|y0 Z<|yP Z<|yP Z<|y0 Z<|y0 Z<|y0 Z<|y0 Z<|yP Z<|yA Z<|yT ?_;refine ak Z<|cu<|yS<|yA Z<|yT<|aA<|aq<|aq<|af<|af<|aq<|af<|aB zi ?_);refine And.intro ?_ trivial)
   rw[if_neg (by simp[a2])] at cf
   rw[aI hi.2 (by omega) cf (by decide)];rfl
  rw[if_pos (by simpa using a2)] at cf
  (refine aV<|aN Z Z<|az zI<|aX<|ai<|y1 Z<|y2 Z<|cx Z Z Z<|aL zI ?_;refine⟨_,_,(e_ x.h 1 100000),?_⟩)
  (refine br Z Z<|ae<|y1 Z<|yP Z<|yP Z<|yg Z ?_;refine aa (fun a3=>?_) (fun a3=>?_) <;> try simp only[zB] at a3)
  ·((refine aT<|ae<|y0 Z<|y0 Z<|y0 Z<|yP Z<|yA Z<|yT<|ak Z<|cu<|yS<|yA Z<|yT<|aA ?_;refine aq<|aq<|af<|af<|aq<|af<|aB zi ?_);refine And.intro ?_ trivial)
   rw[if_neg (by simp[a3])] at cf
   rw[aI hi.2 (by omega) cf (by decide)];rfl
  rw[if_pos (by simpa using a3)] at cf
  (refine aV<|aN Z Z<|az zI<|aX<|ai<|y1 Z<|y2 Z<|cx Z Z Z<|aL zI ?_;refine⟨_,_,(e_ x.tall 1 100000),?_⟩)
  (refine br Z Z<|ae<|y1 Z<|yP Z<|yA Z<|yT<|ak Z ?_;refine aa (fun a4=>?_) (fun a4=>?_) <;> try simp only[zB] at a4)
  ·(refine yS<|yA Z<|yT<|aA<|aq<|aq<|af<|af<|aq<|af<|aB zi ?_;refine And.intro ?_ trivial)
   rw[if_neg (by simp[a4])] at cf
   rw[aI hi.2 (by omega) cf (by decide)];rfl
  rw[if_pos (by simpa using a4)] at cf
  (refine yS<|yV Z<|yP Z<|yn Z<|aL zI ?_;refine⟨_,_,(ly x.nozzle Em.le),?_⟩)
  (refine br Z Z<|ae<|yP Z<|yA Z<|yT<|ak Z ?_;refine aa (fun a5=>?_) (fun a5=>?_) <;> try simp only[zB] at a5)
  ·(refine yS<|yA Z<|yT<|aA<|aq<|aq<|af<|af<|aq<|af<|aB zi ?_;refine And.intro ?_ trivial)
   rw[if_neg (by simp[a5])] at cf
   rw[aI hi.2 (by omega) cf (by decide)];rfl
  rw[if_pos (by simpa using a5)] at cf
  (refine an<|cF [] false lX rfl (by kernel_rfl)<|cE Z<|yD Z<|yD Z<|yD Z<|dg Z ?_;refine aa (fun o1=>?_) (fun o1=>?_) <;> try simp only[zB] at o1)
  ·obtain⟨z,hz⟩:=aH (l:=l) (i:=i - 1) (by omega)
   rw[dG (f:=Body.name) hx hz (by omega)] at cf
   (refine aV<|bA Z<|az zI<|bM<|ai<|d1 Z<|d1 Z<|d1 Z<|d2 Z<|bA Z<|bb zI ?_;refine sI ?_)
   (refine bM<|ae<|d2 Z<|bA Z<|aL zI ?_;refine⟨(mF z),(idx (show (i:Int) - 1=((i - 1:Nat):Int) by omega) hz),?_⟩)
   ((refine bM<|ae<|d1 Z<|d1 Z<|d1 Z<|yD Z<|yD Z<|bR<|ao Z<|ao Z<|ao Z<|ao Z<|ao Z<|ao Z ?_;refine ao Z<|ao Z<|ao Z<|ao Z<|ao Z<|ao Z<|ao Z<|dH Z Z<|bS Z<|ah<|ak Z ?_);refine aa (fun o2=>?_) (fun o2=>?_) <;> try simp only[zB] at o2)
   ·(refine yS<|yA Z<|yT<|aA<|aq<|aq<|af<|af<|aq<|af<|aB zi ?_;refine And.intro ?_ trivial)
    have o2:(cB (Body.name x) (Body.name z) || decide (Body.name x=Body.name z))=true:=by simpa [cB] using o2
    rw[o2,if_pos rfl] at cf
    rw[aI hi.2 (by omega) cf (by decide)];rfl
   have o2:(cB (Body.name x) (Body.name z) || decide (Body.name x=Body.name z))=false:=by simpa [cB] using o2
   rw[o2,if_neg (by decide)] at cf
   (refine ar<|aS<|aS<|ah<|aP<|yq Z<|bb zI ?_;refine sI ?_)
   (refine yk<|yP Z<|yT<|au ?_;refine⟨(i+1),_,bg.refl _ _,?_⟩)
   exact⟨⟨by omega,cw hi.2 cf⟩,by omega,⟨Z,Z,Z,Z,Y⟩,trivial⟩
  have h0:i=0:=by omega
  rw[eU h0,if_neg (by decide)] at cf
  ((refine aT<|ae<|d0 Z<|d0 Z<|d0 Z<|d0 Z<|d0 Z<|d0 Z<|d0 Z<|d0 Z<|yD Z<|yD Z<|bR<|ao Z ?_;refine ao Z<|ao Z<|ao Z<|ao Z<|ao Z<|ao Z<|ao Z<|ao Z<|ao Z<|ao Z<|ao Z<|ao Z<|dH Z Z<|bS Z ?_;refine ah<|ak Z<|bz<|ar<|aS<|aS<|ah<|aP<|yq Z<|bb zI ?_);refine sI ?_)
  (refine yk<|yP Z<|yT<|au ?_;refine⟨(i+1),_,bg.refl _ _,?_⟩)
  exact⟨⟨by omega,cw hi.2 cf⟩,by omega,⟨Z,Z,Z,Z,Y⟩,trivial⟩
 (refine bF<|aQ<|aQ<|bG<|ah<|yS<|yA Z<|yR zi ?_;refine And.intro ?_ trivial)
 have z0:a8 (gV l) 0 l.length=0:=bp fun k _ hk=>hi.2 k (by omega)
 rw[z0];rfl
theorem wH (m:List Body) (y:ByteArray) (hs:cG Body.name m) (hN:m.length<=1000000):aw C 121 [.pv (.sl (m.map mF)),.pv (str y)] (.tu [.ag (mF ((qc Body.name m y).getD b0)),bool (dk Body.name m y)]) []:=by
 refine aE hC Tryz.func121 rfl rfl 21 rfl (by decide) (by kernel_rfl) fun _ _ _ _ _=>?_
 have hp:=gG (x:=y) hs
 (refine yS<|yn Z<|az zI<|aR<|ai<|yA Z<|yU<|yP Z<|yP Z<|yn Z<|aL zI ?_;refine⟨_,_,(Ae m y hs (by omega)),?_⟩)
 ((refine br Z Z<|bU<|yq Z<|az zI<|aX<|bU<|yP Z<|yP Z<|yA Z<|yA Z<|yT<|an<|yS<|yP Z ?_;refine yP Z<|yT<|ak Z ?_);refine aa (fun h1=>?_) (fun h1=>?_) <;> try simp only[zB] at h1)
 ·(refine yS<|yP Z<|yq Z<|az zI<|aX<|aM<|aU<|yA Z<|yT<|aA<|af<|aB zi ?_;refine And.intro ?_ trivial)
  have h1:dk Body.name m y=false:=by simpa using h1
  rw[je h1,h1]
  rfl
 have h1:dk Body.name m y=true:=by simpa using h1
 rw[if_pos h1] at hp
 obtain⟨k,x,e1,e2,e3,e4⟩:=ig h1
 (refine ar<|ah<|yS<|yP Z<|yP Z<|yq Z<|aL zI ?_;refine⟨(mF x),(idx (hp.symm.trans e1) e2),?_⟩)
 (refine yk<|yP Z<|yq Z<|az zI<|aX<|aM<|aU<|yA Z<|yR zi ?_;refine And.intro ?_ trivial)
 rw[e4,h1]
 rfl
theorem px (b:List Body) (l:List Place) (hb:mO b) (ho:tp l):aw C 47 [.pv (.sl (b.map mF)),.pv (.sl (l.map lY))] (.p (i64 (cP b l))) []:=by
 refine aE hC Tryz.func47 rfl rfl 66 rfl (by decide) (by kernel_rfl) fun _ _ _ _ _=>?_
 have lm:=aJ l lY
 (refine yS<|yA Z<|yT<|an<|yS<|yP Z<|yn Z<|aL zI ?_;refine⟨_,_,(pt b hb),?_⟩)
 (refine br Z Z<|ae<|yA Z<|yU<|yP Z<|yP Z<|yT<|ak Z ?_;refine aa (fun g0=>?_) (fun g0=>?_) <;> try simp only[zB] at g0)
 ·have g0:cH b≠0:=by simpa using g0
  (refine yS<|yP Z<|yA Z<|yT<|aA<|af<|aB zi ?_;refine And.intro ?_ trivial)
  rw[cP,dy rfl g0]
 have g0:cH b=0:=by simpa using g0
 have gb:=qR g0
 have gl:=gb.len
 rw[cP,eM g0]
 (refine ar<|ah<|an<|yS<|yP Z<|yP Z<|yP Z<|yT<|ak Z ?_;refine aa (fun g1=>?_) (fun g1=>?_) <;> try simp only[zB] at g1)
 ·(refine yS<|yA Z<|yT<|aA<|af<|aB zi ?_;refine And.intro ?_ trivial)
  rw[if_pos (by omega)];rfl
 rw[if_neg (by omega)]
 refine ar<|ah<|an<|yS<|yP Z<|yP Z<|yP Z<|yT<|aO ?_
 refine aC (fun i:Nat=>i<=l.length/\∀k,k < i->gq b l k=0) (fun i=>[(0,.p (.sl (b.map mF))),(1,.p (.sl (l.map lY))),(18,.p (.sl (l.map lY))),(19,.p (i64 l.length)),(20,.p (i64 i))]) (fun _=>[]) (fun i=>l.length - i) 0 _ (bg.refl _ _) ⟨Nat.zero_le _,fun k h=>by omega⟩ ⟨rfl,rfl,rfl,congrArg (fun n:Nat=>AV.p (i64 n)) lm,Z,Y⟩ trivial fun i hi t h=>?_
 (refine yS<|yP Z<|yT<|an<|ak Z ?_;refine aa (fun h1=>?_) (fun h1=>?_) <;> try simp only[zB] at h1)
 ·obtain⟨x,hx⟩:=aH (l:=l) (i:=i) (by omega)
  have cf:gq b l i=nq (fo b x) (if bE (l.map Place.part) i=true then 8 else 0):=by simp only[gq,hx]
  (refine ar<|ah<|an<|aO<|yS<|yP Z<|yq Z<|aL zI ?_;refine⟨(lY x),(idx rfl hx),?_⟩)
  obtain⟨so,Em⟩:=ho.2 x (List.mem_of_getElem? hx)
  ((refine yk<|yP Z<|yn Z<|az zI<|aR<|ai<|yA Z<|yq Z<|az zI<|aX<|aM<|aU<|yU<|yP Z ?_;refine yV Z<|yP Z<|yn Z<|aL zI ?_);refine⟨_,_,(wH b x.type gb.ord (by omega)),?_⟩)
  ((refine br Z Z<|bU<|yq Z<|az zI<|aX<|bU<|yP Z<|yP Z<|yn Z<|az zI<|aR<|ai<|yq Z<|az zI ?_;refine aX<|aM<|aU<|yA Z<|yT<|aO<|yS<|yV Z<|yP Z<|yn Z<|aL zI ?_);refine⟨_,_,(iY x.part so),?_⟩)
  (refine br Z Z<|ae<|yP Z<|yA Z<|yT<|ak Z ?_;refine aa (fun a1=>?_) (fun a1=>?_) <;> try simp only[zB] at a1)
  ·(refine yS<|yA Z<|yT<|aA<|aq<|aq<|af<|af<|aq<|af<|aB zi ?_;refine And.intro ?_ trivial)
   rw[dy (c:=5) (by rw[fo,if_neg (by simp[a1])]) (by decide)] at cf
   rw[aI hi.2 (by omega) cf (by decide)];rfl
  have a1:eT x.part=true:=by simpa using a1
  (refine yS<|yP Z<|yP Z<|yA Z<|yT<|ak Z ?_;refine aa (fun a2=>?_) (fun a2=>?_) <;> try simp only[zB] at a2)
  ·(refine yS<|yA Z<|yT<|aA<|aq<|aq<|af<|af<|aq<|af<|aB zi ?_;refine And.intro ?_ trivial)
   rw[dy (c:=9) (by rw[fo,if_pos a1,if_neg (by simp[a2])]) (by decide)] at cf
   rw[aI hi.2 (by omega) cf (by decide)];rfl
  have a2:dk Body.name b x.type=true:=by simpa using a2
  (refine yS<|yV Z<|yP Z<|yn Z<|aL zI ?_;refine⟨_,_,(ka x.x x.y),?_⟩)
  (refine br Z Z<|ae<|yP Z<|yP Z<|yg Z ?_;refine aa (fun a3=>?_) (fun a3=>?_) <;> try simp only[zB] at a3)
  ·((refine aT<|ae<|y0 Z<|y0 Z<|y0 Z<|yP Z<|yA Z<|yT<|ak Z<|cu<|yS<|yA Z<|yT<|aA ?_;refine aq<|aq<|af<|af<|aq<|af<|aB zi ?_);refine And.intro ?_ trivial)
   rw[dy (c:=1) (by rw[fo,if_pos a1,if_pos a2,if_neg (by simp[a3])]) (by decide)] at cf
   rw[aI hi.2 (by omega) cf (by decide)];rfl
  have a3:(bq.ju x.x && bq.ju x.y)=true:=by simpa using a3
  (refine aV<|aN Z Z<|az zI<|aX<|ai<|y1 Z<|y2 Z<|cx Z Z Z<|aL zI ?_;refine⟨_,_,(iZ x.quarters 0 3),?_⟩)
  (refine br Z Z<|ae<|y1 Z<|yP Z<|yA Z<|yT<|ak Z ?_;refine aa (fun a4=>?_) (fun a4=>?_) <;> try simp only[zB] at a4)
  ·(refine yS<|yA Z<|yT<|aA<|aq<|aq<|af<|af<|aq<|af<|aB zi ?_;refine And.intro ?_ trivial)
   rw[dy (c:=1) (by rw[fo,if_pos a1,if_pos a2,if_pos a3,if_neg (by simp[a4])]) (by decide)] at cf
   rw[aI hi.2 (by omega) cf (by decide)];rfl
  rw[eM (by rw[fo,if_pos a1,if_pos a2,if_pos a3,if_pos (by simpa using a4)])] at cf
  (refine an<|cF [] false lX rfl (by kernel_rfl)<|cE Z<|yD Z<|yD Z<|yD Z<|dg Z ?_;refine aa (fun o1=>?_) (fun o1=>?_) <;> try simp only[zB] at o1)
  ·obtain⟨z,hz⟩:=aH (l:=l) (i:=i - 1) (by omega)
   rw[dG (f:=Place.part) hx hz (by omega)] at cf
   (refine aV<|bA Z<|az zI<|bM<|ai<|d1 Z<|d1 Z<|d1 Z<|d2 Z<|bA Z<|bb zI ?_;refine sI ?_)
   (refine bM<|ae<|d2 Z<|bA Z<|aL zI ?_;refine⟨(lY z),(idx (show (i:Int) - 1=((i - 1:Nat):Int) by omega) hz),?_⟩)
   ((refine bM<|ae<|d1 Z<|d1 Z<|d1 Z<|yD Z<|yD Z<|bR<|ao Z<|ao Z<|ao Z<|ao Z<|ao Z<|ao Z ?_;refine ao Z<|ao Z<|ao Z<|ao Z<|ao Z<|ao Z<|ao Z<|dH Z Z<|bS Z<|ah<|ak Z ?_);refine aa (fun o2=>?_) (fun o2=>?_) <;> try simp only[zB] at o2)
   ·(refine yS<|yA Z<|yT<|aA<|aq<|aq<|af<|af<|aq<|af<|aB zi ?_;refine And.intro ?_ trivial)
    have o2:(cB (Place.part x) (Place.part z) || decide (Place.part x=Place.part z))=true:=by simpa [cB] using o2
    rw[o2,if_pos rfl] at cf
    rw[aI hi.2 (by omega) cf (by decide)];rfl
   have o2:(cB (Place.part x) (Place.part z) || decide (Place.part x=Place.part z))=false:=by simpa [cB] using o2
   rw[o2,if_neg (by decide)] at cf
   (refine ar<|aS<|aS<|ah<|aP<|yq Z<|bb zI ?_;refine sI ?_)
   (refine yk<|yP Z<|yT<|au ?_;refine⟨(i+1),_,bg.refl _ _,?_⟩)
   exact⟨⟨by omega,cw hi.2 cf⟩,by omega,⟨Z,Z,Z,Z,Z,Y⟩,trivial⟩
  have h0:i=0:=by omega
  rw[eU h0,if_neg (by decide)] at cf
  ((refine aT<|ae<|d0 Z<|d0 Z<|d0 Z<|d0 Z<|d0 Z<|d0 Z<|d0 Z<|d0 Z<|yD Z<|yD Z<|bR<|ao Z ?_;refine ao Z<|ao Z<|ao Z<|ao Z<|ao Z<|ao Z<|ao Z<|ao Z<|ao Z<|ao Z<|ao Z<|ao Z<|dH Z Z<|bS Z ?_;refine ah<|ak Z<|bz<|ar<|aS<|aS<|ah<|aP<|yq Z<|bb zI ?_);refine sI ?_)
  (refine yk<|yP Z<|yT<|au ?_;refine⟨(i+1),_,bg.refl _ _,?_⟩)
  exact⟨⟨by omega,cw hi.2 cf⟩,by omega,⟨Z,Z,Z,Z,Z,Y⟩,trivial⟩
 (refine bF<|aQ<|aQ<|bG<|ah<|yS<|yA Z<|yR zi ?_;refine And.intro ?_ trivial)
 have z0:a8 (gq b l) 0 l.length=0:=bp fun k _ hk=>hi.2 k (by omega)
 rw[z0];rfl
theorem qe (b:List Body) (x:Place) (hN:b.length<=1000000) (so:bO x.part):aw C 63 [.pv (.sl (b.map mF)),.pv (.ag (lY x))] (.p (i64 (fo b x))) []:=by
 refine aE hC Tryz.func63 rfl rfl 35 rfl (by decide) (by kernel_rfl) fun _ _ _ _ _=>?_
 have hk:=gn (f:=Body.name) (l:=b) (x:=x.type)
 (refine yS<|yn Z<|az zI<|aR<|ai<|yA Z<|yT<|an<|aO<|yS<|yV Z<|yP Z<|yn Z<|aL zI ?_;refine⟨_,_,(wu x.part so),?_⟩)
 (refine br Z Z<|ae<|yP Z<|yA Z<|yT<|ak Z ?_;refine aa (fun a1=>?_) (fun a1=>?_) <;> try simp only[zB] at a1)
 ·(refine yS<|yA Z<|yT<|aA<|aq<|af<|aB zi ?_;refine And.intro ?_ trivial)
  rw[fo,if_neg (by simp[a1])];rfl
 have a1:eT x.part=true:=by simpa using a1
 (refine yS<|yP Z<|yV Z<|yP Z<|yn Z<|aL zI ?_;refine⟨_,_,(wx b x.type (by omega)),?_⟩)
 (refine br Z Z<|ae<|yP Z<|yA Z<|yT<|ak Z ?_;refine aa (fun a2=>?_) (fun a2=>?_) <;> try simp only[zB] at a2)
 ·rw[decide_eq_true a2] at hk
  (refine yS<|yA Z<|yT<|aA<|aq<|af<|aB zi ?_;refine And.intro ?_ trivial)
  rw[fo,if_pos a1,if_neg (fun e=>by rw[e] at hk;cases hk)];rfl
 rw[decide_eq_false a2] at hk
 have a2:dk Body.name b x.type=true:=by simpa using hk
 (refine yS<|yV Z<|yV Z<|yP Z<|yn Z<|aL zI ?_;refine⟨_,_,(e_ x.x (-1000000) 1000000),?_⟩)
 (refine br Z Z<|ae<|yP Z<|yP Z<|yg Z ?_;refine aa (fun a3=>?_) (fun a3=>?_) <;> try simp only[zB] at a3)
 ·have a3:er x.x (-1000000) 1000000=false:=by simpa using a3
  have a3:bq.ju x.x=false:=a3
  ((refine aT<|ae<|y0 Z<|y0 Z<|y0 Z<|y0 Z<|yP Z<|yP Z<|y0 Z<|y0 Z<|y0 Z<|y0 Z<|yP Z<|yA Z ?_;refine yT<|ak Z<|cu<|yS<|yA Z<|yT<|aA<|aq<|af<|aB zi ?_);refine And.intro ?_ trivial)
  rw[fo,if_pos a1,if_pos a2,if_neg (by simp[a3])];rfl
 have a3:er x.x (-1000000) 1000000=true:=by simpa using a3
 have a3:bq.ju x.x=true:=a3
 (refine aV<|aN Z Z<|az zI<|aX<|ai<|y2 Z<|aN Z Z<|az zI<|aX<|ai<|y1 Z<|y2 Z<|cx Z Z Z<|aL zI ?_;refine⟨_,_,(e_ x.y (-1000000) 1000000),?_⟩)
 (refine br Z Z<|ae<|y1 Z<|yP Z<|yP Z<|yg Z ?_;refine aa (fun a4=>?_) (fun a4=>?_) <;> try simp only[zB] at a4)
 ·have a4:er x.y (-1000000) 1000000=false:=by simpa using a4
  have a4:bq.ju x.y=false:=a4
  ((refine aT<|ae<|y0 Z<|y0 Z<|y0 Z<|yP Z<|yA Z<|yT<|ak Z<|cu<|yS<|yA Z<|yT<|aA ?_;refine aq<|af<|aB zi ?_);refine And.intro ?_ trivial)
  rw[fo,if_pos a1,if_pos a2,if_neg (by simp[a4])];rfl
 have a4:er x.y (-1000000) 1000000=true:=by simpa using a4
 have a4:bq.ju x.y=true:=a4
 (refine aV<|aN Z Z<|az zI<|aX<|ai<|y1 Z<|y2 Z<|cx Z Z Z<|aL zI ?_;refine⟨_,_,(e_ x.quarters 0 3),?_⟩)
 (refine br Z Z<|ae<|y1 Z<|yP Z<|yA Z<|yT<|ak Z ?_;refine aa (fun a5=>?_) (fun a5=>?_) <;> try simp only[zB] at a5)
 ·(refine yS<|yA Z<|yT<|aA<|aq<|af<|aB zi ?_;refine And.intro ?_ trivial)
  rw[fo,if_pos a1,if_pos a2,if_pos (by simp[a3,a4]),if_neg (by simp[a5])];rfl
 (refine ar<|aS<|ah<|yS<|yA Z<|yR zi ?_;refine And.intro ?_ trivial)
 rw[fo,if_pos a1,if_pos a2,if_pos (by simp[a3,a4]),if_pos (by simpa using a5)];rfl
theorem py (b:List Body) (l:List Place) (hb:mO b) (ho:tp l):aw C 24 [.pv (.sl (b.map mF)),.pv (.sl (l.map lY))] (.p (i64 (cP b l))) []:=by
 refine aE hC Tryz.func24 rfl rfl 44 rfl (by decide) (by kernel_rfl) fun _ _ _ _ _=>?_
 have lm:=aJ l lY
 (refine yS<|yA Z<|yT<|an<|yS<|yP Z<|yn Z<|aL zI ?_;refine⟨_,_,(pw b hb),?_⟩)
 (refine br Z Z<|ae<|yA Z<|yU<|yP Z<|yP Z<|yT<|ak Z ?_;refine aa (fun g0=>?_) (fun g0=>?_) <;> try simp only[zB] at g0)
 ·have g0:cH b≠0:=by simpa using g0
  (refine yS<|yP Z<|yA Z<|yT<|aA<|af<|aB zi ?_;refine And.intro ?_ trivial)
  rw[cP,dy rfl g0]
 have g0:cH b=0:=by simpa using g0
 have gb:=qR g0
 have gl:=gb.len
 rw[cP,eM g0]
 (refine ar<|ah<|an<|yS<|yP Z<|yP Z<|yP Z<|yT<|ak Z ?_;refine aa (fun g1=>?_) (fun g1=>?_) <;> try simp only[zB] at g1)
 ·(refine yS<|yA Z<|yT<|aA<|af<|aB zi ?_;refine And.intro ?_ trivial)
  rw[if_pos (by omega)];rfl
 rw[if_neg (by omega)]
 refine ar<|ah<|an<|yS<|yP Z<|yP Z<|yP Z<|yT<|aO ?_
 refine aC (fun i:Nat=>i<=l.length/\∀k,k < i->gq b l k=0) (fun i=>[(0,.p (.sl (b.map mF))),(1,.p (.sl (l.map lY))),(17,.p (.sl (l.map lY))),(18,.p (i64 l.length)),(19,.p (i64 i))]) (fun _=>[]) (fun i=>l.length - i) 0 _ (bg.refl _ _) ⟨Nat.zero_le _,fun k h=>by omega⟩ ⟨rfl,rfl,rfl,congrArg (fun n:Nat=>AV.p (i64 n)) lm,Z,Y⟩ trivial fun i hi t h=>?_
 (refine yS<|yP Z<|yT<|an<|ak Z ?_;refine aa (fun h1=>?_) (fun h1=>?_) <;> try simp only[zB] at h1)
 ·obtain⟨x,hx⟩:=aH (l:=l) (i:=i) (by omega)
  have cf:gq b l i=nq (fo b x) (if bE (l.map Place.part) i=true then 8 else 0):=by simp only[gq,hx]
  (refine ar<|ah<|an<|aO<|yS<|yP Z<|yq Z<|aL zI ?_;refine⟨(lY x),(idx rfl hx),?_⟩)
  obtain⟨so,Em⟩:=ho.2 x (List.mem_of_getElem? hx)
  ((refine yk<|yP Z<|yn Z<|az zI<|aR<|ai<|yA Z<|yq Z<|az zI<|aX<|aM<|aU<|yT<|an ?_;refine yS<|yP Z<|yP Z<|yn Z<|aL zI ?_);refine⟨_,_,(qe b x (by omega) so),?_⟩)
  (refine br Z Z<|ae<|yA Z<|yU<|yP Z<|yP Z<|yT<|ak Z ?_;refine aa (fun a2=>?_) (fun a2=>?_) <;> try simp only[zB] at a2)
  ·have a2:fo b x≠0:=by simpa using a2
   rw[dy rfl a2] at cf
   (refine yS<|yP Z<|yA Z<|yT<|aA<|af<|aq<|af<|af<|aq<|af<|aB zi ?_;refine And.intro ?_ trivial)
   rw[aI hi.2 (by omega) cf a2]
  have a2:fo b x=0:=by simpa using a2
  rw[eM a2] at cf
  (refine ar<|ah<|an<|cF [] false Ce rfl (by kernel_rfl)<|cE Z<|yD Z<|yD Z<|yD Z<|dg Z ?_;refine aa (fun o1=>?_) (fun o1=>?_) <;> try simp only[zB] at o1)
  ·obtain⟨z,hz⟩:=aH (l:=l) (i:=i - 1) (by omega)
   rw[dG (f:=Place.part) hx hz (by omega)] at cf
   (refine aV<|bA Z<|az zI<|bM<|ai<|d1 Z<|d1 Z<|d1 Z<|d2 Z<|bA Z<|bb zI ?_;refine sI ?_)
   (refine bM<|ae<|d2 Z<|bA Z<|aL zI ?_;refine⟨(lY z),(idx (show (i:Int) - 1=((i - 1:Nat):Int) by omega) hz),?_⟩)
   (refine bM<|ae<|d1 Z<|d1 Z<|d1 Z<|yD Z<|bR<|bS Z<|ah<|ak Z ?_;refine aa (fun o2=>?_) (fun o2=>?_) <;> try simp only[zB] at o2)
   ·(refine yS<|yA Z<|yT<|aA<|aq<|af<|af<|aq<|af<|aB zi ?_;refine And.intro ?_ trivial)
    have o2:(cB (Place.part x) (Place.part z) || decide (Place.part x=Place.part z))=true:=by simpa [cB] using o2
    rw[o2,if_pos rfl] at cf
    rw[aI hi.2 (by omega) cf (by decide)];rfl
   have o2:(cB (Place.part x) (Place.part z) || decide (Place.part x=Place.part z))=false:=by simpa [cB] using o2
   rw[o2,if_neg (by decide)] at cf
   (refine ar<|aS<|ah<|aP<|yq Z<|bb zI ?_;refine sI ?_)
   (refine yk<|yP Z<|yT<|au ?_;refine⟨(i+1),_,bg.refl _ _,?_⟩)
   exact⟨⟨by omega,cw hi.2 cf⟩,by omega,⟨Z,Z,Z,Z,Z,Y⟩,trivial⟩
  have h0:i=0:=by omega
  rw[eU h0,if_neg (by decide)] at cf
  ((refine aT<|ae<|d0 Z<|d0 Z<|d0 Z<|d0 Z<|d0 Z<|d0 Z<|d0 Z<|d0 Z<|yD Z<|bR<|bS Z<|ah ?_;refine ak Z<|bz<|ar<|aS<|ah<|aP<|yq Z<|bb zI ?_);refine sI ?_)
  (refine yk<|yP Z<|yT<|au ?_;refine⟨(i+1),_,bg.refl _ _,?_⟩)
  exact⟨⟨by omega,cw hi.2 cf⟩,by omega,⟨Z,Z,Z,Z,Z,Y⟩,trivial⟩
 (refine bF<|aQ<|aQ<|bG<|ah<|yS<|yA Z<|yR zi ?_;refine And.intro ?_ trivial)
 have z0:a8 (gq b l) 0 l.length=0:=bp fun k _ hk=>hi.2 k (by omega)
 rw[z0];rfl
def oz (p:jJ):Value:=.agg #[.string p.part,.string p.pin]
theorem rJ (p q:jJ):wU (oz p) (oz q)=decide (p=q):=by
 show (decide (p.part=q.part) && (decide (p.pin=q.pin) && true))=_
 rw[Ep,Bool.eq_iff_iff,decide_eq_true_iff,decide_eq_true_iff]
 exact eq_comm
def jb (es:List (Value×PV)):Prop:=∀e∈es,∃p:jJ,e.1=oz p
theorem qS {es:List (Value×PV)} {p:jJ} {v:PV} (h:jb es):jb (iz es (oz p) v):=by
 induction es with
 | nil=>intro e he;rw[iz,List.mem_singleton] at he;exact⟨p,by rw[he]⟩
 | cons a r ih=>
  intro e he
  obtain⟨k',u⟩:=a
  rw[iz] at he
  split at he
  ·rcases List.mem_cons.1 he with h1 | h1
   ·exact⟨p,by rw[h1]⟩
   exact h e (List.mem_cons_of_mem _ h1)
  rcases List.mem_cons.1 he with h1 | h1
  ·exact h e (by rw[h1];exact List.mem_cons_self)
  exact ih (fun e he=>h e (List.mem_cons_of_mem _ he)) e h1
theorem Ev {es:List (Value×PV)} (h:jb es) (p n:jJ) (v:PV):gN (iz es (oz p) v) (oz n)=if n=p then some v else gN es (oz n):=by
 induction es with
 | nil=>
  simp only[iz,gN,rJ]
  by_cases e:n=p <;> simp[e]
 | cons a r ih=>
  obtain⟨k',u⟩:=a
  obtain⟨q,hq⟩:=h (k',u) List.mem_cons_self
  have hq:k'=oz q:=hq
  subst hq
  have ih:=ih fun e he=>h e (List.mem_cons_of_mem _ he)
  simp only[iz,rJ]
  by_cases e:p=q
  ·subst e
   simp only[decide_true,gN,rJ]
   by_cases e2:n=p <;> simp[e2]
  rw[decide_eq_false e]
  simp only[gN,rJ,ih]
  by_cases e2:n=q
  ·subst e2
   have e3:¬n=p:=fun h=>e h.symm
   simp[e3]
  rw[decide_eq_false e2]
def iP (es:List (Value×PV)):List jJ->List (Value×PV)
 | []=>es
 | p::r=>iP (iz es (oz p) (bool true)) r
theorem qT (p:jJ):∀(l:List jJ) (es:List (Value×PV)),iP es (l++[p])=iz (iP es l) (oz p) (bool true)
 | [],_=>rfl
 | _::r,_=>qT p r _
theorem qU:∀(l:List jJ) {es:List (Value×PV)},jb es->jb (iP es l)
 | [],_,h=>h
 | _::r,_,h=>qU r (qS h)
theorem yr (n:jJ):∀(l:List jJ) {es:List (Value×PV)},jb es->gN (iP es l) (oz n)=if (l.any fun q=>decide (q=n))=true then some (bool true) else gN es (oz n)
 | [],_,_=>rfl
 | p::r,es,h=>by
  rw[iP,yr n r (qS h),Ev h,List.any_cons]
  by_cases e:n=p
  ·subst e;simp
  rw[if_neg e,decide_eq_false (fun e2=>e e2.symm),Bool.false_or]
theorem oA (t:List bh) (x:p_) (l:List jJ) (es:List (Value×PV)) (seen:jJ->Bool) (ht:ic t) (hp:kA t x.parts) (hk:jb es) (hs:∀p:jJ,gN es (oz p)=if seen p=true then some (bool true) else none) (hN:l.length<=140737488355328):
  aw C 108 [.pv (.sl (l.map kL)),.pv (.fn 109 [.ip [.sl (t.map g_)],.ip (yC x)]),.map (.st [0,0]) es] (.p (i64 (dz t x.parts seen l))) [.map (if dz t x.parts seen l=0 then iP es l else es)]:=by
 refine aE hC Tryz.func108 rfl rfl 53 rfl (by decide) (by kernel_rfl) fun _ _ _ _ _=>?_
 have lm:=aJ l kL
 (refine yS<|yA Z<|yT<|an<|yS<|yP Z<|yP Z<|yP Z<|yT<|ak Z ?_;refine aa (fun g1=>?_) (fun g1=>?_) <;> try simp only[zB] at g1)
 ·have e:dz t x.parts seen l=2:=by rw[dz,if_pos (by omega)]
  refine yS<|yA Z<|yT<|aA<|af<|aB zi ?_
  refine⟨?_,?_,trivial⟩
  all_goals first | (rw[e];rfl) | (rw[e,if_neg (by decide)])
 have KP:dz t x.parts seen l=a8 (nE t x.parts seen l) 0 l.length:=by rw[dz,if_neg (by omega)]
 rw[KP]
 refine ar<|ah<|an<|yS<|yP Z<|yP Z<|yP Z<|yT<|aO ?_
 refine aC (fun i:Nat=>i<=l.length/\∀k,k < i->nE t x.parts seen l k=0) (fun i=>[(0,.p (.sl (l.map kL))),(1,.p (.fn 109 [.ip [.sl (t.map g_)],.ip (yC x)])),(2,.ow 100002),(14,.p (.sl (l.map kL))),(15,.p (i64 l.length)),(16,.p (i64 i))]) (fun _=>[(100002,.map (.st [0,0]) es)]) (fun i=>l.length - i) 0 _ (bg.refl _ _) ⟨Nat.zero_le _,fun k h=>by omega⟩ ⟨rfl,rfl,rfl,rfl,congrArg (fun n:Nat=>AV.p (i64 n)) lm,Z,Y⟩ ⟨Z,Y⟩ fun i hi tt h=>?_
 (refine yS<|yP Z<|yT<|an<|ak Z ?_;refine aa (fun h1=>?_) (fun h1=>?_) <;> try simp only[zB] at h1)
 ·obtain⟨p,hx⟩:=aH (l:=l) (i:=i) (by omega)
  have cf:nE t x.parts seen l i=(if gu t x.parts p=true then (if pq l i=true then 8 else if seen p=true then 7 else 0) else 9):=by simp only[nE,hx]
  have q:=hs p
  have bad:∀{c:Int},nE t x.parts seen l i=c->c≠0->a8 (nE t x.parts seen l) 0 l.length=c:=fun e h0=>aI hi.2 (by omega) e h0
  (refine ar<|ah<|an<|aO<|yS<|yP Z<|yq Z<|aL zI ?_;refine⟨(kL p),(idx rfl hx),?_⟩)
  ((refine yk<|yP Z<|yn Z<|az zI<|aR<|ai<|yA Z<|yq Z<|az zI<|aX<|aM<|aU<|yT<|aO ?_;refine yS<|yP Z<|yP Z<|yn Z<|aL zI ?_);refine⟨_,_,(Cr t x p ht hp),?_⟩)
  (refine br Z Z<|ae<|yP Z<|yA Z<|yT<|ak Z ?_;refine aa (fun a1=>?_) (fun a1=>?_) <;> try simp only[zB] at a1)
  ·rw[if_neg (by simp[a1])] at cf
   refine yS<|yA Z<|yT<|aA<|aq<|aq<|af<|af<|aq<|af<|aB zi ?_
   refine⟨?_,?_,trivial⟩
   all_goals first | (rw[bad cf (by decide)];rfl) | (rw[bad cf (by decide),if_neg (by decide)])
  rw[if_pos (by simpa using a1)] at cf
  have tail:pq l i=false->nE t x.parts seen l i=(if seen p=true then 7 else 0):=fun h0=>by rw[cf,h0,if_neg (by decide)]
  ((refine an<|cF [] false Ce rfl (by kernel_rfl)<|aK Z<|aK Z<|aK Z<|aK Z<|aK Z<|aK Z<|aK Z<|aK Z<|aK Z<|eG Z Z<|cE Z<|yD Z ?_;refine yD Z<|yD Z<|dg Z ?_);refine aa (fun a2=>?_) (fun a2=>?_) <;> try simp only[zB] at a2)
  ·obtain⟨z,hz⟩:=aH (l:=l) (i:=i - 1) (by omega)
   have hu:=GW hx hz (by omega)
   have hc:=F4 p z
   (refine aV<|bA Z<|az zI<|bM<|ae<|d1 Z<|d1 Z<|d2 Z<|bA Z<|bb zI ?_;refine sI ?_)
   (refine bM<|ae<|d2 Z<|bA Z<|aL zI ?_;refine⟨(kL z),(idx (show (i:Int) - 1=((i - 1:Nat):Int) by omega) hz),?_⟩)
   (refine bM<|ae<|d1 Z<|d2 Z<|bA Z<|aL zI ?_;refine⟨_,_,(pr p z),?_⟩)
   ((refine bM<|ae<|d1 Z<|yD Z<|yD Z<|bR<|ao Z<|ao Z<|ao Z<|ao Z<|ao Z<|ao Z<|ao Z<|ao Z ?_;refine ao Z<|ao Z<|ao Z<|ao Z<|dH Z Z<|bS Z<|ah<|ak Z ?_);refine aa (fun a3=>?_) (fun a3=>?_) <;> try simp only[zB] at a3)
   ·rw[hu,hc.1 a3,if_pos (by decide)] at cf
    refine yS<|yA Z<|yT<|aA<|aq<|aq<|af<|af<|aq<|af<|aB zi ?_
    refine⟨?_,?_,trivial⟩
    all_goals first | (rw[bad cf (by decide)];rfl) | (rw[bad cf (by decide),if_neg (by decide)])
   have a4:ET z p=true:=by
    cases e:ET z p with
    | true=>rfl
    | false=>exact absurd (hc.2 e) a3
   have cf:=tail (by rw[hu,a4];rfl)
   cases hS:seen p with
   | true=>
    rw[hS] at q cf
    rw[if_pos rfl] at cf
    (refine yS<|yq Z<|az zI<|aX<|aG<|yP Z<|yq Z<|aL zI ?_;refine⟨(some (bool true)),q,?_⟩)
    (refine yk<|yA Z<|yT<|ak Z<|cu<|yS<|yA Z<|yT<|aA<|aq<|aq<|af<|af<|aq ?_;refine af<|aB zi ?_)
    refine⟨?_,?_,trivial⟩
    all_goals first | (rw[bad cf (by decide)];rfl) | (rw[bad cf (by decide),if_neg (by decide)])
   | false=>
    rw[hS] at q cf
    rw[if_neg (by decide)] at cf
    (refine yS<|yq Z<|az zI<|aX<|aG<|yP Z<|yq Z<|aL zI ?_;refine⟨none,q,?_⟩)
    (refine yk<|yA Z<|yT<|ak Z<|bz<|ar<|aS<|aS<|ah<|aP<|yq Z<|bb zI ?_;refine sI ?_)
    (refine yk<|yP Z<|yT<|au ?_;refine⟨(i+1),_,bg.refl _ _,?_⟩)
    exact⟨⟨by omega,cw hi.2 cf⟩,by omega,⟨Z,Z,Z,Z,Z,Z,Y⟩,⟨Z,Y⟩⟩
  have cf:=tail (KM (by omega))
  cases hS:seen p with
  | true=>
   rw[hS] at q cf
   rw[if_pos rfl] at cf
   ((refine aT<|ae<|d0 Z<|d0 Z<|d0 Z<|d0 Z<|d0 Z<|d0 Z<|d0 Z<|yD Z<|yD Z<|bR<|ao Z<|ao Z ?_;refine ao Z<|ao Z<|ao Z<|ao Z<|ao Z<|ao Z<|ao Z<|ao Z<|ao Z<|ao Z<|dH Z Z<|bS Z<|ah<|ak Z ?_;refine bz<|yS<|yq Z<|az zI<|aX<|aG<|yP Z<|yq Z<|aL zI ?_);refine⟨(some (bool true)),q,?_⟩)
   (refine yk<|yA Z<|yT<|ak Z<|cu<|yS<|yA Z<|yT<|aA<|aq<|aq<|af<|af<|aq ?_;refine af<|aB zi ?_)
   refine⟨?_,?_,trivial⟩
   all_goals first | (rw[bad cf (by decide)];rfl) | (rw[bad cf (by decide),if_neg (by decide)])
  | false=>
   rw[hS] at q cf
   rw[if_neg (by decide)] at cf
   ((refine aT<|ae<|d0 Z<|d0 Z<|d0 Z<|d0 Z<|d0 Z<|d0 Z<|d0 Z<|yD Z<|yD Z<|bR<|ao Z<|ao Z ?_;refine ao Z<|ao Z<|ao Z<|ao Z<|ao Z<|ao Z<|ao Z<|ao Z<|ao Z<|ao Z<|dH Z Z<|bS Z<|ah<|ak Z ?_;refine bz<|yS<|yq Z<|az zI<|aX<|aG<|yP Z<|yq Z<|aL zI ?_);refine⟨none,q,?_⟩)
   (refine yk<|yA Z<|yT<|ak Z<|bz<|ar<|aS<|aS<|ah<|aP<|yq Z<|bb zI ?_;refine sI ?_)
   (refine yk<|yP Z<|yT<|au ?_;refine⟨(i+1),_,bg.refl _ _,?_⟩)
   exact⟨⟨by omega,cw hi.2 cf⟩,by omega,⟨Z,Z,Z,Z,Z,Z,Y⟩,⟨Z,Y⟩⟩
 have z0:a8 (nE t x.parts seen l) 0 l.length=0:=bp fun k _ hk=>hi.2 k (by omega)
 rw[z0,if_pos rfl]
 refine bF<|aQ<|aQ<|bG<|ah<|an<|yS<|yP Z<|yP Z<|yP Z<|yT<|aO ?_
 refine aC (fun i:Nat=>i<=l.length) (fun i=>[(2,.ow 100002),(44,.p (.sl (l.map kL))),(45,.p (i64 l.length)),(46,.p (i64 i))]) (fun i=>[(100002,.map (.st [0,0]) (iP es (l.take i)))]) (fun i=>l.length - i) 0 _ (bg.refl _ _) (Nat.zero_le _) ⟨rfl,rfl,congrArg (fun n:Nat=>AV.p (i64 n)) lm,Z,Y⟩ ⟨Z,Y⟩ fun i hi tt h=>?_
 (refine yS<|yP Z<|yT<|an<|ak Z ?_;refine aa (fun h2=>?_) (fun h2=>?_) <;> try simp only[zB] at h2)
 ·obtain⟨p,hx⟩:=aH (l:=l) (i:=i) (by omega)
  have E9:=qT p (l.take i) es
  rw[<-bB hx] at E9
  (refine ar<|ah<|an<|aO<|yS<|yq Z<|aL zI ?_;refine⟨(kL p),(idx rfl hx),?_⟩)
  ((refine yk<|yP Z<|yn Z<|az zI<|aR<|ai<|yq Z<|az zI<|aX<|aM<|aU<|yT<|aP<|yq Z ?_;refine az zI<|aX<|aG<|yP Z<|yq Z<|az zI<|aX<|aM<|aU<|dB<|aS<|ah<|aP<|yq Z ?_;refine bb zI ?_);refine sI ?_)
  (refine yk<|yP Z<|yT<|au ?_;refine⟨(i+1),_,bg.refl _ _,?_⟩)
  exact⟨by omega,by omega,⟨Z,Z,Z,Z,Y⟩,⟨by rw[E9];rfl,trivial⟩⟩
 have e:l.take i=l:=List.take_of_length_le (by omega)
 refine bF<|aQ<|aQ<|bG<|ah<|yS<|yA Z<|yR zi ?_
 refine⟨?_,?_,trivial⟩
 all_goals first | rfl | (rw[e];rfl)
end M
end Go.Proofs.YtiaifckpmefinaaGreatDoor
