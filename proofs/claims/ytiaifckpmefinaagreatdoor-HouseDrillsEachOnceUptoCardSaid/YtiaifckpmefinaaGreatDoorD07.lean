/- Part 7 of 11 of the proof of HouseDrillsEachOnce (the names are shortened by a program: the size of a claim is limited). -/
import Derived.Test.YtiaifckpmefinaaGreatDoorD06
set_option linter.unusedVariables false
set_option linter.unusedSimpArgs false
set_option maxRecDepth 100000
set_option maxHeartbeats 8000000
namespace Go.Proofs.YtiaifckpmefinaaGreatDoor
namespace M
open Go.AM Go.RowKit Go.Lib
open aK (aG bB fa)
structure Net where
 name:ByteArray
 pins:List kA
 ports:List ByteArray
structure tv where
 parts:List Part
 nets:List Net
def Gg (n:Net):List PV:=[str n.name,.sl (n.pins.map vF),strs n.ports]
def E9 (x:tv):List PV:=[.sl (x.parts.map uf),.sl (x.nets.map Gg)]
theorem cD {f:Nat->Int}:∀{n i:Nat},aH f i n=0->∀k,i<=k->k < i+n->f k=0
 | 0,i,_,k,h1,h2=>by omega
 | n+1,i,h,k,h1,h2=>by
  rw[aH] at h
  split at h
  ·rename_i h0
   by_cases e:k=i
   ·rw[e];exact h0
   exact cD h k (by omega) (by omega)
  rename_i h0;exact absurd h h0
theorem dZ {a b:Int} (h:nh a b=0):a=0/\b=0:=by
 unfold nh at h
 split at h
 ·rename_i h0;exact⟨h0,h⟩
 rename_i h0;exact absurd h h0
theorem ug {a b:ByteArray} (h:ct a b=false) (hn:¬a=b):ct b a=true:=by
 rw[jS]
 have h1:¬a.data.toList < b.data.toList:=fun e=>by rw[jS.2 e] at h;cases h
 have h2:¬a.data.toList=b.data.toList:=fun e=>hn ((cmp_eq a b).1 ((oq _ _).2.2 e))
 rcases List.le_total a.data.toList b.data.toList with h3 | h3
 ·exact absurd (List.le_antisymm h3 (List.not_lt.1 h1)) h2
 rcases Classical.em (b.data.toList < a.data.toList) with h4 | h4
 ·exact h4
 exact absurd (List.le_antisymm (List.not_lt.1 h4) (List.not_lt.1 h1)) h2
theorem gn {α:Type} {f:α->ByteArray} {l:List α} (h:∀i,i < l.length->a7 (l.map f) i=false):bM f l:=by
 unfold bM
 rw[List.pairwise_iff_getElem]
 intro i j hi hj AH
 obtain⟨d,rfl⟩:∃d,j=i+1+d:=⟨j - i - 1,by omega⟩
 have step:∀k (hk:k+1 < l.length),ct (f l[k]) (f l[k+1])=true:=fun k hk=>by
  have:=h (k+1) hk
  rw[eW (List.getElem?_eq_getElem hk) (List.getElem?_eq_getElem (show k+1 - 1 < l.length by omega)) (by omega),Bool.or_eq_false_iff] at this
  exact ug this.1 (by simpa using this.2)
 clear AH
 induction d with
 | zero=>exact step i hj
 | succ d ih=>exact cF (ih (by omega) step) (step (i+1+d) hj)
structure jo (t:List aO):Prop where
 len:t.length<=200
 ord:bM aO.name t
 pins:∀x∈t,bM cG.name x.pins/\x.pins.length<=200
theorem sk {t:List aO} (h:cm t=0):jo t:=by
 unfold cm at h
 split at h
 ·cases h
 have key:=fun k hk=>dZ (cD h k (Nat.zero_le _) (by rw[Nat.zero_add];exact hk) |> (fun e=>by
  obtain⟨x,hx⟩:=aj (l:=t) (i:=k) hk
  exact e:gO t k=0->gO t k=0) |> (fun e=>by
  obtain⟨x,hx⟩:=aj (l:=t) (i:=k) hk
  simp only[gO,hx] at e
  exact (by rw[show t[k]=x from Option.some.inj ((List.getElem?_eq_getElem hk).symm.trans hx)];exact e:nh (qi t[k]) (if a7 (t.map aO.name) k=true then 8 else 0)=0)))
 refine⟨by omega,gn fun i hi=>?_,fun x hx=>?_⟩
 ·have:=(key i hi).2
  cases e:a7 (t.map aO.name) i with
  | false=>rfl
  | true=>rw[e] at this;cases this
 obtain⟨k,hk⟩:=List.mem_iff_getElem?.1 hx
 have Cp:=(List.getElem?_eq_some_iff.1 hk).1
 have h1:=(key k Cp).1
 rw[show t[k]=x from Option.some.inj ((List.getElem?_eq_getElem Cp).symm.trans hk),qi] at h1
 split at h1
 ·unfold ey at h1
  split at h1
  ·cases h1
  split at h1
  ·cases h1
  refine⟨gn fun i hi=>?_,by omega⟩
  have h2:=cD (dZ h1).1 i (Nat.zero_le _) (by omega)
  obtain⟨y,hy⟩:=aj (l:=x.pins) (i:=i) hi
  simp only[py,hy] at h2
  split at h2
  ·split at h2
   ·split at h2
    ·cases e:a7 (x.pins.map cG.name) i with
     | false=>rfl
     | true=>rw[e] at h2;cases h2
    cases h2
   cases h2
  cases h2
 cases h1
def l8 (t:List aO) (l:List Part) (i:Nat):Int:=match l[i]? with
 | some x=>if kW x.name=true then (if cJ aO.name t x.type=true then (if a7 (l.map Part.name) i=true then 8 else 0) else 9) else 5
 | none=>0
def d_ (t:List aO) (l:List Part):Int:=if 1000 < l.length then 2 else aH (l8 t l) 0 l.length
structure l9 (t:List aO) (l:List Part):Prop where
 len:l.length<=1000
 ord:bM Part.name l
 typ:∀x∈l,cJ aO.name t x.type=true
theorem zM {t:List aO} {l:List Part} (h:d_ t l=0):l9 t l:=by
 unfold d_ at h
 split at h
 ·cases h
 have key:∀i x,l[i]?=some x->cJ aO.name t x.type=true/\a7 (l.map Part.name) i=false:=fun i x hx=>by
  have h2:=cD h i (Nat.zero_le _) (by rw[Nat.zero_add];exact (List.getElem?_eq_some_iff.1 hx).1)
  simp only[l8,hx] at h2
  split at h2
  ·split at h2
   ·rename_i h3
    cases e:a7 (l.map Part.name) i with
    | false=>exact⟨h3,rfl⟩
    | true=>rw[e] at h2;cases h2
   cases h2
  cases h2
 refine⟨by omega,gn fun i hi=>(key i _ (List.getElem?_eq_getElem hi)).2,fun x hx=>?_⟩
 obtain⟨k,hk⟩:=List.mem_iff_getElem?.1 hx
 exact (key k x hk).1
def jY (t:List aO) (l:List Part) (p:kA):Bool:=decide (0<=fy Part.name l p.part) && (match l[(fy Part.name l p.part).toNat]? with
 | some q=>(match t[(fy aO.name t q.type).toNat]? with
  | some y=>decide (0<=fy cG.name y.pins p.pin)
  | none=>false)
 | none=>false)
def JS (p q:kA):Bool:=ct p.part q.part || (decide (p.part=q.part) && ct p.pin q.pin)
def Ez (p q:kA):Int:=if Lib.compareBytes p.part.data.toList q.part.data.toList=0 then Lib.compareBytes p.pin.data.toList q.pin.data.toList else Lib.compareBytes p.part.data.toList q.part.data.toList
theorem EA (a b:ByteArray):(Lib.compareBytes a.data.toList b.data.toList<=0)↔ct b a=false:=by
 constructor
 ·intro h
  rw[Bool.eq_false_iff]
  intro h2
  rcases Int.lt_or_eq_of_le h with h1 | h1
  ·have h3:ct a b=true:=by rw[<-ng];exact decide_eq_true h1
   have:=cF h3 h2
   rw[iw] at this;cases this
  rw[(cmp_eq a b).1 h1,iw] at h2;cases h2
 intro h
 by_cases e:a=b
 ·exact Int.le_of_eq ((cmp_eq a b).2 e)
 have h3:=ug h (fun e'=>e e'.symm)
 have:=(ng a b).trans h3
 have:=of_decide_eq_true this
 omega
theorem Gh (p q:kA):(Ez p q<=0)↔JS q p=false:=by
 unfold Ez JS
 by_cases e:p.part=q.part
 ·rw[if_pos ((cmp_eq _ _).2 e),EA,e,iw]
  simp
 rw[if_neg (fun h=>e ((cmp_eq _ _).1 h)),EA,decide_eq_false (fun h=>e h.symm)]
 simp
def dC (l:List Net) (p:kA):Bool:=l.any fun n=>n.pins.any fun q=>decide (q=p)
def sn (l:List kA) (k:Nat):Bool:=match l[k]?,l[k - 1]? with
 | some a,some b=>decide (0 < k) && !JS b a
 | _,_=>false
def vJ (t:List aO) (parts:List Part) (seen:kA->Bool) (l:List kA) (k:Nat):Int:=match l[k]? with
 | some p=>if jY t parts p=true then (if sn l k=true then 8 else if seen p=true then 7 else 0) else 9
 | none=>0
def cX (t:List aO) (parts:List Part) (seen:kA->Bool) (l:List kA):Int:=if 500 < l.length then 2 else aH (vJ t parts seen l) 0 l.length
theorem Ls {l:List kA} {i:Nat} {a b:kA} (ha:l[i]?=some a) (hb:l[i - 1]?=some b) (h0:0 < i):sn l i=!JS b a:=by
 simp only[sn,ha,hb]
 rw[decide_eq_true h0];rfl
theorem OM {l:List kA} {i:Nat} (h:i=0):sn l i=false:=by
 subst h
 unfold sn
 split <;> simp
theorem vK (t:List aO) (l:List Part) (p:kA) (ht:jo t) (hp:l9 t l):af C 110 [.pv (.sl (t.map nz)),.pv (.sl (l.map uf)),.pv (.ag (vF p))] (.p (bool (jY t l p))) []:=by
 refine ah hC Tryz.func110 rfl rfl 30 rfl (by decide) (by kernel_rfl) fun _ _ _ _ _=>?_
 have hl:=hp.len
 have yj:=ht.len
 (repeat refine yY Z ?_);refine zX zi ⟨_,_,(vG l p.part hp.ord (by omega)),?_⟩
 (repeat refine yY Z ?_);refine c_ [] false On rfl (by kernel_rfl) ?_;(repeat refine yY Z ?_);refine iF Z (fun h1=>?_) (fun h1=>?_)
 ·obtain⟨k,q,e1,hk,hq⟩:=si h1
  have hT:=hp.typ q (List.mem_of_getElem? hk)
  have HM:0<=fy aO.name t q.type:=by
   have:=iy (f:=aO.name) (l:=t) (x:=q.type)
   rw[hT] at this
   have:=of_decide_eq_false this
   omega
  obtain⟨m,y,e2,hm,hy⟩:=si HM
  have hP:=ht.pins y (List.mem_of_getElem? hm)
  have rh:jY t l p=decide (0<=fy cG.name y.pins p.pin):=by
   unfold jY
   rw[decide_eq_true h1,e1,Int.toNat_natCast,hk]
   simp only
   rw[e2,Int.toNat_natCast,hm]
   rfl
  (repeat refine yY Z ?_);refine zX zi ⟨(uf q),(idx e1 hk),?_⟩
  (repeat refine yY Z ?_);refine zX zi ⟨_,_,(jW t q.type ht.ord (by omega)),?_⟩
  (repeat refine yY Z ?_);refine zX zi ⟨(nz y),(idx e2 hm),?_⟩
  (repeat refine yY Z ?_);refine zX zi ⟨_,_,(qh y p.pin hP.1 (by omega)),?_⟩
  (repeat refine yY Z ?_);refine aa zi (And.intro ?_ trivial)
  rw[rh]
  rfl
 (repeat refine yY Z ?_);refine aa zi (And.intro ?_ trivial)
 rw[jY,decide_eq_false h1]
 rfl
theorem Cx (t:List aO) (x:tv) (p:kA) (ht:jo t) (hp:l9 t x.parts):af C 109 [.pv (.ag (vF p)),.pv (.ip [.sl (t.map nz)]),.pv (.ip (E9 x))] (.p (bool (jY t x.parts p))) []:=by
 refine ah hC Tryz.func109 rfl rfl 10 rfl (by decide) (by kernel_rfl) fun _ _ _ _ _=>?_
 (repeat refine yY Z ?_);refine zX zi ⟨_,_,(vK t x.parts p ht hp),?_⟩
 (repeat refine yY Z ?_);refine aa zi (And.intro ?_ trivial)
 rfl
theorem ov (p q:kA):af C 181 [.pv (.ag (vF p)),.pv (.ag (vF q))] (.p (i64 (Ez p q))) []:=by
 refine ah hC Tryz.func181 rfl rfl 19 rfl (by decide) (by kernel_rfl) fun _ _ _ _ _=>?_
 (repeat refine yY Z ?_);refine zX zi ⟨_,_,(dx p.part q.part),?_⟩
 (repeat refine yY Z ?_);refine iF Z (fun h=>?_) (fun h=>?_)
 ·(repeat refine yY Z ?_);refine aa zi (And.intro ?_ trivial)
  rw[Ez,if_neg (by simpa using h)]
 (repeat refine yY Z ?_);refine zX zi ⟨_,_,(dx p.pin q.pin),?_⟩
 (repeat refine yY Z ?_);refine aa zi (And.intro ?_ trivial)
 rw[Ez,if_pos (by simpa using h)]
theorem IY (p q:kA):(decide (p.part=q.part) && (decide (p.pin=q.pin) && true))=decide (q=p):=by
 rw[Bool.eq_iff_iff]
 cases p;cases q
 simp only[Bool.and_true,Bool.and_eq_true,decide_eq_true_eq,kA.mk.injEq]
 exact⟨fun h=>⟨h.1.symm,h.2.symm⟩,fun h=>⟨h.1.symm,h.2.symm⟩⟩
structure dt where
 name:ByteArray
 ca:List aG
structure fm where
 kind:Int
 name:ByteArray
 x:Int
 y:Int
 pts:List (Int×Int)
 nx:Int
 ny:Int
inductive Steps where
 | nil
 | cons (s:fm) (sub:Steps) (rest:Steps)
def yk (t:dt):List PV:=[str t.name,ca t.ca]
def ym (s:fm) (sub:List (List PV)):List PV:=[i64 s.kind,str s.name,i64 s.x,i64 s.y,.sl (s.pts.map sp),i64 s.nx,i64 s.ny,.sl sub]
def Steps.rows:Steps->List (List PV)
 | .nil=>[]
 | .cons s sub rest=>ym s sub.rows::rest.rows
structure fG where
 unit:Int
 tools:List dt
 steps:Steps
def du (p:fG):List PV:=[i64 p.unit,.sl (p.tools.map yk),.sl p.steps.rows]
def iS (n u:Int):Bool:=decide (-1000000<=n*u) && decide (n*u<=1000000)
theorem zN {n u:Int} (h1:1<=u):dP n (Int.tdiv (-1000000) u) (Int.tdiv 1000000 u)=iS n u:=by
 have e1:Int.tdiv 1000000 u=1000000 / u:=Int.tdiv_eq_ediv_of_nonneg (by decide)
 have e2:Int.tdiv (-1000000) u=-(1000000 / u):=by rw[Int.neg_tdiv,e1]
 have a1:n<=1000000 / u↔n*u<=1000000:=Int.le_ediv_iff_mul_le (by omega)
 have a2:-n<=1000000 / u↔-n*u<=1000000:=Int.le_ediv_iff_mul_le (by omega)
 rw[Int.neg_mul] at a2
 have a3:-(1000000 / u)<=n↔-1000000<=n*u:=by omega
 unfold dP iS
 rw[e1,e2]
 congr 1
 ·exact decide_eq_decide.2 a3
 exact decide_eq_decide.2 a1
theorem gW (n u:Int) (hu:1<=u/\u<=1000):af C 188 [.pv (i64 n),.pv (i64 u)] (.p (bool (iS n u))) []:=by
 refine ah hC Tryz.func188 rfl rfl 11 rfl (by decide) (by kernel_rfl) fun _ _ _ _ _=>?_
 have e:=zN (n:=n) hu.1
 have e1:Int.tdiv 1000000 u=1000000 / u:=Int.tdiv_eq_ediv_of_nonneg (by decide)
 have e2:Int.tdiv (-1000000) u=-(1000000 / u):=by rw[Int.neg_tdiv,e1]
 have b1:1000000 / u<=1000000:=Int.ediv_le_self _ (by decide)
 have b2:0<=1000000 / u:=Int.ediv_nonneg (by decide) (by omega)
 (repeat refine yY Z ?_);refine c_ [] false Mq rfl (by kernel_rfl) ?_;(repeat refine yY Z ?_);refine zA zi (And.intro (fun h=>by have h:u=0:=h;omega) ?_)
 refine zA zi (And.intro ⟨by rw[e2];omega,by rw[e2];omega⟩ ?_)
 (repeat refine yY Z ?_);refine zA zi (And.intro (fun h=>by have h:u=0:=h;omega) ?_)
 refine zA zi (And.intro ⟨by rw[e1];omega,by rw[e1];omega⟩ ?_)
 (repeat refine yY Z ?_);refine zX zi ⟨_,_,(cb n (Int.tdiv (-1000000) u) (Int.tdiv 1000000 u)),?_⟩
 (repeat refine yY Z ?_);refine aa zi (And.intro ?_ trivial)
 rw[e]
def kr (p:Int×Int) (u:Int):Bool:=iS p.1 u && iS p.2 u
theorem ez (p:Int×Int) (u:Int) (hu:1<=u/\u<=1000):af C 255 [.pv (.ag (sp p)),.pv (i64 u)] (.p (bool (kr p u))) []:=by
 refine ah hC Tryz.func255 rfl rfl 15 rfl (by decide) (by kernel_rfl) fun _ _ _ _ _=>?_
 (repeat refine yY Z ?_);refine zX zi ⟨_,_,(gW p.1 u hu),?_⟩
 (repeat refine yY Z ?_);refine iF Z (fun h=>?_) (fun h=>?_)
 ·(repeat refine yY Z ?_);refine zX zi ⟨_,_,(gW p.2 u hu),?_⟩
  (repeat refine yY Z ?_);refine aa zi (And.intro ?_ trivial)
  rw[kr,h];rfl
 (repeat refine yY Z ?_);refine aa zi (And.intro ?_ trivial)
 rw[kr,show iS p.1 u=false by simpa using h];rfl
def ox (u:Int) (l:List aG) (i:Nat):Int:=match l[i]? with
 | some r=>if iS r.x0 u=true then (if iS r.y0 u=true then (if iS r.x1 u=true then (if iS r.y1 u=true then (if r.x1<=r.x0 then 13 else if r.y1<=r.y0 then 13 else 0) else 1) else 1) else 1) else 1
 | none=>0
def vL (u:Int) (l:List aG):Int:=if l.length=0 then 9 else if 2000 < l.length then 2 else aH (ox u l) 0 l.length
def sr (u:Int) (t:dt):Int:=if xC t.name=true then vL u t.ca else 5
def vM (t:dt):Prop:=aQ t.name/\t.ca.length<=1048576
theorem ss (y:dt) (u:Int) (hu:1<=u/\u<=1000) (ho:vM y):af C 117 [.pv (.ag (yk y)),.pv (i64 u)] (.p (i64 (sr u y))) []:=by
 refine ah hC Tryz.func117 rfl rfl 65 rfl (by decide) (by kernel_rfl) fun _ _ _ _ _=>?_
 have lm:=ai y.ca rc
 (repeat refine yY Z ?_);refine zX zi ⟨_,_,(xD y.name ho.1.le),?_⟩
 (repeat refine yY Z ?_);refine iF Z (fun g0=>?_) (fun g0=>?_)
 ·(repeat refine yY Z ?_);refine aa zi (And.intro ?_ trivial)
  rw[sr,if_neg (by simp[g0])];rfl
 rw[sr,if_pos (by simpa using g0)]
 (repeat refine yY Z ?_);refine iF Z (fun g1=>?_) (fun g1=>?_)
 ·(repeat refine yY Z ?_);refine aa zi (And.intro ?_ trivial)
  rw[vL,if_pos (by have:(((y.ca.map rc).length:Nat):Int)=0:=g1;omega)];rfl
 have g1:¬y.ca.length=0:=fun e=>g1 (by show (((y.ca.map rc).length:Nat):Int)=0;omega)
 (repeat refine yY Z ?_);refine iF Z (fun g2=>?_) (fun g2=>?_)
 ·(repeat refine yY Z ?_);refine aa zi (And.intro ?_ trivial)
  rw[vL,if_neg g1,if_pos (by omega)];rfl
 rw[vL,if_neg g1,if_neg (by omega)]
 (repeat refine yY Z ?_)
 refine ak (fun i:Nat=>i<=y.ca.length/\∀k,k < i->ox u y.ca k=0) (fun i=>[(1,.p (i64 u)),(20,.p (.sl (y.ca.map rc))),(21,.p (i64 y.ca.length)),(22,.p (i64 i))]) (fun _=>[]) (fun i=>y.ca.length - i) 0 _ (aD.refl _ _) ⟨Nat.zero_le _,fun k h=>by omega⟩ ⟨rfl,rfl,congrArg (fun n:Nat=>AV.p (i64 n)) lm,Z,Y⟩ trivial fun i hi t h=>?_
 (repeat refine yY Z ?_);refine iF Z (fun h1=>?_) (fun h1=>?_)
 ·obtain⟨x,hx⟩:=aj (l:=y.ca) (i:=i) (by omega)
  have cf:ox u y.ca i=(if iS x.x0 u=true then (if iS x.y0 u=true then (if iS x.x1 u=true then (if iS x.y1 u=true then (if x.x1<=x.x0 then 13 else if x.y1<=x.y0 then 13 else 0) else 1) else 1) else 1) else 1):=by simp only[ox,hx]
  (repeat refine yY Z ?_);refine zX zi ⟨(rc x),(idx rfl hx),?_⟩
  (repeat refine yY Z ?_);refine zX zi ⟨_,_,(gW x.x0 u hu),?_⟩
  (repeat refine yY Z ?_);refine iF Z (fun a1=>?_) (fun a1=>?_)
  ·(repeat refine yY Z ?_);refine aa zi (And.intro ?_ trivial)
   rw[if_neg (by simp[a1])] at cf
   rw[au hi.2 (by omega) cf (by decide)];rfl
  rw[if_pos (by simpa using a1)] at cf
  (repeat refine yY Z ?_);refine zX zi ⟨_,_,(gW x.y0 u hu),?_⟩
  (repeat refine yY Z ?_);refine iF Z (fun a2=>?_) (fun a2=>?_)
  ·(repeat refine yY Z ?_);refine aa zi (And.intro ?_ trivial)
   rw[if_neg (by simp[a2])] at cf
   rw[au hi.2 (by omega) cf (by decide)];rfl
  rw[if_pos (by simpa using a2)] at cf
  (repeat refine yY Z ?_);refine zX zi ⟨_,_,(gW x.x1 u hu),?_⟩
  (repeat refine yY Z ?_);refine iF Z (fun a3=>?_) (fun a3=>?_)
  ·(repeat refine yY Z ?_);refine aa zi (And.intro ?_ trivial)
   rw[if_neg (by simp[a3])] at cf
   rw[au hi.2 (by omega) cf (by decide)];rfl
  rw[if_pos (by simpa using a3)] at cf
  (repeat refine yY Z ?_);refine zX zi ⟨_,_,(gW x.y1 u hu),?_⟩
  (repeat refine yY Z ?_);refine iF Z (fun a4=>?_) (fun a4=>?_)
  ·(repeat refine yY Z ?_);refine aa zi (And.intro ?_ trivial)
   rw[if_neg (by simp[a4])] at cf
   rw[au hi.2 (by omega) cf (by decide)];rfl
  rw[if_pos (by simpa using a4)] at cf
  (repeat refine yY Z ?_);refine iF Z (fun a5=>?_) (fun a5=>?_)
  ·(repeat refine yY Z ?_);refine aa zi (And.intro ?_ trivial)
   rw[if_pos a5] at cf
   rw[au hi.2 (by omega) cf (by decide)];rfl
  rw[if_neg a5] at cf
  (repeat refine yY Z ?_);refine iF Z (fun a6=>?_) (fun a6=>?_)
  ·(repeat refine yY Z ?_);refine aa zi (And.intro ?_ trivial)
   rw[if_pos a6] at cf
   rw[au hi.2 (by omega) cf (by decide)];rfl
  rw[if_neg a6] at cf
  (repeat refine yY Z ?_);refine zA zi (And.intro ⟨by omega,by omega⟩ ?_)
  (repeat refine yY Z ?_);refine ae ⟨(i+1),_,aD.refl _ _,?_⟩
  exact⟨⟨by omega,cc hi.2 cf⟩,by omega,⟨Z,Z,Z,Z,Y⟩,trivial⟩
 (repeat refine yY Z ?_);refine aa zi (And.intro ?_ trivial)
 have z0:aH (ox u y.ca) 0 y.ca.length=0:=aT fun k _ hk=>hi.2 k (by omega)
 rw[z0];rfl
def Bi (l:List (Int×Int)) (i:Nat):Bool:=match l[i]?,l[(i+1) % l.length]? with
 | some a,some b=>!(decide (a.1=b.1) == decide (a.2=b.2))
 | _,_=>true
def EB (l:List (Int×Int)):Bool:=decide (4<=l.length) && sf (Bi l) l.length
theorem Gi (a b:Nat):((a:Int)+1).tmod (b:Int)=(((a+1) % b:Nat):Int):=by
 rw[show ((a:Int)+1)=((a+1:Nat):Int) by omega]
 exact (Int.ofNat_tmod _ _).symm
theorem xH (l:List (Int×Int)) (hN:l.length<=1048576):af C 258 [.pv (.sl (l.map sp))] (.p (bool (EB l))) []:=by
 refine ah hC Tryz.func258 rfl rfl 36 rfl (by decide) (by kernel_rfl) fun _ _ _ _ _=>?_
 have lm:=ai l sp
 (repeat refine yY Z ?_);refine iF Z (fun g1=>?_) (fun g1=>?_)
 ·(repeat refine yY Z ?_);refine aa zi (And.intro ?_ trivial)
  rw[EB,decide_eq_false (by omega)];rfl
 (repeat refine yY Z ?_)
 refine ak (fun i:Nat=>i<=l.length/\sf (Bi l) i=true) (fun i=>[(0,.p (.sl (l.map sp))),(9,.p (.sl (l.map sp))),(10,.p (i64 (l.map sp).length)),(11,.p (i64 i))]) (fun _=>[]) (fun i=>l.length - i) 0 _ (aD.refl _ _) ⟨Nat.zero_le _,rfl⟩ ⟨Z,Z,Z,Z,Y⟩ trivial fun i hi t h=>?_
 (repeat refine yY Z ?_);refine iF Z (fun h1=>?_) (fun h1=>?_)
 ·obtain⟨a,ha⟩:=aj (l:=l) (i:=i) (by omega)
  have ON:(i+1) % l.length < l.length:=Nat.mod_lt _ (by omega)
  obtain⟨b,hb⟩:=aj (l:=l) (i:=(i+1) % l.length) ON
  have he:Bi l i=!(decide (a.1=b.1) == decide (a.2=b.2)):=by simp only[Bi,ha,hb]
  have hr:=Gi i l.length
  rw[<-lm] at hr
  (repeat refine yY Z ?_);refine zX zi ⟨(sp a),(idx rfl ha),?_⟩
  (repeat refine yY Z ?_);refine zA zi (And.intro ⟨by omega,by omega⟩ ?_)
  ((repeat refine yY Z ?_);refine zA zi ?_);refine And.intro (fun e=>by have e:(((l.map sp).length:Nat):Int)=0:=e;omega) ?_
  (repeat refine yY Z ?_);refine zX zi ⟨(sp b),(idx (hr.trans (by rw[lm])) hb),?_⟩
  (repeat refine yY Z ?_);refine iF Z (fun h2=>?_) (fun h2=>?_)
  ·have h2:(decide (a.1=b.1) == decide (a.2=b.2))=true:=by simpa using h2
   (repeat refine yY Z ?_);refine aa zi (And.intro ?_ trivial)
   rw[EB,sg (by rw[he,h2];rfl) (by omega:i < l.length),Bool.and_false];rfl
  have h2:(decide (a.1=b.1) == decide (a.2=b.2))=false:=by simpa using h2
  (repeat refine yY Z ?_);refine zA zi (And.intro ⟨by omega,by omega⟩ ?_)
  (repeat refine yY Z ?_);refine ae ⟨(i+1),_,aD.refl _ _,?_⟩
  exact⟨⟨by omega,by rw[sf,hi.2,he,h2];rfl⟩,by omega,⟨Z,Z,Z,Z,Y⟩,trivial⟩
 have e:i=l.length:=by omega
 have h3:=hi.2
 rw[e] at h3
 (repeat refine yY Z ?_);refine aa zi (And.intro ?_ trivial)
 rw[EB,h3,decide_eq_true (by omega)];rfl
def Cy (k:Int):Bool:=decide (k=4) || (decide (k=5) || (decide (k=6) || decide (k=8)))
def gy (k:Int):List PV:=[bool (decide (k=3)),bool (Cy k),bool (decide (k=7)),bool (decide (k=8))]
def cP (s:fm) (n:Nat):Bool:=(!decide (s.kind=3) && !decide (s.name=aX)) || (!Cy s.kind && !(decide (s.x=0) && decide (s.y=0))) || (!decide (s.kind=7) && decide (0 < s.pts.length)) || (!decide (s.kind=8) && !(decide (s.nx=0) && decide (s.ny=0) && decide (n=0)))
def fN (p:fG) (s:fm) (n:Nat) (d:Int):Int:=
 if dP s.kind 1 8=true then
  if cP s n=true then 3 else
  if s.kind=3/\fy dt.name p.tools s.name < 0 then 5 else
  if kr (s.x,s.y) p.unit=true then
   if (s.pts.any fun q=>!kr q p.unit)=true then 1 else
   if 2000 < s.pts.length then 2 else
   if s.kind=7/\EB s.pts=false then 3 else
   if s.kind=8 then (if dP s.nx 1 100=true then (if dP s.ny 1 100=true then (if n=0 then 9 else if 5<=d then 2 else 0) else 1) else 1) else 0
  else 1
 else 4
structure oy (p:fG):Prop where
 unit:1<=p.unit/\p.unit<=1000
 tools:p.tools.length<=1048576
def lf (s:fm):Prop:=aQ s.name/\s.pts.length<=1048576
theorem Gj {s:fm} {n:Nat} (h:cP s n=false) (hk:¬s.kind=8):n=0:=by
 simp only[cP,Bool.or_eq_false_iff] at h
 have h2:=h.2
 rw[decide_eq_false hk] at h2
 simp at h2
 exact h2.2
theorem EC {p:fG} {s:fm} {n:Nat} {d:Int} (h:fN p s n d=0):n=0\/d < 5:=by
 by_cases hk:s.kind=8
 ·by_cases hd:d < 5
  ·exact .inr hd
  unfold fN at h
  repeat' split at h
  all_goals first
   | (cases h;done)
   | (exact .inl (by assumption))
   | (exfalso;omega)
 refine .inl ?_
 unfold fN at h
 split at h
 ·split at h
  ·cases h
  rename_i hb
  exact Gj (by simpa using hb) hk
 cases h
theorem eQ (k:Int):af C 253 [.pv (i64 k)] (.p (.ag (gy k))) []:=by
 refine ah hC Tryz.func253 rfl rfl 19 rfl (by decide) (by kernel_rfl) fun _ _ _ _ _=>?_
 repeat' ((repeat refine yY Z ?_);refine iF Z (fun h=>?_) (fun h=>?_))
 all_goals ((repeat refine yY Z ?_);refine aa zi (And.intro ?_ trivial))
 all_goals (simp[gy,Cy,bool, *] <;> first | rfl | omega)
theorem ED (t:dt) (x:ByteArray):af C 291 [.pv (.ag (yk t)),.pv (.ip [str x])] (.p (bool (decide (t.name=x)))) []:=by
 refine ah hC Tryz.func291 rfl rfl 8 rfl (by decide) (by kernel_rfl) fun _ _ _ _ _=>?_
 (repeat refine yY Z ?_);refine aa zi (And.intro ?_ trivial)
 rfl
theorem IZ (q:Int×Int) (p:fG) (hu:1<=p.unit/\p.unit<=1000):af C 257 [.pv (.ag (sp q)),.pv (.ip (du p))] (.p (bool (!kr q p.unit))) []:=by
 refine ah hC Tryz.func257 rfl rfl 9 rfl (by decide) (by kernel_rfl) fun _ _ _ _ _=>?_
 (repeat refine yY Z ?_);refine zX zi ⟨_,_,(ez q p.unit hu),?_⟩
 (repeat refine yY Z ?_);refine aa zi (And.intro ?_ trivial)
 rfl
theorem zP (l:List dt) (hN:l.length<=140737488355328) (x:ByteArray):af C 290 [.pv (.sl (l.map yk)),.pv (.fn 291 [.ip [str x]])] (.p (i64 (db (fun z:dt=>decide (z.name=x)) l 0))) []:=by
 refine ah hC Tryz.func290 rfl rfl 19 rfl (by decide) (by kernel_rfl) fun _ _ _ _ _=>?_
 have lm:=ai l yk
 (repeat refine yY Z ?_)
 refine ak (fun i:Nat=>i<=l.length/\∀z∈l.take i,(fun z:dt=>decide (z.name=x)) z=false) (fun i=>[(0,.p (.sl (l.map yk))),(1,.p (.fn 291 [.ip [str x]])),(7,.p (i64 (l.map yk).length)),(8,.p (i64 i))]) (fun _=>[]) (fun i=>l.length - i) 0 _ (aD.refl _ _) ⟨Nat.zero_le _,by simp⟩ ⟨Z,Z,Z,Z,Y⟩ trivial fun i hi t h=>?_
 (repeat refine yY Z ?_);refine iF Z (fun h1=>?_) (fun h1=>?_)
 ·rw[lm] at h1
  obtain⟨r,hr⟩:=aj (l:=l) (i:=i) (by omega)
  (repeat refine yY Z ?_);refine zX zi ⟨(yk r),(idx rfl hr),?_⟩
  (repeat refine yY Z ?_);refine zX zi ⟨_,_,(ED r x),?_⟩
  (repeat refine yY Z ?_);refine iF Z (fun h2=>?_) (fun h2=>?_)
  ·(repeat refine yY Z ?_);refine aa zi (And.intro ?_ trivial)
   rw[dr (p:=fun z:dt=>decide (z.name=x)) hr (by simpa using h2) hi.2,Nat.zero_add]
  (repeat refine yY Z ?_);refine zA zi (And.intro ⟨by omega,by omega⟩ ?_)
  (repeat refine yY Z ?_);refine ae ⟨(i+1),_,aD.refl _ _,?_⟩
  exact⟨⟨by omega,fE (p:=fun z:dt=>decide (z.name=x)) hr (by simpa using h2) hi.2⟩,by omega,⟨Z,Z,Z,Z,Y⟩,trivial⟩
 rw[lm] at h1
 (repeat refine yY Z ?_);refine aa zi (And.intro ?_ trivial)
 have h2:=hi.2
 rw[List.take_of_length_le (by omega)] at h2
 rw[bT (p:=fun z:dt=>decide (z.name=x)) h2]
 rfl
theorem EE (l:List (Int×Int)) (hN:l.length<=140737488355328) (p:fG) (hu:1<=p.unit/\p.unit<=1000):af C 292 [.pv (.sl (l.map sp)),.pv (.fn 257 [.ip (du p)])] (.p (i64 (db (fun q:Int×Int=>!kr q p.unit) l 0))) []:=by
 refine ah hC Tryz.func292 rfl rfl 19 rfl (by decide) (by kernel_rfl) fun _ _ _ _ _=>?_
 have lm:=ai l sp
 (repeat refine yY Z ?_)
 refine ak (fun i:Nat=>i<=l.length/\∀z∈l.take i,(fun q:Int×Int=>!kr q p.unit) z=false) (fun i=>[(0,.p (.sl (l.map sp))),(1,.p (.fn 257 [.ip (du p)])),(7,.p (i64 (l.map sp).length)),(8,.p (i64 i))]) (fun _=>[]) (fun i=>l.length - i) 0 _ (aD.refl _ _) ⟨Nat.zero_le _,by simp⟩ ⟨Z,Z,Z,Z,Y⟩ trivial fun i hi t h=>?_
 (repeat refine yY Z ?_);refine iF Z (fun h1=>?_) (fun h1=>?_)
 ·rw[lm] at h1
  obtain⟨r,hr⟩:=aj (l:=l) (i:=i) (by omega)
  (repeat refine yY Z ?_);refine zX zi ⟨(sp r),(idx rfl hr),?_⟩
  (repeat refine yY Z ?_);refine zX zi ⟨_,_,(IZ r p hu),?_⟩
  (repeat refine yY Z ?_);refine iF Z (fun h2=>?_) (fun h2=>?_)
  ·(repeat refine yY Z ?_);refine aa zi (And.intro ?_ trivial)
   rw[dr (p:=fun q:Int×Int=>!kr q p.unit) hr (by simpa using h2) hi.2,Nat.zero_add]
  (repeat refine yY Z ?_);refine zA zi (And.intro ⟨by omega,by omega⟩ ?_)
  (repeat refine yY Z ?_);refine ae ⟨(i+1),_,aD.refl _ _,?_⟩
  exact⟨⟨by omega,fE (p:=fun q:Int×Int=>!kr q p.unit) hr (by simpa using h2) hi.2⟩,by omega,⟨Z,Z,Z,Z,Y⟩,trivial⟩
 rw[lm] at h1
 (repeat refine yY Z ?_);refine aa zi (And.intro ?_ trivial)
 have h2:=hi.2
 rw[List.take_of_length_le (by omega)] at h2
 rw[bT (p:=fun q:Int×Int=>!kr q p.unit) h2]
 rfl
theorem gp (l:List (Int×Int)) (hN:l.length<=140737488355328) (p:fG) (hu:1<=p.unit/\p.unit<=1000):af C 256 [.pv (.sl (l.map sp)),.pv (.fn 257 [.ip (du p)])] (.p (bool (l.any fun q=>!kr q p.unit))) []:=by
 refine ah hC Tryz.func256 rfl rfl 9 rfl (by decide) (by kernel_rfl) fun _ _ _ _ _=>?_
 (repeat refine yY Z ?_);refine zX zi ⟨_,_,(EE l hN p hu),?_⟩
 (repeat refine yY Z ?_);refine aa zi (And.intro ?_ trivial)
 rw[<-fb _ l 0]
 rfl
theorem xI (p:fG) (x:ByteArray) (hN:p.tools.length<=140737488355328):af C 254 [.pv (.ag (du p)),.pv (str x)] (.p (i64 (fy dt.name p.tools x))) []:=by
 refine ah hC Tryz.func254 rfl rfl 9 rfl (by decide) (by kernel_rfl) fun _ _ _ _ _=>?_
 (repeat refine yY Z ?_);refine zX zi ⟨_,_,(zP p.tools hN x),?_⟩
 (repeat refine yY Z ?_);refine aa zi (And.intro ?_ trivial)
 rfl
theorem tw (p:fG) (s:fm) (sub:List (List PV)) (d:Int) (hp:oy p) (so:lf s) (hk:s.kind=1\/s.kind=2) (hn:sub.length<=1048576):af C 190 [.pv (.ag (du p)),.pv (.ag (ym s sub)),.pv (i64 d)] (.p (i64 (fN p s sub.length d))) []:=by
 refine ah hC Tryz.func190 rfl rfl 120 rfl (by decide) (by kernel_rfl) fun _ _ _ _ _=>?_
 have lm:=ai s.pts sp
 have Mx:=so.2
 have k1:dP s.kind 1 8=true:=cO.2 (by omega)
 have e3:decide (s.kind=3)=false:=by simp;try omega
 have eA:Cy s.kind=false:=by simp[Cy];try omega
 have e7:decide (s.kind=7)=false:=by simp;try omega
 have e8:decide (s.kind=8)=false:=by simp;try omega
 have hf:=eQ s.kind
 rw[show gy s.kind=[bool false,bool false,bool false,bool false] by rw[gy,e3,eA,e7,e8]] at hf
 have mL:cP s sub.length=((!false && !decide (s.name=aX)) || (!false && !(decide (s.x=0) && decide (s.y=0))) || (!false && decide (0 < s.pts.length)) || (!false && !(decide (s.nx=0) && decide (s.ny=0) && decide (sub.length=0)))):=by rw[cP,e3,eA,e7,e8]
 rw[fN,if_pos k1]
 have hw:=cb s.kind 1 8
 rw[k1] at hw
 (repeat refine yY Z ?_);refine zX zi ⟨_,_,hw,?_⟩
 (repeat refine yY Z ?_);refine zX zi ⟨_,_,hf,?_⟩
 (repeat refine yY Z ?_);refine iF Z (fun f1=>?_) (fun f1=>?_)
 ·have f1:¬s.name=aX:=f1
  repeat' ((repeat refine yY Z ?_);refine iF Z (fun w=>?_) (fun w=>?_))
  all_goals (first | ((repeat refine yY Z ?_);refine zX zi ?_) | ((repeat refine yY Z ?_);refine aa zi ?_))
  all_goals first
   | (
     refine And.intro ?_ trivial
     rw[mL,if_pos (by simp[f1])];rfl)
   | (exfalso;first | contradiction | omega | (simp_all;done))
 have f1:s.name=aX:=by simpa [aX] using f1
 (repeat refine yY Z ?_);refine iF Z (fun f2=>?_) (fun f2=>?_) <;> try simp only[zB] at f2
 ·skip
  repeat' ((repeat refine yY Z ?_);refine iF Z (fun w=>?_) (fun w=>?_) <;> try simp only[zB] at w)
  all_goals (first | ((repeat refine yY Z ?_);refine zX zi ?_) | ((repeat refine yY Z ?_);refine aa zi ?_))
  all_goals first
   | (
     refine And.intro ?_ trivial
     rw[mL,if_pos (by simp at f2;by_cases hx:s.x=0 <;> by_cases hy:s.y=0 <;> simp_all)];rfl)
   | (exfalso;first | contradiction | omega | (simp_all;done))
 have f2:s.x=0/\s.y=0:=by simpa using f2
 obtain⟨f2,Lt⟩:=f2
 (repeat refine yY Z ?_);refine iF Z (fun f3=>?_) (fun f3=>?_)
 ·skip
  repeat' ((repeat refine yY Z ?_);refine iF Z (fun w=>?_) (fun w=>?_))
  all_goals (first | ((repeat refine yY Z ?_);refine zX zi ?_) | ((repeat refine yY Z ?_);refine aa zi ?_))
  all_goals first
   | (
     refine And.intro ?_ trivial
     rw[mL,if_pos (by rw[decide_eq_true (by omega:0 < s.pts.length)];simp)];rfl)
   | (exfalso;first | contradiction | omega | (simp_all;done))
 have f3:s.pts.length=0:=by omega
 (repeat refine yY Z ?_);refine iF Z (fun f4=>?_) (fun f4=>?_)
 ·have f4:¬s.nx=0:=f4
  repeat' (refine iF Z (fun w=>?_) (fun w=>?_))
  all_goals ((repeat refine yY Z ?_);refine aa zi ?_)
  all_goals first
   | (
     refine And.intro ?_ trivial
     rw[mL,if_pos (by simp[f4])];rfl)
   | (exfalso;first | contradiction | omega | (simp_all;done))
 have f4:s.nx=0:=by simpa using f4
 (repeat refine yY Z ?_);refine iF Z (fun f5=>?_) (fun f5=>?_)
 ·have f5:¬s.ny=0:=f5
  repeat' (refine iF Z (fun w=>?_) (fun w=>?_))
  all_goals ((repeat refine yY Z ?_);refine aa zi ?_)
  all_goals first
   | (
     refine And.intro ?_ trivial
     rw[mL,if_pos (by simp[f5])];rfl)
   | (exfalso;first | contradiction | omega | (simp_all;done))
 have f5:s.ny=0:=by simpa using f5
 (repeat refine yY Z ?_);refine iF Z (fun f6=>?_) (fun f6=>?_)
 ·skip
  repeat' (refine iF Z (fun w=>?_) (fun w=>?_))
  all_goals ((repeat refine yY Z ?_);refine aa zi ?_)
  all_goals first
   | (
     refine And.intro ?_ trivial
     rw[mL,if_pos (by rw[decide_eq_false (by omega:¬sub.length=0)];simp)];rfl)
   | (exfalso;first | contradiction | omega | (simp_all;done))
 have f6:sub.length=0:=by omega
 have BJ:cP s sub.length=false:=by rw[mL];simp[f1,f2,Lt,f3,f4,f5,f6]
 rw[BJ,if_neg (by decide)]
 rw[if_neg (fun e=>by omega)]
 (repeat refine yY Z ?_);refine zX zi ⟨_,_,(ez (s.x,s.y) p.unit hp.unit),?_⟩
 (repeat refine yY Z ?_);refine iF Z (fun g2=>?_) (fun g2=>?_)
 ·(repeat refine yY Z ?_);refine aa zi (And.intro ?_ trivial)
  rw[if_neg (by simp[g2])];rfl
 rw[if_pos (by simpa using g2)]
 (repeat refine yY Z ?_);refine zX zi ⟨_,_,(gp s.pts (by omega) p hp.unit),?_⟩
 (repeat refine yY Z ?_);refine iF Z (fun g3=>?_) (fun g3=>?_)
 ·(repeat refine yY Z ?_);refine aa zi (And.intro ?_ trivial)
  rw[if_pos g3];rfl
 rw[if_neg (by simp[g3])]
 (repeat refine yY Z ?_);refine iF Z (fun g4=>?_) (fun g4=>?_)
 ·(repeat refine yY Z ?_);refine aa zi (And.intro ?_ trivial)
  rw[if_pos (by omega)];rfl
 rw[if_neg (by omega)]
 rw[if_neg (fun e=>by omega)]
 rw[if_neg (by omega)]
 (repeat refine yY Z ?_);refine aa zi (And.intro ?_ trivial)
 rfl
theorem vN (p:fG) (s:fm) (sub:List (List PV)) (d:Int) (hp:oy p) (so:lf s) (hk:s.kind=3) (hn:sub.length<=1048576):af C 190 [.pv (.ag (du p)),.pv (.ag (ym s sub)),.pv (i64 d)] (.p (i64 (fN p s sub.length d))) []:=by
 refine ah hC Tryz.func190 rfl rfl 120 rfl (by decide) (by kernel_rfl) fun _ _ _ _ _=>?_
 have lm:=ai s.pts sp
 have Mx:=so.2
 have k1:dP s.kind 1 8=true:=cO.2 (by omega)
 have e3:decide (s.kind=3)=true:=by simp;try omega
 have eA:Cy s.kind=false:=by simp[Cy];try omega
 have e7:decide (s.kind=7)=false:=by simp;try omega
 have e8:decide (s.kind=8)=false:=by simp;try omega
 have hf:=eQ s.kind
 rw[show gy s.kind=[bool true,bool false,bool false,bool false] by rw[gy,e3,eA,e7,e8]] at hf
 have mL:cP s sub.length=((!true && !decide (s.name=aX)) || (!false && !(decide (s.x=0) && decide (s.y=0))) || (!false && decide (0 < s.pts.length)) || (!false && !(decide (s.nx=0) && decide (s.ny=0) && decide (sub.length=0)))):=by rw[cP,e3,eA,e7,e8]
 rw[fN,if_pos k1]
 have hw:=cb s.kind 1 8
 rw[k1] at hw
 (repeat refine yY Z ?_);refine zX zi ⟨_,_,hw,?_⟩
 (repeat refine yY Z ?_);refine zX zi ⟨_,_,hf,?_⟩
 (repeat refine yY Z ?_);refine iF Z (fun f2=>?_) (fun f2=>?_) <;> try simp only[zB] at f2
 ·skip
  repeat' ((repeat refine yY Z ?_);refine iF Z (fun w=>?_) (fun w=>?_) <;> try simp only[zB] at w)
  all_goals (first | ((repeat refine yY Z ?_);refine zX zi ?_) | ((repeat refine yY Z ?_);refine aa zi ?_))
  all_goals first
   | (
     refine And.intro ?_ trivial
     rw[mL,if_pos (by simp at f2;by_cases hx:s.x=0 <;> by_cases hy:s.y=0 <;> simp_all)];rfl)
   | (exfalso;first | contradiction | omega | (simp_all;done))
 have f2:s.x=0/\s.y=0:=by simpa using f2
 obtain⟨f2,Lt⟩:=f2
 (repeat refine yY Z ?_);refine iF Z (fun f3=>?_) (fun f3=>?_)
 ·skip
  repeat' ((repeat refine yY Z ?_);refine iF Z (fun w=>?_) (fun w=>?_))
  all_goals (first | ((repeat refine yY Z ?_);refine zX zi ?_) | ((repeat refine yY Z ?_);refine aa zi ?_))
  all_goals first
   | (
     refine And.intro ?_ trivial
     rw[mL,if_pos (by rw[decide_eq_true (by omega:0 < s.pts.length)];simp)];rfl)
   | (exfalso;first | contradiction | omega | (simp_all;done))
 have f3:s.pts.length=0:=by omega
 (repeat refine yY Z ?_);refine iF Z (fun f4=>?_) (fun f4=>?_)
 ·have f4:¬s.nx=0:=f4
  repeat' (refine iF Z (fun w=>?_) (fun w=>?_))
  all_goals ((repeat refine yY Z ?_);refine aa zi ?_)
  all_goals first
   | (
     refine And.intro ?_ trivial
     rw[mL,if_pos (by simp[f4])];rfl)
   | (exfalso;first | contradiction | omega | (simp_all;done))
 have f4:s.nx=0:=by simpa using f4
 (repeat refine yY Z ?_);refine iF Z (fun f5=>?_) (fun f5=>?_)
 ·have f5:¬s.ny=0:=f5
  repeat' (refine iF Z (fun w=>?_) (fun w=>?_))
  all_goals ((repeat refine yY Z ?_);refine aa zi ?_)
  all_goals first
   | (
     refine And.intro ?_ trivial
     rw[mL,if_pos (by simp[f5])];rfl)
   | (exfalso;first | contradiction | omega | (simp_all;done))
 have f5:s.ny=0:=by simpa using f5
 (repeat refine yY Z ?_);refine iF Z (fun f6=>?_) (fun f6=>?_)
 ·skip
  repeat' (refine iF Z (fun w=>?_) (fun w=>?_))
  all_goals ((repeat refine yY Z ?_);refine aa zi ?_)
  all_goals first
   | (
     refine And.intro ?_ trivial
     rw[mL,if_pos (by rw[decide_eq_false (by omega:¬sub.length=0)];simp)];rfl)
   | (exfalso;first | contradiction | omega | (simp_all;done))
 have f6:sub.length=0:=by omega
 have BJ:cP s sub.length=false:=by rw[mL];simp[f2,Lt,f3,f4,f5,f6]
 rw[BJ,if_neg (by decide)]
 (repeat refine yY Z ?_);refine zX zi ⟨_,_,(xI p s.name (by have:=hp.tools;omega)),?_⟩
 (repeat refine yY Z ?_);refine iF Z (fun g1=>?_) (fun g1=>?_)
 ·(repeat refine yY Z ?_);refine aa zi (And.intro ?_ trivial)
  rw[if_pos ⟨hk,g1⟩];rfl
 rw[if_neg (fun e=>g1 e.2)]
 (repeat refine yY Z ?_);refine zX zi ⟨_,_,(ez (s.x,s.y) p.unit hp.unit),?_⟩
 (repeat refine yY Z ?_);refine iF Z (fun g2=>?_) (fun g2=>?_)
 ·(repeat refine yY Z ?_);refine aa zi (And.intro ?_ trivial)
  rw[if_neg (by simp[g2])];rfl
 rw[if_pos (by simpa using g2)]
 (repeat refine yY Z ?_);refine zX zi ⟨_,_,(gp s.pts (by omega) p hp.unit),?_⟩
 (repeat refine yY Z ?_);refine iF Z (fun g3=>?_) (fun g3=>?_)
 ·(repeat refine yY Z ?_);refine aa zi (And.intro ?_ trivial)
  rw[if_pos g3];rfl
 rw[if_neg (by simp[g3])]
 (repeat refine yY Z ?_);refine iF Z (fun g4=>?_) (fun g4=>?_)
 ·(repeat refine yY Z ?_);refine aa zi (And.intro ?_ trivial)
  rw[if_pos (by omega)];rfl
 rw[if_neg (by omega)]
 rw[if_neg (fun e=>by omega)]
 rw[if_neg (by omega)]
 (repeat refine yY Z ?_);refine aa zi (And.intro ?_ trivial)
 rfl
theorem su (p:fG) (s:fm) (sub:List (List PV)) (d:Int) (hp:oy p) (so:lf s) (hk:s.kind=4\/s.kind=5\/s.kind=6) (hn:sub.length<=1048576):af C 190 [.pv (.ag (du p)),.pv (.ag (ym s sub)),.pv (i64 d)] (.p (i64 (fN p s sub.length d))) []:=by
 refine ah hC Tryz.func190 rfl rfl 120 rfl (by decide) (by kernel_rfl) fun _ _ _ _ _=>?_
 have lm:=ai s.pts sp
 have Mx:=so.2
 have k1:dP s.kind 1 8=true:=cO.2 (by omega)
 have e3:decide (s.kind=3)=false:=by simp;try omega
 have eA:Cy s.kind=true:=by simp[Cy];try omega
 have e7:decide (s.kind=7)=false:=by simp;try omega
 have e8:decide (s.kind=8)=false:=by simp;try omega
 have hf:=eQ s.kind
 rw[show gy s.kind=[bool false,bool true,bool false,bool false] by rw[gy,e3,eA,e7,e8]] at hf
 have mL:cP s sub.length=((!false && !decide (s.name=aX)) || (!true && !(decide (s.x=0) && decide (s.y=0))) || (!false && decide (0 < s.pts.length)) || (!false && !(decide (s.nx=0) && decide (s.ny=0) && decide (sub.length=0)))):=by rw[cP,e3,eA,e7,e8]
 rw[fN,if_pos k1]
 have hw:=cb s.kind 1 8
 rw[k1] at hw
 (repeat refine yY Z ?_);refine zX zi ⟨_,_,hw,?_⟩
 (repeat refine yY Z ?_);refine zX zi ⟨_,_,hf,?_⟩
 (repeat refine yY Z ?_);refine iF Z (fun f1=>?_) (fun f1=>?_)
 ·have f1:¬s.name=aX:=f1
  repeat' ((repeat refine yY Z ?_);refine iF Z (fun w=>?_) (fun w=>?_))
  all_goals (first | ((repeat refine yY Z ?_);refine zX zi ?_) | ((repeat refine yY Z ?_);refine aa zi ?_))
  all_goals first
   | (
     refine And.intro ?_ trivial
     rw[mL,if_pos (by simp[f1])];rfl)
   | (exfalso;first | contradiction | omega | (simp_all;done))
 have f1:s.name=aX:=by simpa [aX] using f1
 (repeat refine yY Z ?_);refine iF Z (fun f3=>?_) (fun f3=>?_)
 ·skip
  repeat' ((repeat refine yY Z ?_);refine iF Z (fun w=>?_) (fun w=>?_))
  all_goals (first | ((repeat refine yY Z ?_);refine zX zi ?_) | ((repeat refine yY Z ?_);refine aa zi ?_))
  all_goals first
   | (
     refine And.intro ?_ trivial
     rw[mL,if_pos (by rw[decide_eq_true (by omega:0 < s.pts.length)];simp)];rfl)
   | (exfalso;first | contradiction | omega | (simp_all;done))
 have f3:s.pts.length=0:=by omega
 (repeat refine yY Z ?_);refine iF Z (fun f4=>?_) (fun f4=>?_)
 ·have f4:¬s.nx=0:=f4
  repeat' (refine iF Z (fun w=>?_) (fun w=>?_))
  all_goals ((repeat refine yY Z ?_);refine aa zi ?_)
  all_goals first
   | (
     refine And.intro ?_ trivial
     rw[mL,if_pos (by simp[f4])];rfl)
   | (exfalso;first | contradiction | omega | (simp_all;done))
 have f4:s.nx=0:=by simpa using f4
 (repeat refine yY Z ?_);refine iF Z (fun f5=>?_) (fun f5=>?_)
 ·have f5:¬s.ny=0:=f5
  repeat' (refine iF Z (fun w=>?_) (fun w=>?_))
  all_goals ((repeat refine yY Z ?_);refine aa zi ?_)
  all_goals first
   | (
     refine And.intro ?_ trivial
     rw[mL,if_pos (by simp[f5])];rfl)
   | (exfalso;first | contradiction | omega | (simp_all;done))
 have f5:s.ny=0:=by simpa using f5
 (repeat refine yY Z ?_);refine iF Z (fun f6=>?_) (fun f6=>?_)
 ·skip
  repeat' (refine iF Z (fun w=>?_) (fun w=>?_))
  all_goals ((repeat refine yY Z ?_);refine aa zi ?_)
  all_goals first
   | (
     refine And.intro ?_ trivial
     rw[mL,if_pos (by rw[decide_eq_false (by omega:¬sub.length=0)];simp)];rfl)
   | (exfalso;first | contradiction | omega | (simp_all;done))
 have f6:sub.length=0:=by omega
 have BJ:cP s sub.length=false:=by rw[mL];simp[f1,f3,f4,f5,f6]
 rw[BJ,if_neg (by decide)]
 rw[if_neg (fun e=>by omega)]
 (repeat refine yY Z ?_);refine zX zi ⟨_,_,(ez (s.x,s.y) p.unit hp.unit),?_⟩
 (repeat refine yY Z ?_);refine iF Z (fun g2=>?_) (fun g2=>?_)
 ·(repeat refine yY Z ?_);refine aa zi (And.intro ?_ trivial)
  rw[if_neg (by simp[g2])];rfl
 rw[if_pos (by simpa using g2)]
 (repeat refine yY Z ?_);refine zX zi ⟨_,_,(gp s.pts (by omega) p hp.unit),?_⟩
 (repeat refine yY Z ?_);refine iF Z (fun g3=>?_) (fun g3=>?_)
 ·(repeat refine yY Z ?_);refine aa zi (And.intro ?_ trivial)
  rw[if_pos g3];rfl
 rw[if_neg (by simp[g3])]
 (repeat refine yY Z ?_);refine iF Z (fun g4=>?_) (fun g4=>?_)
 ·(repeat refine yY Z ?_);refine aa zi (And.intro ?_ trivial)
  rw[if_pos (by omega)];rfl
 rw[if_neg (by omega)]
 rw[if_neg (fun e=>by omega)]
 rw[if_neg (by omega)]
 (repeat refine yY Z ?_);refine aa zi (And.intro ?_ trivial)
 rfl
theorem vO (p:fG) (s:fm) (sub:List (List PV)) (d:Int) (hp:oy p) (so:lf s) (hk:s.kind=7) (hn:sub.length<=1048576):af C 190 [.pv (.ag (du p)),.pv (.ag (ym s sub)),.pv (i64 d)] (.p (i64 (fN p s sub.length d))) []:=by
 refine ah hC Tryz.func190 rfl rfl 120 rfl (by decide) (by kernel_rfl) fun _ _ _ _ _=>?_
 have lm:=ai s.pts sp
 have Mx:=so.2
 have k1:dP s.kind 1 8=true:=cO.2 (by omega)
 have e3:decide (s.kind=3)=false:=by simp;try omega
 have eA:Cy s.kind=false:=by simp[Cy];try omega
 have e7:decide (s.kind=7)=true:=by simp;try omega
 have e8:decide (s.kind=8)=false:=by simp;try omega
 have hf:=eQ s.kind
 rw[show gy s.kind=[bool false,bool false,bool true,bool false] by rw[gy,e3,eA,e7,e8]] at hf
 have mL:cP s sub.length=((!false && !decide (s.name=aX)) || (!false && !(decide (s.x=0) && decide (s.y=0))) || (!true && decide (0 < s.pts.length)) || (!false && !(decide (s.nx=0) && decide (s.ny=0) && decide (sub.length=0)))):=by rw[cP,e3,eA,e7,e8]
 rw[fN,if_pos k1]
 have hw:=cb s.kind 1 8
 rw[k1] at hw
 (repeat refine yY Z ?_);refine zX zi ⟨_,_,hw,?_⟩
 (repeat refine yY Z ?_);refine zX zi ⟨_,_,hf,?_⟩
 (repeat refine yY Z ?_);refine iF Z (fun f1=>?_) (fun f1=>?_)
 ·have f1:¬s.name=aX:=f1
  repeat' ((repeat refine yY Z ?_);refine iF Z (fun w=>?_) (fun w=>?_))
  all_goals (first | ((repeat refine yY Z ?_);refine zX zi ?_) | ((repeat refine yY Z ?_);refine aa zi ?_))
  all_goals first
   | (
     refine And.intro ?_ trivial
     rw[mL,if_pos (by simp[f1])];rfl)
   | (exfalso;first | contradiction | omega | (simp_all;done))
 have f1:s.name=aX:=by simpa [aX] using f1
 (repeat refine yY Z ?_);refine iF Z (fun f2=>?_) (fun f2=>?_) <;> try simp only[zB] at f2
 ·skip
  repeat' ((repeat refine yY Z ?_);refine iF Z (fun w=>?_) (fun w=>?_) <;> try simp only[zB] at w)
  all_goals (first | ((repeat refine yY Z ?_);refine zX zi ?_) | ((repeat refine yY Z ?_);refine aa zi ?_))
  all_goals first
   | (
     refine And.intro ?_ trivial
     rw[mL,if_pos (by simp at f2;by_cases hx:s.x=0 <;> by_cases hy:s.y=0 <;> simp_all)];rfl)
   | (exfalso;first | contradiction | omega | (simp_all;done))
 have f2:s.x=0/\s.y=0:=by simpa using f2
 obtain⟨f2,Lt⟩:=f2
 (repeat refine yY Z ?_);refine iF Z (fun f4=>?_) (fun f4=>?_)
 ·have f4:¬s.nx=0:=f4
  repeat' (refine iF Z (fun w=>?_) (fun w=>?_))
  all_goals ((repeat refine yY Z ?_);refine aa zi ?_)
  all_goals first
   | (
     refine And.intro ?_ trivial
     rw[mL,if_pos (by simp[f4])];rfl)
   | (exfalso;first | contradiction | omega | (simp_all;done))
 have f4:s.nx=0:=by simpa using f4
 (repeat refine yY Z ?_);refine iF Z (fun f5=>?_) (fun f5=>?_)
 ·have f5:¬s.ny=0:=f5
  repeat' (refine iF Z (fun w=>?_) (fun w=>?_))
  all_goals ((repeat refine yY Z ?_);refine aa zi ?_)
  all_goals first
   | (
     refine And.intro ?_ trivial
     rw[mL,if_pos (by simp[f5])];rfl)
   | (exfalso;first | contradiction | omega | (simp_all;done))
 have f5:s.ny=0:=by simpa using f5
 (repeat refine yY Z ?_);refine iF Z (fun f6=>?_) (fun f6=>?_)
 ·skip
  repeat' (refine iF Z (fun w=>?_) (fun w=>?_))
  all_goals ((repeat refine yY Z ?_);refine aa zi ?_)
  all_goals first
   | (
     refine And.intro ?_ trivial
     rw[mL,if_pos (by rw[decide_eq_false (by omega:¬sub.length=0)];simp)];rfl)
   | (exfalso;first | contradiction | omega | (simp_all;done))
 have f6:sub.length=0:=by omega
 have BJ:cP s sub.length=false:=by rw[mL];simp[f1,f2,Lt,f4,f5,f6]
 rw[BJ,if_neg (by decide)]
 rw[if_neg (fun e=>by omega)]
 (repeat refine yY Z ?_);refine zX zi ⟨_,_,(ez (s.x,s.y) p.unit hp.unit),?_⟩
 (repeat refine yY Z ?_);refine iF Z (fun g2=>?_) (fun g2=>?_)
 ·(repeat refine yY Z ?_);refine aa zi (And.intro ?_ trivial)
  rw[if_neg (by simp[g2])];rfl
 rw[if_pos (by simpa using g2)]
 (repeat refine yY Z ?_);refine zX zi ⟨_,_,(gp s.pts (by omega) p hp.unit),?_⟩
 (repeat refine yY Z ?_);refine iF Z (fun g3=>?_) (fun g3=>?_)
 ·(repeat refine yY Z ?_);refine aa zi (And.intro ?_ trivial)
  rw[if_pos g3];rfl
 rw[if_neg (by simp[g3])]
 (repeat refine yY Z ?_);refine iF Z (fun g4=>?_) (fun g4=>?_)
 ·(repeat refine yY Z ?_);refine aa zi (And.intro ?_ trivial)
  rw[if_pos (by omega)];rfl
 rw[if_neg (by omega)]
 (repeat refine yY Z ?_);refine zX zi ⟨_,_,(xH s.pts (by omega)),?_⟩
 (repeat refine yY Z ?_);refine iF Z (fun g5=>?_) (fun g5=>?_)
 ·(repeat refine yY Z ?_);refine aa zi (And.intro ?_ trivial)
  rw[if_pos ⟨hk,by simpa using g5⟩];rfl
 rw[if_neg (fun e=>by simp[e.2] at g5)]
 rw[if_neg (by omega)]
 (repeat refine yY Z ?_);refine aa zi (And.intro ?_ trivial)
 rfl
theorem vP (p:fG) (s:fm) (sub:List (List PV)) (d:Int) (hp:oy p) (so:lf s) (hk:s.kind=8) (hn:sub.length<=1048576):af C 190 [.pv (.ag (du p)),.pv (.ag (ym s sub)),.pv (i64 d)] (.p (i64 (fN p s sub.length d))) []:=by
 refine ah hC Tryz.func190 rfl rfl 120 rfl (by decide) (by kernel_rfl) fun _ _ _ _ _=>?_
 have lm:=ai s.pts sp
 have Mx:=so.2
 have k1:dP s.kind 1 8=true:=cO.2 (by omega)
 have e3:decide (s.kind=3)=false:=by simp;try omega
 have eA:Cy s.kind=true:=by simp[Cy];try omega
 have e7:decide (s.kind=7)=false:=by simp;try omega
 have e8:decide (s.kind=8)=true:=by simp;try omega
 have hf:=eQ s.kind
 rw[show gy s.kind=[bool false,bool true,bool false,bool true] by rw[gy,e3,eA,e7,e8]] at hf
 have mL:cP s sub.length=((!false && !decide (s.name=aX)) || (!true && !(decide (s.x=0) && decide (s.y=0))) || (!false && decide (0 < s.pts.length)) || (!true && !(decide (s.nx=0) && decide (s.ny=0) && decide (sub.length=0)))):=by rw[cP,e3,eA,e7,e8]
 rw[fN,if_pos k1]
 have hw:=cb s.kind 1 8
 rw[k1] at hw
 (repeat refine yY Z ?_);refine zX zi ⟨_,_,hw,?_⟩
 (repeat refine yY Z ?_);refine zX zi ⟨_,_,hf,?_⟩
 (repeat refine yY Z ?_);refine iF Z (fun f1=>?_) (fun f1=>?_)
 ·have f1:¬s.name=aX:=f1
  repeat' ((repeat refine yY Z ?_);refine iF Z (fun w=>?_) (fun w=>?_))
  all_goals (first | ((repeat refine yY Z ?_);refine zX zi ?_) | ((repeat refine yY Z ?_);refine aa zi ?_))
  all_goals first
   | (
     refine And.intro ?_ trivial
     rw[mL,if_pos (by simp[f1])];rfl)
   | (exfalso;first | contradiction | omega | (simp_all;done))
 have f1:s.name=aX:=by simpa [aX] using f1
 (repeat refine yY Z ?_);refine iF Z (fun f3=>?_) (fun f3=>?_)
 ·skip
  repeat' ((repeat refine yY Z ?_);refine iF Z (fun w=>?_) (fun w=>?_))
  all_goals (first | ((repeat refine yY Z ?_);refine zX zi ?_) | ((repeat refine yY Z ?_);refine aa zi ?_))
  all_goals first
   | (
     refine And.intro ?_ trivial
     rw[mL,if_pos (by rw[decide_eq_true (by omega:0 < s.pts.length)];simp)];rfl)
   | (exfalso;first | contradiction | omega | (simp_all;done))
 have f3:s.pts.length=0:=by omega
 have BJ:cP s sub.length=false:=by rw[mL];simp[f1,f3]
 rw[BJ,if_neg (by decide)]
 rw[if_neg (fun e=>by omega)]
 (repeat refine yY Z ?_);refine zX zi ⟨_,_,(ez (s.x,s.y) p.unit hp.unit),?_⟩
 (repeat refine yY Z ?_);refine iF Z (fun g2=>?_) (fun g2=>?_)
 ·(repeat refine yY Z ?_);refine aa zi (And.intro ?_ trivial)
  rw[if_neg (by simp[g2])];rfl
 rw[if_pos (by simpa using g2)]
 (repeat refine yY Z ?_);refine zX zi ⟨_,_,(gp s.pts (by omega) p hp.unit),?_⟩
 (repeat refine yY Z ?_);refine iF Z (fun g3=>?_) (fun g3=>?_)
 ·(repeat refine yY Z ?_);refine aa zi (And.intro ?_ trivial)
  rw[if_pos g3];rfl
 rw[if_neg (by simp[g3])]
 (repeat refine yY Z ?_);refine iF Z (fun g4=>?_) (fun g4=>?_)
 ·(repeat refine yY Z ?_);refine aa zi (And.intro ?_ trivial)
  rw[if_pos (by omega)];rfl
 rw[if_neg (by omega)]
 rw[if_neg (fun e=>by omega)]
 rw[if_pos hk]
 (repeat refine yY Z ?_);refine zX zi ⟨_,_,(cb s.nx 1 100),?_⟩
 (repeat refine yY Z ?_);refine iF Z (fun g6=>?_) (fun g6=>?_)
 ·(repeat refine yY Z ?_);refine aa zi (And.intro ?_ trivial)
  rw[if_neg (by simp[g6])];rfl
 rw[if_pos (by simpa using g6)]
 (repeat refine yY Z ?_);refine zX zi ⟨_,_,(cb s.ny 1 100),?_⟩
 (repeat refine yY Z ?_);refine iF Z (fun g7=>?_) (fun g7=>?_)
 ·(repeat refine yY Z ?_);refine aa zi (And.intro ?_ trivial)
  rw[if_neg (by simp[g7])];rfl
 rw[if_pos (by simpa using g7)]
 (repeat refine yY Z ?_);refine iF Z (fun g8=>?_) (fun g8=>?_)
 ·have g8:((sub.length:Nat):Int)=0:=g8
  (repeat refine yY Z ?_);refine aa zi (And.intro ?_ trivial)
  rw[if_pos (by omega)];rfl
 have g8:¬((sub.length:Nat):Int)=0:=g8
 rw[if_neg (by omega)]
 (repeat refine yY Z ?_);refine iF Z (fun g9=>?_) (fun g9=>?_)
 ·(repeat refine yY Z ?_);refine aa zi (And.intro ?_ trivial)
  rw[if_pos (by omega)];rfl
 rw[if_neg (by omega)]
 (repeat refine yY Z ?_);refine aa zi (And.intro ?_ trivial)
 rfl
theorem sv (p:fG) (s:fm) (sub:List (List PV)) (d:Int) (hp:oy p) (so:lf s) (hn:sub.length<=1048576):af C 190 [.pv (.ag (du p)),.pv (.ag (ym s sub)),.pv (i64 d)] (.p (i64 (fN p s sub.length d))) []:=by
 by_cases hw:1<=s.kind/\s.kind<=8
 ·by_cases k3:s.kind=3
  ·exact vN p s sub d hp so k3 hn
  by_cases k7:s.kind=7
  ·exact vO p s sub d hp so k7 hn
  by_cases k8:s.kind=8
  ·exact vP p s sub d hp so k8 hn
  by_cases k2:s.kind=1\/s.kind=2
  ·exact tw p s sub d hp so k2 hn
  exact su p s sub d hp so (by omega) hn
 refine ah hC Tryz.func190 rfl rfl 120 rfl (by decide) (by kernel_rfl) fun _ _ _ _ _=>?_
 (repeat refine yY Z ?_);refine zX zi ⟨_,_,(cb s.kind 1 8),?_⟩
 have k1:dP s.kind 1 8=false:=Gc.2 hw
 (repeat refine yY Z ?_);refine iF Z (fun a1=>?_) (fun a1=>?_)
 ·(repeat refine yY Z ?_);refine aa zi (And.intro ?_ trivial)
  rw[fN,if_neg (by rw[k1];decide)];rfl
 exfalso;rw[k1] at a1;simp at a1
def Steps.every (Q:Steps->Prop):Steps->Prop
 | .nil=>True
 | .cons _ sub rest=>Q sub/\rest.every Q
def Steps.ok:Steps->Prop
 | .nil=>True
 | .cons s sub rest=>lf s/\sub.rows.length<=1048576/\sub.ok/\rest.ok
theorem fg {α:Type} {l:List α} {i:Nat} {a:α} {r:List α} (h:l.drop i=a::r):l[i]?=some a/\l.drop (i+1)=r/\i < l.length:=by
 have h1:l[i]?=some a:=by
  have:=congrArg (fun z:List α=>z[0]?) h
  simpa [List.getElem?_drop] using this
 refine⟨h1,?_,(List.getElem?_eq_some_iff.1 h1).1⟩
 rw[<-List.drop_drop,h]
 rfl
def tm (n:Int):Int:=if dP n 1 100=true then n else 1
theorem Ho (n:Int):1<=tm n/\tm n<=100:=by
 unfold tm
 split
 ·rename_i h;exact cO.1 h
 omega
def cap (n:Int):Int:=if 3000 < n then 3001 else n
def cntF:Steps->Int
 | .nil=>0
 | .cons s sub rest=>cap (1+tm s.nx*tm s.ny*cntF sub+cntF rest)
theorem I0 {n:Int} (h:0<=n):0<=cap n/\cap n<=3001:=by unfold cap;split <;> omega
theorem zQ (a b:Int):1<=tm a*tm b/\tm a*tm b<=10000:=by
 have ha:=Ho a
 have hb:=Ho b
 have h1:1*1<=tm a*tm b:=Int.mul_le_mul ha.1 hb.1 (by omega) (by omega)
 have h2:tm a*tm b<=100*100:=Int.mul_le_mul ha.2 hb.2 (by omega) (by omega)
 omega
theorem Bj (a b:Int) {c:Int} (h:0<=c/\c<=3001):0<=tm a*tm b*c/\tm a*tm b*c<=30010000:=by
 have hm:=zQ a b
 have h1:0<=tm a*tm b*c:=Int.mul_nonneg (by omega) h.1
 have h2:tm a*tm b*c<=10000*3001:=Int.mul_le_mul hm.2 h.2 h.1 (by omega)
 omega
theorem l_:∀u:Steps,0<=cntF u/\cntF u<=3001
 | .nil=>by simp[cntF]
 | .cons s sub rest=>by
  have h1:=l_ sub
  have h2:=l_ rest
  have h3:=Bj s.nx s.ny h1
  rw[cntF]
  exact I0 (by omega)
theorem Gk {n m:Int} (hn:0<=n) (hm:0<=m):cap (n+cap m)=cap (n+m):=by
 unfold cap
 repeat' split
 all_goals omega
theorem qj (n:Int):af C 252 [.pv (i64 n)] (.p (i64 (tm n))) []:=by
 refine ah hC Tryz.func252 rfl rfl 6 rfl (by decide) (by kernel_rfl) fun _ _ _ _ _=>?_
 (repeat refine yY Z ?_);refine zX zi ⟨_,_,(cb n 1 100),?_⟩
 (repeat refine yY Z ?_);refine iF Z (fun h=>?_) (fun h=>?_)
 ·(repeat refine yY Z ?_);refine aa zi (And.intro ?_ trivial)
  rw[tm,if_pos h]
 (repeat refine yY Z ?_);refine aa zi (And.intro ?_ trivial)
 rw[tm,if_neg (by simp[h])];rfl
theorem zR (s:fm) (sub:List (List PV)):af C 189 [.pv (.ag (ym s sub))] (.p (i64 (tm s.nx*tm s.ny))) []:=by
 refine ah hC Tryz.func189 rfl rfl 13 rfl (by decide) (by kernel_rfl) fun _ _ _ _ _=>?_
 have hm:=zQ s.nx s.ny
 skip
 refine mH ?_
 (repeat refine yY Z ?_);refine ae ?_
 refine JQ 1 (y:=.ip (ym s sub)) (fz:=[(1,.gC (ym s sub))]) (by exact hC) (by exact⟨rfl,rfl⟩) ?_
 (repeat refine yY Z ?_);refine c_ [] true [true,true,true,false,true,false,false,true,true,true] rfl (by kernel_rfl) ?_;(repeat refine yY Z ?_);refine zX zi ⟨_,_,(qj s.nx),?_⟩
 (repeat refine yY Z ?_);refine zX zi ⟨_,_,(qj s.ny),?_⟩
 (repeat refine yY Z ?_);refine zA zi (And.intro ⟨by first | omega | (dsimp only;omega),by first | omega | (dsimp only;omega)⟩ ?_)
 (repeat refine yY Z ?_);refine aa zi (And.intro ?_ trivial)
 rfl
def I1 (u:Steps):Prop:=u.rows.length<=1048576->af C 118 [.pv (.sl u.rows)] (.p (i64 (cntF u))) []
theorem sw {u:Steps} (h:u.rows.length=0):u=.nil:=by
 cases u with
 | nil=>rfl
 | cons s sub rest=>simp[Steps.rows] at h
theorem sx (u:Steps) (hs:u.every I1) (ho:u.ok) (hN:u.rows.length<=1048576):af C 118 [.pv (.sl u.rows)] (.p (i64 (cntF u))) []:=by
 refine ah hC Tryz.func118 rfl rfl 30 rfl (by decide) (by kernel_rfl) fun _ _ _ _ _=>?_
 (repeat refine yY Z ?_)
 refine ak (fun p:Nat×Steps×Int=>u.rows.drop p.1=p.2.1.rows/\p.2.1.every I1/\p.2.1.ok/\0<=p.2.2/\p.2.2<=3000/\cap (p.2.2+cntF p.2.1)=cap (cntF u)/\p.1<=u.rows.length) (fun p=>[(3,.p (i64 p.2.2)),(6,.p (.sl u.rows)),(7,.p (i64 u.rows.length)),(8,.p (i64 p.1))]) (fun _=>[]) (fun p=>u.rows.length - p.1) (0,u,0) _ (aD.refl _ _) ⟨rfl,hs,ho,by dsimp only;omega,by dsimp only;omega,by dsimp only;rw[Int.zero_add],Nat.zero_le _⟩ ⟨Z,Z,Z,Z,Y⟩ trivial fun ⟨i,v,n⟩ hi tt h=>?_
 obtain⟨q1,q2,q3,q4,q5,q6,q7⟩:=hi
 simp only at q1 q2 q3 q4 q5 q6 q7
 have K0:=l_ u
 have uO:cap (cntF u)=cntF u:=by unfold cap;split <;> omega
 rw[uO] at q6
 (repeat refine yY Z ?_);refine iF Z (fun h1=>?_) (fun h1=>?_) <;> try simp only[zB] at h1
 ·cases v with
  | nil=>
   exfalso
   have:=congrArg List.length q1
   simp[Steps.rows] at this
   omega
  | cons s sub rest=>
   obtain⟨d1,d2,d3⟩:=fg q1
   obtain⟨r1,r2⟩:=q2
   obtain⟨o1,o2,o3,o4⟩:=q3
   have je:=l_ sub
   have s8:=l_ rest
   have ht:=zQ s.nx s.ny
   have RS:=Bj s.nx s.ny je
   have q8:cap (n+(1+tm s.nx*tm s.ny*cntF sub)+cntF rest)=cntF u:=by
    rw[<-q6,cntF,Gk q4 (by omega)]
    congr 1
    omega
   (repeat refine yY Z ?_);refine zX zi ⟨(ym s sub.rows),⟨by omega,by rw[Int.toNat_natCast];exact d1⟩,?_⟩
   (repeat refine yY Z ?_);refine zA zi (And.intro ⟨by first | omega | (dsimp only;omega),by first | omega | (dsimp only;omega)⟩ ?_)
   (repeat refine yY Z ?_);refine iF Z (fun h2=>?_) (fun h2=>?_)
   ·refine c_ [] false Oi rfl (by kernel_rfl) ?_;(repeat refine yY Z ?_);refine zX zi ⟨_,_,(zR s sub.rows),?_⟩
    (repeat refine yY Z ?_);refine zX zi ⟨_,_,(r1 o2),?_⟩
    (repeat refine yY Z ?_);refine zA zi (And.intro ⟨by first | omega | (dsimp only;omega),by first | omega | (dsimp only;omega)⟩ ?_)
    (repeat refine yY Z ?_);refine zA zi (And.intro ⟨by first | omega | (dsimp only;omega),by first | omega | (dsimp only;omega)⟩ ?_)
    (repeat refine yY Z ?_);refine iF Z (fun h3=>?_) (fun h3=>?_) <;> try simp only[zB] at h3
    all_goals try dsimp only at h3
    ·(repeat refine yY Z ?_);refine aa zi (And.intro ?_ trivial)
     rw[<-q8,cap,if_pos (by omega)]
     try rfl
    (repeat refine yY Z ?_);refine zA zi (And.intro ⟨by first | omega | (dsimp only;omega),by first | omega | (dsimp only;omega)⟩ ?_)
    (repeat refine yY Z ?_);refine ae ⟨(i+1,rest,n+1+tm s.nx*tm s.ny*cntF sub),_,aD.refl _ _,?_⟩
    exact⟨⟨d2,r2,o4,by dsimp only;omega,by dsimp only;omega,by dsimp only;rw[uO,<-q8];congr 1 <;> omega,by dsimp only;omega⟩,by dsimp only;omega,⟨Z,Z,Z,Z,Y⟩,trivial⟩
   have e0:sub=.nil:=sw (by omega)
   have c0:cntF sub=0:=by rw[e0];rfl
   rw[c0,Int.mul_zero] at q8
   (repeat refine yY Z ?_);refine iF Z (fun h3=>?_) (fun h3=>?_) <;> try simp only[zB] at h3
   all_goals try dsimp only at h3
   ·(repeat refine yY Z ?_);refine aa zi (And.intro ?_ trivial)
    rw[<-q8,cap,if_pos (by omega)]
    try rfl
   (repeat refine yY Z ?_);refine zA zi (And.intro ⟨by first | omega | (dsimp only;omega),by first | omega | (dsimp only;omega)⟩ ?_)
   (repeat refine yY Z ?_);refine ae ⟨(i+1,rest,n+1),_,aD.refl _ _,?_⟩
   exact⟨⟨d2,r2,o4,by dsimp only;omega,by dsimp only;omega,by dsimp only;rw[uO,<-q8];congr 1 <;> omega,by dsimp only;omega⟩,by dsimp only;omega,⟨Z,Z,Z,Z,Y⟩,trivial⟩
 have hv:v=.nil:=sw (by rw[<-q1,List.length_drop];omega)
 rw[hv,cntF,Int.add_zero,cap,if_neg (by omega)] at q6
 (repeat refine yY Z ?_);refine aa zi (And.intro ?_ trivial)
 rw[q6]
 try rfl
theorem Steps.vQ {Q:Steps->Prop} (h:∀u:Steps,u.every Q->u.ok->Q u):∀u:Steps,u.ok->Q u/\u.every Q
 | .nil,ho=>⟨h .nil trivial ho,trivial⟩
 | .cons s sub rest,ho=>by
  have a:=vQ h sub ho.2.2.1
  have b:=vQ h rest ho.2.2.2
  have e:(Steps.cons s sub rest).every Q:=⟨a.1,b.2⟩
  exact⟨h _ e ho,e⟩
theorem xJ (u:Steps) (ho:u.ok) (hN:u.rows.length<=1048576):af C 118 [.pv (.sl u.rows)] (.p (i64 (cntF u))) []:=(Steps.vQ (Q:=I1) (fun u h1 h2 h3=>sx u h1 h2 h3) u ho).1 hN
def gz (p:fG):Steps->Int->Int
 | .nil,_=>0
 | .cons s sub rest,d=>nh (fN p s sub.rows.length d) (nh (gz p sub (d+1)) (gz p rest d))
def jZ (u:Int) (l:List dt) (i:Nat):Int:=match l[i]? with
 | some x=>nh (sr u x) (if a7 (l.map dt.name) i=true then 8 else 0)
 | none=>0
def bS (p:fG):Int:=if dP p.unit 1 1000=true then (if 200 < p.tools.length then 2 else nh (aH (jZ p.unit p.tools) 0 p.tools.length) (if 3000 < cntF p.steps then 2 else gz p p.steps 0)) else 1
structure ni (p:fG):Prop where
 tools:p.tools.length<=1048576/\∀t∈p.tools,vM t
 steps:p.steps.rows.length<=1048576/\p.steps.ok
def gP (p:fG) (u:Steps):Prop:=∀d:Int,0<=d->d<=6->(d<=5\/u.rows.length=0)->u.rows.length<=1048576->af C 119 [.pv (.ag (du p)),.pv (.sl u.rows),.pv (i64 d)] (.p (i64 (gz p u d))) []
theorem mr (p:fG) (hp:oy p) (u:Steps) (hs:u.every (gP p)) (ho:u.ok):gP p u:=by
 intro d RT RU RV hN
 refine ah hC Tryz.func119 rfl rfl 34 rfl (by decide) (by kernel_rfl) fun _ _ _ _ _=>?_
 (repeat refine yY Z ?_)
 refine ak (fun x:Nat×Steps=>u.rows.drop x.1=x.2.rows/\x.2.every (gP p)/\x.2.ok/\gz p x.2 d=gz p u d/\x.1<=u.rows.length) (fun x=>[(2,.p (i64 d)),(3,.bx 3 0),(11,.p (.sl u.rows)),(12,.p (i64 u.rows.length)),(13,.p (i64 x.1))]) (fun _=>[(3,.box ((du p).map .p))]) (fun x=>u.rows.length - x.1) (0,u) _ (aD.refl _ _) ⟨rfl,hs,ho,rfl,Nat.zero_le _⟩ ⟨Z,Z,Z,Z,Z,Y⟩ ⟨Z,Y⟩ fun ⟨i,v⟩ hi tt h=>?_
 obtain⟨q1,q2,q3,q4,q5⟩:=hi
 simp only at q1 q2 q3 q4 q5
 (repeat refine yY Z ?_);refine iF Z (fun h1=>?_) (fun h1=>?_) <;> try simp only[zB] at h1
 all_goals try dsimp only at h1
 ·cases v with
  | nil=>
   exfalso
   have:=congrArg List.length q1
   simp[Steps.rows] at this
   omega
  | cons s sub rest=>
   obtain⟨d1,d2,d3⟩:=fg q1
   obtain⟨r1,r2⟩:=q2
   obtain⟨o1,o2,o3,o4⟩:=q3
   have Fk:∀k:Int,k=(i:Int)->0<=k/\u.rows[k.toNat]?=some (ym s sub.rows):=fun k hk=>by rw[hk];exact⟨by omega,by rw[Int.toNat_natCast];exact d1⟩
   rw[gz] at q4
   (repeat refine yY Z ?_);refine zX zi ⟨(ym s sub.rows),(Fk _ rfl),?_⟩
   (repeat refine yY Z ?_);refine zX zi ⟨_,_,(sv p s sub.rows d hp o1 o2),?_⟩
   (repeat refine yY Z ?_);refine iF Z (fun a1=>?_) (fun a1=>?_)
   ·have a1:fN p s sub.rows.length d≠0:=by simpa using a1
    (repeat refine yY Z ?_);refine aa zi (And.intro ?_ trivial)
    rw[<-q4,cL rfl a1]
   have a1:fN p s sub.rows.length d=0:=by simpa using a1
   rw[fj a1] at q4
   have Q_:=EC a1
   (repeat refine yY Z ?_);refine zA zi (And.intro ⟨by first | omega | (dsimp only;omega),by first | omega | (dsimp only;omega)⟩ ?_)
   (repeat refine yY Z ?_);refine zX zi ⟨_,_,(r1 (d+1) (by omega) (by omega) (by omega) o2),?_⟩
   (repeat refine yY Z ?_);refine iF Z (fun a2=>?_) (fun a2=>?_)
   ·have a2:gz p sub (d+1)≠0:=by simpa using a2
    (repeat refine yY Z ?_);refine aa zi (And.intro ?_ trivial)
    rw[<-q4,cL rfl a2]
   have a2:gz p sub (d+1)=0:=by simpa using a2
   rw[fj a2] at q4
   (repeat refine yY Z ?_);refine zA zi (And.intro ⟨by first | omega | (dsimp only;omega),by first | omega | (dsimp only;omega)⟩ ?_)
   (repeat refine yY Z ?_);refine ae ⟨(i+1,rest),_,aD.refl _ _,?_⟩
   exact⟨⟨d2,r2,o4,q4,by dsimp only;omega⟩,by dsimp only;omega,⟨Z,Z,Z,Z,Z,Y⟩,⟨Z,Y⟩⟩
 have hv:v=.nil:=sw (by rw[<-q1,List.length_drop];omega)
 rw[hv,gz] at q4
 (repeat refine yY Z ?_);refine aa zi (And.intro ?_ trivial)
 rw[<-q4];rfl
theorem pA (p:fG) (hp:oy p) (u:Steps) (ho:u.ok) (hN:u.rows.length<=1048576):af C 119 [.pv (.ag (du p)),.pv (.sl u.rows),.pv (i64 0)] (.p (i64 (gz p u 0))) []:=(Steps.vQ (Q:=gP p) (fun u h1 h2=>mr p hp u h1 h2) u ho).1 0 (by omega) (by omega) (by omega) hN
theorem ku (p:fG) (ho:ni p):af C 46 [.pv (.ag (du p))] (.p (i64 (bS p))) []:=by
 refine ah hC Tryz.func46 rfl rfl 52 rfl (by decide) (by kernel_rfl) fun _ _ _ _ _=>?_
 have lm:=ai p.tools yk
 obtain⟨⟨Ra,OL⟩,yA,GM⟩:=ho
 have MP:=l_ p.steps
 (repeat refine yY Z ?_);refine zX zi ⟨_,_,(cb p.unit 1 1000),?_⟩
 (repeat refine yY Z ?_);refine iF Z (fun g0=>?_) (fun g0=>?_)
 ·(repeat refine yY Z ?_);refine aa zi (And.intro ?_ trivial)
  rw[bS,if_neg (by simp[g0])];rfl
 have g0:dP p.unit 1 1000=true:=by simpa using g0
 have hu:=cO.1 g0
 have hp:oy p:=⟨hu,Ra⟩
 rw[bS,if_pos g0]
 (repeat refine yY Z ?_);refine iF Z (fun g1=>?_) (fun g1=>?_)
 ·(repeat refine yY Z ?_);refine aa zi (And.intro ?_ trivial)
  rw[if_pos (by omega)];rfl
 rw[if_neg (by omega)]
 have PM:∀{c:Int},aH (jZ p.unit p.tools) 0 p.tools.length=c->c≠0->nh (aH (jZ p.unit p.tools) 0 p.tools.length) (if 3000 < cntF p.steps then 2 else gz p p.steps 0)=c:=fun e h0=>cL e h0
 (repeat refine yY Z ?_)
 refine ak (fun i:Nat=>i<=p.tools.length/\∀k,k < i->jZ p.unit p.tools k=0) (fun i=>[(1,.bx 1 0),(15,.p (.sl (p.tools.map yk))),(16,.p (i64 p.tools.length)),(17,.p (i64 i))]) (fun _=>[(1,.box ((du p).map .p))]) (fun i=>p.tools.length - i) 0 _ (aD.refl _ _) ⟨Nat.zero_le _,fun k h=>by omega⟩ ⟨rfl,rfl,congrArg (fun n:Nat=>AV.p (i64 n)) lm,Z,Y⟩ ⟨Z,Y⟩ fun i hi t h=>?_
 (repeat refine yY Z ?_);refine iF Z (fun h1=>?_) (fun h1=>?_)
 ·obtain⟨x,hx⟩:=aj (l:=p.tools) (i:=i) (by omega)
  have cf:jZ p.unit p.tools i=nh (sr p.unit x) (if a7 (p.tools.map dt.name) i=true then 8 else 0):=by simp only[jZ,hx]
  (repeat refine yY Z ?_);refine zX zi ⟨(yk x),(idx rfl hx),?_⟩
  (repeat refine yY Z ?_);refine zX zi ⟨_,_,(ss x p.unit hu (OL x (List.mem_of_getElem? hx))),?_⟩
  (repeat refine yY Z ?_);refine iF Z (fun a2=>?_) (fun a2=>?_)
  ·have a2:sr p.unit x≠0:=by simpa using a2
   rw[cL rfl a2] at cf
   (repeat refine yY Z ?_);refine aa zi (And.intro ?_ trivial)
   rw[PM (au hi.2 (by omega) cf a2) a2]
  have a2:sr p.unit x=0:=by simpa using a2
  rw[fj a2] at cf
  (repeat refine yY Z ?_);refine c_ [] false vf rfl (by kernel_rfl) ?_;(repeat refine yY Z ?_);refine iF Z (fun o1=>?_) (fun o1=>?_)
  ·obtain⟨z,hz⟩:=aj (l:=p.tools) (i:=i - 1) (by omega)
   rw[eW (f:=dt.name) hx hz (by omega)] at cf
   (repeat refine yY Z ?_);refine zA zi (And.intro ⟨by omega,by omega⟩ ?_)
   (repeat refine yY Z ?_);refine zX zi ⟨(yk z),(idx (show (i:Int) - 1=((i - 1:Nat):Int) by omega) hz),?_⟩
   (repeat refine yY Z ?_);refine iF Z (fun o2=>?_) (fun o2=>?_)
   ·(repeat refine yY Z ?_);refine aa zi (And.intro ?_ trivial)
    have o2:(ct (dt.name x) (dt.name z) || decide (dt.name x=dt.name z))=true:=by simpa [ct] using o2
    rw[o2,if_pos rfl] at cf
    rw[PM (au hi.2 (by omega) cf (by decide)) (by decide)];rfl
   have o2:(ct (dt.name x) (dt.name z) || decide (dt.name x=dt.name z))=false:=by simpa [ct] using o2
   rw[o2,if_neg (by decide)] at cf
   (repeat refine yY Z ?_);refine zA zi (And.intro ⟨by omega,by omega⟩ ?_)
   (repeat refine yY Z ?_);refine ae ⟨(i+1),_,aD.refl _ _,?_⟩
   exact⟨⟨by omega,cc hi.2 cf⟩,by omega,⟨Z,Z,Z,Z,Y⟩,⟨Z,Y⟩⟩
  have h0:i=0:=by omega
  rw[iz h0,if_neg (by decide)] at cf
  (repeat refine yY Z ?_);refine zA zi (And.intro ⟨by omega,by omega⟩ ?_)
  (repeat refine yY Z ?_);refine ae ⟨(i+1),_,aD.refl _ _,?_⟩
  exact⟨⟨by omega,cc hi.2 cf⟩,by omega,⟨Z,Z,Z,Z,Y⟩,⟨Z,Y⟩⟩
 skip
 have z0:aH (jZ p.unit p.tools) 0 p.tools.length=0:=aT fun k _ hk=>hi.2 k (by omega)
 rw[fj z0]
 (repeat refine yY Z ?_);refine zX zi ⟨_,_,(xJ p.steps GM yA),?_⟩
 (repeat refine yY Z ?_);refine iF Z (fun g3=>?_) (fun g3=>?_)
 ·(repeat refine yY Z ?_);refine aa zi (And.intro ?_ trivial)
  rw[if_pos g3];rfl
 rw[if_neg g3]
 (repeat refine yY Z ?_);refine zX zi ⟨_,_,(pA p hp p.steps GM yA),?_⟩
 (repeat refine yY Z ?_);refine aa zi (And.intro ?_ trivial)
 rfl
def vR {α:Type} (f:α->ByteArray) (l:List α) (x:ByteArray):Option α:=if 0<=fy f l x then l[(fy f l x).toNat]? else none
theorem jq {α:Type} {f:α->ByteArray} {l:List α} {x:ByteArray} (h:cJ f l x=true):∃(k:Nat) (y:α),fy f l x=k/\l[k]?=some y/\f y=x/\vR f l x=some y:=by
 have h2:0<=fy f l x:=by
  have:=iy (f:=f) (l:=l) (x:=x)
  rw[h] at this
  have:=of_decide_eq_false this
  omega
 obtain⟨k,y,e1,e2,e3⟩:=si h2
 exact⟨k,y,e1,e2,e3,by rw[vR,if_pos h2,e1,Int.toNat_natCast,e2]⟩
theorem ma {α:Type} {f:α->ByteArray} {l:List α} {x:ByteArray} (h:cJ f l x=false):vR f l x=none:=by
 have:=iy (f:=f) (l:=l) (x:=x)
 rw[h] at this
 have:=of_decide_eq_true this
 rw[vR,if_neg (by omega)]
structure Lay where
 name:ByteArray
 mat:ByteArray
def mM (l:Lay):List PV:=[str l.name,str l.mat]
def m0:cu:=⟨aX,0,0,0⟩
def fo (m:List cu) (y:ByteArray):cu:=(vR cu.name m y).getD m0
def bQ (m:List cu) (y:ByteArray):Int:=(fo m y).kind
def pB (l:List cu) (i:Nat):Int:=match l[i]? with
 | some x=>if dw x.name=true then (if dP x.kind 1 3=true then (if dP x.thick 1 2000=true then (if dP x.grow 0 1000=true then (if a7 (l.map cu.name) i=true then 8 else 0) else 1) else 1) else 4) else 5
 | none=>0
def fp (l:List cu):Int:=if 50 < l.length then 2 else aH (pB l) 0 l.length
def pC (l:List cu):Prop:=l.length<=1048576/\∀x∈l,aQ x.name
structure jr (l:List cu):Prop where
 len:l.length<=50
 ord:bM cu.name l
 kind:∀x∈l,1<=x.kind/\x.kind<=3
 thick:∀x∈l,1<=x.thick/\x.thick<=2000
theorem js {l:List cu} (h:fp l=0):jr l:=by
 unfold fp at h
 split at h
 ·cases h
 have key:∀i x,l[i]?=some x->(1<=x.kind/\x.kind<=3)/\(1<=x.thick/\x.thick<=2000)/\a7 (l.map cu.name) i=false:=fun i x hx=>by
  have h2:=cD h i (Nat.zero_le _) (by rw[Nat.zero_add];exact (List.getElem?_eq_some_iff.1 hx).1)
  simp only[pB,hx] at h2
  split at h2
  ·split at h2
   ·rename_i h3
    split at h2
    ·rename_i h5
     split at h2
     ·cases e:a7 (l.map cu.name) i with
      | false=>exact⟨cO.1 h3,cO.1 h5,rfl⟩
      | true=>rw[e] at h2;cases h2
     cases h2
    cases h2
   cases h2
  cases h2
 have mem:∀x∈l,∃k:Nat,l[k]?=some x:=fun x hx=>List.mem_iff_getElem?.1 hx
 exact⟨by omega,gn fun i hi=>(key i _ (List.getElem?_eq_getElem hi)).2.2,fun x hx=>by obtain⟨k,hk⟩:=mem x hx;exact (key k x hk).1,fun x hx=>by obtain⟨k,hk⟩:=mem x hx;exact (key k x hk).2.1⟩
theorem EF {m:List cu} (hm:jr m) (y:ByteArray):(cJ cu.name m y=true/\1<=bQ m y/\bQ m y<=3)\/(cJ cu.name m y=false/\bQ m y=0):=by
 cases h:cJ cu.name m y with
 | true=>
  obtain⟨k,x,_,e2,_,e4⟩:=jq h
  refine .inl ⟨rfl,?_⟩
  rw[bQ,fo,e4]
  exact hm.kind x (List.mem_of_getElem? e2)
 | false=>exact .inr ⟨rfl,by rw[bQ,fo,ma h];rfl⟩
def pD (m:List cu) (s:List Lay) (i:Nat):Int:=if i=0 then 0 else match s[i - 1]? with
 | some l=>bQ m l.mat
 | none=>0
def qE (k b:Int):Prop:=(k=1/\b=1)\/(k=2/\b≠0/\b≠1)\/(b=2/\k≠1)
instance (k b:Int):Decidable (qE k b):=by unfold qE;infer_instance
def oz (s:List Lay) (n:ByteArray):Bool:=s.any fun l=>decide (l.name=n)
def iA (m:List cu) (s:List Lay) (i:Nat):Int:=match s[i]? with
 | some l=>if bQ m l.mat=0 then 9 else if bQ m l.mat=1/\dw l.name=false then 5 else if bQ m l.mat≠1/\¬l.name=aX then 5 else if bQ m l.mat=1/\oz (s.take i) l.name=true then 7 else if qE (bQ m l.mat) (pD m s i) then 8 else 0
 | none=>0
def iT (m:List cu) (s:List Lay) (k:Nat):Bool:=match s[k]? with
 | some l=>decide (bQ m l.mat=1)
 | none=>false
def dL (m:List cu) (s:List Lay) (i:Nat):List Int:=((List.range i).filter (iT m s)).map fun k:Nat=>(k:Int)
def zS (m:List cu) (s:List Lay):Int:=if (dL m s s.length).length < 2 then 3 else if iT m s 0=false then 3 else if iT m s (s.length - 1)=false then 3 else 0
def bg (m:List cu) (s:List Lay):Int:=nh (fp m) (if 60 < s.length then 2 else nh (aH (iA m s) 0 s.length) (zS m s))
def oA (s:List Lay):Prop:=s.length<=1048576/\∀l∈s,aQ l.name/\aQ l.mat
theorem uh {m:List cu} {s:List Lay} {i:Nat}:dL m s (i+1)=dL m s i++(if iT m s i=true then [(i:Int)] else []):=by
 unfold dL
 rw[List.range_succ,List.filter_append,List.map_append]
 congr 1
 cases h:iT m s i <;> simp[h]
theorem sy {m:List cu} {s:List Lay} {i:Nat}:(dL m s i).length<=i:=by
 unfold dL
 rw[List.length_map]
 exact Nat.le_trans (List.length_filter_le _ _) (by simp)
theorem EG {m:List cu} {s:List Lay} (h:¬(dL m s s.length).length < 2):2<=s.length:=by
 have:=sy (m:=m) (s:=s) (i:=s.length)
 omega
theorem qF (l:List cu) (ho:pC l):af C 111 [.pv (.sl (l.map l7))] (.p (i64 (fp l))) []:=by
 refine ah hC Tryz.func111 rfl rfl 51 rfl (by decide) (by kernel_rfl) fun _ _ _ _ _=>?_
 have lm:=ai l l7
 (repeat refine yY Z ?_);refine iF Z (fun g1=>?_) (fun g1=>?_)
 ·(repeat refine yY Z ?_);refine aa zi (And.intro ?_ trivial)
  rw[fp,if_pos (by omega)];rfl
 rw[fp,if_neg (by omega)]
 (repeat refine yY Z ?_)
 refine ak (fun i:Nat=>i<=l.length/\∀k,k < i->pB l k=0) (fun i=>[(0,.p (.sl (l.map l7))),(8,.p (.sl (l.map l7))),(9,.p (i64 l.length)),(10,.p (i64 i))]) (fun _=>[]) (fun i=>l.length - i) 0 _ (aD.refl _ _) ⟨Nat.zero_le _,fun k h=>by omega⟩ ⟨rfl,rfl,congrArg (fun n:Nat=>AV.p (i64 n)) lm,Z,Y⟩ trivial fun i hi t h=>?_
 (repeat refine yY Z ?_);refine iF Z (fun h1=>?_) (fun h1=>?_)
 ·obtain⟨x,hx⟩:=aj (l:=l) (i:=i) (by omega)
  have cf:pB l i=(if dw x.name=true then (if dP x.kind 1 3=true then (if dP x.thick 1 2000=true then (if dP x.grow 0 1000=true then (if a7 (l.map cu.name) i=true then 8 else 0) else 1) else 1) else 4) else 5):=by simp only[pB,hx]
  (repeat refine yY Z ?_);refine zX zi ⟨(l7 x),(idx rfl hx),?_⟩
  have so:=ho.2 x (List.mem_of_getElem? hx)
  (repeat refine yY Z ?_);refine zX zi ⟨_,_,(cB x.name so.le),?_⟩
  (repeat refine yY Z ?_);refine iF Z (fun a1=>?_) (fun a1=>?_)
  ·(repeat refine yY Z ?_);refine aa zi (And.intro ?_ trivial)
   rw[if_neg (by simp[a1])] at cf
   rw[au hi.2 (by omega) cf (by decide)];rfl
  rw[if_pos (by simpa using a1)] at cf
  (repeat refine yY Z ?_);refine zX zi ⟨_,_,(jU x.kind 1 3),?_⟩
  (repeat refine yY Z ?_);refine iF Z (fun a2=>?_) (fun a2=>?_)
  ·(repeat refine yY Z ?_);refine aa zi (And.intro ?_ trivial)
   rw[if_neg (by simp[a2])] at cf
   rw[au hi.2 (by omega) cf (by decide)];rfl
  rw[if_pos (by simpa using a2)] at cf
  (repeat refine yY Z ?_);refine zX zi ⟨_,_,(jU x.thick 1 2000),?_⟩
  (repeat refine yY Z ?_);refine iF Z (fun a3=>?_) (fun a3=>?_)
  ·(repeat refine yY Z ?_);refine aa zi (And.intro ?_ trivial)
   rw[if_neg (by simp[a3])] at cf
   rw[au hi.2 (by omega) cf (by decide)];rfl
  rw[if_pos (by simpa using a3)] at cf
  (repeat refine yY Z ?_);refine zX zi ⟨_,_,(jU x.grow 0 1000),?_⟩
  (repeat refine yY Z ?_);refine iF Z (fun a4=>?_) (fun a4=>?_)
  ·(repeat refine yY Z ?_);refine aa zi (And.intro ?_ trivial)
   rw[if_neg (by simp[a4])] at cf
   rw[au hi.2 (by omega) cf (by decide)];rfl
  rw[if_pos (by simpa using a4)] at cf
  (repeat refine yY Z ?_);refine c_ [] false vf rfl (by kernel_rfl) ?_;(repeat refine yY Z ?_);refine iF Z (fun o1=>?_) (fun o1=>?_)
  ·obtain⟨z,hz⟩:=aj (l:=l) (i:=i - 1) (by omega)
   rw[eW (f:=cu.name) hx hz (by omega)] at cf
   (repeat refine yY Z ?_);refine zA zi (And.intro ⟨by omega,by omega⟩ ?_)
   (repeat refine yY Z ?_);refine zX zi ⟨(l7 z),(idx (show (i:Int) - 1=((i - 1:Nat):Int) by omega) hz),?_⟩
   (repeat refine yY Z ?_);refine iF Z (fun o2=>?_) (fun o2=>?_)
   ·(repeat refine yY Z ?_);refine aa zi (And.intro ?_ trivial)
    have o2:(ct (cu.name x) (cu.name z) || decide (cu.name x=cu.name z))=true:=by simpa [ct] using o2
    rw[o2,if_pos rfl] at cf
    rw[au hi.2 (by omega) cf (by decide)];rfl
   have o2:(ct (cu.name x) (cu.name z) || decide (cu.name x=cu.name z))=false:=by simpa [ct] using o2
   rw[o2,if_neg (by decide)] at cf
   (repeat refine yY Z ?_);refine zA zi (And.intro ⟨by omega,by omega⟩ ?_)
   (repeat refine yY Z ?_);refine ae ⟨(i+1),_,aD.refl _ _,?_⟩
   exact⟨⟨by omega,cc hi.2 cf⟩,by omega,⟨Z,Z,Z,Z,Y⟩,trivial⟩
  have h0:i=0:=by omega
  rw[iz h0,if_neg (by decide)] at cf
  (repeat refine yY Z ?_);refine zA zi (And.intro ⟨by omega,by omega⟩ ?_)
  (repeat refine yY Z ?_);refine ae ⟨(i+1),_,aD.refl _ _,?_⟩
  exact⟨⟨by omega,cc hi.2 cf⟩,by omega,⟨Z,Z,Z,Z,Y⟩,trivial⟩
 (repeat refine yY Z ?_);refine aa zi (And.intro ?_ trivial)
 have z0:aH (pB l) 0 l.length=0:=aT fun k _ hk=>hi.2 k (by omega)
 rw[z0];rfl
theorem jt (m:List cu) (y:ByteArray) (hs:bM cu.name m) (hN:m.length<=1000000):af C 112 [.pv (.sl (m.map l7)),.pv (str y)] (.tu [.ag (l7 (fo m y)),bool (cJ cu.name m y)]) []:=by
 refine ah hC Tryz.func112 rfl rfl 21 rfl (by decide) (by kernel_rfl) fun _ _ _ _ _=>?_
 have hp:=gk (x:=y) hs
 (repeat refine yY Z ?_);refine zX zi ⟨_,_,(zK m y hs (by omega)),?_⟩
 (repeat refine yY Z ?_);refine iF Z (fun h1=>?_) (fun h1=>?_)
 ·(repeat refine yY Z ?_);refine aa zi (And.intro ?_ trivial)
  have h1:cJ cu.name m y=false:=by simpa using h1
  rw[fo,ma h1,h1]
  rfl
 have h1:cJ cu.name m y=true:=by simpa using h1
 rw[if_pos h1] at hp
 obtain⟨k,x,e1,e2,e3,e4⟩:=jq h1
 (repeat refine yY Z ?_);refine zX zi ⟨(l7 x),(idx (hp.symm.trans e1) e2),?_⟩
 (repeat refine yY Z ?_);refine aa zi (And.intro ?_ trivial)
 rw[fo,e4,h1]
 rfl
theorem gQ (m:List cu) (l:Lay) (hs:bM cu.name m) (hN:m.length<=1000000):af C 115 [.pv (.sl (m.map l7)),.pv (.ag (mM l))] (.p (i64 (bQ m l.mat))) []:=by
 refine ah hC Tryz.func115 rfl rfl 16 rfl (by decide) (by kernel_rfl) fun _ _ _ _ _=>?_
 (repeat refine yY Z ?_);refine zX zi ⟨_,_,(jt m l.mat hs hN),?_⟩
 (repeat refine yY Z ?_);refine aa zi (And.intro ?_ trivial)
 rfl
theorem jc (m:List cu) (s:List Lay) (hs:bM cu.name m) (hN:m.length<=1000000) (hS:s.length<=1048576):af C 114 [.pv (.sl (m.map l7)),.pv (.sl (s.map mM))] (.own 3 ((dL m s s.length).map fun n=>[i64 n])) []:=by
 refine ah hC Tryz.func114 rfl rfl 25 rfl (by decide) (by kernel_rfl) fun _ _ _ _ _=>?_
 have lm:=ai s mM
 (repeat refine yY Z ?_)
 refine ak (fun i:Nat=>i<=s.length) (fun i=>[(0,.p (.sl (m.map l7))),(5,.ow 5),(8,.p (.sl (s.map mM))),(9,.p (i64 s.length)),(10,.p (i64 i))]) (fun i=>[(5,.row 3 ((dL m s i).map fun n=>[i64 n]))]) (fun i=>s.length - i) 0 _ (aD.eG hC _ 5 3 _ (by decide) rfl rfl (by decide)) (Nat.zero_le _) ⟨rfl,rfl,rfl,congrArg (fun n:Nat=>AV.p (i64 n)) lm,Z,Y⟩ ⟨Z,Y⟩ fun i hi t h=>?_
 (repeat refine yY Z ?_);refine iF Z (fun h1=>?_) (fun h1=>?_)
 ·obtain⟨x,hx⟩:=aj (l:=s) (i:=i) (by omega)
  have hc:iT m s i=decide (bQ m x.mat=1):=by rw[iT,hx]
  have qU:=uh (m:=m) (s:=s) (i:=i)
  have hle:=sy (m:=m) (s:=s) (i:=i)
  have Lu:((dL m s i).map fun n=>[i64 n]).length=(dL m s i).length:=List.length_map ..
  (repeat refine yY Z ?_);refine zX zi ⟨(mM x),(idx rfl hx),?_⟩
  (repeat refine yY Z ?_);refine zX zi ⟨_,_,(gQ m x hs hN),?_⟩
  (repeat refine yY Z ?_);refine iF Z (fun h2=>?_) (fun h2=>?_)
  ·rw[hc,if_pos (decide_eq_true h2)] at qU
   (repeat refine yY Z ?_);refine zA zi (And.intro ⟨by simp,by rw[Lu];simp;omega,by rw[Lu];simp;omega⟩ ?_)
   (repeat refine yY Z ?_);refine zA zi (And.intro ⟨by omega,by omega⟩ ?_)
   (repeat refine yY Z ?_);refine ae ⟨(i+1),_,aD.refl _ _,?_⟩
   exact⟨by omega,by omega,⟨Z,Z,Z,Z,Z,Y⟩,⟨by rw[qU,List.map_append];rfl,trivial⟩⟩
  rw[hc,if_neg (by rw[decide_eq_false h2];decide),List.append_nil] at qU
  (repeat refine yY Z ?_);refine zA zi (And.intro ⟨by omega,by omega⟩ ?_)
  (repeat refine yY Z ?_);refine ae ⟨(i+1),_,aD.refl _ _,?_⟩
  exact⟨by omega,by omega,⟨Z,Z,Z,Z,Z,Y⟩,⟨by rw[qU];rfl,trivial⟩⟩
 have e:i=s.length:=by omega
 (repeat refine yY Z ?_);refine aa zi ?_
 rw[e]
 exact⟨Z,Z,Y⟩
theorem zT {s:List Lay} {i:Nat} {l:Lay} (h:s[i]?=some l) (n:ByteArray):oz (s.take (i+1)) n=(oz (s.take i) n || decide (l.name=n)):=by
 rw[aN h,oz,List.any_append]
 simp[oz]
theorem uj {m:List cu} {s:List Lay} {i:Nat} {l:Lay} (h:s[i]?=some l):pD m s (i+1)=bQ m l.mat:=by
 unfold pD
 rw[if_neg (by omega),Nat.add_sub_cancel,h]
theorem uk {m:List cu} {s:List Lay} {k:Nat} {l:Lay} (h:s[k]?=some l):iT m s k=decide (bQ m l.mat=1):=by rw[iT,h]
theorem ju (m:List cu) (s:List Lay) (hm:pC m) (hs:oA s):af C 44 [.pv (.sl (m.map l7)),.pv (.sl (s.map mM))] (.p (i64 (bg m s))) []:=by
 refine ah hC Tryz.func44 rfl rfl 121 rfl (by decide) (by kernel_rfl) fun _ _ _ _ _=>?_
 have lm:=ai s mM
 (repeat refine yY Z ?_);refine zX zi ⟨_,_,(qF m hm),?_⟩
 (repeat refine yY Z ?_);refine iF Z (fun g1=>?_) (fun g1=>?_)
 ·have g1:fp m≠0:=by simpa using g1
  (repeat refine yY Z ?_);refine aa zi (And.intro ?_ trivial)
  rw[bg,cL rfl g1]
 have g1:fp m=0:=by simpa using g1
 have gm:=js g1
 have gl:=gm.len
 rw[bg,fj g1]
 (repeat refine yY Z ?_);refine iF Z (fun g2=>?_) (fun g2=>?_)
 ·(repeat refine yY Z ?_);refine aa zi (And.intro ?_ trivial)
  rw[if_pos (by omega)];rfl
 rw[if_neg (by omega)]
 have I2:=jc m s gm.ord (by omega) hs.1
 have hcl:=ai (dL m s s.length) fun n=>[i64 n]
 (repeat refine yY Z ?_)
 refine ak (fun p:Nat×List (Value×PV)=>p.1<=s.length/\(∀k,k < p.1->iA m s k=0)/\∀n,fO p.2 (.string n)=if oz (s.take p.1) n=true then some (bool true) else none) (fun p=>[(0,.p (.sl (m.map l7))),(1,.p (.sl (s.map mM))),(6,.ow 22),(7,.p (i64 (pD m s p.1))),(23,.p (.sl (s.map mM))),(24,.p (i64 s.length)),(25,.p (i64 p.1))]) (fun p=>[(22,.map .str p.2)]) (fun p=>s.length - p.1) (0,[]) _ (aD.refl _ _) ⟨Nat.zero_le _,fun k h=>by simp only at h;omega,fun n=>rfl⟩ ⟨rfl,rfl,rfl,rfl,rfl,congrArg (fun n:Nat=>AV.p (i64 n)) lm,Z,Y⟩ ⟨Z,Y⟩ fun ⟨i,es⟩ hi tt h=>?_
 obtain⟨q1,q2,q3⟩:=hi
 simp only at q1 q2 q3
 (repeat refine yY Z ?_);refine iF Z (fun h1=>?_) (fun h1=>?_) <;> try simp only[zB] at h1
 ·obtain⟨l,hx⟩:=aj (l:=s) (i:=i) (by omega)
  have cf:iA m s i=(if bQ m l.mat=0 then 9 else if bQ m l.mat=1/\dw l.name=false then 5 else if bQ m l.mat≠1/\¬l.name=aX then 5 else if bQ m l.mat=1/\oz (s.take i) l.name=true then 7 else if qE (bQ m l.mat) (pD m s i) then 8 else 0):=by simp only[iA,hx]
  have bad:∀{c:Int},iA m s i=c->c≠0->aH (iA m s) 0 s.length=c:=fun e h0=>au q2 (by omega) e h0
  obtain⟨so,My⟩:=hs.2 l (List.mem_of_getElem? hx)
  have q:=q3 l.name
  have hb:=uj (m:=m) hx
  (repeat refine yY Z ?_);refine zX zi ⟨(mM l),(idx rfl hx),?_⟩
  (repeat refine yY Z ?_);refine zX zi ⟨_,_,(jt m l.mat gm.ord (by omega)),?_⟩
  rcases EF gm l.mat with⟨k1,k2,k3⟩ | ⟨k1,k2⟩
  rotate_left
  ·(repeat refine yY Z ?_);refine iF Z (fun a1=>?_) (fun a1=>?_)
   ·(repeat refine yY Z ?_);refine aa zi (And.intro ?_ trivial)
    rw[if_pos k2] at cf
    rw[cL (bad cf (by decide)) (by decide)];rfl
   exfalso;rw[k1] at a1;simp at a1
  have yx:bQ m l.mat=(fo m l.mat).kind:=rfl
  generalize bQ m l.mat=K at *
  rw[if_neg (by omega)] at cf
  (repeat refine yY Z ?_);refine iF Z (fun a1=>?_) (fun a1=>?_)
  ·exfalso;rw[k1] at a1;simp at a1
  have keys:∀n,fO (gu es (.string l.name) (bool true)) (.string n)=if oz (s.take (i+1)) n=true then some (bool true) else none:=fun n=>by
   rw[pw,zT hx]
   by_cases e:n=l.name
   ·rw[if_pos e,e];simp
   rw[if_neg e,q3 n,decide_eq_false (fun e2=>e e2.symm),Bool.or_false]
  have fin:¬qE K (pD m s i)->iA m s i=(if qE K (pD m s i) then 8 else 0)->∀k,k < i+1->iA m s k=0:=fun h0 e=>cc q2 (by rw[e,if_neg h0])
  (repeat refine yY Z ?_);refine iF Z (fun a2=>?_) (fun a2=>?_)
  ·have a2:K=1:=by rw[yx];exact a2
   (repeat refine yY Z ?_);refine zX zi ⟨_,_,(cB l.name so.le),?_⟩
   (repeat refine yY Z ?_);refine iF Z (fun a3=>?_) (fun a3=>?_)
   ·(repeat refine yY Z ?_);refine aa zi (And.intro ?_ trivial)
    rw[if_pos ⟨a2,by simpa using a3⟩] at cf
    rw[cL (bad cf (by decide)) (by decide)];rfl
   rw[if_neg (fun e=>by simp[e.2] at a3),if_neg (fun e=>e.1 a2)] at cf
   (repeat refine yY Z ?_);refine iF Z (fun a4=>?_) (fun a4=>?_)
   ·exfalso;omega
   (repeat refine yY Z ?_);refine iF Z (fun a5=>?_) (fun a5=>?_)
   rotate_left
   ·exfalso;omega
   cases hS:oz (s.take i) l.name with
   | true=>
    rw[hS] at q cf
    (repeat refine yY Z ?_);refine zX zi ⟨(some (bool true)),q,?_⟩
    (repeat refine yY Z ?_);refine aa zi (And.intro ?_ trivial)
    rw[if_pos ⟨a2,rfl⟩] at cf
    rw[cL (bad cf (by decide)) (by decide)];rfl
   | false=>
    rw[hS] at q cf
    rw[if_neg (fun e=>by cases e.2)] at cf
    (repeat refine yY Z ?_);refine zX zi ⟨none,q,?_⟩
    repeat' ((repeat refine yY Z ?_);refine iF Z (fun d=>?_) (fun d=>?_) <;> try simp only[zB] at d)
    all_goals (first | ((repeat refine yY Z ?_);refine zA zi ?_) | ((repeat refine yY Z ?_);refine aa zi ?_))
    all_goals first
     | (exfalso;omega)
     | (
       refine And.intro ⟨by dsimp only;omega,by dsimp only;omega⟩ ?_
       (repeat refine yY Z ?_);refine ae ⟨(i+1,gu es (.string l.name) (bool true)),_,aD.refl _ _,?_⟩
       exact⟨⟨by dsimp only;omega,fin (by unfold qE;omega) cf,keys⟩,by dsimp only;omega,⟨rfl,rfl,rfl,aS (by rw[<-yx];exact hb.symm),Z,Z,Z,Y⟩,⟨Z,Y⟩⟩)
     | (
       refine And.intro ?_ trivial
       rw[if_pos (by unfold qE;omega)] at cf
       rw[cL (bad cf (by decide)) (by decide)];rfl)
  have a2:¬K=1:=by rw[yx];exact a2
  rw[if_neg (fun e=>a2 e.1)] at cf
  (repeat refine yY Z ?_);refine iF Z (fun a4=>?_) (fun a4=>?_)
  rotate_left
  ·exfalso;omega
  (repeat refine yY Z ?_);refine iF Z (fun a3=>?_) (fun a3=>?_)
  ·have a3:¬l.name=aX:=a3
   (repeat refine yY Z ?_);refine aa zi (And.intro ?_ trivial)
   rw[if_pos ⟨a2,a3⟩] at cf
   rw[cL (bad cf (by decide)) (by decide)];rfl
  have a3:l.name=aX:=by simpa [aX] using a3
  rw[if_neg (fun e=>e.2 a3),if_neg (fun e=>a2 e.1)] at cf
  repeat' ((repeat refine yY Z ?_);refine iF Z (fun d=>?_) (fun d=>?_) <;> try simp only[zB] at d)
  all_goals (first | ((repeat refine yY Z ?_);refine zA zi ?_) | ((repeat refine yY Z ?_);refine aa zi ?_) | ((repeat refine yY Z ?_);refine zX zi ?_))
  all_goals first
   | (exfalso;omega)
   | (
     refine And.intro ⟨by dsimp only;omega,by dsimp only;omega⟩ ?_
     (repeat refine yY Z ?_);refine ae ⟨(i+1,gu es (.string l.name) (bool true)),_,aD.refl _ _,?_⟩
     exact⟨⟨by dsimp only;omega,fin (by unfold qE;omega) cf,keys⟩,by dsimp only;omega,⟨rfl,rfl,rfl,aS (by rw[<-yx];exact hb.symm),Z,Z,Z,Y⟩,⟨Z,Y⟩⟩)
   | (
     refine And.intro ?_ trivial
     rw[if_pos (by unfold qE;omega)] at cf
     rw[cL (bad cf (by decide)) (by decide)];rfl)
 have z0:aH (iA m s) 0 s.length=0:=aT fun k _ hk=>q2 k (by omega)
 rw[fj z0]
 (repeat refine yY Z ?_);refine zX zi ⟨_,_,I2,?_⟩
 (repeat refine yY Z ?_);refine iF Z (fun e1=>?_) (fun e1=>?_)
 ·(repeat refine yY Z ?_);refine aa zi (And.intro ?_ trivial)
  rw[zS,if_pos (by omega)];rfl
 have e2:=EG (m:=m) (s:=s) (by omega)
 rw[zS,if_neg (by omega)]
 obtain⟨l,hl⟩:=aj (l:=s) (i:=0) (by omega)
 obtain⟨l2,yj⟩:=aj (l:=s) (i:=s.length - 1) (by omega)
 rw[uk hl,uk yj]
 (repeat refine yY Z ?_);refine zX zi ⟨(mM l),(idx (k:=0) rfl hl),?_⟩
 (repeat refine yY Z ?_);refine zX zi ⟨_,_,(gQ m l gm.ord (by omega)),?_⟩
 (repeat refine yY Z ?_);refine iF Z (fun e3=>?_) (fun e3=>?_)
 ·have e3:¬bQ m l.mat=1:=e3
  (repeat refine yY Z ?_);refine aa zi (And.intro ?_ trivial)
  rw[decide_eq_false e3];rfl
 have e3:bQ m l.mat=1:=by simpa using e3
 rw[decide_eq_true e3,if_neg (by decide)]
 (repeat refine yY Z ?_);refine zA zi (And.intro ⟨by omega,by omega⟩ ?_)
 (repeat refine yY Z ?_);refine zX zi ⟨(mM l2),(idx (show ((((s.map mM).length:Nat):Int) - 1)=((s.length - 1:Nat):Int) by omega) yj),?_⟩
 (repeat refine yY Z ?_);refine zX zi ⟨_,_,(gQ m l2 gm.ord (by omega)),?_⟩
 (repeat refine yY Z ?_);refine iF Z (fun e4=>?_) (fun e4=>?_)
 ·have e4:¬bQ m l2.mat=1:=e4
  (repeat refine yY Z ?_);refine aa zi (And.intro ?_ trivial)
  rw[decide_eq_false e4];rfl
 have e4:bQ m l2.mat=1:=by simpa using e4
 rw[decide_eq_true e4,if_neg (by decide)]
 (repeat refine yY Z ?_);refine aa zi (And.intro ?_ trivial)
 rfl
end M
end Go.Proofs.YtiaifckpmefinaaGreatDoor
