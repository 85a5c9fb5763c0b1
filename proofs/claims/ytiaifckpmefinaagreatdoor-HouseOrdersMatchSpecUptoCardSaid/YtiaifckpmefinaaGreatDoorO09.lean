/- Part 9 of 14 of the proof of HouseOrdersMatchSpec (the names are shortened by a program: the size of a claim is limited). -/
import Derived.Test.YtiaifckpmefinaaGreatDoorO08
set_option linter.unusedVariables false
set_option linter.unusedSimpArgs false
set_option maxRecDepth 100000
set_option maxHeartbeats 8000000
namespace Go.Proofs.YtiaifckpmefinaaGreatDoor
namespace M
open Go.AM Go.RowKit Go.Lib
open bq (bw cv ff)
structure da where
 name:ByteArray
 cd:List bw
structure fL where
 kind:Int
 name:ByteArray
 x:Int
 y:Int
 pts:List (Int×Int)
 nx:Int
 ny:Int
inductive Steps where
 | nil
 | cons (s:fL) (sub:Steps) (rest:Steps)
def ug (t:da):List PV:=[str t.name,cd t.cd]
def kM (s:fL) (sub:List (List PV)):List PV:=[i64 s.kind,str s.name,i64 s.x,i64 s.y,.sl (s.pts.map sp),i64 s.nx,i64 s.ny,.sl sub]
def Steps.rows:Steps->List (List PV)
 | .nil=>[]
 | .cons s sub rest=>kM s sub.rows::rest.rows
structure fM where
 unit:Int
 tools:List da
 steps:Steps
def cS (p:fM):List PV:=[i64 p.unit,.sl (p.tools.map ug),.sl p.steps.rows]
def fN (n u:Int):Bool:=decide (-1000000<=n*u) && decide (n*u<=1000000)
theorem Ag {n u:Int} (h1:1<=u):er n (Int.tdiv (-1000000) u) (Int.tdiv 1000000 u)=fN n u:=by
 have e1:Int.tdiv 1000000 u=1000000 / u:=Int.tdiv_eq_ediv_of_nonneg (by decide)
 have e2:Int.tdiv (-1000000) u=-(1000000 / u):=by rw[Int.neg_tdiv,e1]
 have a1:n<=1000000 / u↔n*u<=1000000:=Int.le_ediv_iff_mul_le (by omega)
 have a2:-n<=1000000 / u↔-n*u<=1000000:=Int.le_ediv_iff_mul_le (by omega)
 rw[Int.neg_mul] at a2
 have a3:-(1000000 / u)<=n↔-1000000<=n*u:=by omega
 unfold er fN
 rw[e1,e2]
 congr 1
 ·exact decide_eq_decide.2 a3
 exact decide_eq_decide.2 a1
theorem Ik {n u:Int} (hn:-1000000<=n/\n<=1000000) (hu:1<=u/\u<=1000):-1000000000<=n*u/\n*u<=1000000000:=by
 have h1:n*u<=1000000*u:=Int.mul_le_mul_of_nonneg_right hn.2 (by omega)
 have h2:-1000000*u<=n*u:=Int.mul_le_mul_of_nonneg_right hn.1 (by omega)
 omega
theorem F5 {n u:Int} (hu:1<=u) (h:fN n u=true):-1000000<=n/\n<=1000000:=by
 simp only[fN,Bool.and_eq_true,decide_eq_true_eq] at h
 rcases Int.le_total 0 n with h0 | h0
 ·have:n*1<=n*u:=Int.mul_le_mul_of_nonneg_left hu h0
  omega
 have:n*u<=n*1:=Int.mul_le_mul_of_nonpos_left h0 hu
 omega
theorem jd (n u:Int) (hu:1<=u/\u<=1000):aw C 188 [.pv (i64 n),.pv (i64 u)] (.p (bool (fN n u))) []:=by
 refine aE hC Tryz.func188 rfl rfl 11 rfl (by decide) (by kernel_rfl) fun _ _ _ _ _=>?_
 have e:=Ag (n:=n) hu.1
 have e1:Int.tdiv 1000000 u=1000000 / u:=Int.tdiv_eq_ediv_of_nonneg (by decide)
 have e2:Int.tdiv (-1000000) u=-(1000000 / u):=by rw[Int.neg_tdiv,e1]
 have b1:1000000 / u<=1000000:=Int.ediv_le_self _ (by decide)
 have b2:0<=1000000 / u:=Int.ediv_nonneg (by decide) (by omega)
 ((refine yS<|yA Z<|yT<|an<|cF [] false I_ rfl (by kernel_rfl)<|aK Z<|aK Z<|aK Z<|aK Z<|aK Z<|eG Z Z<|cE Z<|yD Z<|yD Z ?_;refine dq Z<|bb zI ?_);refine And.intro (fun h=>by have h:u=0:=h;omega) ?_)
 (refine zA zi ?_;refine And.intro ⟨by rw[e2];omega,by rw[e2];omega⟩ ?_)
 (refine bM<|ae<|yD Z<|dq Z<|bb zI ?_;refine And.intro (fun h=>by have h:u=0:=h;omega) ?_)
 (refine zA zi ?_;refine And.intro ⟨by rw[e1];omega,by rw[e1];omega⟩ ?_)
 (refine bM<|ae<|dq Z<|aL zI ?_;refine⟨_,_,(dI n (Int.tdiv (-1000000) u) (Int.tdiv 1000000 u)),?_⟩)
 ((refine bM<|ae<|yD Z<|bR<|ao Z<|ao Z<|ao Z<|ao Z<|ao Z<|ao Z<|dH Z Z<|bS Z<|ah<|aA ?_;refine aB zi ?_);refine And.intro ?_ trivial)
 rw[e]
theorem kC (n u:Int) (hu:1<=u/\u<=1000):aw C 140 [.pv (i64 n),.pv (i64 u)] (.p (bool (fN n u))) []:=by
 refine aE hC Tryz.func140 rfl rfl 13 rfl (by decide) (by kernel_rfl) fun _ _ _ _ _=>?_
 (refine yS<|yA Z<|yU<|yP Z<|yn Z<|aL zI ?_;refine⟨_,_,(pX n),?_⟩)
 (refine br Z Z<|ae<|yP Z<|yg Z ?_;refine aa (fun h1=>?_) (fun h1=>?_) <;> try simp only[zB] at h1)
 ·have h1:-1000000<=n/\n<=1000000:=by simpa [bq.ju] using h1
  have hm:=Ik h1 hu
  (refine aV<|aN Z Z<|az zI<|yk<|y1 Z<|y2 Z<|aN Z Z<|bb zI ?_;refine sI ?_)
  (refine yk<|y2 Z<|cx Z Z Z<|aL zI ?_;refine⟨_,_,(pX (n*u)),?_⟩)
  (refine br Z Z<|ae<|yP Z<|yA Z<|yR zi ?_;refine And.intro ?_ trivial)
  rfl
 (refine aT<|ae<|y0 Z<|y0 Z<|y0 Z<|yP Z<|yA Z<|yR zi ?_;refine And.intro ?_ trivial)
 have h2:fN n u=false:=by
  rw[Bool.eq_false_iff]
  intro h
  have h3:bq.ju n=true:=by simpa [bq.ju] using F5 hu.1 h
  rw[h1] at h3
  cases h3
 rw[h2];rfl
def gI (p:Int×Int) (u:Int):Bool:=fN p.1 u && fN p.2 u
theorem fX (p:Int×Int) (u:Int) (hu:1<=u/\u<=1000):aw C 255 [.pv (.ag (sp p)),.pv (i64 u)] (.p (bool (gI p u))) []:=by
 refine aE hC Tryz.func255 rfl rfl 15 rfl (by decide) (by kernel_rfl) fun _ _ _ _ _=>?_
 (refine yS<|yn Z<|az zI<|aR<|ai<|yA Z<|yU<|yV Z<|yP Z<|yP Z<|yn Z<|aL zI ?_;refine⟨_,_,(jd p.1 u hu),?_⟩)
 (refine br Z Z<|ae<|yP Z<|yg Z ?_;refine aa (fun h=>?_) (fun h=>?_) <;> try simp only[zB] at h)
 ·(refine aV<|aN Z Z<|az zI<|aX<|ai<|y1 Z<|y1 Z<|y2 Z<|cx Z Z Z<|aL zI ?_;refine⟨_,_,(jd p.2 u hu),?_⟩)
  (refine br Z Z<|ae<|yP Z<|yA Z<|yR zi ?_;refine And.intro ?_ trivial)
  rw[gI,h];rfl
 (refine aT<|ae<|y0 Z<|y0 Z<|y0 Z<|yP Z<|yA Z<|yR zi ?_;refine And.intro ?_ trivial)
 rw[gI,show fN p.1 u=false by simpa using h];rfl
theorem jC (p:Int×Int) (u:Int) (hu:1<=u/\u<=1000):aw C 210 [.pv (.ag (sp p)),.pv (i64 u)] (.p (bool (gI p u))) []:=by
 refine aE hC Tryz.func210 rfl rfl 15 rfl (by decide) (by kernel_rfl) fun _ _ _ _ _=>?_
 (refine yS<|yn Z<|az zI<|aR<|ai<|yA Z<|yU<|yV Z<|yP Z<|yP Z<|yn Z<|aL zI ?_;refine⟨_,_,(kC p.1 u hu),?_⟩)
 (refine br Z Z<|ae<|yP Z<|yg Z ?_;refine aa (fun h=>?_) (fun h=>?_) <;> try simp only[zB] at h)
 ·(refine aV<|aN Z Z<|az zI<|aX<|ai<|y1 Z<|y1 Z<|y2 Z<|cx Z Z Z<|aL zI ?_;refine⟨_,_,(kC p.2 u hu),?_⟩)
  (refine br Z Z<|ae<|yP Z<|yA Z<|yR zi ?_;refine And.intro ?_ trivial)
  rw[gI,h];rfl
 (refine aT<|ae<|y0 Z<|y0 Z<|y0 Z<|yP Z<|yA Z<|yR zi ?_;refine And.intro ?_ trivial)
 rw[gI,show fN p.1 u=false by simpa using h];rfl
def i_ (u:Int) (l:List bw) (i:Nat):Int:=match l[i]? with
 | some r=>if fN r.x0 u=true then (if fN r.y0 u=true then (if fN r.x1 u=true then (if fN r.y1 u=true then (if r.x1<=r.x0 then 13 else if r.y1<=r.y0 then 13 else 0) else 1) else 1) else 1) else 1
 | none=>0
def jD (u:Int) (l:List bw):Int:=if l.length=0 then 9 else if 2000 < l.length then 2 else a8 (i_ u l) 0 l.length
def mI (u:Int) (t:da):Int:=if ph t.name=true then jD u t.cd else 5
def wA (t:da):Prop:=bO t.name/\t.cd.length<=1048576
theorem s5 (y:da) (u:Int) (hu:1<=u/\u<=1000) (ho:wA y):aw C 117 [.pv (.ag (ug y)),.pv (i64 u)] (.p (i64 (mI u y))) []:=by
 refine aE hC Tryz.func117 rfl rfl 65 rfl (by decide) (by kernel_rfl) fun _ _ _ _ _=>?_
 have lm:=aJ y.cd rc
 (refine yS<|yn Z<|az zI<|aR<|ai<|yA Z<|yT<|an<|yS<|yV Z<|yP Z<|yn Z<|aL zI ?_;refine⟨_,_,(xX y.name ho.1.le),?_⟩)
 (refine br Z Z<|ae<|yP Z<|yT<|ak Z ?_;refine aa (fun g0=>?_) (fun g0=>?_) <;> try simp only[zB] at g0)
 ·(refine yS<|yA Z<|yT<|aA<|af<|aB zi ?_;refine And.intro ?_ trivial)
  rw[mI,if_neg (by simp[g0])];rfl
 rw[mI,if_pos (by simpa using g0)]
 (refine ar<|ah<|an<|yS<|yV Z<|yP Z<|yP Z<|yP Z<|yT<|ak Z ?_;refine aa (fun g1=>?_) (fun g1=>?_) <;> try simp only[zB] at g1)
 ·(refine yS<|yA Z<|yT<|aA<|af<|aB zi ?_;refine And.intro ?_ trivial)
  rw[jD,if_pos (by have:(((y.cd.map rc).length:Nat):Int)=0:=g1;omega)];rfl
 have g1:¬y.cd.length=0:=fun e=>g1 (by show (((y.cd.map rc).length:Nat):Int)=0;omega)
 (refine ar<|ah<|an<|yS<|yV Z<|yP Z<|yP Z<|yP Z<|yT<|ak Z ?_;refine aa (fun g2=>?_) (fun g2=>?_) <;> try simp only[zB] at g2)
 ·(refine yS<|yA Z<|yT<|aA<|af<|aB zi ?_;refine And.intro ?_ trivial)
  rw[jD,if_neg g1,if_pos (by omega)];rfl
 rw[jD,if_neg g1,if_neg (by omega)]
 refine ar<|ah<|an<|yS<|yV Z<|yP Z<|yP Z<|yP Z<|yT<|aO ?_
 refine aC (fun i:Nat=>i<=y.cd.length/\∀k,k < i->i_ u y.cd k=0) (fun i=>[(1,.p (i64 u)),(20,.p (.sl (y.cd.map rc))),(21,.p (i64 y.cd.length)),(22,.p (i64 i))]) (fun _=>[]) (fun i=>y.cd.length - i) 0 _ (bg.refl _ _) ⟨Nat.zero_le _,fun k h=>by omega⟩ ⟨rfl,rfl,congrArg (fun n:Nat=>AV.p (i64 n)) lm,Z,Y⟩ trivial fun i hi t h=>?_
 (refine yS<|yP Z<|yT<|an<|ak Z ?_;refine aa (fun h1=>?_) (fun h1=>?_) <;> try simp only[zB] at h1)
 ·obtain⟨x,hx⟩:=aH (l:=y.cd) (i:=i) (by omega)
  have cf:i_ u y.cd i=(if fN x.x0 u=true then (if fN x.y0 u=true then (if fN x.x1 u=true then (if fN x.y1 u=true then (if x.x1<=x.x0 then 13 else if x.y1<=x.y0 then 13 else 0) else 1) else 1) else 1) else 1):=by simp only[i_,hx]
  (refine ar<|ah<|an<|aO<|yS<|yq Z<|aL zI ?_;refine⟨(rc x),(idx rfl hx),?_⟩)
  ((refine yk<|yP Z<|yn Z<|az zI<|aR<|ai<|yq Z<|az zI<|aX<|aM<|aU<|yT<|an<|yS ?_;refine yV Z<|yP Z<|yP Z<|yn Z<|aL zI ?_);refine⟨_,_,(jd x.x0 u hu),?_⟩)
  (refine br Z Z<|ae<|yP Z<|yP Z<|yg Z ?_;refine aa (fun a1=>?_) (fun a1=>?_) <;> try simp only[zB] at a1)
  ·((refine aT<|ae<|y0 Z<|y0 Z<|y0 Z<|y0 Z<|yP Z<|yP Z<|y0 Z<|y0 Z<|y0 Z<|y0 Z<|y0 Z<|yP Z ?_;refine yP Z<|y0 Z<|y0 Z<|y0 Z<|y0 Z<|y0 Z<|yP Z<|yT<|ak Z<|cu<|yS<|yA Z<|yT<|aA ?_;refine af<|aq<|af<|af<|aq<|af<|aB zi ?_);refine And.intro ?_ trivial)
   rw[if_neg (by simp[a1])] at cf
   rw[aI hi.2 (by omega) cf (by decide)];rfl
  rw[if_pos (by simpa using a1)] at cf
  (refine aV<|aN Z Z<|az zI<|aX<|ai<|y1 Z<|y1 Z<|y2 Z<|cx Z Z Z<|aL zI ?_;refine⟨_,_,(jd x.y0 u hu),?_⟩)
  (refine br Z Z<|ae<|y1 Z<|yP Z<|yP Z<|yg Z ?_;refine aa (fun a2=>?_) (fun a2=>?_) <;> try simp only[zB] at a2)
  ·((refine aT<|ae<|y0 Z<|y0 Z<|y0 Z<|y0 Z<|yP Z<|yP Z<|y0 Z<|y0 Z<|y0 Z<|y0 Z<|y0 Z<|yP Z ?_;refine yT<|ak Z<|cu<|yS<|yA Z<|yT<|aA<|af<|aq<|af<|af<|aq<|af<|aB zi ?_);refine And.intro ?_ trivial)
   rw[if_neg (by simp[a2])] at cf
   rw[aI hi.2 (by omega) cf (by decide)];rfl
  rw[if_pos (by simpa using a2)] at cf
  (refine aV<|aN Z Z<|az zI<|aX<|ai<|y1 Z<|y1 Z<|y2 Z<|cx Z Z Z<|aL zI ?_;refine⟨_,_,(jd x.x1 u hu),?_⟩)
  (refine br Z Z<|ae<|y1 Z<|yP Z<|yP Z<|yg Z ?_;refine aa (fun a3=>?_) (fun a3=>?_) <;> try simp only[zB] at a3)
  ·((refine aT<|ae<|y0 Z<|y0 Z<|y0 Z<|y0 Z<|yP Z<|yT<|ak Z<|cu<|yS<|yA Z<|yT<|aA ?_;refine af<|aq<|af<|af<|aq<|af<|aB zi ?_);refine And.intro ?_ trivial)
   rw[if_neg (by simp[a3])] at cf
   rw[aI hi.2 (by omega) cf (by decide)];rfl
  rw[if_pos (by simpa using a3)] at cf
  (refine aV<|aN Z Z<|az zI<|aX<|ai<|y1 Z<|y1 Z<|y2 Z<|cx Z Z Z<|aL zI ?_;refine⟨_,_,(jd x.y1 u hu),?_⟩)
  (refine br Z Z<|ae<|y1 Z<|yP Z<|yT<|ak Z ?_;refine aa (fun a4=>?_) (fun a4=>?_) <;> try simp only[zB] at a4)
  ·(refine yS<|yA Z<|yT<|aA<|af<|aq<|af<|af<|aq<|af<|aB zi ?_;refine And.intro ?_ trivial)
   rw[if_neg (by simp[a4])] at cf
   rw[aI hi.2 (by omega) cf (by decide)];rfl
  rw[if_pos (by simpa using a4)] at cf
  (refine ar<|ah<|yS<|yV Z<|yP Z<|yV Z<|yP Z<|yP Z<|yP Z<|yg Z ?_;refine aa (fun a5=>?_) (fun a5=>?_) <;> try simp only[zB] at a5)
  ·((refine aT<|ae<|y0 Z<|y0 Z<|y0 Z<|y0 Z<|yP Z<|yT<|ak Z<|cu<|yS<|yA Z<|yT<|aA ?_;refine aq<|af<|af<|aq<|af<|aB zi ?_);refine And.intro ?_ trivial)
   rw[if_pos a5] at cf
   rw[aI hi.2 (by omega) cf (by decide)];rfl
  rw[if_neg a5] at cf
  ((refine aV<|aN Z Z<|az zI<|aX<|ai<|y1 Z<|y2 Z<|aN Z Z<|az zI<|aX<|ai<|y1 Z<|y1 Z<|yP Z ?_;refine yT<|ak Z ?_);refine aa (fun a6=>?_) (fun a6=>?_) <;> try simp only[zB] at a6)
  ·(refine yS<|yA Z<|yT<|aA<|aq<|af<|af<|aq<|af<|aB zi ?_;refine And.intro ?_ trivial)
   rw[if_pos a6] at cf
   rw[aI hi.2 (by omega) cf (by decide)];rfl
  rw[if_neg a6] at cf
  (refine ar<|aS<|ah<|aP<|yq Z<|bb zI ?_;refine sI ?_)
  (refine yk<|yP Z<|yT<|au ?_;refine⟨(i+1),_,bg.refl _ _,?_⟩)
  exact⟨⟨by omega,cw hi.2 cf⟩,by omega,⟨Z,Z,Z,Z,Y⟩,trivial⟩
 (refine bF<|aQ<|aQ<|bG<|ah<|yS<|yA Z<|yR zi ?_;refine And.intro ?_ trivial)
 have z0:a8 (i_ u y.cd) 0 y.cd.length=0:=bp fun k _ hk=>hi.2 k (by omega)
 rw[z0];rfl
theorem nF (l:List bw) (u:Int) (hu:1<=u/\u<=1000) (ho:l.length<=1048576):aw C 58 [.pv (cd l),.pv (i64 u)] (.p (i64 (jD u l))) []:=by
 refine aE hC Tryz.func58 rfl rfl 61 rfl (by decide) (by kernel_rfl) fun _ _ _ _ _=>?_
 have lm:=aJ l rc
 (refine yS<|yA Z<|yT<|an<|yS<|yP Z<|yP Z<|yP Z<|yT<|ak Z ?_;refine aa (fun g1=>?_) (fun g1=>?_) <;> try simp only[zB] at g1)
 ·(refine yS<|yA Z<|yT<|aA<|af<|aB zi ?_;refine And.intro ?_ trivial)
  rw[jD,if_pos (by have:(((l.map rc).length:Nat):Int)=0:=g1;omega)];rfl
 have g1:¬l.length=0:=fun e=>g1 (by show (((l.map rc).length:Nat):Int)=0;omega)
 (refine ar<|ah<|an<|yS<|yP Z<|yP Z<|yP Z<|yT<|ak Z ?_;refine aa (fun g2=>?_) (fun g2=>?_) <;> try simp only[zB] at g2)
 ·(refine yS<|yA Z<|yT<|aA<|af<|aB zi ?_;refine And.intro ?_ trivial)
  rw[jD,if_neg g1,if_pos (by omega)];rfl
 rw[jD,if_neg g1,if_neg (by omega)]
 refine ar<|ah<|an<|yS<|yA Z<|yT<|aO ?_
 refine aC (fun i:Nat=>i<=l.length/\∀k,k < i->i_ u l k=0) (fun i=>[(0,.p (cd l)),(1,.p (i64 u)),(5,.p (i64 i))]) (fun _=>[]) (fun i=>l.length - i) 0 _ (bg.refl _ _) ⟨Nat.zero_le _,fun k h=>by omega⟩ ⟨Z,Z,Z,Y⟩ trivial fun i hi t h=>?_
 (refine an<|yS<|yP Z<|yP Z<|yP Z<|yP Z<|yT<|ak Z ?_;refine aa (fun h1=>?_) (fun h1=>?_) <;> try simp only[zB] at h1)
 ·obtain⟨x,hx⟩:=aH (l:=l) (i:=i) (by omega)
  have cf:i_ u l i=(if fN x.x0 u=true then (if fN x.y0 u=true then (if fN x.x1 u=true then (if fN x.y1 u=true then (if x.x1<=x.x0 then 13 else if x.y1<=x.y0 then 13 else 0) else 1) else 1) else 1) else 1):=by simp only[i_,hx]
  (refine ar<|ah<|an<|aO<|yS<|yP Z<|yP Z<|yq Z<|aL zI ?_;refine⟨(rc x),(idx rfl hx),?_⟩)
  ((refine yk<|yP Z<|yn Z<|az zI<|aR<|ai<|yq Z<|az zI<|aX<|aM<|aU<|yT<|an<|yS ?_;refine yV Z<|yP Z<|yP Z<|yn Z<|aL zI ?_);refine⟨_,_,(kC x.x0 u hu),?_⟩)
  (refine br Z Z<|ae<|yP Z<|yP Z<|yg Z ?_;refine aa (fun a1=>?_) (fun a1=>?_) <;> try simp only[zB] at a1)
  ·((refine aT<|ae<|y0 Z<|y0 Z<|y0 Z<|y0 Z<|yP Z<|yP Z<|y0 Z<|y0 Z<|y0 Z<|y0 Z<|y0 Z<|yP Z ?_;refine yP Z<|y0 Z<|y0 Z<|y0 Z<|y0 Z<|y0 Z<|yP Z<|yT<|ak Z<|cu<|yS<|yA Z<|yT<|aA ?_;refine af<|aq<|af<|af<|aq<|af<|aB zi ?_);refine And.intro ?_ trivial)
   rw[if_neg (by simp[a1])] at cf
   rw[aI hi.2 (by omega) cf (by decide)];rfl
  rw[if_pos (by simpa using a1)] at cf
  (refine aV<|aN Z Z<|az zI<|aX<|ai<|y1 Z<|y1 Z<|y2 Z<|cx Z Z Z<|aL zI ?_;refine⟨_,_,(kC x.y0 u hu),?_⟩)
  (refine br Z Z<|ae<|y1 Z<|yP Z<|yP Z<|yg Z ?_;refine aa (fun a2=>?_) (fun a2=>?_) <;> try simp only[zB] at a2)
  ·((refine aT<|ae<|y0 Z<|y0 Z<|y0 Z<|y0 Z<|yP Z<|yP Z<|y0 Z<|y0 Z<|y0 Z<|y0 Z<|y0 Z<|yP Z ?_;refine yT<|ak Z<|cu<|yS<|yA Z<|yT<|aA<|af<|aq<|af<|af<|aq<|af<|aB zi ?_);refine And.intro ?_ trivial)
   rw[if_neg (by simp[a2])] at cf
   rw[aI hi.2 (by omega) cf (by decide)];rfl
  rw[if_pos (by simpa using a2)] at cf
  (refine aV<|aN Z Z<|az zI<|aX<|ai<|y1 Z<|y1 Z<|y2 Z<|cx Z Z Z<|aL zI ?_;refine⟨_,_,(kC x.x1 u hu),?_⟩)
  (refine br Z Z<|ae<|y1 Z<|yP Z<|yP Z<|yg Z ?_;refine aa (fun a3=>?_) (fun a3=>?_) <;> try simp only[zB] at a3)
  ·((refine aT<|ae<|y0 Z<|y0 Z<|y0 Z<|y0 Z<|yP Z<|yT<|ak Z<|cu<|yS<|yA Z<|yT<|aA ?_;refine af<|aq<|af<|af<|aq<|af<|aB zi ?_);refine And.intro ?_ trivial)
   rw[if_neg (by simp[a3])] at cf
   rw[aI hi.2 (by omega) cf (by decide)];rfl
  rw[if_pos (by simpa using a3)] at cf
  (refine aV<|aN Z Z<|az zI<|aX<|ai<|y1 Z<|y1 Z<|y2 Z<|cx Z Z Z<|aL zI ?_;refine⟨_,_,(kC x.y1 u hu),?_⟩)
  (refine br Z Z<|ae<|y1 Z<|yP Z<|yT<|ak Z ?_;refine aa (fun a4=>?_) (fun a4=>?_) <;> try simp only[zB] at a4)
  ·(refine yS<|yA Z<|yT<|aA<|af<|aq<|af<|af<|aq<|af<|aB zi ?_;refine And.intro ?_ trivial)
   rw[if_neg (by simp[a4])] at cf
   rw[aI hi.2 (by omega) cf (by decide)];rfl
  rw[if_pos (by simpa using a4)] at cf
  (refine ar<|ah<|yS<|yV Z<|yP Z<|yV Z<|yP Z<|yP Z<|yP Z<|yg Z ?_;refine aa (fun a5=>?_) (fun a5=>?_) <;> try simp only[zB] at a5)
  ·((refine aT<|ae<|y0 Z<|y0 Z<|y0 Z<|y0 Z<|yP Z<|yT<|ak Z<|cu<|yS<|yA Z<|yT<|aA ?_;refine aq<|af<|af<|aq<|af<|aB zi ?_);refine And.intro ?_ trivial)
   rw[if_pos a5] at cf
   rw[aI hi.2 (by omega) cf (by decide)];rfl
  rw[if_neg a5] at cf
  ((refine aV<|aN Z Z<|az zI<|aX<|ai<|y1 Z<|y2 Z<|aN Z Z<|az zI<|aX<|ai<|y1 Z<|y1 Z<|yP Z ?_;refine yT<|ak Z ?_);refine aa (fun a6=>?_) (fun a6=>?_) <;> try simp only[zB] at a6)
  ·(refine yS<|yA Z<|yT<|aA<|aq<|af<|af<|aq<|af<|aB zi ?_;refine And.intro ?_ trivial)
   rw[if_pos a6] at cf
   rw[aI hi.2 (by omega) cf (by decide)];rfl
  rw[if_neg a6] at cf
  (refine ar<|aS<|ah<|aP<|yP Z<|yq Z<|bb zI ?_;refine sI ?_)
  (refine yk<|yA Z<|yT<|au ?_;refine⟨(i+1),_,bg.refl _ _,?_⟩)
  exact⟨⟨by omega,cw hi.2 cf⟩,by omega,⟨Z,Z,Z,Y⟩,trivial⟩
 (refine bF<|aQ<|aQ<|bG<|ah<|yS<|yA Z<|yR zi ?_;refine And.intro ?_ trivial)
 have z0:a8 (i_ u l) 0 l.length=0:=bp fun k _ hk=>hi.2 k (by omega)
 rw[z0];rfl
def s6 (l:List (Int×Int)) (i:Nat):Bool:=match l[i]?,l[(i+1) % l.length]? with
 | some a,some b=>!(decide (a.1=b.1) == decide (a.2=b.2))
 | _,_=>true
def uh (l:List (Int×Int)):Bool:=decide (4<=l.length) && mD (s6 l) l.length
theorem Bj (a b:Nat):((a:Int)+1).tmod (b:Int)=(((a+1) % b:Nat):Int):=by
 rw[show ((a:Int)+1)=((a+1:Nat):Int) by omega]
 exact (Int.ofNat_tmod _ _).symm
theorem yf (l:List (Int×Int)) (hN:l.length<=1048576):aw C 258 [.pv (.sl (l.map sp))] (.p (bool (uh l))) []:=by
 refine aE hC Tryz.func258 rfl rfl 36 rfl (by decide) (by kernel_rfl) fun _ _ _ _ _=>?_
 have lm:=aJ l sp
 (refine yS<|yA Z<|yT<|an<|yS<|yP Z<|yP Z<|yP Z<|yT<|ak Z ?_;refine aa (fun g1=>?_) (fun g1=>?_) <;> try simp only[zB] at g1)
 ·(refine yS<|yA Z<|yT<|aA<|af<|aB zi ?_;refine And.intro ?_ trivial)
  rw[uh,decide_eq_false (by omega)];rfl
 refine ar<|ah<|an<|yS<|yP Z<|yP Z<|yP Z<|yT<|aO ?_
 refine aC (fun i:Nat=>i<=l.length/\mD (s6 l) i=true) (fun i=>[(0,.p (.sl (l.map sp))),(9,.p (.sl (l.map sp))),(10,.p (i64 (l.map sp).length)),(11,.p (i64 i))]) (fun _=>[]) (fun i=>l.length - i) 0 _ (bg.refl _ _) ⟨Nat.zero_le _,rfl⟩ ⟨Z,Z,Z,Z,Y⟩ trivial fun i hi t h=>?_
 (refine yS<|yP Z<|yT<|an<|ak Z ?_;refine aa (fun h1=>?_) (fun h1=>?_) <;> try simp only[zB] at h1)
 ·obtain⟨a,ha⟩:=aH (l:=l) (i:=i) (by omega)
  have Il:(i+1) % l.length < l.length:=Nat.mod_lt _ (by omega)
  obtain⟨b,hb⟩:=aH (l:=l) (i:=(i+1) % l.length) Il
  have he:s6 l i=!(decide (a.1=b.1) == decide (a.2=b.2)):=by simp only[s6,ha,hb]
  have hr:=Bj i l.length
  rw[<-lm] at hr
  (refine ar<|ah<|an<|aO<|yS<|yP Z<|yq Z<|aL zI ?_;refine⟨(sp a),(idx rfl ha),?_⟩)
  ((refine yk<|yP Z<|yn Z<|az zI<|aR<|ai<|yA Z<|yq Z<|az zI<|aX<|aM<|aU<|yU<|yP Z ?_;refine yP Z<|yq Z<|bb zI ?_);refine sI ?_)
  (refine yk<|yP Z<|yP Z<|yq Z<|bb zI ?_;refine And.intro (fun e=>by have e:(((l.map sp).length:Nat):Int)=0:=e;omega) ?_)
  (refine yk<|yq Z<|aL zI ?_;refine⟨(sp b),(idx (hr.trans (by rw[lm])) hb),?_⟩)
  ((refine yk<|yP Z<|yn Z<|az zI<|aR<|ai<|yq Z<|az zI<|aX<|aM<|aU<|yU<|yV Z<|yP Z ?_;refine yV Z<|yP Z<|yP Z<|yV Z<|yP Z<|yV Z<|yP Z<|yP Z<|yP Z<|yT<|ak Z ?_);refine aa (fun h2=>?_) (fun h2=>?_) <;> try simp only[zB] at h2)
  ·have h2:(decide (a.1=b.1) == decide (a.2=b.2))=true:=by simpa using h2
   (refine yS<|yA Z<|yT<|aA<|aq<|af<|af<|aq<|af<|aB zi ?_;refine And.intro ?_ trivial)
   rw[uh,mE (by rw[he,h2];rfl) (by omega:i < l.length),Bool.and_false];rfl
  have h2:(decide (a.1=b.1) == decide (a.2=b.2))=false:=by simpa using h2
  (refine ar<|aS<|ah<|aP<|yq Z<|bb zI ?_;refine sI ?_)
  (refine yk<|yP Z<|yT<|au ?_;refine⟨(i+1),_,bg.refl _ _,?_⟩)
  exact⟨⟨by omega,by rw[mD,hi.2,he,h2];rfl⟩,by omega,⟨Z,Z,Z,Z,Y⟩,trivial⟩
 have e:i=l.length:=by omega
 have h3:=hi.2
 rw[e] at h3
 (refine bF<|aQ<|aQ<|bG<|ah<|yS<|yA Z<|yR zi ?_;refine And.intro ?_ trivial)
 rw[uh,h3,decide_eq_true (by omega)];rfl
theorem s7 (l:List (Int×Int)) (u:Int) (hu:1<=u/\u<=1000) (hN:l.length<=1048576):aw C 211 [.pv (.sl (l.map sp)),.pv (i64 u)] (.p (i64 (if (l.any fun p=>!gI p u)=true then 1 else if 2000 < l.length then 2 else if uh l=true then 0 else 3))) []:=by
 refine aE hC Tryz.func211 rfl rfl 57 rfl (by decide) (by kernel_rfl) fun _ _ _ _ _=>?_
 have lm:=aJ l sp
 refine yS<|yA Z<|yT<|an<|yS<|yA Z<|yT<|aO ?_
 refine aC (fun i:Nat=>i<=l.length/\∀z∈l.take i,(!gI z u)=false) (fun i=>[(0,.p (.sl (l.map sp))),(1,.p (i64 u)),(5,.p (i64 i))]) (fun _=>[]) (fun i=>l.length - i) 0 _ (bg.refl _ _) ⟨Nat.zero_le _,by simp⟩ ⟨Z,Z,Z,Y⟩ trivial fun i hi t h=>?_
 (refine an<|yS<|yP Z<|yP Z<|yP Z<|yP Z<|yT<|ak Z ?_;refine aa (fun h1=>?_) (fun h1=>?_) <;> try simp only[zB] at h1)
 ·obtain⟨a,ha⟩:=aH (l:=l) (i:=i) (by omega)
  (refine ar<|ah<|an<|aO<|yS<|yP Z<|yP Z<|yq Z<|aL zI ?_;refine⟨(sp a),(idx rfl ha),?_⟩)
  (refine yk<|yP Z<|yP Z<|yn Z<|aL zI ?_;refine⟨_,_,(jC a u hu),?_⟩)
  (refine br Z Z<|ae<|yP Z<|yT<|ak Z ?_;refine aa (fun h2=>?_) (fun h2=>?_) <;> try simp only[zB] at h2)
  ·(refine yS<|yA Z<|yT<|aA<|aq<|af<|af<|aq<|af<|aB zi ?_;refine And.intro ?_ trivial)
   rw[if_pos (List.any_eq_true.2 ⟨a,List.mem_of_getElem? ha,by simpa using h2⟩)];rfl
  (refine ar<|aS<|ah<|aP<|yP Z<|yq Z<|bb zI ?_;refine sI ?_)
  (refine yk<|yA Z<|yT<|au ?_;refine⟨(i+1),_,bg.refl _ _,?_⟩)
  exact⟨⟨by omega,dV (p:=fun z=>!gI z u) ha (by simpa using h2) hi.2⟩,by omega,⟨Z,Z,Z,Y⟩,trivial⟩
 have C_:(l.any fun p=>!gI p u)=false:=by
  rw[List.any_eq_false]
  intro z hz
  have:=hi.2 z (by rw[List.take_of_length_le (by omega)];exact hz)
  rw[this];decide
 rw[if_neg (by rw[C_];decide)]
 (refine bF<|aQ<|aQ<|bG<|ah<|an<|yS<|yP Z<|yP Z<|yP Z<|yT<|ak Z ?_;refine aa (fun g2=>?_) (fun g2=>?_) <;> try simp only[zB] at g2)
 ·(refine yS<|yA Z<|yT<|aA<|af<|aB zi ?_;refine And.intro ?_ trivial)
  rw[if_pos (by omega)];rfl
 rw[if_neg (by omega)]
 (refine ar<|ah<|an<|yS<|yP Z<|yP Z<|yP Z<|yT<|ak Z ?_;refine aa (fun g3=>?_) (fun g3=>?_) <;> try simp only[zB] at g3)
 ·(refine yS<|yA Z<|yT<|aA<|af<|aB zi ?_;refine And.intro ?_ trivial)
  rw[if_neg (by rw[uh,decide_eq_false (by omega)];simp)];rfl
 refine ar<|ah<|an<|yS<|yA Z<|yT<|aO ?_
 refine aC (fun i:Nat=>i<=l.length/\mD (s6 l) i=true) (fun i=>[(0,.p (.sl (l.map sp))),(6,.p (i64 i))]) (fun _=>[]) (fun i=>l.length - i) 0 _ (bg.refl _ _) ⟨Nat.zero_le _,rfl⟩ ⟨Z,Z,Y⟩ trivial fun i hi t h=>?_
 (refine an<|yS<|yP Z<|yP Z<|yP Z<|yP Z<|yT<|ak Z ?_;refine aa (fun h2=>?_) (fun h2=>?_) <;> try simp only[zB] at h2)
 ·obtain⟨a,ha⟩:=aH (l:=l) (i:=i) (by omega)
  have Il:(i+1) % l.length < l.length:=Nat.mod_lt _ (by omega)
  obtain⟨b,hb⟩:=aH (l:=l) (i:=(i+1) % l.length) Il
  have he:s6 l i=!(decide (a.1=b.1) == decide (a.2=b.2)):=by simp only[s6,ha,hb]
  have hr:=Bj i l.length
  rw[<-lm] at hr
  ((refine ar (ah (an (aO (an (cF [] false [true,true,true,true,true,true,true,true,false,true,false,false,true,true,false,true] rfl (by kernel_rfl) (aK Z (aK Z (aK Z (aK Z (aK Z (aK Z (aK Z (aK Z ?_)))))))))))));refine aK Z<|aK Z<|aK Z<|aK Z<|eG Z Z<|eG Z Z<|cE Z<|yD Z<|yD Z<|dq Z<|aL zI ?_);refine⟨(sp a),(idx rfl ha),?_⟩)
  (refine bM<|ae<|yD Z<|yD Z<|yD Z<|dq Z<|bb zI ?_;refine sI ?_)
  (refine bM<|ae<|yD Z<|yD Z<|dq Z<|bb zI ?_;refine And.intro (fun e=>by have e:(((l.map sp).length:Nat):Int)=0:=e;omega) ?_)
  (refine bM<|ae<|dq Z<|aL zI ?_;refine⟨(sp b),(idx (hr.trans (by rw[lm])) hb),?_⟩)
  ((refine bM<|ae<|yD Z<|dq Z<|az zI<|vN Z Z<|ai<|dq Z<|az zI<|vN Z Z<|ai<|dq Z<|az zI<|tV Z ?_;refine aM<|aU<|dq Z<|az zI<|tV Z<|aM<|aU<|bR<|bS Z<|ah<|yS<|yV Z<|yP Z<|yV Z ?_;refine yP Z<|yP Z<|yV Z<|yP Z<|yV Z<|yP Z<|yP Z<|yP Z<|yT<|ak Z ?_);refine aa (fun h3=>?_) (fun h3=>?_) <;> try simp only[zB] at h3)
  ·have h3:(decide (a.1=b.1) == decide (a.2=b.2))=true:=by simpa using h3
   (refine yS<|yA Z<|yT<|aA<|aq<|af<|af<|aq<|af<|aB zi ?_;refine And.intro ?_ trivial)
   rw[if_neg (by rw[uh,mE (by rw[he,h3];rfl) (by omega:i < l.length),Bool.and_false];decide)];rfl
  have h3:(decide (a.1=b.1) == decide (a.2=b.2))=false:=by simpa using h3
  (refine ar<|aS<|ah<|aP<|yP Z<|yq Z<|bb zI ?_;refine sI ?_)
  (refine yk<|yA Z<|yT<|au ?_;refine⟨(i+1),_,bg.refl _ _,?_⟩)
  exact⟨⟨by omega,by rw[mD,hi.2,he,h3];rfl⟩,by omega,⟨Z,Z,Y⟩,trivial⟩
 have e:i=l.length:=by omega
 have h3:=hi.2
 rw[e] at h3
 (refine bF<|aQ<|aQ<|bG<|ah<|yS<|yA Z<|yR zi ?_;refine And.intro ?_ trivial)
 rw[if_pos (by rw[uh,h3,decide_eq_true (by omega)];rfl)];rfl
def cR (k:Int):Bool:=decide (k=4) || (decide (k=5) || (decide (k=6) || decide (k=8)))
def iO (k:Int):List PV:=[bool (decide (k=3)),bool (cR k),bool (decide (k=7)),bool (decide (k=8))]
def aD (s:fL) (n:Nat):Bool:=(!decide (s.kind=3) && !decide (s.name=aF)) || (!cR s.kind && !(decide (s.x=0) && decide (s.y=0))) || (!decide (s.kind=7) && decide (0 < s.pts.length)) || (!decide (s.kind=8) && !(decide (s.nx=0) && decide (s.ny=0) && decide (n=0)))
def fO (p:fM) (s:fL) (n:Nat) (d:Int):Int:=
 if er s.kind 1 8=true then
  if aD s n=true then 3 else
  if s.kind=3/\dO da.name p.tools s.name < 0 then 5 else
  if gI (s.x,s.y) p.unit=true then
   if (s.pts.any fun q=>!gI q p.unit)=true then 1 else
   if 2000 < s.pts.length then 2 else
   if s.kind=7/\uh s.pts=false then 3 else
   if s.kind=8 then (if er s.nx 1 100=true then (if er s.ny 1 100=true then (if n=0 then 9 else if 5<=d then 2 else 0) else 1) else 1) else 0
  else 1
 else 4
structure kD (p:fM):Prop where
 unit:1<=p.unit/\p.unit<=1000
 tools:p.tools.length<=1048576
def lB (s:fL):Prop:=bO s.name/\s.pts.length<=1048576
theorem Bk {s:fL} {n:Nat} (h:aD s n=false) (hk:¬s.kind=7):s.pts=[]:=by
 simp only[aD,Bool.or_eq_false_iff] at h
 have h2:=h.1.2
 rw[decide_eq_false hk] at h2
 simp at h2
 exact h2
theorem F6 {s:fL} {n:Nat} (h:aD s n=false) (hk:¬s.kind=8):n=0:=by
 simp only[aD,Bool.or_eq_false_iff] at h
 have h2:=h.2
 rw[decide_eq_false hk] at h2
 simp at h2
 exact h2.2
theorem yi {p:fM} {s:fL} {n:Nat} {d:Int} (h:fO p s n d=0):n=0\/d < 5:=by
 by_cases hk:s.kind=8
 ·by_cases hd:d < 5
  ·exact .inr hd
  unfold fO at h
  repeat' split at h
  all_goals first
   | (cases h;done)
   | (exact .inl (by assumption))
   | (exfalso;omega)
 refine .inl ?_
 unfold fO at h
 split at h
 ·split at h
  ·cases h
  rename_i hb
  exact F6 (by simpa using hb) hk
 cases h
theorem gp (k:Int):aw C 253 [.pv (i64 k)] (.p (.ag (iO k))) []:=by
 refine aE hC Tryz.func253 rfl rfl 19 rfl (by decide) (by kernel_rfl) fun _ _ _ _ _=>?_
 repeat' ((first | (refine yS<|yn Z<|az zI<|aR<|ai<|yT<|an<|yS<|yP Z<|yT<|aO<|yS<|yP Z<|yA Z ?_;refine yT<|ak Z ?_) | (refine an<|yS<|yP Z<|yA Z<|yT<|ak Z ?_) | (refine yS<|yP Z<|yA Z<|yT<|ak Z ?_) | (refine aP<|yP Z<|yA Z<|yT<|ak Z ?_) | (refine ar<|ah<|ak Z ?_));refine aa (fun h=>?_) (fun h=>?_) <;> try simp only[zB] at h)
 all_goals ((first | (refine ar<|aS<|ah<|yS<|yP Z<|yq Z<|az zI<|aX<|aM<|aU<|yR zi ?_) | (refine yS<|yP Z<|yq Z<|az zI<|aX<|aM<|aU<|yT<|aA<|aq<|af<|aB zi ?_));refine And.intro ?_ trivial)
 all_goals (simp[iO,cR,bool, *] <;> first | rfl | omega)
theorem Er (t:da) (x:ByteArray):aw C 291 [.pv (.ag (ug t)),.pv (.ip [str x])] (.p (bool (decide (t.name=x)))) []:=by
 refine aE hC Tryz.func291 rfl rfl 8 rfl (by decide) (by kernel_rfl) fun _ _ _ _ _=>?_
 (refine yS<|yn Z<|az zI<|aR<|ai<|yA Z<|yU<|yV Z<|yP Z<|yP Z<|yP Z<|yA Z<|yR zi ?_;refine And.intro ?_ trivial)
 rfl
theorem Im (q:Int×Int) (p:fM) (hu:1<=p.unit/\p.unit<=1000):aw C 257 [.pv (.ag (sp q)),.pv (.ip (cS p))] (.p (bool (!gI q p.unit))) []:=by
 refine aE hC Tryz.func257 rfl rfl 9 rfl (by decide) (by kernel_rfl) fun _ _ _ _ _=>?_
 (refine yS<|yn Z<|az zI<|aR<|ai<|yA Z<|yU<|yP Z<|yP Z<|yP Z<|yn Z<|aL zI ?_;refine⟨_,_,(fX q p.unit hu),?_⟩)
 (refine br Z Z<|ae<|yP Z<|yA Z<|yR zi ?_;refine And.intro ?_ trivial)
 rfl
theorem Ah (l:List da) (hN:l.length<=140737488355328) (x:ByteArray):aw C 290 [.pv (.sl (l.map ug)),.pv (.fn 291 [.ip [str x]])] (.p (i64 (eH (fun z:da=>decide (z.name=x)) l 0))) []:=by
 refine aE hC Tryz.func290 rfl rfl 19 rfl (by decide) (by kernel_rfl) fun _ _ _ _ _=>?_
 have lm:=aJ l ug
 refine yS<|yA Z<|yT<|an<|yS<|yP Z<|yP Z<|yP Z<|yT<|aO ?_
 refine aC (fun i:Nat=>i<=l.length/\∀z∈l.take i,(fun z:da=>decide (z.name=x)) z=false) (fun i=>[(0,.p (.sl (l.map ug))),(1,.p (.fn 291 [.ip [str x]])),(7,.p (i64 (l.map ug).length)),(8,.p (i64 i))]) (fun _=>[]) (fun i=>l.length - i) 0 _ (bg.refl _ _) ⟨Nat.zero_le _,by simp⟩ ⟨Z,Z,Z,Z,Y⟩ trivial fun i hi t h=>?_
 (refine yS<|yP Z<|yT<|an<|ak Z ?_;refine aa (fun h1=>?_) (fun h1=>?_) <;> try simp only[zB] at h1)
 ·rw[lm] at h1
  obtain⟨r,hr⟩:=aH (l:=l) (i:=i) (by omega)
  (refine ar<|ah<|an<|aO<|yS<|yP Z<|yA Z<|yU<|yP Z<|yP Z<|yP Z<|yq Z<|aL zI ?_;refine⟨(ug r),(idx rfl hr),?_⟩)
  (refine yk<|yP Z<|yn Z<|aL zI ?_;refine⟨_,_,(Er r x),?_⟩)
  (refine br Z Z<|ae<|yT<|ak Z ?_;refine aa (fun h2=>?_) (fun h2=>?_) <;> try simp only[zB] at h2)
  ·(refine yS<|yP Z<|yA Z<|yT<|aA<|aq<|af<|af<|aq<|af<|aB zi ?_;refine And.intro ?_ trivial)
   rw[cY (p:=fun z:da=>decide (z.name=x)) hr (by simpa using h2) hi.2,Nat.zero_add]
  (refine ar<|aS<|ah<|aP<|yq Z<|bb zI ?_;refine sI ?_)
  (refine yk<|yP Z<|yT<|au ?_;refine⟨(i+1),_,bg.refl _ _,?_⟩)
  exact⟨⟨by omega,dV (p:=fun z:da=>decide (z.name=x)) hr (by simpa using h2) hi.2⟩,by omega,⟨Z,Z,Z,Z,Y⟩,trivial⟩
 rw[lm] at h1
 (refine bF<|aQ<|aQ<|bG<|ah<|yS<|yA Z<|yR zi ?_;refine And.intro ?_ trivial)
 have h2:=hi.2
 rw[List.take_of_length_le (by omega)] at h2
 rw[cr (p:=fun z:da=>decide (z.name=x)) h2]
 rfl
theorem Es (l:List (Int×Int)) (hN:l.length<=140737488355328) (p:fM) (hu:1<=p.unit/\p.unit<=1000):aw C 292 [.pv (.sl (l.map sp)),.pv (.fn 257 [.ip (cS p)])] (.p (i64 (eH (fun q:Int×Int=>!gI q p.unit) l 0))) []:=by
 refine aE hC Tryz.func292 rfl rfl 19 rfl (by decide) (by kernel_rfl) fun _ _ _ _ _=>?_
 have lm:=aJ l sp
 refine yS<|yA Z<|yT<|an<|yS<|yP Z<|yP Z<|yP Z<|yT<|aO ?_
 refine aC (fun i:Nat=>i<=l.length/\∀z∈l.take i,(fun q:Int×Int=>!gI q p.unit) z=false) (fun i=>[(0,.p (.sl (l.map sp))),(1,.p (.fn 257 [.ip (cS p)])),(7,.p (i64 (l.map sp).length)),(8,.p (i64 i))]) (fun _=>[]) (fun i=>l.length - i) 0 _ (bg.refl _ _) ⟨Nat.zero_le _,by simp⟩ ⟨Z,Z,Z,Z,Y⟩ trivial fun i hi t h=>?_
 (refine yS<|yP Z<|yT<|an<|ak Z ?_;refine aa (fun h1=>?_) (fun h1=>?_) <;> try simp only[zB] at h1)
 ·rw[lm] at h1
  obtain⟨r,hr⟩:=aH (l:=l) (i:=i) (by omega)
  (refine ar<|ah<|an<|aO<|yS<|yP Z<|yA Z<|yU<|yP Z<|yP Z<|yP Z<|yq Z<|aL zI ?_;refine⟨(sp r),(idx rfl hr),?_⟩)
  (refine yk<|yP Z<|yn Z<|aL zI ?_;refine⟨_,_,(Im r p hu),?_⟩)
  (refine br Z Z<|ae<|yT<|ak Z ?_;refine aa (fun h2=>?_) (fun h2=>?_) <;> try simp only[zB] at h2)
  ·(refine yS<|yP Z<|yA Z<|yT<|aA<|aq<|af<|af<|aq<|af<|aB zi ?_;refine And.intro ?_ trivial)
   rw[cY (p:=fun q:Int×Int=>!gI q p.unit) hr (by simpa using h2) hi.2,Nat.zero_add]
  (refine ar<|aS<|ah<|aP<|yq Z<|bb zI ?_;refine sI ?_)
  (refine yk<|yP Z<|yT<|au ?_;refine⟨(i+1),_,bg.refl _ _,?_⟩)
  exact⟨⟨by omega,dV (p:=fun q:Int×Int=>!gI q p.unit) hr (by simpa using h2) hi.2⟩,by omega,⟨Z,Z,Z,Z,Y⟩,trivial⟩
 rw[lm] at h1
 (refine bF<|aQ<|aQ<|bG<|ah<|yS<|yA Z<|yR zi ?_;refine And.intro ?_ trivial)
 have h2:=hi.2
 rw[List.take_of_length_le (by omega)] at h2
 rw[cr (p:=fun q:Int×Int=>!gI q p.unit) h2]
 rfl
theorem iH (l:List (Int×Int)) (hN:l.length<=140737488355328) (p:fM) (hu:1<=p.unit/\p.unit<=1000):aw C 256 [.pv (.sl (l.map sp)),.pv (.fn 257 [.ip (cS p)])] (.p (bool (l.any fun q=>!gI q p.unit))) []:=by
 refine aE hC Tryz.func256 rfl rfl 9 rfl (by decide) (by kernel_rfl) fun _ _ _ _ _=>?_
 (refine yS<|yA Z<|yU<|yP Z<|yP Z<|yn Z<|aL zI ?_;refine⟨_,_,(Es l hN p hu),?_⟩)
 (refine br Z Z<|ae<|yP Z<|yA Z<|yR zi ?_;refine And.intro ?_ trivial)
 rw[<-gB _ l 0]
 rfl
theorem yj (p:fM) (x:ByteArray) (hN:p.tools.length<=140737488355328):aw C 254 [.pv (.ag (cS p)),.pv (str x)] (.p (i64 (dO da.name p.tools x))) []:=by
 refine aE hC Tryz.func254 rfl rfl 9 rfl (by decide) (by kernel_rfl) fun _ _ _ _ _=>?_
 ((refine yS<|yn Z<|az zI<|aR<|ai<|yn Z<|az zI<|aR<|ai<|yA Z<|yU<|yV Z<|yP Z<|yV Z ?_;refine yn Z<|aL zI ?_);refine⟨_,_,(Ah p.tools hN x),?_⟩)
 (refine br Z Z<|ae<|yA Z<|yR zi ?_;refine And.intro ?_ trivial)
 rfl
theorem Ct (p:fM) (x:ByteArray) (hN:p.tools.length<=140737488355328):aw C 209 [.pv (.ag (cS p)),.pv (str x)] (.p (i64 (dO da.name p.tools x))) []:=by
 refine aE hC Tryz.func209 rfl rfl 22 rfl (by decide) (by kernel_rfl) fun _ _ _ _ _=>?_
 have lm:=aJ p.tools ug
 refine yS<|yn Z<|az zI<|aR<|ai<|yA Z<|yT<|an<|yS<|yA Z<|yT<|aO ?_
 refine aC (fun i:Nat=>i<=p.tools.length/\∀z∈p.tools.take i,decide (z.name=x)=false) (fun i=>[(1,.p (str x)),(2,.bx 2 0),(5,.p (i64 i))]) (fun _=>[(2,.box ((cS p).map .p))]) (fun i=>p.tools.length - i) 0 _ (bg.refl _ _) ⟨Nat.zero_le _,by simp⟩ ⟨Z,Z,Z,Y⟩ ⟨Z,Y⟩ fun i hi t h=>?_
 (refine an<|yS<|yP Z<|yV Z<|yP Z<|yP Z<|yP Z<|yT<|ak Z ?_;refine aa (fun h1=>?_) (fun h1=>?_) <;> try simp only[zB] at h1)
 ·rw[lm] at h1
  obtain⟨r,hr⟩:=aH (l:=p.tools) (i:=i) (by omega)
  (refine ar<|ah<|an<|aO<|yS<|yV Z<|yP Z<|yP Z<|yq Z<|aL zI ?_;refine⟨(ug r),(idx rfl hr),?_⟩)
  (refine yk<|yP Z<|yP Z<|yP Z<|yP Z<|yT<|ak Z ?_;refine aa (fun h2=>?_) (fun h2=>?_) <;> try simp only[zB] at h2)
  ·(refine yS<|yP Z<|yA Z<|yT<|aA<|aq<|af<|af<|aq<|af<|aB zi ?_;refine And.intro ?_ trivial)
   rw[dO,cY (p:=fun y=>decide (da.name y=x)) hr (decide_eq_true h2) hi.2,Nat.zero_add]
  (refine ar<|aS<|ah<|aP<|yP Z<|yq Z<|bb zI ?_;refine sI ?_)
  (refine yk<|yA Z<|yT<|au ?_;refine⟨(i+1),_,bg.refl _ _,?_⟩)
  exact⟨⟨by omega,dV (p:=fun y=>decide (da.name y=x)) hr (decide_eq_false h2) hi.2⟩,by omega,⟨Z,Z,Z,Y⟩,⟨Z,Y⟩⟩
 rw[lm] at h1
 (refine bF<|aQ<|aQ<|bG<|ah<|yS<|yA Z<|yR zi ?_;refine And.intro ?_ trivial)
 have h2:=hi.2
 rw[List.take_of_length_le (by omega)] at h2
 rw[dO,cr (p:=fun y=>decide (da.name y=x)) h2]
 rfl
theorem uj (p:fM) (s:fL) (sub:List (List PV)) (d:Int) (hp:kD p) (so:lB s) (hk:s.kind=1\/s.kind=2) (hn:sub.length<=1048576):aw C 190 [.pv (.ag (cS p)),.pv (.ag (kM s sub)),.pv (i64 d)] (.p (i64 (fO p s sub.length d))) []:=by
 refine aE hC Tryz.func190 rfl rfl 120 rfl (by decide) (by kernel_rfl) fun _ _ _ _ _=>?_
 have lm:=aJ s.pts sp
 have Io:=so.2
 have k1:er s.kind 1 8=true:=eE.2 (by omega)
 have e3:decide (s.kind=3)=false:=by simp;try omega
 have eA:cR s.kind=false:=by simp[cR];try omega
 have e7:decide (s.kind=7)=false:=by simp;try omega
 have e8:decide (s.kind=8)=false:=by simp;try omega
 have hf:=gp s.kind
 rw[show iO s.kind=[bool false,bool false,bool false,bool false] by rw[iO,e3,eA,e7,e8]] at hf
 have nQ:aD s sub.length=((!false && !decide (s.name=aF)) || (!false && !(decide (s.x=0) && decide (s.y=0))) || (!false && decide (0 < s.pts.length)) || (!false && !(decide (s.nx=0) && decide (s.ny=0) && decide (sub.length=0)))):=by rw[aD,e3,eA,e7,e8]
 rw[fO,if_pos k1]
 have hw:=dI s.kind 1 8
 rw[k1] at hw
 ((refine yS<|yn Z<|az zI<|aR<|ai<|yn Z<|az zI<|aR<|ai<|yA Z<|yT<|an<|yS<|yV Z ?_;refine yP Z<|yn Z<|aL zI ?_);refine⟨_,_,hw,?_⟩)
 (refine br Z Z<|ae<|yP Z<|yT<|ak Z<|bz<|ar<|ah<|yS<|yV Z<|yP Z<|yn Z<|aL zI ?_;refine⟨_,_,hf,?_⟩)
 ((refine br Z Z<|ae<|yn Z<|az zI<|aR<|ai<|yq Z<|az zI<|aX<|aM<|aU<|yT<|an<|aO ?_;refine an<|yS<|yV Z<|yP Z<|yP Z<|yP Z<|y2 Z<|aN Z Z<|az zI<|aX<|ai<|y1 Z<|y1 Z<|yP Z ?_;refine yA Z<|yT<|ak Z ?_);refine aa (fun f1=>?_) (fun f1=>?_) <;> try simp only[zB] at f1)
 ·have f1:¬s.name=aF:=f1
  repeat' (refine ar<|ah<|ak Z ?_;refine aa (fun w=>?_) (fun w=>?_) <;> try simp only[zB] at w)
  all_goals (first | (refine yS<|yV Z<|yP Z<|yP Z<|y0 Z<|y0 Z<|y0 Z<|y0 Z<|y0 Z<|yP Z<|yA Z<|yT<|ak Z<|bz ?_;refine yS<|yV Z<|yP Z<|yV Z<|yP Z<|yn Z<|aL zI ?_) | (refine yS<|yA Z<|yT<|aA<|aq<|af<|aB zi ?_))
  all_goals first
   | (
     refine And.intro ?_ trivial
     rw[nQ,if_pos (by simp[f1])];rfl)
   | (exfalso;first | contradiction | omega | (simp_all;done))
 have f1:s.name=aF:=by simpa [aF] using f1
 ((refine yS<|yV Z<|yP Z<|yP Z<|yP Z<|y2 Z<|aN Z Z<|az zI<|aX<|ai<|y1 Z<|y1 Z<|y1 Z<|yP Z ?_;refine yA Z<|yT<|ak Z ?_);refine aa (fun f2=>?_) (fun f2=>?_) <;> try simp only[zB] at f2)
 ·skip
  repeat' (refine ar<|ah<|ak Z ?_;refine aa (fun w=>?_) (fun w=>?_) <;> try simp only[zB] at w)
  all_goals (first | (refine yS<|yV Z<|yP Z<|yP Z<|y0 Z<|y0 Z<|y0 Z<|y0 Z<|y0 Z<|yP Z<|yA Z<|yT<|ak Z<|bz ?_;refine yS<|yV Z<|yP Z<|yV Z<|yP Z<|yn Z<|aL zI ?_) | (refine yS<|yA Z<|yT<|aA<|aq<|af<|aB zi ?_))
  all_goals first
   | (
     refine And.intro ?_ trivial
     rw[nQ,if_pos (by simp at f2;by_cases hx:s.x=0 <;> by_cases hy:s.y=0 <;> simp_all)];rfl)
   | (exfalso;first | contradiction | omega | (simp_all;done))
 have f2:s.x=0/\s.y=0:=by simpa using f2
 obtain⟨f2,KO⟩:=f2
 ((refine yS<|yV Z<|yP Z<|yP Z<|yP Z<|y2 Z<|aN Z Z<|az zI<|aX<|ai<|y1 Z<|y1 Z<|y1 Z<|yP Z ?_;refine yA Z<|yT<|ak Z ?_);refine aa (fun f3=>?_) (fun f3=>?_) <;> try simp only[zB] at f3)
 ·skip
  repeat' (refine ar<|ah<|ak Z ?_;refine aa (fun w=>?_) (fun w=>?_) <;> try simp only[zB] at w)
  all_goals (first | (refine yS<|yV Z<|yP Z<|yP Z<|y0 Z<|y0 Z<|y0 Z<|y0 Z<|y0 Z<|yP Z<|yA Z<|yT<|ak Z<|bz ?_;refine yS<|yV Z<|yP Z<|yV Z<|yP Z<|yn Z<|aL zI ?_) | (refine yS<|yA Z<|yT<|aA<|aq<|af<|aB zi ?_))
  all_goals first
   | (
     refine And.intro ?_ trivial
     rw[nQ,if_pos (by rw[decide_eq_true (by omega:0 < s.pts.length)];simp)];rfl)
   | (exfalso;first | contradiction | omega | (simp_all;done))
 have f3:s.pts.length=0:=by omega
 (refine aP<|yV Z<|yP Z<|yP Z<|yP Z<|y2 Z<|aN Z Z<|az zI<|aX<|ai<|y1 Z<|y1 Z<|y1 Z<|yg Z ?_;refine aa (fun f4=>?_) (fun f4=>?_) <;> try simp only[zB] at f4)
 ·have f4:¬s.nx=0:=f4
  repeat' (skip;refine aa (fun w=>?_) (fun w=>?_) <;> try simp only[zB] at w)
  all_goals (refine aT<|ae<|y0 Z<|y0 Z<|y1 Z<|y1 Z<|y0 Z<|y0 Z<|y0 Z<|y0 Z<|y1 Z<|yP Z<|yA Z<|yT ?_;refine ak Z<|cu<|yS<|yA Z<|yT<|aA<|aq<|af<|aB zi ?_)
  all_goals first
   | (
     refine And.intro ?_ trivial
     rw[nQ,if_pos (by simp[f4])];rfl)
   | (exfalso;first | contradiction | omega | (simp_all;done))
 have f4:s.nx=0:=by simpa using f4
 (refine aV<|aN Z Z<|az zI<|aX<|ai<|y1 Z<|y1 Z<|y1 Z<|y1 Z<|yg Z ?_;refine aa (fun f5=>?_) (fun f5=>?_) <;> try simp only[zB] at f5)
 ·have f5:¬s.ny=0:=f5
  repeat' (skip;refine aa (fun w=>?_) (fun w=>?_) <;> try simp only[zB] at w)
  all_goals (refine aT<|ae<|y0 Z<|y0 Z<|y0 Z<|y1 Z<|yP Z<|yA Z<|yT<|ak Z<|cu<|yS<|yA Z<|yT ?_;refine aA<|aq<|af<|aB zi ?_)
  all_goals first
   | (
     refine And.intro ?_ trivial
     rw[nQ,if_pos (by simp[f5])];rfl)
   | (exfalso;first | contradiction | omega | (simp_all;done))
 have f5:s.ny=0:=by simpa using f5
 (refine aV<|aN Z Z<|az zI<|aX<|ai<|y1 Z<|y1 Z<|y1 Z<|y1 Z<|yP Z<|yA Z<|yT<|ak Z ?_;refine aa (fun f6=>?_) (fun f6=>?_) <;> try simp only[zB] at f6)
 ·skip
  repeat' (skip;refine aa (fun w=>?_) (fun w=>?_) <;> try simp only[zB] at w)
  all_goals refine yS<|yA Z<|yT<|aA<|aq<|af<|aB zi ?_
  all_goals first
   | (
     refine And.intro ?_ trivial
     rw[nQ,if_pos (by rw[decide_eq_false (by omega:¬sub.length=0)];simp)];rfl)
   | (exfalso;first | contradiction | omega | (simp_all;done))
 have f6:sub.length=0:=by omega
 have BH:aD s sub.length=false:=by rw[nQ];simp[f1,f2,KO,f3,f4,f5,f6]
 rw[BH,if_neg (by decide)]
 rw[if_neg (fun e=>by omega)]
 ((refine yS<|yV Z<|yP Z<|yP Z<|y0 Z<|y0 Z<|y0 Z<|y0 Z<|y0 Z<|yP Z<|yA Z<|yT<|ak Z<|bz ?_;refine yS<|yV Z<|yP Z<|yV Z<|yP Z<|yn Z<|aL zI ?_);refine⟨_,_,(fX (s.x,s.y) p.unit hp.unit),?_⟩)
 (refine br Z Z<|ae<|yP Z<|yP Z<|yg Z ?_;refine aa (fun g2=>?_) (fun g2=>?_) <;> try simp only[zB] at g2)
 ·((refine aT<|ae<|y0 Z<|y0 Z<|y0 Z<|yP Z<|yA Z<|yT<|ak Z<|cu<|yS<|yA Z<|yT<|aA ?_;refine aq<|af<|aB zi ?_);refine And.intro ?_ trivial)
  rw[if_neg (by simp[g2])];rfl
 rw[if_pos (by simpa using g2)]
 (refine aV<|aN Z Z<|az zI<|aX<|ai<|y1 Z<|y2 Z<|aN Z Z<|az zI<|aX<|sF<|y2 Z<|cx Z Z Z<|aL zI ?_;refine⟨_,_,(iH s.pts (by omega) p hp.unit),?_⟩)
 (refine br Z Z<|ae<|yP Z<|yA Z<|yT<|ak Z ?_;refine aa (fun g3=>?_) (fun g3=>?_) <;> try simp only[zB] at g3)
 ·(refine yS<|yA Z<|yT<|aA<|aq<|af<|aB zi ?_;refine And.intro ?_ trivial)
  rw[if_pos g3];rfl
 rw[if_neg (by simp[g3])]
 (refine yS<|yV Z<|yP Z<|yP Z<|yP Z<|yA Z<|yT<|ak Z ?_;refine aa (fun g4=>?_) (fun g4=>?_) <;> try simp only[zB] at g4)
 ·(refine yS<|yA Z<|yT<|aA<|aq<|af<|aB zi ?_;refine And.intro ?_ trivial)
  rw[if_pos (by omega)];rfl
 rw[if_neg (by omega)]
 rw[if_neg (fun e=>by omega)]
 rw[if_neg (by omega)]
 ((refine yS<|yV Z<|yP Z<|yP Z<|y0 Z<|y0 Z<|y0 Z<|y0 Z<|yP Z<|yA Z<|yT<|ak Z<|bz<|ar ?_;refine aS<|ah<|an<|yS<|yV Z<|yP Z<|yP Z<|yT<|ak Z<|cu<|yS<|yA Z<|yT<|aA ?_;refine af<|aB zi ?_);refine And.intro ?_ trivial)
 rfl
theorem wB (p:fM) (s:fL) (sub:List (List PV)) (d:Int) (hp:kD p) (so:lB s) (hk:s.kind=3) (hn:sub.length<=1048576):aw C 190 [.pv (.ag (cS p)),.pv (.ag (kM s sub)),.pv (i64 d)] (.p (i64 (fO p s sub.length d))) []:=by
 refine aE hC Tryz.func190 rfl rfl 120 rfl (by decide) (by kernel_rfl) fun _ _ _ _ _=>?_
 have lm:=aJ s.pts sp
 have Io:=so.2
 have k1:er s.kind 1 8=true:=eE.2 (by omega)
 have e3:decide (s.kind=3)=true:=by simp;try omega
 have eA:cR s.kind=false:=by simp[cR];try omega
 have e7:decide (s.kind=7)=false:=by simp;try omega
 have e8:decide (s.kind=8)=false:=by simp;try omega
 have hf:=gp s.kind
 rw[show iO s.kind=[bool true,bool false,bool false,bool false] by rw[iO,e3,eA,e7,e8]] at hf
 have nQ:aD s sub.length=((!true && !decide (s.name=aF)) || (!false && !(decide (s.x=0) && decide (s.y=0))) || (!false && decide (0 < s.pts.length)) || (!false && !(decide (s.nx=0) && decide (s.ny=0) && decide (sub.length=0)))):=by rw[aD,e3,eA,e7,e8]
 rw[fO,if_pos k1]
 have hw:=dI s.kind 1 8
 rw[k1] at hw
 ((refine yS<|yn Z<|az zI<|aR<|ai<|yn Z<|az zI<|aR<|ai<|yA Z<|yT<|an<|yS<|yV Z ?_;refine yP Z<|yn Z<|aL zI ?_);refine⟨_,_,hw,?_⟩)
 (refine br Z Z<|ae<|yP Z<|yT<|ak Z<|bz<|ar<|ah<|yS<|yV Z<|yP Z<|yn Z<|aL zI ?_;refine⟨_,_,hf,?_⟩)
 ((refine br Z Z<|ae<|yn Z<|az zI<|aR<|ai<|yq Z<|az zI<|aX<|aM<|aU<|yT<|an<|aO ?_;refine an<|yS<|yV Z<|yP Z<|yP Z<|yP Z<|y0 Z<|y0 Z<|y0 Z<|yP Z<|yA Z<|yT<|ak Z<|bz ?_;refine yS<|yV Z<|yP Z<|yP Z<|yP Z<|y2 Z<|aN Z Z<|az zI<|aX<|ai<|y1 Z<|y1 Z<|y1 Z<|yP Z ?_;refine yA Z<|yT<|ak Z ?_);refine aa (fun f2=>?_) (fun f2=>?_) <;> try simp only[zB] at f2)
 ·skip
  repeat' (refine ar<|ah<|ak Z ?_;refine aa (fun w=>?_) (fun w=>?_) <;> try simp only[zB] at w)
  all_goals (first | (refine yS<|yV Z<|yP Z<|yP Z<|y1 Z<|y2 Z<|aN Z Z<|az zI<|aX<|ai<|y1 Z<|y2 Z<|cx Z Z Z<|aL zI ?_) | (refine yS<|yA Z<|yT<|aA<|aq<|af<|aB zi ?_))
  all_goals first
   | (
     refine And.intro ?_ trivial
     rw[nQ,if_pos (by simp at f2;by_cases hx:s.x=0 <;> by_cases hy:s.y=0 <;> simp_all)];rfl)
   | (exfalso;first | contradiction | omega | (simp_all;done))
 have f2:s.x=0/\s.y=0:=by simpa using f2
 obtain⟨f2,KO⟩:=f2
 ((refine yS<|yV Z<|yP Z<|yP Z<|yP Z<|y2 Z<|aN Z Z<|az zI<|aX<|ai<|y1 Z<|y1 Z<|y1 Z<|yP Z ?_;refine yA Z<|yT<|ak Z ?_);refine aa (fun f3=>?_) (fun f3=>?_) <;> try simp only[zB] at f3)
 ·skip
  repeat' (refine ar<|ah<|ak Z ?_;refine aa (fun w=>?_) (fun w=>?_) <;> try simp only[zB] at w)
  all_goals (first | (refine yS<|yV Z<|yP Z<|yP Z<|y1 Z<|y2 Z<|aN Z Z<|az zI<|aX<|ai<|y1 Z<|y2 Z<|cx Z Z Z<|aL zI ?_) | (refine yS<|yA Z<|yT<|aA<|aq<|af<|aB zi ?_))
  all_goals first
   | (
     refine And.intro ?_ trivial
     rw[nQ,if_pos (by rw[decide_eq_true (by omega:0 < s.pts.length)];simp)];rfl)
   | (exfalso;first | contradiction | omega | (simp_all;done))
 have f3:s.pts.length=0:=by omega
 (refine aP<|yV Z<|yP Z<|yP Z<|yP Z<|y2 Z<|aN Z Z<|az zI<|aX<|ai<|y1 Z<|y1 Z<|y1 Z<|yg Z ?_;refine aa (fun f4=>?_) (fun f4=>?_) <;> try simp only[zB] at f4)
 ·have f4:¬s.nx=0:=f4
  repeat' (skip;refine aa (fun w=>?_) (fun w=>?_) <;> try simp only[zB] at w)
  all_goals (refine aT<|ae<|y0 Z<|y0 Z<|y1 Z<|y1 Z<|y0 Z<|y0 Z<|y0 Z<|y0 Z<|y1 Z<|yP Z<|yA Z<|yT ?_;refine ak Z<|cu<|yS<|yA Z<|yT<|aA<|aq<|af<|aB zi ?_)
  all_goals first
   | (
     refine And.intro ?_ trivial
     rw[nQ,if_pos (by simp[f4])];rfl)
   | (exfalso;first | contradiction | omega | (simp_all;done))
 have f4:s.nx=0:=by simpa using f4
 (refine aV<|aN Z Z<|az zI<|aX<|ai<|y1 Z<|y1 Z<|y1 Z<|y1 Z<|yg Z ?_;refine aa (fun f5=>?_) (fun f5=>?_) <;> try simp only[zB] at f5)
 ·have f5:¬s.ny=0:=f5
  repeat' (skip;refine aa (fun w=>?_) (fun w=>?_) <;> try simp only[zB] at w)
  all_goals (refine aT<|ae<|y0 Z<|y0 Z<|y0 Z<|y1 Z<|yP Z<|yA Z<|yT<|ak Z<|cu<|yS<|yA Z<|yT ?_;refine aA<|aq<|af<|aB zi ?_)
  all_goals first
   | (
     refine And.intro ?_ trivial
     rw[nQ,if_pos (by simp[f5])];rfl)
   | (exfalso;first | contradiction | omega | (simp_all;done))
 have f5:s.ny=0:=by simpa using f5
 (refine aV<|aN Z Z<|az zI<|aX<|ai<|y1 Z<|y1 Z<|y1 Z<|y1 Z<|yP Z<|yA Z<|yT<|ak Z ?_;refine aa (fun f6=>?_) (fun f6=>?_) <;> try simp only[zB] at f6)
 ·skip
  repeat' (skip;refine aa (fun w=>?_) (fun w=>?_) <;> try simp only[zB] at w)
  all_goals refine yS<|yA Z<|yT<|aA<|aq<|af<|aB zi ?_
  all_goals first
   | (
     refine And.intro ?_ trivial
     rw[nQ,if_pos (by rw[decide_eq_false (by omega:¬sub.length=0)];simp)];rfl)
   | (exfalso;first | contradiction | omega | (simp_all;done))
 have f6:sub.length=0:=by omega
 have BH:aD s sub.length=false:=by rw[nQ];simp[f2,KO,f3,f4,f5,f6]
 rw[BH,if_neg (by decide)]
 (refine yS<|yV Z<|yP Z<|yP Z<|y1 Z<|y2 Z<|aN Z Z<|az zI<|aX<|ai<|y1 Z<|y2 Z<|cx Z Z Z<|aL zI ?_;refine⟨_,_,(yj p s.name (by have:=hp.tools;omega)),?_⟩)
 (refine br Z Z<|ae<|y1 Z<|yP Z<|yA Z<|yT<|ak Z ?_;refine aa (fun g1=>?_) (fun g1=>?_) <;> try simp only[zB] at g1)
 ·(refine yS<|yA Z<|yT<|aA<|aq<|af<|aB zi ?_;refine And.intro ?_ trivial)
  rw[if_pos ⟨hk,g1⟩];rfl
 rw[if_neg (fun e=>g1 e.2)]
 (refine yS<|yV Z<|yP Z<|yV Z<|yP Z<|yn Z<|aL zI ?_;refine⟨_,_,(fX (s.x,s.y) p.unit hp.unit),?_⟩)
 (refine br Z Z<|ae<|yP Z<|yP Z<|yg Z ?_;refine aa (fun g2=>?_) (fun g2=>?_) <;> try simp only[zB] at g2)
 ·((refine aT<|ae<|y0 Z<|y0 Z<|y0 Z<|yP Z<|yA Z<|yT<|ak Z<|cu<|yS<|yA Z<|yT<|aA ?_;refine aq<|af<|aB zi ?_);refine And.intro ?_ trivial)
  rw[if_neg (by simp[g2])];rfl
 rw[if_pos (by simpa using g2)]
 (refine aV<|aN Z Z<|az zI<|aX<|ai<|y1 Z<|y2 Z<|aN Z Z<|az zI<|aX<|sF<|y2 Z<|cx Z Z Z<|aL zI ?_;refine⟨_,_,(iH s.pts (by omega) p hp.unit),?_⟩)
 (refine br Z Z<|ae<|yP Z<|yA Z<|yT<|ak Z ?_;refine aa (fun g3=>?_) (fun g3=>?_) <;> try simp only[zB] at g3)
 ·(refine yS<|yA Z<|yT<|aA<|aq<|af<|aB zi ?_;refine And.intro ?_ trivial)
  rw[if_pos g3];rfl
 rw[if_neg (by simp[g3])]
 (refine yS<|yV Z<|yP Z<|yP Z<|yP Z<|yA Z<|yT<|ak Z ?_;refine aa (fun g4=>?_) (fun g4=>?_) <;> try simp only[zB] at g4)
 ·(refine yS<|yA Z<|yT<|aA<|aq<|af<|aB zi ?_;refine And.intro ?_ trivial)
  rw[if_pos (by omega)];rfl
 rw[if_neg (by omega)]
 rw[if_neg (fun e=>by omega)]
 rw[if_neg (by omega)]
 ((refine yS<|yV Z<|yP Z<|yP Z<|y0 Z<|y0 Z<|y0 Z<|y0 Z<|yP Z<|yA Z<|yT<|ak Z<|bz<|ar ?_;refine aS<|ah<|an<|yS<|yV Z<|yP Z<|yP Z<|yT<|ak Z<|cu<|yS<|yA Z<|yT<|aA ?_;refine af<|aB zi ?_);refine And.intro ?_ trivial)
 rfl
theorem s8 (p:fM) (s:fL) (sub:List (List PV)) (d:Int) (hp:kD p) (so:lB s) (hk:s.kind=4\/s.kind=5\/s.kind=6) (hn:sub.length<=1048576):aw C 190 [.pv (.ag (cS p)),.pv (.ag (kM s sub)),.pv (i64 d)] (.p (i64 (fO p s sub.length d))) []:=by
 refine aE hC Tryz.func190 rfl rfl 120 rfl (by decide) (by kernel_rfl) fun _ _ _ _ _=>?_
 have lm:=aJ s.pts sp
 have Io:=so.2
 have k1:er s.kind 1 8=true:=eE.2 (by omega)
 have e3:decide (s.kind=3)=false:=by simp;try omega
 have eA:cR s.kind=true:=by simp[cR];try omega
 have e7:decide (s.kind=7)=false:=by simp;try omega
 have e8:decide (s.kind=8)=false:=by simp;try omega
 have hf:=gp s.kind
 rw[show iO s.kind=[bool false,bool true,bool false,bool false] by rw[iO,e3,eA,e7,e8]] at hf
 have nQ:aD s sub.length=((!false && !decide (s.name=aF)) || (!true && !(decide (s.x=0) && decide (s.y=0))) || (!false && decide (0 < s.pts.length)) || (!false && !(decide (s.nx=0) && decide (s.ny=0) && decide (sub.length=0)))):=by rw[aD,e3,eA,e7,e8]
 rw[fO,if_pos k1]
 have hw:=dI s.kind 1 8
 rw[k1] at hw
 ((refine yS<|yn Z<|az zI<|aR<|ai<|yn Z<|az zI<|aR<|ai<|yA Z<|yT<|an<|yS<|yV Z ?_;refine yP Z<|yn Z<|aL zI ?_);refine⟨_,_,hw,?_⟩)
 (refine br Z Z<|ae<|yP Z<|yT<|ak Z<|bz<|ar<|ah<|yS<|yV Z<|yP Z<|yn Z<|aL zI ?_;refine⟨_,_,hf,?_⟩)
 ((refine br Z Z<|ae<|yn Z<|az zI<|aR<|ai<|yq Z<|az zI<|aX<|aM<|aU<|yT<|an<|aO ?_;refine an<|yS<|yV Z<|yP Z<|yP Z<|yP Z<|y2 Z<|aN Z Z<|az zI<|aX<|ai<|y1 Z<|y1 Z<|yP Z ?_;refine yA Z<|yT<|ak Z ?_);refine aa (fun f1=>?_) (fun f1=>?_) <;> try simp only[zB] at f1)
 ·have f1:¬s.name=aF:=f1
  repeat' (refine ar<|ah<|ak Z ?_;refine aa (fun w=>?_) (fun w=>?_) <;> try simp only[zB] at w)
  all_goals (first | (refine yS<|yV Z<|yP Z<|yP Z<|y0 Z<|y0 Z<|y0 Z<|y0 Z<|y0 Z<|yP Z<|yA Z<|yT<|ak Z<|bz ?_;refine yS<|yV Z<|yP Z<|yV Z<|yP Z<|yn Z<|aL zI ?_) | (refine yS<|yA Z<|yT<|aA<|aq<|af<|aB zi ?_))
  all_goals first
   | (
     refine And.intro ?_ trivial
     rw[nQ,if_pos (by simp[f1])];rfl)
   | (exfalso;first | contradiction | omega | (simp_all;done))
 have f1:s.name=aF:=by simpa [aF] using f1
 ((refine yS<|yV Z<|yP Z<|yP Z<|yP Z<|y0 Z<|y0 Z<|y0 Z<|y0 Z<|yP Z<|yA Z<|yT<|ak Z<|bz ?_;refine yS<|yV Z<|yP Z<|yP Z<|yP Z<|y2 Z<|aN Z Z<|az zI<|aX<|ai<|y1 Z<|y1 Z<|y1 Z<|yP Z ?_;refine yA Z<|yT<|ak Z ?_);refine aa (fun f3=>?_) (fun f3=>?_) <;> try simp only[zB] at f3)
 ·skip
  repeat' (refine ar<|ah<|ak Z ?_;refine aa (fun w=>?_) (fun w=>?_) <;> try simp only[zB] at w)
  all_goals (first | (refine yS<|yV Z<|yP Z<|yP Z<|y0 Z<|y0 Z<|y0 Z<|y0 Z<|y0 Z<|yP Z<|yA Z<|yT<|ak Z<|bz ?_;refine yS<|yV Z<|yP Z<|yV Z<|yP Z<|yn Z<|aL zI ?_) | (refine yS<|yA Z<|yT<|aA<|aq<|af<|aB zi ?_))
  all_goals first
   | (
     refine And.intro ?_ trivial
     rw[nQ,if_pos (by rw[decide_eq_true (by omega:0 < s.pts.length)];simp)];rfl)
   | (exfalso;first | contradiction | omega | (simp_all;done))
 have f3:s.pts.length=0:=by omega
 (refine aP<|yV Z<|yP Z<|yP Z<|yP Z<|y2 Z<|aN Z Z<|az zI<|aX<|ai<|y1 Z<|y1 Z<|y1 Z<|yg Z ?_;refine aa (fun f4=>?_) (fun f4=>?_) <;> try simp only[zB] at f4)
 ·have f4:¬s.nx=0:=f4
  repeat' (skip;refine aa (fun w=>?_) (fun w=>?_) <;> try simp only[zB] at w)
  all_goals (refine aT<|ae<|y0 Z<|y0 Z<|y1 Z<|y1 Z<|y0 Z<|y0 Z<|y0 Z<|y0 Z<|y1 Z<|yP Z<|yA Z<|yT ?_;refine ak Z<|cu<|yS<|yA Z<|yT<|aA<|aq<|af<|aB zi ?_)
  all_goals first
   | (
     refine And.intro ?_ trivial
     rw[nQ,if_pos (by simp[f4])];rfl)
   | (exfalso;first | contradiction | omega | (simp_all;done))
 have f4:s.nx=0:=by simpa using f4
 (refine aV<|aN Z Z<|az zI<|aX<|ai<|y1 Z<|y1 Z<|y1 Z<|y1 Z<|yg Z ?_;refine aa (fun f5=>?_) (fun f5=>?_) <;> try simp only[zB] at f5)
 ·have f5:¬s.ny=0:=f5
  repeat' (skip;refine aa (fun w=>?_) (fun w=>?_) <;> try simp only[zB] at w)
  all_goals (refine aT<|ae<|y0 Z<|y0 Z<|y0 Z<|y1 Z<|yP Z<|yA Z<|yT<|ak Z<|cu<|yS<|yA Z<|yT ?_;refine aA<|aq<|af<|aB zi ?_)
  all_goals first
   | (
     refine And.intro ?_ trivial
     rw[nQ,if_pos (by simp[f5])];rfl)
   | (exfalso;first | contradiction | omega | (simp_all;done))
 have f5:s.ny=0:=by simpa using f5
 (refine aV<|aN Z Z<|az zI<|aX<|ai<|y1 Z<|y1 Z<|y1 Z<|y1 Z<|yP Z<|yA Z<|yT<|ak Z ?_;refine aa (fun f6=>?_) (fun f6=>?_) <;> try simp only[zB] at f6)
 ·skip
  repeat' (skip;refine aa (fun w=>?_) (fun w=>?_) <;> try simp only[zB] at w)
  all_goals refine yS<|yA Z<|yT<|aA<|aq<|af<|aB zi ?_
  all_goals first
   | (
     refine And.intro ?_ trivial
     rw[nQ,if_pos (by rw[decide_eq_false (by omega:¬sub.length=0)];simp)];rfl)
   | (exfalso;first | contradiction | omega | (simp_all;done))
 have f6:sub.length=0:=by omega
 have BH:aD s sub.length=false:=by rw[nQ];simp[f1,f3,f4,f5,f6]
 rw[BH,if_neg (by decide)]
 rw[if_neg (fun e=>by omega)]
 ((refine yS<|yV Z<|yP Z<|yP Z<|y0 Z<|y0 Z<|y0 Z<|y0 Z<|y0 Z<|yP Z<|yA Z<|yT<|ak Z<|bz ?_;refine yS<|yV Z<|yP Z<|yV Z<|yP Z<|yn Z<|aL zI ?_);refine⟨_,_,(fX (s.x,s.y) p.unit hp.unit),?_⟩)
 (refine br Z Z<|ae<|yP Z<|yP Z<|yg Z ?_;refine aa (fun g2=>?_) (fun g2=>?_) <;> try simp only[zB] at g2)
 ·((refine aT<|ae<|y0 Z<|y0 Z<|y0 Z<|yP Z<|yA Z<|yT<|ak Z<|cu<|yS<|yA Z<|yT<|aA ?_;refine aq<|af<|aB zi ?_);refine And.intro ?_ trivial)
  rw[if_neg (by simp[g2])];rfl
 rw[if_pos (by simpa using g2)]
 (refine aV<|aN Z Z<|az zI<|aX<|ai<|y1 Z<|y2 Z<|aN Z Z<|az zI<|aX<|sF<|y2 Z<|cx Z Z Z<|aL zI ?_;refine⟨_,_,(iH s.pts (by omega) p hp.unit),?_⟩)
 (refine br Z Z<|ae<|yP Z<|yA Z<|yT<|ak Z ?_;refine aa (fun g3=>?_) (fun g3=>?_) <;> try simp only[zB] at g3)
 ·(refine yS<|yA Z<|yT<|aA<|aq<|af<|aB zi ?_;refine And.intro ?_ trivial)
  rw[if_pos g3];rfl
 rw[if_neg (by simp[g3])]
 (refine yS<|yV Z<|yP Z<|yP Z<|yP Z<|yA Z<|yT<|ak Z ?_;refine aa (fun g4=>?_) (fun g4=>?_) <;> try simp only[zB] at g4)
 ·(refine yS<|yA Z<|yT<|aA<|aq<|af<|aB zi ?_;refine And.intro ?_ trivial)
  rw[if_pos (by omega)];rfl
 rw[if_neg (by omega)]
 rw[if_neg (fun e=>by omega)]
 rw[if_neg (by omega)]
 ((refine yS<|yV Z<|yP Z<|yP Z<|y0 Z<|y0 Z<|y0 Z<|y0 Z<|yP Z<|yA Z<|yT<|ak Z<|bz<|ar ?_;refine aS<|ah<|an<|yS<|yV Z<|yP Z<|yP Z<|yT<|ak Z<|cu<|yS<|yA Z<|yT<|aA ?_;refine af<|aB zi ?_);refine And.intro ?_ trivial)
 rfl
theorem wC (p:fM) (s:fL) (sub:List (List PV)) (d:Int) (hp:kD p) (so:lB s) (hk:s.kind=7) (hn:sub.length<=1048576):aw C 190 [.pv (.ag (cS p)),.pv (.ag (kM s sub)),.pv (i64 d)] (.p (i64 (fO p s sub.length d))) []:=by
 refine aE hC Tryz.func190 rfl rfl 120 rfl (by decide) (by kernel_rfl) fun _ _ _ _ _=>?_
 have lm:=aJ s.pts sp
 have Io:=so.2
 have k1:er s.kind 1 8=true:=eE.2 (by omega)
 have e3:decide (s.kind=3)=false:=by simp;try omega
 have eA:cR s.kind=false:=by simp[cR];try omega
 have e7:decide (s.kind=7)=true:=by simp;try omega
 have e8:decide (s.kind=8)=false:=by simp;try omega
 have hf:=gp s.kind
 rw[show iO s.kind=[bool false,bool false,bool true,bool false] by rw[iO,e3,eA,e7,e8]] at hf
 have nQ:aD s sub.length=((!false && !decide (s.name=aF)) || (!false && !(decide (s.x=0) && decide (s.y=0))) || (!true && decide (0 < s.pts.length)) || (!false && !(decide (s.nx=0) && decide (s.ny=0) && decide (sub.length=0)))):=by rw[aD,e3,eA,e7,e8]
 rw[fO,if_pos k1]
 have hw:=dI s.kind 1 8
 rw[k1] at hw
 ((refine yS<|yn Z<|az zI<|aR<|ai<|yn Z<|az zI<|aR<|ai<|yA Z<|yT<|an<|yS<|yV Z ?_;refine yP Z<|yn Z<|aL zI ?_);refine⟨_,_,hw,?_⟩)
 (refine br Z Z<|ae<|yP Z<|yT<|ak Z<|bz<|ar<|ah<|yS<|yV Z<|yP Z<|yn Z<|aL zI ?_;refine⟨_,_,hf,?_⟩)
 ((refine br Z Z<|ae<|yn Z<|az zI<|aR<|ai<|yq Z<|az zI<|aX<|aM<|aU<|yT<|an<|aO ?_;refine an<|yS<|yV Z<|yP Z<|yP Z<|yP Z<|y2 Z<|aN Z Z<|az zI<|aX<|ai<|y1 Z<|y1 Z<|yP Z ?_;refine yA Z<|yT<|ak Z ?_);refine aa (fun f1=>?_) (fun f1=>?_) <;> try simp only[zB] at f1)
 ·have f1:¬s.name=aF:=f1
  repeat' (refine ar<|ah<|ak Z ?_;refine aa (fun w=>?_) (fun w=>?_) <;> try simp only[zB] at w)
  all_goals (first | (refine yS<|yV Z<|yP Z<|yP Z<|y0 Z<|y0 Z<|y0 Z<|y0 Z<|y0 Z<|yP Z<|yA Z<|yT<|ak Z<|bz ?_;refine yS<|yV Z<|yP Z<|yV Z<|yP Z<|yn Z<|aL zI ?_) | (refine yS<|yA Z<|yT<|aA<|aq<|af<|aB zi ?_))
  all_goals first
   | (
     refine And.intro ?_ trivial
     rw[nQ,if_pos (by simp[f1])];rfl)
   | (exfalso;first | contradiction | omega | (simp_all;done))
 have f1:s.name=aF:=by simpa [aF] using f1
 ((refine yS<|yV Z<|yP Z<|yP Z<|yP Z<|y2 Z<|aN Z Z<|az zI<|aX<|ai<|y1 Z<|y1 Z<|y1 Z<|yP Z ?_;refine yA Z<|yT<|ak Z ?_);refine aa (fun f2=>?_) (fun f2=>?_) <;> try simp only[zB] at f2)
 ·skip
  repeat' (refine ar<|ah<|ak Z ?_;refine aa (fun w=>?_) (fun w=>?_) <;> try simp only[zB] at w)
  all_goals (first | (refine yS<|yV Z<|yP Z<|yP Z<|y0 Z<|y0 Z<|y0 Z<|y0 Z<|y0 Z<|yP Z<|yA Z<|yT<|ak Z<|bz ?_;refine yS<|yV Z<|yP Z<|yV Z<|yP Z<|yn Z<|aL zI ?_) | (refine yS<|yA Z<|yT<|aA<|aq<|af<|aB zi ?_))
  all_goals first
   | (
     refine And.intro ?_ trivial
     rw[nQ,if_pos (by simp at f2;by_cases hx:s.x=0 <;> by_cases hy:s.y=0 <;> simp_all)];rfl)
   | (exfalso;first | contradiction | omega | (simp_all;done))
 have f2:s.x=0/\s.y=0:=by simpa using f2
 obtain⟨f2,KO⟩:=f2
 ((refine yS<|yV Z<|yP Z<|yP Z<|yP Z<|y0 Z<|y0 Z<|y0 Z<|y0 Z<|yP Z<|yA Z<|yT<|ak Z<|bz ?_;refine aP<|yV Z<|yP Z<|yP Z<|yP Z<|y2 Z<|aN Z Z<|az zI<|aX<|ai<|y1 Z<|y1 Z<|y1 Z<|yg Z ?_);refine aa (fun f4=>?_) (fun f4=>?_) <;> try simp only[zB] at f4)
 ·have f4:¬s.nx=0:=f4
  repeat' (skip;refine aa (fun w=>?_) (fun w=>?_) <;> try simp only[zB] at w)
  all_goals (refine aT<|ae<|y0 Z<|y0 Z<|y1 Z<|y1 Z<|y0 Z<|y0 Z<|y0 Z<|y0 Z<|y1 Z<|yP Z<|yA Z<|yT ?_;refine ak Z<|cu<|yS<|yA Z<|yT<|aA<|aq<|af<|aB zi ?_)
  all_goals first
   | (
     refine And.intro ?_ trivial
     rw[nQ,if_pos (by simp[f4])];rfl)
   | (exfalso;first | contradiction | omega | (simp_all;done))
 have f4:s.nx=0:=by simpa using f4
 (refine aV<|aN Z Z<|az zI<|aX<|ai<|y1 Z<|y1 Z<|y1 Z<|y1 Z<|yg Z ?_;refine aa (fun f5=>?_) (fun f5=>?_) <;> try simp only[zB] at f5)
 ·have f5:¬s.ny=0:=f5
  repeat' (skip;refine aa (fun w=>?_) (fun w=>?_) <;> try simp only[zB] at w)
  all_goals (refine aT<|ae<|y0 Z<|y0 Z<|y0 Z<|y1 Z<|yP Z<|yA Z<|yT<|ak Z<|cu<|yS<|yA Z<|yT ?_;refine aA<|aq<|af<|aB zi ?_)
  all_goals first
   | (
     refine And.intro ?_ trivial
     rw[nQ,if_pos (by simp[f5])];rfl)
   | (exfalso;first | contradiction | omega | (simp_all;done))
 have f5:s.ny=0:=by simpa using f5
 (refine aV<|aN Z Z<|az zI<|aX<|ai<|y1 Z<|y1 Z<|y1 Z<|y1 Z<|yP Z<|yA Z<|yT<|ak Z ?_;refine aa (fun f6=>?_) (fun f6=>?_) <;> try simp only[zB] at f6)
 ·skip
  repeat' (skip;refine aa (fun w=>?_) (fun w=>?_) <;> try simp only[zB] at w)
  all_goals refine yS<|yA Z<|yT<|aA<|aq<|af<|aB zi ?_
  all_goals first
   | (
     refine And.intro ?_ trivial
     rw[nQ,if_pos (by rw[decide_eq_false (by omega:¬sub.length=0)];simp)];rfl)
   | (exfalso;first | contradiction | omega | (simp_all;done))
 have f6:sub.length=0:=by omega
 have BH:aD s sub.length=false:=by rw[nQ];simp[f1,f2,KO,f4,f5,f6]
 rw[BH,if_neg (by decide)]
 rw[if_neg (fun e=>by omega)]
 ((refine yS<|yV Z<|yP Z<|yP Z<|y0 Z<|y0 Z<|y0 Z<|y0 Z<|y0 Z<|yP Z<|yA Z<|yT<|ak Z<|bz ?_;refine yS<|yV Z<|yP Z<|yV Z<|yP Z<|yn Z<|aL zI ?_);refine⟨_,_,(fX (s.x,s.y) p.unit hp.unit),?_⟩)
 (refine br Z Z<|ae<|yP Z<|yP Z<|yg Z ?_;refine aa (fun g2=>?_) (fun g2=>?_) <;> try simp only[zB] at g2)
 ·((refine aT<|ae<|y0 Z<|y0 Z<|y0 Z<|yP Z<|yA Z<|yT<|ak Z<|cu<|yS<|yA Z<|yT<|aA ?_;refine aq<|af<|aB zi ?_);refine And.intro ?_ trivial)
  rw[if_neg (by simp[g2])];rfl
 rw[if_pos (by simpa using g2)]
 (refine aV<|aN Z Z<|az zI<|aX<|ai<|y1 Z<|y2 Z<|aN Z Z<|az zI<|aX<|sF<|y2 Z<|cx Z Z Z<|aL zI ?_;refine⟨_,_,(iH s.pts (by omega) p hp.unit),?_⟩)
 (refine br Z Z<|ae<|yP Z<|yA Z<|yT<|ak Z ?_;refine aa (fun g3=>?_) (fun g3=>?_) <;> try simp only[zB] at g3)
 ·(refine yS<|yA Z<|yT<|aA<|aq<|af<|aB zi ?_;refine And.intro ?_ trivial)
  rw[if_pos g3];rfl
 rw[if_neg (by simp[g3])]
 (refine yS<|yV Z<|yP Z<|yP Z<|yP Z<|yA Z<|yT<|ak Z ?_;refine aa (fun g4=>?_) (fun g4=>?_) <;> try simp only[zB] at g4)
 ·(refine yS<|yA Z<|yT<|aA<|aq<|af<|aB zi ?_;refine And.intro ?_ trivial)
  rw[if_pos (by omega)];rfl
 rw[if_neg (by omega)]
 (refine yS<|yV Z<|yP Z<|yP Z<|y2 Z<|aN Z Z<|az zI<|aX<|ai<|y1 Z<|y2 Z<|cx Z Z Z<|aL zI ?_;refine⟨_,_,(yf s.pts (by omega)),?_⟩)
 (refine br Z Z<|ae<|y1 Z<|yP Z<|yA Z<|yT<|ak Z ?_;refine aa (fun g5=>?_) (fun g5=>?_) <;> try simp only[zB] at g5)
 ·(refine yS<|yA Z<|yT<|aA<|aq<|af<|aB zi ?_;refine And.intro ?_ trivial)
  rw[if_pos ⟨hk,by simpa using g5⟩];rfl
 rw[if_neg (fun e=>by simp[e.2] at g5)]
 rw[if_neg (by omega)]
 ((refine ar<|aS<|ah<|an<|yS<|yV Z<|yP Z<|yP Z<|yT<|ak Z<|cu<|yS<|yA Z<|yT ?_;refine aA<|af<|aB zi ?_);refine And.intro ?_ trivial)
 rfl
theorem wD (p:fM) (s:fL) (sub:List (List PV)) (d:Int) (hp:kD p) (so:lB s) (hk:s.kind=8) (hn:sub.length<=1048576):aw C 190 [.pv (.ag (cS p)),.pv (.ag (kM s sub)),.pv (i64 d)] (.p (i64 (fO p s sub.length d))) []:=by
 refine aE hC Tryz.func190 rfl rfl 120 rfl (by decide) (by kernel_rfl) fun _ _ _ _ _=>?_
 have lm:=aJ s.pts sp
 have Io:=so.2
 have k1:er s.kind 1 8=true:=eE.2 (by omega)
 have e3:decide (s.kind=3)=false:=by simp;try omega
 have eA:cR s.kind=true:=by simp[cR];try omega
 have e7:decide (s.kind=7)=false:=by simp;try omega
 have e8:decide (s.kind=8)=true:=by simp;try omega
 have hf:=gp s.kind
 rw[show iO s.kind=[bool false,bool true,bool false,bool true] by rw[iO,e3,eA,e7,e8]] at hf
 have nQ:aD s sub.length=((!false && !decide (s.name=aF)) || (!true && !(decide (s.x=0) && decide (s.y=0))) || (!false && decide (0 < s.pts.length)) || (!true && !(decide (s.nx=0) && decide (s.ny=0) && decide (sub.length=0)))):=by rw[aD,e3,eA,e7,e8]
 rw[fO,if_pos k1]
 have hw:=dI s.kind 1 8
 rw[k1] at hw
 ((refine yS<|yn Z<|az zI<|aR<|ai<|yn Z<|az zI<|aR<|ai<|yA Z<|yT<|an<|yS<|yV Z ?_;refine yP Z<|yn Z<|aL zI ?_);refine⟨_,_,hw,?_⟩)
 (refine br Z Z<|ae<|yP Z<|yT<|ak Z<|bz<|ar<|ah<|yS<|yV Z<|yP Z<|yn Z<|aL zI ?_;refine⟨_,_,hf,?_⟩)
 ((refine br Z Z<|ae<|yn Z<|az zI<|aR<|ai<|yq Z<|az zI<|aX<|aM<|aU<|yT<|an<|aO ?_;refine an<|yS<|yV Z<|yP Z<|yP Z<|yP Z<|y2 Z<|aN Z Z<|az zI<|aX<|ai<|y1 Z<|y1 Z<|yP Z ?_;refine yA Z<|yT<|ak Z ?_);refine aa (fun f1=>?_) (fun f1=>?_) <;> try simp only[zB] at f1)
 ·have f1:¬s.name=aF:=f1
  repeat' (refine ar<|ah<|ak Z ?_;refine aa (fun w=>?_) (fun w=>?_) <;> try simp only[zB] at w)
  all_goals (first | (refine yS<|yV Z<|yP Z<|yP Z<|y0 Z<|y0 Z<|y0 Z<|y0 Z<|y0 Z<|yP Z<|yA Z<|yT<|ak Z<|bz ?_;refine yS<|yV Z<|yP Z<|yV Z<|yP Z<|yn Z<|aL zI ?_) | (refine yS<|yA Z<|yT<|aA<|aq<|af<|aB zi ?_))
  all_goals first
   | (
     refine And.intro ?_ trivial
     rw[nQ,if_pos (by simp[f1])];rfl)
   | (exfalso;first | contradiction | omega | (simp_all;done))
 have f1:s.name=aF:=by simpa [aF] using f1
 ((refine yS<|yV Z<|yP Z<|yP Z<|yP Z<|y0 Z<|y0 Z<|y0 Z<|y0 Z<|yP Z<|yA Z<|yT<|ak Z<|bz ?_;refine yS<|yV Z<|yP Z<|yP Z<|yP Z<|y2 Z<|aN Z Z<|az zI<|aX<|ai<|y1 Z<|y1 Z<|y1 Z<|yP Z ?_;refine yA Z<|yT<|ak Z ?_);refine aa (fun f3=>?_) (fun f3=>?_) <;> try simp only[zB] at f3)
 ·skip
  repeat' (refine ar<|ah<|ak Z ?_;refine aa (fun w=>?_) (fun w=>?_) <;> try simp only[zB] at w)
  all_goals (first | (refine yS<|yV Z<|yP Z<|yP Z<|y0 Z<|y0 Z<|y0 Z<|y0 Z<|y0 Z<|yP Z<|yA Z<|yT<|ak Z<|bz ?_;refine yS<|yV Z<|yP Z<|yV Z<|yP Z<|yn Z<|aL zI ?_) | (refine yS<|yA Z<|yT<|aA<|aq<|af<|aB zi ?_))
  all_goals first
   | (
     refine And.intro ?_ trivial
     rw[nQ,if_pos (by rw[decide_eq_true (by omega:0 < s.pts.length)];simp)];rfl)
   | (exfalso;first | contradiction | omega | (simp_all;done))
 have f3:s.pts.length=0:=by omega
 have BH:aD s sub.length=false:=by rw[nQ];simp[f1,f3]
 rw[BH,if_neg (by decide)]
 rw[if_neg (fun e=>by omega)]
 ((refine aP<|yV Z<|yP Z<|yP Z<|yP Z<|y0 Z<|y0 Z<|y0 Z<|y0 Z<|aj Z Z Z Z<|ae<|aj Z Z Z Z<|ae<|aj Z Z Z Z ?_;refine ae<|y0 Z<|y0 Z<|aj Z Z Z Z<|ae<|aj Z Z Z Z<|ae<|aj Z Z Z Z<|ae<|aj Z Z Z Z<|ae<|y0 Z<|yP Z<|yA Z ?_;refine yT<|ak Z<|bz<|yS<|yV Z<|yP Z<|yP Z<|y0 Z<|y0 Z<|y0 Z<|y0 Z<|y0 Z<|yP Z<|yA Z ?_;refine yT<|ak Z<|bz<|yS<|yV Z<|yP Z<|yV Z<|yP Z<|yn Z<|aL zI ?_);refine⟨_,_,(fX (s.x,s.y) p.unit hp.unit),?_⟩)
 (refine br Z Z<|ae<|yP Z<|yP Z<|yg Z ?_;refine aa (fun g2=>?_) (fun g2=>?_) <;> try simp only[zB] at g2)
 ·((refine aT<|ae<|y0 Z<|y0 Z<|y0 Z<|yP Z<|yA Z<|yT<|ak Z<|cu<|yS<|yA Z<|yT<|aA ?_;refine aq<|af<|aB zi ?_);refine And.intro ?_ trivial)
  rw[if_neg (by simp[g2])];rfl
 rw[if_pos (by simpa using g2)]
 (refine aV<|aN Z Z<|az zI<|aX<|ai<|y1 Z<|y2 Z<|aN Z Z<|az zI<|aX<|sF<|y2 Z<|cx Z Z Z<|aL zI ?_;refine⟨_,_,(iH s.pts (by omega) p hp.unit),?_⟩)
 (refine br Z Z<|ae<|yP Z<|yA Z<|yT<|ak Z ?_;refine aa (fun g3=>?_) (fun g3=>?_) <;> try simp only[zB] at g3)
 ·(refine yS<|yA Z<|yT<|aA<|aq<|af<|aB zi ?_;refine And.intro ?_ trivial)
  rw[if_pos g3];rfl
 rw[if_neg (by simp[g3])]
 (refine yS<|yV Z<|yP Z<|yP Z<|yP Z<|yA Z<|yT<|ak Z ?_;refine aa (fun g4=>?_) (fun g4=>?_) <;> try simp only[zB] at g4)
 ·(refine yS<|yA Z<|yT<|aA<|aq<|af<|aB zi ?_;refine And.intro ?_ trivial)
  rw[if_pos (by omega)];rfl
 rw[if_neg (by omega)]
 rw[if_neg (fun e=>by omega)]
 rw[if_pos hk]
 ((refine yS<|yV Z<|yP Z<|yP Z<|y0 Z<|y0 Z<|y0 Z<|y0 Z<|yP Z<|yA Z<|yT<|ak Z<|bz<|ar ?_;refine aS<|ah<|an<|yS<|yV Z<|yP Z<|yP Z<|yT<|ak Z<|bz<|ar<|ah<|an<|aO ?_;refine yS<|yV Z<|yP Z<|yn Z<|aL zI ?_);refine⟨_,_,(dI s.nx 1 100),?_⟩)
 (refine br Z Z<|ae<|yP Z<|yP Z<|yg Z ?_;refine aa (fun g6=>?_) (fun g6=>?_) <;> try simp only[zB] at g6)
 ·((refine aT<|ae<|y0 Z<|y0 Z<|y0 Z<|yP Z<|yA Z<|yT<|ak Z<|cu<|yS<|yA Z<|yT<|aA ?_;refine aq<|af<|aB zi ?_);refine And.intro ?_ trivial)
  rw[if_neg (by simp[g6])];rfl
 rw[if_pos (by simpa using g6)]
 (refine aV<|aN Z Z<|az zI<|aX<|ai<|y1 Z<|y2 Z<|cx Z Z Z<|aL zI ?_;refine⟨_,_,(dI s.ny 1 100),?_⟩)
 (refine br Z Z<|ae<|y1 Z<|yP Z<|yA Z<|yT<|ak Z ?_;refine aa (fun g7=>?_) (fun g7=>?_) <;> try simp only[zB] at g7)
 ·(refine yS<|yA Z<|yT<|aA<|aq<|af<|aB zi ?_;refine And.intro ?_ trivial)
  rw[if_neg (by simp[g7])];rfl
 rw[if_pos (by simpa using g7)]
 (refine yS<|yV Z<|yP Z<|yP Z<|yP Z<|yA Z<|yT<|ak Z ?_;refine aa (fun g8=>?_) (fun g8=>?_) <;> try simp only[zB] at g8)
 ·have g8:((sub.length:Nat):Int)=0:=g8
  (refine yS<|yA Z<|yT<|aA<|aq<|af<|aB zi ?_;refine And.intro ?_ trivial)
  rw[if_pos (by omega)];rfl
 have g8:¬((sub.length:Nat):Int)=0:=g8
 rw[if_neg (by omega)]
 (refine yS<|yP Z<|yP Z<|yA Z<|yT<|ak Z ?_;refine aa (fun g9=>?_) (fun g9=>?_) <;> try simp only[zB] at g9)
 ·(refine yS<|yA Z<|yT<|aA<|aq<|af<|aB zi ?_;refine And.intro ?_ trivial)
  rw[if_pos (by omega)];rfl
 rw[if_neg (by omega)]
 (refine ar<|aS<|ah<|yS<|yA Z<|yR zi ?_;refine And.intro ?_ trivial)
 rfl
theorem s9 (p:fM) (s:fL) (sub:List (List PV)) (d:Int) (hp:kD p) (so:lB s) (hn:sub.length<=1048576):aw C 190 [.pv (.ag (cS p)),.pv (.ag (kM s sub)),.pv (i64 d)] (.p (i64 (fO p s sub.length d))) []:=by
 by_cases hw:1<=s.kind/\s.kind<=8
 ·by_cases k3:s.kind=3
  ·exact wB p s sub d hp so k3 hn
  by_cases k7:s.kind=7
  ·exact wC p s sub d hp so k7 hn
  by_cases k8:s.kind=8
  ·exact wD p s sub d hp so k8 hn
  by_cases k2:s.kind=1\/s.kind=2
  ·exact uj p s sub d hp so k2 hn
  exact s8 p s sub d hp so (by omega) hn
 refine aE hC Tryz.func190 rfl rfl 120 rfl (by decide) (by kernel_rfl) fun _ _ _ _ _=>?_
 ((refine yS<|yn Z<|az zI<|aR<|ai<|yn Z<|az zI<|aR<|ai<|yA Z<|yT<|an<|yS<|yV Z ?_;refine yP Z<|yn Z<|aL zI ?_);refine⟨_,_,(dI s.kind 1 8),?_⟩)
 have k1:er s.kind 1 8=false:=F2.2 hw
 (refine br Z Z<|ae<|yP Z<|yT<|ak Z ?_;refine aa (fun a1=>?_) (fun a1=>?_) <;> try simp only[zB] at a1)
 ·(refine yS<|yA Z<|yT<|aA<|af<|aB zi ?_;refine And.intro ?_ trivial)
  rw[fO,if_neg (by rw[k1];decide)];rfl
 exfalso;rw[k1] at a1;simp at a1
end M
end Go.Proofs.YtiaifckpmefinaaGreatDoor
