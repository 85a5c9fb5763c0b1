/- Part 10 of 14 of the proof of HouseOrdersMatchSpec (the names are shortened by a program: the size of a claim is limited). -/
import Derived.Test.YtiaifckpmefinaaGreatDoorO09
set_option linter.unusedVariables false
set_option linter.unusedSimpArgs false
set_option maxRecDepth 100000
set_option maxHeartbeats 8000000
namespace Go.Proofs.YtiaifckpmefinaaGreatDoor
namespace M
open Go.AM Go.RowKit Go.Lib
open bq (bw cv ff)
theorem eX {a b:Bool} (h:a=b):PV.im (Value.bool a)=bool b:=by rw[h];rfl
theorem uk (name:ByteArray) (x y:Int) (pts:List (Int×Int)) (nx ny:Int) (sub:List (List PV)) (hn:sub.length<=1048576) (hp:pts.length<=1048576):aw C 208 [.pv (.ag (kM ⟨1,name,x,y,pts,nx,ny⟩ sub))] (.p (bool (!aD ⟨1,name,x,y,pts,nx,ny⟩ sub.length))) []:=by
 have lm:=aJ pts sp
 refine aE hC Tryz.func208 rfl rfl 62 rfl (by decide) (by kernel_rfl) fun _ _ _ _ _=>?_
 ((refine yS<|yn Z<|az zI<|aR<|ai<|yA Z<|yU<|yA Z<|yA Z<|yA Z<|yA Z<|yT<|an<|yS ?_;refine yV Z<|yP Z<|yT<|aO<|yS<|yP Z<|yA Z<|yT<|ak Z<|bz<|an<|yS<|yP Z<|yA Z ?_;refine yT<|ak Z<|bz<|yS<|yP Z<|yA Z<|yT<|ak Z<|bz<|aP<|yP Z<|yA Z<|yT<|ak Z ?_;refine bz<|yS<|yP Z<|yA Z<|yT<|ak Z<|bz<|yS<|yP Z<|yA Z<|yT<|ak Z<|bz<|ar ?_;refine aS<|ah<|yS<|yP Z<|yP Z<|y2 Z<|aN Z Z<|az zI<|aX<|ai<|y1 Z<|y1 Z<|yP Z<|yP Z ?_;refine yg Z ?_);refine aa (fun n1=>?_) (fun n1=>?_) <;> try simp only[zB] at n1)
 rotate_left
 ·((refine aT<|ae<|y0 Z<|aj Z Z Z Z<|ae<|aj Z Z Z Z<|ae<|aj Z Z Z Z<|ae<|aj Z Z Z Z<|ae<|y0 Z<|yP Z<|yP Z ?_;refine y0 Z<|y0 Z<|aj Z Z Z Z<|ae<|aj Z Z Z Z<|ae<|aj Z Z Z Z<|ae<|aj Z Z Z Z<|ae<|y0 Z<|yP Z<|yP Z<|y0 Z ?_;refine y0 Z<|aj Z Z Z Z<|ae<|aj Z Z Z Z<|ae<|aj Z Z Z Z<|ae<|aj Z Z Z Z<|ae<|aj Z Z Z Z<|ae<|aj Z Z Z Z<|ae<|aj Z Z Z Z ?_;refine ae<|aj Z Z Z Z<|ae<|aj Z Z Z Z<|ae<|aj Z Z Z Z<|ae<|aj Z Z Z Z<|ae<|aj Z Z Z Z<|ae<|aj Z Z Z Z<|ae<|aj Z Z Z Z ?_;refine ae<|y0 Z<|yP Z<|yA Z<|yR zi ?_);refine And.intro ?_ trivial)
  refine eX ?_
  first
   | (simp_all [aD,cR,aF];done)
   | (simp_all [aD,cR,aF];omega)
   | (simp_all [aD,cR,aF];exact List.length_pos_iff.2 (by assumption))
 ((refine aV<|aN Z Z<|az zI<|yk<|y1 Z<|y2 Z<|aN Z Z<|az zI<|aX<|ai<|y1 Z<|y1 Z<|y1 Z<|y1 Z ?_;refine yP Z<|yP Z<|yg Z ?_);refine aa (fun n2=>?_) (fun n2=>?_) <;> try simp only[zB] at n2)
 rotate_left
 ·((refine aT<|ae<|y0 Z<|aj Z Z Z Z<|ae<|aj Z Z Z Z<|ae<|aj Z Z Z Z<|ae<|aj Z Z Z Z<|ae<|y0 Z<|yP Z<|yP Z ?_;refine y0 Z<|y0 Z<|aj Z Z Z Z<|ae<|aj Z Z Z Z<|ae<|aj Z Z Z Z<|ae<|aj Z Z Z Z<|ae<|aj Z Z Z Z<|ae<|aj Z Z Z Z<|ae ?_;refine aj Z Z Z Z<|ae<|aj Z Z Z Z<|ae<|aj Z Z Z Z<|ae<|aj Z Z Z Z<|ae<|aj Z Z Z Z<|ae<|aj Z Z Z Z<|ae<|aj Z Z Z Z<|ae ?_;refine aj Z Z Z Z<|ae<|y0 Z<|yP Z<|yA Z<|yR zi ?_);refine And.intro ?_ trivial)
  refine eX ?_
  first
   | (simp_all [aD,cR,aF];done)
   | (simp_all [aD,cR,aF];omega)
   | (simp_all [aD,cR,aF];exact List.length_pos_iff.2 (by assumption))
 ((refine aV<|aN Z Z<|az zI<|yk<|y1 Z<|y2 Z<|aN Z Z<|az zI<|aX<|ai<|y1 Z<|y1 Z<|y1 Z<|y1 Z ?_;refine yP Z<|yP Z<|yg Z ?_);refine aa (fun n3=>?_) (fun n3=>?_) <;> try simp only[zB] at n3)
 rotate_left
 ·((refine aT<|ae<|y0 Z<|aj Z Z Z Z<|ae<|aj Z Z Z Z<|ae<|aj Z Z Z Z<|ae<|aj Z Z Z Z<|ae<|aj Z Z Z Z<|ae<|aj Z Z Z Z ?_;refine ae<|aj Z Z Z Z<|ae<|aj Z Z Z Z<|ae<|aj Z Z Z Z<|ae<|aj Z Z Z Z<|ae<|aj Z Z Z Z<|ae<|aj Z Z Z Z<|ae<|aj Z Z Z Z ?_;refine ae<|aj Z Z Z Z<|ae<|y0 Z<|yP Z<|yA Z<|yR zi ?_);refine And.intro ?_ trivial)
  refine eX ?_
  first
   | (simp_all [aD,cR,aF];done)
   | (simp_all [aD,cR,aF];omega)
   | (simp_all [aD,cR,aF];exact List.length_pos_iff.2 (by assumption))
 (refine aV<|aN Z Z<|az zI<|yk<|y1 Z<|y2 Z<|aN Z Z<|az zI<|aX<|ai<|y1 Z<|y1 Z<|y1 Z<|yg Z ?_;refine aa (fun n4=>?_) (fun n4=>?_) <;> try simp only[zB] at n4)
 rotate_left
 ·((refine aT<|ae<|y0 Z<|y0 Z<|y1 Z<|y1 Z<|y0 Z<|y0 Z<|y0 Z<|y0 Z<|y1 Z<|y1 Z<|yP Z<|yA Z ?_;refine yR zi ?_);refine And.intro ?_ trivial)
  refine eX ?_
  first
   | (simp_all [aD,cR,aF];done)
   | (simp_all [aD,cR,aF];omega)
   | (simp_all [aD,cR,aF];exact List.length_pos_iff.2 (by assumption))
 (refine aV<|aN Z Z<|az zI<|aX<|ai<|y1 Z<|y1 Z<|y1 Z<|y1 Z<|yg Z ?_;refine aa (fun n5=>?_) (fun n5=>?_) <;> try simp only[zB] at n5)
 rotate_left
 ·(refine aT<|ae<|y0 Z<|y0 Z<|y0 Z<|y1 Z<|y1 Z<|yP Z<|yA Z<|yR zi ?_;refine And.intro ?_ trivial)
  refine eX ?_
  first
   | (simp_all [aD,cR,aF];done)
   | (simp_all [aD,cR,aF];omega)
   | (simp_all [aD,cR,aF];exact List.length_pos_iff.2 (by assumption))
 (refine aV<|aN Z Z<|az zI<|aX<|ai<|y1 Z<|y1 Z<|y1 Z<|y1 Z<|y1 Z<|yP Z<|yA Z<|yR zi ?_;refine And.intro ?_ trivial)
 refine eX ?_
 first
  | (simp_all [aD,cR,aF];done)
  | (simp_all [aD,cR,aF];omega)
  | (simp_all [aD,cR,aF];exact List.length_pos_iff.2 (by assumption))
theorem um (name:ByteArray) (x y:Int) (pts:List (Int×Int)) (nx ny:Int) (sub:List (List PV)) (hn:sub.length<=1048576) (hp:pts.length<=1048576):aw C 208 [.pv (.ag (kM ⟨2,name,x,y,pts,nx,ny⟩ sub))] (.p (bool (!aD ⟨2,name,x,y,pts,nx,ny⟩ sub.length))) []:=by
 have lm:=aJ pts sp
 refine aE hC Tryz.func208 rfl rfl 62 rfl (by decide) (by kernel_rfl) fun _ _ _ _ _=>?_
 ((refine yS<|yn Z<|az zI<|aR<|ai<|yA Z<|yU<|yA Z<|yA Z<|yA Z<|yA Z<|yT<|an<|yS ?_;refine yV Z<|yP Z<|yT<|aO<|yS<|yP Z<|yA Z<|yT<|ak Z<|bz<|an<|yS<|yP Z<|yA Z ?_;refine yT<|ak Z<|bz<|yS<|yP Z<|yA Z<|yT<|ak Z<|bz<|aP<|yP Z<|yA Z<|yT<|ak Z ?_;refine bz<|yS<|yP Z<|yA Z<|yT<|ak Z<|bz<|yS<|yP Z<|yA Z<|yT<|ak Z<|bz<|ar ?_;refine aS<|ah<|yS<|yP Z<|yP Z<|y2 Z<|aN Z Z<|az zI<|aX<|ai<|y1 Z<|y1 Z<|yP Z<|yP Z ?_;refine yg Z ?_);refine aa (fun n1=>?_) (fun n1=>?_) <;> try simp only[zB] at n1)
 rotate_left
 ·((refine aT<|ae<|y0 Z<|aj Z Z Z Z<|ae<|aj Z Z Z Z<|ae<|aj Z Z Z Z<|ae<|aj Z Z Z Z<|ae<|y0 Z<|yP Z<|yP Z ?_;refine y0 Z<|y0 Z<|aj Z Z Z Z<|ae<|aj Z Z Z Z<|ae<|aj Z Z Z Z<|ae<|aj Z Z Z Z<|ae<|y0 Z<|yP Z<|yP Z<|y0 Z ?_;refine y0 Z<|aj Z Z Z Z<|ae<|aj Z Z Z Z<|ae<|aj Z Z Z Z<|ae<|aj Z Z Z Z<|ae<|aj Z Z Z Z<|ae<|aj Z Z Z Z<|ae<|aj Z Z Z Z ?_;refine ae<|aj Z Z Z Z<|ae<|aj Z Z Z Z<|ae<|aj Z Z Z Z<|ae<|aj Z Z Z Z<|ae<|aj Z Z Z Z<|ae<|aj Z Z Z Z<|ae<|aj Z Z Z Z ?_;refine ae<|y0 Z<|yP Z<|yA Z<|yR zi ?_);refine And.intro ?_ trivial)
  refine eX ?_
  first
   | (simp_all [aD,cR,aF];done)
   | (simp_all [aD,cR,aF];omega)
   | (simp_all [aD,cR,aF];exact List.length_pos_iff.2 (by assumption))
 ((refine aV<|aN Z Z<|az zI<|yk<|y1 Z<|y2 Z<|aN Z Z<|az zI<|aX<|ai<|y1 Z<|y1 Z<|y1 Z<|y1 Z ?_;refine yP Z<|yP Z<|yg Z ?_);refine aa (fun n2=>?_) (fun n2=>?_) <;> try simp only[zB] at n2)
 rotate_left
 ·((refine aT<|ae<|y0 Z<|aj Z Z Z Z<|ae<|aj Z Z Z Z<|ae<|aj Z Z Z Z<|ae<|aj Z Z Z Z<|ae<|y0 Z<|yP Z<|yP Z ?_;refine y0 Z<|y0 Z<|aj Z Z Z Z<|ae<|aj Z Z Z Z<|ae<|aj Z Z Z Z<|ae<|aj Z Z Z Z<|ae<|aj Z Z Z Z<|ae<|aj Z Z Z Z<|ae ?_;refine aj Z Z Z Z<|ae<|aj Z Z Z Z<|ae<|aj Z Z Z Z<|ae<|aj Z Z Z Z<|ae<|aj Z Z Z Z<|ae<|aj Z Z Z Z<|ae<|aj Z Z Z Z<|ae ?_;refine aj Z Z Z Z<|ae<|y0 Z<|yP Z<|yA Z<|yR zi ?_);refine And.intro ?_ trivial)
  refine eX ?_
  first
   | (simp_all [aD,cR,aF];done)
   | (simp_all [aD,cR,aF];omega)
   | (simp_all [aD,cR,aF];exact List.length_pos_iff.2 (by assumption))
 ((refine aV<|aN Z Z<|az zI<|yk<|y1 Z<|y2 Z<|aN Z Z<|az zI<|aX<|ai<|y1 Z<|y1 Z<|y1 Z<|y1 Z ?_;refine yP Z<|yP Z<|yg Z ?_);refine aa (fun n3=>?_) (fun n3=>?_) <;> try simp only[zB] at n3)
 rotate_left
 ·((refine aT<|ae<|y0 Z<|aj Z Z Z Z<|ae<|aj Z Z Z Z<|ae<|aj Z Z Z Z<|ae<|aj Z Z Z Z<|ae<|aj Z Z Z Z<|ae<|aj Z Z Z Z ?_;refine ae<|aj Z Z Z Z<|ae<|aj Z Z Z Z<|ae<|aj Z Z Z Z<|ae<|aj Z Z Z Z<|ae<|aj Z Z Z Z<|ae<|aj Z Z Z Z<|ae<|aj Z Z Z Z ?_;refine ae<|aj Z Z Z Z<|ae<|y0 Z<|yP Z<|yA Z<|yR zi ?_);refine And.intro ?_ trivial)
  refine eX ?_
  first
   | (simp_all [aD,cR,aF];done)
   | (simp_all [aD,cR,aF];omega)
   | (simp_all [aD,cR,aF];exact List.length_pos_iff.2 (by assumption))
 (refine aV<|aN Z Z<|az zI<|yk<|y1 Z<|y2 Z<|aN Z Z<|az zI<|aX<|ai<|y1 Z<|y1 Z<|y1 Z<|yg Z ?_;refine aa (fun n4=>?_) (fun n4=>?_) <;> try simp only[zB] at n4)
 rotate_left
 ·((refine aT<|ae<|y0 Z<|y0 Z<|y1 Z<|y1 Z<|y0 Z<|y0 Z<|y0 Z<|y0 Z<|y1 Z<|y1 Z<|yP Z<|yA Z ?_;refine yR zi ?_);refine And.intro ?_ trivial)
  refine eX ?_
  first
   | (simp_all [aD,cR,aF];done)
   | (simp_all [aD,cR,aF];omega)
   | (simp_all [aD,cR,aF];exact List.length_pos_iff.2 (by assumption))
 (refine aV<|aN Z Z<|az zI<|aX<|ai<|y1 Z<|y1 Z<|y1 Z<|y1 Z<|yg Z ?_;refine aa (fun n5=>?_) (fun n5=>?_) <;> try simp only[zB] at n5)
 rotate_left
 ·(refine aT<|ae<|y0 Z<|y0 Z<|y0 Z<|y1 Z<|y1 Z<|yP Z<|yA Z<|yR zi ?_;refine And.intro ?_ trivial)
  refine eX ?_
  first
   | (simp_all [aD,cR,aF];done)
   | (simp_all [aD,cR,aF];omega)
   | (simp_all [aD,cR,aF];exact List.length_pos_iff.2 (by assumption))
 (refine aV<|aN Z Z<|az zI<|aX<|ai<|y1 Z<|y1 Z<|y1 Z<|y1 Z<|y1 Z<|yP Z<|yA Z<|yR zi ?_;refine And.intro ?_ trivial)
 refine eX ?_
 first
  | (simp_all [aD,cR,aF];done)
  | (simp_all [aD,cR,aF];omega)
  | (simp_all [aD,cR,aF];exact List.length_pos_iff.2 (by assumption))
theorem uo (name:ByteArray) (x y:Int) (pts:List (Int×Int)) (nx ny:Int) (sub:List (List PV)) (hn:sub.length<=1048576) (hp:pts.length<=1048576):aw C 208 [.pv (.ag (kM ⟨3,name,x,y,pts,nx,ny⟩ sub))] (.p (bool (!aD ⟨3,name,x,y,pts,nx,ny⟩ sub.length))) []:=by
 have lm:=aJ pts sp
 refine aE hC Tryz.func208 rfl rfl 62 rfl (by decide) (by kernel_rfl) fun _ _ _ _ _=>?_
 ((refine yS<|yn Z<|az zI<|aR<|ai<|yA Z<|yU<|yA Z<|yA Z<|yA Z<|yA Z<|yT<|an<|yS ?_;refine yV Z<|yP Z<|yT<|aO<|yS<|yP Z<|yA Z<|yT<|ak Z<|cu<|aP<|yA Z<|dB<|aS ?_;refine ah<|yS<|yP Z<|yP Z<|y0 Z<|y0 Z<|y0 Z<|yP Z<|yP Z<|y1 Z<|y1 Z<|y2 Z<|aN Z Z<|az zI ?_;refine aX<|ai<|y1 Z<|y1 Z<|y1 Z<|y1 Z<|yP Z<|yP Z<|yg Z ?_);refine aa (fun n2=>?_) (fun n2=>?_) <;> try simp only[zB] at n2)
 rotate_left
 ·((refine aT<|ae<|y0 Z<|aj Z Z Z Z<|ae<|aj Z Z Z Z<|ae<|aj Z Z Z Z<|ae<|aj Z Z Z Z<|ae<|y0 Z<|yP Z<|yP Z ?_;refine y0 Z<|y0 Z<|aj Z Z Z Z<|ae<|aj Z Z Z Z<|ae<|aj Z Z Z Z<|ae<|aj Z Z Z Z<|ae<|aj Z Z Z Z<|ae<|aj Z Z Z Z<|ae ?_;refine aj Z Z Z Z<|ae<|aj Z Z Z Z<|ae<|aj Z Z Z Z<|ae<|aj Z Z Z Z<|ae<|aj Z Z Z Z<|ae<|aj Z Z Z Z<|ae<|aj Z Z Z Z<|ae ?_;refine aj Z Z Z Z<|ae<|y0 Z<|yP Z<|yA Z<|yR zi ?_);refine And.intro ?_ trivial)
  refine eX ?_
  first
   | (simp_all [aD,cR,aF];done)
   | (simp_all [aD,cR,aF];omega)
   | (simp_all [aD,cR,aF];exact List.length_pos_iff.2 (by assumption))
 ((refine aV<|aN Z Z<|az zI<|yk<|y1 Z<|y2 Z<|aN Z Z<|az zI<|aX<|ai<|y1 Z<|y1 Z<|y1 Z<|y1 Z ?_;refine yP Z<|yP Z<|yg Z ?_);refine aa (fun n3=>?_) (fun n3=>?_) <;> try simp only[zB] at n3)
 rotate_left
 ·((refine aT<|ae<|y0 Z<|aj Z Z Z Z<|ae<|aj Z Z Z Z<|ae<|aj Z Z Z Z<|ae<|aj Z Z Z Z<|ae<|aj Z Z Z Z<|ae<|aj Z Z Z Z ?_;refine ae<|aj Z Z Z Z<|ae<|aj Z Z Z Z<|ae<|aj Z Z Z Z<|ae<|aj Z Z Z Z<|ae<|aj Z Z Z Z<|ae<|aj Z Z Z Z<|ae<|aj Z Z Z Z ?_;refine ae<|aj Z Z Z Z<|ae<|y0 Z<|yP Z<|yA Z<|yR zi ?_);refine And.intro ?_ trivial)
  refine eX ?_
  first
   | (simp_all [aD,cR,aF];done)
   | (simp_all [aD,cR,aF];omega)
   | (simp_all [aD,cR,aF];exact List.length_pos_iff.2 (by assumption))
 (refine aV<|aN Z Z<|az zI<|yk<|y1 Z<|y2 Z<|aN Z Z<|az zI<|aX<|ai<|y1 Z<|y1 Z<|y1 Z<|yg Z ?_;refine aa (fun n4=>?_) (fun n4=>?_) <;> try simp only[zB] at n4)
 rotate_left
 ·((refine aT<|ae<|y0 Z<|y0 Z<|y1 Z<|y1 Z<|y0 Z<|y0 Z<|y0 Z<|y0 Z<|y1 Z<|y1 Z<|yP Z<|yA Z ?_;refine yR zi ?_);refine And.intro ?_ trivial)
  refine eX ?_
  first
   | (simp_all [aD,cR,aF];done)
   | (simp_all [aD,cR,aF];omega)
   | (simp_all [aD,cR,aF];exact List.length_pos_iff.2 (by assumption))
 (refine aV<|aN Z Z<|az zI<|aX<|ai<|y1 Z<|y1 Z<|y1 Z<|y1 Z<|yg Z ?_;refine aa (fun n5=>?_) (fun n5=>?_) <;> try simp only[zB] at n5)
 rotate_left
 ·(refine aT<|ae<|y0 Z<|y0 Z<|y0 Z<|y1 Z<|y1 Z<|yP Z<|yA Z<|yR zi ?_;refine And.intro ?_ trivial)
  refine eX ?_
  first
   | (simp_all [aD,cR,aF];done)
   | (simp_all [aD,cR,aF];omega)
   | (simp_all [aD,cR,aF];exact List.length_pos_iff.2 (by assumption))
 (refine aV<|aN Z Z<|az zI<|aX<|ai<|y1 Z<|y1 Z<|y1 Z<|y1 Z<|y1 Z<|yP Z<|yA Z<|yR zi ?_;refine And.intro ?_ trivial)
 refine eX ?_
 first
  | (simp_all [aD,cR,aF];done)
  | (simp_all [aD,cR,aF];omega)
  | (simp_all [aD,cR,aF];exact List.length_pos_iff.2 (by assumption))
theorem uq (name:ByteArray) (x y:Int) (pts:List (Int×Int)) (nx ny:Int) (sub:List (List PV)) (hn:sub.length<=1048576) (hp:pts.length<=1048576):aw C 208 [.pv (.ag (kM ⟨4,name,x,y,pts,nx,ny⟩ sub))] (.p (bool (!aD ⟨4,name,x,y,pts,nx,ny⟩ sub.length))) []:=by
 have lm:=aJ pts sp
 refine aE hC Tryz.func208 rfl rfl 62 rfl (by decide) (by kernel_rfl) fun _ _ _ _ _=>?_
 ((refine yS<|yn Z<|az zI<|aR<|ai<|yA Z<|yU<|yA Z<|yA Z<|yA Z<|yA Z<|yT<|an<|yS ?_;refine yV Z<|yP Z<|yT<|aO<|yS<|yP Z<|yA Z<|yT<|ak Z<|bz<|an<|yS<|yP Z<|yA Z ?_;refine yT<|ak Z<|cu<|ar<|ah<|ak Z<|cu<|aP<|yA Z<|dB<|aS<|ah<|yS<|yP Z ?_;refine yP Z<|y2 Z<|aN Z Z<|az zI<|aX<|ai<|y1 Z<|y1 Z<|yP Z<|yP Z<|yg Z ?_);refine aa (fun n1=>?_) (fun n1=>?_) <;> try simp only[zB] at n1)
 rotate_left
 ·((refine aT<|ae<|y0 Z<|aj Z Z Z Z<|ae<|aj Z Z Z Z<|ae<|aj Z Z Z Z<|ae<|aj Z Z Z Z<|ae<|y0 Z<|yP Z<|yP Z ?_;refine y0 Z<|y0 Z<|aj Z Z Z Z<|ae<|aj Z Z Z Z<|ae<|aj Z Z Z Z<|ae<|aj Z Z Z Z<|ae<|y0 Z<|yP Z<|yP Z<|y0 Z ?_;refine y0 Z<|aj Z Z Z Z<|ae<|aj Z Z Z Z<|ae<|aj Z Z Z Z<|ae<|aj Z Z Z Z<|ae<|aj Z Z Z Z<|ae<|aj Z Z Z Z<|ae<|aj Z Z Z Z ?_;refine ae<|aj Z Z Z Z<|ae<|aj Z Z Z Z<|ae<|aj Z Z Z Z<|ae<|aj Z Z Z Z<|ae<|aj Z Z Z Z<|ae<|aj Z Z Z Z<|ae<|aj Z Z Z Z ?_;refine ae<|y0 Z<|yP Z<|yA Z<|yR zi ?_);refine And.intro ?_ trivial)
  refine eX ?_
  first
   | (simp_all [aD,cR,aF];done)
   | (simp_all [aD,cR,aF];omega)
   | (simp_all [aD,cR,aF];exact List.length_pos_iff.2 (by assumption))
 ((refine aV<|aN Z Z<|az zI<|yk<|y1 Z<|y0 Z<|y0 Z<|y0 Z<|y0 Z<|y1 Z<|yP Z<|yP Z<|y1 Z<|y1 Z ?_;refine y2 Z<|aN Z Z<|az zI<|aX<|ai<|y1 Z<|y1 Z<|y1 Z<|y1 Z<|yP Z<|yP Z<|yg Z ?_);refine aa (fun n3=>?_) (fun n3=>?_) <;> try simp only[zB] at n3)
 rotate_left
 ·((refine aT<|ae<|y0 Z<|aj Z Z Z Z<|ae<|aj Z Z Z Z<|ae<|aj Z Z Z Z<|ae<|aj Z Z Z Z<|ae<|aj Z Z Z Z<|ae<|aj Z Z Z Z ?_;refine ae<|aj Z Z Z Z<|ae<|aj Z Z Z Z<|ae<|aj Z Z Z Z<|ae<|aj Z Z Z Z<|ae<|aj Z Z Z Z<|ae<|aj Z Z Z Z<|ae<|aj Z Z Z Z ?_;refine ae<|aj Z Z Z Z<|ae<|y0 Z<|yP Z<|yA Z<|yR zi ?_);refine And.intro ?_ trivial)
  refine eX ?_
  first
   | (simp_all [aD,cR,aF];done)
   | (simp_all [aD,cR,aF];omega)
   | (simp_all [aD,cR,aF];exact List.length_pos_iff.2 (by assumption))
 (refine aV<|aN Z Z<|az zI<|yk<|y1 Z<|y2 Z<|aN Z Z<|az zI<|aX<|ai<|y1 Z<|y1 Z<|y1 Z<|yg Z ?_;refine aa (fun n4=>?_) (fun n4=>?_) <;> try simp only[zB] at n4)
 rotate_left
 ·((refine aT<|ae<|y0 Z<|y0 Z<|y1 Z<|y1 Z<|y0 Z<|y0 Z<|y0 Z<|y0 Z<|y1 Z<|y1 Z<|yP Z<|yA Z ?_;refine yR zi ?_);refine And.intro ?_ trivial)
  refine eX ?_
  first
   | (simp_all [aD,cR,aF];done)
   | (simp_all [aD,cR,aF];omega)
   | (simp_all [aD,cR,aF];exact List.length_pos_iff.2 (by assumption))
 (refine aV<|aN Z Z<|az zI<|aX<|ai<|y1 Z<|y1 Z<|y1 Z<|y1 Z<|yg Z ?_;refine aa (fun n5=>?_) (fun n5=>?_) <;> try simp only[zB] at n5)
 rotate_left
 ·(refine aT<|ae<|y0 Z<|y0 Z<|y0 Z<|y1 Z<|y1 Z<|yP Z<|yA Z<|yR zi ?_;refine And.intro ?_ trivial)
  refine eX ?_
  first
   | (simp_all [aD,cR,aF];done)
   | (simp_all [aD,cR,aF];omega)
   | (simp_all [aD,cR,aF];exact List.length_pos_iff.2 (by assumption))
 (refine aV<|aN Z Z<|az zI<|aX<|ai<|y1 Z<|y1 Z<|y1 Z<|y1 Z<|y1 Z<|yP Z<|yA Z<|yR zi ?_;refine And.intro ?_ trivial)
 refine eX ?_
 first
  | (simp_all [aD,cR,aF];done)
  | (simp_all [aD,cR,aF];omega)
  | (simp_all [aD,cR,aF];exact List.length_pos_iff.2 (by assumption))
theorem ur (name:ByteArray) (x y:Int) (pts:List (Int×Int)) (nx ny:Int) (sub:List (List PV)) (hn:sub.length<=1048576) (hp:pts.length<=1048576):aw C 208 [.pv (.ag (kM ⟨5,name,x,y,pts,nx,ny⟩ sub))] (.p (bool (!aD ⟨5,name,x,y,pts,nx,ny⟩ sub.length))) []:=by
 have lm:=aJ pts sp
 refine aE hC Tryz.func208 rfl rfl 62 rfl (by decide) (by kernel_rfl) fun _ _ _ _ _=>?_
 ((refine yS<|yn Z<|az zI<|aR<|ai<|yA Z<|yU<|yA Z<|yA Z<|yA Z<|yA Z<|yT<|an<|yS ?_;refine yV Z<|yP Z<|yT<|aO<|yS<|yP Z<|yA Z<|yT<|ak Z<|bz<|an<|yS<|yP Z<|yA Z ?_;refine yT<|ak Z<|bz<|yS<|yP Z<|yA Z<|yT<|ak Z<|cu<|ar<|ah<|ak Z<|cu<|aP ?_;refine yA Z<|dB<|aS<|ah<|yS<|yP Z<|yP Z<|y2 Z<|aN Z Z<|az zI<|aX<|ai<|y1 Z<|y1 Z ?_;refine yP Z<|yP Z<|yg Z ?_);refine aa (fun n1=>?_) (fun n1=>?_) <;> try simp only[zB] at n1)
 rotate_left
 ·((refine aT<|ae<|y0 Z<|aj Z Z Z Z<|ae<|aj Z Z Z Z<|ae<|aj Z Z Z Z<|ae<|aj Z Z Z Z<|ae<|y0 Z<|yP Z<|yP Z ?_;refine y0 Z<|y0 Z<|aj Z Z Z Z<|ae<|aj Z Z Z Z<|ae<|aj Z Z Z Z<|ae<|aj Z Z Z Z<|ae<|y0 Z<|yP Z<|yP Z<|y0 Z ?_;refine y0 Z<|aj Z Z Z Z<|ae<|aj Z Z Z Z<|ae<|aj Z Z Z Z<|ae<|aj Z Z Z Z<|ae<|aj Z Z Z Z<|ae<|aj Z Z Z Z<|ae<|aj Z Z Z Z ?_;refine ae<|aj Z Z Z Z<|ae<|aj Z Z Z Z<|ae<|aj Z Z Z Z<|ae<|aj Z Z Z Z<|ae<|aj Z Z Z Z<|ae<|aj Z Z Z Z<|ae<|aj Z Z Z Z ?_;refine ae<|y0 Z<|yP Z<|yA Z<|yR zi ?_);refine And.intro ?_ trivial)
  refine eX ?_
  first
   | (simp_all [aD,cR,aF];done)
   | (simp_all [aD,cR,aF];omega)
   | (simp_all [aD,cR,aF];exact List.length_pos_iff.2 (by assumption))
 ((refine aV<|aN Z Z<|az zI<|yk<|y1 Z<|y0 Z<|y0 Z<|y0 Z<|y0 Z<|y1 Z<|yP Z<|yP Z<|y1 Z<|y1 Z ?_;refine y2 Z<|aN Z Z<|az zI<|aX<|ai<|y1 Z<|y1 Z<|y1 Z<|y1 Z<|yP Z<|yP Z<|yg Z ?_);refine aa (fun n3=>?_) (fun n3=>?_) <;> try simp only[zB] at n3)
 rotate_left
 ·((refine aT<|ae<|y0 Z<|aj Z Z Z Z<|ae<|aj Z Z Z Z<|ae<|aj Z Z Z Z<|ae<|aj Z Z Z Z<|ae<|aj Z Z Z Z<|ae<|aj Z Z Z Z ?_;refine ae<|aj Z Z Z Z<|ae<|aj Z Z Z Z<|ae<|aj Z Z Z Z<|ae<|aj Z Z Z Z<|ae<|aj Z Z Z Z<|ae<|aj Z Z Z Z<|ae<|aj Z Z Z Z ?_;refine ae<|aj Z Z Z Z<|ae<|y0 Z<|yP Z<|yA Z<|yR zi ?_);refine And.intro ?_ trivial)
  refine eX ?_
  first
   | (simp_all [aD,cR,aF];done)
   | (simp_all [aD,cR,aF];omega)
   | (simp_all [aD,cR,aF];exact List.length_pos_iff.2 (by assumption))
 (refine aV<|aN Z Z<|az zI<|yk<|y1 Z<|y2 Z<|aN Z Z<|az zI<|aX<|ai<|y1 Z<|y1 Z<|y1 Z<|yg Z ?_;refine aa (fun n4=>?_) (fun n4=>?_) <;> try simp only[zB] at n4)
 rotate_left
 ·((refine aT<|ae<|y0 Z<|y0 Z<|y1 Z<|y1 Z<|y0 Z<|y0 Z<|y0 Z<|y0 Z<|y1 Z<|y1 Z<|yP Z<|yA Z ?_;refine yR zi ?_);refine And.intro ?_ trivial)
  refine eX ?_
  first
   | (simp_all [aD,cR,aF];done)
   | (simp_all [aD,cR,aF];omega)
   | (simp_all [aD,cR,aF];exact List.length_pos_iff.2 (by assumption))
 (refine aV<|aN Z Z<|az zI<|aX<|ai<|y1 Z<|y1 Z<|y1 Z<|y1 Z<|yg Z ?_;refine aa (fun n5=>?_) (fun n5=>?_) <;> try simp only[zB] at n5)
 rotate_left
 ·(refine aT<|ae<|y0 Z<|y0 Z<|y0 Z<|y1 Z<|y1 Z<|yP Z<|yA Z<|yR zi ?_;refine And.intro ?_ trivial)
  refine eX ?_
  first
   | (simp_all [aD,cR,aF];done)
   | (simp_all [aD,cR,aF];omega)
   | (simp_all [aD,cR,aF];exact List.length_pos_iff.2 (by assumption))
 (refine aV<|aN Z Z<|az zI<|aX<|ai<|y1 Z<|y1 Z<|y1 Z<|y1 Z<|y1 Z<|yP Z<|yA Z<|yR zi ?_;refine And.intro ?_ trivial)
 refine eX ?_
 first
  | (simp_all [aD,cR,aF];done)
  | (simp_all [aD,cR,aF];omega)
  | (simp_all [aD,cR,aF];exact List.length_pos_iff.2 (by assumption))
theorem uu (name:ByteArray) (x y:Int) (pts:List (Int×Int)) (nx ny:Int) (sub:List (List PV)) (hn:sub.length<=1048576) (hp:pts.length<=1048576):aw C 208 [.pv (.ag (kM ⟨6,name,x,y,pts,nx,ny⟩ sub))] (.p (bool (!aD ⟨6,name,x,y,pts,nx,ny⟩ sub.length))) []:=by
 have lm:=aJ pts sp
 refine aE hC Tryz.func208 rfl rfl 62 rfl (by decide) (by kernel_rfl) fun _ _ _ _ _=>?_
 ((refine yS<|yn Z<|az zI<|aR<|ai<|yA Z<|yU<|yA Z<|yA Z<|yA Z<|yA Z<|yT<|an<|yS ?_;refine yV Z<|yP Z<|yT<|aO<|yS<|yP Z<|yA Z<|yT<|ak Z<|bz<|an<|yS<|yP Z<|yA Z ?_;refine yT<|ak Z<|bz<|yS<|yP Z<|yA Z<|yT<|ak Z<|bz<|aP<|yP Z<|yA Z<|yT<|ak Z ?_;refine cu<|aP<|yA Z<|dB<|aS<|ah<|yS<|yP Z<|yP Z<|y2 Z<|aN Z Z<|az zI<|aX<|ai ?_;refine y1 Z<|y1 Z<|yP Z<|yP Z<|yg Z ?_);refine aa (fun n1=>?_) (fun n1=>?_) <;> try simp only[zB] at n1)
 rotate_left
 ·((refine aT<|ae<|y0 Z<|aj Z Z Z Z<|ae<|aj Z Z Z Z<|ae<|aj Z Z Z Z<|ae<|aj Z Z Z Z<|ae<|y0 Z<|yP Z<|yP Z ?_;refine y0 Z<|y0 Z<|aj Z Z Z Z<|ae<|aj Z Z Z Z<|ae<|aj Z Z Z Z<|ae<|aj Z Z Z Z<|ae<|y0 Z<|yP Z<|yP Z<|y0 Z ?_;refine y0 Z<|aj Z Z Z Z<|ae<|aj Z Z Z Z<|ae<|aj Z Z Z Z<|ae<|aj Z Z Z Z<|ae<|aj Z Z Z Z<|ae<|aj Z Z Z Z<|ae<|aj Z Z Z Z ?_;refine ae<|aj Z Z Z Z<|ae<|aj Z Z Z Z<|ae<|aj Z Z Z Z<|ae<|aj Z Z Z Z<|ae<|aj Z Z Z Z<|ae<|aj Z Z Z Z<|ae<|aj Z Z Z Z ?_;refine ae<|y0 Z<|yP Z<|yA Z<|yR zi ?_);refine And.intro ?_ trivial)
  refine eX ?_
  first
   | (simp_all [aD,cR,aF];done)
   | (simp_all [aD,cR,aF];omega)
   | (simp_all [aD,cR,aF];exact List.length_pos_iff.2 (by assumption))
 ((refine aV<|aN Z Z<|az zI<|yk<|y1 Z<|y0 Z<|y0 Z<|y0 Z<|y0 Z<|y1 Z<|yP Z<|yP Z<|y1 Z<|y1 Z ?_;refine y2 Z<|aN Z Z<|az zI<|aX<|ai<|y1 Z<|y1 Z<|y1 Z<|y1 Z<|yP Z<|yP Z<|yg Z ?_);refine aa (fun n3=>?_) (fun n3=>?_) <;> try simp only[zB] at n3)
 rotate_left
 ·((refine aT<|ae<|y0 Z<|aj Z Z Z Z<|ae<|aj Z Z Z Z<|ae<|aj Z Z Z Z<|ae<|aj Z Z Z Z<|ae<|aj Z Z Z Z<|ae<|aj Z Z Z Z ?_;refine ae<|aj Z Z Z Z<|ae<|aj Z Z Z Z<|ae<|aj Z Z Z Z<|ae<|aj Z Z Z Z<|ae<|aj Z Z Z Z<|ae<|aj Z Z Z Z<|ae<|aj Z Z Z Z ?_;refine ae<|aj Z Z Z Z<|ae<|y0 Z<|yP Z<|yA Z<|yR zi ?_);refine And.intro ?_ trivial)
  refine eX ?_
  first
   | (simp_all [aD,cR,aF];done)
   | (simp_all [aD,cR,aF];omega)
   | (simp_all [aD,cR,aF];exact List.length_pos_iff.2 (by assumption))
 (refine aV<|aN Z Z<|az zI<|yk<|y1 Z<|y2 Z<|aN Z Z<|az zI<|aX<|ai<|y1 Z<|y1 Z<|y1 Z<|yg Z ?_;refine aa (fun n4=>?_) (fun n4=>?_) <;> try simp only[zB] at n4)
 rotate_left
 ·((refine aT<|ae<|y0 Z<|y0 Z<|y1 Z<|y1 Z<|y0 Z<|y0 Z<|y0 Z<|y0 Z<|y1 Z<|y1 Z<|yP Z<|yA Z ?_;refine yR zi ?_);refine And.intro ?_ trivial)
  refine eX ?_
  first
   | (simp_all [aD,cR,aF];done)
   | (simp_all [aD,cR,aF];omega)
   | (simp_all [aD,cR,aF];exact List.length_pos_iff.2 (by assumption))
 (refine aV<|aN Z Z<|az zI<|aX<|ai<|y1 Z<|y1 Z<|y1 Z<|y1 Z<|yg Z ?_;refine aa (fun n5=>?_) (fun n5=>?_) <;> try simp only[zB] at n5)
 rotate_left
 ·(refine aT<|ae<|y0 Z<|y0 Z<|y0 Z<|y1 Z<|y1 Z<|yP Z<|yA Z<|yR zi ?_;refine And.intro ?_ trivial)
  refine eX ?_
  first
   | (simp_all [aD,cR,aF];done)
   | (simp_all [aD,cR,aF];omega)
   | (simp_all [aD,cR,aF];exact List.length_pos_iff.2 (by assumption))
 (refine aV<|aN Z Z<|az zI<|aX<|ai<|y1 Z<|y1 Z<|y1 Z<|y1 Z<|y1 Z<|yP Z<|yA Z<|yR zi ?_;refine And.intro ?_ trivial)
 refine eX ?_
 first
  | (simp_all [aD,cR,aF];done)
  | (simp_all [aD,cR,aF];omega)
  | (simp_all [aD,cR,aF];exact List.length_pos_iff.2 (by assumption))
theorem uv (name:ByteArray) (x y:Int) (pts:List (Int×Int)) (nx ny:Int) (sub:List (List PV)) (hn:sub.length<=1048576) (hp:pts.length<=1048576):aw C 208 [.pv (.ag (kM ⟨7,name,x,y,pts,nx,ny⟩ sub))] (.p (bool (!aD ⟨7,name,x,y,pts,nx,ny⟩ sub.length))) []:=by
 have lm:=aJ pts sp
 refine aE hC Tryz.func208 rfl rfl 62 rfl (by decide) (by kernel_rfl) fun _ _ _ _ _=>?_
 ((refine yS<|yn Z<|az zI<|aR<|ai<|yA Z<|yU<|yA Z<|yA Z<|yA Z<|yA Z<|yT<|an<|yS ?_;refine yV Z<|yP Z<|yT<|aO<|yS<|yP Z<|yA Z<|yT<|ak Z<|bz<|an<|yS<|yP Z<|yA Z ?_;refine yT<|ak Z<|bz<|yS<|yP Z<|yA Z<|yT<|ak Z<|bz<|aP<|yP Z<|yA Z<|yT<|ak Z ?_;refine bz<|yS<|yP Z<|yA Z<|yT<|ak Z<|cu<|aP<|yA Z<|dB<|aS<|ah<|yS<|yP Z ?_;refine yP Z<|y2 Z<|aN Z Z<|az zI<|aX<|ai<|y1 Z<|y1 Z<|yP Z<|yP Z<|yg Z ?_);refine aa (fun n1=>?_) (fun n1=>?_) <;> try simp only[zB] at n1)
 rotate_left
 ·((refine aT<|ae<|y0 Z<|aj Z Z Z Z<|ae<|aj Z Z Z Z<|ae<|aj Z Z Z Z<|ae<|aj Z Z Z Z<|ae<|y0 Z<|yP Z<|yP Z ?_;refine y0 Z<|y0 Z<|aj Z Z Z Z<|ae<|aj Z Z Z Z<|ae<|aj Z Z Z Z<|ae<|aj Z Z Z Z<|ae<|y0 Z<|yP Z<|yP Z<|y0 Z ?_;refine y0 Z<|aj Z Z Z Z<|ae<|aj Z Z Z Z<|ae<|aj Z Z Z Z<|ae<|aj Z Z Z Z<|ae<|aj Z Z Z Z<|ae<|aj Z Z Z Z<|ae<|aj Z Z Z Z ?_;refine ae<|aj Z Z Z Z<|ae<|aj Z Z Z Z<|ae<|aj Z Z Z Z<|ae<|aj Z Z Z Z<|ae<|aj Z Z Z Z<|ae<|aj Z Z Z Z<|ae<|aj Z Z Z Z ?_;refine ae<|y0 Z<|yP Z<|yA Z<|yR zi ?_);refine And.intro ?_ trivial)
  refine eX ?_
  first
   | (simp_all [aD,cR,aF];done)
   | (simp_all [aD,cR,aF];omega)
   | (simp_all [aD,cR,aF];exact List.length_pos_iff.2 (by assumption))
 ((refine aV<|aN Z Z<|az zI<|yk<|y1 Z<|y2 Z<|aN Z Z<|az zI<|aX<|ai<|y1 Z<|y1 Z<|y1 Z<|y1 Z ?_;refine yP Z<|yP Z<|yg Z ?_);refine aa (fun n2=>?_) (fun n2=>?_) <;> try simp only[zB] at n2)
 rotate_left
 ·((refine aT<|ae<|y0 Z<|aj Z Z Z Z<|ae<|aj Z Z Z Z<|ae<|aj Z Z Z Z<|ae<|aj Z Z Z Z<|ae<|y0 Z<|yP Z<|yP Z ?_;refine y0 Z<|y0 Z<|aj Z Z Z Z<|ae<|aj Z Z Z Z<|ae<|aj Z Z Z Z<|ae<|aj Z Z Z Z<|ae<|aj Z Z Z Z<|ae<|aj Z Z Z Z<|ae ?_;refine aj Z Z Z Z<|ae<|aj Z Z Z Z<|ae<|aj Z Z Z Z<|ae<|aj Z Z Z Z<|ae<|aj Z Z Z Z<|ae<|aj Z Z Z Z<|ae<|aj Z Z Z Z<|ae ?_;refine aj Z Z Z Z<|ae<|y0 Z<|yP Z<|yA Z<|yR zi ?_);refine And.intro ?_ trivial)
  refine eX ?_
  first
   | (simp_all [aD,cR,aF];done)
   | (simp_all [aD,cR,aF];omega)
   | (simp_all [aD,cR,aF];exact List.length_pos_iff.2 (by assumption))
 ((refine aV<|aN Z Z<|az zI<|yk<|y1 Z<|y0 Z<|y0 Z<|y0 Z<|y0 Z<|y1 Z<|yP Z<|yP Z<|y1 Z<|y1 Z ?_;refine y2 Z<|aN Z Z<|az zI<|aX<|ai<|y1 Z<|y1 Z<|y1 Z<|yg Z ?_);refine aa (fun n4=>?_) (fun n4=>?_) <;> try simp only[zB] at n4)
 rotate_left
 ·((refine aT<|ae<|y0 Z<|y0 Z<|y1 Z<|y1 Z<|y0 Z<|y0 Z<|y0 Z<|y0 Z<|y1 Z<|y1 Z<|yP Z<|yA Z ?_;refine yR zi ?_);refine And.intro ?_ trivial)
  refine eX ?_
  first
   | (simp_all [aD,cR,aF];done)
   | (simp_all [aD,cR,aF];omega)
   | (simp_all [aD,cR,aF];exact List.length_pos_iff.2 (by assumption))
 (refine aV<|aN Z Z<|az zI<|aX<|ai<|y1 Z<|y1 Z<|y1 Z<|y1 Z<|yg Z ?_;refine aa (fun n5=>?_) (fun n5=>?_) <;> try simp only[zB] at n5)
 rotate_left
 ·(refine aT<|ae<|y0 Z<|y0 Z<|y0 Z<|y1 Z<|y1 Z<|yP Z<|yA Z<|yR zi ?_;refine And.intro ?_ trivial)
  refine eX ?_
  first
   | (simp_all [aD,cR,aF];done)
   | (simp_all [aD,cR,aF];omega)
   | (simp_all [aD,cR,aF];exact List.length_pos_iff.2 (by assumption))
 (refine aV<|aN Z Z<|az zI<|aX<|ai<|y1 Z<|y1 Z<|y1 Z<|y1 Z<|y1 Z<|yP Z<|yA Z<|yR zi ?_;refine And.intro ?_ trivial)
 refine eX ?_
 first
  | (simp_all [aD,cR,aF];done)
  | (simp_all [aD,cR,aF];omega)
  | (simp_all [aD,cR,aF];exact List.length_pos_iff.2 (by assumption))
theorem uw (name:ByteArray) (x y:Int) (pts:List (Int×Int)) (nx ny:Int) (sub:List (List PV)) (hn:sub.length<=1048576) (hp:pts.length<=1048576):aw C 208 [.pv (.ag (kM ⟨8,name,x,y,pts,nx,ny⟩ sub))] (.p (bool (!aD ⟨8,name,x,y,pts,nx,ny⟩ sub.length))) []:=by
 have lm:=aJ pts sp
 refine aE hC Tryz.func208 rfl rfl 62 rfl (by decide) (by kernel_rfl) fun _ _ _ _ _=>?_
 ((refine yS<|yn Z<|az zI<|aR<|ai<|yA Z<|yU<|yA Z<|yA Z<|yA Z<|yA Z<|yT<|an<|yS ?_;refine yV Z<|yP Z<|yT<|aO<|yS<|yP Z<|yA Z<|yT<|ak Z<|bz<|an<|yS<|yP Z<|yA Z ?_;refine yT<|ak Z<|bz<|yS<|yP Z<|yA Z<|yT<|ak Z<|bz<|aP<|yP Z<|yA Z<|yT<|ak Z ?_;refine bz<|yS<|yP Z<|yA Z<|yT<|ak Z<|bz<|yS<|yP Z<|yA Z<|yT<|ak Z<|cu<|aP ?_;refine yA Z<|yA Z<|dB<|aS<|ah<|yS<|yP Z<|yP Z<|y2 Z<|aN Z Z<|az zI<|aX<|ai<|y1 Z ?_;refine y1 Z<|yP Z<|yP Z<|yg Z ?_);refine aa (fun n1=>?_) (fun n1=>?_) <;> try simp only[zB] at n1)
 rotate_left
 ·((refine aT<|ae<|y0 Z<|aj Z Z Z Z<|ae<|aj Z Z Z Z<|ae<|aj Z Z Z Z<|ae<|aj Z Z Z Z<|ae<|y0 Z<|yP Z<|yP Z ?_;refine y0 Z<|y0 Z<|aj Z Z Z Z<|ae<|aj Z Z Z Z<|ae<|aj Z Z Z Z<|ae<|aj Z Z Z Z<|ae<|y0 Z<|yP Z<|yP Z<|y0 Z ?_;refine y0 Z<|aj Z Z Z Z<|ae<|aj Z Z Z Z<|ae<|aj Z Z Z Z<|ae<|aj Z Z Z Z<|ae<|aj Z Z Z Z<|ae<|aj Z Z Z Z<|ae<|aj Z Z Z Z ?_;refine ae<|aj Z Z Z Z<|ae<|aj Z Z Z Z<|ae<|aj Z Z Z Z<|ae<|aj Z Z Z Z<|ae<|aj Z Z Z Z<|ae<|aj Z Z Z Z<|ae<|aj Z Z Z Z ?_;refine ae<|y0 Z<|yP Z<|yA Z<|yR zi ?_);refine And.intro ?_ trivial)
  refine eX ?_
  first
   | (simp_all [aD,cR,aF];done)
   | (simp_all [aD,cR,aF];omega)
   | (simp_all [aD,cR,aF];exact List.length_pos_iff.2 (by assumption))
 ((refine aV<|aN Z Z<|az zI<|yk<|y1 Z<|y0 Z<|y0 Z<|y0 Z<|y0 Z<|y1 Z<|yP Z<|yP Z<|y1 Z<|y1 Z ?_;refine y2 Z<|aN Z Z<|az zI<|aX<|ai<|y1 Z<|y1 Z<|y1 Z<|y1 Z<|yP Z<|yP Z<|yg Z ?_);refine aa (fun n3=>?_) (fun n3=>?_) <;> try simp only[zB] at n3)
 rotate_left
 ·((refine aT<|ae<|y0 Z<|aj Z Z Z Z<|ae<|aj Z Z Z Z<|ae<|aj Z Z Z Z<|ae<|aj Z Z Z Z<|ae<|aj Z Z Z Z<|ae<|aj Z Z Z Z ?_;refine ae<|aj Z Z Z Z<|ae<|aj Z Z Z Z<|ae<|aj Z Z Z Z<|ae<|aj Z Z Z Z<|ae<|aj Z Z Z Z<|ae<|aj Z Z Z Z<|ae<|aj Z Z Z Z ?_;refine ae<|aj Z Z Z Z<|ae<|y0 Z<|yP Z<|yA Z<|yR zi ?_);refine And.intro ?_ trivial)
  refine eX ?_
  first
   | (simp_all [aD,cR,aF];done)
   | (simp_all [aD,cR,aF];omega)
   | (simp_all [aD,cR,aF];exact List.length_pos_iff.2 (by assumption))
 ((refine aV<|aN Z Z<|az zI<|yk<|y1 Z<|y0 Z<|y0 Z<|y0 Z<|y0 Z<|aj Z Z Z Z<|ae<|aj Z Z Z Z<|ae<|aj Z Z Z Z ?_;refine ae<|y0 Z<|y0 Z<|aj Z Z Z Z<|ae<|aj Z Z Z Z<|ae<|aj Z Z Z Z<|ae<|aj Z Z Z Z<|ae<|y0 Z<|y1 Z<|yP Z ?_;refine yA Z<|yR zi ?_);refine And.intro ?_ trivial)
 refine eX ?_
 first
  | (simp_all [aD,cR,aF];done)
  | (simp_all [aD,cR,aF];omega)
  | (simp_all [aD,cR,aF];exact List.length_pos_iff.2 (by assumption))
theorem ym (s:fL) (sub:List (List PV)) (hk:er s.kind 1 8=true) (hn:sub.length<=1048576) (hp:s.pts.length<=1048576):aw C 208 [.pv (.ag (kM s sub))] (.p (bool (!aD s sub.length))) []:=by
 obtain⟨k,name,x,y,pts,nx,ny⟩:=s
 have hk:1<=k/\k<=8:=eE.1 hk
 have h8:k=1\/k=2\/k=3\/k=4\/k=5\/k=6\/k=7\/k=8:=by omega
 rcases h8 with rfl | rfl | rfl | rfl | rfl | rfl | rfl | rfl
 ·exact uk _ _ _ _ _ _ _ hn hp
 ·exact um _ _ _ _ _ _ _ hn hp
 ·exact uo _ _ _ _ _ _ _ hn hp
 ·exact uq _ _ _ _ _ _ _ hn hp
 ·exact ur _ _ _ _ _ _ _ hn hp
 ·exact uu _ _ _ _ _ _ _ hn hp
 ·exact uv _ _ _ _ _ _ _ hn hp
 exact uw _ _ _ _ _ _ _ hn hp
theorem s_ (p:fM) (s:fL) (sub:List (List PV)) (d:Int) (hp:kD p) (so:lB s) (hn:sub.length<=1048576):aw C 141 [.pv (.ag (cS p)),.pv (.ag (kM s sub)),.pv (i64 d)] (.p (i64 (fO p s sub.length d))) []:=by
 refine aE hC Tryz.func141 rfl rfl 57 rfl (by decide) (by kernel_rfl) fun _ _ _ _ _=>?_
 have Io:=so.2
 ((refine yS<|yn Z<|az zI<|aR<|ai<|yn Z<|az zI<|aR<|ai<|yA Z<|yT<|an<|yS<|yV Z ?_;refine yP Z<|yn Z<|aL zI ?_);refine⟨_,_,(eY s.kind 1 8),?_⟩)
 (refine br Z Z<|ae<|yP Z<|yT<|ak Z ?_;refine aa (fun a1=>?_) (fun a1=>?_) <;> try simp only[zB] at a1)
 ·(refine yS<|yA Z<|yT<|aA<|af<|aB zi ?_;refine And.intro ?_ trivial)
  rw[fO,if_neg (by simp[a1])];rfl
 have k1:er s.kind 1 8=true:=by simpa using a1
 rw[fO,if_pos k1]
 (refine ar<|ah<|an<|yS<|yP Z<|yn Z<|aL zI ?_;refine⟨_,_,(ym s sub k1 hn Io),?_⟩)
 (refine br Z Z<|ae<|yP Z<|yT<|ak Z ?_;refine aa (fun a2=>?_) (fun a2=>?_) <;> try simp only[zB] at a2)
 ·(refine yS<|yA Z<|yT<|aA<|af<|aB zi ?_;refine And.intro ?_ trivial)
  rw[if_pos (by simpa using a2)];rfl
 have hb:aD s sub.length=false:=by simpa using a2
 rw[hb,if_neg (by decide)]
 (refine ar<|ah<|an<|yS<|yV Z<|yP Z<|yP Z<|yP Z<|yg Z ?_;refine aa (fun k3=>?_) (fun k3=>?_) <;> try simp only[zB] at k3)
 ·have k3:s.kind=3:=k3
  have Lt:=Bk hb (by omega)
  (refine aV<|aN Z Z<|az zI<|yk<|y2 Z<|aN Z Z<|az zI<|aX<|ai<|y1 Z<|y2 Z<|cx Z Z Z<|aL zI ?_;refine⟨_,_,(Ct p s.name (by have:=hp.tools;omega)),?_⟩)
  (refine br Z Z<|ae<|y1 Z<|yP Z<|yT<|ak Z ?_;refine aa (fun g1=>?_) (fun g1=>?_) <;> try simp only[zB] at g1)
  ·(refine yS<|yA Z<|yT<|aA<|af<|aB zi ?_;refine And.intro ?_ trivial)
   rw[if_pos ⟨k3,g1⟩];rfl
  rw[if_neg (fun e=>g1 e.2)]
  (refine ar<|ah<|an<|yS<|yV Z<|yP Z<|yV Z<|yP Z<|yn Z<|aL zI ?_;refine⟨_,_,(jC (s.x,s.y) p.unit hp.unit),?_⟩)
  (refine br Z Z<|ae<|yP Z<|yT<|ak Z ?_;refine aa (fun g2=>?_) (fun g2=>?_) <;> try simp only[zB] at g2)
  ·(refine yS<|yA Z<|yT<|aA<|af<|aB zi ?_;refine And.intro ?_ trivial)
   rw[if_neg (by simp[g2])];rfl
  rw[if_pos (by simpa using g2),Lt,if_neg (by simp),if_neg (by simp),if_neg (fun e=>by omega),if_neg (by omega)]
  (refine ar<|ah<|an<|yS<|yV Z<|yP Z<|yP Z<|yT<|ak Z ?_;refine aa (fun g3=>?_) (fun g3=>?_) <;> try simp only[zB] at g3)
  ·exfalso;omega
  (refine ar<|ah<|an<|yS<|yV Z<|yP Z<|yP Z<|yT<|ak Z ?_;refine aa (fun g4=>?_) (fun g4=>?_) <;> try simp only[zB] at g4)
  ·exfalso;omega
  (refine ar<|ah<|yS<|yA Z<|yR zi ?_;refine And.intro ?_ trivial)
  rfl
 have k3:¬s.kind=3:=k3
 rw[if_neg (fun e=>k3 e.1)]
 ((refine aT<|ae<|y0 Z<|y0 Z<|y0 Z<|y0 Z<|yP Z<|yT<|ak Z<|bz<|ar<|ah<|an<|yS ?_;refine yV Z<|yP Z<|yV Z<|yP Z<|yn Z<|aL zI ?_);refine⟨_,_,(jC (s.x,s.y) p.unit hp.unit),?_⟩)
 (refine br Z Z<|ae<|yP Z<|yT<|ak Z ?_;refine aa (fun g2=>?_) (fun g2=>?_) <;> try simp only[zB] at g2)
 ·(refine yS<|yA Z<|yT<|aA<|af<|aB zi ?_;refine And.intro ?_ trivial)
  rw[if_neg (by simp[g2])];rfl
 rw[if_pos (by simpa using g2)]
 (refine ar<|ah<|an<|yS<|yV Z<|yP Z<|yP Z<|yT<|ak Z ?_;refine aa (fun k7=>?_) (fun k7=>?_) <;> try simp only[zB] at k7)
 ·have k7:s.kind=7:=k7
  (refine yS<|yV Z<|yP Z<|yV Z<|yP Z<|yn Z<|aL zI ?_;refine⟨_,_,(s7 s.pts p.unit hp.unit Io),?_⟩)
  (refine br Z Z<|ae<|yA Z<|yT<|aA<|af<|aB zi ?_;refine And.intro ?_ trivial)
  by_cases h1:(s.pts.any fun q=>!gI q p.unit)=true
  ·rw[if_pos h1,if_pos h1]
  rw[if_neg h1,if_neg h1]
  by_cases h2:2000 < s.pts.length
  ·rw[if_pos h2,if_pos h2]
  rw[if_neg h2,if_neg h2]
  by_cases h3:uh s.pts=true
  ·rw[if_pos h3,if_neg (fun e=>by rw[h3] at e;cases e.2),if_neg (by omega)]
  rw[if_neg h3,if_pos ⟨k7,by simpa using h3⟩]
 have k7:¬s.kind=7:=k7
 rw[Bk hb k7,if_neg (by simp),if_neg (by simp),if_neg (fun e=>k7 e.1)]
 (refine ar<|ah<|an<|yS<|yV Z<|yP Z<|yP Z<|yT<|ak Z ?_;refine aa (fun k8=>?_) (fun k8=>?_) <;> try simp only[zB] at k8)
 ·have k8:s.kind=8:=k8
  rw[if_pos k8]
  (refine an<|yS<|yV Z<|yP Z<|yn Z<|aL zI ?_;refine⟨_,_,(eY s.nx 1 100),?_⟩)
  (refine br Z Z<|ae<|yP Z<|yP Z<|yg Z ?_;refine aa (fun g6=>?_) (fun g6=>?_) <;> try simp only[zB] at g6)
  ·((refine aT<|ae<|y0 Z<|y0 Z<|y0 Z<|yP Z<|yT<|ak Z<|cu<|yS<|yA Z<|yT<|aA<|af ?_;refine af<|aB zi ?_);refine And.intro ?_ trivial)
   rw[if_neg (by simp[g6])];rfl
  rw[if_pos (by simpa using g6)]
  (refine aV<|aN Z Z<|az zI<|aX<|ai<|y1 Z<|y2 Z<|cx Z Z Z<|aL zI ?_;refine⟨_,_,(eY s.ny 1 100),?_⟩)
  (refine br Z Z<|ae<|y1 Z<|yP Z<|yT<|ak Z ?_;refine aa (fun g7=>?_) (fun g7=>?_) <;> try simp only[zB] at g7)
  ·(refine yS<|yA Z<|yT<|aA<|af<|af<|aB zi ?_;refine And.intro ?_ trivial)
   rw[if_neg (by simp[g7])];rfl
  rw[if_pos (by simpa using g7)]
  (refine ar<|ah<|an<|yS<|yV Z<|yP Z<|yP Z<|yP Z<|yT<|ak Z ?_;refine aa (fun g8=>?_) (fun g8=>?_) <;> try simp only[zB] at g8)
  ·have g8:((sub.length:Nat):Int)=0:=g8
   (refine yS<|yA Z<|yT<|aA<|af<|af<|aB zi ?_;refine And.intro ?_ trivial)
   rw[if_pos (by omega)];rfl
  have g8:¬((sub.length:Nat):Int)=0:=g8
  rw[if_neg (by omega)]
  (refine ar<|ah<|yS<|yP Z<|yP Z<|yT<|ak Z ?_;refine aa (fun g9=>?_) (fun g9=>?_) <;> try simp only[zB] at g9)
  ·(refine yS<|yA Z<|yT<|aA<|af<|aB zi ?_;refine And.intro ?_ trivial)
   rw[if_pos (by omega)];rfl
  rw[if_neg (by omega)]
  (refine ar<|ah<|yS<|yA Z<|yR zi ?_;refine And.intro ?_ trivial)
  rfl
 have k8:¬s.kind=8:=k8
 rw[if_neg k8]
 (refine ar<|ah<|yS<|yA Z<|yR zi ?_;refine And.intro ?_ trivial)
 rfl
def Steps.every (Q:Steps->Prop):Steps->Prop
 | .nil=>True
 | .cons _ sub rest=>Q sub/\rest.every Q
def Steps.ok:Steps->Prop
 | .nil=>True
 | .cons s sub rest=>lB s/\sub.rows.length<=1048576/\sub.ok/\rest.ok
theorem fh {α:Type} {l:List α} {i:Nat} {a:α} {r:List α} (h:l.drop i=a::r):l[i]?=some a/\l.drop (i+1)=r/\i < l.length:=by
 have h1:l[i]?=some a:=by
  have:=congrArg (fun z:List α=>z[0]?) h
  simpa [List.getElem?_drop] using this
 refine⟨h1,?_,(List.getElem?_eq_some_iff.1 h1).1⟩
 rw[<-List.drop_drop,h]
 rfl
def tm (n:Int):Int:=if er n 1 100=true then n else 1
theorem GX (n:Int):1<=tm n/\tm n<=100:=by
 unfold tm
 split
 ·rename_i h;exact eE.1 h
 omega
def cap (n:Int):Int:=if 3000 < n then 3001 else n
def cntF:Steps->Int
 | .nil=>0
 | .cons s sub rest=>cap (1+tm s.nx*tm s.ny*cntF sub+cntF rest)
theorem Ip {n:Int} (h:0<=n):0<=cap n/\cap n<=3001:=by unfold cap;split <;> omega
theorem wE (a b:Int):1<=tm a*tm b/\tm a*tm b<=10000:=by
 have ha:=GX a
 have hb:=GX b
 have h1:1*1<=tm a*tm b:=Int.mul_le_mul ha.1 hb.1 (by omega) (by omega)
 have h2:tm a*tm b<=100*100:=Int.mul_le_mul ha.2 hb.2 (by omega) (by omega)
 omega
theorem wF (a b:Int) {c:Int} (h:0<=c/\c<=3001):0<=tm a*tm b*c/\tm a*tm b*c<=30010000:=by
 have hm:=wE a b
 have h1:0<=tm a*tm b*c:=Int.mul_nonneg (by omega) h.1
 have h2:tm a*tm b*c<=10000*3001:=Int.mul_le_mul hm.2 h.2 h.1 (by omega)
 omega
theorem gU:∀u:Steps,0<=cntF u/\cntF u<=3001
 | .nil=>by simp[cntF]
 | .cons s sub rest=>by
  have h1:=gU sub
  have h2:=gU rest
  have h3:=wF s.nx s.ny h1
  rw[cntF]
  exact Ip (by omega)
theorem Bl {n m:Int} (hn:0<=n) (hm:0<=m):cap (n+cap m)=cap (n+m):=by
 unfold cap
 repeat' split
 all_goals omega
theorem qQ (n:Int):aw C 252 [.pv (i64 n)] (.p (i64 (tm n))) []:=by
 refine aE hC Tryz.func252 rfl rfl 6 rfl (by decide) (by kernel_rfl) fun _ _ _ _ _=>?_
 (refine yS<|yA Z<|yT<|an<|yS<|yP Z<|yn Z<|aL zI ?_;refine⟨_,_,(dI n 1 100),?_⟩)
 (refine br Z Z<|ae<|yT<|ak Z ?_;refine aa (fun h=>?_) (fun h=>?_) <;> try simp only[zB] at h)
 ·(refine yS<|yP Z<|yA Z<|yT<|aA<|af<|aB zi ?_;refine And.intro ?_ trivial)
  rw[tm,if_pos h]
 (refine ar<|ah<|yS<|yA Z<|yR zi ?_;refine And.intro ?_ trivial)
 rw[tm,if_neg (by simp[h])];rfl
theorem Ai (s:fL) (sub:List (List PV)):aw C 189 [.pv (.ag (kM s sub))] (.p (i64 (tm s.nx*tm s.ny))) []:=by
 refine aE hC Tryz.func189 rfl rfl 13 rfl (by decide) (by kernel_rfl) fun _ _ _ _ _=>?_
 have hm:=wE s.nx s.ny
 skip
 refine Kl ?_
 refine aP<|yn Z<|az zI<|aR<|ai<|yA Z<|yT<|au ?_
 refine OD 1 (y:=.ip (kM s sub)) (fz:=[(1,.jK (kM s sub))]) (by exact hC) (by exact⟨rfl,rfl⟩) ?_
 ((refine yS (yA Z (yT (an (cF [] true [true,true,true,false,true,false,false,true,true,true] rfl (by kernel_rfl) (aK Z (aK Z (aK Z (eG Z Z (aK Z (aK Z (aK Z (eG Z Z (cE Z ?_)))))))))))));refine yD Z<|yD Z<|yD Z<|dq Z<|aL zI ?_);refine⟨_,_,(qQ s.nx),?_⟩)
 (refine bM<|ae<|yD Z<|yD Z<|yD Z<|dq Z<|aL zI ?_;refine⟨_,_,(qQ s.ny),?_⟩)
 (refine bM<|ae<|dq Z<|bb zI ?_;refine And.intro ⟨by first | omega | (dsimp only;omega),by first | omega | (dsimp only;omega)⟩ ?_)
 ((refine bM<|ae<|yD Z<|bR<|ao Z<|ao Z<|ao Z<|ao Z<|ao Z<|ao Z<|ao Z<|ao Z<|ao Z<|dH Z Z ?_;refine bS Z<|ah<|aA<|aB zi ?_);refine And.intro ?_ trivial)
 rfl
def Iq (u:Steps):Prop:=u.rows.length<=1048576->aw C 118 [.pv (.sl u.rows)] (.p (i64 (cntF u))) []
theorem mJ {u:Steps} (h:u.rows.length=0):u=.nil:=by
 cases u with
 | nil=>rfl
 | cons s sub rest=>simp[Steps.rows] at h
theorem ta (u:Steps) (hs:u.every Iq) (ho:u.ok) (hN:u.rows.length<=1048576):aw C 118 [.pv (.sl u.rows)] (.p (i64 (cntF u))) []:=by
 refine aE hC Tryz.func118 rfl rfl 30 rfl (by decide) (by kernel_rfl) fun _ _ _ _ _=>?_
 refine yS<|yA Z<|yU<|yA Z<|yT<|an<|yS<|yP Z<|yP Z<|yP Z<|yT<|aO ?_
 refine aC (fun p:Nat×Steps×Int=>u.rows.drop p.1=p.2.1.rows/\p.2.1.every Iq/\p.2.1.ok/\0<=p.2.2/\p.2.2<=3000/\cap (p.2.2+cntF p.2.1)=cap (cntF u)/\p.1<=u.rows.length) (fun p=>[(3,.p (i64 p.2.2)),(6,.p (.sl u.rows)),(7,.p (i64 u.rows.length)),(8,.p (i64 p.1))]) (fun _=>[]) (fun p=>u.rows.length - p.1) (0,u,0) _ (bg.refl _ _) ⟨rfl,hs,ho,by dsimp only;omega,by dsimp only;omega,by dsimp only;rw[Int.zero_add],Nat.zero_le _⟩ ⟨Z,Z,Z,Z,Y⟩ trivial fun ⟨i,v,n⟩ hi tt h=>?_
 obtain⟨q1,q2,q3,q4,q5,q6,q7⟩:=hi
 simp only at q1 q2 q3 q4 q5 q6 q7
 have OV:=gU u
 have rY:cap (cntF u)=cntF u:=by unfold cap;split <;> omega
 rw[rY] at q6
 (refine yS<|yP Z<|yT<|an<|ak Z ?_;refine aa (fun h1=>?_) (fun h1=>?_) <;> try simp only[zB] at h1)
 ·cases v with
  | nil=>
   exfalso
   have:=congrArg List.length q1
   simp[Steps.rows] at this
   omega
  | cons s sub rest=>
   obtain⟨d1,d2,d3⟩:=fh q1
   obtain⟨r1,r2⟩:=q2
   obtain⟨o1,o2,o3,o4⟩:=q3
   have kS:=gU sub
   have tH:=gU rest
   have ht:=wE s.nx s.ny
   have Ir:=wF s.nx s.ny kS
   have q8:cap (n+(1+tm s.nx*tm s.ny*cntF sub)+cntF rest)=cntF u:=by
    rw[<-q6,cntF,Bl q4 (by omega)]
    congr 1
    omega
   (refine ar<|ah<|an<|aO<|yS<|yq Z<|aL zI ?_;refine⟨(kM s sub.rows),⟨by omega,by rw[Int.toNat_natCast];exact d1⟩,?_⟩)
   ((refine yk<|yP Z<|yn Z<|az zI<|aR<|ai<|yq Z<|az zI<|aX<|aM<|aU<|yU<|yP Z<|yq Z ?_;refine bb zI ?_);refine And.intro ⟨by first | omega | (dsimp only;omega),by first | omega | (dsimp only;omega)⟩ ?_)
   (refine yk<|yA Z<|yT<|an<|yS<|yV Z<|yP Z<|yP Z<|yP Z<|yT<|ak Z ?_;refine aa (fun h2=>?_) (fun h2=>?_) <;> try simp only[zB] at h2)
   ·(refine cF [] false Ja rfl (by kernel_rfl)<|aK Z<|aK Z<|eG Z Z<|aK Z<|aK Z<|eG Z Z<|cE Z<|yD Z<|yD Z<|dq Z<|aL zI ?_;refine⟨_,_,(Ai s sub.rows),?_⟩)
    (refine bM<|ae<|yW Z<|yD Z<|dq Z<|aL zI ?_;refine⟨_,_,(r1 o2),?_⟩)
    (refine bM<|ae<|dq Z<|bb zI ?_;refine And.intro ⟨by first | omega | (dsimp only;omega),by first | omega | (dsimp only;omega)⟩ ?_)
    (refine bM<|ae<|dq Z<|bb zI ?_;refine And.intro ⟨by first | omega | (dsimp only;omega),by first | omega | (dsimp only;omega)⟩ ?_)
    ((refine bM<|ae<|yD Z<|bR<|ao Z<|ao Z<|ao Z<|ao Z<|ao Z<|ao Z<|ao Z<|ao Z<|dH Z Z<|bS Z ?_;refine ah<|yS<|yP Z<|yP Z<|yT<|ak Z ?_);refine aa (fun h3=>?_) (fun h3=>?_) <;> try simp only[zB] at h3)
    all_goals try dsimp only at h3
    ·(refine yS<|yA Z<|yT<|aA<|aq<|af<|af<|aq<|af<|aB zi ?_;refine And.intro ?_ trivial)
     rw[<-q8,cap,if_pos (by omega)]
     try rfl
    (refine ar<|aS<|ah<|aP<|yq Z<|bb zI ?_;refine And.intro ⟨by first | omega | (dsimp only;omega),by first | omega | (dsimp only;omega)⟩ ?_)
    (refine yk<|yP Z<|yT<|au ?_;refine⟨(i+1,rest,n+1+tm s.nx*tm s.ny*cntF sub),_,bg.refl _ _,?_⟩)
    exact⟨⟨d2,r2,o4,by dsimp only;omega,by dsimp only;omega,by dsimp only;rw[rY,<-q8];congr 1 <;> omega,by dsimp only;omega⟩,by dsimp only;omega,⟨Z,Z,Z,Z,Y⟩,trivial⟩
   have e0:sub=.nil:=mJ (by omega)
   have c0:cntF sub=0:=by rw[e0];rfl
   rw[c0,Int.mul_zero] at q8
   (refine ar<|ah<|yS<|yP Z<|yP Z<|yT<|ak Z ?_;refine aa (fun h3=>?_) (fun h3=>?_) <;> try simp only[zB] at h3)
   all_goals try dsimp only at h3
   ·(refine yS<|yA Z<|yT<|aA<|aq<|af<|af<|aq<|af<|aB zi ?_;refine And.intro ?_ trivial)
    rw[<-q8,cap,if_pos (by omega)]
    try rfl
   (refine ar<|aS<|ah<|aP<|yq Z<|bb zI ?_;refine And.intro ⟨by first | omega | (dsimp only;omega),by first | omega | (dsimp only;omega)⟩ ?_)
   (refine yk<|yP Z<|yT<|au ?_;refine⟨(i+1,rest,n+1),_,bg.refl _ _,?_⟩)
   exact⟨⟨d2,r2,o4,by dsimp only;omega,by dsimp only;omega,by dsimp only;rw[rY,<-q8];congr 1 <;> omega,by dsimp only;omega⟩,by dsimp only;omega,⟨Z,Z,Z,Z,Y⟩,trivial⟩
 have hv:v=.nil:=mJ (by rw[<-q1,List.length_drop];omega)
 rw[hv,cntF,Int.add_zero,cap,if_neg (by omega)] at q6
 (refine bF<|aQ<|aQ<|bG<|ah<|yS<|yP Z<|yA Z<|yR zi ?_;refine And.intro ?_ trivial)
 rw[q6]
 try rfl
theorem Steps.qa {Q:Steps->Prop} (h:∀u:Steps,u.every Q->u.ok->Q u):∀u:Steps,u.ok->Q u/\u.every Q
 | .nil,ho=>⟨h .nil trivial ho,trivial⟩
 | .cons s sub rest,ho=>by
  have a:=qa h sub ho.2.2.1
  have b:=qa h rest ho.2.2.2
  have e:(Steps.cons s sub rest).every Q:=⟨a.1,b.2⟩
  exact⟨h _ e ho,e⟩
theorem yo (u:Steps) (ho:u.ok) (hN:u.rows.length<=1048576):aw C 118 [.pv (.sl u.rows)] (.p (i64 (cntF u))) []:=(Steps.qa (Q:=Iq) (fun u h1 h2 h3=>ta u h1 h2 h3) u ho).1 hN
def Is (u:Steps):Prop:=u.rows.length<=1048576->aw C 59 [.pv (.sl u.rows)] (.p (i64 (cntF u))) []
theorem ux (u:Steps) (hs:u.every Is) (ho:u.ok) (hN:u.rows.length<=1048576):aw C 59 [.pv (.sl u.rows)] (.p (i64 (cntF u))) []:=by
 refine aE hC Tryz.func59 rfl rfl 55 rfl (by decide) (by kernel_rfl) fun _ _ _ _ _=>?_
 have OV:=gU u
 have rY:cap (cntF u)=cntF u:=by unfold cap;split <;> omega
 refine yS<|yA Z<|yU<|yA Z<|yT<|an<|yS<|yA Z<|yT<|aO ?_
 refine aC (fun p:Nat×Steps×Int=>u.rows.drop p.1=p.2.1.rows/\p.2.1.every Is/\p.2.1.ok/\0<=p.2.2/\p.2.2<=40000000/\cap (p.2.2+cntF p.2.1)=cntF u/\p.1<=u.rows.length) (fun p=>[(0,.p (.sl u.rows)),(3,.p (i64 p.2.2)),(4,.p (i64 p.1))]) (fun _=>[]) (fun p=>u.rows.length - p.1) (0,u,0) _ (bg.refl _ _) ⟨rfl,hs,ho,by dsimp only;omega,by dsimp only;omega,by dsimp only;rw[Int.zero_add,rY],Nat.zero_le _⟩ ⟨Z,Z,Z,Y⟩ trivial fun ⟨i,v,n⟩ hi tt h=>?_
 obtain⟨q1,q2,q3,q4,q5,q6,q7⟩:=hi
 simp only at q1 q2 q3 q4 q5 q6 q7
 (refine an<|yS<|yP Z<|yP Z<|yP Z<|yP Z<|yP Z<|yg Z ?_;refine aa (fun h1=>?_) (fun h1=>?_) <;> try simp only[zB] at h1)
 ·(refine aV<|aN Z Z<|az zI<|yk<|y1 Z<|yP Z<|yT<|ak Z ?_;refine aa (fun Nd=>?_) (fun Nd=>?_) <;> try simp only[zB] at Nd)
  all_goals try dsimp only at Nd
  ·cases v with
   | nil=>
    exfalso
    have:=congrArg List.length q1
    simp[Steps.rows] at this
    omega
   | cons s sub rest=>
    obtain⟨d1,d2,d3⟩:=fh q1
    obtain⟨r1,r2⟩:=q2
    obtain⟨o1,o2,o3,o4⟩:=q3
    have kS:=gU sub
    have tH:=gU rest
    have ht:=wE s.nx s.ny
    have Ir:=wF s.nx s.ny kS
    have q8:cap (n+(1+tm s.nx*tm s.ny*cntF sub)+cntF rest)=cntF u:=by
     rw[<-q6,cntF,Bl q4 (by omega)]
     congr 1
     omega
    have qw:∀k:Int,k=(i:Int)->0<=k/\u.rows[k.toNat]?=some (kM s sub.rows):=fun k hk=>by rw[hk];exact⟨by omega,by rw[Int.toNat_natCast];exact d1⟩
    (refine ar<|ah<|an<|aO<|yS<|yP Z<|yq Z<|bb zI ?_;refine And.intro ⟨by first | omega | (dsimp only;omega),by first | omega | (dsimp only;omega)⟩ ?_)
    (refine yk<|yA Z<|yU<|yA Z<|yA Z<|yT<|an<|yS<|yP Z<|yP Z<|yq Z<|aL zI ?_;refine⟨(kM s sub.rows),(qw _ rfl),?_⟩)
    (refine yk<|yP Z<|yP Z<|yn Z<|aL zI ?_;refine⟨_,_,(eY s.nx 1 100),?_⟩)
    (refine br Z Z<|ae<|yT<|ak Z ?_;refine aa (fun a1=>?_) (fun a1=>?_) <;> try simp only[zB] at a1)
    ·have e1:tm s.nx=s.nx:=by rw[tm,if_pos a1]
     rw[e1] at q8 ht Ir
     (refine aP<|yP Z<|yP Z<|yq Z<|aL zI ?_;refine⟨(kM s sub.rows),(qw _ rfl),?_⟩)
     (refine yk<|yP Z<|yP Z<|yA Z<|yT<|an<|yS<|yP Z<|yP Z<|yq Z<|aL zI ?_;refine⟨(kM s sub.rows),(qw _ rfl),?_⟩)
     (refine yk<|yP Z<|yP Z<|yn Z<|aL zI ?_;refine⟨_,_,(eY s.ny 1 100),?_⟩)
     (refine br Z Z<|ae<|yT<|ak Z ?_;refine aa (fun a2=>?_) (fun a2=>?_) <;> try simp only[zB] at a2)
     ·have e2:tm s.ny=s.ny:=by rw[tm,if_pos a2]
      rw[e2] at q8 ht Ir
      (refine aP<|yP Z<|yP Z<|yq Z<|aL zI ?_;refine⟨(kM s sub.rows),(qw _ rfl),?_⟩)
      (refine yk<|yP Z<|yP Z<|yA Z<|yT<|aP<|yP Z<|yP Z<|yP Z<|yq Z<|bb zI ?_;refine And.intro ⟨by first | omega | (dsimp only;omega),by first | omega | (dsimp only;omega)⟩ ?_)
      (refine yk<|yP Z<|yP Z<|yq Z<|aL zI ?_;refine⟨(kM s sub.rows),(qw _ rfl),?_⟩)
      (refine yk<|yP Z<|yP Z<|yn Z<|aL zI ?_;refine⟨_,_,(r1 o2),?_⟩)
      (refine br Z Z<|ae<|yq Z<|bb zI ?_;refine And.intro ⟨by first | omega | (dsimp only;omega),by first | omega | (dsimp only;omega)⟩ ?_)
      (refine yk<|yq Z<|bb zI ?_;refine And.intro ⟨by first | omega | (dsimp only;omega),by first | omega | (dsimp only;omega)⟩ ?_)
      (refine yk<|yA Z<|dB<|aS<|ah<|aP<|yP Z<|yq Z<|bb zI ?_;refine And.intro ⟨by first | omega | (dsimp only;omega),by first | omega | (dsimp only;omega)⟩ ?_)
      (refine yk<|yA Z<|yT<|au ?_;refine⟨(i+1,rest,n+1+s.nx*s.ny*cntF sub),_,bg.refl _ _,?_⟩)
      exact⟨⟨d2,r2,o4,by dsimp only;omega,by dsimp only;omega,by dsimp only;rw[<-q8];congr 1 <;> omega,by dsimp only;omega⟩,by dsimp only;omega,⟨Z,Z,Z,Y⟩,trivial⟩
     have e2:tm s.ny=1:=by rw[tm,if_neg (by simp[a2])]
     rw[e2] at q8 ht Ir
     (refine ar<|ah<|aP<|yP Z<|yP Z<|yP Z<|yq Z<|bb zI ?_;refine And.intro ⟨by first | omega | (dsimp only;omega),by first | omega | (dsimp only;omega)⟩ ?_)
     (refine yk<|yP Z<|yP Z<|yq Z<|aL zI ?_;refine⟨(kM s sub.rows),(qw _ rfl),?_⟩)
     (refine yk<|yP Z<|yP Z<|yn Z<|aL zI ?_;refine⟨_,_,(r1 o2),?_⟩)
     (refine br Z Z<|ae<|yq Z<|bb zI ?_;refine And.intro ⟨by first | omega | (dsimp only;omega),by first | omega | (dsimp only;omega)⟩ ?_)
     (refine yk<|yq Z<|bb zI ?_;refine And.intro ⟨by first | omega | (dsimp only;omega),by first | omega | (dsimp only;omega)⟩ ?_)
     (refine yk<|yA Z<|dB<|aS<|ah<|aP<|yP Z<|yq Z<|bb zI ?_;refine And.intro ⟨by first | omega | (dsimp only;omega),by first | omega | (dsimp only;omega)⟩ ?_)
     (refine yk<|yA Z<|yT<|au ?_;refine⟨(i+1,rest,n+1+s.nx*1*cntF sub),_,bg.refl _ _,?_⟩)
     exact⟨⟨d2,r2,o4,by dsimp only;omega,by dsimp only;omega,by dsimp only;rw[<-q8];congr 1 <;> omega,by dsimp only;omega⟩,by dsimp only;omega,⟨Z,Z,Z,Y⟩,trivial⟩
    have e1:tm s.nx=1:=by rw[tm,if_neg (by simp[a1])]
    rw[e1] at q8 ht Ir
    (refine ar<|ah<|an<|yS<|yP Z<|yP Z<|yq Z<|aL zI ?_;refine⟨(kM s sub.rows),(qw _ rfl),?_⟩)
    (refine yk<|yP Z<|yP Z<|yn Z<|aL zI ?_;refine⟨_,_,(eY s.ny 1 100),?_⟩)
    (refine br Z Z<|ae<|yT<|ak Z ?_;refine aa (fun a2=>?_) (fun a2=>?_) <;> try simp only[zB] at a2)
    ·have e2:tm s.ny=s.ny:=by rw[tm,if_pos a2]
     rw[e2] at q8 ht Ir
     (refine aP<|yP Z<|yP Z<|yq Z<|aL zI ?_;refine⟨(kM s sub.rows),(qw _ rfl),?_⟩)
     (refine yk<|yP Z<|yP Z<|yA Z<|yT<|aP<|yP Z<|yP Z<|yP Z<|yq Z<|bb zI ?_;refine And.intro ⟨by first | omega | (dsimp only;omega),by first | omega | (dsimp only;omega)⟩ ?_)
     (refine yk<|yP Z<|yP Z<|yq Z<|aL zI ?_;refine⟨(kM s sub.rows),(qw _ rfl),?_⟩)
     (refine yk<|yP Z<|yP Z<|yn Z<|aL zI ?_;refine⟨_,_,(r1 o2),?_⟩)
     (refine br Z Z<|ae<|yq Z<|bb zI ?_;refine And.intro ⟨by first | omega | (dsimp only;omega),by first | omega | (dsimp only;omega)⟩ ?_)
     (refine yk<|yq Z<|bb zI ?_;refine And.intro ⟨by first | omega | (dsimp only;omega),by first | omega | (dsimp only;omega)⟩ ?_)
     (refine yk<|yA Z<|dB<|aS<|ah<|aP<|yP Z<|yq Z<|bb zI ?_;refine And.intro ⟨by first | omega | (dsimp only;omega),by first | omega | (dsimp only;omega)⟩ ?_)
     (refine yk<|yA Z<|yT<|au ?_;refine⟨(i+1,rest,n+1+1*s.ny*cntF sub),_,bg.refl _ _,?_⟩)
     exact⟨⟨d2,r2,o4,by dsimp only;omega,by dsimp only;omega,by dsimp only;rw[<-q8];congr 1 <;> omega,by dsimp only;omega⟩,by dsimp only;omega,⟨Z,Z,Z,Y⟩,trivial⟩
    have e2:tm s.ny=1:=by rw[tm,if_neg (by simp[a2])]
    rw[e2] at q8 ht Ir
    (refine ar<|ah<|aP<|yP Z<|yP Z<|yP Z<|yq Z<|bb zI ?_;refine And.intro ⟨by first | omega | (dsimp only;omega),by first | omega | (dsimp only;omega)⟩ ?_)
    (refine yk<|yP Z<|yP Z<|yq Z<|aL zI ?_;refine⟨(kM s sub.rows),(qw _ rfl),?_⟩)
    (refine yk<|yP Z<|yP Z<|yn Z<|aL zI ?_;refine⟨_,_,(r1 o2),?_⟩)
    (refine br Z Z<|ae<|yq Z<|bb zI ?_;refine And.intro ⟨by first | omega | (dsimp only;omega),by first | omega | (dsimp only;omega)⟩ ?_)
    (refine yk<|yq Z<|bb zI ?_;refine And.intro ⟨by first | omega | (dsimp only;omega),by first | omega | (dsimp only;omega)⟩ ?_)
    (refine yk<|yA Z<|dB<|aS<|ah<|aP<|yP Z<|yq Z<|bb zI ?_;refine And.intro ⟨by first | omega | (dsimp only;omega),by first | omega | (dsimp only;omega)⟩ ?_)
    (refine yk<|yA Z<|yT<|au ?_;refine⟨(i+1,rest,n+1+1*1*cntF sub),_,bg.refl _ _,?_⟩)
    exact⟨⟨d2,r2,o4,by dsimp only;omega,by dsimp only;omega,by dsimp only;rw[<-q8];congr 1 <;> omega,by dsimp only;omega⟩,by dsimp only;omega,⟨Z,Z,Z,Y⟩,trivial⟩
  have Nv:=gU v
  rw[cap,if_pos (by omega)] at q6
  (refine bF<|aQ<|aQ<|bG<|ah<|yS<|yP Z<|yP Z<|yA Z<|yR zi ?_;refine And.intro ?_ trivial)
  rw[<-q6]
  show PV.im (Value.int .i64 (min n 3001))=_
  rw[show min n 3001=3001 by omega]
  rfl
 have hv:v=.nil:=mJ (by rw[<-q1,List.length_drop];omega)
 rw[hv,cntF,Int.add_zero] at q6
 ((refine aT<|ae<|y0 Z<|yP Z<|yT<|ak Z<|bz<|bF<|aQ<|aQ<|bG<|ah<|yS<|yP Z ?_;refine yP Z<|yA Z<|yR zi ?_);refine And.intro ?_ trivial)
 rw[<-q6]
 show PV.im (Value.int .i64 (min n 3001))=_
 rw[show min n 3001=cap n by unfold cap;split <;> omega]
 rfl
theorem Aj (u:Steps) (ho:u.ok) (hN:u.rows.length<=1048576):aw C 59 [.pv (.sl u.rows)] (.p (i64 (cntF u))) []:=(Steps.qa (Q:=Is) (fun u h1 h2 h3=>ux u h1 h2 h3) u ho).1 hN
def eK (p:fM):Steps->Int->Int
 | .nil,_=>0
 | .cons s sub rest,d=>nq (fO p s sub.rows.length d) (nq (eK p sub (d+1)) (eK p rest d))
def fY (u:Int) (l:List da) (i:Nat):Int:=match l[i]? with
 | some x=>nq (mI u x) (if bE (l.map da.name) i=true then 8 else 0)
 | none=>0
def cn (p:fM):Int:=if er p.unit 1 1000=true then (if 200 < p.tools.length then 2 else nq (a8 (fY p.unit p.tools) 0 p.tools.length) (if 3000 < cntF p.steps then 2 else eK p p.steps 0)) else 1
structure mK (p:fM):Prop where
 tools:p.tools.length<=1048576/\∀t∈p.tools,wA t
 steps:p.steps.rows.length<=1048576/\p.steps.ok
def ja (p:fM) (u:Steps):Prop:=∀d:Int,0<=d->d<=6->(d<=5\/u.rows.length=0)->u.rows.length<=1048576->aw C 119 [.pv (.ag (cS p)),.pv (.sl u.rows),.pv (i64 d)] (.p (i64 (eK p u d))) []
theorem nG (p:fM) (hp:kD p) (u:Steps) (hs:u.every (ja p)) (ho:u.ok):ja p u:=by
 intro d OW OX OY hN
 refine aE hC Tryz.func119 rfl rfl 34 rfl (by decide) (by kernel_rfl) fun _ _ _ _ _=>?_
 refine yS<|yn Z<|az zI<|aR<|ai<|yA Z<|yT<|an<|yS<|yP Z<|yP Z<|yP Z<|yT<|aO ?_
 refine aC (fun x:Nat×Steps=>u.rows.drop x.1=x.2.rows/\x.2.every (ja p)/\x.2.ok/\eK p x.2 d=eK p u d/\x.1<=u.rows.length) (fun x=>[(2,.p (i64 d)),(3,.bx 3 0),(11,.p (.sl u.rows)),(12,.p (i64 u.rows.length)),(13,.p (i64 x.1))]) (fun _=>[(3,.box ((cS p).map .p))]) (fun x=>u.rows.length - x.1) (0,u) _ (bg.refl _ _) ⟨rfl,hs,ho,rfl,Nat.zero_le _⟩ ⟨Z,Z,Z,Z,Z,Y⟩ ⟨Z,Y⟩ fun ⟨i,v⟩ hi tt h=>?_
 obtain⟨q1,q2,q3,q4,q5⟩:=hi
 simp only at q1 q2 q3 q4 q5
 (refine yS<|yP Z<|yT<|an<|ak Z ?_;refine aa (fun h1=>?_) (fun h1=>?_) <;> try simp only[zB] at h1)
 all_goals try dsimp only at h1
 ·cases v with
  | nil=>
   exfalso
   have:=congrArg List.length q1
   simp[Steps.rows] at this
   omega
  | cons s sub rest=>
   obtain⟨d1,d2,d3⟩:=fh q1
   obtain⟨r1,r2⟩:=q2
   obtain⟨o1,o2,o3,o4⟩:=q3
   have rA:∀k:Int,k=(i:Int)->0<=k/\u.rows[k.toNat]?=some (kM s sub.rows):=fun k hk=>by rw[hk];exact⟨by omega,by rw[Int.toNat_natCast];exact d1⟩
   rw[eK] at q4
   (refine ar<|ah<|an<|aO<|yS<|yq Z<|aL zI ?_;refine⟨(kM s sub.rows),(rA _ rfl),?_⟩)
   ((refine yk<|yP Z<|yn Z<|az zI<|aR<|ai<|yq Z<|az zI<|aX<|aM<|aU<|yT<|an<|yS ?_;refine yP Z<|yP Z<|yP Z<|yn Z<|aL zI ?_);refine⟨_,_,(s9 p s sub.rows d hp o1 o2),?_⟩)
   (refine br Z Z<|ae<|yA Z<|yU<|yP Z<|yP Z<|yT<|ak Z ?_;refine aa (fun a1=>?_) (fun a1=>?_) <;> try simp only[zB] at a1)
   ·have a1:fO p s sub.rows.length d≠0:=by simpa using a1
    (refine yS<|yP Z<|yA Z<|yT<|aA<|af<|aq<|af<|af<|aq<|af<|aB zi ?_;refine And.intro ?_ trivial)
    rw[<-q4,dy rfl a1]
   have a1:fO p s sub.rows.length d=0:=by simpa using a1
   rw[eM a1] at q4
   have Nf:=yi a1
   (refine ar<|ah<|yS<|yP Z<|yV Z<|yP Z<|yP Z<|yq Z<|bb zI ?_;refine And.intro ⟨by first | omega | (dsimp only;omega),by first | omega | (dsimp only;omega)⟩ ?_)
   (refine yk<|yn Z<|aL zI ?_;refine⟨_,_,(r1 (d+1) (by omega) (by omega) (by omega) o2),?_⟩)
   (refine br Z Z<|ae<|yA Z<|yU<|yP Z<|yP Z<|yT<|ak Z ?_;refine aa (fun a2=>?_) (fun a2=>?_) <;> try simp only[zB] at a2)
   ·have a2:eK p sub (d+1)≠0:=by simpa using a2
    (refine yS<|yP Z<|yA Z<|yT<|aA<|aq<|af<|af<|aq<|af<|aB zi ?_;refine And.intro ?_ trivial)
    rw[<-q4,dy rfl a2]
   have a2:eK p sub (d+1)=0:=by simpa using a2
   rw[eM a2] at q4
   (refine ar<|aS<|ah<|aP<|yq Z<|bb zI ?_;refine And.intro ⟨by first | omega | (dsimp only;omega),by first | omega | (dsimp only;omega)⟩ ?_)
   (refine yk<|yP Z<|yT<|au ?_;refine⟨(i+1,rest),_,bg.refl _ _,?_⟩)
   exact⟨⟨d2,r2,o4,q4,by dsimp only;omega⟩,by dsimp only;omega,⟨Z,Z,Z,Z,Z,Y⟩,⟨Z,Y⟩⟩
 have hv:v=.nil:=mJ (by rw[<-q1,List.length_drop];omega)
 rw[hv,eK] at q4
 (refine bF<|aQ<|aQ<|bG<|ah<|yS<|yA Z<|yR zi ?_;refine And.intro ?_ trivial)
 rw[<-q4];rfl
theorem qb (p:fM) (hp:kD p) (u:Steps) (ho:u.ok) (hN:u.rows.length<=1048576):aw C 119 [.pv (.ag (cS p)),.pv (.sl u.rows),.pv (i64 0)] (.p (i64 (eK p u 0))) []:=(Steps.qa (Q:=ja p) (fun u h1 h2=>nG p hp u h1 h2) u ho).1 0 (by omega) (by omega) (by omega) hN
def jV (p:fM) (u:Steps):Prop:=∀d:Int,0<=d->d<=6->(d<=5\/u.rows.length=0)->u.rows.length<=1048576->aw C 60 [.pv (.ag (cS p)),.pv (.sl u.rows),.pv (i64 d)] (.p (i64 (eK p u d))) []
theorem oy (p:fM) (hp:kD p) (u:Steps) (hs:u.every (jV p)) (ho:u.ok):jV p u:=by
 intro d OW OX OY hN
 refine aE hC Tryz.func60 rfl rfl 38 rfl (by decide) (by kernel_rfl) fun _ _ _ _ _=>?_
 refine yS<|yn Z<|az zI<|aR<|ai<|yA Z<|yT<|an<|yS<|yA Z<|yT<|aO ?_
 refine aC (fun x:Nat×Steps=>u.rows.drop x.1=x.2.rows/\x.2.every (jV p)/\x.2.ok/\eK p x.2 d=eK p u d/\x.1<=u.rows.length) (fun x=>[(1,.p (.sl u.rows)),(2,.p (i64 d)),(3,.bx 3 0),(7,.p (i64 x.1))]) (fun _=>[(3,.box ((cS p).map .p))]) (fun x=>u.rows.length - x.1) (0,u) _ (bg.refl _ _) ⟨rfl,hs,ho,rfl,Nat.zero_le _⟩ ⟨Z,Z,Z,Z,Y⟩ ⟨Z,Y⟩ fun ⟨i,v⟩ hi tt h=>?_
 obtain⟨q1,q2,q3,q4,q5⟩:=hi
 simp only at q1 q2 q3 q4 q5
 (refine an<|yS<|yP Z<|yP Z<|yP Z<|yP Z<|yT<|ak Z ?_;refine aa (fun h1=>?_) (fun h1=>?_) <;> try simp only[zB] at h1)
 all_goals try dsimp only at h1
 ·cases v with
  | nil=>
   exfalso
   have:=congrArg List.length q1
   simp[Steps.rows] at this
   omega
  | cons s sub rest=>
   obtain⟨d1,d2,d3⟩:=fh q1
   obtain⟨r1,r2⟩:=q2
   obtain⟨o1,o2,o3,o4⟩:=q3
   have rA:∀k:Int,k=(i:Int)->0<=k/\u.rows[k.toNat]?=some (kM s sub.rows):=fun k hk=>by rw[hk];exact⟨by omega,by rw[Int.toNat_natCast];exact d1⟩
   rw[eK] at q4
   ((refine ar<|ah<|an<|aO<|an<|an<|cF [] false Km rfl (by kernel_rfl)<|aK Z<|aK Z<|aK Z<|aK Z<|aK Z<|aK Z<|eG Z Z ?_;refine cE Z<|yD Z<|yD Z<|yD Z<|dq Z<|aL zI ?_);refine⟨(kM s sub.rows),(rA _ rfl),?_⟩)
   (refine bM<|ae<|yD Z<|yD Z<|dq Z<|aL zI ?_;refine⟨_,_,(s_ p s sub.rows d hp o1 o2),?_⟩)
   ((refine bM<|ae<|yD Z<|bR<|ao Z<|ao Z<|ao Z<|ao Z<|ao Z<|ao Z<|ao Z<|dH Z Z<|bS Z<|ah ?_;refine yS<|yP Z<|yP Z<|yT<|ak Z ?_);refine aa (fun a1=>?_) (fun a1=>?_) <;> try simp only[zB] at a1)
   ·have a1:fO p s sub.rows.length d≠0:=by simpa using a1
    (refine yS<|yP Z<|yA Z<|yT<|aA<|af<|aq<|af<|af<|aq<|af<|aB zi ?_;refine And.intro ?_ trivial)
    rw[<-q4,dy rfl a1]
   have a1:fO p s sub.rows.length d=0:=by simpa using a1
   rw[eM a1] at q4
   have Nf:=yi a1
   ((refine ar<|ah<|an<|cF [] false Kn rfl (by kernel_rfl)<|aK Z<|aK Z<|aK Z<|aK Z<|aK Z<|aK Z<|aK Z<|aK Z<|eG Z Z<|cE Z ?_;refine yD Z<|yD Z<|yD Z<|dq Z<|aL zI ?_);refine⟨(kM s sub.rows),(rA _ rfl),?_⟩)
   (refine bM<|ae<|yD Z<|yD Z<|yD Z<|dq Z<|bb zI ?_;refine And.intro ⟨by first | omega | (dsimp only;omega),by first | omega | (dsimp only;omega)⟩ ?_)
   (refine bM<|ae<|dq Z<|aL zI ?_;refine⟨_,_,(r1 (d+1) (by omega) (by omega) (by omega) o2),?_⟩)
   ((refine bM<|ae<|yD Z<|bR<|ao Z<|ao Z<|ao Z<|ao Z<|ao Z<|ao Z<|ao Z<|ao Z<|ao Z<|dH Z Z ?_;refine bS Z<|ah<|yS<|yP Z<|yP Z<|yT<|ak Z ?_);refine aa (fun a2=>?_) (fun a2=>?_) <;> try simp only[zB] at a2)
   ·have a2:eK p sub (d+1)≠0:=by simpa using a2
    (refine yS<|yP Z<|yA Z<|yT<|aA<|aq<|af<|af<|aq<|af<|aB zi ?_;refine And.intro ?_ trivial)
    rw[<-q4,dy rfl a2]
   have a2:eK p sub (d+1)=0:=by simpa using a2
   rw[eM a2] at q4
   (refine ar<|aS<|ah<|aP<|yP Z<|yq Z<|bb zI ?_;refine And.intro ⟨by first | omega | (dsimp only;omega),by first | omega | (dsimp only;omega)⟩ ?_)
   (refine yk<|yA Z<|yT<|au ?_;refine⟨(i+1,rest),_,bg.refl _ _,?_⟩)
   exact⟨⟨d2,r2,o4,q4,by dsimp only;omega⟩,by dsimp only;omega,⟨Z,Z,Z,Z,Y⟩,⟨Z,Y⟩⟩
 have hv:v=.nil:=mJ (by rw[<-q1,List.length_drop];omega)
 rw[hv,eK] at q4
 (refine bF<|aQ<|aQ<|bG<|ah<|yS<|yA Z<|yR zi ?_;refine And.intro ?_ trivial)
 rw[<-q4];rfl
theorem ri (p:fM) (hp:kD p) (u:Steps) (ho:u.ok) (hN:u.rows.length<=1048576):aw C 60 [.pv (.ag (cS p)),.pv (.sl u.rows),.pv (i64 0)] (.p (i64 (eK p u 0))) []:=(Steps.qa (Q:=jV p) (fun u h1 h2=>oy p hp u h1 h2) u ho).1 0 (by omega) (by omega) (by omega) hN
theorem lQ (p:fM) (ho:mK p):aw C 46 [.pv (.ag (cS p))] (.p (i64 (cn p))) []:=by
 refine aE hC Tryz.func46 rfl rfl 52 rfl (by decide) (by kernel_rfl) fun _ _ _ _ _=>?_
 have lm:=aJ p.tools ug
 obtain⟨⟨Ng,KJ⟩,yy,CP⟩:=ho
 have K7:=gU p.steps
 (refine yS<|yn Z<|az zI<|aR<|ai<|yA Z<|yT<|an<|yS<|yV Z<|yP Z<|yn Z<|aL zI ?_;refine⟨_,_,(dI p.unit 1 1000),?_⟩)
 (refine br Z Z<|ae<|yP Z<|yT<|ak Z ?_;refine aa (fun g0=>?_) (fun g0=>?_) <;> try simp only[zB] at g0)
 ·(refine yS<|yA Z<|yT<|aA<|af<|aB zi ?_;refine And.intro ?_ trivial)
  rw[cn,if_neg (by simp[g0])];rfl
 have g0:er p.unit 1 1000=true:=by simpa using g0
 have hu:=eE.1 g0
 have hp:kD p:=⟨hu,Ng⟩
 rw[cn,if_pos g0]
 (refine ar<|ah<|an<|yS<|yV Z<|yP Z<|yP Z<|yP Z<|yT<|ak Z ?_;refine aa (fun g1=>?_) (fun g1=>?_) <;> try simp only[zB] at g1)
 ·(refine yS<|yA Z<|yT<|aA<|af<|aB zi ?_;refine And.intro ?_ trivial)
  rw[if_pos (by omega)];rfl
 rw[if_neg (by omega)]
 have EU:∀{c:Int},a8 (fY p.unit p.tools) 0 p.tools.length=c->c≠0->nq (a8 (fY p.unit p.tools) 0 p.tools.length) (if 3000 < cntF p.steps then 2 else eK p p.steps 0)=c:=fun e h0=>dy e h0
 refine ar<|ah<|an<|yS<|yV Z<|yP Z<|yP Z<|yP Z<|yT<|aO ?_
 refine aC (fun i:Nat=>i<=p.tools.length/\∀k,k < i->fY p.unit p.tools k=0) (fun i=>[(1,.bx 1 0),(15,.p (.sl (p.tools.map ug))),(16,.p (i64 p.tools.length)),(17,.p (i64 i))]) (fun _=>[(1,.box ((cS p).map .p))]) (fun i=>p.tools.length - i) 0 _ (bg.refl _ _) ⟨Nat.zero_le _,fun k h=>by omega⟩ ⟨rfl,rfl,congrArg (fun n:Nat=>AV.p (i64 n)) lm,Z,Y⟩ ⟨Z,Y⟩ fun i hi t h=>?_
 (refine yS<|yP Z<|yT<|an<|ak Z ?_;refine aa (fun h1=>?_) (fun h1=>?_) <;> try simp only[zB] at h1)
 ·obtain⟨x,hx⟩:=aH (l:=p.tools) (i:=i) (by omega)
  have cf:fY p.unit p.tools i=nq (mI p.unit x) (if bE (p.tools.map da.name) i=true then 8 else 0):=by simp only[fY,hx]
  (refine ar<|ah<|an<|aO<|yS<|yP Z<|yq Z<|aL zI ?_;refine⟨(ug x),(idx rfl hx),?_⟩)
  ((refine yk<|yP Z<|yn Z<|az zI<|aR<|ai<|yA Z<|yq Z<|az zI<|aX<|aM<|aU<|yT<|an ?_;refine yS<|yP Z<|yV Z<|yP Z<|yn Z<|aL zI ?_);refine⟨_,_,(s5 x p.unit hu (KJ x (List.mem_of_getElem? hx))),?_⟩)
  (refine br Z Z<|ae<|yA Z<|yU<|yP Z<|yP Z<|yT<|ak Z ?_;refine aa (fun a2=>?_) (fun a2=>?_) <;> try simp only[zB] at a2)
  ·have a2:mI p.unit x≠0:=by simpa using a2
   rw[dy rfl a2] at cf
   (refine yS<|yP Z<|yA Z<|yT<|aA<|af<|aq<|af<|af<|aq<|af<|aB zi ?_;refine And.intro ?_ trivial)
   rw[EU (aI hi.2 (by omega) cf a2) a2]
  have a2:mI p.unit x=0:=by simpa using a2
  rw[eM a2] at cf
  (refine ar<|ah<|an<|cF [] false lX rfl (by kernel_rfl)<|cE Z<|yD Z<|yD Z<|yD Z<|dg Z ?_;refine aa (fun o1=>?_) (fun o1=>?_) <;> try simp only[zB] at o1)
  ·obtain⟨z,hz⟩:=aH (l:=p.tools) (i:=i - 1) (by omega)
   rw[dG (f:=da.name) hx hz (by omega)] at cf
   ((refine aV<|bA Z<|az zI<|bM<|ai<|d1 Z<|d2 Z<|bA Z<|az zI<|bM<|ai<|d1 Z<|d1 Z<|d2 Z ?_;refine bA Z<|bb zI ?_);refine sI ?_)
   (refine bM<|ae<|d2 Z<|bA Z<|aL zI ?_;refine⟨(ug z),(idx (show (i:Int) - 1=((i - 1:Nat):Int) by omega) hz),?_⟩)
   (refine bM<|ae<|d1 Z<|d1 Z<|d1 Z<|yD Z<|bR<|bS Z<|ah<|ak Z ?_;refine aa (fun o2=>?_) (fun o2=>?_) <;> try simp only[zB] at o2)
   ·(refine yS<|yA Z<|yT<|aA<|aq<|af<|af<|aq<|af<|aB zi ?_;refine And.intro ?_ trivial)
    have o2:(cB (da.name x) (da.name z) || decide (da.name x=da.name z))=true:=by simpa [cB] using o2
    rw[o2,if_pos rfl] at cf
    rw[EU (aI hi.2 (by omega) cf (by decide)) (by decide)];rfl
   have o2:(cB (da.name x) (da.name z) || decide (da.name x=da.name z))=false:=by simpa [cB] using o2
   rw[o2,if_neg (by decide)] at cf
   (refine ar<|aS<|ah<|aP<|yq Z<|bb zI ?_;refine sI ?_)
   (refine yk<|yP Z<|yT<|au ?_;refine⟨(i+1),_,bg.refl _ _,?_⟩)
   exact⟨⟨by omega,cw hi.2 cf⟩,by omega,⟨Z,Z,Z,Z,Y⟩,⟨Z,Y⟩⟩
  have h0:i=0:=by omega
  rw[eU h0,if_neg (by decide)] at cf
  ((refine aT<|ae<|d0 Z<|d0 Z<|d0 Z<|d0 Z<|d0 Z<|d0 Z<|d0 Z<|d0 Z<|d0 Z<|yD Z<|bR<|bS Z ?_;refine ah<|ak Z<|bz<|ar<|aS<|ah<|aP<|yq Z<|bb zI ?_);refine sI ?_)
  (refine yk<|yP Z<|yT<|au ?_;refine⟨(i+1),_,bg.refl _ _,?_⟩)
  exact⟨⟨by omega,cw hi.2 cf⟩,by omega,⟨Z,Z,Z,Z,Y⟩,⟨Z,Y⟩⟩
 skip
 have z0:a8 (fY p.unit p.tools) 0 p.tools.length=0:=bp fun k _ hk=>hi.2 k (by omega)
 rw[eM z0]
 (refine bF<|aQ<|aQ<|bG<|ah<|an<|yS<|yV Z<|yP Z<|yn Z<|aL zI ?_;refine⟨_,_,(yo p.steps CP yy),?_⟩)
 (refine br Z Z<|ae<|yP Z<|yT<|ak Z ?_;refine aa (fun g3=>?_) (fun g3=>?_) <;> try simp only[zB] at g3)
 ·(refine yS<|yA Z<|yT<|aA<|af<|aB zi ?_;refine And.intro ?_ trivial)
  rw[if_pos g3];rfl
 rw[if_neg g3]
 (refine ar<|ah<|yS<|yP Z<|yV Z<|yP Z<|yn Z<|aL zI ?_;refine⟨_,_,(qb p hp p.steps CP yy),?_⟩)
 (refine br Z Z<|ae<|yA Z<|yR zi ?_;refine And.intro ?_ trivial)
 rfl
theorem mL (p:fM) (ho:mK p):aw C 22 [.pv (.ag (cS p))] (.p (i64 (cn p))) []:=by
 refine aE hC Tryz.func22 rfl rfl 60 rfl (by decide) (by kernel_rfl) fun _ _ _ _ _=>?_
 have lm:=aJ p.tools ug
 obtain⟨⟨Ng,KJ⟩,yy,CP⟩:=ho
 have K7:=gU p.steps
 (refine yS<|yn Z<|az zI<|aR<|ai<|yA Z<|yT<|an<|yS<|yV Z<|yP Z<|yn Z<|aL zI ?_;refine⟨_,_,(eY p.unit 1 1000),?_⟩)
 (refine br Z Z<|ae<|yP Z<|yT<|ak Z ?_;refine aa (fun g0=>?_) (fun g0=>?_) <;> try simp only[zB] at g0)
 ·(refine yS<|yA Z<|yT<|aA<|af<|aB zi ?_;refine And.intro ?_ trivial)
  rw[cn,if_neg (by simp[g0])];rfl
 have g0:er p.unit 1 1000=true:=by simpa using g0
 have hu:=eE.1 g0
 have hp:kD p:=⟨hu,Ng⟩
 rw[cn,if_pos g0]
 (refine ar<|ah<|an<|yS<|yV Z<|yP Z<|yP Z<|yP Z<|yT<|ak Z ?_;refine aa (fun g1=>?_) (fun g1=>?_) <;> try simp only[zB] at g1)
 ·(refine yS<|yA Z<|yT<|aA<|af<|aB zi ?_;refine And.intro ?_ trivial)
  rw[if_pos (by omega)];rfl
 rw[if_neg (by omega)]
 have EU:∀{c:Int},a8 (fY p.unit p.tools) 0 p.tools.length=c->c≠0->nq (a8 (fY p.unit p.tools) 0 p.tools.length) (if 3000 < cntF p.steps then 2 else eK p p.steps 0)=c:=fun e h0=>dy e h0
 refine ar<|ah<|an<|yS<|yA Z<|yT<|aO ?_
 refine aC (fun i:Nat=>i<=p.tools.length/\∀k,k < i->fY p.unit p.tools k=0) (fun i=>[(1,.bx 1 0),(3,.p (i64 i))]) (fun _=>[(1,.box ((cS p).map .p))]) (fun i=>p.tools.length - i) 0 _ (bg.refl _ _) ⟨Nat.zero_le _,fun k h=>by omega⟩ ⟨Z,Z,Y⟩ ⟨Z,Y⟩ fun i hi t h=>?_
 (refine an<|yS<|yP Z<|yV Z<|yP Z<|yP Z<|yP Z<|yT<|ak Z ?_;refine aa (fun h1=>?_) (fun h1=>?_) <;> try simp only[zB] at h1)
 ·obtain⟨x,hx⟩:=aH (l:=p.tools) (i:=i) (by omega)
  have cf:fY p.unit p.tools i=nq (mI p.unit x) (if bE (p.tools.map da.name) i=true then 8 else 0):=by simp only[fY,hx]
  (refine ar<|ah<|an<|aO<|yS<|yV Z<|yP Z<|yP Z<|yq Z<|aL zI ?_;refine⟨(ug x),(idx rfl hx),?_⟩)
  obtain⟨so,sr⟩:=KJ x (List.mem_of_getElem? hx)
  ((refine yk<|yP Z<|yn Z<|az zI<|aR<|ai<|yq Z<|az zI<|aX<|aM<|aU<|yT<|an<|yS ?_;refine yV Z<|yP Z<|yn Z<|aL zI ?_);refine⟨_,_,(xY x.name so.le),?_⟩)
  (refine br Z Z<|ae<|yP Z<|yT<|ak Z ?_;refine aa (fun a1=>?_) (fun a1=>?_) <;> try simp only[zB] at a1)
  ·(refine yS<|yA Z<|yT<|aA<|af<|aq<|af<|af<|aq<|af<|aB zi ?_;refine And.intro ?_ trivial)
   rw[dy (c:=5) (by rw[mI,if_neg (by simp[a1])]) (by decide)] at cf
   rw[EU (aI hi.2 (by omega) cf (by decide)) (by decide)];rfl
  have et:mI p.unit x=jD p.unit x.cd:=by rw[mI,if_pos (by simpa using a1)]
  (refine ar<|ah<|an<|yS<|yV Z<|yP Z<|yV Z<|yP Z<|yn Z<|aL zI ?_;refine⟨_,_,(nF x.cd p.unit hu sr),?_⟩)
  (refine br Z Z<|ae<|yA Z<|yU<|yP Z<|yP Z<|yT<|ak Z ?_;refine aa (fun a2=>?_) (fun a2=>?_) <;> try simp only[zB] at a2)
  ·have a2:jD p.unit x.cd≠0:=by simpa using a2
   rw[dy et a2] at cf
   (refine yS<|yP Z<|yA Z<|yT<|aA<|af<|aq<|af<|af<|aq<|af<|aB zi ?_;refine And.intro ?_ trivial)
   rw[EU (aI hi.2 (by omega) cf a2) a2]
  have a2:jD p.unit x.cd=0:=by simpa using a2
  rw[eM (by rw[et,a2])] at cf
  (refine ar<|ah<|an<|cF [] false lX rfl (by kernel_rfl)<|cE Z<|yD Z<|yD Z<|yD Z<|dg Z ?_;refine aa (fun o1=>?_) (fun o1=>?_) <;> try simp only[zB] at o1)
  ·obtain⟨z,hz⟩:=aH (l:=p.tools) (i:=i - 1) (by omega)
   rw[dG (f:=da.name) hx hz (by omega)] at cf
   ((refine aV<|bA Z<|az zI<|bM<|ai<|d1 Z<|d2 Z<|bA Z<|az zI<|bM<|ai<|d1 Z<|d1 Z<|d2 Z ?_;refine bA Z<|bb zI ?_);refine sI ?_)
   (refine bM<|ae<|d2 Z<|bA Z<|aL zI ?_;refine⟨(ug z),(idx (show (i:Int) - 1=((i - 1:Nat):Int) by omega) hz),?_⟩)
   (refine bM<|ae<|d1 Z<|d1 Z<|d1 Z<|yD Z<|bR<|bS Z<|ah<|ak Z ?_;refine aa (fun o2=>?_) (fun o2=>?_) <;> try simp only[zB] at o2)
   ·(refine yS<|yA Z<|yT<|aA<|aq<|af<|af<|aq<|af<|aB zi ?_;refine And.intro ?_ trivial)
    have o2:(cB (da.name x) (da.name z) || decide (da.name x=da.name z))=true:=by simpa [cB] using o2
    rw[o2,if_pos rfl] at cf
    rw[EU (aI hi.2 (by omega) cf (by decide)) (by decide)];rfl
   have o2:(cB (da.name x) (da.name z) || decide (da.name x=da.name z))=false:=by simpa [cB] using o2
   rw[o2,if_neg (by decide)] at cf
   (refine ar<|aS<|ah<|aP<|yP Z<|yq Z<|bb zI ?_;refine sI ?_)
   (refine yk<|yA Z<|yT<|au ?_;refine⟨(i+1),_,bg.refl _ _,?_⟩)
   exact⟨⟨by omega,cw hi.2 cf⟩,by omega,⟨Z,Z,Y⟩,⟨Z,Y⟩⟩
  have h0:i=0:=by omega
  rw[eU h0,if_neg (by decide)] at cf
  ((refine aT<|ae<|d0 Z<|d0 Z<|d0 Z<|d0 Z<|d0 Z<|d0 Z<|d0 Z<|d0 Z<|d0 Z<|yD Z<|bR<|bS Z ?_;refine ah<|ak Z<|bz<|ar<|aS<|ah<|aP<|yP Z<|yq Z<|bb zI ?_);refine sI ?_)
  (refine yk<|yA Z<|yT<|au ?_;refine⟨(i+1),_,bg.refl _ _,?_⟩)
  exact⟨⟨by omega,cw hi.2 cf⟩,by omega,⟨Z,Z,Y⟩,⟨Z,Y⟩⟩
 skip
 have z0:a8 (fY p.unit p.tools) 0 p.tools.length=0:=bp fun k _ hk=>hi.2 k (by omega)
 rw[eM z0]
 (refine bF<|aQ<|aQ<|bG<|ah<|an<|yS<|yV Z<|yP Z<|yn Z<|aL zI ?_;refine⟨_,_,(Aj p.steps CP yy),?_⟩)
 (refine br Z Z<|ae<|yP Z<|yT<|ak Z ?_;refine aa (fun g3=>?_) (fun g3=>?_) <;> try simp only[zB] at g3)
 ·(refine yS<|yA Z<|yT<|aA<|af<|aB zi ?_;refine And.intro ?_ trivial)
  rw[if_pos g3];rfl
 rw[if_neg g3]
 (refine ar<|ah<|yS<|yP Z<|yV Z<|yP Z<|yn Z<|aL zI ?_;refine⟨_,_,(ri p hp p.steps CP yy),?_⟩)
 (refine br Z Z<|ae<|yA Z<|yR zi ?_;refine And.intro ?_ trivial)
 rfl
end M
end Go.Proofs.YtiaifckpmefinaaGreatDoor
