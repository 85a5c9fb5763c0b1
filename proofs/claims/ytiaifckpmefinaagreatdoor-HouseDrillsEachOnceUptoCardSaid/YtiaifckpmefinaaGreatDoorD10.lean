/- Part 10 of 11 of the proof of HouseDrillsEachOnce (the names are shortened by a program: the size of a claim is limited). -/
import Derived.Test.YtiaifckpmefinaaGreatDoorD09
set_option linter.unusedVariables false
set_option linter.unusedSimpArgs false
set_option maxRecDepth 100000
set_option maxHeartbeats 8000000
namespace Go.Proofs.YtiaifckpmefinaaGreatDoor
namespace M
open Go.AM Go.RowKit Go.Lib
open aK (lexLt sS iB)
theorem xY (o:Order) (y:ByteArray) (hN:o.mats.length<=1048576):af C 82 [.pv (.ag (sR o)),.pv (str y)] (.p (i64 (fo o.mats y).thick)) []:=by
 refine ah hC Tryz.func82 rfl rfl 22 rfl (by decide) (by kernel_rfl) fun _ _ _ _ _=>?_
 have lm:=ai o.mats l7
 (repeat refine yY Z ?_)
 refine ak (fun i:Nat=>i<=o.mats.length/\∀z∈o.mats.take i,decide (z.name=y)=false) (fun i=>[(1,.p (str y)),(8,.p (.sl (o.mats.map l7))),(9,.p (i64 (o.mats.map l7).length)),(10,.p (i64 i))]) (fun _=>[]) (fun i=>o.mats.length - i) 0 _ (aD.refl _ _) ⟨Nat.zero_le _,by simp⟩ ⟨Z,Z,Z,Z,Y⟩ trivial fun i hi t h=>?_
 (repeat refine yY Z ?_);refine iF Z (fun h1=>?_) (fun h1=>?_)
 ·rw[lm] at h1
  obtain⟨r,hr⟩:=aj (l:=o.mats) (i:=i) (by omega)
  have hq:=cmp_eq r.name y
  (repeat refine yY Z ?_);refine zX zi ⟨(l7 r),(idx rfl hr),?_⟩
  (repeat refine yY Z ?_);refine zX zi ⟨_,_,(dx r.name y),?_⟩
  (repeat refine yY Z ?_);refine iF Z (fun h2=>?_) (fun h2=>?_)
  ·have h2:r.name=y:=hq.1 h2
   (repeat refine yY Z ?_);refine aa zi (And.intro ?_ trivial)
   have e:fy cu.name o.mats y=(i:Int):=by rw[fy,dr (p:=fun z=>decide (cu.name z=y)) hr (decide_eq_true h2) hi.2,Nat.zero_add]
   rw[fo,vR,if_pos (by omega),e,Int.toNat_natCast,hr]
   rfl
  have h2:¬r.name=y:=fun e=>h2 (hq.2 e)
  (repeat refine yY Z ?_);refine zA zi (And.intro ⟨by omega,by omega⟩ ?_)
  (repeat refine yY Z ?_);refine ae ⟨(i+1),_,aD.refl _ _,?_⟩
  exact⟨⟨by omega,fE (p:=fun z=>decide (cu.name z=y)) hr (decide_eq_false h2) hi.2⟩,by omega,⟨Z,Z,Z,Z,Y⟩,trivial⟩
 rw[lm] at h1
 (repeat refine yY Z ?_);refine aa zi (And.intro ?_ trivial)
 have h2:=hi.2
 rw[List.take_of_length_le (by omega)] at h2
 have e:fy cu.name o.mats y=-1:=by rw[fy,bT (p:=fun z=>decide (cu.name z=y)) h2]
 rw[fo,vR,if_neg (by omega)]
 rfl
theorem xZ {m:List cu} (gm:jr m) (y:ByteArray):0<=(fo m y).thick/\(fo m y).thick<=2000:=by
 cases h:cJ cu.name m y with
 | true=>
  obtain⟨k,x,_,e2,_,e4⟩:=jq h
  rw[fo,e4]
  have:=gm.thick x (List.mem_of_getElem? e2)
  exact⟨by show (0:Int)<=x.thick;omega,this.2⟩
 | false=>rw[fo,ma h];decide
def ly (o:Order) (lo hi:Int) (k:Nat):Int:=match o.stack[k]? with
 | some l=>if lo<=(bX (o.stack.take (k+1)):Int) - 1/\((bX (o.stack.take (k+1)):Int) - 1 < hi\/(bX (o.stack.take (k+1)):Int) - 1=hi/\¬l.name=aX) then (fo o.mats l.mat).thick else 0
 | none=>0
def gq (o:Order) (lo hi:Int):Nat->Int
 | 0=>0
 | k+1=>gq o lo hi k+ly o lo hi k
def Jh (o:Order) (lo hi:Int):Int:=gq o lo hi o.stack.length
theorem x_ {o:Order} (gm:jr o.mats) (lo hi:Int):∀k:Nat,0<=gq o lo hi k/\gq o lo hi k<=2000*(k:Int)
 | 0=>by simp[gq]
 | k+1=>by
  have ih:=x_ gm lo hi k
  rw[gq]
  have:0<=ly o lo hi k/\ly o lo hi k<=2000:=by
   unfold ly
   split
   ·split
    ·exact xZ gm _
    decide
   decide
  omega
theorem ya (o:Order) (lo hi:Int) (gm:jr o.mats) (hS:o.stack.length<=1048576):af C 31 [.pv (.ag (sR o)),.pv (i64 lo),.pv (i64 hi)] (.p (i64 (Jh o lo hi))) []:=by
 refine ah hC Tryz.func31 rfl rfl 49 rfl (by decide) (by kernel_rfl) fun _ _ _ _ _=>?_
 have lm:=ai o.stack mM
 have gl:=gm.len
 (repeat refine yY Z ?_)
 refine ak (fun i:Nat=>i<=o.stack.length) (fun i=>[(1,.p (i64 lo)),(2,.p (i64 hi)),(3,.bx 3 0),(7,.p (i64 ((bX (o.stack.take i):Int) - 1))),(8,.p (i64 (gq o lo hi i))),(12,.p (.sl (o.stack.map mM))),(13,.p (i64 (o.stack.map mM).length)),(14,.p (i64 i))]) (fun _=>[(3,.box ((sR o).map .p))]) (fun i=>o.stack.length - i) 0 _ (aD.refl _ _) (Nat.zero_le _) ⟨Z,Z,Z,Z,Z,Z,Z,Z,Y⟩ ⟨Z,Y⟩ fun i tE t h=>?_
 (repeat refine yY Z ?_);refine iF Z (fun h1=>?_) (fun h1=>?_)
 ·rw[lm] at h1
  obtain⟨l,hl⟩:=aj (l:=o.stack) (i:=i) (by omega)
  have LG:=sB hl
  have J3:=lu (o.stack.take i)
  have Ro:(o.stack.take i).length<=i:=by rw[List.length_take];omega
  have hd:ly o lo hi i=if lo<=(bX (o.stack.take (i+1)):Int) - 1/\((bX (o.stack.take (i+1)):Int) - 1 < hi\/(bX (o.stack.take (i+1)):Int) - 1=hi/\¬l.name=aX) then (fo o.mats l.mat).thick else 0:=by simp only[ly,hl]
  have R1:=x_ gm lo hi i
  have dv:=xZ gm l.mat
  have MB:gq o lo hi (i+1)=gq o lo hi i+ly o lo hi i:=rfl
  have hth:=xY o l.mat (by omega)
  have bG:(l.name=aX)=(l.name=ByteArray.empty):=rfl
  (repeat refine yY Z ?_);refine zX zi ⟨(mM l),(idx rfl hl),?_⟩
  (repeat refine yY Z ?_);refine iF Z (fun h2=>?_) (fun h2=>?_)
  ·have h2:¬l.name=aX:=h2
   rw[if_neg h2] at LG
   have Ht:(bX (o.stack.take i):Int) - 1+1=(bX (o.stack.take (i+1)):Int) - 1:=by omega
   have OT:ly o lo hi i=(fo o.mats l.mat).thick->gq o lo hi i+(fo o.mats l.mat).thick=gq o lo hi (i+1):=fun e=>by rw[MB,e]
   have OU:ly o lo hi i=0->gq o lo hi i=gq o lo hi (i+1):=fun e=>by rw[MB,e,Int.add_zero]
   (repeat refine yY Z ?_);refine zA zi (And.intro ⟨by omega,by omega⟩ ?_)
   repeat' first | ((repeat refine yY Z ?_);refine iF Z (fun d=>?_) (fun d=>?_)) | ((repeat refine yY Z ?_);refine zX zi ⟨_,_,hth,?_⟩)
   all_goals ((repeat refine yY Z ?_);refine zA zi ?_)
   all_goals first
    | exact absurd ‹l.name=_› h2
    | (
      refine And.intro ⟨by omega,by omega⟩ ?_
      (repeat refine yY Z ?_);refine zA zi (And.intro ⟨by omega,by omega⟩ ?_)
      (repeat refine yY Z ?_);refine ae ⟨(i+1),_,aD.refl _ _,?_⟩
      exact⟨by omega,by omega,⟨rfl,rfl,rfl,aS Ht,aS (OT (by rw[hd,if_pos ⟨by omega,by first | exact .inl (by omega) | exact .inr ⟨by omega,h2⟩⟩])),Z,Z,Z,Y⟩,⟨Z,Y⟩⟩)
    | (
      refine And.intro ⟨by omega,by omega⟩ ?_
      (repeat refine yY Z ?_);refine ae ⟨(i+1),_,aD.refl _ _,?_⟩
      exact⟨by omega,by omega,⟨rfl,rfl,rfl,aS Ht,aS (OU (by rw[hd,if_neg (by rintro⟨k1,k2 | ⟨k2,k3⟩⟩ <;> omega)])),Z,Z,Z,Y⟩,⟨Z,Y⟩⟩)
  have h2:l.name=aX:=by simpa [aX] using h2
  rw[if_pos h2] at LG
  have Ht:(bX (o.stack.take i):Int) - 1=(bX (o.stack.take (i+1)):Int) - 1:=by omega
  have OT:ly o lo hi i=(fo o.mats l.mat).thick->gq o lo hi i+(fo o.mats l.mat).thick=gq o lo hi (i+1):=fun e=>by rw[MB,e]
  have OU:ly o lo hi i=0->gq o lo hi i=gq o lo hi (i+1):=fun e=>by rw[MB,e,Int.add_zero]
  repeat' first | ((repeat refine yY Z ?_);refine iF Z (fun d=>?_) (fun d=>?_)) | ((repeat refine yY Z ?_);refine zX zi ⟨_,_,hth,?_⟩)
  all_goals ((repeat refine yY Z ?_);refine zA zi ?_)
  all_goals first
   | exact absurd h2 ‹¬l.name=_›
   | (
     refine And.intro ⟨by omega,by omega⟩ ?_
     (repeat refine yY Z ?_);refine zA zi (And.intro ⟨by omega,by omega⟩ ?_)
     (repeat refine yY Z ?_);refine ae ⟨(i+1),_,aD.refl _ _,?_⟩
     exact⟨by omega,by omega,⟨rfl,rfl,rfl,aS Ht,aS (OT (by rw[hd,if_pos ⟨by omega,.inl (by omega)⟩])),Z,Z,Z,Y⟩,⟨Z,Y⟩⟩)
   | (
     refine And.intro ⟨by omega,by omega⟩ ?_
     (repeat refine yY Z ?_);refine ae ⟨(i+1),_,aD.refl _ _,?_⟩
     exact⟨by omega,by omega,⟨rfl,rfl,rfl,aS Ht,aS (OU (by rw[hd,if_neg (by rintro⟨k1,k2 | ⟨k2,k3⟩⟩ <;> first | exact k3 h2 | omega)])),Z,Z,Z,Y⟩,⟨Z,Y⟩⟩)
 rw[lm] at h1
 have e:i=o.stack.length:=by omega
 (repeat refine yY Z ?_);refine aa zi (And.intro ?_ trivial)
 rw[Jh,<-e]
structure eJ where
 name:ByteArray
 size:Int
 life:Int
 stack:Int
structure bD where
 x:Int
 y:Int
 size:Int
 depth:Int
 plated:Bool
def ff (b:eJ):List PV:=[str b.name,i64 b.size,i64 b.life,i64 b.stack]
def pL (h:bD):List PV:=[i64 h.x,i64 h.y,i64 h.size,i64 h.depth,bool h.plated]
theorem eB (n lo hi:Int):af C 85 [.pv (i64 n),.pv (i64 lo),.pv (i64 hi)] (.p (bool (dP n lo hi))) []:=by
 refine ah hC Tryz.func85 rfl rfl 15 rfl (by decide) (by kernel_rfl) fun _ _ _ _ _=>?_
 (repeat refine yY Z ?_);refine iF Z (fun h=>?_) (fun h=>?_)
 ·(repeat refine yY Z ?_);refine aa zi (And.intro ?_ trivial)
  simp[bool,dP,h]
 (repeat refine yY Z ?_);refine aa zi (And.intro ?_ trivial)
 simp[bool,dP,h]
def iE (h:bD):Bool:=(aK.nX h.x && aK.nX h.y) && (dP h.size 1 10000 && dP h.depth 1 100000)
def ee (l:List bD):Int:=if 2000 < l.length then 2 else if l.all iE=true then 0 else 1
theorem jx (l:List bD) (hN:l.length<=1048576):af C 84 [.pv (.sl (l.map pL))] (.p (i64 (ee l))) []:=by
 refine ah hC Tryz.func84 rfl rfl 31 rfl (by decide) (by kernel_rfl) fun _ _ _ _ _=>?_
 have lm:=ai l pL
 (repeat refine yY Z ?_);refine iF Z (fun g1=>?_) (fun g1=>?_)
 ·(repeat refine yY Z ?_);refine aa zi (And.intro ?_ trivial)
  rw[ee,if_pos (by omega)];rfl
 rw[ee,if_neg (by omega)]
 (repeat refine yY Z ?_)
 refine ak (fun i:Nat=>i<=l.length/\(l.take i).all iE=true) (fun i=>[(8,.p (.sl (l.map pL))),(9,.p (i64 l.length)),(10,.p (i64 i))]) (fun _=>[]) (fun i=>l.length - i) 0 _ (aD.refl _ _) ⟨Nat.zero_le _,rfl⟩ ⟨rfl,congrArg (fun n:Nat=>AV.p (i64 n)) lm,Z,Y⟩ trivial fun i hi t h=>?_
 (repeat refine yY Z ?_);refine iF Z (fun h1=>?_) (fun h1=>?_)
 ·obtain⟨x,hx⟩:=aj (l:=l) (i:=i) (by omega)
  have bad:iE x=false->(if l.all iE=true then (0:Int) else 1)=1:=fun e=>if_neg (by rw[Bool.not_eq_true,List.all_eq_false];exact⟨x,List.mem_of_getElem? hx,by rw[e];decide⟩)
  have Ji:iE x=true->(l.take (i+1)).all iE=true:=fun e=>by rw[aN hx,List.all_append,hi.2];simp[e]
  (repeat refine yY Z ?_);refine zX zi ⟨(pL x),(idx rfl hx),?_⟩
  (repeat refine yY Z ?_);refine zX zi ⟨_,_,(mI x.x x.y),?_⟩
  (repeat refine yY Z ?_);refine iF Z (fun a1=>?_) (fun a1=>?_)
  ·(repeat refine yY Z ?_);refine aa zi (And.intro ?_ trivial)
   rw[bad (by rw[iE,a1];rfl)];rfl
  (repeat refine yY Z ?_);refine zX zi ⟨_,_,(eB x.size 1 10000),?_⟩
  (repeat refine yY Z ?_);refine iF Z (fun a2=>?_) (fun a2=>?_)
  ·(repeat refine yY Z ?_);refine aa zi (And.intro ?_ trivial)
   rw[bad (by rw[iE,a1,a2];rfl)];rfl
  (repeat refine yY Z ?_);refine zX zi ⟨_,_,(eB x.depth 1 100000),?_⟩
  (repeat refine yY Z ?_);refine iF Z (fun a3=>?_) (fun a3=>?_)
  ·(repeat refine yY Z ?_);refine aa zi (And.intro ?_ trivial)
   rw[bad (by rw[iE,a1,a2,a3];rfl)];rfl
  (repeat refine yY Z ?_);refine zA zi (And.intro ⟨by omega,by omega⟩ ?_)
  (repeat refine yY Z ?_);refine ae ⟨(i+1),_,aD.refl _ _,?_⟩
  exact⟨⟨by omega,Ji (by rw[iE,a1,a2,a3];rfl)⟩,by omega,⟨Z,Z,Z,Y⟩,trivial⟩
 have h2:=hi.2
 rw[List.take_of_length_le (by omega)] at h2
 (repeat refine yY Z ?_);refine aa zi (And.intro ?_ trivial)
 rw[if_pos h2];rfl
def sL (l:List eJ) (i:Nat):Int:=match l[i]? with
 | some x=>if dw x.name=true then (if dP x.size 1 10000=true then (if dP x.life 1 2000=true then (if dP x.stack 0 1000=true then (if a7 (l.map eJ.name) i=true then 8 else 0) else 1) else 1) else 1) else 5
 | none=>0
def ef (l:List eJ):Int:=if 100 < l.length then 2 else aH (sL l) 0 l.length
def pM (l:List eJ):Prop:=l.length<=1048576/\∀x∈l,aQ x.name
theorem fT (l:List eJ) (ho:pM l):af C 83 [.pv (.sl (l.map ff))] (.p (i64 (ef l))) []:=by
 refine ah hC Tryz.func83 rfl rfl 52 rfl (by decide) (by kernel_rfl) fun _ _ _ _ _=>?_
 have lm:=ai l ff
 (repeat refine yY Z ?_);refine iF Z (fun g1=>?_) (fun g1=>?_)
 ·(repeat refine yY Z ?_);refine aa zi (And.intro ?_ trivial)
  rw[ef,if_pos (by omega)];rfl
 rw[ef,if_neg (by omega)]
 (repeat refine yY Z ?_)
 refine ak (fun i:Nat=>i<=l.length/\∀k,k < i->sL l k=0) (fun i=>[(0,.p (.sl (l.map ff))),(8,.p (.sl (l.map ff))),(9,.p (i64 l.length)),(10,.p (i64 i))]) (fun _=>[]) (fun i=>l.length - i) 0 _ (aD.refl _ _) ⟨Nat.zero_le _,fun k h=>by omega⟩ ⟨rfl,rfl,congrArg (fun n:Nat=>AV.p (i64 n)) lm,Z,Y⟩ trivial fun i hi t h=>?_
 (repeat refine yY Z ?_);refine iF Z (fun h1=>?_) (fun h1=>?_)
 ·obtain⟨x,hx⟩:=aj (l:=l) (i:=i) (by omega)
  have cf:sL l i=(if dw x.name=true then (if dP x.size 1 10000=true then (if dP x.life 1 2000=true then (if dP x.stack 0 1000=true then (if a7 (l.map eJ.name) i=true then 8 else 0) else 1) else 1) else 1) else 5):=by simp only[sL,hx]
  (repeat refine yY Z ?_);refine zX zi ⟨(ff x),(idx rfl hx),?_⟩
  have so:=ho.2 x (List.mem_of_getElem? hx)
  (repeat refine yY Z ?_);refine zX zi ⟨_,_,(cB x.name so.le),?_⟩
  (repeat refine yY Z ?_);refine iF Z (fun a1=>?_) (fun a1=>?_)
  ·(repeat refine yY Z ?_);refine aa zi (And.intro ?_ trivial)
   rw[if_neg (by simp[a1])] at cf
   rw[au hi.2 (by omega) cf (by decide)];rfl
  rw[if_pos (by simpa using a1)] at cf
  (repeat refine yY Z ?_);refine zX zi ⟨_,_,(eB x.size 1 10000),?_⟩
  (repeat refine yY Z ?_);refine iF Z (fun a2=>?_) (fun a2=>?_)
  ·(repeat refine yY Z ?_);refine aa zi (And.intro ?_ trivial)
   rw[if_neg (by simp[a2])] at cf
   rw[au hi.2 (by omega) cf (by decide)];rfl
  rw[if_pos (by simpa using a2)] at cf
  (repeat refine yY Z ?_);refine zX zi ⟨_,_,(eB x.life 1 2000),?_⟩
  (repeat refine yY Z ?_);refine iF Z (fun a3=>?_) (fun a3=>?_)
  ·(repeat refine yY Z ?_);refine aa zi (And.intro ?_ trivial)
   rw[if_neg (by simp[a3])] at cf
   rw[au hi.2 (by omega) cf (by decide)];rfl
  rw[if_pos (by simpa using a3)] at cf
  (repeat refine yY Z ?_);refine zX zi ⟨_,_,(eB x.stack 0 1000),?_⟩
  (repeat refine yY Z ?_);refine iF Z (fun a4=>?_) (fun a4=>?_)
  ·(repeat refine yY Z ?_);refine aa zi (And.intro ?_ trivial)
   rw[if_neg (by simp[a4])] at cf
   rw[au hi.2 (by omega) cf (by decide)];rfl
  rw[if_pos (by simpa using a4)] at cf
  (repeat refine yY Z ?_);refine c_ [] false vf rfl (by kernel_rfl) ?_;(repeat refine yY Z ?_);refine iF Z (fun o1=>?_) (fun o1=>?_)
  ·obtain⟨z,hz⟩:=aj (l:=l) (i:=i - 1) (by omega)
   rw[eW (f:=eJ.name) hx hz (by omega)] at cf
   (repeat refine yY Z ?_);refine zA zi (And.intro ⟨by omega,by omega⟩ ?_)
   (repeat refine yY Z ?_);refine zX zi ⟨(ff z),(idx (show (i:Int) - 1=((i - 1:Nat):Int) by omega) hz),?_⟩
   (repeat refine yY Z ?_);refine iF Z (fun o2=>?_) (fun o2=>?_)
   ·(repeat refine yY Z ?_);refine aa zi (And.intro ?_ trivial)
    have o2:(ct (eJ.name x) (eJ.name z) || decide (eJ.name x=eJ.name z))=true:=by simpa [ct] using o2
    rw[o2,if_pos rfl] at cf
    rw[au hi.2 (by omega) cf (by decide)];rfl
   have o2:(ct (eJ.name x) (eJ.name z) || decide (eJ.name x=eJ.name z))=false:=by simpa [ct] using o2
   rw[o2,if_neg (by decide)] at cf
   (repeat refine yY Z ?_);refine zA zi (And.intro ⟨by omega,by omega⟩ ?_)
   (repeat refine yY Z ?_);refine ae ⟨(i+1),_,aD.refl _ _,?_⟩
   exact⟨⟨by omega,cc hi.2 cf⟩,by omega,⟨Z,Z,Z,Z,Y⟩,trivial⟩
  have h0:i=0:=by omega
  rw[iz h0,if_neg (by decide)] at cf
  (repeat refine yY Z ?_);refine zA zi (And.intro ⟨by omega,by omega⟩ ?_)
  (repeat refine yY Z ?_);refine ae ⟨(i+1),_,aD.refl _ _,?_⟩
  exact⟨⟨by omega,cc hi.2 cf⟩,by omega,⟨Z,Z,Z,Z,Y⟩,trivial⟩
 (repeat refine yY Z ?_);refine aa zi (And.intro ?_ trivial)
 rw[aT fun k _ hk=>hi.2 k (by omega)];rfl
theorem Ad {l:List eJ} (h:ef l=0):l.length<=100/\∀b∈l,1<=b.size/\b.size<=10000:=by
 unfold ef at h
 split at h
 ·cases h
 refine⟨by omega,fun b hb=>?_⟩
 obtain⟨k,hk⟩:=List.mem_iff_getElem?.1 hb
 have h2:=cD h k (Nat.zero_le _) (by rw[Nat.zero_add];exact (List.getElem?_eq_some_iff.1 hk).1)
 simp only[sL,hk] at h2
 split at h2
 ·split at h2
  ·rename_i h3;exact cO.1 h3
  cases h2
 cases h2
theorem uq (n:Int):af C 170 [.pv (i64 n)] (.p (bool false)) []:=by
 refine ah hC Tryz.func170 rfl rfl 6 rfl (by decide) (by kernel_rfl) fun _ _ _ _ _=>?_
 (repeat refine yY Z ?_);refine aa zi (And.intro ?_ trivial)
 simp[bool]
theorem Br (a b:Int):af C 164 [.pv (i64 a),.pv (i64 b)] (.p (i64 (pH a b))) []:=by
 refine ah hC Tryz.func164 rfl rfl 20 rfl (by decide) (by kernel_rfl) fun _ _ _ _ _=>?_
 (repeat refine yY Z ?_);refine zX zi ⟨_,_,(uq a),?_⟩
 (repeat refine yY Z ?_);refine zX zi ⟨_,_,(uq b),?_⟩
 (repeat refine yY Z ?_);refine iF Z (fun h=>?_) (fun h=>?_)
 ·(repeat refine yY Z ?_);refine aa zi (And.intro ?_ trivial)
  rw[pH,if_pos h];rfl
 (repeat refine yY Z ?_);refine iF Z (fun h2=>?_) (fun h2=>?_)
 ·(repeat refine yY Z ?_);refine aa zi (And.intro ?_ trivial)
  rw[pH,if_neg h,if_pos h2];rfl
 (repeat refine yY Z ?_);refine aa zi (And.intro ?_ trivial)
 rw[pH,if_neg h,if_neg h2];rfl
theorem Jj (a b:Int):af C 163 [.pv (.sl [[i64 a],[i64 b]])] (.p (i64 (Gt a b))) []:=by
 refine ah hC Tryz.func163 rfl rfl 18 rfl (by decide) (by kernel_rfl) fun _ _ _ _ _=>?_
 (repeat refine yY Z ?_)
 refine ak (fun i:Nat=>i<=2/\(0 < i->a=0)/\(1 < i->b=0)) (fun i=>[(3,.p (i64 0)),(6,.p (.sl [[i64 a],[i64 b]])),(7,.p (i64 2)),(8,.p (i64 i))]) (fun _=>[]) (fun i=>2 - i) 0 _ (aD.refl _ _) ⟨by omega,fun h=>by omega,fun h=>by omega⟩ ⟨Z,Z,Z,Z,Y⟩ trivial fun i hi t h=>?_
 obtain⟨q1,q2,q3⟩:=hi
 (repeat refine yY Z ?_);refine iF Z (fun h1=>?_) (fun h1=>?_)
 ·rcases (show i=0\/i=1 by omega) with rfl | rfl
  ·(repeat refine yY Z ?_);refine zX zi ⟨[i64 a],⟨by decide,rfl⟩,?_⟩
   (repeat refine yY Z ?_);refine iF Z (fun h2=>?_) (fun h2=>?_)
   ·(repeat refine yY Z ?_);refine aa zi (And.intro ?_ trivial)
    rw[Gt,if_neg h2]
   have h2:a=0:=by omega
   (repeat refine yY Z ?_);refine zA zi (And.intro ⟨by decide,by decide⟩ ?_)
   (repeat refine yY Z ?_);refine ae ⟨1,_,aD.refl _ _,?_⟩
   exact⟨⟨by omega,fun _=>h2,fun h=>by omega⟩,by omega,⟨Z,Z,Z,Z,Y⟩,trivial⟩
  have e:=q2 (by omega)
  (repeat refine yY Z ?_);refine zX zi ⟨[i64 b],⟨by decide,rfl⟩,?_⟩
  (repeat refine yY Z ?_);refine iF Z (fun h2=>?_) (fun h2=>?_)
  ·(repeat refine yY Z ?_);refine aa zi (And.intro ?_ trivial)
   rw[Gt,if_pos e]
  have h2:b=0:=by omega
  (repeat refine yY Z ?_);refine zA zi (And.intro ⟨by decide,by decide⟩ ?_)
  (repeat refine yY Z ?_);refine ae ⟨2,_,aD.refl _ _,?_⟩
  exact⟨⟨by omega,fun _=>e,fun _=>h2⟩,by omega,⟨Z,Z,Z,Z,Y⟩,trivial⟩
 have e:=q2 (by omega)
 have e2:=q3 (by omega)
 (repeat refine yY Z ?_);refine aa zi (And.intro ?_ trivial)
 rw[Gt,if_pos e,e2]
def tA (size:Int) (b:eJ):Int:=max (b.size - size) (size - b.size)
theorem ET (b:eJ) (size:Int) (h1:1<=b.size/\b.size<=10000) (h2:1<=size/\size<=10000):af C 162 [.pv (.ag (ff b)),.pv (.ip [i64 size])] (.p (i64 (tA size b))) []:=by
 refine ah hC Tryz.func162 rfl rfl 13 rfl (by decide) (by kernel_rfl) fun _ _ _ _ _=>?_
 (repeat refine yY Z ?_);refine zA zi (And.intro ⟨by omega,by omega⟩ ?_)
 (repeat refine yY Z ?_);refine zA zi (And.intro ⟨by omega,by omega⟩ ?_)
 (repeat refine yY Z ?_);refine aa zi (And.intro ?_ trivial)
 rfl
def v7 (size:Int) (b c:eJ):Bool:=decide (Gt (pH (tA size b) (tA size c)) (pH c.size b.size) < 0)
def dQ (t:List eJ) (size near:Int):Nat->Int
 | 0=>-1
 | i+1=>match t[i]? with
  | some b=>if tA size b<=near/\(dQ t size near i < 0\/∃c,t[(dQ t size near i).toNat]?=some c/\v7 size b c=true) then i else dQ t size near i
  | none=>dQ t size near i
theorem qY (t:List eJ) (size near:Int):∀i:Nat,-1<=dQ t size near i/\dQ t size near i < i
 | 0=>by simp[dQ]
 | i+1=>by
  have ih:=qY t size near i
  rw[dQ]
  split
  ·split <;> omega
  omega
theorem yb {t:List eJ} {size near:Int} {i:Nat} {b:eJ} (h:t[i]?=some b) (h2:tA size b<=near/\(dQ t size near i < 0\/∃c,t[(dQ t size near i).toNat]?=some c/\v7 size b c=true)):dQ t size near (i+1)=i:=by
 rw[dQ];simp only[h];rw[if_pos h2]
theorem Bt {t:List eJ} {size near:Int} {i:Nat} {b:eJ} (h:t[i]?=some b) (h2:¬(tA size b<=near/\(dQ t size near i < 0\/∃c,t[(dQ t size near i).toNat]?=some c/\v7 size b c=true))):dQ t size near (i+1)=dQ t size near i:=by
 rw[dQ];simp only[h];rw[if_neg h2]
theorem tB (t:List eJ) (size near:Int) (ht:∀b∈t,1<=b.size/\b.size<=10000) (hz:1<=size/\size<=10000) (hN:t.length<=100):af C 86 [.pv (.sl (t.map ff)),.pv (i64 size),.pv (i64 near)] (.p (i64 (dQ t size near t.length))) []:=by
 refine ah hC Tryz.func86 rfl rfl 54 rfl (by decide) (by kernel_rfl) fun _ _ _ _ _=>?_
 have lm:=ai t ff
 skip
 refine mH ?_
 (repeat refine yY Z ?_);refine ae ?_
 refine JQ 4 (y:=.ip [i64 size]) (fz:=[(4,.gC [i64 size])]) (by exact hC) (by exact⟨rfl,rfl⟩) ?_
 (repeat refine yY Z ?_)
 refine ak (fun i:Nat=>i<=t.length) (fun i=>[(0,.p (.sl (t.map ff))),(2,.p (i64 near)),(7,.fn 162 [.p (.ip [i64 size])]),(8,.p (i64 (dQ t size near i))),(12,.p (.sl (t.map ff))),(13,.p (i64 t.length)),(14,.p (i64 i))]) (fun _=>[]) (fun i=>t.length - i) 0 _ (aD.refl _ _) (Nat.zero_le _) ⟨rfl,rfl,rfl,rfl,rfl,congrArg (fun n:Nat=>AV.p (i64 n)) lm,Z,Y⟩ trivial fun i hi tt h=>?_
 (repeat refine yY Z ?_);refine iF Z (fun h1=>?_) (fun h1=>?_)
 ·obtain⟨b,hb⟩:=aj (l:=t) (i:=i) (by omega)
  have kb:=ht b (List.mem_of_getElem? hb)
  have PQ:=qY t size near i
  (iterate 4 refine yY Z ?_)
  refine mH ?_
  (repeat refine yY Z ?_);refine zX zi ⟨(ff b),(idx rfl hb),?_⟩
  (repeat refine yY Z ?_);refine ae ?_
  refine JQ 10 (y:=.ip (ff b)) (fz:=[(10,.gC (ff b))]) (by exact hC) (by exact⟨rfl,rfl⟩) ?_
  (repeat refine yY Z ?_);refine c_ [] true [true,true,true,true,true,true,true,true,true,true,true,false,true,true,true,false,false,false,true,true,true,false,false,false,false,false,true,true,true,true,true,true] rfl (by kernel_rfl) ?_;(repeat refine yY Z ?_);refine zX zi ⟨_,_,(ET b size kb hz),?_⟩
  (repeat refine yY Z ?_);refine iF Z (fun a1=>?_) (fun a1=>?_)
  ·(repeat refine yY Z ?_);refine iF Z (fun a2=>?_) (fun a2=>?_)
   ·have e:=yb (size:=size) (near:=near) hb ⟨a1,.inl a2⟩
    (repeat refine yY Z ?_);refine zA zi (And.intro ⟨by omega,by omega⟩ ?_)
    (repeat refine yY Z ?_);refine ae ⟨(i+1),_,aD.refl _ _,?_⟩
    exact⟨by omega,by omega,⟨rfl,rfl,rfl,by rw[e];rfl,Z,Z,Z,Y⟩,trivial⟩
   obtain⟨c,hc⟩:=aj (l:=t) (i:=(dQ t size near i).toNat) (by omega)
   have kc:=ht c (List.mem_of_getElem? hc)
   have PR:dQ t size near i=((dQ t size near i).toNat:Int):=by omega
   (repeat refine yY Z ?_);refine zX zi ⟨_,_,(ET b size kb hz),?_⟩
   (repeat refine yY Z ?_);refine zX zi ⟨(ff c),(idx PR hc),?_⟩
   (repeat refine yY Z ?_);refine zX zi ⟨_,_,(ET c size kc hz),?_⟩
   (repeat refine yY Z ?_);refine zX zi ⟨_,_,(Br (tA size b) (tA size c)),?_⟩
   (repeat refine yY Z ?_);refine zX zi ⟨(ff c),(idx PR hc),?_⟩
   (repeat refine yY Z ?_);refine zX zi ⟨_,_,(Br c.size b.size),?_⟩
   (repeat refine yY Z ?_);refine zX zi ⟨_,_,(Jj (pH (tA size b) (tA size c)) (pH c.size b.size)),?_⟩
   (repeat refine yY Z ?_);refine iF Z (fun a3=>?_) (fun a3=>?_)
   ·have e:=yb (size:=size) (near:=near) hb ⟨a1,.inr ⟨c,hc,decide_eq_true a3⟩⟩
    (repeat refine yY Z ?_);refine zA zi (And.intro ⟨by omega,by omega⟩ ?_)
    (repeat refine yY Z ?_);refine ae ⟨(i+1),_,aD.refl _ _,?_⟩
    exact⟨by omega,by omega,⟨rfl,rfl,rfl,by rw[e];rfl,Z,Z,Z,Y⟩,trivial⟩
   have e:=Bt (size:=size) (near:=near) hb fun h=>by
    rcases h.2 with h | ⟨d,hd,h⟩
    ·exact a2 h
    rw[hc] at hd;injection hd with hd;subst hd;exact a3 (of_decide_eq_true h)
   (repeat refine yY Z ?_);refine zA zi (And.intro ⟨by omega,by omega⟩ ?_)
   (repeat refine yY Z ?_);refine ae ⟨(i+1),_,aD.refl _ _,?_⟩
   exact⟨by omega,by omega,⟨rfl,rfl,rfl,by rw[e];rfl,Z,Z,Z,Y⟩,trivial⟩
  have e:=Bt (size:=size) (near:=near) hb fun h=>a1 h.1
  (repeat refine yY Z ?_);refine zA zi (And.intro ⟨by omega,by omega⟩ ?_)
  (repeat refine yY Z ?_);refine ae ⟨(i+1),_,aD.refl _ _,?_⟩
  exact⟨by omega,by omega,⟨rfl,rfl,rfl,by rw[e];rfl,Z,Z,Z,Y⟩,trivial⟩
 have e:i=t.length:=by omega
 (repeat refine yY Z ?_);refine aa zi (And.intro ?_ trivial)
 rw[<-e]
open Go.ChangeShapes
variable {H:Type} {enc:TypeId×Value->H} {w:World} {S:Nat->Prop}
theorem LI:Sp enc w S 170 4 ff (UB (fun x=>aQ x.name)):=fun n cs x h=>by
 obtain⟨hl,ds,e,ld,q⟩:=bz (S:=S) (ks:=fun i=>match i with | _=>1) (hk:=bY (by kernel_rfl)) (Qs:=fun i xs d=>match i with
   | 0=>∃r:ByteArray,xs=[str r]/\UB aQ r (Rows.uptoBulk d)
   | 1=>∃r:Int,xs=[i64 r]/\UB (fun _=>True) r (Rows.uptoBulk d)
   | 2=>∃r:Int,xs=[i64 r]/\UB (fun _=>True) r (Rows.uptoBulk d)
   | _=>∃r:Int,xs=[i64 r]/\UB (fun _=>True) r (Rows.uptoBulk d)) Tryz.underlying170 (fun i f hf=>by
  match i,hf with
  | 0,hf=>cases hf;exact us
  | 1,hf=>cases hf;exact ui
  | 2,hf=>cases hf;exact ui
  | 3,hf=>cases hf;exact ui
  | n+4,hf=>cases hf) h
 have hl:cs.length=4:=hl.trans (by kernel_rfl)
 obtain⟨x0,c0,_,r0,i0,n0,e0,b0⟩:=q 0 _ rfl
 obtain⟨x1,c1,_,r1,i1,n1,e1,b1⟩:=q 1 _ rfl
 obtain⟨x2,c2,_,r2,i2,n2,e2,b2⟩:=q 2 _ rfl
 obtain⟨x3,c3,_,r3,i3,n3,e3,b3⟩:=q 3 _ rfl
 cases e0;cases e1;cases e2;cases e3
 have rel:aR S w 0 ([str n0]++([i64 n1]++([i64 n2]++([i64 n3])))) cs:=aR.join r0 (aR.join r1 (aR.join r2 (r3)))
 have j0:=aJ i0
 have j1:=aJ i1
 have j2:=aJ i2
 have j3:=aJ i3
 rw[<-e] at j0 j1 j2 j3
 exact⟨_,rfl,hl,fun i c v h1 h2=>rel i c v h1 (by rw[Nat.zero_add];exact h2),⟨n0,n1,n2,n3⟩,rfl,fun hn=>b0 (Nat.le_trans j0 hn)⟩
theorem Jk (hS:∀b,b < w.heap.size->S b):Sp enc w S 57 1 (fun l:List eJ=>[.sl (l.map ff)]) (UB pM):=dN Tryz.underlying57 (by kernel_rfl) (by decide) hS LI
end M
namespace M
open Go.AM Go.RowKit Go.Lib
open aK (lexLt sS iB)
def bh (l:List bD):List HX:=if l=[] then [.av .nl] else [.row 98 (l.map pL)]
def bp (l:List bD):List PV:=[.sl (l.map pL)]
theorem Ae {f:AV->AV} (hf:f .nl=.nl) (LL:List (List bD)):(LL.map bh).map (fun r=>r.map (HX.eO f))=LL.map bh:=by
 rw[List.map_map]
 refine List.map_congr_left fun l _=>?_
 show (bh l).map (HX.eO f)=bh l
 unfold bh
 split
 ·simp[HX.eO,hf]
 rfl
theorem Gy {f:AV->AV} (hf:f .nl=.nl) (LL:List (List bD)) (k d:Nat) (h:f (.ow d)=.ow d):((LL.map bh).set k [.av (.ow d)]).map (fun r=>r.map (HX.eO f))=(LL.map bh).set k [.av (.ow d)]:=by
 rw[List.map_set,Ae hf]
 simp only[List.map_cons,List.map_nil,HX.eO,h]
theorem Hv (d:Nat) (LL:List (List bD)):(LL.map bh).map (fun r=>r.map (HX.eO (sc d)))=LL.map bh:=Ae rfl LL
theorem Hw (i d:Nat) (LL:List (List bD)):(LL.map bh).map (fun r=>r.map (HX.eO (rn i d)))=LL.map bh:=Ae rfl LL
theorem pN {d:Nat} (LL:List (List bD)) (k:Nat) (h:sc d (.ow 90001)=.ow 90001):((LL.map bh).set k [.av (.ow 90001)]).map (fun r=>r.map (HX.eO (sc d)))=(LL.map bh).set k [.av (.ow 90001)]:=Gy rfl LL k 90001 h
theorem Bu (LL:List (List bD)):∀r∈LL.map bh,∀x∈r,AW x:=fun r hr x hx=>by
 obtain⟨l,_,rfl⟩:=List.mem_map.1 hr
 unfold bh at hx
 split at hx <;> (rw[List.mem_singleton.1 hx];trivial)
theorem LJ (LL:List (List bD)):JC (LL.map bh) (LL.map bp):=JC.map fun l _=>⟨by unfold bh bp;split <;> rfl,fun j u v hu hv=>by
 match j with
 | 0=>
  unfold bh at hu
  simp only[bp,List.getElem?_cons_zero,Option.some.injEq] at hv
  subst hv
  split at hu
  ·rename_i e
   simp only[List.getElem?_cons_zero,Option.some.injEq] at hu
   subst hu e
   exact .nl
  simp only[List.getElem?_cons_zero,Option.some.injEq] at hu
  subst hu
  exact .row _ _
 | j+1=>simp[bp] at hv⟩
theorem Jl {A:bE} {s s':AS} (h:s=s'):aD A s s':=h ▸ aD.refl A s
theorem aD.LK {A:bE} (hC:a8 A.C) (s:AS) (id k d:Nat) {LL:List (List bD)} {x:List bD} {ti:TI} (hd:d < 100000) (hid:id≠d) (hb:s.h id=.an 67 (LL.map bh)) (hk:LL[k]?=some x) (hT:A.C.T 98=some ti) (hpos:0 < ti.size):
  aD A s ⟨(fw d s).t,aA (aA (fw d s).h d (.row 98 (x.map pL))) id (.an 67 ((LL.map bh).set k [.av (.ow d)]))⟩:=by
 have Cp:=(List.getElem?_eq_some_iff.1 hk).1
 have hr:(LL.map bh)[k]?=some (bh x):=by rw[List.getElem?_map,hk];rfl
 by_cases c:x=[]
 ·have Hj:bh x=[.av .nl]:=if_pos c
  have h1:=aD.N0 hC s id k 0 (e':=98) hb hr (by rw[Hj];rfl) hT hpos
  have h2:=aD.AY hC ⟨s.t,aA s.h id (.an 67 ((LL.map bh).set k ((bh x).set 0 (.row 98 []))))⟩ id k 0 d (e:=67) (r:=(bh x).set 0 (.row 98 [])) hd hid (ar _ _ _) (fun r hr y hy=>by
   rcases List.mem_or_eq_of_mem_set hr with hr | hr
   ·exact Bu _ r hr y hy
   subst hr
   rw[Hj] at hy
   rw[List.mem_singleton.1 hy]
   trivial) (List.getElem?_set_self (by rw[List.length_map];exact Cp)) (by rw[Hj];rfl)
  refine (h1.trans h2).trans (Jl ?_)
  rw[c]
  refine congrArg (AS.mk _) ?_
  funext j
  by_cases e1:j=id
  ·subst e1
   rw[ar,ar,List.set_set];rfl
  rw[aE _ _ e1,aE _ _ e1]
  by_cases e2:j=d
  ·subst e2
   rw[ar,ar];rfl
  rw[aE _ _ e2,aE _ _ e2]
  show aA (fun m=>qM d (aA s.h id _ m)) d .none j=aA (fun m=>qM d (s.h m)) d .none j
  rw[aE _ _ e2,aE _ _ e2]
  show qM d (aA _ _ _ j)=_
  rw[aE _ _ e1]
 have Hj:bh x=[.row 98 (x.map pL)]:=if_neg c
 have h2:=aD.AY hC s id k 0 d (e':=98) (xs:=x.map pL) hd hid hb (Bu _) hr (by rw[Hj];rfl)
 rw[Hj] at h2
 exact h2
structure yc where
 tool:ByteArray
 holes:List bD
def v8 (j:yc):List PV:=[str j.tool,.sl (j.holes.map pL)]
def EU (t:List eJ) (l:List bD) (near:Int):Int:=nh (ef t) (nh (ee l) (if dP near 0 10000=true then 0 else 1))
def iY (t:List eJ) (near:Int) (h:bD):Int:=dQ t h.size near t.length
def qv (t:List eJ) (l:List bD) (near:Int) (j:Nat) (k:Nat):List bD:=(l.take j).filter fun h=>decide (iY t near h=k)
def sT (t:List eJ) (l:List bD) (near:Int) (j:Nat):List (List bD):=(List.range t.length).map (qv t l near j)
def jy (t:List eJ) (l:List bD) (near:Int) (j:Nat):List Nat:=iB (fun h=>decide (iY t near h < 0)) l j
def gB (t:List eJ) (l:List bD) (near:Int) (i:Nat):List yc:=(List.range i).filterMap fun k=>match t[k]? with
 | some b=>if qv t l near l.length k=[] then none else some ⟨b.name,qv t l near l.length k⟩
 | none=>none
def bu (l:List Nat):List Int:=l.map fun k:Nat=>(k:Int)
def ke (t:List eJ) (l:List bD) (near:Int):List PV:=if EU t l near=0 then [.sl ((gB t l near t.length).map v8),ints (bu (jy t l near l.length)),i64 0] else [.sl [],.sl [],i64 (EU t l near)]
theorem sM {t:List eJ} {l:List bD} {near:Int} {j k:Nat} {h:bD} (hh:l[j]?=some h):qv t l near (j+1) k=qv t l near j k++if iY t near h=k then [h] else []:=by
 unfold qv
 rw[aN hh,List.filter_append]
 congr 1
 by_cases e:iY t near h=k <;> simp[e]
theorem iZ (t:List eJ) (l:List bD) (near:Int) (j:Nat):(sT t l near j).length=t.length:=by simp[sT]
theorem oM {t:List eJ} {l:List bD} {near:Int} {j k:Nat} (hk:k < t.length):(sT t l near j)[k]?=some (qv t l near j k):=by
 rw[sT,List.getElem?_map,List.getElem?_range hk];rfl
theorem EV {α:Type} {l:List α} {i m:Nat} {x:α} (h:i < l.length):(l.set i x)[m]?=if m=i then some x else l[m]?:=by
 rw[List.getElem?_set]
 by_cases e:i=m
 ·subst e;rw[if_pos rfl,if_pos rfl,if_pos h]
 rw[if_neg e,if_neg (fun h=>e h.symm)]
theorem EW {t:List eJ} {l:List bD} {near:Int} {j:Nat} {h:bD} (hh:l[j]?=some h) (h0:iY t near h < 0):sT t l near (j+1)=sT t l near j:=by
 unfold sT
 refine List.map_congr_left fun k _=>?_
 rw[sM hh,if_neg (by omega),List.append_nil]
theorem EX {t:List eJ} {l:List bD} {near:Int} {j k:Nat} {h:bD} (hh:l[j]?=some h) (hk:iY t near h=k) (Cp:k < t.length):sT t l near (j+1)=(sT t l near j).set k (qv t l near j k++[h]):=by
 refine List.ext_getElem? fun m=>?_
 rw[EV (by rw[iZ];exact Cp)]
 by_cases e:m=k
 ·subst e
  rw[if_pos rfl,oM Cp,sM hh,if_pos hk]
 rw[if_neg e]
 by_cases hm:m < t.length
 ·rw[oM hm,oM hm,sM hh,if_neg (by omega),List.append_nil]
 rw[List.getElem?_eq_none (by rw[iZ];omega),List.getElem?_eq_none (by rw[iZ];omega)]
theorem EY (t:List eJ) (l:List bD) (near:Int):(sT t l near 0).map bh=List.replicate t.length [.av .nl]:=by
 rw[sT,List.map_map]
 refine List.ext_getElem? fun m=>?_
 rw[List.getElem?_map,List.getElem?_replicate]
 by_cases h:m < t.length
 ·rw[List.getElem?_range h,if_pos h];rfl
 rw[if_neg h,List.getElem?_eq_none (by simp;omega)];rfl
theorem Bv (t:List eJ) (l:List bD) (near:Int) (j k:Nat):(qv t l near j k).length<=l.length:=Nat.le_trans (List.length_filter_le _ _) (by rw[List.length_take];omega)
theorem Af {l:List bD} (h:ee l=0):l.length<=2000/\∀x∈l,1<=x.size/\x.size<=10000:=by
 unfold ee at h
 split at h
 ·cases h
 split at h
 ·rename_i h2
  refine⟨by omega,fun x hx=>?_⟩
  have:=List.all_eq_true.1 h2 x hx
  simp only[iE,Bool.and_eq_true] at this
  exact cO.1 this.2.1
 cases h
theorem ur {t:List eJ} {l:List bD} {near:Int} {i:Nat} {b:eJ} (h:t[i]?=some b):gB t l near (i+1)=gB t l near i++if qv t l near l.length i=[] then [] else [⟨b.name,qv t l near l.length i⟩]:=by
 unfold gB
 rw[List.range_succ,List.filterMap_append]
 congr 1
 by_cases e:qv t l near l.length i=[] <;> simp[h,e]
theorem yd (t:List eJ) (l:List bD) (near:Int) (i:Nat):(gB t l near i).length<=i:=Nat.le_trans (List.length_filterMap_le _ _) (by simp)
theorem v_ (t:List eJ) (l:List bD) (near:Int) (ht:pM t) (hN:l.length<=1048576):af C 32 [.pv (.sl (t.map ff)),.pv (.sl (l.map pL)),.pv (i64 near)] (.tu (ke t l near)) []:=by
 by_cases g1:ef t=0
 rotate_left
 ·have e:EU t l near=ef t:=cL rfl g1
  rw[ke,if_neg (by rw[e];exact g1),e]
  refine ah hC Tryz.func32 rfl rfl 87 rfl (by decide) (by kernel_rfl) fun _ _ _ _ _=>?_
  (repeat refine yY Z ?_);refine zX zi ⟨_,_,(fT t ht),?_⟩
  (repeat refine yY Z ?_);refine iF Z (fun g=>?_) (fun g=>?_)
  ·(repeat refine yY Z ?_);refine aa zi (And.intro ?_ trivial)
   rfl
  exact absurd (by simpa using g) g1
 by_cases g2:ee l=0
 rotate_left
 ·have e:EU t l near=ee l:=by rw[EU,fj g1,cL rfl g2]
  have JT:=fT t ht
  rw[g1] at JT
  rw[ke,if_neg (by rw[e];exact g2),e]
  refine ah hC Tryz.func32 rfl rfl 87 rfl (by decide) (by kernel_rfl) fun _ _ _ _ _=>?_
  (repeat refine yY Z ?_);refine zX zi ⟨_,_,JT,?_⟩
  (repeat refine yY Z ?_);refine zX zi ⟨_,_,(jx l hN),?_⟩
  (repeat refine yY Z ?_);refine iF Z (fun g=>?_) (fun g=>?_)
  ·(repeat refine yY Z ?_);refine aa zi (And.intro ?_ trivial)
   rfl
  exact absurd (by simpa using g) g2
 have JT:=fT t ht
 have Hx:=jx l hN
 have MC:=eB near 0 10000
 rw[g1] at JT
 rw[g2] at Hx
 have ec:EU t l near=if dP near 0 10000=true then 0 else 1:=by rw[EU,fj g1,fj g2]
 cases g3:dP near 0 10000 with
 | false=>
  rw[g3] at ec MC
  rw[ke,if_neg (by rw[ec];decide),ec]
  refine ah hC Tryz.func32 rfl rfl 87 rfl (by decide) (by kernel_rfl) fun _ _ _ _ _=>?_
  (repeat refine yY Z ?_);refine zX zi ⟨_,_,JT,?_⟩
  (repeat refine yY Z ?_);refine zX zi ⟨_,_,Hx,?_⟩
  (repeat refine yY Z ?_);refine zX zi ⟨_,_,MC,?_⟩
  (repeat refine yY Z ?_);refine aa zi (And.intro ?_ trivial)
  rfl
 | true=>
  rw[g3] at ec MC
  rw[ke,if_pos (by rw[ec];rfl)]
  obtain⟨tl,ts⟩:=Ad g1
  obtain⟨hl,hs⟩:=Af g2
  have lt:=ai t ff
  have lh:=ai l pL
  refine ah hC Tryz.func32 rfl rfl 87 rfl (by decide) (by kernel_rfl) fun _ _ _ _ _=>?_
  (repeat refine yY Z ?_);refine zX zi ⟨_,_,JT,?_⟩
  (repeat refine yY Z ?_);refine zX zi ⟨_,_,Hx,?_⟩
  (repeat refine yY Z ?_);refine zX zi ⟨_,_,MC,?_⟩
  (repeat refine yY Z ?_);refine zA zi (And.intro ⟨by omega,by omega,by show ((t.map ff).length:Int)*24<=_;omega,by omega⟩ ?_)
  (repeat refine yY Z ?_)
  refine ak (fun j:Nat=>j<=l.length) (fun j=>[(0,.p (.sl (t.map ff))),(2,.p (i64 near)),(11,.ow 11),(12,.ow 12),(35,.p (.sl (l.map pL))),(36,.p (i64 l.length)),(37,.p (i64 j))]) (fun j=>[(11,.an 67 ((sT t l near j).map bh)),(12,.row 3 ((bu (jy t l near j)).map fun n=>[i64 n]))]) (fun j=>l.length - j) 0 _ (aD.trans (aD.eG hC _ 12 3 _ (by decide) rfl rfl (by decide)) (aD.QF hC _ 11 (e:=67) (es:=List.replicate (t.map ff).length [.im (.slice none 0 0)]) (by exact rfl))) (Nat.zero_le _) ⟨rfl,rfl,rfl,rfl,rfl,congrArg (fun n:Nat=>AV.p (i64 n)) lh,Z,Y⟩ ⟨congrArg (AB.an _) (by rw[EY,List.map_replicate,lt];rfl),Z,Y⟩ fun j hj tt h=>?_
  (repeat refine yY Z ?_);refine iF Z (fun h1=>?_) (fun h1=>?_)
  ·obtain⟨x,hx⟩:=aj (l:=l) (i:=j) (by omega)
   have kx:=hs x (List.mem_of_getElem? hx)
   have hb:=qY t x.size near t.length
   have LM:jy t l near (j+1)=jy t l near j++if decide (iY t near x < 0)=true then [j] else []:=aK.ka hx
   have J3:(jy t l near j).length<=j:=aK.oG _ _ _
   have hcl:((bu (jy t l near j)).map fun n=>[i64 n]).length=(jy t l near j).length:=by rw[List.length_map,bu,List.length_map]
   have PS:=tB t x.size near ts kx tl
   obtain⟨v,hv⟩:∃v,v=iY t near x:=⟨_,rfl⟩
   have wv:v=dQ t x.size near t.length:=hv
   rw[<-wv] at PS hb
   rw[<-hv] at LM
   (repeat refine yY Z ?_);refine zX zi ⟨(pL x),(idx rfl hx),?_⟩
   (repeat refine yY Z ?_);refine zX zi ⟨_,_,PS,?_⟩
   (iterate 3 refine yY Z ?_)
   refine mH ?_
   (repeat refine yY Z ?_);refine ae ?_
   by_cases c:v < 0
   ·rw[if_pos (decide_eq_true c)] at LM
    refine JP (aD.refl _ _) ?_
    refine iF Z (fun d=>?_) (fun d=>?_)
    rotate_left
    ·exact absurd c d
    (repeat refine yY Z ?_);refine zA zi (And.intro ⟨by simp,by rw[hcl];simp;omega,by rw[hcl];simp;omega⟩ ?_)
    (repeat refine yY Z ?_);refine zA zi (And.intro ⟨by omega,by omega⟩ ?_)
    (repeat refine yY Z ?_);refine ae ⟨(j+1),_,aD.refl _ _,?_⟩
    refine⟨by omega,by omega,⟨Z,Z,Z,Z,Z,Z,Z,Y⟩,⟨?_,?_,trivial⟩⟩
    ·rw[EW hx (by rw[<-hv];exact c)]
     refine congrArg (AB.an _) ?_
     simp only[Hv,Hw]
    rw[LM,bu,bu,List.map_append,List.map_append];rfl
   rw[if_neg (by rw[decide_eq_false c];decide),List.append_nil] at LM
   obtain⟨k,rfl⟩:∃k:Nat,v=k:=⟨v.toNat,by omega⟩
   have MD:k < t.length:=by omega
   have hg:=oM (l:=l) (near:=near) (j:=j) MD
   have qU:=EX hx hv.symm MD
   have OI:=Bv t l near j k
   refine JP (aD.LK (by exact hC) _ 11 k 90001 (LL:=sT t l near j) (x:=qv t l near j k) (by decide) (by decide) (by exact congrArg (AB.an _) (by simp only[Hv,Hw])) hg (by exact rfl) (by decide)) ?_
   have oU:((sT t l near j).map bh).set k [.av (.ow 90001)]=((sT t l near j).map bh).set k [.av (.ow 90001)]:=rfl
   have PT:(((sT t l near j).map bh).set k [.av (.ow 90001)])[((k:Int)).toNat]?=some [.av (.ow 90001)]:=by
    rw[Int.toNat_natCast]
    exact List.getElem?_set_self (by rw[List.length_map,iZ];exact MD)
   have lK:=ai (qv t l near j k) pL
   (repeat refine yY Z ?_);refine c_ [11,1000011,14,1000014] true FZ rfl (by kernel_rfl) ?_;(repeat refine yY Z ?_);refine zA zi (And.intro ⟨by omega,by simp[iZ];omega⟩ ?_)
   (repeat refine yY Z ?_);refine zX zi ⟨[.av (.ow 90001)],(by rw[pN,pN];exact PT;rfl;rfl),?_⟩
   (repeat refine yY Z ?_);refine zA zi (And.intro ⟨fun r hr=>(by rw[List.mem_singleton.1 hr];rfl),by rw[lK];simp;omega,by rw[lK];simp;omega⟩ ?_)
   (repeat refine yY Z ?_);refine zA zi (And.intro ⟨by omega,by simp[iZ];omega⟩ ?_)
   (repeat refine yY Z ?_);refine zX zi ⟨[.av (.ow 90001)],(by rw[pN,pN];exact PT;rfl;rfl),?_⟩
   (repeat refine yY Z ?_);refine zA zi (And.intro ⟨by omega,by omega⟩ ?_)
   (repeat refine yY Z ?_);refine ae ?_
   refine⟨j+1,_,aD.K2 (by exact hC) _ 11 k 0 61 (e:=67) (es:=((sT t l near j).map bh).set k [.av (.ow 61)]) (r:=[.av (.ow 61)]) (e':=98) (xs:=(qv t l near j k++[x]).map pL) (by decide) (by exact congrArg (AB.an _) (by rw[pN,pN];rw[Int.toNat_natCast];exact List.set_set ..;rfl;rfl)) (by exact congrArg (AB.row _) (by rw[List.map_append];rfl)) (List.getElem?_set_self (by rw[List.length_map,iZ];exact MD)) (by exact rfl),?_⟩
   refine And.intro (by omega) ⟨by omega,⟨Z,Z,Z,Z,Z,Z,Z,Y⟩,⟨?_,?_,trivial⟩⟩
   ·refine congrArg (AB.an _) ?_
    show (((sT t l near j).map bh).set k [.av (.ow 61)]).set k [.row 98 ((qv t l near j k++[x]).map pL)]=(sT t l near (j+1)).map bh
    rw[List.set_set,qU,List.map_set]
    congr 1
    rw[bh,if_neg (by simp)]
   show AB.row _ _=AB.row _ _
   rw[LM]
  have e:j=l.length:=by omega
  rw[e]
  (iterate 5 refine yY Z ?_)
  refine mH ?_
  (repeat refine yY Z ?_);refine ae ?_
  refine JP (aD.K4 (by exact hC) _ 11 ((sT t l near l.length).map bp) (e:=67) (by exact rfl) (LJ _)) ?_
  have lB:=ai (sT t l near l.length) bp
  rw[iZ] at lB
  (repeat refine yY Z ?_)
  refine ak (fun i:Nat=>i<=t.length) (fun i=>[(0,.p (.sl (t.map ff))),(12,.ow 12),(16,.ow 16),(64,.ow 11),(65,.p (i64 t.length)),(66,.p (i64 i))]) (fun i=>[(11,.row 67 ((sT t l near l.length).map bp)),(12,.row 3 ((bu (jy t l near l.length)).map fun n=>[i64 n])),(16,.row 102 ((gB t l near i).map v8))]) (fun i=>t.length - i) 0 _ (aD.eG hC _ 16 102 _ (by decide) rfl rfl (by decide)) (Nat.zero_le _) ⟨rfl,rfl,rfl,rfl,congrArg (fun n:Nat=>AV.p (i64 n)) lB,Z,Y⟩ ⟨Z,Z,Z,Y⟩ fun i hi tt h=>?_
  (repeat refine yY Z ?_);refine iF Z (fun h2=>?_) (fun h2=>?_)
  ·obtain⟨b,hb⟩:=aj (l:=t) (i:=i) (by omega)
   have hg:=oM (l:=l) (near:=near) (j:=l.length) (show i < t.length by omega)
   have ME:=ur (l:=l) (near:=near) hb
   have nI:=yd t l near i
   have Cp:=Bv t l near l.length i
   have lj:=ai (gB t l near i) v8
   have lk:=ai (qv t l near l.length i) pL
   (repeat refine yY Z ?_);refine zA zi (And.intro ⟨by omega,by omega⟩ ?_)
   (repeat refine yY Z ?_);refine zX zi ⟨(bp (qv t l near l.length i)),(nY bp hg),?_⟩
   (repeat refine yY Z ?_);refine iF Z (fun h3=>?_) (fun h3=>?_)
   ·have bG:¬qv t l near l.length i=[]:=fun e=>by
     have h3:(0:Int) < (((qv t l near l.length i).map pL).length:Int):=h3
     rw[e] at h3
     simp at h3
    rw[if_neg bG] at ME
    (repeat refine yY Z ?_);refine zX zi ⟨(ff b),(idx rfl hb),?_⟩
    (repeat refine yY Z ?_);refine zA zi (And.intro ⟨fun r hr=>(by rw[List.mem_singleton.1 hr];rfl),by rw[lj];simp;omega,by rw[lj];simp;omega⟩ ?_)
    (repeat refine yY Z ?_);refine zA zi (And.intro ⟨by omega,by omega⟩ ?_)
    (repeat refine yY Z ?_);refine ae ⟨(i+1),_,aD.refl _ _,?_⟩
    exact⟨by omega,by omega,⟨Z,Z,Z,Z,Z,Z,Y⟩,⟨rfl,rfl,by rw[ME,List.map_append];rfl,trivial⟩⟩
   have he:qv t l near l.length i=[]:=by
    have h3:¬(0:Int) < (((qv t l near l.length i).map pL).length:Int):=h3
    rw[lk] at h3
    exact List.eq_nil_of_length_eq_zero (by omega)
   rw[if_pos he,List.append_nil] at ME
   (repeat refine yY Z ?_);refine zA zi (And.intro ⟨by omega,by omega⟩ ?_)
   (repeat refine yY Z ?_);refine ae ⟨(i+1),_,aD.refl _ _,?_⟩
   exact⟨by omega,by omega,⟨Z,Z,Z,Z,Z,Z,Y⟩,⟨rfl,rfl,by rw[ME];rfl,trivial⟩⟩
  have e2:i=t.length:=by omega
  (repeat refine yY Z ?_);refine aa zi ?_
  rw[e2]
  exact⟨Z,Y⟩
def oN:ByteArray:=⟨#[115,112,97,110,115]⟩
def Jm:ByteArray:=⟨#[98,105,116,115]⟩
def dA (b:lr):Int×Int:=(b.lo+1,b.hi+1)
def kf (n:Int) (b:lr):Bool:=!dP b.lo 0 (n - 1) || (!dP b.hi 0 (n - 1) || decide (b.lo=b.hi))
def iG (o:Order):Bool:=o.bores.any (kf (bX o.stack))
def aV (o:Order):List (Int×Int):=sS (fH yn (o.bores.map dA))
theorem Bw {o:Order} (h:iG o=false) (hS:o.stack.length<=1048576):∀b∈o.bores,0<=b.lo/\b.lo<=1048576/\0<=b.hi/\b.hi<=1048576:=fun b hb=>by
 have h1:=List.any_eq_false.1 h b hb
 have h2:=lu o.stack
 simp only[kf,Bool.or_eq_true,Bool.not_eq_true',not_or,Bool.not_eq_false] at h1
 have h3:=cO.1 h1.1
 have h4:=cO.1 h1.2.1
 omega
theorem EZ {o:Order} (h:iG o=false) (hS:o.stack.length<=1048576):∀x∈o.bores.map dA,Bs x:=fun x hx=>by
 obtain⟨b,hb,rfl⟩:=List.mem_map.1 hx
 have:=Bw h hS b hb
 unfold Bs dA
 dsimp only
 omega
def jz (o:Order):List PV:=if iG o=true then [.sl [],.sl [],.ag (CA gT 1)] else if bK o.mats o.stack (aV o)=0 then [.sl (mo o.mats o.stack (aV o)),.sl ((aV o).map sp),.ag (CA oN 0)] else [.sl [],.sl ((aV o).map sp),.ag (CA oN (bK o.mats o.stack (aV o)))]
theorem tC (o:Order) (hm:pC o.mats) (hs:oA o.stack) (hN:o.bores.length<=1000000):af C 30 [.pv (.ag (sR o))] (.tu (jz o)) []:=by
 have lb:=ai o.bores oD
 have PU:=hs.1
 have J3:=lu o.stack
 have E0:=ed gT 1
 have E0:af C 43 [.pv (str gT),.pv (i64 1)] (.p (.ag [i64 1,str gT])) []:=E0
 have bad:∀{b:lr},b∈o.bores->kf (bX o.stack) b=true->jz o=[.sl [],.sl [],.ag [i64 1,str gT]]:=fun hb e=>by
  rw[jz,if_pos (show iG o=true from List.any_eq_true.2 ⟨_,hb,e⟩)];rfl
 refine ah hC Tryz.func30 rfl rfl 70 rfl (by decide) (by kernel_rfl) fun _ _ _ _ _=>?_
 (repeat refine yY Z ?_);refine zX zi ⟨_,_,(mN o PU),?_⟩
 (repeat refine yY Z ?_)
 refine ak (fun i:Nat=>i<=o.bores.length/\∀b∈o.bores.take i,kf (bX o.stack) b=false) (fun i=>[(1,.bx 1 0),(4,.bx 4 0),(5,.p (i64 (bX o.stack:Nat))),(6,.ow 6),(14,.p (.sl (o.bores.map oD))),(15,.p (i64 o.bores.length)),(16,.p (i64 i))]) (fun i=>[(1,.box ((sR o).map .p)),(4,.box [.p (i64 0),.p (str aX)]),(6,.row 93 (((o.bores.take i).map dA).map sp))]) (fun i=>o.bores.length - i) 0 _ (aD.eG hC _ 6 93 _ (by decide) rfl rfl (by decide)) ⟨Nat.zero_le _,by simp⟩ ⟨rfl,rfl,rfl,rfl,rfl,congrArg (fun n:Nat=>AV.p (i64 n)) lb,Z,Y⟩ ⟨Z,Z,Z,Y⟩ fun i hi t h=>?_
 (repeat refine yY Z ?_);refine iF Z (fun h1=>?_) (fun h1=>?_)
 ·obtain⟨b,hb⟩:=aj (l:=o.bores) (i:=i) (by omega)
  have hm:=List.mem_of_getElem? hb
  have w1:=gM b.lo 0 ((bX o.stack:Nat) - 1)
  have w2:=gM b.hi 0 ((bX o.stack:Nat) - 1)
  have xj:kf (bX o.stack) b=(!dP b.lo 0 ((bX o.stack:Nat) - 1) || (!dP b.hi 0 ((bX o.stack:Nat) - 1) || decide (b.lo=b.hi))):=rfl
  have nu:dP b.lo 0 ((bX o.stack:Nat) - 1)=true->0<=b.lo/\b.lo<=1048576:=fun e=>by have:=cO.1 e;omega
  have OV:dP b.hi 0 ((bX o.stack:Nat) - 1)=true->0<=b.hi/\b.hi<=1048576:=fun e=>by have:=cO.1 e;omega
  have JJ:(((o.bores.take i).map dA).map sp).length=i:=by simp;omega
  (repeat refine yY Z ?_);refine zX zi ⟨(oD b),(idx rfl hb),?_⟩
  (repeat refine yY Z ?_);refine zA zi (And.intro ⟨by omega,by omega⟩ ?_)
  generalize dP b.lo 0 ((bX o.stack:Nat) - 1)=L1 at *
  generalize dP b.hi 0 ((bX o.stack:Nat) - 1)=L2 at *
  cases L1 with
  | false=>
   (repeat refine yY Z ?_);refine zX zi ⟨_,_,w1,?_⟩
   (repeat refine yY Z ?_);refine zX zi ⟨_,_,E0,?_⟩
   (repeat refine yY Z ?_);refine aa zi (And.intro ?_ trivial)
   rw[bad hm xj];rfl
  | true=>
   (repeat refine yY Z ?_);refine zX zi ⟨_,_,w1,?_⟩
   (repeat refine yY Z ?_);refine zA zi (And.intro ⟨by omega,by omega⟩ ?_)
   cases L2 with
   | false=>
    (repeat refine yY Z ?_);refine zX zi ⟨_,_,w2,?_⟩
    (repeat refine yY Z ?_);refine zX zi ⟨_,_,E0,?_⟩
    (repeat refine yY Z ?_);refine aa zi (And.intro ?_ trivial)
    rw[bad hm xj];rfl
   | true=>
    (repeat refine yY Z ?_);refine zX zi ⟨_,_,w2,?_⟩
    have q1:=nu rfl
    have q2:=OV rfl
    (repeat refine yY Z ?_);refine iF Z (fun d=>?_) (fun d=>?_)
    ·(repeat refine yY Z ?_);refine zX zi ⟨_,_,E0,?_⟩
     (repeat refine yY Z ?_);refine aa zi (And.intro ?_ trivial)
     rw[bad hm (by rw[xj,decide_eq_true d];rfl)];rfl
    have hok:kf (bX o.stack) b=false:=by rw[xj,decide_eq_false d];rfl
    (repeat refine yY Z ?_);refine zA zi (And.intro ⟨by omega,by omega⟩ ?_)
    (repeat refine yY Z ?_);refine zA zi (And.intro ⟨by omega,by omega⟩ ?_)
    (repeat refine yY Z ?_);refine zA zi (And.intro ⟨fun r hr=>(by rw[List.mem_singleton.1 hr];rfl),by rw[JJ];simp;omega,by rw[JJ];simp;omega⟩ ?_)
    (repeat refine yY Z ?_);refine zA zi (And.intro ⟨by omega,by omega⟩ ?_)
    (repeat refine yY Z ?_);refine ae ⟨(i+1),_,aD.refl _ _,?_⟩
    exact⟨⟨by omega,fE (p:=kf (bX o.stack)) hb hok hi.2⟩,by omega,⟨Z,Z,Z,Z,Z,Z,Z,Y⟩,⟨rfl,rfl,by rw[aN hb,List.map_append,List.map_append];rfl,trivial⟩⟩
 have h2:=hi.2
 rw[List.take_of_length_le (by omega)] at h2 ⊢
 have e0:iG o=false:=List.any_eq_false.2 fun b hb=>by rw[h2 b hb];decide
 have Rp:=EZ e0 PU
 have Gv:=(de yn EM (o.bores.map dA)).1.length_eq
 rw[List.length_map] at Gv
 have hcl:=aK.vV (fH yn (o.bores.map dA))
 (repeat refine yY Z ?_);refine zX zi ⟨_,_,(vW (o.bores.map dA) Rp (by rw[List.length_map];omega)),?_⟩
 (repeat refine yY Z ?_);refine zX zi ⟨_,_,(tx (fH yn (o.bores.map dA)) (by omega)),?_⟩
 have hp:=tz o.mats o.stack (aV o) hm hs (by show (sS _).length<=_;omega)
 have kD:=ed oN (bK o.mats o.stack (aV o))
 rw[jz,if_neg (by rw[e0];decide)]
 by_cases e1:bK o.mats o.stack (aV o)=0
 ·rw[lx,if_pos e1] at hp
  rw[e1,CA,if_pos rfl] at kD
  rw[if_pos e1]
  (repeat refine yY Z ?_);refine zX zi ⟨_,_,hp,?_⟩
  (repeat refine yY Z ?_);refine zX zi ⟨_,_,kD,?_⟩
  (repeat refine yY Z ?_);refine aa zi (And.intro ?_ trivial)
  rfl
 rw[lx,if_neg e1] at hp
 rw[iC e1] at kD
 rw[if_neg e1,iC e1]
 (repeat refine yY Z ?_);refine zX zi ⟨_,_,hp,?_⟩
 (repeat refine yY Z ?_);refine zX zi ⟨_,_,kD,?_⟩
 (repeat refine yY Z ?_);refine aa zi (And.intro ?_ trivial)
 rfl
open aK (jv)
theorem nq {α β:Type} (f:Nat->α->β) (l:List α):∀i,i<=l.length->(iD f l i).length=i/\∀k,k < i->(iD f l i)[k]?=l[k]?.map (f k)
 | 0,_=>⟨by simp[iD],fun k h=>by omega⟩
 | i+1,h=>by
  obtain⟨x,hx⟩:=aj (l:=l) (i:=i) (by omega)
  obtain⟨h1,h2⟩:=nq f l i (by omega)
  rw[qu hx]
  refine⟨by rw[List.length_append,h1];rfl,fun k hk=>?_⟩
  by_cases e:k < i
  ·rw[List.getElem?_append_left (by omega)]
   exact h2 k e
  have e:k=i:=by omega
  subst e
  rw[List.getElem?_append_right (by omega),h1,hx]
  simp
def Hy (o:Order) (b:lr):bD:=⟨b.x,b.y,b.size,Jh o b.lo b.hi,b.plated⟩
def cn (o:Order) (s:Int×Int) (i:Nat):List bD:=((o.bores.take i).filter fun b=>decide (dA b=s)).map (Hy o)
def i_ (o:Order) (s:Int×Int) (i:Nat):List Nat:=iB (fun b=>decide (dA b=s)) o.bores i
theorem ye {o:Order} {s:Int×Int} {i:Nat} {b:lr} (h:o.bores[i]?=some b):cn o s (i+1)=cn o s i++if dA b=s then [Hy o b] else []:=by
 unfold cn
 rw[aN h,List.filter_append,List.map_append]
 congr 1
 by_cases e:dA b=s <;> simp[e]
theorem Ag {o:Order} {s:Int×Int} {i:Nat} {b:lr} (h:o.bores[i]?=some b):i_ o s (i+1)=i_ o s i++if dA b=s then [i] else []:=by
 unfold i_
 rw[aK.ka h]
 by_cases e:dA b=s <;> simp[e]
theorem nt (o:Order) (s:Int×Int) (i:Nat) (h:i<=o.bores.length):(cn o s i).length=(i_ o s i).length:=by
 rw[cn,List.length_map,i_,aK.mf _ _ _ h]
theorem yf (o:Order) (s:Int×Int) (i:Nat):(i_ o s i).length<=i:=aK.oG _ _ _
def sN (o:Order) (t:List eJ) (near:Int) (s:Int×Int):List yc:=gB t (cn o s o.bores.length) near t.length
def eR (o:Order) (t:List eJ) (near:Int) (s:Int×Int):List Nat:=jv (i_ o s o.bores.length) (jy t (cn o s o.bores.length) near (cn o s o.bores.length).length)
def gr (o:Order) (t:List eJ) (near:Int) (q:Nat) (k:Nat) (b:Int×Int):List PV:=oL q (aV o) k b++[.sl ((sN o t near b).map v8),ints (bu (eR o t near b))]
def fJ (o:Order) (b:Int×Int):Bool:=decide ((cY (aV o) b (aV o).length).length=0)
def cH (o:Order) (t:List eJ) (near:Int) (q:Nat) (B:List (Int×Int)) (i:Nat):List (List PV):=(List.range i).filterMap fun k=>match B[k]? with
 | some b=>if fJ o b=true then none else some (gr o t near q k b)
 | none=>none
def CH (o:Order) (t:List eJ) (near:Int) (B:List (Int×Int)) (k:Nat):Int:=match B[k]? with
 | some b=>if fJ o b=true then 0 else EU t (cn o b o.bores.length) near
 | none=>0
theorem Ah {o:Order} {t:List eJ} {near:Int} {q:Nat} {B:List (Int×Int)} {i:Nat} {b:Int×Int} (h:B[i]?=some b) (e:fJ o b=true):cH o t near q B (i+1)=cH o t near q B i:=by
 unfold cH
 rw[List.range_succ,List.filterMap_append]
 simp[h,e]
theorem CI {o:Order} {t:List eJ} {near:Int} {q:Nat} {B:List (Int×Int)} {i:Nat} {b:Int×Int} (h:B[i]?=some b) (e:fJ o b=false):cH o t near q B (i+1)=cH o t near q B i++[gr o t near q i b]:=by
 unfold cH
 rw[List.range_succ,List.filterMap_append]
 simp[h,e]
theorem CJ (o:Order) (t:List eJ) (near:Int) (q:Nat) (B:List (Int×Int)) (i:Nat):(cH o t near q B i).length<=i:=Nat.le_trans (List.length_filterMap_le _ _) (by simp)
def bO (o:Order):List (Int×Int):=bN o.mats o.stack (aV o)
def pO (o:Order):Nat:=(a_ o.mats o.stack o.stack.length).length
def Ai (o:Order) (t:List eJ) (near:Int):Int:=aH (CH o t near (bO o)) 0 (bO o).length
def pP (o:Order) (t:List eJ) (near:Int):List PV:=
 if (dD o).1≠0 then [.sl [],str (dD o).2,i64 (dD o).1] else
 if iG o=true then [.sl [],str gT,i64 1] else
 if bK o.mats o.stack (aV o)≠0 then [.sl [],str oN,i64 (bK o.mats o.stack (aV o))] else
 if Ai o t near≠0 then [.sl [],str Jm,i64 (Ai o t near)] else
 [.sl (cH o t near (pO o) (bO o) (bO o).length),str aX,i64 0]
theorem Aj {l:List (Int×Int)} {b:Int×Int} {x:Int} (h:(cY l b l.length)[0]?=some x):∃k:Nat,x=k/\l[k]?=some b:=by
 have hm:=List.mem_of_getElem? h
 unfold cY at hm
 obtain⟨k,hk,rfl⟩:=List.mem_map.1 hm
 obtain⟨_,y,h1,h2⟩:=aK.mg hk
 exact⟨k,rfl,by rw[h1,of_decide_eq_true h2]⟩
theorem pQ {o:Order} (h:(dD o).1=0):bg o.mats o.stack=0/\o.bores.length<=500:=by
 unfold dD at h
 split at h
 ·rename_i h1;exact absurd h h1
 split at h
 ·rename_i h1;exact absurd h h1
 rename_i h2
 split at h
 ·cases h
 split at h
 ·rename_i h1;exact absurd h h1
 unfold oI at h
 split at h
 ·rename_i h1;exact absurd h h1
 split at h
 ·cases h
 exact⟨Classical.not_not.1 h2,by omega⟩
theorem uu {m:List cu} {s:List Lay} (h:bg m s=0):jr m/\s.length<=60:=by
 obtain⟨h1,h2⟩:=dZ h
 split at h2
 ·cases h2
 exact⟨js h1,by omega⟩
theorem sO (o:Order) (t:List eJ) (near:Int) (ho:iU o) (ht:pM t):af C 12 [.pv (.ag (sR o)),.pv (.sl (t.map ff)),.pv (i64 near)] (.tu (pP o t near)) []:=by
 have Gx:=qq o ho
 have Hs:=oE (dD o).1 (dD o).2
 by_cases c1:(dD o).1=0
 rotate_left
 ·rw[pP,if_pos c1]
  rw[decide_eq_false c1] at Hs
  refine ah hC Tryz.func12 rfl rfl 143 rfl (by decide) (by kernel_rfl) fun _ _ _ _ _=>?_
  (repeat refine yY Z ?_);refine zX zi ⟨_,_,Gx,?_⟩
  (repeat refine yY Z ?_);refine zX zi ⟨_,_,Hs,?_⟩
  (repeat refine yY Z ?_);refine c_ [] false Mq rfl (by kernel_rfl) ?_;(repeat refine yY Z ?_);refine aa zi (And.intro ?_ trivial)
  rfl
 have uL:=tC o ho.mats ho.stack (by have:=(pQ c1).2;omega)
 obtain⟨g1,g2⟩:=pQ c1
 obtain⟨gm,gs⟩:=uu g1
 rw[decide_eq_true c1] at Hs
 rw[pP,if_neg (fun h=>h c1)]
 by_cases c2:iG o=true
 ·rw[if_pos c2]
  rw[jz,if_pos c2,CA,if_neg (by decide)] at uL
  refine ah hC Tryz.func12 rfl rfl 143 rfl (by decide) (by kernel_rfl) fun _ _ _ _ _=>?_
  (repeat refine yY Z ?_);refine zX zi ⟨_,_,Gx,?_⟩
  (repeat refine yY Z ?_);refine zX zi ⟨_,_,Hs,?_⟩
  (repeat refine yY Z ?_);refine zX zi ⟨_,_,uL,?_⟩
  (repeat refine yY Z ?_);refine zX zi ⟨_,_,(oE 1 gT),?_⟩
  (repeat refine yY Z ?_);refine c_ [] false Mq rfl (by kernel_rfl) ?_;(repeat refine yY Z ?_);refine aa zi (And.intro ?_ trivial)
  rfl
 rw[if_neg c2]
 rw[jz,if_neg c2] at uL
 by_cases c3:bK o.mats o.stack (aV o)=0
 rotate_left
 ·have LN:=oE (bK o.mats o.stack (aV o)) oN
  rw[decide_eq_false c3] at LN
  rw[if_pos c3]
  rw[if_neg c3,iC c3] at uL
  refine ah hC Tryz.func12 rfl rfl 143 rfl (by decide) (by kernel_rfl) fun _ _ _ _ _=>?_
  (repeat refine yY Z ?_);refine zX zi ⟨_,_,Gx,?_⟩
  (repeat refine yY Z ?_);refine zX zi ⟨_,_,Hs,?_⟩
  (repeat refine yY Z ?_);refine zX zi ⟨_,_,uL,?_⟩
  (repeat refine yY Z ?_);refine zX zi ⟨_,_,LN,?_⟩
  (repeat refine yY Z ?_);refine c_ [] false Mq rfl (by kernel_rfl) ?_;(repeat refine yY Z ?_);refine aa zi (And.intro ?_ trivial)
  rfl
 rw[if_neg (fun h=>h c3)]
 rw[if_pos c3,CA,if_pos rfl] at uL
 have OI:=kd (m:=o.mats) (s:=o.stack) (l:=aV o)
 have Gv:(aV o).length<=500:=by
  have h1:=(de yn EM (o.bores.map dA)).1.length_eq
  rw[List.length_map] at h1
  have h2:=aK.vV (fH yn (o.bores.map dA))
  show (sS _).length<=500
  omega
 have PW:=fun k (hk:k < (bN o.mats o.stack (aV o)).length)=>(nq (oL (a_ o.mats o.stack o.stack.length).length (aV o)) (bN o.mats o.stack (aV o)) _ (Nat.le_refl _)).2 k hk
 have nv:=(nq (oL (a_ o.mats o.stack o.stack.length).length (aV o)) (bN o.mats o.stack (aV o)) _ (Nat.le_refl _)).1
 have PQ:=Bw (by simpa using c2) ho.stack.1
 rw[Ai]
 rw[show bO o=bN o.mats o.stack (aV o) from rfl,show pO o=(a_ o.mats o.stack o.stack.length).length from rfl]
 rw[mo] at uL
 generalize bN o.mats o.stack (aV o)=B at *
 generalize (a_ o.mats o.stack o.stack.length).length=q at *
 obtain⟨R,hR⟩:∃R,R=iD (oL q (aV o)) B B.length:=⟨_,rfl⟩
 rw[<-hR] at uL PW nv
 have lS:=ai (aV o) sp
 have lb:=ai o.bores oD
 refine ah hC Tryz.func12 rfl rfl 143 rfl (by decide) (by kernel_rfl) fun _ _ _ _ _=>?_
 (repeat refine yY Z ?_);refine zX zi ⟨_,_,Gx,?_⟩
 (repeat refine yY Z ?_);refine zX zi ⟨_,_,Hs,?_⟩
 (repeat refine yY Z ?_);refine zX zi ⟨_,_,uL,?_⟩
 (repeat refine yY Z ?_);refine zX zi ⟨_,_,(oE 0 aX),?_⟩
 (repeat refine yY Z ?_)
 refine ak (fun i:Nat=>i<=B.length/\∀k,k < i->CH o t near B k=0) (fun i=>[(1,.p (.sl (t.map ff))),(2,.p (i64 near)),(3,.p (.ip (sR o))),(11,.p (.sl ((aV o).map sp))),(13,.ow 13),(47,.p (.sl R)),(48,.p (i64 B.length)),(49,.p (i64 i))]) (fun i=>[(13,.row 66 (cH o t near q B i))]) (fun i=>B.length - i) 0 _ (aD.trans (aD.eG hC _ 13 66 _ (by decide) rfl rfl (by decide)) (aD.eh hC _ 3 (y:=.ip (sR o)) (fz:=[(3,.gC (sR o))]) ⟨rfl,rfl⟩)) ⟨Nat.zero_le _,fun k h=>by omega⟩ ⟨rfl,rfl,rfl,rfl,rfl,rfl,congrArg (fun n:Nat=>AV.p (i64 n)) nv,Z,Y⟩ ⟨Z,Y⟩ fun i hi tt h=>?_
 (repeat refine yY Z ?_);refine iF Z (fun h1=>?_) (fun h1=>?_)
 ·obtain⟨b,hb⟩:=aj (l:=B) (i:=i) (by omega)
  have Rq:R[i]?=some (oL q (aV o) i b):=by rw[PW i (by omega),hb];rfl
  have K3:=CJ o t near q B i
  have R2:=ai (cY (aV o) b (aV o).length) fun n=>[i64 n]
  have cf:CH o t near B i=if fJ o b=true then 0 else EU t (cn o b o.bores.length) near:=by simp only[CH,hb]
  (repeat refine yY Z ?_);refine zX zi ⟨(oL q (aV o) i b),⟨by omega,by rw[Int.toNat_natCast];exact Rq⟩,?_⟩
  (repeat refine yY Z ?_);refine iF Z (fun h2=>?_) (fun h2=>?_)
  ·have e:fJ o b=true:=decide_eq_true (by have h2:(((cY (aV o) b (aV o).length).map fun n=>[i64 n]).length:Int)=0:=h2;omega)
   have hd:=Ah (near:=near) (t:=t) (q:=q) hb e
   rw[if_pos e] at cf
   (repeat refine yY Z ?_);refine zA zi (And.intro ⟨by omega,by omega⟩ ?_)
   (repeat refine yY Z ?_);refine ae ⟨(i+1),_,aD.refl _ _,?_⟩
   exact⟨⟨by omega,cc hi.2 cf⟩,by omega,⟨Z,Z,Z,Z,Z,Z,Z,Z,Y⟩,⟨by rw[hd];rfl,trivial⟩⟩
  have bG:¬(cY (aV o) b (aV o).length).length=0:=fun e=>h2 (by show (((cY (aV o) b (aV o).length).map fun n=>[i64 n]).length:Int)=0;omega)
  have e:fJ o b=false:=decide_eq_false bG
  have hd:=CI (near:=near) (t:=t) (q:=q) hb e
  rw[if_neg (by rw[e];decide)] at cf
  obtain⟨z,hz⟩:=aj (l:=cY (aV o) b (aV o).length) (i:=0) (by omega)
  obtain⟨k0,rfl,CR⟩:=Aj hz
  (repeat refine yY Z ?_);refine zX zi ⟨[i64 (k0:Int)],(idx (k:=0) rfl hz),?_⟩
  (repeat refine yY Z ?_);refine zX zi ⟨(sp b),(idx rfl CR),?_⟩
  have lR:=ai R fun x=>x
  (repeat refine yY Z ?_)
  refine ak (fun j:Nat=>j<=o.bores.length) (fun j=>[(1,.p (.sl (t.map ff))),(2,.p (i64 near)),(3,.p (.ip (sR o))),(11,.p (.sl ((aV o).map sp))),(13,.ow 13),(47,.p (.sl R)),(48,.p (i64 B.length)),(49,.p (i64 i)),(15,.bx 15 0),(16,.bx 16 0),(17,.ow 17),(18,.ow 18),(65,.p (.sl (o.bores.map oD))),(66,.p (i64 o.bores.length)),(67,.p (i64 j))]) (fun j=>[(13,.row 66 (cH o t near q B i)),(15,.box ((oL q (aV o) i b).map .p)),(16,.box ((sp b).map .p)),(17,.row 98 ((cn o b j).map pL)),(18,.row 3 ((bu (i_ o b j)).map fun n=>[i64 n]))]) (fun j=>o.bores.length - j) 0 _ (aD.trans (aD.eG hC _ 17 98 _ (by decide) rfl rfl (by decide)) (aD.eG hC _ 18 3 _ (by decide) rfl rfl (by decide))) (Nat.zero_le _) ⟨rfl,rfl,rfl,rfl,rfl,rfl,rfl,rfl,rfl,rfl,rfl,rfl,rfl,congrArg (fun n:Nat=>AV.p (i64 n)) lb,Z,Y⟩ ⟨Z,Z,Z,Z,Z,Y⟩ fun j hj t2 h=>?_
  (repeat refine yY Z ?_);refine iF Z (fun h3=>?_) (fun h3=>?_)
  ·obtain⟨x,hx⟩:=aj (l:=o.bores) (i:=j) (by omega)
   have kx:=PQ x (List.mem_of_getElem? hx)
   have qU:=ye (s:=b) hx
   have OW:=Ag (s:=b) hx
   have hle:=yf o b j
   have Lp:=nt o b j hj
   have lh:=ai (cn o b j) pL
   have ln:((bu (i_ o b j)).map fun n=>[i64 n]).length=(i_ o b j).length:=by rw[List.length_map,bu,List.length_map]
   (repeat refine yY Z ?_);refine zX zi ⟨(oD x),(idx rfl hx),?_⟩
   (iterate 6 refine yY Z ?_)
   refine mH ?_
   (repeat refine yY Z ?_);refine zA zi (And.intro ⟨by omega,by omega⟩ ?_)
   have no:¬dA x=b->cn o b (j+1)=cn o b j/\i_ o b (j+1)=i_ o b j:=fun e=>by rw[qU,OW,if_neg e,if_neg e,List.append_nil,List.append_nil];exact⟨rfl,rfl⟩
   (repeat refine yY Z ?_);refine iF Z (fun d1=>?_) (fun d1=>?_)
   ·(repeat refine yY Z ?_);refine zA zi (And.intro ⟨by omega,by omega⟩ ?_)
    (repeat refine yY Z ?_);refine ae ?_
    refine JQ 20 (y:=.ip (oD x)) (fz:=[(20,.gC (oD x))]) (by exact hC) (by exact⟨rfl,rfl⟩) ?_
    refine iF Z (fun d2=>?_) (fun d2=>?_)
    ·have e:dA x=b:=Prod.ext d1 d2
     rw[if_pos e] at qU OW
     (repeat refine yY Z ?_);refine c_ [] true Om rfl (by kernel_rfl) ?_;(repeat refine yY Z ?_);refine zX zi ⟨_,_,(ya o x.lo x.hi gm ho.stack.1),?_⟩
     (repeat refine yY Z ?_);refine zA zi (And.intro ⟨fun r hr=>(by rw[List.mem_singleton.1 hr];rfl),by rw[lh];simp;omega,by rw[lh];simp;omega⟩ ?_)
     (repeat refine yY Z ?_);refine zA zi (And.intro ⟨by simp,by rw[ln];simp;omega,by rw[ln];simp;omega⟩ ?_)
     (repeat refine yY Z ?_);refine zA zi (And.intro ⟨by omega,by omega⟩ ?_)
     (repeat refine yY Z ?_);refine ae ⟨(j+1),_,aD.refl _ _,?_⟩
     exact⟨by omega,by omega,⟨Z,Z,Z,Z,Z,Z,Z,Z,Z,Z,Z,Z,Z,Z,Z,Y⟩,⟨rfl,rfl,rfl,by rw[qU,List.map_append];rfl,by rw[OW,bu,bu,List.map_append,List.map_append];rfl,trivial⟩⟩
    obtain⟨k1,k2⟩:=no fun e=>d2 (by rw[<-e];rfl)
    (repeat refine yY Z ?_);refine zA zi (And.intro ⟨by omega,by omega⟩ ?_)
    (repeat refine yY Z ?_);refine ae ⟨(j+1),_,aD.refl _ _,?_⟩
    exact⟨by omega,by omega,⟨Z,Z,Z,Z,Z,Z,Z,Z,Z,Z,Z,Z,Z,Z,Z,Y⟩,⟨rfl,rfl,rfl,by rw[k1];rfl,by rw[k2];rfl,trivial⟩⟩
   obtain⟨k1,k2⟩:=no fun e=>d1 (by rw[<-e];rfl)
   (repeat refine yY Z ?_);refine ae ?_
   refine JP (aD.refl _ _) ?_
   (repeat refine yY Z ?_);refine zA zi (And.intro ⟨by omega,by omega⟩ ?_)
   (repeat refine yY Z ?_);refine ae ⟨(j+1),_,aD.refl _ _,?_⟩
   exact⟨by omega,by omega,⟨Z,Z,Z,Z,Z,Z,Z,Z,Z,Z,Z,Z,Z,Z,Z,Y⟩,⟨rfl,rfl,rfl,by rw[k1];rfl,by rw[k2];rfl,trivial⟩⟩
  have ej:j=o.bores.length:=by omega
  rw[ej]
  have hH:=yf o b o.bores.length
  have PX:=nt o b _ (Nat.le_refl _)
  have Hx:=v_ t (cn o b o.bores.length) near ht (by omega)
  obtain⟨N,hN⟩:∃N,N=i_ o b o.bores.length:=⟨_,rfl⟩
  obtain⟨ZQ,hZ⟩:∃ZQ,ZQ=jy t (cn o b o.bores.length) near (cn o b o.bores.length).length:=⟨_,rfl⟩
  have R3:ZQ.length<=(cn o b o.bores.length).length:=by rw[hZ];exact aK.oG _ _ _
  have Rr:∀z∈ZQ,z < N.length:=fun z hz=>by
   rw[hN,<-PX]
   exact (aK.mg (hZ ▸ hz)).1
  by_cases c4:EU t (cn o b o.bores.length) near=0
  rotate_left
  ·rw[ke,if_neg c4] at Hx
   have e9:aH (CH o t near B) 0 B.length=EU t (cn o b o.bores.length) near:=au hi.2 (by omega) cf c4
   (repeat refine yY Z ?_);refine zX zi ⟨_,_,Hx,?_⟩
   (repeat refine yY Z ?_);refine iF Z (fun g=>?_) (fun g=>?_)
   ·(repeat refine yY Z ?_);refine aa zi (And.intro ?_ trivial)
    rw[e9,if_pos c4];rfl
   exact absurd (by simpa using g) c4
  rw[ke,if_pos c4,<-hZ] at Hx
  rw[c4] at cf
  have lZ:((bu ZQ).map fun n=>[i64 n]).length=ZQ.length:=by rw[List.length_map,bu,List.length_map]
  have OX:eR o t near b=jv N ZQ:=by rw[eR,<-hZ,<-hN]
  rw[<-hN] at hH PX
  (repeat refine yY Z ?_);refine zX zi ⟨_,_,Hx,?_⟩
  (iterate 28 refine yY Z ?_)
  refine mH ?_
  (repeat refine yY Z ?_)
  refine ak (fun k:Nat=>k<=ZQ.length) (fun k=>[(1,.p (.sl (t.map ff))),(2,.p (i64 near)),(3,.p (.ip (sR o))),(11,.p (.sl ((aV o).map sp))),(13,.ow 13),(47,.p (.sl R)),(48,.p (i64 B.length)),(49,.p (i64 i)),(18,.p (ints (bu N))),(24,.bx 24 0),(121,.p (ints (bu ZQ))),(122,.p (i64 ZQ.length)),(123,.p (i64 k))]) (fun k=>[(13,.row 66 (cH o t near q B i)),(24,.box (((oL q (aV o) i b).map .p)++[.p (.sl ((sN o t near b).map v8)),.ow 90000])),(90000,.row 3 ((bu (jv N (ZQ.take k))).map fun n=>[i64 n]))]) (fun k=>ZQ.length - k) 0 _ (aD.trans (aD.va hC _ 24 5 90000 3 _ _ (by decide) (by decide) rfl rfl rfl (by decide)) (aD.eh hC _ 18 (y:=ints (bu N)) (fz:=[(18,.fK ((bu N).map fun n=>[i64 n]))]) ⟨by rw[hN];rfl,by rw[hN]⟩)) (Nat.zero_le _) ⟨rfl,rfl,rfl,rfl,rfl,rfl,rfl,rfl,rfl,rfl,rfl,congrArg (fun n:Nat=>AV.p (i64 n)) lZ,Z,Y⟩ ⟨Z,Z,Z,Y⟩ fun k hk t3 h=>?_
  (repeat refine yY Z ?_);refine iF Z (fun h4=>?_) (fun h4=>?_)
  ·obtain⟨z,hz⟩:=aj (l:=ZQ) (i:=k) (by omega)
   obtain⟨y,hy⟩:=aj (l:=N) (i:=z) (Rr z (List.mem_of_getElem? hz))
   have Rs:(bu ZQ)[k]?=some (z:Int):=by rw[bu,List.getElem?_map,hz];rfl
   have OQ:(bu N)[z]?=some (y:Int):=by rw[bu,List.getElem?_map,hy];rfl
   have FM:bu (jv N (ZQ.take (k+1)))=bu (jv N (ZQ.take k))++[(y:Int)]:=by
    rw[aN hz,bu,bu,jv,jv,List.map_append,List.map_append]
    simp[hy]
   have LO:((bu (jv N (ZQ.take k))).map fun n=>[i64 n]).length=k:=by
    rw[List.length_map,bu,List.length_map,jv,List.length_map,List.length_take];omega
   (repeat refine yY Z ?_);refine zX zi ⟨[i64 (z:Int)],(idx rfl Rs),?_⟩
   (repeat refine yY Z ?_);refine c_ [] true D8 rfl (by kernel_rfl) ?_;(repeat refine yY Z ?_);refine zX zi ⟨[i64 (y:Int)],(idx rfl OQ),?_⟩
   (repeat refine yY Z ?_);refine zA zi (And.intro ⟨by simp,by rw[LO];simp;omega,by rw[LO];simp;omega⟩ ?_)
   (repeat refine yY Z ?_);refine zA zi (And.intro ⟨by omega,by omega⟩ ?_)
   (repeat refine yY Z ?_);refine ae ?_
   refine⟨k+1,_,aD.JI _ 134 90000 (by decide) (by decide),by omega,by omega,⟨Z,Z,Z,Z,Z,Z,Z,Z,Z,Z,Z,Z,Z,Y⟩,⟨rfl,rfl,?_,trivial⟩⟩
   show AB.row _ _=AB.row _ _
   rw[FM,List.map_append]
   rfl
  have ek:k=ZQ.length:=by omega
  have ld:=K3
  (repeat refine yY Z ?_);refine ae ?_
  refine JP (aD.vc (by exact hC) _ 24 5 90000 3 _ _ (by decide) (by exact rfl) (by exact rfl) (by exact rfl)) ?_
  (repeat refine yY Z ?_);refine zA zi (And.intro ⟨fun r hr=>(by rw[List.mem_singleton.1 hr];rfl),by simp;omega,by simp;omega⟩ ?_)
  (repeat refine yY Z ?_);refine zA zi (And.intro ⟨by omega,by omega⟩ ?_)
  (repeat refine yY Z ?_);refine ae ⟨(i+1),_,aD.refl _ _,?_⟩
  refine⟨⟨by omega,cc hi.2 cf⟩,by omega,⟨Z,Z,Z,Z,Z,Z,Z,Z,Y⟩,⟨?_,trivial⟩⟩
  show AB.row _ _=AB.row _ _
  rw[hd,gr,OX,show ZQ.take k=ZQ from List.take_of_length_le (by omega)]
  rfl
 have e:i=B.length:=by omega
 have z0:aH (CH o t near B) 0 B.length=0:=aT fun k _ hk=>hi.2 k (by omega)
 rw[if_neg (fun h=>h z0)]
 (repeat refine yY Z ?_);refine aa zi ?_
 rw[e]
 exact⟨Z,Y⟩
theorem E1 (t:List eJ) (near:Int) (h:bD):-1<=iY t near h/\iY t near h < t.length:=qY t h.size near t.length
theorem uv (t:List eJ) (l:List bD) (near:Int):∀i,i<=t.length->((gB t l near i).flatMap yc.holes).length=((List.range i).map fun k=>(qv t l near l.length k).length).sum
 | 0,_=>by simp[gB]
 | i+1,h=>by
  obtain⟨b,hb⟩:=aj (l:=t) (i:=i) (by omega)
  rw[ur hb,List.flatMap_append,List.length_append,uv t l near i (by omega),List.range_succ,List.map_append,List.sum_append]
  congr 1
  by_cases e:qv t l near l.length i=[] <;> simp[e]
theorem oO {α:Type} (p q:α->Bool):∀(l:List α),(∀a∈l,p a=!q a)->(l.filter p).length+(l.filter q).length=l.length
 | [],_=>rfl
 | a::l,h=>by
  have ih:=oO p q l fun b hb=>h b (List.mem_cons_of_mem _ hb)
  have ha:=h a (List.mem_cons_self ..)
  rw[List.filter_cons,List.filter_cons,ha]
  cases q a <;> simp <;> omega
theorem Ak (t:List eJ) (l:List bD) (near:Int):((gB t l near t.length).flatMap yc.holes).length+(jy t l near l.length).length=l.length:=by
 rw[uv t l near _ (Nat.le_refl _)]
 have h1:=aK.mi (iY t near) ((List.range t.length).map fun k:Nat=>(k:Int)) (aK.mh List.nodup_range fun a _ b _ e=>by omega) l
 rw[List.map_map] at h1
 have e1:((List.range t.length).map fun k=>(qv t l near l.length k).length)=(List.range t.length).map ((fun b=>(l.filter fun a=>decide (iY t near a=b)).length) ∘ fun k:Nat=>(k:Int)):=by
  refine List.map_congr_left fun k _=>?_
  rw[qv,List.take_length]
  rfl
 rw[e1,h1,jy,aK.mf _ _ _ (Nat.le_refl _),List.take_length]
 refine oO _ _ l fun a _=>?_
 have h2:=E1 t near a
 by_cases c:iY t near a < 0
 ·rw[decide_eq_true c,Bool.not_true,decide_eq_false_iff_not]
  intro hm
  obtain⟨k,_,e⟩:=List.mem_map.1 hm
  omega
 rw[decide_eq_false c,Bool.not_false,decide_eq_true_iff]
 exact List.mem_map.2 ⟨(iY t near a).toNat,by rw[List.mem_range];omega,by omega⟩
theorem wa {m:List cu} {s:List Lay} (h:bg m s=0):(a_ m s s.length).Nodup:=by
 obtain⟨h1,h2⟩:=dZ h
 split at h2
 ·cases h2
 obtain⟨h3,_⟩:=dZ h2
 have Ji:∀k,k < s.length->iA m s k=0:=fun k hk=>cD h3 k (Nat.zero_le _) (by omega)
 have gm:=js h1
 have key:∀i,i<=s.length->(a_ m s i).Nodup/\(∀x∈a_ m s i,x.1<=nC m s i)/\(pD m s i≠2->∀x∈a_ m s i,x.1 < nC m s i\/pD m s i≠1/\x.1 < nC m s i):=by
  intro i
  induction i with
  | zero=>intro _;exact⟨by simp[a_],by simp[a_],fun _=>by simp[a_]⟩
  | succ i ih=>
   intro hi
   obtain⟨k1,k2,k3⟩:=ih (by omega)
   obtain⟨l,hl⟩:=aj (l:=s) (i:=i) (by omega)
   have hb:=Ji i (by omega)
   simp only[iA,hl] at hb
   have hn:=Bo (m:=m) (s:=s) (i:=i)
   have hc:=sI (m:=m) (s:=s) (i:=i)
   have e1:iT m s i=decide (bQ m l.mat=1):=by rw[iT,hl]
   have e2:np m s i=decide (bQ m l.mat=2):=by rw[np,hl]
   have e3:=uj (m:=m) hl
   rw[e1] at hn
   rw[e2] at hc
   have Rt:¬qE (bQ m l.mat) (pD m s i):=by
    intro h8
    rw[if_neg (by intro e;rw[if_pos e] at hb;cases hb)] at hb
    repeat' split at hb
    all_goals first
     | (cases hb;done)
     | (rename_i h9;exact h9 h8)
   unfold qE at Rt
   rw[e3]
   by_cases c1:bQ m l.mat=1
   ·rw[if_pos (decide_eq_true c1)] at hn
    rw[if_neg (by rw[c1];decide),List.append_nil] at hc
    rw[hc]
    exact⟨k1,fun x hx=>by have:=k2 x hx;omega,fun _ x hx=>by have:=k2 x hx;exact .inl (by omega)⟩
   rw[if_neg (by rw[decide_eq_false c1];decide),Int.add_zero] at hn
   by_cases c2:bQ m l.mat=2
   ·rw[if_pos (decide_eq_true c2)] at hc
    have L9:pD m s i=0\/pD m s i=1:=by omega
    have dS:∀x∈a_ m s i,x.1 < nC m s i:=fun x hx=>by rcases k3 (by omega) x hx with h | h <;> omega
    rw[hc]
    refine⟨?_,fun x hx=>?_,fun h=>absurd c2 h⟩
    ·rw[List.nodup_append]
     exact⟨k1,by simp,fun x hx y hy e=>by rw[List.mem_singleton] at hy;have:=dS x hx;rw[e,hy] at this;simp only at this;omega⟩
    rcases List.mem_append.1 hx with hx | hx
    ·have:=k2 x hx;omega
    rw[List.mem_singleton.1 hx];simp only;omega
   rw[if_neg (by rw[decide_eq_false c2];decide),List.append_nil] at hc
   rw[hc,hn]
   refine⟨k1,k2,fun _ x hx=>?_⟩
   have L9:pD m s i≠2:=by omega
   rcases k3 L9 x hx with h | h
   ·exact .inl h
   exact .inl h.2
 exact (key s.length (Nat.le_refl _)).1
theorem oP {m:List cu} {s:List Lay} {l:List (Int×Int)} (h:bg m s=0):(bN m s l).Nodup:=by
 rw[bN,List.nodup_append]
 have hp:=(de zY CC (dh (a_ m s s.length) (qI m s l))).1
 refine⟨wa h,hp.nodup_iff.2 (qs _ _ _ (by simp)),fun x hx y hy e=>?_⟩
 subst e
 exact (mn.1 (hp.mem_iff.1 hy)).2 hx
theorem Al {m:List cu} {s:List Lay} {l:List (Int×Int)} {x:Int×Int} (h:x∈l):x∈bN m s l:=by
 have hp:=(de zY CC (dh (a_ m s s.length) (qI m s l))).1
 by_cases c:x∈a_ m s s.length
 ·exact List.mem_append_left _ c
 exact List.mem_append_right _ (hp.mem_iff.2 (mn.2 ⟨List.mem_append_left _ h,c⟩))
theorem CL {o:Order} {b:lr} (h:b∈o.bores):dA b∈aV o:=by
 rw[aV,aK.Gs,(de yn EM _).1.mem_iff]
 exact List.mem_map.2 ⟨b,h,rfl⟩
theorem CM {o:Order} {x:Int×Int} (h:x∈aV o):fJ o x=false:=by
 rw[fJ,decide_eq_false_iff_not,cY,List.length_map,aK.mf _ _ _ (Nat.le_refl _),List.take_length]
 intro e
 have:=List.eq_nil_of_length_eq_zero e
 exact absurd (List.mem_filter.2 ⟨h,decide_eq_true rfl⟩) (by rw[this];simp)
def eC (o:Order) (B:List (Int×Int)) (i:Nat):List (Nat×(Int×Int)):=(List.range i).filterMap fun k=>match B[k]? with
 | some b=>if fJ o b=true then none else some (k,b)
 | none=>none
theorem wb (o:Order) (t:List eJ) (near:Int) (q:Nat) (B:List (Int×Int)) (i:Nat):cH o t near q B i=(eC o B i).map fun d=>gr o t near q d.1 d.2:=by
 unfold cH eC
 rw[List.map_filterMap]
 refine congrArg (fun f=>List.filterMap f (List.range i)) (funext fun k=>?_)
 cases B[k]? with
 | none=>rfl
 | some b=>cases h:fJ o b <;> simp[h]
theorem lz (o:Order) (B:List (Int×Int)):∀i,i<=B.length->(eC o B i).map Prod.snd=(B.take i).filter fun b=>!fJ o b
 | 0,_=>by simp[eC]
 | i+1,h=>by
  obtain⟨b,hb⟩:=aj (l:=B) (i:=i) (by omega)
  have ih:=lz o B i (by omega)
  rw[aN hb,List.filter_append,<-ih]
  unfold eC
  rw[List.range_succ,List.filterMap_append,List.map_append]
  congr 1
  cases e:fJ o b <;> simp[hb,e]
def jA (o:Order) (t:List eJ) (near:Int) (b:Int×Int):Nat:=((sN o t near b).flatMap yc.holes).length+(eR o t near b).length
theorem Gz (o:Order) (t:List eJ) (near:Int) (b:Int×Int):jA o t near b=(o.bores.filter fun x=>decide (dA x=b)).length:=by
 have:=Ak t (cn o b o.bores.length) near
 rw[jA,sN,eR,jv,List.length_map,this,cn,List.length_map,List.take_length]
theorem Am {o:Order} (t:List eJ) (near:Int) (h:bg o.mats o.stack=0):(((eC o (bO o) (bO o).length).map fun d=>jA o t near d.2).sum)=o.bores.length:=by
 have e:((eC o (bO o) (bO o).length).map fun d=>jA o t near d.2)=((eC o (bO o) (bO o).length).map Prod.snd).map fun b=>(o.bores.filter fun x=>decide (dA x=b)).length:=by
  rw[List.map_map]
  exact List.map_congr_left fun d _=>Gz o t near d.2
 have yL:((bO o).filter fun b=>!fJ o b).Nodup:=(oP h).filter _
 rw[e,lz o _ _ (Nat.le_refl _),List.take_length,aK.mi dA _ yL]
 congr 1
 refine List.filter_eq_self.2 fun b hb=>?_
 simp only[decide_eq_true_eq]
 rw[List.mem_filter]
 have h1:=CL hb
 exact⟨Al h1,by rw[CM h1];rfl⟩
theorem An {o:Order} (t:List eJ) (near:Int) (h:bg o.mats o.stack=0):((eC o (bO o) (bO o).length).flatMap fun d=>eR o t near d.2).Nodup:=by
 have e:((eC o (bO o) (bO o).length).flatMap fun d=>eR o t near d.2)=((eC o (bO o) (bO o).length).map Prod.snd).flatMap fun b=>eR o t near b:=by
  rw[List.flatMap_map]
 rw[e,lz o _ _ (Nat.le_refl _),List.take_length]
 refine aK.qo (fun k=>match o.bores[k]? with | some b=>dA b | none=>(0,0)) (fun b=>eR o t near b) _ ((oP h).filter _) fun b _=>?_
 have hk:∀k∈jy t (cn o b o.bores.length) near (cn o b o.bores.length).length,k < (i_ o b o.bores.length).length:=fun k hk=>by
  rw[<-nt o b _ (Nat.le_refl _)]
  exact (aK.mg hk).1
 refine⟨aK.xP (aK.qn _ _ _) (aK.qn _ _ _) hk,fun k Ru=>?_⟩
 obtain⟨_,x,hx,hq⟩:=aK.mg (aK.CB hk Ru)
 simp only[hx]
 exact of_decide_eq_true hq
open aK (aG bB fa)
def p0:fG:=⟨0,[],.nil⟩
def o0:Order:=⟨[],⟨[],[]⟩,[],[],[],p0,[],[],[],[],⟨0,0,0,0,0,[],[]⟩⟩
theorem E2:ni p0:=⟨⟨by decide,fun t ht=>by cases ht⟩,by decide,trivial⟩
theorem CN:iU o0 where
 types:=⟨by decide,fun t ht=>by cases ht⟩
 list:=⟨⟨by decide,fun t ht=>by cases ht⟩,by decide,fun t ht=>by cases ht⟩
 mats:=⟨by decide,fun t ht=>by cases ht⟩
 stack:=⟨by decide,fun t ht=>by cases ht⟩
 plots:=⟨by decide,fun t ht=>by cases ht⟩
 outline:=E2
 bores:=by decide
 bodies:=⟨by decide,fun t ht=>by cases ht⟩
 places:=⟨by decide,fun t ht=>by cases ht⟩
 feet:=⟨by decide,fun t ht=>by cases ht⟩
 rules:=⟨fun t ht=>(by cases ht),by decide,by decide⟩
theorem Jn:dD o0=(3,vY):=by decide
theorem qw:af C 11 [] (.p (bool true)) []:=by
 refine ah hC Tryz.func11 rfl rfl 14 rfl (by decide) (by kernel_rfl) fun _ _ _ _ _=>?_
 have h:=pI o0 CN
 rw[Jn] at h
 (repeat refine yY Z ?_);refine zX zi ⟨_,_,h,?_⟩
 (repeat refine yY Z ?_);refine aa zi (And.intro ?_ trivial)
 rfl
theorem CO (l:List yc) (hN:l.length<=140737488355328) (hS:(l.flatMap yc.holes).length<=1000000):af C 13 [.pv (.sl (l.map v8))] (.p (.sl ((l.flatMap yc.holes).map pL))) []:=by
 refine ah hC Tryz.func13 rfl rfl 18 rfl (by decide) (by kernel_rfl) fun _ _ _ _ _=>?_
 have lm:=ai l v8
 have mono:∀i,((l.take i).flatMap yc.holes).length<=(l.flatMap yc.holes).length:=fun i=>by
  conv=>rhs;rw[<-List.take_append_drop i l,List.flatMap_append,List.length_append]
  omega
 (repeat refine yY Z ?_)
 refine ak (fun i:Nat=>i<=l.length) (fun i=>[(3,.ow 3),(6,.p (.sl (l.map v8))),(7,.p (i64 l.length)),(8,.p (i64 i))]) (fun i=>[(3,.row 98 (((l.take i).flatMap yc.holes).map pL))]) (fun i=>l.length - i) 0 _ (aD.eG hC _ 3 98 _ (by decide) rfl rfl (by decide)) (Nat.zero_le _) ⟨rfl,rfl,congrArg (fun n:Nat=>AV.p (i64 n)) lm,Z,Y⟩ ⟨Z,Y⟩ fun i hi t h=>?_
 (repeat refine yY Z ?_);refine iF Z (fun h1=>?_) (fun h1=>?_)
 ·obtain⟨x,hx⟩:=aj (l:=l) (i:=i) (by omega)
  have e:(l.take (i+1)).flatMap yc.holes=(l.take i).flatMap yc.holes++x.holes:=by rw[aN hx,List.flatMap_append];simp
  have h1:=mono (i+1)
  rw[e,List.length_append] at h1
  (repeat refine yY Z ?_);refine zX zi ⟨(v8 x),(idx rfl hx),?_⟩
  (repeat refine yY Z ?_);refine zA zi (And.intro ⟨jX fun _=>rfl,by show ((((l.take i).flatMap yc.holes).map pL).length+(x.holes.map pL).length)*40<=_;rw[List.length_map,List.length_map];omega,by rw[List.length_map,List.length_map];omega⟩ ?_)
  (repeat refine yY Z ?_);refine zA zi (And.intro ⟨by omega,by omega⟩ ?_)
  (repeat refine yY Z ?_);refine ae ⟨(i+1),_,aD.refl _ _,?_⟩
  exact⟨by omega,by omega,⟨Z,Z,Z,Z,Y⟩,⟨by rw[e,List.map_append];rfl,trivial⟩⟩
 have e:i=l.length:=by omega
 (repeat refine yY Z ?_);refine aa zi ?_
 rw[e,List.take_length]
 exact⟨Z,Y⟩
theorem wc (l:List Int) (hl:l.length<=1000000) (hs:∀(i:Nat) (a b:Int),l[i]?=some a->l[i+1]?=some b->¬b=a):af C 15 [.pv (ints l)] (.p (ints l)) []:=by
 refine ah hC Tryz.func15 rfl rfl 61 rfl (by decide) (by kernel_rfl) fun _ _ _ _ _=>?_
 have lm:=ai l fun n=>[i64 n]
 (repeat refine yY Z ?_);refine iF Z (fun h0=>?_) (fun h0=>?_)
 ·(repeat refine yY Z ?_);refine aa zi (And.intro ?_ trivial)
  rfl
 (repeat refine yY Z ?_)
 refine ak (fun k:Nat=>1<=k/\k<=l.length) (fun k=>[(0,.p (ints l)),(3,.p (i64 k))]) (fun _=>[]) (fun k=>l.length - k) 1 _ (aD.refl _ _) ⟨by omega,by omega⟩ ⟨Z,Z,Y⟩ trivial fun k hk t h=>?_
 (repeat refine yY Z ?_);refine iF Z (fun h1=>?_) (fun h1=>?_)
 ·rw[lm] at h1
  obtain⟨x,hx⟩:=aj (l:=l) (i:=k - 1) (by omega)
  obtain⟨y,hy⟩:=aj (l:=l) (i:=k) (by omega)
  have bG:=hs (k - 1) x y hx (by rw[show k - 1+1=k by omega];exact hy)
  (repeat refine yY Z ?_);refine c_ [] false D8 rfl (by kernel_rfl) ?_;(repeat refine yY Z ?_);refine zX zi ⟨[i64 y],(idx rfl hy),?_⟩
  (repeat refine yY Z ?_);refine zA zi (And.intro ⟨by omega,by omega⟩ ?_)
  (repeat refine yY Z ?_);refine zX zi ⟨[i64 x],(idx (show (k:Int) - 1=((k - 1:Nat):Int) by omega) hx),?_⟩
  (repeat refine yY Z ?_);refine iF Z (fun h2=>?_) (fun h2=>?_)
  ·exact absurd h2 bG
  (repeat refine yY Z ?_);refine zA zi (And.intro ⟨by omega,by omega⟩ ?_)
  (repeat refine yY Z ?_);refine ae ⟨(k+1),_,aD.refl _ _,?_⟩
  exact⟨⟨by omega,by omega⟩,by omega,⟨Z,Z,Y⟩,trivial⟩
 (repeat refine yY Z ?_);refine aa zi (And.intro ?_ trivial)
 rfl
theorem we {l:List Nat} (h:l.Nodup):∀(i:Nat) (a b:Int),(gi (bu l))[i]?=some a->(gi (bu l))[i+1]?=some b->¬b=a:=fun i a b ha hb e=>by
 have hn:(gi (bu l)).Nodup:=by
  rw[gi,(List.mergeSort_perm _ _).nodup_iff]
  exact aK.mh h fun x _ y _ e=>by omega
 subst e
 obtain⟨h1,h2⟩:=List.getElem?_eq_some_iff.1 ha
 obtain⟨h3,h4⟩:=List.getElem?_eq_some_iff.1 hb
 exact (List.pairwise_iff_getElem.1 hn) i (i+1) h1 h3 (by omega) (h2.trans h4.symm)
theorem wg (a b:List Nat):bu (a++b)=bu a++bu b:=List.map_append
theorem yg (l:List Nat) (i:Nat):(l.take i).sum<=l.sum:=by
 conv=>rhs;rw[<-List.take_append_drop i l,List.sum_append]
 omega
theorem yi (o:Order) (t:List eJ) (near:Int):(∃s f,f≠0/\pP o t near=[.sl [],str s,i64 f])\/(bg o.mats o.stack=0/\o.bores.length<=500/\pP o t near=[.sl ((eC o (bO o) (bO o).length).map fun d=>gr o t near (pO o) d.1 d.2),str aX,i64 0]):=by
 unfold pP
 by_cases c1:(dD o).1=0
 rotate_left
 ·exact .inl ⟨_,_,c1,if_pos c1⟩
 rw[if_neg (fun h=>h c1)]
 obtain⟨h1,h2⟩:=pQ c1
 split
 ·exact .inl ⟨_,1,by decide,rfl⟩
 split
 ·rename_i h;exact .inl ⟨_,_,h,rfl⟩
 split
 ·rename_i h;exact .inl ⟨_,_,h,rfl⟩
 rw[wb]
 exact .inr ⟨h1,h2,rfl⟩
theorem Ao (o:Order) (ho:iU o) (t:List eJ) (ht:pM t) (near:Int):af C 4 [.pv (.ag (sR o)),.pv (.sl (t.map ff)),.pv (i64 near)] (.p (bool true)) []:=by
 have hd:=sO o t near ho ht
 rcases yi o t near with⟨s,f,hf,e⟩ | ⟨g1,g2,e⟩
 ·rw[e] at hd
  refine ah hC Tryz.func4 rfl rfl 69 rfl (by decide) (by kernel_rfl) fun _ _ _ _ _=>?_
  (repeat refine yY Z ?_);refine zX zi ⟨_,_,hd,?_⟩
  (repeat refine yY Z ?_);refine iF Z (fun g=>?_) (fun g=>?_)
  ·(repeat refine yY Z ?_);refine zX zi ⟨_,_,qw,?_⟩
   (repeat refine yY Z ?_);refine aa zi (And.intro ?_ trivial)
   rfl
  exact absurd (by simpa using g) hf
 rw[e] at hd
 have fA:=Am t near g1
 have yL:=An t near g1
 obtain⟨D,hD⟩:∃D,D=eC o (bO o) (bO o).length:=⟨_,rfl⟩
 rw[<-hD] at hd fA yL
 have Fx:=yg (D.map fun d=>jA o t near d.2)
 have lD:=ai D fun d=>gr o t near (pO o) d.1 d.2
 have lb:=ai o.bores oD
 have R4:D.length<=1000000:=by
  have h1:D.length<=(bO o).length:=by
   rw[hD]
   exact Nat.le_trans (List.length_filterMap_le _ _) (by simp)
  have h2:=(kd (m:=o.mats) (s:=o.stack) (l:=aV o)).1
  have h3:=(uu g1).2
  have h4:=(de yn EM (o.bores.map dA)).1.length_eq
  rw[List.length_map] at h4
  have h5:(aV o).length<=(fH yn (o.bores.map dA)).length:=aK.vV _
  have h6:(bO o).length=(bN o.mats o.stack (aV o)).length:=rfl
  omega
 have hm:∀i,((D.take i).flatMap fun d=>eR o t near d.2).length<=((D.take i).map fun d=>jA o t near d.2).sum:=fun i=>by
  generalize D.take i=E
  induction E with
  | nil=>simp
  | cons d E ih=>simp only[List.flatMap_cons,List.length_append,List.map_cons,List.sum_cons,jA] at ih ⊢;omega
 refine ah hC Tryz.func4 rfl rfl 69 rfl (by decide) (by kernel_rfl) fun _ _ _ _ _=>?_
 (repeat refine yY Z ?_);refine zX zi ⟨_,_,hd,?_⟩
 (repeat refine yY Z ?_)
 refine ak (fun i:Nat=>i<=D.length) (fun i=>[(3,.bx 3 0),(10,.p (i64 ((((D.map fun d=>jA o t near d.2).take i).sum:Nat):Int))),(11,.ow 11),(30,.p (.sl (D.map fun d=>gr o t near (pO o) d.1 d.2))),(31,.p (i64 D.length)),(32,.p (i64 i))]) (fun i=>[(3,.box ((sR o).map .p)),(11,.row 3 ((bu ((D.take i).flatMap fun d=>eR o t near d.2)).map fun n=>[i64 n]))]) (fun i=>D.length - i) 0 _ (aD.eG hC _ 11 3 _ (by decide) rfl rfl (by decide)) (Nat.zero_le _) ⟨rfl,rfl,rfl,rfl,congrArg (fun n:Nat=>AV.p (i64 n)) lD,Z,Y⟩ ⟨Z,Z,Y⟩ fun i hi tt h=>?_
 (repeat refine yY Z ?_);refine iF Z (fun h1=>?_) (fun h1=>?_)
 ·obtain⟨d,OY⟩:=aj (l:=D) (i:=i) (by omega)
  have yA:=Fx (i+1)
  have OZ:=hm i
  have je:((D.map fun d=>jA o t near d.2).take (i+1)).sum=((D.map fun d=>jA o t near d.2).take i).sum+jA o t near d.2:=by
   rw[aN (show (D.map fun d=>jA o t near d.2)[i]?=some (jA o t near d.2) by rw[List.getElem?_map,OY];rfl),List.sum_append]
   simp
  have Rv:(D.take (i+1)).flatMap (fun d=>eR o t near d.2)=((D.take i).flatMap fun d=>eR o t near d.2)++eR o t near d.2:=by
   rw[aN OY,List.flatMap_append]
   simp
  have BP:(D.take i).map (fun d=>jA o t near d.2)=(D.map fun d=>jA o t near d.2).take i:=by rw[List.map_take]
  rw[BP] at OZ
  have Rw:jA o t near d.2=((sN o t near d.2).flatMap yc.holes).length+(eR o t near d.2).length:=rfl
  have hA:=CO (sN o t near d.2) (by have:=yd t (cn o d.2 o.bores.length) near t.length;have:=ht.1;show (gB _ _ _ _).length<=_;omega) (by omega)
  have lA:=ai ((sN o t near d.2).flatMap yc.holes) pL
  have lM:((bu (eR o t near d.2)).map fun n=>[i64 n]).length=(eR o t near d.2).length:=by rw[List.length_map,bu,List.length_map]
  have lN:((bu ((D.take i).flatMap fun d=>eR o t near d.2)).map fun n=>[i64 n]).length=((D.take i).flatMap fun d=>eR o t near d.2).length:=by rw[List.length_map,bu,List.length_map]
  (repeat refine yY Z ?_);refine zX zi ⟨(gr o t near (pO o) d.1 d.2),⟨by omega,by rw[Int.toNat_natCast,List.getElem?_map,OY];rfl⟩,?_⟩
  (repeat refine yY Z ?_);refine c_ [] false FZ rfl (by kernel_rfl) ?_;(repeat refine yY Z ?_);refine zX zi ⟨_,_,hA,?_⟩
  (repeat refine yY Z ?_);refine zA zi (And.intro ⟨by omega,by omega⟩ ?_)
  (repeat refine yY Z ?_);refine zA zi (And.intro ⟨by omega,by omega⟩ ?_)
  (repeat refine yY Z ?_);refine zA zi (And.intro ⟨jX fun _=>rfl,by rw[lN,lM];show (_+_)*8<=_;omega,by rw[lN,lM];omega⟩ ?_)
  (repeat refine yY Z ?_);refine zA zi (And.intro ⟨by omega,by omega⟩ ?_)
  (repeat refine yY Z ?_);refine ae ⟨(i+1),_,aD.refl _ _,?_⟩
  exact⟨by omega,by omega,⟨rfl,aS (by rw[je,Rw];omega),Z,Z,Z,Z,Y⟩,⟨rfl,by rw[Rv,wg,List.map_append];rfl,trivial⟩⟩
 have ei:i=D.length:=by omega
 have OZ:=hm i
 have yA:=Fx i
 rw[show (D.take i).map (fun d=>jA o t near d.2)=(D.map fun d=>jA o t near d.2).take i by rw[List.map_take]] at OZ
 have PY:((D.map fun d=>jA o t near d.2).take i).sum=o.bores.length:=by
  rw[List.take_of_length_le (by rw[List.length_map];omega)];exact fA
 have O0:((D.take i).flatMap fun d=>eR o t near d.2).Nodup:=by
  rw[List.take_of_length_le (by omega)];exact yL
 generalize ((D.take i).flatMap fun d=>eR o t near d.2)=M at *
 generalize ((D.map fun d=>jA o t near d.2).take i).sum=S at *
 have Rx:(bu M).length=M.length:=by rw[bu,List.length_map]
 have Gv:(gi (bu M)).length=M.length:=by rw[gi,List.length_mergeSort,Rx]
 have E6:=we O0
 (iterate 5 refine yY Z ?_)
 refine mH ?_
 (repeat refine yY Z ?_);refine zX zi ⟨_,_,(ub (bu M) (by omega)),?_⟩
 (repeat refine yY Z ?_);refine ae ?_
 refine JQ 11 (y:=ints (gi (bu M))) (fz:=[(11,.fK ((gi (bu M)).map fun n=>[i64 n]))]) (by exact hC) (by exact⟨rfl,rfl⟩) ?_
 (repeat refine yY Z ?_);refine iF Z (fun d1=>?_) (fun d1=>?_)
 rotate_left
 ·exact absurd (by omega) d1
 (repeat refine yY Z ?_);refine zX zi ⟨_,_,(wc (gi (bu M)) (by omega) E6),?_⟩
 (repeat refine yY Z ?_);refine iF Z (fun d2=>?_) (fun d2=>?_) <;> try simp only[zB] at d2
 rotate_left
 ·exact absurd trivial d2
 (repeat refine yY Z ?_);refine zX zi ⟨_,_,qw,?_⟩
 (repeat refine yY Z ?_);refine aa zi (And.intro ?_ trivial)
 rfl
end M
end Go.Proofs.YtiaifckpmefinaaGreatDoor
