/- Part 10 of 14 of the proof of RulesHarderBreakMore (the names are shortened by a program: the size of a claim is limited). -/
import Derived.Test.YtpbkimanfahbgaaGreatDoorH09
set_option linter.unusedVariables false
set_option linter.unusedSimpArgs false
set_option maxRecDepth 100000
set_option maxHeartbeats 8000000
namespace Go.Proofs.YtpbkimanfahbgaaGreatDoor
namespace M
open Go.AM Go.RowKit Go.Lib
open Reg (UF fg iota)
def pV (n i:Nat):List Int:=(List.range n).map fun (j:Nat)=>if j < i then (j:Int) else 0
theorem vp (n i:Nat):(pV n i).length=n:=by simp[pV]
theorem Bt {n i:Nat} (h:i < n):(pV n i)[i]?=some 0:=by
 rw[pV,List.getElem?_map,List.getElem?_range h]
 simp
theorem xH (n:Nat):aE (pV n 0)=List.replicate n [i64 0]:=by
 refine List.ext_getElem? fun m=>?_
 rw[aE,List.getElem?_map,pV,List.getElem?_map,List.getElem?_replicate]
 by_cases h:m < n
 ·rw[List.getElem?_range h,if_pos h];rfl
 rw[if_neg h,List.getElem?_eq_none (by simp;omega)];rfl
theorem Bu (n:Nat):pV n n=iota n:=List.map_congr_left fun j hj=>if_pos (List.mem_range.1 hj)
theorem Bv {n i:Nat} (h:i < n):(pV n i).set i (i:Int)=pV n (i+1):=by
 refine List.ext_getElem? fun m=>?_
 rw[Reg.eW (by rw[vp];exact h),pV,pV,List.getElem?_map,List.getElem?_map]
 by_cases e:m=i
 ·subst e
  rw[if_pos rfl,List.getElem?_range h]
  simp
 rw[if_neg e]
 by_cases hm:m < n
 ·rw[List.getElem?_range hm]
  simp only[Option.map_some,Option.some.injEq]
  by_cases h2:m < i
  ·rw[if_pos h2,if_pos (by omega)]
  rw[if_neg h2,if_neg (by omega)]
 rw[List.getElem?_eq_none (by simp;omega)];rfl
theorem FO (n:Nat) (hn:n<=1000000000):aD C 121 [.pv (i64 n)] (.hown [.row 3 (aE (iota n))]) []:=by
 refine aT hC Tryz.func121 rfl rfl 26 rfl (by decide) (by kernel_rfl) fun _ _ _ _ _=>?_
 (refine yS<|yA Z<|yU<|yP Z<|yn Z<|bg zI ?_;refine And.intro ⟨by omega,by omega,by dsimp only;omega,by omega⟩ ?_)
 (refine aS (af (yV Z (yn Z (aA zI (aS (ak (cD Z (jW Z Z Z (nX Z) (ak (yT (au (yS (yq Z ?_)))))))))))));refine aA zI<|bd<|ak<|yV Z<|yV Z<|yq Z<|aA zI<|bd<|af<|yP Z<|yP Z<|yT<|aZ ?_)
 refine nj (fun _:Unit=>True) (fun _=>[(3,.bx 8 0)]) (fun _=>[(8,.box [.ow 6]),(6,.row 3 (aE (iota n)))]) (fun _ hO t h=>?_) ?_
 ·refine aj<|fB ?_
  refine aM (yq Z (aA zI (bd (ak (cD Z (jW Z Z Z (nX Z) (ak (yT (ai ?_)))))))))
  refine CR (aW.pack (by exact hC) _ 8 (cs:=[.row 3 (aE (iota n))]) (by exact rfl) (by exact rfl) (by exact⟨Z,Y⟩)) ?_
  refine bP<|bQ zi ?_
  exact And.intro rfl (And.intro rfl trivial)
 refine aI (fun i:Nat=>i<=n) (fun i=>[(3,.bx 8 0),(13,.p (i64 n)),(14,.p (i64 i))]) (fun i=>[(8,.box [.ow 6]),(6,.row 3 (aE (pV n i)))]) (fun i=>n - i) 0 _ (aW.refl _ _) (Nat.zero_le _) ⟨rfl,congrArg (fun m:Nat=>AV.p (i64 m)) List.length_replicate,Z,Y⟩ ⟨rfl,by rw[xH];rfl,trivial⟩ fun i hi t h=>?_
 have lv:=cg (pV n i)
 have lu:=vp n i
 (refine yS<|yP Z<|yT<|au<|az Z ?_;refine aa (fun h1=>?_) (fun h1=>?_) <;> try simp only[zB] at h1)
 ·((refine aJ<|aj<|au<|aZ<|yS<|yP Z<|yA Z<|yT<|aM<|yq Z<|aA zI<|bd<|ak<|yV Z ?_;refine yV Z<|yV Z<|yP Z<|yP Z<|yq Z<|bg zI ?_);refine And.intro ⟨by omega,by rw[lv];omega⟩ ?_)
  (refine bd<|bJ<|yq Z<|aK zI ?_;refine⟨[i64 0],(cY (Bt (by omega))),?_⟩)
  (refine bd<|aF<|an<|cL<|bp<|aj<|aM<|yq Z<|bg zI ?_;refine sI ?_)
  (refine yk<|yP Z<|yT<|ai ?_;refine⟨(i+1),_,aW.refl _ _,?_⟩)
  exact⟨by omega,by omega,⟨Z,Z,Z,Y⟩,⟨rfl,congrArg (AB.row _) ((eO _ _ _).trans (by rw[Int.toNat_natCast,Bv (by omega)])),trivial⟩⟩
 refine bT<|aY<|aY<|bU<|aj<|ai<|zX zi ?_
 have e:i=n:=by omega
 subst e
 exact⟨(),trivial,⟨Z,Y⟩,⟨rfl,congrArg (AB.row _) (congrArg aE (Bu i)),trivial⟩⟩
theorem Eu (k:IntKind) (a b:Int):v8 (.int k a) (.int k b)=decide (a=b):=rfl
theorem J9 {q:IntKind} {k:Int} {k':Value} (h:v8 (.int q k) k'=true):∃q',k'=.int q' k:=by
 cases k' <;> simp_all [v8]
theorem WW (v:PV) (q:IntKind) (k n:Int):∀es:List (Value×PV),gR (jw es (.int q k) v) (.int q n)=if n=k then some v else gR es (.int q n)
 | []=>by
  simp only[jw,gR,Eu]
  by_cases h:n=k <;> simp[h]
 | (k',u)::r=>by
  simp only[jw]
  cases h:v8 (.int q k) k'
  ·simp only[gR,WW v q k n r]
   by_cases e:n=k
   ·subst e;simp[h]
   simp[e]
  obtain⟨q',e⟩:=J9 h
  subst e
  simp only[gR,Eu]
  by_cases e:n=k
  ·simp[e]
  rw[show v8 (Value.int q n) (Value.int q' k)=decide (n=k) from rfl];simp[e]
theorem Dp (u:List Int) (hu:UF u) (i r:Nat) (hr:fg u i r):aD C 144 [.bb [.row 3 (aE u)],.pv (i64 i)] (.p (i64 r)) [.bb [.row 3 (aE (Reg.cO i u i).1)]]:=by
 have h:=Xw u hu i hr.lt
 rw[(Reg.fY i u i hu hr.lt (Nat.le_refl _)).root.uniq hr] at h
 exact h
def hl (l:List Nat):List HX:=[.row 3 (aE (l.map fun (m:Nat)=>(m:Int)))]
def pl (l:List Nat):List PV:=[.sl (aE (l.map fun (m:Nat)=>(m:Int)))]
def l8 (u:List Int):Nat->List Int
 | 0=>u
 | i+1=>(Reg.cO i (l8 u i) i).1
structure J_ (u:List Int) (i:Nat) (es:List (Value×PV)):Prop where
 le:i<=u.length
 key:∀(k r:Nat),(Reg.cZ (Reg.dR u) i)[k]?=some r->gR es (.int .i64 r)=some (i64 k)
theorem vq {u:List Int} (hu:UF u):∀i,i<=u.length->UF (l8 u i)/\(l8 u i).length=u.length/\∀m r,fg (l8 u i) m r↔fg u m r
 | 0,_=>⟨hu,rfl,fun _ _=>Iff.rfl⟩
 | i+1,h=>by
  obtain⟨a,b,c⟩:=vq hu i (by omega)
  have t:=Reg.fY i (l8 u i) i a (by omega) (Nat.le_refl _)
  exact⟨t.uf,t.len.trans b,fun m r=>(t.same m r).trans (c m r)⟩
theorem xI (ls:List (List Nat)):tP (ls.map hl):=fun r hr x hx=>by
 obtain⟨l,_,rfl⟩:=List.mem_map.1 hr
 simp only[hl,List.mem_cons,List.not_mem_nil,or_false] at hx
 subst hx
 trivial
theorem vt (f:AV->AV) (ls:List (List Nat)):(ls.map hl).map (fun r=>r.map (HX.dm f))=ls.map hl:=by
 rw[List.map_map];rfl
theorem sj (l:List Nat) (y:HX):(hl l).set 0 y=[y]:=rfl
theorem jo (f:AV->AV) (ls:List (List Nat)) (k d:Nat) (h:f (.ow d)=.ow d):((ls.map hl).set k [.av (.ow d)]).map (fun r=>r.map (HX.dm f))=(ls.map hl).set k [.av (.ow d)]:=by
 rw[List.map_set,vt]
 simp only[List.map_cons,List.map_nil,HX.dm,h]
theorem MH (f:AV->AV) (ls:List (List Nat)) (x:List (List HX)):(ls.map hl++x).map (fun r=>r.map (HX.dm f))=ls.map hl++x.map (fun r=>r.map (HX.dm f)):=by
 rw[List.map_append,vt]
theorem sn (ls:List (List Nat)) (k d:Nat) (hk:k < ls.length):((ls.map hl).set k [.av (.ow d)])[k]?=some [.av (.ow d)]:=List.getElem?_set_self (by rw[List.length_map];exact hk)
theorem qX {α:Type} (l:List α) (x y:α) (n:Nat) (h:n=l.length):(l++[x]).set n y=l++[y]:=by subst h;simp
theorem OY (ls:List (List Nat)):IV (ls.map hl) (ls.map pl):=IV.map fun l _=>⟨rfl,fun j u v hu hv=>by
 match j with
 | 0=>
  simp only[hl,pl,List.getElem?_cons_zero,Option.some.injEq] at hu hv
  subst hu
  subst hv
  exact .row _ _
 | j+1=>simp[hl] at hu⟩
theorem Dq (u:List Int) (hu:UF u) (hn:u.length<=1000000000):aD C 123 [.bb [.row 3 (aE u)]] (.own 44 ((Reg.ba (Reg.dR u) u.length).map pl)) [.bb [.row 3 (aE (l8 u u.length))]]:=by
 refine qy hC Tryz.func123 rfl rfl 45 rfl (by decide) (by kernel_rfl) fun _ _ _ _ _=>⟨_,aW.open hC _ 100000 [90000] (by exact rfl) rfl rfl rfl,?_⟩
 obtain⟨p,hp⟩:∃p,p=Reg.dR u:=⟨_,rfl⟩
 have hT:Reg.FM p u.length:=hp ▸ Reg.tV hu
 rw[<-hp]
 (refine yS (yB Z (yU (yB Z (yU (yn Z (aA zI (aS (af (cD Z (jW Z Z Z (Eb Z) (af (yT (au ?_)))))))))))));refine yS<|yq Z<|aA zI<|bd<|ak<|yV Z<|yV Z<|yq Z<|aA zI<|bd<|af<|yP Z<|yP Z<|yT ?_;refine aZ ?_)
 refine nj (fun _:Unit=>True) (fun _=>[(0,.bx 100000 0),(3,.ow 3)]) (fun _=>[(100000,.bb [.row 3 (aE (l8 u u.length))]),(3,.aL 44 ((Reg.ba p u.length).map hl))]) (fun _ hO t h=>?_) ?_
 ·refine aj<|fB ?_
  refine aM<|yq Z<|aA zI<|bd<|af<|cD Z<|cr Z Z Z Z Z<|yT<|ai ?_
  refine CR (aW.Hz (by exact hC) _ 2 ((Reg.ba p u.length).map pl) (e:=44) (by exact congrArg (AB.aL _) (vt (rn 3 2) _)) (OY _)) ?_
  refine bP<|bQ zi ?_
  exact And.intro rfl (And.intro rfl (And.intro rfl trivial))
 refine aI (fun x:Nat×List (Value×PV)=>J_ u x.1 x.2) (fun x=>[(0,.bx 100000 0),(3,.ow 3),(4,.ow 7),(12,.p (i64 u.length)),(13,.p (i64 x.1))]) (fun x=>[(100000,.bb [.row 3 (aE (l8 u x.1))]),(3,.aL 44 ((Reg.ba p x.1).map hl)),(7,.map (.int .i64) x.2)]) (fun x=>u.length - x.1) (0,[]) _ ((aW.pack (by exact hC) _ 100000 (cs:=[.row 3 (aE u)]) (by exact rfl) (by exact rfl) (by exact⟨Z,Y⟩)).trans ((aW.fa (by exact hC) _ 3 44 _ (by decide) (by exact rfl) (by exact rfl) (by decide)).trans (aW.Ro (by exact hC) _ 3 (e:=44) (es:=[]) (by exact rfl)))) ⟨Nat.zero_le _,fun k r h=>by simp[Reg.cZ] at h⟩ ⟨rfl,rfl,rfl,congrArg (fun m:Nat=>AV.p (i64 m)) (cg u),Z,Y⟩ ⟨Z,Z,Z,Y⟩ fun ⟨i,es⟩ hx t h=>?_
 obtain⟨h1,h2⟩:=hx
 simp only at h1 h2
 rw[<-hp] at h2
 obtain⟨vu,vl,vr⟩:=vq hu i h1
 (refine yS<|yP Z<|yT<|au<|az Z ?_;refine aa (fun g=>?_) (fun g=>?_) <;> try simp only[zB] at g)
 ·have hr:fg (l8 u i) i (p i):=(vr _ _).2 (by rw[hp];exact Reg.ku hu (by omega))
  ((refine aJ<|aj<|au<|aZ<|yS<|yP Z<|yA Z<|yU<|yq Z<|aA zI<|bd<|ak<|yP Z<|yn Z ?_;refine aK zI ?_);refine⟨_,_,(Dp _ vu i (p i) hr),?_⟩)
  refine b9 Z Z<|aF<|ae<|yA Z<|yT ?_
  refine fB ?_
  (refine yS<|yP Z<|yP Z<|yP Z<|yT<|az Z ?_;refine aa (fun g2=>?_) (fun g2=>?_) <;> try simp only[zB] at g2)
  ·have e:p i=i:=by omega
   have nx:=Reg.Bq hT (show i < u.length by omega) e
   have kl:(Reg.cZ p i).length<=i:=Reg.om p i
   have sl:(Reg.ba p i).length=(Reg.cZ p i).length:=Reg.l6 p i
   ((refine yS<|yq Z<|aA zI<|bd<|af<|yP Z<|yq Z<|aA zI<|bd<|af<|yP Z<|yq Z<|aA zI<|bd ?_;refine aF<|an<|yT<|aM<|yq Z<|aA zI<|bd<|af<|yn Z<|aA zI<|aS<|af<|yn Z<|bg zI ?_);refine And.intro ⟨fun r hr=>by simp at hr;subst hr;rfl,by simp only[List.length_map,List.length_set,List.length_replicate];omega,by simp only[List.length_map,List.length_set,List.length_replicate];omega⟩ ?_)
   refine aS<|aF<|af<|cD Z<|cr Z Z Z Z Z<|yT<|ai ?_
   refine CR ((aW.Mr (by exact hC) _ 3 (Reg.ba p i).length 0 (e:=44) (e':=3) (es:=(Reg.ba p i).map hl++[[.av .nl]]) (r:=[.av .nl]) (by exact congrArg (AB.aL _) (by simp only[vt,MH];rfl)) (by rw[List.getElem?_append_right (by simp)];simp) (by exact rfl) (by exact rfl) (by decide)).trans (aW.oK (by exact hC) _ 3 (Reg.ba p i).length 0 90001 (e:=44) (es:=(Reg.ba p i++[[]]).map hl) (e':=3) (r:=hl []) (xs:=[]) (by decide) (by decide) (by exact congrArg (AB.aL _) (by rw[List.map_append];refine (qX _ _ _ _ (List.length_map _).symm).trans ?_;rfl)) (xI _) (by rw[List.map_append,List.getElem?_append_right (by simp)];simp) (by exact rfl))) ?_
   have Tp:∀v,gR (jw es (.int .i64 i) v) (.int .i64 (p i))=some v:=fun v=>by rw[WW,if_pos (by rw[e])]
   ((refine cH [3,1000003,7] true [true,true,true,false,true,true,true,true,true,true,true,true,false,true,true] rfl (by kernel_rfl) (ay Z (ay Z (ay Z (ay Z (ay Z (ay Z (ay Z (ay Z (ay Z (ay Z (ay Z (cA Z Z (cA Z Z ?_)))))))))))));refine cG Z<|dq Z<|aA zI<|bB<|af<|dq Z<|aA zI<|bB<|af<|yD Z<|dq Z<|aK zI ?_);refine⟨(some _),(Tp _),?_⟩)
   (refine bB<|ae<|dq Z<|aA zI<|bB<|af<|dq Z<|aA zI<|bB<|af<|yD Z<|dq Z<|aK zI ?_;refine⟨(some _),(Tp _),?_⟩)
   have e0:(List.map (fun r=>List.map (HX.dm (sc 18)) r) (List.map hl (Reg.ba p i))).length=(Reg.ba p i).length:=by simp
   (refine bB<|ae<|dq Z<|bg zI ?_;refine And.intro ⟨by dsimp only;omega,by simp⟩ ?_)
   (refine bB<|bJ<|dq Z<|aK zI ?_;refine⟨[.av (.ow 90001)],(by rw[sj,jo,jo];rw[e0];exact sn (Reg.ba p i++[[]]) (Reg.ba p i).length 90001 (by simp);rfl;rfl),?_⟩)
   (refine bB<|af<|yD Z<|dq Z<|aA zI<|jA Z Z<|af<|dq Z<|bg zI ?_;refine And.intro ⟨fun r hr=>by simp at hr;subst hr;rfl,by simp,by simp⟩ ?_)
   (refine hD Z Z Z<|fM<|g_<|af<|dq Z<|bg zI ?_;refine And.intro ⟨by dsimp only;omega,by simp⟩ ?_)
   (refine bB<|bJ<|dq Z<|aK zI ?_;refine⟨[.av (.ow 90001)],(by rw[sj,jo,jo];rw[e0];exact sn (Reg.ba p i++[[]]) (Reg.ba p i).length 90001 (by simp);rfl;rfl),?_⟩)
   (refine iG Z<|aF<|an<|cn<|fo Z<|bp<|aj<|aM<|yq Z<|bg zI ?_;refine sI ?_)
   refine yk<|yP Z<|yT<|ai ?_
   refine⟨(i+1,jw es (.int .i64 i) (i64 (Reg.ba p i).length)),_,aW.Au (by exact hC) _ 3 (Reg.ba p i).length 0 41 (e:=44) (es:=((Reg.ba p i++[[]]).map hl).set (Reg.ba p i).length [.av (.ow 41)]) (e':=3) (xs:=aE [(i:Int)]) (by decide) (by exact congrArg (AB.aL _) (by rw[sj,jo,jo,e0];exact List.set_set _;rfl;rfl)) (by exact rfl) (sn _ _ _ (by simp)) (by exact rfl),?_⟩
   refine And.intro ⟨by omega,fun k r hk=>?_⟩ ⟨by omega,⟨Z,Z,Z,Z,Z,Y⟩,⟨rfl,?_,congrArg (AB.map _) ?_,trivial⟩⟩
   ·rw[<-hp,Reg.gP,if_pos e] at hk
    rw[WW]
    by_cases GB:k < (Reg.cZ p i).length
    ·rw[List.getElem?_append_left GB] at hk
     have:=(Reg.mem_keys.1 (List.mem_of_getElem? hk)).1
     rw[if_neg (by omega)]
     exact h2 k r hk
    rw[List.getElem?_append_right (by omega)] at hk
    have DW:k=(Reg.cZ p i).length:=by
     have:=(List.getElem?_eq_some_iff.1 hk).1
     simp at this
     omega
    subst DW
    simp only[Nat.sub_self,List.getElem?_cons_zero,Option.some.injEq] at hk
    subst hk
    rw[if_pos rfl,sl]
   ·refine congrArg (AB.aL _) ?_
    show ((List.map hl (Reg.ba p i++[[]])).set _ _).set _ _=List.map hl (Reg.ba p (i+1))
    rw[List.set_set,nx,List.map_append,List.map_append]
    exact qX _ _ _ _ (List.length_map _).symm
   dsimp only
   rw[e0];rfl
  have e:p i≠i:=by omega
  obtain⟨k,hk⟩:=Reg.Iw hT (show i < u.length by omega) e
  obtain⟨nx,Nq⟩:=Reg.Bs e hk
  have km:=h2 k (p i) hk
  have MI:((Reg.ba p i).map hl)[k]?=some (hl (Reg.fR p i (p i))):=by rw[List.getElem?_map,Nq];rfl
  refine aJ<|aj<|ai ?_
  refine CR (aW.oK (by exact hC) _ 3 k 0 90001 (e:=44) (by decide) (by decide) (by exact congrArg (AB.aL _) (by simp only[vt])) (xI _) MI (by exact rfl)) ?_
  ((refine cH [3,1000003,7] true [true,true,true,false,true,true,true,true,true,true,true,true,false,true,true] rfl (by kernel_rfl) (ay Z (ay Z (ay Z (ay Z (ay Z (ay Z (ay Z (ay Z (ay Z (ay Z (ay Z (cA Z Z (cA Z Z ?_)))))))))))));refine cG Z<|dq Z<|aA zI<|bB<|af<|dq Z<|aA zI<|bB<|af<|yD Z<|dq Z<|aK zI ?_);refine⟨(some (i64 k)),km,?_⟩)
  (refine bB<|ae<|dq Z<|aA zI<|bB<|af<|dq Z<|aA zI<|bB<|af<|yD Z<|dq Z<|aK zI ?_;refine⟨(some (i64 k)),km,?_⟩)
  have kl:=(List.getElem?_eq_some_iff.1 hk).1
  have sl:(Reg.ba p i).length=(Reg.cZ p i).length:=Reg.l6 p i
  (refine bB<|ae<|dq Z<|bg zI ?_;refine And.intro ⟨by omega,by simp only[List.length_map,List.length_set];omega⟩ ?_)
  (refine bB<|bJ<|dq Z<|aK zI ?_;refine⟨[.av (.ow 90001)],(by rw[sj,jo,jo];exact sn (Reg.ba p i) k 90001 (by omega);rfl;rfl),?_⟩)
  have ml:=Reg.l7 p i (p i)
  (refine bB<|af<|yD Z<|dq Z<|aA zI<|jA Z Z<|af<|dq Z<|bg zI ?_;refine And.intro ⟨fun r hr=>by simp at hr;subst hr;rfl,by simp only[cg,List.length_map,List.length_set,List.length_replicate];omega,by simp only[cg,List.length_map,List.length_set,List.length_replicate];omega⟩ ?_)
  (refine hD Z Z Z<|fM<|g_<|af<|dq Z<|bg zI ?_;refine And.intro ⟨by omega,by simp only[List.length_map,List.length_set];omega⟩ ?_)
  (refine bB<|bJ<|dq Z<|aK zI ?_;refine⟨[.av (.ow 90001)],(by rw[sj,jo,jo];exact sn (Reg.ba p i) k 90001 (by omega);rfl;rfl),?_⟩)
  (refine iG Z<|aF<|an<|cn<|fo Z<|bp<|aj<|aM<|yq Z<|bg zI ?_;refine sI ?_)
  refine yk<|yP Z<|yT<|ai ?_
  refine⟨(i+1,es),_,aW.Au (by exact hC) _ 3 k 0 41 (e:=44) (es:=((Reg.ba p i).map hl).set k [.av (.ow 41)]) (e':=3) (xs:=aE ((Reg.fR p i (p i)++[i]).map fun (m:Nat)=>(m:Int))) (by decide) (by exact congrArg (AB.aL _) (by rw[sj,jo,jo];exact List.set_set _;rfl;rfl)) (by exact congrArg (AB.row _) (by simp[aE];rfl)) (sn _ _ _ (by omega)) (by exact rfl),?_⟩
  refine And.intro ⟨by omega,fun k' r tI=>?_⟩ ⟨by omega,⟨Z,Z,Z,Z,Z,Y⟩,⟨rfl,?_,Z,Y⟩⟩
  ·rw[<-hp,Reg.gP,if_neg e] at tI
   exact h2 k' r tI
  refine congrArg (AB.aL _) ?_
  show ((List.map hl (Reg.ba p i)).set _ _).set _ _=List.map hl (Reg.ba p (i+1))
  rw[List.set_set,nx,List.map_set]
  rfl
 refine bT<|aY<|aY<|bU<|aj<|ai<|zX zi ?_
 have e:i=u.length:=by omega
 subst e
 exact⟨(),trivial,⟨Z,Z,Y⟩,⟨Z,Z,Y⟩⟩
end M
namespace Reg
def P4 (K:Int) (r:aB):Prop:=(-K<=r.x0/\r.x0<=K)/\(-K<=r.y0/\r.y0<=K)/\(-K<=r.x1/\r.x1<=K)/\(-K<=r.y1/\r.y1<=K)
theorem Lj {K:Int} {r:aB} (h:Full r) (k:RK K r):P4 K r:=by
 obtain⟨h1,h2⟩:=h
 obtain⟨k1,k2,k3,k4⟩:=k
 exact⟨⟨by omega,by omega⟩,⟨by omega,by omega⟩,⟨by omega,by omega⟩,⟨by omega,by omega⟩⟩
theorem Xx {K:Int} {a b:aB} (ha:P4 K a) (hb:P4 K b):0<=B0 a b/\B0 a b<=2*K+1:=by
 obtain⟨a1,a2,a3,a4⟩:=ha
 obtain⟨b1,b2,b3,b4⟩:=hb
 simp only[B0,oQ]
 omega
theorem Yy {K:Int} {a b:aB} {n:Int} (h0:0<=n) (ha:P4 K a) (hb:P4 K b):(-K<=(Wz a b n).1/\(Wz a b n).1<=K)/\(-K<=(Wz a b n).2/\(Wz a b n).2<=K):=by
 obtain⟨a1,a2,a3,a4⟩:=ha
 obtain⟨b1,b2,b3,b4⟩:=hb
 simp only[Wz]
 omega
def Wp (f:Int) (l:List Int):Int:=l.foldl (fun f n=>if f < 0\/n < f then n else f) f
theorem XN (f n:Int) (l:List Int):Wp f (n::l)=Wp (if f < 0\/n < f then n else f) l:=rfl
theorem X7 (f:Int) (l m:List Int):Wp f (l++m)=Wp (Wp f l) m:=by simp[Wp,List.foldl_append]
theorem XC:∀(l:List Int) (f:Int),(∀n∈l,0<=n)->(∀n∈l,Wp f l<=n)/\(Wp f l=f\/Wp f l∈l)/\(0<=f->Wp f l<=f)/\(l≠[]->Wp f l∈l\/(0<=f/\Wp f l=f))
 | [],f,_=>⟨fun n h=>(by cases h),.inl rfl,fun _=>Int.le_refl _,fun h=>absurd rfl h⟩
 | m::l,f,h=>by
  have h0:=h m List.mem_cons_self
  obtain⟨i1,i2,i3,i4⟩:=XC l (if f < 0\/m < f then m else f) fun n hn=>h n (List.mem_cons_of_mem _ hn)
  rw[XN]
  by_cases c:f < 0\/m < f
  ·rw[if_pos c] at i1 i2 i3 i4 ⊢
   refine⟨fun n hn=>?_,?_,fun hf=>?_,fun _=>?_⟩
   ·rcases List.mem_cons.1 hn with rfl | hn
    ·exact i3 h0
    exact i1 n hn
   ·rcases i2 with e | e
    ·exact .inr (by rw[e];exact List.mem_cons_self)
    exact .inr (List.mem_cons_of_mem _ e)
   ·have:=i3 h0
    omega
   rcases i2 with e | e
   ·exact .inl (by rw[e];exact List.mem_cons_self)
   exact .inl (List.mem_cons_of_mem _ e)
  rw[if_neg c] at i1 i2 i3 i4 ⊢
  refine⟨fun n hn=>?_,?_,fun hf=>i3 hf,fun _=>?_⟩
  ·rcases List.mem_cons.1 hn with rfl | hn
   ·have:=i3 (by omega)
    omega
   exact i1 n hn
  ·rcases i2 with e | e
   ·exact .inl e
   exact .inr (List.mem_cons_of_mem _ e)
  rcases i2 with e | e
  ·exact .inr ⟨by omega,e⟩
  exact .inl (List.mem_cons_of_mem _ e)
def Xf (a b:List aB):List Int:=a.flatMap fun x=>b.map (B0 x)
def Xl (a b:List aB):Int:=Wp (-1) (Xf a b)
def Wn (n:Int) (s:Bool×Int×Int) (l:List (Int×Int×Int)):Bool×Int×Int:=l.foldl (fun s q=>if q.1=n/\(s.1=false\/W1 q.2 s.2=true) then (true,q.2) else s) s
theorem XO (n:Int) (s:Bool×Int×Int) (q:Int×Int×Int) (l:List (Int×Int×Int)):Wn n s (q::l)=Wn n (if q.1=n/\(s.1=false\/W1 q.2 s.2=true) then (true,q.2) else s) l:=rfl
theorem X8 (n:Int) (s:Bool×Int×Int) (l m:List (Int×Int×Int)):Wn n s (l++m)=Wn n (Wn n s l) m:=by simp[Wn,List.foldl_append]
def Yd (n:Int) (x y:aB):Int×Int×Int:=(B0 x y,Wz x y n)
def Xy (a b:List aB) (n:Int):Int×Int:=(Wn n (false,0,0) (a.flatMap fun x=>b.map (Yd n x))).2
def WG (p:Int×Int):aB:=⟨p.1,p.2,p.1+1,p.2+1⟩
def YQ (b:List aB) (p:Int×Int) (n:Int):Int×Int:=(Wn n (false,0,0) (b.map fun y=>Yd n y (WG p))).2
structure YJ where
 a:Int
 b:Int
 dist:Int
 src:Int×Int
 dst:Int×Int
def x7 (a b:List aB):YJ:=⟨0,0,Xl a b - 1,Xy a b (Xl a b),YQ b (Xy a b (Xl a b)) (Xl a b)⟩
def Y4 (K:Int) (p:Int×Int):Prop:=(-K<=p.1/\p.1<=K)/\(-K<=p.2/\p.2<=K)
theorem X3 {K:Int} (h0:0<=K) {a b:List aB} (ha:∀r∈a,P4 K r) (hb:∀r∈b,P4 K r):(∀x∈a,∀y∈b,Xl a b<=B0 x y)/\-1<=Xl a b/\Xl a b<=2*K+1/\(a≠[]->b≠[]->∃x∈a,∃y∈b,Xl a b=B0 x y):=by
 have hm:∀n,n∈Xf a b↔∃x∈a,∃y∈b,B0 x y=n:=fun n=>by simp[Xf]
 have hn:∀n∈Xf a b,0<=n/\n<=2*K+1:=fun n h=>by
  obtain⟨x,hx,y,hy,rfl⟩:=(hm n).1 h
  exact Xx (ha x hx) (hb y hy)
 obtain⟨f1,f2,f3,f4⟩:=XC (Xf a b) (-1) fun n h=>(hn n h).1
 refine⟨fun x hx y hy=>f1 _ ((hm _).2 ⟨x,hx,y,hy,rfl⟩),?_,?_,fun h1 h2=>?_⟩
 ·rcases f2 with e | e
  ·rw[Xl,e];omega
  have:=(hn _ e).1;rw[Xl];omega
 ·rcases f2 with e | e
  ·rw[Xl,e];omega
  have:=(hn _ e).2;rw[Xl];omega
 obtain⟨x,hx⟩:=List.exists_mem_of_ne_nil _ h1
 obtain⟨y,hy⟩:=List.exists_mem_of_ne_nil _ h2
 rcases f4 (List.ne_nil_of_mem ((hm _).2 ⟨x,hx,y,hy,rfl⟩)) with e | ⟨e,_⟩
 ·obtain⟨x',Zb,y',lC,e'⟩:=(hm _).1 e
  exact⟨x',Zb,y',lC,e'.symm⟩
 omega
end Reg
namespace M
open Go.AM Go.RowKit Go.Lib
open Reg (aB P4 B0 oQ Wz W1 Wp Xf Xl Wn Yd Xy YQ WG x7 YJ Y4)
def pt (p:Int×Int):List PV:=[i64 p.1,i64 p.2]
def gc (g:YJ):List PV:=[i64 g.a,i64 g.b,i64 g.dist,i64 g.src.1,i64 g.src.2,i64 g.dst.1,i64 g.dst.2]
theorem FP (a b:aB) (ha:P4 1000000000 a) (hb:P4 1000000000 b):aD C 69 [.pv (.ag (rc a)),.pv (.ag (rc b))] (.p (i64 (B0 a b))) []:=by
 obtain⟨a1,a2,a3,a4⟩:=ha
 obtain⟨b1,b2,b3,b4⟩:=hb
 refine aT hC Tryz.func69 rfl rfl 24 rfl (by decide) (by kernel_rfl) fun _ _ _ _ _=>?_
 ((refine yS<|yn Z<|aA zI<|aS<|ak<|yn Z<|aA zI<|aS<|ak<|yA Z<|yT<|au<|cH [] false HG rfl (by kernel_rfl)<|ay Z ?_;refine ay Z<|ay Z<|ay Z<|ay Z<|ay Z<|ay Z<|ay Z<|cA Z Z<|ay Z<|ay Z<|ay Z<|ay Z<|ay Z<|ay Z ?_;refine ay Z<|ay Z<|cA Z Z<|cG Z<|yW Z<|yD Z<|yW Z<|yD Z<|yW Z<|yD Z<|yW Z<|yD Z<|dq Z<|aK zI ?_);refine⟨_,_,(po a.x0 a.x1 b.x0 b.x1 (by omega)),?_⟩)
 (refine bB<|ae<|yW Z<|yD Z<|yW Z<|yD Z<|yW Z<|yD Z<|yW Z<|yD Z<|dq Z<|aK zI ?_;refine⟨_,_,(po a.y0 a.y1 b.y0 b.y1 (by omega)),?_⟩)
 ((refine bB<|ae<|yD Z<|yD Z<|cn<|aq Z<|aq Z<|aq Z<|aq Z<|aq Z<|aq Z<|aq Z<|aq Z<|aq Z ?_;refine aq Z<|aq Z<|aq Z<|aq Z<|aq Z<|aq Z<|aq Z<|aq Z<|aq Z<|aq Z<|dW Z Z<|fo Z<|aj<|bP ?_;refine bQ zi ?_);refine And.intro ?_ trivial)
 rfl
theorem XP (a b:aB) (n:Int) (ha:P4 1000000000 a) (hb:P4 1000000000 b) (hn:-1<=n/\n<=10000000000):aD C 96 [.pv (.ag (rc a)),.pv (.ag (rc b)),.pv (i64 n)] (.p (.ag (pt (Wz a b n)))) []:=by
 obtain⟨a1,a2,a3,a4⟩:=ha
 obtain⟨b1,b2,b3,b4⟩:=hb
 refine aT hC Tryz.func96 rfl rfl 22 rfl (by decide) (by kernel_rfl) fun _ _ _ _ _=>?_
 ((refine yS<|yn Z<|aA zI<|aS<|ak<|yn Z<|aA zI<|aS<|ak<|yn Z<|aA zI<|aS<|ak<|yU ?_;refine yV Z<|yP Z<|yV Z<|yP Z<|yP Z<|yq Z<|bg zI ?_);refine sI ?_)
 (refine yk<|yP Z<|yV Z<|yP Z<|yV Z<|yP Z<|yP Z<|yq Z<|bg zI ?_;refine sI ?_)
 (refine yk<|yP Z<|yP Z<|yq Z<|aA zI<|bd<|aF<|an<|yR zi ?_;refine And.intro ?_ trivial)
 rfl
theorem XQ (p q:Int×Int):aD C 97 [.pv (.ag (pt p)),.pv (.ag (pt q))] (.p (bool (W1 p q))) []:=by
 refine aT hC Tryz.func97 rfl rfl 24 rfl (by decide) (by kernel_rfl) fun _ _ _ _ _=>?_
 ((refine yS<|yn Z<|aA zI<|aS<|ak<|yn Z<|aA zI<|aS<|ak<|yA Z<|yU<|yV Z<|yP Z<|yV Z ?_;refine yP Z<|yP Z<|yP Z<|yg Z ?_);refine aa (fun g1=>?_) (fun g1=>?_) <;> try simp only[zB] at g1)
 ·((refine cB<|ae<|y0 Z<|y0 Z<|y0 Z<|y0 Z<|y0 Z<|a8 Z Z Z Z<|ae<|a8 Z Z Z Z<|ae<|a8 Z Z Z Z<|ae<|a8 Z Z Z Z ?_;refine ae<|a8 Z Z Z Z<|ae<|y0 Z<|yP Z<|yA Z<|yR zi ?_);refine And.intro ?_ trivial)
  simp only[W1];simp[g1];rfl
 ((refine bS<|bA Z Z<|aA zI<|bd<|ak<|y1 Z<|y2 Z<|bA Z Z<|aA zI<|bd<|ak<|y1 Z<|y1 Z<|y1 Z ?_;refine yg Z ?_);refine aa (fun g2=>?_) (fun g2=>?_) <;> try simp only[zB] at g2)
 ·((refine bS<|bA Z Z<|aA zI<|bd<|ak<|y1 Z<|y2 Z<|bA Z Z<|aA zI<|bd<|ak<|y1 Z<|y1 Z<|y1 Z ?_;refine yP Z<|yA Z<|yR zi ?_);refine And.intro ?_ trivial)
  simp only[W1];simp[g2];rfl
 (refine cB<|ae<|y0 Z<|y0 Z<|y0 Z<|y0 Z<|y1 Z<|yP Z<|yA Z<|yR zi ?_;refine And.intro ?_ trivial)
 simp only[W1];simp[g1,g2];rfl
theorem drop_at {α:Type} {l:List α} {i:Nat} {x:α} (h:l[i]?=some x):l.drop i=x::l.drop (i+1):=by
 obtain⟨hi,e⟩:=List.getElem?_eq_some_iff.1 h
 rw[List.drop_eq_getElem_cons hi,e]
theorem XD (a b:List aB) (ha:∀r∈a,P4 2000000 r) (hb':∀r∈b,P4 2000000 r) (na:a.length<=1000000000) (nb:b.length<=1000000000):aD C 43 [.pv (aV a),.pv (aV b)] (.p (.ag (gc (x7 a b)))) []:=by
 have up:∀r,P4 2000000 r->P4 1000000000 r:=fun r h=>by
  obtain⟨a1,a2,a3,a4⟩:=h
  exact⟨by omega,by omega,by omega,by omega⟩
 obtain⟨R,hR⟩:∃R,R=Xl a b:=⟨_,rfl⟩
 have Zc:x7 a b=⟨0,0,R - 1,Xy a b R,YQ b (Xy a b R) R⟩:=by rw[hR];rfl
 have Zm:=(Reg.X3 (by omega) ha hb').2
 rw[<-hR] at Zm
 rw[Zc]
 have lm:=aN a rc
 have Zd:=aN b rc
 refine aT hC Tryz.func43 rfl rfl 129 rfl (by decide) (by kernel_rfl) fun _ _ _ _ _=>?_
 (refine yS<|yn Z<|aA zI<|aS<|ak<|yU<|yA Z<|yT<|au<|yS<|yP Z<|yP Z<|yP Z<|yT ?_;refine aZ ?_)
 refine aI (fun x:Nat×Int=>Wp x.2 (Xf (a.drop x.1) b)=R/\-1<=x.2/\x.2<=100000000) (fun x=>[(0,.p (aV a)),(1,.p (aV b)),(4,.bx 4 0),(5,.p (i64 x.2)),(22,.p (aV a)),(23,.p (i64 a.length)),(24,.p (i64 x.1))]) (fun _=>[(4,.box [.p (i64 0),.p (i64 0),.p (i64 0),.p (i64 0),.p (i64 0),.p (i64 0),.p (i64 0)])]) (fun x=>a.length - x.1) (0,-1) _ (aW.refl _ _) ⟨hR.symm,by decide,by decide⟩ ⟨rfl,rfl,rfl,rfl,rfl,congrArg (fun m:Nat=>AV.p (i64 m)) lm,Z,Y⟩ ⟨Z,Y⟩ fun ⟨i,f⟩ hx t h=>?_
 obtain⟨h1,h2,h3⟩:=hx
 simp only at h1 h2 h3
 (refine yS<|yP Z<|yT<|au<|az Z ?_;refine aa (fun g=>?_) (fun g=>?_) <;> try simp only[zB] at g)
 ·obtain⟨x,YY⟩:=bh (l:=a) (i:=i) (by omega)
  have px:=ha x (List.mem_of_getElem? YY)
  rw[drop_at YY] at h1
  have h1:Wp (Wp f (b.map (B0 x))) (Xf (a.drop (i+1)) b)=R:=by rw[<-Reg.X7];exact h1
  (refine aJ<|aj<|au<|aZ<|yS<|yq Z<|aK zI ?_;refine⟨(rc x),(idx rfl YY),?_⟩)
  (refine yk<|yP Z<|yn Z<|aA zI<|aS<|ak<|yq Z<|aA zI<|bd<|aF<|an<|yU<|yP Z<|yP Z ?_;refine yP Z<|yT<|aZ ?_)
  refine aI (fun y:Nat×Int=>Wp y.2 ((b.drop y.1).map (B0 x))=Wp f (b.map (B0 x))/\-1<=y.2/\y.2<=100000000) (fun y=>[(0,.p (aV a)),(1,.p (aV b)),(4,.bx 4 0),(5,.p (i64 y.2)),(22,.p (aV a)),(23,.p (i64 a.length)),(24,.p (i64 i)),(7,.bx 7 0),(28,.p (aV b)),(29,.p (i64 b.length)),(30,.p (i64 y.1))]) (fun _=>[(4,.box [.p (i64 0),.p (i64 0),.p (i64 0),.p (i64 0),.p (i64 0),.p (i64 0),.p (i64 0)]),(7,.box [.p (i64 x.x0),.p (i64 x.y0),.p (i64 x.x1),.p (i64 x.y1)])]) (fun y=>b.length - y.1) (0,f) _ (aW.refl _ _) ⟨rfl,h2,h3⟩ ⟨rfl,rfl,rfl,rfl,rfl,rfl,rfl,rfl,rfl,congrArg (fun m:Nat=>AV.p (i64 m)) Zd,Z,Y⟩ ⟨Z,Z,Y⟩ fun ⟨j,f'⟩ hy t h=>?_
  obtain⟨k1,k2,k3⟩:=hy
  simp only at k1 k2 k3
  (refine yS<|yP Z<|yT<|au<|az Z ?_;refine aa (fun g2=>?_) (fun g2=>?_) <;> try simp only[zB] at g2)
  ·obtain⟨y,YZ⟩:=bh (l:=b) (i:=j) (by omega)
   have py:=hb' y (List.mem_of_getElem? YZ)
   rw[drop_at YZ,List.map_cons,Reg.XN] at k1
   have fl:=Reg.Xx px py
   (refine aJ<|aj<|au<|aZ<|yS<|yq Z<|aK zI ?_;refine⟨(rc y),(idx rfl YZ),?_⟩)
   ((refine yk<|yP Z<|yn Z<|aA zI<|aS<|ak<|yq Z<|aA zI<|bd<|aF<|an<|yU<|yP Z<|yP Z ?_;refine yn Z<|aK zI ?_);refine⟨_,_,(FP x y (up x px) (up y py)),?_⟩)
   have nx:∀c:Prop,∀d:Decidable c,(c↔f' < 0\/B0 x y < f')->Wp (if c then B0 x y else f') ((b.drop (j+1)).map (B0 x))=Wp f (b.map (B0 x)):=fun c d hc=>by
    rw[<-k1]
    congr 1
    by_cases h:c
    ·rw[if_pos h,if_pos (hc.1 h)]
    rw[if_neg h,if_neg fun e=>h (hc.2 e)]
   (refine b9 Z Z<|ae<|yA Z<|yU<|yP Z<|yP Z<|yP Z<|yg Z ?_;refine aa (fun g3=>?_) (fun g3=>?_) <;> try simp only[zB] at g3)
   ·have nx:=nx True inferInstance ⟨fun _=>.inl g3,fun _=>trivial⟩
    rw[if_pos trivial] at nx
    ((refine cB<|ae<|y0 Z<|y0 Z<|yP Z<|yT<|az Z<|fy<|aM<|yP Z<|yA Z<|cL<|bp<|aj ?_;refine aM<|yq Z<|bg zI ?_);refine sI ?_)
    (refine yk<|yP Z<|yT<|ai ?_;refine⟨(j+1,B0 x y),_,aW.refl _ _,?_⟩)
    exact⟨⟨nx,by omega,by omega⟩,by omega,⟨Z,Z,Z,Z,Z,Z,Z,Z,Z,Z,Z,Y⟩,⟨Z,Z,Y⟩⟩
   (refine bS<|bA Z Z<|aA zI<|yk<|y1 Z<|y1 Z<|yP Z<|yT<|az Z ?_;refine aa (fun g4=>?_) (fun g4=>?_) <;> try simp only[zB] at g4)
   ·have nx:=nx True inferInstance ⟨fun _=>.inr g4,fun _=>trivial⟩
    rw[if_pos trivial] at nx
    (refine aM<|yP Z<|yA Z<|cL<|bp<|aj<|aM<|yq Z<|bg zI ?_;refine sI ?_)
    (refine yk<|yP Z<|yT<|ai ?_;refine⟨(j+1,B0 x y),_,aW.refl _ _,?_⟩)
    exact⟨⟨nx,by omega,by omega⟩,by omega,⟨Z,Z,Z,Z,Z,Z,Z,Z,Z,Z,Z,Y⟩,⟨Z,Z,Y⟩⟩
   have nx:=nx False inferInstance ⟨fun h=>h.elim,fun h=>by omega⟩
   rw[if_neg (fun h=>h)] at nx
   (refine aJ<|bp<|aj<|aM<|yq Z<|bg zI ?_;refine sI ?_)
   (refine yk<|yP Z<|yT<|ai ?_;refine⟨(j+1,f'),_,aW.refl _ _,?_⟩)
   exact⟨⟨nx,by omega,by omega⟩,by omega,⟨Z,Z,Z,Z,Z,Z,Z,Z,Z,Z,Z,Y⟩,⟨Z,Z,Y⟩⟩
  have e:b.length<=j:=by omega
  rw[List.drop_of_length_le e] at k1
  have k1:f'=Wp f (b.map (B0 x)):=k1
  subst k1
  (refine bT<|aY<|aY<|bU<|bp<|aj<|aM<|yq Z<|bg zI ?_;refine sI ?_)
  (refine yk<|yP Z<|yT<|ai ?_;refine⟨(i+1,Wp f (b.map (B0 x))),_,aW.refl _ _,?_⟩)
  exact⟨⟨h1,by omega,by omega⟩,by omega,⟨Z,Z,Z,Z,Z,Z,Z,Y⟩,⟨Z,Y⟩⟩
 have e:a.length<=i:=by omega
 rw[List.drop_of_length_le e] at h1
 have h1:f=R:=h1
 subst h1
 (refine bT<|aY<|aY<|bU<|aj<|yS<|yP Z<|yq Z<|bg zI ?_;refine sI ?_)
 (refine yk<|yP Z<|yn Z<|aA zI<|aS<|ak<|yq Z<|aA zI<|bd<|aF<|an<|yU<|yA Z<|yT ?_;refine au<|yS<|yP Z<|yP Z<|yP Z<|yT<|aZ ?_)
 obtain⟨P,hP⟩:∃P,P=Wn f (false,0,0) (a.flatMap fun x=>b.map (Yd f x)):=⟨_,rfl⟩
 have Y5:Xy a b f=P.2:=by rw[hP];rfl
 rw[Y5]
 refine aI (fun x:Nat×Bool×Int×Int=>Wn f x.2 ((a.drop x.1).flatMap fun x=>b.map (Yd f x))=P/\Y4 2000000 x.2.2) (fun x=>[(0,.p (aV a)),(1,.p (aV b)),(4,.bx 4 0),(5,.p (i64 f)),(11,.bx 11 0),(12,.p (bool x.2.1)),(50,.p (aV a)),(51,.p (i64 a.length)),(52,.p (i64 x.1))]) (fun x=>[(4,.box [.p (i64 0),.p (i64 0),.p (i64 0),.p (i64 0),.p (i64 0),.p (i64 0),.p (i64 0)]),(11,.box [.p (i64 0),.p (i64 0),.p (i64 (f - 1)),.p (i64 x.2.2.1),.p (i64 x.2.2.2),.p (i64 0),.p (i64 0)])]) (fun x=>a.length - x.1) (0,false,0,0) _ (aW.refl _ _) ⟨hP.symm,⟨by decide,by decide⟩,⟨by decide,by decide⟩⟩ ⟨rfl,rfl,rfl,rfl,rfl,rfl,rfl,congrArg (fun m:Nat=>AV.p (i64 m)) lm,Z,Y⟩ ⟨Z,Z,Y⟩ fun ⟨i,st⟩ hx t h=>?_
 obtain⟨h1,h2⟩:=hx
 simp only at h1 h2
 (refine yS<|yP Z<|yT<|au<|az Z ?_;refine aa (fun g=>?_) (fun g=>?_) <;> try simp only[zB] at g)
 ·obtain⟨x,YY⟩:=bh (l:=a) (i:=i) (by omega)
  have px:=ha x (List.mem_of_getElem? YY)
  rw[drop_at YY] at h1
  have h1:Wn f (Wn f st (b.map (Yd f x))) ((a.drop (i+1)).flatMap fun x=>b.map (Yd f x))=P:=by rw[<-Reg.X8];exact h1
  (refine aJ<|aj<|au<|aZ<|yS<|yq Z<|aK zI ?_;refine⟨(rc x),(idx rfl YY),?_⟩)
  (refine yk<|yP Z<|yn Z<|aA zI<|aS<|ak<|yq Z<|aA zI<|bd<|aF<|an<|yU<|yP Z<|yP Z ?_;refine yP Z<|yT<|aZ ?_)
  refine aI (fun y:Nat×Bool×Int×Int=>Wn f y.2 ((b.drop y.1).map (Yd f x))=Wn f st (b.map (Yd f x))/\Y4 2000000 y.2.2) (fun y=>[(0,.p (aV a)),(1,.p (aV b)),(4,.bx 4 0),(5,.p (i64 f)),(11,.bx 11 0),(12,.p (bool y.2.1)),(50,.p (aV a)),(51,.p (i64 a.length)),(52,.p (i64 i)),(14,.bx 14 0),(56,.p (aV b)),(57,.p (i64 b.length)),(58,.p (i64 y.1))]) (fun y=>[(4,.box [.p (i64 0),.p (i64 0),.p (i64 0),.p (i64 0),.p (i64 0),.p (i64 0),.p (i64 0)]),(11,.box [.p (i64 0),.p (i64 0),.p (i64 (f - 1)),.p (i64 y.2.2.1),.p (i64 y.2.2.2),.p (i64 0),.p (i64 0)]),(14,.box [.p (i64 x.x0),.p (i64 x.y0),.p (i64 x.x1),.p (i64 x.y1)])]) (fun y=>b.length - y.1) (0,st) _ (aW.refl _ _) ⟨rfl,h2⟩ ⟨rfl,rfl,rfl,rfl,rfl,rfl,rfl,rfl,rfl,rfl,rfl,congrArg (fun m:Nat=>AV.p (i64 m)) Zd,Z,Y⟩ ⟨Z,Z,Z,Y⟩ fun ⟨j,fd,p⟩ hy t h=>?_
  obtain⟨k1,k2⟩:=hy
  simp only at k1 k2
  (refine yS<|yP Z<|yT<|au<|az Z ?_;refine aa (fun g2=>?_) (fun g2=>?_) <;> try simp only[zB] at g2)
  ·obtain⟨y,YZ⟩:=bh (l:=b) (i:=j) (by omega)
   have py:=hb' y (List.mem_of_getElem? YZ)
   rw[drop_at YZ,List.map_cons,Reg.XO] at k1
   have fl:=Reg.Xx px py
   obtain⟨_,Zb,_,lC,e'⟩:=Zm.2.2 (List.ne_nil_of_mem (List.mem_of_getElem? YY)) (List.ne_nil_of_mem (List.mem_of_getElem? YZ))
   have Zn:=Reg.Xx (ha _ Zb) (hb' _ lC)
   rw[<-e'] at Zn
   have ni:=Reg.Yy Zn.1 px py
   (refine aJ<|aj<|au<|aZ<|yS<|yq Z<|aK zI ?_;refine⟨(rc y),(idx rfl YZ),?_⟩)
   ((refine yk<|yP Z<|yn Z<|aA zI<|aS<|ak<|yq Z<|aA zI<|bd<|aF<|an<|yU<|yP Z<|yP Z ?_;refine yP Z<|yn Z<|aK zI ?_);refine⟨_,_,(XP x y f (up x px) (up y py) (by omega)),?_⟩)
   ((refine b9 Z Z<|ae<|yn Z<|aA zI<|aS<|ak<|yq Z<|aA zI<|bd<|aF<|an<|yU<|yP Z<|yP Z ?_;refine yn Z<|aK zI ?_);refine⟨_,_,(FP x y (up x px) (up y py)),?_⟩)
   have keep:¬(B0 x y=f/\(fd=false\/W1 (Wz x y f) p=true))->Wn f (fd,p) ((b.drop (j+1)).map (Yd f x))=Wn f st (b.map (Yd f x)):=fun hc=>by
    rw[<-k1]
    congr 1
    exact (if_neg hc).symm
   have take:B0 x y=f/\(fd=false\/W1 (Wz x y f) p=true)->Wn f (true,Wz x y f) ((b.drop (j+1)).map (Yd f x))=Wn f st (b.map (Yd f x)):=fun hc=>by
    rw[<-k1]
    congr 1
    exact (if_pos hc).symm
   (refine b9 Z Z<|ae<|yP Z<|yP Z<|yP Z<|yg Z ?_;refine aa (fun g3=>?_) (fun g3=>?_) <;> try simp only[zB] at g3)
   ·(refine bS<|bA Z Z<|aA zI<|yk<|y1 Z<|y1 Z<|yg Z ?_;refine aa (fun g4=>?_) (fun g4=>?_) <;> try simp only[zB] at g4)
    ·have nx:=take ⟨g3,.inl (by simpa using g4)⟩
     ((refine cB<|ae<|y0 Z<|y0 Z<|y0 Z<|y1 Z<|yP Z<|yT<|az Z<|fy<|aM<|yP Z<|yV Z<|yq Z ?_;refine aA zI<|bd<|aF<|an<|yA Z<|cL<|bp<|aj<|aM<|yq Z<|bg zI ?_);refine sI ?_)
     (refine yk<|yP Z<|yT<|ai ?_;refine⟨(j+1,true,Wz x y f),_,aW.refl _ _,?_⟩)
     exact⟨⟨nx,ni⟩,by omega,⟨Z,Z,Z,Z,Z,Z,Z,Z,Z,Z,Z,Z,Z,Y⟩,⟨Z,Z,Z,Y⟩⟩
    (refine bS<|bA Z Z<|aA zI<|yk<|y2 Z<|bA Z Z<|aA zI<|bd<|ak<|y1 Z<|y2 Z<|jB Z Z Z<|aK zI ?_;refine⟨_,_,(XQ (Wz x y f) p),?_⟩)
    (refine b9 Z Z<|ae<|y1 Z<|yP Z<|yT<|az Z ?_;refine aa (fun g5=>?_) (fun g5=>?_) <;> try simp only[zB] at g5)
    ·have nx:=take ⟨g3,.inr (by simpa using g5)⟩
     ((refine aM<|yP Z<|yV Z<|yq Z<|aA zI<|bd<|aF<|an<|yA Z<|cL<|bp<|aj<|aM<|yq Z ?_;refine bg zI ?_);refine sI ?_)
     (refine yk<|yP Z<|yT<|ai ?_;refine⟨(j+1,true,Wz x y f),_,aW.refl _ _,?_⟩)
     exact⟨⟨nx,ni⟩,by omega,⟨Z,Z,Z,Z,Z,Z,Z,Z,Z,Z,Z,Z,Z,Y⟩,⟨Z,Z,Z,Y⟩⟩
    have nx:=keep fun ⟨_,hc⟩=>by rcases hc with hc | hc <;> simp_all
    (refine aJ<|bp<|aj<|aM<|yq Z<|bg zI ?_;refine sI ?_)
    (refine yk<|yP Z<|yT<|ai ?_;refine⟨(j+1,fd,p),_,aW.refl _ _,?_⟩)
    exact⟨⟨nx,k2⟩,by omega,⟨Z,Z,Z,Z,Z,Z,Z,Z,Z,Z,Z,Z,Z,Y⟩,⟨Z,Z,Z,Y⟩⟩
   have nx:=keep fun ⟨hc,_⟩=>by omega
   ((refine cB<|ae<|y0 Z<|y0 Z<|a8 Z Z Z Z<|ae<|a8 Z Z Z Z<|ae<|a8 Z Z Z Z<|ae<|a8 Z Z Z Z<|ae<|y0 Z<|yP Z ?_;refine yT<|az Z<|cM<|aJ<|bp<|aj<|aM<|yq Z<|bg zI ?_);refine sI ?_)
   (refine yk<|yP Z<|yT<|ai ?_;refine⟨(j+1,fd,p),_,aW.refl _ _,?_⟩)
   exact⟨⟨nx,k2⟩,by omega,⟨Z,Z,Z,Z,Z,Z,Z,Z,Z,Z,Z,Z,Z,Y⟩,⟨Z,Z,Z,Y⟩⟩
  have e:b.length<=j:=by omega
  rw[List.drop_of_length_le e] at k1
  have k1:(fd,p)=Wn f st (b.map (Yd f x)):=k1
  rw[<-k1] at h1
  (refine bT<|aY<|aY<|bU<|bp<|aj<|aM<|yq Z<|bg zI ?_;refine sI ?_)
  (refine yk<|yP Z<|yT<|ai ?_;refine⟨(i+1,fd,p),_,aW.refl _ _,?_⟩)
  exact⟨⟨h1,k2⟩,by omega,⟨Z,Z,Z,Z,Z,Z,Z,Z,Z,Y⟩,⟨Z,Z,Y⟩⟩
 have e:a.length<=i:=by omega
 rw[List.drop_of_length_le e] at h1
 have h1:st=P:=h1
 rw[<-h1]
 obtain⟨fd,p⟩:=st
 obtain⟨⟨p1,p2⟩,p3,p4⟩:=h2
 simp only at p1 p2 p3 p4
 have h2:P4 2000001 (WG p):=⟨⟨by simp only[WG];omega,by simp only[WG];omega⟩,⟨by simp only[WG];omega,by simp only[WG];omega⟩,⟨by simp only[WG];omega,by simp only[WG];omega⟩,⟨by simp only[WG];omega,by simp only[WG];omega⟩⟩
 have Zo:∀r,P4 2000000 r->P4 2000001 r:=fun r h=>by
  obtain⟨a1,a2,a3,a4⟩:=h
  exact⟨by omega,by omega,by omega,by omega⟩
 have Zp:∀r,P4 2000001 r->P4 1000000000 r:=fun r h=>by
  obtain⟨a1,a2,a3,a4⟩:=h
  exact⟨by omega,by omega,by omega,by omega⟩
 ((refine bT<|aY<|aY<|bU<|aj<|yS<|yV Z<|yV Z<|yP Z<|yV Z<|yV Z<|yP Z<|yV Z<|yV Z ?_;refine yP Z<|yq Z<|bg zI ?_);refine And.intro ⟨by dsimp only;omega,by dsimp only;omega⟩ ?_)
 (refine yk<|yV Z<|yV Z<|yP Z<|yq Z<|bg zI ?_;refine And.intro ⟨by dsimp only;omega,by dsimp only;omega⟩ ?_)
 (refine yk<|yP Z<|yn Z<|aA zI<|aS<|ak<|yq Z<|aA zI<|bd<|aF<|an<|yU<|yA Z<|yT ?_;refine au<|yS<|yP Z<|yP Z<|yP Z<|yT<|aZ ?_)
 obtain⟨Q,hQ⟩:∃Q,Q=Wn f (false,0,0) (b.map fun y=>Yd f y (WG p)):=⟨_,rfl⟩
 have VA:YQ b p f=Q.2:=by rw[hQ];rfl
 show AF (iZ _ _ _) _ _
 rw[VA]
 refine aI (fun x:Nat×Bool×Int×Int=>Wn f x.2 ((b.drop x.1).map fun y=>Yd f y (WG p))=Q/\Y4 2000001 x.2.2) (fun x=>[(0,.p (aV a)),(1,.p (aV b)),(4,.bx 4 0),(5,.p (i64 f)),(11,.bx 11 0),(18,.bx 18 0),(12,.p (bool x.2.1)),(100,.p (aV b)),(101,.p (i64 b.length)),(102,.p (i64 x.1))]) (fun x=>[(4,.box [.p (i64 0),.p (i64 0),.p (i64 0),.p (i64 0),.p (i64 0),.p (i64 0),.p (i64 0)]),(11,.box [.p (i64 0),.p (i64 0),.p (i64 (f - 1)),.p (i64 p.1),.p (i64 p.2),.p (i64 x.2.2.1),.p (i64 x.2.2.2)]),(18,.box [.p (i64 (WG p).x0),.p (i64 (WG p).y0),.p (i64 (WG p).x1),.p (i64 (WG p).y1)])]) (fun x=>b.length - x.1) (0,false,0,0) _ (aW.refl _ _) ⟨hQ.symm,⟨by decide,by decide⟩,⟨by decide,by decide⟩⟩ ⟨rfl,rfl,rfl,rfl,rfl,rfl,rfl,rfl,congrArg (fun m:Nat=>AV.p (i64 m)) Zd,Z,Y⟩ ⟨Z,Z,Z,Y⟩ fun ⟨i,Y2,p'⟩ hx t h=>?_
 obtain⟨k1,k2⟩:=hx
 simp only at k1 k2
 (refine yS<|yP Z<|yT<|au<|az Z ?_;refine aa (fun g=>?_) (fun g=>?_) <;> try simp only[zB] at g)
 ·obtain⟨y,K9⟩:=bh (l:=b) (i:=i) (by omega)
  have py:=hb' y (List.mem_of_getElem? K9)
  rw[drop_at K9,List.map_cons,Reg.XO] at k1
  (refine aJ<|aj<|au<|aZ<|yS<|yq Z<|aK zI ?_;refine⟨(rc y),(idx rfl K9),?_⟩)
  ((refine yk<|yP Z<|yn Z<|aA zI<|aS<|ak<|yq Z<|aA zI<|bd<|aF<|an<|yU<|yP Z<|yP Z ?_;refine yP Z<|yn Z<|aK zI ?_);refine⟨_,_,(XP y (WG p) f (up y py) (Zp _ h2) (by omega)),?_⟩)
  ((refine b9 Z Z<|ae<|yn Z<|aA zI<|aS<|ak<|yq Z<|aA zI<|bd<|aF<|an<|yU<|yP Z<|yP Z ?_;refine yn Z<|aK zI ?_);refine⟨_,_,(FP y (WG p) (up y py) (Zp _ h2)),?_⟩)
  have keep:¬(B0 y (WG p)=f/\(Y2=false\/W1 (Wz y (WG p) f) p'=true))->Wn f (Y2,p') ((b.drop (i+1)).map fun y=>Yd f y (WG p))=Q:=fun hc=>by
   rw[<-k1]
   congr 1
   exact (if_neg hc).symm
  have take:B0 y (WG p)=f/\(Y2=false\/W1 (Wz y (WG p) f) p'=true)->Wn f (true,Wz y (WG p) f) ((b.drop (i+1)).map fun y=>Yd f y (WG p))=Q:=fun hc=>by
   rw[<-k1]
   congr 1
   exact (if_pos hc).symm
  have ni:B0 y (WG p)=f->Y4 2000001 (Wz y (WG p) f):=fun e=>Reg.Yy (e ▸ (Reg.Xx (Zo y py) h2).1) (Zo y py) h2
  (refine b9 Z Z<|ae<|yP Z<|yP Z<|yP Z<|yg Z ?_;refine aa (fun g3=>?_) (fun g3=>?_) <;> try simp only[zB] at g3)
  ·(refine bS<|bA Z Z<|aA zI<|yk<|y1 Z<|y1 Z<|yg Z ?_;refine aa (fun g4=>?_) (fun g4=>?_) <;> try simp only[zB] at g4)
   ·have nx:=take ⟨g3,.inl (by simpa using g4)⟩
    ((refine cB<|ae<|y0 Z<|y0 Z<|y0 Z<|y1 Z<|yP Z<|yT<|az Z<|fy<|aM<|yP Z<|yV Z<|yq Z ?_;refine aA zI<|bd<|aF<|an<|yA Z<|cL<|bp<|aj<|aM<|yq Z<|bg zI ?_);refine sI ?_)
    (refine yk<|yP Z<|yT<|ai ?_;refine⟨(i+1,true,Wz y (WG p) f),_,aW.refl _ _,?_⟩)
    exact⟨⟨nx,ni g3⟩,by omega,⟨Z,Z,Z,Z,Z,Z,Z,Z,Z,Z,Y⟩,⟨Z,Z,Z,Y⟩⟩
   (refine bS<|bA Z Z<|aA zI<|yk<|y2 Z<|bA Z Z<|aA zI<|bd<|ak<|y1 Z<|y2 Z<|jB Z Z Z<|aK zI ?_;refine⟨_,_,(XQ (Wz y (WG p) f) p'),?_⟩)
   (refine b9 Z Z<|ae<|y1 Z<|yP Z<|yT<|az Z ?_;refine aa (fun g5=>?_) (fun g5=>?_) <;> try simp only[zB] at g5)
   ·have nx:=take ⟨g3,.inr (by simpa using g5)⟩
    ((refine aM<|yP Z<|yV Z<|yq Z<|aA zI<|bd<|aF<|an<|yA Z<|cL<|bp<|aj<|aM<|yq Z ?_;refine bg zI ?_);refine sI ?_)
    (refine yk<|yP Z<|yT<|ai ?_;refine⟨(i+1,true,Wz y (WG p) f),_,aW.refl _ _,?_⟩)
    exact⟨⟨nx,ni g3⟩,by omega,⟨Z,Z,Z,Z,Z,Z,Z,Z,Z,Z,Y⟩,⟨Z,Z,Z,Y⟩⟩
   have nx:=keep fun ⟨_,hc⟩=>by rcases hc with hc | hc <;> simp_all
   (refine aJ<|bp<|aj<|aM<|yq Z<|bg zI ?_;refine sI ?_)
   (refine yk<|yP Z<|yT<|ai ?_;refine⟨(i+1,Y2,p'),_,aW.refl _ _,?_⟩)
   exact⟨⟨nx,k2⟩,by omega,⟨Z,Z,Z,Z,Z,Z,Z,Z,Z,Z,Y⟩,⟨Z,Z,Z,Y⟩⟩
  have nx:=keep fun ⟨hc,_⟩=>by omega
  ((refine cB<|ae<|y0 Z<|y0 Z<|a8 Z Z Z Z<|ae<|a8 Z Z Z Z<|ae<|a8 Z Z Z Z<|ae<|a8 Z Z Z Z<|ae<|y0 Z<|yP Z ?_;refine yT<|az Z<|cM<|aJ<|bp<|aj<|aM<|yq Z<|bg zI ?_);refine sI ?_)
  (refine yk<|yP Z<|yT<|ai ?_;refine⟨(i+1,Y2,p'),_,aW.refl _ _,?_⟩)
  exact⟨⟨nx,k2⟩,by omega,⟨Z,Z,Z,Z,Z,Z,Z,Z,Z,Z,Y⟩,⟨Z,Z,Z,Y⟩⟩
 have e:b.length<=i:=by omega
 rw[List.drop_of_length_le e] at k1
 have k1:(Y2,p')=Q:=k1
 subst k1
 (refine bT<|aY<|aY<|bU<|aj<|yS<|yP Z<|yq Z<|aA zI<|bd<|aF<|an<|yR zi ?_;refine And.intro ?_ trivial)
 rfl
open Reg (bC ax bK hZ cQ A5 cv bL told dz bX coreS zk Canon Full RK at')
theorem Bw {s:List ax} (h:hZ s) (hb:cQ 1450000 s):(told s).length<=4398046511104:=by
 have h1:=Reg.cy h (by omega) hb
 have h2:=Reg.u5 (M:=1450000) (s:=s) fun t ht=>by have:=Reg.jk h (by omega) hb t ht;omega
 have h3:s.length*1450000<=2900000*1450000:=Nat.mul_le_mul_right _ (by omega)
 omega
theorem wN (s:List ax) (hs:hZ s) (ks:cQ 1450000 s) (l r d u:Int) (hl:0<=l/\l<=100000) (hr:0<=r/\r<=100000) (hd:0<=d/\d<=100000) (hu:0<=u/\u<=100000):aD C 90 [.pv (aG s),.pv (i64 l),.pv (i64 r),.pv (i64 d),.pv (i64 u)] (.p (aG (bX s l r d u))) []:=by
 refine aT hC Tryz.func90 rfl rfl 46 rfl (by decide) (by kernel_rfl) fun _ _ _ _ _=>?_
 have ls:=Reg.cy hs (by omega) ks
 have lx:=Reg.jk hs (by omega) ks
 have lt:=Bw hs ks
 have tf:=Reg.dK hs
 have ti:=Reg.kN hs ks
 (refine yS<|yB Z<|yU<|yP Z<|yn Z<|aK zI ?_;refine⟨_,_,(h_ s (by omega) (fun t ht=>by have:=lx t ht;omega) lt),?_⟩)
 have so:=jb ((told s).map (dz l r d u)) 1550000 (by omega) (by omega) (fun q hq=>by
  obtain⟨p,hp,rfl⟩:=List.mem_map.1 hq
  have:=tf p hp
  unfold Full at this
  exact⟨by show p.x0 - l < p.x1+r;omega,by show p.y0 - d < p.y1+u;omega⟩) (fun q hq=>by
  obtain⟨p,hp,rfl⟩:=List.mem_map.1 hq
  have:=ti p hp
  unfold RK at this
  exact⟨by show -1550000<=p.x0 - l;omega,by show -1550000<=p.y0 - d;omega,by show p.x1+r<=1550000;omega,by show p.y1+u<=1550000;omega⟩) (by rw[List.length_map];exact lt)
 rw[show bX s l r d u=Reg.a_ ((told s).map (dz l r d u)) from rfl]
 generalize told s=L at *
 have lm:=fun i=>aN (jE l r d u L i) rc
 have ml:=Eo l r d u L
 have m0:jE l r d u L 0=L:=by simp[jE]
 (refine aS<|af<|cD Z<|cr Z Z Z Z Z<|yT<|au<|yS<|yq Z<|aA zI<|bd<|af<|yP Z<|yP Z<|yT ?_;refine aZ ?_)
 refine aI (fun i:Nat=>i<=L.length) (fun i=>[(1,.p (i64 l)),(2,.p (i64 r)),(3,.p (i64 d)),(4,.p (i64 u)),(11,.ow 11),(16,.ow 11),(17,.p (i64 (L.map rc).length)),(18,.p (i64 i))]) (fun i=>[(11,.row 56 ((jE l r d u L i).map rc))]) (fun i=>L.length - i) 0 _ (aW.refl _ _) (Nat.zero_le _) ⟨Z,Z,Z,Z,Z,Z,Z,Z,Y⟩ ⟨by rw[m0];rfl,trivial⟩ fun i hi t h=>?_
 have UR:=lm i
 have US:=ml i
 have UT:=aN L rc
 (refine yS<|yP Z<|yT<|au<|az Z ?_;refine aa (fun g1=>?_) (fun g1=>?_) <;> try simp only[zB] at g1)
 ·obtain⟨q,hq⟩:=bh (l:=L) (i:=i) (by omega)
  have a:=ti q (List.mem_of_getElem? hq)
  have b:=tf q (List.mem_of_getElem? hq)
  unfold RK at a
  unfold Full at b
  have hm:=En (l:=l) (r:=r) (d:=d) (u:=u) hq
  have lH:=Ep (l:=l) (r:=r) (d:=d) (u:=u) hq
  (refine aJ<|aj<|au<|aZ<|yS<|yP Z<|yq Z<|bg zI ?_;refine sI ?_)
  (refine bd<|bJ<|yq Z<|aK zI ?_;refine⟨(rc q),(idx rfl hm).2,?_⟩)
  ((refine yk<|yn Z<|aA zI<|aS<|ak<|yA Z<|yq Z<|aA zI<|bd<|aF<|an<|yT<|aM<|yq Z ?_;refine aA zI<|bd<|af<|yP Z<|yV Z<|yP Z<|yP Z<|yq Z<|bg zI ?_);refine sI ?_)
  (refine yk<|yV Z<|yP Z<|yP Z<|yq Z<|bg zI ?_;refine sI ?_)
  (refine yk<|yV Z<|yP Z<|yP Z<|yq Z<|bg zI ?_;refine sI ?_)
  (refine yk<|yV Z<|yP Z<|yP Z<|yq Z<|bg zI ?_;refine sI ?_)
  (refine yk<|yP Z<|yq Z<|bg zI ?_;refine sI ?_)
  (refine bd<|bJ<|yq Z<|aK zI ?_;refine⟨(rc q),(idx rfl hm).2,?_⟩)
  (refine bd<|aF<|an<|cL<|bp<|aj<|aM<|yq Z<|bg zI ?_;refine sI ?_)
  have e5:∀k:Nat,k=i->AB.row 56 (((jE l r d u L i).map rc).set k (rc (dz l r d u q)))=AB.row 56 ((jE l r d u L (i+1)).map rc):=by
   intro k e
   subst e
   rw[<-List.map_set,lH]
  (refine yk<|yP Z<|yT<|ai ?_;refine⟨(i+1),_,aW.refl _ _,?_⟩)
  exact⟨by omega,by omega,⟨Z,Z,Z,Z,Z,Z,Z,Z,Y⟩,⟨e5 _ rfl,trivial⟩⟩
 have e:jE l r d u L i=L.map (dz l r d u):=by
  rw[jE,List.take_of_length_le (by omega),List.drop_of_length_le (by omega),List.append_nil]
 rw[e]
 (refine bT<|aY<|aY<|bU<|aj<|yS<|yq Z<|aA zI<|bd<|af<|yn Z<|aK zI ?_;refine⟨_,_,so,?_⟩)
 (refine aS<|aF<|af<|cD Z<|cr Z Z Z Z Z<|yR zi ?_;refine And.intro ?_ trivial)
 rfl
theorem Bx (s:List ax) (hs:hZ s) (ks:cQ 1000000 s) (l r d u:Int) (hl:0<=l/\l<=100000) (hr:0<=r/\r<=100000) (hd:0<=d/\d<=100000) (hu:0<=u/\u<=100000):aD C 98 [.pv (aG s),.pv (i64 l),.pv (i64 r),.pv (i64 d),.pv (i64 u)] (.p (aG (coreS s l r d u))) []:=by
 refine aT hC Tryz.func98 rfl rfl 56 rfl (by decide) (by kernel_rfl) fun _ _ _ _ _=>?_
 have ms:=aN s hb
 (refine yS<|yB Z<|yT<|au<|yS<|yP Z<|yP Z<|yP Z<|yT<|az Z ?_;refine aa (fun g0=>?_) (fun g0=>?_) <;> try simp only[zB] at g0)
 ·rw[ms] at g0
  have e:s=[]:=List.eq_nil_of_length_eq_zero (by omega)
  (refine yS<|yB Z<|yT<|bP<|aX<|bQ zi ?_;refine And.intro ?_ trivial)
  rw[coreS,if_pos e]
  rfl
 rw[ms] at g0
 have b8:s≠[]:=fun e=>g0 (by rw[e];rfl)
 rw[coreS,if_neg b8]
 obtain⟨a1,a2,a3⟩:=Reg.qL hs b8
 have a4:=a3 _ ks
 have bb:∀q∈[dz (l+r+d+u+1) (l+r+d+u+1) (l+r+d+u+1) (l+r+d+u+1) (bL s)],Full q:=fun q hq=>by
  rw[List.mem_singleton] at hq
  subst hq
  unfold Full at a1
  exact⟨by show (bL s).x0 - (l+r+d+u+1) < (bL s).x1+(l+r+d+u+1);omega,by show (bL s).y0 - (l+r+d+u+1) < (bL s).y1+(l+r+d+u+1);omega⟩
 have Nl:∀q∈[dz (l+r+d+u+1) (l+r+d+u+1) (l+r+d+u+1) (l+r+d+u+1) (bL s)],RK 1400001 q:=fun q hq=>by
  rw[List.mem_singleton] at hq
  subst hq
  unfold RK at a4
  exact⟨by show -1400001<=(bL s).x0 - (l+r+d+u+1);omega,by show -1400001<=(bL s).y0 - (l+r+d+u+1);omega,by show (bL s).x1+(l+r+d+u+1)<=1400001;omega,by show (bL s).y1+(l+r+d+u+1)<=1400001;omega⟩
 obtain⟨b1,b2,b3⟩:=Reg.gf bb
 have b4:=b3 _ Nl
 obtain⟨c1,c2,c3⟩:=Reg.dZ b1 hs
 have c4:=c3 1400001 b4 (ks.up (by omega))
 obtain⟨d1,d2,d3⟩:=Reg.ff c1 hr.1 hl.1 hu.1 hd.1
 have d4:=(d3 1400001 100000 c4 hr.2 hl.2 hu.2 hd.2).up (B:=2000000) (by omega)
 have so:=jb _ 1400001 (by omega) (by omega) bb Nl (by simp)
 have q1:=fQ _ s b1 hs (b4.up (by omega)) (ks.up (by omega))
 have q2:=wN _ c1 (c4.up (by omega)) r l u d hr hl hu hd
 have q3:=fQ s _ hs d1 (ks.up (by omega)) d4
 unfold RK at a4
 unfold Full at a1
 (refine aJ<|aj<|yS<|yP Z<|yn Z<|aK zI ?_;refine⟨_,_,(qM s hs (ks.up (by omega)) b8),?_⟩)
 ((refine b9 Z Z<|ae<|yn Z<|aA zI<|aS<|ak<|yq Z<|aA zI<|bd<|aF<|an<|yU<|yP Z<|yP Z ?_;refine yq Z<|bg zI ?_);refine sI ?_)
 (refine yk<|yP Z<|yq Z<|bg zI ?_;refine sI ?_)
 (refine yk<|yP Z<|yq Z<|bg zI ?_;refine sI ?_)
 (refine yk<|yq Z<|bg zI ?_;refine sI ?_)
 (refine yk<|yA Z<|yU<|yV Z<|yP Z<|yP Z<|yq Z<|bg zI ?_;refine sI ?_)
 (refine yk<|yV Z<|yP Z<|yP Z<|yq Z<|bg zI ?_;refine sI ?_)
 (refine yk<|yV Z<|yP Z<|yP Z<|yq Z<|bg zI ?_;refine sI ?_)
 (refine yk<|yV Z<|yP Z<|yP Z<|yq Z<|bg zI ?_;refine sI ?_)
 (refine yk<|yP Z<|yn Z<|aA zI<|aS<|af<|yn Z<|aK zI ?_;refine⟨_,_,so,?_⟩)
 (refine aS<|aF<|af<|cD Z<|cr Z Z Z Z Z<|yU<|yP Z<|yq Z<|aA zI<|bd<|af<|yP Z<|yn Z<|aK zI ?_;refine⟨_,_,q1,?_⟩)
 (refine b9 Z Z<|aF<|ae<|yP Z<|yP Z<|yP Z<|yP Z<|yn Z<|aK zI ?_;refine⟨_,_,q2,?_⟩)
 (refine b9 Z Z<|ae<|yn Z<|aK zI ?_;refine⟨_,_,q3,?_⟩)
 (refine b9 Z Z<|ae<|yA Z<|yR zi ?_;refine And.intro ?_ trivial)
 rfl
theorem Dr (s:List ax) (hs:hZ s) (ks:cQ 1000000 s) (n:Int) (h0:0<=n) (h1:n<=100000):aD C 51 [.pv (aG s),.pv (i64 n)] (.p (aG (coreS s n n n n))) []:=by
 refine aT hC Tryz.func51 rfl rfl 11 rfl (by decide) (by kernel_rfl) fun _ _ _ _ _=>?_
 (refine yS<|yB Z<|yU<|yP Z<|yP Z<|yP Z<|yP Z<|yP Z<|yn Z<|aK zI ?_;refine⟨_,_,(Bx s hs ks n n n n ⟨h0,h1⟩ ⟨h0,h1⟩ ⟨h0,h1⟩ ⟨h0,h1⟩),?_⟩)
 (refine b9 Z Z<|ae<|yA Z<|yR zi ?_;refine And.intro ?_ trivial)
 rfl
end M
namespace Reg
end Reg
namespace M
open Go.AM Go.RowKit Go.Lib
open Reg (aB P4 YJ x7)
def rr (r:List aB):List PV:=[aV r]
end M
namespace Reg
def gQ:aB:=⟨0,0,0,0⟩
def vx (a b:aB):Bool:=decide (a.x0 < b.x1) && decide (b.x0 < a.x1)
def pW (all:List aB) (f e:Nat):Nat->List Int->Nat->Nat->List Int
 | 0,u,_,_=>u
 | n+1,u,i,j=>if i < f/\j < e then
   pW all f e n (if vx (all.getD i gQ) (all.getD j gQ)=true then ik u i j else u)
    (if (all.getD i gQ).x1 < (all.getD j gQ).x1 then i+1 else i)
    (if (all.getD i gQ).x1 < (all.getD j gQ).x1 then j else j+1)
  else u
def meets (p:Option ax) (b:ax):Bool:=match p with
 | some q=>decide (q.y1=b.y0)
 | none=>false
def pw (all:List aB):Option ax->List ax->List Int->Nat->Nat->List Int
 | _,[],u,_,_=>u
 | p,b::s,u,f,g=>pw all (some b) s (if meets p b=true then pW all f (f+b.xs.length) (f - g+b.xs.length) u g f else u) (f+b.xs.length) f
def oo (s:List ax):List Int:=pw (told s) none s (iota (told s).length) 0 0
theorem zt (all:List aB) (f e:Nat):∀(n:Nat) (u:List Int) (i j:Nat),UF u->f<=u.length->e<=u.length->UF (pW all f e n u i j)/\(pW all f e n u i j).length=u.length
 | 0,u,i,j,h,_,_=>⟨h,rfl⟩
 | n+1,u,i,j,h,hf,he=>by
  rw[pW]
  by_cases c:i < f/\j < e
  ·rw[if_pos c]
   by_cases o:vx (all.getD i gQ) (all.getD j gQ)=true
   ·rw[if_pos o]
    obtain⟨a,b⟩:=qV h (i:=i) (k:=j) (by omega) (by omega)
    obtain⟨c1,c2⟩:=zt all f e n _ (if (all.getD i gQ).x1 < (all.getD j gQ).x1 then i+1 else i) (if (all.getD i gQ).x1 < (all.getD j gQ).x1 then j else j+1) a (by omega) (by omega)
    exact⟨c1,c2.trans b⟩
   rw[if_neg o]
   exact zt all f e n u _ _ h hf he
  rw[if_neg c];exact⟨h,rfl⟩
theorem vy (all:List aB):∀(s:List ax) (p:Option ax) (u:List Int) (f g:Nat),UF u->f+(told s).length<=u.length->UF (pw all p s u f g)/\(pw all p s u f g).length=u.length
 | [],p,u,f,g,h,_=>⟨h,rfl⟩
 | b::s,p,u,f,g,h,hl=>by
  have e:(told (b::s)).length=b.xs.length+(told s).length:=by simp[told]
  rw[e] at hl
  rw[pw]
  by_cases c:meets p b=true
  ·rw[if_pos c]
   obtain⟨a1,a2⟩:=zt all f (f+b.xs.length) (f - g+b.xs.length) u g f h (by omega) (by omega)
   obtain⟨b1,b2⟩:=vy all s (some b) _ (f+b.xs.length) f a1 (by rw[a2];omega)
   exact⟨b1,b2.trans a2⟩
  rw[if_neg c]
  exact vy all s (some b) u (f+b.xs.length) f h (by omega)
theorem By (s:List ax):UF (oo s)/\(oo s).length=(told s).length:=by
 have:=vy (told s) s none (iota (told s).length) 0 0 (qU _) (by rw[WV];omega)
 rw[WV] at this
 exact this
def Xb (s:List ax):List (List aB):=(ba (dR (oo s)) (told s).length).map fun l=>l.map fun m=>(told s).getD m gQ
def eP (s:List ax):List (List ax):=(Xb s).map a_
end Reg
namespace M
open Go.AM Go.RowKit Go.Lib
open Reg (UF fg Iu cO fY iota aB)
theorem sq (u:List Int) (hu:UF u) (i:Nat) (hi:i < u.length):aD C 143 [.pv (i64 i),.bb [.row 3 (aE u)]] (.p (i64 (cO i u i).2)) [.bb [.row 3 (aE (cO i u i).1)]]:=by
 refine qy hC Tryz.func143 rfl rfl 25 rfl (by decide) (by kernel_rfl) fun _ _ _ _ _=>⟨_,aW.open hC _ 100001 [90000] (by exact rfl) rfl rfl rfl,?_⟩
 obtain⟨R,hR⟩:∃R,R=cO i u i:=⟨_,rfl⟩
 rw[<-hR]
 refine yS<|yA Z<|yT<|au<|aZ ?_
 refine aI (fun x:Nat×List Int×Nat=>cO x.1 x.2.1 x.2.2=R/\UF x.2.1/\x.2.2 < x.2.1.length/\x.2.2<=x.1) (fun x=>[(1,.bx 100001 0),(0,.p (i64 x.2.2))]) (fun x=>[(100001,.box [.ow 90000]),(90000,.row 3 (aE x.2.1))]) (fun x=>x.2.2) (i,u,i) _ (aW.refl _ _) ⟨hR.symm,hu,hi,Nat.le_refl _⟩ ⟨Z,Z,Y⟩ ⟨Z,Z,Y⟩ fun ⟨n,v,k⟩ hx t h=>?_
 obtain⟨h1,h2,h3,h4⟩:=hx
 simp only at h1 h2 h3 h4
 obtain⟨j,l,hj,hl,q1,q2,q3,q4⟩:=xG h2 h3 h4
 have lv:=cg v
 (refine au<|yS<|yV Z<|yP Z<|yq Z<|bg zI ?_;refine And.intro ⟨by omega,by (try dsimp only);rw[lv];omega⟩ ?_)
 (refine bd<|bJ<|yq Z<|aK zI ?_;refine⟨[i64 j],(cY hj),?_⟩)
 (refine yk<|yP Z<|yP Z<|yT<|az Z ?_;refine aa (fun g=>?_) (fun g=>?_) <;> try simp only[zB] at g)
 ·have b8:j≠k:=by omega
  obtain⟨m,rfl,q5⟩:=q4 b8
  (refine aJ<|aj<|aZ<|au<|cH [] false yy rfl (by kernel_rfl)<|cG Z<|yW Z<|yD Z<|yW Z<|yW Z<|yD Z<|dq Z<|bg zI ?_;refine And.intro ⟨by omega,by (try dsimp only);rw[lv];omega⟩ ?_)
  (refine bB<|bJ<|dq Z<|aK zI ?_;refine⟨[i64 j],(cY hj),?_⟩)
  (refine bB<|ae<|dq Z<|bg zI ?_;refine And.intro ⟨by omega,by (try dsimp only);rw[lv];omega⟩ ?_)
  (refine bB<|bJ<|dq Z<|aK zI ?_;refine⟨[i64 l],(cY hl),?_⟩)
  (refine bB<|ae<|dq Z<|bg zI ?_;refine And.intro ⟨by omega,by (try dsimp only);rw[lv];omega⟩ ?_)
  (refine bB<|bJ<|dq Z<|aK zI ?_;refine⟨[i64 j],(cY hj),?_⟩)
  (refine iG Z<|aF<|an<|cn<|fo Z<|aj<|aM<|yV Z<|yP Z<|yq Z<|bg zI ?_;refine And.intro ⟨by omega,by (try dsimp only);rw[List.length_set,lv];omega⟩ ?_)
  (refine bd<|bJ<|yq Z<|aK zI ?_;refine⟨[i64 l],(by rw[List.getElem?_set_self (by (try dsimp only);rw[lv];omega)];rfl),?_⟩)
  (refine yk<|yA Z<|cL<|bp<|aj<|ai ?_;refine⟨(m,v.set k (l:Int),l),_,aW.refl _ _,?_⟩)
  exact⟨⟨by rw[<-q5];exact h1,(Reg.Is h2 hj hl).1,by simp only[List.length_set];omega,by dsimp only;omega⟩,by simp only;omega,⟨Z,Z,Y⟩,⟨rfl,congrArg (AB.row _) (eO v k l),trivial⟩⟩
 have e:j=k:=by omega
 have h1:=(q3 e).symm.trans h1
 subst h1
 refine bT<|aY<|aY<|bU<|aj<|yS<|yP Z<|yA Z<|yR zi ?_
 exact And.intro rfl (And.intro ⟨Z,Z,Y⟩ trivial)
def Xz (e:TypeId) (f:Nat->List PV) (l:List Nat):List HX:=[.row e (l.map f)]
def MJ (f:Nat->List PV) (l:List Nat):List PV:=[.sl (l.map f)]
theorem vz (e:TypeId) (f:Nat->List PV) (ls:List (List Nat)):tP (ls.map (Xz e f)):=fun r hr x hx=>by
 obtain⟨l,_,rfl⟩:=List.mem_map.1 hr
 simp only[Xz,List.mem_cons,List.not_mem_nil,or_false] at hx
 subst hx
 trivial
theorem tW (e:TypeId) (g:Nat->List PV) (f:AV->AV) (ls:List (List Nat)):(ls.map (Xz e g)).map (fun r=>r.map (HX.dm f))=ls.map (Xz e g):=by
 rw[List.map_map];rfl
theorem oR (e:TypeId) (f:Nat->List PV) (l:List Nat) (y:HX):(Xz e f l).set 0 y=[y]:=rfl
theorem gA (e:TypeId) (g:Nat->List PV) (f:AV->AV) (ls:List (List Nat)) (k d:Nat) (h:f (.ow d)=.ow d):((ls.map (Xz e g)).set k [.av (.ow d)]).map (fun r=>r.map (HX.dm f))=(ls.map (Xz e g)).set k [.av (.ow d)]:=by
 rw[List.map_set,tW]
 simp only[List.map_cons,List.map_nil,HX.dm,h]
theorem Ka (e:TypeId) (g:Nat->List PV) (f:AV->AV) (ls:List (List Nat)) (x:List (List HX)):(ls.map (Xz e g)++x).map (fun r=>r.map (HX.dm f))=ls.map (Xz e g)++x.map (fun r=>r.map (HX.dm f)):=by
 rw[List.map_append,tW]
theorem oS (e:TypeId) (g:Nat->List PV) (ls:List (List Nat)) (k d:Nat) (hk:k < ls.length):((ls.map (Xz e g)).set k [.av (.ow d)])[k]?=some [.av (.ow d)]:=List.getElem?_set_self (by rw[List.length_map];exact hk)
theorem ML (e:TypeId) (f:Nat->List PV) (ls:List (List Nat)):IV (ls.map (Xz e f)) (ls.map (MJ f)):=IV.map fun l _=>⟨rfl,fun j u v hu hv=>by
 match j with
 | 0=>
  simp only[Xz,MJ,List.getElem?_cons_zero,Option.some.injEq] at hu hv
  subst hu
  subst hv
  exact .row _ _
 | j+1=>simp[Xz] at hu⟩
open Reg (ik gQ vx pW meets pw oo Xb eP hZ cQ ax told a_ bK)
theorem getD_at {l:List aB} {i:Nat} {r:aB} (h:l[i]?=some r):l.getD i gQ=r:=by rw[List.getD_eq_getElem?_getD,h];rfl
def oq (s:List ax) (k:Nat):Option ax:=if k=0 then none else s[k - 1]?
theorem prev_next {s:List ax} {k:Nat} {b:ax} (h:s[k]?=some b):oq s (k+1)=some b:=by rw[oq,if_neg (by omega)];exact h
theorem FQ (b:ax) (s:List ax):(told (b::s)).length=b.xs.length+(told s).length:=by simp[told]
theorem YD (l:Reg.bC):((((flat l).map fun n=>[i64 n]).length:Nat):Int).tdiv 2=(l.length:Nat):=by
 rw[List.length_map,eG,Int.tdiv_eq_ediv_of_nonneg (by omega)];omega
theorem Bz (s:List ax) (hs:hZ s) (ks:cQ 1400000 s) (hN:(told s).length<=1000000000):aD C 117 [.pv (aG s)] (.own 81 ((eP s).map fun p=>[aG p])) []:=by
 have ls:=Reg.cy hs (by omega) ks
 have lx:=Reg.jk hs (by omega) ks
 have lt:=Reg.kj hs ks
 have ms:=aN s hb
 obtain⟨N,OZ⟩:∃N,N=(told s).length:=⟨_,rfl⟩
 have la:=aN (told s) rc
 refine aT hC Tryz.func117 rfl rfl 187 rfl (by decide) (by kernel_rfl) fun _ _ _ _ _=>?_
 (refine yS<|yB Z<|yU<|yP Z<|yn Z<|aK zI ?_;refine⟨_,_,(h_ s (by omega) (fun t ht=>by have:=lx t ht;omega) lt),?_⟩)
 (refine aS<|af<|cD Z<|cr Z Z Z Z Z<|yU<|yq Z<|aA zI<|bd<|af<|yP Z<|yn Z<|bg zI ?_;refine And.intro ⟨by omega,by omega,by dsimp only;omega,by omega⟩ ?_)
 (refine aS<|af<|yn Z<|aA zI<|aS<|ak<|yq Z<|aA zI<|bd<|aF<|an<|yT<|au<|yS ?_;refine yq Z<|aA zI<|bd<|af<|yP Z<|yP Z<|yT<|aZ ?_)
 refine aI (fun i:Nat=>i<=N) (fun i=>[(0,.p (aG s)),(3,.p (aV (told s))),(4,.bx 4 0),(32,.p (i64 N)),(33,.p (i64 i))]) (fun i=>[(4,.box [.ow 30]),(30,.row 3 (aE (pV N i)))]) (fun i=>N - i) 0 _ (aW.own (by exact hC) _ 3 (id:=3) (by exact rfl) (by exact rfl)) (Nat.zero_le _) ⟨rfl,rfl,rfl,congrArg (fun m:Nat=>AV.p (i64 m)) (by rw[OZ];simp),Z,Y⟩ ⟨rfl,by rw[xH,OZ,<-la];rfl,trivial⟩ fun i hi t h=>?_
 have lv:=cg (pV N i)
 have lu:=vp N i
 (refine yS<|yP Z<|yT<|au<|az Z ?_;refine aa (fun h1=>?_) (fun h1=>?_) <;> try simp only[zB] at h1)
 ·(refine aJ<|aj<|au<|aZ<|yS<|yP Z<|yA Z<|yT<|aM<|yV Z<|yP Z<|yP Z<|yq Z<|bg zI ?_;refine And.intro ⟨by omega,by rw[lv];omega⟩ ?_)
  (refine bd<|bJ<|yq Z<|aK zI ?_;refine⟨[i64 0],(cY (Bt (by omega))),?_⟩)
  (refine bd<|aF<|an<|cL<|bp<|aj<|aM<|yq Z<|bg zI ?_;refine sI ?_)
  (refine yk<|yP Z<|yT<|ai ?_;refine⟨(i+1),_,aW.refl _ _,?_⟩)
  exact⟨by omega,by omega,⟨Z,Z,Z,Z,Z,Y⟩,⟨rfl,congrArg (AB.row _) ((eO _ _ _).trans (by rw[Int.toNat_natCast,Bv (by omega)])),trivial⟩⟩
 have e:i=N:=by omega
 subst e
 rw[Bu]
 obtain⟨U,hU⟩:∃U,U=oo s:=⟨_,rfl⟩
 obtain⟨all,iB⟩:∃all,all=told s:=⟨_,rfl⟩
 have U4:pw all none s (iota i) 0 0=U:=by rw[hU,OZ,iB];rfl
 have Tq:all.length=i:=by rw[OZ,iB]
 rw[<-iB] at la ⊢
 (refine bT (aY (aY (bU (aj (yS (yV Z (cD Z (jW Z Z Z (nX Z) (mE (yU (yA Z (yA Z (yT ?_)))))))))))));refine au<|yS<|yP Z<|yP Z<|yP Z<|yT<|aZ ?_)
 refine aI (fun x:Nat×List Int×Nat×Nat=>pw all (oq s x.1) (s.drop x.1) x.2.1 x.2.2.1 x.2.2.2=U/\UF x.2.1/\x.2.1.length=i/\x.2.2.1+(told (s.drop x.1)).length=i/\x.2.2.2<=x.2.2.1/\x.1<=s.length) (fun x=>[(0,.p (aG s)),(3,.p (aV all)),(4,.bx 4 0),(6,.fn 143 [.bx 4 0]),(7,.p (i64 x.2.2.1)),(8,.p (i64 x.2.2.2)),(42,.p (aG s)),(43,.p (i64 s.length)),(44,.p (i64 x.1))]) (fun x=>[(4,.bb [.row 3 (aE x.2.1)])]) (fun x=>s.length - x.1) (0,iota i,0,0) _ (aW.pack (by exact hC) _ 4 (cs:=[.row 3 (aE (iota i))]) (by exact rfl) (by exact rfl) (by exact⟨Z,Y⟩)) ⟨U4,Reg.qU _,Reg.WV _,by simp only[List.drop_zero,Nat.zero_add];rw[OZ],Nat.le_refl _,Nat.zero_le _⟩ ⟨rfl,rfl,rfl,rfl,rfl,rfl,rfl,congrArg (fun m:Nat=>AV.p (i64 m)) ms,Z,Y⟩ ⟨Z,Y⟩ fun ⟨k,u,f,g⟩ hx t h=>?_
 obtain⟨c1,c2,c3,c4,c5,c6⟩:=hx
 simp only at c1 c2 c3 c4 c5 c6
 (refine yS<|yP Z<|yT<|au<|az Z ?_;refine aa (fun g1=>?_) (fun g1=>?_) <;> try simp only[zB] at g1)
 ·obtain⟨b,xA⟩:=bh (l:=s) (i:=k) (by omega)
  rw[drop_at xA] at c1 c4
  rw[FQ] at c4
  rw[pw,<-prev_next xA] at c1
  have hf:=YD b.xs
  have lf:((flat b.xs).map fun n=>[i64 n]).length=2*b.xs.length:=by rw[List.length_map,eG]
  (refine aJ<|aj<|au<|aZ<|yS<|yP Z<|yq Z<|aK zI ?_;refine⟨(hb b),(idx rfl xA),?_⟩)
  ((refine yk<|yP Z<|yn Z<|aA zI<|aS<|ak<|yA Z<|yq Z<|aA zI<|bd<|aF<|an<|yU<|yV Z ?_;refine yP Z<|yP Z<|yq Z<|bg zI ?_);refine And.intro (by decide) ?_)
  (refine zA zi ?_;refine And.intro ⟨by rw[hf];omega,by rw[hf];omega⟩ ?_)
  have skip:Reg.meets (oq s k) b=false->pw all (oq s (k+1)) (s.drop (k+1)) u (f+b.xs.length) f=U:=fun hm=>by
   rw[hm] at c1
   exact c1
  (refine yk<|yA Z<|yT<|au<|au<|cH [] false yz rfl (by kernel_rfl)<|cG Z<|yD Z<|yD Z<|yD Z<|dg Z ?_;refine aa (fun g2=>?_) (fun g2=>?_) <;> try simp only[zB] at g2)
  ·obtain⟨q,hq⟩:=bh (l:=s) (i:=k - 1) (by omega)
   have hpv:oq s k=some q:=by rw[oq,if_neg (by omega)];exact hq
   (refine bS<|c_ Z<|aA zI<|bB<|ae<|d1 Z<|d2 Z<|c_ Z<|bg zI ?_;refine sI ?_)
   (refine bB<|ae<|d2 Z<|c_ Z<|aK zI ?_;refine⟨(hb q),(idx (show (k:Int) - 1=((k - 1:Nat):Int) by omega) hq),?_⟩)
   ((refine bB<|ae<|d1 Z<|d1 Z<|d2 Z<|c_ Z<|aA zI<|bB<|ak<|d1 Z<|d1 Z<|yD Z<|cn<|fo Z ?_;refine aj<|az Z ?_);refine aa (fun g3=>?_) (fun g3=>?_) <;> try simp only[zB] at g3)
   ·have hm:Reg.meets (oq s k) b=true:=by rw[hpv];simpa [Reg.meets] using g3
    rw[hm,if_pos rfl] at c1
    refine yS<|yP Z<|yP Z<|yA Z<|yA Z<|yT<|aZ ?_
    refine aI (fun y:Nat×List Int×Nat×Nat=>pW all f (f+b.xs.length) y.1 y.2.1 y.2.2.1 y.2.2.2=pW all f (f+b.xs.length) (f - g+b.xs.length) u g f/\UF y.2.1/\y.2.1.length=i/\(f - y.2.2.1)+(f+b.xs.length - y.2.2.2)<=y.1/\y.2.2.1<=f/\y.2.2.2<=f+b.xs.length) (fun y=>[(0,.p (aG s)),(3,.p (aV all)),(4,.bx 4 0),(6,.fn 143 [.bx 4 0]),(7,.p (i64 f)),(8,.p (i64 g)),(42,.p (aG s)),(43,.p (i64 s.length)),(44,.p (i64 k)),(11,.p (i64 b.xs.length)),(12,.p (i64 y.2.2.1)),(13,.p (i64 y.2.2.2))]) (fun y=>[(4,.bb [.row 3 (aE y.2.1)])]) (fun y=>(f - y.2.2.1)+(f+b.xs.length - y.2.2.2)) (f - g+b.xs.length,u,g,f) _ (aW.refl _ _) ⟨rfl,c2,c3,by simp only;omega,by simp only;omega,by simp only;omega⟩ ⟨rfl,rfl,rfl,rfl,rfl,rfl,rfl,rfl,rfl,by rw[<-hf];rfl,Z,Z,Y⟩ ⟨Z,Y⟩ fun ⟨n,v,p,q'⟩ hy t h=>?_
    obtain⟨z1,z2,z3,z4,z5,z6⟩:=hy
    simp only at z1 z2 z3 z4 z5 z6
    have stop:¬(p < f/\q' < f+b.xs.length)->v=pW all f (f+b.xs.length) (f - g+b.xs.length) u g f:=fun hc=>by
     rw[<-z1]
     cases n with
     | zero=>rfl
     | succ n=>rw[pW,if_neg hc]
    (refine au<|yS<|yP Z<|yP Z<|yP Z<|yP Z<|yg Z ?_;refine aa (fun e1=>?_) (fun e1=>?_) <;> try simp only[zB] at e1)
    ·(refine bS<|bA Z Z<|aA zI<|yk<|y1 Z<|y1 Z<|y2 Z<|bA Z Z<|bg zI ?_;refine sI ?_)
     (refine yk<|y1 Z<|yP Z<|yT<|az Z ?_;refine aa (fun e2=>?_) (fun e2=>?_) <;> try simp only[zB] at e2)
     ·obtain⟨n,rfl⟩:∃n',n=n'+1:=⟨n - 1,by omega⟩
      rw[pW,if_pos (by omega)] at z1
      obtain⟨x,hx⟩:=bh (l:=all) (i:=p) (by omega)
      obtain⟨y,hy⟩:=bh (l:=all) (i:=q') (by omega)
      rw[getD_at hx,getD_at hy] at z1
      have Ge:∀(w:List Int),(if vx x y=true then ik v p q' else v)=w->(x.x1 < y.x1->pW all f (f+b.xs.length) n w (p+1) q'=pW all f (f+b.xs.length) (f - g+b.xs.length) u g f)/\(¬x.x1 < y.x1->pW all f (f+b.xs.length) n w p (q'+1)=pW all f (f+b.xs.length) (f - g+b.xs.length) u g f):=fun w hw=>by
       rw[hw] at z1
       exact⟨fun hc=>by rw[if_pos hc,if_pos hc] at z1;exact z1,fun hc=>by rw[if_neg hc,if_neg hc] at z1;exact z1⟩
      (refine aJ<|aj<|aZ<|au<|au<|cH [] false RI rfl (by kernel_rfl)<|cG Z<|yD Z<|yD Z<|dq Z<|aK zI ?_;refine⟨(rc x),(idx rfl hx),?_⟩)
      (refine bB<|ae<|yD Z<|yD Z<|yD Z<|yD Z<|dq Z<|aK zI ?_;refine⟨(rc y),(idx rfl hy),?_⟩)
      (refine bB<|ae<|yD Z<|yD Z<|yD Z<|yD Z<|dg Z ?_;refine aa (fun e3=>?_) (fun e3=>?_) <;> try simp only[zB] at e3)
      ·(refine bS<|c_ Z<|aA zI<|bB<|ae<|d1 Z<|d2 Z<|c_ Z<|aK zI ?_;refine⟨(rc y),(idx rfl hy),?_⟩)
       (refine bB<|ae<|d1 Z<|d1 Z<|d1 Z<|d1 Z<|d2 Z<|c_ Z<|aK zI ?_;refine⟨(rc x),(idx rfl hx),?_⟩)
       (refine bB<|ae<|d1 Z<|d1 Z<|d1 Z<|yD Z<|cn<|fo Z<|aj<|az Z ?_;refine aa (fun e4=>?_) (fun e4=>?_) <;> try simp only[zB] at e4)
       ·have Ge:=Ge _ (if_pos (by simp only[vx,Bool.and_eq_true,decide_eq_true_eq];exact⟨e3,e4⟩))
        refine fB ?_
        have a:=Reg.fY p v p z2 (by omega) (Nat.le_refl _)
        have b':=Reg.fY q' (cO p v p).1 q' a.uf (by rw[a.len];omega) (Nat.le_refl _)
        have ra:=(List.getElem?_eq_some_iff.1 ((b'.same _ _).2 ((a.same _ _).2 a.root)).top).1
        have rb:=(List.getElem?_eq_some_iff.1 ((b'.same _ _).2 b'.root).top).1
        have Bp:((max ((cO p v p).2:Int) ((cO q' (cO p v p).1 q').2:Int))).toNat=max (cO p v p).2 (cO q' (cO p v p).1 q').2:=by omega
        have lv:=cg (cO q' (cO p v p).1 q').1
        obtain⟨ju,jl⟩:=Reg.qV z2 (i:=p) (k:=q') (by omega) (by omega)
        (refine aM<|yq Z<|aA zI<|bd<|mE<|yP Z<|yn Z<|aK zI ?_;refine⟨_,_,(sq v z2 p (by omega)),?_⟩)
        (refine b9 Z Z<|aF<|ae<|yq Z<|aA zI<|bd<|mE<|yP Z<|yn Z<|aK zI ?_;refine⟨_,_,(sq (cO p v p).1 a.uf q' (by rw[a.len];omega)),?_⟩)
        refine b9 Z Z<|aF<|ae<|yA Z<|yA Z<|yT<|ai ?_
        refine CR (aW.open (by exact hC) _ 4 [30] (by exact rfl) rfl rfl rfl) ?_
        obtain⟨z,hz⟩:∃z,(cO q' (cO p v p).1 q').1[max (cO p v p).2 (cO q' (cO p v p).1 q').2]?=some z:=⟨_,List.getElem?_eq_getElem (by omega)⟩
        (refine aM<|yV Z<|yP Z<|yP Z<|yP Z<|yP Z<|yP Z<|yP Z<|yq Z<|bg zI ?_;refine And.intro ⟨by omega,by rw[lv];omega⟩ ?_)
        (refine bd<|bJ<|yq Z<|aK zI ?_;refine⟨[i64 z],(by rw[Bp];exact cY hz),?_⟩)
        have lH:∀(m:Nat) (c:Int),m=max (cO p v p).2 (cO q' (cO p v p).1 q').2->c=min ((cO p v p).2:Int) ((cO q' (cO p v p).1 q').2:Int)->AB.row 3 ((aE (cO q' (cO p v p).1 q').1).set m [i64 c])=AB.row 3 (aE (ik v p q')):=fun m c e1 e2=>by
         subst e1
         subst e2
         rw[eO,ik]
         congr 3
         omega
        (refine bd<|aF<|an<|yT<|au<|cH [] false yy rfl (by kernel_rfl)<|cG Z<|yD Z<|yD Z<|dq Z<|aK zI ?_;refine⟨(rc x),(idx rfl hx),?_⟩)
        (refine bB<|ae<|yD Z<|yD Z<|yD Z<|yD Z<|dq Z<|aK zI ?_;refine⟨(rc y),(idx rfl hy),?_⟩)
        (refine bB<|ae<|yD Z<|yD Z<|yD Z<|cn<|fo Z<|aj<|az Z ?_;refine aa (fun e5=>?_) (fun e5=>?_) <;> try simp only[zB] at e5)
        ·have nx:=Ge.1 e5
         (refine aM<|yP Z<|yq Z<|bg zI ?_;refine And.intro ⟨by dsimp only;omega,by dsimp only;omega⟩ ?_)
         refine yk<|yA Z<|cL<|bp<|aj<|ai ?_
         refine⟨(n,ik v p q',p+1,q'),_,aW.pack (by exact hC) _ 4 (cs:=[.row 3 (aE (ik v p q'))]) (by exact rfl) (by exact rfl) (by exact⟨lH _ _ Bp rfl,trivial⟩),?_⟩
         exact⟨⟨nx,ju,jl.trans z3,by simp only;omega,by simp only;omega,by simp only;omega⟩,by simp only;omega,⟨Z,Z,Z,Z,Z,Z,Z,Z,Z,Z,Z,Z,Y⟩,⟨Z,Y⟩⟩
        have nx:=Ge.2 e5
        (refine aM<|yP Z<|yq Z<|bg zI ?_;refine And.intro ⟨by dsimp only;omega,by dsimp only;omega⟩ ?_)
        refine yk<|yA Z<|cL<|bp<|aj<|ai ?_
        refine⟨(n,ik v p q',p,q'+1),_,aW.pack (by exact hC) _ 4 (cs:=[.row 3 (aE (ik v p q'))]) (by exact rfl) (by exact rfl) (by exact⟨lH _ _ Bp rfl,trivial⟩),?_⟩
        exact⟨⟨nx,ju,jl.trans z3,by simp only;omega,by simp only;omega,by simp only;omega⟩,by simp only;omega,⟨Z,Z,Z,Z,Z,Z,Z,Z,Z,Z,Z,Z,Y⟩,⟨Z,Y⟩⟩
       have Ge:=Ge _ (if_neg (by simp only[vx,Bool.and_eq_true,decide_eq_true_eq];exact fun hc=>e4 hc.2))
       (refine aJ<|aj<|au<|cH [] false yy rfl (by kernel_rfl)<|cG Z<|yD Z<|yD Z<|dq Z<|aK zI ?_;refine⟨(rc x),(idx rfl hx),?_⟩)
       (refine bB<|ae<|yD Z<|yD Z<|yD Z<|yD Z<|dq Z<|aK zI ?_;refine⟨(rc y),(idx rfl hy),?_⟩)
       (refine bB<|ae<|yD Z<|yD Z<|yD Z<|cn<|fo Z<|aj<|az Z ?_;refine aa (fun e5=>?_) (fun e5=>?_) <;> try simp only[zB] at e5)
       ·have nx:=Ge.1 e5
        (refine aM<|yP Z<|yq Z<|bg zI ?_;refine And.intro ⟨by dsimp only;omega,by dsimp only;omega⟩ ?_)
        refine yk<|yA Z<|cL<|bp<|aj<|ai ?_
        refine⟨(n,v,p+1,q'),_,aW.refl _ _,?_⟩
        exact⟨⟨nx,z2,z3,by simp only;omega,by simp only;omega,by simp only;omega⟩,by simp only;omega,⟨Z,Z,Z,Z,Z,Z,Z,Z,Z,Z,Z,Z,Y⟩,⟨Z,Y⟩⟩
       have nx:=Ge.2 e5
       (refine aM<|yP Z<|yq Z<|bg zI ?_;refine And.intro ⟨by dsimp only;omega,by dsimp only;omega⟩ ?_)
       refine yk<|yA Z<|cL<|bp<|aj<|ai ?_
       refine⟨(n,v,p,q'+1),_,aW.refl _ _,?_⟩
       exact⟨⟨nx,z2,z3,by simp only;omega,by simp only;omega,by simp only;omega⟩,by simp only;omega,⟨Z,Z,Z,Z,Z,Z,Z,Z,Z,Z,Z,Z,Y⟩,⟨Z,Y⟩⟩
      have Ge:=Ge _ (if_neg (by simp only[vx,Bool.and_eq_true,decide_eq_true_eq];exact fun hc=>e3 hc.1))
      ((refine cB<|ae<|d0 Z<|d0 Z<|d0 Z<|d0 Z<|d0 Z<|d0 Z<|d0 Z<|d0 Z<|d0 Z<|d0 Z<|yD Z<|cn ?_;refine fo Z<|aj<|az Z<|cM<|aJ<|aj<|au<|cH [] false yy rfl (by kernel_rfl)<|cG Z<|yD Z<|yD Z<|dq Z<|aK zI ?_);refine⟨(rc x),(idx rfl hx),?_⟩)
      (refine bB<|ae<|yD Z<|yD Z<|yD Z<|yD Z<|dq Z<|aK zI ?_;refine⟨(rc y),(idx rfl hy),?_⟩)
      (refine bB<|ae<|yD Z<|yD Z<|yD Z<|cn<|fo Z<|aj<|az Z ?_;refine aa (fun e5=>?_) (fun e5=>?_) <;> try simp only[zB] at e5)
      ·have nx:=Ge.1 e5
       (refine aM<|yP Z<|yq Z<|bg zI ?_;refine And.intro ⟨by dsimp only;omega,by dsimp only;omega⟩ ?_)
       refine yk<|yA Z<|cL<|bp<|aj<|ai ?_
       refine⟨(n,v,p+1,q'),_,aW.refl _ _,?_⟩
       exact⟨⟨nx,z2,z3,by simp only;omega,by simp only;omega,by simp only;omega⟩,by simp only;omega,⟨Z,Z,Z,Z,Z,Z,Z,Z,Z,Z,Z,Z,Y⟩,⟨Z,Y⟩⟩
      have nx:=Ge.2 e5
      (refine aM<|yP Z<|yq Z<|bg zI ?_;refine And.intro ⟨by dsimp only;omega,by dsimp only;omega⟩ ?_)
      refine yk<|yA Z<|cL<|bp<|aj<|ai ?_
      refine⟨(n,v,p,q'+1),_,aW.refl _ _,?_⟩
      exact⟨⟨nx,z2,z3,by simp only;omega,by simp only;omega,by simp only;omega⟩,by simp only;omega,⟨Z,Z,Z,Z,Z,Z,Z,Z,Z,Z,Z,Z,Y⟩,⟨Z,Y⟩⟩
     have st:=stop (by omega)
     (refine bT<|aY<|aY<|bU<|aj<|aM<|yP Z<|yP Z<|yP Z<|yq Z<|bg zI ?_;refine sI ?_)
     (refine yk<|yA Z<|yA Z<|cL<|bp<|aj<|aM<|yq Z<|bg zI ?_;refine sI ?_)
     (refine yk<|yP Z<|yT<|ai ?_;refine⟨(k+1,v,f+b.xs.length,f),_,aW.refl _ _,?_⟩)
     exact⟨⟨by rw[st];exact c1,z2,z3,by simp only;omega,by simp only;omega,by simp only;omega⟩,by omega,⟨Z,Z,Z,Z,Z,Z,Z,Z,Z,Y⟩,⟨Z,Y⟩⟩
    have st:=stop (by omega)
    ((refine cB<|ae<|y0 Z<|y0 Z<|y0 Z<|y0 Z<|yP Z<|yT<|az Z<|cM<|bT<|aY<|aY<|bU ?_;refine aj<|aM<|yP Z<|yP Z<|yP Z<|yq Z<|bg zI ?_);refine sI ?_)
    (refine yk<|yA Z<|yA Z<|cL<|bp<|aj<|aM<|yq Z<|bg zI ?_;refine sI ?_)
    (refine yk<|yP Z<|yT<|ai ?_;refine⟨(k+1,v,f+b.xs.length,f),_,aW.refl _ _,?_⟩)
    exact⟨⟨by rw[st];exact c1,z2,z3,by simp only;omega,by simp only;omega,by simp only;omega⟩,by omega,⟨Z,Z,Z,Z,Z,Z,Z,Z,Z,Y⟩,⟨Z,Y⟩⟩
   have hm:Reg.meets (oq s k) b=false:=by rw[hpv];simpa [Reg.meets] using g3
   have c1:=skip hm
   (refine aJ<|aj<|aM<|yP Z<|yP Z<|yP Z<|yq Z<|bg zI ?_;refine And.intro ⟨by rw[hf];dsimp only;omega,by rw[hf];dsimp only;omega⟩ ?_)
   (refine yk<|yA Z<|yA Z<|cL<|bp<|aj<|aM<|yq Z<|bg zI ?_;refine sI ?_)
   (refine yk<|yP Z<|yT<|ai ?_;refine⟨(k+1,u,f+b.xs.length,f),_,aW.refl _ _,?_⟩)
   exact⟨⟨c1,c2,c3,by simp only;omega,by simp only;omega,by simp only;omega⟩,by omega,⟨rfl,rfl,rfl,rfl,by rw[hf];rfl,Z,Z,Z,Z,Y⟩,⟨Z,Y⟩⟩
  have hm:Reg.meets (oq s k) b=false:=by rw[oq,if_pos (by omega)];rfl
  have c1:=skip hm
  ((refine cB<|ae<|d0 Z<|d0 Z<|d0 Z<|d0 Z<|d0 Z<|d0 Z<|d0 Z<|d0 Z<|yD Z<|cn<|fo Z<|aj ?_;refine az Z<|cM<|aJ<|aj<|aM<|yP Z<|yP Z<|yP Z<|yq Z<|bg zI ?_);refine And.intro ⟨by rw[hf];dsimp only;omega,by rw[hf];dsimp only;omega⟩ ?_)
  (refine yk<|yA Z<|yA Z<|cL<|bp<|aj<|aM<|yq Z<|bg zI ?_;refine sI ?_)
  (refine yk<|yP Z<|yT<|ai ?_;refine⟨(k+1,u,f+b.xs.length,f),_,aW.refl _ _,?_⟩)
  exact⟨⟨c1,c2,c3,by simp only;omega,by simp only;omega,by simp only;omega⟩,by omega,⟨rfl,rfl,rfl,rfl,by rw[hf];rfl,Z,Z,Z,Z,Y⟩,⟨Z,Y⟩⟩
 have e:s.length<=k:=by omega
 rw[List.drop_of_length_le e] at c1 c4
 have c1:u=U:=c1
 subst c1
 have MM:eP s=((Reg.ba (Reg.dR u) i).map fun l=>l.map fun m=>all.getD m gQ).map Reg.a_:=by rw[eP,Xb,<-hU,<-iB,Tq]
 rw[MM]
 obtain⟨p,hp⟩:∃p,p=Reg.dR u:=⟨_,rfl⟩
 have hT:Reg.FM p i:=by rw[hp,<-c3];exact Reg.tV c2
 rw[<-hp]
 obtain⟨rf,Tr⟩:∃rf,rf=fun m=>rc (all.getD m gQ):=⟨_,rfl⟩
 (refine bT (aY (aY (bU (aj (yS (yn Z (aA zI (aS (af (cD Z (jW Z Z Z (Eb Z) (af (yU ?_)))))))))))));refine yB Z<|yT<|au<|yS<|yP Z<|yP Z<|yP Z<|yT<|aZ ?_)
 refine aI (fun x:Nat×List (Value×PV)=>x.1<=i/\(∀(k r:Nat),(Reg.cZ p x.1)[k]?=some r->gR x.2 (.int .i64 r)=some (i64 k))/\∀r:Nat,¬r∈Reg.cZ p x.1->gR x.2 (.int .i64 r)=none) (fun x=>[(3,.p (aV all)),(4,.bx 4 0),(6,.fn 143 [.bx 4 0]),(16,.ow 136),(17,.ow 17),(137,.p (aV all)),(138,.p (i64 i)),(139,.p (i64 x.1))]) (fun x=>[(4,.bb [.row 3 (aE (l8 u x.1))]),(17,.aL 27 ((Reg.ba p x.1).map (Xz 56 rf))),(136,.map (.int .i64) x.2)]) (fun x=>i - x.1) (0,[]) _ ((aW.fa (by exact hC) _ 17 27 _ (by decide) (by exact rfl) (by exact rfl) (by decide)).trans (aW.Ro (by exact hC) _ 17 (e:=27) (es:=[]) (by exact rfl))) ⟨Nat.zero_le _,fun k r h=>by simp[Reg.cZ] at h,fun r _=>rfl⟩ ⟨rfl,rfl,rfl,rfl,rfl,rfl,congrArg (fun m:Nat=>AV.p (i64 m)) (la.trans Tq),Z,Y⟩ ⟨Z,Z,Z,Y⟩ fun ⟨m,es⟩ hx t h=>?_
 obtain⟨h1,h2,h3⟩:=hx
 simp only at h1 h2 h3
 obtain⟨vu,vl,vr⟩:=vq c2 m (by omega)
 (refine yS<|yP Z<|yT<|au<|az Z ?_;refine aa (fun g1=>?_) (fun g1=>?_) <;> try simp only[zB] at g1)
 ·obtain⟨x,hx⟩:=bh (l:=all) (i:=m) (by omega)
  have L1:rf m=rc x:=by rw[Tr];exact congrArg rc (getD_at hx)
  have hr:fg (l8 u m) m (p m):=(vr _ _).2 (by rw[hp];exact Reg.ku c2 (by omega))
  have O0:=sq (l8 u m) vu m (by omega)
  rw[(Reg.fY m (l8 u m) m vu hr.lt (Nat.le_refl _)).root.uniq hr] at O0
  (refine aJ<|aj<|au<|aZ<|yS<|yP Z<|yq Z<|aK zI ?_;refine⟨(rc x),(idx rfl hx),?_⟩)
  ((refine yk<|yP Z<|yn Z<|aA zI<|aS<|ak<|yA Z<|yq Z<|aA zI<|bd<|aF<|an<|yU<|yq Z ?_;refine aA zI<|bd<|mE<|yP Z<|yn Z<|aK zI ?_);refine⟨_,_,O0,?_⟩)
  have sl:(Reg.ba p m).length=(Reg.cZ p m).length:=Reg.l6 p m
  have kl:=Reg.om p m
  by_cases e:p m=m
  ·have Jp:=h3 (p m) (by rw[e];exact fun hc=>by have:=(Reg.mem_keys.1 hc).1;omega)
   have nx:=Reg.Bq hT (show m < i by omega) e
   (refine b9 Z Z<|aF<|ae<|yA Z<|yU<|yq Z<|aA zI<|bd<|af<|yP Z<|yq Z<|aK zI ?_;refine⟨none,Jp,?_⟩)
   refine bd<|bq<|yq Z<|aA zI<|bd<|bq<|yP Z<|yP Z<|yA Z<|yA Z<|yT ?_
   refine fB ?_
   ((refine yS<|yP Z<|yP Z<|yT<|az Z<|fy<|yS<|yq Z<|aA zI<|bd<|af<|yP Z<|yA Z<|yU ?_;refine yq Z<|aA zI<|bd<|af<|yP Z<|yP Z<|yq Z<|aA zI<|bd<|aF<|an<|yT<|aM<|yq Z ?_;refine aA zI<|bd<|af<|yn Z<|aA zI<|aS<|af<|yn Z<|bg zI ?_);refine And.intro ⟨fun r hr=>by simp at hr;subst hr;rfl,by simp only[List.length_map,List.length_set,List.length_replicate];omega,by simp only[List.length_map,List.length_set,List.length_replicate];omega⟩ ?_)
   refine aS<|aF<|af<|cD Z<|cr Z Z Z Z Z<|yT<|ai ?_
   refine CR ((aW.Mr (by exact hC) _ 17 (Reg.ba p m).length 0 (e:=27) (e':=56) (es:=(Reg.ba p m).map (Xz 56 rf)++[[.av .nl]]) (r:=[.av .nl]) (by exact congrArg (AB.aL _) (by simp only[tW,Ka];rfl)) (by rw[List.getElem?_append_right (by simp)];simp) (by exact rfl) (by exact rfl) (by decide)).trans (aW.oK (by exact hC) _ 17 (Reg.ba p m).length 0 90001 (e:=27) (es:=(Reg.ba p m++[[]]).map (Xz 56 rf)) (e':=56) (r:=Xz 56 rf []) (xs:=[]) (by decide) (by decide) (by exact congrArg (AB.aL _) (by rw[List.map_append];refine (qX _ _ _ _ (List.length_map _).symm).trans ?_;simp[Xz])) (vz _ _ _) (by rw[List.map_append,List.getElem?_append_right (by simp)];simp) (by exact rfl))) ?_
   have e0:(List.map (fun r=>List.map (HX.dm (sc 146)) r) (List.map (fun r=>List.map (HX.dm (sc 19)) r) (List.map (Xz 56 rf) (Reg.ba p m)))).length=(Reg.ba p m).length:=by simp
   ((refine cH [17,1000017,19,1000019,136] true yy rfl (by kernel_rfl)<|ay Z<|ay Z<|ay Z<|ay Z<|ay Z<|ay Z<|ay Z<|cA Z Z<|cA Z Z<|cG Z<|dq Z<|aA zI<|bB ?_;refine af<|yD Z<|dq Z<|aA zI<|bB<|af<|yD Z<|dq Z<|bg zI ?_);refine And.intro ⟨by dsimp only;omega,by simp⟩ ?_)
   (refine bB<|bJ<|dq Z<|aK zI ?_;refine⟨[.av (.ow 90001)],(by rw[oR,gA,gA];rw[e0];exact oS _ _ (Reg.ba p m++[[]]) (Reg.ba p m).length 90001 (by simp);rfl;rfl),?_⟩)
   (refine bB<|af<|yD Z<|dq Z<|aA zI<|jA Z Z<|af<|dq Z<|bg zI ?_;refine And.intro ⟨fun r hr=>by simp at hr;subst hr;rfl,by simp,by simp⟩ ?_)
   (refine hD Z Z Z<|fM<|g_<|af<|dq Z<|bg zI ?_;refine And.intro ⟨by dsimp only;omega,by simp⟩ ?_)
   (refine bB<|bJ<|dq Z<|aK zI ?_;refine⟨[.av (.ow 90001)],(by rw[oR,gA,gA];rw[e0];exact oS _ _ (Reg.ba p m++[[]]) (Reg.ba p m).length 90001 (by simp);rfl;rfl),?_⟩)
   (refine iG Z<|aF<|an<|cn<|fo Z<|bp<|aj<|aM<|yq Z<|bg zI ?_;refine sI ?_)
   refine yk<|yP Z<|yT<|ai ?_
   refine⟨(m+1,jw es (.int .i64 (p m)) (i64 (Reg.ba p m).length)),_,aW.Au (by exact hC) _ 17 (Reg.ba p m).length 0 171 (e:=27) (es:=((Reg.ba p m++[[]]).map (Xz 56 rf)).set (Reg.ba p m).length [.av (.ow 171)]) (e':=56) (xs:=[rf m]) (by decide) (by exact congrArg (AB.aL _) (by rw[oR,gA,gA,e0];exact List.set_set _;rfl;rfl)) (by rw[L1];exact rfl) (oS _ _ _ _ _ (by simp)) (by exact rfl),?_⟩
   have key:∀(k r:Nat),(Reg.cZ p (m+1))[k]?=some r->gR (jw es (.int .i64 (p m)) (i64 (Reg.ba p m).length)) (.int .i64 r)=some (i64 k):=fun k r hk=>by
    rw[Reg.gP,if_pos e] at hk
    rw[WW]
    by_cases GB:k < (Reg.cZ p m).length
    ·rw[List.getElem?_append_left GB] at hk
     have:=(Reg.mem_keys.1 (List.mem_of_getElem? hk)).1
     rw[if_neg (by omega)]
     exact h2 k r hk
    rw[List.getElem?_append_right (by omega)] at hk
    have DW:k=(Reg.cZ p m).length:=by
     have:=(List.getElem?_eq_some_iff.1 hk).1
     simp at this
     omega
    subst DW
    simp only[Nat.sub_self,List.getElem?_cons_zero,Option.some.injEq] at hk
    subst hk
    rw[if_pos (by omega),sl]
   have O1:∀r:Nat,¬r∈Reg.cZ p (m+1)->gR (jw es (.int .i64 (p m)) (i64 (Reg.ba p m).length)) (.int .i64 r)=none:=fun r hr=>by
    rw[Reg.gP,if_pos e] at hr
    rw[WW,if_neg (fun hc=>hr (by rw[List.mem_append];exact .inr (by simp;omega)))]
    exact h3 r fun hc=>hr (List.mem_append_left _ hc)
   refine And.intro ⟨by dsimp only;omega,key,O1⟩ ⟨by dsimp only;omega,⟨Z,Z,Z,Z,Z,Z,Z,Z,Y⟩,⟨rfl,?_,congrArg (AB.map _) ?_,trivial⟩⟩
   ·refine congrArg (AB.aL _) ?_
    show ((List.map (Xz 56 rf) (Reg.ba p m++[[]])).set _ _).set _ _=List.map (Xz 56 rf) (Reg.ba p (m+1))
    rw[List.set_set,nx,List.map_append,List.map_append]
    exact qX _ _ _ _ (List.length_map _).symm
   dsimp only
   rw[e0];rfl
  obtain⟨k,hk⟩:=Reg.Iw hT (show m < i by omega) e
  obtain⟨nx,Nq⟩:=Reg.Bs e hk
  have km:=h2 k (p m) hk
  have MI:((Reg.ba p m).map (Xz 56 rf))[k]?=some (Xz 56 rf (Reg.fR p m (p m))):=by rw[List.getElem?_map,Nq];rfl
  have V3:=(List.getElem?_eq_some_iff.1 hk).1
  have ml:=Reg.l7 p m (p m)
  (refine b9 Z Z<|aF<|ae<|yA Z<|yU<|yq Z<|aA zI<|bd<|af<|yP Z<|yq Z<|aK zI ?_;refine⟨(some (i64 k)),km,?_⟩)
  refine bd<|bq<|yq Z<|aA zI<|bd<|bq<|yP Z<|yP Z<|yA Z<|yA Z<|yT ?_
  refine fB ?_
  refine yS<|yP Z<|yP Z<|yT<|az Z<|cM<|aJ<|aj<|ai ?_
  refine CR (aW.oK (by exact hC) _ 17 k 0 90001 (e:=27) (by decide) (by decide) (by exact congrArg (AB.aL _) (by simp only[tW])) (vz _ _ _) MI (by exact rfl)) ?_
  ((refine cH [17,1000017,19,1000019,136] true yy rfl (by kernel_rfl)<|ay Z<|ay Z<|ay Z<|ay Z<|ay Z<|ay Z<|ay Z<|cA Z Z<|cA Z Z<|cG Z<|dq Z<|aA zI<|bB ?_;refine af<|yD Z<|dq Z<|aA zI<|bB<|af<|yD Z<|dq Z<|bg zI ?_);refine And.intro ⟨by omega,by simp only[List.length_map,List.length_set];omega⟩ ?_)
  (refine bB<|bJ<|dq Z<|aK zI ?_;refine⟨[.av (.ow 90001)],(by rw[oR,gA,gA];exact oS _ _ (Reg.ba p m) k 90001 (by omega);rfl;rfl),?_⟩)
  (refine bB<|af<|yD Z<|dq Z<|aA zI<|jA Z Z<|af<|dq Z<|bg zI ?_;refine And.intro ⟨fun r hr=>by simp at hr;subst hr;rfl,by simp only[List.length_map,List.length_set,List.length_replicate];omega,by simp only[List.length_map,List.length_set,List.length_replicate];omega⟩ ?_)
  (refine hD Z Z Z<|fM<|g_<|af<|dq Z<|bg zI ?_;refine And.intro ⟨by omega,by simp only[List.length_map,List.length_set];omega⟩ ?_)
  (refine bB<|bJ<|dq Z<|aK zI ?_;refine⟨[.av (.ow 90001)],(by rw[oR,gA,gA];exact oS _ _ (Reg.ba p m) k 90001 (by omega);rfl;rfl),?_⟩)
  (refine iG Z<|aF<|an<|cn<|fo Z<|bp<|aj<|aM<|yq Z<|bg zI ?_;refine sI ?_)
  refine yk<|yP Z<|yT<|ai ?_
  refine⟨(m+1,es),_,aW.Au (by exact hC) _ 17 k 0 171 (e:=27) (es:=((Reg.ba p m).map (Xz 56 rf)).set k [.av (.ow 171)]) (e':=56) (xs:=(Reg.fR p m (p m)++[m]).map rf) (by decide) (by exact congrArg (AB.aL _) (by rw[oR,gA,gA];exact List.set_set _;rfl;rfl)) (by exact congrArg (AB.row _) (by rw[List.map_append];exact congrArg (List.map rf (Reg.fR p m (p m))++·) (by show _=[rf m];rw[L1];rfl))) (oS _ _ _ _ _ (by omega)) (by exact rfl),?_⟩
  refine And.intro ⟨by dsimp only;omega,fun k' r tI=>?_,fun r hr=>?_⟩ ⟨by dsimp only;omega,⟨Z,Z,Z,Z,Z,Z,Z,Z,Y⟩,⟨rfl,?_,Z,Y⟩⟩
  ·rw[Reg.gP,if_neg e] at tI
   exact h2 k' r tI
  ·rw[Reg.gP,if_neg e] at hr
   exact h3 r hr
  refine congrArg (AB.aL _) ?_
  show ((List.map (Xz 56 rf) (Reg.ba p m)).set _ _).set _ _=List.map (Xz 56 rf) (Reg.ba p (m+1))
  rw[List.set_set,nx,List.map_set]
  rfl
 have em:m=i:=by omega
 subst em
 obtain⟨LL,Kb⟩:∃LL,LL=Reg.ba p m:=⟨_,rfl⟩
 rw[<-Kb]
 (refine bT<|aY<|aY<|bU<|aj<|yS<|yB Z<|yT<|au<|yS<|yq Z<|aA zI<|bd<|af ?_;refine yP Z<|yP Z<|yT<|aZ ?_)
 obtain⟨rL,MD⟩:∃rL:List Nat->List aB,rL=fun l=>l.map fun m=>all.getD m gQ:=⟨_,rfl⟩
 rw[<-MD]
 have qi:∀l,MJ rf l=[aV (rL l)]:=fun l=>by rw[MJ,Tr,MD,aV,List.map_map];rfl
 have lL:=aN LL (MJ rf)
 have V4:LL.length<=m:=by rw[Kb,Reg.l6];exact Reg.om p m
 have FB:∀l∈LL,l.length<=m/\∀r∈rL l,r∈all:=fun l hl=>by
  rw[Kb,Reg.ba] at hl
  obtain⟨r,_,rfl⟩:=List.mem_map.1 hl
  refine⟨Reg.l7 p m r,fun q hq=>?_⟩
  rw[MD] at hq
  obtain⟨z,hz,rfl⟩:=List.mem_map.1 hq
  have:=(Reg.fD.1 hz).1
  obtain⟨q,hq⟩:=bh (l:=all) (i:=z) (by omega)
  rw[getD_at hq]
  exact List.mem_of_getElem? hq
 have tf:=Reg.dK hs
 have ti:=Reg.kN hs ks
 rw[<-iB] at tf ti
 refine aI (fun j:Nat=>j<=LL.length) (fun j=>[(23,.ow 23),(174,.p (.sl (LL.map (MJ rf)))),(175,.p (i64 LL.length)),(176,.p (i64 j))]) (fun j=>[(23,.row 81 (((LL.take j).map fun l=>Reg.a_ (rL l)).map fun p=>[aG p]))]) (fun j=>LL.length - j) 0 _ ((aW.Hz (by exact hC) _ 17 (LL.map (MJ rf)) (e:=27) (by exact rfl) (ML _ _ _)).trans ((aW.own (by exact hC) _ 174 (id:=17) (by exact rfl) (by exact rfl)).trans (aW.fa (by exact hC) _ 23 81 _ (by decide) (by exact rfl) (by exact rfl) (by decide)))) (Nat.zero_le _) ⟨rfl,rfl,congrArg (fun m:Nat=>AV.p (i64 m)) (List.length_map _),Z,Y⟩ ⟨Z,Y⟩ fun j hj t h=>?_
 (refine yS<|yP Z<|yT<|au<|az Z ?_;refine aa (fun g1=>?_) (fun g1=>?_) <;> try simp only[zB] at g1)
 ·obtain⟨l,hl⟩:=bh (l:=LL) (i:=j) (by omega)
  obtain⟨m1,m2⟩:=FB l (List.mem_of_getElem? hl)
  have so:=jb (rL l) 1400000 (by omega) (by omega) (fun r hr=>tf r (m2 r hr)) (fun r hr=>ti r (m2 r hr)) (by rw[MD,List.length_map];omega)
  have lk:((LL.take j).map fun l=>Reg.a_ (rL l)).length=j:=by rw[List.length_map,List.length_take];omega
  (refine aJ<|aj<|au<|aZ<|yS<|yq Z<|aK zI ?_;refine⟨[aV (rL l)],(by rw[<-qi];exact idx rfl hl),?_⟩)
  (refine yk<|yP Z<|yA Z<|yT<|aM<|yq Z<|aA zI<|bd<|af<|yP Z<|yn Z<|aK zI ?_;refine⟨_,_,so,?_⟩)
  (refine aS<|af<|yn Z<|aA zI<|aS<|aF<|af<|yn Z<|bg zI ?_;refine And.intro ⟨fun r hr=>by simp at hr;subst hr;rfl,by simp only[List.length_map,List.length_set,List.length_replicate,lk];omega,by simp only[List.length_map,List.length_set,List.length_replicate,lk];omega⟩ ?_)
  (refine aS<|aF<|af<|cD Z<|cr Z Z Z Z Z<|cL<|bp<|aj<|aM<|yq Z<|bg zI ?_;refine sI ?_)
  (refine yk<|yP Z<|yT<|ai ?_;refine⟨(j+1),_,aW.refl _ _,?_⟩)
  exact⟨by omega,by omega,⟨Z,Z,Z,Z,Y⟩,⟨by rw[cw hl,List.map_append,List.map_append];rfl,trivial⟩⟩
 have e:LL.take j=LL:=List.take_of_length_le (by omega)
 rw[e]
 refine bT<|aY<|aY<|bU<|aj<|yS<|yq Z<|aA zI<|bd<|af<|cD Z<|cr Z Z Z Z Z<|yR zi ?_
 exact And.intro (congrArg (AB.row _) (by rw[List.map_map,List.map_map,List.map_map];rfl)) (And.intro rfl trivial)
end M
namespace Reg
theorem qY {α:Type} [DecidableEq α]:∀{l m:List α},l.Nodup->(∀x∈l,x∈m)->l.length<=m.length
 | [],m,_,_=>Nat.zero_le _
 | x::l,m,h,hs=>by
  have hx:=hs x List.mem_cons_self
  have h':=List.nodup_cons.1 h
  have:=qY (l:=l) (m:=m.erase x) h'.2 fun y hy=>(List.mem_erase_of_ne (fun e=>h'.1 (by rw[<-e];exact hy))).2 (hs y (List.mem_cons_of_mem _ hy))
  rw[List.length_erase_of_mem hx] at this
  have:=List.length_pos_of_mem hx
  simp only[List.length_cons]
  omega
theorem pX:∀{s:bC} {p:Int×Int},Canon s->p∈s->¬cover s (p.1 - 1)
 | [],p,_,hp=>by cases hp
 | q::s,p,h,hp=>by
  rw[bN]
  rintro (⟨h1,h2⟩ | h3)
  ·rcases List.mem_cons.1 hp with rfl | hp
   ·omega
   have:=h.behind p hp
   omega
  rcases List.mem_cons.1 hp with rfl | hp
  ·exact h.iH (by have:=h.head;omega) h3
  exact pX h.tail hp h3
theorem zu {s:List ax} (h:hZ s) {b:ax} (hb:b∈s) {y:Int} (h1:b.y0<=y) (h2:y < b.y1) (x:Int):at' s x y=par (bK b.xs) x:=by
 induction s with
 | nil=>cases hb
 | cons c s ih=>
  rcases List.mem_cons.1 hb with rfl | hb'
  ·exact jF h h1 h2
  have:=h.fZ b hb'
  rw[mS (by omega)]
  exact ih h.tail hb'
theorem xJ {s:List ax} (h:hZ s) {b:ax} (hb:b∈s):∃x,at' s x (b.y0 - 1)≠at' s x b.y0:=by
 induction s with
 | nil=>cases hb
 | cons c s ih=>
  have eL:=(h.mem b hb).lt
  rcases List.mem_cons.1 hb with rfl | hb'
  ·obtain⟨x,hx⟩:=qO (h.mem b hb)
   refine⟨x,?_⟩
   rw[jF h (Int.le_refl _) eL,hx,iM fun t ht=>?_]
   ·decide
   rcases List.mem_cons.1 ht with rfl | ht
   ·exact .inl (by omega)
   have:=h.fZ t ht
   exact .inl (by omega)
  have hc:=(h.mem c List.mem_cons_self).lt
  have rX:=h.fZ b hb'
  by_cases e:c.y1=b.y0
  ·match s,h,hb',ih with
   | d::s,h,hb',ih=>
    rcases List.mem_cons.1 hb' with rfl | hb''
    ·have b8:c.xs≠b.xs:=fun hx=>by
      have:=h
      simp only[hZ] at this
      exact this.2.2.1 e hx
     have hx:∃x,par (bK c.xs) x≠par (bK b.xs) x:=by
      refine Classical.byContradiction fun hn=>b8 (jC _ _ (h.mem c List.mem_cons_self).can (h.mem b (by simp)).can fun x=>?_)
      have:par (bK c.xs) x=par (bK b.xs) x:=Classical.byContradiction fun hc=>hn ⟨x,hc⟩
      rw[<-dn (h.mem c List.mem_cons_self).can,<-dn (h.mem b (by simp)).can,this]
     obtain⟨x,hx⟩:=hx
     refine⟨x,?_⟩
     rw[jF h (by omega) (by omega),mS (by omega),jF h.tail (Int.le_refl _) eL]
     exact hx
    have:=(h.tail.fZ b hb'')
    have:=(h.mem d (by simp)).lt
    have:=h.fZ d (by simp)
    omega
  obtain⟨x,hx⟩:=ih h.tail hb'
  refine⟨x,?_⟩
  rw[mS (by omega),mS (by omega)]
  exact hx
theorem Iy {s:List ax} (h:hZ s) {Ys:List Int} (hy:∀x y,¬y∈Ys->at' s x (y - 1)=at' s x y):∀q∈told s,q.y0∈Ys:=fun q hq=>by
 obtain⟨b,hb,p,_,rfl⟩:=Wu.1 hq
 obtain⟨x,hx⟩:=xJ h hb
 exact Classical.byContradiction fun hn=>hx (hy x b.y0 hn)
theorem Iz {s:List ax} (h:hZ s) {Xs:List Int} (hx:∀x y,¬x∈Xs->at' s (x - 1) y=at' s x y):∀q∈told s,q.x0∈Xs:=fun q hq=>by
 obtain⟨b,hb,p,hp,rfl⟩:=Wu.1 hq
 have hB:=h.mem b hb
 refine Classical.byContradiction fun hn=>?_
 have e:=hx p.1 b.y0 hn
 rw[zu h hb (Int.le_refl _) hB.lt,zu h hb (Int.le_refl _) hB.lt] at e
 have h1:cover b.xs p.1:=⟨p,hp,Int.le_refl _,fP hB.can p hp⟩
 rw[<-dn hB.can,<-e,dn hB.can] at h1
 exact pX hB.can hp h1
theorem xK (Xs:List Int):∀Ys:List Int,(Ys.flatMap fun y=>Xs.map fun x=>(y,x)).length=Ys.length*Xs.length
 | []=>by simp
 | y::Ys=>by rw[List.flatMap_cons,List.length_append,xK Xs Ys,List.length_map,List.length_cons,Nat.succ_mul,Nat.add_comm]
theorem Kc {s:List ax} (h:hZ s) {Xs Ys:List Int} (hx:∀x y,¬x∈Xs->at' s (x - 1) y=at' s x y) (hy:∀x y,¬y∈Ys->at' s x (y - 1)=at' s x y):(told s).length<=Ys.length*Xs.length:=by
 have hn:((told s).map fun q=>(q.y0,q.x0)).Nodup:=by
  rw[List.nodup_iff_pairwise_ne,List.pairwise_map]
  refine (mT h).imp fun {a b} rX e=>?_
  have:=WT.1 rX
  simp only[Prod.mk.injEq] at e
  omega
 have:=qY (m:=Ys.flatMap fun y=>Xs.map fun x=>(y,x)) hn fun z hz=>by
  obtain⟨q,hq,rfl⟩:=List.mem_map.1 hz
  exact List.mem_flatMap.2 ⟨q.y0,Iy h hy q hq,List.mem_map.2 ⟨q.x0,Iz h hx q hq,rfl⟩⟩
 rw[List.length_map] at this
 exact Nat.le_trans this (Nat.le_of_eq (xK Xs Ys))
end Reg
end Go.Proofs.YtpbkimanfahbgaaGreatDoor
