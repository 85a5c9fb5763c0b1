/- Part 10 of 14 of the proof of RulesFitsKeepsApart (the names are shortened by a program: the size of a claim is limited). -/
import Derived.Test.YtpbkimanfahbgaaGreatDoorF09
set_option linter.unusedVariables false
set_option linter.unusedSimpArgs false
set_option maxRecDepth 100000
set_option maxHeartbeats 8000000
namespace Go.Proofs.YtpbkimanfahbgaaGreatDoor
namespace Reg
def cZ (p:Nat->Nat) (i:Nat):List Nat:=(List.range i).filter fun r=>decide (p r=r)
def fR (p:Nat->Nat) (i r:Nat):List Nat:=(List.range i).filter fun m=>decide (p m=r)
def ba (p:Nat->Nat) (i:Nat):List (List Nat):=(cZ p i).map (fR p i)
structure FM (p:Nat->Nat) (n:Nat):Prop where
 le:∀m,m < n->p m<=m
 top:∀m,m < n->p (p m)=p m
theorem mem_keys {p:Nat->Nat} {i r:Nat}:r∈cZ p i↔r < i/\p r=r:=by simp[cZ]
theorem fD {p:Nat->Nat} {i r m:Nat}:m∈fR p i r↔m < i/\p m=r:=by simp[fR]
theorem pU (p:Nat->Nat) (i:Nat):(cZ p i).Nodup:=List.Pairwise.sublist List.filter_sublist List.nodup_range
theorem gP (p:Nat->Nat) (i:Nat):cZ p (i+1)=if p i=i then cZ p i++[i] else cZ p i:=by
 rw[cZ,List.range_succ,List.filter_append]
 by_cases h:p i=i <;> simp[h,cZ]
theorem qW (p:Nat->Nat) (i r:Nat):fR p (i+1) r=if p i=r then fR p i r++[i] else fR p i r:=by
 rw[fR,List.range_succ,List.filter_append]
 by_cases h:p i=r <;> simp[h,fR]
theorem Iv {p:Nat->Nat} {n i:Nat} (hp:FM p n) (hi:i<=n):fR p i i=[]:=by
 refine List.filter_eq_nil_iff.2 fun m hm=>?_
 have h1:=List.mem_range.1 hm
 have:=hp.le m (by omega)
 simp
 omega
theorem Bq {p:Nat->Nat} {n i:Nat} (hp:FM p n) (hi:i < n) (h:p i=i):ba p (i+1)=ba p i++[[i]]:=by
 rw[ba,gP,if_pos h,List.map_append]
 congr 1
 ·refine List.map_congr_left fun r hr=>?_
  have:=(mem_keys.1 hr).1
  rw[qW,if_neg (by omega)]
 simp[qW,h,Iv hp (Nat.le_of_lt hi)]
theorem Iw {p:Nat->Nat} {n i:Nat} (hp:FM p n) (hi:i < n) (h:p i≠i):∃k:Nat,(cZ p i)[k]?=some (p i):=by
 have h1:=hp.le i hi
 exact List.mem_iff_getElem?.1 (mem_keys.2 ⟨by omega,hp.top i hi⟩)
theorem Br {l:List Nat} (h:l.Nodup) {a b x:Nat} (ha:l[a]?=some x) (hb:l[b]?=some x):a=b:=by
 obtain⟨h1,e1⟩:=List.getElem?_eq_some_iff.1 ha
 obtain⟨h2,e2⟩:=List.getElem?_eq_some_iff.1 hb
 rcases Nat.lt_trichotomy a b with h3 | h3 | h3
 ·exact absurd (e1.trans e2.symm) (List.pairwise_iff_getElem.1 h _ _ h1 h2 h3)
 ·exact h3
 exact absurd (e2.trans e1.symm) (List.pairwise_iff_getElem.1 h _ _ h2 h1 h3)
theorem Bs {p:Nat->Nat} {i:Nat} (h:p i≠i) {k:Nat} (hk:(cZ p i)[k]?=some (p i)):ba p (i+1)=(ba p i).set k (fR p i (p i)++[i])/\(ba p i)[k]?=some (fR p i (p i)):=by
 have JM:=(List.getElem?_eq_some_iff.1 hk).1
 refine⟨?_,by rw[ba,List.getElem?_map,hk];rfl⟩
 rw[ba,gP,if_neg h]
 apply List.ext_getElem?
 intro m
 rw[eW (by rw[ba,List.length_map];exact JM),ba,List.getElem?_map,List.getElem?_map]
 by_cases e:m=k
 ·subst e
  rw[if_pos rfl,hk]
  simp[qW]
 rw[if_neg e]
 cases hm:(cZ p i)[m]? with
 | none=>rfl
 | some r=>
  have b8:p i≠r:=fun e2=>e (Br (pU p i) hm (by rw[hk,e2]))
  simp[qW,b8]
theorem l6 (p:Nat->Nat) (i:Nat):(ba p i).length=(cZ p i).length:=by simp[ba]
theorem om (p:Nat->Nat) (i:Nat):(cZ p i).length<=i:=by
 have:=List.length_filter_le (fun r=>decide (p r=r)) (List.range i)
 simpa [cZ] using this
theorem l7 (p:Nat->Nat) (i r:Nat):(fR p i r).length<=i:=by
 have:=List.length_filter_le (fun m=>decide (p m=r)) (List.range i)
 simpa [fR] using this
def dR (u:List Int) (i:Nat):Nat:=(cO i u i).2
theorem ku {u:List Int} (hu:UF u) {i:Nat} (hi:i < u.length):fg u i (dR u i):=(fY i u i hu hi (Nat.le_refl _)).root
theorem Ix {u:List Int} (hu:UF u) {i r:Nat} (h:fg u i r):dR u i=r:=(ku hu h.lt).uniq h
theorem tV {u:List Int} (hu:UF u):FM (dR u) u.length:=
 ⟨fun m hm=>(ku hu hm).le hu,fun m hm=>by
  have h:=ku hu hm
  exact Ix hu (.here _ h.top)⟩
end Reg
namespace M
open Go.AM Go.RowKit Go.Lib
open Reg (UF fg iota)
def pV (n i:Nat):List Int:=(List.range n).map fun (j:Nat)=>if j < i then (j:Int) else 0
theorem vp (n i:Nat):(pV n i).length=n:=by simp[pV]
theorem Bt {n i:Nat} (h:i < n):(pV n i)[i]?=some 0:=by
 rw[pV,List.getElem?_map,List.getElem?_range h]
 simp
theorem xH (n:Nat):aE (pV n 0)=List.replicate n [i64 0]:=by
 refine List.ext_getElem? fun m=>?_
 rw[aE,List.getElem?_map,pV,List.getElem?_map,List.getElem?_replicate]
 by_cases h:m < n
 ·rw[List.getElem?_range h,if_pos h];rfl
 rw[if_neg h,List.getElem?_eq_none (by simp;omega)];rfl
theorem Bu (n:Nat):pV n n=iota n:=List.map_congr_left fun j hj=>if_pos (List.mem_range.1 hj)
theorem Bv {n i:Nat} (h:i < n):(pV n i).set i (i:Int)=pV n (i+1):=by
 refine List.ext_getElem? fun m=>?_
 rw[Reg.eW (by rw[vp];exact h),pV,pV,List.getElem?_map,List.getElem?_map]
 by_cases e:m=i
 ·subst e
  rw[if_pos rfl,List.getElem?_range h]
  simp
 rw[if_neg e]
 by_cases hm:m < n
 ·rw[List.getElem?_range hm]
  simp only[Option.map_some,Option.some.injEq]
  by_cases h2:m < i
  ·rw[if_pos h2,if_pos (by omega)]
  rw[if_neg h2,if_neg (by omega)]
 rw[List.getElem?_eq_none (by simp;omega)];rfl
theorem FO (n:Nat) (hn:n<=1000000000):aD C 121 [.pv (i64 n)] (.hown [.row 3 (aE (iota n))]) []:=by
 refine aT hC Tryz.func121 rfl rfl 26 rfl (by decide) (by kernel_rfl) fun _ _ _ _ _=>?_
 (refine yS<|yA Z<|yU<|yP Z<|yn Z<|bg zI ?_;refine And.intro ⟨by omega,by omega,by dsimp only;omega,by omega⟩ ?_)
 (refine aS (af (yV Z (yn Z (aA zI (aS (ak (cD Z (jW Z Z Z (nX Z) (ak (yT (au (yS (yq Z ?_)))))))))))));refine aA zI<|bd<|ak<|yV Z<|yV Z<|yq Z<|aA zI<|bd<|af<|yP Z<|yP Z<|yT<|aZ ?_)
 refine nj (fun _:Unit=>True) (fun _=>[(3,.bx 8 0)]) (fun _=>[(8,.box [.ow 6]),(6,.row 3 (aE (iota n)))]) (fun _ hO t h=>?_) ?_
 ·refine aj<|fB ?_
  refine aM (yq Z (aA zI (bd (ak (cD Z (jW Z Z Z (nX Z) (ak (yT (ai ?_)))))))))
  refine CR (aW.pack (by exact hC) _ 8 (cs:=[.row 3 (aE (iota n))]) (by exact rfl) (by exact rfl) (by exact⟨Z,Y⟩)) ?_
  refine bP<|bQ zi ?_
  exact And.intro rfl (And.intro rfl trivial)
 refine aI (fun i:Nat=>i<=n) (fun i=>[(3,.bx 8 0),(13,.p (i64 n)),(14,.p (i64 i))]) (fun i=>[(8,.box [.ow 6]),(6,.row 3 (aE (pV n i)))]) (fun i=>n - i) 0 _ (aW.refl _ _) (Nat.zero_le _) ⟨rfl,congrArg (fun m:Nat=>AV.p (i64 m)) List.length_replicate,Z,Y⟩ ⟨rfl,by rw[xH];rfl,trivial⟩ fun i hi t h=>?_
 have lv:=cg (pV n i)
 have lu:=vp n i
 (refine yS<|yP Z<|yT<|au<|az Z ?_;refine aa (fun h1=>?_) (fun h1=>?_) <;> try simp only[zB] at h1)
 ·((refine aJ<|aj<|au<|aZ<|yS<|yP Z<|yA Z<|yT<|aM<|yq Z<|aA zI<|bd<|ak<|yV Z ?_;refine yV Z<|yV Z<|yP Z<|yP Z<|yq Z<|bg zI ?_);refine And.intro ⟨by omega,by rw[lv];omega⟩ ?_)
  (refine bd<|bJ<|yq Z<|aK zI ?_;refine⟨[i64 0],(cY (Bt (by omega))),?_⟩)
  (refine bd<|aF<|an<|cL<|bp<|aj<|aM<|yq Z<|bg zI ?_;refine sI ?_)
  (refine yk<|yP Z<|yT<|ai ?_;refine⟨(i+1),_,aW.refl _ _,?_⟩)
  exact⟨by omega,by omega,⟨Z,Z,Z,Y⟩,⟨rfl,congrArg (AB.row _) ((eO _ _ _).trans (by rw[Int.toNat_natCast,Bv (by omega)])),trivial⟩⟩
 refine bT<|aY<|aY<|bU<|aj<|ai<|zX zi ?_
 have e:i=n:=by omega
 subst e
 exact⟨(),trivial,⟨Z,Y⟩,⟨rfl,congrArg (AB.row _) (congrArg aE (Bu i)),trivial⟩⟩
theorem Eu (k:IntKind) (a b:Int):v8 (.int k a) (.int k b)=decide (a=b):=rfl
theorem J9 {q:IntKind} {k:Int} {k':Value} (h:v8 (.int q k) k'=true):∃q',k'=.int q' k:=by
 cases k' <;> simp_all [v8]
theorem WW (v:PV) (q:IntKind) (k n:Int):∀es:List (Value×PV),gR (jw es (.int q k) v) (.int q n)=if n=k then some v else gR es (.int q n)
 | []=>by
  simp only[jw,gR,Eu]
  by_cases h:n=k <;> simp[h]
 | (k',u)::r=>by
  simp only[jw]
  cases h:v8 (.int q k) k'
  ·simp only[gR,WW v q k n r]
   by_cases e:n=k
   ·subst e;simp[h]
   simp[e]
  obtain⟨q',e⟩:=J9 h
  subst e
  simp only[gR,Eu]
  by_cases e:n=k
  ·simp[e]
  rw[show v8 (Value.int q n) (Value.int q' k)=decide (n=k) from rfl];simp[e]
theorem Dp (u:List Int) (hu:UF u) (i r:Nat) (hr:fg u i r):aD C 144 [.bb [.row 3 (aE u)],.pv (i64 i)] (.p (i64 r)) [.bb [.row 3 (aE (Reg.cO i u i).1)]]:=by
 have h:=Xw u hu i hr.lt
 rw[(Reg.fY i u i hu hr.lt (Nat.le_refl _)).root.uniq hr] at h
 exact h
def hl (l:List Nat):List HX:=[.row 3 (aE (l.map fun (m:Nat)=>(m:Int)))]
def pl (l:List Nat):List PV:=[.sl (aE (l.map fun (m:Nat)=>(m:Int)))]
def l8 (u:List Int):Nat->List Int
 | 0=>u
 | i+1=>(Reg.cO i (l8 u i) i).1
structure J_ (u:List Int) (i:Nat) (es:List (Value×PV)):Prop where
 le:i<=u.length
 key:∀(k r:Nat),(Reg.cZ (Reg.dR u) i)[k]?=some r->gR es (.int .i64 r)=some (i64 k)
theorem vq {u:List Int} (hu:UF u):∀i,i<=u.length->UF (l8 u i)/\(l8 u i).length=u.length/\∀m r,fg (l8 u i) m r↔fg u m r
 | 0,_=>⟨hu,rfl,fun _ _=>Iff.rfl⟩
 | i+1,h=>by
  obtain⟨a,b,c⟩:=vq hu i (by omega)
  have t:=Reg.fY i (l8 u i) i a (by omega) (Nat.le_refl _)
  exact⟨t.uf,t.len.trans b,fun m r=>(t.same m r).trans (c m r)⟩
theorem xI (ls:List (List Nat)):tP (ls.map hl):=fun r hr x hx=>by
 obtain⟨l,_,rfl⟩:=List.mem_map.1 hr
 simp only[hl,List.mem_cons,List.not_mem_nil,or_false] at hx
 subst hx
 trivial
theorem vt (f:AV->AV) (ls:List (List Nat)):(ls.map hl).map (fun r=>r.map (HX.dm f))=ls.map hl:=by
 rw[List.map_map];rfl
theorem sj (l:List Nat) (y:HX):(hl l).set 0 y=[y]:=rfl
theorem jo (f:AV->AV) (ls:List (List Nat)) (k d:Nat) (h:f (.ow d)=.ow d):((ls.map hl).set k [.av (.ow d)]).map (fun r=>r.map (HX.dm f))=(ls.map hl).set k [.av (.ow d)]:=by
 rw[List.map_set,vt]
 simp only[List.map_cons,List.map_nil,HX.dm,h]
theorem MH (f:AV->AV) (ls:List (List Nat)) (x:List (List HX)):(ls.map hl++x).map (fun r=>r.map (HX.dm f))=ls.map hl++x.map (fun r=>r.map (HX.dm f)):=by
 rw[List.map_append,vt]
theorem sn (ls:List (List Nat)) (k d:Nat) (hk:k < ls.length):((ls.map hl).set k [.av (.ow d)])[k]?=some [.av (.ow d)]:=List.getElem?_set_self (by rw[List.length_map];exact hk)
theorem qX {α:Type} (l:List α) (x y:α) (n:Nat) (h:n=l.length):(l++[x]).set n y=l++[y]:=by subst h;simp
theorem OY (ls:List (List Nat)):IV (ls.map hl) (ls.map pl):=IV.map fun l _=>⟨rfl,fun j u v hu hv=>by
 match j with
 | 0=>
  simp only[hl,pl,List.getElem?_cons_zero,Option.some.injEq] at hu hv
  subst hu
  subst hv
  exact .row _ _
 | j+1=>simp[hl] at hu⟩
theorem Dq (u:List Int) (hu:UF u) (hn:u.length<=1000000000):aD C 123 [.bb [.row 3 (aE u)]] (.own 44 ((Reg.ba (Reg.dR u) u.length).map pl)) [.bb [.row 3 (aE (l8 u u.length))]]:=by
 refine qy hC Tryz.func123 rfl rfl 45 rfl (by decide) (by kernel_rfl) fun _ _ _ _ _=>⟨_,aW.open hC _ 100000 [90000] (by exact rfl) rfl rfl rfl,?_⟩
 obtain⟨p,hp⟩:∃p,p=Reg.dR u:=⟨_,rfl⟩
 have hT:Reg.FM p u.length:=hp ▸ Reg.tV hu
 rw[<-hp]
 (refine yS (yB Z (yU (yB Z (yU (yn Z (aA zI (aS (af (cD Z (jW Z Z Z (Eb Z) (af (yT (au ?_)))))))))))));refine yS<|yq Z<|aA zI<|bd<|ak<|yV Z<|yV Z<|yq Z<|aA zI<|bd<|af<|yP Z<|yP Z<|yT ?_;refine aZ ?_)
 refine nj (fun _:Unit=>True) (fun _=>[(0,.bx 100000 0),(3,.ow 3)]) (fun _=>[(100000,.bb [.row 3 (aE (l8 u u.length))]),(3,.aL 44 ((Reg.ba p u.length).map hl))]) (fun _ hO t h=>?_) ?_
 ·refine aj<|fB ?_
  refine aM<|yq Z<|aA zI<|bd<|af<|cD Z<|cr Z Z Z Z Z<|yT<|ai ?_
  refine CR (aW.Hz (by exact hC) _ 2 ((Reg.ba p u.length).map pl) (e:=44) (by exact congrArg (AB.aL _) (vt (rn 3 2) _)) (OY _)) ?_
  refine bP<|bQ zi ?_
  exact And.intro rfl (And.intro rfl (And.intro rfl trivial))
 refine aI (fun x:Nat×List (Value×PV)=>J_ u x.1 x.2) (fun x=>[(0,.bx 100000 0),(3,.ow 3),(4,.ow 7),(12,.p (i64 u.length)),(13,.p (i64 x.1))]) (fun x=>[(100000,.bb [.row 3 (aE (l8 u x.1))]),(3,.aL 44 ((Reg.ba p x.1).map hl)),(7,.map (.int .i64) x.2)]) (fun x=>u.length - x.1) (0,[]) _ ((aW.pack (by exact hC) _ 100000 (cs:=[.row 3 (aE u)]) (by exact rfl) (by exact rfl) (by exact⟨Z,Y⟩)).trans ((aW.fa (by exact hC) _ 3 44 _ (by decide) (by exact rfl) (by exact rfl) (by decide)).trans (aW.Ro (by exact hC) _ 3 (e:=44) (es:=[]) (by exact rfl)))) ⟨Nat.zero_le _,fun k r h=>by simp[Reg.cZ] at h⟩ ⟨rfl,rfl,rfl,congrArg (fun m:Nat=>AV.p (i64 m)) (cg u),Z,Y⟩ ⟨Z,Z,Z,Y⟩ fun ⟨i,es⟩ hx t h=>?_
 obtain⟨h1,h2⟩:=hx
 simp only at h1 h2
 rw[<-hp] at h2
 obtain⟨vu,vl,vr⟩:=vq hu i h1
 (refine yS<|yP Z<|yT<|au<|az Z ?_;refine aa (fun g=>?_) (fun g=>?_) <;> try simp only[zB] at g)
 ·have hr:fg (l8 u i) i (p i):=(vr _ _).2 (by rw[hp];exact Reg.ku hu (by omega))
  ((refine aJ<|aj<|au<|aZ<|yS<|yP Z<|yA Z<|yU<|yq Z<|aA zI<|bd<|ak<|yP Z<|yn Z ?_;refine aK zI ?_);refine⟨_,_,(Dp _ vu i (p i) hr),?_⟩)
  refine b9 Z Z<|aF<|ae<|yA Z<|yT ?_
  refine fB ?_
  (refine yS<|yP Z<|yP Z<|yP Z<|yT<|az Z ?_;refine aa (fun g2=>?_) (fun g2=>?_) <;> try simp only[zB] at g2)
  ·have e:p i=i:=by omega
   have nx:=Reg.Bq hT (show i < u.length by omega) e
   have kl:(Reg.cZ p i).length<=i:=Reg.om p i
   have sl:(Reg.ba p i).length=(Reg.cZ p i).length:=Reg.l6 p i
   ((refine yS<|yq Z<|aA zI<|bd<|af<|yP Z<|yq Z<|aA zI<|bd<|af<|yP Z<|yq Z<|aA zI<|bd ?_;refine aF<|an<|yT<|aM<|yq Z<|aA zI<|bd<|af<|yn Z<|aA zI<|aS<|af<|yn Z<|bg zI ?_);refine And.intro ⟨fun r hr=>by simp at hr;subst hr;rfl,by simp only[List.length_map,List.length_set,List.length_replicate];omega,by simp only[List.length_map,List.length_set,List.length_replicate];omega⟩ ?_)
   refine aS<|aF<|af<|cD Z<|cr Z Z Z Z Z<|yT<|ai ?_
   refine CR ((aW.Mr (by exact hC) _ 3 (Reg.ba p i).length 0 (e:=44) (e':=3) (es:=(Reg.ba p i).map hl++[[.av .nl]]) (r:=[.av .nl]) (by exact congrArg (AB.aL _) (by simp only[vt,MH];rfl)) (by rw[List.getElem?_append_right (by simp)];simp) (by exact rfl) (by exact rfl) (by decide)).trans (aW.oK (by exact hC) _ 3 (Reg.ba p i).length 0 90001 (e:=44) (es:=(Reg.ba p i++[[]]).map hl) (e':=3) (r:=hl []) (xs:=[]) (by decide) (by decide) (by exact congrArg (AB.aL _) (by rw[List.map_append];refine (qX _ _ _ _ (List.length_map _).symm).trans ?_;rfl)) (xI _) (by rw[List.map_append,List.getElem?_append_right (by simp)];simp) (by exact rfl))) ?_
   have Tp:∀v,gR (jw es (.int .i64 i) v) (.int .i64 (p i))=some v:=fun v=>by rw[WW,if_pos (by rw[e])]
   ((refine cH [3,1000003,7] true [true,true,true,false,true,true,true,true,true,true,true,true,false,true,true] rfl (by kernel_rfl) (ay Z (ay Z (ay Z (ay Z (ay Z (ay Z (ay Z (ay Z (ay Z (ay Z (ay Z (cA Z Z (cA Z Z ?_)))))))))))));refine cG Z<|dq Z<|aA zI<|bB<|af<|dq Z<|aA zI<|bB<|af<|yD Z<|dq Z<|aK zI ?_);refine⟨(some _),(Tp _),?_⟩)
   (refine bB<|ae<|dq Z<|aA zI<|bB<|af<|dq Z<|aA zI<|bB<|af<|yD Z<|dq Z<|aK zI ?_;refine⟨(some _),(Tp _),?_⟩)
   have e0:(List.map (fun r=>List.map (HX.dm (sc 18)) r) (List.map hl (Reg.ba p i))).length=(Reg.ba p i).length:=by simp
   (refine bB<|ae<|dq Z<|bg zI ?_;refine And.intro ⟨by dsimp only;omega,by simp⟩ ?_)
   (refine bB<|bJ<|dq Z<|aK zI ?_;refine⟨[.av (.ow 90001)],(by rw[sj,jo,jo];rw[e0];exact sn (Reg.ba p i++[[]]) (Reg.ba p i).length 90001 (by simp);rfl;rfl),?_⟩)
   (refine bB<|af<|yD Z<|dq Z<|aA zI<|jA Z Z<|af<|dq Z<|bg zI ?_;refine And.intro ⟨fun r hr=>by simp at hr;subst hr;rfl,by simp,by simp⟩ ?_)
   (refine hD Z Z Z<|fM<|g_<|af<|dq Z<|bg zI ?_;refine And.intro ⟨by dsimp only;omega,by simp⟩ ?_)
   (refine bB<|bJ<|dq Z<|aK zI ?_;refine⟨[.av (.ow 90001)],(by rw[sj,jo,jo];rw[e0];exact sn (Reg.ba p i++[[]]) (Reg.ba p i).length 90001 (by simp);rfl;rfl),?_⟩)
   (refine iG Z<|aF<|an<|cn<|bz Z<|bp<|aj<|aM<|yq Z<|bg zI ?_;refine sI ?_)
   refine yk<|yP Z<|yT<|ai ?_
   refine⟨(i+1,jw es (.int .i64 i) (i64 (Reg.ba p i).length)),_,aW.Au (by exact hC) _ 3 (Reg.ba p i).length 0 41 (e:=44) (es:=((Reg.ba p i++[[]]).map hl).set (Reg.ba p i).length [.av (.ow 41)]) (e':=3) (xs:=aE [(i:Int)]) (by decide) (by exact congrArg (AB.aL _) (by rw[sj,jo,jo,e0];exact List.set_set _;rfl;rfl)) (by exact rfl) (sn _ _ _ (by simp)) (by exact rfl),?_⟩
   refine And.intro ⟨by omega,fun k r hk=>?_⟩ ⟨by omega,⟨Z,Z,Z,Z,Z,Y⟩,⟨rfl,?_,congrArg (AB.map _) ?_,trivial⟩⟩
   ·rw[<-hp,Reg.gP,if_pos e] at hk
    rw[WW]
    by_cases GB:k < (Reg.cZ p i).length
    ·rw[List.getElem?_append_left GB] at hk
     have:=(Reg.mem_keys.1 (List.mem_of_getElem? hk)).1
     rw[if_neg (by omega)]
     exact h2 k r hk
    rw[List.getElem?_append_right (by omega)] at hk
    have DW:k=(Reg.cZ p i).length:=by
     have:=(List.getElem?_eq_some_iff.1 hk).1
     simp at this
     omega
    subst DW
    simp only[Nat.sub_self,List.getElem?_cons_zero,Option.some.injEq] at hk
    subst hk
    rw[if_pos rfl,sl]
   ·refine congrArg (AB.aL _) ?_
    show ((List.map hl (Reg.ba p i++[[]])).set _ _).set _ _=List.map hl (Reg.ba p (i+1))
    rw[List.set_set,nx,List.map_append,List.map_append]
    exact qX _ _ _ _ (List.length_map _).symm
   dsimp only
   rw[e0];rfl
  have e:p i≠i:=by omega
  obtain⟨k,hk⟩:=Reg.Iw hT (show i < u.length by omega) e
  obtain⟨nx,Nq⟩:=Reg.Bs e hk
  have km:=h2 k (p i) hk
  have MI:((Reg.ba p i).map hl)[k]?=some (hl (Reg.fR p i (p i))):=by rw[List.getElem?_map,Nq];rfl
  refine aJ<|aj<|ai ?_
  refine CR (aW.oK (by exact hC) _ 3 k 0 90001 (e:=44) (by decide) (by decide) (by exact congrArg (AB.aL _) (by simp only[vt])) (xI _) MI (by exact rfl)) ?_
  ((refine cH [3,1000003,7] true [true,true,true,false,true,true,true,true,true,true,true,true,false,true,true] rfl (by kernel_rfl) (ay Z (ay Z (ay Z (ay Z (ay Z (ay Z (ay Z (ay Z (ay Z (ay Z (ay Z (cA Z Z (cA Z Z ?_)))))))))))));refine cG Z<|dq Z<|aA zI<|bB<|af<|dq Z<|aA zI<|bB<|af<|yD Z<|dq Z<|aK zI ?_);refine⟨(some (i64 k)),km,?_⟩)
  (refine bB<|ae<|dq Z<|aA zI<|bB<|af<|dq Z<|aA zI<|bB<|af<|yD Z<|dq Z<|aK zI ?_;refine⟨(some (i64 k)),km,?_⟩)
  have kl:=(List.getElem?_eq_some_iff.1 hk).1
  have sl:(Reg.ba p i).length=(Reg.cZ p i).length:=Reg.l6 p i
  (refine bB<|ae<|dq Z<|bg zI ?_;refine And.intro ⟨by omega,by simp only[List.length_map,List.length_set];omega⟩ ?_)
  (refine bB<|bJ<|dq Z<|aK zI ?_;refine⟨[.av (.ow 90001)],(by rw[sj,jo,jo];exact sn (Reg.ba p i) k 90001 (by omega);rfl;rfl),?_⟩)
  have ml:=Reg.l7 p i (p i)
  (refine bB<|af<|yD Z<|dq Z<|aA zI<|jA Z Z<|af<|dq Z<|bg zI ?_;refine And.intro ⟨fun r hr=>by simp at hr;subst hr;rfl,by simp only[cg,List.length_map,List.length_set,List.length_replicate];omega,by simp only[cg,List.length_map,List.length_set,List.length_replicate];omega⟩ ?_)
  (refine hD Z Z Z<|fM<|g_<|af<|dq Z<|bg zI ?_;refine And.intro ⟨by omega,by simp only[List.length_map,List.length_set];omega⟩ ?_)
  (refine bB<|bJ<|dq Z<|aK zI ?_;refine⟨[.av (.ow 90001)],(by rw[sj,jo,jo];exact sn (Reg.ba p i) k 90001 (by omega);rfl;rfl),?_⟩)
  (refine iG Z<|aF<|an<|cn<|bz Z<|bp<|aj<|aM<|yq Z<|bg zI ?_;refine sI ?_)
  refine yk<|yP Z<|yT<|ai ?_
  refine⟨(i+1,es),_,aW.Au (by exact hC) _ 3 k 0 41 (e:=44) (es:=((Reg.ba p i).map hl).set k [.av (.ow 41)]) (e':=3) (xs:=aE ((Reg.fR p i (p i)++[i]).map fun (m:Nat)=>(m:Int))) (by decide) (by exact congrArg (AB.aL _) (by rw[sj,jo,jo];exact List.set_set _;rfl;rfl)) (by exact congrArg (AB.row _) (by simp[aE];rfl)) (sn _ _ _ (by omega)) (by exact rfl),?_⟩
  refine And.intro ⟨by omega,fun k' r tI=>?_⟩ ⟨by omega,⟨Z,Z,Z,Z,Z,Y⟩,⟨rfl,?_,Z,Y⟩⟩
  ·rw[<-hp,Reg.gP,if_neg e] at tI
   exact h2 k' r tI
  refine congrArg (AB.aL _) ?_
  show ((List.map hl (Reg.ba p i)).set _ _).set _ _=List.map hl (Reg.ba p (i+1))
  rw[List.set_set,nx,List.map_set]
  rfl
 refine bT<|aY<|aY<|bU<|aj<|ai<|zX zi ?_
 have e:i=u.length:=by omega
 subst e
 exact⟨(),trivial,⟨Z,Z,Y⟩,⟨Z,Z,Y⟩⟩
end M
namespace Reg
def P4 (K:Int) (r:aB):Prop:=(-K<=r.x0/\r.x0<=K)/\(-K<=r.y0/\r.y0<=K)/\(-K<=r.x1/\r.x1<=K)/\(-K<=r.y1/\r.y1<=K)
theorem Lj {K:Int} {r:aB} (h:Full r) (k:RK K r):P4 K r:=by
 obtain⟨h1,h2⟩:=h
 obtain⟨k1,k2,k3,k4⟩:=k
 exact⟨⟨by omega,by omega⟩,⟨by omega,by omega⟩,⟨by omega,by omega⟩,⟨by omega,by omega⟩⟩
theorem Xx {K:Int} {a b:aB} (ha:P4 K a) (hb:P4 K b):0<=B0 a b/\B0 a b<=2*K+1:=by
 obtain⟨a1,a2,a3,a4⟩:=ha
 obtain⟨b1,b2,b3,b4⟩:=hb
 simp only[B0,oQ]
 omega
theorem Yy {K:Int} {a b:aB} {n:Int} (h0:0<=n) (ha:P4 K a) (hb:P4 K b):(-K<=(Wz a b n).1/\(Wz a b n).1<=K)/\(-K<=(Wz a b n).2/\(Wz a b n).2<=K):=by
 obtain⟨a1,a2,a3,a4⟩:=ha
 obtain⟨b1,b2,b3,b4⟩:=hb
 simp only[Wz]
 omega
def Wp (f:Int) (l:List Int):Int:=l.foldl (fun f n=>if f < 0\/n < f then n else f) f
theorem XN (f n:Int) (l:List Int):Wp f (n::l)=Wp (if f < 0\/n < f then n else f) l:=rfl
theorem X7 (f:Int) (l m:List Int):Wp f (l++m)=Wp (Wp f l) m:=by simp[Wp,List.foldl_append]
theorem XC:∀(l:List Int) (f:Int),(∀n∈l,0<=n)->(∀n∈l,Wp f l<=n)/\(Wp f l=f\/Wp f l∈l)/\(0<=f->Wp f l<=f)/\(l≠[]->Wp f l∈l\/(0<=f/\Wp f l=f))
 | [],f,_=>⟨fun n h=>(by cases h),.inl rfl,fun _=>Int.le_refl _,fun h=>absurd rfl h⟩
 | m::l,f,h=>by
  have h0:=h m List.mem_cons_self
  obtain⟨i1,i2,i3,i4⟩:=XC l (if f < 0\/m < f then m else f) fun n hn=>h n (List.mem_cons_of_mem _ hn)
  rw[XN]
  by_cases c:f < 0\/m < f
  ·rw[if_pos c] at i1 i2 i3 i4 ⊢
   refine⟨fun n hn=>?_,?_,fun hf=>?_,fun _=>?_⟩
   ·rcases List.mem_cons.1 hn with rfl | hn
    ·exact i3 h0
    exact i1 n hn
   ·rcases i2 with e | e
    ·exact .inr (by rw[e];exact List.mem_cons_self)
    exact .inr (List.mem_cons_of_mem _ e)
   ·have:=i3 h0
    omega
   rcases i2 with e | e
   ·exact .inl (by rw[e];exact List.mem_cons_self)
   exact .inl (List.mem_cons_of_mem _ e)
  rw[if_neg c] at i1 i2 i3 i4 ⊢
  refine⟨fun n hn=>?_,?_,fun hf=>i3 hf,fun _=>?_⟩
  ·rcases List.mem_cons.1 hn with rfl | hn
   ·have:=i3 (by omega)
    omega
   exact i1 n hn
  ·rcases i2 with e | e
   ·exact .inl e
   exact .inr (List.mem_cons_of_mem _ e)
  rcases i2 with e | e
  ·exact .inr ⟨by omega,e⟩
  exact .inl (List.mem_cons_of_mem _ e)
def Xf (a b:List aB):List Int:=a.flatMap fun x=>b.map (B0 x)
def Xl (a b:List aB):Int:=Wp (-1) (Xf a b)
def Wn (n:Int) (s:Bool×Int×Int) (l:List (Int×Int×Int)):Bool×Int×Int:=l.foldl (fun s q=>if q.1=n/\(s.1=false\/W1 q.2 s.2=true) then (true,q.2) else s) s
theorem XO (n:Int) (s:Bool×Int×Int) (q:Int×Int×Int) (l:List (Int×Int×Int)):Wn n s (q::l)=Wn n (if q.1=n/\(s.1=false\/W1 q.2 s.2=true) then (true,q.2) else s) l:=rfl
theorem X8 (n:Int) (s:Bool×Int×Int) (l m:List (Int×Int×Int)):Wn n s (l++m)=Wn n (Wn n s l) m:=by simp[Wn,List.foldl_append]
def Yd (n:Int) (x y:aB):Int×Int×Int:=(B0 x y,Wz x y n)
def Xy (a b:List aB) (n:Int):Int×Int:=(Wn n (false,0,0) (a.flatMap fun x=>b.map (Yd n x))).2
def WG (p:Int×Int):aB:=⟨p.1,p.2,p.1+1,p.2+1⟩
def YQ (b:List aB) (p:Int×Int) (n:Int):Int×Int:=(Wn n (false,0,0) (b.map fun y=>Yd n y (WG p))).2
structure YJ where
 a:Int
 b:Int
 dist:Int
 src:Int×Int
 dst:Int×Int
def l5 (a b:List aB):YJ:=⟨0,0,Xl a b - 1,Xy a b (Xl a b),YQ b (Xy a b (Xl a b)) (Xl a b)⟩
def Y4 (K:Int) (p:Int×Int):Prop:=(-K<=p.1/\p.1<=K)/\(-K<=p.2/\p.2<=K)
theorem X3 {K:Int} (h0:0<=K) {a b:List aB} (ha:∀r∈a,P4 K r) (hb:∀r∈b,P4 K r):(∀x∈a,∀y∈b,Xl a b<=B0 x y)/\-1<=Xl a b/\Xl a b<=2*K+1/\(a≠[]->b≠[]->∃x∈a,∃y∈b,Xl a b=B0 x y):=by
 have hm:∀n,n∈Xf a b↔∃x∈a,∃y∈b,B0 x y=n:=fun n=>by simp[Xf]
 have hn:∀n∈Xf a b,0<=n/\n<=2*K+1:=fun n h=>by
  obtain⟨x,hx,y,hy,rfl⟩:=(hm n).1 h
  exact Xx (ha x hx) (hb y hy)
 obtain⟨f1,f2,f3,f4⟩:=XC (Xf a b) (-1) fun n h=>(hn n h).1
 refine⟨fun x hx y hy=>f1 _ ((hm _).2 ⟨x,hx,y,hy,rfl⟩),?_,?_,fun h1 h2=>?_⟩
 ·rcases f2 with e | e
  ·rw[Xl,e];omega
  have:=(hn _ e).1;rw[Xl];omega
 ·rcases f2 with e | e
  ·rw[Xl,e];omega
  have:=(hn _ e).2;rw[Xl];omega
 obtain⟨x,hx⟩:=List.exists_mem_of_ne_nil _ h1
 obtain⟨y,hy⟩:=List.exists_mem_of_ne_nil _ h2
 rcases f4 (List.ne_nil_of_mem ((hm _).2 ⟨x,hx,y,hy,rfl⟩)) with e | ⟨e,_⟩
 ·obtain⟨x',Zb,y',lC,e'⟩:=(hm _).1 e
  exact⟨x',Zb,y',lC,e'.symm⟩
 omega
end Reg
namespace M
open Go.AM Go.RowKit Go.Lib
open Reg (aB P4 B0 oQ Wz W1 Wp Xf Xl Wn Yd Xy YQ WG l5 YJ Y4)
def pt (p:Int×Int):List PV:=[i64 p.1,i64 p.2]
def gc (g:YJ):List PV:=[i64 g.a,i64 g.b,i64 g.dist,i64 g.src.1,i64 g.src.2,i64 g.dst.1,i64 g.dst.2]
theorem FP (a b:aB) (ha:P4 1000000000 a) (hb:P4 1000000000 b):aD C 69 [.pv (.ag (rc a)),.pv (.ag (rc b))] (.p (i64 (B0 a b))) []:=by
 obtain⟨a1,a2,a3,a4⟩:=ha
 obtain⟨b1,b2,b3,b4⟩:=hb
 refine aT hC Tryz.func69 rfl rfl 24 rfl (by decide) (by kernel_rfl) fun _ _ _ _ _=>?_
 ((refine yS<|yn Z<|aA zI<|aS<|ak<|yn Z<|aA zI<|aS<|ak<|yA Z<|yT<|au<|cH [] false HG rfl (by kernel_rfl)<|ay Z ?_;refine ay Z<|ay Z<|ay Z<|ay Z<|ay Z<|ay Z<|ay Z<|cA Z Z<|ay Z<|ay Z<|ay Z<|ay Z<|ay Z<|ay Z ?_;refine ay Z<|ay Z<|cA Z Z<|cG Z<|yW Z<|yD Z<|yW Z<|yD Z<|yW Z<|yD Z<|yW Z<|yD Z<|dq Z<|aK zI ?_);refine⟨_,_,(po a.x0 a.x1 b.x0 b.x1 (by omega)),?_⟩)
 (refine bB<|ae<|yW Z<|yD Z<|yW Z<|yD Z<|yW Z<|yD Z<|yW Z<|yD Z<|dq Z<|aK zI ?_;refine⟨_,_,(po a.y0 a.y1 b.y0 b.y1 (by omega)),?_⟩)
 ((refine bB<|ae<|yD Z<|yD Z<|cn<|aq Z<|aq Z<|aq Z<|aq Z<|aq Z<|aq Z<|aq Z<|aq Z<|aq Z ?_;refine aq Z<|aq Z<|aq Z<|aq Z<|aq Z<|aq Z<|aq Z<|aq Z<|aq Z<|aq Z<|dW Z Z<|bz Z<|aj<|bP ?_;refine bQ zi ?_);refine And.intro ?_ trivial)
 rfl
theorem XP (a b:aB) (n:Int) (ha:P4 1000000000 a) (hb:P4 1000000000 b) (hn:-1<=n/\n<=10000000000):aD C 96 [.pv (.ag (rc a)),.pv (.ag (rc b)),.pv (i64 n)] (.p (.ag (pt (Wz a b n)))) []:=by
 obtain⟨a1,a2,a3,a4⟩:=ha
 obtain⟨b1,b2,b3,b4⟩:=hb
 refine aT hC Tryz.func96 rfl rfl 22 rfl (by decide) (by kernel_rfl) fun _ _ _ _ _=>?_
 ((refine yS<|yn Z<|aA zI<|aS<|ak<|yn Z<|aA zI<|aS<|ak<|yn Z<|aA zI<|aS<|ak<|yU ?_;refine yV Z<|yP Z<|yV Z<|yP Z<|yP Z<|yq Z<|bg zI ?_);refine sI ?_)
 (refine yk<|yP Z<|yV Z<|yP Z<|yV Z<|yP Z<|yP Z<|yq Z<|bg zI ?_;refine sI ?_)
 (refine yk<|yP Z<|yP Z<|yq Z<|aA zI<|bd<|aF<|an<|yR zi ?_;refine And.intro ?_ trivial)
 rfl
theorem XQ (p q:Int×Int):aD C 97 [.pv (.ag (pt p)),.pv (.ag (pt q))] (.p (bool (W1 p q))) []:=by
 refine aT hC Tryz.func97 rfl rfl 24 rfl (by decide) (by kernel_rfl) fun _ _ _ _ _=>?_
 ((refine yS<|yn Z<|aA zI<|aS<|ak<|yn Z<|aA zI<|aS<|ak<|yA Z<|yU<|yV Z<|yP Z<|yV Z ?_;refine yP Z<|yP Z<|yP Z<|yg Z ?_);refine aa (fun g1=>?_) (fun g1=>?_) <;> try simp only[zB] at g1)
 ·((refine cB<|ae<|y0 Z<|y0 Z<|y0 Z<|y0 Z<|y0 Z<|a8 Z Z Z Z<|ae<|a8 Z Z Z Z<|ae<|a8 Z Z Z Z<|ae<|a8 Z Z Z Z ?_;refine ae<|a8 Z Z Z Z<|ae<|y0 Z<|yP Z<|yA Z<|yR zi ?_);refine And.intro ?_ trivial)
  simp only[W1];simp[g1];rfl
 ((refine bS<|bA Z Z<|aA zI<|bd<|ak<|y1 Z<|y2 Z<|bA Z Z<|aA zI<|bd<|ak<|y1 Z<|y1 Z<|y1 Z ?_;refine yg Z ?_);refine aa (fun g2=>?_) (fun g2=>?_) <;> try simp only[zB] at g2)
 ·((refine bS<|bA Z Z<|aA zI<|bd<|ak<|y1 Z<|y2 Z<|bA Z Z<|aA zI<|bd<|ak<|y1 Z<|y1 Z<|y1 Z ?_;refine yP Z<|yA Z<|yR zi ?_);refine And.intro ?_ trivial)
  simp only[W1];simp[g2];rfl
 (refine cB<|ae<|y0 Z<|y0 Z<|y0 Z<|y0 Z<|y1 Z<|yP Z<|yA Z<|yR zi ?_;refine And.intro ?_ trivial)
 simp only[W1];simp[g1,g2];rfl
theorem drop_at {α:Type} {l:List α} {i:Nat} {x:α} (h:l[i]?=some x):l.drop i=x::l.drop (i+1):=by
 obtain⟨hi,e⟩:=List.getElem?_eq_some_iff.1 h
 rw[List.drop_eq_getElem_cons hi,e]
theorem XD (a b:List aB) (ha:∀r∈a,P4 2000000 r) (hb':∀r∈b,P4 2000000 r) (na:a.length<=1000000000) (nb:b.length<=1000000000):aD C 43 [.pv (aV a),.pv (aV b)] (.p (.ag (gc (l5 a b)))) []:=by
 have up:∀r,P4 2000000 r->P4 1000000000 r:=fun r h=>by
  obtain⟨a1,a2,a3,a4⟩:=h
  exact⟨by omega,by omega,by omega,by omega⟩
 obtain⟨R,hR⟩:∃R,R=Xl a b:=⟨_,rfl⟩
 have Zc:l5 a b=⟨0,0,R - 1,Xy a b R,YQ b (Xy a b R) R⟩:=by rw[hR];rfl
 have Zm:=(Reg.X3 (by omega) ha hb').2
 rw[<-hR] at Zm
 rw[Zc]
 have lm:=aN a rc
 have Zd:=aN b rc
 refine aT hC Tryz.func43 rfl rfl 129 rfl (by decide) (by kernel_rfl) fun _ _ _ _ _=>?_
 (refine yS<|yn Z<|aA zI<|aS<|ak<|yU<|yA Z<|yT<|au<|yS<|yP Z<|yP Z<|yP Z<|yT ?_;refine aZ ?_)
 refine aI (fun x:Nat×Int=>Wp x.2 (Xf (a.drop x.1) b)=R/\-1<=x.2/\x.2<=100000000) (fun x=>[(0,.p (aV a)),(1,.p (aV b)),(4,.bx 4 0),(5,.p (i64 x.2)),(22,.p (aV a)),(23,.p (i64 a.length)),(24,.p (i64 x.1))]) (fun _=>[(4,.box [.p (i64 0),.p (i64 0),.p (i64 0),.p (i64 0),.p (i64 0),.p (i64 0),.p (i64 0)])]) (fun x=>a.length - x.1) (0,-1) _ (aW.refl _ _) ⟨hR.symm,by decide,by decide⟩ ⟨rfl,rfl,rfl,rfl,rfl,congrArg (fun m:Nat=>AV.p (i64 m)) lm,Z,Y⟩ ⟨Z,Y⟩ fun ⟨i,f⟩ hx t h=>?_
 obtain⟨h1,h2,h3⟩:=hx
 simp only at h1 h2 h3
 (refine yS<|yP Z<|yT<|au<|az Z ?_;refine aa (fun g=>?_) (fun g=>?_) <;> try simp only[zB] at g)
 ·obtain⟨x,YY⟩:=bh (l:=a) (i:=i) (by omega)
  have px:=ha x (List.mem_of_getElem? YY)
  rw[drop_at YY] at h1
  have h1:Wp (Wp f (b.map (B0 x))) (Xf (a.drop (i+1)) b)=R:=by rw[<-Reg.X7];exact h1
  (refine aJ<|aj<|au<|aZ<|yS<|yq Z<|aK zI ?_;refine⟨(rc x),(idx rfl YY),?_⟩)
  (refine yk<|yP Z<|yn Z<|aA zI<|aS<|ak<|yq Z<|aA zI<|bd<|aF<|an<|yU<|yP Z<|yP Z ?_;refine yP Z<|yT<|aZ ?_)
  refine aI (fun y:Nat×Int=>Wp y.2 ((b.drop y.1).map (B0 x))=Wp f (b.map (B0 x))/\-1<=y.2/\y.2<=100000000) (fun y=>[(0,.p (aV a)),(1,.p (aV b)),(4,.bx 4 0),(5,.p (i64 y.2)),(22,.p (aV a)),(23,.p (i64 a.length)),(24,.p (i64 i)),(7,.bx 7 0),(28,.p (aV b)),(29,.p (i64 b.length)),(30,.p (i64 y.1))]) (fun _=>[(4,.box [.p (i64 0),.p (i64 0),.p (i64 0),.p (i64 0),.p (i64 0),.p (i64 0),.p (i64 0)]),(7,.box [.p (i64 x.x0),.p (i64 x.y0),.p (i64 x.x1),.p (i64 x.y1)])]) (fun y=>b.length - y.1) (0,f) _ (aW.refl _ _) ⟨rfl,h2,h3⟩ ⟨rfl,rfl,rfl,rfl,rfl,rfl,rfl,rfl,rfl,congrArg (fun m:Nat=>AV.p (i64 m)) Zd,Z,Y⟩ ⟨Z,Z,Y⟩ fun ⟨j,f'⟩ hy t h=>?_
  obtain⟨k1,k2,k3⟩:=hy
  simp only at k1 k2 k3
  (refine yS<|yP Z<|yT<|au<|az Z ?_;refine aa (fun g2=>?_) (fun g2=>?_) <;> try simp only[zB] at g2)
  ·obtain⟨y,YZ⟩:=bh (l:=b) (i:=j) (by omega)
   have py:=hb' y (List.mem_of_getElem? YZ)
   rw[drop_at YZ,List.map_cons,Reg.XN] at k1
   have fl:=Reg.Xx px py
   (refine aJ<|aj<|au<|aZ<|yS<|yq Z<|aK zI ?_;refine⟨(rc y),(idx rfl YZ),?_⟩)
   ((refine yk<|yP Z<|yn Z<|aA zI<|aS<|ak<|yq Z<|aA zI<|bd<|aF<|an<|yU<|yP Z<|yP Z ?_;refine yn Z<|aK zI ?_);refine⟨_,_,(FP x y (up x px) (up y py)),?_⟩)
   have nx:∀c:Prop,∀d:Decidable c,(c↔f' < 0\/B0 x y < f')->Wp (if c then B0 x y else f') ((b.drop (j+1)).map (B0 x))=Wp f (b.map (B0 x)):=fun c d hc=>by
    rw[<-k1]
    congr 1
    by_cases h:c
    ·rw[if_pos h,if_pos (hc.1 h)]
    rw[if_neg h,if_neg fun e=>h (hc.2 e)]
   (refine b9 Z Z<|ae<|yA Z<|yU<|yP Z<|yP Z<|yP Z<|yg Z ?_;refine aa (fun g3=>?_) (fun g3=>?_) <;> try simp only[zB] at g3)
   ·have nx:=nx True inferInstance ⟨fun _=>.inl g3,fun _=>trivial⟩
    rw[if_pos trivial] at nx
    ((refine cB<|ae<|y0 Z<|y0 Z<|yP Z<|yT<|az Z<|fy<|aM<|yP Z<|yA Z<|cL<|bp<|aj ?_;refine aM<|yq Z<|bg zI ?_);refine sI ?_)
    (refine yk<|yP Z<|yT<|ai ?_;refine⟨(j+1,B0 x y),_,aW.refl _ _,?_⟩)
    exact⟨⟨nx,by omega,by omega⟩,by omega,⟨Z,Z,Z,Z,Z,Z,Z,Z,Z,Z,Z,Y⟩,⟨Z,Z,Y⟩⟩
   (refine bS<|bA Z Z<|aA zI<|yk<|y1 Z<|y1 Z<|yP Z<|yT<|az Z ?_;refine aa (fun g4=>?_) (fun g4=>?_) <;> try simp only[zB] at g4)
   ·have nx:=nx True inferInstance ⟨fun _=>.inr g4,fun _=>trivial⟩
    rw[if_pos trivial] at nx
    (refine aM<|yP Z<|yA Z<|cL<|bp<|aj<|aM<|yq Z<|bg zI ?_;refine sI ?_)
    (refine yk<|yP Z<|yT<|ai ?_;refine⟨(j+1,B0 x y),_,aW.refl _ _,?_⟩)
    exact⟨⟨nx,by omega,by omega⟩,by omega,⟨Z,Z,Z,Z,Z,Z,Z,Z,Z,Z,Z,Y⟩,⟨Z,Z,Y⟩⟩
   have nx:=nx False inferInstance ⟨fun h=>h.elim,fun h=>by omega⟩
   rw[if_neg (fun h=>h)] at nx
   (refine aJ<|bp<|aj<|aM<|yq Z<|bg zI ?_;refine sI ?_)
   (refine yk<|yP Z<|yT<|ai ?_;refine⟨(j+1,f'),_,aW.refl _ _,?_⟩)
   exact⟨⟨nx,by omega,by omega⟩,by omega,⟨Z,Z,Z,Z,Z,Z,Z,Z,Z,Z,Z,Y⟩,⟨Z,Z,Y⟩⟩
  have e:b.length<=j:=by omega
  rw[List.drop_of_length_le e] at k1
  have k1:f'=Wp f (b.map (B0 x)):=k1
  subst k1
  (refine bT<|aY<|aY<|bU<|bp<|aj<|aM<|yq Z<|bg zI ?_;refine sI ?_)
  (refine yk<|yP Z<|yT<|ai ?_;refine⟨(i+1,Wp f (b.map (B0 x))),_,aW.refl _ _,?_⟩)
  exact⟨⟨h1,by omega,by omega⟩,by omega,⟨Z,Z,Z,Z,Z,Z,Z,Y⟩,⟨Z,Y⟩⟩
 have e:a.length<=i:=by omega
 rw[List.drop_of_length_le e] at h1
 have h1:f=R:=h1
 subst h1
 (refine bT<|aY<|aY<|bU<|aj<|yS<|yP Z<|yq Z<|bg zI ?_;refine sI ?_)
 (refine yk<|yP Z<|yn Z<|aA zI<|aS<|ak<|yq Z<|aA zI<|bd<|aF<|an<|yU<|yA Z<|yT ?_;refine au<|yS<|yP Z<|yP Z<|yP Z<|yT<|aZ ?_)
 obtain⟨P,hP⟩:∃P,P=Wn f (false,0,0) (a.flatMap fun x=>b.map (Yd f x)):=⟨_,rfl⟩
 have Y5:Xy a b f=P.2:=by rw[hP];rfl
 rw[Y5]
 refine aI (fun x:Nat×Bool×Int×Int=>Wn f x.2 ((a.drop x.1).flatMap fun x=>b.map (Yd f x))=P/\Y4 2000000 x.2.2) (fun x=>[(0,.p (aV a)),(1,.p (aV b)),(4,.bx 4 0),(5,.p (i64 f)),(11,.bx 11 0),(12,.p (bool x.2.1)),(50,.p (aV a)),(51,.p (i64 a.length)),(52,.p (i64 x.1))]) (fun x=>[(4,.box [.p (i64 0),.p (i64 0),.p (i64 0),.p (i64 0),.p (i64 0),.p (i64 0),.p (i64 0)]),(11,.box [.p (i64 0),.p (i64 0),.p (i64 (f - 1)),.p (i64 x.2.2.1),.p (i64 x.2.2.2),.p (i64 0),.p (i64 0)])]) (fun x=>a.length - x.1) (0,false,0,0) _ (aW.refl _ _) ⟨hP.symm,⟨by decide,by decide⟩,⟨by decide,by decide⟩⟩ ⟨rfl,rfl,rfl,rfl,rfl,rfl,rfl,congrArg (fun m:Nat=>AV.p (i64 m)) lm,Z,Y⟩ ⟨Z,Z,Y⟩ fun ⟨i,st⟩ hx t h=>?_
 obtain⟨h1,h2⟩:=hx
 simp only at h1 h2
 (refine yS<|yP Z<|yT<|au<|az Z ?_;refine aa (fun g=>?_) (fun g=>?_) <;> try simp only[zB] at g)
 ·obtain⟨x,YY⟩:=bh (l:=a) (i:=i) (by omega)
  have px:=ha x (List.mem_of_getElem? YY)
  rw[drop_at YY] at h1
  have h1:Wn f (Wn f st (b.map (Yd f x))) ((a.drop (i+1)).flatMap fun x=>b.map (Yd f x))=P:=by rw[<-Reg.X8];exact h1
  (refine aJ<|aj<|au<|aZ<|yS<|yq Z<|aK zI ?_;refine⟨(rc x),(idx rfl YY),?_⟩)
  (refine yk<|yP Z<|yn Z<|aA zI<|aS<|ak<|yq Z<|aA zI<|bd<|aF<|an<|yU<|yP Z<|yP Z ?_;refine yP Z<|yT<|aZ ?_)
  refine aI (fun y:Nat×Bool×Int×Int=>Wn f y.2 ((b.drop y.1).map (Yd f x))=Wn f st (b.map (Yd f x))/\Y4 2000000 y.2.2) (fun y=>[(0,.p (aV a)),(1,.p (aV b)),(4,.bx 4 0),(5,.p (i64 f)),(11,.bx 11 0),(12,.p (bool y.2.1)),(50,.p (aV a)),(51,.p (i64 a.length)),(52,.p (i64 i)),(14,.bx 14 0),(56,.p (aV b)),(57,.p (i64 b.length)),(58,.p (i64 y.1))]) (fun y=>[(4,.box [.p (i64 0),.p (i64 0),.p (i64 0),.p (i64 0),.p (i64 0),.p (i64 0),.p (i64 0)]),(11,.box [.p (i64 0),.p (i64 0),.p (i64 (f - 1)),.p (i64 y.2.2.1),.p (i64 y.2.2.2),.p (i64 0),.p (i64 0)]),(14,.box [.p (i64 x.x0),.p (i64 x.y0),.p (i64 x.x1),.p (i64 x.y1)])]) (fun y=>b.length - y.1) (0,st) _ (aW.refl _ _) ⟨rfl,h2⟩ ⟨rfl,rfl,rfl,rfl,rfl,rfl,rfl,rfl,rfl,rfl,rfl,congrArg (fun m:Nat=>AV.p (i64 m)) Zd,Z,Y⟩ ⟨Z,Z,Z,Y⟩ fun ⟨j,fd,p⟩ hy t h=>?_
  obtain⟨k1,k2⟩:=hy
  simp only at k1 k2
  (refine yS<|yP Z<|yT<|au<|az Z ?_;refine aa (fun g2=>?_) (fun g2=>?_) <;> try simp only[zB] at g2)
  ·obtain⟨y,YZ⟩:=bh (l:=b) (i:=j) (by omega)
   have py:=hb' y (List.mem_of_getElem? YZ)
   rw[drop_at YZ,List.map_cons,Reg.XO] at k1
   have fl:=Reg.Xx px py
   obtain⟨_,Zb,_,lC,e'⟩:=Zm.2.2 (List.ne_nil_of_mem (List.mem_of_getElem? YY)) (List.ne_nil_of_mem (List.mem_of_getElem? YZ))
   have Zn:=Reg.Xx (ha _ Zb) (hb' _ lC)
   rw[<-e'] at Zn
   have ni:=Reg.Yy Zn.1 px py
   (refine aJ<|aj<|au<|aZ<|yS<|yq Z<|aK zI ?_;refine⟨(rc y),(idx rfl YZ),?_⟩)
   ((refine yk<|yP Z<|yn Z<|aA zI<|aS<|ak<|yq Z<|aA zI<|bd<|aF<|an<|yU<|yP Z<|yP Z ?_;refine yP Z<|yn Z<|aK zI ?_);refine⟨_,_,(XP x y f (up x px) (up y py) (by omega)),?_⟩)
   ((refine b9 Z Z<|ae<|yn Z<|aA zI<|aS<|ak<|yq Z<|aA zI<|bd<|aF<|an<|yU<|yP Z<|yP Z ?_;refine yn Z<|aK zI ?_);refine⟨_,_,(FP x y (up x px) (up y py)),?_⟩)
   have keep:¬(B0 x y=f/\(fd=false\/W1 (Wz x y f) p=true))->Wn f (fd,p) ((b.drop (j+1)).map (Yd f x))=Wn f st (b.map (Yd f x)):=fun hc=>by
    rw[<-k1]
    congr 1
    exact (if_neg hc).symm
   have take:B0 x y=f/\(fd=false\/W1 (Wz x y f) p=true)->Wn f (true,Wz x y f) ((b.drop (j+1)).map (Yd f x))=Wn f st (b.map (Yd f x)):=fun hc=>by
    rw[<-k1]
    congr 1
    exact (if_pos hc).symm
   (refine b9 Z Z<|ae<|yP Z<|yP Z<|yP Z<|yg Z ?_;refine aa (fun g3=>?_) (fun g3=>?_) <;> try simp only[zB] at g3)
   ·(refine bS<|bA Z Z<|aA zI<|yk<|y1 Z<|y1 Z<|yg Z ?_;refine aa (fun g4=>?_) (fun g4=>?_) <;> try simp only[zB] at g4)
    ·have nx:=take ⟨g3,.inl (by simpa using g4)⟩
     ((refine cB<|ae<|y0 Z<|y0 Z<|y0 Z<|y1 Z<|yP Z<|yT<|az Z<|fy<|aM<|yP Z<|yV Z<|yq Z ?_;refine aA zI<|bd<|aF<|an<|yA Z<|cL<|bp<|aj<|aM<|yq Z<|bg zI ?_);refine sI ?_)
     (refine yk<|yP Z<|yT<|ai ?_;refine⟨(j+1,true,Wz x y f),_,aW.refl _ _,?_⟩)
     exact⟨⟨nx,ni⟩,by omega,⟨Z,Z,Z,Z,Z,Z,Z,Z,Z,Z,Z,Z,Z,Y⟩,⟨Z,Z,Z,Y⟩⟩
    (refine bS<|bA Z Z<|aA zI<|yk<|y2 Z<|bA Z Z<|aA zI<|bd<|ak<|y1 Z<|y2 Z<|jB Z Z Z<|aK zI ?_;refine⟨_,_,(XQ (Wz x y f) p),?_⟩)
    (refine b9 Z Z<|ae<|y1 Z<|yP Z<|yT<|az Z ?_;refine aa (fun g5=>?_) (fun g5=>?_) <;> try simp only[zB] at g5)
    ·have nx:=take ⟨g3,.inr (by simpa using g5)⟩
     ((refine aM<|yP Z<|yV Z<|yq Z<|aA zI<|bd<|aF<|an<|yA Z<|cL<|bp<|aj<|aM<|yq Z ?_;refine bg zI ?_);refine sI ?_)
     (refine yk<|yP Z<|yT<|ai ?_;refine⟨(j+1,true,Wz x y f),_,aW.refl _ _,?_⟩)
     exact⟨⟨nx,ni⟩,by omega,⟨Z,Z,Z,Z,Z,Z,Z,Z,Z,Z,Z,Z,Z,Y⟩,⟨Z,Z,Z,Y⟩⟩
    have nx:=keep fun ⟨_,hc⟩=>by rcases hc with hc | hc <;> simp_all
    (refine aJ<|bp<|aj<|aM<|yq Z<|bg zI ?_;refine sI ?_)
    (refine yk<|yP Z<|yT<|ai ?_;refine⟨(j+1,fd,p),_,aW.refl _ _,?_⟩)
    exact⟨⟨nx,k2⟩,by omega,⟨Z,Z,Z,Z,Z,Z,Z,Z,Z,Z,Z,Z,Z,Y⟩,⟨Z,Z,Z,Y⟩⟩
   have nx:=keep fun ⟨hc,_⟩=>by omega
   ((refine cB<|ae<|y0 Z<|y0 Z<|a8 Z Z Z Z<|ae<|a8 Z Z Z Z<|ae<|a8 Z Z Z Z<|ae<|a8 Z Z Z Z<|ae<|y0 Z<|yP Z ?_;refine yT<|az Z<|cM<|aJ<|bp<|aj<|aM<|yq Z<|bg zI ?_);refine sI ?_)
   (refine yk<|yP Z<|yT<|ai ?_;refine⟨(j+1,fd,p),_,aW.refl _ _,?_⟩)
   exact⟨⟨nx,k2⟩,by omega,⟨Z,Z,Z,Z,Z,Z,Z,Z,Z,Z,Z,Z,Z,Y⟩,⟨Z,Z,Z,Y⟩⟩
  have e:b.length<=j:=by omega
  rw[List.drop_of_length_le e] at k1
  have k1:(fd,p)=Wn f st (b.map (Yd f x)):=k1
  rw[<-k1] at h1
  (refine bT<|aY<|aY<|bU<|bp<|aj<|aM<|yq Z<|bg zI ?_;refine sI ?_)
  (refine yk<|yP Z<|yT<|ai ?_;refine⟨(i+1,fd,p),_,aW.refl _ _,?_⟩)
  exact⟨⟨h1,k2⟩,by omega,⟨Z,Z,Z,Z,Z,Z,Z,Z,Z,Y⟩,⟨Z,Z,Y⟩⟩
 have e:a.length<=i:=by omega
 rw[List.drop_of_length_le e] at h1
 have h1:st=P:=h1
 rw[<-h1]
 obtain⟨fd,p⟩:=st
 obtain⟨⟨p1,p2⟩,p3,p4⟩:=h2
 simp only at p1 p2 p3 p4
 have h2:P4 2000001 (WG p):=⟨⟨by simp only[WG];omega,by simp only[WG];omega⟩,⟨by simp only[WG];omega,by simp only[WG];omega⟩,⟨by simp only[WG];omega,by simp only[WG];omega⟩,⟨by simp only[WG];omega,by simp only[WG];omega⟩⟩
 have Zo:∀r,P4 2000000 r->P4 2000001 r:=fun r h=>by
  obtain⟨a1,a2,a3,a4⟩:=h
  exact⟨by omega,by omega,by omega,by omega⟩
 have Zp:∀r,P4 2000001 r->P4 1000000000 r:=fun r h=>by
  obtain⟨a1,a2,a3,a4⟩:=h
  exact⟨by omega,by omega,by omega,by omega⟩
 ((refine bT<|aY<|aY<|bU<|aj<|yS<|yV Z<|yV Z<|yP Z<|yV Z<|yV Z<|yP Z<|yV Z<|yV Z ?_;refine yP Z<|yq Z<|bg zI ?_);refine And.intro ⟨by dsimp only;omega,by dsimp only;omega⟩ ?_)
 (refine yk<|yV Z<|yV Z<|yP Z<|yq Z<|bg zI ?_;refine And.intro ⟨by dsimp only;omega,by dsimp only;omega⟩ ?_)
 (refine yk<|yP Z<|yn Z<|aA zI<|aS<|ak<|yq Z<|aA zI<|bd<|aF<|an<|yU<|yA Z<|yT ?_;refine au<|yS<|yP Z<|yP Z<|yP Z<|yT<|aZ ?_)
 obtain⟨Q,hQ⟩:∃Q,Q=Wn f (false,0,0) (b.map fun y=>Yd f y (WG p)):=⟨_,rfl⟩
 have VA:YQ b p f=Q.2:=by rw[hQ];rfl
 show AF (iZ _ _ _) _ _
 rw[VA]
 refine aI (fun x:Nat×Bool×Int×Int=>Wn f x.2 ((b.drop x.1).map fun y=>Yd f y (WG p))=Q/\Y4 2000001 x.2.2) (fun x=>[(0,.p (aV a)),(1,.p (aV b)),(4,.bx 4 0),(5,.p (i64 f)),(11,.bx 11 0),(18,.bx 18 0),(12,.p (bool x.2.1)),(100,.p (aV b)),(101,.p (i64 b.length)),(102,.p (i64 x.1))]) (fun x=>[(4,.box [.p (i64 0),.p (i64 0),.p (i64 0),.p (i64 0),.p (i64 0),.p (i64 0),.p (i64 0)]),(11,.box [.p (i64 0),.p (i64 0),.p (i64 (f - 1)),.p (i64 p.1),.p (i64 p.2),.p (i64 x.2.2.1),.p (i64 x.2.2.2)]),(18,.box [.p (i64 (WG p).x0),.p (i64 (WG p).y0),.p (i64 (WG p).x1),.p (i64 (WG p).y1)])]) (fun x=>b.length - x.1) (0,false,0,0) _ (aW.refl _ _) ⟨hQ.symm,⟨by decide,by decide⟩,⟨by decide,by decide⟩⟩ ⟨rfl,rfl,rfl,rfl,rfl,rfl,rfl,rfl,congrArg (fun m:Nat=>AV.p (i64 m)) Zd,Z,Y⟩ ⟨Z,Z,Z,Y⟩ fun ⟨i,Y2,p'⟩ hx t h=>?_
 obtain⟨k1,k2⟩:=hx
 simp only at k1 k2
 (refine yS<|yP Z<|yT<|au<|az Z ?_;refine aa (fun g=>?_) (fun g=>?_) <;> try simp only[zB] at g)
 ·obtain⟨y,K9⟩:=bh (l:=b) (i:=i) (by omega)
  have py:=hb' y (List.mem_of_getElem? K9)
  rw[drop_at K9,List.map_cons,Reg.XO] at k1
  (refine aJ<|aj<|au<|aZ<|yS<|yq Z<|aK zI ?_;refine⟨(rc y),(idx rfl K9),?_⟩)
  ((refine yk<|yP Z<|yn Z<|aA zI<|aS<|ak<|yq Z<|aA zI<|bd<|aF<|an<|yU<|yP Z<|yP Z ?_;refine yP Z<|yn Z<|aK zI ?_);refine⟨_,_,(XP y (WG p) f (up y py) (Zp _ h2) (by omega)),?_⟩)
  ((refine b9 Z Z<|ae<|yn Z<|aA zI<|aS<|ak<|yq Z<|aA zI<|bd<|aF<|an<|yU<|yP Z<|yP Z ?_;refine yn Z<|aK zI ?_);refine⟨_,_,(FP y (WG p) (up y py) (Zp _ h2)),?_⟩)
  have keep:¬(B0 y (WG p)=f/\(Y2=false\/W1 (Wz y (WG p) f) p'=true))->Wn f (Y2,p') ((b.drop (i+1)).map fun y=>Yd f y (WG p))=Q:=fun hc=>by
   rw[<-k1]
   congr 1
   exact (if_neg hc).symm
  have take:B0 y (WG p)=f/\(Y2=false\/W1 (Wz y (WG p) f) p'=true)->Wn f (true,Wz y (WG p) f) ((b.drop (i+1)).map fun y=>Yd f y (WG p))=Q:=fun hc=>by
   rw[<-k1]
   congr 1
   exact (if_pos hc).symm
  have ni:B0 y (WG p)=f->Y4 2000001 (Wz y (WG p) f):=fun e=>Reg.Yy (e ▸ (Reg.Xx (Zo y py) h2).1) (Zo y py) h2
  (refine b9 Z Z<|ae<|yP Z<|yP Z<|yP Z<|yg Z ?_;refine aa (fun g3=>?_) (fun g3=>?_) <;> try simp only[zB] at g3)
  ·(refine bS<|bA Z Z<|aA zI<|yk<|y1 Z<|y1 Z<|yg Z ?_;refine aa (fun g4=>?_) (fun g4=>?_) <;> try simp only[zB] at g4)
   ·have nx:=take ⟨g3,.inl (by simpa using g4)⟩
    ((refine cB<|ae<|y0 Z<|y0 Z<|y0 Z<|y1 Z<|yP Z<|yT<|az Z<|fy<|aM<|yP Z<|yV Z<|yq Z ?_;refine aA zI<|bd<|aF<|an<|yA Z<|cL<|bp<|aj<|aM<|yq Z<|bg zI ?_);refine sI ?_)
    (refine yk<|yP Z<|yT<|ai ?_;refine⟨(i+1,true,Wz y (WG p) f),_,aW.refl _ _,?_⟩)
    exact⟨⟨nx,ni g3⟩,by omega,⟨Z,Z,Z,Z,Z,Z,Z,Z,Z,Z,Y⟩,⟨Z,Z,Z,Y⟩⟩
   (refine bS<|bA Z Z<|aA zI<|yk<|y2 Z<|bA Z Z<|aA zI<|bd<|ak<|y1 Z<|y2 Z<|jB Z Z Z<|aK zI ?_;refine⟨_,_,(XQ (Wz y (WG p) f) p'),?_⟩)
   (refine b9 Z Z<|ae<|y1 Z<|yP Z<|yT<|az Z ?_;refine aa (fun g5=>?_) (fun g5=>?_) <;> try simp only[zB] at g5)
   ·have nx:=take ⟨g3,.inr (by simpa using g5)⟩
    ((refine aM<|yP Z<|yV Z<|yq Z<|aA zI<|bd<|aF<|an<|yA Z<|cL<|bp<|aj<|aM<|yq Z ?_;refine bg zI ?_);refine sI ?_)
    (refine yk<|yP Z<|yT<|ai ?_;refine⟨(i+1,true,Wz y (WG p) f),_,aW.refl _ _,?_⟩)
    exact⟨⟨nx,ni g3⟩,by omega,⟨Z,Z,Z,Z,Z,Z,Z,Z,Z,Z,Y⟩,⟨Z,Z,Z,Y⟩⟩
   have nx:=keep fun ⟨_,hc⟩=>by rcases hc with hc | hc <;> simp_all
   (refine aJ<|bp<|aj<|aM<|yq Z<|bg zI ?_;refine sI ?_)
   (refine yk<|yP Z<|yT<|ai ?_;refine⟨(i+1,Y2,p'),_,aW.refl _ _,?_⟩)
   exact⟨⟨nx,k2⟩,by omega,⟨Z,Z,Z,Z,Z,Z,Z,Z,Z,Z,Y⟩,⟨Z,Z,Z,Y⟩⟩
  have nx:=keep fun ⟨hc,_⟩=>by omega
  ((refine cB<|ae<|y0 Z<|y0 Z<|a8 Z Z Z Z<|ae<|a8 Z Z Z Z<|ae<|a8 Z Z Z Z<|ae<|a8 Z Z Z Z<|ae<|y0 Z<|yP Z ?_;refine yT<|az Z<|cM<|aJ<|bp<|aj<|aM<|yq Z<|bg zI ?_);refine sI ?_)
  (refine yk<|yP Z<|yT<|ai ?_;refine⟨(i+1,Y2,p'),_,aW.refl _ _,?_⟩)
  exact⟨⟨nx,k2⟩,by omega,⟨Z,Z,Z,Z,Z,Z,Z,Z,Z,Z,Y⟩,⟨Z,Z,Z,Y⟩⟩
 have e:b.length<=i:=by omega
 rw[List.drop_of_length_le e] at k1
 have k1:(Y2,p')=Q:=k1
 subst k1
 (refine bT<|aY<|aY<|bU<|aj<|yS<|yP Z<|yq Z<|aA zI<|bd<|aF<|an<|yR zi ?_;refine And.intro ?_ trivial)
 rfl
open Reg (bC ax bK ct cQ A5 cv bL told dz bX coreS kv Canon Full RK at')
theorem Bw {s:List ax} (h:ct s) (hb:cQ 1450000 s):(told s).length<=4398046511104:=by
 have h1:=Reg.cy h (by omega) hb
 have h2:=Reg.u5 (M:=1450000) (s:=s) fun t ht=>by have:=Reg.jk h (by omega) hb t ht;omega
 have h3:s.length*1450000<=2900000*1450000:=Nat.mul_le_mul_right _ (by omega)
 omega
theorem wN (s:List ax) (hs:ct s) (ks:cQ 1450000 s) (l r d u:Int) (hl:0<=l/\l<=100000) (hr:0<=r/\r<=100000) (hd:0<=d/\d<=100000) (hu:0<=u/\u<=100000):aD C 90 [.pv (aG s),.pv (i64 l),.pv (i64 r),.pv (i64 d),.pv (i64 u)] (.p (aG (bX s l r d u))) []:=by
 refine aT hC Tryz.func90 rfl rfl 46 rfl (by decide) (by kernel_rfl) fun _ _ _ _ _=>?_
 have ls:=Reg.cy hs (by omega) ks
 have lx:=Reg.jk hs (by omega) ks
 have lt:=Bw hs ks
 have tf:=Reg.dK hs
 have ti:=Reg.kN hs ks
 (refine yS<|yB Z<|yU<|yP Z<|yn Z<|aK zI ?_;refine⟨_,_,(h_ s (by omega) (fun t ht=>by have:=lx t ht;omega) lt),?_⟩)
 have so:=jb ((told s).map (dz l r d u)) 1550000 (by omega) (by omega) (fun q hq=>by
  obtain⟨p,hp,rfl⟩:=List.mem_map.1 hq
  have:=tf p hp
  unfold Full at this
  exact⟨by show p.x0 - l < p.x1+r;omega,by show p.y0 - d < p.y1+u;omega⟩) (fun q hq=>by
  obtain⟨p,hp,rfl⟩:=List.mem_map.1 hq
  have:=ti p hp
  unfold RK at this
  exact⟨by show -1550000<=p.x0 - l;omega,by show -1550000<=p.y0 - d;omega,by show p.x1+r<=1550000;omega,by show p.y1+u<=1550000;omega⟩) (by rw[List.length_map];exact lt)
 rw[show bX s l r d u=Reg.a_ ((told s).map (dz l r d u)) from rfl]
 generalize told s=L at *
 have lm:=fun i=>aN (jE l r d u L i) rc
 have ml:=Eo l r d u L
 have m0:jE l r d u L 0=L:=by simp[jE]
 (refine aS<|af<|cD Z<|cr Z Z Z Z Z<|yT<|au<|yS<|yq Z<|aA zI<|bd<|af<|yP Z<|yP Z<|yT ?_;refine aZ ?_)
 refine aI (fun i:Nat=>i<=L.length) (fun i=>[(1,.p (i64 l)),(2,.p (i64 r)),(3,.p (i64 d)),(4,.p (i64 u)),(11,.ow 11),(16,.ow 11),(17,.p (i64 (L.map rc).length)),(18,.p (i64 i))]) (fun i=>[(11,.row 56 ((jE l r d u L i).map rc))]) (fun i=>L.length - i) 0 _ (aW.refl _ _) (Nat.zero_le _) ⟨Z,Z,Z,Z,Z,Z,Z,Z,Y⟩ ⟨by rw[m0];rfl,trivial⟩ fun i hi t h=>?_
 have UR:=lm i
 have US:=ml i
 have UT:=aN L rc
 (refine yS<|yP Z<|yT<|au<|az Z ?_;refine aa (fun g1=>?_) (fun g1=>?_) <;> try simp only[zB] at g1)
 ·obtain⟨q,hq⟩:=bh (l:=L) (i:=i) (by omega)
  have a:=ti q (List.mem_of_getElem? hq)
  have b:=tf q (List.mem_of_getElem? hq)
  unfold RK at a
  unfold Full at b
  have hm:=En (l:=l) (r:=r) (d:=d) (u:=u) hq
  have lH:=Ep (l:=l) (r:=r) (d:=d) (u:=u) hq
  (refine aJ<|aj<|au<|aZ<|yS<|yP Z<|yq Z<|bg zI ?_;refine sI ?_)
  (refine bd<|bJ<|yq Z<|aK zI ?_;refine⟨(rc q),(idx rfl hm).2,?_⟩)
  ((refine yk<|yn Z<|aA zI<|aS<|ak<|yA Z<|yq Z<|aA zI<|bd<|aF<|an<|yT<|aM<|yq Z ?_;refine aA zI<|bd<|af<|yP Z<|yV Z<|yP Z<|yP Z<|yq Z<|bg zI ?_);refine sI ?_)
  (refine yk<|yV Z<|yP Z<|yP Z<|yq Z<|bg zI ?_;refine sI ?_)
  (refine yk<|yV Z<|yP Z<|yP Z<|yq Z<|bg zI ?_;refine sI ?_)
  (refine yk<|yV Z<|yP Z<|yP Z<|yq Z<|bg zI ?_;refine sI ?_)
  (refine yk<|yP Z<|yq Z<|bg zI ?_;refine sI ?_)
  (refine bd<|bJ<|yq Z<|aK zI ?_;refine⟨(rc q),(idx rfl hm).2,?_⟩)
  (refine bd<|aF<|an<|cL<|bp<|aj<|aM<|yq Z<|bg zI ?_;refine sI ?_)
  have e5:∀k:Nat,k=i->AB.row 56 (((jE l r d u L i).map rc).set k (rc (dz l r d u q)))=AB.row 56 ((jE l r d u L (i+1)).map rc):=by
   intro k e
   subst e
   rw[<-List.map_set,lH]
  (refine yk<|yP Z<|yT<|ai ?_;refine⟨(i+1),_,aW.refl _ _,?_⟩)
  exact⟨by omega,by omega,⟨Z,Z,Z,Z,Z,Z,Z,Z,Y⟩,⟨e5 _ rfl,trivial⟩⟩
 have e:jE l r d u L i=L.map (dz l r d u):=by
  rw[jE,List.take_of_length_le (by omega),List.drop_of_length_le (by omega),List.append_nil]
 rw[e]
 (refine bT<|aY<|aY<|bU<|aj<|yS<|yq Z<|aA zI<|bd<|af<|yn Z<|aK zI ?_;refine⟨_,_,so,?_⟩)
 (refine aS<|aF<|af<|cD Z<|cr Z Z Z Z Z<|yR zi ?_;refine And.intro ?_ trivial)
 rfl
theorem Bx (s:List ax) (hs:ct s) (ks:cQ 1000000 s) (l r d u:Int) (hl:0<=l/\l<=100000) (hr:0<=r/\r<=100000) (hd:0<=d/\d<=100000) (hu:0<=u/\u<=100000):aD C 98 [.pv (aG s),.pv (i64 l),.pv (i64 r),.pv (i64 d),.pv (i64 u)] (.p (aG (coreS s l r d u))) []:=by
 refine aT hC Tryz.func98 rfl rfl 56 rfl (by decide) (by kernel_rfl) fun _ _ _ _ _=>?_
 have ms:=aN s hb
 (refine yS<|yB Z<|yT<|au<|yS<|yP Z<|yP Z<|yP Z<|yT<|az Z ?_;refine aa (fun g0=>?_) (fun g0=>?_) <;> try simp only[zB] at g0)
 ·rw[ms] at g0
  have e:s=[]:=List.eq_nil_of_length_eq_zero (by omega)
  (refine yS<|yB Z<|yT<|bP<|aX<|bQ zi ?_;refine And.intro ?_ trivial)
  rw[coreS,if_pos e]
  rfl
 rw[ms] at g0
 have b8:s≠[]:=fun e=>g0 (by rw[e];rfl)
 rw[coreS,if_neg b8]
 obtain⟨a1,a2,a3⟩:=Reg.qL hs b8
 have a4:=a3 _ ks
 have bb:∀q∈[dz (l+r+d+u+1) (l+r+d+u+1) (l+r+d+u+1) (l+r+d+u+1) (bL s)],Full q:=fun q hq=>by
  rw[List.mem_singleton] at hq
  subst hq
  unfold Full at a1
  exact⟨by show (bL s).x0 - (l+r+d+u+1) < (bL s).x1+(l+r+d+u+1);omega,by show (bL s).y0 - (l+r+d+u+1) < (bL s).y1+(l+r+d+u+1);omega⟩
 have Nl:∀q∈[dz (l+r+d+u+1) (l+r+d+u+1) (l+r+d+u+1) (l+r+d+u+1) (bL s)],RK 1400001 q:=fun q hq=>by
  rw[List.mem_singleton] at hq
  subst hq
  unfold RK at a4
  exact⟨by show -1400001<=(bL s).x0 - (l+r+d+u+1);omega,by show -1400001<=(bL s).y0 - (l+r+d+u+1);omega,by show (bL s).x1+(l+r+d+u+1)<=1400001;omega,by show (bL s).y1+(l+r+d+u+1)<=1400001;omega⟩
 obtain⟨b1,b2,b3⟩:=Reg.eA bb
 have b4:=b3 _ Nl
 obtain⟨c1,c2,c3⟩:=Reg.dZ b1 hs
 have c4:=c3 1400001 b4 (ks.up (by omega))
 obtain⟨d1,d2,d3⟩:=Reg.ff c1 hr.1 hl.1 hu.1 hd.1
 have d4:=(d3 1400001 100000 c4 hr.2 hl.2 hu.2 hd.2).up (B:=2000000) (by omega)
 have so:=jb _ 1400001 (by omega) (by omega) bb Nl (by simp)
 have q1:=fQ _ s b1 hs (b4.up (by omega)) (ks.up (by omega))
 have q2:=wN _ c1 (c4.up (by omega)) r l u d hr hl hu hd
 have q3:=fQ s _ hs d1 (ks.up (by omega)) d4
 unfold RK at a4
 unfold Full at a1
 (refine aJ<|aj<|yS<|yP Z<|yn Z<|aK zI ?_;refine⟨_,_,(qM s hs (ks.up (by omega)) b8),?_⟩)
 ((refine b9 Z Z<|ae<|yn Z<|aA zI<|aS<|ak<|yq Z<|aA zI<|bd<|aF<|an<|yU<|yP Z<|yP Z ?_;refine yq Z<|bg zI ?_);refine sI ?_)
 (refine yk<|yP Z<|yq Z<|bg zI ?_;refine sI ?_)
 (refine yk<|yP Z<|yq Z<|bg zI ?_;refine sI ?_)
 (refine yk<|yq Z<|bg zI ?_;refine sI ?_)
 (refine yk<|yA Z<|yU<|yV Z<|yP Z<|yP Z<|yq Z<|bg zI ?_;refine sI ?_)
 (refine yk<|yV Z<|yP Z<|yP Z<|yq Z<|bg zI ?_;refine sI ?_)
 (refine yk<|yV Z<|yP Z<|yP Z<|yq Z<|bg zI ?_;refine sI ?_)
 (refine yk<|yV Z<|yP Z<|yP Z<|yq Z<|bg zI ?_;refine sI ?_)
 (refine yk<|yP Z<|yn Z<|aA zI<|aS<|af<|yn Z<|aK zI ?_;refine⟨_,_,so,?_⟩)
 (refine aS<|aF<|af<|cD Z<|cr Z Z Z Z Z<|yU<|yP Z<|yq Z<|aA zI<|bd<|af<|yP Z<|yn Z<|aK zI ?_;refine⟨_,_,q1,?_⟩)
 (refine b9 Z Z<|aF<|ae<|yP Z<|yP Z<|yP Z<|yP Z<|yn Z<|aK zI ?_;refine⟨_,_,q2,?_⟩)
 (refine b9 Z Z<|ae<|yn Z<|aK zI ?_;refine⟨_,_,q3,?_⟩)
 (refine b9 Z Z<|ae<|yA Z<|yR zi ?_;refine And.intro ?_ trivial)
 rfl
theorem Dr (s:List ax) (hs:ct s) (ks:cQ 1000000 s) (n:Int) (h0:0<=n) (h1:n<=100000):aD C 51 [.pv (aG s),.pv (i64 n)] (.p (aG (coreS s n n n n))) []:=by
 refine aT hC Tryz.func51 rfl rfl 11 rfl (by decide) (by kernel_rfl) fun _ _ _ _ _=>?_
 (refine yS<|yB Z<|yU<|yP Z<|yP Z<|yP Z<|yP Z<|yP Z<|yn Z<|aK zI ?_;refine⟨_,_,(Bx s hs ks n n n n ⟨h0,h1⟩ ⟨h0,h1⟩ ⟨h0,h1⟩ ⟨h0,h1⟩),?_⟩)
 (refine b9 Z Z<|ae<|yA Z<|yR zi ?_;refine And.intro ?_ trivial)
 rfl
def zq (n:Int) (l:List aB):Int:=l.foldl (fun n r=>n+(r.x1 - r.x0)*(r.y1 - r.y0)) n
theorem zr (l:List aB) (hl:∀r∈l,Full r/\P4 1000000 r) (hN:l.length<=1000000):aD C 27 [.pv (aV l)] (.p (i64 (zq 0 l))) []:=by
 refine aT hC Tryz.func27 rfl rfl 27 rfl (by decide) (by kernel_rfl) fun _ _ _ _ _=>?_
 have lm:=aN l rc
 obtain⟨R,hR⟩:∃R,R=zq 0 l:=⟨_,rfl⟩
 rw[<-hR]
 refine yS<|yA Z<|yU<|yA Z<|yT<|au<|yS<|yP Z<|yP Z<|yP Z<|yT<|aZ ?_
 refine aI (fun x:Nat×Int=>zq x.2 (l.drop x.1)=R/\0<=x.2/\x.2<=4000000000000*x.1) (fun x=>[(3,.p (i64 x.2)),(6,.p (aV l)),(7,.p (i64 l.length)),(8,.p (i64 x.1))]) (fun _=>[]) (fun x=>l.length - x.1) (0,0) _ (aW.refl _ _) ⟨hR.symm,by decide,by decide⟩ ⟨rfl,rfl,congrArg (fun m:Nat=>AV.p (i64 m)) lm,Z,Y⟩ trivial fun ⟨i,n⟩ hx t h=>?_
 obtain⟨h1,h2,h3⟩:=hx
 simp only at h1 h2 h3
 (refine yS<|yP Z<|yT<|au<|az Z ?_;refine aa (fun g=>?_) (fun g=>?_) <;> try simp only[zB] at g)
 ·obtain⟨q,hq⟩:=bh (l:=l) (i:=i) (by omega)
  obtain⟨⟨f1,f2⟩,a1,a2,a3,a4⟩:=hl q (List.mem_of_getElem? hq)
  rw[drop_at hq] at h1
  have m1:0<=(q.x1 - q.x0)*(q.y1 - q.y0):=Int.mul_nonneg (by omega) (by omega)
  have m2:(q.x1 - q.x0)*(q.y1 - q.y0)<=2000000*2000000:=Int.mul_le_mul (by omega) (by omega) (by omega) (by omega)
  (refine aJ<|aj<|au<|aZ<|yS<|yq Z<|aK zI ?_;refine⟨(rc q),(idx rfl hq),?_⟩)
  ((refine yk<|yP Z<|yn Z<|aA zI<|aS<|ak<|yq Z<|aA zI<|bd<|aF<|an<|yT<|aM<|yP Z ?_;refine yV Z<|yP Z<|yV Z<|yP Z<|yq Z<|bg zI ?_);refine sI ?_)
  (refine yk<|yV Z<|yP Z<|yV Z<|yP Z<|yq Z<|bg zI ?_;refine sI ?_)
  (refine yk<|yq Z<|bg zI ?_;refine sI ?_)
  (refine yk<|yq Z<|bg zI ?_;refine sI ?_)
  (refine yk<|yA Z<|cL<|bp<|aj<|aM<|yq Z<|bg zI ?_;refine sI ?_)
  (refine yk<|yP Z<|yT<|ai ?_;refine⟨(i+1,n+(q.x1 - q.x0)*(q.y1 - q.y0)),_,aW.refl _ _,?_⟩)
  exact⟨⟨h1,by omega,by simp only;omega⟩,by omega,⟨Z,Z,Z,Z,Y⟩,trivial⟩
 have e:l.length<=i:=by omega
 rw[List.drop_of_length_le e] at h1
 have h1:n=R:=h1
 (refine bT<|aY<|aY<|bU<|aj<|yS<|yP Z<|yA Z<|yR zi ?_;refine And.intro ?_ trivial)
 rw[h1]
end M
namespace Reg
def YK (l:List (List aB)) (below:Int):List (Nat×Nat)->List YJ->Option (List YJ)
 | [],out=>some out
 | q::r,out=>if (l.getD q.1 []).length=0\/(l.getD q.2 []).length=0 then YK l below r out else
   if (l5 (l.getD q.1 []) (l.getD q.2 [])).dist < 0 then none else
   YK l below r (if (l5 (l.getD q.1 []) (l.getD q.2 [])).dist < below then out++[{ l5 (l.getD q.1 []) (l.getD q.2 []) with a:=q.1,b:=q.2 }] else out)
def X9 (n i k:Nat):List (Nat×Nat):=(List.range' k (n - k)).map fun k=>(i,k)
def WL (n i:Nat):List (Nat×Nat):=(List.range' i (n - i)).flatMap fun i=>X9 n i (i+1)
theorem XR {n k:Nat} (h:k < n):List.range' k (n - k)=k::List.range' (k+1) (n - (k+1)):=by
 rw[show n - k=(n - (k+1))+1 by omega,List.range'_succ]
theorem X4 {n k:Nat} (h:n<=k):List.range' k (n - k)=[]:=by
 rw[show n - k=0 by omega];rfl
theorem YC {n i k:Nat} (h:k < n):X9 n i k=(i,k)::X9 n i (k+1):=by rw[X9,XR h];rfl
theorem YL {n i k:Nat} (h:n<=k):X9 n i k=[]:=by rw[X9,X4 h];rfl
theorem Yg {n i:Nat} (h:i < n):WL n i=X9 n i (i+1)++WL n (i+1):=by rw[WL,XR h];rfl
theorem Yr {n i:Nat} (h:n<=i):WL n i=[]:=by rw[WL,X4 h];rfl
def Yh (n:Int) (l:List (List aB)):Int:=l.foldl (fun n r=>n+r.length) n
def WX:List (List aB)->Int
 | []=>0
 | r::l=>if aH r≠0 then aH r else WX l
def Xg (l:List (List aB)) (below:Int):List YJ×Int:=
 if 2000 < l.length\/2000 < Yh 0 l then ([],2) else
 if WX l≠0 then ([],WX l) else
 if (decide (0<=below) && decide (below<=100000))=true then
  match YK l below (WL l.length 0) [] with
  | none=>([],12)
  | some out=>(out,0)
 else ([],1)
end Reg
namespace M
open Go.AM Go.RowKit Go.Lib
open Reg (aB P4 YJ l5 Xg YK X9 WL Yh WX)
def rr (r:List aB):List PV:=[aV r]
def X_ (l:List (List aB)):PV:=.sl (l.map rr)
theorem X5:∀{l:List (List aB)},WX l=0->∀r∈l,Reg.aH r=0
 | [],_,r,h=>by cases h
 | q::l,h,r,hr=>by
  rw[WX] at h
  by_cases e:Reg.aH q=0
  ·rw[if_neg (by simpa using e)] at h
   rcases List.mem_cons.1 hr with rfl | hr
   ·exact e
   exact X5 h r hr
  rw[if_pos e] at h;exact absurd h e
theorem XS (l:List (List aB)) (hl:l.length<=1000000) (hr:∀r∈l,r.length<=1000000000) (below:Int):aD C 16 [.pv (X_ l),.pv (i64 below)] (.tu [.sl ((Xg l below).1.map gc),i64 (Xg l below).2]) []:=by
 have lm:=aN l rr
 refine aT hC Tryz.func16 rfl rfl 99 rfl (by decide) (by kernel_rfl) fun _ _ _ _ _=>?_
 obtain⟨M,hM⟩:∃M,M=Yh 0 l:=⟨_,rfl⟩
 obtain⟨G,hG⟩:∃G,G=Xg l below:=⟨_,rfl⟩
 rw[<-hG]
 rw[Xg,<-hM] at hG
 refine yS<|yB Z<|yA Z<|yU<|yA Z<|yT<|au<|yS<|yP Z<|yP Z<|yP Z<|yT<|aZ ?_
 refine aI (fun x:Nat×Int=>Yh x.2 (l.drop x.1)=M/\0<=x.2/\x.2<=1000000000*x.1) (fun x=>[(0,.p (X_ l)),(1,.p (i64 below)),(6,.p (i64 x.2)),(17,.p (X_ l)),(18,.p (i64 l.length)),(19,.p (i64 x.1))]) (fun _=>[]) (fun x=>l.length - x.1) (0,0) _ (aW.refl _ _) ⟨hM.symm,by decide,by decide⟩ ⟨rfl,rfl,rfl,rfl,congrArg (fun m:Nat=>AV.p (i64 m)) lm,Z,Y⟩ trivial fun ⟨i,n⟩ hx t h=>?_
 obtain⟨h1,h2,h3⟩:=hx
 simp only at h1 h2 h3
 (refine yS<|yP Z<|yT<|au<|az Z ?_;refine aa (fun g=>?_) (fun g=>?_) <;> try simp only[zB] at g)
 ·obtain⟨q,hq⟩:=bh (l:=l) (i:=i) (by omega)
  have lq:=hr q (List.mem_of_getElem? hq)
  have Y6:=aN q rc
  rw[drop_at hq] at h1
  (refine aJ<|aj<|au<|aZ<|yS<|yq Z<|aK zI ?_;refine⟨(rr q),(idx rfl hq),?_⟩)
  (refine yk<|yP Z<|yA Z<|yT<|aM<|yP Z<|yP Z<|yP Z<|yq Z<|bg zI ?_;refine sI ?_)
  (refine yk<|yA Z<|cL<|bp<|aj<|aM<|yq Z<|bg zI ?_;refine sI ?_)
  (refine yk<|yP Z<|yT<|ai ?_;refine⟨(i+1,n+q.length),_,aW.refl _ _,?_⟩)
  exact⟨⟨h1,by omega,by simp only;omega⟩,by omega,⟨rfl,rfl,by rw[<-Y6];rfl,Z,Z,Z,Y⟩,trivial⟩
 have e:l.length<=i:=by omega
 rw[List.drop_of_length_le e] at h1
 have h1:n=M:=h1
 rw[<-h1] at hG
 (refine bT<|aY<|aY<|bU<|aj<|au<|yS<|yP Z<|yP Z<|yP Z<|yP Z<|yg Z ?_;refine aa (fun g2=>?_) (fun g2=>?_) <;> try simp only[zB] at g2)
 ·rw[if_pos (by omega)] at hG
  (refine cB<|ae<|y0 Z<|yP Z<|yT<|az Z<|fy<|yS<|yB Z<|yA Z<|yT<|bP<|aX<|bQ zi ?_;refine And.intro ?_ trivial)
  rw[hG];rfl
 (refine bS<|bA Z Z<|aA zI<|yk<|y1 Z<|yP Z<|yT<|az Z ?_;refine aa (fun g3=>?_) (fun g3=>?_) <;> try simp only[zB] at g3)
 ·rw[if_pos (by omega)] at hG
  (refine yS<|yB Z<|yA Z<|yT<|bP<|aX<|bQ zi ?_;refine And.intro ?_ trivial)
  rw[hG];rfl
 rw[if_neg (by omega)] at hG
 refine aJ<|aj<|au<|yS<|yP Z<|yP Z<|yP Z<|yT<|aZ ?_
 refine aI (fun k:Nat=>WX (l.drop k)=WX l) (fun k=>[(0,.p (X_ l)),(1,.p (i64 below)),(35,.p (X_ l)),(36,.p (i64 l.length)),(37,.p (i64 k))]) (fun _=>[]) (fun k=>l.length - k) 0 _ (aW.refl _ _) rfl ⟨rfl,rfl,rfl,congrArg (fun m:Nat=>AV.p (i64 m)) lm,Z,Y⟩ trivial fun k hk t h=>?_
 (refine yS<|yP Z<|yT<|au<|az Z ?_;refine aa (fun g4=>?_) (fun g4=>?_) <;> try simp only[zB] at g4)
 ·obtain⟨q,hq⟩:=bh (l:=l) (i:=k) (by omega)
  rw[drop_at hq,WX] at hk
  (refine aJ<|aj<|au<|aZ<|yS<|yq Z<|aK zI ?_;refine⟨(rr q),(idx rfl hq),?_⟩)
  (refine yk<|yP Z<|yA Z<|yU<|yP Z<|yn Z<|aK zI ?_;refine⟨_,_,(dt q),?_⟩)
  (refine b9 Z Z<|ae<|yA Z<|yU<|yP Z<|yP Z<|yT<|az Z ?_;refine aa (fun g5=>?_) (fun g5=>?_) <;> try simp only[zB] at g5)
  ·have g5:Reg.aH q≠0:=by simpa using g5
   rw[if_pos g5] at hk
   rw[if_pos (by rw[<-hk];exact g5)] at hG
   (refine yS<|yP Z<|yB Z<|yA Z<|yT<|bP<|bW<|aX<|aX<|bW<|aX<|bQ zi ?_;refine And.intro ?_ trivial)
   rw[hG,<-hk];rfl
  have g5:Reg.aH q=0:=by simpa using g5
  rw[if_neg (by simpa using g5)] at hk
  (refine aJ<|bp<|aj<|aM<|yq Z<|bg zI ?_;refine sI ?_)
  (refine yk<|yP Z<|yT<|ai ?_;refine⟨(k+1),_,aW.refl _ _,?_⟩)
  exact⟨hk,by omega,⟨Z,Z,Z,Z,Z,Y⟩,trivial⟩
 have e:l.length<=k:=by omega
 rw[List.drop_of_length_le e] at hk
 have hk:WX l=0:=hk.symm
 rw[if_neg (by simpa using hk)] at hG
 have O3:=X5 hk
 (refine bT<|aY<|aY<|bU<|aj<|au<|yS<|yP Z<|yn Z<|aK zI ?_;refine⟨_,_,(yL below 0 100000),?_⟩)
 (refine b9 Z Z<|ae<|yP Z<|yT<|az Z ?_;refine aa (fun g6=>?_) (fun g6=>?_) <;> try simp only[zB] at g6)
 ·rw[if_neg (by simp only[Bool.not_eq_true] at g6 ⊢;exact g6)] at hG
  (refine yS<|yB Z<|yA Z<|yT<|bP<|aX<|bQ zi ?_;refine And.intro ?_ trivial)
  rw[hG];rfl
 rw[if_pos (by simpa using g6)] at hG
 refine aJ<|aj<|yS<|yB Z<|yT<|au<|yS<|yP Z<|yP Z<|yP Z<|yT<|aZ ?_
 have Zq:∀o,YK l below (WL l.length 0) []=o->G=(match o with | none=>([],12) | some out=>(out,0)):=fun o ho=>by rw[<-ho];exact hG
 refine aI (fun x:Nat×List YJ=>YK l below (WL l.length x.1) x.2=YK l below (WL l.length 0) []/\x.2.length<=1000000*x.1/\x.1<=l.length) (fun x=>[(0,.p (X_ l)),(1,.p (i64 below)),(12,.ow 12),(50,.p (X_ l)),(51,.p (i64 l.length)),(52,.p (i64 x.1))]) (fun x=>[(12,.row 70 (x.2.map gc))]) (fun x=>l.length - x.1) (0,[]) _ (aW.fa (by exact hC) _ 12 70 _ (by decide) (by exact rfl) (by exact rfl) (by decide)) ⟨rfl,by decide,Nat.zero_le _⟩ ⟨rfl,rfl,rfl,rfl,congrArg (fun m:Nat=>AV.p (i64 m)) lm,Z,Y⟩ ⟨Z,Y⟩ fun ⟨i,out⟩ hx t h=>?_
 obtain⟨h4,h5,Zt⟩:=hx
 simp only at h4 h5 Zt
 (refine yS<|yP Z<|yT<|au<|az Z ?_;refine aa (fun g7=>?_) (fun g7=>?_) <;> try simp only[zB] at g7)
 ·obtain⟨q,hq⟩:=bh (l:=l) (i:=i) (by omega)
  have qr:=mQ (O3 q (List.mem_of_getElem? hq))
  have ql:=qr.len
  have Y6:=aN q rc
  rw[Reg.Yg (by omega)] at h4
  (refine aJ<|aj<|au<|aZ<|yS<|yP Z<|yq Z<|aK zI ?_;refine⟨(rr q),(idx rfl hq),?_⟩)
  (refine yk<|yP Z<|yA Z<|yA Z<|yU<|yP Z<|yq Z<|bg zI ?_;refine sI ?_)
  refine yk<|yA Z<|yT<|aZ ?_
  refine aI (fun y:Nat×List YJ=>YK l below (X9 l.length i y.1++WL l.length (i+1)) y.2=YK l below (WL l.length 0) []/\y.2.length<=1000000*i+y.1/\y.1<=l.length/\i < y.1) (fun y=>[(0,.p (X_ l)),(1,.p (i64 below)),(12,.ow 12),(50,.p (X_ l)),(51,.p (i64 l.length)),(52,.p (i64 i)),(13,.p (i64 i)),(14,.p (aV q)),(15,.p (i64 y.1))]) (fun y=>[(12,.row 70 (y.2.map gc))]) (fun y=>l.length - y.1) (i+1,out) _ (aW.refl _ _) ⟨h4,by simp only;omega,by simp only;omega,by simp only;omega⟩ ⟨Z,Z,Z,Z,Z,Z,Z,Z,Z,Y⟩ ⟨Z,Y⟩ fun ⟨k,out⟩ hy t h=>?_
  obtain⟨k1,k2,k3,k4⟩:=hy
  simp only at k1 k2 k3 k4
  (refine au<|yS<|yP Z<|yP Z<|yP Z<|yP Z<|yT<|az Z ?_;refine aa (fun g8=>?_) (fun g8=>?_) <;> try simp only[zB] at g8)
  ·rw[lm] at g8
   obtain⟨p,hp⟩:=bh (l:=l) (i:=k) (by omega)
   have pr:=mQ (O3 p (List.mem_of_getElem? hp))
   have pl:=pr.len
   have Zr:=aN p rc
   have e1:l.getD i []=q:=by rw[List.getD_eq_getElem?_getD,hq];rfl
   have e2:l.getD k []=p:=by rw[List.getD_eq_getElem?_getD,hp];rfl
   rw[Reg.YC (by omega),List.cons_append,YK] at k1
   simp only[e1,e2] at k1
   (refine aJ<|aj<|au<|aZ<|au<|yS<|yP Z<|yP Z<|yP Z<|yP Z<|yg Z ?_;refine aa (fun g9=>?_) (fun g9=>?_) <;> try simp only[zB] at g9)
   ·rw[Y6] at g9
    rw[if_pos (.inl (by omega))] at k1
    ((refine cB<|ae<|y0 Z<|y0 Z<|y0 Z<|y0 Z<|y0 Z<|yP Z<|yT<|az Z<|fy<|bT<|aY<|bU ?_;refine aj<|aM<|yP Z<|yq Z<|bg zI ?_);refine sI ?_)
    (refine yk<|yA Z<|yT<|ai ?_;refine⟨(k+1,out),_,aW.refl _ _,?_⟩)
    exact⟨⟨k1,by simp only;omega,by simp only;omega,by simp only;omega⟩,by omega,⟨Z,Z,Z,Z,Z,Z,Z,Z,Z,Y⟩,⟨Z,Y⟩⟩
   rw[Y6] at g9
   (refine bS<|bA Z Z<|aA zI<|yk<|y1 Z<|y2 Z<|bA Z Z<|aK zI ?_;refine⟨(rr p),(idx rfl hp),?_⟩)
   (refine yk<|y1 Z<|y1 Z<|y1 Z<|yP Z<|yT<|az Z ?_;refine aa (fun g10=>?_) (fun g10=>?_) <;> try simp only[zB] at g10)
   ·rw[Zr] at g10
    rw[if_pos (.inr (by omega))] at k1
    (refine bT<|aY<|bU<|aj<|aM<|yP Z<|yq Z<|bg zI ?_;refine sI ?_)
    (refine yk<|yA Z<|yT<|ai ?_;refine⟨(k+1,out),_,aW.refl _ _,?_⟩)
    exact⟨⟨k1,by simp only;omega,by simp only;omega,by simp only;omega⟩,by omega,⟨Z,Z,Z,Z,Z,Z,Z,Z,Z,Y⟩,⟨Z,Y⟩⟩
   rw[Zr] at g10
   rw[if_neg (by omega)] at k1
   have p4:∀{l:List aB},Ib l->∀r∈l,P4 2000000 r:=fun h r hr=>by
    obtain⟨a1,a2,a3,a4⟩:=Reg.Lj (h.full r hr) (h.rk r hr)
    exact⟨by omega,by omega,by omega,by omega⟩
   (refine aJ<|aj<|yS<|yP Z<|yP Z<|yP Z<|yq Z<|aK zI ?_;refine⟨(rr p),(idx rfl hp),?_⟩)
   (refine yk<|yP Z<|yn Z<|aK zI ?_;refine⟨_,_,(XD q p (p4 qr) (p4 pr) (by omega) (by omega)),?_⟩)
   ((refine b9 Z Z<|ae<|yn Z<|aA zI<|aS<|ak<|yq Z<|aA zI<|bd<|aF<|an<|yT<|au<|yS ?_;refine yV Z<|yP Z<|yP Z<|yT<|az Z ?_);refine aa (fun g11=>?_) (fun g11=>?_) <;> try simp only[zB] at g11)
   ·rw[if_pos g11] at k1
    have:=Zq none k1.symm
    ((refine yS<|yB Z<|yA Z<|yT<|bP<|aX<|bW<|aX<|aX<|bW<|bW<|aX<|aX<|bW ?_;refine aX<|bQ zi ?_);refine And.intro ?_ trivial)
    rw[this];rfl
   rw[if_neg g11] at k1
   ((refine aJ<|aj<|yS<|yP Z<|yP Z<|yV Z<|yq Z<|aA zI<|bd<|aF<|an<|yV Z<|yq Z<|aA zI ?_;refine bd<|aF<|an<|yU<|yV Z<|yP Z<|yP Z<|yP Z<|yT<|az Z ?_);refine aa (fun g12=>?_) (fun g12=>?_) <;> try simp only[zB] at g12)
   ·rw[if_pos g12] at k1
    have lo:=aN out gc
    (refine aM<|yq Z<|aA zI<|bd<|af<|yP Z<|yn Z<|aA zI<|aS<|af<|yn Z<|bg zI ?_;refine And.intro ⟨fun r hr=>by simp at hr;subst hr;rfl,by simp only[List.length_replicate,List.length_set];omega,by simp only[List.length_replicate,List.length_set];omega⟩ ?_)
    (refine aS<|aF<|af<|cD Z<|cr Z Z Z Z Z<|cL<|bp<|aj<|aM<|yP Z<|yq Z<|bg zI ?_;refine sI ?_)
    (refine yk<|yA Z<|yT<|ai ?_;refine⟨(k+1,out++[{ l5 q p with a:=i,b:=k }]),_,aW.refl _ _,?_⟩)
    exact⟨⟨k1,by simp only[List.length_append,List.length_singleton];omega,by simp only;omega,by simp only;omega⟩,by omega,⟨Z,Z,Z,Z,Z,Z,Z,Z,Z,Y⟩,⟨by rw[List.map_append];rfl,trivial⟩⟩
   rw[if_neg g12] at k1
   (refine aJ<|bp<|aj<|aM<|yP Z<|yq Z<|bg zI ?_;refine sI ?_)
   (refine yk<|yA Z<|yT<|ai ?_;refine⟨(k+1,out),_,aW.refl _ _,?_⟩)
   exact⟨⟨k1,by simp only;omega,by simp only;omega,by simp only;omega⟩,by omega,⟨Z,Z,Z,Z,Z,Z,Z,Z,Z,Y⟩,⟨Z,Y⟩⟩
  rw[lm] at g8
  rw[Reg.YL (by omega),List.nil_append] at k1
  (refine bT<|aY<|aY<|bU<|bp<|aj<|aM<|yq Z<|bg zI ?_;refine sI ?_)
  (refine yk<|yP Z<|yT<|ai ?_;refine⟨(i+1,out),_,aW.refl _ _,?_⟩)
  exact⟨⟨k1,by simp only;omega,by simp only;omega⟩,by omega,⟨Z,Z,Z,Z,Z,Z,Y⟩,⟨Z,Y⟩⟩
 rw[Reg.Yr (by omega)] at h4
 have:=Zq (some out) h4.symm
 (refine bT<|aY<|aY<|bU<|aj<|yS<|yq Z<|aA zI<|bd<|af<|cD Z<|cr Z Z Z Z Z<|yA Z<|yR zi ?_;refine And.intro ?_ trivial)
 rw[this];rfl
end M
namespace Reg
def gQ:aB:=⟨0,0,0,0⟩
def vx (a b:aB):Bool:=decide (a.x0 < b.x1) && decide (b.x0 < a.x1)
def pW (all:List aB) (f e:Nat):Nat->List Int->Nat->Nat->List Int
 | 0,u,_,_=>u
 | n+1,u,i,j=>if i < f/\j < e then
   pW all f e n (if vx (all.getD i gQ) (all.getD j gQ)=true then ik u i j else u)
    (if (all.getD i gQ).x1 < (all.getD j gQ).x1 then i+1 else i)
    (if (all.getD i gQ).x1 < (all.getD j gQ).x1 then j else j+1)
  else u
def meets (p:Option ax) (b:ax):Bool:=match p with
 | some q=>decide (q.y1=b.y0)
 | none=>false
def pw (all:List aB):Option ax->List ax->List Int->Nat->Nat->List Int
 | _,[],u,_,_=>u
 | p,b::s,u,f,g=>pw all (some b) s (if meets p b=true then pW all f (f+b.xs.length) (f - g+b.xs.length) u g f else u) (f+b.xs.length) f
def oo (s:List ax):List Int:=pw (told s) none s (iota (told s).length) 0 0
theorem zt (all:List aB) (f e:Nat):∀(n:Nat) (u:List Int) (i j:Nat),UF u->f<=u.length->e<=u.length->UF (pW all f e n u i j)/\(pW all f e n u i j).length=u.length
 | 0,u,i,j,h,_,_=>⟨h,rfl⟩
 | n+1,u,i,j,h,hf,he=>by
  rw[pW]
  by_cases c:i < f/\j < e
  ·rw[if_pos c]
   by_cases o:vx (all.getD i gQ) (all.getD j gQ)=true
   ·rw[if_pos o]
    obtain⟨a,b⟩:=qV h (i:=i) (k:=j) (by omega) (by omega)
    obtain⟨c1,c2⟩:=zt all f e n _ (if (all.getD i gQ).x1 < (all.getD j gQ).x1 then i+1 else i) (if (all.getD i gQ).x1 < (all.getD j gQ).x1 then j else j+1) a (by omega) (by omega)
    exact⟨c1,c2.trans b⟩
   rw[if_neg o]
   exact zt all f e n u _ _ h hf he
  rw[if_neg c];exact⟨h,rfl⟩
theorem vy (all:List aB):∀(s:List ax) (p:Option ax) (u:List Int) (f g:Nat),UF u->f+(told s).length<=u.length->UF (pw all p s u f g)/\(pw all p s u f g).length=u.length
 | [],p,u,f,g,h,_=>⟨h,rfl⟩
 | b::s,p,u,f,g,h,hl=>by
  have e:(told (b::s)).length=b.xs.length+(told s).length:=by simp[told]
  rw[e] at hl
  rw[pw]
  by_cases c:meets p b=true
  ·rw[if_pos c]
   obtain⟨a1,a2⟩:=zt all f (f+b.xs.length) (f - g+b.xs.length) u g f h (by omega) (by omega)
   obtain⟨b1,b2⟩:=vy all s (some b) _ (f+b.xs.length) f a1 (by rw[a2];omega)
   exact⟨b1,b2.trans a2⟩
  rw[if_neg c]
  exact vy all s (some b) u (f+b.xs.length) f h (by omega)
theorem By (s:List ax):UF (oo s)/\(oo s).length=(told s).length:=by
 have:=vy (told s) s none (iota (told s).length) 0 0 (qU _) (by rw[WV];omega)
 rw[WV] at this
 exact this
def Xb (s:List ax):List (List aB):=(ba (dR (oo s)) (told s).length).map fun l=>l.map fun m=>(told s).getD m gQ
def eP (s:List ax):List (List ax):=(Xb s).map a_
end Reg
namespace M
open Go.AM Go.RowKit Go.Lib
open Reg (UF fg Iu cO fY iota aB)
theorem sq (u:List Int) (hu:UF u) (i:Nat) (hi:i < u.length):aD C 143 [.pv (i64 i),.bb [.row 3 (aE u)]] (.p (i64 (cO i u i).2)) [.bb [.row 3 (aE (cO i u i).1)]]:=by
 refine qy hC Tryz.func143 rfl rfl 25 rfl (by decide) (by kernel_rfl) fun _ _ _ _ _=>⟨_,aW.open hC _ 100001 [90000] (by exact rfl) rfl rfl rfl,?_⟩
 obtain⟨R,hR⟩:∃R,R=cO i u i:=⟨_,rfl⟩
 rw[<-hR]
 refine yS<|yA Z<|yT<|au<|aZ ?_
 refine aI (fun x:Nat×List Int×Nat=>cO x.1 x.2.1 x.2.2=R/\UF x.2.1/\x.2.2 < x.2.1.length/\x.2.2<=x.1) (fun x=>[(1,.bx 100001 0),(0,.p (i64 x.2.2))]) (fun x=>[(100001,.box [.ow 90000]),(90000,.row 3 (aE x.2.1))]) (fun x=>x.2.2) (i,u,i) _ (aW.refl _ _) ⟨hR.symm,hu,hi,Nat.le_refl _⟩ ⟨Z,Z,Y⟩ ⟨Z,Z,Y⟩ fun ⟨n,v,k⟩ hx t h=>?_
 obtain⟨h1,h2,h3,h4⟩:=hx
 simp only at h1 h2 h3 h4
 obtain⟨j,l,hj,hl,q1,q2,q3,q4⟩:=xG h2 h3 h4
 have lv:=cg v
 (refine au<|yS<|yV Z<|yP Z<|yq Z<|bg zI ?_;refine And.intro ⟨by omega,by (try dsimp only);rw[lv];omega⟩ ?_)
 (refine bd<|bJ<|yq Z<|aK zI ?_;refine⟨[i64 j],(cY hj),?_⟩)
 (refine yk<|yP Z<|yP Z<|yT<|az Z ?_;refine aa (fun g=>?_) (fun g=>?_) <;> try simp only[zB] at g)
 ·have b8:j≠k:=by omega
  obtain⟨m,rfl,q5⟩:=q4 b8
  (refine aJ<|aj<|aZ<|au<|cH [] false yy rfl (by kernel_rfl)<|cG Z<|yW Z<|yD Z<|yW Z<|yW Z<|yD Z<|dq Z<|bg zI ?_;refine And.intro ⟨by omega,by (try dsimp only);rw[lv];omega⟩ ?_)
  (refine bB<|bJ<|dq Z<|aK zI ?_;refine⟨[i64 j],(cY hj),?_⟩)
  (refine bB<|ae<|dq Z<|bg zI ?_;refine And.intro ⟨by omega,by (try dsimp only);rw[lv];omega⟩ ?_)
  (refine bB<|bJ<|dq Z<|aK zI ?_;refine⟨[i64 l],(cY hl),?_⟩)
  (refine bB<|ae<|dq Z<|bg zI ?_;refine And.intro ⟨by omega,by (try dsimp only);rw[lv];omega⟩ ?_)
  (refine bB<|bJ<|dq Z<|aK zI ?_;refine⟨[i64 j],(cY hj),?_⟩)
  (refine iG Z<|aF<|an<|cn<|bz Z<|aj<|aM<|yV Z<|yP Z<|yq Z<|bg zI ?_;refine And.intro ⟨by omega,by (try dsimp only);rw[List.length_set,lv];omega⟩ ?_)
  (refine bd<|bJ<|yq Z<|aK zI ?_;refine⟨[i64 l],(by rw[List.getElem?_set_self (by (try dsimp only);rw[lv];omega)];rfl),?_⟩)
  (refine yk<|yA Z<|cL<|bp<|aj<|ai ?_;refine⟨(m,v.set k (l:Int),l),_,aW.refl _ _,?_⟩)
  exact⟨⟨by rw[<-q5];exact h1,(Reg.Is h2 hj hl).1,by simp only[List.length_set];omega,by dsimp only;omega⟩,by simp only;omega,⟨Z,Z,Y⟩,⟨rfl,congrArg (AB.row _) (eO v k l),trivial⟩⟩
 have e:j=k:=by omega
 have h1:=(q3 e).symm.trans h1
 subst h1
 refine bT<|aY<|aY<|bU<|aj<|yS<|yP Z<|yA Z<|yR zi ?_
 exact And.intro rfl (And.intro ⟨Z,Z,Y⟩ trivial)
def Xz (e:TypeId) (f:Nat->List PV) (l:List Nat):List HX:=[.row e (l.map f)]
def MJ (f:Nat->List PV) (l:List Nat):List PV:=[.sl (l.map f)]
theorem vz (e:TypeId) (f:Nat->List PV) (ls:List (List Nat)):tP (ls.map (Xz e f)):=fun r hr x hx=>by
 obtain⟨l,_,rfl⟩:=List.mem_map.1 hr
 simp only[Xz,List.mem_cons,List.not_mem_nil,or_false] at hx
 subst hx
 trivial
theorem tW (e:TypeId) (g:Nat->List PV) (f:AV->AV) (ls:List (List Nat)):(ls.map (Xz e g)).map (fun r=>r.map (HX.dm f))=ls.map (Xz e g):=by
 rw[List.map_map];rfl
theorem oR (e:TypeId) (f:Nat->List PV) (l:List Nat) (y:HX):(Xz e f l).set 0 y=[y]:=rfl
theorem gA (e:TypeId) (g:Nat->List PV) (f:AV->AV) (ls:List (List Nat)) (k d:Nat) (h:f (.ow d)=.ow d):((ls.map (Xz e g)).set k [.av (.ow d)]).map (fun r=>r.map (HX.dm f))=(ls.map (Xz e g)).set k [.av (.ow d)]:=by
 rw[List.map_set,tW]
 simp only[List.map_cons,List.map_nil,HX.dm,h]
theorem Ka (e:TypeId) (g:Nat->List PV) (f:AV->AV) (ls:List (List Nat)) (x:List (List HX)):(ls.map (Xz e g)++x).map (fun r=>r.map (HX.dm f))=ls.map (Xz e g)++x.map (fun r=>r.map (HX.dm f)):=by
 rw[List.map_append,tW]
theorem oS (e:TypeId) (g:Nat->List PV) (ls:List (List Nat)) (k d:Nat) (hk:k < ls.length):((ls.map (Xz e g)).set k [.av (.ow d)])[k]?=some [.av (.ow d)]:=List.getElem?_set_self (by rw[List.length_map];exact hk)
theorem ML (e:TypeId) (f:Nat->List PV) (ls:List (List Nat)):IV (ls.map (Xz e f)) (ls.map (MJ f)):=IV.map fun l _=>⟨rfl,fun j u v hu hv=>by
 match j with
 | 0=>
  simp only[Xz,MJ,List.getElem?_cons_zero,Option.some.injEq] at hu hv
  subst hu
  subst hv
  exact .row _ _
 | j+1=>simp[Xz] at hu⟩
end M
end Go.Proofs.YtpbkimanfahbgaaGreatDoor
