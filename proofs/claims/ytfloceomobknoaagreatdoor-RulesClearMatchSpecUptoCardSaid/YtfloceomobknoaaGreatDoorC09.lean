/- Part 9 of the proof of RulesClearMatchSpec. -/
import Derived.Test.YtfloceomobknoaaGreatDoorC08
set_option linter.unusedVariables false
set_option linter.unusedSimpArgs false
set_option maxRecDepth 100000
set_option maxHeartbeats 8000000
namespace Go
abbrev aeb:=@List.getElem?_replicate
abbrev abM:=@List.set_set
abbrev aec:=@List.ne_nil_of_mem
abbrev adL:=@List.length_pos_of_mem
abbrev aed:=@List.nodup_iff_pairwise_ne
abbrev abO:=@List.map_eq_nil_iff
end Go
namespace Go.Proofs.YtfloceomobknoaaGreatDoor
namespace M
open Go.AM Go.RowKit Go.Lib
open Reg (UF eh iota)
def sR(n i:Nat):List Int:=(List.range n).map fun (j:Nat)=>if j<i then (j:Int) else 0
theorem zp(n i:Nat):(sR n i).length=n:=by simp[sR]
theorem Fc{n i:Nat}(h:i<n):(sR n i)[i]?=some 0:=by
 rw[sR,aak,abP h];simp
theorem BK(n:Nat):aA (sR n 0)=List.replicate n [i64 0]:=by
 refine ach fun m=>?_;rw[aA,aak,sR,aak,aeb];by_cases h:m<n
 ·rw[abP h,aap h];rfl
 rw[aaa h,abI (by simp;omega)];rfl
theorem Fe(n:Nat):sR n n=iota n:=aaG fun j hj=>aap (abD.1 hj)
theorem Ff{n i:Nat}(h:i<n):(sR n i).set i (i:Int)=sR n (i+1):=by
 refine ach fun m=>?_;rw[Reg.ew (by rw[zp];exact h),sR,sR,aak,aak];by_cases e:m=i
 ·subst e;rw[aap rfl,abP h];simp
 rw[aaa e];by_cases hm:m<n
 ·rw[abP hm];simp only[ab6,Option.some.injEq];by_cases h2:m<i
  ·rw[aap h2,aap (by omega)]
  rw[aaa h2,aaa (by omega)]
 rw[abI (by simp;omega)];rfl
theorem KJ(n:Nat)(hn:n<=1000000000):af C 181 [.pv (i64 n)] (.hown [.row 3 (aA (iota n))]) []:=by
 refine UO ⟨[],[0],[],[],[],[]⟩ hC Tryz.func181 rfl (by kernel_rfl) fun _=>⟨_,au.refl _ _,?_⟩;refine⟨⟨by omega,by omega,by dsimp only;omega,by omega⟩,?_⟩;refine p7 (fun _:Unit=>True) (fun _=>[(3,.bx 8 0)]) (fun _=>[(8,.box [.ow 6]),(6,.row 3 (aA (iota n)))]) (fun _ hO t h=>?_) ?_
 ·exact⟨_,au.pack (by exact hC) _ 8 (cs:=[.row 3 (aA (iota n))]) (by exact rfl) (by exact rfl) (by exact⟨Z,Y⟩),And.intro rfl (And.intro rfl trivial)⟩
 refine aJ (fun i:Nat=>i<=n) (fun i=>[(3,.bx 8 0),(13,.p (i64 n)),(14,.p (i64 i))]) (fun i=>[(8,.box [.ow 6]),(6,.row 3 (aA (sR n i)))]) (fun i=>n-i) 0 _ (au.refl _ _) (aaj _) ⟨rfl,adV (fun m:Nat=>AV.p (i64 m)) aan,Z,Y⟩ ⟨rfl,by rw[BK];rfl,trivial⟩ fun i hi t h=>?_;have lv:=bQ (sR n i);have lu:=zp n i;refine iW ?_ ?_<;>intro h1
 ·refine⟨⟨by omega,by rw[lv];omega⟩,?_⟩;refine⟨[i64 0],(cM (Fc (by omega))),?_⟩;refine⟨⟨by omega,by omega⟩,?_⟩;exact⟨(i+1),_,au.refl _ _,by omega,by omega,⟨Z,Z,Z,Y⟩,⟨rfl,adV (AB.row _) ((fV _ _ _).trans (by rw[ad2,Ff (by omega)])),trivial⟩⟩
 have e:i=n:=by omega
 subst e;exact⟨(),trivial,⟨Z,Y⟩,⟨rfl,adV (AB.row _) (adV aA (Fe i)),trivial⟩⟩
theorem I4(k:IntKind)(a b:Int):Ak (.int k a) (.int k b)=decide (a=b):=rfl
theorem PJ{q:IntKind}{k:Int}{k':Value}(h:Ak (.int q k) k'=true):∃q',k'=.int q' k:=by
 cases k'<;>simp_all [Ak]
theorem mE(v:PV)(q:IntKind)(k n:Int):∀es:List (Value×PV),kz (mP es (.int q k) v) (.int q n)=if n=k then some v else kz es (.int q n)
 | []=>by
  simp only[mP,kz,I4];by_cases h:n=k<;>simp[h]
 | (k',u)::r=>by
  simp only[mP];cases h:Ak (.int q k) k'
  ·simp only[kz,mE v q k n r];by_cases e:n=k
   ·subst e;simp[h]
   simp[e]
  obtain⟨q',e⟩:=PJ h;subst e;simp only[kz,I4];by_cases e:n=k
  ·simp[e]
  rw[show Ak (Value.int q n) (Value.int q' k)=decide (n=k) from rfl];simp[e]
theorem Hy(u:List Int)(hu:UF u)(i r:Nat)(hr:eh u i r):af C 243 [.aN [.row 3 (aA u)],.pv (i64 i)] (.p (i64 r)) [.aN [.row 3 (aA (Reg.cw i u i).1)]]:=by
 have h:=vF u hu i hr.lt;rw[(Reg.fU i u i hu hr.lt (aam _)).root.uniq hr]at h;exact h
def hl(l:List Nat):List HX:=[.row 3 (aA (l.map fun (m:Nat)=>(m:Int)))]
def pl(l:List Nat):List PV:=[.sl (aA (l.map fun (m:Nat)=>(m:Int)))]
def ou(u:List Int):Nat->List Int
 | 0=>u
 | i+1=>(Reg.cw i (ou u i) i).1
structure PK(u:List Int)(i:Nat)(es:List (Value×PV)):Prop where
 le:i<=u.length
 key:∀(k r:Nat),(Reg.cd (Reg.cQ u) i)[k]?=some r->kz es (.int .i64 r)=some (i64 k)
theorem zq{u:List Int}(hu:UF u):∀i,i<=u.length->UF (ou u i)/\(ou u i).length=u.length/\∀m r,eh (ou u i) m r↔eh u m r
 | 0,_=>⟨hu,rfl,fun _ _=>aaT⟩
 | i+1,h=>by
  obtain⟨a,b,c⟩:=zq hu i (by omega);have t:=Reg.fU i (ou u i) i a (by omega) (aam _);exact⟨t.uf,t.len.trans b,fun m r=>(t.same m r).trans (c m r)⟩
theorem BL(ls:List (List Nat)):xH (ls.map hl):=fun r hr x hx=>by
 obtain⟨l,_,rfl⟩:=adS.1 hr;simp only[hl,adq,adI,or_false]at hx;subst hx;trivial
theorem zr(f:AV->AV)(ls:List (List Nat)):(ls.map hl).map (fun r=>r.map (HX.cS f))=ls.map hl:=by
 rw[ad6];rfl
theorem vG(l:List Nat)(y:HX):(hl l).set 0 y=[y]:=rfl
theorem ae3(f:AV->AV)(ls:List (List Nat))(k d:Nat)(h:f (.ow d)=.ow d):((ls.map hl).set k [.av (.ow d)]).map (fun r=>r.map (HX.cS f))=(ls.map hl).set k [.av (.ow d)]:=by
 rw[ad8,zr];simp only[aa8,ac0,HX.cS,h]
theorem SH(f:AV->AV)(ls:List (List Nat))(x:List (List HX)):(ls.map hl++x).map (fun r=>r.map (HX.cS f))=ls.map hl++x.map (fun r=>r.map (HX.cS f)):=by
 rw[abE,zr]
theorem vH(ls:List (List Nat))(k d:Nat)(hk:k<ls.length):((ls.map hl).set k [.av (.ow d)])[k]?=some [.av (.ow d)]:=ab7 (by rw[aej];exact hk)
theorem ux{α:Type}(l:List α)(x y:α)(n:Nat)(h:n=l.length):(l++[x]).set n y=l++[y]:=by subst h;simp
theorem Vn(ls:List (List Nat)):Oi (ls.map hl) (ls.map pl):=Oi.map fun l _=>⟨rfl,fun j u v hu hv=>by
 match j with
 | 0=>
  simp only[hl,pl,aa9,Option.some.injEq]at hu hv;subst hu;subst hv;exact .row _ _
 | j+1=>simp[hl]at hu⟩
theorem Hz(u:List Int)(hu:UF u)(hn:u.length<=1000000000):af C 183 [.aN [.row 3 (aA u)]] (.own 71 ((Reg.aP (Reg.cQ u) u.length).map pl)) [.aN [.row 3 (aA (ou u u.length))]]:=by
 refine UO ⟨[10],[0],[(10,[3,1000003,7])],[10],[(10,[true,true,true,false,true,true,true,true,true,true,true,true,false,true,true])],[]⟩ hC Tryz.func183 rfl (by kernel_rfl) fun _=>⟨_,au.open hC _ 100000 [90000] (by exact rfl) rfl rfl rfl,?_⟩;obtain⟨p,hp⟩:∃p,p=Reg.cQ u:=⟨_,rfl⟩;have hT:Reg.Dg p u.length:=hp▸Reg.rz hu;rw[<-hp];refine p7 (fun _:Unit=>True) (fun _=>[(0,.bx 100000 0),(3,.ow 3)]) (fun _=>[(100000,.aN [.row 3 (aA (ou u u.length))]),(3,.az 71 ((Reg.aP p u.length).map hl))]) (fun _ hO t h=>?_) ?_
 ·exact⟨_,au.ID (by exact hC) _ 2 ((Reg.aP p u.length).map pl) (e:=71) (by exact adV (AB.az _) (zr (rn 3 2) _)) (Vn _),And.intro rfl (And.intro rfl (And.intro rfl trivial))⟩
 refine aJ (fun x:Nat×List (Value×PV)=>PK u x.1 x.2) (fun x=>[(0,.bx 100000 0),(3,.ow 3),(4,.ow 7),(12,.p (i64 u.length)),(13,.p (i64 x.1))]) (fun x=>[(100000,.aN [.row 3 (aA (ou u x.1))]),(3,.az 71 ((Reg.aP p x.1).map hl)),(7,.map (.int .i64) x.2)]) (fun x=>u.length-x.1) (0,[]) _ ((au.pack (by exact hC) _ 100000 (cs:=[.row 3 (aA u)]) (by exact rfl) (by exact rfl) (by exact⟨Z,Y⟩)).trans ((au.dk (by exact hC) _ 3 71 _ (by decide) (by exact rfl) (by exact rfl) (by decide)).trans (au.Wg (by exact hC) _ 3 (e:=71) (es:=[]) (by exact rfl)))) ⟨aaj _,fun k r h=>by simp[Reg.cd]at h⟩ ⟨rfl,rfl,rfl,adV (fun m:Nat=>AV.p (i64 m)) (bQ u),Z,Y⟩ ⟨Z,Z,Z,Y⟩ fun ⟨i,es⟩ hx t h=>?_;obtain⟨h1,h2⟩:=hx;simp only at h1 h2;rw[<-hp]at h2;obtain⟨vu,vl,vr⟩:=zq hu i h1;refine iW ?_ ?_<;>intro g<;>try simp only[zB]at g
 ·have hr:eh (ou u i) i (p i):=(vr _ _).2 (by rw[hp];exact Reg.iM hu (by omega));refine⟨_,_,(Hy _ vu i (p i) hr),?_⟩;refine iW ?_ ?_<;>intro g2<;>try simp only[zB]at g2
  ·have e:p i=i:=by omega
   have nx:=Reg.Fa hT (show i<u.length by omega) e;have kl:(Reg.cd p i).length<=i:=Reg.qI p i;have sl:(Reg.aP p i).length=(Reg.cd p i).length:=Reg.oq p i;refine⟨⟨fun r hr=>by simp at hr;subst hr;rfl,by simp only[aej,aaM,aan];omega,by simp only[aej,aaM,aan];omega⟩,?_⟩;refine qy ((au.Sr (by exact hC) _ 3 (Reg.aP p i).length 0 (e:=71) (e':=3) (es:=(Reg.aP p i).map hl++[[.av .nl]]) (r:=[.av .nl]) (by exact adV (AB.az _) (by simp only[zr,SH];rfl)) (by rw[acu (by simp)];simp) (by exact rfl) (by exact rfl) (by decide)).trans (au.rq (by exact hC) _ 3 (Reg.aP p i).length 0 90001 (e:=71) (es:=(Reg.aP p i++[[]]).map hl) (e':=3) (r:=hl []) (xs:=[]) (by decide) (by decide) (by exact adV (AB.az _) (by rw[abE];refine (ux _ _ _ _ (aej _).symm).trans ?_;rfl)) (BL _) (by rw[abE,acu (by simp)];simp) (by exact rfl))) ?_;have Zt:∀v,kz (mP es (.int .i64 i) v) (.int .i64 (p i))=some v:=fun v=>by rw[mE,aap (by rw[e])]
   refine⟨(some _),(Zt _),?_⟩;refine⟨(some _),(Zt _),?_⟩;have e0:(List.map (fun r=>List.map (HX.cS (sc 18)) r) (List.map hl (Reg.aP p i))).length=(Reg.aP p i).length:=by simp
   refine⟨⟨by dsimp only;omega,by simp⟩,?_⟩;refine⟨[.av (.ow 90001)],(by rw[vG,ae3,ae3];rw[e0];exact vH (Reg.aP p i++[[]]) (Reg.aP p i).length 90001 (by simp);rfl;rfl),?_⟩;refine⟨⟨fun r hr=>by simp at hr;subst hr;rfl,by simp,by simp⟩,?_⟩;refine⟨⟨by dsimp only;omega,by simp⟩,?_⟩;refine⟨[.av (.ow 90001)],(by rw[vG,ae3,ae3];rw[e0];exact vH (Reg.aP p i++[[]]) (Reg.aP p i).length 90001 (by simp);rfl;rfl),?_⟩;refine⟨⟨by omega,by omega⟩,?_⟩;refine⟨(i+1,mP es (.int .i64 i) (i64 (Reg.aP p i).length)),_,au.Bm (by exact hC) _ 3 (Reg.aP p i).length 0 41 (e:=71) (es:=((Reg.aP p i++[[]]).map hl).set (Reg.aP p i).length [.av (.ow 41)]) (e':=3) (xs:=aA [(i:Int)]) (by decide) (by exact adV (AB.az _) (by rw[vG,ae3,ae3,e0];exact abM _;rfl;rfl)) (by exact rfl) (vH _ _ _ (by simp)) (by exact rfl),?_⟩;refine⟨⟨by omega,fun k r hk=>?_⟩,⟨by omega,⟨Z,Z,Z,Z,Z,Y⟩,⟨rfl,?_,adV (AB.map _) ?_,trivial⟩⟩⟩
   ·rw[<-hp,Reg.fE,aap e]at hk;rw[mE];by_cases LG:k<(Reg.cd p i).length
    ·rw[aaE LG]at hk;have:=(Reg.mem_keys.1 (aad hk)).1;rw[aaa (by omega)];exact h2 k r hk
    rw[acu (by omega)]at hk;have Im:k=(Reg.cd p i).length:=by
     have:=(aao.1 hk).1;simp at this;omega
    subst Im;simp only[aab,aa9,Option.some.injEq]at hk;subst hk;rw[aap rfl,sl]
   ·refine adV (AB.az _) ?_;show ((List.map hl (Reg.aP p i++[[]])).set _ _).set _ _=List.map hl (Reg.aP p (i+1));rw[abM,nx,abE,abE];exact ux _ _ _ _ (aej _).symm
   dsimp only;rw[e0];rfl
  have e:p i≠i:=by omega
  obtain⟨k,hk⟩:=Reg.Nv hT (show i<u.length by omega) e;obtain⟨nx,Gp⟩:=Reg.Fb e hk;have km:=h2 k (p i) hk;have SI:((Reg.aP p i).map hl)[k]?=some (hl (Reg.dh p i (p i))):=by rw[aak,Gp];rfl
  refine qy (au.rq (by exact hC) _ 3 k 0 90001 (e:=71) (by decide) (by decide) (by exact adV (AB.az _) (by simp only[zr])) (BL _) SI (by exact rfl)) ?_;refine⟨(some (i64 k)),km,?_⟩;refine⟨(some (i64 k)),km,?_⟩;have kl:=(aao.1 hk).1;have sl:(Reg.aP p i).length=(Reg.cd p i).length:=Reg.oq p i;refine⟨⟨by omega,by simp only[aej,aaM];omega⟩,?_⟩;refine⟨[.av (.ow 90001)],(by rw[vG,ae3,ae3];exact vH (Reg.aP p i) k 90001 (by omega);rfl;rfl),?_⟩;have ml:=Reg.qJ p i (p i);refine⟨⟨fun r hr=>by simp at hr;subst hr;rfl,by simp only[bQ,aej,aaM,aan];omega,by simp only[bQ,aej,aaM,aan];omega⟩,?_⟩;refine⟨⟨by omega,by simp only[aej,aaM];omega⟩,?_⟩;refine⟨[.av (.ow 90001)],(by rw[vG,ae3,ae3];exact vH (Reg.aP p i) k 90001 (by omega);rfl;rfl),?_⟩;refine⟨⟨by omega,by omega⟩,?_⟩;refine⟨(i+1,es),_,au.Bm (by exact hC) _ 3 k 0 41 (e:=71) (es:=((Reg.aP p i).map hl).set k [.av (.ow 41)]) (e':=3) (xs:=aA ((Reg.dh p i (p i)++[i]).map fun (m:Nat)=>(m:Int))) (by decide) (by exact adV (AB.az _) (by rw[vG,ae3,ae3];exact abM _;rfl;rfl)) (by exact adV (AB.row _) (by simp[aA];rfl)) (vH _ _ _ (by omega)) (by exact rfl),?_⟩;refine⟨⟨by omega,fun k' r xA=>?_⟩,⟨by omega,⟨Z,Z,Z,Z,Z,Y⟩,⟨rfl,?_,Z,Y⟩⟩⟩
  ·rw[<-hp,Reg.fE,aaa e]at xA;exact h2 k' r xA
  refine adV (AB.az _) ?_;show ((List.map hl (Reg.aP p i)).set _ _).set _ _=List.map hl (Reg.aP p (i+1));rw[abM,nx,ad8];rfl
 have e:i=u.length:=by omega
 subst e;exact⟨(),trivial,⟨Z,Z,Y⟩,⟨Z,Z,Y⟩⟩
end M
namespace Reg
def P4(K:Int)(r:ae):Prop:=(-K<=r.x0/\r.x0<=K)/\(-K<=r.y0/\r.y0<=K)/\(-K<=r.x1/\r.x1<=K)/\(-K<=r.y1/\r.y1<=K)
theorem Q8{K:Int}{r:ae}(h:Full r)(k:RK K r):P4 K r:=by
 obtain⟨h1,h2⟩:=h;obtain⟨k1,k2,k3,k4⟩:=k;exact⟨⟨by omega,by omega⟩,⟨by omega,by omega⟩,⟨by omega,by omega⟩,⟨by omega,by omega⟩⟩
theorem Nw{K:Int}{a b:ae}(ha:P4 K a)(hb:P4 K b):0<=fT a b/\fT a b<=2*K+1:=by
 obtain⟨a1,a2,a3,a4⟩:=ha;obtain⟨b1,b2,b3,b4⟩:=hb;simp only[fT,bA];omega
theorem agj{K:Int}{a b:ae}{n:Int}(h0:0<=n)(ha:P4 K a)(hb:P4 K b):(-K<=(jD a b n).1/\(jD a b n).1<=K)/\(-K<=(jD a b n).2/\(jD a b n).2<=K):=by
 obtain⟨a1,a2,a3,a4⟩:=ha;obtain⟨b1,b2,b3,b4⟩:=hb;simp only[jD];omega
def aez(f:Int)(l:List Int):Int:=l.foldl (fun f n=>if f<0\/n<f then n else f) f
theorem afZ(f n:Int)(l:List Int):aez f (n::l)=aez (if f<0\/n<f then n else f) l:=rfl
theorem agk(f:Int)(l m:List Int):aez f (l++m)=aez (aez f l) m:=by simp[aez,aaD]
theorem afc:∀(l:List Int) (f:Int),(∀n∈l,0<=n)->(∀n∈l,aez f l<=n)/\(aez f l=f\/aez f l∈l)/\(0<=f->aez f l<=f)/\(l≠[]->aez f l∈l\/(0<=f/\aez f l=f))
 | [],f,_=>⟨fun n h=>(by cases h),.inl rfl,fun _=>acP _,fun h=>absurd rfl h⟩
 | m::l,f,h=>by
  have h0:=h m adU;obtain⟨i1,i2,i3,i4⟩:=afc l (if f<0\/m<f then m else f) fun n hn=>h n (aaw _ hn);rw[afZ];by_cases c:f<0\/m<f
  ·rw[aap c]at i1 i2 i3 i4 ⊢;refine⟨fun n hn=>?_,?_,fun hf=>?_,fun _=>?_⟩
   ·rcases adq.1 hn with rfl | hn
    ·exact i3 h0
    exact i1 n hn
   ·rcases i2 with e | e
    ·exact .inr (by rw[e];exact adU)
    exact .inr (aaw _ e)
   ·have:=i3 h0;omega
   rcases i2 with e | e
   ·exact .inl (by rw[e];exact adU)
   exact .inl (aaw _ e)
  rw[aaa c]at i1 i2 i3 i4 ⊢;refine⟨fun n hn=>?_,?_,fun hf=>i3 hf,fun _=>?_⟩
  ·rcases adq.1 hn with rfl | hn
   ·have:=i3 (by omega);omega
   exact i1 n hn
  ·rcases i2 with e | e
   ·exact .inl e
   exact .inr (aaw _ e)
  rcases i2 with e | e
  ·exact .inr ⟨by omega,e⟩
  exact .inl (aaw _ e)
def aeA(a b:List ae):List Int:=a.flatMap fun x=>b.map (fT x)
def aeP(a b:List ae):Int:=aez (-1) (aeA a b)
def G2(n:Int)(s:Bool×Int×Int)(l:List (Int×Int×Int)):Bool×Int×Int:=l.foldl (fun s q=>if q.1=n/\(s.1=false\/aeW q.2 s.2=true) then (true,q.2) else s) s
theorem afi(n:Int)(s:Bool×Int×Int)(q:Int×Int×Int)(l:List (Int×Int×Int)):G2 n s (q::l)=G2 n (if q.1=n/\(s.1=false\/aeW q.2 s.2=true) then (true,q.2) else s) l:=rfl
theorem afC(n:Int)(s:Bool×Int×Int)(l m:List (Int×Int×Int)):G2 n s (l++m)=G2 n (G2 n s l) m:=by simp[G2,aaD]
def kg(n:Int)(x y:ae):Int×Int×Int:=(fT x y,jD x y n)
def aeT(a b:List ae)(n:Int):Int×Int:=(G2 n (false,0,0) (a.flatMap fun x=>b.map (kg n x))).2
def xu(p:Int×Int):ae:=⟨p.1,p.2,p.1+1,p.2+1⟩
def ahc(b:List ae)(p:Int×Int)(n:Int):Int×Int:=(G2 n (false,0,0) (b.map fun y=>kg n y (xu p))).2
structure Zu where
 a:Int
 b:Int
 dist:Int
 src:Int×Int
 dst:Int×Int
def afd(a b:List ae):Zu:=⟨0,0,aeP a b-1,aeT a b (aeP a b),ahc b (aeT a b (aeP a b)) (aeP a b)⟩
def PIn(K:Int)(p:Int×Int):Prop:=(-K<=p.1/\p.1<=K)/\(-K<=p.2/\p.2<=K)
theorem ag0{K:Int}(h0:0<=K){a b:List ae}(ha:∀r∈a,P4 K r)(hb:∀r∈b,P4 K r):(∀x∈a,∀y∈b,aeP a b<=fT x y)/\-1<=aeP a b/\aeP a b<=2*K+1/\(a≠[]->b≠[]->∃x∈a,∃y∈b,aeP a b=fT x y):=by
 have hm:∀n,n∈aeA a b↔∃x∈a,∃y∈b,fT x y=n:=fun n=>by simp[aeA]
 have hn:∀n∈aeA a b,0<=n/\n<=2*K+1:=fun n h=>by
  obtain⟨x,hx,y,hy,rfl⟩:=(hm n).1 h;exact Nw (ha x hx) (hb y hy)
 obtain⟨f1,f2,f3,f4⟩:=afc (aeA a b) (-1) fun n h=>(hn n h).1;refine⟨fun x hx y hy=>f1 _ ((hm _).2 ⟨x,hx,y,hy,rfl⟩),?_,?_,fun h1 h2=>?_⟩
 ·rcases f2 with e | e
  ·rw[aeP,e];omega
  have:=(hn _ e).1;rw[aeP];omega
 ·rcases f2 with e | e
  ·rw[aeP,e];omega
  have:=(hn _ e).2;rw[aeP];omega
 obtain⟨x,hx⟩:=aae _ h1;obtain⟨y,hy⟩:=aae _ h2;rcases f4 (aec ((hm _).2 ⟨x,hx,y,hy,rfl⟩)) with e | ⟨e,_⟩
 ·obtain⟨x',R0,y',hy',e'⟩:=(hm _).1 e;exact⟨x',R0,y',hy',e'.symm⟩
 omega
end Reg
namespace M
open Go.AM Go.RowKit Go.Lib
open Reg (ae P4 fT bA jD aeW aez aeA aeP G2 kg aeT ahc xu afd Zu PIn)
def pt(p:Int×Int):List PV:=[i64 p.1,i64 p.2]
def gc(g:Zu):List PV:=[i64 g.a,i64 g.b,i64 g.dist,i64 g.src.1,i64 g.src.2,i64 g.dst.1,i64 g.dst.2]
theorem BM(a b:ae)(ha:P4 1000000000 a)(hb:P4 1000000000 b):af C 98 [.pv (.ag (rc a)),.pv (.ag (rc b))] (.p (i64 (fT a b))) []:=by
 obtain⟨a1,a2,a3,a4⟩:=ha;obtain⟨b1,b2,b3,b4⟩:=hb;refine fW hC Tryz.func98 rfl (by kernel_rfl) fun _=>?_;refine⟨_,_,(r8 a.x0 a.x1 b.x0 b.x1 (by omega)),?_⟩;refine⟨_,_,(r8 a.y0 a.y1 b.y0 b.y1 (by omega)),?_⟩;refine⟨?_,trivial⟩;rfl
theorem af0(a b:ae)(n:Int)(ha:P4 1000000000 a)(hb:P4 1000000000 b)(hn:-1<=n/\n<=10000000000):af C 103 [.pv (.ag (rc a)),.pv (.ag (rc b)),.pv (i64 n)] (.p (.ag (pt (jD a b n)))) []:=by
 obtain⟨a1,a2,a3,a4⟩:=ha;obtain⟨b1,b2,b3,b4⟩:=hb;refine fW hC Tryz.func103 rfl (by kernel_rfl) fun _=>?_;refine⟨⟨by omega,by omega⟩,?_⟩;refine⟨⟨by omega,by omega⟩,?_⟩;refine⟨?_,trivial⟩;rfl
theorem af1(p q:Int×Int):af C 104 [.pv (.ag (pt p)),.pv (.ag (pt q))] (.p (bool (aeW p q))) []:=by
 refine fW hC Tryz.func104 rfl (by kernel_rfl) fun _=>?_;refine iW ?_ ?_<;>intro g1
 ·refine⟨?_,trivial⟩;simp only[aeW];simp[g1];rfl
 refine iW ?_ ?_<;>intro g2
 ·refine⟨?_,trivial⟩;simp only[aeW];simp[g2];rfl
 refine⟨?_,trivial⟩;simp only[aeW];simp[g1,g2];rfl
theorem drop_at{α:Type}{l:List α}{i:Nat}{x:α}(h:l[i]?=some x):l.drop i=x::l.drop (i+1):=by
 obtain⟨hi,e⟩:=aao.1 h;rw[acX hi,e]
theorem agw(a b:List ae)(ha:∀r∈a,P4 2000000 r)(hb':∀r∈b,P4 2000000 r)(na:a.length<=1000000000)(nb:b.length<=1000000000):af C 40 [.pv (aj a),.pv (aj b)] (.p (.ag (gc (afd a b)))) []:=by
 have up:∀r,P4 2000000 r->P4 1000000000 r:=fun r h=>by
  obtain⟨a1,a2,a3,a4⟩:=h;exact⟨by omega,by omega,by omega,by omega⟩
 obtain⟨R,hR⟩:∃R,R=aeP a b:=⟨_,rfl⟩;have ahM:afd a b=⟨0,0,R-1,aeT a b R,ahc b (aeT a b R) R⟩:=by rw[hR];rfl
 have hR4:=(Reg.ag0 (by omega) ha hb').2;rw[<-hR]at hR4;rw[ahM];have lm:=ai a rc;have sv:=ai b rc;refine fW hC Tryz.func40 rfl (by kernel_rfl) fun _=>?_;refine aJ (fun x:Nat×Int=>aez x.2 (aeA (a.drop x.1) b)=R/\-1<=x.2/\x.2<=100000000) (fun x=>[(0,.p (aj a)),(1,.p (aj b)),(4,.bx 4 0),(5,.p (i64 x.2)),(22,.p (aj a)),(23,.p (i64 a.length)),(24,.p (i64 x.1))]) (fun _=>[(4,.box [.p (i64 0),.p (i64 0),.p (i64 0),.p (i64 0),.p (i64 0),.p (i64 0),.p (i64 0)])]) (fun x=>a.length-x.1) (0,-1) _ (au.refl _ _) ⟨hR.symm,by decide,by decide⟩ ⟨rfl,rfl,rfl,rfl,rfl,adV (fun m:Nat=>AV.p (i64 m)) lm,Z,Y⟩ ⟨Z,Y⟩ fun ⟨i,f⟩ hx t h=>?_;obtain⟨h1,h2,h3⟩:=hx;simp only at h1 h2 h3;refine iW ?_ ?_<;>intro g<;>try simp only[zB]at g
 ·obtain⟨x,u3⟩:=ak (l:=a) (i:=i) (by omega);have px:=ha x (aad u3);rw[drop_at u3]at h1;have h1:aez (aez f (b.map (fT x))) (aeA (a.drop (i+1)) b)=R:=by rw[<-Reg.agk];exact h1
  refine⟨(rc x),(idx rfl u3),?_⟩;refine aJ (fun y:Nat×Int=>aez y.2 ((b.drop y.1).map (fT x))=aez f (b.map (fT x))/\-1<=y.2/\y.2<=100000000) (fun y=>[(0,.p (aj a)),(1,.p (aj b)),(4,.bx 4 0),(5,.p (i64 y.2)),(22,.p (aj a)),(23,.p (i64 a.length)),(24,.p (i64 i)),(7,.bx 7 0),(28,.p (aj b)),(29,.p (i64 b.length)),(30,.p (i64 y.1))]) (fun _=>[(4,.box [.p (i64 0),.p (i64 0),.p (i64 0),.p (i64 0),.p (i64 0),.p (i64 0),.p (i64 0)]),(7,.box [.p (i64 x.x0),.p (i64 x.y0),.p (i64 x.x1),.p (i64 x.y1)])]) (fun y=>b.length-y.1) (0,f) _ (au.refl _ _) ⟨rfl,h2,h3⟩ ⟨rfl,rfl,rfl,rfl,rfl,rfl,rfl,rfl,rfl,adV (fun m:Nat=>AV.p (i64 m)) sv,Z,Y⟩ ⟨Z,Z,Y⟩ fun ⟨j,f'⟩ hy t h=>?_;obtain⟨k1,k2,k3⟩:=hy;simp only at k1 k2 k3;refine iW ?_ ?_<;>intro g2<;>try simp only[zB]at g2
  ·obtain⟨y,wo⟩:=ak (l:=b) (i:=j) (by omega);have py:=hb' y (aad wo);rw[drop_at wo,aa8,Reg.afZ]at k1;have fl:=Reg.Nw px py;refine⟨(rc y),(idx rfl wo),?_⟩;refine⟨_,_,(BM x y (up x px) (up y py)),?_⟩;have nx:∀c:Prop,∀d:Decidable c,(c↔f' < 0\/fT x y<f')->aez (if c then fT x y else f') ((b.drop (j+1)).map (fT x))=aez f (b.map (fT x)):=fun c d hc=>by
    rw[<-k1];congr 1;by_cases h:c
    ·rw[aap h,aap (hc.1 h)]
    rw[aaa h,aaa fun e=>h (hc.2 e)]
   refine iW ?_ ?_<;>intro g3<;>try simp only[zB]at g3
   ·have nx:=nx True inferInstance ⟨fun _=>.inl g3,fun _=>trivial⟩;rw[aap trivial]at nx;refine⟨⟨by omega,by omega⟩,?_⟩;exact⟨(j+1,fT x y),_,au.refl _ _,⟨nx,by omega,by omega⟩,by omega,⟨Z,Z,Z,Z,Z,Z,Z,Z,Z,Z,Z,Y⟩,⟨Z,Z,Y⟩⟩
   refine iW ?_ ?_<;>intro g4<;>try simp only[zB]at g4
   ·have nx:=nx True inferInstance ⟨fun _=>.inr g4,fun _=>trivial⟩;rw[aap trivial]at nx;refine⟨⟨by omega,by omega⟩,?_⟩;exact⟨(j+1,fT x y),_,au.refl _ _,⟨nx,by omega,by omega⟩,by omega,⟨Z,Z,Z,Z,Z,Z,Z,Z,Z,Z,Z,Y⟩,⟨Z,Z,Y⟩⟩
   have nx:=nx False inferInstance ⟨fun h=>h.elim,fun h=>by omega⟩;rw[aaa (fun h=>h)]at nx;refine⟨⟨by omega,by omega⟩,?_⟩;exact⟨(j+1,f'),_,au.refl _ _,⟨nx,by omega,by omega⟩,by omega,⟨Z,Z,Z,Z,Z,Z,Z,Z,Z,Z,Z,Y⟩,⟨Z,Z,Y⟩⟩
  have e:b.length<=j:=by omega
  rw[ab1 e]at k1;have k1:f'=aez f (b.map (fT x)):=k1;subst k1;refine⟨⟨by omega,by omega⟩,?_⟩;exact⟨(i+1,aez f (b.map (fT x))),_,au.refl _ _,⟨h1,by omega,by omega⟩,by omega,⟨Z,Z,Z,Z,Z,Z,Z,Y⟩,⟨Z,Y⟩⟩
 have e:a.length<=i:=by omega
 rw[ab1 e]at h1;have h1:f=R:=h1;subst h1;refine⟨⟨by omega,by omega⟩,?_⟩;obtain⟨P,hP⟩:∃P,P=G2 f (false,0,0) (a.flatMap fun x=>b.map (kg f x)):=⟨_,rfl⟩;have ahG:aeT a b f=P.2:=by rw[hP];rfl
 rw[ahG];refine aJ (fun x:Nat×Bool×Int×Int=>G2 f x.2 ((a.drop x.1).flatMap fun x=>b.map (kg f x))=P/\PIn 2000000 x.2.2) (fun x=>[(0,.p (aj a)),(1,.p (aj b)),(4,.bx 4 0),(5,.p (i64 f)),(11,.bx 11 0),(12,.p (bool x.2.1)),(50,.p (aj a)),(51,.p (i64 a.length)),(52,.p (i64 x.1))]) (fun x=>[(4,.box [.p (i64 0),.p (i64 0),.p (i64 0),.p (i64 0),.p (i64 0),.p (i64 0),.p (i64 0)]),(11,.box [.p (i64 0),.p (i64 0),.p (i64 (f-1)),.p (i64 x.2.2.1),.p (i64 x.2.2.2),.p (i64 0),.p (i64 0)])]) (fun x=>a.length-x.1) (0,false,0,0) _ (au.refl _ _) ⟨hP.symm,⟨by decide,by decide⟩,⟨by decide,by decide⟩⟩ ⟨rfl,rfl,rfl,rfl,rfl,rfl,rfl,adV (fun m:Nat=>AV.p (i64 m)) lm,Z,Y⟩ ⟨Z,Z,Y⟩ fun ⟨i,st⟩ hx t h=>?_;obtain⟨h1,h2⟩:=hx;simp only at h1 h2;refine iW ?_ ?_<;>intro g<;>try simp only[zB]at g
 ·obtain⟨x,u3⟩:=ak (l:=a) (i:=i) (by omega);have px:=ha x (aad u3);rw[drop_at u3]at h1;have h1:G2 f (G2 f st (b.map (kg f x))) ((a.drop (i+1)).flatMap fun x=>b.map (kg f x))=P:=by rw[<-Reg.afC];exact h1
  refine⟨(rc x),(idx rfl u3),?_⟩;refine aJ (fun y:Nat×Bool×Int×Int=>G2 f y.2 ((b.drop y.1).map (kg f x))=G2 f st (b.map (kg f x))/\PIn 2000000 y.2.2) (fun y=>[(0,.p (aj a)),(1,.p (aj b)),(4,.bx 4 0),(5,.p (i64 f)),(11,.bx 11 0),(12,.p (bool y.2.1)),(50,.p (aj a)),(51,.p (i64 a.length)),(52,.p (i64 i)),(14,.bx 14 0),(56,.p (aj b)),(57,.p (i64 b.length)),(58,.p (i64 y.1))]) (fun y=>[(4,.box [.p (i64 0),.p (i64 0),.p (i64 0),.p (i64 0),.p (i64 0),.p (i64 0),.p (i64 0)]),(11,.box [.p (i64 0),.p (i64 0),.p (i64 (f-1)),.p (i64 y.2.2.1),.p (i64 y.2.2.2),.p (i64 0),.p (i64 0)]),(14,.box [.p (i64 x.x0),.p (i64 x.y0),.p (i64 x.x1),.p (i64 x.y1)])]) (fun y=>b.length-y.1) (0,st) _ (au.refl _ _) ⟨rfl,h2⟩ ⟨rfl,rfl,rfl,rfl,rfl,rfl,rfl,rfl,rfl,rfl,rfl,adV (fun m:Nat=>AV.p (i64 m)) sv,Z,Y⟩ ⟨Z,Z,Z,Y⟩ fun ⟨j,fd,p⟩ hy t h=>?_;obtain⟨k1,k2⟩:=hy;simp only at k1 k2;refine iW ?_ ?_<;>intro g2<;>try simp only[zB]at g2
  ·obtain⟨y,wo⟩:=ak (l:=b) (i:=j) (by omega);have py:=hb' y (aad wo);rw[drop_at wo,aa8,Reg.afi]at k1;have fl:=Reg.Nw px py;obtain⟨_,R0,_,hy',e'⟩:=hR4.2.2 (aec (aad u3)) (aec (aad wo));have fl':=Reg.Nw (ha _ R0) (hb' _ hy');rw[<-e']at fl';have ni:=Reg.agj fl'.1 px py;refine⟨(rc y),(idx rfl wo),?_⟩;refine⟨_,_,(af0 x y f (up x px) (up y py) (by omega)),?_⟩;refine⟨_,_,(BM x y (up x px) (up y py)),?_⟩;have keep:¬(fT x y=f/\(fd=false\/aeW (jD x y f) p=true))->G2 f (fd,p) ((b.drop (j+1)).map (kg f x))=G2 f st (b.map (kg f x)):=fun hc=>by
    rw[<-k1];congr 1;exact (aaa hc).symm
   have take:fT x y=f/\(fd=false\/aeW (jD x y f) p=true)->G2 f (true,jD x y f) ((b.drop (j+1)).map (kg f x))=G2 f st (b.map (kg f x)):=fun hc=>by
    rw[<-k1];congr 1;exact (aap hc).symm
   refine iW ?_ ?_<;>intro g3
   ·refine iW ?_ ?_<;>intro g4<;>try simp only[zB]at g4
    ·have nx:=take ⟨g3,.inl (by simpa using g4)⟩;refine⟨⟨by omega,by omega⟩,?_⟩;exact⟨(j+1,true,jD x y f),_,au.refl _ _,⟨nx,ni⟩,by omega,⟨Z,Z,Z,Z,Z,Z,Z,Z,Z,Z,Z,Z,Z,Y⟩,⟨Z,Z,Z,Y⟩⟩
    refine⟨_,_,(af1 (jD x y f) p),?_⟩;refine iW ?_ ?_<;>intro g5
    ·have nx:=take ⟨g3,.inr (by simpa using g5)⟩;refine⟨⟨by omega,by omega⟩,?_⟩;exact⟨(j+1,true,jD x y f),_,au.refl _ _,⟨nx,ni⟩,by omega,⟨Z,Z,Z,Z,Z,Z,Z,Z,Z,Z,Z,Z,Z,Y⟩,⟨Z,Z,Z,Y⟩⟩
    have nx:=keep fun ⟨_,hc⟩=>by rcases hc with hc | hc<;>simp_all
    refine⟨⟨by omega,by omega⟩,?_⟩;exact⟨(j+1,fd,p),_,au.refl _ _,⟨nx,k2⟩,by omega,⟨Z,Z,Z,Z,Z,Z,Z,Z,Z,Z,Z,Z,Z,Y⟩,⟨Z,Z,Z,Y⟩⟩
   have nx:=keep fun ⟨hc,_⟩=>by omega
   refine⟨⟨by omega,by omega⟩,?_⟩;exact⟨(j+1,fd,p),_,au.refl _ _,⟨nx,k2⟩,by omega,⟨Z,Z,Z,Z,Z,Z,Z,Z,Z,Z,Z,Z,Z,Y⟩,⟨Z,Z,Z,Y⟩⟩
  have e:b.length<=j:=by omega
  rw[ab1 e]at k1;have k1:(fd,p)=G2 f st (b.map (kg f x)):=k1;rw[<-k1]at h1;refine⟨⟨by omega,by omega⟩,?_⟩;exact⟨(i+1,fd,p),_,au.refl _ _,⟨h1,k2⟩,by omega,⟨Z,Z,Z,Z,Z,Z,Z,Z,Z,Y⟩,⟨Z,Z,Y⟩⟩
 have e:a.length<=i:=by omega
 rw[ab1 e]at h1;have h1:st=P:=h1;rw[<-h1];obtain⟨fd,p⟩:=st;obtain⟨⟨p1,p2⟩,p3,p4⟩:=h2;simp only at p1 p2 p3 p4;have h2:P4 2000001 (xu p):=⟨⟨by simp only[xu];omega,by simp only[xu];omega⟩,⟨by simp only[xu];omega,by simp only[xu];omega⟩,⟨by simp only[xu];omega,by simp only[xu];omega⟩,⟨by simp only[xu];omega,by simp only[xu];omega⟩⟩;have up1:∀r,P4 2000000 r->P4 2000001 r:=fun r h=>by
  obtain⟨a1,a2,a3,a4⟩:=h;exact⟨by omega,by omega,by omega,by omega⟩
 have up2:∀r,P4 2000001 r->P4 1000000000 r:=fun r h=>by
  obtain⟨a1,a2,a3,a4⟩:=h;exact⟨by omega,by omega,by omega,by omega⟩
 refine⟨⟨by dsimp only;omega,by dsimp only;omega⟩,?_⟩;refine⟨⟨by dsimp only;omega,by dsimp only;omega⟩,?_⟩;obtain⟨Q,hQ⟩:∃Q,Q=G2 f (false,0,0) (b.map fun y=>kg f y (xu p)):=⟨_,rfl⟩;have ZP:ahc b p f=Q.2:=by rw[hQ];rfl
 rw[ZP];refine aJ (fun x:Nat×Bool×Int×Int=>G2 f x.2 ((b.drop x.1).map fun y=>kg f y (xu p))=Q/\PIn 2000001 x.2.2) (fun x=>[(0,.p (aj a)),(1,.p (aj b)),(4,.bx 4 0),(5,.p (i64 f)),(11,.bx 11 0),(18,.bx 18 0),(12,.p (bool x.2.1)),(100,.p (aj b)),(101,.p (i64 b.length)),(102,.p (i64 x.1))]) (fun x=>[(4,.box [.p (i64 0),.p (i64 0),.p (i64 0),.p (i64 0),.p (i64 0),.p (i64 0),.p (i64 0)]),(11,.box [.p (i64 0),.p (i64 0),.p (i64 (f-1)),.p (i64 p.1),.p (i64 p.2),.p (i64 x.2.2.1),.p (i64 x.2.2.2)]),(18,.box [.p (i64 (xu p).x0),.p (i64 (xu p).y0),.p (i64 (xu p).x1),.p (i64 (xu p).y1)])]) (fun x=>b.length-x.1) (0,false,0,0) _ (au.refl _ _) ⟨hQ.symm,⟨by decide,by decide⟩,⟨by decide,by decide⟩⟩ ⟨rfl,rfl,rfl,rfl,rfl,rfl,rfl,rfl,adV (fun m:Nat=>AV.p (i64 m)) sv,Z,Y⟩ ⟨Z,Z,Z,Y⟩ fun ⟨i,yf,p'⟩ hx t h=>?_;obtain⟨k1,k2⟩:=hx;simp only at k1 k2;refine iW ?_ ?_<;>intro g<;>try simp only[zB]at g
 ·obtain⟨y,QW⟩:=ak (l:=b) (i:=i) (by omega);have py:=hb' y (aad QW);rw[drop_at QW,aa8,Reg.afi]at k1;refine⟨(rc y),(idx rfl QW),?_⟩;refine⟨_,_,(af0 y (xu p) f (up y py) (up2 _ h2) (by omega)),?_⟩;refine⟨_,_,(BM y (xu p) (up y py) (up2 _ h2)),?_⟩;have keep:¬(fT y (xu p)=f/\(yf=false\/aeW (jD y (xu p) f) p'=true))->G2 f (yf,p') ((b.drop (i+1)).map fun y=>kg f y (xu p))=Q:=fun hc=>by
   rw[<-k1];congr 1;exact (aaa hc).symm
  have take:fT y (xu p)=f/\(yf=false\/aeW (jD y (xu p) f) p'=true)->G2 f (true,jD y (xu p) f) ((b.drop (i+1)).map fun y=>kg f y (xu p))=Q:=fun hc=>by
   rw[<-k1];congr 1;exact (aap hc).symm
  have ni:fT y (xu p)=f->PIn 2000001 (jD y (xu p) f):=fun e=>Reg.agj (e▸(Reg.Nw (up1 y py) h2).1) (up1 y py) h2;refine iW ?_ ?_<;>intro g3
  ·refine iW ?_ ?_<;>intro g4<;>try simp only[zB]at g4
   ·have nx:=take ⟨g3,.inl (by simpa using g4)⟩;refine⟨⟨by omega,by omega⟩,?_⟩;exact⟨(i+1,true,jD y (xu p) f),_,au.refl _ _,⟨nx,ni g3⟩,by omega,⟨Z,Z,Z,Z,Z,Z,Z,Z,Z,Z,Y⟩,⟨Z,Z,Z,Y⟩⟩
   refine⟨_,_,(af1 (jD y (xu p) f) p'),?_⟩;refine iW ?_ ?_<;>intro g5
   ·have nx:=take ⟨g3,.inr (by simpa using g5)⟩;refine⟨⟨by omega,by omega⟩,?_⟩;exact⟨(i+1,true,jD y (xu p) f),_,au.refl _ _,⟨nx,ni g3⟩,by omega,⟨Z,Z,Z,Z,Z,Z,Z,Z,Z,Z,Y⟩,⟨Z,Z,Z,Y⟩⟩
   have nx:=keep fun ⟨_,hc⟩=>by rcases hc with hc | hc<;>simp_all
   refine⟨⟨by omega,by omega⟩,?_⟩;exact⟨(i+1,yf,p'),_,au.refl _ _,⟨nx,k2⟩,by omega,⟨Z,Z,Z,Z,Z,Z,Z,Z,Z,Z,Y⟩,⟨Z,Z,Z,Y⟩⟩
  have nx:=keep fun ⟨hc,_⟩=>by omega
  refine⟨⟨by omega,by omega⟩,?_⟩;exact⟨(i+1,yf,p'),_,au.refl _ _,⟨nx,k2⟩,by omega,⟨Z,Z,Z,Z,Z,Z,Z,Z,Z,Z,Y⟩,⟨Z,Z,Z,Y⟩⟩
 have e:b.length<=i:=by omega
 rw[ab1 e]at k1;have k1:(yf,p')=Q:=k1;subst k1;refine⟨?_,trivial⟩;rfl
open Reg (aU an bw bE cv IV bN bK told dJ a_ coreS ax Canon Full RK at')
end M
namespace Reg
end Reg
namespace M
open Go.AM Go.RowKit Go.Lib
open Reg (ae P4 Zu afd)
def rr(r:List ae):List PV:=[aj r]
end M
namespace Reg
def bg:ae:=⟨0,0,0,0⟩
def kK(a b:ae):Bool:=decide (a.x0<b.x1)&&decide (b.x0<a.x1)
def ov(all:List ae)(f e:Nat):Nat->List Int->Nat->Nat->List Int
 | 0,u,_,_=>u
 | n+1,u,i,j=>if i<f/\j<e then
   ov all f e n (if kK (all.getD i bg) (all.getD j bg)=true then gj u i j else u)
    (if (all.getD i bg).x1<(all.getD j bg).x1 then i+1 else i)
    (if (all.getD i bg).x1<(all.getD j bg).x1 then j else j+1)
  else u
def meets(p:Option an)(b:an):Bool:=match p with
 | some q=>decide (q.y1=b.y0)
 | none=>false
def pW(all:List ae):Option an->List an->List Int->Nat->Nat->List Int
 | _,[],u,_,_=>u
 | p,b::s,u,f,g=>pW all (some b) s (if meets p b=true then ov all f (f+b.xs.length) (f-g+b.xs.length) u g f else u) (f+b.xs.length) f
def jE(s:List an):List Int:=pW (told s) none s (iota (told s).length) 0 0
theorem xP(all:List ae)(f e:Nat):∀(n:Nat) (u:List Int) (i j:Nat),UF u->f<=u.length->e<=u.length->UF (ov all f e n u i j)/\(ov all f e n u i j).length=u.length
 | 0,u,i,j,h,_,_=>⟨h,rfl⟩
 | n+1,u,i,j,h,hf,he=>by
  rw[ov];by_cases c:i<f/\j<e
  ·rw[aap c];by_cases o:kK (all.getD i bg) (all.getD j bg)=true
   ·rw[aap o];obtain⟨a,b⟩:=mC h (i:=i) (k:=j) (by omega) (by omega);obtain⟨c1,c2⟩:=xP all f e n _ (if (all.getD i bg).x1<(all.getD j bg).x1 then i+1 else i) (if (all.getD i bg).x1<(all.getD j bg).x1 then j else j+1) a (by omega) (by omega);exact⟨c1,c2.trans b⟩
   rw[aaa o];exact xP all f e n u _ _ h hf he
  rw[aaa c];exact⟨h,rfl⟩
theorem zu(all:List ae):∀(s:List an) (p:Option an) (u:List Int) (f g:Nat),UF u->f+(told s).length<=u.length->UF (pW all p s u f g)/\(pW all p s u f g).length=u.length
 | [],p,u,f,g,h,_=>⟨h,rfl⟩
 | b::s,p,u,f,g,h,hl=>by
  have e:(told (b::s)).length=b.xs.length+(told s).length:=by simp[told]
  rw[e]at hl;rw[pW];by_cases c:meets p b=true
  ·rw[aap c];obtain⟨a1,a2⟩:=xP all f (f+b.xs.length) (f-g+b.xs.length) u g f h (by omega) (by omega);obtain⟨b1,b2⟩:=zu all s (some b) _ (f+b.xs.length) f a1 (by rw[a2];omega);exact⟨b1,b2.trans a2⟩
  rw[aaa c];exact zu all s (some b) u (f+b.xs.length) f h (by omega)
theorem zv(s:List an):UF (jE s)/\(jE s).length=(told s).length:=by
 have:=zu (told s) s none (iota (told s).length) 0 0 (ny _) (by rw[aeM];omega);rw[aeM]at this;exact this
def ox(s:List an):List (List ae):=(aP (cQ (jE s)) (told s).length).map fun l=>l.map fun m=>(told s).getD m bg
def cV(s:List an):List (List an):=(ox s).map aB
end Reg
namespace M
open Go.AM Go.RowKit Go.Lib
open Reg (UF eh Nt cw fU iota ae)
theorem vI(u:List Int)(hu:UF u)(i:Nat)(hi:i<u.length):af C 242 [.pv (i64 i),.aN [.row 3 (aA u)]] (.p (i64 (cw i u i).2)) [.aN [.row 3 (aA (cw i u i).1)]]:=by
 refine UP ⟨[],[],[],[],[],[]⟩ hC Tryz.func242 rfl (by kernel_rfl) fun _=>⟨_,au.open hC _ 100001 [90000] (by exact rfl) rfl rfl rfl,?_⟩;obtain⟨R,hR⟩:∃R,R=cw i u i:=⟨_,rfl⟩;rw[<-hR];refine aJ (fun x:Nat×List Int×Nat=>cw x.1 x.2.1 x.2.2=R/\UF x.2.1/\x.2.2<x.2.1.length/\x.2.2<=x.1) (fun x=>[(1,.bx 100001 0),(0,.p (i64 x.2.2))]) (fun x=>[(100001,.box [.ow 90000]),(90000,.row 3 (aA x.2.1))]) (fun x=>x.2.2) (i,u,i) _ (au.refl _ _) ⟨hR.symm,hu,hi,aam _⟩ ⟨Z,Z,Y⟩ ⟨Z,Z,Y⟩ fun ⟨n,v,k⟩ hx t h=>?_;obtain⟨h1,h2,h3,h4⟩:=hx;simp only at h1 h2 h3 h4;obtain⟨j,l,hj,hl,q1,q2,q3,q4⟩:=BJ h2 h3 h4;have lv:=bQ v;refine⟨⟨by omega,by (try dsimp only);rw[lv];omega⟩,?_⟩;refine⟨[i64 j],(cM hj),?_⟩;refine iW ?_ ?_<;>intro g<;>try simp only[zB]at g
 ·have b8:j≠k:=by omega
  obtain⟨m,rfl,q5⟩:=q4 b8;refine⟨⟨by omega,by (try dsimp only);rw[lv];omega⟩,?_⟩;refine⟨[i64 j],(cM hj),?_⟩;refine⟨⟨by omega,by (try dsimp only);rw[lv];omega⟩,?_⟩;refine⟨[i64 l],(cM hl),?_⟩;refine⟨⟨by omega,by (try dsimp only);rw[lv];omega⟩,?_⟩;refine⟨[i64 j],(cM hj),?_⟩;refine⟨⟨by omega,by (try dsimp only);rw[List.length_set,lv];omega⟩,?_⟩;refine⟨[i64 l],(by rw[List.getElem?_set_self (by (try dsimp only);rw[lv];omega)];rfl),?_⟩;exact⟨(m,v.set k (l:Int),l),_,au.refl _ _,⟨by rw[<-q5];exact h1,(Reg.Ns h2 hj hl).1,by simp only[List.length_set];omega,by dsimp only;omega⟩,by simp only;omega,⟨Z,Z,Y⟩,⟨rfl,congrArg (AB.row _) (fV v k l),trivial⟩⟩
 have e:j=k:=by omega
 have h1:=(q3 e).symm.trans h1;subst h1;exact And.intro rfl (And.intro ⟨Z,Z,Y⟩ trivial)
def vJ(e:TypeId)(f:Nat->List PV)(l:List Nat):List HX:=[.row e (l.map f)]
def SJ(f:Nat->List PV)(l:List Nat):List PV:=[.sl (l.map f)]
theorem zw(e:TypeId)(f:Nat->List PV)(ls:List (List Nat)):xH (ls.map (vJ e f)):=fun r hr x hx=>by
 obtain⟨l,_,rfl⟩:=adS.1 hr;simp only[vJ,adq,adI,or_false]at hx;subst hx;trivial
theorem xQ(e:TypeId)(g:Nat->List PV)(f:AV->AV)(ls:List (List Nat)):(ls.map (vJ e g)).map (fun r=>r.map (HX.cS f))=ls.map (vJ e g):=by
 rw[ad6];rfl
theorem afo(e:TypeId)(f:Nat->List PV)(l:List Nat)(y:HX):(vJ e f l).set 0 y=[y]:=rfl
theorem iC(e:TypeId)(g:Nat->List PV)(f:AV->AV)(ls:List (List Nat))(k d:Nat)(h:f (.ow d)=.ow d):((ls.map (vJ e g)).set k [.av (.ow d)]).map (fun r=>r.map (HX.cS f))=(ls.map (vJ e g)).set k [.av (.ow d)]:=by
 rw[ad8,xQ];simp only[aa8,ac0,HX.cS,h]
theorem PL(e:TypeId)(g:Nat->List PV)(f:AV->AV)(ls:List (List Nat))(x:List (List HX)):(ls.map (vJ e g)++x).map (fun r=>r.map (HX.cS f))=ls.map (vJ e g)++x.map (fun r=>r.map (HX.cS f)):=by
 rw[abE,xQ]
theorem rB(e:TypeId)(g:Nat->List PV)(ls:List (List Nat))(k d:Nat)(hk:k<ls.length):((ls.map (vJ e g)).set k [.av (.ow d)])[k]?=some [.av (.ow d)]:=ab7 (by rw[aej];exact hk)
theorem SK(e:TypeId)(f:Nat->List PV)(ls:List (List Nat)):Oi (ls.map (vJ e f)) (ls.map (SJ f)):=Oi.map fun l _=>⟨rfl,fun j u v hu hv=>by
 match j with
 | 0=>
  simp only[vJ,SJ,aa9,Option.some.injEq]at hu hv;subst hu;subst hv;exact .row _ _
 | j+1=>simp[vJ]at hu⟩
open Reg (gj bg kK ov meets pW jE ox cV bE cv an told aB bw)
theorem getD_at{l:List ae}{i:Nat}{r:ae}(h:l[i]?=some r):l.getD i bg=r:=by rw[ad4,h];rfl
def qK(s:List an)(k:Nat):Option an:=if k=0 then none else s[k-1]?
theorem prev_next{s:List an}{k:Nat}{b:an}(h:s[k]?=some b):qK s (k+1)=some b:=by rw[qK,aaa (by omega)];exact h
theorem KL(b:an)(s:List an):(told (b::s)).length=b.xs.length+(told s).length:=by simp[told]
theorem KM(l:Reg.aU):((((flat l).map fun n=>[i64 n]).length:Nat):Int).tdiv 2=(l.length:Nat):=by
 rw[aej,eY,abk (by omega)];omega
theorem Fi(s:List an)(hs:bE s)(ks:cv 1400000 s)(hN:(told s).length<=1000000000):af C 177 [.pv (aw s)] (.own 59 ((cV s).map fun p=>[aw p])) []:=by
 have ls:=Reg.cc hs (by omega) ks;have lx:=Reg.kT hs (by omega) ks;have lt:=Reg.fj hs ks;have ms:=ai s hb;obtain⟨N,Vo⟩:∃N,N=(told s).length:=⟨_,rfl⟩;have la:=ai (told s) rc;refine uX ⟨[19,36],[],[(36,[17,1000017,19,1000019,136])],[36],[],[]⟩ hC Tryz.func177 rfl (by kernel_rfl) fun _=>?_;refine⟨_,_,(ae6 s (by omega) (fun t ht=>by have:=lx t ht;omega) lt),?_⟩;refine⟨⟨by omega,by omega,by dsimp only;omega,by omega⟩,?_⟩;refine aJ (fun i:Nat=>i<=N) (fun i=>[(0,.p (aw s)),(3,.p (aj (told s))),(4,.bx 4 0),(32,.p (i64 N)),(33,.p (i64 i))]) (fun i=>[(4,.box [.ow 30]),(30,.row 3 (aA (sR N i)))]) (fun i=>N-i) 0 _ (au.own (by exact hC) _ 3 (id:=3) (by exact rfl) (by exact rfl)) (aaj _) ⟨rfl,rfl,rfl,adV (fun m:Nat=>AV.p (i64 m)) (by rw[Vo];simp),Z,Y⟩ ⟨rfl,by rw[BK,Vo,<-la];rfl,trivial⟩ fun i hi t h=>?_;have lv:=bQ (sR N i);have lu:=zp N i;refine iW ?_ ?_<;>intro h1
 ·refine⟨⟨by omega,by rw[lv];omega⟩,?_⟩;refine⟨[i64 0],(cM (Fc (by omega))),?_⟩;refine⟨⟨by omega,by omega⟩,?_⟩;exact⟨(i+1),_,au.refl _ _,by omega,by omega,⟨Z,Z,Z,Z,Z,Y⟩,⟨rfl,adV (AB.row _) ((fV _ _ _).trans (by rw[ad2,Ff (by omega)])),trivial⟩⟩
 have e:i=N:=by omega
 subst e;rw[Fe];obtain⟨U,hU⟩:∃U,U=jE s:=⟨_,rfl⟩;obtain⟨all,aeL⟩:∃all,all=told s:=⟨_,rfl⟩;have hU':pW all none s (iota i) 0 0=U:=by rw[hU,Vo,aeL];rfl
 have Zv:all.length=i:=by rw[Vo,aeL]
 rw[<-aeL]at la ⊢;refine aJ (fun x:Nat×List Int×Nat×Nat=>pW all (qK s x.1) (s.drop x.1) x.2.1 x.2.2.1 x.2.2.2=U/\UF x.2.1/\x.2.1.length=i/\x.2.2.1+(told (s.drop x.1)).length=i/\x.2.2.2<=x.2.2.1/\x.1<=s.length) (fun x=>[(0,.p (aw s)),(3,.p (aj all)),(4,.bx 4 0),(6,.fn 242 [.bx 4 0]),(7,.p (i64 x.2.2.1)),(8,.p (i64 x.2.2.2)),(42,.p (aw s)),(43,.p (i64 s.length)),(44,.p (i64 x.1))]) (fun x=>[(4,.aN [.row 3 (aA x.2.1)])]) (fun x=>s.length-x.1) (0,iota i,0,0) _ (au.pack (by exact hC) _ 4 (cs:=[.row 3 (aA (iota i))]) (by exact rfl) (by exact rfl) (by exact⟨Z,Y⟩)) ⟨hU',Reg.ny _,Reg.aeM _,by simp only[List.drop_zero,abC];rw[Vo],aam _,aaj _⟩ ⟨rfl,rfl,rfl,rfl,rfl,rfl,rfl,adV (fun m:Nat=>AV.p (i64 m)) ms,Z,Y⟩ ⟨Z,Y⟩ fun ⟨k,u,f,g⟩ hx t h=>?_;obtain⟨c1,c2,c3,c4,c5,c6⟩:=hx;simp only at c1 c2 c3 c4 c5 c6;refine iW ?_ ?_<;>intro g1<;>try simp only[zB]at g1
 ·obtain⟨b,BD⟩:=ak (l:=s) (i:=k) (by omega);rw[drop_at BD]at c1 c4;rw[KL]at c4;rw[pW,<-prev_next BD]at c1;have hf:=KM b.xs;have lf:((flat b.xs).map fun n=>[i64 n]).length=2*b.xs.length:=by rw[aej,eY]
  refine⟨(hb b),(idx rfl BD),?_⟩;refine⟨by decide,?_⟩;refine⟨⟨by rw[hf];omega,by rw[hf];omega⟩,?_⟩;have skip:Reg.meets (qK s k) b=false->pW all (qK s (k+1)) (s.drop (k+1)) u (f+b.xs.length) f=U:=fun hm=>by
   rw[hm]at c1;exact c1
  refine iW ?_ ?_<;>intro g2<;>try simp only[zB]at g2
  ·obtain⟨q,hq⟩:=ak (l:=s) (i:=k-1) (by omega);have hpv:qK s k=some q:=by rw[qK,aaa (by omega)];exact hq
   refine⟨⟨by omega,by omega⟩,?_⟩;refine⟨(hb q),(idx (show (k:Int)-1=((k-1:Nat):Int) by omega) hq),?_⟩;refine iW ?_ ?_<;>intro g3
   ·have hm:Reg.meets (qK s k) b=true:=by rw[hpv];simpa [Reg.meets] using g3
    rw[hm,aap rfl]at c1;refine aJ (fun y:Nat×List Int×Nat×Nat=>ov all f (f+b.xs.length) y.1 y.2.1 y.2.2.1 y.2.2.2=ov all f (f+b.xs.length) (f-g+b.xs.length) u g f/\UF y.2.1/\y.2.1.length=i/\(f-y.2.2.1)+(f+b.xs.length-y.2.2.2)<=y.1/\y.2.2.1<=f/\y.2.2.2<=f+b.xs.length) (fun y=>[(0,.p (aw s)),(3,.p (aj all)),(4,.bx 4 0),(6,.fn 242 [.bx 4 0]),(7,.p (i64 f)),(8,.p (i64 g)),(42,.p (aw s)),(43,.p (i64 s.length)),(44,.p (i64 k)),(11,.p (i64 b.xs.length)),(12,.p (i64 y.2.2.1)),(13,.p (i64 y.2.2.2))]) (fun y=>[(4,.aN [.row 3 (aA y.2.1)])]) (fun y=>(f-y.2.2.1)+(f+b.xs.length-y.2.2.2)) (f-g+b.xs.length,u,g,f) _ (au.refl _ _) ⟨rfl,c2,c3,by simp only;omega,by simp only;omega,by simp only;omega⟩ ⟨rfl,rfl,rfl,rfl,rfl,rfl,rfl,rfl,rfl,by rw[<-hf];rfl,Z,Z,Y⟩ ⟨Z,Y⟩ fun ⟨n,v,p,q'⟩ hy t h=>?_;obtain⟨z1,z2,z3,z4,z5,z6⟩:=hy;simp only at z1 z2 z3 z4 z5 z6;have stop:¬(p<f/\q' < f+b.xs.length)->v=ov all f (f+b.xs.length) (f-g+b.xs.length) u g f:=fun hc=>by
     rw[<-z1];cases n with
     | zero=>rfl
     | succ n=>rw[ov,aaa hc]
    refine iW ?_ ?_<;>intro e1<;>try simp only[zB]at e1
    ·refine⟨⟨by omega,by omega⟩,?_⟩;refine iW ?_ ?_<;>intro e2<;>try simp only[zB]at e2
     ·obtain⟨n,rfl⟩:∃n',n=n'+1:=⟨n-1,by omega⟩;rw[ov,aap (by omega)]at z1;obtain⟨x,hx⟩:=ak (l:=all) (i:=p) (by omega);obtain⟨y,hy⟩:=ak (l:=all) (i:=q') (by omega);rw[getD_at hx,getD_at hy]at z1;have Ln:∀(w:List Int),(if kK x y=true then gj v p q' else v)=w->(x.x1<y.x1->ov all f (f+b.xs.length) n w (p+1) q'=ov all f (f+b.xs.length) (f-g+b.xs.length) u g f)/\(¬x.x1<y.x1->ov all f (f+b.xs.length) n w p (q'+1)=ov all f (f+b.xs.length) (f-g+b.xs.length) u g f):=fun w hw=>by
       rw[hw]at z1;exact⟨fun hc=>by rw[aap hc,aap hc]at z1;exact z1,fun hc=>by rw[aaa hc,aaa hc]at z1;exact z1⟩
      refine⟨(rc x),(idx rfl hx),?_⟩;refine⟨(rc y),(idx rfl hy),?_⟩;refine iW ?_ ?_<;>intro e3
      ·refine⟨(rc y),(idx rfl hy),?_⟩;refine⟨(rc x),(idx rfl hx),?_⟩;refine iW ?_ ?_<;>intro e4
       ·have Ln:=Ln _ (aap (by simp only[kK,aaZ,aaH];exact⟨e3,e4⟩));have a:=Reg.fU p v p z2 (by omega) (aam _);have b':=Reg.fU q' (cw p v p).1 q' a.uf (by rw[a.len];omega) (aam _);have ra:=(aao.1 ((b'.same _ _).2 ((a.same _ _).2 a.root)).top).1;have rb:=(aao.1 ((b'.same _ _).2 b'.root).top).1;have E9:((max ((cw p v p).2:Int) ((cw q' (cw p v p).1 q').2:Int))).toNat=max (cw p v p).2 (cw q' (cw p v p).1 q').2:=by omega
        have lv:=bQ (cw q' (cw p v p).1 q').1;obtain⟨ju,jl⟩:=Reg.mC z2 (i:=p) (k:=q') (by omega) (by omega);refine⟨_,_,(vI v z2 p (by omega)),?_⟩;refine⟨_,_,(vI (cw p v p).1 a.uf q' (by rw[a.len];omega)),?_⟩;refine qy (au.open (by exact hC) _ 4 [30] (by exact rfl) rfl rfl rfl) ?_;obtain⟨z,hz⟩:∃z,(cw q' (cw p v p).1 q').1[max (cw p v p).2 (cw q' (cw p v p).1 q').2]?=some z:=⟨_,acg (by omega)⟩;refine⟨⟨by omega,by rw[lv];omega⟩,?_⟩;refine⟨[i64 z],(by rw[E9];exact cM hz),?_⟩;have mT:∀(m:Nat) (c:Int),m=max (cw p v p).2 (cw q' (cw p v p).1 q').2->c=min ((cw p v p).2:Int) ((cw q' (cw p v p).1 q').2:Int)->AB.row 3 ((aA (cw q' (cw p v p).1 q').1).set m [i64 c])=AB.row 3 (aA (gj v p q')):=fun m c e1 e2=>by
         subst e1;subst e2;rw[fV,gj];congr 3;omega
        refine⟨(rc x),(idx rfl hx),?_⟩;refine⟨(rc y),(idx rfl hy),?_⟩;refine iW ?_ ?_<;>intro e5
        ·have nx:=Ln.1 e5;refine⟨⟨by dsimp only;omega,by dsimp only;omega⟩,?_⟩;refine⟨(n,gj v p q',p+1,q'),_,au.pack (by exact hC) _ 4 (cs:=[.row 3 (aA (gj v p q'))]) (by exact rfl) (by exact rfl) (by exact⟨mT _ _ E9 rfl,trivial⟩),?_⟩;exact⟨⟨nx,ju,jl.trans z3,by simp only;omega,by simp only;omega,by simp only;omega⟩,by simp only;omega,⟨Z,Z,Z,Z,Z,Z,Z,Z,Z,Z,Z,Z,Y⟩,⟨Z,Y⟩⟩
        have nx:=Ln.2 e5;refine⟨⟨by dsimp only;omega,by dsimp only;omega⟩,?_⟩;refine⟨(n,gj v p q',p,q'+1),_,au.pack (by exact hC) _ 4 (cs:=[.row 3 (aA (gj v p q'))]) (by exact rfl) (by exact rfl) (by exact⟨mT _ _ E9 rfl,trivial⟩),?_⟩;exact⟨⟨nx,ju,jl.trans z3,by simp only;omega,by simp only;omega,by simp only;omega⟩,by simp only;omega,⟨Z,Z,Z,Z,Z,Z,Z,Z,Z,Z,Z,Z,Y⟩,⟨Z,Y⟩⟩
       have Ln:=Ln _ (aaa (by simp only[kK,aaZ,aaH];exact fun hc=>e4 hc.2));refine⟨(rc x),(idx rfl hx),?_⟩;refine⟨(rc y),(idx rfl hy),?_⟩;refine iW ?_ ?_<;>intro e5
       ·have nx:=Ln.1 e5;refine⟨⟨by dsimp only;omega,by dsimp only;omega⟩,?_⟩;exact⟨(n,v,p+1,q'),_,au.refl _ _,⟨nx,z2,z3,by simp only;omega,by simp only;omega,by simp only;omega⟩,by simp only;omega,⟨Z,Z,Z,Z,Z,Z,Z,Z,Z,Z,Z,Z,Y⟩,⟨Z,Y⟩⟩
       have nx:=Ln.2 e5;refine⟨⟨by dsimp only;omega,by dsimp only;omega⟩,?_⟩;exact⟨(n,v,p,q'+1),_,au.refl _ _,⟨nx,z2,z3,by simp only;omega,by simp only;omega,by simp only;omega⟩,by simp only;omega,⟨Z,Z,Z,Z,Z,Z,Z,Z,Z,Z,Z,Z,Y⟩,⟨Z,Y⟩⟩
      have Ln:=Ln _ (aaa (by simp only[kK,aaZ,aaH];exact fun hc=>e3 hc.1));refine⟨(rc x),(idx rfl hx),?_⟩;refine⟨(rc y),(idx rfl hy),?_⟩;refine iW ?_ ?_<;>intro e5
      ·have nx:=Ln.1 e5;refine⟨⟨by dsimp only;omega,by dsimp only;omega⟩,?_⟩;exact⟨(n,v,p+1,q'),_,au.refl _ _,⟨nx,z2,z3,by simp only;omega,by simp only;omega,by simp only;omega⟩,by simp only;omega,⟨Z,Z,Z,Z,Z,Z,Z,Z,Z,Z,Z,Z,Y⟩,⟨Z,Y⟩⟩
      have nx:=Ln.2 e5;refine⟨⟨by dsimp only;omega,by dsimp only;omega⟩,?_⟩;exact⟨(n,v,p,q'+1),_,au.refl _ _,⟨nx,z2,z3,by simp only;omega,by simp only;omega,by simp only;omega⟩,by simp only;omega,⟨Z,Z,Z,Z,Z,Z,Z,Z,Z,Z,Z,Z,Y⟩,⟨Z,Y⟩⟩
     have st:=stop (by omega);refine⟨⟨by omega,by omega⟩,?_⟩;refine⟨⟨by omega,by omega⟩,?_⟩;exact⟨(k+1,v,f+b.xs.length,f),_,au.refl _ _,⟨by rw[st];exact c1,z2,z3,by simp only;omega,by simp only;omega,by simp only;omega⟩,by omega,⟨Z,Z,Z,Z,Z,Z,Z,Z,Z,Y⟩,⟨Z,Y⟩⟩
    have st:=stop (by omega);refine⟨⟨by omega,by omega⟩,?_⟩;refine⟨⟨by omega,by omega⟩,?_⟩;exact⟨(k+1,v,f+b.xs.length,f),_,au.refl _ _,⟨by rw[st];exact c1,z2,z3,by simp only;omega,by simp only;omega,by simp only;omega⟩,by omega,⟨Z,Z,Z,Z,Z,Z,Z,Z,Z,Y⟩,⟨Z,Y⟩⟩
   have hm:Reg.meets (qK s k) b=false:=by rw[hpv];simpa [Reg.meets] using g3
   have c1:=skip hm;refine⟨⟨by rw[hf];dsimp only;omega,by rw[hf];dsimp only;omega⟩,?_⟩;refine⟨⟨by omega,by omega⟩,?_⟩;exact⟨(k+1,u,f+b.xs.length,f),_,au.refl _ _,⟨c1,c2,c3,by simp only;omega,by simp only;omega,by simp only;omega⟩,by omega,⟨rfl,rfl,rfl,rfl,by rw[hf];rfl,Z,Z,Z,Z,Y⟩,⟨Z,Y⟩⟩
  have hm:Reg.meets (qK s k) b=false:=by rw[qK,aap (by omega)];rfl
  have c1:=skip hm;refine⟨⟨by rw[hf];dsimp only;omega,by rw[hf];dsimp only;omega⟩,?_⟩;refine⟨⟨by omega,by omega⟩,?_⟩;exact⟨(k+1,u,f+b.xs.length,f),_,au.refl _ _,⟨c1,c2,c3,by simp only;omega,by simp only;omega,by simp only;omega⟩,by omega,⟨rfl,rfl,rfl,rfl,by rw[hf];rfl,Z,Z,Z,Z,Y⟩,⟨Z,Y⟩⟩
 have e:s.length<=k:=by omega
 rw[ab1 e]at c1 c4;have c1:u=U:=c1;subst c1;have SL:cV s=((Reg.aP (Reg.cQ u) i).map fun l=>l.map fun m=>all.getD m bg).map Reg.aB:=by rw[cV,ox,<-hU,<-aeL,Zv]
 rw[SL];obtain⟨p,hp⟩:∃p,p=Reg.cQ u:=⟨_,rfl⟩;have hT:Reg.Dg p i:=by rw[hp,<-c3];exact Reg.rz c2
 rw[<-hp];obtain⟨rf,Zw⟩:∃rf,rf=fun m=>rc (all.getD m bg):=⟨_,rfl⟩;refine aJ (fun x:Nat×List (Value×PV)=>x.1<=i/\(∀(k r:Nat),(Reg.cd p x.1)[k]?=some r->kz x.2 (.int .i64 r)=some (i64 k))/\∀r:Nat,¬r∈Reg.cd p x.1->kz x.2 (.int .i64 r)=none) (fun x=>[(3,.p (aj all)),(4,.bx 4 0),(6,.fn 242 [.bx 4 0]),(16,.ow 136),(17,.ow 17),(137,.p (aj all)),(138,.p (i64 i)),(139,.p (i64 x.1))]) (fun x=>[(4,.aN [.row 3 (aA (ou u x.1))]),(17,.az 22 ((Reg.aP p x.1).map (vJ 87 rf))),(136,.map (.int .i64) x.2)]) (fun x=>i-x.1) (0,[]) _ ((au.dk (by exact hC) _ 17 22 _ (by decide) (by exact rfl) (by exact rfl) (by decide)).trans (au.Wg (by exact hC) _ 17 (e:=22) (es:=[]) (by exact rfl))) ⟨aaj _,fun k r h=>by simp[Reg.cd]at h,fun r _=>rfl⟩ ⟨rfl,rfl,rfl,rfl,rfl,rfl,adV (fun m:Nat=>AV.p (i64 m)) (la.trans Zv),Z,Y⟩ ⟨Z,Z,Z,Y⟩ fun ⟨m,es⟩ hx t h=>?_;obtain⟨h1,h2,h3⟩:=hx;simp only at h1 h2 h3;obtain⟨vu,vl,vr⟩:=zq c2 m (by omega);refine iW ?_ ?_<;>intro g1<;>try simp only[zB]at g1
 ·obtain⟨x,hx⟩:=ak (l:=all) (i:=m) (by omega);have RT:rf m=rc x:=by rw[Zw];exact adV rc (getD_at hx)
  have hr:eh (ou u m) m (p m):=(vr _ _).2 (by rw[hp];exact Reg.iM c2 (by omega));have Vp:=vI (ou u m) vu m (by omega);rw[(Reg.fU m (ou u m) m vu hr.lt (aam _)).root.uniq hr]at Vp;refine⟨(rc x),(idx rfl hx),?_⟩;refine⟨_,_,Vp,?_⟩;have sl:(Reg.aP p m).length=(Reg.cd p m).length:=Reg.oq p m;have kl:=Reg.qI p m;by_cases e:p m=m
  ·have DJ:=h3 (p m) (by rw[e];exact fun hc=>by have:=(Reg.mem_keys.1 hc).1;omega);have nx:=Reg.Fa hT (show m<i by omega) e;refine⟨none,DJ,?_⟩;refine⟨⟨fun r hr=>by simp at hr;subst hr;rfl,by simp only[aej,aaM,aan];omega,by simp only[aej,aaM,aan];omega⟩,?_⟩;refine qy ((au.Sr (by exact hC) _ 17 (Reg.aP p m).length 0 (e:=22) (e':=87) (es:=(Reg.aP p m).map (vJ 87 rf)++[[.av .nl]]) (r:=[.av .nl]) (by exact adV (AB.az _) (by simp only[xQ,PL];rfl)) (by rw[acu (by simp)];simp) (by exact rfl) (by exact rfl) (by decide)).trans (au.rq (by exact hC) _ 17 (Reg.aP p m).length 0 90001 (e:=22) (es:=(Reg.aP p m++[[]]).map (vJ 87 rf)) (e':=87) (r:=vJ 87 rf []) (xs:=[]) (by decide) (by decide) (by exact adV (AB.az _) (by rw[abE];refine (ux _ _ _ _ (aej _).symm).trans ?_;simp[vJ])) (zw _ _ _) (by rw[abE,acu (by simp)];simp) (by exact rfl))) ?_;have e0:(List.map (fun r=>List.map (HX.cS (sc 146)) r) (List.map (fun r=>List.map (HX.cS (sc 19)) r) (List.map (vJ 87 rf) (Reg.aP p m)))).length=(Reg.aP p m).length:=by simp
   refine⟨⟨by dsimp only;omega,by simp⟩,?_⟩;refine⟨[.av (.ow 90001)],(by rw[afo,iC,iC];rw[e0];exact rB _ _ (Reg.aP p m++[[]]) (Reg.aP p m).length 90001 (by simp);rfl;rfl),?_⟩;refine⟨⟨fun r hr=>by simp at hr;subst hr;rfl,by simp,by simp⟩,?_⟩;refine⟨⟨by dsimp only;omega,by simp⟩,?_⟩;refine⟨[.av (.ow 90001)],(by rw[afo,iC,iC];rw[e0];exact rB _ _ (Reg.aP p m++[[]]) (Reg.aP p m).length 90001 (by simp);rfl;rfl),?_⟩;refine⟨⟨by omega,by omega⟩,?_⟩;refine⟨(m+1,mP es (.int .i64 (p m)) (i64 (Reg.aP p m).length)),_,au.Bm (by exact hC) _ 17 (Reg.aP p m).length 0 171 (e:=22) (es:=((Reg.aP p m++[[]]).map (vJ 87 rf)).set (Reg.aP p m).length [.av (.ow 171)]) (e':=87) (xs:=[rf m]) (by decide) (by exact adV (AB.az _) (by rw[afo,iC,iC,e0];exact abM _;rfl;rfl)) (by rw[RT];exact rfl) (rB _ _ _ _ _ (by simp)) (by exact rfl),?_⟩;have key:∀(k r:Nat),(Reg.cd p (m+1))[k]?=some r->kz (mP es (.int .i64 (p m)) (i64 (Reg.aP p m).length)) (.int .i64 r)=some (i64 k):=fun k r hk=>by
    rw[Reg.fE,aap e]at hk;rw[mE];by_cases LG:k<(Reg.cd p m).length
    ·rw[aaE LG]at hk;have:=(Reg.mem_keys.1 (aad hk)).1;rw[aaa (by omega)];exact h2 k r hk
    rw[acu (by omega)]at hk;have Im:k=(Reg.cd p m).length:=by
     have:=(aao.1 hk).1;simp at this;omega
    subst Im;simp only[aab,aa9,Option.some.injEq]at hk;subst hk;rw[aap (by omega),sl]
   have Vq:∀r:Nat,¬r∈Reg.cd p (m+1)->kz (mP es (.int .i64 (p m)) (i64 (Reg.aP p m).length)) (.int .i64 r)=none:=fun r hr=>by
    rw[Reg.fE,aap e]at hr;rw[mE,aaa (fun hc=>hr (by rw[abi];exact .inr (by simp;omega)))];exact h3 r fun hc=>hr (abY _ hc)
   refine⟨⟨by dsimp only;omega,key,Vq⟩,⟨by dsimp only;omega,⟨Z,Z,Z,Z,Z,Z,Z,Z,Y⟩,⟨rfl,?_,congrArg (AB.map _) ?_,trivial⟩⟩⟩
   ·refine adV (AB.az _) ?_;show ((List.map (vJ 87 rf) (Reg.aP p m++[[]])).set _ _).set _ _=List.map (vJ 87 rf) (Reg.aP p (m+1));rw[abM,nx,abE,abE];exact ux _ _ _ _ (aej _).symm
   dsimp only;rw[e0];rfl
  obtain⟨k,hk⟩:=Reg.Nv hT (show m<i by omega) e;obtain⟨nx,Gp⟩:=Reg.Fb e hk;have km:=h2 k (p m) hk;have SI:((Reg.aP p m).map (vJ 87 rf))[k]?=some (vJ 87 rf (Reg.dh p m (p m))):=by rw[aak,Gp];rfl
  have kl':=(aao.1 hk).1;have ml:=Reg.qJ p m (p m);refine⟨(some (i64 k)),km,?_⟩;refine qy (au.rq (by exact hC) _ 17 k 0 90001 (e:=22) (by decide) (by decide) (by exact adV (AB.az _) (by simp only[xQ])) (zw _ _ _) SI (by exact rfl)) ?_;refine⟨⟨by omega,by simp only[aej,aaM];omega⟩,?_⟩;refine⟨[.av (.ow 90001)],(by rw[afo,iC,iC];exact rB _ _ (Reg.aP p m) k 90001 (by omega);rfl;rfl),?_⟩;refine⟨⟨fun r hr=>by simp at hr;subst hr;rfl,by simp only[aej,aaM,aan];omega,by simp only[aej,aaM,aan];omega⟩,?_⟩;refine⟨⟨by omega,by simp only[aej,aaM];omega⟩,?_⟩;refine⟨[.av (.ow 90001)],(by rw[afo,iC,iC];exact rB _ _ (Reg.aP p m) k 90001 (by omega);rfl;rfl),?_⟩;refine⟨⟨by omega,by omega⟩,?_⟩;refine⟨(m+1,es),_,au.Bm (by exact hC) _ 17 k 0 171 (e:=22) (es:=((Reg.aP p m).map (vJ 87 rf)).set k [.av (.ow 171)]) (e':=87) (xs:=(Reg.dh p m (p m)++[m]).map rf) (by decide) (by exact adV (AB.az _) (by rw[afo,iC,iC];exact abM _;rfl;rfl)) (by exact adV (AB.row _) (by rw[abE];exact adV (List.map rf (Reg.dh p m (p m))++·) (by show _=[rf m];rw[RT];rfl))) (rB _ _ _ _ _ (by omega)) (by exact rfl),?_⟩;refine⟨⟨by dsimp only;omega,fun k' r xA=>?_,fun r hr=>?_⟩,⟨by dsimp only;omega,⟨Z,Z,Z,Z,Z,Z,Z,Z,Y⟩,⟨rfl,?_,Z,Y⟩⟩⟩
  ·rw[Reg.fE,aaa e]at xA;exact h2 k' r xA
  ·rw[Reg.fE,aaa e]at hr;exact h3 r hr
  refine adV (AB.az _) ?_;show ((List.map (vJ 87 rf) (Reg.aP p m)).set _ _).set _ _=List.map (vJ 87 rf) (Reg.aP p (m+1));rw[abM,nx,ad8];rfl
 have em:m=i:=by omega
 subst em;obtain⟨LL,PM⟩:∃LL,LL=Reg.aP p m:=⟨_,rfl⟩;rw[<-PM];obtain⟨rL,SC⟩:∃rL:List Nat->List ae,rL=fun l=>l.map fun m=>all.getD m bg:=⟨_,rfl⟩;rw[<-SC];have qg:∀l,SJ rf l=[aj (rL l)]:=fun l=>by rw[SJ,Zw,SC,aj,ad6];rfl
 have lL:=ai LL (SJ rf);have hLl:LL.length<=m:=by rw[PM,Reg.oq];exact Reg.qI p m
 have Kv:∀l∈LL,l.length<=m/\∀r∈rL l,r∈all:=fun l hl=>by
  rw[PM,Reg.aP]at hl;obtain⟨r,_,rfl⟩:=adS.1 hl;refine⟨Reg.qJ p m r,fun q hq=>?_⟩;rw[SC]at hq;obtain⟨z,hz,rfl⟩:=adS.1 hq;have:=(Reg.dx.1 hz).1;obtain⟨q,hq⟩:=ak (l:=all) (i:=z) (by omega);rw[getD_at hq];exact aad hq
 have tf:=Reg.bP hs;have ti:=Reg.fR hs ks;rw[<-aeL]at tf ti;refine aJ (fun j:Nat=>j<=LL.length) (fun j=>[(23,.ow 23),(174,.p (.sl (LL.map (SJ rf)))),(175,.p (i64 LL.length)),(176,.p (i64 j))]) (fun j=>[(23,.row 59 (((LL.take j).map fun l=>Reg.aB (rL l)).map fun p=>[aw p]))]) (fun j=>LL.length-j) 0 _ ((au.ID (by exact hC) _ 17 (LL.map (SJ rf)) (e:=22) (by exact rfl) (SK _ _ _)).trans ((au.own (by exact hC) _ 174 (id:=17) (by exact rfl) (by exact rfl)).trans (au.dk (by exact hC) _ 23 59 _ (by decide) (by exact rfl) (by exact rfl) (by decide)))) (aaj _) ⟨rfl,rfl,adV (fun m:Nat=>AV.p (i64 m)) (aej _),Z,Y⟩ ⟨Z,Y⟩ fun j hj t h=>?_;refine iW ?_ ?_<;>intro g1
 ·obtain⟨l,hl⟩:=ak (l:=LL) (i:=j) (by omega);obtain⟨m1,m2⟩:=Kv l (aad hl);have so:=kG (rL l) 1400000 (by omega) (by omega) (fun r hr=>tf r (m2 r hr)) (fun r hr=>ti r (m2 r hr)) (by rw[SC,aej];omega);have lk:((LL.take j).map fun l=>Reg.aB (rL l)).length=j:=by rw[aej,aat];omega
  refine⟨[aj (rL l)],(by rw[<-qg];exact idx rfl hl),?_⟩;refine⟨_,_,so,?_⟩;refine⟨⟨fun r hr=>by simp at hr;subst hr;rfl,by simp only[aej,aaM,aan,lk];omega,by simp only[aej,aaM,aan,lk];omega⟩,?_⟩;refine⟨⟨by omega,by omega⟩,?_⟩;exact⟨(j+1),_,au.refl _ _,by omega,by omega,⟨Z,Z,Z,Z,Y⟩,⟨by rw[aZ hl,abE,abE];rfl,trivial⟩⟩
 have e:LL.take j=LL:=adW (by omega);rw[e];exact And.intro (adV (AB.row _) (by rw[ad6,ad6,ad6];rfl)) (And.intro rfl trivial)
end M
namespace Reg
theorem uy{α:Type}[DecidableEq α]:∀{l m:List α},l.Nodup->(∀x∈l,x∈m)->l.length<=m.length
 | [],m,_,_=>aaj _
 | x::l,m,h,hs=>by
  have hx:=hs x adU;have h':=aai.1 h;have:=uy (l:=l) (m:=m.erase x) h'.2 fun y hy=>(List.mem_erase_of_ne (fun e=>h'.1 (by rw[<-e];exact hy))).2 (hs y (aaw _ hy));rw[List.length_erase_of_mem hx]at this;have:=adL hx;simp only[aaB];omega
theorem sS:∀{s:aU} {p:Int×Int},Canon s->p∈s->¬cover s (p.1-1)
 | [],p,_,hp=>by cases hp
 | q::s,p,h,hp=>by
  rw[bJ];rintro (⟨h1,h2⟩ | h3)
  ·rcases adq.1 hp with rfl | hp
   ·omega
   have:=h.behind p hp;omega
  rcases adq.1 hp with rfl | hp
  ·exact h.jJ (by have:=h.head;omega) h3
  exact sS h.tail hp h3
variable {s:List an}
theorem Dh(h:bE s){b:an}(hb:b∈s){y:Int}(h1:b.y0<=y)(h2:y<b.y1)(x:Int):at' s x y=par (bw b.xs) x:=by
 induction s with
 | nil=>cases hb
 | cons c s ih=>
  rcases adq.1 hb with rfl | hb'
  ·exact lR h h1 h2
  have:=h.fM b hb';rw[pj (by omega)];exact ih h.tail hb'
theorem BN(h:bE s){b:an}(hb:b∈s):∃x,at' s x (b.y0-1)≠at' s x b.y0:=by
 induction s with
 | nil=>cases hb
 | cons c s ih=>
  have eF:=(h.mem b hb).lt;rcases adq.1 hb with rfl | hb'
  ·obtain⟨x,hx⟩:=um (h.mem b hb);refine⟨x,?_⟩;rw[lR h (acP _) eF,hx,jS fun t ht=>?_]
   ·decide
   rcases adq.1 ht with rfl | ht
   ·exact .inl (by omega)
   have:=h.fM t ht;exact .inl (by omega)
  have hc:=(h.mem c adU).lt;have qb:=h.fM b hb';by_cases e:c.y1=b.y0
  ·match s,h,hb',ih with
   | d::s,h,hb',ih=>
    rcases adq.1 hb' with rfl | hb''
    ·have b8:c.xs≠b.xs:=fun hx=>by
      have:=h;simp only[bE]at this;exact this.2.2.1 e hx
     have hx:∃x,par (bw c.xs) x≠par (bw b.xs) x:=by
      refine acz fun hn=>b8 (lJ _ _ (h.mem c adU).can (h.mem b (by simp)).can fun x=>?_);have:par (bw c.xs) x=par (bw b.xs) x:=acz fun hc=>hn ⟨x,hc⟩;rw[<-cu (h.mem c adU).can,<-cu (h.mem b (by simp)).can,this]
     obtain⟨x,hx⟩:=hx;refine⟨x,?_⟩;rw[lR h (by omega) (by omega),pj (by omega),lR h.tail (acP _) eF];exact hx
    have:=(h.tail.fM b hb'');have:=(h.mem d (by simp)).lt;have:=h.fM d (by simp);omega
  obtain⟨x,hx⟩:=ih h.tail hb';refine⟨x,?_⟩;rw[pj (by omega),pj (by omega)];exact hx
theorem Nx(h:bE s){Ys:List Int}(hy:∀x y,¬y∈Ys->at' s x (y-1)=at' s x y):∀q∈told s,q.y0∈Ys:=fun q hq=>by
 obtain⟨b,hb,p,_,rfl⟩:=gf.1 hq;obtain⟨x,hx⟩:=BN h hb;exact acz fun hn=>hx (hy x b.y0 hn)
theorem Ny(h:bE s){Xs:List Int}(hx:∀x y,¬x∈Xs->at' s (x-1) y=at' s x y):∀q∈told s,q.x0∈Xs:=fun q hq=>by
 obtain⟨b,hb,p,hp,rfl⟩:=gf.1 hq;have hB:=h.mem b hb;refine acz fun hn=>?_;have e:=hx p.1 b.y0 hn;rw[Dh h hb (acP _) hB.lt,Dh h hb (acP _) hB.lt]at e;have h1:cover b.xs p.1:=⟨p,hp,acP _,ga hB.can p hp⟩;rw[<-cu hB.can,<-e,cu hB.can]at h1;exact sS hB.can hp h1
theorem BO(Xs:List Int):∀Ys:List Int,(Ys.flatMap fun y=>Xs.map fun x=>(y,x)).length=Ys.length*Xs.length
 | []=>by simp
 | y::Ys=>by rw[abz,acv,BO Xs Ys,aej,aaB,aa3,Nat.add_comm]
theorem PN(h:bE s){Xs Ys:List Int}(hx:∀x y,¬x∈Xs->at' s (x-1) y=at' s x y)(hy:∀x y,¬y∈Ys->at' s x (y-1)=at' s x y):(told s).length<=Ys.length*Xs.length:=by
 have hn:((told s).map fun q=>(q.y0,q.x0)).Nodup:=by
  rw[aed,abe];refine (pk h).imp fun {a b} qb e=>?_;have:=gN.1 qb;simp only[Prod.mk.injEq]at e;omega
 have:=uy (m:=Ys.flatMap fun y=>Xs.map fun x=>(y,x)) hn fun z hz=>by
  obtain⟨q,hq,rfl⟩:=adS.1 hz;exact aax.2 ⟨q.y0,Nx h hy q hq,adS.2 ⟨q.x0,Ny h hx q hq,rfl⟩⟩
 rw[aej]at this;exact aaF this (aay (BO Xs Ys))
structure Piece where
 layer:Int
 set:List an
structure bh where
 pieces:List Int
 bores:List Int
 pins:List (ByteArray×ByteArray)
structure zx where
 bore:Bool
 num:Int
theorem KN{x y:Int}{q:ae}(h:¬(x=q.x0\/x=q.x1)):dE (x-1) y q=dE x y q:=by
 rw[abb,aQ,aQ];omega
theorem KO{x y:Int}{q:ae}(h:¬(y=q.y0\/y=q.y1)):dE x (y-1) q=dE x y q:=by
 rw[abb,aQ,aQ];omega
theorem oy{α:Type}{l:List α}{f g:α->Bool}(h:∀x∈l,f x=g x):l.any f=l.any g:=by
 induction l with
 | nil=>rfl
 | cons x l ih=>rw[abd,abd,h x adU,ih fun y hy=>h y (aaw _ hy)]
def SM(l:List ae):List Int:=l.flatMap fun q=>[q.x0,q.x1]
def SN(l:List ae):List Int:=l.flatMap fun q=>[q.y0,q.y1]
theorem I5:∀l:List ae,(SM l).length=2*l.length
 | []=>rfl
 | q::l=>by have:=I5 l;simp only[SM,abz,acv,aaB,acs]at this ⊢;omega
theorem I6:∀l:List ae,(SN l).length=2*l.length
 | []=>rfl
 | q::l=>by have:=I6 l;simp only[SN,abz,acv,aaB,acs]at this ⊢;omega
theorem BP{a b:List ae}(ha:∀r∈a,Full r)(hb:∀r∈b,Full r):(told (bN (aB a) (aB b))).length<=(2*(a.length+b.length))*(2*(a.length+b.length)):=by
 obtain⟨a1,a2,_⟩:=aR ha;obtain⟨b1,b2,_⟩:=aR hb;obtain⟨c1,c2,_⟩:=b6 a1 b1;have hx:∀x y,¬x∈SM (a++b)->at' (bN (aB a) (aB b)) (x-1) y=at' (bN (aB a) (aB b)) x y:=fun x y hn=>by
  have e:∀q∈a++b,dE (x-1) y q=dE x y q:=fun q hq=>KN fun hc=>hn (aax.2 ⟨q,hq,by simp;exact hc⟩);rw[c2,c2,a2,a2,b2,b2,oy (l:=a) fun q hq=>e q (abY _ hq),oy (l:=b) fun q hq=>e q (adt _ hq)]
 have hy:∀x y,¬y∈SN (a++b)->at' (bN (aB a) (aB b)) x (y-1)=at' (bN (aB a) (aB b)) x y:=fun x y hn=>by
  have e:∀q∈a++b,dE x (y-1) q=dE x y q:=fun q hq=>KO fun hc=>hn (aax.2 ⟨q,hq,by simp;exact hc⟩);rw[c2,c2,a2,a2,b2,b2,oy (l:=a) fun q hq=>e q (abY _ hq),oy (l:=b) fun q hq=>e q (adt _ hq)]
 have:=PN c1 hx hy;rw[I5,I6,acv]at this;exact this
def beside(x y:ae):Bool:=((decide (x.x0<y.x1)&&decide (y.x0<x.x1))&&(decide (x.y1=y.y0)||decide (y.y1=x.y0)))||((decide (x.y0<y.y1)&&decide (y.y0<x.y1))&&(decide (x.x1=y.x0)||decide (y.x1=x.x0)))
def bq(bs:List aS)(layer:Int):List ae:=(bs.filter fun b=>through b layer).map aa
def bU(bs:List aS)(layer:Int)(r:List ae):List an:=bN (aB r) (aB (bq bs layer))
def gO(bs:List aS):Int->List (List ae)->List (List an)
 | _,[]=>[]
 | k,r::l=>bU bs k r::gO bs (k+1) l
def bG(bs:List aS):Int->List (List ae)->List Piece
 | _,[]=>[]
 | k,r::l=>(cV (bU bs k r)).map (⟨k,·⟩)++bG bs (k+1) l
def qL(bs:List aS):Int->List (List ae)->Bool
 | _,[]=>true
 | k,r::l=>decide ((told (bU bs k r)).length<=2000)&&qL bs (k+1) l
def eG(a:fS):Bool:=qL a.bores 0 a.coppers&&decide ((bG a.bores 0 a.coppers).length<=2000)
def fX(b:aS)(p:Piece):Bool:=(b.plated&&through b p.layer)&&(told p.set).any fun r=>beside r (aa b)
def fu(b:aS):Nat->List Piece->List Int
 | _,[]=>[]
 | k,p::l=>if fX b p=true then (k:Int)::fu b (k+1) l else fu b (k+1) l
def bB(bs:List aS)(ps:List Piece):List (List Int):=bs.map fun b=>fu b 0 ps
theorem BQ(s:List an):(cV s).length<=(told s).length:=by
 rw[cV,ox,aej,aej,oq];exact qI _ _
theorem vK{l:List ae}{m:Nat}(h:m<l.length):l.getD m bg∈l:=by
 rw[ad4,acg h];exact adn h
theorem afp{l:List ae}(h:l∈ox s):l≠[]/\∀r∈l,r∈told s:=by
 obtain⟨u1,u2⟩:=zv s;have hT:=rz u1;obtain⟨ms,LS,rfl⟩:=adS.1 h;obtain⟨r,hr,rfl⟩:=adS.1 LS;obtain⟨h1,h2⟩:=mem_keys.1 hr;refine⟨fun e=>?_,fun q hq=>?_⟩
 ·have:r∈dh (cQ (jE s)) (told s).length r:=dx.2 ⟨h1,h2⟩;rw[abO]at e;rw[e]at this;cases this
 obtain⟨m,hm,rfl⟩:=adS.1 hq;exact vK (dx.1 hm).1
theorem rD{p:List an}(h:bE s)(hp:p∈cV s):bE p/\p≠[]/\(∀x y,at' p x y=true->at' s x y=true)/\∀K,cv K s->cv K p:=by
 obtain⟨l,hl,rfl⟩:=adS.1 hp;obtain⟨h1,h2⟩:=afp hl;obtain⟨b1,b2,b3⟩:=aR fun r hr=>bP h r (h2 r hr);have sub:∀x y,at' (aB l) x y=true->at' s x y=true:=fun x y Oy=>by
  rw[b2,aci]at Oy;obtain⟨q,hq,hh⟩:=Oy;rw[<-iy h,aci];exact⟨q,h2 q hq,hh⟩
 refine⟨b1,fun e=>?_,sub,fun K hK=>b3 K fun r hr=>fR h hK r (h2 r hr)⟩;obtain⟨q,hq⟩:=aae _ h1;have hf:=bP h q (h2 q hq);have:at' (aB l) q.x0 q.y0=true:=by
  rw[b2,aci];exact⟨q,hq,aQ.2 ⟨acP _,hf.1,acP _,hf.2⟩⟩
 rw[e]at this;cases this
end Reg
end Go.Proofs.YtfloceomobknoaaGreatDoor
namespace Go.AM
theorem au.pX{A:cD}(hC:bI A.C)(s:AS)(id j:Nat)(cs:List AV)(hb:s.h id=.box cs)(hn:cs[j]?=some (.p (.im (.slice none 0 0)))):au A s ⟨s.t,aT s.h id (.box (cs.set j .nl))⟩:=by
 intro S rho a w sim;refine⟨S,rho,sim.write hC id trivial (by rw[hb];trivial) _ (fun _ h=>by cases h) w rfl rfl rfl rfl (fun _ _=>rfl) fun T=>?_⟩;have hh:=sim.hp id trivial;rw[hb]at hh;obtain⟨g,ty,c,k1,k2,k3,k4⟩:=hh;refine⟨g,ty,c,k1,k2,by rw[k3,aaM],fun q x u hi hu=>?_⟩;by_cases ei:q=j
 ·subst ei;rw[ab7 (aD hn)]at hi;injection hi with hi;subst hi;obtain⟨k5,k6⟩:=k4 q _ u hn hu;refine⟨k5,?_⟩;have k7:aO S w (.im (.slice none 0 0)) u:=by cases k6;assumption
  exact (xy k7).cK T
 rw[ac5 (fun e=>ei e.symm)]at hi;obtain⟨k5,k6⟩:=k4 q x u hi hu;exact⟨k5,k6.cK T⟩
end Go.AM
namespace Go.Proofs.YtfloceomobknoaaGreatDoor
namespace M
open Go.AM Go.RowKit Go.Lib
open Reg (ae beside aa aS through bO an aU)
theorem AQ(x y:ae):af C 180 [.pv (.ag (rc x)),.pv (.ag (rc y))] (.p (bool (beside x y))) []:=by
 refine fW hC Tryz.func180 rfl (by kernel_rfl) fun _=>?_;refine iW ?_ ?_<;>intro a
 ·refine iW ?_ ?_<;>intro c
  ·refine iW ?_ ?_<;>intro b
   ·refine iW ?_ ?_<;>intro e
    ·refine⟨?_,trivial⟩;simp[bool,beside,a,c,b,e]
    refine iW ?_ ?_<;>intro f
    ·refine⟨?_,trivial⟩;simp[bool,beside,a,c,b,e,f]
    refine iW ?_ ?_<;>intro d
    ·refine iW ?_ ?_<;>intro g
     ·refine⟨?_,trivial⟩;simp[bool,beside,a,c,b,e,f,d,g]
     refine⟨?_,trivial⟩;simp[bool,beside,a,c,b,e,f,d,g]
    refine⟨?_,trivial⟩;simp[bool,beside,a,c,b,e,f,d]
   refine iW ?_ ?_<;>intro d
   ·refine iW ?_ ?_<;>intro g
    ·refine⟨?_,trivial⟩;simp[bool,beside,a,c,b,d,g]
    refine⟨?_,trivial⟩;simp[bool,beside,a,c,b,d,g]
   refine⟨?_,trivial⟩;simp[bool,beside,a,c,b,d]
  refine iW ?_ ?_<;>intro b
  ·refine iW ?_ ?_<;>intro e
   ·refine⟨?_,trivial⟩;simp[bool,beside,a,c,b,e]
   refine iW ?_ ?_<;>intro f
   ·refine⟨?_,trivial⟩;simp[bool,beside,a,c,b,e,f]
   refine⟨?_,trivial⟩;simp[bool,beside,a,c,b,e,f]
  refine⟨?_,trivial⟩;simp[bool,beside,a,c,b]
 refine iW ?_ ?_<;>intro c
 ·refine iW ?_ ?_<;>intro d
  ·refine iW ?_ ?_<;>intro g
   ·refine⟨?_,trivial⟩;simp[bool,beside,a,c,d,g]
   refine⟨?_,trivial⟩;simp[bool,beside,a,c,d,g]
  refine⟨?_,trivial⟩;simp[bool,beside,a,c,d]
 refine⟨?_,trivial⟩;simp[bool,beside,a,c]
theorem PO(r:ae)(b:aS)(h:bO b=true):af C 179 [.pv (.ag (rc r)),.pv (.ip (bc b))] (.p (bool (beside r (aa b)))) []:=by
 refine fW hC Tryz.func179 rfl (by kernel_rfl) fun _=>?_;refine⟨_,_,(cF b h),?_⟩;refine⟨_,_,(AQ r (aa b)),?_⟩;refine⟨?_,trivial⟩;rfl
theorem Di(l:List an)(hN:l.length<=1000000000000)(hX:∀t∈l,t.xs.length<=1000000000000)(hT:(Reg.told l).length<=4398046511104):af C 76 [.pv (.sl (l.map hb))] (.p (aj (Reg.told l))) []:=by
 refine uX ⟨[],[2],[],[8],[],[]⟩ hC Tryz.func76 rfl (by kernel_rfl) fun _=>?_;have lm:=ai l hb;have tl:∀i,(Reg.told (l.take i)).length<=(Reg.told l).length:=fun i=>by
  have e:Reg.told l=Reg.told (l.take i)++Reg.told (l.drop i):=by
   unfold Reg.told;rw[<-adG,aaU]
  rw[e,acv];omega
 refine aJ (fun i:Nat=>i<=l.length) (fun i=>[(7,.p (.sl (l.map hb))),(8,.p (i64 (l.map hb).length)),(3,.ow 3),(9,.p (i64 i))]) (fun i=>[(3,.row 87 ((Reg.told (l.take i)).map rc))]) (fun i=>l.length-i) 0 _ (au.dk hC _ 3 87 _ (by decide) rfl rfl (by decide)) (aaj _) ⟨Z,Z,Z,Z,Y⟩ ⟨Z,Y⟩ fun i hi t h=>?_;refine iW ?_ ?_<;>intro h1
 ·rw[lm]at h1;obtain⟨b,uW⟩:=ak (l:=l) (i:=i) (by omega);have bm:=ai (flat b.xs) fun n=>[i64 n];have fl:=eY b.xs;have hb':=hX b (aad uW);have ht:=tl (i+1);rw[jM uW,acv,aej]at ht;refine⟨(hb b),(idx rfl uW),?_⟩;refine p7 (fun _:Unit=>True) (fun _=>[(7,.p (.sl (l.map hb))),(8,.p (i64 (l.map hb).length)),(3,.ow 3),(9,.p (i64 i))]) (fun _=>[(3,.row 87 ((Reg.told (l.take (i+1))).map rc))]) (fun _ _ t h=>?_) ?_
  ·refine⟨⟨by omega,by omega⟩,?_⟩;exact⟨(i+1),_,au.refl _ _,by omega,by omega,⟨Z,Z,Z,Z,Y⟩,⟨Z,Y⟩⟩
  refine aJ (fun k:Nat=>k<=b.xs.length) (fun k=>[(7,.p (.sl (l.map hb))),(8,.p (i64 (l.map hb).length)),(3,.ow 3),(9,.p (i64 i)),(5,.bx 5 0),(6,.p (i64 ((2*k:Nat):Int)))]) (fun k=>[(3,.row 87 ((Reg.told (l.take i)++ig b k).map rc)),(5,.box [.p (i64 b.y0),.p (i64 b.y1),.p (ints (flat b.xs))])]) (fun k=>b.xs.length-k) 0 _ (au.refl _ _) (aaj _) ⟨Z,Z,Z,Z,Z,Z,Y⟩ ⟨by rw[ig];simp;rfl,Z,Y⟩ fun k hk t h=>?_;have Ov:(ig b k).length<=k:=by simp[ig];omega
  refine iW ?_ ?_<;>intro h2
  ·rw[bm,fl]at h2;obtain⟨p,hp⟩:=ak (l:=b.xs) (i:=k) (by omega);obtain⟨g1,g2⟩:=Ex hp;refine⟨[i64 p.1],(idx rfl g1),?_⟩;refine⟨⟨by omega,by omega⟩,?_⟩;refine⟨[i64 p.2],(idx (by omega) g2),?_⟩;refine⟨⟨xL rfl,by simp;omega,by simp;omega⟩,?_⟩;refine⟨⟨by omega,by omega⟩,?_⟩;refine⟨(k+1),_,au.refl _ _,?_⟩;refine⟨by omega,by omega,⟨rfl,rfl,rfl,rfl,rfl,a8 (by omega),trivial⟩,⟨?_,Z,Y⟩⟩;have hc:ig b (k+1)=ig b k++[⟨p.1,b.y0,p.2,b.y1⟩]:=by simp[ig,aZ hp]
   have e:(Reg.told (l.take i)++ig b k).map rc++[rc ⟨p.1,b.y0,p.2,b.y1⟩]=(Reg.told (l.take i)++ig b (k+1)).map rc:=by
    rw[hc,<-abx,abE (l₂:=[_])];rfl
   exact adV (AB.row 87) e
  rw[bm,fl]at h2;refine⟨(),trivial,⟨Z,Z,Z,Z,Y⟩,⟨?_,trivial⟩⟩;rw[jM uW];have:ig b k=b.xs.map fun p=>⟨p.1,b.y0,p.2,b.y1⟩:=by rw[ig,adW (by omega)]
  rw[<-this];rfl
 rw[lm]at h1;rw[adW (by omega)];exact⟨Z,Y⟩
def X7(b:aS)(r:ae):Bool:=beside r (aa b)
theorem Fj(l:List ae)(hN:l.length<=140737488355328)(b:aS)(hb':bO b=true):af C 161 [.pv (aj l),.pv (.fn 179 [.ip (bc b)])] (.p (i64 (jO (X7 b) l 0))) []:=by
 refine fW hC Tryz.func161 rfl (by kernel_rfl) fun _=>?_;have lm:=ai l rc;refine aJ (fun i:Nat=>i<=l.length/\∀z∈l.take i,X7 b z=false) (fun i=>[(0,.p (aj l)),(1,.p (.fn 179 [.ip (bc b)])),(7,.p (i64 (l.map rc).length)),(8,.p (i64 i))]) (fun _=>[]) (fun i=>l.length-i) 0 _ (au.refl _ _) ⟨aaj _,by simp⟩ ⟨Z,Z,Z,Z,Y⟩ trivial fun i hi t h=>?_;refine iW ?_ ?_<;>intro h1
 ·rw[lm]at h1;obtain⟨r,hr⟩:=ak (l:=l) (i:=i) (by omega);refine⟨(rc r),(idx rfl hr),?_⟩;refine⟨_,_,(PO r b hb'),?_⟩;refine iW ?_ ?_<;>intro h2
  ·refine⟨?_,trivial⟩;rw[lY hr h2 hi.2,abC]
  refine⟨⟨by omega,by omega⟩,?_⟩;exact⟨(i+1),_,au.refl _ _,⟨by omega,tW hr h2 hi.2⟩,by omega,⟨Z,Z,Z,Z,Y⟩,trivial⟩
 rw[lm]at h1;refine⟨?_,trivial⟩;have h2:=hi.2;rw[adW (by omega)]at h2;rw[iV h2];rfl
theorem zy(l:List ae)(hN:l.length<=140737488355328)(b:aS)(hb':bO b=true):af C 178 [.pv (aj l),.pv (.fn 179 [.ip (bc b)])] (.p (bool (l.any (X7 b)))) []:=by
 refine fW hC Tryz.func178 rfl (by kernel_rfl) fun _=>?_;refine⟨_,_,(Fj l hN b hb'),?_⟩;refine⟨?_,trivial⟩;rw[<-oX _ l 0];rfl
end M
end Go.Proofs.YtfloceomobknoaaGreatDoor
