/- Part 10 of the proof of HousePricesAddUp. -/
import Derived.Test.YtihgjolmpjjblaaGreatDoorP09
set_option linter.unusedVariables false
set_option linter.unusedSimpArgs false
set_option maxRecDepth 100000
set_option maxHeartbeats 8000000
namespace Go
abbrev Be:=@Bool.and_eq_true_iff
abbrev uF:=@List.map_nil
abbrev xM:=@List.set_set
end Go
namespace Go.AM
theorem aA.front{A:rZ}(hC:bP A.C)(s:AS)(j id hi:Nat){e:TypeId}{es:List (List PV)}(hid:id<100000)(hj:s.t j=.vw id 0 hi)(V:s.h id=.row e es):
  aA A s ⟨bd (jk id s).t j (.ow id),bd (jk id s).h id (.row e (es.take hi))⟩:=by
 intro S rho a w z;have W:(s.h id).live:=by rw[V];trivial
 have N:=z.hp id trivial;rw[V]at N;have N:aH A.C.P w (aO S w) e es (rho id):=N;have Y:=z.tm j trivial;rw[hj]at Y;obtain⟨v,hv⟩:∃v,v=a.tmps.getD j undef:=⟨_,rfl⟩;rw[<-hv]at Y;have Z:∃n c I,rho id=.slice I n c/\hi<=n/\v=.slice I hi c:=by
  cases Y with
  | vw _ _ _ _ q=>
   obtain⟨_,n,c,I,ti,O,_,_,q3,q4,R⟩:=q e (by rw[V];rfl);refine⟨n,c,I,O,q3,?_⟩;rw[R];cases I with
   | none=>simp
   | some x=>simp[Addr.add]
 obtain⟨n,c,I,O,q3,R⟩:=Z;have D:∀g,cF v=some g->cF (rho id)=some g:=fun g J=>by
  rw[R]at J;rw[O];cases I<;>exact J
 have ho:∀k,k≠id->bd (jk id s).h id (.row e (es.take hi)) k=zF id (s.h k):=fun k hk=>by rw[bg _ _ hk];show bd (fun k=>zF id (s.h k)) id AB.none k=_;rw[bg _ _ hk]
 have vy:=z.free id (.row e (es.take hi));have bH:=vy.new hC id (.row e (es.take hi)) hid (fun h=>h rfl) (aF _ _ _) w rfl rfl rfl (aG _) (fun k=>cF (rho id)=some k) (fun _ _ _=>rfl) (fun k hk=>by
  obtain⟨l1,l2,l3⟩:=z.qd id k trivial W hk;refine⟨l2,fun i Bw U hb=>?_,l3⟩;have U:(bd (jk id s).h id (.row e (es.take hi)) i).live:=U;have hb:hasB w (bd (jk id s).h id (.row e (es.take hi)) i) (rho i) k:=hb;rw[ho i Bw,wq]at U;rw[ho i Bw,AO]at hb;exact Bw (z.dj i id k trivial trivial U W hb (Bk hk))) v (fun g J=>⟨(z.qd id g trivial W (D g J)).1,.inr (D g J)⟩) fun T=>by
   show aH _ _ _ _ _ (bd rho id _ id);rw[aF];exact aH.front N O q3 R
 have fu:cn A cX cX S (bd rho id v) ⟨(jk id s).t,bd (jk id s).h id (.row e (es.take hi))⟩ a w:=bH.sL (fun _ _=>trivial) (fun k=>⟨fun _=>by by_cases e:k=id;exact .inr e;exact .inl e,fun _=>trivial⟩);refine⟨S,_,{ fu with tm:=fun k _=>?_ }⟩;by_cases ek:k=j
 ·subst ek;show bu _ _ _ _ _ _ (bd _ _ _ _) _;rw[aF];exact .ow id _ fun _=>⟨trivial,by rw[aF];exact hv.symm⟩
 show bu _ _ _ _ _ _ (bd _ _ _ _) _;rw[bg _ _ ek];exact fu.tm k trivial
end Go.AM
namespace Go.Proofs.YtihgjolmpjjblaaGreatDoor
namespace M
open Go.AM Go.RowKit Go.Lib Go.Sort
open Reg (aB cw aR dF gy ct told cm pairUp jG oD js I2 eE mQ vc)
theorem R7(x y:aB)(W:World):Calls Tryz.prog 253 #[.agg (iA x).toArray,.agg (iA y).toArray] W fun e w'=>e=.returned (.int .i64 (Dn x y))/\∃q z,w'=grow (W.drewN q) z:=by
 have h1:=pA x.x0;have h2:=pA y.x0;unfold iA Dn;generalize cl x.x0=a1 at *;generalize cl x.y0=a2 at *;generalize cl x.x1=a3 at *;generalize cl x.y1=a4 at *;generalize cl y.x0=b1 at *;generalize cl y.y0=b2 at *;generalize cl y.x1=b3 at *;generalize cl y.y1=b4 at *
 go_enter Tryz.func253,Tryz.ntmps253
 go_wp2
 go_ret
 exact⟨rfl,0,_,by rw[alloc_eq_grow,alloc_eq_grow,grow_grow];rfl⟩
theorem XD(l:List aB)(hl:∀r∈l,Bd r)(z:l.length<4611686018427387904):ai C 169 [.row 93 (l.map rc),.pv (OE 253)] (.tu []) [.row ((eO Dn l).map rc)]:=
 B6 Dn T7 _ (enters_of Tryz.func253 (by kernel_rfl) rfl) R7 l hl z
theorem R8{l:List (Int×Int)}{j:Nat}{p q:Int×Int}(hp:l[j]?=some p)(z:l[(j+1) % l.length]?=some q):jG l (j+1)=jG l j++vc p q:=by
 have D:=(az.1 hp).1;rw[jG,mQ,mQ,E5 D,F1,F1,hp,z];rfl
theorem UA{l:List (Int×Int)}{K:Int}(h:Reg.Xy (JM l) (xJ l) K)(y:Int):flat (pairUp (oD (xJ l) y))=oD (xJ l) y:=by
 rw[qw,Reg.s6 _ (h.even y)]
theorem UC{l:List Int}{n:Nat}(h:l.length=n+1):l.getLast?=l[n]?:=by rw[fJ,h];rfl
theorem DW(l:List (Int×Int))(K:Int)(hK:K<=4000000000000)(hl:∀q∈l,(-K<=q.1/\q.1<=K)/\(-K<=q.2/\q.2<=K))(h0:0<l.length)(hN:l.length<=1000000)(ha:Reg.OI l):ai C 239 [.pv (.sl [[.sl (l.map sp)]])] (.p (a_ (jT l))) []:=by
 have z:=EM hK hl h0 ha;have PA:=RX hK hl h0 l.length;have D:=Reg.GI l;have hev:=UA z;have Y0:=RV l;have hxf:=fun y=>Reg.xH z.srt y;have wh:=fun i r h y=>@Reg.Uv (xJ l) i r h y;have haf:=Reg.p7 z;have VS:=(nA Dn T7 (jG l l.length)).1.length_eq;have Zv:(xJ l).length<=1000000:=by rw[xJ,VS];have:=D l.length;omega
 have hyk:=z.yk;have hxk:=z.xk;have acX:=z.ris;have acY:=z.srt;have I:jT l=eE (JM l) (xJ l) ((JM l).length-1):=rfl;have O:=an l sp;refine FP ⟨[31,32],[2,6],[],[32],[],[]⟩ hC Tryz.func239 rfl (by kernel_rfl) fun _=>?_;refine aP (fun i:Nat=>i<=1) (fun i=>[(3,.ow 3),(4,.ow 4),(16,.p (.sl [[.sl (l.map sp)]])),(17,.p (i64 1)),(18,.p (i64 i))]) (fun i=>[(3,.row 3 (((l.take (i*l.length)).map (·.2)).map fun n=>[i64 n])),(4,.row 93 ((jG l (i*l.length)).map rc))]) (fun i=>1-i) 0 _ (aA.trans (aA.eK hC _ 3 3 _ (by decide) rfl rfl (by decide)) (aA.eK hC _ 4 93 _ (by decide) rfl rfl (by decide))) (ak _) ⟨Z,Z,Z,Z,Z,Y⟩ ⟨by rw[tG];rfl,by rw[tG];rfl,trivial⟩ fun i hi t h=>?_;apply iW<;>intro h1
 ·have e:i=0:=by omega
  subst e;refine⟨[.sl (l.map sp)],⟨cz _,rfl⟩,?_⟩;refine Ak (fun _:Unit=>True) (fun _=>[(3,.ow 3),(4,.ow 4),(16,.p (.sl [[.sl (l.map sp)]])),(17,.p (i64 1)),(18,.p (i64 0))]) (fun _=>[(3,.row 3 ((l.map (·.2)).map fun n=>[i64 n])),(4,.row 93 ((jG l l.length).map rc))]) (fun _ _ t h=>?_) ?_
  ·refine⟨wO (by omega),?_⟩;exact⟨1,_,aA.refl _ _,by omega,by omega,⟨Z,Z,Z,Z,Z,Y⟩,⟨by rw[Nat.one_mul,jR];rfl,by rw[Nat.one_mul];rfl,trivial⟩⟩
  refine aP (fun j:Nat=>j<=l.length) (fun j=>[(3,.ow 3),(4,.ow 4),(6,.p (.sl (l.map sp))),(16,.p (.sl [[.sl (l.map sp)]])),(17,.p (i64 1)),(18,.p (i64 0)),(22,.p (.sl (l.map sp))),(23,.p (i64 (l.map sp).length)),(24,.p (i64 j))]) (fun j=>[(3,.row 3 (((l.take j).map (·.2)).map fun n=>[i64 n])),(4,.row 93 ((jG l j).map rc))]) (fun j=>l.length-j) 0 _ (aA.refl _ _) (ak _) ⟨Z,Z,Z,Z,Z,Z,Z,Z,Z,Y⟩ ⟨by rw[tG];rfl,by rw[tG];rfl,trivial⟩ fun j hj t h=>?_;apply iW<;>intro R
  ·rw[O]at R;obtain⟨p,hp⟩:=ao (l:=l) (i:=j) (by omega);have Xf:(j+1) % l.length<l.length:=na _ (by omega);obtain⟨q,hq⟩:=ao (l:=l) (i:=(j+1) % l.length) Xf;have J:=MN j l.length;rw[<-O]at J;have hs:=R8 hp hq;have afF:=D j;have U:((l.take (j+1)).map (·.2)).map (fun n=>[i64 n])=(((l.take j).map (·.2)).map fun n=>[i64 n])++[[i64 p.2]]:=by rw[bq hp];simp
   refine⟨(sp p),(idx rfl hp),?_⟩;refine⟨wO (by omega),?_⟩;refine⟨fun e=>by have e:(((l.map sp).length:Nat):Int)=0:=e;omega,?_⟩;refine⟨(sp q),(idx (J.trans (by rw[O])) hq),?_⟩;refine⟨⟨kL rfl,by simp;omega,by simp;omega⟩,?_⟩;apply iW<;>intro h3
   ·refine⟨⟨kL rfl,by simp;omega,by simp;omega⟩,?_⟩;refine⟨wO (by omega),?_⟩;refine⟨(j+1),_,aA.refl _ _,?_⟩;refine⟨by omega,by omega,⟨Z,Z,Z,Z,Z,Z,Z,Z,Z,Y⟩,⟨?_,?_,trivial⟩⟩
    ·rw[U];rfl
    rw[hs,vc,ae h3,bB];rfl
   refine⟨wO (by omega),?_⟩;refine⟨(j+1),_,aA.refl _ _,?_⟩;refine⟨by omega,by omega,⟨Z,Z,Z,Z,Z,Z,Z,Z,Z,Y⟩,⟨?_,?_,trivial⟩⟩
   ·rw[U];rfl
   rw[hs,vc,aa h3,dP];rfl
  rw[O]at R;have e:j=l.length:=by omega
  subst e;exact⟨(),trivial,⟨Z,Z,Z,Z,Z,Y⟩,⟨by rw[jR];rfl,Z,Y⟩⟩
 have e:i=1:=by omega
 subst e;rw[Nat.one_mul,jR];refine⟨_,_,(EA (l.map (·.2)) (by rw[au];omega)),?_⟩;refine⟨_,_,(xg (pC (l.map (·.2))) (by rw[pC,mc,au];omega)),?_⟩;refine⟨_,_,(XD (jG l l.length) (fun r J=>(PA r J).1) (by have:=D l.length;omega)),?_⟩;rw[show compact (pC (l.map (·.2)))=JM l from rfl,show eO Dn (jG l l.length)=xJ l from rfl,I];clear I VS PA D O z ha;generalize JM l=ys at *;generalize xJ l=up at *;have ly:=an ys fun n=>[i64 n];have lu:=an up rc;refine aP (fun k:Nat=>k<=ys.length-1) (fun k=>[(3,.p (ints ys)),(4,.p (aE up)),(10,.ow 10),(11,.p (i64 k))]) (fun k=>[(10,.row 180 ((eE ys up k).map hb))]) (fun k=>ys.length-k) 0 _ (aA.trans (aA.eK hC _ 10 180 _ (by decide) rfl rfl (by decide)) (aA.trans (aA.own hC _ 3 rfl rfl) (aA.own hC _ 4 rfl rfl))) (ak _) ⟨Z,Z,Z,Z,Y⟩ ⟨Z,Y⟩ fun k hk t h=>?_;refine⟨wO (by omega),?_⟩;apply iW<;>intro h1
 ·rw[ly]at h1;obtain⟨y,V⟩:=ao (l:=ys) (i:=k) (by omega);obtain⟨y',oO⟩:=ao (l:=ys) (i:=k+1) (by omega);have hgy:=A2 V;have acZ:=A2 oO;obtain⟨g1,g2,g3,g4,g5⟩:=haf k (by omega);obtain⟨_,x2,_,x4⟩:=hxf y;have eX:y<y':=by
   obtain⟨b1,b2⟩:=az.1 V;obtain⟨c1,c2⟩:=az.1 oO;have:=(cS.1 acX) k (k+1) b1 c1 (by omega);omega
  refine Ak (fun _:Unit=>True) (fun _=>[(3,.p (ints ys)),(4,.p (aE up)),(10,.ow 10),(11,.p (i64 k)),(12,.ow 12)]) (fun _=>[(10,.row 180 ((eE ys up k).map hb)),(12,.row 3 ((flat (pairUp (oD up y))).map fun n=>[i64 n]))]) (fun _ _ t h=>?_) ?_
  ·refine qk (aA.own (by exact hC) _ 12 (id:=12) (e:=3) (es:=(flat (pairUp (oD up y))).map fun n=>[i64 n]) (by exact rfl) (by exact rfl)) ?_;refine⟨[i64 y],(idx rfl V),?_⟩;refine⟨wO (by omega),?_⟩;refine⟨[i64 y'],(idx (by omega) oO),?_⟩;refine⟨_,_,(vE (eE ys up k) ⟨y,y',pairUp (oD up y)⟩ eX (by omega) (fun t ht=>by have:=g5 t ht;omega)),?_⟩;refine⟨wO (by omega),?_⟩;refine⟨(k+1),_,aA.refl _ _,?_⟩;refine⟨by omega,by omega,⟨Z,Z,Z,Z,Y⟩,⟨?_,trivial⟩⟩;rw[eE,Reg.I3,hgy,acZ];rfl
  refine aP (fun j:Nat=>j<=up.length) (fun j=>[(3,.p (ints ys)),(4,.p (aE up)),(10,.ow 10),(11,.p (i64 k)),(12,.ow 12),(78,.p (aE up)),(79,.p (i64 (up.map rc).length)),(80,.p (i64 j))]) (fun j=>[(10,.row 180 ((eE ys up k).map hb)),(12,.row 3 ((oD (up.take j) y).map fun n=>[i64 n]))]) (fun j=>up.length-j) 0 _ (aA.eK hC _ 12 3 _ (by decide) rfl rfl (by decide)) (ak _) ⟨Z,Z,Z,Z,Z,Z,Z,Z,Y⟩ ⟨Z,Z,Y⟩ fun j hj t h=>?_;apply iW<;>intro R
  ·rw[lu]at R;obtain⟨r,J⟩:=ao (l:=up) (i:=j) (by omega);have N:=wh j r J y;obtain⟨xs,uN⟩:∃xs,xs=oD (up.take j) y:=⟨_,rfl⟩;rw[<-uN]at N;have Wg:xs.length<=1000000:=by
    have W:xs.length<=(up.take j).length:=by
     rw[uN];exact (Reg.xH (acY.sublist (List.take_sublist j up)) y).2.2.2
    rw[cE]at W;omega
   rw[<-uN];have lx:=an xs fun n=>[i64 n];refine⟨(rc r),(idx rfl J),?_⟩;refine⟨[i64 y],(idx rfl V),?_⟩;apply iW<;>intro h3
   ·refine qk (aA.refl _ _) ?_;refine⟨wO (by omega),?_⟩;refine⟨(j+1),_,aA.refl _ _,?_⟩;refine⟨by omega,by omega,⟨Z,Z,Z,Z,Z,Z,Z,Z,Y⟩,⟨rfl,?_,trivial⟩⟩;rw[N,aa (by simp[js];omega)];rfl
   refine⟨[i64 y],(idx rfl V),?_⟩;apply iW<;>intro h4
   ·refine qk (aA.refl _ _) ?_;refine⟨wO (by omega),?_⟩;refine⟨(j+1),_,aA.refl _ _,?_⟩;refine⟨by omega,by omega,⟨Z,Z,Z,Z,Z,Z,Z,Z,Y⟩,⟨rfl,?_,trivial⟩⟩;rw[N,aa (by simp[js];omega)];rfl
   have hc:js y r=true:=by simp[js];omega
   rw[ae hc]at N;apply iW<;>intro W
   ·rw[lx]at W;obtain⟨n,hn⟩:∃n,xs.length=n+1:=⟨xs.length-1,by omega⟩;obtain⟨x,hx⟩:=ao (l:=xs) (i:=n) (by omega);have Ec:=(UC hn).trans hx;refine⟨wO (by omega),?_⟩;refine⟨wO (by omega),?_⟩;refine⟨[i64 x],(idx (by omega) hx).2,?_⟩;apply iW<;>intro h6
    ·refine⟨wO (by omega),?_⟩;refine Or.inl ?_;refine⟨⟨by omega,by omega,by omega⟩,?_⟩;refine qk (aA.front (by exact hC) _ 12 12 _ (by decide) (by exact rfl) (by exact rfl)) ?_;refine⟨wO (by omega),?_⟩;refine⟨(j+1),_,aA.refl _ _,?_⟩;refine⟨by omega,by omega,⟨Z,Z,Z,Z,Z,Z,Z,Z,Y⟩,⟨rfl,?_,trivial⟩⟩;rw[N,I2,ae (by rw[Ec,h6])];have hdl:xs.dropLast=xs.take n:=by rw[List.dropLast_eq_take,hn];rfl
     rw[hdl];show AB.row 3 (List.take ((((xs.map fun n=>[i64 n]).length:Nat):Int)-1).toNat (xs.map fun n=>[i64 n]))=AB.row 3 ((xs.take n).map fun n=>[i64 n]);rw[Mu];refine af (fun k=>AB.row 3 (List.take k (xs.map fun n=>[i64 n]))) ?_;omega
    refine⟨⟨kL rfl,by simp;omega,by simp;omega⟩,?_⟩;refine qk (aA.refl _ _) ?_;refine⟨wO (by omega),?_⟩;refine⟨(j+1),_,aA.refl _ _,?_⟩;refine⟨by omega,by omega,⟨Z,Z,Z,Z,Z,Z,Z,Z,Y⟩,⟨rfl,?_,trivial⟩⟩;rw[N,I2,aa (by rw[Ec];intro e;injection e with e;exact h6 e),bB];rfl
   rw[lx]at W;have e:xs=[]:=cI (by omega);refine⟨⟨kL rfl,by simp;omega,by simp;omega⟩,?_⟩;refine qk (aA.refl _ _) ?_;refine⟨wO (by omega),?_⟩;refine⟨(j+1),_,aA.refl _ _,?_⟩;refine⟨by omega,by omega,⟨Z,Z,Z,Z,Z,Z,Z,Z,Y⟩,⟨rfl,?_,trivial⟩⟩;rw[N,I2,aa (by rw[e];simp),bB];rfl
  rw[lu]at R;have e:j=up.length:=by omega
  subst e;exact⟨(),trivial,⟨Z,Z,Z,Z,Z,Y⟩,⟨rfl,by rw[jR,hev];rfl,trivial⟩⟩
 rw[ly]at h1;have e:k=ys.length-1:=by omega
 subst e;refine⟨?_,trivial⟩;rfl
open Reg (iL RI me fg)
theorem M5{s:List aR}(z:dF s)(ks:gy 1000000 s):ai C 135 [.pv (a_ s)] (.p (i64 (told s).length)) []:=by
 have l1:=Reg.eW z (by omega) ks;have l2:=Reg.rP z (by omega) ks;exact vM s (by omega) (fun t D=>by have:=l2 t D;omega) (Reg.lO z (ks.up (B:=1400000) (by omega)))
theorem zg(p:cy)(m:cR)(K:Int)(I:fh p K m)(s:List aR)(J:dF s)(ks:gy 2000000 s):ai C 237 [.box (dz p m),.pv (a_ s)] (.p (i64 (pJ m s).2)) [.box (dz p (pJ m s).1)]:=by
 obtain⟨D,z⟩:∃D,D=pJ m s:=⟨_,rfl⟩;rw[<-z];refine fW hC Tryz.func237 rfl (by kernel_rfl) fun _=>?_;refine⟨_,_,(CI s J ks),iW ?_ ?_⟩<;>intro h
 ·have N:¬CC s=true:=by simpa [CC] using h
  rw[pJ,aa N]at z;subst z;exact⟨Z,Z,Y⟩
 have N:CC s=true:=by simpa [CC] using h
 rw[pJ,ae N,RN]at z;have R:=M0 J N;apply iW<;>intro U
 ·rw[ae U]at z;dsimp only at z;obtain⟨l1,_,O⟩:=Reg.oC I.sok J;refine⟨_,_,(Cy m.img s I.sok J (I.ink.up (by omega)) ks),_,_,(M5 l1 (O _ I.ink R)),iW ?_ ?_⟩<;>intro V
  ·rw[ae (by omega)]at z;subst z;exact⟨Z,Z,Y⟩
  rw[aa (by omega)]at z;subst z;exact⟨Z,Z,Y⟩
 rw[aa (by rw[U];decide)]at z;dsimp only at z;obtain⟨l1,_,O⟩:=Reg.I0 I.sok J;refine⟨_,_,(R3 m.img s I.sok J (I.ink.up (by omega)) ks),_,_,(M5 l1 (O _ I.ink R)),iW ?_ ?_⟩<;>intro V
 ·rw[ae (by omega)]at z;subst z;exact⟨Z,Z,Y⟩
 rw[aa (by omega)]at z;subst z;exact⟨Z,Z,Y⟩
theorem R9{u:Int}{b q:Int×Int}(z:kS q u=true)(hb:R4 b):(-2001000000<=(dx u b q).1/\(dx u b q).1<=2001000000)/\(-2001000000<=(dx u b q).2/\(dx u b q).2<=2001000000):=by
 have h:=CJ z;obtain⟨b1,b2⟩:=hb;unfold dx;dsimp only;omega
theorem OT(p:cy)(hp:dV p)(m:cR)(K:Int)(hm:fh p K m)(l:List (Int×Int))(hl:∀q∈l,kS q p.unit=true)(hn:l.length<=2000)(hr:Ch l=true)(b:Int×Int)(hb:R4 b):ai C 208 [.box (dz p m),.pv (.sl (l.map sp)),.pv (.ag (sp b))] (.p (i64 (ve p m l b).2)) [.box (dz p (ve p m l b).1)]:=by
 obtain⟨D,I⟩:∃D,D=ve p m l b:=⟨_,rfl⟩;rw[<-I];rw[ve]at I;have V:=an l sp;obtain⟨r1,O⟩:=I5 hr p.unit hp.unit.1 b;have W:∀q∈l.map (dx p.unit b),(-2001000000<=q.1/\q.1<=2001000000)/\(-2001000000<=q.2/\q.2<=2001000000):=fun q J=>by
  obtain⟨z,hz,rfl⟩:=aZ.1 J;exact R9 (hl z hz) hb
 have N:(l.map (dx p.unit b)).length=l.length:=au _;obtain⟨a1,a2,a3,a4⟩:=vO (K:=2001000000) (by omega) W (by rw[N];omega) O;have hT:(told (jT (l.map (dx p.unit b)))).length<=4000000:=aS (Reg.Cw (M:=2000) fun t R=>by have:=a4 t R;omega) (by omega);refine fW hC Tryz.func208 rfl (by kernel_rfl) fun _=>?_;refine aP (fun j:Nat=>j<=l.length) (fun j=>[(0,.bx 100000 0),(5,.bx 5 0),(7,.ow 7),(11,.p (.sl (l.map sp))),(12,.p (i64 (l.map sp).length)),(13,.p (i64 j))]) (fun j=>[(100000,.box ((dz p m).map .p)),(5,.box [.p (i64 b.1),.p (i64 b.2)]),(7,.row 78 (((l.take j).map (dx p.unit b)).map sp))]) (fun j=>l.length-j) 0 _ (aA.eK hC _ 7 78 _ (by decide) rfl rfl (by decide)) (ak _) ⟨Z,Z,Z,Z,Z,Z,Y⟩ ⟨Z,Z,Z,Y⟩ fun j hj t h=>?_;apply iW<;>intro h1
 ·rw[V]at h1;obtain⟨q,J⟩:=ao (l:=l) (i:=j) (by omega);refine⟨(sp q),(idx rfl J),_,_,(CL p m q b (hl q (aj J)) hb),⟨kL rfl,by simp;omega,by simp;omega⟩,wO (by omega),(j+1),_,aA.refl _ _,by omega,by omega,⟨Z,Z,Z,Z,Z,Z,Y⟩,⟨rfl,rfl,?_,trivial⟩⟩;rw[bq J,bB,bB];rfl
 rw[V]at h1;have e:j=l.length:=by omega
 subst e;rw[jR];refine⟨_,_,(DW (l.map (dx p.unit b)) 2001000000 (by omega) W (by rw[N];omega) (by rw[N];omega) O),_,_,(vM (jT (l.map (dx p.unit b))) (by omega) (fun t R=>by have:=a4 t R;omega) (by omega)),iW ?_ ?_⟩<;>intro h2
 ·rw[ae (by omega)]at I;subst I;exact⟨Z,Z,Y⟩
 rw[aa (by omega)]at I;refine⟨_,_,(GN (l.map (dx p.unit b)) (by rw[N];omega)),iW ?_ ?_⟩<;>intro U
 ·rw[ae U]at I;subst I;exact⟨Z,Z,Y⟩
 rw[aa (by rw[U];decide)]at I;have nQ:∀q∈l.map (dx p.unit b),(-1000000<=q.1/\q.1<=1000000)/\(-1000000<=q.2/\q.2<=1000000):=fun q J=>by
  have:=GF.1 U q J;exact qy (by simpa using this)
 obtain⟨_,c2,_⟩:=vO (K:=1000000) (by omega) nQ (by rw[N];omega) O;refine⟨_,_,(zg p m K hm (jT (l.map (dx p.unit b))) a1 (c2.up (by omega))),?_⟩;subst I;exact⟨Z,Z,Y⟩
theorem qIn{f:FuncId}{n off id:Nat}{y:PV}{ys zs:List PV}{K:AV->List (Nat×AB)->Option AB->Prop}{D z:List (Nat×Value)}{r:Value}(I:vq C f n off y D z r)(J:Nq ys D)(N:JQ z=true)(O:LR z ys=zs)(hk:K (.p (.im r)) [(id,.box (zs.map .p))] none):
  ∃D z r,vq C f n off y D z r/\Nq ys D/\JQ z=true/\K (.p (.im r)) [(id,.box ((LR z ys).map .p))] none:=⟨D,z,r,I,J,N,O▸hk⟩
theorem R_{lit:Bool}{m:cR}{q:Int×Int}(h:(mR lit m q).2=0):mB q=true/\mR lit m q=(CD lit m q,0):=by
 unfold mR at h ⊢;split at h
 ·rename_i z;exact⟨z,ae z⟩
 cases h
theorem I8{p:cy}(hp:dV p){m:cR}{K:Int}(z:fh p K m)(h:¬m.tool<0):∃(k:Nat) (t:dD),m.tool=k/\p.tools[k]?=some t/\xI p m.tool=mW p t:=by
 have ht:=z.tool;obtain⟨t,e⟩:=ao (l:=p.tools) (i:=m.tool.toNat) (by omega);refine⟨m.tool.toNat,t,by omega,e,?_⟩;rw[<-RS e];congr 1;omega
theorem Lo(p:cy)(hp:dV p)(m:cR)(K:Int)(N:fh p K m)(hK:K<=10000)(q:Int×Int):ai C 206 [.box (dz p m),.pv (.ag (sp q))] (.p (i64 (p9 p m q).2)) [.box (dz p (p9 p m q).1)]:=by
 obtain⟨D,z⟩:∃D,D=p9 p m q:=⟨_,rfl⟩;rw[<-z];rw[p9]at z;obtain⟨rd,wr,hq,h1,h2,h3⟩:=zf false p m K N (by omega) q;refine FP ⟨[],[],[],[3,6],[],[]⟩ hC Tryz.func206 rfl (by kernel_rfl) fun _=>?_;apply iW<;>intro g
 ·rw[ae g]at z;subst z;exact⟨Z,Z,Y⟩
 rw[aa g]at z;refine qIn hq h1 h2 h3 ?_;apply iW<;>intro I
 ·rw[aa I]at z;subst z;exact⟨Z,Z,Y⟩
 have I:(mR false m q).2=0:=by simpa using I
 rw[ae I]at z;obtain⟨J,e1⟩:=R_ I;obtain⟨k,t,ek,ht,es⟩:=I8 hp N g;obtain⟨O,R⟩:=nX hp m.tool;obtain⟨U,V⟩:=uA O R J J;have W:=rS (lit:=false) (q:=q) N;rw[es]at O R U V z;rw[e1]at W z ⊢;refine⟨[a_ (mW p t)],(idx ek ht),_,_,(CM (mW p t) O R q q J J),_,_,(zg p (CD false m q) (K+1) W (s_ (mW p t) q q) U V),?_⟩;subst z;exact⟨Z,Z,Y⟩
theorem OU(p:cy)(hp:dV p)(m:cR)(K:Int)(I:fh p K m)(hK:K<=10000)(q:Int×Int):ai C 207 [.box (dz p m),.pv (.ag (sp q))] (.p (i64 (vd p m q).2)) [.box (dz p (vd p m q).1)]:=by
 obtain⟨D,z⟩:∃D,D=vd p m q:=⟨_,rfl⟩;rw[<-z];rw[vd]at z;obtain⟨rd,wr,hq,h1,h2,h3⟩:=zf true p m K I (by omega) q;have rest:∀(c:¬(m.tool<0\/m.placed=false)) (J:¬(¬q.1=m.px/\¬q.2=m.py)),D=if (mR true m q).2=0 then pJ (mR true m q).1 (s_ (xI p m.tool) (m.px,m.py) q) else mR true m q:=fun c J=>by rw[z,aa c,aa J]
 refine FP ⟨[],[],[],[6,9],[],[5]⟩ hC Tryz.func207 rfl (by kernel_rfl) fun _=>?_;apply iW<;>intro g
 ·rw[ae (.inl g)]at z;subst z;exact⟨Z,Z,Y⟩
 apply iW<;>intro U
 ·rw[ae (.inr U)]at z;subst z;exact⟨Z,Z,Y⟩
 have V:¬(m.tool<0\/m.placed=false):=by
  rintro (h | h)
  ·exact g h
  rw[U]at h;cases h
 refine (ZE (fun _:Unit=>¬(¬q.1=m.px/\¬q.2=m.py)) (fun _=>[(0,.bx 100000 0),(3,.bx 3 0)]) (fun _=>[(100000,.box ((dz p m).map .p)),(3,.box [.p (i64 q.1),.p (i64 q.2)])]) (fun _ hc t h=>?_) ?_)
 ·replace z:=rest V hc;refine qIn hq h1 h2 h3 ?_;apply iW<;>intro N
  ·rw[aa N]at z;subst z;exact⟨Z,Z,Y⟩
  have N:(mR true m q).2=0:=by simpa using N
  rw[ae N]at z;obtain⟨W,e1⟩:=R_ N;obtain⟨k,t,ek,ht,es⟩:=I8 hp I g;obtain⟨O,R⟩:=nX hp m.tool;have VR:=RT I.px I.py;obtain⟨v1,v2⟩:=uA O R VR W;have Hi:=rS (lit:=true) (q:=q) I;rw[es]at O R v1 v2 z;rw[e1]at Hi z ⊢;refine⟨[a_ (mW p t)],(idx ek ht),_,_,(CM (mW p t) O R (m.px,m.py) q VR W),_,_,(zg p (CD true m q) (K+1) Hi (s_ (mW p t) (m.px,m.py) q) v1 v2),?_⟩;subst z;exact⟨Z,Z,Y⟩
 apply iW<;>intro c1
 ·apply iW<;>intro J
  ·have z:D=(m,3):=by rw[z,aa V,ae ⟨c1,J⟩]
   subst z;exact⟨Z,Z,Y⟩
  exact⟨(),fun h=>h.2 (by simpa using J),⟨Z,Z,Y⟩,⟨Z,Z,Y⟩⟩
 exact⟨(),fun h=>h.1 (by simpa using c1),⟨Z,Z,Y⟩,⟨Z,Z,Y⟩⟩
def GP(d:Int)(b:Int×Int):Prop:=(-(100000000*d)<=b.1/\b.1<=100000000*d)/\(-(100000000*d)<=b.2/\b.2<=100000000*d)
theorem GP.by{d:Int}{b:Int×Int}(h:GP d b)(hd:d<=6):R4 b:=by
 unfold GP at h;unfold R4;omega
def Sa(p:cy)(u:Steps):Prop:=∀(d:Int) (b:Int×Int) (m:cR) (K:Int),0<=d->d<=5->gO p u d=0->fh p K m->0<=K->K+jH u<=3000->GP d b->u.rows.length<=1048576->ai C 122 [.box (dz p m),.pv (.sl u.rows),.pv (.ag (sp b))] (.p (i64 (runM p u b m).2)) [.box (dz p (runM p u b m).1)]
theorem xN{i a:Int}(z:0<=i)(D:i<=99)(N:-1000000<=a/\a<=1000000):-99000000<=i*a/\i*a<=99000000:=by
 rcases Int.le_total 0 a with h | h
 ·have I:0<=i*a:=pE z h;have J:i*a<=99*1000000:=ur D N.2 h (by omega);omega
 have I:0<=i*(-a):=pE z (by omega);have J:i*(-a)<=99*1000000:=ur D (by omega) (by omega) (by omega);rw[Int.mul_neg]at I J;omega
theorem go_next{f:Nat->cR->cR×Int}{n k:Nat}{m:cR}(h:k<n):goN f (n-k) k m=if (f k m).2=0 then goN f (n-(k+1)) (k+1) (f k m).1 else f k m:=by
 rw[show n-k=(n-(k+1))+1 by omega,goN]
theorem OV(p:cy)(hp:dV p)(s:gp)(sub:Steps)(d:Int)(b:Int×Int)(m:cR)(K:Int)(hd:0<=d/\d<=5)(hs:jm p s sub.rows.length d=0)(h2:gO p sub (d+1)=0)(ZW:Sa p sub)(hN:sub.rows.length<=1048576)(O:fh p K m)(hK0:0<=K)(hK:K+(1+tm s.nx*tm s.ny*jH sub)<=3000)(hb:GP d b):
  ai C 177 [.box (dz p m),.pv (.ag (Dp s sub.rows)),.pv (.ag (sp b))] (.p (i64 (pK p s (runM p sub) b m).2)) [.box (dz p (pK p s (runM p sub) b m).1)]:=by
 obtain⟨D,z⟩:∃D,D=pK p s (runM p sub) b m:=⟨_,rfl⟩;rw[<-z];rw[pK]at z;obtain⟨f1,f2,f3,f4,f5,f6⟩:=CG hs;have htm:=sY s.nx s.ny;have R:=nM sub;have U:0<=tm s.nx*tm s.ny*jH sub:=pE (by omega) R;have V:=hb.by (by omega);have hu:=hp.unit;have htl:=hp.tools;obtain⟨rd,wr,hq,Wv,oP,hr3⟩:=zf false p m K O (by omega) (dx p.unit b (s.x,s.y));refine FP ⟨[],[3],[],[9],[],[]⟩ hC Tryz.func177 rfl (by kernel_rfl) fun _=>?_;refine⟨_,_,(CL p m (s.x,s.y) b f2 V),iW ?_ ?_⟩<;>intro k1
 ·apply iW<;>intro k1'
  ·rw[ae (.inl k1)]at z;subst z;exact⟨Z,Z,Y⟩
  exact absurd k1 k1'
 apply iW<;>intro k2
 ·rw[ae (.inr k2)]at z;subst z;exact⟨Z,Z,Y⟩
 rw[aa (by rintro (h | h)<;>contradiction)]at z;apply iW<;>intro k3
 ·rw[ae k3]at z;subst z;exact⟨_,_,(zW p s.name (by omega)),Z,Z,Y⟩
 rw[aa k3]at z;apply iW<;>intro k4
 ·rw[ae k4]at z;subst z;refine qIn hq Wv oP hr3 ?_;exact⟨Z,Z,Y⟩
 rw[aa k4]at z;apply iW<;>intro k5
 ·rw[ae k5]at z;subst z;exact⟨_,_,(Lo p hp m K O (by omega) (dx p.unit b (s.x,s.y))),Z,Z,Y⟩
 rw[aa k5]at z;apply iW<;>intro k6
 ·rw[ae k6]at z;subst z;exact⟨_,_,(OU p hp m K O (by omega) (dx p.unit b (s.x,s.y))),Z,Z,Y⟩
 rw[aa k6]at z;apply iW<;>intro k7
 ·rw[ae k7]at z;subst z;exact⟨_,_,(OT p hp m K O s.pts f3 f4 (f5 k7) b V),Z,Z,Y⟩
 rw[aa k7]at z;apply iW<;>intro k8
 ·rw[ae k8]at z;obtain⟨g1,g2,g3⟩:=f6 k8;have tx:=GK g1;have ty:=GK g2;have ix:=cd.1 g1;have iy:=cd.1 g2;have nx:(s.nx.toNat:Int)=s.nx:=by omega
  have ny:(s.ny.toNat:Int)=s.ny:=by omega
  rw[<-tx,<-ty,nx,ny]at hK U;have hf:=CJ f2;have hx:=MM hu.1 (Be.1 f2).1;have hy:=MM hu.1 (Be.1 f2).2;have hb':=hb;unfold GP at hb';have W:0<=s.nx*jH sub:=pE (by omega) R;have hT:s.nx*s.ny*jH sub=s.ny*(s.nx*jH sub):=by rw[<-xF,Int.mul_comm s.ny]
  rw[hT]at hK U;have TA:∀(j:Nat) (m:cR) (K:Int),fh p K m->fh p (K+s.nx*jH sub) (I4 p s (runM p sub) b j m).1:=fun j m K h=>by
   have:=go_inv R (fun i m K h=>uB hp sub (d+1) h2 (Ta p s b j i) m K h) s.nx.toNat 0 m K h;rw[nx]at this;exact this
  refine aP (fun x:Nat×cR=>x.1<=s.ny.toNat/\goN (I4 p s (runM p sub) b) (s.ny.toNat-x.1) x.1 x.2=D/\fh p (K+(x.1:Int)*(s.nx*jH sub)) x.2) (fun x=>[(0,.bx 100000 0),(4,.bx 4 0),(5,.bx 5 0),(68,.p (i64 s.ny)),(69,.p (i64 x.1))]) (fun x=>[(100000,.box ((dz p x.2).map .p)),(4,.box ((Dp s sub.rows).map .p)),(5,.box [.p (i64 b.1),.p (i64 b.2)])]) (fun x=>s.ny.toNat-x.1) (0,m) _ (aA.refl _ _) ⟨ak _,z.symm,O.mono (by simp)⟩ ⟨Z,Z,Z,Z,Z,Y⟩ ⟨Z,Z,Z,Y⟩ fun ⟨j,N⟩ hi t h=>?_;obtain⟨q1,J,q3⟩:=hi;simp only at q1 J q3;apply iW<;>intro h1<;>try simp only[zB]at h1
  all_goals try dsimp only at h1
  ·have Y5:((j:Int)+1)*(s.nx*jH sub)<=s.ny*(s.nx*jH sub):=jh (by omega) W;rw[GG,Int.one_mul]at Y5;have hj0:0<=(j:Int)*(s.nx*jH sub):=pE (by omega) W;have q4:=TA j N _ q3;rw[go_next (by omega)]at J;have ey:=xN (i:=(j:Int)) (by omega) (by omega) hy;have ey2:=xN (i:=(j:Int)) (by omega) (by omega) hf.2;have ey3:=xF (j:Int) s.y p.unit;dsimp only at ey ey2 ey3;refine Ak (fun _:Unit=>(I4 p s (runM p sub) b j N).2=0) (fun _=>[(0,.bx 100000 0),(4,.bx 4 0),(5,.bx 5 0),(68,.p (i64 s.ny)),(69,.p (i64 j))]) (fun _=>[(100000,.box ((dz p (I4 p s (runM p sub) b j N).1).map .p)),(4,.box ((Dp s sub.rows).map .p)),(5,.box [.p (i64 b.1),.p (i64 b.2)])]) (fun _ hz t h=>?_) ?_
   ·rw[ae hz]at J;exact⟨wO (by omega),(j+1,(I4 p s (runM p sub) b j N).1),_,aA.refl _ _,⟨by dsimp only;omega,J,q4.mono (by dsimp only;rw[Int.natCast_add,Int.add_mul];simp;omega)⟩,by dsimp only;omega,⟨Z,Z,Z,Z,Z,Y⟩,⟨Z,Z,Z,Y⟩⟩
   refine aP (fun x:Nat×cR=>x.1<=s.nx.toNat/\goN (fun i m=>runM p sub (Ta p s b j i) m) (s.nx.toNat-x.1) x.1 x.2=I4 p s (runM p sub) b j N/\fh p (K+(j:Int)*(s.nx*jH sub)+(x.1:Int)*jH sub) x.2) (fun x=>[(0,.bx 100000 0),(4,.bx 4 0),(5,.bx 5 0),(68,.p (i64 s.ny)),(69,.p (i64 j)),(8,.p (i64 j)),(73,.p (i64 s.nx)),(74,.p (i64 x.1))]) (fun x=>[(100000,.box ((dz p x.2).map .p)),(4,.box ((Dp s sub.rows).map .p)),(5,.box [.p (i64 b.1),.p (i64 b.2)])]) (fun x=>s.nx.toNat-x.1) (0,N) _ (aA.refl _ _) ⟨ak _,rfl,q3.mono (by simp)⟩ ⟨Z,Z,Z,Z,Z,Z,Z,Z,Y⟩ ⟨Z,Z,Z,Y⟩ fun ⟨i,mi⟩ hi t h=>?_;obtain⟨w1,I,w3⟩:=hi;simp only at w1 I w3;apply iW<;>intro h3<;>try simp only[zB]at h3
   all_goals try dsimp only at h3
   ·have hi1:((i:Int)+1)*jH sub<=s.nx*jH sub:=jh (by omega) R;rw[GG,Int.one_mul]at hi1;have Wr:0<=(i:Int)*jH sub:=pE (by omega) R;have ex:=xN (i:=(i:Int)) (by omega) (by omega) hx;have ex2:=xN (i:=(i:Int)) (by omega) (by omega) hf.1;have ex3:=xF (i:Int) s.x p.unit;dsimp only at ex ex2 ex3;rw[go_next (by omega)]at I;have w4:=uB hp sub (d+1) h2 (Ta p s b j i) mi _ w3;have hto:GP (d+1) (Ta p s b j i):=by
     unfold GP Ta;dsimp only;omega
    refine⟨⟨by first | omega | (dsimp only;omega),by first | omega | (dsimp only;omega)⟩,⟨by first | omega | (dsimp only;omega),by first | omega | (dsimp only;omega)⟩,⟨by first | omega | (dsimp only;omega),by first | omega | (dsimp only;omega)⟩,⟨by first | omega | (dsimp only;omega),by first | omega | (dsimp only;omega)⟩,⟨by first | omega | (dsimp only;omega),by first | omega | (dsimp only;omega)⟩,⟨by first | omega | (dsimp only;omega),by first | omega | (dsimp only;omega)⟩,_,_,(ZW (d+1) (Ta p s b j i) mi _ (by omega) (by omega) h2 w3 (by omega) (by omega) hto hN),iW ?_ ?_⟩<;>intro h4
    ·rw[aa h4]at I;rw[aa (by rw[<-I];exact h4),<-I]at J;subst J;exact⟨Z,Z,Y⟩
    have h4:(runM p sub (Ta p s b j i) mi).2=0:=by simpa using h4
    rw[ae h4]at I;exact⟨wO (by omega),(i+1,(runM p sub (Ta p s b j i) mi).1),_,aA.refl _ _,⟨by dsimp only;omega,I,w4.mono (by dsimp only;rw[Int.natCast_add,Int.add_mul];simp;omega)⟩,by dsimp only;omega,⟨Z,Z,Z,Z,Z,Z,Z,Z,Y⟩,⟨Z,Z,Z,Y⟩⟩
   have e:i=s.nx.toNat:=by omega
   subst e;rw[jL,goN]at I;rw[<-I];exact⟨(),rfl,⟨Z,Z,Z,Z,Z,Y⟩,⟨Z,Z,Z,Y⟩⟩
  have e:j=s.ny.toNat:=by omega
  subst e;rw[jL,goN]at J;subst J;exact⟨Z,Z,Y⟩
 exfalso;have:=cd.1 f1;omega
theorem I9(p:cy)(hp:dV p)(u:Steps)(hs:u.every (Sa p))(ho:u.ok):Sa p u:=by
 intro d b m K O R hF hm U hK hb hN;obtain⟨D,hD⟩:∃D,D=runM p u b m:=⟨_,rfl⟩;rw[<-hD];refine fW hC Tryz.func122 rfl (by kernel_rfl) fun _=>?_;refine aP (fun x:Nat×Steps×cR×Int=>u.rows.drop x.1=x.2.1.rows/\x.2.1.every (Sa p)/\x.2.1.ok/\gO p x.2.1 d=0/\x.1<=u.rows.length/\fh p x.2.2.2 x.2.2.1/\0<=x.2.2.2/\x.2.2.2+jH x.2.1<=3000/\runM p x.2.1 b x.2.2.1=D) (fun x=>[(0,.bx 100000 0),(5,.bx 5 0),(10,.p (.sl u.rows)),(11,.p (i64 u.rows.length)),(12,.p (i64 x.1))]) (fun x=>[(100000,.box ((dz p x.2.2.1).map .p)),(5,.box [.p (i64 b.1),.p (i64 b.2)])]) (fun x=>u.rows.length-x.1) (0,u,m,K) _ (aA.refl _ _) ⟨rfl,hs,ho,hF,ak _,hm,U,hK,hD.symm⟩ ⟨Z,Z,Z,Z,Z,Y⟩ ⟨Z,Z,Y⟩ fun ⟨i,v,mv,V⟩ hi tt h=>?_;obtain⟨I,q2,q3,W,q5,q6,q7,q8,z⟩:=hi;simp only at I q2 q3 W q5 q6 q7 q8 z;apply iW<;>intro h1<;>try simp only[zB]at h1
 all_goals try dsimp only at h1
 ·cases v with
  | nil=>
   exfalso;have:=af List.length I;simp[Steps.rows]at this;omega
  | cons s sub rest=>
   obtain⟨d1,d2,d3⟩:=iV I;obtain⟨r1,r2⟩:=q2;obtain⟨o1,o2,o3,o4⟩:=q3;have PN:∀k:Int,k=(i:Int)->0<=k/\u.rows[k.toNat]?=some (Dp s sub.rows):=fun k hk=>by rw[hk];exact⟨by omega,by rw[F0];exact d1⟩
   rw[gO]at W;obtain⟨a1,J⟩:=dp W;obtain⟨J,a3⟩:=dp J;have c1:=nM rest;have c2:=nM sub;rw[jH]at q8;have wh:=I6 hp a1 c2 (fun b m K h=>uB hp sub (d+1) J b m K h) b mv V q6;have c3:0<=tm s.nx*tm s.ny*jH sub:=pE (by have:=sY s.nx s.ny;omega) c2;rw[runM]at z;refine⟨(Dp s sub.rows),(PN _ rfl),_,_,(OV p hp s sub d b mv V ⟨O,R⟩ a1 J r1 o2 q6 q7 (by omega) hb),iW ?_ ?_⟩<;>intro N
   ·rw[aa N]at z;subst z;exact⟨Z,Z,Y⟩
   have N:(pK p s (runM p sub) b mv).2=0:=by simpa using N
   rw[ae N]at z;exact⟨⟨by first | omega | (dsimp only;omega),by first | omega | (dsimp only;omega)⟩,(i+1,rest,(pK p s (runM p sub) b mv).1,V+(1+tm s.nx*tm s.ny*jH sub)),_,aA.refl _ _,⟨d2,r2,o4,a3,by dsimp only;omega,wh,by dsimp only;omega,by dsimp only;omega,z⟩,by dsimp only;omega,⟨Z,Z,Z,Z,Z,Y⟩,⟨Z,Z,Y⟩⟩
 have hv:v=.nil:=xw (by rw[<-I,lU];omega);rw[hv,runM]at z;subst z;exact⟨Z,Z,Y⟩
theorem Sb(p:cy)(hp:dV p)(z:p.steps.ok)(D:p.steps.rows.length<=1048576):ai C 122 [.box (dz p mX),.pv (.sl p.steps.rows),.pv (.ag (sp (0,0)))] (.p (i64 (runM p p.steps (0,0) mX).2)) [.box (dz p (runM p p.steps (0,0) mX).1)]:=
 (Steps.Cl (Q:=Sa p) (fun u I J=>I9 p hp u I J) p.steps z).1 0 (0,0) mX 0 (by omega) (by omega) hp.steps (fh.zero p) (by omega) (by have:=Uw hp.cnt;omega) (by unfold GP;decide) D
end M
end Go.Proofs.YtihgjolmpjjblaaGreatDoor
namespace Go.AM
open Go.RowKit
theorem fq.pvs{S S':Nat->Prop}{w:World}{P:Program}:∀{xs:List PV} {vs:List Value},fq S w P (xs.map .pv) [] vs->fq S' w P (xs.map .pv) [] vs
 | [],[],h=>h
 | [],_::_,h=>h
 | _::_,[],h=>h
 | _::xs,_::vs,h=>fq.pvs (xs:=xs) (vs:=vs) h
theorem ai.lz{C:Ctx}{f:FuncId}{xs:List PV}{e:TypeId}{es:List (List PV)}(h:ai C f (xs.map .pv) (.own e es) []):ai C f (xs.map .pv) (.p (.sl es)) []:=by
 refine⟨h.1,fun S w vs D hS hl I J=>(h.2 S w vs D hS hl I J).mono ?_⟩;rintro e' w' ⟨v,S',rfl,fr,N,O,R,U,V,W,z⟩;have Y:aH C.P w' (aO S' w') e es v:=U.1;refine⟨v,fun b=>S' b\/cF v=some b,rfl,fr,fun b hb=>.inl (N b hb),fun b hb=>?_,fun b hb=>?_,Y.Hr (fun b h=>.inl h) (fun g h=>.inr h),fq.pvs V,W,fun g Z=>by cases Z⟩
 ·rcases hb with hb | hb
  ·exact O b hb
  exact (z b rfl (Bk hb)).1
 rcases hb with hb | hb
 ·exact R b hb
 exact .inr (z b rfl (Bk hb)).2.1
end Go.AM
namespace Go.Proofs.YtihgjolmpjjblaaGreatDoor
namespace M
open Go.AM Go.RowKit Go.Lib
open Reg (aB cw aR)
def meets(layer x y:Int)(a:Gj):Bool:=onB a layer&&a.region.any (Ri x y)
open Reg (cm dF gy Lg iL fg told jr me Canon Full RK at')
open Reg (dq oW yr bM gd ew gW through uD VQ M1 M3 gr ez)
def uR(a:yr):List PV:=[.sl (a.coppers.map fun r=>[aE r]),aE a.outline,.sl (a.bores.map bc),.sl (a.lands.map lc)]
def pc(p:ByteArray×ByteArray):List PV:=[str p.1,str p.2]
theorem xO(a b:ByteArray):ai C 71 [.pv (str a),.pv (str b)] (.p (i64 (Lib.compareBytes a.data.toList b.data.toList))) []:=
 tO [.string a,.string b] _ ⟨_,Tryz.func71,rfl,rfl⟩ fun S w _ _=>(Tryz.strings_Compare a b w).mono fun e w' h=>⟨h.1,by rw[h.2];exact Below.refl _ _⟩
def I_(p q:ByteArray×ByteArray):Int:=if Lib.compareBytes p.1.data.toList q.1.data.toList≠0 then Lib.compareBytes p.1.data.toList q.1.data.toList else Lib.compareBytes p.2.data.toList q.2.data.toList
theorem uS(p q:ByteArray×ByteArray):ai C 101 [.pv (.ag (pc p)),.pv (.ag (pc q))] (.p (i64 (I_ p q))) []:=by
 refine fW hC Tryz.func101 rfl (by kernel_rfl) fun _=>?_;refine⟨_,_,(xO p.1 q.1),iW ?_ ?_⟩<;>intro h
 ·refine⟨?_,trivial⟩;rw[I_,ae (by simpa using h)]
 refine⟨_,_,(xO p.2 q.2),?_,trivial⟩;rw[I_,aa (by simpa using h)]
theorem rU(l:oW):ai C 131 [.pv (.ag (lc l))] (.p (.ag (pc (l.part,l.pin)))) []:=by
 refine fW hC Tryz.func131 rfl (by kernel_rfl) fun _=>?_;refine⟨?_,trivial⟩;rfl
theorem xP(a:yr)(hn:a.coppers.length<=1000000):ai C 73 [.pv (.ag (uR a))] (.p (i64 (ez a))) []:=by
 refine fW hC Tryz.func73 rfl (by kernel_rfl) fun _=>?_;have I:=an a.bores bc;have V:=an a.coppers fun r=>[aE r];apply iW<;>intro O
 ·rw[I]at O;refine⟨?_,trivial⟩;rw[ez,ae (by omega)];rfl
 rw[I]at O;have J:ez a=gr a.coppers.length a.bores:=by rw[ez,aa (by omega)]
 refine aP (fun i:Nat=>i<=a.bores.length/\gr a.coppers.length a.bores=gr a.coppers.length (a.bores.drop i)) (fun i=>[(3,.p (i64 (a.coppers.map fun r=>[aE r]).length)),(16,.p (.sl (a.bores.map bc))),(17,.p (i64 (a.bores.map bc).length)),(18,.p (i64 i))]) (fun _=>[]) (fun i=>a.bores.length-i) 0 _ (aA.refl _ _) ⟨ak _,rfl⟩ ⟨Z,Z,Z,Z,Y⟩ trivial fun i hi t h=>?_;apply iW<;>intro R
 ·rw[I]at R;obtain⟨b,hb⟩:=ao (l:=a.bores) (i:=i) (by omega);have z:=Reg.ON (n:=a.coppers.length) hb;refine⟨(bc b),(idx rfl hb),_,_,(DV b),iW ?_ ?_⟩<;>intro D
  ·have D:(gd b).2≠0:=by simpa using D
   refine⟨?_,trivial⟩;rw[J,hi.2,z,ae D]
  have D:¬(gd b).2≠0:=by simpa using D
  rw[aa D]at z;refine⟨wO (by omega),_,_,(mg b.lo 0 (((a.coppers.map fun r=>[aE r]).length:Int)-1)),?_⟩;rw[V];apply iW<;>intro N
  ·refine⟨?_,trivial⟩;rw[J,hi.2,z,aa (by rw[N];simp)];rfl
  refine⟨wO (by omega),_,_,(mg b.hi b.lo ((a.coppers.length:Int)-1)),iW ?_ ?_⟩<;>intro U
  ·refine⟨?_,trivial⟩;rw[J,hi.2,z,aa (by rw[N,U];simp)];rfl
  rw[ae (by rw[N,U];rfl)]at z;exact⟨wO (by omega),(i+1),_,aA.refl _ _,⟨by omega,by rw[hi.2,z]⟩,by omega,⟨Z,Z,Z,Z,Y⟩,trivial⟩
 rw[I]at R;refine⟨?_,trivial⟩;rw[J,hi.2,aT (by omega)];rfl
def iN(n:Int)(ls:List oW)(i:Nat):Int:=match ls[i]? with
 | none=>0
 | some l=>if (si l.part&&gV l.pin)=true then (if (Reg.within l.layer 0 (n-1)&&(Reg.iZ l.x&&Reg.iZ l.y))=true then (match ls[i-1]? with
   | some q=>if 0<i/\I_ (l.part,l.pin) (q.part,q.pin)<=0 then 8 else 0
   | none=>0) else 1) else 5
def fQ(a:yr):Int:=if 1000<a.lands.length then 2 else bw (iN a.coppers.length a.lands) 0 a.lands.length
structure M6(a:yr):Prop where
 cop:a.coppers.length<=1048576
 rcs:∀r∈a.coppers,r.length<=1048576
 out:a.outline.length<=1048576
 bor:a.bores.length<=1048576
 lan:a.lands.length<=1048576
 str:∀l∈a.lands,bK l.part/\bK l.pin
theorem xQ(a:yr)(N:M6 a):ai C 74 [.pv (.ag (uR a))] (.p (i64 (fQ a))) []:=by
 refine fW hC Tryz.func74 rfl (by kernel_rfl) fun _=>?_;have D:=an a.lands lc;have lk:=an a.coppers fun r=>[aE r];have RA:=N.cop;apply iW<;>intro O
 ·rw[D]at O;refine⟨?_,trivial⟩;rw[fQ,ae (by omega)];rfl
 rw[D]at O;have R:fQ a=bw (iN a.coppers.length a.lands) 0 a.lands.length:=by rw[fQ,aa (by omega)]
 refine aP (fun i:Nat=>i<=a.lands.length/\∀k,k<i->iN a.coppers.length a.lands k=0) (fun i=>[(1,.bx 1 0),(10,.p (.sl (a.lands.map lc))),(11,.p (i64 (a.lands.map lc).length)),(12,.p (i64 i))]) (fun _=>[(1,.box ((uR a).map .p))]) (fun i=>a.lands.length-i) 0 _ (aA.refl _ _) ⟨ak _,by omega⟩ ⟨Z,Z,Z,Z,Y⟩ ⟨Z,Y⟩ fun i hi t h=>?_;apply iW<;>intro U
 ·rw[D]at U;obtain⟨l,hl⟩:=ao (l:=a.lands) (i:=i) (by omega);obtain⟨s1,s2⟩:=N.str l (aj hl);have z:∀v,iN a.coppers.length a.lands i=v->v≠0->fQ a=v:=fun v V cO=>by
   rw[R,nT (m:=i) (by rw[V];exact cO) (fun k _ hk=>hi.2 k hk) (by omega) (by omega),V]
  refine⟨(lc l),(idx rfl hl),_,_,(kM l.part s1),iW ?_ ?_⟩<;>intro I
  ·refine⟨?_,trivial⟩;rw[z 5 (by simp only[iN,hl];rw[aa (by rw[I];simp)]) (by decide)];rfl
  refine⟨_,_,(eN l.pin (by unfold bK at s2;omega)),iW ?_ ?_⟩<;>intro J
  ·refine⟨?_,trivial⟩;rw[z 5 (by simp only[iN,hl];rw[aa (by rw[J];simp)]) (by decide)];rfl
  refine⟨wO (by omega),_,_,(mg l.layer 0 (((a.coppers.map fun r=>[aE r]).length:Int)-1)),?_⟩;rw[lk];apply iW<;>intro W
  ·refine⟨?_,trivial⟩;rw[z 1 (by simp only[iN,hl];rw[ae (by rw[I,J];rfl),aa (by rw[W];simp)]) (by decide)];rfl
  refine⟨_,_,(dR l.x l.y),iW ?_ ?_⟩<;>intro g4
  ·refine⟨?_,trivial⟩;rw[z 1 (by simp only[iN,hl];rw[ae (by rw[I,J];rfl),aa (by rw[g4];simp)]) (by decide)];rfl
  have pre:iN a.coppers.length a.lands i=(match a.lands[i-1]? with
    | some q=>if 0<i/\I_ (l.part,l.pin) (q.part,q.pin)<=0 then 8 else 0
    | none=>0):=by simp only[iN,hl];rw[ae (by rw[I,J];rfl),ae (by rw[W,g4];rfl)]
  apply iW<;>intro g5
  ·obtain⟨q,hq⟩:=ao (l:=a.lands) (i:=i-1) (by omega);rw[hq]at pre;simp only at pre;refine⟨_,_,(rU l),wO (by omega),(lc q),(idx (by omega) hq),_,_,(rU q),_,_,(uS (l.part,l.pin) (q.part,q.pin)),iW ?_ ?_⟩<;>intro g6
   ·rw[ae ⟨by omega,by simpa using g6⟩]at pre;refine⟨?_,trivial⟩;rw[z 8 pre (by decide)];rfl
   rw[aa (fun e=>by simp at g6;omega)]at pre;exact⟨wO (by omega),(i+1),_,aA.refl _ _,⟨by omega,fun k hk=>by by_cases e:k=i;exact e▸pre;exact hi.2 k (by omega)⟩,by omega,⟨Z,Z,Z,Z,Y⟩,⟨Z,Y⟩⟩
  have pre:iN a.coppers.length a.lands i=0:=by
   rw[pre];split
   ·rw[aa (by omega)]
   rfl
  exact⟨wO (by omega),(i+1),_,aA.refl _ _,⟨by omega,fun k hk=>by by_cases e:k=i;exact e▸pre;exact hi.2 k (by omega)⟩,by omega,⟨Z,Z,Z,Z,Y⟩,⟨Z,Y⟩⟩
 rw[D]at U;refine⟨?_,trivial⟩;rw[R,bR fun k _ hk=>hi.2 k (by omega)];rfl
end M
namespace Reg
def UF(u:List Int):Prop:=∀(i:Nat) v,u[i]?=some v->0<=v/\v<=i
inductive ig(u:List Int):Nat->Nat->Prop
 | here (i:Nat) (h:u[i]?=some (i:Int)):ig u i i
 | up (i j r:Nat) (h:u[i]?=some (j:Int)) (cO:j≠i) (hr:ig u j r):ig u i r
variable {u:List Int}
theorem ig.lt{i r:Nat}(h:ig u i r):i<u.length:=by
 cases h with
 | here _ h=>exact (az.1 h).1
 | up _ _ _ h=>exact (az.1 h).1
theorem ig.top{i r:Nat}(h:ig u i r):u[r]?=some (r:Int):=by
 induction h with
 | here i h=>exact h
 | up i j r h cO hr ih=>exact ih
theorem ig.le(z:UF u){i r:Nat}(h:ig u i r):r<=i:=by
 induction h with
 | here i h=>exact aG _
 | up i j r h cO hr ih=>have:=z i j h;omega
theorem ig.uniq{i r q:Nat}(h:ig u i r)(k:ig u i q):r=q:=by
 induction h with
 | here i h=>
  cases k with
  | here=>rfl
  | up _ j _ h2 z _=>rw[h]at h2;injection h2 with h2;exact absurd (by omega) z
 | up i j r h z hr ih=>
  cases k with
  | here _ h2=>rw[h]at h2;injection h2 with h2;exact absurd (by omega) z
  | up _ D _ h2 Wx I=>
   rw[h]at h2;injection h2 with h2;have:j=D:=by omega
   subst this;exact ih I
theorem UF.parent(D:UF u){i:Nat}(hi:i<u.length):∃j:Nat,u[i]?=some (j:Int)/\j<=i:=by
 obtain⟨v,z⟩:∃v,u[i]?=some v:=⟨_,aW hi⟩;have:=D i v z;exact⟨v.toNat,by rw[z];congr 1;omega,by omega⟩
theorem UF.root(D:UF u):∀(i:Nat),i<u.length->∃r,ig u i r:=by
 intro i
 induction i using Nat.strongRecOn with
 | _ i ih=>
  intro hi;obtain⟨j,z,hle⟩:=D.parent hi;by_cases e:j=i
  ·subst e;exact⟨j,.here j z⟩
  obtain⟨r,I⟩:=ih j (by omega) (by omega);exact⟨r,.up i j r z e I⟩
theorem gu{α:Type}{l:List α}{i j:Nat}{x:α}(hi:i<l.length):(l.set i x)[j]?=if j=i then some x else l[j]?:=by
 by_cases e:j=i
 ·subst e;rw[ae rfl,dZ hi]
 rw[aa e,gC (fun e'=>e e'.symm)]
variable {k:Nat}
theorem UF.set(D:UF u){i:Nat}(hk:k<=i)(hi:i<u.length):UF (u.set i (k:Int)):=fun m v z=>by
 rw[gu hi]at z;by_cases e:m=i
 ·rw[ae e]at z;injection z with z;omega
 rw[aa e]at z;exact D m v z
theorem Sc(z:UF u){i j:Nat}(D:u[i]?=some (j:Int))(hk:u[j]?=some (k:Int)):UF (u.set i (k:Int))/\∀m r,ig (u.set i (k:Int)) m r↔ig u m r:=by
 have hi:=(az.1 D).1;have h1:=z i j D;have h2:=z j k hk;have sB:UF (u.set i (k:Int)):=z.set (by omega) hi;have I:∀m r,ig u m r->ig (u.set i (k:Int)) m r:=by
  intro m
  induction m using Nat.strongRecOn with
  | _ m ih=>
   intro r Z;by_cases e:m=i
   ·subst e;have R:(u.set m (k:Int))[m]?=some (k:Int):=by rw[gu hi,ae rfl]
    cases Z with
    | here _ h=>
     rw[D]at h;injection h with h;have U:j=m:=by omega
     subst U;rw[D]at hk;injection hk with hk;have O:j=k:=by omega
     subst O;exact .here j R
    | up _ J _ h V N=>
     rw[D]at h;injection h with h;have U:j=J:=by omega
     subst U;by_cases O:k=j
     ·subst O;have:r=k:=(ig.uniq (.here k hk) N).symm;subst this;exact .up m r r R V (ih r (by omega) r N)
     have W:ig u k r:=by
      cases N with
      | here _ h=>rw[hk]at h;injection h with h;exact absurd (by omega) O
      | up _ k2 _ h _ Y=>
       rw[hk]at h;injection h with h;have e3:k=k2:=by omega
       subst e3;exact Y
     exact .up m k r R (by omega) (ih k (by omega) r W)
   cases Z with
   | here _ h=>exact .here m (by rw[gu hi,aa e];exact h)
   | up _ J _ h V N=>
    have:=z m J h;exact .up m J r (by rw[gu hi,aa e];exact h) V (ih J (by omega) r N)
 refine⟨sB,fun m r=>⟨fun h=>?_,I m r⟩⟩;obtain⟨q,hq⟩:=z.root m (by have:=h.lt;rwa [aQ]at this);have:=(I m q hq).uniq h;subst this;exact hq
theorem join(O:UF u){a b:Nat}(z:u[a]?=some (a:Int))(hb:u[b]?=some (b:Int)):UF (u.set (max a b) ((min a b:Nat):Int))/\∀m r,ig u m r->ig (u.set (max a b) ((min a b:Nat):Int)) m (if r=max a b then min a b else r):=by
 have hi:max a b<u.length:=by
  have h1:=(az.1 z).1;have h2:=(az.1 hb).1;omega
 have D:u[min a b]?=some ((min a b:Nat):Int):=by
  by_cases h:a<=b
  ·rw[show min a b=a by omega];exact z
  rw[show min a b=b by omega];exact hb
 have R:u[max a b]?=some ((max a b:Nat):Int):=by
  by_cases h:a<=b
  ·rw[show max a b=b by omega];exact hb
  rw[show max a b=a by omega];exact z
 refine⟨O.set (by omega) hi,fun m r I=>?_⟩
 induction I with
 | here i h=>
  by_cases e:i=max a b
  ·rw[ae e];by_cases J:min a b=i
   ·subst J;exact .here _ (by rw[gu hi,ae e])
   refine .up i (min a b) _ (by rw[gu hi,ae e]) J (.here _ ?_);rw[gu hi,aa (by omega)];exact D
  rw[aa e];exact .here i (by rw[gu hi,aa e];exact h)
 | up i j r h N I ih=>
  refine .up i j _ ?_ N ih;rw[gu hi,aa]
  ·exact h
  intro e;rw[e,R]at h;injection h with h;exact N (by omega)
def iota(n:Nat):List Int:=(List.range n).map fun (i:Nat)=>(i:Int)
theorem Sd{n i:Nat}(h:i<n):(iota n)[i]?=some (i:Int):=by rw[iota,aD,fX h];rfl
theorem qz(n:Nat):(iota n).length=n:=by simp[iota]
theorem Bf(n:Nat):UF (iota n):=fun i v z=>by
 have hi:=(az.1 z).1;rw[qz]at hi;rw[Sd hi]at z;injection z with z;omega
def cV:Nat->List Int->Nat->List Int×Nat
 | 0,u,i=>(u,i)
 | n+1,u,i=>if u.getD i 0=i then (u,i) else cV n (u.set i (u.getD (u.getD i 0).toNat 0)) (u.getD (u.getD i 0).toNat 0).toNat
structure Se(u:List Int)(i:Nat)(x:List Int×Nat):Prop where
 uf:UF x.1
 len:x.1.length=u.length
 same:∀m q,ig x.1 m q↔ig u m q
 root:ig u i x.2
theorem ji:∀(n:Nat) (u:List Int) (i:Nat),UF u->i<u.length->i<=n->Se u i (cV n u i)
 | 0,u,i,hu,hi,hn=>by
  have:i=0:=by omega
  subst this;obtain⟨j,z,D⟩:=hu.parent hi;have:j=0:=by omega
  subst this;exact⟨hu,rfl,fun _ _=>fC,.here 0 z⟩
 | n+1,u,i,hu,hi,hn=>by
  obtain⟨j,z,D⟩:=hu.parent hi;have I:u.getD i 0=j:=by rw[F1,z];rfl
  rw[cV];by_cases h:u.getD i 0=i
  ·rw[ae h];exact⟨hu,rfl,fun _ _=>fC,.here i (by rw[z,<-I,h])⟩
  rw[aa h];rw[I]at h ⊢;have U:j<u.length:=by omega
  obtain⟨k,hk,Z7⟩:=hu.parent U;have V:u.getD (j:Int).toNat 0=k:=by rw[F0,F1,hk];rfl
  rw[V,F0];obtain⟨W,J⟩:=Sc hu z hk;have ih:=ji n (u.set i (k:Int)) k W (by rw[aQ];omega) (by omega);refine⟨ih.uf,by rw[ih.len,aQ],fun m q=>(ih.same m q).trans (J m q),?_⟩;have N:=(J _ _).1 ih.root;have O:j≠i:=by omega
  by_cases R:k=j
  ·subst R;exact .up i k _ z O N
  exact .up i j _ z O (.up j k _ hk R N)
def kU(u:List Int)(i k:Nat):List Int:=(cV k (cV i u i).1 k).1.set (max (cV i u i).2 (cV k (cV i u i).1 k).2) ((min (cV i u i).2 (cV k (cV i u i).1 k).2:Nat):Int)
theorem xR(z:UF u){i:Nat}(hi:i<u.length)(hk:k<u.length):UF (kU u i k)/\(kU u i k).length=u.length:=by
 have a:=ji i u i z hi (aG _);have b:=ji k (cV i u i).1 k a.uf (by rw[a.len];exact hk) (aG _);have D:∀m q,ig (cV k (cV i u i).1 k).1 m q↔ig u m q:=fun m q=>(b.same m q).trans (a.same m q);have I:=(D _ _).2 a.root;have J:=(b.same _ _).2 b.root;exact⟨(join b.uf I.top J.top).1,by rw[kU,aQ,b.len,a.len]⟩
end Reg
namespace M
open Go.AM Go.RowKit Go.Lib
open Reg (UF ig Se cV ji iota)
theorem da{u:List Int}{i:Nat}{v:Int}(h:u[i]?=some v):(aK u)[i]?=some [i64 v]:=by rw[aK,aD,h];rfl
theorem gQ(u:List Int)(i:Nat)(v:Int):(aK u).set i [i64 v]=aK (u.set i v):=by simp[aK,w_]
theorem cA(u:List Int):(aK u).length=u.length:=by simp[aK]
theorem EP{n:Nat}{u:List Int}{i:Nat}(I:UF u)(hi:i<u.length)(hn:i<=n):∃j k:Nat,u[i]?=some (j:Int)/\u[j]?=some (k:Int)/\j<=i/\k<=j/\(j=i->cV n u i=(u,i))/\(j≠i->∃m,n=m+1/\cV n u i=cV m (u.set i (k:Int)) k):=by
 obtain⟨j,J,z⟩:=I.parent hi;obtain⟨k,hk,N⟩:=I.parent (i:=j) (by omega);have D:u.getD i 0=j:=by rw[F1,J];rfl
 have O:u.getD j 0=k:=by rw[F1,hk];rfl
 refine⟨j,k,J,hk,z,N,fun e=>?_,fun e=>?_⟩
 ·cases n with
  | zero=>rfl
  | succ n=>rw[cV,ae (by rw[D];omega)]
 cases n with
 | zero=>omega
 | succ n=>
  refine⟨n,rfl,?_⟩;rw[cV,aa (by rw[D];omega),D,F0,O,F0]
theorem zh(u:List Int)(U:UF u)(i:Nat)(hi:i<u.length):ai C 188 [.aU [.row 3 (aK u)],.pv (i64 i)] (.p (i64 (cV i u i).2)) [.aU [.row 3 (aK (cV i u i).1)]]:=by
 refine ZG ⟨[],[],[],[],[],[]⟩ hC Tryz.func188 rfl (by kernel_rfl) fun _=>⟨_,aA.open hC _ 100000 [90000] (by exact rfl) rfl rfl rfl,?_⟩;obtain⟨R,J⟩:∃R,R=cV i u i:=⟨_,rfl⟩;rw[<-J];refine aP (fun x:Nat×List Int×Nat=>cV x.1 x.2.1 x.2.2=R/\UF x.2.1/\x.2.2<x.2.1.length/\x.2.2<=x.1) (fun x=>[(0,.bx 100000 0),(1,.p (i64 x.2.2))]) (fun x=>[(100000,.box [.ow 90000]),(90000,.row 3 (aK x.2.1))]) (fun x=>x.2.2) (i,u,i) _ (aA.refl _ _) ⟨J.symm,U,hi,aG _⟩ ⟨Z,Z,Y⟩ ⟨Z,Z,Y⟩ fun ⟨n,v,k⟩ V t h=>?_;obtain⟨z,I,N,O⟩:=V;simp only at z I N O;obtain⟨j,l,D,hl,q1,q2,W,q4⟩:=EP I N O;have lv:=cA v;refine⟨⟨by omega,by (try dsimp only);rw[lv];omega⟩,[i64 j],(da D),iW ?_ ?_⟩<;>intro g<;>try simp only[zB]at g
 ·have cO:j≠k:=by omega
  obtain⟨m,rfl,q5⟩:=q4 cO;refine⟨⟨by omega,by (try dsimp only);rw[lv];omega⟩,[i64 j],(da D),⟨by omega,by (try dsimp only);rw[lv];omega⟩,[i64 l],(da hl),⟨by omega,by (try dsimp only);rw[lv];omega⟩,[i64 j],(da D),⟨by omega,by (try dsimp only);rw[List.length_set,lv];omega⟩,[i64 l],(by rw[List.getElem?_set_self (by (try dsimp only);rw[lv];omega)];rfl),?_⟩;exact⟨(m,v.set k (l:Int),l),_,aA.refl _ _,⟨by rw[<-q5];exact z,(Reg.Sc I D hl).1,by simp only[List.length_set];omega,by dsimp only;omega⟩,by simp only;omega,⟨Z,Z,Y⟩,⟨rfl,congrArg (AB.row _) (gQ v k l),trivial⟩⟩
 have e:j=k:=by omega
 have z:=(W e).symm.trans z;subst z;exact And.intro rfl (And.intro ⟨Z,Z,Y⟩ trivial)
open Reg (kU)
theorem Lp(u:List Int)(z:UF u)(i k:Nat)(hi:i<u.length)(hk:k<u.length):ai C 141 [.aU [.row 3 (aK u)],.pv (i64 i),.pv (i64 k)] (.tu []) [.aU [.row 3 (aK (kU u i k))]]:=by
 have a:=ji i u i z hi (aG _);have b:=ji k (cV i u i).1 k a.uf (by rw[a.len];exact hk) (aG _);refine FP ⟨[1],[],[],[],[],[]⟩ hC Tryz.func141 rfl (by kernel_rfl) fun _=>?_;refine⟨_,_,(zh u z i hi),_,_,(zh (cV i u i).1 a.uf k (by rw[a.len];exact hk)),?_⟩;refine qk (aA.open (by exact hC) _ 100000 [90000] (by exact rfl) rfl rfl rfl) ?_;have ra:=(az.1 ((b.same _ _).2 ((a.same _ _).2 a.root)).top).1;have rb:=(az.1 ((b.same _ _).2 b.root).top).1;have D:((max ((cV i u i).2:Int) ((cV k (cV i u i).1 k).2:Int))).toNat=max (cV i u i).2 (cV k (cV i u i).1 k).2:=by omega
 have lv:=cA (cV k (cV i u i).1 k).1;obtain⟨v,I⟩:∃v,(cV k (cV i u i).1 k).1[max (cV i u i).2 (cV k (cV i u i).1 k).2]?=some v:=⟨_,aW (by omega)⟩;refine⟨⟨by omega,by rw[lv];omega⟩,[i64 v],(by rw[D];exact da I),rfl,(And.intro ⟨rfl,?_,trivial⟩ trivial)⟩;refine af (AB.row _) ?_;rw[D];show (aK _).set _ [i64 (min _ _)]=_;rw[gQ,kU];congr 1;congr 1;omega
end M
namespace Reg
def dy(p:Nat->Nat)(i:Nat):List Nat:=(List.range i).filter fun r=>decide (p r=r)
def kj(p:Nat->Nat)(i r:Nat):List Nat:=(List.range i).filter fun m=>decide (p m=r)
def ba(p:Nat->Nat)(i:Nat):List (List Nat):=(dy p i).map (kj p i)
structure OW(p:Nat->Nat)(n:Nat):Prop where
 le:∀m,m<n->p m<=m
 top:∀m,m<n->p (p m)=p m
theorem mem_keys{p:Nat->Nat}{i r:Nat}:r∈dy p i↔r<i/\p r=r:=by simp[dy]
theorem pM{p:Nat->Nat}{i r m:Nat}:m∈kj p i r↔m<i/\p m=r:=by simp[kj]
theorem CO(p:Nat->Nat)(i:Nat):(dy p i).Nodup:=List.Pairwise.sublist List.filter_sublist List.nodup_range
theorem kp(p:Nat->Nat)(i:Nat):dy p (i+1)=if p i=i then dy p i++[i] else dy p i:=by
 rw[dy,ga,l_];by_cases h:p i=i<;>simp[h,dy]
theorem xS(p:Nat->Nat)(i r:Nat):kj p (i+1) r=if p i=r then kj p i r++[i] else kj p i r:=by
 rw[kj,ga,l_];by_cases h:p i=r<;>simp[h,kj]
theorem Sf{p:Nat->Nat}{n i:Nat}(hp:OW p n)(hi:i<=n):kj p i i=[]:=by
 refine List.filter_eq_nil_iff.2 fun m z=>?_;have h1:=gG.1 z;have:=hp.le m (by omega);simp;omega
theorem Jb{p:Nat->Nat}{n i:Nat}(hp:OW p n)(hi:i<n)(h:p i=i):ba p (i+1)=ba p i++[[i]]:=by
 rw[ba,kp,ae h,bB];congr 1
 ·refine lZ fun r z=>?_;have:=(mem_keys.1 z).1;rw[xS,aa (by omega)]
 simp[xS,h,Sf hp (Nat.le_of_lt hi)]
theorem Sg{p:Nat->Nat}{n i:Nat}(hp:OW p n)(hi:i<n)(h:p i≠i):∃k:Nat,(dy p i)[k]?=some (p i):=by
 have h1:=hp.le i hi;exact ca.1 (mem_keys.2 ⟨by omega,hp.top i hi⟩)
theorem Sh{l:List Nat}(h:l.Nodup){a b x:Nat}(O:l[a]?=some x)(hb:l[b]?=some x):a=b:=by
 obtain⟨D,I⟩:=az.1 O;obtain⟨J,N⟩:=az.1 hb;rcases il a b with z | z | z
 ·exact absurd (I.trans N.symm) (cS.1 h _ _ D J z)
 ·exact z
 exact absurd (N.trans I.symm) (cS.1 h _ _ J D z)
theorem Jc{p:Nat->Nat}{i:Nat}(h:p i≠i){k:Nat}(hk:(dy p i)[k]?=some (p i)):ba p (i+1)=(ba p i).set k (kj p i (p i)++[i])/\(ba p i)[k]?=some (kj p i (p i)):=by
 have z:=(az.1 hk).1;refine⟨?_,by rw[ba,aD,hk];rfl⟩;rw[ba,kp,aa h];apply kz;intro m;rw[gu (by rw[ba,au];exact z),ba,aD,aD];by_cases e:m=k
 ·subst e;rw[ae rfl,hk];simp[xS]
 rw[aa e];cases hm:(dy p i)[m]? with
 | none=>rfl
 | some r=>
  have D:p i≠r:=fun I=>e (Sh (CO p i) hm (by rw[hk,I]));simp[xS,D]
theorem qA(p:Nat->Nat)(i:Nat):(ba p i).length=(dy p i).length:=by simp[ba]
theorem tb(p:Nat->Nat)(i:Nat):(dy p i).length<=i:=by
 have:=kJ (fun r=>decide (p r=r)) (List.range i);simpa [dy] using this
theorem xT(p:Nat->Nat)(i r:Nat):(kj p i r).length<=i:=by
 have:=kJ (fun m=>decide (p m=r)) (List.range i);simpa [kj] using this
def kV(u:List Int)(i:Nat):Nat:=(cV i u i).2
variable {u:List Int}
theorem oG(z:UF u){i:Nat}(hi:i<u.length):ig u i (kV u i):=(ji i u i z hi (aG _)).root
theorem Si(z:UF u){i r:Nat}(h:ig u i r):kV u i=r:=(oG z h.lt).uniq h
theorem Bg(z:UF u):OW (kV u) u.length:=
 ⟨fun m D=>(oG z D).le z,fun m D=>by
  have h:=oG z D;exact Si z (.here _ h.top)⟩
end Reg
namespace M
open Go.AM Go.RowKit Go.Lib
open Reg (UF ig iota)
def vP(n i:Nat):List Int:=(List.range n).map fun (j:Nat)=>if j<i then (j:Int) else 0
theorem CP(n i:Nat):(vP n i).length=n:=by simp[vP]
theorem Jd{n i:Nat}(h:i<n):(vP n i)[i]?=some 0:=by
 rw[vP,aD,fX h];simp
theorem ER(n:Nat):aK (vP n 0)=List.replicate n [i64 0]:=by
 refine kz fun m=>?_;rw[aK,aD,vP,aD,List.getElem?_replicate];by_cases h:m<n
 ·rw[fX h,ae h];rfl
 rw[aa h,iR (by simp;omega)];rfl
theorem Je(n:Nat):vP n n=iota n:=lZ fun j z=>ae (gG.1 z)
theorem Jf{n i:Nat}(h:i<n):(vP n i).set i (i:Int)=vP n (i+1):=by
 refine kz fun m=>?_;rw[Reg.gu (by rw[CP];exact h),vP,vP,aD,aD];by_cases e:m=i
 ·subst e;rw[ae rfl,fX h];simp
 rw[aa e];by_cases D:m<n
 ·rw[fX D];simp only[fB,Option.some.injEq];by_cases z:m<i
  ·rw[ae z,ae (by omega)]
  rw[aa z,aa (by omega)]
 rw[iR (by simp;omega)];rfl
theorem OX(n:Nat)(hn:n<=1000000000):ai C 140 [.pv (i64 n)] (.hown [.row 3 (aK (iota n))]) []:=by
 refine ZF ⟨[],[0],[],[],[],[]⟩ hC Tryz.func140 rfl (by kernel_rfl) fun _=>⟨_,aA.refl _ _,?_⟩;refine⟨⟨by omega,by omega,by dsimp only;omega,by omega⟩,?_⟩;refine Ak (fun _:Unit=>True) (fun _=>[(3,.bx 8 0)]) (fun _=>[(8,.box [.ow 6]),(6,.row 3 (aK (iota n)))]) (fun _ hO t h=>?_) ?_
 ·exact⟨_,aA.pack (by exact hC) _ 8 (cs:=[.row 3 (aK (iota n))]) (by exact rfl) (by exact rfl) (by exact⟨Z,Y⟩),And.intro rfl (And.intro rfl trivial)⟩
 refine aP (fun i:Nat=>i<=n) (fun i=>[(3,.bx 8 0),(13,.p (i64 n)),(14,.p (i64 i))]) (fun i=>[(8,.box [.ow 6]),(6,.row 3 (aK (vP n i)))]) (fun i=>n-i) 0 _ (aA.refl _ _) (ak _) ⟨rfl,af (fun m:Nat=>AV.p (i64 m)) bX,Z,Y⟩ ⟨rfl,by rw[ER];rfl,trivial⟩ fun i hi t h=>?_;have lv:=cA (vP n i);have lu:=CP n i;apply iW<;>intro h1
 ·exact⟨⟨by omega,by rw[lv];omega⟩,[i64 0],(da (Jd (by omega))),wO (by omega),(i+1),_,aA.refl _ _,by omega,by omega,⟨Z,Z,Z,Y⟩,⟨rfl,af (AB.row _) ((gQ _ _ _).trans (by rw[F0,Jf (by omega)])),trivial⟩⟩
 have e:i=n:=by omega
 subst e;exact⟨(),trivial,⟨Z,Y⟩,⟨rfl,af (AB.row _) (af aK (Je i)),trivial⟩⟩
theorem M7(k:IntKind)(a b:Int):Dj (.int k a) (.int k b)=decide (a=b):=rfl
theorem UE{q:IntKind}{k:Int}{z:Value}(h:Dj (.int q k) z=true):∃D,z=.int D k:=by
 cases z<;>simp_all [Dj]
theorem oH(v:PV)(q:IntKind)(k n:Int):∀es:List (Value×PV),gz (iS es (.int q k) v) (.int q n)=if n=k then some v else gz es (.int q n)
 | []=>by
  simp only[iS,gz,M7];by_cases h:n=k<;>simp[h]
 | (k',u)::r=>by
  simp only[iS];cases h:Dj (.int q k) k'
  ·simp only[gz,oH v q k n r];by_cases e:n=k
   ·subst e;simp[h]
   simp[e]
  obtain⟨z,e⟩:=UE h;subst e;simp only[gz,M7];by_cases e:n=k
  ·simp[e]
  rw[show Dj (Value.int q n) (Value.int z k)=decide (n=k) from rfl];simp[e]
theorem Lq(u:List Int)(D:UF u)(i r:Nat)(z:ig u i r):ai C 188 [.aU [.row 3 (aK u)],.pv (i64 i)] (.p (i64 r)) [.aU [.row 3 (aK (Reg.cV i u i).1)]]:=by
 have h:=zh u D i z.lt;rw[(Reg.ji i u i D z.lt (aG _)).root.uniq z]at h;exact h
def hl(l:List Nat):List HX:=[.row 3 (aK (l.map fun (m:Nat)=>(m:Int)))]
def pl(l:List Nat):List PV:=[.sl (aK (l.map fun (m:Nat)=>(m:Int)))]
def qB(u:List Int):Nat->List Int
 | 0=>u
 | i+1=>(Reg.cV i (qB u i) i).1
structure UG(u:List Int)(i:Nat)(es:List (Value×PV)):Prop where
 le:i<=u.length
 key:∀(k r:Nat),(Reg.dy (Reg.kV u) i)[k]?=some r->gz es (.int .i64 r)=some (i64 k)
theorem CQ{u:List Int}(z:UF u):∀i,i<=u.length->UF (qB u i)/\(qB u i).length=u.length/\∀m r,ig (qB u i) m r↔ig u m r
 | 0,_=>⟨z,rfl,fun _ _=>fC⟩
 | i+1,h=>by
  obtain⟨a,b,c⟩:=CQ z i (by omega);have t:=Reg.ji i (qB u i) i a (by omega) (aG _);exact⟨t.uf,t.len.trans b,fun m r=>(t.same m r).trans (c m r)⟩
theorem ES(D:List (List Nat)):AU (D.map hl):=fun r I x z=>by
 obtain⟨l,_,rfl⟩:=aZ.1 I;simp only[hl,aq,Gc,or_false]at z;subst z;trivial
theorem CR(f:AV->AV)(z:List (List Nat)):(z.map hl).map (fun r=>r.map (HX.dn f))=z.map hl:=by
 rw[nq];rfl
theorem zi(l:List Nat)(y:HX):(hl l).set 0 y=[y]:=rfl
theorem mT(f:AV->AV)(z:List (List Nat))(k d:Nat)(h:f (.ow d)=.ow d):((z.map hl).set k [.av (.ow d)]).map (fun r=>r.map (HX.dn f))=(z.map hl).set k [.av (.ow d)]:=by
 rw[w_,CR];simp only[eH,uF,HX.dn,h]
theorem XF(f:AV->AV)(z:List (List Nat))(x:List (List HX)):(z.map hl++x).map (fun r=>r.map (HX.dn f))=z.map hl++x.map (fun r=>r.map (HX.dn f)):=by
 rw[bB,CR]
theorem zj(z:List (List Nat))(k d:Nat)(hk:k<z.length):((z.map hl).set k [.av (.ow d)])[k]?=some [.av (.ow d)]:=dZ (by rw[au];exact hk)
theorem xU{α:Type}(l:List α)(x y:α)(n:Nat)(h:n=l.length):(l++[x]).set n y=l++[y]:=by subst h;simp
theorem Z8(D:List (List Nat)):SU (D.map hl) (D.map pl):=SU.map fun l _=>⟨rfl,fun j u v z I=>by
 match j with
 | 0=>
  simp only[hl,pl,kG,Option.some.injEq]at z I;subst z;subst I;exact .row _ _
 | j+1=>simp[hl]at z⟩
theorem Lr(u:List Int)(N:UF u)(hn:u.length<=1000000000):ai C 142 [.aU [.row 3 (aK u)]] (.own 60 ((Reg.ba (Reg.kV u) u.length).map pl)) [.aU [.row 3 (aK (qB u u.length))]]:=by
 refine ZF ⟨[10],[0],[(10,[3,1000003,7])],[10],[(10,[true,true,true,false,true,true,true,true,true,true,true,true,false,true,true])],[]⟩ hC Tryz.func142 rfl (by kernel_rfl) fun _=>⟨_,aA.open hC _ 100000 [90000] (by exact rfl) rfl rfl rfl,?_⟩;obtain⟨p,hp⟩:∃p,p=Reg.kV u:=⟨_,rfl⟩;have O:Reg.OW p u.length:=hp▸Reg.Bg N;rw[<-hp];refine Ak (fun _:Unit=>True) (fun _=>[(0,.bx 100000 0),(3,.ow 3)]) (fun _=>[(100000,.aU [.row 3 (aK (qB u u.length))]),(3,.aw 60 ((Reg.ba p u.length).map hl))]) (fun _ hO t h=>?_) ?_
 ·exact⟨_,aA.QZ (by exact hC) _ 2 ((Reg.ba p u.length).map pl) (e:=60) (by exact af (AB.aw _) (CR (rn 3 2) _)) (Z8 _),And.intro rfl (And.intro rfl (And.intro rfl trivial))⟩
 refine aP (fun x:Nat×List (Value×PV)=>UG u x.1 x.2) (fun x=>[(0,.bx 100000 0),(3,.ow 3),(4,.ow 7),(12,.p (i64 u.length)),(13,.p (i64 x.1))]) (fun x=>[(100000,.aU [.row 3 (aK (qB u x.1))]),(3,.aw 60 ((Reg.ba p x.1).map hl)),(7,.map (.int .i64) x.2)]) (fun x=>u.length-x.1) (0,[]) _ ((aA.pack (by exact hC) _ 100000 (cs:=[.row 3 (aK u)]) (by exact rfl) (by exact rfl) (by exact⟨Z,Y⟩)).trans ((aA.eK (by exact hC) _ 3 60 _ (by decide) (by exact rfl) (by exact rfl) (by decide)).trans (aA.toH (by exact hC) _ 3 (e:=60) (es:=[]) (by exact rfl)))) ⟨ak _,fun k r h=>by simp[Reg.dy]at h⟩ ⟨rfl,rfl,rfl,af (fun m:Nat=>AV.p (i64 m)) (cA u),Z,Y⟩ ⟨Z,Z,Z,Y⟩ fun ⟨i,es⟩ W t h=>?_;obtain⟨R,D⟩:=W;simp only at R D;rw[<-hp]at D;obtain⟨vu,vl,vr⟩:=CQ N i R;apply iW<;>intro g<;>try simp only[zB]at g
 ·have z:ig (qB u i) i (p i):=(vr _ _).2 (by rw[hp];exact Reg.oG N (by omega));refine⟨_,_,(Lq _ vu i (p i) z),iW ?_ ?_⟩<;>intro g2<;>try simp only[zB]at g2
  ·have e:p i=i:=by omega
   have nx:=Reg.Jb O (show i<u.length by omega) e;have kl:(Reg.dy p i).length<=i:=Reg.tb p i;have sl:(Reg.ba p i).length=(Reg.dy p i).length:=Reg.qA p i;refine⟨⟨fun r z=>by simp at z;subst z;rfl,by simp only[au,aQ,bX];omega,by simp only[au,aQ,bX];omega⟩,?_⟩;refine qk ((aA.W0 (by exact hC) _ 3 (Reg.ba p i).length 0 (e:=60) (e':=3) (es:=(Reg.ba p i).map hl++[[.av .nl]]) (r:=[.av .nl]) (by exact af (AB.aw _) (by simp only[CR,XF];rfl)) (by rw[du (by simp)];simp) (by exact rfl) (by exact rfl) (by decide)).trans (aA.tN (by exact hC) _ 3 (Reg.ba p i).length 0 90001 (e:=60) (es:=(Reg.ba p i++[[]]).map hl) (e':=3) (r:=hl []) (xs:=[]) (by decide) (by decide) (by exact af (AB.aw _) (by rw[bB];refine (xU _ _ _ _ (au _).symm).trans ?_;rfl)) (ES _) (by rw[bB,du (by simp)];simp) (by exact rfl))) ?_;have I:∀v,gz (iS es (.int .i64 i) v) (.int .i64 (p i))=some v:=fun v=>by rw[oH,ae (by rw[e])]
   refine⟨(some _),(I _),(some _),(I _),?_⟩;have J:(List.map (fun r=>List.map (HX.dn (sc 18)) r) (List.map hl (Reg.ba p i))).length=(Reg.ba p i).length:=by simp
   refine⟨⟨by dsimp only;omega,by simp⟩,[.av (.ow 90001)],(by rw[zi,mT,mT];rw[J];exact zj (Reg.ba p i++[[]]) (Reg.ba p i).length 90001 (by simp);rfl;rfl),⟨fun r z=>by simp at z;subst z;rfl,by simp,by simp⟩,⟨by dsimp only;omega,by simp⟩,[.av (.ow 90001)],(by rw[zi,mT,mT];rw[J];exact zj (Reg.ba p i++[[]]) (Reg.ba p i).length 90001 (by simp);rfl;rfl),wO (by omega),(i+1,iS es (.int .i64 i) (i64 (Reg.ba p i).length)),_,aA.H7 (by exact hC) _ 3 (Reg.ba p i).length 0 41 (e:=60) (es:=((Reg.ba p i++[[]]).map hl).set (Reg.ba p i).length [.av (.ow 41)]) (e':=3) (xs:=aK [(i:Int)]) (by decide) (by exact congrArg (AB.aw _) (by rw[zi,mT,mT,J];exact List.set_set _;rfl;rfl)) (by exact rfl) (zj _ _ _ (by simp)) (by exact rfl),⟨by omega,fun k r hk=>?_⟩,⟨by omega,⟨Z,Z,Z,Z,Z,Y⟩,⟨rfl,?_,congrArg (AB.map _) ?_,trivial⟩⟩⟩
   ·rw[<-hp,Reg.kp,ae e]at hk;rw[oH];by_cases PW:k<(Reg.dy p i).length
    ·rw[dN PW]at hk;have:=(Reg.mem_keys.1 (aj hk)).1;rw[aa (by omega)];exact D k r hk
    rw[du (by omega)]at hk;have L4:k=(Reg.dy p i).length:=by
     have:=(az.1 hk).1;simp at this;omega
    subst L4;simp only[jL,kG,Option.some.injEq]at hk;subst hk;rw[ae rfl,sl]
   ·refine af (AB.aw _) ?_;show ((List.map hl (Reg.ba p i++[[]])).set _ _).set _ _=List.map hl (Reg.ba p (i+1));rw[xM,nx,bB,bB];exact xU _ _ _ _ (au _).symm
   dsimp only;rw[J];rfl
  have e:p i≠i:=by omega
  obtain⟨k,hk⟩:=Reg.Sg O (show i<u.length by omega) e;obtain⟨nx,jy⟩:=Reg.Jc e hk;have U:=D k (p i) hk;have XG:((Reg.ba p i).map hl)[k]?=some (hl (Reg.kj p i (p i))):=by rw[aD,jy];rfl
  refine qk (aA.tN (by exact hC) _ 3 k 0 90001 (e:=60) (by decide) (by decide) (by exact af (AB.aw _) (by simp only[CR])) (ES _) XG (by exact rfl)) ?_;refine⟨(some (i64 k)),U,(some (i64 k)),U,?_⟩;have kl:=(az.1 hk).1;have sl:(Reg.ba p i).length=(Reg.dy p i).length:=Reg.qA p i;refine⟨⟨by omega,by simp only[au,aQ];omega⟩,[.av (.ow 90001)],(by rw[zi,mT,mT];exact zj (Reg.ba p i) k 90001 (by omega);rfl;rfl),?_⟩;have ml:=Reg.xT p i (p i);refine⟨⟨fun r z=>by simp at z;subst z;rfl,by simp only[cA,au,aQ,bX];omega,by simp only[cA,au,aQ,bX];omega⟩,⟨by omega,by simp only[au,aQ];omega⟩,[.av (.ow 90001)],(by rw[zi,mT,mT];exact zj (Reg.ba p i) k 90001 (by omega);rfl;rfl),wO (by omega),(i+1,es),_,aA.H7 (by exact hC) _ 3 k 0 41 (e:=60) (es:=((Reg.ba p i).map hl).set k [.av (.ow 41)]) (e':=3) (xs:=aK ((Reg.kj p i (p i)++[i]).map fun (m:Nat)=>(m:Int))) (by decide) (by exact af (AB.aw _) (by rw[zi,mT,mT];exact xM _;rfl;rfl)) (by exact af (AB.row _) (by simp[aK];rfl)) (zj _ _ _ (by omega)) (by exact rfl),⟨by omega,fun k' r V=>?_⟩,⟨by omega,⟨Z,Z,Z,Z,Z,Y⟩,⟨rfl,?_,Z,Y⟩⟩⟩
  ·rw[<-hp,Reg.kp,aa e]at V;exact D k' r V
  refine af (AB.aw _) ?_;show ((List.map hl (Reg.ba p i)).set _ _).set _ _=List.map hl (Reg.ba p (i+1));rw[xM,nx,w_];rfl
 have e:i=u.length:=by omega
 subst e;exact⟨(),trivial,⟨Z,Z,Y⟩,⟨Z,Z,Y⟩⟩
end M
namespace Reg
def P4(K:Int)(r:aB):Prop:=(-K<=r.x0/\r.x0<=K)/\(-K<=r.y0/\r.y0<=K)/\(-K<=r.x1/\r.x1<=K)/\(-K<=r.y1/\r.y1<=K)
theorem VT{K:Int}{r:aB}(h:Full r)(k:RK K r):P4 K r:=by
 obtain⟨h1,h2⟩:=h;obtain⟨k1,k2,k3,k4⟩:=k;exact⟨⟨by omega,by omega⟩,⟨by omega,by omega⟩,⟨by omega,by omega⟩,⟨by omega,by omega⟩⟩
def Sj(f:Int)(l:List Int):Int:=l.foldl (fun f n=>if f<0\/n<f then n else f) f
def Sk(a b:List aB):List Int:=a.flatMap fun x=>b.map (VQ x)
def Sl(a b:List aB):Int:=Sj (-1) (Sk a b)
def Ls(n:Int)(s:Bool×Int×Int)(l:List (Int×Int×Int)):Bool×Int×Int:=l.foldl (fun s q=>if q.1=n/\(s.1=false\/M3 q.2 s.2=true) then (true,q.2) else s) s
def pAt(n:Int)(x y:aB):Int×Int×Int:=(VQ x y,M1 x y n)
def Lt(a b:List aB)(n:Int):Int×Int:=(Ls n (false,0,0) (a.flatMap fun x=>b.map (pAt n x))).2
def Z9(p:Int×Int):aB:=⟨p.1,p.2,p.1+1,p.2+1⟩
def Z_(b:List aB)(p:Int×Int)(n:Int):Int×Int:=(Ls n (false,0,0) (b.map fun y=>pAt n y (Z9 p))).2
structure Gap where
 a:Int
 b:Int
 dist:Int
 src:Int×Int
 dst:Int×Int
def CS(a b:List aB):Gap:=⟨0,0,Sl a b-1,Lt a b (Sl a b),Z_ b (Lt a b (Sl a b)) (Sl a b)⟩
end Reg
namespace M
open Go.AM Go.RowKit Go.Lib
open Reg (aB P4 VQ uD M1 M3 Sj Sk Sl Ls pAt Lt Z_ Z9 CS Gap)
def pt(p:Int×Int):List PV:=[i64 p.1,i64 p.2]
theorem OY(a b:aB)(z:P4 1000000000 a)(hb:P4 1000000000 b):ai C 75 [.pv (.ag (rc a)),.pv (.ag (rc b))] (.p (i64 (VQ a b))) []:=by
 obtain⟨a1,a2,a3,a4⟩:=z;obtain⟨b1,b2,b3,b4⟩:=hb;refine fW hC Tryz.func75 rfl (by kernel_rfl) fun _=>?_;refine⟨_,_,(vf a.x0 a.x1 b.x0 b.x1 (by omega)),_,_,(vf a.y0 a.y1 b.y0 b.y1 (by omega)),?_,trivial⟩;rfl
theorem drop_at{α:Type}{l:List α}{i:Nat}{x:α}(h:l[i]?=some x):l.drop i=x::l.drop (i+1):=by
 obtain⟨hi,e⟩:=az.1 h;rw[fI hi,e]
open Reg (cw aR cm dF gy Lg iL fg told jr me Canon Full RK at')
def jt(n:Int)(l:List aB):Int:=l.foldl (fun n r=>n+(r.x1-r.x0)*(r.y1-r.y0)) n
theorem GQ(l:List aB)(hl:∀r∈l,Full r/\P4 1000000 r)(hN:l.length<=1000000):ai C 10 [.pv (aE l)] (.p (i64 (jt 0 l))) []:=by
 refine fW hC Tryz.func10 rfl (by kernel_rfl) fun _=>?_;have J:=an l rc;obtain⟨R,I⟩:∃R,R=jt 0 l:=⟨_,rfl⟩;rw[<-I];refine aP (fun x:Nat×Int=>jt x.2 (l.drop x.1)=R/\0<=x.2/\x.2<=4000000000000*x.1) (fun x=>[(3,.p (i64 x.2)),(6,.p (aE l)),(7,.p (i64 l.length)),(8,.p (i64 x.1))]) (fun _=>[]) (fun x=>l.length-x.1) (0,0) _ (aA.refl _ _) ⟨I.symm,by decide,by decide⟩ ⟨rfl,rfl,af (fun m:Nat=>AV.p (i64 m)) J,Z,Y⟩ trivial fun ⟨i,n⟩ N t h=>?_;obtain⟨z,O,U⟩:=N;simp only at z O U;apply iW<;>intro g
 ·obtain⟨q,D⟩:=ao (l:=l) (i:=i) (by omega);obtain⟨⟨f1,f2⟩,a1,a2,a3,a4⟩:=hl q (aj D);rw[drop_at D]at z;have m1:0<=(q.x1-q.x0)*(q.y1-q.y0):=pE (by omega) (by omega);have m2:(q.x1-q.x0)*(q.y1-q.y0)<=2000000*2000000:=ur (by omega) (by omega) (by omega) (by omega);exact⟨(rc q),(idx rfl D),wO (by omega),wO (by omega),wO (by omega),wO (by omega),wO (by omega),(i+1,n+(q.x1-q.x0)*(q.y1-q.y0)),_,aA.refl _ _,⟨z,by omega,by simp only;omega⟩,by omega,⟨Z,Z,Z,Z,Y⟩,trivial⟩
 have e:l.length<=i:=by omega
 rw[aT e]at z;have z:n=R:=z;refine⟨?_,trivial⟩;rw[z]
end M
namespace Reg
end Reg
namespace M
open Go.AM Go.RowKit Go.Lib
open Reg (aB P4 Gap CS)
def rr(r:List aB):List PV:=[aE r]
end M
namespace Reg
def kW:aB:=⟨0,0,0,0⟩
def CT(a b:aB):Bool:=decide (a.x0<b.x1)&&decide (b.x0<a.x1)
def vQ(all:List aB)(f e:Nat):Nat->List Int->Nat->Nat->List Int
 | 0,u,_,_=>u
 | n+1,u,i,j=>if i<f/\j<e then
   vQ all f e n (if CT (all.getD i kW) (all.getD j kW)=true then kU u i j else u)
    (if (all.getD i kW).x1<(all.getD j kW).x1 then i+1 else i)
    (if (all.getD i kW).x1<(all.getD j kW).x1 then j else j+1)
  else u
def meets(p:Option aR)(b:aR):Bool:=match p with
 | some q=>decide (q.y1=b.y0)
 | none=>false
def vg(all:List aB):Option aR->List aR->List Int->Nat->Nat->List Int
 | _,[],u,_,_=>u
 | p,b::s,u,f,g=>vg all (some b) s (if meets p b=true then vQ all f (f+b.xs.length) (f-g+b.xs.length) u g f else u) (f+b.xs.length) f
def ET(s:List aR):List Int:=vg (told s) none s (iota (told s).length) 0 0
theorem GR(all:List aB)(f e:Nat):∀(n:Nat) (u:List Int) (i j:Nat),UF u->f<=u.length->e<=u.length->UF (vQ all f e n u i j)/\(vQ all f e n u i j).length=u.length
 | 0,u,i,j,h,_,_=>⟨h,rfl⟩
 | n+1,u,i,j,h,hf,he=>by
  rw[vQ];by_cases c:i<f/\j<e
  ·rw[ae c];by_cases o:CT (all.getD i kW) (all.getD j kW)=true
   ·rw[ae o];obtain⟨a,b⟩:=xR h (i:=i) (k:=j) (by omega) (by omega);obtain⟨z,D⟩:=GR all f e n _ (if (all.getD i kW).x1<(all.getD j kW).x1 then i+1 else i) (if (all.getD i kW).x1<(all.getD j kW).x1 then j else j+1) a (by omega) (by omega);exact⟨z,D.trans b⟩
   rw[aa o];exact GR all f e n u _ _ h hf he
  rw[aa c];exact⟨h,rfl⟩
theorem CU(all:List aB):∀(s:List aR) (p:Option aR) (u:List Int) (f g:Nat),UF u->f+(told s).length<=u.length->UF (vg all p s u f g)/\(vg all p s u f g).length=u.length
 | [],p,u,f,g,h,_=>⟨h,rfl⟩
 | b::s,p,u,f,g,h,hl=>by
  have e:(told (b::s)).length=b.xs.length+(told s).length:=by simp[told]
  rw[e]at hl;rw[vg];by_cases c:meets p b=true
  ·rw[ae c];obtain⟨D,z⟩:=GR all f (f+b.xs.length) (f-g+b.xs.length) u g f h (by omega) (by omega);obtain⟨I,J⟩:=CU all s (some b) _ (f+b.xs.length) f D (by rw[z];omega);exact⟨I,J.trans z⟩
  rw[aa c];exact CU all s (some b) u (f+b.xs.length) f h (by omega)
theorem Sm(s:List aR):UF (ET s)/\(ET s).length=(told s).length:=by
 have:=CU (told s) s none (iota (told s).length) 0 0 (Bf _) (by rw[qz];omega);rw[qz]at this;exact this
def Jg(s:List aR):List (List aB):=(ba (kV (ET s)) (told s).length).map fun l=>l.map fun m=>(told s).getD m kW
def iO(s:List aR):List (List aR):=(Jg s).map cH
end Reg
namespace M
open Go.AM Go.RowKit Go.Lib
open Reg (UF ig Se cV ji iota aB)
theorem zk(u:List Int)(U:UF u)(i:Nat)(hi:i<u.length):ai C 186 [.pv (i64 i),.aU [.row 3 (aK u)]] (.p (i64 (cV i u i).2)) [.aU [.row 3 (aK (cV i u i).1)]]:=by
 refine ZG ⟨[],[],[],[],[],[]⟩ hC Tryz.func186 rfl (by kernel_rfl) fun _=>⟨_,aA.open hC _ 100001 [90000] (by exact rfl) rfl rfl rfl,?_⟩;obtain⟨R,J⟩:∃R,R=cV i u i:=⟨_,rfl⟩;rw[<-J];refine aP (fun x:Nat×List Int×Nat=>cV x.1 x.2.1 x.2.2=R/\UF x.2.1/\x.2.2<x.2.1.length/\x.2.2<=x.1) (fun x=>[(1,.bx 100001 0),(0,.p (i64 x.2.2))]) (fun x=>[(100001,.box [.ow 90000]),(90000,.row 3 (aK x.2.1))]) (fun x=>x.2.2) (i,u,i) _ (aA.refl _ _) ⟨J.symm,U,hi,aG _⟩ ⟨Z,Z,Y⟩ ⟨Z,Z,Y⟩ fun ⟨n,v,k⟩ V t h=>?_;obtain⟨z,I,N,O⟩:=V;simp only at z I N O;obtain⟨j,l,D,hl,q1,q2,W,q4⟩:=EP I N O;have lv:=cA v;refine⟨⟨by omega,by (try dsimp only);rw[lv];omega⟩,[i64 j],(da D),iW ?_ ?_⟩<;>intro g<;>try simp only[zB]at g
 ·have cO:j≠k:=by omega
  obtain⟨m,rfl,q5⟩:=q4 cO;refine⟨⟨by omega,by (try dsimp only);rw[lv];omega⟩,[i64 j],(da D),⟨by omega,by (try dsimp only);rw[lv];omega⟩,[i64 l],(da hl),⟨by omega,by (try dsimp only);rw[lv];omega⟩,[i64 j],(da D),⟨by omega,by (try dsimp only);rw[List.length_set,lv];omega⟩,[i64 l],(by rw[List.getElem?_set_self (by (try dsimp only);rw[lv];omega)];rfl),?_⟩;exact⟨(m,v.set k (l:Int),l),_,aA.refl _ _,⟨by rw[<-q5];exact z,(Reg.Sc I D hl).1,by simp only[List.length_set];omega,by dsimp only;omega⟩,by simp only;omega,⟨Z,Z,Y⟩,⟨rfl,congrArg (AB.row _) (gQ v k l),trivial⟩⟩
 have e:j=k:=by omega
 have z:=(W e).symm.trans z;subst z;exact And.intro rfl (And.intro ⟨Z,Z,Y⟩ trivial)
def zl(e:TypeId)(f:Nat->List PV)(l:List Nat):List HX:=[.row e (l.map f)]
def XH(f:Nat->List PV)(l:List Nat):List PV:=[.sl (l.map f)]
theorem CV(e:TypeId)(f:Nat->List PV)(D:List (List Nat)):AU (D.map (zl e f)):=fun r I x z=>by
 obtain⟨l,_,rfl⟩:=aZ.1 I;simp only[zl,aq,Gc,or_false]at z;subst z;trivial
theorem Bh(e:TypeId)(g:Nat->List PV)(f:AV->AV)(z:List (List Nat)):(z.map (zl e g)).map (fun r=>r.map (HX.dn f))=z.map (zl e g):=by
 rw[nq];rfl
theorem uG(e:TypeId)(f:Nat->List PV)(l:List Nat)(y:HX):(zl e f l).set 0 y=[y]:=rfl
theorem jU(e:TypeId)(g:Nat->List PV)(f:AV->AV)(z:List (List Nat))(k d:Nat)(h:f (.ow d)=.ow d):((z.map (zl e g)).set k [.av (.ow d)]).map (fun r=>r.map (HX.dn f))=(z.map (zl e g)).set k [.av (.ow d)]:=by
 rw[w_,Bh];simp only[eH,uF,HX.dn,h]
theorem UH(e:TypeId)(g:Nat->List PV)(f:AV->AV)(z:List (List Nat))(x:List (List HX)):(z.map (zl e g)++x).map (fun r=>r.map (HX.dn f))=z.map (zl e g)++x.map (fun r=>r.map (HX.dn f)):=by
 rw[bB,Bh]
theorem uH(e:TypeId)(g:Nat->List PV)(z:List (List Nat))(k d:Nat)(hk:k<z.length):((z.map (zl e g)).set k [.av (.ow d)])[k]?=some [.av (.ow d)]:=dZ (by rw[au];exact hk)
theorem XI(e:TypeId)(f:Nat->List PV)(D:List (List Nat)):SU (D.map (zl e f)) (D.map (XH f)):=SU.map fun l _=>⟨rfl,fun j u v z I=>by
 match j with
 | 0=>
  simp only[zl,XH,kG,Option.some.injEq]at z I;subst z;subst I;exact .row _ _
 | j+1=>simp[zl]at z⟩
end M
end Go.Proofs.YtihgjolmpjjblaaGreatDoor
