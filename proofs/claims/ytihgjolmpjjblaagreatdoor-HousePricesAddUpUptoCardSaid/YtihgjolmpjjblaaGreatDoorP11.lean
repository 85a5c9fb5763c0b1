/- Part 11 of the proof of HousePricesAddUp. -/
import Derived.Test.YtihgjolmpjjblaaGreatDoorP10
set_option linter.unusedVariables false
set_option linter.unusedSimpArgs false
set_option maxRecDepth 100000
set_option maxHeartbeats 8000000
namespace Go
abbrev pL:=@List.drop_zero
abbrev GS:=@Classical.not_not
abbrev Bi:=@List.mem_of_find?_eq_some
abbrev M8:=@List.take_zero
end Go
namespace Go.Proofs.YtihgjolmpjjblaaGreatDoor
namespace M
open Go.AM Go.RowKit Go.Lib
open Reg (UF ig cV iota kU kW CT vQ meets vg ET Jg iO dF gy aR aB told cH cm)
theorem getD_at{l:List aB}{i:Nat}{r:aB}(h:l[i]?=some r):l.getD i kW=r:=by rw[F1,h];rfl
def tc(s:List aR)(k:Nat):Option aR:=if k=0 then none else s[k-1]?
theorem prev_next{s:List aR}{k:Nat}{b:aR}(h:s[k]?=some b):tc s (k+1)=some b:=by rw[tc,aa (by omega)];exact h
theorem OZ(b:aR)(s:List aR):(told (b::s)).length=b.xs.length+(told s).length:=by simp[told]
theorem O0(l:Reg.cw):((((flat l).map fun n=>[i64 n]).length:Nat):Int).tdiv 2=(l.length:Nat):=by
 rw[au,fK,gM (by omega)];omega
theorem Jh(s:List aR)(hs:dF s)(ks:gy 1400000 s)(hN:(told s).length<=1000000000):ai C 136 [.pv (a_ s)] (.own 101 ((iO s).map fun p=>[a_ p])) []:=by
 have ls:=Reg.eW hs (by omega) ks;have lx:=Reg.rP hs (by omega) ks;have lt:=Reg.lO hs ks;have ms:=an s hb;obtain⟨N,hNe⟩:∃N,N=(told s).length:=⟨_,rfl⟩;have la:=an (told s) rc;refine FP ⟨[19,36],[],[(36,[17,1000017,19,1000019,136])],[36],[],[]⟩ hC Tryz.func136 rfl (by kernel_rfl) fun _=>?_;refine⟨_,_,(rz s (by omega) (fun t ht=>by have:=lx t ht;omega) lt),⟨by omega,by omega,by dsimp only;omega,by omega⟩,?_⟩;refine aP (fun i:Nat=>i<=N) (fun i=>[(0,.p (a_ s)),(3,.p (aE (told s))),(4,.bx 4 0),(32,.p (i64 N)),(33,.p (i64 i))]) (fun i=>[(4,.box [.ow 30]),(30,.row 3 (aK (vP N i)))]) (fun i=>N-i) 0 _ (aA.own (by exact hC) _ 3 (id:=3) (by exact rfl) (by exact rfl)) (ak _) ⟨rfl,rfl,rfl,af (fun m:Nat=>AV.p (i64 m)) (by rw[hNe];simp),Z,Y⟩ ⟨rfl,by rw[ER,hNe,<-la];rfl,trivial⟩ fun i hi t h=>?_;have lv:=cA (vP N i);have lu:=CP N i;apply iW<;>intro h1
 ·exact⟨⟨by omega,by rw[lv];omega⟩,[i64 0],(da (Jd (by omega))),wO (by omega),(i+1),_,aA.refl _ _,by omega,by omega,⟨Z,Z,Z,Z,Z,Y⟩,⟨rfl,af (AB.row _) ((gQ _ _ _).trans (by rw[F0,Jf (by omega)])),trivial⟩⟩
 have e:i=N:=by omega
 subst e;rw[Je];obtain⟨U,hU⟩:∃U,U=ET s:=⟨_,rfl⟩;obtain⟨all,jz⟩:∃all,all=told s:=⟨_,rfl⟩;have hU':vg all none s (iota i) 0 0=U:=by rw[hU,hNe,jz];rfl
 have hNa:all.length=i:=by rw[hNe,jz]
 rw[<-jz]at la ⊢;refine aP (fun x:Nat×List Int×Nat×Nat=>vg all (tc s x.1) (s.drop x.1) x.2.1 x.2.2.1 x.2.2.2=U/\UF x.2.1/\x.2.1.length=i/\x.2.2.1+(told (s.drop x.1)).length=i/\x.2.2.2<=x.2.2.1/\x.1<=s.length) (fun x=>[(0,.p (a_ s)),(3,.p (aE all)),(4,.bx 4 0),(6,.fn 186 [.bx 4 0]),(7,.p (i64 x.2.2.1)),(8,.p (i64 x.2.2.2)),(42,.p (a_ s)),(43,.p (i64 s.length)),(44,.p (i64 x.1))]) (fun x=>[(4,.aU [.row 3 (aK x.2.1)])]) (fun x=>s.length-x.1) (0,iota i,0,0) _ (aA.pack (by exact hC) _ 4 (cs:=[.row 3 (aK (iota i))]) (by exact rfl) (by exact rfl) (by exact⟨Z,Y⟩)) ⟨hU',Reg.Bf _,Reg.qz _,by simp only[pL,bp];rw[hNe],aG _,ak _⟩ ⟨rfl,rfl,rfl,rfl,rfl,rfl,rfl,af (fun m:Nat=>AV.p (i64 m)) ms,Z,Y⟩ ⟨Z,Y⟩ fun ⟨k,u,f,g⟩ W t h=>?_;obtain⟨O,c2,c3,c4,c5,c6⟩:=W;simp only at O c2 c3 c4 c5 c6;apply iW<;>intro g1<;>try simp only[zB]at g1
 ·obtain⟨b,hbk⟩:=ao (l:=s) (i:=k) (by omega);rw[drop_at hbk]at O c4;rw[OZ]at c4;rw[vg,<-prev_next hbk]at O;have hf:=O0 b.xs;have lf:((flat b.xs).map fun n=>[i64 n]).length=2*b.xs.length:=by rw[au,fK]
  refine⟨(hb b),(idx rfl hbk),by decide,⟨by rw[hf];omega,by rw[hf];omega⟩,?_⟩;have skip:Reg.meets (tc s k) b=false->vg all (tc s (k+1)) (s.drop (k+1)) u (f+b.xs.length) f=U:=fun hm=>by
   rw[hm]at O;exact O
  apply iW<;>intro g2<;>try simp only[zB]at g2
  ·obtain⟨q,hq⟩:=ao (l:=s) (i:=k-1) (by omega);have hpv:tc s k=some q:=by rw[tc,aa (by omega)];exact hq
   refine⟨wO (by omega),(hb q),(idx (show (k:Int)-1=((k-1:Nat):Int) by omega) hq),iW ?_ ?_⟩<;>intro g3
   ·have hm:Reg.meets (tc s k) b=true:=by rw[hpv];simpa [Reg.meets] using g3
    rw[hm,ae rfl]at O;refine aP (fun y:Nat×List Int×Nat×Nat=>vQ all f (f+b.xs.length) y.1 y.2.1 y.2.2.1 y.2.2.2=vQ all f (f+b.xs.length) (f-g+b.xs.length) u g f/\UF y.2.1/\y.2.1.length=i/\(f-y.2.2.1)+(f+b.xs.length-y.2.2.2)<=y.1/\y.2.2.1<=f/\y.2.2.2<=f+b.xs.length) (fun y=>[(0,.p (a_ s)),(3,.p (aE all)),(4,.bx 4 0),(6,.fn 186 [.bx 4 0]),(7,.p (i64 f)),(8,.p (i64 g)),(42,.p (a_ s)),(43,.p (i64 s.length)),(44,.p (i64 k)),(11,.p (i64 b.xs.length)),(12,.p (i64 y.2.2.1)),(13,.p (i64 y.2.2.2))]) (fun y=>[(4,.aU [.row 3 (aK y.2.1)])]) (fun y=>(f-y.2.2.1)+(f+b.xs.length-y.2.2.2)) (f-g+b.xs.length,u,g,f) _ (aA.refl _ _) ⟨rfl,c2,c3,by simp only;omega,by simp only;omega,by simp only;omega⟩ ⟨rfl,rfl,rfl,rfl,rfl,rfl,rfl,rfl,rfl,by rw[<-hf];rfl,Z,Z,Y⟩ ⟨Z,Y⟩ fun ⟨n,v,p,D⟩ hy t h=>?_;obtain⟨z1,z2,z3,z4,z5,z6⟩:=hy;simp only at z1 z2 z3 z4 z5 z6;have stop:¬(p<f/\D < f+b.xs.length)->v=vQ all f (f+b.xs.length) (f-g+b.xs.length) u g f:=fun R=>by
     rw[<-z1];cases n with
     | zero=>rfl
     | succ n=>rw[vQ,aa R]
    apply iW<;>intro e1<;>try simp only[zB]at e1
    ·refine⟨wO (by omega),iW ?_ ?_⟩<;>intro e2<;>try simp only[zB]at e2
     ·obtain⟨n,rfl⟩:∃n',n=n'+1:=⟨n-1,by omega⟩;rw[vQ,ae (by omega)]at z1;obtain⟨x,W⟩:=ao (l:=all) (i:=p) (by omega);obtain⟨y,hy⟩:=ao (l:=all) (i:=D) (by omega);rw[getD_at W,getD_at hy]at z1;have PC:∀(w:List Int),(if CT x y=true then kU v p D else v)=w->(x.x1<y.x1->vQ all f (f+b.xs.length) n w (p+1) D=vQ all f (f+b.xs.length) (f-g+b.xs.length) u g f)/\(¬x.x1<y.x1->vQ all f (f+b.xs.length) n w p (D+1)=vQ all f (f+b.xs.length) (f-g+b.xs.length) u g f):=fun w hw=>by
       rw[hw]at z1;exact⟨fun R=>by rw[ae R,ae R]at z1;exact z1,fun R=>by rw[aa R,aa R]at z1;exact z1⟩
      refine⟨(rc x),(idx rfl W),(rc y),(idx rfl hy),iW ?_ ?_⟩<;>intro e3
      ·refine⟨(rc y),(idx rfl hy),(rc x),(idx rfl W),iW ?_ ?_⟩<;>intro e4
       ·have PC:=PC _ (ae (by simp only[CT,aJ,db];exact⟨e3,e4⟩));have a:=Reg.ji p v p z2 (by omega) (aG _);have b':=Reg.ji D (cV p v p).1 D a.uf (by rw[a.len];omega) (aG _);have ra:=(az.1 ((b'.same _ _).2 ((a.same _ _).2 a.root)).top).1;have rb:=(az.1 ((b'.same _ _).2 b'.root).top).1;have Ja:((max ((cV p v p).2:Int) ((cV D (cV p v p).1 D).2:Int))).toNat=max (cV p v p).2 (cV D (cV p v p).1 D).2:=by omega
        have lv:=cA (cV D (cV p v p).1 D).1;obtain⟨ju,jl⟩:=Reg.xR z2 (i:=p) (k:=D) (by omega) (by omega);refine⟨_,_,(zk v z2 p (by omega)),_,_,(zk (cV p v p).1 a.uf D (by rw[a.len];omega)),?_⟩;refine qk (aA.open (by exact hC) _ 4 [30] (by exact rfl) rfl rfl rfl) ?_;obtain⟨z,hz⟩:∃z,(cV D (cV p v p).1 D).1[max (cV p v p).2 (cV D (cV p v p).1 D).2]?=some z:=⟨_,aW (by omega)⟩;refine⟨⟨by omega,by rw[lv];omega⟩,[i64 z],(by rw[Ja];exact da hz),?_⟩;have qh:∀(m:Nat) (c:Int),m=max (cV p v p).2 (cV D (cV p v p).1 D).2->c=min ((cV p v p).2:Int) ((cV D (cV p v p).1 D).2:Int)->AB.row 3 ((aK (cV D (cV p v p).1 D).1).set m [i64 c])=AB.row 3 (aK (kU v p D)):=fun m c e1 e2=>by
         subst e1;subst e2;rw[gQ,kU];congr 3;omega
        refine⟨(rc x),(idx rfl W),(rc y),(idx rfl hy),iW ?_ ?_⟩<;>intro e5
        ·have nx:=PC.1 e5;exact⟨⟨by dsimp only;omega,by dsimp only;omega⟩,(n,kU v p D,p+1,D),_,aA.pack (by exact hC) _ 4 (cs:=[.row 3 (aK (kU v p D))]) (by exact rfl) (by exact rfl) (by exact⟨qh _ _ Ja rfl,trivial⟩),⟨nx,ju,jl.trans z3,by simp only;omega,by simp only;omega,by simp only;omega⟩,by simp only;omega,⟨Z,Z,Z,Z,Z,Z,Z,Z,Z,Z,Z,Z,Y⟩,⟨Z,Y⟩⟩
        have nx:=PC.2 e5;exact⟨⟨by dsimp only;omega,by dsimp only;omega⟩,(n,kU v p D,p,D+1),_,aA.pack (by exact hC) _ 4 (cs:=[.row 3 (aK (kU v p D))]) (by exact rfl) (by exact rfl) (by exact⟨qh _ _ Ja rfl,trivial⟩),⟨nx,ju,jl.trans z3,by simp only;omega,by simp only;omega,by simp only;omega⟩,by simp only;omega,⟨Z,Z,Z,Z,Z,Z,Z,Z,Z,Z,Z,Z,Y⟩,⟨Z,Y⟩⟩
       have PC:=PC _ (aa (by simp only[CT,aJ,db];exact fun R=>e4 R.2));refine⟨(rc x),(idx rfl W),(rc y),(idx rfl hy),iW ?_ ?_⟩<;>intro e5
       ·have nx:=PC.1 e5;exact⟨⟨by dsimp only;omega,by dsimp only;omega⟩,(n,v,p+1,D),_,aA.refl _ _,⟨nx,z2,z3,by simp only;omega,by simp only;omega,by simp only;omega⟩,by simp only;omega,⟨Z,Z,Z,Z,Z,Z,Z,Z,Z,Z,Z,Z,Y⟩,⟨Z,Y⟩⟩
       have nx:=PC.2 e5;exact⟨⟨by dsimp only;omega,by dsimp only;omega⟩,(n,v,p,D+1),_,aA.refl _ _,⟨nx,z2,z3,by simp only;omega,by simp only;omega,by simp only;omega⟩,by simp only;omega,⟨Z,Z,Z,Z,Z,Z,Z,Z,Z,Z,Z,Z,Y⟩,⟨Z,Y⟩⟩
      have PC:=PC _ (aa (by simp only[CT,aJ,db];exact fun R=>e3 R.1));refine⟨(rc x),(idx rfl W),(rc y),(idx rfl hy),iW ?_ ?_⟩<;>intro e5
      ·have nx:=PC.1 e5;exact⟨⟨by dsimp only;omega,by dsimp only;omega⟩,(n,v,p+1,D),_,aA.refl _ _,⟨nx,z2,z3,by simp only;omega,by simp only;omega,by simp only;omega⟩,by simp only;omega,⟨Z,Z,Z,Z,Z,Z,Z,Z,Z,Z,Z,Z,Y⟩,⟨Z,Y⟩⟩
      have nx:=PC.2 e5;exact⟨⟨by dsimp only;omega,by dsimp only;omega⟩,(n,v,p,D+1),_,aA.refl _ _,⟨nx,z2,z3,by simp only;omega,by simp only;omega,by simp only;omega⟩,by simp only;omega,⟨Z,Z,Z,Z,Z,Z,Z,Z,Z,Z,Z,Z,Y⟩,⟨Z,Y⟩⟩
     have st:=stop (by omega);exact⟨wO (by omega),wO (by omega),(k+1,v,f+b.xs.length,f),_,aA.refl _ _,⟨by rw[st];exact O,z2,z3,by simp only;omega,by simp only;omega,by simp only;omega⟩,by omega,⟨Z,Z,Z,Z,Z,Z,Z,Z,Z,Y⟩,⟨Z,Y⟩⟩
    have st:=stop (by omega);exact⟨wO (by omega),wO (by omega),(k+1,v,f+b.xs.length,f),_,aA.refl _ _,⟨by rw[st];exact O,z2,z3,by simp only;omega,by simp only;omega,by simp only;omega⟩,by omega,⟨Z,Z,Z,Z,Z,Z,Z,Z,Z,Y⟩,⟨Z,Y⟩⟩
   have hm:Reg.meets (tc s k) b=false:=by rw[hpv];simpa [Reg.meets] using g3
   have O:=skip hm;exact⟨⟨by rw[hf];dsimp only;omega,by rw[hf];dsimp only;omega⟩,wO (by omega),(k+1,u,f+b.xs.length,f),_,aA.refl _ _,⟨O,c2,c3,by simp only;omega,by simp only;omega,by simp only;omega⟩,by omega,⟨rfl,rfl,rfl,rfl,by rw[hf];rfl,Z,Z,Z,Z,Y⟩,⟨Z,Y⟩⟩
  have hm:Reg.meets (tc s k) b=false:=by rw[tc,ae (by omega)];rfl
  have O:=skip hm;exact⟨⟨by rw[hf];dsimp only;omega,by rw[hf];dsimp only;omega⟩,wO (by omega),(k+1,u,f+b.xs.length,f),_,aA.refl _ _,⟨O,c2,c3,by simp only;omega,by simp only;omega,by simp only;omega⟩,by omega,⟨rfl,rfl,rfl,rfl,by rw[hf];rfl,Z,Z,Z,Z,Y⟩,⟨Z,Y⟩⟩
 have e:s.length<=k:=by omega
 rw[aT e]at O c4;have O:u=U:=O;subst O;have XJ:iO s=((Reg.ba (Reg.kV u) i).map fun l=>l.map fun m=>all.getD m kW).map Reg.cH:=by rw[iO,Jg,<-hU,<-jz,hNa]
 rw[XJ];obtain⟨p,hp⟩:∃p,p=Reg.kV u:=⟨_,rfl⟩;have hT:Reg.OW p i:=by rw[hp,<-c3];exact Reg.Bg c2
 rw[<-hp];obtain⟨J,hrf⟩:∃J,J=fun m=>rc (all.getD m kW):=⟨_,rfl⟩;refine aP (fun x:Nat×List (Value×PV)=>x.1<=i/\(∀(k r:Nat),(Reg.dy p x.1)[k]?=some r->gz x.2 (.int .i64 r)=some (i64 k))/\∀r:Nat,¬r∈Reg.dy p x.1->gz x.2 (.int .i64 r)=none) (fun x=>[(3,.p (aE all)),(4,.bx 4 0),(6,.fn 186 [.bx 4 0]),(16,.ow 136),(17,.ow 17),(137,.p (aE all)),(138,.p (i64 i)),(139,.p (i64 x.1))]) (fun x=>[(4,.aU [.row 3 (aK (qB u x.1))]),(17,.aw 52 ((Reg.ba p x.1).map (zl 93 J))),(136,.map (.int .i64) x.2)]) (fun x=>i-x.1) (0,[]) _ ((aA.eK (by exact hC) _ 17 52 _ (by decide) (by exact rfl) (by exact rfl) (by decide)).trans (aA.toH (by exact hC) _ 17 (e:=52) (es:=[]) (by exact rfl))) ⟨ak _,fun k r h=>by simp[Reg.dy]at h,fun r _=>rfl⟩ ⟨rfl,rfl,rfl,rfl,rfl,rfl,af (fun m:Nat=>AV.p (i64 m)) (la.trans hNa),Z,Y⟩ ⟨Z,Z,Z,Y⟩ fun ⟨m,es⟩ W t h=>?_;obtain⟨h1,h2,h3⟩:=W;simp only at h1 h2 h3;obtain⟨vu,vl,vr⟩:=CQ c2 m (by omega);apply iW<;>intro g1<;>try simp only[zB]at g1
 ·obtain⟨x,W⟩:=ao (l:=all) (i:=m) (by omega);have TA:J m=rc x:=by rw[hrf];exact af rc (getD_at W)
  have I:ig (qB u m) m (p m):=(vr _ _).2 (by rw[hp];exact Reg.oG c2 (by omega));have aab:=zk (qB u m) vu m (by omega);rw[(Reg.ji m (qB u m) m vu I.lt (aG _)).root.uniq I]at aab;refine⟨(rc x),(idx rfl W),_,_,aab,?_⟩;have sl:(Reg.ba p m).length=(Reg.dy p m).length:=Reg.qA p m;have kl:=Reg.tb p m;by_cases e:p m=m
  ·have Eb:=h3 (p m) (by rw[e];exact fun R=>by have:=(Reg.mem_keys.1 R).1;omega);have nx:=Reg.Jb hT (show m<i by omega) e;refine⟨none,Eb,⟨fun r I=>by simp at I;subst I;rfl,by simp only[au,aQ,bX];omega,by simp only[au,aQ,bX];omega⟩,?_⟩;refine qk ((aA.W0 (by exact hC) _ 17 (Reg.ba p m).length 0 (e:=52) (e':=93) (es:=(Reg.ba p m).map (zl 93 J)++[[.av .nl]]) (r:=[.av .nl]) (by exact af (AB.aw _) (by simp only[Bh,UH];rfl)) (by rw[du (by simp)];simp) (by exact rfl) (by exact rfl) (by decide)).trans (aA.tN (by exact hC) _ 17 (Reg.ba p m).length 0 90001 (e:=52) (es:=(Reg.ba p m++[[]]).map (zl 93 J)) (e':=93) (r:=zl 93 J []) (xs:=[]) (by decide) (by decide) (by exact af (AB.aw _) (by rw[bB];refine (xU _ _ _ _ (au _).symm).trans ?_;simp[zl])) (CV _ _ _) (by rw[bB,du (by simp)];simp) (by exact rfl))) ?_;have e0:(List.map (fun r=>List.map (HX.dn (sc 146)) r) (List.map (fun r=>List.map (HX.dn (sc 19)) r) (List.map (zl 93 J) (Reg.ba p m)))).length=(Reg.ba p m).length:=by simp
   refine⟨⟨by dsimp only;omega,by simp⟩,[.av (.ow 90001)],(by rw[uG,jU,jU];rw[e0];exact uH _ _ (Reg.ba p m++[[]]) (Reg.ba p m).length 90001 (by simp);rfl;rfl),⟨fun r I=>by simp at I;subst I;rfl,by simp,by simp⟩,⟨by dsimp only;omega,by simp⟩,[.av (.ow 90001)],(by rw[uG,jU,jU];rw[e0];exact uH _ _ (Reg.ba p m++[[]]) (Reg.ba p m).length 90001 (by simp);rfl;rfl),wO (by omega),(m+1,iS es (.int .i64 (p m)) (i64 (Reg.ba p m).length)),_,aA.H7 (by exact hC) _ 17 (Reg.ba p m).length 0 171 (e:=52) (es:=((Reg.ba p m++[[]]).map (zl 93 J)).set (Reg.ba p m).length [.av (.ow 171)]) (e':=93) (xs:=[J m]) (by decide) (by exact congrArg (AB.aw _) (by rw[uG,jU,jU,e0];exact List.set_set _;rfl;rfl)) (by rw[TA];exact rfl) (uH _ _ _ _ _ (by simp)) (by exact rfl),?_⟩;have key:∀(k r:Nat),(Reg.dy p (m+1))[k]?=some r->gz (iS es (.int .i64 (p m)) (i64 (Reg.ba p m).length)) (.int .i64 r)=some (i64 k):=fun k r hk=>by
    rw[Reg.kp,ae e]at hk;rw[oH];by_cases PW:k<(Reg.dy p m).length
    ·rw[dN PW]at hk;have:=(Reg.mem_keys.1 (aj hk)).1;rw[aa (by omega)];exact h2 k r hk
    rw[du (by omega)]at hk;have L4:k=(Reg.dy p m).length:=by
     have:=(az.1 hk).1;simp at this;omega
    subst L4;simp only[jL,kG,Option.some.injEq]at hk;subst hk;rw[ae (by omega),sl]
   have aac:∀r:Nat,¬r∈Reg.dy p (m+1)->gz (iS es (.int .i64 (p m)) (i64 (Reg.ba p m).length)) (.int .i64 r)=none:=fun r I=>by
    rw[Reg.kp,ae e]at I;rw[oH,aa (fun R=>I (by rw[b_];exact .inr (by simp;omega)))];exact h3 r fun R=>I (ir _ R)
   refine⟨⟨by dsimp only;omega,key,aac⟩,⟨by dsimp only;omega,⟨Z,Z,Z,Z,Z,Z,Z,Z,Y⟩,⟨rfl,?_,congrArg (AB.map _) ?_,trivial⟩⟩⟩
   ·refine af (AB.aw _) ?_;show ((List.map (zl 93 J) (Reg.ba p m++[[]])).set _ _).set _ _=List.map (zl 93 J) (Reg.ba p (m+1));rw[xM,nx,bB,bB];exact xU _ _ _ _ (au _).symm
   dsimp only;rw[e0];rfl
  obtain⟨k,hk⟩:=Reg.Sg hT (show m<i by omega) e;obtain⟨nx,jy⟩:=Reg.Jc e hk;have km:=h2 k (p m) hk;have XG:((Reg.ba p m).map (zl 93 J))[k]?=some (zl 93 J (Reg.kj p m (p m))):=by rw[aD,jy];rfl
  have kl':=(az.1 hk).1;have ml:=Reg.xT p m (p m);refine⟨(some (i64 k)),km,?_⟩;refine qk (aA.tN (by exact hC) _ 17 k 0 90001 (e:=52) (by decide) (by decide) (by exact af (AB.aw _) (by simp only[Bh])) (CV _ _ _) XG (by exact rfl)) ?_;refine⟨⟨by omega,by simp only[List.length_map,List.length_set];omega⟩,[.av (.ow 90001)],(by rw[uG,jU,jU];exact uH _ _ (Reg.ba p m) k 90001 (by omega);rfl;rfl),⟨fun r I=>by simp at I;subst I;rfl,by simp only[List.length_map,List.length_set,List.length_replicate];omega,by simp only[List.length_map,List.length_set,List.length_replicate];omega⟩,⟨by omega,by simp only[List.length_map,List.length_set];omega⟩,[.av (.ow 90001)],(by rw[uG,jU,jU];exact uH _ _ (Reg.ba p m) k 90001 (by omega);rfl;rfl),wO (by omega),(m+1,es),_,aA.H7 (by exact hC) _ 17 k 0 171 (e:=52) (es:=((Reg.ba p m).map (zl 93 J)).set k [.av (.ow 171)]) (e':=93) (xs:=(Reg.kj p m (p m)++[m]).map J) (by decide) (by exact congrArg (AB.aw _) (by rw[uG,jU,jU];exact List.set_set _;rfl;rfl)) (by exact congrArg (AB.row _) (by rw[List.map_append];exact congrArg (List.map J (Reg.kj p m (p m))++·) (by show _=[J m];rw[TA];rfl))) (uH _ _ _ _ _ (by omega)) (by exact rfl),⟨by dsimp only;omega,fun k' r AI=>?_,fun r I=>?_⟩,⟨by dsimp only;omega,⟨Z,Z,Z,Z,Z,Z,Z,Z,Y⟩,⟨rfl,?_,Z,Y⟩⟩⟩
  ·rw[Reg.kp,aa e]at AI;exact h2 k' r AI
  ·rw[Reg.kp,aa e]at I;exact h3 r I
  refine af (AB.aw _) ?_;show ((List.map (zl 93 J) (Reg.ba p m)).set _ _).set _ _=List.map (zl 93 J) (Reg.ba p (m+1));rw[xM,nx,w_];rfl
 have em:m=i:=by omega
 subst em;obtain⟨V,UI⟩:∃V,V=Reg.ba p m:=⟨_,rfl⟩;rw[<-UI];obtain⟨rL,Xa⟩:∃rL:List Nat->List aB,rL=fun l=>l.map fun m=>all.getD m kW:=⟨_,rfl⟩;rw[<-Xa];have qH:∀l,XH J l=[aE (rL l)]:=fun l=>by rw[XH,hrf,Xa,aE,nq];rfl
 have lL:=an V (XH J);have hLl:V.length<=m:=by rw[UI,Reg.qA];exact Reg.tb p m
 have Oy:∀l∈V,l.length<=m/\∀r∈rL l,r∈all:=fun l hl=>by
  rw[UI,Reg.ba]at hl;obtain⟨r,_,rfl⟩:=aZ.1 hl;refine⟨Reg.xT p m r,fun q hq=>?_⟩;rw[Xa]at hq;obtain⟨z,hz,rfl⟩:=aZ.1 hq;have:=(Reg.pM.1 hz).1;obtain⟨q,hq⟩:=ao (l:=all) (i:=z) (by omega);rw[getD_at hq];exact aj hq
 have tf:=Reg.nW hs;have ti:=Reg.ux hs ks;rw[<-jz]at tf ti;refine aP (fun j:Nat=>j<=V.length) (fun j=>[(23,.ow 23),(174,.p (.sl (V.map (XH J)))),(175,.p (i64 V.length)),(176,.p (i64 j))]) (fun j=>[(23,.row 101 (((V.take j).map fun l=>Reg.cH (rL l)).map fun p=>[a_ p]))]) (fun j=>V.length-j) 0 _ ((aA.QZ (by exact hC) _ 17 (V.map (XH J)) (e:=52) (by exact rfl) (XI _ _ _)).trans ((aA.own (by exact hC) _ 174 (id:=17) (by exact rfl) (by exact rfl)).trans (aA.eK (by exact hC) _ 23 101 _ (by decide) (by exact rfl) (by exact rfl) (by decide)))) (ak _) ⟨rfl,rfl,af (fun m:Nat=>AV.p (i64 m)) (au _),Z,Y⟩ ⟨Z,Y⟩ fun j hj t h=>?_;apply iW<;>intro g1
 ·obtain⟨l,hl⟩:=ao (l:=V) (i:=j) (by omega);obtain⟨m1,m2⟩:=Oy l (aj hl);have so:=qx (rL l) 1400000 (by omega) (by omega) (fun r I=>tf r (m2 r I)) (fun r I=>ti r (m2 r I)) (by rw[Xa,au];omega);have lk:((V.take j).map fun l=>Reg.cH (rL l)).length=j:=by rw[au,cE];omega
  exact⟨[aE (rL l)],(by rw[<-qH];exact idx rfl hl),_,_,so,⟨fun r I=>by simp at I;subst I;rfl,by simp only[au,aQ,bX,lk];omega,by simp only[au,aQ,bX,lk];omega⟩,wO (by omega),(j+1),_,aA.refl _ _,by omega,by omega,⟨Z,Z,Z,Z,Y⟩,⟨by rw[bq hl,bB,bB];rfl,trivial⟩⟩
 have e:V.take j=V:=cK (by omega);rw[e];exact And.intro (af (AB.row _) (by rw[nq,nq,nq];rfl)) (And.intro rfl trivial)
end M
namespace Reg
theorem Ji{α:Type}[DecidableEq α]:∀{l m:List α},l.Nodup->(∀x∈l,x∈m)->l.length<=m.length
 | [],m,_,_=>ak _
 | x::l,m,h,z=>by
  have D:=z x bW;have h':=nj.1 h;have:=Ji (l:=l) (m:=m.erase x) h'.2 fun y I=>(List.mem_erase_of_ne (fun e=>h'.1 (by rw[<-e];exact I))).2 (z y (cD _ I));rw[List.length_erase_of_mem D]at this;have:=MV D;simp only[bN];omega
theorem CW:∀{s:cw} {p:Int×Int},Canon s->p∈s->¬cover s (p.1-1)
 | [],p,_,hp=>by cases hp
 | q::s,p,h,hp=>by
  rw[bQ];rintro (⟨h1,h2⟩ | z)
  ·rcases aq.1 hp with rfl | hp
   ·omega
   have:=h.behind p hp;omega
  rcases aq.1 hp with rfl | hp
  ·exact h.lH (by have:=h.head;omega) z
  exact CW h.tail hp z
variable {s:List aR}
theorem Sn(h:dF s){b:aR}(hb:b∈s){y:Int}(D:b.y0<=y)(I:y<b.y1)(x:Int):at' s x y=par (cm b.xs) x:=by
 induction s with
 | nil=>cases hb
 | cons c s ih=>
  rcases aq.1 hb with rfl | z
  ·exact nK h D I
  have:=h.j_ b z;rw[rQ (by omega)];exact ih h.tail z
theorem O1(h:dF s){b:aR}(hb:b∈s):∃x,at' s x (b.y0-1)≠at' s x b.y0:=by
 induction s with
 | nil=>cases hb
 | cons c s ih=>
  have N:=(h.mem b hb).lt;rcases aq.1 hb with rfl | z
  ·obtain⟨x,D⟩:=xE (h.mem b hb);refine⟨x,?_⟩;rw[nK h (cz _) N,D,lM fun t J=>?_]
   ·decide
   rcases aq.1 J with rfl | J
   ·exact .inl (by omega)
   have:=h.j_ t J;exact .inl (by omega)
  have O:=(h.mem c bW).lt;have Hh:=h.j_ b z;by_cases e:c.y1=b.y0
  ·match s,h,z,ih with
   | d::s,h,z,ih=>
    rcases aq.1 z with rfl | I
    ·have R:c.xs≠b.xs:=fun D=>by
      have:=h;simp only[dF]at this;exact this.2.2.1 e D
     have D:∃x,par (cm c.xs) x≠par (cm b.xs) x:=by
      refine wx fun U=>R (nv _ _ (h.mem c bW).can (h.mem b (by simp)).can fun x=>?_);have:par (cm c.xs) x=par (cm b.xs) x:=wx fun O=>U ⟨x,O⟩;rw[<-dL (h.mem c bW).can,<-dL (h.mem b (by simp)).can,this]
     obtain⟨x,D⟩:=D;refine⟨x,?_⟩;rw[nK h (by omega) (by omega),rQ (by omega),nK h.tail (cz _) N];exact D
    have:=(h.tail.j_ b I);have:=(h.mem d (by simp)).lt;have:=h.j_ d (by simp);omega
  obtain⟨x,D⟩:=ih h.tail z;refine⟨x,?_⟩;rw[rQ (by omega),rQ (by omega)];exact D
theorem Sq(h:dF s){z:List Int}(D:∀x y,¬y∈z->at' s x (y-1)=at' s x y):∀q∈told s,q.y0∈z:=fun q I=>by
 obtain⟨b,hb,p,_,rfl⟩:=mA.1 I;obtain⟨x,J⟩:=O1 h hb;exact wx fun N=>J (D x b.y0 N)
theorem Sr(h:dF s){D:List Int}(J:∀x y,¬x∈D->at' s (x-1) y=at' s x y):∀q∈told s,q.x0∈D:=fun q N=>by
 obtain⟨b,hb,p,hp,rfl⟩:=mA.1 N;have z:=h.mem b hb;refine wx fun O=>?_;have e:=J p.1 b.y0 O;rw[Sn h hb (cz _) z.lt,Sn h hb (cz _) z.lt]at e;have I:cover b.xs p.1:=⟨p,hp,cz _,iK z.can p hp⟩;rw[<-dL z.can,<-e,dL z.can]at I;exact CW z.can hp I
theorem EU(D:List Int):∀z:List Int,(z.flatMap fun y=>D.map fun x=>(y,x)).length=z.length*D.length
 | []=>by simp
 | y::z=>by rw[q_,bJ,EU D z,au,bN,dO,Nat.add_comm]
theorem UJ(h:dF s){D I:List Int}(N:∀x y,¬x∈D->at' s (x-1) y=at' s x y)(O:∀x y,¬y∈I->at' s x (y-1)=at' s x y):(told s).length<=I.length*D.length:=by
 have R:((told s).map fun q=>(q.y0,q.x0)).Nodup:=by
  rw[List.nodup_iff_pairwise_ne,xB];refine (Lk h).imp fun {a b} U e=>?_;have:=vL.1 U;simp only[Prod.mk.injEq]at e;omega
 have:=Ji (m:=I.flatMap fun y=>D.map fun x=>(y,x)) R fun z V=>by
  obtain⟨q,J,rfl⟩:=aZ.1 V;exact tJ.2 ⟨q.y0,Sq h O q J,aZ.2 ⟨q.x0,Sr h N q J,rfl⟩⟩
 rw[au]at this;exact aS this (Nat.le_of_eq (EU D I))
structure Piece where
 layer:Int
 set:List aR
structure dW where
 pieces:List Int
 bores:List Int
 pins:List (ByteArray×ByteArray)
structure UK where
 bore:Bool
 num:Int
theorem O2{x y:Int}{q:aB}(h:¬(x=q.x0\/x=q.x1)):oV (x-1) y q=oV x y q:=by
 rw[fV,dC,dC];omega
theorem O3{x y:Int}{q:aB}(h:¬(y=q.y0\/y=q.y1)):oV x (y-1) q=oV x y q:=by
 rw[fV,dC,dC];omega
theorem xV{α:Type}{l:List α}{f g:α->Bool}(h:∀x∈l,f x=g x):l.any f=l.any g:=by
 induction l with
 | nil=>rfl
 | cons x l ih=>rw[gK,gK,h x bW,ih fun y z=>h y (cD _ z)]
def XK(l:List aB):List Int:=l.flatMap fun q=>[q.x0,q.x1]
def XL(l:List aB):List Int:=l.flatMap fun q=>[q.y0,q.y1]
theorem M9:∀l:List aB,(XK l).length=2*l.length
 | []=>rfl
 | q::l=>by have:=M9 l;simp only[XK,q_,bJ,bN,kv]at this ⊢;omega
theorem M_:∀l:List aB,(XL l).length=2*l.length
 | []=>rfl
 | q::l=>by have:=M_ l;simp only[XL,q_,bJ,bN,kv]at this ⊢;omega
theorem O4{a b:List aB}(R:∀r∈a,Full r)(hb:∀r∈b,Full r):(told (iL (cH a) (cH b))).length<=(2*(a.length+b.length))*(2*(a.length+b.length)):=by
 obtain⟨U,D,_⟩:=eS R;obtain⟨V,I,_⟩:=eS hb;obtain⟨W,J,_⟩:=oC U V;have Y:∀x y,¬x∈XK (a++b)->at' (iL (cH a) (cH b)) (x-1) y=at' (iL (cH a) (cH b)) x y:=fun x y N=>by
  have e:∀q∈a++b,oV (x-1) y q=oV x y q:=fun q z=>O2 fun O=>N (tJ.2 ⟨q,z,by simp;exact O⟩);rw[J,J,D,D,I,I,xV (l:=a) fun q z=>e q (ir _ z),xV (l:=b) fun q z=>e q (qY _ z)]
 have Z:∀x y,¬y∈XL (a++b)->at' (iL (cH a) (cH b)) x (y-1)=at' (iL (cH a) (cH b)) x y:=fun x y N=>by
  have e:∀q∈a++b,oV x (y-1) q=oV x y q:=fun q z=>O3 fun O=>N (tJ.2 ⟨q,z,by simp;exact O⟩);rw[J,J,D,D,I,I,xV (l:=a) fun q z=>e q (ir _ z),xV (l:=b) fun q z=>e q (qY _ z)]
 have:=UJ W Y Z;rw[M9,M_,bJ]at this;exact this
def beside(x y:aB):Bool:=((decide (x.x0<y.x1)&&decide (y.x0<x.x1))&&(decide (x.y1=y.y0)||decide (y.y1=x.y0)))||((decide (x.y0<y.y1)&&decide (y.y0<x.y1))&&(decide (x.x1=y.x0)||decide (y.x1=x.x0)))
def dm(bs:List dq)(layer:Int):List aB:=(bs.filter fun b=>through b layer).map bM
def mE(bs:List dq)(layer:Int)(r:List aB):List aR:=iL (cH r) (cH (dm bs layer))
def kX(bs:List dq):Int->List (List aB)->List (List aR)
 | _,[]=>[]
 | k,r::l=>mE bs k r::kX bs (k+1) l
def gf(bs:List dq):Int->List (List aB)->List Piece
 | _,[]=>[]
 | k,r::l=>(iO (mE bs k r)).map (⟨k,·⟩)++gf bs (k+1) l
def Jj(bs:List dq):Int->List (List aB)->Bool
 | _,[]=>true
 | k,r::l=>decide ((told (mE bs k r)).length<=2000)&&Jj bs (k+1) l
def pN(a:yr):Bool:=Jj a.bores 0 a.coppers&&decide ((gf a.bores 0 a.coppers).length<=2000)
def td(b:dq)(p:Piece):Bool:=(b.plated&&through b p.layer)&&(told p.set).any fun r=>beside r (bM b)
def jv(b:dq):Nat->List Piece->List Int
 | _,[]=>[]
 | k,p::l=>if td b p=true then (k:Int)::jv b (k+1) l else jv b (k+1) l
def fP(bs:List dq)(ps:List Piece):List (List Int):=bs.map fun b=>jv b 0 ps
theorem O5(s:List aR):(iO s).length<=(told s).length:=by
 rw[iO,Jg,au,au,qA];exact tb _ _
theorem O6{l:List aB}{m:Nat}(h:m<l.length):l.getD m kW∈l:=by
 rw[F1,aW h];exact o5 h
theorem O7{l:List aB}(h:l∈Jg s):l≠[]/\∀r∈l,r∈told s:=by
 obtain⟨z,u2⟩:=Sm s;have hT:=Bg z;obtain⟨ms,D,rfl⟩:=aZ.1 h;obtain⟨r,I,rfl⟩:=aZ.1 D;obtain⟨J,N⟩:=mem_keys.1 I;refine⟨fun e=>?_,fun q O=>?_⟩
 ·have:r∈kj (kV (ET s)) (told s).length r:=pM.2 ⟨J,N⟩;rw[List.map_eq_nil_iff]at e;rw[e]at this;cases this
 obtain⟨m,R,rfl⟩:=aZ.1 O;exact O6 (pM.1 R).1
theorem EV{p:List aR}(h:dF s)(hp:p∈iO s):dF p/\p≠[]/\(∀x y,at' p x y=true->at' s x y=true)/\∀K,gy K s->gy K p:=by
 obtain⟨l,hl,rfl⟩:=aZ.1 hp;obtain⟨R,z⟩:=O7 hl;obtain⟨U,J,V⟩:=eS fun r I=>nW h r (z r I);have sub:∀x y,at' (cH l) x y=true->at' s x y=true:=fun x y N=>by
  rw[J,ee]at N;obtain⟨q,D,W⟩:=N;rw[<-Ct h,ee];exact⟨q,z q D,W⟩
 refine⟨U,fun e=>?_,sub,fun K Y=>V K fun r I=>ux h Y r (z r I)⟩;obtain⟨q,D⟩:=AD _ R;have O:=nW h q (z q D);have:at' (cH l) q.x0 q.y0=true:=by
  rw[J,ee];exact⟨q,D,dC.2 ⟨cz _,O.1,cz _,O.2⟩⟩
 rw[e]at this;cases this
end Reg
end Go.Proofs.YtihgjolmpjjblaaGreatDoor
namespace Go.AM
theorem aA.vh{A:rZ}(hC:bP A.C)(s:AS)(id j:Nat)(cs:List AV)(hb:s.h id=.box cs)(J:cs[j]?=some (.p (.im (.slice none 0 0)))):aA A s ⟨s.t,bd s.h id (.box (cs.set j .nl))⟩:=by
 intro S rho a w z;refine⟨S,rho,z.write hC id trivial (by rw[hb];trivial) _ (fun _ h=>by cases h) w rfl rfl rfl rfl (fun _ _=>rfl) fun T=>?_⟩;have N:=z.hp id trivial;rw[hb]at N;obtain⟨g,V,c,W,Y,Z,O⟩:=N;refine⟨g,V,c,W,Y,by rw[Z,aQ],fun q x u hi R=>?_⟩;by_cases U:q=j
 ·subst U;rw[dZ (aC J)]at hi;injection hi with hi;subst hi;obtain⟨D,I⟩:=O q _ u J R;refine⟨D,?_⟩;have k7:aO S w (.im (.slice none 0 0)) u:=by cases I;assumption
  exact (AG k7).de T
 rw[gC (fun e=>U e.symm)]at hi;obtain⟨D,I⟩:=O q x u hi R;exact⟨D,I.de T⟩
end Go.AM
namespace Go.Proofs.YtihgjolmpjjblaaGreatDoor
namespace M
open Go.AM Go.RowKit Go.Lib
open Reg (aB beside bM dq through ew aR cw)
theorem DX(x y:aB):ai C 139 [.pv (.ag (rc x)),.pv (.ag (rc y))] (.p (bool (beside x y))) []:=by
 refine fW hC Tryz.func139 rfl (by kernel_rfl) fun _=>?_;apply iW<;>intro a
 ·apply iW<;>intro c
  ·apply iW<;>intro b
   ·apply iW<;>intro e
    ·refine⟨?_,trivial⟩;simp[bool,beside,a,c,b,e]
    apply iW<;>intro f
    ·refine⟨?_,trivial⟩;simp[bool,beside,a,c,b,e,f]
    apply iW<;>intro d
    ·apply iW<;>intro g
     ·refine⟨?_,trivial⟩;simp[bool,beside,a,c,b,e,f,d,g]
     refine⟨?_,trivial⟩;simp[bool,beside,a,c,b,e,f,d,g]
    refine⟨?_,trivial⟩;simp[bool,beside,a,c,b,e,f,d]
   apply iW<;>intro d
   ·apply iW<;>intro g
    ·refine⟨?_,trivial⟩;simp[bool,beside,a,c,b,d,g]
    refine⟨?_,trivial⟩;simp[bool,beside,a,c,b,d,g]
   refine⟨?_,trivial⟩;simp[bool,beside,a,c,b,d]
  apply iW<;>intro b
  ·apply iW<;>intro e
   ·refine⟨?_,trivial⟩;simp[bool,beside,a,c,b,e]
   apply iW<;>intro f
   ·refine⟨?_,trivial⟩;simp[bool,beside,a,c,b,e,f]
   refine⟨?_,trivial⟩;simp[bool,beside,a,c,b,e,f]
  refine⟨?_,trivial⟩;simp[bool,beside,a,c,b]
 apply iW<;>intro c
 ·apply iW<;>intro d
  ·apply iW<;>intro g
   ·refine⟨?_,trivial⟩;simp[bool,beside,a,c,d,g]
   refine⟨?_,trivial⟩;simp[bool,beside,a,c,d,g]
  refine⟨?_,trivial⟩;simp[bool,beside,a,c,d]
 refine⟨?_,trivial⟩;simp[bool,beside,a,c]
theorem UL(r:aB)(b:dq)(h:ew b=true):ai C 138 [.pv (.ag (rc r)),.pv (.ip (bc b))] (.p (bool (beside r (bM b)))) []:=by
 refine fW hC Tryz.func138 rfl (by kernel_rfl) fun _=>?_;refine⟨_,_,(fA b h),_,_,(DX r (bM b)),?_,trivial⟩;rfl
theorem rV(l:List aR)(hN:l.length<=1000000000000)(R:∀t∈l,t.xs.length<=1000000000000)(hT:(Reg.told l).length<=4398046511104):ai C 31 [.pv (.sl (l.map hb))] (.p (aE (Reg.told l))) []:=by
 refine FP ⟨[],[2],[],[8],[],[]⟩ hC Tryz.func31 rfl (by kernel_rfl) fun _=>?_;have D:=an l hb;have U:∀i,(Reg.told (l.take i)).length<=(Reg.told l).length:=fun i=>by
  have e:Reg.told l=Reg.told (l.take i)++Reg.told (l.drop i):=by
   unfold Reg.told;rw[<-wS,o6]
  rw[e,bJ];omega
 refine aP (fun i:Nat=>i<=l.length) (fun i=>[(7,.p (.sl (l.map hb))),(8,.p (i64 (l.map hb).length)),(3,.ow 3),(9,.p (i64 i))]) (fun i=>[(3,.row 93 ((Reg.told (l.take i)).map rc))]) (fun i=>l.length-i) 0 _ (aA.eK hC _ 3 93 _ (by decide) rfl rfl (by decide)) (ak _) ⟨Z,Z,Z,Z,Y⟩ ⟨Z,Y⟩ fun i hi t h=>?_;apply iW<;>intro I
 ·rw[D]at I;obtain⟨b,z⟩:=ao (l:=l) (i:=i) (by omega);have J:=an (flat b.xs) fun n=>[i64 n];have N:=fK b.xs;have hb':=R b (aj z);have V:=U (i+1);rw[qn z,bJ,au]at V;refine⟨(hb b),(idx rfl z),?_⟩;refine Ak (fun _:Unit=>True) (fun _=>[(7,.p (.sl (l.map hb))),(8,.p (i64 (l.map hb).length)),(3,.ow 3),(9,.p (i64 i))]) (fun _=>[(3,.row 93 ((Reg.told (l.take (i+1))).map rc))]) (fun _ _ t h=>?_) ?_
  ·exact⟨wO (by omega),(i+1),_,aA.refl _ _,by omega,by omega,⟨Z,Z,Z,Z,Y⟩,⟨Z,Y⟩⟩
  refine aP (fun k:Nat=>k<=b.xs.length) (fun k=>[(7,.p (.sl (l.map hb))),(8,.p (i64 (l.map hb).length)),(3,.ow 3),(9,.p (i64 i)),(5,.bx 5 0),(6,.p (i64 ((2*k:Nat):Int)))]) (fun k=>[(3,.row 93 ((Reg.told (l.take i)++oU b k).map rc)),(5,.box [.p (i64 b.y0),.p (i64 b.y1),.p (ints (flat b.xs))])]) (fun k=>b.xs.length-k) 0 _ (aA.refl _ _) (ak _) ⟨Z,Z,Z,Z,Z,Z,Y⟩ ⟨by rw[oU];simp;rfl,Z,Y⟩ fun k hk t h=>?_;have KR:(oU b k).length<=k:=by simp[oU];omega
  apply iW<;>intro O
  ·rw[J,N]at O;obtain⟨p,hp⟩:=ao (l:=b.xs) (i:=k) (by omega);obtain⟨W,g2⟩:=Ip hp;refine⟨[i64 p.1],(idx rfl W),wO (by omega),[i64 p.2],(idx (by omega) g2),⟨kL rfl,by simp;omega,by simp;omega⟩,wO (by omega),(k+1),_,aA.refl _ _,by omega,by omega,⟨rfl,rfl,rfl,rfl,rfl,bI (by omega),trivial⟩,⟨?_,Z,Y⟩⟩;have hc:oU b (k+1)=oU b k++[⟨p.1,b.y0,p.2,b.y1⟩]:=by simp[oU,bq hp]
   have e:(Reg.told (l.take i)++oU b k).map rc++[rc ⟨p.1,b.y0,p.2,b.y1⟩]=(Reg.told (l.take i)++oU b (k+1)).map rc:=by
    rw[hc,<-d_,bB (l₂:=[_])];rfl
   exact af (AB.row 93) e
  rw[J,N]at O;refine⟨(),trivial,⟨Z,Z,Z,Z,Y⟩,⟨?_,trivial⟩⟩;rw[qn z];have:oU b k=b.xs.map fun p=>⟨p.1,b.y0,p.2,b.y1⟩:=by rw[oU,cK (by omega)]
  rw[<-this];rfl
 rw[D]at I;rw[cK (by omega)];exact⟨Z,Y⟩
def tch(b:dq)(r:aB):Bool:=beside r (bM b)
theorem Jk(l:List aB)(hN:l.length<=140737488355328)(b:dq)(I:ew b=true):ai C 187 [.pv (aE l),.pv (.fn 138 [.ip (bc b)])] (.p (i64 (eM (tch b) l 0))) []:=by
 refine fW hC Tryz.func187 rfl (by kernel_rfl) fun _=>?_;have N:=an l rc;refine aP (fun i:Nat=>i<=l.length/\∀z∈l.take i,tch b z=false) (fun i=>[(0,.p (aE l)),(1,.p (.fn 138 [.ip (bc b)])),(7,.p (i64 (l.map rc).length)),(8,.p (i64 i))]) (fun _=>[]) (fun i=>l.length-i) 0 _ (aA.refl _ _) ⟨ak _,by simp⟩ ⟨Z,Z,Z,Z,Y⟩ trivial fun i hi t h=>?_;apply iW<;>intro O
 ·rw[N]at O;obtain⟨r,J⟩:=ao (l:=l) (i:=i) (by omega);refine⟨(rc r),(idx rfl J),_,_,(UL r b I),iW ?_ ?_⟩<;>intro D
  ·refine⟨?_,trivial⟩;rw[eU J D hi.2,bp]
  exact⟨wO (by omega),(i+1),_,aA.refl _ _,⟨by omega,iu J D hi.2⟩,by omega,⟨Z,Z,Z,Z,Y⟩,trivial⟩
 rw[N]at O;refine⟨?_,trivial⟩;have D:=hi.2;rw[cK (by omega)]at D;rw[cT D];rfl
theorem CX(l:List aB)(D:l.length<=140737488355328)(b:dq)(z:ew b=true):ai C 137 [.pv (aE l),.pv (.fn 138 [.ip (bc b)])] (.p (bool (l.any (tch b)))) []:=by
 refine fW hC Tryz.func137 rfl (by kernel_rfl) fun _=>?_;refine⟨_,_,(Jk l D b z),?_,trivial⟩;rw[<-eZ _ l 0];rfl
open Reg (dF gy ct told iL RI me fg)
def GV(p:cy)(T:AV):List AV:=[.p (i64 p.unit),.p (.sl (p.tools.map zU)),.p (.sl p.steps.rows),T,.p (.sl []),.p (bool false),.p (i64 (-1)),.p (i64 0),.p (i64 0),.p (bool false),.p (i64 0),.p (i64 0)]
theorem Au(p:cy)(hp:dV p):ai C 121 [.pv (.ag (dE p))] (.hown ((dz p mX).map .p)) []:=by
 have N:=an p.tools zU;have htl:=hp.tools;refine ZF ⟨[11],[2],[],[11],[],[]⟩ hC Tryz.func121 rfl (by kernel_rfl) fun _=>⟨_,aA.refl _ _,?_⟩;refine aP (fun i:Nat=>i<=p.tools.length) (fun i=>[(1,.bx 1 0),(3,.bx 11 0),(13,.p (.sl (p.tools.map zU))),(14,.p (i64 (p.tools.map zU).length)),(15,.p (i64 i))]) (fun i=>[(1,.box ((dE p).map .p)),(11,.box (GV p (.ow 90000))),(90000,.row 101 ((p.tools.take i).map fun t=>[a_ (mW p t)]))]) (fun i=>p.tools.length-i) 0 _ (aA.trans (aA.vh hC _ 11 3 _ rfl rfl) (aA.trans (aA.vh hC _ 11 4 _ rfl rfl) (aA.trans (aA.gH hC _ 11 3 90000 101 _ _ (by decide) (by decide) rfl rfl rfl (by decide)) (aA.trans (aA.gH hC _ 11 4 90001 180 _ _ (by decide) (by decide) rfl rfl rfl (by decide)) (aA.gI hC _ 11 4 90001 180 _ _ (by decide) rfl rfl rfl))))) (ak _) ⟨Z,Z,Z,Z,Z,Y⟩ ⟨Z,Z,Z,Y⟩ fun i hi t h=>?_;apply iW<;>intro O
 ·rw[N]at O;obtain⟨y,D⟩:=ao (l:=p.tools) (i:=i) (by omega);have I:=aj D;obtain⟨y1,J⟩:=hp.aE y I;have R:=an y.aE rc;have wh:=(qx (y.aE.map (p8 p.unit)) 1000000 (by omega) (by omega) (fun r z=>(J r z).1) (fun r z=>(J r z).2) (by rw[au];omega)).lz (xs:=[aE (y.aE.map (p8 p.unit))]);refine⟨(zU y),(idx rfl D),?_⟩;refine Ak (fun _:Unit=>True) (fun _=>[(1,.bx 1 0),(3,.bx 11 0),(6,.ow 6),(13,.p (.sl (p.tools.map zU))),(14,.p (i64 (p.tools.map zU).length)),(15,.p (i64 i))]) (fun _=>[(1,.box ((dE p).map .p)),(6,.row 93 ((y.aE.map (p8 p.unit)).map rc)),(11,.box (GV p (.ow 90000))),(90000,.row 101 ((p.tools.take i).map fun t=>[a_ (mW p t)]))]) (fun _ _ t h=>?_) ?_
  ·refine qk (aA.own (by exact hC) _ 6 (id:=6) (e:=93) (es:=(y.aE.map (p8 p.unit)).map rc) (by exact rfl) (by exact rfl)) ?_;refine⟨_,_,wh,⟨kL rfl,by simp;omega,by simp;omega⟩,wO (by omega),i+1,_,aA.N0 _ 59 90000 (by decide) (by decide),by omega,by omega,⟨Z,Z,Z,Z,Z,Y⟩,⟨rfl,rfl,?_,trivial⟩⟩;rw[bq D,bB];rfl
  refine aP (fun j:Nat=>j<=y.aE.length) (fun j=>[(1,.bx 1 0),(3,.bx 11 0),(6,.ow 6),(13,.p (.sl (p.tools.map zU))),(14,.p (i64 (p.tools.map zU).length)),(15,.p (i64 i)),(20,.p (aE y.aE)),(21,.p (i64 (y.aE.map rc).length)),(22,.p (i64 j))]) (fun j=>[(1,.box ((dE p).map .p)),(6,.row 93 (((y.aE.take j).map (p8 p.unit)).map rc)),(11,.box (GV p (.ow 90000))),(90000,.row 101 ((p.tools.take i).map fun t=>[a_ (mW p t)]))]) (fun j=>y.aE.length-j) 0 _ (aA.eK hC _ 6 93 _ (by decide) rfl rfl (by decide)) (ak _) ⟨Z,Z,Z,Z,Z,Z,Z,Z,Z,Y⟩ ⟨Z,Z,Z,Z,Y⟩ fun j hj t h=>?_;apply iW<;>intro U
  ·rw[R]at U;obtain⟨r,z⟩:=ao (l:=y.aE) (i:=j) (by omega);obtain⟨V,W⟩:=J (p8 p.unit r) (aZ.2 ⟨r,aj z,rfl⟩);unfold Reg.Full p8 at V;unfold Reg.RK p8 at W;dsimp only at V W;refine⟨(rc r),(idx rfl z),wO (by omega),wO (by omega),wO (by omega),wO (by omega),⟨kL rfl,by simp;omega,by simp;omega⟩,wO (by omega),(j+1),_,aA.refl _ _,by omega,by omega,⟨Z,Z,Z,Z,Z,Z,Z,Z,Z,Y⟩,⟨rfl,?_,Z,Z,Y⟩⟩;rw[bq z,bB,bB];rfl
  rw[R]at U;have e:j=y.aE.length:=by omega
  subst e;exact⟨(),trivial,⟨Z,Z,Z,Z,Z,Z,Y⟩,⟨rfl,by rw[jR];rfl,Z,Z,Y⟩⟩
 rw[N]at O;have e:i=p.tools.length:=by omega
 subst e;rw[jR];exact⟨_,(aA.gI (by exact hC) _ 11 3 90000 101 (p.tools.map fun t=>[a_ (mW p t)]) (GV p (.ow 90000)) (by decide) (by exact rfl) (by exact rfl) (by exact rfl)).trans (aA.pack (by exact hC) _ 11 (cs:=(dz p mX).map .p) (by exact rfl) (by exact rfl) (by exact⟨Z,Z,Z,Z,Z,Z,Z,Z,Z,Z,Z,Z,Y⟩)),And.intro rfl (And.intro rfl trivial)⟩
theorem Lu(p:cy)(hp:dV p)(z:pW p):ai C 67 [.pv (.ag (dE p))] (.tu [.ip (dz p (runM p p.steps (0,0) mX).1),i64 (runM p p.steps (0,0) mX).2]) []:=by
 have D:=Sb p hp z.steps.2 z.steps.1;generalize runM p p.steps (0,0) mX=R at *;refine ZF ⟨[2],[],[],[],[],[]⟩ hC Tryz.func67 rfl (by kernel_rfl) fun _=>⟨_,aA.refl _ _,?_⟩;refine⟨_,_,(Au p hp),?_⟩;refine qk (aA.open (by exact hC) _ 6 [] (cs:=(dz p mX).map .p) (by exact rfl) rfl rfl rfl) ?_;exact⟨_,_,D,_,aA.iT (by exact hC) _ 2 (y:=.ip (dz p R.1)) (fz:=[(6,.nd (dz p R.1))]) (by exact⟨rfl,rfl⟩),And.intro rfl trivial⟩
theorem GW(p:cy)(N:pW p):ai C 30 [.pv (.ag (dE p))] (.tu [a_ (bS p).1,i64 (bS p).2]) []:=by
 obtain⟨D,z⟩:∃D,D=bS p:=⟨_,rfl⟩;rw[<-z];rw[bS]at z;refine fW hC Tryz.func30 rfl (by kernel_rfl) fun _=>?_;refine⟨_,_,(mO p N),iW ?_ ?_⟩<;>intro I
 ·rw[aa I]at z;subst z;refine⟨?_,trivial⟩;rfl
 have I:cN p=0:=by simpa using I
 rw[ae I]at z;refine⟨_,_,(Lu p (EL I) N),iW ?_ ?_⟩<;>intro J
 ·rw[aa J]at z;subst z;refine⟨?_,trivial⟩;rfl
 have J:(runM p p.steps (0,0) mX).2=0:=by simpa using J
 rw[ae J]at z;subst z;refine⟨?_,trivial⟩;rfl
theorem CY(p:cy)(J:pW p):ai C 13 [.pv (.ag (dE p))] (.tu [aE (told (bS p).1),i64 (bS p).2]) []:=by
 have N:ai C 31 [.pv (a_ (bS p).1)] (.p (aE (told (bS p).1))) []:=by
  by_cases h:(bS p).2=0
  ·obtain⟨z,D,_⟩:=rT h;have l1:=Reg.eW z (by omega) D;have l2:=Reg.rP z (by omega) D;exact rV _ (by omega) (fun t I=>by have:=l2 t I;omega) (Reg.lO z (D.up (by omega)))
  have e:(bS p).1=[]:=by
   unfold bS at h ⊢;split
   ·rename_i z;rw[ae z]at h;split
    ·rename_i D;rw[ae D]at h;exact absurd rfl h
    rfl
   rfl
  rw[e];exact rV [] (by simp) (fun t I=>by cases I) (by simp[told])
 refine fW hC Tryz.func13 rfl (by kernel_rfl) fun _=>?_;refine⟨_,_,(GW p J),_,_,N,?_,trivial⟩;rfl
def Ss:ByteArray:=⟨#[108,105,115,116]⟩
def GX:ByteArray:=⟨#[115,116,97,99,107]⟩
def Na:ByteArray:=⟨#[112,108,111,116,115]⟩
def qC:ByteArray:=⟨#[111,117,116,108,105,110,101]⟩
def nN:ByteArray:=⟨#[98,111,114,101,115]⟩
def Jl:ByteArray:=⟨#[112,108,97,99,101,115]⟩
def St:ByteArray:=⟨#[102,101,101,116]⟩
def Nb:ByteArray:=⟨#[114,117,108,101,115]⟩
def uI:ByteArray:=⟨#[108,97,110,100,115]⟩
def kY(k:Nat):ByteArray:=(⟨#[112,108,111,116,32]⟩:ByteArray)++Xi (Lib.itoa k)
def p_:List cy->Nat->Int×ByteArray
 | [],_=>(0,bC)
 | p::r,k=>if cN p=0 then p_ r (k+1) else (cN p,kY k)
def vi(o:Order):Int×ByteArray:=
 if cN o.outline≠0 then (cN o.outline,qC) else
 if 500<o.bores.length then (2,nN) else
 if fO o.bodies o.places≠0 then (fO o.bodies o.places,Jl) else
 if gq o.types o.feet≠0 then (gq o.types o.feet,St) else
 if jW o.rules≠0 then (jW o.rules,Nb) else (0,bC)
def fa(o:Order):Int×ByteArray:=
 if jf o.types o.list≠0 then (jf o.types o.list,Ss) else
 if eu o.mats o.stack≠0 then (eu o.mats o.stack,GX) else
 if o.plots.length≠fo o.stack then (3,Na) else
 if (p_ o.plots 0).1≠0 then p_ o.plots 0 else vi o
theorem Jm{l:List cy}{i:Nat}{p:cy}(h:l[i]?=some p):p_ (l.drop i) i=if cN p=0 then p_ (l.drop (i+1)) (i+1) else (cN p,kY i):=by
 have e:l.drop i=p::l.drop (i+1):=by
  obtain⟨hi,rfl⟩:=az.1 h;exact fI hi
 rw[e,p_]
def Su(x:Int×ByteArray):List PV:=[i64 x.1,str x.2]
theorem iP{s:ByteArray}{f:Int}(h:f≠0):Lc s f=[i64 f,str s]:=by rw[Lc,aa h]
theorem z8(o:Order)(D:gP o):ai C 12 [.pv (.ag (A8 o))] (.p (.ag (Su (fa o)))) []:=by
 refine fW hC Tryz.func12 rfl (by kernel_rfl) fun _=>?_;have lm:=an o.plots fun p=>dE p;have lb:=an o.bores vK;have hnl:=s5 o.stack;have Qi:=D.stack.1;have qH:=D.plots.1;refine⟨_,_,(Ar o.types o.list D.types D.list),iW ?_ ?_⟩<;>intro I
 ·have I:jf o.types o.list≠0:=by simpa using I
  have z:=eC Ss (jf o.types o.list);rw[iP I]at z;refine⟨_,_,z,?_,trivial⟩;rw[fa,ae I];rfl
 have I:jf o.types o.list=0:=by simpa using I
 have ht:ep o.types=0:=(dp I).1;refine⟨_,_,(qu o.mats o.stack D.mats D.stack),iW ?_ ?_⟩<;>intro N
 ·have N:eu o.mats o.stack≠0:=by simpa using N
  have z:=eC GX (eu o.mats o.stack);rw[iP N]at z;refine⟨_,_,z,?_,trivial⟩;rw[fa,aa (fun h=>h I),ae N];rfl
 have N:eu o.mats o.stack=0:=by simpa using N
 refine⟨_,_,(pZ o Qi),iW ?_ ?_⟩<;>intro R
 ·have R:o.plots.length≠fo o.stack:=fun e=>R (by show (((o.plots.map fun p=>dE p).length:Nat):Int)=(fo o.stack:Nat);omega);have z:=eC Na 3;rw[iP (by decide)]at z;refine⟨_,_,z,?_,trivial⟩;rw[fa,aa (fun h=>h I),aa (fun h=>h N),ae R];rfl
 have R:(((o.plots.map fun p=>dE p).length:Nat):Int)=(fo o.stack:Nat):=by simpa using R
 have R:¬o.plots.length≠fo o.stack:=fun h=>h (by omega);refine aP (fun i:Nat=>i<=o.plots.length/\p_ o.plots 0=p_ (o.plots.drop i) i) (fun i=>[(1,.bx 1 0),(2,.bx 2 0),(37,.p (.sl (o.plots.map fun p=>dE p))),(38,.p (i64 o.plots.length)),(39,.p (i64 i))]) (fun _=>[(1,.box ((A8 o).map .p)),(2,.box [.p (i64 0),.p (str bC)])]) (fun i=>o.plots.length-i) 0 _ (aA.refl _ _) ⟨ak _,rfl⟩ ⟨rfl,rfl,rfl,af (fun n:Nat=>AV.p (i64 n)) lm,Z,Y⟩ ⟨Z,Z,Y⟩ fun i hi t h=>?_;apply iW<;>intro h1
 ·obtain⟨p,hx⟩:=ao (l:=o.plots) (i:=i) (by omega);have Kq:=Jm hx;refine⟨(dE p),(idx rfl hx),_,_,(mO p (D.plots.2 p (aj hx))),iW ?_ ?_⟩<;>intro U
  ·have U:cN p≠0:=by simpa using U
   have e:p_ o.plots 0=(cN p,kY i):=by rw[hi.2,Kq,aa U]
   have zD:=Lib.itoa_length_le (i:Int) (by omega) (by omega);have his:(Xi (Lib.itoa i)).size=(Lib.itoa i).length:=by simp[Xi,ByteArray.size]
   refine⟨_,_,(Cp i (by omega)),by rw[his];show (5:Nat)+_<=_;omega,?_⟩;have z:=eC (kY i) (cN p);rw[iP U]at z;refine⟨_,_,z,?_,trivial⟩;rw[fa,aa (fun h=>h I),aa (fun h=>h N),aa R,ae (by rw[e];exact U),e];rfl
  have U:cN p=0:=by simpa using U
  exact⟨wO (by omega),(i+1),_,aA.refl _ _,⟨by omega,by rw[hi.2,Kq,ae U]⟩,by omega,⟨Z,Z,Z,Z,Z,Y⟩,⟨Z,Z,Y⟩⟩
 have e:p_ o.plots 0=(0,bC):=by rw[hi.2,aT (by omega)];rfl
 rw[show fa o=vi o by rw[fa,aa (fun h=>h I),aa (fun h=>h N),aa R,aa (by rw[e];simp)]];refine⟨_,_,(mO o.outline D.outline),iW ?_ ?_⟩<;>intro J
 ·have J:cN o.outline≠0:=by simpa using J
  have z:=eC qC (cN o.outline);rw[iP J]at z;refine⟨_,_,z,?_,trivial⟩;rw[vi,ae J];rfl
 have J:cN o.outline=0:=by simpa using J
 apply iW<;>intro k2
 ·have z:=eC nN 2;rw[iP (by decide)]at z;refine⟨_,_,z,?_,trivial⟩;rw[vi,aa (fun h=>h J),ae (by omega)];rfl
 refine⟨_,_,(xA o.bodies o.places D.bodies D.places),iW ?_ ?_⟩<;>intro O
 ·have O:fO o.bodies o.places≠0:=by simpa using O
  have z:=eC Jl (fO o.bodies o.places);rw[iP O]at z;refine⟨_,_,z,?_,trivial⟩;rw[vi,aa (fun h=>h J),aa (by omega),ae O];rfl
 have O:fO o.bodies o.places=0:=by simpa using O
 refine⟨_,_,(As o D ht),iW ?_ ?_⟩<;>intro V
 ·have V:gq o.types o.feet≠0:=by simpa using V
  have z:=eC St (gq o.types o.feet);rw[iP V]at z;refine⟨_,_,z,?_,trivial⟩;rw[vi,aa (fun h=>h J),aa (by omega),aa (fun h=>h O),ae V];rfl
 have V:gq o.types o.feet=0:=by simpa using V
 refine⟨_,_,(yU o.rules D.rules),?_⟩;have z:=eC Nb (jW o.rules);by_cases W:jW o.rules=0
 ·rw[Lc,ae W]at z;refine⟨_,_,z,?_,trivial⟩;rw[vi,aa (fun h=>h J),aa (by omega),aa (fun h=>h O),aa (fun h=>h V),aa (fun h=>h W)];rfl
 rw[Lc,aa W]at z;refine⟨_,_,z,?_,trivial⟩;rw[vi,aa (fun h=>h J),aa (by omega),aa (fun h=>h O),aa (fun h=>h V),ae W];rfl
theorem zm(o:Order)(z:gP o):ai C 11 [.pv (.ag (A8 o))] (.tu [str (fa o).2,i64 (fa o).1]) []:=by
 refine fW hC Tryz.func11 rfl (by kernel_rfl) fun _=>?_;refine⟨_,_,(z8 o z),?_,trivial⟩;rfl
structure qD where
 part:ByteArray
 pin:ByteArray
 layer:Int
 x:Int
 y:Int
deriving DecidableEq
def UM(l:qD):List PV:=[str l.part,str l.pin,i64 l.layer,i64 l.x,i64 l.y]
def GY(p:Int×Int):Nat->Int×Int
 | 0=>p
 | n+1=>(0-(GY p n).2,(GY p n).1)
theorem CZ{p:Int×Int}{b:Int}(h:(-b<=p.1/\p.1<=b)/\(-b<=p.2/\p.2<=b)):∀n,(-b<=(GY p n).1/\(GY p n).1<=b)/\(-b<=(GY p n).2/\(GY p n).2<=b)
 | 0=>h
 | n+1=>by
  have ih:=CZ h n;rw[GY];dsimp only;omega
def jI(flip:Bool)(q:Int)(x y:Int):Int×Int:=GY (if flip=true then 0-x else x,y) q.toNat
theorem Nc{flip:Bool}{q x y:Int}(hx:-100000<=x/\x<=100000)(hy:-100000<=y/\y<=100000):((-100000<=(jI flip q x y).1/\(jI flip q x y).1<=100000)/\(-100000<=(jI flip q x y).2/\(jI flip q x y).2<=100000)):=by
 refine CZ ?_ _;cases flip<;>simp<;>omega
theorem sn(flip:Bool)(q x y D I:Int)(hx:-100000<=x/\x<=100000)(O:-100000<=y/\y<=100000)(hq:0<=q/\q<=3)(ha:-1000000<=D/\D<=1000000)(hay:-1000000<=I/\I<=1000000):ai C 34 [.pv (.ag [i64 x,i64 y]),.pv (.ag [bool flip,i64 q,i64 D,i64 I])] (.p (.ag [i64 ((jI flip q x y).1+D),i64 ((jI flip q x y).2+I)])) []:=by
 refine fW hC Tryz.func34 rfl (by kernel_rfl) fun _=>?_;have body:∀z:Int,(-100000<=z/\z<=100000)->jI flip q x y=GY (z,y) q.toNat->∀n:Nat,((-100000<=(GY (z,y) n).1/\(GY (z,y) n).1<=100000)/\(-100000<=(GY (z,y) n).2/\(GY (z,y) n).2<=100000)):=fun z R _ n=>CZ ⟨R,O⟩ n;apply iW<;>intro N
 ·have J:jI flip q x y=GY (0-x,y) q.toNat:=by rw[jI,ae N]
  have hb:=CZ (p:=(0-x,y)) (b:=100000) ⟨by dsimp only;omega,by dsimp only;omega⟩;refine⟨wO (by omega),?_⟩;refine aP (fun i:Nat=>(i:Int)<=q) (fun i=>[(2,.bx 2 0),(3,.bx 3 0),(4,.bx 4 0),(12,.p (i64 q)),(13,.p (i64 i))]) (fun i=>[(2,.box [.p (i64 (GY (0-x,y) i).1),.p (i64 (GY (0-x,y) i).2)]),(3,.box ([bool flip,i64 q,i64 D,i64 I].map .p)),(4,.box [.p (i64 0),.p (i64 0)])]) (fun i=>q.toNat-i) 0 _ (aA.refl _ _) (by show ((0:Nat):Int)<=q;omega) ⟨Z,Z,Z,Z,Z,Y⟩ ⟨Z,Z,Z,Y⟩ fun i hi t h=>?_;have U:=hb i;apply iW<;>intro V
  ·exact⟨wO (by omega),wO (by omega),(i+1),_,aA.refl _ _,by omega,by omega,⟨Z,Z,Z,Z,Z,Y⟩,⟨Z,Z,Z,Y⟩⟩
  have e:i=q.toNat:=by omega
  refine⟨wO (by omega),wO (by omega),?_,trivial⟩;rw[J,<-e];rfl
 have J:jI flip q x y=GY (x,y) q.toNat:=by rw[jI,aa (by simp[N])]
 have hb:=CZ (p:=(x,y)) (b:=100000) ⟨by dsimp only;omega,by dsimp only;omega⟩;refine aP (fun i:Nat=>(i:Int)<=q) (fun i=>[(2,.bx 2 0),(3,.bx 3 0),(4,.bx 4 0),(12,.p (i64 q)),(13,.p (i64 i))]) (fun i=>[(2,.box [.p (i64 (GY (x,y) i).1),.p (i64 (GY (x,y) i).2)]),(3,.box ([bool flip,i64 q,i64 D,i64 I].map .p)),(4,.box [.p (i64 0),.p (i64 0)])]) (fun i=>q.toNat-i) 0 _ (aA.refl _ _) (by show ((0:Nat):Int)<=q;omega) ⟨Z,Z,Z,Z,Z,Y⟩ ⟨Z,Z,Z,Y⟩ fun i hi t h=>?_;have U:=hb i;apply iW<;>intro V
 ·exact⟨wO (by omega),wO (by omega),(i+1),_,aA.refl _ _,by omega,by omega,⟨Z,Z,Z,Z,Z,Y⟩,⟨Z,Z,Z,Y⟩⟩
 have e:i=q.toNat:=by omega
 refine⟨wO (by omega),wO (by omega),?_,trivial⟩;rw[J,<-e];rfl
theorem Sv(p:Part)(s:ByteArray):ai C 70 [.pv (.ag (yV p)),.pv (str s)] (.p (i64 (Lib.compareBytes p.name.data.toList s.data.toList))) []:=by
 refine fW hC Tryz.func70 rfl (by kernel_rfl) fun _=>?_;refine⟨_,_,(gA p.name s),?_,trivial⟩;rfl
theorem O8(l:List Part)(x:ByteArray)(V:cM Part.name l)(hN:l.length<=1000000000):ai C 69 [.pv (.sl (l.map yV)),.pv (str x),.pv (MG 70)] (.tu [i64 (pU Part.name l x),bool (dX Part.name l x)]) []:=by
 refine fW hC Tryz.func69 rfl (by kernel_rfl) fun _=>?_;have lm:=an l yV;refine aP (fun p:Nat×Nat=>p.1<=p.2/\p.2<=l.length/\(∀(k:Nat) y,k<p.1->l[k]?=some y->eG (Part.name y) x=true)/\(∀(k:Nat) y,p.2<=k->l[k]?=some y->eG (Part.name y) x=false)) (fun p=>[(0,.p (.sl (l.map yV))),(1,.p (str x)),(2,.p (MG 70)),(8,.p (i64 l.length)),(9,.p (i64 p.1)),(10,.p (i64 p.2))]) (fun _=>[]) (fun p=>p.2-p.1) (0,l.length) _ (aA.refl _ _) ⟨ak _,aG _,fun k y h=>by omega,fun k y W D=>by have:=(az.1 D).1;simp only at W;omega⟩ ⟨rfl,rfl,rfl,bI (by rw[lm]),rfl,bI (by rw[lm]),trivial⟩ trivial fun ⟨a,b⟩ hi t h=>?_;obtain⟨q1,q2,O,U⟩:=hi;simp only at q1 q2 O U;apply iW<;>intro W<;>try simp only[zB]at W
 ·have N:=qp (a:=a) (b:=b) (by omega);obtain⟨y,J⟩:=ao (l:=l) (i:=(a+b) / 2) (by omega);refine⟨⟨by simp only;omega,by simp only;omega⟩,⟨by decide,by decide⟩,⟨by simp only;rw[N];omega,by simp only;rw[N];omega⟩,(yV y),(idx N J),_,_,(Sv y x),?_⟩;have hc:=sW y.name x;apply iW<;>intro D
  ·have D:eG (Part.name y) x=true:=by rw[<-hc];exact jS D
   refine⟨⟨by simp only;rw[N];omega,by simp only;rw[N];omega⟩,((a+b) / 2+1,b),_,aA.refl _ _,⟨by simp only;omega,q2,fun k z hk I=>?_,U⟩,by simp only;omega,⟨rfl,rfl,rfl,rfl,bI (by simp only;rw[N];omega),Z,Y⟩,trivial⟩;by_cases e:k=(a+b) / 2
   ·subst e;rw[J]at I;injection I with I;subst I;exact D
   exact dK (cx V I J (by simp only at hk;omega)) D
  have D:eG (Part.name y) x=false:=by rw[<-hc];exact aY D
  refine⟨(a,(a+b) / 2),_,aA.refl _ _,⟨by simp only;omega,by simp only;omega,O,fun k z hk I=>?_⟩,by simp only;omega,⟨rfl,rfl,rfl,rfl,rfl,bI N,trivial⟩,trivial⟩;by_cases e:k=(a+b) / 2
  ·subst e;rw[J]at I;injection I with I;subst I;exact D
  rw[cu];intro eX;rw[dK (cx V J I (by simp only at hk;omega)) eX]at D;cases D
 have e:a=b:=by omega
 subst e;have hb:=lJ q2 O U;apply iW<;>intro D<;>try simp only[zB]at D
 ·obtain⟨y,J⟩:=ao (l:=l) (i:=a) (by omega);refine⟨(yV y),(idx rfl J),_,_,(Sv y x),?_,trivial⟩;have hq:=cmp_eq y.name x;have R:dX Part.name l x=decide (Lib.compareBytes y.name.data.toList x.data.toList=0):=by
   by_cases e:y.name=x
   ·rw[jS (hq.2 e)];exact dB.2 ⟨y,aj J,e⟩
   rw[aY (fun h=>e (hq.1 h))];exact uk V O J (U a y (aG _) J) e
  rw[hb,R];rfl
 refine⟨?_,trivial⟩;have R:dX Part.name l x=false:=by
  rw[cu];intro R;obtain⟨z,I,KY⟩:=dB.1 R;obtain⟨k,hk⟩:=ca.1 I;have:=O k z (by have:=(az.1 hk).1;omega) hk;rw[kQ KY]at this;cases this
 rw[hb,R];rfl
def gR(l:List nH)(x:ByteArray):Option (List pY):=(l.find? fun f=>decide (f.type=x)).map nH.spots
def C0(o:Order)(x:ByteArray):ByteArray:=match IP Part.name o.list.parts x with
 | some q=>q.type
 | none=>bC
def rW(o:Order)(p:Place):Bool:=o.list.parts.any fun q=>decide (q.name=p.part)&&(decide (q.type=p.type)&&true)
theorem GZ(o:Order)(x:ByteArray)(D:cM Part.name o.list.parts)(hN:o.list.parts.length<=1000000):ai C 33 [.pv (.ag (A8 o)),.pv (str x)] (.p (str (C0 o x))) []:=by
 refine fW hC Tryz.func33 rfl (by kernel_rfl) fun _=>?_;have hp:=kd (x:=x) D;refine⟨_,_,(O8 o.list.parts x D (by omega)),iW ?_ ?_⟩<;>intro z
 ·refine⟨?_,trivial⟩;have z:dX Part.name o.list.parts x=false:=by simpa using z
  rw[C0,qs z];rfl
 have z:dX Part.name o.list.parts x=true:=by simpa using z
 rw[ae z]at hp;obtain⟨k,q,I,J,e3,N⟩:=nV z;refine⟨(yV q),(idx (hp.symm.trans I) J),?_,trivial⟩;rw[C0,N]
def C1(o:Order)(p:Place):Int:=if p.below=true then (fo o.stack:Int)-1 else 0
def kZ(o:Order)(p:Place)(s:pY):qD:=⟨p.part,s.pin,C1 o p,(jI p.below p.quarters s.x s.y).1+p.x,(jI p.below p.quarters s.x s.y).2+p.y⟩
def fR(o:Order)(p:Place):List qD:=if rW o p=true then ((gR o.feet p.type).getD []).map (kZ o p) else []
def c_(o:Order)(i:Nat):List qD:=(o.places.take i).flatMap (fR o)
def fw(o:Order):List qD:=o.places.flatMap (fR o)
def Sw(l:qD):Bool:=Reg.iZ l.x&&Reg.iZ l.y
def k_(l:List qD)(k:Nat):Int:=match l[k]? with
 | some x=>if 1000<=k then 2 else if Sw x=true then 0 else 1
 | none=>0
def iQ(o:Order):Int:=bw (k_ (fw o)) 0 (fw o).length
structure zn(o:Order):Prop where
 ok:gP o
 parts:cM Part.name o.list.parts/\o.list.parts.length<=1000
 places:∀p∈o.places,¬p.type=bC/\(-1000000<=p.x/\p.x<=1000000)/\(-1000000<=p.y/\p.y<=1000000)/\0<=p.quarters/\p.quarters<=3
 feet:cM nH.type o.feet/\o.feet.length<=200
 spots:∀f∈o.feet,f.spots.length<=200/\∀s∈f.spots,(-100000<=s.x/\s.x<=100000)/\(-100000<=s.y/\s.y<=100000)
 plots:o.plots.length=fo o.stack
theorem G2{l:List Body}(h:eR l=0):∀x∈l,¬x.name=bC:=fun x D e=>by
 unfold eR at h;split at h
 ·cases h
 obtain⟨k,hk⟩:=ca.1 D;have z:=cP h k (ak _) (by rw[bp];exact (az.1 hk).1);simp only[rI,hk]at z;rw[e,aa (by decide)]at z;cases z
theorem Lv{o:Order}(ho:gP o)(h:(fa o).1=0):zn o:=by
 unfold fa at h;split at h
 ·rename_i N;exact absurd h N
 rename_i N;have N:jf o.types o.list=0:=GS.1 N;split at h
 ·rename_i z;exact absurd h z
 split at h
 ·cases h
 rename_i U;split at h
 ·rename_i D;exact absurd h D
 unfold vi at h;split at h
 ·rename_i J;exact absurd h J
 split at h
 ·cases h
 split at h
 ·rename_i O;exact absurd h O
 rename_i O;have O:fO o.bodies o.places=0:=GS.1 O;split at h
 ·rename_i I;exact absurd h I
 rename_i I;have I:gq o.types o.feet=0:=GS.1 I;have hp:=Cd (dp (dp N).2).1;obtain⟨hb,V⟩:=dp O;have W:=G2 hb;refine⟨ho,⟨hp.ord,hp.len⟩,fun p hp=>?_,?_,fun f Y=>?_,GS.1 U⟩
 ·split at V
  ·cases V
  obtain⟨k,hk⟩:=ca.1 hp;have z:=cP V k (ak _) (by rw[bp];exact (az.1 hk).1);simp only[qv,hk]at z;have D:=(dp z).1;unfold sZ at D;split at D
  ·split at D
   ·rename_i Aj;split at D
    ·rename_i R;split at D
     ·rename_i hq;have R:(-1000000<=p.x/\p.x<=1000000)/\(-1000000<=p.y/\p.y<=1000000):=by simpa [Reg.iZ] using R
      obtain⟨y,Z,S8⟩:=dB.1 Aj;exact⟨fun e=>W y Z (S8.trans e),R.1,R.2,cd.1 hq⟩
     cases D
    cases D
   cases D
  cases D
 ·unfold gq at I;split at I
  ·cases I
  refine⟨ke fun i hi=>?_,by omega⟩;have z:=cP I i (ak _) (by omega);obtain⟨f,Y⟩:=ao (l:=o.feet) (i:=i) hi;simp only[kT,Y]at z;split at z
  ·split at z
   ·cases z
   have D:=(dp z).2;cases e:cg (o.feet.map nH.type) i with
   | false=>rfl
   | true=>rw[e]at D;cases D
  cases z
 unfold gq at I;split at I
 ·cases I
 obtain⟨k,hk⟩:=ca.1 Y;have z:=cP I k (ak _) (by rw[bp];exact (az.1 hk).1);simp only[kT,hk]at z;split at z
 ·split at z
  ·cases z
  have D:=(dp z).1;refine⟨by omega,fun s hs=>?_⟩;obtain⟨j,hj⟩:=ca.1 hs;have J:=cP D j (ak _) (by rw[bp];exact (az.1 hj).1);simp only[nI,hj]at J;split at J
  ·split at J
   ·rename_i hx;split at J
    ·rename_i Z;exact⟨cd.1 hx,cd.1 Z⟩
    cases J
   cases J
  cases J
 cases z
theorem G3{o:Order}(N:cM Part.name o.list.parts){p:Place}(hp:¬p.type=bC):decide (C0 o p.part=p.type)=rW o p:=by
 rw[fV,decide_eq_true_iff];unfold C0 rW;rw[ee];cases h:dX Part.name o.list.parts p.part with
 | false=>
  rw[qs h];refine⟨fun e=>absurd e.symm hp,fun ⟨q,O,e⟩=>?_⟩;simp only[qJ,aJ,db]at e;rw[dB.2 ⟨q,O,e.1⟩]at h;cases h
 | true=>
  obtain⟨k,q,e1,I,J,R⟩:=nV h;rw[R];refine⟨fun e=>⟨q,aj I,by simp[J,show q.type=p.type from e]⟩,fun ⟨r,U,e⟩=>?_⟩;simp only[qJ,aJ,db]at e;obtain⟨j,z⟩:=ca.1 U;have:j=k:=by
   rcases il j k with D | D | D
   ·have:=cx N z I D;rw[e.1,J,iH]at this;cases this
   ·exact D
   have:=cx N I z D;rw[e.1,J,iH]at this;cases this
  subst this;rw[I]at z;injection z with z;exact (af Part.type z).trans e.2
theorem Lw{l:List nH}(J:cM nH.type l){i:Nat}{f:nH}(I:l[i]?=some f)(x:ByteArray):gR (l.take (i+1)) x=if x=f.type then some f.spots else gR (l.take i) x:=by
 unfold gR;rw[bq I,List.find?_append];by_cases e:x=f.type
 ·rw[ae e];have N:(l.take i).find? (fun g=>decide (g.type=x))=none:=by
   rw[List.find?_eq_none];intro z O;obtain⟨j,D⟩:=ca.1 O;rw[dM]at D;split at D
   ·have:=cx J D I (by assumption);simp only[db];intro R;rw[R,e,iH]at this;cases this
   cases D
  rw[N];simp[e]
 rw[aa e];have:([f].find? fun g=>decide (g.type=x))=none:=by
  simp;exact fun h=>e h.symm
 rw[this];cases (l.take i).find? fun g=>decide (g.type=x)<;>rfl
theorem EW{o:Order}(z:zn o){x:ByteArray}:((gR o.feet x).getD []).length<=200/\∀s∈(gR o.feet x).getD [],(-100000<=s.x/\s.x<=100000)/\(-100000<=s.y/\s.y<=100000):=by
 unfold gR;cases h:o.feet.find? fun f=>decide (f.type=x) with
 | none=>exact⟨by simp,fun s D=>by simp at D⟩
 | some f=>exact z.spots f (Bi h)
theorem xW{o:Order}{i:Nat}{p:Place}(hp:o.places[i]?=some p):c_ o (i+1)=c_ o i++fR o p:=by
 unfold c_;rw[bq hp,wS];simp
variable {j:Nat}
theorem Nd{o:Order}{i:Nat}{p:Place}(hp:o.places[i]?=some p){x:qD}(z:(fR o p)[j]?=some x):(fw o)[(c_ o i).length+j]?=some x:=by
 have e:fw o=c_ o (i+1)++(o.places.drop (i+1)).flatMap (fR o):=by
  unfold fw c_;rw[<-wS,o6]
 have D:=(az.1 z).1;rw[e,xW hp,d_,du (by omega),Fs,dN D,z]
theorem z_{o:Order}:c_ o o.places.length=fw o:=by
 unfold c_ fw;rw[jR]
def zo(o:Order):PV:=.sl (if iQ o=0 then (fw o).map UM else [])
theorem uJ{o:Order}{c:Int}(h:iQ o=c)(z:c≠0):zo o=.sl []:=by rw[zo,aa (by rw[h];exact z)]
theorem O9{o:Order}{p:Place}(h:rW o p=false):fR o p=[]:=by rw[fR,h];rfl
theorem C2{o:Order}{p:Place}(h:rW o p=true){l:List pY}(hl:gR o.feet p.type=some l){s:pY}(z:l[j]?=some s):(fR o p)[j]?=some (kZ o p s):=by
 rw[fR,ae h,hl,tF,aD,z];rfl
theorem C3{o:Order}{p:Place}(h:rW o p=true){l:List pY}(hl:gR o.feet p.type=some l):(fR o p).length=l.length:=by
 rw[fR,ae h,hl,tF,au]
theorem Aa{o:Order}{p:Place}(hl:gR o.feet p.type=none):fR o p=[]:=by
 unfold fR;rw[hl];split<;>rfl
variable {k:Nat}
theorem C4{o:Order}{x:qD}(D:∀m,m<k->k_ (fw o) m=0)(z:(fw o)[k]?=some x)(h:1000<=k):iQ o=2:=
 aM D (az.1 z).1 (by simp only[k_,z];rw[ae h]) (by decide)
theorem C5{o:Order}{x:qD}(D:∀m,m<k->k_ (fw o) m=0)(z:(fw o)[k]?=some x)(h:¬1000<=k)(hp:Sw x=false):iQ o=1:=
 aM D (az.1 z).1 (by simp only[k_,z];rw[aa h,aa (by rw[hp];decide)]) (by decide)
theorem Nf{o:Order}{x:qD}(z:(fw o)[k]?=some x)(h:¬1000<=k)(hp:Sw x=true):k_ (fw o) k=0:=by
 simp only[k_,z];rw[aa h,ae hp]
theorem EX{o:Order}{p:Place}{x:qD}(z:(fR o p)[j]?=some x):(fR o p).take (j+1)=(fR o p).take j++[x]:=bq z
theorem Jn(o:Order)(J:zn o):ai C 17 [.pv (.ag (A8 o))] (.tu [zo o,.ag (Lc uI (iQ o))]) []:=by
 refine fW hC Tryz.func17 rfl (by kernel_rfl) fun _=>?_;have lm:=an o.feet OD;have lp:=an o.places EG;have hfl:=J.feet.2;have qH:=J.ok.places.1;have Qi:=J.ok.stack.1;have hnl:=s5 o.stack;have VR:=J.parts.2;have XM:=eC uI 2;rw[iP (by decide)]at XM;have G4:=eC uI 1;rw[iP (by decide)]at G4;refine aP (fun x:Nat×List (Value×PV)=>x.1<=o.feet.length/\∀n,gz x.2 (.string n)=(gR (o.feet.take x.1) n).map fun l=>PV.sl (l.map rJ)) (fun x=>[(1,.bx 1 0),(3,.bx 3 0),(4,.ow 13),(15,.p (.sl (o.feet.map OD))),(16,.p (i64 o.feet.length)),(17,.p (i64 x.1))]) (fun x=>[(1,.box ((A8 o).map .p)),(3,.box [.p (i64 0),.p (str bC)]),(13,.map .str x.2)]) (fun x=>o.feet.length-x.1) (0,[]) _ (aA.refl _ _) ⟨ak _,fun n=>rfl⟩ ⟨rfl,rfl,rfl,rfl,af (fun n:Nat=>AV.p (i64 n)) lm,Z,Y⟩ ⟨Z,Z,Z,Y⟩ fun ⟨i,es⟩ hi t h=>?_;obtain⟨q1,q2⟩:=hi;simp only at q1 q2;apply iW<;>intro h1<;>try simp only[zB]at h1
 ·obtain⟨f,hf⟩:=ao (l:=o.feet) (i:=i) (by omega);refine⟨(OD f),(idx rfl hf),⟨by dsimp only;omega,by dsimp only;omega⟩,(i+1,iS es (.string f.type) (.sl (f.spots.map rJ))),_,aA.refl _ _,⟨by dsimp only;omega,fun n=>?_⟩,by dsimp only;omega,⟨Z,Z,Z,Z,Z,Z,Y⟩,⟨Z,Z,Z,Y⟩⟩;dsimp only;rw[ug,Lw J.feet.1 hf,q2 n];split<;>rfl
 have q2:∀n,gz es (.string n)=(gR o.feet n).map fun l=>PV.sl (l.map rJ):=fun n=>by rw[q2 n,cK (by omega)]
 refine aP (fun i:Nat=>i<=o.places.length/\(∀k,k<(c_ o i).length->k_ (fw o) k=0)/\(c_ o i).length<=1000) (fun i=>[(1,.bx 1 0),(3,.bx 3 0),(4,.ow 13),(7,.ow 7),(28,.p (.sl (o.places.map EG))),(29,.p (i64 o.places.length)),(30,.p (i64 i))]) (fun i=>[(1,.box ((A8 o).map .p)),(3,.box [.p (i64 0),.p (str bC)]),(13,.map .str es),(7,.row 113 ((c_ o i).map UM))]) (fun i=>o.places.length-i) 0 _ (aA.eK hC _ 7 113 _ (by decide) rfl rfl (by decide)) ⟨ak _,fun k hk=>by simp[c_]at hk,by simp[c_]⟩ ⟨rfl,rfl,rfl,rfl,rfl,af (fun n:Nat=>AV.p (i64 n)) lp,Z,Y⟩ ⟨Z,Z,Z,Z,Y⟩ fun i hi t h=>?_;obtain⟨q3,W,q5⟩:=hi;apply iW<;>intro h2
 ·obtain⟨p,hp⟩:=ao (l:=o.places) (i:=i) (by omega);obtain⟨p1,p2,p3,p4,p5⟩:=J.places p (aj hp);have N:=G3 J.parts.1 p1;have z:=xW hp;refine⟨(EG p),(idx rfl hp),_,_,(GZ o p.part J.parts.1 (by omega)),iW ?_ ?_⟩<;>intro h3
  ·have h3:¬C0 o p.part=p.type:=h3;rw[aY h3]at N;rw[O9 N.symm,dP]at z;exact⟨wO (by omega),(i+1),_,aA.refl _ _,⟨by omega,by rw[z];exact W,by rw[z];exact q5⟩,by omega,⟨Z,Z,Z,Z,Z,Z,Z,Y⟩,⟨rfl,rfl,rfl,by rw[z];rfl,trivial⟩⟩
  have h3:C0 o p.part=p.type:=by simpa using h3
  rw[jS h3]at N;have XN:rW o p=true:=N.symm;have q:=q2 p.type;apply iW<;>intro h4
  ·have XO:C1 o p=(fo o.stack:Int)-1:=by rw[C1,ae h4]
   refine⟨_,_,(pZ o Qi),wO (by omega),?_⟩;cases hS:gR o.feet p.type with
   | none=>
    rw[hS]at q;rw[Aa hS,dP]at z;refine⟨none,q,?_⟩;refine aP (fun j:Nat=>j=0) (fun j=>[(1,.bx 1 0),(3,.bx 3 0),(4,.ow 13),(7,.ow 7),(28,.p (.sl (o.places.map EG))),(29,.p (i64 o.places.length)),(30,.p (i64 i)),(54,.p (i64 0)),(55,.p (i64 j))]) (fun _=>[(1,.box ((A8 o).map .p)),(3,.box [.p (i64 0),.p (str bC)]),(13,.map .str es),(7,.row 113 ((c_ o i).map UM))]) (fun j=>0) 0 _ (aA.refl _ _) rfl ⟨Z,Z,Z,Z,Z,Z,Z,Z,Z,Y⟩ ⟨Z,Z,Z,Z,Y⟩ fun j hj t h=>?_;exact⟨wO (by omega),(i+1),_,aA.refl _ _,⟨by omega,by rw[z];exact W,by rw[z];exact q5⟩,by omega,⟨Z,Z,Z,Z,Z,Z,Z,Y⟩,⟨rfl,rfl,rfl,by rw[z];rfl,trivial⟩⟩
   | some l=>
    rw[hS]at q;have SY:=EW J (x:=p.type);rw[hS,tF]at SY;have ls:=an l rJ;have hlen:=C3 XN hS;refine⟨(some (.sl (l.map rJ))),q,?_⟩;refine aP (fun x:Nat×ByteArray×Int×Int=>x.1<=l.length/\(∀k,k<(c_ o i).length+x.1->k_ (fw o) k=0)/\(c_ o i).length+x.1<=1000) (fun x=>[(1,.bx 1 0),(3,.bx 3 0),(4,.ow 13),(7,.ow 7),(28,.p (.sl (o.places.map EG))),(29,.p (i64 o.places.length)),(30,.p (i64 i)),(9,.bx 9 0),(10,.bx 10 0),(53,.p (.sl (l.map rJ))),(54,.p (i64 l.length)),(55,.p (i64 x.1))]) (fun x=>[(1,.box ((A8 o).map .p)),(3,.box [.p (i64 0),.p (str bC)]),(13,.map .str es),(7,.row 113 ((c_ o i++(fR o p).take x.1).map UM)),(9,.box ((EG p).map .p)),(10,.box [.p (str p.part),.p (str x.2.1),.p (i64 ((fo o.stack:Int)-1)),.p (i64 x.2.2.1),.p (i64 x.2.2.2)])]) (fun x=>l.length-x.1) (0,bC,0,0) _ (aA.refl _ _) ⟨ak _,W,q5⟩ ⟨rfl,rfl,rfl,rfl,rfl,rfl,rfl,rfl,rfl,rfl,af (fun n:Nat=>AV.p (i64 n)) ls,Z,Y⟩ ⟨rfl,rfl,rfl,by rw[M8,dP];rfl,Z,Z,Y⟩ fun ⟨j,pin,x,y⟩ hj t h=>?_;obtain⟨r1,D,O⟩:=hj;simp only at r1 D O;apply iW<;>intro j1<;>try simp only[zB]at j1
    all_goals try dsimp only at j1
    ·obtain⟨s,R⟩:=ao (l:=l) (i:=j) (by omega);obtain⟨s1,s2⟩:=SY.2 s (aj R);have vv:=C2 XN hS R;have U:=Nd hp vv;have aw:((c_ o i++(fR o p).take j).map UM).length=(c_ o i).length+j:=by
      rw[au,bJ,cE];omega
     have gj:=Nc (flip:=p.below) (q:=p.quarters) s1 s2;have YN:=EX vv;refine⟨(rJ s),(idx rfl R),_,_,(sn p.below p.quarters s.x s.y p.x p.y s1 s2 ⟨p4,p5⟩ p2 p3),iW ?_ ?_⟩<;>intro j2<;>try simp only[zB]at j2
     all_goals try dsimp only at j2
     ·have e2:iQ o=2:=C4 D U (by omega);refine⟨_,_,XM,?_,trivial⟩;rw[uJ e2 (by decide),e2];rfl
     refine⟨_,_,(dR ((jI p.below p.quarters s.x s.y).1+p.x) ((jI p.below p.quarters s.x s.y).2+p.y)),iW ?_ ?_⟩<;>intro I
     ·have I:Sw (kZ o p s)=false:=by simpa [Sw,kZ] using I
      have e1:iQ o=1:=C5 D U (by omega) I;refine⟨_,_,G4,?_,trivial⟩;rw[uJ e1 (by decide),e1];rfl
     have I:Sw (kZ o p s)=true:=by simpa [Sw,kZ] using I
     have V:=Nf U (by omega) I;exact⟨⟨by simp,by dsimp only;rw[aw];simp;omega,by dsimp only;rw[aw];simp;omega⟩,⟨by first | omega | (dsimp only;omega),by first | omega | (dsimp only;omega)⟩,(j+1,s.pin,(jI p.below p.quarters s.x s.y).1+p.x,(jI p.below p.quarters s.x s.y).2+p.y),_,aA.refl _ _,⟨by dsimp only;omega,fun k hk=>eQ (i:=(c_ o i).length+j) D V k (by dsimp only at hk;omega),by dsimp only;omega⟩,by dsimp only;omega,⟨Z,Z,Z,Z,Z,Z,Z,Z,Z,Z,Z,Z,Y⟩,⟨rfl,rfl,rfl,by dsimp only;rw[YN,<-List.append_assoc,List.map_append (l₂:=[kZ o p s])];unfold kZ;rw[XO];rfl,Z,Z,Y⟩⟩
    have ej:j=l.length:=by omega
    rw[ej,<-hlen]at D O;exact⟨wO (by omega),(i+1),_,aA.refl _ _,⟨by omega,by rw[z,List.length_append];exact D,by rw[z,List.length_append];exact O⟩,by omega,⟨Z,Z,Z,Z,Z,Z,Z,Y⟩,⟨rfl,rfl,rfl,by dsimp only;rw[z,ej,<-hlen,List.take_length];rfl,trivial⟩⟩
  have XO:C1 o p=0:=by rw[C1,aa (by simp[h4])]
  cases hS:gR o.feet p.type with
  | none=>
   rw[hS]at q;rw[Aa hS,dP]at z;refine⟨none,q,?_⟩;refine aP (fun j:Nat=>j=0) (fun j=>[(1,.bx 1 0),(3,.bx 3 0),(4,.ow 13),(7,.ow 7),(28,.p (.sl (o.places.map EG))),(29,.p (i64 o.places.length)),(30,.p (i64 i)),(54,.p (i64 0)),(55,.p (i64 j))]) (fun _=>[(1,.box ((A8 o).map .p)),(3,.box [.p (i64 0),.p (str bC)]),(13,.map .str es),(7,.row 113 ((c_ o i).map UM))]) (fun j=>0) 0 _ (aA.refl _ _) rfl ⟨Z,Z,Z,Z,Z,Z,Z,Z,Z,Y⟩ ⟨Z,Z,Z,Z,Y⟩ fun j hj t h=>?_;exact⟨wO (by omega),(i+1),_,aA.refl _ _,⟨by omega,by rw[z];exact W,by rw[z];exact q5⟩,by omega,⟨Z,Z,Z,Z,Z,Z,Z,Y⟩,⟨rfl,rfl,rfl,by rw[z];rfl,trivial⟩⟩
  | some l=>
   rw[hS]at q;have SY:=EW J (x:=p.type);rw[hS,tF]at SY;have ls:=an l rJ;have hlen:=C3 XN hS;refine⟨(some (.sl (l.map rJ))),q,?_⟩;refine aP (fun x:Nat×ByteArray×Int×Int=>x.1<=l.length/\(∀k,k<(c_ o i).length+x.1->k_ (fw o) k=0)/\(c_ o i).length+x.1<=1000) (fun x=>[(1,.bx 1 0),(3,.bx 3 0),(4,.ow 13),(7,.ow 7),(28,.p (.sl (o.places.map EG))),(29,.p (i64 o.places.length)),(30,.p (i64 i)),(9,.bx 9 0),(10,.bx 10 0),(53,.p (.sl (l.map rJ))),(54,.p (i64 l.length)),(55,.p (i64 x.1))]) (fun x=>[(1,.box ((A8 o).map .p)),(3,.box [.p (i64 0),.p (str bC)]),(13,.map .str es),(7,.row 113 ((c_ o i++(fR o p).take x.1).map UM)),(9,.box ((EG p).map .p)),(10,.box [.p (str p.part),.p (str x.2.1),.p (i64 (0)),.p (i64 x.2.2.1),.p (i64 x.2.2.2)])]) (fun x=>l.length-x.1) (0,bC,0,0) _ (aA.refl _ _) ⟨ak _,W,q5⟩ ⟨rfl,rfl,rfl,rfl,rfl,rfl,rfl,rfl,rfl,rfl,af (fun n:Nat=>AV.p (i64 n)) ls,Z,Y⟩ ⟨rfl,rfl,rfl,by rw[M8,dP];rfl,Z,Z,Y⟩ fun ⟨j,pin,x,y⟩ hj t h=>?_;obtain⟨r1,D,O⟩:=hj;simp only at r1 D O;apply iW<;>intro j1<;>try simp only[zB]at j1
   all_goals try dsimp only at j1
   ·obtain⟨s,R⟩:=ao (l:=l) (i:=j) (by omega);obtain⟨s1,s2⟩:=SY.2 s (aj R);have vv:=C2 XN hS R;have U:=Nd hp vv;have aw:((c_ o i++(fR o p).take j).map UM).length=(c_ o i).length+j:=by
     rw[au,bJ,cE];omega
    have gj:=Nc (flip:=p.below) (q:=p.quarters) s1 s2;have YN:=EX vv;refine⟨(rJ s),(idx rfl R),_,_,(sn p.below p.quarters s.x s.y p.x p.y s1 s2 ⟨p4,p5⟩ p2 p3),iW ?_ ?_⟩<;>intro j2<;>try simp only[zB]at j2
    all_goals try dsimp only at j2
    ·have e2:iQ o=2:=C4 D U (by omega);refine⟨_,_,XM,?_,trivial⟩;rw[uJ e2 (by decide),e2];rfl
    refine⟨_,_,(dR ((jI p.below p.quarters s.x s.y).1+p.x) ((jI p.below p.quarters s.x s.y).2+p.y)),iW ?_ ?_⟩<;>intro I
    ·have I:Sw (kZ o p s)=false:=by simpa [Sw,kZ] using I
     have e1:iQ o=1:=C5 D U (by omega) I;refine⟨_,_,G4,?_,trivial⟩;rw[uJ e1 (by decide),e1];rfl
    have I:Sw (kZ o p s)=true:=by simpa [Sw,kZ] using I
    have V:=Nf U (by omega) I;exact⟨⟨by simp,by dsimp only;rw[aw];simp;omega,by dsimp only;rw[aw];simp;omega⟩,⟨by first | omega | (dsimp only;omega),by first | omega | (dsimp only;omega)⟩,(j+1,s.pin,(jI p.below p.quarters s.x s.y).1+p.x,(jI p.below p.quarters s.x s.y).2+p.y),_,aA.refl _ _,⟨by dsimp only;omega,fun k hk=>eQ (i:=(c_ o i).length+j) D V k (by dsimp only at hk;omega),by dsimp only;omega⟩,by dsimp only;omega,⟨Z,Z,Z,Z,Z,Z,Z,Z,Z,Z,Z,Z,Y⟩,⟨rfl,rfl,rfl,by dsimp only;rw[YN,<-List.append_assoc,List.map_append (l₂:=[kZ o p s])];unfold kZ;rw[XO];rfl,Z,Z,Y⟩⟩
   have ej:j=l.length:=by omega
   rw[ej,<-hlen]at D O;exact⟨wO (by omega),(i+1),_,aA.refl _ _,⟨by omega,by rw[z,List.length_append];exact D,by rw[z,List.length_append];exact O⟩,by omega,⟨Z,Z,Z,Z,Z,Z,Z,Y⟩,⟨rfl,rfl,rfl,by dsimp only;rw[z,ej,<-hlen,List.take_length];rfl,trivial⟩⟩
 have e:i=o.places.length:=by omega
 have z0:iQ o=0:=bR fun k _ hk=>W k (by rw[e,z_];omega);refine⟨?_,trivial⟩;rw[zo,z0,ae rfl,e,z_];rfl
end M
end Go.Proofs.YtihgjolmpjjblaaGreatDoor
