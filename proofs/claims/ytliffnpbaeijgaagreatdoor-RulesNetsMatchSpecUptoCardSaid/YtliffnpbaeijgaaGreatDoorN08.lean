/- Part 8 of the proof of RulesNetsMatchSpec. -/
import Derived.Test.YtliffnpbaeijgaaGreatDoorN07
set_option linter.unusedVariables false
set_option linter.unusedSimpArgs false
set_option maxRecDepth 100000
set_option maxHeartbeats 8000000
namespace Go
abbrev nL:=@List.length_pos_of_mem
abbrev rR:=@List.nodup_iff_pairwise_ne
abbrev MV:=@List.map_eq_nil_iff
abbrev GF:=@List.singleton_append
end Go
namespace Go.Proofs.YtliffnpbaeijgaaGreatDoor
namespace M
open Go.AM Go.RowKit Go.Lib
open Reg (UF ig cV iota kU kW CT vQ meets vg ET Jg iO dF gy aR aB told cH cm)
theorem getD_at{l:List aB}{i:Nat}{r:aB}(h:l[i]?=some r):l.getD i kW=r:=by rw[dc,h];rfl
def tc(s:List aR)(k:Nat):Option aR:=if k=0 then none else s[k-1]?
theorem prev_next{s:List aR}{k:Nat}{b:aR}(h:s[k]?=some b):tc s (k+1)=some b:=by rw[tc,aa (by omega)];exact h
theorem OZ(b:aR)(s:List aR):(told (b::s)).length=b.xs.length+(told s).length:=by simp[told]
theorem O0(l:Reg.cw):((((flat l).map fun n=>[i64 n]).length:Nat):Int).tdiv 2=(l.length:Nat):=by
 rw[E5,fK,F0 (by omega)];omega
theorem Jh(s:List aR)(hs:dF s)(ks:gy 1400000 s)(hN:(told s).length<=1000000000):ai C 98 [.pv (a_ s)] (.own 158 ((iO s).map fun p=>[a_ p])) []:=by
 have ls:=Reg.eW hs (by omega) ks;have lx:=Reg.rP hs (by omega) ks;have lt:=Reg.aav hs ks;have ms:=an s hb;obtain⟨N,hNe⟩:∃N,N=(told s).length:=⟨_,rfl⟩;have la:=an (told s) rc;refine FP ⟨[19,36],[],[(36,[17,1000017,19,1000019,136])],[36],[],[]⟩ hC Tryz.func98 rfl (by kernel_rfl) fun _=>?_;refine⟨_,_,(rz s (by omega) (fun t ht=>by have:=lx t ht;omega) lt),⟨by omega,by omega,by dsimp only;omega,by omega⟩,?_⟩;refine aP (fun i:Nat=>i<=N) (fun i=>[(0,.p (a_ s)),(3,.p (aE (told s))),(4,.bx 4 0),(32,.p (i64 N)),(33,.p (i64 i))]) (fun i=>[(4,.box [.ow 30]),(30,.row 3 (aK (vP N i)))]) (fun i=>N-i) 0 _ (aA.own (by exact hC) _ 3 (id:=3) (by exact rfl) (by exact rfl)) (ak _) ⟨rfl,rfl,rfl,ar (fun m:Nat=>AV.p (i64 m)) (by rw[hNe];simp),Z,Y⟩ ⟨rfl,by rw[ER,hNe,<-la];rfl,trivial⟩ fun i hi t h=>?_;have lv:=cA (vP N i);have lu:=CP N i;apply iW<;>intro h1
 ·exact⟨⟨by omega,by rw[lv];omega⟩,[i64 0],(da (Jd (by omega))),wO (by omega),(i+1),_,aA.refl _ _,by omega,by omega,⟨Z,Z,Z,Z,Z,Y⟩,⟨rfl,ar (AB.row _) ((gQ _ _ _).trans (by rw[FY,Jf (by omega)])),trivial⟩⟩
 have e:i=N:=by omega
 subst e;rw[Je];obtain⟨U,hU⟩:∃U,U=ET s:=⟨_,rfl⟩;obtain⟨all,jz⟩:∃all,all=told s:=⟨_,rfl⟩;have hU':vg all none s (iota i) 0 0=U:=by rw[hU,hNe,jz];rfl
 have hNa:all.length=i:=by rw[hNe,jz]
 rw[<-jz]at la ⊢;refine aP (fun x:Nat×List Int×Nat×Nat=>vg all (tc s x.1) (s.drop x.1) x.2.1 x.2.2.1 x.2.2.2=U/\UF x.2.1/\x.2.1.length=i/\x.2.2.1+(told (s.drop x.1)).length=i/\x.2.2.2<=x.2.2.1/\x.1<=s.length) (fun x=>[(0,.p (a_ s)),(3,.p (aE all)),(4,.bx 4 0),(6,.fn 158 [.bx 4 0]),(7,.p (i64 x.2.2.1)),(8,.p (i64 x.2.2.2)),(42,.p (a_ s)),(43,.p (i64 s.length)),(44,.p (i64 x.1))]) (fun x=>[(4,.aU [.row 3 (aK x.2.1)])]) (fun x=>s.length-x.1) (0,iota i,0,0) _ (aA.pack (by exact hC) _ 4 (cs:=[.row 3 (aK (iota i))]) (by exact rfl) (by exact rfl) (by exact⟨Z,Y⟩)) ⟨hU',Reg.Bf _,Reg.qz _,by simp only[List.drop_zero,fX];rw[hNe],aG _,ak _⟩ ⟨rfl,rfl,rfl,rfl,rfl,rfl,rfl,ar (fun m:Nat=>AV.p (i64 m)) ms,Z,Y⟩ ⟨Z,Y⟩ fun ⟨k,u,f,g⟩ W t h=>?_;obtain⟨L,c2,c3,c4,c5,c6⟩:=W;simp only at L c2 c3 c4 c5 c6;apply iW<;>intro g1<;>try simp only[zB]at g1
 ·obtain⟨b,hbk⟩:=ax (l:=s) (i:=k) (by omega);rw[drop_at hbk]at L c4;rw[OZ]at c4;rw[vg,<-prev_next hbk]at L;have hf:=O0 b.xs;have lf:((flat b.xs).map fun n=>[i64 n]).length=2*b.xs.length:=by rw[E5,fK]
  refine⟨(hb b),(idx rfl hbk),by decide,⟨by rw[hf];omega,by rw[hf];omega⟩,?_⟩;have skip:Reg.meets (tc s k) b=false->vg all (tc s (k+1)) (s.drop (k+1)) u (f+b.xs.length) f=U:=fun hm=>by
   rw[hm]at L;exact L
  apply iW<;>intro g2<;>try simp only[zB]at g2
  ·obtain⟨q,hq⟩:=ax (l:=s) (i:=k-1) (by omega);have hpv:tc s k=some q:=by rw[tc,aa (by omega)];exact hq
   refine⟨wO (by omega),(hb q),(idx (show (k:Int)-1=((k-1:Nat):Int) by omega) hq),iW ?_ ?_⟩<;>intro g3
   ·have hm:Reg.meets (tc s k) b=true:=by rw[hpv];simpa [Reg.meets] using g3
    rw[hm,ae rfl]at L;refine aP (fun y:Nat×List Int×Nat×Nat=>vQ all f (f+b.xs.length) y.1 y.2.1 y.2.2.1 y.2.2.2=vQ all f (f+b.xs.length) (f-g+b.xs.length) u g f/\UF y.2.1/\y.2.1.length=i/\(f-y.2.2.1)+(f+b.xs.length-y.2.2.2)<=y.1/\y.2.2.1<=f/\y.2.2.2<=f+b.xs.length) (fun y=>[(0,.p (a_ s)),(3,.p (aE all)),(4,.bx 4 0),(6,.fn 158 [.bx 4 0]),(7,.p (i64 f)),(8,.p (i64 g)),(42,.p (a_ s)),(43,.p (i64 s.length)),(44,.p (i64 k)),(11,.p (i64 b.xs.length)),(12,.p (i64 y.2.2.1)),(13,.p (i64 y.2.2.2))]) (fun y=>[(4,.aU [.row 3 (aK y.2.1)])]) (fun y=>(f-y.2.2.1)+(f+b.xs.length-y.2.2.2)) (f-g+b.xs.length,u,g,f) _ (aA.refl _ _) ⟨rfl,c2,c3,by simp only;omega,by simp only;omega,by simp only;omega⟩ ⟨rfl,rfl,rfl,rfl,rfl,rfl,rfl,rfl,rfl,by rw[<-hf];rfl,Z,Z,Y⟩ ⟨Z,Y⟩ fun ⟨n,v,p,D⟩ hy t h=>?_;obtain⟨z1,z2,z3,z4,z5,z6⟩:=hy;simp only at z1 z2 z3 z4 z5 z6;have stop:¬(p<f/\D < f+b.xs.length)->v=vQ all f (f+b.xs.length) (f-g+b.xs.length) u g f:=fun O=>by
     rw[<-z1];cases n with
     | zero=>rfl
     | succ n=>rw[vQ,aa O]
    apply iW<;>intro e1<;>try simp only[zB]at e1
    ·refine⟨wO (by omega),iW ?_ ?_⟩<;>intro e2<;>try simp only[zB]at e2
     ·obtain⟨n,rfl⟩:∃n',n=n'+1:=⟨n-1,by omega⟩;rw[vQ,ae (by omega)]at z1;obtain⟨x,W⟩:=ax (l:=all) (i:=p) (by omega);obtain⟨y,hy⟩:=ax (l:=all) (i:=D) (by omega);rw[getD_at W,getD_at hy]at z1;have PC:∀(w:List Int),(if CT x y=true then kU v p D else v)=w->(x.x1<y.x1->vQ all f (f+b.xs.length) n w (p+1) D=vQ all f (f+b.xs.length) (f-g+b.xs.length) u g f)/\(¬x.x1<y.x1->vQ all f (f+b.xs.length) n w p (D+1)=vQ all f (f+b.xs.length) (f-g+b.xs.length) u g f):=fun w hw=>by
       rw[hw]at z1;exact⟨fun O=>by rw[ae O,ae O]at z1;exact z1,fun O=>by rw[aa O,aa O]at z1;exact z1⟩
      refine⟨(rc x),(idx rfl W),(rc y),(idx rfl hy),iW ?_ ?_⟩<;>intro e3
      ·refine⟨(rc y),(idx rfl hy),(rc x),(idx rfl W),iW ?_ ?_⟩<;>intro e4
       ·have PC:=PC _ (ae (by simp only[CT,aJ,fV];exact⟨e3,e4⟩));have a:=Reg.ji p v p z2 (by omega) (aG _);have b':=Reg.ji D (cV p v p).1 D a.uf (by rw[a.len];omega) (aG _);have ra:=(az.1 ((b'.same _ _).2 ((a.same _ _).2 a.root)).top).1;have rb:=(az.1 ((b'.same _ _).2 b'.root).top).1;have Ja:((max ((cV p v p).2:Int) ((cV D (cV p v p).1 D).2:Int))).toNat=max (cV p v p).2 (cV D (cV p v p).1 D).2:=by omega
        have lv:=cA (cV D (cV p v p).1 D).1;obtain⟨ju,jl⟩:=Reg.xR z2 (i:=p) (k:=D) (by omega) (by omega);refine⟨_,_,(zk v z2 p (by omega)),_,_,(zk (cV p v p).1 a.uf D (by rw[a.len];omega)),?_⟩;refine abA (aA.open (by exact hC) _ 4 [30] (by exact rfl) rfl rfl rfl) ?_;obtain⟨z,hz⟩:∃z,(cV D (cV p v p).1 D).1[max (cV p v p).2 (cV D (cV p v p).1 D).2]?=some z:=⟨_,oX (by omega)⟩;refine⟨⟨by omega,by rw[lv];omega⟩,[i64 z],(by rw[Ja];exact da hz),?_⟩;have qh:∀(m:Nat) (c:Int),m=max (cV p v p).2 (cV D (cV p v p).1 D).2->c=min ((cV p v p).2:Int) ((cV D (cV p v p).1 D).2:Int)->AB.row 3 ((aK (cV D (cV p v p).1 D).1).set m [i64 c])=AB.row 3 (aK (kU v p D)):=fun m c e1 e2=>by
         subst e1;subst e2;rw[gQ,kU];congr 3;omega
        refine⟨(rc x),(idx rfl W),(rc y),(idx rfl hy),iW ?_ ?_⟩<;>intro e5
        ·have R:=PC.1 e5;exact⟨⟨by dsimp only;omega,by dsimp only;omega⟩,(n,kU v p D,p+1,D),_,aA.pack (by exact hC) _ 4 (cs:=[.row 3 (aK (kU v p D))]) (by exact rfl) (by exact rfl) (by exact⟨qh _ _ Ja rfl,trivial⟩),⟨R,ju,jl.trans z3,by simp only;omega,by simp only;omega,by simp only;omega⟩,by simp only;omega,⟨Z,Z,Z,Z,Z,Z,Z,Z,Z,Z,Z,Z,Y⟩,⟨Z,Y⟩⟩
        have R:=PC.2 e5;exact⟨⟨by dsimp only;omega,by dsimp only;omega⟩,(n,kU v p D,p,D+1),_,aA.pack (by exact hC) _ 4 (cs:=[.row 3 (aK (kU v p D))]) (by exact rfl) (by exact rfl) (by exact⟨qh _ _ Ja rfl,trivial⟩),⟨R,ju,jl.trans z3,by simp only;omega,by simp only;omega,by simp only;omega⟩,by simp only;omega,⟨Z,Z,Z,Z,Z,Z,Z,Z,Z,Z,Z,Z,Y⟩,⟨Z,Y⟩⟩
       have PC:=PC _ (aa (by simp only[CT,aJ,fV];exact fun O=>e4 O.2));refine⟨(rc x),(idx rfl W),(rc y),(idx rfl hy),iW ?_ ?_⟩<;>intro e5
       ·have R:=PC.1 e5;exact⟨⟨by dsimp only;omega,by dsimp only;omega⟩,(n,v,p+1,D),_,aA.refl _ _,⟨R,z2,z3,by simp only;omega,by simp only;omega,by simp only;omega⟩,by simp only;omega,⟨Z,Z,Z,Z,Z,Z,Z,Z,Z,Z,Z,Z,Y⟩,⟨Z,Y⟩⟩
       have R:=PC.2 e5;exact⟨⟨by dsimp only;omega,by dsimp only;omega⟩,(n,v,p,D+1),_,aA.refl _ _,⟨R,z2,z3,by simp only;omega,by simp only;omega,by simp only;omega⟩,by simp only;omega,⟨Z,Z,Z,Z,Z,Z,Z,Z,Z,Z,Z,Z,Y⟩,⟨Z,Y⟩⟩
      have PC:=PC _ (aa (by simp only[CT,aJ,fV];exact fun O=>e3 O.1));refine⟨(rc x),(idx rfl W),(rc y),(idx rfl hy),iW ?_ ?_⟩<;>intro e5
      ·have R:=PC.1 e5;exact⟨⟨by dsimp only;omega,by dsimp only;omega⟩,(n,v,p+1,D),_,aA.refl _ _,⟨R,z2,z3,by simp only;omega,by simp only;omega,by simp only;omega⟩,by simp only;omega,⟨Z,Z,Z,Z,Z,Z,Z,Z,Z,Z,Z,Z,Y⟩,⟨Z,Y⟩⟩
      have R:=PC.2 e5;exact⟨⟨by dsimp only;omega,by dsimp only;omega⟩,(n,v,p,D+1),_,aA.refl _ _,⟨R,z2,z3,by simp only;omega,by simp only;omega,by simp only;omega⟩,by simp only;omega,⟨Z,Z,Z,Z,Z,Z,Z,Z,Z,Z,Z,Z,Y⟩,⟨Z,Y⟩⟩
     have st:=stop (by omega);exact⟨wO (by omega),wO (by omega),(k+1,v,f+b.xs.length,f),_,aA.refl _ _,⟨by rw[st];exact L,z2,z3,by simp only;omega,by simp only;omega,by simp only;omega⟩,by omega,⟨Z,Z,Z,Z,Z,Z,Z,Z,Z,Y⟩,⟨Z,Y⟩⟩
    have st:=stop (by omega);exact⟨wO (by omega),wO (by omega),(k+1,v,f+b.xs.length,f),_,aA.refl _ _,⟨by rw[st];exact L,z2,z3,by simp only;omega,by simp only;omega,by simp only;omega⟩,by omega,⟨Z,Z,Z,Z,Z,Z,Z,Z,Z,Y⟩,⟨Z,Y⟩⟩
   have hm:Reg.meets (tc s k) b=false:=by rw[hpv];simpa [Reg.meets] using g3
   have L:=skip hm;exact⟨⟨by rw[hf];dsimp only;omega,by rw[hf];dsimp only;omega⟩,wO (by omega),(k+1,u,f+b.xs.length,f),_,aA.refl _ _,⟨L,c2,c3,by simp only;omega,by simp only;omega,by simp only;omega⟩,by omega,⟨rfl,rfl,rfl,rfl,by rw[hf];rfl,Z,Z,Z,Z,Y⟩,⟨Z,Y⟩⟩
  have hm:Reg.meets (tc s k) b=false:=by rw[tc,ae (by omega)];rfl
  have L:=skip hm;exact⟨⟨by rw[hf];dsimp only;omega,by rw[hf];dsimp only;omega⟩,wO (by omega),(k+1,u,f+b.xs.length,f),_,aA.refl _ _,⟨L,c2,c3,by simp only;omega,by simp only;omega,by simp only;omega⟩,by omega,⟨rfl,rfl,rfl,rfl,by rw[hf];rfl,Z,Z,Z,Z,Y⟩,⟨Z,Y⟩⟩
 have e:s.length<=k:=by omega
 rw[jR e]at L c4;have L:u=U:=L;subst L;have XJ:iO s=((Reg.a7 (Reg.kV u) i).map fun l=>l.map fun m=>all.getD m kW).map Reg.cH:=by rw[iO,Jg,<-hU,<-jz,hNa]
 rw[XJ];obtain⟨p,hp⟩:∃p,p=Reg.kV u:=⟨_,rfl⟩;have hT:Reg.OW p i:=by rw[hp,<-c3];exact Reg.Bg c2
 rw[<-hp];obtain⟨J,hrf⟩:∃J,J=fun m=>rc (all.getD m kW):=⟨_,rfl⟩;refine aP (fun x:Nat×List (Value×PV)=>x.1<=i/\(∀(k r:Nat),(Reg.dy p x.1)[k]?=some r->gz x.2 (.int .i64 r)=some (i64 k))/\∀r:Nat,¬r∈Reg.dy p x.1->gz x.2 (.int .i64 r)=none) (fun x=>[(3,.p (aE all)),(4,.bx 4 0),(6,.fn 158 [.bx 4 0]),(16,.ow 136),(17,.ow 17),(137,.p (aE all)),(138,.p (i64 i)),(139,.p (i64 x.1))]) (fun x=>[(4,.aU [.row 3 (aK (qB u x.1))]),(17,.aw 28 ((Reg.a7 p x.1).map (zl 90 J))),(136,.map (.int .i64) x.2)]) (fun x=>i-x.1) (0,[]) _ ((aA.eK (by exact hC) _ 17 28 _ (by decide) (by exact rfl) (by exact rfl) (by decide)).trans (aA.toH (by exact hC) _ 17 (e:=28) (es:=[]) (by exact rfl))) ⟨ak _,fun k r h=>by simp[Reg.dy]at h,fun r _=>rfl⟩ ⟨rfl,rfl,rfl,rfl,rfl,rfl,ar (fun m:Nat=>AV.p (i64 m)) (la.trans hNa),Z,Y⟩ ⟨Z,Z,Z,Y⟩ fun ⟨m,es⟩ W t h=>?_;obtain⟨h1,h2,h3⟩:=W;simp only at h1 h2 h3;obtain⟨vu,vl,vr⟩:=CQ c2 m (by omega);apply iW<;>intro g1<;>try simp only[zB]at g1
 ·obtain⟨x,W⟩:=ax (l:=all) (i:=m) (by omega);have TA:J m=rc x:=by rw[hrf];exact ar rc (getD_at W)
  have I:ig (qB u m) m (p m):=(vr _ _).2 (by rw[hp];exact Reg.oG c2 (by omega));have aab:=zk (qB u m) vu m (by omega);rw[(Reg.ji m (qB u m) m vu I.lt (aG _)).root.uniq I]at aab;refine⟨(rc x),(idx rfl W),_,_,aab,?_⟩;have sl:(Reg.a7 p m).length=(Reg.dy p m).length:=Reg.qA p m;have kl:=Reg.tb p m;by_cases e:p m=m
  ·have Eb:=h3 (p m) (by rw[e];exact fun O=>by have:=(Reg.mem_keys.1 O).1;omega);have R:=Reg.Jb hT (show m<i by omega) e;refine⟨none,Eb,⟨fun r I=>by simp at I;subst I;rfl,by simp only[E5,aQ,bX];omega,by simp only[E5,aQ,bX];omega⟩,?_⟩;refine abA ((aA.W0 (by exact hC) _ 17 (Reg.a7 p m).length 0 (e:=28) (e':=90) (es:=(Reg.a7 p m).map (zl 90 J)++[[.av .nl]]) (r:=[.av .nl]) (by exact ar (AB.aw _) (by simp only[Bh,UH];rfl)) (by rw[du (by simp)];simp) (by exact rfl) (by exact rfl) (by decide)).trans (aA.tN (by exact hC) _ 17 (Reg.a7 p m).length 0 90001 (e:=28) (es:=(Reg.a7 p m++[[]]).map (zl 90 J)) (e':=90) (r:=zl 90 J []) (xs:=[]) (by decide) (by decide) (by exact ar (AB.aw _) (by rw[E8];refine (xU _ _ _ _ (E5 _).symm).trans ?_;simp[zl])) (CV _ _ _) (by rw[E8,du (by simp)];simp) (by exact rfl))) ?_;have e0:(List.map (fun r=>List.map (HX.dn (sc 146)) r) (List.map (fun r=>List.map (HX.dn (sc 19)) r) (List.map (zl 90 J) (Reg.a7 p m)))).length=(Reg.a7 p m).length:=by simp
   refine⟨⟨by dsimp only;omega,by simp⟩,[.av (.ow 90001)],(by rw[uG,jU,jU];rw[e0];exact uH _ _ (Reg.a7 p m++[[]]) (Reg.a7 p m).length 90001 (by simp);rfl;rfl),⟨fun r I=>by simp at I;subst I;rfl,by simp,by simp⟩,⟨by dsimp only;omega,by simp⟩,[.av (.ow 90001)],(by rw[uG,jU,jU];rw[e0];exact uH _ _ (Reg.a7 p m++[[]]) (Reg.a7 p m).length 90001 (by simp);rfl;rfl),wO (by omega),(m+1,iS es (.int .i64 (p m)) (i64 (Reg.a7 p m).length)),_,aA.H7 (by exact hC) _ 17 (Reg.a7 p m).length 0 171 (e:=28) (es:=((Reg.a7 p m++[[]]).map (zl 90 J)).set (Reg.a7 p m).length [.av (.ow 171)]) (e':=90) (xs:=[J m]) (by decide) (by exact congrArg (AB.aw _) (by rw[uG,jU,jU,e0];exact List.set_set _;rfl;rfl)) (by rw[TA];exact rfl) (uH _ _ _ _ _ (by simp)) (by exact rfl),?_⟩;have key:∀(k r:Nat),(Reg.dy p (m+1))[k]?=some r->gz (iS es (.int .i64 (p m)) (i64 (Reg.a7 p m).length)) (.int .i64 r)=some (i64 k):=fun k r hk=>by
    rw[Reg.kp,ae e]at hk;rw[oH];by_cases hki:k<(Reg.dy p m).length
    ·rw[dN hki]at hk;have:=(Reg.mem_keys.1 (aj hk)).1;rw[aa (by omega)];exact h2 k r hk
    rw[du (by omega)]at hk;have L4:k=(Reg.dy p m).length:=by
     have:=(az.1 hk).1;simp at this;omega
    subst L4;simp only[jL,wi,Option.some.injEq]at hk;subst hk;rw[ae (by omega),sl]
   have aac:∀r:Nat,¬r∈Reg.dy p (m+1)->gz (iS es (.int .i64 (p m)) (i64 (Reg.a7 p m).length)) (.int .i64 r)=none:=fun r I=>by
    rw[Reg.kp,ae e]at I;rw[oH,aa (fun O=>I (by rw[fC];exact .inr (by simp;omega)))];exact h3 r fun O=>I (q_ _ O)
   refine⟨⟨by dsimp only;omega,key,aac⟩,⟨by dsimp only;omega,⟨Z,Z,Z,Z,Z,Z,Z,Z,Y⟩,⟨rfl,?_,congrArg (AB.map _) ?_,trivial⟩⟩⟩
   ·refine ar (AB.aw _) ?_;show ((List.map (zl 90 J) (Reg.a7 p m++[[]])).set _ _).set _ _=List.map (zl 90 J) (Reg.a7 p (m+1));rw[GA,R,E8,E8];exact xU _ _ _ _ (E5 _).symm
   dsimp only;rw[e0];rfl
  obtain⟨k,hk⟩:=Reg.Sg hT (show m<i by omega) e;obtain⟨R,jy⟩:=Reg.Jc e hk;have km:=h2 k (p m) hk;have XG:((Reg.a7 p m).map (zl 90 J))[k]?=some (zl 90 J (Reg.kj p m (p m))):=by rw[aD,jy];rfl
  have kl':=(az.1 hk).1;have ml:=Reg.xT p m (p m);refine⟨(some (i64 k)),km,?_⟩;refine abA (aA.tN (by exact hC) _ 17 k 0 90001 (e:=28) (by decide) (by decide) (by exact ar (AB.aw _) (by simp only[Bh])) (CV _ _ _) XG (by exact rfl)) ?_;refine⟨⟨by omega,by simp only[List.length_map,List.length_set];omega⟩,[.av (.ow 90001)],(by rw[uG,jU,jU];exact uH _ _ (Reg.a7 p m) k 90001 (by omega);rfl;rfl),⟨fun r I=>by simp at I;subst I;rfl,by simp only[List.length_map,List.length_set,List.length_replicate];omega,by simp only[List.length_map,List.length_set,List.length_replicate];omega⟩,⟨by omega,by simp only[List.length_map,List.length_set];omega⟩,[.av (.ow 90001)],(by rw[uG,jU,jU];exact uH _ _ (Reg.a7 p m) k 90001 (by omega);rfl;rfl),wO (by omega),(m+1,es),_,aA.H7 (by exact hC) _ 17 k 0 171 (e:=28) (es:=((Reg.a7 p m).map (zl 90 J)).set k [.av (.ow 171)]) (e':=90) (xs:=(Reg.kj p m (p m)++[m]).map J) (by decide) (by exact congrArg (AB.aw _) (by rw[uG,jU,jU];exact List.set_set _;rfl;rfl)) (by exact congrArg (AB.row _) (by rw[List.map_append];exact congrArg (List.map J (Reg.kj p m (p m))++·) (by show _=[J m];rw[TA];rfl))) (uH _ _ _ _ _ (by omega)) (by exact rfl),⟨by dsimp only;omega,fun k' r AI=>?_,fun r I=>?_⟩,⟨by dsimp only;omega,⟨Z,Z,Z,Z,Z,Z,Z,Z,Y⟩,⟨rfl,?_,Z,Y⟩⟩⟩
  ·rw[Reg.kp,aa e]at AI;exact h2 k' r AI
  ·rw[Reg.kp,aa e]at I;exact h3 r I
  refine ar (AB.aw _) ?_;show ((List.map (zl 90 J) (Reg.a7 p m)).set _ _).set _ _=List.map (zl 90 J) (Reg.a7 p (m+1));rw[GA,R,w_];rfl
 have em:m=i:=by omega
 subst em;obtain⟨V,UI⟩:∃V,V=Reg.a7 p m:=⟨_,rfl⟩;rw[<-UI];obtain⟨rL,Xa⟩:∃rL:List Nat->List aB,rL=fun l=>l.map fun m=>all.getD m kW:=⟨_,rfl⟩;rw[<-Xa];have qH:∀l,XH J l=[aE (rL l)]:=fun l=>by rw[XH,hrf,Xa,aE,Mu];rfl
 have lL:=an V (XH J);have hLl:V.length<=m:=by rw[UI,Reg.qA];exact Reg.tb p m
 have Oy:∀l∈V,l.length<=m/\∀r∈rL l,r∈all:=fun l hl=>by
  rw[UI,Reg.a7]at hl;obtain⟨r,_,rfl⟩:=aZ.1 hl;refine⟨Reg.xT p m r,fun q hq=>?_⟩;rw[Xa]at hq;obtain⟨z,hz,rfl⟩:=aZ.1 hq;have:=(Reg.pM.1 hz).1;obtain⟨q,hq⟩:=ax (l:=all) (i:=z) (by omega);rw[getD_at hq];exact aj hq
 have tf:=Reg.nW hs;have ti:=Reg.ux hs ks;rw[<-jz]at tf ti;refine aP (fun j:Nat=>j<=V.length) (fun j=>[(23,.ow 23),(174,.p (.sl (V.map (XH J)))),(175,.p (i64 V.length)),(176,.p (i64 j))]) (fun j=>[(23,.row 158 (((V.take j).map fun l=>Reg.cH (rL l)).map fun p=>[a_ p]))]) (fun j=>V.length-j) 0 _ ((aA.QZ (by exact hC) _ 17 (V.map (XH J)) (e:=28) (by exact rfl) (XI _ _ _)).trans ((aA.own (by exact hC) _ 174 (id:=17) (by exact rfl) (by exact rfl)).trans (aA.eK (by exact hC) _ 23 158 _ (by decide) (by exact rfl) (by exact rfl) (by decide)))) (ak _) ⟨rfl,rfl,ar (fun m:Nat=>AV.p (i64 m)) (E5 _),Z,Y⟩ ⟨Z,Y⟩ fun j hj t h=>?_;apply iW<;>intro g1
 ·obtain⟨l,hl⟩:=ax (l:=V) (i:=j) (by omega);obtain⟨m1,m2⟩:=Oy l (aj hl);have so:=qx (rL l) 1400000 (by omega) (by omega) (fun r I=>tf r (m2 r I)) (fun r I=>ti r (m2 r I)) (by rw[Xa,E5];omega);have lk:((V.take j).map fun l=>Reg.cH (rL l)).length=j:=by rw[E5,cE];omega
  exact⟨[aE (rL l)],(by rw[<-qH];exact idx rfl hl),_,_,so,⟨fun r I=>by simp at I;subst I;rfl,by simp only[E5,aQ,bX,lk];omega,by simp only[E5,aQ,bX,lk];omega⟩,wO (by omega),(j+1),_,aA.refl _ _,by omega,by omega,⟨Z,Z,Z,Z,Y⟩,⟨by rw[bq hl,E8,E8];rfl,trivial⟩⟩
 have e:V.take j=V:=kG (by omega);rw[e];exact And.intro (ar (AB.row _) (by rw[Mu,Mu,Mu];rfl)) (And.intro rfl trivial)
end M
namespace Reg
theorem Ji{α:Type}[DecidableEq α]:∀{l m:List α},l.Nodup->(∀x∈l,x∈m)->l.length<=m.length
 | [],m,_,_=>ak _
 | x::l,m,h,u=>by
  have z:=u x bW;have h':=L9.1 h;have:=Ji (l:=l) (m:=m.erase x) h'.2 fun y D=>(List.mem_erase_of_ne (fun e=>h'.1 (by rw[<-e];exact D))).2 (u y (cD _ D));rw[List.length_erase_of_mem z]at this;have:=nL z;simp only[bN];omega
theorem CW:∀{s:cw} {p:Int×Int},Canon s->p∈s->¬cover s (p.1-1)
 | [],p,_,hp=>by cases hp
 | q::s,p,h,hp=>by
  rw[bQ];rintro (⟨h1,h2⟩ | u)
  ·rcases L8.1 hp with rfl | hp
   ·omega
   have:=h.behind p hp;omega
  rcases L8.1 hp with rfl | hp
  ·exact h.lH (by have:=h.head;omega) u
  exact CW h.tail hp u
variable {s:List aR}
theorem Sn(h:dF s){b:aR}(hb:b∈s){y:Int}(z:b.y0<=y)(D:y<b.y1)(x:Int):at' s x y=par (cm b.xs) x:=by
 induction s with
 | nil=>cases hb
 | cons c s ih=>
  rcases L8.1 hb with rfl | u
  ·exact nK h z D
  have:=h.j_ b u;rw[rQ (by omega)];exact ih h.tail u
theorem O1(h:dF s){b:aR}(hb:b∈s):∃x,at' s x (b.y0-1)≠at' s x b.y0:=by
 induction s with
 | nil=>cases hb
 | cons c s ih=>
  have J:=(h.mem b hb).lt;rcases L8.1 hb with rfl | u
  ·obtain⟨x,z⟩:=xE (h.mem b hb);refine⟨x,?_⟩;rw[nK h (pq _) J,z,lM fun t I=>?_]
   ·decide
   rcases L8.1 I with rfl | I
   ·exact .inl (by omega)
   have:=h.j_ t I;exact .inl (by omega)
  have L:=(h.mem c bW).lt;have Hh:=h.j_ b u;by_cases e:c.y1=b.y0
  ·match s,h,u,ih with
   | d::s,h,u,ih=>
    rcases L8.1 u with rfl | D
    ·have N:c.xs≠b.xs:=fun z=>by
      have:=h;simp only[dF]at this;exact this.2.2.1 e z
     have z:∃x,par (cm c.xs) x≠par (cm b.xs) x:=by
      refine qZ fun O=>N (nv _ _ (h.mem c bW).can (h.mem b (by simp)).can fun x=>?_);have:par (cm c.xs) x=par (cm b.xs) x:=qZ fun L=>O ⟨x,L⟩;rw[<-dL (h.mem c bW).can,<-dL (h.mem b (by simp)).can,this]
     obtain⟨x,z⟩:=z;refine⟨x,?_⟩;rw[nK h (by omega) (by omega),rQ (by omega),nK h.tail (pq _) J];exact z
    have:=(h.tail.j_ b D);have:=(h.mem d (by simp)).lt;have:=h.j_ d (by simp);omega
  obtain⟨x,z⟩:=ih h.tail u;refine⟨x,?_⟩;rw[rQ (by omega),rQ (by omega)];exact z
theorem Sq(h:dF s){u:List Int}(z:∀x y,¬y∈u->at' s x (y-1)=at' s x y):∀q∈told s,q.y0∈u:=fun q D=>by
 obtain⟨b,hb,p,_,rfl⟩:=mA.1 D;obtain⟨x,I⟩:=O1 h hb;exact qZ fun J=>I (z x b.y0 J)
theorem Sr(h:dF s){z:List Int}(I:∀x y,¬x∈z->at' s (x-1) y=at' s x y):∀q∈told s,q.x0∈z:=fun q J=>by
 obtain⟨b,hb,p,hp,rfl⟩:=mA.1 J;have u:=h.mem b hb;refine qZ fun L=>?_;have e:=I p.1 b.y0 L;rw[Sn h hb (pq _) u.lt,Sn h hb (pq _) u.lt]at e;have D:cover b.xs p.1:=⟨p,hp,pq _,iK u.can p hp⟩;rw[<-dL u.can,<-e,dL u.can]at D;exact CW u.can hp D
theorem EU(z:List Int):∀u:List Int,(u.flatMap fun y=>z.map fun x=>(y,x)).length=u.length*z.length
 | []=>by simp
 | y::u=>by rw[l6,bJ,EU z u,E5,bN,dO,Nat.add_comm]
theorem UJ(h:dF s){u D:List Int}(J:∀x y,¬x∈u->at' s (x-1) y=at' s x y)(L:∀x y,¬y∈D->at' s x (y-1)=at' s x y):(told s).length<=D.length*u.length:=by
 have N:((told s).map fun q=>(q.y0,q.x0)).Nodup:=by
  rw[rR,gM];refine (Lk h).imp fun {a b} O e=>?_;have:=vL.1 O;simp only[Prod.mk.injEq]at e;omega
 have:=Ji (m:=D.flatMap fun y=>u.map fun x=>(y,x)) N fun z R=>by
  obtain⟨q,I,rfl⟩:=aZ.1 R;exact cz.2 ⟨q.y0,Sq h L q I,aZ.2 ⟨q.x0,Sr h J q I,rfl⟩⟩
 rw[E5]at this;exact aS this (b_ (EU u D))
structure Piece where
 layer:Int
 set:List aR
structure dW where
 pieces:List Int
 bores:List Int
 pins:List (ByteArray×ByteArray)
structure UK where
 bore:Bool
 num:Int
theorem O2{x y:Int}{q:aB}(h:¬(x=q.x0\/x=q.x1)):oV (x-1) y q=oV x y q:=by
 rw[Ax,dC,dC];omega
theorem O3{x y:Int}{q:aB}(h:¬(y=q.y0\/y=q.y1)):oV x (y-1) q=oV x y q:=by
 rw[Ax,dC,dC];omega
theorem xV{α:Type}{l:List α}{f g:α->Bool}(h:∀x∈l,f x=g x):l.any f=l.any g:=by
 induction l with
 | nil=>rfl
 | cons x l ih=>rw[uc,uc,h x bW,ih fun y u=>h y (cD _ u)]
def XK(l:List aB):List Int:=l.flatMap fun q=>[q.x0,q.x1]
def XL(l:List aB):List Int:=l.flatMap fun q=>[q.y0,q.y1]
theorem M9:∀l:List aB,(XK l).length=2*l.length
 | []=>rfl
 | q::l=>by have:=M9 l;simp only[XK,l6,bJ,bN,kv]at this ⊢;omega
theorem M_:∀l:List aB,(XL l).length=2*l.length
 | []=>rfl
 | q::l=>by have:=M_ l;simp only[XL,l6,bJ,bN,kv]at this ⊢;omega
theorem O4{a b:List aB}(N:∀r∈a,Full r)(hb:∀r∈b,Full r):(told (iL (cH a) (cH b))).length<=(2*(a.length+b.length))*(2*(a.length+b.length)):=by
 obtain⟨O,z,_⟩:=b7 N;obtain⟨R,D,_⟩:=b7 hb;obtain⟨U,I,_⟩:=oC O R;have V:∀x y,¬x∈XK (a++b)->at' (iL (cH a) (cH b)) (x-1) y=at' (iL (cH a) (cH b)) x y:=fun x y J=>by
  have e:∀q∈a++b,oV (x-1) y q=oV x y q:=fun q u=>O2 fun L=>J (cz.2 ⟨q,u,by simp;exact L⟩);rw[I,I,z,z,D,D,xV (l:=a) fun q u=>e q (q_ _ u),xV (l:=b) fun q u=>e q (tJ _ u)]
 have W:∀x y,¬y∈XL (a++b)->at' (iL (cH a) (cH b)) x (y-1)=at' (iL (cH a) (cH b)) x y:=fun x y J=>by
  have e:∀q∈a++b,oV x (y-1) q=oV x y q:=fun q u=>O3 fun L=>J (cz.2 ⟨q,u,by simp;exact L⟩);rw[I,I,z,z,D,D,xV (l:=a) fun q u=>e q (q_ _ u),xV (l:=b) fun q u=>e q (tJ _ u)]
 have:=UJ U V W;rw[M9,M_,bJ]at this;exact this
def beside(x y:aB):Bool:=((decide (x.x0<y.x1)&&decide (y.x0<x.x1))&&(decide (x.y1=y.y0)||decide (y.y1=x.y0)))||((decide (x.y0<y.y1)&&decide (y.y0<x.y1))&&(decide (x.x1=y.x0)||decide (y.x1=x.x0)))
def dm(bs:List dq)(layer:Int):List aB:=(bs.filter fun b=>through b layer).map bM
def mE(bs:List dq)(layer:Int)(r:List aB):List aR:=iL (cH r) (cH (dm bs layer))
def kX(bs:List dq):Int->List (List aB)->List (List aR)
 | _,[]=>[]
 | k,r::l=>mE bs k r::kX bs (k+1) l
def gf(bs:List dq):Int->List (List aB)->List Piece
 | _,[]=>[]
 | k,r::l=>(iO (mE bs k r)).map (⟨k,·⟩)++gf bs (k+1) l
def Jj(bs:List dq):Int->List (List aB)->Bool
 | _,[]=>true
 | k,r::l=>decide ((told (mE bs k r)).length<=2000)&&Jj bs (k+1) l
def pN(a:yr):Bool:=Jj a.bores 0 a.coppers&&decide ((gf a.bores 0 a.coppers).length<=2000)
def td(b:dq)(p:Piece):Bool:=(b.plated&&through b p.layer)&&(told p.set).any fun r=>beside r (bM b)
def jv(b:dq):Nat->List Piece->List Int
 | _,[]=>[]
 | k,p::l=>if td b p=true then (k:Int)::jv b (k+1) l else jv b (k+1) l
def fP(bs:List dq)(ps:List Piece):List (List Int):=bs.map fun b=>jv b 0 ps
theorem O5(s:List aR):(iO s).length<=(told s).length:=by
 rw[iO,Jg,E5,E5,qA];exact tb _ _
theorem O6{l:List aB}{m:Nat}(h:m<l.length):l.getD m kW∈l:=by
 rw[dc,oX h];exact na h
theorem O7{l:List aB}(h:l∈Jg s):l≠[]/\∀r∈l,r∈told s:=by
 obtain⟨u1,u2⟩:=Sm s;have hT:=Bg u1;obtain⟨ms,u,rfl⟩:=aZ.1 h;obtain⟨r,z,rfl⟩:=aZ.1 u;obtain⟨D,I⟩:=mem_keys.1 z;refine⟨fun e=>?_,fun q J=>?_⟩
 ·have:r∈kj (kV (ET s)) (told s).length r:=pM.2 ⟨D,I⟩;rw[MV]at e;rw[e]at this;cases this
 obtain⟨m,L,rfl⟩:=aZ.1 J;exact O6 (pM.1 L).1
theorem EV{p:List aR}(h:dF s)(hp:p∈iO s):dF p/\p≠[]/\(∀x y,at' p x y=true->at' s x y=true)/\∀K,gy K s->gy K p:=by
 obtain⟨l,hl,rfl⟩:=aZ.1 hp;obtain⟨N,u⟩:=O7 hl;obtain⟨O,I,R⟩:=b7 fun r D=>nW h r (u r D);have sub:∀x y,at' (cH l) x y=true->at' s x y=true:=fun x y J=>by
  rw[I,wy]at J;obtain⟨q,z,U⟩:=J;rw[<-Ct h,wy];exact⟨q,u q z,U⟩
 refine⟨O,fun e=>?_,sub,fun K V=>R K fun r D=>ux h V r (u r D)⟩;obtain⟨q,z⟩:=AD _ N;have L:=nW h q (u q z);have:at' (cH l) q.x0 q.y0=true:=by
  rw[I,wy];exact⟨q,z,dC.2 ⟨pq _,L.1,pq _,L.2⟩⟩
 rw[e]at this;cases this
end Reg
end Go.Proofs.YtliffnpbaeijgaaGreatDoor
namespace Go.AM
theorem aA.vh{A:rZ}(hC:bP A.C)(s:AS)(id j:Nat)(cs:List AV)(hb:s.h id=.box cs)(J:cs[j]?=some (.p (.im (.slice none 0 0)))):aA A s ⟨s.t,a8 s.h id (.box (cs.set j .nl))⟩:=by
 intro S rho a w z;refine⟨S,rho,z.write hC id trivial (by rw[hb];trivial) _ (fun _ h=>by cases h) w rfl rfl rfl rfl (fun _ _=>rfl) fun T=>?_⟩;have L:=z.hp id trivial;rw[hb]at L;obtain⟨g,U,c,V,W,Y,N⟩:=L;refine⟨g,U,c,V,W,by rw[Y,aQ],fun q x u hi O=>?_⟩;by_cases R:q=j
 ·subst R;rw[dZ (aC J)]at hi;injection hi with hi;subst hi;obtain⟨D,I⟩:=N q _ u J O;refine⟨D,?_⟩;have Z:aO S w (.im (.slice none 0 0)) u:=by cases I;assumption
  exact (AG Z).de T
 rw[gC (fun e=>R e.symm)]at hi;obtain⟨D,I⟩:=N q x u hi O;exact⟨D,I.de T⟩
end Go.AM
namespace Go.Proofs.YtliffnpbaeijgaaGreatDoor
namespace M
open Go.AM Go.RowKit Go.Lib
open Reg (aB beside bM dq through ew aR cw)
theorem DX(x y:aB):ai C 101 [.pv (.ag (rc x)),.pv (.ag (rc y))] (.p (bool (beside x y))) []:=by
 refine fW hC Tryz.func101 rfl (by kernel_rfl) fun _=>?_;apply iW<;>intro a
 ·apply iW<;>intro c
  ·apply iW<;>intro b
   ·apply iW<;>intro e
    ·refine⟨?_,trivial⟩;simp[bool,beside,a,c,b,e]
    apply iW<;>intro f
    ·refine⟨?_,trivial⟩;simp[bool,beside,a,c,b,e,f]
    apply iW<;>intro d
    ·apply iW<;>intro g
     ·refine⟨?_,trivial⟩;simp[bool,beside,a,c,b,e,f,d,g]
     refine⟨?_,trivial⟩;simp[bool,beside,a,c,b,e,f,d,g]
    refine⟨?_,trivial⟩;simp[bool,beside,a,c,b,e,f,d]
   apply iW<;>intro d
   ·apply iW<;>intro g
    ·refine⟨?_,trivial⟩;simp[bool,beside,a,c,b,d,g]
    refine⟨?_,trivial⟩;simp[bool,beside,a,c,b,d,g]
   refine⟨?_,trivial⟩;simp[bool,beside,a,c,b,d]
  apply iW<;>intro b
  ·apply iW<;>intro e
   ·refine⟨?_,trivial⟩;simp[bool,beside,a,c,b,e]
   apply iW<;>intro f
   ·refine⟨?_,trivial⟩;simp[bool,beside,a,c,b,e,f]
   refine⟨?_,trivial⟩;simp[bool,beside,a,c,b,e,f]
  refine⟨?_,trivial⟩;simp[bool,beside,a,c,b]
 apply iW<;>intro c
 ·apply iW<;>intro d
  ·apply iW<;>intro g
   ·refine⟨?_,trivial⟩;simp[bool,beside,a,c,d,g]
   refine⟨?_,trivial⟩;simp[bool,beside,a,c,d,g]
  refine⟨?_,trivial⟩;simp[bool,beside,a,c,d]
 refine⟨?_,trivial⟩;simp[bool,beside,a,c]
theorem UL(r:aB)(b:dq)(h:ew b=true):ai C 100 [.pv (.ag (rc r)),.pv (.ip (bc b))] (.p (bool (beside r (bM b)))) []:=by
 refine fW hC Tryz.func100 rfl (by kernel_rfl) fun _=>?_;refine⟨_,_,(fA b h),_,_,(DX r (bM b)),?_,trivial⟩;rfl
theorem rV(l:List aR)(hN:l.length<=1000000000000)(L:∀t∈l,t.xs.length<=1000000000000)(hT:(Reg.told l).length<=4398046511104):ai C 89 [.pv (.sl (l.map hb))] (.p (aE (Reg.told l))) []:=by
 refine FP ⟨[],[2],[],[8],[],[]⟩ hC Tryz.func89 rfl (by kernel_rfl) fun _=>?_;have z:=an l hb;have N:∀i,(Reg.told (l.take i)).length<=(Reg.told l).length:=fun i=>by
  have e:Reg.told l=Reg.told (l.take i)++Reg.told (l.drop i):=by
   unfold Reg.told;rw[<-aT,nj]
  rw[e,bJ];omega
 refine aP (fun i:Nat=>i<=l.length) (fun i=>[(7,.p (.sl (l.map hb))),(8,.p (i64 (l.map hb).length)),(3,.ow 3),(9,.p (i64 i))]) (fun i=>[(3,.row 90 ((Reg.told (l.take i)).map rc))]) (fun i=>l.length-i) 0 _ (aA.eK hC _ 3 90 _ (by decide) rfl rfl (by decide)) (ak _) ⟨Z,Z,Z,Z,Y⟩ ⟨Z,Y⟩ fun i hi t h=>?_;apply iW<;>intro D
 ·rw[z]at D;obtain⟨b,u⟩:=ax (l:=l) (i:=i) (by omega);have bm:=an (flat b.xs) fun n=>[i64 n];have I:=fK b.xs;have hb':=L b (aj u);have O:=N (i+1);rw[qn u,bJ,E5]at O;refine⟨(hb b),(idx rfl u),?_⟩;refine Ak (fun _:Unit=>True) (fun _=>[(7,.p (.sl (l.map hb))),(8,.p (i64 (l.map hb).length)),(3,.ow 3),(9,.p (i64 i))]) (fun _=>[(3,.row 90 ((Reg.told (l.take (i+1))).map rc))]) (fun _ _ t h=>?_) ?_
  ·exact⟨wO (by omega),(i+1),_,aA.refl _ _,by omega,by omega,⟨Z,Z,Z,Z,Y⟩,⟨Z,Y⟩⟩
  refine aP (fun k:Nat=>k<=b.xs.length) (fun k=>[(7,.p (.sl (l.map hb))),(8,.p (i64 (l.map hb).length)),(3,.ow 3),(9,.p (i64 i)),(5,.bx 5 0),(6,.p (i64 ((2*k:Nat):Int)))]) (fun k=>[(3,.row 90 ((Reg.told (l.take i)++oU b k).map rc)),(5,.box [.p (i64 b.y0),.p (i64 b.y1),.p (ints (flat b.xs))])]) (fun k=>b.xs.length-k) 0 _ (aA.refl _ _) (ak _) ⟨Z,Z,Z,Z,Z,Z,Y⟩ ⟨by rw[oU];simp;rfl,Z,Y⟩ fun k hk t h=>?_;have KR:(oU b k).length<=k:=by simp[oU];omega
  apply iW<;>intro J
  ·rw[bm,I]at J;obtain⟨p,hp⟩:=ax (l:=b.xs) (i:=k) (by omega);obtain⟨R,U⟩:=Ip hp;refine⟨[i64 p.1],(idx rfl R),wO (by omega),[i64 p.2],(idx (by omega) U),⟨kL rfl,by simp;omega,by simp;omega⟩,wO (by omega),(k+1),_,aA.refl _ _,by omega,by omega,⟨rfl,rfl,rfl,rfl,rfl,bI (by omega),trivial⟩,⟨?_,Z,Y⟩⟩;have V:oU b (k+1)=oU b k++[⟨p.1,b.y0,p.2,b.y1⟩]:=by simp[oU,bq hp]
   have e:(Reg.told (l.take i)++oU b k).map rc++[rc ⟨p.1,b.y0,p.2,b.y1⟩]=(Reg.told (l.take i)++oU b (k+1)).map rc:=by
    rw[V,<-d_,E8 (l₂:=[_])];rfl
   exact ar (AB.row 90) e
  rw[bm,I]at J;refine⟨(),trivial,⟨Z,Z,Z,Z,Y⟩,⟨?_,trivial⟩⟩;rw[qn u];have:oU b k=b.xs.map fun p=>⟨p.1,b.y0,p.2,b.y1⟩:=by rw[oU,kG (by omega)]
  rw[<-this];rfl
 rw[z]at D;rw[kG (by omega)];exact⟨Z,Y⟩
def tch(b:dq)(r:aB):Bool:=beside r (bM b)
theorem Jk(l:List aB)(hN:l.length<=140737488355328)(b:dq)(D:ew b=true):ai C 159 [.pv (aE l),.pv (.fn 100 [.ip (bc b)])] (.p (i64 (eM (tch b) l 0))) []:=by
 refine fW hC Tryz.func159 rfl (by kernel_rfl) fun _=>?_;have J:=an l rc;refine aP (fun i:Nat=>i<=l.length/\∀z∈l.take i,tch b z=false) (fun i=>[(0,.p (aE l)),(1,.p (.fn 100 [.ip (bc b)])),(7,.p (i64 (l.map rc).length)),(8,.p (i64 i))]) (fun _=>[]) (fun i=>l.length-i) 0 _ (aA.refl _ _) ⟨ak _,by simp⟩ ⟨Z,Z,Z,Z,Y⟩ trivial fun i hi t h=>?_;apply iW<;>intro L
 ·rw[J]at L;obtain⟨r,I⟩:=ax (l:=l) (i:=i) (by omega);refine⟨(rc r),(idx rfl I),_,_,(UL r b D),iW ?_ ?_⟩<;>intro u
  ·refine⟨?_,trivial⟩;rw[hD I u hi.2,fX]
  exact⟨wO (by omega),(i+1),_,aA.refl _ _,⟨by omega,iu I u hi.2⟩,by omega,⟨Z,Z,Z,Z,Y⟩,trivial⟩
 rw[J]at L;refine⟨?_,trivial⟩;have u:=hi.2;rw[kG (by omega)]at u;rw[cT u];rfl
theorem CX(l:List aB)(z:l.length<=140737488355328)(b:dq)(u:ew b=true):ai C 99 [.pv (aE l),.pv (.fn 100 [.ip (bc b)])] (.p (bool (l.any (tch b)))) []:=by
 refine fW hC Tryz.func99 rfl (by kernel_rfl) fun _=>?_;refine⟨_,_,(Jk l z b u),?_,trivial⟩;rw[<-eZ _ l 0];rfl
open Reg (yr Piece dF gy Full RK told cH iL iO gW xK dm mE kX gf Jj pN)
def mJ(p:Piece):List PV:=[i64 p.layer,a_ p.set,aE (told p.set)]
structure xY(a:yr):Prop where
 cop:0<a.coppers.length/\a.coppers.length<=16
 reg:∀r∈a.coppers,Reg.bA r=0
 out:Reg.bA a.outline=0
 few:a.bores.length<=500
 bor:∀b∈a.bores,xK a.coppers.length b
 lan:a.lands.length<=1000
theorem xZ{n:Int}{b:dq}(h:xK n b):ew b=true:=by
 have:=h.ok;simp only[gW,aJ]at this;exact this.1
structure ac8(s:List aR):Prop where
 sok:dF s
 ink:gy 1000000 s
 few:(told s).length<=25000000
theorem C6{bs:List dq}(u:∀b∈bs,ew b=true)(I:bs.length<=500)(k:Int){r:List aB}(J:Reg.bA r=0):ac8 (mE bs k r):=by
 have h:=aff J;have z:∀q∈dm bs k,Full q:=fun q L=>by
  obtain⟨b,hb,rfl⟩:=aZ.1 L;exact Reg.mC (u b (l5.1 hb).1)
 have hl:(dm bs k).length<=500:=by
  rw[dm,E5];exact aS (wH _ _) I
 obtain⟨D,b2,b3⟩:=Reg.b7 z;obtain⟨N,c2,_⟩:=Reg.oC h.sok D;refine⟨N,Ux h.sok D h.ink,aS (Reg.O4 h.full z) ?_⟩;have:2*(r.length+(dm bs k).length)<=5000:=by have:=h.len;omega
 exact Nat.mul_le_mul this this
theorem G5(a:yr)(ha:xY a):ai C 49 [.aU [.p (.sl (a.coppers.map rr)),.p (aE a.outline),.p (.sl (a.bores.map bc)),.p (.sl (a.lands.map lc)),.row 158 [],.row 169 [],.row 54 [],.row 59 [],.row 3 [],.row 3 [],.row 3 [],.row 177 []]] (.p (bool (pN a))) [.aU [.p (.sl (a.coppers.map rr)),.p (aE a.outline),.p (.sl (a.bores.map bc)),.p (.sl (a.lands.map lc)),.row 158 ((kX a.bores 0 a.coppers).map fun s=>[a_ s]),.row 169 ((gf a.bores 0 a.coppers).map mJ),.row 54 [],.row 59 [],.row 3 [],.row 3 [],.row 3 [],.row 177 []]]:=by
 have lk:=an a.coppers rr;have lb:=an a.bores bc;have J:∀b∈a.bores,ew b=true:=fun b h=>xZ (ha.bor b h);have Jo:=ha.few;have RA:=ha.cop;obtain⟨DD,hDD⟩:∃DD,DD=kX a.bores 0 a.coppers:=⟨_,rfl⟩;obtain⟨PP,W⟩:∃PP,PP=gf a.bores 0 a.coppers:=⟨_,rfl⟩;obtain⟨OK,hOK⟩:∃OK,OK=Jj a.bores 0 a.coppers:=⟨_,rfl⟩;have hres:pN a=(OK&&decide (PP.length<=2000)):=by rw[pN,hOK,W]
 rw[hres,<-hDD,<-W];refine ZG ⟨[],[],[],[18],[],[14]⟩ hC Tryz.func49 rfl (by kernel_rfl) fun _=>⟨_,aA.open hC _ 100000 [90000,90001,90002,90003,90004,90005,90006,90007] (by exact rfl) rfl rfl rfl,?_⟩;refine aP (fun x:Nat×Bool×List (List aR)×List Piece=>x.2.2.1++kX a.bores x.1 (a.coppers.drop x.1)=DD/\x.2.2.2++gf a.bores x.1 (a.coppers.drop x.1)=PP/\(x.2.1&&Jj a.bores x.1 (a.coppers.drop x.1))=OK/\x.2.2.1.length<=x.1/\x.2.2.2.length<=25000000*x.1/\x.1<=a.coppers.length) (fun x=>[(0,.bx 100000 0),(3,.p (bool x.2.1)),(16,.p (.sl (a.coppers.map rr))),(17,.p (i64 a.coppers.length)),(18,.p (i64 x.1))]) (fun x=>[(100000,.box [.p (.sl (a.coppers.map rr)),.p (aE a.outline),.p (.sl (a.bores.map bc)),.p (.sl (a.lands.map lc)),.ow 90000,.ow 90001,.ow 90002,.ow 90003,.ow 90004,.ow 90005,.ow 90006,.ow 90007]),(90000,.row 158 (x.2.2.1.map fun s=>[a_ s])),(90001,.row 169 (x.2.2.2.map mJ)),(90002,.row 54 []),(90003,.row 59 []),(90004,.row 3 []),(90005,.row 3 []),(90006,.row 3 []),(90007,.row 177 [])]) (fun x=>a.coppers.length-x.1) (0,true,[],[]) _ (aA.refl _ _) ⟨hDD.symm,W.symm,by rw[hOK];rfl,aG _,ak _,ak _⟩ ⟨rfl,rfl,rfl,ar (fun m:Nat=>AV.p (i64 m)) lk,Z,Y⟩ ⟨Z,Z,Z,Z,Z,Z,Z,Z,Z,Y⟩ fun ⟨i,ok,D,P⟩ hx t h=>?_;obtain⟨O,R,U,q4,q5,q6⟩:=hx;simp only at O R U q4 q5 q6;apply iW<;>intro g<;>try simp only[zB]at g
 ·obtain⟨r,L⟩:=ax (l:=a.coppers) (i:=i) (by omega);have aad:=ha.reg r (aj L);have hro:=aff aad;rw[drop_at L]at O R U;simp only[kX,gf,Jj]at O R U;have TV:=C6 J Jo i aad;refine⟨(rr r),(idx rfl L),?_⟩;refine aP (fun y:Nat×List aB=>y.2++dm (a.bores.drop y.1) i=dm a.bores i/\y.2.length<=y.1/\y.1<=a.bores.length/\∀q∈y.2,∃b∈a.bores,q=bM b) (fun y=>[(0,.bx 100000 0),(3,.p (bool ok)),(16,.p (.sl (a.coppers.map rr))),(17,.p (i64 a.coppers.length)),(18,.p (i64 i)),(4,.p (i64 i)),(5,.p (aE r)),(27,.p (.sl (a.bores.map bc))),(28,.p (i64 a.bores.length)),(29,.p (i64 y.1)),(6,.ow 6)]) (fun y=>[(100000,.box [.p (.sl (a.coppers.map rr)),.p (aE a.outline),.p (.sl (a.bores.map bc)),.p (.sl (a.lands.map lc)),.ow 90000,.ow 90001,.ow 90002,.ow 90003,.ow 90004,.ow 90005,.ow 90006,.ow 90007]),(90000,.row 158 (D.map fun s=>[a_ s])),(90001,.row 169 (P.map mJ)),(90002,.row 54 []),(90003,.row 59 []),(90004,.row 3 []),(90005,.row 3 []),(90006,.row 3 []),(90007,.row 177 []),(6,.row 90 (y.2.map rc))]) (fun y=>a.bores.length-y.1) (0,[]) _ (aA.eK (by exact hC) _ 6 90 _ (by decide) (by exact rfl) (by exact rfl) (by decide)) ⟨rfl,aG _,ak _,fun q h=>by cases h⟩ ⟨rfl,rfl,rfl,rfl,rfl,rfl,rfl,rfl,ar (fun m:Nat=>AV.p (i64 m)) lb,Z,Z,Y⟩ ⟨Z,Z,Z,Z,Z,Z,Z,Z,Z,Z,Y⟩ fun ⟨j,hl⟩ hy t h=>?_;obtain⟨V,k2,k3,k4⟩:=hy;simp only at V k2 k3 k4;apply iW<;>intro g2<;>try simp only[zB]at g2
  ·obtain⟨b,N⟩:=ax (l:=a.bores) (i:=j) (by omega);have Hg:=J b (aj N);rw[drop_at N]at V;refine⟨(bc b),(idx rfl N),_,_,(oE b i),iW ?_ ?_⟩<;>intro g3
   ·have e:dm (b::a.bores.drop (j+1)) i=bM b::dm (a.bores.drop (j+1)) i:=by rw[dm,kJ,ae (by simpa using g3)];rfl
    rw[e]at V;refine⟨_,_,(fA b Hg),⟨fun r L=>by simp at L;subst L;rfl,by simp only[E5,aQ,bX];omega,by simp only[E5,aQ,bX];omega⟩,wO (by omega),(j+1,hl++[bM b]),_,aA.refl _ _,?_⟩;exact⟨⟨by simp only[d_,GF];exact V,by simp only[bJ,ij];omega,by simp only;omega,fun q u=>by
     rcases fC.1 u with u | u
     ·exact k4 q u
     rw[Fp]at u;exact⟨b,aj N,u⟩⟩,by simp only;omega,⟨Z,Z,Z,Z,Z,Z,Z,Z,Z,Z,Z,Y⟩,⟨rfl,rfl,rfl,rfl,rfl,rfl,rfl,rfl,rfl,by rw[E8];rfl,trivial⟩⟩
   have e:dm (b::a.bores.drop (j+1)) i=dm (a.bores.drop (j+1)) i:=by rw[dm,kJ,aa (by simpa using g3)];rfl
   rw[e]at V;exact⟨wO (by omega),(j+1,hl),_,aA.refl _ _,⟨V,by simp only;omega,by simp only;omega,k4⟩,by simp only;omega,⟨Z,Z,Z,Z,Z,Z,Z,Z,Z,Z,Z,Y⟩,⟨Z,Z,Z,Z,Z,Z,Z,Z,Z,Z,Y⟩⟩
  have e:hl=dm a.bores i:=by
   rw[jR (by omega)]at V;rw[<-V];simp[dm]
  have so:=qx hl 1010000 (by omega) (by omega) (fun q u=>by obtain⟨b,hb,rfl⟩:=k4 q u;exact Reg.mC (J b hb)) (fun q u=>by obtain⟨b,hb,rfl⟩:=k4 q u;exact Reg.uC (J b hb)) (by omega);have bf:=Reg.b7 (l:=hl) fun q u=>by obtain⟨b,hb,rfl⟩:=k4 q u;exact Reg.mC (J b hb)
  have bk:=bf.2.2 1010000 fun q u=>by obtain⟨b,hb,rfl⟩:=k4 q u;exact Reg.uC (J b hb)
  have Rc:=Cy _ _ hro.sok bf.1 (hro.ink.up (by omega)) (bk.up (by omega));have hS:iL (cH r) (cH hl)=mE a.bores i r:=by rw[e];rfl
  rw[hS]at Rc;obtain⟨S,hSe⟩:∃S,S=mE a.bores i r:=⟨_,rfl⟩;rw[<-hSe]at Rc TV O R U;obtain⟨d1,d2,d3⟩:=TV;have sl:=Reg.eW d1 (by omega) d2;have sx:=Reg.rP d1 (by omega) d2;refine⟨_,_,(OM hro),_,_,so,_,_,Rc,?_⟩;have ml:=vM S (by omega) (fun t ht=>by have:=sx t ht;omega) (by omega);refine (ZE (fun XP:Bool=>XP=(ok&&decide ((told S).length<=2000))) (fun XP=>[(0,.bx 100000 0),(3,.p (bool XP)),(16,.p (.sl (a.coppers.map rr))),(17,.p (i64 a.coppers.length)),(18,.p (i64 i)),(4,.p (i64 i)),(9,.p (a_ S))]) (fun _=>[(100000,.box [.p (.sl (a.coppers.map rr)),.p (aE a.outline),.p (.sl (a.bores.map bc)),.p (.sl (a.lands.map lc)),.ow 90000,.ow 90001,.ow 90002,.ow 90003,.ow 90004,.ow 90005,.ow 90006,.ow 90007]),(90000,.row 158 (D.map fun s=>[a_ s])),(90001,.row 169 (P.map mJ)),(90002,.row 54 []),(90003,.row 59 []),(90004,.row 3 []),(90005,.row 3 []),(90006,.row 3 []),(90007,.row 177 [])]) (fun XP hok t h=>?_) ?_)
  ·have q3':(XP&&Jj a.bores ((i:Int)+1) (a.coppers.drop (i+1)))=OK:=by rw[hok,rm];exact U
   refine⟨⟨fun r L=>by simp at L;subst L;rfl,by simp only[E5,aQ,bX];omega,by simp only[E5,aQ,bX];omega⟩,_,_,(Jh S d1 (d2.up (by omega)) (by omega)),?_⟩;have pf:=Reg.O5 S;have lp:=an (iO S) fun p=>[a_ p];refine aP (fun z:Nat×List Piece=>z.2++((iO S).drop z.1).map (⟨(i:Int),·⟩)++gf a.bores ((i:Int)+1) (a.coppers.drop (i+1))=PP/\z.2.length<=25000000*i+z.1/\z.1<=(iO S).length) (fun z=>[(0,.bx 100000 0),(3,.p (bool XP)),(16,.p (.sl (a.coppers.map rr))),(17,.p (i64 a.coppers.length)),(18,.p (i64 i)),(4,.p (i64 i)),(64,.p (.sl ((iO S).map fun p=>[a_ p]))),(65,.p (i64 (iO S).length)),(66,.p (i64 z.1))]) (fun z=>[(100000,.box [.p (.sl (a.coppers.map rr)),.p (aE a.outline),.p (.sl (a.bores.map bc)),.p (.sl (a.lands.map lc)),.ow 90000,.ow 90001,.ow 90002,.ow 90003,.ow 90004,.ow 90005,.ow 90006,.ow 90007]),(90000,.row 158 ((D++[S]).map fun s=>[a_ s])),(90001,.row 169 (z.2.map mJ)),(90002,.row 54 []),(90003,.row 59 []),(90004,.row 3 []),(90005,.row 3 []),(90006,.row 3 []),(90007,.row 177 [])]) (fun z=>(iO S).length-z.1) (0,P) _ ((aA.own (by exact hC) _ 64 (id:=64) (by exact rfl) (by exact rfl)).trans ((aA.pack (by exact hC) _ 100000 (cs:=[.p (.sl (a.coppers.map rr)),.p (aE a.outline),.p (.sl (a.bores.map bc)),.p (.sl (a.lands.map lc)),.row 158 ((D++[S]).map fun s=>[a_ s]),.row 169 (P.map mJ),.row 54 [],.row 59 [],.row 3 [],.row 3 [],.row 3 [],.row 177 []]) (by exact rfl) (by exact rfl) (by exact⟨rfl,rfl,rfl,rfl,by rw[E8];rfl,Z,Z,Z,Z,Z,Z,Z,Y⟩)).trans (aA.open (by exact hC) _ 100000 [90000,90001,90002,90003,90004,90005,90006,90007] (cs:=[.p (.sl (a.coppers.map rr)),.p (aE a.outline),.p (.sl (a.bores.map bc)),.p (.sl (a.lands.map lc)),.row 158 ((D++[S]).map fun s=>[a_ s]),.row 169 (P.map mJ),.row 54 [],.row 59 [],.row 3 [],.row 3 [],.row 3 [],.row 177 []]) (by exact rfl) rfl rfl rfl))) ⟨by simp only[List.drop_zero,d_];exact R,by simp only;omega,ak _⟩ ⟨rfl,rfl,rfl,rfl,rfl,rfl,rfl,ar (fun m:Nat=>AV.p (i64 m)) lp,Z,Y⟩ ⟨Z,Z,Z,Z,Z,Z,Z,Z,Z,Y⟩ fun ⟨k,Ps⟩ hz t h=>?_;obtain⟨z1,z2,z3⟩:=hz;simp only at z1 z2 z3;apply iW<;>intro g5<;>try simp only[zB]at g5
   ·obtain⟨p,hp⟩:=ax (l:=iO S) (i:=k) (by omega);obtain⟨p1,_,_,p3⟩:=Reg.EV d1 (aj hp);have p4:=p3 _ d2;have px:=Reg.rP p1 (by omega) p4;have pb:=Reg.eW p1 (by omega) p4;have pt:=Reg.aav p1 (p4.up (by omega));rw[drop_at hp,eH]at z1;exact⟨[a_ p],(idx rfl hp),_,_,(rV p (by omega) (fun t ht=>by have:=px t ht;omega) pt),⟨fun r L=>by simp at L;subst L;rfl,by simp only[E5,aQ,bX];omega,by simp only[E5,aQ,bX];omega⟩,wO (by omega),(k+1,Ps++[Piece.mk i p]),_,((aA.pack (by exact hC) _ 100000 (cs:=[.p (.sl (a.coppers.map rr)),.p (aE a.outline),.p (.sl (a.bores.map bc)),.p (.sl (a.lands.map lc)),.row 158 ((D++[S]).map fun s=>[a_ s]),.row 169 ((Ps++[Piece.mk i p]).map mJ),.row 54 [],.row 59 [],.row 3 [],.row 3 [],.row 3 [],.row 177 []]) (by exact rfl) (by exact rfl) (by exact⟨rfl,rfl,rfl,rfl,rfl,by rw[E8 (f:=mJ)];rfl,Z,Z,Z,Z,Z,Z,Y⟩)).trans (aA.open (by exact hC) _ 100000 [90000,90001,90002,90003,90004,90005,90006,90007] (cs:=[.p (.sl (a.coppers.map rr)),.p (aE a.outline),.p (.sl (a.bores.map bc)),.p (.sl (a.lands.map lc)),.row 158 ((D++[S]).map fun s=>[a_ s]),.row 169 ((Ps++[Piece.mk i p]).map mJ),.row 54 [],.row 59 [],.row 3 [],.row 3 [],.row 3 [],.row 177 []]) (by exact rfl) rfl rfl rfl)),⟨by simp only[d_,GF,pD]at z1 ⊢;exact z1,by simp only[bJ,ij];omega,by simp only;omega⟩,by simp only;omega,⟨Z,Z,Z,Z,Z,Z,Z,Z,Z,Y⟩,⟨Z,Z,Z,Z,Z,Z,Z,Z,Z,Y⟩⟩
   rw[jR (by omega),xB,aq]at z1;exact⟨wO (by omega),(i+1,XP,D++[S],Ps),_,aA.refl _ _,⟨by simp only[d_,GF];exact O,z1,q3',by simp only[bJ,ij];omega,by simp only;omega,by simp only;omega⟩,by simp only;omega,⟨Z,Z,Z,Z,Z,Y⟩,⟨Z,Z,Z,Z,Z,Z,Z,Z,Z,Y⟩⟩
  apply iW<;>intro I
  ·have I:ok=true:=I;exact⟨_,_,ml,_,by rw[I,tG];congr 1;exact propext ⟨fun h=>by omega,fun h=>by omega⟩,⟨Z,Z,Z,Z,Z,Z,Z,Y⟩,⟨Z,Z,Z,Z,Z,Z,Z,Z,Z,Y⟩⟩
  have I:ok=false:=by simpa using I
  exact⟨false,by rw[I];rfl,⟨Z,Z,Z,Z,Z,Z,Z,Y⟩,⟨Z,Z,Z,Z,Z,Z,Z,Z,Z,Y⟩⟩
 have e:a.coppers.length<=i:=by omega
 rw[jR e]at O R U;simp only[kX,gf,Jj,aq,qJ]at O R U;subst O R U;have lP:=an P mJ;apply iW<;>intro I<;>try simp only[zB]at I
 ·have I:ok=true:=I;exact And.intro (by rw[I,tG];exact ar (fun b:Bool=>PV.im (Value.bool b)) (decide_eq_decide.2 ⟨fun h=>by rw[lP]at h;omega,fun h=>by rw[lP];omega⟩)) (And.intro ⟨Z,Z,Z,Z,Z,Z,Z,Z,Z,Z,Z,Z,Z,Y⟩ trivial)
 have I:ok=false:=by simpa using I
 exact And.intro (by rw[I];rfl) (And.intro ⟨Z,Z,Z,Z,Z,Z,Z,Z,Z,Z,Z,Z,Z,Y⟩ trivial)
open Reg (td jv fP)
theorem mF(l:List Int)(k:Int):aK (l++[k])=aK l++[[i64 k]]:=by rw[aK,E8];rfl
theorem G6(a:yr)(V:xY a)(z:List (List PV))(P:List Piece)(hP:P.length<=1000000000)(VU:∀p∈P,(told p.set).length<=4398046511104):ai C 50 [.aU [.p (.sl (a.coppers.map rr)),.p (aE a.outline),.p (.sl (a.bores.map bc)),.p (.sl (a.lands.map lc)),.row 158 z,.row 169 (P.map mJ),.row 54 [],.row 59 [],.row 3 [],.row 3 [],.row 3 [],.row 177 []]] (.tu []) [.aU [.p (.sl (a.coppers.map rr)),.p (aE a.outline),.p (.sl (a.bores.map bc)),.p (.sl (a.lands.map lc)),.row 158 z,.row 169 (P.map mJ),.row 54 ((fP a.bores P).map fun l=>[ints l]),.row 59 [],.row 3 [],.row 3 [],.row 3 [],.row 177 []]]:=by
 have lb:=an a.bores bc;have lp:=an P mJ;have Jo:=V.few;obtain⟨N,D⟩:∃N,N=fP a.bores P:=⟨_,rfl⟩;rw[<-D];refine ZG ⟨[],[],[],[],[],[]⟩ hC Tryz.func50 rfl (by kernel_rfl) fun _=>⟨_,aA.open hC _ 100000 [90000,90001,90002,90003,90004,90005,90006,90007] (by exact rfl) rfl rfl rfl,?_⟩;refine aP (fun x:Nat×List (List Int)=>x.2++fP (a.bores.drop x.1) P=N/\x.2.length<=x.1/\x.1<=a.bores.length) (fun x=>[(0,.bx 100000 0),(11,.p (.sl (a.bores.map bc))),(12,.p (i64 a.bores.length)),(13,.p (i64 x.1))]) (fun x=>[(100000,.box [.p (.sl (a.coppers.map rr)),.p (aE a.outline),.p (.sl (a.bores.map bc)),.p (.sl (a.lands.map lc)),.ow 90000,.ow 90001,.ow 90002,.ow 90003,.ow 90004,.ow 90005,.ow 90006,.ow 90007]),(90000,.row 158 z),(90001,.row 169 (P.map mJ)),(90002,.row 54 (x.2.map fun l=>[ints l])),(90003,.row 59 []),(90004,.row 3 []),(90005,.row 3 []),(90006,.row 3 []),(90007,.row 177 [])]) (fun x=>a.bores.length-x.1) (0,[]) _ (aA.refl _ _) ⟨D.symm,aG _,ak _⟩ ⟨rfl,rfl,ar (fun m:Nat=>AV.p (i64 m)) lb,Z,Y⟩ ⟨Z,Z,Z,Z,Z,Z,Z,Z,Z,Y⟩ fun ⟨i,T⟩ hx t h=>?_;obtain⟨I,q2,q3⟩:=hx;simp only at I q2 q3;apply iW<;>intro g<;>try simp only[zB]at g
 ·obtain⟨b,O⟩:=ax (l:=a.bores) (i:=i) (by omega);have Hg:=xZ (V.bor b (aj O));rw[drop_at O,fP,eH]at I;refine⟨(bc b),(idx rfl O),?_⟩;refine aP (fun y:Nat×List Int=>y.2++jv b y.1 (P.drop y.1)=jv b 0 P/\y.2.length<=y.1/\y.1<=P.length) (fun y=>[(0,.bx 100000 0),(11,.p (.sl (a.bores.map bc))),(12,.p (i64 a.bores.length)),(13,.p (i64 i)),(3,.p (.ip (bc b))),(4,.ow 4),(20,.ow 90001),(21,.p (i64 P.length)),(22,.p (i64 y.1))]) (fun y=>[(100000,.box [.p (.sl (a.coppers.map rr)),.p (aE a.outline),.p (.sl (a.bores.map bc)),.p (.sl (a.lands.map lc)),.ow 90000,.ow 90001,.ow 90002,.ow 90003,.ow 90004,.ow 90005,.ow 90006,.ow 90007]),(90000,.row 158 z),(90001,.row 169 (P.map mJ)),(90002,.row 54 (T.map fun l=>[ints l])),(90003,.row 59 []),(90004,.row 3 []),(90005,.row 3 []),(90006,.row 3 []),(90007,.row 177 []),(4,.row 3 (aK y.2))]) (fun y=>P.length-y.1) (0,[]) _ ((aA.iT (by exact hC) _ 3 (y:=.ip (bc b)) (fz:=[(3,.nd (bc b))]) (by exact⟨rfl,rfl⟩)).trans (aA.eK (by exact hC) _ 4 3 _ (by decide) (by exact rfl) (by exact rfl) (by decide))) ⟨rfl,aG _,ak _⟩ ⟨rfl,rfl,rfl,rfl,rfl,rfl,rfl,ar (fun m:Nat=>AV.p (i64 m)) lp,Z,Y⟩ ⟨Z,Z,Z,Z,Z,Z,Z,Z,Z,Z,Y⟩ fun ⟨k,l⟩ R t h=>?_;obtain⟨u,k2,k3⟩:=R;simp only at u k2 k3;have W:=cA l;apply iW<;>intro g2<;>try simp only[zB]at g2
  ·obtain⟨p,U⟩:=ax (l:=P) (i:=k) (by omega);have VR:=VU p (aj U);rw[drop_at U,jv]at u;have yes:td b p=true->l++[(k:Int)]++jv b (k+1) (P.drop (k+1))=jv b 0 P:=fun h=>by
    rw[ae h]at u;rw[d_];exact u
   have no:td b p=false->l++jv b (k+1) (P.drop (k+1))=jv b 0 P:=fun h=>by
    rw[aa (by rw[h];decide)]at u;exact u
   refine⟨⟨by omega,by (try dsimp only);omega⟩,(mJ p),(idx rfl U).2,iW ?_ ?_⟩<;>intro g3
   ·refine⟨_,_,(oE b p.layer),iW ?_ ?_⟩<;>intro g4
    ·refine⟨_,_,(CX (told p.set) (by omega) b Hg),iW ?_ ?_⟩<;>intro g5
     ·have R:=yes (by simp only[td,aJ];exact⟨⟨g3,g4⟩,g5⟩);exact⟨⟨fun r J=>by simp at J;subst J;rfl,by simp only[W,aQ,bX];omega,by simp only[W,aQ,bX];omega⟩,wO (by omega),(k+1,l++[(k:Int)]),_,aA.refl _ _,⟨R,by simp only[bJ,ij];omega,by simp only;omega⟩,by simp only;omega,⟨Z,Z,Z,Z,Z,Z,Z,Z,Z,Y⟩,⟨rfl,rfl,rfl,rfl,rfl,rfl,rfl,rfl,rfl,ar (AB.row _) (mF l k).symm,trivial⟩⟩
     have L:=no (by simp only[td];rw[F1];exact .inr g5);exact⟨wO (by omega),(k+1,l),_,aA.refl _ _,⟨L,by simp only;omega,by simp only;omega⟩,by simp only;omega,⟨Z,Z,Z,Z,Z,Z,Z,Z,Z,Y⟩,⟨Z,Z,Z,Z,Z,Z,Z,Z,Z,Z,Y⟩⟩
    have L:=no (by simp only[td];rw[g4,wS,uh]);exact⟨wO (by omega),(k+1,l),_,aA.refl _ _,⟨L,by simp only;omega,by simp only;omega⟩,by simp only;omega,⟨Z,Z,Z,Z,Z,Z,Z,Z,Z,Y⟩,⟨Z,Z,Z,Z,Z,Z,Z,Z,Z,Z,Y⟩⟩
   have L:=no (by simp only[td];rw[g3,uh,uh]);exact⟨wO (by omega),(k+1,l),_,aA.refl _ _,⟨L,by simp only;omega,by simp only;omega⟩,by simp only;omega,⟨Z,Z,Z,Z,Z,Z,Z,Z,Z,Y⟩,⟨Z,Z,Z,Z,Z,Z,Z,Z,Z,Z,Y⟩⟩
  rw[jR (by omega),jv,aq]at u;have lT:=an T fun l=>[ints l];exact⟨⟨fun r J=>by simp at J;subst J;rfl,by simp only[lT,aQ,bX];omega,by simp only[lT,aQ,bX];omega⟩,wO (by omega),(i+1,T++[l]),_,((aA.pack (by exact hC) _ 100000 (cs:=[.p (.sl (a.coppers.map rr)),.p (aE a.outline),.p (.sl (a.bores.map bc)),.p (.sl (a.lands.map lc)),.row 158 z,.row 169 (P.map mJ),.row 54 ((T++[l]).map fun l=>[ints l]),.row 59 [],.row 3 [],.row 3 [],.row 3 [],.row 177 []]) (by exact rfl) (by exact rfl) (by exact⟨rfl,rfl,rfl,rfl,rfl,rfl,by rw[E8];rfl,Z,Z,Z,Z,Z,Y⟩)).trans (aA.open (by exact hC) _ 100000 [90000,90001,90002,90003,90004,90005,90006,90007] (cs:=[.p (.sl (a.coppers.map rr)),.p (aE a.outline),.p (.sl (a.bores.map bc)),.p (.sl (a.lands.map lc)),.row 158 z,.row 169 (P.map mJ),.row 54 ((T++[l]).map fun l=>[ints l]),.row 59 [],.row 3 [],.row 3 [],.row 3 [],.row 177 []]) (by exact rfl) rfl rfl rfl)),⟨by rw[u];simp only[d_,GF];exact I,by simp only[bJ,ij];omega,by simp only;omega⟩,by simp only;omega,⟨Z,Z,Z,Z,Y⟩,⟨Z,Z,Z,Z,Z,Z,Z,Z,Z,Y⟩⟩
 rw[jR (by omega),fP,xB,aq]at I;subst I;exact And.intro rfl (And.intro ⟨Z,Z,Z,Z,Z,Z,Z,Z,Z,Z,Z,Z,Z,Y⟩ trivial)
end M
namespace Reg
def DY(l:oW)(b:dq):Bool:=(b.plated&&through b l.layer)&&oV l.x l.y (bM b)
def Jp(l:oW)(p:Piece):Bool:=decide (p.layer=l.layer)&&(told p.set).any (oV l.x l.y)
def vj(l:oW):Nat->List Piece->UK×Bool
 | _,[]=>(⟨false,0⟩,false)
 | k,p::r=>if Jp l p=true then (⟨false,k⟩,true) else vj l (k+1) r
def sr(l:oW)(ps:List Piece):Nat->List dq->UK×Bool
 | _,[]=>vj l 0 ps
 | k,b::r=>if DY l b=true then (⟨true,k⟩,true) else sr l ps (k+1) r
def x_(bs:List dq)(ps:List Piece)(l:oW):UK×Bool:=sr l ps 0 bs
def ya(m:Nat):List Int->List Int->List Int
 | [],u=>u
 | p::r,u=>ya m r (kU u p.toNat m)
def Ab(n:Nat):Nat->List (List Int)->List Int->List Int
 | _,[],u=>u
 | k,l::r,u=>Ab n (k+1) r (ya (n+k) l u)
def Lx(n nb:Nat)(T:List (List Int)):List Int:=Ab n 0 T (iota (n+nb))
theorem Jq{m:Nat}:∀(l u:List Int),UF u->m<u.length->(∀p∈l,0<=p/\p.toNat<u.length)->UF (ya m l u)/\(ya m l u).length=u.length
 | [],u,h,_,_=>⟨h,rfl⟩
 | p::r,u,h,hm,hl=>by
  obtain⟨a,b⟩:=xR h (i:=p.toNat) (k:=m) (hl p bW).2 hm;obtain⟨c,d⟩:=Jq (m:=m) r (kU u p.toNat m) a (by omega) fun q z=>by have:=hl q (cD _ z);omega
  exact⟨c,d.trans b⟩
theorem Jr{n nb:Nat}:∀(l:List (List Int)) (k:Nat) (u:List Int),UF u->u.length=n+nb->k+l.length<=nb->(∀x∈l,∀p∈x,0<=p/\p<n)->UF (Ab n k l u)/\(Ab n k l u).length=n+nb
 | [],k,u,h,hl,_,_=>⟨h,hl⟩
 | x::r,k,u,h,hl,hk,hx=>by
  simp only[bN]at hk;obtain⟨a,b⟩:=Jq (m:=n+k) x u h (by omega) fun p hp=>by have:=hx x bW p hp;omega
  exact Jr r (k+1) _ a (b.trans hl) (by omega) fun y z=>hx y (cD _ z)
theorem EY(b:dq):∀(ps:List Piece) (k:Nat),∀p∈jv b k ps,(k:Int)<=p/\p<((k+ps.length:Nat):Int)
 | [],k,p,h=>by cases h
 | q::ps,k,p,h=>by
  rw[jv]at h;have ih:=EY b ps (k+1) p;simp only[bN];split at h
  ·rcases L8.1 h with rfl | h
   ·omega
   have:=ih h;omega
  have:=ih h;omega
def pO(bs:List dq)(n g:Nat)(s:(List Int×List Int)×List Int×List Int)(i:Nat):(List Int×List Int)×List Int×List Int:=
 if i<n then ((s.1.1.set i (g:Int),s.1.2),s.2.1++[(i:Int)],s.2.2) else
 if (bs.getD (i-n) ⟨0,0,0,0,0,false⟩).plated=true then ((s.1.1,s.1.2.set (i-n) (g:Int)),s.2.1,s.2.2++[((i:Int)-n)]) else
 ((s.1.1,s.1.2.set (i-n) (-1)),s.2.1,s.2.2)
def Js(bs:List dq)(n:Nat)(s:(List Int×List Int)×List dW)(l:List Nat):(List Int×List Int)×List dW:=
 let r:=l.foldl (pO bs n s.2.length) (s.1,[],[])
 (r.1,if 0<r.2.1.length+r.2.2.length then s.2++[⟨r.2.1,r.2.2,[]⟩] else s.2)
def yb(bs:List dq)(n:Nat)(L:List (List Nat)):(List Int×List Int)×List dW:=L.foldl (Js bs n) ((List.replicate n 0,List.replicate bs.length 0),[])
structure vR where
 groups:List dW
 ofLand:List Int
 atLand:List UK
def zp(p:ByteArray×ByteArray)(g:dW):dW:={ g with pins:=g.pins++[p] }
def Ac(bs:List dq)(ps:List Piece)(o:List Int×List Int)(s:vR)(l:oW):vR:=
 let h:=x_ bs ps l;let k:Int:=if h.2=true then (if h.1.bore=true then o.2 else o.1).getD h.1.num.toNat 0 else -1
 ⟨if h.2=true then s.groups.set k.toNat (zp (l.part,l.pin) (s.groups.getD k.toNat ⟨[],[],[]⟩)) else s.groups,s.ofLand++[k],s.atLand++[h.1]⟩
end Reg
namespace M
open Go.AM Go.RowKit Go.Lib
open Reg (aB aR dq oW yr Piece UK dF gy told cH ew bM through DY Jp vj sr x_)
def jx(h:UK):List PV:=[bool h.bore,i64 h.num]
theorem Jt:Ri=Reg.oV:=rfl
theorem G7(a:yr)(ha:xY a)(l:oW)(I J L N O:List (List PV))(op ob:List Int)(P:List Piece)(hP:P.length<=1000000000)(VU:∀p∈P,(told p.set).length<=4398046511104):ai C 105 [.pv (.ip ((uR a)++[.sl I,.sl (P.map mJ),.sl J,.sl L,ints op,ints ob,.sl N,.sl O])),.pv (.ag (lc l))] (.tu [.ag (jx (x_ a.bores P l).1),bool (x_ a.bores P l).2]) []:=by
 have lb:=an a.bores bc;have lp:=an P mJ;have Jo:=ha.few;obtain⟨R,hR⟩:∃R,R=x_ a.bores P l:=⟨_,rfl⟩;rw[<-hR];refine fW hC Tryz.func105 rfl (by kernel_rfl) fun _=>?_;refine aP (fun i:Nat=>sr l P i (a.bores.drop i)=R) (fun i=>[(0,.p (.ip ((uR a)++[.sl I,.sl (P.map mJ),.sl J,.sl L,ints op,ints ob,.sl N,.sl O]))),(3,.bx 3 0),(4,.bx 4 0),(14,.p (.sl (a.bores.map bc))),(15,.p (i64 a.bores.length)),(16,.p (i64 i))]) (fun _=>[(3,.box [.p (str l.part),.p (str l.pin),.p (i64 l.layer),.p (i64 l.x),.p (i64 l.y)]),(4,.box [.p (bool false),.p (i64 0)])]) (fun i=>a.bores.length-i) 0 _ (aA.refl _ _) hR.symm ⟨rfl,rfl,rfl,rfl,ar (fun m:Nat=>AV.p (i64 m)) lb,Z,Y⟩ ⟨Z,Z,Y⟩ fun i hi t h=>?_;apply iW<;>intro g
 ·obtain⟨b,U⟩:=ax (l:=a.bores) (i:=i) (by omega);have Hg:=xZ (ha.bor b (aj U));rw[drop_at U,sr]at hi;refine⟨(bc b),(idx rfl U),?_⟩;have yes:DY l b=true->R=(⟨true,i⟩,true):=fun h=>by rw[ae h]at hi;exact hi.symm
  have no:DY l b=false->sr l P (i+1) (a.bores.drop (i+1))=R:=fun h=>by rw[aa (by rw[h];decide)]at hi;exact hi
  apply iW<;>intro z
  ·refine⟨_,_,(oE b l.layer),iW ?_ ?_⟩<;>intro D
   ·refine⟨_,_,(fA b Hg),_,_,(sj [bM b] (by simp) l.x l.y),iW ?_ ?_⟩<;>intro g3
    ·have V:=yes (by simp only[DY,aJ];exact⟨⟨z,D⟩,by simpa [Jt] using g3⟩);exact And.intro (by rw[V];rfl) trivial
    have u:=no (by simp only[DY];rw[F1];exact .inr (by simpa [Jt] using g3));exact⟨wO (by omega),(i+1),_,aA.refl _ _,u,by omega,⟨Z,Z,Z,Z,Z,Z,Y⟩,⟨Z,Z,Y⟩⟩
   have u:=no (by simp only[DY];rw[D,wS,uh]);exact⟨wO (by omega),(i+1),_,aA.refl _ _,u,by omega,⟨Z,Z,Z,Z,Z,Z,Y⟩,⟨Z,Z,Y⟩⟩
  have u:=no (by simp only[DY];rw[z,uh,uh]);exact⟨wO (by omega),(i+1),_,aA.refl _ _,u,by omega,⟨Z,Z,Z,Z,Z,Z,Y⟩,⟨Z,Z,Y⟩⟩
 rw[jR (by omega),sr]at hi;refine aP (fun k:Nat=>vj l k (P.drop k)=R) (fun k=>[(0,.p (.ip ((uR a)++[.sl I,.sl (P.map mJ),.sl J,.sl L,ints op,ints ob,.sl N,.sl O]))),(3,.bx 3 0),(4,.bx 4 0),(43,.p (.sl (P.map mJ))),(44,.p (i64 P.length)),(45,.p (i64 k))]) (fun _=>[(3,.box [.p (str l.part),.p (str l.pin),.p (i64 l.layer),.p (i64 l.x),.p (i64 l.y)]),(4,.box [.p (bool false),.p (i64 0)])]) (fun k=>P.length-k) 0 _ (aA.refl _ _) hi ⟨rfl,rfl,rfl,rfl,ar (fun m:Nat=>AV.p (i64 m)) lp,Z,Y⟩ ⟨Z,Z,Y⟩ fun k hk t h=>?_;apply iW<;>intro g5
 ·obtain⟨p,W⟩:=ax (l:=P) (i:=k) (by omega);have VR:=VU p (aj W);rw[drop_at W,vj]at hk;have yes:Jp l p=true->R=(⟨false,k⟩,true):=fun h=>by rw[ae h]at hk;exact hk.symm
  have no:Jp l p=false->vj l (k+1) (P.drop (k+1))=R:=fun h=>by rw[aa (by rw[h];decide)]at hk;exact hk
  refine⟨(mJ p),(idx rfl W),iW ?_ ?_⟩<;>intro z
  ·refine⟨_,_,(sj (told p.set) (by omega) l.x l.y),iW ?_ ?_⟩<;>intro D
   ·have V:=yes (by simp only[Jp,aJ,fV];exact⟨z,D⟩);exact And.intro (by rw[V];rfl) trivial
   have u:=no (by simp only[Jp];rw[F1];exact .inr D);exact⟨wO (by omega),(k+1),_,aA.refl _ _,u,by omega,⟨Z,Z,Z,Z,Z,Z,Y⟩,⟨Z,Z,Y⟩⟩
  have u:=no (by simp only[Jp];rw[fJ z,uh]);exact⟨wO (by omega),(k+1),_,aA.refl _ _,u,by omega,⟨Z,Z,Z,Z,Z,Z,Y⟩,⟨Z,Z,Y⟩⟩
 rw[jR (by omega),vj]at hk;exact And.intro (by rw[<-hk];rfl) trivial
theorem yc(a:yr)(hp:UK)(D I J L N:List (List PV))(op ob:List Int)(P:List Piece)(n:Nat)(z:hp.num=n)(v:Int)(u:(if hp.bore=true then ob else op)[n]?=some v):ai C 106 [.pv (.ip ((uR a)++[.sl D,.sl (P.map mJ),.sl I,.sl J,ints op,ints ob,.sl L,.sl N])),.pv (.ag (jx hp))] (.p (i64 v)) []:=by
 obtain⟨b,m⟩:=hp;simp only at z u;subst z;refine fW hC Tryz.func106 rfl (by kernel_rfl) fun _=>?_;apply iW<;>intro g<;>try simp only[zB]at g
 ·rw[ae g]at u;refine⟨[i64 v],(idx rfl u),?_,trivial⟩;rfl
 rw[aa (by rw[g];decide)]at u;refine⟨[i64 v],(idx rfl u),?_,trivial⟩;rfl
end M
namespace Reg
def VV:dq:=⟨0,0,0,0,0,false⟩
def gv(bs:List dq)(j:Nat):Bool:=(bs.getD j VV).plated
structure jP(bs:List dq)(n g:Nat)(l:List Nat)(s r:(List Int×List Int)×List Int×List Int):Prop where
 l1:r.1.1.length=s.1.1.length
 l2:r.1.2.length=s.1.2.length
 op:∀i,r.1.1[i]?=if i∈l/\i<n then some (g:Int) else s.1.1[i]?
 ob:∀j,r.1.2[j]?=if n+j∈l then some (if gv bs j=true then (g:Int) else -1) else s.1.2[j]?
 ps:∀x,x∈r.2.1↔x∈s.2.1\/∃i:Nat,i∈l/\i<n/\x=i
 bs':∀x,x∈r.2.2↔x∈s.2.2\/∃j:Nat,n+j∈l/\gv bs j=true/\x=j
theorem yd(bs:List dq)(n g:Nat):∀(l:List Nat) (s:(List Int×List Int)×List Int×List Int),s.1.1.length=n->s.1.2.length=bs.length->(∀i∈l,i<n+bs.length)->jP bs n g l s (l.foldl (pO bs n g) s)
 | [],s,_,_,_=>⟨rfl,rfl,fun i=>by simp,fun j=>by simp,fun x=>by simp,fun x=>by simp⟩
 | i::l,s,h1,h2,hl=>by
  have hi:=hl i bW;have O:∀i∈l,i<n+bs.length:=fun i h=>hl i (cD _ h);rw[jN];by_cases c:i<n
  ·have e:pO bs n g s i=((s.1.1.set i (g:Int),s.1.2),s.2.1++[(i:Int)],s.2.2):=by rw[pO,ae c]
   rw[e];have r:=yd bs n g l ((s.1.1.set i (g:Int),s.1.2),s.2.1++[(i:Int)],s.2.2) (by simp only[aQ];exact h1) h2 O;refine⟨r.l1.trans (aQ ..),r.l2,fun k=>?_,fun j=>?_,fun x=>?_,fun x=>?_⟩
   ·rw[r.op];by_cases hk:k∈l/\k<n
    ·rw[ae hk,ae ⟨cD _ hk.1,hk.2⟩]
    rw[aa hk,ky (by omega)];by_cases u:k=i
    ·subst u;rw[ae rfl,ae ⟨bW,c⟩]
    rw[aa u,aa (fun L=>hk ⟨(L8.1 L.1).resolve_left u,L.2⟩)]
   ·rw[r.ob];have:(n+j∈i::l)↔n+j∈l:=by
     rw[L8];exact⟨fun h=>h.resolve_left (by omega),.inr⟩
    simp only[this]
   ·rw[r.ps];simp only[fC,L8,Gc,or_false];constructor
    ·rintro ((h | h) | ⟨k,a,b,e⟩)
     ·exact .inl h
     ·exact .inr ⟨i,.inl rfl,c,h⟩
     exact .inr ⟨k,.inr a,b,e⟩
    rintro (h | ⟨k,a | a,b,e⟩)
    ·exact .inl (.inl h)
    ·exact .inl (.inr (by rw[e,a]))
    exact .inr ⟨k,a,b,e⟩
   rw[r.bs'];simp only[L8];constructor
   ·rintro (h | ⟨k,a,b⟩)
    ·exact .inl h
    exact .inr ⟨k,.inr a,b⟩
   rintro (h | ⟨k,a | a,b⟩)
   ·exact .inl h
   ·omega
   exact .inr ⟨k,a,b⟩
  have R:(bs.getD (i-n) ⟨0,0,0,0,0,false⟩).plated=gv bs (i-n):=rfl;have z:∀k,(k∈i::l/\k<n)↔(k∈l/\k<n):=fun k=>by
   rw[L8];exact⟨fun h=>⟨h.1.resolve_left (by omega),h.2⟩,fun h=>⟨.inr h.1,h.2⟩⟩
  have D:∀x:Int,(∃k:Nat,k∈i::l/\k<n/\x=k)↔(∃k:Nat,k∈l/\k<n/\x=k):=fun x=>
   ⟨fun ⟨k,a,b,e⟩=>⟨k,((z k).1 ⟨a,b⟩).1,b,e⟩,fun ⟨k,a,b,e⟩=>⟨k,cD _ a,b,e⟩⟩
  have I:∀(o:List Int) (v:Int) (j:Nat),o.length=bs.length->(v=if gv bs (i-n)=true then (g:Int) else -1)->(if n+j∈l then some (if gv bs j=true then (g:Int) else -1) else (o.set (i-n) v)[j]?)=if n+j∈i::l then some (if gv bs j=true then (g:Int) else -1) else o[j]?:=fun o v j ho U=>by
   by_cases N:n+j∈l
   ·rw[ae N,ae (cD _ N)]
   rw[aa N,ky (by omega)];by_cases J:j=i-n
   ·subst J;rw[ae rfl,ae (L8.2 (.inl (by omega))),U]
   rw[aa J,aa (fun L=>N ((L8.1 L).resolve_left (by omega)))]
  by_cases p:gv bs (i-n)=true
  ·have e:pO bs n g s i=((s.1.1,s.1.2.set (i-n) (g:Int)),s.2.1,s.2.2++[((i:Int)-n)]):=by rw[pO,aa c,R,ae p]
   rw[e];have r:=yd bs n g l ((s.1.1,s.1.2.set (i-n) (g:Int)),s.2.1,s.2.2++[((i:Int)-n)]) h1 (by simp only[aQ];exact h2) O;refine⟨r.l1,r.l2.trans (aQ ..),fun k=>?_,fun j=>?_,fun x=>?_,fun x=>?_⟩
   ·rw[r.op];simp only[z]
   ·rw[r.ob];exact I _ _ _ h2 (by rw[ae p])
   ·rw[r.ps,D]
   rw[r.bs'];simp only[fC,L8,Gc,or_false];constructor
   ·rintro ((h | h) | ⟨k,a,b,e⟩)
    ·exact .inl h
    ·exact .inr ⟨i-n,.inl (by omega),p,by omega⟩
    exact .inr ⟨k,.inr a,b,e⟩
   rintro (h | ⟨k,a | a,b,e⟩)
   ·exact .inl (.inl h)
   ·exact .inl (.inr (by omega))
   exact .inr ⟨k,a,b,e⟩
  have e:pO bs n g s i=((s.1.1,s.1.2.set (i-n) (-1)),s.2.1,s.2.2):=by rw[pO,aa c,R,aa p]
  rw[e];have r:=yd bs n g l ((s.1.1,s.1.2.set (i-n) (-1)),s.2.1,s.2.2) h1 (by simp only[aQ];exact h2) O;refine⟨r.l1,r.l2.trans (aQ ..),fun k=>?_,fun j=>?_,fun x=>?_,fun x=>?_⟩
  ·rw[r.op];simp only[z]
  ·rw[r.ob];exact I _ _ _ h2 (by rw[aa p])
  ·rw[r.ps,D]
  rw[r.bs'];simp only[L8];constructor
  ·rintro (h | ⟨k,a,b⟩)
   ·exact .inl h
   exact .inr ⟨k,.inr a,b⟩
  rintro (h | ⟨k,a | a,b,e⟩)
  ·exact .inl h
  ·have:k=i-n:=by omega
   rw[this]at b;exact absurd b p
  exact .inr ⟨k,a,b,e⟩
structure Sx(bs:List dq)(n:Nat)(D:List (List Nat))(s:(List Int×List Int)×List dW):Prop where
 l1:s.1.1.length=n
 l2:s.1.2.length=bs.length
 a:∀i,i<n->(∃l∈D,i∈l)->∃(k:Nat) (g:dW),s.1.1[i]?=some (k:Int)/\s.2[k]?=some g/\(i:Int)∈g.pieces
 b:∀j,j<bs.length->gv bs j=true->(∃l∈D,n+j∈l)->∃(k:Nat) (g:dW),s.1.2[j]?=some (k:Int)/\s.2[k]?=some g/\(j:Int)∈g.bores
 c:∀(k:Nat) g,s.2[k]?=some g->g.pins=[]/\∀x∈g.pieces,∃i:Nat,x=i/\i<n/\s.1.1[i]?=some (k:Int)/\∃l∈D,i∈l
 d:∀j,j<bs.length->gv bs j=false->(∃l∈D,n+j∈l)->s.1.2[j]?=some (-1)
variable {bs:List dq}
theorem O_{n:Nat}{D:List (List Nat)}{s:(List Int×List Int)×List dW}(h:Sx bs n D s){l:List Nat}(hl:∀i∈l,i<n+bs.length)(hd:∀J∈D,∀i∈J,¬i∈l):Sx bs n (D++[l]) (Js bs n s l):=by
 have r:=yd bs n s.2.length l (s.1,[],[]) h.l1 h.l2 hl;obtain⟨q,hq⟩:∃q,q=l.foldl (pO bs n s.2.length) (s.1,[],[]):=⟨_,rfl⟩;rw[<-hq]at r;have hs:Js bs n s l=(q.1,if 0<q.2.1.length+q.2.2.length then s.2++[⟨q.2.1,q.2.2,[]⟩] else s.2):=by rw[hq];rfl
 rw[hs];have O:∀x,x∈q.2.1↔∃i:Nat,i∈l/\i<n/\x=i:=fun x=>by rw[r.ps];simp
 have R:∀x,x∈q.2.2↔∃j:Nat,n+j∈l/\gv bs j=true/\x=j:=fun x=>by rw[r.bs'];simp
 have keep:∀(k:Nat) g,s.2[k]?=some g->(if 0<q.2.1.length+q.2.2.length then s.2++[⟨q.2.1,q.2.2,[]⟩] else s.2)[k]?=some g:=fun k g hk=>by
  split
  ·rw[dN (az.1 hk).1];exact hk
  exact hk
 have U:∀x,(x∈q.2.1\/x∈q.2.2)->(if 0<q.2.1.length+q.2.2.length then s.2++[(⟨q.2.1,q.2.2,[]⟩:dW)] else s.2)[s.2.length]?=some ⟨q.2.1,q.2.2,[]⟩:=fun x V=>by
  have:0<q.2.1.length+q.2.2.length:=by rcases V with h | h<;>(have:=nL h;omega)
  rw[ae this,du (aG _),jL];rfl
 have W:∀i,(∃J∈D++[l],i∈J)↔(∃J∈D,i∈J)\/i∈l:=fun i=>by
  constructor
  ·rintro⟨J,z,I⟩;rcases fC.1 z with z | z
   ·exact .inl ⟨J,z,I⟩
   rw[Fp]at z;subst z;exact .inr I
  rintro (⟨J,z,I⟩ | I)
  ·exact⟨J,q_ _ z,I⟩
  exact⟨l,tJ _ (Fp.2 rfl),I⟩
 refine⟨r.l1.trans h.l1,r.l2.trans h.l2,fun i hi L=>?_,fun j Z hp L=>?_,fun k g hk=>?_,fun j Z hp L=>?_⟩
 ·by_cases u:i∈l
  ·refine⟨s.2.length,_,by rw[r.op,ae ⟨u,hi⟩],U i (.inl ((O _).2 ⟨i,u,hi,rfl⟩)),(O _).2 ⟨i,u,hi,rfl⟩⟩
  obtain⟨k,g,z,I,h3⟩:=h.a i hi (((W i).1 L).resolve_right u);exact⟨k,g,by rw[r.op,aa (fun Y=>u Y.1)];exact z,keep k g I,h3⟩
 ·by_cases u:n+j∈l
  ·refine⟨s.2.length,_,by rw[r.ob,ae u,ae hp],U j (.inr ((R _).2 ⟨j,u,hp,rfl⟩)),(R _).2 ⟨j,u,hp,rfl⟩⟩
  obtain⟨k,g,z,I,h3⟩:=h.b j Z hp (((W _).1 L).resolve_right u);exact⟨k,g,by rw[r.ob,aa u];exact z,keep k g I,h3⟩
 ·by_cases Yg:k<s.2.length
  ·have AI:s.2[k]?=some g:=by
    have e:=keep k s.2[k] (oX Yg);have e2:=hk.symm.trans e;injection e2 with e2;rw[e2];exact oX Yg
   obtain⟨c1,c2⟩:=h.c k g AI;refine⟨c1,fun x V=>?_⟩;obtain⟨i,e,hi,ho,L⟩:=c2 x V;have u:¬i∈l:=fun Y=>by
    obtain⟨J,z,I⟩:=L;exact hd J z i I Y
   exact⟨i,e,hi,by rw[r.op,aa (fun Y=>u Y.1)];exact ho,(W i).2 (.inl L)⟩
  have N:(if 0<q.2.1.length+q.2.2.length then s.2++[(⟨q.2.1,q.2.2,[]⟩:dW)] else s.2)[k]?=some g:=hk;split at N
  ·rw[du (by omega)]at N;have KR:k=s.2.length:=by
    have:=(az.1 N).1;simp at this;omega
   rw[KR,jL]at N;injection N with N;subst N;subst KR;refine⟨rfl,fun x V=>?_⟩;obtain⟨i,u,hi,e⟩:=(O x).1 V;exact⟨i,e,hi,by rw[r.op,ae ⟨u,hi⟩],(W i).2 (.inr u)⟩
  exact absurd (az.1 N).1 Yg
 by_cases u:n+j∈l
 ·rw[r.ob,ae u,hp];rfl
 rw[r.ob,aa u];exact h.d j Z hp (((W _).1 L).resolve_right u)
theorem Ju{n:Nat}:∀(L D:List (List Nat)) (s:(List Int×List Int)×List dW),Sx bs n D s->(∀l∈L,∀i∈l,i<n+bs.length)->(∀u∈D,∀l∈L,∀i∈u,¬i∈l)->(L.Pairwise fun u l=>∀i∈u,¬i∈l)->Sx bs n (D++L) (L.foldl (Js bs n) s)
 | [],D,s,h,_,_,_=>by rw[aq];exact h
 | l::L,D,s,h,hl,I,hp=>by
  have z:=pw.1 hp;have N:=O_ h (hl l bW) fun u O=>I u O l bW;have:=Ju L (D++[l]) (Js bs n s l) N (fun u h'=>hl u (cD _ h')) (fun u h' m J i hi=>by
   rcases fC.1 h' with h' | h'
   ·exact I u h' m (cD _ J) i hi
   rw[Fp]at h';subst h';exact z.1 m J i hi) z.2
  rw[d_,GF]at this;exact this
structure th(bs:List dq)(n:Nat)(s:(List Int×List Int)×List dW):Prop where
 l1:s.1.1.length=n
 l2:s.1.2.length=bs.length
 a:∀i,i<n->∃(k:Nat) (g:dW),s.1.1[i]?=some (k:Int)/\s.2[k]?=some g/\(i:Int)∈g.pieces
 b:∀j,j<bs.length->gv bs j=true->∃(k:Nat) (g:dW),s.1.2[j]?=some (k:Int)/\s.2[k]?=some g/\(j:Int)∈g.bores
 c:∀(k:Nat) g,s.2[k]?=some g->g.pins=[]/\∀x∈g.pieces,∃i:Nat,x=i/\i<n/\s.1.1[i]?=some (k:Int)
 d:∀j,j<bs.length->gv bs j=false->s.1.2[j]?=some (-1)
theorem Pa{n:Nat}{u:List Int}(L:UF u)(hl:u.length=n+bs.length):th bs n (yb bs n (a7 (kV u) (n+bs.length))):=by
 have I:=Bg L;rw[hl]at I;have N:Sx bs n [] ((List.replicate n 0,List.replicate bs.length 0),[]):=⟨bX,bX,fun i _ ⟨l,h,_⟩=>(by cases h),fun j _ _ ⟨l,h,_⟩=>(by cases h),fun k g h=>by simp at h,fun j _ _ ⟨l,h,_⟩=>(by cases h)⟩;have z:=Ju (a7 (kV u) (n+bs.length)) [] _ N (fun l h i hi=>by
  obtain⟨r,_,rfl⟩:=aZ.1 h;exact (pM.1 hi).1) (fun l' h=>by cases h) (by
  rw[a7,gM];refine (CO _ _).imp fun {r q} O=>?_;intro i hi R;exact O ((pM.1 hi).2.symm.trans (pM.1 R).2))
 have D:∀i,i<n+bs.length->∃l∈[]++a7 (kV u) (n+bs.length),i∈l:=fun i hi=>by
  refine⟨kj (kV u) (n+bs.length) (kV u i),?_,pM.2 ⟨hi,rfl⟩⟩;rw[ur,a7];exact aZ.2 ⟨kV u i,mem_keys.2 ⟨by have:=I.le i hi;omega,I.top i hi⟩,rfl⟩
 exact⟨z.l1,z.l2,fun i hi=>z.a i hi (D i (by omega)),fun j J hp=>z.b j J hp (D (n+j) (by omega)),fun k g hk=>⟨(z.c k g hk).1,fun x U=>by obtain⟨i,a,b,c,_⟩:=(z.c k g hk).2 x U;exact⟨i,a,b,c⟩⟩,fun j J hp=>z.d j J hp (D (n+j) (by omega))⟩
theorem Jv(l:oW):∀(ps:List Piece) (k:Nat),(vj l k ps).2=true->∃m:Nat,(vj l k ps).1=⟨false,m⟩/\k<=m/\m<k+ps.length
 | [],k,h=>by cases h
 | p::ps,k,h=>by
  rw[vj]at h ⊢;by_cases c:Jp l p=true
  ·rw[ae c];exact⟨k,rfl,aG _,by simp⟩
  rw[aa c]at h ⊢;obtain⟨m,a,b,d⟩:=Jv l ps (k+1) h;exact⟨m,a,by omega,by simp only[bN];omega⟩
theorem Jw(l:oW)(ps:List Piece):∀(bs:List dq) (k:Nat),(sr l ps k bs).2=true->(∃m:Nat,(sr l ps k bs).1=⟨false,m⟩/\m<ps.length)\/∃m:Nat,(sr l ps k bs).1=⟨true,m⟩/\k<=m/\m<k+bs.length/\gv bs (m-k)=true
 | [],k,h=>by
  rw[sr]at h ⊢;obtain⟨m,a,_,b⟩:=Jv l ps 0 h;exact .inl ⟨m,a,by omega⟩
 | b::bs,k,h=>by
  rw[sr]at h ⊢;by_cases c:DY l b=true
  ·rw[ae c];simp only[DY,aJ]at c;exact .inr ⟨k,rfl,aG _,by simp,by rw[jL];exact c.1.1⟩
  rw[aa c]at h ⊢;rcases Jw l ps bs (k+1) h with⟨m,a,d⟩ | ⟨m,a,d,e,f⟩
  ·exact .inl ⟨m,a,d⟩
  refine .inr ⟨m,a,by omega,by simp only[bN];omega,?_⟩;rw[show m-k=(m-(k+1))+1 by omega];exact f
theorem Pb{ps:List Piece}{s:(List Int×List Int)×List dW}(h:th bs ps.length s)(l:oW)(D:(x_ bs ps l).2=true):∃m k:Nat,(x_ bs ps l).1.num=m/\(if (x_ bs ps l).1.bore=true then s.1.2 else s.1.1)[m]?=some (k:Int)/\k<s.2.length:=by
 rcases Jw l ps bs 0 D with⟨m,a,d⟩ | ⟨m,a,_,d,e⟩
 ·obtain⟨k,g,u,z,_⟩:=h.a m d;refine⟨m,k,by rw[x_,a],?_,(az.1 z).1⟩;rw[x_,a];exact u
 obtain⟨k,g,u,z,_⟩:=h.b m (by omega) e;refine⟨m,k,by rw[x_,a],?_,(az.1 z).1⟩;rw[x_,a];exact u
end Reg
end Go.Proofs.YtliffnpbaeijgaaGreatDoor
