/- Part 9 of the proof of RulesRoomMatchSpec. -/
import Derived.Test.YtfloceomobknoaaGreatDoorR08
set_option linter.unusedVariables false
set_option linter.unusedSimpArgs false
set_option maxRecDepth 100000
set_option maxHeartbeats 8000000
namespace Go
abbrev aed:=@List.length_pos_of_mem
abbrev abO:=@List.nodup_iff_pairwise_ne
abbrev ac3:=@List.map_eq_nil_iff
abbrev aee:=@List.singleton_append
end Go
namespace Go.Proofs.YtfloceomobknoaaGreatDoor
namespace M
open Go.AM Go.RowKit Go.Lib
open Reg (UF eh cw iota gj bg kK ov meets pW jE ox cV bE cv an ae told aB bw)
theorem getD_at{l:List ae}{i:Nat}{r:ae}(h:l[i]?=some r):l.getD i bg=r:=by rw[aav,h];rfl
def qK(s:List an)(k:Nat):Option an:=if k=0 then none else s[k-1]?
theorem prev_next{s:List an}{k:Nat}{b:an}(h:s[k]?=some b):qK s (k+1)=some b:=by rw[qK,aaa (by omega)];exact h
theorem KL(b:an)(s:List an):(told (b::s)).length=b.xs.length+(told s).length:=by simp[told]
theorem KM(l:Reg.aU):((((flat l).map fun n=>[i64 n]).length:Nat):Int).tdiv 2=(l.length:Nat):=by
 rw[aej,eY,aco (by omega)];omega
theorem Fi(s:List an)(hs:bE s)(ks:cv 1400000 s)(hN:(told s).length<=1000000000):af C 177 [.pv (aw s)] (.own 59 ((cV s).map fun p=>[aw p])) []:=by
 have ls:=Reg.ahe hs (by omega) ks;have lx:=Reg.kT hs (by omega) ks;have lt:=Reg.fj hs ks;have ms:=ai s hb;obtain⟨N,Vo⟩:∃N,N=(told s).length:=⟨_,rfl⟩;have la:=ai (told s) rc;refine uX ⟨[19,36],[],[(36,[17,1000017,19,1000019,136])],[36],[],[]⟩ hC Tryz.func177 rfl (by kernel_rfl) fun _=>?_;refine⟨_,_,(ae6 s (by omega) (fun t ht=>by have:=lx t ht;omega) lt),⟨by omega,by omega,by dsimp only;omega,by omega⟩,?_⟩;refine aJ (fun i:Nat=>i<=N) (fun i=>[(0,.p (aw s)),(3,.p (aj (told s))),(4,.bx 4 0),(32,.p (i64 N)),(33,.p (i64 i))]) (fun i=>[(4,.box [.ow 30]),(30,.row 3 (aA (sR N i)))]) (fun i=>N-i) 0 _ (au.own (by exact hC) _ 3 (id:=3) (by exact rfl) (by exact rfl)) (aaj _) ⟨rfl,rfl,rfl,adV (fun m:Nat=>AV.p (i64 m)) (by rw[Vo];simp),Z,Y⟩ ⟨rfl,by rw[BK,Vo,<-la];rfl,trivial⟩ fun i hi t h=>?_;have lv:=bQ (sR N i);have lu:=zp N i;apply iW<;>intro h1
 ·exact⟨⟨by omega,by rw[lv];omega⟩,[i64 0],(cM (Fc (by omega))),wO (by omega),(i+1),_,au.refl _ _,by omega,by omega,⟨Z,Z,Z,Z,Z,Y⟩,⟨rfl,adV (AB.row _) ((fV _ _ _).trans (by rw[aaS,Ff (by omega)])),trivial⟩⟩
 have e:i=N:=by omega
 subst e;rw[Fe];obtain⟨U,hU⟩:∃U,U=jE s:=⟨_,rfl⟩;obtain⟨all,aeL⟩:∃all,all=told s:=⟨_,rfl⟩;have hU':pW all none s (iota i) 0 0=U:=by rw[hU,Vo,aeL];rfl
 have Zv:all.length=i:=by rw[Vo,aeL]
 rw[<-aeL]at la ⊢;refine aJ (fun x:Nat×List Int×Nat×Nat=>pW all (qK s x.1) (s.drop x.1) x.2.1 x.2.2.1 x.2.2.2=U/\UF x.2.1/\x.2.1.length=i/\x.2.2.1+(told (s.drop x.1)).length=i/\x.2.2.2<=x.2.2.1/\x.1<=s.length) (fun x=>[(0,.p (aw s)),(3,.p (aj all)),(4,.bx 4 0),(6,.fn 242 [.bx 4 0]),(7,.p (i64 x.2.2.1)),(8,.p (i64 x.2.2.2)),(42,.p (aw s)),(43,.p (i64 s.length)),(44,.p (i64 x.1))]) (fun x=>[(4,.aN [.row 3 (aA x.2.1)])]) (fun x=>s.length-x.1) (0,iota i,0,0) _ (au.pack (by exact hC) _ 4 (cs:=[.row 3 (aA (iota i))]) (by exact rfl) (by exact rfl) (by exact⟨Z,Y⟩)) ⟨hU',Reg.ny _,Reg.aeM _,by simp only[List.drop_zero,abC];rw[Vo],aam _,aaj _⟩ ⟨rfl,rfl,rfl,rfl,rfl,rfl,rfl,adV (fun m:Nat=>AV.p (i64 m)) ms,Z,Y⟩ ⟨Z,Y⟩ fun ⟨k,u,f,g⟩ W t h=>?_;obtain⟨L,c2,c3,c4,c5,c6⟩:=W;simp only at L c2 c3 c4 c5 c6;apply iW<;>intro g1<;>try simp only[zB]at g1
 ·obtain⟨b,BD⟩:=ak (l:=s) (i:=k) (by omega);rw[drop_at BD]at L c4;rw[KL]at c4;rw[pW,<-prev_next BD]at L;have hf:=KM b.xs;have lf:((flat b.xs).map fun n=>[i64 n]).length=2*b.xs.length:=by rw[aej,eY]
  refine⟨(hb b),(idx rfl BD),by decide,⟨by rw[hf];omega,by rw[hf];omega⟩,?_⟩;have skip:Reg.meets (qK s k) b=false->pW all (qK s (k+1)) (s.drop (k+1)) u (f+b.xs.length) f=U:=fun hm=>by
   rw[hm]at L;exact L
  apply iW<;>intro g2<;>try simp only[zB]at g2
  ·obtain⟨q,hq⟩:=ak (l:=s) (i:=k-1) (by omega);have hpv:qK s k=some q:=by rw[qK,aaa (by omega)];exact hq
   refine⟨wO (by omega),(hb q),(idx (show (k:Int)-1=((k-1:Nat):Int) by omega) hq),iW ?_ ?_⟩<;>intro g3
   ·have hm:Reg.meets (qK s k) b=true:=by rw[hpv];simpa [Reg.meets] using g3
    rw[hm,aap rfl]at L;refine aJ (fun y:Nat×List Int×Nat×Nat=>ov all f (f+b.xs.length) y.1 y.2.1 y.2.2.1 y.2.2.2=ov all f (f+b.xs.length) (f-g+b.xs.length) u g f/\UF y.2.1/\y.2.1.length=i/\(f-y.2.2.1)+(f+b.xs.length-y.2.2.2)<=y.1/\y.2.2.1<=f/\y.2.2.2<=f+b.xs.length) (fun y=>[(0,.p (aw s)),(3,.p (aj all)),(4,.bx 4 0),(6,.fn 242 [.bx 4 0]),(7,.p (i64 f)),(8,.p (i64 g)),(42,.p (aw s)),(43,.p (i64 s.length)),(44,.p (i64 k)),(11,.p (i64 b.xs.length)),(12,.p (i64 y.2.2.1)),(13,.p (i64 y.2.2.2))]) (fun y=>[(4,.aN [.row 3 (aA y.2.1)])]) (fun y=>(f-y.2.2.1)+(f+b.xs.length-y.2.2.2)) (f-g+b.xs.length,u,g,f) _ (au.refl _ _) ⟨rfl,c2,c3,by simp only;omega,by simp only;omega,by simp only;omega⟩ ⟨rfl,rfl,rfl,rfl,rfl,rfl,rfl,rfl,rfl,by rw[<-hf];rfl,Z,Z,Y⟩ ⟨Z,Y⟩ fun ⟨n,v,p,D⟩ hy t h=>?_;obtain⟨z1,z2,z3,z4,z5,z6⟩:=hy;simp only at z1 z2 z3 z4 z5 z6;have stop:¬(p<f/\D < f+b.xs.length)->v=ov all f (f+b.xs.length) (f-g+b.xs.length) u g f:=fun O=>by
     rw[<-z1];cases n with
     | zero=>rfl
     | succ n=>rw[ov,aaa O]
    apply iW<;>intro e1<;>try simp only[zB]at e1
    ·refine⟨wO (by omega),iW ?_ ?_⟩<;>intro e2<;>try simp only[zB]at e2
     ·obtain⟨n,rfl⟩:∃n',n=n'+1:=⟨n-1,by omega⟩;rw[ov,aap (by omega)]at z1;obtain⟨x,W⟩:=ak (l:=all) (i:=p) (by omega);obtain⟨y,hy⟩:=ak (l:=all) (i:=D) (by omega);rw[getD_at W,getD_at hy]at z1;have Ln:∀(w:List Int),(if kK x y=true then gj v p D else v)=w->(x.x1<y.x1->ov all f (f+b.xs.length) n w (p+1) D=ov all f (f+b.xs.length) (f-g+b.xs.length) u g f)/\(¬x.x1<y.x1->ov all f (f+b.xs.length) n w p (D+1)=ov all f (f+b.xs.length) (f-g+b.xs.length) u g f):=fun w hw=>by
       rw[hw]at z1;exact⟨fun O=>by rw[aap O,aap O]at z1;exact z1,fun O=>by rw[aaa O,aaa O]at z1;exact z1⟩
      refine⟨(rc x),(idx rfl W),(rc y),(idx rfl hy),iW ?_ ?_⟩<;>intro e3
      ·refine⟨(rc y),(idx rfl hy),(rc x),(idx rfl W),iW ?_ ?_⟩<;>intro e4
       ·have Ln:=Ln _ (aap (by simp only[kK,aaZ,aaH];exact⟨e3,e4⟩));have a:=Reg.fU p v p z2 (by omega) (aam _);have b':=Reg.fU D (cw p v p).1 D a.uf (by rw[a.len];omega) (aam _);have ra:=(aao.1 ((b'.same _ _).2 ((a.same _ _).2 a.root)).top).1;have rb:=(aao.1 ((b'.same _ _).2 b'.root).top).1;have E9:((max ((cw p v p).2:Int) ((cw D (cw p v p).1 D).2:Int))).toNat=max (cw p v p).2 (cw D (cw p v p).1 D).2:=by omega
        have lv:=bQ (cw D (cw p v p).1 D).1;obtain⟨ju,jl⟩:=Reg.mC z2 (i:=p) (k:=D) (by omega) (by omega);refine⟨_,_,(vI v z2 p (by omega)),_,_,(vI (cw p v p).1 a.uf D (by rw[a.len];omega)),?_⟩;refine qy (au.open (by exact hC) _ 4 [30] (by exact rfl) rfl rfl rfl) ?_;obtain⟨z,hz⟩:∃z,(cw D (cw p v p).1 D).1[max (cw p v p).2 (cw D (cw p v p).1 D).2]?=some z:=⟨_,acg (by omega)⟩;refine⟨⟨by omega,by rw[lv];omega⟩,[i64 z],(by rw[E9];exact cM hz),?_⟩;have mT:∀(m:Nat) (c:Int),m=max (cw p v p).2 (cw D (cw p v p).1 D).2->c=min ((cw p v p).2:Int) ((cw D (cw p v p).1 D).2:Int)->AB.row 3 ((aA (cw D (cw p v p).1 D).1).set m [i64 c])=AB.row 3 (aA (gj v p D)):=fun m c e1 e2=>by
         subst e1;subst e2;rw[fV,gj];congr 3;omega
        refine⟨(rc x),(idx rfl W),(rc y),(idx rfl hy),iW ?_ ?_⟩<;>intro e5
        ·have R:=Ln.1 e5;exact⟨⟨by dsimp only;omega,by dsimp only;omega⟩,(n,gj v p D,p+1,D),_,au.pack (by exact hC) _ 4 (cs:=[.row 3 (aA (gj v p D))]) (by exact rfl) (by exact rfl) (by exact⟨mT _ _ E9 rfl,trivial⟩),⟨R,ju,jl.trans z3,by simp only;omega,by simp only;omega,by simp only;omega⟩,by simp only;omega,⟨Z,Z,Z,Z,Z,Z,Z,Z,Z,Z,Z,Z,Y⟩,⟨Z,Y⟩⟩
        have R:=Ln.2 e5;exact⟨⟨by dsimp only;omega,by dsimp only;omega⟩,(n,gj v p D,p,D+1),_,au.pack (by exact hC) _ 4 (cs:=[.row 3 (aA (gj v p D))]) (by exact rfl) (by exact rfl) (by exact⟨mT _ _ E9 rfl,trivial⟩),⟨R,ju,jl.trans z3,by simp only;omega,by simp only;omega,by simp only;omega⟩,by simp only;omega,⟨Z,Z,Z,Z,Z,Z,Z,Z,Z,Z,Z,Z,Y⟩,⟨Z,Y⟩⟩
       have Ln:=Ln _ (aaa (by simp only[kK,aaZ,aaH];exact fun O=>e4 O.2));refine⟨(rc x),(idx rfl W),(rc y),(idx rfl hy),iW ?_ ?_⟩<;>intro e5
       ·have R:=Ln.1 e5;exact⟨⟨by dsimp only;omega,by dsimp only;omega⟩,(n,v,p+1,D),_,au.refl _ _,⟨R,z2,z3,by simp only;omega,by simp only;omega,by simp only;omega⟩,by simp only;omega,⟨Z,Z,Z,Z,Z,Z,Z,Z,Z,Z,Z,Z,Y⟩,⟨Z,Y⟩⟩
       have R:=Ln.2 e5;exact⟨⟨by dsimp only;omega,by dsimp only;omega⟩,(n,v,p,D+1),_,au.refl _ _,⟨R,z2,z3,by simp only;omega,by simp only;omega,by simp only;omega⟩,by simp only;omega,⟨Z,Z,Z,Z,Z,Z,Z,Z,Z,Z,Z,Z,Y⟩,⟨Z,Y⟩⟩
      have Ln:=Ln _ (aaa (by simp only[kK,aaZ,aaH];exact fun O=>e3 O.1));refine⟨(rc x),(idx rfl W),(rc y),(idx rfl hy),iW ?_ ?_⟩<;>intro e5
      ·have R:=Ln.1 e5;exact⟨⟨by dsimp only;omega,by dsimp only;omega⟩,(n,v,p+1,D),_,au.refl _ _,⟨R,z2,z3,by simp only;omega,by simp only;omega,by simp only;omega⟩,by simp only;omega,⟨Z,Z,Z,Z,Z,Z,Z,Z,Z,Z,Z,Z,Y⟩,⟨Z,Y⟩⟩
      have R:=Ln.2 e5;exact⟨⟨by dsimp only;omega,by dsimp only;omega⟩,(n,v,p,D+1),_,au.refl _ _,⟨R,z2,z3,by simp only;omega,by simp only;omega,by simp only;omega⟩,by simp only;omega,⟨Z,Z,Z,Z,Z,Z,Z,Z,Z,Z,Z,Z,Y⟩,⟨Z,Y⟩⟩
     have st:=stop (by omega);exact⟨wO (by omega),wO (by omega),(k+1,v,f+b.xs.length,f),_,au.refl _ _,⟨by rw[st];exact L,z2,z3,by simp only;omega,by simp only;omega,by simp only;omega⟩,by omega,⟨Z,Z,Z,Z,Z,Z,Z,Z,Z,Y⟩,⟨Z,Y⟩⟩
    have st:=stop (by omega);exact⟨wO (by omega),wO (by omega),(k+1,v,f+b.xs.length,f),_,au.refl _ _,⟨by rw[st];exact L,z2,z3,by simp only;omega,by simp only;omega,by simp only;omega⟩,by omega,⟨Z,Z,Z,Z,Z,Z,Z,Z,Z,Y⟩,⟨Z,Y⟩⟩
   have hm:Reg.meets (qK s k) b=false:=by rw[hpv];simpa [Reg.meets] using g3
   have L:=skip hm;exact⟨⟨by rw[hf];dsimp only;omega,by rw[hf];dsimp only;omega⟩,wO (by omega),(k+1,u,f+b.xs.length,f),_,au.refl _ _,⟨L,c2,c3,by simp only;omega,by simp only;omega,by simp only;omega⟩,by omega,⟨rfl,rfl,rfl,rfl,by rw[hf];rfl,Z,Z,Z,Z,Y⟩,⟨Z,Y⟩⟩
  have hm:Reg.meets (qK s k) b=false:=by rw[qK,aap (by omega)];rfl
  have L:=skip hm;exact⟨⟨by rw[hf];dsimp only;omega,by rw[hf];dsimp only;omega⟩,wO (by omega),(k+1,u,f+b.xs.length,f),_,au.refl _ _,⟨L,c2,c3,by simp only;omega,by simp only;omega,by simp only;omega⟩,by omega,⟨rfl,rfl,rfl,rfl,by rw[hf];rfl,Z,Z,Z,Z,Y⟩,⟨Z,Y⟩⟩
 have e:s.length<=k:=by omega
 rw[aaz e]at L c4;have L:u=U:=L;subst L;have akA:cV s=((Reg.aP (Reg.cQ u) i).map fun l=>l.map fun m=>all.getD m bg).map Reg.aB:=by rw[cV,ox,<-hU,<-aeL,Zv]
 rw[akA];obtain⟨p,hp⟩:∃p,p=Reg.cQ u:=⟨_,rfl⟩;have hT:Reg.Dg p i:=by rw[hp,<-c3];exact Reg.rz c2
 rw[<-hp];obtain⟨J,Zw⟩:∃J,J=fun m=>rc (all.getD m bg):=⟨_,rfl⟩;refine aJ (fun x:Nat×List (Value×PV)=>x.1<=i/\(∀(k r:Nat),(Reg.cd p x.1)[k]?=some r->kz x.2 (.int .i64 r)=some (i64 k))/\∀r:Nat,¬r∈Reg.cd p x.1->kz x.2 (.int .i64 r)=none) (fun x=>[(3,.p (aj all)),(4,.bx 4 0),(6,.fn 242 [.bx 4 0]),(16,.ow 136),(17,.ow 17),(137,.p (aj all)),(138,.p (i64 i)),(139,.p (i64 x.1))]) (fun x=>[(4,.aN [.row 3 (aA (ou u x.1))]),(17,.az 22 ((Reg.aP p x.1).map (vJ 87 J))),(136,.map (.int .i64) x.2)]) (fun x=>i-x.1) (0,[]) _ ((au.dk (by exact hC) _ 17 22 _ (by decide) (by exact rfl) (by exact rfl) (by decide)).trans (au.Wg (by exact hC) _ 17 (e:=22) (es:=[]) (by exact rfl))) ⟨aaj _,fun k r h=>by simp[Reg.cd]at h,fun r _=>rfl⟩ ⟨rfl,rfl,rfl,rfl,rfl,rfl,adV (fun m:Nat=>AV.p (i64 m)) (la.trans Zv),Z,Y⟩ ⟨Z,Z,Z,Y⟩ fun ⟨m,es⟩ W t h=>?_;obtain⟨h1,h2,h3⟩:=W;simp only at h1 h2 h3;obtain⟨vu,vl,vr⟩:=zq c2 m (by omega);apply iW<;>intro g1<;>try simp only[zB]at g1
 ·obtain⟨x,W⟩:=ak (l:=all) (i:=m) (by omega);have RT:J m=rc x:=by rw[Zw];exact adV rc (getD_at W)
  have I:eh (ou u m) m (p m):=(vr _ _).2 (by rw[hp];exact Reg.iM c2 (by omega));have Vp:=vI (ou u m) vu m (by omega);rw[(Reg.fU m (ou u m) m vu I.lt (aam _)).root.uniq I]at Vp;refine⟨(rc x),(idx rfl W),_,_,Vp,?_⟩;have sl:(Reg.aP p m).length=(Reg.cd p m).length:=Reg.oq p m;have kl:=Reg.qI p m;by_cases e:p m=m
  ·have DJ:=h3 (p m) (by rw[e];exact fun O=>by have:=(Reg.mem_keys.1 O).1;omega);have R:=Reg.Fa hT (show m<i by omega) e;refine⟨none,DJ,⟨fun r I=>by simp at I;subst I;rfl,by simp only[aej,aaM,aan];omega,by simp only[aej,aaM,aan];omega⟩,?_⟩;refine qy ((au.Sr (by exact hC) _ 17 (Reg.aP p m).length 0 (e:=22) (e':=87) (es:=(Reg.aP p m).map (vJ 87 J)++[[.av .nl]]) (r:=[.av .nl]) (by exact adV (AB.az _) (by simp only[xQ,PL];rfl)) (by rw[acu (by simp)];simp) (by exact rfl) (by exact rfl) (by decide)).trans (au.rq (by exact hC) _ 17 (Reg.aP p m).length 0 90001 (e:=22) (es:=(Reg.aP p m++[[]]).map (vJ 87 J)) (e':=87) (r:=vJ 87 J []) (xs:=[]) (by decide) (by decide) (by exact adV (AB.az _) (by rw[abE];refine (ux _ _ _ _ (aej _).symm).trans ?_;simp[vJ])) (zw _ _ _) (by rw[abE,acu (by simp)];simp) (by exact rfl))) ?_;have e0:(List.map (fun r=>List.map (HX.cS (sc 146)) r) (List.map (fun r=>List.map (HX.cS (sc 19)) r) (List.map (vJ 87 J) (Reg.aP p m)))).length=(Reg.aP p m).length:=by simp
   refine⟨⟨by dsimp only;omega,by simp⟩,[.av (.ow 90001)],(by rw[afo,iC,iC];rw[e0];exact rB _ _ (Reg.aP p m++[[]]) (Reg.aP p m).length 90001 (by simp);rfl;rfl),⟨fun r I=>by simp at I;subst I;rfl,by simp,by simp⟩,⟨by dsimp only;omega,by simp⟩,[.av (.ow 90001)],(by rw[afo,iC,iC];rw[e0];exact rB _ _ (Reg.aP p m++[[]]) (Reg.aP p m).length 90001 (by simp);rfl;rfl),wO (by omega),(m+1,mP es (.int .i64 (p m)) (i64 (Reg.aP p m).length)),_,au.Bm (by exact hC) _ 17 (Reg.aP p m).length 0 171 (e:=22) (es:=((Reg.aP p m++[[]]).map (vJ 87 J)).set (Reg.aP p m).length [.av (.ow 171)]) (e':=87) (xs:=[J m]) (by decide) (by exact congrArg (AB.az _) (by rw[afo,iC,iC,e0];exact List.set_set _;rfl;rfl)) (by rw[RT];exact rfl) (rB _ _ _ _ _ (by simp)) (by exact rfl),?_⟩;have key:∀(k r:Nat),(Reg.cd p (m+1))[k]?=some r->kz (mP es (.int .i64 (p m)) (i64 (Reg.aP p m).length)) (.int .i64 r)=some (i64 k):=fun k r hk=>by
    rw[Reg.fE,aap e]at hk;rw[mE];by_cases LG:k<(Reg.cd p m).length
    ·rw[aaE LG]at hk;have:=(Reg.mem_keys.1 (aad hk)).1;rw[aaa (by omega)];exact h2 k r hk
    rw[acu (by omega)]at hk;have Im:k=(Reg.cd p m).length:=by
     have:=(aao.1 hk).1;simp at this;omega
    subst Im;simp only[aab,aa9,Option.some.injEq]at hk;subst hk;rw[aap (by omega),sl]
   have Vq:∀r:Nat,¬r∈Reg.cd p (m+1)->kz (mP es (.int .i64 (p m)) (i64 (Reg.aP p m).length)) (.int .i64 r)=none:=fun r I=>by
    rw[Reg.fE,aap e]at I;rw[mE,aaa (fun O=>I (by rw[abi];exact .inr (by simp;omega)))];exact h3 r fun O=>I (abY _ O)
   refine⟨⟨by dsimp only;omega,key,Vq⟩,⟨by dsimp only;omega,⟨Z,Z,Z,Z,Z,Z,Z,Z,Y⟩,⟨rfl,?_,congrArg (AB.map _) ?_,trivial⟩⟩⟩
   ·refine adV (AB.az _) ?_;show ((List.map (vJ 87 J) (Reg.aP p m++[[]])).set _ _).set _ _=List.map (vJ 87 J) (Reg.aP p (m+1));rw[adL,R,abE,abE];exact ux _ _ _ _ (aej _).symm
   dsimp only;rw[e0];rfl
  obtain⟨k,hk⟩:=Reg.Nv hT (show m<i by omega) e;obtain⟨R,Gp⟩:=Reg.Fb e hk;have km:=h2 k (p m) hk;have SI:((Reg.aP p m).map (vJ 87 J))[k]?=some (vJ 87 J (Reg.dh p m (p m))):=by rw[aak,Gp];rfl
  have kl':=(aao.1 hk).1;have ml:=Reg.qJ p m (p m);refine⟨(some (i64 k)),km,?_⟩;refine qy (au.rq (by exact hC) _ 17 k 0 90001 (e:=22) (by decide) (by decide) (by exact adV (AB.az _) (by simp only[xQ])) (zw _ _ _) SI (by exact rfl)) ?_;refine⟨⟨by omega,by simp only[List.length_map,List.length_set];omega⟩,[.av (.ow 90001)],(by rw[afo,iC,iC];exact rB _ _ (Reg.aP p m) k 90001 (by omega);rfl;rfl),⟨fun r I=>by simp at I;subst I;rfl,by simp only[List.length_map,List.length_set,List.length_replicate];omega,by simp only[List.length_map,List.length_set,List.length_replicate];omega⟩,⟨by omega,by simp only[List.length_map,List.length_set];omega⟩,[.av (.ow 90001)],(by rw[afo,iC,iC];exact rB _ _ (Reg.aP p m) k 90001 (by omega);rfl;rfl),wO (by omega),(m+1,es),_,au.Bm (by exact hC) _ 17 k 0 171 (e:=22) (es:=((Reg.aP p m).map (vJ 87 J)).set k [.av (.ow 171)]) (e':=87) (xs:=(Reg.dh p m (p m)++[m]).map J) (by decide) (by exact congrArg (AB.az _) (by rw[afo,iC,iC];exact List.set_set _;rfl;rfl)) (by exact congrArg (AB.row _) (by rw[List.map_append];exact congrArg (List.map J (Reg.dh p m (p m))++·) (by show _=[J m];rw[RT];rfl))) (rB _ _ _ _ _ (by omega)) (by exact rfl),⟨by dsimp only;omega,fun k' r xA=>?_,fun r I=>?_⟩,⟨by dsimp only;omega,⟨Z,Z,Z,Z,Z,Z,Z,Z,Y⟩,⟨rfl,?_,Z,Y⟩⟩⟩
  ·rw[Reg.fE,aaa e]at xA;exact h2 k' r xA
  ·rw[Reg.fE,aaa e]at I;exact h3 r I
  refine adV (AB.az _) ?_;show ((List.map (vJ 87 J) (Reg.aP p m)).set _ _).set _ _=List.map (vJ 87 J) (Reg.aP p (m+1));rw[adL,R,abL];rfl
 have em:m=i:=by omega
 subst em;obtain⟨V,PM⟩:∃V,V=Reg.aP p m:=⟨_,rfl⟩;rw[<-PM];obtain⟨rL,SC⟩:∃rL:List Nat->List ae,rL=fun l=>l.map fun m=>all.getD m bg:=⟨_,rfl⟩;rw[<-SC];have qg:∀l,SJ J l=[aj (rL l)]:=fun l=>by rw[SJ,Zw,SC,aj,abd];rfl
 have lL:=ai V (SJ J);have hLl:V.length<=m:=by rw[PM,Reg.oq];exact Reg.qI p m
 have Kv:∀l∈V,l.length<=m/\∀r∈rL l,r∈all:=fun l hl=>by
  rw[PM,Reg.aP]at hl;obtain⟨r,_,rfl⟩:=adS.1 hl;refine⟨Reg.qJ p m r,fun q hq=>?_⟩;rw[SC]at hq;obtain⟨z,hz,rfl⟩:=adS.1 hq;have:=(Reg.dx.1 hz).1;obtain⟨q,hq⟩:=ak (l:=all) (i:=z) (by omega);rw[getD_at hq];exact aad hq
 have tf:=Reg.bP hs;have ti:=Reg.fR hs ks;rw[<-aeL]at tf ti;refine aJ (fun j:Nat=>j<=V.length) (fun j=>[(23,.ow 23),(174,.p (.sl (V.map (SJ J)))),(175,.p (i64 V.length)),(176,.p (i64 j))]) (fun j=>[(23,.row 59 (((V.take j).map fun l=>Reg.aB (rL l)).map fun p=>[aw p]))]) (fun j=>V.length-j) 0 _ ((au.ID (by exact hC) _ 17 (V.map (SJ J)) (e:=22) (by exact rfl) (SK _ _ _)).trans ((au.own (by exact hC) _ 174 (id:=17) (by exact rfl) (by exact rfl)).trans (au.dk (by exact hC) _ 23 59 _ (by decide) (by exact rfl) (by exact rfl) (by decide)))) (aaj _) ⟨rfl,rfl,adV (fun m:Nat=>AV.p (i64 m)) (aej _),Z,Y⟩ ⟨Z,Y⟩ fun j hj t h=>?_;apply iW<;>intro g1
 ·obtain⟨l,hl⟩:=ak (l:=V) (i:=j) (by omega);obtain⟨m1,m2⟩:=Kv l (aad hl);have so:=kG (rL l) 1400000 (by omega) (by omega) (fun r I=>tf r (m2 r I)) (fun r I=>ti r (m2 r I)) (by rw[SC,aej];omega);have lk:((V.take j).map fun l=>Reg.aB (rL l)).length=j:=by rw[aej,aat];omega
  exact⟨[aj (rL l)],(by rw[<-qg];exact idx rfl hl),_,_,so,⟨fun r I=>by simp at I;subst I;rfl,by simp only[aej,aaM,aan,lk];omega,by simp only[aej,aaM,aan,lk];omega⟩,wO (by omega),(j+1),_,au.refl _ _,by omega,by omega,⟨Z,Z,Z,Z,Y⟩,⟨by rw[aZ hl,abE,abE];rfl,trivial⟩⟩
 have e:V.take j=V:=adW (by omega);rw[e];exact And.intro (adV (AB.row _) (by rw[abd,abd,abd];rfl)) (And.intro rfl trivial)
end M
namespace Reg
theorem uy{α:Type}[DecidableEq α]:∀{l m:List α},l.Nodup->(∀x∈l,x∈m)->l.length<=m.length
 | [],m,_,_=>aaj _
 | x::l,m,h,z=>by
  have D:=z x adU;have h':=aai.1 h;have:=uy (l:=l) (m:=m.erase x) h'.2 fun y I=>(List.mem_erase_of_ne (fun e=>h'.1 (by rw[<-e];exact I))).2 (z y (aaw _ I));rw[List.length_erase_of_mem D]at this;have:=aed D;simp only[aaB];omega
theorem sS:∀{s:aU} {p:Int×Int},Canon s->p∈s->¬cover s (p.1-1)
 | [],p,_,hp=>by cases hp
 | q::s,p,h,hp=>by
  rw[bJ];rintro (⟨h1,h2⟩ | z)
  ·rcases adq.1 hp with rfl | hp
   ·omega
   have:=h.behind p hp;omega
  rcases adq.1 hp with rfl | hp
  ·exact h.jJ (by have:=h.head;omega) z
  exact sS h.tail hp z
variable {s:List an}
theorem Dh(h:bE s){b:an}(hb:b∈s){y:Int}(D:b.y0<=y)(I:y<b.y1)(x:Int):at' s x y=par (bw b.xs) x:=by
 induction s with
 | nil=>cases hb
 | cons c s ih=>
  rcases adq.1 hb with rfl | z
  ·exact lR h D I
  have:=h.fM b z;rw[pj (by omega)];exact ih h.tail z
theorem BN(h:bE s){b:an}(hb:b∈s):∃x,at' s x (b.y0-1)≠at' s x b.y0:=by
 induction s with
 | nil=>cases hb
 | cons c s ih=>
  have L:=(h.mem b hb).lt;rcases adq.1 hb with rfl | z
  ·obtain⟨x,D⟩:=um (h.mem b hb);refine⟨x,?_⟩;rw[lR h (aaD _) L,D,jS fun t J=>?_]
   ·decide
   rcases adq.1 J with rfl | J
   ·exact .inl (by omega)
   have:=h.fM t J;exact .inl (by omega)
  have N:=(h.mem c adU).lt;have qb:=h.fM b z;by_cases e:c.y1=b.y0
  ·match s,h,z,ih with
   | d::s,h,z,ih=>
    rcases adq.1 z with rfl | I
    ·have O:c.xs≠b.xs:=fun D=>by
      have:=h;simp only[bE]at this;exact this.2.2.1 e D
     have D:∃x,par (bw c.xs) x≠par (bw b.xs) x:=by
      refine acz fun R=>O (lJ _ _ (h.mem c adU).can (h.mem b (by simp)).can fun x=>?_);have:par (bw c.xs) x=par (bw b.xs) x:=acz fun N=>R ⟨x,N⟩;rw[<-cu (h.mem c adU).can,<-cu (h.mem b (by simp)).can,this]
     obtain⟨x,D⟩:=D;refine⟨x,?_⟩;rw[lR h (by omega) (by omega),pj (by omega),lR h.tail (aaD _) L];exact D
    have:=(h.tail.fM b I);have:=(h.mem d (by simp)).lt;have:=h.fM d (by simp);omega
  obtain⟨x,D⟩:=ih h.tail z;refine⟨x,?_⟩;rw[pj (by omega),pj (by omega)];exact D
theorem Nx(h:bE s){z:List Int}(D:∀x y,¬y∈z->at' s x (y-1)=at' s x y):∀q∈told s,q.y0∈z:=fun q I=>by
 obtain⟨b,hb,p,_,rfl⟩:=gf.1 I;obtain⟨x,J⟩:=BN h hb;exact acz fun L=>J (D x b.y0 L)
theorem Ny(h:bE s){D:List Int}(J:∀x y,¬x∈D->at' s (x-1) y=at' s x y):∀q∈told s,q.x0∈D:=fun q L=>by
 obtain⟨b,hb,p,hp,rfl⟩:=gf.1 L;have z:=h.mem b hb;refine acz fun N=>?_;have e:=J p.1 b.y0 N;rw[Dh h hb (aaD _) z.lt,Dh h hb (aaD _) z.lt]at e;have I:cover b.xs p.1:=⟨p,hp,aaD _,ahL z.can p hp⟩;rw[<-cu z.can,<-e,cu z.can]at I;exact sS z.can hp I
theorem BO(D:List Int):∀z:List Int,(z.flatMap fun y=>D.map fun x=>(y,x)).length=z.length*D.length
 | []=>by simp
 | y::z=>by rw[abz,acv,BO D z,aej,aaB,aa3,Nat.add_comm]
theorem PN(h:bE s){D I:List Int}(L:∀x y,¬x∈D->at' s (x-1) y=at' s x y)(N:∀x y,¬y∈I->at' s x (y-1)=at' s x y):(told s).length<=I.length*D.length:=by
 have O:((told s).map fun q=>(q.y0,q.x0)).Nodup:=by
  rw[abO,acZ];refine (pk h).imp fun {a b} R e=>?_;have:=gN.1 R;simp only[Prod.mk.injEq]at e;omega
 have:=uy (m:=I.flatMap fun y=>D.map fun x=>(y,x)) O fun z U=>by
  obtain⟨q,J,rfl⟩:=adS.1 U;exact aax.2 ⟨q.y0,Nx h N q J,adS.2 ⟨q.x0,Ny h L q J,rfl⟩⟩
 rw[aej]at this;exact aaF this (aay (BO D I))
structure Piece where
 layer:Int
 set:List an
structure bh where
 pieces:List Int
 bores:List Int
 pins:List (ByteArray×ByteArray)
structure zx where
 bore:Bool
 num:Int
theorem KN{x y:Int}{q:ae}(h:¬(x=q.x0\/x=q.x1)):dE (x-1) y q=dE x y q:=by
 rw[abb,aQ,aQ];omega
theorem KO{x y:Int}{q:ae}(h:¬(y=q.y0\/y=q.y1)):dE x (y-1) q=dE x y q:=by
 rw[abb,aQ,aQ];omega
theorem oy{α:Type}{l:List α}{f g:α->Bool}(h:∀x∈l,f x=g x):l.any f=l.any g:=by
 induction l with
 | nil=>rfl
 | cons x l ih=>rw[abK,abK,h x adU,ih fun y z=>h y (aaw _ z)]
def SM(l:List ae):List Int:=l.flatMap fun q=>[q.x0,q.x1]
def SN(l:List ae):List Int:=l.flatMap fun q=>[q.y0,q.y1]
theorem I5:∀l:List ae,(SM l).length=2*l.length
 | []=>rfl
 | q::l=>by have:=I5 l;simp only[SM,abz,acv,aaB,acs]at this ⊢;omega
theorem I6:∀l:List ae,(SN l).length=2*l.length
 | []=>rfl
 | q::l=>by have:=I6 l;simp only[SN,abz,acv,aaB,acs]at this ⊢;omega
theorem BP{a b:List ae}(O:∀r∈a,Full r)(hb:∀r∈b,Full r):(told (bN (aB a) (aB b))).length<=(2*(a.length+b.length))*(2*(a.length+b.length)):=by
 obtain⟨R,D,_⟩:=aR O;obtain⟨U,I,_⟩:=aR hb;obtain⟨V,J,_⟩:=b6 R U;have W:∀x y,¬x∈SM (a++b)->at' (bN (aB a) (aB b)) (x-1) y=at' (bN (aB a) (aB b)) x y:=fun x y L=>by
  have e:∀q∈a++b,dE (x-1) y q=dE x y q:=fun q z=>KN fun N=>L (aax.2 ⟨q,z,by simp;exact N⟩);rw[J,J,D,D,I,I,oy (l:=a) fun q z=>e q (abY _ z),oy (l:=b) fun q z=>e q (adt _ z)]
 have Y:∀x y,¬y∈SN (a++b)->at' (bN (aB a) (aB b)) x (y-1)=at' (bN (aB a) (aB b)) x y:=fun x y L=>by
  have e:∀q∈a++b,dE x (y-1) q=dE x y q:=fun q z=>KO fun N=>L (aax.2 ⟨q,z,by simp;exact N⟩);rw[J,J,D,D,I,I,oy (l:=a) fun q z=>e q (abY _ z),oy (l:=b) fun q z=>e q (adt _ z)]
 have:=PN V W Y;rw[I5,I6,acv]at this;exact this
def beside(x y:ae):Bool:=((decide (x.x0<y.x1)&&decide (y.x0<x.x1))&&(decide (x.y1=y.y0)||decide (y.y1=x.y0)))||((decide (x.y0<y.y1)&&decide (y.y0<x.y1))&&(decide (x.x1=y.x0)||decide (y.x1=x.x0)))
def bq(bs:List aS)(layer:Int):List ae:=(bs.filter fun b=>through b layer).map aa
def bU(bs:List aS)(layer:Int)(r:List ae):List an:=bN (aB r) (aB (bq bs layer))
def gO(bs:List aS):Int->List (List ae)->List (List an)
 | _,[]=>[]
 | k,r::l=>bU bs k r::gO bs (k+1) l
def bG(bs:List aS):Int->List (List ae)->List Piece
 | _,[]=>[]
 | k,r::l=>(cV (bU bs k r)).map (⟨k,·⟩)++bG bs (k+1) l
def qL(bs:List aS):Int->List (List ae)->Bool
 | _,[]=>true
 | k,r::l=>decide ((told (bU bs k r)).length<=2000)&&qL bs (k+1) l
def eG(a:fS):Bool:=qL a.bores 0 a.coppers&&decide ((bG a.bores 0 a.coppers).length<=2000)
def fX(b:aS)(p:Piece):Bool:=(b.plated&&through b p.layer)&&(told p.set).any fun r=>beside r (aa b)
def fu(b:aS):Nat->List Piece->List Int
 | _,[]=>[]
 | k,p::l=>if fX b p=true then (k:Int)::fu b (k+1) l else fu b (k+1) l
def bB(bs:List aS)(ps:List Piece):List (List Int):=bs.map fun b=>fu b 0 ps
theorem BQ(s:List an):(cV s).length<=(told s).length:=by
 rw[cV,ox,aej,aej,oq];exact qI _ _
theorem vK{l:List ae}{m:Nat}(h:m<l.length):l.getD m bg∈l:=by
 rw[aav,acg h];exact adn h
theorem afp{l:List ae}(h:l∈ox s):l≠[]/\∀r∈l,r∈told s:=by
 obtain⟨u1,u2⟩:=zv s;have hT:=rz u1;obtain⟨ms,z,rfl⟩:=adS.1 h;obtain⟨r,D,rfl⟩:=adS.1 z;obtain⟨I,J⟩:=mem_keys.1 D;refine⟨fun e=>?_,fun q L=>?_⟩
 ·have:r∈dh (cQ (jE s)) (told s).length r:=dx.2 ⟨I,J⟩;rw[ac3]at e;rw[e]at this;cases this
 obtain⟨m,N,rfl⟩:=adS.1 L;exact vK (dx.1 N).1
theorem rD{p:List an}(h:bE s)(hp:p∈cV s):bE p/\p≠[]/\(∀x y,at' p x y=true->at' s x y=true)/\∀K,cv K s->cv K p:=by
 obtain⟨l,hl,rfl⟩:=adS.1 hp;obtain⟨O,z⟩:=afp hl;obtain⟨R,J,U⟩:=aR fun r I=>bP h r (z r I);have sub:∀x y,at' (aB l) x y=true->at' s x y=true:=fun x y L=>by
  rw[J,aci]at L;obtain⟨q,D,V⟩:=L;rw[<-iy h,aci];exact⟨q,z q D,V⟩
 refine⟨R,fun e=>?_,sub,fun K W=>U K fun r I=>fR h W r (z r I)⟩;obtain⟨q,D⟩:=aae _ O;have N:=bP h q (z q D);have:at' (aB l) q.x0 q.y0=true:=by
  rw[J,aci];exact⟨q,D,aQ.2 ⟨aaD _,N.1,aaD _,N.2⟩⟩
 rw[e]at this;cases this
end Reg
end Go.Proofs.YtfloceomobknoaaGreatDoor
namespace Go.AM
theorem au.pX{A:cD}(hC:bI A.C)(s:AS)(id j:Nat)(cs:List AV)(hb:s.h id=.box cs)(J:cs[j]?=some (.p (.im (.slice none 0 0)))):au A s ⟨s.t,aT s.h id (.box (cs.set j .nl))⟩:=by
 intro S rho a w z;refine⟨S,rho,z.write hC id trivial (by rw[hb];trivial) _ (fun _ h=>by cases h) w rfl rfl rfl rfl (fun _ _=>rfl) fun T=>?_⟩;have L:=z.hp id trivial;rw[hb]at L;obtain⟨g,U,c,V,W,Y,N⟩:=L;refine⟨g,U,c,V,W,by rw[Y,aaM],fun q x u hi O=>?_⟩;by_cases R:q=j
 ·subst R;rw[ab7 (aD J)]at hi;injection hi with hi;subst hi;obtain⟨D,I⟩:=N q _ u J O;refine⟨D,?_⟩;have Z:aO S w (.im (.slice none 0 0)) u:=by cases I;assumption
  exact (xy Z).cK T
 rw[ac5 (fun e=>R e.symm)]at hi;obtain⟨D,I⟩:=N q x u hi O;exact⟨D,I.cK T⟩
end Go.AM
namespace Go.Proofs.YtfloceomobknoaaGreatDoor
namespace M
open Go.AM Go.RowKit Go.Lib
open Reg (ae beside aa aS through bO an aU)
theorem AQ(x y:ae):af C 180 [.pv (.ag (rc x)),.pv (.ag (rc y))] (.p (bool (beside x y))) []:=by
 refine fW hC Tryz.func180 rfl (by kernel_rfl) fun _=>?_;apply iW<;>intro a
 ·apply iW<;>intro c
  ·apply iW<;>intro b
   ·apply iW<;>intro e
    ·refine⟨?_,trivial⟩;simp[bool,beside,a,c,b,e]
    apply iW<;>intro f
    ·refine⟨?_,trivial⟩;simp[bool,beside,a,c,b,e,f]
    apply iW<;>intro d
    ·apply iW<;>intro g
     ·refine⟨?_,trivial⟩;simp[bool,beside,a,c,b,e,f,d,g]
     refine⟨?_,trivial⟩;simp[bool,beside,a,c,b,e,f,d,g]
    refine⟨?_,trivial⟩;simp[bool,beside,a,c,b,e,f,d]
   apply iW<;>intro d
   ·apply iW<;>intro g
    ·refine⟨?_,trivial⟩;simp[bool,beside,a,c,b,d,g]
    refine⟨?_,trivial⟩;simp[bool,beside,a,c,b,d,g]
   refine⟨?_,trivial⟩;simp[bool,beside,a,c,b,d]
  apply iW<;>intro b
  ·apply iW<;>intro e
   ·refine⟨?_,trivial⟩;simp[bool,beside,a,c,b,e]
   apply iW<;>intro f
   ·refine⟨?_,trivial⟩;simp[bool,beside,a,c,b,e,f]
   refine⟨?_,trivial⟩;simp[bool,beside,a,c,b,e,f]
  refine⟨?_,trivial⟩;simp[bool,beside,a,c,b]
 apply iW<;>intro c
 ·apply iW<;>intro d
  ·apply iW<;>intro g
   ·refine⟨?_,trivial⟩;simp[bool,beside,a,c,d,g]
   refine⟨?_,trivial⟩;simp[bool,beside,a,c,d,g]
  refine⟨?_,trivial⟩;simp[bool,beside,a,c,d]
 refine⟨?_,trivial⟩;simp[bool,beside,a,c]
theorem PO(r:ae)(b:aS)(h:bO b=true):af C 179 [.pv (.ag (rc r)),.pv (.ip (bc b))] (.p (bool (beside r (aa b)))) []:=by
 refine fW hC Tryz.func179 rfl (by kernel_rfl) fun _=>?_;refine⟨_,_,(cF b h),_,_,(AQ r (aa b)),?_,trivial⟩;rfl
theorem Di(l:List an)(hN:l.length<=1000000000000)(L:∀t∈l,t.xs.length<=1000000000000)(hT:(Reg.told l).length<=4398046511104):af C 76 [.pv (.sl (l.map hb))] (.p (aj (Reg.told l))) []:=by
 refine uX ⟨[],[2],[],[8],[],[]⟩ hC Tryz.func76 rfl (by kernel_rfl) fun _=>?_;have lm:=ai l hb;have N:∀i,(Reg.told (l.take i)).length<=(Reg.told l).length:=fun i=>by
  have e:Reg.told l=Reg.told (l.take i)++Reg.told (l.drop i):=by
   unfold Reg.told;rw[<-acp,aaU]
  rw[e,acv];omega
 refine aJ (fun i:Nat=>i<=l.length) (fun i=>[(7,.p (.sl (l.map hb))),(8,.p (i64 (l.map hb).length)),(3,.ow 3),(9,.p (i64 i))]) (fun i=>[(3,.row 87 ((Reg.told (l.take i)).map rc))]) (fun i=>l.length-i) 0 _ (au.dk hC _ 3 87 _ (by decide) rfl rfl (by decide)) (aaj _) ⟨Z,Z,Z,Z,Y⟩ ⟨Z,Y⟩ fun i hi t h=>?_;apply iW<;>intro D
 ·rw[lm]at D;obtain⟨b,z⟩:=ak (l:=l) (i:=i) (by omega);have bm:=ai (flat b.xs) fun n=>[i64 n];have I:=eY b.xs;have hb':=L b (aad z);have O:=N (i+1);rw[jM z,acv,aej]at O;refine⟨(hb b),(idx rfl z),?_⟩;refine p7 (fun _:Unit=>True) (fun _=>[(7,.p (.sl (l.map hb))),(8,.p (i64 (l.map hb).length)),(3,.ow 3),(9,.p (i64 i))]) (fun _=>[(3,.row 87 ((Reg.told (l.take (i+1))).map rc))]) (fun _ _ t h=>?_) ?_
  ·exact⟨wO (by omega),(i+1),_,au.refl _ _,by omega,by omega,⟨Z,Z,Z,Z,Y⟩,⟨Z,Y⟩⟩
  refine aJ (fun k:Nat=>k<=b.xs.length) (fun k=>[(7,.p (.sl (l.map hb))),(8,.p (i64 (l.map hb).length)),(3,.ow 3),(9,.p (i64 i)),(5,.bx 5 0),(6,.p (i64 ((2*k:Nat):Int)))]) (fun k=>[(3,.row 87 ((Reg.told (l.take i)++ig b k).map rc)),(5,.box [.p (i64 b.y0),.p (i64 b.y1),.p (ints (flat b.xs))])]) (fun k=>b.xs.length-k) 0 _ (au.refl _ _) (aaj _) ⟨Z,Z,Z,Z,Z,Z,Y⟩ ⟨by rw[ig];simp;rfl,Z,Y⟩ fun k hk t h=>?_;have Ov:(ig b k).length<=k:=by simp[ig];omega
  apply iW<;>intro J
  ·rw[bm,I]at J;obtain⟨p,hp⟩:=ak (l:=b.xs) (i:=k) (by omega);obtain⟨R,U⟩:=Ex hp;refine⟨[i64 p.1],(idx rfl R),wO (by omega),[i64 p.2],(idx (by omega) U),⟨xL rfl,by simp;omega,by simp;omega⟩,wO (by omega),(k+1),_,au.refl _ _,by omega,by omega,⟨rfl,rfl,rfl,rfl,rfl,a8 (by omega),trivial⟩,⟨?_,Z,Y⟩⟩;have V:ig b (k+1)=ig b k++[⟨p.1,b.y0,p.2,b.y1⟩]:=by simp[ig,aZ hp]
   have e:(Reg.told (l.take i)++ig b k).map rc++[rc ⟨p.1,b.y0,p.2,b.y1⟩]=(Reg.told (l.take i)++ig b (k+1)).map rc:=by
    rw[V,<-abx,abE (l₂:=[_])];rfl
   exact adV (AB.row 87) e
  rw[bm,I]at J;refine⟨(),trivial,⟨Z,Z,Z,Z,Y⟩,⟨?_,trivial⟩⟩;rw[jM z];have:ig b k=b.xs.map fun p=>⟨p.1,b.y0,p.2,b.y1⟩:=by rw[ig,adW (by omega)]
  rw[<-this];rfl
 rw[lm]at D;rw[adW (by omega)];exact⟨Z,Y⟩
def X7(b:aS)(r:ae):Bool:=beside r (aa b)
theorem Fj(l:List ae)(hN:l.length<=140737488355328)(b:aS)(I:bO b=true):af C 161 [.pv (aj l),.pv (.fn 179 [.ip (bc b)])] (.p (i64 (jO (X7 b) l 0))) []:=by
 refine fW hC Tryz.func161 rfl (by kernel_rfl) fun _=>?_;have lm:=ai l rc;refine aJ (fun i:Nat=>i<=l.length/\∀z∈l.take i,X7 b z=false) (fun i=>[(0,.p (aj l)),(1,.p (.fn 179 [.ip (bc b)])),(7,.p (i64 (l.map rc).length)),(8,.p (i64 i))]) (fun _=>[]) (fun i=>l.length-i) 0 _ (au.refl _ _) ⟨aaj _,by simp⟩ ⟨Z,Z,Z,Z,Y⟩ trivial fun i hi t h=>?_;apply iW<;>intro L
 ·rw[lm]at L;obtain⟨r,J⟩:=ak (l:=l) (i:=i) (by omega);refine⟨(rc r),(idx rfl J),_,_,(PO r b I),iW ?_ ?_⟩<;>intro D
  ·refine⟨?_,trivial⟩;rw[lY J D hi.2,abC]
  exact⟨wO (by omega),(i+1),_,au.refl _ _,⟨by omega,tW J D hi.2⟩,by omega,⟨Z,Z,Z,Z,Y⟩,trivial⟩
 rw[lm]at L;refine⟨?_,trivial⟩;have D:=hi.2;rw[adW (by omega)]at D;rw[iV D];rfl
theorem zy(l:List ae)(D:l.length<=140737488355328)(b:aS)(z:bO b=true):af C 178 [.pv (aj l),.pv (.fn 179 [.ip (bc b)])] (.p (bool (l.any (X7 b)))) []:=by
 refine fW hC Tryz.func178 rfl (by kernel_rfl) fun _=>?_;refine⟨_,_,(Fj l D b z),?_,trivial⟩;rw[<-oX _ l 0];rfl
open Reg (fS Piece bE cv Full RK told aB bN cV cJ qF bq bU gO bG qL eG)
def jb(p:Piece):List PV:=[i64 p.layer,aw p.set,aj (told p.set)]
structure iD(a:fS):Prop where
 cop:0<a.coppers.length/\a.coppers.length<=16
 reg:∀r∈a.coppers,Reg.aF r=0
 out:Reg.aF a.outline=0
 jB:a.bores.length<=500
 bor:∀b∈a.bores,qF a.coppers.length b
 lan:a.lands.length<=1000
theorem ky{n:Int}{b:aS}(h:qF n b):bO b=true:=by
 have:=h.ok;simp only[cJ,aaZ]at this;exact this.1
structure SO(s:List an):Prop where
 sok:bE s
 ink:cv 1000000 s
 jB:(told s).length<=25000000
theorem jV{bs:List aS}(z:∀b∈bs,bO b=true)(J:bs.length<=500)(k:Int){r:List ae}(L:Reg.aF r=0):SO (bU bs k r):=by
 have h:=ph L;have D:∀q∈bq bs k,Full q:=fun q N=>by
  obtain⟨b,hb,rfl⟩:=adS.1 N;exact Reg.bX (z b (adu.1 hb).1)
 have hl:(bq bs k).length<=500:=by
  rw[bq,aej];exact aaF (adb _ _) J
 obtain⟨I,b2,b3⟩:=Reg.aR D;obtain⟨O,c2,_⟩:=Reg.b6 h.sok I;refine⟨O,I1 h.sok I h.ink,aaF (Reg.BP h.full D) ?_⟩;have:2*(r.length+(bq bs k).length)<=5000:=by have:=h.len;omega
 exact Nat.mul_le_mul this this
theorem Dj(a:fS)(ha:iD a):af C 100 [.aN [.p (.sl (a.coppers.map rr)),.p (aj a.outline),.p (.sl (a.bores.map bc)),.p (.sl (a.lands.map lc)),.row 59 [],.row 76 [],.row 71 [],.row 142 [],.row 3 [],.row 3 [],.row 3 [],.row 174 []]] (.p (bool (eG a))) [.aN [.p (.sl (a.coppers.map rr)),.p (aj a.outline),.p (.sl (a.bores.map bc)),.p (.sl (a.lands.map lc)),.row 59 ((gO a.bores 0 a.coppers).map fun s=>[aw s]),.row 76 ((bG a.bores 0 a.coppers).map jb),.row 71 [],.row 142 [],.row 3 [],.row 3 [],.row 3 [],.row 174 []]]:=by
 have lk:=ai a.coppers rr;have lb:=ai a.bores bc;have L:∀b∈a.bores,bO b=true:=fun b h=>ky (ha.bor b h);have zA:=ha.jB;have KH:=ha.cop;obtain⟨DD,Zx⟩:∃DD,DD=gO a.bores 0 a.coppers:=⟨_,rfl⟩;obtain⟨PP,SP⟩:∃PP,PP=bG a.bores 0 a.coppers:=⟨_,rfl⟩;obtain⟨OK,Zy⟩:∃OK,OK=qL a.bores 0 a.coppers:=⟨_,rfl⟩;have hres:eG a=(OK&&decide (PP.length<=2000)):=by rw[eG,Zy,SP]
 rw[hres,<-Zx,<-SP];refine UP ⟨[],[],[],[18],[],[14]⟩ hC Tryz.func100 rfl (by kernel_rfl) fun _=>⟨_,au.open hC _ 100000 [90000,90001,90002,90003,90004,90005,90006,90007] (by exact rfl) rfl rfl rfl,?_⟩;refine aJ (fun x:Nat×Bool×List (List an)×List Piece=>x.2.2.1++gO a.bores x.1 (a.coppers.drop x.1)=DD/\x.2.2.2++bG a.bores x.1 (a.coppers.drop x.1)=PP/\(x.2.1&&qL a.bores x.1 (a.coppers.drop x.1))=OK/\x.2.2.1.length<=x.1/\x.2.2.2.length<=25000000*x.1/\x.1<=a.coppers.length) (fun x=>[(0,.bx 100000 0),(3,.p (bool x.2.1)),(16,.p (.sl (a.coppers.map rr))),(17,.p (i64 a.coppers.length)),(18,.p (i64 x.1))]) (fun x=>[(100000,.box [.p (.sl (a.coppers.map rr)),.p (aj a.outline),.p (.sl (a.bores.map bc)),.p (.sl (a.lands.map lc)),.ow 90000,.ow 90001,.ow 90002,.ow 90003,.ow 90004,.ow 90005,.ow 90006,.ow 90007]),(90000,.row 59 (x.2.2.1.map fun s=>[aw s])),(90001,.row 76 (x.2.2.2.map jb)),(90002,.row 71 []),(90003,.row 142 []),(90004,.row 3 []),(90005,.row 3 []),(90006,.row 3 []),(90007,.row 174 [])]) (fun x=>a.coppers.length-x.1) (0,true,[],[]) _ (au.refl _ _) ⟨Zx.symm,SP.symm,by rw[Zy];rfl,aam _,aaj _,aaj _⟩ ⟨rfl,rfl,rfl,adV (fun m:Nat=>AV.p (i64 m)) lk,Z,Y⟩ ⟨Z,Z,Z,Z,Z,Z,Z,Z,Z,Y⟩ fun ⟨i,ok,D,P⟩ hx t h=>?_;obtain⟨O,R,U,q4,q5,q6⟩:=hx;simp only at O R U q4 q5 q6;apply iW<;>intro g<;>try simp only[zB]at g
 ·obtain⟨r,N⟩:=ak (l:=a.coppers) (i:=i) (by omega);have HA:=ha.reg r (aad N);have X8:=ph HA;rw[drop_at N]at O R U;simp only[gO,bG,qL]at O R U;have Sm:=jV L zA i HA;refine⟨(rr r),(idx rfl N),?_⟩;refine aJ (fun y:Nat×List ae=>y.2++bq (a.bores.drop y.1) i=bq a.bores i/\y.2.length<=y.1/\y.1<=a.bores.length/\∀q∈y.2,∃b∈a.bores,q=aa b) (fun y=>[(0,.bx 100000 0),(3,.p (bool ok)),(16,.p (.sl (a.coppers.map rr))),(17,.p (i64 a.coppers.length)),(18,.p (i64 i)),(4,.p (i64 i)),(5,.p (aj r)),(27,.p (.sl (a.bores.map bc))),(28,.p (i64 a.bores.length)),(29,.p (i64 y.1)),(6,.ow 6)]) (fun y=>[(100000,.box [.p (.sl (a.coppers.map rr)),.p (aj a.outline),.p (.sl (a.bores.map bc)),.p (.sl (a.lands.map lc)),.ow 90000,.ow 90001,.ow 90002,.ow 90003,.ow 90004,.ow 90005,.ow 90006,.ow 90007]),(90000,.row 59 (D.map fun s=>[aw s])),(90001,.row 76 (P.map jb)),(90002,.row 71 []),(90003,.row 142 []),(90004,.row 3 []),(90005,.row 3 []),(90006,.row 3 []),(90007,.row 174 []),(6,.row 87 (y.2.map rc))]) (fun y=>a.bores.length-y.1) (0,[]) _ (au.dk (by exact hC) _ 6 87 _ (by decide) (by exact rfl) (by exact rfl) (by decide)) ⟨rfl,aam _,aaj _,fun q h=>by cases h⟩ ⟨rfl,rfl,rfl,rfl,rfl,rfl,rfl,rfl,adV (fun m:Nat=>AV.p (i64 m)) lb,Z,Z,Y⟩ ⟨Z,Z,Z,Z,Z,Z,Z,Z,Z,Z,Y⟩ fun ⟨j,hl⟩ hy t h=>?_;obtain⟨V,k2,k3,W⟩:=hy;simp only at V k2 k3 W;apply iW<;>intro g2<;>try simp only[zB]at g2
  ·obtain⟨b,Wr⟩:=ak (l:=a.bores) (i:=j) (by omega);have uW:=L b (aad Wr);rw[drop_at Wr]at V;refine⟨(bc b),(idx rfl Wr),_,_,(jk b i),iW ?_ ?_⟩<;>intro g3
   ·have e:bq (b::a.bores.drop (j+1)) i=aa b::bq (a.bores.drop (j+1)) i:=by rw[bq,aby,aap (by simpa using g3)];rfl
    rw[e]at V;refine⟨_,_,(cF b uW),⟨fun r N=>by simp at N;subst N;rfl,by simp only[aej,aaM,aan];omega,by simp only[aej,aaM,aan];omega⟩,wO (by omega),(j+1,hl++[aa b]),_,au.refl _ _,?_⟩;exact⟨⟨by simp only[abx,aee];exact V,by simp only[acv,abS];omega,by simp only;omega,fun q I=>by
     rcases abi.1 I with I | I
     ·exact W q I
     rw[ab_]at I;exact⟨b,aad Wr,I⟩⟩,by simp only;omega,⟨Z,Z,Z,Z,Z,Z,Z,Z,Z,Z,Z,Y⟩,⟨rfl,rfl,rfl,rfl,rfl,rfl,rfl,rfl,rfl,by rw[abE];rfl,trivial⟩⟩
   have e:bq (b::a.bores.drop (j+1)) i=bq (a.bores.drop (j+1)) i:=by rw[bq,aby,aaa (by simpa using g3)];rfl
   rw[e]at V;exact⟨wO (by omega),(j+1,hl),_,au.refl _ _,⟨V,by simp only;omega,by simp only;omega,W⟩,by simp only;omega,⟨Z,Z,Z,Z,Z,Z,Z,Z,Z,Z,Z,Y⟩,⟨Z,Z,Z,Z,Z,Z,Z,Z,Z,Z,Y⟩⟩
  have e:hl=bq a.bores i:=by
   rw[aaz (by omega)]at V;rw[<-V];simp[bq]
  have so:=kG hl 1010000 (by omega) (by omega) (fun q I=>by obtain⟨b,hb,rfl⟩:=W q I;exact Reg.bX (L b hb)) (fun q I=>by obtain⟨b,hb,rfl⟩:=W q I;exact Reg.er (L b hb)) (by omega);have bf:=Reg.aR (l:=hl) fun q I=>by obtain⟨b,hb,rfl⟩:=W q I;exact Reg.bX (L b hb)
  have bk:=bf.2.2 1010000 fun q I=>by obtain⟨b,hb,rfl⟩:=W q I;exact Reg.er (L b hb)
  have IM:=iJ _ _ X8.sok bf.1 (X8.ink.up (by omega)) (bk.up (by omega));have hS:bN (aB r) (aB hl)=bU a.bores i r:=by rw[e];rfl
  rw[hS]at IM;obtain⟨S,hSe⟩:∃S,S=bU a.bores i r:=⟨_,rfl⟩;rw[<-hSe]at IM Sm O R U;obtain⟨d1,d2,d3⟩:=Sm;have sl:=Reg.ahe d1 (by omega) d2;have sx:=Reg.kT d1 (by omega) d2;refine⟨_,_,(BB X8),_,_,so,_,_,IM,?_⟩;have ml:=Hg S (by omega) (fun t ht=>by have:=sx t ht;omega) (by omega);refine (XN (fun SQ:Bool=>SQ=(ok&&decide ((told S).length<=2000))) (fun SQ=>[(0,.bx 100000 0),(3,.p (bool SQ)),(16,.p (.sl (a.coppers.map rr))),(17,.p (i64 a.coppers.length)),(18,.p (i64 i)),(4,.p (i64 i)),(9,.p (aw S))]) (fun _=>[(100000,.box [.p (.sl (a.coppers.map rr)),.p (aj a.outline),.p (.sl (a.bores.map bc)),.p (.sl (a.lands.map lc)),.ow 90000,.ow 90001,.ow 90002,.ow 90003,.ow 90004,.ow 90005,.ow 90006,.ow 90007]),(90000,.row 59 (D.map fun s=>[aw s])),(90001,.row 76 (P.map jb)),(90002,.row 71 []),(90003,.row 142 []),(90004,.row 3 []),(90005,.row 3 []),(90006,.row 3 []),(90007,.row 174 [])]) (fun SQ hok t h=>?_) ?_)
  ·have q3':(SQ&&qL a.bores ((i:Int)+1) (a.coppers.drop (i+1)))=OK:=by rw[hok,adw];exact U
   refine⟨⟨fun r N=>by simp at N;subst N;rfl,by simp only[aej,aaM,aan];omega,by simp only[aej,aaM,aan];omega⟩,_,_,(Fi S d1 (d2.up (by omega)) (by omega)),?_⟩;have pf:=Reg.BQ S;have lp:=ai (cV S) fun p=>[aw p];refine aJ (fun z:Nat×List Piece=>z.2++((cV S).drop z.1).map (⟨(i:Int),·⟩)++bG a.bores ((i:Int)+1) (a.coppers.drop (i+1))=PP/\z.2.length<=25000000*i+z.1/\z.1<=(cV S).length) (fun z=>[(0,.bx 100000 0),(3,.p (bool SQ)),(16,.p (.sl (a.coppers.map rr))),(17,.p (i64 a.coppers.length)),(18,.p (i64 i)),(4,.p (i64 i)),(64,.p (.sl ((cV S).map fun p=>[aw p]))),(65,.p (i64 (cV S).length)),(66,.p (i64 z.1))]) (fun z=>[(100000,.box [.p (.sl (a.coppers.map rr)),.p (aj a.outline),.p (.sl (a.bores.map bc)),.p (.sl (a.lands.map lc)),.ow 90000,.ow 90001,.ow 90002,.ow 90003,.ow 90004,.ow 90005,.ow 90006,.ow 90007]),(90000,.row 59 ((D++[S]).map fun s=>[aw s])),(90001,.row 76 (z.2.map jb)),(90002,.row 71 []),(90003,.row 142 []),(90004,.row 3 []),(90005,.row 3 []),(90006,.row 3 []),(90007,.row 174 [])]) (fun z=>(cV S).length-z.1) (0,P) _ ((au.own (by exact hC) _ 64 (id:=64) (by exact rfl) (by exact rfl)).trans ((au.pack (by exact hC) _ 100000 (cs:=[.p (.sl (a.coppers.map rr)),.p (aj a.outline),.p (.sl (a.bores.map bc)),.p (.sl (a.lands.map lc)),.row 59 ((D++[S]).map fun s=>[aw s]),.row 76 (P.map jb),.row 71 [],.row 142 [],.row 3 [],.row 3 [],.row 3 [],.row 174 []]) (by exact rfl) (by exact rfl) (by exact⟨rfl,rfl,rfl,rfl,by rw[abE];rfl,Z,Z,Z,Z,Z,Z,Z,Y⟩)).trans (au.open (by exact hC) _ 100000 [90000,90001,90002,90003,90004,90005,90006,90007] (cs:=[.p (.sl (a.coppers.map rr)),.p (aj a.outline),.p (.sl (a.bores.map bc)),.p (.sl (a.lands.map lc)),.row 59 ((D++[S]).map fun s=>[aw s]),.row 76 (P.map jb),.row 71 [],.row 142 [],.row 3 [],.row 3 [],.row 3 [],.row 174 []]) (by exact rfl) rfl rfl rfl))) ⟨by simp only[List.drop_zero,abx];exact R,by simp only;omega,aaj _⟩ ⟨rfl,rfl,rfl,rfl,rfl,rfl,rfl,adV (fun m:Nat=>AV.p (i64 m)) lp,Z,Y⟩ ⟨Z,Z,Z,Z,Z,Z,Z,Z,Z,Y⟩ fun ⟨k,Ps⟩ hz t h=>?_;obtain⟨z1,z2,z3⟩:=hz;simp only at z1 z2 z3;apply iW<;>intro g5<;>try simp only[zB]at g5
   ·obtain⟨p,hp⟩:=ak (l:=cV S) (i:=k) (by omega);obtain⟨p1,_,_,p3⟩:=Reg.rD d1 (aad hp);have p4:=p3 _ d2;have px:=Reg.kT p1 (by omega) p4;have pb:=Reg.ahe p1 (by omega) p4;have pt:=Reg.fj p1 (p4.up (by omega));rw[drop_at hp,aa8]at z1;exact⟨[aw p],(idx rfl hp),_,_,(Di p (by omega) (fun t ht=>by have:=px t ht;omega) pt),⟨fun r N=>by simp at N;subst N;rfl,by simp only[aej,aaM,aan];omega,by simp only[aej,aaM,aan];omega⟩,wO (by omega),(k+1,Ps++[Piece.mk i p]),_,((au.pack (by exact hC) _ 100000 (cs:=[.p (.sl (a.coppers.map rr)),.p (aj a.outline),.p (.sl (a.bores.map bc)),.p (.sl (a.lands.map lc)),.row 59 ((D++[S]).map fun s=>[aw s]),.row 76 ((Ps++[Piece.mk i p]).map jb),.row 71 [],.row 142 [],.row 3 [],.row 3 [],.row 3 [],.row 174 []]) (by exact rfl) (by exact rfl) (by exact⟨rfl,rfl,rfl,rfl,rfl,by rw[abE (f:=jb)];rfl,Z,Z,Z,Z,Z,Z,Y⟩)).trans (au.open (by exact hC) _ 100000 [90000,90001,90002,90003,90004,90005,90006,90007] (cs:=[.p (.sl (a.coppers.map rr)),.p (aj a.outline),.p (.sl (a.bores.map bc)),.p (.sl (a.lands.map lc)),.row 59 ((D++[S]).map fun s=>[aw s]),.row 76 ((Ps++[Piece.mk i p]).map jb),.row 71 [],.row 142 [],.row 3 [],.row 3 [],.row 3 [],.row 174 []]) (by exact rfl) rfl rfl rfl)),⟨by simp only[abx,aee,ad_]at z1 ⊢;exact z1,by simp only[acv,abS];omega,by simp only;omega⟩,by simp only;omega,⟨Z,Z,Z,Z,Z,Z,Z,Z,Z,Y⟩,⟨Z,Z,Z,Z,Z,Z,Z,Z,Z,Y⟩⟩
   rw[aaz (by omega),ac1,acw]at z1;exact⟨wO (by omega),(i+1,SQ,D++[S],Ps),_,au.refl _ _,⟨by simp only[abx,aee];exact O,z1,q3',by simp only[acv,abS];omega,by simp only;omega,by simp only;omega⟩,by simp only;omega,⟨Z,Z,Z,Z,Z,Y⟩,⟨Z,Z,Z,Z,Z,Z,Z,Z,Z,Y⟩⟩
  apply iW<;>intro J
  ·have J:ok=true:=J;exact⟨_,_,ml,_,by rw[J,adr];congr 1;exact propext ⟨fun h=>by omega,fun h=>by omega⟩,⟨Z,Z,Z,Z,Z,Z,Z,Y⟩,⟨Z,Z,Z,Z,Z,Z,Z,Z,Z,Y⟩⟩
  have J:ok=false:=by simpa using J
  exact⟨false,by rw[J];rfl,⟨Z,Z,Z,Z,Z,Z,Z,Y⟩,⟨Z,Z,Z,Z,Z,Z,Z,Z,Z,Y⟩⟩
 have e:a.coppers.length<=i:=by omega
 rw[aaz e]at O R U;simp only[gO,bG,qL,acw,ac7]at O R U;subst O R U;have lP:=ai P jb;apply iW<;>intro J<;>try simp only[zB]at J
 ·have J:ok=true:=J;exact And.intro (by rw[J,adr];exact adV (fun b:Bool=>PV.im (Value.bool b)) (decide_eq_decide.2 ⟨fun h=>by rw[lP]at h;omega,fun h=>by rw[lP];omega⟩)) (And.intro ⟨Z,Z,Z,Z,Z,Z,Z,Z,Z,Z,Z,Z,Z,Y⟩ trivial)
 have J:ok=false:=by simpa using J
 exact And.intro (by rw[J];rfl) (And.intro ⟨Z,Z,Z,Z,Z,Z,Z,Z,Z,Z,Z,Z,Z,Y⟩ trivial)
open Reg (fX fu bB)
theorem gP(l:List Int)(k:Int):aA (l++[k])=aA l++[[i64 k]]:=by rw[aA,abE];rfl
theorem Dk(a:fS)(V:iD a)(D:List (List PV))(P:List Piece)(hP:P.length<=1000000000)(Q9:∀p∈P,(told p.set).length<=4398046511104):af C 101 [.aN [.p (.sl (a.coppers.map rr)),.p (aj a.outline),.p (.sl (a.bores.map bc)),.p (.sl (a.lands.map lc)),.row 59 D,.row 76 (P.map jb),.row 71 [],.row 142 [],.row 3 [],.row 3 [],.row 3 [],.row 174 []]] (.tu []) [.aN [.p (.sl (a.coppers.map rr)),.p (aj a.outline),.p (.sl (a.bores.map bc)),.p (.sl (a.lands.map lc)),.row 59 D,.row 76 (P.map jb),.row 71 ((bB a.bores P).map fun l=>[ints l]),.row 142 [],.row 3 [],.row 3 [],.row 3 [],.row 174 []]]:=by
 have lb:=ai a.bores bc;have lp:=ai P jb;have zA:=V.jB;obtain⟨N,W⟩:∃N,N=bB a.bores P:=⟨_,rfl⟩;rw[<-W];refine UP ⟨[],[],[],[],[],[]⟩ hC Tryz.func101 rfl (by kernel_rfl) fun _=>⟨_,au.open hC _ 100000 [90000,90001,90002,90003,90004,90005,90006,90007] (by exact rfl) rfl rfl rfl,?_⟩;refine aJ (fun x:Nat×List (List Int)=>x.2++bB (a.bores.drop x.1) P=N/\x.2.length<=x.1/\x.1<=a.bores.length) (fun x=>[(0,.bx 100000 0),(11,.p (.sl (a.bores.map bc))),(12,.p (i64 a.bores.length)),(13,.p (i64 x.1))]) (fun x=>[(100000,.box [.p (.sl (a.coppers.map rr)),.p (aj a.outline),.p (.sl (a.bores.map bc)),.p (.sl (a.lands.map lc)),.ow 90000,.ow 90001,.ow 90002,.ow 90003,.ow 90004,.ow 90005,.ow 90006,.ow 90007]),(90000,.row 59 D),(90001,.row 76 (P.map jb)),(90002,.row 71 (x.2.map fun l=>[ints l])),(90003,.row 142 []),(90004,.row 3 []),(90005,.row 3 []),(90006,.row 3 []),(90007,.row 174 [])]) (fun x=>a.bores.length-x.1) (0,[]) _ (au.refl _ _) ⟨W.symm,aam _,aaj _⟩ ⟨rfl,rfl,adV (fun m:Nat=>AV.p (i64 m)) lb,Z,Y⟩ ⟨Z,Z,Z,Z,Z,Z,Z,Z,Z,Y⟩ fun ⟨i,T⟩ hx t h=>?_;obtain⟨I,q2,q3⟩:=hx;simp only at I q2 q3;apply iW<;>intro g<;>try simp only[zB]at g
 ·obtain⟨b,O⟩:=ak (l:=a.bores) (i:=i) (by omega);have uW:=ky (V.bor b (aad O));rw[drop_at O,bB,aa8]at I;refine⟨(bc b),(idx rfl O),?_⟩;refine aJ (fun y:Nat×List Int=>y.2++fu b y.1 (P.drop y.1)=fu b 0 P/\y.2.length<=y.1/\y.1<=P.length) (fun y=>[(0,.bx 100000 0),(11,.p (.sl (a.bores.map bc))),(12,.p (i64 a.bores.length)),(13,.p (i64 i)),(3,.p (.ip (bc b))),(4,.ow 4),(20,.ow 90001),(21,.p (i64 P.length)),(22,.p (i64 y.1))]) (fun y=>[(100000,.box [.p (.sl (a.coppers.map rr)),.p (aj a.outline),.p (.sl (a.bores.map bc)),.p (.sl (a.lands.map lc)),.ow 90000,.ow 90001,.ow 90002,.ow 90003,.ow 90004,.ow 90005,.ow 90006,.ow 90007]),(90000,.row 59 D),(90001,.row 76 (P.map jb)),(90002,.row 71 (T.map fun l=>[ints l])),(90003,.row 142 []),(90004,.row 3 []),(90005,.row 3 []),(90006,.row 3 []),(90007,.row 174 []),(4,.row 3 (aA y.2))]) (fun y=>P.length-y.1) (0,[]) _ ((au.gD (by exact hC) _ 3 (y:=.ip (bc b)) (fz:=[(3,.jd (bc b))]) (by exact⟨rfl,rfl⟩)).trans (au.dk (by exact hC) _ 4 3 _ (by decide) (by exact rfl) (by exact rfl) (by decide))) ⟨rfl,aam _,aaj _⟩ ⟨rfl,rfl,rfl,rfl,rfl,rfl,rfl,adV (fun m:Nat=>AV.p (i64 m)) lp,Z,Y⟩ ⟨Z,Z,Z,Z,Z,Z,Z,Z,Z,Z,Y⟩ fun ⟨k,l⟩ R t h=>?_;obtain⟨z,k2,k3⟩:=R;simp only at z k2 k3;have ll:=bQ l;apply iW<;>intro g2<;>try simp only[zB]at g2
  ·obtain⟨p,U⟩:=ak (l:=P) (i:=k) (by omega);have hpt:=Q9 p (aad U);rw[drop_at U,fu]at z;have yes:fX b p=true->l++[(k:Int)]++fu b (k+1) (P.drop (k+1))=fu b 0 P:=fun h=>by
    rw[aap h]at z;rw[abx];exact z
   have no:fX b p=false->l++fu b (k+1) (P.drop (k+1))=fu b 0 P:=fun h=>by
    rw[aaa (by rw[h];decide)]at z;exact z
   refine⟨⟨by omega,by (try dsimp only);omega⟩,(jb p),(idx rfl U).2,iW ?_ ?_⟩<;>intro g3
   ·refine⟨_,_,(jk b p.layer),iW ?_ ?_⟩<;>intro g4
    ·refine⟨_,_,(zy (told p.set) (by omega) b uW),iW ?_ ?_⟩<;>intro g5
     ·have R:=yes (by simp only[fX,aaZ];exact⟨⟨g3,g4⟩,g5⟩);exact⟨⟨fun r J=>by simp at J;subst J;rfl,by simp only[ll,aaM,aan];omega,by simp only[ll,aaM,aan];omega⟩,wO (by omega),(k+1,l++[(k:Int)]),_,au.refl _ _,⟨R,by simp only[acv,abS];omega,by simp only;omega⟩,by simp only;omega,⟨Z,Z,Z,Z,Z,Z,Z,Z,Z,Y⟩,⟨rfl,rfl,rfl,rfl,rfl,rfl,rfl,rfl,rfl,adV (AB.row _) (gP l k).symm,trivial⟩⟩
     have L:=no (by simp only[fX];rw[abF];exact .inr g5);exact⟨wO (by omega),(k+1,l),_,au.refl _ _,⟨L,by simp only;omega,by simp only;omega⟩,by simp only;omega,⟨Z,Z,Z,Z,Z,Z,Z,Z,Z,Y⟩,⟨Z,Z,Z,Z,Z,Z,Z,Z,Z,Z,Y⟩⟩
    have L:=no (by simp only[fX];rw[g4,acC,aaI]);exact⟨wO (by omega),(k+1,l),_,au.refl _ _,⟨L,by simp only;omega,by simp only;omega⟩,by simp only;omega,⟨Z,Z,Z,Z,Z,Z,Z,Z,Z,Y⟩,⟨Z,Z,Z,Z,Z,Z,Z,Z,Z,Z,Y⟩⟩
   have L:=no (by simp only[fX];rw[g3,aaI,aaI]);exact⟨wO (by omega),(k+1,l),_,au.refl _ _,⟨L,by simp only;omega,by simp only;omega⟩,by simp only;omega,⟨Z,Z,Z,Z,Z,Z,Z,Z,Z,Y⟩,⟨Z,Z,Z,Z,Z,Z,Z,Z,Z,Z,Y⟩⟩
  rw[aaz (by omega),fu,acw]at z;have lT:=ai T fun l=>[ints l];exact⟨⟨fun r J=>by simp at J;subst J;rfl,by simp only[lT,aaM,aan];omega,by simp only[lT,aaM,aan];omega⟩,wO (by omega),(i+1,T++[l]),_,((au.pack (by exact hC) _ 100000 (cs:=[.p (.sl (a.coppers.map rr)),.p (aj a.outline),.p (.sl (a.bores.map bc)),.p (.sl (a.lands.map lc)),.row 59 D,.row 76 (P.map jb),.row 71 ((T++[l]).map fun l=>[ints l]),.row 142 [],.row 3 [],.row 3 [],.row 3 [],.row 174 []]) (by exact rfl) (by exact rfl) (by exact⟨rfl,rfl,rfl,rfl,rfl,rfl,by rw[abE];rfl,Z,Z,Z,Z,Z,Y⟩)).trans (au.open (by exact hC) _ 100000 [90000,90001,90002,90003,90004,90005,90006,90007] (cs:=[.p (.sl (a.coppers.map rr)),.p (aj a.outline),.p (.sl (a.bores.map bc)),.p (.sl (a.lands.map lc)),.row 59 D,.row 76 (P.map jb),.row 71 ((T++[l]).map fun l=>[ints l]),.row 142 [],.row 3 [],.row 3 [],.row 3 [],.row 174 []]) (by exact rfl) rfl rfl rfl)),⟨by rw[z];simp only[abx,aee];exact I,by simp only[acv,abS];omega,by simp only;omega⟩,by simp only;omega,⟨Z,Z,Z,Z,Y⟩,⟨Z,Z,Z,Z,Z,Z,Z,Z,Z,Y⟩⟩
 rw[aaz (by omega),bB,ac1,acw]at I;subst I;exact And.intro rfl (And.intro ⟨Z,Z,Z,Z,Z,Z,Z,Z,Z,Z,Z,Z,Z,Y⟩ trivial)
end M
namespace Reg
def mV(l:fo)(b:aS):Bool:=(b.plated&&through b l.layer)&&dE l.x l.y (aa b)
def pz(l:fo)(p:Piece):Bool:=decide (p.layer=l.layer)&&(told p.set).any (dE l.x l.y)
def nA(l:fo):Nat->List Piece->zx×Bool
 | _,[]=>(⟨false,0⟩,false)
 | k,p::r=>if pz l p=true then (⟨false,k⟩,true) else nA l (k+1) r
def mF(l:fo)(ps:List Piece):Nat->List aS->zx×Bool
 | _,[]=>nA l 0 ps
 | k,b::r=>if mV l b=true then (⟨true,k⟩,true) else mF l ps (k+1) r
def il(bs:List aS)(ps:List Piece)(l:fo):zx×Bool:=mF l ps 0 bs
def r_(m:Nat):List Int->List Int->List Int
 | [],u=>u
 | p::r,u=>r_ m r (gj u p.toNat m)
def uz(n:Nat):Nat->List (List Int)->List Int->List Int
 | _,[],u=>u
 | k,l::r,u=>uz n (k+1) r (r_ (n+k) l u)
def jm(n nb:Nat)(T:List (List Int)):List Int:=uz n 0 T (iota (n+nb))
theorem zC{m:Nat}:∀(l u:List Int),UF u->m<u.length->(∀p∈l,0<=p/\p.toNat<u.length)->UF (r_ m l u)/\(r_ m l u).length=u.length
 | [],u,h,_,_=>⟨h,rfl⟩
 | p::r,u,h,hm,hl=>by
  obtain⟨a,b⟩:=mC h (i:=p.toNat) (k:=m) (hl p adU).2 hm;obtain⟨c,d⟩:=zC (m:=m) r (gj u p.toNat m) a (by omega) fun q z=>by have:=hl q (aaw _ z);omega
  exact⟨c,d.trans b⟩
theorem qM{n nb:Nat}:∀(l:List (List Int)) (k:Nat) (u:List Int),UF u->u.length=n+nb->k+l.length<=nb->(∀x∈l,∀p∈x,0<=p/\p<n)->UF (uz n k l u)/\(uz n k l u).length=n+nb
 | [],k,u,h,hl,_,_=>⟨h,hl⟩
 | x::r,k,u,h,hl,hk,hx=>by
  simp only[aaB]at hk;obtain⟨a,b⟩:=zC (m:=n+k) x u h (by omega) fun p hp=>by have:=hx x adU p hp;omega
  exact qM r (k+1) _ a (b.trans hl) (by omega) fun y z=>hx y (aaw _ z)
theorem rE(b:aS):∀(ps:List Piece) (k:Nat),∀p∈fu b k ps,(k:Int)<=p/\p<((k+ps.length:Nat):Int)
 | [],k,p,h=>by cases h
 | q::ps,k,p,h=>by
  rw[fu]at h;have ih:=rE b ps (k+1) p;simp only[aaB];split at h
  ·rcases adq.1 h with rfl | h
   ·omega
   have:=ih h;omega
  have:=ih h;omega
def jF(bs:List aS)(n g:Nat)(s:(List Int×List Int)×List Int×List Int)(i:Nat):(List Int×List Int)×List Int×List Int:=
 if i<n then ((s.1.1.set i (g:Int),s.1.2),s.2.1++[(i:Int)],s.2.2) else
 if (bs.getD (i-n) ⟨0,0,0,0,0,false⟩).plated=true then ((s.1.1,s.1.2.set (i-n) (g:Int)),s.2.1,s.2.2++[((i:Int)-n)]) else
 ((s.1.1,s.1.2.set (i-n) (-1)),s.2.1,s.2.2)
def AT(bs:List aS)(n:Nat)(s:(List Int×List Int)×List bh)(l:List Nat):(List Int×List Int)×List bh:=
 let r:=l.foldl (jF bs n s.2.length) (s.1,[],[])
 (r.1,if 0<r.2.1.length+r.2.2.length then s.2++[⟨r.2.1,r.2.2,[]⟩] else s.2)
def jn(bs:List aS)(n:Nat)(L:List (List Nat)):(List Int×List Int)×List bh:=L.foldl (AT bs n) ((List.replicate n 0,List.replicate bs.length 0),[])
structure qN where
 groups:List bh
 ofLand:List Int
 atLand:List zx
def iN(p:ByteArray×ByteArray)(g:bh):bh:={ g with pins:=g.pins++[p] }
def uA(bs:List aS)(ps:List Piece)(o:List Int×List Int)(s:qN)(l:fo):qN:=
 let h:=il bs ps l;let k:Int:=if h.2=true then (if h.1.bore=true then o.2 else o.1).getD h.1.num.toNat 0 else -1
 ⟨if h.2=true then s.groups.set k.toNat (iN (l.part,l.pin) (s.groups.getD k.toNat ⟨[],[],[]⟩)) else s.groups,s.ofLand++[k],s.atLand++[h.1]⟩
end Reg
namespace M
open Go.AM Go.RowKit Go.Lib
open Reg (ae an aS fo fS Piece zx bE cv told aB bO aa through mV pz nA mF il)
def je(h:zx):List PV:=[bool h.bore,i64 h.num]
theorem Fk:M3=Reg.dE:=rfl
theorem Dl(a:fS)(ha:iD a)(l:fo)(J L N O U:List (List PV))(op ob:List Int)(P:List Piece)(hP:P.length<=1000000000)(Q9:∀p∈P,(told p.set).length<=4398046511104):af C 184 [.pv (.ip ((dX a)++[.sl J,.sl (P.map jb),.sl L,.sl N,ints op,ints ob,.sl O,.sl U])),.pv (.ag (lc l))] (.tu [.ag (je (il a.bores P l).1),bool (il a.bores P l).2]) []:=by
 have lb:=ai a.bores bc;have lp:=ai P jb;have zA:=ha.jB;obtain⟨R,hR⟩:∃R,R=il a.bores P l:=⟨_,rfl⟩;rw[<-hR];refine fW hC Tryz.func184 rfl (by kernel_rfl) fun _=>?_;refine aJ (fun i:Nat=>mF l P i (a.bores.drop i)=R) (fun i=>[(0,.p (.ip ((dX a)++[.sl J,.sl (P.map jb),.sl L,.sl N,ints op,ints ob,.sl O,.sl U]))),(3,.bx 3 0),(4,.bx 4 0),(14,.p (.sl (a.bores.map bc))),(15,.p (i64 a.bores.length)),(16,.p (i64 i))]) (fun _=>[(3,.box [.p (str l.part),.p (str l.pin),.p (i64 l.layer),.p (i64 l.x),.p (i64 l.y)]),(4,.box [.p (bool false),.p (i64 0)])]) (fun i=>a.bores.length-i) 0 _ (au.refl _ _) hR.symm ⟨rfl,rfl,rfl,rfl,adV (fun m:Nat=>AV.p (i64 m)) lb,Z,Y⟩ ⟨Z,Z,Y⟩ fun i hi t h=>?_;apply iW<;>intro g
 ·obtain⟨b,V⟩:=ak (l:=a.bores) (i:=i) (by omega);have uW:=ky (ha.bor b (aad V));rw[drop_at V,mF]at hi;refine⟨(bc b),(idx rfl V),?_⟩;have yes:mV l b=true->R=(⟨true,i⟩,true):=fun h=>by rw[aap h]at hi;exact hi.symm
  have no:mV l b=false->mF l P (i+1) (a.bores.drop (i+1))=R:=fun h=>by rw[aaa (by rw[h];decide)]at hi;exact hi
  apply iW<;>intro D
  ·refine⟨_,_,(jk b l.layer),iW ?_ ?_⟩<;>intro I
   ·refine⟨_,_,(cF b uW),_,_,(pU [aa b] (by simp) l.x l.y),iW ?_ ?_⟩<;>intro g3
    ·have W:=yes (by simp only[mV,aaZ];exact⟨⟨D,I⟩,by simpa [Fk] using g3⟩);exact And.intro (by rw[W];rfl) trivial
    have z:=no (by simp only[mV];rw[abF];exact .inr (by simpa [Fk] using g3));exact⟨wO (by omega),(i+1),_,au.refl _ _,z,by omega,⟨Z,Z,Z,Z,Z,Z,Y⟩,⟨Z,Z,Y⟩⟩
   have z:=no (by simp only[mV];rw[I,acC,aaI]);exact⟨wO (by omega),(i+1),_,au.refl _ _,z,by omega,⟨Z,Z,Z,Z,Z,Z,Y⟩,⟨Z,Z,Y⟩⟩
  have z:=no (by simp only[mV];rw[D,aaI,aaI]);exact⟨wO (by omega),(i+1),_,au.refl _ _,z,by omega,⟨Z,Z,Z,Z,Z,Z,Y⟩,⟨Z,Z,Y⟩⟩
 rw[aaz (by omega),mF]at hi;refine aJ (fun k:Nat=>nA l k (P.drop k)=R) (fun k=>[(0,.p (.ip ((dX a)++[.sl J,.sl (P.map jb),.sl L,.sl N,ints op,ints ob,.sl O,.sl U]))),(3,.bx 3 0),(4,.bx 4 0),(43,.p (.sl (P.map jb))),(44,.p (i64 P.length)),(45,.p (i64 k))]) (fun _=>[(3,.box [.p (str l.part),.p (str l.pin),.p (i64 l.layer),.p (i64 l.x),.p (i64 l.y)]),(4,.box [.p (bool false),.p (i64 0)])]) (fun k=>P.length-k) 0 _ (au.refl _ _) hi ⟨rfl,rfl,rfl,rfl,adV (fun m:Nat=>AV.p (i64 m)) lp,Z,Y⟩ ⟨Z,Z,Y⟩ fun k hk t h=>?_;apply iW<;>intro g5
 ·obtain⟨p,J_⟩:=ak (l:=P) (i:=k) (by omega);have hpt:=Q9 p (aad J_);rw[drop_at J_,nA]at hk;have yes:pz l p=true->R=(⟨false,k⟩,true):=fun h=>by rw[aap h]at hk;exact hk.symm
  have no:pz l p=false->nA l (k+1) (P.drop (k+1))=R:=fun h=>by rw[aaa (by rw[h];decide)]at hk;exact hk
  refine⟨(jb p),(idx rfl J_),iW ?_ ?_⟩<;>intro D
  ·refine⟨_,_,(pU (told p.set) (by omega) l.x l.y),iW ?_ ?_⟩<;>intro I
   ·have W:=yes (by simp only[pz,aaZ,aaH];exact⟨D,I⟩);exact And.intro (by rw[W];rfl) trivial
   have z:=no (by simp only[pz];rw[abF];exact .inr I);exact⟨wO (by omega),(k+1),_,au.refl _ _,z,by omega,⟨Z,Z,Z,Z,Z,Z,Y⟩,⟨Z,Z,Y⟩⟩
  have z:=no (by simp only[pz];rw[aaC D,aaI]);exact⟨wO (by omega),(k+1),_,au.refl _ _,z,by omega,⟨Z,Z,Z,Z,Z,Z,Y⟩,⟨Z,Z,Y⟩⟩
 rw[aaz (by omega),nA]at hk;exact And.intro (by rw[<-hk];rfl) trivial
theorem uB(a:fS)(hp:zx)(I J L N O:List (List PV))(op ob:List Int)(P:List Piece)(n:Nat)(D:hp.num=n)(v:Int)(z:(if hp.bore=true then ob else op)[n]?=some v):af C 185 [.pv (.ip ((dX a)++[.sl I,.sl (P.map jb),.sl J,.sl L,ints op,ints ob,.sl N,.sl O])),.pv (.ag (je hp))] (.p (i64 v)) []:=by
 obtain⟨b,m⟩:=hp;simp only at D z;subst D;refine fW hC Tryz.func185 rfl (by kernel_rfl) fun _=>?_;apply iW<;>intro g<;>try simp only[zB]at g
 ·rw[aap g]at z;refine⟨[i64 v],(idx rfl z),?_,trivial⟩;rfl
 rw[aaa (by rw[g];decide)]at z;refine⟨[i64 v],(idx rfl z),?_,trivial⟩;rfl
end M
namespace Reg
def I7:aS:=⟨0,0,0,0,0,false⟩
def bD(bs:List aS)(j:Nat):Bool:=(bs.getD j I7).plated
structure iB(bs:List aS)(n g:Nat)(l:List Nat)(s r:(List Int×List Int)×List Int×List Int):Prop where
 l1:r.1.1.length=s.1.1.length
 l2:r.1.2.length=s.1.2.length
 op:∀i,r.1.1[i]?=if i∈l/\i<n then some (g:Int) else s.1.1[i]?
 ob:∀j,r.1.2[j]?=if n+j∈l then some (if bD bs j=true then (g:Int) else -1) else s.1.2[j]?
 ps:∀x,x∈r.2.1↔x∈s.2.1\/∃i:Nat,i∈l/\i<n/\x=i
 bs':∀x,x∈r.2.2↔x∈s.2.2\/∃j:Nat,n+j∈l/\bD bs j=true/\x=j
theorem uC(bs:List aS)(n g:Nat):∀(l:List Nat) (s:(List Int×List Int)×List Int×List Int),s.1.1.length=n->s.1.2.length=bs.length->(∀i∈l,i<n+bs.length)->iB bs n g l s (l.foldl (jF bs n g) s)
 | [],s,_,_,_=>⟨rfl,rfl,fun i=>by simp,fun j=>by simp,fun x=>by simp,fun x=>by simp⟩
 | i::l,s,h1,h2,hl=>by
  have hi:=hl i adU;have I:∀i∈l,i<n+bs.length:=fun i h=>hl i (aaw _ h);rw[aaq];by_cases c:i<n
  ·have e:jF bs n g s i=((s.1.1.set i (g:Int),s.1.2),s.2.1++[(i:Int)],s.2.2):=by rw[jF,aap c]
   rw[e];have r:=uC bs n g l ((s.1.1.set i (g:Int),s.1.2),s.2.1++[(i:Int)],s.2.2) (by simp only[aaM];exact h1) h2 I;refine⟨r.l1.trans (aaM ..),r.l2,fun k=>?_,fun j=>?_,fun x=>?_,fun x=>?_⟩
   ·rw[r.op];by_cases hk:k∈l/\k<n
    ·rw[aap hk,aap ⟨aaw _ hk.1,hk.2⟩]
    rw[aaa hk,ahw (by omega)];by_cases J:k=i
    ·subst J;rw[aap rfl,aap ⟨adU,c⟩]
    rw[aaa J,aaa (fun z=>hk ⟨(adq.1 z.1).resolve_left J,z.2⟩)]
   ·rw[r.ob];have:(n+j∈i::l)↔n+j∈l:=by
     rw[adq];exact⟨fun h=>h.resolve_left (by omega),.inr⟩
    simp only[this]
   ·rw[r.ps];simp only[abi,adq,ab2,or_false];constructor
    ·rintro ((h | h) | ⟨k,a,b,e⟩)
     ·exact .inl h
     ·exact .inr ⟨i,.inl rfl,c,h⟩
     exact .inr ⟨k,.inr a,b,e⟩
    rintro (h | ⟨k,a | a,b,e⟩)
    ·exact .inl (.inl h)
    ·exact .inl (.inr (by rw[e,a]))
    exact .inr ⟨k,a,b,e⟩
   rw[r.bs'];simp only[adq];constructor
   ·rintro (h | ⟨k,a,b⟩)
    ·exact .inl h
    exact .inr ⟨k,.inr a,b⟩
   rintro (h | ⟨k,a | a,b⟩)
   ·exact .inl h
   ·omega
   exact .inr ⟨k,a,b⟩
  have N:(bs.getD (i-n) ⟨0,0,0,0,0,false⟩).plated=bD bs (i-n):=rfl;have L:∀k,(k∈i::l/\k<n)↔(k∈l/\k<n):=fun k=>by
   rw[adq];exact⟨fun h=>⟨h.1.resolve_left (by omega),h.2⟩,fun h=>⟨.inr h.1,h.2⟩⟩
  have O:∀x:Int,(∃k:Nat,k∈i::l/\k<n/\x=k)↔(∃k:Nat,k∈l/\k<n/\x=k):=fun x=>
   ⟨fun ⟨k,a,b,e⟩=>⟨k,((L k).1 ⟨a,b⟩).1,b,e⟩,fun ⟨k,a,b,e⟩=>⟨k,aaw _ a,b,e⟩⟩
  have R:∀(o:List Int) (v:Int) (j:Nat),o.length=bs.length->(v=if bD bs (i-n)=true then (g:Int) else -1)->(if n+j∈l then some (if bD bs j=true then (g:Int) else -1) else (o.set (i-n) v)[j]?)=if n+j∈i::l then some (if bD bs j=true then (g:Int) else -1) else o[j]?:=fun o v j ho V=>by
   by_cases D:n+j∈l
   ·rw[aap D,aap (aaw _ D)]
   rw[aaa D,ahw (by omega)];by_cases U:j=i-n
   ·subst U;rw[aap rfl,aap (adq.2 (.inl (by omega))),V]
   rw[aaa U,aaa (fun z=>D ((adq.1 z).resolve_left (by omega)))]
  by_cases p:bD bs (i-n)=true
  ·have e:jF bs n g s i=((s.1.1,s.1.2.set (i-n) (g:Int)),s.2.1,s.2.2++[((i:Int)-n)]):=by rw[jF,aaa c,N,aap p]
   rw[e];have r:=uC bs n g l ((s.1.1,s.1.2.set (i-n) (g:Int)),s.2.1,s.2.2++[((i:Int)-n)]) h1 (by simp only[aaM];exact h2) I;refine⟨r.l1,r.l2.trans (aaM ..),fun k=>?_,fun j=>?_,fun x=>?_,fun x=>?_⟩
   ·rw[r.op];simp only[L]
   ·rw[r.ob];exact R _ _ _ h2 (by rw[aap p])
   ·rw[r.ps,O]
   rw[r.bs'];simp only[abi,adq,ab2,or_false];constructor
   ·rintro ((h | h) | ⟨k,a,b,e⟩)
    ·exact .inl h
    ·exact .inr ⟨i-n,.inl (by omega),p,by omega⟩
    exact .inr ⟨k,.inr a,b,e⟩
   rintro (h | ⟨k,a | a,b,e⟩)
   ·exact .inl (.inl h)
   ·exact .inl (.inr (by omega))
   exact .inr ⟨k,a,b,e⟩
  have e:jF bs n g s i=((s.1.1,s.1.2.set (i-n) (-1)),s.2.1,s.2.2):=by rw[jF,aaa c,N,aaa p]
  rw[e];have r:=uC bs n g l ((s.1.1,s.1.2.set (i-n) (-1)),s.2.1,s.2.2) h1 (by simp only[aaM];exact h2) I;refine⟨r.l1,r.l2.trans (aaM ..),fun k=>?_,fun j=>?_,fun x=>?_,fun x=>?_⟩
  ·rw[r.op];simp only[L]
  ·rw[r.ob];exact R _ _ _ h2 (by rw[aaa p])
  ·rw[r.ps,O]
  rw[r.bs'];simp only[adq];constructor
  ·rintro (h | ⟨k,a,b⟩)
   ·exact .inl h
   exact .inr ⟨k,.inr a,b⟩
  rintro (h | ⟨k,a | a,b,e⟩)
  ·exact .inl h
  ·have:k=i-n:=by omega
   rw[this]at b;exact absurd b p
  exact .inr ⟨k,a,b,e⟩
structure Nz(bs:List aS)(n:Nat)(D:List (List Nat))(s:(List Int×List Int)×List bh):Prop where
 l1:s.1.1.length=n
 l2:s.1.2.length=bs.length
 a:∀i,i<n->(∃l∈D,i∈l)->∃(k:Nat) (g:bh),s.1.1[i]?=some (k:Int)/\s.2[k]?=some g/\(i:Int)∈g.pieces
 b:∀j,j<bs.length->bD bs j=true->(∃l∈D,n+j∈l)->∃(k:Nat) (g:bh),s.1.2[j]?=some (k:Int)/\s.2[k]?=some g/\(j:Int)∈g.bores
 c:∀(k:Nat) g,s.2[k]?=some g->g.pins=[]/\∀x∈g.pieces,∃i:Nat,x=i/\i<n/\s.1.1[i]?=some (k:Int)/\∃l∈D,i∈l
 d:∀j,j<bs.length->bD bs j=false->(∃l∈D,n+j∈l)->s.1.2[j]?=some (-1)
variable {bs:List aS}
theorem KP{n:Nat}{D:List (List Nat)}{s:(List Int×List Int)×List bh}(h:Nz bs n D s){l:List Nat}(hl:∀i∈l,i<n+bs.length)(hd:∀L∈D,∀i∈L,¬i∈l):Nz bs n (D++[l]) (AT bs n s l):=by
 have r:=uC bs n s.2.length l (s.1,[],[]) h.l1 h.l2 hl;obtain⟨q,hq⟩:∃q,q=l.foldl (jF bs n s.2.length) (s.1,[],[]):=⟨_,rfl⟩;rw[<-hq]at r;have hs:AT bs n s l=(q.1,if 0<q.2.1.length+q.2.2.length then s.2++[⟨q.2.1,q.2.2,[]⟩] else s.2):=by rw[hq];rfl
 rw[hs];have W:∀x,x∈q.2.1↔∃i:Nat,i∈l/\i<n/\x=i:=fun x=>by rw[r.ps];simp
 have ZC:∀x,x∈q.2.2↔∃j:Nat,n+j∈l/\bD bs j=true/\x=j:=fun x=>by rw[r.bs'];simp
 have keep:∀(k:Nat) g,s.2[k]?=some g->(if 0<q.2.1.length+q.2.2.length then s.2++[⟨q.2.1,q.2.2,[]⟩] else s.2)[k]?=some g:=fun k g hk=>by
  split
  ·rw[aaE (aao.1 hk).1];exact hk
  exact hk
 have Vr:∀x,(x∈q.2.1\/x∈q.2.2)->(if 0<q.2.1.length+q.2.2.length then s.2++[(⟨q.2.1,q.2.2,[]⟩:bh)] else s.2)[s.2.length]?=some ⟨q.2.1,q.2.2,[]⟩:=fun x R=>by
  have:0<q.2.1.length+q.2.2.length:=by rcases R with h | h<;>(have:=aed h;omega)
  rw[aap this,acu (aam _),aab];rfl
 have U:∀i,(∃L∈D++[l],i∈L)↔(∃L∈D,i∈L)\/i∈l:=fun i=>by
  constructor
  ·rintro⟨L,I,J⟩;rcases abi.1 I with I | I
   ·exact .inl ⟨L,I,J⟩
   rw[ab_]at I;subst I;exact .inr J
  rintro (⟨L,I,J⟩ | J)
  ·exact⟨L,abY _ I,J⟩
  exact⟨l,adt _ (ab_.2 rfl),J⟩
 refine⟨r.l1.trans h.l1,r.l2.trans h.l2,fun i hi N=>?_,fun j Y hp N=>?_,fun k g hk=>?_,fun j Y hp N=>?_⟩
 ·by_cases z:i∈l
  ·refine⟨s.2.length,_,by rw[r.op,aap ⟨z,hi⟩],Vr i (.inl ((W _).2 ⟨i,z,hi,rfl⟩)),(W _).2 ⟨i,z,hi,rfl⟩⟩
  obtain⟨k,g,I,J,Z⟩:=h.a i hi (((U i).1 N).resolve_right z);exact⟨k,g,by rw[r.op,aaa (fun V=>z V.1)];exact I,keep k g J,Z⟩
 ·by_cases z:n+j∈l
  ·refine⟨s.2.length,_,by rw[r.ob,aap z,aap hp],Vr j (.inr ((ZC _).2 ⟨j,z,hp,rfl⟩)),(ZC _).2 ⟨j,z,hp,rfl⟩⟩
  obtain⟨k,g,I,J,Z⟩:=h.b j Y hp (((U _).1 N).resolve_right z);exact⟨k,g,by rw[r.ob,aaa z];exact I,keep k g J,Z⟩
 ·by_cases Ts:k<s.2.length
  ·have xA:s.2[k]?=some g:=by
    have e:=keep k s.2[k] (acg Ts);have e2:=hk.symm.trans e;injection e2 with e2;rw[e2];exact acg Ts
   obtain⟨c1,c2⟩:=h.c k g xA;refine⟨c1,fun x R=>?_⟩;obtain⟨i,e,hi,ho,N⟩:=c2 x R;have z:¬i∈l:=fun V=>by
    obtain⟨L,I,J⟩:=N;exact hd L I i J V
   exact⟨i,e,hi,by rw[r.op,aaa (fun V=>z V.1)];exact ho,(U i).2 (.inl N)⟩
  have O:(if 0<q.2.1.length+q.2.2.length then s.2++[(⟨q.2.1,q.2.2,[]⟩:bh)] else s.2)[k]?=some g:=hk;split at O
  ·rw[acu (by omega)]at O;have Ov:k=s.2.length:=by
    have:=(aao.1 O).1;simp at this;omega
   rw[Ov,aab]at O;injection O with O;subst O;subst Ov;refine⟨rfl,fun x R=>?_⟩;obtain⟨i,z,hi,e⟩:=(W x).1 R;exact⟨i,e,hi,by rw[r.op,aap ⟨z,hi⟩],(U i).2 (.inr z)⟩
  exact absurd (aao.1 O).1 Ts
 by_cases z:n+j∈l
 ·rw[r.ob,aap z,hp];rfl
 rw[r.ob,aaa z];exact h.d j Y hp (((U _).1 N).resolve_right z)
theorem Fl{n:Nat}:∀(L D:List (List Nat)) (s:(List Int×List Int)×List bh),Nz bs n D s->(∀l∈L,∀i∈l,i<n+bs.length)->(∀z∈D,∀l∈L,∀i∈z,¬i∈l)->(L.Pairwise fun z l=>∀i∈z,¬i∈l)->Nz bs n (D++L) (L.foldl (AT bs n) s)
 | [],D,s,h,_,_,_=>by rw[acw];exact h
 | l::L,D,s,h,hl,hd,hp=>by
  have I:=abw.1 hp;have N:=KP h (hl l adU) fun z O=>hd z O l adU;have:=Fl L (D++[l]) (AT bs n s l) N (fun z h'=>hl z (aaw _ h')) (fun z h' m J i hi=>by
   rcases abi.1 h' with h' | h'
   ·exact hd z h' m (aaw _ J) i hi
   rw[ab_]at h';subst h';exact I.1 m J i hi) I.2
  rw[abx,aee]at this;exact this
structure mG(bs:List aS)(n:Nat)(s:(List Int×List Int)×List bh):Prop where
 l1:s.1.1.length=n
 l2:s.1.2.length=bs.length
 a:∀i,i<n->∃(k:Nat) (g:bh),s.1.1[i]?=some (k:Int)/\s.2[k]?=some g/\(i:Int)∈g.pieces
 b:∀j,j<bs.length->bD bs j=true->∃(k:Nat) (g:bh),s.1.2[j]?=some (k:Int)/\s.2[k]?=some g/\(j:Int)∈g.bores
 c:∀(k:Nat) g,s.2[k]?=some g->g.pins=[]/\∀x∈g.pieces,∃i:Nat,x=i/\i<n/\s.1.1[i]?=some (k:Int)
 d:∀j,j<bs.length->bD bs j=false->s.1.2[j]?=some (-1)
theorem vL{n:Nat}{u:List Int}(L:UF u)(hl:u.length=n+bs.length):mG bs n (jn bs n (aP (cQ u) (n+bs.length))):=by
 have D:=rz L;rw[hl]at D;have N:Nz bs n [] ((List.replicate n 0,List.replicate bs.length 0),[]):=⟨aan,aan,fun i _ ⟨l,h,_⟩=>(by cases h),fun j _ _ ⟨l,h,_⟩=>(by cases h),fun k g h=>by simp at h,fun j _ _ ⟨l,h,_⟩=>(by cases h)⟩;have z:=Fl (aP (cQ u) (n+bs.length)) [] _ N (fun l h i hi=>by
  obtain⟨r,_,rfl⟩:=adS.1 h;exact (dx.1 hi).1) (fun l' h=>by cases h) (by
  rw[aP,acZ];refine (afh _ _).imp fun {r q} O=>?_;intro i hi R;exact O ((dx.1 hi).2.symm.trans (dx.1 R).2))
 have I:∀i,i<n+bs.length->∃l∈[]++aP (cQ u) (n+bs.length),i∈l:=fun i hi=>by
  refine⟨dh (cQ u) (n+bs.length) (cQ u i),?_,dx.2 ⟨hi,rfl⟩⟩;rw[ab3,aP];exact adS.2 ⟨cQ u i,mem_keys.2 ⟨by have:=D.le i hi;omega,D.top i hi⟩,rfl⟩
 exact⟨z.l1,z.l2,fun i hi=>z.a i hi (I i (by omega)),fun j J hp=>z.b j J hp (I (n+j) (by omega)),fun k g hk=>⟨(z.c k g hk).1,fun x U=>by obtain⟨i,a,b,c,_⟩:=(z.c k g hk).2 x U;exact⟨i,a,b,c⟩⟩,fun j J hp=>z.d j J hp (I (n+j) (by omega))⟩
theorem Fm(l:fo):∀(ps:List Piece) (k:Nat),(nA l k ps).2=true->∃m:Nat,(nA l k ps).1=⟨false,m⟩/\k<=m/\m<k+ps.length
 | [],k,h=>by cases h
 | p::ps,k,h=>by
  rw[nA]at h ⊢;by_cases c:pz l p=true
  ·rw[aap c];exact⟨k,rfl,aam _,by simp⟩
  rw[aaa c]at h ⊢;obtain⟨m,a,b,d⟩:=Fm l ps (k+1) h;exact⟨m,a,by omega,by simp only[aaB];omega⟩
theorem zD(l:fo)(ps:List Piece):∀(bs:List aS) (k:Nat),(mF l ps k bs).2=true->(∃m:Nat,(mF l ps k bs).1=⟨false,m⟩/\m<ps.length)\/∃m:Nat,(mF l ps k bs).1=⟨true,m⟩/\k<=m/\m<k+bs.length/\bD bs (m-k)=true
 | [],k,h=>by
  rw[mF]at h ⊢;obtain⟨m,a,_,b⟩:=Fm l ps 0 h;exact .inl ⟨m,a,by omega⟩
 | b::bs,k,h=>by
  rw[mF]at h ⊢;by_cases c:mV l b=true
  ·rw[aap c];simp only[mV,aaZ]at c;exact .inr ⟨k,rfl,aam _,by simp,by rw[aab];exact c.1.1⟩
  rw[aaa c]at h ⊢;rcases zD l ps bs (k+1) h with⟨m,a,d⟩ | ⟨m,a,d,e,f⟩
  ·exact .inl ⟨m,a,d⟩
  refine .inr ⟨m,a,by omega,by simp only[aaB];omega,?_⟩;rw[show m-k=(m-(k+1))+1 by omega];exact f
theorem KQ{ps:List Piece}{s:(List Int×List Int)×List bh}(h:mG bs ps.length s)(l:fo)(I:(il bs ps l).2=true):∃m k:Nat,(il bs ps l).1.num=m/\(if (il bs ps l).1.bore=true then s.1.2 else s.1.1)[m]?=some (k:Int)/\k<s.2.length:=by
 rcases zD l ps bs 0 I with⟨m,a,d⟩ | ⟨m,a,_,d,e⟩
 ·obtain⟨k,g,z,D,_⟩:=h.a m d;refine⟨m,k,by rw[il,a],?_,(aao.1 D).1⟩;rw[il,a];exact z
 obtain⟨k,g,z,D,_⟩:=h.b m (by omega) e;refine⟨m,k,by rw[il,a],?_,(aao.1 D).1⟩;rw[il,a];exact z
end Reg
end Go.Proofs.YtfloceomobknoaaGreatDoor
