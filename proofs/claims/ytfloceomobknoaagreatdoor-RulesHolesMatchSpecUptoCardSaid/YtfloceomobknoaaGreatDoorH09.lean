/- Part 9 of the proof of RulesHolesMatchSpec. -/
import Derived.Test.YtfloceomobknoaaGreatDoorH08
set_option linter.unusedVariables false
set_option linter.unusedSimpArgs false
set_option maxRecDepth 100000
set_option maxHeartbeats 8000000
namespace Go
abbrev abM:=@List.length_pos_of_mem
abbrev aec:=@List.nodup_iff_pairwise_ne
abbrev adL:=@List.map_eq_nil_iff
abbrev aed:=@List.singleton_append
end Go
namespace Go.Proofs.YtfloceomobknoaaGreatDoor
namespace M
open Go.AM Go.RowKit Go.Lib
open Reg (UF eh cw iota gj bg kK ov meets pW jE ox cV bE cv an ae told aB bw)
theorem getD_at{l:List ae}{i:Nat}{r:ae}(h:l[i]?=some r):l.getD i bg=r:=by rw[ad4,h];rfl
def qK(s:List an)(k:Nat):Option an:=if k=0 then none else s[k-1]?
theorem prev_next{s:List an}{k:Nat}{b:an}(h:s[k]?=some b):qK s (k+1)=some b:=by rw[qK,aaa (by omega)];exact h
theorem KL(b:an)(s:List an):(told (b::s)).length=b.xs.length+(told s).length:=by simp[told]
theorem KM(l:Reg.aU):((((flat l).map fun n=>[i64 n]).length:Nat):Int).tdiv 2=(l.length:Nat):=by
 rw[aej,eY,abk (by omega)];omega
theorem Fi(s:List an)(hs:bE s)(ks:cv 1400000 s)(hN:(told s).length<=1000000000):af C 177 [.pv (aw s)] (.own 59 ((cV s).map fun p=>[aw p])) []:=by
 have ls:=Reg.cc hs (by omega) ks;have lx:=Reg.kT hs (by omega) ks;have lt:=Reg.fj hs ks;have ms:=ai s hb;obtain⟨N,Vo⟩:∃N,N=(told s).length:=⟨_,rfl⟩;have la:=ai (told s) rc;refine uX ⟨[19,36],[],[(36,[17,1000017,19,1000019,136])],[36],[],[]⟩ hC Tryz.func177 rfl (by kernel_rfl) fun _=>?_;refine⟨_,_,(ae6 s (by omega) (fun t ht=>by have:=lx t ht;omega) lt),?_⟩;refine⟨⟨by omega,by omega,by dsimp only;omega,by omega⟩,?_⟩;refine aJ (fun i:Nat=>i<=N) (fun i=>[(0,.p (aw s)),(3,.p (aj (told s))),(4,.bx 4 0),(32,.p (i64 N)),(33,.p (i64 i))]) (fun i=>[(4,.box [.ow 30]),(30,.row 3 (aA (sR N i)))]) (fun i=>N-i) 0 _ (au.own (by exact hC) _ 3 (id:=3) (by exact rfl) (by exact rfl)) (aaj _) ⟨rfl,rfl,rfl,adV (fun m:Nat=>AV.p (i64 m)) (by rw[Vo];simp),Z,Y⟩ ⟨rfl,by rw[BK,Vo,<-la];rfl,trivial⟩ fun i hi t h=>?_;have lv:=bQ (sR N i);have lu:=zp N i;refine iW ?_ ?_<;>intro h1
 ·refine⟨⟨by omega,by rw[lv];omega⟩,?_⟩;refine⟨[i64 0],(cM (Fc (by omega))),?_⟩;refine⟨⟨by omega,by omega⟩,?_⟩;exact⟨(i+1),_,au.refl _ _,by omega,by omega,⟨Z,Z,Z,Z,Z,Y⟩,⟨rfl,adV (AB.row _) ((fV _ _ _).trans (by rw[ad2,Ff (by omega)])),trivial⟩⟩
 have e:i=N:=by omega
 subst e;rw[Fe];obtain⟨U,hU⟩:∃U,U=jE s:=⟨_,rfl⟩;obtain⟨all,aeL⟩:∃all,all=told s:=⟨_,rfl⟩;have hU':pW all none s (iota i) 0 0=U:=by rw[hU,Vo,aeL];rfl
 have Zv:all.length=i:=by rw[Vo,aeL]
 rw[<-aeL]at la ⊢;refine aJ (fun x:Nat×List Int×Nat×Nat=>pW all (qK s x.1) (s.drop x.1) x.2.1 x.2.2.1 x.2.2.2=U/\UF x.2.1/\x.2.1.length=i/\x.2.2.1+(told (s.drop x.1)).length=i/\x.2.2.2<=x.2.2.1/\x.1<=s.length) (fun x=>[(0,.p (aw s)),(3,.p (aj all)),(4,.bx 4 0),(6,.fn 242 [.bx 4 0]),(7,.p (i64 x.2.2.1)),(8,.p (i64 x.2.2.2)),(42,.p (aw s)),(43,.p (i64 s.length)),(44,.p (i64 x.1))]) (fun x=>[(4,.aN [.row 3 (aA x.2.1)])]) (fun x=>s.length-x.1) (0,iota i,0,0) _ (au.pack (by exact hC) _ 4 (cs:=[.row 3 (aA (iota i))]) (by exact rfl) (by exact rfl) (by exact⟨Z,Y⟩)) ⟨hU',Reg.ny _,Reg.aeM _,by simp only[List.drop_zero,abC];rw[Vo],aam _,aaj _⟩ ⟨rfl,rfl,rfl,rfl,rfl,rfl,rfl,adV (fun m:Nat=>AV.p (i64 m)) ms,Z,Y⟩ ⟨Z,Y⟩ fun ⟨k,u,f,g⟩ hx t h=>?_;obtain⟨c1,c2,c3,c4,c5,c6⟩:=hx;simp only at c1 c2 c3 c4 c5 c6;refine iW ?_ ?_<;>intro g1<;>try simp only[zB]at g1
 ·obtain⟨b,BD⟩:=ak (l:=s) (i:=k) (by omega);rw[drop_at BD]at c1 c4;rw[KL]at c4;rw[pW,<-prev_next BD]at c1;have hf:=KM b.xs;have lf:((flat b.xs).map fun n=>[i64 n]).length=2*b.xs.length:=by rw[aej,eY]
  refine⟨(hb b),(idx rfl BD),?_⟩;refine⟨by decide,?_⟩;refine⟨⟨by rw[hf];omega,by rw[hf];omega⟩,?_⟩;have skip:Reg.meets (qK s k) b=false->pW all (qK s (k+1)) (s.drop (k+1)) u (f+b.xs.length) f=U:=fun hm=>by
   rw[hm]at c1;exact c1
  refine iW ?_ ?_<;>intro g2<;>try simp only[zB]at g2
  ·obtain⟨q,hq⟩:=ak (l:=s) (i:=k-1) (by omega);have hpv:qK s k=some q:=by rw[qK,aaa (by omega)];exact hq
   refine⟨⟨by omega,by omega⟩,?_⟩;refine⟨(hb q),(idx (show (k:Int)-1=((k-1:Nat):Int) by omega) hq),?_⟩;refine iW ?_ ?_<;>intro g3
   ·have hm:Reg.meets (qK s k) b=true:=by rw[hpv];simpa [Reg.meets] using g3
    rw[hm,aap rfl]at c1;refine aJ (fun y:Nat×List Int×Nat×Nat=>ov all f (f+b.xs.length) y.1 y.2.1 y.2.2.1 y.2.2.2=ov all f (f+b.xs.length) (f-g+b.xs.length) u g f/\UF y.2.1/\y.2.1.length=i/\(f-y.2.2.1)+(f+b.xs.length-y.2.2.2)<=y.1/\y.2.2.1<=f/\y.2.2.2<=f+b.xs.length) (fun y=>[(0,.p (aw s)),(3,.p (aj all)),(4,.bx 4 0),(6,.fn 242 [.bx 4 0]),(7,.p (i64 f)),(8,.p (i64 g)),(42,.p (aw s)),(43,.p (i64 s.length)),(44,.p (i64 k)),(11,.p (i64 b.xs.length)),(12,.p (i64 y.2.2.1)),(13,.p (i64 y.2.2.2))]) (fun y=>[(4,.aN [.row 3 (aA y.2.1)])]) (fun y=>(f-y.2.2.1)+(f+b.xs.length-y.2.2.2)) (f-g+b.xs.length,u,g,f) _ (au.refl _ _) ⟨rfl,c2,c3,by simp only;omega,by simp only;omega,by simp only;omega⟩ ⟨rfl,rfl,rfl,rfl,rfl,rfl,rfl,rfl,rfl,by rw[<-hf];rfl,Z,Z,Y⟩ ⟨Z,Y⟩ fun ⟨n,v,p,q'⟩ hy t h=>?_;obtain⟨z1,z2,z3,z4,z5,z6⟩:=hy;simp only at z1 z2 z3 z4 z5 z6;have stop:¬(p<f/\q' < f+b.xs.length)->v=ov all f (f+b.xs.length) (f-g+b.xs.length) u g f:=fun hc=>by
     rw[<-z1];cases n with
     | zero=>rfl
     | succ n=>rw[ov,aaa hc]
    refine iW ?_ ?_<;>intro e1<;>try simp only[zB]at e1
    ·refine⟨⟨by omega,by omega⟩,?_⟩;refine iW ?_ ?_<;>intro e2<;>try simp only[zB]at e2
     ·obtain⟨n,rfl⟩:∃n',n=n'+1:=⟨n-1,by omega⟩;rw[ov,aap (by omega)]at z1;obtain⟨x,hx⟩:=ak (l:=all) (i:=p) (by omega);obtain⟨y,hy⟩:=ak (l:=all) (i:=q') (by omega);rw[getD_at hx,getD_at hy]at z1;have Ln:∀(w:List Int),(if kK x y=true then gj v p q' else v)=w->(x.x1<y.x1->ov all f (f+b.xs.length) n w (p+1) q'=ov all f (f+b.xs.length) (f-g+b.xs.length) u g f)/\(¬x.x1<y.x1->ov all f (f+b.xs.length) n w p (q'+1)=ov all f (f+b.xs.length) (f-g+b.xs.length) u g f):=fun w hw=>by
       rw[hw]at z1;exact⟨fun hc=>by rw[aap hc,aap hc]at z1;exact z1,fun hc=>by rw[aaa hc,aaa hc]at z1;exact z1⟩
      refine⟨(rc x),(idx rfl hx),?_⟩;refine⟨(rc y),(idx rfl hy),?_⟩;refine iW ?_ ?_<;>intro e3
      ·refine⟨(rc y),(idx rfl hy),?_⟩;refine⟨(rc x),(idx rfl hx),?_⟩;refine iW ?_ ?_<;>intro e4
       ·have Ln:=Ln _ (aap (by simp only[kK,aaZ,aaH];exact⟨e3,e4⟩));have a:=Reg.fU p v p z2 (by omega) (aam _);have b':=Reg.fU q' (cw p v p).1 q' a.uf (by rw[a.len];omega) (aam _);have ra:=(aao.1 ((b'.same _ _).2 ((a.same _ _).2 a.root)).top).1;have rb:=(aao.1 ((b'.same _ _).2 b'.root).top).1;have E9:((max ((cw p v p).2:Int) ((cw q' (cw p v p).1 q').2:Int))).toNat=max (cw p v p).2 (cw q' (cw p v p).1 q').2:=by omega
        have lv:=bQ (cw q' (cw p v p).1 q').1;obtain⟨ju,jl⟩:=Reg.mC z2 (i:=p) (k:=q') (by omega) (by omega);refine⟨_,_,(vI v z2 p (by omega)),?_⟩;refine⟨_,_,(vI (cw p v p).1 a.uf q' (by rw[a.len];omega)),?_⟩;refine qy (au.open (by exact hC) _ 4 [30] (by exact rfl) rfl rfl rfl) ?_;obtain⟨z,hz⟩:∃z,(cw q' (cw p v p).1 q').1[max (cw p v p).2 (cw q' (cw p v p).1 q').2]?=some z:=⟨_,acg (by omega)⟩;refine⟨⟨by omega,by rw[lv];omega⟩,?_⟩;refine⟨[i64 z],(by rw[E9];exact cM hz),?_⟩;have mT:∀(m:Nat) (c:Int),m=max (cw p v p).2 (cw q' (cw p v p).1 q').2->c=min ((cw p v p).2:Int) ((cw q' (cw p v p).1 q').2:Int)->AB.row 3 ((aA (cw q' (cw p v p).1 q').1).set m [i64 c])=AB.row 3 (aA (gj v p q')):=fun m c e1 e2=>by
         subst e1;subst e2;rw[fV,gj];congr 3;omega
        refine⟨(rc x),(idx rfl hx),?_⟩;refine⟨(rc y),(idx rfl hy),?_⟩;refine iW ?_ ?_<;>intro e5
        ·have nx:=Ln.1 e5;refine⟨⟨by dsimp only;omega,by dsimp only;omega⟩,?_⟩;refine⟨(n,gj v p q',p+1,q'),_,au.pack (by exact hC) _ 4 (cs:=[.row 3 (aA (gj v p q'))]) (by exact rfl) (by exact rfl) (by exact⟨mT _ _ E9 rfl,trivial⟩),?_⟩;exact⟨⟨nx,ju,jl.trans z3,by simp only;omega,by simp only;omega,by simp only;omega⟩,by simp only;omega,⟨Z,Z,Z,Z,Z,Z,Z,Z,Z,Z,Z,Z,Y⟩,⟨Z,Y⟩⟩
        have nx:=Ln.2 e5;refine⟨⟨by dsimp only;omega,by dsimp only;omega⟩,?_⟩;refine⟨(n,gj v p q',p,q'+1),_,au.pack (by exact hC) _ 4 (cs:=[.row 3 (aA (gj v p q'))]) (by exact rfl) (by exact rfl) (by exact⟨mT _ _ E9 rfl,trivial⟩),?_⟩;exact⟨⟨nx,ju,jl.trans z3,by simp only;omega,by simp only;omega,by simp only;omega⟩,by simp only;omega,⟨Z,Z,Z,Z,Z,Z,Z,Z,Z,Z,Z,Z,Y⟩,⟨Z,Y⟩⟩
       have Ln:=Ln _ (aaa (by simp only[kK,aaZ,aaH];exact fun hc=>e4 hc.2));refine⟨(rc x),(idx rfl hx),?_⟩;refine⟨(rc y),(idx rfl hy),?_⟩;refine iW ?_ ?_<;>intro e5
       ·have nx:=Ln.1 e5;refine⟨⟨by dsimp only;omega,by dsimp only;omega⟩,?_⟩;exact⟨(n,v,p+1,q'),_,au.refl _ _,⟨nx,z2,z3,by simp only;omega,by simp only;omega,by simp only;omega⟩,by simp only;omega,⟨Z,Z,Z,Z,Z,Z,Z,Z,Z,Z,Z,Z,Y⟩,⟨Z,Y⟩⟩
       have nx:=Ln.2 e5;refine⟨⟨by dsimp only;omega,by dsimp only;omega⟩,?_⟩;exact⟨(n,v,p,q'+1),_,au.refl _ _,⟨nx,z2,z3,by simp only;omega,by simp only;omega,by simp only;omega⟩,by simp only;omega,⟨Z,Z,Z,Z,Z,Z,Z,Z,Z,Z,Z,Z,Y⟩,⟨Z,Y⟩⟩
      have Ln:=Ln _ (aaa (by simp only[kK,aaZ,aaH];exact fun hc=>e3 hc.1));refine⟨(rc x),(idx rfl hx),?_⟩;refine⟨(rc y),(idx rfl hy),?_⟩;refine iW ?_ ?_<;>intro e5
      ·have nx:=Ln.1 e5;refine⟨⟨by dsimp only;omega,by dsimp only;omega⟩,?_⟩;exact⟨(n,v,p+1,q'),_,au.refl _ _,⟨nx,z2,z3,by simp only;omega,by simp only;omega,by simp only;omega⟩,by simp only;omega,⟨Z,Z,Z,Z,Z,Z,Z,Z,Z,Z,Z,Z,Y⟩,⟨Z,Y⟩⟩
      have nx:=Ln.2 e5;refine⟨⟨by dsimp only;omega,by dsimp only;omega⟩,?_⟩;exact⟨(n,v,p,q'+1),_,au.refl _ _,⟨nx,z2,z3,by simp only;omega,by simp only;omega,by simp only;omega⟩,by simp only;omega,⟨Z,Z,Z,Z,Z,Z,Z,Z,Z,Z,Z,Z,Y⟩,⟨Z,Y⟩⟩
     have st:=stop (by omega);refine⟨⟨by omega,by omega⟩,?_⟩;refine⟨⟨by omega,by omega⟩,?_⟩;exact⟨(k+1,v,f+b.xs.length,f),_,au.refl _ _,⟨by rw[st];exact c1,z2,z3,by simp only;omega,by simp only;omega,by simp only;omega⟩,by omega,⟨Z,Z,Z,Z,Z,Z,Z,Z,Z,Y⟩,⟨Z,Y⟩⟩
    have st:=stop (by omega);refine⟨⟨by omega,by omega⟩,?_⟩;refine⟨⟨by omega,by omega⟩,?_⟩;exact⟨(k+1,v,f+b.xs.length,f),_,au.refl _ _,⟨by rw[st];exact c1,z2,z3,by simp only;omega,by simp only;omega,by simp only;omega⟩,by omega,⟨Z,Z,Z,Z,Z,Z,Z,Z,Z,Y⟩,⟨Z,Y⟩⟩
   have hm:Reg.meets (qK s k) b=false:=by rw[hpv];simpa [Reg.meets] using g3
   have c1:=skip hm;refine⟨⟨by rw[hf];dsimp only;omega,by rw[hf];dsimp only;omega⟩,?_⟩;refine⟨⟨by omega,by omega⟩,?_⟩;exact⟨(k+1,u,f+b.xs.length,f),_,au.refl _ _,⟨c1,c2,c3,by simp only;omega,by simp only;omega,by simp only;omega⟩,by omega,⟨rfl,rfl,rfl,rfl,by rw[hf];rfl,Z,Z,Z,Z,Y⟩,⟨Z,Y⟩⟩
  have hm:Reg.meets (qK s k) b=false:=by rw[qK,aap (by omega)];rfl
  have c1:=skip hm;refine⟨⟨by rw[hf];dsimp only;omega,by rw[hf];dsimp only;omega⟩,?_⟩;refine⟨⟨by omega,by omega⟩,?_⟩;exact⟨(k+1,u,f+b.xs.length,f),_,au.refl _ _,⟨c1,c2,c3,by simp only;omega,by simp only;omega,by simp only;omega⟩,by omega,⟨rfl,rfl,rfl,rfl,by rw[hf];rfl,Z,Z,Z,Z,Y⟩,⟨Z,Y⟩⟩
 have e:s.length<=k:=by omega
 rw[ab1 e]at c1 c4;have c1:u=U:=c1;subst c1;have SL:cV s=((Reg.aP (Reg.cQ u) i).map fun l=>l.map fun m=>all.getD m bg).map Reg.aB:=by rw[cV,ox,<-hU,<-aeL,Zv]
 rw[SL];obtain⟨p,hp⟩:∃p,p=Reg.cQ u:=⟨_,rfl⟩;have hT:Reg.Dg p i:=by rw[hp,<-c3];exact Reg.rz c2
 rw[<-hp];obtain⟨rf,Zw⟩:∃rf,rf=fun m=>rc (all.getD m bg):=⟨_,rfl⟩;refine aJ (fun x:Nat×List (Value×PV)=>x.1<=i/\(∀(k r:Nat),(Reg.cd p x.1)[k]?=some r->kz x.2 (.int .i64 r)=some (i64 k))/\∀r:Nat,¬r∈Reg.cd p x.1->kz x.2 (.int .i64 r)=none) (fun x=>[(3,.p (aj all)),(4,.bx 4 0),(6,.fn 242 [.bx 4 0]),(16,.ow 136),(17,.ow 17),(137,.p (aj all)),(138,.p (i64 i)),(139,.p (i64 x.1))]) (fun x=>[(4,.aN [.row 3 (aA (ou u x.1))]),(17,.az 22 ((Reg.aP p x.1).map (vJ 87 rf))),(136,.map (.int .i64) x.2)]) (fun x=>i-x.1) (0,[]) _ ((au.dk (by exact hC) _ 17 22 _ (by decide) (by exact rfl) (by exact rfl) (by decide)).trans (au.Wg (by exact hC) _ 17 (e:=22) (es:=[]) (by exact rfl))) ⟨aaj _,fun k r h=>by simp[Reg.cd]at h,fun r _=>rfl⟩ ⟨rfl,rfl,rfl,rfl,rfl,rfl,adV (fun m:Nat=>AV.p (i64 m)) (la.trans Zv),Z,Y⟩ ⟨Z,Z,Z,Y⟩ fun ⟨m,es⟩ hx t h=>?_;obtain⟨h1,h2,h3⟩:=hx;simp only at h1 h2 h3;obtain⟨vu,vl,vr⟩:=zq c2 m (by omega);refine iW ?_ ?_<;>intro g1<;>try simp only[zB]at g1
 ·obtain⟨x,hx⟩:=ak (l:=all) (i:=m) (by omega);have RT:rf m=rc x:=by rw[Zw];exact adV rc (getD_at hx)
  have hr:eh (ou u m) m (p m):=(vr _ _).2 (by rw[hp];exact Reg.iM c2 (by omega));have Vp:=vI (ou u m) vu m (by omega);rw[(Reg.fU m (ou u m) m vu hr.lt (aam _)).root.uniq hr]at Vp;refine⟨(rc x),(idx rfl hx),?_⟩;refine⟨_,_,Vp,?_⟩;have sl:(Reg.aP p m).length=(Reg.cd p m).length:=Reg.oq p m;have kl:=Reg.qI p m;by_cases e:p m=m
  ·have DJ:=h3 (p m) (by rw[e];exact fun hc=>by have:=(Reg.mem_keys.1 hc).1;omega);have nx:=Reg.Fa hT (show m<i by omega) e;refine⟨none,DJ,?_⟩;refine⟨⟨fun r hr=>by simp at hr;subst hr;rfl,by simp only[aej,aaM,aan];omega,by simp only[aej,aaM,aan];omega⟩,?_⟩;refine qy ((au.Sr (by exact hC) _ 17 (Reg.aP p m).length 0 (e:=22) (e':=87) (es:=(Reg.aP p m).map (vJ 87 rf)++[[.av .nl]]) (r:=[.av .nl]) (by exact adV (AB.az _) (by simp only[xQ,PL];rfl)) (by rw[acu (by simp)];simp) (by exact rfl) (by exact rfl) (by decide)).trans (au.rq (by exact hC) _ 17 (Reg.aP p m).length 0 90001 (e:=22) (es:=(Reg.aP p m++[[]]).map (vJ 87 rf)) (e':=87) (r:=vJ 87 rf []) (xs:=[]) (by decide) (by decide) (by exact adV (AB.az _) (by rw[abE];refine (ux _ _ _ _ (aej _).symm).trans ?_;simp[vJ])) (zw _ _ _) (by rw[abE,acu (by simp)];simp) (by exact rfl))) ?_;have e0:(List.map (fun r=>List.map (HX.cS (sc 146)) r) (List.map (fun r=>List.map (HX.cS (sc 19)) r) (List.map (vJ 87 rf) (Reg.aP p m)))).length=(Reg.aP p m).length:=by simp
   refine⟨⟨by dsimp only;omega,by simp⟩,?_⟩;refine⟨[.av (.ow 90001)],(by rw[afo,iC,iC];rw[e0];exact rB _ _ (Reg.aP p m++[[]]) (Reg.aP p m).length 90001 (by simp);rfl;rfl),?_⟩;refine⟨⟨fun r hr=>by simp at hr;subst hr;rfl,by simp,by simp⟩,?_⟩;refine⟨⟨by dsimp only;omega,by simp⟩,?_⟩;refine⟨[.av (.ow 90001)],(by rw[afo,iC,iC];rw[e0];exact rB _ _ (Reg.aP p m++[[]]) (Reg.aP p m).length 90001 (by simp);rfl;rfl),?_⟩;refine⟨⟨by omega,by omega⟩,?_⟩;refine⟨(m+1,mP es (.int .i64 (p m)) (i64 (Reg.aP p m).length)),_,au.Bm (by exact hC) _ 17 (Reg.aP p m).length 0 171 (e:=22) (es:=((Reg.aP p m++[[]]).map (vJ 87 rf)).set (Reg.aP p m).length [.av (.ow 171)]) (e':=87) (xs:=[rf m]) (by decide) (by exact adV (AB.az _) (by rw[afo,iC,iC,e0];exact aeb _;rfl;rfl)) (by rw[RT];exact rfl) (rB _ _ _ _ _ (by simp)) (by exact rfl),?_⟩;have key:∀(k r:Nat),(Reg.cd p (m+1))[k]?=some r->kz (mP es (.int .i64 (p m)) (i64 (Reg.aP p m).length)) (.int .i64 r)=some (i64 k):=fun k r hk=>by
    rw[Reg.fE,aap e]at hk;rw[mE];by_cases LG:k<(Reg.cd p m).length
    ·rw[aaE LG]at hk;have:=(Reg.mem_keys.1 (aad hk)).1;rw[aaa (by omega)];exact h2 k r hk
    rw[acu (by omega)]at hk;have Im:k=(Reg.cd p m).length:=by
     have:=(aao.1 hk).1;simp at this;omega
    subst Im;simp only[aab,aa9,Option.some.injEq]at hk;subst hk;rw[aap (by omega),sl]
   have Vq:∀r:Nat,¬r∈Reg.cd p (m+1)->kz (mP es (.int .i64 (p m)) (i64 (Reg.aP p m).length)) (.int .i64 r)=none:=fun r hr=>by
    rw[Reg.fE,aap e]at hr;rw[mE,aaa (fun hc=>hr (by rw[abi];exact .inr (by simp;omega)))];exact h3 r fun hc=>hr (abY _ hc)
   refine⟨⟨by dsimp only;omega,key,Vq⟩,⟨by dsimp only;omega,⟨Z,Z,Z,Z,Z,Z,Z,Z,Y⟩,⟨rfl,?_,congrArg (AB.map _) ?_,trivial⟩⟩⟩
   ·refine adV (AB.az _) ?_;show ((List.map (vJ 87 rf) (Reg.aP p m++[[]])).set _ _).set _ _=List.map (vJ 87 rf) (Reg.aP p (m+1));rw[aeb,nx,abE,abE];exact ux _ _ _ _ (aej _).symm
   dsimp only;rw[e0];rfl
  obtain⟨k,hk⟩:=Reg.Nv hT (show m<i by omega) e;obtain⟨nx,Gp⟩:=Reg.Fb e hk;have km:=h2 k (p m) hk;have SI:((Reg.aP p m).map (vJ 87 rf))[k]?=some (vJ 87 rf (Reg.dh p m (p m))):=by rw[aak,Gp];rfl
  have kl':=(aao.1 hk).1;have ml:=Reg.qJ p m (p m);refine⟨(some (i64 k)),km,?_⟩;refine qy (au.rq (by exact hC) _ 17 k 0 90001 (e:=22) (by decide) (by decide) (by exact adV (AB.az _) (by simp only[xQ])) (zw _ _ _) SI (by exact rfl)) ?_;refine⟨⟨by omega,by simp only[aej,aaM];omega⟩,?_⟩;refine⟨[.av (.ow 90001)],(by rw[afo,iC,iC];exact rB _ _ (Reg.aP p m) k 90001 (by omega);rfl;rfl),?_⟩;refine⟨⟨fun r hr=>by simp at hr;subst hr;rfl,by simp only[aej,aaM,aan];omega,by simp only[aej,aaM,aan];omega⟩,?_⟩;refine⟨⟨by omega,by simp only[aej,aaM];omega⟩,?_⟩;refine⟨[.av (.ow 90001)],(by rw[afo,iC,iC];exact rB _ _ (Reg.aP p m) k 90001 (by omega);rfl;rfl),?_⟩;refine⟨⟨by omega,by omega⟩,?_⟩;refine⟨(m+1,es),_,au.Bm (by exact hC) _ 17 k 0 171 (e:=22) (es:=((Reg.aP p m).map (vJ 87 rf)).set k [.av (.ow 171)]) (e':=87) (xs:=(Reg.dh p m (p m)++[m]).map rf) (by decide) (by exact adV (AB.az _) (by rw[afo,iC,iC];exact aeb _;rfl;rfl)) (by exact adV (AB.row _) (by rw[abE];exact adV (List.map rf (Reg.dh p m (p m))++·) (by show _=[rf m];rw[RT];rfl))) (rB _ _ _ _ _ (by omega)) (by exact rfl),?_⟩;refine⟨⟨by dsimp only;omega,fun k' r xA=>?_,fun r hr=>?_⟩,⟨by dsimp only;omega,⟨Z,Z,Z,Z,Z,Z,Z,Z,Y⟩,⟨rfl,?_,Z,Y⟩⟩⟩
  ·rw[Reg.fE,aaa e]at xA;exact h2 k' r xA
  ·rw[Reg.fE,aaa e]at hr;exact h3 r hr
  refine adV (AB.az _) ?_;show ((List.map (vJ 87 rf) (Reg.aP p m)).set _ _).set _ _=List.map (vJ 87 rf) (Reg.aP p (m+1));rw[aeb,nx,ad8];rfl
 have em:m=i:=by omega
 subst em;obtain⟨LL,PM⟩:∃LL,LL=Reg.aP p m:=⟨_,rfl⟩;rw[<-PM];obtain⟨rL,SC⟩:∃rL:List Nat->List ae,rL=fun l=>l.map fun m=>all.getD m bg:=⟨_,rfl⟩;rw[<-SC];have qg:∀l,SJ rf l=[aj (rL l)]:=fun l=>by rw[SJ,Zw,SC,aj,ad6];rfl
 have lL:=ai LL (SJ rf);have hLl:LL.length<=m:=by rw[PM,Reg.oq];exact Reg.qI p m
 have Kv:∀l∈LL,l.length<=m/\∀r∈rL l,r∈all:=fun l hl=>by
  rw[PM,Reg.aP]at hl;obtain⟨r,_,rfl⟩:=adS.1 hl;refine⟨Reg.qJ p m r,fun q hq=>?_⟩;rw[SC]at hq;obtain⟨z,hz,rfl⟩:=adS.1 hq;have:=(Reg.dx.1 hz).1;obtain⟨q,hq⟩:=ak (l:=all) (i:=z) (by omega);rw[getD_at hq];exact aad hq
 have tf:=Reg.bP hs;have ti:=Reg.fR hs ks;rw[<-aeL]at tf ti;refine aJ (fun j:Nat=>j<=LL.length) (fun j=>[(23,.ow 23),(174,.p (.sl (LL.map (SJ rf)))),(175,.p (i64 LL.length)),(176,.p (i64 j))]) (fun j=>[(23,.row 59 (((LL.take j).map fun l=>Reg.aB (rL l)).map fun p=>[aw p]))]) (fun j=>LL.length-j) 0 _ ((au.ID (by exact hC) _ 17 (LL.map (SJ rf)) (e:=22) (by exact rfl) (SK _ _ _)).trans ((au.own (by exact hC) _ 174 (id:=17) (by exact rfl) (by exact rfl)).trans (au.dk (by exact hC) _ 23 59 _ (by decide) (by exact rfl) (by exact rfl) (by decide)))) (aaj _) ⟨rfl,rfl,adV (fun m:Nat=>AV.p (i64 m)) (aej _),Z,Y⟩ ⟨Z,Y⟩ fun j hj t h=>?_;refine iW ?_ ?_<;>intro g1
 ·obtain⟨l,hl⟩:=ak (l:=LL) (i:=j) (by omega);obtain⟨m1,m2⟩:=Kv l (aad hl);have so:=kG (rL l) 1400000 (by omega) (by omega) (fun r hr=>tf r (m2 r hr)) (fun r hr=>ti r (m2 r hr)) (by rw[SC,aej];omega);have lk:((LL.take j).map fun l=>Reg.aB (rL l)).length=j:=by rw[aej,aat];omega
  refine⟨[aj (rL l)],(by rw[<-qg];exact idx rfl hl),?_⟩;refine⟨_,_,so,?_⟩;refine⟨⟨fun r hr=>by simp at hr;subst hr;rfl,by simp only[aej,aaM,aan,lk];omega,by simp only[aej,aaM,aan,lk];omega⟩,?_⟩;refine⟨⟨by omega,by omega⟩,?_⟩;exact⟨(j+1),_,au.refl _ _,by omega,by omega,⟨Z,Z,Z,Z,Y⟩,⟨by rw[aZ hl,abE,abE];rfl,trivial⟩⟩
 have e:LL.take j=LL:=adW (by omega);rw[e];exact And.intro (adV (AB.row _) (by rw[ad6,ad6,ad6];rfl)) (And.intro rfl trivial)
end M
namespace Reg
theorem uy{α:Type}[DecidableEq α]:∀{l m:List α},l.Nodup->(∀x∈l,x∈m)->l.length<=m.length
 | [],m,_,_=>aaj _
 | x::l,m,h,hs=>by
  have hx:=hs x adU;have h':=aai.1 h;have:=uy (l:=l) (m:=m.erase x) h'.2 fun y hy=>(List.mem_erase_of_ne (fun e=>h'.1 (by rw[<-e];exact hy))).2 (hs y (aaw _ hy));rw[List.length_erase_of_mem hx]at this;have:=abM hx;simp only[aaB];omega
theorem sS:∀{s:aU} {p:Int×Int},Canon s->p∈s->¬cover s (p.1-1)
 | [],p,_,hp=>by cases hp
 | q::s,p,h,hp=>by
  rw[bJ];rintro (⟨h1,h2⟩ | h3)
  ·rcases adq.1 hp with rfl | hp
   ·omega
   have:=h.behind p hp;omega
  rcases adq.1 hp with rfl | hp
  ·exact h.jJ (by have:=h.head;omega) h3
  exact sS h.tail hp h3
variable {s:List an}
theorem Dh(h:bE s){b:an}(hb:b∈s){y:Int}(h1:b.y0<=y)(h2:y<b.y1)(x:Int):at' s x y=par (bw b.xs) x:=by
 induction s with
 | nil=>cases hb
 | cons c s ih=>
  rcases adq.1 hb with rfl | hb'
  ·exact lR h h1 h2
  have:=h.fM b hb';rw[pj (by omega)];exact ih h.tail hb'
theorem BN(h:bE s){b:an}(hb:b∈s):∃x,at' s x (b.y0-1)≠at' s x b.y0:=by
 induction s with
 | nil=>cases hb
 | cons c s ih=>
  have eF:=(h.mem b hb).lt;rcases adq.1 hb with rfl | hb'
  ·obtain⟨x,hx⟩:=um (h.mem b hb);refine⟨x,?_⟩;rw[lR h (acP _) eF,hx,jS fun t ht=>?_]
   ·decide
   rcases adq.1 ht with rfl | ht
   ·exact .inl (by omega)
   have:=h.fM t ht;exact .inl (by omega)
  have hc:=(h.mem c adU).lt;have qb:=h.fM b hb';by_cases e:c.y1=b.y0
  ·match s,h,hb',ih with
   | d::s,h,hb',ih=>
    rcases adq.1 hb' with rfl | hb''
    ·have b8:c.xs≠b.xs:=fun hx=>by
      have:=h;simp only[bE]at this;exact this.2.2.1 e hx
     have hx:∃x,par (bw c.xs) x≠par (bw b.xs) x:=by
      refine acz fun hn=>b8 (lJ _ _ (h.mem c adU).can (h.mem b (by simp)).can fun x=>?_);have:par (bw c.xs) x=par (bw b.xs) x:=acz fun hc=>hn ⟨x,hc⟩;rw[<-cu (h.mem c adU).can,<-cu (h.mem b (by simp)).can,this]
     obtain⟨x,hx⟩:=hx;refine⟨x,?_⟩;rw[lR h (by omega) (by omega),pj (by omega),lR h.tail (acP _) eF];exact hx
    have:=(h.tail.fM b hb'');have:=(h.mem d (by simp)).lt;have:=h.fM d (by simp);omega
  obtain⟨x,hx⟩:=ih h.tail hb';refine⟨x,?_⟩;rw[pj (by omega),pj (by omega)];exact hx
theorem Nx(h:bE s){Ys:List Int}(hy:∀x y,¬y∈Ys->at' s x (y-1)=at' s x y):∀q∈told s,q.y0∈Ys:=fun q hq=>by
 obtain⟨b,hb,p,_,rfl⟩:=gf.1 hq;obtain⟨x,hx⟩:=BN h hb;exact acz fun hn=>hx (hy x b.y0 hn)
theorem Ny(h:bE s){Xs:List Int}(hx:∀x y,¬x∈Xs->at' s (x-1) y=at' s x y):∀q∈told s,q.x0∈Xs:=fun q hq=>by
 obtain⟨b,hb,p,hp,rfl⟩:=gf.1 hq;have hB:=h.mem b hb;refine acz fun hn=>?_;have e:=hx p.1 b.y0 hn;rw[Dh h hb (acP _) hB.lt,Dh h hb (acP _) hB.lt]at e;have h1:cover b.xs p.1:=⟨p,hp,acP _,ga hB.can p hp⟩;rw[<-cu hB.can,<-e,cu hB.can]at h1;exact sS hB.can hp h1
theorem BO(Xs:List Int):∀Ys:List Int,(Ys.flatMap fun y=>Xs.map fun x=>(y,x)).length=Ys.length*Xs.length
 | []=>by simp
 | y::Ys=>by rw[abz,acv,BO Xs Ys,aej,aaB,aa3,Nat.add_comm]
theorem PN(h:bE s){Xs Ys:List Int}(hx:∀x y,¬x∈Xs->at' s (x-1) y=at' s x y)(hy:∀x y,¬y∈Ys->at' s x (y-1)=at' s x y):(told s).length<=Ys.length*Xs.length:=by
 have hn:((told s).map fun q=>(q.y0,q.x0)).Nodup:=by
  rw[aec,abp];refine (pk h).imp fun {a b} qb e=>?_;have:=gN.1 qb;simp only[Prod.mk.injEq]at e;omega
 have:=uy (m:=Ys.flatMap fun y=>Xs.map fun x=>(y,x)) hn fun z hz=>by
  obtain⟨q,hq,rfl⟩:=adS.1 hz;exact aax.2 ⟨q.y0,Nx h hy q hq,adS.2 ⟨q.x0,Ny h hx q hq,rfl⟩⟩
 rw[aej]at this;exact aaF this (aay (BO Xs Ys))
structure Piece where
 layer:Int
 set:List an
structure bh where
 pieces:List Int
 bores:List Int
 pins:List (ByteArray×ByteArray)
structure zx where
 bore:Bool
 num:Int
theorem KN{x y:Int}{q:ae}(h:¬(x=q.x0\/x=q.x1)):dE (x-1) y q=dE x y q:=by
 rw[abb,aQ,aQ];omega
theorem KO{x y:Int}{q:ae}(h:¬(y=q.y0\/y=q.y1)):dE x (y-1) q=dE x y q:=by
 rw[abb,aQ,aQ];omega
theorem oy{α:Type}{l:List α}{f g:α->Bool}(h:∀x∈l,f x=g x):l.any f=l.any g:=by
 induction l with
 | nil=>rfl
 | cons x l ih=>rw[abd,abd,h x adU,ih fun y hy=>h y (aaw _ hy)]
def SM(l:List ae):List Int:=l.flatMap fun q=>[q.x0,q.x1]
def SN(l:List ae):List Int:=l.flatMap fun q=>[q.y0,q.y1]
theorem I5:∀l:List ae,(SM l).length=2*l.length
 | []=>rfl
 | q::l=>by have:=I5 l;simp only[SM,abz,acv,aaB,acs]at this ⊢;omega
theorem I6:∀l:List ae,(SN l).length=2*l.length
 | []=>rfl
 | q::l=>by have:=I6 l;simp only[SN,abz,acv,aaB,acs]at this ⊢;omega
theorem BP{a b:List ae}(ha:∀r∈a,Full r)(hb:∀r∈b,Full r):(told (bN (aB a) (aB b))).length<=(2*(a.length+b.length))*(2*(a.length+b.length)):=by
 obtain⟨a1,a2,_⟩:=aR ha;obtain⟨b1,b2,_⟩:=aR hb;obtain⟨c1,c2,_⟩:=b6 a1 b1;have hx:∀x y,¬x∈SM (a++b)->at' (bN (aB a) (aB b)) (x-1) y=at' (bN (aB a) (aB b)) x y:=fun x y hn=>by
  have e:∀q∈a++b,dE (x-1) y q=dE x y q:=fun q hq=>KN fun hc=>hn (aax.2 ⟨q,hq,by simp;exact hc⟩);rw[c2,c2,a2,a2,b2,b2,oy (l:=a) fun q hq=>e q (abY _ hq),oy (l:=b) fun q hq=>e q (adt _ hq)]
 have hy:∀x y,¬y∈SN (a++b)->at' (bN (aB a) (aB b)) x (y-1)=at' (bN (aB a) (aB b)) x y:=fun x y hn=>by
  have e:∀q∈a++b,dE x (y-1) q=dE x y q:=fun q hq=>KO fun hc=>hn (aax.2 ⟨q,hq,by simp;exact hc⟩);rw[c2,c2,a2,a2,b2,b2,oy (l:=a) fun q hq=>e q (abY _ hq),oy (l:=b) fun q hq=>e q (adt _ hq)]
 have:=PN c1 hx hy;rw[I5,I6,acv]at this;exact this
def beside(x y:ae):Bool:=((decide (x.x0<y.x1)&&decide (y.x0<x.x1))&&(decide (x.y1=y.y0)||decide (y.y1=x.y0)))||((decide (x.y0<y.y1)&&decide (y.y0<x.y1))&&(decide (x.x1=y.x0)||decide (y.x1=x.x0)))
def bq(bs:List aS)(layer:Int):List ae:=(bs.filter fun b=>through b layer).map aa
def bU(bs:List aS)(layer:Int)(r:List ae):List an:=bN (aB r) (aB (bq bs layer))
def gO(bs:List aS):Int->List (List ae)->List (List an)
 | _,[]=>[]
 | k,r::l=>bU bs k r::gO bs (k+1) l
def bG(bs:List aS):Int->List (List ae)->List Piece
 | _,[]=>[]
 | k,r::l=>(cV (bU bs k r)).map (⟨k,·⟩)++bG bs (k+1) l
def qL(bs:List aS):Int->List (List ae)->Bool
 | _,[]=>true
 | k,r::l=>decide ((told (bU bs k r)).length<=2000)&&qL bs (k+1) l
def eG(a:fS):Bool:=qL a.bores 0 a.coppers&&decide ((bG a.bores 0 a.coppers).length<=2000)
def fX(b:aS)(p:Piece):Bool:=(b.plated&&through b p.layer)&&(told p.set).any fun r=>beside r (aa b)
def fu(b:aS):Nat->List Piece->List Int
 | _,[]=>[]
 | k,p::l=>if fX b p=true then (k:Int)::fu b (k+1) l else fu b (k+1) l
def bB(bs:List aS)(ps:List Piece):List (List Int):=bs.map fun b=>fu b 0 ps
theorem BQ(s:List an):(cV s).length<=(told s).length:=by
 rw[cV,ox,aej,aej,oq];exact qI _ _
theorem vK{l:List ae}{m:Nat}(h:m<l.length):l.getD m bg∈l:=by
 rw[ad4,acg h];exact adn h
theorem afp{l:List ae}(h:l∈ox s):l≠[]/\∀r∈l,r∈told s:=by
 obtain⟨u1,u2⟩:=zv s;have hT:=rz u1;obtain⟨ms,LS,rfl⟩:=adS.1 h;obtain⟨r,hr,rfl⟩:=adS.1 LS;obtain⟨h1,h2⟩:=mem_keys.1 hr;refine⟨fun e=>?_,fun q hq=>?_⟩
 ·have:r∈dh (cQ (jE s)) (told s).length r:=dx.2 ⟨h1,h2⟩;rw[adL]at e;rw[e]at this;cases this
 obtain⟨m,hm,rfl⟩:=adS.1 hq;exact vK (dx.1 hm).1
theorem rD{p:List an}(h:bE s)(hp:p∈cV s):bE p/\p≠[]/\(∀x y,at' p x y=true->at' s x y=true)/\∀K,cv K s->cv K p:=by
 obtain⟨l,hl,rfl⟩:=adS.1 hp;obtain⟨h1,h2⟩:=afp hl;obtain⟨b1,b2,b3⟩:=aR fun r hr=>bP h r (h2 r hr);have sub:∀x y,at' (aB l) x y=true->at' s x y=true:=fun x y Oy=>by
  rw[b2,aci]at Oy;obtain⟨q,hq,hh⟩:=Oy;rw[<-iy h,aci];exact⟨q,h2 q hq,hh⟩
 refine⟨b1,fun e=>?_,sub,fun K hK=>b3 K fun r hr=>fR h hK r (h2 r hr)⟩;obtain⟨q,hq⟩:=aae _ h1;have hf:=bP h q (h2 q hq);have:at' (aB l) q.x0 q.y0=true:=by
  rw[b2,aci];exact⟨q,hq,aQ.2 ⟨acP _,hf.1,acP _,hf.2⟩⟩
 rw[e]at this;cases this
end Reg
end Go.Proofs.YtfloceomobknoaaGreatDoor
namespace Go.AM
theorem au.pX{A:cD}(hC:bI A.C)(s:AS)(id j:Nat)(cs:List AV)(hb:s.h id=.box cs)(hn:cs[j]?=some (.p (.im (.slice none 0 0)))):au A s ⟨s.t,aT s.h id (.box (cs.set j .nl))⟩:=by
 intro S rho a w sim;refine⟨S,rho,sim.write hC id trivial (by rw[hb];trivial) _ (fun _ h=>by cases h) w rfl rfl rfl rfl (fun _ _=>rfl) fun T=>?_⟩;have hh:=sim.hp id trivial;rw[hb]at hh;obtain⟨g,ty,c,k1,k2,k3,k4⟩:=hh;refine⟨g,ty,c,k1,k2,by rw[k3,aaM],fun q x u hi hu=>?_⟩;by_cases ei:q=j
 ·subst ei;rw[ab7 (aD hn)]at hi;injection hi with hi;subst hi;obtain⟨k5,k6⟩:=k4 q _ u hn hu;refine⟨k5,?_⟩;have k7:aO S w (.im (.slice none 0 0)) u:=by cases k6;assumption
  exact (xy k7).cK T
 rw[ac5 (fun e=>ei e.symm)]at hi;obtain⟨k5,k6⟩:=k4 q x u hi hu;exact⟨k5,k6.cK T⟩
end Go.AM
namespace Go.Proofs.YtfloceomobknoaaGreatDoor
namespace M
open Go.AM Go.RowKit Go.Lib
open Reg (ae beside aa aS through bO an aU)
theorem AQ(x y:ae):af C 180 [.pv (.ag (rc x)),.pv (.ag (rc y))] (.p (bool (beside x y))) []:=by
 refine fW hC Tryz.func180 rfl (by kernel_rfl) fun _=>?_;refine iW ?_ ?_<;>intro a
 ·refine iW ?_ ?_<;>intro c
  ·refine iW ?_ ?_<;>intro b
   ·refine iW ?_ ?_<;>intro e
    ·refine⟨?_,trivial⟩;simp[bool,beside,a,c,b,e]
    refine iW ?_ ?_<;>intro f
    ·refine⟨?_,trivial⟩;simp[bool,beside,a,c,b,e,f]
    refine iW ?_ ?_<;>intro d
    ·refine iW ?_ ?_<;>intro g
     ·refine⟨?_,trivial⟩;simp[bool,beside,a,c,b,e,f,d,g]
     refine⟨?_,trivial⟩;simp[bool,beside,a,c,b,e,f,d,g]
    refine⟨?_,trivial⟩;simp[bool,beside,a,c,b,e,f,d]
   refine iW ?_ ?_<;>intro d
   ·refine iW ?_ ?_<;>intro g
    ·refine⟨?_,trivial⟩;simp[bool,beside,a,c,b,d,g]
    refine⟨?_,trivial⟩;simp[bool,beside,a,c,b,d,g]
   refine⟨?_,trivial⟩;simp[bool,beside,a,c,b,d]
  refine iW ?_ ?_<;>intro b
  ·refine iW ?_ ?_<;>intro e
   ·refine⟨?_,trivial⟩;simp[bool,beside,a,c,b,e]
   refine iW ?_ ?_<;>intro f
   ·refine⟨?_,trivial⟩;simp[bool,beside,a,c,b,e,f]
   refine⟨?_,trivial⟩;simp[bool,beside,a,c,b,e,f]
  refine⟨?_,trivial⟩;simp[bool,beside,a,c,b]
 refine iW ?_ ?_<;>intro c
 ·refine iW ?_ ?_<;>intro d
  ·refine iW ?_ ?_<;>intro g
   ·refine⟨?_,trivial⟩;simp[bool,beside,a,c,d,g]
   refine⟨?_,trivial⟩;simp[bool,beside,a,c,d,g]
  refine⟨?_,trivial⟩;simp[bool,beside,a,c,d]
 refine⟨?_,trivial⟩;simp[bool,beside,a,c]
theorem PO(r:ae)(b:aS)(h:bO b=true):af C 179 [.pv (.ag (rc r)),.pv (.ip (bc b))] (.p (bool (beside r (aa b)))) []:=by
 refine fW hC Tryz.func179 rfl (by kernel_rfl) fun _=>?_;refine⟨_,_,(cF b h),?_⟩;refine⟨_,_,(AQ r (aa b)),?_⟩;refine⟨?_,trivial⟩;rfl
theorem Di(l:List an)(hN:l.length<=1000000000000)(hX:∀t∈l,t.xs.length<=1000000000000)(hT:(Reg.told l).length<=4398046511104):af C 76 [.pv (.sl (l.map hb))] (.p (aj (Reg.told l))) []:=by
 refine uX ⟨[],[2],[],[8],[],[]⟩ hC Tryz.func76 rfl (by kernel_rfl) fun _=>?_;have lm:=ai l hb;have tl:∀i,(Reg.told (l.take i)).length<=(Reg.told l).length:=fun i=>by
  have e:Reg.told l=Reg.told (l.take i)++Reg.told (l.drop i):=by
   unfold Reg.told;rw[<-adG,aaU]
  rw[e,acv];omega
 refine aJ (fun i:Nat=>i<=l.length) (fun i=>[(7,.p (.sl (l.map hb))),(8,.p (i64 (l.map hb).length)),(3,.ow 3),(9,.p (i64 i))]) (fun i=>[(3,.row 87 ((Reg.told (l.take i)).map rc))]) (fun i=>l.length-i) 0 _ (au.dk hC _ 3 87 _ (by decide) rfl rfl (by decide)) (aaj _) ⟨Z,Z,Z,Z,Y⟩ ⟨Z,Y⟩ fun i hi t h=>?_;refine iW ?_ ?_<;>intro h1
 ·rw[lm]at h1;obtain⟨b,uW⟩:=ak (l:=l) (i:=i) (by omega);have bm:=ai (flat b.xs) fun n=>[i64 n];have fl:=eY b.xs;have hb':=hX b (aad uW);have ht:=tl (i+1);rw[jM uW,acv,aej]at ht;refine⟨(hb b),(idx rfl uW),?_⟩;refine p7 (fun _:Unit=>True) (fun _=>[(7,.p (.sl (l.map hb))),(8,.p (i64 (l.map hb).length)),(3,.ow 3),(9,.p (i64 i))]) (fun _=>[(3,.row 87 ((Reg.told (l.take (i+1))).map rc))]) (fun _ _ t h=>?_) ?_
  ·refine⟨⟨by omega,by omega⟩,?_⟩;exact⟨(i+1),_,au.refl _ _,by omega,by omega,⟨Z,Z,Z,Z,Y⟩,⟨Z,Y⟩⟩
  refine aJ (fun k:Nat=>k<=b.xs.length) (fun k=>[(7,.p (.sl (l.map hb))),(8,.p (i64 (l.map hb).length)),(3,.ow 3),(9,.p (i64 i)),(5,.bx 5 0),(6,.p (i64 ((2*k:Nat):Int)))]) (fun k=>[(3,.row 87 ((Reg.told (l.take i)++ig b k).map rc)),(5,.box [.p (i64 b.y0),.p (i64 b.y1),.p (ints (flat b.xs))])]) (fun k=>b.xs.length-k) 0 _ (au.refl _ _) (aaj _) ⟨Z,Z,Z,Z,Z,Z,Y⟩ ⟨by rw[ig];simp;rfl,Z,Y⟩ fun k hk t h=>?_;have Ov:(ig b k).length<=k:=by simp[ig];omega
  refine iW ?_ ?_<;>intro h2
  ·rw[bm,fl]at h2;obtain⟨p,hp⟩:=ak (l:=b.xs) (i:=k) (by omega);obtain⟨g1,g2⟩:=Ex hp;refine⟨[i64 p.1],(idx rfl g1),?_⟩;refine⟨⟨by omega,by omega⟩,?_⟩;refine⟨[i64 p.2],(idx (by omega) g2),?_⟩;refine⟨⟨xL rfl,by simp;omega,by simp;omega⟩,?_⟩;refine⟨⟨by omega,by omega⟩,?_⟩;refine⟨(k+1),_,au.refl _ _,?_⟩;refine⟨by omega,by omega,⟨rfl,rfl,rfl,rfl,rfl,a8 (by omega),trivial⟩,⟨?_,Z,Y⟩⟩;have hc:ig b (k+1)=ig b k++[⟨p.1,b.y0,p.2,b.y1⟩]:=by simp[ig,aZ hp]
   have e:(Reg.told (l.take i)++ig b k).map rc++[rc ⟨p.1,b.y0,p.2,b.y1⟩]=(Reg.told (l.take i)++ig b (k+1)).map rc:=by
    rw[hc,<-abx,abE (l₂:=[_])];rfl
   exact adV (AB.row 87) e
  rw[bm,fl]at h2;refine⟨(),trivial,⟨Z,Z,Z,Z,Y⟩,⟨?_,trivial⟩⟩;rw[jM uW];have:ig b k=b.xs.map fun p=>⟨p.1,b.y0,p.2,b.y1⟩:=by rw[ig,adW (by omega)]
  rw[<-this];rfl
 rw[lm]at h1;rw[adW (by omega)];exact⟨Z,Y⟩
def X7(b:aS)(r:ae):Bool:=beside r (aa b)
theorem Fj(l:List ae)(hN:l.length<=140737488355328)(b:aS)(hb':bO b=true):af C 161 [.pv (aj l),.pv (.fn 179 [.ip (bc b)])] (.p (i64 (jO (X7 b) l 0))) []:=by
 refine fW hC Tryz.func161 rfl (by kernel_rfl) fun _=>?_;have lm:=ai l rc;refine aJ (fun i:Nat=>i<=l.length/\∀z∈l.take i,X7 b z=false) (fun i=>[(0,.p (aj l)),(1,.p (.fn 179 [.ip (bc b)])),(7,.p (i64 (l.map rc).length)),(8,.p (i64 i))]) (fun _=>[]) (fun i=>l.length-i) 0 _ (au.refl _ _) ⟨aaj _,by simp⟩ ⟨Z,Z,Z,Z,Y⟩ trivial fun i hi t h=>?_;refine iW ?_ ?_<;>intro h1
 ·rw[lm]at h1;obtain⟨r,hr⟩:=ak (l:=l) (i:=i) (by omega);refine⟨(rc r),(idx rfl hr),?_⟩;refine⟨_,_,(PO r b hb'),?_⟩;refine iW ?_ ?_<;>intro h2
  ·refine⟨?_,trivial⟩;rw[lY hr h2 hi.2,abC]
  refine⟨⟨by omega,by omega⟩,?_⟩;exact⟨(i+1),_,au.refl _ _,⟨by omega,tW hr h2 hi.2⟩,by omega,⟨Z,Z,Z,Z,Y⟩,trivial⟩
 rw[lm]at h1;refine⟨?_,trivial⟩;have h2:=hi.2;rw[adW (by omega)]at h2;rw[iV h2];rfl
theorem zy(l:List ae)(hN:l.length<=140737488355328)(b:aS)(hb':bO b=true):af C 178 [.pv (aj l),.pv (.fn 179 [.ip (bc b)])] (.p (bool (l.any (X7 b)))) []:=by
 refine fW hC Tryz.func178 rfl (by kernel_rfl) fun _=>?_;refine⟨_,_,(Fj l hN b hb'),?_⟩;refine⟨?_,trivial⟩;rw[<-oX _ l 0];rfl
open Reg (fS Piece bE cv Full RK told aB bN cV cJ qF bq bU gO bG qL eG)
def jb(p:Piece):List PV:=[i64 p.layer,aw p.set,aj (told p.set)]
structure iD(a:fS):Prop where
 cop:0<a.coppers.length/\a.coppers.length<=16
 reg:∀r∈a.coppers,Reg.aF r=0
 out:Reg.aF a.outline=0
 jB:a.bores.length<=500
 bor:∀b∈a.bores,qF a.coppers.length b
 lan:a.lands.length<=1000
theorem ky{n:Int}{b:aS}(h:qF n b):bO b=true:=by
 have:=h.ok;simp only[cJ,aaZ]at this;exact this.1
structure SO(s:List an):Prop where
 sok:bE s
 ink:cv 1000000 s
 jB:(told s).length<=25000000
theorem jV{bs:List aS}(hb':∀b∈bs,bO b=true)(hn:bs.length<=500)(k:Int){r:List ae}(hr:Reg.aF r=0):SO (bU bs k r):=by
 have h:=ph hr;have hf:∀q∈bq bs k,Full q:=fun q hq=>by
  obtain⟨b,hb,rfl⟩:=adS.1 hq;exact Reg.bX (hb' b (adu.1 hb).1)
 have hl:(bq bs k).length<=500:=by
  rw[bq,aej];exact aaF (adb _ _) hn
 obtain⟨b1,b2,b3⟩:=Reg.aR hf;obtain⟨c1,c2,_⟩:=Reg.b6 h.sok b1;refine⟨c1,I1 h.sok b1 h.ink,aaF (Reg.BP h.full hf) ?_⟩;have:2*(r.length+(bq bs k).length)<=5000:=by have:=h.len;omega
 exact Nat.mul_le_mul this this
theorem Dj(a:fS)(ha:iD a):af C 100 [.aN [.p (.sl (a.coppers.map rr)),.p (aj a.outline),.p (.sl (a.bores.map bc)),.p (.sl (a.lands.map lc)),.row 59 [],.row 76 [],.row 71 [],.row 142 [],.row 3 [],.row 3 [],.row 3 [],.row 174 []]] (.p (bool (eG a))) [.aN [.p (.sl (a.coppers.map rr)),.p (aj a.outline),.p (.sl (a.bores.map bc)),.p (.sl (a.lands.map lc)),.row 59 ((gO a.bores 0 a.coppers).map fun s=>[aw s]),.row 76 ((bG a.bores 0 a.coppers).map jb),.row 71 [],.row 142 [],.row 3 [],.row 3 [],.row 3 [],.row 174 []]]:=by
 have lk:=ai a.coppers rr;have lb:=ai a.bores bc;have hb':∀b∈a.bores,bO b=true:=fun b h=>ky (ha.bor b h);have zA:=ha.jB;have KH:=ha.cop;obtain⟨DD,Zx⟩:∃DD,DD=gO a.bores 0 a.coppers:=⟨_,rfl⟩;obtain⟨PP,SP⟩:∃PP,PP=bG a.bores 0 a.coppers:=⟨_,rfl⟩;obtain⟨OK,Zy⟩:∃OK,OK=qL a.bores 0 a.coppers:=⟨_,rfl⟩;have hres:eG a=(OK&&decide (PP.length<=2000)):=by rw[eG,Zy,SP]
 rw[hres,<-Zx,<-SP];refine UP ⟨[],[],[],[18],[],[14]⟩ hC Tryz.func100 rfl (by kernel_rfl) fun _=>⟨_,au.open hC _ 100000 [90000,90001,90002,90003,90004,90005,90006,90007] (by exact rfl) rfl rfl rfl,?_⟩;refine aJ (fun x:Nat×Bool×List (List an)×List Piece=>x.2.2.1++gO a.bores x.1 (a.coppers.drop x.1)=DD/\x.2.2.2++bG a.bores x.1 (a.coppers.drop x.1)=PP/\(x.2.1&&qL a.bores x.1 (a.coppers.drop x.1))=OK/\x.2.2.1.length<=x.1/\x.2.2.2.length<=25000000*x.1/\x.1<=a.coppers.length) (fun x=>[(0,.bx 100000 0),(3,.p (bool x.2.1)),(16,.p (.sl (a.coppers.map rr))),(17,.p (i64 a.coppers.length)),(18,.p (i64 x.1))]) (fun x=>[(100000,.box [.p (.sl (a.coppers.map rr)),.p (aj a.outline),.p (.sl (a.bores.map bc)),.p (.sl (a.lands.map lc)),.ow 90000,.ow 90001,.ow 90002,.ow 90003,.ow 90004,.ow 90005,.ow 90006,.ow 90007]),(90000,.row 59 (x.2.2.1.map fun s=>[aw s])),(90001,.row 76 (x.2.2.2.map jb)),(90002,.row 71 []),(90003,.row 142 []),(90004,.row 3 []),(90005,.row 3 []),(90006,.row 3 []),(90007,.row 174 [])]) (fun x=>a.coppers.length-x.1) (0,true,[],[]) _ (au.refl _ _) ⟨Zx.symm,SP.symm,by rw[Zy];rfl,aam _,aaj _,aaj _⟩ ⟨rfl,rfl,rfl,adV (fun m:Nat=>AV.p (i64 m)) lk,Z,Y⟩ ⟨Z,Z,Z,Z,Z,Z,Z,Z,Z,Y⟩ fun ⟨i,ok,D,P⟩ hx t h=>?_;obtain⟨q1,q2,q3,q4,q5,q6⟩:=hx;simp only at q1 q2 q3 q4 q5 q6;refine iW ?_ ?_<;>intro g<;>try simp only[zB]at g
 ·obtain⟨r,hr⟩:=ak (l:=a.coppers) (i:=i) (by omega);have HA:=ha.reg r (aad hr);have X8:=ph HA;rw[drop_at hr]at q1 q2 q3;simp only[gO,bG,qL]at q1 q2 q3;have Sm:=jV hb' zA i HA;refine⟨(rr r),(idx rfl hr),?_⟩;refine aJ (fun y:Nat×List ae=>y.2++bq (a.bores.drop y.1) i=bq a.bores i/\y.2.length<=y.1/\y.1<=a.bores.length/\∀q∈y.2,∃b∈a.bores,q=aa b) (fun y=>[(0,.bx 100000 0),(3,.p (bool ok)),(16,.p (.sl (a.coppers.map rr))),(17,.p (i64 a.coppers.length)),(18,.p (i64 i)),(4,.p (i64 i)),(5,.p (aj r)),(27,.p (.sl (a.bores.map bc))),(28,.p (i64 a.bores.length)),(29,.p (i64 y.1)),(6,.ow 6)]) (fun y=>[(100000,.box [.p (.sl (a.coppers.map rr)),.p (aj a.outline),.p (.sl (a.bores.map bc)),.p (.sl (a.lands.map lc)),.ow 90000,.ow 90001,.ow 90002,.ow 90003,.ow 90004,.ow 90005,.ow 90006,.ow 90007]),(90000,.row 59 (D.map fun s=>[aw s])),(90001,.row 76 (P.map jb)),(90002,.row 71 []),(90003,.row 142 []),(90004,.row 3 []),(90005,.row 3 []),(90006,.row 3 []),(90007,.row 174 []),(6,.row 87 (y.2.map rc))]) (fun y=>a.bores.length-y.1) (0,[]) _ (au.dk (by exact hC) _ 6 87 _ (by decide) (by exact rfl) (by exact rfl) (by decide)) ⟨rfl,aam _,aaj _,fun q h=>by cases h⟩ ⟨rfl,rfl,rfl,rfl,rfl,rfl,rfl,rfl,adV (fun m:Nat=>AV.p (i64 m)) lb,Z,Z,Y⟩ ⟨Z,Z,Z,Z,Z,Z,Z,Z,Z,Z,Y⟩ fun ⟨j,hl⟩ hy t h=>?_;obtain⟨k1,k2,k3,k4⟩:=hy;simp only at k1 k2 k3 k4;refine iW ?_ ?_<;>intro g2<;>try simp only[zB]at g2
  ·obtain⟨b,Wr⟩:=ak (l:=a.bores) (i:=j) (by omega);have uW:=hb' b (aad Wr);rw[drop_at Wr]at k1;refine⟨(bc b),(idx rfl Wr),?_⟩;refine⟨_,_,(jk b i),?_⟩;refine iW ?_ ?_<;>intro g3
   ·have e:bq (b::a.bores.drop (j+1)) i=aa b::bq (a.bores.drop (j+1)) i:=by rw[bq,aby,aap (by simpa using g3)];rfl
    rw[e]at k1;refine⟨_,_,(cF b uW),?_⟩;refine⟨⟨fun r hr=>by simp at hr;subst hr;rfl,by simp only[aej,aaM,aan];omega,by simp only[aej,aaM,aan];omega⟩,?_⟩;refine⟨⟨by omega,by omega⟩,?_⟩;refine⟨(j+1,hl++[aa b]),_,au.refl _ _,?_⟩;exact⟨⟨by simp only[abx,aed];exact k1,by simp only[acv,abS];omega,by simp only;omega,fun q hq=>by
     rcases abi.1 hq with hq | hq
     ·exact k4 q hq
     rw[ab_]at hq;exact⟨b,aad Wr,hq⟩⟩,by simp only;omega,⟨Z,Z,Z,Z,Z,Z,Z,Z,Z,Z,Z,Y⟩,⟨rfl,rfl,rfl,rfl,rfl,rfl,rfl,rfl,rfl,by rw[abE];rfl,trivial⟩⟩
   have e:bq (b::a.bores.drop (j+1)) i=bq (a.bores.drop (j+1)) i:=by rw[bq,aby,aaa (by simpa using g3)];rfl
   rw[e]at k1;refine⟨⟨by omega,by omega⟩,?_⟩;exact⟨(j+1,hl),_,au.refl _ _,⟨k1,by simp only;omega,by simp only;omega,k4⟩,by simp only;omega,⟨Z,Z,Z,Z,Z,Z,Z,Z,Z,Z,Z,Y⟩,⟨Z,Z,Z,Z,Z,Z,Z,Z,Z,Z,Y⟩⟩
  have e:hl=bq a.bores i:=by
   rw[ab1 (by omega)]at k1;rw[<-k1];simp[bq]
  have so:=kG hl 1010000 (by omega) (by omega) (fun q hq=>by obtain⟨b,hb,rfl⟩:=k4 q hq;exact Reg.bX (hb' b hb)) (fun q hq=>by obtain⟨b,hb,rfl⟩:=k4 q hq;exact Reg.er (hb' b hb)) (by omega);have bf:=Reg.aR (l:=hl) fun q hq=>by obtain⟨b,hb,rfl⟩:=k4 q hq;exact Reg.bX (hb' b hb)
  have bk:=bf.2.2 1010000 fun q hq=>by obtain⟨b,hb,rfl⟩:=k4 q hq;exact Reg.er (hb' b hb)
  have IM:=iJ _ _ X8.sok bf.1 (X8.ink.up (by omega)) (bk.up (by omega));have hS:bN (aB r) (aB hl)=bU a.bores i r:=by rw[e];rfl
  rw[hS]at IM;obtain⟨S,hSe⟩:∃S,S=bU a.bores i r:=⟨_,rfl⟩;rw[<-hSe]at IM Sm q1 q2 q3;obtain⟨d1,d2,d3⟩:=Sm;have sl:=Reg.cc d1 (by omega) d2;have sx:=Reg.kT d1 (by omega) d2;refine⟨_,_,(BB X8),?_⟩;refine⟨_,_,so,?_⟩;refine⟨_,_,IM,?_⟩;have ml:=Hg S (by omega) (fun t ht=>by have:=sx t ht;omega) (by omega);refine (XN (fun SQ:Bool=>SQ=(ok&&decide ((told S).length<=2000))) (fun SQ=>[(0,.bx 100000 0),(3,.p (bool SQ)),(16,.p (.sl (a.coppers.map rr))),(17,.p (i64 a.coppers.length)),(18,.p (i64 i)),(4,.p (i64 i)),(9,.p (aw S))]) (fun _=>[(100000,.box [.p (.sl (a.coppers.map rr)),.p (aj a.outline),.p (.sl (a.bores.map bc)),.p (.sl (a.lands.map lc)),.ow 90000,.ow 90001,.ow 90002,.ow 90003,.ow 90004,.ow 90005,.ow 90006,.ow 90007]),(90000,.row 59 (D.map fun s=>[aw s])),(90001,.row 76 (P.map jb)),(90002,.row 71 []),(90003,.row 142 []),(90004,.row 3 []),(90005,.row 3 []),(90006,.row 3 []),(90007,.row 174 [])]) (fun SQ hok t h=>?_) ?_)
  ·have q3':(SQ&&qL a.bores ((i:Int)+1) (a.coppers.drop (i+1)))=OK:=by rw[hok,Bool.and_assoc];exact q3
   refine⟨⟨fun r hr=>by simp at hr;subst hr;rfl,by simp only[aej,aaM,aan];omega,by simp only[aej,aaM,aan];omega⟩,?_⟩;refine⟨_,_,(Fi S d1 (d2.up (by omega)) (by omega)),?_⟩;have pf:=Reg.BQ S;have lp:=ai (cV S) fun p=>[aw p];refine aJ (fun z:Nat×List Piece=>z.2++((cV S).drop z.1).map (⟨(i:Int),·⟩)++bG a.bores ((i:Int)+1) (a.coppers.drop (i+1))=PP/\z.2.length<=25000000*i+z.1/\z.1<=(cV S).length) (fun z=>[(0,.bx 100000 0),(3,.p (bool SQ)),(16,.p (.sl (a.coppers.map rr))),(17,.p (i64 a.coppers.length)),(18,.p (i64 i)),(4,.p (i64 i)),(64,.p (.sl ((cV S).map fun p=>[aw p]))),(65,.p (i64 (cV S).length)),(66,.p (i64 z.1))]) (fun z=>[(100000,.box [.p (.sl (a.coppers.map rr)),.p (aj a.outline),.p (.sl (a.bores.map bc)),.p (.sl (a.lands.map lc)),.ow 90000,.ow 90001,.ow 90002,.ow 90003,.ow 90004,.ow 90005,.ow 90006,.ow 90007]),(90000,.row 59 ((D++[S]).map fun s=>[aw s])),(90001,.row 76 (z.2.map jb)),(90002,.row 71 []),(90003,.row 142 []),(90004,.row 3 []),(90005,.row 3 []),(90006,.row 3 []),(90007,.row 174 [])]) (fun z=>(cV S).length-z.1) (0,P) _ ((au.own (by exact hC) _ 64 (id:=64) (by exact rfl) (by exact rfl)).trans ((au.pack (by exact hC) _ 100000 (cs:=[.p (.sl (a.coppers.map rr)),.p (aj a.outline),.p (.sl (a.bores.map bc)),.p (.sl (a.lands.map lc)),.row 59 ((D++[S]).map fun s=>[aw s]),.row 76 (P.map jb),.row 71 [],.row 142 [],.row 3 [],.row 3 [],.row 3 [],.row 174 []]) (by exact rfl) (by exact rfl) (by exact⟨rfl,rfl,rfl,rfl,by rw[abE];rfl,Z,Z,Z,Z,Z,Z,Z,Y⟩)).trans (au.open (by exact hC) _ 100000 [90000,90001,90002,90003,90004,90005,90006,90007] (cs:=[.p (.sl (a.coppers.map rr)),.p (aj a.outline),.p (.sl (a.bores.map bc)),.p (.sl (a.lands.map lc)),.row 59 ((D++[S]).map fun s=>[aw s]),.row 76 (P.map jb),.row 71 [],.row 142 [],.row 3 [],.row 3 [],.row 3 [],.row 174 []]) (by exact rfl) rfl rfl rfl))) ⟨by simp only[List.drop_zero,abx];exact q2,by simp only;omega,aaj _⟩ ⟨rfl,rfl,rfl,rfl,rfl,rfl,rfl,adV (fun m:Nat=>AV.p (i64 m)) lp,Z,Y⟩ ⟨Z,Z,Z,Z,Z,Z,Z,Z,Z,Y⟩ fun ⟨k,Ps⟩ hz t h=>?_;obtain⟨z1,z2,z3⟩:=hz;simp only at z1 z2 z3;refine iW ?_ ?_<;>intro g5<;>try simp only[zB]at g5
   ·obtain⟨p,hp⟩:=ak (l:=cV S) (i:=k) (by omega);obtain⟨p1,_,_,p3⟩:=Reg.rD d1 (aad hp);have p4:=p3 _ d2;have px:=Reg.kT p1 (by omega) p4;have pb:=Reg.cc p1 (by omega) p4;have pt:=Reg.fj p1 (p4.up (by omega));rw[drop_at hp,aa8]at z1;refine⟨[aw p],(idx rfl hp),?_⟩;refine⟨_,_,(Di p (by omega) (fun t ht=>by have:=px t ht;omega) pt),?_⟩;refine⟨⟨fun r hr=>by simp at hr;subst hr;rfl,by simp only[aej,aaM,aan];omega,by simp only[aej,aaM,aan];omega⟩,?_⟩;refine⟨⟨by omega,by omega⟩,?_⟩;refine⟨(k+1,Ps++[Piece.mk i p]),_,((au.pack (by exact hC) _ 100000 (cs:=[.p (.sl (a.coppers.map rr)),.p (aj a.outline),.p (.sl (a.bores.map bc)),.p (.sl (a.lands.map lc)),.row 59 ((D++[S]).map fun s=>[aw s]),.row 76 ((Ps++[Piece.mk i p]).map jb),.row 71 [],.row 142 [],.row 3 [],.row 3 [],.row 3 [],.row 174 []]) (by exact rfl) (by exact rfl) (by exact⟨rfl,rfl,rfl,rfl,rfl,by rw[abE (f:=jb)];rfl,Z,Z,Z,Z,Z,Z,Y⟩)).trans (au.open (by exact hC) _ 100000 [90000,90001,90002,90003,90004,90005,90006,90007] (cs:=[.p (.sl (a.coppers.map rr)),.p (aj a.outline),.p (.sl (a.bores.map bc)),.p (.sl (a.lands.map lc)),.row 59 ((D++[S]).map fun s=>[aw s]),.row 76 ((Ps++[Piece.mk i p]).map jb),.row 71 [],.row 142 [],.row 3 [],.row 3 [],.row 3 [],.row 174 []]) (by exact rfl) rfl rfl rfl)),?_⟩;exact⟨⟨by simp only[abx,aed,abe]at z1 ⊢;exact z1,by simp only[acv,abS];omega,by simp only;omega⟩,by simp only;omega,⟨Z,Z,Z,Z,Z,Z,Z,Z,Z,Y⟩,⟨Z,Z,Z,Z,Z,Z,Z,Z,Z,Y⟩⟩
   rw[ab1 (by omega),ab4,acw]at z1;refine⟨⟨by omega,by omega⟩,?_⟩;exact⟨(i+1,SQ,D++[S],Ps),_,au.refl _ _,⟨by simp only[abx,aed];exact q1,z1,q3',by simp only[acv,abS];omega,by simp only;omega,by simp only;omega⟩,by simp only;omega,⟨Z,Z,Z,Z,Z,Y⟩,⟨Z,Z,Z,Z,Z,Z,Z,Z,Z,Y⟩⟩
  refine iW ?_ ?_<;>intro g4
  ·have g4:ok=true:=g4;refine⟨_,_,ml,?_⟩;exact⟨_,by rw[g4,adr];congr 1;exact propext ⟨fun h=>by omega,fun h=>by omega⟩,⟨Z,Z,Z,Z,Z,Z,Z,Y⟩,⟨Z,Z,Z,Z,Z,Z,Z,Z,Z,Y⟩⟩
  have g4:ok=false:=by simpa using g4
  exact⟨false,by rw[g4];rfl,⟨Z,Z,Z,Z,Z,Z,Z,Y⟩,⟨Z,Z,Z,Z,Z,Z,Z,Z,Z,Y⟩⟩
 have e:a.coppers.length<=i:=by omega
 rw[ab1 e]at q1 q2 q3;simp only[gO,bG,qL,acw,ac7]at q1 q2 q3;subst q1 q2 q3;have lP:=ai P jb;refine iW ?_ ?_<;>intro g4<;>try simp only[zB]at g4
 ·have g4:ok=true:=g4;exact And.intro (by rw[g4,adr];exact adV (fun b:Bool=>PV.im (Value.bool b)) (decide_eq_decide.2 ⟨fun h=>by rw[lP]at h;omega,fun h=>by rw[lP];omega⟩)) (And.intro ⟨Z,Z,Z,Z,Z,Z,Z,Z,Z,Z,Z,Z,Z,Y⟩ trivial)
 have g4:ok=false:=by simpa using g4
 exact And.intro (by rw[g4];rfl) (And.intro ⟨Z,Z,Z,Z,Z,Z,Z,Z,Z,Z,Z,Z,Z,Y⟩ trivial)
open Reg (fX fu bB)
theorem gP(l:List Int)(k:Int):aA (l++[k])=aA l++[[i64 k]]:=by rw[aA,abE];rfl
theorem Dk(a:fS)(ha:iD a)(dr:List (List PV))(P:List Piece)(hP:P.length<=1000000000)(Q9:∀p∈P,(told p.set).length<=4398046511104):af C 101 [.aN [.p (.sl (a.coppers.map rr)),.p (aj a.outline),.p (.sl (a.bores.map bc)),.p (.sl (a.lands.map lc)),.row 59 dr,.row 76 (P.map jb),.row 71 [],.row 142 [],.row 3 [],.row 3 [],.row 3 [],.row 174 []]] (.tu []) [.aN [.p (.sl (a.coppers.map rr)),.p (aj a.outline),.p (.sl (a.bores.map bc)),.p (.sl (a.lands.map lc)),.row 59 dr,.row 76 (P.map jb),.row 71 ((bB a.bores P).map fun l=>[ints l]),.row 142 [],.row 3 [],.row 3 [],.row 3 [],.row 174 []]]:=by
 have lb:=ai a.bores bc;have lp:=ai P jb;have zA:=ha.jB;obtain⟨TT,Zz⟩:∃TT,TT=bB a.bores P:=⟨_,rfl⟩;rw[<-Zz];refine UP ⟨[],[],[],[],[],[]⟩ hC Tryz.func101 rfl (by kernel_rfl) fun _=>⟨_,au.open hC _ 100000 [90000,90001,90002,90003,90004,90005,90006,90007] (by exact rfl) rfl rfl rfl,?_⟩;refine aJ (fun x:Nat×List (List Int)=>x.2++bB (a.bores.drop x.1) P=TT/\x.2.length<=x.1/\x.1<=a.bores.length) (fun x=>[(0,.bx 100000 0),(11,.p (.sl (a.bores.map bc))),(12,.p (i64 a.bores.length)),(13,.p (i64 x.1))]) (fun x=>[(100000,.box [.p (.sl (a.coppers.map rr)),.p (aj a.outline),.p (.sl (a.bores.map bc)),.p (.sl (a.lands.map lc)),.ow 90000,.ow 90001,.ow 90002,.ow 90003,.ow 90004,.ow 90005,.ow 90006,.ow 90007]),(90000,.row 59 dr),(90001,.row 76 (P.map jb)),(90002,.row 71 (x.2.map fun l=>[ints l])),(90003,.row 142 []),(90004,.row 3 []),(90005,.row 3 []),(90006,.row 3 []),(90007,.row 174 [])]) (fun x=>a.bores.length-x.1) (0,[]) _ (au.refl _ _) ⟨Zz.symm,aam _,aaj _⟩ ⟨rfl,rfl,adV (fun m:Nat=>AV.p (i64 m)) lb,Z,Y⟩ ⟨Z,Z,Z,Z,Z,Z,Z,Z,Z,Y⟩ fun ⟨i,T⟩ hx t h=>?_;obtain⟨q1,q2,q3⟩:=hx;simp only at q1 q2 q3;refine iW ?_ ?_<;>intro g<;>try simp only[zB]at g
 ·obtain⟨b,Oz⟩:=ak (l:=a.bores) (i:=i) (by omega);have uW:=ky (ha.bor b (aad Oz));rw[drop_at Oz,bB,aa8]at q1;refine⟨(bc b),(idx rfl Oz),?_⟩;refine aJ (fun y:Nat×List Int=>y.2++fu b y.1 (P.drop y.1)=fu b 0 P/\y.2.length<=y.1/\y.1<=P.length) (fun y=>[(0,.bx 100000 0),(11,.p (.sl (a.bores.map bc))),(12,.p (i64 a.bores.length)),(13,.p (i64 i)),(3,.p (.ip (bc b))),(4,.ow 4),(20,.ow 90001),(21,.p (i64 P.length)),(22,.p (i64 y.1))]) (fun y=>[(100000,.box [.p (.sl (a.coppers.map rr)),.p (aj a.outline),.p (.sl (a.bores.map bc)),.p (.sl (a.lands.map lc)),.ow 90000,.ow 90001,.ow 90002,.ow 90003,.ow 90004,.ow 90005,.ow 90006,.ow 90007]),(90000,.row 59 dr),(90001,.row 76 (P.map jb)),(90002,.row 71 (T.map fun l=>[ints l])),(90003,.row 142 []),(90004,.row 3 []),(90005,.row 3 []),(90006,.row 3 []),(90007,.row 174 []),(4,.row 3 (aA y.2))]) (fun y=>P.length-y.1) (0,[]) _ ((au.gD (by exact hC) _ 3 (y:=.ip (bc b)) (fz:=[(3,.jd (bc b))]) (by exact⟨rfl,rfl⟩)).trans (au.dk (by exact hC) _ 4 3 _ (by decide) (by exact rfl) (by exact rfl) (by decide))) ⟨rfl,aam _,aaj _⟩ ⟨rfl,rfl,rfl,rfl,rfl,rfl,rfl,adV (fun m:Nat=>AV.p (i64 m)) lp,Z,Y⟩ ⟨Z,Z,Z,Z,Z,Z,Z,Z,Z,Z,Y⟩ fun ⟨k,l⟩ hy t h=>?_;obtain⟨k1,k2,k3⟩:=hy;simp only at k1 k2 k3;have ll:=bQ l;refine iW ?_ ?_<;>intro g2<;>try simp only[zB]at g2
  ·obtain⟨p,J_⟩:=ak (l:=P) (i:=k) (by omega);have hpt:=Q9 p (aad J_);rw[drop_at J_,fu]at k1;have yes:fX b p=true->l++[(k:Int)]++fu b (k+1) (P.drop (k+1))=fu b 0 P:=fun h=>by
    rw[aap h]at k1;rw[abx];exact k1
   have no:fX b p=false->l++fu b (k+1) (P.drop (k+1))=fu b 0 P:=fun h=>by
    rw[aaa (by rw[h];decide)]at k1;exact k1
   refine⟨⟨by omega,by (try dsimp only);omega⟩,?_⟩;refine⟨(jb p),(idx rfl J_).2,?_⟩;refine iW ?_ ?_<;>intro g3
   ·refine⟨_,_,(jk b p.layer),?_⟩;refine iW ?_ ?_<;>intro g4
    ·refine⟨_,_,(zy (told p.set) (by omega) b uW),?_⟩;refine iW ?_ ?_<;>intro g5
     ·have hy:=yes (by simp only[fX,aaZ];exact⟨⟨g3,g4⟩,g5⟩);refine⟨⟨fun r hr=>by simp at hr;subst hr;rfl,by simp only[ll,aaM,aan];omega,by simp only[ll,aaM,aan];omega⟩,?_⟩;refine⟨⟨by omega,by omega⟩,?_⟩;exact⟨(k+1,l++[(k:Int)]),_,au.refl _ _,⟨hy,by simp only[acv,abS];omega,by simp only;omega⟩,by simp only;omega,⟨Z,Z,Z,Z,Z,Z,Z,Z,Z,Y⟩,⟨rfl,rfl,rfl,rfl,rfl,rfl,rfl,rfl,rfl,adV (AB.row _) (gP l k).symm,trivial⟩⟩
     have hn:=no (by simp only[fX];rw[aaC];exact .inr g5);refine⟨⟨by omega,by omega⟩,?_⟩;exact⟨(k+1,l),_,au.refl _ _,⟨hn,by simp only;omega,by simp only;omega⟩,by simp only;omega,⟨Z,Z,Z,Z,Z,Z,Z,Z,Z,Y⟩,⟨Z,Z,Z,Z,Z,Z,Z,Z,Z,Z,Y⟩⟩
    have hn:=no (by simp only[fX];rw[g4,aav,adJ]);refine⟨⟨by omega,by omega⟩,?_⟩;exact⟨(k+1,l),_,au.refl _ _,⟨hn,by simp only;omega,by simp only;omega⟩,by simp only;omega,⟨Z,Z,Z,Z,Z,Z,Z,Z,Z,Y⟩,⟨Z,Z,Z,Z,Z,Z,Z,Z,Z,Z,Y⟩⟩
   have hn:=no (by simp only[fX];rw[g3,adJ,adJ]);refine⟨⟨by omega,by omega⟩,?_⟩;exact⟨(k+1,l),_,au.refl _ _,⟨hn,by simp only;omega,by simp only;omega⟩,by simp only;omega,⟨Z,Z,Z,Z,Z,Z,Z,Z,Z,Y⟩,⟨Z,Z,Z,Z,Z,Z,Z,Z,Z,Z,Y⟩⟩
  rw[ab1 (by omega),fu,acw]at k1;have lT:=ai T fun l=>[ints l];refine⟨⟨fun r hr=>by simp at hr;subst hr;rfl,by simp only[lT,aaM,aan];omega,by simp only[lT,aaM,aan];omega⟩,?_⟩;refine⟨⟨by omega,by omega⟩,?_⟩;refine⟨(i+1,T++[l]),_,((au.pack (by exact hC) _ 100000 (cs:=[.p (.sl (a.coppers.map rr)),.p (aj a.outline),.p (.sl (a.bores.map bc)),.p (.sl (a.lands.map lc)),.row 59 dr,.row 76 (P.map jb),.row 71 ((T++[l]).map fun l=>[ints l]),.row 142 [],.row 3 [],.row 3 [],.row 3 [],.row 174 []]) (by exact rfl) (by exact rfl) (by exact⟨rfl,rfl,rfl,rfl,rfl,rfl,by rw[abE];rfl,Z,Z,Z,Z,Z,Y⟩)).trans (au.open (by exact hC) _ 100000 [90000,90001,90002,90003,90004,90005,90006,90007] (cs:=[.p (.sl (a.coppers.map rr)),.p (aj a.outline),.p (.sl (a.bores.map bc)),.p (.sl (a.lands.map lc)),.row 59 dr,.row 76 (P.map jb),.row 71 ((T++[l]).map fun l=>[ints l]),.row 142 [],.row 3 [],.row 3 [],.row 3 [],.row 174 []]) (by exact rfl) rfl rfl rfl)),?_⟩;exact⟨⟨by rw[k1];simp only[abx,aed];exact q1,by simp only[acv,abS];omega,by simp only;omega⟩,by simp only;omega,⟨Z,Z,Z,Z,Y⟩,⟨Z,Z,Z,Z,Z,Z,Z,Z,Z,Y⟩⟩
 rw[ab1 (by omega),bB,ab4,acw]at q1;subst q1;exact And.intro rfl (And.intro ⟨Z,Z,Z,Z,Z,Z,Z,Z,Z,Z,Z,Z,Z,Y⟩ trivial)
end M
namespace Reg
def mV(l:fo)(b:aS):Bool:=(b.plated&&through b l.layer)&&dE l.x l.y (aa b)
def pz(l:fo)(p:Piece):Bool:=decide (p.layer=l.layer)&&(told p.set).any (dE l.x l.y)
def nA(l:fo):Nat->List Piece->zx×Bool
 | _,[]=>(⟨false,0⟩,false)
 | k,p::r=>if pz l p=true then (⟨false,k⟩,true) else nA l (k+1) r
def mF(l:fo)(ps:List Piece):Nat->List aS->zx×Bool
 | _,[]=>nA l 0 ps
 | k,b::r=>if mV l b=true then (⟨true,k⟩,true) else mF l ps (k+1) r
def il(bs:List aS)(ps:List Piece)(l:fo):zx×Bool:=mF l ps 0 bs
def r_(m:Nat):List Int->List Int->List Int
 | [],u=>u
 | p::r,u=>r_ m r (gj u p.toNat m)
def uz(n:Nat):Nat->List (List Int)->List Int->List Int
 | _,[],u=>u
 | k,l::r,u=>uz n (k+1) r (r_ (n+k) l u)
def jm(n nb:Nat)(T:List (List Int)):List Int:=uz n 0 T (iota (n+nb))
theorem zC{m:Nat}:∀(l u:List Int),UF u->m<u.length->(∀p∈l,0<=p/\p.toNat<u.length)->UF (r_ m l u)/\(r_ m l u).length=u.length
 | [],u,h,_,_=>⟨h,rfl⟩
 | p::r,u,h,hm,hl=>by
  obtain⟨a,b⟩:=mC h (i:=p.toNat) (k:=m) (hl p adU).2 hm;obtain⟨c,d⟩:=zC (m:=m) r (gj u p.toNat m) a (by omega) fun q hq=>by have:=hl q (aaw _ hq);omega
  exact⟨c,d.trans b⟩
theorem qM{n nb:Nat}:∀(l:List (List Int)) (k:Nat) (u:List Int),UF u->u.length=n+nb->k+l.length<=nb->(∀x∈l,∀p∈x,0<=p/\p<n)->UF (uz n k l u)/\(uz n k l u).length=n+nb
 | [],k,u,h,hl,_,_=>⟨h,hl⟩
 | x::r,k,u,h,hl,hk,hx=>by
  simp only[aaB]at hk;obtain⟨a,b⟩:=zC (m:=n+k) x u h (by omega) fun p hp=>by have:=hx x adU p hp;omega
  exact qM r (k+1) _ a (b.trans hl) (by omega) fun y hy=>hx y (aaw _ hy)
theorem rE(b:aS):∀(ps:List Piece) (k:Nat),∀p∈fu b k ps,(k:Int)<=p/\p<((k+ps.length:Nat):Int)
 | [],k,p,h=>by cases h
 | q::ps,k,p,h=>by
  rw[fu]at h;have ih:=rE b ps (k+1) p;simp only[aaB];split at h
  ·rcases adq.1 h with rfl | h
   ·omega
   have:=ih h;omega
  have:=ih h;omega
def jF(bs:List aS)(n g:Nat)(s:(List Int×List Int)×List Int×List Int)(i:Nat):(List Int×List Int)×List Int×List Int:=
 if i<n then ((s.1.1.set i (g:Int),s.1.2),s.2.1++[(i:Int)],s.2.2) else
 if (bs.getD (i-n) ⟨0,0,0,0,0,false⟩).plated=true then ((s.1.1,s.1.2.set (i-n) (g:Int)),s.2.1,s.2.2++[((i:Int)-n)]) else
 ((s.1.1,s.1.2.set (i-n) (-1)),s.2.1,s.2.2)
def AT(bs:List aS)(n:Nat)(s:(List Int×List Int)×List bh)(l:List Nat):(List Int×List Int)×List bh:=
 let r:=l.foldl (jF bs n s.2.length) (s.1,[],[])
 (r.1,if 0<r.2.1.length+r.2.2.length then s.2++[⟨r.2.1,r.2.2,[]⟩] else s.2)
def jn(bs:List aS)(n:Nat)(L:List (List Nat)):(List Int×List Int)×List bh:=L.foldl (AT bs n) ((List.replicate n 0,List.replicate bs.length 0),[])
structure qN where
 groups:List bh
 ofLand:List Int
 atLand:List zx
def iN(p:ByteArray×ByteArray)(g:bh):bh:={ g with pins:=g.pins++[p] }
def uA(bs:List aS)(ps:List Piece)(o:List Int×List Int)(s:qN)(l:fo):qN:=
 let h:=il bs ps l;let k:Int:=if h.2=true then (if h.1.bore=true then o.2 else o.1).getD h.1.num.toNat 0 else -1
 ⟨if h.2=true then s.groups.set k.toNat (iN (l.part,l.pin) (s.groups.getD k.toNat ⟨[],[],[]⟩)) else s.groups,s.ofLand++[k],s.atLand++[h.1]⟩
end Reg
namespace M
open Go.AM Go.RowKit Go.Lib
open Reg (ae an aS fo fS Piece zx bE cv told aB bO aa through mV pz nA mF il)
def je(h:zx):List PV:=[bool h.bore,i64 h.num]
theorem Fk:M3=Reg.dE:=rfl
theorem Dl(a:fS)(ha:iD a)(l:fo)(dr tt gg ol ah:List (List PV))(op ob:List Int)(P:List Piece)(hP:P.length<=1000000000)(Q9:∀p∈P,(told p.set).length<=4398046511104):af C 184 [.pv (.ip ((dX a)++[.sl dr,.sl (P.map jb),.sl tt,.sl gg,ints op,ints ob,.sl ol,.sl ah])),.pv (.ag (lc l))] (.tu [.ag (je (il a.bores P l).1),bool (il a.bores P l).2]) []:=by
 have lb:=ai a.bores bc;have lp:=ai P jb;have zA:=ha.jB;obtain⟨R,hR⟩:∃R,R=il a.bores P l:=⟨_,rfl⟩;rw[<-hR];refine fW hC Tryz.func184 rfl (by kernel_rfl) fun _=>?_;refine aJ (fun i:Nat=>mF l P i (a.bores.drop i)=R) (fun i=>[(0,.p (.ip ((dX a)++[.sl dr,.sl (P.map jb),.sl tt,.sl gg,ints op,ints ob,.sl ol,.sl ah]))),(3,.bx 3 0),(4,.bx 4 0),(14,.p (.sl (a.bores.map bc))),(15,.p (i64 a.bores.length)),(16,.p (i64 i))]) (fun _=>[(3,.box [.p (str l.part),.p (str l.pin),.p (i64 l.layer),.p (i64 l.x),.p (i64 l.y)]),(4,.box [.p (bool false),.p (i64 0)])]) (fun i=>a.bores.length-i) 0 _ (au.refl _ _) hR.symm ⟨rfl,rfl,rfl,rfl,adV (fun m:Nat=>AV.p (i64 m)) lb,Z,Y⟩ ⟨Z,Z,Y⟩ fun i hi t h=>?_;refine iW ?_ ?_<;>intro g
 ·obtain⟨b,Oz⟩:=ak (l:=a.bores) (i:=i) (by omega);have uW:=ky (ha.bor b (aad Oz));rw[drop_at Oz,mF]at hi;refine⟨(bc b),(idx rfl Oz),?_⟩;have yes:mV l b=true->R=(⟨true,i⟩,true):=fun h=>by rw[aap h]at hi;exact hi.symm
  have no:mV l b=false->mF l P (i+1) (a.bores.drop (i+1))=R:=fun h=>by rw[aaa (by rw[h];decide)]at hi;exact hi
  refine iW ?_ ?_<;>intro g1
  ·refine⟨_,_,(jk b l.layer),?_⟩;refine iW ?_ ?_<;>intro g2
   ·refine⟨_,_,(cF b uW),?_⟩;refine⟨_,_,(pU [aa b] (by simp) l.x l.y),?_⟩;refine iW ?_ ?_<;>intro g3
    ·have hy:=yes (by simp only[mV,aaZ];exact⟨⟨g1,g2⟩,by simpa [Fk] using g3⟩);exact And.intro (by rw[hy];rfl) trivial
    have hn:=no (by simp only[mV];rw[aaC];exact .inr (by simpa [Fk] using g3));refine⟨⟨by omega,by omega⟩,?_⟩;exact⟨(i+1),_,au.refl _ _,hn,by omega,⟨Z,Z,Z,Z,Z,Z,Y⟩,⟨Z,Z,Y⟩⟩
   have hn:=no (by simp only[mV];rw[g2,aav,adJ]);refine⟨⟨by omega,by omega⟩,?_⟩;exact⟨(i+1),_,au.refl _ _,hn,by omega,⟨Z,Z,Z,Z,Z,Z,Y⟩,⟨Z,Z,Y⟩⟩
  have hn:=no (by simp only[mV];rw[g1,adJ,adJ]);refine⟨⟨by omega,by omega⟩,?_⟩;exact⟨(i+1),_,au.refl _ _,hn,by omega,⟨Z,Z,Z,Z,Z,Z,Y⟩,⟨Z,Z,Y⟩⟩
 rw[ab1 (by omega),mF]at hi;refine aJ (fun k:Nat=>nA l k (P.drop k)=R) (fun k=>[(0,.p (.ip ((dX a)++[.sl dr,.sl (P.map jb),.sl tt,.sl gg,ints op,ints ob,.sl ol,.sl ah]))),(3,.bx 3 0),(4,.bx 4 0),(43,.p (.sl (P.map jb))),(44,.p (i64 P.length)),(45,.p (i64 k))]) (fun _=>[(3,.box [.p (str l.part),.p (str l.pin),.p (i64 l.layer),.p (i64 l.x),.p (i64 l.y)]),(4,.box [.p (bool false),.p (i64 0)])]) (fun k=>P.length-k) 0 _ (au.refl _ _) hi ⟨rfl,rfl,rfl,rfl,adV (fun m:Nat=>AV.p (i64 m)) lp,Z,Y⟩ ⟨Z,Z,Y⟩ fun k hk t h=>?_;refine iW ?_ ?_<;>intro g5
 ·obtain⟨p,J_⟩:=ak (l:=P) (i:=k) (by omega);have hpt:=Q9 p (aad J_);rw[drop_at J_,nA]at hk;have yes:pz l p=true->R=(⟨false,k⟩,true):=fun h=>by rw[aap h]at hk;exact hk.symm
  have no:pz l p=false->nA l (k+1) (P.drop (k+1))=R:=fun h=>by rw[aaa (by rw[h];decide)]at hk;exact hk
  refine⟨(jb p),(idx rfl J_),?_⟩;refine iW ?_ ?_<;>intro g1
  ·refine⟨_,_,(pU (told p.set) (by omega) l.x l.y),?_⟩;refine iW ?_ ?_<;>intro g2
   ·have hy:=yes (by simp only[pz,aaZ,aaH];exact⟨g1,g2⟩);exact And.intro (by rw[hy];rfl) trivial
   have hn:=no (by simp only[pz];rw[aaC];exact .inr g2);refine⟨⟨by omega,by omega⟩,?_⟩;exact⟨(k+1),_,au.refl _ _,hn,by omega,⟨Z,Z,Z,Z,Z,Z,Y⟩,⟨Z,Z,Y⟩⟩
  have hn:=no (by simp only[pz];rw[aaz g1,adJ]);refine⟨⟨by omega,by omega⟩,?_⟩;exact⟨(k+1),_,au.refl _ _,hn,by omega,⟨Z,Z,Z,Z,Z,Z,Y⟩,⟨Z,Z,Y⟩⟩
 rw[ab1 (by omega),nA]at hk;exact And.intro (by rw[<-hk];rfl) trivial
theorem uB(a:fS)(hp:zx)(dr tt gg ol ah:List (List PV))(op ob:List Int)(P:List Piece)(n:Nat)(hn:hp.num=n)(v:Int)(hv:(if hp.bore=true then ob else op)[n]?=some v):af C 185 [.pv (.ip ((dX a)++[.sl dr,.sl (P.map jb),.sl tt,.sl gg,ints op,ints ob,.sl ol,.sl ah])),.pv (.ag (je hp))] (.p (i64 v)) []:=by
 obtain⟨b,m⟩:=hp;simp only at hn hv;subst hn;refine fW hC Tryz.func185 rfl (by kernel_rfl) fun _=>?_;refine iW ?_ ?_<;>intro g<;>try simp only[zB]at g
 ·rw[aap g]at hv;refine⟨[i64 v],(idx rfl hv),?_⟩;refine⟨?_,trivial⟩;rfl
 rw[aaa (by rw[g];decide)]at hv;refine⟨[i64 v],(idx rfl hv),?_⟩;refine⟨?_,trivial⟩;rfl
end M
namespace Reg
def I7:aS:=⟨0,0,0,0,0,false⟩
def bD(bs:List aS)(j:Nat):Bool:=(bs.getD j I7).plated
structure iB(bs:List aS)(n g:Nat)(l:List Nat)(s r:(List Int×List Int)×List Int×List Int):Prop where
 l1:r.1.1.length=s.1.1.length
 l2:r.1.2.length=s.1.2.length
 op:∀i,r.1.1[i]?=if i∈l/\i<n then some (g:Int) else s.1.1[i]?
 ob:∀j,r.1.2[j]?=if n+j∈l then some (if bD bs j=true then (g:Int) else -1) else s.1.2[j]?
 ps:∀x,x∈r.2.1↔x∈s.2.1\/∃i:Nat,i∈l/\i<n/\x=i
 bs':∀x,x∈r.2.2↔x∈s.2.2\/∃j:Nat,n+j∈l/\bD bs j=true/\x=j
theorem uC(bs:List aS)(n g:Nat):∀(l:List Nat) (s:(List Int×List Int)×List Int×List Int),s.1.1.length=n->s.1.2.length=bs.length->(∀i∈l,i<n+bs.length)->iB bs n g l s (l.foldl (jF bs n g) s)
 | [],s,_,_,_=>⟨rfl,rfl,fun i=>by simp,fun j=>by simp,fun x=>by simp,fun x=>by simp⟩
 | i::l,s,h1,h2,hl=>by
  have hi:=hl i adU;have J1:∀i∈l,i<n+bs.length:=fun i h=>hl i (aaw _ h);rw[aaq];by_cases c:i<n
  ·have e:jF bs n g s i=((s.1.1.set i (g:Int),s.1.2),s.2.1++[(i:Int)],s.2.2):=by rw[jF,aap c]
   rw[e];have r:=uC bs n g l ((s.1.1.set i (g:Int),s.1.2),s.2.1++[(i:Int)],s.2.2) (by simp only[aaM];exact h1) h2 J1;refine⟨r.l1.trans (aaM ..),r.l2,fun k=>?_,fun j=>?_,fun x=>?_,fun x=>?_⟩
   ·rw[r.op];by_cases hk:k∈l/\k<n
    ·rw[aap hk,aap ⟨aaw _ hk.1,hk.2⟩]
    rw[aaa hk,ew (by omega)];by_cases LG:k=i
    ·subst LG;rw[aap rfl,aap ⟨adU,c⟩]
    rw[aaa LG,aaa (fun hc=>hk ⟨(adq.1 hc.1).resolve_left LG,hc.2⟩)]
   ·rw[r.ob];have:(n+j∈i::l)↔n+j∈l:=by
     rw[adq];exact⟨fun h=>h.resolve_left (by omega),.inr⟩
    simp only[this]
   ·rw[r.ps];simp only[abi,adq,adI,or_false];constructor
    ·rintro ((h | h) | ⟨k,a,b,e⟩)
     ·exact .inl h
     ·exact .inr ⟨i,.inl rfl,c,h⟩
     exact .inr ⟨k,.inr a,b,e⟩
    rintro (h | ⟨k,a | a,b,e⟩)
    ·exact .inl (.inl h)
    ·exact .inl (.inr (by rw[e,a]))
    exact .inr ⟨k,a,b,e⟩
   rw[r.bs'];simp only[adq];constructor
   ·rintro (h | ⟨k,a,b⟩)
    ·exact .inl h
    exact .inr ⟨k,.inr a,b⟩
   rintro (h | ⟨k,a | a,b⟩)
   ·exact .inl h
   ·omega
   exact .inr ⟨k,a,b⟩
  have qg:(bs.getD (i-n) ⟨0,0,0,0,0,false⟩).plated=bD bs (i-n):=rfl;have X9:∀k,(k∈i::l/\k<n)↔(k∈l/\k<n):=fun k=>by
   rw[adq];exact⟨fun h=>⟨h.1.resolve_left (by omega),h.2⟩,fun h=>⟨.inr h.1,h.2⟩⟩
  have ZA:∀x:Int,(∃k:Nat,k∈i::l/\k<n/\x=k)↔(∃k:Nat,k∈l/\k<n/\x=k):=fun x=>
   ⟨fun ⟨k,a,b,e⟩=>⟨k,((X9 k).1 ⟨a,b⟩).1,b,e⟩,fun ⟨k,a,b,e⟩=>⟨k,aaw _ a,b,e⟩⟩
  have ZB:∀(o:List Int) (v:Int) (j:Nat),o.length=bs.length->(v=if bD bs (i-n)=true then (g:Int) else -1)->(if n+j∈l then some (if bD bs j=true then (g:Int) else -1) else (o.set (i-n) v)[j]?)=if n+j∈i::l then some (if bD bs j=true then (g:Int) else -1) else o[j]?:=fun o v j ho hv=>by
   by_cases hj:n+j∈l
   ·rw[aap hj,aap (aaw _ hj)]
   rw[aaa hj,ew (by omega)];by_cases Wf:j=i-n
   ·subst Wf;rw[aap rfl,aap (adq.2 (.inl (by omega))),hv]
   rw[aaa Wf,aaa (fun hc=>hj ((adq.1 hc).resolve_left (by omega)))]
  by_cases p:bD bs (i-n)=true
  ·have e:jF bs n g s i=((s.1.1,s.1.2.set (i-n) (g:Int)),s.2.1,s.2.2++[((i:Int)-n)]):=by rw[jF,aaa c,qg,aap p]
   rw[e];have r:=uC bs n g l ((s.1.1,s.1.2.set (i-n) (g:Int)),s.2.1,s.2.2++[((i:Int)-n)]) h1 (by simp only[aaM];exact h2) J1;refine⟨r.l1,r.l2.trans (aaM ..),fun k=>?_,fun j=>?_,fun x=>?_,fun x=>?_⟩
   ·rw[r.op];simp only[X9]
   ·rw[r.ob];exact ZB _ _ _ h2 (by rw[aap p])
   ·rw[r.ps,ZA]
   rw[r.bs'];simp only[abi,adq,adI,or_false];constructor
   ·rintro ((h | h) | ⟨k,a,b,e⟩)
    ·exact .inl h
    ·exact .inr ⟨i-n,.inl (by omega),p,by omega⟩
    exact .inr ⟨k,.inr a,b,e⟩
   rintro (h | ⟨k,a | a,b,e⟩)
   ·exact .inl (.inl h)
   ·exact .inl (.inr (by omega))
   exact .inr ⟨k,a,b,e⟩
  have e:jF bs n g s i=((s.1.1,s.1.2.set (i-n) (-1)),s.2.1,s.2.2):=by rw[jF,aaa c,qg,aaa p]
  rw[e];have r:=uC bs n g l ((s.1.1,s.1.2.set (i-n) (-1)),s.2.1,s.2.2) h1 (by simp only[aaM];exact h2) J1;refine⟨r.l1,r.l2.trans (aaM ..),fun k=>?_,fun j=>?_,fun x=>?_,fun x=>?_⟩
  ·rw[r.op];simp only[X9]
  ·rw[r.ob];exact ZB _ _ _ h2 (by rw[aaa p])
  ·rw[r.ps,ZA]
  rw[r.bs'];simp only[adq];constructor
  ·rintro (h | ⟨k,a,b⟩)
   ·exact .inl h
   exact .inr ⟨k,.inr a,b⟩
  rintro (h | ⟨k,a | a,b,e⟩)
  ·exact .inl h
  ·have:k=i-n:=by omega
   rw[this]at b;exact absurd b p
  exact .inr ⟨k,a,b,e⟩
structure Nz(bs:List aS)(n:Nat)(D:List (List Nat))(s:(List Int×List Int)×List bh):Prop where
 l1:s.1.1.length=n
 l2:s.1.2.length=bs.length
 a:∀i,i<n->(∃l∈D,i∈l)->∃(k:Nat) (g:bh),s.1.1[i]?=some (k:Int)/\s.2[k]?=some g/\(i:Int)∈g.pieces
 b:∀j,j<bs.length->bD bs j=true->(∃l∈D,n+j∈l)->∃(k:Nat) (g:bh),s.1.2[j]?=some (k:Int)/\s.2[k]?=some g/\(j:Int)∈g.bores
 c:∀(k:Nat) g,s.2[k]?=some g->g.pins=[]/\∀x∈g.pieces,∃i:Nat,x=i/\i<n/\s.1.1[i]?=some (k:Int)/\∃l∈D,i∈l
 d:∀j,j<bs.length->bD bs j=false->(∃l∈D,n+j∈l)->s.1.2[j]?=some (-1)
variable {bs:List aS}
theorem KP{n:Nat}{D:List (List Nat)}{s:(List Int×List Int)×List bh}(h:Nz bs n D s){l:List Nat}(hl:∀i∈l,i<n+bs.length)(hd:∀l'∈D,∀i∈l',¬i∈l):Nz bs n (D++[l]) (AT bs n s l):=by
 have r:=uC bs n s.2.length l (s.1,[],[]) h.l1 h.l2 hl;obtain⟨q,hq⟩:∃q,q=l.foldl (jF bs n s.2.length) (s.1,[],[]):=⟨_,rfl⟩;rw[<-hq]at r;have hs:AT bs n s l=(q.1,if 0<q.2.1.length+q.2.2.length then s.2++[⟨q.2.1,q.2.2,[]⟩] else s.2):=by rw[hq];rfl
 rw[hs];have X_:∀x,x∈q.2.1↔∃i:Nat,i∈l/\i<n/\x=i:=fun x=>by rw[r.ps];simp
 have ZC:∀x,x∈q.2.2↔∃j:Nat,n+j∈l/\bD bs j=true/\x=j:=fun x=>by rw[r.bs'];simp
 have keep:∀(k:Nat) g,s.2[k]?=some g->(if 0<q.2.1.length+q.2.2.length then s.2++[⟨q.2.1,q.2.2,[]⟩] else s.2)[k]?=some g:=fun k g hk=>by
  split
  ·rw[aaE (aao.1 hk).1];exact hk
  exact hk
 have Vr:∀x,(x∈q.2.1\/x∈q.2.2)->(if 0<q.2.1.length+q.2.2.length then s.2++[(⟨q.2.1,q.2.2,[]⟩:bh)] else s.2)[s.2.length]?=some ⟨q.2.1,q.2.2,[]⟩:=fun x hx=>by
  have:0<q.2.1.length+q.2.2.length:=by rcases hx with h | h<;>(have:=abM h;omega)
  rw[aap this,acu (aam _),aab];rfl
 have mD:∀i,(∃l'∈D++[l],i∈l')↔(∃l'∈D,i∈l')\/i∈l:=fun i=>by
  constructor
  ·rintro⟨l',h1,h2⟩;rcases abi.1 h1 with h1 | h1
   ·exact .inl ⟨l',h1,h2⟩
   rw[ab_]at h1;subst h1;exact .inr h2
  rintro (⟨l',h1,h2⟩ | h2)
  ·exact⟨l',abY _ h1,h2⟩
  exact⟨l,adt _ (ab_.2 rfl),h2⟩
 refine⟨r.l1.trans h.l1,r.l2.trans h.l2,fun i hi hm=>?_,fun j hj hp hm=>?_,fun k g hk=>?_,fun j hj hp hm=>?_⟩
 ·by_cases xD:i∈l
  ·refine⟨s.2.length,_,by rw[r.op,aap ⟨xD,hi⟩],Vr i (.inl ((X_ _).2 ⟨i,xD,hi,rfl⟩)),(X_ _).2 ⟨i,xD,hi,rfl⟩⟩
  obtain⟨k,g,h1,h2,h3⟩:=h.a i hi (((mD i).1 hm).resolve_right xD);exact⟨k,g,by rw[r.op,aaa (fun hc=>xD hc.1)];exact h1,keep k g h2,h3⟩
 ·by_cases xD:n+j∈l
  ·refine⟨s.2.length,_,by rw[r.ob,aap xD,aap hp],Vr j (.inr ((ZC _).2 ⟨j,xD,hp,rfl⟩)),(ZC _).2 ⟨j,xD,hp,rfl⟩⟩
  obtain⟨k,g,h1,h2,h3⟩:=h.b j hj hp (((mD _).1 hm).resolve_right xD);exact⟨k,g,by rw[r.ob,aaa xD];exact h1,keep k g h2,h3⟩
 ·by_cases Ts:k<s.2.length
  ·have xA:s.2[k]?=some g:=by
    have e:=keep k s.2[k] (acg Ts);have e2:=hk.symm.trans e;injection e2 with e2;rw[e2];exact acg Ts
   obtain⟨c1,c2⟩:=h.c k g xA;refine⟨c1,fun x hx=>?_⟩;obtain⟨i,e,hi,ho,hm⟩:=c2 x hx;have xD:¬i∈l:=fun hc=>by
    obtain⟨l',h1,h2⟩:=hm;exact hd l' h1 i h2 hc
   exact⟨i,e,hi,by rw[r.op,aaa (fun hc=>xD hc.1)];exact ho,(mD i).2 (.inl hm)⟩
  have l_:(if 0<q.2.1.length+q.2.2.length then s.2++[(⟨q.2.1,q.2.2,[]⟩:bh)] else s.2)[k]?=some g:=hk;split at l_
  ·rw[acu (by omega)]at l_;have Ov:k=s.2.length:=by
    have:=(aao.1 l_).1;simp at this;omega
   rw[Ov,aab]at l_;injection l_ with l_;subst l_;subst Ov;refine⟨rfl,fun x hx=>?_⟩;obtain⟨i,xD,hi,e⟩:=(X_ x).1 hx;exact⟨i,e,hi,by rw[r.op,aap ⟨xD,hi⟩],(mD i).2 (.inr xD)⟩
  exact absurd (aao.1 l_).1 Ts
 by_cases xD:n+j∈l
 ·rw[r.ob,aap xD,hp];rfl
 rw[r.ob,aaa xD];exact h.d j hj hp (((mD _).1 hm).resolve_right xD)
theorem Fl{n:Nat}:∀(L D:List (List Nat)) (s:(List Int×List Int)×List bh),Nz bs n D s->(∀l∈L,∀i∈l,i<n+bs.length)->(∀l'∈D,∀l∈L,∀i∈l',¬i∈l)->(L.Pairwise fun l' l=>∀i∈l',¬i∈l)->Nz bs n (D++L) (L.foldl (AT bs n) s)
 | [],D,s,h,_,_,_=>by rw[acw];exact h
 | l::L,D,s,h,hl,hd,hp=>by
  have hp':=ade.1 hp;have h1:=KP h (hl l adU) fun l' J1=>hd l' J1 l adU;have:=Fl L (D++[l]) (AT bs n s l) h1 (fun l' h'=>hl l' (aaw _ h')) (fun l' h' m hm i hi=>by
   rcases abi.1 h' with h' | h'
   ·exact hd l' h' m (aaw _ hm) i hi
   rw[ab_]at h';subst h';exact hp'.1 m hm i hi) hp'.2
  rw[abx,aed]at this;exact this
structure mG(bs:List aS)(n:Nat)(s:(List Int×List Int)×List bh):Prop where
 l1:s.1.1.length=n
 l2:s.1.2.length=bs.length
 a:∀i,i<n->∃(k:Nat) (g:bh),s.1.1[i]?=some (k:Int)/\s.2[k]?=some g/\(i:Int)∈g.pieces
 b:∀j,j<bs.length->bD bs j=true->∃(k:Nat) (g:bh),s.1.2[j]?=some (k:Int)/\s.2[k]?=some g/\(j:Int)∈g.bores
 c:∀(k:Nat) g,s.2[k]?=some g->g.pins=[]/\∀x∈g.pieces,∃i:Nat,x=i/\i<n/\s.1.1[i]?=some (k:Int)
 d:∀j,j<bs.length->bD bs j=false->s.1.2[j]?=some (-1)
theorem vL{n:Nat}{u:List Int}(hu:UF u)(hl:u.length=n+bs.length):mG bs n (jn bs n (aP (cQ u) (n+bs.length))):=by
 have hT:=rz hu;rw[hl]at hT;have h0:Nz bs n [] ((List.replicate n 0,List.replicate bs.length 0),[]):=⟨aan,aan,fun i _ ⟨l,h,_⟩=>(by cases h),fun j _ _ ⟨l,h,_⟩=>(by cases h),fun k g h=>by simp at h,fun j _ _ ⟨l,h,_⟩=>(by cases h)⟩;have h1:=Fl (aP (cQ u) (n+bs.length)) [] _ h0 (fun l h i hi=>by
  obtain⟨r,_,rfl⟩:=adS.1 h;exact (dx.1 hi).1) (fun l' h=>by cases h) (by
  rw[aP,abp];refine (afh _ _).imp fun {r q} b8=>?_;intro i hi hc;exact b8 ((dx.1 hi).2.symm.trans (dx.1 hc).2))
 have Ya:∀i,i<n+bs.length->∃l∈[]++aP (cQ u) (n+bs.length),i∈l:=fun i hi=>by
  refine⟨dh (cQ u) (n+bs.length) (cQ u i),?_,dx.2 ⟨hi,rfl⟩⟩;rw[aaI,aP];exact adS.2 ⟨cQ u i,mem_keys.2 ⟨by have:=hT.le i hi;omega,hT.top i hi⟩,rfl⟩
 exact⟨h1.l1,h1.l2,fun i hi=>h1.a i hi (Ya i (by omega)),fun j hj hp=>h1.b j hj hp (Ya (n+j) (by omega)),fun k g hk=>⟨(h1.c k g hk).1,fun x hx=>by obtain⟨i,a,b,c,_⟩:=(h1.c k g hk).2 x hx;exact⟨i,a,b,c⟩⟩,fun j hj hp=>h1.d j hj hp (Ya (n+j) (by omega))⟩
theorem Fm(l:fo):∀(ps:List Piece) (k:Nat),(nA l k ps).2=true->∃m:Nat,(nA l k ps).1=⟨false,m⟩/\k<=m/\m<k+ps.length
 | [],k,h=>by cases h
 | p::ps,k,h=>by
  rw[nA]at h ⊢;by_cases c:pz l p=true
  ·rw[aap c];exact⟨k,rfl,aam _,by simp⟩
  rw[aaa c]at h ⊢;obtain⟨m,a,b,d⟩:=Fm l ps (k+1) h;exact⟨m,a,by omega,by simp only[aaB];omega⟩
theorem zD(l:fo)(ps:List Piece):∀(bs:List aS) (k:Nat),(mF l ps k bs).2=true->(∃m:Nat,(mF l ps k bs).1=⟨false,m⟩/\m<ps.length)\/∃m:Nat,(mF l ps k bs).1=⟨true,m⟩/\k<=m/\m<k+bs.length/\bD bs (m-k)=true
 | [],k,h=>by
  rw[mF]at h ⊢;obtain⟨m,a,_,b⟩:=Fm l ps 0 h;exact .inl ⟨m,a,by omega⟩
 | b::bs,k,h=>by
  rw[mF]at h ⊢;by_cases c:mV l b=true
  ·rw[aap c];simp only[mV,aaZ]at c;exact .inr ⟨k,rfl,aam _,by simp,by rw[aab];exact c.1.1⟩
  rw[aaa c]at h ⊢;rcases zD l ps bs (k+1) h with⟨m,a,d⟩ | ⟨m,a,d,e,f⟩
  ·exact .inl ⟨m,a,d⟩
  refine .inr ⟨m,a,by omega,by simp only[aaB];omega,?_⟩;rw[show m-k=(m-(k+1))+1 by omega];exact f
theorem KQ{ps:List Piece}{s:(List Int×List Int)×List bh}(h:mG bs ps.length s)(l:fo)(ht:(il bs ps l).2=true):∃m k:Nat,(il bs ps l).1.num=m/\(if (il bs ps l).1.bore=true then s.1.2 else s.1.1)[m]?=some (k:Int)/\k<s.2.length:=by
 rcases zD l ps bs 0 ht with⟨m,a,d⟩ | ⟨m,a,_,d,e⟩
 ·obtain⟨k,g,h1,h2,_⟩:=h.a m d;refine⟨m,k,by rw[il,a],?_,(aao.1 h2).1⟩;rw[il,a];exact h1
 obtain⟨k,g,h1,h2,_⟩:=h.b m (by omega) e;refine⟨m,k,by rw[il,a],?_,(aao.1 h2).1⟩;rw[il,a];exact h1
end Reg
end Go.Proofs.YtfloceomobknoaaGreatDoor
