/- Part 9 of the proof of RulesAllMatchSpec. -/
import Derived.Test.YtfloceomobknoaaGreatDoorA08
set_option linter.unusedVariables false
set_option linter.unusedSimpArgs false
set_option maxRecDepth 100000
set_option maxHeartbeats 8000000
namespace Go
abbrev adL:=@List.length_pos_of_mem
abbrev aed:=@List.nodup_iff_pairwise_ne
abbrev abO:=@List.map_eq_nil_iff
abbrev ac3:=@List.singleton_append
end Go
namespace Go.Proofs.YtfloceomobknoaaGreatDoor
namespace M
open Go.AM Go.RowKit Go.Lib
open Reg (ae P4 fT bA jD aeW aez aeA aeP G2 pAt aeT ahc xu afd Zu PIn)
def pt(p:Int×Int):List PV:=[i64 p.1,i64 p.2]
def gc(g:Zu):List PV:=[i64 g.a,i64 g.b,i64 g.dist,i64 g.src.1,i64 g.src.2,i64 g.dst.1,i64 g.dst.2]
theorem BM(a b:ae)(z:P4 1000000000 a)(hb:P4 1000000000 b):af C 98 [.pv (.ag (rc a)),.pv (.ag (rc b))] (.p (i64 (fT a b))) []:=by
 obtain⟨a1,a2,a3,a4⟩:=z;obtain⟨b1,b2,b3,b4⟩:=hb;refine fW hC Tryz.func98 rfl (by kernel_rfl) fun _=>?_;refine⟨_,_,(r8 a.x0 a.x1 b.x0 b.x1 (by omega)),_,_,(r8 a.y0 a.y1 b.y0 b.y1 (by omega)),?_,trivial⟩;rfl
theorem af0(a b:ae)(n:Int)(z:P4 1000000000 a)(hb:P4 1000000000 b)(hn:-1<=n/\n<=10000000000):af C 103 [.pv (.ag (rc a)),.pv (.ag (rc b)),.pv (i64 n)] (.p (.ag (pt (jD a b n)))) []:=by
 obtain⟨a1,a2,a3,a4⟩:=z;obtain⟨b1,b2,b3,b4⟩:=hb;refine fW hC Tryz.func103 rfl (by kernel_rfl) fun _=>?_;refine⟨wO (by omega),wO (by omega),?_,trivial⟩;rfl
theorem af1(p q:Int×Int):af C 104 [.pv (.ag (pt p)),.pv (.ag (pt q))] (.p (bool (aeW p q))) []:=by
 refine fW hC Tryz.func104 rfl (by kernel_rfl) fun _=>?_;apply iW<;>intro z
 ·refine⟨?_,trivial⟩;simp only[aeW];simp[z];rfl
 apply iW<;>intro D
 ·refine⟨?_,trivial⟩;simp only[aeW];simp[D];rfl
 refine⟨?_,trivial⟩;simp only[aeW];simp[z,D];rfl
theorem drop_at{α:Type}{l:List α}{i:Nat}{x:α}(h:l[i]?=some x):l.drop i=x::l.drop (i+1):=by
 obtain⟨hi,e⟩:=aao.1 h;rw[acX hi,e]
theorem agw(a b:List ae)(ha:∀r∈a,P4 2000000 r)(V:∀r∈b,P4 2000000 r)(na:a.length<=1000000000)(nb:b.length<=1000000000):af C 40 [.pv (aj a),.pv (aj b)] (.p (.ag (gc (afd a b)))) []:=by
 have up:∀r,P4 2000000 r->P4 1000000000 r:=fun r h=>by
  obtain⟨a1,a2,a3,a4⟩:=h;exact⟨by omega,by omega,by omega,by omega⟩
 obtain⟨R,hR⟩:∃R,R=aeP a b:=⟨_,rfl⟩;have ahM:afd a b=⟨0,0,R-1,aeT a b R,ahc b (aeT a b R) R⟩:=by rw[hR];rfl
 have hR4:=(Reg.ag0 (by omega) ha V).2;rw[<-hR]at hR4;rw[ahM];have lm:=ai a rc;have lmb:=ai b rc;refine fW hC Tryz.func40 rfl (by kernel_rfl) fun _=>?_;refine aJ (fun x:Nat×Int=>aez x.2 (aeA (a.drop x.1) b)=R/\-1<=x.2/\x.2<=100000000) (fun x=>[(0,.p (aj a)),(1,.p (aj b)),(4,.bx 4 0),(5,.p (i64 x.2)),(22,.p (aj a)),(23,.p (i64 a.length)),(24,.p (i64 x.1))]) (fun _=>[(4,.box [.p (i64 0),.p (i64 0),.p (i64 0),.p (i64 0),.p (i64 0),.p (i64 0),.p (i64 0)])]) (fun x=>a.length-x.1) (0,-1) _ (au.refl _ _) ⟨hR.symm,by decide,by decide⟩ ⟨rfl,rfl,rfl,rfl,rfl,adV (fun m:Nat=>AV.p (i64 m)) lm,Z,Y⟩ ⟨Z,Y⟩ fun ⟨i,f⟩ hx t h=>?_;obtain⟨I,W,h3⟩:=hx;simp only at I W h3;apply iW<;>intro g<;>try simp only[zB]at g
 ·obtain⟨x,L⟩:=ak (l:=a) (i:=i) (by omega);have px:=ha x (aad L);rw[drop_at L]at I;have I:aez (aez f (b.map (fT x))) (aeA (a.drop (i+1)) b)=R:=by rw[<-Reg.agk];exact I
  refine⟨(rc x),(idx rfl L),?_⟩;refine aJ (fun y:Nat×Int=>aez y.2 ((b.drop y.1).map (fT x))=aez f (b.map (fT x))/\-1<=y.2/\y.2<=100000000) (fun y=>[(0,.p (aj a)),(1,.p (aj b)),(4,.bx 4 0),(5,.p (i64 y.2)),(22,.p (aj a)),(23,.p (i64 a.length)),(24,.p (i64 i)),(7,.bx 7 0),(28,.p (aj b)),(29,.p (i64 b.length)),(30,.p (i64 y.1))]) (fun _=>[(4,.box [.p (i64 0),.p (i64 0),.p (i64 0),.p (i64 0),.p (i64 0),.p (i64 0),.p (i64 0)]),(7,.box [.p (i64 x.x0),.p (i64 x.y0),.p (i64 x.x1),.p (i64 x.y1)])]) (fun y=>b.length-y.1) (0,f) _ (au.refl _ _) ⟨rfl,W,h3⟩ ⟨rfl,rfl,rfl,rfl,rfl,rfl,rfl,rfl,rfl,adV (fun m:Nat=>AV.p (i64 m)) lmb,Z,Y⟩ ⟨Z,Z,Y⟩ fun ⟨j,f'⟩ hy t h=>?_;obtain⟨D,k2,k3⟩:=hy;simp only at D k2 k3;apply iW<;>intro g2<;>try simp only[zB]at g2
  ·obtain⟨y,N⟩:=ak (l:=b) (i:=j) (by omega);have U:=V y (aad N);rw[drop_at N,aa8,Reg.afZ]at D;have fl:=Reg.Nw px U;refine⟨(rc y),(idx rfl N),_,_,(BM x y (up x px) (up y U)),?_⟩;have z:∀c:Prop,∀d:Decidable c,(c↔f' < 0\/fT x y<f')->aez (if c then fT x y else f') ((b.drop (j+1)).map (fT x))=aez f (b.map (fT x)):=fun c d J=>by
    rw[<-D];congr 1;by_cases h:c
    ·rw[aap h,aap (J.1 h)]
    rw[aaa h,aaa fun e=>h (J.2 e)]
   apply iW<;>intro g3<;>try simp only[zB]at g3
   ·have z:=z True inferInstance ⟨fun _=>.inl g3,fun _=>trivial⟩;rw[aap trivial]at z;exact⟨wO (by omega),(j+1,fT x y),_,au.refl _ _,⟨z,by omega,by omega⟩,by omega,⟨Z,Z,Z,Z,Z,Z,Z,Z,Z,Z,Z,Y⟩,⟨Z,Z,Y⟩⟩
   apply iW<;>intro g4<;>try simp only[zB]at g4
   ·have z:=z True inferInstance ⟨fun _=>.inr g4,fun _=>trivial⟩;rw[aap trivial]at z;exact⟨wO (by omega),(j+1,fT x y),_,au.refl _ _,⟨z,by omega,by omega⟩,by omega,⟨Z,Z,Z,Z,Z,Z,Z,Z,Z,Z,Z,Y⟩,⟨Z,Z,Y⟩⟩
   have z:=z False inferInstance ⟨fun h=>h.elim,fun h=>by omega⟩;rw[aaa (fun h=>h)]at z;exact⟨wO (by omega),(j+1,f'),_,au.refl _ _,⟨z,by omega,by omega⟩,by omega,⟨Z,Z,Z,Z,Z,Z,Z,Z,Z,Z,Z,Y⟩,⟨Z,Z,Y⟩⟩
  have e:b.length<=j:=by omega
  rw[ab1 e]at D;have D:f'=aez f (b.map (fT x)):=D;subst D;exact⟨wO (by omega),(i+1,aez f (b.map (fT x))),_,au.refl _ _,⟨I,by omega,by omega⟩,by omega,⟨Z,Z,Z,Z,Z,Z,Z,Y⟩,⟨Z,Y⟩⟩
 have e:a.length<=i:=by omega
 rw[ab1 e]at I;have I:f=R:=I;subst I;refine⟨wO (by omega),?_⟩;obtain⟨P,hP⟩:∃P,P=G2 f (false,0,0) (a.flatMap fun x=>b.map (pAt f x)):=⟨_,rfl⟩;have ahG:aeT a b f=P.2:=by rw[hP];rfl
 rw[ahG];refine aJ (fun x:Nat×Bool×Int×Int=>G2 f x.2 ((a.drop x.1).flatMap fun x=>b.map (pAt f x))=P/\PIn 2000000 x.2.2) (fun x=>[(0,.p (aj a)),(1,.p (aj b)),(4,.bx 4 0),(5,.p (i64 f)),(11,.bx 11 0),(12,.p (bool x.2.1)),(50,.p (aj a)),(51,.p (i64 a.length)),(52,.p (i64 x.1))]) (fun x=>[(4,.box [.p (i64 0),.p (i64 0),.p (i64 0),.p (i64 0),.p (i64 0),.p (i64 0),.p (i64 0)]),(11,.box [.p (i64 0),.p (i64 0),.p (i64 (f-1)),.p (i64 x.2.2.1),.p (i64 x.2.2.2),.p (i64 0),.p (i64 0)])]) (fun x=>a.length-x.1) (0,false,0,0) _ (au.refl _ _) ⟨hP.symm,⟨by decide,by decide⟩,⟨by decide,by decide⟩⟩ ⟨rfl,rfl,rfl,rfl,rfl,rfl,rfl,adV (fun m:Nat=>AV.p (i64 m)) lm,Z,Y⟩ ⟨Z,Z,Y⟩ fun ⟨i,st⟩ hx t h=>?_;obtain⟨I,W⟩:=hx;simp only at I W;apply iW<;>intro g<;>try simp only[zB]at g
 ·obtain⟨x,L⟩:=ak (l:=a) (i:=i) (by omega);have px:=ha x (aad L);rw[drop_at L]at I;have I:G2 f (G2 f st (b.map (pAt f x))) ((a.drop (i+1)).flatMap fun x=>b.map (pAt f x))=P:=by rw[<-Reg.afC];exact I
  refine⟨(rc x),(idx rfl L),?_⟩;refine aJ (fun y:Nat×Bool×Int×Int=>G2 f y.2 ((b.drop y.1).map (pAt f x))=G2 f st (b.map (pAt f x))/\PIn 2000000 y.2.2) (fun y=>[(0,.p (aj a)),(1,.p (aj b)),(4,.bx 4 0),(5,.p (i64 f)),(11,.bx 11 0),(12,.p (bool y.2.1)),(50,.p (aj a)),(51,.p (i64 a.length)),(52,.p (i64 i)),(14,.bx 14 0),(56,.p (aj b)),(57,.p (i64 b.length)),(58,.p (i64 y.1))]) (fun y=>[(4,.box [.p (i64 0),.p (i64 0),.p (i64 0),.p (i64 0),.p (i64 0),.p (i64 0),.p (i64 0)]),(11,.box [.p (i64 0),.p (i64 0),.p (i64 (f-1)),.p (i64 y.2.2.1),.p (i64 y.2.2.2),.p (i64 0),.p (i64 0)]),(14,.box [.p (i64 x.x0),.p (i64 x.y0),.p (i64 x.x1),.p (i64 x.y1)])]) (fun y=>b.length-y.1) (0,st) _ (au.refl _ _) ⟨rfl,W⟩ ⟨rfl,rfl,rfl,rfl,rfl,rfl,rfl,rfl,rfl,rfl,rfl,adV (fun m:Nat=>AV.p (i64 m)) lmb,Z,Y⟩ ⟨Z,Z,Z,Y⟩ fun ⟨j,fd,p⟩ hy t h=>?_;obtain⟨D,k2⟩:=hy;simp only at D k2;apply iW<;>intro g2<;>try simp only[zB]at g2
  ·obtain⟨y,N⟩:=ak (l:=b) (i:=j) (by omega);have U:=V y (aad N);rw[drop_at N,aa8,Reg.afi]at D;have fl:=Reg.Nw px U;obtain⟨_,hx',_,E2,e'⟩:=hR4.2.2 (aec (aad L)) (aec (aad N));have fl':=Reg.Nw (ha _ hx') (V _ E2);rw[<-e']at fl';have ni:=Reg.agj fl'.1 px U;refine⟨(rc y),(idx rfl N),_,_,(af0 x y f (up x px) (up y U) (by omega)),_,_,(BM x y (up x px) (up y U)),?_⟩;have keep:¬(fT x y=f/\(fd=false\/aeW (jD x y f) p=true))->G2 f (fd,p) ((b.drop (j+1)).map (pAt f x))=G2 f st (b.map (pAt f x)):=fun J=>by
    rw[<-D];congr 1;exact (aaa J).symm
   have take:fT x y=f/\(fd=false\/aeW (jD x y f) p=true)->G2 f (true,jD x y f) ((b.drop (j+1)).map (pAt f x))=G2 f st (b.map (pAt f x)):=fun J=>by
    rw[<-D];congr 1;exact (aap J).symm
   apply iW<;>intro g3
   ·apply iW<;>intro g4<;>try simp only[zB]at g4
    ·have z:=take ⟨g3,.inl (by simpa using g4)⟩;exact⟨wO (by omega),(j+1,true,jD x y f),_,au.refl _ _,⟨z,ni⟩,by omega,⟨Z,Z,Z,Z,Z,Z,Z,Z,Z,Z,Z,Z,Z,Y⟩,⟨Z,Z,Z,Y⟩⟩
    refine⟨_,_,(af1 (jD x y f) p),iW ?_ ?_⟩<;>intro g5
    ·have z:=take ⟨g3,.inr (by simpa using g5)⟩;exact⟨wO (by omega),(j+1,true,jD x y f),_,au.refl _ _,⟨z,ni⟩,by omega,⟨Z,Z,Z,Z,Z,Z,Z,Z,Z,Z,Z,Z,Z,Y⟩,⟨Z,Z,Z,Y⟩⟩
    have z:=keep fun ⟨_,J⟩=>by rcases J with J | J<;>simp_all
    exact⟨wO (by omega),(j+1,fd,p),_,au.refl _ _,⟨z,k2⟩,by omega,⟨Z,Z,Z,Z,Z,Z,Z,Z,Z,Z,Z,Z,Z,Y⟩,⟨Z,Z,Z,Y⟩⟩
   have z:=keep fun ⟨J,_⟩=>by omega
   exact⟨wO (by omega),(j+1,fd,p),_,au.refl _ _,⟨z,k2⟩,by omega,⟨Z,Z,Z,Z,Z,Z,Z,Z,Z,Z,Z,Z,Z,Y⟩,⟨Z,Z,Z,Y⟩⟩
  have e:b.length<=j:=by omega
  rw[ab1 e]at D;have D:(fd,p)=G2 f st (b.map (pAt f x)):=D;rw[<-D]at I;exact⟨wO (by omega),(i+1,fd,p),_,au.refl _ _,⟨I,k2⟩,by omega,⟨Z,Z,Z,Z,Z,Z,Z,Z,Z,Y⟩,⟨Z,Z,Y⟩⟩
 have e:a.length<=i:=by omega
 rw[ab1 e]at I;have I:st=P:=I;rw[<-I];obtain⟨fd,p⟩:=st;obtain⟨⟨p1,p2⟩,p3,p4⟩:=W;simp only at p1 p2 p3 p4;have W:P4 2000001 (xu p):=⟨⟨by simp only[xu];omega,by simp only[xu];omega⟩,⟨by simp only[xu];omega,by simp only[xu];omega⟩,⟨by simp only[xu];omega,by simp only[xu];omega⟩,⟨by simp only[xu];omega,by simp only[xu];omega⟩⟩;have up1:∀r,P4 2000000 r->P4 2000001 r:=fun r h=>by
  obtain⟨a1,a2,a3,a4⟩:=h;exact⟨by omega,by omega,by omega,by omega⟩
 have up2:∀r,P4 2000001 r->P4 1000000000 r:=fun r h=>by
  obtain⟨a1,a2,a3,a4⟩:=h;exact⟨by omega,by omega,by omega,by omega⟩
 refine⟨⟨by dsimp only;omega,by dsimp only;omega⟩,⟨by dsimp only;omega,by dsimp only;omega⟩,?_⟩;obtain⟨Q,hQ⟩:∃Q,Q=G2 f (false,0,0) (b.map fun y=>pAt f y (xu p)):=⟨_,rfl⟩;have ZP:ahc b p f=Q.2:=by rw[hQ];rfl
 rw[ZP];refine aJ (fun x:Nat×Bool×Int×Int=>G2 f x.2 ((b.drop x.1).map fun y=>pAt f y (xu p))=Q/\PIn 2000001 x.2.2) (fun x=>[(0,.p (aj a)),(1,.p (aj b)),(4,.bx 4 0),(5,.p (i64 f)),(11,.bx 11 0),(18,.bx 18 0),(12,.p (bool x.2.1)),(100,.p (aj b)),(101,.p (i64 b.length)),(102,.p (i64 x.1))]) (fun x=>[(4,.box [.p (i64 0),.p (i64 0),.p (i64 0),.p (i64 0),.p (i64 0),.p (i64 0),.p (i64 0)]),(11,.box [.p (i64 0),.p (i64 0),.p (i64 (f-1)),.p (i64 p.1),.p (i64 p.2),.p (i64 x.2.2.1),.p (i64 x.2.2.2)]),(18,.box [.p (i64 (xu p).x0),.p (i64 (xu p).y0),.p (i64 (xu p).x1),.p (i64 (xu p).y1)])]) (fun x=>b.length-x.1) (0,false,0,0) _ (au.refl _ _) ⟨hQ.symm,⟨by decide,by decide⟩,⟨by decide,by decide⟩⟩ ⟨rfl,rfl,rfl,rfl,rfl,rfl,rfl,rfl,adV (fun m:Nat=>AV.p (i64 m)) lmb,Z,Y⟩ ⟨Z,Z,Z,Y⟩ fun ⟨i,O,p'⟩ hx t h=>?_;obtain⟨D,k2⟩:=hx;simp only at D k2;apply iW<;>intro g<;>try simp only[zB]at g
 ·obtain⟨y,QW⟩:=ak (l:=b) (i:=i) (by omega);have U:=V y (aad QW);rw[drop_at QW,aa8,Reg.afi]at D;refine⟨(rc y),(idx rfl QW),_,_,(af0 y (xu p) f (up y U) (up2 _ W) (by omega)),_,_,(BM y (xu p) (up y U) (up2 _ W)),?_⟩;have keep:¬(fT y (xu p)=f/\(O=false\/aeW (jD y (xu p) f) p'=true))->G2 f (O,p') ((b.drop (i+1)).map fun y=>pAt f y (xu p))=Q:=fun J=>by
   rw[<-D];congr 1;exact (aaa J).symm
  have take:fT y (xu p)=f/\(O=false\/aeW (jD y (xu p) f) p'=true)->G2 f (true,jD y (xu p) f) ((b.drop (i+1)).map fun y=>pAt f y (xu p))=Q:=fun J=>by
   rw[<-D];congr 1;exact (aap J).symm
  have ni:fT y (xu p)=f->PIn 2000001 (jD y (xu p) f):=fun e=>Reg.agj (e▸(Reg.Nw (up1 y U) W).1) (up1 y U) W;apply iW<;>intro g3
  ·apply iW<;>intro g4<;>try simp only[zB]at g4
   ·have z:=take ⟨g3,.inl (by simpa using g4)⟩;exact⟨wO (by omega),(i+1,true,jD y (xu p) f),_,au.refl _ _,⟨z,ni g3⟩,by omega,⟨Z,Z,Z,Z,Z,Z,Z,Z,Z,Z,Y⟩,⟨Z,Z,Z,Y⟩⟩
   refine⟨_,_,(af1 (jD y (xu p) f) p'),iW ?_ ?_⟩<;>intro g5
   ·have z:=take ⟨g3,.inr (by simpa using g5)⟩;exact⟨wO (by omega),(i+1,true,jD y (xu p) f),_,au.refl _ _,⟨z,ni g3⟩,by omega,⟨Z,Z,Z,Z,Z,Z,Z,Z,Z,Z,Y⟩,⟨Z,Z,Z,Y⟩⟩
   have z:=keep fun ⟨_,J⟩=>by rcases J with J | J<;>simp_all
   exact⟨wO (by omega),(i+1,O,p'),_,au.refl _ _,⟨z,k2⟩,by omega,⟨Z,Z,Z,Z,Z,Z,Z,Z,Z,Z,Y⟩,⟨Z,Z,Z,Y⟩⟩
  have z:=keep fun ⟨J,_⟩=>by omega
  exact⟨wO (by omega),(i+1,O,p'),_,au.refl _ _,⟨z,k2⟩,by omega,⟨Z,Z,Z,Z,Z,Z,Z,Z,Z,Z,Y⟩,⟨Z,Z,Z,Y⟩⟩
 have e:b.length<=i:=by omega
 rw[ab1 e]at D;have D:(O,p')=Q:=D;subst D;refine⟨?_,trivial⟩;rfl
open Reg (aU an bw bE cv IV bN bK told dJ a_ coreS E1 Canon Full RK at')
theorem Fg{s:List an}(h:bE s)(hb:cv 1450000 s):(told s).length<=4398046511104:=by
 have h1:=Reg.cc h (by omega) hb;have h2:=Reg.uj (M:=1450000) (s:=s) fun t z=>by have:=Reg.kT h (by omega) hb t z;omega
 have h3:s.length*1450000<=2900000*1450000:=abf _ (by omega);omega
theorem AP(s:List an)(D:bE s)(ks:cv 1450000 s)(l r d u:Int)(hl:0<=l/\l<=100000)(hr:0<=r/\r<=100000)(hd:0<=d/\d<=100000)(hu:0<=u/\u<=100000):af C 80 [.pv (aw s),.pv (i64 l),.pv (i64 r),.pv (i64 d),.pv (i64 u)] (.p (aw (a_ s l r d u))) []:=by
 refine fW hC Tryz.func80 rfl (by kernel_rfl) fun _=>?_;have ls:=Reg.cc D (by omega) ks;have O:=Reg.kT D (by omega) ks;have lt:=Fg D ks;have I:=Reg.bP D;have J:=Reg.fR D ks;refine⟨_,_,(ae6 s (by omega) (fun t R=>by have:=O t R;omega) lt),?_⟩;have U:=kG ((told s).map (dJ l r d u)) 1550000 (by omega) (by omega) (fun q z=>by
  obtain⟨p,hp,rfl⟩:=adS.1 z;have:=I p hp;unfold Full at this;exact⟨by show p.x0-l<p.x1+r;omega,by show p.y0-d<p.y1+u;omega⟩) (fun q z=>by
  obtain⟨p,hp,rfl⟩:=adS.1 z;have:=J p hp;unfold RK at this;exact⟨by show -1550000<=p.x0-l;omega,by show -1550000<=p.y0-d;omega,by show p.x1+r<=1550000;omega,by show p.y1+u<=1550000;omega⟩) (by rw[aej];exact lt)
 rw[show a_ s l r d u=Reg.aB ((told s).map (dJ l r d u)) from rfl];generalize told s=L at *;have V:=fun i=>ai (lQ l r d u L i) rc;have W:=IZ l r d u L;have m0:lQ l r d u L 0=L:=by simp[lQ]
 refine aJ (fun i:Nat=>i<=L.length) (fun i=>[(1,.p (i64 l)),(2,.p (i64 r)),(3,.p (i64 d)),(4,.p (i64 u)),(11,.ow 11),(16,.ow 11),(17,.p (i64 (L.map rc).length)),(18,.p (i64 i))]) (fun i=>[(11,.row 87 ((lQ l r d u L i).map rc))]) (fun i=>L.length-i) 0 _ (au.refl _ _) (aaj _) ⟨Z,Z,Z,Z,Z,Z,Z,Z,Y⟩ ⟨by rw[m0];rfl,trivial⟩ fun i hi t h=>?_;have lmi:=V i;have mli:=W i;have lm0:=ai L rc;apply iW<;>intro g1
 ·obtain⟨q,z⟩:=ak (l:=L) (i:=i) (by omega);have a:=J q (aad z);have b:=I q (aad z);unfold RK at a;unfold Full at b;have N:=IY (l:=l) (r:=r) (d:=d) (u:=u) z;have mT:=I0 (l:=l) (r:=r) (d:=d) (u:=u) z;refine⟨wO (by omega),(rc q),(idx rfl N).2,wO (by omega),wO (by omega),wO (by omega),wO (by omega),wO (by omega),(rc q),(idx rfl N).2,wO (by omega),?_⟩;have e5:∀k:Nat,k=i->AB.row 87 (((lQ l r d u L i).map rc).set k (rc (dJ l r d u q)))=AB.row 87 ((lQ l r d u L (i+1)).map rc):=by
   intro k e;subst e;rw[<-ad8,mT]
  exact⟨(i+1),_,au.refl _ _,by omega,by omega,⟨Z,Z,Z,Z,Z,Z,Z,Z,Y⟩,⟨e5 _ rfl,trivial⟩⟩
 have e:lQ l r d u L i=L.map (dJ l r d u):=by
  rw[lQ,adW (by omega),ab1 (by omega),acw]
 rw[e];refine⟨_,_,U,?_,trivial⟩;rfl
theorem Fh(s:List an)(z:bE s)(ks:cv 1000000 s)(l r d u:Int)(hl:0<=l/\l<=100000)(I:0<=r/\r<=100000)(J:0<=d/\d<=100000)(L:0<=u/\u<=100000):af C 79 [.pv (aw s),.pv (i64 l),.pv (i64 r),.pv (i64 d),.pv (i64 u)] (.p (aw (coreS s l r d u))) []:=by
 refine fW hC Tryz.func79 rfl (by kernel_rfl) fun _=>?_;have R:=ai s hb;apply iW<;>intro N
 ·rw[R]at N;have e:s=[]:=adl (by omega);refine⟨?_,trivial⟩;rw[coreS,aap e];rfl
 rw[R]at N;have O:s≠[]:=fun e=>N (by rw[e];rfl);rw[coreS,aaa O];obtain⟨U,a2,a3⟩:=Reg.ui z O;have V:=a3 _ ks;have aN:∀q∈[dJ (l+r+d+u+1) (l+r+d+u+1) (l+r+d+u+1) (l+r+d+u+1) (bK s)],Full q:=fun q D=>by
  rw[ab_]at D;subst D;unfold Full at U;exact⟨by show (bK s).x0-(l+r+d+u+1)<(bK s).x1+(l+r+d+u+1);omega,by show (bK s).y0-(l+r+d+u+1)<(bK s).y1+(l+r+d+u+1);omega⟩
 have W:∀q∈[dJ (l+r+d+u+1) (l+r+d+u+1) (l+r+d+u+1) (l+r+d+u+1) (bK s)],RK 1400001 q:=fun q D=>by
  rw[ab_]at D;subst D;unfold RK at V;exact⟨by show -1400001<=(bK s).x0-(l+r+d+u+1);omega,by show -1400001<=(bK s).y0-(l+r+d+u+1);omega,by show (bK s).x1+(l+r+d+u+1)<=1400001;omega,by show (bK s).y1+(l+r+d+u+1)<=1400001;omega⟩
 obtain⟨Y,b2,b3⟩:=Reg.aR aN;have Z:=b3 _ W;obtain⟨c1,c2,c3⟩:=Reg.b6 Y z;have c4:=c3 1400001 Z (ks.up (by omega));obtain⟨d1,d2,d3⟩:=Reg.bW c1 I.1 hl.1 L.1 J.1;have d4:=(d3 1400001 100000 c4 I.2 hl.2 L.2 J.2).up (B:=2000000) (by omega);have so:=kG _ 1400001 (by omega) (by omega) aN W (by simp);have q1:=iJ _ s Y z (Z.up (by omega)) (ks.up (by omega));have q2:=AP _ c1 (c4.up (by omega)) r l u d I hl L J;have q3:=iJ s _ z d1 (ks.up (by omega)) d4;unfold RK at V;unfold Full at U;refine⟨_,_,(uk s z (ks.up (by omega)) O),wO (by omega),wO (by omega),wO (by omega),wO (by omega),wO (by omega),wO (by omega),wO (by omega),wO (by omega),_,_,so,_,_,q1,_,_,q2,_,_,q3,?_,trivial⟩;rfl
theorem zt(s:List an)(I:bE s)(ks:cv 1000000 s)(n:Int)(z:0<=n)(D:n<=100000):af C 133 [.pv (aw s),.pv (i64 n)] (.p (aw (coreS s n n n n))) []:=by
 refine fW hC Tryz.func133 rfl (by kernel_rfl) fun _=>?_;refine⟨_,_,(Fh s I ks n n n n ⟨z,D⟩ ⟨z,D⟩ ⟨z,D⟩ ⟨z,D⟩),?_,trivial⟩;rfl
end M
namespace Reg
end Reg
namespace M
open Go.AM Go.RowKit Go.Lib
open Reg (ae P4 Zu afd)
def rr(r:List ae):List PV:=[aj r]
end M
namespace Reg
def bg:ae:=⟨0,0,0,0⟩
def kK(a b:ae):Bool:=decide (a.x0<b.x1)&&decide (b.x0<a.x1)
def ov(all:List ae)(f e:Nat):Nat->List Int->Nat->Nat->List Int
 | 0,u,_,_=>u
 | n+1,u,i,j=>if i<f/\j<e then
   ov all f e n (if kK (all.getD i bg) (all.getD j bg)=true then gj u i j else u)
    (if (all.getD i bg).x1<(all.getD j bg).x1 then i+1 else i)
    (if (all.getD i bg).x1<(all.getD j bg).x1 then j else j+1)
  else u
def meets(p:Option an)(b:an):Bool:=match p with
 | some q=>decide (q.y1=b.y0)
 | none=>false
def pW(all:List ae):Option an->List an->List Int->Nat->Nat->List Int
 | _,[],u,_,_=>u
 | p,b::s,u,f,g=>pW all (some b) s (if meets p b=true then ov all f (f+b.xs.length) (f-g+b.xs.length) u g f else u) (f+b.xs.length) f
def jE(s:List an):List Int:=pW (told s) none s (iota (told s).length) 0 0
theorem xP(all:List ae)(f e:Nat):∀(n:Nat) (u:List Int) (i j:Nat),UF u->f<=u.length->e<=u.length->UF (ov all f e n u i j)/\(ov all f e n u i j).length=u.length
 | 0,u,i,j,h,_,_=>⟨h,rfl⟩
 | n+1,u,i,j,h,hf,he=>by
  rw[ov];by_cases c:i<f/\j<e
  ·rw[aap c];by_cases o:kK (all.getD i bg) (all.getD j bg)=true
   ·rw[aap o];obtain⟨a,b⟩:=mC h (i:=i) (k:=j) (by omega) (by omega);obtain⟨z,D⟩:=xP all f e n _ (if (all.getD i bg).x1<(all.getD j bg).x1 then i+1 else i) (if (all.getD i bg).x1<(all.getD j bg).x1 then j else j+1) a (by omega) (by omega);exact⟨z,D.trans b⟩
   rw[aaa o];exact xP all f e n u _ _ h hf he
  rw[aaa c];exact⟨h,rfl⟩
theorem zu(all:List ae):∀(s:List an) (p:Option an) (u:List Int) (f g:Nat),UF u->f+(told s).length<=u.length->UF (pW all p s u f g)/\(pW all p s u f g).length=u.length
 | [],p,u,f,g,h,_=>⟨h,rfl⟩
 | b::s,p,u,f,g,h,hl=>by
  have e:(told (b::s)).length=b.xs.length+(told s).length:=by simp[told]
  rw[e]at hl;rw[pW];by_cases c:meets p b=true
  ·rw[aap c];obtain⟨D,z⟩:=xP all f (f+b.xs.length) (f-g+b.xs.length) u g f h (by omega) (by omega);obtain⟨I,J⟩:=zu all s (some b) _ (f+b.xs.length) f D (by rw[z];omega);exact⟨I,J.trans z⟩
  rw[aaa c];exact zu all s (some b) u (f+b.xs.length) f h (by omega)
theorem zv(s:List an):UF (jE s)/\(jE s).length=(told s).length:=by
 have:=zu (told s) s none (iota (told s).length) 0 0 (ny _) (by rw[aeM];omega);rw[aeM]at this;exact this
def ox(s:List an):List (List ae):=(aP (cQ (jE s)) (told s).length).map fun l=>l.map fun m=>(told s).getD m bg
def cV(s:List an):List (List an):=(ox s).map aB
end Reg
namespace M
open Go.AM Go.RowKit Go.Lib
open Reg (UF eh Nt cw fU iota ae)
theorem vI(u:List Int)(O:UF u)(i:Nat)(hi:i<u.length):af C 242 [.pv (i64 i),.aN [.row 3 (aA u)]] (.p (i64 (cw i u i).2)) [.aN [.row 3 (aA (cw i u i).1)]]:=by
 refine UP ⟨[],[],[],[],[],[]⟩ hC Tryz.func242 rfl (by kernel_rfl) fun _=>⟨_,au.open hC _ 100001 [90000] (by exact rfl) rfl rfl rfl,?_⟩;obtain⟨R,J⟩:∃R,R=cw i u i:=⟨_,rfl⟩;rw[<-J];refine aJ (fun x:Nat×List Int×Nat=>cw x.1 x.2.1 x.2.2=R/\UF x.2.1/\x.2.2<x.2.1.length/\x.2.2<=x.1) (fun x=>[(1,.bx 100001 0),(0,.p (i64 x.2.2))]) (fun x=>[(100001,.box [.ow 90000]),(90000,.row 3 (aA x.2.1))]) (fun x=>x.2.2) (i,u,i) _ (au.refl _ _) ⟨J.symm,O,hi,aam _⟩ ⟨Z,Z,Y⟩ ⟨Z,Z,Y⟩ fun ⟨n,v,k⟩ U t h=>?_;obtain⟨z,I,L,N⟩:=U;simp only at z I L N;obtain⟨j,l,D,hl,q1,q2,V,W⟩:=BJ I L N;have lv:=bQ v;refine⟨⟨by omega,by (try dsimp only);rw[lv];omega⟩,[i64 j],(cM D),iW ?_ ?_⟩<;>intro g<;>try simp only[zB]at g
 ·have b8:j≠k:=by omega
  obtain⟨m,rfl,q5⟩:=W b8;refine⟨⟨by omega,by (try dsimp only);rw[lv];omega⟩,[i64 j],(cM D),⟨by omega,by (try dsimp only);rw[lv];omega⟩,[i64 l],(cM hl),⟨by omega,by (try dsimp only);rw[lv];omega⟩,[i64 j],(cM D),⟨by omega,by (try dsimp only);rw[List.length_set,lv];omega⟩,[i64 l],(by rw[List.getElem?_set_self (by (try dsimp only);rw[lv];omega)];rfl),?_⟩;exact⟨(m,v.set k (l:Int),l),_,au.refl _ _,⟨by rw[<-q5];exact z,(Reg.Ns I D hl).1,by simp only[List.length_set];omega,by dsimp only;omega⟩,by simp only;omega,⟨Z,Z,Y⟩,⟨rfl,congrArg (AB.row _) (fV v k l),trivial⟩⟩
 have e:j=k:=by omega
 have z:=(V e).symm.trans z;subst z;exact And.intro rfl (And.intro ⟨Z,Z,Y⟩ trivial)
def vJ(e:TypeId)(f:Nat->List PV)(l:List Nat):List HX:=[.row e (l.map f)]
def SJ(f:Nat->List PV)(l:List Nat):List PV:=[.sl (l.map f)]
theorem zw(e:TypeId)(f:Nat->List PV)(D:List (List Nat)):xH (D.map (vJ e f)):=fun r I x z=>by
 obtain⟨l,_,rfl⟩:=adS.1 I;simp only[vJ,adq,adI,or_false]at z;subst z;trivial
theorem xQ(e:TypeId)(g:Nat->List PV)(f:AV->AV)(z:List (List Nat)):(z.map (vJ e g)).map (fun r=>r.map (HX.cS f))=z.map (vJ e g):=by
 rw[ad6];rfl
theorem afo(e:TypeId)(f:Nat->List PV)(l:List Nat)(y:HX):(vJ e f l).set 0 y=[y]:=rfl
theorem iC(e:TypeId)(g:Nat->List PV)(f:AV->AV)(z:List (List Nat))(k d:Nat)(h:f (.ow d)=.ow d):((z.map (vJ e g)).set k [.av (.ow d)]).map (fun r=>r.map (HX.cS f))=(z.map (vJ e g)).set k [.av (.ow d)]:=by
 rw[ad8,xQ];simp only[aa8,ac0,HX.cS,h]
theorem PL(e:TypeId)(g:Nat->List PV)(f:AV->AV)(z:List (List Nat))(x:List (List HX)):(z.map (vJ e g)++x).map (fun r=>r.map (HX.cS f))=z.map (vJ e g)++x.map (fun r=>r.map (HX.cS f)):=by
 rw[abE,xQ]
theorem rB(e:TypeId)(g:Nat->List PV)(z:List (List Nat))(k d:Nat)(hk:k<z.length):((z.map (vJ e g)).set k [.av (.ow d)])[k]?=some [.av (.ow d)]:=ab7 (by rw[aej];exact hk)
theorem SK(e:TypeId)(f:Nat->List PV)(D:List (List Nat)):Oi (D.map (vJ e f)) (D.map (SJ f)):=Oi.map fun l _=>⟨rfl,fun j u v z I=>by
 match j with
 | 0=>
  simp only[vJ,SJ,aa9,Option.some.injEq]at z I;subst z;subst I;exact .row _ _
 | j+1=>simp[vJ]at z⟩
open Reg (gj bg kK ov meets pW jE ox cV bE cv an told aB bw)
theorem getD_at{l:List ae}{i:Nat}{r:ae}(h:l[i]?=some r):l.getD i bg=r:=by rw[ad4,h];rfl
def qK(s:List an)(k:Nat):Option an:=if k=0 then none else s[k-1]?
theorem prev_next{s:List an}{k:Nat}{b:an}(h:s[k]?=some b):qK s (k+1)=some b:=by rw[qK,aaa (by omega)];exact h
theorem KL(b:an)(s:List an):(told (b::s)).length=b.xs.length+(told s).length:=by simp[told]
theorem KM(l:Reg.aU):((((flat l).map fun n=>[i64 n]).length:Nat):Int).tdiv 2=(l.length:Nat):=by
 rw[aej,eY,abk (by omega)];omega
theorem Fi(s:List an)(hs:bE s)(ks:cv 1400000 s)(hN:(told s).length<=1000000000):af C 177 [.pv (aw s)] (.own 59 ((cV s).map fun p=>[aw p])) []:=by
 have ls:=Reg.cc hs (by omega) ks;have lx:=Reg.kT hs (by omega) ks;have lt:=Reg.fj hs ks;have ms:=ai s hb;obtain⟨N,Vo⟩:∃N,N=(told s).length:=⟨_,rfl⟩;have la:=ai (told s) rc;refine uX ⟨[19,36],[],[(36,[17,1000017,19,1000019,136])],[36],[],[]⟩ hC Tryz.func177 rfl (by kernel_rfl) fun _=>?_;refine⟨_,_,(ae6 s (by omega) (fun t ht=>by have:=lx t ht;omega) lt),⟨by omega,by omega,by dsimp only;omega,by omega⟩,?_⟩;refine aJ (fun i:Nat=>i<=N) (fun i=>[(0,.p (aw s)),(3,.p (aj (told s))),(4,.bx 4 0),(32,.p (i64 N)),(33,.p (i64 i))]) (fun i=>[(4,.box [.ow 30]),(30,.row 3 (aA (sR N i)))]) (fun i=>N-i) 0 _ (au.own (by exact hC) _ 3 (id:=3) (by exact rfl) (by exact rfl)) (aaj _) ⟨rfl,rfl,rfl,adV (fun m:Nat=>AV.p (i64 m)) (by rw[Vo];simp),Z,Y⟩ ⟨rfl,by rw[BK,Vo,<-la];rfl,trivial⟩ fun i hi t h=>?_;have lv:=bQ (sR N i);have lu:=zp N i;apply iW<;>intro h1
 ·exact⟨⟨by omega,by rw[lv];omega⟩,[i64 0],(cM (Fc (by omega))),wO (by omega),(i+1),_,au.refl _ _,by omega,by omega,⟨Z,Z,Z,Z,Z,Y⟩,⟨rfl,adV (AB.row _) ((fV _ _ _).trans (by rw[ad2,Ff (by omega)])),trivial⟩⟩
 have e:i=N:=by omega
 subst e;rw[Fe];obtain⟨U,hU⟩:∃U,U=jE s:=⟨_,rfl⟩;obtain⟨all,aeL⟩:∃all,all=told s:=⟨_,rfl⟩;have hU':pW all none s (iota i) 0 0=U:=by rw[hU,Vo,aeL];rfl
 have Zv:all.length=i:=by rw[Vo,aeL]
 rw[<-aeL]at la ⊢;refine aJ (fun x:Nat×List Int×Nat×Nat=>pW all (qK s x.1) (s.drop x.1) x.2.1 x.2.2.1 x.2.2.2=U/\UF x.2.1/\x.2.1.length=i/\x.2.2.1+(told (s.drop x.1)).length=i/\x.2.2.2<=x.2.2.1/\x.1<=s.length) (fun x=>[(0,.p (aw s)),(3,.p (aj all)),(4,.bx 4 0),(6,.fn 242 [.bx 4 0]),(7,.p (i64 x.2.2.1)),(8,.p (i64 x.2.2.2)),(42,.p (aw s)),(43,.p (i64 s.length)),(44,.p (i64 x.1))]) (fun x=>[(4,.aN [.row 3 (aA x.2.1)])]) (fun x=>s.length-x.1) (0,iota i,0,0) _ (au.pack (by exact hC) _ 4 (cs:=[.row 3 (aA (iota i))]) (by exact rfl) (by exact rfl) (by exact⟨Z,Y⟩)) ⟨hU',Reg.ny _,Reg.aeM _,by simp only[List.drop_zero,abC];rw[Vo],aam _,aaj _⟩ ⟨rfl,rfl,rfl,rfl,rfl,rfl,rfl,adV (fun m:Nat=>AV.p (i64 m)) ms,Z,Y⟩ ⟨Z,Y⟩ fun ⟨k,u,f,g⟩ W t h=>?_;obtain⟨L,c2,c3,c4,c5,c6⟩:=W;simp only at L c2 c3 c4 c5 c6;apply iW<;>intro g1<;>try simp only[zB]at g1
 ·obtain⟨b,BD⟩:=ak (l:=s) (i:=k) (by omega);rw[drop_at BD]at L c4;rw[KL]at c4;rw[pW,<-prev_next BD]at L;have hf:=KM b.xs;have lf:((flat b.xs).map fun n=>[i64 n]).length=2*b.xs.length:=by rw[aej,eY]
  refine⟨(hb b),(idx rfl BD),by decide,⟨by rw[hf];omega,by rw[hf];omega⟩,?_⟩;have skip:Reg.meets (qK s k) b=false->pW all (qK s (k+1)) (s.drop (k+1)) u (f+b.xs.length) f=U:=fun hm=>by
   rw[hm]at L;exact L
  apply iW<;>intro g2<;>try simp only[zB]at g2
  ·obtain⟨q,hq⟩:=ak (l:=s) (i:=k-1) (by omega);have hpv:qK s k=some q:=by rw[qK,aaa (by omega)];exact hq
   refine⟨wO (by omega),(hb q),(idx (show (k:Int)-1=((k-1:Nat):Int) by omega) hq),iW ?_ ?_⟩<;>intro g3
   ·have hm:Reg.meets (qK s k) b=true:=by rw[hpv];simpa [Reg.meets] using g3
    rw[hm,aap rfl]at L;refine aJ (fun y:Nat×List Int×Nat×Nat=>ov all f (f+b.xs.length) y.1 y.2.1 y.2.2.1 y.2.2.2=ov all f (f+b.xs.length) (f-g+b.xs.length) u g f/\UF y.2.1/\y.2.1.length=i/\(f-y.2.2.1)+(f+b.xs.length-y.2.2.2)<=y.1/\y.2.2.1<=f/\y.2.2.2<=f+b.xs.length) (fun y=>[(0,.p (aw s)),(3,.p (aj all)),(4,.bx 4 0),(6,.fn 242 [.bx 4 0]),(7,.p (i64 f)),(8,.p (i64 g)),(42,.p (aw s)),(43,.p (i64 s.length)),(44,.p (i64 k)),(11,.p (i64 b.xs.length)),(12,.p (i64 y.2.2.1)),(13,.p (i64 y.2.2.2))]) (fun y=>[(4,.aN [.row 3 (aA y.2.1)])]) (fun y=>(f-y.2.2.1)+(f+b.xs.length-y.2.2.2)) (f-g+b.xs.length,u,g,f) _ (au.refl _ _) ⟨rfl,c2,c3,by simp only;omega,by simp only;omega,by simp only;omega⟩ ⟨rfl,rfl,rfl,rfl,rfl,rfl,rfl,rfl,rfl,by rw[<-hf];rfl,Z,Z,Y⟩ ⟨Z,Y⟩ fun ⟨n,v,p,D⟩ hy t h=>?_;obtain⟨z1,z2,z3,z4,z5,z6⟩:=hy;simp only at z1 z2 z3 z4 z5 z6;have stop:¬(p<f/\D < f+b.xs.length)->v=ov all f (f+b.xs.length) (f-g+b.xs.length) u g f:=fun O=>by
     rw[<-z1];cases n with
     | zero=>rfl
     | succ n=>rw[ov,aaa O]
    apply iW<;>intro e1<;>try simp only[zB]at e1
    ·refine⟨wO (by omega),iW ?_ ?_⟩<;>intro e2<;>try simp only[zB]at e2
     ·obtain⟨n,rfl⟩:∃n',n=n'+1:=⟨n-1,by omega⟩;rw[ov,aap (by omega)]at z1;obtain⟨x,W⟩:=ak (l:=all) (i:=p) (by omega);obtain⟨y,hy⟩:=ak (l:=all) (i:=D) (by omega);rw[getD_at W,getD_at hy]at z1;have Ln:∀(w:List Int),(if kK x y=true then gj v p D else v)=w->(x.x1<y.x1->ov all f (f+b.xs.length) n w (p+1) D=ov all f (f+b.xs.length) (f-g+b.xs.length) u g f)/\(¬x.x1<y.x1->ov all f (f+b.xs.length) n w p (D+1)=ov all f (f+b.xs.length) (f-g+b.xs.length) u g f):=fun w hw=>by
       rw[hw]at z1;exact⟨fun O=>by rw[aap O,aap O]at z1;exact z1,fun O=>by rw[aaa O,aaa O]at z1;exact z1⟩
      refine⟨(rc x),(idx rfl W),(rc y),(idx rfl hy),iW ?_ ?_⟩<;>intro e3
      ·refine⟨(rc y),(idx rfl hy),(rc x),(idx rfl W),iW ?_ ?_⟩<;>intro e4
       ·have Ln:=Ln _ (aap (by simp only[kK,aaZ,aaH];exact⟨e3,e4⟩));have a:=Reg.fU p v p z2 (by omega) (aam _);have b':=Reg.fU D (cw p v p).1 D a.uf (by rw[a.len];omega) (aam _);have ra:=(aao.1 ((b'.same _ _).2 ((a.same _ _).2 a.root)).top).1;have rb:=(aao.1 ((b'.same _ _).2 b'.root).top).1;have E9:((max ((cw p v p).2:Int) ((cw D (cw p v p).1 D).2:Int))).toNat=max (cw p v p).2 (cw D (cw p v p).1 D).2:=by omega
        have lv:=bQ (cw D (cw p v p).1 D).1;obtain⟨ju,jl⟩:=Reg.mC z2 (i:=p) (k:=D) (by omega) (by omega);refine⟨_,_,(vI v z2 p (by omega)),_,_,(vI (cw p v p).1 a.uf D (by rw[a.len];omega)),?_⟩;refine qy (au.open (by exact hC) _ 4 [30] (by exact rfl) rfl rfl rfl) ?_;obtain⟨z,hz⟩:∃z,(cw D (cw p v p).1 D).1[max (cw p v p).2 (cw D (cw p v p).1 D).2]?=some z:=⟨_,acg (by omega)⟩;refine⟨⟨by omega,by rw[lv];omega⟩,[i64 z],(by rw[E9];exact cM hz),?_⟩;have mT:∀(m:Nat) (c:Int),m=max (cw p v p).2 (cw D (cw p v p).1 D).2->c=min ((cw p v p).2:Int) ((cw D (cw p v p).1 D).2:Int)->AB.row 3 ((aA (cw D (cw p v p).1 D).1).set m [i64 c])=AB.row 3 (aA (gj v p D)):=fun m c e1 e2=>by
         subst e1;subst e2;rw[fV,gj];congr 3;omega
        refine⟨(rc x),(idx rfl W),(rc y),(idx rfl hy),iW ?_ ?_⟩<;>intro e5
        ·have R:=Ln.1 e5;exact⟨⟨by dsimp only;omega,by dsimp only;omega⟩,(n,gj v p D,p+1,D),_,au.pack (by exact hC) _ 4 (cs:=[.row 3 (aA (gj v p D))]) (by exact rfl) (by exact rfl) (by exact⟨mT _ _ E9 rfl,trivial⟩),⟨R,ju,jl.trans z3,by simp only;omega,by simp only;omega,by simp only;omega⟩,by simp only;omega,⟨Z,Z,Z,Z,Z,Z,Z,Z,Z,Z,Z,Z,Y⟩,⟨Z,Y⟩⟩
        have R:=Ln.2 e5;exact⟨⟨by dsimp only;omega,by dsimp only;omega⟩,(n,gj v p D,p,D+1),_,au.pack (by exact hC) _ 4 (cs:=[.row 3 (aA (gj v p D))]) (by exact rfl) (by exact rfl) (by exact⟨mT _ _ E9 rfl,trivial⟩),⟨R,ju,jl.trans z3,by simp only;omega,by simp only;omega,by simp only;omega⟩,by simp only;omega,⟨Z,Z,Z,Z,Z,Z,Z,Z,Z,Z,Z,Z,Y⟩,⟨Z,Y⟩⟩
       have Ln:=Ln _ (aaa (by simp only[kK,aaZ,aaH];exact fun O=>e4 O.2));refine⟨(rc x),(idx rfl W),(rc y),(idx rfl hy),iW ?_ ?_⟩<;>intro e5
       ·have R:=Ln.1 e5;exact⟨⟨by dsimp only;omega,by dsimp only;omega⟩,(n,v,p+1,D),_,au.refl _ _,⟨R,z2,z3,by simp only;omega,by simp only;omega,by simp only;omega⟩,by simp only;omega,⟨Z,Z,Z,Z,Z,Z,Z,Z,Z,Z,Z,Z,Y⟩,⟨Z,Y⟩⟩
       have R:=Ln.2 e5;exact⟨⟨by dsimp only;omega,by dsimp only;omega⟩,(n,v,p,D+1),_,au.refl _ _,⟨R,z2,z3,by simp only;omega,by simp only;omega,by simp only;omega⟩,by simp only;omega,⟨Z,Z,Z,Z,Z,Z,Z,Z,Z,Z,Z,Z,Y⟩,⟨Z,Y⟩⟩
      have Ln:=Ln _ (aaa (by simp only[kK,aaZ,aaH];exact fun O=>e3 O.1));refine⟨(rc x),(idx rfl W),(rc y),(idx rfl hy),iW ?_ ?_⟩<;>intro e5
      ·have R:=Ln.1 e5;exact⟨⟨by dsimp only;omega,by dsimp only;omega⟩,(n,v,p+1,D),_,au.refl _ _,⟨R,z2,z3,by simp only;omega,by simp only;omega,by simp only;omega⟩,by simp only;omega,⟨Z,Z,Z,Z,Z,Z,Z,Z,Z,Z,Z,Z,Y⟩,⟨Z,Y⟩⟩
      have R:=Ln.2 e5;exact⟨⟨by dsimp only;omega,by dsimp only;omega⟩,(n,v,p,D+1),_,au.refl _ _,⟨R,z2,z3,by simp only;omega,by simp only;omega,by simp only;omega⟩,by simp only;omega,⟨Z,Z,Z,Z,Z,Z,Z,Z,Z,Z,Z,Z,Y⟩,⟨Z,Y⟩⟩
     have st:=stop (by omega);exact⟨wO (by omega),wO (by omega),(k+1,v,f+b.xs.length,f),_,au.refl _ _,⟨by rw[st];exact L,z2,z3,by simp only;omega,by simp only;omega,by simp only;omega⟩,by omega,⟨Z,Z,Z,Z,Z,Z,Z,Z,Z,Y⟩,⟨Z,Y⟩⟩
    have st:=stop (by omega);exact⟨wO (by omega),wO (by omega),(k+1,v,f+b.xs.length,f),_,au.refl _ _,⟨by rw[st];exact L,z2,z3,by simp only;omega,by simp only;omega,by simp only;omega⟩,by omega,⟨Z,Z,Z,Z,Z,Z,Z,Z,Z,Y⟩,⟨Z,Y⟩⟩
   have hm:Reg.meets (qK s k) b=false:=by rw[hpv];simpa [Reg.meets] using g3
   have L:=skip hm;exact⟨⟨by rw[hf];dsimp only;omega,by rw[hf];dsimp only;omega⟩,wO (by omega),(k+1,u,f+b.xs.length,f),_,au.refl _ _,⟨L,c2,c3,by simp only;omega,by simp only;omega,by simp only;omega⟩,by omega,⟨rfl,rfl,rfl,rfl,by rw[hf];rfl,Z,Z,Z,Z,Y⟩,⟨Z,Y⟩⟩
  have hm:Reg.meets (qK s k) b=false:=by rw[qK,aap (by omega)];rfl
  have L:=skip hm;exact⟨⟨by rw[hf];dsimp only;omega,by rw[hf];dsimp only;omega⟩,wO (by omega),(k+1,u,f+b.xs.length,f),_,au.refl _ _,⟨L,c2,c3,by simp only;omega,by simp only;omega,by simp only;omega⟩,by omega,⟨rfl,rfl,rfl,rfl,by rw[hf];rfl,Z,Z,Z,Z,Y⟩,⟨Z,Y⟩⟩
 have e:s.length<=k:=by omega
 rw[ab1 e]at L c4;have L:u=U:=L;subst L;have SL:cV s=((Reg.aP (Reg.cQ u) i).map fun l=>l.map fun m=>all.getD m bg).map Reg.aB:=by rw[cV,ox,<-hU,<-aeL,Zv]
 rw[SL];obtain⟨p,hp⟩:∃p,p=Reg.cQ u:=⟨_,rfl⟩;have hT:Reg.Dg p i:=by rw[hp,<-c3];exact Reg.rz c2
 rw[<-hp];obtain⟨J,Zw⟩:∃J,J=fun m=>rc (all.getD m bg):=⟨_,rfl⟩;refine aJ (fun x:Nat×List (Value×PV)=>x.1<=i/\(∀(k r:Nat),(Reg.cd p x.1)[k]?=some r->kz x.2 (.int .i64 r)=some (i64 k))/\∀r:Nat,¬r∈Reg.cd p x.1->kz x.2 (.int .i64 r)=none) (fun x=>[(3,.p (aj all)),(4,.bx 4 0),(6,.fn 242 [.bx 4 0]),(16,.ow 136),(17,.ow 17),(137,.p (aj all)),(138,.p (i64 i)),(139,.p (i64 x.1))]) (fun x=>[(4,.aN [.row 3 (aA (ou u x.1))]),(17,.az 22 ((Reg.aP p x.1).map (vJ 87 J))),(136,.map (.int .i64) x.2)]) (fun x=>i-x.1) (0,[]) _ ((au.dk (by exact hC) _ 17 22 _ (by decide) (by exact rfl) (by exact rfl) (by decide)).trans (au.Wg (by exact hC) _ 17 (e:=22) (es:=[]) (by exact rfl))) ⟨aaj _,fun k r h=>by simp[Reg.cd]at h,fun r _=>rfl⟩ ⟨rfl,rfl,rfl,rfl,rfl,rfl,adV (fun m:Nat=>AV.p (i64 m)) (la.trans Zv),Z,Y⟩ ⟨Z,Z,Z,Y⟩ fun ⟨m,es⟩ W t h=>?_;obtain⟨h1,h2,h3⟩:=W;simp only at h1 h2 h3;obtain⟨vu,vl,vr⟩:=zq c2 m (by omega);apply iW<;>intro g1<;>try simp only[zB]at g1
 ·obtain⟨x,W⟩:=ak (l:=all) (i:=m) (by omega);have RT:J m=rc x:=by rw[Zw];exact adV rc (getD_at W)
  have I:eh (ou u m) m (p m):=(vr _ _).2 (by rw[hp];exact Reg.iM c2 (by omega));have Vp:=vI (ou u m) vu m (by omega);rw[(Reg.fU m (ou u m) m vu I.lt (aam _)).root.uniq I]at Vp;refine⟨(rc x),(idx rfl W),_,_,Vp,?_⟩;have sl:(Reg.aP p m).length=(Reg.cd p m).length:=Reg.oq p m;have kl:=Reg.qI p m;by_cases e:p m=m
  ·have DJ:=h3 (p m) (by rw[e];exact fun O=>by have:=(Reg.mem_keys.1 O).1;omega);have R:=Reg.Fa hT (show m<i by omega) e;refine⟨none,DJ,⟨fun r I=>by simp at I;subst I;rfl,by simp only[aej,aaM,aan];omega,by simp only[aej,aaM,aan];omega⟩,?_⟩;refine qy ((au.Sr (by exact hC) _ 17 (Reg.aP p m).length 0 (e:=22) (e':=87) (es:=(Reg.aP p m).map (vJ 87 J)++[[.av .nl]]) (r:=[.av .nl]) (by exact adV (AB.az _) (by simp only[xQ,PL];rfl)) (by rw[acu (by simp)];simp) (by exact rfl) (by exact rfl) (by decide)).trans (au.rq (by exact hC) _ 17 (Reg.aP p m).length 0 90001 (e:=22) (es:=(Reg.aP p m++[[]]).map (vJ 87 J)) (e':=87) (r:=vJ 87 J []) (xs:=[]) (by decide) (by decide) (by exact adV (AB.az _) (by rw[abE];refine (ux _ _ _ _ (aej _).symm).trans ?_;simp[vJ])) (zw _ _ _) (by rw[abE,acu (by simp)];simp) (by exact rfl))) ?_;have e0:(List.map (fun r=>List.map (HX.cS (sc 146)) r) (List.map (fun r=>List.map (HX.cS (sc 19)) r) (List.map (vJ 87 J) (Reg.aP p m)))).length=(Reg.aP p m).length:=by simp
   refine⟨⟨by dsimp only;omega,by simp⟩,[.av (.ow 90001)],(by rw[afo,iC,iC];rw[e0];exact rB _ _ (Reg.aP p m++[[]]) (Reg.aP p m).length 90001 (by simp);rfl;rfl),⟨fun r I=>by simp at I;subst I;rfl,by simp,by simp⟩,⟨by dsimp only;omega,by simp⟩,[.av (.ow 90001)],(by rw[afo,iC,iC];rw[e0];exact rB _ _ (Reg.aP p m++[[]]) (Reg.aP p m).length 90001 (by simp);rfl;rfl),wO (by omega),(m+1,mP es (.int .i64 (p m)) (i64 (Reg.aP p m).length)),_,au.Bm (by exact hC) _ 17 (Reg.aP p m).length 0 171 (e:=22) (es:=((Reg.aP p m++[[]]).map (vJ 87 J)).set (Reg.aP p m).length [.av (.ow 171)]) (e':=87) (xs:=[J m]) (by decide) (by exact congrArg (AB.az _) (by rw[afo,iC,iC,e0];exact List.set_set _;rfl;rfl)) (by rw[RT];exact rfl) (rB _ _ _ _ _ (by simp)) (by exact rfl),?_⟩;have key:∀(k r:Nat),(Reg.cd p (m+1))[k]?=some r->kz (mP es (.int .i64 (p m)) (i64 (Reg.aP p m).length)) (.int .i64 r)=some (i64 k):=fun k r hk=>by
    rw[Reg.fE,aap e]at hk;rw[mE];by_cases LG:k<(Reg.cd p m).length
    ·rw[aaE LG]at hk;have:=(Reg.mem_keys.1 (aad hk)).1;rw[aaa (by omega)];exact h2 k r hk
    rw[acu (by omega)]at hk;have Im:k=(Reg.cd p m).length:=by
     have:=(aao.1 hk).1;simp at this;omega
    subst Im;simp only[aab,aa9,Option.some.injEq]at hk;subst hk;rw[aap (by omega),sl]
   have Vq:∀r:Nat,¬r∈Reg.cd p (m+1)->kz (mP es (.int .i64 (p m)) (i64 (Reg.aP p m).length)) (.int .i64 r)=none:=fun r I=>by
    rw[Reg.fE,aap e]at I;rw[mE,aaa (fun O=>I (by rw[abi];exact .inr (by simp;omega)))];exact h3 r fun O=>I (abY _ O)
   refine⟨⟨by dsimp only;omega,key,Vq⟩,⟨by dsimp only;omega,⟨Z,Z,Z,Z,Z,Z,Z,Z,Y⟩,⟨rfl,?_,congrArg (AB.map _) ?_,trivial⟩⟩⟩
   ·refine adV (AB.az _) ?_;show ((List.map (vJ 87 J) (Reg.aP p m++[[]])).set _ _).set _ _=List.map (vJ 87 J) (Reg.aP p (m+1));rw[abM,R,abE,abE];exact ux _ _ _ _ (aej _).symm
   dsimp only;rw[e0];rfl
  obtain⟨k,hk⟩:=Reg.Nv hT (show m<i by omega) e;obtain⟨R,Gp⟩:=Reg.Fb e hk;have km:=h2 k (p m) hk;have SI:((Reg.aP p m).map (vJ 87 J))[k]?=some (vJ 87 J (Reg.dh p m (p m))):=by rw[aak,Gp];rfl
  have kl':=(aao.1 hk).1;have ml:=Reg.qJ p m (p m);refine⟨(some (i64 k)),km,?_⟩;refine qy (au.rq (by exact hC) _ 17 k 0 90001 (e:=22) (by decide) (by decide) (by exact adV (AB.az _) (by simp only[xQ])) (zw _ _ _) SI (by exact rfl)) ?_;refine⟨⟨by omega,by simp only[List.length_map,List.length_set];omega⟩,[.av (.ow 90001)],(by rw[afo,iC,iC];exact rB _ _ (Reg.aP p m) k 90001 (by omega);rfl;rfl),⟨fun r I=>by simp at I;subst I;rfl,by simp only[List.length_map,List.length_set,List.length_replicate];omega,by simp only[List.length_map,List.length_set,List.length_replicate];omega⟩,⟨by omega,by simp only[List.length_map,List.length_set];omega⟩,[.av (.ow 90001)],(by rw[afo,iC,iC];exact rB _ _ (Reg.aP p m) k 90001 (by omega);rfl;rfl),wO (by omega),(m+1,es),_,au.Bm (by exact hC) _ 17 k 0 171 (e:=22) (es:=((Reg.aP p m).map (vJ 87 J)).set k [.av (.ow 171)]) (e':=87) (xs:=(Reg.dh p m (p m)++[m]).map J) (by decide) (by exact congrArg (AB.az _) (by rw[afo,iC,iC];exact List.set_set _;rfl;rfl)) (by exact congrArg (AB.row _) (by rw[List.map_append];exact congrArg (List.map J (Reg.dh p m (p m))++·) (by show _=[J m];rw[RT];rfl))) (rB _ _ _ _ _ (by omega)) (by exact rfl),⟨by dsimp only;omega,fun k' r xA=>?_,fun r I=>?_⟩,⟨by dsimp only;omega,⟨Z,Z,Z,Z,Z,Z,Z,Z,Y⟩,⟨rfl,?_,Z,Y⟩⟩⟩
  ·rw[Reg.fE,aaa e]at xA;exact h2 k' r xA
  ·rw[Reg.fE,aaa e]at I;exact h3 r I
  refine adV (AB.az _) ?_;show ((List.map (vJ 87 J) (Reg.aP p m)).set _ _).set _ _=List.map (vJ 87 J) (Reg.aP p (m+1));rw[abM,R,ad8];rfl
 have em:m=i:=by omega
 subst em;obtain⟨V,PM⟩:∃V,V=Reg.aP p m:=⟨_,rfl⟩;rw[<-PM];obtain⟨rL,SC⟩:∃rL:List Nat->List ae,rL=fun l=>l.map fun m=>all.getD m bg:=⟨_,rfl⟩;rw[<-SC];have qg:∀l,SJ J l=[aj (rL l)]:=fun l=>by rw[SJ,Zw,SC,aj,ad6];rfl
 have lL:=ai V (SJ J);have hLl:V.length<=m:=by rw[PM,Reg.oq];exact Reg.qI p m
 have Kv:∀l∈V,l.length<=m/\∀r∈rL l,r∈all:=fun l hl=>by
  rw[PM,Reg.aP]at hl;obtain⟨r,_,rfl⟩:=adS.1 hl;refine⟨Reg.qJ p m r,fun q hq=>?_⟩;rw[SC]at hq;obtain⟨z,hz,rfl⟩:=adS.1 hq;have:=(Reg.dx.1 hz).1;obtain⟨q,hq⟩:=ak (l:=all) (i:=z) (by omega);rw[getD_at hq];exact aad hq
 have tf:=Reg.bP hs;have ti:=Reg.fR hs ks;rw[<-aeL]at tf ti;refine aJ (fun j:Nat=>j<=V.length) (fun j=>[(23,.ow 23),(174,.p (.sl (V.map (SJ J)))),(175,.p (i64 V.length)),(176,.p (i64 j))]) (fun j=>[(23,.row 59 (((V.take j).map fun l=>Reg.aB (rL l)).map fun p=>[aw p]))]) (fun j=>V.length-j) 0 _ ((au.ID (by exact hC) _ 17 (V.map (SJ J)) (e:=22) (by exact rfl) (SK _ _ _)).trans ((au.own (by exact hC) _ 174 (id:=17) (by exact rfl) (by exact rfl)).trans (au.dk (by exact hC) _ 23 59 _ (by decide) (by exact rfl) (by exact rfl) (by decide)))) (aaj _) ⟨rfl,rfl,adV (fun m:Nat=>AV.p (i64 m)) (aej _),Z,Y⟩ ⟨Z,Y⟩ fun j hj t h=>?_;apply iW<;>intro g1
 ·obtain⟨l,hl⟩:=ak (l:=V) (i:=j) (by omega);obtain⟨m1,m2⟩:=Kv l (aad hl);have so:=kG (rL l) 1400000 (by omega) (by omega) (fun r I=>tf r (m2 r I)) (fun r I=>ti r (m2 r I)) (by rw[SC,aej];omega);have lk:((V.take j).map fun l=>Reg.aB (rL l)).length=j:=by rw[aej,aat];omega
  exact⟨[aj (rL l)],(by rw[<-qg];exact idx rfl hl),_,_,so,⟨fun r I=>by simp at I;subst I;rfl,by simp only[aej,aaM,aan,lk];omega,by simp only[aej,aaM,aan,lk];omega⟩,wO (by omega),(j+1),_,au.refl _ _,by omega,by omega,⟨Z,Z,Z,Z,Y⟩,⟨by rw[aZ hl,abE,abE];rfl,trivial⟩⟩
 have e:V.take j=V:=adW (by omega);rw[e];exact And.intro (adV (AB.row _) (by rw[ad6,ad6,ad6];rfl)) (And.intro rfl trivial)
end M
namespace Reg
theorem uy{α:Type}[DecidableEq α]:∀{l m:List α},l.Nodup->(∀x∈l,x∈m)->l.length<=m.length
 | [],m,_,_=>aaj _
 | x::l,m,h,z=>by
  have D:=z x adU;have h':=aai.1 h;have:=uy (l:=l) (m:=m.erase x) h'.2 fun y I=>(List.mem_erase_of_ne (fun e=>h'.1 (by rw[<-e];exact I))).2 (z y (aaw _ I));rw[List.length_erase_of_mem D]at this;have:=adL D;simp only[aaB];omega
theorem sS:∀{s:aU} {p:Int×Int},Canon s->p∈s->¬cover s (p.1-1)
 | [],p,_,hp=>by cases hp
 | q::s,p,h,hp=>by
  rw[bJ];rintro (⟨h1,h2⟩ | z)
  ·rcases adq.1 hp with rfl | hp
   ·omega
   have:=h.behind p hp;omega
  rcases adq.1 hp with rfl | hp
  ·exact h.jJ (by have:=h.head;omega) z
  exact sS h.tail hp z
variable {s:List an}
theorem Dh(h:bE s){b:an}(hb:b∈s){y:Int}(D:b.y0<=y)(I:y<b.y1)(x:Int):at' s x y=par (bw b.xs) x:=by
 induction s with
 | nil=>cases hb
 | cons c s ih=>
  rcases adq.1 hb with rfl | z
  ·exact lR h D I
  have:=h.fM b z;rw[pj (by omega)];exact ih h.tail z
theorem BN(h:bE s){b:an}(hb:b∈s):∃x,at' s x (b.y0-1)≠at' s x b.y0:=by
 induction s with
 | nil=>cases hb
 | cons c s ih=>
  have L:=(h.mem b hb).lt;rcases adq.1 hb with rfl | z
  ·obtain⟨x,D⟩:=um (h.mem b hb);refine⟨x,?_⟩;rw[lR h (acP _) L,D,jS fun t J=>?_]
   ·decide
   rcases adq.1 J with rfl | J
   ·exact .inl (by omega)
   have:=h.fM t J;exact .inl (by omega)
  have N:=(h.mem c adU).lt;have qb:=h.fM b z;by_cases e:c.y1=b.y0
  ·match s,h,z,ih with
   | d::s,h,z,ih=>
    rcases adq.1 z with rfl | I
    ·have O:c.xs≠b.xs:=fun D=>by
      have:=h;simp only[bE]at this;exact this.2.2.1 e D
     have D:∃x,par (bw c.xs) x≠par (bw b.xs) x:=by
      refine acz fun R=>O (lJ _ _ (h.mem c adU).can (h.mem b (by simp)).can fun x=>?_);have:par (bw c.xs) x=par (bw b.xs) x:=acz fun N=>R ⟨x,N⟩;rw[<-cu (h.mem c adU).can,<-cu (h.mem b (by simp)).can,this]
     obtain⟨x,D⟩:=D;refine⟨x,?_⟩;rw[lR h (by omega) (by omega),pj (by omega),lR h.tail (acP _) L];exact D
    have:=(h.tail.fM b I);have:=(h.mem d (by simp)).lt;have:=h.fM d (by simp);omega
  obtain⟨x,D⟩:=ih h.tail z;refine⟨x,?_⟩;rw[pj (by omega),pj (by omega)];exact D
theorem Nx(h:bE s){z:List Int}(D:∀x y,¬y∈z->at' s x (y-1)=at' s x y):∀q∈told s,q.y0∈z:=fun q I=>by
 obtain⟨b,hb,p,_,rfl⟩:=gf.1 I;obtain⟨x,J⟩:=BN h hb;exact acz fun L=>J (D x b.y0 L)
theorem Ny(h:bE s){D:List Int}(J:∀x y,¬x∈D->at' s (x-1) y=at' s x y):∀q∈told s,q.x0∈D:=fun q L=>by
 obtain⟨b,hb,p,hp,rfl⟩:=gf.1 L;have z:=h.mem b hb;refine acz fun N=>?_;have e:=J p.1 b.y0 N;rw[Dh h hb (acP _) z.lt,Dh h hb (acP _) z.lt]at e;have I:cover b.xs p.1:=⟨p,hp,acP _,ga z.can p hp⟩;rw[<-cu z.can,<-e,cu z.can]at I;exact sS z.can hp I
theorem BO(D:List Int):∀z:List Int,(z.flatMap fun y=>D.map fun x=>(y,x)).length=z.length*D.length
 | []=>by simp
 | y::z=>by rw[abz,acv,BO D z,aej,aaB,aa3,Nat.add_comm]
theorem PN(h:bE s){D I:List Int}(L:∀x y,¬x∈D->at' s (x-1) y=at' s x y)(N:∀x y,¬y∈I->at' s x (y-1)=at' s x y):(told s).length<=I.length*D.length:=by
 have O:((told s).map fun q=>(q.y0,q.x0)).Nodup:=by
  rw[aed,abe];refine (pk h).imp fun {a b} R e=>?_;have:=gN.1 R;simp only[Prod.mk.injEq]at e;omega
 have:=uy (m:=I.flatMap fun y=>D.map fun x=>(y,x)) O fun z U=>by
  obtain⟨q,J,rfl⟩:=adS.1 U;exact aax.2 ⟨q.y0,Nx h N q J,adS.2 ⟨q.x0,Ny h L q J,rfl⟩⟩
 rw[aej]at this;exact aaF this (aay (BO D I))
structure Piece where
 layer:Int
 set:List an
structure bh where
 pieces:List Int
 bores:List Int
 pins:List (ByteArray×ByteArray)
structure zx where
 bore:Bool
 num:Int
theorem KN{x y:Int}{q:ae}(h:¬(x=q.x0\/x=q.x1)):dE (x-1) y q=dE x y q:=by
 rw[abb,aQ,aQ];omega
theorem KO{x y:Int}{q:ae}(h:¬(y=q.y0\/y=q.y1)):dE x (y-1) q=dE x y q:=by
 rw[abb,aQ,aQ];omega
theorem oy{α:Type}{l:List α}{f g:α->Bool}(h:∀x∈l,f x=g x):l.any f=l.any g:=by
 induction l with
 | nil=>rfl
 | cons x l ih=>rw[abd,abd,h x adU,ih fun y z=>h y (aaw _ z)]
def SM(l:List ae):List Int:=l.flatMap fun q=>[q.x0,q.x1]
def SN(l:List ae):List Int:=l.flatMap fun q=>[q.y0,q.y1]
theorem I5:∀l:List ae,(SM l).length=2*l.length
 | []=>rfl
 | q::l=>by have:=I5 l;simp only[SM,abz,acv,aaB,acs]at this ⊢;omega
theorem I6:∀l:List ae,(SN l).length=2*l.length
 | []=>rfl
 | q::l=>by have:=I6 l;simp only[SN,abz,acv,aaB,acs]at this ⊢;omega
theorem BP{a b:List ae}(O:∀r∈a,Full r)(hb:∀r∈b,Full r):(told (bN (aB a) (aB b))).length<=(2*(a.length+b.length))*(2*(a.length+b.length)):=by
 obtain⟨R,D,_⟩:=aR O;obtain⟨U,I,_⟩:=aR hb;obtain⟨V,J,_⟩:=b6 R U;have W:∀x y,¬x∈SM (a++b)->at' (bN (aB a) (aB b)) (x-1) y=at' (bN (aB a) (aB b)) x y:=fun x y L=>by
  have e:∀q∈a++b,dE (x-1) y q=dE x y q:=fun q z=>KN fun N=>L (aax.2 ⟨q,z,by simp;exact N⟩);rw[J,J,D,D,I,I,oy (l:=a) fun q z=>e q (abY _ z),oy (l:=b) fun q z=>e q (adt _ z)]
 have Y:∀x y,¬y∈SN (a++b)->at' (bN (aB a) (aB b)) x (y-1)=at' (bN (aB a) (aB b)) x y:=fun x y L=>by
  have e:∀q∈a++b,dE x (y-1) q=dE x y q:=fun q z=>KO fun N=>L (aax.2 ⟨q,z,by simp;exact N⟩);rw[J,J,D,D,I,I,oy (l:=a) fun q z=>e q (abY _ z),oy (l:=b) fun q z=>e q (adt _ z)]
 have:=PN V W Y;rw[I5,I6,acv]at this;exact this
def beside(x y:ae):Bool:=((decide (x.x0<y.x1)&&decide (y.x0<x.x1))&&(decide (x.y1=y.y0)||decide (y.y1=x.y0)))||((decide (x.y0<y.y1)&&decide (y.y0<x.y1))&&(decide (x.x1=y.x0)||decide (y.x1=x.x0)))
def bq(bs:List aS)(layer:Int):List ae:=(bs.filter fun b=>through b layer).map aa
def bU(bs:List aS)(layer:Int)(r:List ae):List an:=bN (aB r) (aB (bq bs layer))
def gO(bs:List aS):Int->List (List ae)->List (List an)
 | _,[]=>[]
 | k,r::l=>bU bs k r::gO bs (k+1) l
def bG(bs:List aS):Int->List (List ae)->List Piece
 | _,[]=>[]
 | k,r::l=>(cV (bU bs k r)).map (⟨k,·⟩)++bG bs (k+1) l
def qL(bs:List aS):Int->List (List ae)->Bool
 | _,[]=>true
 | k,r::l=>decide ((told (bU bs k r)).length<=2000)&&qL bs (k+1) l
def eG(a:fS):Bool:=qL a.bores 0 a.coppers&&decide ((bG a.bores 0 a.coppers).length<=2000)
def fX(b:aS)(p:Piece):Bool:=(b.plated&&through b p.layer)&&(told p.set).any fun r=>beside r (aa b)
def fu(b:aS):Nat->List Piece->List Int
 | _,[]=>[]
 | k,p::l=>if fX b p=true then (k:Int)::fu b (k+1) l else fu b (k+1) l
def bB(bs:List aS)(ps:List Piece):List (List Int):=bs.map fun b=>fu b 0 ps
theorem BQ(s:List an):(cV s).length<=(told s).length:=by
 rw[cV,ox,aej,aej,oq];exact qI _ _
theorem vK{l:List ae}{m:Nat}(h:m<l.length):l.getD m bg∈l:=by
 rw[ad4,acg h];exact adn h
theorem afp{l:List ae}(h:l∈ox s):l≠[]/\∀r∈l,r∈told s:=by
 obtain⟨u1,u2⟩:=zv s;have hT:=rz u1;obtain⟨ms,z,rfl⟩:=adS.1 h;obtain⟨r,D,rfl⟩:=adS.1 z;obtain⟨I,J⟩:=mem_keys.1 D;refine⟨fun e=>?_,fun q L=>?_⟩
 ·have:r∈dh (cQ (jE s)) (told s).length r:=dx.2 ⟨I,J⟩;rw[abO]at e;rw[e]at this;cases this
 obtain⟨m,N,rfl⟩:=adS.1 L;exact vK (dx.1 N).1
theorem rD{p:List an}(h:bE s)(hp:p∈cV s):bE p/\p≠[]/\(∀x y,at' p x y=true->at' s x y=true)/\∀K,cv K s->cv K p:=by
 obtain⟨l,hl,rfl⟩:=adS.1 hp;obtain⟨O,z⟩:=afp hl;obtain⟨R,J,U⟩:=aR fun r I=>bP h r (z r I);have sub:∀x y,at' (aB l) x y=true->at' s x y=true:=fun x y L=>by
  rw[J,aci]at L;obtain⟨q,D,V⟩:=L;rw[<-iy h,aci];exact⟨q,z q D,V⟩
 refine⟨R,fun e=>?_,sub,fun K W=>U K fun r I=>fR h W r (z r I)⟩;obtain⟨q,D⟩:=aae _ O;have N:=bP h q (z q D);have:at' (aB l) q.x0 q.y0=true:=by
  rw[J,aci];exact⟨q,D,aQ.2 ⟨acP _,N.1,acP _,N.2⟩⟩
 rw[e]at this;cases this
end Reg
end Go.Proofs.YtfloceomobknoaaGreatDoor
namespace Go.AM
theorem au.pX{A:cD}(hC:bI A.C)(s:AS)(id j:Nat)(cs:List AV)(hb:s.h id=.box cs)(J:cs[j]?=some (.p (.im (.slice none 0 0)))):au A s ⟨s.t,aT s.h id (.box (cs.set j .nl))⟩:=by
 intro S rho a w z;refine⟨S,rho,z.write hC id trivial (by rw[hb];trivial) _ (fun _ h=>by cases h) w rfl rfl rfl rfl (fun _ _=>rfl) fun T=>?_⟩;have L:=z.hp id trivial;rw[hb]at L;obtain⟨g,U,c,V,W,Y,N⟩:=L;refine⟨g,U,c,V,W,by rw[Y,aaM],fun q x u hi O=>?_⟩;by_cases R:q=j
 ·subst R;rw[ab7 (aD J)]at hi;injection hi with hi;subst hi;obtain⟨D,I⟩:=N q _ u J O;refine⟨D,?_⟩;have Z:aO S w (.im (.slice none 0 0)) u:=by cases I;assumption
  exact (xy Z).cK T
 rw[ac5 (fun e=>R e.symm)]at hi;obtain⟨D,I⟩:=N q x u hi O;exact⟨D,I.cK T⟩
end Go.AM
namespace Go.Proofs.YtfloceomobknoaaGreatDoor
namespace M
open Go.AM Go.RowKit Go.Lib
open Reg (ae beside aa aS through bO an aU)
theorem AQ(x y:ae):af C 180 [.pv (.ag (rc x)),.pv (.ag (rc y))] (.p (bool (beside x y))) []:=by
 refine fW hC Tryz.func180 rfl (by kernel_rfl) fun _=>?_;apply iW<;>intro a
 ·apply iW<;>intro c
  ·apply iW<;>intro b
   ·apply iW<;>intro e
    ·refine⟨?_,trivial⟩;simp[bool,beside,a,c,b,e]
    apply iW<;>intro f
    ·refine⟨?_,trivial⟩;simp[bool,beside,a,c,b,e,f]
    apply iW<;>intro d
    ·apply iW<;>intro g
     ·refine⟨?_,trivial⟩;simp[bool,beside,a,c,b,e,f,d,g]
     refine⟨?_,trivial⟩;simp[bool,beside,a,c,b,e,f,d,g]
    refine⟨?_,trivial⟩;simp[bool,beside,a,c,b,e,f,d]
   apply iW<;>intro d
   ·apply iW<;>intro g
    ·refine⟨?_,trivial⟩;simp[bool,beside,a,c,b,d,g]
    refine⟨?_,trivial⟩;simp[bool,beside,a,c,b,d,g]
   refine⟨?_,trivial⟩;simp[bool,beside,a,c,b,d]
  apply iW<;>intro b
  ·apply iW<;>intro e
   ·refine⟨?_,trivial⟩;simp[bool,beside,a,c,b,e]
   apply iW<;>intro f
   ·refine⟨?_,trivial⟩;simp[bool,beside,a,c,b,e,f]
   refine⟨?_,trivial⟩;simp[bool,beside,a,c,b,e,f]
  refine⟨?_,trivial⟩;simp[bool,beside,a,c,b]
 apply iW<;>intro c
 ·apply iW<;>intro d
  ·apply iW<;>intro g
   ·refine⟨?_,trivial⟩;simp[bool,beside,a,c,d,g]
   refine⟨?_,trivial⟩;simp[bool,beside,a,c,d,g]
  refine⟨?_,trivial⟩;simp[bool,beside,a,c,d]
 refine⟨?_,trivial⟩;simp[bool,beside,a,c]
theorem PO(r:ae)(b:aS)(h:bO b=true):af C 179 [.pv (.ag (rc r)),.pv (.ip (bc b))] (.p (bool (beside r (aa b)))) []:=by
 refine fW hC Tryz.func179 rfl (by kernel_rfl) fun _=>?_;refine⟨_,_,(cF b h),_,_,(AQ r (aa b)),?_,trivial⟩;rfl
theorem Di(l:List an)(hN:l.length<=1000000000000)(N:∀t∈l,t.xs.length<=1000000000000)(hT:(Reg.told l).length<=4398046511104):af C 76 [.pv (.sl (l.map hb))] (.p (aj (Reg.told l))) []:=by
 refine uX ⟨[],[2],[],[8],[],[]⟩ hC Tryz.func76 rfl (by kernel_rfl) fun _=>?_;have D:=ai l hb;have O:∀i,(Reg.told (l.take i)).length<=(Reg.told l).length:=fun i=>by
  have e:Reg.told l=Reg.told (l.take i)++Reg.told (l.drop i):=by
   unfold Reg.told;rw[<-adG,aaU]
  rw[e,acv];omega
 refine aJ (fun i:Nat=>i<=l.length) (fun i=>[(7,.p (.sl (l.map hb))),(8,.p (i64 (l.map hb).length)),(3,.ow 3),(9,.p (i64 i))]) (fun i=>[(3,.row 87 ((Reg.told (l.take i)).map rc))]) (fun i=>l.length-i) 0 _ (au.dk hC _ 3 87 _ (by decide) rfl rfl (by decide)) (aaj _) ⟨Z,Z,Z,Z,Y⟩ ⟨Z,Y⟩ fun i hi t h=>?_;apply iW<;>intro I
 ·rw[D]at I;obtain⟨b,z⟩:=ak (l:=l) (i:=i) (by omega);have bm:=ai (flat b.xs) fun n=>[i64 n];have J:=eY b.xs;have hb':=N b (aad z);have R:=O (i+1);rw[jM z,acv,aej]at R;refine⟨(hb b),(idx rfl z),?_⟩;refine p7 (fun _:Unit=>True) (fun _=>[(7,.p (.sl (l.map hb))),(8,.p (i64 (l.map hb).length)),(3,.ow 3),(9,.p (i64 i))]) (fun _=>[(3,.row 87 ((Reg.told (l.take (i+1))).map rc))]) (fun _ _ t h=>?_) ?_
  ·exact⟨wO (by omega),(i+1),_,au.refl _ _,by omega,by omega,⟨Z,Z,Z,Z,Y⟩,⟨Z,Y⟩⟩
  refine aJ (fun k:Nat=>k<=b.xs.length) (fun k=>[(7,.p (.sl (l.map hb))),(8,.p (i64 (l.map hb).length)),(3,.ow 3),(9,.p (i64 i)),(5,.bx 5 0),(6,.p (i64 ((2*k:Nat):Int)))]) (fun k=>[(3,.row 87 ((Reg.told (l.take i)++ig b k).map rc)),(5,.box [.p (i64 b.y0),.p (i64 b.y1),.p (ints (flat b.xs))])]) (fun k=>b.xs.length-k) 0 _ (au.refl _ _) (aaj _) ⟨Z,Z,Z,Z,Z,Z,Y⟩ ⟨by rw[ig];simp;rfl,Z,Y⟩ fun k hk t h=>?_;have Ov:(ig b k).length<=k:=by simp[ig];omega
  apply iW<;>intro L
  ·rw[bm,J]at L;obtain⟨p,hp⟩:=ak (l:=b.xs) (i:=k) (by omega);obtain⟨U,V⟩:=Ex hp;refine⟨[i64 p.1],(idx rfl U),wO (by omega),[i64 p.2],(idx (by omega) V),⟨xL rfl,by simp;omega,by simp;omega⟩,wO (by omega),(k+1),_,au.refl _ _,by omega,by omega,⟨rfl,rfl,rfl,rfl,rfl,a8 (by omega),trivial⟩,⟨?_,Z,Y⟩⟩;have W:ig b (k+1)=ig b k++[⟨p.1,b.y0,p.2,b.y1⟩]:=by simp[ig,aZ hp]
   have e:(Reg.told (l.take i)++ig b k).map rc++[rc ⟨p.1,b.y0,p.2,b.y1⟩]=(Reg.told (l.take i)++ig b (k+1)).map rc:=by
    rw[W,<-abx,abE (l₂:=[_])];rfl
   exact adV (AB.row 87) e
  rw[bm,J]at L;refine⟨(),trivial,⟨Z,Z,Z,Z,Y⟩,⟨?_,trivial⟩⟩;rw[jM z];have:ig b k=b.xs.map fun p=>⟨p.1,b.y0,p.2,b.y1⟩:=by rw[ig,adW (by omega)]
  rw[<-this];rfl
 rw[D]at I;rw[adW (by omega)];exact⟨Z,Y⟩
def X7(b:aS)(r:ae):Bool:=beside r (aa b)
theorem Fj(l:List ae)(hN:l.length<=140737488355328)(b:aS)(I:bO b=true):af C 161 [.pv (aj l),.pv (.fn 179 [.ip (bc b)])] (.p (i64 (jO (X7 b) l 0))) []:=by
 refine fW hC Tryz.func161 rfl (by kernel_rfl) fun _=>?_;have L:=ai l rc;refine aJ (fun i:Nat=>i<=l.length/\∀z∈l.take i,X7 b z=false) (fun i=>[(0,.p (aj l)),(1,.p (.fn 179 [.ip (bc b)])),(7,.p (i64 (l.map rc).length)),(8,.p (i64 i))]) (fun _=>[]) (fun i=>l.length-i) 0 _ (au.refl _ _) ⟨aaj _,by simp⟩ ⟨Z,Z,Z,Z,Y⟩ trivial fun i hi t h=>?_;apply iW<;>intro N
 ·rw[L]at N;obtain⟨r,J⟩:=ak (l:=l) (i:=i) (by omega);refine⟨(rc r),(idx rfl J),_,_,(PO r b I),iW ?_ ?_⟩<;>intro D
  ·refine⟨?_,trivial⟩;rw[lY J D hi.2,abC]
  exact⟨wO (by omega),(i+1),_,au.refl _ _,⟨by omega,tW J D hi.2⟩,by omega,⟨Z,Z,Z,Z,Y⟩,trivial⟩
 rw[L]at N;refine⟨?_,trivial⟩;have D:=hi.2;rw[adW (by omega)]at D;rw[iV D];rfl
theorem zy(l:List ae)(D:l.length<=140737488355328)(b:aS)(z:bO b=true):af C 178 [.pv (aj l),.pv (.fn 179 [.ip (bc b)])] (.p (bool (l.any (X7 b)))) []:=by
 refine fW hC Tryz.func178 rfl (by kernel_rfl) fun _=>?_;refine⟨_,_,(Fj l D b z),?_,trivial⟩;rw[<-oX _ l 0];rfl
open Reg (fS Piece bE cv Full RK told aB bN cV cJ qF bq bU gO bG qL eG)
def jb(p:Piece):List PV:=[i64 p.layer,aw p.set,aj (told p.set)]
structure iD(a:fS):Prop where
 cop:0<a.coppers.length/\a.coppers.length<=16
 reg:∀r∈a.coppers,Reg.aF r=0
 out:Reg.aF a.outline=0
 jB:a.bores.length<=500
 bor:∀b∈a.bores,qF a.coppers.length b
 lan:a.lands.length<=1000
theorem ky{n:Int}{b:aS}(h:qF n b):bO b=true:=by
 have:=h.ok;simp only[cJ,aaZ]at this;exact this.1
structure SO(s:List an):Prop where
 sok:bE s
 ink:cv 1000000 s
 jB:(told s).length<=25000000
theorem jV{bs:List aS}(z:∀b∈bs,bO b=true)(J:bs.length<=500)(k:Int){r:List ae}(L:Reg.aF r=0):SO (bU bs k r):=by
 have h:=ph L;have D:∀q∈bq bs k,Full q:=fun q N=>by
  obtain⟨b,hb,rfl⟩:=adS.1 N;exact Reg.bX (z b (adu.1 hb).1)
 have hl:(bq bs k).length<=500:=by
  rw[bq,aej];exact aaF (adb _ _) J
 obtain⟨I,b2,b3⟩:=Reg.aR D;obtain⟨O,c2,_⟩:=Reg.b6 h.sok I;refine⟨O,I1 h.sok I h.ink,aaF (Reg.BP h.full D) ?_⟩;have:2*(r.length+(bq bs k).length)<=5000:=by have:=h.len;omega
 exact Nat.mul_le_mul this this
theorem Dj(a:fS)(ha:iD a):af C 100 [.aN [.p (.sl (a.coppers.map rr)),.p (aj a.outline),.p (.sl (a.bores.map bc)),.p (.sl (a.lands.map lc)),.row 59 [],.row 76 [],.row 71 [],.row 142 [],.row 3 [],.row 3 [],.row 3 [],.row 174 []]] (.p (bool (eG a))) [.aN [.p (.sl (a.coppers.map rr)),.p (aj a.outline),.p (.sl (a.bores.map bc)),.p (.sl (a.lands.map lc)),.row 59 ((gO a.bores 0 a.coppers).map fun s=>[aw s]),.row 76 ((bG a.bores 0 a.coppers).map jb),.row 71 [],.row 142 [],.row 3 [],.row 3 [],.row 3 [],.row 174 []]]:=by
 have lk:=ai a.coppers rr;have lb:=ai a.bores bc;have L:∀b∈a.bores,bO b=true:=fun b h=>ky (ha.bor b h);have zA:=ha.jB;have KH:=ha.cop;obtain⟨DD,Zx⟩:∃DD,DD=gO a.bores 0 a.coppers:=⟨_,rfl⟩;obtain⟨PP,SP⟩:∃PP,PP=bG a.bores 0 a.coppers:=⟨_,rfl⟩;obtain⟨OK,Zy⟩:∃OK,OK=qL a.bores 0 a.coppers:=⟨_,rfl⟩;have hres:eG a=(OK&&decide (PP.length<=2000)):=by rw[eG,Zy,SP]
 rw[hres,<-Zx,<-SP];refine UP ⟨[],[],[],[18],[],[14]⟩ hC Tryz.func100 rfl (by kernel_rfl) fun _=>⟨_,au.open hC _ 100000 [90000,90001,90002,90003,90004,90005,90006,90007] (by exact rfl) rfl rfl rfl,?_⟩;refine aJ (fun x:Nat×Bool×List (List an)×List Piece=>x.2.2.1++gO a.bores x.1 (a.coppers.drop x.1)=DD/\x.2.2.2++bG a.bores x.1 (a.coppers.drop x.1)=PP/\(x.2.1&&qL a.bores x.1 (a.coppers.drop x.1))=OK/\x.2.2.1.length<=x.1/\x.2.2.2.length<=25000000*x.1/\x.1<=a.coppers.length) (fun x=>[(0,.bx 100000 0),(3,.p (bool x.2.1)),(16,.p (.sl (a.coppers.map rr))),(17,.p (i64 a.coppers.length)),(18,.p (i64 x.1))]) (fun x=>[(100000,.box [.p (.sl (a.coppers.map rr)),.p (aj a.outline),.p (.sl (a.bores.map bc)),.p (.sl (a.lands.map lc)),.ow 90000,.ow 90001,.ow 90002,.ow 90003,.ow 90004,.ow 90005,.ow 90006,.ow 90007]),(90000,.row 59 (x.2.2.1.map fun s=>[aw s])),(90001,.row 76 (x.2.2.2.map jb)),(90002,.row 71 []),(90003,.row 142 []),(90004,.row 3 []),(90005,.row 3 []),(90006,.row 3 []),(90007,.row 174 [])]) (fun x=>a.coppers.length-x.1) (0,true,[],[]) _ (au.refl _ _) ⟨Zx.symm,SP.symm,by rw[Zy];rfl,aam _,aaj _,aaj _⟩ ⟨rfl,rfl,rfl,adV (fun m:Nat=>AV.p (i64 m)) lk,Z,Y⟩ ⟨Z,Z,Z,Z,Z,Z,Z,Z,Z,Y⟩ fun ⟨i,ok,D,P⟩ hx t h=>?_;obtain⟨O,R,U,q4,q5,q6⟩:=hx;simp only at O R U q4 q5 q6;apply iW<;>intro g<;>try simp only[zB]at g
 ·obtain⟨r,N⟩:=ak (l:=a.coppers) (i:=i) (by omega);have HA:=ha.reg r (aad N);have X8:=ph HA;rw[drop_at N]at O R U;simp only[gO,bG,qL]at O R U;have Sm:=jV L zA i HA;refine⟨(rr r),(idx rfl N),?_⟩;refine aJ (fun y:Nat×List ae=>y.2++bq (a.bores.drop y.1) i=bq a.bores i/\y.2.length<=y.1/\y.1<=a.bores.length/\∀q∈y.2,∃b∈a.bores,q=aa b) (fun y=>[(0,.bx 100000 0),(3,.p (bool ok)),(16,.p (.sl (a.coppers.map rr))),(17,.p (i64 a.coppers.length)),(18,.p (i64 i)),(4,.p (i64 i)),(5,.p (aj r)),(27,.p (.sl (a.bores.map bc))),(28,.p (i64 a.bores.length)),(29,.p (i64 y.1)),(6,.ow 6)]) (fun y=>[(100000,.box [.p (.sl (a.coppers.map rr)),.p (aj a.outline),.p (.sl (a.bores.map bc)),.p (.sl (a.lands.map lc)),.ow 90000,.ow 90001,.ow 90002,.ow 90003,.ow 90004,.ow 90005,.ow 90006,.ow 90007]),(90000,.row 59 (D.map fun s=>[aw s])),(90001,.row 76 (P.map jb)),(90002,.row 71 []),(90003,.row 142 []),(90004,.row 3 []),(90005,.row 3 []),(90006,.row 3 []),(90007,.row 174 []),(6,.row 87 (y.2.map rc))]) (fun y=>a.bores.length-y.1) (0,[]) _ (au.dk (by exact hC) _ 6 87 _ (by decide) (by exact rfl) (by exact rfl) (by decide)) ⟨rfl,aam _,aaj _,fun q h=>by cases h⟩ ⟨rfl,rfl,rfl,rfl,rfl,rfl,rfl,rfl,adV (fun m:Nat=>AV.p (i64 m)) lb,Z,Z,Y⟩ ⟨Z,Z,Z,Z,Z,Z,Z,Z,Z,Z,Y⟩ fun ⟨j,hl⟩ hy t h=>?_;obtain⟨V,k2,k3,W⟩:=hy;simp only at V k2 k3 W;apply iW<;>intro g2<;>try simp only[zB]at g2
  ·obtain⟨b,Wr⟩:=ak (l:=a.bores) (i:=j) (by omega);have uW:=L b (aad Wr);rw[drop_at Wr]at V;refine⟨(bc b),(idx rfl Wr),_,_,(jk b i),iW ?_ ?_⟩<;>intro g3
   ·have e:bq (b::a.bores.drop (j+1)) i=aa b::bq (a.bores.drop (j+1)) i:=by rw[bq,aby,aap (by simpa using g3)];rfl
    rw[e]at V;refine⟨_,_,(cF b uW),⟨fun r N=>by simp at N;subst N;rfl,by simp only[aej,aaM,aan];omega,by simp only[aej,aaM,aan];omega⟩,wO (by omega),(j+1,hl++[aa b]),_,au.refl _ _,?_⟩;exact⟨⟨by simp only[abx,ac3];exact V,by simp only[acv,abS];omega,by simp only;omega,fun q I=>by
     rcases abi.1 I with I | I
     ·exact W q I
     rw[ab_]at I;exact⟨b,aad Wr,I⟩⟩,by simp only;omega,⟨Z,Z,Z,Z,Z,Z,Z,Z,Z,Z,Z,Y⟩,⟨rfl,rfl,rfl,rfl,rfl,rfl,rfl,rfl,rfl,by rw[abE];rfl,trivial⟩⟩
   have e:bq (b::a.bores.drop (j+1)) i=bq (a.bores.drop (j+1)) i:=by rw[bq,aby,aaa (by simpa using g3)];rfl
   rw[e]at V;exact⟨wO (by omega),(j+1,hl),_,au.refl _ _,⟨V,by simp only;omega,by simp only;omega,W⟩,by simp only;omega,⟨Z,Z,Z,Z,Z,Z,Z,Z,Z,Z,Z,Y⟩,⟨Z,Z,Z,Z,Z,Z,Z,Z,Z,Z,Y⟩⟩
  have e:hl=bq a.bores i:=by
   rw[ab1 (by omega)]at V;rw[<-V];simp[bq]
  have so:=kG hl 1010000 (by omega) (by omega) (fun q I=>by obtain⟨b,hb,rfl⟩:=W q I;exact Reg.bX (L b hb)) (fun q I=>by obtain⟨b,hb,rfl⟩:=W q I;exact Reg.er (L b hb)) (by omega);have bf:=Reg.aR (l:=hl) fun q I=>by obtain⟨b,hb,rfl⟩:=W q I;exact Reg.bX (L b hb)
  have bk:=bf.2.2 1010000 fun q I=>by obtain⟨b,hb,rfl⟩:=W q I;exact Reg.er (L b hb)
  have IM:=iJ _ _ X8.sok bf.1 (X8.ink.up (by omega)) (bk.up (by omega));have hS:bN (aB r) (aB hl)=bU a.bores i r:=by rw[e];rfl
  rw[hS]at IM;obtain⟨S,hSe⟩:∃S,S=bU a.bores i r:=⟨_,rfl⟩;rw[<-hSe]at IM Sm O R U;obtain⟨d1,d2,d3⟩:=Sm;have sl:=Reg.cc d1 (by omega) d2;have sx:=Reg.kT d1 (by omega) d2;refine⟨_,_,(BB X8),_,_,so,_,_,IM,?_⟩;have ml:=Hg S (by omega) (fun t ht=>by have:=sx t ht;omega) (by omega);refine (XN (fun SQ:Bool=>SQ=(ok&&decide ((told S).length<=2000))) (fun SQ=>[(0,.bx 100000 0),(3,.p (bool SQ)),(16,.p (.sl (a.coppers.map rr))),(17,.p (i64 a.coppers.length)),(18,.p (i64 i)),(4,.p (i64 i)),(9,.p (aw S))]) (fun _=>[(100000,.box [.p (.sl (a.coppers.map rr)),.p (aj a.outline),.p (.sl (a.bores.map bc)),.p (.sl (a.lands.map lc)),.ow 90000,.ow 90001,.ow 90002,.ow 90003,.ow 90004,.ow 90005,.ow 90006,.ow 90007]),(90000,.row 59 (D.map fun s=>[aw s])),(90001,.row 76 (P.map jb)),(90002,.row 71 []),(90003,.row 142 []),(90004,.row 3 []),(90005,.row 3 []),(90006,.row 3 []),(90007,.row 174 [])]) (fun SQ hok t h=>?_) ?_)
  ·have q3':(SQ&&qL a.bores ((i:Int)+1) (a.coppers.drop (i+1)))=OK:=by rw[hok,Bool.and_assoc];exact U
   refine⟨⟨fun r N=>by simp at N;subst N;rfl,by simp only[aej,aaM,aan];omega,by simp only[aej,aaM,aan];omega⟩,_,_,(Fi S d1 (d2.up (by omega)) (by omega)),?_⟩;have pf:=Reg.BQ S;have lp:=ai (cV S) fun p=>[aw p];refine aJ (fun z:Nat×List Piece=>z.2++((cV S).drop z.1).map (⟨(i:Int),·⟩)++bG a.bores ((i:Int)+1) (a.coppers.drop (i+1))=PP/\z.2.length<=25000000*i+z.1/\z.1<=(cV S).length) (fun z=>[(0,.bx 100000 0),(3,.p (bool SQ)),(16,.p (.sl (a.coppers.map rr))),(17,.p (i64 a.coppers.length)),(18,.p (i64 i)),(4,.p (i64 i)),(64,.p (.sl ((cV S).map fun p=>[aw p]))),(65,.p (i64 (cV S).length)),(66,.p (i64 z.1))]) (fun z=>[(100000,.box [.p (.sl (a.coppers.map rr)),.p (aj a.outline),.p (.sl (a.bores.map bc)),.p (.sl (a.lands.map lc)),.ow 90000,.ow 90001,.ow 90002,.ow 90003,.ow 90004,.ow 90005,.ow 90006,.ow 90007]),(90000,.row 59 ((D++[S]).map fun s=>[aw s])),(90001,.row 76 (z.2.map jb)),(90002,.row 71 []),(90003,.row 142 []),(90004,.row 3 []),(90005,.row 3 []),(90006,.row 3 []),(90007,.row 174 [])]) (fun z=>(cV S).length-z.1) (0,P) _ ((au.own (by exact hC) _ 64 (id:=64) (by exact rfl) (by exact rfl)).trans ((au.pack (by exact hC) _ 100000 (cs:=[.p (.sl (a.coppers.map rr)),.p (aj a.outline),.p (.sl (a.bores.map bc)),.p (.sl (a.lands.map lc)),.row 59 ((D++[S]).map fun s=>[aw s]),.row 76 (P.map jb),.row 71 [],.row 142 [],.row 3 [],.row 3 [],.row 3 [],.row 174 []]) (by exact rfl) (by exact rfl) (by exact⟨rfl,rfl,rfl,rfl,by rw[abE];rfl,Z,Z,Z,Z,Z,Z,Z,Y⟩)).trans (au.open (by exact hC) _ 100000 [90000,90001,90002,90003,90004,90005,90006,90007] (cs:=[.p (.sl (a.coppers.map rr)),.p (aj a.outline),.p (.sl (a.bores.map bc)),.p (.sl (a.lands.map lc)),.row 59 ((D++[S]).map fun s=>[aw s]),.row 76 (P.map jb),.row 71 [],.row 142 [],.row 3 [],.row 3 [],.row 3 [],.row 174 []]) (by exact rfl) rfl rfl rfl))) ⟨by simp only[List.drop_zero,abx];exact R,by simp only;omega,aaj _⟩ ⟨rfl,rfl,rfl,rfl,rfl,rfl,rfl,adV (fun m:Nat=>AV.p (i64 m)) lp,Z,Y⟩ ⟨Z,Z,Z,Z,Z,Z,Z,Z,Z,Y⟩ fun ⟨k,Ps⟩ hz t h=>?_;obtain⟨z1,z2,z3⟩:=hz;simp only at z1 z2 z3;apply iW<;>intro g5<;>try simp only[zB]at g5
   ·obtain⟨p,hp⟩:=ak (l:=cV S) (i:=k) (by omega);obtain⟨p1,_,_,p3⟩:=Reg.rD d1 (aad hp);have p4:=p3 _ d2;have px:=Reg.kT p1 (by omega) p4;have pb:=Reg.cc p1 (by omega) p4;have pt:=Reg.fj p1 (p4.up (by omega));rw[drop_at hp,aa8]at z1;exact⟨[aw p],(idx rfl hp),_,_,(Di p (by omega) (fun t ht=>by have:=px t ht;omega) pt),⟨fun r N=>by simp at N;subst N;rfl,by simp only[aej,aaM,aan];omega,by simp only[aej,aaM,aan];omega⟩,wO (by omega),(k+1,Ps++[Piece.mk i p]),_,((au.pack (by exact hC) _ 100000 (cs:=[.p (.sl (a.coppers.map rr)),.p (aj a.outline),.p (.sl (a.bores.map bc)),.p (.sl (a.lands.map lc)),.row 59 ((D++[S]).map fun s=>[aw s]),.row 76 ((Ps++[Piece.mk i p]).map jb),.row 71 [],.row 142 [],.row 3 [],.row 3 [],.row 3 [],.row 174 []]) (by exact rfl) (by exact rfl) (by exact⟨rfl,rfl,rfl,rfl,rfl,by rw[abE (f:=jb)];rfl,Z,Z,Z,Z,Z,Z,Y⟩)).trans (au.open (by exact hC) _ 100000 [90000,90001,90002,90003,90004,90005,90006,90007] (cs:=[.p (.sl (a.coppers.map rr)),.p (aj a.outline),.p (.sl (a.bores.map bc)),.p (.sl (a.lands.map lc)),.row 59 ((D++[S]).map fun s=>[aw s]),.row 76 ((Ps++[Piece.mk i p]).map jb),.row 71 [],.row 142 [],.row 3 [],.row 3 [],.row 3 [],.row 174 []]) (by exact rfl) rfl rfl rfl)),⟨by simp only[abx,ac3,aaI]at z1 ⊢;exact z1,by simp only[acv,abS];omega,by simp only;omega⟩,by simp only;omega,⟨Z,Z,Z,Z,Z,Z,Z,Z,Z,Y⟩,⟨Z,Z,Z,Z,Z,Z,Z,Z,Z,Y⟩⟩
   rw[ab1 (by omega),ac0,acw]at z1;exact⟨wO (by omega),(i+1,SQ,D++[S],Ps),_,au.refl _ _,⟨by simp only[abx,ac3];exact O,z1,q3',by simp only[acv,abS];omega,by simp only;omega,by simp only;omega⟩,by simp only;omega,⟨Z,Z,Z,Z,Z,Y⟩,⟨Z,Z,Z,Z,Z,Z,Z,Z,Z,Y⟩⟩
  apply iW<;>intro J
  ·have J:ok=true:=J;exact⟨_,_,ml,_,by rw[J,adr];congr 1;exact propext ⟨fun h=>by omega,fun h=>by omega⟩,⟨Z,Z,Z,Z,Z,Z,Z,Y⟩,⟨Z,Z,Z,Z,Z,Z,Z,Z,Z,Y⟩⟩
  have J:ok=false:=by simpa using J
  exact⟨false,by rw[J];rfl,⟨Z,Z,Z,Z,Z,Z,Z,Y⟩,⟨Z,Z,Z,Z,Z,Z,Z,Z,Z,Y⟩⟩
 have e:a.coppers.length<=i:=by omega
 rw[ab1 e]at O R U;simp only[gO,bG,qL,acw,ac7]at O R U;subst O R U;have lP:=ai P jb;apply iW<;>intro J<;>try simp only[zB]at J
 ·have J:ok=true:=J;exact And.intro (by rw[J,adr];exact adV (fun b:Bool=>PV.im (Value.bool b)) (decide_eq_decide.2 ⟨fun h=>by rw[lP]at h;omega,fun h=>by rw[lP];omega⟩)) (And.intro ⟨Z,Z,Z,Z,Z,Z,Z,Z,Z,Z,Z,Z,Z,Y⟩ trivial)
 have J:ok=false:=by simpa using J
 exact And.intro (by rw[J];rfl) (And.intro ⟨Z,Z,Z,Z,Z,Z,Z,Z,Z,Z,Z,Z,Z,Y⟩ trivial)
open Reg (fX fu bB)
theorem gP(l:List Int)(k:Int):aA (l++[k])=aA l++[[i64 k]]:=by rw[aA,abE];rfl
theorem Dk(a:fS)(V:iD a)(D:List (List PV))(P:List Piece)(hP:P.length<=1000000000)(Q9:∀p∈P,(told p.set).length<=4398046511104):af C 101 [.aN [.p (.sl (a.coppers.map rr)),.p (aj a.outline),.p (.sl (a.bores.map bc)),.p (.sl (a.lands.map lc)),.row 59 D,.row 76 (P.map jb),.row 71 [],.row 142 [],.row 3 [],.row 3 [],.row 3 [],.row 174 []]] (.tu []) [.aN [.p (.sl (a.coppers.map rr)),.p (aj a.outline),.p (.sl (a.bores.map bc)),.p (.sl (a.lands.map lc)),.row 59 D,.row 76 (P.map jb),.row 71 ((bB a.bores P).map fun l=>[ints l]),.row 142 [],.row 3 [],.row 3 [],.row 3 [],.row 174 []]]:=by
 have lb:=ai a.bores bc;have lp:=ai P jb;have zA:=V.jB;obtain⟨N,W⟩:∃N,N=bB a.bores P:=⟨_,rfl⟩;rw[<-W];refine UP ⟨[],[],[],[],[],[]⟩ hC Tryz.func101 rfl (by kernel_rfl) fun _=>⟨_,au.open hC _ 100000 [90000,90001,90002,90003,90004,90005,90006,90007] (by exact rfl) rfl rfl rfl,?_⟩;refine aJ (fun x:Nat×List (List Int)=>x.2++bB (a.bores.drop x.1) P=N/\x.2.length<=x.1/\x.1<=a.bores.length) (fun x=>[(0,.bx 100000 0),(11,.p (.sl (a.bores.map bc))),(12,.p (i64 a.bores.length)),(13,.p (i64 x.1))]) (fun x=>[(100000,.box [.p (.sl (a.coppers.map rr)),.p (aj a.outline),.p (.sl (a.bores.map bc)),.p (.sl (a.lands.map lc)),.ow 90000,.ow 90001,.ow 90002,.ow 90003,.ow 90004,.ow 90005,.ow 90006,.ow 90007]),(90000,.row 59 D),(90001,.row 76 (P.map jb)),(90002,.row 71 (x.2.map fun l=>[ints l])),(90003,.row 142 []),(90004,.row 3 []),(90005,.row 3 []),(90006,.row 3 []),(90007,.row 174 [])]) (fun x=>a.bores.length-x.1) (0,[]) _ (au.refl _ _) ⟨W.symm,aam _,aaj _⟩ ⟨rfl,rfl,adV (fun m:Nat=>AV.p (i64 m)) lb,Z,Y⟩ ⟨Z,Z,Z,Z,Z,Z,Z,Z,Z,Y⟩ fun ⟨i,T⟩ hx t h=>?_;obtain⟨I,q2,q3⟩:=hx;simp only at I q2 q3;apply iW<;>intro g<;>try simp only[zB]at g
 ·obtain⟨b,O⟩:=ak (l:=a.bores) (i:=i) (by omega);have uW:=ky (V.bor b (aad O));rw[drop_at O,bB,aa8]at I;refine⟨(bc b),(idx rfl O),?_⟩;refine aJ (fun y:Nat×List Int=>y.2++fu b y.1 (P.drop y.1)=fu b 0 P/\y.2.length<=y.1/\y.1<=P.length) (fun y=>[(0,.bx 100000 0),(11,.p (.sl (a.bores.map bc))),(12,.p (i64 a.bores.length)),(13,.p (i64 i)),(3,.p (.ip (bc b))),(4,.ow 4),(20,.ow 90001),(21,.p (i64 P.length)),(22,.p (i64 y.1))]) (fun y=>[(100000,.box [.p (.sl (a.coppers.map rr)),.p (aj a.outline),.p (.sl (a.bores.map bc)),.p (.sl (a.lands.map lc)),.ow 90000,.ow 90001,.ow 90002,.ow 90003,.ow 90004,.ow 90005,.ow 90006,.ow 90007]),(90000,.row 59 D),(90001,.row 76 (P.map jb)),(90002,.row 71 (T.map fun l=>[ints l])),(90003,.row 142 []),(90004,.row 3 []),(90005,.row 3 []),(90006,.row 3 []),(90007,.row 174 []),(4,.row 3 (aA y.2))]) (fun y=>P.length-y.1) (0,[]) _ ((au.gD (by exact hC) _ 3 (y:=.ip (bc b)) (fz:=[(3,.jd (bc b))]) (by exact⟨rfl,rfl⟩)).trans (au.dk (by exact hC) _ 4 3 _ (by decide) (by exact rfl) (by exact rfl) (by decide))) ⟨rfl,aam _,aaj _⟩ ⟨rfl,rfl,rfl,rfl,rfl,rfl,rfl,adV (fun m:Nat=>AV.p (i64 m)) lp,Z,Y⟩ ⟨Z,Z,Z,Z,Z,Z,Z,Z,Z,Z,Y⟩ fun ⟨k,l⟩ R t h=>?_;obtain⟨z,k2,k3⟩:=R;simp only at z k2 k3;have ll:=bQ l;apply iW<;>intro g2<;>try simp only[zB]at g2
  ·obtain⟨p,U⟩:=ak (l:=P) (i:=k) (by omega);have hpt:=Q9 p (aad U);rw[drop_at U,fu]at z;have yes:fX b p=true->l++[(k:Int)]++fu b (k+1) (P.drop (k+1))=fu b 0 P:=fun h=>by
    rw[aap h]at z;rw[abx];exact z
   have no:fX b p=false->l++fu b (k+1) (P.drop (k+1))=fu b 0 P:=fun h=>by
    rw[aaa (by rw[h];decide)]at z;exact z
   refine⟨⟨by omega,by (try dsimp only);omega⟩,(jb p),(idx rfl U).2,iW ?_ ?_⟩<;>intro g3
   ·refine⟨_,_,(jk b p.layer),iW ?_ ?_⟩<;>intro g4
    ·refine⟨_,_,(zy (told p.set) (by omega) b uW),iW ?_ ?_⟩<;>intro g5
     ·have R:=yes (by simp only[fX,aaZ];exact⟨⟨g3,g4⟩,g5⟩);exact⟨⟨fun r J=>by simp at J;subst J;rfl,by simp only[ll,aaM,aan];omega,by simp only[ll,aaM,aan];omega⟩,wO (by omega),(k+1,l++[(k:Int)]),_,au.refl _ _,⟨R,by simp only[acv,abS];omega,by simp only;omega⟩,by simp only;omega,⟨Z,Z,Z,Z,Z,Z,Z,Z,Z,Y⟩,⟨rfl,rfl,rfl,rfl,rfl,rfl,rfl,rfl,rfl,adV (AB.row _) (gP l k).symm,trivial⟩⟩
     have L:=no (by simp only[fX];rw[aaC];exact .inr g5);exact⟨wO (by omega),(k+1,l),_,au.refl _ _,⟨L,by simp only;omega,by simp only;omega⟩,by simp only;omega,⟨Z,Z,Z,Z,Z,Z,Z,Z,Z,Y⟩,⟨Z,Z,Z,Z,Z,Z,Z,Z,Z,Z,Y⟩⟩
    have L:=no (by simp only[fX];rw[g4,aav,abp]);exact⟨wO (by omega),(k+1,l),_,au.refl _ _,⟨L,by simp only;omega,by simp only;omega⟩,by simp only;omega,⟨Z,Z,Z,Z,Z,Z,Z,Z,Z,Y⟩,⟨Z,Z,Z,Z,Z,Z,Z,Z,Z,Z,Y⟩⟩
   have L:=no (by simp only[fX];rw[g3,abp,abp]);exact⟨wO (by omega),(k+1,l),_,au.refl _ _,⟨L,by simp only;omega,by simp only;omega⟩,by simp only;omega,⟨Z,Z,Z,Z,Z,Z,Z,Z,Z,Y⟩,⟨Z,Z,Z,Z,Z,Z,Z,Z,Z,Z,Y⟩⟩
  rw[ab1 (by omega),fu,acw]at z;have lT:=ai T fun l=>[ints l];exact⟨⟨fun r J=>by simp at J;subst J;rfl,by simp only[lT,aaM,aan];omega,by simp only[lT,aaM,aan];omega⟩,wO (by omega),(i+1,T++[l]),_,((au.pack (by exact hC) _ 100000 (cs:=[.p (.sl (a.coppers.map rr)),.p (aj a.outline),.p (.sl (a.bores.map bc)),.p (.sl (a.lands.map lc)),.row 59 D,.row 76 (P.map jb),.row 71 ((T++[l]).map fun l=>[ints l]),.row 142 [],.row 3 [],.row 3 [],.row 3 [],.row 174 []]) (by exact rfl) (by exact rfl) (by exact⟨rfl,rfl,rfl,rfl,rfl,rfl,by rw[abE];rfl,Z,Z,Z,Z,Z,Y⟩)).trans (au.open (by exact hC) _ 100000 [90000,90001,90002,90003,90004,90005,90006,90007] (cs:=[.p (.sl (a.coppers.map rr)),.p (aj a.outline),.p (.sl (a.bores.map bc)),.p (.sl (a.lands.map lc)),.row 59 D,.row 76 (P.map jb),.row 71 ((T++[l]).map fun l=>[ints l]),.row 142 [],.row 3 [],.row 3 [],.row 3 [],.row 174 []]) (by exact rfl) rfl rfl rfl)),⟨by rw[z];simp only[abx,ac3];exact I,by simp only[acv,abS];omega,by simp only;omega⟩,by simp only;omega,⟨Z,Z,Z,Z,Y⟩,⟨Z,Z,Z,Z,Z,Z,Z,Z,Z,Y⟩⟩
 rw[ab1 (by omega),bB,ac0,acw]at I;subst I;exact And.intro rfl (And.intro ⟨Z,Z,Z,Z,Z,Z,Z,Z,Z,Z,Z,Z,Z,Y⟩ trivial)
end M
namespace Reg
def mV(l:fo)(b:aS):Bool:=(b.plated&&through b l.layer)&&dE l.x l.y (aa b)
def pz(l:fo)(p:Piece):Bool:=decide (p.layer=l.layer)&&(told p.set).any (dE l.x l.y)
def nA(l:fo):Nat->List Piece->zx×Bool
 | _,[]=>(⟨false,0⟩,false)
 | k,p::r=>if pz l p=true then (⟨false,k⟩,true) else nA l (k+1) r
def mF(l:fo)(ps:List Piece):Nat->List aS->zx×Bool
 | _,[]=>nA l 0 ps
 | k,b::r=>if mV l b=true then (⟨true,k⟩,true) else mF l ps (k+1) r
def il(bs:List aS)(ps:List Piece)(l:fo):zx×Bool:=mF l ps 0 bs
def r_(m:Nat):List Int->List Int->List Int
 | [],u=>u
 | p::r,u=>r_ m r (gj u p.toNat m)
def uz(n:Nat):Nat->List (List Int)->List Int->List Int
 | _,[],u=>u
 | k,l::r,u=>uz n (k+1) r (r_ (n+k) l u)
def jm(n nb:Nat)(T:List (List Int)):List Int:=uz n 0 T (iota (n+nb))
theorem zC{m:Nat}:∀(l u:List Int),UF u->m<u.length->(∀p∈l,0<=p/\p.toNat<u.length)->UF (r_ m l u)/\(r_ m l u).length=u.length
 | [],u,h,_,_=>⟨h,rfl⟩
 | p::r,u,h,hm,hl=>by
  obtain⟨a,b⟩:=mC h (i:=p.toNat) (k:=m) (hl p adU).2 hm;obtain⟨c,d⟩:=zC (m:=m) r (gj u p.toNat m) a (by omega) fun q z=>by have:=hl q (aaw _ z);omega
  exact⟨c,d.trans b⟩
theorem qM{n nb:Nat}:∀(l:List (List Int)) (k:Nat) (u:List Int),UF u->u.length=n+nb->k+l.length<=nb->(∀x∈l,∀p∈x,0<=p/\p<n)->UF (uz n k l u)/\(uz n k l u).length=n+nb
 | [],k,u,h,hl,_,_=>⟨h,hl⟩
 | x::r,k,u,h,hl,hk,hx=>by
  simp only[aaB]at hk;obtain⟨a,b⟩:=zC (m:=n+k) x u h (by omega) fun p hp=>by have:=hx x adU p hp;omega
  exact qM r (k+1) _ a (b.trans hl) (by omega) fun y z=>hx y (aaw _ z)
theorem rE(b:aS):∀(ps:List Piece) (k:Nat),∀p∈fu b k ps,(k:Int)<=p/\p<((k+ps.length:Nat):Int)
 | [],k,p,h=>by cases h
 | q::ps,k,p,h=>by
  rw[fu]at h;have ih:=rE b ps (k+1) p;simp only[aaB];split at h
  ·rcases adq.1 h with rfl | h
   ·omega
   have:=ih h;omega
  have:=ih h;omega
def jF(bs:List aS)(n g:Nat)(s:(List Int×List Int)×List Int×List Int)(i:Nat):(List Int×List Int)×List Int×List Int:=
 if i<n then ((s.1.1.set i (g:Int),s.1.2),s.2.1++[(i:Int)],s.2.2) else
 if (bs.getD (i-n) ⟨0,0,0,0,0,false⟩).plated=true then ((s.1.1,s.1.2.set (i-n) (g:Int)),s.2.1,s.2.2++[((i:Int)-n)]) else
 ((s.1.1,s.1.2.set (i-n) (-1)),s.2.1,s.2.2)
def AT(bs:List aS)(n:Nat)(s:(List Int×List Int)×List bh)(l:List Nat):(List Int×List Int)×List bh:=
 let r:=l.foldl (jF bs n s.2.length) (s.1,[],[])
 (r.1,if 0<r.2.1.length+r.2.2.length then s.2++[⟨r.2.1,r.2.2,[]⟩] else s.2)
def jn(bs:List aS)(n:Nat)(L:List (List Nat)):(List Int×List Int)×List bh:=L.foldl (AT bs n) ((List.replicate n 0,List.replicate bs.length 0),[])
structure qN where
 groups:List bh
 ofLand:List Int
 atLand:List zx
def iN(p:ByteArray×ByteArray)(g:bh):bh:={ g with pins:=g.pins++[p] }
def uA(bs:List aS)(ps:List Piece)(o:List Int×List Int)(s:qN)(l:fo):qN:=
 let h:=il bs ps l;let k:Int:=if h.2=true then (if h.1.bore=true then o.2 else o.1).getD h.1.num.toNat 0 else -1
 ⟨if h.2=true then s.groups.set k.toNat (iN (l.part,l.pin) (s.groups.getD k.toNat ⟨[],[],[]⟩)) else s.groups,s.ofLand++[k],s.atLand++[h.1]⟩
end Reg
end Go.Proofs.YtfloceomobknoaaGreatDoor
