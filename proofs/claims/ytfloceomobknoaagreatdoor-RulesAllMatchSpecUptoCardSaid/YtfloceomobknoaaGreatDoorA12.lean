/- Part 12 of the proof of RulesAllMatchSpec. -/
import Derived.Test.YtfloceomobknoaaGreatDoorA11
set_option linter.unusedVariables false
set_option linter.unusedSimpArgs false
set_option maxRecDepth 100000
set_option maxHeartbeats 8000000
namespace Go
abbrev adO:=@List.Pairwise.imp
abbrev adk:=@List.filter_map
abbrev aeh:=@List.filter_congr
end Go
namespace Go.Proofs.YtfloceomobknoaaGreatDoor
namespace Reg
theorem vQ{s:List an}{K:Nat}(h:bE s)(hb:cv K s):(told s).length<=2*K*K:=by
 have h1:=cc h (by omega) hb;have z:=uj (M:=K) (s:=s) fun t D=>by have:=kT h (by omega) hb t D;omega
 exact aaF z (abf _ (by omega))
theorem zR{K:Nat}:∀{l:List Int} {a:Int},bF (a::l)->(∀y∈a::l,y<=K)->(l.length:Int)<=K-a
 | [],a,_,h=>by have:=h a (by simp);simp only[acs];omega
 | b::l,a,hr,h=>by
  have ih:=zR (l:=l) (a:=b) (ade.1 hr).2 (fun y z=>h y (by simp at z ⊢;exact .inr z));have h1:=(ade.1 hr).1 b (by simp);simp only[aaB];omega
theorem BX{l:List ae}{K:Nat}(J:∀r∈l,Full r)(hk:∀r∈l,RK K r):(aE l).length<=2*K+1:=by
 obtain⟨L,N⟩:=cT l;have D:∀y∈aE l,-(K:Int)<=y/\y<=K:=fun y z=>by
  obtain⟨r,I,e⟩:=(N y).1 z;have a:=J r I;obtain⟨b1,b2,b3,b4⟩:=hk r I;have:=a.2;rcases e with e | e<;>omega
 generalize aE l=ys at *;cases ys with
 | nil=>simp
 | cons a ys=>
  have h4:=zR L fun y z=>(D y z).2;have h5:=(D a (by simp)).1;simp only[aaB];omega
theorem PZ{s:List an}(h:bE s)(z:s≠[]):told s≠[]:=fun e=>z (qD h e)
theorem uH{l:List ae}(D:∀r∈l,Full r)(J:l≠[]):bR l≠[]:=by
 obtain⟨L,N,_⟩:=aR D;refine PZ L fun e=>?_;cases l with
 | nil=>exact J rfl
 | cons r l=>
  have z:=N r.x0 r.y0;rw[e]at z;have I:=D r (by simp);have O:dE r.x0 r.y0 r=true:=aQ.2 ⟨by omega,I.1,by omega,I.2⟩;rw[abd,O,abn]at z;cases z
def Yp(YQ:List Int)(l:List ae):Prop:=∀r∈l,r.y0∈YQ/\r.y1∈YQ
theorem getD_in{ys:List Int}{k:Nat}(h:k<ys.length):ys.getD k 0∈ys:=by
 rw[ad4,acg h];exact adn h
theorem Yp.mono{z D:List Int}{l:List ae}(h:Yp z l)(k:∀y∈z,y∈D):Yp D l:=fun r I=>⟨k _ (h r I).1,k _ (h r I).2⟩
end Reg
namespace M
open Go.AM Go.RowKit
open Reg (ae aU an bE cv Full RK told aB aeB bN uo nM)
theorem FF(a b:List ae)(z:a.length+b.length<=4398046511104)(D:(Reg.aE (a++b)).length<=3000000000000)(I:(aeB 3 a b).length<=4398046511104):af C 54 [.pv (aj a),.pv (aj b)] (.p (aj (aeB 3 a b))) []:=by
 refine fW hC Tryz.func54 rfl (by kernel_rfl) fun _=>?_;refine⟨_,_,(uF a b 3 z D I),?_,trivial⟩;rfl
theorem FG(a b:List ae)(z:a.length+b.length<=4398046511104)(D:(Reg.aE (a++b)).length<=3000000000000)(I:(aeB 1 a b).length<=4398046511104):af C 132 [.pv (aj a),.pv (aj b)] (.p (aj (aeB 1 a b))) []:=by
 refine fW hC Tryz.func132 rfl (by kernel_rfl) fun _=>?_;refine⟨_,_,(uF a b 1 z D I),?_,trivial⟩;rfl
variable {s:List an}
theorem w7{t:List an}(D:bE s)(I:bE t)(ks:cv 1400000 s)(J:cv 1400000 t):(Reg.aE (told s++told t)).length<=3000000000000:=by
 have:=Reg.BX (K:=1400000) (l:=told s++told t) (fun r z=>by
  rcases abi.1 z with h | h
  ·exact Reg.bP D r h
  ·exact Reg.bP I r h) (fun r z=>by
  rcases abi.1 z with h | h
  ·exact Reg.fR D ks r h
  exact Reg.fR I J r h)
 omega
theorem mL{t:List an}(z:bE s)(D:bE t)(ks:cv 1400000 s)(I:cv 1400000 t)(J:(told s).length+(told t).length<=4398046511104):af C 54 [.pv (aj (told s)),.pv (aj (told t))] (.p (aj (told (bN s t)))) []:=by
 obtain⟨L,a2,N⟩:=Reg.b6 z D;have h:=FF (told s) (told t) J (w7 z D ks I) (by rw[Reg.FC z D];exact Reg.fj L (N _ ks I))
 rwa [Reg.FC z D]at h
theorem S6{t:List an}(z:bE s)(D:bE t)(ks:cv 1400000 s)(I:cv 1400000 t)(J:(told s).length+(told t).length<=4398046511104):af C 132 [.pv (aj (told s)),.pv (aj (told t))] (.p (aj (told (uo s t)))) []:=by
 obtain⟨L,a2,N⟩:=Reg.kH z D;have h:=FG (told s) (told t) J (w7 z D ks I) (by rw[Reg.Ra z D];exact Reg.fj L (N _ ks I))
 rwa [Reg.Ra z D]at h
theorem vR{l:List ae}(z:∀r∈l,Full r)(hk:∀r∈l,RK 1400000 r)(D:l.length<=4398046511104):af C 93 [.pv (aj l)] (.p (aj (told (aB l)))) []:=by
 obtain⟨I,_,J⟩:=Reg.aR z;have hh:=Reg.BX (K:=1400000) z hk;exact rV l D (by omega) (Reg.fj I (J _ hk))
end M
namespace Reg
def afl(a b:List ae):Int:=a.foldl (fun n x=>b.foldl (fun n y=>min n (fT x y)) n) (fT (dD a) (dD b))
theorem afJ(a b:List ae):∀n:Int,a.foldl (fun n x=>b.foldl (fun n y=>min n (fT x y)) n) n=(aeA a b).foldl min n:=by
 induction a with
 | nil=>intro n;rfl
 | cons x a ih=>
  intro n;have e:aeA (x::a) b=b.map (fT x)++aeA a b:=rfl;rw[aaq,ih,e,aaD,List.foldl_map]
theorem FH:∀(l:List Int) (n:Int),l.foldl min n<=n/\(∀x∈l,l.foldl min n<=x)/\(l.foldl min n=n\/l.foldl min n∈l)
 | [],n=>⟨acP _,fun x h=>(by cases h),.inl rfl⟩
 | m::l,n=>by
  obtain⟨h1,D,I⟩:=FH l (min n m);rw[aaq];refine⟨by omega,fun x z=>?_,?_⟩
  ·rcases adq.1 z with e | z
   ·rw[e];omega
   exact D x z
  rcases I with e | e
  ·rw[e];by_cases c:n<=m
   ·exact .inl (by omega)
   exact .inr (by rw[show min n m=m by omega];exact adU)
  exact .inr (aaw _ e)
theorem head_mem{l:List ae}(h:l≠[]):dD l∈l:=by
 rw[dD,ad4,acg (adj.2 h)];exact adn _
theorem afa{a b:List ae}{n:Int}:n∈aeA a b↔∃x∈a,∃y∈b,fT x y=n:=by simp[aeA]
theorem HP(a b:ae):0<=fT a b:=by simp only[fT,bA];omega
theorem agR{a b:List ae}(D:a≠[])(hb:b≠[]):afl a b=aeP a b:=by
 rw[afl,afJ,aeP];have z:fT (dD a) (dD b)∈aeA a b:=afa.2 ⟨_,head_mem D,_,head_mem hb,rfl⟩;obtain⟨h1,I,J⟩:=FH (aeA a b) (fT (dD a) (dD b));obtain⟨L,_,_,N⟩:=afc (aeA a b) (-1) fun n O=>by
  obtain⟨x,_,y,_,e⟩:=afa.1 O;rw[<-e];exact HP _ _
 have k:aez (-1) (aeA a b)∈aeA a b:=by
  rcases N (aec z) with e | ⟨e,_⟩
  ·exact e
  omega
 have h:(aeA a b).foldl min (fT (dD a) (dD b))∈aeA a b:=by
  rcases J with e | e
  ·rw[e];exact z
  exact e
 have:=I _ k;have:=L _ h;omega
def aeY(n:Int)(s:Bool×Int×Int)(x y:ae):Bool×Int×Int:=
 if min x.x1 (y.x1+n)-1<(jD x y n).1\/min x.y1 (y.y1+n)-1<(jD x y n).2 then s else
 if s.1=false\/aeW (jD x y n) s.2=true then (true,jD x y n) else s
def afg(a b:List ae)(n:Int):Bool×Int×Int:=a.foldl (fun s x=>b.foldl (fun s y=>aeY n s x y) s) (false,0,0)
theorem ahf{x y:ae}(z:Full x)(D:Full y){n:Int}(h0:0<=n):¬(min x.x1 (y.x1+n)-1<(jD x y n).1\/min x.y1 (y.y1+n)-1<(jD x y n).2)↔fT x y<=n:=by
 obtain⟨x1,x2⟩:=z;obtain⟨y1,y2⟩:=D;simp only[jD,fT,bA];omega
theorem ahg{x y:ae}(z:Full x)(D:Full y){n:Int}(I:0<=n)(h:n<=fT x y)(s:Bool×Int×Int):aeY n s x y=if fT x y=n/\(s.1=false\/aeW (jD x y n) s.2=true) then (true,jD x y n) else s:=by
 rw[aeY];have e:=ahf z D I;by_cases c:fT x y=n
 ·rw[aaa (e.2 (by omega))];by_cases d:s.1=false\/aeW (jD x y n) s.2=true
  ·rw[aap d,aap ⟨c,d⟩]
  rw[aaa d,aaa fun g=>d g.2]
 rw[aap (acz fun g=>c (by have:=e.1 g;omega)),aaa fun g=>c g.1]
theorem agy{x:ae}(D:Full x){n:Int}(I:0<=n):∀(b:List ae) (s:Bool×Int×Int),(∀y∈b,Full y/\n<=fT x y)->b.foldl (fun s y=>aeY n s x y) s=G2 n s (b.map (pAt n x))
 | [],s,_=>rfl
 | y::b,s,h=>by
  obtain⟨J,L⟩:=h y adU;rw[aaq,agy D I b _ fun z N=>h z (aaw _ N),aa8,afi,ahg D J I L];rfl
theorem afK{b:List ae}{n:Int}(D:0<=n):∀(a:List ae) (s:Bool×Int×Int),(∀x∈a,Full x/\∀y∈b,Full y/\n<=fT x y)->a.foldl (fun s x=>b.foldl (fun s y=>aeY n s x y) s) s=G2 n s (a.flatMap fun x=>b.map (pAt n x))
 | [],s,_=>rfl
 | x::a,s,h=>by
  obtain⟨I,J⟩:=h x adU;rw[aaq,afK D a _ fun z L=>h z (aaw _ L),abz,afC,agy I D b s J]
theorem afL(n:Int):∀(l:List (Int×Int×Int)) (s:Bool×Int×Int),(G2 n s l=s/\(s.1=true\/∀q∈l,q.1≠n))\/∃q∈l,q.1=n/\G2 n s l=(true,q.2)
 | [],s=>.inl ⟨rfl,.inr fun q h=>by cases h⟩
 | q::l,s=>by
  rw[afi];by_cases c:q.1=n/\(s.1=false\/aeW q.2 s.2=true)
  ·rw[aap c];rcases afL n l (true,q.2) with⟨e,_⟩ | ⟨p,hp,e1,e2⟩
   ·exact .inr ⟨q,adU,c.1,e⟩
   exact .inr ⟨p,aaw _ hp,e1,e2⟩
  rw[aaa c];rcases afL n l s with⟨e,h⟩ | ⟨p,hp,e1,e2⟩
  ·refine .inl ⟨e,?_⟩;rcases h with h | h
   ·exact .inl h
   by_cases d:s.1=true
   ·exact .inl d
   refine .inr fun p hp=>?_;rcases adq.1 hp with e | hp
   ·rw[e];exact fun g=>c ⟨g,.inl (by simpa using d)⟩
   exact h p hp
  exact .inr ⟨p,aaw _ hp,e1,e2⟩
theorem uI(a b c d:Int):bA a b c d=bA c d a b:=by simp only[bA];omega
theorem uJ(a b:ae):fT a b=fT b a:=by rw[fT,fT,uI a.x0,uI a.y0]
theorem zS{a b c d p:Int}(h1:c<=p)(h2:p<d):bA a b c d<=bA a b p (p+1):=by simp only[bA];omega
theorem NK{y u:ae}{p:Int×Int}(h:dE p.1 p.2 u=true):fT y u<=fT y (xu p):=by
 obtain⟨z,D,I,J⟩:=aQ.1 h;have a:=zS (a:=y.x0) (b:=y.x1) z D;have b:=zS (a:=y.y0) (b:=y.y1) I J;show max (bA y.x0 y.x1 u.x0 u.x1) (bA y.y0 y.y1 u.y0 u.y1)<=max (bA y.x0 y.x1 p.1 (p.1+1)) (bA y.y0 y.y1 p.2 (p.2+1));omega
theorem NL{u v:ae}(z:Full u){n:Int}(h:fT u v<=n):dE (jD u v n).1 (jD u v n).2 u=true:=by
 obtain⟨u1,u2⟩:=z;have D:bA u.x0 u.x1 v.x0 v.x1<=n:=by unfold fT at h;omega
 have I:bA u.y0 u.y1 v.y0 v.y1<=n:=by unfold fT at h;omega
 simp only[bA]at D I;refine aQ.2 ⟨?_,?_,?_,?_⟩<;>simp only[jD]<;>omega
def ag1(a b:List ae):Zu:=⟨0,0,afl a b-1,(afg a b (afl a b)).2,(afg b [xu (afg a b (afl a b)).2] (afl a b)).2⟩
theorem ahq{a b:List ae}(N:a≠[])(hb:b≠[])(R:∀r∈a,Full r)(U:∀r∈b,Full r):ag1 a b=afd a b:=by
 have lo:∀x∈a,∀y∈b,aeP a b<=fT x y:=fun x I y D=>(afc (aeA a b) (-1) fun n Y=>by
  obtain⟨x,_,y,_,e⟩:=afa.1 Y;rw[<-e];exact HP _ _).1 _ (afa.2 ⟨x,I,y,D,rfl⟩)
 have Lf:aeP a b∈aeA a b:=by
  rw[<-agR N hb,afl,afJ];rcases (FH (aeA a b) (fT (dD a) (dD b))).2.2 with e | e
  ·rw[e];exact afa.2 ⟨_,head_mem N,_,head_mem hb,rfl⟩
  exact e
 obtain⟨x,I,y,D,J⟩:=afa.1 Lf;have V:0<=aeP a b:=by rw[<-J];exact HP _ _
 have e1:(afg a b (aeP a b)).2=aeT a b (aeP a b):=by
  rw[afg,afK V a _ fun x I=>⟨R x I,fun y D=>⟨U y D,lo x I y D⟩⟩];rfl
 rw[ag1,agR N hb,e1,afd];obtain⟨u,L,v,W,euv,Z⟩:∃u∈a,∃v∈b,fT u v=aeP a b/\aeT a b (aeP a b)=jD u v (aeP a b):=by
  rcases afL (aeP a b) (a.flatMap fun x=>b.map (pAt (aeP a b) x)) (false,0,0) with⟨_,h⟩ | ⟨q,O,e1,e2⟩
  ·rcases h with h | h
   ·cases h
   exact absurd J (h (pAt (aeP a b) x y) (aax.2 ⟨x,I,adS.2 ⟨y,D,rfl⟩⟩))
  obtain⟨u,L,O⟩:=aax.1 O;obtain⟨v,W,rfl⟩:=adS.1 O;exact⟨u,L,v,W,e1,by rw[aeT,e2];rfl⟩
 have e2:(afg b [xu (aeT a b (aeP a b))] (aeP a b)).2=ahc b (aeT a b (aeP a b)) (aeP a b):=by
  have key:∀(l:List ae) (p:ae),(l.flatMap fun y=>[p].map (pAt (aeP a b) y))=l.map fun y=>pAt (aeP a b) y p:=fun l p=>by
   induction l with
   | nil=>rfl
   | cons z l ih=>rw[abz,ih];rfl
  rw[afg,afK V b _ fun y D=>⟨U y D,fun z hz=>?_⟩,key]
  ·rfl
  rw[ab_.1 hz];refine⟨⟨by show (aeT a b (aeP a b)).1<(aeT a b (aeP a b)).1+1;omega,by show (aeT a b (aeP a b)).2<(aeT a b (aeP a b)).2+1;omega⟩,?_⟩;have l1:=lo u L y D;rw[Z];have:=NK (y:=y) (NL (R u L) (v:=v) (n:=aeP a b) (by omega));rw[uJ]at l1;omega
 rw[e2]
end Reg
namespace M
open Go.AM Go.RowKit Go.Lib
open Reg (ae Full fT bA)
def jZ(r:ae):Prop:=(-4611686018427387000<=r.x0/\r.x0<=4611686018427387000)/\(-4611686018427387000<=r.y0/\r.y0<=4611686018427387000)/\(-4611686018427387000<=r.x1/\r.x1<=4611686018427387000)/\(-4611686018427387000<=r.y1/\r.y1<=4611686018427387000)
theorem agS(z D I J:Int)(h:(-4611686018427387000<=z/\z<=4611686018427387000)/\(-4611686018427387000<=D/\D<=4611686018427387000)/\(-4611686018427387000<=I/\I<=4611686018427387000)/\(-4611686018427387000<=J/\J<=4611686018427387000)):af C 247 [.pv (i64 z),.pv (i64 D),.pv (i64 I),.pv (i64 J)] (.p (i64 (bA z D I J))) []:=by
 refine fW hC Tryz.func247 rfl (by kernel_rfl) fun _=>?_;refine⟨wO (by omega),wO (by omega),wO (by omega),wO (by omega),?_,trivial⟩;have e:bA z D I J=max (max 0 (I-(D-1))) (z-(J-1)):=by simp only[bA];omega
 rw[e];rfl
theorem afD(a b:ae)(z:jZ a)(hb:jZ b):af C 193 [.pv (.ag (rc a)),.pv (.ag (rc b))] (.p (i64 (fT a b))) []:=by
 unfold jZ at z hb;refine fW hC Tryz.func193 rfl (by kernel_rfl) fun _=>?_;refine⟨_,_,(agS a.x0 a.x1 b.x0 b.x1 ⟨by omega,by omega,by omega,by omega⟩),_,_,(agS a.y0 a.y1 b.y0 b.y1 ⟨by omega,by omega,by omega,by omega⟩),?_,trivial⟩;rfl
end M
namespace Reg
def eJ(q:ae)(c:List an)(n:Int):List an:=bN (bN (a_ (aB [q]) n n n n) (aB [q])) c
theorem pH{q:ae}(J:Full q){c:List an}(N:bE c){n:Int}(z:0<=n):bE (eJ q c n)/\∀x y,at' (eJ q c n) x y=true↔fT (xu (x,y)) q<=n/\dE x y q=false/\at' c x y=false:=by
 obtain⟨L,D⟩:=gz J;obtain⟨O,R,_⟩:=bW L z z z z;obtain⟨l1,l2,_⟩:=b6 O L;obtain⟨U,V,_⟩:=b6 l1 N;refine⟨U,fun x y=>?_⟩;have e:at' (a_ (aB [q]) n n n n) x y=true↔fT (xu (x,y)) q<=n:=by
  rw[R];obtain⟨q1,q2⟩:=J;have key:fT (xu (x,y)) q<=n↔(q.x0-n<=x/\x<q.x1+n)/\q.y0-n<=y/\y<q.y1+n:=by
   have W:bA x (x+1) q.x0 q.x1<=n↔q.x0-n<=x/\x<q.x1+n:=by simp only[bA];omega
   have Y:bA y (y+1) q.y0 q.y1<=n↔q.y0-n<=y/\y<q.y1+n:=by simp only[bA];omega
   rw[<-W,<-Y];show max (bA x (x+1) q.x0 q.x1) (bA y (y+1) q.y0 q.y1)<=n↔_;omega
  rw[key];constructor
  ·rintro⟨a,b,I,Z,h3,h4,h5⟩;rw[D]at I;obtain⟨g1,g2,g3,g4⟩:=aQ.1 I;exact⟨⟨by omega,by omega⟩,by omega,by omega⟩
  rintro⟨⟨I,Z⟩,h3,h4⟩;refine⟨max q.x0 (min x (q.x1-1)),max q.y0 (min y (q.y1-1)),?_,by omega,by omega,by omega,by omega⟩;rw[D];exact aQ.2 ⟨by omega,by omega,by omega,by omega⟩
 rw[eJ,V,l2,D,aaZ,aaZ,e,ael,ael,and_assoc]
def gT(m:List ae)(q:ae):Int:=m.foldl (fun n r=>min n (fT r q)) (fT (dD m) q)
theorem Du{m:List ae}(D:m≠[])(q:ae):(∀r∈m,gT m q<=fT r q)/\∃r∈m,gT m q=fT r q:=by
 have e:gT m q=(m.map fun r=>fT r q).foldl min (fT (dD m) q):=by rw[gT,List.foldl_map]
 obtain⟨_,I,J⟩:=FH (m.map fun r=>fT r q) (fT (dD m) q);rw[e];refine⟨fun r z=>I _ (adS.2 ⟨r,z,rfl⟩),?_⟩;rcases J with g | g
 ·exact⟨_,head_mem D,g⟩
 obtain⟨r,z,g⟩:=adS.1 g;exact⟨r,z,g.symm⟩
theorem NM{r q:ae}(z:Full r)(D:Full q):dE (jD r q (fT r q)).1 (jD r q (fT r q)).2 r=true/\fT (xu (jD r q (fT r q))) q<=fT r q:=by
 refine⟨NL z (acP _),?_⟩;have h0:=HP r q;have I:bA r.x0 r.x1 q.x0 q.x1<=fT r q:=by unfold fT;omega
 have J:bA r.y0 r.y1 q.y0 q.y1<=fT r q:=by unfold fT;omega
 generalize fT r q=n at *;obtain⟨q1,q2⟩:=D;have ax:bA (max r.x0 (q.x0-n)) (max r.x0 (q.x0-n)+1) q.x0 q.x1<=n:=by simp only[bA]at I ⊢;omega
 have ay:bA (max r.y0 (q.y0-n)) (max r.y0 (q.y0-n)+1) q.y0 q.y1<=n:=by simp only[bA]at J ⊢;omega
 show max (bA (max r.x0 (q.x0-n)) (max r.x0 (q.x0-n)+1) q.x0 q.x1) (bA (max r.y0 (q.y0-n)) (max r.y0 (q.y0-n)+1) q.y0 q.y1)<=n;omega
theorem afz{q:ae}(z:Full q){c:List an}(I:bE c){g:Int}(Z:0<=g)(hn:eJ q c g≠[]):
  1<=gT (told (eJ q c g)) q/\gT (told (eJ q c g)) q<=g/\∀n,0<=n->n<=g->(eJ q c n=[]↔n<gT (told (eJ q c g)) q):=by
 obtain⟨D,N⟩:=pH z I Z;have ht:told (eJ q c g)≠[]:=fun e=>hn (qD D e);obtain⟨l1,r,O,l2⟩:=Du ht q;have fr:=bP D r O;obtain⟨R,p2⟩:=NM fr z;have pin:at' (eJ q c g) (jD r q (fT r q)).1 (jD r q (fT r q)).2=true:=by
  rw[<-iy D,aci];exact⟨r,O,R⟩
 obtain⟨i1,U,i3⟩:=(N _ _).1 pin;have J:∀x y,dE x y q=false->1<=fT (xu (x,y)) q:=fun x y h=>by
  obtain⟨q1,q2⟩:=z;have h:=fun g=>aaV.1 h (aQ.2 g);have ex:bA x (x+1) q.x0 q.x1<1->q.x0<=x/\x<q.x1:=by simp only[bA];omega
  have ey:bA y (y+1) q.y0 q.y1<1->q.y0<=y/\y<q.y1:=by simp only[bA];omega
  refine acz fun k=>h ?_;have k:max (bA x (x+1) q.x0 q.x1) (bA y (y+1) q.y0 q.y1)<1:=by
   show fT (xu (x,y)) q<1;omega
  have:=ex (by omega);have:=ey (by omega);exact⟨by omega,by omega,by omega,by omega⟩
 have low:gT (told (eJ q c g)) q<=fT (xu (jD r q (fT r q))) q:=by
  have:=NK (y:=q) (u:=r) (p:=jD r q (fT r q)) R;rw[uJ q r,uJ q]at this;omega
 have one:=J _ _ U;refine⟨?_,?_,fun n V ng=>⟨fun he=>?_,fun eF=>?_⟩⟩
 ·have:=p2;have o:1<=fT (xu (jD r q (fT r q))) q:=one;omega
 ·have:fT (xu (jD r q (fT r q))) q<=g:=i1;omega
 ·refine acz fun k=>?_;obtain⟨W,L⟩:=pH z I V;have:at' (eJ q c n) (jD r q (fT r q)).1 (jD r q (fT r q)).2=true:=(L _ _).2 ⟨by
   have:fT (xu (jD r q (fT r q))) q<=n:=by omega
   exact this,U,i3⟩
  rw[he]at this;cases this
 obtain⟨W,L⟩:=pH z I V;refine qC W fun x y=>?_;rw[aaV];intro k;obtain⟨k1,k2,k3⟩:=(L x y).1 k;have Y:at' (eJ q c g) x y=true:=(N x y).2 ⟨by omega,k2,k3⟩;rw[<-iy D,aci]at Y;obtain⟨u,hu,hh⟩:=Y;have h1:=l1 u hu;have h2:=NK (y:=q) (u:=u) (p:=(x,y)) hh;rw[uJ q u,uJ q]at h2;omega
theorem ag2{h:Int->Bool}(D:∀m n,0<=m->m<=n->h n=true->h m=true){x y:Int}(x0:0<=x)(y0:0<=y)(J:h x=true)(z:h (x+1)=false)(L:h y=true)(I:h (y+1)=false):x=y:=by
 rcases Int.lt_trichotomy x y with g | g | g
 ·rw[D (x+1) y (by omega) (by omega) L]at z;cases z
 ·exact g
 rw[D (y+1) x (by omega) (by omega) J]at I;cases I
theorem NN{x a b:Int}(h:a<b)(h1:a-1<=x)(h2:x<b+1):∃c,(a<=c/\c<b)/\x-1<=c/\c<=x+1:=⟨max a (min x (b-1)),⟨by omega,by omega⟩,by omega,by omega⟩
theorem Rb{a b c d:Int}(h:a<b)(k:c<d)(h1:0<=min b d-max a c):∃x,(a<=x/\x<b)/\c-1<=x/\x<d+1:=⟨max a (min (c-1) (b-1)),⟨by omega,by omega⟩,by omega,by omega⟩
theorem Rc{a b c d:Int}(h1:0<min b d-max a c):∃x,(a<=x/\x<b)/\c<=x/\x<d:=⟨max a c,⟨by omega,by omega⟩,by omega,by omega⟩
theorem Re{a b c d x:Int}(_h:a<b)(_k:c<d)(h1:a<=x)(h2:x<b)(h3:c-1<=x)(h4:x<d+1):0<=min b d-max a c:=by omega
theorem Rf{a b c d x:Int}(h1:a<=x)(h2:x<b)(h3:c<=x)(h4:x<d):0<min b d-max a c:=by omega
theorem NO{q:ae}(O:Full q)(x y:Int):at' (uo (a_ (aB [q]) 1 1 0 0) (a_ (aB [q]) 0 0 1 1)) x y=true↔((q.x0-1<=x/\x<q.x1+1)/\q.y0<=y/\y<q.y1)\/((q.x0<=x/\x<q.x1)/\q.y0-1<=y/\y<q.y1+1):=by
 obtain⟨L,R⟩:=gz O;obtain⟨U,V,_⟩:=bW L (l:=1) (r:=1) (d:=0) (u:=0) (by decide) (by decide) (by decide) (by decide);obtain⟨W,Y,_⟩:=bW L (l:=0) (r:=0) (d:=1) (u:=1) (by decide) (by decide) (by decide) (by decide);obtain⟨Z,q2⟩:=O;rw[(kH U W).2.1,adZ,V,Y];have hb:∀a b,at' (aB [q]) a b=true↔(q.x0<=a/\a<q.x1)/\q.y0<=b/\b<q.y1:=fun a b=>by
  rw[R,aQ];exact⟨fun ⟨z,D,I,J⟩=>⟨⟨z,D⟩,I,J⟩,fun ⟨⟨z,D⟩,I,J⟩=>⟨z,D,I,J⟩⟩
 generalize at' (aB [q])=f at hb ⊢;clear U V W Y L R;constructor
 ·rintro (⟨a,b,h,z,D,I,J⟩ | ⟨a,b,h,z,D,I,J⟩)
  ·have:=(hb a b).1 h;exact .inl ⟨⟨by omega,by omega⟩,by omega,by omega⟩
  have:=(hb a b).1 h;exact .inr ⟨⟨by omega,by omega⟩,by omega,by omega⟩
 rintro (⟨⟨z,D⟩,I,J⟩ | ⟨⟨z,D⟩,I,J⟩)
 ·obtain⟨c,N,k1,k2⟩:=NN Z z D;exact .inl ⟨c,y,(hb _ _).2 ⟨N,I,J⟩,by omega,by omega,by omega,by omega⟩
 obtain⟨c,N,k1,k2⟩:=NN q2 I J;exact .inr ⟨x,c,(hb _ _).2 ⟨⟨z,D⟩,N⟩,by omega,by omega,by omega,by omega⟩
theorem FI{r:List ae}(L:∀p∈r,Full p){q:ae}(I:Full q):(r.any fun p=>en p q)=true↔nM (aB r) (uo (a_ (aB [q]) 1 1 0 0) (a_ (aB [q]) 0 0 1 1))≠[]:=by
 have hs:=bW (gz I).1 (l:=1) (r:=1) (d:=0) (u:=0) (by decide) (by decide) (by decide) (by decide);have J:=bW (gz I).1 (l:=0) (r:=0) (d:=1) (u:=1) (by decide) (by decide) (by decide) (by decide);have o1:=(kH hs.1 J.1).1;have N:=NO I;clear hs J;generalize uo (a_ (aB [q]) 1 1 0 0) (a_ (aB [q]) 0 0 1 1)=O at N o1 ⊢;have R:=aR L;have c1:=R.1;have c2:=R.2.1;have U:=Ky c1 o1;have a1:=U.1;have V:=U.2.1;clear R U;generalize nM (aB r) O=A at a1 V ⊢;have b8:A≠[]↔∃x y,at' (A) x y=true:=by
  constructor
  ·intro h;refine acz fun k=>h (qC a1 fun x y=>?_);rw[aaV];exact fun g=>k ⟨x,y,g⟩
  rintro⟨x,y,h⟩ e;rw[e]at h;cases h
 rw[b8,aci];constructor
 ·rintro⟨p,hp,J⟩;have fp:=L p hp;obtain⟨W,Y⟩:=fp;obtain⟨Z,q2⟩:=I;have fin:∀x y,dE x y p=true->(((q.x0-1<=x/\x<q.x1+1)/\q.y0<=y/\y<q.y1)\/((q.x0<=x/\x<q.x1)/\q.y0-1<=y/\y<q.y1+1))->∃x y,at' (A) x y=true:=fun x y z D=>⟨x,y,by
   rw[V,aaZ,c2,aci];exact⟨⟨p,hp,z⟩,(N x y).2 D⟩⟩
  rcases jY.1 J with⟨z,D⟩ | ⟨z,D⟩
  ·unfold dN at z;unfold dO at D;obtain⟨u,⟨u1,u2⟩,u3⟩:=Rc z;obtain⟨v,⟨v1,v2⟩,v3⟩:=Rb Y q2 D;exact fin u v (aQ.2 ⟨u1,u2,v1,v2⟩) (.inr ⟨u3,v3⟩)
  unfold dN at z;unfold dO at D;obtain⟨u,⟨u1,u2⟩,u3⟩:=Rb W Z z;obtain⟨v,⟨v1,v2⟩,v3⟩:=Rc D;exact fin u v (aQ.2 ⟨u1,u2,v1,v2⟩) (.inl ⟨u3,v3⟩)
 rintro⟨x,y,h⟩;rw[V,aaZ,c2,aci]at h;obtain⟨⟨p,hp,z⟩,D⟩:=h;obtain⟨W,Y⟩:=L p hp;obtain⟨Z,q2⟩:=I;obtain⟨g1,g2,g3,g4⟩:=aQ.1 z;refine⟨p,hp,jY.2 ?_⟩;rcases (N x y).1 D with⟨⟨k1,k2⟩,k3,k4⟩ | ⟨⟨k1,k2⟩,k3,k4⟩
 ·exact .inr ⟨Re W Z g1 g2 k1 k2,Rf g3 g4 k3 k4⟩
 exact .inl ⟨Rf g1 g2 k1 k2,Re Y q2 g3 g4 k3 k4⟩
end Reg
namespace M
open Reg (ae an bE cv Full told aB E1 bN uo nM a_ coreS at' dE ff aeB fT)
theorem zT{T:List an}(h:bE T)(z:T≠[]):∃r t,told T=r::t/\(r.x0,r.y0)=jq T:=by
 cases T with
 | nil=>exact absurd rfl z
 | cons b T=>
  have hb:=(Reg.bE.head h).ne;cases hx:b.xs with
  | nil=>exact absurd hx hb
  | cons p xs=>
   refine⟨⟨p.1,b.y0,p.2,b.y1⟩,(xs.map fun p=>⟨p.1,b.y0,p.2,b.y1⟩)++told T,?_,?_⟩
   ·unfold told;rw[abz,hx,aa8,aaI]
   rw[jq,hx];rfl
theorem told_none{T:List an}(h:bE T):(told T).length=0↔T=[]:=by
 constructor
 ·intro e;exact Reg.qD h (adN.1 e)
 intro e;rw[e];rfl
theorem NP{q:ae}(D:Full q){n:Int}(z:0<=n):aB [ff q n]=a_ (aB [q]) n n n n:=by
 obtain⟨U,I⟩:=Reg.gz D;obtain⟨V,W⟩:=Reg.gz (Reg.l6 D z);obtain⟨Y,Z,_⟩:=Reg.bW U z z z z;refine Reg.iK _ _ V Y fun x y=>?_;rw[W,abb,Z];obtain⟨q1,q2⟩:=D;constructor
 ·intro h;obtain⟨J,L,N,O⟩:=Reg.aQ.1 h;simp only[ff]at J L N O;refine⟨max q.x0 (min x (q.x1-1)),max q.y0 (min y (q.y1-1)),?_,by omega,by omega,by omega,by omega⟩;rw[I];exact Reg.aQ.2 ⟨by omega,by omega,by omega,by omega⟩
 rintro⟨a,b,R,h2,h3,h4,h5⟩;rw[I]at R;obtain⟨J,L,N,O⟩:=Reg.aQ.1 R;refine Reg.aQ.2 ?_;simp only[ff];exact⟨by omega,by omega,by omega,by omega⟩
theorem NQ{low high:Int}(h:-1<=low)(hl:low<high):(low+high+1).tdiv 2=low+(high-low+1).tdiv 2:=by
 rw[abk (by omega),abk (by omega)];omega
theorem agK{h:Int->Bool}(N:∀m n,0<=m->m<=n->h n=true->h m=true)(J:h 0=true){l:Int}(hl:0<=l)(L:h l=false):gn h l.toNat 0 l=dL h l:=by
 obtain⟨a1,a2,O,R⟩:=pC h l.toNat 0 l (by omega) hl;obtain⟨b1,b2,U,z⟩:=HD hl L;generalize gn h l.toNat 0 l=x at *;generalize dL h l=y at *;have D:h x=true:=by
  rcases O with e | e
  ·rw[e];exact J
  exact e
 have I:h (x+1)=false:=by
  rcases R with e | e
  ·rw[e,L]at D;cases D
  exact e
 have y0:0<=y:=by
  by_cases c:y=-1
  ·rw[c]at z;have z:h 0=false:=z;rw[J]at z;cases z
  omega
 have V:h y=true:=by
  rcases U with e | e
  ·omega
  exact e
 exact Reg.ag2 N (by omega) y0 D I V z
theorem ag3{s:List an}(z:bE s){w:Int}(I:0<=w)(J:E1 s w≠[]):gn (fun n=>decide (E1 s n=[])) w.toNat 0 w=dL (fun n=>decide (E1 s n=[])) w:=by
 refine agK (fun m n hm D h=>?_) ?_ I ?_
 ·rw[aaH]at h ⊢;refine Reg.qC (Reg.aeS z m).1 fun x y=>?_;cases e:at' (E1 s m) x y with
  | false=>rfl
  | true=>
   have:=Reg.agZ z D x y e;rw[h]at this;cases this
 ·rw[aaH];exact Reg.ahb z (by decide)
 rw[abF];exact J
theorem FJ{q:ae}(N:Full q){c:List an}(O:bE c){g:Int}(D:0<=g)(I:Reg.eJ q c g≠[]):
  Reg.gT (told (Reg.eJ q c g)) q-1=dL (fun n=>decide (n<0)||decide (Reg.eJ q c n=[])) g:=by
 obtain⟨l1,l2,J⟩:=Reg.afz N O D I;generalize Reg.gT (told (Reg.eJ q c g)) q=L at *;have R:(decide (g<0)||decide (Reg.eJ q c g=[]))=false:=by
  rw[adX,abF,abF];exact⟨by omega,I⟩
 obtain⟨b1,b2,U,z⟩:=HD (h:=fun n=>decide (n<0)||decide (Reg.eJ q c n=[])) D R;generalize dL (fun n=>decide (n<0)||decide (Reg.eJ q c n=[])) g=G at *;rw[adX,abF,abF]at z;obtain⟨z,V⟩:=z;rw[J (G+1) (by omega) (by omega)]at V;rcases U with e | e
 ·omega
 rw[adZ,aaH,aaH]at e;rcases e with e | e
 ·omega
 by_cases G0:G<0
 ·omega
 rw[J G (by omega) (by omega)]at e;omega
open Go.AM Go.RowKit Go.Lib
open Reg (RK dy dp dD dJ en dN dO)
theorem vS(q:ae)(n:Int)(z:jZ q)(h0:0<=n)(h1:n<=1000000):af C 94 [.pv (.ag (rc q)),.pv (i64 n)] (.p (.ag (rc (ff q n)))) []:=by
 unfold jZ at z;refine fW hC Tryz.func94 rfl (by kernel_rfl) fun _=>?_;refine⟨wO (by omega),wO (by omega),wO (by omega),wO (by omega),?_,trivial⟩;rfl
theorem sW{q:ae}(h:RK 2000000 q)(f:Full q):jZ q:=by
 obtain⟨a,b⟩:=f;unfold RK at h;unfold jZ;omega
theorem HQ(s:List an)(D:bE s)(ks:cv 1200000 s)(n:Int)(I:0<=n)(h1:n<=100000):af C 135 [.pv (aj (told s)),.pv (i64 n)] (.p (aj (told (a_ s n n n n)))) []:=by
 have J:=ai (told s) rc;have U:=Reg.fj D (ks.up (by omega));have L:=Reg.bP D;have hk:=Reg.fR D ks;have V:=vR (l:=(told s).map fun q=>ff q n) (fun q z=>by
  obtain⟨p,hp,rfl⟩:=adS.1 z;exact Reg.l6 (L p hp) I) (fun q z=>by
  obtain⟨p,hp,rfl⟩:=adS.1 z;have:=hk p hp;unfold RK at this ⊢;simp only[ff];omega) (by rw[aej];exact U)
 have e:a_ s n n n n=aB ((told s).map fun q=>ff q n):=rfl;rw[e];refine fW hC Tryz.func135 rfl (by kernel_rfl) fun _=>?_;refine aJ (fun i:Nat=>i<=(told s).length) (fun i=>[(0,.p (aj (told s))),(1,.p (i64 n)),(5,.ow 5),(6,.p (i64 i))]) (fun i=>[(5,.row 87 ((((told s).take i).map fun q=>ff q n).map rc))]) (fun i=>(told s).length-i) 0 _ (au.dk hC _ 5 87 _ (by decide) rfl rfl (by decide)) (aaj _) ⟨Z,Z,Z,Z,Y⟩ ⟨Z,Y⟩ fun i hi t h=>?_;have N:=ai (((told s).take i).map fun q=>ff q n) rc;have ZG:(((told s).take i).map fun q=>ff q n).length<=i:=by rw[aej,aat];omega
 apply iW<;>intro g
 ·rw[J]at g;obtain⟨q,z⟩:=ak (l:=told s) (i:=i) (by omega);have O:=aad z;exact⟨(rc q),(idx rfl z),_,_,(vS q n (sW (by have:=hk q O;unfold RK at this ⊢;omega) (L q O)) I (by omega)),⟨fun r R=>by simp at R;subst R;rfl,by simp only[N,aaB,acs,aaM,aan];omega,by simp only[N,aaB,acs,aaM,aan];omega⟩,wO (by omega),(i+1),_,au.refl _ _,by omega,by omega,⟨Z,Z,Z,Z,Y⟩,⟨by rw[aZ z,abE,abE];rfl,trivial⟩⟩
 rw[J]at g;have e2:(told s).take i=told s:=adW (by omega);rw[e2]at *;refine⟨_,_,V,?_,trivial⟩;rfl
theorem uK(r:List ae)(x:ae)(z:r[0]?=some x):af C 56 [.pv (aj r)] (.p (.ag [i64 x.x0,i64 x.y0])) []:=by
 refine fW hC Tryz.func56 rfl (by kernel_rfl) fun _=>?_;refine⟨(rc x),(idx (i:=0) rfl z),(rc x),(idx (i:=0) rfl z),?_,trivial⟩;rfl
theorem vT(a b:ae)(z:jZ a)(hb:jZ b):af C 59 [.pv (.ag (rc a)),.pv (.ag (rc b))] (.p (i64 (fT a b))) []:=by
 unfold jZ at z hb;refine fW hC Tryz.func59 rfl (by kernel_rfl) fun _=>?_;refine⟨wO (by omega),wO (by omega),wO (by omega),wO (by omega),wO (by omega),wO (by omega),wO (by omega),wO (by omega),?_,trivial⟩;have e:fT a b=max (max (max (max 0 (b.x0-(a.x1-1))) (a.x0-(b.x1-1))) (b.y0-(a.y1-1))) (a.y0-(b.y1-1)):=by unfold fT Reg.bA;omega
 rw[e];rfl
theorem FK(r:List ae)(q:ae)(O:∀p∈r,jZ p)(R:jZ q)(hN:r.length<=4398046511104):af C 131 [.pv (aj r),.pv (.ag (rc q))] (.p (bool (r.any fun p=>en p q))) []:=by
 have J:=ai r rc;refine fW hC Tryz.func131 rfl (by kernel_rfl) fun _=>?_;refine aJ (fun i:Nat=>((r.drop i).any fun p=>en p q)=(r.any fun p=>en p q)) (fun i=>[(0,.p (aj r)),(3,.bx 3 0),(5,.p (i64 i))]) (fun _=>[(3,.box ((rc q).map .p))]) (fun i=>r.length-i) 0 _ (au.refl _ _) rfl ⟨Z,Z,Z,Y⟩ ⟨Z,Y⟩ fun i hi t h=>?_;apply iW<;>intro L
 ·rw[J]at L;obtain⟨p,hp⟩:=ak (l:=r) (i:=i) (by omega);have mp:=O p (aad hp);rw[drop_at hp,abd]at hi;have U:en p q=((decide (0<dN p q)&&decide (0<=dO p q))||(decide (0<=dN p q)&&decide (0<dO p q))):=rfl;rw[U]at hi;unfold jZ at mp R;refine⟨(rc p),(idx rfl hp),(rc p),(idx rfl hp),wO (by omega),(rc p),(idx rfl hp),(rc p),(idx rfl hp),wO (by omega),?_⟩;have V:dN p q=min p.x1 q.x1-max p.x0 q.x0:=rfl;have W:dO p q=min p.y1 q.y1-max p.y0 q.y0:=rfl;rw[V,W]at hi;generalize min p.x1 q.x1-max p.x0 q.x0=u at hi ⊢;generalize min p.y1 q.y1-max p.y0 q.y0=v at hi ⊢;apply iW<;>intro D
  ·apply iW<;>intro N
   ·refine⟨?_,trivial⟩;rw[<-hi,acd D,acd N];rfl
   apply iW<;>intro I
   ·apply iW<;>intro z
    ·exfalso;omega
    exact⟨wO (by omega),(i+1),_,au.refl _ _,by rw[<-hi,aaz N,aaz z];simp,by omega,⟨Z,Z,Z,Y⟩,⟨Z,Y⟩⟩
   exfalso;omega
  apply iW<;>intro I
  ·apply iW<;>intro z
   ·refine⟨?_,trivial⟩;rw[<-hi,acd I,acd z];simp;rfl
   exact⟨wO (by omega),(i+1),_,au.refl _ _,by rw[<-hi,aaz D,aaz z];simp,by omega,⟨Z,Z,Z,Y⟩,⟨Z,Y⟩⟩
  exact⟨wO (by omega),(i+1),_,au.refl _ _,by rw[<-hi,aaz D,aaz I];simp,by omega,⟨Z,Z,Z,Y⟩,⟨Z,Y⟩⟩
 rw[J]at L;rw[ab1 (by omega)]at hi;refine⟨?_,trivial⟩;rw[<-hi];rfl
theorem Dv(r:List ae)(I:r≠[])(hN:r.length<=4398046511104):af C 95 [.pv (aj r)] (.p (.ag (rc (dy r)))) []:=by
 have lm:=ai r rc;obtain⟨x,D⟩:=ak (l:=r) (i:=0) (by cases r with | nil=>exact absurd rfl I | cons _ _=>simp);have J:dD r=x:=by rw[dD,ad4,D];rfl
 have e:dy r=r.foldl dp x:=by rw[dy,J]
 rw[e];refine uX ⟨[],[],[],[],[(5,[true,true,true,true,true,true,true,true,true,true,true,true,false,true,false,true,true,true,true,true,false,true,false,true,true,true,true,true,false,true,false,true,true,false,true,false,true,false,true,true])],[]⟩ hC Tryz.func95 rfl (by kernel_rfl) fun _=>?_;refine⟨(rc x),(idx (i:=0) rfl D),?_⟩;refine aJ (fun y:Nat×ae=>(r.drop y.1).foldl dp y.2=r.foldl dp x) (fun y=>[(0,.p (aj r)),(2,.bx 2 0),(3,.bx 3 0),(4,.p (i64 y.1))]) (fun y=>[(2,.box [.p (i64 0),.p (i64 0),.p (i64 0),.p (i64 0)]),(3,.box ((rc y.2).map .p))]) (fun y=>r.length-y.1) (0,x) _ (au.refl _ _) rfl ⟨Z,Z,Z,Z,Y⟩ ⟨Z,Z,Y⟩ fun ⟨i,o⟩ hi t h=>?_;simp only at hi;apply iW<;>intro g<;>try simp only[zB]at g
 ·obtain⟨q,z⟩:=ak (l:=r) (i:=i) (by omega);rw[drop_at z,aaq]at hi;exact⟨(rc q),(idx rfl z),(rc q),(idx rfl z),(rc q),(idx rfl z),(rc q),(idx rfl z),wO (by omega),(i+1,dp o q),_,au.refl _ _,hi,by simp only;omega,⟨Z,Z,Z,Z,Y⟩,⟨Z,Z,Y⟩⟩
 rw[ab1 (by omega)]at hi;have hi:o=r.foldl dp x:=hi;refine⟨?_,trivial⟩;rw[<-hi];rfl
end M
namespace Reg
def mS(l:List Int)(n:Int):Bool:=l.any fun x=>decide (x=n)
theorem oA{l:List Int}{n:Int}:mS l n=true↔n∈l:=by simp[mS]
def fZ(l:List Int)(n:Int):Nat->Nat
 | 0=>0
 | k+1=>if n<l.getD k 0 then fZ l n k else k+1
def oB(l:List Int)(n:Int):List Int:=if 0<fZ l n l.length/\l.getD (fZ l n l.length-1) 0=n then l else (l.take (fZ l n l.length)++[n])++l.drop (fZ l n l.length)
theorem uL(l:List Int)(n:Int):∀k,k<=l.length->fZ l n k<=k/\(∀i,fZ l n k<=i->i<k->n<l.getD i 0)/\(0<fZ l n k->l.getD (fZ l n k-1) 0<=n)
 | 0,_=>⟨aam _,fun i _ h=>by omega,fun h=>by simp[fZ]at h⟩
 | k+1,hk=>by
  rw[fZ];by_cases c:n<l.getD k 0
  ·rw[aap c];obtain⟨h1,D,I⟩:=uL l n k (by omega);refine⟨by omega,fun i z J=>?_,I⟩;by_cases e:i=k
   ·rw[e];exact c
   exact D i z (by omega)
  rw[aaa c];exact⟨aam _,fun i z J=>by omega,fun _=>by simpa using c⟩
theorem jL{l:List Int}(h:bF l){i j:Nat}(hi:i<j)(z:j<l.length):l.getD i 0<l.getD j 0:=by
 have:=aaS.1 h i j (by omega) z hi;rw[ad4,ad4,acg (by omega),acg z];exact this
theorem zU{l:List Int}{i:Nat}(h:i<l.length):l[i]=l.getD i 0:=by rw[ad4,acg h];rfl
theorem sX{l:List Int}(h:bF l)(n:Int):bF (oB l n)/\∀x,x∈oB l n↔x∈l\/x=n:=by
 obtain⟨J,D,I⟩:=uL l n l.length (aam _);rw[oB];generalize fZ l n l.length=k at J D I ⊢;by_cases c:0<k/\l.getD (k-1) 0=n
 ·rw[aap c];refine⟨h,fun x=>⟨.inl,fun g=>g.elim id fun e=>?_⟩⟩;rw[e,<-c.2,<-zU (by omega)];exact adn _
 rw[aaa c];have lo:∀a∈l.take k,a<n:=fun a z=>by
  obtain⟨i,hi,rfl⟩:=List.mem_iff_getElem.1 z;rw[aat]at hi;rw[List.getElem_take,zU (by omega)];have h5:=I (by omega);have h6:¬l.getD (k-1) 0=n:=fun e=>c ⟨by omega,e⟩;by_cases e:i=k-1
  ·rw[e];omega
  have:=jL h (i:=i) (j:=k-1) (by omega) (by omega);omega
 have hi:∀b∈l.drop k,n<b:=fun b hb=>by
  obtain⟨i,hi,rfl⟩:=List.mem_iff_getElem.1 hb;rw[aaN]at hi;rw[List.getElem_drop,zU (by omega)];exact D _ (by omega) (by omega)
 refine⟨?_,fun x=>?_⟩
 ·rw[bF,abx,abZ];refine⟨adK (List.take_sublist _ _) h,?_,fun a z b hb=>?_⟩
  ·rw[ac3,ade];exact⟨hi,adK (List.drop_sublist _ _) h⟩
  have:=lo a z;rcases abi.1 hb with g | g
  ·rw[ab_.1 g];exact this
  have:=hi b g;omega
 rw[abi,abi,ab_];have:x∈l↔x∈l.take k\/x∈l.drop k:=by rw[<-abi,aaU]
 rw[this];constructor
 ·rintro ((g | g) | g)
  ·exact .inl (.inl g)
  ·exact .inr g
  exact .inl (.inr g)
 rintro ((g | g) | g)
 ·exact .inl (.inl g)
 ·exact .inr g
 exact .inl (.inr g)
structure sY where
 seen:List Bool
 pieces:List Int
 bores:List Int
 used:List Bool
 todo:List Int
def pI(s:sY)(p:Int):sY:=if s.seen.getD p.toNat true=true then s else ⟨s.seen.set p.toNat true,oB s.pieces p,s.bores,s.used,s.todo++[p]⟩
def nO(T:List (List Int))(x:Int)(s:sY)(j:Nat):sY:=if s.used.getD j true=true\/mS (T.getD j []) x=false then s else (T.getD j []).foldl pI ⟨s.seen,s.pieces,oB s.bores j,s.used.set j true,s.todo⟩
def p_(T:List (List Int)):Nat->Nat->sY->sY
 | 0,_,s=>s
 | f+1,i,s=>if i<s.todo.length then p_ T f (i+1) ((List.range T.length).foldl (nO T (s.todo.getD i 0)) s) else s
def eH(T:List (List Int))(n i:Nat)(seen:List Bool):sY:=p_ T n 0 ⟨seen.set i true,[(i:Int)],[],List.replicate T.length false,[(i:Int)]⟩
structure jc(T:List (List Int))(n:Nat)(D0:List Bool)(s:sY):Prop where
 len:s.seen.length=n
 ulen:s.used.length=T.length
 nod:s.todo.Nodup
 mem:∀p∈s.todo,(0<=p/\p<n)/\D0.getD p.toNat true=false
 done:∀p:Int,0<=p->p<n->(s.seen.getD p.toNat true=true↔D0.getD p.toNat true=true\/p∈s.todo)
 pr:bF s.pieces
 pm:∀p,p∈s.pieces↔p∈s.todo
 br:bF s.bores
 bm:∀x,x∈s.bores↔∃j:Nat,x=j/\j<T.length/\s.used.getD j true=true
structure iZ(s t:sY):Prop where
 todo:∃v,t.todo=s.todo++v
 used:∀j,s.used.getD j true=true->t.used.getD j true=true
theorem iZ.refl(s:sY):iZ s s:=⟨⟨[],by simp⟩,fun _ h=>h⟩
variable {s:sY}
theorem iZ.trans{t u:sY}(h:iZ s t)(k:iZ t u):iZ s u:=by
 obtain⟨v,z⟩:=h.todo;obtain⟨w,D⟩:=k.todo;exact⟨⟨v++w,by rw[D,z,abx]⟩,fun j I=>k.used j (h.used j I)⟩
theorem iZ.mem{t:sY}(h:iZ s t){p:Int}(hp:p∈s.todo):p∈t.todo:=by
 obtain⟨v,z⟩:=h.todo;rw[z];exact abY _ hp
variable {D0:List Bool}
theorem Ji{T:List (List Int)}{n:Nat}(h:jc T n D0 s){p:Int}(z:0<=p)(D:p<n):
  jc T n D0 (pI s p)/\iZ s (pI s p)/\(∀x,x∈(pI s p).todo↔x∈s.todo\/(x=p/\D0.getD p.toNat true=false))/\(pI s p).used=s.used:=by
 rw[pI];by_cases c:s.seen.getD p.toNat true=true
 ·rw[aap c];refine⟨h,iZ.refl s,fun x=>⟨.inl,fun g=>g.elim id fun ⟨e,g⟩=>?_⟩,rfl⟩;rcases (h.done p z D).1 c with k | k
  ·rw[g]at k;cases k
  rw[e];exact k
 rw[aaa c];have I:¬(D0.getD p.toNat true=true\/p∈s.todo):=fun g=>c ((h.done p z D).2 g);have J:D0.getD p.toNat true=false:=by
  cases e:D0.getD p.toNat true with
  | false=>rfl
  | true=>exact absurd (.inl e) I
 obtain⟨L,N⟩:=sX h.pr p;refine⟨⟨by show (s.seen.set _ true).length=n;rw[aaM,h.len],h.ulen,?_,fun x O=>?_,fun x x0 R=>?_,L,fun x=>?_,h.br,h.bm⟩,⟨⟨[p],rfl⟩,fun _ g=>g⟩,fun x=>?_,rfl⟩
 ·show (s.todo++[p]).Nodup;rw[aef];refine⟨h.nod,by simp,fun a U b hb=>?_⟩;rw[ab_.1 hb];exact fun e=>I (.inr (e▸U))
 ·rcases abi.1 O with g | g
  ·exact h.mem x g
  rw[ab_.1 g];exact⟨⟨z,D⟩,J⟩
 ·show (s.seen.set p.toNat true).getD x.toNat true=true↔_\/x∈s.todo++[p];rw[jx (by rw[h.len];omega),abi,ab_];by_cases e:x.toNat=p.toNat
  ·rw[aap e];exact⟨fun _=>.inr (.inr (by omega)),fun _=>rfl⟩
  rw[aaa e,h.done x x0 R];constructor
  ·rintro (g | g)
   ·exact .inl g
   exact .inr (.inl g)
  rintro (g | g | g)
  ·exact .inl g
  ·exact .inr g
  exact absurd (by rw[g]) e
 ·show x∈oB s.pieces p↔x∈s.todo++[p];rw[N,h.pm,abi,ab_]
 show x∈s.todo++[p]↔_;rw[abi,ab_];exact⟨fun g=>g.elim .inl fun e=>.inr ⟨e,J⟩,fun g=>g.elim .inl fun e=>.inr e.1⟩
theorem zV{T:List (List Int)}{n:Nat}:∀(l:List Int) (s:sY),jc T n D0 s->(∀p∈l,0<=p/\p<n)->
  jc T n D0 (l.foldl pI s)/\iZ s (l.foldl pI s)/\(∀x,x∈(l.foldl pI s).todo↔x∈s.todo\/(x∈l/\D0.getD x.toNat true=false))/\(l.foldl pI s).used=s.used
 | [],s,h,_=>⟨h,iZ.refl s,fun x=>by simp,rfl⟩
 | p::l,s,h,hl=>by
  obtain⟨D,pn⟩:=hl p adU;obtain⟨I,J,L,N⟩:=Ji h D pn;obtain⟨O,R,U,V⟩:=zV l _ I fun x W=>hl x (aaw _ W);refine⟨O,J.trans R,fun x=>?_,V.trans N⟩;show x∈(l.foldl pI (pI s p)).todo↔_;rw[U,L,adq];constructor
  ·rintro ((g | ⟨g,z⟩) | ⟨g,z⟩)
   ·exact .inl g
   ·exact .inr ⟨.inl g,by rw[g];exact z⟩
   exact .inr ⟨.inr g,z⟩
  rintro (g | ⟨g | g,z⟩)
  ·exact .inl (.inl g)
  ·exact .inl (.inr ⟨g,by rw[<-g];exact z⟩)
  exact .inr ⟨g,z⟩
structure HR(c:Nat->Nat)(T:List (List Int))(n:Nat):Prop where
 tops:Dg c n
 Lf:∀j,∀p∈T.getD j [],0<=p/\p<n
 edge:∀j a b,a∈T.getD j []->b∈T.getD j []->c a.toNat=c b.toNat
 cl:∀S:Nat->Prop,(∀j a b,a∈T.getD j []->b∈T.getD j []->S a.toNat->S b.toNat)->∀k,k<n->S (c k)->S k
structure FL(T:List (List Int))(c:Nat->Nat)(r:Nat)(D0:List Bool)(s:sY):Prop where
 u1:∀j,j<T.length->s.used.getD j true=true->∀p∈T.getD j [],D0.getD p.toNat true=false->p∈s.todo
 u2:∀j,j<T.length->s.used.getD j true=true->∃a∈s.todo,a∈T.getD j []
 u4:∀p∈s.todo,c p.toNat=r
theorem P0{T:List (List Int)}{n:Nat}{c:Nat->Nat}(O:HR c T n){r:Nat}(h:jc T n D0 s)(g:FL T c r D0 s){x:Int}(R:x∈s.todo){j:Nat}(U:j<T.length):
  jc T n D0 (nO T x s j)/\FL T c r D0 (nO T x s j)/\iZ s (nO T x s j)/\(x∈T.getD j []->(nO T x s j).used.getD j true=true):=by
 rw[nO];by_cases k:s.used.getD j true=true\/mS (T.getD j []) x=false
 ·rw[aap k];refine⟨h,g,iZ.refl s,fun I=>?_⟩;rcases k with k | k
  ·exact k
  rw[oA.2 I]at k;cases k
 rw[aaa k];have I:x∈T.getD j []:=by
  refine oA.1 ?_;cases e:mS (T.getD j []) x with
  | true=>rfl
  | false=>exact absurd (.inr e) k
 obtain⟨b1,b2⟩:=sX h.br (j:Int);have z:∀i,(s.used.set j true).getD i true=true↔i=j\/s.used.getD i true=true:=fun i=>by
  rw[jx (by rw[h.ulen];exact U)];by_cases e:i=j<;>simp[e]
 have h1:jc T n D0 ⟨s.seen,s.pieces,oB s.bores j,s.used.set j true,s.todo⟩:=
  ⟨h.len,by show (s.used.set j true).length=_;rw[aaM,h.ulen],h.nod,h.mem,h.done,h.pr,h.pm,b1,fun y=>by
   show y∈oB s.bores j↔∃i:Nat,y=i/\i<T.length/\(s.used.set j true).getD i true=true;rw[b2,h.bm];constructor
   ·rintro (⟨i,e,L,N⟩ | e)
    ·exact⟨i,e,L,(z i).2 (.inr N)⟩
    exact⟨j,e,U,(z j).2 (.inl rfl)⟩
   rintro⟨i,e,L,N⟩;rcases (z i).1 N with e2 | e2
   ·exact .inr (by rw[e,e2])
   exact .inl ⟨i,e,L,e2⟩⟩
 obtain⟨c1,V,W,Y⟩:=zV (T.getD j []) _ h1 (O.Lf j);have st:iZ s ⟨s.seen,s.pieces,oB s.bores j,s.used.set j true,s.todo⟩:=⟨⟨[],by simp⟩,fun i hi=>(z i).2 (.inr hi)⟩;have J:=st.trans V;refine⟨c1,⟨fun i hi D p hp Z=>?_,fun i hi D=>?_,fun p hp=>?_⟩,J,fun _=>V.used j ((z j).2 (.inl rfl))⟩
 ·rw[Y]at D;rcases (z i).1 D with e | e
  ·rw[e]at hp;exact (W p).2 (.inr ⟨hp,Z⟩)
  exact J.mem (g.u1 i hi e p hp Z)
 ·rw[Y]at D;rcases (z i).1 D with e | e
  ·rw[e];exact⟨x,J.mem R,I⟩
  obtain⟨a,a1,a2⟩:=g.u2 i hi e;exact⟨a,J.mem a1,a2⟩
 rcases (W p).1 hp with e | ⟨e,_⟩
 ·exact g.u4 p e
 rw[O.edge j p x e I];exact g.u4 x R
theorem FM{T:List (List Int)}{n:Nat}{c:Nat->Nat}(D:HR c T n){r:Nat}{x:Int}:∀(l:List Nat) (s:sY),(∀j∈l,j<T.length)->jc T n D0 s->FL T c r D0 s->x∈s.todo ->
  jc T n D0 (l.foldl (nO T x) s)/\FL T c r D0 (l.foldl (nO T x) s)/\iZ s (l.foldl (nO T x) s)/\∀j∈l,x∈T.getD j []->(l.foldl (nO T x) s).used.getD j true=true
 | [],s,_,h,g,_=>⟨h,g,iZ.refl s,fun j L=>by cases L⟩
 | j::l,s,hl,h,g,hx=>by
  obtain⟨N,O,I,R⟩:=P0 D h g hx (hl j adU);obtain⟨U,V,J,W⟩:=FM D l _ (fun i hi=>hl i (aaw _ hi)) N O (I.mem hx);refine⟨U,V,I.trans J,fun i hi z=>?_⟩;rcases adq.1 hi with e | e
  ·rw[e]at z ⊢;exact J.used j (R z)
  exact W i e z
theorem FO{T:List (List Int)}{n:Nat}(h:jc T n D0 s):(s.todo.map Int.toNat).Nodup:=by
 have hp:=aaS.1 h.nod;refine aaS.2 fun i j hi z D=>?_;rw[aej]at hi z;rw[List.getElem_map,List.getElem_map];have a:=(h.mem _ (adn hi)).1;have b:=(h.mem _ (adn z)).1;have:=hp i j hi z D;omega
theorem jc.le{T:List (List Int)}{n:Nat}(h:jc T n D0 s):s.todo.length<=n:=by
 have:=aeg (l₁:=s.todo.map Int.toNat) (l₂:=List.range n) (FO h) fun k hk=>by
  obtain⟨p,hp,rfl⟩:=adS.1 hk;have:=(h.mem p hp).1;exact abD.2 (by omega)
 simpa using this
theorem Jj{T:List (List Int)}{n:Nat}{c:Nat->Nat}(I:HR c T n){r:Nat}(V:r<n)(R:∀k,k<n->c k=r->D0.getD k true=false):
  ∀(f i:Nat) (s:sY),jc T n D0 s->FL T c r D0 s->n<=f+i->(r:Int)∈s.todo->(∀m,m<i->m<s.todo.length->∀j,j<T.length->s.todo.getD m 0∈T.getD j []->s.used.getD j true=true)->
   jc T n D0 (p_ T f i s)/\(∀p,p∈(p_ T f i s).todo↔(0<=p/\p<n)/\c p.toNat=r)/\∀j,j<T.length->((p_ T f i s).used.getD j true=true↔∃a∈T.getD j [],c a.toNat=r)
 | f,i,s,h,g,hf,h0,h2=>by
  have fin:s.todo.length<=i->jc T n D0 s/\(∀p,p∈s.todo↔(0<=p/\p<n)/\c p.toNat=r)/\∀j,j<T.length->(s.used.getD j true=true↔∃a∈T.getD j [],c a.toNat=r):=fun hi=>by
   have full:∀a∈s.todo,∀j,j<T.length->a∈T.getD j []->s.used.getD j true=true:=fun a D j z L=>by
    obtain⟨m,J⟩:=ab8.1 D;obtain⟨W,m2⟩:=aao.1 J;have e:s.todo.getD m 0=a:=by rw[ad4,J];rfl
    exact h2 m (by omega) W j z (by rw[e];exact L)
   have all:∀p:Int,0<=p->p<n->c p.toNat=r->p∈s.todo:=fun p N pn e=>by
    have:=I.cl (fun k=>(k:Int)∈s.todo) (fun j a b D hb hS=>?_) p.toNat (by omega) (by show ((c p.toNat:Nat):Int)∈s.todo;rw[e];exact h0)
    ·rw[aee N]at this;exact this
    have Y:=(I.Lf j a D).1;have Z:=I.Lf j b hb;rw[aee Y]at hS;rw[aee Z.1];have z:j<T.length:=by
     rcases aen j T.length with q | q
     ·exact q
     rw[ad4,abI q]at D;cases D
    refine g.u1 j z (full a hS j z D) b hb (R _ (by omega) ?_);rw[I.edge j b a hb D];exact g.u4 a hS
   refine⟨h,fun p=>⟨fun hp=>⟨(h.mem p hp).1,g.u4 p hp⟩,fun ⟨⟨N,pn⟩,e⟩=>all p N pn e⟩,fun j z=>⟨fun hu=>?_,fun ⟨a,D,e⟩=>?_⟩⟩
   ·obtain⟨a,a1,a2⟩:=g.u2 j z hu;exact⟨a,a2,g.u4 a a1⟩
   have:=I.Lf j a D;exact full a (all a this.1 this.2 e) j z D
  match f,hf with
  | 0,hf=>exact fin (by have:=h.le;omega)
  | f+1,hf=>
   rw[p_];by_cases k:i<s.todo.length
   ·rw[aap k];have ex:s.todo.getD i 0=s.todo[i]:=by rw[ad4,acg k];rfl
    have L:s.todo.getD i 0∈s.todo:=by rw[ex];exact adn k
    obtain⟨b1,b2,O,b4⟩:=FM I (List.range T.length) s (fun j z=>abD.1 z) h g L;refine Jj I V R f (i+1) _ b1 b2 (by omega) (O.mem h0) fun m hmi hml j z J=>?_;obtain⟨v,hv⟩:=O.todo;have U:m<s.todo.length:=by omega
    have e0:(s.todo++v).getD m 0=s.todo.getD m 0:=by rw[ad4,aaE U,<-ad4]
    rw[hv,e0]at J;by_cases e:m=i
    ·rw[e]at J;exact b4 j (abD.2 z) J
    exact O.used j (h2 m (by omega) U j z J)
   rw[aaa k];exact fin (by omega)
theorem BY{m:Nat}:∀(l:List Int) (u:List Int) (E:List (Nat×Nat)),HL E u->m<u.length->(∀p∈l,0<=p/\p.toNat<u.length)->∃D,HL (E++D) (r_ m l u)/\∀e,e∈D↔∃p∈l,e=(p.toNat,m)
 | [],u,E,h,_,_=>⟨[],by rw[acw];exact h,fun e=>by simp⟩
 | p::r,u,E,h,hm,hl=>by
  have J:=FA h (i:=p.toNat) (k:=m) (hl p adU).2 hm;have z:=(mC h.uf (i:=p.toNat) (k:=m) (hl p adU).2 hm).2;obtain⟨D,I,L⟩:=BY r _ _ J (by rw[z];exact hm) fun q N=>by rw[z];exact hl q (aaw _ N)
  refine⟨(p.toNat,m)::D,by rw[abx,ac3]at I;exact I,fun e=>?_⟩;rw[adq,L];simp only[adq,exists_eq_or_imp]
theorem BZ{n nb:Nat}:∀(l:List (List Int)) (k:Nat) (u:List Int) (E:List (Nat×Nat)),HL E u->u.length=n+nb->k+l.length<=nb->(∀x∈l,∀p∈x,0<=p/\p<n)->
  ∃D,HL (E++D) (uz n k l u)/\∀e,e∈D↔∃j:Nat,∃p∈l.getD j [],e=(p.toNat,n+(k+j))
 | [],k,u,E,h,_,_,_=>⟨[],by rw[acw];exact h,fun e=>by simp⟩
 | x::r,k,u,E,h,hl,hk,hx=>by
  simp only[aaB]at hk;obtain⟨D,z,I⟩:=BY (m:=n+k) x u E h (by omega) fun p hp=>by have:=hx x adU p hp;omega
  have J:=(zC (m:=n+k) x u h.uf (by omega) fun p hp=>by have:=hx x adU p hp;omega).2;obtain⟨L,N,O⟩:=BZ r (k+1) _ _ z (J.trans hl) (by omega) fun y R=>hx y (aaw _ R);refine⟨D++L,by rw[<-abx];exact N,fun e=>?_⟩;rw[abi,I,O];constructor
  ·rintro (⟨p,hp,rfl⟩ | ⟨j,p,hp,rfl⟩)
   ·exact⟨0,p,hp,rfl⟩
   exact⟨j+1,p,by simpa using hp,by rw[show n+(k+1+j)=n+(k+(j+1)) by omega]⟩
  rintro⟨j,p,hp,rfl⟩;cases j with
  | zero=>exact .inl ⟨p,by simpa using hp,rfl⟩
  | succ j=>exact .inr ⟨j,p,by simpa using hp,by rw[show n+(k+1+j)=n+(k+(j+1)) by omega]⟩
structure VH(c:Nat->Nat)(T:List (List Int))(n:Nat):Prop where
 tops:Dg c (n+T.length)
 pc:HR c T n
 e1:∀j,∀a∈T.getD j [],c a.toNat=c (n+j)
 e2:∀j,j<T.length->T.getD j []=[]->∀m,m<n+T.length->c m=c (n+j)->m=n+j
theorem B0{n:Nat}{T:List (List Int)}(O:∀x∈T,∀p∈x,0<=p/\p<n):VH (cQ (jm n T.length T)) T n:=by
 obtain⟨D,z,L⟩:=BZ (n:=n) (nb:=T.length) T 0 (iota (n+T.length)) [] (Fz _) (aeM _) (by omega) O;have z:HL D (jm n T.length T):=z;have len:(jm n T.length T).length=n+T.length:=(qM T 0 _ (ny _) (aeM _) (by omega) O).2;have L:∀e,e∈D↔∃j:Nat,∃p∈T.getD j [],e=(p.toNat,n+j):=fun e=>by rw[L e];simp only[abC]
 generalize jm n T.length T=U at z len;have J:=rz z.uf;rw[len]at J;have lt:∀{j:Nat} {a:Int},a∈T.getD j []->j<T.length:=fun {j a} I=>by
  rcases aen j T.length with q | q
  ·exact q
  rw[ad4,abI q]at I;cases I
 have Lf:∀j,∀p∈T.getD j [],0<=p/\p<n:=fun j p hp=>by
  have N:=lt hp;rw[ad4,acg N]at hp;exact O _ (adn N) p hp
 have e1:∀j,∀a∈T.getD j [],cQ U a.toNat=cQ U (n+j):=fun j a I=>by
  have:=Lf j a I;have N:=lt I;exact (ae8 z.uf (by omega) (by omega)).1 (z.edge _ ((L _).2 ⟨j,a,I,rfl⟩)).2.2
 refine⟨J,⟨⟨fun m Y=>J.le m (by omega),fun m Y=>J.top m (by omega)⟩,Lf,fun j a b I hb=>(e1 j a I).trans (e1 j b hb).symm,fun S hS k hk R=>?_⟩,e1,fun j N V m Y R=>?_⟩
 ·have hle:=J.le k (by omega);have W:kU U (cQ U k) k:=(ae8 z.uf (by omega) (by omega)).2 (J.top k (by omega));have:=z.cl (fun x=>if x<n then S x else ∃a∈T.getD (x-n) [],S a.toNat) (fun e V=>?_) _ _ W
  ·simp only[aap hk,aap (show cQ U k<n by omega)]at this;exact this.1 R
  obtain⟨j,p,hp,rfl⟩:=(L e).1 V;have:=Lf j p hp;simp only[aap (show p.toNat<n by omega),aaa (show ¬n+j<n by omega),abG];exact⟨fun g=>⟨p,hp,g⟩,fun ⟨a,I,g⟩=>hS j a p I hp g⟩
 have W:kU U m (n+j):=(ae8 z.uf (by omega) (by omega)).2 R;refine (z.cl (fun x=>x=n+j) (fun e Z=>?_) _ _ W).2 rfl;obtain⟨i,p,hp,rfl⟩:=(L e).1 Z;have:=Lf i p hp;show p.toNat=n+j↔n+i=n+j;constructor
 ·intro g;omega
 intro g;have:i=j:=by omega
 rw[this,V]at hp;cases hp
def Dw(c:Nat->Nat)(n r:Nat):List Int:=(dh c n r).map fun (k:Nat)=>(k:Int)
def zW(c:Nat->Nat)(T:List (List Int))(r:Nat):List Int:=((List.range T.length).filter fun j=>(T.getD j []).any fun a=>decide (c a.toNat=r)).map fun (k:Nat)=>(k:Int)
theorem zX(f:Nat->Bool)(n:Nat):bF (((List.range n).filter f).map fun (k:Nat)=>(k:Int)):=by
 rw[bF,abe];refine adO ?_ (adK acf List.pairwise_lt_range);intro a b h;omega
theorem KZ(c:Nat->Nat)(n r:Nat):bF (Dw c n r):=zX _ n
def j_(T:List (List Int))(n:Nat)(s:List Bool×List bh)(i:Nat):List Bool×List bh:=
 if s.1.getD i true=true then s else ((eH T n i s.1).seen,s.2++[⟨(eH T n i s.1).pieces,(eH T n i s.1).bores,[]⟩])
theorem K1{T:List (List Int)}{n:Nat}{c:Nat->Nat}(W:HR c T n){D0:List Bool}(hl:D0.length=n){r:Nat}(J:r<n)(hk:c r=r)(R:∀k,k<n->c k=r->D0.getD k true=false):
  (eH T n r D0).seen.length=n/\(∀k,k<n->((eH T n r D0).seen.getD k true=true↔D0.getD k true=true\/c k=r))/\(eH T n r D0).pieces=Dw c n r/\(eH T n r D0).bores=zW c T r:=by
 have Y:=R r J hk;have L:∀j,j<T.length->(List.replicate T.length false).getD j true=true->False:=fun j D h=>by
  rw[ad4,aeb,aap D]at h;cases h
 obtain⟨h,U,V⟩:=Jj W (D0:=D0) J R n 0 ⟨D0.set r true,[(r:Int)],[],List.replicate T.length false,[(r:Int)]⟩
  ⟨by show (D0.set r true).length=n;rw[aaM,hl],aan,by simp,fun p hp=>by
   rw[ab_.1 hp];exact⟨⟨by omega,by omega⟩,by rw[ad2];exact Y⟩,fun p p0 pn=>by
   show (D0.set r true).getD p.toNat true=true↔_\/p∈[(r:Int)];rw[jx (by rw[hl];exact J),ab_];by_cases e:p.toNat=r
   ·rw[aap e];exact⟨fun _=>.inr (by omega),fun _=>rfl⟩
   rw[aaa e];exact⟨.inl,fun g=>g.elim id fun g=>absurd (by rw[g];simp) e⟩,abw _ _,fun p=>aaT,List.Pairwise.nil,fun x=>⟨fun g=>(adI g).elim,fun ⟨j,_,z,I⟩=>(L j z I).elim⟩⟩
  ⟨fun j D N=>(L j D N).elim,fun j D N=>(L j D N).elim,fun p hp=>by rw[ab_.1 hp,ad2];exact hk⟩
  (by omega) (ab_.2 rfl) (fun m hm=>by omega)
 refine⟨h.len,fun k DK=>?_,nI _ _ h.pr (KZ c n r) fun p=>?_,nI _ _ h.br (zX _ _) fun x=>?_⟩
 ·have:=h.done (k:Int) (by omega) (by omega);rw[ad2,U,ad2]at this;rw[show (eH T n r D0)=p_ T n 0 ⟨D0.set r true,[(r:Int)],[],List.replicate T.length false,[(r:Int)]⟩ from rfl,this];exact⟨fun g=>g.imp id fun g=>g.2,fun g=>g.imp id fun g=>⟨⟨by omega,by omega⟩,g⟩⟩
 ·show p∈(p_ T n 0 _).pieces↔_;rw[h.pm,U,Dw,adS];constructor
  ·rintro⟨⟨a,b⟩,e⟩;exact⟨p.toNat,dx.2 ⟨by omega,e⟩,by omega⟩
  rintro⟨k,Z,rfl⟩;obtain⟨a,b⟩:=dx.1 Z;exact⟨⟨by omega,by omega⟩,by rw[ad2];exact b⟩
 show x∈(p_ T n 0 _).bores↔_;rw[h.bm,zW,adS];constructor
 ·rintro⟨j,e,z,I⟩;refine⟨j,adu.2 ⟨abD.2 z,aci.2 ?_⟩,e.symm⟩;obtain⟨a,O,e2⟩:=(V j z).1 I;exact⟨a,O,acd e2⟩
 rintro⟨j,D,rfl⟩;obtain⟨z,I⟩:=adu.1 D;have z:=abD.1 z;obtain⟨a,O,e2⟩:=aci.1 I;exact⟨j,rfl,z,(V j z).2 ⟨a,O,adw e2⟩⟩
theorem sZ{T:List (List Int)}{n:Nat}{c:Nat->Nat}(D:HR c T n):∀i,i<=n ->
  ((List.range i).foldl (j_ T n) (List.replicate n false,[])).1.length=n /\
  (∀k,k<n->(((List.range i).foldl (j_ T n) (List.replicate n false,[])).1.getD k true=true↔c k<i))/\
  ((List.range i).foldl (j_ T n) (List.replicate n false,[])).2=(cd c i).map fun r=>⟨Dw c n r,zW c T r,[]⟩
 | 0,_=>by
  refine⟨by simp,fun k hk=>?_,rfl⟩;simp[ad4,hk]
 | i+1,hi=>by
  obtain⟨l1,z,I⟩:=sZ D i (by omega);rw[ac2,aaD];generalize (List.range i).foldl (j_ T n) (List.replicate n false,[])=s at l1 z I ⊢;simp only[aaq,List.foldl_nil];have tp:=D.tops.le i (by omega);rw[fE];by_cases e:c i=i
  ·have J:s.1.getD i true=false:=by
    cases g:s.1.getD i true with
    | false=>rfl
    | true=>have:=(z i (by omega)).1 g;omega
   obtain⟨L,N,O,R⟩:=K1 D l1 (r:=i) (by omega) e fun k hk g=>by
    cases q:s.1.getD k true with
    | false=>rfl
    | true=>have:=(z k hk).1 q;omega
   rw[j_,aaa (by rw[J];simp),aap e];refine⟨L,fun k hk=>?_,?_⟩
   ·rw[N k hk,z k hk];omega
   show s.2++_=_;rw[O,R,I,abE];rfl
  have J:s.1.getD i true=true:=(z i (by omega)).2 (by omega);rw[aaa e,j_,aap J];refine⟨l1,fun k hk=>?_,I⟩;rw[z k hk];constructor
  ·intro g;omega
  intro g;by_cases e2:c k=i
  ·have:=D.tops.top k hk;rw[e2]at this;exact absurd this e
  omega
theorem zY(bs:List aS)(n g:Nat):∀(l:List Nat) (s:(List Int×List Int)×List Int×List Int),
  (l.foldl (jF bs n g) s).2.1=s.2.1++(l.filter fun i=>decide (i<n)).map (fun (i:Nat)=>(i:Int))/\
  (l.foldl (jF bs n g) s).2.2=s.2.2++(l.filter fun i=>!decide (i<n)&&bD bs (i-n)).map fun (i:Nat)=>(i:Int)-n
 | [],s=>by simp
 | i::l,s=>by
  obtain⟨z,D⟩:=zY bs n g l (jF bs n g s i);rw[aaq,z,D,jF];by_cases c:i<n
  ·rw[aap c,aby,aby];simp[c]
  rw[aaa c,aby,aby];have e:(bs.getD (i-n) ⟨0,0,0,0,0,false⟩).plated=bD bs (i-n):=rfl;rw[e];by_cases p:bD bs (i-n)=true
  ·rw[aap p];simp[c,p]
  rw[aaa p];simp[c,p]
def qT(bs:List aS)(n:Nat)(l:List Nat):bh:=⟨(l.filter fun i=>decide (i<n)).map (fun (i:Nat)=>(i:Int)),(l.filter fun i=>!decide (i<n)&&bD bs (i-n)).map (fun (i:Nat)=>(i:Int)-n),[]⟩
def B1(g:bh):Bool:=decide (0<g.pieces.length+g.bores.length)
theorem B2(bs:List aS)(n:Nat):∀(L:List (List Nat)) (s:(List Int×List Int)×List bh),(L.foldl (AT bs n) s).2=s.2++(L.map (qT bs n)).filter B1
 | [],s=>by simp
 | l::L,s=>by
  obtain⟨z,D⟩:=zY bs n s.2.length l (s.1,[],[]);rw[aaq,B2 bs n L,aa8,aby];have e:(AT bs n s l).2=s.2++if B1 (qT bs n l)=true then [qT bs n l] else []:=by
   show (if _ then _ else _)=_;rw[z,D,acZ,acZ];show (if 0<(qT bs n l).pieces.length+(qT bs n l).bores.length then s.2++[qT bs n l] else s.2)=_;by_cases c:B1 (qT bs n l)=true
   ·rw[aap c,aap (adw c)]
   rw[aaa c,aaa (fun g=>c (acd g)),acw]
  rw[e,abx];congr 1;by_cases c:B1 (qT bs n l)=true
  ·rw[aap c,aap c];rfl
  rw[aaa c,aaa c];rfl
def w8(bs:List aS)(T:List (List Int))(gs:List bh)(j:Nat):List bh:=if bD bs j=true/\(T.getD j []).length=0 then gs++[⟨[],[(j:Int)],[]⟩] else gs
def dR(bs:List aS)(T:List (List Int))(n:Nat):List bh:=(List.range T.length).foldl (w8 bs T) ((List.range n).foldl (j_ T n) (List.replicate n false,[])).2
theorem vV(bs:List aS)(T:List (List Int)):∀(l:List Nat) (z:List bh),l.foldl (w8 bs T) z=z++(l.filter fun j=>bD bs j&&decide ((T.getD j []).length=0)).map fun (j:Nat)=>⟨[],[(j:Int)],[]⟩
 | [],z=>by simp
 | j::l,z=>by
  rw[aaq,vV bs T l,aby,w8];by_cases p:bD bs j=true/\(T.getD j []).length=0
  ·rw[aap p,p.1,acd p.2];simp
  rw[aaa p];have:(bD bs j&&decide ((T.getD j []).length=0))=false:=by
   rw[aaV];intro h;rw[aaZ]at h;exact p ⟨h.1,adw h.2⟩
  rw[this];rfl
theorem uM{bs:List aS}{T:List (List Int)}{n:Nat}(hlen:T.length=bs.length)(Z:∀x∈T,∀p∈x,0<=p/\p<n)(hp:∀j,j<T.length->bD bs j=false->T.getD j []=[]):
  dR bs T n=(jn bs n (aP (cQ (jm n bs.length T)) (n+bs.length))).2:=by
 rw[<-hlen];have bc:=B0 Z;generalize cQ (jm n T.length T)=c at bc;obtain⟨_,_,g3⟩:=sZ bc.pc n (aam _);have lt:∀{j:Nat} {a:Int},a∈T.getD j []->j<T.length:=fun {j a} L=>by
  rcases aen j T.length with q | q
  ·exact q
  rw[ad4,abI q]at L;cases L
 rw[dR,g3,vV,jn,B2,acZ,aP,ad6];have ek:cd c (n+T.length)=cd c n++((List.range T.length).filter fun j=>decide (c (n+j)=n+j)).map fun j=>n+j:=by
  rw[cd,List.range_add,acA,cd,adk];rfl
 have U:∀r,dh c (n+T.length) r=dh c n r++((List.range T.length).filter fun j=>decide (c (n+j)=r)).map fun j=>n+j:=fun r=>by
  rw[dh,List.range_add,acA,dh,adk];rfl
 rw[ek,abE,acA];congr 1
 ·rw[ab2.2]
  ·refine aaG fun r O=>?_;obtain⟨V,R⟩:=mem_keys.1 O;show _=qT bs n (dh c (n+T.length) r);rw[qT,U,acA,acA];have f1:(dh c n r).filter (fun i=>decide (i<n))=dh c n r:=ab2.2 fun k hk=>acd (dx.1 hk).1;have f2:(((List.range T.length).filter fun j=>decide (c (n+j)=r)).map fun j=>n+j).filter (fun i=>decide (i<n))=[]:=abL.2 fun k hk=>by
    obtain⟨j,_,rfl⟩:=adS.1 hk;simp
   have f3:(dh c n r).filter (fun i=>!decide (i<n)&&bD bs (i-n))=[]:=abL.2 fun k hk=>by
    have:=(dx.1 hk).1;simp[this]
   rw[f1,f2,f3,acw,acZ,adk,ad6,List.filter_filter];have f4:((List.range T.length).filter fun j=>((fun i=>!decide (i<n)&&bD bs (i-n))∘fun j=>n+j) j&&decide (c (n+j)=r))=(List.range T.length).filter fun j=>(T.getD j []).any fun a=>decide (c a.toNat=r):=by
    refine aeh fun j z=>?_;have z:=abD.1 z;rw[abb,aaZ,aci];simp only[Function.comp,abG,show ¬n+j<n by omega,decide_false,Bool.not_false,adr,aaH];constructor
    ·rintro⟨I,J⟩;cases e:T.getD j [] with
     | nil=>
      have Ro:=bc.e2 j z e r (by omega) (by rw[R];exact J.symm);omega
     | cons a t=>exact⟨a,adU,by rw[bc.e1 j a (by rw[e];exact adU)];exact J⟩
    rintro⟨a,L,e⟩;refine⟨?_,by rw[<-bc.e1 j a L];exact e⟩;cases q:bD bs j with
    | true=>rfl
    | false=>rw[hp j z q]at L;cases L
   rw[f4];show (⟨Dw c n r,zW c T r,[]⟩:bh)=⟨Dw c n r,_,[]⟩;congr 1;refine aaG fun j _=>?_;show (j:Int)=((n+j:Nat):Int)-n;omega
  intro g hg;obtain⟨r,O,rfl⟩:=adS.1 hg;obtain⟨V,R⟩:=mem_keys.1 O;refine acd ?_;have:(r:Int)∈(qT bs n (dh c (n+T.length) r)).pieces:=adS.2 ⟨r,adu.2 ⟨dx.2 ⟨by omega,R⟩,acd V⟩,rfl⟩;have:=adL this;show 0<(qT bs n (dh c (n+T.length) r)).pieces.length+_;omega
 rw[ad6];have D:∀j,j<T.length->c (n+j)=n+j->T.getD j []=[]:=fun j z h=>by
  cases e:T.getD j [] with
  | nil=>rfl
  | cons a t=>
   have I:=bc.e1 j a (by rw[e];exact adU);have J:=bc.pc.Lf j a (by rw[e];exact adU);have h3:=bc.tops.le a.toNat (by omega);omega
 have self:∀j,j<T.length->T.getD j []=[]->c (n+j)=n+j:=fun j z e=>by
  have I:=bc.tops.le (n+j) (by omega);exact bc.e2 j z e (c (n+j)) (by omega) (bc.tops.top _ (by omega))
 have W:∀j,j<T.length->c (n+j)=n+j->qT bs n (dh c (n+T.length) (n+j))=⟨[],if bD bs j=true then [(j:Int)] else [],[]⟩:=fun j z h=>by
  have e:=D j z h;have only:dh c (n+T.length) (n+j)=[n+j]:=by
   rw[U];have a1:dh c n (n+j)=[]:=abL.2 fun m Y=>by
    have Y:=abD.1 Y;have:=bc.tops.le m (by omega);simp only[aaH];omega
   have a2:(List.range T.length).filter (fun i=>decide (c (n+i)=n+j))=[j]:=by
    have:(List.range T.length).filter (fun i=>decide (c (n+i)=n+j))=(List.range T.length).filter (fun i=>decide (i=j)):=aeh fun i hi=>by
     have hi:=abD.1 hi;rw[abb,aaH,aaH];constructor
     ·intro q;have:=bc.e2 j z e (n+i) (by omega) (by rw[h];exact q);omega
     intro q;rw[q];exact h
    rw[this];clear this;have:∀N,j<N->(List.range N).filter (fun i=>decide (i=j))=[j]:=by
     intro N
     induction N with
     | zero=>intro h;omega
     | succ N ih=>
      intro hN;rw[ac2,acA];by_cases q:j=N
      ·subst q;rw[abL.2 fun i hi=>by have:=abD.1 hi;simp;omega];simp
      rw[ih (by omega)];simp[Ne.symm q]
    exact this _ z
   rw[a1,a2];rfl
  rw[only,qT];by_cases p:bD bs j=true
  ·simp[p];omega
  simp[p]
 rw[adk,List.filter_filter];have ef:(List.range T.length).filter (fun j=>bD bs j&&decide ((T.getD j []).length=0))=(List.range T.length).filter (fun j=>(B1∘((qT bs n∘dh c (n+T.length))∘fun j=>n+j)) j&&decide (c (n+j)=n+j)):=by
  refine aeh fun j z=>?_;have z:=abD.1 z;by_cases h:c (n+j)=n+j
  ·have e:=D j z h;rw[acd h,ac7,e];show (bD bs j&&true)=B1 (qT bs n (dh c (n+T.length) (n+j)));rw[W j z h];cases bD bs j<;>rfl
  rw[aaz h,aav,aaC];refine .inr (aaz fun q=>h (self j z (adN.1 q)))
 rw[<-ef];refine aaG fun j z=>?_;obtain⟨I,J⟩:=adu.1 z;have I:=abD.1 I;rw[aaZ]at J;show _=qT bs n (dh c (n+T.length) (n+j));rw[W j I (self j I (adN.1 (adw J.2))),aap J.1]
def Jk(p q:ae):Bool:=(decide (0<dN p q)&&decide (dO p q=0))||(decide (dN p q=0)&&decide (0<dO p q))
theorem FP{p q:ae}(hp:Full p)(I:Full q):Jk p q=beside p q:=by
 obtain⟨p1,p2⟩:=hp;obtain⟨q1,q2⟩:=I;have z:dN p q=min p.x1 q.x1-max p.x0 q.x0:=rfl;have D:dO p q=min p.y1 q.y1-max p.y0 q.y0:=rfl;have x0:0<dN p q↔p.x0<q.x1/\q.x0<p.x1:=by rw[z];omega
 have y0:0<dO p q↔p.y0<q.y1/\q.y0<p.y1:=by rw[D];omega
 have x1:dN p q=0↔p.x1=q.x0\/q.x1=p.x0:=by rw[z];omega
 have y1:dO p q=0↔p.y1=q.y0\/q.y1=p.y0:=by rw[D];omega
 rw[Jk,beside,decide_eq_decide.2 x0,decide_eq_decide.2 y0,decide_eq_decide.2 x1,decide_eq_decide.2 y1,Bool.decide_and,Bool.decide_and,Bool.decide_or,Bool.decide_or];rw[Bool.and_comm (decide (p.x1=q.x0)||decide (q.x1=p.x0))]
def w9(r:List ae)(q:ae):Bool:=r.any fun p=>Jk p q
def nP(b:aS)(p:Piece):Bool:=through b p.layer&&w9 (told p.set) (aa b)
def cZ(b:aS)(ps:List Piece)(k:Nat):List Int:=if b.plated=true then ((List.range k).filter fun i=>nP b (ps.getD i ⟨0,[]⟩)).map fun (i:Nat)=>(i:Int) else []
theorem uN(b:aS):∀(ps:List Piece) (k:Nat),fu b k ps=((List.range ps.length).filter fun i=>fX b (ps.getD i ⟨0,[]⟩)).map fun (i:Nat)=>((k+i:Nat):Int)
 | [],k=>rfl
 | p::ps,k=>by
  rw[fu,uN b ps (k+1),aaB,List.range_succ_eq_map,aby,adk];have e:(((List.range ps.length).filter ((fun i=>fX b ((p::ps).getD i ⟨0,[]⟩))∘Nat.succ)).map Nat.succ).map (fun (i:Nat)=>((k+i:Nat):Int))=((List.range ps.length).filter fun i=>fX b (ps.getD i ⟨0,[]⟩)).map fun (i:Nat)=>((k+1+i:Nat):Int):=by
   rw[ad6];refine aaG fun i _=>?_;show ((k+(i+1):Nat):Int)=_;rw[show k+(i+1)=k+1+i by omega]
  by_cases c:fX b p=true
  ·have z:fX b ((p::ps).getD 0 ⟨0,[]⟩)=true:=c;rw[aap c,aap z,aa8,e];rfl
  have z:¬fX b ((p::ps).getD 0 ⟨0,[]⟩)=true:=c;rw[aaa c,aaa z,e]
theorem HT{b:aS}(hb:Full (aa b)){ps:List Piece}(hp:∀p∈ps,bE p.set):cZ b ps ps.length=fu b 0 ps:=by
 rw[uN,cZ];by_cases c:b.plated=true
 ·rw[aap c];have e:(List.range ps.length).filter (fun i=>nP b (ps.getD i ⟨0,[]⟩))=(List.range ps.length).filter fun i=>fX b (ps.getD i ⟨0,[]⟩):=by
   refine aeh fun i hi=>?_;have hi:=abD.1 hi;have z:ps.getD i ⟨0,[]⟩∈ps:=by
    rw[ad4,acg hi];exact adn hi
   have D:=bP (hp _ z);rw[nP,fX,c,adr,w9];congr 1;exact oy fun r I=>FP (D r I) hb
  rw[e];refine aaG fun i _=>?_;rw[abC]
 rw[aaa c];have:(List.range ps.length).filter (fun i=>fX b (ps.getD i ⟨0,[]⟩))=[]:=abL.2 fun i _=>by
  simp[fX,c]
 rw[this];rfl
def hD(l:fo):Nat->List Piece->Option Nat
 | _,[]=>none
 | k,p::r=>if pz l p=true then some k else hD l (k+1) r
def jy(l:fo):Nat->List aS->Option Nat
 | _,[]=>none
 | k,b::r=>if mV l b=true then some k else jy l (k+1) r
def vW(bs:List aS)(ps:List Piece)(l:fo):zx×Bool:=match hD l 0 ps with
 | some k=>(⟨false,k⟩,true)
 | none=>match jy l 0 bs with
  | some k=>(⟨true,k⟩,true)
  | none=>(⟨false,0⟩,false)
theorem w_(l:fo):∀(ps:List Piece) (k:Nat),match hD l k ps with
  | some m=>nA l k ps=(⟨false,m⟩,true)/\∃p∈ps,pz l p=true
  | none=>(nA l k ps).2=false/\∀p∈ps,pz l p=false
 | [],k=>⟨rfl,fun p h=>by cases h⟩
 | p::ps,k=>by
  rw[hD,nA];by_cases c:pz l p=true
  ·rw[aap c,aap c];exact⟨rfl,p,adU,c⟩
  rw[aaa c,aaa c];have ih:=w_ l ps (k+1);cases e:hD l (k+1) ps with
  | some m=>
   rw[e]at ih;obtain⟨D,q,z,I⟩:=ih;exact⟨D,q,aaw _ z,I⟩
  | none=>
   rw[e]at ih;refine⟨ih.1,fun q z=>?_⟩;rcases adq.1 z with e | z
   ·rw[e];simpa using c
   exact ih.2 q z
theorem zZ(l:fo)(ps:List Piece):∀(bs:List aS) (k:Nat),match jy l k bs with
  | some m=>mF l ps k bs=(⟨true,m⟩,true)/\∃b∈bs,mV l b=true
  | none=>mF l ps k bs=nA l 0 ps/\∀b∈bs,mV l b=false
 | [],k=>⟨rfl,fun p h=>by cases h⟩
 | b::bs,k=>by
  rw[jy,mF];by_cases c:mV l b=true
  ·rw[aap c,aap c];exact⟨rfl,b,adU,c⟩
  rw[aaa c,aaa c];have ih:=zZ l ps bs (k+1);cases e:jy l (k+1) bs with
  | some m=>
   rw[e]at ih;obtain⟨D,q,z,I⟩:=ih;exact⟨D,q,aaw _ z,I⟩
  | none=>
   rw[e]at ih;refine⟨ih.1,fun q z=>?_⟩;rcases adq.1 z with e | z
   ·rw[e];simpa using c
   exact ih.2 q z
def NS(bs:List aS)(ps:List Piece):Prop:=∀p∈ps,∀b∈bs,∀x y,through b p.layer=true->dE x y (aa b)=true->(told p.set).any (dE x y)=false
theorem P1{bs:List aS}{ps:List Piece}(h:NS bs ps)(l:fo):(vW bs ps l).2=(il bs ps l).2/\((il bs ps l).2=true->vW bs ps l=il bs ps l):=by
 have hp:=w_ l ps 0;have hb:=zZ l ps bs 0;rw[il,vW];cases e:hD l 0 ps with
 | some m=>
  rw[e]at hp;obtain⟨I,p,pm,z⟩:=hp;cases f:jy l 0 bs with
  | some k=>
   rw[f]at hb;obtain⟨b1,b,bm,D⟩:=hb;rw[pz,aaZ,aaH]at z;rw[mV,aaZ,aaZ]at D;have:=h p pm b bm l.x l.y (by rw[z.1];exact D.1.2) D.2;rw[z.2]at this;cases this
  | none=>
   rw[f]at hb;rw[hb.1,I];exact⟨rfl,fun _=>rfl⟩
 | none=>
  rw[e]at hp;cases f:jy l 0 bs with
  | some k=>
   rw[f]at hb;rw[hb.1];exact⟨rfl,fun _=>rfl⟩
  | none=>
   rw[f]at hb;rw[hb.1,hp.1];exact⟨rfl,fun g=>by cases g⟩
def dz(h:zx)(g:bh):Bool:=(h.bore&&mS g.bores h.num)||(!h.bore&&mS g.pieces h.num)
def kY(h:zx):Nat->List bh->Int
 | _,[]=>-1
 | k,g::r=>if dz h g=true then k else kY h (k+1) r
theorem NT{h:zx}:∀{z:List bh} {m:Nat} {k:Nat} {g:bh},z[k]?=some g->dz h g=true->(∀i q,z[i]?=some q->dz h q=true->i=k)->kY h m z=((m+k:Nat):Int)
 | [],m,k,g,hk,_,_=>by cases hk
 | q::z,m,k,g,hk,hg,hu=>by
  rw[kY];by_cases c:dz h q=true
  ·rw[aap c];have:=hu 0 q rfl c;rw[<-this];rfl
  rw[aaa c];cases k with
  | zero=>injection hk with hk;rw[hk]at c;exact absurd hg c
  | succ k=>
   rw[NT (k:=k) (g:=g) (by simpa using hk) hg fun i p hi hp=>by have:=hu (i+1) p (by simpa using hi) hp;omega];rw[show m+1+k=m+(k+1) by omega]
end Reg
namespace M
open Go.AM Go.RowKit Go.Lib
open Reg (ae Full aS fo fS aa bO cJ through fT)
theorem xU(n lo hi:Int):af C 187 [.pv (i64 n),.pv (i64 lo),.pv (i64 hi)] (.p (bool (Reg.within n lo hi))) []:=wE n lo hi
theorem di(b:aS)(h:bO b=true):af C 58 [.pv (.ag (bc b))] (.p (.ag (rc (aa b)))) []:=by
 simp[bO,Reg.within,Reg.kR]at h;have h1:0<=b.size.tdiv 2/\b.size.tdiv 2<=b.size:=by
  rw[abk (by omega)];omega
 refine fW hC Tryz.func58 rfl (by kernel_rfl) fun _=>?_;refine⟨by omega,wO (by omega),wO (by omega),by omega,wO (by omega),wO (by omega),wO (by omega),wO (by omega),?_,trivial⟩;rfl
theorem vX(b:aS):af C 186 [.pv (.ag (bc b))] (.p (i64 (if cJ b=true then 0 else 1))) []:=by
 refine fW hC Tryz.func186 rfl (by kernel_rfl) fun _=>?_;refine⟨_,_,(xU b.size 1 10000),iW ?_ ?_⟩<;>intro D
 ·refine⟨?_,trivial⟩;rw[aaa (by simp only[cJ,bO];rw[D];simp)];rfl
 refine⟨_,_,(Br b.x b.y),iW ?_ ?_⟩<;>intro I
 ·refine⟨?_,trivial⟩;rw[aaa (by simp only[cJ,bO];rw[D,I];simp)];rfl
 have z:bO b=true:=by simp only[bO];rw[D,I];rfl
 have go:cJ b=Reg.c7 (aa b):=by simp only[cJ];rw[z,adr]
 rw[go];refine⟨_,_,(di b z),_,_,(nJ (aa b).x0),iW ?_ ?_⟩<;>intro J
 ·refine⟨?_,trivial⟩;rw[aaa (by simp only[Reg.c7];rw[J];simp)];rfl
 refine⟨_,_,(nJ (aa b).y0),iW ?_ ?_⟩<;>intro L
 ·refine⟨?_,trivial⟩;rw[aaa (by simp only[Reg.c7];rw[L];simp)];rfl
 refine⟨_,_,(nJ (aa b).x1),iW ?_ ?_⟩<;>intro N
 ·refine⟨?_,trivial⟩;rw[aaa (by simp only[Reg.c7];rw[N];simp)];rfl
 refine⟨_,_,(nJ (aa b).y1),iW ?_ ?_⟩<;>intro O
 ·refine⟨?_,trivial⟩;rw[aaa (by simp only[Reg.c7];rw[O];simp)];rfl
 refine⟨?_,trivial⟩;rw[aap (by simp only[Reg.c7];rw[J,L,N,O];rfl)];rfl
theorem pJ(b:aS)(l:Int):af C 110 [.pv (.ag (bc b)),.pv (i64 l)] (.p (bool (through b l))) []:=by
 refine fW hC Tryz.func110 rfl (by kernel_rfl) fun _=>?_;apply iW<;>intro h<;>(refine⟨?_,trivial⟩)<;>simp[bool,through,h]
def Dx(x y:aS):Bool:=decide (x.lo<=y.hi)&&decide (y.lo<=x.hi)
theorem FQ(x y:aS):af C 106 [.pv (.ag (bc x)),.pv (.ag (bc y))] (.p (bool (Dx x y))) []:=by
 refine fW hC Tryz.func106 rfl (by kernel_rfl) fun _=>?_;apply iW<;>intro h<;>(refine⟨?_,trivial⟩)<;>simp[bool,Dx,h]
def agz(p q:ae):Bool:=decide (max p.x0 q.x0<min p.x1 q.x1)&&decide (max p.y0 q.y0<min p.y1 q.y1)
theorem Dy(p q:ae):af C 107 [.pv (.ag (rc p)),.pv (.ag (rc q))] (.p (bool (agz p q))) []:=by
 refine fW hC Tryz.func107 rfl (by kernel_rfl) fun _=>?_;apply iW<;>intro h<;>(refine⟨?_,trivial⟩)<;>simp[bool,agz,h]
theorem NU{p q:ae}(hp:Full p)(z:Full q):agz p q=decide (fT p q=0):=by
 obtain⟨p1,p2⟩:=hp;obtain⟨q1,q2⟩:=z;have D:fT p q=0↔(q.x0<p.x1/\p.x0<q.x1)/\(q.y0<p.y1/\p.y0<q.y1):=by unfold fT Reg.bA;omega
 rw[abb,agz,aaZ,aaH,aaH,aaH,D];rw[ac6,ac6,Int.min_def,Int.min_def];split<;>split<;>split<;>split<;>omega
theorem NV{x y:aS}(z:bO x=true)(D:bO y=true):(Dx x y&&agz (aa x) (aa y))=Reg.eO x y:=by
 rw[NU (Reg.bX z) (Reg.bX D)];rfl
end M
end Go.Proofs.YtfloceomobknoaaGreatDoor
