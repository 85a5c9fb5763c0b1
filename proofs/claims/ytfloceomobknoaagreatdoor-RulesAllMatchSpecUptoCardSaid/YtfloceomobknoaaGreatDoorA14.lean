/- Part 14 of the proof of RulesAllMatchSpec. -/
import Derived.Test.YtfloceomobknoaaGreatDoorA13
set_option linter.unusedVariables false
set_option linter.unusedSimpArgs false
set_option maxRecDepth 100000
set_option maxHeartbeats 8000000
namespace Go.Proofs.YtfloceomobknoaaGreatDoor
namespace Reg
variable {D0:List Bool} {s:sY}
theorem FV{T:List (List Int)}{n:Nat}(h:jc T n D0 s){j:Nat}(J:j<T.length):jc T n D0 ⟨s.seen,s.pieces,oB s.bores j,s.used.set j true,s.todo⟩:=by
 obtain⟨L,N⟩:=sX h.br (j:Int);have z:∀i,(s.used.set j true).getD i true=true↔i=j\/s.used.getD i true=true:=fun i=>by
  rw[jx (by rw[h.ulen];exact J)];by_cases e:i=j<;>simp[e]
 exact⟨h.len,by show (s.used.set j true).length=_;rw[aaM,h.ulen],h.nod,h.mem,h.done,h.pr,h.pm,L,fun y=>by
  show y∈oB s.bores j↔∃i:Nat,y=i/\i<T.length/\(s.used.set j true).getD i true=true;rw[N,h.bm];constructor
  ·rintro (⟨i,e,D,I⟩ | e)
   ·exact⟨i,e,D,(z i).2 (.inr I)⟩
   exact⟨j,e,J,(z j).2 (.inl rfl)⟩
  rintro⟨i,e,D,I⟩;rcases (z i).1 I with e2 | e2
  ·exact .inr (by rw[e,e2])
  exact .inl ⟨i,e,D,e2⟩⟩
theorem N7{T:List (List Int)}{n:Nat}(D:∀j,∀p∈T.getD j [],0<=p/\p<n)(h:jc T n D0 s){x:Int}{j:Nat}(z:j<T.length):jc T n D0 (nO T x s j)/\iZ s (nO T x s j):=by
 rw[nO];split
 ·exact⟨h,iZ.refl s⟩
 have g:=FV h z;obtain⟨I,J,_,_⟩:=zV (T.getD j []) _ g (D j);refine⟨I,iZ.trans ⟨⟨[],by simp⟩,fun i hi=>?_⟩ J⟩;show (s.used.set j true).getD i true=true;rw[jx (by rw[h.ulen];exact z)];split
 ·rfl
 exact hi
theorem B6{T:List (List Int)}{n:Nat}(z:∀j,∀p∈T.getD j [],0<=p/\p<n){x:Int}:∀(l:List Nat) (s:sY),(∀j∈l,j<T.length)->jc T n D0 s->jc T n D0 (l.foldl (nO T x) s)
 | [],s,_,h=>h
 | j::l,s,hl,h=>B6 z l _ (fun i hi=>hl i (aaw _ hi)) (N7 z h (hl j adU)).1
theorem FW{T:List (List Int)}{n:Nat}(z:∀j,∀p∈T.getD j [],0<=p/\p<n):∀(f i:Nat) (s:sY),jc T n D0 s->jc T n D0 (p_ T f i s)
 | 0,i,s,h=>h
 | f+1,i,s,h=>by
  rw[p_];split
  ·exact FW z f (i+1) _ (B6 z _ _ (fun j D=>abD.1 D) h)
  exact h
theorem B7{T:List (List Int)}{n:Nat}{i:Nat}(hl:D0.length=n)(hi:i<n)(z:D0.getD i true=false):jc T n D0 ⟨D0.set i true,[(i:Int)],[],List.replicate T.length false,[(i:Int)]⟩:=
 ⟨by show (D0.set i true).length=n;rw[aaM,hl],aan,by simp,fun p hp=>by
  rw[ab_.1 hp];exact⟨⟨by omega,by omega⟩,by rw[ad2];exact z⟩,fun p p0 pn=>by
  show (D0.set i true).getD p.toNat true=true↔_\/p∈[(i:Int)];rw[jx (by rw[hl];exact hi),ab_];by_cases e:p.toNat=i
  ·rw[aap e];exact⟨fun _=>.inr (by omega),fun _=>rfl⟩
  ·rw[aaa e];exact⟨.inl,fun g=>g.elim id fun e2=>absurd (by omega) e⟩,abw _ _,fun p=>by simp,List.Pairwise.nil,fun x=>by
  constructor
  ·intro h;cases h
  rintro⟨j,_,D,h⟩;rw[ad4,aeb,aap D]at h;cases h⟩
theorem uR{l:List Int}(h:bF l):l.Nodup:=adO (fun h=>by omega) h
theorem jc.jB{T:List (List Int)}{n:Nat}(h:jc T n D0 s):s.todo.length<=n/\s.pieces.length<=n/\s.bores.length<=T.length:=by
 have z:=h.le;refine⟨z,?_,?_⟩
 ·exact aaF (aeg (uR h.pr) fun p hp=>(h.pm p).1 hp) z
 have:=aeg (uR h.br) (l₂:=(List.range T.length).map fun (j:Nat)=>(j:Int)) fun x D=>by
  obtain⟨j,e,I,_⟩:=(h.bm x).1 D;exact adS.2 ⟨j,abD.2 I,e.symm⟩
 simpa using this
theorem N8(T:List (List Int))(f i:Nat)(s:sY)(h:¬i<s.todo.length):p_ T f i s=s:=by
 cases f with
 | zero=>rfl
 | succ f=>rw[p_,aaa h]
def gA(T:List (List Int))(n i:Nat):List Bool×List bh:=(List.range i).foldl (j_ T n) (List.replicate n false,[])
theorem uS(T:List (List Int))(n i:Nat):gA T n (i+1)=j_ T n (gA T n i) i:=by simp[gA,ac2,aaD]
def P6(g:bh):Prop:=g.pins=[]/\g.pieces.length<=1000000/\g.bores.length<=1000000
theorem se{T:List (List Int)}{n:Nat}(L:n<=100000)(N:T.length<=100000)(D:∀j,∀p∈T.getD j [],0<=p/\p<n):∀i,i<=n->(gA T n i).1.length=n/\(gA T n i).2.length<=i/\∀g∈(gA T n i).2,P6 g
 | 0,_=>by simp[gA]
 | i+1,hi=>by
  obtain⟨I,h2,J⟩:=se L N D i (by omega);rw[uS,j_];split
  ·exact⟨I,by omega,J⟩
  rename_i c;have g:=FW D n 0 _ (B7 (T:=T) (i:=i) I (by omega) (by simpa using c));obtain⟨_,O,R⟩:=g.jB;refine⟨g.len,by simp only[acv,abS];omega,fun q z=>?_⟩;rcases abi.1 z with z | z
  ·exact J q z
  rw[ab_.1 z];exact⟨rfl,aaF O (by omega),aaF R (by omega)⟩
end Reg
namespace M
open Go.AM Go.RowKit Go.Lib
open Reg (ae an oB fZ sY jc pI nO p_ eH bh fS)
theorem mM(l:List Int)(n:Int)(hN:l.length<=1000000):af C 207 [.pv (ints l),.pv (i64 n)] (.p (bool (Reg.mS l n))) []:=by
 refine fW hC Tryz.func207 rfl (by kernel_rfl) fun _=>?_;have I:=ai l fun n=>[i64 n];refine aJ (fun i:Nat=>Reg.mS (l.drop i) n=Reg.mS l n) (fun i=>[(0,.p (ints l)),(1,.p (i64 n)),(5,.p (i64 i))]) (fun _=>[]) (fun i=>l.length-i) 0 _ (au.refl _ _) rfl ⟨Z,Z,Z,Y⟩ trivial fun i hi t h=>?_;apply iW<;>intro J
 ·rw[I]at J;obtain⟨x,z⟩:=ak (l:=l) (i:=i) (by omega);rw[drop_at z]at hi;refine⟨[i64 x],(idx rfl z),iW ?_ ?_⟩<;>intro D
  ·refine⟨?_,trivial⟩;rw[<-hi,Reg.mS,abd,acd D];rfl
  refine⟨wO (by omega),(i+1),_,au.refl _ _,?_,by omega,⟨Z,Z,Z,Y⟩,trivial⟩;rw[<-hi,Reg.mS,Reg.mS,abd,aaz D,abv]
 rw[ab1 (by omega)]at hi;refine⟨?_,trivial⟩;rw[<-hi];rfl
theorem xd(l:List Int)(n:Int)(hN:l.length<=1000000):af C 245 [.pv (ints l),.pv (i64 n)] (.p (ints (oB l n))) []:=by
 refine uX ⟨[],[0],[],[],[],[]⟩ hC Tryz.func245 rfl (by kernel_rfl) fun _=>?_;have z:=ai l fun n=>[i64 n];refine p7 (fun k:Nat=>k<=l.length/\fZ l n l.length=k) (fun k=>[(0,.p (ints l)),(1,.p (i64 n)),(5,.p (i64 k))]) (fun _=>[]) (fun k hk t h=>?_) ?_
 ·obtain⟨J,D⟩:=hk;have tail:¬(0<k/\l.getD (k-1) 0=n)->oB l n=(l.take k++[n])++l.drop k:=fun c=>by rw[oB,D,aaa c]
  apply iW<;>intro R
  ·obtain⟨y,I⟩:=ak (l:=l) (i:=k-1) (by omega);have L:l.getD (k-1) 0=y:=by rw[ad4,I];rfl
   refine⟨wO (by omega),[i64 y],(idx (show (k:Int)-1=((k-1:Nat):Int) by omega) I),iW ?_ ?_⟩<;>intro N
   ·refine⟨?_,trivial⟩;rw[oB,D,aap ⟨by omega,by rw[L];exact N⟩]
   have tail:=tail (fun c=>N (by rw[<-L];exact c.2));refine⟨⟨by decide,by omega,by rw[z];omega,dt l⟩,⟨gJ (dt l),by simp only[aaN,aat,z];omega,by simp only[aaN,aat,z];omega⟩,⟨by simp,by simp[z];omega,by simp[z];omega⟩,⟨by omega,by rw[z];omega,by omega,dt l⟩,⟨gJ (dt l),by simp[z];omega,by simp[z];omega⟩,?_,trivial⟩;rw[tail];simp[ints,aco,acb,i64];rw[adW (by simp)]
  have tail:=tail (fun c=>R (by omega));refine⟨⟨by decide,by omega,by rw[z];omega,dt l⟩,⟨gJ (dt l),by simp only[aaN,aat,z];omega,by simp only[aaN,aat,z];omega⟩,⟨by simp,by simp[z];omega,by simp[z];omega⟩,⟨by omega,by rw[z];omega,by omega,dt l⟩,⟨gJ (dt l),by simp[z];omega,by simp[z];omega⟩,?_,trivial⟩;rw[tail];simp[ints,aco,acb,i64];rw[adW (by simp)]
 refine aJ (fun k:Nat=>k<=l.length/\fZ l n l.length=fZ l n k) (fun k=>[(0,.p (ints l)),(1,.p (i64 n)),(5,.p (i64 k))]) (fun _=>[]) (fun k=>k) l.length _ (au.refl _ _) ⟨aam _,rfl⟩ ⟨rfl,rfl,adV (fun m:Nat=>AV.p (i64 m)) z,trivial⟩ trivial fun k hk t h=>?_;obtain⟨J,D⟩:=hk;apply iW<;>intro h1
 ·obtain⟨m,rfl⟩:∃m,k=m+1:=⟨k-1,by omega⟩;obtain⟨y,I⟩:=ak (l:=l) (i:=m) (by omega);have hp:fZ l n (m+1)=if n<y then fZ l n m else m+1:=by
   rw[fZ,ad4,I,acy]
  refine⟨wO (by omega),[i64 y],(idx (show ((m+1:Nat):Int)-1=(m:Nat) by omega) I),iW ?_ ?_⟩<;>intro O
  ·rw[aap O]at hp;exact⟨wO (by omega),m,_,au.refl _ _,⟨by omega,by rw[D,hp]⟩,by omega,⟨rfl,rfl,a8 (by omega),trivial⟩,trivial⟩
  rw[aaa O]at hp;refine⟨m+1,⟨J,by rw[D,hp]⟩,⟨Z,Z,Z,Y⟩,trivial⟩
 have e:k=0:=by omega
 subst e;refine⟨0,⟨aaj _,by rw[D];rfl⟩,⟨Z,Z,Z,Y⟩,trivial⟩
def uY(l:List Int):List PV:=[ints l]
theorem B8{l:List (List Int)}{k:Nat}{b:List Int}(h:l[k]?=some b):l.getD k []=b:=by rw[ad4,h];rfl
theorem FX{l:List Bool}{p:Int}{b:Bool}(h0:0<=p)(z:l[p.toNat]?=some b):(bits l)[p.toNat]?=some [bool b]:=by
 rw[bits,aak,z];rfl
theorem K8{l:List Int}{i:Int}{k:Nat}{v:Int}(h:i=k)(z:l[k]?=some v):(aA l)[i.toNat]?=some [i64 v]:=by
 rw[h,ad2,aA,aak,z];rfl
theorem FY(T:List (List Int))(n:Nat)(hn:n<=100000)(Yu:T.length<=100000)(Vs:∀x∈T,x.length<=1000000)(hT:∀j,∀p∈T.getD j [],0<=p/\p<n)(D0:List Bool)(hl:D0.length=n)(i:Nat)(hi:i<n)(hd:D0.getD i true=false)(x0 x1 x2 x3 x4 x5 x6:PV):
  af C 191 [.pv (.ip [x0,x1,x2,x3,x4,x5,x6,.sl (T.map uY)]),.pv (i64 i),.row 4 (bits D0)] (.p (.ag (wR ⟨(eH T n i D0).pieces,(eH T n i D0).bores,[]⟩))) [.row (bits (eH T n i D0).seen)]:=by
 have lT:=ai T uY;have lD:=oC D0;obtain⟨d,S7⟩:=ak (l:=D0) (i:=i) (by omega);have xl:=Reg.B7 (T:=T) hl hi hd;obtain⟨F,hF⟩:∃F,F=eH T n i D0:=⟨_,rfl⟩;rw[<-hF];rw[eH]at hF;refine UO ⟨[],[],[],[],[],[]⟩ hC Tryz.func191 rfl (by kernel_rfl) fun _=>⟨_,au.refl _ _,?_⟩;refine⟨⟨by omega,by (try dsimp only);omega⟩,[bool d],(kM rfl S7),⟨by omega,by omega,by (try dsimp only);omega,by omega⟩,?_⟩;have hu:List.replicate (T.map uY).length [bool false]=bits (List.replicate T.length false):=by rw[bits,adM,lT]
 refine aJ (fun x:Nat×sY=>p_ T (n-x.1) x.1 x.2=F/\jc T n D0 x.2) (fun x=>[(0,.p (.ip [x0,x1,x2,x3,x4,x5,x6,.sl (T.map uY)])),(2,.ow 100002),(6,.bx 6 0),(7,.bx 7 0),(8,.ow 8),(9,.ow 9),(10,.p (i64 x.1))]) (fun x=>[(100002,.row 4 (bits x.2.seen)),(6,.box [.nl,.nl,.nl]),(7,.box [.p (ints x.2.pieces),.p (ints x.2.bores),.p (.im (.slice none 0 0))]),(8,.row 4 (bits x.2.used)),(9,.row 3 (aA x.2.todo))]) (fun x=>n-x.1) (0,⟨D0.set i true,[(i:Int)],[],List.replicate T.length false,[(i:Int)]⟩) _ ((au.aeK (by exact hC) _ 7 1 90000 3 _ _ (by decide) (by decide) (by exact rfl) (by exact rfl) (by exact rfl) (by decide)).trans ((au.fB (by exact hC) _ 7 1 90000 3 _ _ (by decide) (by exact rfl) (by exact rfl) (by exact rfl)).trans (au.MJ (by exact hC) _ 7 2 _ (by exact rfl) (by exact rfl)))) ⟨hF.symm,xl⟩ ⟨Z,Z,Z,Z,Z,Z,Z,Y⟩ ⟨adV (AB.row _) (qV D0 i true),rfl,rfl,adV (AB.row _) hu,Z,Y⟩ fun ⟨at',s⟩ hx t h=>?_;obtain⟨J,Yv⟩:=hx;simp only at J Yv;have lo:=bQ s.todo;obtain⟨jB,_,_⟩:=Yv.jB;apply iW<;>intro h1<;>try simp only[zB]at h1
 ·rw[lo]at h1;obtain⟨I,ZS⟩:=ak (l:=s.todo) (i:=at') (by omega);have N0:p_ T (n-at') at' s=p_ T (n-(at'+1)) (at'+1) ((List.range T.length).foldl (nO T I) s):=by
   rw[show n-at'=(n-(at'+1))+1 by omega,p_,aap (by omega),ad4,ZS];rfl
  rw[N0]at J;obtain⟨R,hR⟩:∃R,R=(List.range T.length).foldl (nO T I) s:=⟨_,rfl⟩;rw[<-hR]at J;refine aJ (fun y:Nat×sY=>((List.range T.length).drop y.1).foldl (nO T I) y.2=R/\jc T n D0 y.2/\y.2.todo[at']?=some I) (fun y=>[(0,.p (.ip [x0,x1,x2,x3,x4,x5,x6,.sl (T.map uY)])),(2,.ow 100002),(6,.bx 6 0),(7,.bx 7 0),(8,.ow 8),(9,.ow 9),(10,.p (i64 at')),(11,.p (i64 y.1))]) (fun y=>[(100002,.row 4 (bits y.2.seen)),(6,.box [.nl,.nl,.nl]),(7,.box [.p (ints y.2.pieces),.p (ints y.2.bores),.p (.im (.slice none 0 0))]),(8,.row 4 (bits y.2.used)),(9,.row 3 (aA y.2.todo))]) (fun y=>T.length-y.1) (0,s) _ (au.refl _ _) ⟨hR.symm,Yv,ZS⟩ ⟨Z,Z,Z,Z,Z,Z,Z,Z,Y⟩ ⟨Z,Z,Z,Z,Z,Y⟩ fun ⟨j,u⟩ hy t h=>?_;obtain⟨y1,N,U⟩:=hy;simp only at y1 N U;have lu:=bQ u.todo;have lus:=oC u.used;have uul:=N.ulen;obtain⟨fu1,fu2,fu3⟩:=N.jB;have VJ:=(aao.1 U).1;apply iW<;>intro O<;>try simp only[zB]at O
  ·rw[lT]at O;have O:j<T.length:=by omega
   obtain⟨L,W⟩:=ak (l:=T) (i:=j) O;obtain⟨e,he⟩:=ak (l:=u.used) (i:=j) (by omega);have eT:=B8 W;have eU:=oD (d:=true) he;have lL:=ai L fun n=>[i64 n];have lL2:=Vs L (aad W);have ZT:=hT j;rw[eT]at ZT;rw[Reg.z_ O,aaq]at y1;refine⟨⟨by omega,by (try dsimp only);omega⟩,[bool e],(kM rfl he),iW ?_ ?_⟩<;>intro h3
   ·rw[nO,aap (.inl (by rw[eU];exact h3))]at y1;exact⟨wO (by omega),(j+1,u),_,au.refl _ _,⟨y1,N,U⟩,by simp only;omega,⟨Z,Z,Z,Z,Z,Z,Z,Z,Y⟩,⟨Z,Z,Z,Z,Z,Y⟩⟩
   have h3:e=false:=by simpa using h3
   refine⟨(uY L),(idx rfl W),⟨by omega,by (try dsimp only);omega⟩,[i64 I],(K8 rfl U),_,_,(mM L I (by omega)),iW ?_ ?_⟩<;>intro h4
   ·rw[nO,aap (.inr (by rw[eT];exact h4))]at y1;exact⟨wO (by omega),(j+1,u),_,au.refl _ _,⟨y1,N,U⟩,by simp only;omega,⟨Z,Z,Z,Z,Z,Z,Z,Z,Y⟩,⟨Z,Z,Z,Z,Z,Y⟩⟩
   have hb:=Reg.FV N O;rw[nO,aaa (by
    rintro (c | c)
    ·rw[eU,h3]at c;cases c
    rw[eT,h4]at c;cases c),eT]at y1
   have Yw:=xd u.bores j (by omega);refine⟨⟨by omega,by (try dsimp only);omega⟩,[bool e],(kM rfl he),_,_,Yw,?_⟩;obtain⟨R2,Tt⟩:∃R2,R2=L.foldl pI ⟨u.seen,u.pieces,oB u.bores j,u.used.set j true,u.todo⟩:=⟨_,rfl⟩;rw[<-Tt]at y1;refine aJ (fun z:Nat×sY=>(L.drop z.1).foldl pI z.2=R2/\jc T n D0 z.2/\z.2.todo[at']?=some I) (fun z=>[(0,.p (.ip [x0,x1,x2,x3,x4,x5,x6,.sl (T.map uY)])),(2,.ow 100002),(6,.bx 6 0),(7,.bx 7 0),(8,.ow 8),(9,.ow 9),(10,.p (i64 at')),(11,.p (i64 j)),(12,.p (i64 z.1))]) (fun z=>[(100002,.row 4 (bits z.2.seen)),(6,.box [.nl,.nl,.nl]),(7,.box [.p (ints z.2.pieces),.p (ints z.2.bores),.p (.im (.slice none 0 0))]),(8,.row 4 (bits z.2.used)),(9,.row 3 (aA z.2.todo))]) (fun z=>L.length-z.1) (0,⟨u.seen,u.pieces,oB u.bores j,u.used.set j true,u.todo⟩) _ (au.refl _ _) ⟨Tt.symm,hb,U⟩ ⟨Z,Z,Z,Z,Z,Z,Z,Z,Z,Y⟩ ⟨rfl,rfl,rfl,adV (AB.row _) (qV u.used j true),Z,Y⟩ fun ⟨k,v⟩ hz t h=>?_;obtain⟨D,z2,z3⟩:=hz;simp only at D z2 z3;have lv:=bQ v.todo;have lvs:=oC v.seen;have vsl:=z2.len;obtain⟨fv1,fv2,fv3⟩:=z2.jB;have Yx:=(aao.1 z3).1;refine⟨(uY L),(idx rfl W),iW ?_ ?_⟩<;>intro h5<;>try simp only[zB]at h5
   ·rw[lL]at h5;obtain⟨p,hp⟩:=ak (l:=L) (i:=k) (by omega);obtain⟨p0,pn⟩:=ZT p (aad hp);rw[drop_at hp,aaq]at D;obtain⟨b,oE⟩:=ak (l:=v.seen) (i:=p.toNat) (by omega);have eS:=oD (d:=true) oE;obtain⟨k1,_,_,_⟩:=Reg.Ji z2 p0 pn;refine⟨(uY L),(idx rfl W),[i64 p],(idx rfl hp),⟨by omega,by (try dsimp only);omega⟩,[bool b],(FX p0 oE),iW ?_ ?_⟩<;>intro V
    ·have V:b=false:=by simpa using V
     have hk:pI v p=⟨v.seen.set p.toNat true,oB v.pieces p,v.bores,v.used,v.todo++[p]⟩:=by rw[pI,aaa (by rw[eS,V];decide)]
     rw[hk]at D k1;have Yy:=xd v.pieces p (by omega);exact⟨⟨by omega,by (try dsimp only);omega⟩,[bool b],(FX p0 oE),_,_,Yy,⟨fun r hr=>by simp at hr;subst hr;rfl,by simp only[lv,List.length_cons,List.length_nil,List.length_set,List.length_replicate];omega,by simp only[lv,List.length_cons,List.length_nil,List.length_set,List.length_replicate];omega⟩,wO (by omega),(k+1,sY.mk (v.seen.set p.toNat true) (oB v.pieces p) v.bores v.used (v.todo++[p])),_,au.refl _ _,⟨D,k1,by show (v.todo++[p])[at']?=some I;rw[List.getElem?_append_left Yx];exact z3⟩,by simp only;omega,⟨Z,Z,Z,Z,Z,Z,Z,Z,Z,Y⟩,⟨congrArg (AB.row _) (qV v.seen p.toNat true),rfl,rfl,rfl,congrArg (AB.row _) (gP v.todo p).symm,trivial⟩⟩
    have V:b=true:=by simpa using V
    have hk:pI v p=v:=by rw[pI,aap (by rw[eS,V])]
    rw[hk]at D k1;exact⟨wO (by omega),(k+1,v),_,au.refl _ _,⟨D,k1,z3⟩,by simp only;omega,⟨Z,Z,Z,Z,Z,Z,Z,Z,Z,Y⟩,⟨Z,Z,Z,Z,Z,Y⟩⟩
   rw[lL]at h5;rw[ab1 (by omega)]at D;have D:v=R2:=D;rw[<-D]at y1;exact⟨wO (by omega),(j+1,v),_,au.refl _ _,⟨y1,z2,z3⟩,by simp only;omega,⟨Z,Z,Z,Z,Z,Z,Z,Z,Y⟩,⟨Z,Z,Z,Z,Z,Y⟩⟩
  rw[lT]at O;rw[ab1 (by rw[abV];omega)]at y1;have y1:u=R:=y1;rw[<-y1]at J;exact⟨wO (by omega),(at'+1,u),_,au.refl _ _,⟨J,N⟩,by simp only;omega,⟨Z,Z,Z,Z,Z,Z,Z,Y⟩,⟨Z,Z,Z,Z,Z,Y⟩⟩
 rw[lo]at h1;rw[Reg.N8 _ _ _ _ (by omega)]at J;subst J;refine⟨_,au.MJ (by exact hC) _ 6 2 _ (by exact rfl) (by exact rfl),?_⟩;exact And.intro rfl (And.intro rfl trivial)
end M
namespace Reg
def P7(n:Nat)(h:zx):Nat:=if h.bore=true then n+h.num.toNat else h.num.toNat
def VM(bs:List aS)(T:List (List Int)):List Nat:=(List.range T.length).filter fun j=>bD bs j&&decide ((T.getD j []).length=0)
def K9(bs:List aS)(T:List (List Int))(c:Nat->Nat)(n:Nat):List Nat:=cd c n++(VM bs T).map fun j=>n+j
theorem H0(bs:List aS)(T:List (List Int))(c:Nat->Nat)(n:Nat):(K9 bs T c n).Nodup:=by
 rw[K9,aef];refine⟨afh _ _,?_,fun a z b hb=>?_⟩
 ·rw[aed,abe];refine adO ?_ (adK acf List.pairwise_lt_range);intro a b h;omega
 obtain⟨j,_,rfl⟩:=adS.1 hb;have:=(mem_keys.1 z).1;omega
variable {bs:List aS}
theorem Ab{T:List (List Int)}{n:Nat}{c:Nat->Nat}(z:HR c T n):dR bs T n=(K9 bs T c n).map fun r=>if r<n then ⟨Dw c n r,zW c T r,[]⟩ else ⟨[],[((r-n:Nat):Int)],[]⟩:=by
 obtain⟨_,_,D⟩:=sZ z n (aam _);rw[dR,D,vV,K9,abE,ad6];congr 1
 ·refine aaG fun r I=>?_;rw[aap (mem_keys.1 I).1]
 refine aaG fun j _=>?_;show _=(if n+j<n then _ else _);rw[aaa (by omega),abG]
theorem N9{T:List (List Int)}{n:Nat}{c:Nat->Nat}(bc:VH c T n){r:Nat}(D:r∈K9 bs T c n){h:zx}(I:dz h (if r<n then ⟨Dw c n r,zW c T r,[]⟩ else ⟨[],[((r-n:Nat):Int)],[]⟩)=true):r=c (P7 n h):=by
 rw[dz,adZ,aaZ,aaZ,oA,oA,ael]at I;rw[K9,abi]at D;by_cases e:r<n
 ·rw[aap e]at I;rcases I with⟨J,z⟩ | ⟨J,z⟩
  ·rw[P7,aap J];obtain⟨j,L,e2⟩:=adS.1 (show h.num∈zW c T r from z);obtain⟨a,R,U⟩:=aci.1 (adu.1 L).2;rw[<-e2,ad2,<-bc.e1 j a R];exact (adw U).symm
  rw[P7,aaa (by rw[J];simp)];obtain⟨k,hk,e2⟩:=adS.1 (show h.num∈Dw c n r from z);rw[<-e2,ad2];exact (dx.1 hk).2.symm
 rw[aaa e]at I;rcases D with D | D
 ·exact absurd (mem_keys.1 D).1 e
 obtain⟨j,L,rfl⟩:=adS.1 D;rw[abG]at I;rcases I with⟨J,z⟩ | ⟨J,z⟩
 ·rw[P7,aap J,ab_.1 (show h.num∈[(j:Int)] from z),ad2];obtain⟨N,O⟩:=adu.1 L;have N:=abD.1 N;rw[aaZ]at O;have V:T.getD j []=[]:=adN.1 (adw O.2);have l1:=bc.tops.le (n+j) (by omega);exact (bc.e2 j N V (c (n+j)) (by omega) (bc.tops.top _ (by omega))).symm
 cases z
theorem H3{T:List (List Int)}{n:Nat}(L:∀x∈T,∀p∈x,0<=p/\p<n){h:zx}{i k:Nat}{g q:bh}(hi:(dR bs T n)[i]?=some g)(hk:(dR bs T n)[k]?=some q)(D:dz h g=true)(I:dz h q=true):i=k:=by
 have bc:=B0 L;generalize cQ (jm n T.length T)=c at bc;rw[Ab bc.pc,aak]at hi hk;obtain⟨r,z,e1⟩:=acq.1 hi;obtain⟨s,J,e2⟩:=acq.1 hk;rw[<-e1]at D;rw[<-e2]at I;have a:=N9 bc (aad z) D;have b:=N9 bc (aad J) I;rw[<-b]at a;rw[a]at z;exact zn (H0 bs T c n) z J
def bare(g:bh):List Int×List Int:=(g.pieces,g.bores)
theorem P8{h:zx}{g q:bh}(e:bare g=bare q):dz h g=dz h q:=by
 injection e with e1 e2;rw[dz,dz,e1,e2]
theorem FZ(h:zx):∀(gs z:List bh) (k:Nat),gs.map bare=z.map bare->kY h k gs=kY h k z
 | [],[],k,_=>rfl
 | [],q::z,k,e=>by cases e
 | g::gs,[],k,e=>by cases e
 | g::gs,q::z,k,e=>by
  rw[aa8,aa8]at e;injection e with e1 e2;rw[kY,kY,P8 e1,FZ h gs z (k+1) e2]
def dq(bs:List aS)(ps:List Piece)(gs:List bh)(l:fo):Int:=if (vW bs ps l).2=true then kY (vW bs ps l).1 0 gs else -1
def s6(bs:List aS)(ps:List Piece)(gs:List bh)(l:fo):List bh:=
 if 0<=dq bs ps gs l then gs.set (dq bs ps gs l).toNat (iN (l.part,l.pin) (gs.getD (dq bs ps gs l).toNat ⟨[],[],[]⟩)) else gs
theorem N_{gs:List bh}{k:Nat}{p:ByteArray×ByteArray}:(gs.set k (iN p (gs.getD k ⟨[],[],[]⟩))).map bare=gs.map bare:=by
 refine ach fun i=>?_;rw[aak,aak];rcases aen k gs.length with c | c
 ·rw[ew c];by_cases e:i=k
  ·rw[aap e,e,acg c,ad4,acg c];rfl
  rw[aaa e]
 rw[List.set_eq_of_length_le c]
theorem B9{ps:List Piece}{o:List Int×List Int}{G:List bh}(D:NS bs ps)
  (I:∀l,(il bs ps l).2=true->∃k:Nat,(if (il bs ps l).1.bore=true then o.2 else o.1).getD (il bs ps l).1.num.toNat 0=k/\kY (il bs ps l).1 0 G=k):
  ∀(z:List fo) (gs:List bh) (s:qN),gs.map bare=G.map bare->s.groups=gs->z.foldl (s6 bs ps) gs=(z.foldl (uA bs ps o) s).groups
 | [],gs,s,_,e=>e.symm
 | l::z,gs,s,hb,e=>by
  rw[aaq,aaq];obtain⟨J,L⟩:=P1 D l;refine B9 D I z _ _ ?_ ?_
  ·rw[s6];split
   ·rw[N_];exact hb
   exact hb
  rw[s6,dq];show (if (il bs ps l).2=true then s.groups.set _ _ else s.groups)=_;by_cases c:(il bs ps l).2=true
  ·obtain⟨k,N,O⟩:=I l c;have R:kY (il bs ps l).1 0 gs=k:=by rw[<-O];exact FZ _ _ _ 0 hb
   rw[L c];simp only[aap c,R,N,e];rw[aap (Int.natCast_nonneg k)]
  have U:¬(vW bs ps l).2=true:=by rw[J];exact c
  rw[aaa c];simp only[aaa U];rw[aaa (by omega)];exact e
theorem s7(bs:List aS)(ps:List Piece):∀x∈bB bs ps,∀p∈x,0<=p/\p<(ps.length:Int):=fun x z p hp=>by
 obtain⟨b,_,rfl⟩:=adS.1 z;have:=rE b ps 0 p hp;omega
theorem aeO(bs:List aS)(ps:List Piece):(bB bs ps).length=bs.length:=by rw[bB,aej]
theorem Ac{b:aS}(h:b.plated=false):∀(ps:List Piece) (k:Nat),fu b k ps=[]
 | [],k=>rfl
 | p::ps,k=>by
  rw[fu,aaa (by rw[fX,h];simp)];exact Ac h ps (k+1)
theorem uT{ps:List Piece}{j:Nat}(z:j<(bB bs ps).length)(h:bD bs j=false):(bB bs ps).getD j []=[]:=by
 rw[aeO]at z;rw[bB,ad4,aak,acg z];refine Ac ?_ ps 0;rw[bD,ad4,acg z]at h;exact h
theorem Oa{a:fS}(hb:∀b∈a.bores,bO b=true)(J:∀r∈a.coppers,∀q∈r,Full q):(∀p∈(aC a).pieces,bE p.set)/\NS a.bores (aC a).pieces:=by
 have key:∀p∈(aC a).pieces,bE p.set/\∀b∈a.bores,∀x y,through b p.layer=true->dE x y (aa b)=true->at' p.set x y=false:=fun p hp=>by
  obtain⟨i,r,L,N,O⟩:=mH hp;obtain⟨R,a2,_⟩:=aR (J r (aad L));obtain⟨U,V,_⟩:=aR (l:=bq a.bores (0+i)) fun q W=>by
   obtain⟨b,Y,rfl⟩:=adS.1 W;exact bX (hb b (adu.1 Y).1)
  obtain⟨Z,c2,_⟩:=b6 R U;obtain⟨d1,_,d3,_⟩:=rD Z O;refine⟨d1,fun b z x y D I=>?_⟩;rw[aaV];intro g;have:=d3 x y g;rw[c2,V,aaZ,ael]at this;have h4:=afE.1 this.2 (aa b) (adS.2 ⟨b,adu.2 ⟨z,by rw[<-N];exact D⟩,rfl⟩);exact h4 I
 exact⟨fun p hp=>(key p hp).1,fun p hp b z x y D I=>by rw[iy (key p hp).1];exact (key p hp).2 b z x y D I⟩
theorem K_{ps:List Piece}(l:fo)(O:(il bs ps l).2=true):
  ∃k:Nat,(if (il bs ps l).1.bore=true then (jn bs ps.length (aP (cQ (jm ps.length bs.length (bB bs ps))) (ps.length+bs.length))).1.2 else (jn bs ps.length (aP (cQ (jm ps.length bs.length (bB bs ps))) (ps.length+bs.length))).1.1).getD (il bs ps l).1.num.toNat 0=k /\
   kY (il bs ps l).1 0 (dR bs (bB bs ps) ps.length)=k:=by
 have z:=s7 bs ps;have e:=uM (aeO bs ps) z fun j R h=>uT R h;have L:=(qM (bB bs ps) 0 _ (ny (ps.length+bs.length)) (aeM _) (by rw[aeO];omega) z);have ok:=vL L.1 L.2;have N:∀{k:Nat} {g:bh},(dR bs (bB bs ps) ps.length)[k]?=some g->dz (il bs ps l).1 g=true->kY (il bs ps l).1 0 (dR bs (bB bs ps) ps.length)=k:=fun {k g} hk hi=>by
  have:=NT (m:=0) hk hi fun i q U V=>H3 z U hk V hi;rw[abC]at this;exact this
 rcases zD l ps bs 0 O with⟨m,a,d⟩ | ⟨m,a,_,d,p⟩
 ·obtain⟨k,g,D,I,J⟩:=ok.a m d;have a:(il bs ps l).1=⟨false,m⟩:=a;refine⟨k,?_,N (by rw[e];exact I) ?_⟩
  ·rw[a];show List.getD _ (m:Int).toNat 0=_;rw[ad2,ad4];exact adV (·.getD 0) D
  rw[a];simp[dz,oA,J]
 obtain⟨k,g,D,I,J⟩:=ok.b m (by omega) p;have a:(il bs ps l).1=⟨true,m⟩:=a;refine⟨k,?_,N (by rw[e];exact I) ?_⟩
 ·rw[a];show List.getD _ (m:Int).toNat 0=_;rw[ad2,ad4];exact adV (·.getD 0) D
 rw[a];simp[dz,oA,J]
theorem DB{a:fS}(hb:∀b∈a.bores,bO b=true)(z:∀r∈a.coppers,∀q∈r,Full q):
  a.lands.foldl (s6 a.bores (aC a).pieces) (dR a.bores (aC a).bB (aC a).pieces.length)=(aC a).placed.groups:=by
 obtain⟨_,D⟩:=Oa hb z;refine B9 D (G:=dR a.bores (aC a).bB (aC a).pieces.length) (fun l hl=>K_ l hl) a.lands _ _ rfl ?_;exact (uM (aeO _ _) (s7 _ _) fun j I h=>uT I h).symm
def ofG:Nat->List bh->List Int->List Int
 | _,[],out=>out
 | i,g::r,out=>ofG (i+1) r (g.pieces.foldl (fun o p=>o.set p.toNat (i:Int)) out)
theorem agC(i:Int):∀(l:List Int) (o:List Int),(∀p∈l,0<=p/\p.toNat<o.length)->(l.foldl (fun o p=>o.set p.toNat i) o).length=o.length/\∀m:Nat,(l.foldl (fun o p=>o.set p.toNat i) o)[m]?=if (m:Int)∈l then some i else o[m]?
 | [],o,_=>⟨rfl,fun m=>by simp⟩
 | p::l,o,h=>by
  obtain⟨p0,z⟩:=h p adU;obtain⟨D,I⟩:=agC i l (o.set p.toNat i) fun q J=>by rw[aaM];exact h q (aaw _ J)
  refine⟨D.trans aaM,fun m=>?_⟩;rw[aaq,I,ew z];by_cases c:(m:Int)∈l
  ·rw[aap c,aap (aaw _ c)]
  rw[aaa c];by_cases e:m=p.toNat
  ·rw[aap e,aap (adq.2 (.inl (by omega)))]
  rw[aaa e,aaa];intro g;rcases adq.1 g with g | g
  ·omega
  exact c g
theorem agT:∀(gs:List bh) (i:Nat) (out:List Int),(∀g∈gs,∀p∈g.pieces,0<=p/\p.toNat<out.length)->(ofG i gs out).length=out.length /\
  ∀m:Nat,((∀g∈gs,¬(m:Int)∈g.pieces)->(ofG i gs out)[m]?=out[m]?)/\∀k g,gs[k]?=some g->(m:Int)∈g.pieces->(∀j q,gs[j]?=some q->(m:Int)∈q.pieces->j=k)->(ofG i gs out)[m]?=some ((i+k:Nat):Int)
 | [],i,out,_=>⟨rfl,fun m=>⟨fun _=>rfl,fun k g hk=>by cases hk⟩⟩
 | g::gs,i,out,h=>by
  obtain⟨J,L⟩:=agC (i:Int) g.pieces out (h g adU);obtain⟨U,D⟩:=agT gs (i+1) (g.pieces.foldl (fun o p=>o.set p.toNat (i:Int)) out) fun q z p hp=>by rw[J];exact h q (aaw _ z) p hp
  refine⟨U.trans J,fun m=>⟨fun N=>?_,fun k q hk O R=>?_⟩⟩
  ·rw[ofG,(D m).1 fun q z=>N q (aaw _ z),L,aaa (N g adU)]
  rw[ofG];cases k with
  | zero=>
   injection hk with hk;subst hk;rw[(D m).1 fun q z V=>?_,L,aap O]
   ·rfl
   obtain⟨j,I⟩:=ab8.1 z;have:=R (j+1) q (by simpa using I) V;omega
  | succ k=>
   rw[(D m).2 k q (by simpa using hk) O fun j r I W=>by have:=R (j+1) r (by simpa using I) W;omega];rw[show i+1+k=i+(k+1) by omega]
theorem ahj{a:fS}(G:List bh)(O:G.map bare=(dR a.bores (aC a).bB (aC a).pieces.length).map bare):ofG 0 G (List.replicate (aC a).pieces.length 0)=(aC a).ofPiece:=by
 have L:=s7 a.bores (aC a).pieces;have e:=uM (aeO a.bores (aC a).pieces) L fun j N h=>uT N h;have R:=(qM (bB a.bores (aC a).pieces) 0 _ (ny ((aC a).pieces.length+a.bores.length)) (aeM _) (by rw[aeO];omega) L);have ok:=vL R.1 R.2;have back:∀{k:Nat} {g:bh},G[k]?=some g->∃q,(dR a.bores (aC a).bB (aC a).pieces.length)[k]?=some q/\g.pieces=q.pieces:=fun {k g} hk=>by
  have J:=adV (·[k]?) O;simp only[aak,hk]at J;obtain⟨q,D,z⟩:=acq.1 J.symm;injection z with z Y;exact⟨q,D,z.symm⟩
 have Lf:∀g∈G,∀p∈g.pieces,0<=p/\p.toNat<(List.replicate (aC a).pieces.length (0:Int)).length:=fun g Z p hp=>by
  obtain⟨k,hk⟩:=ab8.1 Z;obtain⟨q,D,z⟩:=back hk;have e2:(dR a.bores (aC a).bB (aC a).pieces.length)=_:=e;rw[e2]at D;obtain⟨i,i1,i2,_⟩:=(ok.c k q D).2 p (by rw[<-z];exact hp);rw[aan];omega
 obtain⟨J,h2⟩:=agT G 0 _ Lf;refine ach fun m=>?_;rw[aan]at J;have l1:(aC a).ofPiece.length=(aC a).pieces.length:=ok.l1;rcases aen m (aC a).pieces.length with c | c
 ·obtain⟨k,g,g1,g2,U⟩:=ok.a m c;have e2:(dR a.bores (aC a).bB (aC a).pieces.length)=_:=e;have I:(dR a.bores (aC a).bB (aC a).pieces.length)[k]?=some g:=by rw[e2];exact g2
  have V:=adV (·[k]?) O;simp only[aak,I]at V;obtain⟨q,D,z⟩:=acq.1 V;injection z with z Y;have:=(h2 m).2 k q D (by rw[z];exact U) fun j r N W=>by
   obtain⟨r',r1,r2⟩:=back N;exact H3 L (h:=⟨false,m⟩) r1 I (by rw[r2]at W;simp[dz,oA,W]) (by simp[dz,oA,U])
  rw[this,abC];exact g1.symm
 rw[abI (by omega),abI (by omega)]
end Reg
namespace M
open Go.AM Go.RowKit Go.Lib
open Reg (ae Full RK an bE aS fo fS Piece bh zx told through aa bO Jk w9 dN dO mV pz hD jy vW dz kY dq dE)
theorem La(r:List ae)(q:ae)(O:∀p∈r,jZ p)(R:jZ q)(hN:r.length<=4398046511104):af C 111 [.pv (aj r),.pv (.ag (rc q))] (.p (bool (w9 r q))) []:=by
 have I:=ai r rc;refine fW hC Tryz.func111 rfl (by kernel_rfl) fun _=>?_;refine aJ (fun i:Nat=>w9 (r.drop i) q=w9 r q) (fun i=>[(0,.p (aj r)),(3,.bx 3 0),(5,.p (i64 i))]) (fun _=>[(3,.box ((rc q).map .p))]) (fun i=>r.length-i) 0 _ (au.refl _ _) rfl ⟨Z,Z,Z,Y⟩ ⟨Z,Y⟩ fun i hi t h=>?_;apply iW<;>intro J
 ·rw[I]at J;obtain⟨p,hp⟩:=ak (l:=r) (i:=i) (by omega);have mp:=O p (aad hp);rw[drop_at hp]at hi;have U:w9 (p::r.drop (i+1)) q=(((decide (0<dN p q)&&decide (dO p q=0))||(decide (dN p q=0)&&decide (0<dO p q)))||w9 (r.drop (i+1)) q):=rfl;rw[U]at hi;unfold jZ at mp R;refine⟨(rc p),(idx rfl hp),(rc p),(idx rfl hp),wO (by omega),(rc p),(idx rfl hp),(rc p),(idx rfl hp),wO (by omega),?_⟩;have V:dN p q=min p.x1 q.x1-max p.x0 q.x0:=rfl;have W:dO p q=min p.y1 q.y1-max p.y0 q.y0:=rfl;rw[V,W]at hi;generalize min p.x1 q.x1-max p.x0 q.x0=u at hi ⊢;generalize min p.y1 q.y1-max p.y0 q.y0=v at hi ⊢;apply iW<;>intro D
  ·apply iW<;>intro L
   ·refine⟨?_,trivial⟩;rw[<-hi,acd D,acd L];rfl
   apply iW<;>intro z
   ·exfalso;omega
   exact⟨wO (by omega),(i+1),_,au.refl _ _,by rw[<-hi,aaz L,aaz z];simp,by omega,⟨Z,Z,Z,Y⟩,⟨Z,Y⟩⟩
  apply iW<;>intro z
  ·apply iW<;>intro N
   ·refine⟨?_,trivial⟩;rw[<-hi,acd z,acd N];simp;rfl
   exact⟨wO (by omega),(i+1),_,au.refl _ _,by rw[<-hi,aaz D,aaz N];simp,by omega,⟨Z,Z,Z,Y⟩,⟨Z,Y⟩⟩
  exact⟨wO (by omega),(i+1),_,au.refl _ _,by rw[<-hi,aaz D,aaz z];simp,by omega,⟨Z,Z,Z,Y⟩,⟨Z,Y⟩⟩
 rw[I]at J;rw[ab1 (by omega)]at hi;refine⟨?_,trivial⟩;rw[<-hi];rfl
def gB(ps:List Piece):List (List PV):=ps.map fun p=>[i64 p.layer]
def eB(ps:List Piece):List (List PV):=ps.map fun p=>[aj (told p.set)]
def Lo(a:fS)(ps:List Piece)(gs:List bh)(T:List (List Int)):List PV:=dX a++[.sl (gB ps),.sl (eB ps),.sl (gs.map sT),.sl (T.map uY)]
theorem xe{l:List ae}(h:∀r∈l,Full r)(x y:Int):aL (Reg.rowOf l y) x=l.any (dE x y):=by
 have I:=(Reg.iS l y fun r J=>(h r J).1).2 x;rw[abb,aL,aci,aci];refine Iff.trans ?_ (I.trans ?_)
 ·simp[Reg.cover]
 constructor
 ·rintro⟨r,z,D,h3⟩;exact⟨r,z,Reg.aQ.2 ⟨by omega,by omega,by omega,by omega⟩⟩
 rintro⟨r,z,D⟩;obtain⟨g1,g2,g3,g4⟩:=Reg.aQ.1 D;exact⟨r,z,by omega,by omega⟩
structure P9(ps:List Piece):Prop where
 jB:ps.length<=2000
 sok:∀p∈ps,bE p.set
 len:∀p∈ps,(told p.set).length<=4398046511104
theorem H4(a:fS)(ok:B5 a.bores)(l:fo)(ps:List Piece)(I:P9 ps)(gs:List bh)(T:List (List Int)):af C 246 [.pv (.ip (Lo a ps gs T)),.pv (.ag (lc l))] (.tu [.ag (je (vW a.bores ps l).1),bool (vW a.bores ps l).2]) []:=by
 have lb:=ai a.bores bc;have lp:(eB ps).length=ps.length:=aej ..;have lp2:(gB ps).length=ps.length:=aej ..;have jB:=I.jB;have Td:=ok.jB;obtain⟨R,z⟩:∃R,R=vW a.bores ps l:=⟨_,rfl⟩;rw[<-z];rw[vW]at z;refine fW hC Tryz.func246 rfl (by kernel_rfl) fun _=>?_;refine aJ (fun k:Nat=>hD l k (ps.drop k)=hD l 0 ps) (fun k=>[(0,.p (.ip (Lo a ps gs T))),(3,.bx 3 0),(4,.bx 4 0),(6,.p (i64 k))]) (fun _=>[(3,.box ((lc l).map .p)),(4,.box [.p (bool false),.p (i64 0)])]) (fun k=>ps.length-k) 0 _ (au.refl _ _) rfl ⟨Z,Z,Z,Z,Y⟩ ⟨Z,Z,Y⟩ fun k hk t h=>?_;apply iW<;>intro g1
 ·obtain⟨p,hp⟩:=ak (l:=ps) (i:=k) (by omega);have L:=I.sok p (aad hp);have pl:=I.len p (aad hp);rw[drop_at hp,hD]at hk;have yes:pz l p=true->R=(⟨false,k⟩,true):=fun h=>by rw[aap h]at hk;rw[<-hk]at z;exact z
  have no:pz l p=false->hD l (k+1) (ps.drop (k+1))=hD l 0 ps:=fun h=>by rw[aaa (by rw[h];decide)]at hk;exact hk
  have J:=tP (told p.set) l.x l.y pl;rw[xe (Reg.bP L)]at J;refine⟨[i64 p.layer],(idx rfl hp),iW ?_ ?_⟩<;>intro O
  ·refine⟨[aj (told p.set)],(idx rfl hp),_,_,J,iW ?_ ?_⟩<;>intro U
   ·have N:=yes (by simp only[pz,aaZ,aaH];exact⟨O,U⟩);exact And.intro (by rw[N];rfl) trivial
   have D:=no (by simp only[pz];rw[aaC];exact .inr U);exact⟨wO (by omega),(k+1),_,au.refl _ _,D,by omega,⟨Z,Z,Z,Z,Y⟩,⟨Z,Z,Y⟩⟩
  have D:=no (by simp only[pz];rw[aaz O,abp]);exact⟨wO (by omega),(k+1),_,au.refl _ _,D,by omega,⟨Z,Z,Z,Z,Y⟩,⟨Z,Z,Y⟩⟩
 rw[ab1 (by omega),hD]at hk;rw[<-hk]at z;refine aJ (fun i:Nat=>jy l i (a.bores.drop i)=jy l 0 a.bores) (fun i=>[(0,.p (.ip (Lo a ps gs T))),(3,.bx 3 0),(4,.bx 4 0),(7,.p (i64 i))]) (fun _=>[(3,.box ((lc l).map .p)),(4,.box [.p (bool false),.p (i64 0)])]) (fun i=>a.bores.length-i) 0 _ (au.refl _ _) rfl ⟨Z,Z,Z,Z,Y⟩ ⟨Z,Z,Y⟩ fun i hi t h=>?_;apply iW<;>intro g4
 ·obtain⟨b,hb⟩:=ak (l:=a.bores) (i:=i) (by omega);have V:=ok.ok b (aad hb);rw[drop_at hb,jy]at hi;have yes:mV l b=true->R=(⟨true,i⟩,true):=fun h=>by rw[aap h]at hi;rw[<-hi]at z;exact z
  have no:mV l b=false->jy l (i+1) (a.bores.drop (i+1))=jy l 0 a.bores:=fun h=>by rw[aaa (by rw[h];decide)]at hi;exact hi
  have J:=tP [aa b] l.x l.y (by simp);rw[xe (fun r hr=>by rw[ab_.1 hr];exact Reg.bX V),abd,List.any_nil,abo]at J;refine⟨(bc b),(idx rfl hb),iW ?_ ?_⟩<;>intro W
  ·refine⟨(bc b),(idx rfl hb),_,_,(pJ b l.layer),iW ?_ ?_⟩<;>intro g6
   ·refine⟨(bc b),(idx rfl hb),_,_,(di b V),_,_,J,iW ?_ ?_⟩<;>intro g7
    ·have N:=yes (by simp only[mV,aaZ];exact⟨⟨W,g6⟩,g7⟩);exact And.intro (by rw[N];rfl) trivial
    have D:=no (by simp only[mV];rw[aaC];exact .inr g7);exact⟨wO (by omega),(i+1),_,au.refl _ _,D,by omega,⟨Z,Z,Z,Z,Y⟩,⟨Z,Z,Y⟩⟩
   have D:=no (by simp only[mV];rw[g6,aav,abp]);exact⟨wO (by omega),(i+1),_,au.refl _ _,D,by omega,⟨Z,Z,Z,Z,Y⟩,⟨Z,Z,Y⟩⟩
  have D:=no (by simp only[mV];rw[W,abp,abp]);exact⟨wO (by omega),(i+1),_,au.refl _ _,D,by omega,⟨Z,Z,Z,Z,Y⟩,⟨Z,Z,Y⟩⟩
 rw[ab1 (by omega),jy]at hi;rw[<-hi]at z;exact And.intro (by rw[z];rfl) trivial
theorem xx(a:fS)(h:zx)(ps:List Piece)(gs:List bh)(T:List (List Int))(hg:gs.length<=1000000)(hl:∀g∈gs,g.pieces.length<=1000000/\g.bores.length<=1000000):af C 143 [.pv (.ip (Lo a ps gs T)),.pv (.ag (je h))] (.p (i64 (kY h 0 gs))) []:=by
 have lg:=ai gs sT;obtain⟨D,z⟩:=h;refine fW hC Tryz.func143 rfl (by kernel_rfl) fun _=>?_;refine aJ (fun i:Nat=>kY ⟨D,z⟩ i (gs.drop i)=kY ⟨D,z⟩ 0 gs) (fun i=>[(0,.p (.ip (Lo a ps gs T))),(3,.bx 3 0),(5,.p (i64 i))]) (fun _=>[(3,.box ((je ⟨D,z⟩).map .p))]) (fun i=>gs.length-i) 0 _ (au.refl _ _) rfl ⟨Z,Z,Z,Y⟩ ⟨Z,Y⟩ fun i hi t h'=>?_;apply iW<;>intro g1
 ·obtain⟨g,J⟩:=ak (l:=gs) (i:=i) (by omega);obtain⟨l1,l2⟩:=hl g (aad J);rw[drop_at J,kY]at hi;have yes:dz ⟨D,z⟩ g=true->kY ⟨D,z⟩ 0 gs=i:=fun e=>by rw[aap e]at hi;exact hi.symm
  have no:dz ⟨D,z⟩ g=false->kY ⟨D,z⟩ (i+1) (gs.drop (i+1))=kY ⟨D,z⟩ 0 gs:=fun e=>by rw[aaa (by rw[e];decide)]at hi;exact hi
  cases D with
  | true=>
   refine⟨(sT g),(idx rfl J),_,_,(mM g.bores z l2),iW ?_ ?_⟩<;>intro I
   ·have L:=yes (by simp only[dz];rw[I];rfl);refine⟨?_,trivial⟩;rw[L]
   have N:=no (by simp only[dz];rw[I];rfl);exact⟨wO (by omega),(i+1),_,au.refl _ _,N,by omega,⟨Z,Z,Z,Y⟩,⟨Z,Y⟩⟩
  | false=>
   refine⟨(sT g),(idx rfl J),_,_,(mM g.pieces z l1),iW ?_ ?_⟩<;>intro I
   ·have L:=yes (by simp only[dz];rw[I];rfl);refine⟨?_,trivial⟩;rw[L]
   have N:=no (by simp only[dz];rw[I];rfl);exact⟨wO (by omega),(i+1),_,au.refl _ _,N,by omega,⟨Z,Z,Z,Y⟩,⟨Z,Y⟩⟩
 rw[ab1 (by omega),kY]at hi;refine⟨?_,trivial⟩;rw[<-hi];rfl
theorem DC(a:fS)(ok:B5 a.bores)(l:fo)(ps:List Piece)(D:P9 ps)(gs:List bh)(T:List (List Int))(I:gs.length<=1000000)(hl:∀g∈gs,g.pieces.length<=1000000/\g.bores.length<=1000000):af C 192 [.pv (.ip (Lo a ps gs T)),.pv (.ag (lc l))] (.p (i64 (dq a.bores ps gs l))) []:=by
 refine fW hC Tryz.func192 rfl (by kernel_rfl) fun _=>?_;refine⟨_,_,(H4 a ok l ps D gs T),iW ?_ ?_⟩<;>intro z
 ·refine⟨?_,trivial⟩;rw[dq,aaa (by rw[z];decide)];rfl
 have z:(vW a.bores ps l).2=true:=by simpa using z
 refine⟨_,_,(xx a (vW a.bores ps l).1 ps gs T I hl),?_,trivial⟩;rw[dq,aap z]
end M
end Go.Proofs.YtfloceomobknoaaGreatDoor
namespace Go.AM
def PW(x y:PV):Prop:=x=y\/(x=.im (.slice none 0 0)/\y=.sl [])
theorem PW.rep{S:Nat->Prop}{w:World}{x y:PV}{v:Value}(h:PW x y)(z:aO S w x v):aO S w y v:=by
 rcases h with rfl | ⟨rfl,rfl⟩
 ·exact z
 cases z;exact .nil _ _
theorem au.P_{A:cD}(hC:bI A.C)(s:AS)(id:Nat){e:TypeId}{es:List (List PV)}{r r':List PV}(hb:s.h id=.row e (es++[r]))(hl:r'.length=r.length)(U:∀(j:Nat) x y,r[j]?=some x->r'[j]?=some y->PW x y):au A s ⟨s.t,aT s.h id (.row e (es++[r']))⟩:=by
 intro S rho a w J;have N:=J.hp id trivial;rw[hb]at N;have N:aG A.C.P w (aO S w) e (es++[r]) (rho id):=N;have at':∀(k:Nat) q I,(es++[r])[k]?=some q->(es++[r'])[k]?=some I->(q=I)\/(q=r/\I=r'):=fun k q I D z=>by
  by_cases c:k<es.length
  ·rw[aaE c]at D z;rw[D]at z;injection z with z;exact .inl z
  rw[acu (by omega)]at D z;have hk:k-es.length=0:=by
   have:=(aao.1 D).1;simp at this;omega
  rw[hk]at D z;simp at D z;exact .inr ⟨D.symm,z.symm⟩
 refine⟨S,rho,J.write hC id trivial (by rw[hb];trivial) _ (fun e' h=>by rw[hb];exact h) w rfl rfl rfl rfl (fun _ _=>rfl) fun T=>?_⟩;refine N.re (by simp) (fun k q I D z=>?_) fun k q I j x V u D z O L _ R=>?_
 ·rcases at' k q I D z with e | ⟨e1,e2⟩
  ·rw[e]
  rw[e1,e2,hl]
 rcases at' k q I D z with e | ⟨e1,e2⟩
 ·subst e;rw[O]at L;injection L with L;subst L;exact R.mono T.hS T.keep
 subst e1;subst e2;exact (U j x V O L).rep (R.mono T.hS T.keep)
theorem YA{R U V W Y Z a6:AV}{z:PV}{ys:List PV}(h:Lq [R,U,V,W,Y,Z,a6,.p z] ys):∃x0 x1 I J L N O,ys=[x0,x1,I,J,L,N,O,z]:=by
 obtain⟨h1,h2⟩:=h;have D:=h2 7 z rfl
 match ys,h1,D with
 | [x0,x1,I,J,L,N,O,x7],_,D=>
  simp at D;exact⟨x0,x1,I,J,L,N,O,by rw[D]⟩
end Go.AM
namespace Go.Proofs.YtfloceomobknoaaGreatDoor
namespace M
open Go.AM Go.RowKit Go.Lib
open Reg (ae Full RK an bE aS fo fS Piece bh zx told through aa bO gA j_ eH w8 dR bD s6 dq iN P6)
theorem Lb(l:List Bool):∀r∈bits l,∀z∈r,AY z=true:=fun r I z D=>by
 obtain⟨b,_,rfl⟩:=adS.1 I;simp at D;subst D;rfl
theorem Ob(g:bh):Rk (.ag (wR g)):=fun c D=>by
 simp only[wR,adq,adI,or_false]at D;rcases D with rfl | rfl | rfl
 ·intro r z;obtain⟨n,_,rfl⟩:=adS.1 z;exact⟨_,_,rfl⟩
 ·intro r z;obtain⟨n,_,rfl⟩:=adS.1 z;exact⟨_,_,rfl⟩
 trivial
def nG(bs:List aS)(T:List (List Int))(gs:List bh)(i:Nat):List bh:=(List.range i).foldl (w8 bs T) gs
theorem uU(bs:List aS)(T:List (List Int))(gs:List bh)(i:Nat):nG bs T gs (i+1)=w8 bs T (nG bs T gs i) i:=by simp[nG,ac2,aaD]
variable {gs:List bh}
theorem sf(bs:List aS)(T:List (List Int)){m:Nat}(D:gs.length<=m)(I:∀g∈gs,P6 g):∀i,(nG bs T gs i).length<=m+i/\∀g∈nG bs T gs i,P6 g
 | 0=>⟨D,I⟩
 | i+1=>by
  obtain⟨a,b⟩:=sf bs T D I i;rw[uU,w8];split
  ·refine⟨by simp only[acv,abS];omega,fun g z=>?_⟩;rcases abi.1 z with z | z
   ·exact b g z
   rw[ab_.1 z];exact⟨rfl,by simp,by simp⟩
  exact⟨by omega,b⟩
structure Qa(m:Nat)(gs:List bh):Prop where
 jB:gs.length<=1000000
 len:∀g∈gs,g.pieces.length<=1000000/\g.bores.length<=1000000/\g.pins.length<=m
theorem Qb{bs:List aS}{ps:List Piece}{m:Nat}(h:Qa m gs)(l:fo):Qa (m+1) (s6 bs ps gs l):=by
 rw[s6];split
 ·refine⟨by rw[aaM];exact h.jB,fun g z=>?_⟩;rcases abg z with z | z
  ·have:=h.len g z;omega
  subst z;have key:∀q:bh,(q.pieces.length<=1000000/\q.bores.length<=1000000/\q.pins.length<=m)->(iN (l.part,l.pin) q).pieces.length<=1000000/\(iN (l.part,l.pin) q).bores.length<=1000000/\(iN (l.part,l.pin) q).pins.length<=m+1:=fun q D=>by
   refine⟨D.1,D.2.1,?_⟩;show (q.pins++[_]).length<=m+1;rw[acv,abS];omega
  refine key _ ?_;rw[ad4];cases e:gs[(dq bs ps gs l).toNat]? with
  | none=>simp
  | some q=>exact h.len q (aad e)
 exact⟨h.jB,fun g z=>by have:=h.len g z;omega⟩
theorem Oc{h:zx}:∀(gs:List bh) (k:Nat),0<=Reg.kY h k gs->(Reg.kY h k gs).toNat<k+gs.length
 | [],k,h0=>by rw[Reg.kY]at h0;omega
 | g::gs,k,h0=>by
  rw[Reg.kY]at h0 ⊢;split
  ·simp only[aaB];omega
  rename_i c;rw[aaa c]at h0;have:=Oc gs (k+1) h0;simp only[aaB];omega
theorem VN{bs:List aS}{ps:List Piece}{l:fo}(z:0<=dq bs ps gs l):(dq bs ps gs l).toNat<gs.length:=by
 unfold dq at z ⊢;split
 ·rename_i c;rw[aap c]at z;have:=Oc gs 0 z;omega
 rename_i c;rw[aaa c]at z;omega
theorem H5(a:fS)(ok:B5 a.bores)(SU:a.lands.length<=1000)(ps:List Piece)(hps:P9 ps)(T:List (List Int))(Yu:T.length=a.bores.length)(Vs:∀x∈T,x.length<=1000000)(hT:∀j,∀p∈T.getD j [],0<=p/\p<ps.length)(R:List bh)(hR:R=a.lands.foldl (s6 a.bores ps) (dR a.bores T ps.length)):
  af C 112 [.aN [.p (.sl (a.coppers.map rr)),.p (aj a.outline),.p (.sl (a.bores.map bc)),.p (.sl (a.lands.map lc)),.p (.sl (gB ps)),.p (.sl (eB ps)),.row 142 [],.p (.sl (T.map uY))]] (.tu []) [.aN [.p (.sl (a.coppers.map rr)),.p (aj a.outline),.p (.sl (a.bores.map bc)),.p (.sl (a.lands.map lc)),.p (.sl (gB ps)),.p (.sl (eB ps)),.row 142 (R.map sT),.p (.sl (T.map uY))]]:=by
 have lb:=ai a.bores bc;have ll:=ai a.lands lc;have lT:=ai T uY;have lp:(eB ps).length=ps.length:=aej ..;have jB:=hps.jB;have Td:=ok.jB;obtain⟨n,hn⟩:∃n,n=ps.length:=⟨_,rfl⟩;rw[<-hn]at hT hR;refine UO ⟨[16],[],[(5,[100000,1100000]),(17,[6,1000006,90002,1090002,100000,1100000])],[5,17],[(5,[true,true,false,false,false,true,true,true,false,true,true,true,true,true]),(17,[true,false,false,false,true,true,true,true,true,true,true,true,true,true,true,true,true,true,true,false,true,true,true])],[]⟩ hC Tryz.func112 rfl (by kernel_rfl) fun _=>⟨_,au.open hC _ 100000 [90002] (by exact rfl) rfl rfl rfl,?_⟩;refine⟨⟨by omega,by omega,by dsimp only;omega,by omega⟩,?_⟩;have h0:(List.replicate (eB ps).length [bool false])=bits (gA T n 0).1:=by rw[bits,gA,lp,<-hn];simp
 refine aJ (fun i:Nat=>i<=n) (fun i=>[(0,.bx 100000 0),(2,.ow 2),(3,.p (i64 i))]) (fun i=>[(100000,.box [.p (.sl (a.coppers.map rr)),.p (aj a.outline),.p (.sl (a.bores.map bc)),.p (.sl (a.lands.map lc)),.p (.sl (gB ps)),.p (.sl (eB ps)),.ow 90002,.p (.sl (T.map uY))]),(2,.row 4 (bits (gA T n i).1)),(90002,.row 142 ((gA T n i).2.map wR))]) (fun i=>n-i) 0 _ (au.refl _ _) (aaj _) ⟨Z,Z,Z,Y⟩ ⟨rfl,adV (AB.row _) h0,Z,Y⟩ fun i hi t h=>?_;obtain⟨f1,f2,f3⟩:=Reg.se (by omega) (by omega) hT i hi;have J:=Reg.uS T n i;apply iW<;>intro g1
 ·have g1:i<n:=by omega
  generalize gA T n i=s at *;obtain⟨D,G⟩:=s;simp only at f1 f2 f3;obtain⟨d,hd⟩:=ak (l:=D) (i:=i) (by omega);have eD:=oD (d:=true) hd;have lD:=oC D;have lG:=ai G wR;refine⟨⟨by omega,by dsimp only;omega⟩,[bool d],(kM rfl hd),iW ?_ ?_⟩<;>intro g2
  ·have g2:d=false:=by simpa using g2
   rw[j_,aaa (by simp only;rw[eD,g2];decide)]at J;refine⟨.ag (wR ⟨(eH T n i D).pieces,(eH T n i D).bores,[]⟩),bits (eH T n i D).seen,(fun ys Ij=>by
    obtain⟨x0,x1,x2,x3,x4,x5,x6,rfl⟩:=YA (by exact Ij);exact FY T n (by omega) (by omega) Vs hT D f1 i (by omega) (by rw[eD,g2]) x0 x1 x2 x3 x4 x5 x6),(fun c hc=>by
    change c∈[AV.p (.sl (a.coppers.map rr)),AV.p (aj a.outline),AV.p (.sl (a.bores.map bc)),AV.p (.sl (a.lands.map lc)),AV.p (.sl (gB ps)),AV.p (.sl (eB ps)),AV.ow 90002,AV.p (.sl (T.map uY))]at hc;simp only[adq,adI,or_false]at hc;rcases hc with rfl | rfl | rfl | rfl | rfl | rfl | rfl | rfl<;>rfl),Ob _,Lb _,?_⟩
   exact⟨⟨fun r V=>by simp at V;subst V;rfl,by simp only[lG,aaB,acs,aaM,aan];omega,by simp only[lG,aaB,acs,aaM,aan];omega⟩,wO (by omega),i+1,_,au.Cx _ 38 90002 (by decide) (by decide),by omega,by omega,⟨Z,Z,Z,Y⟩,⟨rfl,by rw[J];rfl,by rw[J,abE];rfl,trivial⟩⟩
  have g2:d=true:=by simpa using g2
  rw[j_,aap (by simp only;rw[eD,g2])]at J;exact⟨wO (by omega),(i+1),_,au.refl _ _,by omega,by omega,⟨Z,Z,Z,Y⟩,⟨rfl,by rw[J];rfl,by rw[J];rfl,trivial⟩⟩
 have e:i=n:=by omega
 subst e;obtain⟨G0,Vu⟩:∃G0,G0=(gA T i i).2:=⟨_,rfl⟩;have hR:R=a.lands.foldl (s6 a.bores ps) (nG a.bores T G0 T.length):=by rw[hR,Vu];rfl
 rw[<-Vu]at f2 f3;have lf:=sf a.bores T f2 f3;refine aJ (fun j:Nat=>j<=T.length) (fun j=>[(0,.bx 100000 0),(4,.p (i64 j))]) (fun j=>[(100000,.box [.p (.sl (a.coppers.map rr)),.p (aj a.outline),.p (.sl (a.bores.map bc)),.p (.sl (a.lands.map lc)),.p (.sl (gB ps)),.p (.sl (eB ps)),.ow 90002,.p (.sl (T.map uY))]),(90002,.row 142 ((nG a.bores T G0 j).map wR))]) (fun j=>T.length-j) 0 _ (au.refl _ _) (aaj _) ⟨Z,Z,Y⟩ ⟨rfl,by rw[Vu];rfl,trivial⟩ fun j hj t h=>?_;obtain⟨lf1,ZU⟩:=lf j;have J:=uU a.bores T G0 j;generalize hGe:nG a.bores T G0 j=G at *;have lG:=ai G wR;apply iW<;>intro g3
 ·obtain⟨L,hL⟩:=ak (l:=T) (i:=j) (by omega);obtain⟨b,hb⟩:=ak (l:=a.bores) (i:=j) (by omega);have eT:=B8 hL;have lL:=ai L fun n=>[i64 n];have eb:bD a.bores j=b.plated:=by rw[bD,ad4,hb];rfl
  rw[w8,eT,eb]at J;refine⟨(bc b),(idx rfl hb),iW ?_ ?_⟩<;>intro g4
  ·refine⟨(uY L),(idx rfl hL),iW ?_ ?_⟩<;>intro g5
   ·rw[aap ⟨g4,by omega⟩]at J;refine⟨⟨fun r V=>by simp at V;subst V;rfl,by simp only[lG,aaB,acs,aaM,aan];omega,by simp only[lG,aaB,acs,aaM,aan];omega⟩,wO (by omega),j+1,_,(au.Cx _ 79 90002 (by decide) (by decide)).trans (au.P_ (by exact hC) _ 90002 (e:=142) (es:=G.map wR) (r:=[.im (.slice none 0 0),.sl [[i64 j]],.im (.slice none 0 0)]) (r':=wR ⟨[],[(j:Int)],[]⟩) (by exact rfl) (by exact rfl) (fun k x y N U=>?_)),?_⟩;rotate_left;exact⟨by omega,by omega,⟨Z,Z,Y⟩,⟨rfl,by rw[J,abE];rfl,trivial⟩⟩
    match k,N,U with
    | 0,N,U=>simp[wR]at N U;subst N;subst U;exact .inr ⟨rfl,rfl⟩
    | 1,N,U=>simp[wR]at N U;subst N;subst U;exact .inl rfl
    | 2,N,U=>simp[wR]at N U;subst N;subst U;exact .inl rfl
    | k+3,N,U=>simp at N
   rw[aaa (fun c=>g5 (by omega))]at J;exact⟨wO (by omega),(j+1),_,au.refl _ _,by omega,by omega,⟨Z,Z,Y⟩,⟨rfl,by rw[J];rfl,trivial⟩⟩
  rw[aaa (fun c=>by rw[g4]at c;exact absurd c.1 (by decide))]at J;exact⟨wO (by omega),(j+1),_,au.refl _ _,by omega,by omega,⟨Z,Z,Y⟩,⟨rfl,by rw[J];rfl,trivial⟩⟩
 have e:j=T.length:=by omega
 subst e;have Ja:∀g∈G,g.pins=[]:=fun g hg=>(ZU g hg).1;have hok:Qa 0 G:=⟨by omega,fun g hg=>by obtain⟨b1,b2,b3⟩:=ZU g hg;exact⟨b2,b3,by rw[b1];simp⟩⟩;refine aJ (fun x:Nat×List bh=>(a.lands.drop x.1).foldl (s6 a.bores ps) x.2=R/\Qa x.1 x.2/\x.1<=a.lands.length) (fun x=>[(0,.bx 100000 0),(5,.p (i64 x.1))]) (fun x=>[(100000,.box [.p (.sl (a.coppers.map rr)),.p (aj a.outline),.p (.sl (a.bores.map bc)),.p (.sl (a.lands.map lc)),.p (.sl (gB ps)),.p (.sl (eB ps)),.ow 90002,.p (.sl (T.map uY))]),(90002,.az 142 (x.2.map gh))]) (fun x=>a.lands.length-x.1) (0,G) _ (au.Wg (by exact hC) _ 90002 (e:=142) (es:=G.map wR) (by exact rfl)) ⟨by rw[hR,hGe];rfl,hok,aaj _⟩ ⟨Z,Z,Y⟩ ⟨rfl,adV (AB.az _) (NB Ja),trivial⟩ fun ⟨i',gs⟩ hx t h=>?_;obtain⟨O,v2,v3⟩:=hx;simp only at O v2 v3;apply iW<;>intro g6<;>try simp only[zB]at g6
 ·obtain⟨l,hl⟩:=ak (l:=a.lands) (i:=i') (by omega);rw[drop_at hl,aaq]at O;have v4:=Qb (bs:=a.bores) (ps:=ps) v2 l;have Gp:=DC a ok l ps hps gs T v2.jB fun g hg=>⟨(v2.len g hg).1,(v2.len g hg).2.1⟩;refine⟨(lc l),(idx rfl hl),?_⟩;by_cases c:0<=dq a.bores ps gs l
  ·have ZV:=VN c;have J_:s6 a.bores ps gs l=gs.set (dq a.bores ps gs l).toNat (iN (l.part,l.pin) (gs.getD (dq a.bores ps gs l).toNat ⟨[],[],[]⟩)):=by rw[s6,aap c]
   rw[J_]at O v4;have ek:((dq a.bores ps gs l).toNat:Int)=dq a.bores ps gs l:=aee c;generalize dq a.bores ps gs l=kk at *;obtain⟨k,rfl⟩:∃k:Nat,kk=k:=⟨kk.toNat,by omega⟩;rw[ad2]at O v4 ZV;obtain⟨I,PG⟩:=ak (l:=gs) (i:=k) ZV;have egg:gs.getD k ⟨[],[],[]⟩=I:=by rw[ad4,PG];rfl
   rw[egg]at O v4;have qg:=(v2.len I (aad PG)).2.2;have Vx:(gs.map gh).length=gs.length:=aej _;have Vy:=ai I.pins pc;have abN:=v2.jB;refine⟨[.ip (Lo a ps gs T),.ag (lc l)],_,.cons (.box 100000 0 _ (Lo a ps gs T) (by exact rfl) (.cons (.p _) (.cons (.p _) (.cons (.p _) (.cons (.p _) (.cons (.p _) (.cons (.p _) (.cons (.az 90002 142 (gs.map gh) (gs.map sT) (by exact adV (AB.az _) (by simp only[qO])) (vM _)) (.cons (.p _) .nil))))))))) (.cons (.one (.p _)) .nil),Gp,rfl,?_⟩;refine qy (au.I9 (by exact hC) _ 90002 k 90200 (e:=142) (by decide) (by decide) (by exact adV (AB.az _) (by simp only[qO])) PG (by exact rfl) (by decide)) ?_;have W:((gs.map gh).set k [.av (.p (ints I.pieces)),.av (.p (ints I.bores)),.av (.ow 90200)])[k]?=some [.av (.p (ints I.pieces)),.av (.p (ints I.bores)),.av (.ow 90200)]:=ab7 (by rw[Vx];omega);refine⟨⟨by omega,by simp only[aej,aaM];omega⟩,[.av (.p (ints I.pieces)),.av (.p (ints I.bores)),.av (.ow 90200)],(by first | exact W | (rw[dC];exact W;rfl) | (rw[dC,dC];exact W;rfl;rfl) | (rw[dC,dC,dC];exact W;rfl;rfl;rfl)),⟨fun r V=>by simp at V;subst V;rfl,by simp only[Vy,aaM,aan];omega,by simp only[Vy,aaM,aan];omega⟩,⟨by omega,by simp only[aej,aaM];omega⟩,[.av (.p (ints I.pieces)),.av (.p (ints I.bores)),.av (.ow 90200)],(by first | exact W | (rw[dC];exact W;rfl) | (rw[dC,dC];exact W;rfl;rfl) | (rw[dC,dC,dC];exact W;rfl;rfl;rfl)),wO (by omega),?_⟩;have SV:((gs.map gh).set k [.av (.p (ints I.pieces)),.av (.p (ints I.bores)),.av (.ow 124)]).set k (([.av (.p (ints I.pieces)),.av (.p (ints I.bores)),.av (.ow 124)]:List HX).set 2 (.row 205 ((I.pins++[(l.part,l.pin)]).map pc)))=(gs.set k (iN (l.part,l.pin) I)).map gh:=by
    rw[abM,ad8];congr 1;show _=[.av (.p (ints I.pieces)),.av (.p (ints I.bores)),I8 (I.pins++[(l.part,l.pin)])];rw[I_];rfl
   refine⟨(i'+1,gs.set k (iN (l.part,l.pin) I)),_,au.Bm (by exact hC) _ 90002 k 2 124 (e:=142) (es:=(gs.map gh).set k [.av (.p (ints I.pieces)),.av (.p (ints I.bores)),.av (.ow 124)]) (r:=[.av (.p (ints I.pieces)),.av (.p (ints I.bores)),.av (.ow 124)]) (e':=205) (xs:=(I.pins++[(l.part,l.pin)]).map pc) (by decide) (by exact adV (AB.az _) (by refine (adV (fun z=>List.set z ((k:Int).toNat) ([.av (.p (ints I.pieces)),.av (.p (ints I.bores)),.av (.ow 124)]:List HX)) (show List.map (fun r=>List.map (HX.cS (sc 124)) r) (List.map (fun r=>List.map (HX.cS (sc 123)) r) ((gs.map gh).set k [.av (.p (ints I.pieces)),.av (.p (ints I.bores)),.av (.ow 90200)]))=(gs.map gh).set k [.av (.p (ints I.pieces)),.av (.p (ints I.bores)),.av (.ow 90200)] by rw[dC,dC];all_goals rfl)).trans ?_;rw[ad2,abM])) (by exact adV (AB.row _) (by rw[abE];rfl)) (ab7 (by rw[Vx];omega)) (by exact rfl),?_⟩;exact⟨⟨O,v4,by simp only;omega⟩,by simp only;omega,⟨Z,Z,Y⟩,⟨rfl,adV (AB.az _) SV,trivial⟩⟩
  have J_:s6 a.bores ps gs l=gs:=by rw[s6,aaa c]
  rw[J_]at O v4;refine⟨[.ip (Lo a ps gs T),.ag (lc l)],_,.cons (.box 100000 0 _ (Lo a ps gs T) (by exact rfl) (.cons (.p _) (.cons (.p _) (.cons (.p _) (.cons (.p _) (.cons (.p _) (.cons (.p _) (.cons (.az 90002 142 (gs.map gh) (gs.map sT) (by exact adV (AB.az _) (by simp only[qO])) (vM _)) (.cons (.p _) .nil))))))))) (.cons (.one (.p _)) .nil),Gp,rfl,?_⟩;refine qy (au.refl _ _) ?_;apply iW<;>intro g7
  ·exfalso;omega
  exact⟨wO (by omega),(i'+1,gs),_,au.refl _ _,⟨O,v4,by simp only;omega⟩,by simp only;omega,⟨Z,Z,Y⟩,⟨rfl,adV (AB.az _) (by simp only[qO,Fo]),trivial⟩⟩
 rw[ab1 (by omega)]at O;have O:gs=R:=O;subst O;refine⟨_,au.ID (by exact hC) _ 90002 (gs.map sT) (e:=142) (by exact adV (AB.az _) (by simp only[qO,Fo])) (vM _),?_⟩;exact And.intro rfl (And.intro ⟨Z,Z,Z,Z,Z,Z,Z,Z,Z,Y⟩ trivial)
open Reg (cv bU bG cV nP cZ bB aC lU)
theorem VO{a:fS}(z:Ft a):P9 (aC a).pieces:=⟨z.jB,fun p hp=>(z.pc p hp).sok,fun p hp=>aaF (z.pc p hp).jB (by decide)⟩
theorem Qc{a:fS}(z:iD a):B5 a.bores:=⟨z.jB,jv z⟩
theorem uV(b:aS)(ps:List Piece)(k:Nat):cZ b ps (k+1)=if b.plated=true/\nP b (ps.getD k ⟨0,[]⟩)=true then cZ b ps k++[(k:Int)] else cZ b ps k:=by
 unfold cZ;by_cases c:b.plated=true
 ·rw[aap c,aap c,ac2,acA,abE];by_cases d:nP b (ps.getD k ⟨0,[]⟩)=true
  ·rw[aap ⟨c,d⟩,aby,aap d];rfl
  rw[aaa (fun e=>d e.2),aby,aaa d];simp
 rw[aaa c,aaa c,aaa (fun e=>c e.1)]
theorem xf(b:aS)(ps:List Piece):∀k,(cZ b ps k).length<=k
 | 0=>by unfold cZ;split<;>simp
 | k+1=>by
  have:=xf b ps k;rw[uV];split
  ·rw[acv,abS];omega
  omega
theorem Od{s:List an}(h:SO s)(z:(told s).length<=2000):Aa (told s):=⟨z,Reg.bP h.sok,fun q D=>by
 have:=Reg.fR h.sok h.ink q D;unfold RK at this ⊢;omega⟩
theorem DE(a:fS)(ho:dc a=0):af C 42 [.pv (.ag (dX a))] (.p (.ip (Lo a (aC a).pieces (aC a).placed.groups (aC a).bB))) []:=by
 have N:=jW ho;obtain⟨_,hd,_⟩:=Fs ho;rw[Reg.eG,aaZ,aaH]at hd;have J:=N.art;have ok:=Qc J;have L:=VO N;have YB:∀p∈(aC a).pieces,cv 1000000 p.set:=fun p hp=>(N.pc p hp).ink;have Td:=J.jB;have KH:=J.cop;have jB:=N.jB;have lb:=ai a.bores bc;have lk:=ai a.coppers fun r=>[aj r];have YC:=H5 a ok J.lan (aC a).pieces L (aC a).bB (Reg.aeO _ _) (fun x W=>by
   obtain⟨b,_,rfl⟩:=adS.1 W;exact aaF (Reg.sU b (aC a).pieces 0) (by omega)) (fun j p hp=>by
   rw[ad4]at hp;cases e:(aC a).bB[j]? with
   | none=>rw[e]at hp;cases hp
   | some x=>rw[e]at hp;exact Reg.s7 a.bores (aC a).pieces x (aad e) p hp) (aC a).placed.groups (Reg.DB (jv J) fun r D q R=>(ph (J.reg r D)).full q R).symm
 have hT':(aC a).bB=a.bores.map fun b=>cZ b (aC a).pieces (aC a).pieces.length:=aaG fun b hb=>(Reg.HT (Reg.bX (jv J b hb)) L.sok).symm;have ZW:bG a.bores 0 a.coppers=(aC a).pieces:=rfl;clear N;generalize (aC a).bB=T at *;generalize (aC a).pieces=ps at *;generalize (aC a).placed.groups=GG at *;refine uX ⟨[21,22],[],[],[10],[],[]⟩ hC Tryz.func42 rfl (by kernel_rfl) fun _=>?_;refine aJ (fun x:Nat×List Piece=>x.2++bG a.bores x.1 (a.coppers.drop x.1)=ps/\x.1<=a.coppers.length) (fun x=>[(1,.bx 1 0),(3,.bx 12 0),(4,.p (i64 x.1))]) (fun x=>[(1,.box ((dX a).map .p)),(12,.box [.p (.sl (a.coppers.map rr)),.p (aj a.outline),.p (.sl (a.bores.map bc)),.p (.sl (a.lands.map lc)),.ow 90000,.ow 90001,.ow 90002,.ow 90003]),(90000,.row 3 (gB x.2)),(90001,.row 22 (eB x.2)),(90002,.row 142 []),(90003,.row 71 [])]) (fun x=>a.coppers.length-x.1) (0,[]) _ ((au.pX (by exact hC) _ 12 4 [.p (.sl (a.coppers.map rr)),.p (aj a.outline),.p (.sl (a.bores.map bc)),.p (.sl (a.lands.map lc)),.p (.im (.slice none 0 0)),.p (.im (.slice none 0 0)),.p (.im (.slice none 0 0)),.p (.im (.slice none 0 0))] (by exact rfl) (by exact rfl)).trans ((au.aeK (by exact hC) _ 12 4 90000 3 _ [.p (.sl (a.coppers.map rr)),.p (aj a.outline),.p (.sl (a.bores.map bc)),.p (.sl (a.lands.map lc)),.nl,.p (.im (.slice none 0 0)),.p (.im (.slice none 0 0)),.p (.im (.slice none 0 0))] (by decide) (by decide) (by exact rfl) (by exact rfl) (by exact rfl) (by decide)).trans ((au.pX (by exact hC) _ 12 5 [.p (.sl (a.coppers.map rr)),.p (aj a.outline),.p (.sl (a.bores.map bc)),.p (.sl (a.lands.map lc)),.ow 90000,.p (.im (.slice none 0 0)),.p (.im (.slice none 0 0)),.p (.im (.slice none 0 0))] (by exact rfl) (by exact rfl)).trans ((au.aeK (by exact hC) _ 12 5 90001 22 _ [.p (.sl (a.coppers.map rr)),.p (aj a.outline),.p (.sl (a.bores.map bc)),.p (.sl (a.lands.map lc)),.ow 90000,.nl,.p (.im (.slice none 0 0)),.p (.im (.slice none 0 0))] (by decide) (by decide) (by exact rfl) (by exact rfl) (by exact rfl) (by decide)).trans ((au.pX (by exact hC) _ 12 6 [.p (.sl (a.coppers.map rr)),.p (aj a.outline),.p (.sl (a.bores.map bc)),.p (.sl (a.lands.map lc)),.ow 90000,.ow 90001,.p (.im (.slice none 0 0)),.p (.im (.slice none 0 0))] (by exact rfl) (by exact rfl)).trans ((au.aeK (by exact hC) _ 12 6 90002 142 _ [.p (.sl (a.coppers.map rr)),.p (aj a.outline),.p (.sl (a.bores.map bc)),.p (.sl (a.lands.map lc)),.ow 90000,.ow 90001,.nl,.p (.im (.slice none 0 0))] (by decide) (by decide) (by exact rfl) (by exact rfl) (by exact rfl) (by decide)).trans ((au.pX (by exact hC) _ 12 7 [.p (.sl (a.coppers.map rr)),.p (aj a.outline),.p (.sl (a.bores.map bc)),.p (.sl (a.lands.map lc)),.ow 90000,.ow 90001,.ow 90002,.p (.im (.slice none 0 0))] (by exact rfl) (by exact rfl)).trans (au.aeK (by exact hC) _ 12 7 90003 71 _ [.p (.sl (a.coppers.map rr)),.p (aj a.outline),.p (.sl (a.bores.map bc)),.p (.sl (a.lands.map lc)),.ow 90000,.ow 90001,.ow 90002,.nl] (by decide) (by decide) (by exact rfl) (by exact rfl) (by exact rfl) (by decide))))))))) ⟨ZW,aaj _⟩ ⟨Z,Z,Z,Y⟩ ⟨Z,Z,Z,Z,Z,Z,Y⟩ fun ⟨i,I⟩ W t h=>?_;obtain⟨x1,x2⟩:=W;simp only at x1 x2;apply iW<;>intro g1<;>try simp only[zB]at g1
 ·obtain⟨r,D⟩:=ak (l:=a.coppers) (i:=i) (by omega);have HA:=J.reg r (aad D);have ZX:=Reg.xR hd.1 i r D;rw[show (0:Int)+(i:Int)=i by omega]at ZX;have dr:=jV (jv J) Td i HA;rw[drop_at D,bG]at x1;have O1:=qX a ok i r D HA;have TD:=uQ (told (bU a.bores i r)) (Od dr ZX);have ZY:NX (lU (told (bU a.bores i r)))=.sl (eB ((cV (bU a.bores i r)).map fun s=>(⟨(i:Int),s⟩:Piece))):=by
   rw[Reg.uG dr.sok,NX,eB,ad6,ad6];rfl
  rw[ZY]at TD;obtain⟨z,SP⟩:∃z:List Piece,z=(cV (bU a.bores i r)).map fun s=>(⟨(i:Int),s⟩:Piece):=⟨_,rfl⟩;have YD:∀p∈z,p.layer=i:=fun p hp=>by rw[SP]at hp;obtain⟨s,_,rfl⟩:=adS.1 hp;rfl
  have x1:I++(z++bG a.bores ((i:Int)+1) (a.coppers.drop (i+1)))=ps:=by rw[SP];exact x1
  rw[<-SP]at TD;clear ZY;have lPP:(eB z).length=z.length:=aej ..;have tot:I.length+z.length<=ps.length:=by rw[<-x1,acv,acv];omega
  refine⟨_,_,O1,_,_,TD,?_⟩;refine aJ (fun k:Nat=>k<=z.length) (fun k=>[(1,.bx 1 0),(3,.bx 12 0),(4,.p (i64 i)),(5,.p (.sl (eB z))),(6,.p (i64 k))]) (fun k=>[(1,.box ((dX a).map .p)),(12,.box [.p (.sl (a.coppers.map rr)),.p (aj a.outline),.p (.sl (a.bores.map bc)),.p (.sl (a.lands.map lc)),.ow 90000,.ow 90001,.ow 90002,.ow 90003]),(90000,.row 3 (gB (I++z.take k))),(90001,.row 22 (eB (I++z.take k))),(90002,.row 142 []),(90003,.row 71 [])]) (fun k=>z.length-k) 0 _ (au.refl _ _) (aaj _) ⟨Z,Z,Z,Z,Z,Y⟩ ⟨rfl,rfl,by rw[List.take_zero,acw];rfl,by rw[List.take_zero,acw];rfl,Z,Z,Y⟩ fun k hk t h=>?_;have ZZ:(I++z.take k).length=I.length+k:=by rw[acv,aat];omega
  have Z0:(gB (I++z.take k)).length=I.length+k:=by rw[gB,aej,ZZ]
  have YE:(eB (I++z.take k)).length=I.length+k:=by rw[eB,aej,ZZ]
  apply iW<;>intro g2
  ·obtain⟨p,hp⟩:=ak (l:=z) (i:=k) (by omega);have hl:=YD p (aad hp);refine⟨⟨fun r D=>by simp at D;subst D;rfl,by simp only[Z0,aaB,acs,aaM,aan];omega,by simp only[Z0,aaB,acs,aaM,aan];omega⟩,[aj (told p.set)],(idx rfl hp),⟨fun r D=>by simp at D;subst D;rfl,by simp only[YE,aaB,acs,aaM,aan];omega,by simp only[YE,aaB,acs,aaM,aan];omega⟩,wO (by omega),k+1,_,(au.Cx _ 37 90000 (by decide) (by decide)).trans (au.Cx _ 50 90001 (by decide) (by decide)),?_⟩;have e1:I++z.take (k+1)=(I++z.take k)++[p]:=by rw[aZ hp,abx]
   have ep1:gB (I++z.take (k+1))=gB (I++z.take k)++[[i64 i]]:=by rw[e1,gB,gB,abE,afW,hl]
   have ep2:eB (I++z.take (k+1))=eB (I++z.take k)++[[aj (told p.set)]]:=by rw[e1,eB,eB,abE,afW]
   exact⟨by omega,by omega,⟨Z,Z,Z,Z,Z,Y⟩,⟨rfl,rfl,adV (AB.row _) ep1.symm,adV (AB.row _) ep2.symm,Z,Z,Y⟩⟩
  have e:z.take k=z:=adW (by omega);rw[e];exact⟨wO (by omega),(i+1,I++z),_,au.refl _ _,⟨by rw[abx];exact x1,by simp only;omega⟩,by simp only;omega,⟨Z,Z,Z,Y⟩,⟨Z,Z,Z,Z,Z,Z,Y⟩⟩
 rw[ab1 (by omega),bG,acw]at x1;have x1:ps=I:=x1.symm;subst x1;clear ZW;have YE:(eB ps).length=ps.length:=aej ..;refine aJ (fun i:Nat=>i<=a.bores.length) (fun i=>[(1,.bx 1 0),(3,.bx 12 0),(7,.p (i64 i))]) (fun i=>[(1,.box ((dX a).map .p)),(12,.box [.p (.sl (a.coppers.map rr)),.p (aj a.outline),.p (.sl (a.bores.map bc)),.p (.sl (a.lands.map lc)),.p (.sl (gB ps)),.p (.sl (eB ps)),.ow 90002,.ow 90003]),(90002,.row 142 []),(90003,.row 71 (((a.bores.take i).map fun b=>cZ b ps ps.length).map uY))]) (fun i=>a.bores.length-i) 0 _ ((au.fB (by exact hC) _ 12 4 90000 3 (gB ps) [.p (.sl (a.coppers.map rr)),.p (aj a.outline),.p (.sl (a.bores.map bc)),.p (.sl (a.lands.map lc)),.ow 90000,.ow 90001,.ow 90002,.ow 90003] (by decide) (by exact rfl) (by exact rfl) (by exact rfl)).trans (au.fB (by exact hC) _ 12 5 90001 22 (eB ps) [.p (.sl (a.coppers.map rr)),.p (aj a.outline),.p (.sl (a.bores.map bc)),.p (.sl (a.lands.map lc)),.p (.sl (gB ps)),.ow 90001,.ow 90002,.ow 90003] (by decide) (by exact rfl) (by exact rfl) (by exact rfl))) (aaj _) ⟨Z,Z,Z,Y⟩ ⟨Z,Z,Z,Z,Y⟩ fun i hi t h=>?_;have U:((((a.bores.take i).map fun b=>cZ b ps ps.length)).map uY).length=i:=by rw[aej,aej,aat];omega
 apply iW<;>intro g2
 ·obtain⟨b,hb⟩:=ak (l:=a.bores) (i:=i) (by omega);have uW:=ok.ok b (aad hb);have K5:jZ (aa b):=by
   have h1:=Reg.er uW;obtain⟨h2,h3⟩:=Reg.bX uW;unfold RK at h1;unfold jZ;omega
  refine aJ (fun k:Nat=>k<=ps.length/\(b.plated=true\/k=0)) (fun k=>[(1,.bx 1 0),(3,.bx 12 0),(7,.p (i64 i)),(8,.ow 8),(9,.p (i64 k))]) (fun k=>[(1,.box ((dX a).map .p)),(12,.box [.p (.sl (a.coppers.map rr)),.p (aj a.outline),.p (.sl (a.bores.map bc)),.p (.sl (a.lands.map lc)),.p (.sl (gB ps)),.p (.sl (eB ps)),.ow 90002,.ow 90003]),(90002,.row 142 []),(90003,.row 71 (((a.bores.take i).map fun b=>cZ b ps ps.length).map uY)),(8,.row 3 (aA (cZ b ps k)))]) (fun k=>ps.length-k) 0 _ (au.dk hC _ 8 3 _ (by decide) rfl rfl (by decide)) ⟨aaj _,.inr rfl⟩ ⟨Z,Z,Z,Z,Z,Y⟩ ⟨rfl,rfl,rfl,rfl,by (have e0:cZ b ps 0=[]:=by unfold cZ;split<;>rfl);rw[e0];rfl,trivial⟩ fun k hk t h=>?_;obtain⟨k1,k2⟩:=hk;have ltt:=xf b ps k;have Z1:=bQ (cZ b ps k);have fin:(¬k<ps.length\/¬b.plated=true)->cZ b ps k=cZ b ps ps.length:=fun c=>by
   rcases c with c | c
   ·rw[show k=ps.length by omega]
   unfold cZ;rw[aaa c,aaa c]
  have tail:∀g3:(¬k<ps.length\/¬b.plated=true),((a.bores.take (i+1)).map fun b=>cZ b ps ps.length).map uY=(((a.bores.take i).map fun b=>cZ b ps ps.length).map uY)++[uY (cZ b ps k)]:=fun g3=>by
   rw[aZ hb,abE,abE,fin g3];rfl
  apply iW<;>intro g3
  ·obtain⟨p,hp⟩:=ak (l:=ps) (i:=k) (by omega);have ep:ps.getD k ⟨0,[]⟩=p:=by rw[ad4,hp];rfl
   have V:=uV b ps k;rw[ep]at V;have Z2:=L.sok p (aad hp);have psl:=L.len p (aad hp);have YF:∀q∈told p.set,jZ q:=fun q R=>by
    have h1:=Reg.fR Z2 (YB p (aad hp)) q R;obtain⟨h2,h3⟩:=Reg.bP Z2 q R;unfold RK at h1;unfold jZ;omega
   refine⟨(bc b),(idx rfl hb),iW ?_ ?_⟩<;>intro O
   ·refine⟨(bc b),(idx rfl hb),[i64 p.layer],(idx rfl hp),_,_,(pJ b p.layer),?_⟩;have no:nP b p=false->cZ b ps (k+1)=cZ b ps k:=fun c=>by rw[V,aaa (fun e=>by rw[c]at e;exact absurd e.2 (by decide))]
    apply iW<;>intro g5
    ·refine⟨[aj (told p.set)],(idx rfl hp),(bc b),(idx rfl hb),_,_,(di b uW),_,_,(La (told p.set) (aa b) YF K5 psl),iW ?_ ?_⟩<;>intro g6
     ·rw[aap ⟨O,by simp only[nP];rw[g5,g6];rfl⟩]at V;exact⟨⟨fun r D=>by simp at D;subst D;rfl,by simp only[Z1,aaB,acs,aaM,aan];omega,by simp only[Z1,aaB,acs,aaM,aan];omega⟩,wO (by omega),(k+1),_,au.refl _ _,⟨by omega,.inl O⟩,by omega,⟨Z,Z,Z,Z,Z,Y⟩,⟨rfl,rfl,rfl,rfl,by rw[V];exact adV (AB.row _) (gP _ _).symm,trivial⟩⟩
     have e:=no (by simp only[nP];rw[g5,g6];rfl);exact⟨wO (by omega),(k+1),_,au.refl _ _,⟨by omega,.inl O⟩,by omega,⟨Z,Z,Z,Z,Z,Y⟩,⟨rfl,rfl,rfl,rfl,by rw[e];rfl,trivial⟩⟩
    have e:=no (by simp only[nP];rw[g5];rfl);exact⟨wO (by omega),(k+1),_,au.refl _ _,⟨by omega,.inl O⟩,by omega,⟨Z,Z,Z,Z,Z,Y⟩,⟨rfl,rfl,rfl,rfl,by rw[e];rfl,trivial⟩⟩
   have e:=tail (.inr (by rw[O];decide));exact⟨⟨fun r D=>by simp at D;subst D;rfl,by simp only[U,aaB,acs,aaM,aan];omega,by simp only[U,aaB,acs,aaM,aan];omega⟩,wO (by omega),i+1,_,au.Cx _ 117 90003 (by decide) (by decide),by omega,by omega,⟨Z,Z,Z,Y⟩,⟨rfl,rfl,rfl,by rw[e];rfl,trivial⟩⟩
  have e:=tail (.inl (by omega));exact⟨⟨fun r D=>by simp at D;subst D;rfl,by simp only[U,aaB,acs,aaM,aan];omega,by simp only[U,aaB,acs,aaM,aan];omega⟩,wO (by omega),i+1,_,au.Cx _ 117 90003 (by decide) (by decide),by omega,by omega,⟨Z,Z,Z,Y⟩,⟨rfl,rfl,rfl,by rw[e];rfl,trivial⟩⟩
 have e:a.bores.take i=a.bores:=adW (by omega);rw[e,<-hT'];refine qy ((au.fB (by exact hC) _ 12 7 90003 71 (T.map uY) [.p (.sl (a.coppers.map rr)),.p (aj a.outline),.p (.sl (a.bores.map bc)),.p (.sl (a.lands.map lc)),.p (.sl (gB ps)),.p (.sl (eB ps)),.ow 90002,.ow 90003] (by decide) (by exact rfl) (by exact rfl) (by exact rfl)).trans (au.pack (by exact hC) _ 12 (cs:=[.p (.sl (a.coppers.map rr)),.p (aj a.outline),.p (.sl (a.bores.map bc)),.p (.sl (a.lands.map lc)),.p (.sl (gB ps)),.p (.sl (eB ps)),.row 142 [],.p (.sl (T.map uY))]) (by exact rfl) (by exact rfl) (by exact⟨Z,Z,Z,Z,Z,Z,Z,Z,Y⟩))) ?_;refine⟨_,_,YC,?_⟩;refine qy ((au.open (by exact hC) _ 12 [90002] (cs:=[.p (.sl (a.coppers.map rr)),.p (aj a.outline),.p (.sl (a.bores.map bc)),.p (.sl (a.lands.map lc)),.p (.sl (gB ps)),.p (.sl (eB ps)),.row 142 (GG.map sT),.p (.sl (T.map uY))]) (by exact rfl) rfl rfl rfl).trans (au.fB (by exact hC) _ 12 6 90002 142 (GG.map sT) [.p (.sl (a.coppers.map rr)),.p (aj a.outline),.p (.sl (a.bores.map bc)),.p (.sl (a.lands.map lc)),.p (.sl (gB ps)),.p (.sl (eB ps)),.ow 90002,.p (.sl (T.map uY))] (by decide) (by exact rfl) (by exact rfl) (by exact rfl))) ?_;refine⟨?_,trivial⟩;rfl
def lU(a:fS):List Piece×Int:=if dc a=0 then ((aC a).pieces,0) else ([],dc a)
theorem xg(s:List an)(z:Reg.bE s)(D:s≠[]):af C 129 [.pv (aw s)] (.p (.ag [i64 (jq s).1,i64 (jq s).2])) []:=by
 match s,z,D with
 | b::s,z,_=>
  have hb:=z.mem b adU
  match hx:b.xs with
  | []=>exact absurd hx hb.ne
  | p::u=>
   have:=ET b s p u hx;rw[jq,hx];exact this
open Reg (BR aB fT afd E1 bN uo nM a_ coreS P4)
theorem agr(r:cP)(L:zd r)(a:fS)(J:Ft a)(nets:List ByteArray)(V:nets.length=(aC a).placed.groups.length):af C 72 [.pv (.ag (rl r)),.pv (.ip (kW a)),.pv (strs nets)] (.p (.sl ((aew r (aC a) nets 0 (aC a).pieces).map nQ))) []:=by
 have W:=ai (aC a).pieces jb;have jB:=J.jB;obtain⟨G,N⟩:∃G,G=aew r (aC a) nets 0 (aC a).pieces:=⟨_,rfl⟩;rw[<-N];refine uX ⟨[5],[],[],[],[],[]⟩ hC Tryz.func72 rfl (by kernel_rfl) fun _=>?_;refine aJ (fun x:Nat×List Break=>x.2++aew r (aC a) nets x.1 ((aC a).pieces.drop x.1)=G/\x.2.length<=x.1/\x.1<=(aC a).pieces.length) (fun x=>[(1,.p (.ip (kW a))),(2,.p (strs nets)),(3,.p (.ip (rl r))),(7,.ow 7),(16,.p (.sl ((aC a).pieces.map jb))),(17,.p (i64 (aC a).pieces.length)),(18,.p (i64 x.1))]) (fun x=>[(7,.row 47 (x.2.map nQ))]) (fun x=>(aC a).pieces.length-x.1) (0,[]) _ ((au.dk (by exact hC) _ 7 47 _ (by decide) (by exact rfl) (by exact rfl) (by decide)).trans (au.gD (by exact hC) _ 3 (y:=.ip (rl r)) (fz:=[(3,.jd (rl r))]) (by exact⟨rfl,rfl⟩))) ⟨by rw[N];rfl,by simp,aaj _⟩ ⟨rfl,rfl,rfl,rfl,rfl,adV (fun m:Nat=>AV.p (i64 m)) W,Z,Y⟩ ⟨Z,Y⟩ fun ⟨i,o⟩ hx t h=>?_;obtain⟨x1,x2,x3⟩:=hx;simp only at x1 x2 x3;apply iW<;>intro g1<;>try simp only[zB]at g1
 ·obtain⟨p,hp⟩:=ak (l:=(aC a).pieces) (i:=i) (by omega);have z:=J.pc p (aad hp);obtain⟨gi,I,i1,i2,i3,i4⟩:=afM J V (i:=i) (by omega);rw[drop_at hp,aew,afq,i2,i4]at x1;obtain⟨w0,O⟩:=agx L I;have hw:=agu r L I;generalize E3 r I=need at *;have D:=afY p.set z.sok z.ink need w0 O;have R:=(Reg.aeS z.sok need).1;have Oq:=agm p z.sok z.ink need w0 O;obtain⟨T,hT⟩:∃T,T=E1 p.set need:=⟨_,rfl⟩;have lT:=ai T hb;generalize dL (fun n=>decide (E1 p.set n=[])) need=gr at *;rw[<-hT]at x1 D R;refine⟨(jb p),(idx rfl hp),?_⟩;refine xp 9 (y:=.ip (jb p)) (fz:=[(9,.jd (jb p))]) (by exact hC) (by exact⟨rfl,rfl⟩) ?_;refine⟨[i64 gi],(idx rfl i1),[str I],(idx rfl i3),_,_,hw,_,_,D,iW ?_ ?_⟩<;>intro g2
  ·have e:T=[]:=adN.1 (by omega);rw[aap e,acZ]at x1;exact⟨wO (by omega),(i+1,o),_,au.refl _ _,⟨x1,by simp only;omega,by simp only;omega⟩,by simp only;omega,⟨Z,Z,Z,Z,Z,Z,Z,Y⟩,⟨Z,Y⟩⟩
  have e:T≠[]:=fun e=>g2 (by rw[e];rfl);rw[aaa e]at x1;exact⟨_,_,Oq,_,_,(xg T R e),⟨fun r U=>by simp at U;subst U;rfl,by simp only[aej,aaM,aan,acv,aaB,acs];omega,by simp only[aej,aaM,aan,acv,aaB,acs];omega⟩,wO (by omega),(i+1,o++[⟨2,i,0,gr,need,jq T⟩]),_,au.refl _ _,⟨by rw[<-x1];simp only[abx,ac3,aaI,acZ],by simp only[acv,abS];omega,by simp only;omega⟩,by simp only;omega,⟨Z,Z,Z,Z,Z,Z,Z,Y⟩,⟨by rw[abE];rfl,trivial⟩⟩
 rw[ab1 (by omega),aew,acw]at x1;have x1:o=G:=x1;refine⟨?_,trivial⟩;rw[<-x1]
theorem F0(r:cP)(hg:zd r)(a:fS)(D:Ft a):af C 52 [.pv (.ag (rl r)),.pv (.ip (kW a))] (.p (.sl ((gQ r.edge (aB a.outline) 0 (aC a).pieces).map nQ))) []:=by
 have lp:=ai (aC a).pieces jb;have jB:=D.jB;have HY:=hg.nums;simp only[gM,cL,aaZ,aaH]at HY;obtain⟨G,W⟩:∃G,G=gQ r.edge (aB a.outline) 0 (aC a).pieces:=⟨_,rfl⟩;rw[<-W];have Yw:=zG (ph D.art.out);obtain⟨J,L⟩:=xS D.art.out;generalize aB a.outline=O at *;have Z3:=zt O J L r.edge (by omega) (by omega);have N:=Reg.pe J (l:=r.edge) (r:=r.edge) (d:=r.edge) (u:=r.edge) (by omega) (by omega) (by omega) (by omega);have Z4:=Dd N.1 J L fun x y R=>(N.2.1 x y).1 R x y (by omega) (by omega) (by omega) (by omega);have U:=N.1;obtain⟨I,hI⟩:∃I,I=coreS O r.edge r.edge r.edge r.edge:=⟨_,rfl⟩;rw[<-hI]at Z3 U Z4;refine uX ⟨[3,7],[],[],[10],[],[]⟩ hC Tryz.func52 rfl (by kernel_rfl) fun _=>?_;refine⟨_,_,Yw,?_⟩;refine xp 6 (y:=.ip [aw O]) (fz:=[(6,.jd [aw O])]) (by exact hC) (by exact⟨rfl,rfl⟩) ?_;refine⟨_,_,Z3,?_⟩;refine aJ (fun x:Nat×List Break=>x.2++gQ r.edge O x.1 ((aC a).pieces.drop x.1)=G/\x.2.length<=x.1/\x.1<=(aC a).pieces.length) (fun x=>[(1,.p (.ip (kW a))),(2,.p (.ip (rl r))),(5,.ow 5),(6,.p (.ip [aw O])),(7,.p (aw I)),(25,.p (.sl ((aC a).pieces.map jb))),(26,.p (i64 (aC a).pieces.length)),(27,.p (i64 x.1))]) (fun x=>[(5,.row 47 (x.2.map nQ))]) (fun x=>(aC a).pieces.length-x.1) (0,[]) _ ((au.dk (by exact hC) _ 5 47 _ (by decide) (by exact rfl) (by exact rfl) (by decide)).trans (au.gD (by exact hC) _ 2 (y:=.ip (rl r)) (fz:=[(2,.jd (rl r))]) (by exact⟨rfl,rfl⟩))) ⟨by rw[W];rfl,by simp,aaj _⟩ ⟨rfl,rfl,rfl,rfl,rfl,rfl,adV (fun m:Nat=>AV.p (i64 m)) lp,Z,Y⟩ ⟨Z,Y⟩ fun ⟨i,o⟩ R t h=>?_;obtain⟨x1,x2,x3⟩:=R;simp only at x1 x2 x3;apply iW<;>intro g1<;>try simp only[zB]at g1
 ·obtain⟨p,hp⟩:=ak (l:=(aC a).pieces) (i:=i) (by omega);have z:=D.pc p (aad hp);rw[drop_at hp,gQ,Dm,<-hI]at x1;have V:=iJ p.set I z.sok U (z.ink.up (by omega)) (Z4.up (by omega));have W9:=(Reg.b6 z.sok U).1;have Oq:=Fu p O z.sok z.ink J L r.edge (by omega) (by omega);generalize dL (fun n=>decide (bN p.set (coreS O n n n n)=[])) r.edge=gr at *;generalize bN p.set I=T at *;have lT:=ai T hb;refine⟨(jb p),(idx rfl hp),?_⟩;refine xp 9 (y:=.ip (jb p)) (fz:=[(9,.jd (jb p))]) (by exact hC) (by exact⟨rfl,rfl⟩) ?_;refine⟨_,_,V,iW ?_ ?_⟩<;>intro g2
  ·have e:T=[]:=adN.1 (by omega);rw[aap e,acZ]at x1;exact⟨wO (by omega),(i+1,o),_,au.refl _ _,⟨x1,by simp only;omega,by simp only;omega⟩,by simp only;omega,⟨Z,Z,Z,Z,Z,Z,Z,Z,Y⟩,⟨Z,Y⟩⟩
  have e:T≠[]:=fun e=>g2 (by rw[e];rfl);rw[aaa e]at x1;exact⟨_,_,Oq,_,_,(xg T W9 e),⟨fun r hr=>by simp at hr;subst hr;rfl,by simp only[aej,aaM,aan,acv,aaB,acs];omega,by simp only[aej,aaM,aan,acv,aaB,acs];omega⟩,wO (by omega),(i+1,o++[⟨4,i,0,gr,r.edge,jq T⟩]),_,au.refl _ _,⟨by rw[<-x1];simp only[abx,ac3,aaI,acZ],by simp only[acv,abS];omega,by simp only;omega⟩,by simp only;omega,⟨Z,Z,Z,Z,Z,Z,Z,Z,Y⟩,⟨by rw[abE];rfl,trivial⟩⟩
 rw[ab1 (by omega),gQ,acw]at x1;have x1:o=G:=x1;refine⟨?_,trivial⟩;rw[<-x1]
theorem s8(l:List Break):af C 47 [.pv (.sl (l.map nQ))] (.tu [.sl ((mI l).1.map nQ),i64 (mI l).2]) []:=by
 have z:=ai l nQ;refine fW hC Tryz.func47 rfl (by kernel_rfl) fun _=>?_;apply iW<;>intro g
 ·rw[z]at g;rw[mI,aap (by omega)];refine⟨?_,trivial⟩;rfl
 rw[z]at g;rw[mI,aaa (by omega)];refine⟨?_,trivial⟩;rfl
theorem TF{b:aS}(h:bO b=true):P4 1000000000 (aa b):=by
 obtain⟨a1,a2,a3,a4⟩:=Reg.Q8 (Reg.bX h) (Reg.er h);exact⟨⟨by omega,by omega⟩,⟨by omega,by omega⟩,⟨by omega,by omega⟩,⟨by omega,by omega⟩⟩
theorem Ad(r:cP)(hg:zd r)(a:fS)(R:Ft a):af C 57 [.pv (.ag (rl r)),.pv (.ip (kW a))] (.p (.sl ((fY r.holeGap 0 a.bores).map nQ))) []:=by
 have I:=ai a.bores bc;have jB:=R.art.jB;have U:=jv R.art;obtain⟨G,V⟩:∃G,G=fY r.holeGap 0 a.bores:=⟨_,rfl⟩;rw[<-V];refine uX ⟨[5,9],[],[],[],[],[]⟩ hC Tryz.func57 rfl (by kernel_rfl) fun _=>?_;refine aJ (fun x:Nat×List Break=>x.2++fY r.holeGap x.1 (a.bores.drop x.1)=G/\x.2.length<=500*x.1/\x.1<=a.bores.length) (fun x=>[(1,.p (.ip (kW a))),(2,.p (.ip (rl r))),(5,.ow 5),(16,.p (.sl (a.bores.map bc))),(17,.p (i64 a.bores.length)),(18,.p (i64 x.1))]) (fun x=>[(5,.row 47 (x.2.map nQ))]) (fun x=>a.bores.length-x.1) (0,[]) _ ((au.dk (by exact hC) _ 5 47 _ (by decide) (by exact rfl) (by exact rfl) (by decide)).trans (au.gD (by exact hC) _ 2 (y:=.ip (rl r)) (fz:=[(2,.jd (rl r))]) (by exact⟨rfl,rfl⟩))) ⟨by rw[V];rfl,by simp,aaj _⟩ ⟨rfl,rfl,rfl,rfl,adV (fun m:Nat=>AV.p (i64 m)) I,Z,Y⟩ ⟨Z,Y⟩ fun ⟨i,o⟩ hx t h=>?_;obtain⟨x1,x2,x3⟩:=hx;simp only at x1 x2 x3;apply iW<;>intro g1<;>try simp only[zB]at g1
 ·obtain⟨x,J⟩:=ak (l:=a.bores) (i:=i) (by omega);have bx:=U x (aad J);rw[drop_at J,fY]at x1;refine⟨(bc x),(idx rfl J),?_⟩;refine xp 7 (y:=.ip (bc x)) (fz:=[(7,.jd (bc x))]) (by exact hC) (by exact⟨rfl,rfl⟩) ?_;refine⟨wO (by omega),?_⟩;refine aJ (fun y:Nat×List Break=>y.2++(nC r.holeGap i x y.1 (a.bores.drop y.1)++fY r.holeGap (i+1) (a.bores.drop (i+1)))=G/\y.2.length<=500*i+y.1/\i+1<=y.1/\y.1<=a.bores.length) (fun y=>[(1,.p (.ip (kW a))),(2,.p (.ip (rl r))),(5,.ow 5),(6,.p (i64 i)),(7,.p (.ip (bc x))),(8,.p (i64 y.1)),(16,.p (.sl (a.bores.map bc))),(17,.p (i64 a.bores.length)),(18,.p (i64 i))]) (fun y=>[(5,.row 47 (y.2.map nQ))]) (fun y=>a.bores.length-y.1) (i+1,o) _ (au.refl _ _) ⟨x1,by simp only;omega,by simp only;omega,by simp only;omega⟩ ⟨Z,Z,Z,Z,Z,Z,Z,Z,Z,Y⟩ ⟨Z,Y⟩ fun ⟨k,o'⟩ hy t h=>?_;obtain⟨D,VP,VQ,VR⟩:=hy;simp only at D VP VQ VR;apply iW<;>intro L<;>try simp only[zB]at L
  ·rw[I]at L;obtain⟨z,N⟩:=ak (l:=a.bores) (i:=k) (by omega);have O:=U z (aad N);rw[drop_at N,nC,Dn]at D;have YI:=BM (aa x) (aa z) (TF bx) (TF O);have Iq:=Reg.Nw (TF bx) (TF O);refine⟨(bc z),(idx rfl N),?_⟩;refine xp 9 (y:=.ip (bc z)) (fz:=[(9,.jd (bc z))]) (by exact hC) (by exact⟨rfl,rfl⟩) ?_;apply iW<;>intro W
   ·rw[aap (.inl W),acZ]at D;exact⟨wO (by omega),(k+1,o'),_,au.refl _ _,⟨D,by simp only;omega,by simp only;omega,by simp only;omega⟩,by simp only;omega,⟨Z,Z,Z,Z,Z,Z,Z,Z,Z,Y⟩,⟨Z,Y⟩⟩
   apply iW<;>intro g4
   ·rw[aap (.inr g4),acZ]at D;exact⟨wO (by omega),(k+1,o'),_,au.refl _ _,⟨D,by simp only;omega,by simp only;omega,by simp only;omega⟩,by simp only;omega,⟨Z,Z,Z,Z,Z,Z,Z,Z,Z,Y⟩,⟨Z,Y⟩⟩
   rw[aaa (by rintro (e | e);exact W e;exact g4 e)]at D;generalize fT (aa x) (aa z)=fr at *;refine⟨_,_,(cF x bx),_,_,(cF z O),_,_,YI,wO (by omega),iW ?_ ?_⟩<;>intro g5
   ·rw[aap g5]at D;exact⟨⟨fun r hr=>by simp at hr;subst hr;rfl,by simp only[aej,aaM,aan,acv,aaB,acs];omega,by simp only[aej,aaM,aan,acv,aaB,acs];omega⟩,wO (by omega),(k+1,o'++[⟨5,i,k,fr-1,r.holeGap,((aa x).x0,(aa x).y0)⟩]),_,au.refl _ _,⟨by rw[<-D];simp only[abx,ac3,aaI,acZ],by simp only[acv,abS];omega,by simp only;omega,by simp only;omega⟩,by simp only;omega,⟨Z,Z,Z,Z,Z,Z,Z,Z,Z,Y⟩,⟨by rw[abE];rfl,trivial⟩⟩
   rw[aaa g5,acZ]at D;exact⟨wO (by omega),(k+1,o'),_,au.refl _ _,⟨D,by simp only;omega,by simp only;omega,by simp only;omega⟩,by simp only;omega,⟨Z,Z,Z,Z,Z,Z,Z,Z,Z,Y⟩,⟨Z,Y⟩⟩
  rw[I]at L;rw[ab1 (show a.bores.length<=k by omega),nC,acZ]at D;exact⟨wO (by omega),(i+1,o'),_,au.refl _ _,⟨D,by simp only;omega,by simp only;omega⟩,by simp only;omega,⟨Z,Z,Z,Z,Z,Z,Y⟩,⟨Z,Y⟩⟩
 rw[ab1 (by omega),fY,acw]at x1;have x1:o=G:=x1;refine⟨?_,trivial⟩;rw[<-x1]
end M
end Go.Proofs.YtfloceomobknoaaGreatDoor
