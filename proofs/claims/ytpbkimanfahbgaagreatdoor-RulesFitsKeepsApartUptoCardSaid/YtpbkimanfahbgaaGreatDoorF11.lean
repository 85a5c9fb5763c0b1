/- Part 11 of 14 of the proof of RulesFitsKeepsApart (the names are shortened by a program: the size of a claim is limited). -/
import Derived.Test.YtpbkimanfahbgaaGreatDoorF10
set_option linter.unusedVariables false
set_option linter.unusedSimpArgs false
set_option maxRecDepth 100000
set_option maxHeartbeats 8000000
namespace Go.Proofs.YtpbkimanfahbgaaGreatDoor
namespace M
open Go.AM Go.RowKit Go.Lib
open Reg (UF fg cO iota ik gQ vx pW meets pw oo Xb eP ct cQ ax aB told a_ bK)
theorem getD_at {l:List aB} {i:Nat} {r:aB} (h:l[i]?=some r):l.getD i gQ=r:=by rw[List.getD_eq_getElem?_getD,h];rfl
def oq (s:List ax) (k:Nat):Option ax:=if k=0 then none else s[k - 1]?
theorem prev_next {s:List ax} {k:Nat} {b:ax} (h:s[k]?=some b):oq s (k+1)=some b:=by rw[oq,if_neg (by omega)];exact h
theorem FQ (b:ax) (s:List ax):(told (b::s)).length=b.xs.length+(told s).length:=by simp[told]
theorem YD (l:Reg.bC):((((flat l).map fun n=>[i64 n]).length:Nat):Int).tdiv 2=(l.length:Nat):=by
 rw[List.length_map,eG,Int.tdiv_eq_ediv_of_nonneg (by omega)];omega
theorem Bz (s:List ax) (hs:ct s) (ks:cQ 1400000 s) (hN:(told s).length<=1000000000):aD C 117 [.pv (aG s)] (.own 81 ((eP s).map fun p=>[aG p])) []:=by
 have ls:=Reg.cy hs (by omega) ks
 have lx:=Reg.jk hs (by omega) ks
 have lt:=Reg.kj hs ks
 have ms:=aN s hb
 obtain⟨N,OZ⟩:∃N,N=(told s).length:=⟨_,rfl⟩
 have la:=aN (told s) rc
 refine aT hC Tryz.func117 rfl rfl 187 rfl (by decide) (by kernel_rfl) fun _ _ _ _ _=>?_
 (refine yS<|yB Z<|yU<|yP Z<|yn Z<|aK zI ?_;refine⟨_,_,(h_ s (by omega) (fun t ht=>by have:=lx t ht;omega) lt),?_⟩)
 (refine aS<|af<|cD Z<|cr Z Z Z Z Z<|yU<|yq Z<|aA zI<|bd<|af<|yP Z<|yn Z<|bg zI ?_;refine And.intro ⟨by omega,by omega,by dsimp only;omega,by omega⟩ ?_)
 (refine aS<|af<|yn Z<|aA zI<|aS<|ak<|yq Z<|aA zI<|bd<|aF<|an<|yT<|au<|yS ?_;refine yq Z<|aA zI<|bd<|af<|yP Z<|yP Z<|yT<|aZ ?_)
 refine aI (fun i:Nat=>i<=N) (fun i=>[(0,.p (aG s)),(3,.p (aV (told s))),(4,.bx 4 0),(32,.p (i64 N)),(33,.p (i64 i))]) (fun i=>[(4,.box [.ow 30]),(30,.row 3 (aE (pV N i)))]) (fun i=>N - i) 0 _ (aW.own (by exact hC) _ 3 (id:=3) (by exact rfl) (by exact rfl)) (Nat.zero_le _) ⟨rfl,rfl,rfl,congrArg (fun m:Nat=>AV.p (i64 m)) (by rw[OZ];simp),Z,Y⟩ ⟨rfl,by rw[xH,OZ,<-la];rfl,trivial⟩ fun i hi t h=>?_
 have lv:=cg (pV N i)
 have lu:=vp N i
 (refine yS<|yP Z<|yT<|au<|az Z ?_;refine aa (fun h1=>?_) (fun h1=>?_) <;> try simp only[zB] at h1)
 ·(refine aJ<|aj<|au<|aZ<|yS<|yP Z<|yA Z<|yT<|aM<|yV Z<|yP Z<|yP Z<|yq Z<|bg zI ?_;refine And.intro ⟨by omega,by rw[lv];omega⟩ ?_)
  (refine bd<|bJ<|yq Z<|aK zI ?_;refine⟨[i64 0],(cY (Bt (by omega))),?_⟩)
  (refine bd<|aF<|an<|cL<|bp<|aj<|aM<|yq Z<|bg zI ?_;refine sI ?_)
  (refine yk<|yP Z<|yT<|ai ?_;refine⟨(i+1),_,aW.refl _ _,?_⟩)
  exact⟨by omega,by omega,⟨Z,Z,Z,Z,Z,Y⟩,⟨rfl,congrArg (AB.row _) ((eO _ _ _).trans (by rw[Int.toNat_natCast,Bv (by omega)])),trivial⟩⟩
 have e:i=N:=by omega
 subst e
 rw[Bu]
 obtain⟨U,hU⟩:∃U,U=oo s:=⟨_,rfl⟩
 obtain⟨all,iB⟩:∃all,all=told s:=⟨_,rfl⟩
 have U4:pw all none s (iota i) 0 0=U:=by rw[hU,OZ,iB];rfl
 have Tq:all.length=i:=by rw[OZ,iB]
 rw[<-iB] at la ⊢
 (refine bT (aY (aY (bU (aj (yS (yV Z (cD Z (jW Z Z Z (nX Z) (mE (yU (yA Z (yA Z (yT ?_)))))))))))));refine au<|yS<|yP Z<|yP Z<|yP Z<|yT<|aZ ?_)
 refine aI (fun x:Nat×List Int×Nat×Nat=>pw all (oq s x.1) (s.drop x.1) x.2.1 x.2.2.1 x.2.2.2=U/\UF x.2.1/\x.2.1.length=i/\x.2.2.1+(told (s.drop x.1)).length=i/\x.2.2.2<=x.2.2.1/\x.1<=s.length) (fun x=>[(0,.p (aG s)),(3,.p (aV all)),(4,.bx 4 0),(6,.fn 143 [.bx 4 0]),(7,.p (i64 x.2.2.1)),(8,.p (i64 x.2.2.2)),(42,.p (aG s)),(43,.p (i64 s.length)),(44,.p (i64 x.1))]) (fun x=>[(4,.bb [.row 3 (aE x.2.1)])]) (fun x=>s.length - x.1) (0,iota i,0,0) _ (aW.pack (by exact hC) _ 4 (cs:=[.row 3 (aE (iota i))]) (by exact rfl) (by exact rfl) (by exact⟨Z,Y⟩)) ⟨U4,Reg.qU _,Reg.WV _,by simp only[List.drop_zero,Nat.zero_add];rw[OZ],Nat.le_refl _,Nat.zero_le _⟩ ⟨rfl,rfl,rfl,rfl,rfl,rfl,rfl,congrArg (fun m:Nat=>AV.p (i64 m)) ms,Z,Y⟩ ⟨Z,Y⟩ fun ⟨k,u,f,g⟩ hx t h=>?_
 obtain⟨c1,c2,c3,c4,c5,c6⟩:=hx
 simp only at c1 c2 c3 c4 c5 c6
 (refine yS<|yP Z<|yT<|au<|az Z ?_;refine aa (fun g1=>?_) (fun g1=>?_) <;> try simp only[zB] at g1)
 ·obtain⟨b,xA⟩:=bh (l:=s) (i:=k) (by omega)
  rw[drop_at xA] at c1 c4
  rw[FQ] at c4
  rw[pw,<-prev_next xA] at c1
  have hf:=YD b.xs
  have lf:((flat b.xs).map fun n=>[i64 n]).length=2*b.xs.length:=by rw[List.length_map,eG]
  (refine aJ<|aj<|au<|aZ<|yS<|yP Z<|yq Z<|aK zI ?_;refine⟨(hb b),(idx rfl xA),?_⟩)
  ((refine yk<|yP Z<|yn Z<|aA zI<|aS<|ak<|yA Z<|yq Z<|aA zI<|bd<|aF<|an<|yU<|yV Z ?_;refine yP Z<|yP Z<|yq Z<|bg zI ?_);refine And.intro (by decide) ?_)
  (refine zA zi ?_;refine And.intro ⟨by rw[hf];omega,by rw[hf];omega⟩ ?_)
  have skip:Reg.meets (oq s k) b=false->pw all (oq s (k+1)) (s.drop (k+1)) u (f+b.xs.length) f=U:=fun hm=>by
   rw[hm] at c1
   exact c1
  (refine yk<|yA Z<|yT<|au<|au<|cH [] false yz rfl (by kernel_rfl)<|cG Z<|yD Z<|yD Z<|yD Z<|dg Z ?_;refine aa (fun g2=>?_) (fun g2=>?_) <;> try simp only[zB] at g2)
  ·obtain⟨q,hq⟩:=bh (l:=s) (i:=k - 1) (by omega)
   have hpv:oq s k=some q:=by rw[oq,if_neg (by omega)];exact hq
   (refine bS<|c_ Z<|aA zI<|bB<|ae<|d1 Z<|d2 Z<|c_ Z<|bg zI ?_;refine sI ?_)
   (refine bB<|ae<|d2 Z<|c_ Z<|aK zI ?_;refine⟨(hb q),(idx (show (k:Int) - 1=((k - 1:Nat):Int) by omega) hq),?_⟩)
   ((refine bB<|ae<|d1 Z<|d1 Z<|d2 Z<|c_ Z<|aA zI<|bB<|ak<|d1 Z<|d1 Z<|yD Z<|cn<|bz Z ?_;refine aj<|az Z ?_);refine aa (fun g3=>?_) (fun g3=>?_) <;> try simp only[zB] at g3)
   ·have hm:Reg.meets (oq s k) b=true:=by rw[hpv];simpa [Reg.meets] using g3
    rw[hm,if_pos rfl] at c1
    refine yS<|yP Z<|yP Z<|yA Z<|yA Z<|yT<|aZ ?_
    refine aI (fun y:Nat×List Int×Nat×Nat=>pW all f (f+b.xs.length) y.1 y.2.1 y.2.2.1 y.2.2.2=pW all f (f+b.xs.length) (f - g+b.xs.length) u g f/\UF y.2.1/\y.2.1.length=i/\(f - y.2.2.1)+(f+b.xs.length - y.2.2.2)<=y.1/\y.2.2.1<=f/\y.2.2.2<=f+b.xs.length) (fun y=>[(0,.p (aG s)),(3,.p (aV all)),(4,.bx 4 0),(6,.fn 143 [.bx 4 0]),(7,.p (i64 f)),(8,.p (i64 g)),(42,.p (aG s)),(43,.p (i64 s.length)),(44,.p (i64 k)),(11,.p (i64 b.xs.length)),(12,.p (i64 y.2.2.1)),(13,.p (i64 y.2.2.2))]) (fun y=>[(4,.bb [.row 3 (aE y.2.1)])]) (fun y=>(f - y.2.2.1)+(f+b.xs.length - y.2.2.2)) (f - g+b.xs.length,u,g,f) _ (aW.refl _ _) ⟨rfl,c2,c3,by simp only;omega,by simp only;omega,by simp only;omega⟩ ⟨rfl,rfl,rfl,rfl,rfl,rfl,rfl,rfl,rfl,by rw[<-hf];rfl,Z,Z,Y⟩ ⟨Z,Y⟩ fun ⟨n,v,p,q'⟩ hy t h=>?_
    obtain⟨z1,z2,z3,z4,z5,z6⟩:=hy
    simp only at z1 z2 z3 z4 z5 z6
    have stop:¬(p < f/\q' < f+b.xs.length)->v=pW all f (f+b.xs.length) (f - g+b.xs.length) u g f:=fun hc=>by
     rw[<-z1]
     cases n with
     | zero=>rfl
     | succ n=>rw[pW,if_neg hc]
    (refine au<|yS<|yP Z<|yP Z<|yP Z<|yP Z<|yg Z ?_;refine aa (fun e1=>?_) (fun e1=>?_) <;> try simp only[zB] at e1)
    ·(refine bS<|bA Z Z<|aA zI<|yk<|y1 Z<|y1 Z<|y2 Z<|bA Z Z<|bg zI ?_;refine sI ?_)
     (refine yk<|y1 Z<|yP Z<|yT<|az Z ?_;refine aa (fun e2=>?_) (fun e2=>?_) <;> try simp only[zB] at e2)
     ·obtain⟨n,rfl⟩:∃n',n=n'+1:=⟨n - 1,by omega⟩
      rw[pW,if_pos (by omega)] at z1
      obtain⟨x,hx⟩:=bh (l:=all) (i:=p) (by omega)
      obtain⟨y,hy⟩:=bh (l:=all) (i:=q') (by omega)
      rw[getD_at hx,getD_at hy] at z1
      have Ge:∀(w:List Int),(if vx x y=true then ik v p q' else v)=w->(x.x1 < y.x1->pW all f (f+b.xs.length) n w (p+1) q'=pW all f (f+b.xs.length) (f - g+b.xs.length) u g f)/\(¬x.x1 < y.x1->pW all f (f+b.xs.length) n w p (q'+1)=pW all f (f+b.xs.length) (f - g+b.xs.length) u g f):=fun w hw=>by
       rw[hw] at z1
       exact⟨fun hc=>by rw[if_pos hc,if_pos hc] at z1;exact z1,fun hc=>by rw[if_neg hc,if_neg hc] at z1;exact z1⟩
      (refine aJ<|aj<|aZ<|au<|au<|cH [] false RI rfl (by kernel_rfl)<|cG Z<|yD Z<|yD Z<|dq Z<|aK zI ?_;refine⟨(rc x),(idx rfl hx),?_⟩)
      (refine bB<|ae<|yD Z<|yD Z<|yD Z<|yD Z<|dq Z<|aK zI ?_;refine⟨(rc y),(idx rfl hy),?_⟩)
      (refine bB<|ae<|yD Z<|yD Z<|yD Z<|yD Z<|dg Z ?_;refine aa (fun e3=>?_) (fun e3=>?_) <;> try simp only[zB] at e3)
      ·(refine bS<|c_ Z<|aA zI<|bB<|ae<|d1 Z<|d2 Z<|c_ Z<|aK zI ?_;refine⟨(rc y),(idx rfl hy),?_⟩)
       (refine bB<|ae<|d1 Z<|d1 Z<|d1 Z<|d1 Z<|d2 Z<|c_ Z<|aK zI ?_;refine⟨(rc x),(idx rfl hx),?_⟩)
       (refine bB<|ae<|d1 Z<|d1 Z<|d1 Z<|yD Z<|cn<|bz Z<|aj<|az Z ?_;refine aa (fun e4=>?_) (fun e4=>?_) <;> try simp only[zB] at e4)
       ·have Ge:=Ge _ (if_pos (by simp only[vx,Bool.and_eq_true,decide_eq_true_eq];exact⟨e3,e4⟩))
        refine fB ?_
        have a:=Reg.fY p v p z2 (by omega) (Nat.le_refl _)
        have b':=Reg.fY q' (cO p v p).1 q' a.uf (by rw[a.len];omega) (Nat.le_refl _)
        have ra:=(List.getElem?_eq_some_iff.1 ((b'.same _ _).2 ((a.same _ _).2 a.root)).top).1
        have rb:=(List.getElem?_eq_some_iff.1 ((b'.same _ _).2 b'.root).top).1
        have Bp:((max ((cO p v p).2:Int) ((cO q' (cO p v p).1 q').2:Int))).toNat=max (cO p v p).2 (cO q' (cO p v p).1 q').2:=by omega
        have lv:=cg (cO q' (cO p v p).1 q').1
        obtain⟨ju,jl⟩:=Reg.qV z2 (i:=p) (k:=q') (by omega) (by omega)
        (refine aM<|yq Z<|aA zI<|bd<|mE<|yP Z<|yn Z<|aK zI ?_;refine⟨_,_,(sq v z2 p (by omega)),?_⟩)
        (refine b9 Z Z<|aF<|ae<|yq Z<|aA zI<|bd<|mE<|yP Z<|yn Z<|aK zI ?_;refine⟨_,_,(sq (cO p v p).1 a.uf q' (by rw[a.len];omega)),?_⟩)
        refine b9 Z Z<|aF<|ae<|yA Z<|yA Z<|yT<|ai ?_
        refine CR (aW.open (by exact hC) _ 4 [30] (by exact rfl) rfl rfl rfl) ?_
        obtain⟨z,hz⟩:∃z,(cO q' (cO p v p).1 q').1[max (cO p v p).2 (cO q' (cO p v p).1 q').2]?=some z:=⟨_,List.getElem?_eq_getElem (by omega)⟩
        (refine aM<|yV Z<|yP Z<|yP Z<|yP Z<|yP Z<|yP Z<|yP Z<|yq Z<|bg zI ?_;refine And.intro ⟨by omega,by rw[lv];omega⟩ ?_)
        (refine bd<|bJ<|yq Z<|aK zI ?_;refine⟨[i64 z],(by rw[Bp];exact cY hz),?_⟩)
        have lH:∀(m:Nat) (c:Int),m=max (cO p v p).2 (cO q' (cO p v p).1 q').2->c=min ((cO p v p).2:Int) ((cO q' (cO p v p).1 q').2:Int)->AB.row 3 ((aE (cO q' (cO p v p).1 q').1).set m [i64 c])=AB.row 3 (aE (ik v p q')):=fun m c e1 e2=>by
         subst e1
         subst e2
         rw[eO,ik]
         congr 3
         omega
        (refine bd<|aF<|an<|yT<|au<|cH [] false yy rfl (by kernel_rfl)<|cG Z<|yD Z<|yD Z<|dq Z<|aK zI ?_;refine⟨(rc x),(idx rfl hx),?_⟩)
        (refine bB<|ae<|yD Z<|yD Z<|yD Z<|yD Z<|dq Z<|aK zI ?_;refine⟨(rc y),(idx rfl hy),?_⟩)
        (refine bB<|ae<|yD Z<|yD Z<|yD Z<|cn<|bz Z<|aj<|az Z ?_;refine aa (fun e5=>?_) (fun e5=>?_) <;> try simp only[zB] at e5)
        ·have nx:=Ge.1 e5
         (refine aM<|yP Z<|yq Z<|bg zI ?_;refine And.intro ⟨by dsimp only;omega,by dsimp only;omega⟩ ?_)
         refine yk<|yA Z<|cL<|bp<|aj<|ai ?_
         refine⟨(n,ik v p q',p+1,q'),_,aW.pack (by exact hC) _ 4 (cs:=[.row 3 (aE (ik v p q'))]) (by exact rfl) (by exact rfl) (by exact⟨lH _ _ Bp rfl,trivial⟩),?_⟩
         exact⟨⟨nx,ju,jl.trans z3,by simp only;omega,by simp only;omega,by simp only;omega⟩,by simp only;omega,⟨Z,Z,Z,Z,Z,Z,Z,Z,Z,Z,Z,Z,Y⟩,⟨Z,Y⟩⟩
        have nx:=Ge.2 e5
        (refine aM<|yP Z<|yq Z<|bg zI ?_;refine And.intro ⟨by dsimp only;omega,by dsimp only;omega⟩ ?_)
        refine yk<|yA Z<|cL<|bp<|aj<|ai ?_
        refine⟨(n,ik v p q',p,q'+1),_,aW.pack (by exact hC) _ 4 (cs:=[.row 3 (aE (ik v p q'))]) (by exact rfl) (by exact rfl) (by exact⟨lH _ _ Bp rfl,trivial⟩),?_⟩
        exact⟨⟨nx,ju,jl.trans z3,by simp only;omega,by simp only;omega,by simp only;omega⟩,by simp only;omega,⟨Z,Z,Z,Z,Z,Z,Z,Z,Z,Z,Z,Z,Y⟩,⟨Z,Y⟩⟩
       have Ge:=Ge _ (if_neg (by simp only[vx,Bool.and_eq_true,decide_eq_true_eq];exact fun hc=>e4 hc.2))
       (refine aJ<|aj<|au<|cH [] false yy rfl (by kernel_rfl)<|cG Z<|yD Z<|yD Z<|dq Z<|aK zI ?_;refine⟨(rc x),(idx rfl hx),?_⟩)
       (refine bB<|ae<|yD Z<|yD Z<|yD Z<|yD Z<|dq Z<|aK zI ?_;refine⟨(rc y),(idx rfl hy),?_⟩)
       (refine bB<|ae<|yD Z<|yD Z<|yD Z<|cn<|bz Z<|aj<|az Z ?_;refine aa (fun e5=>?_) (fun e5=>?_) <;> try simp only[zB] at e5)
       ·have nx:=Ge.1 e5
        (refine aM<|yP Z<|yq Z<|bg zI ?_;refine And.intro ⟨by dsimp only;omega,by dsimp only;omega⟩ ?_)
        refine yk<|yA Z<|cL<|bp<|aj<|ai ?_
        refine⟨(n,v,p+1,q'),_,aW.refl _ _,?_⟩
        exact⟨⟨nx,z2,z3,by simp only;omega,by simp only;omega,by simp only;omega⟩,by simp only;omega,⟨Z,Z,Z,Z,Z,Z,Z,Z,Z,Z,Z,Z,Y⟩,⟨Z,Y⟩⟩
       have nx:=Ge.2 e5
       (refine aM<|yP Z<|yq Z<|bg zI ?_;refine And.intro ⟨by dsimp only;omega,by dsimp only;omega⟩ ?_)
       refine yk<|yA Z<|cL<|bp<|aj<|ai ?_
       refine⟨(n,v,p,q'+1),_,aW.refl _ _,?_⟩
       exact⟨⟨nx,z2,z3,by simp only;omega,by simp only;omega,by simp only;omega⟩,by simp only;omega,⟨Z,Z,Z,Z,Z,Z,Z,Z,Z,Z,Z,Z,Y⟩,⟨Z,Y⟩⟩
      have Ge:=Ge _ (if_neg (by simp only[vx,Bool.and_eq_true,decide_eq_true_eq];exact fun hc=>e3 hc.1))
      ((refine cB<|ae<|d0 Z<|d0 Z<|d0 Z<|d0 Z<|d0 Z<|d0 Z<|d0 Z<|d0 Z<|d0 Z<|d0 Z<|yD Z<|cn ?_;refine bz Z<|aj<|az Z<|cM<|aJ<|aj<|au<|cH [] false yy rfl (by kernel_rfl)<|cG Z<|yD Z<|yD Z<|dq Z<|aK zI ?_);refine⟨(rc x),(idx rfl hx),?_⟩)
      (refine bB<|ae<|yD Z<|yD Z<|yD Z<|yD Z<|dq Z<|aK zI ?_;refine⟨(rc y),(idx rfl hy),?_⟩)
      (refine bB<|ae<|yD Z<|yD Z<|yD Z<|cn<|bz Z<|aj<|az Z ?_;refine aa (fun e5=>?_) (fun e5=>?_) <;> try simp only[zB] at e5)
      ·have nx:=Ge.1 e5
       (refine aM<|yP Z<|yq Z<|bg zI ?_;refine And.intro ⟨by dsimp only;omega,by dsimp only;omega⟩ ?_)
       refine yk<|yA Z<|cL<|bp<|aj<|ai ?_
       refine⟨(n,v,p+1,q'),_,aW.refl _ _,?_⟩
       exact⟨⟨nx,z2,z3,by simp only;omega,by simp only;omega,by simp only;omega⟩,by simp only;omega,⟨Z,Z,Z,Z,Z,Z,Z,Z,Z,Z,Z,Z,Y⟩,⟨Z,Y⟩⟩
      have nx:=Ge.2 e5
      (refine aM<|yP Z<|yq Z<|bg zI ?_;refine And.intro ⟨by dsimp only;omega,by dsimp only;omega⟩ ?_)
      refine yk<|yA Z<|cL<|bp<|aj<|ai ?_
      refine⟨(n,v,p,q'+1),_,aW.refl _ _,?_⟩
      exact⟨⟨nx,z2,z3,by simp only;omega,by simp only;omega,by simp only;omega⟩,by simp only;omega,⟨Z,Z,Z,Z,Z,Z,Z,Z,Z,Z,Z,Z,Y⟩,⟨Z,Y⟩⟩
     have st:=stop (by omega)
     (refine bT<|aY<|aY<|bU<|aj<|aM<|yP Z<|yP Z<|yP Z<|yq Z<|bg zI ?_;refine sI ?_)
     (refine yk<|yA Z<|yA Z<|cL<|bp<|aj<|aM<|yq Z<|bg zI ?_;refine sI ?_)
     (refine yk<|yP Z<|yT<|ai ?_;refine⟨(k+1,v,f+b.xs.length,f),_,aW.refl _ _,?_⟩)
     exact⟨⟨by rw[st];exact c1,z2,z3,by simp only;omega,by simp only;omega,by simp only;omega⟩,by omega,⟨Z,Z,Z,Z,Z,Z,Z,Z,Z,Y⟩,⟨Z,Y⟩⟩
    have st:=stop (by omega)
    ((refine cB<|ae<|y0 Z<|y0 Z<|y0 Z<|y0 Z<|yP Z<|yT<|az Z<|cM<|bT<|aY<|aY<|bU ?_;refine aj<|aM<|yP Z<|yP Z<|yP Z<|yq Z<|bg zI ?_);refine sI ?_)
    (refine yk<|yA Z<|yA Z<|cL<|bp<|aj<|aM<|yq Z<|bg zI ?_;refine sI ?_)
    (refine yk<|yP Z<|yT<|ai ?_;refine⟨(k+1,v,f+b.xs.length,f),_,aW.refl _ _,?_⟩)
    exact⟨⟨by rw[st];exact c1,z2,z3,by simp only;omega,by simp only;omega,by simp only;omega⟩,by omega,⟨Z,Z,Z,Z,Z,Z,Z,Z,Z,Y⟩,⟨Z,Y⟩⟩
   have hm:Reg.meets (oq s k) b=false:=by rw[hpv];simpa [Reg.meets] using g3
   have c1:=skip hm
   (refine aJ<|aj<|aM<|yP Z<|yP Z<|yP Z<|yq Z<|bg zI ?_;refine And.intro ⟨by rw[hf];dsimp only;omega,by rw[hf];dsimp only;omega⟩ ?_)
   (refine yk<|yA Z<|yA Z<|cL<|bp<|aj<|aM<|yq Z<|bg zI ?_;refine sI ?_)
   (refine yk<|yP Z<|yT<|ai ?_;refine⟨(k+1,u,f+b.xs.length,f),_,aW.refl _ _,?_⟩)
   exact⟨⟨c1,c2,c3,by simp only;omega,by simp only;omega,by simp only;omega⟩,by omega,⟨rfl,rfl,rfl,rfl,by rw[hf];rfl,Z,Z,Z,Z,Y⟩,⟨Z,Y⟩⟩
  have hm:Reg.meets (oq s k) b=false:=by rw[oq,if_pos (by omega)];rfl
  have c1:=skip hm
  ((refine cB<|ae<|d0 Z<|d0 Z<|d0 Z<|d0 Z<|d0 Z<|d0 Z<|d0 Z<|d0 Z<|yD Z<|cn<|bz Z<|aj ?_;refine az Z<|cM<|aJ<|aj<|aM<|yP Z<|yP Z<|yP Z<|yq Z<|bg zI ?_);refine And.intro ⟨by rw[hf];dsimp only;omega,by rw[hf];dsimp only;omega⟩ ?_)
  (refine yk<|yA Z<|yA Z<|cL<|bp<|aj<|aM<|yq Z<|bg zI ?_;refine sI ?_)
  (refine yk<|yP Z<|yT<|ai ?_;refine⟨(k+1,u,f+b.xs.length,f),_,aW.refl _ _,?_⟩)
  exact⟨⟨c1,c2,c3,by simp only;omega,by simp only;omega,by simp only;omega⟩,by omega,⟨rfl,rfl,rfl,rfl,by rw[hf];rfl,Z,Z,Z,Z,Y⟩,⟨Z,Y⟩⟩
 have e:s.length<=k:=by omega
 rw[List.drop_of_length_le e] at c1 c4
 have c1:u=U:=c1
 subst c1
 have MM:eP s=((Reg.ba (Reg.dR u) i).map fun l=>l.map fun m=>all.getD m gQ).map Reg.a_:=by rw[eP,Xb,<-hU,<-iB,Tq]
 rw[MM]
 obtain⟨p,hp⟩:∃p,p=Reg.dR u:=⟨_,rfl⟩
 have hT:Reg.FM p i:=by rw[hp,<-c3];exact Reg.tV c2
 rw[<-hp]
 obtain⟨rf,Tr⟩:∃rf,rf=fun m=>rc (all.getD m gQ):=⟨_,rfl⟩
 (refine bT (aY (aY (bU (aj (yS (yn Z (aA zI (aS (af (cD Z (jW Z Z Z (Eb Z) (af (yU ?_)))))))))))));refine yB Z<|yT<|au<|yS<|yP Z<|yP Z<|yP Z<|yT<|aZ ?_)
 refine aI (fun x:Nat×List (Value×PV)=>x.1<=i/\(∀(k r:Nat),(Reg.cZ p x.1)[k]?=some r->gR x.2 (.int .i64 r)=some (i64 k))/\∀r:Nat,¬r∈Reg.cZ p x.1->gR x.2 (.int .i64 r)=none) (fun x=>[(3,.p (aV all)),(4,.bx 4 0),(6,.fn 143 [.bx 4 0]),(16,.ow 136),(17,.ow 17),(137,.p (aV all)),(138,.p (i64 i)),(139,.p (i64 x.1))]) (fun x=>[(4,.bb [.row 3 (aE (l8 u x.1))]),(17,.aL 27 ((Reg.ba p x.1).map (Xz 56 rf))),(136,.map (.int .i64) x.2)]) (fun x=>i - x.1) (0,[]) _ ((aW.fa (by exact hC) _ 17 27 _ (by decide) (by exact rfl) (by exact rfl) (by decide)).trans (aW.Ro (by exact hC) _ 17 (e:=27) (es:=[]) (by exact rfl))) ⟨Nat.zero_le _,fun k r h=>by simp[Reg.cZ] at h,fun r _=>rfl⟩ ⟨rfl,rfl,rfl,rfl,rfl,rfl,congrArg (fun m:Nat=>AV.p (i64 m)) (la.trans Tq),Z,Y⟩ ⟨Z,Z,Z,Y⟩ fun ⟨m,es⟩ hx t h=>?_
 obtain⟨h1,h2,h3⟩:=hx
 simp only at h1 h2 h3
 obtain⟨vu,vl,vr⟩:=vq c2 m (by omega)
 (refine yS<|yP Z<|yT<|au<|az Z ?_;refine aa (fun g1=>?_) (fun g1=>?_) <;> try simp only[zB] at g1)
 ·obtain⟨x,hx⟩:=bh (l:=all) (i:=m) (by omega)
  have L1:rf m=rc x:=by rw[Tr];exact congrArg rc (getD_at hx)
  have hr:fg (l8 u m) m (p m):=(vr _ _).2 (by rw[hp];exact Reg.ku c2 (by omega))
  have O0:=sq (l8 u m) vu m (by omega)
  rw[(Reg.fY m (l8 u m) m vu hr.lt (Nat.le_refl _)).root.uniq hr] at O0
  (refine aJ<|aj<|au<|aZ<|yS<|yP Z<|yq Z<|aK zI ?_;refine⟨(rc x),(idx rfl hx),?_⟩)
  ((refine yk<|yP Z<|yn Z<|aA zI<|aS<|ak<|yA Z<|yq Z<|aA zI<|bd<|aF<|an<|yU<|yq Z ?_;refine aA zI<|bd<|mE<|yP Z<|yn Z<|aK zI ?_);refine⟨_,_,O0,?_⟩)
  have sl:(Reg.ba p m).length=(Reg.cZ p m).length:=Reg.l6 p m
  have kl:=Reg.om p m
  by_cases e:p m=m
  ·have Jp:=h3 (p m) (by rw[e];exact fun hc=>by have:=(Reg.mem_keys.1 hc).1;omega)
   have nx:=Reg.Bq hT (show m < i by omega) e
   (refine b9 Z Z<|aF<|ae<|yA Z<|yU<|yq Z<|aA zI<|bd<|af<|yP Z<|yq Z<|aK zI ?_;refine⟨none,Jp,?_⟩)
   refine bd<|bq<|yq Z<|aA zI<|bd<|bq<|yP Z<|yP Z<|yA Z<|yA Z<|yT ?_
   refine fB ?_
   ((refine yS<|yP Z<|yP Z<|yT<|az Z<|fy<|yS<|yq Z<|aA zI<|bd<|af<|yP Z<|yA Z<|yU ?_;refine yq Z<|aA zI<|bd<|af<|yP Z<|yP Z<|yq Z<|aA zI<|bd<|aF<|an<|yT<|aM<|yq Z ?_;refine aA zI<|bd<|af<|yn Z<|aA zI<|aS<|af<|yn Z<|bg zI ?_);refine And.intro ⟨fun r hr=>by simp at hr;subst hr;rfl,by simp only[List.length_map,List.length_set,List.length_replicate];omega,by simp only[List.length_map,List.length_set,List.length_replicate];omega⟩ ?_)
   refine aS<|aF<|af<|cD Z<|cr Z Z Z Z Z<|yT<|ai ?_
   refine CR ((aW.Mr (by exact hC) _ 17 (Reg.ba p m).length 0 (e:=27) (e':=56) (es:=(Reg.ba p m).map (Xz 56 rf)++[[.av .nl]]) (r:=[.av .nl]) (by exact congrArg (AB.aL _) (by simp only[tW,Ka];rfl)) (by rw[List.getElem?_append_right (by simp)];simp) (by exact rfl) (by exact rfl) (by decide)).trans (aW.oK (by exact hC) _ 17 (Reg.ba p m).length 0 90001 (e:=27) (es:=(Reg.ba p m++[[]]).map (Xz 56 rf)) (e':=56) (r:=Xz 56 rf []) (xs:=[]) (by decide) (by decide) (by exact congrArg (AB.aL _) (by rw[List.map_append];refine (qX _ _ _ _ (List.length_map _).symm).trans ?_;simp[Xz])) (vz _ _ _) (by rw[List.map_append,List.getElem?_append_right (by simp)];simp) (by exact rfl))) ?_
   have e0:(List.map (fun r=>List.map (HX.dm (sc 146)) r) (List.map (fun r=>List.map (HX.dm (sc 19)) r) (List.map (Xz 56 rf) (Reg.ba p m)))).length=(Reg.ba p m).length:=by simp
   ((refine cH [17,1000017,19,1000019,136] true yy rfl (by kernel_rfl)<|ay Z<|ay Z<|ay Z<|ay Z<|ay Z<|ay Z<|ay Z<|cA Z Z<|cA Z Z<|cG Z<|dq Z<|aA zI<|bB ?_;refine af<|yD Z<|dq Z<|aA zI<|bB<|af<|yD Z<|dq Z<|bg zI ?_);refine And.intro ⟨by dsimp only;omega,by simp⟩ ?_)
   (refine bB<|bJ<|dq Z<|aK zI ?_;refine⟨[.av (.ow 90001)],(by rw[oR,gA,gA];rw[e0];exact oS _ _ (Reg.ba p m++[[]]) (Reg.ba p m).length 90001 (by simp);rfl;rfl),?_⟩)
   (refine bB<|af<|yD Z<|dq Z<|aA zI<|jA Z Z<|af<|dq Z<|bg zI ?_;refine And.intro ⟨fun r hr=>by simp at hr;subst hr;rfl,by simp,by simp⟩ ?_)
   (refine hD Z Z Z<|fM<|g_<|af<|dq Z<|bg zI ?_;refine And.intro ⟨by dsimp only;omega,by simp⟩ ?_)
   (refine bB<|bJ<|dq Z<|aK zI ?_;refine⟨[.av (.ow 90001)],(by rw[oR,gA,gA];rw[e0];exact oS _ _ (Reg.ba p m++[[]]) (Reg.ba p m).length 90001 (by simp);rfl;rfl),?_⟩)
   (refine iG Z<|aF<|an<|cn<|bz Z<|bp<|aj<|aM<|yq Z<|bg zI ?_;refine sI ?_)
   refine yk<|yP Z<|yT<|ai ?_
   refine⟨(m+1,jw es (.int .i64 (p m)) (i64 (Reg.ba p m).length)),_,aW.Au (by exact hC) _ 17 (Reg.ba p m).length 0 171 (e:=27) (es:=((Reg.ba p m++[[]]).map (Xz 56 rf)).set (Reg.ba p m).length [.av (.ow 171)]) (e':=56) (xs:=[rf m]) (by decide) (by exact congrArg (AB.aL _) (by rw[oR,gA,gA,e0];exact List.set_set _;rfl;rfl)) (by rw[L1];exact rfl) (oS _ _ _ _ _ (by simp)) (by exact rfl),?_⟩
   have key:∀(k r:Nat),(Reg.cZ p (m+1))[k]?=some r->gR (jw es (.int .i64 (p m)) (i64 (Reg.ba p m).length)) (.int .i64 r)=some (i64 k):=fun k r hk=>by
    rw[Reg.gP,if_pos e] at hk
    rw[WW]
    by_cases GB:k < (Reg.cZ p m).length
    ·rw[List.getElem?_append_left GB] at hk
     have:=(Reg.mem_keys.1 (List.mem_of_getElem? hk)).1
     rw[if_neg (by omega)]
     exact h2 k r hk
    rw[List.getElem?_append_right (by omega)] at hk
    have DW:k=(Reg.cZ p m).length:=by
     have:=(List.getElem?_eq_some_iff.1 hk).1
     simp at this
     omega
    subst DW
    simp only[Nat.sub_self,List.getElem?_cons_zero,Option.some.injEq] at hk
    subst hk
    rw[if_pos (by omega),sl]
   have O1:∀r:Nat,¬r∈Reg.cZ p (m+1)->gR (jw es (.int .i64 (p m)) (i64 (Reg.ba p m).length)) (.int .i64 r)=none:=fun r hr=>by
    rw[Reg.gP,if_pos e] at hr
    rw[WW,if_neg (fun hc=>hr (by rw[List.mem_append];exact .inr (by simp;omega)))]
    exact h3 r fun hc=>hr (List.mem_append_left _ hc)
   refine And.intro ⟨by dsimp only;omega,key,O1⟩ ⟨by dsimp only;omega,⟨Z,Z,Z,Z,Z,Z,Z,Z,Y⟩,⟨rfl,?_,congrArg (AB.map _) ?_,trivial⟩⟩
   ·refine congrArg (AB.aL _) ?_
    show ((List.map (Xz 56 rf) (Reg.ba p m++[[]])).set _ _).set _ _=List.map (Xz 56 rf) (Reg.ba p (m+1))
    rw[List.set_set,nx,List.map_append,List.map_append]
    exact qX _ _ _ _ (List.length_map _).symm
   dsimp only
   rw[e0];rfl
  obtain⟨k,hk⟩:=Reg.Iw hT (show m < i by omega) e
  obtain⟨nx,Nq⟩:=Reg.Bs e hk
  have km:=h2 k (p m) hk
  have MI:((Reg.ba p m).map (Xz 56 rf))[k]?=some (Xz 56 rf (Reg.fR p m (p m))):=by rw[List.getElem?_map,Nq];rfl
  have V3:=(List.getElem?_eq_some_iff.1 hk).1
  have ml:=Reg.l7 p m (p m)
  (refine b9 Z Z<|aF<|ae<|yA Z<|yU<|yq Z<|aA zI<|bd<|af<|yP Z<|yq Z<|aK zI ?_;refine⟨(some (i64 k)),km,?_⟩)
  refine bd<|bq<|yq Z<|aA zI<|bd<|bq<|yP Z<|yP Z<|yA Z<|yA Z<|yT ?_
  refine fB ?_
  refine yS<|yP Z<|yP Z<|yT<|az Z<|cM<|aJ<|aj<|ai ?_
  refine CR (aW.oK (by exact hC) _ 17 k 0 90001 (e:=27) (by decide) (by decide) (by exact congrArg (AB.aL _) (by simp only[tW])) (vz _ _ _) MI (by exact rfl)) ?_
  ((refine cH [17,1000017,19,1000019,136] true yy rfl (by kernel_rfl)<|ay Z<|ay Z<|ay Z<|ay Z<|ay Z<|ay Z<|ay Z<|cA Z Z<|cA Z Z<|cG Z<|dq Z<|aA zI<|bB ?_;refine af<|yD Z<|dq Z<|aA zI<|bB<|af<|yD Z<|dq Z<|bg zI ?_);refine And.intro ⟨by omega,by simp only[List.length_map,List.length_set];omega⟩ ?_)
  (refine bB<|bJ<|dq Z<|aK zI ?_;refine⟨[.av (.ow 90001)],(by rw[oR,gA,gA];exact oS _ _ (Reg.ba p m) k 90001 (by omega);rfl;rfl),?_⟩)
  (refine bB<|af<|yD Z<|dq Z<|aA zI<|jA Z Z<|af<|dq Z<|bg zI ?_;refine And.intro ⟨fun r hr=>by simp at hr;subst hr;rfl,by simp only[List.length_map,List.length_set,List.length_replicate];omega,by simp only[List.length_map,List.length_set,List.length_replicate];omega⟩ ?_)
  (refine hD Z Z Z<|fM<|g_<|af<|dq Z<|bg zI ?_;refine And.intro ⟨by omega,by simp only[List.length_map,List.length_set];omega⟩ ?_)
  (refine bB<|bJ<|dq Z<|aK zI ?_;refine⟨[.av (.ow 90001)],(by rw[oR,gA,gA];exact oS _ _ (Reg.ba p m) k 90001 (by omega);rfl;rfl),?_⟩)
  (refine iG Z<|aF<|an<|cn<|bz Z<|bp<|aj<|aM<|yq Z<|bg zI ?_;refine sI ?_)
  refine yk<|yP Z<|yT<|ai ?_
  refine⟨(m+1,es),_,aW.Au (by exact hC) _ 17 k 0 171 (e:=27) (es:=((Reg.ba p m).map (Xz 56 rf)).set k [.av (.ow 171)]) (e':=56) (xs:=(Reg.fR p m (p m)++[m]).map rf) (by decide) (by exact congrArg (AB.aL _) (by rw[oR,gA,gA];exact List.set_set _;rfl;rfl)) (by exact congrArg (AB.row _) (by rw[List.map_append];exact congrArg (List.map rf (Reg.fR p m (p m))++·) (by show _=[rf m];rw[L1];rfl))) (oS _ _ _ _ _ (by omega)) (by exact rfl),?_⟩
  refine And.intro ⟨by dsimp only;omega,fun k' r tI=>?_,fun r hr=>?_⟩ ⟨by dsimp only;omega,⟨Z,Z,Z,Z,Z,Z,Z,Z,Y⟩,⟨rfl,?_,Z,Y⟩⟩
  ·rw[Reg.gP,if_neg e] at tI
   exact h2 k' r tI
  ·rw[Reg.gP,if_neg e] at hr
   exact h3 r hr
  refine congrArg (AB.aL _) ?_
  show ((List.map (Xz 56 rf) (Reg.ba p m)).set _ _).set _ _=List.map (Xz 56 rf) (Reg.ba p (m+1))
  rw[List.set_set,nx,List.map_set]
  rfl
 have em:m=i:=by omega
 subst em
 obtain⟨LL,Kb⟩:∃LL,LL=Reg.ba p m:=⟨_,rfl⟩
 rw[<-Kb]
 (refine bT<|aY<|aY<|bU<|aj<|yS<|yB Z<|yT<|au<|yS<|yq Z<|aA zI<|bd<|af ?_;refine yP Z<|yP Z<|yT<|aZ ?_)
 obtain⟨rL,MD⟩:∃rL:List Nat->List aB,rL=fun l=>l.map fun m=>all.getD m gQ:=⟨_,rfl⟩
 rw[<-MD]
 have qi:∀l,MJ rf l=[aV (rL l)]:=fun l=>by rw[MJ,Tr,MD,aV,List.map_map];rfl
 have lL:=aN LL (MJ rf)
 have V4:LL.length<=m:=by rw[Kb,Reg.l6];exact Reg.om p m
 have FB:∀l∈LL,l.length<=m/\∀r∈rL l,r∈all:=fun l hl=>by
  rw[Kb,Reg.ba] at hl
  obtain⟨r,_,rfl⟩:=List.mem_map.1 hl
  refine⟨Reg.l7 p m r,fun q hq=>?_⟩
  rw[MD] at hq
  obtain⟨z,hz,rfl⟩:=List.mem_map.1 hq
  have:=(Reg.fD.1 hz).1
  obtain⟨q,hq⟩:=bh (l:=all) (i:=z) (by omega)
  rw[getD_at hq]
  exact List.mem_of_getElem? hq
 have tf:=Reg.dK hs
 have ti:=Reg.kN hs ks
 rw[<-iB] at tf ti
 refine aI (fun j:Nat=>j<=LL.length) (fun j=>[(23,.ow 23),(174,.p (.sl (LL.map (MJ rf)))),(175,.p (i64 LL.length)),(176,.p (i64 j))]) (fun j=>[(23,.row 81 (((LL.take j).map fun l=>Reg.a_ (rL l)).map fun p=>[aG p]))]) (fun j=>LL.length - j) 0 _ ((aW.Hz (by exact hC) _ 17 (LL.map (MJ rf)) (e:=27) (by exact rfl) (ML _ _ _)).trans ((aW.own (by exact hC) _ 174 (id:=17) (by exact rfl) (by exact rfl)).trans (aW.fa (by exact hC) _ 23 81 _ (by decide) (by exact rfl) (by exact rfl) (by decide)))) (Nat.zero_le _) ⟨rfl,rfl,congrArg (fun m:Nat=>AV.p (i64 m)) (List.length_map _),Z,Y⟩ ⟨Z,Y⟩ fun j hj t h=>?_
 (refine yS<|yP Z<|yT<|au<|az Z ?_;refine aa (fun g1=>?_) (fun g1=>?_) <;> try simp only[zB] at g1)
 ·obtain⟨l,hl⟩:=bh (l:=LL) (i:=j) (by omega)
  obtain⟨m1,m2⟩:=FB l (List.mem_of_getElem? hl)
  have so:=jb (rL l) 1400000 (by omega) (by omega) (fun r hr=>tf r (m2 r hr)) (fun r hr=>ti r (m2 r hr)) (by rw[MD,List.length_map];omega)
  have lk:((LL.take j).map fun l=>Reg.a_ (rL l)).length=j:=by rw[List.length_map,List.length_take];omega
  (refine aJ<|aj<|au<|aZ<|yS<|yq Z<|aK zI ?_;refine⟨[aV (rL l)],(by rw[<-qi];exact idx rfl hl),?_⟩)
  (refine yk<|yP Z<|yA Z<|yT<|aM<|yq Z<|aA zI<|bd<|af<|yP Z<|yn Z<|aK zI ?_;refine⟨_,_,so,?_⟩)
  (refine aS<|af<|yn Z<|aA zI<|aS<|aF<|af<|yn Z<|bg zI ?_;refine And.intro ⟨fun r hr=>by simp at hr;subst hr;rfl,by simp only[List.length_map,List.length_set,List.length_replicate,lk];omega,by simp only[List.length_map,List.length_set,List.length_replicate,lk];omega⟩ ?_)
  (refine aS<|aF<|af<|cD Z<|cr Z Z Z Z Z<|cL<|bp<|aj<|aM<|yq Z<|bg zI ?_;refine sI ?_)
  (refine yk<|yP Z<|yT<|ai ?_;refine⟨(j+1),_,aW.refl _ _,?_⟩)
  exact⟨by omega,by omega,⟨Z,Z,Z,Z,Y⟩,⟨by rw[cw hl,List.map_append,List.map_append];rfl,trivial⟩⟩
 have e:LL.take j=LL:=List.take_of_length_le (by omega)
 rw[e]
 refine bT<|aY<|aY<|bU<|aj<|yS<|yq Z<|aA zI<|bd<|af<|cD Z<|cr Z Z Z Z Z<|yR zi ?_
 exact And.intro (congrArg (AB.row _) (by rw[List.map_map,List.map_map,List.map_map];rfl)) (And.intro rfl trivial)
end M
namespace Reg
theorem qY {α:Type} [DecidableEq α]:∀{l m:List α},l.Nodup->(∀x∈l,x∈m)->l.length<=m.length
 | [],m,_,_=>Nat.zero_le _
 | x::l,m,h,hs=>by
  have hx:=hs x List.mem_cons_self
  have h':=List.nodup_cons.1 h
  have:=qY (l:=l) (m:=m.erase x) h'.2 fun y hy=>(List.mem_erase_of_ne (fun e=>h'.1 (by rw[<-e];exact hy))).2 (hs y (List.mem_cons_of_mem _ hy))
  rw[List.length_erase_of_mem hx] at this
  have:=List.length_pos_of_mem hx
  simp only[List.length_cons]
  omega
theorem pX:∀{s:bC} {p:Int×Int},Canon s->p∈s->¬cover s (p.1 - 1)
 | [],p,_,hp=>by cases hp
 | q::s,p,h,hp=>by
  rw[bN]
  rintro (⟨h1,h2⟩ | h3)
  ·rcases List.mem_cons.1 hp with rfl | hp
   ·omega
   have:=h.behind p hp
   omega
  rcases List.mem_cons.1 hp with rfl | hp
  ·exact h.iH (by have:=h.head;omega) h3
  exact pX h.tail hp h3
theorem zu {s:List ax} (h:ct s) {b:ax} (hb:b∈s) {y:Int} (h1:b.y0<=y) (h2:y < b.y1) (x:Int):at' s x y=par (bK b.xs) x:=by
 induction s with
 | nil=>cases hb
 | cons c s ih=>
  rcases List.mem_cons.1 hb with rfl | hb'
  ·exact jF h h1 h2
  have:=h.fZ b hb'
  rw[mS (by omega)]
  exact ih h.tail hb'
theorem xJ {s:List ax} (h:ct s) {b:ax} (hb:b∈s):∃x,at' s x (b.y0 - 1)≠at' s x b.y0:=by
 induction s with
 | nil=>cases hb
 | cons c s ih=>
  have eL:=(h.mem b hb).lt
  rcases List.mem_cons.1 hb with rfl | hb'
  ·obtain⟨x,hx⟩:=qO (h.mem b hb)
   refine⟨x,?_⟩
   rw[jF h (Int.le_refl _) eL,hx,iM fun t ht=>?_]
   ·decide
   rcases List.mem_cons.1 ht with rfl | ht
   ·exact .inl (by omega)
   have:=h.fZ t ht
   exact .inl (by omega)
  have hc:=(h.mem c List.mem_cons_self).lt
  have rX:=h.fZ b hb'
  by_cases e:c.y1=b.y0
  ·match s,h,hb',ih with
   | d::s,h,hb',ih=>
    rcases List.mem_cons.1 hb' with rfl | hb''
    ·have b8:c.xs≠b.xs:=fun hx=>by
      have:=h
      simp only[ct] at this
      exact this.2.2.1 e hx
     have hx:∃x,par (bK c.xs) x≠par (bK b.xs) x:=by
      refine Classical.byContradiction fun hn=>b8 (jC _ _ (h.mem c List.mem_cons_self).can (h.mem b (by simp)).can fun x=>?_)
      have:par (bK c.xs) x=par (bK b.xs) x:=Classical.byContradiction fun hc=>hn ⟨x,hc⟩
      rw[<-dn (h.mem c List.mem_cons_self).can,<-dn (h.mem b (by simp)).can,this]
     obtain⟨x,hx⟩:=hx
     refine⟨x,?_⟩
     rw[jF h (by omega) (by omega),mS (by omega),jF h.tail (Int.le_refl _) eL]
     exact hx
    have:=(h.tail.fZ b hb'')
    have:=(h.mem d (by simp)).lt
    have:=h.fZ d (by simp)
    omega
  obtain⟨x,hx⟩:=ih h.tail hb'
  refine⟨x,?_⟩
  rw[mS (by omega),mS (by omega)]
  exact hx
theorem Iy {s:List ax} (h:ct s) {Ys:List Int} (hy:∀x y,¬y∈Ys->at' s x (y - 1)=at' s x y):∀q∈told s,q.y0∈Ys:=fun q hq=>by
 obtain⟨b,hb,p,_,rfl⟩:=Wu.1 hq
 obtain⟨x,hx⟩:=xJ h hb
 exact Classical.byContradiction fun hn=>hx (hy x b.y0 hn)
theorem Iz {s:List ax} (h:ct s) {Xs:List Int} (hx:∀x y,¬x∈Xs->at' s (x - 1) y=at' s x y):∀q∈told s,q.x0∈Xs:=fun q hq=>by
 obtain⟨b,hb,p,hp,rfl⟩:=Wu.1 hq
 have hB:=h.mem b hb
 refine Classical.byContradiction fun hn=>?_
 have e:=hx p.1 b.y0 hn
 rw[zu h hb (Int.le_refl _) hB.lt,zu h hb (Int.le_refl _) hB.lt] at e
 have h1:cover b.xs p.1:=⟨p,hp,Int.le_refl _,fP hB.can p hp⟩
 rw[<-dn hB.can,<-e,dn hB.can] at h1
 exact pX hB.can hp h1
theorem xK (Xs:List Int):∀Ys:List Int,(Ys.flatMap fun y=>Xs.map fun x=>(y,x)).length=Ys.length*Xs.length
 | []=>by simp
 | y::Ys=>by rw[List.flatMap_cons,List.length_append,xK Xs Ys,List.length_map,List.length_cons,Nat.succ_mul,Nat.add_comm]
theorem Kc {s:List ax} (h:ct s) {Xs Ys:List Int} (hx:∀x y,¬x∈Xs->at' s (x - 1) y=at' s x y) (hy:∀x y,¬y∈Ys->at' s x (y - 1)=at' s x y):(told s).length<=Ys.length*Xs.length:=by
 have hn:((told s).map fun q=>(q.y0,q.x0)).Nodup:=by
  rw[List.nodup_iff_pairwise_ne,List.pairwise_map]
  refine (mT h).imp fun {a b} rX e=>?_
  have:=WT.1 rX
  simp only[Prod.mk.injEq] at e
  omega
 have:=qY (m:=Ys.flatMap fun y=>Xs.map fun x=>(y,x)) hn fun z hz=>by
  obtain⟨q,hq,rfl⟩:=List.mem_map.1 hz
  exact List.mem_flatMap.2 ⟨q.y0,Iy h hy q hq,List.mem_map.2 ⟨q.x0,Iz h hx q hq,rfl⟩⟩
 rw[List.length_map] at this
 exact Nat.le_trans this (Nat.le_of_eq (xK Xs Ys))
structure Piece where
 layer:Int
 set:List ax
structure dc where
 pieces:List Int
 bores:List Int
 pins:List (ByteArray×ByteArray)
structure Kd where
 bore:Bool
 num:Int
theorem FT {x y:Int} {q:aB} (h:¬(x=q.x0\/x=q.x1)):iN (x - 1) y q=iN x y q:=by
 rw[Bool.eq_iff_iff,cz,cz]
 omega
theorem FU {x y:Int} {q:aB} (h:¬(y=q.y0\/y=q.y1)):iN x (y - 1) q=iN x y q:=by
 rw[Bool.eq_iff_iff,cz,cz]
 omega
theorem ot {α:Type} {l:List α} {f g:α->Bool} (h:∀x∈l,f x=g x):l.any f=l.any g:=by
 induction l with
 | nil=>rfl
 | cons x l ih=>rw[List.any_cons,List.any_cons,h x List.mem_cons_self,ih fun y hy=>h y (List.mem_cons_of_mem _ hy)]
def MN (l:List aB):List Int:=l.flatMap fun q=>[q.x0,q.x1]
def MO (l:List aB):List Int:=l.flatMap fun q=>[q.y0,q.y1]
theorem Ev:∀l:List aB,(MN l).length=2*l.length
 | []=>rfl
 | q::l=>by have:=Ev l;simp only[MN,List.flatMap_cons,List.length_append,List.length_cons,List.length_nil] at this ⊢;omega
theorem Ew:∀l:List aB,(MO l).length=2*l.length
 | []=>rfl
 | q::l=>by have:=Ew l;simp only[MO,List.flatMap_cons,List.length_append,List.length_cons,List.length_nil] at this ⊢;omega
theorem FV {a b:List aB} (ha:∀r∈a,Full r) (hb:∀r∈b,Full r):(told (cv (a_ a) (a_ b))).length<=(2*(a.length+b.length))*(2*(a.length+b.length)):=by
 obtain⟨a1,a2,_⟩:=eA ha
 obtain⟨b1,b2,_⟩:=eA hb
 obtain⟨c1,c2,_⟩:=dZ a1 b1
 have hx:∀x y,¬x∈MN (a++b)->at' (cv (a_ a) (a_ b)) (x - 1) y=at' (cv (a_ a) (a_ b)) x y:=fun x y hn=>by
  have e:∀q∈a++b,iN (x - 1) y q=iN x y q:=fun q hq=>FT fun hc=>hn (List.mem_flatMap.2 ⟨q,hq,by simp;exact hc⟩)
  rw[c2,c2,a2,a2,b2,b2,ot (l:=a) fun q hq=>e q (List.mem_append_left _ hq),ot (l:=b) fun q hq=>e q (List.mem_append_right _ hq)]
 have hy:∀x y,¬y∈MO (a++b)->at' (cv (a_ a) (a_ b)) x (y - 1)=at' (cv (a_ a) (a_ b)) x y:=fun x y hn=>by
  have e:∀q∈a++b,iN x (y - 1) q=iN x y q:=fun q hq=>FU fun hc=>hn (List.mem_flatMap.2 ⟨q,hq,by simp;exact hc⟩)
  rw[c2,c2,a2,a2,b2,b2,ot (l:=a) fun q hq=>e q (List.mem_append_left _ hq),ot (l:=b) fun q hq=>e q (List.mem_append_right _ hq)]
 have:=Kc c1 hx hy
 rw[Ev,Ew,List.length_append] at this
 exact this
def beside (x y:aB):Bool:=((decide (x.x0 < y.x1) && decide (y.x0 < x.x1)) && (decide (x.y1=y.y0) || decide (y.y1=x.y0))) || ((decide (x.y0 < y.y1) && decide (y.y0 < x.y1)) && (decide (x.x1=y.x0) || decide (y.x1=x.x0)))
def eT (bs:List eX) (layer:Int):List aB:=(bs.filter fun b=>through b layer).map aQ
def dS (bs:List eX) (layer:Int) (r:List aB):List ax:=cv (a_ r) (a_ (eT bs layer))
def il (bs:List eX):Int->List (List aB)->List (List ax)
 | _,[]=>[]
 | k,r::l=>dS bs k r::il bs (k+1) l
def cE (bs:List eX):Int->List (List aB)->List Piece
 | _,[]=>[]
 | k,r::l=>(eP (dS bs k r)).map (⟨k,·⟩)++cE bs (k+1) l
def vA (bs:List eX):Int->List (List aB)->Bool
 | _,[]=>true
 | k,r::l=>decide ((told (dS bs k r)).length<=2000) && vA bs (k+1) l
def iU (a:Wt):Bool:=vA a.bores 0 a.coppers && decide ((cE a.bores 0 a.coppers).length<=2000)
def ou (b:eX) (p:Piece):Bool:=(b.plated && through b p.layer) && (told p.set).any fun r=>beside r (aQ b)
def WC (b:eX):Nat->List Piece->List Int
 | _,[]=>[]
 | k,p::l=>if ou b p=true then (k:Int)::WC b (k+1) l else WC b (k+1) l
def cI (bs:List eX) (ps:List Piece):List (List Int):=bs.map fun b=>WC b 0 ps
theorem FW (s:List ax):(eP s).length<=(told s).length:=by
 rw[eP,Xb,List.length_map,List.length_map,l6]
 exact om _ _
theorem ss {l:List aB} {m:Nat} (h:m < l.length):l.getD m gQ∈l:=by
 rw[List.getD_eq_getElem?_getD,List.getElem?_eq_getElem h]
 exact List.getElem_mem h
theorem oT {s:List ax} {l:List aB} (h:l∈Xb s):l≠[]/\∀r∈l,r∈told s:=by
 obtain⟨u1,u2⟩:=By s
 have hT:=tV u1
 obtain⟨ms,NM,rfl⟩:=List.mem_map.1 h
 obtain⟨r,hr,rfl⟩:=List.mem_map.1 NM
 obtain⟨h1,h2⟩:=mem_keys.1 hr
 refine⟨fun e=>?_,fun q hq=>?_⟩
 ·have:r∈fR (dR (oo s)) (told s).length r:=fD.2 ⟨h1,h2⟩
  rw[List.map_eq_nil_iff] at e
  rw[e] at this
  cases this
 obtain⟨m,hm,rfl⟩:=List.mem_map.1 hq
 exact ss (fD.1 hm).1
theorem su {s p:List ax} (h:ct s) (hp:p∈eP s):ct p/\p≠[]/\(∀x y,at' p x y=true->at' s x y=true)/\∀K,cQ K s->cQ K p:=by
 obtain⟨l,hl,rfl⟩:=List.mem_map.1 hp
 obtain⟨h1,h2⟩:=oT hl
 obtain⟨b1,b2,b3⟩:=eA fun r hr=>dK h r (h2 r hr)
 have sub:∀x y,at' (a_ l) x y=true->at' s x y=true:=fun x y I5=>by
  rw[b2,List.any_eq_true] at I5
  obtain⟨q,hq,hh⟩:=I5
  rw[<-lV h,List.any_eq_true]
  exact⟨q,h2 q hq,hh⟩
 refine⟨b1,fun e=>?_,sub,fun K hK=>b3 K fun r hr=>kN h hK r (h2 r hr)⟩
 obtain⟨q,hq⟩:=List.exists_mem_of_ne_nil _ h1
 have hf:=dK h q (h2 q hq)
 have:at' (a_ l) q.x0 q.y0=true:=by
  rw[b2,List.any_eq_true]
  exact⟨q,hq,cz.2 ⟨Int.le_refl _,hf.1,Int.le_refl _,hf.2⟩⟩
 rw[e] at this
 cases this
end Reg
end Go.Proofs.YtpbkimanfahbgaaGreatDoor
namespace Go.AM
theorem aW.tn {A:cV} (hC:bV A.C) (s:AS) (id j:Nat) (cs:List AV) (hb:s.h id=.box cs) (hn:cs[j]?=some (.p (.im (.slice none 0 0)))):aW A s ⟨s.t,br s.h id (.box (cs.set j .nl))⟩:=by
 intro S rho a w sim
 refine⟨S,rho,sim.write hC id trivial (by rw[hb];trivial) _ (fun _ h=>by cases h) w rfl rfl rfl rfl (fun _ _=>rfl) fun T=>?_⟩
 have hh:=sim.hp id trivial
 rw[hb] at hh
 obtain⟨g,ty,c,k1,k2,k3,k4⟩:=hh
 refine⟨g,ty,c,k1,k2,by rw[k3,List.length_set],fun q x u hi hu=>?_⟩
 by_cases ei:q=j
 ·subst ei
  rw[List.getElem?_set_self (aP hn)] at hi
  injection hi with hi
  subst hi
  obtain⟨k5,k6⟩:=k4 q _ u hn hu
  refine⟨k5,?_⟩
  have k7:bu S w (.im (.slice none 0 0)) u:=by cases k6;assumption
  exact (tG k7).gi T
 rw[List.getElem?_set_ne (fun e=>ei e.symm)] at hi
 obtain⟨k5,k6⟩:=k4 q x u hi hu
 exact⟨k5,k6.gi T⟩
end Go.AM
namespace Go.Proofs.YtpbkimanfahbgaaGreatDoor
namespace M
open Go.AM Go.RowKit Go.Lib
open Reg (aB beside aQ eX through cx ax bC)
theorem wO (x y:aB):aD C 120 [.pv (.ag (rc x)),.pv (.ag (rc y))] (.p (bool (beside x y))) []:=by
 refine aT hC Tryz.func120 rfl rfl 63 rfl (by decide) (by kernel_rfl) fun _ _ _ _ _=>?_
 ((refine yS<|yn Z<|aA zI<|aS<|ak<|yn Z<|aA zI<|aS<|ak<|yA Z<|yU<|yV Z<|yP Z<|yV Z ?_;refine yP Z<|yP Z<|yP Z<|yg Z ?_);refine aa (fun a=>?_) (fun a=>?_) <;> try simp only[zB] at a)
 ·((refine bS<|bA Z Z<|aA zI<|bd<|ak<|y1 Z<|y2 Z<|bA Z Z<|aA zI<|bd<|ak<|y1 Z<|y1 Z<|yP Z ?_;refine yA Z<|yU<|yV Z<|yP Z<|yV Z<|yP Z<|yP Z<|yP Z<|yg Z ?_);refine aa (fun c=>?_) (fun c=>?_) <;> try simp only[zB] at c)
  ·((refine bS<|bA Z Z<|aA zI<|bd<|ak<|y1 Z<|y2 Z<|bA Z Z<|aA zI<|bd<|ak<|y1 Z<|y1 Z<|yP Z ?_;refine yA Z<|yU<|yP Z<|yP Z<|yg Z ?_);refine aa (fun b=>?_) (fun b=>?_) <;> try simp only[zB] at b)
   ·((refine bS<|bA Z Z<|aA zI<|bd<|ak<|y1 Z<|y2 Z<|bA Z Z<|aA zI<|bd<|ak<|y1 Z<|y1 Z<|y1 Z ?_;refine yg Z ?_);refine aa (fun e=>?_) (fun e=>?_) <;> try simp only[zB] at e)
    ·((refine cB<|ae<|y0 Z<|y0 Z<|y0 Z<|y0 Z<|y1 Z<|yP Z<|yP Z<|y0 Z<|y0 Z<|a8 Z Z Z Z<|ae<|a8 Z Z Z Z ?_;refine ae<|a8 Z Z Z Z<|ae<|a8 Z Z Z Z<|ae<|a8 Z Z Z Z<|ae<|a8 Z Z Z Z<|ae<|a8 Z Z Z Z<|ae<|a8 Z Z Z Z<|ae<|a8 Z Z Z Z ?_;refine ae<|a8 Z Z Z Z<|ae<|a8 Z Z Z Z<|ae<|a8 Z Z Z Z<|ae<|y0 Z<|yP Z<|yA Z<|yR zi ?_);refine And.intro ?_ trivial)
     simp[bool,beside,a,c,b,e]
    ((refine bS<|bA Z Z<|aA zI<|bd<|ak<|y1 Z<|y2 Z<|bA Z Z<|aA zI<|bd<|ak<|y1 Z<|y1 Z<|y1 Z ?_;refine yP Z<|yP Z<|yg Z ?_);refine aa (fun f=>?_) (fun f=>?_) <;> try simp only[zB] at f)
    ·((refine cB<|ae<|y0 Z<|a8 Z Z Z Z<|ae<|a8 Z Z Z Z<|ae<|a8 Z Z Z Z<|ae<|a8 Z Z Z Z<|ae<|a8 Z Z Z Z<|ae<|a8 Z Z Z Z ?_;refine ae<|a8 Z Z Z Z<|ae<|a8 Z Z Z Z<|ae<|a8 Z Z Z Z<|ae<|a8 Z Z Z Z<|ae<|a8 Z Z Z Z<|ae<|a8 Z Z Z Z<|ae<|y0 Z ?_;refine yP Z<|yA Z<|yR zi ?_);refine And.intro ?_ trivial)
     simp[bool,beside,a,c,b,e,f]
    (refine bS<|bA Z Z<|aA zI<|yk<|y1 Z<|yg Z ?_;refine aa (fun d=>?_) (fun d=>?_) <;> try simp only[zB] at d)
    ·((refine bS<|bA Z Z<|aA zI<|bd<|ak<|y1 Z<|y2 Z<|bA Z Z<|aA zI<|bd<|ak<|y1 Z<|y1 Z<|y1 Z ?_;refine yg Z ?_);refine aa (fun g=>?_) (fun g=>?_) <;> try simp only[zB] at g)
     ·(refine cB<|ae<|y0 Z<|y0 Z<|y0 Z<|y0 Z<|y1 Z<|y1 Z<|yP Z<|yA Z<|yR zi ?_;refine And.intro ?_ trivial)
      simp[bool,beside,a,c,b,e,f,d,g]
     ((refine bS<|bA Z Z<|aA zI<|bd<|ak<|y1 Z<|y2 Z<|bA Z Z<|aA zI<|bd<|ak<|y1 Z<|y1 Z<|y1 Z ?_;refine y1 Z<|yP Z<|yA Z<|yR zi ?_);refine And.intro ?_ trivial)
     simp[bool,beside,a,c,b,e,f,d,g]
    ((refine cB<|ae<|y0 Z<|y0 Z<|y0 Z<|y0 Z<|y0 Z<|a8 Z Z Z Z<|ae<|a8 Z Z Z Z<|ae<|a8 Z Z Z Z<|ae<|a8 Z Z Z Z ?_;refine ae<|a8 Z Z Z Z<|ae<|y0 Z<|y1 Z<|yP Z<|yA Z<|yR zi ?_);refine And.intro ?_ trivial)
    simp[bool,beside,a,c,b,e,f,d]
   ((refine cB<|ae<|y0 Z<|y0 Z<|y0 Z<|y0 Z<|y0 Z<|a8 Z Z Z Z<|ae<|a8 Z Z Z Z<|ae<|a8 Z Z Z Z<|ae<|a8 Z Z Z Z ?_;refine ae<|a8 Z Z Z Z<|ae<|y0 Z<|yP Z<|yP Z<|y1 Z<|y1 Z<|yg Z ?_);refine aa (fun d=>?_) (fun d=>?_) <;> try simp only[zB] at d)
   ·((refine bS<|bA Z Z<|aA zI<|bd<|ak<|y1 Z<|y2 Z<|bA Z Z<|aA zI<|bd<|ak<|y1 Z<|y1 Z<|y1 Z ?_;refine yg Z ?_);refine aa (fun g=>?_) (fun g=>?_) <;> try simp only[zB] at g)
    ·(refine cB<|ae<|y0 Z<|y0 Z<|y0 Z<|y0 Z<|y1 Z<|y1 Z<|yP Z<|yA Z<|yR zi ?_;refine And.intro ?_ trivial)
     simp[bool,beside,a,c,b,d,g]
    ((refine bS<|bA Z Z<|aA zI<|bd<|ak<|y1 Z<|y2 Z<|bA Z Z<|aA zI<|bd<|ak<|y1 Z<|y1 Z<|y1 Z ?_;refine y1 Z<|yP Z<|yA Z<|yR zi ?_);refine And.intro ?_ trivial)
    simp[bool,beside,a,c,b,d,g]
   ((refine cB<|ae<|y0 Z<|y0 Z<|y0 Z<|y0 Z<|y0 Z<|a8 Z Z Z Z<|ae<|a8 Z Z Z Z<|ae<|a8 Z Z Z Z<|ae<|a8 Z Z Z Z ?_;refine ae<|a8 Z Z Z Z<|ae<|y0 Z<|y1 Z<|yP Z<|yA Z<|yR zi ?_);refine And.intro ?_ trivial)
   simp[bool,beside,a,c,b,d]
  (refine cB<|ae<|y0 Z<|y0 Z<|y0 Z<|y0 Z<|yP Z<|yA Z<|yU<|yP Z<|yP Z<|yg Z ?_;refine aa (fun b=>?_) (fun b=>?_) <;> try simp only[zB] at b)
  ·((refine bS<|bA Z Z<|aA zI<|bd<|ak<|y1 Z<|y2 Z<|bA Z Z<|aA zI<|bd<|ak<|y1 Z<|y1 Z<|y1 Z ?_;refine yg Z ?_);refine aa (fun e=>?_) (fun e=>?_) <;> try simp only[zB] at e)
   ·((refine cB<|ae<|y0 Z<|y0 Z<|y0 Z<|y0 Z<|y1 Z<|yP Z<|yP Z<|y0 Z<|y0 Z<|a8 Z Z Z Z<|ae<|a8 Z Z Z Z ?_;refine ae<|a8 Z Z Z Z<|ae<|a8 Z Z Z Z<|ae<|a8 Z Z Z Z<|ae<|a8 Z Z Z Z<|ae<|a8 Z Z Z Z<|ae<|a8 Z Z Z Z<|ae<|a8 Z Z Z Z ?_;refine ae<|a8 Z Z Z Z<|ae<|a8 Z Z Z Z<|ae<|a8 Z Z Z Z<|ae<|y0 Z<|yP Z<|yA Z<|yR zi ?_);refine And.intro ?_ trivial)
    simp[bool,beside,a,c,b,e]
   ((refine bS<|bA Z Z<|aA zI<|bd<|ak<|y1 Z<|y2 Z<|bA Z Z<|aA zI<|bd<|ak<|y1 Z<|y1 Z<|y1 Z ?_;refine yP Z<|yP Z<|yg Z ?_);refine aa (fun f=>?_) (fun f=>?_) <;> try simp only[zB] at f)
   ·((refine cB<|ae<|y0 Z<|a8 Z Z Z Z<|ae<|a8 Z Z Z Z<|ae<|a8 Z Z Z Z<|ae<|a8 Z Z Z Z<|ae<|a8 Z Z Z Z<|ae<|a8 Z Z Z Z ?_;refine ae<|a8 Z Z Z Z<|ae<|a8 Z Z Z Z<|ae<|a8 Z Z Z Z<|ae<|a8 Z Z Z Z<|ae<|a8 Z Z Z Z<|ae<|a8 Z Z Z Z<|ae<|y0 Z ?_;refine yP Z<|yA Z<|yR zi ?_);refine And.intro ?_ trivial)
    simp[bool,beside,a,c,b,e,f]
   ((refine bS<|bA Z Z<|aA zI<|yk<|y1 Z<|y0 Z<|y0 Z<|y0 Z<|y0 Z<|y0 Z<|y0 Z<|a8 Z Z Z Z<|ae<|a8 Z Z Z Z ?_;refine ae<|a8 Z Z Z Z<|ae<|a8 Z Z Z Z<|ae<|a8 Z Z Z Z<|ae<|y0 Z<|y1 Z<|yP Z<|yA Z<|yR zi ?_);refine And.intro ?_ trivial)
   simp[bool,beside,a,c,b,e,f]
  ((refine cB<|ae<|y0 Z<|y0 Z<|y0 Z<|y0 Z<|y0 Z<|a8 Z Z Z Z<|ae<|a8 Z Z Z Z<|ae<|a8 Z Z Z Z<|ae<|a8 Z Z Z Z ?_;refine ae<|a8 Z Z Z Z<|ae<|y0 Z<|yP Z<|yP Z<|y1 Z<|y1 Z<|y0 Z<|y0 Z<|y0 Z<|y0 Z<|y0 Z<|y0 Z ?_;refine a8 Z Z Z Z<|ae<|a8 Z Z Z Z<|ae<|a8 Z Z Z Z<|ae<|a8 Z Z Z Z<|ae<|a8 Z Z Z Z<|ae<|y0 Z<|y1 Z<|yP Z<|yA Z ?_;refine yR zi ?_);refine And.intro ?_ trivial)
  simp[bool,beside,a,c,b]
 ((refine cB<|ae<|y0 Z<|y0 Z<|y0 Z<|y0 Z<|yP Z<|yA Z<|yU<|yV Z<|yP Z<|yV Z<|yP Z<|yP Z ?_;refine yP Z<|yg Z ?_);refine aa (fun c=>?_) (fun c=>?_) <;> try simp only[zB] at c)
 ·((refine bS<|bA Z Z<|aA zI<|bd<|ak<|y1 Z<|y2 Z<|bA Z Z<|aA zI<|bd<|ak<|y1 Z<|y1 Z<|yP Z ?_;refine yA Z<|yU<|yP Z<|yP Z<|y0 Z<|y0 Z<|y0 Z<|y0 Z<|y0 Z<|y0 Z<|a8 Z Z Z Z<|ae<|a8 Z Z Z Z<|ae ?_;refine a8 Z Z Z Z<|ae<|a8 Z Z Z Z<|ae<|a8 Z Z Z Z<|ae<|y0 Z<|yP Z<|yP Z<|y1 Z<|y1 Z<|yg Z ?_);refine aa (fun d=>?_) (fun d=>?_) <;> try simp only[zB] at d)
  ·((refine bS<|bA Z Z<|aA zI<|bd<|ak<|y1 Z<|y2 Z<|bA Z Z<|aA zI<|bd<|ak<|y1 Z<|y1 Z<|y1 Z ?_;refine yg Z ?_);refine aa (fun g=>?_) (fun g=>?_) <;> try simp only[zB] at g)
   ·(refine cB<|ae<|y0 Z<|y0 Z<|y0 Z<|y0 Z<|y1 Z<|y1 Z<|yP Z<|yA Z<|yR zi ?_;refine And.intro ?_ trivial)
    simp[bool,beside,a,c,d,g]
   ((refine bS<|bA Z Z<|aA zI<|bd<|ak<|y1 Z<|y2 Z<|bA Z Z<|aA zI<|bd<|ak<|y1 Z<|y1 Z<|y1 Z ?_;refine y1 Z<|yP Z<|yA Z<|yR zi ?_);refine And.intro ?_ trivial)
   simp[bool,beside,a,c,d,g]
  ((refine cB<|ae<|y0 Z<|y0 Z<|y0 Z<|y0 Z<|y0 Z<|a8 Z Z Z Z<|ae<|a8 Z Z Z Z<|ae<|a8 Z Z Z Z<|ae<|a8 Z Z Z Z ?_;refine ae<|a8 Z Z Z Z<|ae<|y0 Z<|y1 Z<|yP Z<|yA Z<|yR zi ?_);refine And.intro ?_ trivial)
  simp[bool,beside,a,c,d]
 ((refine cB<|ae<|y0 Z<|y0 Z<|y0 Z<|y0 Z<|yP Z<|yA Z<|yU<|yP Z<|yP Z<|y0 Z<|y0 Z<|y0 Z ?_;refine y0 Z<|y0 Z<|y0 Z<|a8 Z Z Z Z<|ae<|a8 Z Z Z Z<|ae<|a8 Z Z Z Z<|ae<|a8 Z Z Z Z<|ae<|a8 Z Z Z Z<|ae<|y0 Z ?_;refine yP Z<|yP Z<|y1 Z<|y1 Z<|y0 Z<|y0 Z<|y0 Z<|y0 Z<|y0 Z<|y0 Z<|a8 Z Z Z Z<|ae<|a8 Z Z Z Z<|ae ?_;refine a8 Z Z Z Z<|ae<|a8 Z Z Z Z<|ae<|a8 Z Z Z Z<|ae<|y0 Z<|y1 Z<|yP Z<|yA Z<|yR zi ?_);refine And.intro ?_ trivial)
 simp[bool,beside,a,c]
theorem Ke (r:aB) (b:eX) (h:cx b=true):aD C 119 [.pv (.ag (rc r)),.pv (.ip (bc b))] (.p (bool (beside r (aQ b)))) []:=by
 refine aT hC Tryz.func119 rfl rfl 8 rfl (by decide) (by kernel_rfl) fun _ _ _ _ _=>?_
 ((refine yS<|yn Z<|aA zI<|aS<|ak<|yA Z<|yT<|au<|cH [] false Uy rfl (by kernel_rfl)<|ay Z<|ay Z<|cA Z Z<|cA Z Z<|cG Z ?_;refine yD Z<|yD Z<|dq Z<|aK zI ?_);refine⟨_,_,(dv b h),?_⟩)
 (refine bB<|ae<|dq Z<|aK zI ?_;refine⟨_,_,(wO r (aQ b)),?_⟩)
 (refine bB<|ae<|yD Z<|cn<|aq Z<|aq Z<|aq Z<|aq Z<|dW Z Z<|bz Z<|aj<|bP<|bQ zi ?_;refine And.intro ?_ trivial)
 rfl
theorem zv (l:List ax) (hN:l.length<=1000000000000) (hX:∀t∈l,t.xs.length<=1000000000000) (hT:(Reg.told l).length<=4398046511104):aD C 58 [.pv (.sl (l.map hb))] (.p (aV (Reg.told l))) []:=by
 refine aT hC Tryz.func58 rfl rfl 41 rfl (by decide) (by kernel_rfl) fun _ _ _ _ _=>?_
 have lm:=aN l hb
 have tl:∀i,(Reg.told (l.take i)).length<=(Reg.told l).length:=fun i=>by
  have e:Reg.told l=Reg.told (l.take i)++Reg.told (l.drop i):=by
   unfold Reg.told
   rw[<-List.flatMap_append,List.take_append_drop]
  rw[e,List.length_append]
  omega
 refine yS<|yB Z<|yU<|yB Z<|yT<|au<|yS<|yP Z<|yP Z<|yP Z<|yT<|aZ ?_
 refine aI (fun i:Nat=>i<=l.length) (fun i=>[(7,.p (.sl (l.map hb))),(8,.p (i64 (l.map hb).length)),(3,.ow 3),(9,.p (i64 i))]) (fun i=>[(3,.row 56 ((Reg.told (l.take i)).map rc))]) (fun i=>l.length - i) 0 _ (aW.fa hC _ 3 56 _ (by decide) rfl rfl (by decide)) (Nat.zero_le _) ⟨Z,Z,Z,Z,Y⟩ ⟨Z,Y⟩ fun i hi t h=>?_
 (refine yS<|yP Z<|yT<|au<|az Z ?_;refine aa (fun h1=>?_) (fun h1=>?_) <;> try simp only[zB] at h1)
 ·rw[lm] at h1
  obtain⟨b,tM⟩:=bh (l:=l) (i:=i) (by omega)
  have bm:=aN (flat b.xs) fun n=>[i64 n]
  have fl:=eG b.xs
  have hb':=hX b (List.mem_of_getElem? tM)
  have ht:=tl (i+1)
  rw[lN tM,List.length_append,List.length_map] at ht
  (refine aJ<|aj<|au<|aZ<|yS<|yq Z<|aK zI ?_;refine⟨(hb b),(idx rfl tM),?_⟩)
  (refine yk<|yP Z<|yn Z<|aA zI<|aS<|ak<|yq Z<|aA zI<|bd<|aF<|an<|yU<|yA Z<|yT ?_;refine aZ ?_)
  refine nj (fun _:Unit=>True) (fun _=>[(7,.p (.sl (l.map hb))),(8,.p (i64 (l.map hb).length)),(3,.ow 3),(9,.p (i64 i))]) (fun _=>[(3,.row 56 ((Reg.told (l.take (i+1))).map rc))]) (fun _ _ t h=>?_) ?_
  ·(refine bp<|aj<|aM<|yq Z<|bg zI ?_;refine sI ?_)
   (refine yk<|yP Z<|yT<|ai ?_;refine⟨(i+1),_,aW.refl _ _,?_⟩)
   exact⟨by omega,by omega,⟨Z,Z,Z,Z,Y⟩,⟨Z,Y⟩⟩
  refine aI (fun k:Nat=>k<=b.xs.length) (fun k=>[(7,.p (.sl (l.map hb))),(8,.p (i64 (l.map hb).length)),(3,.ow 3),(9,.p (i64 i)),(5,.bx 5 0),(6,.p (i64 ((2*k:Nat):Int)))]) (fun k=>[(3,.row 56 ((Reg.told (l.take i)++kF b k).map rc)),(5,.box [.p (i64 b.y0),.p (i64 b.y1),.p (ints (flat b.xs))])]) (fun k=>b.xs.length - k) 0 _ (aW.refl _ _) (Nat.zero_le _) ⟨Z,Z,Z,Z,Z,Z,Y⟩ ⟨by rw[kF];simp;rfl,Z,Y⟩ fun k hk t h=>?_
  have JM:(kF b k).length<=k:=by simp[kF];omega
  (refine au<|yS<|yP Z<|yV Z<|yP Z<|yP Z<|yP Z<|yT<|az Z ?_;refine aa (fun h2=>?_) (fun h2=>?_) <;> try simp only[zB] at h2)
  ·rw[bm,fl] at h2
   obtain⟨p,hp⟩:=bh (l:=b.xs) (i:=k) (by omega)
   obtain⟨g1,g2⟩:=AK hp
   ((refine aJ<|aj<|au<|aZ<|cH [] true HG rfl (by kernel_rfl)<|ay Z<|ay Z<|ay Z<|ay Z<|ay Z<|ay Z<|ay Z<|ay Z<|ay Z ?_;refine ay Z<|ay Z<|ay Z<|ay Z<|ay Z<|ay Z<|ay Z<|ay Z<|cA Z Z<|cA Z Z<|cG Z<|dq Z<|aA zI<|bB ?_;refine af<|yW Z<|yD Z<|yD Z<|dq Z<|aK zI ?_);refine⟨[i64 p.1],(idx rfl g1),?_⟩)
   (refine bB<|ae<|yD Z<|yW Z<|yD Z<|yW Z<|yD Z<|yD Z<|dq Z<|bg zI ?_;refine sI ?_)
   (refine bB<|ae<|dq Z<|aK zI ?_;refine⟨[i64 p.2],(idx (by omega) g2),?_⟩)
   (refine bB<|ae<|yD Z<|yW Z<|yD Z<|yD Z<|dq Z<|aA zI<|jA Z Z<|af<|dq Z<|bg zI ?_;refine And.intro ⟨yH rfl,by simp;omega,by simp;omega⟩ ?_)
   ((refine hD Z Z Z<|fM<|g_<|af<|dq Z<|aA zI<|bB<|af<|cn<|aq Z<|aq Z<|aq Z<|aq Z<|aq Z ?_;refine aq Z<|aq Z<|aq Z<|aq Z<|aq Z<|aq Z<|aq Z<|aq Z<|aq Z<|aq Z<|aq Z<|aq Z<|aq Z<|aq Z ?_;refine Fp Z Z Z Z Z<|bz Z<|bp<|aj<|aM<|yP Z<|yq Z<|bg zI ?_);refine sI ?_)
   (refine yk<|yA Z<|yT<|ai ?_;refine⟨(k+1),_,aW.refl _ _,?_⟩)
   refine⟨by omega,by omega,⟨rfl,rfl,rfl,rfl,rfl,cd (by omega),trivial⟩,⟨?_,Z,Y⟩⟩
   have hc:kF b (k+1)=kF b k++[⟨p.1,b.y0,p.2,b.y1⟩]:=by simp[kF,cw hp]
   have e:(Reg.told (l.take i)++kF b k).map rc++[rc ⟨p.1,b.y0,p.2,b.y1⟩]=(Reg.told (l.take i)++kF b (k+1)).map rc:=by
    rw[hc,<-List.append_assoc,List.map_append (l₂:=[_])]
    rfl
   exact congrArg (AB.row 56) e
  rw[bm,fl] at h2
  refine bT<|aY<|aY<|bU<|aj<|ai<|zX zi ?_
  refine⟨(),trivial,⟨Z,Z,Z,Z,Y⟩,⟨?_,trivial⟩⟩
  rw[lN tM]
  have:kF b k=b.xs.map fun p=>⟨p.1,b.y0,p.2,b.y1⟩:=by rw[kF,List.take_of_length_le (by omega)]
  rw[<-this]
  rfl
 rw[lm] at h1
 refine bT<|aY<|aY<|bU<|aj<|yS<|yq Z<|aA zI<|bd<|af<|cD Z<|cr Z Z Z Z Z<|yR zi ?_
 rw[List.take_of_length_le (by omega)]
 exact⟨Z,Y⟩
def R4 (b:eX) (r:aB):Bool:=beside r (aQ b)
theorem BA (l:List aB) (hN:l.length<=140737488355328) (b:eX) (hb':cx b=true):aD C 129 [.pv (aV l),.pv (.fn 119 [.ip (bc b)])] (.p (i64 (hY (R4 b) l 0))) []:=by
 refine aT hC Tryz.func129 rfl rfl 19 rfl (by decide) (by kernel_rfl) fun _ _ _ _ _=>?_
 have lm:=aN l rc
 refine yS<|yA Z<|yT<|au<|yS<|yP Z<|yP Z<|yP Z<|yT<|aZ ?_
 refine aI (fun i:Nat=>i<=l.length/\∀z∈l.take i,R4 b z=false) (fun i=>[(0,.p (aV l)),(1,.p (.fn 119 [.ip (bc b)])),(7,.p (i64 (l.map rc).length)),(8,.p (i64 i))]) (fun _=>[]) (fun i=>l.length - i) 0 _ (aW.refl _ _) ⟨Nat.zero_le _,by simp⟩ ⟨Z,Z,Z,Z,Y⟩ trivial fun i hi t h=>?_
 (refine yS<|yP Z<|yT<|au<|az Z ?_;refine aa (fun h1=>?_) (fun h1=>?_) <;> try simp only[zB] at h1)
 ·rw[lm] at h1
  obtain⟨r,hr⟩:=bh (l:=l) (i:=i) (by omega)
  (refine aJ<|aj<|au<|aZ<|yS<|yP Z<|yA Z<|yU<|yP Z<|yP Z<|yP Z<|yq Z<|aK zI ?_;refine⟨(rc r),(idx rfl hr),?_⟩)
  (refine yk<|yP Z<|yn Z<|aK zI ?_;refine⟨_,_,(Ke r b hb'),?_⟩)
  (refine b9 Z Z<|ae<|yT<|az Z ?_;refine aa (fun h2=>?_) (fun h2=>?_) <;> try simp only[zB] at h2)
  ·(refine yS<|yP Z<|yA Z<|yT<|bP<|bW<|aX<|aX<|bW<|aX<|bQ zi ?_;refine And.intro ?_ trivial)
   rw[iJ hr h2 hi.2,Nat.zero_add]
  (refine aJ<|bp<|aj<|aM<|yq Z<|bg zI ?_;refine sI ?_)
  (refine yk<|yP Z<|yT<|ai ?_;refine⟨(i+1),_,aW.refl _ _,?_⟩)
  exact⟨⟨by omega,oM hr h2 hi.2⟩,by omega,⟨Z,Z,Z,Z,Y⟩,trivial⟩
 rw[lm] at h1
 (refine bT<|aY<|aY<|bU<|aj<|yS<|yA Z<|yR zi ?_;refine And.intro ?_ trivial)
 have h2:=hi.2
 rw[List.take_of_length_le (by omega)] at h2
 rw[fN h2]
 rfl
theorem vB (l:List aB) (hN:l.length<=140737488355328) (b:eX) (hb':cx b=true):aD C 118 [.pv (aV l),.pv (.fn 119 [.ip (bc b)])] (.p (bool (l.any (R4 b)))) []:=by
 refine aT hC Tryz.func118 rfl rfl 9 rfl (by decide) (by kernel_rfl) fun _ _ _ _ _=>?_
 (refine yS<|yA Z<|yU<|yP Z<|yP Z<|yn Z<|aK zI ?_;refine⟨_,_,(BA l hN b hb'),?_⟩)
 (refine b9 Z Z<|ae<|yP Z<|yA Z<|yR zi ?_;refine And.intro ?_ trivial)
 rw[<-j_ _ l 0]
 rfl
open Reg (Wt Piece ct cQ Full RK told a_ cv eP ed qQ eT dS il cE vA iU)
def gw (p:Piece):List PV:=[i64 p.layer,aG p.set,aV (told p.set)]
structure jG (a:Wt):Prop where
 cop:0 < a.coppers.length/\a.coppers.length<=16
 reg:∀r∈a.coppers,Reg.aH r=0
 out:Reg.aH a.outline=0
 few:a.bores.length<=500
 bor:∀b∈a.bores,qQ a.coppers.length b
 lan:a.lands.length<=1000
theorem oU {n:Int} {b:eX} (h:qQ n b):cx b=true:=by
 have:=h.ok
 simp only[ed,Bool.and_eq_true] at this
 exact this.1
structure O2 (s:List ax):Prop where
 sok:ct s
 ink:cQ 1000000 s
 few:(told s).length<=25000000
theorem pY {bs:List eX} (hb':∀b∈bs,cx b=true) (hn:bs.length<=500) (k:Int) {r:List aB} (hr:Reg.aH r=0):O2 (dS bs k r):=by
 have h:=mQ hr
 have hf:∀q∈eT bs k,Full q:=fun q hq=>by
  obtain⟨b,hb,rfl⟩:=List.mem_map.1 hq
  exact Reg.eZ (hb' b (List.mem_filter.1 hb).1)
 have hl:(eT bs k).length<=500:=by
  rw[eT,List.length_map]
  exact Nat.le_trans (List.length_filter_le _ _) hn
 obtain⟨b1,b2,b3⟩:=Reg.eA hf
 obtain⟨c1,c2,_⟩:=Reg.dZ h.sok b1
 refine⟨c1,qN h.sok b1 h.ink,Nat.le_trans (Reg.FV h.full hf) ?_⟩
 have:2*(r.length+(eT bs k).length)<=5000:=by have:=h.len;omega
 exact Nat.mul_le_mul this this
theorem zw (a:Wt) (ha:jG a):aD C 70 [.bb [.p (.sl (a.coppers.map rr)),.p (aV a.outline),.p (.sl (a.bores.map bc)),.p (.sl (a.lands.map lc)),.row 81 [],.row 97 [],.row 44 [],.row 47 [],.row 3 [],.row 3 [],.row 3 [],.row 189 []]] (.p (bool (iU a))) [.bb [.p (.sl (a.coppers.map rr)),.p (aV a.outline),.p (.sl (a.bores.map bc)),.p (.sl (a.lands.map lc)),.row 81 ((il a.bores 0 a.coppers).map fun s=>[aG s]),.row 97 ((cE a.bores 0 a.coppers).map gw),.row 44 [],.row 47 [],.row 3 [],.row 3 [],.row 3 [],.row 189 []]]:=by
 have lk:=aN a.coppers rr
 have lb:=aN a.bores bc
 have hb':∀b∈a.bores,cx b=true:=fun b h=>oU (ha.bor b h)
 have tD:=ha.few
 have R3:=ha.cop
 obtain⟨DD,Ts⟩:∃DD,DD=il a.bores 0 a.coppers:=⟨_,rfl⟩
 obtain⟨PP,R5⟩:∃PP,PP=cE a.bores 0 a.coppers:=⟨_,rfl⟩
 obtain⟨OK,Tt⟩:∃OK,OK=vA a.bores 0 a.coppers:=⟨_,rfl⟩
 have hres:iU a=(OK && decide (PP.length<=2000)):=by rw[iU,Tt,R5]
 rw[hres,<-Ts,<-R5]
 refine qy hC Tryz.func70 rfl rfl 95 rfl (by decide) (by kernel_rfl) fun _ _ _ _ _=>⟨_,aW.open hC _ 100000 [90000,90001,90002,90003,90004,90005,90006,90007] (by exact rfl) rfl rfl rfl,?_⟩
 (refine yS<|yA Z<|yU<|yA Z<|yT<|au<|yS<|yq Z<|aA zI<|bd<|ak<|yV Z<|yV Z<|yV Z ?_;refine yP Z<|yP Z<|yP Z<|yT<|aZ ?_)
 refine aI (fun x:Nat×Bool×List (List ax)×List Piece=>x.2.2.1++il a.bores x.1 (a.coppers.drop x.1)=DD/\x.2.2.2++cE a.bores x.1 (a.coppers.drop x.1)=PP/\(x.2.1 && vA a.bores x.1 (a.coppers.drop x.1))=OK/\x.2.2.1.length<=x.1/\x.2.2.2.length<=25000000*x.1/\x.1<=a.coppers.length) (fun x=>[(0,.bx 100000 0),(3,.p (bool x.2.1)),(16,.p (.sl (a.coppers.map rr))),(17,.p (i64 a.coppers.length)),(18,.p (i64 x.1))]) (fun x=>[(100000,.box [.p (.sl (a.coppers.map rr)),.p (aV a.outline),.p (.sl (a.bores.map bc)),.p (.sl (a.lands.map lc)),.ow 90000,.ow 90001,.ow 90002,.ow 90003,.ow 90004,.ow 90005,.ow 90006,.ow 90007]),(90000,.row 81 (x.2.2.1.map fun s=>[aG s])),(90001,.row 97 (x.2.2.2.map gw)),(90002,.row 44 []),(90003,.row 47 []),(90004,.row 3 []),(90005,.row 3 []),(90006,.row 3 []),(90007,.row 189 [])]) (fun x=>a.coppers.length - x.1) (0,true,[],[]) _ (aW.refl _ _) ⟨Ts.symm,R5.symm,by rw[Tt];rfl,Nat.le_refl _,Nat.zero_le _,Nat.zero_le _⟩ ⟨rfl,rfl,rfl,congrArg (fun m:Nat=>AV.p (i64 m)) lk,Z,Y⟩ ⟨Z,Z,Z,Z,Z,Z,Z,Z,Z,Y⟩ fun ⟨i,ok,D,P⟩ hx t h=>?_
 obtain⟨q1,q2,q3,q4,q5,q6⟩:=hx
 simp only at q1 q2 q3 q4 q5 q6
 (refine yS<|yP Z<|yT<|au<|az Z ?_;refine aa (fun g=>?_) (fun g=>?_) <;> try simp only[zB] at g)
 ·obtain⟨r,hr⟩:=bh (l:=a.coppers) (i:=i) (by omega)
  have O3:=ha.reg r (List.mem_of_getElem? hr)
  have R6:=mQ O3
  rw[drop_at hr] at q1 q2 q3
  simp only[il,cE,vA] at q1 q2 q3
  have Mp:=pY hb' tD i O3
  (refine aJ<|aj<|au<|aZ<|yS<|yP Z<|yq Z<|aK zI ?_;refine⟨(rr r),(idx rfl hr),?_⟩)
  (refine yk<|yP Z<|yA Z<|yA Z<|yU<|yB Z<|yT<|au<|yS<|yq Z<|aA zI<|bd<|ak<|yV Z ?_;refine yV Z<|yV Z<|yP Z<|yP Z<|yP Z<|yT<|aZ ?_)
  refine aI (fun y:Nat×List aB=>y.2++eT (a.bores.drop y.1) i=eT a.bores i/\y.2.length<=y.1/\y.1<=a.bores.length/\∀q∈y.2,∃b∈a.bores,q=aQ b) (fun y=>[(0,.bx 100000 0),(3,.p (bool ok)),(16,.p (.sl (a.coppers.map rr))),(17,.p (i64 a.coppers.length)),(18,.p (i64 i)),(4,.p (i64 i)),(5,.p (aV r)),(27,.p (.sl (a.bores.map bc))),(28,.p (i64 a.bores.length)),(29,.p (i64 y.1)),(6,.ow 6)]) (fun y=>[(100000,.box [.p (.sl (a.coppers.map rr)),.p (aV a.outline),.p (.sl (a.bores.map bc)),.p (.sl (a.lands.map lc)),.ow 90000,.ow 90001,.ow 90002,.ow 90003,.ow 90004,.ow 90005,.ow 90006,.ow 90007]),(90000,.row 81 (D.map fun s=>[aG s])),(90001,.row 97 (P.map gw)),(90002,.row 44 []),(90003,.row 47 []),(90004,.row 3 []),(90005,.row 3 []),(90006,.row 3 []),(90007,.row 189 []),(6,.row 56 (y.2.map rc))]) (fun y=>a.bores.length - y.1) (0,[]) _ (aW.fa (by exact hC) _ 6 56 _ (by decide) (by exact rfl) (by exact rfl) (by decide)) ⟨rfl,Nat.le_refl _,Nat.zero_le _,fun q h=>by cases h⟩ ⟨rfl,rfl,rfl,rfl,rfl,rfl,rfl,rfl,congrArg (fun m:Nat=>AV.p (i64 m)) lb,Z,Z,Y⟩ ⟨Z,Z,Z,Z,Z,Z,Z,Z,Z,Z,Y⟩ fun ⟨j,hl⟩ hy t h=>?_
  obtain⟨k1,k2,k3,k4⟩:=hy
  simp only at k1 k2 k3 k4
  (refine yS<|yP Z<|yT<|au<|az Z ?_;refine aa (fun g2=>?_) (fun g2=>?_) <;> try simp only[zB] at g2)
  ·obtain⟨b,PU⟩:=bh (l:=a.bores) (i:=j) (by omega)
   have tM:=hb' b (List.mem_of_getElem? PU)
   rw[drop_at PU] at k1
   (refine aJ<|aj<|au<|aZ<|yS<|yq Z<|aK zI ?_;refine⟨(bc b),(idx rfl PU),?_⟩)
   ((refine yk<|yP Z<|yn Z<|aA zI<|aS<|ak<|yq Z<|aA zI<|bd<|aF<|an<|yU<|yP Z<|yP Z ?_;refine yn Z<|aK zI ?_);refine⟨_,_,(ig b i),?_⟩)
   (refine b9 Z Z<|ae<|yT<|az Z ?_;refine aa (fun g3=>?_) (fun g3=>?_) <;> try simp only[zB] at g3)
   ·have e:eT (b::a.bores.drop (j+1)) i=aQ b::eT (a.bores.drop (j+1)) i:=by rw[eT,List.filter_cons,if_pos (by simpa using g3)];rfl
    rw[e] at k1
    (refine aM<|yq Z<|aA zI<|bd<|af<|yP Z<|yn Z<|aK zI ?_;refine⟨_,_,(dv b tM),?_⟩)
    (refine b9 Z Z<|ae<|yn Z<|aA zI<|aS<|af<|yn Z<|bg zI ?_;refine And.intro ⟨fun r hr=>by simp at hr;subst hr;rfl,by simp only[List.length_map,List.length_set,List.length_replicate];omega,by simp only[List.length_map,List.length_set,List.length_replicate];omega⟩ ?_)
    (refine aS<|aF<|af<|cD Z<|cr Z Z Z Z Z<|cL<|bp<|aj<|aM<|yq Z<|bg zI ?_;refine sI ?_)
    (refine yk<|yP Z<|yT<|ai ?_;refine⟨(j+1,hl++[aQ b]),_,aW.refl _ _,?_⟩)
    exact⟨⟨by simp only[List.append_assoc,List.singleton_append];exact k1,by simp only[List.length_append,List.length_singleton];omega,by simp only;omega,fun q hq=>by
     rcases List.mem_append.1 hq with hq | hq
     ·exact k4 q hq
     rw[List.mem_singleton] at hq
     exact⟨b,List.mem_of_getElem? PU,hq⟩⟩,by simp only;omega,⟨Z,Z,Z,Z,Z,Z,Z,Z,Z,Z,Z,Y⟩,⟨rfl,rfl,rfl,rfl,rfl,rfl,rfl,rfl,rfl,by rw[List.map_append];rfl,trivial⟩⟩
   have e:eT (b::a.bores.drop (j+1)) i=eT (a.bores.drop (j+1)) i:=by rw[eT,List.filter_cons,if_neg (by simpa using g3)];rfl
   rw[e] at k1
   (refine aJ<|bp<|aj<|aM<|yq Z<|bg zI ?_;refine sI ?_)
   (refine yk<|yP Z<|yT<|ai ?_;refine⟨(j+1,hl),_,aW.refl _ _,?_⟩)
   exact⟨⟨k1,by simp only;omega,by simp only;omega,k4⟩,by simp only;omega,⟨Z,Z,Z,Z,Z,Z,Z,Z,Z,Z,Z,Y⟩,⟨Z,Z,Z,Z,Z,Z,Z,Z,Z,Z,Y⟩⟩
  have e:hl=eT a.bores i:=by
   rw[List.drop_of_length_le (by omega)] at k1
   rw[<-k1];simp[eT]
  have so:=jb hl 1010000 (by omega) (by omega) (fun q hq=>by obtain⟨b,hb,rfl⟩:=k4 q hq;exact Reg.eZ (hb' b hb)) (fun q hq=>by obtain⟨b,hb,rfl⟩:=k4 q hq;exact Reg.jM (hb' b hb)) (by omega)
  have bf:=Reg.eA (l:=hl) fun q hq=>by obtain⟨b,hb,rfl⟩:=k4 q hq;exact Reg.eZ (hb' b hb)
  have bk:=bf.2.2 1010000 fun q hq=>by obtain⟨b,hb,rfl⟩:=k4 q hq;exact Reg.jM (hb' b hb)
  have JU:=fQ _ _ R6.sok bf.1 (R6.ink.up (by omega)) (bk.up (by omega))
  have hS:cv (a_ r) (a_ hl)=dS a.bores i r:=by rw[e];rfl
  rw[hS] at JU
  obtain⟨S,U5⟩:∃S,S=dS a.bores i r:=⟨_,rfl⟩
  rw[<-U5] at JU Mp q1 q2 q3
  obtain⟨d1,d2,d3⟩:=Mp
  have sl:=Reg.cy d1 (by omega) d2
  have sx:=Reg.jk d1 (by omega) d2
  (refine bT<|aY<|aY<|bU<|aj<|yS<|yP Z<|yn Z<|aK zI ?_;refine⟨_,_,(jL R6),?_⟩)
  (refine aS<|af<|yq Z<|aA zI<|bd<|af<|yn Z<|aK zI ?_;refine⟨_,_,so,?_⟩)
  (refine aS<|aF<|af<|yn Z<|aK zI ?_;refine⟨_,_,JU,?_⟩)
  refine b9 Z Z<|aF<|aF<|ae<|yA Z<|yT ?_
  have ml:=u7 S (by omega) (fun t ht=>by have:=sx t ht;omega) (by omega)
  refine au (RL (fun MP:Bool=>MP=(ok && decide ((told S).length<=2000))) (fun MP=>[(0,.bx 100000 0),(3,.p (bool MP)),(16,.p (.sl (a.coppers.map rr))),(17,.p (i64 a.coppers.length)),(18,.p (i64 i)),(4,.p (i64 i)),(9,.p (aG S))]) (fun _=>[(100000,.box [.p (.sl (a.coppers.map rr)),.p (aV a.outline),.p (.sl (a.bores.map bc)),.p (.sl (a.lands.map lc)),.ow 90000,.ow 90001,.ow 90002,.ow 90003,.ow 90004,.ow 90005,.ow 90006,.ow 90007]),(90000,.row 81 (D.map fun s=>[aG s])),(90001,.row 97 (P.map gw)),(90002,.row 44 []),(90003,.row 47 []),(90004,.row 3 []),(90005,.row 3 []),(90006,.row 3 []),(90007,.row 189 [])]) (fun MP hok t h=>?_) ?_)
  ·have U6:(MP && vA a.bores ((i:Int)+1) (a.coppers.drop (i+1)))=OK:=by rw[hok,Bool.and_assoc];exact q3
   ((refine yS<|yq Z<|aA zI<|bd<|ak<|yq Z<|aA zI<|bd<|ak<|yV Z<|yV Z<|yV Z<|yP Z<|yn Z ?_;refine aA zI<|aS<|af<|yn Z<|bg zI ?_);refine And.intro ⟨fun r hr=>by simp at hr;subst hr;rfl,by simp only[List.length_map,List.length_set,List.length_replicate];omega,by simp only[List.length_map,List.length_set,List.length_replicate];omega⟩ ?_)
   (refine aS<|aF<|af<|yV Z<|yV Z<|yq Z<|aA zI<|bd<|aF<|an<|yU<|yP Z<|yn Z<|aK zI ?_;refine⟨_,_,(Bz S d1 (d2.up (by omega)) (by omega)),?_⟩)
   have pf:=Reg.FW S
   have lp:=aN (eP S) fun p=>[aG p]
   refine aS<|af<|yP Z<|yP Z<|yT<|aZ ?_
   refine aI (fun z:Nat×List Piece=>z.2++((eP S).drop z.1).map (⟨(i:Int),·⟩)++cE a.bores ((i:Int)+1) (a.coppers.drop (i+1))=PP/\z.2.length<=25000000*i+z.1/\z.1<=(eP S).length) (fun z=>[(0,.bx 100000 0),(3,.p (bool MP)),(16,.p (.sl (a.coppers.map rr))),(17,.p (i64 a.coppers.length)),(18,.p (i64 i)),(4,.p (i64 i)),(64,.p (.sl ((eP S).map fun p=>[aG p]))),(65,.p (i64 (eP S).length)),(66,.p (i64 z.1))]) (fun z=>[(100000,.box [.p (.sl (a.coppers.map rr)),.p (aV a.outline),.p (.sl (a.bores.map bc)),.p (.sl (a.lands.map lc)),.ow 90000,.ow 90001,.ow 90002,.ow 90003,.ow 90004,.ow 90005,.ow 90006,.ow 90007]),(90000,.row 81 ((D++[S]).map fun s=>[aG s])),(90001,.row 97 (z.2.map gw)),(90002,.row 44 []),(90003,.row 47 []),(90004,.row 3 []),(90005,.row 3 []),(90006,.row 3 []),(90007,.row 189 [])]) (fun z=>(eP S).length - z.1) (0,P) _ ((aW.own (by exact hC) _ 64 (id:=64) (by exact rfl) (by exact rfl)).trans ((aW.pack (by exact hC) _ 100000 (cs:=[.p (.sl (a.coppers.map rr)),.p (aV a.outline),.p (.sl (a.bores.map bc)),.p (.sl (a.lands.map lc)),.row 81 ((D++[S]).map fun s=>[aG s]),.row 97 (P.map gw),.row 44 [],.row 47 [],.row 3 [],.row 3 [],.row 3 [],.row 189 []]) (by exact rfl) (by exact rfl) (by exact⟨rfl,rfl,rfl,rfl,by rw[List.map_append];rfl,Z,Z,Z,Z,Z,Z,Z,Y⟩)).trans (aW.open (by exact hC) _ 100000 [90000,90001,90002,90003,90004,90005,90006,90007] (cs:=[.p (.sl (a.coppers.map rr)),.p (aV a.outline),.p (.sl (a.bores.map bc)),.p (.sl (a.lands.map lc)),.row 81 ((D++[S]).map fun s=>[aG s]),.row 97 (P.map gw),.row 44 [],.row 47 [],.row 3 [],.row 3 [],.row 3 [],.row 189 []]) (by exact rfl) rfl rfl rfl))) ⟨by simp only[List.drop_zero,List.append_assoc];exact q2,by simp only;omega,Nat.zero_le _⟩ ⟨rfl,rfl,rfl,rfl,rfl,rfl,rfl,congrArg (fun m:Nat=>AV.p (i64 m)) lp,Z,Y⟩ ⟨Z,Z,Z,Z,Z,Z,Z,Z,Z,Y⟩ fun ⟨k,Ps⟩ hz t h=>?_
   obtain⟨z1,z2,z3⟩:=hz
   simp only at z1 z2 z3
   (refine yS<|yP Z<|yT<|au<|az Z ?_;refine aa (fun g5=>?_) (fun g5=>?_) <;> try simp only[zB] at g5)
   ·obtain⟨p,hp⟩:=bh (l:=eP S) (i:=k) (by omega)
    obtain⟨p1,_,_,p3⟩:=Reg.su d1 (List.mem_of_getElem? hp)
    have p4:=p3 _ d2
    have px:=Reg.jk p1 (by omega) p4
    have pb:=Reg.cy p1 (by omega) p4
    have pt:=Reg.kj p1 (p4.up (by omega))
    rw[drop_at hp,List.map_cons] at z1
    (refine aJ<|aj<|au<|aZ<|yS<|yq Z<|aK zI ?_;refine⟨[aG p],(idx rfl hp),?_⟩)
    ((refine yk<|yP Z<|yA Z<|yT<|cH [] true On rfl (by kernel_rfl)<|ay Z<|ay Z<|ay Z<|ay Z<|ay Z<|ay Z<|ay Z<|ay Z<|cA Z Z ?_;refine ay Z<|cA Z Z<|cA Z Z<|cG Z<|dq Z<|aA zI<|bB<|ak<|dq Z<|aA zI<|bB<|ak<|yW Z<|yW Z ?_;refine dq Z<|aA zI<|bB<|af<|yD Z<|yD Z<|yD Z<|dq Z<|aK zI ?_);refine⟨_,_,(zv p (by omega) (fun t ht=>by have:=px t ht;omega) pt),?_⟩)
    (refine bB<|ae<|yD Z<|dq Z<|aA zI<|jA Z Z<|af<|dq Z<|bg zI ?_;refine And.intro ⟨fun r hr=>by simp at hr;subst hr;rfl,by simp only[List.length_map,List.length_set,List.length_replicate];omega,by simp only[List.length_map,List.length_set,List.length_replicate];omega⟩ ?_)
    ((refine hD Z Z Z<|fM<|g_<|af<|yW Z<|yW Z<|dq Z<|aA zI<|iG Z<|aF<|an<|cn<|bz Z<|bp ?_;refine aj<|aM<|yq Z<|bg zI ?_);refine sI ?_)
    refine yk<|yP Z<|yT<|ai ?_
    refine⟨(k+1,Ps++[Piece.mk i p]),_,((aW.pack (by exact hC) _ 100000 (cs:=[.p (.sl (a.coppers.map rr)),.p (aV a.outline),.p (.sl (a.bores.map bc)),.p (.sl (a.lands.map lc)),.row 81 ((D++[S]).map fun s=>[aG s]),.row 97 ((Ps++[Piece.mk i p]).map gw),.row 44 [],.row 47 [],.row 3 [],.row 3 [],.row 3 [],.row 189 []]) (by exact rfl) (by exact rfl) (by exact⟨rfl,rfl,rfl,rfl,rfl,by rw[List.map_append (f:=gw)];rfl,Z,Z,Z,Z,Z,Z,Y⟩)).trans (aW.open (by exact hC) _ 100000 [90000,90001,90002,90003,90004,90005,90006,90007] (cs:=[.p (.sl (a.coppers.map rr)),.p (aV a.outline),.p (.sl (a.bores.map bc)),.p (.sl (a.lands.map lc)),.row 81 ((D++[S]).map fun s=>[aG s]),.row 97 ((Ps++[Piece.mk i p]).map gw),.row 44 [],.row 47 [],.row 3 [],.row 3 [],.row 3 [],.row 189 []]) (by exact rfl) rfl rfl rfl)),?_⟩
    exact⟨⟨by simp only[List.append_assoc,List.singleton_append,List.cons_append] at z1 ⊢;exact z1,by simp only[List.length_append,List.length_singleton];omega,by simp only;omega⟩,by simp only;omega,⟨Z,Z,Z,Z,Z,Z,Z,Z,Z,Y⟩,⟨Z,Z,Z,Z,Z,Z,Z,Z,Z,Y⟩⟩
   rw[List.drop_of_length_le (by omega),List.map_nil,List.append_nil] at z1
   (refine bT<|aY<|aY<|bU<|bp<|aj<|aM<|yq Z<|bg zI ?_;refine sI ?_)
   (refine yk<|yP Z<|yT<|ai ?_;refine⟨(i+1,MP,D++[S],Ps),_,aW.refl _ _,?_⟩)
   exact⟨⟨by simp only[List.append_assoc,List.singleton_append];exact q1,z1,U6,by simp only[List.length_append,List.length_singleton];omega,by simp only;omega,by simp only;omega⟩,by simp only;omega,⟨Z,Z,Z,Z,Z,Y⟩,⟨Z,Z,Z,Z,Z,Z,Z,Z,Z,Y⟩⟩
  (refine aM<|yP Z<|yP Z<|yg Z ?_;refine aa (fun g4=>?_) (fun g4=>?_) <;> try simp only[zB] at g4)
  ·have g4:ok=true:=g4
   (refine bS<|bA Z Z<|aA zI<|yk<|y2 Z<|jB Z Z Z<|aK zI ?_;refine⟨_,_,ml,?_⟩)
   refine b9 Z Z<|ae<|y1 Z<|yP Z<|yA Z<|yT<|ai<|zX zi ?_
   exact⟨_,by rw[g4,Bool.true_and];congr 1;exact propext ⟨fun h=>by omega,fun h=>by omega⟩,⟨Z,Z,Z,Z,Z,Z,Z,Y⟩,⟨Z,Z,Z,Z,Z,Z,Z,Z,Z,Y⟩⟩
  have g4:ok=false:=by simpa using g4
  refine cB<|ae<|y0 Z<|y0 Z<|yP Z<|yA Z<|yT<|ai<|zX zi ?_
  exact⟨false,by rw[g4];rfl,⟨Z,Z,Z,Z,Z,Z,Z,Y⟩,⟨Z,Z,Z,Z,Z,Z,Z,Z,Z,Y⟩⟩
 have e:a.coppers.length<=i:=by omega
 rw[List.drop_of_length_le e] at q1 q2 q3
 simp only[il,cE,vA,List.append_nil,Bool.and_true] at q1 q2 q3
 subst q1 q2 q3
 have lP:=aN P gw
 (refine bT<|aY<|aY<|bU<|aj<|yS<|yP Z<|yP Z<|yg Z ?_;refine aa (fun g4=>?_) (fun g4=>?_) <;> try simp only[zB] at g4)
 ·have g4:ok=true:=g4
  (refine bS<|bA Z Z<|aA zI<|bd<|ak<|y2 Z<|bA Z Z<|aA zI<|bd<|ak<|y2 Z<|bA Z Z<|aA zI<|bd ?_;refine ak<|y2 Z<|bA Z Z<|aA zI<|bd<|af<|y1 Z<|y1 Z<|yP Z<|yA Z<|yR zi ?_)
  exact And.intro (by rw[g4,Bool.true_and];exact congrArg (fun b:Bool=>PV.im (Value.bool b)) (decide_eq_decide.2 ⟨fun h=>by rw[lP] at h;omega,fun h=>by rw[lP];omega⟩)) (And.intro ⟨Z,Z,Z,Z,Z,Z,Z,Z,Z,Z,Z,Z,Z,Y⟩ trivial)
 have g4:ok=false:=by simpa using g4
 refine cB<|ae<|y0 Z<|y0 Z<|y0 Z<|y0 Z<|y0 Z<|yP Z<|yA Z<|yR zi ?_
 exact And.intro (by rw[g4];rfl) (And.intro ⟨Z,Z,Z,Z,Z,Z,Z,Z,Z,Z,Z,Z,Z,Y⟩ trivial)
open Reg (ou WC cI)
theorem jf (l:List Int) (k:Int):aE (l++[k])=aE l++[[i64 k]]:=by rw[aE,List.map_append];rfl
theorem zx (a:Wt) (ha:jG a) (dr:List (List PV)) (P:List Piece) (hP:P.length<=1000000000) (Lk:∀p∈P,(told p.set).length<=4398046511104):aD C 71 [.bb [.p (.sl (a.coppers.map rr)),.p (aV a.outline),.p (.sl (a.bores.map bc)),.p (.sl (a.lands.map lc)),.row 81 dr,.row 97 (P.map gw),.row 44 [],.row 47 [],.row 3 [],.row 3 [],.row 3 [],.row 189 []]] (.tu []) [.bb [.p (.sl (a.coppers.map rr)),.p (aV a.outline),.p (.sl (a.bores.map bc)),.p (.sl (a.lands.map lc)),.row 81 dr,.row 97 (P.map gw),.row 44 ((cI a.bores P).map fun l=>[ints l]),.row 47 [],.row 3 [],.row 3 [],.row 3 [],.row 189 []]]:=by
 have lb:=aN a.bores bc
 have lp:=aN P gw
 have tD:=ha.few
 obtain⟨TT,Tu⟩:∃TT,TT=cI a.bores P:=⟨_,rfl⟩
 rw[<-Tu]
 refine qy hC Tryz.func71 rfl rfl 57 rfl (by decide) (by kernel_rfl) fun _ _ _ _ _=>⟨_,aW.open hC _ 100000 [90000,90001,90002,90003,90004,90005,90006,90007] (by exact rfl) rfl rfl rfl,?_⟩
 refine yS<|yq Z<|aA zI<|bd<|ak<|yV Z<|yV Z<|yV Z<|yP Z<|yP Z<|yP Z<|yT<|aZ ?_
 refine aI (fun x:Nat×List (List Int)=>x.2++cI (a.bores.drop x.1) P=TT/\x.2.length<=x.1/\x.1<=a.bores.length) (fun x=>[(0,.bx 100000 0),(11,.p (.sl (a.bores.map bc))),(12,.p (i64 a.bores.length)),(13,.p (i64 x.1))]) (fun x=>[(100000,.box [.p (.sl (a.coppers.map rr)),.p (aV a.outline),.p (.sl (a.bores.map bc)),.p (.sl (a.lands.map lc)),.ow 90000,.ow 90001,.ow 90002,.ow 90003,.ow 90004,.ow 90005,.ow 90006,.ow 90007]),(90000,.row 81 dr),(90001,.row 97 (P.map gw)),(90002,.row 44 (x.2.map fun l=>[ints l])),(90003,.row 47 []),(90004,.row 3 []),(90005,.row 3 []),(90006,.row 3 []),(90007,.row 189 [])]) (fun x=>a.bores.length - x.1) (0,[]) _ (aW.refl _ _) ⟨Tu.symm,Nat.le_refl _,Nat.zero_le _⟩ ⟨rfl,rfl,congrArg (fun m:Nat=>AV.p (i64 m)) lb,Z,Y⟩ ⟨Z,Z,Z,Z,Z,Z,Z,Z,Z,Y⟩ fun ⟨i,T⟩ hx t h=>?_
 obtain⟨q1,q2,q3⟩:=hx
 simp only at q1 q2 q3
 (refine yS<|yP Z<|yT<|au<|az Z ?_;refine aa (fun g=>?_) (fun g=>?_) <;> try simp only[zB] at g)
 ·obtain⟨b,I6⟩:=bh (l:=a.bores) (i:=i) (by omega)
  have tM:=oU (ha.bor b (List.mem_of_getElem? I6))
  rw[drop_at I6,cI,List.map_cons] at q1
  (refine aJ<|aj<|au<|aZ<|yS<|yq Z<|aK zI ?_;refine⟨(bc b),(idx rfl I6),?_⟩)
  (refine yk<|yP Z<|yn Z<|aA zI<|aS<|ak<|yq Z<|aA zI<|bd<|aF<|an<|yU<|yB Z<|yT ?_;refine au<|yS<|yq Z<|aA zI<|bd<|ak<|yV Z<|yV Z<|yq Z<|aA zI<|bd<|af<|yP Z<|yP Z ?_;refine yT<|aZ ?_)
  refine aI (fun y:Nat×List Int=>y.2++WC b y.1 (P.drop y.1)=WC b 0 P/\y.2.length<=y.1/\y.1<=P.length) (fun y=>[(0,.bx 100000 0),(11,.p (.sl (a.bores.map bc))),(12,.p (i64 a.bores.length)),(13,.p (i64 i)),(3,.p (.ip (bc b))),(4,.ow 4),(20,.ow 90001),(21,.p (i64 P.length)),(22,.p (i64 y.1))]) (fun y=>[(100000,.box [.p (.sl (a.coppers.map rr)),.p (aV a.outline),.p (.sl (a.bores.map bc)),.p (.sl (a.lands.map lc)),.ow 90000,.ow 90001,.ow 90002,.ow 90003,.ow 90004,.ow 90005,.ow 90006,.ow 90007]),(90000,.row 81 dr),(90001,.row 97 (P.map gw)),(90002,.row 44 (T.map fun l=>[ints l])),(90003,.row 47 []),(90004,.row 3 []),(90005,.row 3 []),(90006,.row 3 []),(90007,.row 189 []),(4,.row 3 (aE y.2))]) (fun y=>P.length - y.1) (0,[]) _ ((aW.gC (by exact hC) _ 3 (y:=.ip (bc b)) (fz:=[(3,.iP (bc b))]) (by exact⟨rfl,rfl⟩)).trans (aW.fa (by exact hC) _ 4 3 _ (by decide) (by exact rfl) (by exact rfl) (by decide))) ⟨rfl,Nat.le_refl _,Nat.zero_le _⟩ ⟨rfl,rfl,rfl,rfl,rfl,rfl,rfl,congrArg (fun m:Nat=>AV.p (i64 m)) lp,Z,Y⟩ ⟨Z,Z,Z,Z,Z,Z,Z,Z,Z,Z,Y⟩ fun ⟨k,l⟩ hy t h=>?_
  obtain⟨k1,k2,k3⟩:=hy
  simp only at k1 k2 k3
  have ll:=cg l
  (refine yS<|yP Z<|yT<|au<|az Z ?_;refine aa (fun g2=>?_) (fun g2=>?_) <;> try simp only[zB] at g2)
  ·obtain⟨p,JB⟩:=bh (l:=P) (i:=k) (by omega)
   have U7:=Lk p (List.mem_of_getElem? JB)
   rw[drop_at JB,WC] at k1
   have yes:ou b p=true->l++[(k:Int)]++WC b (k+1) (P.drop (k+1))=WC b 0 P:=fun h=>by
    rw[if_pos h] at k1
    rw[List.append_assoc];exact k1
   have no:ou b p=false->l++WC b (k+1) (P.drop (k+1))=WC b 0 P:=fun h=>by
    rw[if_neg (by rw[h];decide)] at k1
    exact k1
   (refine aJ<|aj<|au<|aZ<|yS<|yP Z<|yq Z<|bg zI ?_;refine And.intro ⟨by omega,by (try dsimp only);omega⟩ ?_)
   (refine bd<|bJ<|yq Z<|aK zI ?_;refine⟨(gw p),(idx rfl JB).2,?_⟩)
   ((refine yk<|yn Z<|aA zI<|aS<|ak<|yA Z<|yq Z<|aA zI<|bd<|aF<|an<|yU<|yP Z<|yP Z ?_;refine yP Z<|yg Z ?_);refine aa (fun g3=>?_) (fun g3=>?_) <;> try simp only[zB] at g3)
   ·(refine bS<|bA Z Z<|aA zI<|yk<|y2 Z<|bA Z Z<|aA zI<|bd<|ak<|y1 Z<|y2 Z<|jB Z Z Z<|aK zI ?_;refine⟨_,_,(ig b p.layer),?_⟩)
    (refine b9 Z Z<|ae<|yP Z<|yP Z<|yg Z ?_;refine aa (fun g4=>?_) (fun g4=>?_) <;> try simp only[zB] at g4)
    ·(refine bS<|bA Z Z<|aA zI<|bd<|ak<|y1 Z<|y2 Z<|bA Z Z<|aA zI<|bd<|mE<|y2 Z<|jB Z Z Z<|aK zI ?_;refine⟨_,_,(vB (told p.set) (by omega) b tM),?_⟩)
     (refine b9 Z Z<|ae<|yP Z<|yT<|az Z ?_;refine aa (fun g5=>?_) (fun g5=>?_) <;> try simp only[zB] at g5)
     ·have hy:=yes (by simp only[ou,Bool.and_eq_true];exact⟨⟨g3,g4⟩,g5⟩)
      (refine aM<|yq Z<|aA zI<|bd<|af<|yP Z<|yn Z<|aA zI<|aS<|af<|yn Z<|bg zI ?_;refine And.intro ⟨fun r hr=>by simp at hr;subst hr;rfl,by simp only[ll,List.length_set,List.length_replicate];omega,by simp only[ll,List.length_set,List.length_replicate];omega⟩ ?_)
      (refine aS<|aF<|af<|cD Z<|cr Z Z Z Z Z<|cL<|bp<|aj<|aM<|yq Z<|bg zI ?_;refine sI ?_)
      (refine yk<|yP Z<|yT<|ai ?_;refine⟨(k+1,l++[(k:Int)]),_,aW.refl _ _,?_⟩)
      exact⟨⟨hy,by simp only[List.length_append,List.length_singleton];omega,by simp only;omega⟩,by simp only;omega,⟨Z,Z,Z,Z,Z,Z,Z,Z,Z,Y⟩,⟨rfl,rfl,rfl,rfl,rfl,rfl,rfl,rfl,rfl,congrArg (AB.row _) (jf l k).symm,trivial⟩⟩
     have hn:=no (by simp only[ou];rw[Bool.and_eq_false_iff];exact .inr g5)
     (refine aJ<|bp<|aj<|aM<|yq Z<|bg zI ?_;refine sI ?_)
     (refine yk<|yP Z<|yT<|ai ?_;refine⟨(k+1,l),_,aW.refl _ _,?_⟩)
     exact⟨⟨hn,by simp only;omega,by simp only;omega⟩,by simp only;omega,⟨Z,Z,Z,Z,Z,Z,Z,Z,Z,Y⟩,⟨Z,Z,Z,Z,Z,Z,Z,Z,Z,Z,Y⟩⟩
    have hn:=no (by simp only[ou];rw[g4,Bool.and_false,Bool.false_and])
    ((refine cB<|ae<|y0 Z<|y0 Z<|y0 Z<|yP Z<|yT<|az Z<|cM<|aJ<|bp<|aj<|aM<|yq Z ?_;refine bg zI ?_);refine sI ?_)
    (refine yk<|yP Z<|yT<|ai ?_;refine⟨(k+1,l),_,aW.refl _ _,?_⟩)
    exact⟨⟨hn,by simp only;omega,by simp only;omega⟩,by simp only;omega,⟨Z,Z,Z,Z,Z,Z,Z,Z,Z,Y⟩,⟨Z,Z,Z,Z,Z,Z,Z,Z,Z,Z,Y⟩⟩
   have hn:=no (by simp only[ou];rw[g3,Bool.false_and,Bool.false_and])
   ((refine cB<|ae<|y0 Z<|y0 Z<|y0 Z<|yP Z<|yP Z<|y0 Z<|y0 Z<|y0 Z<|y0 Z<|yP Z<|yT<|az Z ?_;refine cM<|aJ<|bp<|aj<|aM<|yq Z<|bg zI ?_);refine sI ?_)
   (refine yk<|yP Z<|yT<|ai ?_;refine⟨(k+1,l),_,aW.refl _ _,?_⟩)
   exact⟨⟨hn,by simp only;omega,by simp only;omega⟩,by simp only;omega,⟨Z,Z,Z,Z,Z,Z,Z,Z,Z,Y⟩,⟨Z,Z,Z,Z,Z,Z,Z,Z,Z,Z,Y⟩⟩
  rw[List.drop_of_length_le (by omega),WC,List.append_nil] at k1
  have lT:=aN T fun l=>[ints l]
  ((refine bT<|aY<|aY<|bU<|aj<|aM<|yq Z<|aA zI<|bd<|ak<|yq Z<|aA zI<|bd<|ak ?_;refine yV Z<|yV Z<|yV Z<|yq Z<|aA zI<|bd<|af<|yn Z<|aA zI<|aS<|aF<|af<|yn Z<|bg zI ?_);refine And.intro ⟨fun r hr=>by simp at hr;subst hr;rfl,by simp only[lT,List.length_set,List.length_replicate];omega,by simp only[lT,List.length_set,List.length_replicate];omega⟩ ?_)
  ((refine aS<|aF<|af<|yV Z<|yV Z<|yq Z<|aA zI<|bd<|aF<|an<|cL<|bp<|aj<|aM ?_;refine yq Z<|bg zI ?_);refine sI ?_)
  refine yk<|yP Z<|yT<|ai ?_
  refine⟨(i+1,T++[l]),_,((aW.pack (by exact hC) _ 100000 (cs:=[.p (.sl (a.coppers.map rr)),.p (aV a.outline),.p (.sl (a.bores.map bc)),.p (.sl (a.lands.map lc)),.row 81 dr,.row 97 (P.map gw),.row 44 ((T++[l]).map fun l=>[ints l]),.row 47 [],.row 3 [],.row 3 [],.row 3 [],.row 189 []]) (by exact rfl) (by exact rfl) (by exact⟨rfl,rfl,rfl,rfl,rfl,rfl,by rw[List.map_append];rfl,Z,Z,Z,Z,Z,Y⟩)).trans (aW.open (by exact hC) _ 100000 [90000,90001,90002,90003,90004,90005,90006,90007] (cs:=[.p (.sl (a.coppers.map rr)),.p (aV a.outline),.p (.sl (a.bores.map bc)),.p (.sl (a.lands.map lc)),.row 81 dr,.row 97 (P.map gw),.row 44 ((T++[l]).map fun l=>[ints l]),.row 47 [],.row 3 [],.row 3 [],.row 3 [],.row 189 []]) (by exact rfl) rfl rfl rfl)),?_⟩
  exact⟨⟨by rw[k1];simp only[List.append_assoc,List.singleton_append];exact q1,by simp only[List.length_append,List.length_singleton];omega,by simp only;omega⟩,by simp only;omega,⟨Z,Z,Z,Z,Y⟩,⟨Z,Z,Z,Z,Z,Z,Z,Z,Z,Y⟩⟩
 rw[List.drop_of_length_le (by omega),cI,List.map_nil,List.append_nil] at q1
 subst q1
 refine bT<|aY<|aY<|bU<|Mu zi ?_
 exact And.intro rfl (And.intro ⟨Z,Z,Z,Z,Z,Z,Z,Z,Z,Z,Z,Z,Z,Y⟩ trivial)
end M
namespace Reg
def wP (l:jn) (b:eX):Bool:=(b.plated && through b l.layer) && iN l.x l.y (aQ b)
def BB (l:jn) (p:Piece):Bool:=decide (p.layer=l.layer) && (told p.set).any (iN l.x l.y)
def Xk (l:jn):Nat->List Piece->Kd×Bool
 | _,[]=>(⟨false,0⟩,false)
 | k,p::r=>if BB l p=true then (⟨false,k⟩,true) else Xk l (k+1) r
def Xc (l:jn) (ps:List Piece):Nat->List eX->Kd×Bool
 | _,[]=>Xk l 0 ps
 | k,b::r=>if wP l b=true then (⟨true,k⟩,true) else Xc l ps (k+1) r
def oZ (bs:List eX) (ps:List Piece) (l:jn):Kd×Bool:=Xc l ps 0 bs
def qZ (m:Nat):List Int->List Int->List Int
 | [],u=>u
 | p::r,u=>qZ m r (ik u p.toNat m)
def tp (n:Nat):Nat->List (List Int)->List Int->List Int
 | _,[],u=>u
 | k,l::r,u=>tp n (k+1) r (qZ (n+k) l u)
def jq (n nb:Nat) (T:List (List Int)):List Int:=tp n 0 T (iota (n+nb))
theorem BC {m:Nat}:∀(l u:List Int),UF u->m < u.length->(∀p∈l,0<=p/\p.toNat < u.length)->UF (qZ m l u)/\(qZ m l u).length=u.length
 | [],u,h,_,_=>⟨h,rfl⟩
 | p::r,u,h,hm,hl=>by
  obtain⟨a,b⟩:=qV h (i:=p.toNat) (k:=m) (hl p List.mem_cons_self).2 hm
  obtain⟨c,d⟩:=BC (m:=m) r (ik u p.toNat m) a (by omega) fun q hq=>by have:=hl q (List.mem_cons_of_mem _ hq);omega
  exact⟨c,d.trans b⟩
theorem vC {n nb:Nat}:∀(l:List (List Int)) (k:Nat) (u:List Int),UF u->u.length=n+nb->k+l.length<=nb->(∀x∈l,∀p∈x,0<=p/\p < n)->UF (tp n k l u)/\(tp n k l u).length=n+nb
 | [],k,u,h,hl,_,_=>⟨h,hl⟩
 | x::r,k,u,h,hl,hk,hx=>by
  simp only[List.length_cons] at hk
  obtain⟨a,b⟩:=BC (m:=n+k) x u h (by omega) fun p hp=>by have:=hx x List.mem_cons_self p hp;omega
  exact vC r (k+1) _ a (b.trans hl) (by omega) fun y hy=>hx y (List.mem_cons_of_mem _ hy)
theorem XA (b:eX):∀(ps:List Piece) (k:Nat),∀p∈WC b k ps,(k:Int)<=p/\p < ((k+ps.length:Nat):Int)
 | [],k,p,h=>by cases h
 | q::ps,k,p,h=>by
  rw[WC] at h
  have ih:=XA b ps (k+1) p
  simp only[List.length_cons]
  split at h
  ·rcases List.mem_cons.1 h with rfl | h
   ·omega
   have:=ih h;omega
  have:=ih h;omega
def iA (bs:List eX) (n g:Nat) (s:(List Int×List Int)×List Int×List Int) (i:Nat):(List Int×List Int)×List Int×List Int:=
 if i < n then ((s.1.1.set i (g:Int),s.1.2),s.2.1++[(i:Int)],s.2.2) else
 if (bs.getD (i - n) ⟨0,0,0,0,0,false⟩).plated=true then ((s.1.1,s.1.2.set (i - n) (g:Int)),s.2.1,s.2.2++[((i:Int) - n)]) else
 ((s.1.1,s.1.2.set (i - n) (-1)),s.2.1,s.2.2)
def wQ (bs:List eX) (n:Nat) (s:(List Int×List Int)×List dc) (l:List Nat):(List Int×List Int)×List dc:=
 let r:=l.foldl (iA bs n s.2.length) (s.1,[],[])
 (r.1,if 0 < r.2.1.length+r.2.2.length then s.2++[⟨r.2.1,r.2.2,[]⟩] else s.2)
def gB (bs:List eX) (n:Nat) (L:List (List Nat)):(List Int×List Int)×List dc:=L.foldl (wQ bs n) ((List.replicate n 0,List.replicate bs.length 0),[])
structure mX where
 groups:List dc
 ofLand:List Int
 atLand:List Kd
def sw (p:ByteArray×ByteArray) (g:dc):dc:={ g with pins:=g.pins++[p] }
def nt (bs:List eX) (ps:List Piece) (o:List Int×List Int) (s:mX) (l:jn):mX:=
 let h:=oZ bs ps l
 let k:Int:=if h.2=true then (if h.1.bore=true then o.2 else o.1).getD h.1.num.toNat 0 else -1
 ⟨if h.2=true then s.groups.set k.toNat (sw (l.part,l.pin) (s.groups.getD k.toNat ⟨[],[],[]⟩)) else s.groups,s.ofLand++[k],s.atLand++[h.1]⟩
end Reg
end Go.Proofs.YtpbkimanfahbgaaGreatDoor
