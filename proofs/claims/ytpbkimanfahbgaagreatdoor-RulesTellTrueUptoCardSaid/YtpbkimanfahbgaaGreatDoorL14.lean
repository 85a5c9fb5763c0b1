/- Each break is of something that is less than what it needs, and, of two pieces, has their distance. Condition: what is read is of bulk at most 1048576; the listed variables are tied to the program's text by the card. -/
import Derived.Test.YtpbkimanfahbgaaGreatDoorL13
set_option linter.unusedVariables false
set_option linter.unusedSimpArgs false
set_option maxRecDepth 100000
set_option maxHeartbeats 8000000
namespace Go.Proofs.YtpbkimanfahbgaaGreatDoor
namespace M
open Go.AM Go.RowKit Go.Lib
open Reg (aB ax en Wt Piece l9 hZ cQ told a_ cx aQ through B0 x7 aw zk cv ru jm bX coreS P4)
theorem Y7 {b:en} (h:cx b=true):P4 1000000000 (aQ b):=by
 obtain⟨a1,a2,a3,a4⟩:=Reg.Lj (Reg.eZ h) (Reg.jM h)
 exact⟨⟨by omega,by omega⟩,⟨by omega,by omega⟩,⟨by omega,by omega⟩,⟨by omega,by omega⟩⟩
theorem XY (r:bR) (hg:iz r) (a:Wt) (gd:vG a):aD C 40 [.pv (.ag (rl r)),.pv (.ip (kY a))] (.p (.sl ((Ws r.holeGap 0 a.bores).map W2))) []:=by
 have lb:=aN a.bores bc
 have few:=gd.art.few
 have Sl:=vH gd.art
 obtain⟨G,hG⟩:∃G,G=Ws r.holeGap 0 a.bores:=⟨_,rfl⟩
 rw[<-hG]
 refine aT hC Tryz.func40 rfl rfl 82 rfl (by decide) (by kernel_rfl) fun _ _ _ _ _=>?_
 (refine yS<|yn Z<|aA zI<|aS<|ak<|yB Z<|yU<|yB Z<|yT<|au<|yS<|yP Z<|yP Z<|yP Z ?_;refine yP Z<|yP Z<|yP Z<|yP Z<|yT<|aZ ?_)
 refine aI (fun x:Nat×List Break=>x.2++Ws r.holeGap x.1 (a.bores.drop x.1)=G/\x.2.length<=500*x.1/\x.1<=a.bores.length) (fun x=>[(1,.p (.ip (kY a))),(2,.p (.ip (rl r))),(5,.ow 5),(16,.p (.sl (a.bores.map bc))),(17,.p (i64 a.bores.length)),(18,.p (i64 x.1))]) (fun x=>[(5,.row 64 (x.2.map W2))]) (fun x=>a.bores.length - x.1) (0,[]) _ ((aW.fa (by exact hC) _ 5 64 _ (by decide) (by exact rfl) (by exact rfl) (by decide)).trans (aW.gC (by exact hC) _ 2 (y:=.ip (rl r)) (fz:=[(2,.iP (rl r))]) (by exact⟨rfl,rfl⟩))) ⟨by rw[hG];rfl,by simp,Nat.zero_le _⟩ ⟨rfl,rfl,rfl,rfl,congrArg (fun m:Nat=>AV.p (i64 m)) lb,Z,Y⟩ ⟨Z,Y⟩ fun ⟨i,o⟩ hx t h=>?_
 obtain⟨x1,x2,x3⟩:=hx
 simp only at x1 x2 x3
 (refine yS<|yP Z<|yT<|au<|az Z ?_;refine aa (fun g1=>?_) (fun g1=>?_) <;> try simp only[zB] at g1)
 ·obtain⟨x,Sr⟩:=bh (l:=a.bores) (i:=i) (by omega)
  have bx:=Sl x (List.mem_of_getElem? Sr)
  rw[drop_at Sr,Ws] at x1
  refine aJ<|aj<|au<|aZ ?_
  refine fB ?_
  (refine aM<|yP Z<|yq Z<|aK zI ?_;refine⟨(bc x),(idx rfl Sr),?_⟩)
  refine yk<|yP Z<|yn Z<|aA zI<|aS<|ak<|yA Z<|yq Z<|aA zI<|bd<|aF<|an<|yT<|ai ?_
  refine I2 7 (y:=.ip (bc x)) (fz:=[(7,.iP (bc x))]) (by exact hC) (by exact⟨rfl,rfl⟩) ?_
  (refine yS<|yP Z<|yq Z<|bg zI ?_;refine sI ?_)
  refine yk<|yA Z<|yT<|aZ ?_
  refine aI (fun y:Nat×List Break=>y.2++(WR r.holeGap i x y.1 (a.bores.drop y.1)++Ws r.holeGap (i+1) (a.bores.drop (i+1)))=G/\y.2.length<=500*i+y.1/\i+1<=y.1/\y.1<=a.bores.length) (fun y=>[(1,.p (.ip (kY a))),(2,.p (.ip (rl r))),(5,.ow 5),(6,.p (i64 i)),(7,.p (.ip (bc x))),(8,.p (i64 y.1)),(16,.p (.sl (a.bores.map bc))),(17,.p (i64 a.bores.length)),(18,.p (i64 i))]) (fun y=>[(5,.row 64 (y.2.map W2))]) (fun y=>a.bores.length - y.1) (i+1,o) _ (aW.refl _ _) ⟨x1,by simp only;omega,by simp only;omega,by simp only;omega⟩ ⟨Z,Z,Z,Z,Z,Z,Z,Z,Z,Y⟩ ⟨Z,Y⟩ fun ⟨k,o'⟩ hy t h=>?_
  obtain⟨Xu,Ze,Zf,Zg⟩:=hy
  simp only at Xu Ze Zf Zg
  (refine au<|yS<|yP Z<|yP Z<|yP Z<|yP Z<|yP Z<|yP Z<|yP Z<|yP Z<|yT<|az Z ?_;refine aa (fun g2=>?_) (fun g2=>?_) <;> try simp only[zB] at g2)
  ·rw[lb] at g2
   obtain⟨z,hz⟩:=bh (l:=a.bores) (i:=k) (by omega)
   have bz:=Sl z (List.mem_of_getElem? hz)
   rw[drop_at hz,WR,W8] at Xu
   have Zv:=FP (aQ x) (aQ z) (Y7 bx) (Y7 bz)
   have KF:=Reg.Xx (Y7 bx) (Y7 bz)
   refine aJ<|aj<|au<|aZ ?_
   refine fB ?_
   (refine aM<|yP Z<|yP Z<|yP Z<|yP Z<|yP Z<|yP Z<|yq Z<|aK zI ?_;refine⟨(bc z),(idx rfl hz),?_⟩)
   refine yk<|yP Z<|yn Z<|aA zI<|aS<|ak<|yq Z<|aA zI<|bd<|aF<|an<|yT<|ai ?_
   refine I2 9 (y:=.ip (bc z)) (fz:=[(9,.iP (bc z))]) (by exact hC) (by exact⟨rfl,rfl⟩) ?_
   (refine au<|yS<|yP Z<|yP Z<|yP Z<|yP Z<|yP Z<|yP Z<|yg Z ?_;refine aa (fun g3=>?_) (fun g3=>?_) <;> try simp only[zB] at g3)
   ·rw[if_pos (.inl g3),List.nil_append] at Xu
    ((refine cB<|ae<|y0 Z<|y0 Z<|y0 Z<|y0 Z<|yP Z<|yT<|az Z<|fy<|bT<|aY<|bU<|aj ?_;refine aM<|yP Z<|yq Z<|bg zI ?_);refine sI ?_)
    (refine yk<|yA Z<|yT<|ai ?_;refine⟨(k+1,o'),_,aW.refl _ _,?_⟩)
    exact⟨⟨Xu,by simp only;omega,by simp only;omega,by simp only;omega⟩,by simp only;omega,⟨Z,Z,Z,Z,Z,Z,Z,Z,Z,Y⟩,⟨Z,Y⟩⟩
   (refine bS<|bA Z Z<|aA zI<|yk<|y1 Z<|y1 Z<|y1 Z<|y1 Z<|yP Z<|yT<|az Z ?_;refine aa (fun g4=>?_) (fun g4=>?_) <;> try simp only[zB] at g4)
   ·rw[if_pos (.inr g4),List.nil_append] at Xu
    (refine bT<|aY<|bU<|aj<|aM<|yP Z<|yq Z<|bg zI ?_;refine sI ?_)
    (refine yk<|yA Z<|yT<|ai ?_;refine⟨(k+1,o'),_,aW.refl _ _,?_⟩)
    exact⟨⟨Xu,by simp only;omega,by simp only;omega,by simp only;omega⟩,by simp only;omega,⟨Z,Z,Z,Z,Z,Z,Z,Z,Z,Y⟩,⟨Z,Y⟩⟩
   rw[if_neg (by rintro (e | e);exact g3 e;exact g4 e)] at Xu
   generalize B0 (aQ x) (aQ z)=fr at *
   (refine aJ<|aj<|yS<|yP Z<|yn Z<|aK zI ?_;refine⟨_,_,(dv x bx),?_⟩)
   ((refine b9 Z Z (ae (yn Z (aA zI (aS (ak (yq Z (aA zI (bd (aF (an (yT (au (cH [] false Zk rfl (by kernel_rfl) ?_)))))))))))));refine ay Z<|ay Z<|cA Z Z<|cA Z Z<|cG Z<|yD Z<|yD Z<|dq Z<|aK zI ?_);refine⟨_,_,(dv z bz),?_⟩)
   (refine bB<|ae<|dq Z<|aK zI ?_;refine⟨_,_,Zv,?_⟩)
   (refine bB<|ae<|dq Z<|bg zI ?_;refine sI ?_)
   ((refine bB<|ae<|yD Z<|cn<|aq Z<|aq Z<|aq Z<|aq Z<|aq Z<|dW Z Z<|fo Z<|aj<|yS<|yP Z ?_;refine yP Z<|yP Z<|yP Z<|yT<|az Z ?_);refine aa (fun g5=>?_) (fun g5=>?_) <;> try simp only[zB] at g5)
   ·rw[if_pos g5] at Xu
    ((refine aM<|yq Z<|aA zI<|bd<|af<|yP Z<|yP Z<|yP Z<|yP Z<|yP Z<|yV Z<|yP Z<|yV Z<|yP Z ?_;refine yP Z<|yP Z<|yn Z<|aA zI<|aS<|af<|yn Z<|bg zI ?_);refine And.intro ⟨fun r hr=>by simp at hr;subst hr;rfl,by simp only[List.length_map,List.length_set,List.length_replicate,List.length_append,List.length_cons,List.length_nil];omega,by simp only[List.length_map,List.length_set,List.length_replicate,List.length_append,List.length_cons,List.length_nil];omega⟩ ?_)
    (refine aS<|aF<|af<|cD Z<|cr Z Z Z Z Z<|cL<|bp<|aj<|aM<|yP Z<|yq Z<|bg zI ?_;refine sI ?_)
    (refine yk<|yA Z<|yT<|ai ?_;refine⟨(k+1,o'++[⟨5,i,k,fr - 1,r.holeGap,((aQ x).x0,(aQ x).y0)⟩]),_,aW.refl _ _,?_⟩)
    exact⟨⟨by rw[<-Xu];simp only[List.append_assoc,List.singleton_append,List.cons_append,List.nil_append],by simp only[List.length_append,List.length_singleton];omega,by simp only;omega,by simp only;omega⟩,by simp only;omega,⟨Z,Z,Z,Z,Z,Z,Z,Z,Z,Y⟩,⟨by rw[List.map_append];rfl,trivial⟩⟩
   rw[if_neg g5,List.nil_append] at Xu
   (refine aJ<|bp<|aj<|aM<|yP Z<|yq Z<|bg zI ?_;refine sI ?_)
   (refine yk<|yA Z<|yT<|ai ?_;refine⟨(k+1,o'),_,aW.refl _ _,?_⟩)
   exact⟨⟨Xu,by simp only;omega,by simp only;omega,by simp only;omega⟩,by simp only;omega,⟨Z,Z,Z,Z,Z,Z,Z,Z,Z,Y⟩,⟨Z,Y⟩⟩
  rw[lb] at g2
  rw[List.drop_of_length_le (show a.bores.length<=k by omega),WR,List.nil_append] at Xu
  (refine bT<|aY<|aY<|bU<|bp<|aj<|aM<|yq Z<|bg zI ?_;refine sI ?_)
  (refine yk<|yP Z<|yT<|ai ?_;refine⟨(i+1,o'),_,aW.refl _ _,?_⟩)
  exact⟨⟨Xu,by simp only;omega,by simp only;omega⟩,by simp only;omega,⟨Z,Z,Z,Z,Z,Z,Y⟩,⟨Z,Y⟩⟩
 rw[List.drop_of_length_le (by omega),Ws,List.append_nil] at x1
 have x1:o=G:=x1
 (refine bT<|aY<|aY<|bU<|aj<|yS<|yq Z<|aA zI<|bd<|af<|cD Z<|cr Z Z Z Z Z<|yR zi ?_;refine And.intro ?_ trivial)
 rw[<-x1]
theorem YF {a:Wt} (gd:jG a) {layer:Int} {Zs:List aB} (h:a.coppers[layer.toNat]?=some Zs):a.coppers.getD layer.toNat []=Zs:=by rw[List.getD_eq_getElem?_getD,h];rfl
theorem YO {x:en} (h:cx x=true):hZ (Xn x)/\cQ 1110000 (Xn x):=by
 obtain⟨o1,o2⟩:=Ey h
 obtain⟨s1,_,s3⟩:=Reg.ff o1 (l:=1) (r:=1) (d:=0) (u:=0) (by omega) (by omega) (by omega) (by omega)
 obtain⟨t1,_,t3⟩:=Reg.ff o1 (l:=0) (r:=0) (d:=1) (u:=1) (by omega) (by omega) (by omega) (by omega)
 obtain⟨u1,_,u3⟩:=Reg.va s1 t1
 exact⟨u1,u3 _ (s3 1010000 100000 o2 (by omega) (by omega) (by omega) (by omega)) (t3 1010000 100000 o2 (by omega) (by omega) (by omega) (by omega))⟩
theorem Yn (r:bR) (hg:iz r) (a:Wt) (gd:vG a):aD C 37 [.pv (.ag (rl r)),.pv (.ip (kY a))] (.p (.sl ((Wx r.ring a.bores a.coppers 0 a.bores).map W2))) []:=by
 have lb:=aN a.bores bc
 have few:=gd.art.few
 have cop:=gd.art.cop
 have Sl:=vH gd.art
 have Sm:=hg.nums
 simp only[ke,di,Bool.and_eq_true,decide_eq_true_eq] at Sm
 obtain⟨G,hG⟩:∃G,G=Wx r.ring a.bores a.coppers 0 a.bores:=⟨_,rfl⟩
 rw[<-hG]
 refine aT hC Tryz.func37 rfl rfl 116 rfl (by decide) (by kernel_rfl) fun _ _ _ _ _=>?_
 (refine yS<|yn Z<|aA zI<|aS<|ak<|yB Z<|yU<|yB Z<|yT<|au<|yS<|yP Z<|yP Z<|yP Z ?_;refine yP Z<|yP Z<|yP Z<|yP Z<|yT<|aZ ?_)
 refine aI (fun x:Nat×List Break=>x.2++Wx r.ring a.bores a.coppers x.1 (a.bores.drop x.1)=G/\x.2.length<=16*x.1/\x.1<=a.bores.length) (fun x=>[(1,.p (.ip (kY a))),(2,.p (.ip (rl r))),(5,.ow 5),(22,.p (.sl (a.bores.map bc))),(23,.p (i64 a.bores.length)),(24,.p (i64 x.1))]) (fun x=>[(5,.row 64 (x.2.map W2))]) (fun x=>a.bores.length - x.1) (0,[]) _ ((aW.fa (by exact hC) _ 5 64 _ (by decide) (by exact rfl) (by exact rfl) (by decide)).trans (aW.gC (by exact hC) _ 2 (y:=.ip (rl r)) (fz:=[(2,.iP (rl r))]) (by exact⟨rfl,rfl⟩))) ⟨by rw[hG];rfl,by simp,Nat.zero_le _⟩ ⟨rfl,rfl,rfl,rfl,congrArg (fun m:Nat=>AV.p (i64 m)) lb,Z,Y⟩ ⟨Z,Y⟩ fun ⟨i,o⟩ hx t h=>?_
 obtain⟨x1,x2,x3⟩:=hx
 simp only at x1 x2 x3
 (refine yS<|yP Z<|yT<|au<|az Z ?_;refine aa (fun g1=>?_) (fun g1=>?_) <;> try simp only[zB] at g1)
 ·obtain⟨x,Sr⟩:=bh (l:=a.bores) (i:=i) (by omega)
  have Tb:=List.mem_of_getElem? Sr
  have bx:=Sl x Tb
  obtain⟨_,ZF,ble,ZG⟩:=gd.art.bor x Tb
  obtain⟨so,ko⟩:=Ey bx
  rw[drop_at Sr,Wx] at x1
  have Lo:=Dx bx
  obtain⟨O,hO⟩:∃O,O=a_ [aQ x]:=⟨_,rfl⟩
  rw[<-hO] at Lo so ko
  have Zw:=zj O so (ko.up (by omega)) 1 1 0 0 (by omega) (by omega) (by omega) (by omega)
  have Zx:=zj O so (ko.up (by omega)) 0 0 1 1 (by omega) (by omega) (by omega) (by omega)
  obtain⟨s1,_,s3⟩:=Reg.ff so (l:=1) (r:=1) (d:=0) (u:=0) (by omega) (by omega) (by omega) (by omega)
  obtain⟨t1,_,t3⟩:=Reg.ff so (l:=0) (r:=0) (d:=1) (u:=1) (by omega) (by omega) (by omega) (by omega)
  have s3:=s3 1010000 100000 ko (by omega) (by omega) (by omega) (by omega)
  have t3:=t3 1010000 100000 ko (by omega) (by omega) (by omega) (by omega)
  have xo:=A_ _ _ s1 t1 (s3.up (by omega)) (t3.up (by omega))
  have eX:ru (bX O 1 1 0 0) (bX O 0 0 1 1)=Xn x:=by rw[hO];rfl
  rw[eX] at xo
  obtain⟨Zy,Zz⟩:=YO bx
  refine aJ<|aj<|au<|aZ ?_
  refine fB ?_
  (refine aM<|yP Z<|yq Z<|aK zI ?_;refine⟨(bc x),(idx rfl Sr),?_⟩)
  refine yk<|yP Z<|yn Z<|aA zI<|aS<|ak<|yA Z<|yq Z<|aA zI<|bd<|aF<|an<|yT<|ai ?_
  refine I2 7 (y:=.ip (bc x)) (fz:=[(7,.iP (bc x))]) (by exact hC) (by exact⟨rfl,rfl⟩) ?_
  (refine yS<|yP Z<|yn Z<|aK zI ?_;refine⟨_,_,(dv x bx),?_⟩)
  refine b9 Z Z<|ae<|yn Z<|aA zI<|aS<|ak<|yq Z<|aA zI<|bd<|aF<|an<|yT ?_
  refine fB ?_
  (refine aM<|yP Z<|yn Z<|aA zI<|aS<|af<|yn Z<|aK zI ?_;refine⟨_,_,Lo,?_⟩)
  refine b9 Z Z<|aF<|ae<|yn Z<|aA zI<|aS<|ak<|yq Z<|aA zI<|bd<|aF<|an<|yT<|ai ?_
  refine I2 9 (y:=.ip [aG O]) (fz:=[(9,.iP [aG O])]) (by exact hC) (by exact⟨rfl,rfl⟩) ?_
  refine yS<|yP Z<|yP Z<|yA Z<|yT<|aZ ?_
  refine aI (fun y:Nat×Int×List Break=>y.2.2++(WK r.ring a.bores a.coppers i x y.1 y.2.1++Wx r.ring a.bores a.coppers (i+1) (a.bores.drop (i+1)))=G/\y.1=(x.hi+1 - y.2.1).toNat/\y.2.2.length+y.1<=16*(i+1)/\x.lo<=y.2.1/\y.2.1<=x.hi+1) (fun y=>[(1,.p (.ip (kY a))),(2,.p (.ip (rl r))),(5,.ow 5),(6,.p (i64 i)),(7,.p (.ip (bc x))),(9,.p (.ip [aG O])),(10,.p (i64 y.2.1)),(22,.p (.sl (a.bores.map bc))),(23,.p (i64 a.bores.length)),(24,.p (i64 i))]) (fun y=>[(5,.row 64 (y.2.2.map W2))]) (fun y=>y.1) ((x.hi+1 - x.lo).toNat,x.lo,o) _ (aW.refl _ _) ⟨x1,rfl,by simp only;omega,by simp only;omega,by simp only;omega⟩ ⟨Z,Z,Z,Z,Z,Z,Z,Z,Z,Z,Y⟩ ⟨Z,Y⟩ fun ⟨n,layer,o'⟩ hy t h=>?_
  obtain⟨Xu,Ze,Zf,Zg,ZA⟩:=hy
  simp only at Xu Ze Zf Zg ZA
  (refine au<|yS<|yP Z<|yP Z<|yP Z<|yg Z ?_;refine aa (fun g2=>?_) (fun g2=>?_) <;> try simp only[zB] at g2)
  ·(refine bS<|bA Z Z<|aA zI<|yk<|y1 Z<|y1 Z<|y1 Z<|yP Z<|yT<|az Z ?_;refine aa (fun g3=>?_) (fun g3=>?_) <;> try simp only[zB] at g3)
   ·obtain⟨m,rfl⟩:∃m,n=m+1:=⟨n - 1,by omega⟩
    rw[WK,if_pos ⟨g2,g3⟩,W7] at Xu
    obtain⟨rg,Zh⟩:=bh (l:=a.coppers) (i:=layer.toNat) (by omega)
    have PK:=YF gd.art Zh
    have QN:=gd.art.reg rg (List.mem_of_getElem? Zh)
    obtain⟨sr,kr⟩:=kS QN
    obtain⟨sc,kc⟩:=Yw gd.art i layer
    have Zi:WJ a.bores i layer 0 a.bores (a_ rg)=Wv a.bores a.coppers i layer:=by rw[Wv,PK]
    rw[PK,<-hO] at Xu
    have hand:=xz (a_ rg) (Xn x) sr Zy (kr.up (by omega)) (Zz.up (by omega))
    obtain⟨T,hT⟩:∃T,T=jm (a_ rg) (Xn x):=⟨_,rfl⟩
    rw[<-hT] at Xu hand
    have lT:=aN T hb
    have ZB:=vI (mQ QN)
    generalize a_ rg=R0 at *
    generalize Xn x=X at *
    (refine aJ<|aj<|au<|aZ<|yS<|yP Z<|yP Z<|yP Z<|yP Z<|yP Z<|yP Z<|yq Z<|aK zI ?_;refine⟨(rr rg),(idx (show layer=(layer.toNat:Int) by omega) Zh),?_⟩)
    (refine yk<|yP Z<|yn Z<|aK zI ?_;refine⟨_,_,ZB,?_⟩)
    ((refine b9 Z Z (ae (yn Z (aA zI (aS (ak (yq Z (aA zI (bd (aF (an (yT (au (cH [] false Zk rfl (by kernel_rfl) ?_)))))))))))));refine ay Z<|cA Z Z<|ay Z<|cA Z Z<|cA Z Z<|cG Z<|yD Z<|dq Z<|aK zI ?_);refine⟨_,_,Zw,?_⟩)
    (refine bB<|ae<|yD Z<|dq Z<|aK zI ?_;refine⟨_,_,Zx,?_⟩)
    (refine bB<|ae<|dq Z<|aK zI ?_;refine⟨_,_,xo,?_⟩)
    ((refine bB<|ae<|yD Z<|cn<|aq Z<|aq Z<|aq Z<|aq Z<|aq Z<|dW Z Z<|fo Z<|aj<|au<|yS ?_;refine yP Z<|yP Z<|yn Z<|aK zI ?_);refine⟨_,_,hand,?_⟩)
    (refine b9 Z Z<|ae<|yP Z<|yP Z<|yT<|az Z ?_;refine aa (fun g4=>?_) (fun g4=>?_) <;> try simp only[zB] at g4)
    ·have e:T=[]:=List.length_eq_zero_iff.1 (by omega)
     rw[if_pos e,List.nil_append] at Xu
     (refine bT<|aY<|bU<|aj<|aM<|yP Z<|yq Z<|bg zI ?_;refine And.intro ⟨by dsimp only;omega,by dsimp only;omega⟩ ?_)
     (refine yk<|yA Z<|yT<|ai ?_;refine⟨(m,layer+1,o'),_,aW.refl _ _,?_⟩)
     exact⟨⟨Xu,by simp only;omega,by simp only;omega,by simp only;omega,by simp only;omega⟩,by simp only;omega,⟨Z,Z,Z,Z,Z,Z,Z,Z,Z,Z,Y⟩,⟨Z,Y⟩⟩
    have e:T≠[]:=fun e=>g4 (by rw[e];rfl)
    rw[if_neg e] at Xu
    have TP:=Yk O (Wv a.bores a.coppers i layer) so ko sc kc r.ring (by omega) (by omega)
    have Uv:=YB O (Wv a.bores a.coppers i layer) so ko sc kc r.ring (by omega) (by omega)
    have ZC:=(YE so sc (n:=r.ring) (by omega)).1
    generalize Wo (fun n=>decide (n < 0) || decide (WM O (Wv a.bores a.coppers i layer) n=[])) r.ring=gr at *
    generalize WM O (Wv a.bores a.coppers i layer) r.ring=L at *
    generalize Wv a.bores a.coppers i layer=CA at *
    have lL:=aN L hb
    refine aJ<|aj ?_
    refine fB ?_
    refine yS<|yP Z<|yP Z<|yP Z<|yP Z<|yP Z<|yP Z<|yP Z<|yT<|aZ ?_
    refine aI (fun z:Nat×List ax=>WJ a.bores i layer z.1 (a.bores.drop z.1) z.2=CA/\hZ z.2/\cQ 2000000 z.2/\z.1<=a.bores.length) (fun z=>[(1,.p (.ip (kY a))),(2,.p (.ip (rl r))),(5,.ow 5),(6,.p (i64 i)),(7,.p (.ip (bc x))),(9,.p (.ip [aG O])),(10,.p (i64 layer)),(11,.bx 11 0),(22,.p (.sl (a.bores.map bc))),(23,.p (i64 a.bores.length)),(24,.p (i64 i)),(69,.p (.sl (a.bores.map bc))),(70,.p (i64 a.bores.length)),(71,.p (i64 z.1))]) (fun z=>[(5,.row 64 (o'.map W2)),(11,.box [.p (aG z.2)])]) (fun z=>a.bores.length - z.1) (0,R0) _ (aW.refl _ _) ⟨Zi,sr,kr.up (by omega),Nat.zero_le _⟩ ⟨rfl,rfl,rfl,rfl,rfl,rfl,rfl,rfl,rfl,rfl,rfl,rfl,congrArg (fun m:Nat=>AV.p (i64 m)) lb,Z,Y⟩ ⟨Z,Z,Y⟩ fun ⟨k,s⟩ hz t h=>?_
    obtain⟨z1,z2,z3,z4⟩:=hz
    simp only at z1 z2 z3 z4
    (refine yS<|yP Z<|yT<|au<|az Z ?_;refine aa (fun g5=>?_) (fun g5=>?_) <;> try simp only[zB] at g5)
    ·obtain⟨v,hv⟩:=bh (l:=a.bores) (i:=k) (by omega)
     have bv:=Sl v (List.mem_of_getElem? hv)
     obtain⟨sv,kv⟩:=Ey bv
     rw[drop_at hv,WJ] at z1
     have Pa:=A_ s (a_ [aQ v]) z2 sv z3 (kv.up (by omega))
     have ZD:=Dx bv
     obtain⟨Vy,_,Vz⟩:=Reg.va z2 sv
     have Vz:=Vz 2000000 z3 (kv.up (by omega))
     refine aJ<|aj<|au<|aZ ?_
     refine fB ?_
     (refine aM<|yP Z<|yq Z<|aK zI ?_;refine⟨(bc v),(idx rfl hv),?_⟩)
     refine yk<|yP Z<|yn Z<|aA zI<|aS<|ak<|yA Z<|yq Z<|aA zI<|bd<|aF<|an<|yT<|ai ?_
     refine I2 14 (y:=.ip (bc v)) (fz:=[(14,.iP (bc v))]) (by exact hC) (by exact⟨rfl,rfl⟩) ?_
     (refine yS<|yP Z<|yP Z<|yP Z<|yP Z<|yg Z ?_;refine aa (fun g6=>?_) (fun g6=>?_) <;> try simp only[zB] at g6)
     ·have ZE:k≠i:=fun e=>g6 (by rw[e])
      (refine bS<|bA Z Z<|aA zI<|yk<|y1 Z<|y2 Z<|jB Z Z Z<|aK zI ?_;refine⟨_,_,(ig v layer),?_⟩)
      (refine b9 Z Z<|ae<|yP Z<|yT<|az Z ?_;refine aa (fun g7=>?_) (fun g7=>?_) <;> try simp only[zB] at g7)
      ·rw[if_pos ⟨ZE,g7⟩] at z1
       (refine cH [] false Zl rfl (by kernel_rfl)<|ay Z<|ay Z<|cA Z Z<|cA Z Z<|cA Z Z<|cA Z Z<|cG Z<|yD Z<|yD Z<|dq Z<|aK zI ?_;refine⟨_,_,(dv v bv),?_⟩)
       (refine bB<|ae<|dq Z<|aA zI<|jA Z Z<|af<|dq Z<|aK zI ?_;refine⟨_,_,ZD,?_⟩)
       (refine bB<|ae<|dq Z<|aK zI ?_;refine⟨_,_,Pa,?_⟩)
       (refine bB<|ae<|dq Z<|aA zI<|iG Z<|aF<|an<|cn<|fo Z<|bp<|aj<|aM<|yq Z<|bg zI ?_;refine sI ?_)
       (refine yk<|yP Z<|yT<|ai ?_;refine⟨(k+1,ru s (a_ [aQ v])),_,aW.refl _ _,?_⟩)
       exact⟨⟨z1,Vy,Vz,by simp only;omega⟩,by simp only;omega,⟨Z,Z,Z,Z,Z,Z,Z,Z,Z,Z,Z,Z,Z,Z,Y⟩,⟨Z,Z,Y⟩⟩
      rw[if_neg fun e=>by rw[e.2] at g7;cases g7] at z1
      (refine aJ<|bp<|aj<|aM<|yq Z<|bg zI ?_;refine sI ?_)
      (refine yk<|yP Z<|yT<|ai ?_;refine⟨(k+1,s),_,aW.refl _ _,?_⟩)
      exact⟨⟨z1,z2,z3,by simp only;omega⟩,by simp only;omega,⟨Z,Z,Z,Z,Z,Z,Z,Z,Z,Z,Z,Z,Z,Z,Y⟩,⟨Z,Z,Y⟩⟩
     rw[if_neg fun e=>e.1 (by omega)] at z1
     (refine cB<|ae<|y0 Z<|y0 Z<|yP Z<|yT<|az Z<|cM<|aJ<|bp<|aj<|aM<|yq Z<|bg zI ?_;refine sI ?_)
     (refine yk<|yP Z<|yT<|ai ?_;refine⟨(k+1,s),_,aW.refl _ _,?_⟩)
     exact⟨⟨z1,z2,z3,by simp only;omega⟩,by simp only;omega,⟨Z,Z,Z,Z,Z,Z,Z,Z,Z,Z,Z,Z,Z,Z,Y⟩,⟨Z,Z,Y⟩⟩
    rw[List.drop_of_length_le (show a.bores.length<=k by omega),WJ] at z1
    subst z1
    refine bT<|aY<|aY<|bU<|aj<|ai ?_
    refine I2 11 (y:=.ip [aG s]) (fz:=[(11,.iP [aG s])]) (by exact hC) (by exact⟨rfl,rfl⟩) ?_
    skip
    refine fB ?_
    refine aM<|yV Z<|yn Z<|aA zI<|aS<|ak<|yq Z<|aA zI<|bd<|aF<|an<|yT<|ai ?_
    refine CR ((aW.Y1 (by exact hC) _ 15 0 91 [.ip [aG O],.ip [aG s]] [.fn 91 [.p (.ip [aG O]),.p (.ip [aG s])]] (by exact rfl) (by exact rfl)).trans (aW.gC (by exact hC) _ 15 (y:=.ip [XB O s]) (fz:=[(15,.iP [XB O s])]) (by exact⟨rfl,rfl⟩))) ?_
    (refine yS<|yP Z<|yP Z<|yP Z<|yn Z<|aK zI ?_;refine⟨_,_,Uv,?_⟩)
    (refine b9 Z Z<|ae<|yA Z<|yU<|yP Z<|yP Z<|yP Z<|yT<|az Z ?_;refine aa (fun g8=>?_) (fun g8=>?_) <;> try simp only[zB] at g8)
    ·have e:L≠[]:=fun e=>by rw[e] at g8;simp at g8
     rw[if_neg e] at Xu
     (refine yS<|yP Z<|yP Z<|yV Z<|yn Z<|aK zI ?_;refine⟨_,_,TP,?_⟩)
     ((refine b9 Z Z<|ae<|yA Z<|yT<|cH [] true HF rfl (by kernel_rfl)<|ay Z<|ay Z<|ay Z<|ay Z<|ay Z<|ay Z<|ay Z<|cA Z Z<|ay Z ?_;refine cA Z Z<|cA Z Z<|cG Z<|dq Z<|aA zI<|bB<|af<|yD Z<|yD Z<|yD Z<|yD Z<|yD Z<|yD Z<|dq Z ?_;refine aK zI ?_);refine⟨_,_,(BY L ZC e),?_⟩)
     (refine bB<|ae<|yD Z<|dq Z<|aA zI<|jA Z Z<|af<|dq Z<|bg zI ?_;refine And.intro ⟨fun r hr=>by simp at hr;subst hr;rfl,by simp only[List.length_map,List.length_set,List.length_replicate,List.length_append,List.length_cons,List.length_nil];omega,by simp only[List.length_map,List.length_set,List.length_replicate,List.length_append,List.length_cons,List.length_nil];omega⟩ ?_)
     ((refine hD Z Z Z<|fM<|g_<|af<|dq Z<|aA zI<|bB<|af<|cn<|aq Z<|aq Z<|aq Z<|aq Z<|aq Z ?_;refine aq Z<|aq Z<|aq Z<|aq Z<|aq Z<|aq Z<|Fp Z Z Z Z Z<|fo Z<|bp<|aj<|aM<|yP Z<|yq Z<|bg zI ?_);refine sI ?_)
     (refine yk<|yA Z<|yT<|ai ?_;refine⟨(m,layer+1,o'++[⟨3,i,layer,gr,r.ring,ri L⟩]),_,aW.refl _ _,?_⟩)
     exact⟨⟨by rw[<-Xu];simp only[List.append_assoc,List.singleton_append,List.cons_append,List.nil_append],by simp only;omega,by simp only[List.length_append,List.length_singleton];omega,by simp only;omega,by simp only;omega⟩,by simp only;omega,⟨Z,Z,Z,Z,Z,Z,Z,Z,Z,Z,Y⟩,⟨by rw[List.map_append];rfl,trivial⟩⟩
    have e:L=[]:=List.length_eq_zero_iff.1 (by omega)
    rw[if_pos e,List.nil_append] at Xu
    (refine aJ<|bp<|aj<|aM<|yP Z<|yq Z<|bg zI ?_;refine sI ?_)
    (refine yk<|yA Z<|yT<|ai ?_;refine⟨(m,layer+1,o'),_,aW.refl _ _,?_⟩)
    exact⟨⟨Xu,by simp only;omega,by simp only;omega,by simp only;omega,by simp only;omega⟩,by simp only;omega,⟨Z,Z,Z,Z,Z,Z,Z,Z,Z,Z,Y⟩,⟨Z,Y⟩⟩
   have e0:n=0:=by omega
   subst e0
   rw[WK,List.nil_append] at Xu
   (refine bT<|aY<|aY<|bU<|bp<|aj<|aM<|yq Z<|bg zI ?_;refine sI ?_)
   (refine yk<|yP Z<|yT<|ai ?_;refine⟨(i+1,o'),_,aW.refl _ _,?_⟩)
   exact⟨⟨Xu,by simp only;omega,by simp only;omega⟩,by simp only;omega,⟨Z,Z,Z,Z,Z,Z,Y⟩,⟨Z,Y⟩⟩
  have e0:WK r.ring a.bores a.coppers i x n layer=[]:=by
   cases n with
   | zero=>rfl
   | succ n=>rw[WK,if_neg fun e=>by rw[e.1] at g2;simp at g2]
  rw[e0,List.nil_append] at Xu
  ((refine cB<|ae<|y0 Z<|y0 Z<|y0 Z<|yP Z<|yT<|az Z<|cM<|bT<|aY<|aY<|bU<|bp ?_;refine aj<|aM<|yq Z<|bg zI ?_);refine sI ?_)
  (refine yk<|yP Z<|yT<|ai ?_;refine⟨(i+1,o'),_,aW.refl _ _,?_⟩)
  exact⟨⟨Xu,by simp only;omega,by simp only;omega⟩,by simp only;omega,⟨Z,Z,Z,Z,Z,Z,Y⟩,⟨Z,Y⟩⟩
 rw[List.drop_of_length_le (by omega),Wx,List.append_nil] at x1
 have x1:o=G:=x1
 (refine bT<|aY<|aY<|bU<|aj<|yS<|yq Z<|aA zI<|bd<|af<|cD Z<|cr Z Z Z Z Z<|yR zi ?_;refine And.intro ?_ trivial)
 rw[<-x1]
theorem Yc (r:bR) (B:l9) (nets:List ByteArray) (i k:Nat) (p q:Piece):(WO r B nets i k p q).length<=1:=by
 rw[WO]
 split
 ·simp
 split <;> simp
theorem Xv (r:bR) (B:l9) (nets:List ByteArray) (i:Nat) (p:Piece):∀(t:List Piece) (k:Nat),(WI r B nets i p k t).length<=t.length
 | [],_=>Nat.le_refl _
 | q::t,k=>by
  rw[WI]
  split
  ·have h1:=Yc r B nets i k p q
   have h2:=Xv r B nets i p t (k+1)
   rw[List.length_append,List.length_cons]
   omega
  simp
theorem XZ (r:bR) (B:l9) (nets:List ByteArray):∀(t:List Piece) (i:Nat),(WD r B nets i t).length<=t.length*t.length
 | [],_=>Nat.le_refl _
 | q::t,k=>by
  rw[WD,List.length_append,List.length_cons,Nat.succ_mul_succ]
  have h1:=Xv r B nets k q t (k+1)
  have h2:=XZ r B nets t (k+1)
  omega
theorem XH (r:bR) (B:l9) (nets:List ByteArray):∀(t:List Piece) (i:Nat),(Wr r B nets i t).length<=t.length
 | [],_=>Nat.le_refl _
 | q::t,k=>by
  rw[Wr,List.length_append,List.length_cons,WS]
  have h2:=XH r B nets t (k+1)
  split
  ·simp only[List.length_nil];omega
  simp only[List.length_cons,List.length_nil];omega
theorem X0 (g:Int) (o:List ax):∀(t:List Piece) (i:Nat),(Wy g o i t).length<=t.length
 | [],_=>Nat.le_refl _
 | q::t,k=>by
  rw[Wy,List.length_append,List.length_cons,Xj]
  have h2:=X0 g o t (k+1)
  split
  ·simp only[List.length_nil];omega
  simp only[List.length_cons,List.length_nil];omega
theorem XI (g:Int) (bs:List en) (cs:List (List aB)) (i:Nat) (x:en):∀(n:Nat) (l:Int),(WK g bs cs i x n l).length<=n
 | 0,_=>Nat.le_refl _
 | n+1,l=>by
  rw[WK]
  split
  ·have h2:=XI g bs cs i x n (l+1)
   rw[List.length_append,W7]
   split
   ·simp only[List.length_nil];omega
   split
   ·simp only[List.length_nil];omega
   simp only[List.length_cons,List.length_nil];omega
  simp
theorem X1 (g:Int) (bs:List en) (cs:List (List aB)):∀(t:List en) (i:Nat),(∀x∈t,x.hi+1 - x.lo<=16)->(Wx g bs cs i t).length<=16*t.length
 | [],_,_=>Nat.le_refl _
 | q::t,k,h=>by
  rw[Wx,List.length_append,List.length_cons]
  have h1:=XI g bs cs k q (q.hi+1 - q.lo).toNat q.lo
  have h2:=X1 g bs cs t (k+1) fun x hx=>h x (List.mem_cons_of_mem _ hx)
  have:=h q List.mem_cons_self
  omega
theorem XJ (g:Int) (i:Nat) (x:en):∀(t:List en) (k:Nat),(WR g i x k t).length<=t.length
 | [],_=>Nat.le_refl _
 | q::t,k=>by
  rw[WR,List.length_append,List.length_cons,W8]
  have h2:=XJ g i x t (k+1)
  split
  ·simp only[List.length_nil];omega
  split
  ·simp only[List.length_cons,List.length_nil];omega
  simp only[List.length_nil];omega
theorem X2 (g:Int):∀(t:List en) (i:Nat),(Ws g i t).length<=t.length*t.length
 | [],_=>Nat.le_refl _
 | q::t,k=>by
  rw[Ws,List.length_append,List.length_cons,Nat.succ_mul_succ]
  have h1:=XJ g k q t (k+1)
  have h2:=X2 g t (k+1)
  omega
theorem Y0 {n k:Nat} (h:n<=k):n*n<=k*k:=Nat.mul_le_mul h h
theorem YG (r:bR) (hr:ic r) (a:Wt) (ha:oh a) (nets:List ByteArray) (hn:sD nets):aD C 15 [.pv (.ag (rl r)),.pv (.ag (kG a)),.pv (strs nets)] (.tu [.sl ((XT r a nets).1.map W2),i64 (XT r a nets).2]) []:=by
 have aU:=Dz r hr a ha nets hn
 by_cases g:kZ r a nets=0
 ·rw[XT,if_pos g]
  rw[zE,if_pos g,g] at aU
  rw[kZ] at g
  by_cases g1:cK r≠0
  ·rw[if_pos g1] at g;exact absurd g g1
  rw[if_neg g1] at g
  by_cases g2:cC a≠0
  ·rw[if_pos g2] at g;exact absurd g g2
  rw[if_neg g2] at g
  by_cases g3:nets.length≠(aw a).placed.groups.length
  ·rw[if_pos g3] at g;cases g
  have hg:iz r:=vg (by simpa using g1)
  have gd:vG a:=sC (by simpa using g2)
  have hl:nets.length=(aw a).placed.groups.length:=by simpa using g3
  have n1:=XZ r (aw a) nets (aw a).pieces 0
  have n2:=XH r (aw a) nets (aw a).pieces 0
  have n3:=X1 r.ring a.bores a.coppers a.bores 0 fun x hx=>by
   have:=gd.art.bor x hx
   have:=gd.art.cop
   obtain⟨_,b1,b2,b3⟩:=gd.art.bor x hx
   omega
  have n4:=X0 r.edge (a_ a.outline) (aw a).pieces 0
  have n5:=X2 r.holeGap a.bores 0
  have f1:=gd.few
  have f2:=gd.art.few
  have f3:=Y0 f1
  have f4:=Y0 f2
  have c1:=Yl r hg a gd nets hl
  have c2:=Yb r hg a gd nets hl
  have c3:=Yn r hg a gd
  have c4:=Ym r hg a gd
  have c5:=XY r hg a gd
  have ct:=Yx (WY r a nets)
  have eA:(WY r a nets).map W2=((((WD r (aw a) nets 0 (aw a).pieces).map W2++(Wr r (aw a) nets 0 (aw a).pieces).map W2)++(Wx r.ring a.bores a.coppers 0 a.bores).map W2)++(Wy r.edge (a_ a.outline) 0 (aw a).pieces).map W2)++(Ws r.holeGap 0 a.bores).map W2:=by
   simp only[WY,List.map_append,List.append_assoc]
  rw[eA] at ct
  generalize Xh (WY r a nets)=FR at *
  generalize WD r (aw a) nets 0 (aw a).pieces=l1 at *
  generalize Wr r (aw a) nets 0 (aw a).pieces=l2 at *
  generalize Wx r.ring a.bores a.coppers 0 a.bores=l3 at *
  generalize Wy r.edge (a_ a.outline) 0 (aw a).pieces=l4 at *
  generalize Ws r.holeGap 0 a.bores=l5 at *
  refine aT hC Tryz.func15 rfl rfl 49 rfl (by decide) (by kernel_rfl) fun _ _ _ _ _=>?_
  ((refine yS<|yn Z<|aA zI<|aS<|ak<|yn Z<|aA zI<|aS<|ak<|yB Z<|yA Z<|yU<|yP Z<|yP Z ?_;refine yP Z<|yn Z<|aK zI ?_);refine⟨_,_,aU,?_⟩)
  ((refine b9 Z Z<|bq<|yq Z<|aA zI<|bd<|bq<|yP Z<|yP Z<|yA Z<|yA Z<|yT<|au<|yS<|yP Z ?_;refine yP Z<|yT<|az Z<|cM<|aJ<|aj<|yS<|yP Z<|yP Z<|yP Z<|yn Z<|aK zI ?_);refine⟨_,_,c1,?_⟩)
  (refine aS<|af<|cD Z<|cr Z Z Z Z Z<|yU<|yq Z<|aA zI<|bd<|af<|yP Z<|yP Z<|yP Z<|yn Z<|aK zI ?_;refine⟨_,_,c2,?_⟩)
  (refine b9 Z Z<|ae<|yn Z<|bg zI ?_;refine And.intro ⟨fun r hr=>by obtain⟨b,_,rfl⟩:=List.mem_map.1 hr;rfl,by simp only[List.length_map,List.length_set,List.length_replicate,List.length_append,List.length_cons,List.length_nil];omega,by simp only[List.length_map,List.length_set,List.length_replicate,List.length_append,List.length_cons,List.length_nil];omega⟩ ?_)
  (refine aS<|aF<|af<|cD Z<|cr Z Z Z Z Z<|yU<|yq Z<|aA zI<|bd<|af<|yP Z<|yP Z<|yn Z<|aK zI ?_;refine⟨_,_,c3,?_⟩)
  (refine b9 Z Z<|ae<|yn Z<|bg zI ?_;refine And.intro ⟨fun r hr=>by obtain⟨b,_,rfl⟩:=List.mem_map.1 hr;rfl,by simp only[List.length_map,List.length_set,List.length_replicate,List.length_append,List.length_cons,List.length_nil];omega,by simp only[List.length_map,List.length_set,List.length_replicate,List.length_append,List.length_cons,List.length_nil];omega⟩ ?_)
  (refine aS<|aF<|af<|cD Z<|cr Z Z Z Z Z<|yU<|yq Z<|aA zI<|bd<|af<|yP Z<|yP Z<|yn Z<|aK zI ?_;refine⟨_,_,c4,?_⟩)
  (refine b9 Z Z<|ae<|yn Z<|bg zI ?_;refine And.intro ⟨fun r hr=>by obtain⟨b,_,rfl⟩:=List.mem_map.1 hr;rfl,by simp only[List.length_map,List.length_set,List.length_replicate,List.length_append,List.length_cons,List.length_nil];omega,by simp only[List.length_map,List.length_set,List.length_replicate,List.length_append,List.length_cons,List.length_nil];omega⟩ ?_)
  (refine aS<|aF<|af<|cD Z<|cr Z Z Z Z Z<|yU<|yq Z<|aA zI<|bd<|af<|yP Z<|yP Z<|yn Z<|aK zI ?_;refine⟨_,_,c5,?_⟩)
  (refine b9 Z Z<|ae<|yn Z<|bg zI ?_;refine And.intro ⟨fun r hr=>by obtain⟨b,_,rfl⟩:=List.mem_map.1 hr;rfl,by simp only[List.length_map,List.length_set,List.length_replicate,List.length_append,List.length_cons,List.length_nil];omega,by simp only[List.length_map,List.length_set,List.length_replicate,List.length_append,List.length_cons,List.length_nil];omega⟩ ?_)
  (refine aS<|aF<|af<|yn Z<|aK zI ?_;refine⟨_,_,ct,?_⟩)
  (refine b9 Z Z<|aF<|bq<|yP Z<|yP Z<|yA Z<|yA Z<|yR zi ?_;refine And.intro ?_ trivial)
  rfl
 rw[XT,if_neg g]
 rw[zE,if_neg g] at aU
 refine aT hC Tryz.func15 rfl rfl 49 rfl (by decide) (by kernel_rfl) fun _ _ _ _ _=>?_
 ((refine yS<|yn Z<|aA zI<|aS<|ak<|yn Z<|aA zI<|aS<|ak<|yB Z<|yA Z<|yU<|yP Z<|yP Z ?_;refine yP Z<|yn Z<|aK zI ?_);refine⟨_,_,aU,?_⟩)
 ((refine b9 Z Z<|bq<|yq Z<|aA zI<|bd<|bq<|yP Z<|yP Z<|yA Z<|yA Z<|yT<|au<|yS<|yP Z ?_;refine yP Z<|yT<|az Z ?_);refine aa (fun h=>?_) (fun h=>?_) <;> try simp only[zB] at h)
 ·(refine yS<|yP Z<|yB Z<|yA Z<|yT<|bP<|aX<|bQ zi ?_;refine And.intro ?_ trivial)
  rfl
 exact absurd (by simpa using h) g
open Reg (dc Xg)
theorem YX {r:bR} {a:Wt} {nets:List ByteArray} (g:(XT r a nets).2=0):sE r a nets/\XT r a nets=(WY r a nets,0)/\(WY r a nets).length<=5000:=by
 rw[XT] at g ⊢
 by_cases h:kZ r a nets=0
 ·rw[if_pos h] at g ⊢
  rw[Xh] at g ⊢
  by_cases k:5000 < (WY r a nets).length
  ·rw[if_pos k] at g;cases g
  rw[if_neg k]
  exact⟨xP h,rfl,by omega⟩
 rw[if_neg h] at g;exact absurd g h
theorem YH {r:bR} {a:Wt} {nets:List ByteArray} (g:(XT r a nets).2≠0):(XT r a nets).1=[]:=by
 rw[XT] at g ⊢
 by_cases h:kZ r a nets=0
 ·rw[if_pos h] at g ⊢
  rw[Xh] at g ⊢
  by_cases k:5000 < (WY r a nets).length
  ·rw[if_pos k]
  rw[if_neg k] at g;exact absurd rfl g
 rw[if_neg h]
theorem YP (r:bR) (hr:ic r) (a:Wt) (ha:oh a) (nets:List ByteArray) (hn:sD nets):aD C 5 [.pv (.ag (rl r)),.pv (.ag (kG a)),.pv (strs nets)] (.p (bool true)) []:=by
 have Y8:=YG r hr a ha nets hn
 by_cases g:(XT r a nets).2=0
 ·obtain⟨ok,e,hlen⟩:=YX g
  rw[e] at Y8
  have GM:=fun k=>pZ a ha k (Nat.le_trans ok.board.few (by decide))
  have Pb:∀(i:Nat) b,(WY r a nets)[i]?=some b->b.is < b.need:=fun i b hb=>Yt ok.rules b (List.mem_of_getElem? hb)
  have Zj:=Yv r a nets
  have FB:∀(i:Nat) b,(WY r a nets)[i]?=some b->b∈WY r a nets:=fun i b hb=>List.mem_of_getElem? hb
  have ll:=aN (WY r a nets) W2
  refine aT hC Tryz.func5 rfl rfl 139 rfl (by decide) (by kernel_rfl) fun _ _ _ _ _=>?_
  ((refine yS<|yn Z<|aA zI<|aS<|ak<|yn Z<|aA zI<|aS<|ak<|yA Z<|yU<|yP Z<|yP Z<|yP Z ?_;refine yn Z<|aK zI ?_);refine⟨_,_,Y8,?_⟩)
  (refine b9 Z Z<|bq<|yq Z<|aA zI<|bd<|bq<|yP Z<|yP Z<|yA Z<|yA Z<|yT<|au<|yS<|yP Z ?_;refine yP Z<|yT<|az Z<|cM<|aJ<|aj<|au<|yS<|yA Z<|yT<|aZ ?_)
  refine aI (fun i:Nat=>i<=(WY r a nets).length) (fun i=>[(4,.bx 4 0),(7,.p (.sl ((WY r a nets).map W2))),(9,.p (i64 i))]) (fun _=>[(4,.box [.p (.sl (a.coppers.map rr)),.p (aV a.outline),.p (.sl (a.bores.map bc)),.p (.sl (a.lands.map lc))])]) (fun i=>(WY r a nets).length - i) 0 _ (aW.refl _ _) (Nat.zero_le _) ⟨Z,Z,Z,Y⟩ ⟨Z,Y⟩ fun i hi t h=>?_
  (refine au<|yS<|yP Z<|yP Z<|yP Z<|yP Z<|yT<|az Z ?_;refine aa (fun g1=>?_) (fun g1=>?_) <;> try simp only[zB] at g1)
  ·rw[ll] at g1
   obtain⟨b,hb⟩:=bh (l:=WY r a nets) (i:=i) (by omega)
   have b1:=Pb i b hb
   (refine aJ<|aj<|au<|aZ<|au<|au<|cH [] false Y9 rfl (by kernel_rfl)<|cG Z<|yD Z<|yD Z<|dq Z<|aK zI ?_;refine⟨(W2 b),(idx rfl hb),?_⟩)
   (refine bB<|ae<|yD Z<|yD Z<|yD Z<|yD Z<|dq Z<|aK zI ?_;refine⟨(W2 b),(idx rfl hb),?_⟩)
   (refine bB<|ae<|yD Z<|yD Z<|yD Z<|yD Z<|dg Z ?_;refine aa (fun g2=>?_) (fun g2=>?_) <;> try simp only[zB] at g2)
   ·omega
   (refine bS<|c_ Z<|aA zI<|bB<|ae<|d1 Z<|d1 Z<|dg Z ?_;refine aa (fun g3=>?_) (fun g3=>?_) <;> try simp only[zB] at g3)
   ·obtain⟨b0,Qw⟩:=bh (l:=WY r a nets) (i:=i - 1) (by omega)
    have hk:b0.kind<=b.kind:=by
     have h1:=(List.getElem?_eq_some_iff.1 Qw)
     have h2:=(List.getElem?_eq_some_iff.1 hb)
     obtain⟨h1,rfl⟩:=h1
     obtain⟨h2,rfl⟩:=h2
     exact (List.pairwise_iff_getElem.1 Zj) (i - 1) i h1 h2 (by omega)
    (refine bS<|c_ Z<|aA zI<|bB<|ae<|d1 Z<|d2 Z<|c_ Z<|aK zI ?_;refine⟨(W2 b),(idx rfl hb),?_⟩)
    (refine bB<|ae<|d1 Z<|d1 Z<|d1 Z<|d1 Z<|d2 Z<|c_ Z<|bg zI ?_;refine sI ?_)
    (refine bB<|ae<|d2 Z<|c_ Z<|aK zI ?_;refine⟨(W2 b0),(idx (show (i:Int) - 1=((i - 1:Nat):Int) by omega) Qw),?_⟩)
    (refine bB<|ae<|d1 Z<|d1 Z<|d1 Z<|d1 Z<|yD Z<|cn<|fo Z<|aj<|az Z ?_;refine aa (fun g4=>?_) (fun g4=>?_) <;> try simp only[zB] at g4)
    ·omega
    (refine aJ<|aj<|au<|yS<|yP Z<|yP Z<|yq Z<|aK zI ?_;refine⟨(W2 b),(idx rfl hb),?_⟩)
    (refine yk<|yP Z<|yP Z<|yP Z<|yT<|az Z ?_;refine aa (fun g5=>?_) (fun g5=>?_) <;> try simp only[zB] at g5)
    ·(refine bT<|aY<|bU<|aj<|aM<|yP Z<|yq Z<|bg zI ?_;refine sI ?_)
     (refine yk<|yA Z<|yT<|ai ?_;refine⟨(i+1),_,aW.refl _ _,?_⟩)
     exact⟨by omega,by omega,⟨Z,Z,Z,Y⟩,⟨Z,Y⟩⟩
    have GI:b.kind=1:=by simpa using g5
    obtain⟨i1,k1,p,q,c1,c2,c3,c4,c5,c6,c7⟩:=X6 ok.rules ok.board b (FB i b hb) GI
    have Np:=GM b.a
    have Pz:=GM b.b
    rw[c1,IN ok.open' c3,<-c1] at Np
    rw[c2,IN ok.open' c4,<-c2] at Pz
    have fp:=(ok.board.pc p (List.mem_of_getElem? c3)).few
    have fq:=(ok.board.pc q (List.mem_of_getElem? c4)).few
    have YW:=XS [told p.set,told q.set] (by simp) (fun r hr=>by
     rcases List.mem_cons.1 hr with rfl | hr
     ·omega
     rw[List.mem_singleton] at hr
     subst hr
     omega) 100000
    rw[c5] at YW
    have e1:([{ x7 (told p.set) (told q.set) with a:=0,b:=1 }]:List Reg.YJ).map gc=[[i64 0,i64 1,i64 b.is,i64 b.spot.1,i64 b.spot.2,i64 (x7 (told p.set) (told q.set)).dst.1,i64 (x7 (told p.set) (told q.set)).dst.2]]:=by
     rw[<-c6,<-c7];rfl
    rw[e1] at YW
    ((refine aJ<|aj<|au<|cH [] false HF rfl (by kernel_rfl)<|ay Z<|ay Z<|ay Z<|ay Z<|ay Z<|ay Z<|cA Z Z<|cG Z<|yD Z<|yD Z ?_;refine yD Z<|dq Z<|aK zI ?_);refine⟨(W2 b),(idx rfl hb),?_⟩)
    (refine bB<|ae<|yD Z<|yD Z<|dq Z<|aK zI ?_;refine⟨_,_,Np,?_⟩)
    ((refine bB<|bq<|dq Z<|aA zI<|bB<|bq<|yD Z<|yD Z<|yD Z<|yD Z<|cn<|aq Z<|aq Z<|aq Z ?_;refine aq Z<|aq Z<|aq Z<|aq Z<|aq Z<|aq Z<|aq Z<|dW Z Z<|dW Z Z<|fo Z<|aj<|au<|cH [] false HF rfl (by kernel_rfl)<|ay Z ?_;refine ay Z<|ay Z<|ay Z<|ay Z<|ay Z<|cA Z Z<|cG Z<|yD Z<|yD Z<|yD Z<|dq Z<|aK zI ?_);refine⟨(W2 b),(idx rfl hb),?_⟩)
    (refine bB<|ae<|yD Z<|yD Z<|dq Z<|aK zI ?_;refine⟨_,_,Pz,?_⟩)
    ((refine bB<|bq<|dq Z<|aA zI<|bB<|bq<|yD Z<|yD Z<|yD Z<|yD Z<|cn<|aq Z<|aq Z<|aq Z ?_;refine aq Z<|aq Z<|aq Z<|aq Z<|aq Z<|aq Z<|aq Z<|dW Z Z<|dW Z Z<|fo Z<|aj<|yS<|yP Z<|yP Z ?_;refine yn Z<|aA zI<|aS<|af<|yn Z<|aK zI ?_);refine⟨_,_,YW,?_⟩)
    ((refine b9 Z Z (aF (bq (yq Z (aA zI (bd (bq (yP Z (yP Z (yA Z (yA Z (yT (au (cH [] false Y3 rfl (by kernel_rfl) ?_)))))))))))));refine cG Z<|yD Z<|yD Z<|yD Z<|d1 Z<|d1 Z<|yD Z<|yD Z<|d1 Z<|d1 Z<|yD Z<|yD Z<|d1 Z<|d1 Z ?_;refine d1 Z<|yD Z<|yD Z<|d1 Z<|d2 Z<|c_ Z<|aK zI ?_);refine⟨[i64 0,i64 1,i64 b.is,i64 b.spot.1,i64 b.spot.2,i64 (x7 (told p.set) (told q.set)).dst.1,i64 (x7 (told p.set) (told q.set)).dst.2],⟨Int.le_refl 0,rfl⟩,?_⟩)
    (refine bB<|ae<|d1 Z<|d1 Z<|d1 Z<|d1 Z<|d2 Z<|c_ Z<|aK zI ?_;refine⟨(W2 b),(idx rfl hb),?_⟩)
    (refine bB<|ae<|d1 Z<|d1 Z<|d1 Z<|yD Z<|yD Z<|dg Z ?_;refine aa (fun q1=>?_) (fun q1=>?_) <;> try simp only[zB] at q1)
    ·exact absurd q1 (by simp)
    (refine bS<|c_ Z<|aA zI<|bB<|ae<|d2 Z<|c_ Z<|aK zI ?_;refine⟨[i64 0,i64 1,i64 b.is,i64 b.spot.1,i64 b.spot.2,i64 (x7 (told p.set) (told q.set)).dst.1,i64 (x7 (told p.set) (told q.set)).dst.2],⟨Int.le_refl 0,rfl⟩,?_⟩)
    (refine bB<|ae<|d1 Z<|d1 Z<|d1 Z<|d1 Z<|d2 Z<|c_ Z<|aK zI ?_;refine⟨(W2 b),(idx rfl hb),?_⟩)
    (refine bB<|ae<|d1 Z<|d1 Z<|d1 Z<|yD Z<|cn<|fo Z<|aj<|az Z ?_;refine aa (fun q2=>?_) (fun q2=>?_) <;> try simp only[zB] at q2)
    ·exact absurd q2 (by simp)
    (refine aJ<|bp<|aj<|aM<|yP Z<|yq Z<|bg zI ?_;refine sI ?_)
    (refine yk<|yA Z<|yT<|ai ?_;refine⟨(i+1),_,aW.refl _ _,?_⟩)
    exact⟨by omega,by omega,⟨Z,Z,Z,Y⟩,⟨Z,Y⟩⟩
   ((refine cB<|ae<|d0 Z<|d0 Z<|d0 Z<|d0 Z<|d0 Z<|d0 Z<|d0 Z<|d0 Z<|d0 Z<|d0 Z<|d0 Z<|d1 Z ?_;refine yD Z<|cn<|fo Z<|aj<|az Z<|cM<|aJ<|aj<|au<|yS<|yP Z<|yP Z<|yq Z<|aK zI ?_);refine⟨(W2 b),(idx rfl hb),?_⟩)
   (refine yk<|yP Z<|yP Z<|yP Z<|yT<|az Z ?_;refine aa (fun g5=>?_) (fun g5=>?_) <;> try simp only[zB] at g5)
   ·(refine bT<|aY<|bU<|aj<|aM<|yP Z<|yq Z<|bg zI ?_;refine sI ?_)
    (refine yk<|yA Z<|yT<|ai ?_;refine⟨(i+1),_,aW.refl _ _,?_⟩)
    exact⟨by omega,by omega,⟨Z,Z,Z,Y⟩,⟨Z,Y⟩⟩
   have GI:b.kind=1:=by simpa using g5
   obtain⟨i1,k1,p,q,c1,c2,c3,c4,c5,c6,c7⟩:=X6 ok.rules ok.board b (FB i b hb) GI
   have Np:=GM b.a
   have Pz:=GM b.b
   rw[c1,IN ok.open' c3,<-c1] at Np
   rw[c2,IN ok.open' c4,<-c2] at Pz
   have fp:=(ok.board.pc p (List.mem_of_getElem? c3)).few
   have fq:=(ok.board.pc q (List.mem_of_getElem? c4)).few
   have YW:=XS [told p.set,told q.set] (by simp) (fun r hr=>by
    rcases List.mem_cons.1 hr with rfl | hr
    ·omega
    rw[List.mem_singleton] at hr
    subst hr
    omega) 100000
   rw[c5] at YW
   have e1:([{ x7 (told p.set) (told q.set) with a:=0,b:=1 }]:List Reg.YJ).map gc=[[i64 0,i64 1,i64 b.is,i64 b.spot.1,i64 b.spot.2,i64 (x7 (told p.set) (told q.set)).dst.1,i64 (x7 (told p.set) (told q.set)).dst.2]]:=by
    rw[<-c6,<-c7];rfl
   rw[e1] at YW
   ((refine aJ<|aj<|au<|cH [] false HF rfl (by kernel_rfl)<|ay Z<|ay Z<|ay Z<|ay Z<|ay Z<|ay Z<|cA Z Z<|cG Z<|yD Z<|yD Z ?_;refine yD Z<|dq Z<|aK zI ?_);refine⟨(W2 b),(idx rfl hb),?_⟩)
   (refine bB<|ae<|yD Z<|yD Z<|dq Z<|aK zI ?_;refine⟨_,_,Np,?_⟩)
   ((refine bB<|bq<|dq Z<|aA zI<|bB<|bq<|yD Z<|yD Z<|yD Z<|yD Z<|cn<|aq Z<|aq Z<|aq Z ?_;refine aq Z<|aq Z<|aq Z<|aq Z<|aq Z<|aq Z<|aq Z<|dW Z Z<|dW Z Z<|fo Z<|aj<|au<|cH [] false HF rfl (by kernel_rfl)<|ay Z ?_;refine ay Z<|ay Z<|ay Z<|ay Z<|ay Z<|cA Z Z<|cG Z<|yD Z<|yD Z<|yD Z<|dq Z<|aK zI ?_);refine⟨(W2 b),(idx rfl hb),?_⟩)
   (refine bB<|ae<|yD Z<|yD Z<|dq Z<|aK zI ?_;refine⟨_,_,Pz,?_⟩)
   ((refine bB<|bq<|dq Z<|aA zI<|bB<|bq<|yD Z<|yD Z<|yD Z<|yD Z<|cn<|aq Z<|aq Z<|aq Z ?_;refine aq Z<|aq Z<|aq Z<|aq Z<|aq Z<|aq Z<|aq Z<|dW Z Z<|dW Z Z<|fo Z<|aj<|yS<|yP Z<|yP Z ?_;refine yn Z<|aA zI<|aS<|af<|yn Z<|aK zI ?_);refine⟨_,_,YW,?_⟩)
   ((refine b9 Z Z (aF (bq (yq Z (aA zI (bd (bq (yP Z (yP Z (yA Z (yA Z (yT (au (cH [] false Y3 rfl (by kernel_rfl) ?_)))))))))))));refine cG Z<|yD Z<|yD Z<|yD Z<|d1 Z<|d1 Z<|yD Z<|yD Z<|d1 Z<|d1 Z<|yD Z<|yD Z<|d1 Z<|d1 Z ?_;refine d1 Z<|yD Z<|yD Z<|d1 Z<|d2 Z<|c_ Z<|aK zI ?_);refine⟨[i64 0,i64 1,i64 b.is,i64 b.spot.1,i64 b.spot.2,i64 (x7 (told p.set) (told q.set)).dst.1,i64 (x7 (told p.set) (told q.set)).dst.2],⟨Int.le_refl 0,rfl⟩,?_⟩)
   (refine bB<|ae<|d1 Z<|d1 Z<|d1 Z<|d1 Z<|d2 Z<|c_ Z<|aK zI ?_;refine⟨(W2 b),(idx rfl hb),?_⟩)
   (refine bB<|ae<|d1 Z<|d1 Z<|d1 Z<|yD Z<|yD Z<|dg Z ?_;refine aa (fun q1=>?_) (fun q1=>?_) <;> try simp only[zB] at q1)
   ·exact absurd q1 (by simp)
   (refine bS<|c_ Z<|aA zI<|bB<|ae<|d2 Z<|c_ Z<|aK zI ?_;refine⟨[i64 0,i64 1,i64 b.is,i64 b.spot.1,i64 b.spot.2,i64 (x7 (told p.set) (told q.set)).dst.1,i64 (x7 (told p.set) (told q.set)).dst.2],⟨Int.le_refl 0,rfl⟩,?_⟩)
   (refine bB<|ae<|d1 Z<|d1 Z<|d1 Z<|d1 Z<|d2 Z<|c_ Z<|aK zI ?_;refine⟨(W2 b),(idx rfl hb),?_⟩)
   (refine bB<|ae<|d1 Z<|d1 Z<|d1 Z<|yD Z<|cn<|fo Z<|aj<|az Z ?_;refine aa (fun q2=>?_) (fun q2=>?_) <;> try simp only[zB] at q2)
   ·exact absurd q2 (by simp)
   (refine aJ<|bp<|aj<|aM<|yP Z<|yq Z<|bg zI ?_;refine sI ?_)
   (refine yk<|yA Z<|yT<|ai ?_;refine⟨(i+1),_,aW.refl _ _,?_⟩)
   exact⟨by omega,by omega,⟨Z,Z,Z,Y⟩,⟨Z,Y⟩⟩
  (refine bT<|aY<|aY<|bU<|aj<|yS<|yn Z<|aK zI ?_;refine⟨_,_,xF,?_⟩)
  (refine b9 Z Z<|ae<|yA Z<|yR zi ?_;refine And.intro ?_ trivial)
  rfl
 have e:=YH g
 rw[e] at Y8
 refine aT hC Tryz.func5 rfl rfl 139 rfl (by decide) (by kernel_rfl) fun _ _ _ _ _=>?_
 ((refine yS<|yn Z<|aA zI<|aS<|ak<|yn Z<|aA zI<|aS<|ak<|yA Z<|yU<|yP Z<|yP Z<|yP Z ?_;refine yn Z<|aK zI ?_);refine⟨_,_,Y8,?_⟩)
 ((refine b9 Z Z<|bq<|yq Z<|aA zI<|bd<|bq<|yP Z<|yP Z<|yA Z<|yA Z<|yT<|au<|yS<|yP Z ?_;refine yP Z<|yT<|az Z ?_);refine aa (fun h=>?_) (fun h=>?_) <;> try simp only[zB] at h)
 ·(refine yS<|yP Z<|yP Z<|yP Z<|yP Z<|y2 Z<|jB Z Z Z<|aK zI ?_;refine⟨_,_,xF,?_⟩)
  (refine b9 Z Z<|ae<|yP Z<|yA Z<|yT<|bP<|aX<|bQ zi ?_;refine And.intro ?_ trivial)
  rfl
 exact absurd (by simpa using h) g
end M
end Go.Proofs.YtpbkimanfahbgaaGreatDoor
namespace Go.Proofs.YtpbkimanfahbgaaGreatDoor
open Go.ChangeShapes Go.WideShapes Go.ChangeAt Go.RowKit Go.AM
open Go.ChangeMaps (open_string shut_string)
open Go.Proofs.YtpbkimanfahbgaaGreatDoor.M
namespace rulesTellTrue
theorem vZ {P:Program} {f:FuncId} {fn:Func} {s:ChangeSpec} {c:OpenClaim} (MX:(laidOutB P)=true) (Ko:(mapsRowed P)=true) (MY:((c.inPlace == P.inPlace f))=true) (Pe:((c.unfollowed == P.unfollowed f))=true) (Pf:((c.recurses == P.recurses f))=true) (Kp:((c.named == P.varsNamed f))=true) (Pg:((c.plainKeys == P.plainKeys))=true) (Kq:(P.stopsHeard)=true) (Kr:(P.mayEnter)=true) (MZ:((c.lifted == P.liftsFinal))=true) (M0:((P.make == some c.make))=true)
  (h_rest:(c.wf (OpenSpec.ofChange s) && true && fn.params.all (P.readableRec ·) && namedTie P c.named s.vars && (c.stops == []) && (P.stops == []) && (c.knobs == []) && (P.stopKnobs == []) && true && (c.maps == (fn.params.toList++s.plain.varTypes P).any (P.mapsRec ·)) && (c.ifaces == (fn.params.toList++s.plain.varTypes P).any (P.ifacesRec ·)) && (c.mapsOut == P.mapsAmong fn.resultTypes.toList) && (c.loops == (fn.params.toList++s.plain.varTypes P).any (P.loopsFrom ·)) && (c.wideKeys == (fn.params.toList++s.plain.varTypes P++fn.resultTypes.toList).any (P.wideKeysFrom ·)) && s.vars.all (P.varReadable ·) && fn.resultTypes.all (fun t=>P.readableRec t && decide (t < P.types.size)) && (c.ifacesOut == fn.resultTypes.toList.any (P.ifacesRec ·)) && (c.loopsOut == fn.resultTypes.toList.any (P.loopsFrom ·)) && c.shortTexts.isNone && (c.kinds == (if c.domain.isEmpty then [] else fn.params.toList.map fun t=>match P.underlying t with | some (.int k)=>some k | _=>none)) && (c.pinned == c.pinnedBy) && (c.veiled == (fn.params.toList++s.plain.varTypes P++fn.resultTypes.toList).any (P.veiledRec ·)) && c.veiledFits P fn.params.toList (fn.params.toList++s.plain.varTypes P++fn.resultTypes.toList))=true):joinedFacts P f fn s c=true:=by
 simp only[Bool.and_eq_true] at h_rest
 simp only[joinedFacts,Bool.and_eq_true]
 simp only[MX,Ko,MY,Pe,Pf,Kp,Pg,Kq,Kr,MZ,M0,and_true]
 simp only[and_assoc,and_true] at h_rest ⊢
 exact h_rest
theorem M1 {W:World} (hL:laidMetH Tryz.prog Rows.rulesTellTrueUptoRow.laid W) (h:W.ShapedOpen Tryz.prog):M.Env (fun b=>b < W.heap.size) W:=by
 refine A3 (Go.Proofs.cell_of_shapedOpen_int (zero:=#[.int .i64 0]) (t:=3) h (of_decide_eq_true (by kernel_rfl)) (by kernel_rfl) rfl (by kernel_rfl) (by kernel_rfl) Tryz.underlying3) ?_
 rw[MakeChecks.laidMetH_plain _ _ _ (by kernel_rfl)] at hL
 exact Lib.tabIs_of_head (rest:=Rows.rulesTellTrueUptoRow.laid.drop 3) M.Mw (by kernel_rfl) Tryz.underlying248 Tryz.underlying224 (by kernel_rfl) (by kernel_rfl) (laidMet.tail (laidMet.tail hL))
theorem IS (H:Type) (enc:TypeId×Value->H) (W:World) (base:Nat) (args:Array Value) (ds gs:List (DataW H)) (before:List MemPlace)
  (hval:∀(j:Nat) t v,Tryz.f5.params[j]?=some t->args[j]?=some v->Value.okWide Tryz.prog W .any base t v)
  (hW:DataW.Whole enc Tryz.prog Tryz.f5.params.toList Rows.rulesTellTrueSpec.vars false W args.toList ds gs before) (hk:Rows.uptoSmall H (ds++gs)=true) (hE:M.Env (fun b=>b < W.heap.size) W):
  Calls Tryz.prog 5 args W fun e W'=>∃v,e=.returned v/\Rows.rulesTellTrueSpec.post enc Tryz.prog Tryz.f5 false true false false W args v W':=by
 have VI:=hW
 obtain⟨pp,q,VJ,hV,rfl,zK,IY⟩:=hW
 have hA:DataW.TrodAll enc Tryz.prog W 0 (fun _=>true) true Tryz.f5.params.toList args.toList ds pp:=VJ
 have again:=fun (W':World) (hb:Below W.heap.size W W')=>xw OI hb (by kernel_rfl) hA hA.lt
 rw[Tryz.params5] at hA hval
 obtain⟨v0,Wd,d0,We,p0,q0,hargs,rfl,Tz,h0,r0⟩:=trodAll_cons hA
 obtain⟨v1,Wf,d1,Wg,p1,q1,rfl,rfl,rfl,h1,r1⟩:=trodAll_cons r0
 obtain⟨v2,Wh,d2,Wi,p2,q2,rfl,rfl,rfl,h2,r2⟩:=trodAll_cons r1
 obtain⟨rfl,rfl,rfl⟩:=trodAll_nil r2
 obtain rfl:args=#[v0,v1,v2]:=by cases args;simp_all
 obtain⟨rfl,rfl⟩:=trodVars_none hV
 obtain⟨_,w0,r,rfl,z0⟩:=uR (S:=fun b=>b < W.heap.size) Tryz.underlying25 (H6 fun _ h=>h) (hval 0 25 v0 rfl rfl) h0
 have VK:ic r:=H7 (zb _ _ _ (zd hk (List.mem_append_left _ (by repeat (first | exact List.mem_cons_self .. | apply List.mem_cons_of_mem)))) z0)
 obtain⟨_,w1,a,rfl,z1⟩:=uR (S:=fun b=>b < W.heap.size) Tryz.underlying31 (MU fun _ h=>h) (hval 1 31 v1 rfl rfl) h1
 have VL:oh a:=MV (DA _ _ _ (zd hk (List.mem_append_left _ (by repeat (first | exact List.mem_cons_self .. | apply List.mem_cons_of_mem)))) z1)
 obtain⟨_,w2,nets,e2,z2⟩:=Fx (S:=fun b=>b < W.heap.size) Tryz.underlying32 (Ek fun _ h=>h) (hval 2 32 v2 rfl rfl) h2
 cases e2
 have M3:sD nets:=Km (zd hk (List.mem_append_left _ (by repeat (first | exact List.mem_cons_self .. | apply List.mem_cons_of_mem)))) z2
 refine (My (C:=C) (xs:=[.ag (rl r),.ag (kG a),strs nets]) (y:=.bool true) (YP r VK a VL nets M3) hE (lQ (w0) (lQ (w1) (lQ (w2) HO)))).mono fun e W' ⟨he,hb⟩=>?_
 subst he
 exact⟨_,rfl,wG (pa:=pp) (pv:=[]) VI (fun _ _ _=>trodAll_cons_mk (shut_bool Tryz.underlying4 _) trodAll_mk0) (fun sp h=>again W' hb sp (fun p hp=>h p (List.mem_append_left _ hp))) (fun _ _=>rfl) rfl
  hb (ok_one (by kernel_rfl) rfl (okWide_bool_mk Tryz.underlying4 _))⟩
theorem reads (os:Os) {H:Type} (enc:TypeId×Value->H):∃places,DataW.whole enc Tryz.prog ((World.laidAll Tryz.prog os Rows.rulesTellTrueUptoRow.laid).forCall (fun _ _=>0) ⟨#[],#[.agg #[.int .i64 0,.int .i64 0,.int .i64 0,.int .i64 0,.int .i64 0,.slice none 0 0,.slice none 0 0],.agg #[.slice none 0 0,.slice none 0 0,.slice none 0 0,.slice none 0 0],.slice none 0 0],[]⟩).memory Tryz.f5.params.toList Rows.rulesTellTrueSpec.vars false (#[.agg #[.int .i64 0,.int .i64 0,.int .i64 0,.int .i64 0,.int .i64 0,.slice none 0 0,.slice none 0 0],.agg #[.slice none 0 0,.slice none 0 0,.slice none 0 0,.slice none 0 0],.slice none 0 0]:Array Value).toList 8=some ([.agg [.lit (.int .i64 0),.lit (.int .i64 0),.lit (.int .i64 0),.lit (.int .i64 0),.lit (.int .i64 0),.nil,.nil],.agg [.nil,.nil,.nil,.nil],.nil],[],places):=
 ⟨[],by kernel_rfl⟩
theorem lifted (os:Os) (started:os.Started) (H:Type) (enc:TypeId×Value->H) (F:Stop.Interp):
  ReturnsInHanded {} Tryz.checked os 5 .any ((Rows.OpenSpec.upto Rows.rulesTellTrueSpec).preRow enc Tryz.prog Tryz.f5 Rows.rulesTellTrueUptoRow.domain false Rows.rulesTellTrueUptoRow.laid) (((Rows.OpenSpec.upto Rows.rulesTellTrueSpec).at F).post enc Tryz.prog Tryz.f5 false true false false):=by
 obtain⟨places,hx⟩:=reads os enc
 refine returnsInHanded_of_row (C:=Tryz.checked) (s:=Rows.OpenSpec.upto Rows.rulesTellTrueSpec) own started (by kernel_rfl) Tryz.func5
  (tB (enc:=enc) (C:=Tryz.checked) (World.laidAll Tryz.prog os Rows.rulesTellTrueUptoRow.laid) #[.agg #[.int .i64 0,.int .i64 0,.int .i64 0,.int .i64 0,.int .i64 0,.slice none 0 0,.slice none 0 0],.agg #[.slice none 0 0,.slice none 0 0,.slice none 0 0,.slice none 0 0],.slice none 0 0] (World.laidAll_os _ _ _) (World.shaped_of_ZipB (by kernel_rfl) (by kernel_rfl)) (by kernel_rfl)
   (OpenSpec.preRow_of_cond 8 hx (by kernel_rfl) (fun k hk=>by cases hk;kernel_rfl) (by kernel_rfl)
    (by rw[MakeChecks.laidMetH_plain _ _ _ (by kernel_rfl)];exact laidMet_laidAll _ (by kernel_rfl) (by kernel_rfl)))) ?_
 intro W base args ds gs before hval hW _ D0 _ hL hsh _
 exact IS H enc W base args ds gs before hval hW (D0 _ rfl) (M1 hL hsh)
theorem M4:laidOutB Tryz.prog=true:=by kernel_rfl
theorem Ks:mapsRowed Tryz.prog=true:=by kernel_rfl
theorem M5:(Rows.rulesTellTrueUptoRow.inPlace == Tryz.prog.inPlace 5)=true:=by kernel_rfl
theorem Pj:(Rows.rulesTellTrueUptoRow.unfollowed == Tryz.prog.unfollowed 5)=true:=by kernel_rfl
theorem Pk:(Rows.rulesTellTrueUptoRow.recurses == Tryz.prog.recurses 5)=true:=by kernel_rfl
theorem Kt:(Rows.rulesTellTrueUptoRow.named == Tryz.prog.varsNamed 5)=true:=by kernel_rfl
theorem Pm:(Rows.rulesTellTrueUptoRow.plainKeys == Tryz.prog.plainKeys)=true:=by kernel_rfl
theorem Ku:Tryz.prog.stopsHeard=true:=by kernel_rfl
theorem Kv:Tryz.prog.mayEnter=true:=by kernel_rfl
theorem M6:(Rows.rulesTellTrueUptoRow.lifted == Tryz.prog.liftsFinal)=true:=by kernel_rfl
theorem M7:(Tryz.prog.make == some Rows.rulesTellTrueUptoRow.make)=true:=by kernel_rfl
theorem M8:false=Rows.rulesTellTrueUptoRow.goesBy Tryz.prog:=by kernel_rfl
theorem Kw:false=Tryz.prog.looks []:=by kernel_rfl
theorem Su:Rows.rulesTellTrueUptoRow.wfByText (Rows.OpenSpec.upto Rows.rulesTellTrueSpec)=true:=by kernel_rfl
theorem ga:joinedFacts Tryz.prog 5 Tryz.f5 (Rows.OpenSpec.upto Rows.rulesTellTrueSpec).bare Rows.rulesTellTrueUptoRow=true:=
 vZ M4 Ks M5 Pj Pk Kt Pm Ku Kv M6 M7 (by kernel_rfl)
theorem IT:Rows.RulesTellTrueUptoSaid:=
 OpenClaim.holds_of_cond 5 Tryz.f5 rfl rfl rfl rfl rfl rfl rfl ⟨rfl,rfl,rfl,rfl,rfl⟩ rfl rfl rfl rfl rfl (by kernel_rfl) Tryz.func5 ga
  (of_decide_eq_true (by kernel_rfl)) (by unfold Func.isWrapper;first | (rw[if_pos (by decide +kernel)];kernel_rfl) | (rw[if_neg (by decide +kernel)];exact⟨rfl,rfl⟩))
  (fun os started H enc _ F=>by rw[OpenClaim.pre_eq_preRow];exact lifted os started H enc F)
theorem plain (f:FuncId) (fn:Func) (hf:Tryz.pinned.checked.prog.funcNamed Rows.rulesTellTrueUptoRow.func=some f) (QU:Tryz.pinned.checked.prog.funcs[f]?=some fn):
  false=Tryz.pinned.checked.prog.looks []/\∀(j:Nat) t,fn.params[j]?=some t->Tryz.pinned.checked.prog.wantsStandIn t=false:=by
 obtain rfl:f=5:=Option.some.inj ((show Tryz.prog.funcNamed Rows.rulesTellTrueUptoRow.func=some 5 by kernel_rfl).symm.trans hf) |>.symm
 obtain rfl:fn=Tryz.f5:=(Option.some.inj (Tryz.func5.symm.trans QU)).symm
 refine⟨Kw,fun j t ht=>?_⟩
 rw[Tryz.params5] at ht
 have hm:=Array.mem_of_getElem? ht
 have iB:((Tryz.f5.params.toList).all fun u=>!Tryz.prog.wantsStandIn u)=true:=by kernel_rfl
 exact (show Tryz.prog.wantsStandIn t=false by simpa using List.all_eq_true.1 iB t (by rw[Tryz.params5];simpa using hm))
theorem cardUpto:Rows.RulesTellTrueUptoCardSaid:=
 Claim7.holds_tied_plain_at .later [] _ _ _ _ IT (fun _ h=>by cases h) Su (fun _ h=>by cases h) rulesTellTrueUpto_row_tie rfl ⟨rfl,rfl⟩ (by kernel_rfl) rfl plain M8
end rulesTellTrue
end Go.Proofs.YtpbkimanfahbgaaGreatDoor
