/- With a greater number each break of clearance, of rings, of the edge and between bores remains one, of what it was. Condition: what is read is of bulk at most 1048576; the listed variables are tied to the program's text by the card. -/
import Derived.Test.YtpbkimanfahbgaaGreatDoorH13
set_option linter.unusedVariables false
set_option linter.unusedSimpArgs false
set_option maxRecDepth 100000
set_option maxHeartbeats 8000000
namespace Go.Proofs.YtpbkimanfahbgaaGreatDoor
namespace M
open Go.AM Go.RowKit Go.Lib
open Reg (aB ax en Wt Piece l9 hZ cQ told a_ cx aQ through B0 x7 aw zk cv ru jm bX coreS P4)
theorem Yc (r:bR) (B:l9) (nets:List ByteArray) (i k:Nat) (p q:Piece):(WO r B nets i k p q).length<=1:=by
 rw[WO]
 split
 ·simp
 split <;> simp
theorem Xv (r:bR) (B:l9) (nets:List ByteArray) (i:Nat) (p:Piece):∀(t:List Piece) (k:Nat),(WI r B nets i p k t).length<=t.length
 | [],_=>Nat.le_refl _
 | q::t,k=>by
  rw[WI]
  split
  ·have h1:=Yc r B nets i k p q
   have h2:=Xv r B nets i p t (k+1)
   rw[List.length_append,List.length_cons]
   omega
  simp
theorem XZ (r:bR) (B:l9) (nets:List ByteArray):∀(t:List Piece) (i:Nat),(WD r B nets i t).length<=t.length*t.length
 | [],_=>Nat.le_refl _
 | q::t,k=>by
  rw[WD,List.length_append,List.length_cons,Nat.succ_mul_succ]
  have h1:=Xv r B nets k q t (k+1)
  have h2:=XZ r B nets t (k+1)
  omega
theorem XH (r:bR) (B:l9) (nets:List ByteArray):∀(t:List Piece) (i:Nat),(Wr r B nets i t).length<=t.length
 | [],_=>Nat.le_refl _
 | q::t,k=>by
  rw[Wr,List.length_append,List.length_cons,WS]
  have h2:=XH r B nets t (k+1)
  split
  ·simp only[List.length_nil];omega
  simp only[List.length_cons,List.length_nil];omega
theorem X0 (g:Int) (o:List ax):∀(t:List Piece) (i:Nat),(Wy g o i t).length<=t.length
 | [],_=>Nat.le_refl _
 | q::t,k=>by
  rw[Wy,List.length_append,List.length_cons,Xj]
  have h2:=X0 g o t (k+1)
  split
  ·simp only[List.length_nil];omega
  simp only[List.length_cons,List.length_nil];omega
theorem XI (g:Int) (bs:List en) (cs:List (List aB)) (i:Nat) (x:en):∀(n:Nat) (l:Int),(WK g bs cs i x n l).length<=n
 | 0,_=>Nat.le_refl _
 | n+1,l=>by
  rw[WK]
  split
  ·have h2:=XI g bs cs i x n (l+1)
   rw[List.length_append,W7]
   split
   ·simp only[List.length_nil];omega
   split
   ·simp only[List.length_nil];omega
   simp only[List.length_cons,List.length_nil];omega
  simp
theorem X1 (g:Int) (bs:List en) (cs:List (List aB)):∀(t:List en) (i:Nat),(∀x∈t,x.hi+1 - x.lo<=16)->(Wx g bs cs i t).length<=16*t.length
 | [],_,_=>Nat.le_refl _
 | q::t,k,h=>by
  rw[Wx,List.length_append,List.length_cons]
  have h1:=XI g bs cs k q (q.hi+1 - q.lo).toNat q.lo
  have h2:=X1 g bs cs t (k+1) fun x hx=>h x (List.mem_cons_of_mem _ hx)
  have:=h q List.mem_cons_self
  omega
theorem XJ (g:Int) (i:Nat) (x:en):∀(t:List en) (k:Nat),(WR g i x k t).length<=t.length
 | [],_=>Nat.le_refl _
 | q::t,k=>by
  rw[WR,List.length_append,List.length_cons,W8]
  have h2:=XJ g i x t (k+1)
  split
  ·simp only[List.length_nil];omega
  split
  ·simp only[List.length_cons,List.length_nil];omega
  simp only[List.length_nil];omega
theorem X2 (g:Int):∀(t:List en) (i:Nat),(Ws g i t).length<=t.length*t.length
 | [],_=>Nat.le_refl _
 | q::t,k=>by
  rw[Ws,List.length_append,List.length_cons,Nat.succ_mul_succ]
  have h1:=XJ g k q t (k+1)
  have h2:=X2 g t (k+1)
  omega
theorem Y0 {n k:Nat} (h:n<=k):n*n<=k*k:=Nat.mul_le_mul h h
theorem YG (r:bR) (hr:ic r) (a:Wt) (ha:oh a) (nets:List ByteArray) (hn:sD nets):aD C 15 [.pv (.ag (rl r)),.pv (.ag (kG a)),.pv (strs nets)] (.tu [.sl ((XT r a nets).1.map W2),i64 (XT r a nets).2]) []:=by
 have aU:=Dz r hr a ha nets hn
 by_cases g:kZ r a nets=0
 ·rw[XT,if_pos g]
  rw[zE,if_pos g,g] at aU
  rw[kZ] at g
  by_cases g1:cK r≠0
  ·rw[if_pos g1] at g;exact absurd g g1
  rw[if_neg g1] at g
  by_cases g2:cC a≠0
  ·rw[if_pos g2] at g;exact absurd g g2
  rw[if_neg g2] at g
  by_cases g3:nets.length≠(aw a).placed.groups.length
  ·rw[if_pos g3] at g;cases g
  have hg:iz r:=vg (by simpa using g1)
  have gd:vG a:=sC (by simpa using g2)
  have hl:nets.length=(aw a).placed.groups.length:=by simpa using g3
  have n1:=XZ r (aw a) nets (aw a).pieces 0
  have n2:=XH r (aw a) nets (aw a).pieces 0
  have n3:=X1 r.ring a.bores a.coppers a.bores 0 fun x hx=>by
   have:=gd.art.bor x hx
   have:=gd.art.cop
   obtain⟨_,b1,b2,b3⟩:=gd.art.bor x hx
   omega
  have n4:=X0 r.edge (a_ a.outline) (aw a).pieces 0
  have n5:=X2 r.holeGap a.bores 0
  have f1:=gd.few
  have f2:=gd.art.few
  have f3:=Y0 f1
  have f4:=Y0 f2
  have c1:=Yl r hg a gd nets hl
  have c2:=Yb r hg a gd nets hl
  have c3:=Yn r hg a gd
  have c4:=Ym r hg a gd
  have c5:=XY r hg a gd
  have ct:=Yx (WY r a nets)
  have eA:(WY r a nets).map W2=((((WD r (aw a) nets 0 (aw a).pieces).map W2++(Wr r (aw a) nets 0 (aw a).pieces).map W2)++(Wx r.ring a.bores a.coppers 0 a.bores).map W2)++(Wy r.edge (a_ a.outline) 0 (aw a).pieces).map W2)++(Ws r.holeGap 0 a.bores).map W2:=by
   simp only[WY,List.map_append,List.append_assoc]
  rw[eA] at ct
  generalize Xh (WY r a nets)=FR at *
  generalize WD r (aw a) nets 0 (aw a).pieces=l1 at *
  generalize Wr r (aw a) nets 0 (aw a).pieces=l2 at *
  generalize Wx r.ring a.bores a.coppers 0 a.bores=l3 at *
  generalize Wy r.edge (a_ a.outline) 0 (aw a).pieces=l4 at *
  generalize Ws r.holeGap 0 a.bores=l5 at *
  refine aT hC Tryz.func15 rfl rfl 49 rfl (by decide) (by kernel_rfl) fun _ _ _ _ _=>?_
  ((refine yS<|yn Z<|aA zI<|aS<|ak<|yn Z<|aA zI<|aS<|ak<|yB Z<|yA Z<|yU<|yP Z<|yP Z ?_;refine yP Z<|yn Z<|aK zI ?_);refine⟨_,_,aU,?_⟩)
  ((refine b9 Z Z<|bq<|yq Z<|aA zI<|bd<|bq<|yP Z<|yP Z<|yA Z<|yA Z<|yT<|au<|yS<|yP Z ?_;refine yP Z<|yT<|az Z<|cM<|aJ<|aj<|yS<|yP Z<|yP Z<|yP Z<|yn Z<|aK zI ?_);refine⟨_,_,c1,?_⟩)
  (refine aS<|af<|cD Z<|cr Z Z Z Z Z<|yU<|yq Z<|aA zI<|bd<|af<|yP Z<|yP Z<|yP Z<|yn Z<|aK zI ?_;refine⟨_,_,c2,?_⟩)
  (refine b9 Z Z<|ae<|yn Z<|bg zI ?_;refine And.intro ⟨fun r hr=>by obtain⟨b,_,rfl⟩:=List.mem_map.1 hr;rfl,by simp only[List.length_map,List.length_set,List.length_replicate,List.length_append,List.length_cons,List.length_nil];omega,by simp only[List.length_map,List.length_set,List.length_replicate,List.length_append,List.length_cons,List.length_nil];omega⟩ ?_)
  (refine aS<|aF<|af<|cD Z<|cr Z Z Z Z Z<|yU<|yq Z<|aA zI<|bd<|af<|yP Z<|yP Z<|yn Z<|aK zI ?_;refine⟨_,_,c3,?_⟩)
  (refine b9 Z Z<|ae<|yn Z<|bg zI ?_;refine And.intro ⟨fun r hr=>by obtain⟨b,_,rfl⟩:=List.mem_map.1 hr;rfl,by simp only[List.length_map,List.length_set,List.length_replicate,List.length_append,List.length_cons,List.length_nil];omega,by simp only[List.length_map,List.length_set,List.length_replicate,List.length_append,List.length_cons,List.length_nil];omega⟩ ?_)
  (refine aS<|aF<|af<|cD Z<|cr Z Z Z Z Z<|yU<|yq Z<|aA zI<|bd<|af<|yP Z<|yP Z<|yn Z<|aK zI ?_;refine⟨_,_,c4,?_⟩)
  (refine b9 Z Z<|ae<|yn Z<|bg zI ?_;refine And.intro ⟨fun r hr=>by obtain⟨b,_,rfl⟩:=List.mem_map.1 hr;rfl,by simp only[List.length_map,List.length_set,List.length_replicate,List.length_append,List.length_cons,List.length_nil];omega,by simp only[List.length_map,List.length_set,List.length_replicate,List.length_append,List.length_cons,List.length_nil];omega⟩ ?_)
  (refine aS<|aF<|af<|cD Z<|cr Z Z Z Z Z<|yU<|yq Z<|aA zI<|bd<|af<|yP Z<|yP Z<|yn Z<|aK zI ?_;refine⟨_,_,c5,?_⟩)
  (refine b9 Z Z<|ae<|yn Z<|bg zI ?_;refine And.intro ⟨fun r hr=>by obtain⟨b,_,rfl⟩:=List.mem_map.1 hr;rfl,by simp only[List.length_map,List.length_set,List.length_replicate,List.length_append,List.length_cons,List.length_nil];omega,by simp only[List.length_map,List.length_set,List.length_replicate,List.length_append,List.length_cons,List.length_nil];omega⟩ ?_)
  (refine aS<|aF<|af<|yn Z<|aK zI ?_;refine⟨_,_,ct,?_⟩)
  (refine b9 Z Z<|aF<|bq<|yP Z<|yP Z<|yA Z<|yA Z<|yR zi ?_;refine And.intro ?_ trivial)
  rfl
 rw[XT,if_neg g]
 rw[zE,if_neg g] at aU
 refine aT hC Tryz.func15 rfl rfl 49 rfl (by decide) (by kernel_rfl) fun _ _ _ _ _=>?_
 ((refine yS<|yn Z<|aA zI<|aS<|ak<|yn Z<|aA zI<|aS<|ak<|yB Z<|yA Z<|yU<|yP Z<|yP Z ?_;refine yP Z<|yn Z<|aK zI ?_);refine⟨_,_,aU,?_⟩)
 ((refine b9 Z Z<|bq<|yq Z<|aA zI<|bd<|bq<|yP Z<|yP Z<|yA Z<|yA Z<|yT<|au<|yS<|yP Z ?_;refine yP Z<|yT<|az Z ?_);refine aa (fun h=>?_) (fun h=>?_) <;> try simp only[zB] at h)
 ·(refine yS<|yP Z<|yB Z<|yA Z<|yT<|bP<|aX<|bQ zi ?_;refine And.intro ?_ trivial)
  rfl
 exact absurd (by simpa using h) g
open Reg (dc)
theorem YX {r:bR} {a:Wt} {nets:List ByteArray} (g:(XT r a nets).2=0):sE r a nets/\XT r a nets=(WY r a nets,0)/\(WY r a nets).length<=5000:=by
 rw[XT] at g ⊢
 by_cases h:kZ r a nets=0
 ·rw[if_pos h] at g ⊢
  rw[Xh] at g ⊢
  by_cases k:5000 < (WY r a nets).length
  ·rw[if_pos k] at g;cases g
  rw[if_neg k]
  exact⟨xP h,rfl,by omega⟩
 rw[if_neg h] at g;exact absurd g h
theorem YH {r:bR} {a:Wt} {nets:List ByteArray} (g:(XT r a nets).2≠0):(XT r a nets).1=[]:=by
 rw[XT] at g ⊢
 by_cases h:kZ r a nets=0
 ·rw[if_pos h] at g ⊢
  rw[Xh] at g ⊢
  by_cases k:5000 < (WY r a nets).length
  ·rw[if_pos k]
  rw[if_neg k] at g;exact absurd rfl g
 rw[if_neg h]
def fp (b c:Break):Bool:=((decide (b.kind=c.kind) && decide (b.a=c.a)) && decide (b.b=c.b)) && decide (b.is=c.is)
theorem ZV {l m:List Break} (h:Has l m) {b:Break} (hb:b∈l):m.any (fp b)=true:=by
 obtain⟨c,hc,e1,e2,e3,e4⟩:=h b hb
 exact List.any_eq_true.2 ⟨c,hc,by simp[fp,e1,e2,e3,e4]⟩
theorem ZW {m:List Break} {k:Nat} {c:Break} (h:m[k]?=some c) (f:Break->Bool):(m.take (k+1)).any f=((m.take k).any f || f c):=by
 rw[cw h,List.any_append]
 simp
theorem ZY (r:bR):ic (b7 r):=⟨fun c h=>(by cases h),Nat.zero_le _,Nat.zero_le _⟩
theorem ZR (r:bR) (n:Int):ic (b6 r n):=⟨fun c h=>(by cases h),Nat.zero_le _,Nat.zero_le _⟩
theorem ZX (r:bR) (hr:ic r) (a:Wt) (ha:oh a) (nets:List ByteArray) (hn:sD nets) (more:Int):aD C 4 [.pv (.ag (rl r)),.pv (.ag (kG a)),.pv (strs nets),.pv (i64 more)] (.p (bool true)) []:=by
 have Y8:=YG (b7 r) (ZY r) a ha nets hn
 have UL:=YG (b6 r more) (ZR r more) a ha nets hn
 refine aT hC Tryz.func4 rfl rfl 155 rfl (by decide) (by kernel_rfl) fun _ _ _ _ _=>?_
 ((refine yS<|yn Z<|aA zI<|aS<|ak<|yn Z<|aA zI<|aS<|ak<|yA Z<|yT<|au<|yS<|yP Z ?_;refine yP Z<|yP Z<|yg Z ?_);refine aa (fun g1=>?_) (fun g1=>?_) <;> try simp only[zB] at g1)
 ·(refine cB<|ae<|y0 Z<|yP Z<|yT<|az Z<|fy<|yS<|yn Z<|aK zI ?_;refine⟨_,_,xF,?_⟩)
  (refine b9 Z Z<|ae<|yA Z<|yT<|bP<|aX<|bQ zi ?_;refine And.intro ?_ trivial)
  rfl
 (refine bS<|bA Z Z<|aA zI<|yk<|y1 Z<|yP Z<|yT<|az Z ?_;refine aa (fun g2=>?_) (fun g2=>?_) <;> try simp only[zB] at g2)
 ·(refine yS<|yn Z<|aK zI ?_;refine⟨_,_,xF,?_⟩)
  (refine b9 Z Z<|ae<|yA Z<|yT<|bP<|aX<|bQ zi ?_;refine And.intro ?_ trivial)
  rfl
 ((refine aJ<|aj<|yS<|yV Z<|yP Z<|yV Z<|yP Z<|yV Z<|yP Z<|yV Z<|yP Z<|yV Z<|yP Z<|yP Z ?_;refine yn Z<|aA zI<|aS<|ak<|yq Z<|aA zI<|bd<|aF<|an<|yU<|yV Z<|yP Z<|yP Z<|yP Z ?_;refine yV Z<|yP Z<|yP Z<|yP Z<|yV Z<|yP Z<|yP Z<|yP Z<|yV Z<|yP Z<|yP Z<|yP Z<|yV Z<|yP Z ?_;refine yP Z<|yP Z<|yP Z<|yn Z<|aA zI<|aS<|ak<|yq Z<|aA zI<|bd<|aF<|an<|yU<|yP Z ?_;refine yP Z<|yP Z<|yn Z<|aK zI ?_);refine⟨_,_,Y8,?_⟩)
 ((refine b9 Z Z<|bq<|yq Z<|aA zI<|bd<|bq<|yP Z<|yP Z<|yA Z<|yA Z<|yU<|yP Z<|yP Z<|yP Z ?_;refine yn Z<|aK zI ?_);refine⟨_,_,UL,?_⟩)
 by_cases g:(XT (b7 r) a nets).2=0
 ·obtain⟨ok,e,hlen⟩:=YX g
  rw[e]
  by_cases g':(XT (b6 r more) a nets).2=0
  ·obtain⟨MP,e',Z2⟩:=YX g'
   rw[e']
   have Z1:Has (WY (b7 r) a nets) (WY (b6 r more) a nets):=ZN (n:=more) ok.rules.nums ok.board nets
   have ll:=aN (WY (b7 r) a nets) W2
   have lm:=aN (WY (b6 r more) a nets) W2
   generalize WY (b7 r) a nets=l at *
   generalize WY (b6 r more) a nets=m at *
   (refine b9 Z Z<|bq<|yq Z<|aA zI<|bd<|bq<|yP Z<|yP Z<|yA Z<|yA Z<|yT<|au<|yS<|yP Z ?_;refine yP Z<|yP Z<|y1 Z<|y1 Z<|yP Z<|yT<|az Z<|cM<|aJ<|aj<|au<|yS<|yA Z<|yT ?_;refine aZ ?_)
   refine aI (fun i:Nat=>i<=l.length) (fun i=>[(11,.p (.sl (l.map W2))),(13,.p (.sl (m.map W2))),(15,.p (i64 i))]) (fun _=>[]) (fun i=>l.length - i) 0 _ (aW.refl _ _) (Nat.zero_le _) ⟨Z,Z,Z,Y⟩ trivial fun i hi t h=>?_
   (refine au<|yS<|yP Z<|yP Z<|yP Z<|yP Z<|yT<|az Z ?_;refine aa (fun g3=>?_) (fun g3=>?_) <;> try simp only[zB] at g3)
   ·rw[ll] at g3
    obtain⟨b,hb⟩:=bh (l:=l) (i:=i) (by omega)
    have qp:=ZV Z1 (List.mem_of_getElem? hb)
    refine aJ<|aj<|au<|aZ<|yS<|yA Z<|yT<|au<|yS<|yA Z<|yT<|aZ ?_
    refine aI (fun x:Nat×Bool=>x.1<=m.length/\x.2=(m.take x.1).any (fp b)) (fun x=>[(11,.p (.sl (l.map W2))),(13,.p (.sl (m.map W2))),(15,.p (i64 i)),(16,.p (bool x.2)),(17,.p (i64 x.1))]) (fun _=>[]) (fun x=>m.length - x.1) (0,false) _ (aW.refl _ _) ⟨Nat.zero_le _,rfl⟩ ⟨Z,Z,Z,Z,Z,Y⟩ trivial fun ⟨k,f⟩ hx t h=>?_
    obtain⟨x1,x2⟩:=hx
    simp only at x1 x2
    (refine au<|yS<|yP Z<|yP Z<|yP Z<|yP Z<|yT<|az Z ?_;refine aa (fun g4=>?_) (fun g4=>?_) <;> try simp only[zB] at g4)
    ·rw[lm] at g4
     obtain⟨c,hc⟩:=bh (l:=m) (i:=k) (by omega)
     have nx:(m.take (k+1)).any (fp b)=(f || fp b c):=by rw[ZW hc,<-x2]
     cases f
     ·rw[Bool.false_or] at nx
      (refine aJ<|aj<|au<|aZ<|cH [] false ZZ rfl (by kernel_rfl)<|cG Z<|yD Z<|yD Z<|d1 Z<|d1 Z<|d2 Z<|c_ Z<|aK zI ?_;refine⟨(W2 b),(idx rfl hb),?_⟩)
      (refine bB<|ae<|d1 Z<|d1 Z<|d1 Z<|d1 Z<|d2 Z<|c_ Z<|aK zI ?_;refine⟨(W2 c),(idx rfl hc),?_⟩)
      (refine bB<|ae<|d1 Z<|d1 Z<|d1 Z<|d1 Z<|dg Z ?_;refine aa (fun g5=>?_) (fun g5=>?_) <;> try simp only[zB] at g5)
      ·(refine bS<|c_ Z<|aA zI<|bB<|ae<|d1 Z<|d2 Z<|c_ Z<|aK zI ?_;refine⟨(W2 b),(idx rfl hb),?_⟩)
       (refine bB<|ae<|d1 Z<|d1 Z<|d1 Z<|d1 Z<|d2 Z<|c_ Z<|aK zI ?_;refine⟨(W2 c),(idx rfl hc),?_⟩)
       (refine bB<|ae<|d1 Z<|d1 Z<|d1 Z<|d1 Z<|d1 Z<|dg Z ?_;refine aa (fun g6=>?_) (fun g6=>?_) <;> try simp only[zB] at g6)
       ·(refine bS<|c_ Z<|aA zI<|bB<|ae<|d1 Z<|d2 Z<|c_ Z<|aK zI ?_;refine⟨(W2 b),(idx rfl hb),?_⟩)
        (refine bB<|ae<|d1 Z<|d1 Z<|d1 Z<|d1 Z<|d2 Z<|c_ Z<|aK zI ?_;refine⟨(W2 c),(idx rfl hc),?_⟩)
        (refine bB<|ae<|d1 Z<|d1 Z<|d1 Z<|d1 Z<|d1 Z<|dg Z ?_;refine aa (fun g7=>?_) (fun g7=>?_) <;> try simp only[zB] at g7)
        ·(refine bS<|c_ Z<|aA zI<|bB<|ae<|d1 Z<|d2 Z<|c_ Z<|aK zI ?_;refine⟨(W2 b),(idx rfl hb),?_⟩)
         (refine bB<|ae<|d1 Z<|d1 Z<|d1 Z<|d1 Z<|d2 Z<|c_ Z<|aK zI ?_;refine⟨(W2 c),(idx rfl hc),?_⟩)
         ((refine bB<|ae<|d1 Z<|d1 Z<|d1 Z<|d1 Z<|yD Z<|yD Z<|cn<|aq Z<|aq Z<|aq Z<|aq Z<|aq Z ?_;refine aq Z<|aq Z<|aq Z<|aq Z<|aq Z<|aq Z<|aq Z<|aq Z<|aq Z<|aq Z<|aq Z<|aq Z<|aq Z<|aq Z ?_;refine aq Z<|aq Z<|aq Z<|aq Z<|aq Z<|aq Z<|aq Z<|aq Z<|aq Z<|aq Z<|aq Z<|aq Z<|aq Z<|aq Z ?_;refine aq Z<|aq Z<|aq Z<|aq Z<|aq Z<|aq Z<|aq Z<|aq Z<|aq Z<|aq Z<|aq Z<|aq Z<|aq Z<|aq Z ?_;refine aq Z<|aq Z<|aq Z<|aq Z<|aq Z<|aq Z<|dW Z Z<|fo Z<|bp<|aj<|aM<|yP Z<|yq Z<|bg zI ?_);refine And.intro ⟨by first | omega | (dsimp only;omega),by first | omega | (dsimp only;omega)⟩ ?_)
         (refine yk<|yA Z<|yT<|ai ?_;refine⟨(k+1,decide (b.is=c.is)),_,aW.refl _ _,?_⟩)
         exact⟨⟨by simp only;omega,by rw[nx];simp[fp,g5,g6,g7]⟩,by simp only;omega,⟨Z,Z,Z,Z,Z,Y⟩,trivial⟩
        ((refine cB<|ae<|d0 Z<|d0 Z<|d0 Z<|d0 Z<|d0 Z<|d0 Z<|d0 Z<|d0 Z<|d0 Z<|d0 Z<|d1 Z<|yD Z ?_;refine yD Z<|cn<|aq Z<|aq Z<|aq Z<|aq Z<|aq Z<|aq Z<|aq Z<|aq Z<|aq Z<|aq Z<|aq Z<|aq Z ?_;refine aq Z<|aq Z<|aq Z<|aq Z<|aq Z<|aq Z<|aq Z<|aq Z<|aq Z<|aq Z<|aq Z<|aq Z<|aq Z<|aq Z ?_;refine aq Z<|aq Z<|aq Z<|aq Z<|aq Z<|aq Z<|aq Z<|aq Z<|aq Z<|aq Z<|aq Z<|aq Z<|aq Z<|aq Z ?_;refine aq Z<|aq Z<|aq Z<|aq Z<|aq Z<|aq Z<|aq Z<|aq Z<|aq Z<|aq Z<|aq Z<|aq Z<|aq Z<|dW Z Z ?_;refine fo Z<|bp<|aj<|aM<|yP Z<|yq Z<|bg zI ?_);refine And.intro ⟨by first | omega | (dsimp only;omega),by first | omega | (dsimp only;omega)⟩ ?_)
        (refine yk<|yA Z<|yT<|ai ?_;refine⟨(k+1,false),_,aW.refl _ _,?_⟩)
        exact⟨⟨by simp only;omega,by rw[nx];simp[fp,g7]⟩,by simp only;omega,⟨Z,Z,Z,Z,Z,Y⟩,trivial⟩
       ((refine cB<|ae<|d0 Z<|d0 Z<|d0 Z<|d0 Z<|d0 Z<|d0 Z<|d0 Z<|d0 Z<|d0 Z<|d0 Z<|d1 Z<|d1 Z ?_;refine d0 Z<|d0 Z<|d0 Z<|d0 Z<|d0 Z<|d0 Z<|d0 Z<|d0 Z<|d0 Z<|d0 Z<|d0 Z<|d1 Z<|yD Z<|yD Z ?_;refine cn<|aq Z<|aq Z<|aq Z<|aq Z<|aq Z<|aq Z<|aq Z<|aq Z<|aq Z<|aq Z<|aq Z<|aq Z<|aq Z ?_;refine aq Z<|aq Z<|aq Z<|aq Z<|aq Z<|aq Z<|aq Z<|aq Z<|aq Z<|aq Z<|aq Z<|aq Z<|aq Z<|aq Z ?_;refine aq Z<|aq Z<|aq Z<|aq Z<|aq Z<|aq Z<|aq Z<|aq Z<|aq Z<|aq Z<|aq Z<|aq Z<|aq Z<|aq Z ?_;refine aq Z<|aq Z<|aq Z<|aq Z<|aq Z<|aq Z<|aq Z<|aq Z<|aq Z<|aq Z<|aq Z<|aq Z<|dW Z Z<|fo Z ?_;refine bp<|aj<|aM<|yP Z<|yq Z<|bg zI ?_);refine And.intro ⟨by first | omega | (dsimp only;omega),by first | omega | (dsimp only;omega)⟩ ?_)
       (refine yk<|yA Z<|yT<|ai ?_;refine⟨(k+1,false),_,aW.refl _ _,?_⟩)
       exact⟨⟨by simp only;omega,by rw[nx];simp[fp,g6]⟩,by simp only;omega,⟨Z,Z,Z,Z,Z,Y⟩,trivial⟩
      ((refine cB<|ae<|d0 Z<|d0 Z<|d0 Z<|d0 Z<|d0 Z<|d0 Z<|d0 Z<|d0 Z<|d0 Z<|d0 Z<|d1 Z<|d1 Z ?_;refine d0 Z<|d0 Z<|d0 Z<|d0 Z<|d0 Z<|d0 Z<|d0 Z<|d0 Z<|d0 Z<|d0 Z<|d0 Z<|d1 Z<|d1 Z<|d0 Z ?_;refine d0 Z<|d0 Z<|d0 Z<|d0 Z<|d0 Z<|d0 Z<|d0 Z<|d0 Z<|d0 Z<|d0 Z<|d1 Z<|yD Z<|yD Z<|cn ?_;refine aq Z<|aq Z<|aq Z<|aq Z<|aq Z<|aq Z<|aq Z<|aq Z<|aq Z<|aq Z<|aq Z<|aq Z<|aq Z<|aq Z ?_;refine aq Z<|aq Z<|aq Z<|aq Z<|aq Z<|aq Z<|aq Z<|aq Z<|aq Z<|aq Z<|aq Z<|aq Z<|aq Z<|aq Z ?_;refine aq Z<|aq Z<|aq Z<|aq Z<|aq Z<|aq Z<|aq Z<|aq Z<|aq Z<|aq Z<|aq Z<|aq Z<|aq Z<|aq Z ?_;refine aq Z<|aq Z<|aq Z<|aq Z<|aq Z<|aq Z<|aq Z<|aq Z<|aq Z<|aq Z<|aq Z<|dW Z Z<|fo Z<|bp ?_;refine aj<|aM<|yP Z<|yq Z<|bg zI ?_);refine And.intro ⟨by first | omega | (dsimp only;omega),by first | omega | (dsimp only;omega)⟩ ?_)
      (refine yk<|yA Z<|yT<|ai ?_;refine⟨(k+1,false),_,aW.refl _ _,?_⟩)
      exact⟨⟨by simp only;omega,by rw[nx];simp[fp,g5]⟩,by simp only;omega,⟨Z,Z,Z,Z,Z,Y⟩,trivial⟩
     rw[Bool.true_or] at nx
     ((refine aJ<|aj<|au<|aZ<|cH [] false ZZ rfl (by kernel_rfl)<|cG Z<|yD Z<|yD Z<|d0 Z<|d0 Z<|d0 Z<|d0 Z<|d0 Z<|d0 Z ?_;refine d0 Z<|d0 Z<|d0 Z<|d0 Z<|d0 Z<|d0 Z<|gu Z Z Z Z<|ae<|gu Z Z Z Z<|ae<|gu Z Z Z Z<|ae<|gu Z Z Z Z<|ae ?_;refine gu Z Z Z Z<|ae<|gu Z Z Z Z<|ae<|gu Z Z Z Z<|ae<|gu Z Z Z Z<|ae<|gu Z Z Z Z<|ae<|gu Z Z Z Z<|ae<|gu Z Z Z Z<|ae ?_;refine d0 Z<|d0 Z<|gu Z Z Z Z<|ae<|gu Z Z Z Z<|ae<|gu Z Z Z Z<|ae<|gu Z Z Z Z<|ae<|gu Z Z Z Z<|ae<|gu Z Z Z Z<|ae ?_;refine gu Z Z Z Z<|ae<|gu Z Z Z Z<|ae<|gu Z Z Z Z<|ae<|gu Z Z Z Z<|ae<|gu Z Z Z Z<|ae<|d0 Z<|d0 Z<|gu Z Z Z Z<|ae ?_;refine gu Z Z Z Z<|ae<|gu Z Z Z Z<|ae<|gu Z Z Z Z<|ae<|gu Z Z Z Z<|ae<|gu Z Z Z Z<|ae<|gu Z Z Z Z<|ae<|gu Z Z Z Z<|ae ?_;refine gu Z Z Z Z<|ae<|gu Z Z Z Z<|ae<|gu Z Z Z Z<|ae<|d0 Z<|yD Z<|yD Z<|cn<|aq Z<|aq Z<|aq Z<|aq Z ?_;refine aq Z<|aq Z<|aq Z<|aq Z<|aq Z<|aq Z<|aq Z<|aq Z<|aq Z<|aq Z<|aq Z<|aq Z<|aq Z<|aq Z ?_;refine aq Z<|aq Z<|aq Z<|aq Z<|aq Z<|aq Z<|aq Z<|aq Z<|aq Z<|aq Z<|aq Z<|aq Z<|aq Z<|aq Z ?_;refine aq Z<|aq Z<|aq Z<|aq Z<|aq Z<|aq Z<|aq Z<|aq Z<|aq Z<|aq Z<|aq Z<|aq Z<|aq Z<|aq Z ?_;refine aq Z<|aq Z<|aq Z<|aq Z<|aq Z<|aq Z<|aq Z<|dW Z Z<|fo Z<|bp<|aj<|aM<|yP Z<|yq Z ?_;refine bg zI ?_);refine And.intro ⟨by first | omega | (dsimp only;omega),by first | omega | (dsimp only;omega)⟩ ?_)
     (refine yk<|yA Z<|yT<|ai ?_;refine⟨(k+1,true),_,aW.refl _ _,?_⟩)
     exact⟨⟨by simp only;omega,nx.symm⟩,by simp only;omega,⟨Z,Z,Z,Z,Z,Y⟩,trivial⟩
    rw[lm] at g4
    have hf:f=true:=by
     rw[x2,List.take_of_length_le (by omega)]
     exact qp
    subst hf
    ((refine bT<|aY<|aY<|bU<|aj<|yS<|yP Z<|yP Z<|yT<|az Z<|cM<|aJ<|bp<|aj ?_;refine aM<|yP Z<|yq Z<|bg zI ?_);refine And.intro ⟨by first | omega | (dsimp only;omega),by first | omega | (dsimp only;omega)⟩ ?_)
    (refine yk<|yA Z<|yT<|ai ?_;refine⟨(i+1),_,aW.refl _ _,?_⟩)
    exact⟨by omega,by omega,⟨Z,Z,Z,Y⟩,trivial⟩
   (refine bT<|aY<|aY<|bU<|aj<|yS<|yn Z<|aK zI ?_;refine⟨_,_,xF,?_⟩)
   (refine b9 Z Z<|ae<|yA Z<|yR zi ?_;refine And.intro ?_ trivial)
   rfl
  ((refine b9 Z Z<|bq<|yq Z<|aA zI<|bd<|bq<|yP Z<|yP Z<|yA Z<|yA Z<|yT<|au<|yS<|yP Z ?_;refine yP Z<|yP Z<|y1 Z<|y1 Z<|yP Z<|yT<|az Z ?_);refine aa (fun h=>?_) (fun h=>?_) <;> try simp only[zB] at h)
  ·(refine yS<|yP Z<|yP Z<|yP Z<|y0 Z<|y0 Z<|y0 Z<|yP Z<|yP Z<|y2 Z<|jB Z Z Z<|aK zI ?_;refine⟨_,_,xF,?_⟩)
   (refine b9 Z Z<|ae<|yP Z<|yA Z<|yT<|bP<|aX<|bQ zi ?_;refine And.intro ?_ trivial)
   rfl
  exact absurd (by simpa using h) g'
 have e:=YH g
 rw[e]
 ((refine b9 Z Z<|bq<|yq Z<|aA zI<|bd<|bq<|yP Z<|yP Z<|yA Z<|yA Z<|yT<|au<|yS<|yP Z ?_;refine yP Z<|yP Z<|yg Z ?_);refine aa (fun h=>?_) (fun h=>?_) <;> try simp only[zB] at h)
 ·(refine cB<|ae<|y0 Z<|yP Z<|yT<|az Z<|fy<|yS<|yP Z<|yP Z<|yP Z<|yg Z ?_;refine aa (fun h2=>?_) (fun h2=>?_) <;> try simp only[zB] at h2)
  ·exact absurd h2 g
  (refine bS<|bA Z Z<|aA zI<|yk<|y1 Z<|y1 Z<|yP Z<|yP Z<|y2 Z<|jB Z Z Z<|aK zI ?_;refine⟨_,_,xF,?_⟩)
  (refine b9 Z Z<|ae<|yP Z<|yA Z<|yT<|bP<|aX<|bQ zi ?_;refine And.intro ?_ trivial)
  rfl
 exact absurd (by simpa using h) g
end M
end Go.Proofs.YtpbkimanfahbgaaGreatDoor
namespace Go.Proofs.YtpbkimanfahbgaaGreatDoor
open Go.ChangeShapes Go.WideShapes Go.ChangeAt Go.RowKit Go.AM
open Go.ChangeMaps (open_string shut_string)
open Go.Proofs.YtpbkimanfahbgaaGreatDoor.M
namespace rulesHarderBreakMore
theorem vZ {P:Program} {f:FuncId} {fn:Func} {s:ChangeSpec} {c:OpenClaim} (MX:(laidOutB P)=true) (Ko:(mapsRowed P)=true) (MY:((c.inPlace == P.inPlace f))=true) (Pe:((c.unfollowed == P.unfollowed f))=true) (Pf:((c.recurses == P.recurses f))=true) (Kp:((c.named == P.varsNamed f))=true) (Pg:((c.plainKeys == P.plainKeys))=true) (Kq:(P.stopsHeard)=true) (Kr:(P.mayEnter)=true) (MZ:((c.lifted == P.liftsFinal))=true) (M0:((P.make == some c.make))=true)
  (h_rest:(c.wf (OpenSpec.ofChange s) && true && fn.params.all (P.readableRec ·) && namedTie P c.named s.vars && (c.stops == []) && (P.stops == []) && (c.knobs == []) && (P.stopKnobs == []) && true && (c.maps == (fn.params.toList++s.plain.varTypes P).any (P.mapsRec ·)) && (c.ifaces == (fn.params.toList++s.plain.varTypes P).any (P.ifacesRec ·)) && (c.mapsOut == P.mapsAmong fn.resultTypes.toList) && (c.loops == (fn.params.toList++s.plain.varTypes P).any (P.loopsFrom ·)) && (c.wideKeys == (fn.params.toList++s.plain.varTypes P++fn.resultTypes.toList).any (P.wideKeysFrom ·)) && s.vars.all (P.varReadable ·) && fn.resultTypes.all (fun t=>P.readableRec t && decide (t < P.types.size)) && (c.ifacesOut == fn.resultTypes.toList.any (P.ifacesRec ·)) && (c.loopsOut == fn.resultTypes.toList.any (P.loopsFrom ·)) && c.shortTexts.isNone && (c.kinds == (if c.domain.isEmpty then [] else fn.params.toList.map fun t=>match P.underlying t with | some (.int k)=>some k | _=>none)) && (c.pinned == c.pinnedBy) && (c.veiled == (fn.params.toList++s.plain.varTypes P++fn.resultTypes.toList).any (P.veiledRec ·)) && c.veiledFits P fn.params.toList (fn.params.toList++s.plain.varTypes P++fn.resultTypes.toList))=true):joinedFacts P f fn s c=true:=by
 simp only[Bool.and_eq_true] at h_rest
 simp only[joinedFacts,Bool.and_eq_true]
 simp only[MX,Ko,MY,Pe,Pf,Kp,Pg,Kq,Kr,MZ,M0,and_true]
 simp only[and_assoc,and_true] at h_rest ⊢
 exact h_rest
theorem M1 {W:World} (hL:laidMetH Tryz.prog Rows.rulesHarderBreakMoreUptoRow.laid W) (h:W.ShapedOpen Tryz.prog):M.Env (fun b=>b < W.heap.size) W:=by
 refine A3 (Go.Proofs.cell_of_shapedOpen_int (zero:=#[.int .i64 0]) (t:=3) h (of_decide_eq_true (by kernel_rfl)) (by kernel_rfl) rfl (by kernel_rfl) (by kernel_rfl) Tryz.underlying3) ?_
 rw[MakeChecks.laidMetH_plain _ _ _ (by kernel_rfl)] at hL
 exact Lib.tabIs_of_head (rest:=Rows.rulesHarderBreakMoreUptoRow.laid.drop 3) M.Mw (by kernel_rfl) Tryz.underlying248 Tryz.underlying224 (by kernel_rfl) (by kernel_rfl) (laidMet.tail (laidMet.tail hL))
theorem IS (H:Type) (enc:TypeId×Value->H) (W:World) (base:Nat) (args:Array Value) (ds gs:List (DataW H)) (before:List MemPlace)
  (hval:∀(j:Nat) t v,Tryz.f4.params[j]?=some t->args[j]?=some v->Value.okWide Tryz.prog W .any base t v)
  (hW:DataW.Whole enc Tryz.prog Tryz.f4.params.toList Rows.rulesHarderBreakMoreSpec.vars false W args.toList ds gs before) (hk:Rows.uptoSmall H (ds++gs)=true) (hE:M.Env (fun b=>b < W.heap.size) W):
  Calls Tryz.prog 4 args W fun e W'=>∃v,e=.returned v/\Rows.rulesHarderBreakMoreSpec.post enc Tryz.prog Tryz.f4 false true false false W args v W':=by
 have VI:=hW
 obtain⟨pp,q,VJ,hV,rfl,zK,IY⟩:=hW
 have hA:DataW.TrodAll enc Tryz.prog W 0 (fun _=>true) true Tryz.f4.params.toList args.toList ds pp:=VJ
 have again:=fun (W':World) (hb:Below W.heap.size W W')=>xw OI hb (by kernel_rfl) hA hA.lt
 rw[Tryz.params4] at hA hval
 obtain⟨v0,Wd,d0,We,p0,q0,hargs,rfl,Tz,h0,r0⟩:=trodAll_cons hA
 obtain⟨v1,Wf,d1,Wg,p1,q1,rfl,rfl,rfl,h1,r1⟩:=trodAll_cons r0
 obtain⟨v2,Wh,d2,Wi,p2,q2,rfl,rfl,rfl,h2,r2⟩:=trodAll_cons r1
 obtain⟨v3,Wj,d3,Wk,p3,q3,rfl,rfl,rfl,h3,r3⟩:=trodAll_cons r2
 obtain⟨rfl,rfl,rfl⟩:=trodAll_nil r3
 obtain rfl:args=#[v0,v1,v2,v3]:=by cases args;simp_all
 obtain⟨rfl,rfl⟩:=trodVars_none hV
 obtain⟨_,w0,r,rfl,z0⟩:=uR (S:=fun b=>b < W.heap.size) Tryz.underlying25 (H6 fun _ h=>h) (hval 0 25 v0 rfl rfl) h0
 have VK:ic r:=H7 (zb _ _ _ (zd hk (List.mem_append_left _ (by repeat (first | exact List.mem_cons_self .. | apply List.mem_cons_of_mem)))) z0)
 obtain⟨_,w1,a,rfl,z1⟩:=uR (S:=fun b=>b < W.heap.size) Tryz.underlying31 (MU fun _ h=>h) (hval 1 31 v1 rfl rfl) h1
 have VL:oh a:=MV (DA _ _ _ (zd hk (List.mem_append_left _ (by repeat (first | exact List.mem_cons_self .. | apply List.mem_cons_of_mem)))) z1)
 obtain⟨_,w2,nets,e2,z2⟩:=Fx (S:=fun b=>b < W.heap.size) Tryz.underlying32 (Ek fun _ h=>h) (hval 2 32 v2 rfl rfl) h2
 cases e2
 have M3:sD nets:=Km (zd hk (List.mem_append_left _ (by repeat (first | exact List.mem_cons_self .. | apply List.mem_cons_of_mem)))) z2
 obtain⟨more,rfl,rfl,rfl,w3⟩:=open_int Tryz.underlying3 (hval 3 3 v3 rfl rfl) h3
 refine (My (C:=C) (xs:=[.ag (rl r),.ag (kG a),strs nets,i64 more]) (y:=.bool true) (ZX r VK a VL nets M3 more) hE (lQ (w0) (lQ (w1) (lQ (w2) (lQ (.im _) HO))))).mono fun e W' ⟨he,hb⟩=>?_
 subst he
 exact⟨_,rfl,wG (pa:=pp) (pv:=[]) VI (fun _ _ _=>trodAll_cons_mk (shut_bool Tryz.underlying4 _) trodAll_mk0) (fun sp h=>again W' hb sp (fun p hp=>h p (List.mem_append_left _ hp))) (fun _ _=>rfl) rfl
  hb (ok_one (by kernel_rfl) rfl (okWide_bool_mk Tryz.underlying4 _))⟩
theorem reads (os:Os) {H:Type} (enc:TypeId×Value->H):∃places,DataW.whole enc Tryz.prog ((World.laidAll Tryz.prog os Rows.rulesHarderBreakMoreUptoRow.laid).forCall (fun _ _=>0) ⟨#[],#[.agg #[.int .i64 0,.int .i64 0,.int .i64 0,.int .i64 0,.int .i64 0,.slice none 0 0,.slice none 0 0],.agg #[.slice none 0 0,.slice none 0 0,.slice none 0 0,.slice none 0 0],.slice none 0 0,.int .i64 0],[]⟩).memory Tryz.f4.params.toList Rows.rulesHarderBreakMoreSpec.vars false (#[.agg #[.int .i64 0,.int .i64 0,.int .i64 0,.int .i64 0,.int .i64 0,.slice none 0 0,.slice none 0 0],.agg #[.slice none 0 0,.slice none 0 0,.slice none 0 0,.slice none 0 0],.slice none 0 0,.int .i64 0]:Array Value).toList 8=some ([.agg [.lit (.int .i64 0),.lit (.int .i64 0),.lit (.int .i64 0),.lit (.int .i64 0),.lit (.int .i64 0),.nil,.nil],.agg [.nil,.nil,.nil,.nil],.nil,.lit (.int .i64 0)],[],places):=
 ⟨[],by kernel_rfl⟩
theorem lifted (os:Os) (started:os.Started) (H:Type) (enc:TypeId×Value->H) (F:Stop.Interp):
  ReturnsInHanded {} Tryz.checked os 4 .any ((Rows.OpenSpec.upto Rows.rulesHarderBreakMoreSpec).preRow enc Tryz.prog Tryz.f4 Rows.rulesHarderBreakMoreUptoRow.domain false Rows.rulesHarderBreakMoreUptoRow.laid) (((Rows.OpenSpec.upto Rows.rulesHarderBreakMoreSpec).at F).post enc Tryz.prog Tryz.f4 false true false false):=by
 obtain⟨places,hx⟩:=reads os enc
 refine returnsInHanded_of_row (C:=Tryz.checked) (s:=Rows.OpenSpec.upto Rows.rulesHarderBreakMoreSpec) own started (by kernel_rfl) Tryz.func4
  (tB (enc:=enc) (C:=Tryz.checked) (World.laidAll Tryz.prog os Rows.rulesHarderBreakMoreUptoRow.laid) #[.agg #[.int .i64 0,.int .i64 0,.int .i64 0,.int .i64 0,.int .i64 0,.slice none 0 0,.slice none 0 0],.agg #[.slice none 0 0,.slice none 0 0,.slice none 0 0,.slice none 0 0],.slice none 0 0,.int .i64 0] (World.laidAll_os _ _ _) (World.shaped_of_ZipB (by kernel_rfl) (by kernel_rfl)) (by kernel_rfl)
   (OpenSpec.preRow_of_cond 8 hx (by kernel_rfl) (fun k hk=>by cases hk;kernel_rfl) (by kernel_rfl)
    (by rw[MakeChecks.laidMetH_plain _ _ _ (by kernel_rfl)];exact laidMet_laidAll _ (by kernel_rfl) (by kernel_rfl)))) ?_
 intro W base args ds gs before hval hW _ D0 _ hL hsh _
 exact IS H enc W base args ds gs before hval hW (D0 _ rfl) (M1 hL hsh)
theorem M4:laidOutB Tryz.prog=true:=by kernel_rfl
theorem Ks:mapsRowed Tryz.prog=true:=by kernel_rfl
theorem M5:(Rows.rulesHarderBreakMoreUptoRow.inPlace == Tryz.prog.inPlace 4)=true:=by kernel_rfl
theorem Pj:(Rows.rulesHarderBreakMoreUptoRow.unfollowed == Tryz.prog.unfollowed 4)=true:=by kernel_rfl
theorem Pk:(Rows.rulesHarderBreakMoreUptoRow.recurses == Tryz.prog.recurses 4)=true:=by kernel_rfl
theorem Kt:(Rows.rulesHarderBreakMoreUptoRow.named == Tryz.prog.varsNamed 4)=true:=by kernel_rfl
theorem Pm:(Rows.rulesHarderBreakMoreUptoRow.plainKeys == Tryz.prog.plainKeys)=true:=by kernel_rfl
theorem Ku:Tryz.prog.stopsHeard=true:=by kernel_rfl
theorem Kv:Tryz.prog.mayEnter=true:=by kernel_rfl
theorem M6:(Rows.rulesHarderBreakMoreUptoRow.lifted == Tryz.prog.liftsFinal)=true:=by kernel_rfl
theorem M7:(Tryz.prog.make == some Rows.rulesHarderBreakMoreUptoRow.make)=true:=by kernel_rfl
theorem M8:false=Rows.rulesHarderBreakMoreUptoRow.goesBy Tryz.prog:=by kernel_rfl
theorem Kw:false=Tryz.prog.looks []:=by kernel_rfl
theorem Su:Rows.rulesHarderBreakMoreUptoRow.wfByText (Rows.OpenSpec.upto Rows.rulesHarderBreakMoreSpec)=true:=by kernel_rfl
theorem ga:joinedFacts Tryz.prog 4 Tryz.f4 (Rows.OpenSpec.upto Rows.rulesHarderBreakMoreSpec).bare Rows.rulesHarderBreakMoreUptoRow=true:=
 vZ M4 Ks M5 Pj Pk Kt Pm Ku Kv M6 M7 (by kernel_rfl)
theorem IT:Rows.RulesHarderBreakMoreUptoSaid:=
 OpenClaim.holds_of_cond 4 Tryz.f4 rfl rfl rfl rfl rfl rfl rfl ⟨rfl,rfl,rfl,rfl,rfl⟩ rfl rfl rfl rfl rfl (by kernel_rfl) Tryz.func4 ga
  (of_decide_eq_true (by kernel_rfl)) (by unfold Func.isWrapper;first | (rw[if_pos (by decide +kernel)];kernel_rfl) | (rw[if_neg (by decide +kernel)];exact⟨rfl,rfl⟩))
  (fun os started H enc _ F=>by rw[OpenClaim.pre_eq_preRow];exact lifted os started H enc F)
theorem plain (f:FuncId) (fn:Func) (hf:Tryz.pinned.checked.prog.funcNamed Rows.rulesHarderBreakMoreUptoRow.func=some f) (QU:Tryz.pinned.checked.prog.funcs[f]?=some fn):
  false=Tryz.pinned.checked.prog.looks []/\∀(j:Nat) t,fn.params[j]?=some t->Tryz.pinned.checked.prog.wantsStandIn t=false:=by
 obtain rfl:f=4:=Option.some.inj ((show Tryz.prog.funcNamed Rows.rulesHarderBreakMoreUptoRow.func=some 4 by kernel_rfl).symm.trans hf) |>.symm
 obtain rfl:fn=Tryz.f4:=(Option.some.inj (Tryz.func4.symm.trans QU)).symm
 refine⟨Kw,fun j t ht=>?_⟩
 rw[Tryz.params4] at ht
 have hm:=Array.mem_of_getElem? ht
 have iB:((Tryz.f4.params.toList).all fun u=>!Tryz.prog.wantsStandIn u)=true:=by kernel_rfl
 exact (show Tryz.prog.wantsStandIn t=false by simpa using List.all_eq_true.1 iB t (by rw[Tryz.params4];simpa using hm))
theorem cardUpto:Rows.RulesHarderBreakMoreUptoCardSaid:=
 Claim7.holds_tied_plain_at .later [] _ _ _ _ IT (fun _ h=>by cases h) Su (fun _ h=>by cases h) rulesHarderBreakMoreUpto_row_tie rfl ⟨rfl,rfl⟩ (by kernel_rfl) rfl plain M8
end rulesHarderBreakMore
end Go.Proofs.YtpbkimanfahbgaaGreatDoor
