/- Part 13 of 14 of the proof of RulesHarderBreakMore (the names are shortened by a program: the size of a claim is limited). -/
import Derived.Test.YtpbkimanfahbgaaGreatDoorH12
set_option linter.unusedVariables false
set_option linter.unusedSimpArgs false
set_option maxRecDepth 100000
set_option maxHeartbeats 8000000
namespace Go.Proofs.YtpbkimanfahbgaaGreatDoor
namespace M
open Reg (aB ax en Wt Piece l9 hZ cQ told a_ cx aQ through B0 x7 aw zk cv ru jm bX coreS at')
def OW (a b:Break):Prop:=a.kind=b.kind/\a.a=b.a/\a.b=b.b/\a.is=b.is
def Has (l m:List Break):Prop:=∀b∈l,∃c∈m,OW b c
theorem Has.nil (m:List Break):Has [] m:=fun b hb=>by cases hb
theorem Has.one {a b:Break} (h:OW a b):Has [a] [b]:=fun c hc=>by
 rw[List.mem_singleton] at hc
 subst hc
 exact⟨b,List.mem_singleton.2 rfl,h⟩
theorem Has.app {l m l' m':List Break} (h:Has l m) (h':Has l' m'):Has (l++l') (m++m'):=fun b hb=>by
 rcases List.mem_append.1 hb with hb | hb
 ·obtain⟨c,hc,hs⟩:=h b hb
  exact⟨c,List.mem_append.2 (.inl hc),hs⟩
 obtain⟨c,hc,hs⟩:=h' b hb
 exact⟨c,List.mem_append.2 (.inr hc),hs⟩
theorem c7 {r s:bR} {B:l9} {nets:List ByteArray} {i:Nat} {p:Piece} (h:∀k q,Has (WO r B nets i k p q) (WO s B nets i k p q)):∀(t:List Piece) (k:Nat),Has (WI r B nets i p k t) (WI s B nets i p k t)
 | [],k=>Has.nil _
 | q::t,k=>by
  rw[WI,WI]
  by_cases e:q.layer=p.layer
  ·rw[if_pos e,if_pos e]
   exact (h k q).app (c7 h t (k+1))
  rw[if_neg e];exact Has.nil _
theorem nq {r s:bR} {B:l9} {nets:List ByteArray} (h:∀i k p q,Has (WO r B nets i k p q) (WO s B nets i k p q)):∀(t:List Piece) (k:Nat),Has (WD r B nets k t) (WD s B nets k t)
 | [],k=>Has.nil _
 | q::t,k=>by
  rw[WD,WD]
  exact (c7 (fun j u=>h k j q u) t (k+1)).app (nq h t (k+1))
theorem kq {r s:bR} {B:l9} {nets:List ByteArray}:∀(t:List Piece) (k:Nat),(∀i,∀p∈t,Has (WS r B nets i p) (WS s B nets i p))->Has (Wr r B nets k t) (Wr s B nets k t)
 | [],k,_=>Has.nil _
 | q::t,k,h=>by
  rw[Wr,Wr]
  exact (h k q List.mem_cons_self).app (kq t (k+1) fun i p hp=>h i p (List.mem_cons_of_mem _ hp))
theorem lq {g g':Int} {bs:List en} {cs:List (List aB)} {i:Nat} {x:en}:∀(n:Nat) (layer:Int),(∀l,layer<=l->l<=x.hi->Has (W7 g bs cs i x l) (W7 g' bs cs i x l))->Has (WK g bs cs i x n layer) (WK g' bs cs i x n layer)
 | 0,_,_=>Has.nil _
 | n+1,layer,h=>by
  rw[WK,WK]
  by_cases e:x.plated=true/\layer<=x.hi
  ·rw[if_pos e,if_pos e]
   exact (h layer (Int.le_refl _) e.2).app (lq n (layer+1) fun l h1 h2=>h l (by omega) h2)
  rw[if_neg e];exact Has.nil _
theorem nv {g g':Int} {bs:List en} {cs:List (List aB)}:∀(t:List en) (k:Nat),(∀i,∀x∈t,∀l,x.lo<=l->l<=x.hi->Has (W7 g bs cs i x l) (W7 g' bs cs i x l))->Has (Wx g bs cs k t) (Wx g' bs cs k t)
 | [],k,_=>Has.nil _
 | q::t,k,h=>by
  rw[Wx,Wx]
  exact (lq _ _ (h k q List.mem_cons_self)).app (nv t (k+1) fun i p hp=>h i p (List.mem_cons_of_mem _ hp))
theorem ny {g g':Int} {o:List ax}:∀(t:List Piece) (k:Nat),(∀i,∀p∈t,Has (Xj g o i p) (Xj g' o i p))->Has (Wy g o k t) (Wy g' o k t)
 | [],k,_=>Has.nil _
 | q::t,k,h=>by
  rw[Wy,Wy]
  exact (h k q List.mem_cons_self).app (ny t (k+1) fun i p hp=>h i p (List.mem_cons_of_mem _ hp))
theorem np {g g':Int} {i:Nat} {x:en} (h:∀k y,Has (W8 g i k x y) (W8 g' i k x y)):∀(t:List en) (k:Nat),Has (WR g i x k t) (WR g' i x k t)
 | [],k=>Has.nil _
 | q::t,k=>by
  rw[WR,WR]
  exact (h k q).app (np h t (k+1))
theorem ZH {g g':Int} (h:∀i k x y,Has (W8 g i k x y) (W8 g' i k x y)):∀(t:List en) (k:Nat),Has (Ws g k t) (Ws g' k t)
 | [],k=>Has.nil _
 | q::t,k=>by
  rw[Ws,Ws]
  exact (np (fun j u=>h k j q u) t (k+1)).app (ZH h t (k+1))
theorem fq {a b:List ax} (hb:hZ b) (ha:hZ a) (h:∀x y,at' a x y=true->at' b x y=true) (hn:b=[]):a=[]:=by
 subst hn
 exact Reg.qK ha fun x y=>by
  cases e:at' a x y with
  | false=>rfl
  | true=>exact absurd (h x y e) (by simp[at'])
theorem ZL {s:List ax} (h:hZ s) {m n:Int} (h0:0<=m) (hm:m<=n) (x y:Int) (hx:at' (bX s m m m m) x y=true):at' (bX s n n n n) x y=true:=by
 rw[(Reg.ff h h0 h0 h0 h0).2.1] at hx
 rw[(Reg.ff h (by omega) (by omega) (by omega) (by omega)).2.1]
 obtain⟨a,b,h1,h2,h3,h4,h5⟩:=hx
 exact⟨a,b,h1,by omega,by omega,by omega,by omega⟩
theorem ZQ {s:List ax} (h:hZ s) {m n:Int} (h0:0<=m) (hm:m<=n) (x y:Int) (hx:at' (coreS s n n n n) x y=true):at' (coreS s m m m m) x y=true:=by
 rw[(Reg.u4 h (by omega) (by omega) (by omega) (by omega)).2.1] at hx
 rw[(Reg.u4 h h0 h0 h0 h0).2.1]
 exact fun a b h1 h2 h3 h4=>hx a b (by omega) (by omega) (by omega) (by omega)
theorem YE {own c:List ax} (ho:hZ own) (hc:hZ c) {n:Int} (h0:0<=n):hZ (WM own c n)/\∀x y,at' (WM own c n) x y=((at' (bX own n n n n) x y && !at' own x y) && !at' c x y):=by
 obtain⟨s1,_,_⟩:=Reg.ff ho h0 h0 h0 h0
 obtain⟨l1,l2,_⟩:=Reg.dZ s1 ho
 obtain⟨m1,m2,_⟩:=Reg.dZ l1 hc
 exact⟨m1,fun x y=>by rw[WM,m2,l2]⟩
theorem ZI {own c:List ax} (ho:hZ own) (hc:hZ c) {m n:Int} (h0:0<=m) (hm:m<=n) (x y:Int) (hx:at' (WM own c m) x y=true):at' (WM own c n) x y=true:=by
 rw[(YE ho hc h0).2] at hx
 rw[(YE ho hc (by omega)).2]
 simp only[Bool.and_eq_true,Bool.not_eq_true'] at hx ⊢
 exact⟨⟨ZL ho h0 hm x y hx.1.1,hx.1.2⟩,hx.2⟩
theorem ZO {r s:bR} {B:l9} {nets:List ByteArray} {i:Nat} {p:Piece} (hp:hZ p.set) (h0:0<=WA r (er nets (B.ofPiece.getD i 0))) (h1:WA r (er nets (B.ofPiece.getD i 0))<=WA s (er nets (B.ofPiece.getD i 0))):Has (WS r B nets i p) (WS s B nets i p):=by
 rw[WS,WS]
 by_cases c:zk p.set (WA r (er nets (B.ofPiece.getD i 0)))=[]
 ·rw[if_pos c];exact Has.nil _
 rw[if_neg c,if_neg fun e=>c (fq (Reg.Yp hp _).1 (Reg.Yp hp _).1 (fun x y hx=>Reg.ZJ hp h1 x y hx) e)]
 refine Has.one ⟨rfl,rfl,rfl,?_⟩
 refine (cq (h:=fun n=>decide (zk p.set n=[])) (fun m n hm Rm hn=>?_) h0 (decide_eq_false c) h1).symm
 exact decide_eq_true (fq (Reg.Yp hp _).1 (Reg.Yp hp _).1 (fun x y hx=>Reg.ZJ hp Rm x y hx) (of_decide_eq_true hn))
theorem YA {bs:List en} {i:Nat} {layer:Int}:∀(t:List en) (k:Nat) (s:List ax),(∀b∈t,cx b=true)->hZ s->cQ 2000000 s->hZ (WJ bs i layer k t s)/\cQ 2000000 (WJ bs i layer k t s)
 | [],k,s,_,h,hk=>⟨h,hk⟩
 | y::t,k,s,hb,h,hk=>by
  rw[WJ]
  refine YA t (k+1) _ (fun b h=>hb b (List.mem_cons_of_mem _ h)) ?_ ?_
  ·split
   ·exact (Reg.va h (Reg.gf (l:=[aQ y]) (fun q hq=>by rw[List.mem_singleton] at hq;subst hq;exact Reg.eZ (hb y List.mem_cons_self))).1).1
   exact h
  split
  ·have MB:=Reg.gf (l:=[aQ y]) (fun q hq=>by rw[List.mem_singleton] at hq;subst hq;exact Reg.eZ (hb y List.mem_cons_self))
   refine (Reg.va h MB.1).2.2 2000000 hk (MB.2.2 2000000 fun q hq=>?_)
   rw[List.mem_singleton] at hq
   subst hq
   obtain⟨a1,a2,a3,a4⟩:=Reg.jM (hb y List.mem_cons_self)
   exact⟨by omega,by omega,by omega,by omega⟩
  exact hk
theorem Ey {b:en} (h:cx b=true):hZ (a_ [aQ b])/\cQ 1010000 (a_ [aQ b]):=by
 have MB:=Reg.gf (l:=[aQ b]) (fun q hq=>by rw[List.mem_singleton] at hq;subst hq;exact Reg.eZ h)
 refine⟨MB.1,MB.2.2 _ fun q hq=>?_⟩
 rw[List.mem_singleton] at hq
 subst hq
 exact Reg.jM h
theorem kS {l:List aB} (h:Reg.aH l=0):hZ (a_ l)/\cQ 1000000 (a_ l):=by
 have h:=mQ h
 have hb:=Reg.gf h.full
 exact⟨hb.1,hb.2.2 _ h.rk⟩
theorem Yw {a:Wt} (ha:jG a) (i:Nat) (layer:Int):hZ (Wv a.bores a.coppers i layer)/\cQ 2000000 (Wv a.bores a.coppers i layer):=by
 refine YA _ _ _ (vH ha) ?_ ?_
 ·rw[List.getD_eq_getElem?_getD]
  cases e:a.coppers[layer.toNat]? with
  | none=>exact (Reg.gf (l:=[]) fun q hq=>by cases hq).1
  | some r=>exact (kS (ha.reg r (List.mem_of_getElem? e))).1
 rw[List.getD_eq_getElem?_getD]
 cases e:a.coppers[layer.toNat]? with
 | none=>exact (Reg.gf (l:=[]) fun q hq=>by cases hq).2.2 _ (fun q hq=>by cases hq)
 | some r=>
  exact Reg.cQ.up (by omega) (kS (ha.reg r (List.mem_of_getElem? e))).2
theorem ZS {a:Wt} (ha:jG a) {g g':Int} (h0:0<=g) (h1:g<=g') (i:Nat) {x:en} (hx:cx x=true) (layer:Int):Has (W7 g a.bores a.coppers i x layer) (W7 g' a.bores a.coppers i x layer):=by
 rw[W7,W7]
 by_cases c:jm (a_ (a.coppers.getD layer.toNat [])) (Xn x)=[]
 ·rw[if_pos c];exact Has.nil _
 rw[if_neg c,if_neg c]
 have ho:=(Ey hx).1
 have hc:=(Yw ha i layer).1
 by_cases c:WM (a_ [aQ x]) (Wv a.bores a.coppers i layer) g=[]
 ·rw[if_pos c];exact Has.nil _
 rw[if_neg c,if_neg fun e=>c (fq (YE ho hc (by omega)).1 (YE ho hc h0).1 (fun x y hx=>ZI ho hc h0 h1 x y hx) e)]
 refine Has.one ⟨rfl,rfl,rfl,?_⟩
 refine (cq (h:=fun n=>decide (n < 0) || decide (WM (a_ [aQ x]) (Wv a.bores a.coppers i layer) n=[])) (fun m n hm Rm hn=>?_) h0 (by simp only[Bool.or_eq_false_iff,decide_eq_false_iff_not];exact⟨by omega,c⟩) h1).symm
 simp only[Bool.or_eq_true,decide_eq_true_eq] at hn ⊢
 rcases hn with hn | hn
 ·omega
 exact .inr (fq (YE ho hc (by omega)).1 (YE ho hc hm).1 (fun x y hx=>ZI ho hc hm Rm x y hx) hn)
theorem ZT {o:List ax} (ho:hZ o) {g g':Int} (h0:0<=g) (h1:g<=g') (i:Nat) {p:Piece} (hp:hZ p.set):Has (Xj g o i p) (Xj g' o i p):=by
 have co:∀n,0<=n->hZ (coreS o n n n n):=fun n hn=>(Reg.u4 ho hn hn hn hn).1
 have Z0:∀m n,0<=m->m<=n->∀x y,at' (cv p.set (coreS o m m m m)) x y=true->at' (cv p.set (coreS o n n n n)) x y=true:=fun m n hm Rm x y hx=>by
  rw[(Reg.dZ hp (co m hm)).2.1] at hx
  rw[(Reg.dZ hp (co n (by omega))).2.1]
  simp only[Bool.and_eq_true,Bool.not_eq_true'] at hx ⊢
  refine⟨hx.1,?_⟩
  cases e:at' (coreS o n n n n) x y with
  | false=>rfl
  | true=>rw[ZQ ho hm Rm x y e] at hx;cases hx.2
 have sk:∀n,0<=n->hZ (cv p.set (coreS o n n n n)):=fun n hn=>(Reg.dZ hp (co n hn)).1
 rw[Xj,Xj]
 by_cases c:cv p.set (coreS o g g g g)=[]
 ·rw[if_pos c];exact Has.nil _
 rw[if_neg c,if_neg fun e=>c (fq (sk _ (by omega)) (sk _ h0) (Z0 _ _ h0 h1) e)]
 refine Has.one ⟨rfl,rfl,rfl,?_⟩
 refine (cq (h:=fun n=>decide (cv p.set (coreS o n n n n)=[])) (fun m n hm Rm hn=>?_) h0 (decide_eq_false c) h1).symm
 exact decide_eq_true (fq (sk _ (by omega)) (sk _ hm) (Z0 _ _ hm Rm) (of_decide_eq_true hn))
theorem ZU {g g':Int} (h1:g<=g') (i k:Nat) (x y:en):Has (W8 g i k x y) (W8 g' i k x y):=by
 rw[W8,W8]
 by_cases c:y.hi < x.lo\/x.hi < y.lo
 ·rw[if_pos c];exact Has.nil _
 rw[if_neg c,if_neg c]
 by_cases d:B0 (aQ x) (aQ y) - 1 < g
 ·rw[if_pos d,if_pos (by omega)]
  exact Has.one ⟨rfl,rfl,rfl,rfl⟩
 rw[if_neg d];exact Has.nil _
def b7 (r:bR):bR:=⟨r.clearance,r.width,r.ring,r.edge,r.holeGap,[],[]⟩
def b6 (r:bR) (n:Int):bR:=⟨max r.clearance n,max r.width n,max r.ring n,max r.edge n,max r.holeGap n,[],[]⟩
theorem ZK {r:bR} (h:r.classes=[]) (x:ByteArray):dB r x=r.clearance:=by
 rw[dB,h];rfl
theorem kp {r:bR} (h:r.classes=[]) (x:ByteArray):WA r x=r.width:=by
 rw[WA,h];rfl
theorem ZM {r:bR} (h:r.classes=[]) (k:r.areas=[]) (a b:ByteArray) (l x y:Int):WN r a b l x y=r.clearance:=by
 rw[WN,k,ZK h,ZK h]
 simp[WQ]
theorem ZN {r:bR} {n:Int} (hr:ke r=true) {a:Wt} (ha:vG a) (nets:List ByteArray):Has (WY (b7 r) a nets) (WY (b6 r n) a nets):=by
 simp only[ke,di,Bool.and_eq_true,decide_eq_true_eq] at hr
 rw[WY,WY]
 refine Has.app (nq (fun i k p q=>?_) _ _) (Has.app (kq _ _ fun i p hp=>?_) (Has.app (nv _ _ fun i x hx l _ _=>?_) (Has.app (ny _ _ fun i p hp=>?_) (ZH (fun i k x y=>?_) _ _))))
 ·rw[WO,WO]
  split
  ·exact Has.nil _
  rw[ZM rfl rfl,ZM rfl rfl]
  by_cases c:(x7 (told p.set) (told q.set)).dist < (b7 r).clearance
  ·have h1:(b7 r).clearance<=(b6 r n).clearance:=by simp only[b7,b6];omega
   rw[if_pos c,if_pos (by omega)]
   exact Has.one ⟨rfl,rfl,rfl,rfl⟩
  rw[if_neg c];exact Has.nil _
 ·refine ZO (ha.pc p hp).sok ?_ ?_
  ·rw[kp rfl];simp only[b7];omega
  rw[kp rfl,kp rfl];simp only[b7,b6];omega
 ·exact ZS ha.art (by simp only[b7];omega) (by simp only[b7,b6];omega) i (vH ha.art x hx) l
 ·exact ZT (kS ha.art.out).1 (by simp only[b7];omega) (by simp only[b7,b6];omega) i (ha.pc p hp).sok
 exact ZU (by simp only[b7,b6];omega) i k x y
end M
end Go.Proofs.YtpbkimanfahbgaaGreatDoor
namespace Go.AM
theorem aW.Y1 {A:cV} (hC:bV A.C) (s:AS) (id j:Nat) (f:FuncId) (cap:List PV) (cs:List AV) (hb:s.h id=.box cs) (hn:cs[j]?=some (.fn f (cap.map .p))):aW A s ⟨s.t,br s.h id (.box (cs.set j (.p (.fn f cap))))⟩:=by
 intro S rho a w sim
 refine⟨S,rho,sim.write hC id trivial (by rw[hb];trivial) _ (fun _ h=>by cases h) w rfl rfl rfl rfl (fun _ _=>rfl) fun T=>?_⟩
 have hh:=sim.hp id trivial
 rw[hb] at hh
 obtain⟨g,ty,c,k1,k2,k3,k4⟩:=hh
 refine⟨g,ty,c,k1,k2,by rw[k3,List.length_set],fun q x u hi hu=>?_⟩
 by_cases ei:q=j
 ·subst ei
  rw[List.getElem?_set_self (aP hn)] at hi
  injection hi with hi
  subst hi
  obtain⟨k5,k6⟩:=k4 q _ u hn hu
  refine⟨k5,?_⟩
  have k7:bu S w (.fn f cap) u:=by
   cases k6 with
   | fn _ _ vs hl hc=>
    refine .fn f cap vs (by rw[<-hl,List.length_map]) fun i x v hx hv=>?_
    have:=hc i (.p x) v (by rw[List.getElem?_map,hx];rfl) hv
    cases this with
    | p _ _ h=>exact h
  exact (bF.p _ _ k7).lz T
 rw[List.getElem?_set_ne (fun e=>ei e.symm)] at hi
 obtain⟨k5,k6⟩:=k4 q x u hi hu
 exact⟨k5,k6.lz T⟩
theorem eK.TG {S S':Nat->Prop} {w:World} {P:Program}:∀{xs:List PV} {vs:List Value},eK S w P (xs.map .pv) [] vs->eK S' w P (xs.map .pv) [] vs
 | [],[],h=>h
 | [],_::_,h=>h
 | _::_,[],h=>h
 | _::xs,_::vs,h=>eK.TG (xs:=xs) (vs:=vs) h
theorem aD.iv {C:Ctx} {f:FuncId} {xs:List PV} {e:TypeId} {es:List (List PV)} (h:aD C f (xs.map .pv) (.own e es) []):aD C f (xs.map .pv) (.p (.sl es)) []:=by
 refine⟨h.1,fun S w vs hE hS hl ha hd=>(h.2 S w vs hE hS hl ha hd).mono ?_⟩
 rintro e' w' ⟨v,S',rfl,fr,s1,s2,s3,hr,hf,ho,hg⟩
 have sL:aR C.P w' (bu S' w') e es v:=hr.1
 refine⟨v,fun b=>S' b\/cU v=some b,rfl,fr,fun b hb=>.inl (s1 b hb),fun b hb=>?_,fun b hb=>?_,sL.zT (fun b h=>.inl h) (fun g h=>.inr h),eK.TG hf,ho,fun g hn=>by cases hn⟩
 ·rcases hb with hb | hb
  ·exact s2 b hb
  exact (hg b rfl (tY hb)).1
 rcases hb with hb | hb
 ·exact s3 b hb
 exact .inr (hg b rfl (tY hb)).2.1
end Go.AM
namespace Go.Proofs.YtpbkimanfahbgaaGreatDoor
namespace M
open Go.AM Go.RowKit Go.Lib
open Reg (aB ax en Wt Piece l9 hZ cQ told a_ cx aQ through aw zk cv ru jm bX coreS)
theorem vI {l:List aB} (h:Ib l):aD C 32 [.pv (aV l)] (.p (aG (a_ l))) []:=aD.iv (xs:=[aV l]) (jL h)
theorem Dx {b:en} (h:cx b=true):aD C 32 [.pv (aV [aQ b])] (.p (aG (a_ [aQ b]))) []:=aD.iv (xs:=[aV [aQ b]]) (jb [aQ b] 1010000 (by omega) (by omega) (fun q hq=>by rw[List.mem_singleton] at hq;subst hq;exact Reg.eZ h) (fun q hq=>by rw[List.mem_singleton] at hq;subst hq;exact Reg.jM h) (by simp))
theorem open_1 (s:ByteArray) (hs:jv s):aD C 87 [.pv (str s)] (.p (bool (!pJ s))) []:=by
 refine aT hC Tryz.func87 rfl rfl 6 rfl (by decide) (by kernel_rfl) fun _ _ _ _ _=>?_
 (refine yS<|yA Z<|yU<|yP Z<|yn Z<|aK zI ?_;refine⟨_,_,(s_ s hs),?_⟩)
 (refine b9 Z Z<|ae<|yP Z<|yA Z<|yR zi ?_;refine And.intro ?_ trivial)
 rfl
theorem Dy (l:List ByteArray) (hN:l.length<=140737488355328) (ho:∀s∈l,jv s):aD C 132 [.pv (strs l),.pv (pj 87)] (.p (i64 (hY (fun s=>!pJ s) l 0))) []:=by
 refine aT hC Tryz.func132 rfl rfl 19 rfl (by decide) (by kernel_rfl) fun _ _ _ _ _=>?_
 have lm:=aN l fun s=>[str s]
 refine yS<|yA Z<|yT<|au<|yS<|yP Z<|yP Z<|yP Z<|yT<|aZ ?_
 refine aI (fun i:Nat=>i<=l.length/\∀z∈l.take i,(!pJ z)=false) (fun i=>[(0,.p (strs l)),(1,.p (pj 87)),(7,.p (i64 (l.map fun s=>[str s]).length)),(8,.p (i64 i))]) (fun _=>[]) (fun i=>l.length - i) 0 _ (aW.refl _ _) ⟨Nat.zero_le _,by simp⟩ ⟨Z,Z,Z,Z,Y⟩ trivial fun i hi t h=>?_
 (refine yS<|yP Z<|yT<|au<|az Z ?_;refine aa (fun h1=>?_) (fun h1=>?_) <;> try simp only[zB] at h1)
 ·rw[lm] at h1
  obtain⟨r,hr⟩:=bh (l:=l) (i:=i) (by omega)
  (refine aJ<|aj<|au<|aZ<|yS<|yP Z<|yA Z<|yU<|yP Z<|yP Z<|yP Z<|yq Z<|aK zI ?_;refine⟨[str r],(idx rfl hr),?_⟩)
  (refine yk<|yP Z<|yn Z<|aK zI ?_;refine⟨_,_,(open_1 r (ho r (List.mem_of_getElem? hr))),?_⟩)
  (refine b9 Z Z<|ae<|yT<|az Z ?_;refine aa (fun h2=>?_) (fun h2=>?_) <;> try simp only[zB] at h2)
  ·have h2:(!pJ r)=true:=by simpa using h2
   (refine yS<|yP Z<|yA Z<|yT<|bP<|bW<|aX<|aX<|bW<|aX<|bQ zi ?_;refine And.intro ?_ trivial)
   rw[iJ (p:=fun s=>!pJ s) hr h2 hi.2,Nat.zero_add]
  have h2:(!pJ r)=false:=by simpa using h2
  (refine aJ<|bp<|aj<|aM<|yq Z<|bg zI ?_;refine sI ?_)
  (refine yk<|yP Z<|yT<|ai ?_;refine⟨(i+1),_,aW.refl _ _,?_⟩)
  exact⟨⟨by omega,oM (p:=fun s=>!pJ s) hr h2 hi.2⟩,by omega,⟨Z,Z,Z,Z,Y⟩,trivial⟩
 rw[lm] at h1
 (refine bT<|aY<|aY<|bU<|aj<|yS<|yA Z<|yR zi ?_;refine And.intro ?_ trivial)
 have h2:=hi.2
 rw[List.take_of_length_le (by omega)] at h2
 rw[fN (p:=fun s=>!pJ s) h2]
 rfl
theorem wS (l:List ByteArray) (hN:l.length<=140737488355328) (ho:∀s∈l,jv s):aD C 86 [.pv (strs l),.pv (pj 87)] (.p (bool (l.any fun s=>!pJ s))) []:=by
 refine aT hC Tryz.func86 rfl rfl 9 rfl (by decide) (by kernel_rfl) fun _ _ _ _ _=>?_
 (refine yS<|yA Z<|yU<|yP Z<|yP Z<|yn Z<|aK zI ?_;refine⟨_,_,(Dy l hN ho),?_⟩)
 (refine b9 Z Z<|ae<|yP Z<|yA Z<|yR zi ?_;refine And.intro ?_ trivial)
 rw[<-j_ _ l 0]
 rfl
def zE (r:bR) (a:Wt) (nets:List ByteArray):PV:=if kZ r a nets=0 then .ip (kY a) else .im (.pointer none)
structure sD (l:List ByteArray):Prop where
 len:l.length<=1000000000
 str:∀s∈l,jv s
theorem Dz (r:bR) (hr:ic r) (a:Wt) (ha:oh a) (nets:List ByteArray) (hn:sD nets):aD C 34 [.pv (.ag (rl r)),.pv (.ag (kG a)),.pv (strs nets)] (.tu [zE r a nets,i64 (kZ r a nets)]) []:=by
 have ln:=aN nets fun s=>[str s]
 have lg:=aN (aw a).placed.groups q_
 have SO:=hn.len
 obtain⟨F,hF⟩:∃F,F=kZ r a nets:=⟨_,rfl⟩
 have hV:zE r a nets=if F=0 then .ip (kY a) else .im (.pointer none):=by rw[hF];rfl
 rw[hV,<-hF]
 rw[kZ] at hF
 refine aT hC Tryz.func34 rfl rfl 35 rfl (by decide) (by kernel_rfl) fun _ _ _ _ _=>?_
 ((refine yS<|yn Z<|aA zI<|aS<|ak<|yn Z<|aA zI<|aS<|ak<|yA Z<|yA Z<|yT<|au<|yS ?_;refine yP Z<|yn Z<|aK zI ?_);refine⟨_,_,(lU r hr),?_⟩)
 (refine b9 Z Z<|ae<|yA Z<|yU<|yP Z<|yP Z<|yT<|az Z ?_;refine aa (fun g1=>?_) (fun g1=>?_) <;> try simp only[zB] at g1)
 ·have g1:cK r≠0:=by simpa using g1
  rw[if_pos g1] at hF
  (refine yS<|yP Z<|yA Z<|yA Z<|yT<|bP<|aX<|bQ zi ?_;refine And.intro ?_ trivial)
  rw[hF,if_neg g1]
 have g1:cK r=0:=by simpa using g1
 rw[if_neg (by simpa using g1)] at hF
 have aU:=kQ a ha
 by_cases g:cC a=0
 ·rw[pz,if_pos g,g] at aU
  rw[if_neg (by simpa using g)] at hF
  have gd:=sC g
  (refine aJ<|aj<|yS<|yP Z<|yn Z<|aK zI ?_;refine⟨_,_,aU,?_⟩)
  ((refine b9 Z Z<|bq<|yq Z<|aA zI<|bd<|bq<|yP Z<|yP Z<|yA Z<|yA Z<|yT<|au<|yS<|yP Z ?_;refine yP Z<|yT<|az Z<|cM<|aJ<|aj<|au<|yS<|yP Z<|yP Z<|yP Z<|yP Z<|yP Z<|yP Z ?_;refine yP Z<|yP Z<|yT<|az Z ?_);refine aa (fun g2=>?_) (fun g2=>?_) <;> try simp only[zB] at g2)
  ·rw[if_pos (by omega)] at hF
   (refine yS<|yA Z<|yA Z<|yT<|bP<|aX<|bQ zi ?_;refine And.intro ?_ trivial)
   rw[hF];rfl
  rw[if_neg (by omega)] at hF
  (refine aJ<|aj<|au<|yS<|yP Z<|yn Z<|aK zI ?_;refine⟨_,_,(wS nets (by omega) hn.str),?_⟩)
  (refine b9 Z Z<|ae<|yT<|az Z ?_;refine aa (fun g3=>?_) (fun g3=>?_) <;> try simp only[zB] at g3)
  ·rw[if_pos g3] at hF
   (refine yS<|yA Z<|yA Z<|yT<|bP<|aX<|bQ zi ?_;refine And.intro ?_ trivial)
   rw[hF];rfl
  rw[if_neg (by simpa using g3)] at hF
  (refine aJ<|aj<|yS<|yP Z<|yA Z<|yA Z<|yR zi ?_;refine And.intro ?_ trivial)
  rw[hF];rfl
 rw[pz,if_neg g] at aU
 rw[if_pos g] at hF
 (refine aJ<|aj<|yS<|yP Z<|yn Z<|aK zI ?_;refine⟨_,_,aU,?_⟩)
 ((refine b9 Z Z<|bq<|yq Z<|aA zI<|bd<|bq<|yP Z<|yP Z<|yA Z<|yA Z<|yT<|au<|yS<|yP Z ?_;refine yP Z<|yT<|az Z ?_);refine aa (fun h=>?_) (fun h=>?_) <;> try simp only[zB] at h)
 ·(refine yS<|yP Z<|yA Z<|yA Z<|yT<|bP<|aX<|bQ zi ?_;refine And.intro ?_ trivial)
  rw[hF,if_neg g]
 exact absurd (by simpa using h) g
theorem len_nil {s:List ax}:decide (((s.map hb).length:Int)=0)=decide (s=[]):=by
 cases s with
 | nil=>rfl
 | cons b s=>simp;omega
theorem YN (p:Piece) (hs:hZ p.set) (ks:cQ 1000000 p.set) (n:Int) (h0:0<=n) (h1:n<=100000):aD C 89 [.pv (i64 n),.pv (.ip (gw p))] (.p (bool (decide (zk p.set n=[])))) []:=by
 refine aT hC Tryz.func89 rfl rfl 10 rfl (by decide) (by kernel_rfl) fun _ _ _ _ _=>?_
 (refine yS<|yA Z<|yU<|yP Z<|yP Z<|yP Z<|yn Z<|aK zI ?_;refine⟨_,_,(XL p.set hs ks n h0 h1),?_⟩)
 (refine b9 Z Z<|ae<|yP Z<|yP Z<|yA Z<|yR zi ?_;refine And.intro ?_ trivial)
 rw[len_nil];rfl
theorem YU (p:Piece) (o:List ax) (hs:hZ p.set) (ks:cQ 1000000 p.set) (ho:hZ o) (ko:cQ 1000000 o) (n:Int) (h0:0<=n) (h1:n<=100000):aD C 93 [.pv (i64 n),.pv (.ip (gw p)),.pv (.ip [aG o])] (.p (bool (decide (cv p.set (coreS o n n n n)=[])))) []:=by
 have co:=Reg.u4 ho h0 h0 h0 h0
 have ck:=zl co.1 ho ko fun x y hx=>(co.2.1 x y).1 hx x y (by omega) (by omega) (by omega) (by omega)
 refine aT hC Tryz.func93 rfl rfl 11 rfl (by decide) (by kernel_rfl) fun _ _ _ _ _=>?_
 ((refine yS<|yA Z<|yT<|au<|cH [] false Zl rfl (by kernel_rfl)<|ay Z<|ay Z<|ay Z<|ay Z<|cA Z Z<|cA Z Z<|cG Z<|yD Z<|yD Z ?_;refine yD Z<|yD Z<|dq Z<|aK zI ?_);refine⟨_,_,(Dr o ho ko n h0 h1),?_⟩)
 (refine bB<|ae<|dq Z<|aK zI ?_;refine⟨_,_,(YI p.set (coreS o n n n n) hs co.1 (ks.up (by omega)) (ck.up (by omega))),?_⟩)
 ((refine bB<|ae<|yD Z<|cn<|aq Z<|aq Z<|aq Z<|aq Z<|aq Z<|aq Z<|dW Z Z<|fo Z<|aj<|bP ?_;refine bQ zi ?_);refine And.intro ?_ trivial)
 rfl
theorem YB (own c:List ax) (ho:hZ own) (ko:cQ 1010000 own) (hc:hZ c) (kc:cQ 2000000 c) (n:Int) (h0:0<=n) (h1:n<=100000):aD C 91 [.pv (i64 n),.pv (.ip [aG own]),.pv (.ip [aG c])] (.p (aG (WM own c n))) []:=by
 obtain⟨s1,_,s3⟩:=Reg.ff ho h0 h0 h0 h0
 have s3:=s3 1010000 100000 ko h1 h1 h1 h1
 obtain⟨l1,_,_⟩:=Reg.dZ s1 ho
 have l3:=qN s1 ho s3
 refine aT hC Tryz.func91 rfl rfl 12 rfl (by decide) (by kernel_rfl) fun _ _ _ _ _=>?_
 ((refine yS<|yB Z<|yT<|au<|cH [] false RE rfl (by kernel_rfl)<|ay Z<|ay Z<|cA Z Z<|ay Z<|cA Z Z<|ay Z<|cA Z Z<|cG Z<|yD Z ?_;refine yD Z<|dq Z<|aK zI ?_);refine⟨_,_,(vf own ho (ko.up (by omega)) n h0 h1),?_⟩)
 (refine bB<|ae<|yD Z<|dq Z<|aK zI ?_;refine⟨_,_,(fQ (bX own n n n n) own s1 ho (s3.up (by omega)) (ko.up (by omega))),?_⟩)
 (refine bB<|ae<|yD Z<|dq Z<|aK zI ?_;refine⟨_,_,(fQ (cv (bX own n n n n) own) c l1 hc (l3.up (by omega)) kc),?_⟩)
 ((refine bB<|ae<|yD Z<|cn<|aq Z<|aq Z<|aq Z<|aq Z<|aq Z<|aq Z<|aq Z<|dW Z Z<|fo Z<|aj ?_;refine bP<|bQ zi ?_);refine And.intro ?_ trivial)
 rfl
def XB (own c:List ax):PV:=.fn 91 [.ip [aG own],.ip [aG c]]
theorem YV (own c:List ax) (ho:hZ own) (ko:cQ 1010000 own) (hc:hZ c) (kc:cQ 2000000 c) (n:Int) (h0:0<=n) (h1:n<=100000):aD C 92 [.pv (i64 n),.pv (.ip [XB own c])] (.p (bool (decide (n < 0) || decide (WM own c n=[])))) []:=by
 refine aT hC Tryz.func92 rfl rfl 13 rfl (by decide) (by kernel_rfl) fun _ _ _ _ _=>?_
 (refine yS<|yA Z<|yU<|yP Z<|yP Z<|yP Z<|yg Z ?_;refine aa (fun g=>?_) (fun g=>?_) <;> try simp only[zB] at g)
 ·omega
 (refine bS<|bA Z Z<|aA zI<|yk<|y1 Z<|y2 Z<|jB Z Z Z<|aK zI ?_;refine⟨_,_,(YB own c ho ko hc kc n h0 h1),?_⟩)
 (refine b9 Z Z<|ae<|y1 Z<|y1 Z<|yP Z<|yA Z<|yR zi ?_;refine And.intro ?_ trivial)
 rw[len_nil,decide_eq_false g,Bool.false_or];rfl
theorem Ya (p:Piece) (hs:hZ p.set) (ks:cQ 1000000 p.set) (zc:Int) (h0:0<=zc) (h1:zc<=100000):aD C 88 [.pv (i64 zc),.pv (.fn 89 [.ip (gw p)])] (.p (i64 (Wo (fun n=>decide (zk p.set n=[])) zc))) []:=by
 refine aT hC Tryz.func88 rfl rfl 26 rfl (by decide) (by kernel_rfl) fun _ _ _ _ _=>?_
 obtain⟨H,hH⟩:∃H:Int->Bool,H=fun n=>decide (zk p.set n=[]):=⟨_,rfl⟩
 rw[<-hH]
 have hc:∀n,0<=n->n<=100000->aD C 89 [.pv (i64 n),.pv (.ip (gw p))] (.p (bool (H n))) []:=fun n a b=>by rw[hH];exact YN p hs ks n a b
 refine yS<|yA Z<|yU<|yP Z<|yA Z<|yA Z<|yT<|au<|aZ ?_
 refine aI (fun x:Nat×Int×Int=>Ww H x.1 x.2.1 x.2.2=Wo H zc/\(x.2.2 - x.2.1).toNat<=x.1/\-1<=x.2.1/\x.2.1<=x.2.2/\x.2.2<=zc) (fun x=>[(1,.p (.fn 89 [.ip (gw p)])),(5,.p (i64 x.2.1)),(6,.p (i64 x.2.2))]) (fun _=>[]) (fun x=>x.1) ((zc+1).toNat,-1,zc) _ (aW.refl _ _) ⟨rfl,by simp only;omega,by simp only;omega,by simp only;omega,by simp only;omega⟩ ⟨Z,Z,Z,Y⟩ trivial fun ⟨n,low,high⟩ hx t h=>?_
 obtain⟨x1,x2,x3,x4,x5⟩:=hx
 simp only at x1 x2 x3 x4 x5
 (refine au<|yS<|yP Z<|yP Z<|yP Z<|yT<|az Z ?_;refine aa (fun g=>?_) (fun g=>?_) <;> try simp only[zB] at g)
 ·have hf:=W4 (d:=high - low) (by omega)
  rw[WZ H g x2] at x1
  (refine aJ<|aj<|aZ<|yS<|yP Z<|yP Z<|yP Z<|yq Z<|bg zI ?_;refine And.intro ⟨by dsimp only;omega,by dsimp only;omega⟩ ?_)
  (refine yk<|yq Z<|bg zI ?_;refine And.intro ⟨by dsimp only;omega,by dsimp only;omega⟩ ?_)
  (refine yk<|yq Z<|bg zI ?_;refine And.intro (by decide) ?_)
  (refine zA zi ?_;refine And.intro ⟨by dsimp only;omega,by dsimp only;omega⟩ ?_)
  (refine yk<|yq Z<|bg zI ?_;refine And.intro ⟨by dsimp only;omega,by dsimp only;omega⟩ ?_)
  (refine yk<|yA Z<|yU<|yP Z<|yP Z<|yn Z<|aK zI ?_;refine⟨_,_,(hc (low+(high - low+1).tdiv 2) (by omega) (by omega)),?_⟩)
  (refine b9 Z Z<|ae<|yT<|az Z ?_;refine aa (fun k=>?_) (fun k=>?_) <;> try simp only[zB] at k)
  ·rw[if_pos k] at x1
   (refine aM<|yP Z<|yA Z<|cL<|bp<|aj<|ai ?_;refine⟨(n - 1,low+(high - low+1).tdiv 2,high),_,aW.refl _ _,?_⟩)
   exact⟨⟨x1,by simp only;omega,by simp only;omega,by simp only;omega,by simp only;omega⟩,by simp only;omega,⟨Z,Z,Z,Y⟩,trivial⟩
  rw[if_neg (by simpa using k)] at x1
  (refine aM<|yP Z<|yq Z<|bg zI ?_;refine And.intro ⟨by dsimp only;omega,by dsimp only;omega⟩ ?_)
  (refine yk<|yA Z<|cL<|bp<|aj<|ai ?_;refine⟨(n - 1,low,low+(high - low+1).tdiv 2 - 1),_,aW.refl _ _,?_⟩)
  exact⟨⟨x1,by simp only;omega,by simp only;omega,by simp only;omega,by simp only;omega⟩,by simp only;omega,⟨Z,Z,Z,Y⟩,trivial⟩
 rw[W5 H g] at x1
 (refine bT<|aY<|aY<|bU<|aj<|yS<|yP Z<|yA Z<|yR zi ?_;refine And.intro ?_ trivial)
 rw[x1]
theorem Yj (p:Piece) (o:List ax) (hs:hZ p.set) (ks:cQ 1000000 p.set) (ho:hZ o) (ko:cQ 1000000 o) (zc:Int) (h0:0<=zc) (h1:zc<=100000):aD C 88 [.pv (i64 zc),.pv (.fn 93 [.ip (gw p),.ip [aG o]])] (.p (i64 (Wo (fun n=>decide (cv p.set (coreS o n n n n)=[])) zc))) []:=by
 refine aT hC Tryz.func88 rfl rfl 26 rfl (by decide) (by kernel_rfl) fun _ _ _ _ _=>?_
 obtain⟨H,hH⟩:∃H:Int->Bool,H=fun n=>decide (cv p.set (coreS o n n n n)=[]):=⟨_,rfl⟩
 rw[<-hH]
 have hc:∀n,0<=n->n<=100000->aD C 93 [.pv (i64 n),.pv (.ip (gw p)),.pv (.ip [aG o])] (.p (bool (H n))) []:=fun n a b=>by rw[hH];exact YU p o hs ks ho ko n a b
 refine yS<|yA Z<|yU<|yP Z<|yA Z<|yA Z<|yT<|au<|aZ ?_
 refine aI (fun x:Nat×Int×Int=>Ww H x.1 x.2.1 x.2.2=Wo H zc/\(x.2.2 - x.2.1).toNat<=x.1/\-1<=x.2.1/\x.2.1<=x.2.2/\x.2.2<=zc) (fun x=>[(1,.p (.fn 93 [.ip (gw p),.ip [aG o]])),(5,.p (i64 x.2.1)),(6,.p (i64 x.2.2))]) (fun _=>[]) (fun x=>x.1) ((zc+1).toNat,-1,zc) _ (aW.refl _ _) ⟨rfl,by simp only;omega,by simp only;omega,by simp only;omega,by simp only;omega⟩ ⟨Z,Z,Z,Y⟩ trivial fun ⟨n,low,high⟩ hx t h=>?_
 obtain⟨x1,x2,x3,x4,x5⟩:=hx
 simp only at x1 x2 x3 x4 x5
 (refine au<|yS<|yP Z<|yP Z<|yP Z<|yT<|az Z ?_;refine aa (fun g=>?_) (fun g=>?_) <;> try simp only[zB] at g)
 ·have hf:=W4 (d:=high - low) (by omega)
  rw[WZ H g x2] at x1
  (refine aJ<|aj<|aZ<|yS<|yP Z<|yP Z<|yP Z<|yq Z<|bg zI ?_;refine And.intro ⟨by dsimp only;omega,by dsimp only;omega⟩ ?_)
  (refine yk<|yq Z<|bg zI ?_;refine And.intro ⟨by dsimp only;omega,by dsimp only;omega⟩ ?_)
  (refine yk<|yq Z<|bg zI ?_;refine And.intro (by decide) ?_)
  (refine zA zi ?_;refine And.intro ⟨by dsimp only;omega,by dsimp only;omega⟩ ?_)
  (refine yk<|yq Z<|bg zI ?_;refine And.intro ⟨by dsimp only;omega,by dsimp only;omega⟩ ?_)
  (refine yk<|yA Z<|yU<|yP Z<|yP Z<|yn Z<|aK zI ?_;refine⟨_,_,(hc (low+(high - low+1).tdiv 2) (by omega) (by omega)),?_⟩)
  (refine b9 Z Z<|ae<|yT<|az Z ?_;refine aa (fun k=>?_) (fun k=>?_) <;> try simp only[zB] at k)
  ·rw[if_pos k] at x1
   (refine aM<|yP Z<|yA Z<|cL<|bp<|aj<|ai ?_;refine⟨(n - 1,low+(high - low+1).tdiv 2,high),_,aW.refl _ _,?_⟩)
   exact⟨⟨x1,by simp only;omega,by simp only;omega,by simp only;omega,by simp only;omega⟩,by simp only;omega,⟨Z,Z,Z,Y⟩,trivial⟩
  rw[if_neg (by simpa using k)] at x1
  (refine aM<|yP Z<|yq Z<|bg zI ?_;refine And.intro ⟨by dsimp only;omega,by dsimp only;omega⟩ ?_)
  (refine yk<|yA Z<|cL<|bp<|aj<|ai ?_;refine⟨(n - 1,low,low+(high - low+1).tdiv 2 - 1),_,aW.refl _ _,?_⟩)
  exact⟨⟨x1,by simp only;omega,by simp only;omega,by simp only;omega,by simp only;omega⟩,by simp only;omega,⟨Z,Z,Z,Y⟩,trivial⟩
 rw[W5 H g] at x1
 (refine bT<|aY<|aY<|bU<|aj<|yS<|yP Z<|yA Z<|yR zi ?_;refine And.intro ?_ trivial)
 rw[x1]
theorem Yk (own c:List ax) (ho:hZ own) (ko:cQ 1010000 own) (hc:hZ c) (kc:cQ 2000000 c) (zc:Int) (h0:0<=zc) (h1:zc<=100000):aD C 88 [.pv (i64 zc),.pv (.fn 92 [.ip [XB own c]])] (.p (i64 (Wo (fun n=>decide (n < 0) || decide (WM own c n=[])) zc))) []:=by
 refine aT hC Tryz.func88 rfl rfl 26 rfl (by decide) (by kernel_rfl) fun _ _ _ _ _=>?_
 obtain⟨H,hH⟩:∃H:Int->Bool,H=fun n=>decide (n < 0) || decide (WM own c n=[]):=⟨_,rfl⟩
 rw[<-hH]
 have iE:∀n,0<=n->n<=100000->aD C 92 [.pv (i64 n),.pv (.ip [XB own c])] (.p (bool (H n))) []:=fun n a b=>by rw[hH];exact YV own c ho ko hc kc n a b
 refine yS<|yA Z<|yU<|yP Z<|yA Z<|yA Z<|yT<|au<|aZ ?_
 refine aI (fun x:Nat×Int×Int=>Ww H x.1 x.2.1 x.2.2=Wo H zc/\(x.2.2 - x.2.1).toNat<=x.1/\-1<=x.2.1/\x.2.1<=x.2.2/\x.2.2<=zc) (fun x=>[(1,.p (.fn 92 [.ip [XB own c]])),(5,.p (i64 x.2.1)),(6,.p (i64 x.2.2))]) (fun _=>[]) (fun x=>x.1) ((zc+1).toNat,-1,zc) _ (aW.refl _ _) ⟨rfl,by simp only;omega,by simp only;omega,by simp only;omega,by simp only;omega⟩ ⟨Z,Z,Z,Y⟩ trivial fun ⟨n,low,high⟩ hx t h=>?_
 obtain⟨x1,x2,x3,x4,x5⟩:=hx
 simp only at x1 x2 x3 x4 x5
 (refine au<|yS<|yP Z<|yP Z<|yP Z<|yT<|az Z ?_;refine aa (fun g=>?_) (fun g=>?_) <;> try simp only[zB] at g)
 ·have hf:=W4 (d:=high - low) (by omega)
  rw[WZ H g x2] at x1
  (refine aJ<|aj<|aZ<|yS<|yP Z<|yP Z<|yP Z<|yq Z<|bg zI ?_;refine And.intro ⟨by dsimp only;omega,by dsimp only;omega⟩ ?_)
  (refine yk<|yq Z<|bg zI ?_;refine And.intro ⟨by dsimp only;omega,by dsimp only;omega⟩ ?_)
  (refine yk<|yq Z<|bg zI ?_;refine And.intro (by decide) ?_)
  (refine zA zi ?_;refine And.intro ⟨by dsimp only;omega,by dsimp only;omega⟩ ?_)
  (refine yk<|yq Z<|bg zI ?_;refine And.intro ⟨by dsimp only;omega,by dsimp only;omega⟩ ?_)
  (refine yk<|yA Z<|yU<|yP Z<|yP Z<|yn Z<|aK zI ?_;refine⟨_,_,(iE (low+(high - low+1).tdiv 2) (by omega) (by omega)),?_⟩)
  (refine b9 Z Z<|ae<|yT<|az Z ?_;refine aa (fun k=>?_) (fun k=>?_) <;> try simp only[zB] at k)
  ·rw[if_pos k] at x1
   (refine aM<|yP Z<|yA Z<|cL<|bp<|aj<|ai ?_;refine⟨(n - 1,low+(high - low+1).tdiv 2,high),_,aW.refl _ _,?_⟩)
   exact⟨⟨x1,by simp only;omega,by simp only;omega,by simp only;omega,by simp only;omega⟩,by simp only;omega,⟨Z,Z,Z,Y⟩,trivial⟩
  rw[if_neg (by simpa using k)] at x1
  (refine aM<|yP Z<|yq Z<|bg zI ?_;refine And.intro ⟨by dsimp only;omega,by dsimp only;omega⟩ ?_)
  (refine yk<|yA Z<|cL<|bp<|aj<|ai ?_;refine⟨(n - 1,low,low+(high - low+1).tdiv 2 - 1),_,aW.refl _ _,?_⟩)
  exact⟨⟨x1,by simp only;omega,by simp only;omega,by simp only;omega,by simp only;omega⟩,by simp only;omega,⟨Z,Z,Z,Y⟩,trivial⟩
 rw[W5 H g] at x1
 (refine bT<|aY<|aY<|bU<|aj<|yS<|yP Z<|yA Z<|yR zi ?_;refine And.intro ?_ trivial)
 rw[x1]
end M
end Go.Proofs.YtpbkimanfahbgaaGreatDoor
namespace Go.AM
open Go.RowKit Go.ChangeShapes
section
variable {H:Type} {enc:TypeId×Value->H} {P:Program} {w:World} {S:Nat->Prop}
theorem IH {t:TypeId} (ht:P.underlying t=some .bool):CW enc P w S t 1 fun xs d=>∃b:Bool,xs=[.im (.bool b)]:=fun n cs x h=>by
 obtain⟨b,rfl,rfl⟩:=DataW.trod_bool ht h
 exact⟨[.im (.bool b)],rfl,rfl,one_cell ⟨.im _,rfl⟩,b,rfl⟩
def kT (S:Nat->Prop) (w:World) (o:Nat) (xs:List PV) (cs:List Value):Prop:=∀(i:Nat) c v,xs[i]?=some c->cs[o+i]?=some v->bu S w c v/\v.oneCell'=true
theorem kT.join {o:Nat} {xs ys:List PV} {cs:List Value} (h:kT S w o xs cs) (k:kT S w (o+xs.length) ys cs):kT S w o (xs++ys) cs:=fun i c v h1 h2=>by
 by_cases e:i < xs.length
 ·rw[List.getElem?_append_left e] at h1
  exact h i c v h1 h2
 rw[List.getElem?_append_right (by omega)] at h1
 refine k (i - xs.length) c v h1 ?_
 rw[<-h2]
 congr 1
 omega
theorem vJ {t:TypeId} {fs:Array Field} (ht:P.underlying t=some (.struct fs)) (ks:Nat->Nat) (hk:∀(i:Nat) (f:Field),fs[i]?=some f->P.cellsOf f.type=ks i) (Qs:Nat->List PV->DataW H->Prop) (hf:∀(i:Nat) (f:Field),fs[i]?=some f->CW enc P w S f.type (ks i) (Qs i)) {n:Nat} {cs:List Value} {x:DataW H×List MemPlace} (h:DataW.trod enc P w 0 (fun _=>true) true n t cs=some x):
  cs.length=P.cellsOf t/\∃ds:List (DataW H),x.1=.agg ds/\ds.length=fs.size/\∀(i:Nat) (f:Field),fs[i]?=some f->∃xs d,xs.length=ks i/\kT S w f.offset xs cs/\ds[i]?=some d/\Qs i xs d:=by
 obtain⟨ys,m,_,rfl,hl,hlen,hy⟩:=DataW.trod_struct ht h
 refine⟨hl,ys.map (·.1),rfl,by rw[List.length_map,hlen],fun i f I3=>?_⟩
 have hi:i < fs.size:=(Array.getElem?_eq_some_iff.1 I3).1
 have K9:=hy i f I3
 have Ow:ys[i]?=some ys[i]:=List.getElem?_eq_getElem (by omega)
 rw[Ow,hk i f I3] at K9
 obtain⟨xs,l1,l2,l3,l4⟩:=hf i f I3 _ _ _ K9
 refine⟨xs,ys[i].1,l1,fun j c v h1 h2=>l3 j c v h1 ?_,by rw[List.getElem?_map,Ow];rfl,l4⟩
 have hj:=(List.getElem?_eq_some_iff.1 h1).1
 rw[List.getElem?_take_of_lt (by omega),List.getElem?_drop]
 exact h2
end
end Go.AM
namespace Go.Proofs.YtpbkimanfahbgaaGreatDoor
namespace M
open Go.AM Go.RowKit Go.Lib
open Reg (aB bC ax en jn Wt)
variable {H:Type} {enc:TypeId×Value->H} {w:World} {S:Nat->Prop}
theorem Sj:Sp enc w S 4 1 (fun b=>[bool b]) fun _ _=>True:=fun n cs x h=>by
 obtain⟨xs,l1,l2,l3,b,e⟩:=IH (S:=S) Tryz.underlying4 n cs x h
 exact⟨xs,l1,l2,l3,b,e,trivial⟩
def MT (P:Program) (fs:Array Field) (ks:Nat->Nat):Bool:=(List.range fs.size).all fun i=>match fs[i]? with
 | some f=>Nat.beq (P.cellsOf f.type) (ks i)
 | none=>true
theorem BJ {P:Program} {fs:Array Field} {ks:Nat->Nat} (h:MT P fs ks=true):∀(i:Nat) (f:Field),fs[i]?=some f->P.cellsOf f.type=ks i:=fun i f hf=>by
 have hi:=(Array.getElem?_eq_some_iff.1 hf).1
 have:=List.all_eq_true.1 h i (List.mem_range.2 hi)
 rw[hf] at this
 exact Nat.eq_of_beq_eq_true this
theorem Kk:Sp enc w S 54 6 bc fun _ _=>True:=fun n cs x h=>by
 obtain⟨hl,ds,e,ld,q⟩:=vJ (S:=S) (ks:=fun i=>match i with | 0=>2 | _=>1) (hk:=BJ (by kernel_rfl)) (Qs:=fun i xs d=>match i with
   | 0=>∃p:Int×Int,xs=[i64 p.1,i64 p.2]/\True
   | 4=>∃b,xs=[bool b]/\True
   | _=>∃n,xs=[i64 n]/\True) Tryz.underlying54 (fun i f hf=>by
  match i,hf with
  | 0,hf=>cases hf;exact A2
  | 1,hf=>cases hf;exact pL
  | 2,hf=>cases hf;exact pL
  | 3,hf=>cases hf;exact pL
  | 4,hf=>cases hf;exact Sj
  | n+5,hf=>cases hf) h
 have hl:cs.length=6:=hl.trans (by kernel_rfl)
 obtain⟨x0,_,_,r0,_,p,e0,_⟩:=q 0 _ rfl
 obtain⟨x1,_,_,r1,_,n1,e1,_⟩:=q 1 _ rfl
 obtain⟨x2,_,_,r2,_,n2,e2,_⟩:=q 2 _ rfl
 obtain⟨x3,_,_,r3,_,n3,e3,_⟩:=q 3 _ rfl
 obtain⟨x4,_,_,r4,_,b4,e4,_⟩:=q 4 _ rfl
 cases e0;cases e1;cases e2;cases e3;cases e4
 have rel:kT S w 0 ([i64 p.1,i64 p.2]++([i64 n1]++([i64 n2]++([i64 n3]++[bool b4])))) cs:=kT.join r0 (kT.join r1 (kT.join r2 (kT.join r3 r4)))
 exact⟨_,rfl,hl,fun i c v h1 h2=>rel i c v h1 (by rw[Nat.zero_add];exact h2),⟨p.1,p.2,n1,n2,n3,b4⟩,Z,Y⟩
def vK (l:jn) (n:Nat):Prop:=l.part.size<=n/\l.pin.size<=n
theorem ox (l:jn) (m n:Nat) (h:m<=n):vK l m->vK l n:=fun ⟨h1,h2⟩=>⟨Nat.le_trans h1 h,Nat.le_trans h2 h⟩
theorem Kl:Sp enc w S 175 5 lc vK:=fun n cs x h=>by
 obtain⟨hl,ds,e,ld,q⟩:=vJ (S:=S) (ks:=fun i=>match i with | 3=>2 | _=>1) (hk:=BJ (by kernel_rfl)) (Qs:=fun i xs d=>match i with
   | 0=>∃s,xs=[str s]/\s.size<=Rows.uptoBulk d
   | 1=>∃s,xs=[str s]/\s.size<=Rows.uptoBulk d
   | 2=>∃n,xs=[i64 n]/\True
   | _=>∃p:Int×Int,xs=[i64 p.1,i64 p.2]/\True) Tryz.underlying175 (fun i f hf=>by
  match i,hf with
  | 0,hf=>cases hf;exact JZ
  | 1,hf=>cases hf;exact JZ
  | 2,hf=>cases hf;exact pL
  | 3,hf=>cases hf;exact A2
  | n+4,hf=>cases hf) h
 have hl:cs.length=5:=hl.trans (by kernel_rfl)
 obtain⟨x0,V9,_,r0,i0,n0,e0,b0⟩:=q 0 _ rfl
 obtain⟨x1,O_,_,r1,i1,n1,e1,b1⟩:=q 1 _ rfl
 obtain⟨x2,_,_,r2,_,n2,e2,_⟩:=q 2 _ rfl
 obtain⟨x3,_,_,r3,_,p,e3,_⟩:=q 3 _ rfl
 cases e0;cases e1;cases e2;cases e3
 have rel:kT S w 0 ([str n0]++([str n1]++([i64 n2]++[i64 p.1,i64 p.2]))) cs:=kT.join r0 (kT.join r1 (kT.join r2 r3))
 have j0:=kW i0
 have j1:=kW i1
 rw[<-e] at j0 j1
 exact⟨_,rfl,hl,fun i c v h1 h2=>rel i c v h1 (by rw[Nat.zero_add];exact h2),⟨n0,n1,n2,p.1,p.2⟩,rfl,Nat.le_trans b0 j0,Nat.le_trans b1 j1⟩
def Ez (a:Wt) (n:Nat):Prop:=a.coppers.length<=n/\(∀r∈a.coppers,r.length<=n)/\a.outline.length<=n/\a.bores.length<=n/\a.lands.length<=n/\∀l∈a.lands,vK l n
theorem MU (hS:∀b,b < w.heap.size->S b):Sp enc w S 31 4 kG Ez:=fun n cs x h=>by
 obtain⟨xs,l1,l2,l3,ds,e,ld,q⟩:=iK (S:=S) (Qs:=fun i xs d=>match i with
   | 0=>∃r:List (List aB),xs=[.sl (r.map fun q=>[aV q])]/\(r.length<=Rows.uptoBulk d/\∀c∈r,(c.length<=Rows.uptoBulk d/\∀z∈c,True))
   | 1=>∃r,xs=[aV r]/\(r.length<=Rows.uptoBulk d/\∀z∈r,True)
   | 2=>∃r:List en,xs=[.sl (r.map bc)]/\(r.length<=Rows.uptoBulk d/\∀c∈r,True)
   | _=>∃r:List jn,xs=[.sl (r.map lc)]/\(r.length<=Rows.uptoBulk d/\∀c∈r,vK c (Rows.uptoBulk d))) Tryz.underlying31 (Go.Deep.hone_of (by kernel_rfl)) (by kernel_rfl) (fun i f hf=>by
  match i,hf with
  | 0,hf=>cases hf;exact kg (k:=1) Tryz.underlying26 (by kernel_rfl) (by decide) hS (fun r m n h ⟨h1,h2⟩=>⟨Nat.le_trans h1 h,h2⟩) (uZ hS)
  | 1,hf=>cases hf;exact uZ hS
  | 2,hf=>cases hf;exact kg (k:=6) Tryz.underlying28 (by kernel_rfl) (by decide) hS (fun _ _ _ _ h=>h) Kk
  | 3,hf=>cases hf;exact kg (k:=5) Tryz.underlying29 (by kernel_rfl) (by decide) hS ox Kl
  | n+4,hf=>cases hf) _ _ _ h
 have l1:xs.length=4:=l1
 have ld:ds.length=4:=ld
 obtain⟨a,b,c,d,rfl⟩:∃a b c d,xs=[a,b,c,d]:=by
  match xs,l1 with
  | [a,b,c,d],_=>exact⟨a,b,c,d,rfl⟩
 obtain⟨a',b',c',d',rfl⟩:∃a b c d,ds=[a,b,c,d]:=by
  match ds,ld with
  | [a,b,c,d],_=>exact⟨a,b,c,d,rfl⟩
 obtain⟨n0,e0,p0,Vo⟩:=q 0 _ _ rfl rfl
 obtain⟨n1,e1,p1,_⟩:=q 1 _ _ rfl rfl
 obtain⟨n2,e2,p2,_⟩:=q 2 _ _ rfl rfl
 obtain⟨n3,e3,p3,Vp⟩:=q 3 _ _ rfl rfl
 cases e0;cases e1;cases e2;cases e3
 have i0:=kW (ds:=[a',b',c',d']) (i:=0) rfl
 have i1:=kW (ds:=[a',b',c',d']) (i:=1) rfl
 have i2:=kW (ds:=[a',b',c',d']) (i:=2) rfl
 have i3:=kW (ds:=[a',b',c',d']) (i:=3) rfl
 rw[<-e] at i0 i1 i2 i3
 exact⟨_,rfl,l2,l3,⟨n0,n1,n2,n3⟩,rfl,by exact Nat.le_trans p0 i0,fun r hr=>Nat.le_trans (Vo r hr).1 i0,by exact Nat.le_trans p1 i1,by exact Nat.le_trans p2 i2,by exact Nat.le_trans p3 i3,fun l hl=>ox l _ _ i3 (Vp l hl)⟩
theorem DA (a:Wt) (m n:Nat) (h:m<=n):Ez a m->Ez a n:=fun ⟨h1,h2,h3,h4,h5,h6⟩=>⟨by omega,fun r hr=>Nat.le_trans (h2 r hr) h,by omega,by omega,by omega,fun l hl=>ox l _ _ h (h6 l hl)⟩
theorem MV {a:Wt} (h:Ez a 1048576):oh a:=⟨h.1,h.2.1,h.2.2.1,h.2.2.2.1,h.2.2.2.2.1,fun l hl=>⟨zf (h.2.2.2.2.2 l hl).1,zf (h.2.2.2.2.2 l hl).2⟩⟩
theorem Km {l:List ByteArray} {n:Nat} (hn:n<=1048576) (h:l.length<=n/\∀s∈l,s.size<=n):sD l:=⟨by omega,fun s hs=>zf (Nat.le_trans (h.2 s hs) hn)⟩
end M
namespace M
open Reg (aB ax en Wt Piece l9 hZ cQ told a_ cx aQ through B0 x7 aw zk cv ru jm bX coreS at')
structure Sub (K:Int) (s all:List ax):Prop where
 sok:hZ s
 ink:cQ K s
 sub:∀x y,at' s x y=true->at' all x y=true
theorem Sub.and {K:Int} {s all b:List ax} (h:Sub K s all) (hb:hZ b):Sub K (jm s b) all:=by
 obtain⟨l1,l2,_⟩:=Reg.oP h.sok hb
 have e:∀x y,at' (jm s b) x y=true->at' s x y=true:=fun x y hx=>by
  rw[l2] at hx
  simp only[Bool.and_eq_true] at hx
  exact hx.1
 exact⟨l1,zl l1 h.sok h.ink e,fun x y hx=>h.sub x y (e x y hx)⟩
end M
end Go.Proofs.YtpbkimanfahbgaaGreatDoor
namespace Go.AM
end Go.AM
namespace Go.Proofs.YtpbkimanfahbgaaGreatDoor
namespace M
open Go.AM Go.RowKit Go.Lib
open Reg (aB ax en Wt Piece l9 hZ cQ told a_ cx aQ through B0 x7 aw zk cv ru jm bX coreS P4)
def W2 (b:Break):List PV:=[i64 b.kind,i64 b.a,i64 b.b,i64 b.is,i64 b.need,i64 b.spot.1,i64 b.spot.2]
theorem vV (bs:List en) (ps:List Piece) (o:List Int×List Int):∀(l:List Reg.jn) (s:Reg.mX),(l.foldl (Reg.nt bs ps o) s).groups.length=s.groups.length
 | [],s=>rfl
 | x::l,s=>by
  rw[List.foldl_cons,vV bs ps o l]
  simp only[Reg.nt]
  split
  ·rw[List.length_set]
  rfl
theorem vW (a:Wt):(aw a).placed.groups.length=(Reg.gB a.bores (aw a).pieces.length (Reg.ba (Reg.dR (Reg.jq (aw a).pieces.length a.bores.length (aw a).cI)) ((aw a).pieces.length+a.bores.length))).2.length:=vV _ _ _ _ _
theorem MW {a:Wt} (gd:vG a) {nets:List ByteArray} (hn:nets.length=(aw a).placed.groups.length) {i:Nat} (hi:i < (aw a).pieces.length):∃(k:Nat) (s:ByteArray),(aw a).ofPiece[i]?=some (k:Int)/\(aw a).ofPiece.getD i 0=(k:Int)/\nets[k]?=some s/\er nets (k:Int)=s:=by
 obtain⟨k,g,h1,h2,_⟩:=gd.gr.a i hi
 have hk:=(List.getElem?_eq_some_iff.1 h2).1
 have h1:(aw a).ofPiece[i]?=some (k:Int):=h1
 rw[<-vW,<-hn] at hk
 obtain⟨s,hs⟩:=bh hk
 exact⟨k,s,h1,by rw[List.getD_eq_getElem?_getD,h1];rfl,hs,by rw[er,Int.toNat_natCast,List.getD_eq_getElem?_getD,hs];rfl⟩
theorem Yl (r:bR) (hg:iz r) (a:Wt) (gd:vG a) (nets:List ByteArray) (hn:nets.length=(aw a).placed.groups.length):aD C 35 [.pv (.ag (rl r)),.pv (.ip (kY a)),.pv (strs nets)] (.own 64 ((WD r (aw a) nets 0 (aw a).pieces).map W2)) []:=by
 have lp:=aN (aw a).pieces gw
 have few:=gd.few
 obtain⟨G,hG⟩:∃G,G=WD r (aw a) nets 0 (aw a).pieces:=⟨_,rfl⟩
 rw[<-hG]
 refine aT hC Tryz.func35 rfl rfl 108 rfl (by decide) (by kernel_rfl) fun _ _ _ _ _=>?_
 (refine yS<|yn Z<|aA zI<|aS<|ak<|yB Z<|yU<|yB Z<|yT<|au<|yS<|yP Z<|yP Z<|yP Z ?_;refine yP Z<|yP Z<|yP Z<|yT<|aZ ?_)
 refine aI (fun x:Nat×List Break=>x.2++WD r (aw a) nets x.1 ((aw a).pieces.drop x.1)=G/\x.2.length<=2000*x.1/\x.1<=(aw a).pieces.length) (fun x=>[(1,.p (.ip (kY a))),(2,.p (strs nets)),(3,.p (.ip (rl r))),(7,.ow 7),(18,.p (.sl ((aw a).pieces.map gw))),(19,.p (i64 (aw a).pieces.length)),(20,.p (i64 x.1))]) (fun x=>[(7,.row 64 (x.2.map W2))]) (fun x=>(aw a).pieces.length - x.1) (0,[]) _ ((aW.fa (by exact hC) _ 7 64 _ (by decide) (by exact rfl) (by exact rfl) (by decide)).trans (aW.gC (by exact hC) _ 3 (y:=.ip (rl r)) (fz:=[(3,.iP (rl r))]) (by exact⟨rfl,rfl⟩))) ⟨by rw[hG];rfl,by simp,Nat.zero_le _⟩ ⟨rfl,rfl,rfl,rfl,rfl,congrArg (fun m:Nat=>AV.p (i64 m)) lp,Z,Y⟩ ⟨Z,Y⟩ fun ⟨i,o⟩ hx t h=>?_
 obtain⟨x1,x2,x3⟩:=hx
 simp only at x1 x2 x3
 (refine yS<|yP Z<|yT<|au<|az Z ?_;refine aa (fun g1=>?_) (fun g1=>?_) <;> try simp only[zB] at g1)
 ·obtain⟨p,hp⟩:=bh (l:=(aw a).pieces) (i:=i) (by omega)
  have gp:=gd.pc p (List.mem_of_getElem? hp)
  obtain⟨gi,si,i1,i2,i3,i4⟩:=MW gd hn (i:=i) (by omega)
  rw[drop_at hp,WD] at x1
  refine aJ<|aj<|au<|aZ ?_
  refine fB ?_
  (refine aM<|yP Z<|yq Z<|aK zI ?_;refine⟨(gw p),(idx rfl hp),?_⟩)
  refine yk<|yP Z<|yn Z<|aA zI<|aS<|ak<|yA Z<|yq Z<|aA zI<|bd<|aF<|an<|yT<|ai ?_
  refine I2 9 (y:=.ip (gw p)) (fz:=[(9,.iP (gw p))]) (by exact hC) (by exact⟨rfl,rfl⟩) ?_
  (refine yS<|yP Z<|yq Z<|bg zI ?_;refine sI ?_)
  refine yk<|yA Z<|yT<|aZ ?_
  refine aI (fun y:Nat×List Break=>y.2++(WI r (aw a) nets i p y.1 ((aw a).pieces.drop y.1)++WD r (aw a) nets (i+1) ((aw a).pieces.drop (i+1)))=G/\y.2.length<=2000*i+y.1/\i+1<=y.1/\y.1<=(aw a).pieces.length) (fun y=>[(1,.p (.ip (kY a))),(2,.p (strs nets)),(3,.p (.ip (rl r))),(7,.ow 7),(8,.p (i64 i)),(9,.p (.ip (gw p))),(10,.p (i64 y.1)),(18,.p (.sl ((aw a).pieces.map gw))),(19,.p (i64 (aw a).pieces.length)),(20,.p (i64 i))]) (fun y=>[(7,.row 64 (y.2.map W2))]) (fun y=>(aw a).pieces.length - y.1) (i+1,o) _ (aW.refl _ _) ⟨x1,by simp only;omega,by simp only;omega,by simp only;omega⟩ ⟨Z,Z,Z,Z,Z,Z,Z,Z,Z,Z,Y⟩ ⟨Z,Y⟩ fun ⟨k,o'⟩ hy t h=>?_
  obtain⟨y1,y2,y3,y4⟩:=hy
  simp only at y1 y2 y3 y4
  (refine au<|au<|cH [] false HG rfl (by kernel_rfl)<|cG Z<|yD Z<|yD Z<|yD Z<|yD Z<|yD Z<|yD Z<|yD Z<|yD Z<|dg Z ?_;refine aa (fun g2=>?_) (fun g2=>?_) <;> try simp only[zB] at g2)
  ·rw[lp] at g2
   obtain⟨q,hq⟩:=bh (l:=(aw a).pieces) (i:=k) (by omega)
   have gq:=gd.pc q (List.mem_of_getElem? hq)
   obtain⟨gk,sk,k1,k2,k3,k4⟩:=MW gd hn (i:=k) (by omega)
   rw[drop_at hq,WI] at y1
   (refine bS<|c_ Z<|aA zI<|bB<|ae<|d1 Z<|d1 Z<|d1 Z<|d1 Z<|d2 Z<|c_ Z<|aK zI ?_;refine⟨(gw q),(idx rfl hq),?_⟩)
   (refine bB<|ae<|d1 Z<|d1 Z<|d1 Z<|d1 Z<|d1 Z<|yD Z<|cn<|fo Z<|aj<|az Z ?_;refine aa (fun g3=>?_) (fun g3=>?_) <;> try simp only[zB] at g3)
   ·have St:q.layer=p.layer:=g3
    rw[if_pos St,WO,i2,k2,i4,k4] at y1
    (refine aJ<|aj<|au<|aZ<|au<|cH [] false JH rfl (by kernel_rfl)<|cG Z<|yD Z<|yD Z<|yD Z<|yD Z<|yD Z<|dq Z<|aK zI ?_;refine⟨[i64 gi],(idx rfl i1),?_⟩)
    (refine bB<|ae<|yD Z<|yD Z<|yD Z<|yD Z<|yD Z<|yD Z<|dq Z<|aK zI ?_;refine⟨[i64 gk],(idx rfl k1),?_⟩)
    ((refine bB<|ae<|yD Z<|yD Z<|yD Z<|cn<|aq Z<|aq Z<|aq Z<|aq Z<|aq Z<|aq Z<|aq Z<|aq Z ?_;refine aq Z<|aq Z<|aq Z<|aq Z<|aq Z<|aq Z<|dW Z Z<|dW Z Z<|fo Z<|aj<|au<|yS<|yP Z<|yP Z ?_;refine yP Z<|yT<|az Z ?_);refine aa (fun g4=>?_) (fun g4=>?_) <;> try simp only[zB] at g4)
    ·rw[if_pos g4,List.nil_append] at y1
     (refine bT<|aY<|bU<|aj<|aM<|yP Z<|yq Z<|bg zI ?_;refine sI ?_)
     (refine yk<|yA Z<|yT<|ai ?_;refine⟨(k+1,o'),_,aW.refl _ _,?_⟩)
     exact⟨⟨y1,by simp only;omega,by simp only;omega,by simp only;omega⟩,by simp only;omega,⟨Z,Z,Z,Z,Z,Z,Z,Z,Z,Z,Y⟩,⟨Z,Y⟩⟩
    rw[if_neg g4] at y1
    have YW:=XD (told p.set) (told q.set) (fun r hr=>by
     obtain⟨a1,a2,a3,a4⟩:=Reg.Lj (Reg.dK gp.sok r hr) (Reg.kN gp.sok gp.ink r hr)
     exact⟨⟨by omega,by omega⟩,⟨by omega,by omega⟩,⟨by omega,by omega⟩,⟨by omega,by omega⟩⟩) (fun r hr=>by
     obtain⟨a1,a2,a3,a4⟩:=Reg.Lj (Reg.dK gq.sok r hr) (Reg.kN gq.sok gq.ink r hr)
     exact⟨⟨by omega,by omega⟩,⟨by omega,by omega⟩,⟨by omega,by omega⟩,⟨by omega,by omega⟩⟩) (by have:=gp.few;omega) (by have:=gq.few;omega)
    generalize x7 (told p.set) (told q.set)=Tg at *
    have b8:=Yf r hg si sk p.layer Tg.src.1 Tg.src.2
    generalize WN r si sk p.layer Tg.src.1 Tg.src.2=need at *
    ((refine aJ<|aj<|au<|cH [] false yz rfl (by kernel_rfl)<|ay Z<|ay Z<|ay Z<|ay Z<|ay Z<|ay Z<|ay Z<|ay Z<|ay Z<|ay Z ?_;refine cA Z Z<|cA Z Z<|cG Z<|yD Z<|yD Z<|yD Z<|yD Z<|yD Z<|yD Z<|yD Z<|dq Z<|aK zI ?_);refine⟨(gw q),(idx rfl hq),?_⟩)
    (refine bB<|ae<|yD Z<|yD Z<|dq Z<|aK zI ?_;refine⟨_,_,YW,?_⟩)
    ((refine bB<|ae<|dq Z<|aA zI<|jA Z Z<|ak<|dq Z<|aA zI<|iG Z<|aF<|an<|cn<|fo Z<|aj ?_;refine au<|cH [] false On rfl (by kernel_rfl)<|ay Z<|ay Z<|ay Z<|ay Z<|ay Z<|ay Z<|ay Z<|ay Z<|ay Z<|ay Z<|ay Z<|ay Z ?_;refine ay Z<|cA Z Z<|cG Z<|yD Z<|yD Z<|yD Z<|dq Z<|aK zI ?_);refine⟨[str si],(idx rfl i3),?_⟩)
    (refine bB<|ae<|yD Z<|yD Z<|yD Z<|dq Z<|aK zI ?_;refine⟨[str sk],(idx rfl k3),?_⟩)
    (refine bB<|ae<|yD Z<|yD Z<|yD Z<|yW Z<|yD Z<|dq Z<|aK zI ?_;refine⟨_,_,b8,?_⟩)
    ((refine bB<|ae<|yD Z<|cn<|aq Z<|aq Z<|aq Z<|aq Z<|aq Z<|aq Z<|aq Z<|aq Z<|aq Z<|aq Z ?_;refine aq Z<|aq Z<|aq Z<|aq Z<|dW Z Z<|fo Z<|aj<|yS<|yV Z<|yP Z<|yP Z<|yP Z<|yT<|az Z ?_);refine aa (fun g5=>?_) (fun g5=>?_) <;> try simp only[zB] at g5)
    ·rw[if_pos g5] at y1
     ((refine aM<|yq Z<|aA zI<|bd<|af<|yP Z<|yP Z<|yV Z<|yP Z<|yP Z<|yV Z<|yP Z<|yP Z<|yn Z ?_;refine aA zI<|aS<|af<|yn Z<|bg zI ?_);refine And.intro ⟨fun r hr=>by simp at hr;subst hr;rfl,by simp only[List.length_map,List.length_set,List.length_replicate,List.length_append,List.length_cons,List.length_nil];omega,by simp only[List.length_map,List.length_set,List.length_replicate,List.length_append,List.length_cons,List.length_nil];omega⟩ ?_)
     (refine aS<|aF<|af<|cD Z<|cr Z Z Z Z Z<|cL<|bp<|aj<|aM<|yP Z<|yq Z<|bg zI ?_;refine sI ?_)
     (refine yk<|yA Z<|yT<|ai ?_;refine⟨(k+1,o'++[⟨1,i,k,Tg.dist,need,Tg.src⟩]),_,aW.refl _ _,?_⟩)
     exact⟨⟨by rw[<-y1];simp only[List.append_assoc,List.singleton_append,List.cons_append,List.nil_append],by simp only[List.length_append,List.length_singleton];omega,by simp only;omega,by simp only;omega⟩,by simp only;omega,⟨Z,Z,Z,Z,Z,Z,Z,Z,Z,Z,Y⟩,⟨by rw[List.map_append];rfl,trivial⟩⟩
    rw[if_neg g5,List.nil_append] at y1
    (refine aJ<|bp<|aj<|aM<|yP Z<|yq Z<|bg zI ?_;refine sI ?_)
    (refine yk<|yA Z<|yT<|ai ?_;refine⟨(k+1,o'),_,aW.refl _ _,?_⟩)
    exact⟨⟨y1,by simp only;omega,by simp only;omega,by simp only;omega⟩,by simp only;omega,⟨Z,Z,Z,Z,Z,Z,Z,Z,Z,Z,Y⟩,⟨Z,Y⟩⟩
   have St:¬q.layer=p.layer:=g3
   rw[if_neg St,List.nil_append] at y1
   (refine bT<|aY<|aY<|bU<|bp<|aj<|aM<|yq Z<|bg zI ?_;refine sI ?_)
   (refine yk<|yP Z<|yT<|ai ?_;refine⟨(i+1,o'),_,aW.refl _ _,?_⟩)
   exact⟨⟨y1,by simp only;omega,by simp only;omega⟩,by simp only;omega,⟨Z,Z,Z,Z,Z,Z,Z,Y⟩,⟨Z,Y⟩⟩
  rw[lp] at g2
  rw[List.drop_of_length_le (show (aw a).pieces.length<=k by omega),WI,List.nil_append] at y1
  ((refine cB<|ae<|d0 Z<|d0 Z<|d0 Z<|d0 Z<|d0 Z<|d0 Z<|d0 Z<|d0 Z<|d0 Z<|d0 Z<|yD Z<|cn ?_;refine fo Z<|aj<|az Z<|cM<|bT<|aY<|aY<|bU<|bp<|aj<|aM<|yq Z<|bg zI ?_);refine sI ?_)
  (refine yk<|yP Z<|yT<|ai ?_;refine⟨(i+1,o'),_,aW.refl _ _,?_⟩)
  exact⟨⟨y1,by simp only;omega,by simp only;omega⟩,by simp only;omega,⟨Z,Z,Z,Z,Z,Z,Z,Y⟩,⟨Z,Y⟩⟩
 rw[List.drop_of_length_le (by omega),WD,List.append_nil] at x1
 have x1:o=G:=x1
 rw[<-x1]
 refine bT<|aY<|aY<|bU<|aj<|yS<|yq Z<|aA zI<|bd<|af<|cD Z<|cr Z Z Z Z Z<|yR zi ?_
 exact⟨Z,Z,Y⟩
structure sE (r:bR) (a:Wt) (nets:List ByteArray):Prop where
 rules:iz r
 faults:cK r=0
 open':cC a=0
 board:vG a
 len:nets.length=(aw a).placed.groups.length
theorem xP {r:bR} {a:Wt} {nets:List ByteArray} (g:kZ r a nets=0):sE r a nets:=by
 rw[kZ] at g
 by_cases g1:cK r≠0
 ·rw[if_pos g1] at g;exact absurd g g1
 rw[if_neg g1] at g
 by_cases g2:cC a≠0
 ·rw[if_pos g2] at g;exact absurd g g2
 rw[if_neg g2] at g
 by_cases g3:nets.length≠(aw a).placed.groups.length
 ·rw[if_pos g3] at g;cases g
 exact⟨vg (by simpa using g1),by simpa using g1,by simpa using g2,sC (by simpa using g2),by simpa using g3⟩
open Reg (dc at' gB ba dR jq cI cE)
theorem BY (s:List ax) (hs:Reg.hZ s) (hn:s≠[]):aD C 26 [.pv (aG s)] (.p (.ag [i64 (ri s).1,i64 (ri s).2])) []:=by
 match s,hs,hn with
 | b::s,hs,_=>
  have hb:=hs.mem b List.mem_cons_self
  match hx:b.xs with
  | []=>exact absurd hx hb.ne
  | p::u=>
   have:=Ba b s p u hx
   rw[ri,hx]
   exact this
theorem Yb (r:bR) (hg:iz r) (a:Wt) (gd:vG a) (nets:List ByteArray) (hn:nets.length=(aw a).placed.groups.length):aD C 36 [.pv (.ag (rl r)),.pv (.ip (kY a)),.pv (strs nets)] (.p (.sl ((Wr r (aw a) nets 0 (aw a).pieces).map W2))) []:=by
 have lp:=aN (aw a).pieces gw
 have few:=gd.few
 obtain⟨G,hG⟩:∃G,G=Wr r (aw a) nets 0 (aw a).pieces:=⟨_,rfl⟩
 rw[<-hG]
 refine aT hC Tryz.func36 rfl rfl 56 rfl (by decide) (by kernel_rfl) fun _ _ _ _ _=>?_
 (refine yS<|yn Z<|aA zI<|aS<|ak<|yB Z<|yU<|yB Z<|yT<|au<|yS<|yP Z<|yP Z<|yP Z ?_;refine yP Z<|yP Z<|yP Z<|yT<|aZ ?_)
 refine aI (fun x:Nat×List Break=>x.2++Wr r (aw a) nets x.1 ((aw a).pieces.drop x.1)=G/\x.2.length<=x.1/\x.1<=(aw a).pieces.length) (fun x=>[(1,.p (.ip (kY a))),(2,.p (strs nets)),(3,.p (.ip (rl r))),(7,.ow 7),(16,.p (.sl ((aw a).pieces.map gw))),(17,.p (i64 (aw a).pieces.length)),(18,.p (i64 x.1))]) (fun x=>[(7,.row 64 (x.2.map W2))]) (fun x=>(aw a).pieces.length - x.1) (0,[]) _ ((aW.fa (by exact hC) _ 7 64 _ (by decide) (by exact rfl) (by exact rfl) (by decide)).trans (aW.gC (by exact hC) _ 3 (y:=.ip (rl r)) (fz:=[(3,.iP (rl r))]) (by exact⟨rfl,rfl⟩))) ⟨by rw[hG];rfl,by simp,Nat.zero_le _⟩ ⟨rfl,rfl,rfl,rfl,rfl,congrArg (fun m:Nat=>AV.p (i64 m)) lp,Z,Y⟩ ⟨Z,Y⟩ fun ⟨i,o⟩ hx t h=>?_
 obtain⟨x1,x2,x3⟩:=hx
 simp only at x1 x2 x3
 (refine yS<|yP Z<|yT<|au<|az Z ?_;refine aa (fun g1=>?_) (fun g1=>?_) <;> try simp only[zB] at g1)
 ·obtain⟨p,hp⟩:=bh (l:=(aw a).pieces) (i:=i) (by omega)
  have gp:=gd.pc p (List.mem_of_getElem? hp)
  obtain⟨gi,si,i1,i2,i3,i4⟩:=MW gd hn (i:=i) (by omega)
  rw[drop_at hp,Wr,WS,i2,i4] at x1
  obtain⟨w0,w1⟩:=Yi hg si
  have hw:=Ye r hg si
  generalize WA r si=need at *
  have hth:=XL p.set gp.sok gp.ink need w0 w1
  have zL:=(Reg.Yp gp.sok need).1
  have TP:=Ya p gp.sok gp.ink need w0 w1
  obtain⟨T,hT⟩:∃T,T=zk p.set need:=⟨_,rfl⟩
  have lT:=aN T hb
  generalize Wo (fun n=>decide (zk p.set n=[])) need=gr at *
  rw[<-hT] at x1 hth zL
  refine aJ<|aj<|au<|aZ ?_
  refine fB ?_
  (refine aM<|yP Z<|yq Z<|aK zI ?_;refine⟨(gw p),(idx rfl hp),?_⟩)
  refine yk<|yP Z<|yn Z<|aA zI<|aS<|ak<|yA Z<|yq Z<|aA zI<|bd<|aF<|an<|yT<|ai ?_
  refine I2 9 (y:=.ip (gw p)) (fz:=[(9,.iP (gw p))]) (by exact hC) (by exact⟨rfl,rfl⟩) ?_
  ((refine au<|cH [] false yz rfl (by kernel_rfl)<|ay Z<|ay Z<|ay Z<|ay Z<|ay Z<|ay Z<|ay Z<|ay Z<|ay Z<|ay Z<|ay Z<|cA Z Z ?_;refine cG Z<|yD Z<|yD Z<|yD Z<|yD Z<|yD Z<|yD Z<|yD Z<|dq Z<|aK zI ?_);refine⟨[i64 gi],(idx rfl i1),?_⟩)
  (refine bB<|ae<|yD Z<|dq Z<|aK zI ?_;refine⟨[str si],(idx rfl i3),?_⟩)
  (refine bB<|ae<|yD Z<|dq Z<|aK zI ?_;refine⟨_,_,hw,?_⟩)
  ((refine bB<|ae<|yD Z<|cn<|aq Z<|aq Z<|aq Z<|aq Z<|aq Z<|aq Z<|aq Z<|aq Z<|aq Z<|aq Z ?_;refine aq Z<|aq Z<|dW Z Z<|fo Z<|aj<|yS<|yP Z<|yP Z<|yP Z<|yn Z<|aK zI ?_);refine⟨_,_,hth,?_⟩)
  (refine b9 Z Z<|ae<|yA Z<|yT<|au<|yS<|yP Z<|yP Z<|yP Z<|yT<|az Z ?_;refine aa (fun g2=>?_) (fun g2=>?_) <;> try simp only[zB] at g2)
  ·have e:T=[]:=List.length_eq_zero_iff.1 (by omega)
   rw[if_pos e,List.nil_append] at x1
   (refine bT<|aY<|bU<|aj<|aM<|yq Z<|bg zI ?_;refine sI ?_)
   (refine yk<|yP Z<|yT<|ai ?_;refine⟨(i+1,o),_,aW.refl _ _,?_⟩)
   exact⟨⟨x1,by simp only;omega,by simp only;omega⟩,by simp only;omega,⟨Z,Z,Z,Z,Z,Z,Z,Y⟩,⟨Z,Y⟩⟩
  have e:T≠[]:=fun e=>g2 (by rw[e];rfl)
  rw[if_neg e] at x1
  (refine aJ<|aj<|yS<|yP Z<|yV Z<|yn Z<|aK zI ?_;refine⟨_,_,TP,?_⟩)
  ((refine b9 Z Z<|ae<|yA Z<|yT<|aM<|yq Z<|aA zI<|bd<|af<|yP Z<|yP Z<|yP Z<|yP Z<|yn Z ?_;refine aK zI ?_);refine⟨_,_,(BY T zL e),?_⟩)
  (refine b9 Z Z<|ae<|yP Z<|yn Z<|aA zI<|aS<|af<|yn Z<|bg zI ?_;refine And.intro ⟨fun r hr=>by simp at hr;subst hr;rfl,by simp only[List.length_map,List.length_set,List.length_replicate,List.length_append,List.length_cons,List.length_nil];omega,by simp only[List.length_map,List.length_set,List.length_replicate,List.length_append,List.length_cons,List.length_nil];omega⟩ ?_)
  (refine aS<|aF<|af<|cD Z<|cr Z Z Z Z Z<|cL<|bp<|aj<|aM<|yq Z<|bg zI ?_;refine sI ?_)
  (refine yk<|yP Z<|yT<|ai ?_;refine⟨(i+1,o++[⟨2,i,0,gr,need,ri T⟩]),_,aW.refl _ _,?_⟩)
  exact⟨⟨by rw[<-x1];simp only[List.append_assoc,List.singleton_append,List.cons_append,List.nil_append],by simp only[List.length_append,List.length_singleton];omega,by simp only;omega⟩,by simp only;omega,⟨Z,Z,Z,Z,Z,Z,Z,Y⟩,⟨by rw[List.map_append];rfl,trivial⟩⟩
 rw[List.drop_of_length_le (by omega),Wr,List.append_nil] at x1
 have x1:o=G:=x1
 (refine bT<|aY<|aY<|bU<|aj<|yS<|yq Z<|aA zI<|bd<|af<|cD Z<|cr Z Z Z Z Z<|yR zi ?_;refine And.intro ?_ trivial)
 rw[<-x1]
theorem Ym (r:bR) (hg:iz r) (a:Wt) (gd:vG a):aD C 38 [.pv (.ag (rl r)),.pv (.ip (kY a))] (.p (.sl ((Wy r.edge (a_ a.outline) 0 (aw a).pieces).map W2))) []:=by
 have lp:=aN (aw a).pieces gw
 have few:=gd.few
 have Sm:=hg.nums
 simp only[ke,di,Bool.and_eq_true,decide_eq_true_eq] at Sm
 obtain⟨G,hG⟩:∃G,G=Wy r.edge (a_ a.outline) 0 (aw a).pieces:=⟨_,rfl⟩
 rw[<-hG]
 have PX:=vI (mQ gd.art.out)
 obtain⟨so,ko⟩:=kS gd.art.out
 generalize a_ a.outline=O at *
 have TL:=Dr O so ko r.edge (by omega) (by omega)
 have PZ:=Reg.u4 so (l:=r.edge) (r:=r.edge) (d:=r.edge) (u:=r.edge) (by omega) (by omega) (by omega) (by omega)
 have TM:=zl PZ.1 so ko fun x y hx=>(PZ.2.1 x y).1 hx x y (by omega) (by omega) (by omega) (by omega)
 have TN:=PZ.1
 obtain⟨I,hI⟩:∃I,I=coreS O r.edge r.edge r.edge r.edge:=⟨_,rfl⟩
 rw[<-hI] at TL TN TM
 refine aT hC Tryz.func38 rfl rfl 55 rfl (by decide) (by kernel_rfl) fun _ _ _ _ _=>?_
 refine yS<|yn Z<|aA zI<|aS<|ak<|yB Z<|yU<|yB Z<|yT ?_
 refine fB ?_
 (refine aM<|yP Z<|yP Z<|yP Z<|yP Z<|yP Z<|yn Z<|aK zI ?_;refine⟨_,_,PX,?_⟩)
 refine b9 Z Z<|ae<|yn Z<|aA zI<|aS<|ak<|yq Z<|aA zI<|bd<|aF<|an<|yT<|ai ?_
 refine I2 6 (y:=.ip [aG O]) (fz:=[(6,.iP [aG O])]) (by exact hC) (by exact⟨rfl,rfl⟩) ?_
 (refine yS<|yP Z<|yV Z<|yP Z<|yn Z<|aK zI ?_;refine⟨_,_,TL,?_⟩)
 refine b9 Z Z<|ae<|yA Z<|yT<|au<|yS<|yP Z<|yP Z<|yP Z<|yP Z<|yP Z<|yP Z<|yT<|aZ ?_
 refine aI (fun x:Nat×List Break=>x.2++Wy r.edge O x.1 ((aw a).pieces.drop x.1)=G/\x.2.length<=x.1/\x.1<=(aw a).pieces.length) (fun x=>[(1,.p (.ip (kY a))),(2,.p (.ip (rl r))),(5,.ow 5),(6,.p (.ip [aG O])),(7,.p (aG I)),(25,.p (.sl ((aw a).pieces.map gw))),(26,.p (i64 (aw a).pieces.length)),(27,.p (i64 x.1))]) (fun x=>[(5,.row 64 (x.2.map W2))]) (fun x=>(aw a).pieces.length - x.1) (0,[]) _ ((aW.fa (by exact hC) _ 5 64 _ (by decide) (by exact rfl) (by exact rfl) (by decide)).trans (aW.gC (by exact hC) _ 2 (y:=.ip (rl r)) (fz:=[(2,.iP (rl r))]) (by exact⟨rfl,rfl⟩))) ⟨by rw[hG];rfl,by simp,Nat.zero_le _⟩ ⟨rfl,rfl,rfl,rfl,rfl,rfl,congrArg (fun m:Nat=>AV.p (i64 m)) lp,Z,Y⟩ ⟨Z,Y⟩ fun ⟨i,o⟩ hx t h=>?_
 obtain⟨x1,x2,x3⟩:=hx
 simp only at x1 x2 x3
 (refine yS<|yP Z<|yT<|au<|az Z ?_;refine aa (fun g1=>?_) (fun g1=>?_) <;> try simp only[zB] at g1)
 ·obtain⟨p,hp⟩:=bh (l:=(aw a).pieces) (i:=i) (by omega)
  have gp:=gd.pc p (List.mem_of_getElem? hp)
  rw[drop_at hp,Wy,Xj,<-hI] at x1
  have hle:=fQ p.set I gp.sok TN (gp.ink.up (by omega)) (TM.up (by omega))
  have Zu:=(Reg.dZ gp.sok TN).1
  have TP:=Yj p O gp.sok gp.ink so ko r.edge (by omega) (by omega)
  generalize Wo (fun n=>decide (cv p.set (coreS O n n n n)=[])) r.edge=gr at *
  generalize cv p.set I=T at *
  have lT:=aN T hb
  refine aJ<|aj<|au<|aZ ?_
  refine fB ?_
  (refine aM<|yP Z<|yq Z<|aK zI ?_;refine⟨(gw p),(idx rfl hp),?_⟩)
  refine yk<|yP Z<|yn Z<|aA zI<|aS<|ak<|yA Z<|yq Z<|aA zI<|bd<|aF<|an<|yT<|ai ?_
  refine I2 9 (y:=.ip (gw p)) (fz:=[(9,.iP (gw p))]) (by exact hC) (by exact⟨rfl,rfl⟩) ?_
  (refine yS<|yP Z<|yP Z<|yP Z<|yn Z<|aK zI ?_;refine⟨_,_,hle,?_⟩)
  (refine b9 Z Z<|ae<|yA Z<|yT<|au<|yS<|yP Z<|yP Z<|yP Z<|yT<|az Z ?_;refine aa (fun g2=>?_) (fun g2=>?_) <;> try simp only[zB] at g2)
  ·have e:T=[]:=List.length_eq_zero_iff.1 (by omega)
   rw[if_pos e,List.nil_append] at x1
   (refine bT<|aY<|bU<|aj<|aM<|yq Z<|bg zI ?_;refine sI ?_)
   (refine yk<|yP Z<|yT<|ai ?_;refine⟨(i+1,o),_,aW.refl _ _,?_⟩)
   exact⟨⟨x1,by simp only;omega,by simp only;omega⟩,by simp only;omega,⟨Z,Z,Z,Z,Z,Z,Z,Z,Y⟩,⟨Z,Y⟩⟩
  have e:T≠[]:=fun e=>g2 (by rw[e];rfl)
  rw[if_neg e] at x1
  (refine aJ<|aj<|yS<|yP Z<|yP Z<|yV Z<|yn Z<|aK zI ?_;refine⟨_,_,TP,?_⟩)
  ((refine b9 Z Z<|ae<|yA Z<|yT<|cH [] true yy rfl (by kernel_rfl)<|ay Z<|ay Z<|ay Z<|ay Z<|ay Z<|ay Z<|cA Z Z<|ay Z<|cA Z Z ?_;refine cA Z Z<|cG Z<|dq Z<|aA zI<|bB<|af<|yD Z<|yD Z<|yD Z<|yD Z<|yD Z<|dq Z<|aK zI ?_);refine⟨_,_,(BY T Zu e),?_⟩)
  (refine bB<|ae<|yD Z<|dq Z<|aA zI<|jA Z Z<|af<|dq Z<|bg zI ?_;refine And.intro ⟨fun r hr=>by simp at hr;subst hr;rfl,by simp only[List.length_map,List.length_set,List.length_replicate,List.length_append,List.length_cons,List.length_nil];omega,by simp only[List.length_map,List.length_set,List.length_replicate,List.length_append,List.length_cons,List.length_nil];omega⟩ ?_)
  ((refine hD Z Z Z<|fM<|g_<|af<|dq Z<|aA zI<|bB<|af<|cn<|aq Z<|aq Z<|aq Z<|aq Z<|aq Z ?_;refine aq Z<|aq Z<|aq Z<|aq Z<|aq Z<|Fp Z Z Z Z Z<|fo Z<|bp<|aj<|aM<|yq Z<|bg zI ?_);refine sI ?_)
  (refine yk<|yP Z<|yT<|ai ?_;refine⟨(i+1,o++[⟨4,i,0,gr,r.edge,ri T⟩]),_,aW.refl _ _,?_⟩)
  exact⟨⟨by rw[<-x1];simp only[List.append_assoc,List.singleton_append,List.cons_append,List.nil_append],by simp only[List.length_append,List.length_singleton];omega,by simp only;omega⟩,by simp only;omega,⟨Z,Z,Z,Z,Z,Z,Z,Z,Y⟩,⟨by rw[List.map_append];rfl,trivial⟩⟩
 rw[List.drop_of_length_le (by omega),Wy,List.append_nil] at x1
 have x1:o=G:=x1
 (refine bT<|aY<|aY<|bU<|aj<|yS<|yq Z<|aA zI<|bd<|af<|cD Z<|cr Z Z Z Z Z<|yR zi ?_;refine And.intro ?_ trivial)
 rw[<-x1]
theorem Yx (l:List Break):aD C 39 [.pv (.sl (l.map W2))] (.tu [.sl ((Xh l).1.map W2),i64 (Xh l).2]) []:=by
 have ll:=aN l W2
 refine aT hC Tryz.func39 rfl rfl 8 rfl (by decide) (by kernel_rfl) fun _ _ _ _ _=>?_
 (refine yS<|yB Z<|yA Z<|yT<|au<|yS<|yP Z<|yP Z<|yP Z<|yT<|az Z ?_;refine aa (fun g=>?_) (fun g=>?_) <;> try simp only[zB] at g)
 ·rw[ll] at g
  rw[Xh,if_pos (by omega)]
  (refine yS<|yB Z<|yA Z<|yT<|bP<|aX<|bQ zi ?_;refine And.intro ?_ trivial)
  rfl
 rw[ll] at g
 rw[Xh,if_neg (by omega)]
 (refine aJ<|aj<|yS<|yP Z<|yA Z<|yA Z<|yR zi ?_;refine And.intro ?_ trivial)
 rfl
theorem Y7 {b:en} (h:cx b=true):P4 1000000000 (aQ b):=by
 obtain⟨a1,a2,a3,a4⟩:=Reg.Lj (Reg.eZ h) (Reg.jM h)
 exact⟨⟨by omega,by omega⟩,⟨by omega,by omega⟩,⟨by omega,by omega⟩,⟨by omega,by omega⟩⟩
theorem XY (r:bR) (hg:iz r) (a:Wt) (gd:vG a):aD C 40 [.pv (.ag (rl r)),.pv (.ip (kY a))] (.p (.sl ((Ws r.holeGap 0 a.bores).map W2))) []:=by
 have lb:=aN a.bores bc
 have few:=gd.art.few
 have Sl:=vH gd.art
 obtain⟨G,hG⟩:∃G,G=Ws r.holeGap 0 a.bores:=⟨_,rfl⟩
 rw[<-hG]
 refine aT hC Tryz.func40 rfl rfl 82 rfl (by decide) (by kernel_rfl) fun _ _ _ _ _=>?_
 (refine yS<|yn Z<|aA zI<|aS<|ak<|yB Z<|yU<|yB Z<|yT<|au<|yS<|yP Z<|yP Z<|yP Z ?_;refine yP Z<|yP Z<|yP Z<|yP Z<|yT<|aZ ?_)
 refine aI (fun x:Nat×List Break=>x.2++Ws r.holeGap x.1 (a.bores.drop x.1)=G/\x.2.length<=500*x.1/\x.1<=a.bores.length) (fun x=>[(1,.p (.ip (kY a))),(2,.p (.ip (rl r))),(5,.ow 5),(16,.p (.sl (a.bores.map bc))),(17,.p (i64 a.bores.length)),(18,.p (i64 x.1))]) (fun x=>[(5,.row 64 (x.2.map W2))]) (fun x=>a.bores.length - x.1) (0,[]) _ ((aW.fa (by exact hC) _ 5 64 _ (by decide) (by exact rfl) (by exact rfl) (by decide)).trans (aW.gC (by exact hC) _ 2 (y:=.ip (rl r)) (fz:=[(2,.iP (rl r))]) (by exact⟨rfl,rfl⟩))) ⟨by rw[hG];rfl,by simp,Nat.zero_le _⟩ ⟨rfl,rfl,rfl,rfl,congrArg (fun m:Nat=>AV.p (i64 m)) lb,Z,Y⟩ ⟨Z,Y⟩ fun ⟨i,o⟩ hx t h=>?_
 obtain⟨x1,x2,x3⟩:=hx
 simp only at x1 x2 x3
 (refine yS<|yP Z<|yT<|au<|az Z ?_;refine aa (fun g1=>?_) (fun g1=>?_) <;> try simp only[zB] at g1)
 ·obtain⟨x,Sr⟩:=bh (l:=a.bores) (i:=i) (by omega)
  have bx:=Sl x (List.mem_of_getElem? Sr)
  rw[drop_at Sr,Ws] at x1
  refine aJ<|aj<|au<|aZ ?_
  refine fB ?_
  (refine aM<|yP Z<|yq Z<|aK zI ?_;refine⟨(bc x),(idx rfl Sr),?_⟩)
  refine yk<|yP Z<|yn Z<|aA zI<|aS<|ak<|yA Z<|yq Z<|aA zI<|bd<|aF<|an<|yT<|ai ?_
  refine I2 7 (y:=.ip (bc x)) (fz:=[(7,.iP (bc x))]) (by exact hC) (by exact⟨rfl,rfl⟩) ?_
  (refine yS<|yP Z<|yq Z<|bg zI ?_;refine sI ?_)
  refine yk<|yA Z<|yT<|aZ ?_
  refine aI (fun y:Nat×List Break=>y.2++(WR r.holeGap i x y.1 (a.bores.drop y.1)++Ws r.holeGap (i+1) (a.bores.drop (i+1)))=G/\y.2.length<=500*i+y.1/\i+1<=y.1/\y.1<=a.bores.length) (fun y=>[(1,.p (.ip (kY a))),(2,.p (.ip (rl r))),(5,.ow 5),(6,.p (i64 i)),(7,.p (.ip (bc x))),(8,.p (i64 y.1)),(16,.p (.sl (a.bores.map bc))),(17,.p (i64 a.bores.length)),(18,.p (i64 i))]) (fun y=>[(5,.row 64 (y.2.map W2))]) (fun y=>a.bores.length - y.1) (i+1,o) _ (aW.refl _ _) ⟨x1,by simp only;omega,by simp only;omega,by simp only;omega⟩ ⟨Z,Z,Z,Z,Z,Z,Z,Z,Z,Y⟩ ⟨Z,Y⟩ fun ⟨k,o'⟩ hy t h=>?_
  obtain⟨Xu,Ze,Zf,Zg⟩:=hy
  simp only at Xu Ze Zf Zg
  (refine au<|yS<|yP Z<|yP Z<|yP Z<|yP Z<|yP Z<|yP Z<|yP Z<|yP Z<|yT<|az Z ?_;refine aa (fun g2=>?_) (fun g2=>?_) <;> try simp only[zB] at g2)
  ·rw[lb] at g2
   obtain⟨z,hz⟩:=bh (l:=a.bores) (i:=k) (by omega)
   have bz:=Sl z (List.mem_of_getElem? hz)
   rw[drop_at hz,WR,W8] at Xu
   have Zv:=FP (aQ x) (aQ z) (Y7 bx) (Y7 bz)
   have KF:=Reg.Xx (Y7 bx) (Y7 bz)
   refine aJ<|aj<|au<|aZ ?_
   refine fB ?_
   (refine aM<|yP Z<|yP Z<|yP Z<|yP Z<|yP Z<|yP Z<|yq Z<|aK zI ?_;refine⟨(bc z),(idx rfl hz),?_⟩)
   refine yk<|yP Z<|yn Z<|aA zI<|aS<|ak<|yq Z<|aA zI<|bd<|aF<|an<|yT<|ai ?_
   refine I2 9 (y:=.ip (bc z)) (fz:=[(9,.iP (bc z))]) (by exact hC) (by exact⟨rfl,rfl⟩) ?_
   (refine au<|yS<|yP Z<|yP Z<|yP Z<|yP Z<|yP Z<|yP Z<|yg Z ?_;refine aa (fun g3=>?_) (fun g3=>?_) <;> try simp only[zB] at g3)
   ·rw[if_pos (.inl g3),List.nil_append] at Xu
    ((refine cB<|ae<|y0 Z<|y0 Z<|y0 Z<|y0 Z<|yP Z<|yT<|az Z<|fy<|bT<|aY<|bU<|aj ?_;refine aM<|yP Z<|yq Z<|bg zI ?_);refine sI ?_)
    (refine yk<|yA Z<|yT<|ai ?_;refine⟨(k+1,o'),_,aW.refl _ _,?_⟩)
    exact⟨⟨Xu,by simp only;omega,by simp only;omega,by simp only;omega⟩,by simp only;omega,⟨Z,Z,Z,Z,Z,Z,Z,Z,Z,Y⟩,⟨Z,Y⟩⟩
   (refine bS<|bA Z Z<|aA zI<|yk<|y1 Z<|y1 Z<|y1 Z<|y1 Z<|yP Z<|yT<|az Z ?_;refine aa (fun g4=>?_) (fun g4=>?_) <;> try simp only[zB] at g4)
   ·rw[if_pos (.inr g4),List.nil_append] at Xu
    (refine bT<|aY<|bU<|aj<|aM<|yP Z<|yq Z<|bg zI ?_;refine sI ?_)
    (refine yk<|yA Z<|yT<|ai ?_;refine⟨(k+1,o'),_,aW.refl _ _,?_⟩)
    exact⟨⟨Xu,by simp only;omega,by simp only;omega,by simp only;omega⟩,by simp only;omega,⟨Z,Z,Z,Z,Z,Z,Z,Z,Z,Y⟩,⟨Z,Y⟩⟩
   rw[if_neg (by rintro (e | e);exact g3 e;exact g4 e)] at Xu
   generalize B0 (aQ x) (aQ z)=fr at *
   (refine aJ<|aj<|yS<|yP Z<|yn Z<|aK zI ?_;refine⟨_,_,(dv x bx),?_⟩)
   ((refine b9 Z Z (ae (yn Z (aA zI (aS (ak (yq Z (aA zI (bd (aF (an (yT (au (cH [] false Zk rfl (by kernel_rfl) ?_)))))))))))));refine ay Z<|ay Z<|cA Z Z<|cA Z Z<|cG Z<|yD Z<|yD Z<|dq Z<|aK zI ?_);refine⟨_,_,(dv z bz),?_⟩)
   (refine bB<|ae<|dq Z<|aK zI ?_;refine⟨_,_,Zv,?_⟩)
   (refine bB<|ae<|dq Z<|bg zI ?_;refine sI ?_)
   ((refine bB<|ae<|yD Z<|cn<|aq Z<|aq Z<|aq Z<|aq Z<|aq Z<|dW Z Z<|fo Z<|aj<|yS<|yP Z ?_;refine yP Z<|yP Z<|yP Z<|yT<|az Z ?_);refine aa (fun g5=>?_) (fun g5=>?_) <;> try simp only[zB] at g5)
   ·rw[if_pos g5] at Xu
    ((refine aM<|yq Z<|aA zI<|bd<|af<|yP Z<|yP Z<|yP Z<|yP Z<|yP Z<|yV Z<|yP Z<|yV Z<|yP Z ?_;refine yP Z<|yP Z<|yn Z<|aA zI<|aS<|af<|yn Z<|bg zI ?_);refine And.intro ⟨fun r hr=>by simp at hr;subst hr;rfl,by simp only[List.length_map,List.length_set,List.length_replicate,List.length_append,List.length_cons,List.length_nil];omega,by simp only[List.length_map,List.length_set,List.length_replicate,List.length_append,List.length_cons,List.length_nil];omega⟩ ?_)
    (refine aS<|aF<|af<|cD Z<|cr Z Z Z Z Z<|cL<|bp<|aj<|aM<|yP Z<|yq Z<|bg zI ?_;refine sI ?_)
    (refine yk<|yA Z<|yT<|ai ?_;refine⟨(k+1,o'++[⟨5,i,k,fr - 1,r.holeGap,((aQ x).x0,(aQ x).y0)⟩]),_,aW.refl _ _,?_⟩)
    exact⟨⟨by rw[<-Xu];simp only[List.append_assoc,List.singleton_append,List.cons_append,List.nil_append],by simp only[List.length_append,List.length_singleton];omega,by simp only;omega,by simp only;omega⟩,by simp only;omega,⟨Z,Z,Z,Z,Z,Z,Z,Z,Z,Y⟩,⟨by rw[List.map_append];rfl,trivial⟩⟩
   rw[if_neg g5,List.nil_append] at Xu
   (refine aJ<|bp<|aj<|aM<|yP Z<|yq Z<|bg zI ?_;refine sI ?_)
   (refine yk<|yA Z<|yT<|ai ?_;refine⟨(k+1,o'),_,aW.refl _ _,?_⟩)
   exact⟨⟨Xu,by simp only;omega,by simp only;omega,by simp only;omega⟩,by simp only;omega,⟨Z,Z,Z,Z,Z,Z,Z,Z,Z,Y⟩,⟨Z,Y⟩⟩
  rw[lb] at g2
  rw[List.drop_of_length_le (show a.bores.length<=k by omega),WR,List.nil_append] at Xu
  (refine bT<|aY<|aY<|bU<|bp<|aj<|aM<|yq Z<|bg zI ?_;refine sI ?_)
  (refine yk<|yP Z<|yT<|ai ?_;refine⟨(i+1,o'),_,aW.refl _ _,?_⟩)
  exact⟨⟨Xu,by simp only;omega,by simp only;omega⟩,by simp only;omega,⟨Z,Z,Z,Z,Z,Z,Y⟩,⟨Z,Y⟩⟩
 rw[List.drop_of_length_le (by omega),Ws,List.append_nil] at x1
 have x1:o=G:=x1
 (refine bT<|aY<|aY<|bU<|aj<|yS<|yq Z<|aA zI<|bd<|af<|cD Z<|cr Z Z Z Z Z<|yR zi ?_;refine And.intro ?_ trivial)
 rw[<-x1]
theorem YF {a:Wt} (gd:jG a) {layer:Int} {Zs:List aB} (h:a.coppers[layer.toNat]?=some Zs):a.coppers.getD layer.toNat []=Zs:=by rw[List.getD_eq_getElem?_getD,h];rfl
theorem YO {x:en} (h:cx x=true):hZ (Xn x)/\cQ 1110000 (Xn x):=by
 obtain⟨o1,o2⟩:=Ey h
 obtain⟨s1,_,s3⟩:=Reg.ff o1 (l:=1) (r:=1) (d:=0) (u:=0) (by omega) (by omega) (by omega) (by omega)
 obtain⟨t1,_,t3⟩:=Reg.ff o1 (l:=0) (r:=0) (d:=1) (u:=1) (by omega) (by omega) (by omega) (by omega)
 obtain⟨u1,_,u3⟩:=Reg.va s1 t1
 exact⟨u1,u3 _ (s3 1010000 100000 o2 (by omega) (by omega) (by omega) (by omega)) (t3 1010000 100000 o2 (by omega) (by omega) (by omega) (by omega))⟩
theorem Yn (r:bR) (hg:iz r) (a:Wt) (gd:vG a):aD C 37 [.pv (.ag (rl r)),.pv (.ip (kY a))] (.p (.sl ((Wx r.ring a.bores a.coppers 0 a.bores).map W2))) []:=by
 have lb:=aN a.bores bc
 have few:=gd.art.few
 have cop:=gd.art.cop
 have Sl:=vH gd.art
 have Sm:=hg.nums
 simp only[ke,di,Bool.and_eq_true,decide_eq_true_eq] at Sm
 obtain⟨G,hG⟩:∃G,G=Wx r.ring a.bores a.coppers 0 a.bores:=⟨_,rfl⟩
 rw[<-hG]
 refine aT hC Tryz.func37 rfl rfl 116 rfl (by decide) (by kernel_rfl) fun _ _ _ _ _=>?_
 (refine yS<|yn Z<|aA zI<|aS<|ak<|yB Z<|yU<|yB Z<|yT<|au<|yS<|yP Z<|yP Z<|yP Z ?_;refine yP Z<|yP Z<|yP Z<|yP Z<|yT<|aZ ?_)
 refine aI (fun x:Nat×List Break=>x.2++Wx r.ring a.bores a.coppers x.1 (a.bores.drop x.1)=G/\x.2.length<=16*x.1/\x.1<=a.bores.length) (fun x=>[(1,.p (.ip (kY a))),(2,.p (.ip (rl r))),(5,.ow 5),(22,.p (.sl (a.bores.map bc))),(23,.p (i64 a.bores.length)),(24,.p (i64 x.1))]) (fun x=>[(5,.row 64 (x.2.map W2))]) (fun x=>a.bores.length - x.1) (0,[]) _ ((aW.fa (by exact hC) _ 5 64 _ (by decide) (by exact rfl) (by exact rfl) (by decide)).trans (aW.gC (by exact hC) _ 2 (y:=.ip (rl r)) (fz:=[(2,.iP (rl r))]) (by exact⟨rfl,rfl⟩))) ⟨by rw[hG];rfl,by simp,Nat.zero_le _⟩ ⟨rfl,rfl,rfl,rfl,congrArg (fun m:Nat=>AV.p (i64 m)) lb,Z,Y⟩ ⟨Z,Y⟩ fun ⟨i,o⟩ hx t h=>?_
 obtain⟨x1,x2,x3⟩:=hx
 simp only at x1 x2 x3
 (refine yS<|yP Z<|yT<|au<|az Z ?_;refine aa (fun g1=>?_) (fun g1=>?_) <;> try simp only[zB] at g1)
 ·obtain⟨x,Sr⟩:=bh (l:=a.bores) (i:=i) (by omega)
  have Tb:=List.mem_of_getElem? Sr
  have bx:=Sl x Tb
  obtain⟨_,ZF,ble,ZG⟩:=gd.art.bor x Tb
  obtain⟨so,ko⟩:=Ey bx
  rw[drop_at Sr,Wx] at x1
  have Lo:=Dx bx
  obtain⟨O,hO⟩:∃O,O=a_ [aQ x]:=⟨_,rfl⟩
  rw[<-hO] at Lo so ko
  have Zw:=zj O so (ko.up (by omega)) 1 1 0 0 (by omega) (by omega) (by omega) (by omega)
  have Zx:=zj O so (ko.up (by omega)) 0 0 1 1 (by omega) (by omega) (by omega) (by omega)
  obtain⟨s1,_,s3⟩:=Reg.ff so (l:=1) (r:=1) (d:=0) (u:=0) (by omega) (by omega) (by omega) (by omega)
  obtain⟨t1,_,t3⟩:=Reg.ff so (l:=0) (r:=0) (d:=1) (u:=1) (by omega) (by omega) (by omega) (by omega)
  have s3:=s3 1010000 100000 ko (by omega) (by omega) (by omega) (by omega)
  have t3:=t3 1010000 100000 ko (by omega) (by omega) (by omega) (by omega)
  have xo:=A_ _ _ s1 t1 (s3.up (by omega)) (t3.up (by omega))
  have eX:ru (bX O 1 1 0 0) (bX O 0 0 1 1)=Xn x:=by rw[hO];rfl
  rw[eX] at xo
  obtain⟨Zy,Zz⟩:=YO bx
  refine aJ<|aj<|au<|aZ ?_
  refine fB ?_
  (refine aM<|yP Z<|yq Z<|aK zI ?_;refine⟨(bc x),(idx rfl Sr),?_⟩)
  refine yk<|yP Z<|yn Z<|aA zI<|aS<|ak<|yA Z<|yq Z<|aA zI<|bd<|aF<|an<|yT<|ai ?_
  refine I2 7 (y:=.ip (bc x)) (fz:=[(7,.iP (bc x))]) (by exact hC) (by exact⟨rfl,rfl⟩) ?_
  (refine yS<|yP Z<|yn Z<|aK zI ?_;refine⟨_,_,(dv x bx),?_⟩)
  refine b9 Z Z<|ae<|yn Z<|aA zI<|aS<|ak<|yq Z<|aA zI<|bd<|aF<|an<|yT ?_
  refine fB ?_
  (refine aM<|yP Z<|yn Z<|aA zI<|aS<|af<|yn Z<|aK zI ?_;refine⟨_,_,Lo,?_⟩)
  refine b9 Z Z<|aF<|ae<|yn Z<|aA zI<|aS<|ak<|yq Z<|aA zI<|bd<|aF<|an<|yT<|ai ?_
  refine I2 9 (y:=.ip [aG O]) (fz:=[(9,.iP [aG O])]) (by exact hC) (by exact⟨rfl,rfl⟩) ?_
  refine yS<|yP Z<|yP Z<|yA Z<|yT<|aZ ?_
  refine aI (fun y:Nat×Int×List Break=>y.2.2++(WK r.ring a.bores a.coppers i x y.1 y.2.1++Wx r.ring a.bores a.coppers (i+1) (a.bores.drop (i+1)))=G/\y.1=(x.hi+1 - y.2.1).toNat/\y.2.2.length+y.1<=16*(i+1)/\x.lo<=y.2.1/\y.2.1<=x.hi+1) (fun y=>[(1,.p (.ip (kY a))),(2,.p (.ip (rl r))),(5,.ow 5),(6,.p (i64 i)),(7,.p (.ip (bc x))),(9,.p (.ip [aG O])),(10,.p (i64 y.2.1)),(22,.p (.sl (a.bores.map bc))),(23,.p (i64 a.bores.length)),(24,.p (i64 i))]) (fun y=>[(5,.row 64 (y.2.2.map W2))]) (fun y=>y.1) ((x.hi+1 - x.lo).toNat,x.lo,o) _ (aW.refl _ _) ⟨x1,rfl,by simp only;omega,by simp only;omega,by simp only;omega⟩ ⟨Z,Z,Z,Z,Z,Z,Z,Z,Z,Z,Y⟩ ⟨Z,Y⟩ fun ⟨n,layer,o'⟩ hy t h=>?_
  obtain⟨Xu,Ze,Zf,Zg,ZA⟩:=hy
  simp only at Xu Ze Zf Zg ZA
  (refine au<|yS<|yP Z<|yP Z<|yP Z<|yg Z ?_;refine aa (fun g2=>?_) (fun g2=>?_) <;> try simp only[zB] at g2)
  ·(refine bS<|bA Z Z<|aA zI<|yk<|y1 Z<|y1 Z<|y1 Z<|yP Z<|yT<|az Z ?_;refine aa (fun g3=>?_) (fun g3=>?_) <;> try simp only[zB] at g3)
   ·obtain⟨m,rfl⟩:∃m,n=m+1:=⟨n - 1,by omega⟩
    rw[WK,if_pos ⟨g2,g3⟩,W7] at Xu
    obtain⟨rg,Zh⟩:=bh (l:=a.coppers) (i:=layer.toNat) (by omega)
    have PK:=YF gd.art Zh
    have QN:=gd.art.reg rg (List.mem_of_getElem? Zh)
    obtain⟨sr,kr⟩:=kS QN
    obtain⟨sc,kc⟩:=Yw gd.art i layer
    have Zi:WJ a.bores i layer 0 a.bores (a_ rg)=Wv a.bores a.coppers i layer:=by rw[Wv,PK]
    rw[PK,<-hO] at Xu
    have hand:=xz (a_ rg) (Xn x) sr Zy (kr.up (by omega)) (Zz.up (by omega))
    obtain⟨T,hT⟩:∃T,T=jm (a_ rg) (Xn x):=⟨_,rfl⟩
    rw[<-hT] at Xu hand
    have lT:=aN T hb
    have ZB:=vI (mQ QN)
    generalize a_ rg=R0 at *
    generalize Xn x=X at *
    (refine aJ<|aj<|au<|aZ<|yS<|yP Z<|yP Z<|yP Z<|yP Z<|yP Z<|yP Z<|yq Z<|aK zI ?_;refine⟨(rr rg),(idx (show layer=(layer.toNat:Int) by omega) Zh),?_⟩)
    (refine yk<|yP Z<|yn Z<|aK zI ?_;refine⟨_,_,ZB,?_⟩)
    ((refine b9 Z Z (ae (yn Z (aA zI (aS (ak (yq Z (aA zI (bd (aF (an (yT (au (cH [] false Zk rfl (by kernel_rfl) ?_)))))))))))));refine ay Z<|cA Z Z<|ay Z<|cA Z Z<|cA Z Z<|cG Z<|yD Z<|dq Z<|aK zI ?_);refine⟨_,_,Zw,?_⟩)
    (refine bB<|ae<|yD Z<|dq Z<|aK zI ?_;refine⟨_,_,Zx,?_⟩)
    (refine bB<|ae<|dq Z<|aK zI ?_;refine⟨_,_,xo,?_⟩)
    ((refine bB<|ae<|yD Z<|cn<|aq Z<|aq Z<|aq Z<|aq Z<|aq Z<|dW Z Z<|fo Z<|aj<|au<|yS ?_;refine yP Z<|yP Z<|yn Z<|aK zI ?_);refine⟨_,_,hand,?_⟩)
    (refine b9 Z Z<|ae<|yP Z<|yP Z<|yT<|az Z ?_;refine aa (fun g4=>?_) (fun g4=>?_) <;> try simp only[zB] at g4)
    ·have e:T=[]:=List.length_eq_zero_iff.1 (by omega)
     rw[if_pos e,List.nil_append] at Xu
     (refine bT<|aY<|bU<|aj<|aM<|yP Z<|yq Z<|bg zI ?_;refine And.intro ⟨by dsimp only;omega,by dsimp only;omega⟩ ?_)
     (refine yk<|yA Z<|yT<|ai ?_;refine⟨(m,layer+1,o'),_,aW.refl _ _,?_⟩)
     exact⟨⟨Xu,by simp only;omega,by simp only;omega,by simp only;omega,by simp only;omega⟩,by simp only;omega,⟨Z,Z,Z,Z,Z,Z,Z,Z,Z,Z,Y⟩,⟨Z,Y⟩⟩
    have e:T≠[]:=fun e=>g4 (by rw[e];rfl)
    rw[if_neg e] at Xu
    have TP:=Yk O (Wv a.bores a.coppers i layer) so ko sc kc r.ring (by omega) (by omega)
    have Uv:=YB O (Wv a.bores a.coppers i layer) so ko sc kc r.ring (by omega) (by omega)
    have ZC:=(YE so sc (n:=r.ring) (by omega)).1
    generalize Wo (fun n=>decide (n < 0) || decide (WM O (Wv a.bores a.coppers i layer) n=[])) r.ring=gr at *
    generalize WM O (Wv a.bores a.coppers i layer) r.ring=L at *
    generalize Wv a.bores a.coppers i layer=CA at *
    have lL:=aN L hb
    refine aJ<|aj ?_
    refine fB ?_
    refine yS<|yP Z<|yP Z<|yP Z<|yP Z<|yP Z<|yP Z<|yP Z<|yT<|aZ ?_
    refine aI (fun z:Nat×List ax=>WJ a.bores i layer z.1 (a.bores.drop z.1) z.2=CA/\hZ z.2/\cQ 2000000 z.2/\z.1<=a.bores.length) (fun z=>[(1,.p (.ip (kY a))),(2,.p (.ip (rl r))),(5,.ow 5),(6,.p (i64 i)),(7,.p (.ip (bc x))),(9,.p (.ip [aG O])),(10,.p (i64 layer)),(11,.bx 11 0),(22,.p (.sl (a.bores.map bc))),(23,.p (i64 a.bores.length)),(24,.p (i64 i)),(69,.p (.sl (a.bores.map bc))),(70,.p (i64 a.bores.length)),(71,.p (i64 z.1))]) (fun z=>[(5,.row 64 (o'.map W2)),(11,.box [.p (aG z.2)])]) (fun z=>a.bores.length - z.1) (0,R0) _ (aW.refl _ _) ⟨Zi,sr,kr.up (by omega),Nat.zero_le _⟩ ⟨rfl,rfl,rfl,rfl,rfl,rfl,rfl,rfl,rfl,rfl,rfl,rfl,congrArg (fun m:Nat=>AV.p (i64 m)) lb,Z,Y⟩ ⟨Z,Z,Y⟩ fun ⟨k,s⟩ hz t h=>?_
    obtain⟨z1,z2,z3,z4⟩:=hz
    simp only at z1 z2 z3 z4
    (refine yS<|yP Z<|yT<|au<|az Z ?_;refine aa (fun g5=>?_) (fun g5=>?_) <;> try simp only[zB] at g5)
    ·obtain⟨v,hv⟩:=bh (l:=a.bores) (i:=k) (by omega)
     have bv:=Sl v (List.mem_of_getElem? hv)
     obtain⟨sv,kv⟩:=Ey bv
     rw[drop_at hv,WJ] at z1
     have Pa:=A_ s (a_ [aQ v]) z2 sv z3 (kv.up (by omega))
     have ZD:=Dx bv
     obtain⟨Vy,_,Vz⟩:=Reg.va z2 sv
     have Vz:=Vz 2000000 z3 (kv.up (by omega))
     refine aJ<|aj<|au<|aZ ?_
     refine fB ?_
     (refine aM<|yP Z<|yq Z<|aK zI ?_;refine⟨(bc v),(idx rfl hv),?_⟩)
     refine yk<|yP Z<|yn Z<|aA zI<|aS<|ak<|yA Z<|yq Z<|aA zI<|bd<|aF<|an<|yT<|ai ?_
     refine I2 14 (y:=.ip (bc v)) (fz:=[(14,.iP (bc v))]) (by exact hC) (by exact⟨rfl,rfl⟩) ?_
     (refine yS<|yP Z<|yP Z<|yP Z<|yP Z<|yg Z ?_;refine aa (fun g6=>?_) (fun g6=>?_) <;> try simp only[zB] at g6)
     ·have ZE:k≠i:=fun e=>g6 (by rw[e])
      (refine bS<|bA Z Z<|aA zI<|yk<|y1 Z<|y2 Z<|jB Z Z Z<|aK zI ?_;refine⟨_,_,(ig v layer),?_⟩)
      (refine b9 Z Z<|ae<|yP Z<|yT<|az Z ?_;refine aa (fun g7=>?_) (fun g7=>?_) <;> try simp only[zB] at g7)
      ·rw[if_pos ⟨ZE,g7⟩] at z1
       (refine cH [] false Zl rfl (by kernel_rfl)<|ay Z<|ay Z<|cA Z Z<|cA Z Z<|cA Z Z<|cA Z Z<|cG Z<|yD Z<|yD Z<|dq Z<|aK zI ?_;refine⟨_,_,(dv v bv),?_⟩)
       (refine bB<|ae<|dq Z<|aA zI<|jA Z Z<|af<|dq Z<|aK zI ?_;refine⟨_,_,ZD,?_⟩)
       (refine bB<|ae<|dq Z<|aK zI ?_;refine⟨_,_,Pa,?_⟩)
       (refine bB<|ae<|dq Z<|aA zI<|iG Z<|aF<|an<|cn<|fo Z<|bp<|aj<|aM<|yq Z<|bg zI ?_;refine sI ?_)
       (refine yk<|yP Z<|yT<|ai ?_;refine⟨(k+1,ru s (a_ [aQ v])),_,aW.refl _ _,?_⟩)
       exact⟨⟨z1,Vy,Vz,by simp only;omega⟩,by simp only;omega,⟨Z,Z,Z,Z,Z,Z,Z,Z,Z,Z,Z,Z,Z,Z,Y⟩,⟨Z,Z,Y⟩⟩
      rw[if_neg fun e=>by rw[e.2] at g7;cases g7] at z1
      (refine aJ<|bp<|aj<|aM<|yq Z<|bg zI ?_;refine sI ?_)
      (refine yk<|yP Z<|yT<|ai ?_;refine⟨(k+1,s),_,aW.refl _ _,?_⟩)
      exact⟨⟨z1,z2,z3,by simp only;omega⟩,by simp only;omega,⟨Z,Z,Z,Z,Z,Z,Z,Z,Z,Z,Z,Z,Z,Z,Y⟩,⟨Z,Z,Y⟩⟩
     rw[if_neg fun e=>e.1 (by omega)] at z1
     (refine cB<|ae<|y0 Z<|y0 Z<|yP Z<|yT<|az Z<|cM<|aJ<|bp<|aj<|aM<|yq Z<|bg zI ?_;refine sI ?_)
     (refine yk<|yP Z<|yT<|ai ?_;refine⟨(k+1,s),_,aW.refl _ _,?_⟩)
     exact⟨⟨z1,z2,z3,by simp only;omega⟩,by simp only;omega,⟨Z,Z,Z,Z,Z,Z,Z,Z,Z,Z,Z,Z,Z,Z,Y⟩,⟨Z,Z,Y⟩⟩
    rw[List.drop_of_length_le (show a.bores.length<=k by omega),WJ] at z1
    subst z1
    refine bT<|aY<|aY<|bU<|aj<|ai ?_
    refine I2 11 (y:=.ip [aG s]) (fz:=[(11,.iP [aG s])]) (by exact hC) (by exact⟨rfl,rfl⟩) ?_
    skip
    refine fB ?_
    refine aM<|yV Z<|yn Z<|aA zI<|aS<|ak<|yq Z<|aA zI<|bd<|aF<|an<|yT<|ai ?_
    refine CR ((aW.Y1 (by exact hC) _ 15 0 91 [.ip [aG O],.ip [aG s]] [.fn 91 [.p (.ip [aG O]),.p (.ip [aG s])]] (by exact rfl) (by exact rfl)).trans (aW.gC (by exact hC) _ 15 (y:=.ip [XB O s]) (fz:=[(15,.iP [XB O s])]) (by exact⟨rfl,rfl⟩))) ?_
    (refine yS<|yP Z<|yP Z<|yP Z<|yn Z<|aK zI ?_;refine⟨_,_,Uv,?_⟩)
    (refine b9 Z Z<|ae<|yA Z<|yU<|yP Z<|yP Z<|yP Z<|yT<|az Z ?_;refine aa (fun g8=>?_) (fun g8=>?_) <;> try simp only[zB] at g8)
    ·have e:L≠[]:=fun e=>by rw[e] at g8;simp at g8
     rw[if_neg e] at Xu
     (refine yS<|yP Z<|yP Z<|yV Z<|yn Z<|aK zI ?_;refine⟨_,_,TP,?_⟩)
     ((refine b9 Z Z<|ae<|yA Z<|yT<|cH [] true HF rfl (by kernel_rfl)<|ay Z<|ay Z<|ay Z<|ay Z<|ay Z<|ay Z<|ay Z<|cA Z Z<|ay Z ?_;refine cA Z Z<|cA Z Z<|cG Z<|dq Z<|aA zI<|bB<|af<|yD Z<|yD Z<|yD Z<|yD Z<|yD Z<|yD Z<|dq Z ?_;refine aK zI ?_);refine⟨_,_,(BY L ZC e),?_⟩)
     (refine bB<|ae<|yD Z<|dq Z<|aA zI<|jA Z Z<|af<|dq Z<|bg zI ?_;refine And.intro ⟨fun r hr=>by simp at hr;subst hr;rfl,by simp only[List.length_map,List.length_set,List.length_replicate,List.length_append,List.length_cons,List.length_nil];omega,by simp only[List.length_map,List.length_set,List.length_replicate,List.length_append,List.length_cons,List.length_nil];omega⟩ ?_)
     ((refine hD Z Z Z<|fM<|g_<|af<|dq Z<|aA zI<|bB<|af<|cn<|aq Z<|aq Z<|aq Z<|aq Z<|aq Z ?_;refine aq Z<|aq Z<|aq Z<|aq Z<|aq Z<|aq Z<|Fp Z Z Z Z Z<|fo Z<|bp<|aj<|aM<|yP Z<|yq Z<|bg zI ?_);refine sI ?_)
     (refine yk<|yA Z<|yT<|ai ?_;refine⟨(m,layer+1,o'++[⟨3,i,layer,gr,r.ring,ri L⟩]),_,aW.refl _ _,?_⟩)
     exact⟨⟨by rw[<-Xu];simp only[List.append_assoc,List.singleton_append,List.cons_append,List.nil_append],by simp only;omega,by simp only[List.length_append,List.length_singleton];omega,by simp only;omega,by simp only;omega⟩,by simp only;omega,⟨Z,Z,Z,Z,Z,Z,Z,Z,Z,Z,Y⟩,⟨by rw[List.map_append];rfl,trivial⟩⟩
    have e:L=[]:=List.length_eq_zero_iff.1 (by omega)
    rw[if_pos e,List.nil_append] at Xu
    (refine aJ<|bp<|aj<|aM<|yP Z<|yq Z<|bg zI ?_;refine sI ?_)
    (refine yk<|yA Z<|yT<|ai ?_;refine⟨(m,layer+1,o'),_,aW.refl _ _,?_⟩)
    exact⟨⟨Xu,by simp only;omega,by simp only;omega,by simp only;omega,by simp only;omega⟩,by simp only;omega,⟨Z,Z,Z,Z,Z,Z,Z,Z,Z,Z,Y⟩,⟨Z,Y⟩⟩
   have e0:n=0:=by omega
   subst e0
   rw[WK,List.nil_append] at Xu
   (refine bT<|aY<|aY<|bU<|bp<|aj<|aM<|yq Z<|bg zI ?_;refine sI ?_)
   (refine yk<|yP Z<|yT<|ai ?_;refine⟨(i+1,o'),_,aW.refl _ _,?_⟩)
   exact⟨⟨Xu,by simp only;omega,by simp only;omega⟩,by simp only;omega,⟨Z,Z,Z,Z,Z,Z,Y⟩,⟨Z,Y⟩⟩
  have e0:WK r.ring a.bores a.coppers i x n layer=[]:=by
   cases n with
   | zero=>rfl
   | succ n=>rw[WK,if_neg fun e=>by rw[e.1] at g2;simp at g2]
  rw[e0,List.nil_append] at Xu
  ((refine cB<|ae<|y0 Z<|y0 Z<|y0 Z<|yP Z<|yT<|az Z<|cM<|bT<|aY<|aY<|bU<|bp ?_;refine aj<|aM<|yq Z<|bg zI ?_);refine sI ?_)
  (refine yk<|yP Z<|yT<|ai ?_;refine⟨(i+1,o'),_,aW.refl _ _,?_⟩)
  exact⟨⟨Xu,by simp only;omega,by simp only;omega⟩,by simp only;omega,⟨Z,Z,Z,Z,Z,Z,Y⟩,⟨Z,Y⟩⟩
 rw[List.drop_of_length_le (by omega),Wx,List.append_nil] at x1
 have x1:o=G:=x1
 (refine bT<|aY<|aY<|bU<|aj<|yS<|yq Z<|aA zI<|bd<|af<|cD Z<|cr Z Z Z Z Z<|yR zi ?_;refine And.intro ?_ trivial)
 rw[<-x1]
end M
end Go.Proofs.YtpbkimanfahbgaaGreatDoor
