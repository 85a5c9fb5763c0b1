/- What fits is as far from each piece of another net as both need without areas. Condition: what is read is of bulk at most 1048576; the listed variables are tied to the program's text by the card. -/
import Derived.Test.YtpbkimanfahbgaaGreatDoorF13
set_option linter.unusedVariables false
set_option linter.unusedSimpArgs false
set_option maxRecDepth 100000
set_option maxHeartbeats 8000000
namespace Go.Proofs.YtpbkimanfahbgaaGreatDoor
namespace M
open Go.AM Go.RowKit Go.Lib
open Reg (aB ax eX Wt Piece l9 ct cQ told a_ cx aQ aw kv cv)
structure sE (r:bR) (a:Wt) (nets:List ByteArray):Prop where
 rules:iz r
 faults:cK r=0
 open':cC a=0
 board:vG a
 len:nets.length=(aw a).placed.groups.length
theorem xP {r:bR} {a:Wt} {nets:List ByteArray} (g:kZ r a nets=0):sE r a nets:=by
 rw[kZ] at g
 by_cases g1:cK r≠0
 ·rw[if_pos g1] at g;exact absurd g g1
 rw[if_neg g1] at g
 by_cases g2:cC a≠0
 ·rw[if_pos g2] at g;exact absurd g g2
 rw[if_neg g2] at g
 by_cases g3:nets.length≠(aw a).placed.groups.length
 ·rw[if_pos g3] at g;cases g
 exact⟨vg (by simpa using g1),by simpa using g1,by simpa using g2,sC (by simpa using g2),by simpa using g3⟩
theorem BV {r:bR} {a:Wt} {nets:List ByteArray} {net:ByteArray} {layer:Int} (g:oy r a nets net layer=0):sE r a nets/\0<=layer/\layer<=(a.coppers.length:Int) - 1:=by
 rw[oy] at g
 by_cases g1:kZ r a nets≠0
 ·rw[if_pos g1] at g;exact absurd g g1
 rw[if_neg g1] at g
 refine⟨xP (by simpa using g1),?_⟩
 split at g
 ·cases g
 split at g
 ·rename_i h
  simpa [Reg.within] using h
 cases g
def EB (r:bR) (a:Wt) (nets:List ByteArray) (net:ByteArray) (layer:Int):PV:=if oy r a nets net layer=0 then .ip (kY a) else .im (.pointer none)
theorem tE (r:bR) (hr:ic r) (a:Wt) (ha:oh a) (nets:List ByteArray) (hn:sD nets) (net:ByteArray) (IM:jv net) (layer:Int):aD C 19 [.pv (.ag (rl r)),.pv (.ag (kG a)),.pv (strs nets),.pv (str net),.pv (i64 layer)] (.tu [EB r a nets net layer,i64 (oy r a nets net layer)]) []:=by
 have lk:(a.coppers.map fun r=>[aV r]).length=a.coppers.length:=by rw[List.length_map]
 obtain⟨F,hF⟩:∃F,F=oy r a nets net layer:=⟨_,rfl⟩
 have hV:EB r a nets net layer=if F=0 then .ip (kY a) else .im (.pointer none):=by rw[hF];rfl
 rw[hV,<-hF]
 rw[oy] at hF
 have aU:=Dz r hr a ha nets hn
 refine aT hC Tryz.func19 rfl rfl 39 rfl (by decide) (by kernel_rfl) fun _ _ _ _ _=>?_
 by_cases g:kZ r a nets=0
 ·rw[zE,if_pos g,g] at aU
  rw[if_neg (by simpa using g)] at hF
  have cop:=(xP g).board.art.cop
  ((refine yS<|yn Z<|aA zI<|aS<|ak<|yn Z<|aA zI<|aS<|ak<|yA Z<|yA Z<|yU<|yP Z<|yP Z ?_;refine yP Z<|yn Z<|aK zI ?_);refine⟨_,_,aU,?_⟩)
  ((refine b9 Z Z<|bq<|yq Z<|aA zI<|bd<|bq<|yP Z<|yP Z<|yA Z<|yA Z<|yT<|au<|yS<|yP Z ?_;refine yP Z<|yT<|az Z<|cM<|aJ<|aj<|au<|yS<|yP Z<|yP Z<|yP Z<|yg Z ?_);refine aa (fun g1=>?_) (fun g1=>?_) <;> try simp only[zB] at g1)
  ·have g1:net=fb:=g1
   rw[if_pos (.inl g1)] at hF
   ((refine cB<|ae<|y0 Z<|y0 Z<|yP Z<|yT<|az Z<|fy<|yS<|yA Z<|yA Z<|yT<|bP<|aX ?_;refine bQ zi ?_);refine And.intro ?_ trivial)
   rw[hF];rfl
  have g1:¬net=fb:=g1
  (refine bS<|bA Z Z<|aA zI<|yk<|y2 Z<|jB Z Z Z<|aK zI ?_;refine⟨_,_,(s_ net IM),?_⟩)
  cases g2:pJ net
  ·rw[if_pos (.inr g2)] at hF
   (refine b9 Z Z<|ae<|y1 Z<|yP Z<|yT<|az Z<|fy<|yS<|yA Z<|yA Z<|yT<|bP<|aX<|bQ zi ?_;refine And.intro ?_ trivial)
   rw[hF];rfl
  rw[if_neg (by rintro (e | e);exact g1 e;rw[g2] at e;cases e)] at hF
  ((refine b9 Z Z<|ae<|y1 Z<|yP Z<|yT<|az Z<|cM<|aJ<|aj<|au<|yS<|yP Z<|yV Z<|yP Z ?_;refine yP Z<|yq Z<|bg zI ?_);refine And.intro ⟨by rw[lk];omega,by rw[lk];omega⟩ ?_)
  (refine yk<|yn Z<|aK zI ?_;refine⟨_,_,(mH layer 0 (((a.coppers.map fun r=>[aV r]).length:Int) - 1)),?_⟩)
  rw[lk]
  cases g3:Reg.within layer 0 ((a.coppers.length:Int) - 1)
  ·rw[g3,if_neg (by decide)] at hF
   have St:(decide (0<=layer) && decide (layer<=(a.coppers.length:Int) - 1))=false:=g3
   rw[St]
   (refine b9 Z Z<|ae<|yP Z<|yT<|az Z<|fy<|yS<|yA Z<|yA Z<|yT<|bP<|aX<|bQ zi ?_;refine And.intro ?_ trivial)
   rw[hF];rfl
  rw[g3,if_pos rfl] at hF
  have St:(decide (0<=layer) && decide (layer<=(a.coppers.length:Int) - 1))=true:=g3
  rw[St]
  (refine b9 Z Z<|ae<|yP Z<|yT<|az Z<|cM<|aJ<|aj<|yS<|yP Z<|yA Z<|yA Z<|yR zi ?_;refine And.intro ?_ trivial)
  rw[hF];rfl
 rw[zE,if_neg g] at aU
 rw[if_pos g] at hF
 ((refine yS<|yn Z<|aA zI<|aS<|ak<|yn Z<|aA zI<|aS<|ak<|yA Z<|yA Z<|yU<|yP Z<|yP Z ?_;refine yP Z<|yn Z<|aK zI ?_);refine⟨_,_,aU,?_⟩)
 ((refine b9 Z Z<|bq<|yq Z<|aA zI<|bd<|bq<|yP Z<|yP Z<|yA Z<|yA Z<|yT<|au<|yS<|yP Z ?_;refine yP Z<|yT<|az Z ?_);refine aa (fun h=>?_) (fun h=>?_) <;> try simp only[zB] at h)
 ·(refine yS<|yP Z<|yA Z<|yA Z<|yT<|bP<|aX<|bQ zi ?_;refine And.intro ?_ trivial)
  rw[hF,if_neg g]
 exact absurd (by simpa using h) g
theorem CA (r:bR) (hr:ic r) (a:Wt) (ha:oh a) (nets:List ByteArray) (hn:sD nets) (net:ByteArray) (IM:jv net) (layer:Int) (more:List aB):aD C 17 [.pv (.ag (rl r)),.pv (.ag (kG a)),.pv (strs nets),.pv (str net),.pv (i64 layer),.pv (aV more)] (.tu [bool (sr r a nets net layer more).1,i64 (sr r a nets net layer more).2]) []:=by
 have P2:=tE r hr a ha nets hn net IM layer
 by_cases g:oy r a nets net layer=0
 ·rw[sr,if_pos g]
  rw[EB,if_pos g,g] at P2
  obtain⟨ok,_⟩:=BV g
  have Nr:=DF r ok.rules a ok.board nets ok.len net layer
  have rg:=(oW ok.rules ok.board nets net layer).1
  have VA:=pM (gx r a nets net layer) rg.sok (rg.ink.up (by omega))
  have Z_:=rg.sok
  have aaa:=rg.ink
  generalize gx r a nets net layer=RS at *
  refine aT hC Tryz.func17 rfl rfl 66 rfl (by decide) (by kernel_rfl) fun _ _ _ _ _=>?_
  ((refine yS<|yn Z<|aA zI<|aS<|ak<|yn Z<|aA zI<|aS<|ak<|yA Z<|yA Z<|yU<|yP Z<|yP Z ?_;refine yP Z<|yP Z<|yP Z<|yn Z<|aK zI ?_);refine⟨_,_,P2,?_⟩)
  ((refine b9 Z Z<|bq<|yq Z<|aA zI<|bd<|bq<|yP Z<|yP Z<|yA Z<|yA Z<|yT<|au<|yS<|yP Z ?_;refine yP Z<|yT<|az Z<|cM<|aJ<|aj<|yS<|yP Z<|yP Z<|yP Z<|yP Z<|yP Z<|yn Z<|aK zI ?_);refine⟨_,_,Nr,?_⟩)
  (refine b9 Z Z<|ae<|yA Z<|yT<|au<|yS<|yP Z<|yn Z<|aK zI ?_;refine⟨_,_,VA,?_⟩)
  by_cases g1:(lY RS).2=0
  ·rw[if_pos g1]
   ((refine b9 Z Z<|bq<|yq Z<|aA zI<|bd<|bq<|yP Z<|yP Z<|yA Z<|yA Z<|yU<|yP Z<|yP Z<|yT ?_;refine az Z ?_);refine aa (fun h=>?_) (fun h=>?_) <;> try simp only[zB] at h)
   ·exact absurd (show (lY RS).2=0 from g1) (by simpa using h)
   (refine aJ<|aj<|au<|yS<|yP Z<|yn Z<|aK zI ?_;refine⟨_,_,(dt more),?_⟩)
   by_cases g2:Reg.aH more=0
   ·rw[if_pos g2]
    (refine b9 Z Z<|ae<|yA Z<|yU<|yP Z<|yP Z<|yT<|az Z ?_;refine aa (fun h2=>?_) (fun h2=>?_) <;> try simp only[zB] at h2)
    ·exact absurd g2 (by simpa using h2)
    obtain⟨ms,mk⟩:=kS g2
    obtain⟨w0,w1⟩:=Yi ok.rules net
    have p6:=YI (a_ more) RS ms Z_ (mk.up (by omega)) (aaa.up (by omega))
    (refine aJ<|aj<|yS<|yP Z<|yn Z<|aK zI ?_;refine⟨_,_,(vI (mQ g2)),?_⟩)
    (refine b9 Z Z<|ae<|yA Z<|yU<|yP Z<|yP Z<|yn Z<|aK zI ?_;refine⟨_,_,p6,?_⟩)
    (refine b9 Z Z<|ae<|yP Z<|yg Z ?_;refine aa (fun h3=>?_) (fun h3=>?_) <;> try simp only[zB] at h3)
    ·have h3:cv (a_ more) RS=[]:=by simpa using h3
     (refine bS<|bA Z Z<|aA zI<|yk<|y1 Z<|y1 Z<|y2 Z<|jB Z Z Z<|aK zI ?_;refine⟨_,_,(Ye r ok.rules net),?_⟩)
     (refine b9 Z Z<|ae<|y2 Z<|jB Z Z Z<|aK zI ?_;refine⟨_,_,(XL (a_ more) ms mk (WA r net) w0 w1),?_⟩)
     (refine b9 Z Z<|ae<|y1 Z<|y1 Z<|yP Z<|yA Z<|yA Z<|yR zi ?_;refine And.intro ?_ trivial)
     rw[len_nil,decide_eq_true h3,Bool.true_and]
     rfl
    have h3:¬cv (a_ more) RS=[]:=by simpa using h3
    (refine cB<|ae<|y0 Z<|y0 Z<|y0 Z<|y0 Z<|y0 Z<|y0 Z<|yP Z<|yA Z<|yA Z<|yR zi ?_;refine And.intro ?_ trivial)
    rw[decide_eq_false h3,Bool.false_and]
    rfl
   rw[if_neg g2]
   (refine b9 Z Z<|ae<|yA Z<|yU<|yP Z<|yP Z<|yT<|az Z ?_;refine aa (fun h2=>?_) (fun h2=>?_) <;> try simp only[zB] at h2)
   ·(refine yS<|yP Z<|yA Z<|yA Z<|yT<|bP<|aX<|bQ zi ?_;refine And.intro ?_ trivial)
    rfl
   exact absurd (by simpa using h2) g2
  rw[if_neg g1]
  ((refine b9 Z Z<|bq<|yq Z<|aA zI<|bd<|bq<|yP Z<|yP Z<|yA Z<|yA Z<|yU<|yP Z<|yP Z<|yT ?_;refine az Z ?_);refine aa (fun h=>?_) (fun h=>?_) <;> try simp only[zB] at h)
  ·(refine yS<|yP Z<|yA Z<|yA Z<|yT<|bP<|aX<|bQ zi ?_;refine And.intro ?_ trivial)
   rfl
  exact absurd (by simpa using h) g1
 rw[sr,if_neg g]
 rw[EB,if_neg g] at P2
 refine aT hC Tryz.func17 rfl rfl 66 rfl (by decide) (by kernel_rfl) fun _ _ _ _ _=>?_
 ((refine yS<|yn Z<|aA zI<|aS<|ak<|yn Z<|aA zI<|aS<|ak<|yA Z<|yA Z<|yU<|yP Z<|yP Z ?_;refine yP Z<|yP Z<|yP Z<|yn Z<|aK zI ?_);refine⟨_,_,P2,?_⟩)
 ((refine b9 Z Z<|bq<|yq Z<|aA zI<|bd<|bq<|yP Z<|yP Z<|yA Z<|yA Z<|yT<|au<|yS<|yP Z ?_;refine yP Z<|yT<|az Z ?_);refine aa (fun h=>?_) (fun h=>?_) <;> try simp only[zB] at h)
 ·(refine yS<|yP Z<|yA Z<|yA Z<|yT<|bP<|aX<|bQ zi ?_;refine And.intro ?_ trivial)
  rfl
 exact absurd (by simpa using h) g
open Reg (dc through B0 l5 Xg ru jm bX coreS at' gB ba dR jq cI cE)
theorem zJ {a:Wt} {p:Piece} (h:Lp a p):Reg.aH (told p.set)=0:=Reg.jc h.sok h.ink h.few
theorem IN {a:Wt} (h:cC a=0) {i:Nat} {p:Piece} (hp:(aw a).pieces[i]?=some p):sA a i=(told p.set,0):=by
 have hl:=(List.getElem?_eq_some_iff.1 hp).1
 have hw:Reg.within (i:Int) 0 (((aw a).pieces.length:Int) - 1)=true:=by
  simp only[Reg.within,Bool.and_eq_true,decide_eq_true_eq]
  omega
 rw[sA,if_pos h,if_pos hw,Int.toNat_natCast,List.getD_eq_getElem?_getD,hp]
 rfl
theorem vY (bs:List eX) (n g:Nat):∀(l:List Nat) (s:(List Int×List Int)×List Int×List Int),(l.foldl (Reg.iA bs n g) s).2.1.length<=s.2.1.length+l.length
 | [],s=>Nat.le_refl _
 | i::l,s=>by
  have h1:=vY bs n g l (Reg.iA bs n g s i)
  have h2:(Reg.iA bs n g s i).2.1.length<=s.2.1.length+1:=by
   unfold Reg.iA
   split
   ·simp
   split <;> simp
  rw[List.foldl_cons,List.length_cons]
  omega
theorem xR (bs:List eX) (n M:Nat):∀(L:List (List Nat)) (s:(List Int×List Int)×List dc),(∀l∈L,l.length<=M)->(∀g∈s.2,g.pieces.length<=M)->∀g∈(L.foldl (Reg.wQ bs n) s).2,g.pieces.length<=M
 | [],s,_,h=>h
 | l::L,s,hl,h=>by
  rw[List.foldl_cons]
  refine xR bs n M L _ (fun m hm=>hl m (List.mem_cons_of_mem _ hm)) fun g hg=>?_
  simp only[Reg.wQ] at hg
  split at hg
  ·rcases List.mem_append.1 hg with hg | hg
   ·exact h g hg
   rw[List.mem_singleton] at hg
   subst hg
   have h1:=vY bs n s.2.length l (s.1,[],[])
   have h2:=hl l List.mem_cons_self
   simp only[List.length_nil] at h1 ⊢
   omega
  exact h g hg
theorem pA (bs:List eX) (ps:List Piece) (o:List Int×List Int):∀(l:List Reg.jn) (s:Reg.mX),(l.foldl (Reg.nt bs ps o) s).groups.map (·.pieces)=s.groups.map (·.pieces)
 | [],s=>rfl
 | x::l,s=>by
  rw[List.foldl_cons,pA bs ps o l]
  simp only[Reg.nt]
  split
  ·generalize (if (Reg.oZ bs ps x).1.bore=true then o.2 else o.1).getD (Reg.oZ bs ps x).1.num.toNat 0=v
   refine List.ext_getElem? fun i=>?_
   rw[List.getElem?_map,List.getElem?_map]
   by_cases e:i=v.toNat
   ·subst e
    by_cases hl:v.toNat < s.groups.length
    ·rw[List.getElem?_set_self hl,List.getElem?_eq_getElem hl,List.getD_eq_getElem?_getD,List.getElem?_eq_getElem hl]
     rfl
    rw[List.getElem?_eq_none (by rw[List.length_set];omega),List.getElem?_eq_none (by omega)]
   rw[List.getElem?_set_ne (fun h=>e h.symm)]
  rfl
theorem BW {a:Wt} (gd:vG a) {k:Nat} {g:dc} (hk:(aw a).placed.groups[k]?=some g):g.pieces.length<=2500/\∀(j:Nat) (x:Int),g.pieces[j]?=some x->∃(i:Nat) (p:Piece),x=i/\(aw a).pieces[i]?=some p/\(aw a).ofPiece.getD i 0=(k:Int):=by
 have e:=pA a.bores (aw a).pieces ((aw a).ofPiece,(aw a).ofBore) a.lands ⟨(gB a.bores (aw a).pieces.length (ba (dR (jq (aw a).pieces.length a.bores.length (aw a).cI)) ((aw a).pieces.length+a.bores.length))).2,[],[]⟩
 have e:(aw a).placed.groups.map (·.pieces)=(gB a.bores (aw a).pieces.length (ba (dR (jq (aw a).pieces.length a.bores.length (aw a).cI)) ((aw a).pieces.length+a.bores.length))).2.map (·.pieces):=e
 obtain⟨F,hF⟩:∃F,F=(gB a.bores (aw a).pieces.length (ba (dR (jq (aw a).pieces.length a.bores.length (aw a).cI)) ((aw a).pieces.length+a.bores.length))).2:=⟨_,rfl⟩
 have gr:=gd.gr
 rw[<-hF] at e gr
 have e1:=congrArg (·[k]?) e
 simp only[List.getElem?_map,hk,Option.map_some] at e1
 cases hg:F[k]? with
 | none=>rw[hg] at e1;cases e1
 | some g0=>
  rw[hg] at e1
  have e2:g.pieces=g0.pieces:=Option.some.inj e1
  have hs:=xR a.bores (aw a).pieces.length 2500 (ba (dR (jq (aw a).pieces.length a.bores.length (aw a).cI)) ((aw a).pieces.length+a.bores.length)) ((List.replicate (aw a).pieces.length 0,List.replicate a.bores.length 0),[]) (fun l hl=>by
   obtain⟨r,_,rfl⟩:=List.mem_map.1 hl
   have:=Reg.l7 (dR (jq (aw a).pieces.length a.bores.length (aw a).cI)) ((aw a).pieces.length+a.bores.length) r
   have:=gd.few
   have:=gd.art.few
   omega) (fun g h=>by cases h) g0 (by rw[hF] at hg;exact List.mem_of_getElem? hg)
  refine⟨by rw[e2];exact hs,fun j x hx=>?_⟩
  rw[e2] at hx
  obtain⟨i,i1,i2,i3⟩:=(gr.c k g0 hg).2 x (List.mem_of_getElem? hx)
  have i3:(aw a).ofPiece[i]?=some (k:Int):=i3
  exact⟨i,(aw a).pieces[i],i1,List.getElem?_eq_getElem i2,by rw[List.getD_eq_getElem?_getD,i3];rfl⟩
theorem Z3 {a b:aB} (ha:Reg.Full a) (hb:Reg.Full b) {n:Int} (h:B0 a b<=n):∃x y u v,Reg.iN x y a=true/\Reg.iN u v b=true/\x - n<=u/\u<=x+n/\y - n<=v/\v<=y+n:=by
 obtain⟨a1,a2⟩:=ha
 obtain⟨b1,b2⟩:=hb
 simp only[B0,Reg.oQ] at h
 refine⟨max a.x0 (min (a.x1 - 1) b.x0),max a.y0 (min (a.y1 - 1) b.y0),max b.x0 (min (b.x1 - 1) a.x0),max b.y0 (min (b.y1 - 1) a.y0),Reg.cz.2 ⟨?_,?_,?_,?_⟩,Reg.cz.2 ⟨?_,?_,?_,?_⟩,?_,?_,?_,?_⟩ <;> omega
theorem Z4 {r:bR} {a:Wt} {nets:List ByteArray} (ok:sE r a nets) (hA:r.areas=[]) (net:ByteArray) (layer:Int) {more:List aB} (hm:Reg.aH more=0) (b8:more≠[]) (p6:cv (a_ more) (gx r a nets net layer)=[]) {i k:Nat} {p:Piece} (hp:(aw a).pieces[i]?=some p) (hk:(aw a).ofPiece.getD i 0=(k:Int)) (hl:p.layer=layer) {s:ByteArray} (hs:nets[k]?=some s) (hns:s≠net):
  (Xg [more,told p.set] (WN r net s layer 0 0)).2=2\/Xg [more,told p.set] (WN r net s layer 0 0)=([],0):=by
 obtain⟨g1,_,_,g4⟩:=oW ok.rules ok.board nets net layer
 have gp:=ok.board.pc p (List.mem_of_getElem? hp)
 have e:er nets ((aw a).ofPiece.getD i 0)=s:=by rw[hk,er,Int.toNat_natCast,List.getD_eq_getElem?_getD,hs];rfl
 have off:=g4 hA i p hp hl (by rw[e];exact hns)
 rw[e] at off
 obtain⟨n0,n1⟩:=vS ok.rules net s (z:=-1) (.inl rfl)
 have en:WN r net s layer 0 0=fE r net s (-1):=by
  have e0:WQ layer 0 0 r.areas (-1)=-1:=by rw[hA];rfl
  rw[WN,e0,fE,if_pos (show (-1:Int) < 0 by decide),if_neg (by decide)]
 rw[en]
 generalize fE r net s (-1)=n at *
 obtain⟨ms,mk⟩:=kS hm
 have mo:=mQ hm
 have sub:=Reg.R0 ms g1.sok p6
 have mb:=(Reg.eA mo.full).2.1
 have fp:=Reg.dK gp.sok
 have aab:∀x∈more,∀y∈told p.set,n+1<=B0 x y:=fun x hx y hy=>by
  refine Classical.byContradiction fun hn=>?_
  obtain⟨c,d,u,v,q1,q2,q3,q4,q5,q6⟩:=Z3 (mo.full x hx) (fp y hy) (n:=n) (by omega)
  have h1:=sub c d (by rw[mb,List.any_eq_true];exact⟨x,hx,q1⟩)
  have h2:=off c d h1
  have h3:at' p.set u v=true:=by rw[<-Reg.lV gp.sok,List.any_eq_true];exact⟨y,hy,q2⟩
  have h4:at' (bX p.set n n n n) c d=true:=by
   rw[(Reg.ff gp.sok n0 n0 n0 n0).2.1]
   exact⟨u,v,h3,by omega,by omega,by omega,by omega⟩
  rw[h2] at h4
  cases h4
 have PQ:told p.set≠[]:=fun e=>gp.ne (Reg.Xr gp.sok e)
 obtain⟨_,_,_,m4⟩:=Reg.X3 (K:=1000000) (by omega) (fun r hr=>Reg.Lj (mo.full r hr) (mo.rk r hr)) (fun r hr=>Reg.Lj (fp r hr) (Reg.kN gp.sok gp.ink r hr))
 obtain⟨x,hx,y,hy,ex⟩:=m4 b8 PQ
 have hd:n<=(l5 more (told p.set)).dist:=by
  have:=aab x hx y hy
  show n<=Reg.Xl more (told p.set) - 1
  omega
 rw[Xg]
 split
 ·exact .inl rfl
 right
 have c1:=zJ gp
 rw[if_neg (by simp[Reg.WX,hm,c1]),if_pos (by simp[n0,n1])]
 have ep:Reg.WL [more,told p.set].length 0=[(0,1)]:=rfl
 rw[ep]
 simp only[Reg.YK,List.getD_cons_zero,List.getD_cons_succ]
 rw[if_neg (by
  have:=List.length_pos_iff.2 b8
  have:=List.length_pos_iff.2 PQ
  omega),if_neg (by omega),if_neg (by omega)]
def Pd (p:Piece):List PV:=[i64 p.layer,i64 (ri p.set).1,i64 (ri p.set).2,i64 (zq 0 (told p.set))]
def rm (a:Wt):List Piece×Int:=if cC a=0 then ((aw a).pieces,0) else ([],cC a)
theorem BY (s:List ax) (hs:Reg.ct s) (hn:s≠[]):aD C 26 [.pv (aG s)] (.p (.ag [i64 (ri s).1,i64 (ri s).2])) []:=by
 match s,hs,hn with
 | b::s,hs,_=>
  have hb:=hs.mem b List.mem_cons_self
  match hx:b.xs with
  | []=>exact absurd hx hb.ne
  | p::u=>
   have:=Ba b s p u hx
   rw[ri,hx]
   exact this
theorem wU (a:Wt) (ho:oh a):aD C 11 [.pv (.ag (kG a))] (.tu [.sl ((rm a).1.map Pd),i64 (rm a).2]) []:=by
 have lp:=aN (aw a).pieces gw
 refine aT hC Tryz.func11 rfl rfl 40 rfl (by decide) (by kernel_rfl) fun _ _ _ _ _=>?_
 have aU:=kQ a ho
 by_cases g:cC a=0
 ·rw[rm,if_pos g]
  rw[pz,if_pos g,g] at aU
  have gd:=sC g
  have tD:=gd.few
  (refine yS<|yn Z<|aA zI<|aS<|ak<|yB Z<|yA Z<|yU<|yP Z<|yn Z<|aK zI ?_;refine⟨_,_,aU,?_⟩)
  (refine b9 Z Z<|bq<|yq Z<|aA zI<|bd<|bq<|yP Z<|yP Z<|yA Z<|yA Z<|yT<|au<|yS<|yP Z ?_;refine yP Z<|yT<|az Z<|cM<|aJ<|aj<|yS<|yB Z<|yT<|au<|yS<|yP Z<|yP Z<|yP Z ?_;refine yP Z<|yP Z<|yP Z<|yT<|aZ ?_)
  refine aI (fun i:Nat=>i<=(aw a).pieces.length) (fun i=>[(6,.ow 6),(20,.p (.sl ((aw a).pieces.map gw))),(21,.p (i64 (aw a).pieces.length)),(22,.p (i64 i))]) (fun i=>[(6,.row 51 (((aw a).pieces.take i).map Pd))]) (fun i=>(aw a).pieces.length - i) 0 _ (aW.fa (by exact hC) _ 6 51 _ (by decide) (by exact rfl) (by exact rfl) (by decide)) (Nat.zero_le _) ⟨rfl,rfl,congrArg (fun m:Nat=>AV.p (i64 m)) lp,Z,Y⟩ ⟨Z,Y⟩ fun i hi t h=>?_
  (refine yS<|yP Z<|yT<|au<|az Z ?_;refine aa (fun g2=>?_) (fun g2=>?_) <;> try simp only[zB] at g2)
  ·obtain⟨p,hp⟩:=bh (l:=(aw a).pieces) (i:=i) (by omega)
   have gp:=gd.pc p (List.mem_of_getElem? hp)
   have gf:=gp.few
   have I3:=BY p.set gp.sok gp.ne
   have VB:=zr (told p.set) (fun r hr=>⟨Reg.dK gp.sok r hr,Reg.Lj (Reg.dK gp.sok r hr) (Reg.kN gp.sok gp.ink r hr)⟩) (by omega)
   refine aJ<|aj<|au<|aZ ?_
   refine fB ?_
   (refine aM<|yq Z<|aK zI ?_;refine⟨(gw p),(idx rfl hp),?_⟩)
   refine yk<|yP Z<|yn Z<|aA zI<|aS<|ak<|yq Z<|aA zI<|bd<|aF<|an<|yT<|ai ?_
   refine I2 8 (y:=.ip (gw p)) (fz:=[(8,.iP (gw p))]) (by exact hC) (by exact⟨rfl,rfl⟩) ?_
   ((refine cH [] true yz rfl (by kernel_rfl)<|ay Z<|ay Z<|ay Z<|ay Z<|ay Z<|cA Z Z<|ay Z<|ay Z<|cA Z Z<|ay Z<|cA Z Z<|cA Z Z<|cG Z ?_;refine dq Z<|aA zI<|bB<|af<|yD Z<|yD Z<|yD Z<|yD Z<|dq Z<|aK zI ?_);refine⟨_,_,I3,?_⟩)
   (refine bB<|ae<|yD Z<|yD Z<|dq Z<|aK zI ?_;refine⟨_,_,VB,?_⟩)
   (refine bB<|ae<|yD Z<|dq Z<|aA zI<|jA Z Z<|af<|dq Z<|bg zI ?_;refine And.intro ⟨fun r hr=>by simp at hr;subst hr;rfl,by simp only[List.length_map,List.length_set,List.length_replicate,List.length_take];omega,by simp only[List.length_map,List.length_set,List.length_replicate,List.length_take];omega⟩ ?_)
   ((refine hD Z Z Z<|fM<|g_<|af<|dq Z<|aA zI<|bB<|af<|cn<|aq Z<|aq Z<|aq Z<|aq Z<|aq Z ?_;refine aq Z<|aq Z<|aq Z<|aq Z<|aq Z<|aq Z<|aq Z<|Fp Z Z Z Z Z<|bz Z<|bp<|aj<|aM<|yq Z<|bg zI ?_);refine sI ?_)
   (refine yk<|yP Z<|yT<|ai ?_;refine⟨(i+1),_,aW.refl _ _,?_⟩)
   exact⟨by omega,by omega,⟨Z,Z,Z,Z,Y⟩,⟨by rw[cw hp,List.map_append];rfl,trivial⟩⟩
  (refine bT<|aY<|aY<|bU<|aj<|yS<|yq Z<|aA zI<|bd<|af<|cD Z<|cr Z Z Z Z Z<|yA Z<|yR zi ?_;refine And.intro ?_ trivial)
  rw[List.take_of_length_le (by omega)]
  rfl
 rw[rm,if_neg g]
 rw[pz,if_neg g] at aU
 (refine yS<|yn Z<|aA zI<|aS<|ak<|yB Z<|yA Z<|yU<|yP Z<|yn Z<|aK zI ?_;refine⟨_,_,aU,?_⟩)
 ((refine b9 Z Z<|bq<|yq Z<|aA zI<|bd<|bq<|yP Z<|yP Z<|yA Z<|yA Z<|yT<|au<|yS<|yP Z ?_;refine yP Z<|yT<|az Z ?_);refine aa (fun h=>?_) (fun h=>?_) <;> try simp only[zB] at h)
 ·(refine yS<|yP Z<|yB Z<|yA Z<|yT<|bP<|aX<|bQ zi ?_;refine And.intro ?_ trivial)
  rfl
 exact absurd (by simpa using h) g
structure Z7 (r:bR) (a:Wt) (nets:List ByteArray) (net:ByteArray) (layer:Int) (more:List aB):Prop where
 ok:sE r a nets
 reg:Reg.aH more=0
 sub:cv (a_ more) (gx r a nets net layer)=[]
 lo:0<=layer
 hi:layer<=15
 nets:nets.any (fun s=>!pJ s)=false
 net:pJ net=true
theorem Z5 {r:bR} {a:Wt} {nets:List ByteArray} {net:ByteArray} {layer:Int} {more:List aB} (g:(sr r a nets net layer more).2=0) (h1:(sr r a nets net layer more).1=true):Z7 r a nets net layer more:=by
 rw[sr] at g h1
 by_cases h:oy r a nets net layer=0
 ·rw[if_pos h] at g h1
  by_cases k:(lY (gx r a nets net layer)).2=0
  ·rw[if_pos k] at g h1
   by_cases m:Reg.aH more=0
   ·rw[if_pos m] at h1
    simp only[Bool.and_eq_true,decide_eq_true_eq] at h1
    obtain⟨ok,l0,l1⟩:=BV h
    have cop:=ok.board.art.cop
    have h':=h
    rw[oy] at h'
    split at h'
    ·rename_i q;exact absurd h' q
    rename_i q
    have q:kZ r a nets=0:=by simpa using q
    split at h'
    ·cases h'
    rename_i q2
    have hn:nets.any (fun s=>!pJ s)=false:=by
     rw[kZ,if_neg (by rw[ok.faults];decide),if_neg (by rw[ok.open'];decide),if_neg (by rw[ok.len];simp)] at q
     split at q
     ·cases q
     rename_i q3;simpa using q3
    refine⟨ok,m,h1.1,l0,by omega,hn,?_⟩
    cases e:pJ net with
    | true=>rfl
    | false=>exact absurd (.inr e) q2
   rw[if_neg m] at g;exact absurd g m
  rw[if_neg k] at g;exact absurd g k
 rw[if_neg h] at g;exact absurd g h
theorem FR {r:bR} {a:Wt} {nets:List ByteArray} {net:ByteArray} {layer:Int} {more:List aB} (g:(sr r a nets net layer more).2≠0):(sr r a nets net layer more).1=false:=by
 rw[sr] at g ⊢
 by_cases h:oy r a nets net layer=0
 ·rw[if_pos h] at g ⊢
  by_cases k:(lY (gx r a nets net layer)).2=0
  ·rw[if_pos k] at g ⊢
   by_cases m:Reg.aH more=0
   ·rw[if_pos m] at g;exact absurd rfl g
   rw[if_neg m]
  rw[if_neg k]
 rw[if_neg h]
theorem Z6 (r:bR) (hr:ic r) (a:Wt) (ha:oh a) (nets:List ByteArray) (hn:sD nets) (net:ByteArray) (IM:jv net) (layer:Int) (more:List aB):aD C 6 [.pv (.ag (rl r)),.pv (.ag (kG a)),.pv (strs nets),.pv (str net),.pv (i64 layer),.pv (aV more)] (.p (bool true)) []:=by
 have Z8:=CA r hr a ha nets hn net IM layer more
 have lar:=aN r.areas arr
 have lmo:=aN more rc
 by_cases g:(sr r a nets net layer more).2=0
 ·rw[g] at Z8
  by_cases g':(sr r a nets net layer more).1=true
  ·have fo:=Z5 g g'
   rw[g'] at Z8
   have ok:=fo.ok
   have TP:=wR a ha
   rw[rh,if_pos ok.open'] at TP
   have TQ:=wU a ha
   rw[rm,if_pos ok.open'] at TQ
   have GM:=fun k=>pZ a ha k (Nat.le_trans ok.board.few (by decide))
   have lg:=aN (aw a).placed.groups q_
   have Wa:=aN nets fun s=>[str s]
   have IZ:=ok.len
   have Wb:=hn.len
   have mo:=mQ fo.reg
   have aad:=mo.len
   refine aT hC Tryz.func6 rfl rfl 164 rfl (by decide) (by kernel_rfl) fun _ _ _ _ _=>?_
   ((refine yS<|yn Z<|aA zI<|aS<|ak<|yn Z<|aA zI<|aS<|ak<|yA Z<|yU<|yP Z<|yP Z<|yP Z ?_;refine yP Z<|yP Z<|yP Z<|yn Z<|aK zI ?_);refine⟨_,_,Z8,?_⟩)
   ((refine b9 Z Z<|bq<|yq Z<|aA zI<|bd<|bq<|yP Z<|yP Z<|yA Z<|yA Z<|yT<|au<|yS<|yP Z ?_;refine yP Z<|yP Z<|y1 Z<|y1 Z<|yP Z<|yP Z<|y2 Z<|bA Z Z<|aA zI<|bd<|ak<|y1 Z<|y1 Z<|y1 Z ?_;refine yP Z<|yP Z<|yg Z ?_);refine aa (fun q1=>?_) (fun q1=>?_) <;> try simp only[zB] at q1)
   ·((refine cB<|ae<|y0 Z<|y0 Z<|yP Z<|yT<|az Z<|fy<|yS<|yP Z<|yP Z<|yP Z<|y0 Z<|y0 Z ?_;refine yP Z<|yP Z<|y2 Z<|jB Z Z Z<|aK zI ?_);refine⟨_,_,xF,?_⟩)
    (refine b9 Z Z<|ae<|yP Z<|yA Z<|yT<|bP<|aX<|bQ zi ?_;refine And.intro ?_ trivial)
    rfl
   (refine bS<|bA Z Z<|aA zI<|yk<|y1 Z<|y1 Z<|yP Z<|yT<|az Z ?_;refine aa (fun q2=>?_) (fun q2=>?_) <;> try simp only[zB] at q2)
   ·(refine yS<|yP Z<|yP Z<|yP Z<|y0 Z<|y0 Z<|yP Z<|yP Z<|y2 Z<|jB Z Z Z<|aK zI ?_;refine⟨_,_,xF,?_⟩)
    (refine b9 Z Z<|ae<|yP Z<|yA Z<|yT<|bP<|aX<|bQ zi ?_;refine And.intro ?_ trivial)
    rfl
   have hA:r.areas=[]:=List.length_eq_zero_iff.1 (by omega)
   have b8:more≠[]:=fun e=>q2 (by rw[e];rfl)
   (refine aJ<|aj<|yS<|yP Z<|yn Z<|aK zI ?_;refine⟨_,_,TP,?_⟩)
   (refine b9 Z Z<|bq<|yq Z<|aA zI<|bd<|bq<|yP Z<|yP Z<|yA Z<|yA Z<|yU<|yP Z<|yn Z<|aK zI ?_;refine⟨_,_,TQ,?_⟩)
   (refine b9 Z Z<|bq<|yq Z<|aA zI<|bd<|bq<|yP Z<|yP Z<|yA Z<|yA Z<|yT<|au<|yS<|yP Z ?_;refine yP Z<|yP Z<|y1 Z<|y1 Z<|yP Z<|yT<|az Z<|cM<|aJ<|aj<|au<|yS<|yA Z<|yT ?_;refine aZ ?_)
   refine aI (fun k:Nat=>k<=(aw a).placed.groups.length) (fun k=>[(2,.p (strs nets)),(3,.p (str net)),(4,.p (i64 layer)),(5,.p (aV more)),(6,.bx 6 0),(7,.bx 7 0),(15,.p (.sl ((aw a).placed.groups.map q_))),(16,.p (.sl ((aw a).pieces.map Pd))),(18,.p (i64 k))]) (fun _=>[(6,.box [.p (i64 r.clearance),.p (i64 r.width),.p (i64 r.ring),.p (i64 r.edge),.p (i64 r.holeGap),.p (.sl (r.classes.map kl)),.p (.sl (r.areas.map arr))]),(7,.box [.p (.sl (a.coppers.map rr)),.p (aV a.outline),.p (.sl (a.bores.map bc)),.p (.sl (a.lands.map lc))])]) (fun k=>(aw a).placed.groups.length - k) 0 _ (aW.refl _ _) (Nat.zero_le _) ⟨Z,Z,Z,Z,Z,Z,Z,Z,Z,Y⟩ ⟨Z,Z,Y⟩ fun k hk t h=>?_
   (refine au<|yS<|yP Z<|yP Z<|yP Z<|yP Z<|yT<|az Z ?_;refine aa (fun g1=>?_) (fun g1=>?_) <;> try simp only[zB] at g1)
   ·rw[lg] at g1
    obtain⟨gp,P3⟩:=bh (l:=(aw a).placed.groups) (i:=k) (by omega)
    obtain⟨s,hs⟩:=bh (l:=nets) (i:=k) (by omega)
    obtain⟨Wc,VF⟩:=BW ok.board P3
    have VG:=aN gp.pieces fun n=>[i64 n]
    have hsn:pJ s=true:=by
     have:=List.any_eq_false.1 fo.nets s (List.mem_of_getElem? hs)
     simpa using this
    have LZ:=u3 r hr net s IM (hn.str s (List.mem_of_getElem? hs)) layer 0 0
    rw[sv,if_pos ok.faults,if_pos (by rw[fo.net,hsn];rfl),if_pos (by simp[Reg.lK,fo.lo,fo.hi])] at LZ
    refine aJ<|aj<|au<|aZ<|yS<|yA Z<|yT<|aZ ?_
    refine aI (fun j:Nat=>j<=gp.pieces.length) (fun j=>[(2,.p (strs nets)),(3,.p (str net)),(4,.p (i64 layer)),(5,.p (aV more)),(6,.bx 6 0),(7,.bx 7 0),(15,.p (.sl ((aw a).placed.groups.map q_))),(16,.p (.sl ((aw a).pieces.map Pd))),(18,.p (i64 k)),(19,.p (i64 j))]) (fun _=>[(6,.box [.p (i64 r.clearance),.p (i64 r.width),.p (i64 r.ring),.p (i64 r.edge),.p (i64 r.holeGap),.p (.sl (r.classes.map kl)),.p (.sl (r.areas.map arr))]),(7,.box [.p (.sl (a.coppers.map rr)),.p (aV a.outline),.p (.sl (a.bores.map bc)),.p (.sl (a.lands.map lc))])]) (fun j=>gp.pieces.length - j) 0 _ (aW.refl _ _) (Nat.zero_le _) ⟨Z,Z,Z,Z,Z,Z,Z,Z,Z,Z,Y⟩ ⟨Z,Z,Y⟩ fun j hj t h=>?_
    (refine au<|yS<|yP Z<|yP Z<|yP Z<|yq Z<|aK zI ?_;refine⟨(q_ gp),(idx rfl P3),?_⟩)
    (refine yk<|yP Z<|yP Z<|yP Z<|yP Z<|yP Z<|yg Z ?_;refine aa (fun g2=>?_) (fun g2=>?_) <;> try simp only[zB] at g2)
    ·rw[VG] at g2
     obtain⟨x,hx⟩:=bh (l:=gp.pieces) (i:=j) (by omega)
     obtain⟨i,p,rfl,hp,VH⟩:=VF j x hx
     (refine bS<|bA Z Z<|aA zI<|yk<|y1 Z<|y2 Z<|bA Z Z<|aK zI ?_;refine⟨[str s],(idx rfl hs),?_⟩)
     (refine yk<|y1 Z<|y1 Z<|y1 Z<|yP Z<|yT<|az Z ?_;refine aa (fun g3=>?_) (fun g3=>?_) <;> try simp only[zB] at g3)
     ·(refine aJ<|aj<|au<|aZ<|au<|yS<|yP Z<|yP Z<|yP Z<|yq Z<|aK zI ?_;refine⟨(q_ gp),(idx rfl P3),?_⟩)
      (refine yk<|yP Z<|yP Z<|yP Z<|yq Z<|aK zI ?_;refine⟨[i64 (i:Int)],(idx rfl hx),?_⟩)
      (refine yk<|yP Z<|yq Z<|aK zI ?_;refine⟨(Pd p),(idx rfl hp),?_⟩)
      (refine yk<|yP Z<|yP Z<|yP Z<|yP Z<|yT<|az Z ?_;refine aa (fun g4=>?_) (fun g4=>?_) <;> try simp only[zB] at g4)
      ·(refine bT<|aY<|bU<|aj<|aM<|yP Z<|yq Z<|bg zI ?_;refine sI ?_)
       (refine yk<|yA Z<|yT<|ai ?_;refine⟨(j+1),_,aW.refl _ _,?_⟩)
       exact⟨by omega,by omega,⟨Z,Z,Z,Z,Z,Z,Z,Z,Z,Z,Y⟩,⟨Z,Z,Y⟩⟩
      have Np:=GM (i:Int)
      rw[IN ok.open' hp] at Np
      have pf:=(ok.board.pc p (List.mem_of_getElem? hp)).few
      have YW:=XS [more,told p.set] (by simp) (fun r hr=>by
       rcases List.mem_cons.1 hr with rfl | hr
       ·omega
       rw[List.mem_singleton] at hr
       subst hr
       omega) (WN r net s layer 0 0)
      ((refine aJ<|aj<|au<|cH [] false RG rfl (by kernel_rfl)<|ay Z<|ay Z<|ay Z<|ay Z<|ay Z<|ay Z<|ay Z<|ay Z<|cA Z Z<|cG Z ?_;refine yD Z<|yD Z<|yD Z<|yD Z<|dq Z<|aK zI ?_);refine⟨[str s],(idx rfl hs),?_⟩)
      (refine bB<|ae<|yD Z<|yD Z<|yD Z<|dq Z<|aK zI ?_;refine⟨_,_,LZ,?_⟩)
      ((refine bB<|bq<|dq Z<|aA zI<|bB<|bq<|yD Z<|yD Z<|yD Z<|yD Z<|cn<|aq Z<|aq Z<|aq Z ?_;refine aq Z<|aq Z<|aq Z<|aq Z<|aq Z<|aq Z<|aq Z<|aq Z<|aq Z<|dW Z Z<|dW Z Z<|bz Z<|aj<|au ?_;refine cH [] false On rfl (by kernel_rfl)<|ay Z<|ay Z<|ay Z<|ay Z<|ay Z<|ay Z<|ay Z<|ay Z<|ay Z<|cA Z Z<|cG Z<|yD Z<|yD Z ?_;refine yD Z<|dq Z<|aK zI ?_);refine⟨(q_ gp),(idx rfl P3),?_⟩)
      (refine bB<|ae<|yD Z<|yD Z<|yD Z<|dq Z<|aK zI ?_;refine⟨[i64 (i:Int)],(idx rfl hx),?_⟩)
      (refine bB<|ae<|yD Z<|dq Z<|aK zI ?_;refine⟨_,_,Np,?_⟩)
      rcases Z4 ok hA net layer fo.reg b8 fo.sub hp VH (by simpa using g4) hs (by simpa using g3) with e | e
      ·rw[e] at YW
       ((refine bB<|bq<|dq Z<|aA zI<|bB<|bq<|yD Z<|yD Z<|yD Z<|yD Z<|cn<|aq Z<|aq Z<|aq Z ?_;refine aq Z<|aq Z<|aq Z<|aq Z<|aq Z<|aq Z<|aq Z<|aq Z<|aq Z<|aq Z<|dW Z Z<|dW Z Z<|bz Z<|aj ?_;refine au<|yS<|yP Z<|yP Z<|yP Z<|y1 Z<|y1 Z<|yP Z<|yT<|az Z<|cM<|aJ<|aj<|yS ?_;refine yP Z<|yP Z<|yn Z<|aA zI<|aS<|af<|yP Z<|yn Z<|aK zI ?_);refine⟨_,_,YW,?_⟩)
       ((refine b9 Z Z<|aF<|bq<|yq Z<|aA zI<|bd<|bq<|yP Z<|yP Z<|yA Z<|yA Z<|yT<|au<|yS ?_;refine yP Z<|yP Z<|yT<|az Z<|fy<|bT<|aY<|bU<|aj<|aM<|yP Z<|yq Z<|bg zI ?_);refine sI ?_)
       (refine yk<|yA Z<|yT<|ai ?_;refine⟨(j+1),_,aW.refl _ _,?_⟩)
       exact⟨by omega,by omega,⟨Z,Z,Z,Z,Z,Z,Z,Z,Z,Z,Y⟩,⟨Z,Z,Y⟩⟩
      rw[e] at YW
      ((refine bB<|bq<|dq Z<|aA zI<|bB<|bq<|yD Z<|yD Z<|yD Z<|yD Z<|cn<|aq Z<|aq Z<|aq Z ?_;refine aq Z<|aq Z<|aq Z<|aq Z<|aq Z<|aq Z<|aq Z<|aq Z<|aq Z<|aq Z<|dW Z Z<|dW Z Z<|bz Z<|aj ?_;refine au<|yS<|yP Z<|yP Z<|yP Z<|y1 Z<|y1 Z<|yP Z<|yT<|az Z<|cM<|aJ<|aj<|yS ?_;refine yP Z<|yP Z<|yn Z<|aA zI<|aS<|af<|yP Z<|yn Z<|aK zI ?_);refine⟨_,_,YW,?_⟩)
      ((refine b9 Z Z<|aF<|bq<|yq Z<|aA zI<|bd<|bq<|yP Z<|yP Z<|yA Z<|yA Z<|yT<|au<|yS ?_;refine yP Z<|yP Z<|yT<|az Z<|cM<|aJ<|aj<|yS<|yP Z<|yP Z<|yP Z<|y1 Z<|y1 Z<|y1 Z ?_;refine yP Z<|yT<|az Z<|cM<|aJ<|bp<|aj<|aM<|yP Z<|yq Z<|bg zI ?_);refine sI ?_)
      (refine yk<|yA Z<|yT<|ai ?_;refine⟨(j+1),_,aW.refl _ _,?_⟩)
      exact⟨by omega,by omega,⟨Z,Z,Z,Z,Z,Z,Z,Z,Z,Z,Y⟩,⟨Z,Z,Y⟩⟩
     (refine bT<|aY<|aY<|bU<|bp<|aj<|aM<|yP Z<|yq Z<|bg zI ?_;refine sI ?_)
     (refine yk<|yA Z<|yT<|ai ?_;refine⟨(k+1),_,aW.refl _ _,?_⟩)
     exact⟨by omega,by omega,⟨Z,Z,Z,Z,Z,Z,Z,Z,Z,Y⟩,⟨Z,Z,Y⟩⟩
    ((refine cB<|ae<|y0 Z<|y0 Z<|y0 Z<|y0 Z<|y0 Z<|yP Z<|yT<|az Z<|cM<|bT<|aY<|aY ?_;refine bU<|bp<|aj<|aM<|yP Z<|yq Z<|bg zI ?_);refine sI ?_)
    (refine yk<|yA Z<|yT<|ai ?_;refine⟨(k+1),_,aW.refl _ _,?_⟩)
    exact⟨by omega,by omega,⟨Z,Z,Z,Z,Z,Z,Z,Z,Z,Y⟩,⟨Z,Z,Y⟩⟩
   (refine bT<|aY<|aY<|bU<|aj<|yS<|yn Z<|aK zI ?_;refine⟨_,_,xF,?_⟩)
   (refine b9 Z Z<|ae<|yA Z<|yR zi ?_;refine And.intro ?_ trivial)
   rfl
  have g':(sr r a nets net layer more).1=false:=by simpa using g'
  rw[g'] at Z8
  refine aT hC Tryz.func6 rfl rfl 164 rfl (by decide) (by kernel_rfl) fun _ _ _ _ _=>?_
  ((refine yS<|yn Z<|aA zI<|aS<|ak<|yn Z<|aA zI<|aS<|ak<|yA Z<|yU<|yP Z<|yP Z<|yP Z ?_;refine yP Z<|yP Z<|yP Z<|yn Z<|aK zI ?_);refine⟨_,_,Z8,?_⟩)
  ((refine b9 Z Z<|bq<|yq Z<|aA zI<|bd<|bq<|yP Z<|yP Z<|yA Z<|yA Z<|yT<|au<|yS<|yP Z ?_;refine yP Z<|yP Z<|y1 Z<|y1 Z<|yP Z<|yP Z<|y0 Z<|y0 Z<|y0 Z<|y0 Z<|yP Z<|yP Z<|y0 Z<|y0 Z ?_;refine y0 Z<|yP Z<|yT<|az Z<|fy<|yS<|yP Z<|yP Z<|yP Z<|y0 Z<|y0 Z<|yP Z<|yP Z<|y2 Z ?_;refine jB Z Z Z<|aK zI ?_);refine⟨_,_,xF,?_⟩)
  (refine b9 Z Z<|ae<|yP Z<|yA Z<|yT<|bP<|aX<|bQ zi ?_;refine And.intro ?_ trivial)
  rfl
 have e:=FR g
 rw[e] at Z8
 refine aT hC Tryz.func6 rfl rfl 164 rfl (by decide) (by kernel_rfl) fun _ _ _ _ _=>?_
 ((refine yS<|yn Z<|aA zI<|aS<|ak<|yn Z<|aA zI<|aS<|ak<|yA Z<|yU<|yP Z<|yP Z<|yP Z ?_;refine yP Z<|yP Z<|yP Z<|yn Z<|aK zI ?_);refine⟨_,_,Z8,?_⟩)
 ((refine b9 Z Z<|bq<|yq Z<|aA zI<|bd<|bq<|yP Z<|yP Z<|yA Z<|yA Z<|yT<|au<|yS<|yP Z ?_;refine yP Z<|yP Z<|yg Z ?_);refine aa (fun h=>?_) (fun h=>?_) <;> try simp only[zB] at h)
 ·((refine cB<|ae<|y0 Z<|yP Z<|yP Z<|y0 Z<|y0 Z<|y0 Z<|y0 Z<|yP Z<|yP Z<|y0 Z<|y0 Z<|y0 Z ?_;refine yP Z<|yT<|az Z<|fy<|yS<|yP Z<|yP Z<|yP Z<|yg Z ?_);refine aa (fun h2=>?_) (fun h2=>?_) <;> try simp only[zB] at h2)
  ·exact absurd (by simpa using h2) g
  (refine bS<|bA Z Z<|aA zI<|yk<|y1 Z<|yP Z<|yP Z<|y2 Z<|jB Z Z Z<|aK zI ?_;refine⟨_,_,xF,?_⟩)
  (refine b9 Z Z<|ae<|yP Z<|yA Z<|yT<|bP<|aX<|bQ zi ?_;refine And.intro ?_ trivial)
  rfl
 exact absurd (by simpa using h) g
end M
end Go.Proofs.YtpbkimanfahbgaaGreatDoor
namespace Go.Proofs.YtpbkimanfahbgaaGreatDoor
open Go.ChangeShapes Go.WideShapes Go.ChangeAt Go.RowKit Go.AM
open Go.ChangeMaps (open_string shut_string)
open Go.Proofs.YtpbkimanfahbgaaGreatDoor.M
namespace rulesFitsKeepsApart
theorem vZ {P:Program} {f:FuncId} {fn:Func} {s:ChangeSpec} {c:OpenClaim} (MX:(laidOutB P)=true) (Ko:(mapsRowed P)=true) (MY:((c.inPlace == P.inPlace f))=true) (Pe:((c.unfollowed == P.unfollowed f))=true) (Pf:((c.recurses == P.recurses f))=true) (Kp:((c.named == P.varsNamed f))=true) (Pg:((c.plainKeys == P.plainKeys))=true) (Kq:(P.stopsHeard)=true) (Kr:(P.mayEnter)=true) (MZ:((c.lifted == P.liftsFinal))=true) (M0:((P.make == some c.make))=true)
  (h_rest:(c.wf (OpenSpec.ofChange s) && true && fn.params.all (P.readableRec ·) && namedTie P c.named s.vars && (c.stops == []) && (P.stops == []) && (c.knobs == []) && (P.stopKnobs == []) && true && (c.maps == (fn.params.toList++s.plain.varTypes P).any (P.mapsRec ·)) && (c.ifaces == (fn.params.toList++s.plain.varTypes P).any (P.ifacesRec ·)) && (c.mapsOut == P.mapsAmong fn.resultTypes.toList) && (c.loops == (fn.params.toList++s.plain.varTypes P).any (P.loopsFrom ·)) && (c.wideKeys == (fn.params.toList++s.plain.varTypes P++fn.resultTypes.toList).any (P.wideKeysFrom ·)) && s.vars.all (P.varReadable ·) && fn.resultTypes.all (fun t=>P.readableRec t && decide (t < P.types.size)) && (c.ifacesOut == fn.resultTypes.toList.any (P.ifacesRec ·)) && (c.loopsOut == fn.resultTypes.toList.any (P.loopsFrom ·)) && c.shortTexts.isNone && (c.kinds == (if c.domain.isEmpty then [] else fn.params.toList.map fun t=>match P.underlying t with | some (.int k)=>some k | _=>none)) && (c.pinned == c.pinnedBy) && (c.veiled == (fn.params.toList++s.plain.varTypes P++fn.resultTypes.toList).any (P.veiledRec ·)) && c.veiledFits P fn.params.toList (fn.params.toList++s.plain.varTypes P++fn.resultTypes.toList))=true):joinedFacts P f fn s c=true:=by
 simp only[Bool.and_eq_true] at h_rest
 simp only[joinedFacts,Bool.and_eq_true]
 simp only[MX,Ko,MY,Pe,Pf,Kp,Pg,Kq,Kr,MZ,M0,and_true]
 simp only[and_assoc,and_true] at h_rest ⊢
 exact h_rest
theorem M1 {W:World} (hL:laidMetH Tryz.prog Rows.rulesFitsKeepsApartUptoRow.laid W) (h:W.ShapedOpen Tryz.prog):M.Env (fun b=>b < W.heap.size) W:=by
 refine A3 (Go.Proofs.cell_of_shapedOpen_int (zero:=#[.int .i64 0]) (t:=3) h (of_decide_eq_true (by kernel_rfl)) (by kernel_rfl) rfl (by kernel_rfl) (by kernel_rfl) Tryz.underlying3) ?_
 rw[MakeChecks.laidMetH_plain _ _ _ (by kernel_rfl)] at hL
 exact Lib.tabIs_of_head (rest:=Rows.rulesFitsKeepsApartUptoRow.laid.drop 3) M.Mw (by kernel_rfl) Tryz.underlying248 Tryz.underlying224 (by kernel_rfl) (by kernel_rfl) (laidMet.tail (laidMet.tail hL))
theorem IS (H:Type) (enc:TypeId×Value->H) (W:World) (base:Nat) (args:Array Value) (ds gs:List (DataW H)) (before:List MemPlace)
  (hval:∀(j:Nat) t v,Tryz.f6.params[j]?=some t->args[j]?=some v->Value.okWide Tryz.prog W .any base t v)
  (hW:DataW.Whole enc Tryz.prog Tryz.f6.params.toList Rows.rulesFitsKeepsApartSpec.vars false W args.toList ds gs before) (hk:Rows.uptoSmall H (ds++gs)=true) (hE:M.Env (fun b=>b < W.heap.size) W):
  Calls Tryz.prog 6 args W fun e W'=>∃v,e=.returned v/\Rows.rulesFitsKeepsApartSpec.post enc Tryz.prog Tryz.f6 false true false false W args v W':=by
 have VI:=hW
 obtain⟨pp,q,VJ,hV,rfl,zK,IY⟩:=hW
 have hA:DataW.TrodAll enc Tryz.prog W 0 (fun _=>true) true Tryz.f6.params.toList args.toList ds pp:=VJ
 have again:=fun (W':World) (hb:Below W.heap.size W W')=>xw OI hb (by kernel_rfl) hA hA.lt
 rw[Tryz.params6] at hA hval
 obtain⟨v0,Wd,d0,We,p0,q0,hargs,rfl,Tz,h0,r0⟩:=trodAll_cons hA
 obtain⟨v1,Wf,d1,Wg,p1,q1,rfl,rfl,rfl,h1,r1⟩:=trodAll_cons r0
 obtain⟨v2,Wh,d2,Wi,p2,q2,rfl,rfl,rfl,h2,r2⟩:=trodAll_cons r1
 obtain⟨v3,Wj,d3,Wk,p3,q3,rfl,rfl,rfl,h3,r3⟩:=trodAll_cons r2
 obtain⟨v4,Wl,d4,Wm,p4,q4,rfl,rfl,rfl,h4,r4⟩:=trodAll_cons r3
 obtain⟨v5,vs5,d5,ds5,p5,q5,rfl,rfl,rfl,h5,r5⟩:=trodAll_cons r4
 obtain⟨rfl,rfl,rfl⟩:=trodAll_nil r5
 obtain rfl:args=#[v0,v1,v2,v3,v4,v5]:=by cases args;simp_all
 obtain⟨rfl,rfl⟩:=trodVars_none hV
 obtain⟨_,w0,r,rfl,z0⟩:=uR (S:=fun b=>b < W.heap.size) Tryz.underlying25 (H6 fun _ h=>h) (hval 0 25 v0 rfl rfl) h0
 have VK:ic r:=H7 (zb _ _ _ (zd hk (List.mem_append_left _ (by repeat (first | exact List.mem_cons_self .. | apply List.mem_cons_of_mem)))) z0)
 obtain⟨_,w1,a,rfl,z1⟩:=uR (S:=fun b=>b < W.heap.size) Tryz.underlying31 (MU fun _ h=>h) (hval 1 31 v1 rfl rfl) h1
 have VL:oh a:=MV (DA _ _ _ (zd hk (List.mem_append_left _ (by repeat (first | exact List.mem_cons_self .. | apply List.mem_cons_of_mem)))) z1)
 obtain⟨_,w2,nets,e2,z2⟩:=Fx (S:=fun b=>b < W.heap.size) Tryz.underlying32 (Ek fun _ h=>h) (hval 2 32 v2 rfl rfl) h2
 cases e2
 have M3:sD nets:=Km (zd hk (List.mem_append_left _ (by repeat (first | exact List.mem_cons_self .. | apply List.mem_cons_of_mem)))) z2
 obtain⟨net,rfl,rfl,rfl,w3⟩:=open_string Tryz.underlying9 (hval 3 9 v3 rfl rfl) h3
 have Ph:jv net:=zf (za hk (List.mem_append_left _ (by repeat (first | exact List.mem_cons_self .. | apply List.mem_cons_of_mem))))
 obtain⟨layer,rfl,rfl,rfl,w4⟩:=open_int Tryz.underlying3 (hval 4 3 v4 rfl rfl) h4
 obtain⟨_,w5,more,e5,-⟩:=Fx (S:=fun b=>b < W.heap.size) Tryz.underlying27 (uZ fun _ h=>h) (hval 5 27 v5 rfl rfl) h5
 cases e5
 refine (My (C:=C) (xs:=[.ag (rl r),.ag (kG a),strs nets,str net,i64 layer,aV more]) (y:=.bool true) (Z6 r VK a VL nets M3 net Ph layer more) hE (lQ (w0) (lQ (w1) (lQ (w2) (lQ (.im _) (lQ (.im _) (lQ (w5) HO))))))).mono fun e W' ⟨he,hb⟩=>?_
 subst he
 exact⟨_,rfl,wG (pa:=pp) (pv:=[]) VI (fun _ _ _=>trodAll_cons_mk (shut_bool Tryz.underlying4 _) trodAll_mk0) (fun sp h=>again W' hb sp (fun p hp=>h p (List.mem_append_left _ hp))) (fun _ _=>rfl) rfl
  hb (ok_one (by kernel_rfl) rfl (okWide_bool_mk Tryz.underlying4 _))⟩
theorem reads (os:Os) {H:Type} (enc:TypeId×Value->H):∃places,DataW.whole enc Tryz.prog ((World.laidAll Tryz.prog os Rows.rulesFitsKeepsApartUptoRow.laid).forCall (fun _ _=>0) ⟨#[],#[.agg #[.int .i64 0,.int .i64 0,.int .i64 0,.int .i64 0,.int .i64 0,.slice none 0 0,.slice none 0 0],.agg #[.slice none 0 0,.slice none 0 0,.slice none 0 0,.slice none 0 0],.slice none 0 0,.string ByteArray.empty,.int .i64 0,.slice none 0 0],[]⟩).memory Tryz.f6.params.toList Rows.rulesFitsKeepsApartSpec.vars false (#[.agg #[.int .i64 0,.int .i64 0,.int .i64 0,.int .i64 0,.int .i64 0,.slice none 0 0,.slice none 0 0],.agg #[.slice none 0 0,.slice none 0 0,.slice none 0 0,.slice none 0 0],.slice none 0 0,.string ByteArray.empty,.int .i64 0,.slice none 0 0]:Array Value).toList 8=some ([.agg [.lit (.int .i64 0),.lit (.int .i64 0),.lit (.int .i64 0),.lit (.int .i64 0),.lit (.int .i64 0),.nil,.nil],.agg [.nil,.nil,.nil,.nil],.nil,.lit (.string []),.lit (.int .i64 0),.nil],[],places):=
 ⟨[],by kernel_rfl⟩
theorem lifted (os:Os) (started:os.Started) (H:Type) (enc:TypeId×Value->H) (F:Stop.Interp):
  ReturnsInHanded {} Tryz.checked os 6 .any ((Rows.OpenSpec.upto Rows.rulesFitsKeepsApartSpec).preRow enc Tryz.prog Tryz.f6 Rows.rulesFitsKeepsApartUptoRow.domain false Rows.rulesFitsKeepsApartUptoRow.laid) (((Rows.OpenSpec.upto Rows.rulesFitsKeepsApartSpec).at F).post enc Tryz.prog Tryz.f6 false true false false):=by
 obtain⟨places,hx⟩:=reads os enc
 refine returnsInHanded_of_row (C:=Tryz.checked) (s:=Rows.OpenSpec.upto Rows.rulesFitsKeepsApartSpec) own started (by kernel_rfl) Tryz.func6
  (tB (enc:=enc) (C:=Tryz.checked) (World.laidAll Tryz.prog os Rows.rulesFitsKeepsApartUptoRow.laid) #[.agg #[.int .i64 0,.int .i64 0,.int .i64 0,.int .i64 0,.int .i64 0,.slice none 0 0,.slice none 0 0],.agg #[.slice none 0 0,.slice none 0 0,.slice none 0 0,.slice none 0 0],.slice none 0 0,.string ByteArray.empty,.int .i64 0,.slice none 0 0] (World.laidAll_os _ _ _) (World.shaped_of_ZipB (by kernel_rfl) (by kernel_rfl)) (by kernel_rfl)
   (OpenSpec.preRow_of_cond 8 hx (by kernel_rfl) (fun k hk=>by cases hk;kernel_rfl) (by kernel_rfl)
    (by rw[MakeChecks.laidMetH_plain _ _ _ (by kernel_rfl)];exact laidMet_laidAll _ (by kernel_rfl) (by kernel_rfl)))) ?_
 intro W base args ds gs before hval hW _ D0 _ hL hsh _
 exact IS H enc W base args ds gs before hval hW (D0 _ rfl) (M1 hL hsh)
theorem M4:laidOutB Tryz.prog=true:=by kernel_rfl
theorem Ks:mapsRowed Tryz.prog=true:=by kernel_rfl
theorem M5:(Rows.rulesFitsKeepsApartUptoRow.inPlace == Tryz.prog.inPlace 6)=true:=by kernel_rfl
theorem Pj:(Rows.rulesFitsKeepsApartUptoRow.unfollowed == Tryz.prog.unfollowed 6)=true:=by kernel_rfl
theorem Pk:(Rows.rulesFitsKeepsApartUptoRow.recurses == Tryz.prog.recurses 6)=true:=by kernel_rfl
theorem Kt:(Rows.rulesFitsKeepsApartUptoRow.named == Tryz.prog.varsNamed 6)=true:=by kernel_rfl
theorem Pm:(Rows.rulesFitsKeepsApartUptoRow.plainKeys == Tryz.prog.plainKeys)=true:=by kernel_rfl
theorem Ku:Tryz.prog.stopsHeard=true:=by kernel_rfl
theorem Kv:Tryz.prog.mayEnter=true:=by kernel_rfl
theorem M6:(Rows.rulesFitsKeepsApartUptoRow.lifted == Tryz.prog.liftsFinal)=true:=by kernel_rfl
theorem M7:(Tryz.prog.make == some Rows.rulesFitsKeepsApartUptoRow.make)=true:=by kernel_rfl
theorem M8:false=Rows.rulesFitsKeepsApartUptoRow.goesBy Tryz.prog:=by kernel_rfl
theorem Kw:false=Tryz.prog.looks []:=by kernel_rfl
theorem Su:Rows.rulesFitsKeepsApartUptoRow.wfByText (Rows.OpenSpec.upto Rows.rulesFitsKeepsApartSpec)=true:=by kernel_rfl
theorem ga:joinedFacts Tryz.prog 6 Tryz.f6 (Rows.OpenSpec.upto Rows.rulesFitsKeepsApartSpec).bare Rows.rulesFitsKeepsApartUptoRow=true:=
 vZ M4 Ks M5 Pj Pk Kt Pm Ku Kv M6 M7 (by kernel_rfl)
theorem IT:Rows.RulesFitsKeepsApartUptoSaid:=
 OpenClaim.holds_of_cond 6 Tryz.f6 rfl rfl rfl rfl rfl rfl rfl ⟨rfl,rfl,rfl,rfl,rfl⟩ rfl rfl rfl rfl rfl (by kernel_rfl) Tryz.func6 ga
  (of_decide_eq_true (by kernel_rfl)) (by unfold Func.isWrapper;first | (rw[if_pos (by decide +kernel)];kernel_rfl) | (rw[if_neg (by decide +kernel)];exact⟨rfl,rfl⟩))
  (fun os started H enc _ F=>by rw[OpenClaim.pre_eq_preRow];exact lifted os started H enc F)
theorem plain (f:FuncId) (fn:Func) (hf:Tryz.pinned.checked.prog.funcNamed Rows.rulesFitsKeepsApartUptoRow.func=some f) (QU:Tryz.pinned.checked.prog.funcs[f]?=some fn):
  false=Tryz.pinned.checked.prog.looks []/\∀(j:Nat) t,fn.params[j]?=some t->Tryz.pinned.checked.prog.wantsStandIn t=false:=by
 obtain rfl:f=6:=Option.some.inj ((show Tryz.prog.funcNamed Rows.rulesFitsKeepsApartUptoRow.func=some 6 by kernel_rfl).symm.trans hf) |>.symm
 obtain rfl:fn=Tryz.f6:=(Option.some.inj (Tryz.func6.symm.trans QU)).symm
 refine⟨Kw,fun j t ht=>?_⟩
 rw[Tryz.params6] at ht
 have hm:=Array.mem_of_getElem? ht
 have iB:((Tryz.f6.params.toList).all fun u=>!Tryz.prog.wantsStandIn u)=true:=by kernel_rfl
 exact (show Tryz.prog.wantsStandIn t=false by simpa using List.all_eq_true.1 iB t (by rw[Tryz.params6];simpa using hm))
theorem cardUpto:Rows.RulesFitsKeepsApartUptoCardSaid:=
 Claim7.holds_tied_plain_at .later [] _ _ _ _ IT (fun _ h=>by cases h) Su (fun _ h=>by cases h) rulesFitsKeepsApartUpto_row_tie rfl ⟨rfl,rfl⟩ (by kernel_rfl) rfl plain M8
end rulesFitsKeepsApart
end Go.Proofs.YtpbkimanfahbgaaGreatDoor
