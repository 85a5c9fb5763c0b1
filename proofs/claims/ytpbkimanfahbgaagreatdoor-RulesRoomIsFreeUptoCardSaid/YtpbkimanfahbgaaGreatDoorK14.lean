/- The room for a net lies within the outline, and meets no piece of another net, and no bore. Condition: what is read is of bulk at most 1048576; the listed variables are tied to the program's text by the card. -/
import Derived.Test.YtpbkimanfahbgaaGreatDoorK13
set_option linter.unusedVariables false
set_option linter.unusedSimpArgs false
set_option maxRecDepth 100000
set_option maxHeartbeats 8000000
namespace Go.Proofs.YtpbkimanfahbgaaGreatDoor
namespace M
open Go.AM Go.RowKit Go.Lib
open Reg (aB ax eX Wt Piece dc l9 ct cQ told a_ cx aQ through B0 aw cv)
theorem IP {r:bR} {a:Wt} {nets:List ByteArray} {net:ByteArray} {layer:Int} (g:(oz r a nets net layer).2=0):sE r a nets/\oz r a nets net layer=(told (gx r a nets net layer),0)/\(told (gx r a nets net layer)).length<=2000:=by
 rw[oz] at g ⊢
 by_cases h:oy r a nets net layer=0
 ·rw[if_pos h] at g ⊢
  obtain⟨e1,e2⟩:=Iq g
  exact⟨(BV h).1,by rw[<-e1,<-g],e2⟩
 rw[if_neg h] at g;exact absurd g h
theorem DJ {r:bR} {a:Wt} {nets:List ByteArray} {net:ByteArray} {layer:Int} (g:(oz r a nets net layer).2≠0):(oz r a nets net layer).1=[]:=by
 rw[oz] at g ⊢
 by_cases h:oy r a nets net layer=0
 ·rw[if_pos h] at g ⊢
  exact Dm g
 rw[if_neg h]
theorem IQ (r:bR) (hr:ic r) (a:Wt) (ha:oh a) (nets:List ByteArray) (hn:sD nets) (net:ByteArray) (IM:jv net) (layer:Int):aD C 3 [.pv (.ag (rl r)),.pv (.ag (kG a)),.pv (strs nets),.pv (str net),.pv (i64 layer)] (.p (bool true)) []:=by
 have Nr:=DG r hr a ha nets hn net IM layer
 by_cases g:(oz r a nets net layer).2=0
 ·obtain⟨ok,e,hlen⟩:=IP g
  rw[e] at Nr
  have J8:=A9 (told (gx r a nets net layer)) a.outline
  rw[BX ok net layer hlen] at J8
  have TP:=wR a ha
  rw[rh,if_pos ok.open'] at TP
  have TQ:=wU a ha
  rw[rm,if_pos ok.open'] at TQ
  have GM:=fun k=>pZ a ha k (Nat.le_trans ok.board.few (by decide))
  have Hh:=fun (i k:Nat) (p:Piece) (s:ByteArray)=>DI ok net layer hlen (i:=i) (k:=k) (p:=p) (s:=s)
  have Sl:=fun (b:eX)=>F9 ok net layer hlen (b:=b)
  have VC:=fun (p:Piece)=>vv (told p.set) (told (gx r a nets net layer))
  have VD:=fun (b:eX)=>vv [aQ b] (told (gx r a nets net layer))
  generalize told (gx r a nets net layer)=X at *
  have lg:=aN (aw a).placed.groups q_
  have lb:=aN a.bores bc
  have Wa:=aN nets fun s=>[str s]
  have few:=ok.board.art.few
  have IZ:=ok.len
  have Wb:=hn.len
  refine aT hC Tryz.func3 rfl rfl 201 rfl (by decide) (by kernel_rfl) fun _ _ _ _ _=>?_
  ((refine yS<|yn Z<|aA zI<|aS<|ak<|yn Z<|aA zI<|aS<|ak<|yA Z<|yU<|yP Z<|yP Z<|yP Z ?_;refine yP Z<|yP Z<|yn Z<|aK zI ?_);refine⟨_,_,Nr,?_⟩)
  ((refine b9 Z Z<|bq<|yq Z<|aA zI<|bd<|bq<|yP Z<|yP Z<|yA Z<|yA Z<|yT<|au<|yS<|yP Z ?_;refine yP Z<|yT<|az Z<|cM<|aJ<|aj<|yS<|yP Z<|yV Z<|yP Z<|yn Z<|aK zI ?_);refine⟨_,_,J8,?_⟩)
  (refine b9 Z Z<|bq<|yq Z<|aA zI<|bd<|bq<|yP Z<|yP Z<|yA Z<|yA Z<|yU<|yP Z<|yn Z<|aK zI ?_;refine⟨_,_,TP,?_⟩)
  (refine b9 Z Z<|bq<|yq Z<|aA zI<|bd<|bq<|yP Z<|yP Z<|yA Z<|yA Z<|yU<|yP Z<|yn Z<|aK zI ?_;refine⟨_,_,TQ,?_⟩)
  (refine b9 Z Z<|bq<|yq Z<|aA zI<|bd<|bq<|yP Z<|yP Z<|yA Z<|yA Z<|yT<|au<|yS<|yP Z ?_;refine yP Z<|yP Z<|y1 Z<|y1 Z<|y1 Z<|yP Z<|yP Z<|y1 Z<|y1 Z<|yP Z<|yP Z<|y1 Z<|y1 Z<|yP Z ?_;refine yT<|az Z<|cM<|aJ<|aj<|au<|yS<|yA Z<|yT<|aZ ?_)
  refine aI (fun k:Nat=>k<=(aw a).placed.groups.length) (fun k=>[(2,.p (strs nets)),(3,.p (str net)),(4,.p (i64 layer)),(6,.bx 6 0),(11,.p (aV X)),(14,.p (.sl ((aw a).placed.groups.map q_))),(16,.p (.sl ((aw a).pieces.map Pd))),(18,.p (i64 k))]) (fun _=>[(6,.box [.p (.sl (a.coppers.map rr)),.p (aV a.outline),.p (.sl (a.bores.map bc)),.p (.sl (a.lands.map lc))])]) (fun k=>(aw a).placed.groups.length - k) 0 _ (aW.refl _ _) (Nat.zero_le _) ⟨Z,Z,Z,Z,Z,Z,Z,Z,Y⟩ ⟨Z,Y⟩ fun k hk t h=>?_
  (refine au<|yS<|yP Z<|yP Z<|yP Z<|yP Z<|yT<|az Z ?_;refine aa (fun g1=>?_) (fun g1=>?_) <;> try simp only[zB] at g1)
  ·rw[lg] at g1
   obtain⟨gp,P3⟩:=bh (l:=(aw a).placed.groups) (i:=k) (by omega)
   obtain⟨s,hs⟩:=bh (l:=nets) (i:=k) (by omega)
   obtain⟨Wc,VF⟩:=BW ok.board P3
   have VG:=aN gp.pieces fun n=>[i64 n]
   refine aJ<|aj<|au<|aZ<|yS<|yA Z<|yT<|aZ ?_
   refine aI (fun j:Nat=>j<=gp.pieces.length) (fun j=>[(2,.p (strs nets)),(3,.p (str net)),(4,.p (i64 layer)),(6,.bx 6 0),(11,.p (aV X)),(14,.p (.sl ((aw a).placed.groups.map q_))),(16,.p (.sl ((aw a).pieces.map Pd))),(18,.p (i64 k)),(19,.p (i64 j))]) (fun _=>[(6,.box [.p (.sl (a.coppers.map rr)),.p (aV a.outline),.p (.sl (a.bores.map bc)),.p (.sl (a.lands.map lc))])]) (fun j=>gp.pieces.length - j) 0 _ (aW.refl _ _) (Nat.zero_le _) ⟨Z,Z,Z,Z,Z,Z,Z,Z,Z,Y⟩ ⟨Z,Y⟩ fun j hj t h=>?_
   (refine au<|yS<|yP Z<|yP Z<|yP Z<|yq Z<|aK zI ?_;refine⟨(q_ gp),(idx rfl P3),?_⟩)
   (refine yk<|yP Z<|yP Z<|yP Z<|yP Z<|yP Z<|yg Z ?_;refine aa (fun g2=>?_) (fun g2=>?_) <;> try simp only[zB] at g2)
   ·rw[VG] at g2
    obtain⟨x,hx⟩:=bh (l:=gp.pieces) (i:=j) (by omega)
    obtain⟨i,p,rfl,hp,VH⟩:=VF j x hx
    (refine bS<|bA Z Z<|aA zI<|yk<|y1 Z<|y2 Z<|bA Z Z<|aK zI ?_;refine⟨[str s],(idx rfl hs),?_⟩)
    (refine yk<|y1 Z<|y1 Z<|y1 Z<|yP Z<|yT<|az Z ?_;refine aa (fun g3=>?_) (fun g3=>?_) <;> try simp only[zB] at g3)
    ·(refine aJ<|aj<|au<|aZ<|au<|yS<|yP Z<|yP Z<|yP Z<|yq Z<|aK zI ?_;refine⟨(q_ gp),(idx rfl P3),?_⟩)
     (refine yk<|yP Z<|yP Z<|yP Z<|yq Z<|aK zI ?_;refine⟨[i64 (i:Int)],(idx rfl hx),?_⟩)
     (refine yk<|yP Z<|yq Z<|aK zI ?_;refine⟨(Pd p),(idx rfl hp),?_⟩)
     (refine yk<|yP Z<|yP Z<|yP Z<|yP Z<|yT<|az Z ?_;refine aa (fun g4=>?_) (fun g4=>?_) <;> try simp only[zB] at g4)
     ·(refine bT<|aY<|bU<|aj<|aM<|yP Z<|yq Z<|bg zI ?_;refine sI ?_)
      (refine yk<|yA Z<|yT<|ai ?_;refine⟨(j+1),_,aW.refl _ _,?_⟩)
      exact⟨by omega,by omega,⟨Z,Z,Z,Z,Z,Z,Z,Z,Z,Y⟩,⟨Z,Y⟩⟩
     have Np:=GM (i:Int)
     rw[IN ok.open' hp] at Np
     have tM:=VC p
     rw[Hh i k p s hp VH (by simpa using g4) hs (by simpa using g3)] at tM
     ((refine aJ<|aj<|au<|cH [] false On rfl (by kernel_rfl)<|ay Z<|ay Z<|ay Z<|ay Z<|ay Z<|ay Z<|ay Z<|ay Z<|ay Z<|cA Z Z ?_;refine cG Z<|yD Z<|yD Z<|yD Z<|dq Z<|aK zI ?_);refine⟨(q_ gp),(idx rfl P3),?_⟩)
     (refine bB<|ae<|yD Z<|yD Z<|yD Z<|dq Z<|aK zI ?_;refine⟨[i64 (i:Int)],(idx rfl hx),?_⟩)
     (refine bB<|ae<|yD Z<|dq Z<|aK zI ?_;refine⟨_,_,Np,?_⟩)
     ((refine bB<|bq<|dq Z<|aA zI<|bB<|bq<|yD Z<|yD Z<|yD Z<|yD Z<|cn<|aq Z<|aq Z<|aq Z ?_;refine aq Z<|aq Z<|aq Z<|aq Z<|aq Z<|aq Z<|aq Z<|aq Z<|aq Z<|aq Z<|dW Z Z<|dW Z Z<|bz Z<|aj ?_;refine yS<|yP Z<|yP Z<|yn Z<|aK zI ?_);refine⟨_,_,tM,?_⟩)
     ((refine b9 Z Z<|bq<|yq Z<|aA zI<|bd<|bq<|yP Z<|yP Z<|yA Z<|yA Z<|yU<|yP Z<|yP Z<|yP Z ?_;refine y1 Z<|y1 Z<|y1 Z<|y1 Z<|y1 Z<|y1 Z<|y1 Z<|yP Z<|yT<|az Z<|cM<|aJ<|bp<|aj ?_;refine aM<|yP Z<|yq Z<|bg zI ?_);refine sI ?_)
     (refine yk<|yA Z<|yT<|ai ?_;refine⟨(j+1),_,aW.refl _ _,?_⟩)
     exact⟨by omega,by omega,⟨Z,Z,Z,Z,Z,Z,Z,Z,Z,Y⟩,⟨Z,Y⟩⟩
    (refine bT<|aY<|aY<|bU<|bp<|aj<|aM<|yP Z<|yq Z<|bg zI ?_;refine sI ?_)
    (refine yk<|yA Z<|yT<|ai ?_;refine⟨(k+1),_,aW.refl _ _,?_⟩)
    exact⟨by omega,by omega,⟨Z,Z,Z,Z,Z,Z,Z,Z,Y⟩,⟨Z,Y⟩⟩
   ((refine cB<|ae<|y0 Z<|y0 Z<|y0 Z<|y0 Z<|y0 Z<|yP Z<|yT<|az Z<|cM<|bT<|aY<|aY ?_;refine bU<|bp<|aj<|aM<|yP Z<|yq Z<|bg zI ?_);refine sI ?_)
   (refine yk<|yA Z<|yT<|ai ?_;refine⟨(k+1),_,aW.refl _ _,?_⟩)
   exact⟨by omega,by omega,⟨Z,Z,Z,Z,Z,Z,Z,Z,Y⟩,⟨Z,Y⟩⟩
  refine bT<|aY<|aY<|bU<|aj<|au<|yS<|yA Z<|yT<|aZ ?_
  refine aI (fun k:Nat=>k<=a.bores.length) (fun k=>[(4,.p (i64 layer)),(6,.bx 6 0),(11,.p (aV X)),(24,.p (i64 k))]) (fun _=>[(6,.box [.p (.sl (a.coppers.map rr)),.p (aV a.outline),.p (.sl (a.bores.map bc)),.p (.sl (a.lands.map lc))])]) (fun k=>a.bores.length - k) 0 _ (aW.refl _ _) (Nat.zero_le _) ⟨Z,Z,Z,Z,Y⟩ ⟨Z,Y⟩ fun k hk t h=>?_
  (refine au<|yS<|yP Z<|yV Z<|yP Z<|yP Z<|yP Z<|yT<|az Z ?_;refine aa (fun g2=>?_) (fun g2=>?_) <;> try simp only[zB] at g2)
  ·rw[lb] at g2
   obtain⟨b,hb⟩:=bh (l:=a.bores) (i:=k) (by omega)
   have hbm:=List.mem_of_getElem? hb
   (refine aJ<|aj<|au<|aZ<|au<|yS<|yV Z<|yP Z<|yP Z<|yq Z<|aK zI ?_;refine⟨(bc b),(idx rfl hb),?_⟩)
   (refine yk<|yP Z<|yP Z<|yP Z<|yP Z<|yP Z<|yg Z ?_;refine aa (fun g3=>?_) (fun g3=>?_) <;> try simp only[zB] at g3)
   ·((refine cB<|ae<|y0 Z<|y0 Z<|y0 Z<|y0 Z<|y0 Z<|y0 Z<|y0 Z<|yP Z<|yT<|az Z<|fy<|bT ?_;refine aY<|bU<|aj<|aM<|yP Z<|yq Z<|bg zI ?_);refine sI ?_)
    (refine yk<|yA Z<|yT<|ai ?_;refine⟨(k+1),_,aW.refl _ _,?_⟩)
    exact⟨by omega,by omega,⟨Z,Z,Z,Z,Y⟩,⟨Z,Y⟩⟩
   (refine bS<|bA Z Z<|aA zI<|bd<|ak<|y1 Z<|y1 Z<|y2 Z<|bA Z Z<|aK zI ?_;refine⟨(bc b),(idx rfl hb),?_⟩)
   (refine yk<|y1 Z<|y1 Z<|y1 Z<|y1 Z<|yP Z<|yT<|az Z ?_;refine aa (fun g4=>?_) (fun g4=>?_) <;> try simp only[zB] at g4)
   ·(refine bT<|aY<|bU<|aj<|aM<|yP Z<|yq Z<|bg zI ?_;refine sI ?_)
    (refine yk<|yA Z<|yT<|ai ?_;refine⟨(k+1),_,aW.refl _ _,?_⟩)
    exact⟨by omega,by omega,⟨Z,Z,Z,Z,Y⟩,⟨Z,Y⟩⟩
   have Lo:=pk b
   rw[F8 (ok.board.art.bor b hbm).ok] at Lo
   have tM:=VD b
   rw[Sl b hbm (by simp only[through,Bool.and_eq_true,decide_eq_true_eq];omega)] at tM
   (refine aJ<|aj<|yS<|yV Z<|yP Z<|yP Z<|yq Z<|aK zI ?_;refine⟨(bc b),(idx rfl hb),?_⟩)
   (refine yk<|yP Z<|yn Z<|aK zI ?_;refine⟨_,_,Lo,?_⟩)
   ((refine b9 Z Z<|bq<|yq Z<|aA zI<|bd<|bq<|yP Z<|yP Z<|yn Z<|aA zI<|aS<|ak<|yq Z<|aA zI ?_;refine bd<|aF<|an<|yA Z<|yU<|yP Z<|yn Z<|aA zI<|aS<|af<|yP Z<|yn Z<|aK zI ?_);refine⟨_,_,tM,?_⟩)
   ((refine b9 Z Z<|aF<|bq<|yq Z<|aA zI<|bd<|bq<|yP Z<|yP Z<|yA Z<|yA Z<|yU<|yP Z<|yP Z ?_;refine yP Z<|y1 Z<|y1 Z<|yP Z<|yP Z<|y1 Z<|y1 Z<|y1 Z<|yP Z<|yT<|az Z<|cM<|aJ<|bp ?_;refine aj<|aM<|yP Z<|yq Z<|bg zI ?_);refine sI ?_)
   (refine yk<|yA Z<|yT<|ai ?_;refine⟨(k+1),_,aW.refl _ _,?_⟩)
   exact⟨by omega,by omega,⟨Z,Z,Z,Z,Y⟩,⟨Z,Y⟩⟩
  (refine bT<|aY<|aY<|bU<|aj<|yS<|yn Z<|aK zI ?_;refine⟨_,_,xF,?_⟩)
  (refine b9 Z Z<|ae<|yA Z<|yR zi ?_;refine And.intro ?_ trivial)
  rfl
 have e:=DJ g
 rw[e] at Nr
 refine aT hC Tryz.func3 rfl rfl 201 rfl (by decide) (by kernel_rfl) fun _ _ _ _ _=>?_
 ((refine yS<|yn Z<|aA zI<|aS<|ak<|yn Z<|aA zI<|aS<|ak<|yA Z<|yU<|yP Z<|yP Z<|yP Z ?_;refine yP Z<|yP Z<|yn Z<|aK zI ?_);refine⟨_,_,Nr,?_⟩)
 ((refine b9 Z Z<|bq<|yq Z<|aA zI<|bd<|bq<|yP Z<|yP Z<|yA Z<|yA Z<|yT<|au<|yS<|yP Z ?_;refine yP Z<|yT<|az Z ?_);refine aa (fun h=>?_) (fun h=>?_) <;> try simp only[zB] at h)
 ·(refine yS<|yP Z<|yP Z<|yP Z<|yP Z<|y2 Z<|jB Z Z Z<|aK zI ?_;refine⟨_,_,xF,?_⟩)
  (refine b9 Z Z<|ae<|yP Z<|yA Z<|yT<|bP<|aX<|bQ zi ?_;refine And.intro ?_ trivial)
  rfl
 exact absurd (by simpa using h) g
end M
end Go.Proofs.YtpbkimanfahbgaaGreatDoor
namespace Go.Proofs.YtpbkimanfahbgaaGreatDoor
open Go.ChangeShapes Go.WideShapes Go.ChangeAt Go.RowKit Go.AM
open Go.ChangeMaps (open_string shut_string)
open Go.Proofs.YtpbkimanfahbgaaGreatDoor.M
namespace rulesRoomIsFree
theorem vZ {P:Program} {f:FuncId} {fn:Func} {s:ChangeSpec} {c:OpenClaim} (MX:(laidOutB P)=true) (Ko:(mapsRowed P)=true) (MY:((c.inPlace == P.inPlace f))=true) (Pe:((c.unfollowed == P.unfollowed f))=true) (Pf:((c.recurses == P.recurses f))=true) (Kp:((c.named == P.varsNamed f))=true) (Pg:((c.plainKeys == P.plainKeys))=true) (Kq:(P.stopsHeard)=true) (Kr:(P.mayEnter)=true) (MZ:((c.lifted == P.liftsFinal))=true) (M0:((P.make == some c.make))=true)
  (h_rest:(c.wf (OpenSpec.ofChange s) && true && fn.params.all (P.readableRec ·) && namedTie P c.named s.vars && (c.stops == []) && (P.stops == []) && (c.knobs == []) && (P.stopKnobs == []) && true && (c.maps == (fn.params.toList++s.plain.varTypes P).any (P.mapsRec ·)) && (c.ifaces == (fn.params.toList++s.plain.varTypes P).any (P.ifacesRec ·)) && (c.mapsOut == P.mapsAmong fn.resultTypes.toList) && (c.loops == (fn.params.toList++s.plain.varTypes P).any (P.loopsFrom ·)) && (c.wideKeys == (fn.params.toList++s.plain.varTypes P++fn.resultTypes.toList).any (P.wideKeysFrom ·)) && s.vars.all (P.varReadable ·) && fn.resultTypes.all (fun t=>P.readableRec t && decide (t < P.types.size)) && (c.ifacesOut == fn.resultTypes.toList.any (P.ifacesRec ·)) && (c.loopsOut == fn.resultTypes.toList.any (P.loopsFrom ·)) && c.shortTexts.isNone && (c.kinds == (if c.domain.isEmpty then [] else fn.params.toList.map fun t=>match P.underlying t with | some (.int k)=>some k | _=>none)) && (c.pinned == c.pinnedBy) && (c.veiled == (fn.params.toList++s.plain.varTypes P++fn.resultTypes.toList).any (P.veiledRec ·)) && c.veiledFits P fn.params.toList (fn.params.toList++s.plain.varTypes P++fn.resultTypes.toList))=true):joinedFacts P f fn s c=true:=by
 simp only[Bool.and_eq_true] at h_rest
 simp only[joinedFacts,Bool.and_eq_true]
 simp only[MX,Ko,MY,Pe,Pf,Kp,Pg,Kq,Kr,MZ,M0,and_true]
 simp only[and_assoc,and_true] at h_rest ⊢
 exact h_rest
theorem M1 {W:World} (hL:laidMetH Tryz.prog Rows.rulesRoomIsFreeUptoRow.laid W) (h:W.ShapedOpen Tryz.prog):M.Env (fun b=>b < W.heap.size) W:=by
 refine A3 (Go.Proofs.cell_of_shapedOpen_int (zero:=#[.int .i64 0]) (t:=3) h (of_decide_eq_true (by kernel_rfl)) (by kernel_rfl) rfl (by kernel_rfl) (by kernel_rfl) Tryz.underlying3) ?_
 rw[MakeChecks.laidMetH_plain _ _ _ (by kernel_rfl)] at hL
 exact Lib.tabIs_of_head (rest:=Rows.rulesRoomIsFreeUptoRow.laid.drop 3) M.Mw (by kernel_rfl) Tryz.underlying248 Tryz.underlying224 (by kernel_rfl) (by kernel_rfl) (laidMet.tail (laidMet.tail hL))
theorem IS (H:Type) (enc:TypeId×Value->H) (W:World) (base:Nat) (args:Array Value) (ds gs:List (DataW H)) (before:List MemPlace)
  (hval:∀(j:Nat) t v,Tryz.f3.params[j]?=some t->args[j]?=some v->Value.okWide Tryz.prog W .any base t v)
  (hW:DataW.Whole enc Tryz.prog Tryz.f3.params.toList Rows.rulesRoomIsFreeSpec.vars false W args.toList ds gs before) (hk:Rows.uptoSmall H (ds++gs)=true) (hE:M.Env (fun b=>b < W.heap.size) W):
  Calls Tryz.prog 3 args W fun e W'=>∃v,e=.returned v/\Rows.rulesRoomIsFreeSpec.post enc Tryz.prog Tryz.f3 false true false false W args v W':=by
 have VI:=hW
 obtain⟨pp,q,VJ,hV,rfl,zK,IY⟩:=hW
 have hA:DataW.TrodAll enc Tryz.prog W 0 (fun _=>true) true Tryz.f3.params.toList args.toList ds pp:=VJ
 have again:=fun (W':World) (hb:Below W.heap.size W W')=>xw OI hb (by kernel_rfl) hA hA.lt
 rw[Tryz.params3] at hA hval
 obtain⟨v0,Wd,d0,We,p0,q0,hargs,rfl,Tz,h0,r0⟩:=trodAll_cons hA
 obtain⟨v1,Wf,d1,Wg,p1,q1,rfl,rfl,rfl,h1,r1⟩:=trodAll_cons r0
 obtain⟨v2,Wh,d2,Wi,p2,q2,rfl,rfl,rfl,h2,r2⟩:=trodAll_cons r1
 obtain⟨v3,Wj,d3,Wk,p3,q3,rfl,rfl,rfl,h3,r3⟩:=trodAll_cons r2
 obtain⟨v4,Wl,d4,Wm,p4,q4,rfl,rfl,rfl,h4,r4⟩:=trodAll_cons r3
 obtain⟨rfl,rfl,rfl⟩:=trodAll_nil r4
 obtain rfl:args=#[v0,v1,v2,v3,v4]:=by cases args;simp_all
 obtain⟨rfl,rfl⟩:=trodVars_none hV
 obtain⟨_,w0,r,rfl,z0⟩:=uR (S:=fun b=>b < W.heap.size) Tryz.underlying25 (H6 fun _ h=>h) (hval 0 25 v0 rfl rfl) h0
 have VK:ic r:=H7 (zb _ _ _ (zd hk (List.mem_append_left _ (by repeat (first | exact List.mem_cons_self .. | apply List.mem_cons_of_mem)))) z0)
 obtain⟨_,w1,a,rfl,z1⟩:=uR (S:=fun b=>b < W.heap.size) Tryz.underlying31 (MU fun _ h=>h) (hval 1 31 v1 rfl rfl) h1
 have VL:oh a:=MV (DA _ _ _ (zd hk (List.mem_append_left _ (by repeat (first | exact List.mem_cons_self .. | apply List.mem_cons_of_mem)))) z1)
 obtain⟨_,w2,nets,e2,z2⟩:=Fx (S:=fun b=>b < W.heap.size) Tryz.underlying32 (Ek fun _ h=>h) (hval 2 32 v2 rfl rfl) h2
 cases e2
 have M3:sD nets:=Km (zd hk (List.mem_append_left _ (by repeat (first | exact List.mem_cons_self .. | apply List.mem_cons_of_mem)))) z2
 obtain⟨net,rfl,rfl,rfl,w3⟩:=open_string Tryz.underlying9 (hval 3 9 v3 rfl rfl) h3
 have Ph:jv net:=zf (za hk (List.mem_append_left _ (by repeat (first | exact List.mem_cons_self .. | apply List.mem_cons_of_mem))))
 obtain⟨layer,rfl,rfl,rfl,w4⟩:=open_int Tryz.underlying3 (hval 4 3 v4 rfl rfl) h4
 refine (My (C:=C) (xs:=[.ag (rl r),.ag (kG a),strs nets,str net,i64 layer]) (y:=.bool true) (IQ r VK a VL nets M3 net Ph layer) hE (lQ (w0) (lQ (w1) (lQ (w2) (lQ (.im _) (lQ (.im _) HO)))))).mono fun e W' ⟨he,hb⟩=>?_
 subst he
 exact⟨_,rfl,wG (pa:=pp) (pv:=[]) VI (fun _ _ _=>trodAll_cons_mk (shut_bool Tryz.underlying4 _) trodAll_mk0) (fun sp h=>again W' hb sp (fun p hp=>h p (List.mem_append_left _ hp))) (fun _ _=>rfl) rfl
  hb (ok_one (by kernel_rfl) rfl (okWide_bool_mk Tryz.underlying4 _))⟩
theorem reads (os:Os) {H:Type} (enc:TypeId×Value->H):∃places,DataW.whole enc Tryz.prog ((World.laidAll Tryz.prog os Rows.rulesRoomIsFreeUptoRow.laid).forCall (fun _ _=>0) ⟨#[],#[.agg #[.int .i64 0,.int .i64 0,.int .i64 0,.int .i64 0,.int .i64 0,.slice none 0 0,.slice none 0 0],.agg #[.slice none 0 0,.slice none 0 0,.slice none 0 0,.slice none 0 0],.slice none 0 0,.string ByteArray.empty,.int .i64 0],[]⟩).memory Tryz.f3.params.toList Rows.rulesRoomIsFreeSpec.vars false (#[.agg #[.int .i64 0,.int .i64 0,.int .i64 0,.int .i64 0,.int .i64 0,.slice none 0 0,.slice none 0 0],.agg #[.slice none 0 0,.slice none 0 0,.slice none 0 0,.slice none 0 0],.slice none 0 0,.string ByteArray.empty,.int .i64 0]:Array Value).toList 8=some ([.agg [.lit (.int .i64 0),.lit (.int .i64 0),.lit (.int .i64 0),.lit (.int .i64 0),.lit (.int .i64 0),.nil,.nil],.agg [.nil,.nil,.nil,.nil],.nil,.lit (.string []),.lit (.int .i64 0)],[],places):=
 ⟨[],by kernel_rfl⟩
theorem lifted (os:Os) (started:os.Started) (H:Type) (enc:TypeId×Value->H) (F:Stop.Interp):
  ReturnsInHanded {} Tryz.checked os 3 .any ((Rows.OpenSpec.upto Rows.rulesRoomIsFreeSpec).preRow enc Tryz.prog Tryz.f3 Rows.rulesRoomIsFreeUptoRow.domain false Rows.rulesRoomIsFreeUptoRow.laid) (((Rows.OpenSpec.upto Rows.rulesRoomIsFreeSpec).at F).post enc Tryz.prog Tryz.f3 false true false false):=by
 obtain⟨places,hx⟩:=reads os enc
 refine returnsInHanded_of_row (C:=Tryz.checked) (s:=Rows.OpenSpec.upto Rows.rulesRoomIsFreeSpec) own started (by kernel_rfl) Tryz.func3
  (tB (enc:=enc) (C:=Tryz.checked) (World.laidAll Tryz.prog os Rows.rulesRoomIsFreeUptoRow.laid) #[.agg #[.int .i64 0,.int .i64 0,.int .i64 0,.int .i64 0,.int .i64 0,.slice none 0 0,.slice none 0 0],.agg #[.slice none 0 0,.slice none 0 0,.slice none 0 0,.slice none 0 0],.slice none 0 0,.string ByteArray.empty,.int .i64 0] (World.laidAll_os _ _ _) (World.shaped_of_ZipB (by kernel_rfl) (by kernel_rfl)) (by kernel_rfl)
   (OpenSpec.preRow_of_cond 8 hx (by kernel_rfl) (fun k hk=>by cases hk;kernel_rfl) (by kernel_rfl)
    (by rw[MakeChecks.laidMetH_plain _ _ _ (by kernel_rfl)];exact laidMet_laidAll _ (by kernel_rfl) (by kernel_rfl)))) ?_
 intro W base args ds gs before hval hW _ D0 _ hL hsh _
 exact IS H enc W base args ds gs before hval hW (D0 _ rfl) (M1 hL hsh)
theorem M4:laidOutB Tryz.prog=true:=by kernel_rfl
theorem Ks:mapsRowed Tryz.prog=true:=by kernel_rfl
theorem M5:(Rows.rulesRoomIsFreeUptoRow.inPlace == Tryz.prog.inPlace 3)=true:=by kernel_rfl
theorem Pj:(Rows.rulesRoomIsFreeUptoRow.unfollowed == Tryz.prog.unfollowed 3)=true:=by kernel_rfl
theorem Pk:(Rows.rulesRoomIsFreeUptoRow.recurses == Tryz.prog.recurses 3)=true:=by kernel_rfl
theorem Kt:(Rows.rulesRoomIsFreeUptoRow.named == Tryz.prog.varsNamed 3)=true:=by kernel_rfl
theorem Pm:(Rows.rulesRoomIsFreeUptoRow.plainKeys == Tryz.prog.plainKeys)=true:=by kernel_rfl
theorem Ku:Tryz.prog.stopsHeard=true:=by kernel_rfl
theorem Kv:Tryz.prog.mayEnter=true:=by kernel_rfl
theorem M6:(Rows.rulesRoomIsFreeUptoRow.lifted == Tryz.prog.liftsFinal)=true:=by kernel_rfl
theorem M7:(Tryz.prog.make == some Rows.rulesRoomIsFreeUptoRow.make)=true:=by kernel_rfl
theorem M8:false=Rows.rulesRoomIsFreeUptoRow.goesBy Tryz.prog:=by kernel_rfl
theorem Kw:false=Tryz.prog.looks []:=by kernel_rfl
theorem Su:Rows.rulesRoomIsFreeUptoRow.wfByText (Rows.OpenSpec.upto Rows.rulesRoomIsFreeSpec)=true:=by kernel_rfl
theorem ga:joinedFacts Tryz.prog 3 Tryz.f3 (Rows.OpenSpec.upto Rows.rulesRoomIsFreeSpec).bare Rows.rulesRoomIsFreeUptoRow=true:=
 vZ M4 Ks M5 Pj Pk Kt Pm Ku Kv M6 M7 (by kernel_rfl)
theorem IT:Rows.RulesRoomIsFreeUptoSaid:=
 OpenClaim.holds_of_cond 3 Tryz.f3 rfl rfl rfl rfl rfl rfl rfl ⟨rfl,rfl,rfl,rfl,rfl⟩ rfl rfl rfl rfl rfl (by kernel_rfl) Tryz.func3 ga
  (of_decide_eq_true (by kernel_rfl)) (by unfold Func.isWrapper;first | (rw[if_pos (by decide +kernel)];kernel_rfl) | (rw[if_neg (by decide +kernel)];exact⟨rfl,rfl⟩))
  (fun os started H enc _ F=>by rw[OpenClaim.pre_eq_preRow];exact lifted os started H enc F)
theorem plain (f:FuncId) (fn:Func) (hf:Tryz.pinned.checked.prog.funcNamed Rows.rulesRoomIsFreeUptoRow.func=some f) (QU:Tryz.pinned.checked.prog.funcs[f]?=some fn):
  false=Tryz.pinned.checked.prog.looks []/\∀(j:Nat) t,fn.params[j]?=some t->Tryz.pinned.checked.prog.wantsStandIn t=false:=by
 obtain rfl:f=3:=Option.some.inj ((show Tryz.prog.funcNamed Rows.rulesRoomIsFreeUptoRow.func=some 3 by kernel_rfl).symm.trans hf) |>.symm
 obtain rfl:fn=Tryz.f3:=(Option.some.inj (Tryz.func3.symm.trans QU)).symm
 refine⟨Kw,fun j t ht=>?_⟩
 rw[Tryz.params3] at ht
 have hm:=Array.mem_of_getElem? ht
 have iB:((Tryz.f3.params.toList).all fun u=>!Tryz.prog.wantsStandIn u)=true:=by kernel_rfl
 exact (show Tryz.prog.wantsStandIn t=false by simpa using List.all_eq_true.1 iB t (by rw[Tryz.params3];simpa using hm))
theorem cardUpto:Rows.RulesRoomIsFreeUptoCardSaid:=
 Claim7.holds_tied_plain_at .later [] _ _ _ _ IT (fun _ h=>by cases h) Su (fun _ h=>by cases h) rulesRoomIsFreeUpto_row_tie rfl ⟨rfl,rfl⟩ (by kernel_rfl) rfl plain M8
end rulesRoomIsFree
end Go.Proofs.YtpbkimanfahbgaaGreatDoor
