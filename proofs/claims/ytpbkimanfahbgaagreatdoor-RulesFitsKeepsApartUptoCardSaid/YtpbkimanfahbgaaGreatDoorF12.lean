/- Part 12 of 14 of the proof of RulesFitsKeepsApart (the names are shortened by a program: the size of a claim is limited). -/
import Derived.Test.YtpbkimanfahbgaaGreatDoorF11
set_option linter.unusedVariables false
set_option linter.unusedSimpArgs false
set_option maxRecDepth 100000
set_option maxHeartbeats 8000000
namespace Go.Proofs.YtpbkimanfahbgaaGreatDoor
namespace M
open Go.AM Go.RowKit Go.Lib
open Reg (aB ax eX jn Wt Piece Kd ct cQ told a_ cx aQ through wP BB Xk Xc oZ)
def iE (h:Kd):List PV:=[bool h.bore,i64 h.num]
theorem BD:HY=Reg.iN:=rfl
theorem zy (a:Wt) (ha:jG a) (l:jn) (dr tt gg ol ah:List (List PV)) (op ob:List Int) (P:List Piece) (hP:P.length<=1000000000) (Lk:∀p∈P,(told p.set).length<=4398046511104):aD C 124 [.pv (.ip ((kG a)++[.sl dr,.sl (P.map gw),.sl tt,.sl gg,ints op,ints ob,.sl ol,.sl ah])),.pv (.ag (lc l))] (.tu [.ag (iE (oZ a.bores P l).1),bool (oZ a.bores P l).2]) []:=by
 have lb:=aN a.bores bc
 have lp:=aN P gw
 have tD:=ha.few
 obtain⟨R,hR⟩:∃R,R=oZ a.bores P l:=⟨_,rfl⟩
 rw[<-hR]
 refine aT hC Tryz.func124 rfl rfl 66 rfl (by decide) (by kernel_rfl) fun _ _ _ _ _=>?_
 (refine yS<|yn Z<|aA zI<|aS<|ak<|yn Z<|aA zI<|aS<|ak<|yA Z<|yT<|au<|yS<|yP Z ?_;refine yP Z<|yP Z<|yP Z<|yP Z<|yP Z<|yP Z<|yT<|aZ ?_)
 refine aI (fun i:Nat=>Xc l P i (a.bores.drop i)=R) (fun i=>[(0,.p (.ip ((kG a)++[.sl dr,.sl (P.map gw),.sl tt,.sl gg,ints op,ints ob,.sl ol,.sl ah]))),(3,.bx 3 0),(4,.bx 4 0),(14,.p (.sl (a.bores.map bc))),(15,.p (i64 a.bores.length)),(16,.p (i64 i))]) (fun _=>[(3,.box [.p (str l.part),.p (str l.pin),.p (i64 l.layer),.p (i64 l.x),.p (i64 l.y)]),(4,.box [.p (bool false),.p (i64 0)])]) (fun i=>a.bores.length - i) 0 _ (aW.refl _ _) hR.symm ⟨rfl,rfl,rfl,rfl,congrArg (fun m:Nat=>AV.p (i64 m)) lb,Z,Y⟩ ⟨Z,Z,Y⟩ fun i hi t h=>?_
 (refine yS<|yP Z<|yT<|au<|az Z ?_;refine aa (fun g=>?_) (fun g=>?_) <;> try simp only[zB] at g)
 ·obtain⟨b,I6⟩:=bh (l:=a.bores) (i:=i) (by omega)
  have tM:=oU (ha.bor b (List.mem_of_getElem? I6))
  rw[drop_at I6,Xc] at hi
  (refine aJ<|aj<|au<|aZ<|yS<|yP Z<|yq Z<|aK zI ?_;refine⟨(bc b),(idx rfl I6),?_⟩)
  have yes:wP l b=true->R=(⟨true,i⟩,true):=fun h=>by rw[if_pos h] at hi;exact hi.symm
  have no:wP l b=false->Xc l P (i+1) (a.bores.drop (i+1))=R:=fun h=>by rw[if_neg (by rw[h];decide)] at hi;exact hi
  ((refine yk<|yP Z<|yn Z<|aA zI<|aS<|ak<|yA Z<|yq Z<|aA zI<|bd<|aF<|an<|yT<|au ?_;refine cH [] false JH rfl (by kernel_rfl)<|ay Z<|ay Z<|ay Z<|ay Z<|ay Z<|ay Z<|cA Z Z<|ay Z<|ay Z<|ay Z<|cA Z Z<|cA Z Z<|ay Z ?_;refine ay Z<|cA Z Z<|cG Z<|yW Z<|yD Z<|yD Z<|dg Z ?_);refine aa (fun g1=>?_) (fun g1=>?_) <;> try simp only[zB] at g1)
  ·(refine bS<|c_ Z<|aA zI<|bB<|ae<|d2 Z<|c_ Z<|aA zI<|bB<|ak<|d1 Z<|d2 Z<|c_ Z<|aK zI ?_;refine⟨_,_,(ig b l.layer),?_⟩)
   (refine bB<|ae<|yD Z<|yD Z<|dg Z ?_;refine aa (fun g2=>?_) (fun g2=>?_) <;> try simp only[zB] at g2)
   ·(refine bS<|c_ Z<|aA zI<|bB<|ae<|d2 Z<|c_ Z<|aK zI ?_;refine⟨_,_,(dv b tM),?_⟩)
    ((refine bB<|ae<|d2 Z<|c_ Z<|aA zI<|jA Z Z<|af<|d2 Z<|c_ Z<|aA zI<|bB<|ak<|d1 Z<|d2 Z ?_;refine c_ Z<|aK zI ?_);refine⟨_,_,(nk [aQ b] (by simp) l.x l.y),?_⟩)
    (refine bB<|ae<|yD Z<|cn<|bz Z<|aj<|az Z ?_;refine aa (fun g3=>?_) (fun g3=>?_) <;> try simp only[zB] at g3)
    ·have hy:=yes (by simp only[wP,Bool.and_eq_true];exact⟨⟨g1,g2⟩,by simpa [BD] using g3⟩)
     (refine yS<|yP Z<|yP Z<|yq Z<|aA zI<|bd<|aF<|an<|yA Z<|yT<|bP<|bW<|aX<|aX ?_;refine bW<|aX<|bQ zi ?_)
     exact And.intro (by rw[hy];rfl) trivial
    have hn:=no (by simp only[wP];rw[Bool.and_eq_false_iff];exact .inr (by simpa [BD] using g3))
    (refine aJ<|bp<|aj<|aM<|yq Z<|bg zI ?_;refine sI ?_)
    (refine yk<|yP Z<|yT<|ai ?_;refine⟨(i+1),_,aW.refl _ _,?_⟩)
    exact⟨hn,by omega,⟨Z,Z,Z,Z,Z,Z,Y⟩,⟨Z,Z,Y⟩⟩
   have hn:=no (by simp only[wP];rw[g2,Bool.and_false,Bool.false_and])
   ((refine cB<|ae<|d0 Z<|d0 Z<|d0 Z<|d0 Z<|d0 Z<|yD Z<|cn<|bz Z<|aj<|az Z<|cM<|aJ ?_;refine bp<|aj<|aM<|yq Z<|bg zI ?_);refine sI ?_)
   (refine yk<|yP Z<|yT<|ai ?_;refine⟨(i+1),_,aW.refl _ _,?_⟩)
   exact⟨hn,by omega,⟨Z,Z,Z,Z,Z,Z,Y⟩,⟨Z,Z,Y⟩⟩
  have hn:=no (by simp only[wP];rw[g1,Bool.false_and,Bool.false_and])
  ((refine cB<|ae<|d0 Z<|d0 Z<|d0 Z<|yD Z<|yD Z<|d0 Z<|d0 Z<|d0 Z<|d0 Z<|d0 Z<|d0 Z<|yD Z ?_;refine cn<|bz Z<|aj<|az Z<|cM<|aJ<|bp<|aj<|aM<|yq Z<|bg zI ?_);refine sI ?_)
  (refine yk<|yP Z<|yT<|ai ?_;refine⟨(i+1),_,aW.refl _ _,?_⟩)
  exact⟨hn,by omega,⟨Z,Z,Z,Z,Z,Z,Y⟩,⟨Z,Z,Y⟩⟩
 rw[List.drop_of_length_le (by omega),Xc] at hi
 (refine bT<|aY<|aY<|bU<|aj<|au<|yS<|yP Z<|yP Z<|yP Z<|yP Z<|yP Z<|yP Z<|yT ?_;refine aZ ?_)
 refine aI (fun k:Nat=>Xk l k (P.drop k)=R) (fun k=>[(0,.p (.ip ((kG a)++[.sl dr,.sl (P.map gw),.sl tt,.sl gg,ints op,ints ob,.sl ol,.sl ah]))),(3,.bx 3 0),(4,.bx 4 0),(43,.p (.sl (P.map gw))),(44,.p (i64 P.length)),(45,.p (i64 k))]) (fun _=>[(3,.box [.p (str l.part),.p (str l.pin),.p (i64 l.layer),.p (i64 l.x),.p (i64 l.y)]),(4,.box [.p (bool false),.p (i64 0)])]) (fun k=>P.length - k) 0 _ (aW.refl _ _) hi ⟨rfl,rfl,rfl,rfl,congrArg (fun m:Nat=>AV.p (i64 m)) lp,Z,Y⟩ ⟨Z,Z,Y⟩ fun k hk t h=>?_
 (refine yS<|yP Z<|yT<|au<|az Z ?_;refine aa (fun g5=>?_) (fun g5=>?_) <;> try simp only[zB] at g5)
 ·obtain⟨p,JB⟩:=bh (l:=P) (i:=k) (by omega)
  have U7:=Lk p (List.mem_of_getElem? JB)
  rw[drop_at JB,Xk] at hk
  have yes:BB l p=true->R=(⟨false,k⟩,true):=fun h=>by rw[if_pos h] at hk;exact hk.symm
  have no:BB l p=false->Xk l (k+1) (P.drop (k+1))=R:=fun h=>by rw[if_neg (by rw[h];decide)] at hk;exact hk
  (refine aJ<|aj<|au<|aZ<|yS<|yP Z<|yq Z<|aK zI ?_;refine⟨(gw p),(idx rfl JB),?_⟩)
  ((refine yk<|yP Z<|yn Z<|aA zI<|aS<|ak<|yA Z<|yq Z<|aA zI<|bd<|aF<|an<|yU<|yV Z ?_;refine yP Z<|yV Z<|yP Z<|yP Z<|yP Z<|yg Z ?_);refine aa (fun g1=>?_) (fun g1=>?_) <;> try simp only[zB] at g1)
  ·((refine bS<|bA Z Z<|aA zI<|bd<|ak<|y1 Z<|y2 Z<|bA Z Z<|aA zI<|bd<|ak<|y1 Z<|y2 Z<|jB Z Z Z ?_;refine aK zI ?_);refine⟨_,_,(nk (told p.set) (by omega) l.x l.y),?_⟩)
   (refine b9 Z Z<|ae<|yP Z<|yT<|az Z ?_;refine aa (fun g2=>?_) (fun g2=>?_) <;> try simp only[zB] at g2)
   ·have hy:=yes (by simp only[BB,Bool.and_eq_true,decide_eq_true_eq];exact⟨g1,g2⟩)
    (refine yS<|yP Z<|yP Z<|yq Z<|aA zI<|bd<|aF<|an<|yA Z<|yT<|bP<|bW<|aX<|aX ?_;refine bW<|aX<|bQ zi ?_)
    exact And.intro (by rw[hy];rfl) trivial
   have hn:=no (by simp only[BB];rw[Bool.and_eq_false_iff];exact .inr g2)
   (refine aJ<|bp<|aj<|aM<|yq Z<|bg zI ?_;refine sI ?_)
   (refine yk<|yP Z<|yT<|ai ?_;refine⟨(k+1),_,aW.refl _ _,?_⟩)
   exact⟨hn,by omega,⟨Z,Z,Z,Z,Z,Z,Y⟩,⟨Z,Z,Y⟩⟩
  have hn:=no (by simp only[BB];rw[decide_eq_false g1,Bool.false_and])
  ((refine cB<|ae<|y0 Z<|y0 Z<|y0 Z<|y0 Z<|yP Z<|yT<|az Z<|cM<|aJ<|bp<|aj<|aM ?_;refine yq Z<|bg zI ?_);refine sI ?_)
  (refine yk<|yP Z<|yT<|ai ?_;refine⟨(k+1),_,aW.refl _ _,?_⟩)
  exact⟨hn,by omega,⟨Z,Z,Z,Z,Z,Z,Y⟩,⟨Z,Z,Y⟩⟩
 rw[List.drop_of_length_le (by omega),Xk] at hk
 refine bT<|aY<|aY<|bU<|aj<|yS<|yP Z<|yq Z<|aA zI<|bd<|aF<|an<|yA Z<|yR zi ?_
 exact And.intro (by rw[<-hk];rfl) trivial
theorem q8 (a:Wt) (hp:Kd) (dr tt gg ol ah:List (List PV)) (op ob:List Int) (P:List Piece) (n:Nat) (hn:hp.num=n) (v:Int) (hv:(if hp.bore=true then ob else op)[n]?=some v):aD C 125 [.pv (.ip ((kG a)++[.sl dr,.sl (P.map gw),.sl tt,.sl gg,ints op,ints ob,.sl ol,.sl ah])),.pv (.ag (iE hp))] (.p (i64 v)) []:=by
 obtain⟨b,m⟩:=hp
 simp only at hn hv
 subst hn
 refine aT hC Tryz.func125 rfl rfl 23 rfl (by decide) (by kernel_rfl) fun _ _ _ _ _=>?_
 (refine yS<|yn Z<|aA zI<|aS<|ak<|yA Z<|yT<|au<|yS<|yV Z<|yP Z<|yT<|az Z ?_;refine aa (fun g=>?_) (fun g=>?_) <;> try simp only[zB] at g)
 ·rw[if_pos g] at hv
  (refine au<|cH [] false PL rfl (by kernel_rfl)<|cG Z<|yD Z<|yD Z<|yD Z<|yD Z<|yW Z<|yD Z<|dq Z<|aK zI ?_;refine⟨[i64 v],(idx rfl hv),?_⟩)
  ((refine bB<|ae<|yD Z<|yD Z<|cn<|aq Z<|aq Z<|aq Z<|aq Z<|aq Z<|aq Z<|aq Z<|aq Z<|dW Z Z ?_;refine bz Z<|aj<|bP<|aX<|bQ zi ?_);refine And.intro ?_ trivial)
  rfl
 rw[if_neg (by rw[g];decide)] at hv
 (refine aJ<|aj<|au<|cH [] false PL rfl (by kernel_rfl)<|cG Z<|yD Z<|yD Z<|yD Z<|yD Z<|yW Z<|yD Z<|dq Z<|aK zI ?_;refine⟨[i64 v],(idx rfl hv),?_⟩)
 ((refine bB<|ae<|yD Z<|yD Z<|cn<|aq Z<|aq Z<|aq Z<|aq Z<|aq Z<|aq Z<|aq Z<|aq Z<|dW Z Z ?_;refine bz Z<|aj<|bP<|bQ zi ?_);refine And.intro ?_ trivial)
 rfl
end M
namespace Reg
def Ll:eX:=⟨0,0,0,0,0,false⟩
def eJ (bs:List eX) (j:Nat):Bool:=(bs.getD j Ll).plated
structure gz (bs:List eX) (n g:Nat) (l:List Nat) (s r:(List Int×List Int)×List Int×List Int):Prop where
 l1:r.1.1.length=s.1.1.length
 l2:r.1.2.length=s.1.2.length
 op:∀i,r.1.1[i]?=if i∈l/\i < n then some (g:Int) else s.1.1[i]?
 ob:∀j,r.1.2[j]?=if n+j∈l then some (if eJ bs j=true then (g:Int) else -1) else s.1.2[j]?
 ps:∀x,x∈r.2.1↔x∈s.2.1\/∃i:Nat,i∈l/\i < n/\x=i
 bs':∀x,x∈r.2.2↔x∈s.2.2\/∃j:Nat,n+j∈l/\eJ bs j=true/\x=j
theorem q9 (bs:List eX) (n g:Nat):∀(l:List Nat) (s:(List Int×List Int)×List Int×List Int),s.1.1.length=n->s.1.2.length=bs.length->(∀i∈l,i < n+bs.length)->gz bs n g l s (l.foldl (iA bs n g) s)
 | [],s,_,_,_=>⟨rfl,rfl,fun i=>by simp,fun j=>by simp,fun x=>by simp,fun x=>by simp⟩
 | i::l,s,h1,h2,hl=>by
  have hi:=hl i List.mem_cons_self
  have E_:∀i∈l,i < n+bs.length:=fun i h=>hl i (List.mem_cons_of_mem _ h)
  rw[List.foldl_cons]
  by_cases c:i < n
  ·have e:iA bs n g s i=((s.1.1.set i (g:Int),s.1.2),s.2.1++[(i:Int)],s.2.2):=by rw[iA,if_pos c]
   rw[e]
   have r:=q9 bs n g l ((s.1.1.set i (g:Int),s.1.2),s.2.1++[(i:Int)],s.2.2) (by simp only[List.length_set];exact h1) h2 E_
   refine⟨r.l1.trans (List.length_set ..),r.l2,fun k=>?_,fun j=>?_,fun x=>?_,fun x=>?_⟩
   ·rw[r.op]
    by_cases hk:k∈l/\k < n
    ·rw[if_pos hk,if_pos ⟨List.mem_cons_of_mem _ hk.1,hk.2⟩]
    rw[if_neg hk,eW (by omega)]
    by_cases GB:k=i
    ·subst GB
     rw[if_pos rfl,if_pos ⟨List.mem_cons_self,c⟩]
    rw[if_neg GB,if_neg (fun hc=>hk ⟨(List.mem_cons.1 hc.1).resolve_left GB,hc.2⟩)]
   ·rw[r.ob]
    have:(n+j∈i::l)↔n+j∈l:=by
     rw[List.mem_cons]
     exact⟨fun h=>h.resolve_left (by omega),.inr⟩
    simp only[this]
   ·rw[r.ps]
    simp only[List.mem_append,List.mem_cons,List.not_mem_nil,or_false]
    constructor
    ·rintro ((h | h) | ⟨k,a,b,e⟩)
     ·exact .inl h
     ·exact .inr ⟨i,.inl rfl,c,h⟩
     exact .inr ⟨k,.inr a,b,e⟩
    rintro (h | ⟨k,a | a,b,e⟩)
    ·exact .inl (.inl h)
    ·exact .inl (.inr (by rw[e,a]))
    exact .inr ⟨k,a,b,e⟩
   rw[r.bs']
   simp only[List.mem_cons]
   constructor
   ·rintro (h | ⟨k,a,b⟩)
    ·exact .inl h
    exact .inr ⟨k,.inr a,b⟩
   rintro (h | ⟨k,a | a,b⟩)
   ·exact .inl h
   ·omega
   exact .inr ⟨k,a,b⟩
  have qi:(bs.getD (i - n) ⟨0,0,0,0,0,false⟩).plated=eJ bs (i - n):=rfl
  have R7:∀k,(k∈i::l/\k < n)↔(k∈l/\k < n):=fun k=>by
   rw[List.mem_cons]
   exact⟨fun h=>⟨h.1.resolve_left (by omega),h.2⟩,fun h=>⟨.inr h.1,h.2⟩⟩
  have Tv:∀x:Int,(∃k:Nat,k∈i::l/\k < n/\x=k)↔(∃k:Nat,k∈l/\k < n/\x=k):=fun x=>
   ⟨fun ⟨k,a,b,e⟩=>⟨k,((R7 k).1 ⟨a,b⟩).1,b,e⟩,fun ⟨k,a,b,e⟩=>⟨k,List.mem_cons_of_mem _ a,b,e⟩⟩
  have Tw:∀(o:List Int) (v:Int) (j:Nat),o.length=bs.length->(v=if eJ bs (i - n)=true then (g:Int) else -1)->(if n+j∈l then some (if eJ bs j=true then (g:Int) else -1) else (o.set (i - n) v)[j]?)=if n+j∈i::l then some (if eJ bs j=true then (g:Int) else -1) else o[j]?:=fun o v j ho hv=>by
   by_cases hj:n+j∈l
   ·rw[if_pos hj,if_pos (List.mem_cons_of_mem _ hj)]
   rw[if_neg hj,eW (by omega)]
   by_cases PI:j=i - n
   ·subst PI
    rw[if_pos rfl,if_pos (List.mem_cons.2 (.inl (by omega))),hv]
   rw[if_neg PI,if_neg (fun hc=>hj ((List.mem_cons.1 hc).resolve_left (by omega)))]
  by_cases p:eJ bs (i - n)=true
  ·have e:iA bs n g s i=((s.1.1,s.1.2.set (i - n) (g:Int)),s.2.1,s.2.2++[((i:Int) - n)]):=by rw[iA,if_neg c,qi,if_pos p]
   rw[e]
   have r:=q9 bs n g l ((s.1.1,s.1.2.set (i - n) (g:Int)),s.2.1,s.2.2++[((i:Int) - n)]) h1 (by simp only[List.length_set];exact h2) E_
   refine⟨r.l1,r.l2.trans (List.length_set ..),fun k=>?_,fun j=>?_,fun x=>?_,fun x=>?_⟩
   ·rw[r.op];simp only[R7]
   ·rw[r.ob];exact Tw _ _ _ h2 (by rw[if_pos p])
   ·rw[r.ps,Tv]
   rw[r.bs']
   simp only[List.mem_append,List.mem_cons,List.not_mem_nil,or_false]
   constructor
   ·rintro ((h | h) | ⟨k,a,b,e⟩)
    ·exact .inl h
    ·exact .inr ⟨i - n,.inl (by omega),p,by omega⟩
    exact .inr ⟨k,.inr a,b,e⟩
   rintro (h | ⟨k,a | a,b,e⟩)
   ·exact .inl (.inl h)
   ·exact .inl (.inr (by omega))
   exact .inr ⟨k,a,b,e⟩
  have e:iA bs n g s i=((s.1.1,s.1.2.set (i - n) (-1)),s.2.1,s.2.2):=by rw[iA,if_neg c,qi,if_neg p]
  rw[e]
  have r:=q9 bs n g l ((s.1.1,s.1.2.set (i - n) (-1)),s.2.1,s.2.2) h1 (by simp only[List.length_set];exact h2) E_
  refine⟨r.l1,r.l2.trans (List.length_set ..),fun k=>?_,fun j=>?_,fun x=>?_,fun x=>?_⟩
  ·rw[r.op];simp only[R7]
  ·rw[r.ob];exact Tw _ _ _ h2 (by rw[if_neg p])
  ·rw[r.ps,Tv]
  rw[r.bs']
  simp only[List.mem_cons]
  constructor
  ·rintro (h | ⟨k,a,b⟩)
   ·exact .inl h
   exact .inr ⟨k,.inr a,b⟩
  rintro (h | ⟨k,a | a,b,e⟩)
  ·exact .inl h
  ·have:k=i - n:=by omega
   rw[this] at b
   exact absurd b p
  exact .inr ⟨k,a,b,e⟩
structure IA (bs:List eX) (n:Nat) (D:List (List Nat)) (s:(List Int×List Int)×List dc):Prop where
 l1:s.1.1.length=n
 l2:s.1.2.length=bs.length
 a:∀i,i < n->(∃l∈D,i∈l)->∃(k:Nat) (g:dc),s.1.1[i]?=some (k:Int)/\s.2[k]?=some g/\(i:Int)∈g.pieces
 b:∀j,j < bs.length->eJ bs j=true->(∃l∈D,n+j∈l)->∃(k:Nat) (g:dc),s.1.2[j]?=some (k:Int)/\s.2[k]?=some g/\(j:Int)∈g.bores
 c:∀(k:Nat) g,s.2[k]?=some g->g.pins=[]/\∀x∈g.pieces,∃i:Nat,x=i/\i < n/\s.1.1[i]?=some (k:Int)/\∃l∈D,i∈l
 d:∀j,j < bs.length->eJ bs j=false->(∃l∈D,n+j∈l)->s.1.2[j]?=some (-1)
theorem FX {bs:List eX} {n:Nat} {D:List (List Nat)} {s:(List Int×List Int)×List dc} (h:IA bs n D s) {l:List Nat} (hl:∀i∈l,i < n+bs.length) (hd:∀l'∈D,∀i∈l',¬i∈l):IA bs n (D++[l]) (wQ bs n s l):=by
 have r:=q9 bs n s.2.length l (s.1,[],[]) h.l1 h.l2 hl
 obtain⟨q,hq⟩:∃q,q=l.foldl (iA bs n s.2.length) (s.1,[],[]):=⟨_,rfl⟩
 rw[<-hq] at r
 have hs:wQ bs n s l=(q.1,if 0 < q.2.1.length+q.2.2.length then s.2++[⟨q.2.1,q.2.2,[]⟩] else s.2):=by rw[hq];rfl
 rw[hs]
 have R8:∀x,x∈q.2.1↔∃i:Nat,i∈l/\i < n/\x=i:=fun x=>by rw[r.ps];simp
 have Tx:∀x,x∈q.2.2↔∃j:Nat,n+j∈l/\eJ bs j=true/\x=j:=fun x=>by rw[r.bs'];simp
 have keep:∀(k:Nat) g,s.2[k]?=some g->(if 0 < q.2.1.length+q.2.2.length then s.2++[⟨q.2.1,q.2.2,[]⟩] else s.2)[k]?=some g:=fun k g hk=>by
  split
  ·rw[List.getElem?_append_left (List.getElem?_eq_some_iff.1 hk).1];exact hk
  exact hk
 have O4:∀x,(x∈q.2.1\/x∈q.2.2)->(if 0 < q.2.1.length+q.2.2.length then s.2++[(⟨q.2.1,q.2.2,[]⟩:dc)] else s.2)[s.2.length]?=some ⟨q.2.1,q.2.2,[]⟩:=fun x hx=>by
  have:0 < q.2.1.length+q.2.2.length:=by rcases hx with h | h <;> (have:=List.length_pos_of_mem h;omega)
  rw[if_pos this,List.getElem?_append_right (Nat.le_refl _),Nat.sub_self];rfl
 have mD:∀i,(∃l'∈D++[l],i∈l')↔(∃l'∈D,i∈l')\/i∈l:=fun i=>by
  constructor
  ·rintro⟨l',h1,h2⟩
   rcases List.mem_append.1 h1 with h1 | h1
   ·exact .inl ⟨l',h1,h2⟩
   rw[List.mem_singleton] at h1;subst h1;exact .inr h2
  rintro (⟨l',h1,h2⟩ | h2)
  ·exact⟨l',List.mem_append_left _ h1,h2⟩
  exact⟨l,List.mem_append_right _ (List.mem_singleton.2 rfl),h2⟩
 refine⟨r.l1.trans h.l1,r.l2.trans h.l2,fun i hi hm=>?_,fun j hj hp hm=>?_,fun k g hk=>?_,fun j hj hp hm=>?_⟩
 ·by_cases tJ:i∈l
  ·refine⟨s.2.length,_,by rw[r.op,if_pos ⟨tJ,hi⟩],O4 i (.inl ((R8 _).2 ⟨i,tJ,hi,rfl⟩)),(R8 _).2 ⟨i,tJ,hi,rfl⟩⟩
  obtain⟨k,g,h1,h2,h3⟩:=h.a i hi (((mD i).1 hm).resolve_right tJ)
  exact⟨k,g,by rw[r.op,if_neg (fun hc=>tJ hc.1)];exact h1,keep k g h2,h3⟩
 ·by_cases tJ:n+j∈l
  ·refine⟨s.2.length,_,by rw[r.ob,if_pos tJ,if_pos hp],O4 j (.inr ((Tx _).2 ⟨j,tJ,hp,rfl⟩)),(Tx _).2 ⟨j,tJ,hp,rfl⟩⟩
  obtain⟨k,g,h1,h2,h3⟩:=h.b j hj hp (((mD _).1 hm).resolve_right tJ)
  exact⟨k,g,by rw[r.ob,if_neg tJ];exact h1,keep k g h2,h3⟩
 ·by_cases Nf:k < s.2.length
  ·have tI:s.2[k]?=some g:=by
    have e:=keep k s.2[k] (List.getElem?_eq_getElem Nf)
    have e2:=hk.symm.trans e
    injection e2 with e2
    rw[e2];exact List.getElem?_eq_getElem Nf
   obtain⟨c1,c2⟩:=h.c k g tI
   refine⟨c1,fun x hx=>?_⟩
   obtain⟨i,e,hi,ho,hm⟩:=c2 x hx
   have tJ:¬i∈l:=fun hc=>by
    obtain⟨l',h1,h2⟩:=hm
    exact hd l' h1 i h2 hc
   exact⟨i,e,hi,by rw[r.op,if_neg (fun hc=>tJ hc.1)];exact ho,(mD i).2 (.inl hm)⟩
  have Xe:(if 0 < q.2.1.length+q.2.2.length then s.2++[(⟨q.2.1,q.2.2,[]⟩:dc)] else s.2)[k]?=some g:=hk
  split at Xe
  ·rw[List.getElem?_append_right (by omega)] at Xe
   have JM:k=s.2.length:=by
    have:=(List.getElem?_eq_some_iff.1 Xe).1
    simp at this
    omega
   rw[JM,Nat.sub_self] at Xe
   injection Xe with Xe
   subst Xe
   subst JM
   refine⟨rfl,fun x hx=>?_⟩
   obtain⟨i,tJ,hi,e⟩:=(R8 x).1 hx
   exact⟨i,e,hi,by rw[r.op,if_pos ⟨tJ,hi⟩],(mD i).2 (.inr tJ)⟩
  exact absurd (List.getElem?_eq_some_iff.1 Xe).1 Nf
 by_cases tJ:n+j∈l
 ·rw[r.ob,if_pos tJ,hp];rfl
 rw[r.ob,if_neg tJ]
 exact h.d j hj hp (((mD _).1 hm).resolve_right tJ)
theorem BE {bs:List eX} {n:Nat}:∀(L D:List (List Nat)) (s:(List Int×List Int)×List dc),IA bs n D s->(∀l∈L,∀i∈l,i < n+bs.length)->(∀l'∈D,∀l∈L,∀i∈l',¬i∈l)->(L.Pairwise fun l' l=>∀i∈l',¬i∈l)->IA bs n (D++L) (L.foldl (wQ bs n) s)
 | [],D,s,h,_,_,_=>by rw[List.append_nil];exact h
 | l::L,D,s,h,hl,hd,hp=>by
  have hp':=List.pairwise_cons.1 hp
  have h1:=FX h (hl l List.mem_cons_self) fun l' E_=>hd l' E_ l List.mem_cons_self
  have:=BE L (D++[l]) (wQ bs n s l) h1 (fun l' h'=>hl l' (List.mem_cons_of_mem _ h')) (fun l' h' m hm i hi=>by
   rcases List.mem_append.1 h' with h' | h'
   ·exact hd l' h' m (List.mem_cons_of_mem _ hm) i hi
   rw[List.mem_singleton] at h'
   subst h'
   exact hp'.1 m hm i hi) hp'.2
  rw[List.append_assoc,List.singleton_append] at this
  exact this
structure kx (bs:List eX) (n:Nat) (s:(List Int×List Int)×List dc):Prop where
 l1:s.1.1.length=n
 l2:s.1.2.length=bs.length
 a:∀i,i < n->∃(k:Nat) (g:dc),s.1.1[i]?=some (k:Int)/\s.2[k]?=some g/\(i:Int)∈g.pieces
 b:∀j,j < bs.length->eJ bs j=true->∃(k:Nat) (g:dc),s.1.2[j]?=some (k:Int)/\s.2[k]?=some g/\(j:Int)∈g.bores
 c:∀(k:Nat) g,s.2[k]?=some g->g.pins=[]/\∀x∈g.pieces,∃i:Nat,x=i/\i < n/\s.1.1[i]?=some (k:Int)
 d:∀j,j < bs.length->eJ bs j=false->s.1.2[j]?=some (-1)
theorem xL {bs:List eX} {n:Nat} {u:List Int} (hu:UF u) (hl:u.length=n+bs.length):kx bs n (gB bs n (ba (dR u) (n+bs.length))):=by
 have hT:=tV hu
 rw[hl] at hT
 have h0:IA bs n [] ((List.replicate n 0,List.replicate bs.length 0),[]):=⟨List.length_replicate,List.length_replicate,fun i _ ⟨l,h,_⟩=>(by cases h),fun j _ _ ⟨l,h,_⟩=>(by cases h),fun k g h=>by simp at h,fun j _ _ ⟨l,h,_⟩=>(by cases h)⟩
 have h1:=BE (ba (dR u) (n+bs.length)) [] _ h0 (fun l h i hi=>by
  obtain⟨r,_,rfl⟩:=List.mem_map.1 h
  exact (fD.1 hi).1) (fun l' h=>by cases h) (by
  rw[ba,List.pairwise_map]
  refine (pU _ _).imp fun {r q} b8=>?_
  intro i hi hc
  exact b8 ((fD.1 hi).2.symm.trans (fD.1 hc).2))
 have R9:∀i,i < n+bs.length->∃l∈[]++ba (dR u) (n+bs.length),i∈l:=fun i hi=>by
  refine⟨fR (dR u) (n+bs.length) (dR u i),?_,fD.2 ⟨hi,rfl⟩⟩
  rw[List.nil_append,ba]
  exact List.mem_map.2 ⟨dR u i,mem_keys.2 ⟨by have:=hT.le i hi;omega,hT.top i hi⟩,rfl⟩
 exact⟨h1.l1,h1.l2,fun i hi=>h1.a i hi (R9 i (by omega)),fun j hj hp=>h1.b j hj hp (R9 (n+j) (by omega)),fun k g hk=>⟨(h1.c k g hk).1,fun x hx=>by obtain⟨i,a,b,c,_⟩:=(h1.c k g hk).2 x hx;exact⟨i,a,b,c⟩⟩,fun j hj hp=>h1.d j hj hp (R9 (n+j) (by omega))⟩
theorem BF (l:jn):∀(ps:List Piece) (k:Nat),(Xk l k ps).2=true->∃m:Nat,(Xk l k ps).1=⟨false,m⟩/\k<=m/\m < k+ps.length
 | [],k,h=>by cases h
 | p::ps,k,h=>by
  rw[Xk] at h ⊢
  by_cases c:BB l p=true
  ·rw[if_pos c]
   exact⟨k,rfl,Nat.le_refl _,by simp⟩
  rw[if_neg c] at h ⊢
  obtain⟨m,a,b,d⟩:=BF l ps (k+1) h
  exact⟨m,a,by omega,by simp only[List.length_cons];omega⟩
theorem BG (l:jn) (ps:List Piece):∀(bs:List eX) (k:Nat),(Xc l ps k bs).2=true->(∃m:Nat,(Xc l ps k bs).1=⟨false,m⟩/\m < ps.length)\/∃m:Nat,(Xc l ps k bs).1=⟨true,m⟩/\k<=m/\m < k+bs.length/\eJ bs (m - k)=true
 | [],k,h=>by
  rw[Xc] at h ⊢
  obtain⟨m,a,_,b⟩:=BF l ps 0 h
  exact .inl ⟨m,a,by omega⟩
 | b::bs,k,h=>by
  rw[Xc] at h ⊢
  by_cases c:wP l b=true
  ·rw[if_pos c]
   simp only[wP,Bool.and_eq_true] at c
   exact .inr ⟨k,rfl,Nat.le_refl _,by simp,by rw[Nat.sub_self];exact c.1.1⟩
  rw[if_neg c] at h ⊢
  rcases BG l ps bs (k+1) h with⟨m,a,d⟩ | ⟨m,a,d,e,f⟩
  ·exact .inl ⟨m,a,d⟩
  refine .inr ⟨m,a,by omega,by simp only[List.length_cons];omega,?_⟩
  rw[show m - k=(m - (k+1))+1 by omega]
  exact f
theorem FY {bs:List eX} {ps:List Piece} {s:(List Int×List Int)×List dc} (h:kx bs ps.length s) (l:jn) (ht:(oZ bs ps l).2=true):∃m k:Nat,(oZ bs ps l).1.num=m/\(if (oZ bs ps l).1.bore=true then s.1.2 else s.1.1)[m]?=some (k:Int)/\k < s.2.length:=by
 rcases BG l ps bs 0 ht with⟨m,a,d⟩ | ⟨m,a,_,d,e⟩
 ·obtain⟨k,g,h1,h2,_⟩:=h.a m d
  refine⟨m,k,by rw[oZ,a],?_,(List.getElem?_eq_some_iff.1 h2).1⟩
  rw[oZ,a];exact h1
 obtain⟨k,g,h1,h2,_⟩:=h.b m (by omega) e
 refine⟨m,k,by rw[oZ,a],?_,(List.getElem?_eq_some_iff.1 h2).1⟩
 rw[oZ,a];exact h1
end Reg
namespace M
open Go.AM Go.RowKit Go.Lib
open Reg (aB ax eX jn Wt Piece dc Kd UF iota ik qZ tp jq ct cQ told a_ cx aQ through iA wQ gB kx mX nt sw oZ)
def q_ (g:dc):List PV:=[ints g.pieces,ints g.bores,.sl (g.pins.map pc)]
def Gf (g:dc):List PV:=[ints g.pieces,ints g.bores,.im (.slice none 0 0)]
def FZ (p:List (ByteArray×ByteArray)):HX:=if p=[] then .av .nl else .row 178 (p.map pc)
def gh (g:dc):List HX:=[.av (.p (ints g.pieces)),.av (.p (ints g.bores)),FZ g.pins]
theorem Kf (f:AV->AV) (hn:f .nl=.nl) (p:List (ByteArray×ByteArray)):HX.dm f (FZ p)=FZ p:=by
 unfold FZ
 split
 ·simp only[HX.dm,hn]
 rfl
theorem IB (f:AV->AV) (hp:∀x,f (.p x)=.p x) (hn:f .nl=.nl) (G:List dc):(G.map gh).map (fun r=>r.map (HX.dm f))=G.map gh:=by
 rw[List.map_map]
 refine List.map_congr_left fun g _=>?_
 show [HX.dm f _,HX.dm f _,HX.dm f (FZ g.pins)]=_
 rw[Kf f hn]
 simp only[HX.dm,hp]
 rfl
theorem xM (d:Nat) (G:List dc):(G.map gh).map (fun r=>r.map (HX.dm (sc d)))=G.map gh:=IB _ (fun _=>rfl) rfl G
theorem IC (i d:Nat) (G:List dc):(G.map gh).map (fun r=>r.map (HX.dm (rn i d)))=G.map gh:=IB _ (fun _=>rfl) rfl G
theorem iO (n:Nat) (G:List dc) (k d:Nat) (a b:PV) (h:sc n (.ow d)=.ow d):((G.map gh).set k [.av (.p a),.av (.p b),.av (.ow d)]).map (fun r=>r.map (HX.dm (sc n)))=(G.map gh).set k [.av (.p a),.av (.p b),.av (.ow d)]:=by
 rw[List.map_set,xM]
 simp only[List.map_cons,List.map_nil,HX.dm,h]
 rfl
theorem MQ {G:List dc} (h:∀g∈G,g.pins=[]):(G.map Gf).map qb=G.map gh:=by
 rw[List.map_map]
 refine List.map_congr_left fun g hg=>?_
 simp only[Function.comp,Gf,gh,h g hg]
 rfl
theorem MR (p:List (ByteArray×ByteArray)):Nb (FZ p) (.sl (p.map pc)):=by
 unfold FZ
 split
 ·rename_i e
  rw[e]
  exact .nl
 exact .row _ _
theorem Ds (G:List dc):IV (G.map gh) (G.map q_):=IV.map fun g _=>⟨rfl,fun j u v hu hv=>by
 match j with
 | 0=>simp only[gh,q_,List.getElem?_cons_zero,Option.some.injEq] at hu hv;subst hu;subst hv;exact .p _
 | 1=>simp only[gh,q_,List.getElem?_cons_succ,List.getElem?_cons_zero,Option.some.injEq] at hu hv;subst hu;subst hv;exact .p _
 | 2=>simp only[gh,q_,List.getElem?_cons_succ,List.getElem?_cons_zero,Option.some.injEq] at hu hv;subst hu;subst hv;exact MR _
 | j+3=>simp[gh] at hu⟩
def R_ (A:cV) (C:Ctx) (rs:List ResultVar) (args:List Arg) (r:AR) (fin:List Fin) (e:Exit) (s:AS):Prop:=∃s',aW A s s'/\ye C rs args r fin e s'
theorem Kg {C : Ctx} (hC : bV C) {f : FuncId} {fn : Func} {c : Code} (hf : C.P.funcs[f]? = some fn) (hb : fn.body = some c) (nP : (fn.name == "runtime.NumGoroutine") = false) {args : List Arg} {r : AR} {fin : List Fin} (n : Nat) (hn : args.length + (fn.ntmps - args.length) = n) (w_ : n ≤ 100000) (hok : f_ C n c = true)
  (h:∀(w0:World) (mv s0:Nat->Prop) (n:Nat) (pin:Nat->Value),∃s2,aW ⟨C,w0,mv,s0,n,pin⟩ ⟨sT args,lF args⟩ s2/\AF (iZ ⟨C,w0,mv,s0,n,pin⟩ c (R_ ⟨C,w0,mv,s0,n,pin⟩ C fn.results.toList args r fin)) s2.t s2.h):aD C f args r fin:=
 Cu hC hf hb nP (by omega) fun A hA Oc S rho a w sim=>by
  obtain⟨_,_,_,_,_,_⟩:=A
  subst hA
  obtain⟨s2,hl,hw⟩:=h _ _ _ _ _
  obtain⟨S',rho',cc⟩:=hl S rho a w sim
  have:=rS hC c _ s2 (by show f_ _ _ c=true;rw[Oc,hn];exact hok) hw.out S' rho' a w cc
  refine wp_mono this fun e a' w' hq=>?_
  obtain⟨S2,Mh,s3,eE,s4,U8,hk⟩:=hq
  obtain⟨S5,Sa,EY⟩:=U8 S2 Mh a' w' eE
  exact⟨S5,Sa,s4,EY,hk⟩
theorem of_eq {A:cV} {s s':AS} (h:s=s'):aW A s s':=h ▸ aW.refl A s
theorem aW.Kh {A:cV} (hC:bV A.C) (s:AS) (id k d:Nat) {e:TypeId} {G:List dc} {g:dc} {ti:TI} (hd:d < 100000) (hid:id≠d) (hb:s.h id=.aL e (G.map gh)) (hk:G[k]?=some g) (hT:A.C.T 178=some ti) (hpos:0 < ti.size):
  aW A s ⟨(WB d s).t,br (br (WB d s).h d (.row 178 (g.pins.map pc))) id (.aL e ((G.map gh).set k [.av (.p (ints g.pieces)),.av (.p (ints g.bores)),.av (.ow d)]))⟩:=by
 have JM:=(List.getElem?_eq_some_iff.1 hk).1
 have hr:(G.map gh)[k]?=some (gh g):=by rw[List.getElem?_map,hk];rfl
 have Lm:∀r∈G.map gh,∀x∈r,Ea x:=fun r hr x hx=>by
  obtain⟨g,_,rfl⟩:=List.mem_map.1 hr
  simp only[gh,List.mem_cons,List.not_mem_nil,or_false] at hx
  rcases hx with rfl | rfl | rfl
  ·trivial
  ·trivial
  unfold FZ;split <;> trivial
 by_cases c:g.pins=[]
 ·have h1:=aW.Mr hC s id k 2 (e':=178) hb hr (by rw[gh,FZ,if_pos c];rfl) hT hpos
  have h2:=aW.oK hC ⟨s.t,br s.h id (.aL e ((G.map gh).set k ((gh g).set 2 (.row 178 []))))⟩ id k 2 d (e:=e) (r:=(gh g).set 2 (.row 178 [])) hd hid (aO _ _ _) (fun r hr x hx=>by
   rcases List.mem_or_eq_of_mem_set hr with hr | hr
   ·exact Lm r hr x hx
   subst hr
   simp only[gh,List.set_cons_succ,List.set_cons_zero,List.mem_cons,List.not_mem_nil,or_false] at hx
   rcases hx with rfl | rfl | rfl <;> trivial) (List.getElem?_set_self (by rw[List.length_map];exact JM)) rfl
  refine (h1.trans h2).trans (of_eq ?_)
  rw[c]
  refine congrArg (AS.mk _) ?_
  funext j
  by_cases e1:j=id
  ·subst e1
   rw[aO,aO,List.set_set];rfl
  rw[bw _ _ e1,bw _ _ e1]
  by_cases e2:j=d
  ·subst e2
   rw[aO,aO];rfl
  rw[bw _ _ e2,bw _ _ e2]
  show br (fun m=>rH d (br s.h id _ m)) d .none j=br (fun m=>rH d (s.h m)) d .none j
  rw[bw _ _ e2,bw _ _ e2]
  show rH d (br _ _ _ j)=_
  rw[bw _ _ e1]
 have h2:=aW.oK hC s id k 2 d (e':=178) (xs:=g.pins.map pc) hd hid hb Lm hr (by rw[gh,FZ,if_neg c];rfl)
 exact h2
theorem Ki (p:List (ByteArray×ByteArray)) (x:ByteArray×ByteArray):FZ (p++[x])=.row 178 ((p++[x]).map pc):=by
 rw[FZ,if_neg (by simp)]
theorem vD (a:Wt) (ha:jG a) (dr:List (List PV)) (P:List Piece) (T:List (List Int)) (hP:P.length<=2000) (Lk:∀p∈P,(told p.set).length<=4398046511104) (hT:T.length=a.bores.length) (U:List Int) (hU:U=jq P.length a.bores.length T) (o:List Int×List Int) (G0:List dc) (hF:gB a.bores P.length (Reg.ba (Reg.dR U) (P.length+a.bores.length))=(o,G0)) (R:mX) (hR:R=a.lands.foldl (nt a.bores P o) ⟨G0,[],[]⟩) (Ty:∀x∈T,∀p∈x,0<=p/\p < P.length) (U9:∀x∈T,x.length<=1000000000):aD C 72 [.bb [.p (.sl (a.coppers.map rr)),.p (aV a.outline),.p (.sl (a.bores.map bc)),.p (.sl (a.lands.map lc)),.row 81 dr,.row 97 (P.map gw),.row 44 (T.map fun l=>[ints l]),.row 47 [],.row 3 [],.row 3 [],.row 3 [],.row 189 []]] (.tu []) [.bb [.p (.sl (a.coppers.map rr)),.p (aV a.outline),.p (.sl (a.bores.map bc)),.p (.sl (a.lands.map lc)),.row 81 dr,.row 97 (P.map gw),.row 44 (T.map fun l=>[ints l]),.row 47 (R.groups.map q_),.row 3 (aE o.1),.row 3 (aE o.2),.row 3 (aE R.ofLand),.row 189 (R.atLand.map iE)]]:=by
 have lb:=aN a.bores bc
 have lp:=aN P gw
 have lT:=aN T fun l=>[ints l]
 have tD:=ha.few
 obtain⟨n,hn⟩:∃n,n=P.length:=⟨_,rfl⟩
 rw[<-hn] at hU hF
 have U_:=Reg.vC (n:=n) (nb:=a.bores.length) T 0 (iota (n+a.bores.length)) (Reg.qU _) (Reg.WV _) (by omega) (by rw[hn];exact Ty)
 refine Kg hC Tryz.func72 rfl rfl 226 rfl (by decide) (by kernel_rfl) fun _ _ _ _ _=>⟨_,aW.open hC _ 100000 [90000,90001,90002,90003,90004,90005,90006,90007] (by exact rfl) rfl rfl rfl,?_⟩
 ((refine yS<|yq Z<|aA zI<|bd<|ak<|yV Z<|yV Z<|yV Z<|yP Z<|yA Z<|yU<|yP Z<|yq Z<|aA zI ?_;refine bd<|ak<|yV Z<|yV Z<|yV Z<|yP Z<|yP Z<|yq Z<|bg zI ?_);refine sI ?_)
 have CH:=FO (n+a.bores.length) (by omega)
 have O5:((n+a.bores.length:Nat):Int)=((P.map gw).length:Int)+((a.bores.map bc).length:Int):=by omega
 rw[O5] at CH
 (refine yk<|yn Z<|aK zI ?_;refine⟨_,_,CH,?_⟩)
 (refine aS (ak (cD Z (jW Z Z Z (nX Z) (ak (yT (au (yS (yq Z (aA zI (bd (ak (yV Z (yV Z ?_)))))))))))));refine yq Z<|aA zI<|bd<|af<|yP Z<|yP Z<|yT<|aZ ?_)
 refine aI (fun x:Nat×List Int=>tp n x.1 (T.drop x.1) x.2=U/\UF x.2/\x.2.length=n+a.bores.length/\x.1<=T.length) (fun x=>[(0,.bx 100000 0),(2,.p (i64 n)),(3,.bx 31 0),(35,.ow 90002),(36,.p (i64 T.length)),(37,.p (i64 x.1))]) (fun x=>[(100000,.box [.p (.sl (a.coppers.map rr)),.p (aV a.outline),.p (.sl (a.bores.map bc)),.p (.sl (a.lands.map lc)),.ow 90000,.ow 90001,.ow 90002,.ow 90003,.ow 90004,.ow 90005,.ow 90006,.ow 90007]),(90000,.row 81 dr),(90001,.row 97 (P.map gw)),(90002,.row 44 (T.map fun l=>[ints l])),(90003,.row 47 []),(90004,.row 3 []),(90005,.row 3 []),(90006,.row 3 []),(90007,.row 189 []),(31,.bb [.row 3 (aE x.2)])]) (fun x=>T.length - x.1) (0,iota (n+a.bores.length)) _ (aW.refl _ _) ⟨hU.symm,Reg.qU _,Reg.WV _,Nat.zero_le _⟩ ⟨rfl,congrArg (fun m:Nat=>AV.p (i64 m)) (lp.trans hn.symm),rfl,rfl,congrArg (fun m:Nat=>AV.p (i64 m)) lT,Z,Y⟩ ⟨Z,Z,Z,Z,Z,Z,Z,Z,Z,Z,Y⟩ fun ⟨k,u⟩ hx t h=>?_
 obtain⟨q1,q2,q3,q4⟩:=hx
 simp only at q1 q2 q3 q4
 (refine yS<|yP Z<|yT<|au<|az Z ?_;refine aa (fun g=>?_) (fun g=>?_) <;> try simp only[zB] at g)
 ·obtain⟨l,PW⟩:=bh (l:=T) (i:=k) (by omega)
  have PT:=Ty l (List.mem_of_getElem? PW)
  have V5:=U9 l (List.mem_of_getElem? PW)
  have ll:=aN l fun n=>[i64 n]
  rw[drop_at PW,tp] at q1
  (refine aJ<|aj<|au<|aZ<|yS<|yP Z<|yq Z<|bg zI ?_;refine And.intro ⟨by omega,by (try dsimp only);omega⟩ ?_)
  (refine bd<|bJ<|yq Z<|aK zI ?_;refine⟨[ints l],(idx rfl PW).2,?_⟩)
  refine yk<|yA Z<|yA Z<|yU<|yP Z<|yP Z<|yP Z<|yT<|aZ ?_
  refine aI (fun z:Nat×List Int=>qZ (n+k) (l.drop z.1) z.2=qZ (n+k) l u/\UF z.2/\z.2.length=n+a.bores.length) (fun z=>[(0,.bx 100000 0),(2,.p (i64 n)),(3,.bx 31 0),(35,.ow 90002),(36,.p (i64 T.length)),(37,.p (i64 k)),(4,.p (i64 k)),(42,.p (ints l)),(43,.p (i64 l.length)),(44,.p (i64 z.1))]) (fun z=>[(100000,.box [.p (.sl (a.coppers.map rr)),.p (aV a.outline),.p (.sl (a.bores.map bc)),.p (.sl (a.lands.map lc)),.ow 90000,.ow 90001,.ow 90002,.ow 90003,.ow 90004,.ow 90005,.ow 90006,.ow 90007]),(90000,.row 81 dr),(90001,.row 97 (P.map gw)),(90002,.row 44 (T.map fun l=>[ints l])),(90003,.row 47 []),(90004,.row 3 []),(90005,.row 3 []),(90006,.row 3 []),(90007,.row 189 []),(31,.bb [.row 3 (aE z.2)])]) (fun z=>l.length - z.1) (0,u) _ (aW.refl _ _) ⟨rfl,q2,q3⟩ ⟨rfl,rfl,rfl,rfl,rfl,rfl,rfl,rfl,congrArg (fun m:Nat=>AV.p (i64 m)) ll,Z,Y⟩ ⟨Z,Z,Z,Z,Z,Z,Z,Z,Z,Z,Y⟩ fun ⟨j,v⟩ hz t h=>?_
  obtain⟨z1,z2,z3⟩:=hz
  simp only at z1 z2 z3
  (refine yS<|yP Z<|yT<|au<|az Z ?_;refine aa (fun g2=>?_) (fun g2=>?_) <;> try simp only[zB] at g2)
  ·obtain⟨p,Sb⟩:=bh (l:=l) (i:=j) (by omega)
   have PQ:=PT p (List.mem_of_getElem? Sb)
   rw[drop_at Sb,qZ] at z1
   have Tz:((p.toNat:Nat):Int)=p:=Int.toNat_of_nonneg PQ.1
   have hj:=Dn v z2 p.toNat (n+k) (by omega) (by omega)
   rw[Tz,Int.natCast_add] at hj
   obtain⟨w1,w2⟩:=Reg.qV z2 (i:=p.toNat) (k:=n+k) (by omega) (by omega)
   (refine aJ<|aj<|au<|aZ<|yS<|yq Z<|aK zI ?_;refine⟨[i64 p],(idx rfl Sb),?_⟩)
   (refine yk<|yP Z<|yA Z<|yT<|aM<|yq Z<|aA zI<|bd<|ak<|yP Z<|yP Z<|yP Z<|yq Z<|bg zI ?_;refine sI ?_)
   (refine yk<|yn Z<|aK zI ?_;refine⟨_,_,hj,?_⟩)
   (refine b9 Z Z<|aF<|bq<|cL<|bp<|aj<|aM<|yq Z<|bg zI ?_;refine sI ?_)
   (refine yk<|yP Z<|yT<|ai ?_;refine⟨(j+1,ik v p.toNat (n+k)),_,aW.refl _ _,?_⟩)
   exact⟨⟨z1,w1,w2.trans z3⟩,by simp only;omega,⟨Z,Z,Z,Z,Z,Z,Z,Z,Z,Z,Y⟩,⟨Z,Z,Z,Z,Z,Z,Z,Z,Z,Z,Y⟩⟩
  rw[List.drop_of_length_le (by omega),qZ] at z1
  (refine bT<|aY<|aY<|bU<|bp<|aj<|aM<|yq Z<|bg zI ?_;refine sI ?_)
  (refine yk<|yP Z<|yT<|ai ?_;refine⟨(k+1,v),_,aW.refl _ _,?_⟩)
  exact⟨⟨by rw[z1];exact q1,z2,z3,by simp only;omega⟩,by simp only;omega,⟨Z,Z,Z,Z,Z,Z,Y⟩,⟨Z,Z,Z,Z,Z,Z,Z,Z,Z,Z,Y⟩⟩
 rw[List.drop_of_length_le (by omega),tp] at q1
 have ID:=Dq u q2 (by omega)
 rw[q3] at ID
 obtain⟨LL,Kb⟩:∃LL,LL=Reg.ba (Reg.dR u) (n+a.bores.length):=⟨_,rfl⟩
 rw[<-Kb] at ID
 have Va:∀l∈LL,l.length<=n+a.bores.length/\∀i∈l,i < n+a.bores.length:=fun l hl=>by
  rw[Kb,Reg.ba] at hl
  obtain⟨r,_,rfl⟩:=List.mem_map.1 hl
  exact⟨Reg.l7 _ _ _,fun i hi=>(Reg.fD.1 hi).1⟩
 have Cp:LL.length<=n+a.bores.length:=by rw[Kb,Reg.l6];exact Reg.om _ _
 obtain⟨F,Sc⟩:∃F,F=gB a.bores n LL:=⟨_,rfl⟩
 have Vb:F=(o,G0):=by rw[Sc,Kb,<-hF,<-q1]
 ((refine bT (aY (aY (bU (aj (au (cH [66] false [true,true,true,true,true,true,true,true,true,false,false,true,true,false,true,true,true] rfl (by kernel_rfl) (ay Z (ay Z (ay Z (cA Z Z (ay Z (ay Z (ay Z ?_)))))))))))));refine ay Z<|ay Z<|ay Z<|cA Z Z<|cG Z<|dq Z<|aA zI<|bB<|ak<|dq Z<|aA zI<|bB<|ak<|yD Z ?_;refine dq Z<|bg zI ?_);refine And.intro ⟨by omega,by omega,by dsimp only;omega,by omega⟩ ?_)
 (refine jA Z Z<|af<|dq Z<|aA zI<|bB<|ak<|yW Z<|yW Z<|yW Z<|yD Z<|yD Z<|dq Z<|bg zI ?_;refine And.intro ⟨by omega,by omega,by dsimp only;omega,by omega⟩ ?_)
 ((refine jA Z Z<|af<|yW Z<|yW Z<|dq Z<|aA zI<|iG Z<|aF<|an<|yW Z<|yW Z<|dq Z<|aA zI<|iG Z ?_;refine aF<|an<|cn<|bz Z<|aj<|au<|yS<|yq Z<|aA zI<|bd<|ak<|yn Z<|aK zI ?_);refine⟨_,_,ID,?_⟩)
 have Vc:=aN LL pl
 have Vd:aE (List.replicate n 0)=List.replicate n [i64 0]:=by rw[aE,List.map_replicate]
 have Ve:aE (List.replicate a.bores.length 0)=List.replicate a.bores.length [i64 0]:=by rw[aE,List.map_replicate]
 refine aS<|aF<|af<|yP Z<|yP Z<|yT<|aZ ?_
 refine aI (fun x:Nat×(List Int×List Int)×List dc=>(LL.drop x.1).foldl (wQ a.bores n) x.2=F/\x.2.1.1.length=n/\x.2.1.2.length=a.bores.length/\x.2.2.length<=x.1/\x.1<=LL.length) (fun x=>[(0,.bx 100000 0),(2,.p (i64 n)),(72,.p (.sl (LL.map pl))),(73,.p (i64 LL.length)),(74,.p (i64 x.1))]) (fun x=>[(100000,.box [.p (.sl (a.coppers.map rr)),.p (aV a.outline),.p (.sl (a.bores.map bc)),.p (.sl (a.lands.map lc)),.ow 90000,.ow 90001,.ow 90002,.ow 90003,.ow 90004,.ow 90005,.ow 90006,.ow 90007]),(90000,.row 81 dr),(90001,.row 97 (P.map gw)),(90002,.row 44 (T.map fun l=>[ints l])),(90003,.row 47 (x.2.2.map Gf)),(90004,.row 3 (aE x.2.1.1)),(90005,.row 3 (aE x.2.1.2)),(90006,.row 3 []),(90007,.row 189 [])]) (fun x=>LL.length - x.1) (0,(List.replicate n 0,List.replicate a.bores.length 0),[]) _ ((aW.own (by exact hC) _ 72 (id:=72) (by exact rfl) (by exact rfl)).trans ((aW.pack (by exact hC) _ 100000 (cs:=[.p (.sl (a.coppers.map rr)),.p (aV a.outline),.p (.sl (a.bores.map bc)),.p (.sl (a.lands.map lc)),.row 81 dr,.row 97 (P.map gw),.row 44 (T.map fun l=>[ints l]),.row 47 [],.row 3 (aE (List.replicate n 0)),.row 3 (aE (List.replicate a.bores.length 0)),.row 3 [],.row 189 []]) (by exact rfl) (by exact rfl) (by exact⟨rfl,rfl,rfl,rfl,rfl,rfl,rfl,rfl,congrArg (AB.row _) (by rw[Vd];rfl),congrArg (AB.row _) (by rw[Ve,<-lb];rfl),Z,Z,Y⟩)).trans (aW.open (by exact hC) _ 100000 [90000,90001,90002,90003,90004,90005,90006,90007] (cs:=[.p (.sl (a.coppers.map rr)),.p (aV a.outline),.p (.sl (a.bores.map bc)),.p (.sl (a.lands.map lc)),.row 81 dr,.row 97 (P.map gw),.row 44 (T.map fun l=>[ints l]),.row 47 [],.row 3 (aE (List.replicate n 0)),.row 3 (aE (List.replicate a.bores.length 0)),.row 3 [],.row 189 []]) (by exact rfl) rfl rfl rfl))) ⟨Sc.symm,List.length_replicate,List.length_replicate,Nat.zero_le _,Nat.zero_le _⟩ ⟨rfl,rfl,rfl,congrArg (fun m:Nat=>AV.p (i64 m)) Vc,Z,Y⟩ ⟨Z,Z,Z,Z,Z,Z,Z,Z,Z,Y⟩ fun ⟨j,⟨op,ob⟩,G⟩ hx t h=>?_
 obtain⟨y1,y2,y3,y4,y5⟩:=hx
 simp only at y1 y2 y3 y4 y5
 (refine yS<|yP Z<|yT<|au<|az Z ?_;refine aa (fun g2=>?_) (fun g2=>?_) <;> try simp only[zB] at g2)
 ·obtain⟨l,Sd⟩:=bh (l:=LL) (i:=j) (by omega)
  obtain⟨Gp,xW⟩:=Va l (List.mem_of_getElem? Sd)
  rw[drop_at Sd,List.foldl_cons] at y1
  (refine aJ<|aj<|au<|aZ<|yS<|yq Z<|aK zI ?_;refine⟨(pl l),(idx rfl Sd),?_⟩)
  refine yk<|yP Z<|yA Z<|yU<|yn Z<|aA zI<|aS<|ak<|yT ?_
  refine fB ?_
  refine yS<|yP Z<|yP Z<|yP Z<|yT<|aZ ?_
  have Vf:(aE (l.map fun (m:Nat)=>(m:Int))).length=l.length:=by rw[cg,List.length_map]
  obtain⟨r,hr⟩:∃r,r=l.foldl (iA a.bores n G.length) ((op,ob),[],[]):=⟨_,rfl⟩
  have lH:wQ a.bores n ((op,ob),G) l=(r.1,if 0 < r.2.1.length+r.2.2.length then G++[⟨r.2.1,r.2.2,[]⟩] else G):=by rw[hr];rfl
  rw[lH] at y1
  refine aI (fun y:Nat×(List Int×List Int)×List Int×List Int=>(l.drop y.1).foldl (iA a.bores n G.length) y.2=r/\y.2.1.1.length=n/\y.2.1.2.length=a.bores.length/\y.2.2.1.length<=y.1/\y.2.2.2.length<=y.1/\y.1<=l.length) (fun y=>[(0,.bx 100000 0),(2,.p (i64 n)),(72,.p (.sl (LL.map pl))),(73,.p (i64 LL.length)),(74,.p (i64 j)),(10,.bx 10 0),(78,.p (.sl (aE (l.map fun (m:Nat)=>(m:Int))))),(79,.p (i64 l.length)),(80,.p (i64 y.1))]) (fun y=>[(100000,.box [.p (.sl (a.coppers.map rr)),.p (aV a.outline),.p (.sl (a.bores.map bc)),.p (.sl (a.lands.map lc)),.ow 90000,.ow 90001,.ow 90002,.ow 90003,.ow 90004,.ow 90005,.ow 90006,.ow 90007]),(90000,.row 81 dr),(90001,.row 97 (P.map gw)),(90002,.row 44 (T.map fun l=>[ints l])),(90003,.row 47 (G.map Gf)),(90004,.row 3 (aE y.2.1.1)),(90005,.row 3 (aE y.2.1.2)),(90006,.row 3 []),(90007,.row 189 []),(10,.box [.ow 90100,.ow 90101,.nl]),(90100,.row 3 (aE y.2.2.1)),(90101,.row 3 (aE y.2.2.2))]) (fun y=>l.length - y.1) (0,(op,ob),[],[]) _ ((aW.gY (by exact hC) _ 10 0 90100 3 _ _ (by decide) (by decide) (by exact rfl) (by exact rfl) (by exact rfl) (by decide)).trans (aW.gY (by exact hC) _ 10 1 90101 3 _ _ (by decide) (by decide) (by exact rfl) (by exact rfl) (by exact rfl) (by decide))) ⟨hr.symm,y2,y3,Nat.le_refl _,Nat.le_refl _,Nat.zero_le _⟩ ⟨rfl,rfl,rfl,rfl,rfl,rfl,rfl,congrArg (fun m:Nat=>AV.p (i64 m)) Vf,Z,Y⟩ ⟨Z,Z,Z,Z,Z,Z,Z,Z,Z,Z,Z,Z,Y⟩ fun ⟨m,⟨IE,B1⟩,ps,bs⟩ hy t h=>?_
  obtain⟨w1,w2,w3,w4,w5,w6⟩:=hy
  simp only at w1 w2 w3 w4 w5 w6
  (refine yS<|yP Z<|yT<|au<|az Z ?_;refine aa (fun g3=>?_) (fun g3=>?_) <;> try simp only[zB] at g3)
  ·obtain⟨i,Se⟩:=bh (l:=l) (i:=m) (by omega)
   have V6:=xW i (List.mem_of_getElem? Se)
   rw[drop_at Se,List.foldl_cons] at w1
   have lG:=aN G Gf
   (refine aJ<|aj<|au<|aZ<|yS<|yq Z<|aK zI ?_;refine⟨[i64 i],⟨by omega,cY (by rw[List.getElem?_map];simp[Se])⟩,?_⟩)
   (refine yk<|yP Z<|yA Z<|yT<|aZ<|yS<|yP Z<|yP Z<|yP Z<|yA Z<|yT<|az Z ?_;refine aa (fun g4=>?_) (fun g4=>?_) <;> try simp only[zB] at g4)
   ·rw[iA,if_pos (by omega)] at w1
    obtain⟨v,hv⟩:=bh (l:=IE) (i:=i) (by omega)
    have lv:=cg IE
    have Sf:=cg ps
    ((refine au<|cH [] false HF rfl (by kernel_rfl)<|cG Z<|dq Z<|aA zI<|bB<|ak<|yW Z<|yW Z<|yW Z<|yD Z<|dq Z<|aA zI<|bB ?_;refine ak<|yW Z<|yW Z<|yW Z<|yD Z<|dq Z<|bg zI ?_);refine And.intro ⟨by omega,by (try dsimp only);omega⟩ ?_)
    (refine bB<|bJ<|dq Z<|aK zI ?_;refine⟨[i64 v],(cY hv),?_⟩)
    ((refine iG Z<|aF<|an<|cn<|bz Z<|aj<|aM<|yV Z<|yV Z<|yP Z<|yn Z<|aA zI<|aS<|af ?_;refine yn Z<|bg zI ?_);refine And.intro ⟨fun r hr=>by simp at hr;subst hr;rfl,by simp only[Sf,List.length_set,List.length_replicate];omega,by simp only[Sf,List.length_set,List.length_replicate];omega⟩ ?_)
    ((refine aS<|aF<|af<|yV Z<|yq Z<|aA zI<|bd<|aF<|an<|cL<|bp<|bp<|aj<|aM ?_;refine yq Z<|bg zI ?_);refine sI ?_)
    refine yk<|yP Z<|yT<|ai ?_
    refine⟨(m+1,(IE.set i (G.length:Int),B1),ps++[(i:Int)],bs),_,aW.E9 _ 111 90100 (by decide) (by decide),?_⟩
    exact⟨⟨w1,by simp only[List.length_set];exact w2,w3,by simp only[List.length_append,List.length_singleton];omega,by simp only;omega,by simp only;omega⟩,by simp only;omega,⟨Z,Z,Z,Z,Z,Z,Z,Z,Z,Y⟩,⟨rfl,rfl,rfl,rfl,rfl,congrArg (AB.row _) ((eO IE i ((G.map Gf).length:Int)).trans (by rw[lG])),rfl,rfl,rfl,rfl,congrArg (AB.row _) (jf ps i).symm,Z,Y⟩⟩
   rw[iA,if_neg (by omega)] at w1
   (refine yS<|yq Z<|aA zI<|bd<|ak<|yV Z<|yV Z<|yV Z<|yP Z<|yP Z<|yP Z<|yq Z<|bg zI ?_;refine sI ?_)
   obtain⟨b,I6⟩:=bh (l:=a.bores) (i:=i - n) (by omega)
   have MB:a.bores.getD (i - n) ⟨0,0,0,0,0,false⟩=b:=by rw[List.getD_eq_getElem?_getD,I6];rfl
   rw[MB] at w1
   (refine yk<|yq Z<|aK zI ?_;refine⟨(bc b),(idx (show (i:Int) - n=((i - n:Nat):Int) by omega) I6),?_⟩)
   (refine yk<|yP Z<|yP Z<|yA Z<|yT<|az Z ?_;refine aa (fun g5=>?_) (fun g5=>?_) <;> try simp only[zB] at g5)
   ·rw[if_pos g5] at w1
    have e1:(i:Int) - n=((i - n:Nat):Int):=by omega
    obtain⟨v,hv⟩:=bh (l:=B1) (i:=i - n) (by omega)
    have lv:=cg B1
    have PR:=cg bs
    (refine au<|cH [] false RG rfl (by kernel_rfl)<|cG Z<|dq Z<|aA zI<|bB<|ak<|yW Z<|yW Z<|yW Z<|yD Z<|yD Z<|dq Z<|bg zI ?_;refine sI ?_)
    (refine bB<|ae<|dq Z<|aA zI<|bB<|ak<|yW Z<|yW Z<|yW Z<|yD Z<|dq Z<|bg zI ?_;refine And.intro ⟨by omega,by (try dsimp only);omega⟩ ?_)
    (refine bB<|bJ<|dq Z<|aK zI ?_;refine⟨[i64 v],(by rw[e1];exact cY hv),?_⟩)
    (refine iG Z<|aF<|an<|cn<|bz Z<|aj<|aM<|yV Z<|yV Z<|yP Z<|yP Z<|yq Z<|bg zI ?_;refine sI ?_)
    (refine yk<|yn Z<|aA zI<|aS<|af<|yn Z<|bg zI ?_;refine And.intro ⟨fun r hr=>by simp at hr;subst hr;rfl,by simp only[PR,List.length_set,List.length_replicate];omega,by simp only[PR,List.length_set,List.length_replicate];omega⟩ ?_)
    ((refine aS<|aF<|af<|yV Z<|yq Z<|aA zI<|bd<|aF<|an<|cL<|bp<|bp<|aj<|aM ?_;refine yq Z<|bg zI ?_);refine sI ?_)
    refine yk<|yP Z<|yT<|ai ?_
    refine⟨(m+1,(IE,B1.set (i - n) (G.length:Int)),ps,bs++[(i:Int) - n]),_,aW.E9 _ 144 90101 (by decide) (by decide),?_⟩
    exact⟨⟨w1,w2,by simp only[List.length_set];exact w3,by simp only;omega,by simp only[List.length_append,List.length_singleton];omega,by simp only;omega⟩,by simp only;omega,⟨Z,Z,Z,Z,Z,Z,Z,Z,Z,Y⟩,⟨rfl,rfl,rfl,rfl,rfl,rfl,congrArg (AB.row _) ((congrArg (fun z=>List.set (aE B1) z _) (show ((i:Int) - n).toNat=i - n by omega)).trans ((eO B1 (i - n) ((G.map Gf).length:Int)).trans (by rw[lG]))),rfl,rfl,rfl,rfl,congrArg (AB.row _) (jf bs ((i:Int) - n)).symm,trivial⟩⟩
   rw[if_neg (by rw[g5];decide)] at w1
   have e1:(i:Int) - n=((i - n:Nat):Int):=by omega
   obtain⟨v,hv⟩:=bh (l:=B1) (i:=i - n) (by omega)
   have lv:=cg B1
   (refine aM<|yq Z<|aA zI<|bd<|ak<|yV Z<|yV Z<|yV Z<|yP Z<|yP Z<|yq Z<|bg zI ?_;refine sI ?_)
   (refine yk<|yq Z<|bg zI ?_;refine And.intro ⟨by omega,by (try dsimp only);omega⟩ ?_)
   (refine bd<|bJ<|yq Z<|aK zI ?_;refine⟨[i64 v],(by rw[e1];exact cY hv),?_⟩)
   (refine bd<|aF<|an<|cL<|bp<|bp<|aj<|aM<|yq Z<|bg zI ?_;refine sI ?_)
   (refine yk<|yP Z<|yT<|ai ?_;refine⟨(m+1,(IE,B1.set (i - n) (-1)),ps,bs),_,aW.refl _ _,?_⟩)
   exact⟨⟨w1,w2,by simp only[List.length_set];exact w3,by simp only;omega,by simp only;omega,by simp only;omega⟩,by simp only;omega,⟨Z,Z,Z,Z,Z,Z,Z,Z,Z,Y⟩,⟨rfl,rfl,rfl,rfl,rfl,rfl,congrArg (AB.row _) ((congrArg (fun z=>List.set (aE B1) z _) (show ((i:Int) - n).toNat=i - n by omega)).trans (eO B1 (i - n) (-1))),Z,Z,Z,Z,Z,Y⟩⟩
  have e:l.length<=m:=by omega
  rw[List.drop_of_length_le e] at w1
  have w1:((IE,B1),ps,bs)=r:=w1
  rw[<-w1] at y1
  simp only at y1
  have Sf:=cg ps
  have PR:=cg bs
  have lG:=aN G Gf
  refine bT<|aY<|aY<|bU<|aj<|ai ?_
  refine CR ((aW.gZ (by exact hC) _ 10 0 90100 3 _ _ (by decide) (by exact rfl) (by exact rfl) (by exact rfl)).trans ((aW.gZ (by exact hC) _ 10 1 90101 3 _ _ (by decide) (by exact rfl) (by exact rfl) (by exact rfl)).trans (aW.Oj (by exact hC) _ 10 2 _ (by exact rfl) (by exact rfl)))) ?_
  (refine yS<|yV Z<|yP Z<|yP Z<|yV Z<|yP Z<|yP Z<|yq Z<|bg zI ?_;refine And.intro ⟨by dsimp only;omega,by dsimp only;omega⟩ ?_)
  (refine yk<|yP Z<|yT<|az Z ?_;refine aa (fun g4=>?_) (fun g4=>?_) <;> try simp only[zB] at g4)
  ·rw[if_pos (by omega)] at y1
   ((refine cH [] true yy rfl (by kernel_rfl)<|ay Z<|ay Z<|ay Z<|ay Z<|ay Z<|ay Z<|cA Z Z<|cA Z Z<|cG Z<|dq Z<|aA zI<|bB<|ak ?_;refine dq Z<|aA zI<|bB<|ak<|yW Z<|yW Z<|dq Z<|aA zI<|bB<|af<|yD Z<|dq Z<|aA zI<|jA Z Z ?_;refine af<|dq Z<|bg zI ?_);refine And.intro ⟨fun r hr=>by simp at hr;subst hr;rfl,by simp only[lG,List.length_set,List.length_replicate];omega,by simp only[lG,List.length_set,List.length_replicate];omega⟩ ?_)
   ((refine hD Z Z Z<|fM<|g_<|af<|yW Z<|yW Z<|dq Z<|aA zI<|iG Z<|aF<|an<|cn<|bz Z<|bp ?_;refine aj<|aM<|yq Z<|bg zI ?_);refine sI ?_)
   refine yk<|yP Z<|yT<|ai ?_
   refine⟨(j+1,(IE,B1),G++[dc.mk ps bs []]),_,((aW.pack (by exact hC) _ 100000 (cs:=[.p (.sl (a.coppers.map rr)),.p (aV a.outline),.p (.sl (a.bores.map bc)),.p (.sl (a.lands.map lc)),.row 81 dr,.row 97 (P.map gw),.row 44 (T.map fun l=>[ints l]),.row 47 ((G++[dc.mk ps bs []]).map Gf),.row 3 (aE IE),.row 3 (aE B1),.row 3 [],.row 189 []]) (by exact rfl) (by exact rfl) (by exact⟨rfl,rfl,rfl,rfl,rfl,rfl,rfl,by rw[List.map_append];rfl,Z,Z,Z,Z,Y⟩)).trans (aW.open (by exact hC) _ 100000 [90000,90001,90002,90003,90004,90005,90006,90007] (cs:=[.p (.sl (a.coppers.map rr)),.p (aV a.outline),.p (.sl (a.bores.map bc)),.p (.sl (a.lands.map lc)),.row 81 dr,.row 97 (P.map gw),.row 44 (T.map fun l=>[ints l]),.row 47 ((G++[dc.mk ps bs []]).map Gf),.row 3 (aE IE),.row 3 (aE B1),.row 3 [],.row 189 []]) (by exact rfl) rfl rfl rfl)),?_⟩
   exact⟨⟨y1,w2,w3,by simp only[List.length_append,List.length_singleton];omega,by simp only;omega⟩,by simp only;omega,⟨Z,Z,Z,Z,Z,Y⟩,⟨Z,Z,Z,Z,Z,Z,Z,Z,Z,Y⟩⟩
  rw[if_neg (by omega)] at y1
  (refine aJ<|bp<|aj<|aM<|yq Z<|bg zI ?_;refine sI ?_)
  (refine yk<|yP Z<|yT<|ai ?_;refine⟨(j+1,(IE,B1),G),_,aW.refl _ _,?_⟩)
  exact⟨⟨y1,w2,w3,by simp only;omega,by simp only;omega⟩,by simp only;omega,⟨Z,Z,Z,Z,Z,Y⟩,⟨Z,Z,Z,Z,Z,Z,Z,Z,Z,Y⟩⟩
 rw[List.drop_of_length_le (by omega)] at y1
 have y1:((op,ob),G)=F:=y1
 have MS:kx a.bores n F:=by rw[Sc,Kb];exact Reg.xL q2 q3
 rw[<-y1] at MS
 have lG:=aN G Gf
 have ll:=aN a.lands lc
 have Vg:=ha.lan
 have Ln:∀g∈G,g.pins=[]:=fun g hg=>by
  obtain⟨k,hk⟩:=List.mem_iff_getElem?.1 hg
  exact (MS.c k g hk).1
 have Vh:((op,ob),G)=(o,G0):=y1.trans Vb
 injection Vh with ho Vi
 subst ho
 subst Vi
 (refine bT<|aY<|aY<|bU<|aj<|yS<|yq Z<|aA zI<|bd<|ak<|yV Z<|yV Z<|yV Z<|yP Z ?_;refine yP Z<|yP Z<|yT<|aZ ?_)
 refine aI (fun x:Nat×mX=>(a.lands.drop x.1).foldl (nt a.bores P (op,ob)) x.2=R/\x.2.groups.length=G.length/\x.2.ofLand.length=x.1/\x.2.atLand.length=x.1/\x.1<=a.lands.length/\∀g∈x.2.groups,g.pins.length<=x.1) (fun x=>[(0,.bx 100000 0),(170,.p (.sl (a.lands.map lc))),(171,.p (i64 a.lands.length)),(172,.p (i64 x.1))]) (fun x=>[(100000,.box [.p (.sl (a.coppers.map rr)),.p (aV a.outline),.p (.sl (a.bores.map bc)),.p (.sl (a.lands.map lc)),.ow 90000,.ow 90001,.ow 90002,.ow 90003,.ow 90004,.ow 90005,.ow 90006,.ow 90007]),(90000,.row 81 dr),(90001,.row 97 (P.map gw)),(90002,.row 44 (T.map fun l=>[ints l])),(90003,.aL 47 (x.2.groups.map gh)),(90004,.row 3 (aE op)),(90005,.row 3 (aE ob)),(90006,.row 3 (aE x.2.ofLand)),(90007,.row 189 (x.2.atLand.map iE))]) (fun x=>a.lands.length - x.1) (0,⟨G,[],[]⟩) _ (aW.Ro (by exact hC) _ 90003 (e:=47) (es:=G.map Gf) (by exact rfl)) ⟨hR.symm,rfl,rfl,rfl,Nat.zero_le _,fun g hg=>by rw[Ln g hg];exact Nat.le_refl _⟩ ⟨rfl,rfl,congrArg (fun m:Nat=>AV.p (i64 m)) ll,Z,Y⟩ ⟨rfl,rfl,rfl,rfl,congrArg (AB.aL _) (MQ Ln),Z,Z,Z,Z,Y⟩ fun ⟨i,s⟩ hx t h=>?_
 obtain⟨v1,v2,v3,v4,v5,v6⟩:=hx
 simp only at v1 v2 v3 v4 v5 v6
 (refine yS<|yP Z<|yT<|au<|az Z ?_;refine aa (fun g3=>?_) (fun g3=>?_) <;> try simp only[zB] at g3)
 ·obtain⟨l,TA⟩:=bh (l:=a.lands) (i:=i) (by omega)
  rw[drop_at TA,List.foldl_cons] at v1
  (refine aJ<|aj<|au<|aZ<|yS<|yq Z<|aK zI ?_;refine⟨(lc l),(idx rfl TA),?_⟩)
  obtain⟨hp,O6⟩:∃hp,hp=oZ a.bores P l:=⟨_,rfl⟩
  have Nq:=zy a ha l dr (T.map fun l=>[ints l]) (s.groups.map q_) (aE s.ofLand) (s.atLand.map iE) op ob P (by omega) Lk
  rw[<-O6] at Nq
  (refine yk<|yP Z<|yn Z<|aA zI<|aS<|ak<|yq Z<|aA zI<|bd<|aF<|an<|yU<|yq Z<|aA zI ?_;refine bd<|ak<|yP Z<|yn Z<|aK zI ?_)
  refine⟨[.ip ((kG a)++[.sl dr,.sl (P.map gw),.sl (T.map fun l=>[ints l]),.sl (s.groups.map q_),ints op,ints ob,.sl (aE s.ofLand),.sl (s.atLand.map iE)]),.ag (lc l)],_,.cons (.box 100000 0 _ ((kG a)++[.sl dr,.sl (P.map gw),.sl (T.map fun l=>[ints l]),.sl (s.groups.map q_),ints op,ints ob,.sl (aE s.ofLand),.sl (s.atLand.map iE)]) (by exact rfl) (.cons (.p _) (.cons (.p _) (.cons (.p _) (.cons (.p _) (.cons (.row 90000 _ _ (by exact rfl)) (.cons (.row 90001 _ _ (by exact rfl)) (.cons (.row 90002 _ _ (by exact rfl)) (.cons (.aL 90003 47 (s.groups.map gh) (s.groups.map q_) (by exact congrArg (AB.aL _) (by simp only[xM])) (Ds _)) (.cons (.row 90004 _ _ (by exact rfl)) (.cons (.row 90005 _ _ (by exact rfl)) (.cons (.row 90006 _ _ (by exact rfl)) (.cons (.row 90007 _ _ (by exact rfl)) .nil))))))))))))) (.cons (.one (.p _)) .nil),Nq,rfl,?_⟩
  ((refine b9 Z Z<|bq<|yq Z<|aA zI<|bd<|bq<|yP Z<|yP Z<|yn Z<|aA zI<|aS<|ak<|yq Z<|aA zI ?_;refine bd<|aF<|an<|yA Z<|yU<|yA Z<|yT<|au<|yS<|yP Z<|yT<|az Z ?_);refine aa (fun g4=>?_) (fun g4=>?_) <;> try simp only[zB] at g4)
  ·have O7:kx a.bores P.length ((op,ob),G):=hn ▸ MS
   obtain⟨m,k,e1,e2,e3⟩:=Reg.FY O7 l (by rw[<-O6];exact g4)
   rw[<-O6] at e1 e2
   have e3:k < G.length:=e3
   obtain⟨gg,OT⟩:=bh (l:=s.groups) (i:=k) (by omega)
   have qi:=v6 gg (List.mem_of_getElem? OT)
   have JU:nt a.bores P (op,ob) s l=⟨s.groups.set k (sw (l.part,l.pin) gg),s.ofLand++[(k:Int)],s.atLand++[hp.1]⟩:=by
    rw[nt]
    simp only[<-O6]
    have g4:hp.2=true:=g4
    rw[g4,if_pos rfl,if_pos rfl,e1,Int.toNat_natCast,List.getD_eq_getElem?_getD (l:=if hp.1.bore=true then ob else op),e2]
    simp only[Option.getD_some,Int.toNat_natCast,List.getD_eq_getElem?_getD,OT]
   rw[JU] at v1
   have Vj:=q8 a hp.1 dr (T.map fun l=>[ints l]) (s.groups.map q_) (aE s.ofLand) (s.atLand.map iE) op ob P m e1 k e2
   skip
   refine fB ?_
   refine aM<|yq Z<|aA zI<|bd<|ak<|yP Z<|yn Z<|aK zI ?_
   refine⟨[.ip ((kG a)++[.sl dr,.sl (P.map gw),.sl (T.map fun l=>[ints l]),.sl (s.groups.map q_),ints op,ints ob,.sl (aE s.ofLand),.sl (s.atLand.map iE)]),.ag (iE hp.1)],_,.cons (.box 100000 0 _ ((kG a)++[.sl dr,.sl (P.map gw),.sl (T.map fun l=>[ints l]),.sl (s.groups.map q_),ints op,ints ob,.sl (aE s.ofLand),.sl (s.atLand.map iE)]) (by exact rfl) (.cons (.p _) (.cons (.p _) (.cons (.p _) (.cons (.p _) (.cons (.row 90000 _ _ (by exact rfl)) (.cons (.row 90001 _ _ (by exact rfl)) (.cons (.row 90002 _ _ (by exact rfl)) (.cons (.aL 90003 47 (s.groups.map gh) (s.groups.map q_) (by exact congrArg (AB.aL _) (by simp only[xM])) (Ds _)) (.cons (.row 90004 _ _ (by exact rfl)) (.cons (.row 90005 _ _ (by exact rfl)) (.cons (.row 90006 _ _ (by exact rfl)) (.cons (.row 90007 _ _ (by exact rfl)) .nil))))))))))))) (.cons (.one (.p _)) .nil),Vj,rfl,?_⟩
   refine b9 Z Z<|ae<|yA Z<|yT<|ai ?_
   refine CR (aW.Kh (by exact hC) _ 90003 k 90200 (e:=47) (by decide) (by decide) (by exact congrArg (AB.aL _) (by simp only[xM])) OT (by exact rfl) (by decide)) ?_
   have TB:(s.groups.map gh).length=s.groups.length:=List.length_map _
   have TC:=aN gg.pins pc
   have O8:=cg s.ofLand
   have O9:=aN s.atLand iE
   ((refine cH [14,1000014,15,1000015,90003,1090003,100000,1100000] true [true,false,false,false,true,true,true,true,true,true,true,true,true,true,true,true,false,true,true,true] rfl (by kernel_rfl) (ay Z (ay Z (ay Z (ay Z (ay Z (ay Z (ay Z (ay Z (ay Z (ay Z (ay Z (ay Z (ay Z ?_)))))))))))));refine ay Z<|cA Z Z<|cA Z Z<|cA Z Z<|cG Z<|dq Z<|aA zI<|bB<|ak<|yW Z<|yW Z<|dq Z<|aA zI<|bB ?_;refine af<|yD Z<|dq Z<|aA zI<|bB<|ak<|yW Z<|yW Z<|dq Z<|aA zI<|bB<|af<|yD Z<|dq Z ?_;refine bg zI ?_);refine And.intro ⟨by omega,by simp only[List.length_map,List.length_set];omega⟩ ?_)
   have TD:((s.groups.map gh).set k [.av (.p (ints gg.pieces)),.av (.p (ints gg.bores)),.av (.ow 90200)])[k]?=some [.av (.p (ints gg.pieces)),.av (.p (ints gg.bores)),.av (.ow 90200)]:=List.getElem?_set_self (by rw[TB];omega)
   (refine bB<|bJ<|yW Z<|dq Z<|aK zI ?_;refine⟨[.av (.p (ints gg.pieces)),.av (.p (ints gg.bores)),.av (.ow 90200)],(by rw[iO,iO,iO];exact TD;rfl;rfl;rfl),?_⟩)
   (refine bB<|af<|yD Z<|dq Z<|aK zI ?_;refine⟨_,_,(mW l),?_⟩)
   (refine bB<|ae<|dq Z<|aA zI<|jA Z Z<|af<|dq Z<|bg zI ?_;refine And.intro ⟨fun r hr=>by simp at hr;subst hr;rfl,by simp only[TC,List.length_set,List.length_replicate];omega,by simp only[TC,List.length_set,List.length_replicate];omega⟩ ?_)
   (refine hD Z Z Z<|fM<|g_<|af<|dq Z<|bg zI ?_;refine And.intro ⟨by omega,by simp only[List.length_map,List.length_set];omega⟩ ?_)
   (refine bB<|bJ<|yW Z<|dq Z<|aK zI ?_;refine⟨[.av (.p (ints gg.pieces)),.av (.p (ints gg.bores)),.av (.ow 90200)],(by rw[iO,iO,iO];exact TD;rfl;rfl;rfl),?_⟩)
   ((refine iG Z (aF (an (cn (bz Z (aj (cH [14,1000014,15,1000015,90003,1090003,100000,1100000,219] true [true,true,true,true,true,true,true,true,false,true,false,false,false,false,false,true,true,true,true,true,true,true] rfl (by kernel_rfl) (ay Z (ay Z (ay Z (ay Z (ay Z (ay Z (ay Z ?_)))))))))))));refine cA Z Z<|cA Z Z<|ay Z<|ay Z<|ay Z<|ay Z<|ay Z<|cA Z Z<|cA Z Z<|cG Z<|dq Z<|aA zI<|bB<|ak ?_;refine dq Z<|aA zI<|bB<|ak<|dq Z<|aA zI<|bB<|ak<|yW Z<|yW Z<|dq Z<|aA zI<|bB<|af ?_;refine yD Z<|dq Z<|aA zI<|jA Z Z<|af<|dq Z<|bg zI ?_);refine And.intro ⟨fun r hr=>by simp at hr;subst hr;rfl,by simp only[O8,List.length_set,List.length_replicate];omega,by simp only[O8,List.length_set,List.length_replicate];omega⟩ ?_)
   ((refine hD Z Z Z<|fM<|g_<|af<|dq Z<|aA zI<|bB<|ak<|yW Z<|yW Z<|dq Z<|aA zI<|bB<|af ?_;refine yD Z<|dq Z<|aA zI<|jA Z Z<|af<|dq Z<|bg zI ?_);refine And.intro ⟨fun r hr=>by simp at hr;subst hr;rfl,by simp only[O9,List.length_set,List.length_replicate];omega,by simp only[O9,List.length_set,List.length_replicate];omega⟩ ?_)
   ((refine hD Z Z Z<|fM<|g_<|af<|yW Z<|yW Z<|dq Z<|aA zI<|iG Z<|aF<|an<|yW Z<|yW Z<|dq Z ?_;refine aA zI<|iG Z<|aF<|an<|cn<|bz Z<|bp<|aj<|aM<|yq Z<|bg zI ?_);refine sI ?_)
   refine yk<|yP Z<|yT<|ai ?_
   have Sg:((s.groups.map gh).set k [.av (.p (ints gg.pieces)),.av (.p (ints gg.bores)),.av (.ow 202)]).set k (([.av (.p (ints gg.pieces)),.av (.p (ints gg.bores)),.av (.ow 202)]:List HX).set 2 (.row 178 ((gg.pins++[(l.part,l.pin)]).map pc)))=(s.groups.set k (sw (l.part,l.pin) gg)).map gh:=by
    rw[List.set_set,List.map_set]
    congr 1
    show _=[.av (.p (ints gg.pieces)),.av (.p (ints gg.bores)),FZ (gg.pins++[(l.part,l.pin)])]
    rw[Ki]
    rfl
   refine⟨(i+1,⟨s.groups.set k (sw (l.part,l.pin) gg),s.ofLand++[(k:Int)],s.atLand++[hp.1]⟩),_,(aW.Au (by exact hC) _ 90003 k 2 202 (e:=47) (es:=(s.groups.map gh).set k [.av (.p (ints gg.pieces)),.av (.p (ints gg.bores)),.av (.ow 202)]) (r:=[.av (.p (ints gg.pieces)),.av (.p (ints gg.bores)),.av (.ow 202)]) (e':=178) (xs:=(gg.pins++[(l.part,l.pin)]).map pc) (by decide) (by exact congrArg (AB.aL _) (by rw[iO,iO,iO];simp only[Int.toNat_natCast];rw[List.set_set];show List.map (fun r=>List.map (HX.dm (sc 220)) r) (List.map (fun r=>List.map (HX.dm (sc 219)) r) (List.map (fun r=>List.map (HX.dm (sc 213)) r) (List.map (fun r=>List.map (HX.dm (sc 212)) r) ((List.map gh s.groups).set k [.av (.p (ints gg.pieces)),.av (.p (ints gg.bores)),.av (.ow 202)]))))=_;rw[iO,iO,iO,iO];all_goals rfl)) (by exact congrArg (AB.row _) (by rw[List.map_append];rfl)) (List.getElem?_set_self (by rw[TB];omega)) (by exact rfl)).trans ((aW.E9 _ 213 90006 (by decide) (by decide)).trans (aW.E9 _ 220 90007 (by decide) (by decide))),?_⟩
   exact⟨⟨v1,by simp only[List.length_set];exact v2,by simp only[List.length_append,List.length_singleton];omega,by simp only[List.length_append,List.length_singleton];omega,by simp only;omega,fun g hg=>by
    rcases List.mem_or_eq_of_mem_set hg with hg | hg
    ·have:=v6 g hg;simp only;omega
    subst hg;simp only[sw,List.length_append,List.length_singleton];omega⟩,by simp only;omega,⟨Z,Z,Z,Z,Y⟩,⟨rfl,rfl,rfl,rfl,congrArg (AB.aL _) (by refine (congrArg (List.map _) (congrArg (List.map _) Sg)).trans ?_;simp only[IC]),rfl,rfl,congrArg (AB.row _) (jf _ _).symm,congrArg (AB.row _) (by rw[List.map_append (f:=iE)];rfl),trivial⟩⟩
  have g4:hp.2=false:=g4
  have JU:nt a.bores P (op,ob) s l=⟨s.groups,s.ofLand++[-1],s.atLand++[hp.1]⟩:=by
   rw[nt]
   simp only[<-O6,g4]
   rfl
  rw[JU] at v1
  have O8:=cg s.ofLand
  have O9:=aN s.atLand iE
  ((refine aJ (aj (cH [14,1000014,15,1000015,90003,1090003,100000,1100000,219] true [true,true,true,true,true,true,true,true,false,true,false,false,false,false,false,true,true,true,true,true,true,true] rfl (by kernel_rfl) (ay Z (ay Z (ay Z (ay Z (ay Z (ay Z (ay Z (cA Z Z (cA Z Z (ay Z (ay Z ?_)))))))))))));refine ay Z<|ay Z<|ay Z<|cA Z Z<|cA Z Z<|cG Z<|dq Z<|aA zI<|bB<|ak<|dq Z<|aA zI<|bB<|ak ?_;refine dq Z<|aA zI<|bB<|ak<|yW Z<|yW Z<|dq Z<|aA zI<|bB<|af<|yD Z<|dq Z<|aA zI<|jA Z Z ?_;refine af<|dq Z<|bg zI ?_);refine And.intro ⟨fun r hr=>by simp at hr;subst hr;rfl,by simp only[O8,List.length_set,List.length_replicate];omega,by simp only[O8,List.length_set,List.length_replicate];omega⟩ ?_)
  ((refine hD Z Z Z<|fM<|g_<|af<|dq Z<|aA zI<|bB<|ak<|yW Z<|yW Z<|dq Z<|aA zI<|bB<|af ?_;refine yD Z<|dq Z<|aA zI<|jA Z Z<|af<|dq Z<|bg zI ?_);refine And.intro ⟨fun r hr=>by simp at hr;subst hr;rfl,by simp only[O9,List.length_set,List.length_replicate];omega,by simp only[O9,List.length_set,List.length_replicate];omega⟩ ?_)
  ((refine hD Z Z Z<|fM<|g_<|af<|yW Z<|yW Z<|dq Z<|aA zI<|iG Z<|aF<|an<|yW Z<|yW Z<|dq Z ?_;refine aA zI<|iG Z<|aF<|an<|cn<|bz Z<|bp<|aj<|aM<|yq Z<|bg zI ?_);refine sI ?_)
  refine yk<|yP Z<|yT<|ai ?_
  refine⟨(i+1,⟨s.groups,s.ofLand++[-1],s.atLand++[hp.1]⟩),_,(aW.E9 _ 213 90006 (by decide) (by decide)).trans (aW.E9 _ 220 90007 (by decide) (by decide)),?_⟩
  exact⟨⟨v1,v2,by simp only[List.length_append,List.length_singleton];omega,by simp only[List.length_append,List.length_singleton];omega,by simp only;omega,fun g hg=>by have:=v6 g hg;simp only;omega⟩,by simp only;omega,⟨Z,Z,Z,Z,Y⟩,⟨rfl,rfl,rfl,rfl,congrArg (AB.aL _) (by show _=List.map gh s.groups;simp only[xM,IC]),rfl,rfl,congrArg (AB.row _) (jf _ _).symm,congrArg (AB.row _) (by rw[List.map_append (f:=iE)];rfl),trivial⟩⟩
 rw[List.drop_of_length_le (by omega)] at v1
 have v1:s=R:=v1
 rw[<-v1]
 refine bT<|aY<|aY<|bU<|ai<|zX zi ?_
 refine⟨_,aW.Hz (by exact hC) _ 90003 (s.groups.map q_) (e:=47) (by exact congrArg (AB.aL _) (by simp only[xM,IC])) (Ds _),?_⟩
 refine AF.out (F:=ye C _ _ _ _ .normal) ?_
 refine Mu zi ?_
 exact And.intro rfl (And.intro ⟨Z,Z,Z,Z,Z,Z,Z,Z,Z,Z,Z,Z,Z,Y⟩ trivial)
end M
namespace Reg
def iq (x y:eX):Bool:=(decide (x.lo<=y.hi) && decide (y.lo<=x.hi)) && decide (B0 (aQ x) (aQ y)=0)
def ov (bs:List eX) (i:Nat):Bool:=(bs.take i).any (iq (bs.getD i Ll))
def fw (bs:List eX) (i:Nat):Bool:=(List.range' i (bs.length - i)).any (ov bs)
theorem Dt {bs:List eX} {i:Nat} (h:i < bs.length):fw bs i=(ov bs i || fw bs (i+1)):=by
 rw[fw,show bs.length - i=(bs.length - (i+1))+1 by omega,List.range'_succ,List.any_cons];rfl
theorem F0 {bs:List eX} {i:Nat} (h:bs.length<=i):fw bs i=false:=by
 rw[fw,show bs.length - i=0 by omega];rfl
def fS:List (List aB)->Int
 | []=>0
 | r::l=>if aH r≠0 then aH r else fS l
def Ex (n:Int) (l:List (List aB)):Int:=l.foldl (fun n r=>n+r.length) n
theorem jH:∀{l:List (List aB)},fS l=0->∀r∈l,aH r=0
 | [],_,r,h=>by cases h
 | q::l,h,r,hr=>by
  rw[fS] at h
  by_cases e:aH q=0
  ·rw[if_neg (by simpa using e)] at h
   rcases List.mem_cons.1 hr with rfl | hr
   ·exact e
   exact jH h r hr
  rw[if_pos e] at h;exact absurd h e
structure l9 where
 drilled:List (List ax)
 pieces:List Piece
 cI:List (List Int)
 ofPiece:List Int
 ofBore:List Int
 placed:mX
def aw (a:Wt):l9:=
 let P:=cE a.bores 0 a.coppers
 let T:=cI a.bores P
 let U:=jq P.length a.bores.length T
 let F:=gB a.bores P.length (ba (dR U) (P.length+a.bores.length))
 ⟨il a.bores 0 a.coppers,P,T,F.1.1,F.1.2,a.lands.foldl (nt a.bores P F.1) ⟨F.2,[],[]⟩⟩
theorem mY {bs:List eX}:∀{l:List (List aB)} {k:Int} {p:Piece},p∈cE bs k l->∃(i:Nat) (r:List aB),l[i]?=some r/\p.layer=k+i/\p.set∈eP (dS bs (k+i) r)
 | [],k,p,h=>by cases h
 | r::l,k,p,h=>by
  rw[cE] at h
  rcases List.mem_append.1 h with h | h
  ·obtain⟨s,hs,rfl⟩:=List.mem_map.1 h
   exact⟨0,r,rfl,by simp,by simpa using hs⟩
  obtain⟨i,r',h1,h2,h3⟩:=mY h
  have e:k+((i+1:Nat):Int)=k+1+(i:Int):=by omega
  exact⟨i+1,r',by simpa using h1,by rw[h2,e],by rw[e];exact h3⟩
theorem vE (b:eX):∀(ps:List Piece) (k:Nat),(WC b k ps).length<=ps.length
 | [],k=>Nat.le_refl _
 | q::ps,k=>by
  have:=vE b ps (k+1)
  rw[WC]
  split <;> simp only[List.length_cons] <;> omega
end Reg
namespace M
open Go.AM Go.RowKit Go.Lib
open Reg (aB ax eX jn Wt Piece dc Kd mX ct cQ told a_ cx aQ B0 iq ov fw fS Ex dk iU aw P4)
def kY (a:Wt):List PV:=kG a++[.sl ((aw a).drilled.map fun s=>[aG s]),.sl ((aw a).pieces.map gw),.sl ((aw a).cI.map fun l=>[ints l]),.sl ((aw a).placed.groups.map q_),ints (aw a).ofPiece,ints (aw a).ofBore,ints (aw a).placed.ofLand,.sl ((aw a).placed.atLand.map iE)]
def cC (a:Wt):Int:=if a.coppers.length=0 then 9 else if 16 < a.coppers.length then 2 else
 if fS a.coppers≠0 then fS a.coppers else
 if Reg.aH a.outline≠0 then Reg.aH a.outline else
 if 2000 < Ex a.outline.length a.coppers then 2 else
 if dk a≠0 then dk a else
 if dO a≠0 then dO a else
 if fw a.bores 0=true then 12 else
 if iU a=true then 0 else 2
def pz (a:Wt):PV:=if cC a=0 then .ip (kY a) else .im (.pointer none)
theorem kQ (a:Wt) (ho:oh a):aD C 25 [.pv (.ag (kG a))] (.tu [pz a,i64 (cC a)]) []:=by
 have lk:=aN a.coppers rr
 have V7:(a.coppers.map fun r=>[aV r]).length=a.coppers.length:=lk
 have lo:=aN a.outline rc
 have lb:=aN a.bores bc
 obtain⟨F,hF⟩:∃F,F=cC a:=⟨_,rfl⟩
 have hV:pz a=if F=0 then .ip (kY a) else .im (.pointer none):=by rw[hF];rfl
 rw[hV,<-hF]
 rw[cC] at hF
 refine aT hC Tryz.func25 rfl rfl 112 rfl (by decide) (by kernel_rfl) fun _ _ _ _ _=>?_
 ((refine yS<|yn Z<|aA zI<|aS<|ak<|yA Z<|yA Z<|yT<|au<|yS<|yV Z<|yP Z<|yP Z<|yP Z ?_;refine yT<|az Z ?_);refine aa (fun g1=>?_) (fun g1=>?_) <;> try simp only[zB] at g1)
 ·rw[if_pos (by omega)] at hF
  (refine yS<|yA Z<|yA Z<|yT<|bP<|aX<|bQ zi ?_;refine And.intro ?_ trivial)
  rw[hF];rfl
 rw[if_neg (by omega)] at hF
 (refine aJ<|aj<|au<|yS<|yV Z<|yP Z<|yP Z<|yP Z<|yT<|az Z ?_;refine aa (fun g2=>?_) (fun g2=>?_) <;> try simp only[zB] at g2)
 ·rw[if_pos (by omega)] at hF
  (refine yS<|yA Z<|yA Z<|yT<|bP<|aX<|bQ zi ?_;refine And.intro ?_ trivial)
  rw[hF];rfl
 rw[if_neg (by omega)] at hF
 obtain⟨M,hM⟩:∃M,M=Ex a.outline.length a.coppers:=⟨_,rfl⟩
 rw[<-hM] at hF
 have Vk:=ho.out
 (refine aJ<|aj<|yS<|yV Z<|yP Z<|yP Z<|yA Z<|yT<|au<|yS<|yV Z<|yP Z<|yP Z<|yP Z ?_;refine yT<|aZ ?_)
 refine aI (fun x:Nat×Int=>Ex x.2 (a.coppers.drop x.1)=M/\fS (a.coppers.drop x.1)=fS a.coppers/\0<=x.2/\x.2<=1048576+1048576*x.1) (fun x=>[(1,.bx 1 0),(4,.p (i64 x.2)),(28,.p (.sl (a.coppers.map rr))),(29,.p (i64 a.coppers.length)),(30,.p (i64 x.1))]) (fun _=>[(1,.box [.p (.sl (a.coppers.map rr)),.p (aV a.outline),.p (.sl (a.bores.map bc)),.p (.sl (a.lands.map lc))])]) (fun x=>a.coppers.length - x.1) (0,a.outline.length) _ (aW.refl _ _) ⟨hM.symm,rfl,by simp only;omega,by simp only;omega⟩ ⟨rfl,congrArg (fun m:Nat=>AV.p (i64 m)) lo,rfl,congrArg (fun m:Nat=>AV.p (i64 m)) lk,Z,Y⟩ ⟨Z,Y⟩ fun ⟨i,n⟩ hx t h=>?_
 obtain⟨q1,q2,q3,q4⟩:=hx
 simp only at q1 q2 q3 q4
 (refine yS<|yP Z<|yT<|au<|az Z ?_;refine aa (fun g3=>?_) (fun g3=>?_) <;> try simp only[zB] at g3)
 ·obtain⟨r,hr⟩:=bh (l:=a.coppers) (i:=i) (by omega)
  have tF:=ho.rcs r (List.mem_of_getElem? hr)
  have lr:=aN r rc
  rw[drop_at hr] at q1 q2
  rw[fS] at q2
  (refine aJ<|aj<|au<|aZ<|yS<|yq Z<|aK zI ?_;refine⟨(rr r),(idx rfl hr),?_⟩)
  (refine yk<|yP Z<|yA Z<|yT<|au<|yS<|yP Z<|yn Z<|aK zI ?_;refine⟨_,_,(dt r),?_⟩)
  (refine b9 Z Z<|ae<|yA Z<|yU<|yP Z<|yP Z<|yT<|az Z ?_;refine aa (fun g4=>?_) (fun g4=>?_) <;> try simp only[zB] at g4)
  ·have g4:Reg.aH r≠0:=by simpa using g4
   rw[if_pos g4] at q2
   rw[<-q2,if_pos g4] at hF
   (refine yS<|yP Z<|yA Z<|yA Z<|yT<|bP<|aX<|bW<|aX<|aX<|bW<|aX<|bQ zi ?_;refine And.intro ?_ trivial)
   rw[hF,if_neg g4]
  have g4:Reg.aH r=0:=by simpa using g4
  rw[if_neg (by simpa using g4)] at q2
  (refine aJ<|aj<|aM<|yP Z<|yP Z<|yP Z<|yq Z<|bg zI ?_;refine sI ?_)
  (refine yk<|yA Z<|cL<|bp<|aj<|aM<|yq Z<|bg zI ?_;refine sI ?_)
  (refine yk<|yP Z<|yT<|ai ?_;refine⟨(i+1,n+r.length),_,aW.refl _ _,?_⟩)
  exact⟨⟨q1,q2,by simp only;omega,by simp only;omega⟩,by simp only;omega,⟨rfl,congrArg (fun m:Nat=>AV.p (i64 (n+m))) lr,Z,Z,Z,Y⟩,⟨Z,Y⟩⟩
 rw[List.drop_of_length_le (by omega)] at q1 q2
 have q1:n=M:=q1
 have q2:fS a.coppers=0:=q2.symm
 rw[if_neg (by simpa using q2)] at hF
 (refine bT<|aY<|aY<|bU<|aj<|au<|yS<|yV Z<|yP Z<|yn Z<|aK zI ?_;refine⟨_,_,(dt a.outline),?_⟩)
 (refine b9 Z Z<|ae<|yA Z<|yU<|yP Z<|yP Z<|yT<|az Z ?_;refine aa (fun g4=>?_) (fun g4=>?_) <;> try simp only[zB] at g4)
 ·have g4:Reg.aH a.outline≠0:=by simpa using g4
  rw[if_pos g4] at hF
  (refine yS<|yP Z<|yA Z<|yA Z<|yT<|bP<|aX<|bQ zi ?_;refine And.intro ?_ trivial)
  rw[hF,if_neg g4]
 have g4:Reg.aH a.outline=0:=by simpa using g4
 rw[if_neg (by simpa using g4)] at hF
 (refine aJ<|aj<|au<|yS<|yP Z<|yP Z<|yT<|az Z ?_;refine aa (fun g5=>?_) (fun g5=>?_) <;> try simp only[zB] at g5)
 ·rw[if_pos (by omega)] at hF
  (refine yS<|yA Z<|yA Z<|yT<|bP<|aX<|bQ zi ?_;refine And.intro ?_ trivial)
  rw[hF];rfl
 rw[if_neg (by omega)] at hF
 (refine aJ<|aj<|au<|yS<|yP Z<|yn Z<|aK zI ?_;refine⟨_,_,(qS a (by omega)),?_⟩)
 (refine b9 Z Z<|ae<|yA Z<|yU<|yP Z<|yP Z<|yT<|az Z ?_;refine aa (fun g6=>?_) (fun g6=>?_) <;> try simp only[zB] at g6)
 ·have g6:dk a≠0:=by simpa using g6
  rw[if_pos g6] at hF
  (refine yS<|yP Z<|yA Z<|yA Z<|yT<|bP<|aX<|bQ zi ?_;refine And.intro ?_ trivial)
  rw[hF,if_neg g6]
 have g6:dk a=0:=by simpa using g6
 rw[if_neg (by simpa using g6)] at hF
 (refine aJ<|aj<|au<|yS<|yP Z<|yn Z<|aK zI ?_;refine⟨_,_,(qT a ho),?_⟩)
 (refine b9 Z Z<|ae<|yA Z<|yU<|yP Z<|yP Z<|yT<|az Z ?_;refine aa (fun g7=>?_) (fun g7=>?_) <;> try simp only[zB] at g7)
 ·have g7:dO a≠0:=by simpa using g7
  rw[if_pos g7] at hF
  (refine yS<|yP Z<|yA Z<|yA Z<|yT<|bP<|aX<|bQ zi ?_;refine And.intro ?_ trivial)
  rw[hF,if_neg g7]
 have g7:dO a=0:=by simpa using g7
 rw[if_neg (by simpa using g7)] at hF
 have tD:a.bores.length<=500:=by
  unfold Reg.dk at g6
  split at g6
  ·cases g6
  omega
 have NI:Reg.Wq a.coppers.length a.bores=0:=by rwa [Reg.dk,if_neg (by omega)] at g6
 have Mq:=Reg.ve NI
 have Lo:∀b∈a.bores,cx b=true/\P4 1000000000 (aQ b):=fun b hb=>by
  have h1:=oU (Mq b hb)
  obtain⟨a1,a2,a3,a4⟩:=Reg.Lj (Reg.eZ h1) (Reg.jM h1)
  exact⟨h1,⟨by omega,by omega⟩,⟨by omega,by omega⟩,⟨by omega,by omega⟩,⟨by omega,by omega⟩⟩
 refine aJ<|aj<|au<|yS<|yV Z<|yP Z<|yP Z<|yP Z<|yT<|aZ ?_
 refine aI (fun i:Nat=>fw a.bores i=fw a.bores 0) (fun i=>[(1,.bx 1 0),(63,.p (.sl (a.bores.map bc))),(64,.p (i64 a.bores.length)),(65,.p (i64 i))]) (fun _=>[(1,.box [.p (.sl (a.coppers.map rr)),.p (aV a.outline),.p (.sl (a.bores.map bc)),.p (.sl (a.lands.map lc))])]) (fun i=>a.bores.length - i) 0 _ (aW.refl _ _) rfl ⟨rfl,rfl,congrArg (fun m:Nat=>AV.p (i64 m)) lb,Z,Y⟩ ⟨Z,Y⟩ fun i hi t h=>?_
 (refine yS<|yP Z<|yT<|au<|az Z ?_;refine aa (fun g8=>?_) (fun g8=>?_) <;> try simp only[zB] at g8)
 ·obtain⟨x,hx⟩:=bh (l:=a.bores) (i:=i) (by omega)
  obtain⟨x1,x2⟩:=Lo x (List.mem_of_getElem? hx)
  rw[Reg.Dt (by omega)] at hi
  have aL:ov a.bores i=(a.bores.take i).any (iq x):=by rw[ov,List.getD_eq_getElem?_getD,hx];rfl
  rw[aL] at hi
  (refine aJ<|aj<|au<|aZ<|yS<|yP Z<|yq Z<|aK zI ?_;refine⟨(bc x),(idx rfl hx),?_⟩)
  ((refine yk<|yP Z<|yn Z<|aA zI<|aS<|ak<|yA Z<|yq Z<|aA zI<|bd<|aF<|an<|yU<|yV Z ?_;refine yP Z<|yP Z<|yq Z<|bg zI ?_);refine And.intro ⟨by decide,by omega,by omega,fun r hr=>by obtain⟨b,_,rfl⟩:=List.mem_map.1 hr;rfl⟩ ?_)
  have V8:((a.bores.take i).map bc).length=i:=by rw[List.length_map,List.length_take];omega
  have Vl:(a.bores.take i).length=i:=by rw[List.length_take];omega
  refine yk<|yP Z<|yP Z<|yT<|aZ ?_
  refine aI (fun j:Nat=>((a.bores.take i).drop j).any (iq x)=(a.bores.take i).any (iq x)) (fun j=>[(1,.bx 1 0),(63,.p (.sl (a.bores.map bc))),(64,.p (i64 a.bores.length)),(65,.p (i64 i)),(12,.bx 12 0),(73,.p (.sl ((a.bores.take i).map bc))),(74,.p (i64 i)),(75,.p (i64 j))]) (fun _=>[(1,.box [.p (.sl (a.coppers.map rr)),.p (aV a.outline),.p (.sl (a.bores.map bc)),.p (.sl (a.lands.map lc))]),(12,.box [.p (i64 x.x),.p (i64 x.y),.p (i64 x.size),.p (i64 x.lo),.p (i64 x.hi),.p (bool x.plated)])]) (fun j=>i - j) 0 _ (aW.refl _ _) rfl ⟨rfl,rfl,rfl,rfl,rfl,congrArg (fun l=>AV.p (PV.sl l)) (by simp[List.map_take]),congrArg (fun m:Nat=>AV.p (i64 m)) (by simp;omega),Z,Y⟩ ⟨Z,Z,Y⟩ fun j hj t h=>?_
  (refine yS<|yP Z<|yT<|au<|az Z ?_;refine aa (fun g9=>?_) (fun g9=>?_) <;> try simp only[zB] at g9)
  ·obtain⟨y,hy⟩:=bh (l:=a.bores.take i) (i:=j) (by omega)
   obtain⟨y1,y2⟩:=Lo y (List.mem_of_mem_take (List.mem_of_getElem? hy))
   rw[drop_at hy,List.any_cons] at hj
   have yes:iq x y=true->F=12:=fun hc=>by
    rw[hc,Bool.true_or] at hj
    rw[<-hj,Bool.true_or] at hi
    rw[<-hi,if_pos rfl] at hF
    exact hF
   have no:iq x y=false->((a.bores.take i).drop (j+1)).any (iq x)=(a.bores.take i).any (iq x):=fun hc=>by
    rw[hc,Bool.false_or] at hj
    exact hj
   (refine aJ<|aj<|au<|aZ<|yS<|yq Z<|aK zI ?_;refine⟨(bc y),(idx rfl hy),?_⟩)
   ((refine yk (yP Z (yn Z (aA zI (aS (ak (yq Z (aA zI (bd (aF (an (yT (au (cH [] false HG rfl (by kernel_rfl) ?_)))))))))))));refine ay Z<|ay Z<|ay Z<|ay Z<|ay Z<|ay Z<|ay Z<|ay Z<|ay Z<|ay Z<|ay Z<|ay Z<|ay Z<|ay Z ?_;refine cA Z Z<|ay Z<|cA Z Z<|cA Z Z<|cG Z<|yW Z<|yD Z<|yW Z<|yD Z<|yD Z<|yD Z<|dg Z ?_);refine aa (fun h1=>?_) (fun h1=>?_) <;> try simp only[zB] at h1)
   ·((refine bS<|c_ Z<|aA zI<|bB<|ak<|d1 Z<|d2 Z<|c_ Z<|aA zI<|bB<|ak<|d1 Z<|d1 Z<|yD Z ?_;refine yD Z<|dg Z ?_);refine aa (fun h2=>?_) (fun h2=>?_) <;> try simp only[zB] at h2)
    ·(refine bS<|c_ Z<|aA zI<|bB<|ae<|d2 Z<|c_ Z<|aK zI ?_;refine⟨_,_,(dv x x1),?_⟩)
     (refine bB<|ae<|d1 Z<|d2 Z<|c_ Z<|aK zI ?_;refine⟨_,_,(dv y y1),?_⟩)
     (refine bB<|ae<|d2 Z<|c_ Z<|aK zI ?_;refine⟨_,_,(FP (aQ x) (aQ y) x2 y2),?_⟩)
     (refine bB<|ae<|d1 Z<|yD Z<|cn<|bz Z<|aj<|az Z ?_;refine aa (fun h3=>?_) (fun h3=>?_) <;> try simp only[zB] at h3)
     ·have hy:=yes (by simp only[iq,Bool.and_eq_true,decide_eq_true_eq];exact⟨⟨h1,h2⟩,h3⟩)
      ((refine yS<|yA Z<|yA Z<|yT<|bP<|bW<|aX<|aX<|bW<|bW<|aX<|aX<|bW<|aX ?_;refine bQ zi ?_);refine And.intro ?_ trivial)
      rw[hy];rfl
     have hn:=no (by simp only[iq];rw[decide_eq_false h3,Bool.and_false])
     (refine aJ<|bp<|aj<|aM<|yq Z<|bg zI ?_;refine sI ?_)
     (refine yk<|yP Z<|yT<|ai ?_;refine⟨(j+1),_,aW.refl _ _,?_⟩)
     exact⟨hn,by omega,⟨Z,Z,Z,Z,Z,Z,Z,Z,Y⟩,⟨Z,Z,Y⟩⟩
    have hn:=no (by simp only[iq];rw[decide_eq_false h2,Bool.and_false,Bool.false_and])
    ((refine cB<|ae<|d0 Z<|d0 Z<|d0 Z<|d0 Z<|d0 Z<|yD Z<|cn<|bz Z<|aj<|az Z<|cM<|aJ ?_;refine bp<|aj<|aM<|yq Z<|bg zI ?_);refine sI ?_)
    (refine yk<|yP Z<|yT<|ai ?_;refine⟨(j+1),_,aW.refl _ _,?_⟩)
    exact⟨hn,by omega,⟨Z,Z,Z,Z,Z,Z,Z,Z,Y⟩,⟨Z,Z,Y⟩⟩
   have hn:=no (by simp only[iq];rw[decide_eq_false h1,Bool.false_and,Bool.false_and])
   ((refine cB<|ae<|d0 Z<|d0 Z<|d0 Z<|d0 Z<|yD Z<|yD Z<|d0 Z<|d0 Z<|d0 Z<|d0 Z<|d0 Z<|d0 Z ?_;refine yD Z<|cn<|bz Z<|aj<|az Z<|cM<|aJ<|bp<|aj<|aM<|yq Z<|bg zI ?_);refine sI ?_)
   (refine yk<|yP Z<|yT<|ai ?_;refine⟨(j+1),_,aW.refl _ _,?_⟩)
   exact⟨hn,by omega,⟨Z,Z,Z,Z,Z,Z,Z,Z,Y⟩,⟨Z,Z,Y⟩⟩
  rw[List.drop_of_length_le (by omega)] at hj
  have hj:false=(a.bores.take i).any (iq x):=hj
  rw[<-hj,Bool.false_or] at hi
  (refine bT<|aY<|aY<|bU<|bp<|aj<|aM<|yq Z<|bg zI ?_;refine sI ?_)
  (refine yk<|yP Z<|yT<|ai ?_;refine⟨(i+1),_,aW.refl _ _,?_⟩)
  exact⟨hi,by omega,⟨Z,Z,Z,Z,Y⟩,⟨Z,Y⟩⟩
 rw[Reg.F0 (by omega)] at hi
 rw[<-hi,if_neg (by decide)] at hF
 refine bT<|aY<|aY<|bU<|aj ?_
 refine fB ?_
 refine aM (yP Z (yP Z (yn Z (aA zI (aS (ak (cD Z (jW Z Z Z (nX Z) (ak (yT (ai ?_)))))))))))
 refine CR ((aW.tn (by exact hC) _ 103 4 [.p (.sl (a.coppers.map rr)),.p (aV a.outline),.p (.sl (a.bores.map bc)),.p (.sl (a.lands.map lc)),.p (.im (.slice none 0 0)),.p (.im (.slice none 0 0)),.p (.im (.slice none 0 0)),.p (.im (.slice none 0 0)),.p (.im (.slice none 0 0)),.p (.im (.slice none 0 0)),.p (.im (.slice none 0 0)),.p (.im (.slice none 0 0))] (by exact rfl) (by exact rfl)).trans ((aW.gY (by exact hC) _ 103 4 90000 81 _ [.p (.sl (a.coppers.map rr)),.p (aV a.outline),.p (.sl (a.bores.map bc)),.p (.sl (a.lands.map lc)),.nl,.p (.im (.slice none 0 0)),.p (.im (.slice none 0 0)),.p (.im (.slice none 0 0)),.p (.im (.slice none 0 0)),.p (.im (.slice none 0 0)),.p (.im (.slice none 0 0)),.p (.im (.slice none 0 0))] (by decide) (by decide) (by exact rfl) (by exact rfl) (by exact rfl) (by decide)).trans ((aW.tn (by exact hC) _ 103 5 [.p (.sl (a.coppers.map rr)),.p (aV a.outline),.p (.sl (a.bores.map bc)),.p (.sl (a.lands.map lc)),.ow 90000,.p (.im (.slice none 0 0)),.p (.im (.slice none 0 0)),.p (.im (.slice none 0 0)),.p (.im (.slice none 0 0)),.p (.im (.slice none 0 0)),.p (.im (.slice none 0 0)),.p (.im (.slice none 0 0))] (by exact rfl) (by exact rfl)).trans ((aW.gY (by exact hC) _ 103 5 90001 97 _ [.p (.sl (a.coppers.map rr)),.p (aV a.outline),.p (.sl (a.bores.map bc)),.p (.sl (a.lands.map lc)),.ow 90000,.nl,.p (.im (.slice none 0 0)),.p (.im (.slice none 0 0)),.p (.im (.slice none 0 0)),.p (.im (.slice none 0 0)),.p (.im (.slice none 0 0)),.p (.im (.slice none 0 0))] (by decide) (by decide) (by exact rfl) (by exact rfl) (by exact rfl) (by decide)).trans ((aW.tn (by exact hC) _ 103 6 [.p (.sl (a.coppers.map rr)),.p (aV a.outline),.p (.sl (a.bores.map bc)),.p (.sl (a.lands.map lc)),.ow 90000,.ow 90001,.p (.im (.slice none 0 0)),.p (.im (.slice none 0 0)),.p (.im (.slice none 0 0)),.p (.im (.slice none 0 0)),.p (.im (.slice none 0 0)),.p (.im (.slice none 0 0))] (by exact rfl) (by exact rfl)).trans ((aW.gY (by exact hC) _ 103 6 90002 44 _ [.p (.sl (a.coppers.map rr)),.p (aV a.outline),.p (.sl (a.bores.map bc)),.p (.sl (a.lands.map lc)),.ow 90000,.ow 90001,.nl,.p (.im (.slice none 0 0)),.p (.im (.slice none 0 0)),.p (.im (.slice none 0 0)),.p (.im (.slice none 0 0)),.p (.im (.slice none 0 0))] (by decide) (by decide) (by exact rfl) (by exact rfl) (by exact rfl) (by decide)).trans ((aW.tn (by exact hC) _ 103 7 [.p (.sl (a.coppers.map rr)),.p (aV a.outline),.p (.sl (a.bores.map bc)),.p (.sl (a.lands.map lc)),.ow 90000,.ow 90001,.ow 90002,.p (.im (.slice none 0 0)),.p (.im (.slice none 0 0)),.p (.im (.slice none 0 0)),.p (.im (.slice none 0 0)),.p (.im (.slice none 0 0))] (by exact rfl) (by exact rfl)).trans ((aW.gY (by exact hC) _ 103 7 90003 47 _ [.p (.sl (a.coppers.map rr)),.p (aV a.outline),.p (.sl (a.bores.map bc)),.p (.sl (a.lands.map lc)),.ow 90000,.ow 90001,.ow 90002,.nl,.p (.im (.slice none 0 0)),.p (.im (.slice none 0 0)),.p (.im (.slice none 0 0)),.p (.im (.slice none 0 0))] (by decide) (by decide) (by exact rfl) (by exact rfl) (by exact rfl) (by decide)).trans ((aW.tn (by exact hC) _ 103 8 [.p (.sl (a.coppers.map rr)),.p (aV a.outline),.p (.sl (a.bores.map bc)),.p (.sl (a.lands.map lc)),.ow 90000,.ow 90001,.ow 90002,.ow 90003,.p (.im (.slice none 0 0)),.p (.im (.slice none 0 0)),.p (.im (.slice none 0 0)),.p (.im (.slice none 0 0))] (by exact rfl) (by exact rfl)).trans ((aW.gY (by exact hC) _ 103 8 90004 3 _ [.p (.sl (a.coppers.map rr)),.p (aV a.outline),.p (.sl (a.bores.map bc)),.p (.sl (a.lands.map lc)),.ow 90000,.ow 90001,.ow 90002,.ow 90003,.nl,.p (.im (.slice none 0 0)),.p (.im (.slice none 0 0)),.p (.im (.slice none 0 0))] (by decide) (by decide) (by exact rfl) (by exact rfl) (by exact rfl) (by decide)).trans ((aW.tn (by exact hC) _ 103 9 [.p (.sl (a.coppers.map rr)),.p (aV a.outline),.p (.sl (a.bores.map bc)),.p (.sl (a.lands.map lc)),.ow 90000,.ow 90001,.ow 90002,.ow 90003,.ow 90004,.p (.im (.slice none 0 0)),.p (.im (.slice none 0 0)),.p (.im (.slice none 0 0))] (by exact rfl) (by exact rfl)).trans ((aW.gY (by exact hC) _ 103 9 90005 3 _ [.p (.sl (a.coppers.map rr)),.p (aV a.outline),.p (.sl (a.bores.map bc)),.p (.sl (a.lands.map lc)),.ow 90000,.ow 90001,.ow 90002,.ow 90003,.ow 90004,.nl,.p (.im (.slice none 0 0)),.p (.im (.slice none 0 0))] (by decide) (by decide) (by exact rfl) (by exact rfl) (by exact rfl) (by decide)).trans ((aW.tn (by exact hC) _ 103 10 [.p (.sl (a.coppers.map rr)),.p (aV a.outline),.p (.sl (a.bores.map bc)),.p (.sl (a.lands.map lc)),.ow 90000,.ow 90001,.ow 90002,.ow 90003,.ow 90004,.ow 90005,.p (.im (.slice none 0 0)),.p (.im (.slice none 0 0))] (by exact rfl) (by exact rfl)).trans ((aW.gY (by exact hC) _ 103 10 90006 3 _ [.p (.sl (a.coppers.map rr)),.p (aV a.outline),.p (.sl (a.bores.map bc)),.p (.sl (a.lands.map lc)),.ow 90000,.ow 90001,.ow 90002,.ow 90003,.ow 90004,.ow 90005,.nl,.p (.im (.slice none 0 0))] (by decide) (by decide) (by exact rfl) (by exact rfl) (by exact rfl) (by decide)).trans ((aW.tn (by exact hC) _ 103 11 [.p (.sl (a.coppers.map rr)),.p (aV a.outline),.p (.sl (a.bores.map bc)),.p (.sl (a.lands.map lc)),.ow 90000,.ow 90001,.ow 90002,.ow 90003,.ow 90004,.ow 90005,.ow 90006,.p (.im (.slice none 0 0))] (by exact rfl) (by exact rfl)).trans ((aW.gY (by exact hC) _ 103 11 90007 189 _ [.p (.sl (a.coppers.map rr)),.p (aV a.outline),.p (.sl (a.bores.map bc)),.p (.sl (a.lands.map lc)),.ow 90000,.ow 90001,.ow 90002,.ow 90003,.ow 90004,.ow 90005,.ow 90006,.nl] (by decide) (by decide) (by exact rfl) (by exact rfl) (by exact rfl) (by decide)).trans (aW.pack (by exact hC) _ 103 (bs:=[.p (.sl (a.coppers.map rr)),.p (aV a.outline),.p (.sl (a.bores.map bc)),.p (.sl (a.lands.map lc)),.ow 90000,.ow 90001,.ow 90002,.ow 90003,.ow 90004,.ow 90005,.ow 90006,.ow 90007]) (cs:=[.p (.sl (a.coppers.map rr)),.p (aV a.outline),.p (.sl (a.bores.map bc)),.p (.sl (a.lands.map lc)),.row 81 [],.row 97 [],.row 44 [],.row 47 [],.row 3 [],.row 3 [],.row 3 [],.row 189 []]) (by exact rfl) (by exact rfl) (by exact⟨Z,Z,Z,Z,Z,Z,Z,Z,Z,Z,Z,Z,Y⟩)))))))))))))))))) ?_
 have ha:jG a:=by
  refine⟨⟨by omega,by omega⟩,Reg.jH q2,g4,tD,Mq,?_⟩
  unfold dO at g7
  split at g7
  ·cases g7
  omega
 (refine au<|yS<|yq Z<|aA zI<|bd<|ak<|yn Z<|aK zI ?_;refine⟨_,_,(zw a ha),?_⟩)
 (refine b9 Z Z<|aF<|ae<|yP Z<|yT<|az Z ?_;refine aa (fun g9=>?_) (fun g9=>?_) <;> try simp only[zB] at g9)
 ·rw[if_neg (by simpa using g9)] at hF
  (refine yS<|yA Z<|yA Z<|yT<|bP<|aX<|bQ zi ?_;refine And.intro ?_ trivial)
  rw[hF];rfl
 rw[if_pos (by simpa using g9)] at hF
 have g9:iU a=true:=by simpa using g9
 simp only[iU,Bool.and_eq_true,decide_eq_true_eq] at g9
 have Lk:∀p∈Reg.cE a.bores 0 a.coppers,(told p.set).length<=4398046511104:=fun p hp=>by
  obtain⟨i,r,h1,h2,h3⟩:=Reg.mY hp
  have dr:=pY (fun b hb=>oU (Mq b hb)) tD (0+(i:Int)) (Reg.jH q2 r (List.mem_of_getElem? h1))
  obtain⟨p1,_,_,p3⟩:=Reg.su dr.sok h3
  exact Reg.kj p1 ((p3 _ dr.ink).up (by omega))
 have Sh:=vD a ha ((Reg.il a.bores 0 a.coppers).map fun s=>[aG s]) (Reg.cE a.bores 0 a.coppers) (Reg.cI a.bores (Reg.cE a.bores 0 a.coppers)) (by omega) Lk (List.length_map _) _ rfl _ _ rfl _ rfl (fun x hx p hp=>by
  obtain⟨b,_,rfl⟩:=List.mem_map.1 hx
  have:=Reg.XA b _ 0 p hp
  omega) (fun x hx=>by
  obtain⟨b,_,rfl⟩:=List.mem_map.1 hx
  have:=Reg.vE b (Reg.cE a.bores 0 a.coppers) 0
  omega)
 (refine aJ<|aj<|yS<|yq Z<|aA zI<|bd<|ak<|yn Z<|aK zI ?_;refine⟨_,_,(zx a ha _ _ (by omega) Lk),?_⟩)
 refine b9 Z Z<|aF<|bq<|yT ?_
 refine fB ?_
 (refine aM<|yq Z<|aA zI<|bd<|ak<|yn Z<|aK zI ?_;refine⟨_,_,Sh,?_⟩)
 refine b9 Z Z<|aF<|bq<|yT<|ai ?_
 refine CR ((aW.open (by exact hC) _ 103 [90000,90001,90002,90003,90004,90005,90006,90007] (cs:=[.p (.sl (a.coppers.map rr)),.p (aV a.outline),.p (.sl (a.bores.map bc)),.p (.sl (a.lands.map lc)),.row 81 ((aw a).drilled.map fun s=>[aG s]),.row 97 ((aw a).pieces.map gw),.row 44 ((aw a).cI.map fun l=>[ints l]),.row 47 ((aw a).placed.groups.map q_),.row 3 (aE (aw a).ofPiece),.row 3 (aE (aw a).ofBore),.row 3 (aE (aw a).placed.ofLand),.row 189 ((aw a).placed.atLand.map iE)]) (by exact rfl) rfl rfl rfl).trans ((aW.gZ (by exact hC) _ 103 4 90000 81 ((aw a).drilled.map fun s=>[aG s]) [.p (.sl (a.coppers.map rr)),.p (aV a.outline),.p (.sl (a.bores.map bc)),.p (.sl (a.lands.map lc)),.ow 90000,.ow 90001,.ow 90002,.ow 90003,.ow 90004,.ow 90005,.ow 90006,.ow 90007] (by decide) (by exact rfl) (by exact rfl) (by exact rfl)).trans ((aW.gZ (by exact hC) _ 103 5 90001 97 ((aw a).pieces.map gw) [.p (.sl (a.coppers.map rr)),.p (aV a.outline),.p (.sl (a.bores.map bc)),.p (.sl (a.lands.map lc)),.p (.sl ((aw a).drilled.map fun s=>[aG s])),.ow 90001,.ow 90002,.ow 90003,.ow 90004,.ow 90005,.ow 90006,.ow 90007] (by decide) (by exact rfl) (by exact rfl) (by exact rfl)).trans ((aW.gZ (by exact hC) _ 103 6 90002 44 ((aw a).cI.map fun l=>[ints l]) [.p (.sl (a.coppers.map rr)),.p (aV a.outline),.p (.sl (a.bores.map bc)),.p (.sl (a.lands.map lc)),.p (.sl ((aw a).drilled.map fun s=>[aG s])),.p (.sl ((aw a).pieces.map gw)),.ow 90002,.ow 90003,.ow 90004,.ow 90005,.ow 90006,.ow 90007] (by decide) (by exact rfl) (by exact rfl) (by exact rfl)).trans ((aW.gZ (by exact hC) _ 103 7 90003 47 ((aw a).placed.groups.map q_) [.p (.sl (a.coppers.map rr)),.p (aV a.outline),.p (.sl (a.bores.map bc)),.p (.sl (a.lands.map lc)),.p (.sl ((aw a).drilled.map fun s=>[aG s])),.p (.sl ((aw a).pieces.map gw)),.p (.sl ((aw a).cI.map fun l=>[ints l])),.ow 90003,.ow 90004,.ow 90005,.ow 90006,.ow 90007] (by decide) (by exact rfl) (by exact rfl) (by exact rfl)).trans ((aW.gZ (by exact hC) _ 103 8 90004 3 (aE (aw a).ofPiece) [.p (.sl (a.coppers.map rr)),.p (aV a.outline),.p (.sl (a.bores.map bc)),.p (.sl (a.lands.map lc)),.p (.sl ((aw a).drilled.map fun s=>[aG s])),.p (.sl ((aw a).pieces.map gw)),.p (.sl ((aw a).cI.map fun l=>[ints l])),.p (.sl ((aw a).placed.groups.map q_)),.ow 90004,.ow 90005,.ow 90006,.ow 90007] (by decide) (by exact rfl) (by exact rfl) (by exact rfl)).trans ((aW.gZ (by exact hC) _ 103 9 90005 3 (aE (aw a).ofBore) [.p (.sl (a.coppers.map rr)),.p (aV a.outline),.p (.sl (a.bores.map bc)),.p (.sl (a.lands.map lc)),.p (.sl ((aw a).drilled.map fun s=>[aG s])),.p (.sl ((aw a).pieces.map gw)),.p (.sl ((aw a).cI.map fun l=>[ints l])),.p (.sl ((aw a).placed.groups.map q_)),.p (.sl (aE (aw a).ofPiece)),.ow 90005,.ow 90006,.ow 90007] (by decide) (by exact rfl) (by exact rfl) (by exact rfl)).trans ((aW.gZ (by exact hC) _ 103 10 90006 3 (aE (aw a).placed.ofLand) [.p (.sl (a.coppers.map rr)),.p (aV a.outline),.p (.sl (a.bores.map bc)),.p (.sl (a.lands.map lc)),.p (.sl ((aw a).drilled.map fun s=>[aG s])),.p (.sl ((aw a).pieces.map gw)),.p (.sl ((aw a).cI.map fun l=>[ints l])),.p (.sl ((aw a).placed.groups.map q_)),.p (.sl (aE (aw a).ofPiece)),.p (.sl (aE (aw a).ofBore)),.ow 90006,.ow 90007] (by decide) (by exact rfl) (by exact rfl) (by exact rfl)).trans (aW.gZ (by exact hC) _ 103 11 90007 189 ((aw a).placed.atLand.map iE) [.p (.sl (a.coppers.map rr)),.p (aV a.outline),.p (.sl (a.bores.map bc)),.p (.sl (a.lands.map lc)),.p (.sl ((aw a).drilled.map fun s=>[aG s])),.p (.sl ((aw a).pieces.map gw)),.p (.sl ((aw a).cI.map fun l=>[ints l])),.p (.sl ((aw a).placed.groups.map q_)),.p (.sl (aE (aw a).ofPiece)),.p (.sl (aE (aw a).ofBore)),.p (.sl (aE (aw a).placed.ofLand)),.ow 90007] (by decide) (by exact rfl) (by exact rfl) (by exact rfl)))))))))) ?_
 refine yS (yq Z (aA zI (bd (ak (cD Z (jW Z Z Z (nX Z) (ak (yA Z (yR zi ?_)))))))))
 exact And.intro (by rw[hF,if_pos rfl];rfl) trivial
def rh (a:Wt):List dc×Int:=if cC a=0 then ((aw a).placed.groups,0) else ([],cC a)
theorem wR (a:Wt) (ho:oh a):aD C 10 [.pv (.ag (kG a))] (.tu [.sl ((rh a).1.map q_),i64 (rh a).2]) []:=by
 refine aT hC Tryz.func10 rfl rfl 18 rfl (by decide) (by kernel_rfl) fun _ _ _ _ _=>?_
 have aU:=kQ a ho
 by_cases g:cC a=0
 ·rw[rh,if_pos g]
  rw[pz,if_pos g,g] at aU
  (refine yS<|yn Z<|aA zI<|aS<|ak<|yB Z<|yA Z<|yU<|yP Z<|yn Z<|aK zI ?_;refine⟨_,_,aU,?_⟩)
  ((refine b9 Z Z<|bq<|yq Z<|aA zI<|bd<|bq<|yP Z<|yP Z<|yA Z<|yA Z<|yT<|au<|yS<|yP Z ?_;refine yP Z<|yT<|az Z<|cM<|aJ<|aj<|yS<|yP Z<|yP Z<|yP Z<|yP Z<|yA Z<|yA Z<|yR zi ?_);refine And.intro ?_ trivial)
  rfl
 rw[rh,if_neg g]
 rw[pz,if_neg g] at aU
 (refine yS<|yn Z<|aA zI<|aS<|ak<|yB Z<|yA Z<|yU<|yP Z<|yn Z<|aK zI ?_;refine⟨_,_,aU,?_⟩)
 ((refine b9 Z Z<|bq<|yq Z<|aA zI<|bd<|bq<|yP Z<|yP Z<|yA Z<|yA Z<|yT<|au<|yS<|yP Z ?_;refine yP Z<|yT<|az Z ?_);refine aa (fun h=>?_) (fun h=>?_) <;> try simp only[zB] at h)
 ·(refine yS<|yP Z<|yB Z<|yA Z<|yT<|bP<|aX<|bQ zi ?_;refine And.intro ?_ trivial)
  rfl
 exact absurd (by simpa using h) g
def sA (a:Wt) (k:Int):List aB×Int:=if cC a=0 then (if (Reg.within k 0 (((aw a).pieces.length:Int) - 1))=true then (told (((aw a).pieces.getD k.toNat ⟨0,[]⟩).set),0) else ([],9)) else ([],cC a)
theorem pZ (a:Wt) (ho:oh a) (k:Int) (hP:(aw a).pieces.length<=1000000000000):aD C 12 [.pv (.ag (kG a)),.pv (i64 k)] (.tu [aV (sA a k).1,i64 (sA a k).2]) []:=by
 have lp:=aN (aw a).pieces gw
 refine aT hC Tryz.func12 rfl rfl 33 rfl (by decide) (by kernel_rfl) fun _ _ _ _ _=>?_
 have aU:=kQ a ho
 by_cases g:cC a=0
 ·rw[sA,if_pos g]
  rw[pz,if_pos g,g] at aU
  (refine yS<|yn Z<|aA zI<|aS<|ak<|yB Z<|yA Z<|yU<|yP Z<|yn Z<|aK zI ?_;refine⟨_,_,aU,?_⟩)
  ((refine b9 Z Z<|bq<|yq Z<|aA zI<|bd<|bq<|yP Z<|yP Z<|yA Z<|yA Z<|yT<|au<|yS<|yP Z ?_;refine yP Z<|yT<|az Z<|cM<|aJ<|aj<|au<|yS<|yP Z<|yP Z<|yP Z<|yP Z<|yP Z<|yP Z ?_;refine yq Z<|bg zI ?_);refine sI ?_)
  have hw:=gv k 0 (((aw a).pieces.map gw).length - 1)
  (refine yk<|yn Z<|aK zI ?_;refine⟨_,_,hw,?_⟩)
  (refine b9 Z Z<|ae<|yP Z<|yT<|az Z ?_;refine aa (fun h=>?_) (fun h=>?_) <;> try simp only[zB] at h)
  ·rw[lp] at h
   (refine yS<|yB Z<|yA Z<|yT<|bP<|aX<|bQ zi ?_;refine And.intro ?_ trivial)
   rw[if_neg (by simp only[Bool.not_eq_true] at h ⊢;exact h)];rfl
  rw[lp] at h
  have h:Reg.within k 0 (((aw a).pieces.length:Int) - 1)=true:=by simpa using h
  rw[if_pos h]
  simp only[Reg.within,Bool.and_eq_true,decide_eq_true_eq] at h
  obtain⟨p,hp⟩:=bh (l:=(aw a).pieces) (i:=k.toNat) (by omega)
  have e:(aw a).pieces.getD k.toNat ⟨0,[]⟩=p:=by rw[List.getD_eq_getElem?_getD,hp];rfl
  rw[e]
  (refine aJ<|aj<|yS<|yP Z<|yP Z<|yP Z<|yP Z<|yP Z<|yq Z<|aK zI ?_;refine⟨(gw p),(idx (show k=(k.toNat:Int) by omega) hp),?_⟩)
  (refine yk<|yP Z<|yP Z<|yA Z<|yA Z<|yR zi ?_;refine And.intro ?_ trivial)
  rfl
 rw[sA,if_neg g]
 rw[pz,if_neg g] at aU
 (refine yS<|yn Z<|aA zI<|aS<|ak<|yB Z<|yA Z<|yU<|yP Z<|yn Z<|aK zI ?_;refine⟨_,_,aU,?_⟩)
 ((refine b9 Z Z<|bq<|yq Z<|aA zI<|bd<|bq<|yP Z<|yP Z<|yA Z<|yA Z<|yT<|au<|yS<|yP Z ?_;refine yP Z<|yT<|az Z ?_);refine aa (fun h=>?_) (fun h=>?_) <;> try simp only[zB] at h)
 ·(refine yS<|yP Z<|yB Z<|yA Z<|yT<|bP<|aX<|bQ zi ?_;refine And.intro ?_ trivial)
  rfl
 exact absurd (by simpa using h) g
end M
end Go.Proofs.YtpbkimanfahbgaaGreatDoor
