/- Part 5 of 11 of the proof of HouseDrillsEachOnce (the names are shortened by a program: the size of a claim is limited). -/
import Derived.Test.YtiaifckpmefinaaGreatDoorD04
import Derived.Shelf.SlSortCmp.WholeK
import Derived.Deep.Slices
import Derived.Shelf.SlSortCmp.NoneTotal
set_option linter.unusedVariables false
set_option linter.unusedSimpArgs false
set_option maxRecDepth 100000
set_option maxHeartbeats 8000000
namespace Go.Proofs.YtiaifckpmefinaaGreatDoor
namespace M
open Go.AM Go.RowKit
open aK (aG bB fa)
theorem pq (l:List aG):af C 198 [.pv (ca l)] (.p (i64 (aK.da l))) []:=by
 refine ah hC Tryz.func198 rfl rfl 30 rfl (by decide) (by kernel_rfl) fun _ _ _ _ _=>?_
 have lm:=ai l rc
 (repeat refine yY Z ?_);refine iF Z (fun h0=>?_) (fun h0=>?_)
 ·rw[lm] at h0
  ((repeat refine yY Z ?_);refine aa zi ?_);refine And.intro ?_ trivial
  rw[aK.da,if_pos (by omega)];rfl
 rw[lm] at h0
 have hc:aK.da l=aK.dB l:=by rw[aK.da,if_neg (by omega)]
 (repeat refine yY Z ?_)
 refine ak (fun i:Nat=>i<=l.length/\aK.dB l=aK.dB (l.drop i)) (fun i=>[(8,.p (ca l)),(9,.p (i64 (l.map rc).length)),(10,.p (i64 i))]) (fun _=>[]) (fun i=>l.length - i) 0 _ (aD.refl _ _) ⟨Nat.zero_le _,rfl⟩ ⟨Z,Z,Z,Y⟩ trivial fun i hi t h=>?_
 (repeat refine yY Z ?_);refine iF Z (fun h1=>?_) (fun h1=>?_)
 ·rw[lm] at h1
  obtain⟨r,hr⟩:=aj (l:=l) (i:=i) (by omega)
  have hs:=po hr
  ((repeat refine yY Z ?_);refine zX zi ?_);refine⟨(rc r),(idx rfl hr),?_⟩
  ((repeat refine yY Z ?_);refine zX zi ?_);refine⟨_,_,(vp r),?_⟩
  (repeat refine yY Z ?_);refine iF Z (fun g1=>?_) (fun g1=>?_)
  ·((repeat refine yY Z ?_);refine aa zi ?_);refine And.intro ?_ trivial
   rw[hc,hi.2,hs,if_neg (by simp[g1])];rfl
  rw[if_pos g1] at hs
  (repeat refine yY Z ?_);refine iF Z (fun e1=>?_) (fun e1=>?_)
  ·((repeat refine yY Z ?_);refine aa zi ?_);refine And.intro ?_ trivial
   rw[hc,hi.2,hs,if_pos (.inl e1)];rfl
  (repeat refine yY Z ?_);refine iF Z (fun e2=>?_) (fun e2=>?_)
  ·((repeat refine yY Z ?_);refine aa zi ?_);refine And.intro ?_ trivial
   rw[hc,hi.2,hs,if_pos (.inr e2)];rfl
  ((repeat refine yY Z ?_);refine zA zi ?_);refine And.intro ⟨by omega,by omega⟩ ?_
  ((repeat refine yY Z ?_);refine ae ?_);refine⟨(i+1),_,aD.refl _ _,?_⟩
  refine⟨⟨by omega,?_⟩,by omega,⟨Z,Z,Z,Y⟩,trivial⟩
  rw[hi.2,hs,if_neg (by omega)]
 rw[lm] at h1
 ((repeat refine yY Z ?_);refine aa zi ?_);refine And.intro ?_ trivial
 rw[hc,hi.2,List.drop_of_length_le (by omega)];rfl
theorem xl (l m:List aG) (hN:l.length<=140737488355328):af C 199 [.pv (ca l),.pv (ca m)] (.p (bool (decide (l=m)))) []:=by
 refine ah hC Tryz.func199 rfl rfl 26 rfl (by decide) (by kernel_rfl) fun _ _ _ _ _=>?_
 have lm:=ai l rc
 have mm:=ai m rc
 (repeat refine yY Z ?_);refine iF Z (fun h0=>?_) (fun h0=>?_)
 ·rw[lm,mm] at h0
  ((repeat refine yY Z ?_);refine aa zi ?_);refine And.intro ?_ trivial
  rw[decide_eq_false (fun e:l=m=>h0 (by rw[e]))]
  rfl
 rw[lm,mm] at h0
 (repeat refine yY Z ?_)
 refine ak (fun i:Nat=>i<=l.length/\(l=m↔l.drop i=m.drop i)) (fun i=>[(0,.p (ca l)),(1,.p (ca m)),(12,.p (i64 (l.map rc).length)),(13,.p (i64 i))]) (fun _=>[]) (fun i=>l.length - i) 0 _ (aD.refl _ _) ⟨Nat.zero_le _,Iff.rfl⟩ ⟨Z,Z,Z,Z,Y⟩ trivial fun i hi t h=>?_
 (repeat refine yY Z ?_);refine iF Z (fun h1=>?_) (fun h1=>?_)
 ·rw[lm] at h1
  obtain⟨r,hr⟩:=aj (l:=l) (i:=i) (by omega)
  obtain⟨q,hq⟩:=aj (l:=m) (i:=i) (by omega)
  have hs:=tY hr hq
  ((repeat refine yY Z ?_);refine c_ [] false Oi rfl (by kernel_rfl) ?_;(repeat refine yY Z ?_);refine zX zi ?_);refine⟨(rc r),(idx rfl hr),?_⟩
  ((repeat refine yY Z ?_);refine zX zi ?_);refine⟨(rc q),(idx rfl hq),?_⟩
  have he:=aK.aG.xa r q
  (repeat refine yY Z ?_);refine iF Z (fun h2=>?_) (fun h2=>?_) <;> try simp only[zB] at h2
  ·((repeat refine yY Z ?_);refine aa zi ?_);refine And.intro ?_ trivial
   rw[decide_eq_false];rfl
   rw[hi.2,hs,he]
   simp only[Bool.and_eq_false_iff,decide_eq_false_iff_not] at h2
   intro ⟨⟨e1,e2,e3,e4⟩,_⟩
   simp[e1,e2,e3,e4] at h2
  ((repeat refine yY Z ?_);refine zA zi ?_);refine And.intro ⟨by omega,by omega⟩ ?_
  ((repeat refine yY Z ?_);refine ae ?_);refine⟨(i+1),_,aD.refl _ _,?_⟩
  refine⟨⟨by omega,?_⟩,by omega,⟨Z,Z,Z,Z,Y⟩,trivial⟩
  rw[hi.2,hs,he]
  simp[decide_eq_true_eq] at h2
  exact and_iff_right h2
 ((repeat refine yY Z ?_);refine aa zi ?_);refine And.intro ?_ trivial
 rw[lm] at h1
 rw[decide_eq_true];rfl
 rw[hi.2,List.drop_of_length_le (by omega),List.drop_of_length_le (by omega)]
theorem zu (l m:List Int) (hN:l.length<=140737488355328):af C 41 [.pv (ints l),.pv (ints m)] (.p (bool (decide (l=m)))) []:=by
 refine ah hC Tryz.func41 rfl rfl 26 rfl (by decide) (by kernel_rfl) fun _ _ _ _ _=>?_
 have lm:=ai l fun n=>[i64 n]
 have mm:=ai m fun n=>[i64 n]
 (repeat refine yY Z ?_);refine iF Z (fun h0=>?_) (fun h0=>?_)
 ·rw[lm,mm] at h0
  ((repeat refine yY Z ?_);refine aa zi ?_);refine And.intro ?_ trivial
  rw[decide_eq_false (fun e:l=m=>h0 (by rw[e]))]
  rfl
 rw[lm,mm] at h0
 (repeat refine yY Z ?_)
 refine ak (fun i:Nat=>i<=l.length/\(l=m↔l.drop i=m.drop i)) (fun i=>[(0,.p (ints l)),(1,.p (ints m)),(12,.p (i64 (l.map fun n=>[i64 n]).length)),(13,.p (i64 i))]) (fun _=>[]) (fun i=>l.length - i) 0 _ (aD.refl _ _) ⟨Nat.zero_le _,Iff.rfl⟩ ⟨Z,Z,Z,Z,Y⟩ trivial fun i hi t h=>?_
 (repeat refine yY Z ?_);refine iF Z (fun h1=>?_) (fun h1=>?_)
 ·rw[lm] at h1
  obtain⟨r,hr⟩:=aj (l:=l) (i:=i) (by omega)
  obtain⟨q,hq⟩:=aj (l:=m) (i:=i) (by omega)
  have hs:=tY hr hq
  ((repeat refine yY Z ?_);refine c_ [] false Oi rfl (by kernel_rfl) ?_;(repeat refine yY Z ?_);refine zX zi ?_);refine⟨[i64 r],(idx rfl hr),?_⟩
  ((repeat refine yY Z ?_);refine zX zi ?_);refine⟨[i64 q],(idx rfl hq),?_⟩
  (repeat refine yY Z ?_);refine iF Z (fun h2=>?_) (fun h2=>?_)
  ·((repeat refine yY Z ?_);refine aa zi ?_);refine And.intro ?_ trivial
   rw[decide_eq_false];rfl
   rw[hi.2,hs]
   exact fun h=>h2 h.1
  ((repeat refine yY Z ?_);refine zA zi ?_);refine And.intro ⟨by omega,by omega⟩ ?_
  ((repeat refine yY Z ?_);refine ae ?_);refine⟨(i+1),_,aD.refl _ _,?_⟩
  refine⟨⟨by omega,?_⟩,by omega,⟨Z,Z,Z,Z,Y⟩,trivial⟩
  rw[hi.2,hs]
  exact and_iff_right h2
 ((repeat refine yY Z ?_);refine aa zi ?_);refine And.intro ?_ trivial
 rw[lm] at h1
 rw[decide_eq_true];rfl
 rw[hi.2,List.drop_of_length_le (by omega),List.drop_of_length_le (by omega)]
def flat:bB->List Int
 | []=>[]
 | p::s=>p.1::p.2::flat s
theorem iR:∀s:bB,(flat s).length=2*s.length:=by
 intro s
 induction s with
 | nil=>rfl
 | cons p s ih=>simp only[flat,List.length_cons,ih];omega
theorem Ef:∀{s u:bB},flat s=flat u->s=u:=by
 intro s
 induction s with
 | nil=>intro u h;cases u with | nil=>rfl | cons=>cases h
 | cons p s ih=>
  intro u h
  cases u with
  | nil=>cases h
  | cons q u=>
   simp only[flat,List.cons.injEq] at h
   rw[ih h.2.2,Prod.ext h.1 h.2.1]
def hb (b:fa):List PV:=[i64 b.y0,i64 b.y1,ints (flat b.xs)]
theorem zv (l:List fa) (b:fa) (BJ:b.y0 < b.y1) (hN:l.length<=1000000000000) (hX:∀t∈l,t.xs.length<=1000000000000):af C 265 [.row 329 (l.map hb),.pv (.ag (hb b))] (.own 329 ((aK.iq l b).map hb)) [.gone]:=by
 refine ah hC Tryz.func265 rfl rfl 54 rfl (by decide) (by kernel_rfl) fun _ _ _ _ _=>?_
 have lm:=ai l hb
 have sm:=ai (flat b.xs) fun n=>[i64 n]
 have fl:=iR b.xs
 have done:∀z:List fa,z=aK.iq l b->AB.row 329 (z.map hb)=AB.row 329 ((aK.iq l b).map hb):=fun z e=>by rw[e]
 (repeat refine yY Z ?_);refine iF Z (fun h1=>?_) (fun h1=>?_)
 ·rw[sm,fl] at h1
  have he:b.xs=[]:=List.eq_nil_of_length_eq_zero (by omega)
  (repeat refine yY Z ?_);refine aa zi ?_
  exact⟨done l (by rw[aK.iq,if_pos he]),Z,Y⟩
 rw[sm,fl] at h1
 have he:b.xs≠[]:=fun e=>h1 (by rw[e];rfl)
 have more:l++[b]=aK.iq l b->AB.row 329 (l.map hb++[hb b])=AB.row 329 ((aK.iq l b).map hb):=fun e=>by rw[<-e,List.map_append];rfl
 (repeat refine yY Z ?_);refine iF Z (fun h0=>?_) (fun h0=>?_)
 ·omega
 ((repeat refine yY Z ?_);refine zA zi ?_);refine And.intro ⟨by rw[lm];omega,by rw[lm];omega⟩ ?_
 (repeat refine yY Z ?_);refine c_ [] false Oq rfl (by kernel_rfl) ?_;(repeat refine yY Z ?_);refine iF Z (fun h2=>?_) (fun h2=>?_)
 ·rw[lm] at h2
  obtain⟨m,hm⟩:∃m,l.length=m+1:=⟨l.length - 1,by omega⟩
  have hi:((l.map hb).length:Int) - 1=(m:Nat):=by rw[lm];omega
  have hp:aK.iq l b=match l.getLast? with
   | some t=>if t.y1=b.y0/\t.xs=b.xs then l.dropLast++[⟨t.y0,b.y1,t.xs⟩] else l++[b]
   | none=>[b]:=by rw[aK.iq,if_neg he] <;> rfl
  obtain⟨t,ht⟩:=aj (l:=l) (i:=m) (by omega)
  rw[xe hm ht] at hp
  simp only at hp
  have ft:=iR t.xs
  ((repeat refine yY Z ?_);refine zA zi ?_);refine And.intro ⟨by rw[hi];omega,by rw[hi,lm];omega⟩ ?_
  ((repeat refine yY Z ?_);refine zX zi ?_);refine⟨(hb t),(idx hi ht).2,?_⟩
  (repeat refine yY Z ?_);refine iF Z (fun h3=>?_) (fun h3=>?_)
  ·((repeat refine yY Z ?_);refine zA zi ?_);refine And.intro ⟨by rw[hi];omega,by rw[hi,lm];omega⟩ ?_
   ((repeat refine yY Z ?_);refine zX zi ?_);refine⟨(hb t),(idx hi ht).2,?_⟩
   ((repeat refine yY Z ?_);refine zX zi ?_);refine⟨_,_,(zu (flat t.xs) (flat b.xs) (by have:=hX t (List.mem_of_getElem? ht);omega)),?_⟩
   (repeat refine yY Z ?_);refine iF Z (fun h4=>?_) (fun h4=>?_)
   ·have h4:t.xs=b.xs:=Ef h4
    ((repeat refine yY Z ?_);refine zA zi ?_);refine And.intro ⟨by rw[hi];omega,by rw[hi,lm];omega⟩ ?_
    ((repeat refine yY Z ?_);refine zX zi ?_);refine⟨(hb t),(idx hi ht).2,?_⟩
    (repeat refine yY Z ?_);refine aa zi ?_
    rw[if_pos ⟨h3,h4⟩] at hp
    have zh:∀k:Nat,k=m->AB.row 329 ((l.map hb).set k [i64 t.y0,i64 b.y1,ints (flat t.xs)])=AB.row 329 ((aK.iq l b).map hb):=by
     intro k e
     subst e
     rw[hp]
     obtain⟨d,hd⟩:=List.getLast?_eq_some_iff.1 (xe hm ht)
     subst hd
     have hk:k=d.length:=by simp at hm;omega
     subst hk
     simp[hb]
    exact⟨zh _ (by rw[hi];rfl),Z,Y⟩
   have h4:t.xs≠b.xs:=fun e=>h4 (by rw[e])
   rw[if_neg (fun h=>h4 h.2)] at hp
   ((repeat refine yY Z ?_);refine zA zi ?_);refine And.intro ⟨by simp,by simp;omega,by simp;omega⟩ ?_
   (repeat refine yY Z ?_);refine aa zi ?_
   exact⟨more hp.symm,Z,Y⟩
  rw[if_neg (fun h=>h3 h.1)] at hp
  ((repeat refine yY Z ?_);refine zA zi ?_);refine And.intro ⟨by simp,by simp;omega,by simp;omega⟩ ?_
  (repeat refine yY Z ?_);refine aa zi ?_
  exact⟨more hp.symm,Z,Y⟩
 rw[lm] at h2
 have hl:l=[]:=List.eq_nil_of_length_eq_zero (by omega)
 ((repeat refine yY Z ?_);refine zA zi ?_);refine And.intro ⟨by simp,by simp;omega,by simp;omega⟩ ?_
 (repeat refine yY Z ?_);refine aa zi ?_
 exact⟨more (by subst hl;rw[aK.iq,if_neg he];rfl),Z,Y⟩
theorem Eg:∀{s:bB} {k:Nat} {p:Int×Int},s[k]?=some p->(flat s)[2*k]?=some p.1/\(flat s)[2*k+1]?=some p.2:=by
 intro s
 induction s with
 | nil=>intro k p h;simp at h
 | cons q s ih=>
  intro k p h
  cases k with
  | zero=>simp at h;subst h;exact⟨rfl,rfl⟩
  | succ k=>
   obtain⟨h1,h2⟩:=ih (k:=k) (p:=p) (by simpa using h)
   rw[show 2*(k+1)=(2*k+1)+1 by omega]
   exact⟨by simpa [flat] using h1,by simpa [flat] using h2⟩
theorem vu (l:List fa) (hN:l.length<=1000000000000) (hX:∀t∈l,t.xs.length<=1000000000000) (hT:(aK.told l).length<=4398046511104):af C 201 [.pv (.sl (l.map hb))] (.own 221 ((aK.told l).map rc)) []:=by
 refine ah hC Tryz.func201 rfl rfl 41 rfl (by decide) (by kernel_rfl) fun _ _ _ _ _=>?_
 have lm:=ai l hb
 have tl:∀i,(aK.told (l.take i)).length<=(aK.told l).length:=fun i=>by
  have e:aK.told l=aK.told (l.take i)++aK.told (l.drop i):=by
   unfold aK.told
   rw[<-List.flatMap_append,List.take_append_drop]
  rw[e,List.length_append]
  omega
 (repeat refine yY Z ?_)
 refine ak (fun i:Nat=>i<=l.length) (fun i=>[(7,.p (.sl (l.map hb))),(8,.p (i64 (l.map hb).length)),(3,.ow 3),(9,.p (i64 i))]) (fun i=>[(3,.row 221 ((aK.told (l.take i)).map rc))]) (fun i=>l.length - i) 0 _ (aD.eG hC _ 3 221 _ (by decide) rfl rfl (by decide)) (Nat.zero_le _) ⟨Z,Z,Z,Z,Y⟩ ⟨Z,Y⟩ fun i hi t h=>?_
 (repeat refine yY Z ?_);refine iF Z (fun h1=>?_) (fun h1=>?_)
 ·rw[lm] at h1
  obtain⟨b,Ij⟩:=aj (l:=l) (i:=i) (by omega)
  have bm:=ai (flat b.xs) fun n=>[i64 n]
  have fl:=iR b.xs
  have jG:=hX b (List.mem_of_getElem? Ij)
  have ht:=tl (i+1)
  rw[tZ Ij,List.length_append,List.length_map] at ht
  ((repeat refine yY Z ?_);refine zX zi ?_);refine⟨(hb b),(idx rfl Ij),?_⟩
  (repeat refine yY Z ?_)
  refine D9 (fun _:Unit=>True) (fun _=>[(7,.p (.sl (l.map hb))),(8,.p (i64 (l.map hb).length)),(3,.ow 3),(9,.p (i64 i))]) (fun _=>[(3,.row 221 ((aK.told (l.take (i+1))).map rc))]) (fun _ _ t h=>?_) ?_
  ·((repeat refine yY Z ?_);refine zA zi ?_);refine And.intro ⟨by omega,by omega⟩ ?_
   ((repeat refine yY Z ?_);refine ae ?_);refine⟨(i+1),_,aD.refl _ _,?_⟩
   exact⟨by omega,by omega,⟨Z,Z,Z,Z,Y⟩,⟨Z,Y⟩⟩
  refine ak (fun k:Nat=>k<=b.xs.length) (fun k=>[(7,.p (.sl (l.map hb))),(8,.p (i64 (l.map hb).length)),(3,.ow 3),(9,.p (i64 i)),(5,.bx 5 0),(6,.p (i64 ((2*k:Nat):Int)))]) (fun k=>[(3,.row 221 ((aK.told (l.take i)++rX b k).map rc)),(5,.box [.p (i64 b.y0),.p (i64 b.y1),.p (ints (flat b.xs))])]) (fun k=>b.xs.length - k) 0 _ (aD.refl _ _) (Nat.zero_le _) ⟨Z,Z,Z,Z,Z,Z,Y⟩ ⟨by rw[rX];simp;rfl,Z,Y⟩ fun k hk t h=>?_
  have Cp:(rX b k).length<=k:=by simp[rX];omega
  (repeat refine yY Z ?_);refine iF Z (fun h2=>?_) (fun h2=>?_)
  ·rw[bm,fl] at h2
   obtain⟨p,hp⟩:=aj (l:=b.xs) (i:=k) (by omega)
   obtain⟨g1,g2⟩:=Eg hp
   ((repeat refine yY Z ?_);refine c_ [] true Oo rfl (by kernel_rfl) ?_;(repeat refine yY Z ?_);refine zX zi ?_);refine⟨[i64 p.1],(idx rfl g1),?_⟩
   ((repeat refine yY Z ?_);refine zA zi ?_);refine And.intro ⟨by omega,by omega⟩ ?_
   ((repeat refine yY Z ?_);refine zX zi ?_);refine⟨[i64 p.2],(idx (by omega) g2),?_⟩
   ((repeat refine yY Z ?_);refine zA zi ?_);refine And.intro ⟨A4 rfl,by simp;omega,by simp;omega⟩ ?_
   ((repeat refine yY Z ?_);refine zA zi ?_);refine And.intro ⟨by omega,by omega⟩ ?_
   ((repeat refine yY Z ?_);refine ae ?_);refine⟨(k+1),_,aD.refl _ _,?_⟩
   refine⟨by omega,by omega,⟨rfl,rfl,rfl,rfl,rfl,aS (by omega),trivial⟩,⟨?_,Z,Y⟩⟩
   have hc:rX b (k+1)=rX b k++[⟨p.1,b.y0,p.2,b.y1⟩]:=by simp[rX,aN hp]
   have e:(aK.told (l.take i)++rX b k).map rc++[rc ⟨p.1,b.y0,p.2,b.y1⟩]=(aK.told (l.take i)++rX b (k+1)).map rc:=by
    rw[hc,<-List.append_assoc,List.map_append (l₂:=[_])]
    rfl
   exact congrArg (AB.row 221) e
  rw[bm,fl] at h2
  (repeat refine yY Z ?_);refine ae<|zX zi ?_
  refine⟨(),trivial,⟨Z,Z,Z,Z,Y⟩,⟨?_,trivial⟩⟩
  rw[tZ Ij]
  have:rX b k=b.xs.map fun p=>⟨p.1,b.y0,p.2,b.y1⟩:=by rw[rX,List.take_of_length_le (by omega)]
  rw[<-this]
  rfl
 rw[lm] at h1
 (repeat refine yY Z ?_);refine aa zi ?_
 rw[List.take_of_length_le (by omega)]
 exact⟨Z,Z,Y⟩
theorem xm (l:List fa) (hN:l.length<=1000000) (hX:∀t∈l,t.xs.length<=1000000):af C 201 [.pv (.sl (l.map hb))] (.own 221 ((aK.told l).map rc)) []:=
 vu l (by omega) (fun t ht=>by have:=hX t ht;omega) (by
  have h1:=qd l hX
  have h3:l.length*1000000<=1000000*1000000:=Nat.mul_le_mul_right _ hN
  omega)
end M
end Go.Proofs.YtiaifckpmefinaaGreatDoor
namespace Go.AM
open Go.RowKit
theorem qS {α:Type} {k:Nat}:∀{L:List (List α)} {a:Nat} {r:List α} {j:Nat} {v:α},(∀r∈L,r.length=k)->L[a]?=some r->r[j]?=some v->L.flatten[a*k+j]?=some v:=by
 intro L
 induction L with
 | nil=>intro a r j v _ h;simp at h
 | cons x L ih=>
  intro a r j v hk h1 h2
  have hx:=hk x (by simp)
  cases a with
  | zero=>
   simp at h1
   subst h1
   rw[List.flatten_cons,Nat.zero_mul,Nat.zero_add,List.getElem?_append_left (ao h2)]
   exact h2
  | succ a=>
   rw[List.flatten_cons,Nat.succ_mul,List.getElem?_append_right (by omega)]
   have:=ih (a:=a) (r:=r) (j:=j) (v:=v) (fun r hr=>hk r (by simp[hr])) (by simpa using h1) h2
   rw[<-this]
   congr 1
   omega
theorem fF {α:Type} {k:Nat}:∀{L:List (List α)},(∀r∈L,r.length=k)->L.flatten.length=L.length*k:=by
 intro L
 induction L with
 | nil=>intro _;simp
 | cons x L ih=>
  intro hk
  rw[List.flatten_cons,List.length_append,ih fun r hr=>hk r (by simp[hr]),hk x (by simp),List.length_cons,Nat.succ_mul]
  omega
def aB (L:List (List Value)):List (List PV):=L.map fun r=>r.map PV.im
theorem t_ {P:Program} {S:Nat->Prop} {w:World} {L:List (List Value)} {k:Nat} (hk:∀r∈L,r.length=k) {xs:List Value} (hl:xs.length=L.length*k) (h:∀(a:Nat) r (j:Nat) x,(aB L)[a]?=some r->r[j]?=some x->∃u,xs[a*k+j]?=some u/\az S w x u):xs=L.flatten:=by
 have Pu:=fF hk
 apply List.ext_getElem?
 intro q
 by_cases hq:q < L.length*k
 ·have CR:0 < k:=Nat.pos_of_ne_zero fun e=>by rw[e] at hq;simp at hq
  have ha:q / k < L.length:=(Nat.div_lt_iff_lt_mul CR).2 hq
  have hj:q % k < k:=Nat.mod_lt _ CR
  have hr:L[q / k]?=some L[q / k]:=List.getElem?_eq_getElem ha
  have qJ:=hk _ (List.getElem_mem ha)
  have hv:L[q / k][q % k]?=some (L[q / k][q % k]'(by omega)):=List.getElem?_eq_getElem _
  have e:q / k*k+q % k=q:=by rw[Nat.mul_comm];exact Nat.div_add_mod q k
  obtain⟨u,h1,h2⟩:=h (q / k) _ (q % k) _ (by unfold aB;rw[List.getElem?_map,hr];rfl) (by rw[List.getElem?_map,hv];rfl)
  rw[e] at h1
  have h3:=qS hk hr hv
  rw[e] at h3
  rw[h1,h3,h2.aZ]
 rw[List.getElem?_eq_none (by omega),List.getElem?_eq_none (by omega)]
theorem ua {S:Nat->Prop} {w:World} {L:List (List Value)} {k:Nat} (hk:∀r∈L,r.length=k):∀(a:Nat) r (j:Nat) x,(aB L)[a]?=some r->r[j]?=some x->∃u,L.flatten[a*k+j]?=some u/\az S w x u:=by
 intro a r j x h1 h2
 unfold aB at h1
 rw[List.getElem?_map] at h1
 obtain⟨r0,h3,rfl⟩:=Option.map_eq_some_iff.1 h1
 rw[List.getElem?_map] at h2
 obtain⟨v,h4,rfl⟩:=Option.map_eq_some_iff.1 h2
 exact⟨v,qS hk h3 h4,.im v⟩
theorem A6 {L:List (List Value)} {k:Nat} (hk:∀r∈L,r.length=k):∀r∈aB L,r.length=k:=by
 intro r hr
 obtain⟨r0,h,rfl⟩:=List.mem_map.1 hr
 rw[List.length_map,hk r0 h]
def kX (w:World) (g n:Nat) (F:Array Value) (os:Array Obj):World:=Sort.grow (Sort.putRow id (Sort.ahead w n) g 0 F) os
theorem rY (w:World) (g n:Nat) (F:Array Value) (os:Array Obj):(kX w g n F os).os=w.os/\(kX w g n F os).tape=w.tape/\(kX w g n F os).output=w.output/\w.heap.size<=(kX w g n F os).heap.size/\∀k,k < w.heap.size->(kX w g n F os).heap[k]?=if k=g then (w.heap[k]?).map (Sort.onCells (Sort.putCells id 0 F)) else w.heap[k]?:=by
 refine⟨rfl,rfl,rfl,?_,fun k hk=>?_⟩
 ·simp[kX,Sort.grow,Sort.putRow,Sort.mapBlock,Sort.ahead]
 simp only[kX,Sort.grow,Sort.putRow,Sort.mapBlock,Sort.ahead]
 rw[Array.getElem?_append_left (by simpa using hk),Array.getElem?_modify]
 by_cases e:g=k
 ·rw[if_pos e,if_pos e.symm]
 rw[if_neg e,if_neg fun h=>e h.symm]
theorem ob (F cur:Array Value) (h:F.size<=cur.size):(Sort.putCells id 0 F cur).size=cur.size/\(Sort.putCells id 0 F cur).toList.take F.size=F.toList:=by
 refine⟨by simp[Sort.putCells],?_⟩
 apply List.ext_getElem?
 intro j
 rw[List.getElem?_take]
 split
 ·rename_i hj
  rw[Array.getElem?_toList,Array.getElem?_toList]
  simp only[Sort.putCells,Array.getElem?_mapIdx]
  rw[Array.getElem?_eq_getElem (by omega:j < cur.size),Array.getElem?_eq_getElem hj,Option.map_some,if_pos ⟨Nat.zero_le _,by omega⟩,Nat.sub_zero,getElem!_pos F j hj]
  rfl
 rename_i hj
 rw[List.getElem?_eq_none (by simpa using hj)]
theorem Cq {w w':World} {e:TypeId} {es bW:List (List PV)} {v0:Value} {zs:List Value} (hs:w.heap.size<=w'.heap.size) (h:∀g,br v0=some g->g < w.heap.size/\Mv w (.row e es::zs.map fun a=>.pv (.im a)) (#[v0]++zs.toArray) g):nA w w' (.row e es::zs.map fun a=>.pv (.im a)) [.row bW] (#[v0]++zs.toArray):=by
 have OC:∀i g,bU w' (.row e es::zs.map fun a=>.pv (.im a)) [.row bW] (#[v0]++zs.toArray).toList i g->i=0/\br v0=some g:=fun i g hg=>by
  simp only[Array.toList_append] at hg
  cases i with
  | zero=>exact⟨rfl,aq rfl hg.2⟩
  | succ i=>exact (nW zs i g hg).elim
 exact⟨fun i g hg=>by obtain⟨h1,h2⟩:=h g (OC i g hg).2;exact⟨Nat.lt_of_lt_of_le h1 hs,.inr h2⟩,fun i j g hi hj=>by rw[(OC i g hi).1,(OC j g hj).1]⟩
theorem na {C:Ctx} (hC:a8 C) {f:FuncId} (e:TypeId) (ti:TI) (hT:C.T e=some ti) (CR:0 < ti.size) (zs:List Value) (L L':List (List Value)) (hL:∀r∈L,r.length=ti.size) (F1:∀r∈L',r.length=ti.size) (hlen:L'.length=L.length)
  (h1:∀r∈L',∀v∈r,v.oneCell'=true) (hf:qQ C f)
  (hnil:L=[]->∀w,Calls C.P f (#[.slice none 0 0]++zs.toArray) w fun e' w'=>e'=.returned (.tuple #[])/\w'=w)
  (h:∀S w br cap,C.E S w->br < w.heap.size->L.length<=cap->(∀j v,L.flatten[j]?=some v->w.cell? ⟨br,j,none⟩=some v/\w.frozen? ⟨br,j,none⟩=false)->
   Calls C.P f (#[.slice (some ⟨br,0,none⟩) L.length cap]++zs.toArray) w fun e' w'=>e'=.returned (.tuple #[])/\∃n os,w'=kX w br n L'.flatten.toArray os):
  af C f (.row e (aB L)::zs.map fun a=>.pv (.im a)) (.tu []) [.row (aB L')]:=by
 refine⟨hf,fun S w vs hE hS hl hr _=>?_⟩
 obtain⟨v0,vr,rfl⟩:∃v0 vr,vs=#[v0]++vr:=by
  obtain⟨l⟩:=vs
  cases l with
  | nil=>simp at hl
  | cons v0 l=>exact⟨v0,⟨l⟩,by simp⟩
 have OD:vr=zs.toArray:=qR (S:=S) (w:=w) (P:=C.P) (by simp at hl ⊢;omega) fun j x v hx hv=>hr (j+1) x v (by simpa using hx) (by rw[Array.getElem?_append_right (by simp)];simpa using hv)
 subst OD
 have an:aw C.P w (az S w) e (aB L) v0/\∀g,br v0=some g->¬S g:=hr 0 _ v0 rfl (by simp)
 obtain⟨⟨i,xs,hi,hpos,hown,Q5,fB,hcell⟩,Mt⟩:=an
 obtain⟨info,z,g1,g2,_⟩:=hC.eK e ti hT
 rw[hi] at g1;injection g1 with g1;subst g1
 have nv:(aB L).length=L.length:=List.length_map ..
 have vv:(aB L').length=L.length:=by rw[<-hlen];exact List.length_map ..
 have hx:xs=L.flatten:=t_ (P:=C.P) (k:=i.size) (by rw[g2];exact hL) (by rw[<-nv];exact hown.1) hcell
 have Hf:∀g,br v0=some g->Mv w (.row e (aB L)::zs.map fun a=>.pv (.im a)) (#[v0]++zs.toArray) g:=fun g hg=>⟨0,_,v0,rfl,by simp,rfl,.inl hg⟩
 have tail:∀w':World,mT S w' C.P (.row e (aB L)) (.row (aB L')) v0->dT S w' C.P (.row e (aB L)::zs.map fun a=>.pv (.im a)) [.row (aB L')] (#[v0]++zs.toArray).toList:=fun w' GR=>by
  simp only[Array.toList_append]
  exact⟨GR,vg zs⟩
 have Le:∀w':World,w.heap.size<=w'.heap.size->nA w w' (.row e (aB L)::zs.map fun a=>.pv (.im a)) [.row (aB L')] (#[v0]++zs.toArray):=fun w' hs=>Cq hs (fun g hg=>⟨(hown.lt g (by rw[cU (cC hown).choose_spec.choose_spec];exact hg)).2,Hf g hg⟩)
 rcases hown.2 with⟨q1,q2⟩ | ⟨g,cap,cur,q1,q2,q3,q4,q5,q6,q7⟩
 ·have AN:L=[]:=List.eq_nil_of_length_eq_zero (by rw[<-nv];exact q2)
  subst q1
  refine (hnil AN w).mono fun e' w' ⟨he,hw⟩=>?_
  subst hw
  refine⟨.tuple #[],S,he,Fr.refl _ _,fun _ h=>h,hS,fun b hb=>.inl hb,⟨#[],rfl,rfl,by simp⟩,tail _ ⟨?_,Mt⟩,Le _ (Nat.le_refl _),fun g h=>by cases h⟩
  have IN:L'=[]:=List.eq_nil_of_length_eq_zero (by rw[hlen,AN];rfl)
  subst IN
  exact⟨i,[],hi,hpos,World.ownsRow_nil _ _ _ _,by simp[aB],by simp,by simp[aB]⟩
 subst q1
 have Cr:g < w.heap.size:=(Array.getElem?_eq_some_iff.1 q3).1
 have OE:L'.flatten.toArray.size=L.length*i.size:=by rw[List.size_toArray,fF F1,hlen,g2]
 have je:L.length*i.size<=cur.size:=by rw[q6];exact Nat.mul_le_mul_right _ (by rw[<-nv];exact q4)
 have hh:=h S w g cap hE Cr (by rw[<-nv];exact q4) fun j v hj=>by
  have nI:j < L.length*i.size:=by have:=ao hj;rw[fF hL] at this;rw[g2];exact this
  have:cur[j]?=some v:=by
   rw[<-hx,<-q7] at hj
   rw[List.getElem?_take] at hj
   split at hj
   ·simpa using hj
   cases hj
  exact⟨by rw[cell_of_row w g j cur e (0,0) q3];exact this,by simp[World.frozen?,q3]⟩
 rw[<-nv] at hh
 refine hh.mono fun e' w' ⟨he,n,os,hw⟩=>?_
 subst hw
 obtain⟨p1,p2,p3,p4,p5⟩:=rY w g n L'.flatten.toArray os
 obtain⟨c1,c2⟩:=ob L'.flatten.toArray cur (by omega)
 have kg:(kX w g n L'.flatten.toArray os).heap[g]?=some (.cells (Sort.putCells id 0 L'.flatten.toArray cur) e (0,0)):=by rw[p5 g Cr,if_pos rfl,q3];rfl
 refine⟨.tuple #[],S,he,⟨p1,p2,p3,p4,fun k hk hn=>?_⟩,fun _ h=>h,fun b hb=>Nat.lt_of_lt_of_le (hS b hb) p4,fun b hb=>.inl hb,⟨#[],rfl,rfl,by simp⟩,tail _ ⟨?_,Mt⟩,Le _ p4,fun g h=>by cases h⟩
 ·rw[p5 k hk,if_neg]
  intro e
  subst e
  exact hn (Hf k rfl)
 refine⟨i,L'.flatten,hi,hpos,⟨by rw[vv,<-hlen,g2];exact fF F1,.inr ⟨g,cap,_,by rw[vv,nv],Nat.zero_le _,kg,by rw[vv,<-nv];exact q4,q5,by rw[c1];exact q6,?_⟩⟩,by rw[g2];exact A6 F1,fun u hu=>?_,ua (by rw[g2];exact F1)⟩
 ·rw[vv,<-OE]
  exact c2
 obtain⟨r,Km,mB⟩:=List.mem_flatten.1 hu
 exact h1 r Km u mB
theorem zw {C:Ctx} (hC:a8 C) {f:FuncId} (e:TypeId) (ti:TI) (hT:C.T e=some ti) (CR:0 < ti.size) (zs:List Value) (L L':List (List Value)) (m:Nat) (hm:m<=L.length) (hL:∀r∈L,r.length=ti.size) (F1:∀r∈L',r.length=ti.size) (hlen:L'.length=L.length)
  (h1:∀r∈L',∀v∈r,v.oneCell'=true) (hf:qQ C f)
  (hnil:L=[]->∀w,Calls C.P f (#[.slice none 0 0]++zs.toArray) w fun e' w'=>e'=.returned (.slice none 0 0)/\w'=w)
  (h:∀S w br cap,C.E S w->br < w.heap.size->L.length<=cap->(∀j v,L.flatten[j]?=some v->w.cell? ⟨br,j,none⟩=some v/\w.frozen? ⟨br,j,none⟩=false)->
   Calls C.P f (#[.slice (some ⟨br,0,none⟩) L.length cap]++zs.toArray) w fun e' w'=>e'=.returned (.slice (some ⟨br,0,none⟩) m cap)/\∃n os,w'=kX w br n L'.flatten.toArray os):
  af C f (.row e (aB L)::zs.map fun a=>.pv (.im a)) (.own e (aB (L'.take m))) [.gone]:=by
 refine⟨hf,fun S w vs hE hS hl hr _=>?_⟩
 obtain⟨v0,vr,rfl⟩:∃v0 vr,vs=#[v0]++vr:=by
  obtain⟨l⟩:=vs
  cases l with
  | nil=>simp at hl
  | cons v0 l=>exact⟨v0,⟨l⟩,by simp⟩
 have OD:vr=zs.toArray:=qR (S:=S) (w:=w) (P:=C.P) (by simp at hl ⊢;omega) fun j x v hx hv=>hr (j+1) x v (by simpa using hx) (by rw[Array.getElem?_append_right (by simp)];simpa using hv)
 subst OD
 have an:aw C.P w (az S w) e (aB L) v0/\∀g,br v0=some g->¬S g:=hr 0 _ v0 rfl (by simp)
 obtain⟨⟨i,xs,hi,hpos,hown,Q5,fB,hcell⟩,Mt⟩:=an
 obtain⟨info,z,g1,g2,_⟩:=hC.eK e ti hT
 rw[hi] at g1;injection g1 with g1;subst g1
 have nv:(aB L).length=L.length:=List.length_map ..
 have vv:(aB L').length=L.length:=by rw[<-hlen];exact List.length_map ..
 have hx:xs=L.flatten:=t_ (P:=C.P) (k:=i.size) (by rw[g2];exact hL) (by rw[<-nv];exact hown.1) hcell
 have Hf:∀g,br v0=some g->Mv w (.row e (aB L)::zs.map fun a=>.pv (.im a)) (#[v0]++zs.toArray) g:=fun g hg=>⟨0,_,v0,rfl,by simp,rfl,.inl hg⟩
 have tail:∀w':World,dT S w' C.P (.row e (aB L)::zs.map fun a=>.pv (.im a)) [.gone] (#[v0]++zs.toArray).toList:=fun w'=>by
  simp only[Array.toList_append]
  exact⟨trivial,vg zs⟩
 have Eh:∀(w':World) (i g:Nat),¬bU w' (.row e (aB L)::zs.map fun a=>.pv (.im a)) [.gone] (#[v0]++zs.toArray).toList i g:=fun w' i g hk=>by
  simp only[Array.toList_append] at hk
  cases i with
  | zero=>cases hk.1
  | succ i=>exact nW zs i g hk
 have Le:∀w':World,nA w w' (.row e (aB L)::zs.map fun a=>.pv (.im a)) [.gone] (#[v0]++zs.toArray):=fun w'=>⟨fun i g h=>(Eh w' i g h).elim,fun i j g h=>(Eh w' i g h).elim⟩
 have Lf:aB (L'.take m)=(aB L').take m:=by unfold aB;rw[List.map_take]
 rcases hown.2 with⟨q1,q2⟩ | ⟨g,cap,cur,q1,q2,q3,q4,q5,q6,q7⟩
 ·have AN:L=[]:=List.eq_nil_of_length_eq_zero (by rw[<-nv];exact q2)
  subst q1
  refine (hnil AN w).mono fun e' w' ⟨he,hw⟩=>?_
  subst hw
  have IN:L'=[]:=List.eq_nil_of_length_eq_zero (by rw[hlen,AN];rfl)
  subst IN
  refine⟨.slice none 0 0,S,he,Fr.refl _ _,fun _ h=>h,hS,fun b hb=>.inl hb,⟨?_,fun g hg=>by cases hg⟩,tail _,Le _,fun g _ hg=>by cases aq rfl hg⟩
  rw[List.take_nil]
  exact⟨i,[],hi,hpos,World.ownsRow_nil _ _ _ _,by simp[aB],by simp,by simp[aB]⟩
 subst q1
 have Cr:g < w.heap.size:=(Array.getElem?_eq_some_iff.1 q3).1
 have OE:L'.flatten.toArray.size=L.length*i.size:=by rw[List.size_toArray,fF F1,hlen,g2]
 have je:L.length*i.size<=cur.size:=by rw[q6];exact Nat.mul_le_mul_right _ (by rw[<-nv];exact q4)
 have hh:=h S w g cap hE Cr (by rw[<-nv];exact q4) fun j v hj=>by
  have nI:j < L.length*i.size:=by have:=ao hj;rw[fF hL] at this;rw[g2];exact this
  have:cur[j]?=some v:=by
   rw[<-hx,<-q7] at hj
   rw[List.getElem?_take] at hj
   split at hj
   ·simpa using hj
   cases hj
  exact⟨by rw[cell_of_row w g j cur e (0,0) q3];exact this,by simp[World.frozen?,q3]⟩
 rw[<-nv] at hh
 refine hh.mono fun e' w' ⟨he,n,os,hw⟩=>?_
 subst hw
 obtain⟨p1,p2,p3,p4,p5⟩:=rY w g n L'.flatten.toArray os
 obtain⟨c1,c2⟩:=ob L'.flatten.toArray cur (by omega)
 have kg:(kX w g n L'.flatten.toArray os).heap[g]?=some (.cells (Sort.putCells id 0 L'.flatten.toArray cur) e (0,0)):=by rw[p5 g Cr,if_pos rfl,q3];rfl
 have Lg:aw C.P (kX w g n L'.flatten.toArray os) (az S (kX w g n L'.flatten.toArray os)) e (aB L') (.slice (some ⟨g,0,none⟩) (aB L).length cap):=by
  refine⟨i,L'.flatten,hi,hpos,⟨by rw[vv,<-hlen,g2];exact fF F1,.inr ⟨g,cap,_,by rw[vv,nv],Nat.zero_le _,kg,by rw[vv,<-nv];exact q4,q5,by rw[c1];exact q6,?_⟩⟩,by rw[g2];exact A6 F1,fun u hu=>?_,ua (by rw[g2];exact F1)⟩
  ·rw[vv,<-OE]
   exact c2
  obtain⟨r,Km,mB⟩:=List.mem_flatten.1 hu
  exact h1 r Km u mB
 refine⟨_,S,he,⟨p1,p2,p3,p4,fun k hk hn=>?_⟩,fun _ h=>h,fun b hb=>Nat.lt_of_lt_of_le (hS b hb) p4,fun b hb=>.inl hb,⟨?_,fun g' kg=>Mt g' kg⟩,tail _,Le _,fun g' _ kg=>⟨?_,.inr (Hf g' (aq rfl kg)),fun i=>Eh _ i g'⟩⟩
 ·rw[p5 k hk,if_neg]
  intro e
  subst e
  exact hn (Hf k rfl)
 ·rw[Lf]
  exact aw.front Lg rfl (by rw[nv];exact hm) rfl
 have kg:=aq rfl kg
 have:g=g':=by injection kg
 rw[<-this]
 exact Nat.lt_of_lt_of_le Cr p4
end Go.AM
namespace Go.AM
open Go.RowKit Go.ChangeShapes
section
variable {H:Type} {enc:TypeId×Value->H} {P:Program} {w:World} {S:Nat->Prop}
def zx (enc:TypeId×Value->H) (P:Program) (w:World) (S:Nat->Prop) (t:TypeId) (k:Nat) (Q:List PV->DataW H->Prop):Prop:=
 ∀n cs x,DataW.trod enc P w 0 (fun _=>true) true n t cs=some x->∃xs,xs.length=k/\cs.length=k/\(∀(i:Nat) c v,xs[i]?=some c->cs[i]?=some v->az S w c v/\v.oneCell'=true)/\Q xs x.1
theorem one_cell {c:PV} {u:Value} (h:az S w c u/\u.oneCell'=true):∀(i:Nat) c' v,[c][i]?=some c'->[u][i]?=some v->az S w c' v/\v.oneCell'=true:=fun i c' v h1 h2=>by
 match i,h1,h2 with
 | 0,h1,h2=>cases h1;cases h2;exact h
 | n+1,h1,h2=>cases h1
theorem F2 {t:TypeId} (ht:P.underlying t=some (.int .i64)):zx enc P w S t 1 fun xs d=>∃n:Int,xs=[.im (.int .i64 n)]/\d=.lit (.int .i64 n):=fun n cs x h=>by
 obtain⟨z,rfl,rfl,_⟩:=DataW.trod_int ht h
 exact⟨[.im (.int .i64 z)],rfl,rfl,one_cell ⟨.im _,rfl⟩,z,rfl,rfl⟩
theorem F3 {t:TypeId} (ht:P.underlying t=some .string):zx enc P w S t 1 fun xs d=>∃s:ByteArray,xs=[.im (.string s)]/\d=.lit (.string s.data.toList):=fun n cs x h=>by
 obtain⟨s,rfl,rfl,_⟩:=DataW.trod_string ht h
 exact⟨[.im (.string s)],rfl,rfl,one_cell ⟨.im _,rfl⟩,s,rfl,rfl⟩
theorem A7 {a:Addr} {v:Value} (h:w.cell? a=some v):a.spot=none/\a.block < w.heap.size:=by
 unfold World.cell? at h
 split at h
 ·rename_i c _ _ hh
  refine⟨?_,?_⟩
  ·cases hs:a.spot with
   | none=>rfl
   | some s=>rw[hs] at h;cases h
  rcases Nat.lt_or_ge a.block w.heap.size with h' | h'
  ·exact h'
  rw[Array.getElem?_eq_none h'] at hh;cases hh
 cases h
theorem Cs {t e:TypeId} {k:Nat} {Q:List PV->DataW H->Prop} (ht:P.underlying t=some (.slice e)) (hc:P.cellsOf e=k) (hk:0 < k) (hS:∀b,b < w.heap.size->S b) (he:zx enc P w S e k Q):
  zx enc P w S t 1 fun xs d=>∃(es:List (List PV)) (ds sp:List (DataW H)),xs=[.sl es]/\es.length=ds.length/\(d=.nil/\ds=[]\/d=.slice ds sp)/\∀(i:Nat) x y,es[i]?=some x->ds[i]?=some y->Q x y:=fun n cs x h=>by
 rcases Go.Deep.open_slice ht h with⟨rfl,rfl⟩ | ⟨a,len,cap,m,n,D,Pl,rfl,hb,hl,hm,BP,rfl,hx⟩
 ·exact⟨[.sl []],rfl,rfl,one_cell ⟨.nil _ _,rfl⟩,[],[],[],rfl,rfl,.inl ⟨rfl,rfl⟩,fun i x y h=>by cases h⟩
 have JJ:len<=m:=by rw[BP];split <;> omega
 rcases Nat.eq_zero_or_pos len with h0 | hpos
 ·subst h0
  exact⟨[.sl []],rfl,rfl,one_cell ⟨.nil _ _,rfl⟩,[],[],_,rfl,rfl,.inr rfl,fun i x y h=>by cases h⟩
 rw[hc] at hx
 have each:∀i,i < len->∃p:List PV×List Value,p.1.length=k/\p.2.length=k/\(∀j,j < k->w.cell? ((a.add (i*k)).add j)=p.2[j]?)/\(∀(j:Nat) c v,p.1[j]?=some c->p.2[j]?=some v->az S w c v/\v.oneCell'=true)/\Q p.1 (D i):=fun i hi=>by
  obtain⟨iH,h1,h2⟩:=hx i (by omega)
  obtain⟨_,hlen,hcell⟩:=World.cells?_some h1
  obtain⟨xs,l1,l2,l3,l4⟩:=he _ _ _ h2
  exact⟨(xs,iH),l1,l2,hcell,l3,l4⟩
 obtain⟨F,hF⟩:=Go.Deep.choose_lt (α:=List PV×List Value) each
 have get:∀(i:Nat) e,((List.range len).map fun i=>(F i).1)[i]?=some e->i < len/\e=(F i).1:=fun i e h=>by
  rw[List.getElem?_map,Option.map_eq_some_iff] at h
  obtain⟨j,hj,rfl⟩:=h
  obtain⟨h1,h2⟩:=List.getElem?_eq_some_iff.1 hj
  rw[List.getElem_range] at h2
  subst h2
  exact⟨by simpa using h1,rfl⟩
 have cellOf:∀i j,i < len->j < k->w.cell? ((a.add (i*k)).add j)=some (((F i).2[j]?).getD .nilIface):=fun i j hi hj=>by
  obtain⟨_,l2,h3,_⟩:=hF i hi
  rw[h3 j hj,List.getElem?_eq_getElem (by omega)]
  rfl
 have hz:=A7 (cellOf 0 0 hpos hk)
 obtain⟨b,off,spot⟩:=a
 have rh:spot=none:=by simpa [Addr.add] using hz.1
 subst rh
 have IP:b < w.heap.size:=by simpa [Addr.add] using hz.2
 have an:∀i j,((⟨b,off,none⟩:Addr).add (i*k)).add j=⟨b,off+i*k+j,none⟩:=fun i j=>by
  unfold Addr.add
  by_cases h1:i*k=0
  ·rw[if_pos h1,h1]
   by_cases h2:j=0
   ·rw[if_pos h2,h2];rfl
   rw[if_neg h2];rfl
  rw[if_neg h1]
  by_cases h2:j=0
  ·rw[if_pos h2,h2];rfl
  rw[if_neg h2]
 refine⟨[.sl ((List.range len).map fun i=>(F i).1)],rfl,rfl,one_cell ⟨?_,rfl⟩,(List.range len).map fun i=>(F i).1,(List.range len).map D,_,rfl,by simp,.inr rfl,fun i x y h1 h2=>?_⟩
 ·have hlen:((List.range len).map fun i=>(F i).1).length=len:=by simp
  have:=az.sl (S:=S) (w:=w) ((List.range len).map fun i=>(F i).1) k b off cap (fun i j=>((F i).2[j]?).getD .nilIface) (by rw[hlen];exact hl) (hS b IP)
   (fun e KF=>by obtain⟨i,hi,rfl⟩:=List.mem_map.1 KF;exact (hF i (List.mem_range.1 hi)).1)
   (fun i e j x h1 h2=>by
    obtain⟨hi,rfl⟩:=get i e h1
    have hj:j < k:=by rw[<-(hF i hi).1];exact (List.getElem?_eq_some_iff.1 h2).1
    have hv:(F i).2[j]?=some (((F i).2[j]?).getD .nilIface):=by rw[List.getElem?_eq_getElem (by rw[(hF i hi).2.1];exact hj)];rfl
    exact⟨by rw[<-an];exact cellOf i j hi hj,((hF i hi).2.2.2.1 j x _ h2 hv).2⟩)
   (fun i e j x h1 h2=>by
    obtain⟨hi,rfl⟩:=get i e h1
    have hj:j < k:=by rw[<-(hF i hi).1];exact (List.getElem?_eq_some_iff.1 h2).1
    have hv:(F i).2[j]?=some (((F i).2[j]?).getD .nilIface):=by rw[List.getElem?_eq_getElem (by rw[(hF i hi).2.1];exact hj)];rfl
    exact ((hF i hi).2.2.2.1 j x _ h2 hv).1)
  rw[hlen] at this
  exact this
 obtain⟨hi,rfl⟩:=get i x h1
 rw[List.getElem?_map,List.getElem?_range hi] at h2
 cases h2
 exact (hF i hi).2.2.2.2
instance:Inhabited PV:=⟨.sl []⟩
theorem iv {t:TypeId} {fs:Array Field} (ht:P.underlying t=some (.struct fs)) (fB:∀(i:Nat) (f:Field),fs[i]?=some f->f.offset=i/\P.cellsOf f.type=1) (hc:P.cellsOf t=fs.size) (Qs:Nat->List PV->DataW H->Prop)
  (hf:∀(i:Nat) (f:Field),fs[i]?=some f->zx enc P w S f.type 1 (Qs i)):
  zx enc P w S t fs.size fun xs d=>∃ds:List (DataW H),d=.agg ds/\ds.length=fs.size/\∀(i:Nat) x y,xs[i]?=some x->ds[i]?=some y->Qs i [x] y:=fun n cs x h=>by
 obtain⟨ys,m,_,rfl,hl,hlen,hy⟩:=DataW.trod_struct ht h
 rw[hc] at hl
 have each:∀i,i < fs.size->∃c:PV,∃y v,ys[i]?=some y/\cs[i]?=some v/\az S w c v/\v.oneCell'=true/\Qs i [c] y.1:=fun i hi=>by
  have Hg:fs[i]?=some fs[i]:=Array.getElem?_eq_getElem hi
  obtain⟨ho,h1⟩:=fB i _ Hg
  have Hh:=hy i _ Hg
  rw[ho,h1] at Hh
  have Lh:ys[i]?=some ys[i]:=List.getElem?_eq_getElem (by omega)
  rw[Lh] at Hh
  obtain⟨xs,l1,l2,l3,l4⟩:=hf i _ Hg _ _ _ Hh
  have je:cs[i]?=some cs[i]:=List.getElem?_eq_getElem (by omega)
  have hd:(cs.drop i).take 1=[cs[i]]:=by
   rw[List.drop_eq_getElem_cons (by omega)];rfl
  rw[hd] at l3
  obtain⟨c,rfl⟩:∃c,xs=[c]:=by
   match xs,l1 with
   | [c],_=>exact⟨c,rfl⟩
  exact⟨c,ys[i],cs[i],Lh,je,(l3 0 _ _ rfl rfl).1,(l3 0 _ _ rfl rfl).2,l4⟩
 obtain⟨F,hF⟩:=Go.Deep.choose_lt (α:=PV) each
 refine⟨(List.range fs.size).map F,by simp,hl,fun i c v h1 h2=>?_,ys.map (·.1),rfl,by rw[List.length_map,hlen],fun i x y h1 h2=>?_⟩
 ·have hi:i < fs.size:=by have:=(List.getElem?_eq_some_iff.1 h1).1;simpa using this
  rw[List.getElem?_map,List.getElem?_range hi] at h1
  cases h1
  obtain⟨y,v',_,e2,e3,e4,_⟩:=hF i hi
  rw[h2] at e2
  cases e2
  exact⟨e3,e4⟩
 have hi:i < fs.size:=by have:=(List.getElem?_eq_some_iff.1 h1).1;simpa using this
 rw[List.getElem?_map,List.getElem?_range hi] at h1
 cases h1
 obtain⟨y',v',e1,_,_,_,e5⟩:=hF i hi
 rw[List.getElem?_map,e1] at h2
 cases h2
 exact e5
theorem F4 {t:TypeId} {k:Nat} {Q:List PV->DataW H->Prop} (hd:zx enc P w S t k Q) {vs:Array Value} {d:DataW H} {ps:List MemPlace} (h:DataW.Trod enc P w 0 (fun _=>true) true t (.agg vs) d ps):
  ∃xs,az S w (.ag xs) (.agg vs)/\xs.length=k/\Q xs d:=by
 obtain⟨n,hn⟩:=h
 obtain⟨xs,l1,l2,l3,l4⟩:=hd _ _ _ hn
 have l2:vs.toList.length=k:=l2
 have get:∀(i:Nat) (v:Value),vs[i]?=some v->vs.toList[i]?=some v:=fun i v h=>by rw[Array.getElem?_toList];exact h
 refine⟨xs,.ag xs vs (by rw[l1,<-l2];simp) (fun u hu=>?_) fun i c v h1 h2=>(l3 i c v h1 (get i v h2)).1,l1,l4⟩
 obtain⟨i,hi⟩:=List.mem_iff_getElem?.1 hu
 have dS:i < xs.length:=by have:=(List.getElem?_eq_some_iff.1 hi).1;omega
 exact (l3 i _ u (List.getElem?_eq_getElem dS) hi).2
theorem zy {t:TypeId} {fs:Array Field} {k:Nat} {Q:List PV->DataW H->Prop} {r:Reach} {b0:Nat} (ht:P.underlying t=some (.struct fs)) (hd:zx enc P w S t k Q) {v:Value} {d:DataW H} {ps:List MemPlace} (hv:Value.okWide P w r b0 t v) (h:DataW.Trod enc P w 0 (fun _=>true) true t v d ps):
  ∃xs,az S w (.ag xs) v/\Q xs d:=by
 obtain⟨cs,rfl,_⟩:=Go.WideShapes.okWide_struct ht hv
 obtain⟨xs,h1,_,h2⟩:=F4 hd h
 exact⟨xs,h1,h2⟩
theorem Ct {t e:TypeId} {Q:List PV->DataW H->Prop} {r:Reach} {b0:Nat} (ht:P.underlying t=some (.slice e)) (hd:zx enc P w S t 1 Q) {v:Value} {d:DataW H} {ps:List MemPlace} (hv:Value.okWide P w r b0 t v) (h:DataW.Trod enc P w 0 (fun _=>true) true t v d ps):
  ∃c,az S w c v/\Q [c] d:=by
 obtain⟨a,l,c,rfl⟩:=Go.WideShapes.okWide_slice ht hv
 obtain⟨n,hn⟩:=h
 obtain⟨xs,l1,l2,l3,l4⟩:=hd _ _ _ hn
 obtain⟨x,rfl⟩:∃x,xs=[x]:=by
  match xs,l1 with
  | [x],_=>exact⟨x,rfl⟩
 exact⟨x,(l3 0 x _ rfl rfl).1,l4⟩
theorem Li (w:World) (xs:List PV) (vs:Array Value) (g:Nat):¬Mv w (xs.map Arg.pv) vs g:=by
 rintro⟨j,y,v,h1,_,h2,_⟩
 rw[List.getElem?_map,Option.map_eq_some_iff] at h1
 obtain⟨x,_,rfl⟩:=h1
 cases h2
def F5 (S:Nat->Prop) (w:World) (xs:List PV) (vs:List Value):Prop:=xs.length=vs.length/\∀(j:Nat) x v,xs[j]?=some x->vs[j]?=some v->az S w x v
theorem Ei:F5 S w [] []:=⟨rfl,fun j x v h=>by cases h⟩
theorem pr {x:PV} {v:Value} {xs:List PV} {vs:List Value} (h:az S w x v) (hr:F5 S w xs vs):F5 S w (x::xs) (v::vs):=⟨by rw[List.length_cons,List.length_cons,hr.1],fun j x' v' h1 h2=>by
 match j,h1,h2 with
 | 0,h1,h2=>cases h1;cases h2;exact h
 | j+1,h1,h2=>exact hr.2 j x' v' h1 h2⟩
theorem IQ {C:Ctx} {f:FuncId} {xs:List PV} {y:Value} (h:af C f (xs.map Arg.pv) (.p (.im y)) []) {vs:Array Value} (hE:C.E (fun b=>b < w.heap.size) w) (hr:F5 (fun b=>b < w.heap.size) w xs vs.toList):
  Calls C.P f vs w fun e w'=>e=.returned y/\Below w.heap.size w w':=by
 refine (h.2 (fun b=>b < w.heap.size) w vs hE (fun _ h=>h) (by rw[List.length_map,hr.1];simp) (fun j x v h1 h2=>?_) (fun i j x y v u g h1 _ _ _ h5=>?_)).mono ?_
 ·rw[List.getElem?_map,Option.map_eq_some_iff] at h1
  obtain⟨x,hx,rfl⟩:=h1
  exact hr.2 j x v hx (by rw[Array.getElem?_toList];exact h2)
 ·rw[List.getElem?_map,Option.map_eq_some_iff] at h1
  obtain⟨x,_,rfl⟩:=h1
  cases h5
 rintro e w' ⟨v,S',rfl,hf,_,_,_,hv,_⟩
 have hv:az S' w' (.im y) v:=hv
 cases hv
 exact⟨rfl,hf.os,hf.tape,hf.output,hf.size,fun k hk=>hf.block k hk (Li _ _ _ _)⟩
end
end Go.AM
namespace Go.Proofs.YtiaifckpmefinaaGreatDoor
namespace M
open Go.AM Go.RowKit Go.Lib Go.Sort
open aK (aG bB fa)
instance:Inhabited aG:=⟨⟨0,0,0,0⟩⟩
def cl (n:Int):Int:=max (-4611686018427387904) (min n 4611686018427387903)
theorem kq (n:Int):-4611686018427387904<=cl n/\cl n<=4611686018427387903:=by unfold cl;omega
theorem mJ {n:Int} (h:-4611686018427387904<=n/\n<=4611686018427387903):cl n=n:=by unfold cl;omega
def Bd (r:aG):Prop:=(-4611686018427387904<=r.x0/\r.x0<=4611686018427387903)/\(-4611686018427387904<=r.y0/\r.y0<=4611686018427387903)/\(-4611686018427387904<=r.x1/\r.x1<=4611686018427387903)/\(-4611686018427387904<=r.y1/\r.y1<=4611686018427387903)
def eI (r:aG):List Value:=[.int .i64 (cl r.x0),.int .i64 (cl r.y0),.int .i64 (cl r.x1),.int .i64 (cl r.y1)]
theorem F6 {r:aG} (h:Bd r):(eI r).map PV.im=rc r:=by
 obtain⟨h1,h2,h3,h4⟩:=h
 simp only[eI,mJ h1,mJ h2,mJ h3,mJ h4]
 rfl
theorem qf {l:List aG} (h:∀r∈l,Bd r):aB (l.map eI)=l.map rc:=by
 unfold aB
 rw[List.map_map]
 exact List.map_congr_left fun r hr=>F6 (h r hr)
theorem oc {l:List aG}:∀r∈l.map eI,r.length=4:=by
 intro r hr
 obtain⟨x,_,rfl⟩:=List.mem_map.1 hr
 rfl
theorem xn (d:Array aG):flatK eI 4 d=(d.toList.map eI).flatten.toArray:=by
 apply Array.ext_getElem?
 intro q
 have hlen:(d.toList.map eI).flatten.length=d.size*4:=by rw[fF (k:=4) oc];simp
 by_cases hq:q < d.size*4
 ·have h1:q / 4 < d.size:=by omega
  have h2:q % 4 < 4:=Nat.mod_lt _ (by omega)
  have e:q / 4*4+q % 4=q:=by omega
  have hg:=get_flatK eI 4 d q hq
  have hsz:(flatK eI 4 d).size=d.size*4:=by simp
  rw[Array.getElem?_eq_getElem (by omega),<-getElem!_pos (flatK eI 4 d) q (by omega),hg]
  have hr:(d.toList.map eI)[q / 4]?=some (eI d[q / 4]!):=by
   rw[List.getElem?_map,Array.getElem?_toList,Array.getElem?_eq_getElem h1,Option.map_some,getElem!_pos d _ h1]
  have hv:(eI d[q / 4]!)[q % 4]?=some ((eI d[q / 4]!)[q % 4]!):=by
   have h3:q % 4 < (eI d[q / 4]!).length:=h2
   rw[List.getElem?_eq_getElem h3,getElem!_pos (eI d[q / 4]!) (q % 4) h3]
  have:=qS (k:=4) oc hr hv
  rw[e] at this
  simpa using this.symm
 rw[Array.getElem?_eq_none (by simp;omega),Array.getElem?_eq_none (by simp only[List.size_toArray];omega)]
def Ej (a b:aG):Int:=cl a.y0 - cl b.y0
def zz (a b:aG):Int:=cl a.x0 - cl b.x0
theorem Mu (a b:aG):ltOf Ej a b=decide (cl a.y0 < cl b.y0):=by unfold ltOf Ej;congr 1;exact propext ⟨fun h=>by omega,fun h=>by omega⟩
theorem Mw (a b:aG):ltOf zz a b=decide (cl a.x0 < cl b.x0):=by unfold ltOf zz;congr 1;exact propext ⟨fun h=>by omega,fun h=>by omega⟩
theorem Lj:SWO (ltOf Ej) where
 irrefl x:=by rw[Mu];simp
 trans x y z h1 h2:=by rw[Mu] at *;simp at *;omega
 ntrans x y z h1 h2:=by rw[Mu] at *;simp at *;omega
theorem Lk:SWO (ltOf zz) where
 irrefl x:=by rw[Mw];simp
 trans x y z h1 h2:=by rw[Mw] at *;simp at *;omega
 ntrans x y z h1 h2:=by rw[Mw] at *;simp at *;omega
theorem Ek (x y:aG) (W:World):Calls Tryz.prog 262 #[.agg (eI x).toArray,.agg (eI y).toArray] W fun e w'=>e=.returned (.int .i64 (Ej x y))/\∃q El,w'=grow (W.drewN q) El:=by
 have h1:=kq x.y0
 have h2:=kq y.y0
 unfold eI Ej
 generalize cl x.x0=a1 at *
 generalize cl x.y0=a2 at *
 generalize cl x.x1=a3 at *
 generalize cl x.y1=a4 at *
 generalize cl y.x0=b1 at *
 generalize cl y.y0=b2 at *
 generalize cl y.x1=b3 at *
 generalize cl y.y1=b4 at *
 go_enter Tryz.func262,Tryz.ntmps262
 go_wp2
 go_ret
 exact⟨rfl,0,_,by rw[alloc_eq_grow,alloc_eq_grow,grow_grow];rfl⟩
theorem Em (x y:aG) (W:World):Calls Tryz.prog 295 #[.agg (eI x).toArray,.agg (eI y).toArray] W fun e w'=>e=.returned (.int .i64 (zz x y))/\∃q El,w'=grow (W.drewN q) El:=by
 have h1:=kq x.x0
 have h2:=kq y.x0
 unfold eI zz
 generalize cl x.x0=a1 at *
 generalize cl x.y0=a2 at *
 generalize cl x.x1=a3 at *
 generalize cl x.y1=a4 at *
 generalize cl y.x0=b1 at *
 generalize cl y.y0=b2 at *
 generalize cl y.x1=b3 at *
 generalize cl y.y1=b4 at *
 go_enter Tryz.func295,Tryz.ntmps295
 go_wp2
 go_ret
 exact⟨rfl,0,_,by rw[alloc_eq_grow,alloc_eq_grow,grow_grow];rfl⟩
def dc (cf:aG->aG->Int) (l:List aG):List aG:=(pdq (ltOf cf) l.toArray 0 l.toArray.size (Lib.bitLen l.toArray.size) true true).toList
theorem jQ (cf:aG->aG->Int) (hO:SWO (ltOf cf)) (l:List aG):(dc cf l).Perm l/\(dc cf l).Pairwise fun a b=>ltOf cf b a=false:=by
 obtain⟨h1,h2⟩:=pdq_sorts (ltOf cf) hO l.toArray 0 l.toArray.size (Lib.bitLen l.toArray.size) true true (Nat.zero_le _) (Nat.le_refl _) (Or.inl rfl)
 obtain⟨p1,_,p3⟩:=h1
 have hp:(dc cf l).Perm l:=by
  have e1:∀d:Array aG,d.size=l.toArray.size->(d.extract 0 l.toArray.size).toList=d.toList:=fun d h=>by rw[<-h];simp
  rw[e1 _ p1,e1 _ rfl] at p3
  unfold dc
  simpa using p3
 refine⟨hp,?_⟩
 rw[List.pairwise_iff_getElem]
 intro i j hi hj AH
 have hs:(dc cf l).length=l.toArray.size:=by rw[hp.length_eq];simp
 have:=h2 i j (Nat.zero_le _) AH (by omega)
 unfold dc at hi hj ⊢
 simp only[Array.length_toList] at hi hj
 rw[getElem!_pos _ j hj,getElem!_pos _ i hi] at this
 simpa using this
theorem xo {l:List aG} (h:∀r∈l,Bd r):(dc Ej l).Perm l/\(dc Ej l).Pairwise fun a b=>a.y0<=b.y0:=by
 obtain⟨h1,h2⟩:=jQ Ej Lj l
 refine⟨h1,h2.imp_of_mem fun {a b} ha hb zq=>?_⟩
 rw[Mu,mJ (h b (h1.mem_iff.1 hb)).2.1,mJ (h a (h1.mem_iff.1 ha)).2.1] at zq
 simpa using zq
theorem qg {l:List aG} (h:∀r∈l,Bd r):(dc zz l).Perm l/\(dc zz l).Pairwise fun a b=>a.x0<=b.x0:=by
 obtain⟨h1,h2⟩:=jQ zz Lk l
 refine⟨h1,h2.imp_of_mem fun {a b} ha hb zq=>?_⟩
 rw[Mw,mJ (h b (h1.mem_iff.1 hb)).1,mJ (h a (h1.mem_iff.1 ha)).1] at zq
 simpa using zq
theorem xp (cf:aG->aG->Int) (hO:SWO (ltOf cf)) (g:Nat) (eg:∀args w,(callFunc g args).run Tryz.prog w=.ok (.enter g args) w)
  (hcl:∀(x y:aG) (W:World),Calls Tryz.prog g #[.agg (eI x).toArray,.agg (eI y).toArray] W fun e w'=>e=.returned (.int .i64 (cf x y))/\∃q El,w'=grow (W.drewN q) El)
  (l:List aG) (hl:∀r∈l,Bd r) (hN:l.length < 4611686018427387904):af C 261 [.row 221 (l.map rc),.pv (.im (.func (.func g) #[] #[]))] (.tu []) [.row ((dc cf l).map rc)]:=by
 obtain⟨hp,_⟩:=jQ cf hO l
 have OF:∀r∈dc cf l,Bd r:=fun r hr=>hl r (hp.mem_iff.1 hr)
 have:=na hC (f:=261) 221 _ rfl (by decide) [.func (.func g) #[] #[]] (l.map eI) ((dc cf l).map eI) oc oc (by rw[List.length_map,List.length_map,hp.length_eq])
  (fun r hr v hv=>by
   obtain⟨x,_,rfl⟩:=List.mem_map.1 hr
   simp only[eI,List.mem_cons,List.not_mem_nil,or_false] at hv
   rcases hv with rfl | rfl | rfl | rfl <;> rfl)
  ⟨_,Tryz.func261,rfl,rfl⟩
  (fun _ w=>AnyF.slices_SortFunc_none Tryz.laysSortRect none 0 (.func (.func g) #[] #[]) w)
  (fun S w br cap hE hblk _ hcell=>by
   have hH:HoldsK eI 4 w br 0 l.toArray:=by
    unfold HoldsK
    intro j hj
    rw[xn] at hj ⊢
    simp only[List.size_toArray] at hj
    have hv:(l.map eI).flatten[j]?=some ((l.map eI).flatten[j]'hj):=List.getElem?_eq_getElem hj
    obtain⟨h1,h2⟩:=hcell j _ hv
    rw[Nat.zero_add]
    refine⟨?_,h2⟩
    rw[h1]
    congr 1
    rw[getElem!_pos _ j (by simpa using hj)]
    simp
   have hc:=AnyQ.slices_SortFunc_eq Tryz.laysSortRect 4 (fun w=>(hC.eK 221 _ rfl).isAgg w) (fun w=>(hC.eK 221 _ rfl).sizeOf w) eI (fun _=>rfl) (fun x v hv=>by
    simp only[eI,List.mem_cons,List.not_mem_nil,or_false] at hv
    rcases hv with rfl | rfl | rfl | rfl <;> rfl) cf hO g #[] br 0 cap l.toArray w eg (fun _ _ _ _ x y=>hcl x y _) hH hblk (by simpa using hN)
   have e:l.toArray.size=(l.map eI).length:=by simp
   rw[e] at hc
   refine hc.mono fun e' w' ⟨h1,n,os,h2⟩=>⟨h1,n,os,?_⟩
   rw[h2]
   unfold sortWorldK putRowK kX
   rw[xn,<-e]
   rfl)
 rw[qf hl,qf OF] at this
 exact this
theorem IS (l:List aG) (hl:∀r∈l,Bd r) (hN:l.length < 4611686018427387904):af C 261 [.row 221 (l.map rc),.pv (.im (.func (.func 262) #[] #[]))] (.tu []) [.row ((dc Ej l).map rc)]:=
 xp Ej Lj _ (enters_of Tryz.func262 (by kernel_rfl) rfl) Ek l hl hN
theorem IT (l:List aG) (hl:∀r∈l,Bd r) (hN:l.length < 4611686018427387904):af C 261 [.row 221 (l.map rc),.pv (.im (.func (.func 295) #[] #[]))] (.tu []) [.row ((dc zz l).map rc)]:=
 xp zz Lk _ (enters_of Tryz.func295 (by kernel_rfl) rfl) Em l hl hN
theorem vx (d:Array Int) (hs:∀i j,i<=j->j < d.size->d[i]!<=d[j]!):∀m,m<=d.size->aK.fD (compactUpTo d m)/\(∀x,x∈compactUpTo d m↔∃j,j < m/\d[j]! = x):=by
 intro m
 induction m with
 | zero=>intro _;exact⟨by simp[compactUpTo,aK.fD],by simp[compactUpTo]⟩
 | succ m ih=>
  intro hm
  obtain⟨h1,h2⟩:=ih (by omega)
  rw[compactUpTo_succ]
  cases hk:keeps d m with
  | true=>
   have kC:m=0\/d[m]!≠d[m - 1]!:=by simpa [keeps] using hk
   have dS:∀x∈compactUpTo d m,x < d[m]!:=by
    intro x hx
    obtain⟨j,hj,rfl⟩:=(h2 x).1 hx
    rcases kC with h | h
    ·omega
    have a:=hs j (m - 1) (by omega) (by omega)
    have b:=hs (m - 1) m (by omega) (by omega)
    omega
   refine⟨?_,fun x=>?_⟩
   ·simp only[if_pos]
    exact List.pairwise_append.2 ⟨h1,by simp,fun a ha b hb=>by simp at hb;subst hb;exact dS a ha⟩
   simp only[if_pos,List.mem_append,List.mem_singleton,h2]
   constructor
   ·rintro (⟨j,hj,rfl⟩ | rfl)
    ·exact⟨j,by omega,rfl⟩
    exact⟨m,by omega,rfl⟩
   rintro⟨j,hj,rfl⟩
   by_cases e:j=m
   ·exact .inr (by rw[e])
   exact .inl ⟨j,by omega,rfl⟩
  | false=>
   have kC:m≠0/\d[m]! = d[m - 1]!:=by simpa [keeps] using hk
   simp only[Bool.false_eq_true,if_neg,List.append_nil,not_false_eq_true]
   refine⟨h1,fun x=>?_⟩
   rw[h2]
   constructor
   ·rintro⟨j,hj,rfl⟩;exact⟨j,by omega,rfl⟩
   rintro⟨j,hj,rfl⟩
   by_cases e:j=m
   ·exact⟨m - 1,by omega,by rw[e];exact kC.2.symm⟩
   exact⟨j,by omega,rfl⟩
theorem tp {zs:List Int} (hs:zs.Pairwise (·<=·)):aK.fD (compact zs)/\∀x,x∈compact zs↔x∈zs:=by
 have hg:∀i (h:i < zs.length),zs.toArray[i]! = zs[i]:=fun i h=>by rw[getElem!_pos _ i (by simpa using h)];simp
 obtain⟨h1,h2⟩:=vx zs.toArray (fun i j AH hj=>by
  have hj:j < zs.length:=by simpa using hj
  rw[hg i (by omega),hg j hj]
  by_cases e:i=j
  ·subst e;omega
  exact List.pairwise_iff_getElem.1 hs i j (by omega) hj (by omega)) zs.length (by simp)
 refine⟨h1,fun x=>(h2 x).trans ?_⟩
 constructor
 ·rintro⟨j,hj,rfl⟩;rw[hg j hj];exact List.getElem_mem hj
 intro hx
 obtain⟨j,hj,rfl⟩:=List.getElem_of_mem hx
 exact⟨j,hj,hg j hj⟩
def encI (n:Int):List Value:=[.int .i64 n]
theorem od {l:List Int}:∀r∈l.map encI,r.length=1:=by
 intro r hr
 obtain⟨x,_,rfl⟩:=List.mem_map.1 hr
 rfl
theorem jR (l:List Int):aB (l.map encI)=l.map fun n=>[i64 n]:=by
 unfold aB;rw[List.map_map];rfl
theorem pt (l:List Int):(l.map encI).flatten=l.map (Value.int .i64):=by
 induction l with
 | nil=>rfl
 | cons a l ih=>rw[List.map_cons,List.flatten_cons,ih];rfl
theorem rZ (w:World) (b n:Nat) (l:List Int):putRow (Value.int .i64) (Sort.ahead w n) b 0 l.toArray=putRow id (Sort.ahead w n) b 0 (l.map (Value.int .i64)).toArray:=by
 unfold putRow
 refine mapBlock_congr _ _ _ _ fun c _ _ _=>?_
 apply Array.ext_getElem?
 intro k
 simp only[putCells,Array.getElem?_mapIdx,List.size_toArray,List.length_map]
 cases c[k]? with
 | none=>rfl
 | some x=>
  simp only[Option.map_some]
  by_cases h:0<=k/\k < 0+l.length
  ·rw[if_pos h,if_pos h]
   congr 1
   rw[getElem!_pos _ (k - 0) (by simp;omega),getElem!_pos _ (k - 0) (by simp;omega)]
   simp
  rw[if_neg h,if_neg h]
theorem r_ {w:World} {br:Nat} {l:List Int} (h:∀j v,(l.map encI).flatten[j]?=some v->w.cell? ⟨br,j,none⟩=some v/\w.frozen? ⟨br,j,none⟩=false):Holds (Value.int .i64) w br 0 l.toArray:=by
 intro j hj
 have HK:j < l.length:=by simpa using hj
 rw[pt] at h
 obtain⟨h1,h2⟩:=h j (.int .i64 l[j]) (by rw[List.getElem?_map,List.getElem?_eq_getElem HK];rfl)
 rw[Nat.zero_add,h1]
 refine⟨?_,h2⟩
 rw[getElem!_pos _ j hj]
 simp
def gi (l:List Int):List Int:=l.mergeSort fun x y=>decide (x<=y)
theorem ub (l:List Int) (hN:l.length < 4611686018427387904):af C 14 [.row 3 (l.map fun n=>[i64 n])] (.tu []) [.row ((gi l).map fun n=>[i64 n])]:=by
 have:=na hC (f:=14) 3 _ rfl (by decide) [] (l.map encI) ((gi l).map encI) od od (by rw[List.length_map,List.length_map,gi,List.length_mergeSort])
  (fun r hr v hv=>by
   obtain⟨x,_,rfl⟩:=List.mem_map.1 hr
   simp only[encI,List.mem_singleton] at hv
   rw[hv];rfl)
  ⟨_,Tryz.func14,rfl,rfl⟩
  (fun _ w=>Tryz.slices_Sort_int_none none 0 w)
  (fun S w br cap hE hblk _ hcell=>by
   have hc:=Tryz.slices_Sort_int br 0 cap l w (r_ hcell) hblk hN
   rw[List.length_map]
   refine hc.mono fun e' w' ⟨h1,n,os,h2⟩=>⟨h1,n,os,?_⟩
   rw[h2]
   unfold kX
   rw[pt,<-rZ]
   rfl)
 rw[jR,jR] at this
 exact this
theorem vy (l:List Int) (hN:l.length<=9223372036854775807):af C 15 [.row 3 (l.map fun n=>[i64 n])] (.own 3 ((compact l).map fun n=>[i64 n])) [.gone]:=by
 have hcl:=compact_length_le l
 have:=zw hC (f:=15) 3 _ rfl (by decide) [] (l.map encI) ((compact l++List.replicate (l.length - (compact l).length) 0).map encI) (compact l).length (by rw[List.length_map];exact hcl) od od (by simp;omega)
  (fun r hr v hv=>by
   obtain⟨x,_,rfl⟩:=List.mem_map.1 hr
   simp only[encI,List.mem_singleton] at hv
   rw[hv];rfl)
  ⟨_,Tryz.func15,rfl,rfl⟩
  (fun _ w=>Tryz.slices_Compact_int_empty none 0 w)
  (fun S w br cap hE hblk uO hcell=>by
   rw[List.length_map] at uO
   have hc:=Tryz.slices_Compact_int br 0 cap l w (r_ hcell) hN uO
   rw[List.length_map]
   refine hc.mono fun e' w' ⟨h1,n,h2⟩=>⟨h1,n,#[],?_⟩
   rw[h2]
   unfold kX
   rw[pt,<-rZ,grow_empty])
 rw[<-List.map_take,jR,jR,List.take_left] at this
 exact this
theorem F7 (l:List aG):∀r∈l.map rc,r.length=4:=by
 intro r hr
 obtain⟨x,_,rfl⟩:=List.mem_map.1 hr
 rfl
theorem xq (l:List aG) (hN:l.length<=4398046511104):af C 260 [.pv (ca l)] (.own 221 (l.map rc)) []:=by
 cases l with
 | nil=>
  refine ah hC Tryz.func260 rfl rfl 8 rfl (by decide) (by kernel_rfl) fun _ _ _ _ _=>?_
  (repeat refine yY Z ?_);refine IE Z<|D5 Z Z ?_
  refine⟨?_,?_⟩
  ·(repeat refine yY Z ?_);refine aa zi ?_
   exact⟨Z,Y⟩
  ((repeat refine yY Z ?_);refine zA zi ?_);refine And.intro ⟨by simp,by simp,by simp⟩ ?_
  (repeat refine yY Z ?_);refine aa zi ?_
  exact⟨Z,Z,Y⟩
 | cons a l=>
  have hr:=F7 (a::l)
  have hl:=ai (a::l) rc
  refine ah hC Tryz.func260 rfl rfl 8 rfl (by decide) (by kernel_rfl) fun _ _ _ _ _=>?_
  ((repeat refine yY Z ?_);refine zA zi ?_);refine And.intro ⟨hr,by simp at hN ⊢;omega,by simp at hN ⊢;omega⟩ ?_
  (repeat refine yY Z ?_);refine aa zi ?_
  exact⟨Z,Z,Y⟩
def jm (y:Int) (r:aG):Bool:=decide (r.y1<=y)
theorem A8 (r:aG) (ys:List Int) (k:Nat) (y:Int) (hy:ys[k]?=some y):af C 264 [.pv (.ag (rc r)),.pv (.ip [ints ys]),.pv (.ip [i64 k])] (.p (bool (jm y r))) []:=by
 refine ah hC Tryz.func264 rfl rfl 12 rfl (by decide) (by kernel_rfl) fun _ _ _ _ _=>?_
 ((repeat refine yY Z ?_);refine c_ [] false QJ rfl (by kernel_rfl) ?_;(repeat refine yY Z ?_);refine zX zi ?_);refine⟨[i64 y],(idx rfl hy),?_⟩
 ((repeat refine yY Z ?_);refine aa zi ?_);refine And.intro ?_ trivial
 rfl
theorem xr (l:List aG) (hN:l.length<=140737488355328) (ys:List Int) (k:Nat) (y:Int) (hy:ys[k]?=some y):af C 294 [.row 221 (l.map rc),.pv (.fn 264 [.ip [ints ys],.ip [i64 k]])] (.p (i64 (db (jm y) l 0))) [.row (l.map rc)]:=by
 refine ah hC Tryz.func294 rfl rfl 19 rfl (by decide) (by kernel_rfl) fun _ _ _ _ _=>?_
 have lm:=ai l rc
 (repeat refine yY Z ?_)
 refine ak (fun i:Nat=>i<=l.length/\∀x∈l.take i,jm y x=false) (fun i=>[(0,.ow 100000),(1,.p (.fn 264 [.ip [ints ys],.ip [i64 k]])),(7,.p (i64 (l.map rc).length)),(8,.p (i64 i))]) (fun _=>[(100000,.row 221 (l.map rc))]) (fun i=>l.length - i) 0 _ (aD.refl _ _) ⟨Nat.zero_le _,by simp⟩ ⟨Z,Z,Z,Z,Y⟩ ⟨Z,Y⟩ fun i hi t h=>?_
 (repeat refine yY Z ?_);refine iF Z (fun h1=>?_) (fun h1=>?_)
 ·rw[lm] at h1
  obtain⟨x,hx⟩:=aj (l:=l) (i:=i) (by omega)
  ((repeat refine yY Z ?_);refine zA zi ?_);refine And.intro ⟨by omega,by rw[lm];omega⟩ ?_
  ((repeat refine yY Z ?_);refine zX zi ?_);refine⟨(rc x),(idx rfl hx).2,?_⟩
  ((repeat refine yY Z ?_);refine zX zi ?_);refine⟨_,_,(A8 x ys k y hy),?_⟩
  (repeat refine yY Z ?_);refine iF Z (fun h2=>?_) (fun h2=>?_)
  ·(repeat refine yY Z ?_);refine aa zi ?_
   exact⟨by rw[dr hx h2 hi.2,Nat.zero_add],Z,Y⟩
  ((repeat refine yY Z ?_);refine zA zi ?_);refine And.intro ⟨by omega,by omega⟩ ?_
  ((repeat refine yY Z ?_);refine ae ?_);refine⟨(i+1),_,aD.refl _ _,?_⟩
  exact⟨⟨by omega,fE hx h2 hi.2⟩,by omega,⟨Z,Z,Z,Z,Y⟩,⟨Z,Y⟩⟩
 rw[lm] at h1
 (repeat refine yY Z ?_);refine aa zi ?_
 have h2:=hi.2
 rw[List.take_of_length_le (by omega)] at h2
 exact⟨by rw[bT h2];rfl,Z,Y⟩
theorem En {α:Type} {p:α->Bool}:∀{l:List α},l.any p=true->∃i x,l[i]?=some x/\p x=true/\∀z∈l.take i,p z=false:=by
 intro l
 induction l with
 | nil=>intro h;cases h
 | cons y l ih=>
  intro h
  cases hy:p y with
  | true=>exact⟨0,y,rfl,hy,by simp⟩
  | false=>
   rw[List.any_cons,hy,Bool.false_or] at h
   obtain⟨i,x,h1,h2,h3⟩:=ih h
   refine⟨i+1,x,by simpa using h1,h2,fun z hz=>?_⟩
   rw[List.take_succ_cons,List.mem_cons] at hz
   rcases hz with rfl | hz
   ·exact hy
   exact h3 z hz
theorem xt {α:Type} {m:List α} {a:Nat} {x:α} (h:a < m.length):(m.set a x).take (a+1)=m.take a++[x]:=by
 apply List.ext_getElem?
 intro j
 rw[List.getElem?_take,List.getElem?_set]
 by_cases h1:j < a
 ·rw[if_pos (by omega),if_neg (by omega),List.getElem?_append_left (by rw[List.length_take];omega),List.getElem?_take,if_pos h1]
 by_cases h2:j=a
 ·subst h2
  rw[if_pos (by omega),if_pos rfl,if_pos h,List.getElem?_append_right (by rw[List.length_take];omega)]
  simp[Nat.min_eq_left (Nat.le_of_lt h)]
 rw[if_neg (by omega),List.getElem?_eq_none (by simp;omega)]
theorem filter_none {α:Type} {p:α->Bool} {l:List α} (h:∀x∈l,p x=false):l.filter (fun x=>!p x)=l:=List.filter_eq_self.2 fun x hx=>by simp[h x hx]
theorem kY {α:Type} {p:α->Bool} {l:List α} {i:Nat} {x:α} (hx:l[i]?=some x):(l.take (i+1)).filter p=(l.take i).filter p++if p x then [x] else []:=by
 rw[aN hx,List.filter_append]
 congr 1
 cases h:p x <;> simp[List.filter,h]
theorem vz (l:List aG) (hN:l.length<=4398046511104) (ys:List Int) (k:Nat) (y:Int) (hy:ys[k]?=some y):af C 263 [.row 221 (l.map rc),.pv (.fn 264 [.ip [ints ys],.ip [i64 k]])] (.own 221 ((l.filter fun r=>!jm y r).map rc)) [.gone]:=by
 refine ah hC Tryz.func263 rfl rfl 42 rfl (by decide) (by kernel_rfl) fun _ _ _ _ _=>?_
 have lm:=ai l rc
 ((repeat refine yY Z ?_);refine zX zi ?_);refine⟨_,_,(xr l (by omega) ys k y hy),?_⟩
 by_cases Ll:l.any (jm y)=true
 ·obtain⟨i0,x0,OG,PG,PH⟩:∃i x,l[i]?=some x/\jm y x=true/\∀z∈l.take i,jm y z=false:=En Ll
  rw[dr OG PG PH,Nat.zero_add]
  have JH:=(List.getElem?_eq_some_iff.1 OG).1
  ((repeat refine yY Z ?_);refine zA zi ?_);refine And.intro ⟨by omega,by omega⟩ ?_
  (repeat refine yY Z ?_)
  refine ak (fun p:Nat×Nat×List aG=>p.1 < p.2.1/\p.2.1<=l.length/\p.2.2.length=l.length/\p.2.2.take p.1=(l.take p.2.1).filter (fun r=>!jm y r)/\p.2.2.drop p.2.1=l.drop p.2.1) (fun p=>[(0,.ow 100000),(1,.p (.fn 264 [.ip [ints ys],.ip [i64 k]])),(5,.p (i64 p.1)),(6,.p (i64 p.2.1))]) (fun p=>[(100000,.row 221 (p.2.2.map rc))]) (fun p=>l.length - p.2.1) (i0,i0+1,l) _ (aD.refl _ _) ⟨by simp,by simp only;omega,rfl,?_,rfl⟩ ⟨rfl,rfl,rfl,aS (by simp only;omega),trivial⟩ ⟨Z,Y⟩ fun ⟨a,b,m⟩ hi t h=>?_
  ·simp only
   rw[kY OG,filter_none PH]
   simp[PG]
  simp only at hi
  obtain⟨q1,q2,q3,q4,q5⟩:=hi
  have mm:=ai m rc
  (repeat refine yY Z ?_);refine iF Z (fun h2=>?_) (fun h2=>?_) <;> try simp only[zB] at h2
  ·rw[mm,q3] at h2
   obtain⟨x,hx⟩:=aj (l:=l) (i:=b) (by omega)
   have Q6:m[b]?=some x:=by
    have:(m.drop b)[0]?=(l.drop b)[0]?:=by rw[q5]
    simpa [hx] using this
   ((repeat refine yY Z ?_);refine zA zi ?_);refine And.intro ⟨by simp only;omega,by simp only;rw[mm];omega⟩ ?_
   ((repeat refine yY Z ?_);refine zX zi ?_);refine⟨(rc x),(idx rfl Q6).2,?_⟩
   ((repeat refine yY Z ?_);refine zX zi ?_);refine⟨_,_,(A8 x ys k y hy),?_⟩
   (repeat refine yY Z ?_);refine iF Z (fun h3=>?_) (fun h3=>?_)
   ·obtain⟨z,hz⟩:=aj (l:=m) (i:=a) (by omega)
    ((repeat refine yY Z ?_);refine zA zi ?_);refine And.intro ⟨by simp only;omega,by simp only;rw[mm];omega⟩ ?_
    ((repeat refine yY Z ?_);refine zX zi ?_);refine⟨(rc z),(idx rfl hz).2,?_⟩
    ((repeat refine yY Z ?_);refine zA zi ?_);refine And.intro ⟨by simp only;omega,by simp only;omega⟩ ?_
    ((repeat refine yY Z ?_);refine zA zi ?_);refine And.intro ⟨by simp only;omega,by simp only;omega⟩ ?_
    ((repeat refine yY Z ?_);refine ae ?_);refine⟨(a+1,b+1,m.set a x),_,aD.refl _ _,?_⟩
    refine⟨⟨by simp only;omega,by simp only;omega,by simp only;rw[List.length_set];exact q3,?_,?_⟩,by simp only;omega,⟨rfl,rfl,aS (by simp only;omega),aS (by simp only;omega),trivial⟩,⟨?_,trivial⟩⟩
    ·simp only
     rw[xt (by omega),q4,kY hx,h3]
     rfl
    ·simp only
     rw[List.drop_set_of_lt (by omega)]
     have:=congrArg (List.drop 1) q5
     simpa [List.drop_drop] using this
    show AB.row _ ((m.map rc).set a (rc x))=AB.row _ ((m.set a x).map rc)
    rw[List.map_set]
   ((repeat refine yY Z ?_);refine zA zi ?_);refine And.intro ⟨by simp only;omega,by simp only;omega⟩ ?_
   ((repeat refine yY Z ?_);refine ae ?_);refine⟨(a,b+1,m),_,aD.refl _ _,?_⟩
   refine⟨⟨by simp only;omega,by simp only;omega,q3,?_,?_⟩,by simp only;omega,⟨rfl,rfl,rfl,aS (by simp only;omega),trivial⟩,⟨Z,Y⟩⟩
   ·simp only
    rw[q4,kY hx,h3]
    simp
   have:=congrArg (List.drop 1) q5
   simpa [List.drop_drop] using this
  rw[mm,q3] at h2
  (repeat refine yY Z ?_);refine zO zi ?_
  refine Or.inl ?_
  refine zA zi ?_;refine And.intro ⟨by simp only;omega,by simp only;rw[mm];omega,by simp only;omega⟩ ?_
  ((repeat refine yY Z ?_);refine zA zi ?_);refine And.intro ⟨by simp only[Int.toNat_natCast];omega,by simp only[Int.toNat_natCast];omega⟩ ?_
  (repeat refine yY Z ?_);refine zO zi ?_
  refine Or.inl ?_
  have Eo:((((m.map rc).take a++List.replicate ((m.map rc).length - a) [i64 0,i64 0,i64 0,i64 0]++(m.map rc).drop (m.map rc).length).length:Nat):Int)=m.length:=by simp;omega
  refine zA zi ?_;refine And.intro ⟨by omega,by simp only;omega,by simp only[Int.toNat_natCast];exact Int.le_trans (show (a:Int)<=m.length by omega) (Int.le_of_eq Eo.symm)⟩ ?_
  (repeat refine yY Z ?_);refine aa zi ?_
  refine⟨?_,Z,Y⟩
  simp only[Int.toNat_natCast]
  rw[List.append_assoc,List.take_append_of_le_length (by rw[List.length_take,mm];omega),List.take_take,Nat.min_self,<-List.map_take,q4,List.take_of_length_le (by omega)]
 have BQ:∀x∈l,jm y x=false:=fun x hx=>by
  cases h:jm y x with
  | false=>rfl
  | true=>exact absurd (List.any_eq_true.2 ⟨x,hx,h⟩) Ll
 rw[bT BQ]
 (repeat refine yY Z ?_);refine aa zi ?_
 rw[filter_none BQ]
 exact⟨Z,Z,Y⟩
theorem vA (a b:Int):∀(s:bB),(s=[]->flat (aK.bV s a b)=[a,b])/\(∀n,s.length=n+1->∃p,(flat s)[2*n+1]?=some p/\flat (aK.bV s a b)=if a<=p then (flat s).set (2*n+1) (max p b) else flat s++[a,b]):=by
 intro s
 induction s with
 | nil=>exact⟨fun _=>rfl,fun n h=>by simp at h⟩
 | cons p s ih=>
  refine⟨fun h=>by simp at h,fun n hn=>?_⟩
  cases s with
  | nil=>
   have:n=0:=by simpa using hn.symm
   subst this
   refine⟨p.2,rfl,?_⟩
   rw[aK.bV]
   split <;> rfl
  | cons q s=>
   cases n with
   | zero=>simp at hn
   | succ n=>
    obtain⟨z,h1,h2⟩:=ih.2 n (by simpa using hn)
    refine⟨z,?_,?_⟩
    ·rw[show 2*(n+1)+1=(2*n+1)+1+1 by omega]
     simpa [flat] using h1
    rw[aK.bV,flat,h2,show 2*(n+1)+1=(2*n+1)+1+1 by omega]
    split
    ·simp[flat]
    simp[flat]
theorem sa (a b:Int):∀(s:bB),(aK.bV s a b).length<=s.length+1:=by
 intro s
 induction s with
 | nil=>simp[aK.bV]
 | cons p s ih=>
  cases s with
  | nil=>rw[aK.bV];split <;> simp
  | cons q s=>rw[aK.bV];simp only[List.length_cons] at ih ⊢;omega
theorem sd (l:List aG):(aK.bJ l).length<=l.length:=by
 suffices H:∀n (m:List aG),m.length=n->(aK.bJ m).length<=m.length from H _ l rfl
 intro n
 induction n with
 | zero=>
  intro m hm
  have:m=[]:=List.eq_nil_of_length_eq_zero hm
  subst this
  simp[aK.bJ]
 | succ n ih=>
  intro m hm
  obtain⟨d,r,rfl⟩:∃d r,m=d++[r]:=by
   cases h:m.reverse with
   | nil=>simp at h;subst h;simp at hm
   | cons r d=>exact⟨d.reverse,r,by rw[<-List.reverse_reverse m,h];simp⟩
  rw[aK.jP]
  have h1:=sa r.x0 r.x1 (aK.bJ d)
  have h2:=ih d (by simp at hm;exact hm)
  simp only[List.length_append,List.length_singleton]
  omega
theorem qA (l:List aG) (hl:∀r∈l,Bd r) (hN:l.length<=4398046511104):af C 266 [.row 221 (l.map rc)] (.p (ints (flat (aK.bJ (dc zz l))))) [.row ((dc zz l).map rc)]:=by
 refine ah hC Tryz.func266 rfl rfl 48 rfl (by decide) (by kernel_rfl) fun _ _ _ _ _=>?_
 obtain⟨hp,_⟩:=qg hl
 have nv:=hp.length_eq
 ((repeat refine yY Z ?_);refine zX zi ?_);refine⟨_,_,(IT l hl (by omega)),?_⟩
 generalize dc zz l=L at hp nv ⊢
 have lm:=ai L rc
 (repeat refine yY Z ?_)
 refine ak (fun i:Nat=>i<=L.length) (fun i=>[(0,.ow 100000),(9,.ow 100000),(10,.p (i64 (L.map rc).length)),(11,.p (i64 i)),(3,.ow 3)]) (fun i=>[(100000,.row 221 (L.map rc)),(3,.row 3 ((flat (aK.bJ (L.take i))).map fun n=>[i64 n]))]) (fun i=>L.length - i) 0 _ (aD.eG hC _ 3 3 _ (by decide) rfl rfl (by decide)) (Nat.zero_le _) ⟨Z,Z,Z,Z,Z,Y⟩ ⟨Z,Z,Y⟩ fun i hi t h=>?_
 have sl:=sd (L.take i)
 have fl:=iR (aK.bJ (L.take i))
 have sm:=ai (flat (aK.bJ (L.take i))) fun n=>[i64 n]
 rw[List.length_take] at sl
 (repeat refine yY Z ?_);refine iF Z (fun h1=>?_) (fun h1=>?_)
 ·rw[lm] at h1
  obtain⟨r,hr⟩:=aj (l:=L) (i:=i) (by omega)
  have wj:aK.bJ (L.take (i+1))=aK.bV (aK.bJ (L.take i)) r.x0 r.x1:=by rw[aN hr,aK.jP]
  obtain⟨a1,a2⟩:=vA r.x0 r.x1 (aK.bJ (L.take i))
  rw[<-wj] at a1 a2
  generalize aK.bJ (L.take i)=s at *
  ((repeat refine yY Z ?_);refine zA zi ?_);refine And.intro ⟨by omega,by rw[lm];omega⟩ ?_
  ((repeat refine yY Z ?_);refine zX zi ?_);refine⟨(rc r),(idx rfl hr).2,?_⟩
  ((repeat refine yY Z ?_);refine zA zi ?_);refine And.intro ⟨by rw[sm];omega,by rw[sm];omega⟩ ?_
  (repeat refine yY Z ?_);refine c_ [] false FZ rfl (by kernel_rfl) ?_;(repeat refine yY Z ?_);refine iF Z (fun h2=>?_) (fun h2=>?_)
  ·rw[sm,fl] at h2
   obtain⟨n,hn⟩:∃n,s.length=n+1:=⟨s.length - 1,by omega⟩
   obtain⟨p,Lm,AG⟩:=a2 n hn
   have hk:(((flat s).map fun n=>[i64 n]).length:Int) - 1=((2*n+1:Nat):Int):=by rw[sm,fl];omega
   ((repeat refine yY Z ?_);refine zA zi ?_);refine And.intro ⟨by rw[hk];omega,by rw[hk,sm,fl];omega⟩ ?_
   ((repeat refine yY Z ?_);refine zX zi ?_);refine⟨[i64 p],(idx hk Lm).2,?_⟩
   (repeat refine yY Z ?_);refine iF Z (fun h3=>?_) (fun h3=>?_)
   ·rw[if_pos h3] at AG
    (refine c_ [] false FZ rfl (by kernel_rfl) ?_;(repeat refine yY Z ?_);refine zA zi ?_);refine And.intro ⟨by rw[hk];omega,by rw[hk,sm,fl];omega⟩ ?_
    ((repeat refine yY Z ?_);refine zX zi ?_);refine⟨[i64 p],(idx hk Lm).2,?_⟩
    ((repeat refine yY Z ?_);refine zA zi ?_);refine And.intro ⟨by rw[hk];omega,by rw[hk,sm,fl];omega⟩ ?_
    ((repeat refine yY Z ?_);refine zX zi ?_);refine⟨[i64 p],(idx hk Lm).2,?_⟩
    ((repeat refine yY Z ?_);refine zA zi ?_);refine And.intro ⟨by omega,by omega⟩ ?_
    ((repeat refine yY Z ?_);refine ae ?_);refine⟨(i+1),_,aD.refl _ _,?_⟩
    refine⟨by omega,by omega,⟨Z,Z,Z,Z,Z,Y⟩,⟨rfl,?_,trivial⟩⟩
    have zh:∀k:Nat,k=2*n+1->AB.row 3 (((flat s).map fun n=>[i64 n]).set k [i64 (max p r.x1)])=AB.row 3 ((flat (aK.bJ (L.take (i+1)))).map fun n=>[i64 n]):=by
     intro k e
     subst e
     rw[AG,List.map_set]
    exact zh _ (by rw[hk];rfl)
   rw[if_neg h3] at AG
   ((repeat refine yY Z ?_);refine zA zi ?_);refine And.intro ⟨by simp,by simp;omega,by simp;omega⟩ ?_
   ((repeat refine yY Z ?_);refine zA zi ?_);refine And.intro ⟨by omega,by omega⟩ ?_
   ((repeat refine yY Z ?_);refine ae ?_);refine⟨(i+1),_,aD.refl _ _,?_⟩
   refine⟨by omega,by omega,⟨Z,Z,Z,Z,Z,Y⟩,⟨rfl,?_,trivial⟩⟩
   rw[AG,List.map_append]
   rfl
  rw[sm,fl] at h2
  have hs:s=[]:=List.eq_nil_of_length_eq_zero (by omega)
  have AG:=a1 hs
  ((repeat refine yY Z ?_);refine zA zi ?_);refine And.intro ⟨by simp,by simp;omega,by simp;omega⟩ ?_
  ((repeat refine yY Z ?_);refine zA zi ?_);refine And.intro ⟨by omega,by omega⟩ ?_
  ((repeat refine yY Z ?_);refine ae ?_);refine⟨(i+1),_,aD.refl _ _,?_⟩
  refine⟨by omega,by omega,⟨Z,Z,Z,Z,Z,Y⟩,⟨rfl,?_,trivial⟩⟩
  rw[AG,hs]
  rfl
 rw[lm] at h1
 (repeat refine yY Z ?_);refine aa zi ?_
 rw[List.take_of_length_le (by omega)]
 exact⟨Z,Z,Y⟩
def ends (l:List aG):List Int:=l.flatMap fun r=>[r.y0,r.y1]
theorem Cu {l:List aG} {i:Nat} {r:aG} (h:l[i]?=some r):ends (l.take (i+1))=ends (l.take i)++[r.y0,r.y1]:=by
 rw[aN h]
 simp[ends]
theorem Ep (l:List aG) (y:Int):y∈ends l↔∃r∈l,y=r.y0\/y=r.y1:=by
 simp[ends]
theorem xu (l:List aG):(ends l).length=2*l.length:=by
 induction l with
 | nil=>rfl
 | cons r l ih=>simp only[ends,List.flatMap_cons,List.length_append,List.length_cons,List.length_nil] at ih ⊢;omega
theorem zC {l m:List aG} (hm:∀r,r∈m↔r∈l):compact (gi (ends m))=aK.cA l:=by
 have hs:(gi (ends m)).Pairwise (·<=·):=by
  have:=List.pairwise_mergeSort (le:=fun x y:Int=>decide (x<=y)) (fun a b c h1 h2=>by simp at *;omega) (fun a b=>by simp;omega) (ends m)
  exact this.imp fun h=>by simpa using h
 obtain⟨h1,h2⟩:=tp hs
 obtain⟨h3,h4⟩:=aK.jb l
 refine aK.tb _ _ h1 h3 fun x=>?_
 rw[h2,h4,gi,(List.mergeSort_perm _ _).mem_iff,Ep]
 constructor
 ·rintro⟨r,hr,h⟩;exact⟨r,(hm r).1 hr,h⟩
 rintro⟨r,hr,h⟩;exact⟨r,(hm r).2 hr,h⟩
theorem Cv {ys:List Int} (hR:aK.fD ys) {k:Nat} {y q:Int} (hy:ys[k]?=some y) (hq:q∈ys) (h1:q<=y) (h2:∀j z,j+1=k->ys[j]?=some z->z < q):q=y:=by
 obtain⟨i,hi⟩:=List.mem_iff_getElem?.1 hq
 rcases Nat.lt_trichotomy i k with h | h | h
 ·obtain⟨z,hz⟩:=aj (l:=ys) (i:=k - 1) (by have:=(List.getElem?_eq_some_iff.1 hy).1;omega)
  have:=h2 (k - 1) z (by omega) hz
  have:=rU hR hi hz (by omega)
  omega
 ·subst h
  rw[hi] at hy
  injection hy
 have:=rU hR hy hi (by omega)
 omega
structure A9 (L:List aG) (ys:List Int) (k:Nat) (nw:List aG) (next:Nat):Prop where
 le:next<=L.length
 len:nw.length<=next
 mem:∀r,r∈nw↔r∈L.take next/\∀j y,j+1=k->ys[j]?=some y->y < r.y1
 below:∀r∈L.take next,∀j y,j+1=k->ys[j]?=some y->r.y0<=y
 above:∀r∈L.drop next,∀j y,j+1=k->ys[j]?=some y->y < r.y0
 zero:k=0->next=0
structure E8 (L:List aG) (y:Int) (nw:List aG) (next:Nat):Prop where
 le:next<=L.length
 len:nw.length<=next
 mem:∀r,r∈nw↔r∈L.take next/\y < r.y1
 below:∀r∈L.take next,r.y0<=y
theorem A9.Q7 {L:List aG} {ys:List Int} {k:Nat} {nw:List aG} {next:Nat} (h:A9 L ys k nw next) (hR:aK.fD ys) {y:Int} (hy:ys[k]?=some y):E8 L y (nw.filter fun r=>!jm y r) next:=by
 have prev:k≠0->∃z,ys[k - 1]?=some z/\z < y:=fun hk=>by
  have Cp:=(List.getElem?_eq_some_iff.1 hy).1
  obtain⟨z,hz⟩:=aj (l:=ys) (i:=k - 1) (by omega)
  have a1:=List.getElem?_eq_some_iff.1 hz
  have a2:=List.getElem?_eq_some_iff.1 hy
  obtain⟨b1,b2⟩:=a1
  obtain⟨c1,c2⟩:=a2
  have:=(List.pairwise_iff_getElem.1 hR) (k - 1) k b1 c1 (by omega)
  exact⟨z,hz,by omega⟩
 refine⟨h.le,Nat.le_trans (List.length_filter_le _ _) h.len,fun r=>?_,fun r hr=>?_⟩
 ·rw[List.mem_filter,h.mem]
  simp only[jm,Bool.not_eq_true',decide_eq_false_iff_not]
  constructor
  ·rintro⟨⟨h1,_⟩,h2⟩;exact⟨h1,by omega⟩
  rintro⟨h1,h2⟩
  refine⟨⟨h1,fun j z hj hz=>?_⟩,by omega⟩
  obtain⟨z',OH,dS⟩:=prev (by omega)
  rw[show k - 1=j by omega,hz] at OH
  injection OH with OH
  omega
 by_cases hk:k=0
 ·rw[h.zero hk] at hr;simp at hr
 obtain⟨z,hz,dS⟩:=prev hk
 have:=h.below r hr (k - 1) z (by omega) hz
 omega
theorem E8.next {L:List aG} {y:Int} {nw:List aG} {next:Nat} (h:E8 L y nw next) {r:aG} (hr:L[next]?=some r) (h0:r.y0<=y) (h1:y < r.y1):E8 L y (nw++[r]) (next+1):=by
 have dS:=(List.getElem?_eq_some_iff.1 hr).1
 refine⟨by omega,by have:=h.len;simp;omega,fun q=>?_,fun q hq=>?_⟩
 ·rw[aN hr,List.mem_append,List.mem_append,List.mem_singleton,h.mem]
  constructor
  ·rintro (⟨a,b⟩ | rfl)
   ·exact⟨.inl a,b⟩
   exact⟨.inr rfl,h1⟩
  rintro⟨a | rfl,b⟩
  ·exact .inl ⟨a,b⟩
  exact .inr rfl
 rw[aN hr,List.mem_append,List.mem_singleton] at hq
 rcases hq with hq | rfl
 ·exact h.below q hq
 exact h0
theorem E8.row {L l:List aG} {y:Int} {nw:List aG} {next:Nat} (h:E8 L y nw next) (hm:∀r,r∈L↔r∈l) (Er:∀r∈L.drop next,y < r.y0):∀r,r∈nw↔r∈l/\r.y0<=y/\y < r.y1:=by
 intro r
 rw[h.mem,<-hm]
 constructor
 ·rintro⟨a,b⟩;exact⟨List.mem_of_mem_take a,h.below r a,b⟩
 rintro⟨a,b,c⟩
 refine⟨?_,c⟩
 rw[<-List.take_append_drop next L,List.mem_append] at a
 rcases a with a | a
 ·exact a
 have:=Er r a;omega
theorem E8.Ln {L:List aG} {ys:List Int} {k:Nat} {nw m:List aG} {next:Nat} {y:Int} (h:E8 L y nw next) (hy:ys[k]?=some y) (hp:m.Perm nw) (Er:∀r∈L.drop next,y < r.y0):A9 L ys (k+1) m next:=by
 have one:∀j z,j+1=k+1->ys[j]?=some z->z=y:=fun j z hj hz=>by
  rw[show j=k by omega,hy] at hz;injection hz with hz;exact hz.symm
 refine⟨h.le,by rw[hp.length_eq];exact h.len,fun r=>?_,fun r hr j z hj hz=>?_,fun r hr j z hj hz=>?_,fun h=>by omega⟩
 ·rw[hp.mem_iff,h.mem]
  constructor
  ·rintro⟨a,b⟩;exact⟨a,fun j z hj hz=>by rw[one j z hj hz];exact b⟩
  rintro⟨a,b⟩;exact⟨a,b k y rfl hy⟩
 ·rw[one j z hj hz];exact h.below r hr
 rw[one j z hj hz];exact Er r hr
theorem zD {L:List aG} (hs:L.Pairwise fun a b=>a.y0<=b.y0) {i:Nat} {r:aG} (hr:L[i]?=some r) {y:Int} (h:y < r.y0):∀q∈L.drop i,y < q.y0:=by
 intro q hq
 obtain⟨hi,he⟩:=List.getElem?_eq_some_iff.1 hr
 rw[List.drop_eq_getElem_cons hi,he,List.mem_cons] at hq
 rcases hq with rfl | hq
 ·exact h
 obtain⟨j,hj,rfl⟩:=List.getElem_of_mem hq
 rw[List.getElem_drop]
 have:=List.pairwise_iff_getElem.1 hs i (i+1+j) hi (by rw[List.length_drop] at hj;omega) (by omega)
 rw[he] at this
 omega
def Good (r:aG):Prop:=Bd r/\r.x0 < r.x1/\r.y0 < r.y1
theorem xv (l:List aG) (ys:List Int) {N:Nat} (h:∀y,(aK.rowOf l y).length<=N):∀k,∀t∈aK.cN l ys k,t.xs.length<=N:=by
 intro k
 induction k with
 | zero=>simp[aK.cN]
 | succ k ih=>rw[aK.cN];exact xf _ _ _ ih (h _)
theorem vB (l:List aG) (hl:∀r∈l,Good r) (hN:l.length<=4398046511104) (hH:(aK.cA l).length<=1000000000000) (hX:∀y,(aK.rowOf l y).length<=1000000000000):af C 200 [.pv (ca l)] (.own 329 ((aK.kU l).map hb)) []:=by
 refine ah hC Tryz.func200 rfl rfl 83 rfl (by decide) (by kernel_rfl) fun _ _ _ _ _=>?_
 have PI:∀r∈l,Bd r:=fun r hr=>(hl r hr).1
 obtain⟨hp,Hi⟩:=xo PI
 have nv:=hp.length_eq
 ((repeat refine yY Z ?_);refine zX zi ?_);refine⟨_,_,(xq l (by omega)),?_⟩
 ((repeat refine yY Z ?_);refine zX zi ?_);refine⟨_,_,(IS l PI (by omega)),?_⟩
 generalize dc Ej l=L at hp Hi nv
 have lm:=ai L rc
 (repeat refine yY Z ?_)
 refine ak (fun i:Nat=>i<=L.length) (fun i=>[(0,.ow 0),(14,.ow 0),(15,.p (i64 (L.map rc).length)),(16,.p (i64 i)),(3,.bx 3 0)]) (fun i=>[(0,.row 221 (L.map rc)),(3,.box [.ow 90000]),(90000,.row 3 ((ends (L.take i)).map fun n=>[i64 n]))]) (fun i=>L.length - i) 0 _ (aD.va hC _ 3 0 90000 3 _ _ (by decide) (by decide) rfl rfl rfl (by decide)) (Nat.zero_le _) ⟨Z,Z,Z,Z,Z,Y⟩ ⟨Z,Z,Z,Y⟩ fun i hi t h=>?_
 have el:=xu (L.take i)
 have em:=ai (ends (L.take i)) fun n=>[i64 n]
 rw[List.length_take] at el
 (repeat refine yY Z ?_);refine iF Z (fun h1=>?_) (fun h1=>?_)
 ·rw[lm] at h1
  obtain⟨r,hr⟩:=aj (l:=L) (i:=i) (by omega)
  ((repeat refine yY Z ?_);refine zA zi ?_);refine And.intro ⟨by omega,by rw[lm];omega⟩ ?_
  ((repeat refine yY Z ?_);refine zX zi ?_);refine⟨(rc r),(idx rfl hr).2,?_⟩
  ((repeat refine yY Z ?_);refine zA zi ?_);refine And.intro ⟨by simp,by simp;omega,by simp;omega⟩ ?_
  ((repeat refine yY Z ?_);refine zA zi ?_);refine And.intro ⟨by omega,by omega⟩ ?_
  (repeat refine yY Z ?_);refine ae ?_
  refine⟨i+1,_,aD.JI _ 26 90000 (by decide) (by decide),by omega,by omega,⟨Z,Z,Z,Z,Z,Y⟩,⟨rfl,rfl,?_,trivial⟩⟩
  show AB.row _ _=AB.row _ _
  rw[Cu hr,List.map_append]
  rfl
 rw[lm] at h1
 rw[List.take_of_length_le (show L.length<=i by omega)] at *
 ((repeat refine yY Z ?_);refine zX zi ?_);refine⟨_,_,(ub (ends L) (by omega)),?_⟩
 ((repeat refine yY Z ?_);refine zX zi ?_);refine⟨_,_,(vy (gi (ends L)) (by rw[gi,List.length_mergeSort];omega)),?_⟩
 have F8:∀r,r∈L↔r∈l:=fun r=>hp.mem_iff
 rw[zC F8]
 have hR:=rW l
 have hL:=iu l
 have PJ:=ai (aK.cA l) fun n=>[i64 n]
 have Hh:∀r∈L,r.y0∈aK.cA l:=fun r hr=>((aK.jb l).2 _).2 ⟨r,(F8 r).1 hr,.inl rfl⟩
 have OI:=kV l (aK.cA l)
 have Hj:=xv l (aK.cA l) hX
 have IU:aK.kU l=aK.cN l (aK.cA l) ((aK.cA l).length - 1):=rfl
 generalize aK.cA l=ys at *
 (repeat refine yY Z ?_)
 refine ak (fun x:Nat×List aG×Nat=>x.1<=ys.length - 1/\A9 L ys x.1 x.2.1 x.2.2) (fun x=>[(0,.ow 0),(3,.p (.ip [ints ys])),(6,.ow 6),(7,.ow 7),(8,.p (i64 x.2.2)),(9,.bx 9 0)]) (fun x=>[(0,.row 221 (L.map rc)),(6,.row 329 ((aK.cN l ys x.1).map hb)),(7,.row 221 (x.2.1.map rc)),(9,.box [.p (i64 x.1)])]) (fun x=>ys.length - x.1) (0,[],0) _
  (aD.trans (aD.eG hC _ 6 329 _ (by decide) rfl rfl (by decide)) (aD.trans (aD.eG hC _ 7 221 _ (by decide) rfl rfl (by decide)) (aD.trans (aD.vc hC _ 3 0 31 3 _ _ (by decide) rfl rfl rfl) (aD.eh hC _ 3 (y:=.ip [ints ys]) (fz:=[(3,.gC [ints ys])]) ⟨rfl,rfl⟩))))
  ⟨Nat.zero_le _,⟨Nat.zero_le _,Nat.le_refl _,by simp,by simp,fun r _ j y h=>by omega,fun _=>rfl⟩⟩ ⟨Z,Z,Z,Z,Z,Z,Y⟩ ⟨Z,Z,Z,Z,Y⟩ fun ⟨k,nw,next⟩ hi t h=>?_
 obtain⟨hk,Lo⟩:=hi
 simp only at hk Lo
 ((repeat refine yY Z ?_);refine zA zi ?_);refine And.intro ⟨by simp only;omega,by simp only;omega⟩ ?_
 (repeat refine yY Z ?_);refine iF Z (fun h2=>?_) (fun h2=>?_) <;> try simp only[zB] at h2
 ·rw[PJ] at h2
  obtain⟨y,hy⟩:=aj (l:=ys) (i:=k) (by omega)
  obtain⟨y',lE⟩:=aj (l:=ys) (i:=k+1) (by omega)
  have OJ:=Lo.Q7 hR hy
  ((repeat refine yY Z ?_);refine zX zi ?_);refine⟨_,_,(vz nw (by have:=Lo.len;have:=Lo.le;omega) ys k y hy),?_⟩
  (repeat refine yY Z ?_)
  refine D9 (fun p:List aG×Nat=>E8 L y p.1 p.2/\∀r∈L.drop p.2,y < r.y0) (fun p=>[(0,.ow 0),(3,.p (.ip [ints ys])),(6,.ow 6),(7,.ow 7),(8,.p (i64 p.2)),(9,.p (.ip [i64 k]))]) (fun p=>[(0,.row 221 (L.map rc)),(6,.row 329 ((aK.cN l ys k).map hb)),(7,.row 221 (p.1.map rc))]) (fun ⟨Hk,se⟩ AG t h=>?_) ?_
  ·obtain⟨CT,JD⟩:=AG
   simp only at CT JD
   have an:=CT.row F8 JD
   have ri:∀r∈Hk,Bd r:=fun r hr=>(hl r ((an r).1 hr).1).1
   obtain⟨PK,Fo⟩:=qg ri
   have Q8:aK.bJ (dc zz Hk)=aK.rowOf l y:=aK.xc l _ y (fun r hr=>(hl r hr).2.1) Fo fun r=>(PK.mem_iff).trans (an r)
   have dS:y < y':=by
    obtain⟨b1,b2⟩:=List.getElem?_eq_some_iff.1 hy
    obtain⟨c1,c2⟩:=List.getElem?_eq_some_iff.1 lE
    have:=(List.pairwise_iff_getElem.1 hR) k (k+1) b1 c1 (by omega)
    omega
   ((repeat refine yY Z ?_);refine c_ [] true [true,false,false,false,false,false,false,true,false,false,true,false,true,true,true] rfl (by kernel_rfl) ?_;(repeat refine yY Z ?_);refine zX zi ?_);refine⟨[i64 y],(idx rfl hy),?_⟩
   ((repeat refine yY Z ?_);refine zA zi ?_);refine And.intro ⟨by omega,by omega⟩ ?_
   ((repeat refine yY Z ?_);refine zX zi ?_);refine⟨[i64 y'],(idx (by omega) lE),?_⟩
   ((repeat refine yY Z ?_);refine zX zi ?_);refine⟨_,_,(qA Hk ri (by have:=CT.len;have:=CT.le;omega)),?_⟩
   rw[Q8]
   ((repeat refine yY Z ?_);refine zX zi ?_);refine⟨_,_,(zv (aK.cN l ys k) ⟨y,y',aK.rowOf l y⟩ dS (by have:=OI k;omega) (fun t ht=>by have:=Hj k t ht;omega)),?_⟩
   ((repeat refine yY Z ?_);refine zA zi ?_);refine And.intro ⟨by omega,by omega⟩ ?_
   ((repeat refine yY Z ?_);refine ae ?_);refine⟨(k+1,dc zz Hk,se),_,aD.refl _ _,?_⟩
   refine⟨⟨by simp only;omega,CT.Ln hy PK JD⟩,by simp only;omega,⟨Z,Z,Z,Z,Z,Z,Y⟩,⟨rfl,?_,rfl,?_,trivial⟩⟩
   ·simp only
    rw[aK.cN,A5 hy,A5 lE]
    rfl
   exact congrArg (fun z=>AB.box [z]) (aS (by simp only;omega))
  refine ak (fun p:List aG×Nat=>next<=p.2/\E8 L y p.1 p.2) (fun p=>[(0,.ow 0),(3,.p (.ip [ints ys])),(6,.ow 6),(7,.ow 7),(8,.p (i64 p.2)),(9,.p (.ip [i64 k]))]) (fun p=>[(0,.row 221 (L.map rc)),(6,.row 329 ((aK.cN l ys k).map hb)),(7,.row 221 (p.1.map rc))]) (fun p=>L.length - p.2) (nw.filter fun r=>!jm y r,next) _ (aD.eh hC _ 9 (y:=.ip [i64 k]) (fz:=[]) ⟨rfl,rfl⟩) ⟨Nat.le_refl _,OJ⟩ ⟨Z,Z,Z,Z,Z,Z,Y⟩ ⟨Z,Z,Z,Y⟩ fun ⟨Hk,se⟩ AG t h=>?_
  obtain⟨Lp,CT⟩:=AG
  simp only at Lp CT
  have Mc:=CT.le
  have yj:=CT.len
  (repeat refine yY Z ?_);refine c_ [] false Ol rfl (by kernel_rfl) ?_;(repeat refine yY Z ?_);refine iF Z (fun g1=>?_) (fun g1=>?_) <;> try simp only[zB] at g1
  ·rw[lm] at g1
   obtain⟨r,hr⟩:=aj (l:=L) (i:=se) (by omega)
   ((repeat refine yY Z ?_);refine zA zi ?_);refine And.intro ⟨by simp only;omega,by simp only;rw[lm];omega⟩ ?_
   ((repeat refine yY Z ?_);refine zX zi ?_);refine⟨(rc r),(idx rfl hr).2,?_⟩
   ((repeat refine yY Z ?_);refine zX zi ?_);refine⟨[i64 y],(idx rfl hy),?_⟩
   (repeat refine yY Z ?_);refine iF Z (fun g2=>?_) (fun g2=>?_)
   ·have PL:r∈L:=List.mem_of_getElem? hr
    have e:=Cv hR hy (Hh r PL) g2 fun j z hj hz=>Lo.above r (by
     refine List.mem_of_getElem? (i:=se - next) ?_
     rw[List.getElem?_drop,<-hr]
     congr 1;omega) j z hj hz
    have hg:=hl r ((F8 r).1 PL)
    ((repeat refine yY Z ?_);refine zA zi ?_);refine And.intro ⟨by simp only;omega,by simp only;rw[lm];omega⟩ ?_
    ((repeat refine yY Z ?_);refine zX zi ?_);refine⟨(rc r),(idx rfl hr).2,?_⟩
    ((repeat refine yY Z ?_);refine zA zi ?_);refine And.intro ⟨A4 rfl,by simp;omega,by simp;omega⟩ ?_
    ((repeat refine yY Z ?_);refine zA zi ?_);refine And.intro ⟨by simp only;omega,by simp only;omega⟩ ?_
    ((repeat refine yY Z ?_);refine ae ?_);refine⟨(Hk++[r],se+1),_,aD.refl _ _,?_⟩
    refine⟨⟨by simp only;omega,CT.next hr g2 (by have:=hg.2.2;omega)⟩,by simp only;omega,⟨rfl,rfl,rfl,rfl,aS (by simp only;omega),Z,Y⟩,⟨rfl,rfl,?_,trivial⟩⟩
    show AB.row _ _=AB.row _ _
    rw[List.map_append]
    rfl
   (repeat refine yY Z ?_);refine ae<|zX zi ?_
   exact⟨(Hk,se),⟨CT,zD Hi hr (by omega)⟩,⟨Z,Z,Z,Z,Z,Z,Y⟩,⟨Z,Z,Z,Y⟩⟩
  rw[lm] at g1
  (repeat refine yY Z ?_);refine ae<|zX zi ?_
  refine⟨(Hk,se),⟨CT,fun r hr=>?_⟩,⟨Z,Z,Z,Z,Z,Z,Y⟩,⟨Z,Z,Z,Y⟩⟩
  rw[List.drop_of_length_le (by simp only;omega)] at hr
  cases hr
 rw[PJ] at h2
 (repeat refine yY Z ?_);refine aa zi ?_
 rw[IU,show ys.length - 1=k by omega]
 exact⟨Z,Z,Y⟩
theorem xw (l:List aG) (hl:∀r∈l,Good r) (hN:l.length<=400000):af C 200 [.pv (ca l)] (.own 329 ((aK.kU l).map hb)) []:=
 vB l hl (by omega) (by have:=iu l;omega) (fun y=>by have:=nZ l y;omega)
theorem F9 {r:aG} (h:aK.ir r=true/\r.x0 < r.x1/\r.y0 < r.y1):Good r:=by
 obtain⟨h1,h2,h3⟩:=h
 simp only[aK.ir,aK.nX,Bool.and_eq_true,decide_eq_true_eq] at h1
 exact⟨⟨by omega,by omega,by omega,by omega⟩,h2,h3⟩
theorem vC (l:List aG) (hN:l.length<=400000):(aK.kU l).length<=1000000/\∀t∈aK.kU l,t.xs.length<=1000000:=by
 have h1:=kV l (aK.cA l) ((aK.cA l).length - 1)
 have h2:=iu l
 exact⟨by unfold aK.kU;omega,fun t ht=>by have:=zt l (aK.cA l) _ t ht;omega⟩
theorem oh (l:List aG):af C 130 [.pv (ca l)] (.p (i64 (aK.bL l))) []:=by
 refine ah hC Tryz.func130 rfl rfl 52 rfl (by decide) (by kernel_rfl) fun _ _ _ _ _=>?_
 have lm:=ai l rc
 ((repeat refine yY Z ?_);refine zX zi ?_);refine⟨_,_,(pq l),?_⟩
 (repeat refine yY Z ?_);refine iF Z (fun h0=>?_) (fun h0=>?_)
 ·((repeat refine yY Z ?_);refine aa zi ?_);refine And.intro ?_ trivial
  rw[aK.bL,if_neg h0]
 have h0:aK.da l=0:=by simpa using h0
 obtain⟨hl,hg⟩:=aK.rT h0
 have hc:aK.bL l=(if aK.ordered l=true then (if aK.l5 l=l then 0 else 3) else 8):=by rw[aK.bL,if_pos h0]
 obtain⟨bl,bx⟩:=vC l (by omega)
 (repeat refine yY Z ?_)
 refine D9 (fun _:Unit=>aK.ordered l=true) (fun _=>[(0,.p (ca l))]) (fun _=>[]) (fun _ hO t h=>?_) ?_
 ·rw[if_pos hO] at hc
  ((repeat refine yY Z ?_);refine zX zi ?_);refine⟨_,_,(xw l (fun r hr=>F9 (hg r hr)) (by omega)),?_⟩
  ((repeat refine yY Z ?_);refine zX zi ?_);refine⟨_,_,(xm (aK.kU l) bl bx),?_⟩
  ((
   (repeat refine yY Z ?_);refine zX zi ?_);refine⟨_,_,(xl (aK.told (aK.kU l)) l (by
   have:=qd (aK.kU l) bx
   have:(aK.kU l).length*1000000<=1000000*1000000:=Nat.mul_le_mul_right _ bl
   omega)),?_⟩)
  (repeat refine yY Z ?_);refine iF Z (fun h2=>?_) (fun h2=>?_)
  ·((repeat refine yY Z ?_);refine aa zi ?_);refine And.intro ?_ trivial
   rw[hc,if_neg (show ¬aK.l5 l=l from h2)];rfl
  ((repeat refine yY Z ?_);refine aa zi ?_);refine And.intro ?_ trivial
  rw[hc,if_pos (show aK.l5 l=l from h2)];rfl
 refine ak (fun i:Nat=>∀(j:Nat) a b,j < i->l[j]?=some a->l[j+1]?=some b->aK.before a b=true) (fun i=>[(0,.p (ca l)),(4,.p (i64 ((i:Int)+1)))]) (fun _=>[]) (fun i=>l.length - i) 0 _ (aD.refl _ _) (fun j a b h=>by omega) ⟨Z,Z,Y⟩ trivial fun i hi t h=>?_
 (repeat refine yY Z ?_);refine iF Z (fun h1=>?_) (fun h1=>?_)
 ·rw[lm] at h1
  obtain⟨a,ha⟩:=aj (l:=l) (i:=i) (by omega)
  obtain⟨b,hb⟩:=aj (l:=l) (i:=i+1) (by omega)
  have stop:¬aK.before a b=true->aK.bL l=8:=fun hn=>by
   rw[hc,if_neg]
   rw[tf ha hb (by simpa using hn)];decide
  have cont:aK.before a b=true->∀(j:Nat) x y,j < i+1->l[j]?=some x->l[j+1]?=some y->aK.before x y=true:=fun hy j x y hj hx lE=>by
   by_cases e:j=i
   ·subst e
    rw[ha] at hx;injection hx with hx;rw[hb] at lE;injection lE with lE
    rw[<-hx,<-lE];exact hy
   exact hi j x y (by omega) hx lE
  ((repeat refine yY Z ?_);refine c_ [] false [true,true,true,true,true,true,true,false,false,true,true,false,true] rfl (by kernel_rfl) ?_;(repeat refine yY Z ?_);refine zA zi ?_);refine And.intro ⟨by omega,by omega⟩ ?_
  ((repeat refine yY Z ?_);refine zX zi ?_);refine⟨(rc a),(idx (show ((i:Int)+1) - 1=(i:Nat) by omega) ha),?_⟩
  ((repeat refine yY Z ?_);refine zX zi ?_);refine⟨(rc b),(idx (show ((i:Int)+1)=((i+1:Nat):Int) by omega) hb),?_⟩
  (repeat refine yY Z ?_);refine iF Z (fun g1=>?_) (fun g1=>?_)
  ·((repeat refine yY Z ?_);refine aa zi ?_);refine And.intro ?_ trivial
   rw[stop (by simp[aK.before];omega)];rfl
  (repeat refine yY Z ?_);refine iF Z (fun g2=>?_) (fun g2=>?_)
  ·(repeat refine yY Z ?_);refine iF Z (fun g3=>?_) (fun g3=>?_)
   ·((repeat refine yY Z ?_);refine aa zi ?_);refine And.intro ?_ trivial
    rw[stop (by simp[aK.before];omega)];rfl
   ((repeat refine yY Z ?_);refine zA zi ?_);refine And.intro ⟨by omega,by omega⟩ ?_
   ((repeat refine yY Z ?_);refine ae ?_);refine⟨(i+1),_,aD.refl _ _,?_⟩
   exact⟨cont (by simp[aK.before];omega),by omega,⟨rfl,aS (by omega),trivial⟩,trivial⟩
  ((repeat refine yY Z ?_);refine zA zi ?_);refine And.intro ⟨by omega,by omega⟩ ?_
  ((repeat refine yY Z ?_);refine ae ?_);refine⟨(i+1),_,aD.refl _ _,?_⟩
  exact⟨cont (by simp[aK.before];omega),by omega,⟨rfl,aS (by omega),trivial⟩,trivial⟩
 rw[lm] at h1
 (repeat refine yY Z ?_);refine ae<|zX zi ?_
 refine⟨(),vm fun j a b ha hb=>hi j a b ?_ ha hb,⟨Z,Y⟩,trivial⟩
 have:=(List.getElem?_eq_some_iff.1 hb).1
 omega
structure Class where
 name:ByteArray
 nets:List ByteArray
 clearance:Int
 width:Int
structure zE where
 layer:Int
 region:List aG
 clearance:Int
structure mK where
 clearance:Int
 width:Int
 ring:Int
 edge:Int
 holeGap:Int
 classes:List Class
 areas:List zE
def kl (c:Class):List PV:=[str c.name,strs c.nets,i64 c.clearance,i64 c.width]
def arr (a:zE):List PV:=[i64 a.layer,ca a.region,i64 a.clearance]
def rl (r:mK):List PV:=[i64 r.clearance,i64 r.width,i64 r.ring,i64 r.edge,i64 r.holeGap,.sl (r.classes.map kl),.sl (r.areas.map arr)]
def aX:ByteArray:=⟨#[]⟩
end M
end Go.Proofs.YtiaifckpmefinaaGreatDoor
