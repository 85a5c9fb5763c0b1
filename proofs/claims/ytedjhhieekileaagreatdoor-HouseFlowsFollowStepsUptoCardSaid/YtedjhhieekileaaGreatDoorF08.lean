/- A panel that is done was worked on at each step, well at last, and is done when this ends; it was sent back as often as it failed. Condition: what is read is of bulk at most 1048576; the listed variables are tied to the program's text by the card. -/
import Derived.Test.YtedjhhieekileaaGreatDoorF07
set_option linter.unusedVariables false
set_option linter.unusedSimpArgs false
set_option maxRecDepth 100000
set_option maxHeartbeats 8000000
namespace Go
abbrev UK:=@Nat.mul_add_div
abbrev TV:=@Nat.div_eq_of_lt
end Go
namespace Go.Proofs.YtedjhhieekileaaGreatDoor
namespace M
open Go.AM Go.RowKit
open Ql (Tb SY gp)
theorem VA(l:List dQ):Tb H6 (l.take 1)=l.take 1:=Ql.Tv Tc (by cases l<;>simp[SY])
theorem insertionSort(A S D l r:List dQ)(hl:l=A++(S++D))(hr:r=A++(Tb H6 S++D))(a b:Int)(ha:a=A.length)(hb:b=(A.length:Int)+S.length)(hN:l.length<=maxD):
  aT C 68 [.row 34 (l.map dc),.pv (i64 a),.pv (i64 b),.pv Ts] (.tu []) [.row (r.map dc)]:=by
 refine Mb ⟨[],[],[],[4],[],[]⟩ hC Tryz.func68 rfl (by kernel_rfl) fun _=>?_;have hlen:l.length=A.length+S.length+D.length:=by rw[hl];simp only[bZ];omega
 unfold maxD at hN;refine⟨wO (by omega),?_⟩;refine d_ (fun p:Nat×List dQ=>1<=p.1/\(p.1<=S.length\/S.length=0/\p.1=1)/\p.2=A++(Tb H6 (S.take p.1)++(S.drop p.1++D))) (fun p=>[(0,.ow 100000),(1,.p (i64 a)),(2,.p (i64 b)),(3,.p Ts),(8,.p (i64 (a+p.1)))]) (fun p=>[(100000,.row 34 (p.2.map dc))]) (fun p=>S.length-p.1) (1,l) _ (aY.refl _ _) ⟨Nat.le_refl _,by dsimp only;omega,by dsimp only;rw[VA,<-List.append_assoc (S.take 1),List.take_append_drop,hl]⟩ ⟨Z,Z,Z,Z,Z,Y⟩ ⟨Z,Y⟩ fun ⟨k,d⟩ hi t h=>?_;obtain⟨k1,k2,hd⟩:=hi;simp only at k1 k2 hd;have OS:d.length=l.length:=by rw[hd,hlen];simp only[bZ,Ql.S4,cu,nI];omega
 apply iW<;>intro h1<;>try simp only[zB]at h1
 ·obtain⟨x,hx⟩:=a8 (l:=S) (i:=k) (by omega);obtain⟨W,hW⟩:∃W,W=Tb H6 (S.take k):=⟨_,rfl⟩;have V2:W.length=k:=by rw[hW,Ql.S4,cu];omega
  have next:∀q,q<=k->(∀e∈W.drop q,H6 e x=false)->(q=0\/∃y,W[q-1]?=some y/\H6 y x=true)->A++(W.take q++x::(W.drop q++(S.drop (k+1)++D)))=A++(Tb H6 (S.take (k+1))++(S.drop (k+1)++D)):=by
   intro q hq h1 h2;have:=Ql.put_eq Tc (l:=S.take k) (u:=W.take q) (v:=W.drop q) (x:=x) (by rw[nZ,hW]) (Ql.Tr (by rw[hW];exact (Ql.S0 Tc _).1) (fun a b h3 h4=>Tc.trans _ _ _ h3 h4) h2) h1;rw[bT hx,this];simp
  refine d_ (fun p:Nat×List dQ=>p.1<=k/\(∀e∈W.drop p.1,H6 e x=false)/\p.2=A++(W.take p.1++x::(W.drop p.1++(S.drop (k+1)++D)))) (fun p=>[(0,.ow 100000),(1,.p (i64 a)),(2,.p (i64 b)),(3,.p Ts),(8,.p (i64 (a+k))),(9,.p (i64 (a+p.1)))]) (fun p=>[(100000,.row 34 (p.2.map dc))]) (fun p=>p.1) (k,d) _ (aY.refl _ _) ⟨Nat.le_refl _,by simp[List.drop_eq_nil_of_le (Nat.le_of_eq V2)],by dsimp only;rw[List.take_of_length_le (by omega),List.drop_eq_nil_of_le (Nat.le_of_eq V2),hd,hW,Td hx];rfl⟩ ⟨Z,Z,Z,Z,Z,Z,Y⟩ ⟨Z,Y⟩ fun ⟨q,d'⟩ hj t h=>?_;obtain⟨q1,q2,tY⟩:=hj;simp only at q1 q2 tY;have We:d'.length=l.length:=by rw[tY,hlen];simp only[bZ,cD,cu,nI];omega
  have lm:=cH d' dc;have lt:(A++W.take q).length=A.length+q:=by simp;omega
  have g1:d'[A.length+q]?=some x:=by rw[tY,<-gX];exact Ql.get_at _ _ _ _ lt.symm
  have i1:a+q=((A.length+q:Nat):Int):=by omega
  have b1:=Ql.zQ g1;apply iW<;>intro h2<;>try simp only[zB]at h2
  ·obtain⟨y,hy⟩:=a8 (l:=W) (i:=q-1) (by omega);have ty:W.take q=W.take (q-1)++[y]:=by rw[<-bT hy];congr 1;omega
   have e0:d'=(A++W.take (q-1))++y::([]++x::(W.drop q++(S.drop (k+1)++D))):=by rw[tY,ty];simp
   have VZ:(A++W.take (q-1)).length=A.length+(q-1):=by simp;omega
   have g2:d'[A.length+(q-1)]?=some y:=by rw[e0];exact Ql.get_at _ _ _ _ VZ.symm
   have i2:a+q-1=((A.length+(q-1):Nat):Int):=by omega
   refine⟨⟨by dsimp only;omega,by dsimp only;rw[lm];omega⟩,(dc x),(idx i1 g1).2,?_⟩;have b2:=Ql.zQ g2;refine⟨⟨by dsimp only;omega,by dsimp only;omega⟩,⟨by dsimp only;omega,by dsimp only;rw[lm];omega⟩,(dc y),(idx i2 g2).2,_,_,(Tl x y),iW ?_ ?_⟩<;>intro h3<;>try simp only[zB]at h3
   ·have U4:H6 y x=false:=(GN x y).1 h3;refine⟨⟨by dsimp only;omega,by dsimp only;omega⟩,⟨by dsimp only;omega,by dsimp only;omega⟩,⟨by dsimp only;omega,by dsimp only;rw[lm];omega⟩,(dc y),(idx i2 g2).2,⟨by dsimp only;omega,by dsimp only;rw[lm];omega⟩,(dc x),(idx i1 g1).2,⟨by dsimp only;omega,by dsimp only;rw[lm];omega⟩,(dc x),(idx i1 g1).2,⟨by dsimp only;omega,by dsimp only;rw[List.length_set,lm];omega⟩,(dc y),(Ug i1 i2 (by omega) g2),⟨by dsimp only;omega,by dsimp only;omega⟩,(q-1,(d'.set (A.length+q) y).set (A.length+(q-1)) x),_,aY.refl _ _,⟨by dsimp only;omega,fun e he=>?_,?_⟩,by dsimp only;omega,⟨rfl,rfl,rfl,rfl,rfl,congrArg (fun n:Int=>AV.p (i64 n)) (by dsimp only;omega),trivial⟩,⟨TC i1 i2,trivial⟩⟩
    ·dsimp only at he;rw[Td hy,show q-1+1=q by omega]at he;rcases fL.1 he with e1 | he
     ·rw[e1];exact U4
     exact q2 e he
    dsimp only;rw[e0,Ql.Ut (A++W.take (q-1)) [] (W.drop q++(S.drop (k+1)++D)) y x (A.length+(q-1)) (A.length+q) VZ.symm (by rw[VZ];simp;omega),Td hy,show q-1+1=q by omega];simp
   have U4:H6 y x=true:=by
    cases hh:H6 y x with
    | true=>rfl
    | false=>exact absurd ((GN x y).2 hh) h3
   refine⟨wO (by omega),(k+1,d'),_,aY.refl _ _,⟨by dsimp only;omega,by dsimp only;omega,?_⟩,by dsimp only;omega,⟨rfl,rfl,rfl,rfl,congrArg (fun n:Int=>AV.p (i64 n)) (by dsimp only;omega),trivial⟩,⟨Z,Y⟩⟩;rw[tY];exact next q q1 q2 (.inr ⟨y,hy,U4⟩)
  refine⟨wO (by omega),(k+1,d'),_,aY.refl _ _,⟨by dsimp only;omega,by dsimp only;omega,?_⟩,by dsimp only;omega,⟨rfl,rfl,rfl,rfl,congrArg (fun n:Int=>AV.p (i64 n)) (by dsimp only;omega),trivial⟩,⟨Z,Y⟩⟩;rw[tY];exact next q q1 q2 (.inl (by omega))
 refine⟨rfl,⟨Tg ?_,trivial⟩⟩;have e:S.drop k=[]:=TO (by omega);rw[hd,hr,e,vm (by omega)];rfl
theorem S6{a b:Int}(h:a=b):AV.p (i64 a)=AV.p (i64 b):=by rw[h]
variable {A D l:List dQ}
theorem UL{S:List dQ}{q:Nat}{y:dQ}(hl:l=A++(S++D))(h:S[q]?=some y):l[A.length+q]?=some y:=by
 rw[hl,bY (by omega),show A.length+q-A.length=q by omega,bQ (Ql.zQ h)];exact h
theorem Uq(A S D l r:List dQ)(x:dQ)(hl:l=A++([x]++(S++D)))(hr:r=A++(Tb H6 ([x]++S)++D))(hs:SY H6 S)(h0:0<S.length)(a m b:Int)(ha:a=A.length)(hm:m=(A.length:Int)+1)(hb:b=(A.length:Int)+1+S.length)(hN:l.length<=maxD):
  aT C 86 [.row 34 (l.map dc),.pv (i64 a),.pv (i64 m),.pv (i64 b),.pv Ts] (.tu []) [.row (r.map dc)]:=by
 refine Mb ⟨[],[],[],[5,17,35],[],[]⟩ hC Tryz.func86 rfl (by kernel_rfl) fun _=>?_;have hlen:l.length=A.length+1+S.length+D.length:=by rw[hl];simp only[bZ,nJ];omega
 have yE:l=(A++[x])++(S++D):=by rw[hl];simp
 have gx:l[A.length]?=some x:=by rw[hl];exact Ql.get_at _ _ _ _ rfl
 have lm:=cH l dc;unfold maxD at hN;refine⟨wO (by omega),iW ?_ ?_⟩<;>intro g0<;>try simp only[zB]at g0
 ·refine d_ (fun p:Nat×Nat=>A.length+1<=p.1/\p.1<=p.2/\p.2<=A.length+1+S.length/\(p.1-(A.length+1)=0\/∃y,S[p.1-(A.length+1)-1]?=some y/\H6 x y=false)/\(S.length<=p.2-(A.length+1)\/∃y,S[p.2-(A.length+1)]?=some y/\H6 x y=true)) (fun p=>[(0,.ow 100000),(1,.p (i64 a)),(4,.p Ts),(10,.p (i64 p.1)),(11,.p (i64 p.2))]) (fun _=>[(100000,.row 34 (l.map dc))]) (fun p=>p.2-p.1) (A.length+1,A.length+1+S.length) _ (aY.refl _ _) ⟨by dsimp only;omega,by dsimp only;omega,by dsimp only;omega,.inl (by dsimp only;omega),.inl (by dsimp only;omega)⟩ ⟨rfl,rfl,rfl,S6 (by dsimp only;omega),S6 (by dsimp only;omega),trivial⟩ ⟨Z,Y⟩ fun ⟨i,j⟩ hi t h=>?_;obtain⟨q1,q2,q3,q4,q5⟩:=hi;simp only at q1 q2 q3 q4 q5;apply iW<;>intro h1<;>try simp only[zB]at h1
  ·have hm:=E5 (a:=i) (b:=j) (by omega);obtain⟨y,hy⟩:=a8 (l:=S) (i:=(i+j) / 2-(A.length+1)) (by omega);have gy:l[(i+j) / 2]?=some y:=by
    have:=UL yE hy;rw[bZ,nJ]at this;rw[<-this];congr 1;omega
   have b2:=Ql.zQ gy;refine⟨⟨by dsimp only;omega,by dsimp only;omega⟩,⟨by decide,by decide⟩,⟨by dsimp only;rw[hm];omega,by dsimp only;rw[hm];omega⟩,⟨by dsimp only;rw[hm];omega,by dsimp only;rw[hm,lm];omega⟩,(dc y),(idx hm gy).2,⟨by omega,by rw[lm];omega⟩,(dc x),(idx ha gx).2,_,_,(Tl y x),iW ?_ ?_⟩<;>intro h2<;>try simp only[zB]at h2
   ·have U4:H6 x y=false:=(GN y x).1 h2;exact⟨⟨by dsimp only;rw[hm];omega,by dsimp only;rw[hm];omega⟩,((i+j) / 2+1,j),_,aY.refl _ _,⟨by dsimp only;omega,by dsimp only;omega,q3,.inr ⟨y,by dsimp only;rw[<-hy];congr 1;omega,U4⟩,q5⟩,by dsimp only;omega,⟨rfl,rfl,rfl,S6 (by dsimp only;rw[hm];omega),Z,Y⟩,⟨Z,Y⟩⟩
   have U4:H6 x y=true:=by
    cases hh:H6 x y with
    | true=>rfl
    | false=>exact absurd ((GN y x).2 hh) h2
   exact⟨(i,(i+j) / 2),_,aY.refl _ _,⟨q1,by dsimp only;omega,by dsimp only;omega,q4,.inr ⟨y,hy,U4⟩⟩,by dsimp only;omega,⟨rfl,rfl,rfl,rfl,S6 hm,trivial⟩,⟨Z,Y⟩⟩
  have e:j=i:=by omega
  subst e;obtain⟨n,hn⟩:∃n,n=j-(A.length+1):=⟨_,rfl⟩;rw[<-hn]at q4 q5;have p1:∀e∈S.take n,H6 x e=false:=Ql.Tr hs (fun u v h3 h4=>by
   cases hh:H6 x u with
   | false=>rfl
   | true=>rw[Tc.trans _ _ _ hh h3]at h4;cases h4) q4
  have p2:∀e∈S.drop n,H6 x e=true:=Ql.Uc Tc hs (fun u v h3 h4=>Tc.trans _ _ _ h4 h3) q5;have fe:=Ql.front_eq Tc (p:=S.take n) (q:=S.drop n) (x:=x) (by rw[nZ];exact hs) p1 p2;rw[nZ]at fe;refine d_ (fun p:Nat×List dQ=>p.1<=n/\p.2=A++(S.take p.1++x::(S.drop p.1++D))) (fun p=>[(0,.ow 100000),(10,.p (i64 j)),(13,.p (i64 (a+p.1)))]) (fun p=>[(100000,.row 34 (p.2.map dc))]) (fun p=>n-p.1) (0,l) _ (aY.refl _ _) ⟨Nat.zero_le _,hl⟩ ⟨rfl,rfl,S6 (by dsimp only;omega),trivial⟩ ⟨Z,Y⟩ fun ⟨k,d⟩ hk t h=>?_;obtain⟨k1,hd⟩:=hk;simp only at k1 hd;refine⟨wO (by omega),iW ?_ ?_⟩<;>intro h3<;>try simp only[zB]at h3
  ·obtain⟨y,hy⟩:=a8 (l:=S) (i:=k) (by omega);have lt:(A++S.take k).length=A.length+k:=by simp;omega
   have e0:d=(A++S.take k)++x::([]++y::(S.drop (k+1)++D)):=by rw[hd,Td hy];simp
   have g1:d[A.length+k]?=some x:=by rw[e0];exact Ql.get_at _ _ _ _ lt.symm
   have g2:d[A.length+k+1]?=some y:=by rw[e0];exact Ql.UB _ _ _ _ _ _ (by rw[lt];simp)
   have i1:a+k=((A.length+k:Nat):Int):=by omega
   have i2:a+k+1=((A.length+k+1:Nat):Int):=by omega
   have b1:=Ql.zQ g1;have b2:=Ql.zQ g2;have ld:=cH d dc;have OS:d.length=l.length:=by rw[hd,hlen];simp only[bZ,cD,cu,nI];omega
   refine⟨⟨by dsimp only;omega,by dsimp only;omega⟩,⟨by dsimp only;omega,by dsimp only;omega⟩,⟨by dsimp only;omega,by dsimp only;rw[ld];omega⟩,(dc y),(idx i2 g2).2,⟨by dsimp only;omega,by dsimp only;rw[ld];omega⟩,(dc x),(idx i1 g1).2,⟨by dsimp only;omega,by dsimp only;rw[ld];omega⟩,(dc x),(idx i1 g1).2,⟨by dsimp only;omega,by dsimp only;rw[List.length_set,ld];omega⟩,(dc y),(Ug i1 i2 (by omega) g2),⟨by dsimp only;omega,by dsimp only;omega⟩,(k+1,(d.set (A.length+k) y).set (A.length+k+1) x),_,aY.refl _ _,⟨by dsimp only;omega,?_⟩,by dsimp only;omega,⟨rfl,rfl,S6 (by dsimp only;omega),trivial⟩,⟨TC i1 i2,trivial⟩⟩;dsimp only;rw[e0,Ql.Uk (A++S.take k) [] (S.drop (k+1)++D) x y (A.length+k) (A.length+k+1) lt.symm (by rw[lt];simp),bT hy];simp
  refine⟨rfl,⟨Tg ?_,trivial⟩⟩;have e:k=n:=by omega
  rw[hd,hr,e,List.singleton_append,fe];simp
 omega
theorem Un(A S D l r:List dQ)(x:dQ)(hl:l=A++(S++([x]++D)))(hr:r=A++(Tb H6 (S++[x])++D))(hs:SY H6 S)(h0:0<S.length)(Wj:S.length≠1)(a m b:Int)(ha:a=A.length)(hm:m=(A.length:Int)+S.length)(hb:b=(A.length:Int)+S.length+1)(hN:l.length<=maxD):
  aT C 86 [.row 34 (l.map dc),.pv (i64 a),.pv (i64 m),.pv (i64 b),.pv Ts] (.tu []) [.row (r.map dc)]:=by
 refine Mb ⟨[],[],[],[5,17,35],[],[]⟩ hC Tryz.func86 rfl (by kernel_rfl) fun _=>?_;have hlen:l.length=A.length+S.length+1+D.length:=by rw[hl];simp only[bZ,nJ];omega
 have gx:l[A.length+S.length]?=some x:=by rw[hl,<-gX,List.singleton_append];exact Ql.get_at _ _ _ _ (by simp)
 have lm:=cH l dc;unfold maxD at hN;refine⟨wO (by omega),iW ?_ ?_⟩<;>intro g0<;>try simp only[zB]at g0
 ·omega
 refine⟨wO (by omega),iW ?_ ?_⟩<;>intro g1<;>try simp only[zB]at g1
 ·refine d_ (fun p:Nat×Nat=>A.length<=p.1/\p.1<=p.2/\p.2<=A.length+S.length/\(p.1-A.length=0\/∃y,S[p.1-A.length-1]?=some y/\H6 y x=true)/\(S.length<=p.2-A.length\/∃y,S[p.2-A.length]?=some y/\H6 y x=false)) (fun p=>[(0,.ow 100000),(2,.p (i64 m)),(4,.p Ts),(14,.p (i64 p.1)),(15,.p (i64 p.2))]) (fun _=>[(100000,.row 34 (l.map dc))]) (fun p=>p.2-p.1) (A.length,A.length+S.length) _ (aY.refl _ _) ⟨by dsimp only;omega,by dsimp only;omega,by dsimp only;omega,.inl (by dsimp only;omega),.inl (by dsimp only;omega)⟩ ⟨rfl,rfl,rfl,S6 (by dsimp only;omega),S6 (by dsimp only;omega),trivial⟩ ⟨Z,Y⟩ fun ⟨i,j⟩ hi t h=>?_;obtain⟨q1,q2,q3,q4,q5⟩:=hi;simp only at q1 q2 q3 q4 q5;apply iW<;>intro h1<;>try simp only[zB]at h1
  ·have KO:=E5 (a:=i) (b:=j) (by omega);obtain⟨y,hy⟩:=a8 (l:=S) (i:=(i+j) / 2-A.length) (by omega);have gy:l[(i+j) / 2]?=some y:=by
    have:=UL hl hy;rw[<-this];congr 1;omega
   have b2:=Ql.zQ gy;refine⟨⟨by dsimp only;omega,by dsimp only;omega⟩,⟨by decide,by decide⟩,⟨by dsimp only;rw[KO];omega,by dsimp only;rw[KO];omega⟩,⟨by omega,by rw[lm];omega⟩,(dc x),(idx (show m=((A.length+S.length:Nat):Int) by omega) gx).2,⟨by dsimp only;rw[KO];omega,by dsimp only;rw[KO,lm];omega⟩,(dc y),(idx KO gy).2,_,_,(Tl x y),iW ?_ ?_⟩<;>intro h2<;>try simp only[zB]at h2
   ·have U4:H6 y x=true:=by
     cases hh:H6 y x with
     | true=>rfl
     | false=>exact absurd ((GN x y).2 hh) (by simpa using h2)
    exact⟨⟨by dsimp only;rw[KO];omega,by dsimp only;rw[KO];omega⟩,((i+j) / 2+1,j),_,aY.refl _ _,⟨by dsimp only;omega,by dsimp only;omega,q3,.inr ⟨y,by dsimp only;rw[<-hy];congr 1;omega,U4⟩,q5⟩,by dsimp only;omega,⟨rfl,rfl,rfl,S6 (by dsimp only;rw[KO];omega),Z,Y⟩,⟨Z,Y⟩⟩
   have U4:H6 y x=false:=(GN x y).1 (by simpa using h2);exact⟨(i,(i+j) / 2),_,aY.refl _ _,⟨q1,by dsimp only;omega,by dsimp only;omega,q4,.inr ⟨y,hy,U4⟩⟩,by dsimp only;omega,⟨rfl,rfl,rfl,rfl,S6 KO,trivial⟩,⟨Z,Y⟩⟩
  have e:j=i:=by omega
  subst e;obtain⟨n,hn⟩:∃n,n=j-A.length:=⟨_,rfl⟩;rw[<-hn]at q4 q5;have p1:∀e∈S.take n,H6 e x=true:=Ql.Tr hs (fun u v h3 h4=>Tc.trans _ _ _ h3 h4) q4;have p2:∀e∈S.drop n,H6 e x=false:=Ql.Uc Tc hs (fun u v h3 h4=>by
   cases hh:H6 v x with
   | false=>rfl
   | true=>rw[Tc.trans _ _ _ h3 hh]at h4;cases h4) q5
  have fe:=Ql.put_eq Tc (l:=S) (u:=S.take n) (v:=S.drop n) (x:=x) (by rw[nZ,Ql.Tv Tc hs]) p1 p2;refine d_ (fun p:Nat×List dQ=>n<=p.1/\p.1<=S.length/\p.2=A++(S.take p.1++x::(S.drop p.1++D))) (fun p=>[(0,.ow 100000),(14,.p (i64 j)),(17,.p (i64 (a+p.1)))]) (fun p=>[(100000,.row 34 (p.2.map dc))]) (fun p=>p.1) (S.length,l) _ (aY.refl _ _) ⟨by dsimp only;omega,Nat.le_refl _,by dsimp only;rw[List.take_length,List.drop_length,hl];rfl⟩ ⟨rfl,rfl,S6 (by dsimp only;omega),trivial⟩ ⟨Z,Y⟩ fun ⟨k,d⟩ hk t h=>?_;obtain⟨k0,k1,hd⟩:=hk;simp only at k0 k1 hd;apply iW<;>intro h3<;>try simp only[zB]at h3
  ·obtain⟨y,hy⟩:=a8 (l:=S) (i:=k-1) (by omega);have ty:S.take k=S.take (k-1)++[y]:=by rw[<-bT hy];congr 1;omega
   have lt:(A++S.take (k-1)).length=A.length+(k-1):=by simp;omega
   have e0:d=(A++S.take (k-1))++y::([]++x::(S.drop k++D)):=by rw[hd,ty];simp
   have g1:d[A.length+k]?=some x:=by rw[e0];exact Ql.UB _ _ _ _ _ _ (by rw[lt];simp;omega)
   have g2:d[A.length+(k-1)]?=some y:=by rw[e0];exact Ql.get_at _ _ _ _ lt.symm
   have i1:a+k=((A.length+k:Nat):Int):=by omega
   have i2:a+k-1=((A.length+(k-1):Nat):Int):=by omega
   have b1:=Ql.zQ g1;have b2:=Ql.zQ g2;have ld:=cH d dc;have OS:d.length=l.length:=by rw[hd,hlen];simp only[bZ,cD,cu,nI];omega
   refine⟨⟨by dsimp only;omega,by dsimp only;omega⟩,⟨by dsimp only;omega,by dsimp only;omega⟩,⟨by dsimp only;omega,by dsimp only;rw[ld];omega⟩,(dc y),(idx i2 g2).2,⟨by dsimp only;omega,by dsimp only;rw[ld];omega⟩,(dc x),(idx i1 g1).2,⟨by dsimp only;omega,by dsimp only;rw[ld];omega⟩,(dc x),(idx i1 g1).2,⟨by dsimp only;omega,by dsimp only;rw[List.length_set,ld];omega⟩,(dc y),(Ug i1 i2 (by omega) g2),⟨by dsimp only;omega,by dsimp only;omega⟩,(k-1,(d.set (A.length+k) y).set (A.length+(k-1)) x),_,aY.refl _ _,⟨by dsimp only;omega,by dsimp only;omega,?_⟩,by dsimp only;omega,⟨rfl,rfl,S6 (by dsimp only;omega),trivial⟩,⟨TC i1 i2,trivial⟩⟩;dsimp only;rw[e0,Ql.Ut (A++S.take (k-1)) [] (S.drop k++D) y x (A.length+(k-1)) (A.length+k) lt.symm (by rw[lt];simp;omega),Td hy,show k-1+1=k by omega];simp
  refine⟨rfl,⟨Tg ?_,trivial⟩⟩;have e:k=n:=by omega
  rw[hd,hr,e,fe];simp
 omega
theorem VO{S T:List dQ}(hs:SY H6 S)(ht:SY H6 T)(i j:Nat)(c1:i=0\/T.length<=j\/∃u v,S[i-1]?=some u/\T[j]?=some v/\H6 u v=true)(c2:S.length<=i\/j=0\/∃u v,S[i]?=some u/\T[j-1]?=some v/\H6 u v=false):
  Tb H6 (S++T)=Tb H6 (S.take i++T.take j)++Tb H6 (S.drop i++T.drop j):=by
 have:=Ql.Vv Tc (a1:=S.take i) (a2:=S.drop i) (b1:=T.take j) (b2:=T.drop j) (by rw[nZ];exact hs) (by rw[nZ];exact ht)
  (fun x hx y hy=>by
   rcases c1 with c | c | ⟨u,v,h1,h2,h3⟩
   ·rw[c,mC]at hx;cases hx
   ·rw[TO c]at hy;cases hy
   have q1:=Ql.Tr hs (P:=fun e=>H6 e v=true) (fun a b h4 h5=>Tc.trans _ _ _ h4 h5) (.inr ⟨u,h1,h3⟩) x hx;have q2:=Ql.Uc Tc ht (P:=fun e=>H6 v e=true) (fun a b h4 h5=>Tc.trans _ _ _ h5 h4) (.inr ⟨v,h2,Tc.refl v⟩) y hy;exact Tc.trans _ _ _ q1 q2)
  (fun x hx y hy=>by
   rcases c2 with c | c | ⟨u,v,h1,h2,h3⟩
   ·rw[TO c]at hx;cases hx
   ·rw[c,mC]at hy;cases hy
   have q1:=Ql.Uc Tc hs (P:=fun e=>H6 u e=true) (fun a b h4 h5=>Tc.trans _ _ _ h5 h4) (.inr ⟨u,h1,Tc.refl u⟩) x hx;have q2:=Ql.Tr ht (P:=fun e=>H6 e v=true) (fun a b h4 h5=>Tc.trans _ _ _ h4 h5) (.inr ⟨v,h2,Tc.refl v⟩) y hy;cases hh:H6 x y with
   | false=>rfl
   | true=>rw[Tc.trans _ _ _ q1 (Tc.trans _ _ _ hh q2)]at h3;cases h3)
 rw[nZ,nZ]at this;exact this
theorem T8{S:List dQ}(hs:SY H6 S)(i:Nat):SY H6 (S.take i):=hs.sublist (List.take_sublist _ _)
theorem T9{S:List dQ}(hs:SY H6 S)(i:Nat):SY H6 (S.drop i):=hs.sublist (List.drop_sublist _ _)
theorem UX:∀(N:Nat) (A S T D l r:List dQ),S.length+T.length<=N->l=A++(S++(T++D))->r=A++(Tb H6 (S++T)++D)->SY H6 S->SY H6 T->0<S.length->0<T.length->∀(a m b:Int),a=A.length->m=(A.length:Int)+S.length->b=(A.length:Int)+S.length+T.length->l.length<=maxD ->
  aT C 86 [.row 34 (l.map dc),.pv (i64 a),.pv (i64 m),.pv (i64 b),.pv Ts] (.tu []) [.row (r.map dc)]:=by
 intro N
 induction N with
 | zero=>intro A S T D l r h _ _ _ _ h1;omega
 | succ N ih=>
 intro A S T D l r hn hl hr hs ht s0 t0 a m b ha hm hb hN;by_cases s1:S.length=1
 ·obtain⟨x,rfl⟩:=q8.1 s1;exact Uq A T D l r x hl hr ht t0 a m b ha (by simpa using hm) (by simpa using hb) hN
 by_cases t1:T.length=1
 ·obtain⟨x,rfl⟩:=q8.1 t1;exact Un A S D l r x hl hr hs s0 s1 a m b ha hm (by simpa using hb) hN
 have hlen:l.length=A.length+S.length+T.length+D.length:=by rw[hl];simp only[bZ];omega
 have yE:l=(A++S)++(T++D):=by rw[hl];simp
 have lm:=cH l dc;have VL:=hN;unfold maxD at hN;have KO:=E5 (a:=A.length) (b:=A.length+S.length+T.length) (by omega);obtain⟨Tx,V0⟩:∃Tx,Tx=(A.length+(A.length+S.length+T.length)) / 2:=⟨_,rfl⟩;rw[<-V0]at KO;have Vg:(IntKind.u64.wrap (a+b)).fdiv (2 ^ min (Int.toNat 1) IntKind.u64.bits)=(Tx:Int):=by
  rw[<-KO,ha,hb];norm_cast
 refine Mb ⟨[],[],[],[5,17,35],[],[32,41,43]⟩ hC Tryz.func86 rfl (by kernel_rfl) fun _=>?_;refine⟨wO (by omega),iW ?_ ?_⟩<;>intro g0<;>try simp only[zB]at g0
 ·omega
 refine⟨wO (by omega),iW ?_ ?_⟩<;>intro g1<;>try simp only[zB]at g1
 ·omega
 refine⟨wO (by omega),⟨by decide,by decide⟩,⟨by rw[Vg];omega,by rw[Vg];omega⟩,⟨by rw[Vg];omega,by rw[Vg];omega⟩,?_⟩;refine (VM (fun p:Nat×Nat=>A.length<=p.1/\p.1<=p.2/\p.2<=Tx/\p.2<=A.length+S.length/\Tx+S.length<=p.1+S.length+T.length/\(p.1=A.length\/Tx+(A.length+S.length)=p.1+(A.length+S.length+T.length))/\(p.2=Tx\/p.2=A.length+S.length)) (fun p=>[(0,.ow 100000),(1,.p (i64 a)),(2,.p (i64 m)),(3,.p (i64 b)),(4,.p Ts),(18,.p (i64 Tx)),(19,.p (i64 (Tx+m))),(20,.p (i64 p.1)),(21,.p (i64 p.2))]) (fun _=>[(100000,.row 34 (l.map dc))]) (fun ⟨lo,hi⟩ hp t h=>?_) ?_)
 ·obtain⟨p1,p2,p3,p4,p5,p6,p7⟩:=hp;simp only at p1 p2 p3 p4 p5 p6 p7;have cp:((Tx:Int)+m-1)=((Tx+(A.length+S.length)-1:Nat):Int):=by omega
  refine⟨wO (by omega),?_⟩;refine d_ (fun p:Nat×Nat=>lo<=p.1/\p.1<=p.2/\p.2<=hi/\(p.1=lo\/∃u v,S[p.1-A.length-1]?=some u/\T[Tx-p.1]?=some v/\H6 u v=true)/\(p.2=hi\/∃u v,S[p.2-A.length]?=some u/\T[Tx-p.2-1]?=some v/\H6 u v=false)) (fun p=>[(0,.ow 100000),(1,.p (i64 a)),(2,.p (i64 m)),(3,.p (i64 b)),(4,.p Ts),(18,.p (i64 Tx)),(19,.p (i64 (Tx+m))),(20,.p (i64 p.1)),(21,.p (i64 p.2)),(22,.p (i64 (Tx+m-1)))]) (fun _=>[(100000,.row 34 (l.map dc))]) (fun p=>p.2-p.1) (lo,hi) _ (aY.refl _ _) ⟨aC _,p2,aC _,.inl rfl,.inl rfl⟩ ⟨Z,Z,Z,Z,Z,Z,Z,Z,Z,Z,Y⟩ ⟨Z,Y⟩ fun ⟨i,j⟩ mI t h=>?_;obtain⟨q1,q2,q3,q4,q5⟩:=mI;simp only at q1 q2 q3 q4 q5;apply iW<;>intro h1<;>try simp only[zB]at h1
  ·have U5:=E5 (a:=i) (b:=j) (by omega);obtain⟨c,hc⟩:∃c,c=(i+j) / 2:=⟨_,rfl⟩;rw[<-hc]at U5;obtain⟨u,hu⟩:=a8 (l:=S) (i:=c-A.length) (by omega);obtain⟨v,hv⟩:=a8 (l:=T) (i:=Tx-c-1) (by omega);have gu:l[c]?=some u:=by
    have:=UL hl hu;rw[<-this];congr 1;omega
   have gv:l[Tx+(A.length+S.length)-1-c]?=some v:=by
    have:=UL yE hv;rw[<-this,bZ];congr 1;omega
   have b1:=Ql.zQ gu;have b2:=Ql.zQ gv;have iv:(Tx:Int)+m-1-c=((Tx+(A.length+S.length)-1-c:Nat):Int):=by omega
   refine⟨⟨by dsimp only;omega,by dsimp only;omega⟩,⟨by decide,by decide⟩,⟨by dsimp only;rw[U5];omega,by dsimp only;rw[U5];omega⟩,⟨by dsimp only;rw[U5];omega,by dsimp only;rw[U5];omega⟩,⟨by dsimp only;rw[U5];omega,by dsimp only;rw[U5,lm];omega⟩,(dc v),(idx (by dsimp only;rw[U5];exact iv) gv).2,⟨by dsimp only;rw[U5];omega,by dsimp only;rw[U5,lm];omega⟩,(dc u),(idx U5 gu).2,_,_,(Tl v u),iW ?_ ?_⟩<;>intro h2<;>try simp only[zB]at h2
   ·have U4:H6 u v=true:=by
     cases hh:H6 u v with
     | true=>rfl
     | false=>exact absurd ((GN v u).2 hh) (by simpa using h2)
    exact⟨⟨by dsimp only;rw[U5];omega,by dsimp only;rw[U5];omega⟩,(c+1,j),_,aY.refl _ _,⟨by dsimp only;omega,by dsimp only;omega,q3,.inr ⟨u,v,by dsimp only;rw[<-hu];congr 1;omega,by dsimp only;rw[<-hv];congr 1,U4⟩,q5⟩,by dsimp only;omega,⟨rfl,rfl,rfl,rfl,rfl,rfl,rfl,S6 (by dsimp only;rw[U5];omega),Z,Z,Y⟩,⟨Z,Y⟩⟩
   have U4:H6 u v=false:=(GN v u).1 (by simpa using h2);exact⟨(i,c),_,aY.refl _ _,⟨q1,by dsimp only;omega,by dsimp only;omega,q4,.inr ⟨u,v,hu,hv,U4⟩⟩,by dsimp only;omega,⟨rfl,rfl,rfl,rfl,rfl,rfl,rfl,rfl,S6 U5,Z,Y⟩,⟨Z,Y⟩⟩
  have e:j=i:=by omega
  subst e;have part:=VO hs ht (j-A.length) (Tx-j) (by
   rcases q4 with q | ⟨u,v,q⟩
   ·omega
   ·exact .inr (.inr ⟨u,v,q⟩)) (by
   rcases q5 with q | ⟨u,v,q⟩
   ·omega
   exact .inr (.inr ⟨u,v,q⟩))
  refine⟨⟨by dsimp only;omega,by dsimp only;omega⟩,?_⟩;obtain⟨A1,VV⟩:∃A1,A1=S.take (j-A.length):=⟨_,rfl⟩;obtain⟨A2,VW⟩:∃A2,A2=S.drop (j-A.length):=⟨_,rfl⟩;obtain⟨B1,Cp⟩:∃B1,B1=T.take (Tx-j):=⟨_,rfl⟩;obtain⟨B2,s_⟩:∃B2,B2=T.drop (Tx-j):=⟨_,rfl⟩;have eS:S=A1++A2:=by rw[VV,VW,nZ]
  have eT:T=B1++B2:=by rw[Cp,s_,nZ]
  have n1:A1.length=j-A.length:=by rw[VV,cu];omega
  have n2:A2.length=A.length+S.length-j:=by rw[VW,nI];omega
  have n3:B1.length=Tx-j:=by rw[Cp,cu];omega
  have n4:B2.length=T.length-(Tx-j):=by rw[s_,nI]
  have V3:SY H6 A1:=by rw[VV];exact T8 hs _
  have V4:SY H6 A2:=by rw[VW];exact T9 hs _
  have V5:SY H6 B1:=by rw[Cp];exact T8 ht _
  have V6:SY H6 B2:=by rw[s_];exact T9 ht _
  rw[<-VV,<-VW,<-Cp,<-s_]at part;have r3:r=A++(Tb H6 (A1++B1)++(Tb H6 (A2++B2)++D)):=by rw[hr,part];simp
  have l0:l=(A++A1)++(A2++(B1++(B2++D))):=by rw[hl,eS,eT];simp
  obtain⟨d1,e1⟩:∃d1,d1=(A++A1)++(B1++(A2++(B2++D))):=⟨_,rfl⟩;obtain⟨d2,e2⟩:∃d2,d2=A++(Tb H6 (A1++B1)++(A2++(B2++D))):=⟨_,rfl⟩;have m1:d1.length=l.length:=by rw[e1,l0];simp only[bZ];omega
  have m2:d2.length=l.length:=by rw[e2,l0];simp only[bZ,Ql.S4];omega
  have lA:(A++A1).length=j:=by rw[bZ];omega
  have lB:(A++Tb H6 (A1++B1)).length=Tx:=by rw[bZ,Ql.S4,bZ];omega
  refine (VM (fun _:Unit=>True) (fun _=>[(0,.ow 100000),(1,.p (i64 a)),(3,.p (i64 b)),(4,.p Ts),(18,.p (i64 Tx)),(20,.p (i64 j)),(24,.p (i64 (Tx+m-j)))]) (fun _=>[(100000,.row 34 (d1.map dc))]) (fun _ _ t h=>?_) ?_)
  ·refine (VM (fun _:Unit=>True) (fun _=>[(0,.ow 100000),(3,.p (i64 b)),(4,.p Ts),(18,.p (i64 Tx)),(24,.p (i64 (Tx+m-j)))]) (fun _=>[(100000,.row 34 (d2.map dc))]) (fun _ _ t h=>?_) ?_)
   ·apply iW<;>intro k5
    ·apply iW<;>intro k6
     ·refine⟨_,_,(ih (A++Tb H6 (A1++B1)) A2 B2 D d2 r (by omega) (by rw[e2];simp) (by rw[r3];simp) V4 V6 (by omega) (by omega) Tx (Tx+m-j) b (by omega) (by omega) (by omega) (by rw[m2];exact VL)),?_⟩;exact And.intro rfl ⟨Z,Y⟩
     refine⟨rfl,⟨Tg ?_,trivial⟩⟩;have e:B2=[]:=cW (by omega);rw[e2,r3,e,ca,Ql.Tv Tc V4];simp
    refine⟨rfl,⟨Tg ?_,trivial⟩⟩;have e:A2=[]:=cW (by omega);rw[e2,r3,e,aw,aw,Ql.Tv Tc V6]
   apply iW<;>intro k3
   ·apply iW<;>intro k4
    ·exact⟨_,_,(ih A A1 B1 (A2++(B2++D)) d1 d2 (by omega) (by rw[e1];simp) e2 V3 V5 (by omega) (by omega) a j Tx ha (by omega) (by omega) (by rw[m1];exact VL)),(),trivial,⟨Z,Z,Z,Z,Z,Y⟩,⟨Z,Y⟩⟩
    refine⟨(),trivial,⟨Z,Z,Z,Z,Z,Y⟩,⟨Tg ?_,trivial⟩⟩;have e:B1=[]:=cW (by omega);rw[e1,e2,e,ca,Ql.Tv Tc V3];simp
   refine⟨(),trivial,⟨Z,Z,Z,Z,Z,Y⟩,⟨Tg ?_,trivial⟩⟩;have e:A1=[]:=cW (by omega);rw[e1,e2,e,aw,Ql.Tv Tc V5];simp
  apply iW<;>intro k1
  ·apply iW<;>intro k2
   ·exact⟨_,_,(rotate (A++A1) A2 B1 (B2++D) l d1 l0 e1 (by omega) (by omega) j m (Tx+m-j) (by omega) (by omega) (by omega) VL),(),trivial,⟨Z,Z,Z,Z,Z,Z,Z,Y⟩,⟨Z,Y⟩⟩
   refine⟨(),trivial,⟨Z,Z,Z,Z,Z,Z,Z,Y⟩,⟨Tg ?_,trivial⟩⟩;have e:B1=[]:=cW (by omega);rw[e1,l0,e];rfl
  refine⟨(),trivial,⟨Z,Z,Z,Z,Z,Z,Z,Y⟩,⟨Tg ?_,trivial⟩⟩;have e:A2=[]:=cW (by omega);rw[e1,l0,e];rfl
 apply iW<;>intro g2<;>try simp only[zB]at g2
 ·rw[Vg]at g2;exact⟨⟨by rw[Vg];omega,by rw[Vg];omega⟩,(Tx-T.length,Tx),⟨by dsimp only;omega,by dsimp only;omega,by dsimp only;omega,by dsimp only;omega,by dsimp only;omega,by dsimp only;omega,by dsimp only;omega⟩,⟨rfl,rfl,rfl,rfl,rfl,S6 Vg,S6 (by rw[Vg]),S6 (by dsimp only;rw[Vg];omega),S6 Vg,trivial⟩,⟨Z,Y⟩⟩
 rw[Vg]at g2;exact⟨(A.length,A.length+S.length),⟨by dsimp only;omega,by dsimp only;omega,by dsimp only;omega,by dsimp only;omega,by dsimp only;omega,by dsimp only;omega,by dsimp only;omega⟩,⟨rfl,rfl,rfl,rfl,rfl,S6 Vg,S6 (by rw[Vg]),S6 ha,S6 (by dsimp only;omega),trivial⟩,⟨Z,Y⟩⟩
def Vh(w lo hi:Nat)(d:List dQ):Prop:=∀i j u v,lo<=i->i<j->j<hi->i / w=j / w->d[i]?=some u->d[j]?=some v->H6 u v=true
theorem UM{S:List dQ}{q:Nat}(h1:A.length<=q)(h2:q<A.length+S.length):(A++(S++D))[q]?=S[q-A.length]?:=by
 rw[bY h1,bQ (by omega)]
theorem Vi{S:List dQ}{q:Nat}(h2:A.length+S.length<=q):(A++(S++D))[q]?=D[q-A.length-S.length]?:=by
 rw[bY (by omega),bY (by omega)]
theorem U6{S:List dQ}(hs:SY H6 S){i j:Nat}{u v:dQ}(h:i<j)(hu:S[i]?=some u)(hv:S[j]?=some v):H6 u v=true:=by
 have hi:=Ql.zQ hu;have hj:=Ql.zQ hv;have:=oW.1 hs i j hi hj h;rw[aM hi]at hu;rw[aM hj]at hv;injection hu with hu;injection hv with hv;rw[<-hu,<-hv];exact this
variable {k:Nat} {S':List dQ}
theorem Uh{w:Nat}{S:List dQ}(hw:0<w)(hb:Vh w 0 A.length (A++(S++D)))(hA:A.length=w*k)(hl:S'.length=S.length)(hS:S.length<=w)(hs:SY H6 S'):Vh w 0 (A.length+S.length) (A++(S'++D)):=by
 intro i j u v _ F8 hj he hu hv;by_cases h1:j<A.length
 ·refine hb i j u v (bd _) F8 h1 he ?_ ?_
  ·rw[bQ (by omega)]at hu ⊢;exact hu
  rw[bQ (by omega)]at hv ⊢;exact hv
 by_cases h2:i<A.length
 ·exfalso;have e1:i / w<k:=(qN hw).2 (by rw[aR];omega);have e2:k<=j / w:=(Nat.le_div_iff_mul_le hw).2 (by rw[aR];omega);omega
 rw[UM (by omega) (by omega)]at hu hv;exact U6 hs (by omega) hu hv
variable {hi:Nat}
theorem VB{w:Nat}{S:List dQ}(hb:Vh w A.length hi (A++(S++D)))(hl:S'.length=S.length):Vh w (A.length+S.length) hi (A++(S'++D)):=by
 intro i j u v h0 F8 hj he hu hv;refine hb i j u v (by omega) F8 hj he ?_ ?_
 ·rw[Vi (by omega)]at hu ⊢;rw[hl]at hu;exact hu
 rw[Vi (by omega)]at hv ⊢;rw[hl]at hv;exact hv
theorem Ui{w lo:Nat}{S:List dQ}(hw:0<w)(hb:Vh w lo hi (A++(S++D)))(hA:A.length=w*k)(KZ:lo<=A.length)(K0:A.length+S.length<=hi)(hS:S.length<=w):SY H6 S:=by
 refine oW.2 fun i j mI KN F8=>?_;refine hb (A.length+i) (A.length+j) S[i] S[j] (by omega) (by omega) (by omega) ?_ ?_ ?_
 ·rw[hA,UK hw,UK hw,TV (by omega),TV (by omega)]
 ·rw[UM (by omega) (by omega),qZ,aM]
 rw[UM (by omega) (by omega),qZ,aM]
theorem TD{S:List dQ}(h:gp H6 l (A++(S++D)))(hs:gp H6 S S'):gp H6 l (A++(S'++D)):=
 h.trans (gp.app (gp.refl A) (gp.app hs (gp.refl D)))
theorem UN(d:List dQ)(a n:Nat):d=d.take a++((d.drop a).take n++d.drop (a+n)):=by
 rw[<-List.drop_drop,nZ,nZ]
theorem VP{w lo V7 mI:Nat}{d:List dQ}(h:Vh w lo hi d)(h1:lo<=V7)(h2:mI<=hi):Vh w V7 mI d:=fun i j u v h0 F8 hj=>h i j u v (by omega) F8 (by omega)
theorem VC{w:Nat}{d:List dQ}(hb:Vh (2*w) 0 (2*w*k) d)(hr:Vh w (2*w*k) hi d)(hw:0<w)(K0:hi<=2*w*k+w):Vh (2*w) 0 hi d:=by
 intro i j u v _ F8 hj he hu hv;by_cases h1:j<2*w*k
 ·exact hb i j u v (bd _) F8 h1 he hu hv
 by_cases h2:i<2*w*k
 ·exfalso;have e1:i / (2*w)<k:=(qN (by omega)).2 (by rw[aR];omega);have e2:k<=j / (2*w):=(Nat.le_div_iff_mul_le (by omega)).2 (by rw[aR];omega);omega
 refine hr i j u v (by omega) F8 hj ?_ hu hv;have e:2*w*k=w*(2*k):=by rw[aR 2 w,Nat.mul_assoc]
 have f:∀q,2*w*k<=q->q<hi->q / w=2*k:=fun q h3 h4=>by
  have:q=w*(2*k)+(q-2*w*k):=by omega
  rw[this,UK hw,TV (by omega)];rfl
 rw[f i (by omega) (by omega),f j (by omega) hj]
theorem Vp(l:List dQ)(hN:l.length<=maxD):aT C 61 [.row 34 (l.map dc),.pv (i64 l.length),.pv Ts] (.tu []) [.row ((Tb H6 l).map dc)]:=by
 refine fW hC Tryz.func61 rfl (by kernel_rfl) fun _=>?_;have VL:=hN;unfold maxD at hN;refine d_ (fun p:Nat×List dQ=>20*p.1<=l.length/\gp H6 l p.2/\p.2.length=l.length/\Vh 20 0 (20*p.1) p.2) (fun p=>[(0,.ow 100000),(1,.p (i64 l.length)),(2,.p Ts),(6,.p (i64 20)),(7,.p (i64 (20*(p.1:Int)))),(8,.p (i64 (20*(p.1:Int)+20)))]) (fun p=>[(100000,.row 34 (p.2.map dc))]) (fun p=>l.length-20*p.1) (0,l) _ (aY.refl _ _) ⟨bd _,gp.refl _,rfl,fun i j u v _ _ h=>by omega⟩ ⟨Z,Z,Z,Z,Z,Z,Y⟩ ⟨Z,Y⟩ fun ⟨k,d⟩ hi t h=>?_;obtain⟨q1,q2,q3,q4⟩:=hi;simp only at q1 q2 q3 q4;apply iW<;>intro h1<;>try simp only[zB]at h1
 ·have e0:=UN d (20*k) 20;generalize hA:d.take (20*k)=A at e0;generalize hS:(d.drop (20*k)).take 20=S at e0;generalize hD:d.drop (20*k+20)=D at e0;have nA:A.length=20*k:=by rw[<-hA,cu];omega
  have nS:S.length=20:=by rw[<-hS,cu,nI];omega
  subst e0;refine⟨_,_,(insertionSort A S D _ _ rfl rfl (20*(k:Int)) (20*(k:Int)+20) (by omega) (by omega) (by rw[q3];exact VL)),⟨by dsimp only;omega,by dsimp only;omega⟩,(k+1,A++(Tb H6 S++D)),_,aY.refl _ _,⟨by dsimp only;omega,TD q2 (Ql.S0 Tc S).2,?_,?_⟩,by dsimp only;omega,⟨rfl,rfl,rfl,rfl,S6 (by dsimp only;omega),S6 (by dsimp only;omega),trivial⟩,⟨Z,Y⟩⟩
  ·dsimp only;rw[<-q3];simp only[bZ,Ql.S4]
  have:=Uh (k:=k) (by decide) (by rw[nA];exact q4) nA (Ql.S4 S) (by omega) (Ql.S0 Tc S).1;rw[nA,nS]at this;exact this
 have e0:d=d.take (20*k)++(d.drop (20*k)++[]):=by rw[ca,nZ]
 generalize hA:d.take (20*k)=A at e0;generalize hS:d.drop (20*k)=S at e0;have nA:A.length=20*k:=by rw[<-hA,cu];omega
 have nS:S.length=l.length-20*k:=by rw[<-hS,nI,q3]
 subst e0;refine⟨_,_,(insertionSort A S [] _ _ rfl rfl (20*(k:Int)) l.length (by omega) (by omega) (by rw[q3];exact VL)),?_⟩;have b0:=Uh (k:=k) (by decide) (by rw[nA];exact q4) nA (Ql.S4 S) (by omega) (Ql.S0 Tc S).1;have c0:=TD q2 (Ql.S0 Tc S).2;have z0:(A++(Tb H6 S++[])).length=l.length:=by rw[<-q3];simp only[bZ,Ql.S4]
 rw[nA,nS,show 20*k+(l.length-20*k)=l.length by omega]at b0;generalize A++(Tb H6 S++[])=d0 at b0 c0 z0;refine d_ (fun p:Nat×List dQ=>20<=p.1/\gp H6 l p.2/\p.2.length=l.length/\Vh p.1 0 l.length p.2) (fun p=>[(0,.ow 100000),(1,.p (i64 l.length)),(2,.p Ts),(6,.p (i64 p.1))]) (fun p=>[(100000,.row 34 (p.2.map dc))]) (fun p=>l.length-p.1) (20,d0) _ (aY.refl _ _) ⟨aC _,c0,z0,b0⟩ ⟨Z,Z,Z,Z,Y⟩ ⟨Z,Y⟩ fun ⟨w,d⟩ hi t h=>?_;obtain⟨w1,w2,w3,w4⟩:=hi;simp only at w1 w2 w3 w4;apply iW<;>intro h2<;>try simp only[zB]at h2
 ·refine⟨⟨by dsimp only;omega,by dsimp only;omega⟩,?_⟩;refine d_ (fun p:Nat×Nat×List dQ=>p.2.1=2*w*p.1/\p.2.1<=l.length/\gp H6 l p.2.2/\p.2.2.length=l.length/\Vh (2*w) 0 p.2.1 p.2.2/\Vh w p.2.1 l.length p.2.2) (fun p=>[(0,.ow 100000),(1,.p (i64 l.length)),(2,.p Ts),(6,.p (i64 w)),(7,.p (i64 p.2.1)),(8,.p (i64 ((p.2.1:Int)+2*w)))]) (fun p=>[(100000,.row 34 (p.2.2.map dc))]) (fun p=>l.length-p.2.1) (0,0,d) _ (aY.refl _ _) ⟨rfl,Nat.zero_le _,w2,w3,fun i j u v _ _ h=>by dsimp only at h;omega,w4⟩ ⟨rfl,rfl,rfl,rfl,rfl,S6 (by dsimp only;omega),trivial⟩ ⟨Z,Y⟩ fun ⟨k,P,d⟩ hi t h=>?_;obtain⟨hP,p1,p2,p3,p4,p5⟩:=hi;simp only at hP p1 p2 p3 p4 p5;have Wk:P=w*(2*k):=by rw[hP,aR 2 w,Nat.mul_assoc]
  apply iW<;>intro h3<;>try simp only[zB]at h3
  ·have e0:=UN d P w;have e1:=UN (d.drop (P+w)) 0 w;rw[mC,aw,List.drop_zero,cV,List.drop_drop]at e1;rw[e1]at e0;generalize hA:d.take P=A at e0;generalize hS:(d.drop P).take w=S at e0;generalize hT:(d.drop (P+w)).take w=T at e0;generalize hD:d.drop (P+w+w)=D at e0;have nA:A.length=P:=by rw[<-hA,cu];omega
   have nS:S.length=w:=by rw[<-hS,cu,nI];omega
   have nT:T.length=w:=by rw[<-hT,cu,nI];omega
   subst e0;have sS:SY H6 S:=Ui (k:=2*k) (by omega) p5 (by omega) (by omega) (by omega) (by omega);have sT:SY H6 T:=Ui (w:=w) (lo:=P) (hi:=l.length) (A:=A++S) (D:=D) (k:=2*k+1) (by omega) (by rw[gX];exact p5) (by rw[bZ,nA,nS,Nat.mul_succ];omega) (by rw[bZ];omega) (by rw[bZ];omega) (by omega);refine⟨⟨by first | omega | (dsimp only;omega),by first | omega | (dsimp only;omega)⟩,_,_,(UX _ A S T D _ _ (Nat.le_refl _) rfl rfl sS sT (by omega) (by omega) P ((P:Int)+w) ((P:Int)+2*w) (by omega) (by omega) (by omega) (by rw[p3];exact VL)),⟨by first | omega | (dsimp only;omega),by first | omega | (dsimp only;omega)⟩,⟨by first | omega | (dsimp only;omega),by first | omega | (dsimp only;omega)⟩,(k+1,P+2*w,A++(Tb H6 (S++T)++D)),_,aY.refl _ _,⟨by dsimp only;rw[hP,Nat.mul_succ],by dsimp only;omega,TD (by rw[List.append_assoc];exact p2) (Ql.S0 Tc (S++T)).2,?_,?_,?_⟩,by dsimp only;omega,⟨rfl,rfl,rfl,rfl,S6 (by dsimp only;omega),S6 (by dsimp only;omega),trivial⟩,⟨Z,Y⟩⟩
   ·dsimp only;rw[<-p3];simp only[bZ,Ql.S4];omega
   ·have:=Uh (k:=k) (w:=2*w) (A:=A) (S:=S++T) (S':=Tb H6 (S++T)) (D:=D) (by omega) (by rw[nA,gX];exact p4) (by rw[nA];exact hP) (Ql.S4 _) (by rw[bZ];omega) (Ql.S0 Tc (S++T)).1;rw[nA,bZ,nS,nT,<-Nat.two_mul]at this;exact this
   have:=VB (w:=w) (hi:=l.length) (A:=A) (S:=S++T) (S':=Tb H6 (S++T)) (D:=D) (by rw[nA,gX];exact p5) (Ql.S4 _);rw[nA,bZ,nS,nT,<-Nat.two_mul]at this;exact this
  refine⟨⟨by dsimp only;omega,by dsimp only;omega⟩,iW ?_ ?_⟩<;>intro h4<;>try simp only[zB]at h4
  ·have e0:=UN d P w;generalize hA:d.take P=A at e0;generalize hS:(d.drop P).take w=S at e0;generalize hT:d.drop (P+w)=T at e0;rw[<-ca T]at e0;have nA:A.length=P:=by rw[<-hA,cu];omega
   have nS:S.length=w:=by rw[<-hS,cu,nI];omega
   have nT:T.length=l.length-(P+w):=by rw[<-hT,nI,p3]
   subst e0;have sS:SY H6 S:=Ui (k:=2*k) (by omega) p5 (by omega) (by omega) (by omega) (by omega);have sT:SY H6 T:=Ui (w:=w) (lo:=P) (hi:=l.length) (A:=A++S) (D:=[]) (k:=2*k+1) (by omega) (by rw[gX];exact p5) (by rw[bZ,nA,nS,Nat.mul_succ];omega) (by rw[bZ];omega) (by rw[bZ];omega) (by omega);refine⟨_,_,(UX _ A S T [] _ _ (Nat.le_refl _) rfl rfl sS sT (by omega) (by omega) P ((P:Int)+w) l.length (by omega) (by omega) (by omega) (by rw[p3];exact VL)),⟨by first | omega | (dsimp only;omega),by first | omega | (dsimp only;omega)⟩,(2*w,A++(Tb H6 (S++T)++[])),_,aY.refl _ _,⟨by dsimp only;omega,TD (by rw[List.append_assoc];exact p2) (Ql.S0 Tc (S++T)).2,?_,?_⟩,by dsimp only;omega,⟨rfl,rfl,rfl,S6 (by dsimp only;omega),trivial⟩,⟨Z,Y⟩⟩
   ·dsimp only;rw[<-p3];simp only[bZ,Ql.S4];omega
   have:=Uh (k:=k) (w:=2*w) (A:=A) (S:=S++T) (S':=Tb H6 (S++T)) (D:=[]) (by omega) (by rw[nA,gX];exact p4) (by rw[nA];exact hP) (Ql.S4 _) (by rw[bZ];omega) (Ql.S0 Tc (S++T)).1;exact VP this (aC _) (by rw[bZ];omega)
  exact⟨⟨by first | omega | (dsimp only;omega),by first | omega | (dsimp only;omega)⟩,(2*w,d),_,aY.refl _ _,⟨by dsimp only;omega,p2,p3,VC (k:=k) (by rw[<-hP];exact p4) (by rw[<-hP];exact p5) (by omega) (by omega)⟩,by dsimp only;omega,⟨rfl,rfl,rfl,S6 (by dsimp only;omega),trivial⟩,⟨Z,Y⟩⟩
 refine⟨rfl,⟨Tg ?_,trivial⟩⟩;refine (Ql.TL Tc ?_ w2).symm;refine oW.2 fun i j hi hj F8=>?_;exact w4 i j _ _ (bd _) F8 (by omega) (by rw[TV (by omega),TV (by omega)]) (aM hi) (aM hj)
theorem U7(l:List dQ)(hN:l.length<=maxD):aT C 36 [.row 34 (l.map dc),.pv Ts] (.tu []) [.row ((Tb H6 l).map dc)]:=by
 refine fW hC Tryz.func36 rfl (by kernel_rfl) fun _=>?_;have h:=Vp l hN;rw[<-cH l dc]at h;refine⟨_,_,h,?_⟩;exact And.intro rfl ⟨Z,Y⟩
def TA(lot:ByteArray)(panel:Int)(d:dQ):Bool:=decide (d.lot=lot)&&decide (d.panel=panel)
def Uo(l:List dQ)(lot:ByteArray)(panel:Int):List dQ:=Tb H6 (l.filter (TA lot panel))
variable {d:dQ}
theorem T_{i:Nat}{p:dQ->Bool}(hd:l[i]?=some d)(h:p d=false):(l.take (i+1)).filter p=(l.take i).filter p:=by
 rw[bT hd,ry,wy (by simp[h])];simp
theorem UY{i:Nat}{p:dQ->Bool}(hd:l[i]?=some d)(h:p d=true):(l.take (i+1)).filter p=(l.take i).filter p++[d]:=by
 rw[bT hd,ry,wk h];rfl
def Tq(l:List dQ)(lot:ByteArray)(panel:Int):List dQ×Int:=if S8 l=0 then (if jh lot=true then (if pK panel 0 199=true then (Uo l lot panel,0) else ([],1)) else ([],5)) else ([],S8 l)
theorem Vq(h:S8 l=0):l.length<=maxD:=by
 unfold maxD;unfold S8 at h;split at h
 ·cases h
 omega
theorem VI{e:TypeId}(W:List dQ)(d:dQ):AB.row e (W.map dc++[dc d])=AB.row e ((W++[d]).map dc):=by rw[aa];rfl
theorem UZ(l:List dQ)(lot:ByteArray)(panel:Int)(hS:∀d∈l,A7 d.lot)(hN:l.length<=140737488355328)(hl:A7 lot):aT C 15 [.pv (.sl (l.map dc)),.pv (str lot),.pv (i64 panel)] (.tu [.sl ((Tq l lot panel).1.map dc),i64 (Tq l lot panel).2]) []:=by
 refine fW hC Tryz.func15 rfl (by kernel_rfl) fun _=>?_;have hf:=TU l hS hN;have lm:=cH l dc;by_cases h0:S8 l=0
 ·rw[h0]at hf;have hlen:=Vq h0;refine⟨_,_,hf,_,_,(ir lot (by have:lot.size<4294967281:=hl;omega)),iW ?_ ?_⟩<;>intro h1<;>try simp only[zB]at h1
  ·refine⟨?_,trivial⟩;rw[Tq,ae h0,af (by simp[h1])];rfl
  refine⟨_,_,(TF panel),iW ?_ ?_⟩<;>intro h2<;>try simp only[zB]at h2
  ·refine⟨?_,trivial⟩;rw[Tq,ae h0,ae (by simpa using h1),af (by simp[h2])];rfl
  have e:Tq l lot panel=(Uo l lot panel,0):=by rw[Tq,ae h0,ae (by simpa using h1),ae (by simpa using h2)]
  rw[e];unfold maxD at hlen;refine d_ (fun p:Nat×List dQ=>p.1<=l.length/\p.2=(l.take p.1).filter (TA lot panel)/\p.2.length<=p.1) (fun p=>[(1,.p (str lot)),(2,.p (i64 panel)),(9,.ow 9),(23,.p (.sl (l.map dc))),(24,.p (i64 l.length)),(25,.p (i64 p.1))]) (fun p=>[(9,.row 34 (p.2.map dc))]) (fun p=>l.length-p.1) (0,[]) _ (aY.EH hC _ 9 34 _ (by decide) rfl rfl (by decide)) ⟨bd _,rfl,aC _⟩ ⟨rfl,rfl,rfl,rfl,qU (fun n:Nat=>AV.p (i64 n)) lm,Z,Y⟩ ⟨Z,Y⟩ fun ⟨i,W⟩ hi t h=>?_;obtain⟨q1,q2,q3⟩:=hi;simp only at q1 q2 q3;apply iW<;>intro h3<;>try simp only[zB]at h3
  ·obtain⟨d,hd⟩:=a8 (l:=l) (i:=i) (by omega);refine⟨(dc d),(idx rfl hd),iW ?_ ?_⟩<;>intro h4<;>try simp only[zB]at h4
   ·apply iW<;>intro h5<;>try simp only[zB]at h5
    ·have hk:TA lot panel d=true:=by simp_all [TA]
     exact⟨⟨fun r hr=>by simp at hr;subst hr;rfl,by simp only[List.length_append,List.length_map,List.length_set,List.length_replicate];omega,by simp only[List.length_append,List.length_map,List.length_set,List.length_replicate];omega⟩,⟨by dsimp only;omega,by dsimp only;omega⟩,(i+1,W++[d]),_,aY.refl _ _,⟨by dsimp only;omega,by dsimp only;rw[UY hd hk,q2],by dsimp only;rw[List.length_append,List.length_singleton];omega⟩,by dsimp only;omega,⟨Z,Z,Z,Z,Z,Z,Y⟩,⟨VI W d,trivial⟩⟩
    have hk:TA lot panel d=false:=by simp_all [TA]
    exact⟨⟨by dsimp only;omega,by dsimp only;omega⟩,(i+1,W),_,aY.refl _ _,⟨by dsimp only;omega,by dsimp only;rw[T_ hd hk,q2],by dsimp only;omega⟩,by dsimp only;omega,⟨Z,Z,Z,Z,Z,Z,Y⟩,⟨Z,Y⟩⟩
   have hk:TA lot panel d=false:=by simp_all [TA]
   exact⟨⟨by dsimp only;omega,by dsimp only;omega⟩,(i+1,W),_,aY.refl _ _,⟨by dsimp only;omega,by dsimp only;rw[T_ hd hk,q2],by dsimp only;omega⟩,by dsimp only;omega,⟨Z,Z,Z,Z,Z,Z,Y⟩,⟨Z,Y⟩⟩
  have e1:i=l.length:=by omega
  have e2:W=l.filter (TA lot panel):=by rw[q2,e1,Tn]
  refine⟨_,_,(U7 W (by unfold maxD;omega)),?_,trivial⟩;rw[Uo,<-e2];rfl
 have e:Tq l lot panel=([],S8 l):=by rw[Tq,af h0]
 rw[e];refine⟨_,_,hf,iW ?_ ?_⟩<;>intro h1<;>try simp only[zB]at h1
 ·refine⟨?_,trivial⟩;rfl
 exact absurd (by simpa using h1) h0
variable {α:Type}
theorem TW{l:List α}{f:α->Int}(h:∀(i:Nat) a b,l[i]?=some a->l[i+1]?=some b->f a<f b):∀(k i:Nat) a b,l[i]?=some a->l[i+1+k]?=some b->f a<f b
 | 0,i,a,b,ha,hb=>h i a b ha hb
 | k+1,i,a,b,ha,hb=>by
  obtain⟨c,hc⟩:=a8 (l:=l) (i:=i+1+k) (by have:=ah hb;omega);have h1:=TW h k i a c ha hc;have h2:=h (i+1+k) c b hc hb;omega
theorem VD{l:List α}{f:α->Int}(h:∀(i:Nat) a b,l[i]?=some a->l[i+1]?=some b->f a<f b){a b:α}(ha:a∈l)(hb:b∈l)(e:f a=f b):a=b:=by
 obtain⟨i,hi⟩:=cf.1 ha;obtain⟨k,hk⟩:=cf.1 hb;rcases gC i k with h1 | h1 | h1
 ·have:=TW h (k-i-1) i a b hi (by rw[show i+1+(k-i-1)=k by omega];exact hk);omega
 ·subst h1;rw[hi]at hk;injection hk
 have:=TW h (i-k-1) k b a hk (by rw[show k+1+(i-k-1)=i by omega];exact hi);omega
theorem VJ{l:List α}{f:α->Int}(h:∀(i:Nat) a b,l[i]?=some a->l[i+1]?=some b->f a<f b):l.Pairwise fun a b=>f a<f b:=by
 rw[oW];intro i k hi hk dv;exact TW h (k-i-1) i _ _ (aM hi) (by rw[show i+1+(k-i-1)=k by omega];exact aM hk)
theorem VF{tr:List dQ}{p:ByteArray×Int}(hp:(iO D).Perm D)(e:D.filter (TX p)=tr)(h:∀(i:Nat) a b,tr[i]?=some a->tr[i+1]?=some b->a.from_<b.from_):Uo (iO D) p.1 p.2=tr:=by
 have hs:=(sV D).2;have h1:((iO D).filter (TA p.1 p.2)).Pairwise fun a b=>H6 a b=true:=hs.filter _;rw[Uo,Ql.Tv Tc h1];have h2:((iO D).filter (TA p.1 p.2)).Perm tr:=by rw[<-e];exact hp.filter _
 refine List.Perm.eq_of_pairwise (le:=fun a b=>H6 a b=true) (fun a b ha hb h3 h4=>?_) h1 ((VJ h).imp fun Mm=>by simp only[H6,dS];omega) h2;refine VD h (h2.mem_iff.1 ha) hb ?_;simp only[H6,dS]at h3 h4;omega
theorem count_le{B:Nat}:∀{K:List (ByteArray×Int)} {l:List dQ},(∀d∈l,(d.lot,d.panel)∈K)->(∀p∈K,(l.filter (TX p)).length<=B)->l.length<=B*K.length
 | [],[],_,_=>bd _
 | [],d::l,h,_=>by have:=h d dJ;cases this
 | p::K,l,h,hB=>by
  have ih:=count_le (B:=B) (K:=K) (l:=l.filter fun d=>!TX p d) (fun d hd=>by
   rw[ib]at hd;rcases fL.1 (h d hd.1) with e | e
   ·have:=(Uf p d).2 e;rw[this]at hd;cases hd.2
   ·exact e) fun q hq=>by
   have h1:=hB q (An _ hq);have h2:((l.filter fun d=>!TX p d).filter (TX q)).length<=(l.filter (TX q)).length:=by
    rw[List.filter_filter];have e:(l.filter fun d=>TX q d&&!TX p d)=(l.filter (TX q)).filter (fun d=>!TX p d):=by
     rw[List.filter_filter];congr 1;funext d;exact Bool.and_comm _ _
    rw[e];exact ij _ _
   omega
  have h1:=hB p dJ;have h2:l.length=(l.filter (TX p)).length+(l.filter fun d=>!TX p d).length:=by
   clear ih h1 h hB
   induction l with
   | nil=>rfl
   | cons d l ih=>
    simp only[fT];cases TX p d<;>simp<;>omega
  rw[cD,Nat.mul_succ];omega
variable {s:List gI}
theorem VG{l:List Lt}{b:List Fl}(h1:cz s=0)(h2:cA l=0):(pW s l b).done.length<=3600000:=by
 obtain⟨hk,ht⟩:=UJ (b:=b) h1 h2;obtain⟨s1,s2⟩:=o5 h1;obtain⟨l1,l2,l3⟩:=oZ h2;have hR:=Fm (b:=b) h1 h2;have hc:=count_le (B:=6*s.length) hk fun p hp=>by
  rw[<-hR.ks]at hp;obtain⟨m,hm,rfl⟩:=aV.1 hp;obtain⟨j,hj,rfl⟩:=aV.1 hm;obtain⟨n,hn⟩:=cf.1 hj;exact (ht n j hn).2.1
 have hl:=CX l;have hs:=wH (l:=l) (fun x hx=>(l3 x hx).2.1.2) l.length;rw[Tn,yo,<-hl]at hs;have:6*s.length*(fZ l).length<=180*20000:=Nat.mul_le_mul (by omega) (by omega);omega
theorem Ua{l:List Lt}{b:List Fl}(h1:cz s=0)(h2:cA l=0):S8 (iO (pW s l b).done)=0/\(∀d∈iO (pW s l b).done,A7 d.lot):=by
 obtain⟨hp,_⟩:=sV (pW s l b).done;obtain⟨hk,_⟩:=UJ (b:=b) h1 h2;obtain⟨l1,l2,l3⟩:=oZ h2;obtain⟨s1,s2⟩:=o5 h1;have hR:=Fm (b:=b) h1 h2;have word:∀d∈iO (pW s l b).done,jh d.lot=true/\0<=d.panel/\d.panel<=199:=fun d hd=>by
  obtain⟨x,hx,e1,e2,e3⟩:=pX (hk d (hp.mem_iff.1 hd));simp only at e1 e2 e3;obtain⟨w1,w2,_⟩:=l3 x hx;exact⟨by rw[e1];exact w1,e2,by omega⟩
 refine⟨?_,fun d hd=>?_⟩
 ·have hlen:=VG (b:=b) h1 h2;rw[S8,af (by rw[hp.length_eq];omega)];refine Vf fun d hd=>?_;obtain⟨w1,w2,w3⟩:=word d hd;obtain⟨k,m,t,c1,c2,c3,c4,c5,c6,c7⟩:=hR.d1 d hd;have:=(s2 k t c2).2.1;rw[S_,ae w1,ae ⟨by rw[pK];simp;omega,by omega,by omega,c7,by omega⟩,af (by omega)]
 have:=(word d hd).1;rw[jh]at this;simp only[qK,dS]at this;unfold A7;omega
structure VQ(s:List gI)(m:Made)(tr:List dQ):Prop where
 ok:Vn s tr
 st:∀d∈tr,∃(k:Nat) (t:gI),d.step=k/\s[k]?=some t
 len:tr.length<=6*s.length
 last:∃a,tr.getLast?=some a/\a.till=m.at_/\(m.done=true/\a.good=true/\a.step+1=s.length/\(Tp tr:Int)=m.rework\/m.done=false/\a.good=false/\(Tp tr:Int)=m.rework+1)
theorem Vr{l:List Lt}{b:List Fl}(h1:cz s=0)(h2:cA l=0){n:Nat}{m:Made}(hm:((pW s l b).jobs.map lH.made)[n]?=some m):∃tr,Tq (iO (pW s l b).done) m.lot m.panel=(tr,0)/\VQ s m tr/\A7 m.lot:=by
 obtain⟨hp,_⟩:=sV (pW s l b).done;obtain⟨hk,ht⟩:=UJ (b:=b) h1 h2;obtain⟨l1,l2,l3⟩:=oZ h2;obtain⟨s1,s2⟩:=o5 h1;have hR:=Fm (b:=b) h1 h2;rw[ao]at hm;obtain⟨j,hj,rfl⟩:=az.1 hm;obtain⟨t1,t2⟩:=ht n j hj;have dq:(j.made.lot,j.made.panel)∈fZ l:=by
  rw[<-hR.ks,aV];exact⟨j.made,aV.2 ⟨j,aj hj,rfl⟩,rfl⟩
 obtain⟨x,hx,e1,e2,e3⟩:=pX dq;simp only at e1 e2 e3;obtain⟨w1,w2,_⟩:=l3 x hx;have P7:∀d∈(pW s l b).done.filter (TX (j.made.lot,j.made.panel)),∃(k:Nat) (t:gI),d.step=k/\s[k]?=some t/\d.till=d.from_+t.minutes:=fun d hd=>by
  obtain⟨k,m,t,c1,c2,c3,c4,c5,_⟩:=hR.d1 d (hp.mem_iff.2 (ib.1 hd).1);exact⟨k,t,c1,c2,c5⟩
 have hw:jh j.made.lot=true:=by rw[e1];exact w1
 refine⟨_,?_,⟨t1,fun d hd=>?_,t2.1,t2.2⟩,?_⟩
 ·rw[Tq,ae (Ua h1 h2).1,ae hw,ae (by rw[pK];simp;omega)];refine qU (fun t=>(t,(0:Int))) (VF (p:=(j.made.lot,j.made.panel)) hp rfl fun i a b ha hb=>?_);obtain⟨k,t,_,c2,c3⟩:=P7 a (aj ha);have:=(s2 k t c2).2.1;have:=(t1.adj i a b ha hb).1;omega
 ·obtain⟨k,t,c1,c2,_⟩:=P7 d hd;exact⟨k,t,c1,c2⟩
 rw[jh]at hw;simp only[qK,dS]at hw;unfold A7;omega
theorem UO{i:Nat}(h:l[i]?=some d)(hg:d.good=true):Tp (l.take (i+1))=Tp (l.take i):=by
 rw[bT h,TY,ae hg];rfl
theorem U8{i:Nat}(h:l[i]?=some d)(hg:d.good=false):Tp (l.take (i+1))=Tp (l.take i)+1:=by
 rw[bT h,TY,af (by rw[hg];decide)]
theorem U0(l:List dQ):Tp l<=l.length:=ij _ _
theorem U9(s:List gI)(l:List Lt)(b:List Fl)(n:Int)(hS:∀x∈s,x.name.size<4294967281)(hL:∀x∈l,x.name.size<4294967281)(hs:s.length<=140737488355328)(hl:l.length<=140737488355328)(hb:b.length<=140737488355328):aT C 5 [.pv (.sl (s.map gq)),.pv (.sl (l.map jK)),.pv (.sl (b.map CJ)),.pv (i64 n)] (.p (bool true)) []:=by
 refine fW hC Tryz.func5 rfl (by kernel_rfl) fun _=>?_;have hf:=Ag s l b hS hL hs hl hb;rcases yn s l b with⟨c,hc,e⟩ | ⟨h1,h2,h3,e⟩
 ·rw[e]at hf;refine⟨_,_,hf,iW ?_ ?_⟩<;>intro g1<;>try simp only[zB]at g1
  ·apply iW<;>intro g2<;>try simp only[zB]at g2
   ·refine⟨_,_,uP,?_,trivial⟩;rfl
   refine⟨_,_,uP,?_,trivial⟩;rfl
  exact absurd (by simpa using g1) hc
 rw[e]at hf;have hR:=Fm (b:=b) h1 h2;have hT:=fun (k:Nat) (m:Made) hm=>Vr (b:=b) (n:=k) (m:=m) h1 h2 hm;obtain⟨P7,PE⟩:=Ua (b:=b) h1 h2;obtain⟨l1,l2,l3⟩:=oZ h2;obtain⟨s1,s2⟩:=o5 h1;generalize iO (pW s l b).done=D at hf hR hT P7 PE;generalize (pW s l b).jobs.map lH.made=M at hf hR hT;obtain⟨r1,r2,r3,r4⟩:=hR;have ld:=cH D dc;have SO:=cH M mc;have ls:=cH s gq;refine⟨_,_,hf,iW ?_ ?_⟩<;>intro g1<;>try simp only[zB]at g1
 ·refine⟨_,_,uP,?_,trivial⟩;rfl
 apply iW<;>intro g2<;>try simp only[zB]at g2
 ·refine⟨_,_,uP,?_,trivial⟩;rfl
 obtain⟨n,rfl⟩:∃k:Nat,n=k:=⟨n.toNat,by omega⟩;obtain⟨m,hm⟩:=a8 (l:=M) (i:=n) (by omega);obtain⟨tr,e2,T,Wf⟩:=hT n m hm;have ht:=UZ D m.lot m.panel PE (by omega) Wf;rw[e2]at ht;refine⟨(mc m),(idx rfl hm),(mc m),(idx rfl hm),_,_,ht,?_⟩;have hlen:tr.length<=180:=bM T.len (by omega);obtain⟨z,hz,z1,z2⟩:=T.last;have bO:tr.length≠0:=fun e0=>by
  rw[List.length_eq_zero_iff]at e0;rw[e0]at hz;cases hz
 have Wl:=cH tr dc;apply iW<;>intro g3<;>try simp only[zB]at g3
 ·omega
 refine d_ (fun i:Nat=>i<=tr.length) (fun i=>[(0,.p (.sl (s.map gq))),(3,.p (i64 n)),(10,.p (.sl (M.map mc))),(12,.p (.sl (tr.map dc))),(13,.p (i64 (Tp (tr.take i)))),(14,.p (i64 i))]) (fun _=>[]) (fun i=>tr.length-i) 0 _ (aY.refl _ _) (bd _) ⟨Z,Z,Z,Z,Z,Z,Y⟩ trivial fun i hi t h=>?_;apply iW<;>intro g4<;>try simp only[zB]at g4
 ·obtain⟨d,hd⟩:=a8 (l:=tr) (i:=i) (by omega);have Wg:=U0 (tr.take i);rw[cu]at Wg;refine⟨(dc d),(idx rfl hd),iW ?_ ?_⟩<;>intro hg<;>try simp only[zB]at hg
  ·refine⟨And.intro (by omega) (by omega),iW ?_ ?_⟩<;>intro a1<;>try simp only[zB]at a1
   ·obtain⟨p,hp⟩:=a8 (l:=tr) (i:=i-1) (by omega);obtain⟨j1,j2⟩:=T.ok.adj (i-1) p d hp (by rw[show i-1+1=i by omega];exact hd);obtain⟨k,u,q1,q2⟩:=T.st p (aj hp);have lk:=ah q2;have Vs:((i:Int)-1)=((i-1:Nat):Int):=by omega
    refine⟨(dc d),(idx rfl hd),And.intro (by omega) (by omega),(dc p),(idx Vs hp),iW ?_ ?_⟩<;>intro a2<;>try simp only[zB]at a2
    ·omega
    refine⟨And.intro (by omega) (by omega),(dc p),(idx Vs hp),iW ?_ ?_⟩<;>intro a3<;>try simp only[zB]at a3
    ·have j3:d.step=p.step+1:=by rw[j2,TJ,ae a3]
     refine⟨(dc d),(idx rfl hd),And.intro (by omega) (by omega),(dc p),(idx Vs hp),And.intro (by omega) (by omega),iW ?_ ?_⟩<;>intro a4<;>try simp only[zB]at a4
     ·exact absurd j3 a4
     refine⟨And.intro (by omega) (by omega),(dc p),(idx Vs hp),iW ?_ ?_⟩<;>intro a5<;>try simp only[zB]at a5
     ·simp_all
     exact⟨And.intro (by omega) (by omega),(i+1),_,aY.refl _ _,by omega,by omega,⟨rfl,rfl,rfl,rfl,kv (by rw[U8 hd hg];omega),Z,Y⟩,trivial⟩
    have j3:d.step=u.back:=by
     rw[j2,TJ,af (by simp[a3]),q1,wh,q2]
    refine⟨And.intro (by omega) (by omega),(dc p),(idx Vs hp),iW ?_ ?_⟩<;>intro a5<;>try simp only[zB]at a5
    ·refine⟨(dc d),(idx rfl hd),And.intro (by omega) (by omega),(dc p),(idx Vs hp),(gq u),(idx q1 q2),iW ?_ ?_⟩<;>intro a6<;>try simp only[zB]at a6
     ·exact absurd j3 a6
     exact⟨And.intro (by omega) (by omega),(i+1),_,aY.refl _ _,by omega,by omega,⟨rfl,rfl,rfl,rfl,kv (by rw[U8 hd hg];omega),Z,Y⟩,trivial⟩
    simp_all
   exact⟨And.intro (by omega) (by omega),(i+1),_,aY.refl _ _,by omega,by omega,⟨rfl,rfl,rfl,rfl,kv (by rw[U8 hd hg];omega),Z,Y⟩,trivial⟩
  apply iW<;>intro a1<;>try simp only[zB]at a1
  ·obtain⟨p,hp⟩:=a8 (l:=tr) (i:=i-1) (by omega);obtain⟨j1,j2⟩:=T.ok.adj (i-1) p d hp (by rw[show i-1+1=i by omega];exact hd);obtain⟨k,u,q1,q2⟩:=T.st p (aj hp);have lk:=ah q2;have Vs:((i:Int)-1)=((i-1:Nat):Int):=by omega
   refine⟨(dc d),(idx rfl hd),And.intro (by omega) (by omega),(dc p),(idx Vs hp),iW ?_ ?_⟩<;>intro a2<;>try simp only[zB]at a2
   ·omega
   refine⟨And.intro (by omega) (by omega),(dc p),(idx Vs hp),iW ?_ ?_⟩<;>intro a3<;>try simp only[zB]at a3
   ·have j3:d.step=p.step+1:=by rw[j2,TJ,ae a3]
    refine⟨(dc d),(idx rfl hd),And.intro (by omega) (by omega),(dc p),(idx Vs hp),And.intro (by omega) (by omega),iW ?_ ?_⟩<;>intro a4<;>try simp only[zB]at a4
    ·exact absurd j3 a4
    refine⟨And.intro (by omega) (by omega),(dc p),(idx Vs hp),iW ?_ ?_⟩<;>intro a5<;>try simp only[zB]at a5
    ·simp_all
    exact⟨And.intro (by omega) (by omega),(i+1),_,aY.refl _ _,by omega,by omega,⟨rfl,rfl,rfl,rfl,kv (by rw[UO hd hg]),Z,Y⟩,trivial⟩
   have j3:d.step=u.back:=by
    rw[j2,TJ,af (by simp[a3]),q1,wh,q2]
   refine⟨And.intro (by omega) (by omega),(dc p),(idx Vs hp),iW ?_ ?_⟩<;>intro a5<;>try simp only[zB]at a5
   ·refine⟨(dc d),(idx rfl hd),And.intro (by omega) (by omega),(dc p),(idx Vs hp),(gq u),(idx q1 q2),iW ?_ ?_⟩<;>intro a6<;>try simp only[zB]at a6
    ·exact absurd j3 a6
    exact⟨And.intro (by omega) (by omega),(i+1),_,aY.refl _ _,by omega,by omega,⟨rfl,rfl,rfl,rfl,kv (by rw[UO hd hg]),Z,Y⟩,trivial⟩
   simp_all
  exact⟨And.intro (by omega) (by omega),(i+1),_,aY.refl _ _,by omega,by omega,⟨rfl,rfl,rfl,rfl,kv (by rw[UO hd hg]),Z,Y⟩,trivial⟩
 have hit:i=tr.length:=by omega
 subst hit;rw[Tn];have Kl:tr[tr.length-1]?=some z:=by rw[<-Vc];exact hz
 obtain⟨d0,V8⟩:=a8 (l:=tr) (i:=0) (by omega);have wL:=T.ok.h0 d0 V8;have Q4:=U0 tr;refine⟨And.intro (by omega) (by omega),(dc z),(idx (by omega) Kl),(dc d0),(idx rfl V8),iW ?_ ?_⟩<;>intro b1<;>try simp only[zB]at b1
 ·exact absurd wL b1
 refine⟨(mc m),(idx rfl hm),iW ?_ ?_⟩<;>intro b2<;>try simp only[zB]at b2
 ·exact absurd z1 b2
 have PX:=ah hm;refine⟨(mc m),(idx rfl hm),?_⟩;rcases z2 with⟨y1,y2,y3,y4⟩ | ⟨y1,y2,y3⟩
 ·apply iW<;>intro b3<;>try simp only[zB]at b3
  ·refine⟨And.intro (by omega) (by omega),iW ?_ ?_⟩<;>intro b4<;>try simp only[zB]at b4
   ·exact absurd (by rw[y1,eq_comm,dS,ls];omega) b4
   refine⟨(mc m),(idx rfl hm),iW ?_ ?_⟩<;>intro b5<;>try simp only[zB]at b5
   ·refine⟨(mc m),(idx rfl hm),iW ?_ ?_⟩<;>intro b6<;>try simp only[zB]at b6
    ·refine⟨_,_,uP,?_,trivial⟩;rfl
    exact absurd y4 b6
   simp_all
  simp_all
 apply iW<;>intro b3<;>try simp only[zB]at b3
 ·simp_all
 apply iW<;>intro b4<;>try simp only[zB]at b4
 ·simp_all
 refine⟨(mc m),(idx rfl hm),iW ?_ ?_⟩<;>intro b5<;>try simp only[zB]at b5
 ·simp_all
 apply iW<;>intro b6<;>try simp only[zB]at b6
 ·refine⟨(mc m),(idx rfl hm),And.intro (by omega) (by omega),iW ?_ ?_⟩<;>intro b7<;>try simp only[zB]at b7
  ·refine⟨_,_,uP,?_,trivial⟩;rfl
  exact absurd y3 b7
 simp_all
end M
end Go.Proofs.YtedjhhieekileaaGreatDoor
namespace Go.Proofs.YtedjhhieekileaaGreatDoor
open Go.ChangeShapes Go.WideShapes Go.ChangeAt Go.RowKit Go.AM
open Go.ChangeMaps (open_string shut_string)
open Go.Proofs.YtedjhhieekileaaGreatDoor.M
namespace houseFlowsFollowSteps
theorem s8{P:Program}{f:FuncId}{fn:Func}{s:ChangeSpec}{c:OpenClaim}(J2:(laidOutB P)=true)(Hh:(mapsRowed P)=true)(J3:((c.inPlace==P.inPlace f))=true)(MJ:((c.unfollowed==P.unfollowed f))=true)(ML:((c.recurses==P.recurses f))=true)(Hi:((c.named==P.varsNamed f))=true)(MM:((c.plainKeys==P.plainKeys))=true)(Hj:(P.stopsHeard)=true)(Hk:(P.mayEnter)=true)(J4:((c.lifted==P.liftsFinal))=true)(J5:((P.make==some c.make))=true)
  (h_rest:(c.wf (OpenSpec.ofChange s)&&true&&fn.params.all (P.readableRec ·)&&namedTie P c.named s.vars&&(c.stops==[])&&(P.stops==[])&&(c.knobs==[])&&(P.stopKnobs==[])&&true&&(c.maps==(fn.params.toList++s.plain.varTypes P).any (P.mapsRec ·))&&(c.ifaces==(fn.params.toList++s.plain.varTypes P).any (P.ifacesRec ·))&&(c.mapsOut==P.mapsAmong fn.resultTypes.toList)&&(c.loops==(fn.params.toList++s.plain.varTypes P).any (P.loopsFrom ·))&&(c.wideKeys==(fn.params.toList++s.plain.varTypes P++fn.resultTypes.toList).any (P.wideKeysFrom ·))&&s.vars.all (P.varReadable ·)&&fn.resultTypes.all (fun t=>P.readableRec t&&decide (t<P.types.size))&&(c.ifacesOut==fn.resultTypes.toList.any (P.ifacesRec ·))&&(c.loopsOut==fn.resultTypes.toList.any (P.loopsFrom ·))&&c.shortTexts.isNone&&(c.kinds==(if c.domain.isEmpty then [] else fn.params.toList.map fun t=>match P.underlying t with | some (.int k)=>some k | _=>none))&&(c.pinned==c.pinnedBy)&&(c.veiled==(fn.params.toList++s.plain.varTypes P++fn.resultTypes.toList).any (P.veiledRec ·))&&c.veiledFits P fn.params.toList (fn.params.toList++s.plain.varTypes P++fn.resultTypes.toList))=true):joinedFacts P f fn s c=true:=by
 simp only[qK]at h_rest;simp only[joinedFacts,qK];simp only[J2,Hh,J3,MJ,ML,Hi,MM,Hj,Hk,J4,J5,and_true];simp only[and_assoc,and_true]at h_rest ⊢;exact h_rest
theorem J6{W:World}(hL:laidMetH Tryz.prog Rows.houseFlowsFollowStepsUptoRow.laid W)(h:W.ShapedOpen Tryz.prog):M.Env (fun b=>b<W.heap.size) W:=by
 refine x_ (Go.Proofs.cell_of_shapedOpen_int (zero:=#[.int .i64 0]) (t:=3) h (ko (by kernel_rfl)) (by kernel_rfl) rfl (by kernel_rfl) (by kernel_rfl) oD) ?_;rw[MakeChecks.laidMetH_plain _ _ _ (by kernel_rfl)]at hL;exact Lib.tabIs_of_head (rest:=Rows.houseFlowsFollowStepsUptoRow.laid.drop 3) M.Js (by kernel_rfl) wg fU (by kernel_rfl) (by kernel_rfl) (laidMet.tail (laidMet.tail hL))
theorem Fq(H:Type)(enc:TypeId×Value->H)(W:World)(base:Nat)(args:Array Value)(ds gs:List (DataW H))(before:List MemPlace)
  (hval:∀(j:Nat) t v,Tryz.f5.params[j]?=some t->args[j]?=some v->Value.okWide Tryz.prog W .any base t v)
  (hW:DataW.Whole enc Tryz.prog Tryz.f5.params.toList Rows.houseFlowsFollowStepsSpec.vars false W args.toList ds gs before) (hk:Rows.uptoSmall H (ds++gs)=true) (hE:M.Env (fun b=>b<W.heap.size) W):
  Calls Tryz.prog 5 args W fun e W'=>∃v,e=.returned v/\Rows.houseFlowsFollowStepsSpec.post enc Tryz.prog Tryz.f5 false true false false W args v W':=by
 have Sk:=hW;obtain⟨pp,q,Sl,hV,rfl,wU,Fz⟩:=hW;have hA:DataW.TrodAll enc Tryz.prog W 0 (fun _=>true) true Tryz.f5.params.toList args.toList ds pp:=Sl;have again:=fun (W':World) (hb:Below W.heap.size W W')=>uI MA hb (by kernel_rfl) hA hA.lt;rw[Tryz.params5]at hA hval;obtain⟨v0,SP,d0,SQ,p0,q0,hargs,rfl,Ph,h0,r0⟩:=trodAll_cons hA;obtain⟨v1,SR,d1,SS,p1,q1,rfl,rfl,rfl,h1,r1⟩:=trodAll_cons r0;obtain⟨v2,SU,d2,SV,p2,q2,rfl,rfl,rfl,h2,r2⟩:=trodAll_cons r1;obtain⟨v3,Wm,d3,Wn,p3,q3,rfl,rfl,rfl,h3,r3⟩:=trodAll_cons r2;obtain⟨rfl,rfl,rfl⟩:=trodAll_nil r3;obtain rfl:args=#[v0,v1,v2,v3]:=by cases args;simp_all
 obtain⟨rfl,rfl⟩:=trodVars_none hV;obtain⟨_,w0,s,e0,z0⟩:=pR (S:=fun b=>b<W.heap.size) Tryz.underlying22 (G4 fun _ h=>h) (hval 0 22 v0 rfl rfl) h0;cases e0;have QF:Fb s:=G5 (wC hk (l_ _ (by repeat (first | exact dJ .. | apply An)))) z0;obtain⟨_,w1,l,e1,z1⟩:=pR (S:=fun b=>b<W.heap.size) Tryz.underlying23 (JO fun _ h=>h) (hval 1 23 v1 rfl rfl) h1;cases e1;have QG:Ig l:=JQ (wC hk (l_ _ (by repeat (first | exact dJ .. | apply An)))) z1;obtain⟨_,w2,b,e2,z2⟩:=pR (S:=fun b=>b<W.heap.size) Tryz.underlying24 (JP fun _ h=>h) (hval 2 24 v2 rfl rfl) h2;cases e2;have Sm:Ih b:=JR (wC hk (l_ _ (by repeat (first | exact dJ .. | apply An)))) z2;obtain⟨n,rfl,rfl,rfl,w3⟩:=open_int oD (hval 3 3 v3 rfl rfl) h3;refine (JL (C:=C) (xs:=[.sl (s.map gq),.sl (l.map jK),.sl (b.map CJ),i64 n]) (y:=.bool true) (U9 s l b n QF.1 QG.1 QF.2 QG.2 Sm.2) hE (pS (w0) (pS (w1) (pS (w2) (pS (.im _) E_))))).mono fun e W' ⟨he,hb⟩=>?_;subst he;exact⟨_,rfl,tG (pa:=pp) (pv:=[]) Sk (fun _ _ _=>trodAll_cons_mk (shut_bool rl _) trodAll_mk0) (fun sp h=>again W' hb sp (fun p hp=>h p (l_ _ hp))) (fun _ _=>rfl) rfl
  hb (ok_one (by kernel_rfl) rfl (okWide_bool_mk rl _))⟩
theorem reads(os:Os){H:Type}(enc:TypeId×Value->H):∃places,DataW.whole enc Tryz.prog ((World.laidAll Tryz.prog os Rows.houseFlowsFollowStepsUptoRow.laid).forCall (fun _ _=>0) ⟨#[],#[.slice none 0 0,.slice none 0 0,.slice none 0 0,.int .i64 0],[]⟩).memory Tryz.f5.params.toList Rows.houseFlowsFollowStepsSpec.vars false (#[.slice none 0 0,.slice none 0 0,.slice none 0 0,.int .i64 0]:Array Value).toList 8=some ([.nil,.nil,.nil,.lit (.int .i64 0)],[],places):=
 ⟨[],by kernel_rfl⟩
theorem lifted(os:Os)(started:os.Started)(H:Type)(enc:TypeId×Value->H)(F:Stop.Interp):
  ReturnsInHanded {} Tryz.checked os 5 .any ((Rows.OpenSpec.upto Rows.houseFlowsFollowStepsSpec).preRow enc Tryz.prog Tryz.f5 Rows.houseFlowsFollowStepsUptoRow.domain false Rows.houseFlowsFollowStepsUptoRow.laid) (((Rows.OpenSpec.upto Rows.houseFlowsFollowStepsSpec).at F).post enc Tryz.prog Tryz.f5 false true false false):=by
 obtain⟨places,hx⟩:=reads os enc;refine returnsInHanded_of_row (C:=Tryz.checked) (s:=Rows.OpenSpec.upto Rows.houseFlowsFollowStepsSpec) own started (by kernel_rfl) Tryz.func5
  (qG (enc:=enc) (C:=Tryz.checked) (World.laidAll Tryz.prog os Rows.houseFlowsFollowStepsUptoRow.laid) #[.slice none 0 0,.slice none 0 0,.slice none 0 0,.int .i64 0] (World.laidAll_os _ _ _) (World.shaped_of_ZipB (by kernel_rfl) (by kernel_rfl)) (by kernel_rfl)
   (OpenSpec.preRow_of_cond 8 hx (by kernel_rfl) (fun k hk=>by cases hk;kernel_rfl) (by kernel_rfl)
    (by rw[MakeChecks.laidMetH_plain _ _ _ (by kernel_rfl)];exact laidMet_laidAll _ (by kernel_rfl) (by kernel_rfl)))) ?_
 intro W base args ds gs before hval hW _ AE _ hL hsh _;exact Fq H enc W base args ds gs before hval hW (AE _ rfl) (J6 hL hsh)
theorem J7:laidOutB Tryz.prog=true:=by kernel_rfl
theorem Hl:mapsRowed Tryz.prog=true:=by kernel_rfl
theorem J8:(Rows.houseFlowsFollowStepsUptoRow.inPlace==Tryz.prog.inPlace 5)=true:=by kernel_rfl
theorem MN:(Rows.houseFlowsFollowStepsUptoRow.unfollowed==Tryz.prog.unfollowed 5)=true:=by kernel_rfl
theorem MO:(Rows.houseFlowsFollowStepsUptoRow.recurses==Tryz.prog.recurses 5)=true:=by kernel_rfl
theorem Hm:(Rows.houseFlowsFollowStepsUptoRow.named==Tryz.prog.varsNamed 5)=true:=by kernel_rfl
theorem MP:(Rows.houseFlowsFollowStepsUptoRow.plainKeys==Tryz.prog.plainKeys)=true:=by kernel_rfl
theorem Ho:Tryz.prog.stopsHeard=true:=by kernel_rfl
theorem Hp:Tryz.prog.mayEnter=true:=by kernel_rfl
theorem J9:(Rows.houseFlowsFollowStepsUptoRow.lifted==Tryz.prog.liftsFinal)=true:=by kernel_rfl
theorem J_:(Tryz.prog.make==some Rows.houseFlowsFollowStepsUptoRow.make)=true:=by kernel_rfl
theorem Ka:false=Rows.houseFlowsFollowStepsUptoRow.goesBy Tryz.prog:=by kernel_rfl
theorem Hq:true=Tryz.prog.looks []:=by kernel_rfl
theorem PC:Rows.houseFlowsFollowStepsUptoRow.wfByText (Rows.OpenSpec.upto Rows.houseFlowsFollowStepsSpec)=true:=by kernel_rfl
theorem Kb:joinedFacts Tryz.prog 5 Tryz.f5 (Rows.OpenSpec.upto Rows.houseFlowsFollowStepsSpec).bare Rows.houseFlowsFollowStepsUptoRow=true:=
 s8 J7 Hl J8 MN MO Hm MP Ho Hp J9 J_ (by kernel_rfl)
theorem Fs:Rows.HouseFlowsFollowStepsUptoSaid:=
 OpenClaim.holds_of_cond 5 Tryz.f5 rfl rfl rfl rfl rfl rfl rfl ⟨rfl,rfl,rfl,rfl,rfl⟩ rfl rfl rfl rfl rfl (by kernel_rfl) Tryz.func5 Kb
  (ko (by kernel_rfl)) (by unfold Func.isWrapper;first | (rw[ae (by decide +kernel)];kernel_rfl) | (rw[af (by decide +kernel)];exact⟨rfl,rfl⟩))
  (fun os started H enc _ F=>by rw[OpenClaim.pre_eq_preRow];exact lifted os started H enc F)
theorem plain(f:FuncId)(fn:Func)(hf:Tryz.pinned.checked.prog.funcNamed Rows.houseFlowsFollowStepsUptoRow.func=some f)(hfn:Tryz.pinned.checked.prog.funcs[f]?=some fn):
  true=Tryz.pinned.checked.prog.looks []/\∀(j:Nat) t,fn.params[j]?=some t->Tryz.pinned.checked.prog.wantsStandIn t=false:=by
 obtain rfl:f=5:=Option.some.inj ((show Tryz.prog.funcNamed Rows.houseFlowsFollowStepsUptoRow.func=some 5 by kernel_rfl).symm.trans hf) |>.symm;obtain rfl:fn=Tryz.f5:=(Option.some.inj (Tryz.func5.symm.trans hfn)).symm;refine⟨Hq,fun j t ht=>?_⟩;rw[Tryz.params5]at ht;have hm:=qI ht;have fI:((Tryz.f5.params.toList).all fun u=>!Tryz.prog.wantsStandIn u)=true:=by kernel_rfl
 exact (show Tryz.prog.wantsStandIn t=false by simpa using cC.1 fI t (by rw[Tryz.params5];simpa using hm))
theorem cardUpto:Rows.HouseFlowsFollowStepsUptoCardSaid:=
 Claim7.holds_tied_plain_at .later [] _ _ _ _ Fs (fun _ h=>by cases h) PC (fun _ h=>by cases h) houseFlowsFollowStepsUpto_row_tie rfl ⟨rfl,rfl⟩ (by kernel_rfl) rfl plain Ka
end houseFlowsFollowSteps
end Go.Proofs.YtedjhhieekileaaGreatDoor
