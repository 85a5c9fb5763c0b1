/- Part 9 of the proof of HousePricesAddUp. -/
import Derived.Test.YtihgjolmpjjblaaGreatDoorP08
import Derived.Deep.RegionWith
set_option linter.unusedVariables false
set_option linter.unusedSimpArgs false
set_option maxRecDepth 100000
set_option maxHeartbeats 8000000
namespace Go
abbrev GA:=@List.cons_append
abbrev nL:=@List.nil_append
abbrev rR:=@Int.mul_lt_mul_of_pos_right
abbrev MV:=@List.length_pos_of_mem
abbrev GF:=@List.any_eq_false
abbrev jh:=@Int.mul_le_mul_of_nonneg_right
abbrev Ba:=@Int.natCast_add
abbrev GG:=@Int.add_mul
abbrev xF:=@Int.mul_assoc
abbrev Bb:=@Array.getElem?_push
abbrev Bc:=@Go.Proofs.Tryz.func205
abbrev uz:=@Go.Lib.hid
abbrev eP:=@Array.getElem?_setIfInBounds_ne
end Go
namespace Go.Proofs.YtihgjolmpjjblaaGreatDoor
namespace M
open Go.AM Go.RowKit Go.Lib
open Reg (aB cw aR iv kh kg pG RG)
def OE(f:FuncId):PV:=.im (.func (.func f) #[] #[])
inductive K3 where
 | less
 | or
def kF:K3->Bool->Bool->Bool
 | .less=>RG
 | .or=>Reg.orK
def kI:K3->FuncId
 | .less=>185
 | .or=>257
theorem acT(k:K3):kF k false false=false:=by cases k<;>rfl
theorem Xw(k:K3)(a b:Bool):ai C (kI k) [.pv (bool a),.pv (bool b)] (.p (bool (kF k a b))) []:=by
 cases k
 ·refine fW hC Tryz.func185 rfl (by kernel_rfl) fun _=>?_;apply iW<;>intro h
  ·refine⟨?_,trivial⟩;subst h;rfl
  refine⟨?_,trivial⟩;have h:a=false:=by simpa using h
  subst h;rfl
 refine fW hC Tryz.func257 rfl (by kernel_rfl) fun _=>?_;apply iW<;>intro h
 ·refine⟨?_,trivial⟩;subst h;rfl
 refine⟨?_,trivial⟩;have h:a=false:=by simpa using h
 subst h;rfl
theorem OF(k:Bool->Bool->Bool)(n:Nat)(z D I:Bool):iv k n [] [] z D I=[]:=by cases n<;>rfl
theorem s9(t:TypeId)(out:List Int)(p:Int):AB.row t ((out.map fun n=>[i64 n])++[[i64 p]])=AB.row t ((out++[p]).map fun n=>[i64 n]):=by simp
theorem iz(x:List PV)(es:List (List PV)):AV.p (.sl (((x::es).take ((((x::es).length:Nat):Int)).toNat).drop (1:Int).toNat))=AV.p (.sl es):=by simp
def aK(l:List Int):List (List PV):=l.map fun n=>[i64 n]
theorem I1(W:K3)(a b:List Int)(hN:a.length+b.length<=4398046511104):ai C 213 [.pv (ints a),.pv (ints b),.pv (OE (kI W))] (.p (ints (kh (kF W) a b))) []:=by
 have hk:=Xw W;obtain⟨J,Z6⟩:∃J,J=kF W:=⟨_,rfl⟩;rw[<-Z6]at hk ⊢;clear Z6;cases W
 all_goals
  refine fW hC Tryz.func213 rfl (by kernel_rfl) fun _=>?_;refine aP (fun x:Nat×List Int×List Int×Bool×Bool×Bool×List Int=>x.2.1.length+x.2.2.1.length<=x.1/\x.2.2.2.2.2.2++iv J x.1 x.2.1 x.2.2.1 x.2.2.2.1 x.2.2.2.2.1 x.2.2.2.2.2.1=kh J a b/\x.2.2.2.2.2.2.length+x.1<=a.length+b.length)
   (fun x=>[(0,.p (ints x.2.1)),(1,.p (ints x.2.2.1)),(2,.p (OE _)),(7,.ow 7),(8,.p (bool x.2.2.2.1)),(9,.p (bool x.2.2.2.2.1)),(10,.p (bool x.2.2.2.2.2.1))])
   (fun x=>[(7,.row 3 (aK x.2.2.2.2.2.2))]) (fun x=>x.1) (a.length+b.length,a,b,false,false,false,[]) _ (aA.eK hC _ 7 3 _ (by decide) rfl rfl (by decide)) ⟨aG _,rfl,by simp⟩ ⟨Z,Z,Z,Z,Z,Z,Z,Y⟩ ⟨Z,Y⟩ fun ⟨n,a',b',z,D,O,out⟩ hi t h=>?_
  obtain⟨V,N,h3⟩:=hi;simp only at V N h3;have lm:∀l:List Int,(l.map fun n=>[i64 n]).length=l.length:=fun l=>au ..;rcases a' with _ | ⟨p,r⟩
  ·rcases b' with _ | ⟨q,u⟩
   ·rw[OF,dP]at N;refine⟨?_,trivial⟩;rw[<-N];rfl
   obtain⟨m,rfl⟩:∃m,n=m+1:=⟨n-1,by simp at V;omega⟩;have e:iv J (m+1) [] (q::u) z D O=if J z (!D)=O then iv J m [] u z (!D) O else q::iv J m [] u z (!D) (J z (!D)):=by simp[iv,pG,kg]
   rw[e]at N;simp at V;apply iW<;>intro R<;>try simp only[zB]at R
   ··
     refine⟨[i64 q],(idx (i:=0) rfl rfl),iW ?_ ?_⟩<;>intro g2<;>try simp only[zB]at g2
     ·refine⟨[i64 q],(idx (i:=0) rfl rfl),iW ?_ ?_⟩<;>intro U<;>try simp only[zB]at U
      ·refine⟨⟨by simp,by simp;omega⟩,_,_,(hk z (!D)),iW ?_ ?_⟩<;>intro I<;>try simp only[zB]at I
       ·have I:¬J z (!D)=O:=by simpa using I
        rw[aa I]at N;exact⟨⟨by simp,by simp[aK];omega,by simp[aK];omega⟩,(m,[],u,z,(!D),J z (!D),out++[q]),_,aA.refl _ _,⟨by simp;omega,by simp only[d_,GA,nL];exact N,by simp;omega⟩,by simp only;omega,⟨rfl,iz [i64 q] _,Z,Z,Z,Z,Z,Y⟩,⟨s9 _ out q,trivial⟩⟩
       have I:J z (!D)=O:=by simpa using I
       rw[ae I]at N;exact⟨(m,[],u,z,(!D),O,out),_,aA.refl _ _,⟨by simp;omega,N,by simp only;omega⟩,by simp only;omega,⟨rfl,iz [i64 q] _,Z,Z,Z,Z,Z,Y⟩,⟨Z,Y⟩⟩
      exact absurd trivial U
     simp at g2
   simp at R
  rcases b' with _ | ⟨q,u⟩
  ·obtain⟨m,rfl⟩:∃m,n=m+1:=⟨n-1,by simp at V;omega⟩;have e:iv J (m+1) (p::r) [] z D O=if J (!z) D=O then iv J m r [] (!z) D O else p::iv J m r [] (!z) D (J (!z) D):=by simp[iv,pG,kg]
   rw[e]at N;simp at V;apply iW<;>intro R<;>try simp only[zB]at R
   ·refine⟨[i64 p],(idx (i:=0) rfl rfl),iW ?_ ?_⟩<;>intro g2<;>try simp only[zB]at g2
    ·refine⟨[i64 p],(idx (i:=0) rfl rfl),iW ?_ ?_⟩<;>intro U<;>try simp only[zB]at U
     ·refine⟨⟨by simp,by simp;omega⟩,_,_,(hk (!z) D),iW ?_ ?_⟩<;>intro I<;>try simp only[zB]at I
      ·have I:¬J (!z) D=O:=by simpa using I
       rw[aa I]at N;exact⟨⟨by simp,by simp[aK];omega,by simp[aK];omega⟩,(m,r,[],(!z),D,J (!z) D,out++[p]),_,aA.refl _ _,⟨by simp;omega,by simp only[d_,GA,nL];exact N,by simp;omega⟩,by simp only;omega,⟨iz [i64 p] _,Z,Z,Z,Z,Z,Z,Y⟩,⟨s9 _ out p,trivial⟩⟩
      have I:J (!z) D=O:=by simpa using I
      rw[ae I]at N;exact⟨(m,r,[],(!z),D,O,out),_,aA.refl _ _,⟨by simp;omega,N,by simp only;omega⟩,by simp only;omega,⟨iz [i64 p] _,Z,Z,Z,Z,Z,Z,Y⟩,⟨Z,Y⟩⟩
     exact absurd trivial U
    simp at g2
   simp at R
  obtain⟨m,rfl⟩:∃m,n=m+1:=⟨n-1,by simp at V;omega⟩;have e:iv J (m+1) (p::r) (q::u) z D O=if J (kg (if p<=q then p else q) (p::r) z).2 (kg (if p<=q then p else q) (q::u) D).2=O then iv J m (kg (if p<=q then p else q) (p::r) z).1 (kg (if p<=q then p else q) (q::u) D).1 (kg (if p<=q then p else q) (p::r) z).2 (kg (if p<=q then p else q) (q::u) D).2 O else (if p<=q then p else q)::iv J m (kg (if p<=q then p else q) (p::r) z).1 (kg (if p<=q then p else q) (q::u) D).1 (kg (if p<=q then p else q) (p::r) z).2 (kg (if p<=q then p else q) (q::u) D).2 (J (kg (if p<=q then p else q) (p::r) z).2 (kg (if p<=q then p else q) (q::u) D).2):=rfl;rw[e]at N;simp at V;apply iW<;>intro R<;>try simp only[zB]at R
  ··
    apply iW<;>intro U<;>try simp only[zB]at U
    ·refine⟨[i64 p],(idx (i:=0) rfl rfl),[i64 q],(idx (i:=0) rfl rfl),iW ?_ ?_⟩<;>intro g4
     ·rw[ae g4]at N;refine⟨[i64 p],(idx (i:=0) rfl rfl),iW ?_ ?_⟩<;>intro g5<;>try simp only[zB]at g5
      ·refine⟨[i64 p],(idx (i:=0) rfl rfl),iW ?_ ?_⟩<;>intro g6<;>try simp only[zB]at g6
       ·refine⟨⟨by simp,by simp;omega⟩,iW ?_ ?_⟩<;>intro g7<;>try simp only[zB]at g7
        ·refine⟨[i64 q],(idx (i:=0) rfl rfl),iW ?_ ?_⟩<;>intro g8
         ·refine⟨⟨by simp,by simp;omega⟩,?_⟩;rw[show kg p (p::r) z=(r,!z) by simp[kg],show kg p (q::u) D=(u,!D) by simp[kg,g8]]at N;simp only at N;refine⟨_,_,(hk (!z) (!D)),iW ?_ ?_⟩<;>intro I<;>try simp only[zB]at I
          ·have I:¬J (!z) (!D)=O:=by simpa using I
           rw[aa I]at N;exact⟨⟨by simp,by simp[aK];omega,by simp[aK];omega⟩,(m,r,u,(!z),(!D),J (!z) (!D),out++[p]),_,aA.refl _ _,⟨by simp;omega,by simp only[d_,GA,nL];exact N,by simp;omega⟩,by simp only;omega,⟨iz [i64 p] _,iz [i64 q] _,Z,Z,Z,Z,Z,Y⟩,⟨s9 _ out p,trivial⟩⟩
          have I:J (!z) (!D)=O:=by simpa using I
          rw[ae I]at N;exact⟨(m,r,u,(!z),(!D),O,out),_,aA.refl _ _,⟨by simp;omega,N,by simp only;omega⟩,by simp only;omega,⟨iz [i64 p] _,iz [i64 q] _,Z,Z,Z,Z,Z,Y⟩,⟨Z,Y⟩⟩
         rw[show kg p (p::r) z=(r,!z) by simp[kg],show kg p (q::u) D=(q::u,D) by simp[kg,g8]]at N;simp only at N;refine⟨_,_,(hk (!z) D),iW ?_ ?_⟩<;>intro I<;>try simp only[zB]at I
         ·have I:¬J (!z) D=O:=by simpa using I
          rw[aa I]at N;exact⟨⟨by simp,by simp[aK];omega,by simp[aK];omega⟩,(m,r,(q::u),(!z),D,J (!z) D,out++[p]),_,aA.refl _ _,⟨by simp;omega,by simp only[d_,GA,nL];exact N,by simp;omega⟩,by simp only;omega,⟨iz [i64 p] _,Z,Z,Z,Z,Z,Z,Y⟩,⟨s9 _ out p,trivial⟩⟩
         have I:J (!z) D=O:=by simpa using I
         rw[ae I]at N;exact⟨(m,r,(q::u),(!z),D,O,out),_,aA.refl _ _,⟨by simp;omega,N,by simp only;omega⟩,by simp only;omega,⟨iz [i64 p] _,Z,Z,Z,Z,Z,Z,Y⟩,⟨Z,Y⟩⟩
        simp at g7
       exact absurd trivial g6
      simp at g5
     rw[aa g4]at N;refine⟨[i64 q],(idx (i:=0) rfl rfl),iW ?_ ?_⟩<;>intro g5<;>try simp only[zB]at g5
     ·refine⟨[i64 p],(idx (i:=0) rfl rfl),iW ?_ ?_⟩<;>intro g6
      ·omega
      apply iW<;>intro g7<;>try simp only[zB]at g7
      ·refine⟨[i64 q],(idx (i:=0) rfl rfl),iW ?_ ?_⟩<;>intro g8<;>try simp only[zB]at g8
       ·refine⟨⟨by simp,by simp;omega⟩,?_⟩;rw[show kg q (q::u) D=(u,!D) by simp[kg],show kg q (p::r) z=(p::r,z) by simp[kg,g6]]at N;simp only at N;refine⟨_,_,(hk z (!D)),iW ?_ ?_⟩<;>intro I<;>try simp only[zB]at I
        ·have I:¬J z (!D)=O:=by simpa using I
         rw[aa I]at N;exact⟨⟨by simp,by simp[aK];omega,by simp[aK];omega⟩,(m,(p::r),u,z,(!D),J z (!D),out++[q]),_,aA.refl _ _,⟨by simp;omega,by simp only[d_,GA,nL];exact N,by simp;omega⟩,by simp only;omega,⟨rfl,iz [i64 q] _,Z,Z,Z,Z,Z,Y⟩,⟨s9 _ out q,trivial⟩⟩
        have I:J z (!D)=O:=by simpa using I
        rw[ae I]at N;exact⟨(m,(p::r),u,z,(!D),O,out),_,aA.refl _ _,⟨by simp;omega,N,by simp only;omega⟩,by simp only;omega,⟨rfl,iz [i64 q] _,Z,Z,Z,Z,Z,Y⟩,⟨Z,Y⟩⟩
       exact absurd trivial g8
      simp at g7
     simp at g5
    simp at U
  simp at R
open Reg (oA bD lN oB Cu Cv fp cm pairUp dF gy fj iL Canon)
theorem qw:∀s:cw,flat s=cm s
 | []=>rfl
 | p::s=>by rw[flat,cm,qw s]
def a_(s:List aR):PV:=.sl (s.map hb)
theorem hZ(s:List aR)(y e:Int):ai C 212 [.pv (a_ s),.pv (i64 y),.pv (i64 e)] (.tu [ints (cm (oA s y e).1),i64 (oA s y e).2]) []:=by
 refine fW hC Tryz.func212 rfl (by kernel_rfl) fun _=>?_;rcases s with _ | ⟨b,s⟩
 ·refine⟨?_,trivial⟩;rfl
 have z:oA (b::s) y e=if y<b.y0 then ([],min e b.y0) else (b.xs,min e b.y1):=rfl;refine⟨(hb b),(idx (i:=0) rfl rfl),iW ?_ ?_⟩<;>intro D
 ·rw[z,ae D];refine⟨(hb b),(idx (i:=0) rfl rfl),?_,trivial⟩;rfl
 rw[z,aa D,<-qw];refine⟨(hb b),(idx (i:=0) rfl rfl),(hb b),(idx (i:=0) rfl rfl),?_,trivial⟩;rfl
theorem MW{l:List aR}:∀r∈l.map hb,r.length=3:=fun r z=>by
 obtain⟨b,_,rfl⟩:=aZ.1 z;rfl
def st(a b:List aR):Nat->Int×Int
 | 0=>(0,0)
 | 1=>match a with
  | []=>(0,0)
  | p::r=>(p.y0,fp (p::r))
 | _=>(Cu a b,Cv a b)
theorem xG(U:K3)(a b:List aR)(ha:dF a)(W:dF b)(ka:gy 2000000 a)(kb:gy 2000000 b):ai C 184 [.pv (a_ a),.pv (a_ b),.pv (OE (kI U))] (.p (a_ (oB (kF U) a b))) []:=by
 have hl:=I1 U;have h0:=acT U;obtain⟨N,Z6⟩:∃N,N=kF U:=⟨_,rfl⟩;rw[<-Z6]at hl h0 ⊢;clear Z6;let F:=kI U;cases U
 all_goals
  refine FP ⟨[],[4,6],[],[],[],[]⟩ hC Tryz.func184 rfl (by kernel_rfl) fun _=>?_;have la:=Reg.eW ha (by omega) ka;have lb:=Reg.eW W (by omega) kb;have ma:=an a hb;have mb:=an b hb;refine⟨⟨by rw[ma,mb];omega,by rw[ma,mb];omega⟩,iW ?_ ?_⟩<;>intro g0
  ·rw[ma,mb]at g0;refine⟨?_,trivial⟩;rw[oB,ae (by omega)];rfl
  rw[ma,mb]at g0;have hn:a.length+b.length≠0:=by omega
  refine aP (fun i:Nat=>i<=2) (fun i=>[(0,.p (a_ a)),(1,.p (a_ b)),(2,.p (OE F)),(7,.nl),(8,.p (i64 (st a b i).1)),(9,.p (i64 (st a b i).2)),(25,.ow 25),(26,.p (i64 (2:Nat))),(27,.p (i64 i))]) (fun i=>[(25,.row 101 [[a_ a],[a_ b]])]) (fun i=>2-i) 0 _ (aA.refl _ _) (by omega) ⟨Z,Z,Z,Z,Z,Z,Z,Z,Z,Y⟩ ⟨Z,Y⟩ fun i hi t h=>?_;apply iW<;>intro g1
  ·obtain rfl | rfl:i=0\/i=1:=by omega
   ·refine⟨⟨by simp,by simp⟩,[a_ a],rfl,?_⟩;rcases a with _ | ⟨p,r⟩
    ·exact⟨wO (by omega),1,_,aA.refl _ _,by omega,by omega,⟨Z,Z,Z,Z,Z,Z,Z,Z,Z,Y⟩,⟨Z,Y⟩⟩
    obtain⟨I,V,VK⟩:=Reg.A_ p r;simp at la;apply iW<;>intro O
    ·exact⟨(hb p),(idx (i:=0) rfl rfl),⟨by simp,by simp;omega⟩,(hb I),(idx (show (((p::r).map hb).length:Int)-1=((r.length:Nat):Int) by simp) V),(hb p),(idx (i:=0) rfl rfl),⟨by simp,by simp;omega⟩,(hb I),(idx (show (((p::r).map hb).length:Int)-1=((r.length:Nat):Int) by simp) V),wO (by omega),1,_,aA.refl _ _,by omega,by omega,⟨rfl,rfl,rfl,rfl,bI (show min p.y0 p.y0=p.y0 by omega),bI (show max I.y1 I.y1=fp (p::r) by omega),Z,Z,Z,Y⟩,⟨Z,Y⟩⟩
    simp at O
   refine⟨⟨by simp,by simp⟩,[a_ b],rfl,?_⟩;rcases b with _ | ⟨q,u⟩
   ·refine⟨wO (by omega),2,_,aA.refl _ _,?_⟩;have e1:st a [] 1=st a [] 2:=by
     rcases a with _ | ⟨p,r⟩
     ·simp at hn
     rfl
    exact⟨by omega,by omega,⟨rfl,rfl,rfl,rfl,bI (by rw[e1]),bI (by rw[e1]),Z,Z,Z,Y⟩,⟨Z,Y⟩⟩
   obtain⟨I,V,VK⟩:=Reg.A_ q u;simp at lb;apply iW<;>intro O
   ·rcases a with _ | ⟨p,r⟩
    ·exact⟨(hb q),(idx (i:=0) rfl rfl),⟨by simp,by simp;omega⟩,(hb I),(idx (show (((q::u).map hb).length:Int)-1=((u.length:Nat):Int) by simp) V),(hb q),(idx (i:=0) rfl rfl),⟨by simp,by simp;omega⟩,(hb I),(idx (show (((q::u).map hb).length:Int)-1=((u.length:Nat):Int) by simp) V),wO (by omega),2,_,aA.refl _ _,by omega,by omega,⟨rfl,rfl,rfl,rfl,bI (show min q.y0 q.y0=q.y0 by omega),bI (show max I.y1 I.y1=fp (q::u) by omega),Z,Z,Z,Y⟩,⟨Z,Y⟩⟩
    exact⟨(hb q),(idx (i:=0) rfl rfl),⟨by simp,by simp;omega⟩,(hb I),(idx (show (((q::u).map hb).length:Int)-1=((u.length:Nat):Int) by simp) V),wO (by omega),2,_,aA.refl _ _,by omega,by omega,⟨rfl,rfl,rfl,rfl,rfl,bI (show max (fp (p::r)) I.y1=max (fp (p::r)) (fp (q::u)) by rw[VK]),Z,Z,Z,Y⟩,⟨Z,Y⟩⟩
   simp at O
  have e:i=2:=by omega
  subst e;have Vd:=Reg.Z4 ka kb hn;have Ve:=Reg.Z5 ka kb hn;have e2:oB N a b=lN N (Cv a b-Cu a b).toNat a b (Cu a b) (Cv a b) []:=by rw[oB,aa hn]
  rw[e2];obtain⟨lo,Xx⟩:∃lo,lo=Cu a b:=⟨_,rfl⟩;obtain⟨e,TH⟩:∃e,e=Cv a b:=⟨_,rfl⟩;rw[<-Xx]at Vd;rw[<-TH]at Ve;rw[<-Xx,<-TH];have hR:∃R,R=lN N (e-lo).toNat a b lo e []:=⟨_,rfl⟩;obtain⟨R,hR⟩:=hR;rw[<-hR];refine aP (fun x:Nat×List aR×List aR×Int×List aR=>(e-x.2.2.2.1).toNat<=x.1/\lN N x.1 x.2.1 x.2.2.1 x.2.2.2.1 e x.2.2.2.2=R/\dF x.2.1/\dF x.2.2.1/\dF x.2.2.2.2/\(∀t∈x.2.2.2.2,t.y1<=x.2.2.2.1)/\gy 2000000 x.2.1/\gy 2000000 x.2.2.1/\gy 2000000 x.2.2.2.2/\-2000000<=x.2.2.2.1)
   (fun x=>[(0,.p (a_ x.2.1)),(1,.p (a_ x.2.2.1)),(2,.p (OE F)),(7,.ow 7),(8,.p (i64 x.2.2.2.1)),(9,.p (i64 e))]) (fun x=>[(7,.row 180 (x.2.2.2.2.map hb))]) (fun x=>x.1) ((e-lo).toNat,a,b,lo,[]) _
   (aA.eK hC _ 7 180 _ (by decide) rfl rfl (by decide)) ⟨aG _,hR.symm,ha,W,trivial,fun t ht=>(by cases ht),ka,kb,fun t ht=>(by cases ht),Vd⟩ ⟨rfl,rfl,rfl,rfl,bI Xx.symm,bI TH.symm,trivial⟩ ⟨Z,Y⟩ fun ⟨n,z,D,y,out⟩ hi t h=>?_
  obtain⟨i1,i2,i3,i4,i5,i6,i7,i8,i9,i10⟩:=hi;simp only at i1 i2 i3 i4 i5 i6 i7 i8 i9 i10;have la':=Reg.eW i3 (by omega) i7;have lb':=Reg.eW i4 (by omega) i8;have lo':=Reg.eW i5 (by omega) i9;have lx':=Reg.rP i5 (by omega) i9;apply iW<;>intro O<;>try simp only[zB]at O
  ·obtain⟨m,rfl⟩:∃m,n=m+1:=⟨n-1,by omega⟩;obtain⟨nx,L,Kq,hL,j1,j2,j3,j4,j5,j6,j7,j8,j9,j10,j11,j12,j13,j14⟩:=Reg.IZ h0 O i3 i4 i5 i6 i7 i8 i9 i10 Ve;rw[lN,ae O,<-Kq,<-hL]at i2;refine Ak (fun _:Unit=>True) (fun _=>[(0,.p (a_ (bD y z))),(1,.p (a_ D)),(2,.p (OE F)),(7,.ow 7),(8,.p (i64 y)),(9,.p (i64 e))]) (fun _=>[(7,.row 180 (out.map hb))]) (fun _ _ t h=>?_) ?_;rotate_left
   ·refine aP (fun s:List aR=>bD y s=bD y z/\(s.length:Int)<=4000000) (fun s=>[(0,.p (a_ s)),(1,.p (a_ D)),(2,.p (OE F)),(7,.ow 7),(8,.p (i64 y)),(9,.p (i64 e))]) (fun _=>[(7,.row 180 (out.map hb))]) (fun s=>s.length) z _ (aA.refl _ _) ⟨rfl,by omega⟩ ⟨Z,Z,Z,Z,Z,Z,Y⟩ ⟨Z,Y⟩ fun s hs t h=>?_;obtain⟨J,s2⟩:=hs;rcases s with _ | ⟨c,s⟩
    ·rw[<-J];exact⟨(),trivial,⟨Z,Z,Z,Z,Z,Z,Y⟩,⟨Z,Y⟩⟩
    simp at s2;apply iW<;>intro d1
    ·refine⟨(hb c),(idx (i:=0) rfl rfl),iW ?_ ?_⟩<;>intro d2
     ·refine⟨⟨by simp,(by first | omega | (simp;done) | (simp;omega)),(by first | omega | (simp;done) | (simp;omega)),MW⟩,s,_,aA.refl _ _,?_⟩;rw[bD,ae d2]at J;exact⟨⟨J,by omega⟩,by simp,⟨iz (hb c) _,Z,Z,Z,Z,Z,Y⟩,⟨Z,Y⟩⟩
     rw[bD,aa d2]at J;rw[<-J];exact⟨(),trivial,⟨Z,Z,Z,Z,Z,Z,Y⟩,⟨Z,Y⟩⟩
    simp at d1
   refine Ak (fun _:Unit=>True) (fun _=>[(0,.p (a_ (bD y z))),(1,.p (a_ (bD y D))),(2,.p (OE F)),(7,.ow 7),(8,.p (i64 y)),(9,.p (i64 e))]) (fun _=>[(7,.row 180 (out.map hb))]) (fun _ _ t h=>?_) ?_;rotate_left
   ·refine aP (fun s:List aR=>bD y s=bD y D/\(s.length:Int)<=4000000) (fun s=>[(0,.p (a_ (bD y z))),(1,.p (a_ s)),(2,.p (OE F)),(7,.ow 7),(8,.p (i64 y)),(9,.p (i64 e))]) (fun _=>[(7,.row 180 (out.map hb))]) (fun s=>s.length) D _ (aA.refl _ _) ⟨rfl,by omega⟩ ⟨Z,Z,Z,Z,Z,Z,Y⟩ ⟨Z,Y⟩ fun s hs t h=>?_;obtain⟨J,s2⟩:=hs;rcases s with _ | ⟨c,s⟩
    ·rw[<-J];exact⟨(),trivial,⟨Z,Z,Z,Z,Z,Z,Y⟩,⟨Z,Y⟩⟩
    simp at s2;apply iW<;>intro d1
    ·refine⟨(hb c),(idx (i:=0) rfl rfl),iW ?_ ?_⟩<;>intro d2
     ·refine⟨⟨by simp,(by first | omega | (simp;done) | (simp;omega)),(by first | omega | (simp;done) | (simp;omega)),MW⟩,s,_,aA.refl _ _,?_⟩;rw[bD,ae d2]at J;exact⟨⟨J,by omega⟩,by simp,⟨rfl,iz (hb c) _,Z,Z,Z,Z,Y⟩,⟨Z,Y⟩⟩
     rw[bD,aa d2]at J;rw[<-J];exact⟨(),trivial,⟨Z,Z,Z,Z,Z,Z,Y⟩,⟨Z,Y⟩⟩
    simp at d1
   have q1:=Reg.uy j11 (by omega) j13;have q2:=Reg.uy j12 (by omega) j14;have q3:=Reg.pH (oA (bD y z) y e).1;have q4:=Reg.pH (oA (bD y D) y e).1;have hp:ai C 175 [.row 180 (out.map hb),.pv (.ag [i64 y,i64 (min (oA (bD y z) y e).2 (oA (bD y D) y e).2),ints (kh N (cm (oA (bD y z) y e).1) (cm (oA (bD y D) y e).1))])] (.own 180 ((fj out ⟨y,nx,pairUp L⟩).map hb)) [.gone]:=by
    rw[<-Kq,<-hL,show [i64 y,i64 nx,ints L]=hb ⟨y,nx,pairUp L⟩ by rw[hb,qw,j3]];exact vE out ⟨y,nx,pairUp L⟩ j1 (by omega) (fun t ht=>by have:=lx' t ht;omega)
   exact⟨_,_,(hZ (bD y z) y e),_,_,(hZ (bD y D) y e),_,_,(hl (cm (oA (bD y z) y e).1) (cm (oA (bD y D) y e).1) (by omega)),_,_,hp,(m,bD y z,bD y D,nx,fj out ⟨y,nx,pairUp L⟩),_,aA.refl _ _,⟨by simp only;omega,i2,j4,j5,j8,j9,j6,j7,j10,by simp only;omega⟩,by simp only;omega,⟨rfl,rfl,rfl,rfl,bI Kq.symm,Z,Y⟩,⟨Z,Y⟩⟩
  have e3:lN N n z D y e out=out:=by
   cases n with
   | zero=>rfl
   | succ n=>rw[lN,aa O]
  rw[e3]at i2;refine⟨?_,trivial⟩;rw[<-i2];rfl
open Reg (Lg fg iw fv jg told jr me Full RK)
theorem Cy(a b:List aR)(D:dF a)(z:dF b)(I:gy 2000000 a)(J:gy 2000000 b):ai C 134 [.pv (a_ a),.pv (a_ b)] (.p (a_ (iL a b))) []:=by
 refine fW hC Tryz.func134 rfl (by kernel_rfl) fun _=>?_;refine⟨_,_,(xG .less a b D z I J),?_,trivial⟩;rfl
theorem MX{b:aR}(h:Lg b):∃u,flat b.xs=fv b::(cm b.xs).getD 1 0::u/\(flat b.xs)[(flat b.xs).length-1]?=some (jg b):=by
 have z:=h.ne;unfold fv jg;rw[qw];cases hx:b.xs with
 | nil=>exact absurd hx z
 | cons p u=>
  refine⟨cm u,rfl,?_⟩;rw[<-fJ];cases hl:(cm (p::u)).getLast? with
  | none=>rw[MR]at hl;cases hl
  | some c=>rfl
theorem GH(s:List aR)(D:dF s)(ks:gy 2000000 s)(hn:s≠[]):ai C 211 [.pv (a_ s)] (.p (.ag (rc (fg s)))) []:=by
 refine FP ⟨[5],[],[],[],[(5,[true,true,true,true,true,true,true,true,true,true,false,true,false,false,true,false,false,true,true,false,true,true])],[]⟩ hC Tryz.func211 rfl (by kernel_rfl) fun _=>?_;have ls:=Reg.eW D (by omega) ks;have N:=an s hb;rcases s with _ | ⟨b,s⟩
 ·exact absurd rfl hn
 obtain⟨u,O,hl⟩:=MX D.head;obtain⟨R,S_,VK⟩:=Reg.A_ b s;obtain⟨z,U⟩:∃z:aB,z=⟨fv b,b.y0,(cm b.xs).getD 1 0,R.y1⟩:=⟨_,rfl⟩;have hA:fg (b::s)=(b::s).foldl iw z:=by rw[U,VK];rfl
 simp at ls;have lbs:(b::s).length<=4000000:=by simp;omega
 have g0:(flat b.xs)[0]?=some (fv b):=by rw[O];rfl
 have g1:(flat b.xs)[1]?=some ((cm b.xs).getD 1 0):=by rw[O];rfl
 refine⟨(hb b),(idx (i:=0) rfl rfl),[i64 (fv b)],(idx (i:=0) rfl g0),(hb b),(idx (i:=0) rfl rfl),(hb b),(idx (i:=0) rfl rfl),[i64 ((cm b.xs).getD 1 0)],(idx (i:=1) rfl g1),⟨by simp,by simp;omega⟩,(hb R),(idx (show (((b::s).map hb).length:Int)-1=((s.length:Nat):Int) by simp) S_),?_⟩;refine aP (fun i:Nat=>i<=(b::s).length) (fun i=>[(2,.bx 2 0),(3,.bx 3 0),(30,.p (a_ (b::s))),(31,.p (i64 ((b::s).map hb).length)),(32,.p (i64 i))]) (fun i=>[(2,.box [.p (i64 0),.p (i64 0),.p (i64 0),.p (i64 0)]),(3,.box [.p (i64 (((b::s).take i).foldl iw z).x0),.p (i64 (((b::s).take i).foldl iw z).y0),.p (i64 (((b::s).take i).foldl iw z).x1),.p (i64 (((b::s).take i).foldl iw z).y1)])]) (fun i=>(b::s).length-i) 0 _ (aA.refl _ _) (ak _) ⟨Z,Z,Z,Z,Z,Y⟩ ⟨rfl,by rw[U];rfl,trivial⟩ fun i hi t h=>?_;apply iW<;>intro V
 ·rw[N]at V;obtain⟨c,I⟩:=ao (l:=b::s) (i:=i) (by omega);have cb:=D.mem c (aj I);obtain⟨u',W,N1⟩:=MX cb;have lx:=Reg.rP D (by omega) ks c (aj I);have fl:=fK c.xs;have J:=an (flat c.xs) fun n=>[i64 n];have fne:1<=(flat c.xs).length:=by rw[W];simp
  have g3:(flat c.xs)[0]?=some (fv c):=by rw[W];rfl
  have e1:((b::s).take (i+1)).foldl iw z=iw (((b::s).take i).foldl iw z) c:=by rw[bq I,wH];rfl
  generalize ((b::s).take i).foldl iw z=acc at *;refine⟨(hb c),(idx rfl I),?_⟩;refine W1 5 (y:=.ip (hb c)) (fz:=[(5,.nd (hb c))]) (by exact hC) (by exact⟨rfl,rfl⟩) ?_;refine⟨[i64 (fv c)],(idx (i:=0) rfl g3),⟨by rw[J];omega,by rw[J];omega⟩,[i64 (jg c)],(idx (show (((flat c.xs).map fun n=>[i64 n]).length:Int)-1=(((flat c.xs).length-1:Nat):Int) by rw[J];omega) N1),wO (by omega),(i+1),_,aA.refl _ _,?_⟩;rw[e1];exact⟨by omega,by omega,⟨Z,Z,Z,Z,Z,Y⟩,⟨Z,Z,Y⟩⟩
 rw[N]at V;refine⟨?_,trivial⟩;rw[cK (by omega),<-hA];rfl
theorem OG{s:List aR}{i:Nat}{b:aR}(h:s[i]?=some b):(told (s.take (i+1))).length=(told (s.take i)).length+b.xs.length:=by
 rw[qn h,bJ,au]
theorem vM(s:List aR)(hN:s.length<=1000000000000)(hX:∀t∈s,t.xs.length<=1000000000000)(hT:(told s).length<=4398046511104):ai C 135 [.pv (a_ s)] (.p (i64 (told s).length)) []:=by
 refine fW hC Tryz.func135 rfl (by kernel_rfl) fun _=>?_;have z:=an s hb;have J:∀i,(told (s.take i)).length<=(told s).length:=fun i=>by
  have e:told s=told (s.take i)++told (s.drop i):=by
   unfold told;rw[<-wS,o6]
  rw[e,bJ];omega
 refine aP (fun i:Nat=>i<=s.length) (fun i=>[(3,.p (i64 (told (s.take i)).length)),(6,.p (a_ s)),(7,.p (i64 (s.map hb).length)),(8,.p (i64 i))]) (fun i=>[]) (fun i=>s.length-i) 0 _ (aA.refl _ _) (ak _) ⟨Z,Z,Z,Z,Y⟩ trivial fun i hi t h=>?_;apply iW<;>intro D
 ·rw[z]at D;obtain⟨c,I⟩:=ao (l:=s) (i:=i) (by omega);have N:=fK c.xs;have O:=an (flat c.xs) fun n=>[i64 n];have R:=OG I;have t1:=J (i+1);have q:((((flat c.xs).map fun n=>[i64 n]).length:Nat):Int).tdiv 2=(c.xs.length:Int):=by
   rw[O,N,gM (by omega)];omega
  exact⟨(hb c),(idx rfl I),by decide,⟨by rw[q];omega,by rw[q];omega⟩,⟨by rw[q];omega,by rw[q];omega⟩,wO (by omega),(i+1),_,aA.refl _ _,by omega,by omega,⟨bI (by rw[q,R];omega),Z,Z,Z,Y⟩,trivial⟩
 rw[z]at D;refine⟨?_,trivial⟩;rw[cK (by omega)]
theorem Cz:∀{l:List Int} {c hi:Int},Reg.ct (c::l)->(∀x∈c::l,x<=hi)->(l.length:Int)<=hi-c
 | [],c,hi,_,h=>by have:=h c (by simp);simp only[kv];omega
 | d::l,c,hi,hr,h=>by
  have ih:=Cz (l:=l) (c:=d) (hi:=hi) hr.tail (fun x z=>h x (by simp at z ⊢;exact .inr z));have h1:=hr.behind d (by simp);simp only[bN];omega
theorem qx(l:List aB)(K:Int)(O:0<=K)(h1:K<=2000000)(D:∀r∈l,Full r)(hk:∀r∈l,RK K r)(R:l.length<=4398046511104):ai C 120 [.pv (aE l)] (.own 180 ((Reg.cH l).map hb)) []:=by
 refine xi l (fun r z=>?_) R ?_ (fun y=>?_)
 ·have a:=hk r z;have b:=D r z;unfold RK at a;unfold Full at b;exact⟨⟨by omega,by omega,by omega,by omega⟩,b.1,b.2⟩
 ·obtain⟨J,U⟩:=Reg.gY l;cases N:Reg.cr l with
  | nil=>simp
  | cons c u=>
   rw[N]at J;have all:∀x∈c::u,-K<=x/\x<=K:=fun x I=>by
    rw[<-N]at I;obtain⟨r,z,e⟩:=(U x).1 I;have a:=hk r z;have b:=D r z;unfold RK at a;unfold Full at b;omega
   have:=Cz J (hi:=K) (fun x I=>(all x I).2);have:=(all c (by simp)).1;simp only[bN];omega
 have V:=(Reg.qm l y (fun r z=>(D r z).1)).1;have:=Reg.uy V O (Reg.RF D y hk);omega
def uQ(l r d u:Int)(L:List aB)(i:Nat):List aB:=(L.take i).map (jr l r d u)++L.drop i
theorem Us{l r d u:Int}{L:List aB}{i:Nat}{q:aB}(h:L[i]?=some q):(uQ l r d u L i)[i]?=some q:=by
 have hi:=(az.1 h).1;have e:((L.take i).map (jr l r d u)).length=i:=by rw[au,cE];omega
 rw[uQ,du (by omega),e,jL,gB,mY,h]
theorem Ut(l r d u:Int)(L:List aB)(i:Nat):(uQ l r d u L i).length=L.length:=by
 rw[uQ,bJ,au,cE,lU];omega
theorem Uu{l r d u:Int}{L:List aB}{i:Nat}{q:aB}(h:L[i]?=some q):(uQ l r d u L i).set i (jr l r d u q)=uQ l r d u L (i+1):=by
 have hi:=(az.1 h).1;have e:((L.take i).map (jr l r d u)).length=i:=by rw[au,cE];omega
 have z:L.drop i=q::L.drop (i+1):=by
  rw[fI hi,(az.1 h).2]
 rw[uQ,List.set_append_right _ _ (by omega),e,jL,z,uQ,bq h,bB];simp
end M
namespace Reg
def vc(p q:Int×Int):List aB:=if p.1=q.1 then [⟨p.1,min p.2 q.2,0,max p.2 q.2⟩] else []
def mQ(l:List (Int×Int))(i:Nat):Int×Int:=l.getD (i % l.length) (0,0)
def jG(l:List (Int×Int)):Nat->List aB
 | 0=>[]
 | k+1=>jG l k++vc (mQ l k) (mQ l (k+1))
def js(y:Int)(r:aB):Bool:=decide (r.y0<=y)&&decide (y<r.y1)
def I2(xs:List Int)(x:Int):List Int:=if xs.getLast?=some x then xs.dropLast else xs++[x]
def oD(up:List aB)(y:Int):List Int:=(up.filter (js y)).foldl (fun xs r=>I2 xs r.x0) []
theorem Uv{up:List aB}{i:Nat}{r:aB}(h:up[i]?=some r)(y:Int):oD (up.take (i+1)) y=if js y r=true then I2 (oD (up.take i) y) r.x0 else oD (up.take i) y:=by
 unfold oD;rw[List.take_add_one,h];cases hc:js y r<;>simp[hc,l_,wz,wH]
theorem OH{xs:List Int}{x:Int}(h:ct xs)(I:∀a∈xs,a<=x):ct (I2 xs x)/\(∀a∈I2 xs x,a∈xs\/a=x)/\((I2 xs x).length+xs.length) % 2=1:=by
 unfold I2;split
 ·rename_i hl;obtain⟨d,rfl⟩:=dc.1 hl;rw[List.dropLast_concat];exact⟨(rm.1 h).1,fun a z=>.inl (by simp[z]),by simp;omega⟩
 rename_i hl;refine⟨rm.2 ⟨h,Mt _ _,fun a z b hb=>?_⟩,fun a z=>by simpa using z,by simp;omega⟩;rw[bV]at hb;subst hb;have J:=I a z;rcases Int.lt_or_eq_of_le J with D | D
 ·exact D
 subst D;exfalso;cases hg:xs.getLast? with
 | none=>rw[MR.1 hg]at z;cases z
 | some t=>
  obtain⟨d,rfl⟩:=dc.1 hg;rcases b_.1 z with z | z
  ·have h3:=(rm.1 h).2.2 a z t (by simp);have h4:=I t (by simp);omega
  rw[bV]at z;subst z;exact hl hg
theorem CA:∀(L:List aB) (xs:List Int),ct xs->(∀a∈xs,∀r∈L,a<=r.x0)->L.Pairwise (fun a b=>a.x0<=b.x0)->
  ct (L.foldl (fun xs r=>I2 xs r.x0) xs)/\(∀a∈L.foldl (fun xs r=>I2 xs r.x0) xs,a∈xs\/∃r∈L,a=r.x0)/\((L.foldl (fun xs r=>I2 xs r.x0) xs).length+xs.length+L.length) % 2=0/\(L.foldl (fun xs r=>I2 xs r.x0) xs).length<=xs.length+L.length
 | [],xs,h,_,_=>⟨h,fun a z=>.inl z,by simp;omega,by simp⟩
 | r::L,xs,h,hx,hp=>by
  obtain⟨J,I,h3⟩:=OH h fun a z=>hx a z r (by simp);obtain⟨N,O⟩:=iY.1 hp;obtain⟨R,U,k3,k4⟩:=CA L (I2 xs r.x0) J (fun a z s D=>by
   rcases I a z with e | e
   ·exact hx a e s (by simp[D])
   subst e;exact N s D) O
  have hl:(I2 xs r.x0).length<=xs.length+1:=by
   unfold I2;split
   ·simp;omega
   simp
  refine⟨R,fun a z=>?_,?_,?_⟩
  ·rcases U a z with e | ⟨s,D,e⟩
   ·rcases I a e with e | e
    ·exact .inl e
    exact .inr ⟨r,by simp,e⟩
   exact .inr ⟨s,by simp[D],e⟩
  ·simp only[jN,bN];omega
  simp only[jN,bN];omega
theorem xH{up:List aB}(D:up.Pairwise fun a b=>a.x0<=b.x0)(y:Int):ct (oD up y)/\(∀a∈oD up y,∃r∈up,a=r.x0)/\(oD up y).length % 2=(up.filter (js y)).length % 2/\(oD up y).length<=up.length:=by
 obtain⟨I,J,N,O⟩:=CA (up.filter (js y)) [] List.Pairwise.nil (fun a z=>by cases z) (D.filter _);refine⟨I,fun a z=>?_,?_,?_⟩
 ·rcases J a z with e | ⟨r,R,e⟩
  ·cases e
  exact⟨r,(qZ.1 R).1,e⟩
 ·unfold oD;simp only[kv]at N;omega
 unfold oD;have:=kJ (js y) up;simp only[kv]at O;omega
def OI(l:List (Int×Int)):Prop:=∀i,i<l.length->(mQ l i).1=(mQ l (i+1)).1\/(mQ l i).2=(mQ l (i+1)).2
theorem RJ(p q:Int×Int)(y:Int)(h:p.1=q.1\/p.2=q.2):((vc p q).filter (js y)).length=if decide (p.2<=y)=decide (q.2<=y) then 0 else 1:=by
 unfold vc;split
 ·have e:js y ⟨p.1,min p.2 q.2,0,max p.2 q.2⟩=!(decide (p.2<=y)==decide (q.2<=y)):=by
   unfold js;by_cases a:p.2<=y<;>by_cases b:q.2<=y
   ·rw[jS a,jS b,aY (p:=y<max p.2 q.2) (by omega),dG];rfl
   ·rw[jS a,aY b,jS (p:=y<max p.2 q.2) (by omega),jS (p:=min p.2 q.2<=y) (by omega)];rfl
   ·rw[aY a,jS b,jS (p:=y<max p.2 q.2) (by omega),jS (p:=min p.2 q.2<=y) (by omega)];rfl
   rw[aY a,aY b,aY (p:=min p.2 q.2<=y) (by omega),uh];rfl
  rw[wz,e];cases decide (p.2<=y)<;>cases decide (q.2<=y)<;>rfl
 rcases h with h | h
 ·contradiction
 simp[h]
theorem MY{l:List (Int×Int)}(h:OI l)(y:Int):∀k,k<=l.length->((jG l k).filter (js y)).length % 2=if decide ((mQ l 0).2<=y)=decide ((mQ l k).2<=y) then 0 else 1
 | 0,_=>by simp[jG]
 | k+1,hk=>by
  have z:=MY h y k (by omega);have D:=RJ _ _ y (h k (by omega));rw[jG,l_,bJ,Nat.add_mod,z,D];cases decide ((mQ l 0).2<=y)<;>cases decide ((mQ l k).2<=y)<;>cases decide ((mQ l (k+1)).2<=y)<;>rfl
theorem RL{l:List (Int×Int)}(h:OI l)(y:Int):((jG l l.length).filter (js y)).length % 2=0:=by
 rw[MY h y l.length (aG _)];have:mQ l l.length=mQ l 0:=by unfold mQ;rw[Nat.mod_self,Nat.zero_mod]
 rw[this,ae rfl]
theorem MZ{l:List (Int×Int)}(D:0<l.length):∀k,∀r∈jG l k,∃p∈l,∃q∈l,r=⟨p.1,min p.2 q.2,0,max p.2 q.2⟩
 | 0,r,z=>by cases z
 | k+1,r,z=>by
  rw[jG,b_]at z;rcases z with z | z
  ·exact MZ D k r z
  have I:∀i,mQ l i∈l:=fun i=>by
   have hi:i % l.length<l.length:=na _ D;unfold mQ;rw[F1,aW hi];exact o5 hi
  unfold vc at z;split at z
  ·rw[bV]at z;exact⟨_,I k,_,I (k+1),z⟩
  cases z
theorem GI(l:List (Int×Int)):∀k,(jG l k).length<=k
 | 0=>aG _
 | k+1=>by
  have:=GI l k;rw[jG,bJ];have:(vc (mQ l k) (mQ l (k+1))).length<=1:=by unfold vc;split<;>simp
  omega
def I3(ys:List Int)(up:List aB)(k:Nat):aR:=⟨ys.getD k 0,ys.getD (k+1) 0,pairUp (oD up (ys.getD k 0))⟩
def eE(ys:List Int)(up:List aB):Nat->List aR
 | 0=>[]
 | k+1=>fj (eE ys up k) (I3 ys up k)
theorem CB:∀l:List Int,(pairUp l).length<=l.length
 | p::q::r=>by
  have:=CB r;simp only[pairUp,bN];omega
 | []=>aG _
 | [_]=>by simp[pairUp]
theorem vN:∀(l:List Int),∀t∈pairUp l,t.1∈l/\t.2∈l
 | p::q::r,t,z=>by
  rw[pairUp,aq]at z;rcases z with e | z
  ·subst e;simp
  obtain⟨D,I⟩:=vN r t z;exact⟨by simp[D],by simp[I]⟩
 | [],t,z=>by cases z
 | [_],t,z=>by cases z
theorem RM(l:List aR)(b:aR):(fj l b).length<=l.length+1:=by
 unfold fj;split
 ·omega
 split
 ·split
  ·simp
  simp
 simp
structure Xy(ys:List Int)(up:List aB)(K:Int):Prop where
 ris:ct ys
 srt:up.Pairwise fun a b=>a.x0<=b.x0
 even:∀y,(oD up y).length % 2=0
 yk:∀y∈ys,-K<=y/\y<=K
 xk:∀r∈up,-K<=r.x0/\r.x0<=K
theorem EJ{l:List Int}{k:Nat}(h:k<l.length):l.getD k 0∈l:=by
 rw[F1,aW h];exact o5 h
theorem p7{ys:List Int}{up:List aB}{K:Int}(h:Xy ys up K):∀k,k<ys.length->dF (eE ys up k)/\(∀t∈eE ys up k,t.y1<=ys.getD k 0)/\gy K (eE ys up k)/\(eE ys up k).length<=k/\∀t∈eE ys up k,t.xs.length<=up.length
 | 0,_=>⟨trivial,fun t z=>(by cases z),fun t z=>(by cases z),aG _,fun t z=>(by cases z)⟩
 | k+1,hk=>by
  obtain⟨V,W,Y,h4,Z⟩:=p7 h k (by omega);obtain⟨x1,x2,x3,x4⟩:=xH h.srt (ys.getD k 0);have eX:ys.getD k 0<ys.getD (k+1) 0:=by
   have:=(cS.1 h.ris) k (k+1) (by omega) hk (by omega);rw[F1,F1,aW (by omega),aW hk];exact this
  obtain⟨p1,N,p3,O⟩:=rO (b:=I3 ys up k) V eX (rN _ x1) W;have ky:=h.yk _ (EJ (l:=ys) (k:=k) (by omega));have ky1:=h.yk _ (EJ hk);have R:∀a∈oD up (ys.getD k 0),-K<=a/\a<=K:=fun a ha=>by
   obtain⟨r,hr,rfl⟩:=x2 a ha;exact h.xk r hr
  have bx:∀p∈(I3 ys up k).xs,-K<=p.1/\p.2<=K:=fun p hp=>⟨(R _ (vN _ p hp).1).1,(R _ (vN _ p hp).2).2⟩;refine⟨p1,N,fun t z=>?_,?_,fun t z=>?_⟩
  ·have U:=N t z;have U:t.y1<=ys.getD (k+1) 0:=U;rcases O t z with⟨u,J,D,I⟩ | ⟨D,I⟩
   ·obtain⟨g1,g2,g3⟩:=Y u J;rw[<-I,<-D];exact⟨g1,by omega,g3⟩
   rw[I,D];exact⟨ky.1,by omega,bx⟩
  ·have:=RM (eE ys up k) (I3 ys up k);rw[eE];omega
  rcases O t z with⟨u,J,D,I⟩ | ⟨D,I⟩
  ·rw[<-D];exact Z u J
  rw[D];have:=CB (oD up (ys.getD k 0));show (pairUp (oD up (ys.getD k 0))).length<=_;omega
end Reg
namespace M
open Go.AM Go.RowKit Go.Lib
open Reg (aB cw aR dF gy ct told iL RI me fg)
structure cR where
 img:List aR
 clear:Bool
 tool:Int
 px:Int
 py:Int
 placed:Bool
 off:Int
 on:Int
def p8(u:Int)(r:aB):aB:=⟨r.x0*u,r.y0*u,r.x1*u,r.y1*u⟩
def mW(p:cy)(t:dD):List aR:=Reg.cH (t.aE.map (p8 p.unit))
def xI(p:cy)(k:Int):List aR:=(p.tools.map (mW p)).getD k.toNat []
def CC(s:List aR):Bool:=decide (s=[])||Reg.jq (fg s)
def RN(m:cR)(s:List aR):cR:={ m with img:=if m.clear=true then iL m.img s else RI m.img s }
def pJ(m:cR)(s:List aR):cR×Int:=if CC s=true then (RN m s,if 2000<(told (RN m s).img).length then 2 else 0) else (m,1)
def mB(p:Int×Int):Bool:=Reg.iZ p.1&&Reg.iZ p.2
def DT(a b:Int×Int):Int:=max (a.1-b.1) (b.1-a.1)+max (a.2-b.2) (b.2-a.2)
def CD(lit:Bool)(m:cR)(q:Int×Int):cR:={ m with px:=q.1,py:=q.2,placed:=true,off:=if m.placed=true/\lit=false then m.off+DT (m.px,m.py) q else m.off,on:=if m.placed=true/\lit=true then m.on+DT (m.px,m.py) q else m.on }
def mR(lit:Bool)(m:cR)(q:Int×Int):cR×Int:=if mB q=true then (CD lit m q,0) else (m,1)
def s_(s:List aR)(p q:Int×Int):List aR:=me s (0-min p.1 q.1) (max p.1 q.1) (0-min p.2 q.2) (max p.2 q.2)
def p9(p:cy)(m:cR)(q:Int×Int):cR×Int:=if m.tool<0 then (m,11) else if (mR false m q).2=0 then pJ (mR false m q).1 (s_ (xI p m.tool) q q) else mR false m q
def vd(p:cy)(m:cR)(q:Int×Int):cR×Int:=if m.tool<0\/m.placed=false then (m,11) else if ¬q.1=m.px/\¬q.2=m.py then (m,3) else if (mR true m q).2=0 then pJ (mR true m q).1 (s_ (xI p m.tool) (m.px,m.py) q) else mR true m q
def dx(u:Int)(mf q:Int×Int):Int×Int:=(q.1*u+mf.1,q.2*u+mf.2)
def JM(l:List (Int×Int)):List Int:=compact (pC (l.map (·.2)))
def xJ(l:List (Int×Int)):List aB:=eO Dn (Reg.jG l l.length)
def jT(l:List (Int×Int)):List aR:=Reg.eE (JM l) (xJ l) ((JM l).length-1)
def ve(p:cy)(m:cR)(l:List (Int×Int))(mf:Int×Int):cR×Int:=
 if 2000<(told (jT (l.map (dx p.unit mf)))).length then (m,2) else if ((l.map (dx p.unit mf)).any fun q=>!mB q)=true then (m,1) else pJ m (jT (l.map (dx p.unit mf)))
def goN(f:Nat->cR->cR×Int):Nat->Nat->cR->cR×Int
 | 0,_,m=>(m,0)
 | n+1,k,m=>if (f k m).2=0 then goN f n (k+1) (f k m).1 else f k m
def Ta(p:cy)(s:gp)(mf:Int×Int)(j i:Nat):Int×Int:=(mf.1+i*s.x*p.unit,mf.2+j*s.y*p.unit)
def I4(p:cy)(s:gp)(run:Int×Int->cR->cR×Int)(mf:Int×Int)(j:Nat)(m:cR):cR×Int:=goN (fun i m=>run (Ta p s mf j i) m) s.nx.toNat 0 m
def pK(p:cy)(s:gp)(run:Int×Int->cR->cR×Int)(mf:Int×Int)(m:cR):cR×Int:=
 if s.kind=1\/s.kind=2 then ({ m with clear:=decide (s.kind=2) },0) else
 if s.kind=3 then ({ m with tool:=jE dD.name p.tools s.name },0) else
 if s.kind=4 then mR false m (dx p.unit mf (s.x,s.y)) else
 if s.kind=5 then p9 p m (dx p.unit mf (s.x,s.y)) else
 if s.kind=6 then vd p m (dx p.unit mf (s.x,s.y)) else
 if s.kind=7 then ve p m s.pts mf else
 if s.kind=8 then goN (I4 p s run mf) s.ny.toNat 0 m else (m,0)
def runM(p:cy):Steps->Int×Int->cR->cR×Int
 | .nil,_,m=>(m,0)
 | .cons s sub rest,mf,m=>if (pK p s (runM p sub) mf m).2=0 then runM p rest mf (pK p s (runM p sub) mf m).1 else pK p s (runM p sub) mf m
def mX:cR:=⟨[],false,-1,0,0,false,0,0⟩
def bS(p:cy):List aR×Int:=if cN p=0 then (if (runM p p.steps (0,0) mX).2=0 then ((runM p p.steps (0,0) mX).1.img,0) else ([],(runM p p.steps (0,0) mX).2)) else ([],cN p)
structure fh(p:cy)(K:Int)(m:cR):Prop where
 sok:dF m.img
 ink:gy 1000000 m.img
 tool:-1<=m.tool/\m.tool<p.tools.length
 px:-1000000<=m.px/\m.px<=1000000
 py:-1000000<=m.py/\m.py<=1000000
 off:0<=m.off/\m.off<=4000000*K
 on:0<=m.on/\m.on<=4000000*K
theorem fh.mono{p:cy}{K L:Int}{m:cR}(h:fh p K m)(hl:K<=L):fh p L m:=⟨h.sok,h.ink,h.tool,h.px,h.py,⟨h.off.1,by have:=h.off.2;omega⟩,⟨h.on.1,by have:=h.on.2;omega⟩⟩
theorem fh.zero(p:cy):fh p 0 mX:=⟨trivial,fun b hb=>(by cases hb),⟨by decide,by show (-1:Int)<_;omega⟩,by decide,by decide,by decide,by decide⟩
theorem EK{n:Int}(h:Reg.iZ n=true):-1000000<=n/\n<=1000000:=by simpa [Reg.iZ] using h
theorem qy{q:Int×Int}(h:mB q=true):(-1000000<=q.1/\q.1<=1000000)/\(-1000000<=q.2/\q.2<=1000000):=by
 rw[mB,aJ]at h;exact⟨EK h.1,EK h.2⟩
variable {s:List aR}
theorem M0(z:dF s)(h:CC s=true):gy 1000000 s:=by
 rw[CC,gF,db]at h;by_cases I:s=[]
 ·subst I;exact fun b hb=>(by cases hb)
 rcases h with h | h
 ·exact absurd h I
 obtain⟨_,D,_⟩:=Reg.GD z I;simp only[Reg.jq,aJ]at h;obtain⟨⟨⟨J,N⟩,O⟩,R⟩:=h;have J:=EK J;have N:=EK N;have O:=EK O;have R:=EK R;have key:∀b∈s,∀p∈b.xs,-1000000<=b.y0/\b.y1<=1000000/\-1000000<=p.1/\p.2<=1000000:=fun b hb p hp=>by
  have eX:=(z.mem b hb).lt;have qH:=Reg.iK (z.mem b hb).can p hp;have U:∀x y,p.1<=x->x<p.2->b.y0<=y->y<b.y1->Reg.at' s x y=true:=fun x y V D W Y=>by
   rw[<-Reg.Ct z];exact ee.2 ⟨_,Reg.mA.2 ⟨b,hb,p,hp,rfl⟩,Reg.dC.2 ⟨V,D,W,Y⟩⟩
  have b1:=Reg.dC.1 (D p.1 b.y0 (U _ _ (by omega) (by omega) (by omega) (by omega)));have b2:=Reg.dC.1 (D (p.2-1) (b.y1-1) (U _ _ (by omega) (by omega) (by omega) (by omega)));omega
 intro b hb;obtain⟨p,hp⟩:=AD _ (z.mem b hb).ne;exact⟨(key b hb p hp).1,(key b hb p hp).2.1,fun q Z=>(key b hb q Z).2.2⟩
theorem CE{p:cy}{K:Int}{m:cR}(h:fh p K m)(z:dF s):fh p K (pJ m s).1:=by
 unfold pJ;split
 ·rename_i D;have ks:=M0 z D;obtain⟨l1,_,I⟩:=Reg.oC h.sok z;obtain⟨J,_,N⟩:=Reg.I0 h.sok z;refine⟨?_,?_,h.tool,h.px,h.py,h.off,h.on⟩
  ·show dF (if m.clear=true then iL m.img s else RI m.img s);split
   ·exact l1
   exact J
  show gy 1000000 (if m.clear=true then iL m.img s else RI m.img s);split
  ·exact I _ h.ink ks
  exact N _ h.ink ks
 exact h
theorem RO{a b:Int×Int}(h1:-1000000<=a.1/\a.1<=1000000)(h2:-1000000<=a.2/\a.2<=1000000)(h3:-1000000<=b.1/\b.1<=1000000)(h4:-1000000<=b.2/\b.2<=1000000):0<=DT a b/\DT a b<=4000000:=by
 unfold DT;omega
variable {lit:Bool}
theorem RP{p:cy}{K:Int}{m:cR}{q:Int×Int}(h:fh p K m)(z:mB q=true):fh p (K+1) (CD lit m q):=by
 have z:=qy z;have hf:=RO (a:=(m.px,m.py)) (b:=q) h.px h.py z.1 z.2;have h1:=h.off;have h2:=h.on;refine⟨h.sok,h.ink,h.tool,z.1,z.2,?_,?_⟩
 ·unfold CD;dsimp only;split<;>omega
 unfold CD;dsimp only;split<;>omega
theorem rS{p:cy}{K:Int}{m:cR}{q:Int×Int}(h:fh p K m):fh p (K+1) (mR lit m q).1:=by
 unfold mR;split
 ·rename_i z;exact RP h z
 exact h.mono (by omega)
structure dV(p:cy):Prop where
 unit:1<=p.unit/\p.unit<=1000
 tools:p.tools.length<=200
 aE:∀t∈p.tools,t.aE.length<=2000/\∀r∈t.aE.map (p8 p.unit),Reg.Full r/\Reg.RK 1000000 r
 cnt:cntF p.steps<=3000
 steps:gO p p.steps 0=0
theorem zc{n u:Int}(h:lC n u=true):-1000000<=n*u/\n*u<=1000000:=by simpa [lC] using h
theorem EL{p:cy}(h:cN p=0):dV p:=by
 unfold cN at h;split at h
 ·rename_i D;have D:=cd.1 D;split at h
  ·cases h
  rename_i ht;obtain⟨W,I⟩:=dp h;split at I
  ·cases I
  rename_i hc;refine⟨D,by omega,fun t J=>?_,by omega,I⟩;obtain⟨i,hi⟩:=List.getElem?_of_mem J;have hb:=cP W i (by omega) (by have:=(az.1 hi).1;omega);simp only[pF,hi]at hb;have hb:=(dp hb).1;unfold zV at hb;split at hb
  ·unfold Cf at hb;split at hb
   ·cases hb
   split at hb
   ·cases hb
   refine⟨by omega,fun r z=>?_⟩;obtain⟨q,Y,rfl⟩:=aZ.1 z;obtain⟨j,V⟩:=List.getElem?_of_mem Y;have z:=cP hb j (by omega) (by have:=(az.1 V).1;omega);simp only[uq,V]at z;split at z
   ·split at z
    ·split at z
     ·split at z
      ·rename_i N O R U;have N:=zc N;have O:=zc O;have R:=zc R;have U:=zc U;split at z
       ·cases z
       split at z
       ·cases z
       rename_i b1 b2;have Z:q.x0*p.unit<q.x1*p.unit:=rR (by omega) (by omega);have c2:q.y0*p.unit<q.y1*p.unit:=rR (by omega) (by omega);exact⟨⟨Z,c2⟩,⟨N.1,O.1,R.2,U.2⟩⟩
      cases z
     cases z
    cases z
   cases z
  cases hb
 cases h
theorem RQ{p:cy}(hp:dV p){t:dD}(I:t∈p.tools):dF (mW p t)/\gy 1000000 (mW p t):=by
 obtain⟨_,D⟩:=hp.aE t I;obtain⟨J,_,N⟩:=Reg.eS fun r z=>(D r z).1;exact⟨J,N _ fun r z=>(D r z).2⟩
theorem RS{p:cy}{k:Nat}{t:dD}(h:p.tools[k]?=some t):xI p k=mW p t:=by
 rw[xI,F0,F1,aD,h];rfl
theorem nX{p:cy}(hp:dV p)(k:Int):dF (xI p k)/\gy 1000000 (xI p k):=by
 unfold xI;rw[F1,aD];cases h:p.tools[k.toNat]? with
 | none=>exact⟨trivial,fun b hb=>(by cases hb)⟩
 | some t=>exact RQ hp (aj h)
theorem uA(D:dF s)(ks:gy 1000000 s){a b:Int×Int}(I:mB a=true)(J:mB b=true):dF (s_ s a b)/\gy 2000000 (s_ s a b):=by
 have I:=qy I;have J:=qy J;have N:∀r∈(told s).map (Reg.jr (0-min a.1 b.1) (max a.1 b.1) (0-min a.2 b.2) (max a.2 b.2)),Reg.Full r/\Reg.RK 2000000 r:=fun r z=>by
  obtain⟨q,O,rfl⟩:=aZ.1 z;have R:=Reg.nW D q O;have U:=Reg.ux D ks q O;unfold Reg.Full at R ⊢;unfold Reg.RK at U ⊢;unfold Reg.jr;dsimp only;omega
 obtain⟨V,_,W⟩:=Reg.eS fun r z=>(N r z).1;exact⟨V,W _ fun r z=>(N r z).2⟩
theorem OJ{p:cy}(hp:dV p){K:Int}{m:cR}{q:Int×Int}(h:fh p K m):fh p (K+1) (p9 p m q).1:=by
 unfold p9;split
 ·exact h.mono (by omega)
 split
 ·rename_i z;have D:mB q=true:=by
   unfold mR at z;split at z
   ·assumption
   cases z
  exact CE (rS h) (uA (nX hp _).1 (nX hp _).2 D D).1
 exact rS h
theorem RT{x y:Int}(z:-1000000<=x/\x<=1000000)(D:-1000000<=y/\y<=1000000):mB (x,y)=true:=by
 simp[mB,Reg.iZ,z,D]
theorem RU{p:cy}(hp:dV p){K:Int}{m:cR}{q:Int×Int}(h:fh p K m):fh p (K+1) (vd p m q).1:=by
 unfold vd;split
 ·exact h.mono (by omega)
 split
 ·exact h.mono (by omega)
 split
 ·rename_i z;refine CE (rS h) (uA (nX hp _).1 (nX hp _).2 (RT h.px h.py) ?_).1;unfold mR at z;split at z
  ·assumption
  cases z
 exact rS h
theorem CF(l:List (Int×Int)):ct (JM l)/\∀y,y∈JM l↔∃q∈l,y=q.2:=by
 have J:(pC (l.map (·.2))).Pairwise (·<=·):=by
  have:=Mw (le:=fun x y:Int=>decide (x<=y)) (fun a b c D I=>by simp at *;omega) (fun a b=>by simp;omega) (l.map (·.2));exact this.imp fun h=>by simpa using h
 obtain⟨D,I⟩:=u5 J;refine⟨D,fun y=>?_⟩;rw[JM,I,pC,(List.mergeSort_perm _ _).mem_iff,aZ];exact⟨fun ⟨q,z,e⟩=>⟨q,z,e.symm⟩,fun ⟨q,z,e⟩=>⟨q,z,e.symm⟩⟩
theorem Ll{l:List (Int×Int)}{y:Int}:y∈JM l↔∃q∈l,y=q.2:=(CF l).2 y
theorem RV(l:List (Int×Int)):(JM l).length<=l.length:=by
 have z:(JM l).Nodup:=(CF l).1.imp fun h=>by omega
 have:=List.Nodup.length_le_of_subset z (l₂:=l.map (·.2)) fun y D=>by
  obtain⟨q,I,rfl⟩:=Ll.1 D;exact aZ.2 ⟨q,I,rfl⟩
 simpa using this
theorem RW{f:Nat->Bool}{n:Nat}(h:Ao f n=true)(i:Nat)(hi:i<n):f i=true:=by
 cases e:f i with
 | true=>rfl
 | false=>rw[xn e hi]at h;cases h
theorem I5{l:List (Int×Int)}(h:Ch l=true)(u:Int)(hu:1<=u)(z:Int×Int):4<=l.length/\Reg.OI (l.map (dx u z)):=by
 rw[Ch,aJ,db]at h;refine⟨h.1,fun i hi=>?_⟩;rw[au]at hi;have D:=RW h.2 i hi;have J:(i+1) % l.length<l.length:=na _ (by omega);obtain⟨a,I⟩:=ao (l:=l) (i:=i) hi;obtain⟨b,hb⟩:=ao (l:=l) (i:=(i+1) % l.length) J;simp only[IL,I,hb]at D;have N:Reg.mQ (l.map (dx u z)) i=dx u z a:=by
  rw[Reg.mQ,au,E5 hi,F1,aD,I];rfl
 have O:Reg.mQ (l.map (dx u z)) (i+1)=dx u z b:=by
  rw[Reg.mQ,au,F1,aD,hb];rfl
 rw[N,O];unfold dx;dsimp only;by_cases c:a.1=b.1
 ·exact .inl (by rw[c])
 by_cases d:a.2=b.2
 ·exact .inr (by rw[d])
 rw[aY c,aY d]at D;cases D
theorem RX{l:List (Int×Int)}{K:Int}(hK:K<=4000000000000)(hl:∀q∈l,(-K<=q.1/\q.1<=K)/\(-K<=q.2/\q.2<=K))(z:0<l.length)(k:Nat):∀r∈Reg.jG l k,Bd r/\-K<=r.x0/\r.x0<=K:=fun r D=>by
 obtain⟨a,I,b,hb,rfl⟩:=Reg.MZ z k r D;have h1:=hl a I;have h2:=hl b hb;unfold Bd;dsimp only;omega
theorem EM{l:List (Int×Int)}{K:Int}(J:K<=4000000000000)(hl:∀q∈l,(-K<=q.1/\q.1<=K)/\(-K<=q.2/\q.2<=K))(N:0<l.length)(O:Reg.OI l):Reg.Xy (JM l) (xJ l) K:=by
 have hb:=RX J hl N l.length;obtain⟨D,I⟩:=pB fun r z=>(hb r z).1;refine⟨(CF l).1,I,fun y=>?_,fun y R=>?_,fun r z=>(hb r (D.mem_iff.1 z)).2⟩
 ·obtain⟨_,_,U,_⟩:=Reg.xH I y;rw[xJ,U,(D.filter _).length_eq];exact Reg.RL O y
 obtain⟨q,V,rfl⟩:=Ll.1 R;exact (hl q V).2
theorem vO{l:List (Int×Int)}{K:Int}(D:K<=4000000000000)(hl:∀q∈l,(-K<=q.1/\q.1<=K)/\(-K<=q.2/\q.2<=K))(z:0<l.length)(I:Reg.OI l):dF (jT l)/\gy K (jT l)/\(jT l).length<=l.length/\∀t∈jT l,t.xs.length<=l.length:=by
 have J:0<(JM l).length:=by
  obtain⟨q,N⟩:=List.exists_mem_of_length_pos z;exact MV (Ll.2 ⟨q,N,rfl⟩)
 obtain⟨O,_,R,h4,U⟩:=Reg.p7 (EM D hl z I) ((JM l).length-1) (by omega);have hb:=RX D hl z l.length;obtain⟨V,_⟩:=pB fun r W=>(hb r W).1;have Y:(xJ l).length<=l.length:=by
  rw[xJ,V.length_eq];exact Reg.GI l l.length
 have J:=RV l;exact⟨O,R,by unfold jT;omega,fun t Z=>aS (U t Z) Y⟩
theorem RY{p:cy}(hp:dV p){K:Int}{m:cR}{l:List (Int×Int)}{z:Int×Int}(h:fh p K m)(I:Ch l=true):fh p (K+1) (ve p m l z).1:=by
 unfold ve;have h:=h.mono (L:=K+1) (by omega);obtain⟨r1,J⟩:=I5 I p.unit hp.unit.1 z;split
 ·exact h
 split
 ·exact h
 rename_i D;refine CE h (vO (K:=1000000) (by omega) (fun q N=>?_) (by rw[au];omega) J).1;rw[xl,GF]at D;have:=D q N;exact qy (by simpa using this)
def jH:Steps->Int
 | .nil=>0
 | .cons s sub rest=>1+tm s.nx*tm s.ny*jH sub+jH rest
theorem nM:∀u,0<=jH u
 | .nil=>cz _
 | .cons s sub rest=>by
  have h1:=pE (by have:=sY s.nx s.ny;omega:0<=tm s.nx*tm s.ny) (nM sub);have h2:=nM rest;rw[jH];omega
theorem GJ:∀u,cntF u=cap (jH u)
 | .nil=>rfl
 | .cons s sub rest=>by
  have I:=nM sub;have J:=nM rest;have D:=sY s.nx s.ny;rw[cntF,jH,GJ sub,GJ rest];generalize jH rest=R at *;generalize jH sub=U at *;generalize tm s.nx*tm s.ny=t at *;by_cases c:3000<U
  ·have z:cap U=3001:=by rw[cap,ae c]
   have h3:1*3001<=t*3001:=jh D.1 (by omega);have N:1*U<=t*U:=jh D.1 (by omega);have O:=Rw J;rw[z];unfold cap at O ⊢;rw[ae (by omega),ae (by omega)]
  have z:cap U=U:=by rw[cap,aa c]
  have N:0<=t*U:=pE (by omega) I;rw[z];unfold cap
  repeat' split
  all_goals omega
theorem Uw{u:Steps}(h:cntF u<=3000):jH u<=3000:=by
 rw[GJ,cap]at h;split at h<;>omega
theorem go_inv{p:cy}{f:Nat->cR->cR×Int}{c:Int}(D:0<=c)(z:∀k m K,fh p K m->fh p (K+c) (f k m).1):∀(n k:Nat) (m:cR) (K:Int),fh p K m->fh p (K+(n:Int)*c) (goN f n k m).1
 | 0,k,m,K,h=>by rw[goN];exact h.mono (by simp)
 | n+1,k,m,K,h=>by
  have e:((n+1:Nat):Int)*c=n*c+c:=by rw[Ba,GG];simp
  have h0:0<=(n:Int)*c:=pE (by omega) D;rw[goN];split
  ·exact (go_inv D z n (k+1) _ _ (z k m K h)).mono (by omega)
  exact (z k m K h).mono (by omega)
theorem GK{n:Int}(h:gT n 1 100=true):(n.toNat:Int)=tm n:=by
 have h1:=cd.1 h;rw[tm,ae h];omega
theorem CG{p:cy}{s:gp}{n:Nat}{d:Int}(h:jm p s n d=0):gT s.kind 1 8=true/\kS (s.x,s.y) p.unit=true/\(∀q∈s.pts,kS q p.unit=true)/\s.pts.length<=2000/\(s.kind=7->Ch s.pts=true)/\(s.kind=8->gT s.nx 1 100=true/\gT s.ny 1 100=true/\d<5):=by
 unfold jm at h;split at h
 case isFalse=>cases h
 rename_i D;split at h
 ·cases h
 split at h
 ·cases h
 split at h
 case isFalse=>cases h
 rename_i I;split at h
 ·cases h
 rename_i z;split at h
 ·cases h
 rename_i h4;split at h
 ·cases h
 rename_i J;refine⟨D,I,fun q N=>?_,by omega,fun hk=>?_,fun hk=>?_⟩
 ·rw[xl,GF]at z;simpa using z q N
 ·cases hb:Ch s.pts with
  | true=>rfl
  | false=>exact absurd ⟨hk,hb⟩ J
 rw[ae hk]at h;split at h
 case isFalse=>cases h
 rename_i O;split at h
 case isFalse=>cases h
 rename_i R;split at h
 ·cases h
 split at h
 ·cases h
 exact⟨O,R,by omega⟩
theorem Xz{p:cy}(x:ByteArray):-1<=jE dD.name p.tools x/\jE dD.name p.tools x<p.tools.length:=by
 by_cases h:0<=jE dD.name p.tools x
 ·obtain⟨k,y,e,hk,_⟩:=xp h;have:=(az.1 hk).1;omega
 have D:decide (0<=jE dD.name p.tools x)=_:=eZ (fun y:dD=>decide (y.name=x)) p.tools 0;rw[aY h]at D;have:jE dD.name p.tools x=-1:=cT fun z I=>by
  have:=GF.1 D.symm z I;simpa using this
 omega
theorem I6{p:cy}(hp:dV p){s:gp}{n:Nat}{d:Int}(O:jm p s n d=0){c:Int}(D:0<=c){run:Int×Int->cR->cR×Int}(R:∀b m K,fh p K m->fh p (K+c) (run b m).1)(I:Int×Int)(m:cR)(K:Int)(h:fh p K m):fh p (K+(1+tm s.nx*tm s.ny*c)) (pK p s run I m).1:=by
 obtain⟨f1,f2,f3,f4,U,V⟩:=CG O;have ht:=sY s.nx s.ny;have h0:0<=tm s.nx*tm s.ny*c:=pE (by omega) D;have z:=h.mono (L:=K+(1+tm s.nx*tm s.ny*c)) (by omega);have up:∀{J:cR},fh p (K+1) J->fh p (K+(1+tm s.nx*tm s.ny*c)) J:=fun h=>h.mono (by omega);unfold pK;split
 ·exact⟨z.sok,z.ink,z.tool,z.px,z.py,z.off,z.on⟩
 split
 ·exact⟨z.sok,z.ink,Xz _,z.px,z.py,z.off,z.on⟩
 split
 ·exact up (rS h)
 split
 ·exact up (OJ hp h)
 split
 ·exact up (RU hp h)
 split
 ·rename_i hk;exact up (RY hp h (U hk))
 split
 ·rename_i hk;obtain⟨W,Y,_⟩:=V hk;have Z:=GK W;have e2:=GK Y;have hx:∀k m K,fh p K m->fh p (K+tm s.nx*c) (I4 p s run I k m).1:=fun k m K h=>by
   have:=go_inv D (fun i m K h=>R (Ta p s I k i) m K h) s.nx.toNat 0 m K h;rw[Z]at this;exact this
  have N:=go_inv (pE (by have:=Rv s.nx;omega) D) hx s.ny.toNat 0 m K h;rw[e2]at N;refine N.mono ?_;have:tm s.ny*(tm s.nx*c)=tm s.nx*tm s.ny*c:=by rw[<-xF,Int.mul_comm (tm s.ny)]
  omega
 exact z
theorem uB{p:cy}(hp:dV p):∀(u:Steps) (d:Int),gO p u d=0->∀z m K,fh p K m->fh p (K+jH u) (runM p u z m).1
 | .nil,d,D,z,m,K,h=>by rw[runM,jH];exact h.mono (by omega)
 | .cons s sub rest,d,D,z,m,K,h=>by
  rw[gO]at D;obtain⟨N,I⟩:=dp D;obtain⟨I,O⟩:=dp I;have J:=I6 hp N (nM sub) (fun b m K h=>uB hp sub (d+1) I b m K h) z m K h;have h0:=nM rest;rw[runM,jH];split
  ·exact (uB hp rest d O z _ _ J).mono (by omega)
  exact J.mono (by omega)
def EN(m:cR):Prop:=(told m.img).length<=2000
theorem CH{m:cR}(h:(pJ m s).2=0):EN (pJ m s).1:=by
 unfold pJ at h ⊢;split at h
 ·rename_i z;rw[ae z];dsimp only at h;split at h
  ·cases h
  unfold EN;dsimp only;omega
 cases h
theorem GL{m:cR}{q:Int×Int}(h:EN m):EN (mR lit m q).1:=by
 unfold mR;split<;>exact h
theorem OL{p:cy}{m:cR}{q:Int×Int}(h:EN m)(z:(p9 p m q).2=0):EN (p9 p m q).1:=by
 unfold p9 at z ⊢;split
 ·exact h
 rename_i D;rw[aa D]at z;split
 ·rename_i I;rw[ae I]at z;exact CH z
 exact GL h
theorem RZ{p:cy}{m:cR}{q:Int×Int}(h:EN m)(z:(vd p m q).2=0):EN (vd p m q).1:=by
 unfold vd at z ⊢;split
 ·exact h
 rename_i D;rw[aa D]at z;split
 ·exact h
 rename_i I;rw[aa I]at z;split
 ·rename_i J;rw[ae J]at z;exact CH z
 exact GL h
theorem R0{p:cy}{m:cR}{l:List (Int×Int)}{D:Int×Int}(h:EN m)(z:(ve p m l D).2=0):EN (ve p m l D).1:=by
 unfold ve at z ⊢;split
 ·exact h
 rename_i I;rw[aa I]at z;split
 ·exact h
 rename_i J;rw[aa J]at z;exact CH z
theorem go_few{f:Nat->cR->cR×Int}(D:∀k m,EN m->(f k m).2=0->EN (f k m).1):∀(n k:Nat) (m:cR),EN m->(goN f n k m).2=0->EN (goN f n k m).1
 | 0,k,m,h,_=>h
 | n+1,k,m,h,h0=>by
  rw[goN]at h0 ⊢;split
  ·rename_i z;rw[ae z]at h0;exact go_few D n (k+1) _ (D k m h z) h0
  rename_i z;rw[aa z]at h0;exact absurd h0 z
theorem R1{p:cy}{s:gp}{run:Int×Int->cR->cR×Int}(J:∀b m,EN m->(run b m).2=0->EN (run b m).1)(I:Int×Int)(m:cR)(h:EN m)(z:(pK p s run I m).2=0):EN (pK p s run I m).1:=by
 unfold pK at z ⊢;split
 ·exact h
 rename_i D;rw[aa D]at z;split
 ·exact h
 rename_i D;rw[aa D]at z;split
 ·exact GL h
 rename_i D;rw[aa D]at z;split
 ·rename_i D;rw[ae D]at z;exact OL h z
 rename_i D;rw[aa D]at z;split
 ·rename_i D;rw[ae D]at z;exact RZ h z
 rename_i D;rw[aa D]at z;split
 ·rename_i D;rw[ae D]at z;exact R0 h z
 rename_i D;rw[aa D]at z;split
 ·rename_i D;rw[ae D]at z;exact go_few (fun j m h z=>go_few (fun i m h z=>J _ m h z) _ _ _ h z) _ _ _ h z
 exact h
theorem GM{p:cy}:∀(u:Steps) (D:Int×Int) (m:cR),EN m->(runM p u D m).2=0->EN (runM p u D m).1
 | .nil,D,m,h,_=>h
 | .cons s sub rest,D,m,h,z=>by
  rw[runM]at z ⊢;split
  ·rename_i I;rw[ae I]at z;exact GM rest D _ (R1 (fun b m h z=>GM sub b m h z) D m h I) z
  rename_i I;rw[aa I]at z;exact absurd z I
theorem rT{p:cy}(h:(bS p).2=0):dF (bS p).1/\gy 1000000 (bS p).1/\(told (bS p).1).length<=2000:=by
 unfold bS at h ⊢;split at h
 ·rename_i z;rw[ae z];split at h
  ·rename_i D;rw[ae D];have hp:=EL z;have:=uB hp p.steps 0 hp.steps (0,0) mX 0 (fh.zero p);exact⟨this.sok,this.ink,GM _ _ _ (show (told []).length<=2000 from ak _) D⟩
  rename_i D;exact absurd h D
 rename_i z;exact absurd h z
open Reg (cm Lg jr Canon Full RK)
theorem DU(s:List aR)(D:dF s)(ks:gy 1000000 s)(l r d u:Int)(hl:-1000000<=l/\l<=1000000)(hr:-1000000<=r/\r<=1000000)(hd:-1000000<=d/\d<=1000000)(hu:-1000000<=u/\u<=1000000)(hlr:0<=l+r)(hdu:0<=d+u):ai C 252 [.pv (a_ s),.pv (i64 l),.pv (i64 r),.pv (i64 d),.pv (i64 u)] (.p (a_ (me s l r d u))) []:=by
 refine fW hC Tryz.func252 rfl (by kernel_rfl) fun _=>?_;have ls:=Reg.eW D (by omega) ks;have O:=Reg.rP D (by omega) ks;have lt:=Reg.lO D (ks.up (B:=1400000) (by omega));have I:=Reg.nW D;have J:=Reg.ux D ks;refine⟨_,_,(rz s (by omega) (fun t R=>by have:=O t R;omega) lt),?_⟩;have U:=qx ((told s).map (jr l r d u)) 2000000 (by omega) (by omega) (fun q z=>by
  obtain⟨p,hp,rfl⟩:=aZ.1 z;have:=I p hp;unfold Full at this;exact⟨by show p.x0-l<p.x1+r;omega,by show p.y0-d<p.y1+u;omega⟩) (fun q z=>by
  obtain⟨p,hp,rfl⟩:=aZ.1 z;have:=J p hp;unfold RK at this;exact⟨by show -2000000<=p.x0-l;omega,by show -2000000<=p.y0-d;omega,by show p.x1+r<=2000000;omega,by show p.y1+u<=2000000;omega⟩) (by rw[au];exact lt)
 rw[show me s l r d u=Reg.cH ((told s).map (jr l r d u)) from rfl];generalize told s=L at *;have V:=fun i=>an (uQ l r d u L i) rc;have W:=Ut l r d u L;have m0:uQ l r d u L 0=L:=by simp[uQ]
 refine aP (fun i:Nat=>i<=L.length) (fun i=>[(1,.p (i64 l)),(2,.p (i64 r)),(3,.p (i64 d)),(4,.p (i64 u)),(11,.ow 11),(16,.ow 11),(17,.p (i64 (L.map rc).length)),(18,.p (i64 i))]) (fun i=>[(11,.row 93 ((uQ l r d u L i).map rc))]) (fun i=>L.length-i) 0 _ (aA.refl _ _) (ak _) ⟨Z,Z,Z,Z,Z,Z,Z,Z,Y⟩ ⟨by rw[m0];rfl,trivial⟩ fun i hi t h=>?_;have lmi:=V i;have mli:=W i;have lm0:=an L rc;apply iW<;>intro g1
 ·obtain⟨q,z⟩:=ao (l:=L) (i:=i) (by omega);have a:=J q (aj z);have b:=I q (aj z);unfold RK at a;unfold Full at b;have N:=Us (l:=l) (r:=r) (d:=d) (u:=u) z;have qh:=Uu (l:=l) (r:=r) (d:=d) (u:=u) z;refine⟨wO (by omega),(rc q),(idx rfl N).2,wO (by omega),wO (by omega),wO (by omega),wO (by omega),wO (by omega),(rc q),(idx rfl N).2,wO (by omega),?_⟩;have e5:∀k:Nat,k=i->AB.row 93 (((uQ l r d u L i).map rc).set k (rc (jr l r d u q)))=AB.row 93 ((uQ l r d u L (i+1)).map rc):=by
   intro k e;subst e;rw[<-w_,qh]
  exact⟨(i+1),_,aA.refl _ _,by omega,by omega,⟨Z,Z,Z,Z,Z,Z,Z,Z,Y⟩,⟨e5 _ rfl,trivial⟩⟩
 have e:uQ l r d u L i=L.map (jr l r d u):=by
  rw[uQ,cK (by omega),aT (by omega),dP]
 rw[e];refine⟨_,_,U,?_,trivial⟩;rfl
open Reg (at')
theorem XA{a b:List aR}(W:dF a)(z:dF b){K:Int}(Y:gy K b)(h:∀x y,at' a x y=true->at' b x y=true):gy K a:=fun t J=>by
 have bt:=W.mem t J;have lt:=bt.lt;have pin:∀x y,at' b x y=true->-K<=x/\x<K/\-K<=y/\y<K:=fun x y N=>by
  rw[<-Reg.Ct z,ee]at N;obtain⟨q,D,Z⟩:=N;obtain⟨O,R,U,V⟩:=Reg.dC.1 Z;obtain⟨g1,g2,g3,g4⟩:=Reg.ux z Y q D;exact⟨by omega,by omega,by omega,by omega⟩
 have pt:∀p∈t.xs,∀x y,p.1<=x->x<p.2->t.y0<=y->y<t.y1->at' b x y=true:=fun p hp x y O R U V=>h x y (Reg.zb.2 ⟨t,J,U,V,(Reg.dL bt.can x).2 ⟨p,hp,O,R⟩⟩);obtain⟨p,u,e⟩:∃p u,t.xs=p::u:=by
  cases hx:t.xs with
  | nil=>exact absurd hx bt.ne
  | cons p u=>exact⟨p,u,rfl⟩
 have I:p∈t.xs:=by rw[e];simp
 have pl:=Reg.iK bt.can p I;have c1:=pin p.1 t.y0 (pt p I _ _ (by omega) (by omega) (by omega) (by omega));have c2:=pin p.1 (t.y1-1) (pt p I _ _ (by omega) (by omega) (by omega) (by omega));refine⟨c1.2.2.1,by omega,fun q D=>?_⟩;have ql:=Reg.iK bt.can q D;have d1:=pin q.1 t.y0 (pt q D _ _ (by omega) (by omega) (by omega) (by omega));have d2:=pin (q.2-1) t.y0 (pt q D _ _ (by omega) (by omega) (by omega) (by omega));omega
theorem Ux{a b:List aR}(D:dF a)(z:dF b){K:Int}(I:gy K a):gy K (iL a b):=by
 obtain⟨J,N,_⟩:=Reg.oC D z;refine XA J D I fun x y h=>?_;rw[N,aJ]at h;exact h.1
structure VO(l:List aB):Prop where
 sok:dF (Reg.cH l)
 ink:gy 1000000 (Reg.cH l)
 at_:∀x y,at' (Reg.cH l) x y=l.any (Reg.oV x y)
 full:∀r∈l,Full r
 rk:∀r∈l,RK 1000000 r
 len:l.length<=2000
theorem R2{l:List aB}(h:Reg.bA l=0):VO l:=by
 have z:Reg.eo l=0:=by
  unfold Reg.bA at h;by_cases z:Reg.eo l=0
  ·exact z
  rw[aa z]at h;exact absurd h z
 obtain⟨N,I⟩:=Reg.vD z;have J:∀r∈l,Full r:=fun r D=>⟨(I r D).2.1,(I r D).2.2⟩;have hk:∀r∈l,RK 1000000 r:=fun r D=>by
  have:=(I r D).1;simp[Reg.jq,Reg.iZ]at this;exact⟨by omega,by omega,by omega,by omega⟩
 obtain⟨O,R,U⟩:=Reg.eS J;exact⟨O,U _ hk,R,J,hk,N⟩
theorem OM{l:List aB}(h:VO l):ai C 120 [.pv (aE l)] (.own 180 ((Reg.cH l).map hb)) []:=qx l 1000000 (by omega) (by omega) h.full h.rk (by have:=h.len;omega)
theorem R3(a b:List aR)(D:dF a)(z:dF b)(I:gy 2000000 a)(J:gy 2000000 b):ai C 251 [.pv (a_ a),.pv (a_ b)] (.p (a_ (RI a b))) []:=by
 refine fW hC Tryz.func251 rfl (by kernel_rfl) fun _=>?_;refine⟨_,_,(xG .or a b D z I J),?_,trivial⟩;rfl
end M
namespace Reg
structure dq where
 x:Int
 y:Int
 size:Int
 lo:Int
 hi:Int
 plated:Bool
structure oW where
 part:ByteArray
 pin:ByteArray
 layer:Int
 x:Int
 y:Int
structure yr where
 coppers:List (List aB)
 outline:List aB
 bores:List dq
 lands:List oW
def within(n lo hi:Int):Bool:=decide (lo<=n)&&decide (n<=hi)
def bM(b:dq):aB:=⟨b.x-b.size.tdiv 2,b.y-b.size.tdiv 2,b.x-b.size.tdiv 2+b.size,b.y-b.size.tdiv 2+b.size⟩
def ew(b:dq):Bool:=within b.size 1 10000&&(iZ b.x&&iZ b.y)
def gW(b:dq):Bool:=ew b&&jq (bM b)
def VP:aB:=⟨0,0,0,0⟩
def gd(b:dq):aB×Int:=if gW b=true then (bM b,0) else (VP,1)
theorem mC{b:dq}(h:ew b=true):Full (bM b):=by
 simp[ew,within,iZ]at h;exact⟨by simp[bM];omega,by simp[bM];omega⟩
theorem uC{b:dq}(h:ew b=true):RK 1010000 (bM b):=by
 simp[ew,within,iZ]at h;have h1:0<=b.size.tdiv 2/\b.size.tdiv 2<=b.size:=by
  rw[gM (by omega)];omega
 refine⟨?_,?_,?_,?_⟩<;>simp only[bM]<;>omega
theorem EO{r:aB}(h:Full r):cH [r]=[⟨r.y0,r.y1,[(r.x0,r.x1)]⟩]:=by
 have J:∀q∈[r],Full q:=fun q D=>by rw[bV]at D;subst D;exact h
 obtain⟨N,O,_⟩:=eS J;refine Cx _ _ N ?_ fun x y=>?_
 ·show dF [_];exact Cs (s:=[]) trivial ⟨h.2,by simp,Canon.cons h.1 (by simp) trivial⟩ (by simp) (by simp)
 rw[O,at_one];simp only[gK,List.any_nil,ph];rw[fV,dC];have:=h.1;by_cases z:x<r.x0
 ·simp[cm,par,z];omega
 by_cases I:x<r.x1
 ·simp[cm,par,z,I];omega
 simp[cm,par,z,I];omega
theorem Lm{r:aB}(h:Full r):fg (cH [r])=r:=by
 rw[EO h];simp[fg,iw,fv,jg,cm,fp]
def through(b:dq)(layer:Int):Bool:=decide (b.lo<=layer)&&decide (layer<=b.hi)
def uD(a0 a1 b0 b1:Int):Int:=max (max 0 (b0-a1+1)) (a0-b1+1)
def VQ(a b:aB):Int:=max (uD a.x0 a.x1 b.x0 b.x1) (uD a.y0 a.y1 b.y0 b.y1)
def M1(a b:aB)(n:Int):Int×Int:=(max a.x0 (b.x0-n),max a.y0 (b.y0-n))
def M3(p q:Int×Int):Bool:=decide (p.2<q.2)||(decide (p.2=q.2)&&decide (p.1<q.1))
def gr(n:Int):List dq->Int
 | []=>0
 | b::r=>if (gd b).2≠0 then (gd b).2 else if (within b.lo 0 (n-1)&&within b.hi b.lo (n-1))=true then gr n r else 1
def ez(a:yr):Int:=if 500<a.bores.length then 2 else gr a.coppers.length a.bores
theorem ON{n:Int}{l:List dq}{i:Nat}{b:dq}(h:l[i]?=some b):gr n (l.drop i)=if (gd b).2≠0 then (gd b).2 else if (within b.lo 0 (n-1)&&within b.hi b.lo (n-1))=true then gr n (l.drop (i+1)) else 1:=by
 have:l.drop i=b::l.drop (i+1):=by
  obtain⟨z,D⟩:=az.1 h;rw[fI z,D]
 rw[this];rfl
structure xK(n:Int)(b:dq):Prop where
 ok:gW b=true
 lo:0<=b.lo
 le:b.lo<=b.hi
 hi:b.hi<=n-1
theorem Ln{n:Int}:∀{l:List dq},gr n l=0->∀b∈l,xK n b:=by
 intro l
 induction l with
 | nil=>intro _ b hb;cases hb
 | cons c l ih=>
  intro h b hb;rw[gr]at h;by_cases z:(gd c).2≠0
  ·rw[ae z]at h;exact absurd h z
  rw[aa z]at h;by_cases D:(within c.lo 0 (n-1)&&within c.hi c.lo (n-1))=true
  ·rw[ae D]at h;rcases aq.1 hb with e | e
   ·subst e;simp[within]at D;refine⟨?_,by omega,by omega,by omega⟩;by_cases I:gW b=true
    ·exact I
    rw[gd,aa I]at z;simp at z
   exact ih h b e
  rw[aa D]at h;cases h
end Reg
namespace M
open Go.AM Go.RowKit Go.Lib
open Reg (aB cw aR cm dF gy Lg iL fg told jr me Canon Full RK at' dq oW yr bM gd ew gW through uD VQ M1 M3)
def bc(b:dq):List PV:=[i64 b.x,i64 b.y,i64 b.size,i64 b.lo,i64 b.hi,bool b.plated]
def lc(l:oW):List PV:=[str l.part,str l.pin,i64 l.layer,i64 l.x,i64 l.y]
theorem mg(n lo hi:Int):ai C 130 [.pv (i64 n),.pv (i64 lo),.pv (i64 hi)] (.p (bool (Reg.within n lo hi))) []:=by
 refine fW hC Tryz.func130 rfl (by kernel_rfl) fun _=>?_;apply iW<;>intro h<;>(refine⟨?_,trivial⟩)<;>simp[bool,Reg.within,h]
theorem oE(b:dq)(l:Int):ai C 133 [.pv (.ag (bc b)),.pv (i64 l)] (.p (bool (through b l))) []:=by
 refine fW hC Tryz.func133 rfl (by kernel_rfl) fun _=>?_;apply iW<;>intro h<;>(refine⟨?_,trivial⟩)<;>simp[bool,through,h]
theorem fA(b:dq)(h:ew b=true):ai C 76 [.pv (.ag (bc b))] (.p (.ag (rc (bM b)))) []:=by
 simp[ew,Reg.within,Reg.iZ]at h;have h1:0<=b.size.tdiv 2/\b.size.tdiv 2<=b.size:=by
  rw[gM (by omega)];omega
 refine fW hC Tryz.func76 rfl (by kernel_rfl) fun _=>?_;refine⟨by omega,wO (by omega),wO (by omega),by omega,wO (by omega),wO (by omega),wO (by omega),wO (by omega),?_,trivial⟩;rfl
theorem CI(s:List aR)(D:dF s)(ks:gy 2000000 s):ai C 183 [.pv (a_ s)] (.p (bool (decide (s=[])||Reg.jq (fg s)))) []:=by
 refine fW hC Tryz.func183 rfl (by kernel_rfl) fun _=>?_;have z:=an s hb;apply iW<;>intro h
 ·rw[z]at h;have e:s=[]:=cI (by omega);refine⟨?_,trivial⟩;simp[bool,e]
 rw[z]at h;have e:s≠[]:=fun e=>h (by rw[e];rfl);refine⟨_,_,(GH s D ks e),_,_,(wY (fg s)),?_,trivial⟩;simp[bool,e]
theorem DV(b:dq):ai C 129 [.pv (.ag (bc b))] (.tu [.ag (rc (gd b).1),i64 (gd b).2]) []:=by
 refine fW hC Tryz.func129 rfl (by kernel_rfl) fun _=>?_;refine⟨_,_,(mg b.size 1 10000),?_⟩;have no:gW b=false->gd b=(Reg.VP,1):=fun h=>by rw[gd,h];rfl
 apply iW<;>intro J
 ·refine⟨?_,trivial⟩;rw[no (by simp only[gW,ew];rw[J];rfl)];rfl
 refine⟨_,_,(dR b.x b.y),iW ?_ ?_⟩<;>intro O
 ·refine⟨?_,trivial⟩;rw[no (by simp only[gW,ew];rw[J,O];rfl)];rfl
 have z:ew b=true:=by simp only[ew];rw[J,O];rfl
 have N:=Reg.mC z;have hk:=Reg.uC z;have D:∀q∈[bM b],Full q:=fun q I=>by rw[bV]at I;subst I;exact N
 have R:∀q∈[bM b],RK 1010000 q:=fun q I=>by rw[bV]at I;subst I;exact hk
 obtain⟨W,b2,Y⟩:=Reg.eS D;have Z:=qx [bM b] 1010000 (by omega) (by omega) D R (by simp);have U:=CI (Reg.cH [bM b]) W ((Y _ R).up (by omega));rw[Reg.Lm N,show decide (Reg.cH [bM b]=[])=false by rw[Reg.EO N];rfl,iq]at U;refine⟨_,_,(fA b z),_,_,Z,_,_,U,iW ?_ ?_⟩<;>intro V
 ·refine⟨?_,trivial⟩;rw[no (by simp only[gW];rw[z,V];rfl)];rfl
 have e:gd b=(bM b,0):=by rw[gd,ae (by simp only[gW];rw[z,V];rfl)]
 refine⟨?_,trivial⟩;rw[e];rfl
theorem vf(z D b0 I:Int)(h:(-4611686018427387000<=z/\z<=4611686018427387000)/\(-4611686018427387000<=D/\D<=4611686018427387000)/\(-4611686018427387000<=b0/\b0<=4611686018427387000)/\(-4611686018427387000<=I/\I<=4611686018427387000)):ai C 132 [.pv (i64 z),.pv (i64 D),.pv (i64 b0),.pv (i64 I)] (.p (i64 (uD z D b0 I))) []:=by
 refine fW hC Tryz.func132 rfl (by kernel_rfl) fun _=>?_;refine⟨wO (by omega),wO (by omega),wO (by omega),wO (by omega),?_,trivial⟩;rfl
open Reg (ct RI)
def XB(p:cy):PV:=.sl (p.tools.map fun t=>[a_ (mW p t)])
def dz(p:cy)(m:cR):List PV:=[i64 p.unit,.sl (p.tools.map zU),.sl p.steps.rows,XB p,a_ m.img,bool m.clear,i64 m.tool,i64 m.px,i64 m.py,bool m.placed,i64 m.off,i64 m.on]
def R4(b:Int×Int):Prop:=(-2000000000<=b.1/\b.1<=2000000000)/\(-2000000000<=b.2/\b.2<=2000000000)
theorem CJ{q:Int×Int}{u:Int}(h:kS q u=true):(-1000000<=q.1*u/\q.1*u<=1000000)/\(-1000000<=q.2*u/\q.2*u<=1000000):=by
 rw[kS,aJ]at h;exact⟨zc h.1,zc h.2⟩
theorem CL(p:cy)(m:cR)(q b:Int×Int)(z:kS q p.unit=true)(hb:R4 b):ai C 204 [.box (dz p m),.pv (.ag (sp q)),.pv (.ag (sp b))] (.p (.ag (sp (dx p.unit b q)))) [.box (dz p m)]:=by
 have z:=CJ z;obtain⟨b1,b2⟩:=hb;refine fW hC Tryz.func204 rfl (by kernel_rfl) fun _=>?_;exact⟨wO (by omega),wO (by omega),wO (by omega),wO (by omega),Z,Z,Y⟩
theorem R5(a b:Int×Int)(z:mB a=true)(hb:mB b=true):ai C 236 [.pv (.ag (sp a)),.pv (.ag (sp b))] (.p (i64 (DT a b))) []:=by
 have z:=qy z;have hb:=qy hb;refine fW hC Tryz.func236 rfl (by kernel_rfl) fun _=>?_;refine⟨wO (by omega),wO (by omega),wO (by omega),wO (by omega),wO (by omega),?_,trivial⟩;rfl
theorem CM(s:List aR)(D:dF s)(ks:gy 1000000 s)(a b:Int×Int)(z:mB a=true)(hb:mB b=true):ai C 238 [.pv (a_ s),.pv (.ag (sp a)),.pv (.ag (sp b))] (.p (a_ (s_ s a b))) []:=by
 have z:=qy z;have hb:=qy hb;have I:=DU s D ks (0-min a.1 b.1) (max a.1 b.1) (0-min a.2 b.2) (max a.2 b.2) (by omega) (by omega) (by omega) (by omega) (by omega) (by omega);refine fW hC Tryz.func238 rfl (by kernel_rfl) fun _=>?_;refine⟨wO (by omega),wO (by omega),_,_,I,?_,trivial⟩;rfl
theorem XC(q:Int×Int):ai C 240 [.pv (.ag (sp q))] (.p (bool (!mB q))) []:=by
 refine fW hC Tryz.func240 rfl (by kernel_rfl) fun _=>?_;refine⟨_,_,(dR q.1 q.2),?_,trivial⟩;rfl
theorem OO(l:List (Int×Int))(hN:l.length<=140737488355328):ai C 199 [.pv (.sl (l.map sp)),.pv (OE 240)] (.p (i64 (eM (fun q:Int×Int=>!mB q) l 0))) []:=by
 refine fW hC Tryz.func199 rfl (by kernel_rfl) fun _=>?_;have J:=an l sp;refine aP (fun i:Nat=>i<=l.length/\∀z∈l.take i,(fun q:Int×Int=>!mB q) z=false) (fun i=>[(0,.p (.sl (l.map sp))),(1,.p (OE 240)),(7,.p (i64 (l.map sp).length)),(8,.p (i64 i))]) (fun _=>[]) (fun i=>l.length-i) 0 _ (aA.refl _ _) ⟨ak _,by simp⟩ ⟨Z,Z,Z,Z,Y⟩ trivial fun i hi t h=>?_;apply iW<;>intro N
 ·rw[J]at N;obtain⟨r,I⟩:=ao (l:=l) (i:=i) (by omega);refine⟨(sp r),(idx rfl I),_,_,(XC r),iW ?_ ?_⟩<;>intro D
  ·refine⟨?_,trivial⟩;rw[eU (p:=fun q:Int×Int=>!mB q) I (by simpa using D) hi.2,bp]
  exact⟨wO (by omega),(i+1),_,aA.refl _ _,⟨by omega,iu (p:=fun q:Int×Int=>!mB q) I (by simpa using D) hi.2⟩,by omega,⟨Z,Z,Z,Z,Y⟩,trivial⟩
 rw[J]at N;refine⟨?_,trivial⟩;have D:=hi.2;rw[cK (by omega)]at D;rw[cT (p:=fun q:Int×Int=>!mB q) D];rfl
theorem GN(l:List (Int×Int))(z:l.length<=140737488355328):ai C 164 [.pv (.sl (l.map sp)),.pv (OE 240)] (.p (bool (l.any fun q=>!mB q))) []:=by
 refine fW hC Tryz.func164 rfl (by kernel_rfl) fun _=>?_;refine⟨_,_,(OO l z),?_,trivial⟩;rw[<-eZ _ l 0];rfl
variable {u:Value}
theorem R6{f:FuncId}{xs:List PV}(h:ai C f (xs.map Arg.pv) (.p (.im u)) []){S:Nat->Prop}{w:World}{vs:Array Value}(J:C.E S w)(hS:∀b,S b->b<w.heap.size)(hl:xs.length=vs.size)(N:∀(j:Nat) x v,xs[j]?=some x->vs[j]?=some v->aO S w x v):
  Calls C.P f vs w fun e w'=>e=.returned u/\Fr (fun _=>False) w w':=by
 have no:∀(j:Nat) x,(xs.map Arg.pv)[j]?=some x->x.handed=true->False:=fun j x z I=>by
  rw[aD,aV]at z;obtain⟨y,_,rfl⟩:=z;cases I
 refine (h.2 S w vs J hS (by simpa using hl) (fun j x v z I=>?_) (fun i j x y v u g z _ _ _ O _ _ _=>(no i x z O).elim)).mono fun e w' ⟨v,S',R,D,_,_,_,U,_⟩=>?_
 ·rw[aD,aV]at z;obtain⟨y,V,rfl⟩:=z;exact N j y v V I
 have W:aO S' w' (.im u) v:=U;cases W;exact⟨R,D.os,D.tape,D.output,D.size,fun k hk _=>D.block k hk fun ⟨j,x,v,z,_,Y,_⟩=>no j x z Y⟩
theorem n_{S:Nat->Prop}{w:World}{a b:Value}{v:Value}(h:aO S w (.ag [.im a,.im b]) v):v=.agg #[a,b]:=by
 cases h with
 | ag cs vs hl h1 h=>
  obtain⟨l⟩:=vs
  match l,hl with
  | [x,y],_=>
   have z:=h 0 _ x rfl rfl;have D:=h 1 _ y rfl rfl;cases z;cases D;rfl
theorem CN(S:Nat->Prop)(w:World)(a b:Value)(ha:a.oneCell'=true)(hb:b.oneCell'=true):aO S w (.ag [.im a,.im b]) (.agg #[a,b]):=by
 refine .ag _ _ rfl (fun u I=>?_) (fun i c v z D=>?_)
 ·simp at I;rcases I with rfl | rfl<;>assumption
 match i,z,D with
 | 0,z,D=>cases z;cases D;exact .im _
 | 1,z,D=>cases z;cases D;exact .im _
 | i+2,z,_=>cases z
theorem ta(mv:Nat->Prop)(w:World)(o:Obj):Fr mv w (w.alloc o):=by
 have z:(w.alloc o).heap=w.heap.push o:=rfl;refine⟨rfl,rfl,rfl,by rw[z,l6];omega,fun k hk _=>?_⟩;rw[z,Bb,aa (by omega)]
theorem uE{f:FuncId}{xs:List PV}(h:ai C f (xs.map Arg.pv) (.p (.im u)) []){S mv:Nat->Prop}{w0 w:World}{vs:Array Value}(I:C.E S w0)(hS:∀b,S b->b<w0.heap.size)(z:Fr mv w0 w)(J:∀b,S b->¬mv b)(hl:xs.length=vs.size)(N:∀(j:Nat) x v,xs[j]?=some x->vs[j]?=some v->aO S w x v):
  Calls C.P f vs w fun e w'=>e=.returned u/\Fr mv w0 w'/\Fr (fun _=>False) w w':=
 (R6 h (hC.env _ _ _ _ I (fun _ h=>h) (fun b hb=>z.block b (hS b hb) (J b hb)) z.size) (fun b hb=>cB (hS b hb) z.size) hl N).mono fun _ _ ⟨O,D⟩=>⟨O,z.trans D fun _ h=>h.elim,D⟩
theorem GO{S:Nat->Prop}{w:World}{a:PV}(h:aO S w a u):∀(j:Nat) x v,[a][j]?=some x->#[u][j]?=some v->aO S w x v:=fun j x v z D=>by
 match j,z,D with
 | 0,z,D=>cases z;cases D;exact h
 | j+1,z,_=>cases z
theorem Uy{S:Nat->Prop}{w:World}{a b:PV}{t:Value}(h:aO S w a u)(k:aO S w b t):∀(j:Nat) x v,[a,b][j]?=some x->#[u,t][j]?=some v->aO S w x v:=fun j x v z D=>by
 match j,z,D with
 | 0,z,D=>cases z;cases D;exact h
 | 1,z,D=>cases z;cases D;exact k
 | j+2,z,_=>cases z
theorem Uz(n o:Nat)(x y:Int)(h:mB (x,y)=false):vq C 205 n o (.ag [i64 x,i64 y]) [] [] (.int .i64 1):=by
 refine⟨⟨_,Bc,rfl,rfl⟩,fun S w v1 b c ty z hS D hb hn I _=>?_⟩;have e:=n_ D;subst e;have hp:=dR x y;rw[show (Reg.iZ x&&Reg.iZ y)=false from h]at hp;show Calls Tryz.prog _ _ _ _
 go_enter Bc,Tryz.ntmps205
 go_wp2_with (go_at_call 35;refine (uE (mv:=fun k=>k=b) (w0:=w) hp z hS (ta _ w _) (fun k hk e=>I (e▸hk)) rfl (GO (CN _ _ _ _ rfl rfl))).mono ?_;rintro e w2 ⟨rfl,J,N⟩)
 go_ret
 exact⟨rfl,J,(N.block b (by simp[World.alloc_eq];exact Nat.lt_succ_of_lt (cL.1 hb).1) (fun h=>h)).trans ((ta (fun _=>False) w _).block b (cL.1 hb).1 (fun h=>h) |>.trans hb)⟩
variable {ty:TypeId}
theorem iM{w:World}{b:Nat}{c:Array Value}(h:w.heap[b]?=some (.cells c ty (0,0)))(j:Nat)(v:Value):(w.setCell ⟨b,j,none⟩ v).heap[b]?=some (.cells (c.setIfInBounds j v) ty (0,0)):=by
 simp[World.setCell,E9,h]
theorem jX(w:World)(b j:Nat)(v:Value):Fr (fun k=>k=b) w (w.setCell ⟨b,j,none⟩ v):=by
 refine⟨?_,?_,?_,?_,fun k _ z=>Below.heap_setCell w _ v k z⟩
 all_goals (unfold World.setCell;(repeat' split)<;>simp)
theorem oF{w:World}{b:Nat}{c:Array Value}(h:w.heap[b]?=some (.cells c ty (0,0)))(j:Nat):w.frozen? ⟨b,j,none⟩=false:=by simp[World.frozen?,h]
theorem OP{w z:World}{b:Nat}{c:Array Value}{cs:Array Value}{t:TypeId}(hb:w.heap[b]?=some (.cells c ty (0,0)))(J:Fr (fun _=>False) (w.alloc (.cells cs t (0,0))) z):
  z.heap[b]?=some (.cells c ty (0,0))/\(∀(j:Nat) u,c[j]?=some u->z.cell? ⟨b,j,none⟩=some u)/\∀(j:Nat) u,cs[j]?=some u->z.cell? ⟨w.heap.size,j,none⟩=some u:=by
 have D:(w.alloc (.cells cs t (0,0))).heap=w.heap.push (.cells cs t (0,0)):=rfl;have eX:=(cL.1 hb).1;have N:z.heap[b]?=some (.cells c ty (0,0)):=by
  rw[J.block b (by rw[D,l6];omega) (fun h=>h),D,Bb,aa (by omega),hb]
 have O:z.heap[w.heap.size]?=some (.cells cs t (0,0)):=by
  rw[J.block _ (by rw[D,l6];omega) (fun h=>h),D,Bb,ae rfl]
 exact⟨N,fun j u I=>(cell_of_row z b j c _ _ N).trans I,fun j u I=>(cell_of_row z _ j cs _ _ O).trans I⟩
theorem OQ(o:Nat)(x y:Int)(h:mB (x,y)=true):vq C 205 12 o (.ag [i64 x,i64 y]) [(9,.bool false)] [(7,.int .i64 x),(8,.int .i64 y),(9,.bool true)] (.int .i64 0):=by
 refine⟨⟨_,Bc,rfl,rfl⟩,fun S w v1 b c ty Y hS Z hb hn Yr O=>?_⟩;have e:=n_ Z;subst e;have hp:=dR x y;rw[show (Reg.iZ x&&Reg.iZ y)=true from h]at hp;have R:=uz (O (9,.bool false) (by simp));obtain⟨u7,U⟩:∃u,c[7]?=some u:=⟨_,cC (by omega)⟩;obtain⟨u8,V⟩:∃u,c[8]?=some u:=⟨_,cC (by omega)⟩;have k7:=uz U;have W:=uz V;clear U V;have HB:=uz hb;clear O hb;show Calls Tryz.prog _ _ _ _
 go_enter Bc,Tryz.ntmps205
 go_wp2_with (go_at_call 35;refine (uE (mv:=fun k=>k=b) (w0:=w) hp Y hS (ta _ w _) (fun k hk e=>Yr (e▸hk)) rfl (GO (CN _ _ _ _ rfl rfl))).mono ?_;rintro e w2 ⟨rfl,hf,hg⟩;obtain⟨J,z,N⟩:=OP HB.out hg;have c9:=z 9 _ R.out;have c7:=z 7 _ k7.out;have c8:=z 8 _ W.out;have q0:=N 0 _ rfl;have q1:=N 1 _ rfl;have w7:=oF J 7;have D:=iM J 7 (.int .i64 x);have w8:=oF D 8;have I:=iM D 8 (.int .i64 y);have w9:=oF I 9;have d8:=(cell_of_row _ b 8 _ _ _ D).trans (show _=some u8 by rw[eP (by decide)];exact W.out);have d9:=(cell_of_row _ b 9 _ _ _ I).trans (show _=some (.bool false) by rw[eP (by decide),eP (by decide)];exact R.out);have HS:=uz (iM I 9 (.bool true));clear J z N D I)
 go_ret
 exact⟨rfl,((hf.trans (jX _ b 7 _) fun _ h=>.inl h).trans (jX _ b 8 _) fun _ h=>.inl h).trans (jX _ b 9 _) fun _ h=>.inl h,HS.out⟩
theorem M4(w:World):Fr (fun _=>False) w w.drew:=⟨rfl,rfl,rfl,aG _,fun _ _ _=>rfl⟩
theorem mS{w:World}{b:Nat}{c:Array Value}(h:w.heap[b]?=some (.cells c ty (0,0))){j:Nat}(z:c[j]?=some u):w.cell? ⟨b,j,none⟩=some u:=(cell_of_row w b j c _ _ h).trans z
theorem xL{w z:World}{b:Nat}{c:Array Value}(h:w.heap[b]?=some (.cells c ty (0,0)))(D:Fr (fun _=>False) w z):z.heap[b]?=some (.cells c ty (0,0)):=
 (D.block b (cL.1 h).1 (fun h=>h)).trans h
theorem OR{w:World}{a b:Nat}{c:Array Value}(h:w.heap[a]?=some (.cells c ty (0,0)))(z:a≠b)(j:Nat)(v:Value):(w.setCell ⟨b,j,none⟩ v).heap[a]?=some (.cells c ty (0,0)):=
 (Below.heap_setCell w ⟨b,j,none⟩ v a z).trans h
theorem zd{c:Array Value}{i j:Nat}{v:Value}(h:c[j]?=some u)(z:i≠j):(c.setIfInBounds i v)[j]?=some u:=(eP z).trans h
theorem OS(w:World)(cs:Array Value)(t:TypeId):(w.alloc (.cells cs t (0,0))).heap[w.heap.size]?=some (.cells cs t (0,0)):=by
 rw[show (w.alloc (.cells cs t (0,0))).heap=w.heap.push (.cells cs t (0,0)) from rfl,Bb,ae rfl]
theorem I7(o:Nat)(x y px py v:Int)(h:mB (x,y)=true)(V:mB (px,py)=true)(ho:o=10\/o=11)(W:0<=v/\v<=1000000000000):vq C 205 12 o (.ag [i64 x,i64 y]) [(7,.int .i64 px),(8,.int .i64 py),(9,.bool true),(o,.int .i64 v)] [(o,.int .i64 (v+DT (px,py) (x,y))),(7,.int .i64 x),(8,.int .i64 y),(9,.bool true)] (.int .i64 0):=by
 refine⟨⟨_,Bc,rfl,rfl⟩,fun S w v1 b c ty hE hS hv hb hn Yr J=>?_⟩;have e:=n_ hv;subst e;have hp:=dR x y;rw[show (Reg.iZ x&&Reg.iZ y)=true from h]at hp;have Y:=R5 (px,py) (x,y) V h;have nQ:=RO (a:=(px,py)) (b:=(x,y)) (qy V).1 (qy V).2 (qy h).1 (qy h).2;have n1:IntKind.i64.wrap (v+DT (px,py) (x,y))=v+DT (px,py) (x,y):=Ax _ ⟨by omega,by omega⟩;generalize DT (px,py) (x,y)=d at *;have k7:=uz (J (7,.int .i64 px) (by simp));have k8:=uz (J (8,.int .i64 py) (by simp));have k9:=uz (J (9,.bool true) (by simp));have ko:=uz (J (o,.int .i64 v) (by simp));have Z:=uz (show o≠7/\o≠8/\o≠9 by omega);have HB:=uz hb;have HN:=uz (Nat.ne_of_gt (cL.1 hb).1);have HI:=uz nQ;clear J hb ho nQ W;show Calls Tryz.prog _ _ _ _
 go_enter Bc,Tryz.ntmps205
 go_wp2_with (go_at_call 35;refine (uE (mv:=fun k=>k=b) (w0:=w) hp hE hS (ta _ w _) (fun k hk e=>Yr (e▸hk)) rfl (GO (CN _ _ _ _ rfl rfl))).mono ?_;rintro e w2 ⟨rfl,hf,hg⟩;have N:=uz (xL ((ta (fun _=>False) w _).block b (cL.1 HB.out).1 (fun h=>h) |>.trans HB.out) hg);have HQ:=uz (xL (OS w _ _) hg);have c9:=mS N.out k9.out;have c7:=mS N.out k7.out;have c8:=mS N.out k8.out;have co:=mS N.out ko.out;have q0:=mS HQ.out (j:=0) rfl;have q1:=mS HQ.out (j:=1) rfl)
 go_region_with (go_at_call 236;refine (uE (mv:=fun k=>k=b) (w0:=w) Y hE hS (hf.trans (M4 w2) fun _ h=>h.elim) (fun k hk e=>Yr (e▸hk)) rfl (Uy (CN _ _ _ _ rfl rfl) (CN _ _ _ _ rfl rfl))).mono ?_;rintro e w3 ⟨rfl,hf3,hg3⟩;have O:=(M4 w2).trans hg3 fun _ h=>h.elim;have D:=uz (xL N.out O);have HQ3:=uz (xL HQ.out O);have co3:=mS D.out ko.out;have fo3:=oF D.out o)
 all_goals
  have z:=iM D.out o (.int .i64 (v+d));have I:=OR HQ3.out HN.out o (.int .i64 (v+d));have z0:=mS I (j:=0) rfl;have z1:=mS I (j:=1) rfl;have w7:=oF z 7;have d7:=mS z (zd k7.out Z.out.1);have R:=iM z 7 (.int .i64 x);have w8:=oF R 8;have d8:=mS R (zd (zd k8.out Z.out.2.1) (by decide));have U:=iM R 8 (.int .i64 y);have w9:=oF U 9;have d9:=mS U (zd (zd (zd k9.out Z.out.2.2) (by decide)) (by decide));have HS:=uz (iM U 9 (.bool true));clear z I R U
  go_wp2
  go_ret
  exact⟨rfl,(((hf3.trans (jX _ b o _) fun _ h=>.inl h).trans (jX _ b 7 _) fun _ h=>.inl h).trans (jX _ b 8 _) fun _ h=>.inl h).trans (jX _ b 9 _) fun _ h=>.inl h,HS.out⟩
theorem zf(lit:Bool)(p:cy)(m:cR)(K:Int)(D:fh p K m)(hK:K<=100000)(q:Int×Int):∃J I,vq C 205 12 (cond lit 11 10) (.ag (sp q)) J I (.int .i64 (mR lit m q).2)/\Nq (dz p m) J/\JQ I=true/\LR I (dz p m)=dz p (mR lit m q).1:=by
 obtain⟨x,y⟩:=q;have h1:=D.off;have h2:=D.on;by_cases z:mB (x,y)=true
 ·have e:mR lit m (x,y)=(CD lit m (x,y),0):=ae z;rw[e];cases hp:m.placed with
  | false=>
   refine⟨_,_,OQ _ x y z,⟨by rw[dz,hp];rfl,trivial⟩,rfl,?_⟩;rw[dz,dz,CD,hp];rfl
  | true=>
   have N:=RT D.px D.py;cases lit with
   | false=>
    refine⟨_,_,I7 10 x y m.px m.py m.off z N (.inl rfl) (by omega),⟨rfl,rfl,by rw[dz,hp];rfl,Z,Y⟩,rfl,?_⟩;rw[dz,dz,CD,hp];rfl
   | true=>
    refine⟨_,_,I7 11 x y m.px m.py m.on z N (.inr rfl) (by omega),⟨rfl,rfl,by rw[dz,hp];rfl,Z,Y⟩,rfl,?_⟩;rw[dz,dz,CD,hp];rfl
 have e:mR lit m (x,y)=(m,1):=aa z;rw[e];exact⟨_,_,Uz 12 _ x y (by simpa using z),trivial,rfl,rfl⟩
end M
end Go.Proofs.YtihgjolmpjjblaaGreatDoor
