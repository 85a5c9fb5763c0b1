/- Part 7 of the proof of RulesNetsMatchSpec. -/
import Derived.Test.YtliffnpbaeijgaaGreatDoorN06
set_option linter.unusedVariables false
set_option linter.unusedSimpArgs false
set_option maxRecDepth 100000
set_option maxHeartbeats 8000000
namespace Go
abbrev pD:=@List.cons_append
abbrev ur:=@List.nil_append
abbrev pE:=@List.Pairwise.sublist
abbrev ga:=@List.filter_sublist
abbrev rG:=@List.range_succ
abbrev Gz:=@List.filter_eq_nil_iff
abbrev MR:=@List.getElem?_replicate
abbrev xB:=@List.map_nil
abbrev GA:=@List.set_set
end Go
namespace Go.Proofs.YtliffnpbaeijgaaGreatDoor
namespace M
open Go.AM Go.RowKit Go.Lib
open Reg (aB cw aR iv kh kg pG RG)
def OE(f:FuncId):PV:=.im (.func (.func f) #[] #[])
inductive K3 where
 | less
def kF:K3->Bool->Bool->Bool
 | .less=>RG
def kI:K3->FuncId
 | .less=>157
theorem acT(k:K3):kF k false false=false:=by cases k<;>rfl
theorem Xw(k:K3)(a b:Bool):ai C (kI k) [.pv (bool a),.pv (bool b)] (.p (bool (kF k a b))) []:=by
 cases k;refine fW hC Tryz.func157 rfl (by kernel_rfl) fun _=>?_;apply iW<;>intro h
 ·refine⟨?_,trivial⟩;subst h;rfl
 refine⟨?_,trivial⟩;have h:a=false:=by simpa using h
 subst h;rfl
theorem OF(k:Bool->Bool->Bool)(n:Nat)(u z is:Bool):iv k n [] [] u z is=[]:=by cases n<;>rfl
theorem s9(t:TypeId)(out:List Int)(p:Int):AB.row t ((out.map fun n=>[i64 n])++[[i64 p]])=AB.row t ((out++[p]).map fun n=>[i64 n]):=by simp
theorem iz(x:List PV)(es:List (List PV)):AV.p (.sl (((x::es).take ((((x::es).length:Nat):Int)).toNat).drop (1:Int).toNat))=AV.p (.sl es):=by simp
def aK(l:List Int):List (List PV):=l.map fun n=>[i64 n]
theorem I1(U:K3)(a b:List Int)(hN:a.length+b.length<=4398046511104):ai C 188 [.pv (ints a),.pv (ints b),.pv (OE (kI U))] (.p (ints (kh (kF U) a b))) []:=by
 have hk:=Xw U;obtain⟨J,Z6⟩:∃J,J=kF U:=⟨_,rfl⟩;rw[<-Z6]at hk ⊢;clear Z6;cases U
 all_goals
  refine fW hC Tryz.func188 rfl (by kernel_rfl) fun _=>?_;refine aP (fun x:Nat×List Int×List Int×Bool×Bool×Bool×List Int=>x.2.1.length+x.2.2.1.length<=x.1/\x.2.2.2.2.2.2++iv J x.1 x.2.1 x.2.2.1 x.2.2.2.1 x.2.2.2.2.1 x.2.2.2.2.2.1=kh J a b/\x.2.2.2.2.2.2.length+x.1<=a.length+b.length)
   (fun x=>[(0,.p (ints x.2.1)),(1,.p (ints x.2.2.1)),(2,.p (OE _)),(7,.ow 7),(8,.p (bool x.2.2.2.1)),(9,.p (bool x.2.2.2.2.1)),(10,.p (bool x.2.2.2.2.2.1))])
   (fun x=>[(7,.row 3 (aK x.2.2.2.2.2.2))]) (fun x=>x.1) (a.length+b.length,a,b,false,false,false,[]) _ (aA.eK hC _ 7 3 _ (by decide) rfl rfl (by decide)) ⟨aG _,rfl,by simp⟩ ⟨Z,Z,Z,Z,Z,Z,Z,Y⟩ ⟨Z,Y⟩ fun ⟨n,a',b',z,D,is,out⟩ hi t h=>?_
  obtain⟨R,L,h3⟩:=hi;simp only at R L h3;have lm:∀l:List Int,(l.map fun n=>[i64 n]).length=l.length:=fun l=>E5 ..;rcases a' with _ | ⟨p,r⟩
  ·rcases b' with _ | ⟨q,u⟩
   ·rw[OF,aq]at L;refine⟨?_,trivial⟩;rw[<-L];rfl
   obtain⟨m,rfl⟩:∃m,n=m+1:=⟨n-1,by simp at R;omega⟩;have e:iv J (m+1) [] (q::u) z D is=if J z (!D)=is then iv J m [] u z (!D) is else q::iv J m [] u z (!D) (J z (!D)):=by simp[iv,pG,kg]
   rw[e]at L;simp at R;apply iW<;>intro N<;>try simp only[zB]at N
   ··
     refine⟨[i64 q],(idx (i:=0) rfl rfl),iW ?_ ?_⟩<;>intro V<;>try simp only[zB]at V
     ·refine⟨[i64 q],(idx (i:=0) rfl rfl),iW ?_ ?_⟩<;>intro O<;>try simp only[zB]at O
      ·refine⟨⟨by simp,by simp;omega⟩,_,_,(hk z (!D)),iW ?_ ?_⟩<;>intro I<;>try simp only[zB]at I
       ·have I:¬J z (!D)=is:=by simpa using I
        rw[aa I]at L;exact⟨⟨by simp,by simp[aK];omega,by simp[aK];omega⟩,(m,[],u,z,(!D),J z (!D),out++[q]),_,aA.refl _ _,⟨by simp;omega,by simp only[d_,pD,ur];exact L,by simp;omega⟩,by simp only;omega,⟨rfl,iz [i64 q] _,Z,Z,Z,Z,Z,Y⟩,⟨s9 _ out q,trivial⟩⟩
       have I:J z (!D)=is:=by simpa using I
       rw[ae I]at L;exact⟨(m,[],u,z,(!D),is,out),_,aA.refl _ _,⟨by simp;omega,L,by simp only;omega⟩,by simp only;omega,⟨rfl,iz [i64 q] _,Z,Z,Z,Z,Z,Y⟩,⟨Z,Y⟩⟩
      exact absurd trivial O
     simp at V
   simp at N
  rcases b' with _ | ⟨q,u⟩
  ·obtain⟨m,rfl⟩:∃m,n=m+1:=⟨n-1,by simp at R;omega⟩;have e:iv J (m+1) (p::r) [] z D is=if J (!z) D=is then iv J m r [] (!z) D is else p::iv J m r [] (!z) D (J (!z) D):=by simp[iv,pG,kg]
   rw[e]at L;simp at R;apply iW<;>intro N<;>try simp only[zB]at N
   ·refine⟨[i64 p],(idx (i:=0) rfl rfl),iW ?_ ?_⟩<;>intro V<;>try simp only[zB]at V
    ·refine⟨[i64 p],(idx (i:=0) rfl rfl),iW ?_ ?_⟩<;>intro O<;>try simp only[zB]at O
     ·refine⟨⟨by simp,by simp;omega⟩,_,_,(hk (!z) D),iW ?_ ?_⟩<;>intro I<;>try simp only[zB]at I
      ·have I:¬J (!z) D=is:=by simpa using I
       rw[aa I]at L;exact⟨⟨by simp,by simp[aK];omega,by simp[aK];omega⟩,(m,r,[],(!z),D,J (!z) D,out++[p]),_,aA.refl _ _,⟨by simp;omega,by simp only[d_,pD,ur];exact L,by simp;omega⟩,by simp only;omega,⟨iz [i64 p] _,Z,Z,Z,Z,Z,Z,Y⟩,⟨s9 _ out p,trivial⟩⟩
      have I:J (!z) D=is:=by simpa using I
      rw[ae I]at L;exact⟨(m,r,[],(!z),D,is,out),_,aA.refl _ _,⟨by simp;omega,L,by simp only;omega⟩,by simp only;omega,⟨iz [i64 p] _,Z,Z,Z,Z,Z,Z,Y⟩,⟨Z,Y⟩⟩
     exact absurd trivial O
    simp at V
   simp at N
  obtain⟨m,rfl⟩:∃m,n=m+1:=⟨n-1,by simp at R;omega⟩;have e:iv J (m+1) (p::r) (q::u) z D is=if J (kg (if p<=q then p else q) (p::r) z).2 (kg (if p<=q then p else q) (q::u) D).2=is then iv J m (kg (if p<=q then p else q) (p::r) z).1 (kg (if p<=q then p else q) (q::u) D).1 (kg (if p<=q then p else q) (p::r) z).2 (kg (if p<=q then p else q) (q::u) D).2 is else (if p<=q then p else q)::iv J m (kg (if p<=q then p else q) (p::r) z).1 (kg (if p<=q then p else q) (q::u) D).1 (kg (if p<=q then p else q) (p::r) z).2 (kg (if p<=q then p else q) (q::u) D).2 (J (kg (if p<=q then p else q) (p::r) z).2 (kg (if p<=q then p else q) (q::u) D).2):=rfl;rw[e]at L;simp at R;apply iW<;>intro N<;>try simp only[zB]at N
  ··
    apply iW<;>intro O<;>try simp only[zB]at O
    ·refine⟨[i64 p],(idx (i:=0) rfl rfl),[i64 q],(idx (i:=0) rfl rfl),iW ?_ ?_⟩<;>intro g4
     ·rw[ae g4]at L;refine⟨[i64 p],(idx (i:=0) rfl rfl),iW ?_ ?_⟩<;>intro W<;>try simp only[zB]at W
      ·refine⟨[i64 p],(idx (i:=0) rfl rfl),iW ?_ ?_⟩<;>intro g6<;>try simp only[zB]at g6
       ·refine⟨⟨by simp,by simp;omega⟩,iW ?_ ?_⟩<;>intro g7<;>try simp only[zB]at g7
        ·refine⟨[i64 q],(idx (i:=0) rfl rfl),iW ?_ ?_⟩<;>intro g8
         ·refine⟨⟨by simp,by simp;omega⟩,?_⟩;rw[show kg p (p::r) z=(r,!z) by simp[kg],show kg p (q::u) D=(u,!D) by simp[kg,g8]]at L;simp only at L;refine⟨_,_,(hk (!z) (!D)),iW ?_ ?_⟩<;>intro I<;>try simp only[zB]at I
          ·have I:¬J (!z) (!D)=is:=by simpa using I
           rw[aa I]at L;exact⟨⟨by simp,by simp[aK];omega,by simp[aK];omega⟩,(m,r,u,(!z),(!D),J (!z) (!D),out++[p]),_,aA.refl _ _,⟨by simp;omega,by simp only[d_,pD,ur];exact L,by simp;omega⟩,by simp only;omega,⟨iz [i64 p] _,iz [i64 q] _,Z,Z,Z,Z,Z,Y⟩,⟨s9 _ out p,trivial⟩⟩
          have I:J (!z) (!D)=is:=by simpa using I
          rw[ae I]at L;exact⟨(m,r,u,(!z),(!D),is,out),_,aA.refl _ _,⟨by simp;omega,L,by simp only;omega⟩,by simp only;omega,⟨iz [i64 p] _,iz [i64 q] _,Z,Z,Z,Z,Z,Y⟩,⟨Z,Y⟩⟩
         rw[show kg p (p::r) z=(r,!z) by simp[kg],show kg p (q::u) D=(q::u,D) by simp[kg,g8]]at L;simp only at L;refine⟨_,_,(hk (!z) D),iW ?_ ?_⟩<;>intro I<;>try simp only[zB]at I
         ·have I:¬J (!z) D=is:=by simpa using I
          rw[aa I]at L;exact⟨⟨by simp,by simp[aK];omega,by simp[aK];omega⟩,(m,r,(q::u),(!z),D,J (!z) D,out++[p]),_,aA.refl _ _,⟨by simp;omega,by simp only[d_,pD,ur];exact L,by simp;omega⟩,by simp only;omega,⟨iz [i64 p] _,Z,Z,Z,Z,Z,Z,Y⟩,⟨s9 _ out p,trivial⟩⟩
         have I:J (!z) D=is:=by simpa using I
         rw[ae I]at L;exact⟨(m,r,(q::u),(!z),D,is,out),_,aA.refl _ _,⟨by simp;omega,L,by simp only;omega⟩,by simp only;omega,⟨iz [i64 p] _,Z,Z,Z,Z,Z,Z,Y⟩,⟨Z,Y⟩⟩
        simp at g7
       exact absurd trivial g6
      simp at W
     rw[aa g4]at L;refine⟨[i64 q],(idx (i:=0) rfl rfl),iW ?_ ?_⟩<;>intro W<;>try simp only[zB]at W
     ·refine⟨[i64 p],(idx (i:=0) rfl rfl),iW ?_ ?_⟩<;>intro g6
      ·omega
      apply iW<;>intro g7<;>try simp only[zB]at g7
      ·refine⟨[i64 q],(idx (i:=0) rfl rfl),iW ?_ ?_⟩<;>intro g8<;>try simp only[zB]at g8
       ·refine⟨⟨by simp,by simp;omega⟩,?_⟩;rw[show kg q (q::u) D=(u,!D) by simp[kg],show kg q (p::r) z=(p::r,z) by simp[kg,g6]]at L;simp only at L;refine⟨_,_,(hk z (!D)),iW ?_ ?_⟩<;>intro I<;>try simp only[zB]at I
        ·have I:¬J z (!D)=is:=by simpa using I
         rw[aa I]at L;exact⟨⟨by simp,by simp[aK];omega,by simp[aK];omega⟩,(m,(p::r),u,z,(!D),J z (!D),out++[q]),_,aA.refl _ _,⟨by simp;omega,by simp only[d_,pD,ur];exact L,by simp;omega⟩,by simp only;omega,⟨rfl,iz [i64 q] _,Z,Z,Z,Z,Z,Y⟩,⟨s9 _ out q,trivial⟩⟩
        have I:J z (!D)=is:=by simpa using I
        rw[ae I]at L;exact⟨(m,(p::r),u,z,(!D),is,out),_,aA.refl _ _,⟨by simp;omega,L,by simp only;omega⟩,by simp only;omega,⟨rfl,iz [i64 q] _,Z,Z,Z,Z,Z,Y⟩,⟨Z,Y⟩⟩
       exact absurd trivial g8
      simp at g7
     simp at W
    simp at O
  simp at N
open Reg (oA bD lN oB Cu Cv n4 cm pairUp dF gy fj iL Canon)
theorem qw:∀s:cw,flat s=cm s
 | []=>rfl
 | p::s=>by rw[flat,cm,qw s]
def a_(s:List aR):PV:=.sl (s.map hb)
theorem hZ(s:List aR)(y e:Int):ai C 187 [.pv (a_ s),.pv (i64 y),.pv (i64 e)] (.tu [ints (cm (oA s y e).1),i64 (oA s y e).2]) []:=by
 refine fW hC Tryz.func187 rfl (by kernel_rfl) fun _=>?_;rcases s with _ | ⟨b,s⟩
 ·refine⟨?_,trivial⟩;rfl
 have e1:oA (b::s) y e=if y<b.y0 then ([],min e b.y0) else (b.xs,min e b.y1):=rfl;refine⟨(hb b),(idx (i:=0) rfl rfl),iW ?_ ?_⟩<;>intro u
 ·rw[e1,ae u];refine⟨(hb b),(idx (i:=0) rfl rfl),?_,trivial⟩;rfl
 rw[e1,aa u,<-qw];refine⟨(hb b),(idx (i:=0) rfl rfl),(hb b),(idx (i:=0) rfl rfl),?_,trivial⟩;rfl
theorem MW{l:List aR}:∀r∈l.map hb,r.length=3:=fun r u=>by
 obtain⟨b,_,rfl⟩:=aZ.1 u;rfl
def st(a b:List aR):Nat->Int×Int
 | 0=>(0,0)
 | 1=>match a with
  | []=>(0,0)
  | p::r=>(p.y0,n4 (p::r))
 | _=>(Cu a b,Cv a b)
theorem xG(U:K3)(a b:List aR)(ha:dF a)(hb':dF b)(ka:gy 2000000 a)(kb:gy 2000000 b):ai C 156 [.pv (a_ a),.pv (a_ b),.pv (OE (kI U))] (.p (a_ (oB (kF U) a b))) []:=by
 have hl:=I1 U;have h0:=acT U;obtain⟨N,Z6⟩:∃N,N=kF U:=⟨_,rfl⟩;rw[<-Z6]at hl h0 ⊢;clear Z6;let F:=kI U;cases U
 all_goals
  refine FP ⟨[],[4,6],[],[],[],[]⟩ hC Tryz.func156 rfl (by kernel_rfl) fun _=>?_;have la:=Reg.eW ha (by omega) ka;have lb:=Reg.eW hb' (by omega) kb;have ma:=an a hb;have mb:=an b hb;refine⟨⟨by rw[ma,mb];omega,by rw[ma,mb];omega⟩,iW ?_ ?_⟩<;>intro g0
  ·rw[ma,mb]at g0;refine⟨?_,trivial⟩;rw[oB,ae (by omega)];rfl
  rw[ma,mb]at g0;have hn:a.length+b.length≠0:=by omega
  refine aP (fun i:Nat=>i<=2) (fun i=>[(0,.p (a_ a)),(1,.p (a_ b)),(2,.p (OE F)),(7,.nl),(8,.p (i64 (st a b i).1)),(9,.p (i64 (st a b i).2)),(25,.ow 25),(26,.p (i64 (2:Nat))),(27,.p (i64 i))]) (fun i=>[(25,.row 158 [[a_ a],[a_ b]])]) (fun i=>2-i) 0 _ (aA.refl _ _) (by omega) ⟨Z,Z,Z,Z,Z,Z,Z,Z,Z,Y⟩ ⟨Z,Y⟩ fun i hi t h=>?_;apply iW<;>intro g1
  ·obtain rfl | rfl:i=0\/i=1:=by omega
   ·refine⟨⟨by simp,by simp⟩,[a_ a],rfl,?_⟩;rcases a with _ | ⟨p,r⟩
    ·exact⟨wO (by omega),1,_,aA.refl _ _,by omega,by omega,⟨Z,Z,Z,Z,Z,Z,Z,Z,Z,Y⟩,⟨Z,Y⟩⟩
    obtain⟨I,V,VK⟩:=Reg.A_ p r;simp at la;apply iW<;>intro O
    ·exact⟨(hb p),(idx (i:=0) rfl rfl),⟨by simp,by simp;omega⟩,(hb I),(idx (show (((p::r).map hb).length:Int)-1=((r.length:Nat):Int) by simp) V),(hb p),(idx (i:=0) rfl rfl),⟨by simp,by simp;omega⟩,(hb I),(idx (show (((p::r).map hb).length:Int)-1=((r.length:Nat):Int) by simp) V),wO (by omega),1,_,aA.refl _ _,by omega,by omega,⟨rfl,rfl,rfl,rfl,bI (show min p.y0 p.y0=p.y0 by omega),bI (show max I.y1 I.y1=n4 (p::r) by omega),Z,Z,Z,Y⟩,⟨Z,Y⟩⟩
    simp at O
   refine⟨⟨by simp,by simp⟩,[a_ b],rfl,?_⟩;rcases b with _ | ⟨q,u⟩
   ·refine⟨wO (by omega),2,_,aA.refl _ _,?_⟩;have e1:st a [] 1=st a [] 2:=by
     rcases a with _ | ⟨p,r⟩
     ·simp at hn
     rfl
    exact⟨by omega,by omega,⟨rfl,rfl,rfl,rfl,bI (by rw[e1]),bI (by rw[e1]),Z,Z,Z,Y⟩,⟨Z,Y⟩⟩
   obtain⟨I,V,VK⟩:=Reg.A_ q u;simp at lb;apply iW<;>intro O
   ·rcases a with _ | ⟨p,r⟩
    ·exact⟨(hb q),(idx (i:=0) rfl rfl),⟨by simp,by simp;omega⟩,(hb I),(idx (show (((q::u).map hb).length:Int)-1=((u.length:Nat):Int) by simp) V),(hb q),(idx (i:=0) rfl rfl),⟨by simp,by simp;omega⟩,(hb I),(idx (show (((q::u).map hb).length:Int)-1=((u.length:Nat):Int) by simp) V),wO (by omega),2,_,aA.refl _ _,by omega,by omega,⟨rfl,rfl,rfl,rfl,bI (show min q.y0 q.y0=q.y0 by omega),bI (show max I.y1 I.y1=n4 (q::u) by omega),Z,Z,Z,Y⟩,⟨Z,Y⟩⟩
    exact⟨(hb q),(idx (i:=0) rfl rfl),⟨by simp,by simp;omega⟩,(hb I),(idx (show (((q::u).map hb).length:Int)-1=((u.length:Nat):Int) by simp) V),wO (by omega),2,_,aA.refl _ _,by omega,by omega,⟨rfl,rfl,rfl,rfl,rfl,bI (show max (n4 (p::r)) I.y1=max (n4 (p::r)) (n4 (q::u)) by rw[VK]),Z,Z,Z,Y⟩,⟨Z,Y⟩⟩
   simp at O
  have e:i=2:=by omega
  subst e;have Vd:=Reg.Z4 ka kb hn;have Ve:=Reg.Z5 ka kb hn;have e2:oB N a b=lN N (Cv a b-Cu a b).toNat a b (Cu a b) (Cv a b) []:=by rw[oB,aa hn]
  rw[e2];obtain⟨lo,Xx⟩:∃lo,lo=Cu a b:=⟨_,rfl⟩;obtain⟨e,TH⟩:∃e,e=Cv a b:=⟨_,rfl⟩;rw[<-Xx]at Vd;rw[<-TH]at Ve;rw[<-Xx,<-TH];have hR:∃R,R=lN N (e-lo).toNat a b lo e []:=⟨_,rfl⟩;obtain⟨R,hR⟩:=hR;rw[<-hR];refine aP (fun x:Nat×List aR×List aR×Int×List aR=>(e-x.2.2.2.1).toNat<=x.1/\lN N x.1 x.2.1 x.2.2.1 x.2.2.2.1 e x.2.2.2.2=R/\dF x.2.1/\dF x.2.2.1/\dF x.2.2.2.2/\(∀t∈x.2.2.2.2,t.y1<=x.2.2.2.1)/\gy 2000000 x.2.1/\gy 2000000 x.2.2.1/\gy 2000000 x.2.2.2.2/\-2000000<=x.2.2.2.1)
   (fun x=>[(0,.p (a_ x.2.1)),(1,.p (a_ x.2.2.1)),(2,.p (OE F)),(7,.ow 7),(8,.p (i64 x.2.2.2.1)),(9,.p (i64 e))]) (fun x=>[(7,.row 214 (x.2.2.2.2.map hb))]) (fun x=>x.1) ((e-lo).toNat,a,b,lo,[]) _
   (aA.eK hC _ 7 214 _ (by decide) rfl rfl (by decide)) ⟨aG _,hR.symm,ha,hb',trivial,fun t ht=>(by cases ht),ka,kb,fun t ht=>(by cases ht),Vd⟩ ⟨rfl,rfl,rfl,rfl,bI Xx.symm,bI TH.symm,trivial⟩ ⟨Z,Y⟩ fun ⟨n,z,D,y,out⟩ hi t h=>?_
  obtain⟨i1,i2,i3,i4,i5,i6,i7,i8,i9,i10⟩:=hi;simp only at i1 i2 i3 i4 i5 i6 i7 i8 i9 i10;have la':=Reg.eW i3 (by omega) i7;have lb':=Reg.eW i4 (by omega) i8;have lo':=Reg.eW i5 (by omega) i9;have lx':=Reg.rP i5 (by omega) i9;apply iW<;>intro O<;>try simp only[zB]at O
  ·obtain⟨m,rfl⟩:∃m,n=m+1:=⟨n-1,by omega⟩;obtain⟨W,L,Kq,hL,j1,j2,j3,j4,j5,j6,j7,j8,j9,j10,j11,j12,j13,j14⟩:=Reg.IZ h0 O i3 i4 i5 i6 i7 i8 i9 i10 Ve;rw[lN,ae O,<-Kq,<-hL]at i2;refine Ak (fun _:Unit=>True) (fun _=>[(0,.p (a_ (bD y z))),(1,.p (a_ D)),(2,.p (OE F)),(7,.ow 7),(8,.p (i64 y)),(9,.p (i64 e))]) (fun _=>[(7,.row 214 (out.map hb))]) (fun _ _ t h=>?_) ?_;rotate_left
   ·refine aP (fun s:List aR=>bD y s=bD y z/\(s.length:Int)<=4000000) (fun s=>[(0,.p (a_ s)),(1,.p (a_ D)),(2,.p (OE F)),(7,.ow 7),(8,.p (i64 y)),(9,.p (i64 e))]) (fun _=>[(7,.row 214 (out.map hb))]) (fun s=>s.length) z _ (aA.refl _ _) ⟨rfl,by omega⟩ ⟨Z,Z,Z,Z,Z,Z,Y⟩ ⟨Z,Y⟩ fun s hs t h=>?_;obtain⟨J,s2⟩:=hs;rcases s with _ | ⟨c,s⟩
    ·rw[<-J];exact⟨(),trivial,⟨Z,Z,Z,Z,Z,Z,Y⟩,⟨Z,Y⟩⟩
    simp at s2;apply iW<;>intro d1
    ·refine⟨(hb c),(idx (i:=0) rfl rfl),iW ?_ ?_⟩<;>intro d2
     ·refine⟨⟨by simp,(by first | omega | (simp;done) | (simp;omega)),(by first | omega | (simp;done) | (simp;omega)),MW⟩,s,_,aA.refl _ _,?_⟩;rw[bD,ae d2]at J;exact⟨⟨J,by omega⟩,by simp,⟨iz (hb c) _,Z,Z,Z,Z,Z,Y⟩,⟨Z,Y⟩⟩
     rw[bD,aa d2]at J;rw[<-J];exact⟨(),trivial,⟨Z,Z,Z,Z,Z,Z,Y⟩,⟨Z,Y⟩⟩
    simp at d1
   refine Ak (fun _:Unit=>True) (fun _=>[(0,.p (a_ (bD y z))),(1,.p (a_ (bD y D))),(2,.p (OE F)),(7,.ow 7),(8,.p (i64 y)),(9,.p (i64 e))]) (fun _=>[(7,.row 214 (out.map hb))]) (fun _ _ t h=>?_) ?_;rotate_left
   ·refine aP (fun s:List aR=>bD y s=bD y D/\(s.length:Int)<=4000000) (fun s=>[(0,.p (a_ (bD y z))),(1,.p (a_ s)),(2,.p (OE F)),(7,.ow 7),(8,.p (i64 y)),(9,.p (i64 e))]) (fun _=>[(7,.row 214 (out.map hb))]) (fun s=>s.length) D _ (aA.refl _ _) ⟨rfl,by omega⟩ ⟨Z,Z,Z,Z,Z,Z,Y⟩ ⟨Z,Y⟩ fun s hs t h=>?_;obtain⟨J,s2⟩:=hs;rcases s with _ | ⟨c,s⟩
    ·rw[<-J];exact⟨(),trivial,⟨Z,Z,Z,Z,Z,Z,Y⟩,⟨Z,Y⟩⟩
    simp at s2;apply iW<;>intro d1
    ·refine⟨(hb c),(idx (i:=0) rfl rfl),iW ?_ ?_⟩<;>intro d2
     ·refine⟨⟨by simp,(by first | omega | (simp;done) | (simp;omega)),(by first | omega | (simp;done) | (simp;omega)),MW⟩,s,_,aA.refl _ _,?_⟩;rw[bD,ae d2]at J;exact⟨⟨J,by omega⟩,by simp,⟨rfl,iz (hb c) _,Z,Z,Z,Z,Y⟩,⟨Z,Y⟩⟩
     rw[bD,aa d2]at J;rw[<-J];exact⟨(),trivial,⟨Z,Z,Z,Z,Z,Z,Y⟩,⟨Z,Y⟩⟩
    simp at d1
   have q1:=Reg.uy j11 (by omega) j13;have q2:=Reg.uy j12 (by omega) j14;have q3:=Reg.pH (oA (bD y z) y e).1;have q4:=Reg.pH (oA (bD y D) y e).1;have hp:ai C 152 [.row 214 (out.map hb),.pv (.ag [i64 y,i64 (min (oA (bD y z) y e).2 (oA (bD y D) y e).2),ints (kh N (cm (oA (bD y z) y e).1) (cm (oA (bD y D) y e).1))])] (.own 214 ((fj out ⟨y,W,pairUp L⟩).map hb)) [.gone]:=by
    rw[<-Kq,<-hL,show [i64 y,i64 W,ints L]=hb ⟨y,W,pairUp L⟩ by rw[hb,qw,j3]];exact vE out ⟨y,W,pairUp L⟩ j1 (by omega) (fun t ht=>by have:=lx' t ht;omega)
   exact⟨_,_,(hZ (bD y z) y e),_,_,(hZ (bD y D) y e),_,_,(hl (cm (oA (bD y z) y e).1) (cm (oA (bD y D) y e).1) (by omega)),_,_,hp,(m,bD y z,bD y D,W,fj out ⟨y,W,pairUp L⟩),_,aA.refl _ _,⟨by simp only;omega,i2,j4,j5,j8,j9,j6,j7,j10,by simp only;omega⟩,by simp only;omega,⟨rfl,rfl,rfl,rfl,bI Kq.symm,Z,Y⟩,⟨Z,Y⟩⟩
  have e3:lN N n z D y e out=out:=by
   cases n with
   | zero=>rfl
   | succ n=>rw[lN,aa O]
  rw[e3]at i2;refine⟨?_,trivial⟩;rw[<-i2];rfl
open Reg (Lg fg iw fv jg told Full RK)
theorem Cy(a b:List aR)(z:dF a)(u:dF b)(D:gy 2000000 a)(I:gy 2000000 b):ai C 96 [.pv (a_ a),.pv (a_ b)] (.p (a_ (iL a b))) []:=by
 refine fW hC Tryz.func96 rfl (by kernel_rfl) fun _=>?_;refine⟨_,_,(xG .less a b z u D I),?_,trivial⟩;rfl
theorem MX{b:aR}(h:Lg b):∃u,flat b.xs=fv b::(cm b.xs).getD 1 0::u/\(flat b.xs)[(flat b.xs).length-1]?=some (jg b):=by
 have z:=h.ne;unfold fv jg;rw[qw];cases hx:b.xs with
 | nil=>exact absurd hx z
 | cons p u=>
  refine⟨cm u,rfl,?_⟩;rw[<-jS];cases hl:(cm (p::u)).getLast? with
  | none=>rw[xl]at hl;cases hl
  | some c=>rfl
theorem GH(s:List aR)(D:dF s)(ks:gy 2000000 s)(W:s≠[]):ai C 185 [.pv (a_ s)] (.p (.ag (rc (fg s)))) []:=by
 refine FP ⟨[5],[],[],[],[(5,[true,true,true,true,true,true,true,true,true,true,false,true,false,false,true,false,false,true,true,false,true,true])],[]⟩ hC Tryz.func185 rfl (by kernel_rfl) fun _=>?_;have ls:=Reg.eW D (by omega) ks;have L:=an s hb;rcases s with _ | ⟨b,s⟩
 ·exact absurd rfl W
 obtain⟨u,N,hl⟩:=MX D.head;obtain⟨O,S_,VK⟩:=Reg.A_ b s;obtain⟨z,R⟩:∃z:aB,z=⟨fv b,b.y0,(cm b.xs).getD 1 0,O.y1⟩:=⟨_,rfl⟩;have hA:fg (b::s)=(b::s).foldl iw z:=by rw[R,VK];rfl
 simp at ls;have lbs:(b::s).length<=4000000:=by simp;omega
 have g0:(flat b.xs)[0]?=some (fv b):=by rw[N];rfl
 have g1:(flat b.xs)[1]?=some ((cm b.xs).getD 1 0):=by rw[N];rfl
 refine⟨(hb b),(idx (i:=0) rfl rfl),[i64 (fv b)],(idx (i:=0) rfl g0),(hb b),(idx (i:=0) rfl rfl),(hb b),(idx (i:=0) rfl rfl),[i64 ((cm b.xs).getD 1 0)],(idx (i:=1) rfl g1),⟨by simp,by simp;omega⟩,(hb O),(idx (show (((b::s).map hb).length:Int)-1=((s.length:Nat):Int) by simp) S_),?_⟩;refine aP (fun i:Nat=>i<=(b::s).length) (fun i=>[(2,.bx 2 0),(3,.bx 3 0),(30,.p (a_ (b::s))),(31,.p (i64 ((b::s).map hb).length)),(32,.p (i64 i))]) (fun i=>[(2,.box [.p (i64 0),.p (i64 0),.p (i64 0),.p (i64 0)]),(3,.box [.p (i64 (((b::s).take i).foldl iw z).x0),.p (i64 (((b::s).take i).foldl iw z).y0),.p (i64 (((b::s).take i).foldl iw z).x1),.p (i64 (((b::s).take i).foldl iw z).y1)])]) (fun i=>(b::s).length-i) 0 _ (aA.refl _ _) (ak _) ⟨Z,Z,Z,Z,Z,Y⟩ ⟨rfl,by rw[R];rfl,trivial⟩ fun i hi t h=>?_;apply iW<;>intro U
 ·rw[L]at U;obtain⟨c,I⟩:=ax (l:=b::s) (i:=i) (by omega);have cb:=D.mem c (aj I);obtain⟨u',V,N1⟩:=MX cb;have lx:=Reg.rP D (by omega) ks c (aj I);have fl:=fK c.xs;have J:=an (flat c.xs) fun n=>[i64 n];have fne:1<=(flat c.xs).length:=by rw[V];simp
  have g3:(flat c.xs)[0]?=some (fv c):=by rw[V];rfl
  have e1:((b::s).take (i+1)).foldl iw z=iw (((b::s).take i).foldl iw z) c:=by rw[bq I,u7];rfl
  generalize ((b::s).take i).foldl iw z=acc at *;refine⟨(hb c),(idx rfl I),?_⟩;refine W1 5 (y:=.ip (hb c)) (fz:=[(5,.nd (hb c))]) (by exact hC) (by exact⟨rfl,rfl⟩) ?_;refine⟨[i64 (fv c)],(idx (i:=0) rfl g3),⟨by rw[J];omega,by rw[J];omega⟩,[i64 (jg c)],(idx (show (((flat c.xs).map fun n=>[i64 n]).length:Int)-1=(((flat c.xs).length-1:Nat):Int) by rw[J];omega) N1),wO (by omega),(i+1),_,aA.refl _ _,?_⟩;rw[e1];exact⟨by omega,by omega,⟨Z,Z,Z,Z,Z,Y⟩,⟨Z,Z,Y⟩⟩
 rw[L]at U;refine⟨?_,trivial⟩;rw[kG (by omega),<-hA];rfl
theorem OG{s:List aR}{i:Nat}{b:aR}(h:s[i]?=some b):(told (s.take (i+1))).length=(told (s.take i)).length+b.xs.length:=by
 rw[qn h,bJ,E5]
theorem vM(s:List aR)(hN:s.length<=1000000000000)(hX:∀t∈s,t.xs.length<=1000000000000)(hT:(told s).length<=4398046511104):ai C 97 [.pv (a_ s)] (.p (i64 (told s).length)) []:=by
 refine fW hC Tryz.func97 rfl (by kernel_rfl) fun _=>?_;have u:=an s hb;have I:∀i,(told (s.take i)).length<=(told s).length:=fun i=>by
  have e:told s=told (s.take i)++told (s.drop i):=by
   unfold told;rw[<-aT,nj]
  rw[e,bJ];omega
 refine aP (fun i:Nat=>i<=s.length) (fun i=>[(3,.p (i64 (told (s.take i)).length)),(6,.p (a_ s)),(7,.p (i64 (s.map hb).length)),(8,.p (i64 i))]) (fun i=>[]) (fun i=>s.length-i) 0 _ (aA.refl _ _) (ak _) ⟨Z,Z,Z,Z,Y⟩ trivial fun i hi t h=>?_;apply iW<;>intro z
 ·rw[u]at z;obtain⟨c,D⟩:=ax (l:=s) (i:=i) (by omega);have J:=fK c.xs;have L:=an (flat c.xs) fun n=>[i64 n];have e1:=OG D;have t1:=I (i+1);have q:((((flat c.xs).map fun n=>[i64 n]).length:Nat):Int).tdiv 2=(c.xs.length:Int):=by
   rw[L,J,F0 (by omega)];omega
  exact⟨(hb c),(idx rfl D),by decide,⟨by rw[q];omega,by rw[q];omega⟩,⟨by rw[q];omega,by rw[q];omega⟩,wO (by omega),(i+1),_,aA.refl _ _,by omega,by omega,⟨bI (by rw[q,e1];omega),Z,Z,Z,Y⟩,trivial⟩
 rw[u]at z;refine⟨?_,trivial⟩;rw[kG (by omega)]
theorem Cz:∀{l:List Int} {c hi:Int},Reg.ct (c::l)->(∀x∈c::l,x<=hi)->(l.length:Int)<=hi-c
 | [],c,hi,_,h=>by have:=h c (by simp);simp only[kv];omega
 | d::l,c,hi,hr,h=>by
  have ih:=Cz (l:=l) (c:=d) (hi:=hi) hr.tail (fun x u=>h x (by simp at u ⊢;exact .inr u));have h1:=hr.behind d (by simp);simp only[bN];omega
theorem qx(l:List aB)(K:Int)(N:0<=K)(h1:K<=2000000)(D:∀r∈l,Full r)(hk:∀r∈l,RK K r)(O:l.length<=4398046511104):ai C 88 [.pv (aE l)] (.own 214 ((Reg.cH l).map hb)) []:=by
 refine xi l (fun r z=>?_) O ?_ (fun y=>?_)
 ·have a:=hk r z;have b:=D r z;unfold RK at a;unfold Full at b;exact⟨⟨by omega,by omega,by omega,by omega⟩,b.1,b.2⟩
 ·obtain⟨J,R⟩:=Reg.gY l;cases L:Reg.cr l with
  | nil=>simp
  | cons c u=>
   rw[L]at J;have all:∀x∈c::u,-K<=x/\x<=K:=fun x I=>by
    rw[<-L]at I;obtain⟨r,z,e⟩:=(R x).1 I;have a:=hk r z;have b:=D r z;unfold RK at a;unfold Full at b;omega
   have:=Cz J (hi:=K) (fun x I=>(all x I).2);have:=(all c (by simp)).1;simp only[bN];omega
 have U:=(Reg.HW l y (fun r z=>(D r z).1)).1;have:=Reg.uy U N (Reg.RF D y hk);omega
open Reg (at')
theorem XA{a b:List aR}(U:dF a)(z:dF b){K:Int}(V:gy K b)(h:∀x y,at' a x y=true->at' b x y=true):gy K a:=fun t I=>by
 have bt:=U.mem t I;have lt:=bt.lt;have pin:∀x y,at' b x y=true->-K<=x/\x<K/\-K<=y/\y<K:=fun x y J=>by
  rw[<-Reg.Ct z,wy]at J;obtain⟨q,D,W⟩:=J;obtain⟨L,N,O,R⟩:=Reg.dC.1 W;obtain⟨g1,g2,g3,g4⟩:=Reg.ux z V q D;exact⟨by omega,by omega,by omega,by omega⟩
 have pt:∀p∈t.xs,∀x y,p.1<=x->x<p.2->t.y0<=y->y<t.y1->at' b x y=true:=fun p hp x y L N O R=>h x y (Reg.zb.2 ⟨t,I,O,R,(Reg.dL bt.can x).2 ⟨p,hp,L,N⟩⟩);obtain⟨p,u,e⟩:∃p u,t.xs=p::u:=by
  cases hx:t.xs with
  | nil=>exact absurd hx bt.ne
  | cons p u=>exact⟨p,u,rfl⟩
 have pm:p∈t.xs:=by rw[e];simp
 have pl:=Reg.iK bt.can p pm;have Y:=pin p.1 t.y0 (pt p pm _ _ (by omega) (by omega) (by omega) (by omega));have c2:=pin p.1 (t.y1-1) (pt p pm _ _ (by omega) (by omega) (by omega) (by omega));refine⟨Y.2.2.1,by omega,fun q D=>?_⟩;have ql:=Reg.iK bt.can q D;have d1:=pin q.1 t.y0 (pt q D _ _ (by omega) (by omega) (by omega) (by omega));have d2:=pin (q.2-1) t.y0 (pt q D _ _ (by omega) (by omega) (by omega) (by omega));omega
theorem Ux{a b:List aR}(z:dF a)(u:dF b){K:Int}(D:gy K a):gy K (iL a b):=by
 obtain⟨I,J,_⟩:=Reg.oC z u;refine XA I z D fun x y h=>?_;rw[J,aJ]at h;exact h.1
structure VO(l:List aB):Prop where
 sok:dF (Reg.cH l)
 ink:gy 1000000 (Reg.cH l)
 at_:∀x y,at' (Reg.cH l) x y=l.any (Reg.oV x y)
 full:∀r∈l,Full r
 rk:∀r∈l,RK 1000000 r
 len:l.length<=2000
theorem aff{l:List aB}(h:Reg.bA l=0):VO l:=by
 have u:Reg.c7 l=0:=by
  unfold Reg.bA at h;by_cases u:Reg.c7 l=0
  ·exact u
  rw[aa u]at h;exact absurd h u
 obtain⟨J,D⟩:=Reg.vD u;have I:∀r∈l,Full r:=fun r z=>⟨(D r z).2.1,(D r z).2.2⟩;have hk:∀r∈l,RK 1000000 r:=fun r z=>by
  have:=(D r z).1;simp[Reg.jq,Reg.iZ]at this;exact⟨by omega,by omega,by omega,by omega⟩
 obtain⟨L,N,O⟩:=Reg.b7 I;exact⟨L,O _ hk,N,I,hk,J⟩
theorem OM{l:List aB}(h:VO l):ai C 88 [.pv (aE l)] (.own 214 ((Reg.cH l).map hb)) []:=qx l 1000000 (by omega) (by omega) h.full h.rk (by have:=h.len;omega)
end M
namespace Reg
structure dq where
 x:Int
 y:Int
 size:Int
 lo:Int
 hi:Int
 plated:Bool
structure oW where
 part:ByteArray
 pin:ByteArray
 layer:Int
 x:Int
 y:Int
structure yr where
 coppers:List (List aB)
 outline:List aB
 bores:List dq
 lands:List oW
def within(n lo hi:Int):Bool:=decide (lo<=n)&&decide (n<=hi)
def bM(b:dq):aB:=⟨b.x-b.size.tdiv 2,b.y-b.size.tdiv 2,b.x-b.size.tdiv 2+b.size,b.y-b.size.tdiv 2+b.size⟩
def ew(b:dq):Bool:=within b.size 1 10000&&(iZ b.x&&iZ b.y)
def gW(b:dq):Bool:=ew b&&jq (bM b)
def VP:aB:=⟨0,0,0,0⟩
def lh(b:dq):aB×Int:=if gW b=true then (bM b,0) else (VP,1)
theorem mC{b:dq}(h:ew b=true):Full (bM b):=by
 simp[ew,within,iZ]at h;exact⟨by simp[bM];omega,by simp[bM];omega⟩
theorem uC{b:dq}(h:ew b=true):RK 1010000 (bM b):=by
 simp[ew,within,iZ]at h;have h1:0<=b.size.tdiv 2/\b.size.tdiv 2<=b.size:=by
  rw[F0 (by omega)];omega
 refine⟨?_,?_,?_,?_⟩<;>simp only[bM]<;>omega
theorem EO{r:aB}(h:Full r):cH [r]=[⟨r.y0,r.y1,[(r.x0,r.x1)]⟩]:=by
 have I:∀q∈[r],Full q:=fun q z=>by rw[Fp]at z;subst z;exact h
 obtain⟨J,L,_⟩:=b7 I;refine Cx _ _ J ?_ fun x y=>?_
 ·show dF [_];exact Cs (s:=[]) trivial ⟨h.2,by simp,Canon.cons h.1 (by simp) trivial⟩ (by simp) (by simp)
 rw[L,at_one];simp only[uc,List.any_nil,wz];rw[Ax,dC];have:=h.1;by_cases u:x<r.x0
 ·simp[cm,par,u];omega
 by_cases D:x<r.x1
 ·simp[cm,par,u,D];omega
 simp[cm,par,u,D];omega
theorem Lm{r:aB}(h:Full r):fg (cH [r])=r:=by
 rw[EO h];simp[fg,iw,fv,jg,cm,n4]
def through(b:dq)(layer:Int):Bool:=decide (b.lo<=layer)&&decide (layer<=b.hi)
def uD(a0 a1 b0 b1:Int):Int:=max (max 0 (b0-a1+1)) (a0-b1+1)
def VQ(a b:aB):Int:=max (uD a.x0 a.x1 b.x0 b.x1) (uD a.y0 a.y1 b.y0 b.y1)
def eL(n:Int):List dq->Int
 | []=>0
 | b::r=>if (lh b).2≠0 then (lh b).2 else if (within b.lo 0 (n-1)&&within b.hi b.lo (n-1))=true then eL n r else 1
def b8(a:yr):Int:=if 500<a.bores.length then 2 else eL a.coppers.length a.bores
theorem ON{n:Int}{l:List dq}{i:Nat}{b:dq}(h:l[i]?=some b):eL n (l.drop i)=if (lh b).2≠0 then (lh b).2 else if (within b.lo 0 (n-1)&&within b.hi b.lo (n-1))=true then eL n (l.drop (i+1)) else 1:=by
 have:l.drop i=b::l.drop (i+1):=by
  obtain⟨u,z⟩:=az.1 h;rw[l_ u,z]
 rw[this];rfl
structure xK(n:Int)(b:dq):Prop where
 ok:gW b=true
 lo:0<=b.lo
 le:b.lo<=b.hi
 hi:b.hi<=n-1
theorem Ln{n:Int}:∀{l:List dq},eL n l=0->∀b∈l,xK n b:=by
 intro l
 induction l with
 | nil=>intro _ b hb;cases hb
 | cons c l ih=>
  intro h b hb;rw[eL]at h;by_cases u:(lh c).2≠0
  ·rw[ae u]at h;exact absurd h u
  rw[aa u]at h;by_cases z:(within c.lo 0 (n-1)&&within c.hi c.lo (n-1))=true
  ·rw[ae z]at h;rcases L8.1 hb with e | e
   ·subst e;simp[within]at z;refine⟨?_,by omega,by omega,by omega⟩;by_cases D:gW b=true
    ·exact D
    rw[lh,aa D]at u;simp at u
   exact ih h b e
  rw[aa z]at h;cases h
end Reg
namespace M
open Go.AM Go.RowKit Go.Lib
open Reg (aB cw aR cm dF gy Lg iL fg told Canon Full RK at' dq oW yr bM lh ew gW through uD VQ)
def bc(b:dq):List PV:=[i64 b.x,i64 b.y,i64 b.size,i64 b.lo,i64 b.hi,bool b.plated]
def lc(l:oW):List PV:=[str l.part,str l.pin,i64 l.layer,i64 l.x,i64 l.y]
theorem aaz(n lo hi:Int):ai C 91 [.pv (i64 n),.pv (i64 lo),.pv (i64 hi)] (.p (bool (Reg.within n lo hi))) []:=by
 refine fW hC Tryz.func91 rfl (by kernel_rfl) fun _=>?_;apply iW<;>intro h<;>(refine⟨?_,trivial⟩)<;>simp[bool,Reg.within,h]
theorem oE(b:dq)(l:Int):ai C 95 [.pv (.ag (bc b)),.pv (i64 l)] (.p (bool (through b l))) []:=by
 refine fW hC Tryz.func95 rfl (by kernel_rfl) fun _=>?_;apply iW<;>intro h<;>(refine⟨?_,trivial⟩)<;>simp[bool,through,h]
theorem fA(b:dq)(h:ew b=true):ai C 48 [.pv (.ag (bc b))] (.p (.ag (rc (bM b)))) []:=by
 simp[ew,Reg.within,Reg.iZ]at h;have h1:0<=b.size.tdiv 2/\b.size.tdiv 2<=b.size:=by
  rw[F0 (by omega)];omega
 refine fW hC Tryz.func48 rfl (by kernel_rfl) fun _=>?_;refine⟨by omega,wO (by omega),wO (by omega),by omega,wO (by omega),wO (by omega),wO (by omega),wO (by omega),?_,trivial⟩;rfl
theorem CI(s:List aR)(z:dF s)(ks:gy 2000000 s):ai C 154 [.pv (a_ s)] (.p (bool (decide (s=[])||Reg.jq (fg s)))) []:=by
 refine fW hC Tryz.func154 rfl (by kernel_rfl) fun _=>?_;have u:=an s hb;apply iW<;>intro h
 ·rw[u]at h;have e:s=[]:=Az (by omega);refine⟨?_,trivial⟩;simp[bool,e]
 rw[u]at h;have e:s≠[]:=fun e=>h (by rw[e];rfl);refine⟨_,_,(GH s z ks e),_,_,(wY (fg s)),?_,trivial⟩;simp[bool,e]
theorem DV(b:dq):ai C 90 [.pv (.ag (bc b))] (.tu [.ag (rc (lh b).1),i64 (lh b).2]) []:=by
 refine fW hC Tryz.func90 rfl (by kernel_rfl) fun _=>?_;refine⟨_,_,(aaz b.size 1 10000),?_⟩;have no:gW b=false->lh b=(Reg.VP,1):=fun h=>by rw[lh,h];rfl
 apply iW<;>intro I
 ·refine⟨?_,trivial⟩;rw[no (by simp only[gW,ew];rw[I];rfl)];rfl
 refine⟨_,_,(dR b.x b.y),iW ?_ ?_⟩<;>intro L
 ·refine⟨?_,trivial⟩;rw[no (by simp only[gW,ew];rw[I,L];rfl)];rfl
 have u:ew b=true:=by simp only[ew];rw[I,L];rfl
 have J:=Reg.mC u;have hk:=Reg.uC u;have z:∀q∈[bM b],Full q:=fun q D=>by rw[Fp]at D;subst D;exact J
 have N:∀q∈[bM b],RK 1010000 q:=fun q D=>by rw[Fp]at D;subst D;exact hk
 obtain⟨U,b2,V⟩:=Reg.b7 z;have W:=qx [bM b] 1010000 (by omega) (by omega) z N (by simp);have O:=CI (Reg.cH [bM b]) U ((V _ N).up (by omega));rw[Reg.Lm J,show decide (Reg.cH [bM b]=[])=false by rw[Reg.EO J];rfl,ph]at O;refine⟨_,_,(fA b u),_,_,W,_,_,O,iW ?_ ?_⟩<;>intro R
 ·refine⟨?_,trivial⟩;rw[no (by simp only[gW];rw[u,R];rfl)];rfl
 have e:lh b=(bM b,0):=by rw[lh,ae (by simp only[gW];rw[u,R];rfl)]
 refine⟨?_,trivial⟩;rw[e];rfl
theorem vf(u z D I:Int)(h:(-4611686018427387000<=u/\u<=4611686018427387000)/\(-4611686018427387000<=z/\z<=4611686018427387000)/\(-4611686018427387000<=D/\D<=4611686018427387000)/\(-4611686018427387000<=I/\I<=4611686018427387000)):ai C 94 [.pv (i64 u),.pv (i64 z),.pv (i64 D),.pv (i64 I)] (.p (i64 (uD u z D I))) []:=by
 refine fW hC Tryz.func94 rfl (by kernel_rfl) fun _=>?_;refine⟨wO (by omega),wO (by omega),wO (by omega),wO (by omega),?_,trivial⟩;rfl
def meets(layer x y:Int)(a:Gj):Bool:=onB a layer&&a.region.any (Ri x y)
open Reg (eL b8)
def uR(a:yr):List PV:=[.sl (a.coppers.map fun r=>[aE r]),aE a.outline,.sl (a.bores.map bc),.sl (a.lands.map lc)]
def pc(p:ByteArray×ByteArray):List PV:=[str p.1,str p.2]
theorem xO(a b:ByteArray):ai C 109 [.pv (str a),.pv (str b)] (.p (i64 (Lib.compareBytes a.data.toList b.data.toList))) []:=
 tO [.string a,.string b] _ ⟨_,Tryz.func109,rfl,rfl⟩ fun S w _ _=>(Tryz.strings_Compare a b w).mono fun e w' h=>⟨h.1,by rw[h.2];exact Mt _ _⟩
def I_(p q:ByteArray×ByteArray):Int:=if Lib.compareBytes p.1.data.toList q.1.data.toList≠0 then Lib.compareBytes p.1.data.toList q.1.data.toList else Lib.compareBytes p.2.data.toList q.2.data.toList
theorem uS(p q:ByteArray×ByteArray):ai C 83 [.pv (.ag (pc p)),.pv (.ag (pc q))] (.p (i64 (I_ p q))) []:=by
 refine fW hC Tryz.func83 rfl (by kernel_rfl) fun _=>?_;refine⟨_,_,(xO p.1 q.1),iW ?_ ?_⟩<;>intro h
 ·refine⟨?_,trivial⟩;rw[I_,ae (by simpa using h)]
 refine⟨_,_,(xO p.2 q.2),?_,trivial⟩;rw[I_,aa (by simpa using h)]
theorem rU(l:oW):ai C 93 [.pv (.ag (lc l))] (.p (.ag (pc (l.part,l.pin)))) []:=by
 refine fW hC Tryz.func93 rfl (by kernel_rfl) fun _=>?_;refine⟨?_,trivial⟩;rfl
theorem xP(a:yr)(hn:a.coppers.length<=1000000):ai C 45 [.pv (.ag (uR a))] (.p (i64 (b8 a))) []:=by
 refine fW hC Tryz.func45 rfl (by kernel_rfl) fun _=>?_;have D:=an a.bores bc;have R:=an a.coppers fun r=>[aE r];apply iW<;>intro L
 ·rw[D]at L;refine⟨?_,trivial⟩;rw[b8,ae (by omega)];rfl
 rw[D]at L;have I:b8 a=eL a.coppers.length a.bores:=by rw[b8,aa (by omega)]
 refine aP (fun i:Nat=>i<=a.bores.length/\eL a.coppers.length a.bores=eL a.coppers.length (a.bores.drop i)) (fun i=>[(3,.p (i64 (a.coppers.map fun r=>[aE r]).length)),(16,.p (.sl (a.bores.map bc))),(17,.p (i64 (a.bores.map bc).length)),(18,.p (i64 i))]) (fun _=>[]) (fun i=>a.bores.length-i) 0 _ (aA.refl _ _) ⟨ak _,rfl⟩ ⟨Z,Z,Z,Z,Y⟩ trivial fun i hi t h=>?_;apply iW<;>intro N
 ·rw[D]at N;obtain⟨b,hb⟩:=ax (l:=a.bores) (i:=i) (by omega);have u:=Reg.ON (n:=a.coppers.length) hb;refine⟨(bc b),(idx rfl hb),_,_,(DV b),iW ?_ ?_⟩<;>intro z
  ·have z:(lh b).2≠0:=by simpa using z
   refine⟨?_,trivial⟩;rw[I,hi.2,u,ae z]
  have z:¬(lh b).2≠0:=by simpa using z
  rw[aa z]at u;refine⟨wO (by omega),_,_,(aaz b.lo 0 (((a.coppers.map fun r=>[aE r]).length:Int)-1)),?_⟩;rw[R];apply iW<;>intro J
  ·refine⟨?_,trivial⟩;rw[I,hi.2,u,aa (by rw[J];simp)];rfl
  refine⟨wO (by omega),_,_,(aaz b.hi b.lo ((a.coppers.length:Int)-1)),iW ?_ ?_⟩<;>intro O
  ·refine⟨?_,trivial⟩;rw[I,hi.2,u,aa (by rw[J,O];simp)];rfl
  rw[ae (by rw[J,O];rfl)]at u;exact⟨wO (by omega),(i+1),_,aA.refl _ _,⟨by omega,by rw[hi.2,u]⟩,by omega,⟨Z,Z,Z,Z,Y⟩,trivial⟩
 rw[D]at N;refine⟨?_,trivial⟩;rw[I,hi.2,jR (by omega)];rfl
def iN(n:Int)(ls:List oW)(i:Nat):Int:=match ls[i]? with
 | none=>0
 | some l=>if (si l.part&&gV l.pin)=true then (if (Reg.within l.layer 0 (n-1)&&(Reg.iZ l.x&&Reg.iZ l.y))=true then (match ls[i-1]? with
   | some q=>if 0<i/\I_ (l.part,l.pin) (q.part,q.pin)<=0 then 8 else 0
   | none=>0) else 1) else 5
def fQ(a:yr):Int:=if 1000<a.lands.length then 2 else bw (iN a.coppers.length a.lands) 0 a.lands.length
structure M6(a:yr):Prop where
 cop:a.coppers.length<=1048576
 rcs:∀r∈a.coppers,r.length<=1048576
 out:a.outline.length<=1048576
 bor:a.bores.length<=1048576
 lan:a.lands.length<=1048576
 str:∀l∈a.lands,bK l.part/\bK l.pin
theorem xQ(a:yr)(J:M6 a):ai C 46 [.pv (.ag (uR a))] (.p (i64 (fQ a))) []:=by
 refine fW hC Tryz.func46 rfl (by kernel_rfl) fun _=>?_;have z:=an a.lands lc;have lk:=an a.coppers fun r=>[aE r];have RA:=J.cop;apply iW<;>intro L
 ·rw[z]at L;refine⟨?_,trivial⟩;rw[fQ,ae (by omega)];rfl
 rw[z]at L;have N:fQ a=bw (iN a.coppers.length a.lands) 0 a.lands.length:=by rw[fQ,aa (by omega)]
 refine aP (fun i:Nat=>i<=a.lands.length/\∀k,k<i->iN a.coppers.length a.lands k=0) (fun i=>[(1,.bx 1 0),(10,.p (.sl (a.lands.map lc))),(11,.p (i64 (a.lands.map lc).length)),(12,.p (i64 i))]) (fun _=>[(1,.box ((uR a).map .p))]) (fun i=>a.lands.length-i) 0 _ (aA.refl _ _) ⟨ak _,by omega⟩ ⟨Z,Z,Z,Z,Y⟩ ⟨Z,Y⟩ fun i hi t h=>?_;apply iW<;>intro O
 ·rw[z]at O;obtain⟨l,hl⟩:=ax (l:=a.lands) (i:=i) (by omega);obtain⟨s1,s2⟩:=J.str l (aj hl);have u:∀v,iN a.coppers.length a.lands i=v->v≠0->fQ a=v:=fun v R cO=>by
   rw[N,nT (m:=i) (by rw[R];exact cO) (fun k _ hk=>hi.2 k hk) (by omega) (by omega),R]
  refine⟨(lc l),(idx rfl hl),_,_,(kM l.part s1),iW ?_ ?_⟩<;>intro D
  ·refine⟨?_,trivial⟩;rw[u 5 (by simp only[iN,hl];rw[aa (by rw[D];simp)]) (by decide)];rfl
  refine⟨_,_,(eN l.pin (by unfold bK at s2;omega)),iW ?_ ?_⟩<;>intro I
  ·refine⟨?_,trivial⟩;rw[u 5 (by simp only[iN,hl];rw[aa (by rw[I];simp)]) (by decide)];rfl
  refine⟨wO (by omega),_,_,(aaz l.layer 0 (((a.coppers.map fun r=>[aE r]).length:Int)-1)),?_⟩;rw[lk];apply iW<;>intro U
  ·refine⟨?_,trivial⟩;rw[u 1 (by simp only[iN,hl];rw[ae (by rw[D,I];rfl),aa (by rw[U];simp)]) (by decide)];rfl
  refine⟨_,_,(dR l.x l.y),iW ?_ ?_⟩<;>intro V
  ·refine⟨?_,trivial⟩;rw[u 1 (by simp only[iN,hl];rw[ae (by rw[D,I];rfl),aa (by rw[V];simp)]) (by decide)];rfl
  have pre:iN a.coppers.length a.lands i=(match a.lands[i-1]? with
    | some q=>if 0<i/\I_ (l.part,l.pin) (q.part,q.pin)<=0 then 8 else 0
    | none=>0):=by simp only[iN,hl];rw[ae (by rw[D,I];rfl),ae (by rw[U,V];rfl)]
  apply iW<;>intro g5
  ·obtain⟨q,W⟩:=ax (l:=a.lands) (i:=i-1) (by omega);rw[W]at pre;simp only at pre;refine⟨_,_,(rU l),wO (by omega),(lc q),(idx (by omega) W),_,_,(rU q),_,_,(uS (l.part,l.pin) (q.part,q.pin)),iW ?_ ?_⟩<;>intro g6
   ·rw[ae ⟨by omega,by simpa using g6⟩]at pre;refine⟨?_,trivial⟩;rw[u 8 pre (by decide)];rfl
   rw[aa (fun e=>by simp at g6;omega)]at pre;exact⟨wO (by omega),(i+1),_,aA.refl _ _,⟨by omega,fun k hk=>by by_cases e:k=i;exact e▸pre;exact hi.2 k (by omega)⟩,by omega,⟨Z,Z,Z,Z,Y⟩,⟨Z,Y⟩⟩
  have pre:iN a.coppers.length a.lands i=0:=by
   rw[pre];split
   ·rw[aa (by omega)]
   rfl
  exact⟨wO (by omega),(i+1),_,aA.refl _ _,⟨by omega,fun k hk=>by by_cases e:k=i;exact e▸pre;exact hi.2 k (by omega)⟩,by omega,⟨Z,Z,Z,Z,Y⟩,⟨Z,Y⟩⟩
 rw[z]at O;refine⟨?_,trivial⟩;rw[N,bR fun k _ hk=>hi.2 k (by omega)];rfl
end M
namespace Reg
def UF(u:List Int):Prop:=∀(i:Nat) v,u[i]?=some v->0<=v/\v<=i
inductive ig(u:List Int):Nat->Nat->Prop
 | here (i:Nat) (h:u[i]?=some (i:Int)):ig u i i
 | up (i j r:Nat) (h:u[i]?=some (j:Int)) (cO:j≠i) (hr:ig u j r):ig u i r
theorem ig.lt{u:List Int}{i r:Nat}(h:ig u i r):i<u.length:=by
 cases h with
 | here _ h=>exact (az.1 h).1
 | up _ _ _ h=>exact (az.1 h).1
theorem ig.top{u:List Int}{i r:Nat}(h:ig u i r):u[r]?=some (r:Int):=by
 induction h with
 | here i h=>exact h
 | up i j r h cO hr ih=>exact ih
theorem ig.le{u:List Int}(z:UF u){i r:Nat}(h:ig u i r):r<=i:=by
 induction h with
 | here i h=>exact aG _
 | up i j r h cO hr ih=>have:=z i j h;omega
theorem ig.uniq{u:List Int}{i r q:Nat}(h:ig u i r)(k:ig u i q):r=q:=by
 induction h with
 | here i h=>
  cases k with
  | here=>rfl
  | up _ j _ h2 z _=>rw[h]at h2;injection h2 with h2;exact absurd (by omega) z
 | up i j r h z hr ih=>
  cases k with
  | here _ h2=>rw[h]at h2;injection h2 with h2;exact absurd (by omega) z
  | up _ D _ h2 Wx I=>
   rw[h]at h2;injection h2 with h2;have:j=D:=by omega
   subst this;exact ih I
theorem UF.parent{u:List Int}(D:UF u){i:Nat}(hi:i<u.length):∃j:Nat,u[i]?=some (j:Int)/\j<=i:=by
 obtain⟨v,z⟩:∃v,u[i]?=some v:=⟨_,oX hi⟩;have:=D i v z;exact⟨v.toNat,by rw[z];congr 1;omega,by omega⟩
theorem UF.root{u:List Int}(D:UF u):∀(i:Nat),i<u.length->∃r,ig u i r:=by
 intro i
 induction i using Nat.strongRecOn with
 | _ i ih=>
  intro hi;obtain⟨j,z,hle⟩:=D.parent hi;by_cases e:j=i
  ·subst e;exact⟨j,.here j z⟩
  obtain⟨r,I⟩:=ih j (by omega) (by omega);exact⟨r,.up i j r z e I⟩
theorem ky{α:Type}{l:List α}{i j:Nat}{x:α}(hi:i<l.length):(l.set i x)[j]?=if j=i then some x else l[j]?:=by
 by_cases e:j=i
 ·subst e;rw[ae rfl,dZ hi]
 rw[aa e,gC (fun e'=>e e'.symm)]
theorem UF.set{u:List Int}(D:UF u){i k:Nat}(hk:k<=i)(hi:i<u.length):UF (u.set i (k:Int)):=fun m v z=>by
 rw[ky hi]at z;by_cases e:m=i
 ·rw[ae e]at z;injection z with z;omega
 rw[aa e]at z;exact D m v z
theorem Sc{u:List Int}(z:UF u){i j k:Nat}(D:u[i]?=some (j:Int))(hk:u[j]?=some (k:Int)):UF (u.set i (k:Int))/\∀m r,ig (u.set i (k:Int)) m r↔ig u m r:=by
 have hi:=(az.1 D).1;have h1:=z i j D;have h2:=z j k hk;have Y:UF (u.set i (k:Int)):=z.set (by omega) hi;have I:∀m r,ig u m r->ig (u.set i (k:Int)) m r:=by
  intro m
  induction m using Nat.strongRecOn with
  | _ m ih=>
   intro r V;by_cases e:m=i
   ·subst e;have N:(u.set m (k:Int))[m]?=some (k:Int):=by rw[ky hi,ae rfl]
    cases V with
    | here _ h=>
     rw[D]at h;injection h with h;have e1:j=m:=by omega
     subst e1;rw[D]at hk;injection hk with hk;have e2:j=k:=by omega
     subst e2;exact .here j N
    | up _ J _ h O L=>
     rw[D]at h;injection h with h;have e1:j=J:=by omega
     subst e1;by_cases e2:k=j
     ·subst e2;have:r=k:=(ig.uniq (.here k hk) L).symm;subst this;exact .up m r r N O (ih r (by omega) r L)
     have R:ig u k r:=by
      cases L with
      | here _ h=>rw[hk]at h;injection h with h;exact absurd (by omega) e2
      | up _ Z _ h _ U=>
       rw[hk]at h;injection h with h;have e3:k=Z:=by omega
       subst e3;exact U
     exact .up m k r N (by omega) (ih k (by omega) r R)
   cases V with
   | here _ h=>exact .here m (by rw[ky hi,aa e];exact h)
   | up _ J _ h O L=>
    have:=z m J h;exact .up m J r (by rw[ky hi,aa e];exact h) O (ih J (by omega) r L)
 refine⟨Y,fun m r=>⟨fun h=>?_,I m r⟩⟩;obtain⟨q,W⟩:=z.root m (by have:=h.lt;rwa [aQ]at this);have:=(I m q W).uniq h;subst this;exact W
theorem join{u:List Int}(L:UF u){a b:Nat}(z:u[a]?=some (a:Int))(hb:u[b]?=some (b:Int)):UF (u.set (max a b) ((min a b:Nat):Int))/\∀m r,ig u m r->ig (u.set (max a b) ((min a b:Nat):Int)) m (if r=max a b then min a b else r):=by
 have hi:max a b<u.length:=by
  have h1:=(az.1 z).1;have h2:=(az.1 hb).1;omega
 have D:u[min a b]?=some ((min a b:Nat):Int):=by
  by_cases h:a<=b
  ·rw[show min a b=a by omega];exact z
  rw[show min a b=b by omega];exact hb
 have N:u[max a b]?=some ((max a b:Nat):Int):=by
  by_cases h:a<=b
  ·rw[show max a b=b by omega];exact hb
  rw[show max a b=a by omega];exact z
 refine⟨L.set (by omega) hi,fun m r I=>?_⟩
 induction I with
 | here i h=>
  by_cases e:i=max a b
  ·rw[ae e];by_cases e2:min a b=i
   ·subst e2;exact .here _ (by rw[ky hi,ae e])
   refine .up i (min a b) _ (by rw[ky hi,ae e]) e2 (.here _ ?_);rw[ky hi,aa (by omega)];exact D
  rw[aa e];exact .here i (by rw[ky hi,aa e];exact h)
 | up i j r h J I ih=>
  refine .up i j _ ?_ J ih;rw[ky hi,aa]
  ·exact h
  intro e;rw[e,N]at h;injection h with h;exact J (by omega)
def aaG(u:List Int)(i k:Nat):Prop:=∃r,ig u i r/\ig u k r
theorem aip{u v:List Int}(h:∀m r,ig v m r↔ig u m r)(i k:Nat):aaG v i k↔aaG u i k:=by
 simp only[aaG,h]
theorem ag9{u:List Int}(L:UF u){a b i k:Nat}(hi:ig u i a)(hk:ig u k b){p q:Nat}(hp:p<u.length)(V:q<u.length):
  aaG (u.set (max a b) ((min a b:Nat):Int)) p q↔aaG u p q\/(aaG u p i/\aaG u q k)\/(aaG u p k/\aaG u q i):=by
 obtain⟨j1,J⟩:=join L hi.top hk.top;obtain⟨r,D⟩:=L.root p hp;obtain⟨s,I⟩:=L.root q V;have e1:aaG (u.set (max a b) ((min a b:Nat):Int)) p q↔(if r=max a b then min a b else r)=(if s=max a b then min a b else s):=
  ⟨fun ⟨z,N,O⟩=>((J p r D).uniq N).trans ((J q s I).uniq O).symm,fun e=>⟨_,J p r D,by rw[e];exact J q s I⟩⟩
 have same:∀{x y:Nat} {c d:Nat},ig u x c->ig u y d->(aaG u x y↔c=d):=fun R U=>⟨fun ⟨z,N,O⟩=>(R.uniq N).trans (U.uniq O).symm,fun e=>⟨_,R,by rw[e];exact U⟩⟩;rw[e1,same D I,same D hi,same I hk,same D hk,same I hi];split<;>split<;>omega
def iota(n:Nat):List Int:=(List.range n).map fun (i:Nat)=>(i:Int)
theorem Sd{n i:Nat}(h:i<n):(iota n)[i]?=some (i:Int):=by rw[iota,aD,jK h];rfl
theorem qz(n:Nat):(iota n).length=n:=by simp[iota]
theorem Bf(n:Nat):UF (iota n):=fun i v u=>by
 have hi:=(az.1 u).1;rw[qz]at hi;rw[Sd hi]at u;injection u with u;omega
theorem aeO{n i r:Nat}(h:ig (iota n) i r):i=r:=by
 have hi:=h.lt;rw[qz]at hi;exact ((ig.here i (Sd hi)).uniq h)
def cV:Nat->List Int->Nat->List Int×Nat
 | 0,u,i=>(u,i)
 | n+1,u,i=>if u.getD i 0=i then (u,i) else cV n (u.set i (u.getD (u.getD i 0).toNat 0)) (u.getD (u.getD i 0).toNat 0).toNat
structure Se(u:List Int)(i:Nat)(x:List Int×Nat):Prop where
 uf:UF x.1
 len:x.1.length=u.length
 same:∀m q,ig x.1 m q↔ig u m q
 root:ig u i x.2
theorem ji:∀(n:Nat) (u:List Int) (i:Nat),UF u->i<u.length->i<=n->Se u i (cV n u i)
 | 0,u,i,hu,hi,hn=>by
  have:i=0:=by omega
  subst this;obtain⟨j,z,D⟩:=hu.parent hi;have:j=0:=by omega
  subst this;exact⟨hu,rfl,fun _ _=>cI,.here 0 z⟩
 | n+1,u,i,hu,hi,hn=>by
  obtain⟨j,z,D⟩:=hu.parent hi;have e1:u.getD i 0=j:=by rw[dc,z];rfl
  rw[cV];by_cases h:u.getD i 0=i
  ·rw[ae h];exact⟨hu,rfl,fun _ _=>cI,.here i (by rw[z,<-e1,h])⟩
  rw[aa h];rw[e1]at h ⊢;have O:j<u.length:=by omega
  obtain⟨k,hk,Z7⟩:=hu.parent O;have e2:u.getD (j:Int).toNat 0=k:=by rw[FY,dc,hk];rfl
  rw[e2,FY];obtain⟨R,I⟩:=Sc hu z hk;have ih:=ji n (u.set i (k:Int)) k R (by rw[aQ];omega) (by omega);refine⟨ih.uf,by rw[ih.len,aQ],fun m q=>(ih.same m q).trans (I m q),?_⟩;have J:=(I _ _).1 ih.root;have L:j≠i:=by omega
  by_cases N:k=j
  ·subst N;exact .up i k _ z L J
  exact .up i j _ z L (.up j k _ hk N J)
def kU(u:List Int)(i k:Nat):List Int:=(cV k (cV i u i).1 k).1.set (max (cV i u i).2 (cV k (cV i u i).1 k).2) ((min (cV i u i).2 (cV k (cV i u i).1 k).2:Nat):Int)
theorem xR{u:List Int}(z:UF u){i k:Nat}(hi:i<u.length)(hk:k<u.length):UF (kU u i k)/\(kU u i k).length=u.length:=by
 have a:=ji i u i z hi (aG _);have b:=ji k (cV i u i).1 k a.uf (by rw[a.len];exact hk) (aG _);have D:∀m q,ig (cV k (cV i u i).1 k).1 m q↔ig u m q:=fun m q=>(b.same m q).trans (a.same m q);have I:=(D _ _).2 a.root;have J:=(b.same _ _).2 b.root;exact⟨(join b.uf I.top J.top).1,by rw[kU,aQ,b.len,a.len]⟩
end Reg
namespace M
open Go.AM Go.RowKit Go.Lib
open Reg (UF ig Se cV ji iota)
theorem da{u:List Int}{i:Nat}{v:Int}(h:u[i]?=some v):(aK u)[i]?=some [i64 v]:=by rw[aK,aD,h];rfl
theorem gQ(u:List Int)(i:Nat)(v:Int):(aK u).set i [i64 v]=aK (u.set i v):=by simp[aK,w_]
theorem cA(u:List Int):(aK u).length=u.length:=by simp[aK]
theorem EP{n:Nat}{u:List Int}{i:Nat}(D:UF u)(hi:i<u.length)(hn:i<=n):∃j k:Nat,u[i]?=some (j:Int)/\u[j]?=some (k:Int)/\j<=i/\k<=j/\(j=i->cV n u i=(u,i))/\(j≠i->∃m,n=m+1/\cV n u i=cV m (u.set i (k:Int)) k):=by
 obtain⟨j,I,z⟩:=D.parent hi;obtain⟨k,hk,J⟩:=D.parent (i:=j) (by omega);have e1:u.getD i 0=j:=by rw[dc,I];rfl
 have e2:u.getD j 0=k:=by rw[dc,hk];rfl
 refine⟨j,k,I,hk,z,J,fun e=>?_,fun e=>?_⟩
 ·cases n with
  | zero=>rfl
  | succ n=>rw[cV,ae (by rw[e1];omega)]
 cases n with
 | zero=>omega
 | succ n=>
  refine⟨n,rfl,?_⟩;rw[cV,aa (by rw[e1];omega),e1,FY,e2,FY]
theorem zh(u:List Int)(O:UF u)(i:Nat)(hi:i<u.length):ai C 160 [.aU [.row 3 (aK u)],.pv (i64 i)] (.p (i64 (cV i u i).2)) [.aU [.row 3 (aK (cV i u i).1)]]:=by
 refine ZG ⟨[],[],[],[],[],[]⟩ hC Tryz.func160 rfl (by kernel_rfl) fun _=>⟨_,aA.open hC _ 100000 [90000] (by exact rfl) rfl rfl rfl,?_⟩;obtain⟨R,J⟩:∃R,R=cV i u i:=⟨_,rfl⟩;rw[<-J];refine aP (fun x:Nat×List Int×Nat=>cV x.1 x.2.1 x.2.2=R/\UF x.2.1/\x.2.2<x.2.1.length/\x.2.2<=x.1) (fun x=>[(0,.bx 100000 0),(1,.p (i64 x.2.2))]) (fun x=>[(100000,.box [.ow 90000]),(90000,.row 3 (aK x.2.1))]) (fun x=>x.2.2) (i,u,i) _ (aA.refl _ _) ⟨J.symm,O,hi,aG _⟩ ⟨Z,Z,Y⟩ ⟨Z,Z,Y⟩ fun ⟨n,v,k⟩ U t h=>?_;obtain⟨z,I,L,N⟩:=U;simp only at z I L N;obtain⟨j,l,D,hl,q1,q2,V,W⟩:=EP I L N;have lv:=cA v;refine⟨⟨by omega,by (try dsimp only);rw[lv];omega⟩,[i64 j],(da D),iW ?_ ?_⟩<;>intro g<;>try simp only[zB]at g
 ·have cO:j≠k:=by omega
  obtain⟨m,rfl,q5⟩:=W cO;refine⟨⟨by omega,by (try dsimp only);rw[lv];omega⟩,[i64 j],(da D),⟨by omega,by (try dsimp only);rw[lv];omega⟩,[i64 l],(da hl),⟨by omega,by (try dsimp only);rw[lv];omega⟩,[i64 j],(da D),⟨by omega,by (try dsimp only);rw[List.length_set,lv];omega⟩,[i64 l],(by rw[List.getElem?_set_self (by (try dsimp only);rw[lv];omega)];rfl),?_⟩;exact⟨(m,v.set k (l:Int),l),_,aA.refl _ _,⟨by rw[<-q5];exact z,(Reg.Sc I D hl).1,by simp only[List.length_set];omega,by dsimp only;omega⟩,by simp only;omega,⟨Z,Z,Y⟩,⟨rfl,congrArg (AB.row _) (gQ v k l),trivial⟩⟩
 have e:j=k:=by omega
 have z:=(V e).symm.trans z;subst z;exact And.intro rfl (And.intro ⟨Z,Z,Y⟩ trivial)
open Reg (kU)
theorem Lp(u:List Int)(z:UF u)(i k:Nat)(hi:i<u.length)(hk:k<u.length):ai C 103 [.aU [.row 3 (aK u)],.pv (i64 i),.pv (i64 k)] (.tu []) [.aU [.row 3 (aK (kU u i k))]]:=by
 have a:=ji i u i z hi (aG _);have b:=ji k (cV i u i).1 k a.uf (by rw[a.len];exact hk) (aG _);refine FP ⟨[1],[],[],[],[],[]⟩ hC Tryz.func103 rfl (by kernel_rfl) fun _=>?_;refine⟨_,_,(zh u z i hi),_,_,(zh (cV i u i).1 a.uf k (by rw[a.len];exact hk)),?_⟩;refine abA (aA.open (by exact hC) _ 100000 [90000] (by exact rfl) rfl rfl rfl) ?_;have ra:=(az.1 ((b.same _ _).2 ((a.same _ _).2 a.root)).top).1;have rb:=(az.1 ((b.same _ _).2 b.root).top).1;have D:((max ((cV i u i).2:Int) ((cV k (cV i u i).1 k).2:Int))).toNat=max (cV i u i).2 (cV k (cV i u i).1 k).2:=by omega
 have lv:=cA (cV k (cV i u i).1 k).1;obtain⟨v,I⟩:∃v,(cV k (cV i u i).1 k).1[max (cV i u i).2 (cV k (cV i u i).1 k).2]?=some v:=⟨_,oX (by omega)⟩;refine⟨⟨by omega,by rw[lv];omega⟩,[i64 v],(by rw[D];exact da I),rfl,(And.intro ⟨rfl,?_,trivial⟩ trivial)⟩;refine ar (AB.row _) ?_;rw[D];show (aK _).set _ [i64 (min _ _)]=_;rw[gQ,kU];congr 1;congr 1;omega
end M
namespace Reg
def dy(p:Nat->Nat)(i:Nat):List Nat:=(List.range i).filter fun r=>decide (p r=r)
def kj(p:Nat->Nat)(i r:Nat):List Nat:=(List.range i).filter fun m=>decide (p m=r)
def a7(p:Nat->Nat)(i:Nat):List (List Nat):=(dy p i).map (kj p i)
structure OW(p:Nat->Nat)(n:Nat):Prop where
 le:∀m,m<n->p m<=m
 top:∀m,m<n->p (p m)=p m
theorem mem_keys{p:Nat->Nat}{i r:Nat}:r∈dy p i↔r<i/\p r=r:=by simp[dy]
theorem pM{p:Nat->Nat}{i r m:Nat}:m∈kj p i r↔m<i/\p m=r:=by simp[kj]
theorem CO(p:Nat->Nat)(i:Nat):(dy p i).Nodup:=pE ga List.nodup_range
theorem kp(p:Nat->Nat)(i:Nat):dy p (i+1)=if p i=i then dy p i++[i] else dy p i:=by
 rw[dy,rG,nt];by_cases h:p i=i<;>simp[h,dy]
theorem xS(p:Nat->Nat)(i r:Nat):kj p (i+1) r=if p i=r then kj p i r++[i] else kj p i r:=by
 rw[kj,rG,nt];by_cases h:p i=r<;>simp[h,kj]
theorem Sf{p:Nat->Nat}{n i:Nat}(hp:OW p n)(hi:i<=n):kj p i i=[]:=by
 refine Gz.2 fun m u=>?_;have h1:=wx.1 u;have:=hp.le m (by omega);simp;omega
theorem Jb{p:Nat->Nat}{n i:Nat}(hp:OW p n)(hi:i<n)(h:p i=i):a7 p (i+1)=a7 p i++[[i]]:=by
 rw[a7,kp,ae h,E8];congr 1
 ·refine qY fun r u=>?_;have:=(mem_keys.1 u).1;rw[xS,aa (by omega)]
 simp[xS,h,Sf hp (Nat.le_of_lt hi)]
theorem Sg{p:Nat->Nat}{n i:Nat}(hp:OW p n)(hi:i<n)(h:p i≠i):∃k:Nat,(dy p i)[k]?=some (p i):=by
 have h1:=hp.le i hi;exact ca.1 (mem_keys.2 ⟨by omega,hp.top i hi⟩)
theorem Sh{l:List Nat}(h:l.Nodup){a b x:Nat}(I:l[a]?=some x)(hb:l[b]?=some x):a=b:=by
 obtain⟨z,e1⟩:=az.1 I;obtain⟨D,e2⟩:=az.1 hb;rcases iq a b with u | u | u
 ·exact absurd (e1.trans e2.symm) (FZ.1 h _ _ z D u)
 ·exact u
 exact absurd (e2.trans e1.symm) (FZ.1 h _ _ D z u)
theorem Jc{p:Nat->Nat}{i:Nat}(h:p i≠i){k:Nat}(hk:(dy p i)[k]?=some (p i)):a7 p (i+1)=(a7 p i).set k (kj p i (p i)++[i])/\(a7 p i)[k]?=some (kj p i (p i)):=by
 have u:=(az.1 hk).1;refine⟨?_,by rw[a7,aD,hk];rfl⟩;rw[a7,kp,aa h];apply kz;intro m;rw[ky (by rw[a7,E5];exact u),a7,aD,aD];by_cases e:m=k
 ·subst e;rw[ae rfl,hk];simp[xS]
 rw[aa e];cases hm:(dy p i)[m]? with
 | none=>rfl
 | some r=>
  have z:p i≠r:=fun e2=>e (Sh (CO p i) hm (by rw[hk,e2]));simp[xS,z]
theorem qA(p:Nat->Nat)(i:Nat):(a7 p i).length=(dy p i).length:=by simp[a7]
theorem tb(p:Nat->Nat)(i:Nat):(dy p i).length<=i:=by
 have:=wH (fun r=>decide (p r=r)) (List.range i);simpa [dy] using this
theorem xT(p:Nat->Nat)(i r:Nat):(kj p i r).length<=i:=by
 have:=wH (fun m=>decide (p m=r)) (List.range i);simpa [kj] using this
def kV(u:List Int)(i:Nat):Nat:=(cV i u i).2
theorem oG{u:List Int}(z:UF u){i:Nat}(hi:i<u.length):ig u i (kV u i):=(ji i u i z hi (aG _)).root
theorem Si{u:List Int}(z:UF u){i r:Nat}(h:ig u i r):kV u i=r:=(oG z h.lt).uniq h
theorem Bg{u:List Int}(z:UF u):OW (kV u) u.length:=
 ⟨fun m D=>(oG z D).le z,fun m D=>by
  have h:=oG z D;exact Si z (.here _ h.top)⟩
theorem aaN{u:List Int}(z:UF u){i k:Nat}(hi:i<u.length)(hk:k<u.length):aaG u i k↔kV u i=kV u k:=
 ⟨fun ⟨r,D,I⟩=>(Si z D).trans (Si z I).symm,fun e=>⟨_,oG z hi,by rw[e];exact oG z hk⟩⟩
end Reg
namespace M
open Go.AM Go.RowKit Go.Lib
open Reg (UF ig iota)
def vP(n i:Nat):List Int:=(List.range n).map fun (j:Nat)=>if j<i then (j:Int) else 0
theorem CP(n i:Nat):(vP n i).length=n:=by simp[vP]
theorem Jd{n i:Nat}(h:i<n):(vP n i)[i]?=some 0:=by
 rw[vP,aD,jK h];simp
theorem ER(n:Nat):aK (vP n 0)=List.replicate n [i64 0]:=by
 refine kz fun m=>?_;rw[aK,aD,vP,aD,MR];by_cases h:m<n
 ·rw[jK h,ae h];rfl
 rw[aa h,iR (by simp;omega)];rfl
theorem Je(n:Nat):vP n n=iota n:=qY fun j u=>ae (wx.1 u)
theorem Jf{n i:Nat}(h:i<n):(vP n i).set i (i:Int)=vP n (i+1):=by
 refine kz fun m=>?_;rw[Reg.ky (by rw[CP];exact h),vP,vP,aD,aD];by_cases e:m=i
 ·subst e;rw[ae rfl,jK h];simp
 rw[aa e];by_cases z:m<n
 ·rw[jK z];simp only[mZ,Option.some.injEq];by_cases u:m<i
  ·rw[ae u,ae (by omega)]
  rw[aa u,aa (by omega)]
 rw[iR (by simp;omega)];rfl
theorem OX(n:Nat)(hn:n<=1000000000):ai C 102 [.pv (i64 n)] (.hown [.row 3 (aK (iota n))]) []:=by
 refine ZF ⟨[],[0],[],[],[],[]⟩ hC Tryz.func102 rfl (by kernel_rfl) fun _=>⟨_,aA.refl _ _,?_⟩;refine⟨⟨by omega,by omega,by dsimp only;omega,by omega⟩,?_⟩;refine Ak (fun _:Unit=>True) (fun _=>[(3,.bx 8 0)]) (fun _=>[(8,.box [.ow 6]),(6,.row 3 (aK (iota n)))]) (fun _ hO t h=>?_) ?_
 ·exact⟨_,aA.pack (by exact hC) _ 8 (cs:=[.row 3 (aK (iota n))]) (by exact rfl) (by exact rfl) (by exact⟨Z,Y⟩),And.intro rfl (And.intro rfl trivial)⟩
 refine aP (fun i:Nat=>i<=n) (fun i=>[(3,.bx 8 0),(13,.p (i64 n)),(14,.p (i64 i))]) (fun i=>[(8,.box [.ow 6]),(6,.row 3 (aK (vP n i)))]) (fun i=>n-i) 0 _ (aA.refl _ _) (ak _) ⟨rfl,ar (fun m:Nat=>AV.p (i64 m)) bX,Z,Y⟩ ⟨rfl,by rw[ER];rfl,trivial⟩ fun i hi t h=>?_;have lv:=cA (vP n i);have lu:=CP n i;apply iW<;>intro h1
 ·exact⟨⟨by omega,by rw[lv];omega⟩,[i64 0],(da (Jd (by omega))),wO (by omega),(i+1),_,aA.refl _ _,by omega,by omega,⟨Z,Z,Z,Y⟩,⟨rfl,ar (AB.row _) ((gQ _ _ _).trans (by rw[FY,Jf (by omega)])),trivial⟩⟩
 have e:i=n:=by omega
 subst e;exact⟨(),trivial,⟨Z,Y⟩,⟨rfl,ar (AB.row _) (ar aK (Je i)),trivial⟩⟩
theorem M7(k:IntKind)(a b:Int):Dj (.int k a) (.int k b)=decide (a=b):=rfl
theorem UE{q:IntKind}{k:Int}{u:Value}(h:Dj (.int q k) u=true):∃z,u=.int z k:=by
 cases u<;>simp_all [Dj]
theorem oH(v:PV)(q:IntKind)(k n:Int):∀es:List (Value×PV),gz (iS es (.int q k) v) (.int q n)=if n=k then some v else gz es (.int q n)
 | []=>by
  simp only[iS,gz,M7];by_cases h:n=k<;>simp[h]
 | (k',u)::r=>by
  simp only[iS];cases h:Dj (.int q k) k'
  ·simp only[gz,oH v q k n r];by_cases e:n=k
   ·subst e;simp[h]
   simp[e]
  obtain⟨z,e⟩:=UE h;subst e;simp only[gz,M7];by_cases e:n=k
  ·simp[e]
  rw[show Dj (Value.int q n) (Value.int z k)=decide (n=k) from rfl];simp[e]
theorem Lq(u:List Int)(D:UF u)(i r:Nat)(z:ig u i r):ai C 160 [.aU [.row 3 (aK u)],.pv (i64 i)] (.p (i64 r)) [.aU [.row 3 (aK (Reg.cV i u i).1)]]:=by
 have h:=zh u D i z.lt;rw[(Reg.ji i u i D z.lt (aG _)).root.uniq z]at h;exact h
def hl(l:List Nat):List HX:=[.row 3 (aK (l.map fun (m:Nat)=>(m:Int)))]
def pl(l:List Nat):List PV:=[.sl (aK (l.map fun (m:Nat)=>(m:Int)))]
def qB(u:List Int):Nat->List Int
 | 0=>u
 | i+1=>(Reg.cV i (qB u i) i).1
structure UG(u:List Int)(i:Nat)(es:List (Value×PV)):Prop where
 le:i<=u.length
 key:∀(k r:Nat),(Reg.dy (Reg.kV u) i)[k]?=some r->gz es (.int .i64 r)=some (i64 k)
theorem CQ{u:List Int}(z:UF u):∀i,i<=u.length->UF (qB u i)/\(qB u i).length=u.length/\∀m r,ig (qB u i) m r↔ig u m r
 | 0,_=>⟨z,rfl,fun _ _=>cI⟩
 | i+1,h=>by
  obtain⟨a,b,c⟩:=CQ z i (by omega);have t:=Reg.ji i (qB u i) i a (by omega) (aG _);exact⟨t.uf,t.len.trans b,fun m r=>(t.same m r).trans (c m r)⟩
theorem ES(z:List (List Nat)):AU (z.map hl):=fun r D x u=>by
 obtain⟨l,_,rfl⟩:=aZ.1 D;simp only[hl,L8,Gc,or_false]at u;subst u;trivial
theorem CR(f:AV->AV)(u:List (List Nat)):(u.map hl).map (fun r=>r.map (HX.dn f))=u.map hl:=by
 rw[Mu];rfl
theorem ac6(l:List Nat)(y:HX):(hl l).set 0 y=[y]:=rfl
theorem mT(f:AV->AV)(u:List (List Nat))(k d:Nat)(h:f (.ow d)=.ow d):((u.map hl).set k [.av (.ow d)]).map (fun r=>r.map (HX.dn f))=(u.map hl).set k [.av (.ow d)]:=by
 rw[w_,CR];simp only[eH,xB,HX.dn,h]
theorem XF(f:AV->AV)(u:List (List Nat))(x:List (List HX)):(u.map hl++x).map (fun r=>r.map (HX.dn f))=u.map hl++x.map (fun r=>r.map (HX.dn f)):=by
 rw[E8,CR]
theorem zj(u:List (List Nat))(k d:Nat)(hk:k<u.length):((u.map hl).set k [.av (.ow d)])[k]?=some [.av (.ow d)]:=dZ (by rw[E5];exact hk)
theorem xU{α:Type}(l:List α)(x y:α)(n:Nat)(h:n=l.length):(l++[x]).set n y=l++[y]:=by subst h;simp
theorem Z8(D:List (List Nat)):SU (D.map hl) (D.map pl):=SU.map fun l _=>⟨rfl,fun j u v z I=>by
 match j with
 | 0=>
  simp only[hl,pl,wi,Option.some.injEq]at z I;subst z;subst I;exact .row _ _
 | j+1=>simp[hl]at z⟩
theorem Lr(u:List Int)(L:UF u)(hn:u.length<=1000000000):ai C 104 [.aU [.row 3 (aK u)]] (.own 54 ((Reg.a7 (Reg.kV u) u.length).map pl)) [.aU [.row 3 (aK (qB u u.length))]]:=by
 refine ZF ⟨[10],[0],[(10,[3,1000003,7])],[10],[(10,[true,true,true,false,true,true,true,true,true,true,true,true,false,true,true])],[]⟩ hC Tryz.func104 rfl (by kernel_rfl) fun _=>⟨_,aA.open hC _ 100000 [90000] (by exact rfl) rfl rfl rfl,?_⟩;obtain⟨p,hp⟩:∃p,p=Reg.kV u:=⟨_,rfl⟩;have R:Reg.OW p u.length:=hp▸Reg.Bg L;rw[<-hp];refine Ak (fun _:Unit=>True) (fun _=>[(0,.bx 100000 0),(3,.ow 3)]) (fun _=>[(100000,.aU [.row 3 (aK (qB u u.length))]),(3,.aw 54 ((Reg.a7 p u.length).map hl))]) (fun _ hO t h=>?_) ?_
 ·exact⟨_,aA.QZ (by exact hC) _ 2 ((Reg.a7 p u.length).map pl) (e:=54) (by exact ar (AB.aw _) (CR (rn 3 2) _)) (Z8 _),And.intro rfl (And.intro rfl (And.intro rfl trivial))⟩
 refine aP (fun x:Nat×List (Value×PV)=>UG u x.1 x.2) (fun x=>[(0,.bx 100000 0),(3,.ow 3),(4,.ow 7),(12,.p (i64 u.length)),(13,.p (i64 x.1))]) (fun x=>[(100000,.aU [.row 3 (aK (qB u x.1))]),(3,.aw 54 ((Reg.a7 p x.1).map hl)),(7,.map (.int .i64) x.2)]) (fun x=>u.length-x.1) (0,[]) _ ((aA.pack (by exact hC) _ 100000 (cs:=[.row 3 (aK u)]) (by exact rfl) (by exact rfl) (by exact⟨Z,Y⟩)).trans ((aA.eK (by exact hC) _ 3 54 _ (by decide) (by exact rfl) (by exact rfl) (by decide)).trans (aA.toH (by exact hC) _ 3 (e:=54) (es:=[]) (by exact rfl)))) ⟨ak _,fun k r h=>by simp[Reg.dy]at h⟩ ⟨rfl,rfl,rfl,ar (fun m:Nat=>AV.p (i64 m)) (cA u),Z,Y⟩ ⟨Z,Z,Z,Y⟩ fun ⟨i,es⟩ hx t h=>?_;obtain⟨U,D⟩:=hx;simp only at U D;rw[<-hp]at D;obtain⟨vu,vl,vr⟩:=CQ L i U;apply iW<;>intro g<;>try simp only[zB]at g
 ·have z:ig (qB u i) i (p i):=(vr _ _).2 (by rw[hp];exact Reg.oG L (by omega));refine⟨_,_,(Lq _ vu i (p i) z),iW ?_ ?_⟩<;>intro g2<;>try simp only[zB]at g2
  ·have e:p i=i:=by omega
   have N:=Reg.Jb R (show i<u.length by omega) e;have kl:(Reg.dy p i).length<=i:=Reg.tb p i;have sl:(Reg.a7 p i).length=(Reg.dy p i).length:=Reg.qA p i;refine⟨⟨fun r z=>by simp at z;subst z;rfl,by simp only[E5,aQ,bX];omega,by simp only[E5,aQ,bX];omega⟩,?_⟩;refine abA ((aA.W0 (by exact hC) _ 3 (Reg.a7 p i).length 0 (e:=54) (e':=3) (es:=(Reg.a7 p i).map hl++[[.av .nl]]) (r:=[.av .nl]) (by exact ar (AB.aw _) (by simp only[CR,XF];rfl)) (by rw[du (by simp)];simp) (by exact rfl) (by exact rfl) (by decide)).trans (aA.tN (by exact hC) _ 3 (Reg.a7 p i).length 0 90001 (e:=54) (es:=(Reg.a7 p i++[[]]).map hl) (e':=3) (r:=hl []) (xs:=[]) (by decide) (by decide) (by exact ar (AB.aw _) (by rw[E8];refine (xU _ _ _ _ (E5 _).symm).trans ?_;rfl)) (ES _) (by rw[E8,du (by simp)];simp) (by exact rfl))) ?_;have I:∀v,gz (iS es (.int .i64 i) v) (.int .i64 (p i))=some v:=fun v=>by rw[oH,ae (by rw[e])]
   refine⟨(some _),(I _),(some _),(I _),?_⟩;have J:(List.map (fun r=>List.map (HX.dn (sc 18)) r) (List.map hl (Reg.a7 p i))).length=(Reg.a7 p i).length:=by simp
   refine⟨⟨by dsimp only;omega,by simp⟩,[.av (.ow 90001)],(by rw[ac6,mT,mT];rw[J];exact zj (Reg.a7 p i++[[]]) (Reg.a7 p i).length 90001 (by simp);rfl;rfl),⟨fun r z=>by simp at z;subst z;rfl,by simp,by simp⟩,⟨by dsimp only;omega,by simp⟩,[.av (.ow 90001)],(by rw[ac6,mT,mT];rw[J];exact zj (Reg.a7 p i++[[]]) (Reg.a7 p i).length 90001 (by simp);rfl;rfl),wO (by omega),(i+1,iS es (.int .i64 i) (i64 (Reg.a7 p i).length)),_,aA.H7 (by exact hC) _ 3 (Reg.a7 p i).length 0 41 (e:=54) (es:=((Reg.a7 p i++[[]]).map hl).set (Reg.a7 p i).length [.av (.ow 41)]) (e':=3) (xs:=aK [(i:Int)]) (by decide) (by exact congrArg (AB.aw _) (by rw[ac6,mT,mT,J];exact List.set_set _;rfl;rfl)) (by exact rfl) (zj _ _ _ (by simp)) (by exact rfl),⟨by omega,fun k r hk=>?_⟩,⟨by omega,⟨Z,Z,Z,Z,Z,Y⟩,⟨rfl,?_,congrArg (AB.map _) ?_,trivial⟩⟩⟩
   ·rw[<-hp,Reg.kp,ae e]at hk;rw[oH];by_cases O:k<(Reg.dy p i).length
    ·rw[dN O]at hk;have:=(Reg.mem_keys.1 (aj hk)).1;rw[aa (by omega)];exact D k r hk
    rw[du (by omega)]at hk;have L4:k=(Reg.dy p i).length:=by
     have:=(az.1 hk).1;simp at this;omega
    subst L4;simp only[jL,wi,Option.some.injEq]at hk;subst hk;rw[ae rfl,sl]
   ·refine ar (AB.aw _) ?_;show ((List.map hl (Reg.a7 p i++[[]])).set _ _).set _ _=List.map hl (Reg.a7 p (i+1));rw[GA,N,E8,E8];exact xU _ _ _ _ (E5 _).symm
   dsimp only;rw[J];rfl
  have e:p i≠i:=by omega
  obtain⟨k,hk⟩:=Reg.Sg R (show i<u.length by omega) e;obtain⟨N,jy⟩:=Reg.Jc e hk;have V:=D k (p i) hk;have XG:((Reg.a7 p i).map hl)[k]?=some (hl (Reg.kj p i (p i))):=by rw[aD,jy];rfl
  refine abA (aA.tN (by exact hC) _ 3 k 0 90001 (e:=54) (by decide) (by decide) (by exact ar (AB.aw _) (by simp only[CR])) (ES _) XG (by exact rfl)) ?_;refine⟨(some (i64 k)),V,(some (i64 k)),V,?_⟩;have kl:=(az.1 hk).1;have sl:(Reg.a7 p i).length=(Reg.dy p i).length:=Reg.qA p i;refine⟨⟨by omega,by simp only[E5,aQ];omega⟩,[.av (.ow 90001)],(by rw[ac6,mT,mT];exact zj (Reg.a7 p i) k 90001 (by omega);rfl;rfl),?_⟩;have ml:=Reg.xT p i (p i);refine⟨⟨fun r z=>by simp at z;subst z;rfl,by simp only[cA,E5,aQ,bX];omega,by simp only[cA,E5,aQ,bX];omega⟩,⟨by omega,by simp only[E5,aQ];omega⟩,[.av (.ow 90001)],(by rw[ac6,mT,mT];exact zj (Reg.a7 p i) k 90001 (by omega);rfl;rfl),wO (by omega),(i+1,es),_,aA.H7 (by exact hC) _ 3 k 0 41 (e:=54) (es:=((Reg.a7 p i).map hl).set k [.av (.ow 41)]) (e':=3) (xs:=aK ((Reg.kj p i (p i)++[i]).map fun (m:Nat)=>(m:Int))) (by decide) (by exact ar (AB.aw _) (by rw[ac6,mT,mT];exact GA _;rfl;rfl)) (by exact ar (AB.row _) (by simp[aK];rfl)) (zj _ _ _ (by omega)) (by exact rfl),⟨by omega,fun k' r W=>?_⟩,⟨by omega,⟨Z,Z,Z,Z,Z,Y⟩,⟨rfl,?_,Z,Y⟩⟩⟩
  ·rw[<-hp,Reg.kp,aa e]at W;exact D k' r W
  refine ar (AB.aw _) ?_;show ((List.map hl (Reg.a7 p i)).set _ _).set _ _=List.map hl (Reg.a7 p (i+1));rw[GA,N,w_];rfl
 have e:i=u.length:=by omega
 subst e;exact⟨(),trivial,⟨Z,Z,Y⟩,⟨Z,Z,Y⟩⟩
end M
namespace Reg
def P4(K:Int)(r:aB):Prop:=(-K<=r.x0/\r.x0<=K)/\(-K<=r.y0/\r.y0<=K)/\(-K<=r.x1/\r.x1<=K)/\(-K<=r.y1/\r.y1<=K)
theorem VT{K:Int}{r:aB}(h:Full r)(k:RK K r):P4 K r:=by
 obtain⟨h1,h2⟩:=h;obtain⟨k1,k2,k3,k4⟩:=k;exact⟨⟨by omega,by omega⟩,⟨by omega,by omega⟩,⟨by omega,by omega⟩,⟨by omega,by omega⟩⟩
end Reg
namespace M
open Go.AM Go.RowKit Go.Lib
open Reg (aB P4 VQ uD)
def pt(p:Int×Int):List PV:=[i64 p.1,i64 p.2]
theorem OY(a b:aB)(u:P4 1000000000 a)(hb:P4 1000000000 b):ai C 47 [.pv (.ag (rc a)),.pv (.ag (rc b))] (.p (i64 (VQ a b))) []:=by
 obtain⟨a1,a2,a3,a4⟩:=u;obtain⟨b1,b2,b3,b4⟩:=hb;refine fW hC Tryz.func47 rfl (by kernel_rfl) fun _=>?_;refine⟨_,_,(vf a.x0 a.x1 b.x0 b.x1 (by omega)),_,_,(vf a.y0 a.y1 b.y0 b.y1 (by omega)),?_,trivial⟩;rfl
theorem drop_at{α:Type}{l:List α}{i:Nat}{x:α}(h:l[i]?=some x):l.drop i=x::l.drop (i+1):=by
 obtain⟨hi,e⟩:=az.1 h;rw[l_ hi,e]
open Reg (cw aR cm dF gy Lg iL fg told Canon Full RK at')
end M
namespace Reg
end Reg
namespace M
open Go.AM Go.RowKit Go.Lib
open Reg (aB P4)
def rr(r:List aB):List PV:=[aE r]
end M
namespace Reg
def kW:aB:=⟨0,0,0,0⟩
def CT(a b:aB):Bool:=decide (a.x0<b.x1)&&decide (b.x0<a.x1)
def vQ(all:List aB)(f e:Nat):Nat->List Int->Nat->Nat->List Int
 | 0,u,_,_=>u
 | n+1,u,i,j=>if i<f/\j<e then
   vQ all f e n (if CT (all.getD i kW) (all.getD j kW)=true then kU u i j else u)
    (if (all.getD i kW).x1<(all.getD j kW).x1 then i+1 else i)
    (if (all.getD i kW).x1<(all.getD j kW).x1 then j else j+1)
  else u
def meets(p:Option aR)(b:aR):Bool:=match p with
 | some q=>decide (q.y1=b.y0)
 | none=>false
def vg(all:List aB):Option aR->List aR->List Int->Nat->Nat->List Int
 | _,[],u,_,_=>u
 | p,b::s,u,f,g=>vg all (some b) s (if meets p b=true then vQ all f (f+b.xs.length) (f-g+b.xs.length) u g f else u) (f+b.xs.length) f
def ET(s:List aR):List Int:=vg (told s) none s (iota (told s).length) 0 0
theorem GR(all:List aB)(f e:Nat):∀(n:Nat) (u:List Int) (i j:Nat),UF u->f<=u.length->e<=u.length->UF (vQ all f e n u i j)/\(vQ all f e n u i j).length=u.length
 | 0,u,i,j,h,_,_=>⟨h,rfl⟩
 | n+1,u,i,j,h,hf,he=>by
  rw[vQ];by_cases c:i<f/\j<e
  ·rw[ae c];by_cases o:CT (all.getD i kW) (all.getD j kW)=true
   ·rw[ae o];obtain⟨a,b⟩:=xR h (i:=i) (k:=j) (by omega) (by omega);obtain⟨z,D⟩:=GR all f e n _ (if (all.getD i kW).x1<(all.getD j kW).x1 then i+1 else i) (if (all.getD i kW).x1<(all.getD j kW).x1 then j else j+1) a (by omega) (by omega);exact⟨z,D.trans b⟩
   rw[aa o];exact GR all f e n u _ _ h hf he
  rw[aa c];exact⟨h,rfl⟩
theorem CU(all:List aB):∀(s:List aR) (p:Option aR) (u:List Int) (f g:Nat),UF u->f+(told s).length<=u.length->UF (vg all p s u f g)/\(vg all p s u f g).length=u.length
 | [],p,u,f,g,h,_=>⟨h,rfl⟩
 | b::s,p,u,f,g,h,hl=>by
  have e:(told (b::s)).length=b.xs.length+(told s).length:=by simp[told]
  rw[e]at hl;rw[vg];by_cases c:meets p b=true
  ·rw[ae c];obtain⟨D,z⟩:=GR all f (f+b.xs.length) (f-g+b.xs.length) u g f h (by omega) (by omega);obtain⟨I,J⟩:=CU all s (some b) _ (f+b.xs.length) f D (by rw[z];omega);exact⟨I,J.trans z⟩
  rw[aa c];exact CU all s (some b) u (f+b.xs.length) f h (by omega)
theorem Sm(s:List aR):UF (ET s)/\(ET s).length=(told s).length:=by
 have:=CU (told s) s none (iota (told s).length) 0 0 (Bf _) (by rw[qz];omega);rw[qz]at this;exact this
def Jg(s:List aR):List (List aB):=(a7 (kV (ET s)) (told s).length).map fun l=>l.map fun m=>(told s).getD m kW
def iO(s:List aR):List (List aR):=(Jg s).map cH
end Reg
namespace M
open Go.AM Go.RowKit Go.Lib
open Reg (UF ig Se cV ji iota aB)
theorem zk(u:List Int)(O:UF u)(i:Nat)(hi:i<u.length):ai C 158 [.pv (i64 i),.aU [.row 3 (aK u)]] (.p (i64 (cV i u i).2)) [.aU [.row 3 (aK (cV i u i).1)]]:=by
 refine ZG ⟨[],[],[],[],[],[]⟩ hC Tryz.func158 rfl (by kernel_rfl) fun _=>⟨_,aA.open hC _ 100001 [90000] (by exact rfl) rfl rfl rfl,?_⟩;obtain⟨R,J⟩:∃R,R=cV i u i:=⟨_,rfl⟩;rw[<-J];refine aP (fun x:Nat×List Int×Nat=>cV x.1 x.2.1 x.2.2=R/\UF x.2.1/\x.2.2<x.2.1.length/\x.2.2<=x.1) (fun x=>[(1,.bx 100001 0),(0,.p (i64 x.2.2))]) (fun x=>[(100001,.box [.ow 90000]),(90000,.row 3 (aK x.2.1))]) (fun x=>x.2.2) (i,u,i) _ (aA.refl _ _) ⟨J.symm,O,hi,aG _⟩ ⟨Z,Z,Y⟩ ⟨Z,Z,Y⟩ fun ⟨n,v,k⟩ U t h=>?_;obtain⟨z,I,L,N⟩:=U;simp only at z I L N;obtain⟨j,l,D,hl,q1,q2,V,W⟩:=EP I L N;have lv:=cA v;refine⟨⟨by omega,by (try dsimp only);rw[lv];omega⟩,[i64 j],(da D),iW ?_ ?_⟩<;>intro g<;>try simp only[zB]at g
 ·have cO:j≠k:=by omega
  obtain⟨m,rfl,q5⟩:=W cO;refine⟨⟨by omega,by (try dsimp only);rw[lv];omega⟩,[i64 j],(da D),⟨by omega,by (try dsimp only);rw[lv];omega⟩,[i64 l],(da hl),⟨by omega,by (try dsimp only);rw[lv];omega⟩,[i64 j],(da D),⟨by omega,by (try dsimp only);rw[List.length_set,lv];omega⟩,[i64 l],(by rw[List.getElem?_set_self (by (try dsimp only);rw[lv];omega)];rfl),?_⟩;exact⟨(m,v.set k (l:Int),l),_,aA.refl _ _,⟨by rw[<-q5];exact z,(Reg.Sc I D hl).1,by simp only[List.length_set];omega,by dsimp only;omega⟩,by simp only;omega,⟨Z,Z,Y⟩,⟨rfl,congrArg (AB.row _) (gQ v k l),trivial⟩⟩
 have e:j=k:=by omega
 have z:=(V e).symm.trans z;subst z;exact And.intro rfl (And.intro ⟨Z,Z,Y⟩ trivial)
def zl(e:TypeId)(f:Nat->List PV)(l:List Nat):List HX:=[.row e (l.map f)]
def XH(f:Nat->List PV)(l:List Nat):List PV:=[.sl (l.map f)]
theorem CV(e:TypeId)(f:Nat->List PV)(z:List (List Nat)):AU (z.map (zl e f)):=fun r D x u=>by
 obtain⟨l,_,rfl⟩:=aZ.1 D;simp only[zl,L8,Gc,or_false]at u;subst u;trivial
theorem Bh(e:TypeId)(g:Nat->List PV)(f:AV->AV)(u:List (List Nat)):(u.map (zl e g)).map (fun r=>r.map (HX.dn f))=u.map (zl e g):=by
 rw[Mu];rfl
theorem uG(e:TypeId)(f:Nat->List PV)(l:List Nat)(y:HX):(zl e f l).set 0 y=[y]:=rfl
theorem jU(e:TypeId)(g:Nat->List PV)(f:AV->AV)(u:List (List Nat))(k d:Nat)(h:f (.ow d)=.ow d):((u.map (zl e g)).set k [.av (.ow d)]).map (fun r=>r.map (HX.dn f))=(u.map (zl e g)).set k [.av (.ow d)]:=by
 rw[w_,Bh];simp only[eH,xB,HX.dn,h]
theorem UH(e:TypeId)(g:Nat->List PV)(f:AV->AV)(u:List (List Nat))(x:List (List HX)):(u.map (zl e g)++x).map (fun r=>r.map (HX.dn f))=u.map (zl e g)++x.map (fun r=>r.map (HX.dn f)):=by
 rw[E8,Bh]
theorem uH(e:TypeId)(g:Nat->List PV)(u:List (List Nat))(k d:Nat)(hk:k<u.length):((u.map (zl e g)).set k [.av (.ow d)])[k]?=some [.av (.ow d)]:=dZ (by rw[E5];exact hk)
theorem XI(e:TypeId)(f:Nat->List PV)(D:List (List Nat)):SU (D.map (zl e f)) (D.map (XH f)):=SU.map fun l _=>⟨rfl,fun j u v z I=>by
 match j with
 | 0=>
  simp only[zl,XH,wi,Option.some.injEq]at z I;subst z;subst I;exact .row _ _
 | j+1=>simp[zl]at z⟩
end M
end Go.Proofs.YtliffnpbaeijgaaGreatDoor
