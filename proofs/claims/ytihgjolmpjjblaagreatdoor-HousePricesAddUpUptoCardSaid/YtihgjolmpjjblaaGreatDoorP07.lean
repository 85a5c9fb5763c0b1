/- Part 7 of the proof of HousePricesAddUp. -/
import Derived.Test.YtihgjolmpjjblaaGreatDoorP06
import Derived.Lib.ItoaLen
import Derived.Lib.AppendIntMem
import Derived.Lib.SmallJoins
set_option linter.unusedVariables false
set_option linter.unusedSimpArgs false
set_option maxRecDepth 100000
set_option maxHeartbeats 8000000
namespace Go
abbrev pD:=@Go.Proofs.Tryz.func110
abbrev ur:=@Int.mul_le_mul
abbrev pE:=@Int.mul_nonneg
abbrev ga:=@List.range_succ
end Go
namespace Go.Proofs.YtihgjolmpjjblaaGreatDoor
namespace M
open Go.AM Go.RowKit Go.Lib
open Reg (aB cw aR)
def OA(k:Int):Bool:=decide (k=4)||(decide (k=5)||(decide (k=6)||decide (k=8)))
def mN(k:Int):List PV:=[bool (decide (k=3)),bool (OA k),bool (decide (k=7)),bool (decide (k=8))]
def ff(s:gp)(n:Nat):Bool:=(!decide (s.kind=3)&&!decide (s.name=bC))||(!OA s.kind&&!(decide (s.x=0)&&decide (s.y=0)))||(!decide (s.kind=7)&&decide (0<s.pts.length))||(!decide (s.kind=8)&&!(decide (s.nx=0)&&decide (s.ny=0)&&decide (n=0)))
def jm(p:cy)(s:gp)(n:Nat)(d:Int):Int:=
 if gT s.kind 1 8=true then
  if ff s n=true then 3 else
  if s.kind=3/\jE dD.name p.tools s.name<0 then 5 else
  if kS (s.x,s.y) p.unit=true then
   if (s.pts.any fun q=>!kS q p.unit)=true then 1 else
   if 2000<s.pts.length then 2 else
   if s.kind=7/\Ch s.pts=false then 3 else
   if s.kind=8 then (if gT s.nx 1 100=true then (if gT s.ny 1 100=true then (if n=0 then 9 else if 5<=d then 2 else 0) else 1) else 1) else 0
  else 1
 else 4
structure xv(p:cy):Prop where
 unit:1<=p.unit/\p.unit<=1000
 tools:p.tools.length<=1048576
def sX(s:gp):Prop:=bK s.name/\s.pts.length<=1048576
theorem Uj{s:gp}{n:Nat}(h:ff s n=false)(hk:¬s.kind=8):n=0:=by
 simp only[ff,o_]at h;have z:=h.2;rw[aY hk]at z;simp at z;exact z.2
theorem Rs{p:cy}{s:gp}{n:Nat}{d:Int}(h:jm p s n d=0):n=0\/d<5:=by
 by_cases hk:s.kind=8
 ·by_cases z:d<5
  ·exact .inr z
  unfold jm at h
  repeat' split at h
  all_goals first
   | (cases h;done)
   | (exact .inl (by assumption))
   | (exfalso;omega)
 refine .inl ?_;unfold jm at h;split at h
 ·split at h
  ·cases h
  rename_i hb;exact Uj (by simpa using hb) hk
 cases h
theorem jF(k:Int):ai C 161 [.pv (i64 k)] (.p (.ag (mN k))) []:=by
 refine fW hC Tryz.func161 rfl (by kernel_rfl) fun _=>?_
 repeat' apply iW<;>intro h
 all_goals refine⟨?_,trivial⟩
 all_goals (simp[mN,OA,bool, *]<;>first | rfl | omega)
theorem Rt(t:dD)(x:ByteArray):ai C 198 [.pv (.ag (zU t)),.pv (.ip [str x])] (.p (bool (decide (t.name=x)))) []:=by
 refine fW hC Tryz.func198 rfl (by kernel_rfl) fun _=>?_;refine⟨?_,trivial⟩;rfl
theorem Xg(q:Int×Int)(p:cy)(z:1<=p.unit/\p.unit<=1000):ai C 165 [.pv (.ag (sp q)),.pv (.ip (dE p))] (.p (bool (!kS q p.unit))) []:=by
 refine fW hC Tryz.func165 rfl (by kernel_rfl) fun _=>?_;refine⟨_,_,(je q p.unit z),?_,trivial⟩;rfl
theorem K6(l:List dD)(hN:l.length<=140737488355328)(x:ByteArray):ai C 197 [.pv (.sl (l.map zU)),.pv (.fn 198 [.ip [str x]])] (.p (i64 (eM (fun z:dD=>decide (z.name=x)) l 0))) []:=by
 refine fW hC Tryz.func197 rfl (by kernel_rfl) fun _=>?_;have J:=an l zU;refine aP (fun i:Nat=>i<=l.length/\∀z∈l.take i,(fun z:dD=>decide (z.name=x)) z=false) (fun i=>[(0,.p (.sl (l.map zU))),(1,.p (.fn 198 [.ip [str x]])),(7,.p (i64 (l.map zU).length)),(8,.p (i64 i))]) (fun _=>[]) (fun i=>l.length-i) 0 _ (aA.refl _ _) ⟨ak _,by simp⟩ ⟨Z,Z,Z,Z,Y⟩ trivial fun i hi t h=>?_;apply iW<;>intro N
 ·rw[J]at N;obtain⟨r,I⟩:=ao (l:=l) (i:=i) (by omega);refine⟨(zU r),(idx rfl I),_,_,(Rt r x),iW ?_ ?_⟩<;>intro D
  ·refine⟨?_,trivial⟩;rw[eU (p:=fun z:dD=>decide (z.name=x)) I (by simpa using D) hi.2,bp]
  exact⟨wO (by omega),(i+1),_,aA.refl _ _,⟨by omega,iu (p:=fun z:dD=>decide (z.name=x)) I (by simpa using D) hi.2⟩,by omega,⟨Z,Z,Z,Z,Y⟩,trivial⟩
 rw[J]at N;refine⟨?_,trivial⟩;have D:=hi.2;rw[cK (by omega)]at D;rw[cT (p:=fun z:dD=>decide (z.name=x)) D];rfl
theorem Ru(l:List (Int×Int))(hN:l.length<=140737488355328)(p:cy)(O:1<=p.unit/\p.unit<=1000):ai C 199 [.pv (.sl (l.map sp)),.pv (.fn 165 [.ip (dE p)])] (.p (i64 (eM (fun q:Int×Int=>!kS q p.unit) l 0))) []:=by
 refine fW hC Tryz.func199 rfl (by kernel_rfl) fun _=>?_;have J:=an l sp;refine aP (fun i:Nat=>i<=l.length/\∀z∈l.take i,(fun q:Int×Int=>!kS q p.unit) z=false) (fun i=>[(0,.p (.sl (l.map sp))),(1,.p (.fn 165 [.ip (dE p)])),(7,.p (i64 (l.map sp).length)),(8,.p (i64 i))]) (fun _=>[]) (fun i=>l.length-i) 0 _ (aA.refl _ _) ⟨ak _,by simp⟩ ⟨Z,Z,Z,Z,Y⟩ trivial fun i hi t h=>?_;apply iW<;>intro N
 ·rw[J]at N;obtain⟨r,I⟩:=ao (l:=l) (i:=i) (by omega);refine⟨(sp r),(idx rfl I),_,_,(Xg r p O),iW ?_ ?_⟩<;>intro D
  ·refine⟨?_,trivial⟩;rw[eU (p:=fun q:Int×Int=>!kS q p.unit) I (by simpa using D) hi.2,bp]
  exact⟨wO (by omega),(i+1),_,aA.refl _ _,⟨by omega,iu (p:=fun q:Int×Int=>!kS q p.unit) I (by simpa using D) hi.2⟩,by omega,⟨Z,Z,Z,Z,Y⟩,trivial⟩
 rw[J]at N;refine⟨?_,trivial⟩;have D:=hi.2;rw[cK (by omega)]at D;rw[cT (p:=fun q:Int×Int=>!kS q p.unit) D];rfl
theorem mw(l:List (Int×Int))(z:l.length<=140737488355328)(p:cy)(D:1<=p.unit/\p.unit<=1000):ai C 164 [.pv (.sl (l.map sp)),.pv (.fn 165 [.ip (dE p)])] (.p (bool (l.any fun q=>!kS q p.unit))) []:=by
 refine fW hC Tryz.func164 rfl (by kernel_rfl) fun _=>?_;refine⟨_,_,(Ru l z p D),?_,trivial⟩;rw[<-eZ _ l 0];rfl
theorem zW(p:cy)(x:ByteArray)(z:p.tools.length<=140737488355328):ai C 162 [.pv (.ag (dE p)),.pv (str x)] (.p (i64 (jE dD.name p.tools x))) []:=by
 refine fW hC Tryz.func162 rfl (by kernel_rfl) fun _=>?_;refine⟨_,_,(K6 p.tools z x),?_,trivial⟩;rfl
theorem DQ(p:cy)(s:gp)(sub:List (List PV))(d:Int)(hp:xv p)(so:sX s)(hk:s.kind=1\/s.kind=2)(hn:sub.length<=1048576):ai C 110 [.pv (.ag (dE p)),.pv (.ag (Dp s sub)),.pv (i64 d)] (.p (i64 (jm p s sub.length d))) []:=by
 refine fW hC pD rfl (by kernel_rfl) fun _=>?_;have lm:=an s.pts sp;have hso:=so.2;have O:gT s.kind 1 8=true:=cd.2 (by omega);have R:decide (s.kind=3)=false:=by simp;try omega
 have U:OA s.kind=false:=by simp[OA];try omega
 have V:decide (s.kind=7)=false:=by simp;try omega
 have W:decide (s.kind=8)=false:=by simp;try omega
 have Y:=jF s.kind;rw[show mN s.kind=[bool false,bool false,bool false,bool false] by rw[mN,R,U,V,W]]at Y;have z:ff s sub.length=((!false&&!decide (s.name=bC))||(!false&&!(decide (s.x=0)&&decide (s.y=0)))||(!false&&decide (0<s.pts.length))||(!false&&!(decide (s.nx=0)&&decide (s.ny=0)&&decide (sub.length=0)))):=by rw[ff,R,U,V,W]
 rw[jm,ae O];have Z:=dU s.kind 1 8;rw[O]at Z;refine⟨_,_,Z,_,_,Y,iW ?_ ?_⟩<;>intro I
 ·have I:¬s.name=bC:=I
  repeat' apply iW<;>intro w
  all_goals skip
  all_goals first
   | (
     refine⟨?_,trivial⟩;rw[z,ae (by simp[I])];rfl)
   | (exfalso;first | contradiction | omega | (simp_all;done))
 have I:s.name=bC:=by simpa [bC] using I
 apply iW<;>intro D<;>try simp only[zB]at D
 ·skip
  repeat' apply iW<;>intro w<;>try simp only[zB]at w
  all_goals skip
  all_goals first
   | (
     refine⟨?_,trivial⟩;rw[z,ae (by simp at D;by_cases hx:s.x=0<;>by_cases hy:s.y=0<;>simp_all)];rfl)
   | (exfalso;first | contradiction | omega | (simp_all;done))
 have D:s.x=0/\s.y=0:=by simpa using D
 obtain⟨D,ZV⟩:=D;apply iW<;>intro f3
 ·skip
  repeat' apply iW<;>intro w
  all_goals skip
  all_goals first
   | (
     refine⟨?_,trivial⟩;rw[z,ae (by rw[jS (by omega:0<s.pts.length)];simp)];rfl)
   | (exfalso;first | contradiction | omega | (simp_all;done))
 have f3:s.pts.length=0:=by omega
 apply iW<;>intro J
 ·have J:¬s.nx=0:=J
  repeat' apply iW<;>intro w
  all_goals skip
  all_goals first
   | (
     refine⟨?_,trivial⟩;rw[z,ae (by simp[J])];rfl)
   | (exfalso;first | contradiction | omega | (simp_all;done))
 have J:s.nx=0:=by simpa using J
 apply iW<;>intro N
 ·have N:¬s.ny=0:=N
  repeat' apply iW<;>intro w
  all_goals skip
  all_goals first
   | (
     refine⟨?_,trivial⟩;rw[z,ae (by simp[N])];rfl)
   | (exfalso;first | contradiction | omega | (simp_all;done))
 have N:s.ny=0:=by simpa using N
 apply iW<;>intro f6
 ·skip
  repeat' apply iW<;>intro w
  all_goals skip
  all_goals first
   | (
     refine⟨?_,trivial⟩;rw[z,ae (by rw[aY (by omega:¬sub.length=0)];simp)];rfl)
   | (exfalso;first | contradiction | omega | (simp_all;done))
 have f6:sub.length=0:=by omega
 have Nz:ff s sub.length=false:=by rw[z];simp[I,D,ZV,f3,J,N,f6]
 rw[Nz,aa (by decide)];rw[aa (fun e=>by omega)];refine⟨_,_,(je (s.x,s.y) p.unit hp.unit),iW ?_ ?_⟩<;>intro g2
 ·refine⟨?_,trivial⟩;rw[aa (by simp[g2])];rfl
 rw[ae (by simpa using g2)];refine⟨_,_,(mw s.pts (by omega) p hp.unit),iW ?_ ?_⟩<;>intro g3
 ·refine⟨?_,trivial⟩;rw[ae g3];rfl
 rw[aa (by simp[g3])];apply iW<;>intro g4
 ·refine⟨?_,trivial⟩;rw[ae (by omega)];rfl
 rw[aa (by omega)];rw[aa (fun e=>by omega)];rw[aa (by omega)];refine⟨?_,trivial⟩;rfl
theorem Gu(p:cy)(s:gp)(sub:List (List PV))(d:Int)(hp:xv p)(so:sX s)(hk:s.kind=3)(hn:sub.length<=1048576):ai C 110 [.pv (.ag (dE p)),.pv (.ag (Dp s sub)),.pv (i64 d)] (.p (i64 (jm p s sub.length d))) []:=by
 refine fW hC pD rfl (by kernel_rfl) fun _=>?_;have lm:=an s.pts sp;have hso:=so.2;have N:gT s.kind 1 8=true:=cd.2 (by omega);have O:decide (s.kind=3)=true:=by simp;try omega
 have R:OA s.kind=false:=by simp[OA];try omega
 have U:decide (s.kind=7)=false:=by simp;try omega
 have V:decide (s.kind=8)=false:=by simp;try omega
 have W:=jF s.kind;rw[show mN s.kind=[bool true,bool false,bool false,bool false] by rw[mN,O,R,U,V]]at W;have D:ff s sub.length=((!true&&!decide (s.name=bC))||(!false&&!(decide (s.x=0)&&decide (s.y=0)))||(!false&&decide (0<s.pts.length))||(!false&&!(decide (s.nx=0)&&decide (s.ny=0)&&decide (sub.length=0)))):=by rw[ff,O,R,U,V]
 rw[jm,ae N];have Y:=dU s.kind 1 8;rw[N]at Y;refine⟨_,_,Y,_,_,W,iW ?_ ?_⟩<;>intro z<;>try simp only[zB]at z
 ·skip
  repeat' apply iW<;>intro w<;>try simp only[zB]at w
  all_goals skip
  all_goals first
   | (
     refine⟨?_,trivial⟩;rw[D,ae (by simp at z;by_cases hx:s.x=0<;>by_cases hy:s.y=0<;>simp_all)];rfl)
   | (exfalso;first | contradiction | omega | (simp_all;done))
 have z:s.x=0/\s.y=0:=by simpa using z
 obtain⟨z,ZV⟩:=z;apply iW<;>intro f3
 ·skip
  repeat' apply iW<;>intro w
  all_goals skip
  all_goals first
   | (
     refine⟨?_,trivial⟩;rw[D,ae (by rw[jS (by omega:0<s.pts.length)];simp)];rfl)
   | (exfalso;first | contradiction | omega | (simp_all;done))
 have f3:s.pts.length=0:=by omega
 apply iW<;>intro I
 ·have I:¬s.nx=0:=I
  repeat' apply iW<;>intro w
  all_goals skip
  all_goals first
   | (
     refine⟨?_,trivial⟩;rw[D,ae (by simp[I])];rfl)
   | (exfalso;first | contradiction | omega | (simp_all;done))
 have I:s.nx=0:=by simpa using I
 apply iW<;>intro J
 ·have J:¬s.ny=0:=J
  repeat' apply iW<;>intro w
  all_goals skip
  all_goals first
   | (
     refine⟨?_,trivial⟩;rw[D,ae (by simp[J])];rfl)
   | (exfalso;first | contradiction | omega | (simp_all;done))
 have J:s.ny=0:=by simpa using J
 apply iW<;>intro Z
 ·skip
  repeat' apply iW<;>intro w
  all_goals skip
  all_goals first
   | (
     refine⟨?_,trivial⟩;rw[D,ae (by rw[aY (by omega:¬sub.length=0)];simp)];rfl)
   | (exfalso;first | contradiction | omega | (simp_all;done))
 have Z:sub.length=0:=by omega
 have Nz:ff s sub.length=false:=by rw[D];simp[z,ZV,f3,I,J,Z]
 rw[Nz,aa (by decide)];refine⟨_,_,(zW p s.name (by have:=hp.tools;omega)),iW ?_ ?_⟩<;>intro g1
 ·refine⟨?_,trivial⟩;rw[ae ⟨hk,g1⟩];rfl
 rw[aa (fun e=>g1 e.2)];refine⟨_,_,(je (s.x,s.y) p.unit hp.unit),iW ?_ ?_⟩<;>intro g2
 ·refine⟨?_,trivial⟩;rw[aa (by simp[g2])];rfl
 rw[ae (by simpa using g2)];refine⟨_,_,(mw s.pts (by omega) p hp.unit),iW ?_ ?_⟩<;>intro g3
 ·refine⟨?_,trivial⟩;rw[ae g3];rfl
 rw[aa (by simp[g3])];apply iW<;>intro g4
 ·refine⟨?_,trivial⟩;rw[ae (by omega)];rfl
 rw[aa (by omega)];rw[aa (fun e=>by omega)];rw[aa (by omega)];refine⟨?_,trivial⟩;rfl
theorem Ci(p:cy)(s:gp)(sub:List (List PV))(d:Int)(hp:xv p)(so:sX s)(hk:s.kind=4\/s.kind=5\/s.kind=6)(hn:sub.length<=1048576):ai C 110 [.pv (.ag (dE p)),.pv (.ag (Dp s sub)),.pv (i64 d)] (.p (i64 (jm p s sub.length d))) []:=by
 refine fW hC pD rfl (by kernel_rfl) fun _=>?_;have lm:=an s.pts sp;have hso:=so.2;have N:gT s.kind 1 8=true:=cd.2 (by omega);have O:decide (s.kind=3)=false:=by simp;try omega
 have R:OA s.kind=true:=by simp[OA];try omega
 have U:decide (s.kind=7)=false:=by simp;try omega
 have V:decide (s.kind=8)=false:=by simp;try omega
 have W:=jF s.kind;rw[show mN s.kind=[bool false,bool true,bool false,bool false] by rw[mN,O,R,U,V]]at W;have z:ff s sub.length=((!false&&!decide (s.name=bC))||(!true&&!(decide (s.x=0)&&decide (s.y=0)))||(!false&&decide (0<s.pts.length))||(!false&&!(decide (s.nx=0)&&decide (s.ny=0)&&decide (sub.length=0)))):=by rw[ff,O,R,U,V]
 rw[jm,ae N];have Y:=dU s.kind 1 8;rw[N]at Y;refine⟨_,_,Y,_,_,W,iW ?_ ?_⟩<;>intro D
 ·have D:¬s.name=bC:=D
  repeat' apply iW<;>intro w
  all_goals skip
  all_goals first
   | (
     refine⟨?_,trivial⟩;rw[z,ae (by simp[D])];rfl)
   | (exfalso;first | contradiction | omega | (simp_all;done))
 have D:s.name=bC:=by simpa [bC] using D
 apply iW<;>intro f3
 ·skip
  repeat' apply iW<;>intro w
  all_goals skip
  all_goals first
   | (
     refine⟨?_,trivial⟩;rw[z,ae (by rw[jS (by omega:0<s.pts.length)];simp)];rfl)
   | (exfalso;first | contradiction | omega | (simp_all;done))
 have f3:s.pts.length=0:=by omega
 apply iW<;>intro I
 ·have I:¬s.nx=0:=I
  repeat' apply iW<;>intro w
  all_goals skip
  all_goals first
   | (
     refine⟨?_,trivial⟩;rw[z,ae (by simp[I])];rfl)
   | (exfalso;first | contradiction | omega | (simp_all;done))
 have I:s.nx=0:=by simpa using I
 apply iW<;>intro J
 ·have J:¬s.ny=0:=J
  repeat' apply iW<;>intro w
  all_goals skip
  all_goals first
   | (
     refine⟨?_,trivial⟩;rw[z,ae (by simp[J])];rfl)
   | (exfalso;first | contradiction | omega | (simp_all;done))
 have J:s.ny=0:=by simpa using J
 apply iW<;>intro Z
 ·skip
  repeat' apply iW<;>intro w
  all_goals skip
  all_goals first
   | (
     refine⟨?_,trivial⟩;rw[z,ae (by rw[aY (by omega:¬sub.length=0)];simp)];rfl)
   | (exfalso;first | contradiction | omega | (simp_all;done))
 have Z:sub.length=0:=by omega
 have Nz:ff s sub.length=false:=by rw[z];simp[D,f3,I,J,Z]
 rw[Nz,aa (by decide)];rw[aa (fun e=>by omega)];refine⟨_,_,(je (s.x,s.y) p.unit hp.unit),iW ?_ ?_⟩<;>intro g2
 ·refine⟨?_,trivial⟩;rw[aa (by simp[g2])];rfl
 rw[ae (by simpa using g2)];refine⟨_,_,(mw s.pts (by omega) p hp.unit),iW ?_ ?_⟩<;>intro g3
 ·refine⟨?_,trivial⟩;rw[ae g3];rfl
 rw[aa (by simp[g3])];apply iW<;>intro g4
 ·refine⟨?_,trivial⟩;rw[ae (by omega)];rfl
 rw[aa (by omega)];rw[aa (fun e=>by omega)];rw[aa (by omega)];refine⟨?_,trivial⟩;rfl
theorem Gv(p:cy)(s:gp)(sub:List (List PV))(d:Int)(hp:xv p)(so:sX s)(hk:s.kind=7)(hn:sub.length<=1048576):ai C 110 [.pv (.ag (dE p)),.pv (.ag (Dp s sub)),.pv (i64 d)] (.p (i64 (jm p s sub.length d))) []:=by
 refine fW hC pD rfl (by kernel_rfl) fun _=>?_;have lm:=an s.pts sp;have hso:=so.2;have O:gT s.kind 1 8=true:=cd.2 (by omega);have R:decide (s.kind=3)=false:=by simp;try omega
 have U:OA s.kind=false:=by simp[OA];try omega
 have V:decide (s.kind=7)=true:=by simp;try omega
 have W:decide (s.kind=8)=false:=by simp;try omega
 have Y:=jF s.kind;rw[show mN s.kind=[bool false,bool false,bool true,bool false] by rw[mN,R,U,V,W]]at Y;have D:ff s sub.length=((!false&&!decide (s.name=bC))||(!false&&!(decide (s.x=0)&&decide (s.y=0)))||(!true&&decide (0<s.pts.length))||(!false&&!(decide (s.nx=0)&&decide (s.ny=0)&&decide (sub.length=0)))):=by rw[ff,R,U,V,W]
 rw[jm,ae O];have Z:=dU s.kind 1 8;rw[O]at Z;refine⟨_,_,Z,_,_,Y,iW ?_ ?_⟩<;>intro I
 ·have I:¬s.name=bC:=I
  repeat' apply iW<;>intro w
  all_goals skip
  all_goals first
   | (
     refine⟨?_,trivial⟩;rw[D,ae (by simp[I])];rfl)
   | (exfalso;first | contradiction | omega | (simp_all;done))
 have I:s.name=bC:=by simpa [bC] using I
 apply iW<;>intro z<;>try simp only[zB]at z
 ·skip
  repeat' apply iW<;>intro w<;>try simp only[zB]at w
  all_goals skip
  all_goals first
   | (
     refine⟨?_,trivial⟩;rw[D,ae (by simp at z;by_cases hx:s.x=0<;>by_cases hy:s.y=0<;>simp_all)];rfl)
   | (exfalso;first | contradiction | omega | (simp_all;done))
 have z:s.x=0/\s.y=0:=by simpa using z
 obtain⟨z,ZV⟩:=z;apply iW<;>intro J
 ·have J:¬s.nx=0:=J
  repeat' apply iW<;>intro w
  all_goals skip
  all_goals first
   | (
     refine⟨?_,trivial⟩;rw[D,ae (by simp[J])];rfl)
   | (exfalso;first | contradiction | omega | (simp_all;done))
 have J:s.nx=0:=by simpa using J
 apply iW<;>intro N
 ·have N:¬s.ny=0:=N
  repeat' apply iW<;>intro w
  all_goals skip
  all_goals first
   | (
     refine⟨?_,trivial⟩;rw[D,ae (by simp[N])];rfl)
   | (exfalso;first | contradiction | omega | (simp_all;done))
 have N:s.ny=0:=by simpa using N
 apply iW<;>intro f6
 ·skip
  repeat' apply iW<;>intro w
  all_goals skip
  all_goals first
   | (
     refine⟨?_,trivial⟩;rw[D,ae (by rw[aY (by omega:¬sub.length=0)];simp)];rfl)
   | (exfalso;first | contradiction | omega | (simp_all;done))
 have f6:sub.length=0:=by omega
 have Nz:ff s sub.length=false:=by rw[D];simp[I,z,ZV,J,N,f6]
 rw[Nz,aa (by decide)];rw[aa (fun e=>by omega)];refine⟨_,_,(je (s.x,s.y) p.unit hp.unit),iW ?_ ?_⟩<;>intro g2
 ·refine⟨?_,trivial⟩;rw[aa (by simp[g2])];rfl
 rw[ae (by simpa using g2)];refine⟨_,_,(mw s.pts (by omega) p hp.unit),iW ?_ ?_⟩<;>intro g3
 ·refine⟨?_,trivial⟩;rw[ae g3];rfl
 rw[aa (by simp[g3])];apply iW<;>intro g4
 ·refine⟨?_,trivial⟩;rw[ae (by omega)];rfl
 rw[aa (by omega)];refine⟨_,_,(IM s.pts (by omega)),iW ?_ ?_⟩<;>intro g5
 ·refine⟨?_,trivial⟩;rw[ae ⟨hk,by simpa using g5⟩];rfl
 rw[aa (fun e=>by simp[e.2]at g5)];rw[aa (by omega)];refine⟨?_,trivial⟩;rfl
theorem Gw(p:cy)(s:gp)(sub:List (List PV))(d:Int)(hp:xv p)(so:sX s)(hk:s.kind=8)(hn:sub.length<=1048576):ai C 110 [.pv (.ag (dE p)),.pv (.ag (Dp s sub)),.pv (i64 d)] (.p (i64 (jm p s sub.length d))) []:=by
 refine fW hC pD rfl (by kernel_rfl) fun _=>?_;have lm:=an s.pts sp;have hso:=so.2;have J:gT s.kind 1 8=true:=cd.2 (by omega);have N:decide (s.kind=3)=false:=by simp;try omega
 have O:OA s.kind=true:=by simp[OA];try omega
 have R:decide (s.kind=7)=false:=by simp;try omega
 have U:decide (s.kind=8)=true:=by simp;try omega
 have V:=jF s.kind;rw[show mN s.kind=[bool false,bool true,bool false,bool true] by rw[mN,N,O,R,U]]at V;have I:ff s sub.length=((!false&&!decide (s.name=bC))||(!true&&!(decide (s.x=0)&&decide (s.y=0)))||(!false&&decide (0<s.pts.length))||(!true&&!(decide (s.nx=0)&&decide (s.ny=0)&&decide (sub.length=0)))):=by rw[ff,N,O,R,U]
 rw[jm,ae J];have W:=dU s.kind 1 8;rw[J]at W;refine⟨_,_,W,_,_,V,iW ?_ ?_⟩<;>intro z
 ·have z:¬s.name=bC:=z
  repeat' apply iW<;>intro w
  all_goals skip
  all_goals first
   | (
     refine⟨?_,trivial⟩;rw[I,ae (by simp[z])];rfl)
   | (exfalso;first | contradiction | omega | (simp_all;done))
 have z:s.name=bC:=by simpa [bC] using z
 apply iW<;>intro f3
 ·skip
  repeat' apply iW<;>intro w
  all_goals skip
  all_goals first
   | (
     refine⟨?_,trivial⟩;rw[I,ae (by rw[jS (by omega:0<s.pts.length)];simp)];rfl)
   | (exfalso;first | contradiction | omega | (simp_all;done))
 have f3:s.pts.length=0:=by omega
 have Nz:ff s sub.length=false:=by rw[I];simp[z,f3]
 rw[Nz,aa (by decide)];rw[aa (fun e=>by omega)];refine⟨_,_,(je (s.x,s.y) p.unit hp.unit),iW ?_ ?_⟩<;>intro Y
 ·refine⟨?_,trivial⟩;rw[aa (by simp[Y])];rfl
 rw[ae (by simpa using Y)];refine⟨_,_,(mw s.pts (by omega) p hp.unit),iW ?_ ?_⟩<;>intro Z
 ·refine⟨?_,trivial⟩;rw[ae Z];rfl
 rw[aa (by simp[Z])];apply iW<;>intro g4
 ·refine⟨?_,trivial⟩;rw[ae (by omega)];rfl
 rw[aa (by omega)];rw[aa (fun e=>by omega)];rw[ae hk];refine⟨_,_,(dU s.nx 1 100),iW ?_ ?_⟩<;>intro g6
 ·refine⟨?_,trivial⟩;rw[aa (by simp[g6])];rfl
 rw[ae (by simpa using g6)];refine⟨_,_,(dU s.ny 1 100),iW ?_ ?_⟩<;>intro g7
 ·refine⟨?_,trivial⟩;rw[aa (by simp[g7])];rfl
 rw[ae (by simpa using g7)];apply iW<;>intro D
 ·have D:((sub.length:Nat):Int)=0:=D;refine⟨?_,trivial⟩;rw[ae (by omega)];rfl
 have D:¬((sub.length:Nat):Int)=0:=D;rw[aa (by omega)];apply iW<;>intro g9
 ·refine⟨?_,trivial⟩;rw[ae (by omega)];rfl
 rw[aa (by omega)];refine⟨?_,trivial⟩;rfl
theorem Cj(p:cy)(s:gp)(sub:List (List PV))(d:Int)(hp:xv p)(z:sX s)(D:sub.length<=1048576):ai C 110 [.pv (.ag (dE p)),.pv (.ag (Dp s sub)),.pv (i64 d)] (.p (i64 (jm p s sub.length d))) []:=by
 by_cases N:1<=s.kind/\s.kind<=8
 ·by_cases O:s.kind=3
  ·exact Gu p s sub d hp z O D
  by_cases R:s.kind=7
  ·exact Gv p s sub d hp z R D
  by_cases U:s.kind=8
  ·exact Gw p s sub d hp z U D
  by_cases V:s.kind=1\/s.kind=2
  ·exact DQ p s sub d hp z V D
  exact Ci p s sub d hp z (by omega) D
 refine fW hC pD rfl (by kernel_rfl) fun _=>?_;refine⟨_,_,(dU s.kind 1 8),?_⟩;have I:gT s.kind 1 8=false:=Ud.2 N;apply iW<;>intro J
 ·refine⟨?_,trivial⟩;rw[jm,aa (by rw[I];decide)];rfl
 exfalso;rw[I]at J;simp at J
def Steps.every(Q:Steps->Prop):Steps->Prop
 | .nil=>True
 | .cons _ sub rest=>Q sub/\rest.every Q
def Steps.ok:Steps->Prop
 | .nil=>True
 | .cons s sub rest=>sX s/\sub.rows.length<=1048576/\sub.ok/\rest.ok
variable {α:Type}
theorem iV{l:List α}{i:Nat}{a:α}{r:List α}(h:l.drop i=a::r):l[i]?=some a/\l.drop (i+1)=r/\i<l.length:=by
 have D:l[i]?=some a:=by
  have:=af (fun z:List α=>z[0]?) h;simpa [gB] using this
 refine⟨D,?_,(az.1 D).1⟩;rw[<-Gd,h];rfl
def tm(n:Int):Int:=if gT n 1 100=true then n else 1
theorem Rv(n:Int):1<=tm n/\tm n<=100:=by
 unfold tm;split
 ·rename_i h;exact cd.1 h
 omega
def cap(n:Int):Int:=if 3000<n then 3001 else n
def cntF:Steps->Int
 | .nil=>0
 | .cons s sub rest=>cap (1+tm s.nx*tm s.ny*cntF sub+cntF rest)
theorem Rw{n:Int}(h:0<=n):0<=cap n/\cap n<=3001:=by unfold cap;split<;>omega
theorem sY(a b:Int):1<=tm a*tm b/\tm a*tm b<=10000:=by
 have z:=Rv a;have hb:=Rv b;have h1:1*1<=tm a*tm b:=ur z.1 hb.1 (by omega) (by omega);have h2:tm a*tm b<=100*100:=ur z.2 hb.2 (by omega) (by omega);omega
theorem MO(a b:Int){c:Int}(h:0<=c/\c<=3001):0<=tm a*tm b*c/\tm a*tm b*c<=30010000:=by
 have z:=sY a b;have h1:0<=tm a*tm b*c:=pE (by omega) h.1;have h2:tm a*tm b*c<=10000*3001:=ur z.2 h.2 h.1 (by omega);omega
theorem uu:∀u:Steps,0<=cntF u/\cntF u<=3001
 | .nil=>by simp[cntF]
 | .cons s sub rest=>by
  have z:=uu sub;have h2:=uu rest;have h3:=MO s.nx s.ny z;rw[cntF];exact Rw (by omega)
theorem Uk{n m:Int}(hn:0<=n)(hm:0<=m):cap (n+cap m)=cap (n+m):=by
 unfold cap
 repeat' split
 all_goals omega
theorem zX(n:Int):ai C 160 [.pv (i64 n)] (.p (i64 (tm n))) []:=by
 refine fW hC Tryz.func160 rfl (by kernel_rfl) fun _=>?_;refine⟨_,_,(dU n 1 100),iW ?_ ?_⟩<;>intro h
 ·refine⟨?_,trivial⟩;rw[tm,ae h]
 refine⟨?_,trivial⟩;rw[tm,aa (by simp[h])];rfl
theorem K7(s:gp)(sub:List (List PV)):ai C 109 [.pv (.ag (Dp s sub))] (.p (i64 (tm s.nx*tm s.ny))) []:=by
 refine FP ⟨[1],[],[],[2],[(2,[true,true,true,false,true,false,false,true,true,true])],[]⟩ hC Tryz.func109 rfl (by kernel_rfl) fun _=>?_;have hm:=sY s.nx s.ny;refine W1 1 (y:=.ip (Dp s sub)) (fz:=[(1,.nd (Dp s sub))]) (by exact hC) (by exact⟨rfl,rfl⟩) ?_;refine⟨_,_,(zX s.nx),_,_,(zX s.ny),⟨by first | omega | (dsimp only;omega),by first | omega | (dsimp only;omega)⟩,?_,trivial⟩;rfl
def Xh(u:Steps):Prop:=u.rows.length<=1048576->ai C 54 [.pv (.sl u.rows)] (.p (i64 (cntF u))) []
theorem xw{u:Steps}(h:u.rows.length=0):u=.nil:=by
 cases u with
 | nil=>rfl
 | cons s sub rest=>simp[Steps.rows]at h
theorem Ck(u:Steps)(hs:u.every Xh)(ho:u.ok)(hN:u.rows.length<=1048576):ai C 54 [.pv (.sl u.rows)] (.p (i64 (cntF u))) []:=by
 refine fW hC Tryz.func54 rfl (by kernel_rfl) fun _=>?_;refine aP (fun p:Nat×Steps×Int=>u.rows.drop p.1=p.2.1.rows/\p.2.1.every Xh/\p.2.1.ok/\0<=p.2.2/\p.2.2<=3000/\cap (p.2.2+cntF p.2.1)=cap (cntF u)/\p.1<=u.rows.length) (fun p=>[(3,.p (i64 p.2.2)),(6,.p (.sl u.rows)),(7,.p (i64 u.rows.length)),(8,.p (i64 p.1))]) (fun _=>[]) (fun p=>u.rows.length-p.1) (0,u,0) _ (aA.refl _ _) ⟨rfl,hs,ho,by dsimp only;omega,by dsimp only;omega,by dsimp only;rw[Int.zero_add],Nat.zero_le _⟩ ⟨Z,Z,Z,Z,Y⟩ trivial fun ⟨i,v,n⟩ hi tt h=>?_;obtain⟨J,O,R,U,q5,z,q7⟩:=hi;simp only at J O R U q5 z q7;have Zw:=uu u;have N:cap (cntF u)=cntF u:=by unfold cap;split<;>omega
 rw[N]at z;apply iW<;>intro h1<;>try simp only[zB]at h1
 ·cases v with
  | nil=>
   exfalso;have:=af List.length J;simp[Steps.rows]at this;omega
  | cons s sub rest=>
   obtain⟨d1,V,d3⟩:=iV J;obtain⟨r1,W⟩:=O;obtain⟨o1,o2,o3,o4⟩:=R;have nP:=uu sub;have DC:=uu rest;have ht:=sY s.nx s.ny;have ht3:=MO s.nx s.ny nP;have D:cap (n+(1+tm s.nx*tm s.ny*cntF sub)+cntF rest)=cntF u:=by
    rw[<-z,cntF,Uk U (by omega)];congr 1;omega
   refine⟨(Dp s sub.rows),⟨by omega,by rw[Int.toNat_natCast];exact d1⟩,⟨by first | omega | (dsimp only;omega),by first | omega | (dsimp only;omega)⟩,iW ?_ ?_⟩<;>intro h2
   ·refine⟨_,_,(K7 s sub.rows),_,_,(r1 o2),⟨by first | omega | (dsimp only;omega),by first | omega | (dsimp only;omega)⟩,⟨by first | omega | (dsimp only;omega),by first | omega | (dsimp only;omega)⟩,iW ?_ ?_⟩<;>intro I<;>try simp only[zB]at I
    all_goals try dsimp only at I
    ·refine⟨?_,trivial⟩;rw[<-D,cap,ae (by omega)]
     try rfl
    exact⟨⟨by first | omega | (dsimp only;omega),by first | omega | (dsimp only;omega)⟩,(i+1,rest,n+1+tm s.nx*tm s.ny*cntF sub),_,aA.refl _ _,⟨V,W,o4,by dsimp only;omega,by dsimp only;omega,by dsimp only;rw[N,<-D];congr 1<;>omega,by dsimp only;omega⟩,by dsimp only;omega,⟨Z,Z,Z,Z,Y⟩,trivial⟩
   have e0:sub=.nil:=xw (by omega);have c0:cntF sub=0:=by rw[e0];rfl
   rw[c0,Int.mul_zero]at D;apply iW<;>intro I<;>try simp only[zB]at I
   all_goals try dsimp only at I
   ·refine⟨?_,trivial⟩;rw[<-D,cap,ae (by omega)]
    try rfl
   exact⟨⟨by first | omega | (dsimp only;omega),by first | omega | (dsimp only;omega)⟩,(i+1,rest,n+1),_,aA.refl _ _,⟨V,W,o4,by dsimp only;omega,by dsimp only;omega,by dsimp only;rw[N,<-D];congr 1<;>omega,by dsimp only;omega⟩,by dsimp only;omega,⟨Z,Z,Z,Z,Y⟩,trivial⟩
 have hv:v=.nil:=xw (by rw[<-J,lU];omega);rw[hv,cntF,Int.add_zero,cap,aa (by omega)]at z;refine⟨?_,trivial⟩;rw[z]
 try rfl
theorem Steps.Cl{Q:Steps->Prop}(h:∀u:Steps,u.every Q->u.ok->Q u):∀u:Steps,u.ok->Q u/\u.every Q
 | .nil,z=>⟨h .nil trivial z,trivial⟩
 | .cons s sub rest,z=>by
  have a:=Cl h sub z.2.2.1;have b:=Cl h rest z.2.2.2;have e:(Steps.cons s sub rest).every Q:=⟨a.1,b.2⟩;exact⟨h _ e z,e⟩
theorem IN(u:Steps)(z:u.ok)(D:u.rows.length<=1048576):ai C 54 [.pv (.sl u.rows)] (.p (i64 (cntF u))) []:=(Steps.Cl (Q:=Xh) (fun u I J N=>Ck u I J N) u z).1 D
def gO(p:cy):Steps->Int->Int
 | .nil,_=>0
 | .cons s sub rest,d=>xr (jm p s sub.rows.length d) (xr (gO p sub (d+1)) (gO p rest d))
def pF(u:Int)(l:List dD)(i:Nat):Int:=match l[i]? with
 | some x=>xr (zV u x) (if cg (l.map dD.name) i=true then 8 else 0)
 | none=>0
def cN(p:cy):Int:=if gT p.unit 1 1000=true then (if 200<p.tools.length then 2 else xr (bw (pF p.unit p.tools) 0 p.tools.length) (if 3000<cntF p.steps then 2 else gO p p.steps 0)) else 1
structure pW(p:cy):Prop where
 tools:p.tools.length<=1048576/\∀t∈p.tools,Gt t
 steps:p.steps.rows.length<=1048576/\p.steps.ok
def nE(p:cy)(u:Steps):Prop:=∀d:Int,0<=d->d<=6->(d<=5\/u.rows.length=0)->u.rows.length<=1048576->ai C 55 [.pv (.ag (dE p)),.pv (.sl u.rows),.pv (i64 d)] (.p (i64 (gO p u d))) []
theorem uP(p:cy)(hp:xv p)(u:Steps)(V:u.every (nE p))(W:u.ok):nE p u:=by
 intro d hd0 hd6 hd5 hN;refine fW hC Tryz.func55 rfl (by kernel_rfl) fun _=>?_;refine aP (fun x:Nat×Steps=>u.rows.drop x.1=x.2.rows/\x.2.every (nE p)/\x.2.ok/\gO p x.2 d=gO p u d/\x.1<=u.rows.length) (fun x=>[(2,.p (i64 d)),(3,.bx 3 0),(11,.p (.sl u.rows)),(12,.p (i64 u.rows.length)),(13,.p (i64 x.1))]) (fun _=>[(3,.box ((dE p).map .p))]) (fun x=>u.rows.length-x.1) (0,u) _ (aA.refl _ _) ⟨rfl,V,W,rfl,ak _⟩ ⟨Z,Z,Z,Z,Z,Y⟩ ⟨Z,Y⟩ fun ⟨i,v⟩ hi tt h=>?_;obtain⟨J,N,O,z,q5⟩:=hi;simp only at J N O z q5;apply iW<;>intro R<;>try simp only[zB]at R
 all_goals try dsimp only at R
 ·cases v with
  | nil=>
   exfalso;have:=af List.length J;simp[Steps.rows]at this;omega
  | cons s sub rest=>
   obtain⟨d1,d2,d3⟩:=iV J;obtain⟨r1,r2⟩:=N;obtain⟨o1,U,o3,o4⟩:=O;have PN:∀k:Int,k=(i:Int)->0<=k/\u.rows[k.toNat]?=some (Dp s sub.rows):=fun k hk=>by rw[hk];exact⟨by omega,by rw[F0];exact d1⟩
   rw[gO]at z;refine⟨(Dp s sub.rows),(PN _ rfl),_,_,(Cj p s sub.rows d hp o1 U),iW ?_ ?_⟩<;>intro D
   ·have D:jm p s sub.rows.length d≠0:=by simpa using D
    refine⟨?_,trivial⟩;rw[<-z,fM rfl D]
   have D:jm p s sub.rows.length d=0:=by simpa using D
   rw[mr D]at z;have ZW:=Rs D;refine⟨⟨by first | omega | (dsimp only;omega),by first | omega | (dsimp only;omega)⟩,_,_,(r1 (d+1) (by omega) (by omega) (by omega) U),iW ?_ ?_⟩<;>intro I
   ·have I:gO p sub (d+1)≠0:=by simpa using I
    refine⟨?_,trivial⟩;rw[<-z,fM rfl I]
   have I:gO p sub (d+1)=0:=by simpa using I
   rw[mr I]at z;exact⟨⟨by first | omega | (dsimp only;omega),by first | omega | (dsimp only;omega)⟩,(i+1,rest),_,aA.refl _ _,⟨d2,r2,o4,z,by dsimp only;omega⟩,by dsimp only;omega,⟨Z,Z,Z,Z,Z,Y⟩,⟨Z,Y⟩⟩
 have hv:v=.nil:=xw (by rw[<-J,lU];omega);rw[hv,gO]at z;refine⟨?_,trivial⟩;rw[<-z];rfl
theorem yY(p:cy)(hp:xv p)(u:Steps)(z:u.ok)(D:u.rows.length<=1048576):ai C 55 [.pv (.ag (dE p)),.pv (.sl u.rows),.pv (i64 0)] (.p (i64 (gO p u 0))) []:=(Steps.Cl (Q:=nE p) (fun u I J=>uP p hp u I J) u z).1 0 (by omega) (by omega) (by omega) D
theorem mO(p:cy)(ho:pW p):ai C 26 [.pv (.ag (dE p))] (.p (i64 (cN p))) []:=by
 refine fW hC Tryz.func26 rfl (by kernel_rfl) fun _=>?_;have lm:=an p.tools zU;obtain⟨⟨S_,VK⟩,V,W⟩:=ho;have Yx:=uu p.steps;refine⟨_,_,(dU p.unit 1 1000),iW ?_ ?_⟩<;>intro N
 ·refine⟨?_,trivial⟩;rw[cN,aa (by simp[N])];rfl
 have N:gT p.unit 1 1000=true:=by simpa using N
 have hu:=cd.1 N;have hp:xv p:=⟨hu,S_⟩;rw[cN,ae N];apply iW<;>intro g1
 ·refine⟨?_,trivial⟩;rw[ae (by omega)];rfl
 rw[aa (by omega)];have O:∀{c:Int},bw (pF p.unit p.tools) 0 p.tools.length=c->c≠0->xr (bw (pF p.unit p.tools) 0 p.tools.length) (if 3000<cntF p.steps then 2 else gO p p.steps 0)=c:=fun e U=>fM e U;refine aP (fun i:Nat=>i<=p.tools.length/\∀k,k<i->pF p.unit p.tools k=0) (fun i=>[(1,.bx 1 0),(15,.p (.sl (p.tools.map zU))),(16,.p (i64 p.tools.length)),(17,.p (i64 i))]) (fun _=>[(1,.box ((dE p).map .p))]) (fun i=>p.tools.length-i) 0 _ (aA.refl _ _) ⟨ak _,fun k h=>by omega⟩ ⟨rfl,rfl,af (fun n:Nat=>AV.p (i64 n)) lm,Z,Y⟩ ⟨Z,Y⟩ fun i hi t h=>?_;apply iW<;>intro h1
 ·obtain⟨x,R⟩:=ao (l:=p.tools) (i:=i) (by omega);have D:pF p.unit p.tools i=xr (zV p.unit x) (if cg (p.tools.map dD.name) i=true then 8 else 0):=by simp only[pF,R]
  refine⟨(zU x),(idx rfl R),_,_,(Cg x p.unit hu (VK x (aj R))),iW ?_ ?_⟩<;>intro I
  ·have I:zV p.unit x≠0:=by simpa using I
   rw[fM rfl I]at D;refine⟨?_,trivial⟩;rw[O (aM hi.2 (by omega) D I) I]
  have I:zV p.unit x=0:=by simpa using I
  rw[mr I]at D;apply iW<;>intro o1
  ·obtain⟨z,hz⟩:=ao (l:=p.tools) (i:=i-1) (by omega);rw[kR (f:=dD.name) R hz (by omega)]at D;refine⟨wO (by omega),(zU z),(idx (show (i:Int)-1=((i-1:Nat):Int) by omega) hz),iW ?_ ?_⟩<;>intro J
   ·refine⟨?_,trivial⟩;have J:(eG (dD.name x) (dD.name z)||decide (dD.name x=dD.name z))=true:=by simpa [eG] using J
    rw[J,ae rfl]at D;rw[O (aM hi.2 (by omega) D (by decide)) (by decide)];rfl
   have J:(eG (dD.name x) (dD.name z)||decide (dD.name x=dD.name z))=false:=by simpa [eG] using J
   rw[J,aa (by decide)]at D;exact⟨wO (by omega),(i+1),_,aA.refl _ _,⟨by omega,eQ hi.2 D⟩,by omega,⟨Z,Z,Z,Z,Y⟩,⟨Z,Y⟩⟩
  have U:i=0:=by omega
  rw[pV U,aa (by decide)]at D;exact⟨wO (by omega),(i+1),_,aA.refl _ _,⟨by omega,eQ hi.2 D⟩,by omega,⟨Z,Z,Z,Z,Y⟩,⟨Z,Y⟩⟩
 skip;have z0:bw (pF p.unit p.tools) 0 p.tools.length=0:=bR fun k _ hk=>hi.2 k (by omega);rw[mr z0];refine⟨_,_,(IN p.steps W V),iW ?_ ?_⟩<;>intro g3
 ·refine⟨?_,trivial⟩;rw[ae g3];rfl
 rw[aa g3];refine⟨_,_,(yY p hp p.steps W V),?_,trivial⟩;rfl
def IP{α:Type}(f:α->ByteArray)(l:List α)(x:ByteArray):Option α:=if 0<=jE f l x then l[(jE f l x).toNat]? else none
theorem nV{f:α->ByteArray}{l:List α}{x:ByteArray}(h:dX f l x=true):∃(k:Nat) (y:α),jE f l x=k/\l[k]?=some y/\f y=x/\IP f l x=some y:=by
 have z:0<=jE f l x:=by
  have:=oz (f:=f) (l:=l) (x:=x);rw[h]at this;have:=of_decide_eq_false this;omega
 obtain⟨k,y,D,I,J⟩:=xp z;exact⟨k,y,D,I,J,by rw[IP,ae z,D,F0,I]⟩
theorem qs{f:α->ByteArray}{l:List α}{x:ByteArray}(h:dX f l x=false):IP f l x=none:=by
 have:=oz (f:=f) (l:=l) (x:=x);rw[h]at this;have:=l5 this;rw[IP,aa (by omega)]
structure Lay where
 name:ByteArray
 mat:ByteArray
def yq(l:Lay):List PV:=[str l.name,str l.mat]
def m0:fy:=⟨bC,0,0,0⟩
def Cm(m:List fy)(y:ByteArray):fy:=(IP fy.name m y).getD m0
def ef(m:List fy)(y:ByteArray):Int:=(Cm m y).kind
def yZ(l:List fy)(i:Nat):Int:=match l[i]? with
 | some x=>if gV x.name=true then (if gT x.kind 1 3=true then (if gT x.thick 1 2000=true then (if gT x.grow 0 1000=true then (if cg (l.map fy.name) i=true then 8 else 0) else 1) else 1) else 4) else 5
 | none=>0
def kf(l:List fy):Int:=if 50<l.length then 2 else bw (yZ l) 0 l.length
def y7(l:List fy):Prop:=l.length<=1048576/\∀x∈l,bK x.name
structure IQ(l:List fy):Prop where
 len:l.length<=50
 ord:cM fy.name l
 kind:∀x∈l,1<=x.kind/\x.kind<=3
 thick:∀x∈l,1<=x.thick/\x.thick<=2000
theorem y8{l:List fy}(h:kf l=0):IQ l:=by
 unfold kf at h;split at h
 ·cases h
 have key:∀i x,l[i]?=some x->(1<=x.kind/\x.kind<=3)/\(1<=x.thick/\x.thick<=2000)/\cg (l.map fy.name) i=false:=fun i x D=>by
  have z:=cP h i (ak _) (by rw[bp];exact (az.1 D).1);simp only[yZ,D]at z;split at z
  ·split at z
   ·rename_i I;split at z
    ·rename_i J;split at z
     ·cases e:cg (l.map fy.name) i with
      | false=>exact⟨cd.1 I,cd.1 J,rfl⟩
      | true=>rw[e]at z;cases z
     cases z
    cases z
   cases z
  cases z
 have mem:∀x∈l,∃k:Nat,l[k]?=some x:=fun x D=>ca.1 D;exact⟨by omega,ke fun i hi=>(key i _ (aW hi)).2.2,fun x D=>by obtain⟨k,hk⟩:=mem x D;exact (key k x hk).1,fun x D=>by obtain⟨k,hk⟩:=mem x D;exact (key k x hk).2.1⟩
theorem Rx{m:List fy}(z:IQ m)(y:ByteArray):(dX fy.name m y=true/\1<=ef m y/\ef m y<=3)\/(dX fy.name m y=false/\ef m y=0):=by
 cases h:dX fy.name m y with
 | true=>
  obtain⟨k,x,_,D,_,I⟩:=nV h;refine .inl ⟨rfl,?_⟩;rw[ef,Cm,I];exact z.kind x (aj D)
 | false=>exact .inr ⟨rfl,by rw[ef,Cm,qs h];rfl⟩
def K8(m:List fy)(s:List Lay)(i:Nat):Int:=if i=0 then 0 else match s[i-1]? with
 | some l=>ef m l.mat
 | none=>0
def DR(k b:Int):Prop:=(k=1/\b=1)\/(k=2/\b≠0/\b≠1)\/(b=2/\k≠1)
instance (k b:Int):Decidable (DR k b):=by unfold DR;infer_instance
def xx(s:List Lay)(n:ByteArray):Bool:=s.any fun l=>decide (l.name=n)
def rH(m:List fy)(s:List Lay)(i:Nat):Int:=match s[i]? with
 | some l=>if ef m l.mat=0 then 9 else if ef m l.mat=1/\gV l.name=false then 5 else if ef m l.mat≠1/\¬l.name=bC then 5 else if ef m l.mat=1/\xx (s.take i) l.name=true then 7 else if DR (ef m l.mat) (K8 m s i) then 8 else 0
 | none=>0
def sk(m:List fy)(s:List Lay)(k:Nat):Bool:=match s[k]? with
 | some l=>decide (ef m l.mat=1)
 | none=>false
def h_(m:List fy)(s:List Lay)(i:Nat):List Int:=((List.range i).filter (sk m s)).map fun k:Nat=>(k:Int)
def K9(m:List fy)(s:List Lay):Int:=if (h_ m s s.length).length<2 then 3 else if sk m s 0=false then 3 else if sk m s (s.length-1)=false then 3 else 0
def eu(m:List fy)(s:List Lay):Int:=xr (kf m) (if 60<s.length then 2 else xr (bw (rH m s) 0 s.length) (K9 m s))
def xy(s:List Lay):Prop:=s.length<=1048576/\∀l∈s,bK l.name/\bK l.mat
variable {s:List Lay}
theorem EE{m:List fy}{i:Nat}:h_ m s (i+1)=h_ m s i++(if sk m s i=true then [(i:Int)] else []):=by
 unfold h_;rw[ga,l_,bB];congr 1;cases h:sk m s i<;>simp[h]
theorem Cn{m:List fy}{i:Nat}:(h_ m s i).length<=i:=by
 unfold h_;rw[au];exact aS (kJ _ _) (by simp)
theorem Ry{m:List fy}{s:List Lay}(h:¬(h_ m s s.length).length<2):2<=s.length:=by
 have:=Cn (m:=m) (s:=s) (i:=s.length);omega
theorem Aq(l:List fy)(W:y7 l):ai C 47 [.pv (.sl (l.map vV))] (.p (i64 (kf l))) []:=by
 refine fW hC Tryz.func47 rfl (by kernel_rfl) fun _=>?_;have lm:=an l vV;apply iW<;>intro g1
 ·refine⟨?_,trivial⟩;rw[kf,ae (by omega)];rfl
 rw[kf,aa (by omega)];refine aP (fun i:Nat=>i<=l.length/\∀k,k<i->yZ l k=0) (fun i=>[(0,.p (.sl (l.map vV))),(8,.p (.sl (l.map vV))),(9,.p (i64 l.length)),(10,.p (i64 i))]) (fun _=>[]) (fun i=>l.length-i) 0 _ (aA.refl _ _) ⟨ak _,fun k h=>by omega⟩ ⟨rfl,rfl,af (fun n:Nat=>AV.p (i64 n)) lm,Z,Y⟩ trivial fun i hi t h=>?_;apply iW<;>intro h1
 ·obtain⟨x,J⟩:=ao (l:=l) (i:=i) (by omega);have D:yZ l i=(if gV x.name=true then (if gT x.kind 1 3=true then (if gT x.thick 1 2000=true then (if gT x.grow 0 1000=true then (if cg (l.map fy.name) i=true then 8 else 0) else 1) else 1) else 4) else 5):=by simp only[yZ,J]
  refine⟨(vV x),(idx rfl J),?_⟩;have so:=W.2 x (aj J);refine⟨_,_,(eN x.name so.le),iW ?_ ?_⟩<;>intro N
  ·refine⟨?_,trivial⟩;rw[aa (by simp[N])]at D;rw[aM hi.2 (by omega) D (by decide)];rfl
  rw[ae (by simpa using N)]at D;refine⟨_,_,(rD x.kind 1 3),iW ?_ ?_⟩<;>intro O
  ·refine⟨?_,trivial⟩;rw[aa (by simp[O])]at D;rw[aM hi.2 (by omega) D (by decide)];rfl
  rw[ae (by simpa using O)]at D;refine⟨_,_,(rD x.thick 1 2000),iW ?_ ?_⟩<;>intro R
  ·refine⟨?_,trivial⟩;rw[aa (by simp[R])]at D;rw[aM hi.2 (by omega) D (by decide)];rfl
  rw[ae (by simpa using R)]at D;refine⟨_,_,(rD x.grow 0 1000),iW ?_ ?_⟩<;>intro U
  ·refine⟨?_,trivial⟩;rw[aa (by simp[U])]at D;rw[aM hi.2 (by omega) D (by decide)];rfl
  rw[ae (by simpa using U)]at D;apply iW<;>intro o1
  ·obtain⟨z,V⟩:=ao (l:=l) (i:=i-1) (by omega);rw[kR (f:=fy.name) J V (by omega)]at D;refine⟨wO (by omega),(vV z),(idx (show (i:Int)-1=((i-1:Nat):Int) by omega) V),iW ?_ ?_⟩<;>intro I
   ·refine⟨?_,trivial⟩;have I:(eG (fy.name x) (fy.name z)||decide (fy.name x=fy.name z))=true:=by simpa [eG] using I
    rw[I,ae rfl]at D;rw[aM hi.2 (by omega) D (by decide)];rfl
   have I:(eG (fy.name x) (fy.name z)||decide (fy.name x=fy.name z))=false:=by simpa [eG] using I
   rw[I,aa (by decide)]at D;exact⟨wO (by omega),(i+1),_,aA.refl _ _,⟨by omega,eQ hi.2 D⟩,by omega,⟨Z,Z,Z,Z,Y⟩,trivial⟩
  have h0:i=0:=by omega
  rw[pV h0,aa (by decide)]at D;exact⟨wO (by omega),(i+1),_,aA.refl _ _,⟨by omega,eQ hi.2 D⟩,by omega,⟨Z,Z,Z,Z,Y⟩,trivial⟩
 refine⟨?_,trivial⟩;have z0:bw (yZ l) 0 l.length=0:=bR fun k _ hk=>hi.2 k (by omega);rw[z0];rfl
theorem qt(m:List fy)(y:ByteArray)(D:cM fy.name m)(hN:m.length<=1000000):ai C 48 [.pv (.sl (m.map vV)),.pv (str y)] (.tu [.ag (vV (Cm m y)),bool (dX fy.name m y)]) []:=by
 refine fW hC Tryz.func48 rfl (by kernel_rfl) fun _=>?_;have hp:=kd (x:=y) D;refine⟨_,_,(K2 m y D (by omega)),iW ?_ ?_⟩<;>intro z
 ·refine⟨?_,trivial⟩;have z:dX fy.name m y=false:=by simpa using z
  rw[Cm,qs z,z];rfl
 have z:dX fy.name m y=true:=by simpa using z
 rw[ae z]at hp;obtain⟨k,x,I,J,e3,N⟩:=nV z;refine⟨(vV x),(idx (hp.symm.trans I) J),?_,trivial⟩;rw[Cm,N,z];rfl
theorem nF(m:List fy)(l:Lay)(z:cM fy.name m)(D:m.length<=1000000):ai C 51 [.pv (.sl (m.map vV)),.pv (.ag (yq l))] (.p (i64 (ef m l.mat))) []:=by
 refine fW hC Tryz.func51 rfl (by kernel_rfl) fun _=>?_;refine⟨_,_,(qt m l.mat z D),?_,trivial⟩;rfl
theorem pX(m:List fy)(s:List Lay)(O:cM fy.name m)(R:m.length<=1000000)(hS:s.length<=1048576):ai C 50 [.pv (.sl (m.map vV)),.pv (.sl (s.map yq))] (.own 3 ((h_ m s s.length).map fun n=>[i64 n])) []:=by
 refine fW hC Tryz.func50 rfl (by kernel_rfl) fun _=>?_;have U:=an s yq;refine aP (fun i:Nat=>i<=s.length) (fun i=>[(0,.p (.sl (m.map vV))),(5,.ow 5),(8,.p (.sl (s.map yq))),(9,.p (i64 s.length)),(10,.p (i64 i))]) (fun i=>[(5,.row 3 ((h_ m s i).map fun n=>[i64 n]))]) (fun i=>s.length-i) 0 _ (aA.eK hC _ 5 3 _ (by decide) rfl rfl (by decide)) (ak _) ⟨rfl,rfl,rfl,af (fun n:Nat=>AV.p (i64 n)) U,Z,Y⟩ ⟨Z,Y⟩ fun i hi t h=>?_;apply iW<;>intro h1
 ·obtain⟨x,D⟩:=ao (l:=s) (i:=i) (by omega);have I:sk m s i=decide (ef m x.mat=1):=by rw[sk,D]
  have z:=EE (m:=m) (s:=s) (i:=i);have hle:=Cn (m:=m) (s:=s) (i:=i);have J:((h_ m s i).map fun n=>[i64 n]).length=(h_ m s i).length:=au ..;refine⟨(yq x),(idx rfl D),_,_,(nF m x O R),iW ?_ ?_⟩<;>intro N
  ·rw[I,ae (jS N)]at z;exact⟨⟨by simp,by rw[J];simp;omega,by rw[J];simp;omega⟩,wO (by omega),(i+1),_,aA.refl _ _,by omega,by omega,⟨Z,Z,Z,Z,Z,Y⟩,⟨by rw[z,bB];rfl,trivial⟩⟩
  rw[I,aa (by rw[aY N];decide),dP]at z;exact⟨wO (by omega),(i+1),_,aA.refl _ _,by omega,by omega,⟨Z,Z,Z,Z,Z,Y⟩,⟨by rw[z];rfl,trivial⟩⟩
 have e:i=s.length:=by omega
 rw[e];exact⟨Z,Z,Y⟩
theorem K_{i:Nat}{l:Lay}(h:s[i]?=some l)(n:ByteArray):xx (s.take (i+1)) n=(xx (s.take i) n||decide (l.name=n)):=by
 rw[bq h,xx,Mx];simp[xx]
theorem OB{m:List fy}{i:Nat}{l:Lay}(h:s[i]?=some l):K8 m s (i+1)=ef m l.mat:=by
 unfold K8;rw[aa (by omega),Nat.add_sub_cancel,h]
theorem EF{m:List fy}{k:Nat}{l:Lay}(h:s[k]?=some l):sk m s k=decide (ef m l.mat=1):=by rw[sk,h]
theorem qu(m:List fy)(s:List Lay)(hm:y7 m)(hs:xy s):ai C 25 [.pv (.sl (m.map vV)),.pv (.sl (s.map yq))] (.p (i64 (eu m s))) []:=by
 refine fW hC Tryz.func25 rfl (by kernel_rfl) fun _=>?_;have lm:=an s yq;refine⟨_,_,(Aq m hm),iW ?_ ?_⟩<;>intro N
 ·have N:kf m≠0:=by simpa using N
  refine⟨?_,trivial⟩;rw[eu,fM rfl N]
 have N:kf m=0:=by simpa using N
 have O:=y8 N;have gl:=O.len;rw[eu,mr N];apply iW<;>intro g2
 ·refine⟨?_,trivial⟩;rw[ae (by omega)];rfl
 rw[aa (by omega)];have RA:=pX m s O.ord (by omega) hs.1;have jx:=an (h_ m s s.length) fun n=>[i64 n];refine aP (fun p:Nat×List (Value×PV)=>p.1<=s.length/\(∀k,k<p.1->rH m s k=0)/\∀n,gz p.2 (.string n)=if xx (s.take p.1) n=true then some (bool true) else none) (fun p=>[(0,.p (.sl (m.map vV))),(1,.p (.sl (s.map yq))),(6,.ow 22),(7,.p (i64 (K8 m s p.1))),(23,.p (.sl (s.map yq))),(24,.p (i64 s.length)),(25,.p (i64 p.1))]) (fun p=>[(22,.map .str p.2)]) (fun p=>s.length-p.1) (0,[]) _ (aA.refl _ _) ⟨ak _,fun k h=>by simp only at h;omega,fun n=>rfl⟩ ⟨rfl,rfl,rfl,rfl,rfl,af (fun n:Nat=>AV.p (i64 n)) lm,Z,Y⟩ ⟨Z,Y⟩ fun ⟨i,es⟩ hi tt h=>?_;obtain⟨q1,q2,q3⟩:=hi;simp only at q1 q2 q3;apply iW<;>intro h1<;>try simp only[zB]at h1
 ·obtain⟨l,V⟩:=ao (l:=s) (i:=i) (by omega);have z:rH m s i=(if ef m l.mat=0 then 9 else if ef m l.mat=1/\gV l.name=false then 5 else if ef m l.mat≠1/\¬l.name=bC then 5 else if ef m l.mat=1/\xx (s.take i) l.name=true then 7 else if DR (ef m l.mat) (K8 m s i) then 8 else 0):=by simp only[rH,V]
  have D:∀{c:Int},rH m s i=c->c≠0->bw (rH m s) 0 s.length=c:=fun e h0=>aM q2 (by omega) e h0;obtain⟨so,so2⟩:=hs.2 l (aj V);have q:=q3 l.name;have hb:=OB (m:=m) V;refine⟨(yq l),(idx rfl V),_,_,(qt m l.mat O.ord (by omega)),?_⟩;rcases Rx O l.mat with⟨k1,k2,k3⟩ | ⟨k1,k2⟩;rotate_left
  ·apply iW<;>intro W
   ·refine⟨?_,trivial⟩;rw[ae k2]at z;rw[fM (D z (by decide)) (by decide)];rfl
   exfalso;rw[k1]at W;simp at W
  have JW:ef m l.mat=(Cm m l.mat).kind:=rfl;generalize ef m l.mat=K at *;rw[aa (by omega)]at z;apply iW<;>intro W
  ·exfalso;rw[k1]at W;simp at W
  have keys:∀n,gz (iS es (.string l.name) (bool true)) (.string n)=if xx (s.take (i+1)) n=true then some (bool true) else none:=fun n=>by
   rw[ug,K_ V];by_cases e:n=l.name
   ·rw[ae e,e];simp
   rw[aa e,q3 n,aY (fun e2=>e e2.symm),ph]
  have fin:¬DR K (K8 m s i)->rH m s i=(if DR K (K8 m s i) then 8 else 0)->∀k,k<i+1->rH m s k=0:=fun h0 e=>eQ q2 (by rw[e,aa h0]);apply iW<;>intro I
  ·have I:K=1:=by rw[JW];exact I
   refine⟨_,_,(eN l.name so.le),iW ?_ ?_⟩<;>intro J
   ·refine⟨?_,trivial⟩;rw[ae ⟨I,by simpa using J⟩]at z;rw[fM (D z (by decide)) (by decide)];rfl
   rw[aa (fun e=>by simp[e.2]at J),aa (fun e=>e.1 I)]at z;apply iW<;>intro a4
   ·exfalso;omega
   apply iW<;>intro a5;rotate_left
   ·exfalso;omega
   cases hS:xx (s.take i) l.name with
   | true=>
    rw[hS]at q z;refine⟨(some (bool true)),q,?_,trivial⟩;rw[ae ⟨I,rfl⟩]at z;rw[fM (D z (by decide)) (by decide)];rfl
   | false=>
    rw[hS]at q z;rw[aa (fun e=>by cases e.2)]at z;refine⟨none,q,?_⟩
    repeat' apply iW<;>intro d<;>try simp only[zB]at d
    all_goals skip
    all_goals first
     | (exfalso;omega)
     | (
       refine⟨⟨by dsimp only;omega,by dsimp only;omega⟩,?_⟩;refine⟨(i+1,iS es (.string l.name) (bool true)),_,aA.refl _ _,?_⟩;exact⟨⟨by dsimp only;omega,fin (by unfold DR;omega) z,keys⟩,by dsimp only;omega,⟨rfl,rfl,rfl,bI (by rw[<-JW];exact hb.symm),Z,Z,Z,Y⟩,⟨Z,Y⟩⟩)
     | (
       refine⟨?_,trivial⟩;rw[ae (by unfold DR;omega)]at z;rw[fM (D z (by decide)) (by decide)];rfl)
  have I:¬K=1:=by rw[JW];exact I
  rw[aa (fun e=>I e.1)]at z;apply iW<;>intro a4;rotate_left
  ·exfalso;omega
  apply iW<;>intro J
  ·have J:¬l.name=bC:=J;refine⟨?_,trivial⟩;rw[ae ⟨I,J⟩]at z;rw[fM (D z (by decide)) (by decide)];rfl
  have J:l.name=bC:=by simpa [bC] using J
  rw[aa (fun e=>e.2 J),aa (fun e=>I e.1)]at z
  repeat' apply iW<;>intro d<;>try simp only[zB]at d
  all_goals skip
  all_goals first
   | (exfalso;omega)
   | (
     refine⟨⟨by dsimp only;omega,by dsimp only;omega⟩,?_⟩;refine⟨(i+1,iS es (.string l.name) (bool true)),_,aA.refl _ _,?_⟩;exact⟨⟨by dsimp only;omega,fin (by unfold DR;omega) z,keys⟩,by dsimp only;omega,⟨rfl,rfl,rfl,bI (by rw[<-JW];exact hb.symm),Z,Z,Z,Y⟩,⟨Z,Y⟩⟩)
   | (
     refine⟨?_,trivial⟩;rw[ae (by unfold DR;omega)]at z;rw[fM (D z (by decide)) (by decide)];rfl)
 have z0:bw (rH m s) 0 s.length=0:=bR fun k _ hk=>q2 k (by omega);rw[mr z0];refine⟨_,_,RA,iW ?_ ?_⟩<;>intro e1
 ·refine⟨?_,trivial⟩;rw[K9,ae (by omega)];rfl
 have e2:=Ry (m:=m) (s:=s) (by omega);rw[K9,aa (by omega)];obtain⟨l,hl⟩:=ao (l:=s) (i:=0) (by omega);obtain⟨l2,Hd⟩:=ao (l:=s) (i:=s.length-1) (by omega);rw[EF hl,EF Hd];refine⟨(yq l),(idx (k:=0) rfl hl),_,_,(nF m l O.ord (by omega)),iW ?_ ?_⟩<;>intro R
 ·have R:¬ef m l.mat=1:=R;refine⟨?_,trivial⟩;rw[aY R];rfl
 have R:ef m l.mat=1:=by simpa using R
 rw[jS R,aa (by decide)];refine⟨wO (by omega),(yq l2),(idx (show ((((s.map yq).length:Nat):Int)-1)=((s.length-1:Nat):Int) by omega) Hd),_,_,(nF m l2 O.ord (by omega)),iW ?_ ?_⟩<;>intro U
 ·have U:¬ef m l2.mat=1:=U;refine⟨?_,trivial⟩;rw[aY U];rfl
 have U:ef m l2.mat=1:=by simpa using U
 rw[jS U,aa (by decide)];refine⟨?_,trivial⟩;rfl
structure Place where
 part:ByteArray
 type:ByteArray
 x:Int
 y:Int
 quarters:Int
 below:Bool
def EG(p:Place):List PV:=[str p.part,str p.type,i64 p.x,i64 p.y,i64 p.quarters,bool p.below]
def b0:Body:=⟨bC,0,0,0,bC⟩
def rI(l:List Body)(i:Nat):Int:=match l[i]? with
 | some x=>if gV x.name=true then (if gT x.w 1 100000=true then (if gT x.h 1 100000=true then (if gT x.tall 1 100000=true then (if gV x.nozzle=true then (if cg (l.map Body.name) i=true then 8 else 0) else 5) else 1) else 1) else 1) else 5
 | none=>0
def eR(l:List Body):Int:=if 200<l.length then 2 else bw (rI l) 0 l.length
def Co(l:List Body):Prop:=l.length<=1048576/\∀x∈l,bK x.name/\bK x.nozzle
structure La(l:List Body):Prop where
 len:l.length<=200
 ord:cM Body.name l
theorem IS{l:List Body}(h:eR l=0):La l:=by
 unfold eR at h;split at h
 ·cases h
 refine⟨by omega,ke fun i hi=>?_⟩;have z:=cP h i (ak _) (by omega);obtain⟨x,D⟩:=ao (l:=l) (i:=i) hi;simp only[rI,D]at z;cases e:cg (l.map Body.name) i with
 | false=>rfl
 | true=>
      rw[e]at z;repeat' split at z
      all_goals first | (cases z;done) | (rename_i I;exact absurd rfl I)
def sZ(b:List Body)(x:Place):Int:=if si x.part=true then (if dX Body.name b x.type=true then (if (Reg.iZ x.x&&Reg.iZ x.y)=true then (if gT x.quarters 0 3=true then 0 else 1) else 1) else 9) else 5
def qv(b:List Body)(l:List Place)(i:Nat):Int:=match l[i]? with
 | some x=>xr (sZ b x) (if cg (l.map Place.part) i=true then 8 else 0)
 | none=>0
def fO(b:List Body)(l:List Place):Int:=xr (eR b) (if 1000<l.length then 2 else bw (qv b l) 0 l.length)
def IT(l:List Place):Prop:=l.length<=1048576/\∀x∈l,bK x.part/\bK x.type
theorem xz(l:List Body)(ho:Co l):ai C 56 [.pv (.sl (l.map DO))] (.p (i64 (eR l))) []:=by
 refine fW hC Tryz.func56 rfl (by kernel_rfl) fun _=>?_;have lm:=an l DO;apply iW<;>intro g1
 ·refine⟨?_,trivial⟩;rw[eR,ae (by omega)];rfl
 rw[eR,aa (by omega)];refine aP (fun i:Nat=>i<=l.length/\∀k,k<i->rI l k=0) (fun i=>[(0,.p (.sl (l.map DO))),(8,.p (.sl (l.map DO))),(9,.p (i64 l.length)),(10,.p (i64 i))]) (fun _=>[]) (fun i=>l.length-i) 0 _ (aA.refl _ _) ⟨ak _,fun k h=>by omega⟩ ⟨rfl,rfl,af (fun n:Nat=>AV.p (i64 n)) lm,Z,Y⟩ trivial fun i hi t h=>?_;apply iW<;>intro h1
 ·obtain⟨x,J⟩:=ao (l:=l) (i:=i) (by omega);have D:rI l i=(if gV x.name=true then (if gT x.w 1 100000=true then (if gT x.h 1 100000=true then (if gT x.tall 1 100000=true then (if gV x.nozzle=true then (if cg (l.map Body.name) i=true then 8 else 0) else 5) else 1) else 1) else 1) else 5):=by simp only[rI,J]
  refine⟨(DO x),(idx rfl J),?_⟩;obtain⟨so,N⟩:=ho.2 x (aj J);refine⟨_,_,(eN x.name so.le),iW ?_ ?_⟩<;>intro O
  ·refine⟨?_,trivial⟩;rw[aa (by simp[O])]at D;rw[aM hi.2 (by omega) D (by decide)];rfl
  rw[ae (by simpa using O)]at D;refine⟨_,_,(nB x.w 1 100000),iW ?_ ?_⟩<;>intro R
  ·refine⟨?_,trivial⟩;rw[aa (by simp[R])]at D;rw[aM hi.2 (by omega) D (by decide)];rfl
  rw[ae (by simpa using R)]at D;refine⟨_,_,(nB x.h 1 100000),iW ?_ ?_⟩<;>intro U
  ·refine⟨?_,trivial⟩;rw[aa (by simp[U])]at D;rw[aM hi.2 (by omega) D (by decide)];rfl
  rw[ae (by simpa using U)]at D;refine⟨_,_,(nB x.tall 1 100000),iW ?_ ?_⟩<;>intro V
  ·refine⟨?_,trivial⟩;rw[aa (by simp[V])]at D;rw[aM hi.2 (by omega) D (by decide)];rfl
  rw[ae (by simpa using V)]at D;refine⟨_,_,(eN x.nozzle N.le),iW ?_ ?_⟩<;>intro W
  ·refine⟨?_,trivial⟩;rw[aa (by simp[W])]at D;rw[aM hi.2 (by omega) D (by decide)];rfl
  rw[ae (by simpa using W)]at D;apply iW<;>intro o1
  ·obtain⟨z,hz⟩:=ao (l:=l) (i:=i-1) (by omega);rw[kR (f:=Body.name) J hz (by omega)]at D;refine⟨wO (by omega),(DO z),(idx (show (i:Int)-1=((i-1:Nat):Int) by omega) hz),iW ?_ ?_⟩<;>intro I
   ·refine⟨?_,trivial⟩;have I:(eG (Body.name x) (Body.name z)||decide (Body.name x=Body.name z))=true:=by simpa [eG] using I
    rw[I,ae rfl]at D;rw[aM hi.2 (by omega) D (by decide)];rfl
   have I:(eG (Body.name x) (Body.name z)||decide (Body.name x=Body.name z))=false:=by simpa [eG] using I
   rw[I,aa (by decide)]at D;exact⟨wO (by omega),(i+1),_,aA.refl _ _,⟨by omega,eQ hi.2 D⟩,by omega,⟨Z,Z,Z,Z,Y⟩,trivial⟩
  have h0:i=0:=by omega
  rw[pV h0,aa (by decide)]at D;exact⟨wO (by omega),(i+1),_,aA.refl _ _,⟨by omega,eQ hi.2 D⟩,by omega,⟨Z,Z,Z,Z,Y⟩,trivial⟩
 refine⟨?_,trivial⟩;have z0:bw (rI l) 0 l.length=0:=bR fun k _ hk=>hi.2 k (by omega);rw[z0];rfl
theorem Gx(m:List Body)(y:ByteArray)(D:cM Body.name m)(hN:m.length<=1000000):ai C 57 [.pv (.sl (m.map DO)),.pv (str y)] (.tu [.ag (DO ((IP Body.name m y).getD b0)),bool (dX Body.name m y)]) []:=by
 refine fW hC Tryz.func57 rfl (by kernel_rfl) fun _=>?_;have hp:=kd (x:=y) D;refine⟨_,_,(K4 m y D (by omega)),iW ?_ ?_⟩<;>intro z
 ·refine⟨?_,trivial⟩;have z:dX Body.name m y=false:=by simpa using z
  rw[qs z,z];rfl
 have z:dX Body.name m y=true:=by simpa using z
 rw[ae z]at hp;obtain⟨k,x,I,J,e3,N⟩:=nV z;refine⟨(DO x),(idx (hp.symm.trans I) J),?_,trivial⟩;rw[N,z];rfl
theorem xA(b:List Body)(l:List Place)(hb:Co b)(ho:IT l):ai C 27 [.pv (.sl (b.map DO)),.pv (.sl (l.map EG))] (.p (i64 (fO b l))) []:=by
 refine fW hC Tryz.func27 rfl (by kernel_rfl) fun _=>?_;have lm:=an l EG;refine⟨_,_,(xz b hb),iW ?_ ?_⟩<;>intro I
 ·have I:eR b≠0:=by simpa using I
  refine⟨?_,trivial⟩;rw[fO,fM rfl I]
 have I:eR b=0:=by simpa using I
 have V:=IS I;have gl:=V.len;rw[fO,mr I];apply iW<;>intro g1
 ·refine⟨?_,trivial⟩;rw[ae (by omega)];rfl
 rw[aa (by omega)];refine aP (fun i:Nat=>i<=l.length/\∀k,k<i->qv b l k=0) (fun i=>[(0,.p (.sl (b.map DO))),(1,.p (.sl (l.map EG))),(18,.p (.sl (l.map EG))),(19,.p (i64 l.length)),(20,.p (i64 i))]) (fun _=>[]) (fun i=>l.length-i) 0 _ (aA.refl _ _) ⟨ak _,fun k h=>by omega⟩ ⟨rfl,rfl,rfl,af (fun n:Nat=>AV.p (i64 n)) lm,Z,Y⟩ trivial fun i hi t h=>?_;apply iW<;>intro h1
 ·obtain⟨x,U⟩:=ao (l:=l) (i:=i) (by omega);have D:qv b l i=xr (sZ b x) (if cg (l.map Place.part) i=true then 8 else 0):=by simp only[qv,U]
  refine⟨(EG x),(idx rfl U),?_⟩;obtain⟨so,so2⟩:=ho.2 x (aj U);refine⟨_,_,(Gx b x.type V.ord (by omega)),_,_,(kM x.part so),iW ?_ ?_⟩<;>intro J
  ·refine⟨?_,trivial⟩;rw[fM (c:=5) (by rw[sZ,aa (by simp[J])]) (by decide)]at D;rw[aM hi.2 (by omega) D (by decide)];rfl
  have J:si x.part=true:=by simpa using J
  apply iW<;>intro N
  ·refine⟨?_,trivial⟩;rw[fM (c:=9) (by rw[sZ,ae J,aa (by simp[N])]) (by decide)]at D;rw[aM hi.2 (by omega) D (by decide)];rfl
  have N:dX Body.name b x.type=true:=by simpa using N
  refine⟨_,_,(dR x.x x.y),iW ?_ ?_⟩<;>intro R
  ·refine⟨?_,trivial⟩;rw[fM (c:=1) (by rw[sZ,ae J,ae N,aa (by simp[R])]) (by decide)]at D;rw[aM hi.2 (by omega) D (by decide)];rfl
  have R:(Reg.iZ x.x&&Reg.iZ x.y)=true:=by simpa using R
  refine⟨_,_,(nB x.quarters 0 3),iW ?_ ?_⟩<;>intro W
  ·refine⟨?_,trivial⟩;rw[fM (c:=1) (by rw[sZ,ae J,ae N,ae R,aa (by simp[W])]) (by decide)]at D;rw[aM hi.2 (by omega) D (by decide)];rfl
  rw[mr (by rw[sZ,ae J,ae N,ae R,ae (by simpa using W)])]at D;apply iW<;>intro o1
  ·obtain⟨z,hz⟩:=ao (l:=l) (i:=i-1) (by omega);rw[kR (f:=Place.part) U hz (by omega)]at D;refine⟨wO (by omega),(EG z),(idx (show (i:Int)-1=((i-1:Nat):Int) by omega) hz),iW ?_ ?_⟩<;>intro O
   ·refine⟨?_,trivial⟩;have O:(eG (Place.part x) (Place.part z)||decide (Place.part x=Place.part z))=true:=by simpa [eG] using O
    rw[O,ae rfl]at D;rw[aM hi.2 (by omega) D (by decide)];rfl
   have O:(eG (Place.part x) (Place.part z)||decide (Place.part x=Place.part z))=false:=by simpa [eG] using O
   rw[O,aa (by decide)]at D;exact⟨wO (by omega),(i+1),_,aA.refl _ _,⟨by omega,eQ hi.2 D⟩,by omega,⟨Z,Z,Z,Z,Z,Y⟩,trivial⟩
  have h0:i=0:=by omega
  rw[pV h0,aa (by decide)]at D;exact⟨wO (by omega),(i+1),_,aA.refl _ _,⟨by omega,eQ hi.2 D⟩,by omega,⟨Z,Z,Z,Z,Z,Y⟩,trivial⟩
 refine⟨?_,trivial⟩;have z0:bw (qv b l) 0 l.length=0:=bR fun k _ hk=>hi.2 k (by omega);rw[z0];rfl
def vI(p:sy):Value:=.agg #[.string p.part,.string p.pin]
theorem A7(p q:sy):Dj (vI p) (vI q)=decide (p=q):=by
 show (decide (p.part=q.part)&&(decide (p.pin=q.pin)&&true))=_;rw[Xe,fV,decide_eq_true_iff,decide_eq_true_iff];exact eq_comm
def nG(es:List (Value×PV)):Prop:=∀e∈es,∃p:sy,e.1=vI p
theorem zY{es:List (Value×PV)}{p:sy}{v:PV}(h:nG es):nG (iS es (vI p) v):=by
 induction es with
 | nil=>intro e z;rw[iS,bV]at z;exact⟨p,by rw[z]⟩
 | cons a r ih=>
  intro e z;obtain⟨k',u⟩:=a;rw[iS]at z;split at z
  ·rcases aq.1 z with D | D
   ·exact⟨p,by rw[D]⟩
   exact h e (cD _ D)
  rcases aq.1 z with D | D
  ·exact h e (by rw[D];exact bW)
  exact ih (fun e z=>h e (cD _ z)) e D
theorem RB{es:List (Value×PV)}(h:nG es)(p n:sy)(v:PV):gz (iS es (vI p) v) (vI n)=if n=p then some v else gz es (vI n):=by
 induction es with
 | nil=>
  simp only[iS,gz,A7];by_cases e:n=p<;>simp[e]
 | cons a r ih=>
  obtain⟨I,u⟩:=a;obtain⟨q,D⟩:=h (I,u) bW;have D:I=vI q:=D;subst D;have ih:=ih fun e J=>h e (cD _ J);simp only[iS,A7];by_cases e:p=q
  ·subst e;simp only[decide_true,gz,A7];by_cases z:n=p<;>simp[z]
  rw[aY e];simp only[gz,A7,ih];by_cases z:n=q
  ·subst z;have N:¬n=p:=fun h=>e h.symm;simp[N]
  rw[aY z]
def mP(es:List (Value×PV)):List sy->List (Value×PV)
 | []=>es
 | p::r=>mP (iS es (vI p) (bool true)) r
theorem zZ(p:sy):∀(l:List sy) (es:List (Value×PV)),mP es (l++[p])=iS (mP es l) (vI p) (bool true)
 | [],_=>rfl
 | _::r,_=>zZ p r _
theorem z7:∀(l:List sy) {es:List (Value×PV)},nG es->nG (mP es l)
 | [],_,h=>h
 | _::r,_,h=>z7 r (zY h)
theorem IU(n:sy):∀(l:List sy) {es:List (Value×PV)},nG es->gz (mP es l) (vI n)=if (l.any fun q=>decide (q=n))=true then some (bool true) else gz es (vI n)
 | [],_,_=>rfl
 | p::r,es,h=>by
  rw[mP,IU n r (zY h),RB h,gK];by_cases e:n=p
  ·subst e;simp
  rw[aa e,aY (fun z=>e z.symm),iq]
theorem vJ(t:List bG)(x:DP)(l:List sy)(es:List (Value×PV))(D:sy->Bool)(ht:qq t)(hp:uo t x.parts)(hk:nG es)(hs:∀p:sy,gz es (vI p)=if D p=true then some (bool true) else none)(hN:l.length<=140737488355328):
  ai C 44 [.pv (.sl (l.map Gm)),.pv (.fn 45 [.ip [.sl (t.map vU)],.ip (S9 x)]),.map (.st [0,0]) es] (.p (i64 (fN t x.parts D l))) [.map (if fN t x.parts D l=0 then mP es l else es)]:=by
 refine fW hC Tryz.func44 rfl (by kernel_rfl) fun _=>?_;have R:=an l Gm;apply iW<;>intro g1
 ·have e:fN t x.parts D l=2:=by rw[fN,ae (by omega)]
  refine⟨?_,?_,trivial⟩
  all_goals first | (rw[e];rfl) | (rw[e,aa (by decide)])
 have ZX:fN t x.parts D l=bw (Gr t x.parts D l) 0 l.length:=by rw[fN,aa (by omega)]
 rw[ZX];refine aP (fun i:Nat=>i<=l.length/\∀k,k<i->Gr t x.parts D l k=0) (fun i=>[(0,.p (.sl (l.map Gm))),(1,.p (.fn 45 [.ip [.sl (t.map vU)],.ip (S9 x)])),(2,.ow 100002),(14,.p (.sl (l.map Gm))),(15,.p (i64 l.length)),(16,.p (i64 i))]) (fun _=>[(100002,.map (.st [0,0]) es)]) (fun i=>l.length-i) 0 _ (aA.refl _ _) ⟨ak _,fun k h=>by omega⟩ ⟨rfl,rfl,rfl,rfl,af (fun n:Nat=>AV.p (i64 n)) R,Z,Y⟩ ⟨Z,Y⟩ fun i hi tt h=>?_;apply iW<;>intro h1
 ·obtain⟨p,N⟩:=ao (l:=l) (i:=i) (by omega);have I:Gr t x.parts D l i=(if rF t x.parts p=true then (if Ce l i=true then 8 else if D p=true then 7 else 0) else 9):=by simp only[Gr,N]
  have q:=hs p;have J:∀{c:Int},Gr t x.parts D l i=c->c≠0->bw (Gr t x.parts D l) 0 l.length=c:=fun e O=>aM hi.2 (by omega) e O;refine⟨(Gm p),(idx rfl N),_,_,(Oz t x p ht hp),iW ?_ ?_⟩<;>intro U
  ·rw[aa (by simp[U])]at I;refine⟨?_,?_,trivial⟩
   all_goals first | (rw[J I (by decide)];rfl) | (rw[J I (by decide),aa (by decide)])
  rw[ae (by simpa using U)]at I;have tail:Ce l i=false->Gr t x.parts D l i=(if D p=true then 7 else 0):=fun O=>by rw[I,O,aa (by decide)]
  apply iW<;>intro a2
  ·obtain⟨z,V⟩:=ao (l:=l) (i:=i-1) (by omega);have W:=ZU N V (by omega);have hc:=Ui p z;refine⟨wO (by omega),(Gm z),(idx (show (i:Int)-1=((i-1:Nat):Int) by omega) V),_,_,(xu p z),iW ?_ ?_⟩<;>intro a3
   ·rw[W,hc.1 a3,ae (by decide)]at I;refine⟨?_,?_,trivial⟩
    all_goals first | (rw[J I (by decide)];rfl) | (rw[J I (by decide),aa (by decide)])
   have a4:Yq z p=true:=by
    cases e:Yq z p with
    | true=>rfl
    | false=>exact absurd (hc.2 e) a3
   have I:=tail (by rw[W,a4];rfl);cases hS:D p with
   | true=>
    rw[hS]at q I;rw[ae rfl]at I;refine⟨(some (bool true)),q,?_,?_,trivial⟩
    all_goals first | (rw[J I (by decide)];rfl) | (rw[J I (by decide),aa (by decide)])
   | false=>
    rw[hS]at q I;rw[aa (by decide)]at I;exact⟨none,q,wO (by omega),(i+1),_,aA.refl _ _,⟨by omega,eQ hi.2 I⟩,by omega,⟨Z,Z,Z,Z,Z,Z,Y⟩,⟨Z,Y⟩⟩
  have I:=tail (acP (by omega));cases hS:D p with
  | true=>
   rw[hS]at q I;rw[ae rfl]at I;refine⟨(some (bool true)),q,?_,?_,trivial⟩
   all_goals first | (rw[J I (by decide)];rfl) | (rw[J I (by decide),aa (by decide)])
  | false=>
   rw[hS]at q I;rw[aa (by decide)]at I;exact⟨none,q,wO (by omega),(i+1),_,aA.refl _ _,⟨by omega,eQ hi.2 I⟩,by omega,⟨Z,Z,Z,Z,Z,Z,Y⟩,⟨Z,Y⟩⟩
 have z0:bw (Gr t x.parts D l) 0 l.length=0:=bR fun k _ hk=>hi.2 k (by omega);rw[z0,ae rfl];refine aP (fun i:Nat=>i<=l.length) (fun i=>[(2,.ow 100002),(44,.p (.sl (l.map Gm))),(45,.p (i64 l.length)),(46,.p (i64 i))]) (fun i=>[(100002,.map (.st [0,0]) (mP es (l.take i)))]) (fun i=>l.length-i) 0 _ (aA.refl _ _) (ak _) ⟨rfl,rfl,af (fun n:Nat=>AV.p (i64 n)) R,Z,Y⟩ ⟨Z,Y⟩ fun i hi tt h=>?_;apply iW<;>intro h2
 ·obtain⟨p,N⟩:=ao (l:=l) (i:=i) (by omega);have To:=zZ p (l.take i) es;rw[<-bq N]at To;exact⟨(Gm p),(idx rfl N),wO (by omega),(i+1),_,aA.refl _ _,by omega,by omega,⟨Z,Z,Z,Z,Y⟩,⟨by rw[To];rfl,trivial⟩⟩
 have e:l.take i=l:=cK (by omega);refine⟨?_,?_,trivial⟩
 all_goals first | rfl | (rw[e];rfl)
def OC(t:List bG)(x:DP)(i:Nat):Int:=match x.nets[i]? with
 | some n=>if si n.name=true then (if n.pins.length=0 then 9 else xr (fN t x.parts (gN (x.nets.take i)) n.pins) (if 0<n.ports.length then 3 else if cg (x.nets.map Net.name) i=true then 8 else 0)) else 5
 | none=>0
def y9(t:List bG)(x:DP):Int:=if 1000<x.nets.length then 2 else bw (OC t x) 0 x.nets.length
def jf(t:List bG)(x:DP):Int:=xr (ep t) (xr (iI t x.parts) (y9 t x))
structure Gy(x:DP):Prop where
 parts:x.parts.length<=1048576/\∀p∈x.parts,bK p.name/\bK p.type
 nets:x.nets.length<=1048576/\∀n∈x.nets,bK n.name/\n.pins.length<=1048576/\n.ports.length<=1048576
theorem Ul{t:List bG}{y:ByteArray}(h:jE bG.name t y<0):¬dX bG.name t y=true:=fun e=>by
 have:=oz (f:=bG.name) (l:=t) (x:=y);rw[jS h,e]at this;cases this
theorem Um{t:List bG}{y:ByteArray}(h:¬jE bG.name t y<0):dX bG.name t y=true:=by
 have:=oz (f:=bG.name) (l:=t) (x:=y);rw[aY h]at this;cases e:dX bG.name t y with
 | true=>rfl
 | false=>rw[e]at this;cases this
theorem y_(t:List bG)(l:List Part)(N:qq t)(hN:l.length<=1048576)(V:∀p∈l,bK p.name/\bK p.type):ai C 42 [.pv (.sl (t.map vU)),.pv (.sl (l.map yV)),.pv (MG 43)] (.p (i64 (iI t l))) []:=by
 refine fW hC Tryz.func42 rfl (by kernel_rfl) fun _=>?_;have W:=an l yV;have eX:=N.len;apply iW<;>intro g1
 ·refine⟨?_,trivial⟩;rw[iI,ae (by omega)];rfl
 rw[iI,aa (by omega)];refine aP (fun i:Nat=>i<=l.length/\∀k,k<i->um t l k=0) (fun i=>[(0,.p (.sl (t.map vU))),(1,.p (.sl (l.map yV))),(2,.p (MG 43)),(12,.p (.sl (l.map yV))),(13,.p (i64 l.length)),(14,.p (i64 i))]) (fun _=>[]) (fun i=>l.length-i) 0 _ (aA.refl _ _) ⟨ak _,fun k h=>by omega⟩ ⟨rfl,rfl,rfl,rfl,af (fun n:Nat=>AV.p (i64 n)) W,Z,Y⟩ trivial fun i hi tt h=>?_;apply iW<;>intro h1
 ·obtain⟨x,J⟩:=ao (l:=l) (i:=i) (by omega);have D:um t l i=(if si x.name=true then (if dX bG.name t x.type=true then (if cg (l.map Part.name) i=true then 8 else 0) else 9) else 5):=by simp only[um,J]
  obtain⟨so,so2⟩:=V x (aj J);refine⟨(yV x),(idx rfl J),_,_,(kM x.name so),iW ?_ ?_⟩<;>intro O
  ·refine⟨?_,trivial⟩;rw[aa (by simp[O])]at D;rw[aM hi.2 (by omega) D (by decide)];rfl
  rw[ae (by simpa using O)]at D;refine⟨_,_,(rE t x.type N.ord (by omega)),iW ?_ ?_⟩<;>intro R
  ·refine⟨?_,trivial⟩;rw[aa (Ul R)]at D;rw[aM hi.2 (by omega) D (by decide)];rfl
  rw[ae (Um R)]at D;apply iW<;>intro o1
  ·obtain⟨z,U⟩:=ao (l:=l) (i:=i-1) (by omega);rw[kR (f:=Part.name) J U (by omega)]at D;refine⟨wO (by omega),(yV z),(idx (show (i:Int)-1=((i-1:Nat):Int) by omega) U),iW ?_ ?_⟩<;>intro I
   ·refine⟨?_,trivial⟩;have I:(eG (Part.name x) (Part.name z)||decide (Part.name x=Part.name z))=true:=by simpa [eG] using I
    rw[I,ae rfl]at D;rw[aM hi.2 (by omega) D (by decide)];rfl
   have I:(eG (Part.name x) (Part.name z)||decide (Part.name x=Part.name z))=false:=by simpa [eG] using I
   rw[I,aa (by decide)]at D;exact⟨wO (by omega),(i+1),_,aA.refl _ _,⟨by omega,eQ hi.2 D⟩,by omega,⟨Z,Z,Z,Z,Z,Z,Y⟩,trivial⟩
  have h0:i=0:=by omega
  rw[pV h0,aa (by decide)]at D;exact⟨wO (by omega),(i+1),_,aA.refl _ _,⟨by omega,eQ hi.2 D⟩,by omega,⟨Z,Z,Z,Z,Z,Z,Y⟩,trivial⟩
 refine⟨?_,trivial⟩;have z0:bw (um t l) 0 l.length=0:=bR fun k _ hk=>hi.2 k (by omega);rw[z0];rfl
theorem Ar(t:List bG)(x:DP)(hto:Gq t)(hxo:Gy x):ai C 24 [.pv (.sl (t.map vU)),.pv (.ag (S9 x))] (.p (i64 (jf t x))) []:=by
 refine fW hC Tryz.func24 rfl (by kernel_rfl) fun _=>?_;have lm:=an x.nets Uh;obtain⟨⟨ZP,Hf⟩,hn1,hn2⟩:=hxo;refine⟨_,_,(yX t hto),iW ?_ ?_⟩<;>intro N
 ·have N:ep t≠0:=by simpa using N
  refine⟨?_,trivial⟩;rw[jf,fM rfl N]
 have N:ep t=0:=by simpa using N
 have ht:=Cc N;rw[jf,mr N];refine⟨_,_,(y_ t x.parts ht ZP Hf),iW ?_ ?_⟩<;>intro O
 ·have O:iI t x.parts≠0:=by simpa using O
  refine⟨?_,trivial⟩;rw[fM rfl O]
 have O:iI t x.parts=0:=by simpa using O
 have hp:=Cd O;rw[mr O];apply iW<;>intro g3
 ·refine⟨?_,trivial⟩;rw[y9,ae (by omega)];rfl
 rw[y9,aa (by omega)];refine aP (fun p:Nat×List (Value×PV)=>p.1<=x.nets.length/\(∀k,k<p.1->OC t x k=0)/\nG p.2/\∀q:sy,gz p.2 (vI q)=if gN (x.nets.take p.1) q=true then some (bool true) else none) (fun p=>[(2,.p (.ip [.sl (t.map vU)])),(3,.p (.ip (S9 x))),(7,.ow 27),(29,.p (.sl (x.nets.map Uh))),(30,.p (i64 x.nets.length)),(31,.p (i64 p.1))]) (fun p=>[(27,.map (.st [0,0]) p.2)]) (fun p=>x.nets.length-p.1) (0,[]) _ (aA.trans (aA.iT hC _ 2 (y:=.ip [.sl (t.map vU)]) (fz:=[(2,.nd [.sl (t.map vU)])]) ⟨rfl,rfl⟩) (aA.iT hC _ 3 (y:=.ip (S9 x)) (fz:=[(3,.nd (S9 x))]) ⟨rfl,rfl⟩)) ⟨ak _,fun k h=>by simp only at h;omega,fun e he=>(by cases he),fun q=>rfl⟩ ⟨rfl,rfl,rfl,rfl,af (fun n:Nat=>AV.p (i64 n)) lm,Z,Y⟩ ⟨Z,Y⟩ fun ⟨i,es⟩ hi tt h=>?_;obtain⟨q1,U,W,q4⟩:=hi;simp only at q1 U W q4;apply iW<;>intro h1<;>try simp only[zB]at h1
 ·obtain⟨n,V⟩:=ao (l:=x.nets) (i:=i) (by omega);have D:OC t x i=(if si n.name=true then (if n.pins.length=0 then 9 else xr (fN t x.parts (gN (x.nets.take i)) n.pins) (if 0<n.ports.length then 3 else if cg (x.nets.map Net.name) i=true then 8 else 0)) else 5):=by simp only[OC,V]
  obtain⟨so,sp,sq⟩:=hn2 n (aj V);have lp:=an n.pins Gm;have lq:=an n.ports fun s=>[str s];have I:∀{c:Int},OC t x i=c->c≠0->bw (OC t x) 0 x.nets.length=c:=fun e h0=>aM U (by omega) e h0;refine⟨(Uh n),(idx rfl V),_,_,(kM n.name so),iW ?_ ?_⟩<;>intro a1
  ·refine⟨?_,trivial⟩;rw[aa (by simp[a1])]at D;rw[I D (by decide)];rfl
  rw[ae (by simpa using a1)]at D;apply iW<;>intro a2
  ·have a2:(((n.pins.map Gm).length:Nat):Int)=0:=a2;refine⟨?_,trivial⟩;rw[ae (by omega)]at D;rw[I D (by decide)];rfl
  have a2:¬(((n.pins.map Gm).length:Nat):Int)=0:=a2;rw[aa (by omega)]at D;refine⟨_,_,(vJ t x n.pins es (gN (x.nets.take i)) ht hp W q4 (by omega)),iW ?_ ?_⟩<;>intro J
  ·have J:fN t x.parts (gN (x.nets.take i)) n.pins≠0:=by simpa using J
   refine⟨?_,trivial⟩;rw[fM rfl J]at D;rw[I D J]
  have J:fN t x.parts (gN (x.nets.take i)) n.pins=0:=by simpa using J
  rw[mr J]at D;apply iW<;>intro a4
  ·refine⟨?_,trivial⟩;rw[ae (by omega)]at D;rw[I D (by decide)];rfl
  rw[aa (by omega)]at D;have keys:nG (if fN t x.parts (gN (x.nets.take i)) n.pins=0 then mP es n.pins else es):=by rw[ae J];exact z7 _ W
  have ZY:∀q:sy,gz (if fN t x.parts (gN (x.nets.take i)) n.pins=0 then mP es n.pins else es) (vI q)=if gN (x.nets.take (i+1)) q=true then some (bool true) else none:=fun q=>by
   rw[ae J,IU q _ W,q4 q,bq V];have e:gN (x.nets.take i++[n]) q=(gN (x.nets.take i) q||n.pins.any fun p=>decide (p=q)):=by simp[gN]
   rw[e];cases (n.pins.any fun p=>decide (p=q))<;>cases gN (x.nets.take i) q<;>rfl
  apply iW<;>intro o1<;>try simp only[zB]at o1
  ·obtain⟨z,hz⟩:=ao (l:=x.nets) (i:=i-1) (by omega);rw[kR (f:=Net.name) V hz (by omega)]at D;refine⟨wO (by omega),(Uh z),(idx (show (i:Int)-1=((i-1:Nat):Int) by omega) hz),iW ?_ ?_⟩<;>intro R
   ·refine⟨?_,trivial⟩;have R:(eG (Net.name n) (Net.name z)||decide (Net.name n=Net.name z))=true:=by simpa [eG] using R
    rw[R,ae rfl]at D;rw[I D (by decide)];rfl
   have R:(eG (Net.name n) (Net.name z)||decide (Net.name n=Net.name z))=false:=by simpa [eG] using R
   rw[R,aa (by decide)]at D;exact⟨⟨by dsimp only;omega,by dsimp only;omega⟩,(i+1,if fN t x.parts (gN (x.nets.take i)) n.pins=0 then mP es n.pins else es),_,aA.refl _ _,⟨by dsimp only;omega,eQ U D,keys,ZY⟩,by dsimp only;omega,⟨Z,Z,Z,Z,Z,Z,Y⟩,⟨Z,Y⟩⟩
  rw[pV (by omega),aa (by decide)]at D;exact⟨⟨by dsimp only;omega,by dsimp only;omega⟩,(i+1,if fN t x.parts (gN (x.nets.take i)) n.pins=0 then mP es n.pins else es),_,aA.refl _ _,⟨by dsimp only;omega,eQ U D,keys,ZY⟩,by dsimp only;omega,⟨Z,Z,Z,Z,Z,Z,Y⟩,⟨Z,Y⟩⟩
 refine⟨?_,trivial⟩;rw[bR fun k _ hk=>U k (by omega)];rfl
structure pY where
 pin:ByteArray
 x:Int
 y:Int
structure nH where
 type:ByteArray
 spots:List pY
structure u_ where
 x:Int
 y:Int
 size:Int
 lo:Int
 hi:Int
 plated:Bool
structure Order where
 types:List bG
 list:DP
 mats:List fy
 stack:List Lay
 plots:List cy
 outline:cy
 bores:List u_
 bodies:List Body
 places:List Place
 feet:List nH
 rules:u6
def rJ(s:pY):List PV:=[str s.pin,i64 s.x,i64 s.y]
def OD(f:nH):List PV:=[str f.type,.sl (f.spots.map rJ)]
def vK(b:u_):List PV:=[i64 b.x,i64 b.y,i64 b.size,i64 b.lo,i64 b.hi,bool b.plated]
def A8(o:Order):List PV:=[.sl (o.types.map vU),.sl (o.list.parts.map yV),.sl (o.list.nets.map Uh),.sl (o.mats.map vV),.sl (o.stack.map yq),.sl (o.plots.map fun p=>dE p),i64 o.outline.unit,.sl (o.outline.tools.map zU),.sl o.outline.steps.rows,.sl (o.bores.map vK),.sl (o.bodies.map DO),.sl (o.places.map EG),.sl (o.feet.map OD),i64 o.rules.clearance,i64 o.rules.width,i64 o.rules.ring,i64 o.rules.edge,i64 o.rules.holeGap,.sl (o.rules.classes.map kl),.sl (o.rules.areas.map arr)]
structure gP(o:Order):Prop where
 types:Gq o.types
 list:Gy o.list
 mats:y7 o.mats
 stack:xy o.stack
 plots:o.plots.length<=1048576/\∀p∈o.plots,pW p
 outline:pW o.outline
 bores:o.bores.length<=1048576
 bodies:Co o.bodies
 places:IT o.places
 feet:o.feet.length<=1048576/\∀f∈o.feet,bK f.type/\f.spots.length<=1048576/\∀s∈f.spots,bK s.pin
 rules:xj o.rules
theorem IV{t:List bG}(h:ep t=0):∀x∈t,¬x.name=bC:=fun x I e=>by
 unfold ep at h;split at h
 ·cases h
 obtain⟨k,hk⟩:=ca.1 I;have D:=cP h k (ak _) (by rw[bp];exact (az.1 hk).1);simp only[nD,hk]at D;have z:=(dp D).1;rw[zT,e]at z;have J:gV bC=false:=by decide
 rw[J]at z;cases z
def MP(t:List bG)(x:ByteArray):List eV:=match IP bG.name t x with
 | some y=>y.pins
 | none=>[]
def nI(pins:List eV)(l:List pY)(k:Nat):Int:=match l[k]? with
 | some x=>if dX eV.name pins x.pin=true then (if gT x.x (-100000) 100000=true then (if gT x.y (-100000) 100000=true then (if cg (l.map pY.pin) k=true then 8 else 0) else 1) else 1) else 9
 | none=>0
def kT(t:List bG)(l:List nH)(i:Nat):Int:=match l[i]? with
 | some f=>if dX bG.name t f.type=true then (if 200<f.spots.length then 2 else xr (bw (nI (MP t f.type) f.spots) 0 f.spots.length) (if cg (l.map nH.type) i=true then 8 else 0)) else 9
 | none=>0
def gq(t:List bG)(l:List nH):Int:=if 200<l.length then 2 else bw (kT t l) 0 l.length
def fo(s:List Lay):Nat:=(s.filter fun l=>!decide (l.name=bC)).length
theorem Lb{i:Nat}{l:Lay}(h:s[i]?=some l):fo (s.take (i+1))=fo (s.take i)+(if l.name=bC then 0 else 1):=by
 unfold fo;rw[bq h,l_,bJ];congr 1;by_cases e:l.name=bC<;>simp[e]
theorem s5(s:List Lay):fo s<=s.length:=kJ _ _
def Xi(l:List UInt8):ByteArray:=⟨l.toArray⟩
theorem Cp(n:Int)(h:-9223372036854775808<=n/\n<=9223372036854775807):ai C 15 [.pv (i64 n)] (.p (str (Xi (Lib.itoa n)))) []:=
 tO [.int .i64 n] (.string (Xi (Lib.itoa n))) ⟨_,Tryz.func15,by decide,rfl⟩ fun S w z hS=>by
  refine (Tryz.strconv_Itoa n h.1 h.2 w z.2.2.2).mono ?_;rintro e w' ⟨rfl,k,os,rfl⟩;exact⟨rfl,Lib.below_grow _ _ (aG _) k os⟩
def Lc(s:ByteArray)(f:Int):List PV:=if f=0 then [i64 0,str bC] else [i64 f,str s]
theorem eC(s:ByteArray)(f:Int):ai C 14 [.pv (str s),.pv (i64 f)] (.p (.ag (Lc s f))) []:=by
 refine fW hC Tryz.func14 rfl (by kernel_rfl) fun _=>?_;apply iW<;>intro h
 ·refine⟨?_,trivial⟩;rw[Lc,ae h];rfl
 refine⟨?_,trivial⟩;rw[Lc,aa h];rfl
theorem my(f:Int)(s:ByteArray):ai C 7 [.pv (.ag [i64 f,str s])] (.p (bool (!decide (f=0)))) []:=by
 refine fW hC Tryz.func7 rfl (by kernel_rfl) fun _=>?_;refine⟨?_,trivial⟩;rfl
theorem pZ(o:Order)(hN:o.stack.length<=1048576):ai C 19 [.pv (.ag (A8 o))] (.p (i64 (fo o.stack))) []:=by
 refine fW hC Tryz.func19 rfl (by kernel_rfl) fun _=>?_;have J:=an o.stack yq;refine aP (fun i:Nat=>i<=o.stack.length) (fun i=>[(3,.p (i64 (fo (o.stack.take i)))),(7,.p (.sl (o.stack.map yq))),(8,.p (i64 o.stack.length)),(9,.p (i64 i))]) (fun _=>[]) (fun i=>o.stack.length-i) 0 _ (aA.refl _ _) (ak _) ⟨rfl,rfl,af (fun n:Nat=>AV.p (i64 n)) J,Z,Y⟩ trivial fun i hi t h=>?_;have I:=s5 (o.stack.take i);rw[cE]at I;apply iW<;>intro h1
 ·obtain⟨l,hl⟩:=ao (l:=o.stack) (i:=i) (by omega);have D:=Lb hl;refine⟨(yq l),(idx rfl hl),iW ?_ ?_⟩<;>intro z
  ·have z:¬l.name=bC:=z;rw[aa z]at D;exact⟨wO (by omega),wO (by omega),(i+1),_,aA.refl _ _,by omega,by omega,⟨bI (by rw[D];rfl),Z,Z,Z,Y⟩,trivial⟩
  have z:l.name=bC:=by simpa [bC] using z
  rw[ae z]at D;exact⟨wO (by omega),(i+1),_,aA.refl _ _,by omega,by omega,⟨bI (by rw[D];rfl),Z,Z,Z,Y⟩,trivial⟩
 have e:o.stack.take i=o.stack:=cK (by omega);refine⟨?_,trivial⟩;rw[e]
theorem As(o:Order)(ho:gP o)(ht:ep o.types=0):ai C 28 [.pv (.ag (A8 o))] (.p (i64 (gq o.types o.feet))) []:=by
 refine fW hC Tryz.func28 rfl (by kernel_rfl) fun _=>?_;have lm:=an o.feet OD;have tg:=Cc ht;have tn:=IV ht;have tl:=tg.len;obtain⟨hf1,hf2⟩:=ho.feet;apply iW<;>intro g1
 ·refine⟨?_,trivial⟩;rw[gq,ae (by omega)];rfl
 rw[gq,aa (by omega)];refine aP (fun i:Nat=>i<=o.feet.length/\∀k,k<i->kT o.types o.feet k=0) (fun i=>[(1,.bx 1 0),(13,.p (.sl (o.feet.map OD))),(14,.p (i64 o.feet.length)),(15,.p (i64 i))]) (fun _=>[(1,.box ((A8 o).map .p))]) (fun i=>o.feet.length-i) 0 _ (aA.refl _ _) ⟨ak _,fun k h=>by omega⟩ ⟨rfl,rfl,af (fun n:Nat=>AV.p (i64 n)) lm,Z,Y⟩ ⟨Z,Y⟩ fun i hi t h=>?_;apply iW<;>intro h1
 ·obtain⟨f,hx⟩:=ao (l:=o.feet) (i:=i) (by omega);have D:kT o.types o.feet i=(if dX bG.name o.types f.type=true then (if 200<f.spots.length then 2 else xr (bw (nI (MP o.types f.type) f.spots) 0 f.spots.length) (if cg (o.feet.map nH.type) i=true then 8 else 0)) else 9):=by simp only[kT,hx]
  obtain⟨so,sl,sp⟩:=hf2 f (aj hx);have ls:=an f.spots rJ;have J:∀{c:Int},kT o.types o.feet i=c->c≠0->bw (kT o.types o.feet) 0 o.feet.length=c:=fun e I=>aM hi.2 (by omega) e I;have U:=oz (f:=bG.name) (l:=o.types) (x:=f.type);refine⟨(OD f),(idx rfl hx),_,_,(rE o.types f.type tg.ord (by omega)),iW ?_ ?_⟩<;>intro a1
  ·rw[jS a1]at U;rw[aa (fun e=>by rw[e]at U;cases U)]at D;refine⟨?_,trivial⟩;rw[J D (by decide)];rfl
  rw[aY a1]at U;have hk:dX bG.name o.types f.type=true:=by simpa using U
  obtain⟨m,y,e1,e2,e3,e4⟩:=nV hk;have MQ:MP o.types f.type=y.pins:=by rw[MP,e4]
  have hyp:=tg.pins y (aj e2);rw[ae hk,MQ]at D;apply iW<;>intro a2
  ·refine⟨?_,trivial⟩;rw[ae (by omega)]at D;rw[J D (by decide)];rfl
  rw[aa (by omega)]at D;have acR:∀{c:Int},bw (nI y.pins f.spots) 0 f.spots.length=c->c≠0->bw (kT o.types o.feet) 0 o.feet.length=c:=fun e I=>J (D.trans (fM e I)) I;refine aP (fun j:Nat=>j<=f.spots.length/\∀k,k<j->nI y.pins f.spots k=0) (fun j=>[(1,.bx 1 0),(13,.p (.sl (o.feet.map OD))),(14,.p (i64 o.feet.length)),(15,.p (i64 i)),(3,.p (i64 i)),(4,.bx 4 0),(5,.p (i64 (jE bG.name o.types f.type))),(32,.p (.sl (f.spots.map rJ))),(33,.p (i64 f.spots.length)),(34,.p (i64 j))]) (fun _=>[(1,.box ((A8 o).map .p)),(4,.box ((OD f).map .p))]) (fun j=>f.spots.length-j) 0 _ (aA.refl _ _) ⟨ak _,fun k h=>by omega⟩ ⟨rfl,rfl,rfl,rfl,rfl,rfl,rfl,rfl,af (fun n:Nat=>AV.p (i64 n)) ls,Z,Y⟩ ⟨Z,Z,Y⟩ fun j hj t h=>?_;apply iW<;>intro h2
  ·obtain⟨x,N⟩:=ao (l:=f.spots) (i:=j) (by omega);have df:nI y.pins f.spots j=(if dX eV.name y.pins x.pin=true then (if gT x.x (-100000) 100000=true then (if gT x.y (-100000) 100000=true then (if cg (f.spots.map pY.pin) j=true then 8 else 0) else 1) else 1) else 9):=by simp only[nI,N]
   have Un:∀{c:Int},nI y.pins f.spots j=c->c≠0->bw (kT o.types o.feet) 0 o.feet.length=c:=fun e I=>acR (aM hj.2 (by omega) e I) I;refine⟨(rJ x),(idx rfl N),(vU y),(idx e1 e2),_,_,(zS y x.pin hyp.1 (by omega)),?_⟩;have V:=oz (f:=eV.name) (l:=y.pins) (x:=x.pin);apply iW<;>intro b1
   ·rw[jS b1]at V;rw[aa (fun e=>by rw[e]at V;cases V)]at df;refine⟨?_,trivial⟩;rw[Un df (by decide)];rfl
   rw[aY b1]at V;rw[ae (by simpa using V)]at df;refine⟨_,_,(jc x.x (-100000) 100000),iW ?_ ?_⟩<;>intro b2
   ·rw[aa (by simp[b2])]at df;refine⟨?_,trivial⟩;rw[Un df (by decide)];rfl
   rw[ae (by simpa using b2)]at df;refine⟨_,_,(jc x.y (-100000) 100000),iW ?_ ?_⟩<;>intro b3
   ·rw[aa (by simp[b3])]at df;refine⟨?_,trivial⟩;rw[Un df (by decide)];rfl
   rw[ae (by simpa using b3)]at df;apply iW<;>intro p1
   ·obtain⟨z,W⟩:=ao (l:=f.spots) (i:=j-1) (by omega);rw[kR (f:=pY.pin) N W (by omega)]at df;refine⟨wO (by omega),(rJ z),(idx (show (j:Int)-1=((j-1:Nat):Int) by omega) W),iW ?_ ?_⟩<;>intro O
    ·refine⟨?_,trivial⟩;have O:(eG (pY.pin x) (pY.pin z)||decide (pY.pin x=pY.pin z))=true:=by simpa [eG] using O
     rw[O,ae rfl]at df;rw[Un df (by decide)];rfl
    have O:(eG (pY.pin x) (pY.pin z)||decide (pY.pin x=pY.pin z))=false:=by simpa [eG] using O
    rw[O,aa (by decide)]at df;exact⟨wO (by omega),(j+1),_,aA.refl _ _,⟨by omega,eQ hj.2 df⟩,by omega,⟨Z,Z,Z,Z,Z,Z,Z,Z,Z,Z,Y⟩,⟨Z,Z,Y⟩⟩
   rw[pV (by omega),aa (by decide)]at df;exact⟨wO (by omega),(j+1),_,aA.refl _ _,⟨by omega,eQ hj.2 df⟩,by omega,⟨Z,Z,Z,Z,Z,Z,Z,Z,Z,Z,Y⟩,⟨Z,Z,Y⟩⟩
  have z1:=bR (f:=nI y.pins f.spots) (n:=f.spots.length) (i:=0) fun k _ hk=>hj.2 k (by omega);rw[mr z1]at D;apply iW<;>intro o1
  ·obtain⟨z,W⟩:=ao (l:=o.feet) (i:=i-1) (by omega);rw[kR (f:=nH.type) hx W (by omega)]at D;refine⟨wO (by omega),(OD z),(idx (show (i:Int)-1=((i-1:Nat):Int) by omega) W),iW ?_ ?_⟩<;>intro R
   ·refine⟨?_,trivial⟩;have R:(eG (nH.type f) (nH.type z)||decide (nH.type f=nH.type z))=true:=by simpa [eG] using R
    rw[R,ae rfl]at D;rw[aM hi.2 (by omega) D (by decide)];rfl
   have R:(eG (nH.type f) (nH.type z)||decide (nH.type f=nH.type z))=false:=by simpa [eG] using R
   rw[R,aa (by decide)]at D;exact⟨wO (by omega),(i+1),_,aA.refl _ _,⟨by omega,eQ hi.2 D⟩,by omega,⟨Z,Z,Z,Z,Y⟩,⟨Z,Y⟩⟩
  have I:i=0:=by omega
  rw[pV I,aa (by decide)]at D;exact⟨wO (by omega),(i+1),_,aA.refl _ _,⟨by omega,eQ hi.2 D⟩,by omega,⟨Z,Z,Z,Z,Y⟩,⟨Z,Y⟩⟩
 refine⟨?_,trivial⟩;have z0:bw (kT o.types o.feet) 0 o.feet.length=0:=bR fun k _ hk=>hi.2 k (by omega);rw[z0];rfl
end M
end Go.Proofs.YtihgjolmpjjblaaGreatDoor
