/- Part 8 of the proof of HouseDrillingMatchesSpec. -/
import Derived.Test.YtnpkopkpbgflnaaGreatDoorG07
set_option linter.unusedVariables false
set_option linter.unusedSimpArgs false
set_option maxRecDepth 100000
set_option maxHeartbeats 8000000
namespace Go
abbrev sL:=@Go.Proofs.Tryz.func239
abbrev ot:=@Go.Proofs.Tryz.func370
abbrev bN:=@List.length_pos_iff
abbrev Eu:=@Int.mul_le_mul
abbrev jm:=@Int.add_zero
abbrev kY:=@List.range_succ
end Go
namespace Go.Proofs.YtnpkopkpbgflnaaGreatDoor
namespace M
open Go.AM Go.RowKit Go.Lib
open Reg (aZ cR gQ)
def dk(k:Int):Bool:=decide (k=4)||(decide (k=5)||(decide (k=6)||decide (k=8)))
def lX(k:Int):List PV:=[bool (decide (k=3)),bool (dk k),bool (decide (k=7)),bool (decide (k=8))]
def aq(s:iZ)(n:Nat):Bool:=(!decide (s.kind=3)&&!decide (s.name=ar))||(!dk s.kind&&!(decide (s.x=0)&&decide (s.y=0)))||(!decide (s.kind=7)&&decide (0<s.pts.length))||(!decide (s.kind=8)&&!(decide (s.nx=0)&&decide (s.ny=0)&&decide (n=0)))
def ij(p:ic)(s:iZ)(n:Nat)(d:Int):Int:=
 if dR s.kind 1 8=true then
  if aq s n=true then 3 else
  if s.kind=3/\ee dw.name p.tools s.name<0 then 5 else
  if jD (s.x,s.y) p.unit=true then
   if (s.pts.any fun q=>!jD q p.unit)=true then 1 else
   if 2000<s.pts.length then 2 else
   if s.kind=7/\BO s.pts=false then 3 else
   if s.kind=8 then (if dR s.nx 1 100=true then (if dR s.ny 1 100=true then (if n=0 then 9 else if 5<=d then 2 else 0) else 1) else 1) else 0
  else 1
 else 4
structure oW(p:ic):Prop where
 unit:1<=p.unit/\p.unit<=1000
 tools:p.tools.length<=1048576
def p_(s:iZ):Prop:=bE s.name/\s.pts.length<=1048576
variable {s:iZ}
theorem JC{n:Nat}(h:aq s n=false)(hk:¬s.kind=7):s.pts=[]:=by
 simp only[aq,gV]at h;have d:=h.1.2;rw[aL hk]at d;simp at d;exact d
theorem Py{n:Nat}(h:aq s n=false)(hk:¬s.kind=8):n=0:=by
 simp only[aq,gV]at h;have d:=h.2;rw[aL hk]at d;simp at d;exact d.2
theorem Gj{p:ic}{n:Nat}{d:Int}(h:ij p s n d=0):n=0\/d<5:=by
 by_cases hk:s.kind=8
 ·by_cases u:d<5
  ·exact .inr u
  unfold ij at h
  repeat' split at h
  all_goals first
   | (cases h;done)
   | (exact .inl (by assumption))
   | (exfalso;omega)
 refine .inl ?_;unfold ij at h;split at h
 ·split at h
  ·cases h
  rename_i hb;exact Py (by simpa using hb) hk
 cases h
theorem i_(k:Int):af C 349 [.pv (i64 k)] (.p (.ag (lX k))) []:=by
 refine fW hC Tryz.func349 rfl (by kernel_rfl) fun _=>?_
 repeat' apply iW<;>intro h
 all_goals refine⟨?_,trivial⟩
 all_goals (simp[lX,dk,bool, *]<;>first | rfl | omega)
theorem NB(t:dw)(x:ByteArray):af C 424 [.pv (.ag (BN t)),.pv (.ip [str x])] (.p (bool (decide (t.name=x)))) []:=by
 refine fW hC Tryz.func424 rfl (by kernel_rfl) fun _=>?_;refine⟨?_,trivial⟩;rfl
theorem R5(q:Int×Int)(p:ic)(d:1<=p.unit/\p.unit<=1000):af C 353 [.pv (.ag (sp q)),.pv (.ip (di p))] (.p (bool (!jD q p.unit))) []:=by
 refine fW hC Tryz.func353 rfl (by kernel_rfl) fun _=>?_;refine⟨_,_,(iG q p.unit d),?_,trivial⟩;rfl
theorem Ih(l:List dw)(hN:l.length<=140737488355328)(x:ByteArray):af C 423 [.pv (.sl (l.map BN)),.pv (.fn 424 [.ip [str x]])] (.p (i64 (fy (fun z:dw=>decide (z.name=x)) l 0))) []:=by
 refine fW hC Tryz.func423 rfl (by kernel_rfl) fun _=>?_;have D:=ak l BN;refine ax (fun i:Nat=>i<=l.length/\∀z∈l.take i,(fun z:dw=>decide (z.name=x)) z=false) (fun i=>[(0,.p (.sl (l.map BN))),(1,.p (.fn 424 [.ip [str x]])),(7,.p (i64 (l.map BN).length)),(8,.p (i64 i))]) (fun _=>[]) (fun i=>l.length-i) 0 _ (au.refl _ _) ⟨ai _,by simp⟩ ⟨Z,Z,Z,Z,Y⟩ trivial fun i hi t h=>?_;apply iW<;>intro I
 ·rw[D]at I;obtain⟨r,u⟩:=aj (l:=l) (i:=i) (by omega);refine⟨(BN r),(idx rfl u),_,_,(NB r x),iW ?_ ?_⟩<;>intro d
  ·refine⟨?_,trivial⟩;rw[cX (p:=fun z:dw=>decide (z.name=x)) u (by simpa using d) hi.2,aY]
  exact⟨wO (by omega),(i+1),_,au.refl _ _,⟨by omega,cN (p:=fun z:dw=>decide (z.name=x)) u (by simpa using d) hi.2⟩,by omega,⟨Z,Z,Z,Z,Y⟩,trivial⟩
 rw[D]at I;refine⟨?_,trivial⟩;have d:=hi.2;rw[aW (by omega)]at d;rw[bW (p:=fun z:dw=>decide (z.name=x)) d];rfl
theorem NC(l:List (Int×Int))(hN:l.length<=140737488355328)(p:ic)(J:1<=p.unit/\p.unit<=1000):af C 425 [.pv (.sl (l.map sp)),.pv (.fn 353 [.ip (di p)])] (.p (i64 (fy (fun q:Int×Int=>!jD q p.unit) l 0))) []:=by
 refine fW hC Tryz.func425 rfl (by kernel_rfl) fun _=>?_;have D:=ak l sp;refine ax (fun i:Nat=>i<=l.length/\∀z∈l.take i,(fun q:Int×Int=>!jD q p.unit) z=false) (fun i=>[(0,.p (.sl (l.map sp))),(1,.p (.fn 353 [.ip (di p)])),(7,.p (i64 (l.map sp).length)),(8,.p (i64 i))]) (fun _=>[]) (fun i=>l.length-i) 0 _ (au.refl _ _) ⟨ai _,by simp⟩ ⟨Z,Z,Z,Z,Y⟩ trivial fun i hi t h=>?_;apply iW<;>intro I
 ·rw[D]at I;obtain⟨r,u⟩:=aj (l:=l) (i:=i) (by omega);refine⟨(sp r),(idx rfl u),_,_,(R5 r p J),iW ?_ ?_⟩<;>intro d
  ·refine⟨?_,trivial⟩;rw[cX (p:=fun q:Int×Int=>!jD q p.unit) u (by simpa using d) hi.2,aY]
  exact⟨wO (by omega),(i+1),_,au.refl _ _,⟨by omega,cN (p:=fun q:Int×Int=>!jD q p.unit) u (by simpa using d) hi.2⟩,by omega,⟨Z,Z,Z,Z,Y⟩,trivial⟩
 rw[D]at I;refine⟨?_,trivial⟩;have d:=hi.2;rw[aW (by omega)]at d;rw[bW (p:=fun q:Int×Int=>!jD q p.unit) d];rfl
theorem lG(l:List (Int×Int))(d:l.length<=140737488355328)(p:ic)(u:1<=p.unit/\p.unit<=1000):af C 352 [.pv (.sl (l.map sp)),.pv (.fn 353 [.ip (di p)])] (.p (bool (l.any fun q=>!jD q p.unit))) []:=by
 refine fW hC Tryz.func352 rfl (by kernel_rfl) fun _=>?_;refine⟨_,_,(NC l d p u),?_,trivial⟩;rw[<-ib _ l 0];rfl
theorem Gk(p:ic)(x:ByteArray)(d:p.tools.length<=140737488355328):af C 350 [.pv (.ag (di p)),.pv (str x)] (.p (i64 (ee dw.name p.tools x))) []:=by
 refine fW hC Tryz.func350 rfl (by kernel_rfl) fun _=>?_;refine⟨_,_,(Ih p.tools d x),?_,trivial⟩;rfl
theorem K6(p:ic)(x:ByteArray)(hN:p.tools.length<=140737488355328):af C 371 [.pv (.ag (di p)),.pv (str x)] (.p (i64 (ee dw.name p.tools x))) []:=by
 refine fW hC Tryz.func371 rfl (by kernel_rfl) fun _=>?_;have D:=ak p.tools BN;refine ax (fun i:Nat=>i<=p.tools.length/\∀z∈p.tools.take i,decide (z.name=x)=false) (fun i=>[(1,.p (str x)),(2,.bx 2 0),(5,.p (i64 i))]) (fun _=>[(2,.box ((di p).map .p))]) (fun i=>p.tools.length-i) 0 _ (au.refl _ _) ⟨ai _,by simp⟩ ⟨Z,Z,Z,Y⟩ ⟨Z,Y⟩ fun i hi t h=>?_;apply iW<;>intro I
 ·rw[D]at I;obtain⟨r,u⟩:=aj (l:=p.tools) (i:=i) (by omega);refine⟨(BN r),(idx rfl u),iW ?_ ?_⟩<;>intro d
  ·refine⟨?_,trivial⟩;rw[ee,cX (p:=fun y=>decide (dw.name y=x)) u (aP d) hi.2,aY]
  exact⟨wO (by omega),(i+1),_,au.refl _ _,⟨by omega,cN (p:=fun y=>decide (dw.name y=x)) u (aL d) hi.2⟩,by omega,⟨Z,Z,Z,Y⟩,⟨Z,Y⟩⟩
 rw[D]at I;refine⟨?_,trivial⟩;have d:=hi.2;rw[aW (by omega)]at d;rw[ee,bW (p:=fun y=>decide (dw.name y=x)) d];rfl
theorem BP(p:ic)(s:iZ)(sub:List (List PV))(d:Int)(hp:oW p)(so:p_ s)(hk:s.kind=1\/s.kind=2)(hn:sub.length<=1048576):af C 239 [.pv (.ag (di p)),.pv (.ag (pg s sub)),.pv (i64 d)] (.p (i64 (ij p s sub.length d))) []:=by
 refine fW hC sL rfl (by kernel_rfl) fun _=>?_;have lm:=ak s.pts sp;have R6:=so.2;have N:dR s.kind 1 8=true:=dB.2 (by omega);have O:decide (s.kind=3)=false:=by simp;try omega
 have R:dk s.kind=false:=by simp[dk];try omega
 have U:decide (s.kind=7)=false:=by simp;try omega
 have V:decide (s.kind=8)=false:=by simp;try omega
 have W:=i_ s.kind;rw[show lX s.kind=[bool false,bool false,bool false,bool false] by rw[lX,O,R,U,V]]at W;have u:aq s sub.length=((!false&&!decide (s.name=ar))||(!false&&!(decide (s.x=0)&&decide (s.y=0)))||(!false&&decide (0<s.pts.length))||(!false&&!(decide (s.nx=0)&&decide (s.ny=0)&&decide (sub.length=0)))):=by rw[aq,O,R,U,V]
 rw[ij,ae N];have Y:=ey s.kind 1 8;rw[N]at Y;refine⟨_,_,Y,_,_,W,iW ?_ ?_⟩<;>intro D
 ·have D:¬s.name=ar:=D
  repeat' apply iW<;>intro w
  all_goals skip
  all_goals first
   | (
     refine⟨?_,trivial⟩;rw[u,ae (by simp[D])];rfl)
   | (exfalso;first | contradiction | omega | (simp_all;done))
 have D:s.name=ar:=by simpa [ar] using D
 apply iW<;>intro z<;>try simp only[zB]at z
 ·skip
  repeat' apply iW<;>intro w<;>try simp only[zB]at w
  all_goals skip
  all_goals first
   | (
     refine⟨?_,trivial⟩;rw[u,ae (by simp at z;by_cases hx:s.x=0<;>by_cases hy:s.y=0<;>simp_all)];rfl)
   | (exfalso;first | contradiction | omega | (simp_all;done))
 have z:s.x=0/\s.y=0:=by simpa using z
 obtain⟨z,UO⟩:=z;apply iW<;>intro f3
 ·skip
  repeat' apply iW<;>intro w
  all_goals skip
  all_goals first
   | (
     refine⟨?_,trivial⟩;rw[u,ae (by rw[aP (by omega:0<s.pts.length)];simp)];rfl)
   | (exfalso;first | contradiction | omega | (simp_all;done))
 have f3:s.pts.length=0:=by omega
 apply iW<;>intro I
 ·have I:¬s.nx=0:=I
  repeat' apply iW<;>intro w
  all_goals skip
  all_goals first
   | (
     refine⟨?_,trivial⟩;rw[u,ae (by simp[I])];rfl)
   | (exfalso;first | contradiction | omega | (simp_all;done))
 have I:s.nx=0:=by simpa using I
 apply iW<;>intro J
 ·have J:¬s.ny=0:=J
  repeat' apply iW<;>intro w
  all_goals skip
  all_goals first
   | (
     refine⟨?_,trivial⟩;rw[u,ae (by simp[J])];rfl)
   | (exfalso;first | contradiction | omega | (simp_all;done))
 have J:s.ny=0:=by simpa using J
 apply iW<;>intro Z
 ·skip
  repeat' apply iW<;>intro w
  all_goals skip
  all_goals first
   | (
     refine⟨?_,trivial⟩;rw[u,ae (by rw[aL (by omega:¬sub.length=0)];simp)];rfl)
   | (exfalso;first | contradiction | omega | (simp_all;done))
 have Z:sub.length=0:=by omega
 have xq:aq s sub.length=false:=by rw[u];simp[D,z,UO,f3,I,J,Z]
 rw[xq,aa (by decide)];rw[aa (fun e=>by omega)];refine⟨_,_,(iG (s.x,s.y) p.unit hp.unit),iW ?_ ?_⟩<;>intro g2
 ·refine⟨?_,trivial⟩;rw[aa (by simp[g2])];rfl
 rw[ae (by simpa using g2)];refine⟨_,_,(lG s.pts (by omega) p hp.unit),iW ?_ ?_⟩<;>intro g3
 ·refine⟨?_,trivial⟩;rw[ae g3];rfl
 rw[aa (by simp[g3])];apply iW<;>intro g4
 ·refine⟨?_,trivial⟩;rw[ae (by omega)];rfl
 rw[aa (by omega)];rw[aa (fun e=>by omega)];rw[aa (by omega)];refine⟨?_,trivial⟩;rfl
theorem Ev(p:ic)(s:iZ)(sub:List (List PV))(d:Int)(hp:oW p)(so:p_ s)(hk:s.kind=3)(hn:sub.length<=1048576):af C 239 [.pv (.ag (di p)),.pv (.ag (pg s sub)),.pv (i64 d)] (.p (i64 (ij p s sub.length d))) []:=by
 refine fW hC sL rfl (by kernel_rfl) fun _=>?_;have lm:=ak s.pts sp;have R6:=so.2;have J:dR s.kind 1 8=true:=dB.2 (by omega);have N:decide (s.kind=3)=true:=by simp;try omega
 have O:dk s.kind=false:=by simp[dk];try omega
 have R:decide (s.kind=7)=false:=by simp;try omega
 have U:decide (s.kind=8)=false:=by simp;try omega
 have V:=i_ s.kind;rw[show lX s.kind=[bool true,bool false,bool false,bool false] by rw[lX,N,O,R,U]]at V;have z:aq s sub.length=((!true&&!decide (s.name=ar))||(!false&&!(decide (s.x=0)&&decide (s.y=0)))||(!false&&decide (0<s.pts.length))||(!false&&!(decide (s.nx=0)&&decide (s.ny=0)&&decide (sub.length=0)))):=by rw[aq,N,O,R,U]
 rw[ij,ae J];have W:=ey s.kind 1 8;rw[J]at W;refine⟨_,_,W,_,_,V,iW ?_ ?_⟩<;>intro u<;>try simp only[zB]at u
 ·skip
  repeat' apply iW<;>intro w<;>try simp only[zB]at w
  all_goals skip
  all_goals first
   | (
     refine⟨?_,trivial⟩;rw[z,ae (by simp at u;by_cases hx:s.x=0<;>by_cases hy:s.y=0<;>simp_all)];rfl)
   | (exfalso;first | contradiction | omega | (simp_all;done))
 have u:s.x=0/\s.y=0:=by simpa using u
 obtain⟨u,UO⟩:=u;apply iW<;>intro f3
 ·skip
  repeat' apply iW<;>intro w
  all_goals skip
  all_goals first
   | (
     refine⟨?_,trivial⟩;rw[z,ae (by rw[aP (by omega:0<s.pts.length)];simp)];rfl)
   | (exfalso;first | contradiction | omega | (simp_all;done))
 have f3:s.pts.length=0:=by omega
 apply iW<;>intro D
 ·have D:¬s.nx=0:=D
  repeat' apply iW<;>intro w
  all_goals skip
  all_goals first
   | (
     refine⟨?_,trivial⟩;rw[z,ae (by simp[D])];rfl)
   | (exfalso;first | contradiction | omega | (simp_all;done))
 have D:s.nx=0:=by simpa using D
 apply iW<;>intro I
 ·have I:¬s.ny=0:=I
  repeat' apply iW<;>intro w
  all_goals skip
  all_goals first
   | (
     refine⟨?_,trivial⟩;rw[z,ae (by simp[I])];rfl)
   | (exfalso;first | contradiction | omega | (simp_all;done))
 have I:s.ny=0:=by simpa using I
 apply iW<;>intro Y
 ·skip
  repeat' apply iW<;>intro w
  all_goals skip
  all_goals first
   | (
     refine⟨?_,trivial⟩;rw[z,ae (by rw[aL (by omega:¬sub.length=0)];simp)];rfl)
   | (exfalso;first | contradiction | omega | (simp_all;done))
 have Y:sub.length=0:=by omega
 have xq:aq s sub.length=false:=by rw[z];simp[u,UO,f3,D,I,Y]
 rw[xq,aa (by decide)];refine⟨_,_,(Gk p s.name (by have:=hp.tools;omega)),iW ?_ ?_⟩<;>intro Z
 ·refine⟨?_,trivial⟩;rw[ae ⟨hk,Z⟩];rfl
 rw[aa (fun e=>Z e.2)];refine⟨_,_,(iG (s.x,s.y) p.unit hp.unit),iW ?_ ?_⟩<;>intro g2
 ·refine⟨?_,trivial⟩;rw[aa (by simp[g2])];rfl
 rw[ae (by simpa using g2)];refine⟨_,_,(lG s.pts (by omega) p hp.unit),iW ?_ ?_⟩<;>intro g3
 ·refine⟨?_,trivial⟩;rw[ae g3];rfl
 rw[aa (by simp[g3])];apply iW<;>intro g4
 ·refine⟨?_,trivial⟩;rw[ae (by omega)];rfl
 rw[aa (by omega)];rw[aa (fun e=>by omega)];rw[aa (by omega)];refine⟨?_,trivial⟩;rfl
theorem Aq(p:ic)(s:iZ)(sub:List (List PV))(d:Int)(hp:oW p)(so:p_ s)(hk:s.kind=4\/s.kind=5\/s.kind=6)(hn:sub.length<=1048576):af C 239 [.pv (.ag (di p)),.pv (.ag (pg s sub)),.pv (i64 d)] (.p (i64 (ij p s sub.length d))) []:=by
 refine fW hC sL rfl (by kernel_rfl) fun _=>?_;have lm:=ak s.pts sp;have R6:=so.2;have J:dR s.kind 1 8=true:=dB.2 (by omega);have N:decide (s.kind=3)=false:=by simp;try omega
 have O:dk s.kind=true:=by simp[dk];try omega
 have R:decide (s.kind=7)=false:=by simp;try omega
 have U:decide (s.kind=8)=false:=by simp;try omega
 have V:=i_ s.kind;rw[show lX s.kind=[bool false,bool true,bool false,bool false] by rw[lX,N,O,R,U]]at V;have u:aq s sub.length=((!false&&!decide (s.name=ar))||(!true&&!(decide (s.x=0)&&decide (s.y=0)))||(!false&&decide (0<s.pts.length))||(!false&&!(decide (s.nx=0)&&decide (s.ny=0)&&decide (sub.length=0)))):=by rw[aq,N,O,R,U]
 rw[ij,ae J];have W:=ey s.kind 1 8;rw[J]at W;refine⟨_,_,W,_,_,V,iW ?_ ?_⟩<;>intro z
 ·have z:¬s.name=ar:=z
  repeat' apply iW<;>intro w
  all_goals skip
  all_goals first
   | (
     refine⟨?_,trivial⟩;rw[u,ae (by simp[z])];rfl)
   | (exfalso;first | contradiction | omega | (simp_all;done))
 have z:s.name=ar:=by simpa [ar] using z
 apply iW<;>intro f3
 ·skip
  repeat' apply iW<;>intro w
  all_goals skip
  all_goals first
   | (
     refine⟨?_,trivial⟩;rw[u,ae (by rw[aP (by omega:0<s.pts.length)];simp)];rfl)
   | (exfalso;first | contradiction | omega | (simp_all;done))
 have f3:s.pts.length=0:=by omega
 apply iW<;>intro D
 ·have D:¬s.nx=0:=D
  repeat' apply iW<;>intro w
  all_goals skip
  all_goals first
   | (
     refine⟨?_,trivial⟩;rw[u,ae (by simp[D])];rfl)
   | (exfalso;first | contradiction | omega | (simp_all;done))
 have D:s.nx=0:=by simpa using D
 apply iW<;>intro I
 ·have I:¬s.ny=0:=I
  repeat' apply iW<;>intro w
  all_goals skip
  all_goals first
   | (
     refine⟨?_,trivial⟩;rw[u,ae (by simp[I])];rfl)
   | (exfalso;first | contradiction | omega | (simp_all;done))
 have I:s.ny=0:=by simpa using I
 apply iW<;>intro Y
 ·skip
  repeat' apply iW<;>intro w
  all_goals skip
  all_goals first
   | (
     refine⟨?_,trivial⟩;rw[u,ae (by rw[aL (by omega:¬sub.length=0)];simp)];rfl)
   | (exfalso;first | contradiction | omega | (simp_all;done))
 have Y:sub.length=0:=by omega
 have xq:aq s sub.length=false:=by rw[u];simp[z,f3,D,I,Y]
 rw[xq,aa (by decide)];rw[aa (fun e=>by omega)];refine⟨_,_,(iG (s.x,s.y) p.unit hp.unit),iW ?_ ?_⟩<;>intro Z
 ·refine⟨?_,trivial⟩;rw[aa (by simp[Z])];rfl
 rw[ae (by simpa using Z)];refine⟨_,_,(lG s.pts (by omega) p hp.unit),iW ?_ ?_⟩<;>intro g3
 ·refine⟨?_,trivial⟩;rw[ae g3];rfl
 rw[aa (by simp[g3])];apply iW<;>intro g4
 ·refine⟨?_,trivial⟩;rw[ae (by omega)];rfl
 rw[aa (by omega)];rw[aa (fun e=>by omega)];rw[aa (by omega)];refine⟨?_,trivial⟩;rfl
theorem Ew(p:ic)(s:iZ)(sub:List (List PV))(d:Int)(hp:oW p)(so:p_ s)(hk:s.kind=7)(hn:sub.length<=1048576):af C 239 [.pv (.ag (di p)),.pv (.ag (pg s sub)),.pv (i64 d)] (.p (i64 (ij p s sub.length d))) []:=by
 refine fW hC sL rfl (by kernel_rfl) fun _=>?_;have lm:=ak s.pts sp;have R6:=so.2;have N:dR s.kind 1 8=true:=dB.2 (by omega);have O:decide (s.kind=3)=false:=by simp;try omega
 have R:dk s.kind=false:=by simp[dk];try omega
 have U:decide (s.kind=7)=true:=by simp;try omega
 have V:decide (s.kind=8)=false:=by simp;try omega
 have W:=i_ s.kind;rw[show lX s.kind=[bool false,bool false,bool true,bool false] by rw[lX,O,R,U,V]]at W;have z:aq s sub.length=((!false&&!decide (s.name=ar))||(!false&&!(decide (s.x=0)&&decide (s.y=0)))||(!true&&decide (0<s.pts.length))||(!false&&!(decide (s.nx=0)&&decide (s.ny=0)&&decide (sub.length=0)))):=by rw[aq,O,R,U,V]
 rw[ij,ae N];have Y:=ey s.kind 1 8;rw[N]at Y;refine⟨_,_,Y,_,_,W,iW ?_ ?_⟩<;>intro D
 ·have D:¬s.name=ar:=D
  repeat' apply iW<;>intro w
  all_goals skip
  all_goals first
   | (
     refine⟨?_,trivial⟩;rw[z,ae (by simp[D])];rfl)
   | (exfalso;first | contradiction | omega | (simp_all;done))
 have D:s.name=ar:=by simpa [ar] using D
 apply iW<;>intro u<;>try simp only[zB]at u
 ·skip
  repeat' apply iW<;>intro w<;>try simp only[zB]at w
  all_goals skip
  all_goals first
   | (
     refine⟨?_,trivial⟩;rw[z,ae (by simp at u;by_cases hx:s.x=0<;>by_cases hy:s.y=0<;>simp_all)];rfl)
   | (exfalso;first | contradiction | omega | (simp_all;done))
 have u:s.x=0/\s.y=0:=by simpa using u
 obtain⟨u,UO⟩:=u;apply iW<;>intro I
 ·have I:¬s.nx=0:=I
  repeat' apply iW<;>intro w
  all_goals skip
  all_goals first
   | (
     refine⟨?_,trivial⟩;rw[z,ae (by simp[I])];rfl)
   | (exfalso;first | contradiction | omega | (simp_all;done))
 have I:s.nx=0:=by simpa using I
 apply iW<;>intro J
 ·have J:¬s.ny=0:=J
  repeat' apply iW<;>intro w
  all_goals skip
  all_goals first
   | (
     refine⟨?_,trivial⟩;rw[z,ae (by simp[J])];rfl)
   | (exfalso;first | contradiction | omega | (simp_all;done))
 have J:s.ny=0:=by simpa using J
 apply iW<;>intro Z
 ·skip
  repeat' apply iW<;>intro w
  all_goals skip
  all_goals first
   | (
     refine⟨?_,trivial⟩;rw[z,ae (by rw[aL (by omega:¬sub.length=0)];simp)];rfl)
   | (exfalso;first | contradiction | omega | (simp_all;done))
 have Z:sub.length=0:=by omega
 have xq:aq s sub.length=false:=by rw[z];simp[D,u,UO,I,J,Z]
 rw[xq,aa (by decide)];rw[aa (fun e=>by omega)];refine⟨_,_,(iG (s.x,s.y) p.unit hp.unit),iW ?_ ?_⟩<;>intro g2
 ·refine⟨?_,trivial⟩;rw[aa (by simp[g2])];rfl
 rw[ae (by simpa using g2)];refine⟨_,_,(lG s.pts (by omega) p hp.unit),iW ?_ ?_⟩<;>intro g3
 ·refine⟨?_,trivial⟩;rw[ae g3];rfl
 rw[aa (by simp[g3])];apply iW<;>intro g4
 ·refine⟨?_,trivial⟩;rw[ae (by omega)];rfl
 rw[aa (by omega)];refine⟨_,_,(Gi s.pts (by omega)),iW ?_ ?_⟩<;>intro g5
 ·refine⟨?_,trivial⟩;rw[ae ⟨hk,by simpa using g5⟩];rfl
 rw[aa (fun e=>by simp[e.2]at g5)];rw[aa (by omega)];refine⟨?_,trivial⟩;rfl
theorem Ex(p:ic)(s:iZ)(sub:List (List PV))(d:Int)(hp:oW p)(so:p_ s)(hk:s.kind=8)(hn:sub.length<=1048576):af C 239 [.pv (.ag (di p)),.pv (.ag (pg s sub)),.pv (i64 d)] (.p (i64 (ij p s sub.length d))) []:=by
 refine fW hC sL rfl (by kernel_rfl) fun _=>?_;have lm:=ak s.pts sp;have R6:=so.2;have I:dR s.kind 1 8=true:=dB.2 (by omega);have J:decide (s.kind=3)=false:=by simp;try omega
 have N:dk s.kind=true:=by simp[dk];try omega
 have O:decide (s.kind=7)=false:=by simp;try omega
 have R:decide (s.kind=8)=true:=by simp;try omega
 have U:=i_ s.kind;rw[show lX s.kind=[bool false,bool true,bool false,bool true] by rw[lX,J,N,O,R]]at U;have D:aq s sub.length=((!false&&!decide (s.name=ar))||(!true&&!(decide (s.x=0)&&decide (s.y=0)))||(!false&&decide (0<s.pts.length))||(!true&&!(decide (s.nx=0)&&decide (s.ny=0)&&decide (sub.length=0)))):=by rw[aq,J,N,O,R]
 rw[ij,ae I];have V:=ey s.kind 1 8;rw[I]at V;refine⟨_,_,V,_,_,U,iW ?_ ?_⟩<;>intro u
 ·have u:¬s.name=ar:=u
  repeat' apply iW<;>intro w
  all_goals skip
  all_goals first
   | (
     refine⟨?_,trivial⟩;rw[D,ae (by simp[u])];rfl)
   | (exfalso;first | contradiction | omega | (simp_all;done))
 have u:s.name=ar:=by simpa [ar] using u
 apply iW<;>intro f3
 ·skip
  repeat' apply iW<;>intro w
  all_goals skip
  all_goals first
   | (
     refine⟨?_,trivial⟩;rw[D,ae (by rw[aP (by omega:0<s.pts.length)];simp)];rfl)
   | (exfalso;first | contradiction | omega | (simp_all;done))
 have f3:s.pts.length=0:=by omega
 have xq:aq s sub.length=false:=by rw[D];simp[u,f3]
 rw[xq,aa (by decide)];rw[aa (fun e=>by omega)];refine⟨_,_,(iG (s.x,s.y) p.unit hp.unit),iW ?_ ?_⟩<;>intro W
 ·refine⟨?_,trivial⟩;rw[aa (by simp[W])];rfl
 rw[ae (by simpa using W)];refine⟨_,_,(lG s.pts (by omega) p hp.unit),iW ?_ ?_⟩<;>intro Y
 ·refine⟨?_,trivial⟩;rw[ae Y];rfl
 rw[aa (by simp[Y])];apply iW<;>intro g4
 ·refine⟨?_,trivial⟩;rw[ae (by omega)];rfl
 rw[aa (by omega)];rw[aa (fun e=>by omega)];rw[ae hk];refine⟨_,_,(ey s.nx 1 100),iW ?_ ?_⟩<;>intro Z
 ·refine⟨?_,trivial⟩;rw[aa (by simp[Z])];rfl
 rw[ae (by simpa using Z)];refine⟨_,_,(ey s.ny 1 100),iW ?_ ?_⟩<;>intro g7
 ·refine⟨?_,trivial⟩;rw[aa (by simp[g7])];rfl
 rw[ae (by simpa using g7)];apply iW<;>intro z
 ·have z:((sub.length:Nat):Int)=0:=z;refine⟨?_,trivial⟩;rw[ae (by omega)];rfl
 have z:¬((sub.length:Nat):Int)=0:=z;rw[aa (by omega)];apply iW<;>intro g9
 ·refine⟨?_,trivial⟩;rw[ae (by omega)];rfl
 rw[aa (by omega)];refine⟨?_,trivial⟩;rfl
theorem Ar(p:ic)(s:iZ)(sub:List (List PV))(d:Int)(hp:oW p)(u:p_ s)(z:sub.length<=1048576):af C 239 [.pv (.ag (di p)),.pv (.ag (pg s sub)),.pv (i64 d)] (.p (i64 (ij p s sub.length d))) []:=by
 by_cases J:1<=s.kind/\s.kind<=8
 ·by_cases N:s.kind=3
  ·exact Ev p s sub d hp u N z
  by_cases O:s.kind=7
  ·exact Ew p s sub d hp u O z
  by_cases R:s.kind=8
  ·exact Ex p s sub d hp u R z
  by_cases U:s.kind=1\/s.kind=2
  ·exact BP p s sub d hp u U z
  exact Aq p s sub d hp u (by omega) z
 refine fW hC sL rfl (by kernel_rfl) fun _=>?_;refine⟨_,_,(ey s.kind 1 8),?_⟩;have D:dR s.kind 1 8=false:=Pu.2 J;apply iW<;>intro I
 ·refine⟨?_,trivial⟩;rw[ij,aa (by rw[D];decide)];rfl
 exfalso;rw[D]at I;simp at I
theorem gq{a b:Bool}(h:a=b):PV.im (Value.bool a)=bool b:=by rw[h];rfl
theorem BQ(name:ByteArray)(x y:Int)(pts:List (Int×Int))(nx ny:Int)(sub:List (List PV))(hn:sub.length<=1048576)(hp:pts.length<=1048576):af C 370 [.pv (.ag (pg ⟨1,name,x,y,pts,nx,ny⟩ sub))] (.p (bool (!aq ⟨1,name,x,y,pts,nx,ny⟩ sub.length))) []:=by
 have lm:=ak pts sp;refine fW hC ot rfl (by kernel_rfl) fun _=>?_;apply iW<;>intro d<;>try simp only[zB]at d
 rotate_left
 ·refine⟨?_,trivial⟩;refine gq ?_
  first
   | (simp_all [aq,dk,ar];done)
   | (simp_all [aq,dk,ar];omega)
   | (simp_all [aq,dk,ar];exact bN.2 (by assumption))
 apply iW<;>intro u<;>try simp only[zB]at u
 rotate_left
 ·refine⟨?_,trivial⟩;refine gq ?_
  first
   | (simp_all [aq,dk,ar];done)
   | (simp_all [aq,dk,ar];omega)
   | (simp_all [aq,dk,ar];exact bN.2 (by assumption))
 apply iW<;>intro z<;>try simp only[zB]at z
 rotate_left
 ·refine⟨?_,trivial⟩;refine gq ?_
  first
   | (simp_all [aq,dk,ar];done)
   | (simp_all [aq,dk,ar];omega)
   | (simp_all [aq,dk,ar];exact bN.2 (by assumption))
 apply iW<;>intro D<;>try simp only[zB]at D
 rotate_left
 ·refine⟨?_,trivial⟩;refine gq ?_
  first
   | (simp_all [aq,dk,ar];done)
   | (simp_all [aq,dk,ar];omega)
   | (simp_all [aq,dk,ar];exact bN.2 (by assumption))
 apply iW<;>intro I<;>try simp only[zB]at I
 rotate_left
 ·refine⟨?_,trivial⟩;refine gq ?_
  first
   | (simp_all [aq,dk,ar];done)
   | (simp_all [aq,dk,ar];omega)
   | (simp_all [aq,dk,ar];exact bN.2 (by assumption))
 refine⟨?_,trivial⟩;refine gq ?_
 first
  | (simp_all [aq,dk,ar];done)
  | (simp_all [aq,dk,ar];omega)
  | (simp_all [aq,dk,ar];exact bN.2 (by assumption))
theorem BR(name:ByteArray)(x y:Int)(pts:List (Int×Int))(nx ny:Int)(sub:List (List PV))(hn:sub.length<=1048576)(hp:pts.length<=1048576):af C 370 [.pv (.ag (pg ⟨2,name,x,y,pts,nx,ny⟩ sub))] (.p (bool (!aq ⟨2,name,x,y,pts,nx,ny⟩ sub.length))) []:=by
 have lm:=ak pts sp;refine fW hC ot rfl (by kernel_rfl) fun _=>?_;apply iW<;>intro d<;>try simp only[zB]at d
 rotate_left
 ·refine⟨?_,trivial⟩;refine gq ?_
  first
   | (simp_all [aq,dk,ar];done)
   | (simp_all [aq,dk,ar];omega)
   | (simp_all [aq,dk,ar];exact bN.2 (by assumption))
 apply iW<;>intro u<;>try simp only[zB]at u
 rotate_left
 ·refine⟨?_,trivial⟩;refine gq ?_
  first
   | (simp_all [aq,dk,ar];done)
   | (simp_all [aq,dk,ar];omega)
   | (simp_all [aq,dk,ar];exact bN.2 (by assumption))
 apply iW<;>intro z<;>try simp only[zB]at z
 rotate_left
 ·refine⟨?_,trivial⟩;refine gq ?_
  first
   | (simp_all [aq,dk,ar];done)
   | (simp_all [aq,dk,ar];omega)
   | (simp_all [aq,dk,ar];exact bN.2 (by assumption))
 apply iW<;>intro D<;>try simp only[zB]at D
 rotate_left
 ·refine⟨?_,trivial⟩;refine gq ?_
  first
   | (simp_all [aq,dk,ar];done)
   | (simp_all [aq,dk,ar];omega)
   | (simp_all [aq,dk,ar];exact bN.2 (by assumption))
 apply iW<;>intro I<;>try simp only[zB]at I
 rotate_left
 ·refine⟨?_,trivial⟩;refine gq ?_
  first
   | (simp_all [aq,dk,ar];done)
   | (simp_all [aq,dk,ar];omega)
   | (simp_all [aq,dk,ar];exact bN.2 (by assumption))
 refine⟨?_,trivial⟩;refine gq ?_
 first
  | (simp_all [aq,dk,ar];done)
  | (simp_all [aq,dk,ar];omega)
  | (simp_all [aq,dk,ar];exact bN.2 (by assumption))
theorem BS(name:ByteArray)(x y:Int)(pts:List (Int×Int))(nx ny:Int)(sub:List (List PV))(hn:sub.length<=1048576)(hp:pts.length<=1048576):af C 370 [.pv (.ag (pg ⟨3,name,x,y,pts,nx,ny⟩ sub))] (.p (bool (!aq ⟨3,name,x,y,pts,nx,ny⟩ sub.length))) []:=by
 have lm:=ak pts sp;refine fW hC ot rfl (by kernel_rfl) fun _=>?_;apply iW<;>intro d<;>try simp only[zB]at d
 rotate_left
 ·refine⟨?_,trivial⟩;refine gq ?_
  first
   | (simp_all [aq,dk,ar];done)
   | (simp_all [aq,dk,ar];omega)
   | (simp_all [aq,dk,ar];exact bN.2 (by assumption))
 apply iW<;>intro u<;>try simp only[zB]at u
 rotate_left
 ·refine⟨?_,trivial⟩;refine gq ?_
  first
   | (simp_all [aq,dk,ar];done)
   | (simp_all [aq,dk,ar];omega)
   | (simp_all [aq,dk,ar];exact bN.2 (by assumption))
 apply iW<;>intro z<;>try simp only[zB]at z
 rotate_left
 ·refine⟨?_,trivial⟩;refine gq ?_
  first
   | (simp_all [aq,dk,ar];done)
   | (simp_all [aq,dk,ar];omega)
   | (simp_all [aq,dk,ar];exact bN.2 (by assumption))
 apply iW<;>intro D<;>try simp only[zB]at D
 rotate_left
 ·refine⟨?_,trivial⟩;refine gq ?_
  first
   | (simp_all [aq,dk,ar];done)
   | (simp_all [aq,dk,ar];omega)
   | (simp_all [aq,dk,ar];exact bN.2 (by assumption))
 refine⟨?_,trivial⟩;refine gq ?_
 first
  | (simp_all [aq,dk,ar];done)
  | (simp_all [aq,dk,ar];omega)
  | (simp_all [aq,dk,ar];exact bN.2 (by assumption))
theorem BU(name:ByteArray)(x y:Int)(pts:List (Int×Int))(nx ny:Int)(sub:List (List PV))(hn:sub.length<=1048576)(hp:pts.length<=1048576):af C 370 [.pv (.ag (pg ⟨4,name,x,y,pts,nx,ny⟩ sub))] (.p (bool (!aq ⟨4,name,x,y,pts,nx,ny⟩ sub.length))) []:=by
 have lm:=ak pts sp;refine fW hC ot rfl (by kernel_rfl) fun _=>?_;apply iW<;>intro d<;>try simp only[zB]at d
 rotate_left
 ·refine⟨?_,trivial⟩;refine gq ?_
  first
   | (simp_all [aq,dk,ar];done)
   | (simp_all [aq,dk,ar];omega)
   | (simp_all [aq,dk,ar];exact bN.2 (by assumption))
 apply iW<;>intro u<;>try simp only[zB]at u
 rotate_left
 ·refine⟨?_,trivial⟩;refine gq ?_
  first
   | (simp_all [aq,dk,ar];done)
   | (simp_all [aq,dk,ar];omega)
   | (simp_all [aq,dk,ar];exact bN.2 (by assumption))
 apply iW<;>intro z<;>try simp only[zB]at z
 rotate_left
 ·refine⟨?_,trivial⟩;refine gq ?_
  first
   | (simp_all [aq,dk,ar];done)
   | (simp_all [aq,dk,ar];omega)
   | (simp_all [aq,dk,ar];exact bN.2 (by assumption))
 apply iW<;>intro D<;>try simp only[zB]at D
 rotate_left
 ·refine⟨?_,trivial⟩;refine gq ?_
  first
   | (simp_all [aq,dk,ar];done)
   | (simp_all [aq,dk,ar];omega)
   | (simp_all [aq,dk,ar];exact bN.2 (by assumption))
 refine⟨?_,trivial⟩;refine gq ?_
 first
  | (simp_all [aq,dk,ar];done)
  | (simp_all [aq,dk,ar];omega)
  | (simp_all [aq,dk,ar];exact bN.2 (by assumption))
theorem BV(name:ByteArray)(x y:Int)(pts:List (Int×Int))(nx ny:Int)(sub:List (List PV))(hn:sub.length<=1048576)(hp:pts.length<=1048576):af C 370 [.pv (.ag (pg ⟨5,name,x,y,pts,nx,ny⟩ sub))] (.p (bool (!aq ⟨5,name,x,y,pts,nx,ny⟩ sub.length))) []:=by
 have lm:=ak pts sp;refine fW hC ot rfl (by kernel_rfl) fun _=>?_;apply iW<;>intro d<;>try simp only[zB]at d
 rotate_left
 ·refine⟨?_,trivial⟩;refine gq ?_
  first
   | (simp_all [aq,dk,ar];done)
   | (simp_all [aq,dk,ar];omega)
   | (simp_all [aq,dk,ar];exact bN.2 (by assumption))
 apply iW<;>intro u<;>try simp only[zB]at u
 rotate_left
 ·refine⟨?_,trivial⟩;refine gq ?_
  first
   | (simp_all [aq,dk,ar];done)
   | (simp_all [aq,dk,ar];omega)
   | (simp_all [aq,dk,ar];exact bN.2 (by assumption))
 apply iW<;>intro z<;>try simp only[zB]at z
 rotate_left
 ·refine⟨?_,trivial⟩;refine gq ?_
  first
   | (simp_all [aq,dk,ar];done)
   | (simp_all [aq,dk,ar];omega)
   | (simp_all [aq,dk,ar];exact bN.2 (by assumption))
 apply iW<;>intro D<;>try simp only[zB]at D
 rotate_left
 ·refine⟨?_,trivial⟩;refine gq ?_
  first
   | (simp_all [aq,dk,ar];done)
   | (simp_all [aq,dk,ar];omega)
   | (simp_all [aq,dk,ar];exact bN.2 (by assumption))
 refine⟨?_,trivial⟩;refine gq ?_
 first
  | (simp_all [aq,dk,ar];done)
  | (simp_all [aq,dk,ar];omega)
  | (simp_all [aq,dk,ar];exact bN.2 (by assumption))
theorem BX(name:ByteArray)(x y:Int)(pts:List (Int×Int))(nx ny:Int)(sub:List (List PV))(hn:sub.length<=1048576)(hp:pts.length<=1048576):af C 370 [.pv (.ag (pg ⟨6,name,x,y,pts,nx,ny⟩ sub))] (.p (bool (!aq ⟨6,name,x,y,pts,nx,ny⟩ sub.length))) []:=by
 have lm:=ak pts sp;refine fW hC ot rfl (by kernel_rfl) fun _=>?_;apply iW<;>intro d<;>try simp only[zB]at d
 rotate_left
 ·refine⟨?_,trivial⟩;refine gq ?_
  first
   | (simp_all [aq,dk,ar];done)
   | (simp_all [aq,dk,ar];omega)
   | (simp_all [aq,dk,ar];exact bN.2 (by assumption))
 apply iW<;>intro u<;>try simp only[zB]at u
 rotate_left
 ·refine⟨?_,trivial⟩;refine gq ?_
  first
   | (simp_all [aq,dk,ar];done)
   | (simp_all [aq,dk,ar];omega)
   | (simp_all [aq,dk,ar];exact bN.2 (by assumption))
 apply iW<;>intro z<;>try simp only[zB]at z
 rotate_left
 ·refine⟨?_,trivial⟩;refine gq ?_
  first
   | (simp_all [aq,dk,ar];done)
   | (simp_all [aq,dk,ar];omega)
   | (simp_all [aq,dk,ar];exact bN.2 (by assumption))
 apply iW<;>intro D<;>try simp only[zB]at D
 rotate_left
 ·refine⟨?_,trivial⟩;refine gq ?_
  first
   | (simp_all [aq,dk,ar];done)
   | (simp_all [aq,dk,ar];omega)
   | (simp_all [aq,dk,ar];exact bN.2 (by assumption))
 refine⟨?_,trivial⟩;refine gq ?_
 first
  | (simp_all [aq,dk,ar];done)
  | (simp_all [aq,dk,ar];omega)
  | (simp_all [aq,dk,ar];exact bN.2 (by assumption))
theorem BY(name:ByteArray)(x y:Int)(pts:List (Int×Int))(nx ny:Int)(sub:List (List PV))(hn:sub.length<=1048576)(hp:pts.length<=1048576):af C 370 [.pv (.ag (pg ⟨7,name,x,y,pts,nx,ny⟩ sub))] (.p (bool (!aq ⟨7,name,x,y,pts,nx,ny⟩ sub.length))) []:=by
 have lm:=ak pts sp;refine fW hC ot rfl (by kernel_rfl) fun _=>?_;apply iW<;>intro d<;>try simp only[zB]at d
 rotate_left
 ·refine⟨?_,trivial⟩;refine gq ?_
  first
   | (simp_all [aq,dk,ar];done)
   | (simp_all [aq,dk,ar];omega)
   | (simp_all [aq,dk,ar];exact bN.2 (by assumption))
 apply iW<;>intro u<;>try simp only[zB]at u
 rotate_left
 ·refine⟨?_,trivial⟩;refine gq ?_
  first
   | (simp_all [aq,dk,ar];done)
   | (simp_all [aq,dk,ar];omega)
   | (simp_all [aq,dk,ar];exact bN.2 (by assumption))
 apply iW<;>intro z<;>try simp only[zB]at z
 rotate_left
 ·refine⟨?_,trivial⟩;refine gq ?_
  first
   | (simp_all [aq,dk,ar];done)
   | (simp_all [aq,dk,ar];omega)
   | (simp_all [aq,dk,ar];exact bN.2 (by assumption))
 apply iW<;>intro D<;>try simp only[zB]at D
 rotate_left
 ·refine⟨?_,trivial⟩;refine gq ?_
  first
   | (simp_all [aq,dk,ar];done)
   | (simp_all [aq,dk,ar];omega)
   | (simp_all [aq,dk,ar];exact bN.2 (by assumption))
 refine⟨?_,trivial⟩;refine gq ?_
 first
  | (simp_all [aq,dk,ar];done)
  | (simp_all [aq,dk,ar];omega)
  | (simp_all [aq,dk,ar];exact bN.2 (by assumption))
theorem BZ(name:ByteArray)(x y:Int)(pts:List (Int×Int))(nx ny:Int)(sub:List (List PV))(hn:sub.length<=1048576)(hp:pts.length<=1048576):af C 370 [.pv (.ag (pg ⟨8,name,x,y,pts,nx,ny⟩ sub))] (.p (bool (!aq ⟨8,name,x,y,pts,nx,ny⟩ sub.length))) []:=by
 have lm:=ak pts sp;refine fW hC ot rfl (by kernel_rfl) fun _=>?_;apply iW<;>intro d<;>try simp only[zB]at d
 rotate_left
 ·refine⟨?_,trivial⟩;refine gq ?_
  first
   | (simp_all [aq,dk,ar];done)
   | (simp_all [aq,dk,ar];omega)
   | (simp_all [aq,dk,ar];exact bN.2 (by assumption))
 apply iW<;>intro u<;>try simp only[zB]at u
 rotate_left
 ·refine⟨?_,trivial⟩;refine gq ?_
  first
   | (simp_all [aq,dk,ar];done)
   | (simp_all [aq,dk,ar];omega)
   | (simp_all [aq,dk,ar];exact bN.2 (by assumption))
 refine⟨?_,trivial⟩;refine gq ?_
 first
  | (simp_all [aq,dk,ar];done)
  | (simp_all [aq,dk,ar];omega)
  | (simp_all [aq,dk,ar];exact bN.2 (by assumption))
theorem Gl(s:iZ)(sub:List (List PV))(hk:dR s.kind 1 8=true)(d:sub.length<=1048576)(hp:s.pts.length<=1048576):af C 370 [.pv (.ag (pg s sub))] (.p (bool (!aq s sub.length))) []:=by
 obtain⟨k,name,x,y,pts,nx,ny⟩:=s;have hk:1<=k/\k<=8:=dB.1 hk;have u:k=1\/k=2\/k=3\/k=4\/k=5\/k=6\/k=7\/k=8:=by omega
 rcases u with rfl | rfl | rfl | rfl | rfl | rfl | rfl | rfl
 ·exact BQ _ _ _ _ _ _ _ d hp
 ·exact BR _ _ _ _ _ _ _ d hp
 ·exact BS _ _ _ _ _ _ _ d hp
 ·exact BU _ _ _ _ _ _ _ d hp
 ·exact BV _ _ _ _ _ _ _ d hp
 ·exact BX _ _ _ _ _ _ _ d hp
 ·exact BY _ _ _ _ _ _ _ d hp
 exact BZ _ _ _ _ _ _ _ d hp
theorem As(p:ic)(s:iZ)(sub:List (List PV))(d:Int)(hp:oW p)(so:p_ s)(hn:sub.length<=1048576):af C 278 [.pv (.ag (di p)),.pv (.ag (pg s sub)),.pv (i64 d)] (.p (i64 (ij p s sub.length d))) []:=by
 refine fW hC Tryz.func278 rfl (by kernel_rfl) fun _=>?_;have U:=so.2;refine⟨_,_,(gu s.kind 1 8),iW ?_ ?_⟩<;>intro V
 ·refine⟨?_,trivial⟩;rw[ij,aa (by simp[V])];rfl
 have W:dR s.kind 1 8=true:=by simpa using V
 rw[ij,ae W];refine⟨_,_,(Gl s sub W hn U),iW ?_ ?_⟩<;>intro Y
 ·refine⟨?_,trivial⟩;rw[ae (by simpa using Y)];rfl
 have hb:aq s sub.length=false:=by simpa using Y
 rw[hb,aa (by decide)];apply iW<;>intro z
 ·have z:s.kind=3:=z;have VN:=JC hb (by omega);refine⟨_,_,(K6 p s.name (by have:=hp.tools;omega)),iW ?_ ?_⟩<;>intro Z
  ·refine⟨?_,trivial⟩;rw[ae ⟨z,Z⟩];rfl
  rw[aa (fun e=>Z e.2)];refine⟨_,_,(nj (s.x,s.y) p.unit hp.unit),iW ?_ ?_⟩<;>intro I
  ·refine⟨?_,trivial⟩;rw[aa (by simp[I])];rfl
  rw[ae (by simpa using I),VN,aa (by simp),aa (by simp),aa (fun e=>by omega),aa (by omega)];apply iW<;>intro g3
  ·exfalso;omega
  apply iW<;>intro g4
  ·exfalso;omega
  refine⟨?_,trivial⟩;rfl
 have z:¬s.kind=3:=z;rw[aa (fun e=>z e.1)];refine⟨_,_,(nj (s.x,s.y) p.unit hp.unit),iW ?_ ?_⟩<;>intro I
 ·refine⟨?_,trivial⟩;rw[aa (by simp[I])];rfl
 rw[ae (by simpa using I)];apply iW<;>intro u
 ·have u:s.kind=7:=u;refine⟨_,_,(Ap s.pts p.unit hp.unit U),?_,trivial⟩;by_cases J:(s.pts.any fun q=>!jD q p.unit)=true
  ·rw[ae J,ae J]
  rw[aa J,aa J];by_cases N:2000<s.pts.length
  ·rw[ae N,ae N]
  rw[aa N,aa N];by_cases O:BO s.pts=true
  ·rw[ae O,aa (fun e=>by rw[O]at e;cases e.2),aa (by omega)]
  rw[aa O,ae ⟨u,by simpa using O⟩]
 have u:¬s.kind=7:=u;rw[JC hb u,aa (by simp),aa (by simp),aa (fun e=>u e.1)];apply iW<;>intro D
 ·have D:s.kind=8:=D;rw[ae D];refine⟨_,_,(gu s.nx 1 100),iW ?_ ?_⟩<;>intro g6
  ·refine⟨?_,trivial⟩;rw[aa (by simp[g6])];rfl
  rw[ae (by simpa using g6)];refine⟨_,_,(gu s.ny 1 100),iW ?_ ?_⟩<;>intro g7
  ·refine⟨?_,trivial⟩;rw[aa (by simp[g7])];rfl
  rw[ae (by simpa using g7)];apply iW<;>intro R
  ·have R:((sub.length:Nat):Int)=0:=R;refine⟨?_,trivial⟩;rw[ae (by omega)];rfl
  have R:¬((sub.length:Nat):Int)=0:=R;rw[aa (by omega)];apply iW<;>intro g9
  ·refine⟨?_,trivial⟩;rw[ae (by omega)];rfl
  rw[aa (by omega)];refine⟨?_,trivial⟩;rfl
 have D:¬s.kind=8:=D;rw[aa D];refine⟨?_,trivial⟩;rfl
def Steps.every(Q:Steps->Prop):Steps->Prop
 | .nil=>True
 | .cons _ sub rest=>Q sub/\rest.every Q
def Steps.ok:Steps->Prop
 | .nil=>True
 | .cons s sub rest=>p_ s/\sub.rows.length<=1048576/\sub.ok/\rest.ok
variable {α:Type}
theorem gL{l:List α}{i:Nat}{a:α}{r:List α}(h:l.drop i=a::r):l[i]?=some a/\l.drop (i+1)=r/\i<l.length:=by
 have d:l[i]?=some a:=by
  have:=ah (fun z:List α=>z[0]?) h;simpa [eE] using this
 refine⟨d,?_,(aU.1 d).1⟩;rw[<-vk,h];rfl
def tm(n:Int):Int:=if dR n 1 100=true then n else 1
theorem QF(n:Int):1<=tm n/\tm n<=100:=by
 unfold tm;split
 ·rename_i h;exact dB.1 h
 omega
def cap(n:Int):Int:=if 3000<n then 3001 else n
def cntF:Steps->Int
 | .nil=>0
 | .cons s sub rest=>cap (1+tm s.nx*tm s.ny*cntF sub+cntF rest)
theorem R7{n:Int}(h:0<=n):0<=cap n/\cap n<=3001:=by unfold cap;split<;>omega
theorem Ey(a b:Int):1<=tm a*tm b/\tm a*tm b<=10000:=by
 have d:=QF a;have hb:=QF b;have h1:1*1<=tm a*tm b:=Eu d.1 hb.1 (by omega) (by omega);have h2:tm a*tm b<=100*100:=Eu d.2 hb.2 (by omega) (by omega);omega
theorem Ez(a b:Int){c:Int}(h:0<=c/\c<=3001):0<=tm a*tm b*c/\tm a*tm b*c<=30010000:=by
 have d:=Ey a b;have h1:0<=tm a*tm b*c:=Int.mul_nonneg (by omega) h.1;have h2:tm a*tm b*c<=10000*3001:=Eu d.2 h.2 h.1 (by omega);omega
theorem ke:∀u:Steps,0<=cntF u/\cntF u<=3001
 | .nil=>by simp[cntF]
 | .cons s sub rest=>by
  have d:=ke sub;have h2:=ke rest;have h3:=Ez s.nx s.ny d;rw[cntF];exact R7 (by omega)
theorem JD{n m:Int}(hn:0<=n)(hm:0<=m):cap (n+cap m)=cap (n+m):=by
 unfold cap
 repeat' split
 all_goals omega
theorem xP(n:Int):af C 348 [.pv (i64 n)] (.p (i64 (tm n))) []:=by
 refine fW hC Tryz.func348 rfl (by kernel_rfl) fun _=>?_;refine⟨_,_,(ey n 1 100),iW ?_ ?_⟩<;>intro h
 ·refine⟨?_,trivial⟩;rw[tm,ae h]
 refine⟨?_,trivial⟩;rw[tm,aa (by simp[h])];rfl
theorem Ii(s:iZ)(sub:List (List PV)):af C 238 [.pv (.ag (pg s sub))] (.p (i64 (tm s.nx*tm s.ny))) []:=by
 refine sd ⟨[1],[],[],[2],[(2,[true,true,true,false,true,false,false,true,true,true])],[]⟩ hC Tryz.func238 rfl (by kernel_rfl) fun _=>?_;have hm:=Ey s.nx s.ny;refine KQ 1 (y:=.ip (pg s sub)) (fz:=[(1,.ll (pg s sub))]) (by exact hC) (by exact⟨rfl,rfl⟩) ?_;refine⟨_,_,(xP s.nx),_,_,(xP s.ny),⟨by first | omega | (dsimp only;omega),by first | omega | (dsimp only;omega)⟩,?_,trivial⟩;rfl
def R8(u:Steps):Prop:=u.rows.length<=1048576->af C 143 [.pv (.sl u.rows)] (.p (i64 (cntF u))) []
theorem rq{u:Steps}(h:u.rows.length=0):u=.nil:=by
 cases u with
 | nil=>rfl
 | cons s sub rest=>simp[Steps.rows]at h
theorem Au(u:Steps)(hs:u.every R8)(ho:u.ok)(hN:u.rows.length<=1048576):af C 143 [.pv (.sl u.rows)] (.p (i64 (cntF u))) []:=by
 refine fW hC Tryz.func143 rfl (by kernel_rfl) fun _=>?_;refine ax (fun p:Nat×Steps×Int=>u.rows.drop p.1=p.2.1.rows/\p.2.1.every R8/\p.2.1.ok/\0<=p.2.2/\p.2.2<=3000/\cap (p.2.2+cntF p.2.1)=cap (cntF u)/\p.1<=u.rows.length) (fun p=>[(3,.p (i64 p.2.2)),(6,.p (.sl u.rows)),(7,.p (i64 u.rows.length)),(8,.p (i64 p.1))]) (fun _=>[]) (fun p=>u.rows.length-p.1) (0,u,0) _ (au.refl _ _) ⟨rfl,hs,ho,by dsimp only;omega,by dsimp only;omega,by dsimp only;rw[Int.zero_add],Nat.zero_le _⟩ ⟨Z,Z,Z,Z,Y⟩ trivial fun ⟨i,v,n⟩ hi tt h=>?_;obtain⟨I,N,O,R,q5,d,q7⟩:=hi;simp only at I N O R q5 d q7;have Tb:=ke u;have J:cap (cntF u)=cntF u:=by unfold cap;split<;>omega
 rw[J]at d;apply iW<;>intro h1<;>try simp only[zB]at h1
 ·cases v with
  | nil=>
   exfalso;have:=ah List.length I;simp[Steps.rows]at this;omega
  | cons s sub rest=>
   obtain⟨d1,U,d3⟩:=gL I;obtain⟨r1,V⟩:=N;obtain⟨o1,o2,o3,W⟩:=O;have nR:=ke sub;have Bo:=ke rest;have ht:=Ey s.nx s.ny;have R9:=Ez s.nx s.ny nR;have z:cap (n+(1+tm s.nx*tm s.ny*cntF sub)+cntF rest)=cntF u:=by
    rw[<-d,cntF,JD R (by omega)];congr 1;omega
   refine⟨(pg s sub.rows),⟨by omega,by rw[Int.toNat_natCast];exact d1⟩,⟨by first | omega | (dsimp only;omega),by first | omega | (dsimp only;omega)⟩,iW ?_ ?_⟩<;>intro h2
   ·refine⟨_,_,(Ii s sub.rows),_,_,(r1 o2),⟨by first | omega | (dsimp only;omega),by first | omega | (dsimp only;omega)⟩,⟨by first | omega | (dsimp only;omega),by first | omega | (dsimp only;omega)⟩,iW ?_ ?_⟩<;>intro D<;>try simp only[zB]at D
    all_goals try dsimp only at D
    ·refine⟨?_,trivial⟩;rw[<-z,cap,ae (by omega)]
     try rfl
    exact⟨⟨by first | omega | (dsimp only;omega),by first | omega | (dsimp only;omega)⟩,(i+1,rest,n+1+tm s.nx*tm s.ny*cntF sub),_,au.refl _ _,⟨U,V,W,by dsimp only;omega,by dsimp only;omega,by dsimp only;rw[J,<-z];congr 1<;>omega,by dsimp only;omega⟩,by dsimp only;omega,⟨Z,Z,Z,Z,Y⟩,trivial⟩
   have e0:sub=.nil:=rq (by omega);have c0:cntF sub=0:=by rw[e0];rfl
   rw[c0,Int.mul_zero]at z;apply iW<;>intro D<;>try simp only[zB]at D
   all_goals try dsimp only at D
   ·refine⟨?_,trivial⟩;rw[<-z,cap,ae (by omega)]
    try rfl
   exact⟨⟨by first | omega | (dsimp only;omega),by first | omega | (dsimp only;omega)⟩,(i+1,rest,n+1),_,au.refl _ _,⟨U,V,W,by dsimp only;omega,by dsimp only;omega,by dsimp only;rw[J,<-z];congr 1<;>omega,by dsimp only;omega⟩,by dsimp only;omega,⟨Z,Z,Z,Z,Y⟩,trivial⟩
 have hv:v=.nil:=rq (by rw[<-I,dn];omega);rw[hv,cntF,jm,cap,aa (by omega)]at d;refine⟨?_,trivial⟩;rw[d]
 try rfl
theorem Steps.wR{Q:Steps->Prop}(h:∀u:Steps,u.every Q->u.ok->Q u):∀u:Steps,u.ok->Q u/\u.every Q
 | .nil,ho=>⟨h .nil trivial ho,trivial⟩
 | .cons s sub rest,ho=>by
  have a:=wR h sub ho.2.2.1;have b:=wR h rest ho.2.2.2;have e:(Steps.cons s sub rest).every Q:=⟨a.1,b.2⟩;exact⟨h _ e ho,e⟩
theorem Gm(u:Steps)(d:u.ok)(z:u.rows.length<=1048576):af C 143 [.pv (.sl u.rows)] (.p (i64 (cntF u))) []:=(Steps.wR (Q:=R8) (fun u D I J=>Au u D I J) u d).1 z
def R_(u:Steps):Prop:=u.rows.length<=1048576->af C 173 [.pv (.sl u.rows)] (.p (i64 (cntF u))) []
theorem B0(u:Steps)(hs:u.every R_)(ho:u.ok)(hN:u.rows.length<=1048576):af C 173 [.pv (.sl u.rows)] (.p (i64 (cntF u))) []:=by
 refine fW hC Tryz.func173 rfl (by kernel_rfl) fun _=>?_;have Tb:=ke u;have zv:cap (cntF u)=cntF u:=by unfold cap;split<;>omega
 refine ax (fun p:Nat×Steps×Int=>u.rows.drop p.1=p.2.1.rows/\p.2.1.every R_/\p.2.1.ok/\0<=p.2.2/\p.2.2<=40000000/\cap (p.2.2+cntF p.2.1)=cntF u/\p.1<=u.rows.length) (fun p=>[(0,.p (.sl u.rows)),(3,.p (i64 p.2.2)),(4,.p (i64 p.1))]) (fun _=>[]) (fun p=>u.rows.length-p.1) (0,u,0) _ (au.refl _ _) ⟨rfl,hs,ho,by dsimp only;omega,by dsimp only;omega,by dsimp only;rw[Int.zero_add,zv],Nat.zero_le _⟩ ⟨Z,Z,Z,Y⟩ trivial fun ⟨i,v,n⟩ hi tt h=>?_;obtain⟨R,q2,q3,q4,q5,I,q7⟩:=hi;simp only at R q2 q3 q4 q5 I q7;apply iW<;>intro h1<;>try simp only[zB]at h1
 ·apply iW<;>intro YG<;>try simp only[zB]at YG
  all_goals try dsimp only at YG
  ·cases v with
   | nil=>
    exfalso;have:=ah List.length R;simp[Steps.rows]at this;omega
   | cons s sub rest=>
    obtain⟨d1,U,d3⟩:=gL R;obtain⟨V,W⟩:=q2;obtain⟨o1,o2,o3,o4⟩:=q3;have nR:=ke sub;have Bo:=ke rest;have J:=Ey s.nx s.ny;have N:=Ez s.nx s.ny nR;have d:cap (n+(1+tm s.nx*tm s.ny*cntF sub)+cntF rest)=cntF u:=by
     rw[<-I,cntF,JD q4 (by omega)];congr 1;omega
    have z:∀k:Int,k=(i:Int)->0<=k/\u.rows[k.toNat]?=some (pg s sub.rows):=fun k hk=>by rw[hk];exact⟨by omega,by rw[bU];exact d1⟩
    refine⟨⟨by first | omega | (dsimp only;omega),by first | omega | (dsimp only;omega)⟩,(pg s sub.rows),(z _ rfl),_,_,(gu s.nx 1 100),iW ?_ ?_⟩<;>intro a1
    ·have e1:tm s.nx=s.nx:=by rw[tm,ae a1]
     rw[e1]at d J N;refine⟨(pg s sub.rows),(z _ rfl),(pg s sub.rows),(z _ rfl),_,_,(gu s.ny 1 100),iW ?_ ?_⟩<;>intro O
     ·have D:tm s.ny=s.ny:=by rw[tm,ae O]
      rw[D]at d J N;exact⟨(pg s sub.rows),(z _ rfl),⟨by first | omega | (dsimp only;omega),by first | omega | (dsimp only;omega)⟩,(pg s sub.rows),(z _ rfl),_,_,(V o2),⟨by first | omega | (dsimp only;omega),by first | omega | (dsimp only;omega)⟩,⟨by first | omega | (dsimp only;omega),by first | omega | (dsimp only;omega)⟩,⟨by first | omega | (dsimp only;omega),by first | omega | (dsimp only;omega)⟩,(i+1,rest,n+1+s.nx*s.ny*cntF sub),_,au.refl _ _,⟨U,W,o4,by dsimp only;omega,by dsimp only;omega,by dsimp only;rw[<-d];congr 1<;>omega,by dsimp only;omega⟩,by dsimp only;omega,⟨Z,Z,Z,Y⟩,trivial⟩
     have D:tm s.ny=1:=by rw[tm,aa (by simp[O])]
     rw[D]at d J N;exact⟨⟨by first | omega | (dsimp only;omega),by first | omega | (dsimp only;omega)⟩,(pg s sub.rows),(z _ rfl),_,_,(V o2),⟨by first | omega | (dsimp only;omega),by first | omega | (dsimp only;omega)⟩,⟨by first | omega | (dsimp only;omega),by first | omega | (dsimp only;omega)⟩,⟨by first | omega | (dsimp only;omega),by first | omega | (dsimp only;omega)⟩,(i+1,rest,n+1+s.nx*1*cntF sub),_,au.refl _ _,⟨U,W,o4,by dsimp only;omega,by dsimp only;omega,by dsimp only;rw[<-d];congr 1<;>omega,by dsimp only;omega⟩,by dsimp only;omega,⟨Z,Z,Z,Y⟩,trivial⟩
    have e1:tm s.nx=1:=by rw[tm,aa (by simp[a1])]
    rw[e1]at d J N;refine⟨(pg s sub.rows),(z _ rfl),_,_,(gu s.ny 1 100),iW ?_ ?_⟩<;>intro O
    ·have D:tm s.ny=s.ny:=by rw[tm,ae O]
     rw[D]at d J N;exact⟨(pg s sub.rows),(z _ rfl),⟨by first | omega | (dsimp only;omega),by first | omega | (dsimp only;omega)⟩,(pg s sub.rows),(z _ rfl),_,_,(V o2),⟨by first | omega | (dsimp only;omega),by first | omega | (dsimp only;omega)⟩,⟨by first | omega | (dsimp only;omega),by first | omega | (dsimp only;omega)⟩,⟨by first | omega | (dsimp only;omega),by first | omega | (dsimp only;omega)⟩,(i+1,rest,n+1+1*s.ny*cntF sub),_,au.refl _ _,⟨U,W,o4,by dsimp only;omega,by dsimp only;omega,by dsimp only;rw[<-d];congr 1<;>omega,by dsimp only;omega⟩,by dsimp only;omega,⟨Z,Z,Z,Y⟩,trivial⟩
    have D:tm s.ny=1:=by rw[tm,aa (by simp[O])]
    rw[D]at d J N;exact⟨⟨by first | omega | (dsimp only;omega),by first | omega | (dsimp only;omega)⟩,(pg s sub.rows),(z _ rfl),_,_,(V o2),⟨by first | omega | (dsimp only;omega),by first | omega | (dsimp only;omega)⟩,⟨by first | omega | (dsimp only;omega),by first | omega | (dsimp only;omega)⟩,⟨by first | omega | (dsimp only;omega),by first | omega | (dsimp only;omega)⟩,(i+1,rest,n+1+1*1*cntF sub),_,au.refl _ _,⟨U,W,o4,by dsimp only;omega,by dsimp only;omega,by dsimp only;rw[<-d];congr 1<;>omega,by dsimp only;omega⟩,by dsimp only;omega,⟨Z,Z,Z,Y⟩,trivial⟩
  have Yb:=ke v;rw[cap,ae (by omega)]at I;refine⟨?_,trivial⟩;rw[<-I];show PV.im (Value.int .i64 (min n 3001))=_;rw[show min n 3001=3001 by omega];rfl
 have hv:v=.nil:=rq (by rw[<-R,dn];omega);rw[hv,cntF,jm]at I;refine⟨?_,trivial⟩;rw[<-I];show PV.im (Value.int .i64 (min n 3001))=_;rw[show min n 3001=cap n by unfold cap;split<;>omega];rfl
theorem Ij(u:Steps)(d:u.ok)(z:u.rows.length<=1048576):af C 173 [.pv (.sl u.rows)] (.p (i64 (cntF u))) []:=(Steps.wR (Q:=R_) (fun u D I J=>B0 u D I J) u d).1 z
def fX(p:ic):Steps->Int->Int
 | .nil,_=>0
 | .cons s sub rest,d=>p8 (ij p s sub.rows.length d) (p8 (fX p sub (d+1)) (fX p rest d))
def iH(u:Int)(l:List dw)(i:Nat):Int:=match l[i]? with
 | some x=>p8 (rm u x) (if bg (l.map dw.name) i=true then 8 else 0)
 | none=>0
def cn(p:ic):Int:=if dR p.unit 1 1000=true then (if 200<p.tools.length then 2 else p8 (aG (iH p.unit p.tools) 0 p.tools.length) (if 3000<cntF p.steps then 2 else fX p p.steps 0)) else 1
structure ru(p:ic):Prop where
 tools:p.tools.length<=1048576/\∀t∈p.tools,Et t
 steps:p.steps.rows.length<=1048576/\p.steps.ok
def mE(p:ic)(u:Steps):Prop:=∀d:Int,0<=d->d<=6->(d<=5\/u.rows.length=0)->u.rows.length<=1048576->af C 144 [.pv (.ag (di p)),.pv (.sl u.rows),.pv (i64 d)] (.p (i64 (fX p u d))) []
theorem s9(p:ic)(hp:oW p)(u:Steps)(hs:u.every (mE p))(V:u.ok):mE p u:=by
 intro d ZK ZL ZM hN;refine fW hC Tryz.func144 rfl (by kernel_rfl) fun _=>?_;refine ax (fun x:Nat×Steps=>u.rows.drop x.1=x.2.rows/\x.2.every (mE p)/\x.2.ok/\fX p x.2 d=fX p u d/\x.1<=u.rows.length) (fun x=>[(2,.p (i64 d)),(3,.bx 3 0),(11,.p (.sl u.rows)),(12,.p (i64 u.rows.length)),(13,.p (i64 x.1))]) (fun _=>[(3,.box ((di p).map .p))]) (fun x=>u.rows.length-x.1) (0,u) _ (au.refl _ _) ⟨rfl,hs,V,rfl,ai _⟩ ⟨Z,Z,Z,Z,Z,Y⟩ ⟨Z,Y⟩ fun ⟨i,v⟩ hi tt h=>?_;obtain⟨J,N,O,z,W⟩:=hi;simp only at J N O z W;apply iW<;>intro R<;>try simp only[zB]at R
 all_goals try dsimp only at R
 ·cases v with
  | nil=>
   exfalso;have:=ah List.length J;simp[Steps.rows]at this;omega
  | cons s sub rest=>
   obtain⟨d1,d2,d3⟩:=gL J;obtain⟨r1,r2⟩:=N;obtain⟨o1,U,o3,o4⟩:=O;have we:∀k:Int,k=(i:Int)->0<=k/\u.rows[k.toNat]?=some (pg s sub.rows):=fun k hk=>by rw[hk];exact⟨by omega,by rw[bU];exact d1⟩
   rw[fX]at z;refine⟨(pg s sub.rows),(we _ rfl),_,_,(Ar p s sub.rows d hp o1 U),iW ?_ ?_⟩<;>intro D
   ·have D:ij p s sub.rows.length d≠0:=by simpa using D
    refine⟨?_,trivial⟩;rw[<-z,cu rfl D]
   have D:ij p s sub.rows.length d=0:=by simpa using D
   rw[dF D]at z;have ND:=Gj D;refine⟨⟨by first | omega | (dsimp only;omega),by first | omega | (dsimp only;omega)⟩,_,_,(r1 (d+1) (by omega) (by omega) (by omega) U),iW ?_ ?_⟩<;>intro I
   ·have I:fX p sub (d+1)≠0:=by simpa using I
    refine⟨?_,trivial⟩;rw[<-z,cu rfl I]
   have I:fX p sub (d+1)=0:=by simpa using I
   rw[dF I]at z;exact⟨⟨by first | omega | (dsimp only;omega),by first | omega | (dsimp only;omega)⟩,(i+1,rest),_,au.refl _ _,⟨d2,r2,o4,z,by dsimp only;omega⟩,by dsimp only;omega,⟨Z,Z,Z,Z,Z,Y⟩,⟨Z,Y⟩⟩
 have hv:v=.nil:=rq (by rw[<-J,dn];omega);rw[hv,fX]at z;refine⟨?_,trivial⟩;rw[<-z];rfl
theorem wS(p:ic)(hp:oW p)(u:Steps)(d:u.ok)(z:u.rows.length<=1048576):af C 144 [.pv (.ag (di p)),.pv (.sl u.rows),.pv (i64 0)] (.p (i64 (fX p u 0))) []:=(Steps.wR (Q:=mE p) (fun u D I=>s9 p hp u D I) u d).1 0 (by omega) (by omega) (by omega) z
def ou(p:ic)(u:Steps):Prop:=∀d:Int,0<=d->d<=6->(d<=5\/u.rows.length=0)->u.rows.length<=1048576->af C 174 [.pv (.ag (di p)),.pv (.sl u.rows),.pv (i64 d)] (.p (i64 (fX p u d))) []
theorem ua(p:ic)(hp:oW p)(u:Steps)(hs:u.every (ou p))(W:u.ok):ou p u:=by
 intro d ZK ZL ZM hN;refine fW hC Tryz.func174 rfl (by kernel_rfl) fun _=>?_;refine ax (fun x:Nat×Steps=>u.rows.drop x.1=x.2.rows/\x.2.every (ou p)/\x.2.ok/\fX p x.2 d=fX p u d/\x.1<=u.rows.length) (fun x=>[(1,.p (.sl u.rows)),(2,.p (i64 d)),(3,.bx 3 0),(7,.p (i64 x.1))]) (fun _=>[(3,.box ((di p).map .p))]) (fun x=>u.rows.length-x.1) (0,u) _ (au.refl _ _) ⟨rfl,hs,W,rfl,ai _⟩ ⟨Z,Z,Z,Z,Y⟩ ⟨Z,Y⟩ fun ⟨i,v⟩ hi tt h=>?_;obtain⟨J,N,O,z,q5⟩:=hi;simp only at J N O z q5;apply iW<;>intro R<;>try simp only[zB]at R
 all_goals try dsimp only at R
 ·cases v with
  | nil=>
   exfalso;have:=ah List.length J;simp[Steps.rows]at this;omega
  | cons s sub rest=>
   obtain⟨d1,d2,d3⟩:=gL J;obtain⟨r1,r2⟩:=N;obtain⟨o1,U,o3,o4⟩:=O;have V:∀k:Int,k=(i:Int)->0<=k/\u.rows[k.toNat]?=some (pg s sub.rows):=fun k hk=>by rw[hk];exact⟨by omega,by rw[bU];exact d1⟩
   rw[fX]at z;refine⟨(pg s sub.rows),(V _ rfl),_,_,(As p s sub.rows d hp o1 U),iW ?_ ?_⟩<;>intro D
   ·have D:ij p s sub.rows.length d≠0:=by simpa using D
    refine⟨?_,trivial⟩;rw[<-z,cu rfl D]
   have D:ij p s sub.rows.length d=0:=by simpa using D
   rw[dF D]at z;have ND:=Gj D;refine⟨(pg s sub.rows),(V _ rfl),⟨by first | omega | (dsimp only;omega),by first | omega | (dsimp only;omega)⟩,_,_,(r1 (d+1) (by omega) (by omega) (by omega) U),iW ?_ ?_⟩<;>intro I
   ·have I:fX p sub (d+1)≠0:=by simpa using I
    refine⟨?_,trivial⟩;rw[<-z,cu rfl I]
   have I:fX p sub (d+1)=0:=by simpa using I
   rw[dF I]at z;exact⟨⟨by first | omega | (dsimp only;omega),by first | omega | (dsimp only;omega)⟩,(i+1,rest),_,au.refl _ _,⟨d2,r2,o4,z,by dsimp only;omega⟩,by dsimp only;omega,⟨Z,Z,Z,Z,Y⟩,⟨Z,Y⟩⟩
 have hv:v=.nil:=rq (by rw[<-J,dn];omega);rw[hv,fX]at z;refine⟨?_,trivial⟩;rw[<-z];rfl
theorem yp(p:ic)(hp:oW p)(u:Steps)(d:u.ok)(z:u.rows.length<=1048576):af C 174 [.pv (.ag (di p)),.pv (.sl u.rows),.pv (i64 0)] (.p (i64 (fX p u 0))) []:=(Steps.wR (Q:=ou p) (fun u D I=>ua p hp u D I) u d).1 0 (by omega) (by omega) (by omega) z
theorem qu(p:ic)(ho:ru p):af C 64 [.pv (.ag (di p))] (.p (i64 (cn p))) []:=by
 refine fW hC Tryz.func64 rfl (by kernel_rfl) fun _=>?_;have lm:=ak p.tools BN;obtain⟨⟨Xs,UL⟩,O,R⟩:=ho;have Vo:=ke p.steps;refine⟨_,_,(ey p.unit 1 1000),iW ?_ ?_⟩<;>intro I
 ·refine⟨?_,trivial⟩;rw[cn,aa (by simp[I])];rfl
 have I:dR p.unit 1 1000=true:=by simpa using I
 have U:=dB.1 I;have hp:oW p:=⟨U,Xs⟩;rw[cn,ae I];apply iW<;>intro g1
 ·refine⟨?_,trivial⟩;rw[ae (by omega)];rfl
 rw[aa (by omega)];have V:∀{c:Int},aG (iH p.unit p.tools) 0 p.tools.length=c->c≠0->p8 (aG (iH p.unit p.tools) 0 p.tools.length) (if 3000<cntF p.steps then 2 else fX p p.steps 0)=c:=fun e N=>cu e N;refine ax (fun i:Nat=>i<=p.tools.length/\∀k,k<i->iH p.unit p.tools k=0) (fun i=>[(1,.bx 1 0),(15,.p (.sl (p.tools.map BN))),(16,.p (i64 p.tools.length)),(17,.p (i64 i))]) (fun _=>[(1,.box ((di p).map .p))]) (fun i=>p.tools.length-i) 0 _ (au.refl _ _) ⟨ai _,fun k h=>by omega⟩ ⟨rfl,rfl,ah (fun n:Nat=>AV.p (i64 n)) lm,Z,Y⟩ ⟨Z,Y⟩ fun i hi t h=>?_;apply iW<;>intro h1
 ·obtain⟨x,J⟩:=aj (l:=p.tools) (i:=i) (by omega);have d:iH p.unit p.tools i=p8 (rm p.unit x) (if bg (p.tools.map dw.name) i=true then 8 else 0):=by simp only[iH,J]
  refine⟨(BN x),(idx rfl J),_,_,(An x p.unit U (UL x (an J))),iW ?_ ?_⟩<;>intro u
  ·have u:rm p.unit x≠0:=by simpa using u
   rw[cu rfl u]at d;refine⟨?_,trivial⟩;rw[V (ao hi.2 (by omega) d u) u]
  have u:rm p.unit x=0:=by simpa using u
  rw[dF u]at d;apply iW<;>intro o1
  ·obtain⟨z,W⟩:=aj (l:=p.tools) (i:=i-1) (by omega);rw[dK (f:=dw.name) J W (by omega)]at d;refine⟨wO (by omega),(BN z),(idx (show (i:Int)-1=((i-1:Nat):Int) by omega) W),iW ?_ ?_⟩<;>intro D
   ·refine⟨?_,trivial⟩;have D:(cE (dw.name x) (dw.name z)||decide (dw.name x=dw.name z))=true:=by simpa [cE] using D
    rw[D,ae rfl]at d;rw[V (ao hi.2 (by omega) d (by decide)) (by decide)];rfl
   have D:(cE (dw.name x) (dw.name z)||decide (dw.name x=dw.name z))=false:=by simpa [cE] using D
   rw[D,aa (by decide)]at d;exact⟨wO (by omega),(i+1),_,au.refl _ _,⟨by omega,bO hi.2 d⟩,by omega,⟨Z,Z,Z,Z,Y⟩,⟨Z,Y⟩⟩
  have N:i=0:=by omega
  rw[fA N,aa (by decide)]at d;exact⟨wO (by omega),(i+1),_,au.refl _ _,⟨by omega,bO hi.2 d⟩,by omega,⟨Z,Z,Z,Z,Y⟩,⟨Z,Y⟩⟩
 skip;have z0:aG (iH p.unit p.tools) 0 p.tools.length=0:=aI fun k _ hk=>hi.2 k (by omega);rw[dF z0];refine⟨_,_,(Gm p.steps R O),iW ?_ ?_⟩<;>intro g3
 ·refine⟨?_,trivial⟩;rw[ae g3];rfl
 rw[aa g3];refine⟨_,_,(wS p hp p.steps R O),?_,trivial⟩;rfl
theorem rv(p:ic)(ho:ru p):af C 80 [.pv (.ag (di p))] (.p (i64 (cn p))) []:=by
 refine fW hC Tryz.func80 rfl (by kernel_rfl) fun _=>?_;have lm:=ak p.tools BN;obtain⟨⟨Xs,UL⟩,R,U⟩:=ho;have Vo:=ke p.steps;refine⟨_,_,(gu p.unit 1 1000),iW ?_ ?_⟩<;>intro I
 ·refine⟨?_,trivial⟩;rw[cn,aa (by simp[I])];rfl
 have I:dR p.unit 1 1000=true:=by simpa using I
 have V:=dB.1 I;have hp:oW p:=⟨V,Xs⟩;rw[cn,ae I];apply iW<;>intro g1
 ·refine⟨?_,trivial⟩;rw[ae (by omega)];rfl
 rw[aa (by omega)];have N:∀{c:Int},aG (iH p.unit p.tools) 0 p.tools.length=c->c≠0->p8 (aG (iH p.unit p.tools) 0 p.tools.length) (if 3000<cntF p.steps then 2 else fX p p.steps 0)=c:=fun e O=>cu e O;refine ax (fun i:Nat=>i<=p.tools.length/\∀k,k<i->iH p.unit p.tools k=0) (fun i=>[(1,.bx 1 0),(3,.p (i64 i))]) (fun _=>[(1,.box ((di p).map .p))]) (fun i=>p.tools.length-i) 0 _ (au.refl _ _) ⟨ai _,fun k h=>by omega⟩ ⟨Z,Z,Y⟩ ⟨Z,Y⟩ fun i hi t h=>?_;apply iW<;>intro h1
 ·obtain⟨x,J⟩:=aj (l:=p.tools) (i:=i) (by omega);have d:iH p.unit p.tools i=p8 (rm p.unit x) (if bg (p.tools.map dw.name) i=true then 8 else 0):=by simp only[iH,J]
  refine⟨(BN x),(idx rfl J),?_⟩;obtain⟨so,sr⟩:=UL x (an J);refine⟨_,_,(Ga x.name so.le),iW ?_ ?_⟩<;>intro W
  ·refine⟨?_,trivial⟩;rw[cu (c:=5) (by rw[rm,aa (by simp[W])]) (by decide)]at d;rw[N (ao hi.2 (by omega) d (by decide)) (by decide)];rfl
  have et:rm p.unit x=nm p.unit x.cd:=by rw[rm,ae (by simpa using W)]
  refine⟨_,_,(s8 x.cd p.unit V sr),iW ?_ ?_⟩<;>intro u
  ·have u:nm p.unit x.cd≠0:=by simpa using u
   rw[cu et u]at d;refine⟨?_,trivial⟩;rw[N (ao hi.2 (by omega) d u) u]
  have u:nm p.unit x.cd=0:=by simpa using u
  rw[dF (by rw[et,u])]at d;apply iW<;>intro o1
  ·obtain⟨z,hz⟩:=aj (l:=p.tools) (i:=i-1) (by omega);rw[dK (f:=dw.name) J hz (by omega)]at d;refine⟨wO (by omega),(BN z),(idx (show (i:Int)-1=((i-1:Nat):Int) by omega) hz),iW ?_ ?_⟩<;>intro D
   ·refine⟨?_,trivial⟩;have D:(cE (dw.name x) (dw.name z)||decide (dw.name x=dw.name z))=true:=by simpa [cE] using D
    rw[D,ae rfl]at d;rw[N (ao hi.2 (by omega) d (by decide)) (by decide)];rfl
   have D:(cE (dw.name x) (dw.name z)||decide (dw.name x=dw.name z))=false:=by simpa [cE] using D
   rw[D,aa (by decide)]at d;exact⟨wO (by omega),(i+1),_,au.refl _ _,⟨by omega,bO hi.2 d⟩,by omega,⟨Z,Z,Y⟩,⟨Z,Y⟩⟩
  have O:i=0:=by omega
  rw[fA O,aa (by decide)]at d;exact⟨wO (by omega),(i+1),_,au.refl _ _,⟨by omega,bO hi.2 d⟩,by omega,⟨Z,Z,Y⟩,⟨Z,Y⟩⟩
 skip;have z0:aG (iH p.unit p.tools) 0 p.tools.length=0:=aI fun k _ hk=>hi.2 k (by omega);rw[dF z0];refine⟨_,_,(Ij p.steps U R),iW ?_ ?_⟩<;>intro g3
 ·refine⟨?_,trivial⟩;rw[ae g3];rfl
 rw[aa g3];refine⟨_,_,(yp p hp p.steps U R),?_,trivial⟩;rfl
def vE{α:Type}(f:α->ByteArray)(l:List α)(x:ByteArray):Option α:=if 0<=ee f l x then l[(ee f l x).toNat]? else none
theorem kF{f:α->ByteArray}{l:List α}{x:ByteArray}(h:dX f l x=true):∃(k:Nat) (y:α),ee f l x=k/\l[k]?=some y/\f y=x/\vE f l x=some y:=by
 have d:0<=ee f l x:=by
  have:=iY (f:=f) (l:=l) (x:=x);rw[h]at this;have:=of_decide_eq_false this;omega
 obtain⟨k,y,u,z,D⟩:=rk d;exact⟨k,y,u,z,D,by rw[vE,ae d,u,bU,z]⟩
theorem mM{f:α->ByteArray}{l:List α}{x:ByteArray}(h:dX f l x=false):vE f l x=none:=by
 have:=iY (f:=f) (l:=l) (x:=x);rw[h]at this;have:=fO this;rw[vE,aa (by omega)]
structure Lay where
 name:ByteArray
 mat:ByteArray
def gJ(l:Lay):List PV:=[str l.name,str l.mat]
def m0:cw:=⟨ar,0,0,0⟩
def fw(m:List cw)(y:ByteArray):cw:=(vE cw.name m y).getD m0
def cg(m:List cw)(y:ByteArray):Int:=(fw m y).kind
def oC(l:List cw)(i:Nat):Int:=match l[i]? with
 | some x=>if ct x.name=true then (if dR x.kind 1 3=true then (if dR x.thick 1 2000=true then (if dR x.grow 0 1000=true then (if bg (l.map cw.name) i=true then 8 else 0) else 1) else 1) else 4) else 5
 | none=>0
def ff(l:List cw):Int:=if 50<l.length then 2 else aG (oC l) 0 l.length
def nn(l:List cw):Prop:=l.length<=1048576/\∀x∈l,bE x.name
structure ja(l:List cw):Prop where
 len:l.length<=50
 ord:dC cw.name l
 kind:∀x∈l,1<=x.kind/\x.kind<=3
 thick:∀x∈l,1<=x.thick/\x.thick<=2000
theorem kG{l:List cw}(h:ff l=0):ja l:=by
 unfold ff at h;split at h
 ·cases h
 have key:∀i x,l[i]?=some x->(1<=x.kind/\x.kind<=3)/\(1<=x.thick/\x.thick<=2000)/\bg (l.map cw.name) i=false:=fun i x u=>by
  have d:=fa h i (ai _) (by rw[aY];exact (aU.1 u).1);simp only[oC,u]at d;split at d
  ·split at d
   ·rename_i z;split at d
    ·rename_i D;split at d
     ·cases e:bg (l.map cw.name) i with
      | false=>exact⟨dB.1 z,dB.1 D,rfl⟩
      | true=>rw[e]at d;cases d
     cases d
    cases d
   cases d
  cases d
 have mem:∀x∈l,∃k:Nat,l[k]?=some x:=fun x u=>cI.1 u;exact⟨by omega,lF fun i hi=>(key i _ (aX hi)).2.2,fun x u=>by obtain⟨k,hk⟩:=mem x u;exact (key k x hk).1,fun x u=>by obtain⟨k,hk⟩:=mem x u;exact (key k x hk).2.1⟩
theorem NF{m:List cw}(d:ja m)(y:ByteArray):(dX cw.name m y=true/\1<=cg m y/\cg m y<=3)\/(dX cw.name m y=false/\cg m y=0):=by
 cases h:dX cw.name m y with
 | true=>
  obtain⟨k,x,_,u,_,z⟩:=kF h;refine .inl ⟨rfl,?_⟩;rw[cg,fw,z];exact d.kind x (an u)
 | false=>exact .inr ⟨rfl,by rw[cg,fw,mM h];rfl⟩
def nH(m:List cw)(s:List Lay)(i:Nat):Int:=if i=0 then 0 else match s[i-1]? with
 | some l=>cg m l.mat
 | none=>0
def nI(k b:Int):Prop:=(k=1/\b=1)\/(k=2/\b≠0/\b≠1)\/(b=2/\k≠1)
instance (k b:Int):Decidable (nI k b):=by unfold nI;infer_instance
def qv(s:List Lay)(n:ByteArray):Bool:=s.any fun l=>decide (l.name=n)
def e_(m:List cw)(s:List Lay)(i:Nat):Int:=match s[i]? with
 | some l=>if cg m l.mat=0 then 9 else if cg m l.mat=1/\ct l.name=false then 5 else if cg m l.mat≠1/\¬l.name=ar then 5 else if cg m l.mat=1/\qv (s.take i) l.name=true then 7 else if nI (cg m l.mat) (nH m s i) then 8 else 0
 | none=>0
def fo(m:List cw)(s:List Lay)(k:Nat):Bool:=match s[k]? with
 | some l=>decide (cg m l.mat=1)
 | none=>false
def cZ(m:List cw)(s:List Lay)(i:Nat):List Int:=((List.range i).filter (fo m s)).map fun k:Nat=>(k:Int)
def qa(m:List cw)(s:List Lay):Int:=if (cZ m s s.length).length<2 then 3 else if fo m s 0=false then 3 else if fo m s (s.length-1)=false then 3 else 0
def bH(m:List cw)(s:List Lay):Int:=p8 (ff m) (if 60<s.length then 2 else p8 (aG (e_ m s) 0 s.length) (qa m s))
def kZ(s:List Lay):Prop:=s.length<=1048576/\∀l∈s,bE l.name/\bE l.mat
theorem wT{m:List cw}{s:List Lay}{i:Nat}:cZ m s (i+1)=cZ m s i++(if fo m s i=true then [(i:Int)] else []):=by
 unfold cZ;rw[kY,iD,bz];congr 1;cases h:fo m s i<;>simp[h]
theorem ry{m:List cw}{s:List Lay}{i:Nat}:(cZ m s i).length<=i:=by
 unfold cZ;rw[aw];exact aO (nY _ _) (by simp)
theorem Gn{m:List cw}{s:List Lay}(h:¬(cZ m s s.length).length<2):2<=s.length:=by
 have:=ry (m:=m) (s:=s) (i:=s.length);omega
theorem yq(l:List cw)(U:nn l):af C 136 [.pv (.sl (l.map iX))] (.p (i64 (ff l))) []:=by
 refine fW hC Tryz.func136 rfl (by kernel_rfl) fun _=>?_;have V:=ak l iX;apply iW<;>intro g1
 ·refine⟨?_,trivial⟩;rw[ff,ae (by omega)];rfl
 rw[ff,aa (by omega)];refine ax (fun i:Nat=>i<=l.length/\∀k,k<i->oC l k=0) (fun i=>[(0,.p (.sl (l.map iX))),(8,.p (.sl (l.map iX))),(9,.p (i64 l.length)),(10,.p (i64 i))]) (fun _=>[]) (fun i=>l.length-i) 0 _ (au.refl _ _) ⟨ai _,fun k h=>by omega⟩ ⟨rfl,rfl,ah (fun n:Nat=>AV.p (i64 n)) V,Z,Y⟩ trivial fun i hi t h=>?_;apply iW<;>intro h1
 ·obtain⟨x,D⟩:=aj (l:=l) (i:=i) (by omega);have d:oC l i=(if ct x.name=true then (if dR x.kind 1 3=true then (if dR x.thick 1 2000=true then (if dR x.grow 0 1000=true then (if bg (l.map cw.name) i=true then 8 else 0) else 1) else 1) else 4) else 5):=by simp only[oC,D]
  refine⟨(iX x),(idx rfl D),?_⟩;have W:=U.2 x (an D);refine⟨_,_,(eY x.name W.le),iW ?_ ?_⟩<;>intro I
  ·refine⟨?_,trivial⟩;rw[aa (by simp[I])]at d;rw[ao hi.2 (by omega) d (by decide)];rfl
  rw[ae (by simpa using I)]at d;refine⟨_,_,(pY x.kind 1 3),iW ?_ ?_⟩<;>intro J
  ·refine⟨?_,trivial⟩;rw[aa (by simp[J])]at d;rw[ao hi.2 (by omega) d (by decide)];rfl
  rw[ae (by simpa using J)]at d;refine⟨_,_,(pY x.thick 1 2000),iW ?_ ?_⟩<;>intro N
  ·refine⟨?_,trivial⟩;rw[aa (by simp[N])]at d;rw[ao hi.2 (by omega) d (by decide)];rfl
  rw[ae (by simpa using N)]at d;refine⟨_,_,(pY x.grow 0 1000),iW ?_ ?_⟩<;>intro O
  ·refine⟨?_,trivial⟩;rw[aa (by simp[O])]at d;rw[ao hi.2 (by omega) d (by decide)];rfl
  rw[ae (by simpa using O)]at d;apply iW<;>intro o1
  ·obtain⟨z,R⟩:=aj (l:=l) (i:=i-1) (by omega);rw[dK (f:=cw.name) D R (by omega)]at d;refine⟨wO (by omega),(iX z),(idx (show (i:Int)-1=((i-1:Nat):Int) by omega) R),iW ?_ ?_⟩<;>intro u
   ·refine⟨?_,trivial⟩;have u:(cE (cw.name x) (cw.name z)||decide (cw.name x=cw.name z))=true:=by simpa [cE] using u
    rw[u,ae rfl]at d;rw[ao hi.2 (by omega) d (by decide)];rfl
   have u:(cE (cw.name x) (cw.name z)||decide (cw.name x=cw.name z))=false:=by simpa [cE] using u
   rw[u,aa (by decide)]at d;exact⟨wO (by omega),(i+1),_,au.refl _ _,⟨by omega,bO hi.2 d⟩,by omega,⟨Z,Z,Z,Z,Y⟩,trivial⟩
  have h0:i=0:=by omega
  rw[fA h0,aa (by decide)]at d;exact⟨wO (by omega),(i+1),_,au.refl _ _,⟨by omega,bO hi.2 d⟩,by omega,⟨Z,Z,Z,Z,Y⟩,trivial⟩
 refine⟨?_,trivial⟩;have z0:aG (oC l) 0 l.length=0:=aI fun k _ hk=>hi.2 k (by omega);rw[z0];rfl
theorem Av(l:List cw)(U:nn l):af C 167 [.pv (.sl (l.map iX))] (.p (i64 (ff l))) []:=by
 refine fW hC Tryz.func167 rfl (by kernel_rfl) fun _=>?_;have V:=ak l iX;apply iW<;>intro g1
 ·refine⟨?_,trivial⟩;rw[ff,ae (by omega)];rfl
 rw[ff,aa (by omega)];refine ax (fun i:Nat=>i<=l.length/\∀k,k<i->oC l k=0) (fun i=>[(0,.p (.sl (l.map iX))),(8,.p (.sl (l.map iX))),(9,.p (i64 l.length)),(10,.p (i64 i))]) (fun _=>[]) (fun i=>l.length-i) 0 _ (au.refl _ _) ⟨ai _,fun k h=>by omega⟩ ⟨rfl,rfl,ah (fun n:Nat=>AV.p (i64 n)) V,Z,Y⟩ trivial fun i hi t h=>?_;apply iW<;>intro h1
 ·obtain⟨x,D⟩:=aj (l:=l) (i:=i) (by omega);have d:oC l i=(if ct x.name=true then (if dR x.kind 1 3=true then (if dR x.thick 1 2000=true then (if dR x.grow 0 1000=true then (if bg (l.map cw.name) i=true then 8 else 0) else 1) else 1) else 4) else 5):=by simp only[oC,D]
  refine⟨(iX x),(idx rfl D),?_⟩;have W:=U.2 x (an D);refine⟨_,_,(xL x.name W.le),iW ?_ ?_⟩<;>intro I
  ·refine⟨?_,trivial⟩;rw[aa (by simp[I])]at d;rw[ao hi.2 (by omega) d (by decide)];rfl
  rw[ae (by simpa using I)]at d;refine⟨_,_,(lD x.kind 1 3),iW ?_ ?_⟩<;>intro J
  ·refine⟨?_,trivial⟩;rw[aa (by simp[J])]at d;rw[ao hi.2 (by omega) d (by decide)];rfl
  rw[ae (by simpa using J)]at d;refine⟨_,_,(lD x.thick 1 2000),iW ?_ ?_⟩<;>intro N
  ·refine⟨?_,trivial⟩;rw[aa (by simp[N])]at d;rw[ao hi.2 (by omega) d (by decide)];rfl
  rw[ae (by simpa using N)]at d;refine⟨_,_,(lD x.grow 0 1000),iW ?_ ?_⟩<;>intro O
  ·refine⟨?_,trivial⟩;rw[aa (by simp[O])]at d;rw[ao hi.2 (by omega) d (by decide)];rfl
  rw[ae (by simpa using O)]at d;apply iW<;>intro o1
  ·obtain⟨z,R⟩:=aj (l:=l) (i:=i-1) (by omega);rw[dK (f:=cw.name) D R (by omega)]at d;refine⟨wO (by omega),(iX z),(idx (show (i:Int)-1=((i-1:Nat):Int) by omega) R),iW ?_ ?_⟩<;>intro u
   ·refine⟨?_,trivial⟩;have u:(cE (cw.name x) (cw.name z)||decide (cw.name x=cw.name z))=true:=by simpa [cE] using u
    rw[u,ae rfl]at d;rw[ao hi.2 (by omega) d (by decide)];rfl
   have u:(cE (cw.name x) (cw.name z)||decide (cw.name x=cw.name z))=false:=by simpa [cE] using u
   rw[u,aa (by decide)]at d;exact⟨wO (by omega),(i+1),_,au.refl _ _,⟨by omega,bO hi.2 d⟩,by omega,⟨Z,Z,Z,Z,Y⟩,trivial⟩
  have h0:i=0:=by omega
  rw[fA h0,aa (by decide)]at d;exact⟨wO (by omega),(i+1),_,au.refl _ _,⟨by omega,bO hi.2 d⟩,by omega,⟨Z,Z,Z,Z,Y⟩,trivial⟩
 refine⟨?_,trivial⟩;have z0:aG (oC l) 0 l.length=0:=aI fun k _ hk=>hi.2 k (by omega);rw[z0];rfl
theorem oX(m:List cw)(y:ByteArray)(hs:dC cw.name m)(hN:m.length<=1000000):af C 137 [.pv (.sl (m.map iX)),.pv (str y)] (.tu [.ag (iX (fw m y)),bool (dX cw.name m y)]) []:=by
 refine fW hC Tryz.func137 rfl (by kernel_rfl) fun _=>?_;have hp:=lE (x:=y) hs;refine⟨_,_,(Ib m y hs (by omega)),iW ?_ ?_⟩<;>intro d
 ·refine⟨?_,trivial⟩;have d:dX cw.name m y=false:=by simpa using d
  rw[fw,mM d,d];rfl
 have d:dX cw.name m y=true:=by simpa using d
 rw[ae d]at hp;obtain⟨k,x,u,z,e3,D⟩:=kF d;refine⟨(iX x),(idx (hp.symm.trans u) z),?_,trivial⟩;rw[fw,D,d];rfl
theorem mF(m:List cw)(l:Lay)(hs:dC cw.name m)(d:m.length<=1000000):af C 140 [.pv (.sl (m.map iX)),.pv (.ag (gJ l))] (.p (i64 (cg m l.mat))) []:=by
 refine fW hC Tryz.func140 rfl (by kernel_rfl) fun _=>?_;refine⟨_,_,(oX m l.mat hs d),?_,trivial⟩;rfl
theorem gK(m:List cw)(y:ByteArray)(hN:m.length<=140737488355328):af C 276 [.pv (.sl (m.map iX)),.pv (str y)] (.p (.ag (iX (fw m y)))) []:=by
 refine fW hC Tryz.func276 rfl (by kernel_rfl) fun _=>?_;have D:=ak m iX;refine ax (fun i:Nat=>i<=m.length/\∀z∈m.take i,decide (z.name=y)=false) (fun i=>[(1,.p (str y)),(4,.bx 4 0),(7,.p (.sl (m.map iX))),(8,.p (i64 (m.map iX).length)),(9,.p (i64 i))]) (fun _=>[(4,.box ((iX m0).map .p))]) (fun i=>m.length-i) 0 _ (au.refl _ _) ⟨ai _,by simp⟩ ⟨Z,Z,Z,Z,Z,Y⟩ ⟨Z,Y⟩ fun i hi t h=>?_;apply iW<;>intro I
 ·rw[D]at I;obtain⟨r,u⟩:=aj (l:=m) (i:=i) (by omega);refine⟨(iX r),(idx rfl u),iW ?_ ?_⟩<;>intro d
  ·refine⟨?_,trivial⟩;have e:ee cw.name m y=(i:Int):=by rw[ee,cX (p:=fun z=>decide (cw.name z=y)) u (aP d) hi.2,aY]
   rw[fw,vE,ae (by omega),e,bU,u];rfl
  exact⟨wO (by omega),(i+1),_,au.refl _ _,⟨by omega,cN (p:=fun z=>decide (cw.name z=y)) u (aL d) hi.2⟩,by omega,⟨Z,Z,Z,Z,Z,Y⟩,⟨Z,Y⟩⟩
 rw[D]at I;refine⟨?_,trivial⟩;have d:=hi.2;rw[aW (by omega)]at d;have e:ee cw.name m y=-1:=by rw[ee,bW (p:=fun z=>decide (cw.name z=y)) d]
 rw[fw,vE,aa (by omega)];rfl
theorem oD(m:List cw)(l:Lay)(d:m.length<=140737488355328):af C 170 [.pv (.sl (m.map iX)),.pv (.ag (gJ l))] (.p (bool (decide (cg m l.mat=1)))) []:=by
 refine fW hC Tryz.func170 rfl (by kernel_rfl) fun _=>?_;refine⟨_,_,(gK m l.mat d),?_,trivial⟩;rfl
theorem oE(m:List cw)(s:List Lay)(hs:dC cw.name m)(J:m.length<=1000000)(hS:s.length<=1048576):af C 139 [.pv (.sl (m.map iX)),.pv (.sl (s.map gJ))] (.own 3 ((cZ m s s.length).map fun n=>[i64 n])) []:=by
 refine fW hC Tryz.func139 rfl (by kernel_rfl) fun _=>?_;have N:=ak s gJ;refine ax (fun i:Nat=>i<=s.length) (fun i=>[(0,.p (.sl (m.map iX))),(5,.ow 5),(8,.p (.sl (s.map gJ))),(9,.p (i64 s.length)),(10,.p (i64 i))]) (fun i=>[(5,.row 3 ((cZ m s i).map fun n=>[i64 n]))]) (fun i=>s.length-i) 0 _ (au.ed hC _ 5 3 _ (by decide) rfl rfl (by decide)) (ai _) ⟨rfl,rfl,rfl,ah (fun n:Nat=>AV.p (i64 n)) N,Z,Y⟩ ⟨Z,Y⟩ fun i hi t h=>?_;apply iW<;>intro h1
 ·obtain⟨x,u⟩:=aj (l:=s) (i:=i) (by omega);have z:fo m s i=decide (cg m x.mat=1):=by rw[fo,u]
  have d:=wT (m:=m) (s:=s) (i:=i);have hle:=ry (m:=m) (s:=s) (i:=i);have D:((cZ m s i).map fun n=>[i64 n]).length=(cZ m s i).length:=aw ..;refine⟨(gJ x),(idx rfl u),_,_,(mF m x hs J),iW ?_ ?_⟩<;>intro I
  ·rw[z,ae (aP I)]at d;exact⟨⟨by simp,by rw[D];simp;omega,by rw[D];simp;omega⟩,wO (by omega),(i+1),_,au.refl _ _,by omega,by omega,⟨Z,Z,Z,Z,Z,Y⟩,⟨by rw[d,bz];rfl,trivial⟩⟩
  rw[z,aa (by rw[aL I];decide),cQ]at d;exact⟨wO (by omega),(i+1),_,au.refl _ _,by omega,by omega,⟨Z,Z,Z,Z,Z,Y⟩,⟨by rw[d];rfl,trivial⟩⟩
 have e:i=s.length:=by omega
 rw[e];exact⟨Z,Z,Y⟩
theorem qb(m:List cw)(s:List Lay)(hN:m.length<=1000000)(hS:s.length<=1048576):af C 169 [.pv (.sl (m.map iX)),.pv (.sl (s.map gJ))] (.own 3 ((cZ m s s.length).map fun n=>[i64 n])) []:=by
 refine fW hC Tryz.func169 rfl (by kernel_rfl) fun _=>?_;have J:=ak s gJ;refine ax (fun i:Nat=>i<=s.length) (fun i=>[(0,.p (.sl (m.map iX))),(5,.ow 5),(8,.p (.sl (s.map gJ))),(9,.p (i64 s.length)),(10,.p (i64 i))]) (fun i=>[(5,.row 3 ((cZ m s i).map fun n=>[i64 n]))]) (fun i=>s.length-i) 0 _ (au.ed hC _ 5 3 _ (by decide) rfl rfl (by decide)) (ai _) ⟨rfl,rfl,rfl,ah (fun n:Nat=>AV.p (i64 n)) J,Z,Y⟩ ⟨Z,Y⟩ fun i hi t h=>?_;apply iW<;>intro h1
 ·obtain⟨x,u⟩:=aj (l:=s) (i:=i) (by omega);have z:fo m s i=decide (cg m x.mat=1):=by rw[fo,u]
  have d:=wT (m:=m) (s:=s) (i:=i);have hle:=ry (m:=m) (s:=s) (i:=i);have D:((cZ m s i).map fun n=>[i64 n]).length=(cZ m s i).length:=aw ..;refine⟨(gJ x),(idx rfl u),_,_,(oD m x (by omega)),iW ?_ ?_⟩<;>intro I
  ·rw[z,ae (aP I)]at d;exact⟨⟨by simp,by rw[D];simp;omega,by rw[D];simp;omega⟩,wO (by omega),(i+1),_,au.refl _ _,by omega,by omega,⟨Z,Z,Z,Z,Z,Y⟩,⟨by rw[d,bz];rfl,trivial⟩⟩
  rw[z,aa (by rw[aL I];decide),cQ]at d;exact⟨wO (by omega),(i+1),_,au.refl _ _,by omega,by omega,⟨Z,Z,Z,Z,Z,Y⟩,⟨by rw[d];rfl,trivial⟩⟩
 have e:i=s.length:=by omega
 rw[e];exact⟨Z,Z,Y⟩
end M
end Go.Proofs.YtnpkopkpbgflnaaGreatDoor
