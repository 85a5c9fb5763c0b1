/- Part 9 of the proof of HouseDrillingMatchesSpec. -/
import Derived.Test.YtnpkopkpbgflnaaGreatDoorG08
import Derived.Lib.ItoaLen
import Derived.Lib.AppendIntMem
import Derived.Lib.SmallJoins
set_option linter.unusedVariables false
set_option linter.unusedSimpArgs false
set_option maxRecDepth 100000
set_option maxHeartbeats 8000000
namespace Go.Proofs.YtnpkopkpbgflnaaGreatDoor
namespace M
open Go.AM Go.RowKit Go.Lib
open Reg (aZ cR gQ)
variable {s:List Lay} {l:Lay}
theorem Ik{i:Nat}(h:s[i]?=some l)(n:ByteArray):qv (s.take (i+1)) n=(qv (s.take i) n||decide (l.name=n)):=by
 rw[aN h,qv,mz];simp[qv]
theorem wU{m:List cw}{i:Nat}(h:s[i]?=some l):nH m s (i+1)=cg m l.mat:=by
 unfold nH;rw[aa (by omega),Nat.add_sub_cancel,h]
theorem Gp{m:List cw}{i:Nat}(hi:i<=s.length)(z:∀k,k<i->e_ m s k=0)(h0:0<i):nH m s i≠0:=by
 obtain⟨l,u⟩:=aj (l:=s) (i:=i-1) (by omega);have d:=z (i-1) (by omega);unfold nH;rw[aa (by omega),u];intro e;simp only[e_,u]at d;rw[ae e]at d;cases d
theorem sM{m:List cw}{k:Nat}(h:s[k]?=some l):fo m s k=decide (cg m l.mat=1):=by rw[fo,h]
theorem oY(m:List cw)(s:List Lay)(hm:nn m)(hs:kZ s):af C 62 [.pv (.sl (m.map iX)),.pv (.sl (s.map gJ))] (.p (i64 (bH m s))) []:=by
 refine fW hC Tryz.func62 rfl (by kernel_rfl) fun _=>?_;have lm:=ak s gJ;refine⟨_,_,(yq m hm),iW ?_ ?_⟩<;>intro J
 ·have J:ff m≠0:=by simpa using J
  refine⟨?_,trivial⟩;rw[bH,cu rfl J]
 have J:ff m=0:=by simpa using J
 have N:=kG J;have gl:=N.len;rw[bH,dF J];apply iW<;>intro g2
 ·refine⟨?_,trivial⟩;rw[ae (by omega)];rfl
 rw[aa (by omega)];have Aw:=oE m s N.ord (by omega) hs.1;have hcl:=ak (cZ m s s.length) fun n=>[i64 n];refine ax (fun p:Nat×List (Value×PV)=>p.1<=s.length/\(∀k,k<p.1->e_ m s k=0)/\∀n,kv p.2 (.string n)=if qv (s.take p.1) n=true then some (bool true) else none) (fun p=>[(0,.p (.sl (m.map iX))),(1,.p (.sl (s.map gJ))),(6,.ow 22),(7,.p (i64 (nH m s p.1))),(23,.p (.sl (s.map gJ))),(24,.p (i64 s.length)),(25,.p (i64 p.1))]) (fun p=>[(22,.map .str p.2)]) (fun p=>s.length-p.1) (0,[]) _ (au.refl _ _) ⟨ai _,fun k h=>by simp only at h;omega,fun n=>rfl⟩ ⟨rfl,rfl,rfl,rfl,rfl,ah (fun n:Nat=>AV.p (i64 n)) lm,Z,Y⟩ ⟨Z,Y⟩ fun ⟨i,es⟩ hi tt h=>?_;obtain⟨q1,W,q3⟩:=hi;simp only at q1 W q3;apply iW<;>intro h1<;>try simp only[zB]at h1
 ·obtain⟨l,U⟩:=aj (l:=s) (i:=i) (by omega);have u:e_ m s i=(if cg m l.mat=0 then 9 else if cg m l.mat=1/\ct l.name=false then 5 else if cg m l.mat≠1/\¬l.name=ar then 5 else if cg m l.mat=1/\qv (s.take i) l.name=true then 7 else if nI (cg m l.mat) (nH m s i) then 8 else 0):=by simp only[e_,U]
  have z:∀{c:Int},e_ m s i=c->c≠0->aG (e_ m s) 0 s.length=c:=fun e h0=>ao W (by omega) e h0;obtain⟨so,Nx⟩:=hs.2 l (an U);have q:=q3 l.name;have hb:=wU (m:=m) U;refine⟨(gJ l),(idx rfl U),_,_,(oX m l.mat N.ord (by omega)),?_⟩;rcases NF N l.mat with⟨k1,k2,k3⟩ | ⟨k1,k2⟩;rotate_left
  ·apply iW<;>intro V
   ·refine⟨?_,trivial⟩;rw[ae k2]at u;rw[cu (z u (by decide)) (by decide)];rfl
   exfalso;rw[k1]at V;simp at V
  have uG:cg m l.mat=(fw m l.mat).kind:=rfl;generalize cg m l.mat=K at *;rw[aa (by omega)]at u;apply iW<;>intro V
  ·exfalso;rw[k1]at V;simp at V
  have keys:∀n,kv (lO es (.string l.name) (bool true)) (.string n)=if qv (s.take (i+1)) n=true then some (bool true) else none:=fun n=>by
   rw[wM,Ik U];by_cases e:n=l.name
   ·rw[ae e,e];simp
   rw[aa e,q3 n,aL (fun e2=>e e2.symm),nX]
  have fin:¬nI K (nH m s i)->e_ m s i=(if nI K (nH m s i) then 8 else 0)->∀k,k<i+1->e_ m s k=0:=fun h0 e=>bO W (by rw[e,aa h0]);apply iW<;>intro D
  ·have D:K=1:=by rw[uG];exact D
   refine⟨_,_,(eY l.name so.le),iW ?_ ?_⟩<;>intro I
   ·refine⟨?_,trivial⟩;rw[ae ⟨D,by simpa using I⟩]at u;rw[cu (z u (by decide)) (by decide)];rfl
   rw[aa (fun e=>by simp[e.2]at I),aa (fun e=>e.1 D)]at u;apply iW<;>intro a4
   ·exfalso;omega
   apply iW<;>intro a5;rotate_left
   ·exfalso;omega
   cases hS:qv (s.take i) l.name with
   | true=>
    rw[hS]at q u;refine⟨(some (bool true)),q,?_,trivial⟩;rw[ae ⟨D,rfl⟩]at u;rw[cu (z u (by decide)) (by decide)];rfl
   | false=>
    rw[hS]at q u;rw[aa (fun e=>by cases e.2)]at u;refine⟨none,q,?_⟩
    repeat' apply iW<;>intro d<;>try simp only[zB]at d
    all_goals skip
    all_goals first
     | (exfalso;omega)
     | (
       refine⟨⟨by dsimp only;omega,by dsimp only;omega⟩,?_⟩;refine⟨(i+1,lO es (.string l.name) (bool true)),_,au.refl _ _,?_⟩;exact⟨⟨by dsimp only;omega,fin (by unfold nI;omega) u,keys⟩,by dsimp only;omega,⟨rfl,rfl,rfl,bc (by rw[<-uG];exact hb.symm),Z,Z,Z,Y⟩,⟨Z,Y⟩⟩)
     | (
       refine⟨?_,trivial⟩;rw[ae (by unfold nI;omega)]at u;rw[cu (z u (by decide)) (by decide)];rfl)
  have D:¬K=1:=by rw[uG];exact D
  rw[aa (fun e=>D e.1)]at u;apply iW<;>intro a4;rotate_left
  ·exfalso;omega
  apply iW<;>intro I
  ·have I:¬l.name=ar:=I;refine⟨?_,trivial⟩;rw[ae ⟨D,I⟩]at u;rw[cu (z u (by decide)) (by decide)];rfl
  have I:l.name=ar:=by simpa [ar] using I
  rw[aa (fun e=>e.2 I),aa (fun e=>D e.1)]at u
  repeat' apply iW<;>intro d<;>try simp only[zB]at d
  all_goals skip
  all_goals first
   | (exfalso;omega)
   | (
     refine⟨⟨by dsimp only;omega,by dsimp only;omega⟩,?_⟩;refine⟨(i+1,lO es (.string l.name) (bool true)),_,au.refl _ _,?_⟩;exact⟨⟨by dsimp only;omega,fin (by unfold nI;omega) u,keys⟩,by dsimp only;omega,⟨rfl,rfl,rfl,bc (by rw[<-uG];exact hb.symm),Z,Z,Z,Y⟩,⟨Z,Y⟩⟩)
   | (
     refine⟨?_,trivial⟩;rw[ae (by unfold nI;omega)]at u;rw[cu (z u (by decide)) (by decide)];rfl)
 have z0:aG (e_ m s) 0 s.length=0:=aI fun k _ hk=>W k (by omega);rw[dF z0];refine⟨_,_,Aw,iW ?_ ?_⟩<;>intro e1
 ·refine⟨?_,trivial⟩;rw[qa,ae (by omega)];rfl
 have e2:=Gn (m:=m) (s:=s) (by omega);rw[qa,aa (by omega)];obtain⟨l,hl⟩:=aj (l:=s) (i:=0) (by omega);obtain⟨l2,ye⟩:=aj (l:=s) (i:=s.length-1) (by omega);rw[sM hl,sM ye];refine⟨(gJ l),(idx (k:=0) rfl hl),_,_,(mF m l N.ord (by omega)),iW ?_ ?_⟩<;>intro O
 ·have O:¬cg m l.mat=1:=O;refine⟨?_,trivial⟩;rw[aL O];rfl
 have O:cg m l.mat=1:=by simpa using O
 rw[aP O,aa (by decide)];refine⟨wO (by omega),(gJ l2),(idx (show ((((s.map gJ).length:Nat):Int)-1)=((s.length-1:Nat):Int) by omega) ye),_,_,(mF m l2 N.ord (by omega)),iW ?_ ?_⟩<;>intro R
 ·have R:¬cg m l2.mat=1:=R;refine⟨?_,trivial⟩;rw[aL R];rfl
 have R:cg m l2.mat=1:=by simpa using R
 rw[aP R,aa (by decide)];refine⟨?_,trivial⟩;rfl
theorem yr(m:List cw)(s:List Lay)(i:Nat)(hi:i<s.length)(gm:ja m)(hs:kZ s)(hq:∀k,k<i->e_ m s k=0):af C 168 [.pv (.sl (m.map iX)),.pv (.sl (s.map gJ)),.pv (i64 i)] (.p (i64 (e_ m s i))) []:=by
 refine fW hC Tryz.func168 rfl (by kernel_rfl) fun _=>?_;have lm:=ak s gJ;have gl:=gm.len;have Ch:=hs.1;obtain⟨l,O⟩:=aj (l:=s) (i:=i) (by omega);obtain⟨so,Nx⟩:=hs.2 l (an O);have u:e_ m s i=(if cg m l.mat=0 then 9 else if cg m l.mat=1/\ct l.name=false then 5 else if cg m l.mat≠1/\¬l.name=ar then 5 else if cg m l.mat=1/\qv (s.take i) l.name=true then 7 else if nI (cg m l.mat) (nH m s i) then 8 else 0):=by simp only[e_,O]
 have V:cg m l.mat=(fw m l.mat).kind:=rfl;have W:(0<i->nH m s i≠0):=Gp (by omega) hq;have e9:i=0->nH m s i=0:=fun e=>by rw[nH,ae e]
 have Tg:∀z,s[i-1]?=some z->0<i->nH m s i=(fw m z.mat).kind:=fun z D h0=>by
  unfold nH;rw[aa (by omega),D];rfl
 refine⟨(gJ l),(idx rfl O),_,_,(gK m l.mat (by omega)),?_⟩;generalize cg m l.mat=K at *;apply iW<;>intro R
 ·have R:K=0:=by rw[V];exact R
  refine⟨?_,trivial⟩;rw[u,ae R];rfl
 have R:¬K=0:=by rw[V];exact R
 rw[aa R]at u;have tail:¬i=0->∀z,s[i-1]?=some z->e_ m s i=(if nI K (nH m s i) then 8 else 0)->e_ m s i=(if nI K (nH m s i) then 8 else 0):=fun _ _ _ h=>h;apply iW<;>intro I
 ·have I:K=1:=by rw[V];exact I
  refine⟨(gJ l),(idx rfl O),_,_,(xL l.name so.le),iW ?_ ?_⟩<;>intro N
  ·refine⟨?_,trivial⟩;rw[u,ae ⟨I,by simpa using N⟩];rfl
  rw[aa (fun e=>by simp[e.2]at N),aa (fun e=>e.1 I)]at u;apply iW<;>intro a4
  ·exfalso;omega
  apply iW<;>intro a5;rotate_left
  ·exfalso;omega
  have et:(s.map gJ).take i=(s.take i).map gJ:=iC.symm;have el:((s.map gJ).take i).length=i:=by rw[aV];omega
  refine⟨⟨by omega,by omega,by omega,j_ fun _=>rfl⟩,?_⟩;refine ax (fun j:Nat=>j<=i/\∀z∈(s.take i).take j,decide (z.name=l.name)=false) (fun j=>[(0,.p (.sl (m.map iX))),(1,.p (.sl (s.map gJ))),(2,.p (i64 i)),(7,.p (i64 (fw m l.mat).kind)),(48,.p (.sl ((s.map gJ).take i))),(49,.p (i64 i)),(50,.p (i64 j))]) (fun _=>[]) (fun j=>i-j) 0 _ (au.refl _ _) ⟨ai _,by simp⟩ ⟨rfl,rfl,rfl,rfl,rfl,ah (fun n:Nat=>AV.p (i64 n)) el,Z,Y⟩ trivial fun j hj tt h=>?_;apply iW<;>intro b1
  ·obtain⟨z,D⟩:=aj (l:=s.take i) (i:=j) (by rw[aV];omega);rw[et];refine⟨(gJ z),(idx rfl D),(gJ l),(idx rfl O),iW ?_ ?_⟩<;>intro U
   ·have U:z.name=l.name:=U;refine⟨?_,trivial⟩;rw[u,ae ⟨I,gz.2 ⟨z,an D,aP U⟩⟩];rfl
   have U:¬z.name=l.name:=U;rw[<-et];exact⟨wO (by omega),(j+1),_,au.refl _ _,⟨by omega,cN (p:=fun y:Lay=>decide (y.name=l.name)) D (aL U) hj.2⟩,by omega,⟨Z,Z,Z,Z,Z,Z,Z,Y⟩,trivial⟩
  have Bx:qv (s.take i) l.name=false:=by
   rw[qv,jY];intro z D;have:=hj.2 z (by rw[aW (by rw[aV];omega)];exact D);simp[this]
  rw[aa (fun e=>by rw[Bx]at e;cases e.2)]at u;apply iW<;>intro J
  ·refine⟨?_,trivial⟩;have J:i=0:=by omega
   rw[u,aa (by rw[e9 J];unfold nI;omega)];rfl
  have J:0<i:=by omega
  obtain⟨z,D⟩:=aj (l:=s) (i:=i-1) (by omega);have W:=W J;have Tg:=Tg z D J;refine⟨wO (by omega),(gJ z),(idx (show (i:Int)-1=((i-1:Nat):Int) by omega) D),_,_,(gK m z.mat (by omega)),?_⟩
  repeat' apply iW<;>intro d
  all_goals skip
  all_goals first
   | (exfalso;omega)
   | (
     refine⟨?_,trivial⟩;rw[u]
     first
      | (rw[ae (by unfold nI;omega)];rfl)
      | (rw[aa (by unfold nI;omega)];rfl))
 have I:¬K=1:=by rw[V];exact I
 rw[aa (fun e=>I e.1)]at u;apply iW<;>intro a5;rotate_left
 ·exfalso;omega
 refine⟨(gJ l),(idx rfl O),iW ?_ ?_⟩<;>intro N
 ·have N:¬l.name=ar:=N;refine⟨?_,trivial⟩;rw[u,ae ⟨I,N⟩];rfl
 have N:l.name=ar:=by simpa [ar] using N
 rw[aa (fun e=>e.2 N),aa (fun e=>I e.1)]at u;apply iW<;>intro a4
 ·exfalso;exact I (by rw[V];exact a4)
 apply iW<;>intro J
 ·refine⟨?_,trivial⟩;have J:i=0:=by omega
  rw[u,aa (by rw[e9 J];unfold nI;omega)];rfl
 have J:0<i:=by omega
 obtain⟨z,D⟩:=aj (l:=s) (i:=i-1) (by omega);have W:=W J;have Tg:=Tg z D J;refine⟨wO (by omega),(gJ z),(idx (show (i:Int)-1=((i-1:Nat):Int) by omega) D),_,_,(gK m z.mat (by omega)),?_⟩
 repeat' apply iW<;>intro d
 all_goals skip
 all_goals first
  | (exfalso;omega)
  | (
    refine⟨?_,trivial⟩;rw[u]
    first
     | (rw[ae (by unfold nI;omega)];rfl)
     | (rw[aa (by unfold nI;omega)];rfl))
theorem qw(m:List cw)(s:List Lay)(R:nn m)(hs:kZ s):af C 78 [.pv (.sl (m.map iX)),.pv (.sl (s.map gJ))] (.p (i64 (bH m s))) []:=by
 refine fW hC Tryz.func78 rfl (by kernel_rfl) fun _=>?_;have U:=ak s gJ;refine⟨_,_,(Av m R),iW ?_ ?_⟩<;>intro d
 ·have d:ff m≠0:=by simpa using d
  refine⟨?_,trivial⟩;rw[bH,cu rfl d]
 have d:ff m=0:=by simpa using d
 have J:=kG d;have gl:=J.len;rw[bH,dF d];apply iW<;>intro g2
 ·refine⟨?_,trivial⟩;rw[ae (by omega)];rfl
 rw[aa (by omega)];have V:=qb m s (by omega) hs.1;have hcl:=ak (cZ m s s.length) fun n=>[i64 n];refine ax (fun i:Nat=>i<=s.length/\∀k,k<i->e_ m s k=0) (fun i=>[(0,.p (.sl (m.map iX))),(1,.p (.sl (s.map gJ))),(17,.p (i64 s.length)),(18,.p (i64 i))]) (fun _=>[]) (fun i=>s.length-i) 0 _ (au.refl _ _) ⟨ai _,fun k h=>by omega⟩ ⟨rfl,rfl,ah (fun n:Nat=>AV.p (i64 n)) U,Z,Y⟩ trivial fun i hi tt h=>?_;apply iW<;>intro h1
 ·refine⟨_,_,(yr m s i (by omega) J hs hi.2),iW ?_ ?_⟩<;>intro u
  ·have u:e_ m s i≠0:=by simpa using u
   refine⟨?_,trivial⟩;rw[cu (ao hi.2 (by omega) rfl u) u]
  have u:e_ m s i=0:=by simpa using u
  exact⟨wO (by omega),(i+1),_,au.refl _ _,⟨by omega,bO hi.2 u⟩,by omega,⟨Z,Z,Z,Z,Y⟩,trivial⟩
 have W:aG (e_ m s) 0 s.length=0:=aI fun k _ hk=>hi.2 k (by omega);rw[dF W];refine⟨_,_,V,iW ?_ ?_⟩<;>intro e1
 ·refine⟨?_,trivial⟩;rw[qa,ae (by omega)];rfl
 have e2:=Gn (m:=m) (s:=s) (by omega);rw[qa,aa (by omega)];obtain⟨l,N⟩:=aj (l:=s) (i:=0) (by omega);obtain⟨I,O⟩:=aj (l:=s) (i:=s.length-1) (by omega);rw[sM N,sM O];refine⟨(gJ l),(idx (k:=0) rfl N),_,_,(oD m l (by omega)),iW ?_ ?_⟩<;>intro z
 ·have z:decide (cg m l.mat=1)=false:=by simpa using z
  refine⟨?_,trivial⟩;rw[z];rfl
 have z:decide (cg m l.mat=1)=true:=by simpa using z
 rw[z,aa (by decide)];refine⟨wO (by omega),(gJ I),(idx (show ((((s.map gJ).length:Nat):Int)-1)=((s.length-1:Nat):Int) by omega) O),_,_,(oD m I (by omega)),iW ?_ ?_⟩<;>intro D
 ·have D:decide (cg m I.mat=1)=false:=by simpa using D
  refine⟨?_,trivial⟩;rw[D];rfl
 have D:decide (cg m I.mat=1)=true:=by simpa using D
 rw[D,aa (by decide)];refine⟨?_,trivial⟩;rfl
structure Place where
 part:ByteArray
 type:ByteArray
 x:Int
 y:Int
 quarters:Int
 below:Bool
def Gq(p:Place):List PV:=[str p.part,str p.type,i64 p.x,i64 p.y,i64 p.quarters,bool p.below]
def b0:Body:=⟨ar,0,0,0,ar⟩
def k_(l:List Body)(i:Nat):Int:=match l[i]? with
 | some x=>if ct x.name=true then (if dR x.w 1 100000=true then (if dR x.h 1 100000=true then (if dR x.tall 1 100000=true then (if ct x.nozzle=true then (if bg (l.map Body.name) i=true then 8 else 0) else 5) else 1) else 1) else 1) else 5
 | none=>0
def dx(l:List Body):Int:=if 200<l.length then 2 else aG (k_ l) 0 l.length
def rz(l:List Body):Prop:=l.length<=1048576/\∀x∈l,bE x.name/\bE x.nozzle
structure Il(l:List Body):Prop where
 len:l.length<=200
 ord:dC Body.name l
theorem xQ{l:List Body}(h:dx l=0):Il l:=by
 unfold dx at h;split at h
 ·cases h
 refine⟨by omega,lF fun i hi=>?_⟩;have d:=fa h i (ai _) (by omega);obtain⟨x,u⟩:=aj (l:=l) (i:=i) hi;simp only[k_,u]at d;cases e:bg (l.map Body.name) i with
 | false=>rfl
 | true=>
      rw[e]at d;repeat' split at d
      all_goals first | (cases d;done) | (rename_i z;exact absurd rfl z)
def ik(b:List Body)(x:Place):Int:=if gh x.part=true then (if dX Body.name b x.type=true then (if (Reg.kC x.x&&Reg.kC x.y)=true then (if dR x.quarters 0 3=true then 0 else 1) else 1) else 9) else 5
def kf(b:List Body)(l:List Place)(i:Nat):Int:=match l[i]? with
 | some x=>p8 (ik b x) (if bg (l.map Place.part) i=true then 8 else 0)
 | none=>0
def dy(b:List Body)(l:List Place):Int:=p8 (dx b) (if 1000<l.length then 2 else aG (kf b l) 0 l.length)
def Ax(l:List Place):Prop:=l.length<=1048576/\∀x∈l,bE x.part/\bE x.type
theorem vF(l:List Body)(V:rz l):af C 145 [.pv (.sl (l.map rj))] (.p (i64 (dx l))) []:=by
 refine fW hC Tryz.func145 rfl (by kernel_rfl) fun _=>?_;have W:=ak l rj;apply iW<;>intro g1
 ·refine⟨?_,trivial⟩;rw[dx,ae (by omega)];rfl
 rw[dx,aa (by omega)];refine ax (fun i:Nat=>i<=l.length/\∀k,k<i->k_ l k=0) (fun i=>[(0,.p (.sl (l.map rj))),(8,.p (.sl (l.map rj))),(9,.p (i64 l.length)),(10,.p (i64 i))]) (fun _=>[]) (fun i=>l.length-i) 0 _ (au.refl _ _) ⟨ai _,fun k h=>by omega⟩ ⟨rfl,rfl,ah (fun n:Nat=>AV.p (i64 n)) W,Z,Y⟩ trivial fun i hi t h=>?_;apply iW<;>intro h1
 ·obtain⟨x,D⟩:=aj (l:=l) (i:=i) (by omega);have d:k_ l i=(if ct x.name=true then (if dR x.w 1 100000=true then (if dR x.h 1 100000=true then (if dR x.tall 1 100000=true then (if ct x.nozzle=true then (if bg (l.map Body.name) i=true then 8 else 0) else 5) else 1) else 1) else 1) else 5):=by simp only[k_,D]
  refine⟨(rj x),(idx rfl D),?_⟩;obtain⟨so,Nx⟩:=V.2 x (an D);refine⟨_,_,(eY x.name so.le),iW ?_ ?_⟩<;>intro I
  ·refine⟨?_,trivial⟩;rw[aa (by simp[I])]at d;rw[ao hi.2 (by omega) d (by decide)];rfl
  rw[ae (by simpa using I)]at d;refine⟨_,_,(mC x.w 1 100000),iW ?_ ?_⟩<;>intro J
  ·refine⟨?_,trivial⟩;rw[aa (by simp[J])]at d;rw[ao hi.2 (by omega) d (by decide)];rfl
  rw[ae (by simpa using J)]at d;refine⟨_,_,(mC x.h 1 100000),iW ?_ ?_⟩<;>intro N
  ·refine⟨?_,trivial⟩;rw[aa (by simp[N])]at d;rw[ao hi.2 (by omega) d (by decide)];rfl
  rw[ae (by simpa using N)]at d;refine⟨_,_,(mC x.tall 1 100000),iW ?_ ?_⟩<;>intro O
  ·refine⟨?_,trivial⟩;rw[aa (by simp[O])]at d;rw[ao hi.2 (by omega) d (by decide)];rfl
  rw[ae (by simpa using O)]at d;refine⟨_,_,(eY x.nozzle Nx.le),iW ?_ ?_⟩<;>intro R
  ·refine⟨?_,trivial⟩;rw[aa (by simp[R])]at d;rw[ao hi.2 (by omega) d (by decide)];rfl
  rw[ae (by simpa using R)]at d;apply iW<;>intro o1
  ·obtain⟨z,U⟩:=aj (l:=l) (i:=i-1) (by omega);rw[dK (f:=Body.name) D U (by omega)]at d;refine⟨wO (by omega),(rj z),(idx (show (i:Int)-1=((i-1:Nat):Int) by omega) U),iW ?_ ?_⟩<;>intro u
   ·refine⟨?_,trivial⟩;have u:(cE (Body.name x) (Body.name z)||decide (Body.name x=Body.name z))=true:=by simpa [cE] using u
    rw[u,ae rfl]at d;rw[ao hi.2 (by omega) d (by decide)];rfl
   have u:(cE (Body.name x) (Body.name z)||decide (Body.name x=Body.name z))=false:=by simpa [cE] using u
   rw[u,aa (by decide)]at d;exact⟨wO (by omega),(i+1),_,au.refl _ _,⟨by omega,bO hi.2 d⟩,by omega,⟨Z,Z,Z,Z,Y⟩,trivial⟩
  have h0:i=0:=by omega
  rw[fA h0,aa (by decide)]at d;exact⟨wO (by omega),(i+1),_,au.refl _ _,⟨by omega,bO hi.2 d⟩,by omega,⟨Z,Z,Z,Z,Y⟩,trivial⟩
 refine⟨?_,trivial⟩;have z0:aG (k_ l) 0 l.length=0:=aI fun k _ hk=>hi.2 k (by omega);rw[z0];rfl
theorem vG(l:List Body)(V:rz l):af C 175 [.pv (.sl (l.map rj))] (.p (i64 (dx l))) []:=by
 refine fW hC Tryz.func175 rfl (by kernel_rfl) fun _=>?_;have W:=ak l rj;apply iW<;>intro g1
 ·refine⟨?_,trivial⟩;rw[dx,ae (by omega)];rfl
 rw[dx,aa (by omega)];refine ax (fun i:Nat=>i<=l.length/\∀k,k<i->k_ l k=0) (fun i=>[(0,.p (.sl (l.map rj))),(8,.p (.sl (l.map rj))),(9,.p (i64 l.length)),(10,.p (i64 i))]) (fun _=>[]) (fun i=>l.length-i) 0 _ (au.refl _ _) ⟨ai _,fun k h=>by omega⟩ ⟨rfl,rfl,ah (fun n:Nat=>AV.p (i64 n)) W,Z,Y⟩ trivial fun i hi t h=>?_;apply iW<;>intro h1
 ·obtain⟨x,D⟩:=aj (l:=l) (i:=i) (by omega);have d:k_ l i=(if ct x.name=true then (if dR x.w 1 100000=true then (if dR x.h 1 100000=true then (if dR x.tall 1 100000=true then (if ct x.nozzle=true then (if bg (l.map Body.name) i=true then 8 else 0) else 5) else 1) else 1) else 1) else 5):=by simp only[k_,D]
  refine⟨(rj x),(idx rfl D),?_⟩;obtain⟨so,Nx⟩:=V.2 x (an D);refine⟨_,_,(pZ x.name so.le),iW ?_ ?_⟩<;>intro I
  ·refine⟨?_,trivial⟩;rw[aa (by simp[I])]at d;rw[ao hi.2 (by omega) d (by decide)];rfl
  rw[ae (by simpa using I)]at d;refine⟨_,_,(gB x.w 1 100000),iW ?_ ?_⟩<;>intro J
  ·refine⟨?_,trivial⟩;rw[aa (by simp[J])]at d;rw[ao hi.2 (by omega) d (by decide)];rfl
  rw[ae (by simpa using J)]at d;refine⟨_,_,(gB x.h 1 100000),iW ?_ ?_⟩<;>intro N
  ·refine⟨?_,trivial⟩;rw[aa (by simp[N])]at d;rw[ao hi.2 (by omega) d (by decide)];rfl
  rw[ae (by simpa using N)]at d;refine⟨_,_,(gB x.tall 1 100000),iW ?_ ?_⟩<;>intro O
  ·refine⟨?_,trivial⟩;rw[aa (by simp[O])]at d;rw[ao hi.2 (by omega) d (by decide)];rfl
  rw[ae (by simpa using O)]at d;refine⟨_,_,(pZ x.nozzle Nx.le),iW ?_ ?_⟩<;>intro R
  ·refine⟨?_,trivial⟩;rw[aa (by simp[R])]at d;rw[ao hi.2 (by omega) d (by decide)];rfl
  rw[ae (by simpa using R)]at d;apply iW<;>intro o1
  ·obtain⟨z,U⟩:=aj (l:=l) (i:=i-1) (by omega);rw[dK (f:=Body.name) D U (by omega)]at d;refine⟨wO (by omega),(rj z),(idx (show (i:Int)-1=((i-1:Nat):Int) by omega) U),iW ?_ ?_⟩<;>intro u
   ·refine⟨?_,trivial⟩;have u:(cE (Body.name x) (Body.name z)||decide (Body.name x=Body.name z))=true:=by simpa [cE] using u
    rw[u,ae rfl]at d;rw[ao hi.2 (by omega) d (by decide)];rfl
   have u:(cE (Body.name x) (Body.name z)||decide (Body.name x=Body.name z))=false:=by simpa [cE] using u
   rw[u,aa (by decide)]at d;exact⟨wO (by omega),(i+1),_,au.refl _ _,⟨by omega,bO hi.2 d⟩,by omega,⟨Z,Z,Z,Z,Y⟩,trivial⟩
  have h0:i=0:=by omega
  rw[fA h0,aa (by decide)]at d;exact⟨wO (by omega),(i+1),_,au.refl _ _,⟨by omega,bO hi.2 d⟩,by omega,⟨Z,Z,Z,Z,Y⟩,trivial⟩
 refine⟨?_,trivial⟩;have z0:aG (k_ l) 0 l.length=0:=aI fun k _ hk=>hi.2 k (by omega);rw[z0];rfl
theorem EA(m:List Body)(y:ByteArray)(hs:dC Body.name m)(hN:m.length<=1000000):af C 146 [.pv (.sl (m.map rj)),.pv (str y)] (.tu [.ag (rj ((vE Body.name m y).getD b0)),bool (dX Body.name m y)]) []:=by
 refine fW hC Tryz.func146 rfl (by kernel_rfl) fun _=>?_;have hp:=lE (x:=y) hs;refine⟨_,_,(Ic m y hs (by omega)),iW ?_ ?_⟩<;>intro d
 ·refine⟨?_,trivial⟩;have d:dX Body.name m y=false:=by simpa using d
  rw[mM d,d];rfl
 have d:dX Body.name m y=true:=by simpa using d
 rw[ae d]at hp;obtain⟨k,x,u,z,e3,D⟩:=kF d;refine⟨(rj x),(idx (hp.symm.trans u) z),?_,trivial⟩;rw[D,d];rfl
theorem vH(b:List Body)(l:List Place)(hb:rz b)(W:Ax l):af C 65 [.pv (.sl (b.map rj)),.pv (.sl (l.map Gq))] (.p (i64 (dy b l))) []:=by
 refine fW hC Tryz.func65 rfl (by kernel_rfl) fun _=>?_;have lm:=ak l Gq;refine⟨_,_,(vF b hb),iW ?_ ?_⟩<;>intro u
 ·have u:dx b≠0:=by simpa using u
  refine⟨?_,trivial⟩;rw[dy,cu rfl u]
 have u:dx b=0:=by simpa using u
 have R:=xQ u;have gl:=R.len;rw[dy,dF u];apply iW<;>intro g1
 ·refine⟨?_,trivial⟩;rw[ae (by omega)];rfl
 rw[aa (by omega)];refine ax (fun i:Nat=>i<=l.length/\∀k,k<i->kf b l k=0) (fun i=>[(0,.p (.sl (b.map rj))),(1,.p (.sl (l.map Gq))),(18,.p (.sl (l.map Gq))),(19,.p (i64 l.length)),(20,.p (i64 i))]) (fun _=>[]) (fun i=>l.length-i) 0 _ (au.refl _ _) ⟨ai _,fun k h=>by omega⟩ ⟨rfl,rfl,rfl,ah (fun n:Nat=>AV.p (i64 n)) lm,Z,Y⟩ trivial fun i hi t h=>?_;apply iW<;>intro h1
 ·obtain⟨x,O⟩:=aj (l:=l) (i:=i) (by omega);have d:kf b l i=p8 (ik b x) (if bg (l.map Place.part) i=true then 8 else 0):=by simp only[kf,O]
  refine⟨(Gq x),(idx rfl O),?_⟩;obtain⟨so,Nx⟩:=W.2 x (an O);refine⟨_,_,(EA b x.type R.ord (by omega)),_,_,(my x.part so),iW ?_ ?_⟩<;>intro D
  ·refine⟨?_,trivial⟩;rw[cu (c:=5) (by rw[ik,aa (by simp[D])]) (by decide)]at d;rw[ao hi.2 (by omega) d (by decide)];rfl
  have D:gh x.part=true:=by simpa using D
  apply iW<;>intro I
  ·refine⟨?_,trivial⟩;rw[cu (c:=9) (by rw[ik,ae D,aa (by simp[I])]) (by decide)]at d;rw[ao hi.2 (by omega) d (by decide)];rfl
  have I:dX Body.name b x.type=true:=by simpa using I
  refine⟨_,_,(tw x.x x.y),iW ?_ ?_⟩<;>intro N
  ·refine⟨?_,trivial⟩;rw[cu (c:=1) (by rw[ik,ae D,ae I,aa (by simp[N])]) (by decide)]at d;rw[ao hi.2 (by omega) d (by decide)];rfl
  have N:(Reg.kC x.x&&Reg.kC x.y)=true:=by simpa using N
  refine⟨_,_,(mC x.quarters 0 3),iW ?_ ?_⟩<;>intro U
  ·refine⟨?_,trivial⟩;rw[cu (c:=1) (by rw[ik,ae D,ae I,ae N,aa (by simp[U])]) (by decide)]at d;rw[ao hi.2 (by omega) d (by decide)];rfl
  rw[dF (by rw[ik,ae D,ae I,ae N,ae (by simpa using U)])]at d;apply iW<;>intro o1
  ·obtain⟨z,V⟩:=aj (l:=l) (i:=i-1) (by omega);rw[dK (f:=Place.part) O V (by omega)]at d;refine⟨wO (by omega),(Gq z),(idx (show (i:Int)-1=((i-1:Nat):Int) by omega) V),iW ?_ ?_⟩<;>intro J
   ·refine⟨?_,trivial⟩;have J:(cE (Place.part x) (Place.part z)||decide (Place.part x=Place.part z))=true:=by simpa [cE] using J
    rw[J,ae rfl]at d;rw[ao hi.2 (by omega) d (by decide)];rfl
   have J:(cE (Place.part x) (Place.part z)||decide (Place.part x=Place.part z))=false:=by simpa [cE] using J
   rw[J,aa (by decide)]at d;exact⟨wO (by omega),(i+1),_,au.refl _ _,⟨by omega,bO hi.2 d⟩,by omega,⟨Z,Z,Z,Z,Z,Y⟩,trivial⟩
  have h0:i=0:=by omega
  rw[fA h0,aa (by decide)]at d;exact⟨wO (by omega),(i+1),_,au.refl _ _,⟨by omega,bO hi.2 d⟩,by omega,⟨Z,Z,Z,Z,Z,Y⟩,trivial⟩
 refine⟨?_,trivial⟩;have z0:aG (kf b l) 0 l.length=0:=aI fun k _ hk=>hi.2 k (by omega);rw[z0];rfl
theorem wV(b:List Body)(x:Place)(hN:b.length<=1000000)(J:bE x.part):af C 176 [.pv (.sl (b.map rj)),.pv (.ag (Gq x))] (.p (i64 (ik b x))) []:=by
 refine fW hC Tryz.func176 rfl (by kernel_rfl) fun _=>?_;have hk:=iY (f:=Body.name) (l:=b) (x:=x.type);refine⟨_,_,(En x.part J),iW ?_ ?_⟩<;>intro z
 ·refine⟨?_,trivial⟩;rw[ik,aa (by simp[z])];rfl
 have z:gh x.part=true:=by simpa using z
 refine⟨_,_,(Ep b x.type (by omega)),iW ?_ ?_⟩<;>intro D
 ·rw[aP D]at hk;refine⟨?_,trivial⟩;rw[ik,ae z,aa (fun e=>by rw[e]at hk;cases hk)];rfl
 rw[aL D]at hk;have D:dX Body.name b x.type=true:=by simpa using hk
 refine⟨_,_,(gB x.x (-1000000) 1000000),iW ?_ ?_⟩<;>intro d
 ·have d:dR x.x (-1000000) 1000000=false:=by simpa using d
  have d:Reg.kC x.x=false:=d;refine⟨?_,trivial⟩;rw[ik,ae z,ae D,aa (by simp[d])];rfl
 have d:dR x.x (-1000000) 1000000=true:=by simpa using d
 have d:Reg.kC x.x=true:=d;refine⟨_,_,(gB x.y (-1000000) 1000000),iW ?_ ?_⟩<;>intro u
 ·have u:dR x.y (-1000000) 1000000=false:=by simpa using u
  have u:Reg.kC x.y=false:=u;refine⟨?_,trivial⟩;rw[ik,ae z,ae D,aa (by simp[u])];rfl
 have u:dR x.y (-1000000) 1000000=true:=by simpa using u
 have u:Reg.kC x.y=true:=u;refine⟨_,_,(gB x.quarters 0 3),iW ?_ ?_⟩<;>intro I
 ·refine⟨?_,trivial⟩;rw[ik,ae z,ae D,ae (by simp[d,u]),aa (by simp[I])];rfl
 refine⟨?_,trivial⟩;rw[ik,ae z,ae D,ae (by simp[d,u]),ae (by simpa using I)];rfl
theorem vI(b:List Body)(l:List Place)(hb:rz b)(O:Ax l):af C 81 [.pv (.sl (b.map rj)),.pv (.sl (l.map Gq))] (.p (i64 (dy b l))) []:=by
 refine fW hC Tryz.func81 rfl (by kernel_rfl) fun _=>?_;have R:=ak l Gq;refine⟨_,_,(vG b hb),iW ?_ ?_⟩<;>intro u
 ·have u:dx b≠0:=by simpa using u
  refine⟨?_,trivial⟩;rw[dy,cu rfl u]
 have u:dx b=0:=by simpa using u
 have U:=xQ u;have gl:=U.len;rw[dy,dF u];apply iW<;>intro g1
 ·refine⟨?_,trivial⟩;rw[ae (by omega)];rfl
 rw[aa (by omega)];refine ax (fun i:Nat=>i<=l.length/\∀k,k<i->kf b l k=0) (fun i=>[(0,.p (.sl (b.map rj))),(1,.p (.sl (l.map Gq))),(17,.p (.sl (l.map Gq))),(18,.p (i64 l.length)),(19,.p (i64 i))]) (fun _=>[]) (fun i=>l.length-i) 0 _ (au.refl _ _) ⟨ai _,fun k h=>by omega⟩ ⟨rfl,rfl,rfl,ah (fun n:Nat=>AV.p (i64 n)) R,Z,Y⟩ trivial fun i hi t h=>?_;apply iW<;>intro h1
 ·obtain⟨x,J⟩:=aj (l:=l) (i:=i) (by omega);have d:kf b l i=p8 (ik b x) (if bg (l.map Place.part) i=true then 8 else 0):=by simp only[kf,J]
  refine⟨(Gq x),(idx rfl J),?_⟩;obtain⟨V,Nx⟩:=O.2 x (an J);refine⟨_,_,(wV b x (by omega) V),iW ?_ ?_⟩<;>intro D
  ·have D:ik b x≠0:=by simpa using D
   rw[cu rfl D]at d;refine⟨?_,trivial⟩;rw[ao hi.2 (by omega) d D]
  have D:ik b x=0:=by simpa using D
  rw[dF D]at d;apply iW<;>intro o1
  ·obtain⟨z,N⟩:=aj (l:=l) (i:=i-1) (by omega);rw[dK (f:=Place.part) J N (by omega)]at d;refine⟨wO (by omega),(Gq z),(idx (show (i:Int)-1=((i-1:Nat):Int) by omega) N),iW ?_ ?_⟩<;>intro I
   ·refine⟨?_,trivial⟩;have I:(cE (Place.part x) (Place.part z)||decide (Place.part x=Place.part z))=true:=by simpa [cE] using I
    rw[I,ae rfl]at d;rw[ao hi.2 (by omega) d (by decide)];rfl
   have I:(cE (Place.part x) (Place.part z)||decide (Place.part x=Place.part z))=false:=by simpa [cE] using I
   rw[I,aa (by decide)]at d;exact⟨wO (by omega),(i+1),_,au.refl _ _,⟨by omega,bO hi.2 d⟩,by omega,⟨Z,Z,Z,Z,Z,Y⟩,trivial⟩
  have W:i=0:=by omega
  rw[fA W,aa (by decide)]at d;exact⟨wO (by omega),(i+1),_,au.refl _ _,⟨by omega,bO hi.2 d⟩,by omega,⟨Z,Z,Z,Z,Z,Y⟩,trivial⟩
 refine⟨?_,trivial⟩;have z0:aG (kf b l) 0 l.length=0:=aI fun k _ hk=>hi.2 k (by omega);rw[z0];rfl
def ub(p:nG):Value:=.agg #[.string p.part,.string p.pin]
theorem y_(p q:nG):E4 (ub p) (ub q)=decide (p=q):=by
 show (decide (p.part=q.part)&&(decide (p.pin=q.pin)&&true))=_;rw[NA,kO,decide_eq_true_iff,decide_eq_true_iff];exact eq_comm
def mG(es:List (Value×PV)):Prop:=∀e∈es,∃p:nG,e.1=ub p
theorem xR{es:List (Value×PV)}{p:nG}{v:PV}(h:mG es):mG (lO es (ub p) v):=by
 induction es with
 | nil=>intro e d;rw[lO,bM]at d;exact⟨p,by rw[d]⟩
 | cons a r ih=>
  intro e d;obtain⟨k',u⟩:=a;rw[lO]at d;split at d
  ·rcases aE.1 d with z | z
   ·exact⟨p,by rw[z]⟩
   exact h e (cK _ z)
  rcases aE.1 d with z | z
  ·exact h e (by rw[z];exact bK)
  exact ih (fun e d=>h e (cK _ d)) e z
theorem NG{es:List (Value×PV)}(h:mG es)(p n:nG)(v:PV):kv (lO es (ub p) v) (ub n)=if n=p then some v else kv es (ub n):=by
 induction es with
 | nil=>
  simp only[lO,kv,y_];by_cases e:n=p<;>simp[e]
 | cons a r ih=>
  obtain⟨D,u⟩:=a;obtain⟨q,z⟩:=h (D,u) bK;have z:D=ub q:=z;subst z;have ih:=ih fun e I=>h e (cK _ I);simp only[lO,y_];by_cases e:p=q
  ·subst e;simp only[decide_true,kv,y_];by_cases d:n=p<;>simp[d]
  rw[aL e];simp only[kv,y_,ih];by_cases d:n=q
  ·subst d;have J:¬n=p:=fun h=>e h.symm;simp[J]
  rw[aL d]
def lY(es:List (Value×PV)):List nG->List (Value×PV)
 | []=>es
 | p::r=>lY (lO es (ub p) (bool true)) r
theorem xS(p:nG):∀(l:List nG) (es:List (Value×PV)),lY es (l++[p])=lO (lY es l) (ub p) (bool true)
 | [],_=>rfl
 | _::r,_=>xS p r _
theorem xT:∀(l:List nG) {es:List (Value×PV)},mG es->mG (lY es l)
 | [],_,h=>h
 | _::r,_,h=>xT r (xR h)
theorem Gr(n:nG):∀(l:List nG) {es:List (Value×PV)},mG es->kv (lY es l) (ub n)=if (l.any fun q=>decide (q=n))=true then some (bool true) else kv es (ub n)
 | [],_,_=>rfl
 | p::r,es,h=>by
  rw[lY,Gr n r (xR h),NG h,vg];by_cases e:n=p
  ·subst e;simp
  rw[aa e,aL (fun d=>e d.symm),jk]
theorem uc(t:List aS)(x:wQ)(l:List nG)(es:List (Value×PV))(d:nG->Bool)(ht:kE t)(hp:oU t x.parts)(hk:mG es)(hs:∀p:nG,kv es (ub p)=if d p=true then some (bool true) else none)(hN:l.length<=140737488355328):
  af C 133 [.pv (.sl (l.map pf)),.pv (.fn 134 [.ip [.sl (t.map kp)],.ip (GX x)]),.map (.st [0,0]) es] (.p (i64 (dY t x.parts d l))) [.map (if dY t x.parts d l=0 then lY es l else es)]:=by
 refine fW hC Tryz.func133 rfl (by kernel_rfl) fun _=>?_;have N:=ak l pf;apply iW<;>intro g1
 ·have e:dY t x.parts d l=2:=by rw[dY,ae (by omega)]
  refine⟨?_,?_,trivial⟩
  all_goals first | (rw[e];rfl) | (rw[e,aa (by decide)])
 have UP:dY t x.parts d l=aG (s7 t x.parts d l) 0 l.length:=by rw[dY,aa (by omega)]
 rw[UP];refine ax (fun i:Nat=>i<=l.length/\∀k,k<i->s7 t x.parts d l k=0) (fun i=>[(0,.p (.sl (l.map pf))),(1,.p (.fn 134 [.ip [.sl (t.map kp)],.ip (GX x)])),(2,.ow 100002),(14,.p (.sl (l.map pf))),(15,.p (i64 l.length)),(16,.p (i64 i))]) (fun _=>[(100002,.map (.st [0,0]) es)]) (fun i=>l.length-i) 0 _ (au.refl _ _) ⟨ai _,fun k h=>by omega⟩ ⟨rfl,rfl,rfl,rfl,ah (fun n:Nat=>AV.p (i64 n)) N,Z,Y⟩ ⟨Z,Y⟩ fun i hi tt h=>?_;apply iW<;>intro h1
 ·obtain⟨p,I⟩:=aj (l:=l) (i:=i) (by omega);have u:s7 t x.parts d l i=(if jl t x.parts p=true then (if vC l i=true then 8 else if d p=true then 7 else 0) else 9):=by simp only[s7,I]
  have q:=hs p;have D:∀{c:Int},s7 t x.parts d l i=c->c≠0->aG (s7 t x.parts d l) 0 l.length=c:=fun e J=>ao hi.2 (by omega) e J;refine⟨(pf p),(idx rfl I),_,_,(K4 t x p ht hp),iW ?_ ?_⟩<;>intro O
  ·rw[aa (by simp[O])]at u;refine⟨?_,?_,trivial⟩
   all_goals first | (rw[D u (by decide)];rfl) | (rw[D u (by decide),aa (by decide)])
  rw[ae (by simpa using O)]at u;have tail:vC l i=false->s7 t x.parts d l i=(if d p=true then 7 else 0):=fun J=>by rw[u,J,aa (by decide)]
  apply iW<;>intro a2
  ·obtain⟨z,R⟩:=aj (l:=l) (i:=i-1) (by omega);have U:=QE I R (by omega);have V:=Pw p z;refine⟨wO (by omega),(pf z),(idx (show (i:Int)-1=((i-1:Nat):Int) by omega) R),_,_,(vD p z),iW ?_ ?_⟩<;>intro W
   ·rw[U,V.1 W,ae (by decide)]at u;refine⟨?_,?_,trivial⟩
    all_goals first | (rw[D u (by decide)];rfl) | (rw[D u (by decide),aa (by decide)])
   have a4:Oo z p=true:=by
    cases e:Oo z p with
    | true=>rfl
    | false=>exact absurd (V.2 e) W
   have u:=tail (by rw[U,a4];rfl);cases hS:d p with
   | true=>
    rw[hS]at q u;rw[ae rfl]at u;refine⟨(some (bool true)),q,?_,?_,trivial⟩
    all_goals first | (rw[D u (by decide)];rfl) | (rw[D u (by decide),aa (by decide)])
   | false=>
    rw[hS]at q u;rw[aa (by decide)]at u;exact⟨none,q,wO (by omega),(i+1),_,au.refl _ _,⟨by omega,bO hi.2 u⟩,by omega,⟨Z,Z,Z,Z,Z,Z,Y⟩,⟨Z,Y⟩⟩
  have u:=tail (UN (by omega));cases hS:d p with
  | true=>
   rw[hS]at q u;rw[ae rfl]at u;refine⟨(some (bool true)),q,?_,?_,trivial⟩
   all_goals first | (rw[D u (by decide)];rfl) | (rw[D u (by decide),aa (by decide)])
  | false=>
   rw[hS]at q u;rw[aa (by decide)]at u;exact⟨none,q,wO (by omega),(i+1),_,au.refl _ _,⟨by omega,bO hi.2 u⟩,by omega,⟨Z,Z,Z,Z,Z,Z,Y⟩,⟨Z,Y⟩⟩
 have z0:aG (s7 t x.parts d l) 0 l.length=0:=aI fun k _ hk=>hi.2 k (by omega);rw[z0,ae rfl];refine ax (fun i:Nat=>i<=l.length) (fun i=>[(2,.ow 100002),(44,.p (.sl (l.map pf))),(45,.p (i64 l.length)),(46,.p (i64 i))]) (fun i=>[(100002,.map (.st [0,0]) (lY es (l.take i)))]) (fun i=>l.length-i) 0 _ (au.refl _ _) (ai _) ⟨rfl,rfl,ah (fun n:Nat=>AV.p (i64 n)) N,Z,Y⟩ ⟨Z,Y⟩ fun i hi tt h=>?_;apply iW<;>intro h2
 ·obtain⟨p,I⟩:=aj (l:=l) (i:=i) (by omega);have OH:=xS p (l.take i) es;rw[<-aN I]at OH;exact⟨(pf p),(idx rfl I),wO (by omega),(i+1),_,au.refl _ _,by omega,by omega,⟨Z,Z,Z,Z,Y⟩,⟨by rw[OH];rfl,trivial⟩⟩
 have e:l.take i=l:=aW (by omega);refine⟨?_,?_,trivial⟩
 all_goals first | rfl | (rw[e];rfl)
def wW(t:List aS)(x:wQ)(i:Nat):Int:=match x.nets[i]? with
 | some n=>if gh n.name=true then (if n.pins.length=0 then 9 else p8 (dY t x.parts (cL (x.nets.take i)) n.pins) (if 0<n.ports.length then 3 else if bg (x.nets.map Net.name) i=true then 8 else 0)) else 5
 | none=>0
def kH(t:List aS)(x:wQ):Int:=if 1000<x.nets.length then 2 else aG (wW t x) 0 x.nets.length
def fg(t:List aS)(x:wQ):Int:=p8 (cD t) (p8 (dL t x.parts) (kH t x))
structure wX(x:wQ):Prop where
 parts:x.parts.length<=1048576/\∀p∈x.parts,bE p.name/\bE p.type
 nets:x.nets.length<=1048576/\∀n∈x.nets,bE n.name/\n.pins.length<=1048576/\n.ports.length<=1048576
theorem JE{t:List aS}{y:ByteArray}(h:ee aS.name t y<0):¬dX aS.name t y=true:=fun e=>by
 have:=iY (f:=aS.name) (l:=t) (x:=y);rw[aP h,e]at this;cases this
theorem JF{t:List aS}{y:ByteArray}(h:¬ee aS.name t y<0):dX aS.name t y=true:=by
 have:=iY (f:=aS.name) (l:=t) (x:=y);rw[aL h]at this;cases e:dX aS.name t y with
 | true=>rfl
 | false=>rw[e]at this;cases this
theorem wY(t:List aS)(l:List Part)(I:kE t)(hN:l.length<=1048576)(R:∀p∈l,bE p.name/\bE p.type):af C 131 [.pv (.sl (t.map kp)),.pv (.sl (l.map uq)),.pv (Ly 132)] (.p (i64 (dL t l))) []:=by
 refine fW hC Tryz.func131 rfl (by kernel_rfl) fun _=>?_;have U:=ak l uq;have gY:=I.len;apply iW<;>intro g1
 ·refine⟨?_,trivial⟩;rw[dL,ae (by omega)];rfl
 rw[dL,aa (by omega)];refine ax (fun i:Nat=>i<=l.length/\∀k,k<i->kd t l k=0) (fun i=>[(0,.p (.sl (t.map kp))),(1,.p (.sl (l.map uq))),(2,.p (Ly 132)),(12,.p (.sl (l.map uq))),(13,.p (i64 l.length)),(14,.p (i64 i))]) (fun _=>[]) (fun i=>l.length-i) 0 _ (au.refl _ _) ⟨ai _,fun k h=>by omega⟩ ⟨rfl,rfl,rfl,rfl,ah (fun n:Nat=>AV.p (i64 n)) U,Z,Y⟩ trivial fun i hi tt h=>?_;apply iW<;>intro h1
 ·obtain⟨x,D⟩:=aj (l:=l) (i:=i) (by omega);have d:kd t l i=(if gh x.name=true then (if dX aS.name t x.type=true then (if bg (l.map Part.name) i=true then 8 else 0) else 9) else 5):=by simp only[kd,D]
  obtain⟨V,Nx⟩:=R x (an D);refine⟨(uq x),(idx rfl D),_,_,(my x.name V),iW ?_ ?_⟩<;>intro J
  ·refine⟨?_,trivial⟩;rw[aa (by simp[J])]at d;rw[ao hi.2 (by omega) d (by decide)];rfl
  rw[ae (by simpa using J)]at d;refine⟨_,_,(p7 t x.type I.ord (by omega)),iW ?_ ?_⟩<;>intro N
  ·refine⟨?_,trivial⟩;rw[aa (JE N)]at d;rw[ao hi.2 (by omega) d (by decide)];rfl
  rw[ae (JF N)]at d;apply iW<;>intro o1
  ·obtain⟨z,O⟩:=aj (l:=l) (i:=i-1) (by omega);rw[dK (f:=Part.name) D O (by omega)]at d;refine⟨wO (by omega),(uq z),(idx (show (i:Int)-1=((i-1:Nat):Int) by omega) O),iW ?_ ?_⟩<;>intro u
   ·refine⟨?_,trivial⟩;have u:(cE (Part.name x) (Part.name z)||decide (Part.name x=Part.name z))=true:=by simpa [cE] using u
    rw[u,ae rfl]at d;rw[ao hi.2 (by omega) d (by decide)];rfl
   have u:(cE (Part.name x) (Part.name z)||decide (Part.name x=Part.name z))=false:=by simpa [cE] using u
   rw[u,aa (by decide)]at d;exact⟨wO (by omega),(i+1),_,au.refl _ _,⟨by omega,bO hi.2 d⟩,by omega,⟨Z,Z,Z,Z,Z,Z,Y⟩,trivial⟩
  have W:i=0:=by omega
  rw[fA W,aa (by decide)]at d;exact⟨wO (by omega),(i+1),_,au.refl _ _,⟨by omega,bO hi.2 d⟩,by omega,⟨Z,Z,Z,Z,Z,Z,Y⟩,trivial⟩
 refine⟨?_,trivial⟩;have z0:aG (kd t l) 0 l.length=0:=aI fun k _ hk=>hi.2 k (by omega);rw[z0];rfl
theorem yt(t:List aS)(x:wQ)(Xt:vB t)(UQ:wX x):af C 60 [.pv (.sl (t.map kp)),.pv (.ag (GX x))] (.p (i64 (fg t x))) []:=by
 refine fW hC Tryz.func60 rfl (by kernel_rfl) fun _=>?_;have lm:=ak x.nets Al;obtain⟨⟨Te,I0⟩,Wy,Rk⟩:=UQ;refine⟨_,_,(wP t Xt),iW ?_ ?_⟩<;>intro I
 ·have I:cD t≠0:=by simpa using I
  refine⟨?_,trivial⟩;rw[fg,cu rfl I]
 have I:cD t=0:=by simpa using I
 have ht:=p9 I;rw[fg,dF I];refine⟨_,_,(wY t x.parts ht Te I0),iW ?_ ?_⟩<;>intro J
 ·have J:dL t x.parts≠0:=by simpa using J
  refine⟨?_,trivial⟩;rw[cu rfl J]
 have J:dL t x.parts=0:=by simpa using J
 have hp:=Am J;rw[dF J];apply iW<;>intro g3
 ·refine⟨?_,trivial⟩;rw[kH,ae (by omega)];rfl
 rw[kH,aa (by omega)];refine ax (fun p:Nat×List (Value×PV)=>p.1<=x.nets.length/\(∀k,k<p.1->wW t x k=0)/\mG p.2/\∀q:nG,kv p.2 (ub q)=if cL (x.nets.take p.1) q=true then some (bool true) else none) (fun p=>[(2,.p (.ip [.sl (t.map kp)])),(3,.p (.ip (GX x))),(7,.ow 27),(29,.p (.sl (x.nets.map Al))),(30,.p (i64 x.nets.length)),(31,.p (i64 p.1))]) (fun p=>[(27,.map (.st [0,0]) p.2)]) (fun p=>x.nets.length-p.1) (0,[]) _ (au.trans (au.gn hC _ 2 (y:=.ip [.sl (t.map kp)]) (fz:=[(2,.ll [.sl (t.map kp)])]) ⟨rfl,rfl⟩) (au.gn hC _ 3 (y:=.ip (GX x)) (fz:=[(3,.ll (GX x))]) ⟨rfl,rfl⟩)) ⟨ai _,fun k h=>by simp only at h;omega,fun e he=>(by cases he),fun q=>rfl⟩ ⟨rfl,rfl,rfl,rfl,ah (fun n:Nat=>AV.p (i64 n)) lm,Z,Y⟩ ⟨Z,Y⟩ fun ⟨i,es⟩ hi tt h=>?_;obtain⟨q1,O,U,W⟩:=hi;simp only at q1 O U W;apply iW<;>intro h1<;>try simp only[zB]at h1
 ·obtain⟨n,R⟩:=aj (l:=x.nets) (i:=i) (by omega);have d:wW t x i=(if gh n.name=true then (if n.pins.length=0 then 9 else p8 (dY t x.parts (cL (x.nets.take i)) n.pins) (if 0<n.ports.length then 3 else if bg (x.nets.map Net.name) i=true then 8 else 0)) else 5):=by simp only[wW,R]
  obtain⟨so,sp,sq⟩:=Rk n (an R);have lp:=ak n.pins pf;have lq:=ak n.ports fun s=>[str s];have u:∀{c:Int},wW t x i=c->c≠0->aG (wW t x) 0 x.nets.length=c:=fun e h0=>ao O (by omega) e h0;refine⟨(Al n),(idx rfl R),_,_,(my n.name so),iW ?_ ?_⟩<;>intro a1
  ·refine⟨?_,trivial⟩;rw[aa (by simp[a1])]at d;rw[u d (by decide)];rfl
  rw[ae (by simpa using a1)]at d;apply iW<;>intro V
  ·have V:(((n.pins.map pf).length:Nat):Int)=0:=V;refine⟨?_,trivial⟩;rw[ae (by omega)]at d;rw[u d (by decide)];rfl
  have V:¬(((n.pins.map pf).length:Nat):Int)=0:=V;rw[aa (by omega)]at d;refine⟨_,_,(uc t x n.pins es (cL (x.nets.take i)) ht hp U W (by omega)),iW ?_ ?_⟩<;>intro D
  ·have D:dY t x.parts (cL (x.nets.take i)) n.pins≠0:=by simpa using D
   refine⟨?_,trivial⟩;rw[cu rfl D]at d;rw[u d D]
  have D:dY t x.parts (cL (x.nets.take i)) n.pins=0:=by simpa using D
  rw[dF D]at d;apply iW<;>intro a4
  ·refine⟨?_,trivial⟩;rw[ae (by omega)]at d;rw[u d (by decide)];rfl
  rw[aa (by omega)]at d;have keys:mG (if dY t x.parts (cL (x.nets.take i)) n.pins=0 then lY es n.pins else es):=by rw[ae D];exact xT _ U
  have UR:∀q:nG,kv (if dY t x.parts (cL (x.nets.take i)) n.pins=0 then lY es n.pins else es) (ub q)=if cL (x.nets.take (i+1)) q=true then some (bool true) else none:=fun q=>by
   rw[ae D,Gr q _ U,W q,aN R];have e:cL (x.nets.take i++[n]) q=(cL (x.nets.take i) q||n.pins.any fun p=>decide (p=q)):=by simp[cL]
   rw[e];cases (n.pins.any fun p=>decide (p=q))<;>cases cL (x.nets.take i) q<;>rfl
  apply iW<;>intro o1<;>try simp only[zB]at o1
  ·obtain⟨z,hz⟩:=aj (l:=x.nets) (i:=i-1) (by omega);rw[dK (f:=Net.name) R hz (by omega)]at d;refine⟨wO (by omega),(Al z),(idx (show (i:Int)-1=((i-1:Nat):Int) by omega) hz),iW ?_ ?_⟩<;>intro N
   ·refine⟨?_,trivial⟩;have N:(cE (Net.name n) (Net.name z)||decide (Net.name n=Net.name z))=true:=by simpa [cE] using N
    rw[N,ae rfl]at d;rw[u d (by decide)];rfl
   have N:(cE (Net.name n) (Net.name z)||decide (Net.name n=Net.name z))=false:=by simpa [cE] using N
   rw[N,aa (by decide)]at d;exact⟨⟨by dsimp only;omega,by dsimp only;omega⟩,(i+1,if dY t x.parts (cL (x.nets.take i)) n.pins=0 then lY es n.pins else es),_,au.refl _ _,⟨by dsimp only;omega,bO O d,keys,UR⟩,by dsimp only;omega,⟨Z,Z,Z,Z,Z,Z,Y⟩,⟨Z,Y⟩⟩
  rw[fA (by omega),aa (by decide)]at d;exact⟨⟨by dsimp only;omega,by dsimp only;omega⟩,(i+1,if dY t x.parts (cL (x.nets.take i)) n.pins=0 then lY es n.pins else es),_,au.refl _ _,⟨by dsimp only;omega,bO O d,keys,UR⟩,by dsimp only;omega,⟨Z,Z,Z,Z,Z,Z,Y⟩,⟨Z,Y⟩⟩
 refine⟨?_,trivial⟩;rw[aI fun k _ hk=>O k (by omega)];rfl
theorem Ay(t:List aS)(y:wQ)(ht:kE t)(UQ:wX y):af C 166 [.pv (.sl (t.map kp)),.pv (.ag (GX y))] (.p (i64 (p8 (dL t y.parts) (kH t y)))) []:=by
 refine fW hC Tryz.func166 rfl (by kernel_rfl) fun _=>?_;have lm:=ak y.parts uq;have ZN:=ak y.nets Al;obtain⟨⟨Te,ho⟩,Wy,Rk⟩:=UQ;have gY:=ht.len;apply iW<;>intro g1
 ·refine⟨?_,trivial⟩;rw[dL,ae (by omega)];rfl
 have rQ:dL t y.parts=aG (kd t y.parts) 0 y.parts.length:=by rw[dL,aa (by omega)]
 have Oq:∀{c:Int},aG (kd t y.parts) 0 y.parts.length=c->c≠0->p8 (dL t y.parts) (kH t y)=c:=fun e u=>cu (rQ.trans e) u;refine ax (fun i:Nat=>i<=y.parts.length/\∀k,k<i->kd t y.parts k=0) (fun i=>[(0,.p (.sl (t.map kp))),(3,.bx 3 0),(16,.p (.sl (y.parts.map uq))),(17,.p (i64 y.parts.length)),(18,.p (i64 i))]) (fun _=>[(3,.box ((GX y).map .p))]) (fun i=>y.parts.length-i) 0 _ (au.refl _ _) ⟨ai _,fun k h=>by omega⟩ ⟨rfl,rfl,rfl,ah (fun n:Nat=>AV.p (i64 n)) lm,Z,Y⟩ ⟨Z,Y⟩ fun i hi tt h=>?_;apply iW<;>intro h1
 ·obtain⟨x,J⟩:=aj (l:=y.parts) (i:=i) (by omega);have d:kd t y.parts i=(if gh x.name=true then (if dX aS.name t x.type=true then (if bg (y.parts.map Part.name) i=true then 8 else 0) else 9) else 5):=by simp only[kd,J]
  obtain⟨so,Nx⟩:=ho x (an J);refine⟨(uq x),(idx rfl J),_,_,(xM x.name so),iW ?_ ?_⟩<;>intro R
  ·refine⟨?_,trivial⟩;rw[aa (by simp[R])]at d;rw[Oq (ao hi.2 (by omega) d (by decide)) (by decide)];rfl
  rw[ae (by simpa using R)]at d;refine⟨_,_,(xO t x.type (by omega)),iW ?_ ?_⟩<;>intro O
  ·refine⟨?_,trivial⟩;rw[aa (JE O)]at d;rw[Oq (ao hi.2 (by omega) d (by decide)) (by decide)];rfl
  rw[ae (JF O)]at d;apply iW<;>intro o1
  ·obtain⟨z,N⟩:=aj (l:=y.parts) (i:=i-1) (by omega);rw[dK (f:=Part.name) J N (by omega)]at d;refine⟨wO (by omega),(uq z),(idx (show (i:Int)-1=((i-1:Nat):Int) by omega) N),iW ?_ ?_⟩<;>intro D
   ·refine⟨?_,trivial⟩;have D:(cE (Part.name x) (Part.name z)||decide (Part.name x=Part.name z))=true:=by simpa [cE] using D
    rw[D,ae rfl]at d;rw[Oq (ao hi.2 (by omega) d (by decide)) (by decide)];rfl
   have D:(cE (Part.name x) (Part.name z)||decide (Part.name x=Part.name z))=false:=by simpa [cE] using D
   rw[D,aa (by decide)]at d;exact⟨wO (by omega),(i+1),_,au.refl _ _,⟨by omega,bO hi.2 d⟩,by omega,⟨Z,Z,Z,Z,Z,Y⟩,⟨Z,Y⟩⟩
  have u:i=0:=by omega
  rw[fA u,aa (by decide)]at d;exact⟨wO (by omega),(i+1),_,au.refl _ _,⟨by omega,bO hi.2 d⟩,by omega,⟨Z,Z,Z,Z,Z,Y⟩,⟨Z,Y⟩⟩
 have z0:dL t y.parts=0:=rQ.trans (aI fun k _ hk=>hi.2 k (by omega));have hp:=Am z0;rw[dF z0];apply iW<;>intro g3
 ·refine⟨?_,trivial⟩;rw[kH,ae (by omega)];rfl
 rw[kH,aa (by omega)];refine ax (fun i:Nat=>i<=y.nets.length/\∀k,k<i->wW t y k=0) (fun i=>[(0,.p (.sl (t.map kp))),(3,.bx 3 0),(55,.p (.sl (y.nets.map Al))),(56,.p (i64 y.nets.length)),(57,.p (i64 i))]) (fun _=>[(3,.box ((GX y).map .p))]) (fun i=>y.nets.length-i) 0 _ (au.refl _ _) ⟨ai _,fun k h=>by omega⟩ ⟨rfl,rfl,rfl,ah (fun n:Nat=>AV.p (i64 n)) ZN,Z,Y⟩ ⟨Z,Y⟩ fun i hi tt h=>?_;apply iW<;>intro h2
 ·obtain⟨n,J⟩:=aj (l:=y.nets) (i:=i) (by omega);have d:wW t y i=(if gh n.name=true then (if n.pins.length=0 then 9 else p8 (dY t y.parts (cL (y.nets.take i)) n.pins) (if 0<n.ports.length then 3 else if bg (y.nets.map Net.name) i=true then 8 else 0)) else 5):=by simp only[wW,J]
  obtain⟨so,sp,sq⟩:=Rk n (an J);have lp:=ak n.pins pf;have lq:=ak n.ports fun s=>[str s];have I:∀{c:Int},wW t y i=c->c≠0->aG (wW t y) 0 y.nets.length=c:=fun e u=>ao hi.2 (by omega) e u;refine⟨(Al n),(idx rfl J),_,_,(xM n.name so),iW ?_ ?_⟩<;>intro R
  ·refine⟨?_,trivial⟩;rw[aa (by simp[R])]at d;rw[I d (by decide)];rfl
  rw[ae (by simpa using R)]at d;apply iW<;>intro O
  ·have O:(((n.pins.map pf).length:Nat):Int)=0:=O;refine⟨?_,trivial⟩;rw[ae (by omega)]at d;rw[I d (by decide)];rfl
  have O:¬(((n.pins.map pf).length:Nat):Int)=0:=O;rw[aa (by omega)]at d;apply iW<;>intro a3
  ·refine⟨?_,trivial⟩;rw[cu (c:=2) (by rw[dY,ae (by omega)]) (by decide)]at d;rw[I d (by decide)];rfl
  have S9:dY t y.parts (cL (y.nets.take i)) n.pins=aG (s7 t y.parts (cL (y.nets.take i)) n.pins) 0 n.pins.length:=by rw[dY,aa (by omega)]
  have NH:∀{c:Int},aG (s7 t y.parts (cL (y.nets.take i)) n.pins) 0 n.pins.length=c->c≠0->aG (wW t y) 0 y.nets.length=c:=fun e u=>I (d.trans (cu (S9.trans e) u)) u;have et:(y.nets.map Al).take i=(y.nets.take i).map Al:=iC.symm;have oL:∀p:nG,af C 273 [.pv (.sl ((y.nets.map Al).take i)),.pv (.ag (pf p))] (.p (bool (cL (y.nets.take i) p))) []:=fun p=>by
   rw[et];exact Gh _ p (by rw[aV];omega) fun m hm=>aO (Rk m (jK hm)).2.1 (by decide)
  refine ax (fun j:Nat=>j<=n.pins.length/\∀k,k<j->s7 t y.parts (cL (y.nets.take i)) n.pins k=0) (fun j=>[(0,.p (.sl (t.map kp))),(3,.bx 3 0),(55,.p (.sl (y.nets.map Al))),(56,.p (i64 y.nets.length)),(57,.p (i64 i)),(7,.p (i64 i)),(8,.bx 8 0),(78,.p (.sl (n.pins.map pf))),(79,.p (i64 n.pins.length)),(80,.p (i64 j))]) (fun _=>[(3,.box ((GX y).map .p)),(8,.box ((Al n).map .p))]) (fun j=>n.pins.length-j) 0 _ (au.refl _ _) ⟨ai _,fun k h=>by omega⟩ ⟨rfl,rfl,rfl,rfl,rfl,rfl,rfl,rfl,ah (fun n:Nat=>AV.p (i64 n)) lp,Z,Y⟩ ⟨Z,Z,Y⟩ fun j V tt h=>?_;apply iW<;>intro h3
  ·obtain⟨p,NI⟩:=aj (l:=n.pins) (i:=j) (by omega);have df:s7 t y.parts (cL (y.nets.take i)) n.pins j=(if jl t y.parts p=true then (if vC n.pins j=true then 8 else if cL (y.nets.take i) p=true then 7 else 0) else 9):=by simp only[s7,NI]
   have W:∀{c:Int},s7 t y.parts (cL (y.nets.take i)) n.pins j=c->c≠0->aG (wW t y) 0 y.nets.length=c:=fun e u=>NH (ao V.2 (by omega) e u) u;refine⟨(pf p),(idx rfl NI),_,_,(Gf t y p ht hp),iW ?_ ?_⟩<;>intro b1
   ·refine⟨?_,trivial⟩;rw[aa (by simp[b1])]at df;rw[W df (by decide)];rfl
   rw[ae (by simpa using b1)]at df;have tail:vC n.pins j=false->s7 t y.parts (cL (y.nets.take i)) n.pins j=(if cL (y.nets.take i) p=true then 7 else 0):=fun u=>by rw[df,u,aa (by decide)]
   apply iW<;>intro b2
   ·obtain⟨z,N⟩:=aj (l:=n.pins) (i:=j-1) (by omega);have hu:=QE NI N (by omega);refine⟨wO (by omega),(pf z),(idx (show (j:Int)-1=((j-1:Nat):Int) by omega) N),_,_,(Gg z p),iW ?_ ?_⟩<;>intro b3
    ·refine⟨?_,trivial⟩;rw[hu,ae (by simp[b3])]at df;rw[W df (by decide)];rfl
    have df:=tail (by rw[hu];simpa using b3);refine⟨⟨by omega,by omega,by omega,j_ fun _=>rfl⟩,_,_,(oL p),iW ?_ ?_⟩<;>intro U
    ·refine⟨?_,trivial⟩;rw[ae U]at df;rw[W df (by decide)];rfl
    rw[aa (by simp[U])]at df;exact⟨wO (by omega),(j+1),_,au.refl _ _,⟨by omega,bO V.2 df⟩,by omega,⟨Z,Z,Z,Z,Z,Z,Z,Z,Z,Z,Y⟩,⟨Z,Z,Y⟩⟩
   have df:=tail (UN (by omega));refine⟨⟨by omega,by omega,by omega,j_ fun _=>rfl⟩,_,_,(oL p),iW ?_ ?_⟩<;>intro U
   ·refine⟨?_,trivial⟩;rw[ae U]at df;rw[W df (by decide)];rfl
   rw[aa (by simp[U])]at df;exact⟨wO (by omega),(j+1),_,au.refl _ _,⟨by omega,bO V.2 df⟩,by omega,⟨Z,Z,Z,Z,Z,Z,Z,Z,Z,Z,Y⟩,⟨Z,Z,Y⟩⟩
  have z1:=S9.trans (aI fun k _ hk=>V.2 k (by omega));rw[dF z1]at d;apply iW<;>intro a4
  ·refine⟨?_,trivial⟩;rw[ae (by omega)]at d;rw[I d (by decide)];rfl
  rw[aa (by omega)]at d;apply iW<;>intro o1
  ·obtain⟨z,N⟩:=aj (l:=y.nets) (i:=i-1) (by omega);rw[dK (f:=Net.name) J N (by omega)]at d;refine⟨wO (by omega),(Al z),(idx (show (i:Int)-1=((i-1:Nat):Int) by omega) N),iW ?_ ?_⟩<;>intro D
   ·refine⟨?_,trivial⟩;have D:(cE (Net.name n) (Net.name z)||decide (Net.name n=Net.name z))=true:=by simpa [cE] using D
    rw[D,ae rfl]at d;rw[ao hi.2 (by omega) d (by decide)];rfl
   have D:(cE (Net.name n) (Net.name z)||decide (Net.name n=Net.name z))=false:=by simpa [cE] using D
   rw[D,aa (by decide)]at d;exact⟨wO (by omega),(i+1),_,au.refl _ _,⟨by omega,bO hi.2 d⟩,by omega,⟨Z,Z,Z,Z,Z,Y⟩,⟨Z,Y⟩⟩
  have u:i=0:=by omega
  rw[fA u,aa (by decide)]at d;exact⟨wO (by omega),(i+1),_,au.refl _ _,⟨by omega,bO hi.2 d⟩,by omega,⟨Z,Z,Z,Z,Z,Y⟩,⟨Z,Y⟩⟩
 refine⟨?_,trivial⟩;rw[aI fun k _ hk=>hi.2 k (by omega)];rfl
theorem Az(t:List aS)(x:wQ)(u:vB t)(z:wX x):af C 77 [.pv (.sl (t.map kp)),.pv (.ag (GX x))] (.p (i64 (fg t x))) []:=by
 refine fW hC Tryz.func77 rfl (by kernel_rfl) fun _=>?_;refine⟨_,_,(yo t u),iW ?_ ?_⟩<;>intro d
 ·have d:cD t≠0:=by simpa using d
  refine⟨?_,trivial⟩;rw[fg,cu rfl d]
 have d:cD t=0:=by simpa using d
 rw[fg,dF d];refine⟨_,_,(Ay t x (p9 d) z),?_,trivial⟩;rfl
structure lI where
 pin:ByteArray
 x:Int
 y:Int
structure kI where
 type:ByteArray
 spots:List lI
structure oZ where
 x:Int
 y:Int
 size:Int
 lo:Int
 hi:Int
 plated:Bool
structure Order where
 types:List aS
 list:wQ
 mats:List cw
 stack:List Lay
 plots:List ic
 outline:ic
 bores:List oZ
 bodies:List Body
 places:List Place
 feet:List kI
 rules:qt
def yu(s:lI):List PV:=[str s.pin,i64 s.x,i64 s.y]
def GY(f:kI):List PV:=[str f.type,.sl (f.spots.map yu)]
def l5(b:oZ):List PV:=[i64 b.x,i64 b.y,i64 b.size,i64 b.lo,i64 b.hi,bool b.plated]
def oF(o:Order):List PV:=[.sl (o.types.map kp),.sl (o.list.parts.map uq),.sl (o.list.nets.map Al),.sl (o.mats.map iX),.sl (o.stack.map gJ),.sl (o.plots.map fun p=>di p),i64 o.outline.unit,.sl (o.outline.tools.map BN),.sl o.outline.steps.rows,.sl (o.bores.map l5),.sl (o.bodies.map rj),.sl (o.places.map Gq),.sl (o.feet.map GY),i64 o.rules.clearance,i64 o.rules.width,i64 o.rules.ring,i64 o.rules.edge,i64 o.rules.holeGap,.sl (o.rules.classes.map kl),.sl (o.rules.areas.map arr)]
structure jn(o:Order):Prop where
 types:vB o.types
 list:wX o.list
 mats:nn o.mats
 stack:kZ o.stack
 plots:o.plots.length<=1048576/\∀p∈o.plots,ru p
 outline:ru o.outline
 bores:o.bores.length<=1048576
 bodies:rz o.bodies
 places:Ax o.places
 feet:o.feet.length<=1048576/\∀f∈o.feet,bE f.type/\f.spots.length<=1048576/\∀s∈f.spots,bE s.pin
 rules:sK o.rules
theorem xU{t:List aS}(h:cD t=0):∀x∈t,¬x.name=ar:=fun x z e=>by
 unfold cD at h;split at h
 ·cases h
 obtain⟨k,hk⟩:=cI.1 z;have u:=fa h k (ai _) (by rw[aY];exact (aU.1 hk).1);simp only[iF,hk]at u;have d:=(ez u).1;rw[oq,e]at d;have D:ct ar=false:=by decide
 rw[D]at d;cases d
def AA(t:List aS)(x:ByteArray):List cY:=match vE aS.name t x with
 | some y=>y.pins
 | none=>[]
def gC(pins:List cY)(l:List lI)(k:Nat):Int:=match l[k]? with
 | some x=>if dX cY.name pins x.pin=true then (if dR x.x (-100000) 100000=true then (if dR x.y (-100000) 100000=true then (if bg (l.map lI.pin) k=true then 8 else 0) else 1) else 1) else 9
 | none=>0
def fR(t:List aS)(l:List kI)(i:Nat):Int:=match l[i]? with
 | some f=>if dX aS.name t f.type=true then (if 200<f.spots.length then 2 else p8 (aG (gC (AA t f.type) f.spots) 0 f.spots.length) (if bg (l.map kI.type) i=true then 8 else 0)) else 9
 | none=>0
def fh(t:List aS)(l:List kI):Int:=if 200<l.length then 2 else aG (fR t l) 0 l.length
def bX(s:List Lay):Nat:=(s.filter fun l=>!decide (l.name=ar)).length
theorem ue{i:Nat}(h:s[i]?=some l):bX (s.take (i+1))=bX (s.take i)+(if l.name=ar then 0 else 1):=by
 unfold bX;rw[aN h,iD,bG];congr 1;by_cases e:l.name=ar<;>simp[e]
theorem jb(s:List Lay):bX s<=s.length:=nY _ _
def ZO:aS:=⟨ar,[]⟩
def Sa(l:List UInt8):ByteArray:=⟨l.toArray⟩
theorem AD(n:Int)(h:-9223372036854775808<=n/\n<=9223372036854775807):af C 52 [.pv (i64 n)] (.p (str (Sa (Lib.itoa n)))) []:=
 wG [.int .i64 n] (.string (Sa (Lib.itoa n))) ⟨_,Tryz.func52,by decide,rfl⟩ fun S w d hS=>by
  refine (Tryz.strconv_Itoa n h.1 h.2 w d.2.2.2).mono ?_;rintro e w' ⟨rfl,k,os,rfl⟩;exact⟨rfl,Lib.below_grow _ _ (aF _) k os⟩
def K7(s:ByteArray)(f:Int):List PV:=if f=0 then [i64 0,str ar] else [i64 f,str s]
theorem il(s:ByteArray)(f:Int):af C 61 [.pv (str s),.pv (i64 f)] (.p (.ag (K7 s f))) []:=by
 refine fW hC Tryz.func61 rfl (by kernel_rfl) fun _=>?_;apply iW<;>intro h
 ·refine⟨?_,trivial⟩;rw[K7,ae h];rfl
 refine⟨?_,trivial⟩;rw[K7,aa h];rfl
theorem vK(f:Int)(s:ByteArray):af C 22 [.pv (.ag [i64 f,str s])] (.p (bool (!decide (f=0)))) []:=by
 refine fW hC Tryz.func22 rfl (by kernel_rfl) fun _=>?_;refine⟨?_,trivial⟩;rfl
theorem tz(o:Order)(hN:o.stack.length<=1048576):af C 63 [.pv (.ag (oF o))] (.p (i64 (bX o.stack))) []:=by
 refine fW hC Tryz.func63 rfl (by kernel_rfl) fun _=>?_;have D:=ak o.stack gJ;refine ax (fun i:Nat=>i<=o.stack.length) (fun i=>[(3,.p (i64 (bX (o.stack.take i)))),(7,.p (.sl (o.stack.map gJ))),(8,.p (i64 o.stack.length)),(9,.p (i64 i))]) (fun _=>[]) (fun i=>o.stack.length-i) 0 _ (au.refl _ _) (ai _) ⟨rfl,rfl,ah (fun n:Nat=>AV.p (i64 n)) D,Z,Y⟩ trivial fun i hi t h=>?_;have u:=jb (o.stack.take i);rw[aV]at u;apply iW<;>intro h1
 ·obtain⟨l,z⟩:=aj (l:=o.stack) (i:=i) (by omega);have hs:=ue z;refine⟨(gJ l),(idx rfl z),iW ?_ ?_⟩<;>intro d
  ·have d:¬l.name=ar:=d;rw[aa d]at hs;exact⟨wO (by omega),wO (by omega),(i+1),_,au.refl _ _,by omega,by omega,⟨bc (by rw[hs];rfl),Z,Z,Z,Y⟩,trivial⟩
  have d:l.name=ar:=by simpa [ar] using d
  rw[ae d]at hs;exact⟨wO (by omega),(i+1),_,au.refl _ _,by omega,by omega,⟨bc (by rw[hs];rfl),Z,Z,Z,Y⟩,trivial⟩
 have e:o.stack.take i=o.stack:=aW (by omega);refine⟨?_,trivial⟩;rw[e]
def l_(s:List Lay)(i:Nat):List Int:=((List.range i).filter fun k=>match s[k]? with | some l=>!decide (l.name=ar) | none=>false).map fun k:Nat=>(k:Int)
theorem AE{i:Nat}(h:s[i]?=some l):l_ s (i+1)=l_ s i++(if l.name=ar then [] else [(i:Int)]):=by
 unfold l_;rw[kY,iD,bz];congr 1;by_cases e:l.name=ar<;>simp[h,e]
theorem wZ(s:List Lay):∀i,i<=s.length->(l_ s i).length=bX (s.take i)
 | 0,_=>rfl
 | i+1,hi=>by
  obtain⟨l,d⟩:=aj (l:=s) (i:=i) (by omega);rw[AE d,ue d,bG,wZ s i (by omega)];congr 1;split<;>rfl
theorem qx(o:Order)(hN:o.stack.length<=1048576):af C 79 [.pv (.ag (oF o))] (.own 3 ((l_ o.stack o.stack.length).map fun n=>[i64 n])) []:=by
 refine fW hC Tryz.func79 rfl (by kernel_rfl) fun _=>?_;have I:=ak o.stack gJ;refine ax (fun i:Nat=>i<=o.stack.length) (fun i=>[(3,.ow 3),(7,.p (.sl (o.stack.map gJ))),(8,.p (i64 o.stack.length)),(9,.p (i64 i))]) (fun i=>[(3,.row 3 ((l_ o.stack i).map fun n=>[i64 n]))]) (fun i=>o.stack.length-i) 0 _ (au.ed hC _ 3 3 _ (by decide) rfl rfl (by decide)) (ai _) ⟨rfl,rfl,ah (fun n:Nat=>AV.p (i64 n)) I,Z,Y⟩ ⟨Z,Y⟩ fun i hi t h=>?_;apply iW<;>intro h1
 ·obtain⟨l,z⟩:=aj (l:=o.stack) (i:=i) (by omega);have u:=AE z;have hle:=wZ o.stack i (by omega);have J:=jb (o.stack.take i);rw[aV]at J;have D:((l_ o.stack i).map fun n=>[i64 n]).length=(l_ o.stack i).length:=aw ..;refine⟨(gJ l),(idx rfl z),iW ?_ ?_⟩<;>intro d
  ·have d:¬l.name=ar:=d;rw[aa d]at u;exact⟨⟨by simp,by rw[D];simp;omega,by rw[D];simp;omega⟩,wO (by omega),(i+1),_,au.refl _ _,by omega,by omega,⟨Z,Z,Z,Z,Y⟩,⟨by rw[u,bz];rfl,trivial⟩⟩
  have d:l.name=ar:=by simpa [ar] using d
  rw[ae d,cQ]at u;exact⟨wO (by omega),(i+1),_,au.refl _ _,by omega,by omega,⟨Z,Z,Z,Z,Y⟩,⟨by rw[u];rfl,trivial⟩⟩
 have e:i=o.stack.length:=by omega
 rw[e];exact⟨Z,Z,Y⟩
theorem EB(o:Order)(x:ByteArray)(hN:o.types.length<=1048576):af C 177 [.pv (.ag (oF o)),.pv (str x)] (.p (.ag (kp ((vE aS.name o.types x).getD ZO)))) []:=by
 refine fW hC Tryz.func177 rfl (by kernel_rfl) fun _=>?_;have D:=ak o.types kp;refine ax (fun i:Nat=>i<=o.types.length/\∀z∈o.types.take i,decide (z.name=x)=false) (fun i=>[(1,.p (str x)),(4,.bx 4 0),(8,.p (.sl (o.types.map kp))),(9,.p (i64 (o.types.map kp).length)),(10,.p (i64 i))]) (fun _=>[(4,.box [.p (str ar),.nl])]) (fun i=>o.types.length-i) 0 _ (au.refl _ _) ⟨ai _,by simp⟩ ⟨Z,Z,Z,Z,Z,Y⟩ ⟨Z,Y⟩ fun i hi t h=>?_;apply iW<;>intro I
 ·rw[D]at I;obtain⟨r,u⟩:=aj (l:=o.types) (i:=i) (by omega);refine⟨(kp r),(idx rfl u),iW ?_ ?_⟩<;>intro d
  ·refine⟨?_,trivial⟩;have e:ee aS.name o.types x=(i:Int):=by rw[ee,cX (p:=fun z=>decide (aS.name z=x)) u (aP d) hi.2,aY]
   rw[vE,ae (by omega),e,bU,u];rfl
  exact⟨wO (by omega),(i+1),_,au.refl _ _,⟨by omega,cN (p:=fun z=>decide (aS.name z=x)) u (aL d) hi.2⟩,by omega,⟨Z,Z,Z,Z,Z,Y⟩,⟨Z,Y⟩⟩
 rw[D]at I;refine⟨?_,trivial⟩;have d:=hi.2;rw[aW (by omega)]at d;have e:ee aS.name o.types x=-1:=by rw[ee,bW (p:=fun z=>decide (aS.name z=x)) d]
 rw[vE,aa (by omega)];rfl
theorem EC(y:aS)(x:ByteArray)(hN:y.pins.length<=1048576):af C 178 [.pv (.ag (kp y)),.pv (str x)] (.p (bool (dX cY.name y.pins x))) []:=by
 refine fW hC Tryz.func178 rfl (by kernel_rfl) fun _=>?_;have D:=ak y.pins jJ;refine ax (fun i:Nat=>i<=y.pins.length/\∀z∈y.pins.take i,decide (z.name=x)=false) (fun i=>[(1,.p (str x)),(8,.p (.sl (y.pins.map jJ))),(9,.p (i64 (y.pins.map jJ).length)),(10,.p (i64 i))]) (fun _=>[]) (fun i=>y.pins.length-i) 0 _ (au.refl _ _) ⟨ai _,by simp⟩ ⟨Z,Z,Z,Z,Y⟩ trivial fun i hi t h=>?_;apply iW<;>intro I
 ·rw[D]at I;obtain⟨r,u⟩:=aj (l:=y.pins) (i:=i) (by omega);refine⟨(jJ r),(idx rfl u),iW ?_ ?_⟩<;>intro d
  ·refine⟨?_,trivial⟩;rw[eP.2 ⟨r,an u,d⟩];rfl
  exact⟨wO (by omega),(i+1),_,au.refl _ _,⟨by omega,cN (p:=fun z:cY=>decide (z.name=x)) u (aL d) hi.2⟩,by omega,⟨Z,Z,Z,Z,Y⟩,trivial⟩
 rw[D]at I;refine⟨?_,trivial⟩;have d:=hi.2;rw[aW (by omega)]at d;have e:dX cY.name y.pins x=false:=by
  rw[dX,jY];intro z J;rw[d z J];decide
 rw[e];rfl
theorem yw(o:Order)(ho:jn o)(ht:cD o.types=0):af C 66 [.pv (.ag (oF o))] (.p (i64 (fh o.types o.feet))) []:=by
 refine fW hC Tryz.func66 rfl (by kernel_rfl) fun _=>?_;have lm:=ak o.feet GY;have tg:=p9 ht;have tn:=xU ht;have tl:=tg.len;obtain⟨ZP,Xu⟩:=ho.feet;apply iW<;>intro g1
 ·refine⟨?_,trivial⟩;rw[fh,ae (by omega)];rfl
 rw[fh,aa (by omega)];refine ax (fun i:Nat=>i<=o.feet.length/\∀k,k<i->fR o.types o.feet k=0) (fun i=>[(1,.bx 1 0),(13,.p (.sl (o.feet.map GY))),(14,.p (i64 o.feet.length)),(15,.p (i64 i))]) (fun _=>[(1,.box ((oF o).map .p))]) (fun i=>o.feet.length-i) 0 _ (au.refl _ _) ⟨ai _,fun k h=>by omega⟩ ⟨rfl,rfl,ah (fun n:Nat=>AV.p (i64 n)) lm,Z,Y⟩ ⟨Z,Y⟩ fun i hi t h=>?_;apply iW<;>intro h1
 ·obtain⟨f,U⟩:=aj (l:=o.feet) (i:=i) (by omega);have d:fR o.types o.feet i=(if dX aS.name o.types f.type=true then (if 200<f.spots.length then 2 else p8 (aG (gC (AA o.types f.type) f.spots) 0 f.spots.length) (if bg (o.feet.map kI.type) i=true then 8 else 0)) else 9):=by simp only[fR,U]
  obtain⟨so,sl,sp⟩:=Xu f (an U);have ls:=ak f.spots yu;have D:∀{c:Int},fR o.types o.feet i=c->c≠0->aG (fR o.types o.feet) 0 o.feet.length=c:=fun e u=>ao hi.2 (by omega) e u;have N:=iY (f:=aS.name) (l:=o.types) (x:=f.type);refine⟨(GY f),(idx rfl U),_,_,(p7 o.types f.type tg.ord (by omega)),iW ?_ ?_⟩<;>intro a1
  ·rw[aP a1]at N;rw[aa (fun e=>by rw[e]at N;cases N)]at d;refine⟨?_,trivial⟩;rw[D d (by decide)];rfl
  rw[aL a1]at N;have hk:dX aS.name o.types f.type=true:=by simpa using N
  obtain⟨m,y,e1,e2,e3,e4⟩:=kF hk;have NJ:AA o.types f.type=y.pins:=by rw[AA,e4]
  have hyp:=tg.pins y (an e2);rw[ae hk,NJ]at d;apply iW<;>intro a2
  ·refine⟨?_,trivial⟩;rw[ae (by omega)]at d;rw[D d (by decide)];rfl
  rw[aa (by omega)]at d;have NH:∀{c:Int},aG (gC y.pins f.spots) 0 f.spots.length=c->c≠0->aG (fR o.types o.feet) 0 o.feet.length=c:=fun e u=>D (d.trans (cu e u)) u;refine ax (fun j:Nat=>j<=f.spots.length/\∀k,k<j->gC y.pins f.spots k=0) (fun j=>[(1,.bx 1 0),(13,.p (.sl (o.feet.map GY))),(14,.p (i64 o.feet.length)),(15,.p (i64 i)),(3,.p (i64 i)),(4,.bx 4 0),(5,.p (i64 (ee aS.name o.types f.type))),(32,.p (.sl (f.spots.map yu))),(33,.p (i64 f.spots.length)),(34,.p (i64 j))]) (fun _=>[(1,.box ((oF o).map .p)),(4,.box ((GY f).map .p))]) (fun j=>f.spots.length-j) 0 _ (au.refl _ _) ⟨ai _,fun k h=>by omega⟩ ⟨rfl,rfl,rfl,rfl,rfl,rfl,rfl,rfl,ah (fun n:Nat=>AV.p (i64 n)) ls,Z,Y⟩ ⟨Z,Z,Y⟩ fun j V t h=>?_;apply iW<;>intro h2
  ·obtain⟨x,NI⟩:=aj (l:=f.spots) (i:=j) (by omega);have df:gC y.pins f.spots j=(if dX cY.name y.pins x.pin=true then (if dR x.x (-100000) 100000=true then (if dR x.y (-100000) 100000=true then (if bg (f.spots.map lI.pin) j=true then 8 else 0) else 1) else 1) else 9):=by simp only[gC,NI]
   have W:∀{c:Int},gC y.pins f.spots j=c->c≠0->aG (fR o.types o.feet) 0 o.feet.length=c:=fun e u=>NH (ao V.2 (by omega) e u) u;refine⟨(yu x),(idx rfl NI),(kp y),(idx e1 e2),_,_,(xN y x.pin hyp.1 (by omega)),?_⟩;have O:=iY (f:=cY.name) (l:=y.pins) (x:=x.pin);apply iW<;>intro b1
   ·rw[aP b1]at O;rw[aa (fun e=>by rw[e]at O;cases O)]at df;refine⟨?_,trivial⟩;rw[W df (by decide)];rfl
   rw[aL b1]at O;rw[ae (by simpa using O)]at df;refine⟨_,_,(mB x.x (-100000) 100000),iW ?_ ?_⟩<;>intro b2
   ·rw[aa (by simp[b2])]at df;refine⟨?_,trivial⟩;rw[W df (by decide)];rfl
   rw[ae (by simpa using b2)]at df;refine⟨_,_,(mB x.y (-100000) 100000),iW ?_ ?_⟩<;>intro b3
   ·rw[aa (by simp[b3])]at df;refine⟨?_,trivial⟩;rw[W df (by decide)];rfl
   rw[ae (by simpa using b3)]at df;apply iW<;>intro p1
   ·obtain⟨z,R⟩:=aj (l:=f.spots) (i:=j-1) (by omega);rw[dK (f:=lI.pin) NI R (by omega)]at df;refine⟨wO (by omega),(yu z),(idx (show (j:Int)-1=((j-1:Nat):Int) by omega) R),iW ?_ ?_⟩<;>intro I
    ·refine⟨?_,trivial⟩;have I:(cE (lI.pin x) (lI.pin z)||decide (lI.pin x=lI.pin z))=true:=by simpa [cE] using I
     rw[I,ae rfl]at df;rw[W df (by decide)];rfl
    have I:(cE (lI.pin x) (lI.pin z)||decide (lI.pin x=lI.pin z))=false:=by simpa [cE] using I
    rw[I,aa (by decide)]at df;exact⟨wO (by omega),(j+1),_,au.refl _ _,⟨by omega,bO V.2 df⟩,by omega,⟨Z,Z,Z,Z,Z,Z,Z,Z,Z,Z,Y⟩,⟨Z,Z,Y⟩⟩
   rw[fA (by omega),aa (by decide)]at df;exact⟨wO (by omega),(j+1),_,au.refl _ _,⟨by omega,bO V.2 df⟩,by omega,⟨Z,Z,Z,Z,Z,Z,Z,Z,Z,Z,Y⟩,⟨Z,Z,Y⟩⟩
  have z1:=aI (f:=gC y.pins f.spots) (n:=f.spots.length) (i:=0) fun k _ hk=>V.2 k (by omega);rw[dF z1]at d;apply iW<;>intro o1
  ·obtain⟨z,R⟩:=aj (l:=o.feet) (i:=i-1) (by omega);rw[dK (f:=kI.type) U R (by omega)]at d;refine⟨wO (by omega),(GY z),(idx (show (i:Int)-1=((i-1:Nat):Int) by omega) R),iW ?_ ?_⟩<;>intro J
   ·refine⟨?_,trivial⟩;have J:(cE (kI.type f) (kI.type z)||decide (kI.type f=kI.type z))=true:=by simpa [cE] using J
    rw[J,ae rfl]at d;rw[ao hi.2 (by omega) d (by decide)];rfl
   have J:(cE (kI.type f) (kI.type z)||decide (kI.type f=kI.type z))=false:=by simpa [cE] using J
   rw[J,aa (by decide)]at d;exact⟨wO (by omega),(i+1),_,au.refl _ _,⟨by omega,bO hi.2 d⟩,by omega,⟨Z,Z,Z,Z,Y⟩,⟨Z,Y⟩⟩
  have u:i=0:=by omega
  rw[fA u,aa (by decide)]at d;exact⟨wO (by omega),(i+1),_,au.refl _ _,⟨by omega,bO hi.2 d⟩,by omega,⟨Z,Z,Z,Z,Y⟩,⟨Z,Y⟩⟩
 refine⟨?_,trivial⟩;have z0:aG (fR o.types o.feet) 0 o.feet.length=0:=aI fun k _ hk=>hi.2 k (by omega);rw[z0];rfl
theorem yx(o:Order)(ho:jn o)(W:cD o.types=0):af C 82 [.pv (.ag (oF o))] (.p (i64 (fh o.types o.feet))) []:=by
 refine fW hC Tryz.func82 rfl (by kernel_rfl) fun _=>?_;have lm:=ak o.feet GY;have tg:=p9 W;have tn:=xU W;have tl:=tg.len;obtain⟨ZP,Xu⟩:=ho.feet;apply iW<;>intro g1
 ·refine⟨?_,trivial⟩;rw[fh,ae (by omega)];rfl
 rw[fh,aa (by omega)];refine ax (fun i:Nat=>i<=o.feet.length/\∀k,k<i->fR o.types o.feet k=0) (fun i=>[(1,.bx 1 0),(13,.p (.sl (o.feet.map GY))),(14,.p (i64 o.feet.length)),(15,.p (i64 i))]) (fun _=>[(1,.box ((oF o).map .p))]) (fun i=>o.feet.length-i) 0 _ (au.refl _ _) ⟨ai _,fun k h=>by omega⟩ ⟨rfl,rfl,ah (fun n:Nat=>AV.p (i64 n)) lm,Z,Y⟩ ⟨Z,Y⟩ fun i hi t h=>?_;apply iW<;>intro h1
 ·obtain⟨f,O⟩:=aj (l:=o.feet) (i:=i) (by omega);have d:fR o.types o.feet i=(if dX aS.name o.types f.type=true then (if 200<f.spots.length then 2 else p8 (aG (gC (AA o.types f.type) f.spots) 0 f.spots.length) (if bg (o.feet.map kI.type) i=true then 8 else 0)) else 9):=by simp only[fR,O]
  obtain⟨so,sl,sp⟩:=Xu f (an O);have ls:=ak f.spots yu;have D:∀{c:Int},fR o.types o.feet i=c->c≠0->aG (fR o.types o.feet) 0 o.feet.length=c:=fun e u=>ao hi.2 (by omega) e u;have Ls:=iY (f:=aS.name) (l:=o.types) (x:=f.type);refine⟨(GY f),(idx rfl O),_,_,(EB o f.type (by omega)),?_⟩;cases hk:dX aS.name o.types f.type with
  | false=>
   rw[mM hk];rw[hk,aa (by decide)]at d;refine⟨?_,trivial⟩;rw[D d (by decide)];rfl
  | true=>
   obtain⟨m,y,e1,e2,e3,e4⟩:=kF hk;have NJ:AA o.types f.type=y.pins:=by rw[AA,e4]
   rw[e4];have ZR:=tn y (an e2);apply iW<;>intro a1
   ·exact absurd a1 ZR
   have hyp:=tg.pins y (an e2);rw[ae hk,NJ]at d;apply iW<;>intro a2
   ·refine⟨?_,trivial⟩;rw[ae (by omega)]at d;rw[D d (by decide)];rfl
   rw[aa (by omega)]at d;have NH:∀{c:Int},aG (gC y.pins f.spots) 0 f.spots.length=c->c≠0->aG (fR o.types o.feet) 0 o.feet.length=c:=fun e u=>D (d.trans (cu e u)) u;refine ax (fun j:Nat=>j<=f.spots.length/\∀k,k<j->gC y.pins f.spots k=0) (fun j=>[(1,.bx 1 0),(13,.p (.sl (o.feet.map GY))),(14,.p (i64 o.feet.length)),(15,.p (i64 i)),(3,.p (i64 i)),(4,.bx 4 0),(5,.bx 5 0),(32,.p (.sl (f.spots.map yu))),(33,.p (i64 f.spots.length)),(34,.p (i64 j))]) (fun _=>[(1,.box ((oF o).map .p)),(4,.box ((GY f).map .p)),(5,.box ((kp y).map .p))]) (fun j=>f.spots.length-j) 0 _ (au.refl _ _) ⟨ai _,fun k h=>by omega⟩ ⟨rfl,rfl,rfl,rfl,rfl,rfl,rfl,rfl,ah (fun n:Nat=>AV.p (i64 n)) ls,Z,Y⟩ ⟨Z,Z,Z,Y⟩ fun j R t h=>?_;apply iW<;>intro h2
   ·obtain⟨x,V⟩:=aj (l:=f.spots) (i:=j) (by omega);have df:gC y.pins f.spots j=(if dX cY.name y.pins x.pin=true then (if dR x.x (-100000) 100000=true then (if dR x.y (-100000) 100000=true then (if bg (f.spots.map lI.pin) j=true then 8 else 0) else 1) else 1) else 9):=by simp only[gC,V]
    have U:∀{c:Int},gC y.pins f.spots j=c->c≠0->aG (fR o.types o.feet) 0 o.feet.length=c:=fun e u=>NH (ao R.2 (by omega) e u) u;refine⟨(yu x),(idx rfl V),_,_,(EC y x.pin (by omega)),iW ?_ ?_⟩<;>intro b1
    ·rw[aa (by simp[b1])]at df;refine⟨?_,trivial⟩;rw[U df (by decide)];rfl
    rw[ae (by simpa using b1)]at df;refine⟨_,_,(mA x.x (-100000) 100000),iW ?_ ?_⟩<;>intro b2
    ·rw[aa (by simp[b2])]at df;refine⟨?_,trivial⟩;rw[U df (by decide)];rfl
    rw[ae (by simpa using b2)]at df;refine⟨_,_,(mA x.y (-100000) 100000),iW ?_ ?_⟩<;>intro b3
    ·rw[aa (by simp[b3])]at df;refine⟨?_,trivial⟩;rw[U df (by decide)];rfl
    rw[ae (by simpa using b3)]at df;apply iW<;>intro p1
    ·obtain⟨z,N⟩:=aj (l:=f.spots) (i:=j-1) (by omega);rw[dK (f:=lI.pin) V N (by omega)]at df;refine⟨wO (by omega),(yu z),(idx (show (j:Int)-1=((j-1:Nat):Int) by omega) N),iW ?_ ?_⟩<;>intro I
     ·refine⟨?_,trivial⟩;have I:(cE (lI.pin x) (lI.pin z)||decide (lI.pin x=lI.pin z))=true:=by simpa [cE] using I
      rw[I,ae rfl]at df;rw[U df (by decide)];rfl
     have I:(cE (lI.pin x) (lI.pin z)||decide (lI.pin x=lI.pin z))=false:=by simpa [cE] using I
     rw[I,aa (by decide)]at df;exact⟨wO (by omega),(j+1),_,au.refl _ _,⟨by omega,bO R.2 df⟩,by omega,⟨Z,Z,Z,Z,Z,Z,Z,Z,Z,Z,Y⟩,⟨Z,Z,Z,Y⟩⟩
    rw[fA (by omega),aa (by decide)]at df;exact⟨wO (by omega),(j+1),_,au.refl _ _,⟨by omega,bO R.2 df⟩,by omega,⟨Z,Z,Z,Z,Z,Z,Z,Z,Z,Z,Y⟩,⟨Z,Z,Z,Y⟩⟩
   have z1:=aI (f:=gC y.pins f.spots) (n:=f.spots.length) (i:=0) fun k _ hk=>R.2 k (by omega);rw[dF z1]at d;apply iW<;>intro o1
   ·obtain⟨z,N⟩:=aj (l:=o.feet) (i:=i-1) (by omega);rw[dK (f:=kI.type) O N (by omega)]at d;refine⟨wO (by omega),(GY z),(idx (show (i:Int)-1=((i-1:Nat):Int) by omega) N),iW ?_ ?_⟩<;>intro J
    ·refine⟨?_,trivial⟩;have J:(cE (kI.type f) (kI.type z)||decide (kI.type f=kI.type z))=true:=by simpa [cE] using J
     rw[J,ae rfl]at d;rw[ao hi.2 (by omega) d (by decide)];rfl
    have J:(cE (kI.type f) (kI.type z)||decide (kI.type f=kI.type z))=false:=by simpa [cE] using J
    rw[J,aa (by decide)]at d;exact⟨wO (by omega),(i+1),_,au.refl _ _,⟨by omega,bO hi.2 d⟩,by omega,⟨Z,Z,Z,Z,Y⟩,⟨Z,Y⟩⟩
   have u:i=0:=by omega
   rw[fA u,aa (by decide)]at d;exact⟨wO (by omega),(i+1),_,au.refl _ _,⟨by omega,bO hi.2 d⟩,by omega,⟨Z,Z,Z,Z,Y⟩,⟨Z,Y⟩⟩
 refine⟨?_,trivial⟩;have z0:aG (fR o.types o.feet) 0 o.feet.length=0:=aI fun k _ hk=>hi.2 k (by omega);rw[z0];rfl
end M
end Go.Proofs.YtnpkopkpbgflnaaGreatDoor
