/- Part 6 of the proof of RulesRoomMatchSpec. -/
import Derived.Test.YtfloceomobknoaaGreatDoorR05
import Derived.Sort.Walk0
import Derived.Test.YtfloceomobknoaaGreatDoorCards
import Derived.Test.YtfloceomobknoaaGreatDoorTie
import Derived.WalkKit
import Derived.ProofKit
import Derived.OpenShut
import Derived.Deep.DeepHandedRow
import Derived.Lib.LaidTab
import Derived.LaidMore
import Derived.Lay
import Derived.Stop.Joined
import Derived.Stop.LaidErr
import Derived.MakeChecks
import Derived.Deep.Fields
import Derived.Carry
set_option linter.unusedVariables false
set_option linter.unusedSimpArgs false
set_option maxRecDepth 100000
set_option maxHeartbeats 8000000
namespace Go
abbrev acY:=@List.filter_eq_nil_iff
abbrev ad9:=@List.any_append
abbrev aeo:=@Go.Deep.hone_of
abbrev adJ:=@Bool.false_xor
abbrev abp:=@List.getLast?_cons_cons
abbrev abe:=@List.getLast?_eq_none_iff
abbrev aaI:=@Bool.false_and
end Go
namespace Go.Proofs.YtfloceomobknoaaGreatDoor
namespace M
open Go.AM Go.RowKit Go.Lib
open Reg (ae aU an)
theorem Py{r:ae}(h:Reg.c7 r=true/\r.x0<r.x1/\r.y0<r.y1):Good r:=by
 obtain⟨z,D,I⟩:=h;simp only[Reg.c7,Reg.kR,aaZ,aaH]at z;exact⟨⟨by omega,by omega,by omega,by omega⟩,D,I⟩
theorem C7(l:List ae)(hN:l.length<=400000):(Reg.aB l).length<=1000000/\∀t∈Reg.aB l,t.xs.length<=1000000:=by
 have h1:=gK l (Reg.aE l) ((Reg.aE l).length-1);have h2:=dm l;exact⟨by unfold Reg.aB;omega,fun t z=>by have:=oW l (Reg.aE l) _ t z;omega⟩
theorem jj(l:List ae):af C 31 [.pv (aj l)] (.p (i64 (Reg.aF l))) []:=by
 refine uX ⟨[],[0],[],[],[(7,[true,true,true,true,true,true,true,false,false,true,true,false,true])],[]⟩ hC Tryz.func31 rfl (by kernel_rfl) fun _=>?_;have lm:=ai l rc;refine⟨_,_,(vx l),iW ?_ ?_⟩<;>intro I
 ·refine⟨?_,trivial⟩;rw[Reg.aF,aaa I]
 have I:Reg.cz l=0:=by simpa using I
 obtain⟨hl,U⟩:=Reg.jK I;have N:Reg.aF l=(if Reg.ordered l=true then (if Reg.bR l=l then 0 else 3) else 8):=by rw[Reg.aF,aap I]
 obtain⟨bl,bx⟩:=C7 l (by omega);refine p7 (fun _:Unit=>Reg.ordered l=true) (fun _=>[(0,.p (aj l))]) (fun _=>[]) (fun _ V t h=>?_) ?_
 ·rw[aap V]at N;refine⟨_,_,(EG l (fun r W=>Py (U r W)) (by omega)),_,_,(Ey (Reg.aB l) bl bx),?_⟩
  (refine⟨_,_,(Ew (Reg.told (Reg.aB l)) l (by
   have:=nq (Reg.aB l) bx;have:(Reg.aB l).length*1000000<=1000000*1000000:=abf _ bl;omega)),?_⟩)
  apply iW<;>intro O
  ·refine⟨?_,trivial⟩;rw[N,aaa (show ¬Reg.bR l=l from O)];rfl
  refine⟨?_,trivial⟩;rw[N,aap (show Reg.bR l=l from O)];rfl
 refine aJ (fun i:Nat=>∀(j:Nat) a b,j<i->l[j]?=some a->l[j+1]?=some b->Reg.before a b=true) (fun i=>[(0,.p (aj l)),(4,.p (i64 ((i:Int)+1)))]) (fun _=>[]) (fun i=>l.length-i) 0 _ (au.refl _ _) (fun j a b h=>by omega) ⟨Z,Z,Y⟩ trivial fun i hi t h=>?_;apply iW<;>intro R
 ·rw[lm]at R;obtain⟨a,J⟩:=ak (l:=l) (i:=i) (by omega);obtain⟨b,hb⟩:=ak (l:=l) (i:=i+1) (by omega);have stop:¬Reg.before a b=true->Reg.aF l=8:=fun hn=>by
   rw[N,aaa];rw[rX J hb (by simpa using hn)];decide
  have D:Reg.before a b=true->∀(j:Nat) x y,j<i+1->l[j]?=some x->l[j+1]?=some y->Reg.before x y=true:=fun hy j x y hj L z=>by
   by_cases e:j=i
   ·subst e;rw[J]at L;injection L with L;rw[hb]at z;injection z with z;rw[<-L,<-z];exact hy
   exact hi j x y (by omega) L z
  refine⟨wO (by omega),(rc a),(idx (show ((i:Int)+1)-1=(i:Nat) by omega) J),(rc b),(idx (show ((i:Int)+1)=((i+1:Nat):Int) by omega) hb),iW ?_ ?_⟩<;>intro g1
  ·refine⟨?_,trivial⟩;rw[stop (by simp[Reg.before];omega)];rfl
  apply iW<;>intro g2
  ·apply iW<;>intro g3
   ·refine⟨?_,trivial⟩;rw[stop (by simp[Reg.before];omega)];rfl
   exact⟨wO (by omega),(i+1),_,au.refl _ _,D (by simp[Reg.before];omega),by omega,⟨rfl,a8 (by omega),trivial⟩,trivial⟩
  exact⟨wO (by omega),(i+1),_,au.refl _ _,D (by simp[Reg.before];omega),by omega,⟨rfl,a8 (by omega),trivial⟩,trivial⟩
 rw[lm]at R;refine⟨(),tS fun j a b J hb=>hi j a b ?_ J hb,⟨Z,Y⟩,trivial⟩;have:=(aao.1 hb).1;omega
structure Class where
 name:ByteArray
 nets:List ByteArray
 clearance:Int
 width:Int
structure sJ where
 layer:Int
 region:List ae
 clearance:Int
structure cP where
 clearance:Int
 width:Int
 ring:Int
 edge:Int
 holeGap:Int
 classes:List Class
 areas:List sJ
def kl(c:Class):List PV:=[str c.name,strs c.nets,i64 c.clearance,i64 c.width]
def arr(a:sJ):List PV:=[i64 a.layer,aj a.region,i64 a.clearance]
def rl(r:cP):List PV:=[i64 r.clearance,i64 r.width,i64 r.ring,i64 r.edge,i64 r.holeGap,.sl (r.classes.map kl),.sl (r.areas.map arr)]
def M3(x y:Int)(r:ae):Bool:=((decide (r.x0<=x)&&decide (x<r.x1))&&decide (r.y0<=y))&&decide (y<r.y1)
theorem EH(r:ae)(x y:Int):af C 258 [.pv (.ag (rc r)),.pv (.ip [i64 x,i64 y])] (.p (bool (M3 x y r))) []:=by
 refine fW hC Tryz.func258 rfl (by kernel_rfl) fun _=>?_;apply iW<;>intro z
 ·apply iW<;>intro D
  ·apply iW<;>intro I
   ·refine⟨?_,trivial⟩;simp[bool,M3,z,D,I]
   refine⟨?_,trivial⟩;simp[bool,M3,z,D,I]
  refine⟨?_,trivial⟩;simp[bool,M3,z,D]
 refine⟨?_,trivial⟩;simp[bool,M3,z]
theorem EI(l:List ae)(hN:l.length<=140737488355328)(x y:Int):af C 161 [.pv (aj l),.pv (.fn 258 [.ip [i64 x,i64 y]])] (.p (i64 (jO (M3 x y) l 0))) []:=by
 refine fW hC Tryz.func161 rfl (by kernel_rfl) fun _=>?_;have lm:=ai l rc;refine aJ (fun i:Nat=>i<=l.length/\∀z∈l.take i,M3 x y z=false) (fun i=>[(0,.p (aj l)),(1,.p (.fn 258 [.ip [i64 x,i64 y]])),(7,.p (i64 (l.map rc).length)),(8,.p (i64 i))]) (fun _=>[]) (fun i=>l.length-i) 0 _ (au.refl _ _) ⟨aaj _,by simp⟩ ⟨Z,Z,Z,Z,Y⟩ trivial fun i hi t h=>?_;apply iW<;>intro J
 ·rw[lm]at J;obtain⟨r,I⟩:=ak (l:=l) (i:=i) (by omega);refine⟨(rc r),(idx rfl I),_,_,(EH r x y),iW ?_ ?_⟩<;>intro D
  ·refine⟨?_,trivial⟩;rw[lY I D hi.2,abC]
  exact⟨wO (by omega),(i+1),_,au.refl _ _,⟨by omega,tW I D hi.2⟩,by omega,⟨Z,Z,Z,Z,Y⟩,trivial⟩
 rw[lm]at J;refine⟨?_,trivial⟩;have D:=hi.2;rw[adW (by omega)]at D;rw[iV D];rfl
theorem AF(l:List ae)(z:l.length<=140737488355328)(x y:Int):af C 178 [.pv (aj l),.pv (.fn 258 [.ip [i64 x,i64 y]])] (.p (bool (l.any (M3 x y)))) []:=by
 refine fW hC Tryz.func178 rfl (by kernel_rfl) fun _=>?_;refine⟨_,_,(EI l z x y),?_,trivial⟩;rw[<-oX _ l 0];rfl
theorem pU(l:List ae)(z:l.length<=140737488355328)(x y:Int):af C 211 [.pv (aj l),.pv (.ag [i64 x,i64 y])] (.p (bool (l.any (M3 x y)))) []:=by
 refine fW hC Tryz.func211 rfl (by kernel_rfl) fun _=>?_;refine⟨_,_,(AF l z x y),?_,trivial⟩;rfl
def M4:ByteArray:=⟨#[]⟩
def afe(s:ByteArray):Bool:=decide (s=M4)||lh s
theorem agt(s:ByteArray)(D:s.size<4294967281):af C 137 [.pv (str s)] (.p (bool (afe s))) []:=by
 refine fW hC Tryz.func137 rfl (by kernel_rfl) fun _=>?_;apply iW<;>intro z
 ·have z:s=M4:=z;refine⟨?_,trivial⟩;rw[afe,aaA z];rfl
 have z:¬s=M4:=z;refine⟨_,_,(tX s D),?_,trivial⟩;rw[afe,aaC z];rfl
def onB(a:sJ)(layer:Int):Bool:=decide (a.layer<0)||decide (a.layer=layer)
theorem agF(a:sJ)(layer:Int):af C 204 [.pv (.ag (arr a)),.pv (i64 layer)] (.p (bool (onB a layer))) []:=by
 refine fW hC Tryz.func204 rfl (by kernel_rfl) fun _=>?_;apply iW<;>intro z
 ·refine⟨?_,trivial⟩;simp[bool,onB,z]
 refine⟨?_,trivial⟩;simp[bool,onB,z]
def mO(a b:ByteArray):Bool:=Op.bytesLess a.data.toList b.data.toList
theorem xM{a b:ByteArray}:mO a b=true↔a.data.toList<b.data.toList:=by
 unfold mO;rw[Go.Proofs.bytesLess_eq];simp
theorem afX(a:ByteArray):mO a a=false:=by
 rw[aaV];intro h;exact List.lt_irrefl _ (xM.1 h)
theorem Kw{a b c:ByteArray}(z:mO a b=true)(D:mO b c=true):mO a c=true:=xM.2 (List.lt_trans (xM.1 z) (xM.1 D))
def IQ(l:List ByteArray):Prop:=l.Pairwise fun a b=>mO a b=true
theorem afm{l:List ByteArray}(h:IQ l){i j:Nat}{a b:ByteArray}(z:l[i]?=some a)(hb:l[j]?=some b)(D:i<j):mO a b=true:=by
 obtain⟨hi,rfl⟩:=aao.1 z;obtain⟨I,rfl⟩:=aao.1 hb;exact abk.1 h i j hi I D
theorem agW(s:ByteArray):af C 280 [.pv (str s)] (.p (bool false)) []:=by
 refine fW hC Tryz.func280 rfl (by kernel_rfl) fun _=>?_;refine⟨?_,trivial⟩;simp[bool]
theorem agh(s:ByteArray):af C 257 [.pv (str s)] (.p (bool false)) []:=by
 refine fW hC Tryz.func257 rfl (by kernel_rfl) fun _=>?_;refine⟨?_,trivial⟩;simp[bool]
theorem ag_(a b:ByteArray):af C 256 [.pv (str a),.pv (str b)] (.p (bool (mO a b))) []:=by
 refine fW hC Tryz.func256 rfl (by kernel_rfl) fun _=>?_;refine⟨_,_,(agW a),?_,trivial⟩;rfl
theorem aha{a b:Nat}(h:a+b<4611686018427387904):(IntKind.u64.wrap ((a:Int)+(b:Int))).fdiv (2 ^ min (Int.toNat 1) IntKind.u64.bits)=(((a+b) / 2:Nat):Int):=by
 have z:IntKind.u64.wrap ((a:Int)+(b:Int))=((a+b:Nat):Int):=by simp[IntKind.wrap,IntKind.bits,IntKind.signed];omega
 rw[z];have D:(2:Int) ^ min (Int.toNat 1) IntKind.u64.bits=2:=by decide
 rw[D,Int.fdiv_eq_ediv_of_nonneg _ (by decide)];omega
def agG(l:List ByteArray)(x:ByteArray):Nat:=(l.filter fun y=>mO y x).length
theorem agX{l:List ByteArray}{x:ByteArray}{i:Nat}(hi:i<=l.length)(D:∀(k:Nat) y,k<i->l[k]?=some y->mO y x=true)(I:∀(k:Nat) y,i<=k->l[k]?=some y->mO y x=false):agG l x=i:=by
 unfold agG;rw[<-aaU i l,abU,acv];have e1:(l.take i).filter (fun y=>mO y x)=l.take i:=ad7.2 fun y z=>by
  obtain⟨k,hk⟩:=ab8.1 z;rw[aa7]at hk;split at hk
  ·exact D k y (by assumption) hk
  cases hk
 have e2:(l.drop i).filter (fun y=>mO y x)=[]:=acY.2 fun y z=>by
  obtain⟨k,hk⟩:=ab8.1 z;rw[aas]at hk;rw[I (i+k) y (by omega) hk];decide
 rw[e1,e2,aat];simp;omega
theorem ahn{l:List ByteArray}{x y:ByteArray}{a:Nat}(J:IQ l)(L:∀(k:Nat) z,k<a->l[k]?=some z->mO z x=true)(I:l[a]?=some y)(D:mO y x=false)(N:¬y=x):hasB l x=false:=by
 rw[aaV];intro O;obtain⟨k,hk⟩:=ab8.1 (Et.1 O);rcases ada k a with h | h | h
 ·have:=L k x h hk;rw[afX]at this;cases this
 ·subst h;rw[I]at hk;injection hk with hk;exact N hk
 rw[afm J I hk h]at D;cases D
theorem agi(l:List ByteArray)(x:ByteArray)(U:IQ l)(hN:l.length<=1000000000):af C 208 [.pv (strs l),.pv (str x)] (.tu [i64 (agG l x),bool (hasB l x)]) []:=by
 refine fW hC Tryz.func208 rfl (by kernel_rfl) fun _=>?_;have lm:=ai l fun s=>[str s];refine aJ (fun p:Nat×Nat=>p.1<=p.2/\p.2<=l.length/\(∀(k:Nat) y,k<p.1->l[k]?=some y->mO y x=true)/\(∀(k:Nat) y,p.2<=k->l[k]?=some y->mO y x=false)) (fun p=>[(0,.p (strs l)),(1,.p (str x)),(6,.p (i64 (l.map fun s=>[str s]).length)),(7,.p (i64 p.1)),(8,.p (i64 p.2))]) (fun _=>[]) (fun p=>p.2-p.1) (0,l.length) _ (au.refl _ _) ⟨aaj _,aam _,fun k y h=>by omega,fun k y V D=>by have:=(aao.1 D).1;simp only at V;omega⟩ ⟨rfl,rfl,rfl,rfl,a8 (by rw[lm]),trivial⟩ trivial fun ⟨a,b⟩ hi t h=>?_;obtain⟨q1,W,O,R⟩:=hi;simp only at q1 W O R;apply iW<;>intro V<;>try simp only[zB]at V
 ·have L:=aha (a:=a) (b:=b) (by omega);obtain⟨y,I⟩:=ak (l:=l) (i:=(a+b) / 2) (by omega);refine⟨⟨by simp only;omega,by simp only;omega⟩,⟨by decide,by decide⟩,⟨by simp only;rw[L];omega,by simp only;rw[L];omega⟩,[str y],(idx L I),_,_,(ag_ y x),iW ?_ ?_⟩<;>intro D
  ·refine⟨⟨by simp only;rw[L];omega,by simp only;rw[L];omega⟩,((a+b) / 2+1,b),_,au.refl _ _,⟨by simp only;omega,W,fun k z hk J=>?_,R⟩,by simp only;omega,⟨rfl,rfl,rfl,a8 (by simp only;rw[L];omega),Z,Y⟩,trivial⟩;by_cases e:k=(a+b) / 2
   ·subst e;rw[I]at J;injection J with J;subst J;exact D
   exact Kw (afm U J I (by simp only at hk;omega)) D
  refine⟨(a,(a+b) / 2),_,au.refl _ _,⟨by simp only;omega,by simp only;omega,O,fun k z hk J=>?_⟩,by simp only;omega,⟨rfl,rfl,rfl,rfl,a8 L,trivial⟩,trivial⟩;by_cases e:k=(a+b) / 2
  ·subst e;rw[I]at J;injection J with J;subst J;exact D
  rw[aaV];intro eF;rw[Kw (afm U I J (by simp only at hk;omega)) eF]at D;cases D
 have e:a=b:=by omega
 subst e;have hb:=agX W O R;apply iW<;>intro D<;>try simp only[zB]at D
 ·rw[lm]at D;obtain⟨y,I⟩:=ak (l:=l) (i:=a) (by omega);refine⟨[str y],(idx rfl I),iW ?_ ?_⟩<;>intro h3
  ·refine⟨?_,trivial⟩;have e:y=x:=by simpa using h3
   subst e;have N:hasB l y=true:=Et.2 (ab8.2 ⟨a,I⟩);rw[hb,N];rfl
  refine⟨[str y],(idx rfl I),_,_,(agh y),?_,trivial⟩;have N:hasB l x=false:=ahn U O I (R a y (aam _) I) (by simpa using h3);rw[hb,N];rfl
 rw[lm]at D;refine⟨?_,trivial⟩;have N:hasB l x=false:=by
  rw[aaV];intro N;obtain⟨k,hk⟩:=ab8.1 (Et.1 N);have:=O k x (by have:=(aao.1 hk).1;omega) hk;rw[afX]at this;cases this
 rw[hb,N];rfl
def cU(f:Nat->Int)(i:Nat):Nat->Int
 | 0=>0
 | n+1=>if f i=0 then cU f (i+1) n else f i
theorem eZ{f:Nat->Int}:∀{n i:Nat},(∀k,i<=k->k<i+n->f k=0)->cU f i n=0
 | 0,_,_=>rfl
 | n+1,i,h=>by
  rw[cU,aap (h i (aam _) (by omega))];exact eZ fun k h1 h2=>h k (by omega) (by omega)
theorem gY{f:Nat->Int}{m:Nat}(z:f m≠0):∀{n i:Nat},(∀k,i<=k->k<m->f k=0)->i<=m->m<i+n->cU f i n=f m
 | 0,i,_,h1,h2=>by omega
 | n+1,i,h,h1,h2=>by
  rw[cU];by_cases e:i=m
  ·subst e;rw[aaa z]
  rw[aap (h i (aam _) (by omega))];exact gY z (fun k h3 D=>h k (by omega) D) (by omega) (by omega)
def dH(l:List ByteArray)(j:Nat):Bool:=match l[j]?,l[j-1]? with
 | some a,some b=>decide (0<j)&&(mO a b||decide (a=b))
 | _,_=>false
def seenIn(cs:List Class)(x:ByteArray):Bool:=cs.any fun c=>hasB c.nets x
def bZ(cs:List Class)(i:Nat)(l:List ByteArray)(j:Nat):Int:=match l[j]? with
 | some y=>if lh y=true then (if dH l j=true then 8 else if seenIn (cs.take i) y=true then 7 else 0) else 5
 | none=>0
def b_(cs:List Class)(i:Nat):Int:=match cs[i]? with
 | some c=>if iU c.name=true then (if 1000<c.nets.length then 2 else
   if cU (bZ cs i c.nets) 0 c.nets.length=0 then
    (if (cL c.clearance&&cL c.width)=true then (if dH (cs.map Class.name) i=true then 8 else 0) else 1)
   else cU (bZ cs i c.nets) 0 c.nets.length) else 5
 | none=>0
theorem IS(a b:ByteArray):Ak (.string a) (.string b)=decide (a=b):=rfl
theorem SD{k:ByteArray}{z:Value}(h:Ak (.string k) z=true):z=.string k:=by
 cases z<;>simp_all [Ak]
theorem Bw(v:PV)(k n:ByteArray):∀es:List (Value×PV),kz (mP es (.string k) v) (.string n)=if n=k then some v else kz es (.string n)
 | []=>by
  simp only[mP,kz,IS];by_cases h:n=k<;>simp[h]
 | (k',u)::r=>by
  simp only[mP];cases h:Ak (.string k) k'
  ·simp only[kz,Bw v k n r];by_cases e:n=k
   ·subst e;simp[h]
   simp[e]
  have e:=SD h;subst e;simp only[kz,IS];by_cases e:n=k<;>simp[e]
def ue(s:ByteArray):Prop:=s.size<4294967281
def C8(c:Class):Prop:=ue c.name/\c.nets.length<=1048576/\∀s∈c.nets,ue s
theorem sK(cs:List Class)(hok:∀c∈cs,C8 c)(hN:cs.length<=1048576):af C 196 [.pv (.sl (cs.map kl))] (.p (i64 (if 50<cs.length then 2 else cU (b_ cs) 0 cs.length))) []:=by
 refine fW hC Tryz.func196 rfl (by kernel_rfl) fun _=>?_;have lm:=ai cs kl;apply iW<;>intro L
 ·refine⟨?_,trivial⟩;rw[aap (by omega)];rfl
 rw[aaa (by omega)];refine aJ (fun p:Nat×List (Value×PV)=>p.1<=cs.length/\(∀k,k<p.1->b_ cs k=0)/\∀n,kz p.2 (.string n)=if seenIn (cs.take p.1) n=true then some (bool true) else none) (fun p=>[(0,.p (.sl (cs.map kl))),(3,.ow 13),(14,.p (.sl (cs.map kl))),(15,.p (i64 (cs.map kl).length)),(16,.p (i64 p.1))]) (fun p=>[(13,.map .str p.2)]) (fun p=>cs.length-p.1) (0,[]) _ (au.refl _ _) ⟨aaj _,fun k h=>by omega,fun n=>rfl⟩ ⟨Z,Z,Z,Z,Z,Y⟩ ⟨Z,Y⟩ fun ⟨i,es⟩ hi t h=>?_;obtain⟨q1,q2,q3⟩:=hi;apply iW<;>intro h1<;>try simp only[zB]at h1
 ·obtain⟨c,O⟩:=ak (l:=cs) (i:=i) (by omega);obtain⟨o1,o2,o3⟩:=hok c (aad O);have J:b_ cs i≠0->cU (b_ cs) 0 cs.length=b_ cs i:=fun hb=>gY hb (fun k _ hk=>q2 k hk) (aaj _) (by omega);have D:b_ cs i=(if iU c.name=true then (if 1000<c.nets.length then 2 else
  if cU (bZ cs i c.nets) 0 c.nets.length=0 then
   (if (cL c.clearance&&cL c.width)=true then (if dH (cs.map Class.name) i=true then 8 else 0) else 1)
  else cU (bZ cs i c.nets) 0 c.nets.length) else 5):=by rw[b_,O]
  have lc:=ai c.nets fun s=>[str s];refine⟨(kl c),(idx rfl O),_,_,(oY c.name (by have:c.name.size<4294967281:=o1;omega)),iW ?_ ?_⟩<;>intro h2
  ·refine⟨?_,trivial⟩;rw[aaa (by simp[h2])]at D;rw[J (by rw[D];decide),D];rfl
  rw[aap (by simpa using h2)]at D;apply iW<;>intro h3
  ·refine⟨?_,trivial⟩;rw[aap (by omega)]at D;rw[J (by rw[D];decide),D];rfl
  rw[aaa (by omega)]at D;refine aJ (fun j:Nat=>j<=c.nets.length/\∀k,k<j->bZ cs i c.nets k=0) (fun j=>[(0,.p (.sl (cs.map kl))),(3,.ow 13),(14,.p (.sl (cs.map kl))),(15,.p (i64 (cs.map kl).length)),(16,.p (i64 i)),(4,.p (i64 i)),(5,.bx 5 0),(30,.p (strs c.nets)),(31,.p (i64 (c.nets.map fun s=>[str s]).length)),(32,.p (i64 j))]) (fun _=>[(5,.box [.p (str c.name),.p (strs c.nets),.p (i64 c.clearance),.p (i64 c.width)]),(13,.map .str es)]) (fun j=>c.nets.length-j) 0 _ (au.refl _ _) ⟨aaj _,fun k h=>by omega⟩ ⟨Z,Z,Z,Z,Z,Z,Z,Z,Z,Z,Y⟩ ⟨Z,Z,Y⟩ fun j hj t h=>?_;obtain⟨p1,p2⟩:=hj;apply iW<;>intro h4
  ·obtain⟨y,N⟩:=ak (l:=c.nets) (i:=j) (by omega);have W:bZ cs i c.nets j≠0->cU (b_ cs) 0 cs.length=bZ cs i c.nets j:=fun hb=>by
    have e:cU (bZ cs i c.nets) 0 c.nets.length=bZ cs i c.nets j:=gY hb (fun k _ hk=>p2 k hk) (aaj _) (by omega);rw[e,aaa hb]at D;rw[J (by rw[D];exact hb),D]
   have I:bZ cs i c.nets j=(if lh y=true then (if dH c.nets j=true then 8 else if seenIn (cs.take i) y=true then 7 else 0) else 5):=by rw[bZ,N]
   refine⟨[str y],(idx rfl N),_,_,(tX y (o3 y (aad N))),iW ?_ ?_⟩<;>intro h5
   ·refine⟨?_,trivial⟩;rw[aaa (by simp[h5])]at I;rw[W (by rw[I];decide),I];rfl
   rw[aap (by simpa using h5)]at I;have q:=q3 y;have next:bZ cs i c.nets j=0->∀k,k<j+1->bZ cs i c.nets k=0:=fun L k hk=>by
    by_cases e:k=j
    ·subst e;exact L
    exact p2 k (by omega)
   apply iW<;>intro h6
   ·obtain⟨z,hz⟩:=ak (l:=c.nets) (i:=j-1) (by omega);have R:dH c.nets j=(mO y z||decide (y=z)):=by
     simp only[dH,N,hz];rw[aaA (by omega:0<j)];rfl
    refine⟨wO (by omega),[str z],(idx (show (j:Int)-1=((j-1:Nat):Int) by omega) hz),iW ?_ ?_⟩<;>intro U
    ·refine⟨?_,trivial⟩;have U:(mO y z||decide (y=z))=true:=by simpa [mO] using U
     rw[R,U,aap rfl]at I;rw[W (by rw[I];decide),I];rfl
    have U:(mO y z||decide (y=z))=false:=by simpa [mO] using U
    rw[R,U,aaa (by decide)]at I;cases hS:seenIn (cs.take i) y
    ·rw[hS]at q I;exact⟨none,q,wO (by omega),(j+1),_,au.refl _ _,⟨by omega,next (by simpa using I)⟩,by omega,⟨Z,Z,Z,Z,Z,Z,Z,Z,Z,Z,Y⟩,⟨Z,Z,Y⟩⟩
    rw[hS]at q I;rw[aap rfl]at I;refine⟨(some (bool true)),q,?_,trivial⟩;rw[W (by rw[I];decide),I];rfl
   have L:j=0:=by omega
   have R:dH c.nets j=false:=by
    subst L;simp only[dH,N];rfl
   rw[R,aaa (by decide)]at I;cases hS:seenIn (cs.take i) y
   ·rw[hS]at q I;exact⟨none,q,wO (by omega),(j+1),_,au.refl _ _,⟨by omega,next (by simpa using I)⟩,by omega,⟨Z,Z,Z,Z,Z,Z,Z,Z,Z,Z,Y⟩,⟨Z,Z,Y⟩⟩
   rw[hS]at q I;rw[aap rfl]at I;refine⟨(some (bool true)),q,?_,trivial⟩;rw[W (by rw[I];decide),I];rfl
  have z0:cU (bZ cs i c.nets) 0 c.nets.length=0:=eZ fun k _ hk=>p2 k (by omega);rw[aap z0]at D;refine aJ (fun p:Nat×List (Value×PV)=>p.1<=c.nets.length/\∀n,kz p.2 (.string n)=if (seenIn (cs.take i) n||hasB (c.nets.take p.1) n)=true then some (bool true) else none) (fun p=>[(0,.p (.sl (cs.map kl))),(3,.ow 13),(14,.p (.sl (cs.map kl))),(15,.p (i64 (cs.map kl).length)),(16,.p (i64 i)),(4,.p (i64 i)),(5,.bx 5 0),(60,.p (strs c.nets)),(61,.p (i64 (c.nets.map fun s=>[str s]).length)),(62,.p (i64 p.1))]) (fun p=>[(5,.box [.p (str c.name),.p (strs c.nets),.p (i64 c.clearance),.p (i64 c.width)]),(13,.map .str p.2)]) (fun p=>c.nets.length-p.1) (0,es) _ (au.refl _ _) ⟨aaj _,fun n=>by rw[show hasB (c.nets.take 0) n=false from rfl,abo];exact q3 n⟩ ⟨Z,Z,Z,Z,Z,Z,Z,Z,Z,Z,Y⟩ ⟨Z,Z,Y⟩ fun ⟨j,de⟩ hj t h=>?_;obtain⟨r1,r2⟩:=hj;apply iW<;>intro h9<;>try simp only[zB]at h9
  ·obtain⟨y,N⟩:=ak (l:=c.nets) (i:=j) (by omega);refine⟨[str y],(idx rfl N),wO (by omega),(j+1,mP de (.string y) (bool true)),_,au.refl _ _,⟨by omega,fun n=>?_⟩,by omega,⟨Z,Z,Z,Z,Z,Z,Z,Z,Z,Z,Y⟩,⟨Z,Z,Y⟩⟩;simp only;rw[Bw,aZ N];by_cases e:n=y
   ·subst e;rw[aap rfl,aap];simp[hasB]
   rw[aaa e,r2 n];have:hasB (c.nets.take j++[y]) n=hasB (c.nets.take j) n:=by
    unfold hasB;rw[ad9];rw[show ([y].any fun z=>decide (z=n))=(decide (y=n)||false) from rfl,aaC (fun h:y=n=>e h.symm)];simp
   rw[this]
  have e9:j=c.nets.length:=by simp only at r1;omega
  have s1:∀n,kz de (.string n)=if seenIn (cs.take (i+1)) n=true then some (bool true) else none:=fun n=>by
   rw[r2 n,e9,acB,aZ O];have:seenIn (cs.take i++[c]) n=(seenIn (cs.take i) n||hasB c.nets n):=by
    unfold seenIn;rw[ad9];simp
   rw[this]
  have bn:∀d,cs[i-1]?=some d->0<i->dH (cs.map Class.name) i=(mO c.name d.name||decide (c.name=d.name)):=fun d hd L=>by
   simp only[dH,aak,O,hd,ab6];rw[aaA L];rfl
  have QZ:b_ cs i=0->∀k,k<i+1->b_ cs k=0:=fun L k hk=>by
   by_cases e:k=i
   ·subst e;exact L
   exact q2 k (by simp only;omega)
  refine⟨_,_,(lK c.clearance),iW ?_ ?_⟩<;>intro g1
  ·refine⟨?_,trivial⟩;rw[aaa (by simp[g1])]at D;rw[J (by rw[D];decide),D];rfl
  refine⟨_,_,(lK c.width),iW ?_ ?_⟩<;>intro g2
  ·refine⟨?_,trivial⟩;rw[aaa (by simp[g2])]at D;rw[J (by rw[D];decide),D];rfl
  rw[aap (by simp[g1,g2])]at D;apply iW<;>intro g3
  ·obtain⟨d,hd⟩:=ak (l:=cs) (i:=i-1) (by omega);refine⟨wO (by omega),(kl d),(idx (show (i:Int)-1=((i-1:Nat):Int) by omega) hd),?_⟩;rw[bn d hd (by omega)]at D;apply iW<;>intro V
   ·refine⟨?_,trivial⟩;have V:(mO c.name d.name||decide (c.name=d.name))=true:=by simpa [mO] using V
    rw[V,aap rfl]at D;rw[J (by rw[D];decide),D];rfl
   have V:(mO c.name d.name||decide (c.name=d.name))=false:=by simpa [mO] using V
   rw[V,aaa (by decide)]at D;exact⟨wO (by omega),(i+1,de),_,au.refl _ _,⟨by omega,QZ D,s1⟩,by omega,⟨Z,Z,Z,Z,Z,Y⟩,⟨Z,Y⟩⟩
  have L:i=0:=by omega
  have R:dH (cs.map Class.name) i=false:=by
   subst L;simp only[dH,aak,O];rfl
  rw[R,aaa (by decide)]at D;exact⟨wO (by omega),(i+1,de),_,au.refl _ _,⟨by omega,QZ D,s1⟩,by omega,⟨Z,Z,Z,Z,Z,Y⟩,⟨Z,Y⟩⟩
 have e1:i=cs.length:=by simp only at q1;omega
 refine⟨?_,trivial⟩;rw[eZ fun k _ hk=>q2 k (by simp only;omega)];rfl
def cR(al:List sJ)(i:Nat):Int:=match al[i]? with
 | some a=>if (decide (-1<=a.layer)&&decide (a.layer<=15))=true then (if Reg.aF a.region=0 then (if cL a.clearance=true then 0 else 1) else Reg.aF a.region) else 1
 | none=>0
def ed:List sJ->Nat
 | []=>0
 | a::r=>a.region.length+ed r
theorem wM(a b:List sJ):ed (a++b)=ed a+ed b:=by
 induction a with
 | nil=>simp[ed]
 | cons x r ih=>simp[ed,ih];omega
def gM(r:cP):Bool:=cL r.clearance&&cL r.width&&cL r.ring&&cL r.edge&&cL r.holeGap
def dn(cs:List Class):Int:=if 50<cs.length then 2 else cU (b_ cs) 0 cs.length
def iI(al:List sJ):Int:=if 50<al.length then 2 else if cU (cR al) 0 al.length=0 then (if 2000<ed al then 2 else 0) else cU (cR al) 0 al.length
def bC(r:cP):Int:=if gM r=true then (if dn r.classes=0 then iI r.areas else dn r.classes) else 1
theorem yY{l:List ae}(h:Reg.aF l=0):l.length<=1000000:=by
 unfold Reg.aF at h;by_cases z:Reg.cz l=0
 ·have:=(Reg.jK z).1;omega
 rw[aaa z]at h;exact absurd h z
def e8(r:cP):Prop:=(∀c∈r.classes,C8 c)/\r.classes.length<=1048576/\r.areas.length<=1048576
def C_(r:cP):List AV:=[.p (i64 r.clearance),.p (i64 r.width),.p (i64 r.ring),.p (i64 r.edge),.p (i64 r.holeGap),.p (.sl (r.classes.map kl)),.p (.sl (r.areas.map arr))]
theorem jQ(r:cP)(ho:e8 r):af C 115 [.pv (.ag (rl r))] (.p (i64 (bC r))) []:=by
 refine fW hC Tryz.func115 rfl (by kernel_rfl) fun _=>?_;obtain⟨o1,o2,o3⟩:=ho;refine⟨_,_,(CY [r.clearance,r.width,r.ring,r.edge,r.holeGap] (by simp)),?_⟩;have nb:([r.clearance,r.width,r.ring,r.edge,r.holeGap].any fun n=>!cL n)=!gM r:=by
  simp[gM,Bool.not_and,Bool.or_assoc]
 rw[nb];apply iW<;>intro N
 ·refine⟨?_,trivial⟩;rw[bC,aaa (by simp[N])];rfl
 rw[bC,aap (by simpa using N)];refine⟨_,_,(sK r.classes o1 o2),iW ?_ ?_⟩<;>intro O
 ·refine⟨?_,trivial⟩;rw[aaa (show ¬dn r.classes=0 from by simpa [dn] using O)];rfl
 rw[aap (show dn r.classes=0 from by simpa [dn] using O)];have lm:=ai r.areas arr;apply iW<;>intro h2
 ·refine⟨?_,trivial⟩;rw[iI,aap (by omega)];rfl
 rw[iI,aaa (by omega)];refine aJ (fun i:Nat=>i<=r.areas.length/\(∀k,k<i->cR r.areas k=0)/\ed (r.areas.take i)<=i*1000000) (fun i=>[(4,.p (i64 (ed (r.areas.take i)))),(31,.p (.sl (r.areas.map arr))),(32,.p (i64 (r.areas.map arr).length)),(33,.p (i64 i))]) (fun _=>[]) (fun i=>r.areas.length-i) 0 _ (au.refl _ _) ⟨aaj _,fun k h=>by omega,by simp[ed]⟩ ⟨Z,Z,Z,Z,Y⟩ trivial fun i hi t h=>?_;obtain⟨q1,J,q3⟩:=hi;apply iW<;>intro h3
 ·obtain⟨a,L⟩:=ak (l:=r.areas) (i:=i) (by omega);have I:cR r.areas i≠0->cU (cR r.areas) 0 r.areas.length=cR r.areas i:=fun hb=>gY hb (fun k _ hk=>J k hk) (aaj _) (by omega);have z:cR r.areas i=(if (decide (-1<=a.layer)&&decide (a.layer<=15))=true then (if Reg.aF a.region=0 then (if cL a.clearance=true then 0 else 1) else Reg.aF a.region) else 1):=by rw[cR,L]
  have la:=ai a.region rc;refine⟨(arr a),(idx rfl L),_,_,(tU a.layer (-1) 15),iW ?_ ?_⟩<;>intro R
  ·refine⟨?_,trivial⟩;rw[aaa (by simpa using R)]at z;rw[I (by rw[z];decide),z];rfl
  rw[aap (by simpa using R)]at z;refine⟨_,_,(jj a.region),iW ?_ ?_⟩<;>intro D
  ·refine⟨?_,trivial⟩;have D:¬Reg.aF a.region=0:=by simpa using D
   rw[aaa D]at z;rw[I (by rw[z];exact D),z,aaa D]
  have D:Reg.aF a.region=0:=by simpa using D
  rw[aap D]at z;have hl:=yY D;refine⟨_,_,(lK a.clearance),iW ?_ ?_⟩<;>intro U
  ·refine⟨?_,trivial⟩;rw[aaa (by simp[U])]at z;rw[I (by rw[z];decide),z];rfl
  rw[aap (by simpa using U)]at z;have s1:ed (r.areas.take (i+1))=ed (r.areas.take i)+a.region.length:=by
   rw[aZ L,wM];simp[ed]
  refine⟨wO (by omega),wO (by omega),(i+1),_,au.refl _ _,⟨by omega,fun k hk=>?_,by omega⟩,by omega,⟨a8 (by omega),Z,Z,Z,Y⟩,trivial⟩;by_cases e:k=i
  ·subst e;exact z
  exact J k (by omega)
 have e:i=r.areas.length:=by omega
 subst e;have z0:cU (cR r.areas) 0 r.areas.length=0:=eZ fun k _ hk=>J k (by omega);rw[aap z0];have V:r.areas.take r.areas.length=r.areas:=acB;apply iW<;>intro W
 ·refine⟨?_,trivial⟩;rw[V]at W;rw[aap (by omega)];rfl
 refine⟨?_,trivial⟩;rw[V]at W;rw[aaa (by omega)];rfl
end M
end Go.Proofs.YtfloceomobknoaaGreatDoor
namespace Go.Proofs.YtfloceomobknoaaGreatDoor
open Go.ChangeShapes Go.WideShapes Go.ChangeAt Go.RowKit
section
variable {H:Type} {enc:TypeId×Value->H} {P:Program}
theorem AG{f:Func}{s:ChangeSpec}{z R D U:Bool}{W V:World}{args:Array Value}{v:Value}{ds Y:List (DataW H)}{before pa pv:List MemPlace}
  (hW:DataW.Whole enc P f.params.toList s.vars z W args.toList ds Y before)
  (N:∀(b:Nat) (sp:Nat->Bool) (hd:Bool),DataW.TrodAll enc P V b sp hd f.resultTypes.toList (v.resultList f.resultTypes.size) (s.fn H (ds++Y)).results [])
  (I:∀sp:Nat->Bool,(∀p∈before,sp p.block=true)->DataW.TrodAll enc P V 0 sp true f.params.toList args.toList (s.fn H (ds++Y)).args pa)
  (J:∀sp:Nat->Bool,(∀p∈before,sp p.block=true)->DataW.TrodVars enc P V sp s.vars (s.fn H (ds++Y)).vars pv)
  (L:before=pa++pv) (hb:Below W.heap.size W V)
  (hok:∀(j:Nat) (t:TypeId) (r:Value),f.resultTypes[j]?=some t->(v.resultList f.resultTypes.size)[j]?=some r->Value.okWide P V .any 0 t r):
  s.post enc P f z R D U W args v V:=by
 have eF:∀p∈before,p.block<W.heap.size:=fun p hp=>hW.lt p hp;have O:∀p∈before,(fun b=>decide (b<W.heap.size)) p.block=true:=fun p hp=>by simpa using eF p hp
 refine⟨ds,Y,before,[],pa,pv,hW,N _ _ _,I _ O,J _ O,World.keptBut_mono (fun p hp=>⟨hp,?_⟩) (hb.frame (·∈before)),fun _=>?_⟩
 ·rw[L,abi]at hp;exact Or.inr hp
 obtain⟨_,_,_,_,_,hz,hn⟩:=hW;refine⟨hok,_,_,([]++pa)++pv,⟨[]++pa,pv,trodAll_append (I _ (fun _ _=>rfl)) (N _ _ _),J _ (fun _ _=>rfl),rfl,?_,?_⟩,?_⟩
 ·intro b Z hp;have s_:MemPlace.cell b Z∈before:=by rw[L];simpa using hp
  rw[hb.frozen (eF _ s_)];exact hz b Z s_
 ·intro ha;have:=hn ha;rw[L]at this;simpa using this
 intro p hp _;rw[L];simpa using hp
theorem xr{C:Checked}{os:Os}{f:FuncId}{fn:Func}{s:OpenSpec}{z:List PathCond}{D:Bool}{laid:List (String×DataW Unit)}(w0:World)(args:Array Value)(J:w0.os=os)
  (L:(w0.forCall (fun _ _=>0) ⟨#[],args,[]⟩).Shaped C.prog)
  (I:Input.okWideB C.prog (w0.forCall (fun _ _=>0) ⟨#[],args,[]⟩) f ⟨#[],args,[]⟩=true)
  (az:s.preRow enc C.prog fn z D laid (w0.forCall (fun _ _=>0) ⟨#[],args,[]⟩).memory args):
  ∃(w:World) (tape:Tape) (i:Input),w.os=os/\(w.forCall tape i).Shaped C.prog/\i.vars=[]/\Input.okWide C.prog (w.forCall tape i) .any w.heap.size f i /\
   s.preRow enc C.prog fn z D laid (w.forCall tape i).memory i.args/\({}:Assume).holds C.prog (lone (Frame.enter C.prog f i.args .normal) [] (w.forCall tape i)):=
 ⟨w0,fun _ _=>0,⟨#[],args,[]⟩,J,L,(Input.okWide_of_okWideB (base:=0) I).1,(Input.okWide_of_okWideB I).2,az,by
  simp only[Assume.holds];exact⟨by simp,by simp,fun _=>Modest.zero,by simp,by simp⟩⟩
end
theorem own:ownKnob Tryz.prog.godebug=none:=by kernel_rfl
variable {H:Type}
theorem M5(d:DataW H):1<=Rows.uptoBulk d:=by
 cases d with
 | lit l=>cases l<;>simp[Rows.uptoBulk]
 | nil=>simp[Rows.uptoBulk]
 | ptr d=>simp[Rows.uptoBulk]
 | slice elems spare=>simp[Rows.uptoBulk]
 | agg parts=>simp[Rows.uptoBulk]
 | iface t d=>simp[Rows.uptoBulk]
 | map entries=>simp[Rows.uptoBulk]
 | held h=>simp[Rows.uptoBulk]
theorem Bx{d:DataW H}{l:List (DataW H)}(h:d∈l):Rows.uptoBulk d<=Rows.uptoBulkAll l:=by
 induction l with
 | nil=>cases h
 | cons x r ih=>
  simp only[Rows.uptoBulkAll];cases adq.1 h with
  | inl e=>subst e;omega
  | inr e=>have:=ih e;omega
theorem EJ{H:Type}(bytes:List UInt8):Rows.uptoBulk (DataW.lit (H:=H) (.string bytes))=bytes.length+1:=by
 simp[Rows.uptoBulk]
theorem Ha{l:List (DataW H)}(hk:Rows.uptoSmall H l=true):Rows.uptoBulkAll l<=1048576:=abJ hk
theorem ajc{s:ByteArray}{l:List (DataW H)}(hk:Rows.uptoSmall H l=true)(h:DataW.lit (.string s.data.toList)∈l):s.size<=1048576:=by
 have h1:=Ha hk;have z:=Bx h;rw[EJ]at z;have h3:s.data.toList.length=s.size:=by simp
 omega
end Go.Proofs.YtfloceomobknoaaGreatDoor
namespace Go.Proofs.YtfloceomobknoaaGreatDoor
namespace M
open Go.AM Go.RowKit Go.Lib
open Reg (ae aU an)
variable {H:Type} {enc:TypeId×Value->H} {w:World} {S:Nat->Prop}
theorem EK:IK enc Tryz.prog w S 3 1 fun xs d=>∃n:Int,xs=[i64 n]/\d=.lit (.int .i64 n):=Pr ab0
theorem U8:IK enc Tryz.prog w S 9 1 fun xs d=>∃s:ByteArray,xs=[str s]/\d=.lit (.string s.data.toList):=Pt aca
theorem M6:IK enc Tryz.prog w S 87 4 fun xs _=>∃r:ae,xs=rc r:=fun n cs x h=>by
 obtain⟨xs,l1,l2,I,ds,e,D,q⟩:=jP (S:=S) (Qs:=fun _ xs d=>∃n:Int,xs=[i64 n]/\d=.lit (.int .i64 n)) Tryz.underlying87 (aeo (by kernel_rfl)) (by kernel_rfl) (fun i f z=>by
  match i,z with
  | 0,z=>cases z;exact EK
  | 1,z=>cases z;exact EK
  | 2,z=>cases z;exact EK
  | 3,z=>cases z;exact EK
  | n+4,z=>cases z) _ _ _ h
 have l1:xs.length=4:=l1;have D:ds.length=4:=D;obtain⟨a,b,c,d,rfl⟩:∃a b c d,xs=[a,b,c,d]:=by
  match xs,l1 with
  | [a,b,c,d],_=>exact⟨a,b,c,d,rfl⟩
 obtain⟨a',b',c',d',rfl⟩:∃a b c d,ds=[a,b,c,d]:=by
  match ds,D with
  | [a,b,c,d],_=>exact⟨a,b,c,d,rfl⟩
 obtain⟨J,L,_⟩:=q 0 _ _ rfl rfl;obtain⟨N,e1,_⟩:=q 1 _ _ rfl rfl;obtain⟨O,e2,_⟩:=q 2 _ _ rfl rfl;obtain⟨R,U,_⟩:=q 3 _ _ rfl rfl;cases L;cases e1;cases e2;cases U;exact⟨_,rfl,l2,I,⟨J,N,O,R⟩,rfl⟩
abbrev Sp(enc:TypeId×Value->H)(w:World)(S:Nat->Prop)(t:TypeId)(k:Nat){γ:Type}(f:γ->List PV)(B:γ->Nat->Prop):Prop:=IK enc Tryz.prog w S t k fun xs d=>∃r,xs=f r/\B r (Rows.uptoBulk d)
theorem sL:Sp enc w S 3 1 (fun n=>[i64 n]) fun _ _=>True:=fun n cs x h=>by
 obtain⟨xs,l1,l2,D,z,e,_⟩:=EK (S:=S) n cs x h;exact⟨xs,l1,l2,D,z,e,trivial⟩
theorem Pz:Sp enc w S 9 1 (fun s=>[str s]) fun s n=>s.size<=n:=fun n cs x h=>by
 obtain⟨xs,l1,l2,D,z,e,d⟩:=U8 (S:=S) n cs x h;refine⟨xs,l1,l2,D,z,e,?_⟩;rw[d,EJ];have:z.data.toList.length=z.size:=by simp
 omega
theorem IT{α γ:Type}{f:γ->α}{B:γ->Nat->Prop}(z:∀r m n,m<=n->B r m->B r n):∀{es:List α} {ds:List (DataW H)},es.length=ds.length->(∀(i:Nat) x y,es[i]?=some x->ds[i]?=some y->∃r,x=f r/\B r (Rows.uptoBulk y))->∃l:List γ,es=l.map f/\l.length<=Rows.uptoBulkAll ds/\∀r∈l,B r (Rows.uptoBulkAll ds)
 | [],_,_,_=>⟨[],rfl,aaj _,fun r h=>by cases h⟩
 | x::es,[],hl,_=>by cases hl
 | x::es,y::ds,hl,h=>by
  obtain⟨r,rfl,J⟩:=h 0 x y rfl rfl;obtain⟨l,rfl,I,D⟩:=IT z (es:=es) (ds:=ds) (by simpa using hl) (fun i a b I D=>h (i+1) a b (by simpa using I) (by simpa using D));have e:Rows.uptoBulkAll (y::ds)=Rows.uptoBulk y+Rows.uptoBulkAll ds:=by simp only[Rows.uptoBulkAll]
  have b1:=M5 y;refine⟨r::l,rfl,by rw[aaB];omega,fun q L=>?_⟩;rcases adq.1 L with h | h
  ·subst h;exact z _ _ _ (by omega) J
  exact z _ _ _ (by omega) (D q h)
theorem mA{t e:TypeId}{k:Nat}{γ:Type}{f:γ->List PV}{B:γ->Nat->Prop}(I:Tryz.prog.underlying t=some (.slice e))(J:Tryz.prog.cellsOf e=k)(hk:0<k)(hS:∀b,b<w.heap.size->S b)(z:∀r m n,m<=n->B r m->B r n)(L:Sp enc w S e k f B):
  Sp enc w S t 1 (fun l:List γ=>[.sl (l.map f)]) fun l n=>l.length<=n/\∀r∈l,B r n:=fun n cs x h=>by
 obtain⟨xs,l1,l2,N,es,ds,sp,rfl,hl,O,q⟩:=Kr I J hk hS L _ _ _ h;obtain⟨l,rfl,b1,R⟩:=IT z hl q;have hb:Rows.uptoBulkAll ds<=Rows.uptoBulk x.1:=by
  rcases O with⟨D,U⟩ | D
  ·rw[U];exact aaj _
  rw[D];simp only[Rows.uptoBulk];omega
 exact⟨_,l1,l2,N,l,rfl,by omega,fun r V=>z _ _ _ hb (R r V)⟩
theorem nK{ds:List (DataW H)}{i:Nat}{y:DataW H}(h:ds[i]?=some y):Rows.uptoBulk y<=Rows.uptoBulk (.agg ds):=by
 have:=Bx (aad h);simp only[Rows.uptoBulk];omega
theorem PA:Sp enc w S 87 4 rc fun _ _=>True:=fun n cs x h=>by
 obtain⟨xs,l1,l2,z,r,e⟩:=M6 (S:=S) n cs x h;exact⟨xs,l1,l2,z,r,e,trivial⟩
theorem yZ(hS:∀b,b<w.heap.size->S b):Sp enc w S 22 1 (fun l=>[aj l]) fun l n=>l.length<=n/\∀r∈l,True:=mA (k:=4) Tryz.underlying22 (by kernel_rfl) (by decide) hS (fun _ _ _ _ h=>h) PA
theorem PB(hS:∀b,b<w.heap.size->S b):Sp enc w S 49 1 (fun l=>[strs l]) fun l n=>l.length<=n/\∀s∈l,s.size<=n:=mA (k:=1) adf (by kernel_rfl) (by decide) hS (fun _ _ _ z D=>aaF D z) Pz
theorem PC(hS:∀b,b<w.heap.size->S b):Sp enc w S 161 3 arr fun _ _=>True:=fun n cs x h=>by
 obtain⟨xs,l1,l2,J,ds,e,I,q⟩:=jP (S:=S) (Qs:=fun i xs d=>match i with
   | 1=>∃r,xs=[aj r]/\(r.length<=Rows.uptoBulk d/\∀z∈r,True)
   | _=>∃r,xs=[i64 r]/\True) Tryz.underlying161 (aeo (by kernel_rfl)) (by kernel_rfl) (fun i f D=>by
  match i,D with
  | 0,D=>cases D;exact sL
  | 1,D=>cases D;exact yZ hS
  | 2,D=>cases D;exact sL
  | n+3,D=>cases D) _ _ _ h
 have l1:xs.length=3:=l1;have I:ds.length=3:=I;obtain⟨a,b,c,rfl⟩:∃a b c,xs=[a,b,c]:=by
  match xs,l1 with
  | [a,b,c],_=>exact⟨a,b,c,rfl⟩
 obtain⟨a',b',c',rfl⟩:∃a b c,ds=[a,b,c]:=by
  match ds,I with
  | [a,b,c],_=>exact⟨a,b,c,rfl⟩
 obtain⟨L,N,_⟩:=q 0 _ _ rfl rfl;obtain⟨O,e1,_⟩:=q 1 _ _ rfl rfl;obtain⟨R,e2,_⟩:=q 2 _ _ rfl rfl;cases N;cases e1;cases e2;exact⟨_,rfl,l2,J,⟨L,O,R⟩,Z,Y⟩
def ug(c:Class)(n:Nat):Prop:=c.name.size<=n/\c.nets.length<=n/\∀s∈c.nets,s.size<=n
theorem o_(c:Class)(m n:Nat)(h:m<=n):ug c m->ug c n:=fun ⟨h1,h2,z⟩=>⟨by omega,by omega,fun s D=>aaF (z s D) h⟩
theorem M7(hS:∀b,b<w.heap.size->S b):Sp enc w S 159 4 kl ug:=fun n cs x h=>by
 obtain⟨xs,l1,l2,U,ds,e,D,q⟩:=jP (S:=S) (Qs:=fun i xs d=>match i with
   | 0=>∃r,xs=[str r]/\r.size<=Rows.uptoBulk d
   | 1=>∃r,xs=[strs r]/\(r.length<=Rows.uptoBulk d/\∀s∈r,s.size<=Rows.uptoBulk d)
   | _=>∃r,xs=[i64 r]/\True) Tryz.underlying159 (aeo (by kernel_rfl)) (by kernel_rfl) (fun i f z=>by
  match i,z with
  | 0,z=>cases z;exact Pz
  | 1,z=>cases z;exact PB hS
  | 2,z=>cases z;exact sL
  | 3,z=>cases z;exact sL
  | n+4,z=>cases z) _ _ _ h
 have l1:xs.length=4:=l1;have D:ds.length=4:=D;obtain⟨a,b,c,d,rfl⟩:∃a b c d,xs=[a,b,c,d]:=by
  match xs,l1 with
  | [a,b,c,d],_=>exact⟨a,b,c,d,rfl⟩
 obtain⟨J,L,N,O,rfl⟩:∃a b c d,ds=[a,b,c,d]:=by
  match ds,D with
  | [a,b,c,d],_=>exact⟨a,b,c,d,rfl⟩
 obtain⟨V,W,Y⟩:=q 0 _ _ rfl rfl;obtain⟨Z,e1,p1,p2⟩:=q 1 _ _ rfl rfl;obtain⟨n2,e2,_⟩:=q 2 _ _ rfl rfl;obtain⟨n3,e3,_⟩:=q 3 _ _ rfl rfl;cases W;cases e1;cases e2;cases e3;have R:=nK (ds:=[J,L,N,O]) (i:=0) rfl;have I:=nK (ds:=[J,L,N,O]) (i:=1) rfl;rw[<-e]at R I;exact⟨_,rfl,l2,U,⟨V,Z,n2,n3⟩,rfl,by exact aaF Y R,by exact aaF p1 I,fun s hs=>aaF (p2 s hs) I⟩
def xN(r:cP)(n:Nat):Prop:=r.classes.length<=n/\r.areas.length<=n/\∀c∈r.classes,ug c n
theorem M8(hS:∀b,b<w.heap.size->S b):Sp enc w S 39 7 rl xN:=fun n cs x h=>by
 obtain⟨xs,l1,l2,V,ds,e,D,q⟩:=jP (S:=S) (Qs:=fun i xs d=>match i with
   | 5=>∃r:List Class,xs=[.sl (r.map kl)]/\(r.length<=Rows.uptoBulk d/\∀c∈r,ug c (Rows.uptoBulk d))
   | 6=>∃r:List sJ,xs=[.sl (r.map arr)]/\(r.length<=Rows.uptoBulk d/\∀c∈r,True)
   | _=>∃r,xs=[i64 r]/\True) Tryz.underlying39 (aeo (by kernel_rfl)) (by kernel_rfl) (fun i f z=>by
  match i,z with
  | 0,z=>cases z;exact sL
  | 1,z=>cases z;exact sL
  | 2,z=>cases z;exact sL
  | 3,z=>cases z;exact sL
  | 4,z=>cases z;exact sL
  | 5,z=>cases z;exact mA (k:=4) Tryz.underlying36 (by kernel_rfl) (by decide) hS o_ (M7 hS)
  | 6,z=>cases z;exact mA (k:=3) Tryz.underlying37 (by kernel_rfl) (by decide) hS (fun _ _ _ _ h=>h) (PC hS)
  | n+7,z=>cases z) _ _ _ h
 have l1:xs.length=7:=l1;have D:ds.length=7:=D;obtain⟨x0,x1,x2,x3,x4,x5,x6,rfl⟩:∃a b c d e f g,xs=[a,b,c,d,e,f,g]:=by
  match xs,l1 with
  | [a,b,c,d,e,f,g],_=>exact⟨a,b,c,d,e,f,g,rfl⟩
 obtain⟨y0,y1,J,L,N,O,R,rfl⟩:∃a b c d e f g,ds=[a,b,c,d,e,f,g]:=by
  match ds,D with
  | [a,b,c,d,e,f,g],_=>exact⟨a,b,c,d,e,f,g,rfl⟩
 obtain⟨W,Y,_⟩:=q 0 _ _ rfl rfl;obtain⟨Z,e1,_⟩:=q 1 _ _ rfl rfl;obtain⟨n2,e2,_⟩:=q 2 _ _ rfl rfl;obtain⟨n3,e3,_⟩:=q 3 _ _ rfl rfl;obtain⟨n4,e4,_⟩:=q 4 _ _ rfl rfl;obtain⟨n5,e5,p1,p2⟩:=q 5 _ _ rfl rfl;obtain⟨n6,e6,p3,_⟩:=q 6 _ _ rfl rfl;cases Y;cases e1;cases e2;cases e3;cases e4;cases e5;cases e6;have I:=nK (ds:=[y0,y1,J,L,N,O,R]) (i:=5) rfl;have U:=nK (ds:=[y0,y1,J,L,N,O,R]) (i:=6) rfl;rw[<-e]at I U;exact⟨_,rfl,l2,V,⟨W,Z,n2,n3,n4,n5,n6⟩,rfl,by exact aaF p1 I,by exact aaF p3 U,fun c hc=>o_ c _ _ I (p2 c hc)⟩
theorem EL:Sp enc w S 45 2 (fun p:Int×Int=>[i64 p.1,i64 p.2]) fun _ _=>True:=fun n cs x h=>by
 obtain⟨xs,l1,l2,I,ds,e,D,q⟩:=jP (S:=S) (Qs:=fun i xs d=>∃r,xs=[i64 r]/\True) Tryz.underlying45 (aeo (by kernel_rfl)) (by kernel_rfl) (fun i f z=>by
  match i,z with
  | 0,z=>cases z;exact sL
  | 1,z=>cases z;exact sL
  | n+2,z=>cases z) _ _ _ h
 have l1:xs.length=2:=l1;have D:ds.length=2:=D;obtain⟨a,b,rfl⟩:∃a b,xs=[a,b]:=by
  match xs,l1 with
  | [a,b],_=>exact⟨a,b,rfl⟩
 obtain⟨a',b',rfl⟩:∃a b,ds=[a,b]:=by
  match ds,D with
  | [a,b],_=>exact⟨a,b,rfl⟩
 obtain⟨J,L,_⟩:=q 0 _ _ rfl rfl;obtain⟨N,e1,_⟩:=q 1 _ _ rfl rfl;cases L;cases e1;exact⟨_,rfl,l2,I,(J,N),Z,Y⟩
theorem M9{r:cP}(h:xN r 1048576):e8 r:=⟨fun c z=>by
  obtain⟨D,I,J⟩:=h.2.2 c z;exact⟨adY D (by decide),I,fun s L=>adY (J s L) (by decide)⟩,h.1,h.2.1⟩
theorem Da(r:cP)(m n:Nat)(h:m<=n):xN r m->xN r n:=fun ⟨h1,h2,z⟩=>⟨by omega,by omega,fun c D=>o_ c _ _ h (z c D)⟩
theorem IU{d:DataW H}{l:List (DataW H)}(hk:Rows.uptoSmall H l=true)(h:d∈l):Rows.uptoBulk d<=1048576:=aaF (Bx h) (Ha hk)
theorem By{P:Program}(hl:laidOutB P=true){W I:World}(hb:Below W.heap.size W I):∀{D:List TypeId} {vs:List Value} {ds:List (DataW H)} {ps:List MemPlace},(D.all fun t=>P.readableRec t&&decide (t<P.types.size))=true->DataW.TrodAll enc P W 0 (fun _=>true) true D vs ds ps->(∀p∈ps,p.block<W.heap.size)->∀sp:Nat->Bool,(∀p∈ps,sp p.block=true)->DataW.TrodAll enc P I 0 sp true D vs ds ps
 | [],[],[],_,_,h,_,_,_=>h
 | t::D,v::vs,d::ds,ps,ht,h,J,sp,L=>by
  obtain⟨p,q,N,O,rfl⟩:=h;simp only[aaP,aaZ,aaH]at ht;have R:(D.all fun t=>P.readableRec t&&decide (t<P.types.size))=true:=by simpa using ht.2
  exact⟨p,q,Go.WideElems.Trod_stays hl ht.1.1 ht.1.2 N (fun x z=>hb.same (J x (abY _ z))) (fun x z=>L x (abY _ z)),
   By hl hb R O (fun x z=>J x (adt _ z)) sp (fun x z=>L x (adt _ z)),rfl⟩
 | [],_::_,_,_,_,h,_,_,_=>h.elim
 | [],[],_::_,_,_,h,_,_,_=>h.elim
 | _::_,[],_,_,_,h,_,_,_=>h.elim
 | _::_,_::_,[],_,_,h,_,_,_=>h.elim
theorem EM {W : World} (h1 : ∃ m : Int, W.cell? ⟨0, 0, none⟩ = some (.int .i64 m)) (h2 : Lib.TabIs Tryz.prog W "internal/strconv.uint64pow10" .u64 Lib.pow10Tab) : Env (fun b => b < W.heap.size) W := by
 refine⟨?_,block_lt_of_cell (h2.cell St 0 (by decide)),h1,h2⟩;obtain⟨m,hm⟩:=h1;exact block_lt_of_cell hm
theorem U9:laidOutB Tryz.prog=true:=by kernel_rfl
theorem M_{s:ByteArray}(h:s.size<=1048576):ue s:=adY h (by decide)
end M
namespace Reg
def par:List Int->Int->Bool
 | [],_=>false
 | c::a,x=>Bool.xor (decide (c<=x)) (par a x)
theorem pd{a:List Int}{x:Int}(h:∀c∈a,x<c):par a x=false:=by
 induction a with
 | nil=>rfl
 | cons c a ih=>
  have h1:=h c (by simp);rw[par,ih (fun d z=>h d (by simp[z])),aaC (by omega)];rfl
theorem vz{a:List Int}{x:Int}(h:∀c∈a,c<=x):par a x=decide (a.length % 2=1):=by
 induction a with
 | nil=>rfl
 | cons c a ih=>
  have z:=h c (by simp);rw[par,ih (fun d D=>h d (by simp[D])),aaA z,aaB];rcases Nat.mod_two_eq_zero_or_one a.length with e | e
  ·rw[aaC (by omega),aaA (by omega)];rfl
  rw[aaA (by omega),aaC (by omega)];rfl
theorem bF.tail{c:Int}{a:List Int}(h:bF (c::a)):bF a:=(abw.1 h).2
theorem bF.behind{c:Int}{a:List Int}(h:bF (c::a)):∀d∈a,c<d:=(abw.1 h).1
def gZ:List Int->List Int->Option Int
 | [],[]=>none
 | p::_,[]=>some p
 | [],q::_=>some q
 | p::_,q::_=>some (if p<=q then p else q)
def dv(x:Int):List Int->Bool->List Int×Bool
 | [],s=>([],s)
 | p::r,s=>if p=x then (r,!s) else (p::r,s)
theorem Bz{x:Int}{a:List Int}{s:Bool}(z:bF a)(J:∀c∈a,x<=c):bF (dv x a s).1/\(∀c∈(dv x a s).1,x<c/\c∈a)/\(∀y,x<=y->Bool.xor (dv x a s).2 (par (dv x a s).1 y)=Bool.xor s (par a y))/\(dv x a s).1.length<=a.length/\(a.head?=some x->(dv x a s).1.length+1=a.length):=by
 cases a with
 | nil=>exact⟨z,fun c h=>by simp[dv]at h,fun y _=>rfl,aam _,fun h=>by cases h⟩
 | cons p r=>
  by_cases e:p=x
  ·subst e;have e1:dv p (p::r) s=(r,!s):=by simp[dv]
   rw[e1];refine⟨z.tail,fun c D=>⟨z.behind c D,by simp[D]⟩,fun y I=>?_,by simp,fun _=>rfl⟩;rw[par,aaA I];cases s<;>cases par r y<;>rfl
  have e1:dv x (p::r) s=(p::r,s):=by simp[dv,e]
  rw[e1];refine⟨z,fun c D=>⟨?_,D⟩,fun y I=>rfl,aam _,fun h=>absurd (by simpa using h) e⟩;have h1:=J p (by simp);rcases adq.1 D with h | h
  ·omega
  have:=z.behind c h;omega
def ahH(k:Bool->Bool->Bool):Nat->List Int->List Int->Bool->Bool->Bool->List Int
 | 0,_,_,_,_,_=>[]
 | n+1,a,b,ia,ib,is=>match gZ a b with
  | none=>[]
  | some x=>if k (dv x a ia).2 (dv x b ib).2=is then ahH k n (dv x a ia).1 (dv x b ib).1 (dv x a ia).2 (dv x b ib).2 is
   else x::ahH k n (dv x a ia).1 (dv x b ib).1 (dv x a ia).2 (dv x b ib).2 (k (dv x a ia).2 (dv x b ib).2)
def eo(k:Bool->Bool->Bool)(a b:List Int):List Int:=ahH k (a.length+b.length) a b false false false
theorem Hb{a b:List Int}(z:bF a)(hb:bF b):match gZ a b with
  | none=>a=[]/\b=[]
  | some x=>(∀c∈a,x<=c)/\(∀c∈b,x<=c)/\(a.head?=some x\/b.head?=some x):=by
 cases a with
 | nil=>
  cases b with
  | nil=>exact⟨rfl,rfl⟩
  | cons q u=>
   show (∀c∈([]:List Int),q<=c)/\(∀c∈q::u,q<=c)/\(([]:List Int).head?=some q\/(q::u).head?=some q);refine⟨fun c h=>(by cases h),fun c h=>?_,.inr rfl⟩;rcases adq.1 h with h | h
   ·omega
   have:=hb.behind c h;omega
 | cons p r=>
  cases b with
  | nil=>
   show (∀c∈p::r,p<=c)/\(∀c∈([]:List Int),p<=c)/\((p::r).head?=some p\/([]:List Int).head?=some p);refine⟨fun c h=>?_,fun c h=>(by cases h),.inl rfl⟩;rcases adq.1 h with h | h
   ·omega
   have:=z.behind c h;omega
  | cons q u=>
   have D:∀c∈p::r,p<=c:=fun c h=>by
    rcases adq.1 h with h | h
    ·omega
    have:=z.behind c h;omega
   have I:∀c∈q::u,q<=c:=fun c h=>by
    rcases adq.1 h with h | h
    ·omega
    have:=hb.behind c h;omega
   by_cases e:p<=q
   ·simp only[gZ,aap e];exact⟨D,fun c h=>by have:=I c h;omega,.inl rfl⟩
   simp only[gZ,aaa e];exact⟨fun c h=>by have:=D c h;omega,I,.inr rfl⟩
theorem Hc(k:Bool->Bool->Bool):∀(n:Nat) (a b:List Int) (z D is:Bool),a.length+b.length<=n->bF a->bF b->is=k z D ->
  bF (ahH k n a b z D is)/\(∀c∈ahH k n a b z D is,c∈a\/c∈b)/\(∀y,Bool.xor is (par (ahH k n a b z D is) y)=k (Bool.xor z (par a y)) (Bool.xor D (par b y))):=by
 intro n
 induction n with
 | zero=>
  intro a b z D is hn _ _ N;have ea:a=[]:=adl (by omega);have eb:b=[]:=adl (by omega);subst ea eb;exact⟨List.Pairwise.nil,fun c h=>by simp[ahH]at h,fun y=>by simp[ahH,par,N]⟩
 | succ n ih=>
  intro a b z D is hn Y hb N;have O:=Hb Y hb;unfold ahH;cases hc:gZ a b with
  | none=>
   rw[hc]at O;obtain⟨rfl,rfl⟩:=O;exact⟨List.Pairwise.nil,fun c h=>by simp at h,fun y=>by simp[par,N]⟩
  | some x=>
   rw[hc]at O;obtain⟨Z,xb,xh⟩:=O;obtain⟨a1,R,a3,a4,a5⟩:=Bz (s:=z) Y Z;obtain⟨b1,U,b3,b4,b5⟩:=Bz (s:=D) hb xb;have Ct:(dv x a z).1.length+(dv x b D).1.length<=n:=by
    rcases xh with h | h
    ·have:=a5 h;omega
    have:=b5 h;omega
   simp only;have I:∀y,y<x->k (Bool.xor z (par a y)) (Bool.xor D (par b y))=is:=fun y J=>by
    rw[pd (fun c h=>by have:=Z c h;omega),pd (fun c h=>by have:=xb c h;omega),N];simp
   split
   ·rename_i hk;obtain⟨V,L,W⟩:=ih _ _ _ _ is Ct a1 b1 hk.symm;refine⟨V,fun c h=>?_,fun y=>?_⟩
    ·rcases L c h with h | h
     ·exact .inl (R c h).2
     exact .inr (U c h).2
    by_cases J:x<=y
    ·rw[W y,a3 y J,b3 y J]
    rw[I y (by omega),pd (fun c h=>by
     rcases L c h with h | h
     ·have:=(R c h).1;omega
     have:=(U c h).1;omega)]
    simp
   rename_i hk;obtain⟨V,L,W⟩:=ih _ _ _ _ (k (dv x a z).2 (dv x b D).2) Ct a1 b1 rfl;have up:∀c∈ahH k n (dv x a z).1 (dv x b D).1 (dv x a z).2 (dv x b D).2 (k (dv x a z).2 (dv x b D).2),x<c:=fun c h=>by
    rcases L c h with h | h
    ·exact (R c h).1
    exact (U c h).1
   refine⟨abw.2 ⟨up,V⟩,fun c h=>?_,fun y=>?_⟩
   ·rcases adq.1 h with h | h
    ·subst h;rcases xh with h | h
     ·exact .inl (List.mem_of_mem_head? (by rw[h];rfl))
     exact .inr (List.mem_of_mem_head? (by rw[h];rfl))
    rcases L c h with h | h
    ·exact .inl (R c h).2
    exact .inr (U c h).2
   by_cases J:x<=y
   ·rw[<-a3 y J,<-b3 y J,<-W y,par,aaA J];revert hk;cases k (dv x a z).2 (dv x b D).2<;>cases is<;>simp
   rw[I y (by omega),pd (fun c h=>by
    rcases adq.1 h with h | h
    ·omega
    have:=up c h;omega)]
   simp
theorem EN{k:Bool->Bool->Bool}(hk:k false false=false){a b:List Int}(L:bF a)(hb:bF b)(N:a.length % 2=0)(O:b.length % 2=0):
  bF (eo k a b)/\(∀c∈eo k a b,c∈a\/c∈b)/\(∀y,par (eo k a b) y=k (par a y) (par b y))/\(eo k a b).length % 2=0:=by
 obtain⟨R,D,U⟩:=Hc k _ a b false false false (aam _) L hb hk.symm;have I:∀y,par (eo k a b) y=k (par a y) (par b y):=fun y=>by have:=U y;rw[adJ,adJ,adJ]at this;exact this
 refine⟨R,D,I,?_⟩;obtain⟨m,z⟩:∃m:Int,(∀c∈a,c<=m)/\∀c∈b,c<=m:=by
  have up:∀l:List Int,∃m:Int,∀c∈l,c<=m:=fun l=>by
   induction l with
   | nil=>exact⟨0,fun c h=>by cases h⟩
   | cons c l ih=>
    obtain⟨m,z⟩:=ih;refine⟨max m c,fun d V=>?_⟩;rcases adq.1 V with h | h
    ·omega
    have:=z d h;omega
  obtain⟨W,Y⟩:=up a;obtain⟨Z,g2⟩:=up b;exact⟨max W Z,fun c h=>by have:=Y c h;omega,fun c h=>by have:=g2 c h;omega⟩
 have J:=I m;rw[vz z.1,vz z.2,vz (a:=eo k a b) (fun c h=>(D c h).elim (z.1 c) (z.2 c)),N,O]at J;simp[hk]at J;omega
def bw:aU->List Int
 | []=>[]
 | p::s=>p.1::p.2::bw s
def pairUp:List Int->aU
 | p::q::r=>(p,q)::pairUp r
 | _=>[]
theorem wN:∀l:List Int,l.length % 2=0->bw (pairUp l)=l
 | [],_=>rfl
 | [_],h=>by simp at h
 | p::q::r,h=>by
  rw[pairUp,bw,wN r (by simp at h ⊢;omega)]
theorem fN(s:aU):(bw s).length=2*s.length:=by
 induction s with
 | nil=>rfl
 | cons p s ih=>simp only[bw,aaB,ih];omega
theorem aep{s:aU}{c:Int}:c∈bw s↔∃p∈s,c=p.1\/c=p.2:=by
 induction s with
 | nil=>simp[bw]
 | cons p s ih=>
  simp only[bw,adq,ih];constructor
  ·rintro (h | h | ⟨q,z,h⟩)
   ·exact⟨p,.inl rfl,.inl h⟩
   ·exact⟨p,.inl rfl,.inr h⟩
   exact⟨q,.inr z,h⟩
  rintro⟨q,rfl | z,h⟩
  ·rcases h with h | h
   ·exact .inl h
   exact .inr (.inl h)
  exact .inr (.inr ⟨q,z,h⟩)
theorem nt{s:aU}(h:Canon s):bF (bw s):=by
 induction s with
 | nil=>exact List.Pairwise.nil
 | cons p s ih=>
  have N:=h.head;have J:=h.behind;have L:∀d∈bw s,p.2<d:=fun d D=>by
   obtain⟨q,z,e⟩:=aep.1 D;have O:=J q z;have h4:q.1<q.2:=by
    clear ih e N J O D;have:=h.tail;clear h
    induction s with
    | nil=>cases z
    | cons a s I=>
     rcases adq.1 z with rfl | z
     ·exact this.head
     exact I z this.tail
   omega
  refine abw.2 ⟨fun d D=>?_,abw.2 ⟨L,ih h.tail⟩⟩;rcases adq.1 D with h | h
  ·omega
  have:=L d h;omega
theorem uh:∀l:List Int,bF l->Canon (pairUp l)
 | [],_=>trivial
 | [_],_=>trivial
 | p::q::r,h=>by
  have D:=h.behind q (by simp);have I:=h.tail.behind;refine Canon.cons D (fun t z=>?_) (uh r h.tail.tail);have:∀(l:List Int) (t:Int×Int),t∈pairUp l->t.1∈l:=fun l=>by
   induction l using pairUp.induct with
   | case1 a b l ih=>
    intro t z;rw[pairUp,adq]at z;rcases z with h | h
    ·subst h;simp
    have:=ih t h;simp[this]
   | case2 l hl=>intro t z;rw[pairUp]at z;cases z;exact hl
  exact I _ (this r t z)
theorem cu{s:aU}(h:Canon s)(x:Int):par (bw s) x=true↔cover s x:=by
 induction s with
 | nil=>simp[bw,par,eQ]
 | cons p s ih=>
  have h1:=h.head;rw[bw,par,par,bJ,<-ih h.tail];by_cases e1:p.1<=x
  ·by_cases e2:p.2<=x
   ·rw[aaA e1,aaA e2];simp;omega
   have z:par (bw s) x=false:=by
    rw[aaV];intro hp;exact h.jJ (x:=x) (by omega) ((ih h.tail).1 hp)
   rw[z,aaA e1,aaC e2];simp;omega
  have z:par (bw s) x=false:=by
   rw[aaV];intro hp;exact h.jJ (x:=x) (by omega) ((ih h.tail).1 hp)
  rw[z,aaC e1,aaC (by omega)];simp;omega
def at'(s:List an)(x y:Int):Bool:=s.any fun b=>decide (b.y0<=y)&&decide (y<b.y1)&&par (bw b.xs) x
variable {s:List an}
theorem qB{x y:Int}:at' s x y=true↔∃b∈s,b.y0<=y/\y<b.y1/\par (bw b.xs) x=true:=by
 simp[at',aci,and_assoc]
theorem jR(s t:List an)(x y:Int):at' (s++t) x y=(at' s x y||at' t x y):=by simp[at',ad9]
theorem at_one(b:an)(x y:Int):at' [b] x y=(decide (b.y0<=y)&&decide (y<b.y1)&&par (bw b.xs) x):=by simp[at']
theorem jS{x y:Int}(h:∀b∈s,y<b.y0\/b.y1<=y):at' s x y=false:=by
 rw[aaV];intro hp;obtain⟨b,hb,h1,h2,_⟩:=qB.1 hp;rcases h b hb with h | h<;>omega
structure IV(b:an):Prop where
 lt:b.y0<b.y1
 ne:b.xs≠[]
 can:Canon b.xs
def bE:List an->Prop
 | []=>True
 | [b]=>IV b
 | b::c::r=>IV b/\b.y1<=c.y0/\(b.y1=c.y0->b.xs≠c.xs)/\bE (c::r)
theorem bE.head{b:an}(h:bE (b::s)):IV b:=by
 cases s with
 | nil=>exact h
 | cons c r=>exact h.1
theorem bE.tail{b:an}(h:bE (b::s)):bE s:=by
 cases s with
 | nil=>trivial
 | cons c r=>exact h.2.2.2
theorem bE.fM{b:an}(h:bE (b::s)):∀t∈s,b.y1<=t.y0:=by
 induction s generalizing b with
 | nil=>intro t z;cases z
 | cons c r ih=>
  intro t z;rcases adq.1 z with e | z
  ·subst e;exact h.2.1
  have h1:=ih h.tail t z;have h2:=h.tail.head.lt;have h3:=h.2.1;omega
theorem bE.mem(h:bE s):∀b∈s,IV b:=by
 induction s with
 | nil=>intro b hb;cases hb
 | cons c r ih=>
  intro b hb;rcases adq.1 hb with e | hb
  ·subst e;exact h.head
  exact ih h.tail b hb
theorem y7{b:an}(h:bE s)(hb:IV b)(D:∀t∈s,t.y1<=b.y0)(hl:∀t,s.getLast?=some t->t.y1=b.y0->t.xs≠b.xs):bE (s++[b]):=by
 induction s with
 | nil=>exact hb
 | cons c r ih=>
  cases r with
  | nil=>exact⟨h.head,D c (by simp),hl c rfl,hb⟩
  | cons d u=>
   have:=ih h.tail (fun t z=>D t (by simp[z])) (fun t z=>hl t (by rw[abp];exact z));exact⟨h.1,h.2.1,h.2.2.1,this⟩
theorem Na{b:an}(h:bE (s++[b])):bE s/\IV b/\(∀t∈s,t.y1<=b.y0)/\(∀t,s.getLast?=some t->t.y1=b.y0->t.xs≠b.xs):=by
 induction s with
 | nil=>exact⟨trivial,h,fun t z=>(by cases z),fun t z=>(by cases z)⟩
 | cons c r ih=>
  cases r with
  | nil=>
   refine⟨h.head,h.2.2.2,fun t z=>?_,fun t z=>?_⟩
   ·rw[ab_]at z;subst z;exact h.2.1
   simp at z;subst z;exact h.2.2.1
  | cons d u=>
   obtain⟨D,I,J,L⟩:=ih h.tail;refine⟨⟨h.1,h.2.1,h.2.2.1,D⟩,I,fun t z=>?_,fun t z=>L t (by rw[abp]at z;exact z)⟩;rcases adq.1 z with e | z
   ·subst e;have N:=h.fM b (by simp);exact N
   exact J t z
theorem jT{b:an}(h:bE s)(R:b.y0<b.y1)(U:Canon b.xs)(J:∀t∈s,t.y1<=b.y0):
  bE (cA s b)/\(∀t∈cA s b,t.y1<=b.y1)/\(∀x y,at' (cA s b) x y=(at' s x y||at' [b] x y))/\(∀t∈cA s b,(∃u∈s,u.xs=t.xs/\u.y0=t.y0)\/(t.xs=b.xs/\t.y0=b.y0)):=by
 unfold cA;by_cases I:b.xs=[]
 ·rw[aap I];refine⟨h,fun t D=>by have:=J t D;omega,fun x y=>?_,fun t D=>.inl ⟨t,D,rfl,rfl⟩⟩;rw[at_one,I];simp[bw,par]
 rw[aaa I];have hb:IV b:=⟨R,I,U⟩;cases hl:s.getLast? with
 | none=>
  have:s=[]:=abe.1 hl;subst this;exact⟨hb,fun t D=>by rw[ab_]at D;subst D;exact aaD _,fun x y=>by rw[show at' [] x y=false from rfl,abv],fun t D=>.inr (by rw[ab_]at D;subst D;exact⟨rfl,rfl⟩)⟩
 | some t=>
  simp only;obtain⟨d,V⟩:=adG.1 hl;subst V;obtain⟨W,L,O,Y⟩:=Na h;split
  ·rename_i N;obtain⟨m1,Z⟩:=N;rw[List.dropLast_concat];have t1:=L.lt;refine⟨y7 W ⟨?_,L.ne,L.can⟩ O Y,fun u z=>?_,fun x y=>?_,fun u z=>?_⟩
   ·show t.y0<b.y1;omega
   ·rcases abi.1 z with z | z
    ·have:=O u z;omega
    rw[ab_]at z;subst z;exact aaD _
   ·rw[jR,jR,at_one,at_one,at_one,<-Z,Bool.or_assoc];congr 1;show (decide (t.y0<=y)&&decide (y<b.y1)&&par (bw t.xs) x)=_;by_cases c1:t.y0<=y<;>by_cases c2:y<b.y1<;>by_cases c3:y<t.y1<;>by_cases c4:b.y0<=y<;>simp[c1,c2,c3,c4]<;>omega
   rcases abi.1 z with z | z
   ·exact .inl ⟨u,by simp[z],rfl,rfl⟩
   rw[ab_]at z;subst z;exact .inl ⟨t,by simp,rfl,rfl⟩
  rename_i N;refine⟨y7 h hb J (fun u z h1 h2=>N ?_),fun u z=>?_,fun x y=>jR _ _ x y,fun u z=>?_⟩
  ·rw[hl]at z;cases z;exact⟨h1,h2⟩
  ·rcases abi.1 z with z | z
   ·have:=J u z;omega
   rw[ab_]at z;subst z;exact aaD _
  rcases abi.1 z with z | z
  ·exact .inl ⟨u,z,rfl,rfl⟩
  rw[ab_]at z;subst z;exact .inr ⟨rfl,rfl⟩
def eI(s:List an)(y e:Int):aU×Int:=match s with
 | []=>([],e)
 | b::_=>if y<b.y0 then ([],min e b.y0) else (b.xs,min e b.y1)
def aq(y:Int):List an->List an
 | []=>[]
 | b::s=>if b.y1<=y then aq y s else b::s
theorem e_{y:Int}(h:bE s):bE (aq y s)/\(∀t∈aq y s,t∈s/\y<t.y1)/\∀x z,y<=z->at' (aq y s) x z=at' s x z:=by
 induction s with
 | nil=>exact⟨trivial,fun t D=>(by cases D),fun x z _=>rfl⟩
 | cons b s ih=>
  obtain⟨J,I,L⟩:=ih h.tail;by_cases e:b.y1<=y
  ·rw[aq,aap e];refine⟨J,fun t D=>⟨by simp[(I t D).1],(I t D).2⟩,fun x z N=>?_⟩;rw[L x z N,show b::s=[b]++s from rfl,jR,at_one,aaC (by omega:¬z<b.y1)];simp
  rw[aq,aaa e];refine⟨h,fun t D=>⟨D,?_⟩,fun x z _=>rfl⟩;rcases adq.1 D with e | D
  ·subst e;omega
  have h1:=h.fM t D;have h2:=(h.tail.mem t D).lt;omega
theorem iX{s:List an}{y e:Int}(h:bE s)(J:∀t∈s,y<t.y1)(L:y<e):Canon (eI s y e).1/\y<(eI s y e).2/\(eI s y e).2<=e/\(∀p∈(eI s y e).1,∃b∈s,p∈b.xs)/\∀x z,y<=z->z<(eI s y e).2->at' s x z=par (bw (eI s y e).1) x:=by
 cases s with
 | nil=>exact⟨trivial,L,aaD _,fun p hp=>by simp[eI]at hp,fun x z _ _=>rfl⟩
 | cons b s=>
  have hb:=J b (by simp);by_cases c:y<b.y0
  ·have e1:eI (b::s) y e=([],min e b.y0):=by simp[eI,c]
   rw[e1];refine⟨trivial,by show y<min e b.y0;omega,by show min e b.y0<=e;omega,fun p hp=>by simp at hp,fun x z N D=>?_⟩;have D:z<min e b.y0:=D;rw[show bw ([]:aU)=[] from rfl,show par [] x=false from rfl];refine jS fun t I=>.inl ?_;rcases adq.1 I with e | I
   ·subst e;omega
   have h3:=h.fM t I;have h4:=h.head.lt;omega
  have e1:eI (b::s) y e=(b.xs,min e b.y1):=by simp[eI,c]
  rw[e1];refine⟨h.head.can,by show y<min e b.y1;omega,by show min e b.y1<=e;omega,fun p hp=>⟨b,by simp,hp⟩,fun x z N D=>?_⟩;have D:z<min e b.y1:=D;rw[show b::s=[b]++s from rfl,jR,at_one,aaA (by omega:b.y0<=z),aaA (by omega:z<b.y1),jS (s:=s) fun t I=>.inl (by have:=h.fM t I;omega)];simp
def dI(k:Bool->Bool->Bool):Nat->List an->List an->Int->Int->List an->List an
 | 0,_,_,_,_,out=>out
 | n+1,a,b,y,e,out=>if y<e then dI k n (aq y a) (aq y b) (min (eI (aq y a) y e).2 (eI (aq y b) y e).2) e
   (cA out ⟨y,min (eI (aq y a) y e).2 (eI (aq y b) y e).2,pairUp (eo k (bw (eI (aq y a) y e).1) (bw (eI (aq y b) y e).1))⟩) else out
def cv(K:Int)(s:List an):Prop:=∀b∈s,-K<=b.y0/\b.y1<=K/\∀p∈b.xs,-K<=p.1/\p.2<=K
theorem ahL{s:aU}(h:Canon s):∀p∈s,p.1<p.2:=by
 induction s with
 | nil=>intro p hp;cases hp
 | cons a s ih=>
  intro p hp;rcases adq.1 hp with e | hp
  ·subst e;exact h.head
  exact ih h.tail p hp
theorem mw{k:Bool->Bool->Bool}(hk:k false false=false){s t:aU}(I:Canon s)(J:Canon t):Canon (pairUp (eo k (bw s) (bw t)))/\(∀x,par (bw (pairUp (eo k (bw s) (bw t)))) x=k (par (bw s) x) (par (bw t) x))/\bw (pairUp (eo k (bw s) (bw t)))=eo k (bw s) (bw t)/\
  ∀K,(∀p∈s,-K<=p.1/\p.2<=K)->(∀p∈t,-K<=p.1/\p.2<=K)->∀p∈pairUp (eo k (bw s) (bw t)),-K<=p.1/\p.2<=K:=by
 obtain⟨L,N,O,R⟩:=EN hk (nt I) (nt J) (by rw[fN];omega) (by rw[fN];omega);have D:=wN _ R;refine⟨uh _ L,fun x=>by rw[D,O],D,fun K U V p hp=>?_⟩;have all:∀c∈eo k (bw s) (bw t),-K<=c/\c<=K:=fun c W=>by
  rcases N c W with h | h
  ·obtain⟨q,z,e⟩:=aep.1 h;have:=U q z;have:=ahL I q z;omega
  obtain⟨q,z,e⟩:=aep.1 h;have:=V q z;have:=ahL J q z;omega
 rw[<-D]at all;exact⟨(all p.1 (aep.2 ⟨p,hp,.inl rfl⟩)).1,(all p.2 (aep.2 ⟨p,hp,.inr rfl⟩)).2⟩
theorem EO{k:Bool->Bool->Bool}(hk:k false false=false):∀(n:Nat) (a b:List an) (y e:Int) (out:List an),(e-y).toNat<=n->bE a->bE b->bE out->(∀t∈out,t.y1<=y)->(∀t∈a,t.y1<=e)->(∀t∈b,t.y1<=e)->
  bE (dI k n a b y e out)/\(∀x z,at' (dI k n a b y e out) x z=if z<y then at' out x z else k (at' a x z) (at' b x z))/\∀K,cv K a->cv K b->cv K out->-K<=y->e<=K->cv K (dI k n a b y e out):=by
 intro n;have stop:∀(a b:List an) (y e:Int) (out:List an),¬y<e->bE out->(∀t∈out,t.y1<=y)->(∀t∈a,t.y1<=e)->(∀t∈b,t.y1<=e)->∀x z,at' out x z=if z<y then at' out x z else k (at' a x z) (at' b x z):=fun a b y e out hn J L N O x z=>by
  split
  ·rfl
  rw[jS (s:=out) fun t D=>.inr (by have:=L t D;omega),jS (s:=a) fun t D=>.inr (by have:=N t D;omega),jS (s:=b) fun t D=>.inr (by have:=O t D;omega),hk]
 induction n with
 | zero=>
  intro a b y e out hn ha hb J L N O;exact⟨J,stop a b y e out (by omega) J L N O,fun K _ _ g _ _=>g⟩
 | succ n ih=>
  intro a b y e out hn ha hb J L N O;rw[dI];split
  ·rename_i R;obtain⟨a1,U,a3⟩:=e_ (y:=y) ha;obtain⟨b1,V,b3⟩:=e_ (y:=y) hb;obtain⟨c1,c2,c3,c4,c5⟩:=iX a1 (fun t D=>(U t D).2) R;obtain⟨d1,d2,d3,d4,d5⟩:=iX b1 (fun t D=>(V t D).2) R;obtain⟨r1,r2,r3,r4⟩:=mw hk c1 d1;obtain⟨I,Au⟩:∃I,I=min (eI (aq y a) y e).2 (eI (aq y b) y e).2:=⟨_,rfl⟩;rw[<-Au];have n1:y<I:=by omega
   have n2:I<=e:=by omega
   obtain⟨p1,p2,p3,p4⟩:=jT (b:=⟨y,I,pairUp (eo k (bw (eI (aq y a) y e).1) (bw (eI (aq y b) y e).1))⟩) J n1 r1 L;obtain⟨i1,i2,i3⟩:=ih (aq y a) (aq y b) I e _ (by omega) a1 b1 p1 p2 (fun t D=>N t (U t D).1) (fun t D=>O t (V t D).1);refine⟨i1,fun x z=>?_,fun K g1 g2 g3 g4 g5=>?_⟩
   ·rw[i2 x z,p3 x z,at_one];by_cases z1:z<y
    ·rw[aap (by omega),aap z1,aaC (by omega:¬y<=z)];simp
    rw[aaa z1];by_cases W:z<I
    ·rw[aap W,aaA (by omega:y<=z),aaA W,r2 x,<-c5 x z (by omega) (by omega),<-d5 x z (by omega) (by omega),a3 x z (by omega),b3 x z (by omega),jS (s:=out) fun t D=>.inr (by have:=L t D;omega)];simp
    rw[aaa W,a3 x z (by omega),b3 x z (by omega)]
   refine i3 K (fun t D=>g1 t (U t D).1) (fun t D=>g2 t (V t D).1) (fun t D=>?_) (by omega) g5;have e1:=p2 t D;have e1:t.y1<=I:=e1;have rr:=r4 K (fun p hp=>by obtain⟨q,Y,hp⟩:=c4 p hp;exact (g1 q (U q Y).1).2.2 p hp) (fun p hp=>by obtain⟨q,Y,hp⟩:=d4 p hp;exact (g2 q (V q Y).1).2.2 p hp);rcases p4 t D with⟨u,hu,x1,Z⟩ | ⟨x1,Z⟩
   ·have:=g3 u hu;rw[<-x1,<-Z];exact⟨this.1,by omega,this.2.2⟩
   rw[x1,Z];exact⟨g4,by omega,rr⟩
  rename_i R;exact⟨J,stop a b y e out R J L N O,fun K _ _ g _ _=>g⟩
def dE(x y:Int)(r:ae):Bool:=((decide (r.x0<=x)&&decide (x<r.x1))&&decide (r.y0<=y))&&decide (y<r.y1)
theorem aQ{x y:Int}{r:ae}:dE x y r=true↔r.x0<=x/\x<r.x1/\r.y0<=y/\y<r.y1:=by
 simp[dE,and_assoc]
def Full(r:ae):Prop:=r.x0<r.x1/\r.y0<r.y1
def RK(K:Int)(r:ae):Prop:=-K<=r.x0/\-K<=r.y0/\r.x1<=K/\r.y1<=K
theorem Q0{ys:List Int}(h:bF ys){k:Nat}{a b c:Int}(I:ys[k]?=some a)(hb:ys[k+1]?=some b)(J:c∈ys):c<=a\/b<=c:=by
 obtain⟨j,L⟩:=ab8.1 J;obtain⟨N,O⟩:=aao.1 I;obtain⟨R,U⟩:=aao.1 hb;obtain⟨z,D⟩:=aao.1 L;have H:=abk.1 h;rcases ada j k with e | e | e
 ·have:=H j k z N e;omega
 ·subst e;rw[O]at D;omega
 rcases abm (k+1) j with e2 | e2
 ·have:=H (k+1) j R z e2;omega
 have:j=k+1:=by omega
 subst this;rw[U]at D;omega
theorem getD_some{l:List Int}{k:Nat}{a:Int}(h:l[k]?=some a):l.getD k 0=a:=by rw[aav,h];rfl
theorem Db{l:List ae}(hl:∀r∈l,Full r)(y:Int)(x:Int):par (bw (rowOf l y)) x=l.any (dE x y):=by
 obtain⟨D,I⟩:=iS l y (fun r z=>(hl r z).1);rw[abb,cu D,I,aci];constructor
 ·rintro⟨r,z,a,b⟩;exact⟨r,z,aQ.2 ⟨b.1,b.2,a.1,a.2⟩⟩
 rintro⟨r,z,a⟩;obtain⟨J,L,N,O⟩:=aQ.1 a;exact⟨r,z,⟨N,O⟩,J,L⟩
theorem Nb{l:List ae}(hl:∀r∈l,Full r)(y:Int){K:Int}(hk:∀r∈l,RK K r):∀p∈rowOf l y,-K<=p.1/\p.2<=K:=by
 obtain⟨I,D⟩:=iS l y (fun r z=>(hl r z).1);intro p hp;have J:=ahL I p hp;obtain⟨r,z,_,a,_⟩:=(D p.1).1 ⟨p,hp,aaD _,J⟩;obtain⟨q,L,_,b1,b2⟩:=(D (p.2-1)).1 ⟨p,hp,by omega,by omega⟩;have N:=hk r z;have O:=hk q L;exact⟨by have:=N.1;omega,by have:=O.2.2.1;omega⟩
theorem AH{l:List ae}(hl:∀r∈l,Full r):∀(k:Nat) (y:Int),(aE l)[k]?=some y ->
  bE (cg l (aE l) k)/\(∀t∈cg l (aE l) k,t.y1<=y)/\(∀x z,at' (cg l (aE l) k) x z=(decide (z<y)&&l.any (dE x z)))/\∀K,(∀r∈l,RK K r)->cv K (cg l (aE l) k):=by
 obtain⟨N,R⟩:=cT l;intro k
 induction k with
 | zero=>
  intro y L;refine⟨trivial,fun t O=>(by cases O),fun x z=>?_,fun K _ t O=>(by cases O)⟩;show false=_;symm;rw[abF];by_cases hz:z<y
  ·right;rw[aaV];intro hp;obtain⟨r,I,h⟩:=aci.1 hp;obtain⟨_,_,h3,_⟩:=aQ.1 h;have h4:r.y0∈aE l:=(R _).2 ⟨r,I,.inl rfl⟩;obtain⟨j,hj⟩:=ab8.1 h4;obtain⟨U,Y⟩:=aao.1 L;obtain⟨j1,j2⟩:=aao.1 hj;rcases adI j with e | e
   ·subst e;rw[Y]at j2;omega
   have:=abk.1 N 0 j U j1 e;omega
  left;exact aaC hz
 | succ k ih=>
  intro y L;obtain⟨D,J⟩:∃D,(aE l)[k]?=some D:=by
   have:=(aao.1 L).1;exact⟨_,acg (by omega)⟩
  obtain⟨i1,i2,i3,i4⟩:=ih D J;have eF:D < y:=by
   obtain⟨U,Y⟩:=aao.1 L;obtain⟨b1,b2⟩:=aao.1 J;have:=abk.1 N k (k+1) b1 U (by omega);omega
  rw[cg,getD_some J,getD_some L];obtain⟨h1,h2⟩:=iS l D (fun r N=>(hl r N).1);obtain⟨p1,Z,p3,p4⟩:=jT (b:=⟨D,y,rowOf l D⟩) i1 eF h1 i2;refine⟨p1,Z,fun x z=>?_,fun K hk t O=>?_⟩
  ·rw[p3,i3,at_one];show (decide (z<D)&&l.any (dE x z)||decide (D<=z)&&decide (z<y)&&par (bw (rowOf l D)) x)=_;rw[Db hl];by_cases V:z<D
   ·rw[aaA V,aaC (by omega:¬D<=z),aaA (by omega:z<y)];simp
   by_cases c2:z<y
   ·rw[aaC V,aaA (by omega:D<=z),aaA c2];simp only[aaI,abv,adr];rw[abb,aci,aci];have go:∀r∈l,(dE x D r=true↔dE x z r=true):=fun r I=>by
     have g1:=Q0 N J L ((R r.y0).2 ⟨r,I,.inl rfl⟩);have g2:=Q0 N J L ((R r.y1).2 ⟨r,I,.inr rfl⟩);rw[aQ,aQ];omega
    constructor
    ·rintro⟨r,I,h⟩;exact⟨r,I,(go r I).1 h⟩
    rintro⟨r,I,h⟩;exact⟨r,I,(go r I).2 h⟩
   rw[aaC V,aaC c2];simp
  have e1:=Z t O;have e1:t.y1<=y:=e1;have top:∀c,c∈aE l->-K<=c/\c<=K:=fun c hc=>by
   obtain⟨r,I,e⟩:=(R c).1 hc;have g:=hk r I;have g2:=hl r I;unfold RK at g;unfold Full at g2;omega
  have t1:=top y (aad L);have t2:=top D (aad J);rcases p4 t O with⟨u,hu,x1,W⟩ | ⟨x1,W⟩
  ·have g:=i4 K hk u hu;rw[<-x1,<-W];exact⟨g.1,by omega,g.2.2⟩
  rw[x1,W];exact⟨t2.1,by omega,Nb hl D hk⟩
theorem aR{l:List ae}(hl:∀r∈l,Full r):bE (aB l)/\(∀x z,at' (aB l) x z=l.any (dE x z))/\∀K,(∀r∈l,RK K r)->cv K (aB l):=by
 obtain⟨L,D⟩:=cT l;cases hg:aE l with
 | nil=>
  have e:l=[]:=by
   cases l with
   | nil=>rfl
   | cons r l=>
    have:r.y0∈aE (r::l):=(D _).2 ⟨r,by simp,.inl rfl⟩;rw[hg]at this;cases this
  subst e;exact⟨trivial,fun x z=>rfl,fun K _ t N=>by cases N⟩
 | cons a u=>
  obtain⟨y,I⟩:∃y,(aE l)[(aE l).length-1]?=some y:=⟨_,acg (by rw[hg];simp)⟩;obtain⟨O,h2,R,U⟩:=AH hl _ y I;refine⟨O,fun x z=>?_,U⟩;show at' (cg l (aE l) ((aE l).length-1)) x z=_;rw[R];by_cases J:z<y
  ·rw[aaA J,adr]
  rw[aaC J,aaI];symm;rw[aaV];intro hp;obtain⟨r,V,h⟩:=aci.1 hp;obtain⟨_,_,_,h5⟩:=aQ.1 h;obtain⟨j,W⟩:=ab8.1 ((D r.y1).2 ⟨r,V,.inr rfl⟩);obtain⟨Y,Z⟩:=aao.1 I;obtain⟨j1,j2⟩:=aao.1 W;rcases abm j ((aE l).length-1) with e | e
  ·have:=abk.1 L j _ j1 Y e;omega
  have:j=(aE l).length-1:=by omega
  subst this;rw[Z]at j2;omega
theorem gf{q:ae}:q∈told s↔∃b∈s,∃p∈b.xs,q=⟨p.1,b.y0,p.2,b.y1⟩:=by
 simp only[told,aax,adS];constructor
 ·rintro⟨b,hb,p,hp,e⟩;exact⟨b,hb,p,hp,e.symm⟩
 rintro⟨b,hb,p,hp,e⟩;exact⟨b,hb,p,hp,e.symm⟩
theorem iy(h:bE s)(x y:Int):(told s).any (dE x y)=at' s x y:=by
 rw[abb,aci,qB];constructor
 ·rintro⟨q,L,N⟩;obtain⟨b,hb,p,hp,rfl⟩:=gf.1 L;obtain⟨z,D,I,J⟩:=aQ.1 N;exact⟨b,hb,I,J,(cu (h.mem b hb).can x).2 ⟨p,hp,z,D⟩⟩
 rintro⟨b,hb,I,J,hp⟩;obtain⟨p,hp,z,D⟩:=(cu (h.mem b hb).can x).1 hp;exact⟨_,gf.2 ⟨b,hb,p,hp,rfl⟩,aQ.2 ⟨z,D,I,J⟩⟩
theorem bP(h:bE s):∀q∈told s,Full q:=fun q z=>by
 obtain⟨b,hb,p,hp,rfl⟩:=gf.1 z;exact⟨ahL (h.mem b hb).can p hp,(h.mem b hb).lt⟩
theorem fR(h:bE s){K:Int}(hk:cv K s):∀q∈told s,RK K q:=fun q z=>by
 obtain⟨b,hb,p,hp,rfl⟩:=gf.1 z;obtain⟨D,I,J⟩:=hk b hb;obtain⟨L,N⟩:=J p hp;exact⟨L,D,N,I⟩
theorem qC(h:bE s)(D:∀x y,at' s x y=false):s=[]:=by
 cases s with
 | nil=>rfl
 | cons b s=>
  have hb:=h.head;obtain⟨p,u,e⟩:∃p u,b.xs=p::u:=by
   cases hx:b.xs with
   | nil=>exact absurd hx hb.ne
   | cons p u=>exact⟨p,u,rfl⟩
  have z:at' (b::s) p.1 b.y0=true:=qB.2 ⟨b,by simp,aaD _,hb.lt,(cu hb.can _).2 ⟨p,by rw[e];simp,aaD _,ahL hb.can p (by rw[e];simp)⟩⟩;rw[D]at z;cases z
def dJ(l r d u:Int)(q:ae):ae:=⟨q.x0-l,q.y0-d,q.x1+r,q.y1+u⟩
def a_(s:List an)(l r d u:Int):List an:=aB ((told s).map (dJ l r d u))
theorem bW(h:bE s){l r d u:Int}(hl:0<=l)(hr:0<=r)(hd:0<=d)(hu:0<=u):
  bE (a_ s l r d u)/\(∀x y,at' (a_ s l r d u) x y=true↔∃a b,at' s a b=true/\x-r<=a/\a<=x+l/\y-u<=b/\b<=y+d)/\∀K M,cv K s->l<=M->r<=M->d<=M->u<=M->cv (K+M) (a_ s l r d u):=by
 have D:∀q∈(told s).map (dJ l r d u),Full q:=fun q z=>by
  obtain⟨p,hp,rfl⟩:=adS.1 z;have:=bP h p hp;unfold Full at this;exact⟨by show p.x0-l<p.x1+r;omega,by show p.y0-d<p.y1+u;omega⟩
 obtain⟨U,V,W⟩:=aR D;refine⟨U,fun x y=>?_,fun K M hk m1 m2 m3 m4=>W _ fun q z=>?_⟩
 ·rw[a_,V,aci];constructor
  ·rintro⟨q,z,I⟩;obtain⟨p,hp,rfl⟩:=adS.1 z;obtain⟨J,L,N,O⟩:=aQ.1 I;have J:p.x0-l<=x:=J;have L:x<p.x1+r:=L;have N:p.y0-d<=y:=N;have O:y<p.y1+u:=O;have D:=bP h p hp;unfold Full at D;refine⟨max p.x0 (min x (p.x1-1)),max p.y0 (min y (p.y1-1)),?_,by omega,by omega,by omega,by omega⟩;rw[<-iy h,aci];exact⟨p,hp,aQ.2 ⟨by omega,by omega,by omega,by omega⟩⟩
  rintro⟨a,b,R,J,L,N,O⟩;rw[<-iy h,aci]at R;obtain⟨p,hp,I⟩:=R;obtain⟨Y,Z,f3,f4⟩:=aQ.1 I;exact⟨_,adS.2 ⟨p,hp,rfl⟩,aQ.2 ⟨by show p.x0-l<=x;omega,by show x<p.x1+r;omega,by show p.y0-d<=y;omega,by show y<p.y1+u;omega⟩⟩
 obtain⟨p,hp,rfl⟩:=adS.1 z;obtain⟨Y,Z,f3,f4⟩:=fR h hk p hp;exact⟨by show -(K+M)<=p.x0-l;omega,by show -(K+M)<=p.y0-d;omega,by show p.x1+r<=K+M;omega,by show p.y1+u<=K+M;omega⟩
def p8(a b:List an):Int:=match a,b with
 | p::_,q::_=>min p.y0 q.y0
 | p::_,[]=>p.y0
 | [],q::_=>q.y0
 | [],[]=>0
def c9:List an->Int
 | []=>0
 | [b]=>b.y1
 | _::c::r=>c9 (c::r)
def p9(a b:List an):Int:=match a,b with
 | p::r,q::u=>max (c9 (p::r)) (c9 (q::u))
 | p::r,[]=>c9 (p::r)
 | [],q::u=>c9 (q::u)
 | [],[]=>0
theorem Dc(h:bE s):∀t∈s,t.y1<=c9 s:=by
 induction s with
 | nil=>intro t z;cases z
 | cons b s ih=>
  cases s with
  | nil=>intro t z;rw[ab_]at z;subst z;exact aaD _
  | cons c r=>
   intro t z;rw[c9];rcases adq.1 z with e | z
   ·subst e;have h1:=ih h.tail c (by simp);have h2:=h.2.1;have h3:=h.tail.head.lt;omega
   exact ih h.tail t z
theorem nL{K:Int}:∀{s:List an},s≠[]->cv K s->c9 s<=K
 | [],h,_=>absurd rfl h
 | [b],_,hk=>(hk b (by simp)).2.1
 | _::c::r,_,hk=>by rw[c9];exact nL (by simp) (fun t z=>hk t (by simp at z ⊢;exact .inr z))
def ik(k:Bool->Bool->Bool)(a b:List an):List an:=if a.length+b.length=0 then [] else dI k (p9 a b-p8 a b).toNat a b (p8 a b) (p9 a b) []
theorem lO{k:Bool->Bool->Bool}(hk:k false false=false){a b:List an}(L:bE a)(hb:bE b):
  bE (ik k a b)/\(∀x y,at' (ik k a b) x y=k (at' a x y) (at' b x y))/\∀K,cv K a->cv K b->cv K (ik k a b):=by
 unfold ik;by_cases e:a.length+b.length=0
 ·rw[aap e];have N:a=[]:=adl (by omega);have O:b=[]:=adl (by omega);subst N O;exact⟨trivial,fun x y=>hk.symm,fun K _ _ t z=>by cases z⟩
 rw[aaa e];have R:∀t∈a,p8 a b<=t.y0:=fun t z=>by
  cases a with
  | nil=>cases z
  | cons p r=>
   have D:p.y0<=t.y0:=by
    rcases adq.1 z with e | z
    ·subst e;exact aaD _
    have:=L.fM t z;have:=L.head.lt;omega
   cases b with
   | nil=>exact D
   | cons q u=>show min p.y0 q.y0<=t.y0;omega
 have U:∀t∈b,p8 a b<=t.y0:=fun t z=>by
  cases b with
  | nil=>cases z
  | cons q u=>
   have D:q.y0<=t.y0:=by
    rcases adq.1 z with e | z
    ·subst e;exact aaD _
    have:=hb.fM t z;have:=hb.head.lt;omega
   cases a with
   | nil=>exact D
   | cons p r=>show min p.y0 q.y0<=t.y0;omega
 have V:∀t∈a,t.y1<=p9 a b:=fun t z=>by
  have D:=Dc L t z;cases a with
  | nil=>cases z
  | cons p r=>
   cases b with
   | nil=>exact D
   | cons q u=>show t.y1<=max (c9 (p::r)) (c9 (q::u));omega
 have W:∀t∈b,t.y1<=p9 a b:=fun t z=>by
  have D:=Dc hb t z;cases b with
  | nil=>cases z
  | cons q u=>
   cases a with
   | nil=>exact D
   | cons p r=>show t.y1<=max (c9 (p::r)) (c9 (q::u));omega
 obtain⟨Y,Z,m3⟩:=EO hk _ a b (p8 a b) (p9 a b) [] (aam _) L hb trivial (fun t z=>by cases z) V W;refine⟨Y,fun x y=>?_,fun K I J=>m3 K I J (fun t z=>by cases z) ?_ ?_⟩
 ·rw[Z];split
  ·rename_i hy;rw[jS (s:=a) fun t z=>.inl (by have:=R t z;omega),jS (s:=b) fun t z=>.inl (by have:=U t z;omega),hk];rfl
  rfl
 ·cases a with
  | nil=>
   cases b with
   | nil=>exact absurd rfl e
   | cons q u=>exact (J q (by simp)).1
  | cons p r=>
   cases b with
   | nil=>exact (I p (by simp)).1
   | cons q u=>
    have:=(I p (by simp)).1;have:=(J q (by simp)).1;show -K<=min p.y0 q.y0;omega
 cases a with
 | nil=>
  cases b with
  | nil=>exact absurd rfl e
  | cons q u=>exact nL (by simp) J
 | cons p r=>
  cases b with
  | nil=>exact nL (by simp) I
  | cons q u=>
   have D:=nL (by simp) I;have h2:=nL (by simp) J;show max (c9 (p::r)) (c9 (q::u))<=K;omega
def cG(a b:Bool):Bool:=a&&!b
def bN(a b:List an):List an:=ik cG a b
end Reg
end Go.Proofs.YtfloceomobknoaaGreatDoor
