/- Part 6 of the proof of RulesClearMatchSpec. -/
import Derived.Test.YtfloceomobknoaaGreatDoorC05
import Derived.Sort.Walk0
import Derived.Test.YtfloceomobknoaaGreatDoorCards
import Derived.Test.YtfloceomobknoaaGreatDoorTie
import Derived.WalkKit
import Derived.ProofKit
import Derived.OpenShut
import Derived.Deep.DeepHandedRow
import Derived.Lib.LaidTab
import Derived.LaidMore
import Derived.Lay
import Derived.Stop.Joined
import Derived.Stop.LaidErr
import Derived.MakeChecks
import Derived.Deep.Fields
import Derived.Carry
set_option linter.unusedVariables false
set_option linter.unusedSimpArgs false
set_option maxRecDepth 100000
set_option maxHeartbeats 8000000
namespace Go
abbrev abL:=@List.filter_eq_nil_iff
abbrev adi:=@List.any_append
abbrev acY:=@Go.Deep.hone_of
abbrev ad9:=@Bool.false_xor
abbrev aeo:=@List.getLast?_cons_cons
abbrev adJ:=@List.getLast?_eq_none_iff
end Go
namespace Go.Proofs.YtfloceomobknoaaGreatDoor
namespace M
open Go.AM Go.RowKit Go.Lib
open Reg (ae aU an)
def Good(r:ae):Prop:=Bd r/\r.x0<r.x1/\r.y0<r.y1
theorem EF(l:List ae)(ys:List Int){N:Nat}(h:∀y,(Reg.rowOf l y).length<=N):∀k,∀t∈Reg.cg l ys k,t.xs.length<=N:=by
 intro k
 induction k with
 | zero=>simp[Reg.cg]
 | succ k ih=>rw[Reg.cg];exact yO _ _ _ ih (h _)
theorem uc(l:List ae)(hl:∀r∈l,Good r)(hN:l.length<=4398046511104)(hH:(Reg.aE l).length<=1000000000000)(hX:∀y,(Reg.rowOf l y).length<=1000000000000):af C 34 [.pv (aj l)] (.own 128 ((Reg.aB l).map hb)) []:=by
 refine uX ⟨[],[4],[],[20],[(20,[true,false,false,false,false,false,false,true,false,false,true,false,true,true,true])],[]⟩ hC Tryz.func34 rfl (by kernel_rfl) fun _=>?_;have Ox:∀r∈l,Bd r:=fun r hr=>(hl r hr).1;obtain⟨hp,QX⟩:=EA Ox;have qg:=hp.length_eq;refine⟨_,_,(EC l (by omega)),?_⟩;refine⟨_,_,(Sz l Ox (by omega)),?_⟩;generalize fh MV l=L at hp QX qg;have lm:=ai L rc;refine aJ (fun i:Nat=>i<=L.length) (fun i=>[(0,.ow 0),(14,.ow 0),(15,.p (i64 (L.map rc).length)),(16,.p (i64 i)),(3,.bx 3 0)]) (fun i=>[(0,.row 87 (L.map rc)),(3,.box [.ow 90000]),(90000,.row 3 ((ends (L.take i)).map fun n=>[i64 n]))]) (fun i=>L.length-i) 0 _ (au.aeK hC _ 3 0 90000 3 _ _ (by decide) (by decide) rfl rfl rfl (by decide)) (aaj _) ⟨Z,Z,Z,Z,Z,Y⟩ ⟨Z,Z,Z,Y⟩ fun i hi t h=>?_;have el:=EE (L.take i);have em:=ai (ends (L.take i)) fun n=>[i64 n];rw[aat]at el;refine iW ?_ ?_<;>intro h1
 ·rw[lm]at h1;obtain⟨r,hr⟩:=ak (l:=L) (i:=i) (by omega);refine⟨⟨by omega,by rw[lm];omega⟩,?_⟩;refine⟨(rc r),(idx rfl hr).2,?_⟩;refine⟨⟨by simp,by simp;omega,by simp;omega⟩,?_⟩;refine⟨⟨by omega,by omega⟩,?_⟩;refine⟨i+1,_,au.Cx _ 26 90000 (by decide) (by decide),by omega,by omega,⟨Z,Z,Z,Z,Z,Y⟩,⟨rfl,rfl,?_,trivial⟩⟩;show AB.row _ _=AB.row _ _;rw[Kt hr,abE];rfl
 rw[lm]at h1;rw[adW (show L.length<=i by omega)]at *;refine⟨_,_,(Ks (ends L) (by omega)),?_⟩;refine⟨_,_,(C3 (wL (ends L)) (by rw[wL,List.length_mergeSort];omega)),?_⟩;have Kv:∀r,r∈L↔r∈l:=fun r=>hp.mem_iff;rw[G9 Kv];have hR:=ae9 l;have hL:=dm l;have Zk:=ai (Reg.aE l) fun n=>[i64 n];have QW:∀r∈L,r.y0∈Reg.aE l:=fun r hr=>((Reg.cT l).2 _).2 ⟨r,(Kv r).1 hr,.inl rfl⟩;have hbl:=gK l (Reg.aE l);have hbx:=EF l (Reg.aE l) hX;have SB:Reg.aB l=Reg.cg l (Reg.aE l) ((Reg.aE l).length-1):=rfl;generalize Reg.aE l=ys at *;refine aJ (fun x:Nat×List ae×Nat=>x.1<=ys.length-1/\IP L ys x.1 x.2.1 x.2.2) (fun x=>[(0,.ow 0),(3,.p (.ip [ints ys])),(6,.ow 6),(7,.ow 7),(8,.p (i64 x.2.2)),(9,.bx 9 0)]) (fun x=>[(0,.row 87 (L.map rc)),(6,.row 128 ((Reg.cg l ys x.1).map hb)),(7,.row 87 (x.2.1.map rc)),(9,.box [.p (i64 x.1)])]) (fun x=>ys.length-x.1) (0,[],0) _
  (au.trans (au.dk hC _ 6 128 _ (by decide) rfl rfl (by decide)) (au.trans (au.dk hC _ 7 87 _ (by decide) rfl rfl (by decide)) (au.trans (au.fB hC _ 3 0 31 3 _ _ (by decide) rfl rfl rfl) (au.gD hC _ 3 (y:=.ip [ints ys]) (fz:=[(3,.jd [ints ys])]) ⟨rfl,rfl⟩))))
  ⟨aaj _,⟨aaj _,aam _,by simp,by simp,fun r _ j y h=>by omega,fun _=>rfl⟩⟩ ⟨Z,Z,Z,Z,Z,Z,Y⟩ ⟨Z,Z,Z,Z,Y⟩ fun ⟨k,nw,next⟩ hi t h=>?_
 obtain⟨hk,U7⟩:=hi;simp only at hk U7;refine⟨⟨by simp only;omega,by simp only;omega⟩,?_⟩;refine iW ?_ ?_<;>intro h2<;>try simp only[zB]at h2
 ·rw[Zk]at h2;obtain⟨y,hy⟩:=ak (l:=ys) (i:=k) (by omega);obtain⟨y',hy'⟩:=ak (l:=ys) (i:=k+1) (by omega);have XZ:=U7.mid hR hy;refine⟨_,_,(C5 nw (by have:=U7.len;have:=U7.le;omega) ys k y hy),?_⟩;refine p7 (fun p:List ae×Nat=>Ow L y p.1 p.2/\∀r∈L.drop p.2,y<r.y0) (fun p=>[(0,.ow 0),(3,.p (.ip [ints ys])),(6,.ow 6),(7,.ow 7),(8,.p (i64 p.2)),(9,.p (.ip [i64 k]))]) (fun p=>[(0,.row 87 (L.map rc)),(6,.row 128 ((Reg.cg l ys k).map hb)),(7,.row 87 (p.1.map rc))]) (fun ⟨QY,yX⟩ Li t h=>?_) ?_
  ·obtain⟨Ll,Qp⟩:=Li;simp only at Ll Qp;have az:=Ll.row Kv Qp;have oE:∀r∈QY,Bd r:=fun r hr=>(hl r ((az r).1 hr).1).1;obtain⟨Zl,OJ⟩:=wK oE;have est:Reg.cY (fh G8 QY)=Reg.rowOf l y:=Reg.Eo l _ y (fun r hr=>(hl r hr).2.1) OJ fun r=>(Zl.mem_iff).trans (az r);have eF:y<y':=by
    obtain⟨b1,b2⟩:=aao.1 hy;obtain⟨c1,c2⟩:=aao.1 hy';have:=(aaS.1 hR) k (k+1) b1 c1 (by omega);omega
   refine⟨[i64 y],(idx rfl hy),?_⟩;refine⟨⟨by omega,by omega⟩,?_⟩;refine⟨[i64 y'],(idx (by omega) hy'),?_⟩;refine⟨_,_,(xq QY oE (by have:=Ll.len;have:=Ll.le;omega)),?_⟩;rw[est];refine⟨_,_,(oZ (Reg.cg l ys k) ⟨y,y',Reg.rowOf l y⟩ eF (by have:=hbl k;omega) (fun t ht=>by have:=hbx k t ht;omega)),?_⟩;refine⟨⟨by omega,by omega⟩,?_⟩;refine⟨(k+1,fh G8 QY,yX),_,au.refl _ _,?_⟩;refine⟨⟨by simp only;omega,Ll.U6 hy Zl Qp⟩,by simp only;omega,⟨Z,Z,Z,Z,Z,Z,Y⟩,⟨rfl,?_,rfl,?_,trivial⟩⟩
   ·simp only;rw[Reg.cg,cO hy,cO hy'];rfl
   exact adV (fun z=>AB.box [z]) (a8 (by simp only;omega))
  refine aJ (fun p:List ae×Nat=>next<=p.2/\Ow L y p.1 p.2) (fun p=>[(0,.ow 0),(3,.p (.ip [ints ys])),(6,.ow 6),(7,.ow 7),(8,.p (i64 p.2)),(9,.p (.ip [i64 k]))]) (fun p=>[(0,.row 87 (L.map rc)),(6,.row 128 ((Reg.cg l ys k).map hb)),(7,.row 87 (p.1.map rc))]) (fun p=>L.length-p.2) (nw.filter fun r=>!od y r,next) _ (au.gD hC _ 9 (y:=.ip [i64 k]) (fz:=[]) ⟨rfl,rfl⟩) ⟨aam _,XZ⟩ ⟨Z,Z,Z,Z,Z,Z,Y⟩ ⟨Z,Z,Z,Y⟩ fun ⟨QY,yX⟩ Li t h=>?_;obtain⟨X0,Ll⟩:=Li;simp only at X0 Ll;have Ue:=Ll.le;have F4:=Ll.len;refine iW ?_ ?_<;>intro g1<;>try simp only[zB]at g1
  ·rw[lm]at g1;obtain⟨r,hr⟩:=ak (l:=L) (i:=yX) (by omega);refine⟨⟨by simp only;omega,by simp only;rw[lm];omega⟩,?_⟩;refine⟨(rc r),(idx rfl hr).2,?_⟩;refine⟨[i64 y],(idx rfl hy),?_⟩;refine iW ?_ ?_<;>intro g2
   ·have SC:r∈L:=aad hr;have e:=Ku hR hy (QW r SC) g2 fun j z hj hz=>U7.fM r (by
     refine aad (i:=yX-next) ?_;rw[aas,<-hr];congr 1;omega) j z hj hz
    have hg:=hl r ((Kv r).1 SC);refine⟨⟨by simp only;omega,by simp only;rw[lm];omega⟩,?_⟩;refine⟨(rc r),(idx rfl hr).2,?_⟩;refine⟨⟨xL rfl,by simp;omega,by simp;omega⟩,?_⟩;refine⟨⟨by simp only;omega,by simp only;omega⟩,?_⟩;refine⟨(QY++[r],yX+1),_,au.refl _ _,?_⟩;refine⟨⟨by simp only;omega,Ll.next hr g2 (by have:=hg.2.2;omega)⟩,by simp only;omega,⟨rfl,rfl,rfl,rfl,a8 (by simp only;omega),Z,Y⟩,⟨rfl,rfl,?_,trivial⟩⟩;show AB.row _ _=AB.row _ _;rw[abE];rfl
   exact⟨(QY,yX),⟨Ll,G_ QX hr (by omega)⟩,⟨Z,Z,Z,Z,Z,Z,Y⟩,⟨Z,Z,Z,Y⟩⟩
  rw[lm]at g1;refine⟨(QY,yX),⟨Ll,fun r hr=>?_⟩,⟨Z,Z,Z,Z,Z,Z,Y⟩,⟨Z,Z,Z,Y⟩⟩;rw[ab1 (by simp only;omega)]at hr;cases hr
 rw[Zk]at h2;rw[SB,show ys.length-1=k by omega];exact⟨Z,Z,Y⟩
theorem EG(l:List ae)(hl:∀r∈l,Good r)(hN:l.length<=400000):af C 34 [.pv (aj l)] (.own 128 ((Reg.aB l).map hb)) []:=
 uc l hl (by omega) (by have:=dm l;omega) (fun y=>by have:=fQ l y;omega)
theorem Py{r:ae}(h:Reg.c7 r=true/\r.x0<r.x1/\r.y0<r.y1):Good r:=by
 obtain⟨h1,h2,h3⟩:=h;simp only[Reg.c7,Reg.kR,aaZ,aaH]at h1;exact⟨⟨by omega,by omega,by omega,by omega⟩,h2,h3⟩
theorem C7(l:List ae)(hN:l.length<=400000):(Reg.aB l).length<=1000000/\∀t∈Reg.aB l,t.xs.length<=1000000:=by
 have h1:=gK l (Reg.aE l) ((Reg.aE l).length-1);have h2:=dm l;exact⟨by unfold Reg.aB;omega,fun t ht=>by have:=oW l (Reg.aE l) _ t ht;omega⟩
theorem jj(l:List ae):af C 31 [.pv (aj l)] (.p (i64 (Reg.aF l))) []:=by
 refine uX ⟨[],[0],[],[],[(7,[true,true,true,true,true,true,true,false,false,true,true,false,true])],[]⟩ hC Tryz.func31 rfl (by kernel_rfl) fun _=>?_;have lm:=ai l rc;refine⟨_,_,(vx l),?_⟩;refine iW ?_ ?_<;>intro h0
 ·refine⟨?_,trivial⟩;rw[Reg.aF,aaa h0]
 have h0:Reg.cz l=0:=by simpa using h0
 obtain⟨hl,hg⟩:=Reg.jK h0;have hc:Reg.aF l=(if Reg.ordered l=true then (if Reg.bR l=l then 0 else 3) else 8):=by rw[Reg.aF,aap h0]
 obtain⟨bl,bx⟩:=C7 l (by omega);refine p7 (fun _:Unit=>Reg.ordered l=true) (fun _=>[(0,.p (aj l))]) (fun _=>[]) (fun _ hO t h=>?_) ?_
 ·rw[aap hO]at hc;refine⟨_,_,(EG l (fun r hr=>Py (hg r hr)) (by omega)),?_⟩;refine⟨_,_,(Ey (Reg.aB l) bl bx),?_⟩
  (refine⟨_,_,(Ew (Reg.told (Reg.aB l)) l (by
   have:=nq (Reg.aB l) bx;have:(Reg.aB l).length*1000000<=1000000*1000000:=abf _ bl;omega)),?_⟩)
  refine iW ?_ ?_<;>intro h2
  ·refine⟨?_,trivial⟩;rw[hc,aaa (show ¬Reg.bR l=l from h2)];rfl
  refine⟨?_,trivial⟩;rw[hc,aap (show Reg.bR l=l from h2)];rfl
 refine aJ (fun i:Nat=>∀(j:Nat) a b,j<i->l[j]?=some a->l[j+1]?=some b->Reg.before a b=true) (fun i=>[(0,.p (aj l)),(4,.p (i64 ((i:Int)+1)))]) (fun _=>[]) (fun i=>l.length-i) 0 _ (au.refl _ _) (fun j a b h=>by omega) ⟨Z,Z,Y⟩ trivial fun i hi t h=>?_;refine iW ?_ ?_<;>intro h1
 ·rw[lm]at h1;obtain⟨a,ha⟩:=ak (l:=l) (i:=i) (by omega);obtain⟨b,hb⟩:=ak (l:=l) (i:=i+1) (by omega);have stop:¬Reg.before a b=true->Reg.aF l=8:=fun hn=>by
   rw[hc,aaa];rw[rX ha hb (by simpa using hn)];decide
  have cont:Reg.before a b=true->∀(j:Nat) x y,j<i+1->l[j]?=some x->l[j+1]?=some y->Reg.before x y=true:=fun hy j x y hj hx hy'=>by
   by_cases e:j=i
   ·subst e;rw[ha]at hx;injection hx with hx;rw[hb]at hy';injection hy' with hy';rw[<-hx,<-hy'];exact hy
   exact hi j x y (by omega) hx hy'
  refine⟨⟨by omega,by omega⟩,?_⟩;refine⟨(rc a),(idx (show ((i:Int)+1)-1=(i:Nat) by omega) ha),?_⟩;refine⟨(rc b),(idx (show ((i:Int)+1)=((i+1:Nat):Int) by omega) hb),?_⟩;refine iW ?_ ?_<;>intro g1
  ·refine⟨?_,trivial⟩;rw[stop (by simp[Reg.before];omega)];rfl
  refine iW ?_ ?_<;>intro g2
  ·refine iW ?_ ?_<;>intro g3
   ·refine⟨?_,trivial⟩;rw[stop (by simp[Reg.before];omega)];rfl
   refine⟨⟨by omega,by omega⟩,?_⟩;exact⟨(i+1),_,au.refl _ _,cont (by simp[Reg.before];omega),by omega,⟨rfl,a8 (by omega),trivial⟩,trivial⟩
  refine⟨⟨by omega,by omega⟩,?_⟩;exact⟨(i+1),_,au.refl _ _,cont (by simp[Reg.before];omega),by omega,⟨rfl,a8 (by omega),trivial⟩,trivial⟩
 rw[lm]at h1;refine⟨(),tS fun j a b ha hb=>hi j a b ?_ ha hb,⟨Z,Y⟩,trivial⟩;have:=(aao.1 hb).1;omega
structure Class where
 name:ByteArray
 nets:List ByteArray
 clearance:Int
 width:Int
structure sJ where
 layer:Int
 region:List ae
 clearance:Int
structure cP where
 clearance:Int
 width:Int
 ring:Int
 edge:Int
 holeGap:Int
 classes:List Class
 areas:List sJ
def kl(c:Class):List PV:=[str c.name,strs c.nets,i64 c.clearance,i64 c.width]
def arr(a:sJ):List PV:=[i64 a.layer,aj a.region,i64 a.clearance]
def rl(r:cP):List PV:=[i64 r.clearance,i64 r.width,i64 r.ring,i64 r.edge,i64 r.holeGap,.sl (r.classes.map kl),.sl (r.areas.map arr)]
def M3(x y:Int)(r:ae):Bool:=((decide (r.x0<=x)&&decide (x<r.x1))&&decide (r.y0<=y))&&decide (y<r.y1)
theorem EH(r:ae)(x y:Int):af C 258 [.pv (.ag (rc r)),.pv (.ip [i64 x,i64 y])] (.p (bool (M3 x y r))) []:=by
 refine fW hC Tryz.func258 rfl (by kernel_rfl) fun _=>?_;refine iW ?_ ?_<;>intro h1
 ·refine iW ?_ ?_<;>intro h2
  ·refine iW ?_ ?_<;>intro h3
   ·refine⟨?_,trivial⟩;simp[bool,M3,h1,h2,h3]
   refine⟨?_,trivial⟩;simp[bool,M3,h1,h2,h3]
  refine⟨?_,trivial⟩;simp[bool,M3,h1,h2]
 refine⟨?_,trivial⟩;simp[bool,M3,h1]
theorem EI(l:List ae)(hN:l.length<=140737488355328)(x y:Int):af C 161 [.pv (aj l),.pv (.fn 258 [.ip [i64 x,i64 y]])] (.p (i64 (jO (M3 x y) l 0))) []:=by
 refine fW hC Tryz.func161 rfl (by kernel_rfl) fun _=>?_;have lm:=ai l rc;refine aJ (fun i:Nat=>i<=l.length/\∀z∈l.take i,M3 x y z=false) (fun i=>[(0,.p (aj l)),(1,.p (.fn 258 [.ip [i64 x,i64 y]])),(7,.p (i64 (l.map rc).length)),(8,.p (i64 i))]) (fun _=>[]) (fun i=>l.length-i) 0 _ (au.refl _ _) ⟨aaj _,by simp⟩ ⟨Z,Z,Z,Z,Y⟩ trivial fun i hi t h=>?_;refine iW ?_ ?_<;>intro h1
 ·rw[lm]at h1;obtain⟨r,hr⟩:=ak (l:=l) (i:=i) (by omega);refine⟨(rc r),(idx rfl hr),?_⟩;refine⟨_,_,(EH r x y),?_⟩;refine iW ?_ ?_<;>intro h2
  ·refine⟨?_,trivial⟩;rw[lY hr h2 hi.2,abC]
  refine⟨⟨by omega,by omega⟩,?_⟩;exact⟨(i+1),_,au.refl _ _,⟨by omega,tW hr h2 hi.2⟩,by omega,⟨Z,Z,Z,Z,Y⟩,trivial⟩
 rw[lm]at h1;refine⟨?_,trivial⟩;have h2:=hi.2;rw[adW (by omega)]at h2;rw[iV h2];rfl
theorem AF(l:List ae)(hN:l.length<=140737488355328)(x y:Int):af C 178 [.pv (aj l),.pv (.fn 258 [.ip [i64 x,i64 y]])] (.p (bool (l.any (M3 x y)))) []:=by
 refine fW hC Tryz.func178 rfl (by kernel_rfl) fun _=>?_;refine⟨_,_,(EI l hN x y),?_⟩;refine⟨?_,trivial⟩;rw[<-oX _ l 0];rfl
theorem pU(l:List ae)(hN:l.length<=140737488355328)(x y:Int):af C 211 [.pv (aj l),.pv (.ag [i64 x,i64 y])] (.p (bool (l.any (M3 x y)))) []:=by
 refine fW hC Tryz.func211 rfl (by kernel_rfl) fun _=>?_;refine⟨_,_,(AF l hN x y),?_⟩;refine⟨?_,trivial⟩;rfl
def M4:ByteArray:=⟨#[]⟩
def afe(s:ByteArray):Bool:=decide (s=M4)||lh s
theorem agt(s:ByteArray)(hs:s.size<4294967281):af C 137 [.pv (str s)] (.p (bool (afe s))) []:=by
 refine fW hC Tryz.func137 rfl (by kernel_rfl) fun _=>?_;refine iW ?_ ?_<;>intro h1
 ·have h1:s=M4:=h1;refine⟨?_,trivial⟩;rw[afe,acd h1];rfl
 have h1:¬s=M4:=h1;refine⟨_,_,(tX s hs),?_⟩;refine⟨?_,trivial⟩;rw[afe,aaz h1];rfl
def onB(a:sJ)(layer:Int):Bool:=decide (a.layer<0)||decide (a.layer=layer)
theorem agF(a:sJ)(layer:Int):af C 204 [.pv (.ag (arr a)),.pv (i64 layer)] (.p (bool (onB a layer))) []:=by
 refine fW hC Tryz.func204 rfl (by kernel_rfl) fun _=>?_;refine iW ?_ ?_<;>intro h1
 ·refine⟨?_,trivial⟩;simp[bool,onB,h1]
 refine⟨?_,trivial⟩;simp[bool,onB,h1]
def mO(a b:ByteArray):Bool:=Op.bytesLess a.data.toList b.data.toList
theorem xM{a b:ByteArray}:mO a b=true↔a.data.toList<b.data.toList:=by
 unfold mO;rw[Go.Proofs.bytesLess_eq];simp
theorem afX(a:ByteArray):mO a a=false:=by
 rw[aaV];intro h;exact List.lt_irrefl _ (xM.1 h)
theorem Kw{a b c:ByteArray}(h1:mO a b=true)(h2:mO b c=true):mO a c=true:=xM.2 (List.lt_trans (xM.1 h1) (xM.1 h2))
def IQ(l:List ByteArray):Prop:=l.Pairwise fun a b=>mO a b=true
theorem afm{l:List ByteArray}(h:IQ l){i j:Nat}{a b:ByteArray}(ha:l[i]?=some a)(hb:l[j]?=some b)(DX:i<j):mO a b=true:=by
 obtain⟨hi,rfl⟩:=aao.1 ha;obtain⟨hj,rfl⟩:=aao.1 hb;exact aaS.1 h i j hi hj DX
theorem agW(s:ByteArray):af C 280 [.pv (str s)] (.p (bool false)) []:=by
 refine fW hC Tryz.func280 rfl (by kernel_rfl) fun _=>?_;refine⟨?_,trivial⟩;simp[bool]
theorem agh(s:ByteArray):af C 257 [.pv (str s)] (.p (bool false)) []:=by
 refine fW hC Tryz.func257 rfl (by kernel_rfl) fun _=>?_;refine⟨?_,trivial⟩;simp[bool]
theorem ag_(a b:ByteArray):af C 256 [.pv (str a),.pv (str b)] (.p (bool (mO a b))) []:=by
 refine fW hC Tryz.func256 rfl (by kernel_rfl) fun _=>?_;refine⟨_,_,(agW a),?_⟩;refine⟨?_,trivial⟩;rfl
theorem aha{a b:Nat}(h:a+b<4611686018427387904):(IntKind.u64.wrap ((a:Int)+(b:Int))).fdiv (2 ^ min (Int.toNat 1) IntKind.u64.bits)=(((a+b) / 2:Nat):Int):=by
 have h1:IntKind.u64.wrap ((a:Int)+(b:Int))=((a+b:Nat):Int):=by simp[IntKind.wrap,IntKind.bits,IntKind.signed];omega
 rw[h1];have h2:(2:Int) ^ min (Int.toNat 1) IntKind.u64.bits=2:=by decide
 rw[h2,Int.fdiv_eq_ediv_of_nonneg _ (by decide)];omega
def agG(l:List ByteArray)(x:ByteArray):Nat:=(l.filter fun y=>mO y x).length
theorem agX{l:List ByteArray}{x:ByteArray}{i:Nat}(hi:i<=l.length)(h1:∀(k:Nat) y,k<i->l[k]?=some y->mO y x=true)(h2:∀(k:Nat) y,i<=k->l[k]?=some y->mO y x=false):agG l x=i:=by
 unfold agG;rw[<-aaU i l,acA,acv];have e1:(l.take i).filter (fun y=>mO y x)=l.take i:=ab2.2 fun y hy=>by
  obtain⟨k,hk⟩:=ab8.1 hy;rw[aa7]at hk;split at hk
  ·exact h1 k y (by assumption) hk
  cases hk
 have e2:(l.drop i).filter (fun y=>mO y x)=[]:=abL.2 fun y hy=>by
  obtain⟨k,hk⟩:=ab8.1 hy;rw[aas]at hk;rw[h2 (i+k) y (by omega) hk];decide
 rw[e1,e2,aat];simp;omega
theorem ahn{l:List ByteArray}{x y:ByteArray}{a:Nat}(hs:IQ l)(q3:∀(k:Nat) z,k<a->l[k]?=some z->mO z x=true)(hy:l[a]?=some y)(hyx:mO y x=false)(b8:¬y=x):hasB l x=false:=by
 rw[aaV];intro h4;obtain⟨k,hk⟩:=ab8.1 (Et.1 h4);rcases ada k a with h | h | h
 ·have:=q3 k x h hk;rw[afX]at this;cases this
 ·subst h;rw[hy]at hk;injection hk with hk;exact b8 hk
 rw[afm hs hy hk h]at hyx;cases hyx
theorem agi(l:List ByteArray)(x:ByteArray)(hs:IQ l)(hN:l.length<=1000000000):af C 208 [.pv (strs l),.pv (str x)] (.tu [i64 (agG l x),bool (hasB l x)]) []:=by
 refine fW hC Tryz.func208 rfl (by kernel_rfl) fun _=>?_;have lm:=ai l fun s=>[str s];refine aJ (fun p:Nat×Nat=>p.1<=p.2/\p.2<=l.length/\(∀(k:Nat) y,k<p.1->l[k]?=some y->mO y x=true)/\(∀(k:Nat) y,p.2<=k->l[k]?=some y->mO y x=false)) (fun p=>[(0,.p (strs l)),(1,.p (str x)),(6,.p (i64 (l.map fun s=>[str s]).length)),(7,.p (i64 p.1)),(8,.p (i64 p.2))]) (fun _=>[]) (fun p=>p.2-p.1) (0,l.length) _ (au.refl _ _) ⟨aaj _,aam _,fun k y h=>by omega,fun k y h1 h2=>by have:=(aao.1 h2).1;simp only at h1;omega⟩ ⟨rfl,rfl,rfl,rfl,a8 (by rw[lm]),trivial⟩ trivial fun ⟨a,b⟩ hi t h=>?_;obtain⟨q1,q2,q3,q4⟩:=hi;simp only at q1 q2 q3 q4;refine iW ?_ ?_<;>intro h1<;>try simp only[zB]at h1
 ·have hm:=aha (a:=a) (b:=b) (by omega);obtain⟨y,hy⟩:=ak (l:=l) (i:=(a+b) / 2) (by omega);refine⟨⟨by simp only;omega,by simp only;omega⟩,?_⟩;refine⟨⟨by decide,by decide⟩,?_⟩;refine⟨⟨by simp only;rw[hm];omega,by simp only;rw[hm];omega⟩,?_⟩;refine⟨[str y],(idx hm hy),?_⟩;refine⟨_,_,(ag_ y x),?_⟩;refine iW ?_ ?_<;>intro h2
  ·refine⟨⟨by simp only;rw[hm];omega,by simp only;rw[hm];omega⟩,?_⟩;refine⟨((a+b) / 2+1,b),_,au.refl _ _,?_⟩;refine⟨⟨by simp only;omega,q2,fun k z hk hz=>?_,q4⟩,by simp only;omega,⟨rfl,rfl,rfl,a8 (by simp only;rw[hm];omega),Z,Y⟩,trivial⟩;by_cases e:k=(a+b) / 2
   ·subst e;rw[hy]at hz;injection hz with hz;subst hz;exact h2
   exact Kw (afm hs hz hy (by simp only at hk;omega)) h2
  refine⟨(a,(a+b) / 2),_,au.refl _ _,?_⟩;refine⟨⟨by simp only;omega,by simp only;omega,q3,fun k z hk hz=>?_⟩,by simp only;omega,⟨rfl,rfl,rfl,rfl,a8 hm,trivial⟩,trivial⟩;by_cases e:k=(a+b) / 2
  ·subst e;rw[hy]at hz;injection hz with hz;subst hz;exact h2
  rw[aaV];intro eF;rw[Kw (afm hs hy hz (by simp only at hk;omega)) eF]at h2;cases h2
 have e:a=b:=by omega
 subst e;have hb:=agX q2 q3 q4;refine iW ?_ ?_<;>intro h2<;>try simp only[zB]at h2
 ·rw[lm]at h2;obtain⟨y,hy⟩:=ak (l:=l) (i:=a) (by omega);refine⟨[str y],(idx rfl hy),?_⟩;refine iW ?_ ?_<;>intro h3
  ·refine⟨?_,trivial⟩;have e:y=x:=by simpa using h3
   subst e;have h4:hasB l y=true:=Et.2 (ab8.2 ⟨a,hy⟩);rw[hb,h4];rfl
  refine⟨[str y],(idx rfl hy),?_⟩;refine⟨_,_,(agh y),?_⟩;refine⟨?_,trivial⟩;have h4:hasB l x=false:=ahn hs q3 hy (q4 a y (aam _) hy) (by simpa using h3);rw[hb,h4];rfl
 rw[lm]at h2;refine⟨?_,trivial⟩;have h4:hasB l x=false:=by
  rw[aaV];intro h4;obtain⟨k,hk⟩:=ab8.1 (Et.1 h4);have:=q3 k x (by have:=(aao.1 hk).1;omega) hk;rw[afX]at this;cases this
 rw[hb,h4];rfl
def cU(f:Nat->Int)(i:Nat):Nat->Int
 | 0=>0
 | n+1=>if f i=0 then cU f (i+1) n else f i
theorem eZ{f:Nat->Int}:∀{n i:Nat},(∀k,i<=k->k<i+n->f k=0)->cU f i n=0
 | 0,_,_=>rfl
 | n+1,i,h=>by
  rw[cU,aap (h i (aam _) (by omega))];exact eZ fun k h1 h2=>h k (by omega) (by omega)
theorem gY{f:Nat->Int}{m:Nat}(hm:f m≠0):∀{n i:Nat},(∀k,i<=k->k<m->f k=0)->i<=m->m<i+n->cU f i n=f m
 | 0,i,_,h1,h2=>by omega
 | n+1,i,h,h1,h2=>by
  rw[cU];by_cases e:i=m
  ·subst e;rw[aaa hm]
  rw[aap (h i (aam _) (by omega))];exact gY hm (fun k h3 h4=>h k (by omega) h4) (by omega) (by omega)
def dH(l:List ByteArray)(j:Nat):Bool:=match l[j]?,l[j-1]? with
 | some a,some b=>decide (0<j)&&(mO a b||decide (a=b))
 | _,_=>false
def seenIn(cs:List Class)(x:ByteArray):Bool:=cs.any fun c=>hasB c.nets x
def bZ(cs:List Class)(i:Nat)(l:List ByteArray)(j:Nat):Int:=match l[j]? with
 | some y=>if lh y=true then (if dH l j=true then 8 else if seenIn (cs.take i) y=true then 7 else 0) else 5
 | none=>0
def b_(cs:List Class)(i:Nat):Int:=match cs[i]? with
 | some c=>if iU c.name=true then (if 1000<c.nets.length then 2 else
   if cU (bZ cs i c.nets) 0 c.nets.length=0 then
    (if (cL c.clearance&&cL c.width)=true then (if dH (cs.map Class.name) i=true then 8 else 0) else 1)
   else cU (bZ cs i c.nets) 0 c.nets.length) else 5
 | none=>0
theorem IS(a b:ByteArray):Ak (.string a) (.string b)=decide (a=b):=rfl
theorem SD{k:ByteArray}{k':Value}(h:Ak (.string k) k'=true):k'=.string k:=by
 cases k'<;>simp_all [Ak]
theorem Bw(v:PV)(k n:ByteArray):∀es:List (Value×PV),kz (mP es (.string k) v) (.string n)=if n=k then some v else kz es (.string n)
 | []=>by
  simp only[mP,kz,IS];by_cases h:n=k<;>simp[h]
 | (k',u)::r=>by
  simp only[mP];cases h:Ak (.string k) k'
  ·simp only[kz,Bw v k n r];by_cases e:n=k
   ·subst e;simp[h]
   simp[e]
  have e:=SD h;subst e;simp only[kz,IS];by_cases e:n=k<;>simp[e]
def ue(s:ByteArray):Prop:=s.size<4294967281
def C8(c:Class):Prop:=ue c.name/\c.nets.length<=1048576/\∀s∈c.nets,ue s
theorem sK(cs:List Class)(hok:∀c∈cs,C8 c)(hN:cs.length<=1048576):af C 196 [.pv (.sl (cs.map kl))] (.p (i64 (if 50<cs.length then 2 else cU (b_ cs) 0 cs.length))) []:=by
 refine fW hC Tryz.func196 rfl (by kernel_rfl) fun _=>?_;have lm:=ai cs kl;refine iW ?_ ?_<;>intro h0
 ·refine⟨?_,trivial⟩;rw[aap (by omega)];rfl
 rw[aaa (by omega)];refine aJ (fun p:Nat×List (Value×PV)=>p.1<=cs.length/\(∀k,k<p.1->b_ cs k=0)/\∀n,kz p.2 (.string n)=if seenIn (cs.take p.1) n=true then some (bool true) else none) (fun p=>[(0,.p (.sl (cs.map kl))),(3,.ow 13),(14,.p (.sl (cs.map kl))),(15,.p (i64 (cs.map kl).length)),(16,.p (i64 p.1))]) (fun p=>[(13,.map .str p.2)]) (fun p=>cs.length-p.1) (0,[]) _ (au.refl _ _) ⟨aaj _,fun k h=>by omega,fun n=>rfl⟩ ⟨Z,Z,Z,Z,Z,Y⟩ ⟨Z,Y⟩ fun ⟨i,es⟩ hi t h=>?_;obtain⟨q1,q2,q3⟩:=hi;refine iW ?_ ?_<;>intro h1<;>try simp only[zB]at h1
 ·obtain⟨c,hc⟩:=ak (l:=cs) (i:=i) (by omega);obtain⟨o1,o2,o3⟩:=hok c (aad hc);have bad:b_ cs i≠0->cU (b_ cs) 0 cs.length=b_ cs i:=fun hb=>gY hb (fun k _ hk=>q2 k hk) (aaj _) (by omega);have cf:b_ cs i=(if iU c.name=true then (if 1000<c.nets.length then 2 else
  if cU (bZ cs i c.nets) 0 c.nets.length=0 then
   (if (cL c.clearance&&cL c.width)=true then (if dH (cs.map Class.name) i=true then 8 else 0) else 1)
  else cU (bZ cs i c.nets) 0 c.nets.length) else 5):=by rw[b_,hc]
  have lc:=ai c.nets fun s=>[str s];refine⟨(kl c),(idx rfl hc),?_⟩;refine⟨_,_,(oY c.name (by have:c.name.size<4294967281:=o1;omega)),?_⟩;refine iW ?_ ?_<;>intro h2
  ·refine⟨?_,trivial⟩;rw[aaa (by simp[h2])]at cf;rw[bad (by rw[cf];decide),cf];rfl
  rw[aap (by simpa using h2)]at cf;refine iW ?_ ?_<;>intro h3
  ·refine⟨?_,trivial⟩;rw[aap (by omega)]at cf;rw[bad (by rw[cf];decide),cf];rfl
  rw[aaa (by omega)]at cf;refine aJ (fun j:Nat=>j<=c.nets.length/\∀k,k<j->bZ cs i c.nets k=0) (fun j=>[(0,.p (.sl (cs.map kl))),(3,.ow 13),(14,.p (.sl (cs.map kl))),(15,.p (i64 (cs.map kl).length)),(16,.p (i64 i)),(4,.p (i64 i)),(5,.bx 5 0),(30,.p (strs c.nets)),(31,.p (i64 (c.nets.map fun s=>[str s]).length)),(32,.p (i64 j))]) (fun _=>[(5,.box [.p (str c.name),.p (strs c.nets),.p (i64 c.clearance),.p (i64 c.width)]),(13,.map .str es)]) (fun j=>c.nets.length-j) 0 _ (au.refl _ _) ⟨aaj _,fun k h=>by omega⟩ ⟨Z,Z,Z,Z,Z,Z,Z,Z,Z,Z,Y⟩ ⟨Z,Z,Y⟩ fun j hj t h=>?_;obtain⟨p1,p2⟩:=hj;refine iW ?_ ?_<;>intro h4
  ·obtain⟨y,hy⟩:=ak (l:=c.nets) (i:=j) (by omega);have C9:bZ cs i c.nets j≠0->cU (b_ cs) 0 cs.length=bZ cs i c.nets j:=fun hb=>by
    have e:cU (bZ cs i c.nets) 0 c.nets.length=bZ cs i c.nets j:=gY hb (fun k _ hk=>p2 k hk) (aaj _) (by omega);rw[e,aaa hb]at cf;rw[bad (by rw[cf];exact hb),cf]
   have nf:bZ cs i c.nets j=(if lh y=true then (if dH c.nets j=true then 8 else if seenIn (cs.take i) y=true then 7 else 0) else 5):=by rw[bZ,hy]
   refine⟨[str y],(idx rfl hy),?_⟩;refine⟨_,_,(tX y (o3 y (aad hy))),?_⟩;refine iW ?_ ?_<;>intro h5
   ·refine⟨?_,trivial⟩;rw[aaa (by simp[h5])]at nf;rw[C9 (by rw[nf];decide),nf];rfl
   rw[aap (by simpa using h5)]at nf;have q:=q3 y;have next:bZ cs i c.nets j=0->∀k,k<j+1->bZ cs i c.nets k=0:=fun h0 k hk=>by
    by_cases e:k=j
    ·subst e;exact h0
    exact p2 k (by omega)
   refine iW ?_ ?_<;>intro h6
   ·obtain⟨z,hz⟩:=ak (l:=c.nets) (i:=j-1) (by omega);have bk:dH c.nets j=(mO y z||decide (y=z)):=by
     simp only[dH,hy,hz];rw[acd (by omega:0<j)];rfl
    refine⟨⟨by omega,by omega⟩,?_⟩;refine⟨[str z],(idx (show (j:Int)-1=((j-1:Nat):Int) by omega) hz),?_⟩;refine iW ?_ ?_<;>intro h7
    ·refine⟨?_,trivial⟩;have h7:(mO y z||decide (y=z))=true:=by simpa [mO] using h7
     rw[bk,h7,aap rfl]at nf;rw[C9 (by rw[nf];decide),nf];rfl
    have h7:(mO y z||decide (y=z))=false:=by simpa [mO] using h7
    rw[bk,h7,aaa (by decide)]at nf;cases hS:seenIn (cs.take i) y
    ·rw[hS]at q nf;refine⟨none,q,?_⟩;refine⟨⟨by omega,by omega⟩,?_⟩;exact⟨(j+1),_,au.refl _ _,⟨by omega,next (by simpa using nf)⟩,by omega,⟨Z,Z,Z,Z,Z,Z,Z,Z,Z,Z,Y⟩,⟨Z,Z,Y⟩⟩
    rw[hS]at q nf;rw[aap rfl]at nf;refine⟨(some (bool true)),q,?_⟩;refine⟨?_,trivial⟩;rw[C9 (by rw[nf];decide),nf];rfl
   have h0:j=0:=by omega
   have bk:dH c.nets j=false:=by
    subst h0;simp only[dH,hy];rfl
   rw[bk,aaa (by decide)]at nf;cases hS:seenIn (cs.take i) y
   ·rw[hS]at q nf;refine⟨none,q,?_⟩;refine⟨⟨by omega,by omega⟩,?_⟩;exact⟨(j+1),_,au.refl _ _,⟨by omega,next (by simpa using nf)⟩,by omega,⟨Z,Z,Z,Z,Z,Z,Z,Z,Z,Z,Y⟩,⟨Z,Z,Y⟩⟩
   rw[hS]at q nf;rw[aap rfl]at nf;refine⟨(some (bool true)),q,?_⟩;refine⟨?_,trivial⟩;rw[C9 (by rw[nf];decide),nf];rfl
  have z0:cU (bZ cs i c.nets) 0 c.nets.length=0:=eZ fun k _ hk=>p2 k (by omega);rw[aap z0]at cf;refine aJ (fun p:Nat×List (Value×PV)=>p.1<=c.nets.length/\∀n,kz p.2 (.string n)=if (seenIn (cs.take i) n||hasB (c.nets.take p.1) n)=true then some (bool true) else none) (fun p=>[(0,.p (.sl (cs.map kl))),(3,.ow 13),(14,.p (.sl (cs.map kl))),(15,.p (i64 (cs.map kl).length)),(16,.p (i64 i)),(4,.p (i64 i)),(5,.bx 5 0),(60,.p (strs c.nets)),(61,.p (i64 (c.nets.map fun s=>[str s]).length)),(62,.p (i64 p.1))]) (fun p=>[(5,.box [.p (str c.name),.p (strs c.nets),.p (i64 c.clearance),.p (i64 c.width)]),(13,.map .str p.2)]) (fun p=>c.nets.length-p.1) (0,es) _ (au.refl _ _) ⟨aaj _,fun n=>by rw[show hasB (c.nets.take 0) n=false from rfl,abo];exact q3 n⟩ ⟨Z,Z,Z,Z,Z,Z,Z,Z,Z,Z,Y⟩ ⟨Z,Z,Y⟩ fun ⟨j,de⟩ hj t h=>?_;obtain⟨r1,r2⟩:=hj;refine iW ?_ ?_<;>intro h9<;>try simp only[zB]at h9
  ·obtain⟨y,hy⟩:=ak (l:=c.nets) (i:=j) (by omega);refine⟨[str y],(idx rfl hy),?_⟩;refine⟨⟨by omega,by omega⟩,?_⟩;refine⟨(j+1,mP de (.string y) (bool true)),_,au.refl _ _,?_⟩;refine⟨⟨by omega,fun n=>?_⟩,by omega,⟨Z,Z,Z,Z,Z,Z,Z,Z,Z,Z,Y⟩,⟨Z,Z,Y⟩⟩;simp only;rw[Bw,aZ hy];by_cases e:n=y
   ·subst e;rw[aap rfl,aap];simp[hasB]
   rw[aaa e,r2 n];have:hasB (c.nets.take j++[y]) n=hasB (c.nets.take j) n:=by
    unfold hasB;rw[adi];rw[show ([y].any fun z=>decide (z=n))=(decide (y=n)||false) from rfl,aaz (fun h:y=n=>e h.symm)];simp
   rw[this]
  have e9:j=c.nets.length:=by simp only at r1;omega
  have s1:∀n,kz de (.string n)=if seenIn (cs.take (i+1)) n=true then some (bool true) else none:=fun n=>by
   rw[r2 n,e9,abU,aZ hc];have:seenIn (cs.take i++[c]) n=(seenIn (cs.take i) n||hasB c.nets n):=by
    unfold seenIn;rw[adi];simp
   rw[this]
  have bn:∀d,cs[i-1]?=some d->0<i->dH (cs.map Class.name) i=(mO c.name d.name||decide (c.name=d.name)):=fun d hd h0=>by
   simp only[dH,aak,hc,hd,ab6];rw[acd h0];rfl
  have QZ:b_ cs i=0->∀k,k<i+1->b_ cs k=0:=fun h0 k hk=>by
   by_cases e:k=i
   ·subst e;exact h0
   exact q2 k (by simp only;omega)
  refine⟨_,_,(lK c.clearance),?_⟩;refine iW ?_ ?_<;>intro g1
  ·refine⟨?_,trivial⟩;rw[aaa (by simp[g1])]at cf;rw[bad (by rw[cf];decide),cf];rfl
  refine⟨_,_,(lK c.width),?_⟩;refine iW ?_ ?_<;>intro g2
  ·refine⟨?_,trivial⟩;rw[aaa (by simp[g2])]at cf;rw[bad (by rw[cf];decide),cf];rfl
  rw[aap (by simp[g1,g2])]at cf;refine iW ?_ ?_<;>intro g3
  ·obtain⟨d,hd⟩:=ak (l:=cs) (i:=i-1) (by omega);refine⟨⟨by omega,by omega⟩,?_⟩;refine⟨(kl d),(idx (show (i:Int)-1=((i-1:Nat):Int) by omega) hd),?_⟩;rw[bn d hd (by omega)]at cf;refine iW ?_ ?_<;>intro g4
   ·refine⟨?_,trivial⟩;have g4:(mO c.name d.name||decide (c.name=d.name))=true:=by simpa [mO] using g4
    rw[g4,aap rfl]at cf;rw[bad (by rw[cf];decide),cf];rfl
   have g4:(mO c.name d.name||decide (c.name=d.name))=false:=by simpa [mO] using g4
   rw[g4,aaa (by decide)]at cf;refine⟨⟨by omega,by omega⟩,?_⟩;exact⟨(i+1,de),_,au.refl _ _,⟨by omega,QZ cf,s1⟩,by omega,⟨Z,Z,Z,Z,Z,Y⟩,⟨Z,Y⟩⟩
  have h0:i=0:=by omega
  have bk:dH (cs.map Class.name) i=false:=by
   subst h0;simp only[dH,aak,hc];rfl
  rw[bk,aaa (by decide)]at cf;refine⟨⟨by omega,by omega⟩,?_⟩;exact⟨(i+1,de),_,au.refl _ _,⟨by omega,QZ cf,s1⟩,by omega,⟨Z,Z,Z,Z,Z,Y⟩,⟨Z,Y⟩⟩
 have e1:i=cs.length:=by simp only at q1;omega
 refine⟨?_,trivial⟩;rw[eZ fun k _ hk=>q2 k (by simp only;omega)];rfl
def cR(al:List sJ)(i:Nat):Int:=match al[i]? with
 | some a=>if (decide (-1<=a.layer)&&decide (a.layer<=15))=true then (if Reg.aF a.region=0 then (if cL a.clearance=true then 0 else 1) else Reg.aF a.region) else 1
 | none=>0
def ed:List sJ->Nat
 | []=>0
 | a::r=>a.region.length+ed r
theorem wM(a b:List sJ):ed (a++b)=ed a+ed b:=by
 induction a with
 | nil=>simp[ed]
 | cons x r ih=>simp[ed,ih];omega
def gM(r:cP):Bool:=cL r.clearance&&cL r.width&&cL r.ring&&cL r.edge&&cL r.holeGap
def dn(cs:List Class):Int:=if 50<cs.length then 2 else cU (b_ cs) 0 cs.length
def iI(al:List sJ):Int:=if 50<al.length then 2 else if cU (cR al) 0 al.length=0 then (if 2000<ed al then 2 else 0) else cU (cR al) 0 al.length
def bC(r:cP):Int:=if gM r=true then (if dn r.classes=0 then iI r.areas else dn r.classes) else 1
theorem yY{l:List ae}(h:Reg.aF l=0):l.length<=1000000:=by
 unfold Reg.aF at h;by_cases h0:Reg.cz l=0
 ·have:=(Reg.jK h0).1;omega
 rw[aaa h0]at h;exact absurd h h0
def e8(r:cP):Prop:=(∀c∈r.classes,C8 c)/\r.classes.length<=1048576/\r.areas.length<=1048576
def C_(r:cP):List AV:=[.p (i64 r.clearance),.p (i64 r.width),.p (i64 r.ring),.p (i64 r.edge),.p (i64 r.holeGap),.p (.sl (r.classes.map kl)),.p (.sl (r.areas.map arr))]
theorem jQ(r:cP)(ho:e8 r):af C 115 [.pv (.ag (rl r))] (.p (i64 (bC r))) []:=by
 refine fW hC Tryz.func115 rfl (by kernel_rfl) fun _=>?_;obtain⟨o1,o2,o3⟩:=ho;refine⟨_,_,(CY [r.clearance,r.width,r.ring,r.edge,r.holeGap] (by simp)),?_⟩;have nb:([r.clearance,r.width,r.ring,r.edge,r.holeGap].any fun n=>!cL n)=!gM r:=by
  simp[gM,Bool.not_and,Bool.or_assoc]
 rw[nb];refine iW ?_ ?_<;>intro h0
 ·refine⟨?_,trivial⟩;rw[bC,aaa (by simp[h0])];rfl
 rw[bC,aap (by simpa using h0)];refine⟨_,_,(sK r.classes o1 o2),?_⟩;refine iW ?_ ?_<;>intro h1
 ·refine⟨?_,trivial⟩;rw[aaa (show ¬dn r.classes=0 from by simpa [dn] using h1)];rfl
 rw[aap (show dn r.classes=0 from by simpa [dn] using h1)];have lm:=ai r.areas arr;refine iW ?_ ?_<;>intro h2
 ·refine⟨?_,trivial⟩;rw[iI,aap (by omega)];rfl
 rw[iI,aaa (by omega)];refine aJ (fun i:Nat=>i<=r.areas.length/\(∀k,k<i->cR r.areas k=0)/\ed (r.areas.take i)<=i*1000000) (fun i=>[(4,.p (i64 (ed (r.areas.take i)))),(31,.p (.sl (r.areas.map arr))),(32,.p (i64 (r.areas.map arr).length)),(33,.p (i64 i))]) (fun _=>[]) (fun i=>r.areas.length-i) 0 _ (au.refl _ _) ⟨aaj _,fun k h=>by omega,by simp[ed]⟩ ⟨Z,Z,Z,Z,Y⟩ trivial fun i hi t h=>?_;obtain⟨q1,q2,q3⟩:=hi;refine iW ?_ ?_<;>intro h3
 ·obtain⟨a,ha⟩:=ak (l:=r.areas) (i:=i) (by omega);have bad:cR r.areas i≠0->cU (cR r.areas) 0 r.areas.length=cR r.areas i:=fun hb=>gY hb (fun k _ hk=>q2 k hk) (aaj _) (by omega);have cf:cR r.areas i=(if (decide (-1<=a.layer)&&decide (a.layer<=15))=true then (if Reg.aF a.region=0 then (if cL a.clearance=true then 0 else 1) else Reg.aF a.region) else 1):=by rw[cR,ha]
  have la:=ai a.region rc;refine⟨(arr a),(idx rfl ha),?_⟩;refine⟨_,_,(tU a.layer (-1) 15),?_⟩;refine iW ?_ ?_<;>intro h4
  ·refine⟨?_,trivial⟩;rw[aaa (by simpa using h4)]at cf;rw[bad (by rw[cf];decide),cf];rfl
  rw[aap (by simpa using h4)]at cf;refine⟨_,_,(jj a.region),?_⟩;refine iW ?_ ?_<;>intro h5
  ·refine⟨?_,trivial⟩;have h5:¬Reg.aF a.region=0:=by simpa using h5
   rw[aaa h5]at cf;rw[bad (by rw[cf];exact h5),cf,aaa h5]
  have h5:Reg.aF a.region=0:=by simpa using h5
  rw[aap h5]at cf;have hl:=yY h5;refine⟨_,_,(lK a.clearance),?_⟩;refine iW ?_ ?_<;>intro h6
  ·refine⟨?_,trivial⟩;rw[aaa (by simp[h6])]at cf;rw[bad (by rw[cf];decide),cf];rfl
  rw[aap (by simpa using h6)]at cf;have s1:ed (r.areas.take (i+1))=ed (r.areas.take i)+a.region.length:=by
   rw[aZ ha,wM];simp[ed]
  refine⟨⟨by omega,by omega⟩,?_⟩;refine⟨⟨by omega,by omega⟩,?_⟩;refine⟨(i+1),_,au.refl _ _,?_⟩;refine⟨⟨by omega,fun k hk=>?_,by omega⟩,by omega,⟨a8 (by omega),Z,Z,Z,Y⟩,trivial⟩;by_cases e:k=i
  ·subst e;exact cf
  exact q2 k (by omega)
 have e:i=r.areas.length:=by omega
 subst e;have z0:cU (cR r.areas) 0 r.areas.length=0:=eZ fun k _ hk=>q2 k (by omega);rw[aap z0];have tl:r.areas.take r.areas.length=r.areas:=abU;refine iW ?_ ?_<;>intro h7
 ·refine⟨?_,trivial⟩;rw[tl]at h7;rw[aap (by omega)];rfl
 refine⟨?_,trivial⟩;rw[tl]at h7;rw[aaa (by omega)];rfl
end M
end Go.Proofs.YtfloceomobknoaaGreatDoor
namespace Go.Proofs.YtfloceomobknoaaGreatDoor
open Go.ChangeShapes Go.WideShapes Go.ChangeAt Go.RowKit
section
variable {H:Type} {enc:TypeId×Value->H} {P:Program}
theorem AG{f:Func}{s:ChangeSpec}{apart fresh handsOn again:Bool}{W W':World}{args:Array Value}{v:Value}{ds gs:List (DataW H)}{before pa pv:List MemPlace}
  (hW:DataW.Whole enc P f.params.toList s.vars apart W args.toList ds gs before)
  (hres:∀(b:Nat) (sp:Nat->Bool) (hd:Bool),DataW.TrodAll enc P W' b sp hd f.resultTypes.toList (v.resultList f.resultTypes.size) (s.fn H (ds++gs)).results [])
  (hargs:∀sp:Nat->Bool,(∀p∈before,sp p.block=true)->DataW.TrodAll enc P W' 0 sp true f.params.toList args.toList (s.fn H (ds++gs)).args pa)
  (hvars:∀sp:Nat->Bool,(∀p∈before,sp p.block=true)->DataW.TrodVars enc P W' sp s.vars (s.fn H (ds++gs)).vars pv)
  (hps:before=pa++pv) (hb:Below W.heap.size W W')
  (hok:∀(j:Nat) (t:TypeId) (r:Value),f.resultTypes[j]?=some t->(v.resultList f.resultTypes.size)[j]?=some r->Value.okWide P W' .any 0 t r):
  s.post enc P f apart fresh handsOn again W args v W':=by
 have eF:∀p∈before,p.block<W.heap.size:=fun p hp=>hW.lt p hp;have hold:∀p∈before,(fun b=>decide (b<W.heap.size)) p.block=true:=fun p hp=>by simpa using eF p hp
 refine⟨ds,gs,before,[],pa,pv,hW,hres _ _ _,hargs _ hold,hvars _ hold,World.keptBut_mono (fun p hp=>⟨hp,?_⟩) (hb.frame (·∈before)),fun _=>?_⟩
 ·rw[hps,abi]at hp;exact Or.inr hp
 obtain⟨_,_,_,_,_,hz,hn⟩:=hW;refine⟨hok,_,_,([]++pa)++pv,⟨[]++pa,pv,trodAll_append (hargs _ (fun _ _=>rfl)) (hres _ _ _),hvars _ (fun _ _=>rfl),rfl,?_,?_⟩,?_⟩
 ·intro b off hp;have s_:MemPlace.cell b off∈before:=by rw[hps];simpa using hp
  rw[hb.frozen (eF _ s_)];exact hz b off s_
 ·intro ha;have:=hn ha;rw[hps]at this;simpa using this
 intro p hp _;rw[hps];simpa using hp
theorem xr{C:Checked}{os:Os}{f:FuncId}{fn:Func}{s:OpenSpec}{conds:List PathCond}{apart:Bool}{laid:List (String×DataW Unit)}(w0:World)(args:Array Value)(hos:w0.os=os)
  (hsh:(w0.forCall (fun _ _=>0) ⟨#[],args,[]⟩).Shaped C.prog)
  (hok:Input.okWideB C.prog (w0.forCall (fun _ _=>0) ⟨#[],args,[]⟩) f ⟨#[],args,[]⟩=true)
  (az:s.preRow enc C.prog fn conds apart laid (w0.forCall (fun _ _=>0) ⟨#[],args,[]⟩).memory args):
  ∃(w:World) (tape:Tape) (i:Input),w.os=os/\(w.forCall tape i).Shaped C.prog/\i.vars=[]/\Input.okWide C.prog (w.forCall tape i) .any w.heap.size f i /\
   s.preRow enc C.prog fn conds apart laid (w.forCall tape i).memory i.args/\({}:Assume).holds C.prog (lone (Frame.enter C.prog f i.args .normal) [] (w.forCall tape i)):=
 ⟨w0,fun _ _=>0,⟨#[],args,[]⟩,hos,hsh,(Input.okWide_of_okWideB (base:=0) hok).1,(Input.okWide_of_okWideB hok).2,az,by
  simp only[Assume.holds];exact⟨by simp,by simp,fun _=>Modest.zero,by simp,by simp⟩⟩
end
theorem own:ownKnob Tryz.prog.godebug=none:=by kernel_rfl
variable {H:Type}
theorem M5(d:DataW H):1<=Rows.uptoBulk d:=by
 cases d with
 | lit l=>cases l<;>simp[Rows.uptoBulk]
 | nil=>simp[Rows.uptoBulk]
 | ptr d=>simp[Rows.uptoBulk]
 | slice elems spare=>simp[Rows.uptoBulk]
 | agg parts=>simp[Rows.uptoBulk]
 | iface t d=>simp[Rows.uptoBulk]
 | map entries=>simp[Rows.uptoBulk]
 | held h=>simp[Rows.uptoBulk]
theorem Bx{d:DataW H}{l:List (DataW H)}(h:d∈l):Rows.uptoBulk d<=Rows.uptoBulkAll l:=by
 induction l with
 | nil=>cases h
 | cons x r ih=>
  simp only[Rows.uptoBulkAll];cases adq.1 h with
  | inl e=>subst e;omega
  | inr e=>have:=ih e;omega
theorem EJ(bytes:List UInt8):Rows.uptoBulk (DataW.lit (H:=H) (.string bytes))=bytes.length+1:=by
 simp[Rows.uptoBulk]
theorem Ha{l:List (DataW H)}(hk:Rows.uptoSmall H l=true):Rows.uptoBulkAll l<=1048576:=adw hk
end Go.Proofs.YtfloceomobknoaaGreatDoor
namespace Go.Proofs.YtfloceomobknoaaGreatDoor
namespace M
open Go.AM Go.RowKit Go.Lib
open Reg (ae aU an)
variable {H:Type} {enc:TypeId×Value->H} {w:World} {S:Nat->Prop}
theorem EK:IK enc Tryz.prog w S 3 1 fun xs d=>∃n:Int,xs=[i64 n]/\d=.lit (.int .i64 n):=Pr acI
theorem U8:IK enc Tryz.prog w S 9 1 fun xs d=>∃s:ByteArray,xs=[str s]/\d=.lit (.string s.data.toList):=Pt acS
theorem M6:IK enc Tryz.prog w S 87 4 fun xs _=>∃r:ae,xs=rc r:=fun n cs x h=>by
 obtain⟨xs,l1,l2,l3,ds,e,ld,q⟩:=jP (S:=S) (Qs:=fun _ xs d=>∃n:Int,xs=[i64 n]/\d=.lit (.int .i64 n)) Tryz.underlying87 (acY (by kernel_rfl)) (by kernel_rfl) (fun i f hf=>by
  match i,hf with
  | 0,hf=>cases hf;exact EK
  | 1,hf=>cases hf;exact EK
  | 2,hf=>cases hf;exact EK
  | 3,hf=>cases hf;exact EK
  | n+4,hf=>cases hf) _ _ _ h
 have l1:xs.length=4:=l1;have ld:ds.length=4:=ld;obtain⟨a,b,c,d,rfl⟩:∃a b c d,xs=[a,b,c,d]:=by
  match xs,l1 with
  | [a,b,c,d],_=>exact⟨a,b,c,d,rfl⟩
 obtain⟨a',b',c',d',rfl⟩:∃a b c d,ds=[a,b,c,d]:=by
  match ds,ld with
  | [a,b,c,d],_=>exact⟨a,b,c,d,rfl⟩
 obtain⟨n0,e0,_⟩:=q 0 _ _ rfl rfl;obtain⟨n1,e1,_⟩:=q 1 _ _ rfl rfl;obtain⟨n2,e2,_⟩:=q 2 _ _ rfl rfl;obtain⟨n3,e3,_⟩:=q 3 _ _ rfl rfl;cases e0;cases e1;cases e2;cases e3;exact⟨_,rfl,l2,l3,⟨n0,n1,n2,n3⟩,rfl⟩
abbrev Sp(enc:TypeId×Value->H)(w:World)(S:Nat->Prop)(t:TypeId)(k:Nat){γ:Type}(f:γ->List PV)(B:γ->Nat->Prop):Prop:=IK enc Tryz.prog w S t k fun xs d=>∃r,xs=f r/\B r (Rows.uptoBulk d)
theorem sL:Sp enc w S 3 1 (fun n=>[i64 n]) fun _ _=>True:=fun n cs x h=>by
 obtain⟨xs,l1,l2,l3,z,e,_⟩:=EK (S:=S) n cs x h;exact⟨xs,l1,l2,l3,z,e,trivial⟩
theorem Pz:Sp enc w S 9 1 (fun s=>[str s]) fun s n=>s.size<=n:=fun n cs x h=>by
 obtain⟨xs,l1,l2,l3,z,e,d⟩:=U8 (S:=S) n cs x h;refine⟨xs,l1,l2,l3,z,e,?_⟩;rw[d,EJ];have:z.data.toList.length=z.size:=by simp
 omega
theorem IT{α γ:Type}{f:γ->α}{B:γ->Nat->Prop}(hm:∀r m n,m<=n->B r m->B r n):∀{es:List α} {ds:List (DataW H)},es.length=ds.length->(∀(i:Nat) x y,es[i]?=some x->ds[i]?=some y->∃r,x=f r/\B r (Rows.uptoBulk y))->∃l:List γ,es=l.map f/\l.length<=Rows.uptoBulkAll ds/\∀r∈l,B r (Rows.uptoBulkAll ds)
 | [],_,_,_=>⟨[],rfl,aaj _,fun r h=>by cases h⟩
 | x::es,[],hl,_=>by cases hl
 | x::es,y::ds,hl,h=>by
  obtain⟨r,rfl,hr⟩:=h 0 x y rfl rfl;obtain⟨l,rfl,h1,h2⟩:=IT hm (es:=es) (ds:=ds) (by simpa using hl) (fun i a b h1 h2=>h (i+1) a b (by simpa using h1) (by simpa using h2));have e:Rows.uptoBulkAll (y::ds)=Rows.uptoBulk y+Rows.uptoBulkAll ds:=by simp only[Rows.uptoBulkAll]
  have b1:=M5 y;refine⟨r::l,rfl,by rw[aaB];omega,fun q hq=>?_⟩;rcases adq.1 hq with h | h
  ·subst h;exact hm _ _ _ (by omega) hr
  exact hm _ _ _ (by omega) (h2 q h)
theorem mA{t e:TypeId}{k:Nat}{γ:Type}{f:γ->List PV}{B:γ->Nat->Prop}(ht:Tryz.prog.underlying t=some (.slice e))(hc:Tryz.prog.cellsOf e=k)(hk:0<k)(hS:∀b,b<w.heap.size->S b)(hm:∀r m n,m<=n->B r m->B r n)(he:Sp enc w S e k f B):
  Sp enc w S t 1 (fun l:List γ=>[.sl (l.map f)]) fun l n=>l.length<=n/\∀r∈l,B r n:=fun n cs x h=>by
 obtain⟨xs,l1,l2,l3,es,ds,sp,rfl,hl,hd,q⟩:=Kr ht hc hk hS he _ _ _ h;obtain⟨l,rfl,b1,b2⟩:=IT hm hl q;have hb:Rows.uptoBulkAll ds<=Rows.uptoBulk x.1:=by
  rcases hd with⟨h1,h2⟩ | h1
  ·rw[h2];exact aaj _
  rw[h1];simp only[Rows.uptoBulk];omega
 exact⟨_,l1,l2,l3,l,rfl,by omega,fun r hr=>hm _ _ _ hb (b2 r hr)⟩
theorem nK{ds:List (DataW H)}{i:Nat}{y:DataW H}(h:ds[i]?=some y):Rows.uptoBulk y<=Rows.uptoBulk (.agg ds):=by
 have:=Bx (aad h);simp only[Rows.uptoBulk];omega
theorem PA:Sp enc w S 87 4 rc fun _ _=>True:=fun n cs x h=>by
 obtain⟨xs,l1,l2,l3,r,e⟩:=M6 (S:=S) n cs x h;exact⟨xs,l1,l2,l3,r,e,trivial⟩
theorem yZ(hS:∀b,b<w.heap.size->S b):Sp enc w S 22 1 (fun l=>[aj l]) fun l n=>l.length<=n/\∀r∈l,True:=mA (k:=4) Tryz.underlying22 (by kernel_rfl) (by decide) hS (fun _ _ _ _ h=>h) PA
theorem PB(hS:∀b,b<w.heap.size->S b):Sp enc w S 49 1 (fun l=>[strs l]) fun l n=>l.length<=n/\∀s∈l,s.size<=n:=mA (k:=1) acL (by kernel_rfl) (by decide) hS (fun _ _ _ h1 h2=>aaF h2 h1) Pz
theorem PC(hS:∀b,b<w.heap.size->S b):Sp enc w S 161 3 arr fun _ _=>True:=fun n cs x h=>by
 obtain⟨xs,l1,l2,l3,ds,e,ld,q⟩:=jP (S:=S) (Qs:=fun i xs d=>match i with
   | 1=>∃r,xs=[aj r]/\(r.length<=Rows.uptoBulk d/\∀z∈r,True)
   | _=>∃r,xs=[i64 r]/\True) Tryz.underlying161 (acY (by kernel_rfl)) (by kernel_rfl) (fun i f hf=>by
  match i,hf with
  | 0,hf=>cases hf;exact sL
  | 1,hf=>cases hf;exact yZ hS
  | 2,hf=>cases hf;exact sL
  | n+3,hf=>cases hf) _ _ _ h
 have l1:xs.length=3:=l1;have ld:ds.length=3:=ld;obtain⟨a,b,c,rfl⟩:∃a b c,xs=[a,b,c]:=by
  match xs,l1 with
  | [a,b,c],_=>exact⟨a,b,c,rfl⟩
 obtain⟨a',b',c',rfl⟩:∃a b c,ds=[a,b,c]:=by
  match ds,ld with
  | [a,b,c],_=>exact⟨a,b,c,rfl⟩
 obtain⟨n0,e0,_⟩:=q 0 _ _ rfl rfl;obtain⟨n1,e1,_⟩:=q 1 _ _ rfl rfl;obtain⟨n2,e2,_⟩:=q 2 _ _ rfl rfl;cases e0;cases e1;cases e2;exact⟨_,rfl,l2,l3,⟨n0,n1,n2⟩,Z,Y⟩
def ug(c:Class)(n:Nat):Prop:=c.name.size<=n/\c.nets.length<=n/\∀s∈c.nets,s.size<=n
theorem o_(c:Class)(m n:Nat)(h:m<=n):ug c m->ug c n:=fun ⟨h1,h2,h3⟩=>⟨by omega,by omega,fun s hs=>aaF (h3 s hs) h⟩
theorem M7(hS:∀b,b<w.heap.size->S b):Sp enc w S 159 4 kl ug:=fun n cs x h=>by
 obtain⟨xs,l1,l2,l3,ds,e,ld,q⟩:=jP (S:=S) (Qs:=fun i xs d=>match i with
   | 0=>∃r,xs=[str r]/\r.size<=Rows.uptoBulk d
   | 1=>∃r,xs=[strs r]/\(r.length<=Rows.uptoBulk d/\∀s∈r,s.size<=Rows.uptoBulk d)
   | _=>∃r,xs=[i64 r]/\True) Tryz.underlying159 (acY (by kernel_rfl)) (by kernel_rfl) (fun i f hf=>by
  match i,hf with
  | 0,hf=>cases hf;exact Pz
  | 1,hf=>cases hf;exact PB hS
  | 2,hf=>cases hf;exact sL
  | 3,hf=>cases hf;exact sL
  | n+4,hf=>cases hf) _ _ _ h
 have l1:xs.length=4:=l1;have ld:ds.length=4:=ld;obtain⟨a,b,c,d,rfl⟩:∃a b c d,xs=[a,b,c,d]:=by
  match xs,l1 with
  | [a,b,c,d],_=>exact⟨a,b,c,d,rfl⟩
 obtain⟨a',b',c',d',rfl⟩:∃a b c d,ds=[a,b,c,d]:=by
  match ds,ld with
  | [a,b,c,d],_=>exact⟨a,b,c,d,rfl⟩
 obtain⟨n0,e0,p0⟩:=q 0 _ _ rfl rfl;obtain⟨n1,e1,p1,p2⟩:=q 1 _ _ rfl rfl;obtain⟨n2,e2,_⟩:=q 2 _ _ rfl rfl;obtain⟨n3,e3,_⟩:=q 3 _ _ rfl rfl;cases e0;cases e1;cases e2;cases e3;have i0:=nK (ds:=[a',b',c',d']) (i:=0) rfl;have i1:=nK (ds:=[a',b',c',d']) (i:=1) rfl;rw[<-e]at i0 i1;exact⟨_,rfl,l2,l3,⟨n0,n1,n2,n3⟩,rfl,by exact aaF p0 i0,by exact aaF p1 i1,fun s hs=>aaF (p2 s hs) i1⟩
def xN(r:cP)(n:Nat):Prop:=r.classes.length<=n/\r.areas.length<=n/\∀c∈r.classes,ug c n
theorem M8(hS:∀b,b<w.heap.size->S b):Sp enc w S 39 7 rl xN:=fun n cs x h=>by
 obtain⟨xs,l1,l2,l3,ds,e,ld,q⟩:=jP (S:=S) (Qs:=fun i xs d=>match i with
   | 5=>∃r:List Class,xs=[.sl (r.map kl)]/\(r.length<=Rows.uptoBulk d/\∀c∈r,ug c (Rows.uptoBulk d))
   | 6=>∃r:List sJ,xs=[.sl (r.map arr)]/\(r.length<=Rows.uptoBulk d/\∀c∈r,True)
   | _=>∃r,xs=[i64 r]/\True) Tryz.underlying39 (acY (by kernel_rfl)) (by kernel_rfl) (fun i f hf=>by
  match i,hf with
  | 0,hf=>cases hf;exact sL
  | 1,hf=>cases hf;exact sL
  | 2,hf=>cases hf;exact sL
  | 3,hf=>cases hf;exact sL
  | 4,hf=>cases hf;exact sL
  | 5,hf=>cases hf;exact mA (k:=4) Tryz.underlying36 (by kernel_rfl) (by decide) hS o_ (M7 hS)
  | 6,hf=>cases hf;exact mA (k:=3) Tryz.underlying37 (by kernel_rfl) (by decide) hS (fun _ _ _ _ h=>h) (PC hS)
  | n+7,hf=>cases hf) _ _ _ h
 have l1:xs.length=7:=l1;have ld:ds.length=7:=ld;obtain⟨x0,x1,x2,x3,x4,x5,x6,rfl⟩:∃a b c d e f g,xs=[a,b,c,d,e,f,g]:=by
  match xs,l1 with
  | [a,b,c,d,e,f,g],_=>exact⟨a,b,c,d,e,f,g,rfl⟩
 obtain⟨y0,y1,y2,y3,y4,y5,y6,rfl⟩:∃a b c d e f g,ds=[a,b,c,d,e,f,g]:=by
  match ds,ld with
  | [a,b,c,d,e,f,g],_=>exact⟨a,b,c,d,e,f,g,rfl⟩
 obtain⟨n0,e0,_⟩:=q 0 _ _ rfl rfl;obtain⟨n1,e1,_⟩:=q 1 _ _ rfl rfl;obtain⟨n2,e2,_⟩:=q 2 _ _ rfl rfl;obtain⟨n3,e3,_⟩:=q 3 _ _ rfl rfl;obtain⟨n4,e4,_⟩:=q 4 _ _ rfl rfl;obtain⟨n5,e5,p1,p2⟩:=q 5 _ _ rfl rfl;obtain⟨n6,e6,p3,_⟩:=q 6 _ _ rfl rfl;cases e0;cases e1;cases e2;cases e3;cases e4;cases e5;cases e6;have i0:=nK (ds:=[y0,y1,y2,y3,y4,y5,y6]) (i:=5) rfl;have i1:=nK (ds:=[y0,y1,y2,y3,y4,y5,y6]) (i:=6) rfl;rw[<-e]at i0 i1;exact⟨_,rfl,l2,l3,⟨n0,n1,n2,n3,n4,n5,n6⟩,rfl,by exact aaF p1 i0,by exact aaF p3 i1,fun c hc=>o_ c _ _ i0 (p2 c hc)⟩
theorem EL:Sp enc w S 45 2 (fun p:Int×Int=>[i64 p.1,i64 p.2]) fun _ _=>True:=fun n cs x h=>by
 obtain⟨xs,l1,l2,l3,ds,e,ld,q⟩:=jP (S:=S) (Qs:=fun i xs d=>∃r,xs=[i64 r]/\True) Tryz.underlying45 (acY (by kernel_rfl)) (by kernel_rfl) (fun i f hf=>by
  match i,hf with
  | 0,hf=>cases hf;exact sL
  | 1,hf=>cases hf;exact sL
  | n+2,hf=>cases hf) _ _ _ h
 have l1:xs.length=2:=l1;have ld:ds.length=2:=ld;obtain⟨a,b,rfl⟩:∃a b,xs=[a,b]:=by
  match xs,l1 with
  | [a,b],_=>exact⟨a,b,rfl⟩
 obtain⟨a',b',rfl⟩:∃a b,ds=[a,b]:=by
  match ds,ld with
  | [a,b],_=>exact⟨a,b,rfl⟩
 obtain⟨n0,e0,_⟩:=q 0 _ _ rfl rfl;obtain⟨n1,e1,_⟩:=q 1 _ _ rfl rfl;cases e0;cases e1;exact⟨_,rfl,l2,l3,(n0,n1),Z,Y⟩
theorem M9{r:cP}(h:xN r 1048576):e8 r:=⟨fun c hc=>by
  obtain⟨h1,h2,h3⟩:=h.2.2 c hc;exact⟨adY h1 (by decide),h2,fun s hs=>adY (h3 s hs) (by decide)⟩,h.1,h.2.1⟩
theorem Da(r:cP)(m n:Nat)(h:m<=n):xN r m->xN r n:=fun ⟨h1,h2,h3⟩=>⟨by omega,by omega,fun c hc=>o_ c _ _ h (h3 c hc)⟩
theorem IU{d:DataW H}{l:List (DataW H)}(hk:Rows.uptoSmall H l=true)(h:d∈l):Rows.uptoBulk d<=1048576:=aaF (Bx h) (Ha hk)
theorem By{P:Program}(hl:laidOutB P=true){W W':World}(hb:Below W.heap.size W W'):∀{ts:List TypeId} {vs:List Value} {ds:List (DataW H)} {ps:List MemPlace},(ts.all fun t=>P.readableRec t&&decide (t<P.types.size))=true->DataW.TrodAll enc P W 0 (fun _=>true) true ts vs ds ps->(∀p∈ps,p.block<W.heap.size)->∀sp:Nat->Bool,(∀p∈ps,sp p.block=true)->DataW.TrodAll enc P W' 0 sp true ts vs ds ps
 | [],[],[],_,_,h,_,_,_=>h
 | t::ts,v::vs,d::ds,ps,ht,h,eF,sp,hs=>by
  obtain⟨p,q,h1,h2,rfl⟩:=h;simp only[aaP,aaZ,aaH]at ht;have Lm:(ts.all fun t=>P.readableRec t&&decide (t<P.types.size))=true:=by simpa using ht.2
  exact⟨p,q,Go.WideElems.Trod_stays hl ht.1.1 ht.1.2 h1 (fun x hx=>hb.same (eF x (abY _ hx))) (fun x hx=>hs x (abY _ hx)),
   By hl hb Lm h2 (fun x hx=>eF x (adt _ hx)) sp (fun x hx=>hs x (adt _ hx)),rfl⟩
 | [],_::_,_,_,_,h,_,_,_=>h.elim
 | [],[],_::_,_,_,h,_,_,_=>h.elim
 | _::_,[],_,_,_,h,_,_,_=>h.elim
 | _::_,_::_,[],_,_,h,_,_,_=>h.elim
theorem EM {W : World} (h1 : ∃ m : Int, W.cell? ⟨0, 0, none⟩ = some (.int .i64 m)) (h2 : Lib.TabIs Tryz.prog W "internal/strconv.uint64pow10" .u64 Lib.pow10Tab) : Env (fun b => b < W.heap.size) W := by
 refine⟨?_,block_lt_of_cell (h2.cell St 0 (by decide)),h1,h2⟩;obtain⟨m,hm⟩:=h1;exact block_lt_of_cell hm
theorem U9:laidOutB Tryz.prog=true:=by kernel_rfl
theorem M_{s:ByteArray}(h:s.size<=1048576):ue s:=adY h (by decide)
end M
namespace Reg
def par:List Int->Int->Bool
 | [],_=>false
 | c::a,x=>Bool.xor (decide (c<=x)) (par a x)
theorem pd{a:List Int}{x:Int}(h:∀c∈a,x<c):par a x=false:=by
 induction a with
 | nil=>rfl
 | cons c a ih=>
  have h1:=h c (by simp);rw[par,ih (fun d hd=>h d (by simp[hd])),aaz (by omega)];rfl
theorem vz{a:List Int}{x:Int}(h:∀c∈a,c<=x):par a x=decide (a.length % 2=1):=by
 induction a with
 | nil=>rfl
 | cons c a ih=>
  have h1:=h c (by simp);rw[par,ih (fun d hd=>h d (by simp[hd])),acd h1,aaB];rcases Nat.mod_two_eq_zero_or_one a.length with e | e
  ·rw[aaz (by omega),acd (by omega)];rfl
  rw[acd (by omega),aaz (by omega)];rfl
theorem bF.tail{c:Int}{a:List Int}(h:bF (c::a)):bF a:=(ade.1 h).2
theorem bF.behind{c:Int}{a:List Int}(h:bF (c::a)):∀d∈a,c<d:=(ade.1 h).1
def gZ:List Int->List Int->Option Int
 | [],[]=>none
 | p::_,[]=>some p
 | [],q::_=>some q
 | p::_,q::_=>some (if p<=q then p else q)
def dv(x:Int):List Int->Bool->List Int×Bool
 | [],s=>([],s)
 | p::r,s=>if p=x then (r,!s) else (p::r,s)
theorem Bz{x:Int}{a:List Int}{s:Bool}(ha:bF a)(hx:∀c∈a,x<=c):bF (dv x a s).1/\(∀c∈(dv x a s).1,x<c/\c∈a)/\(∀y,x<=y->Bool.xor (dv x a s).2 (par (dv x a s).1 y)=Bool.xor s (par a y))/\(dv x a s).1.length<=a.length/\(a.head?=some x->(dv x a s).1.length+1=a.length):=by
 cases a with
 | nil=>exact⟨ha,fun c h=>by simp[dv]at h,fun y _=>rfl,aam _,fun h=>by cases h⟩
 | cons p r=>
  by_cases e:p=x
  ·subst e;have e1:dv p (p::r) s=(r,!s):=by simp[dv]
   rw[e1];refine⟨ha.tail,fun c hc=>⟨ha.behind c hc,by simp[hc]⟩,fun y hy=>?_,by simp,fun _=>rfl⟩;rw[par,acd hy];cases s<;>cases par r y<;>rfl
  have e1:dv x (p::r) s=(p::r,s):=by simp[dv,e]
  rw[e1];refine⟨ha,fun c hc=>⟨?_,hc⟩,fun y hy=>rfl,aam _,fun h=>absurd (by simpa using h) e⟩;have h1:=hx p (by simp);rcases adq.1 hc with h | h
  ·omega
  have:=ha.behind c h;omega
def cn(k:Bool->Bool->Bool):Nat->List Int->List Int->Bool->Bool->Bool->List Int
 | 0,_,_,_,_,_=>[]
 | n+1,a,b,ia,ib,is=>match gZ a b with
  | none=>[]
  | some x=>if k (dv x a ia).2 (dv x b ib).2=is then cn k n (dv x a ia).1 (dv x b ib).1 (dv x a ia).2 (dv x b ib).2 is
   else x::cn k n (dv x a ia).1 (dv x b ib).1 (dv x a ia).2 (dv x b ib).2 (k (dv x a ia).2 (dv x b ib).2)
def eo(k:Bool->Bool->Bool)(a b:List Int):List Int:=cn k (a.length+b.length) a b false false false
theorem Hb{a b:List Int}(ha:bF a)(hb:bF b):match gZ a b with
  | none=>a=[]/\b=[]
  | some x=>(∀c∈a,x<=c)/\(∀c∈b,x<=c)/\(a.head?=some x\/b.head?=some x):=by
 cases a with
 | nil=>
  cases b with
  | nil=>exact⟨rfl,rfl⟩
  | cons q u=>
   show (∀c∈([]:List Int),q<=c)/\(∀c∈q::u,q<=c)/\(([]:List Int).head?=some q\/(q::u).head?=some q);refine⟨fun c h=>(by cases h),fun c h=>?_,.inr rfl⟩;rcases adq.1 h with h | h
   ·omega
   have:=hb.behind c h;omega
 | cons p r=>
  cases b with
  | nil=>
   show (∀c∈p::r,p<=c)/\(∀c∈([]:List Int),p<=c)/\((p::r).head?=some p\/([]:List Int).head?=some p);refine⟨fun c h=>?_,fun c h=>(by cases h),.inl rfl⟩;rcases adq.1 h with h | h
   ·omega
   have:=ha.behind c h;omega
  | cons q u=>
   have h1:∀c∈p::r,p<=c:=fun c h=>by
    rcases adq.1 h with h | h
    ·omega
    have:=ha.behind c h;omega
   have h2:∀c∈q::u,q<=c:=fun c h=>by
    rcases adq.1 h with h | h
    ·omega
    have:=hb.behind c h;omega
   by_cases e:p<=q
   ·simp only[gZ,aap e];exact⟨h1,fun c h=>by have:=h2 c h;omega,.inl rfl⟩
   simp only[gZ,aaa e];exact⟨fun c h=>by have:=h1 c h;omega,h2,.inr rfl⟩
theorem Hc(k:Bool->Bool->Bool):∀(n:Nat) (a b:List Int) (ia ib is:Bool),a.length+b.length<=n->bF a->bF b->is=k ia ib ->
  bF (cn k n a b ia ib is)/\(∀c∈cn k n a b ia ib is,c∈a\/c∈b)/\(∀y,Bool.xor is (par (cn k n a b ia ib is) y)=k (Bool.xor ia (par a y)) (Bool.xor ib (par b y))):=by
 intro n
 induction n with
 | zero=>
  intro a b ia ib is hn _ _ he;have ea:a=[]:=adl (by omega);have eb:b=[]:=adl (by omega);subst ea eb;exact⟨List.Pairwise.nil,fun c h=>by simp[cn]at h,fun y=>by simp[cn,par,he]⟩
 | succ n ih=>
  intro a b ia ib is hn ha hb he;have hx:=Hb ha hb;unfold cn;cases hc:gZ a b with
  | none=>
   rw[hc]at hx;obtain⟨rfl,rfl⟩:=hx;exact⟨List.Pairwise.nil,fun c h=>by simp at h,fun y=>by simp[par,he]⟩
  | some x=>
   rw[hc]at hx;obtain⟨xa,xb,xh⟩:=hx;obtain⟨a1,a2,a3,a4,a5⟩:=Bz (s:=ia) ha xa;obtain⟨b1,b2,b3,b4,b5⟩:=Bz (s:=ib) hb xb;have Ct:(dv x a ia).1.length+(dv x b ib).1.length<=n:=by
    rcases xh with h | h
    ·have:=a5 h;omega
    have:=b5 h;omega
   simp only;have early:∀y,y<x->k (Bool.xor ia (par a y)) (Bool.xor ib (par b y))=is:=fun y hy=>by
    rw[pd (fun c h=>by have:=xa c h;omega),pd (fun c h=>by have:=xb c h;omega),he];simp
   split
   ·rename_i hk;obtain⟨i1,i2,i3⟩:=ih _ _ _ _ is Ct a1 b1 hk.symm;refine⟨i1,fun c h=>?_,fun y=>?_⟩
    ·rcases i2 c h with h | h
     ·exact .inl (a2 c h).2
     exact .inr (b2 c h).2
    by_cases hy:x<=y
    ·rw[i3 y,a3 y hy,b3 y hy]
    rw[early y (by omega),pd (fun c h=>by
     rcases i2 c h with h | h
     ·have:=(a2 c h).1;omega
     have:=(b2 c h).1;omega)]
    simp
   rename_i hk;obtain⟨i1,i2,i3⟩:=ih _ _ _ _ (k (dv x a ia).2 (dv x b ib).2) Ct a1 b1 rfl;have up:∀c∈cn k n (dv x a ia).1 (dv x b ib).1 (dv x a ia).2 (dv x b ib).2 (k (dv x a ia).2 (dv x b ib).2),x<c:=fun c h=>by
    rcases i2 c h with h | h
    ·exact (a2 c h).1
    exact (b2 c h).1
   refine⟨ade.2 ⟨up,i1⟩,fun c h=>?_,fun y=>?_⟩
   ·rcases adq.1 h with h | h
    ·subst h;rcases xh with h | h
     ·exact .inl (List.mem_of_mem_head? (by rw[h];rfl))
     exact .inr (List.mem_of_mem_head? (by rw[h];rfl))
    rcases i2 c h with h | h
    ·exact .inl (a2 c h).2
    exact .inr (b2 c h).2
   by_cases hy:x<=y
   ·rw[<-a3 y hy,<-b3 y hy,<-i3 y,par,acd hy];revert hk;cases k (dv x a ia).2 (dv x b ib).2<;>cases is<;>simp
   rw[early y (by omega),pd (fun c h=>by
    rcases adq.1 h with h | h
    ·omega
    have:=up c h;omega)]
   simp
theorem EN{k:Bool->Bool->Bool}(hk:k false false=false){a b:List Int}(ha:bF a)(hb:bF b)(ea:a.length % 2=0)(eb:b.length % 2=0):
  bF (eo k a b)/\(∀c∈eo k a b,c∈a\/c∈b)/\(∀y,par (eo k a b) y=k (par a y) (par b y))/\(eo k a b).length % 2=0:=by
 obtain⟨h1,h2,h3⟩:=Hc k _ a b false false false (aam _) ha hb hk.symm;have h4:∀y,par (eo k a b) y=k (par a y) (par b y):=fun y=>by have:=h3 y;rw[ad9,ad9,ad9]at this;exact this
 refine⟨h1,h2,h4,?_⟩;obtain⟨m,hm⟩:∃m:Int,(∀c∈a,c<=m)/\∀c∈b,c<=m:=by
  have up:∀l:List Int,∃m:Int,∀c∈l,c<=m:=fun l=>by
   induction l with
   | nil=>exact⟨0,fun c h=>by cases h⟩
   | cons c l ih=>
    obtain⟨m,hm⟩:=ih;refine⟨max m c,fun d hd=>?_⟩;rcases adq.1 hd with h | h
    ·omega
    have:=hm d h;omega
  obtain⟨m1,g1⟩:=up a;obtain⟨m2,g2⟩:=up b;exact⟨max m1 m2,fun c h=>by have:=g1 c h;omega,fun c h=>by have:=g2 c h;omega⟩
 have h5:=h4 m;rw[vz hm.1,vz hm.2,vz (a:=eo k a b) (fun c h=>(h2 c h).elim (hm.1 c) (hm.2 c)),ea,eb]at h5;simp[hk]at h5;omega
def bw:aU->List Int
 | []=>[]
 | p::s=>p.1::p.2::bw s
def pairUp:List Int->aU
 | p::q::r=>(p,q)::pairUp r
 | _=>[]
theorem wN:∀l:List Int,l.length % 2=0->bw (pairUp l)=l
 | [],_=>rfl
 | [_],h=>by simp at h
 | p::q::r,h=>by
  rw[pairUp,bw,wN r (by simp at h ⊢;omega)]
theorem fN(s:aU):(bw s).length=2*s.length:=by
 induction s with
 | nil=>rfl
 | cons p s ih=>simp only[bw,aaB,ih];omega
theorem aep{s:aU}{c:Int}:c∈bw s↔∃p∈s,c=p.1\/c=p.2:=by
 induction s with
 | nil=>simp[bw]
 | cons p s ih=>
  simp only[bw,adq,ih];constructor
  ·rintro (h | h | ⟨q,hq,h⟩)
   ·exact⟨p,.inl rfl,.inl h⟩
   ·exact⟨p,.inl rfl,.inr h⟩
   exact⟨q,.inr hq,h⟩
  rintro⟨q,rfl | hq,h⟩
  ·rcases h with h | h
   ·exact .inl h
   exact .inr (.inl h)
  exact .inr (.inr ⟨q,hq,h⟩)
theorem nt{s:aU}(h:Canon s):bF (bw s):=by
 induction s with
 | nil=>exact List.Pairwise.nil
 | cons p s ih=>
  have h1:=h.head;have h2:=h.behind;have hc:∀d∈bw s,p.2<d:=fun d hd=>by
   obtain⟨q,hq,e⟩:=aep.1 hd;have h3:=h2 q hq;have h4:q.1<q.2:=by
    clear ih e h1 h2 h3 hd;have:=h.tail;clear h
    induction s with
    | nil=>cases hq
    | cons a s ih2=>
     rcases adq.1 hq with rfl | hq
     ·exact this.head
     exact ih2 hq this.tail
   omega
  refine ade.2 ⟨fun d hd=>?_,ade.2 ⟨hc,ih h.tail⟩⟩;rcases adq.1 hd with h | h
  ·omega
  have:=hc d h;omega
theorem uh:∀l:List Int,bF l->Canon (pairUp l)
 | [],_=>trivial
 | [_],_=>trivial
 | p::q::r,h=>by
  have h1:=h.behind q (by simp);have h2:=h.tail.behind;refine Canon.cons h1 (fun t ht=>?_) (uh r h.tail.tail);have:∀(l:List Int) (t:Int×Int),t∈pairUp l->t.1∈l:=fun l=>by
   induction l using pairUp.induct with
   | case1 a b l ih=>
    intro t ht;rw[pairUp,adq]at ht;rcases ht with h | h
    ·subst h;simp
    have:=ih t h;simp[this]
   | case2 l hl=>intro t ht;rw[pairUp]at ht;cases ht;exact hl
  exact h2 _ (this r t ht)
theorem cu{s:aU}(h:Canon s)(x:Int):par (bw s) x=true↔cover s x:=by
 induction s with
 | nil=>simp[bw,par,eQ]
 | cons p s ih=>
  have h1:=h.head;rw[bw,par,par,bJ,<-ih h.tail];by_cases e1:p.1<=x
  ·by_cases e2:p.2<=x
   ·rw[acd e1,acd e2];simp;omega
   have hn:par (bw s) x=false:=by
    rw[aaV];intro hp;exact h.jJ (x:=x) (by omega) ((ih h.tail).1 hp)
   rw[hn,acd e1,aaz e2];simp;omega
  have hn:par (bw s) x=false:=by
   rw[aaV];intro hp;exact h.jJ (x:=x) (by omega) ((ih h.tail).1 hp)
  rw[hn,aaz e1,aaz (by omega)];simp;omega
def at'(s:List an)(x y:Int):Bool:=s.any fun b=>decide (b.y0<=y)&&decide (y<b.y1)&&par (bw b.xs) x
variable {s:List an}
theorem qB{x y:Int}:at' s x y=true↔∃b∈s,b.y0<=y/\y<b.y1/\par (bw b.xs) x=true:=by
 simp[at',aci,and_assoc]
theorem jR(s t:List an)(x y:Int):at' (s++t) x y=(at' s x y||at' t x y):=by simp[at',adi]
theorem at_one(b:an)(x y:Int):at' [b] x y=(decide (b.y0<=y)&&decide (y<b.y1)&&par (bw b.xs) x):=by simp[at']
theorem jS{x y:Int}(h:∀b∈s,y<b.y0\/b.y1<=y):at' s x y=false:=by
 rw[aaV];intro hp;obtain⟨b,hb,h1,h2,_⟩:=qB.1 hp;rcases h b hb with h | h<;>omega
structure IV(b:an):Prop where
 lt:b.y0<b.y1
 ne:b.xs≠[]
 can:Canon b.xs
def bE:List an->Prop
 | []=>True
 | [b]=>IV b
 | b::c::r=>IV b/\b.y1<=c.y0/\(b.y1=c.y0->b.xs≠c.xs)/\bE (c::r)
theorem bE.head{b:an}(h:bE (b::s)):IV b:=by
 cases s with
 | nil=>exact h
 | cons c r=>exact h.1
theorem bE.tail{b:an}(h:bE (b::s)):bE s:=by
 cases s with
 | nil=>trivial
 | cons c r=>exact h.2.2.2
theorem bE.fM{b:an}(h:bE (b::s)):∀t∈s,b.y1<=t.y0:=by
 induction s generalizing b with
 | nil=>intro t ht;cases ht
 | cons c r ih=>
  intro t ht;rcases adq.1 ht with e | ht
  ·subst e;exact h.2.1
  have h1:=ih h.tail t ht;have h2:=h.tail.head.lt;have h3:=h.2.1;omega
theorem bE.mem(h:bE s):∀b∈s,IV b:=by
 induction s with
 | nil=>intro b hb;cases hb
 | cons c r ih=>
  intro b hb;rcases adq.1 hb with e | hb
  ·subst e;exact h.head
  exact ih h.tail b hb
theorem y7{b:an}(h:bE s)(hb:IV b)(hs:∀t∈s,t.y1<=b.y0)(hl:∀t,s.getLast?=some t->t.y1=b.y0->t.xs≠b.xs):bE (s++[b]):=by
 induction s with
 | nil=>exact hb
 | cons c r ih=>
  cases r with
  | nil=>exact⟨h.head,hs c (by simp),hl c rfl,hb⟩
  | cons d u=>
   have:=ih h.tail (fun t ht=>hs t (by simp[ht])) (fun t ht=>hl t (by rw[aeo];exact ht));exact⟨h.1,h.2.1,h.2.2.1,this⟩
theorem Na{b:an}(h:bE (s++[b])):bE s/\IV b/\(∀t∈s,t.y1<=b.y0)/\(∀t,s.getLast?=some t->t.y1=b.y0->t.xs≠b.xs):=by
 induction s with
 | nil=>exact⟨trivial,h,fun t ht=>(by cases ht),fun t ht=>(by cases ht)⟩
 | cons c r ih=>
  cases r with
  | nil=>
   refine⟨h.head,h.2.2.2,fun t ht=>?_,fun t ht=>?_⟩
   ·rw[ab_]at ht;subst ht;exact h.2.1
   simp at ht;subst ht;exact h.2.2.1
  | cons d u=>
   obtain⟨i1,i2,i3,i4⟩:=ih h.tail;refine⟨⟨h.1,h.2.1,h.2.2.1,i1⟩,i2,fun t ht=>?_,fun t ht=>i4 t (by rw[aeo]at ht;exact ht)⟩;rcases adq.1 ht with e | ht
   ·subst e;have a1:=h.fM b (by simp);exact a1
   exact i3 t ht
theorem jT{b:an}(h:bE s)(eF:b.y0<b.y1)(hc:Canon b.xs)(hs:∀t∈s,t.y1<=b.y0):
  bE (cA s b)/\(∀t∈cA s b,t.y1<=b.y1)/\(∀x y,at' (cA s b) x y=(at' s x y||at' [b] x y))/\(∀t∈cA s b,(∃u∈s,u.xs=t.xs/\u.y0=t.y0)\/(t.xs=b.xs/\t.y0=b.y0)):=by
 unfold cA;by_cases e0:b.xs=[]
 ·rw[aap e0];refine⟨h,fun t ht=>by have:=hs t ht;omega,fun x y=>?_,fun t ht=>.inl ⟨t,ht,rfl,rfl⟩⟩;rw[at_one,e0];simp[bw,par]
 rw[aaa e0];have hb:IV b:=⟨eF,e0,hc⟩;cases hl:s.getLast? with
 | none=>
  have:s=[]:=adJ.1 hl;subst this;exact⟨hb,fun t ht=>by rw[ab_]at ht;subst ht;exact acP _,fun x y=>by rw[show at' [] x y=false from rfl,abv],fun t ht=>.inr (by rw[ab_]at ht;subst ht;exact⟨rfl,rfl⟩)⟩
 | some t=>
  simp only;obtain⟨d,hd⟩:=ad3.1 hl;subst hd;obtain⟨i1,i2,i3,i4⟩:=Na h;split
  ·rename_i hm;obtain⟨m1,m2⟩:=hm;rw[List.dropLast_concat];have t1:=i2.lt;refine⟨y7 i1 ⟨?_,i2.ne,i2.can⟩ i3 i4,fun u hu=>?_,fun x y=>?_,fun u hu=>?_⟩
   ·show t.y0<b.y1;omega
   ·rcases abi.1 hu with hu | hu
    ·have:=i3 u hu;omega
    rw[ab_]at hu;subst hu;exact acP _
   ·rw[jR,jR,at_one,at_one,at_one,<-m2,Bool.or_assoc];congr 1;show (decide (t.y0<=y)&&decide (y<b.y1)&&par (bw t.xs) x)=_;by_cases c1:t.y0<=y<;>by_cases c2:y<b.y1<;>by_cases c3:y<t.y1<;>by_cases c4:b.y0<=y<;>simp[c1,c2,c3,c4]<;>omega
   rcases abi.1 hu with hu | hu
   ·exact .inl ⟨u,by simp[hu],rfl,rfl⟩
   rw[ab_]at hu;subst hu;exact .inl ⟨t,by simp,rfl,rfl⟩
  rename_i hm;refine⟨y7 h hb hs (fun u hu h1 h2=>hm ?_),fun u hu=>?_,fun x y=>jR _ _ x y,fun u hu=>?_⟩
  ·rw[hl]at hu;cases hu;exact⟨h1,h2⟩
  ·rcases abi.1 hu with hu | hu
   ·have:=hs u hu;omega
   rw[ab_]at hu;subst hu;exact acP _
  rcases abi.1 hu with hu | hu
  ·exact .inl ⟨u,hu,rfl,rfl⟩
  rw[ab_]at hu;subst hu;exact .inr ⟨rfl,rfl⟩
def eI(s:List an)(y e:Int):aU×Int:=match s with
 | []=>([],e)
 | b::_=>if y<b.y0 then ([],min e b.y0) else (b.xs,min e b.y1)
def aq(y:Int):List an->List an
 | []=>[]
 | b::s=>if b.y1<=y then aq y s else b::s
theorem e_{y:Int}(h:bE s):bE (aq y s)/\(∀t∈aq y s,t∈s/\y<t.y1)/\∀x z,y<=z->at' (aq y s) x z=at' s x z:=by
 induction s with
 | nil=>exact⟨trivial,fun t ht=>(by cases ht),fun x z _=>rfl⟩
 | cons b s ih=>
  obtain⟨i1,i2,i3⟩:=ih h.tail;by_cases e:b.y1<=y
  ·rw[aq,aap e];refine⟨i1,fun t ht=>⟨by simp[(i2 t ht).1],(i2 t ht).2⟩,fun x z hz=>?_⟩;rw[i3 x z hz,show b::s=[b]++s from rfl,jR,at_one,aaz (by omega:¬z<b.y1)];simp
  rw[aq,aaa e];refine⟨h,fun t ht=>⟨ht,?_⟩,fun x z _=>rfl⟩;rcases adq.1 ht with e | ht
  ·subst e;omega
  have h1:=h.fM t ht;have h2:=(h.tail.mem t ht).lt;omega
theorem iX{y e:Int}(h:bE s)(hy:∀t∈s,y<t.y1)(he:y<e):Canon (eI s y e).1/\y<(eI s y e).2/\(eI s y e).2<=e/\(∀p∈(eI s y e).1,∃b∈s,p∈b.xs)/\∀x z,y<=z->z<(eI s y e).2->at' s x z=par (bw (eI s y e).1) x:=by
 cases s with
 | nil=>exact⟨trivial,he,acP _,fun p hp=>by simp[eI]at hp,fun x z _ _=>rfl⟩
 | cons b s=>
  have hb:=hy b (by simp);by_cases c:y<b.y0
  ·have e1:eI (b::s) y e=([],min e b.y0):=by simp[eI,c]
   rw[e1];refine⟨trivial,by show y<min e b.y0;omega,by show min e b.y0<=e;omega,fun p hp=>by simp at hp,fun x z h1 h2=>?_⟩;have h2:z<min e b.y0:=h2;rw[show bw ([]:aU)=[] from rfl,show par [] x=false from rfl];refine jS fun t ht=>.inl ?_;rcases adq.1 ht with e | ht
   ·subst e;omega
   have h3:=h.fM t ht;have h4:=h.head.lt;omega
  have e1:eI (b::s) y e=(b.xs,min e b.y1):=by simp[eI,c]
  rw[e1];refine⟨h.head.can,by show y<min e b.y1;omega,by show min e b.y1<=e;omega,fun p hp=>⟨b,by simp,hp⟩,fun x z h1 h2=>?_⟩;have h2:z<min e b.y1:=h2;rw[show b::s=[b]++s from rfl,jR,at_one,acd (by omega:b.y0<=z),acd (by omega:z<b.y1),jS (s:=s) fun t ht=>.inl (by have:=h.fM t ht;omega)];simp
def dI(k:Bool->Bool->Bool):Nat->List an->List an->Int->Int->List an->List an
 | 0,_,_,_,_,out=>out
 | n+1,a,b,y,e,out=>if y<e then dI k n (aq y a) (aq y b) (min (eI (aq y a) y e).2 (eI (aq y b) y e).2) e
   (cA out ⟨y,min (eI (aq y a) y e).2 (eI (aq y b) y e).2,pairUp (eo k (bw (eI (aq y a) y e).1) (bw (eI (aq y b) y e).1))⟩) else out
def cv(K:Int)(s:List an):Prop:=∀b∈s,-K<=b.y0/\b.y1<=K/\∀p∈b.xs,-K<=p.1/\p.2<=K
theorem ga{s:aU}(h:Canon s):∀p∈s,p.1<p.2:=by
 induction s with
 | nil=>intro p hp;cases hp
 | cons a s ih=>
  intro p hp;rcases adq.1 hp with e | hp
  ·subst e;exact h.head
  exact ih h.tail p hp
theorem mw{k:Bool->Bool->Bool}(hk:k false false=false){s t:aU}(hs:Canon s)(ht:Canon t):Canon (pairUp (eo k (bw s) (bw t)))/\(∀x,par (bw (pairUp (eo k (bw s) (bw t)))) x=k (par (bw s) x) (par (bw t) x))/\bw (pairUp (eo k (bw s) (bw t)))=eo k (bw s) (bw t)/\
  ∀K,(∀p∈s,-K<=p.1/\p.2<=K)->(∀p∈t,-K<=p.1/\p.2<=K)->∀p∈pairUp (eo k (bw s) (bw t)),-K<=p.1/\p.2<=K:=by
 obtain⟨h1,h2,h3,h4⟩:=EN hk (nt hs) (nt ht) (by rw[fN];omega) (by rw[fN];omega);have h5:=wN _ h4;refine⟨uh _ h1,fun x=>by rw[h5,h3],h5,fun K g1 g2 p hp=>?_⟩;have all:∀c∈eo k (bw s) (bw t),-K<=c/\c<=K:=fun c hc=>by
  rcases h2 c hc with h | h
  ·obtain⟨q,hq,e⟩:=aep.1 h;have:=g1 q hq;have:=ga hs q hq;omega
  obtain⟨q,hq,e⟩:=aep.1 h;have:=g2 q hq;have:=ga ht q hq;omega
 rw[<-h5]at all;exact⟨(all p.1 (aep.2 ⟨p,hp,.inl rfl⟩)).1,(all p.2 (aep.2 ⟨p,hp,.inr rfl⟩)).2⟩
theorem EO{k:Bool->Bool->Bool}(hk:k false false=false):∀(n:Nat) (a b:List an) (y e:Int) (out:List an),(e-y).toNat<=n->bE a->bE b->bE out->(∀t∈out,t.y1<=y)->(∀t∈a,t.y1<=e)->(∀t∈b,t.y1<=e)->
  bE (dI k n a b y e out)/\(∀x z,at' (dI k n a b y e out) x z=if z<y then at' out x z else k (at' a x z) (at' b x z))/\∀K,cv K a->cv K b->cv K out->-K<=y->e<=K->cv K (dI k n a b y e out):=by
 intro n;have stop:∀(a b:List an) (y e:Int) (out:List an),¬y<e->bE out->(∀t∈out,t.y1<=y)->(∀t∈a,t.y1<=e)->(∀t∈b,t.y1<=e)->∀x z,at' out x z=if z<y then at' out x z else k (at' a x z) (at' b x z):=fun a b y e out hn ho h1 h2 h3 x z=>by
  split
  ·rfl
  rw[jS (s:=out) fun t ht=>.inr (by have:=h1 t ht;omega),jS (s:=a) fun t ht=>.inr (by have:=h2 t ht;omega),jS (s:=b) fun t ht=>.inr (by have:=h3 t ht;omega),hk]
 induction n with
 | zero=>
  intro a b y e out hn ha hb ho h1 h2 h3;exact⟨ho,stop a b y e out (by omega) ho h1 h2 h3,fun K _ _ g _ _=>g⟩
 | succ n ih=>
  intro a b y e out hn ha hb ho h1 h2 h3;rw[dI];split
  ·rename_i eF;obtain⟨a1,a2,a3⟩:=e_ (y:=y) ha;obtain⟨b1,b2,b3⟩:=e_ (y:=y) hb;obtain⟨c1,c2,c3,c4,c5⟩:=iX a1 (fun t ht=>(a2 t ht).2) eF;obtain⟨d1,d2,d3,d4,d5⟩:=iX b1 (fun t ht=>(b2 t ht).2) eF;obtain⟨r1,r2,r3,r4⟩:=mw hk c1 d1;obtain⟨nx,Au⟩:∃nx,nx=min (eI (aq y a) y e).2 (eI (aq y b) y e).2:=⟨_,rfl⟩;rw[<-Au];have n1:y<nx:=by omega
   have n2:nx<=e:=by omega
   obtain⟨p1,p2,p3,p4⟩:=jT (b:=⟨y,nx,pairUp (eo k (bw (eI (aq y a) y e).1) (bw (eI (aq y b) y e).1))⟩) ho n1 r1 h1;obtain⟨i1,i2,i3⟩:=ih (aq y a) (aq y b) nx e _ (by omega) a1 b1 p1 p2 (fun t ht=>h2 t (a2 t ht).1) (fun t ht=>h3 t (b2 t ht).1);refine⟨i1,fun x z=>?_,fun K g1 g2 g3 g4 g5=>?_⟩
   ·rw[i2 x z,p3 x z,at_one];by_cases z1:z<y
    ·rw[aap (by omega),aap z1,aaz (by omega:¬y<=z)];simp
    rw[aaa z1];by_cases z2:z<nx
    ·rw[aap z2,acd (by omega:y<=z),acd z2,r2 x,<-c5 x z (by omega) (by omega),<-d5 x z (by omega) (by omega),a3 x z (by omega),b3 x z (by omega),jS (s:=out) fun t ht=>.inr (by have:=h1 t ht;omega)];simp
    rw[aaa z2,a3 x z (by omega),b3 x z (by omega)]
   refine i3 K (fun t ht=>g1 t (a2 t ht).1) (fun t ht=>g2 t (b2 t ht).1) (fun t ht=>?_) (by omega) g5;have e1:=p2 t ht;have e1:t.y1<=nx:=e1;have rr:=r4 K (fun p hp=>by obtain⟨q,hq,hp⟩:=c4 p hp;exact (g1 q (a2 q hq).1).2.2 p hp) (fun p hp=>by obtain⟨q,hq,hp⟩:=d4 p hp;exact (g2 q (b2 q hq).1).2.2 p hp);rcases p4 t ht with⟨u,hu,x1,x2⟩ | ⟨x1,x2⟩
   ·have:=g3 u hu;rw[<-x1,<-x2];exact⟨this.1,by omega,this.2.2⟩
   rw[x1,x2];exact⟨g4,by omega,rr⟩
  rename_i eF;exact⟨ho,stop a b y e out eF ho h1 h2 h3,fun K _ _ g _ _=>g⟩
end Reg
end Go.Proofs.YtfloceomobknoaaGreatDoor
