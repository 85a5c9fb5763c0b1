/- Part 6 of the proof of RulesNetsMatchSpec. -/
import Derived.Test.YtliffnpbaeijgaaGreatDoorN05
import Derived.Sort.Walk0
import Derived.Test.YtliffnpbaeijgaaGreatDoorCards
import Derived.Test.YtliffnpbaeijgaaGreatDoorTie
import Derived.WalkKit
import Derived.ProofKit
import Derived.OpenShut
import Derived.Deep.DeepHandedRow
import Derived.Lib.LaidTab
import Derived.LaidMore
import Derived.Lay
import Derived.Stop.Joined
import Derived.Stop.LaidErr
import Derived.MakeChecks
import Derived.Deep.Fields
import Derived.Carry
set_option linter.unusedVariables false
set_option linter.unusedSimpArgs false
set_option maxRecDepth 100000
set_option maxHeartbeats 8000000
namespace Go
abbrev kN:=@List.any_append
abbrev Mw:=@Go.Deep.hone_of
abbrev Mx:=@Bool.false_xor
abbrev xc:=@List.getLast?_cons_cons
abbrev xl:=@List.getLast?_eq_none_iff
abbrev uh:=@Bool.false_and
abbrev gM:=@List.pairwise_map
end Go
namespace Go.Proofs.YtliffnpbaeijgaaGreatDoor
namespace M
open Go.AM Go.RowKit Go.Lib
open Reg (aB cw aR)
theorem T9{r:aB}(h:Reg.jq r=true/\r.x0<r.x1/\r.y0<r.y1):Good r:=by
 obtain⟨u,z,D⟩:=h;simp only[Reg.jq,Reg.iZ,aJ,fV]at u;exact⟨⟨by omega,by omega,by omega,by omega⟩,z,D⟩
theorem Gi(l:List aB)(hN:l.length<=400000):(Reg.cH l).length<=1000000/\∀t∈Reg.cH l,t.xs.length<=1000000:=by
 have h1:=sS l (Reg.cr l) ((Reg.cr l).length-1);have h2:=ox l;exact⟨by unfold Reg.cH;omega,fun t u=>by have:=KP l (Reg.cr l) _ t u;omega⟩
theorem kP(l:List aB):ai C 44 [.pv (aE l)] (.p (i64 (Reg.bA l))) []:=by
 refine FP ⟨[],[0],[],[],[(7,[true,true,true,true,true,true,true,false,false,true,true,false,true])],[]⟩ hC Tryz.func44 rfl (by kernel_rfl) fun _=>?_;have N:=an l rc;refine⟨_,_,(yS l),iW ?_ ?_⟩<;>intro z
 ·refine⟨?_,trivial⟩;rw[Reg.bA,aa z]
 have z:Reg.c7 l=0:=by simpa using z
 obtain⟨hl,U⟩:=Reg.vD z;have L:Reg.bA l=(if Reg.ordered l=true then (if Reg.t_ l=l then 0 else 3) else 8):=by rw[Reg.bA,ae z]
 obtain⟨bl,bx⟩:=Gi l (by omega);refine Ak (fun _:Unit=>Reg.ordered l=true) (fun _=>[(0,.p (aE l))]) (fun _=>[]) (fun _ V t h=>?_) ?_
 ·rw[ae V]at L;refine⟨_,_,(Iy l (fun r W=>T9 (U r W)) (by omega)),_,_,(Iq (Reg.cH l) bl bx),?_⟩
  (refine⟨_,_,(Io (Reg.told (Reg.cH l)) l (by
   have:=zP (Reg.cH l) bx;have:(Reg.cH l).length*1000000<=1000000*1000000:=cq _ bl;omega)),?_⟩)
  apply iW<;>intro O
  ·refine⟨?_,trivial⟩;rw[L,aa (show ¬Reg.t_ l=l from O)];rfl
  refine⟨?_,trivial⟩;rw[L,ae (show Reg.t_ l=l from O)];rfl
 refine aP (fun i:Nat=>∀(j:Nat) a b,j<i->l[j]?=some a->l[j+1]?=some b->Reg.before a b=true) (fun i=>[(0,.p (aE l)),(4,.p (i64 ((i:Int)+1)))]) (fun _=>[]) (fun i=>l.length-i) 0 _ (aA.refl _ _) (fun j a b h=>by omega) ⟨Z,Z,Y⟩ trivial fun i hi t h=>?_;apply iW<;>intro R
 ·rw[N]at R;obtain⟨a,D⟩:=ax (l:=l) (i:=i) (by omega);obtain⟨b,hb⟩:=ax (l:=l) (i:=i+1) (by omega);have stop:¬Reg.before a b=true->Reg.bA l=8:=fun hn=>by
   rw[L,aa];rw[DK D hb (by simpa using hn)];decide
  have u:Reg.before a b=true->∀(j:Nat) x y,j<i+1->l[j]?=some x->l[j+1]?=some y->Reg.before x y=true:=fun hy j x y hj I J=>by
   by_cases e:j=i
   ·subst e;rw[D]at I;injection I with I;rw[hb]at J;injection J with J;rw[<-I,<-J];exact hy
   exact hi j x y (by omega) I J
  refine⟨wO (by omega),(rc a),(idx (show ((i:Int)+1)-1=(i:Nat) by omega) D),(rc b),(idx (show ((i:Int)+1)=((i+1:Nat):Int) by omega) hb),iW ?_ ?_⟩<;>intro g1
  ·refine⟨?_,trivial⟩;rw[stop (by simp[Reg.before];omega)];rfl
  apply iW<;>intro g2
  ·apply iW<;>intro g3
   ·refine⟨?_,trivial⟩;rw[stop (by simp[Reg.before];omega)];rfl
   exact⟨wO (by omega),(i+1),_,aA.refl _ _,u (by simp[Reg.before];omega),by omega,⟨rfl,bI (by omega),trivial⟩,trivial⟩
  exact⟨wO (by omega),(i+1),_,aA.refl _ _,u (by simp[Reg.before];omega),by omega,⟨rfl,bI (by omega),trivial⟩,trivial⟩
 rw[N]at R;refine⟨(),F6 fun j a b D hb=>hi j a b ?_ D hb,⟨Z,Y⟩,trivial⟩;have:=(az.1 hb).1;omega
structure Class where
 name:ByteArray
 nets:List ByteArray
 clearance:Int
 width:Int
structure Gj where
 layer:Int
 region:List aB
 clearance:Int
structure u6 where
 clearance:Int
 width:Int
 ring:Int
 edge:Int
 holeGap:Int
 classes:List Class
 areas:List Gj
def kl(c:Class):List PV:=[str c.name,strs c.nets,i64 c.clearance,i64 c.width]
def arr(a:Gj):List PV:=[i64 a.layer,aE a.region,i64 a.clearance]
def rl(r:u6):List PV:=[i64 r.clearance,i64 r.width,i64 r.ring,i64 r.edge,i64 r.holeGap,.sl (r.classes.map kl),.sl (r.areas.map arr)]
def Ri(x y:Int)(r:aB):Bool:=((decide (r.x0<=x)&&decide (x<r.x1))&&decide (r.y0<=y))&&decide (y<r.y1)
theorem Iz(r:aB)(x y:Int):ai C 189 [.pv (.ag (rc r)),.pv (.ip [i64 x,i64 y])] (.p (bool (Ri x y r))) []:=by
 refine fW hC Tryz.func189 rfl (by kernel_rfl) fun _=>?_;apply iW<;>intro u
 ·apply iW<;>intro z
  ·apply iW<;>intro D
   ·refine⟨?_,trivial⟩;simp[bool,Ri,u,z,D]
   refine⟨?_,trivial⟩;simp[bool,Ri,u,z,D]
  refine⟨?_,trivial⟩;simp[bool,Ri,u,z]
 refine⟨?_,trivial⟩;simp[bool,Ri,u]
theorem IA(l:List aB)(hN:l.length<=140737488355328)(x y:Int):ai C 159 [.pv (aE l),.pv (.fn 189 [.ip [i64 x,i64 y]])] (.p (i64 (eM (Ri x y) l 0))) []:=by
 refine fW hC Tryz.func159 rfl (by kernel_rfl) fun _=>?_;have I:=an l rc;refine aP (fun i:Nat=>i<=l.length/\∀z∈l.take i,Ri x y z=false) (fun i=>[(0,.p (aE l)),(1,.p (.fn 189 [.ip [i64 x,i64 y]])),(7,.p (i64 (l.map rc).length)),(8,.p (i64 i))]) (fun _=>[]) (fun i=>l.length-i) 0 _ (aA.refl _ _) ⟨ak _,by simp⟩ ⟨Z,Z,Z,Z,Y⟩ trivial fun i hi t h=>?_;apply iW<;>intro J
 ·rw[I]at J;obtain⟨r,D⟩:=ax (l:=l) (i:=i) (by omega);refine⟨(rc r),(idx rfl D),_,_,(Iz r x y),iW ?_ ?_⟩<;>intro u
  ·refine⟨?_,trivial⟩;rw[hD D u hi.2,fX]
  exact⟨wO (by omega),(i+1),_,aA.refl _ _,⟨by omega,iu D u hi.2⟩,by omega,⟨Z,Z,Z,Z,Y⟩,trivial⟩
 rw[I]at J;refine⟨?_,trivial⟩;have u:=hi.2;rw[kG (by omega)]at u;rw[cT u];rfl
theorem DM(l:List aB)(u:l.length<=140737488355328)(x y:Int):ai C 99 [.pv (aE l),.pv (.fn 189 [.ip [i64 x,i64 y]])] (.p (bool (l.any (Ri x y)))) []:=by
 refine fW hC Tryz.func99 rfl (by kernel_rfl) fun _=>?_;refine⟨_,_,(IA l u x y),?_,trivial⟩;rw[<-eZ _ l 0];rfl
theorem sj(l:List aB)(u:l.length<=140737488355328)(x y:Int):ai C 161 [.pv (aE l),.pv (.ag [i64 x,i64 y])] (.p (bool (l.any (Ri x y)))) []:=by
 refine fW hC Tryz.func161 rfl (by kernel_rfl) fun _=>?_;refine⟨_,_,(DM l u x y),?_,trivial⟩;rfl
def bC:ByteArray:=⟨#[]⟩
def onB(a:Gj)(layer:Int):Bool:=decide (a.layer<0)||decide (a.layer=layer)
def eG(a b:ByteArray):Bool:=Op.bytesLess a.data.toList b.data.toList
theorem rB{a b:ByteArray}:eG a b=true↔a.data.toList<b.data.toList:=by
 unfold eG;rw[Go.Proofs.bytesLess_eq];simp
theorem iH(a:ByteArray):eG a a=false:=by
 rw[cu];intro h;exact List.lt_irrefl _ (rB.1 h)
theorem dK{a b c:ByteArray}(u:eG a b=true)(z:eG b c=true):eG a c=true:=rB.2 (List.lt_trans (rB.1 u) (rB.1 z))
theorem qp{a b:Nat}(h:a+b<4611686018427387904):(IntKind.u64.wrap ((a:Int)+(b:Int))).fdiv (2 ^ min (Int.toNat 1) IntKind.u64.bits)=(((a+b) / 2:Nat):Int):=by
 have u:IntKind.u64.wrap ((a:Int)+(b:Int))=((a+b:Nat):Int):=by simp[IntKind.wrap,IntKind.bits,IntKind.signed];omega
 rw[u];have z:(2:Int) ^ min (Int.toNat 1) IntKind.u64.bits=2:=by decide
 rw[z,Int.fdiv_eq_ediv_of_nonneg _ (by decide)];omega
def bw(f:Nat->Int)(i:Nat):Nat->Int
 | 0=>0
 | n+1=>if f i=0 then bw f (i+1) n else f i
theorem bR{f:Nat->Int}:∀{n i:Nat},(∀k,i<=k->k<i+n->f k=0)->bw f i n=0
 | 0,_,_=>rfl
 | n+1,i,h=>by
  rw[bw,ae (h i (aG _) (by omega))];exact bR fun k h1 h2=>h k (by omega) (by omega)
theorem nT{f:Nat->Int}{m:Nat}(u:f m≠0):∀{n i:Nat},(∀k,i<=k->k<m->f k=0)->i<=m->m<i+n->bw f i n=f m
 | 0,i,_,h1,h2=>by omega
 | n+1,i,h,h1,h2=>by
  rw[bw];by_cases e:i=m
  ·subst e;rw[aa u]
  rw[ae (h i (aG _) (by omega))];exact nT u (fun k h3 z=>h k (by omega) z) (by omega) (by omega)
def cg(l:List ByteArray)(j:Nat):Bool:=match l[j]?,l[j-1]? with
 | some a,some b=>decide (0<j)&&(eG a b||decide (a=b))
 | _,_=>false
def seenIn(cs:List Class)(x:ByteArray):Bool:=cs.any fun c=>hasB c.nets x
def fL(cs:List Class)(i:Nat)(l:List ByteArray)(j:Nat):Int:=match l[j]? with
 | some y=>if si y=true then (if cg l j=true then 8 else if seenIn (cs.take i) y=true then 7 else 0) else 5
 | none=>0
def e_(cs:List Class)(i:Nat):Int:=match cs[i]? with
 | some c=>if gV c.name=true then (if 1000<c.nets.length then 2 else
   if bw (fL cs i c.nets) 0 c.nets.length=0 then
    (if (iG c.clearance&&iG c.width)=true then (if cg (cs.map Class.name) i=true then 8 else 0) else 1)
   else bw (fL cs i c.nets) 0 c.nets.length) else 5
 | none=>0
theorem MD(a b:ByteArray):Dj (.string a) (.string b)=decide (a=b):=rfl
theorem Xb{k:ByteArray}{u:Value}(h:Dj (.string k) u=true):u=.string k:=by
 cases u<;>simp_all [Dj]
theorem ug(v:PV)(k n:ByteArray):∀es:List (Value×PV),gz (iS es (.string k) v) (.string n)=if n=k then some v else gz es (.string n)
 | []=>by
  simp only[iS,gz,MD];by_cases h:n=k<;>simp[h]
 | (k',u)::r=>by
  simp only[iS];cases h:Dj (.string k) k'
  ·simp only[gz,ug v k n r];by_cases e:n=k
   ·subst e;simp[h]
   simp[e]
  have e:=Xb h;subst e;simp only[gz,MD];by_cases e:n=k<;>simp[e]
def bK(s:ByteArray):Prop:=s.size<4294967281
def ME(c:Class):Prop:=bK c.name/\c.nets.length<=1048576/\∀s∈c.nets,bK s
theorem vG(cs:List Class)(hok:∀c∈cs,ME c)(hN:cs.length<=1048576):ai C 73 [.pv (.sl (cs.map kl))] (.p (i64 (if 50<cs.length then 2 else bw (e_ cs) 0 cs.length))) []:=by
 refine fW hC Tryz.func73 rfl (by kernel_rfl) fun _=>?_;have lm:=an cs kl;apply iW<;>intro J
 ·refine⟨?_,trivial⟩;rw[ae (by omega)];rfl
 rw[aa (by omega)];refine aP (fun p:Nat×List (Value×PV)=>p.1<=cs.length/\(∀k,k<p.1->e_ cs k=0)/\∀n,gz p.2 (.string n)=if seenIn (cs.take p.1) n=true then some (bool true) else none) (fun p=>[(0,.p (.sl (cs.map kl))),(3,.ow 13),(14,.p (.sl (cs.map kl))),(15,.p (i64 (cs.map kl).length)),(16,.p (i64 p.1))]) (fun p=>[(13,.map .str p.2)]) (fun p=>cs.length-p.1) (0,[]) _ (aA.refl _ _) ⟨ak _,fun k h=>by omega,fun n=>rfl⟩ ⟨Z,Z,Z,Z,Z,Y⟩ ⟨Z,Y⟩ fun ⟨i,es⟩ hi t h=>?_;obtain⟨q1,q2,q3⟩:=hi;apply iW<;>intro h1<;>try simp only[zB]at h1
 ·obtain⟨c,N⟩:=ax (l:=cs) (i:=i) (by omega);obtain⟨o1,o2,o3⟩:=hok c (aj N);have I:e_ cs i≠0->bw (e_ cs) 0 cs.length=e_ cs i:=fun hb=>nT hb (fun k _ hk=>q2 k hk) (ak _) (by omega);have u:e_ cs i=(if gV c.name=true then (if 1000<c.nets.length then 2 else
  if bw (fL cs i c.nets) 0 c.nets.length=0 then
   (if (iG c.clearance&&iG c.width)=true then (if cg (cs.map Class.name) i=true then 8 else 0) else 1)
  else bw (fL cs i c.nets) 0 c.nets.length) else 5):=by rw[e_,N]
  have lc:=an c.nets fun s=>[str s];refine⟨(kl c),(idx rfl N),_,_,(eN c.name (by have:c.name.size<4294967281:=o1;omega)),iW ?_ ?_⟩<;>intro h2
  ·refine⟨?_,trivial⟩;rw[aa (by simp[h2])]at u;rw[I (by rw[u];decide),u];rfl
  rw[ae (by simpa using h2)]at u;apply iW<;>intro h3
  ·refine⟨?_,trivial⟩;rw[ae (by omega)]at u;rw[I (by rw[u];decide),u];rfl
  rw[aa (by omega)]at u;refine aP (fun j:Nat=>j<=c.nets.length/\∀k,k<j->fL cs i c.nets k=0) (fun j=>[(0,.p (.sl (cs.map kl))),(3,.ow 13),(14,.p (.sl (cs.map kl))),(15,.p (i64 (cs.map kl).length)),(16,.p (i64 i)),(4,.p (i64 i)),(5,.bx 5 0),(30,.p (strs c.nets)),(31,.p (i64 (c.nets.map fun s=>[str s]).length)),(32,.p (i64 j))]) (fun _=>[(5,.box [.p (str c.name),.p (strs c.nets),.p (i64 c.clearance),.p (i64 c.width)]),(13,.map .str es)]) (fun j=>c.nets.length-j) 0 _ (aA.refl _ _) ⟨ak _,fun k h=>by omega⟩ ⟨Z,Z,Z,Z,Z,Z,Z,Z,Z,Z,Y⟩ ⟨Z,Z,Y⟩ fun j hj t h=>?_;obtain⟨p1,p2⟩:=hj;apply iW<;>intro h4
  ·obtain⟨y,L⟩:=ax (l:=c.nets) (i:=j) (by omega);have V:fL cs i c.nets j≠0->bw (e_ cs) 0 cs.length=fL cs i c.nets j:=fun hb=>by
    have e:bw (fL cs i c.nets) 0 c.nets.length=fL cs i c.nets j:=nT hb (fun k _ hk=>p2 k hk) (ak _) (by omega);rw[e,aa hb]at u;rw[I (by rw[u];exact hb),u]
   have D:fL cs i c.nets j=(if si y=true then (if cg c.nets j=true then 8 else if seenIn (cs.take i) y=true then 7 else 0) else 5):=by rw[fL,L]
   refine⟨[str y],(idx rfl L),_,_,(kM y (o3 y (aj L))),iW ?_ ?_⟩<;>intro h5
   ·refine⟨?_,trivial⟩;rw[aa (by simp[h5])]at D;rw[V (by rw[D];decide),D];rfl
   rw[ae (by simpa using h5)]at D;have q:=q3 y;have next:fL cs i c.nets j=0->∀k,k<j+1->fL cs i c.nets k=0:=fun J k hk=>by
    by_cases e:k=j
    ·subst e;exact J
    exact p2 k (by omega)
   apply iW<;>intro h6
   ·obtain⟨z,hz⟩:=ax (l:=c.nets) (i:=j-1) (by omega);have O:cg c.nets j=(eG y z||decide (y=z)):=by
     simp only[cg,L,hz];rw[nq (by omega:0<j)];rfl
    refine⟨wO (by omega),[str z],(idx (show (j:Int)-1=((j-1:Nat):Int) by omega) hz),iW ?_ ?_⟩<;>intro R
    ·refine⟨?_,trivial⟩;have R:(eG y z||decide (y=z))=true:=by simpa [eG] using R
     rw[O,R,ae rfl]at D;rw[V (by rw[D];decide),D];rfl
    have R:(eG y z||decide (y=z))=false:=by simpa [eG] using R
    rw[O,R,aa (by decide)]at D;cases hS:seenIn (cs.take i) y
    ·rw[hS]at q D;exact⟨none,q,wO (by omega),(j+1),_,aA.refl _ _,⟨by omega,next (by simpa using D)⟩,by omega,⟨Z,Z,Z,Z,Z,Z,Z,Z,Z,Z,Y⟩,⟨Z,Z,Y⟩⟩
    rw[hS]at q D;rw[ae rfl]at D;refine⟨(some (bool true)),q,?_,trivial⟩;rw[V (by rw[D];decide),D];rfl
   have J:j=0:=by omega
   have O:cg c.nets j=false:=by
    subst J;simp only[cg,L];rfl
   rw[O,aa (by decide)]at D;cases hS:seenIn (cs.take i) y
   ·rw[hS]at q D;exact⟨none,q,wO (by omega),(j+1),_,aA.refl _ _,⟨by omega,next (by simpa using D)⟩,by omega,⟨Z,Z,Z,Z,Z,Z,Z,Z,Z,Z,Y⟩,⟨Z,Z,Y⟩⟩
   rw[hS]at q D;rw[ae rfl]at D;refine⟨(some (bool true)),q,?_,trivial⟩;rw[V (by rw[D];decide),D];rfl
  have z0:bw (fL cs i c.nets) 0 c.nets.length=0:=bR fun k _ hk=>p2 k (by omega);rw[ae z0]at u;refine aP (fun p:Nat×List (Value×PV)=>p.1<=c.nets.length/\∀n,gz p.2 (.string n)=if (seenIn (cs.take i) n||hasB (c.nets.take p.1) n)=true then some (bool true) else none) (fun p=>[(0,.p (.sl (cs.map kl))),(3,.ow 13),(14,.p (.sl (cs.map kl))),(15,.p (i64 (cs.map kl).length)),(16,.p (i64 i)),(4,.p (i64 i)),(5,.bx 5 0),(60,.p (strs c.nets)),(61,.p (i64 (c.nets.map fun s=>[str s]).length)),(62,.p (i64 p.1))]) (fun p=>[(5,.box [.p (str c.name),.p (strs c.nets),.p (i64 c.clearance),.p (i64 c.width)]),(13,.map .str p.2)]) (fun p=>c.nets.length-p.1) (0,es) _ (aA.refl _ _) ⟨ak _,fun n=>by rw[show hasB (c.nets.take 0) n=false from rfl,wz];exact q3 n⟩ ⟨Z,Z,Z,Z,Z,Z,Z,Z,Z,Z,Y⟩ ⟨Z,Z,Y⟩ fun ⟨j,W⟩ hj t h=>?_;obtain⟨r1,r2⟩:=hj;apply iW<;>intro h9<;>try simp only[zB]at h9
  ·obtain⟨y,L⟩:=ax (l:=c.nets) (i:=j) (by omega);refine⟨[str y],(idx rfl L),wO (by omega),(j+1,iS W (.string y) (bool true)),_,aA.refl _ _,⟨by omega,fun n=>?_⟩,by omega,⟨Z,Z,Z,Z,Z,Z,Z,Z,Z,Z,Y⟩,⟨Z,Z,Y⟩⟩;simp only;rw[ug,bq L];by_cases e:n=y
   ·subst e;rw[ae rfl,ae];simp[hasB]
   rw[aa e,r2 n];have:hasB (c.nets.take j++[y]) n=hasB (c.nets.take j) n:=by
    unfold hasB;rw[kN];rw[show ([y].any fun z=>decide (z=n))=(decide (y=n)||false) from rfl,fJ (fun h:y=n=>e h.symm)];simp
   rw[this]
  have e9:j=c.nets.length:=by simp only at r1;omega
  have s1:∀n,gz W (.string n)=if seenIn (cs.take (i+1)) n=true then some (bool true) else none:=fun n=>by
   rw[r2 n,e9,nu,bq N];have:seenIn (cs.take i++[c]) n=(seenIn (cs.take i) n||hasB c.nets n):=by
    unfold seenIn;rw[kN];simp
   rw[this]
  have bn:∀d,cs[i-1]?=some d->0<i->cg (cs.map Class.name) i=(eG c.name d.name||decide (c.name=d.name)):=fun d hd J=>by
   simp only[cg,aD,N,hd,mZ];rw[nq J];rfl
  have VJ:e_ cs i=0->∀k,k<i+1->e_ cs k=0:=fun J k hk=>by
   by_cases e:k=i
   ·subst e;exact J
   exact q2 k (by simp only;omega)
  refine⟨_,_,(aaM c.clearance),iW ?_ ?_⟩<;>intro g1
  ·refine⟨?_,trivial⟩;rw[aa (by simp[g1])]at u;rw[I (by rw[u];decide),u];rfl
  refine⟨_,_,(aaM c.width),iW ?_ ?_⟩<;>intro g2
  ·refine⟨?_,trivial⟩;rw[aa (by simp[g2])]at u;rw[I (by rw[u];decide),u];rfl
  rw[ae (by simp[g1,g2])]at u;apply iW<;>intro g3
  ·obtain⟨d,hd⟩:=ax (l:=cs) (i:=i-1) (by omega);refine⟨wO (by omega),(kl d),(idx (show (i:Int)-1=((i-1:Nat):Int) by omega) hd),?_⟩;rw[bn d hd (by omega)]at u;apply iW<;>intro U
   ·refine⟨?_,trivial⟩;have U:(eG c.name d.name||decide (c.name=d.name))=true:=by simpa [eG] using U
    rw[U,ae rfl]at u;rw[I (by rw[u];decide),u];rfl
   have U:(eG c.name d.name||decide (c.name=d.name))=false:=by simpa [eG] using U
   rw[U,aa (by decide)]at u;exact⟨wO (by omega),(i+1,W),_,aA.refl _ _,⟨by omega,VJ u,s1⟩,by omega,⟨Z,Z,Z,Z,Z,Y⟩,⟨Z,Y⟩⟩
  have J:i=0:=by omega
  have O:cg (cs.map Class.name) i=false:=by
   subst J;simp only[cg,aD,N];rfl
  rw[O,aa (by decide)]at u;exact⟨wO (by omega),(i+1,W),_,aA.refl _ _,⟨by omega,VJ u,s1⟩,by omega,⟨Z,Z,Z,Z,Z,Y⟩,⟨Z,Y⟩⟩
 have e1:i=cs.length:=by simp only at q1;omega
 refine⟨?_,trivial⟩;rw[bR fun k _ hk=>q2 k (by simp only;omega)];rfl
def i_(al:List Gj)(i:Nat):Int:=match al[i]? with
 | some a=>if (decide (-1<=a.layer)&&decide (a.layer<=15))=true then (if Reg.bA a.region=0 then (if iG a.clearance=true then 0 else 1) else Reg.bA a.region) else 1
 | none=>0
def ja:List Gj->Nat
 | []=>0
 | a::r=>a.region.length+ja r
theorem IB(a b:List Gj):ja (a++b)=ja a+ja b:=by
 induction a with
 | nil=>simp[ja]
 | cons x r ih=>simp[ja,ih];omega
def KV(r:u6):Bool:=iG r.clearance&&iG r.width&&iG r.ring&&iG r.edge&&iG r.holeGap
def jb(cs:List Class):Int:=if 50<cs.length then 2 else bw (e_ cs) 0 cs.length
def vH(al:List Gj):Int:=if 50<al.length then 2 else if bw (i_ al) 0 al.length=0 then (if 2000<ja al then 2 else 0) else bw (i_ al) 0 al.length
def jW(r:u6):Int:=if KV r=true then (if jb r.classes=0 then vH r.areas else jb r.classes) else 1
theorem KW{l:List aB}(h:Reg.bA l=0):l.length<=1000000:=by
 unfold Reg.bA at h;by_cases u:Reg.c7 l=0
 ·have:=(Reg.vD u).1;omega
 rw[aa u]at h;exact absurd h u
def xj(r:u6):Prop:=(∀c∈r.classes,ME c)/\r.classes.length<=1048576/\r.areas.length<=1048576
theorem yU(r:u6)(W:xj r):ai C 31 [.pv (.ag (rl r))] (.p (i64 (jW r))) []:=by
 refine fW hC Tryz.func31 rfl (by kernel_rfl) fun _=>?_;obtain⟨o1,o2,o3⟩:=W;refine⟨_,_,(F9 [r.clearance,r.width,r.ring,r.edge,r.holeGap] (by simp)),?_⟩;have nb:([r.clearance,r.width,r.ring,r.edge,r.holeGap].any fun n=>!iG n)=!KV r:=by
  simp[KV,Bool.not_and,Bool.or_assoc]
 rw[nb];apply iW<;>intro L
 ·refine⟨?_,trivial⟩;rw[jW,aa (by simp[L])];rfl
 rw[jW,ae (by simpa using L)];refine⟨_,_,(vG r.classes o1 o2),iW ?_ ?_⟩<;>intro N
 ·refine⟨?_,trivial⟩;rw[aa (show ¬jb r.classes=0 from by simpa [jb] using N)];rfl
 rw[ae (show jb r.classes=0 from by simpa [jb] using N)];have lm:=an r.areas arr;apply iW<;>intro h2
 ·refine⟨?_,trivial⟩;rw[vH,ae (by omega)];rfl
 rw[vH,aa (by omega)];refine aP (fun i:Nat=>i<=r.areas.length/\(∀k,k<i->i_ r.areas k=0)/\ja (r.areas.take i)<=i*1000000) (fun i=>[(4,.p (i64 (ja (r.areas.take i)))),(31,.p (.sl (r.areas.map arr))),(32,.p (i64 (r.areas.map arr).length)),(33,.p (i64 i))]) (fun _=>[]) (fun i=>r.areas.length-i) 0 _ (aA.refl _ _) ⟨ak _,fun k h=>by omega,by simp[ja]⟩ ⟨Z,Z,Z,Z,Y⟩ trivial fun i hi t h=>?_;obtain⟨q1,I,q3⟩:=hi;apply iW<;>intro h3
 ·obtain⟨a,J⟩:=ax (l:=r.areas) (i:=i) (by omega);have D:i_ r.areas i≠0->bw (i_ r.areas) 0 r.areas.length=i_ r.areas i:=fun hb=>nT hb (fun k _ hk=>I k hk) (ak _) (by omega);have u:i_ r.areas i=(if (decide (-1<=a.layer)&&decide (a.layer<=15))=true then (if Reg.bA a.region=0 then (if iG a.clearance=true then 0 else 1) else Reg.bA a.region) else 1):=by rw[i_,J]
  have la:=an a.region rc;refine⟨(arr a),(idx rfl J),_,_,(wX a.layer (-1) 15),iW ?_ ?_⟩<;>intro O
  ·refine⟨?_,trivial⟩;rw[aa (by simpa using O)]at u;rw[D (by rw[u];decide),u];rfl
  rw[ae (by simpa using O)]at u;refine⟨_,_,(kP a.region),iW ?_ ?_⟩<;>intro z
  ·refine⟨?_,trivial⟩;have z:¬Reg.bA a.region=0:=by simpa using z
   rw[aa z]at u;rw[D (by rw[u];exact z),u,aa z]
  have z:Reg.bA a.region=0:=by simpa using z
  rw[ae z]at u;have hl:=KW z;refine⟨_,_,(aaM a.clearance),iW ?_ ?_⟩<;>intro R
  ·refine⟨?_,trivial⟩;rw[aa (by simp[R])]at u;rw[D (by rw[u];decide),u];rfl
  rw[ae (by simpa using R)]at u;have s1:ja (r.areas.take (i+1))=ja (r.areas.take i)+a.region.length:=by
   rw[bq J,IB];simp[ja]
  refine⟨wO (by omega),wO (by omega),(i+1),_,aA.refl _ _,⟨by omega,fun k hk=>?_,by omega⟩,by omega,⟨bI (by omega),Z,Z,Z,Y⟩,trivial⟩;by_cases e:k=i
  ·subst e;exact u
  exact I k (by omega)
 have e:i=r.areas.length:=by omega
 subst e;have z0:bw (i_ r.areas) 0 r.areas.length=0:=bR fun k _ hk=>I k (by omega);rw[ae z0];have U:r.areas.take r.areas.length=r.areas:=nu;apply iW<;>intro V
 ·refine⟨?_,trivial⟩;rw[U]at V;rw[ae (by omega)];rfl
 refine⟨?_,trivial⟩;rw[U]at V;rw[aa (by omega)];rfl
end M
end Go.Proofs.YtliffnpbaeijgaaGreatDoor
namespace Go.Proofs.YtliffnpbaeijgaaGreatDoor
open Go.ChangeShapes Go.WideShapes Go.ChangeAt Go.RowKit
section
variable {H:Type} {enc:TypeId×Value->H} {P:Program}
theorem DN{f:Func}{s:ChangeSpec}{u O z R:Bool}{W U:World}{args:Array Value}{v:Value}{ds V:List (DataW H)}{before pa pv:List MemPlace}
  (Z:DataW.Whole enc P f.params.toList s.vars u W args.toList ds V before)
  (L:∀(b:Nat) (sp:Nat->Bool) (hd:Bool),DataW.TrodAll enc P U b sp hd f.resultTypes.toList (v.resultList f.resultTypes.size) (s.fn H (ds++V)).results [])
  (D:∀sp:Nat->Bool,(∀p∈before,sp p.block=true)->DataW.TrodAll enc P U 0 sp true f.params.toList args.toList (s.fn H (ds++V)).args pa)
  (I:∀sp:Nat->Bool,(∀p∈before,sp p.block=true)->DataW.TrodVars enc P U sp s.vars (s.fn H (ds++V)).vars pv)
  (J:before=pa++pv) (hb:Below W.heap.size W U)
  (hok:∀(j:Nat) (t:TypeId) (r:Value),f.resultTypes[j]?=some t->(v.resultList f.resultTypes.size)[j]?=some r->Value.okWide P U .any 0 t r):
  s.post enc P f u O z R W args v U:=by
 have eX:∀p∈before,p.block<W.heap.size:=fun p hp=>Z.lt p hp;have N:∀p∈before,(fun b=>decide (b<W.heap.size)) p.block=true:=fun p hp=>by simpa using eX p hp
 refine⟨ds,V,before,[],pa,pv,Z,L _ _ _,D _ N,I _ N,World.keptBut_mono (fun p hp=>⟨hp,?_⟩) (hb.frame (·∈before)),fun _=>?_⟩
 ·rw[J,fC]at hp;exact Or.inr hp
 obtain⟨_,_,_,_,_,hz,hn⟩:=Z;refine⟨hok,_,_,([]++pa)++pv,⟨[]++pa,pv,trodAll_append (D _ (fun _ _=>rfl)) (L _ _ _),I _ (fun _ _=>rfl),rfl,?_,?_⟩,?_⟩
 ·intro b Y hp;have nQ:MemPlace.cell b Y∈before:=by rw[J];simpa using hp
  rw[hb.frozen (eX _ nQ)];exact hz b Y nQ
 ·intro ha;have:=hn ha;rw[J]at this;simpa using this
 intro p hp _;rw[J];simpa using hp
theorem Am{C:Checked}{os:Os}{f:FuncId}{fn:Func}{s:OpenSpec}{u:List PathCond}{z:Bool}{laid:List (String×DataW Unit)}(w0:World)(args:Array Value)(I:w0.os=os)
  (J:(w0.forCall (fun _ _=>0) ⟨#[],args,[]⟩).Shaped C.prog)
  (D:Input.okWideB C.prog (w0.forCall (fun _ _=>0) ⟨#[],args,[]⟩) f ⟨#[],args,[]⟩=true)
  (aw:s.preRow enc C.prog fn u z laid (w0.forCall (fun _ _=>0) ⟨#[],args,[]⟩).memory args):
  ∃(w:World) (tape:Tape) (i:Input),w.os=os/\(w.forCall tape i).Shaped C.prog/\i.vars=[]/\Input.okWide C.prog (w.forCall tape i) .any w.heap.size f i /\
   s.preRow enc C.prog fn u z laid (w.forCall tape i).memory i.args/\({}:Assume).holds C.prog (lone (Frame.enter C.prog f i.args .normal) [] (w.forCall tape i)):=
 ⟨w0,fun _ _=>0,⟨#[],args,[]⟩,I,J,(Input.okWide_of_okWideB (base:=0) D).1,(Input.okWide_of_okWideB D).2,aw,by
  simp only[Assume.holds];exact⟨by simp,by simp,fun _=>Modest.zero,by simp,by simp⟩⟩
end
theorem own:ownKnob Tryz.prog.godebug=none:=by kernel_rfl
variable {H:Type}
theorem Rj(d:DataW H):1<=Rows.uptoBulk d:=by
 cases d with
 | lit l=>cases l<;>simp[Rows.uptoBulk]
 | nil=>simp[Rows.uptoBulk]
 | ptr d=>simp[Rows.uptoBulk]
 | slice elems spare=>simp[Rows.uptoBulk]
 | agg parts=>simp[Rows.uptoBulk]
 | iface t d=>simp[Rows.uptoBulk]
 | map entries=>simp[Rows.uptoBulk]
 | held h=>simp[Rows.uptoBulk]
theorem EB{d:DataW H}{l:List (DataW H)}(h:d∈l):Rows.uptoBulk d<=Rows.uptoBulkAll l:=by
 induction l with
 | nil=>cases h
 | cons x r ih=>
  simp only[Rows.uptoBulkAll];cases L8.1 h with
  | inl e=>subst e;omega
  | inr e=>have:=ih e;omega
theorem IC{H:Type}(bytes:List UInt8):Rows.uptoBulk (DataW.lit (H:=H) (.string bytes))=bytes.length+1:=by
 simp[Rows.uptoBulk]
theorem KX{l:List (DataW H)}(hk:Rows.uptoSmall H l=true):Rows.uptoBulkAll l<=1048576:=iY hk
end Go.Proofs.YtliffnpbaeijgaaGreatDoor
namespace Go.Proofs.YtliffnpbaeijgaaGreatDoor
namespace M
open Go.AM Go.RowKit Go.Lib
open Reg (aB cw aR)
variable {H:Type} {enc:TypeId×Value->H} {w:World} {S:Nat->Prop}
theorem ID:Mz enc Tryz.prog w S 3 1 fun xs d=>∃n:Int,xs=[i64 n]/\d=.lit (.int .i64 n):=T2 FR
theorem ZS:Mz enc Tryz.prog w S 9 1 fun xs d=>∃s:ByteArray,xs=[str s]/\d=.lit (.string s.data.toList):=T3 tW
theorem Rk:Mz enc Tryz.prog w S 90 4 fun xs _=>∃r:aB,xs=rc r:=fun n cs x h=>by
 obtain⟨xs,l1,l2,D,ds,e,z,q⟩:=oy (S:=S) (Qs:=fun _ xs d=>∃n:Int,xs=[i64 n]/\d=.lit (.int .i64 n)) Tryz.underlying90 (Mw (by kernel_rfl)) (by kernel_rfl) (fun i f u=>by
  match i,u with
  | 0,u=>cases u;exact ID
  | 1,u=>cases u;exact ID
  | 2,u=>cases u;exact ID
  | 3,u=>cases u;exact ID
  | n+4,u=>cases u) _ _ _ h
 have l1:xs.length=4:=l1;have z:ds.length=4:=z;obtain⟨a,b,c,d,rfl⟩:∃a b c d,xs=[a,b,c,d]:=by
  match xs,l1 with
  | [a,b,c,d],_=>exact⟨a,b,c,d,rfl⟩
 obtain⟨a',b',c',d',rfl⟩:∃a b c d,ds=[a,b,c,d]:=by
  match ds,z with
  | [a,b,c,d],_=>exact⟨a,b,c,d,rfl⟩
 obtain⟨I,J,_⟩:=q 0 _ _ rfl rfl;obtain⟨L,e1,_⟩:=q 1 _ _ rfl rfl;obtain⟨N,e2,_⟩:=q 2 _ _ rfl rfl;obtain⟨O,R,_⟩:=q 3 _ _ rfl rfl;cases J;cases e1;cases e2;cases R;exact⟨_,rfl,l2,D,⟨I,L,N,O⟩,rfl⟩
abbrev Sp(enc:TypeId×Value->H)(w:World)(S:Nat->Prop)(t:TypeId)(k:Nat){γ:Type}(f:γ->List PV)(B:γ->Nat->Prop):Prop:=Mz enc Tryz.prog w S t k fun xs d=>∃r,xs=f r/\B r (Rows.uptoBulk d)
theorem An:Sp enc w S 3 1 (fun n=>[i64 n]) fun _ _=>True:=fun n cs x h=>by
 obtain⟨xs,l1,l2,u,z,e,_⟩:=ID (S:=S) n cs x h;exact⟨xs,l1,l2,u,z,e,trivial⟩
theorem Xc:Sp enc w S 9 1 (fun s=>[str s]) fun s n=>s.size<=n:=fun n cs x h=>by
 obtain⟨xs,l1,l2,u,z,e,d⟩:=ZS (S:=S) n cs x h;refine⟨xs,l1,l2,u,z,e,?_⟩;rw[d,IC];have:z.data.toList.length=z.size:=by simp
 omega
theorem Gk{α γ:Type}{f:γ->α}{B:γ->Nat->Prop}(u:∀r m n,m<=n->B r m->B r n):∀{es:List α} {ds:List (DataW H)},es.length=ds.length->(∀(i:Nat) x y,es[i]?=some x->ds[i]?=some y->∃r,x=f r/\B r (Rows.uptoBulk y))->∃l:List γ,es=l.map f/\l.length<=Rows.uptoBulkAll ds/\∀r∈l,B r (Rows.uptoBulkAll ds)
 | [],_,_,_=>⟨[],rfl,ak _,fun r h=>by cases h⟩
 | x::es,[],hl,_=>by cases hl
 | x::es,y::ds,hl,h=>by
  obtain⟨r,rfl,I⟩:=h 0 x y rfl rfl;obtain⟨l,rfl,D,z⟩:=Gk u (es:=es) (ds:=ds) (by simpa using hl) (fun i a b D z=>h (i+1) a b (by simpa using D) (by simpa using z));have e:Rows.uptoBulkAll (y::ds)=Rows.uptoBulk y+Rows.uptoBulkAll ds:=by simp only[Rows.uptoBulkAll]
  have b1:=Rj y;refine⟨r::l,rfl,by rw[bN];omega,fun q J=>?_⟩;rcases L8.1 J with h | h
  ·subst h;exact u _ _ _ (by omega) I
  exact u _ _ _ (by omega) (z q h)
theorem sV{t e:TypeId}{k:Nat}{γ:Type}{f:γ->List PV}{B:γ->Nat->Prop}(D:Tryz.prog.underlying t=some (.slice e))(I:Tryz.prog.cellsOf e=k)(hk:0<k)(hS:∀b,b<w.heap.size->S b)(u:∀r m n,m<=n->B r m->B r n)(J:Sp enc w S e k f B):
  Sp enc w S t 1 (fun l:List γ=>[.sl (l.map f)]) fun l n=>l.length<=n/\∀r∈l,B r n:=fun n cs x h=>by
 obtain⟨xs,l1,l2,L,es,ds,sp,rfl,hl,N,q⟩:=Ou D I hk hS J _ _ _ h;obtain⟨l,rfl,b1,O⟩:=Gk u hl q;have hb:Rows.uptoBulkAll ds<=Rows.uptoBulk x.1:=by
  rcases N with⟨z,R⟩ | z
  ·rw[R];exact ak _
  rw[z];simp only[Rows.uptoBulk];omega
 exact⟨_,l1,l2,L,l,rfl,by omega,fun r U=>u _ _ _ hb (O r U)⟩
theorem bE{ds:List (DataW H)}{i:Nat}{y:DataW H}(h:ds[i]?=some y):Rows.uptoBulk y<=Rows.uptoBulk (.agg ds):=by
 have:=EB (aj h);simp only[Rows.uptoBulk];omega
theorem MF:Sp enc w S 90 4 rc fun _ _=>True:=fun n cs x h=>by
 obtain⟨xs,l1,l2,u,r,e⟩:=Rk (S:=S) n cs x h;exact⟨xs,l1,l2,u,r,e,trivial⟩
theorem Rl(hS:∀b,b<w.heap.size->S b):Sp enc w S 28 1 (fun l=>[aE l]) fun l n=>l.length<=n/\∀r∈l,True:=sV (k:=4) Tryz.underlying28 (by kernel_rfl) (by decide) hS (fun _ _ _ _ h=>h) MF
theorem Ro:Sp enc w S 85 2 (fun p:Int×Int=>[i64 p.1,i64 p.2]) fun _ _=>True:=fun n cs x h=>by
 obtain⟨xs,l1,l2,D,ds,e,z,q⟩:=oy (S:=S) (Qs:=fun i xs d=>∃r,xs=[i64 r]/\True) Tryz.underlying85 (Mw (by kernel_rfl)) (by kernel_rfl) (fun i f u=>by
  match i,u with
  | 0,u=>cases u;exact An
  | 1,u=>cases u;exact An
  | n+2,u=>cases u) _ _ _ h
 have l1:xs.length=2:=l1;have z:ds.length=2:=z;obtain⟨a,b,rfl⟩:∃a b,xs=[a,b]:=by
  match xs,l1 with
  | [a,b],_=>exact⟨a,b,rfl⟩
 obtain⟨a',b',rfl⟩:∃a b,ds=[a,b]:=by
  match ds,z with
  | [a,b],_=>exact⟨a,b,rfl⟩
 obtain⟨I,J,_⟩:=q 0 _ _ rfl rfl;obtain⟨L,e1,_⟩:=q 1 _ _ rfl rfl;cases J;cases e1;exact⟨_,rfl,l2,D,(I,L),Z,Y⟩
theorem Uc{d:DataW H}{l:List (DataW H)}(hk:Rows.uptoSmall H l=true)(h:d∈l):Rows.uptoBulk d<=1048576:=aS (EB h) (KX hk)
theorem EC{P:Program}(hl:laidOutB P=true){W D:World}(hb:Below W.heap.size W D):∀{z:List TypeId} {vs:List Value} {ds:List (DataW H)} {ps:List MemPlace},(z.all fun t=>P.readableRec t&&decide (t<P.types.size))=true->DataW.TrodAll enc P W 0 (fun _=>true) true z vs ds ps->(∀p∈ps,p.block<W.heap.size)->∀sp:Nat->Bool,(∀p∈ps,sp p.block=true)->DataW.TrodAll enc P D 0 sp true z vs ds ps
 | [],[],[],_,_,h,_,_,_=>h
 | t::z,v::vs,d::ds,ps,ht,h,I,sp,J=>by
  obtain⟨p,q,L,N,rfl⟩:=h;simp only[vZ,aJ,fV]at ht;have O:(z.all fun t=>P.readableRec t&&decide (t<P.types.size))=true:=by simpa using ht.2
  exact⟨p,q,Go.WideElems.Trod_stays hl ht.1.1 ht.1.2 L (fun x u=>hb.same (I x (q_ _ u))) (fun x u=>J x (q_ _ u)),
   EC hl hb O N (fun x u=>I x (tJ _ u)) sp (fun x u=>J x (tJ _ u)),rfl⟩
 | [],_::_,_,_,_,h,_,_,_=>h.elim
 | [],[],_::_,_,_,h,_,_,_=>h.elim
 | _::_,[],_,_,_,h,_,_,_=>h.elim
 | _::_,_::_,[],_,_,h,_,_,_=>h.elim
theorem IE {W : World} (h1 : ∃ m : Int, W.cell? ⟨0, 0, none⟩ = some (.int .i64 m)) (h2 : Lib.TabIs Tryz.prog W "internal/strconv.uint64pow10" .u64 Lib.pow10Tab) : Env (fun b => b < W.heap.size) W := by
 refine⟨?_,block_lt_of_cell (h2.cell W4 0 (by decide)),h1,h2⟩;obtain⟨m,hm⟩:=h1;exact block_lt_of_cell hm
theorem ZT:laidOutB Tryz.prog=true:=by kernel_rfl
theorem Xd{s:ByteArray}(h:s.size<=1048576):bK s:=Nat.lt_of_le_of_lt h (by decide)
end M
namespace Reg
def par:List Int->Int->Bool
 | [],_=>false
 | c::a,x=>Bool.xor (decide (c<=x)) (par a x)
theorem rM{a:List Int}{x:Int}(h:∀c∈a,x<c):par a x=false:=by
 induction a with
 | nil=>rfl
 | cons c a ih=>
  have h1:=h c (by simp);rw[par,ih (fun d u=>h d (by simp[u])),fJ (by omega)];rfl
theorem za{a:List Int}{x:Int}(h:∀c∈a,c<=x):par a x=decide (a.length % 2=1):=by
 induction a with
 | nil=>rfl
 | cons c a ih=>
  have u:=h c (by simp);rw[par,ih (fun d z=>h d (by simp[z])),nq u,bN];rcases Nat.mod_two_eq_zero_or_one a.length with e | e
  ·rw[fJ (by omega),nq (by omega)];rfl
  rw[nq (by omega),fJ (by omega)];rfl
theorem ct.tail{c:Int}{a:List Int}(h:ct (c::a)):ct a:=(pw.1 h).2
theorem ct.behind{c:Int}{a:List Int}(h:ct (c::a)):∀d∈a,c<d:=(pw.1 h).1
def pG:List Int->List Int->Option Int
 | [],[]=>none
 | p::_,[]=>some p
 | [],q::_=>some q
 | p::_,q::_=>some (if p<=q then p else q)
def kg(x:Int):List Int->Bool->List Int×Bool
 | [],s=>([],s)
 | p::r,s=>if p=x then (r,!s) else (p::r,s)
theorem EH{x:Int}{a:List Int}{s:Bool}(u:ct a)(I:∀c∈a,x<=c):ct (kg x a s).1/\(∀c∈(kg x a s).1,x<c/\c∈a)/\(∀y,x<=y->Bool.xor (kg x a s).2 (par (kg x a s).1 y)=Bool.xor s (par a y))/\(kg x a s).1.length<=a.length/\(a.head?=some x->(kg x a s).1.length+1=a.length):=by
 cases a with
 | nil=>exact⟨u,fun c h=>by simp[kg]at h,fun y _=>rfl,aG _,fun h=>by cases h⟩
 | cons p r=>
  by_cases e:p=x
  ·subst e;have e1:kg p (p::r) s=(r,!s):=by simp[kg]
   rw[e1];refine⟨u.tail,fun c z=>⟨u.behind c z,by simp[z]⟩,fun y D=>?_,by simp,fun _=>rfl⟩;rw[par,nq D];cases s<;>cases par r y<;>rfl
  have e1:kg x (p::r) s=(p::r,s):=by simp[kg,e]
  rw[e1];refine⟨u,fun c z=>⟨?_,z⟩,fun y D=>rfl,aG _,fun h=>absurd (by simpa using h) e⟩;have h1:=I p (by simp);rcases L8.1 z with h | h
  ·omega
  have:=u.behind c h;omega
def iv(k:Bool->Bool->Bool):Nat->List Int->List Int->Bool->Bool->Bool->List Int
 | 0,_,_,_,_,_=>[]
 | n+1,a,b,ia,ib,is=>match pG a b with
  | none=>[]
  | some x=>if k (kg x a ia).2 (kg x b ib).2=is then iv k n (kg x a ia).1 (kg x b ib).1 (kg x a ia).2 (kg x b ib).2 is
   else x::iv k n (kg x a ia).1 (kg x b ib).1 (kg x a ia).2 (kg x b ib).2 (k (kg x a ia).2 (kg x b ib).2)
def kh(k:Bool->Bool->Bool)(a b:List Int):List Int:=iv k (a.length+b.length) a b false false false
theorem Le{a b:List Int}(z:ct a)(hb:ct b):match pG a b with
  | none=>a=[]/\b=[]
  | some x=>(∀c∈a,x<=c)/\(∀c∈b,x<=c)/\(a.head?=some x\/b.head?=some x):=by
 cases a with
 | nil=>
  cases b with
  | nil=>exact⟨rfl,rfl⟩
  | cons q u=>
   show (∀c∈([]:List Int),q<=c)/\(∀c∈q::u,q<=c)/\(([]:List Int).head?=some q\/(q::u).head?=some q);refine⟨fun c h=>(by cases h),fun c h=>?_,.inr rfl⟩;rcases L8.1 h with h | h
   ·omega
   have:=hb.behind c h;omega
 | cons p r=>
  cases b with
  | nil=>
   show (∀c∈p::r,p<=c)/\(∀c∈([]:List Int),p<=c)/\((p::r).head?=some p\/([]:List Int).head?=some p);refine⟨fun c h=>?_,fun c h=>(by cases h),.inl rfl⟩;rcases L8.1 h with h | h
   ·omega
   have:=z.behind c h;omega
  | cons q u=>
   have D:∀c∈p::r,p<=c:=fun c h=>by
    rcases L8.1 h with h | h
    ·omega
    have:=z.behind c h;omega
   have I:∀c∈q::u,q<=c:=fun c h=>by
    rcases L8.1 h with h | h
    ·omega
    have:=hb.behind c h;omega
   by_cases e:p<=q
   ·simp only[pG,ae e];exact⟨D,fun c h=>by have:=I c h;omega,.inl rfl⟩
   simp only[pG,aa e];exact⟨fun c h=>by have:=D c h;omega,I,.inr rfl⟩
theorem Lf(k:Bool->Bool->Bool):∀(n:Nat) (a b:List Int) (u z is:Bool),a.length+b.length<=n->ct a->ct b->is=k u z ->
  ct (iv k n a b u z is)/\(∀c∈iv k n a b u z is,c∈a\/c∈b)/\(∀y,Bool.xor is (par (iv k n a b u z is) y)=k (Bool.xor u (par a y)) (Bool.xor z (par b y))):=by
 intro n
 induction n with
 | zero=>
  intro a b u z is hn _ _ L;have ea:a=[]:=Az (by omega);have eb:b=[]:=Az (by omega);subst ea eb;exact⟨List.Pairwise.nil,fun c h=>by simp[iv]at h,fun y=>by simp[iv,par,L]⟩
 | succ n ih=>
  intro a b u z is hn W hb L;have N:=Le W hb;unfold iv;cases hc:pG a b with
  | none=>
   rw[hc]at N;obtain⟨rfl,rfl⟩:=N;exact⟨List.Pairwise.nil,fun c h=>by simp at h,fun y=>by simp[par,L]⟩
  | some x=>
   rw[hc]at N;obtain⟨Y,Z,xh⟩:=N;obtain⟨a1,O,a3,a4,a5⟩:=EH (s:=u) W Y;obtain⟨b1,R,b3,b4,b5⟩:=EH (s:=z) hb Z;have Fu:(kg x a u).1.length+(kg x b z).1.length<=n:=by
    rcases xh with h | h
    ·have:=a5 h;omega
    have:=b5 h;omega
   simp only;have D:∀y,y<x->k (Bool.xor u (par a y)) (Bool.xor z (par b y))=is:=fun y I=>by
    rw[rM (fun c h=>by have:=Y c h;omega),rM (fun c h=>by have:=Z c h;omega),L];simp
   split
   ·rename_i hk;obtain⟨U,J,V⟩:=ih _ _ _ _ is Fu a1 b1 hk.symm;refine⟨U,fun c h=>?_,fun y=>?_⟩
    ·rcases J c h with h | h
     ·exact .inl (O c h).2
     exact .inr (R c h).2
    by_cases I:x<=y
    ·rw[V y,a3 y I,b3 y I]
    rw[D y (by omega),rM (fun c h=>by
     rcases J c h with h | h
     ·have:=(O c h).1;omega
     have:=(R c h).1;omega)]
    simp
   rename_i hk;obtain⟨U,J,V⟩:=ih _ _ _ _ (k (kg x a u).2 (kg x b z).2) Fu a1 b1 rfl;have up:∀c∈iv k n (kg x a u).1 (kg x b z).1 (kg x a u).2 (kg x b z).2 (k (kg x a u).2 (kg x b z).2),x<c:=fun c h=>by
    rcases J c h with h | h
    ·exact (O c h).1
    exact (R c h).1
   refine⟨pw.2 ⟨up,U⟩,fun c h=>?_,fun y=>?_⟩
   ·rcases L8.1 h with h | h
    ·subst h;rcases xh with h | h
     ·exact .inl (List.mem_of_mem_head? (by rw[h];rfl))
     exact .inr (List.mem_of_mem_head? (by rw[h];rfl))
    rcases J c h with h | h
    ·exact .inl (O c h).2
    exact .inr (R c h).2
   by_cases I:x<=y
   ·rw[<-a3 y I,<-b3 y I,<-V y,par,nq I];revert hk;cases k (kg x a u).2 (kg x b z).2<;>cases is<;>simp
   rw[D y (by omega),rM (fun c h=>by
    rcases L8.1 h with h | h
    ·omega
    have:=up c h;omega)]
   simp
theorem IW{k:Bool->Bool->Bool}(hk:k false false=false){a b:List Int}(J:ct a)(hb:ct b)(L:a.length % 2=0)(N:b.length % 2=0):
  ct (kh k a b)/\(∀c∈kh k a b,c∈a\/c∈b)/\(∀y,par (kh k a b) y=k (par a y) (par b y))/\(kh k a b).length % 2=0:=by
 obtain⟨O,z,R⟩:=Lf k _ a b false false false (aG _) J hb hk.symm;have D:∀y,par (kh k a b) y=k (par a y) (par b y):=fun y=>by have:=R y;rw[Mx,Mx,Mx]at this;exact this
 refine⟨O,z,D,?_⟩;obtain⟨m,u⟩:∃m:Int,(∀c∈a,c<=m)/\∀c∈b,c<=m:=by
  have up:∀l:List Int,∃m:Int,∀c∈l,c<=m:=fun l=>by
   induction l with
   | nil=>exact⟨0,fun c h=>by cases h⟩
   | cons c l ih=>
    obtain⟨m,u⟩:=ih;refine⟨max m c,fun d U=>?_⟩;rcases L8.1 U with h | h
    ·omega
    have:=u d h;omega
  obtain⟨V,W⟩:=up a;obtain⟨Y,Z⟩:=up b;exact⟨max V Y,fun c h=>by have:=W c h;omega,fun c h=>by have:=Z c h;omega⟩
 have I:=D m;rw[za u.1,za u.2,za (a:=kh k a b) (fun c h=>(z c h).elim (u.1 c) (u.2 c)),L,N]at I;simp[hk]at I;omega
def cm:cw->List Int
 | []=>[]
 | p::s=>p.1::p.2::cm s
def pairUp:List Int->cw
 | p::q::r=>(p,q)::pairUp r
 | _=>[]
theorem s6:∀l:List Int,l.length % 2=0->cm (pairUp l)=l
 | [],_=>rfl
 | [_],h=>by simp at h
 | p::q::r,h=>by
  rw[pairUp,cm,s6 r (by simp at h ⊢;omega)]
theorem pH(s:cw):(cm s).length=2*s.length:=by
 induction s with
 | nil=>rfl
 | cons p s ih=>simp only[cm,bN,ih];omega
theorem abB{s:cw}{c:Int}:c∈cm s↔∃p∈s,c=p.1\/c=p.2:=by
 induction s with
 | nil=>simp[cm]
 | cons p s ih=>
  simp only[cm,L8,ih];constructor
  ·rintro (h | h | ⟨q,u,h⟩)
   ·exact⟨p,.inl rfl,.inl h⟩
   ·exact⟨p,.inl rfl,.inr h⟩
   exact⟨q,.inr u,h⟩
  rintro⟨q,rfl | u,h⟩
  ·rcases h with h | h
   ·exact .inl h
   exact .inr (.inl h)
  exact .inr (.inr ⟨q,u,h⟩)
theorem pI{s:cw}(h:Canon s):ct (cm s):=by
 induction s with
 | nil=>exact List.Pairwise.nil
 | cons p s ih=>
  have L:=h.head;have I:=h.behind;have J:∀d∈cm s,p.2<d:=fun d z=>by
   obtain⟨q,u,e⟩:=abB.1 z;have N:=I q u;have h4:q.1<q.2:=by
    clear ih e L I N z;have:=h.tail;clear h
    induction s with
    | nil=>cases u
    | cons a s D=>
     rcases L8.1 u with rfl | u
     ·exact this.head
     exact D u this.tail
   omega
  refine pw.2 ⟨fun d z=>?_,pw.2 ⟨J,ih h.tail⟩⟩;rcases L8.1 z with h | h
  ·omega
  have:=J d h;omega
theorem rN:∀l:List Int,ct l->Canon (pairUp l)
 | [],_=>trivial
 | [_],_=>trivial
 | p::q::r,h=>by
  have z:=h.behind q (by simp);have D:=h.tail.behind;refine Canon.cons z (fun t u=>?_) (rN r h.tail.tail);have:∀(l:List Int) (t:Int×Int),t∈pairUp l->t.1∈l:=fun l=>by
   induction l using pairUp.induct with
   | case1 a b l ih=>
    intro t u;rw[pairUp,L8]at u;rcases u with h | h
    ·subst h;simp
    have:=ih t h;simp[this]
   | case2 l hl=>intro t u;rw[pairUp]at u;cases u;exact hl
  exact D _ (this r t u)
theorem dL{s:cw}(h:Canon s)(x:Int):par (cm s) x=true↔cover s x:=by
 induction s with
 | nil=>simp[cm,par,gX]
 | cons p s ih=>
  have h1:=h.head;rw[cm,par,par,bQ,<-ih h.tail];by_cases e1:p.1<=x
  ·by_cases e2:p.2<=x
   ·rw[nq e1,nq e2];simp;omega
   have u:par (cm s) x=false:=by
    rw[cu];intro hp;exact h.lH (x:=x) (by omega) ((ih h.tail).1 hp)
   rw[u,nq e1,fJ e2];simp;omega
  have u:par (cm s) x=false:=by
   rw[cu];intro hp;exact h.lH (x:=x) (by omega) ((ih h.tail).1 hp)
  rw[u,fJ e1,fJ (by omega)];simp;omega
def at'(s:List aR)(x y:Int):Bool:=s.any fun b=>decide (b.y0<=y)&&decide (y<b.y1)&&par (cm b.xs) x
variable {s:List aR}
theorem zb{x y:Int}:at' s x y=true↔∃b∈s,b.y0<=y/\y<b.y1/\par (cm b.xs) x=true:=by
 simp[at',wy,and_assoc]
theorem lK(s t:List aR)(x y:Int):at' (s++t) x y=(at' s x y||at' t x y):=by simp[at',kN]
theorem at_one(b:aR)(x y:Int):at' [b] x y=(decide (b.y0<=y)&&decide (y<b.y1)&&par (cm b.xs) x):=by simp[at']
theorem lM{x y:Int}(h:∀b∈s,y<b.y0\/b.y1<=y):at' s x y=false:=by
 rw[cu];intro hp;obtain⟨b,hb,h1,h2,_⟩:=zb.1 hp;rcases h b hb with h | h<;>omega
structure Lg(b:aR):Prop where
 lt:b.y0<b.y1
 ne:b.xs≠[]
 can:Canon b.xs
def dF:List aR->Prop
 | []=>True
 | [b]=>Lg b
 | b::c::r=>Lg b/\b.y1<=c.y0/\(b.y1=c.y0->b.xs≠c.xs)/\dF (c::r)
theorem dF.head{b:aR}(h:dF (b::s)):Lg b:=by
 cases s with
 | nil=>exact h
 | cons c r=>exact h.1
theorem dF.tail{b:aR}(h:dF (b::s)):dF s:=by
 cases s with
 | nil=>trivial
 | cons c r=>exact h.2.2.2
theorem dF.j_{b:aR}(h:dF (b::s)):∀t∈s,b.y1<=t.y0:=by
 induction s generalizing b with
 | nil=>intro t u;cases u
 | cons c r ih=>
  intro t u;rcases L8.1 u with e | u
  ·subst e;exact h.2.1
  have h1:=ih h.tail t u;have h2:=h.tail.head.lt;have h3:=h.2.1;omega
theorem dF.mem(h:dF s):∀b∈s,Lg b:=by
 induction s with
 | nil=>intro b hb;cases hb
 | cons c r ih=>
  intro b hb;rcases L8.1 hb with e | hb
  ·subst e;exact h.head
  exact ih h.tail b hb
theorem Cs{b:aR}(h:dF s)(hb:Lg b)(D:∀t∈s,t.y1<=b.y0)(hl:∀t,s.getLast?=some t->t.y1=b.y0->t.xs≠b.xs):dF (s++[b]):=by
 induction s with
 | nil=>exact hb
 | cons c r ih=>
  cases r with
  | nil=>exact⟨h.head,D c (by simp),hl c rfl,hb⟩
  | cons d u=>
   have:=ih h.tail (fun t z=>D t (by simp[z])) (fun t z=>hl t (by rw[xc];exact z));exact⟨h.1,h.2.1,h.2.2.1,this⟩
theorem RE{b:aR}(h:dF (s++[b])):dF s/\Lg b/\(∀t∈s,t.y1<=b.y0)/\(∀t,s.getLast?=some t->t.y1=b.y0->t.xs≠b.xs):=by
 induction s with
 | nil=>exact⟨trivial,h,fun t z=>(by cases z),fun t z=>(by cases z)⟩
 | cons c r ih=>
  cases r with
  | nil=>
   refine⟨h.head,h.2.2.2,fun t z=>?_,fun t z=>?_⟩
   ·rw[Fp]at z;subst z;exact h.2.1
   simp at z;subst z;exact h.2.2.1
  | cons d u=>
   obtain⟨D,I,J,L⟩:=ih h.tail;refine⟨⟨h.1,h.2.1,h.2.2.1,D⟩,I,fun t z=>?_,fun t z=>L t (by rw[xc]at z;exact z)⟩;rcases L8.1 z with e | z
   ·subst e;have N:=h.j_ b (by simp);exact N
   exact J t z
theorem rO{b:aR}(h:dF s)(R:b.y0<b.y1)(U:Canon b.xs)(J:∀t∈s,t.y1<=b.y0):
  dF (fj s b)/\(∀t∈fj s b,t.y1<=b.y1)/\(∀x y,at' (fj s b) x y=(at' s x y||at' [b] x y))/\(∀t∈fj s b,(∃u∈s,u.xs=t.xs/\u.y0=t.y0)\/(t.xs=b.xs/\t.y0=b.y0)):=by
 unfold fj;by_cases I:b.xs=[]
 ·rw[ae I];refine⟨h,fun t D=>by have:=J t D;omega,fun x y=>?_,fun t D=>.inl ⟨t,D,rfl,rfl⟩⟩;rw[at_one,I];simp[cm,par]
 rw[aa I];have hb:Lg b:=⟨R,I,U⟩;cases hl:s.getLast? with
 | none=>
  have:s=[]:=xl.1 hl;subst this;exact⟨hb,fun t D=>by rw[Fp]at D;subst D;exact pq _,fun x y=>by rw[show at' [] x y=false from rfl,ph],fun t D=>.inr (by rw[Fp]at D;subst D;exact⟨rfl,rfl⟩)⟩
 | some t=>
  simp only;obtain⟨d,V⟩:=aY.1 hl;subst V;obtain⟨W,L,O,Y⟩:=RE h;split
  ·rename_i N;obtain⟨m1,Z⟩:=N;rw[List.dropLast_concat];have t1:=L.lt;refine⟨Cs W ⟨?_,L.ne,L.can⟩ O Y,fun u z=>?_,fun x y=>?_,fun u z=>?_⟩
   ·show t.y0<b.y1;omega
   ·rcases fC.1 z with z | z
    ·have:=O u z;omega
    rw[Fp]at z;subst z;exact pq _
   ·rw[lK,lK,at_one,at_one,at_one,<-Z,Bool.or_assoc];congr 1;show (decide (t.y0<=y)&&decide (y<b.y1)&&par (cm t.xs) x)=_;by_cases c1:t.y0<=y<;>by_cases c2:y<b.y1<;>by_cases c3:y<t.y1<;>by_cases c4:b.y0<=y<;>simp[c1,c2,c3,c4]<;>omega
   rcases fC.1 z with z | z
   ·exact .inl ⟨u,by simp[z],rfl,rfl⟩
   rw[Fp]at z;subst z;exact .inl ⟨t,by simp,rfl,rfl⟩
  rename_i N;refine⟨Cs h hb J (fun u z h1 h2=>N ?_),fun u z=>?_,fun x y=>lK _ _ x y,fun u z=>?_⟩
  ·rw[hl]at z;cases z;exact⟨h1,h2⟩
  ·rcases fC.1 z with z | z
   ·have:=J u z;omega
   rw[Fp]at z;subst z;exact pq _
  rcases fC.1 z with z | z
  ·exact .inl ⟨u,z,rfl,rfl⟩
  rw[Fp]at z;subst z;exact .inr ⟨rfl,rfl⟩
def oA(s:List aR)(y e:Int):cw×Int:=match s with
 | []=>([],e)
 | b::_=>if y<b.y0 then ([],min e b.y0) else (b.xs,min e b.y1)
def bD(y:Int):List aR->List aR
 | []=>[]
 | b::s=>if b.y1<=y then bD y s else b::s
theorem nJ{y:Int}(h:dF s):dF (bD y s)/\(∀t∈bD y s,t∈s/\y<t.y1)/\∀x z,y<=z->at' (bD y s) x z=at' s x z:=by
 induction s with
 | nil=>exact⟨trivial,fun t u=>(by cases u),fun x z _=>rfl⟩
 | cons b s ih=>
  obtain⟨I,D,J⟩:=ih h.tail;by_cases e:b.y1<=y
  ·rw[bD,ae e];refine⟨I,fun t u=>⟨by simp[(D t u).1],(D t u).2⟩,fun x z L=>?_⟩;rw[J x z L,show b::s=[b]++s from rfl,lK,at_one,fJ (by omega:¬z<b.y1)];simp
  rw[bD,aa e];refine⟨h,fun t u=>⟨u,?_⟩,fun x z _=>rfl⟩;rcases L8.1 u with e | u
  ·subst e;omega
  have h1:=h.j_ t u;have h2:=(h.tail.mem t u).lt;omega
theorem uw{s:List aR}{y e:Int}(h:dF s)(I:∀t∈s,y<t.y1)(J:y<e):Canon (oA s y e).1/\y<(oA s y e).2/\(oA s y e).2<=e/\(∀p∈(oA s y e).1,∃b∈s,p∈b.xs)/\∀x z,y<=z->z<(oA s y e).2->at' s x z=par (cm (oA s y e).1) x:=by
 cases s with
 | nil=>exact⟨trivial,J,pq _,fun p hp=>by simp[oA]at hp,fun x z _ _=>rfl⟩
 | cons b s=>
  have hb:=I b (by simp);by_cases c:y<b.y0
  ·have e1:oA (b::s) y e=([],min e b.y0):=by simp[oA,c]
   rw[e1];refine⟨trivial,by show y<min e b.y0;omega,by show min e b.y0<=e;omega,fun p hp=>by simp at hp,fun x z L u=>?_⟩;have u:z<min e b.y0:=u;rw[show cm ([]:cw)=[] from rfl,show par [] x=false from rfl];refine lM fun t D=>.inl ?_;rcases L8.1 D with e | D
   ·subst e;omega
   have h3:=h.j_ t D;have h4:=h.head.lt;omega
  have e1:oA (b::s) y e=(b.xs,min e b.y1):=by simp[oA,c]
  rw[e1];refine⟨h.head.can,by show y<min e b.y1;omega,by show min e b.y1<=e;omega,fun p hp=>⟨b,by simp,hp⟩,fun x z L u=>?_⟩;have u:z<min e b.y1:=u;rw[show b::s=[b]++s from rfl,lK,at_one,nq (by omega:b.y0<=z),nq (by omega:z<b.y1),lM (s:=s) fun t D=>.inl (by have:=h.j_ t D;omega)];simp
def lN(k:Bool->Bool->Bool):Nat->List aR->List aR->Int->Int->List aR->List aR
 | 0,_,_,_,_,out=>out
 | n+1,a,b,y,e,out=>if y<e then lN k n (bD y a) (bD y b) (min (oA (bD y a) y e).2 (oA (bD y b) y e).2) e
   (fj out ⟨y,min (oA (bD y a) y e).2 (oA (bD y b) y e).2,pairUp (kh k (cm (oA (bD y a) y e).1) (cm (oA (bD y b) y e).1))⟩) else out
def gy(K:Int)(s:List aR):Prop:=∀b∈s,-K<=b.y0/\b.y1<=K/\∀p∈b.xs,-K<=p.1/\p.2<=K
theorem iK{s:cw}(h:Canon s):∀p∈s,p.1<p.2:=by
 induction s with
 | nil=>intro p hp;cases hp
 | cons a s ih=>
  intro p hp;rcases L8.1 hp with e | hp
  ·subst e;exact h.head
  exact ih h.tail p hp
theorem wU{k:Bool->Bool->Bool}(hk:k false false=false){s t:cw}(D:Canon s)(I:Canon t):Canon (pairUp (kh k (cm s) (cm t)))/\(∀x,par (cm (pairUp (kh k (cm s) (cm t)))) x=k (par (cm s) x) (par (cm t) x))/\cm (pairUp (kh k (cm s) (cm t)))=kh k (cm s) (cm t)/\
  ∀K,(∀p∈s,-K<=p.1/\p.2<=K)->(∀p∈t,-K<=p.1/\p.2<=K)->∀p∈pairUp (kh k (cm s) (cm t)),-K<=p.1/\p.2<=K:=by
 obtain⟨J,L,N,O⟩:=IW hk (pI D) (pI I) (by rw[pH];omega) (by rw[pH];omega);have z:=s6 _ O;refine⟨rN _ J,fun x=>by rw[z,N],z,fun K R U p hp=>?_⟩;have all:∀c∈kh k (cm s) (cm t),-K<=c/\c<=K:=fun c V=>by
  rcases L c V with h | h
  ·obtain⟨q,u,e⟩:=abB.1 h;have:=R q u;have:=iK D q u;omega
  obtain⟨q,u,e⟩:=abB.1 h;have:=U q u;have:=iK I q u;omega
 rw[<-z]at all;exact⟨(all p.1 (abB.2 ⟨p,hp,.inl rfl⟩)).1,(all p.2 (abB.2 ⟨p,hp,.inr rfl⟩)).2⟩
theorem IX{k:Bool->Bool->Bool}(hk:k false false=false):∀(n:Nat) (a b:List aR) (y e:Int) (out:List aR),(e-y).toNat<=n->dF a->dF b->dF out->(∀t∈out,t.y1<=y)->(∀t∈a,t.y1<=e)->(∀t∈b,t.y1<=e)->
  dF (lN k n a b y e out)/\(∀x z,at' (lN k n a b y e out) x z=if z<y then at' out x z else k (at' a x z) (at' b x z))/\∀K,gy K a->gy K b->gy K out->-K<=y->e<=K->gy K (lN k n a b y e out):=by
 intro n;have stop:∀(a b:List aR) (y e:Int) (out:List aR),¬y<e->dF out->(∀t∈out,t.y1<=y)->(∀t∈a,t.y1<=e)->(∀t∈b,t.y1<=e)->∀x z,at' out x z=if z<y then at' out x z else k (at' a x z) (at' b x z):=fun a b y e out hn J L N O x z=>by
  split
  ·rfl
  rw[lM (s:=out) fun t D=>.inr (by have:=L t D;omega),lM (s:=a) fun t D=>.inr (by have:=N t D;omega),lM (s:=b) fun t D=>.inr (by have:=O t D;omega),hk]
 induction n with
 | zero=>
  intro a b y e out hn ha hb J L N O;exact⟨J,stop a b y e out (by omega) J L N O,fun K _ _ g _ _=>g⟩
 | succ n ih=>
  intro a b y e out hn ha hb J L N O;rw[lN];split
  ·rename_i R;obtain⟨a1,U,a3⟩:=nJ (y:=y) ha;obtain⟨b1,V,b3⟩:=nJ (y:=y) hb;obtain⟨c1,c2,c3,c4,c5⟩:=uw a1 (fun t D=>(U t D).2) R;obtain⟨d1,d2,d3,d4,d5⟩:=uw b1 (fun t D=>(V t D).2) R;obtain⟨r1,r2,r3,r4⟩:=wU hk c1 d1;obtain⟨I,Kq⟩:∃I,I=min (oA (bD y a) y e).2 (oA (bD y b) y e).2:=⟨_,rfl⟩;rw[<-Kq];have n1:y<I:=by omega
   have n2:I<=e:=by omega
   obtain⟨p1,p2,p3,p4⟩:=rO (b:=⟨y,I,pairUp (kh k (cm (oA (bD y a) y e).1) (cm (oA (bD y b) y e).1))⟩) J n1 r1 L;obtain⟨i1,i2,i3⟩:=ih (bD y a) (bD y b) I e _ (by omega) a1 b1 p1 p2 (fun t D=>N t (U t D).1) (fun t D=>O t (V t D).1);refine⟨i1,fun x z=>?_,fun K g1 g2 g3 g4 g5=>?_⟩
   ·rw[i2 x z,p3 x z,at_one];by_cases z1:z<y
    ·rw[ae (by omega),ae z1,fJ (by omega:¬y<=z)];simp
    rw[aa z1];by_cases W:z<I
    ·rw[ae W,nq (by omega:y<=z),nq W,r2 x,<-c5 x z (by omega) (by omega),<-d5 x z (by omega) (by omega),a3 x z (by omega),b3 x z (by omega),lM (s:=out) fun t D=>.inr (by have:=L t D;omega)];simp
    rw[aa W,a3 x z (by omega),b3 x z (by omega)]
   refine i3 K (fun t D=>g1 t (U t D).1) (fun t D=>g2 t (V t D).1) (fun t D=>?_) (by omega) g5;have e1:=p2 t D;have e1:t.y1<=I:=e1;have rr:=r4 K (fun p hp=>by obtain⟨q,Y,hp⟩:=c4 p hp;exact (g1 q (U q Y).1).2.2 p hp) (fun p hp=>by obtain⟨q,Y,hp⟩:=d4 p hp;exact (g2 q (V q Y).1).2.2 p hp);rcases p4 t D with⟨u,hu,x1,Z⟩ | ⟨x1,Z⟩
   ·have:=g3 u hu;rw[<-x1,<-Z];exact⟨this.1,by omega,this.2.2⟩
   rw[x1,Z];exact⟨g4,by omega,rr⟩
  rename_i R;exact⟨J,stop a b y e out R J L N O,fun K _ _ g _ _=>g⟩
def oV(x y:Int)(r:aB):Bool:=((decide (r.x0<=x)&&decide (x<r.x1))&&decide (r.y0<=y))&&decide (y<r.y1)
theorem dC{x y:Int}{r:aB}:oV x y r=true↔r.x0<=x/\x<r.x1/\r.y0<=y/\y<r.y1:=by
 simp[oV,and_assoc]
def Full(r:aB):Prop:=r.x0<r.x1/\r.y0<r.y1
def RK(K:Int)(r:aB):Prop:=-K<=r.x0/\-K<=r.y0/\r.x1<=K/\r.y1<=K
theorem gap{ys:List Int}(h:ct ys){k:Nat}{a b c:Int}(D:ys[k]?=some a)(hb:ys[k+1]?=some b)(I:c∈ys):c<=a\/b<=c:=by
 obtain⟨j,J⟩:=ca.1 I;obtain⟨L,N⟩:=az.1 D;obtain⟨O,R⟩:=az.1 hb;obtain⟨u,z⟩:=az.1 J;have H:=FZ.1 h;rcases iq j k with e | e | e
 ·have:=H j k u L e;omega
 ·subst e;rw[N]at z;omega
 rcases AF (k+1) j with e2 | e2
 ·have:=H (k+1) j O u e2;omega
 have:j=k+1:=by omega
 subst this;rw[R]at z;omega
theorem getD_some{l:List Int}{k:Nat}{a:Int}(h:l[k]?=some a):l.getD k 0=a:=by rw[dc,h];rfl
theorem Ur{l:List aB}(hl:∀r∈l,Full r)(y:Int)(x:Int):par (cm (rowOf l y)) x=l.any (oV x y):=by
 obtain⟨z,D⟩:=HW l y (fun r u=>(hl r u).1);rw[Ax,dL z,D,wy];constructor
 ·rintro⟨r,u,a,b⟩;exact⟨r,u,dC.2 ⟨b.1,b.2,a.1,a.2⟩⟩
 rintro⟨r,u,a⟩;obtain⟨I,J,L,N⟩:=dC.1 a;exact⟨r,u,⟨L,N⟩,I,J⟩
theorem RF{l:List aB}(hl:∀r∈l,Full r)(y:Int){K:Int}(hk:∀r∈l,RK K r):∀p∈rowOf l y,-K<=p.1/\p.2<=K:=by
 obtain⟨D,z⟩:=HW l y (fun r u=>(hl r u).1);intro p hp;have I:=iK D p hp;obtain⟨r,u,_,a,_⟩:=(z p.1).1 ⟨p,hp,pq _,I⟩;obtain⟨q,J,_,b1,b2⟩:=(z (p.2-1)).1 ⟨p,hp,by omega,by omega⟩;have L:=hk r u;have N:=hk q J;exact⟨by have:=L.1;omega,by have:=N.2.2.1;omega⟩
theorem DS{l:List aB}(hl:∀r∈l,Full r):∀(k:Nat) (y:Int),(cr l)[k]?=some y ->
  dF (dw l (cr l) k)/\(∀t∈dw l (cr l) k,t.y1<=y)/\(∀x z,at' (dw l (cr l) k) x z=(decide (z<y)&&l.any (oV x z)))/\∀K,(∀r∈l,RK K r)->gy K (dw l (cr l) k):=by
 obtain⟨L,R⟩:=gY l;intro k
 induction k with
 | zero=>
  intro y J;refine⟨trivial,fun t N=>(by cases N),fun x z=>?_,fun K _ t N=>(by cases N)⟩;show false=_;symm;rw[F1];by_cases hz:z<y
  ·right;rw[cu];intro hp;obtain⟨r,I,h⟩:=wy.1 hp;obtain⟨_,_,h3,_⟩:=dC.1 h;have h4:r.y0∈cr l:=(R _).2 ⟨r,I,.inl rfl⟩;obtain⟨j,hj⟩:=ca.1 h4;obtain⟨U,Y⟩:=az.1 J;obtain⟨j1,j2⟩:=az.1 hj;rcases Gb j with e | e
   ·subst e;rw[Y]at j2;omega
   have:=FZ.1 L 0 j U j1 e;omega
  left;exact fJ hz
 | succ k ih=>
  intro y J;obtain⟨D,O⟩:∃D,(cr l)[k]?=some D:=by
   have:=(az.1 J).1;exact⟨_,oX (by omega)⟩
  obtain⟨i1,i2,i3,i4⟩:=ih D O;have eX:D < y:=by
   obtain⟨U,Y⟩:=az.1 J;obtain⟨b1,b2⟩:=az.1 O;have:=FZ.1 L k (k+1) b1 U (by omega);omega
  rw[dw,getD_some O,getD_some J];obtain⟨h1,h2⟩:=HW l D (fun r L=>(hl r L).1);obtain⟨p1,Z,p3,p4⟩:=rO (b:=⟨D,y,rowOf l D⟩) i1 eX h1 i2;refine⟨p1,Z,fun x z=>?_,fun K hk t N=>?_⟩
  ·rw[p3,i3,at_one];show (decide (z<D)&&l.any (oV x z)||decide (D<=z)&&decide (z<y)&&par (cm (rowOf l D)) x)=_;rw[Ur hl];by_cases V:z<D
   ·rw[nq V,fJ (by omega:¬D<=z),nq (by omega:z<y)];simp
   by_cases c2:z<y
   ·rw[fJ V,nq (by omega:D<=z),nq c2];simp only[uh,ph,tG];rw[Ax,wy,wy];have go:∀r∈l,(oV x D r=true↔oV x z r=true):=fun r I=>by
     have g1:=gap L O J ((R r.y0).2 ⟨r,I,.inl rfl⟩);have g2:=gap L O J ((R r.y1).2 ⟨r,I,.inr rfl⟩);rw[dC,dC];omega
    constructor
    ·rintro⟨r,I,h⟩;exact⟨r,I,(go r I).1 h⟩
    rintro⟨r,I,h⟩;exact⟨r,I,(go r I).2 h⟩
   rw[fJ V,fJ c2];simp
  have e1:=Z t N;have e1:t.y1<=y:=e1;have top:∀c,c∈cr l->-K<=c/\c<=K:=fun c hc=>by
   obtain⟨r,I,e⟩:=(R c).1 hc;have g:=hk r I;have g2:=hl r I;unfold RK at g;unfold Full at g2;omega
  have t1:=top y (aj J);have t2:=top D (aj O);rcases p4 t N with⟨u,hu,x1,W⟩ | ⟨x1,W⟩
  ·have g:=i4 K hk u hu;rw[<-x1,<-W];exact⟨g.1,by omega,g.2.2⟩
  rw[x1,W];exact⟨t2.1,by omega,RF hl D hk⟩
theorem b7{l:List aB}(hl:∀r∈l,Full r):dF (cH l)/\(∀x z,at' (cH l) x z=l.any (oV x z))/\∀K,(∀r∈l,RK K r)->gy K (cH l):=by
 obtain⟨L,D⟩:=gY l;cases hg:cr l with
 | nil=>
  have e:l=[]:=by
   cases l with
   | nil=>rfl
   | cons r l=>
    have:r.y0∈cr (r::l):=(D _).2 ⟨r,by simp,.inl rfl⟩;rw[hg]at this;cases this
  subst e;exact⟨trivial,fun x z=>rfl,fun K _ t N=>by cases N⟩
 | cons a u=>
  obtain⟨y,I⟩:∃y,(cr l)[(cr l).length-1]?=some y:=⟨_,oX (by rw[hg];simp)⟩;obtain⟨O,h2,R,U⟩:=DS hl _ y I;refine⟨O,fun x z=>?_,U⟩;show at' (dw l (cr l) ((cr l).length-1)) x z=_;rw[R];by_cases J:z<y
  ·rw[nq J,tG]
  rw[fJ J,uh];symm;rw[cu];intro hp;obtain⟨r,V,h⟩:=wy.1 hp;obtain⟨_,_,_,h5⟩:=dC.1 h;obtain⟨j,W⟩:=ca.1 ((D r.y1).2 ⟨r,V,.inr rfl⟩);obtain⟨Y,Z⟩:=az.1 I;obtain⟨j1,j2⟩:=az.1 W;rcases AF j ((cr l).length-1) with e | e
  ·have:=FZ.1 L j _ j1 Y e;omega
  have:j=(cr l).length-1:=by omega
  subst this;rw[Z]at j2;omega
theorem mA{q:aB}:q∈told s↔∃b∈s,∃p∈b.xs,q=⟨p.1,b.y0,p.2,b.y1⟩:=by
 simp only[told,cz,aZ];constructor
 ·rintro⟨b,hb,p,hp,e⟩;exact⟨b,hb,p,hp,e.symm⟩
 rintro⟨b,hb,p,hp,e⟩;exact⟨b,hb,p,hp,e.symm⟩
theorem Ct(h:dF s)(x y:Int):(told s).any (oV x y)=at' s x y:=by
 rw[Ax,wy,zb];constructor
 ·rintro⟨q,J,L⟩;obtain⟨b,hb,p,hp,rfl⟩:=mA.1 J;obtain⟨u,z,D,I⟩:=dC.1 L;exact⟨b,hb,D,I,(dL (h.mem b hb).can x).2 ⟨p,hp,u,z⟩⟩
 rintro⟨b,hb,D,I,hp⟩;obtain⟨p,hp,u,z⟩:=(dL (h.mem b hb).can x).1 hp;exact⟨_,mA.2 ⟨b,hb,p,hp,rfl⟩,dC.2 ⟨u,z,D,I⟩⟩
theorem nW(h:dF s):∀q∈told s,Full q:=fun q u=>by
 obtain⟨b,hb,p,hp,rfl⟩:=mA.1 u;exact⟨iK (h.mem b hb).can p hp,(h.mem b hb).lt⟩
theorem ux(h:dF s){K:Int}(hk:gy K s):∀q∈told s,RK K q:=fun q u=>by
 obtain⟨b,hb,p,hp,rfl⟩:=mA.1 u;obtain⟨z,D,I⟩:=hk b hb;obtain⟨J,L⟩:=I p hp;exact⟨J,z,L,D⟩
theorem IY(h:dF s)(D:∀x y,at' s x y=false):s=[]:=by
 cases s with
 | nil=>rfl
 | cons b s=>
  have hb:=h.head;obtain⟨p,u,e⟩:∃p u,b.xs=p::u:=by
   cases hx:b.xs with
   | nil=>exact absurd hx hb.ne
   | cons p u=>exact⟨p,u,rfl⟩
  have z:at' (b::s) p.1 b.y0=true:=zb.2 ⟨b,by simp,pq _,hb.lt,(dL hb.can _).2 ⟨p,by rw[e];simp,pq _,iK hb.can p (by rw[e];simp)⟩⟩;rw[D]at z;cases z
def Cu(a b:List aR):Int:=match a,b with
 | p::_,q::_=>min p.y0 q.y0
 | p::_,[]=>p.y0
 | [],q::_=>q.y0
 | [],[]=>0
def n4:List aR->Int
 | []=>0
 | [b]=>b.y1
 | _::c::r=>n4 (c::r)
def Cv(a b:List aR):Int:=match a,b with
 | p::r,q::u=>max (n4 (p::r)) (n4 (q::u))
 | p::r,[]=>n4 (p::r)
 | [],q::u=>n4 (q::u)
 | [],[]=>0
theorem GC(h:dF s):∀t∈s,t.y1<=n4 s:=by
 induction s with
 | nil=>intro t u;cases u
 | cons b s ih=>
  cases s with
  | nil=>intro t u;rw[Fp]at u;subst u;exact pq _
  | cons c r=>
   intro t u;rw[n4];rcases L8.1 u with e | u
   ·subst e;have h1:=ih h.tail c (by simp);have h2:=h.2.1;have h3:=h.tail.head.lt;omega
   exact ih h.tail t u
theorem p6{K:Int}:∀{s:List aR},s≠[]->gy K s->n4 s<=K
 | [],h,_=>absurd rfl h
 | [b],_,hk=>(hk b (by simp)).2.1
 | _::c::r,_,hk=>by rw[n4];exact p6 (by simp) (fun t u=>hk t (by simp at u ⊢;exact .inr u))
def oB(k:Bool->Bool->Bool)(a b:List aR):List aR:=if a.length+b.length=0 then [] else lN k (Cv a b-Cu a b).toNat a b (Cu a b) (Cv a b) []
theorem xD{k:Bool->Bool->Bool}(hk:k false false=false){a b:List aR}(L:dF a)(hb:dF b):
  dF (oB k a b)/\(∀x y,at' (oB k a b) x y=k (at' a x y) (at' b x y))/\∀K,gy K a->gy K b->gy K (oB k a b):=by
 unfold oB;by_cases e:a.length+b.length=0
 ·rw[ae e];have N:a=[]:=Az (by omega);have O:b=[]:=Az (by omega);subst N O;exact⟨trivial,fun x y=>hk.symm,fun K _ _ t z=>by cases z⟩
 rw[aa e];have R:∀t∈a,Cu a b<=t.y0:=fun t z=>by
  cases a with
  | nil=>cases z
  | cons p r=>
   have D:p.y0<=t.y0:=by
    rcases L8.1 z with e | z
    ·subst e;exact pq _
    have:=L.j_ t z;have:=L.head.lt;omega
   cases b with
   | nil=>exact D
   | cons q u=>show min p.y0 q.y0<=t.y0;omega
 have U:∀t∈b,Cu a b<=t.y0:=fun t z=>by
  cases b with
  | nil=>cases z
  | cons q u=>
   have D:q.y0<=t.y0:=by
    rcases L8.1 z with e | z
    ·subst e;exact pq _
    have:=hb.j_ t z;have:=hb.head.lt;omega
   cases a with
   | nil=>exact D
   | cons p r=>show min p.y0 q.y0<=t.y0;omega
 have V:∀t∈a,t.y1<=Cv a b:=fun t z=>by
  have D:=GC L t z;cases a with
  | nil=>cases z
  | cons p r=>
   cases b with
   | nil=>exact D
   | cons q u=>show t.y1<=max (n4 (p::r)) (n4 (q::u));omega
 have W:∀t∈b,t.y1<=Cv a b:=fun t z=>by
  have D:=GC hb t z;cases b with
  | nil=>cases z
  | cons q u=>
   cases a with
   | nil=>exact D
   | cons p r=>show t.y1<=max (n4 (p::r)) (n4 (q::u));omega
 obtain⟨Y,Z,m3⟩:=IX hk _ a b (Cu a b) (Cv a b) [] (aG _) L hb trivial (fun t z=>by cases z) V W;refine⟨Y,fun x y=>?_,fun K I J=>m3 K I J (fun t z=>by cases z) ?_ ?_⟩
 ·rw[Z];split
  ·rename_i hy;rw[lM (s:=a) fun t z=>.inl (by have:=R t z;omega),lM (s:=b) fun t z=>.inl (by have:=U t z;omega),hk];rfl
  rfl
 ·cases a with
  | nil=>
   cases b with
   | nil=>exact absurd rfl e
   | cons q u=>exact (J q (by simp)).1
  | cons p r=>
   cases b with
   | nil=>exact (I p (by simp)).1
   | cons q u=>
    have:=(I p (by simp)).1;have:=(J q (by simp)).1;show -K<=min p.y0 q.y0;omega
 cases a with
 | nil=>
  cases b with
  | nil=>exact absurd rfl e
  | cons q u=>exact p6 (by simp) J
 | cons p r=>
  cases b with
  | nil=>exact p6 (by simp) I
  | cons q u=>
   have D:=p6 (by simp) I;have h2:=p6 (by simp) J;show max (n4 (p::r)) (n4 (q::u))<=K;omega
def RG(a b:Bool):Bool:=a&&!b
def iL(a b:List aR):List aR:=oB RG a b
theorem oC{a b:List aR}(u:dF a)(hb:dF b):dF (iL a b)/\(∀x y,at' (iL a b) x y=(at' a x y&&!at' b x y))/\∀K,gy K a->gy K b->gy K (iL a b):=xD rfl u hb
def fv(b:aR):Int:=(cm b.xs).headD 0
def jg(b:aR):Int:=((cm b.xs).getLast?).getD 0
def iw(r:aB)(b:aR):aB:=⟨min r.x0 (fv b),r.y0,max r.x1 (jg b),r.y1⟩
def fg:List aR->aB
 | []=>⟨0,0,0,0⟩
 | b::s=>(b::s).foldl iw ⟨fv b,b.y0,(cm b.xs).getD 1 0,n4 (b::s)⟩
def Open(s:List aR)(w x y:Int):Prop:=∃a b,a<=x/\x<a+w/\b<=y/\y<b+w/\∀c d,a<=c->c<a+w->b<=d->d<b+w->at' s c d=true
theorem gy.up{A B:Int}{t:List aR}(h:A<=B)(u:gy A t):gy B t:=fun b hb=>by
 obtain⟨x1,x2,z⟩:=u b hb;exact⟨by omega,by omega,fun p hp=>by have:=z p hp;omega⟩
theorem EI{hi:Int}:∀{s:cw} {p:Int×Int},Canon (p::s)->(∀q∈p::s,q.2<=hi)->2*((s.length:Int)+1)<=hi-p.1+1
 | [],p,h,hb=>by
  have z:=h.head;have D:=hb p (by simp);simp only[kv];omega
 | q::s,p,h,hb=>by
  have ih:=EI (s:=s) (p:=q) h.tail (fun t u=>hb t (by simp at u ⊢;exact .inr u));have z:=h.head;have D:=h.behind q (by simp);simp only[bN];omega
theorem uy{s:cw}{K:Int}(h:Canon s)(hK:0<=K)(hb:∀q∈s,-K<=q.1/\q.2<=K):2*(s.length:Int)<=2*K+1:=by
 cases s with
 | nil=>simp only[kv];omega
 | cons p s=>
  have h1:=EI h (fun q u=>(hb q u).2);have h2:=(hb p (by simp)).1;simp only[bN];omega
theorem MT{hi:Int}:∀{s:List aR} {b:aR},dF (b::s)->(∀t∈b::s,t.y1<=hi)->(s.length:Int)+1<=hi-b.y0
 | [],b,h,hb=>by
  have z:=h.head.lt;have D:=hb b (by simp);simp only[kv];omega
 | c::s,b,h,hb=>by
  have ih:=MT (s:=s) (b:=c) h.tail (fun t u=>hb t (by simp at u ⊢;exact .inr u));have z:=h.head.lt;have D:=h.2.1;simp only[bN];omega
theorem eW{K:Int}(h:dF s)(hK:0<=K)(hb:gy K s):(s.length:Int)<=2*K:=by
 cases s with
 | nil=>simp only[kv];omega
 | cons b s=>
  have h1:=MT h (fun t u=>(hb t u).2.1);have h2:=(hb b (by simp)).1;simp only[bN];omega
theorem rP{K:Int}(h:dF s)(z:0<=K)(hb:gy K s):∀t∈s,2*(t.xs.length:Int)<=2*K+1:=fun t u=>uy (h.mem t u).can z (hb t u).2.2
theorem Cw{M:Nat}:∀{s:List aR},(∀t∈s,t.xs.length<=M)->(told s).length<=s.length*M
 | [],_=>by simp[told]
 | b::s,h=>by
  have ih:=Cw (s:=s) (fun t u=>h t (by simp[u]));have h1:=h b (by simp);unfold told at ih ⊢;rw[l6,bJ,E5,bN,mY];omega
theorem aav{s:List aR}(h:dF s)(hb:gy 1400000 s):(told s).length<=4398046511104:=by
 have h1:=eW h (by omega) hb;have h2:=Cw (M:=1400000) (s:=s) fun t u=>by have:=rP h (by omega) hb t u;omega
 have h3:s.length*1400000<=2800000*1400000:=cq _ (by omega);omega
theorem IZ{k:Bool->Bool->Bool}(h0:k false false=false){K:Int}{a b out:List aR}{y e:Int}(R:y<e)(ha:dF a)(hb:dF b)(ho:dF out)(h1:∀t∈out,t.y1<=y)(U:gy K a)(V:gy K b)(ko:gy K out)(hy:-K<=y)(he:e<=K):
  ∃z L,z=min (oA (bD y a) y e).2 (oA (bD y b) y e).2/\L=kh k (cm (oA (bD y a) y e).1) (cm (oA (bD y b) y e).1)/\y<z/\z<=e/\cm (pairUp L)=L/\dF (bD y a)/\dF (bD y b)/\gy K (bD y a)/\gy K (bD y b)/\
   dF (fj out ⟨y,z,pairUp L⟩)/\(∀t∈fj out ⟨y,z,pairUp L⟩,t.y1<=z)/\gy K (fj out ⟨y,z,pairUp L⟩)/\Canon (oA (bD y a) y e).1/\Canon (oA (bD y b) y e).1/\(∀p∈(oA (bD y a) y e).1,-K<=p.1/\p.2<=K)/\(∀p∈(oA (bD y b) y e).1,-K<=p.1/\p.2<=K):=by
 obtain⟨W,I,a3⟩:=nJ (y:=y) ha;obtain⟨Y,J,b3⟩:=nJ (y:=y) hb;obtain⟨Z,c2,c3,c4,c5⟩:=uw W (fun t D=>(I t D).2) R;obtain⟨d1,d2,d3,d4,d5⟩:=uw Y (fun t D=>(J t D).2) R;obtain⟨r1,r2,r3,r4⟩:=wU (k:=k) h0 Z d1;obtain⟨z,Kq⟩:∃z,z=min (oA (bD y a) y e).2 (oA (bD y b) y e).2:=⟨_,rfl⟩;have n1:y<z:=by omega
 have n2:z<=e:=by omega
 have g1:∀p∈(oA (bD y a) y e).1,-K<=p.1/\p.2<=K:=fun p hp=>by obtain⟨q,N,hp⟩:=c4 p hp;exact (U q (I q N).1).2.2 p hp
 have g2:∀p∈(oA (bD y b) y e).1,-K<=p.1/\p.2<=K:=fun p hp=>by obtain⟨q,N,hp⟩:=d4 p hp;exact (V q (J q N).1).2.2 p hp
 have rr:=r4 K g1 g2;obtain⟨p1,p2,p3,p4⟩:=rO (b:=⟨y,z,pairUp (kh k (cm (oA (bD y a) y e).1) (cm (oA (bD y b) y e).1))⟩) ho n1 r1 h1;refine⟨z,_,Kq,rfl,n1,n2,r3,W,Y,fun t D=>U t (I t D).1,fun t D=>V t (J t D).1,p1,p2,fun t D=>?_,Z,d1,g1,g2⟩;have e1:=p2 t D;have e1:t.y1<=z:=e1;rcases p4 t D with⟨u,hu,x1,O⟩ | ⟨x1,O⟩
 ·have:=ko u hu;rw[<-x1,<-O];exact⟨this.1,by omega,this.2.2⟩
 rw[x1,O];exact⟨hy,by omega,rr⟩
theorem A_:∀(b:aR) (s:List aR),∃t,(b::s)[s.length]?=some t/\t.y1=n4 (b::s)
 | b,[]=>⟨b,rfl,rfl⟩
 | b,c::s=>by
  obtain⟨t,u,z⟩:=A_ c s;exact⟨t,by simpa using u,by rw[n4];exact z⟩
theorem Z4{K:Int}{a b:List aR}(z:gy K a)(D:gy K b)(I:a.length+b.length≠0):-K<=Cu a b:=by
 cases a with
 | nil=>
  cases b with
  | nil=>simp at I
  | cons q u=>exact (D q (by simp)).1
 | cons p r=>
  cases b with
  | nil=>exact (z p (by simp)).1
  | cons q u=>
   have:=(z p (by simp)).1;have:=(D q (by simp)).1;show -K<=min p.y0 q.y0;omega
theorem Z5{K:Int}{a b:List aR}(z:gy K a)(D:gy K b)(I:a.length+b.length≠0):Cv a b<=K:=by
 cases a with
 | nil=>
  cases b with
  | nil=>simp at I
  | cons q u=>exact p6 (by simp) D
 | cons p r=>
  cases b with
  | nil=>exact p6 (by simp) z
  | cons q u=>
   have h1:=p6 (by simp) z;have h2:=p6 (by simp) D;show max (n4 (p::r)) (n4 (q::u))<=K;omega
theorem nK{b:aR}{s:List aR}(h:dF (b::s)){x y:Int}(u:b.y0<=y)(z:y<b.y1):at' (b::s) x y=par (cm b.xs) x:=by
 rw[show b::s=[b]++s from rfl,lK,at_one,nq u,nq z,lM (s:=s) fun t D=>.inl (by have:=h.j_ t D;omega)];simp
theorem rQ{b:aR}{x y:Int}(h2:b.y1<=y):at' (b::s) x y=at' s x y:=by
 rw[show b::s=[b]++s from rfl,lK,at_one,fJ (by omega:¬y<b.y1)];simp
theorem xE{b:aR}(h:Lg b):∃x,par (cm b.xs) x=true:=by
 cases hx:b.xs with
 | nil=>exact absurd hx h.ne
 | cons p u=>exact⟨p.1,by rw[<-hx];exact (dL h.can _).2 ⟨p,by rw[hx];simp,pq _,iK h.can p (by rw[hx];simp)⟩⟩
theorem RH{p q:aR}{r u:List aR}(z:dF (p::r))(hb:dF (q::u))(J:∀x y,at' (p::r) x y=at' (q::u) x y):q.y0<=p.y0:=by
 obtain⟨x,L⟩:=xE z.head;have I:=nK z (x:=x) (pq _) z.head.lt;rw[L,J]at I;obtain⟨t,D,N,t2,_⟩:=zb.1 I;rcases L8.1 D with e | D
 ·subst e;exact N
 have:=hb.j_ t D;have:=hb.head.lt;omega
theorem MU{p q:aR}{r u:List aR}(z:dF (p::r))(hb:dF (q::u))(J:∀x y,at' (p::r) x y=at' (q::u) x y)(h0:p.y0=q.y0)(L:p.xs=q.xs):q.y1<=p.y1:=by
 rcases Int.lt_or_le p.y1 q.y1 with h | h
 ·exfalso;have hp:=z.head.lt;have row:∀x,at' r x p.y1=par (cm p.xs) x:=fun x=>by
   rw[<-rQ (b:=p) (pq _),J,nK hb (by omega) h,L]
  cases r with
  | nil=>
   obtain⟨x,D⟩:=xE z.head;rw[<-row]at D;cases D
  | cons c r=>
   have hc:=z.2.1;rcases Int.lt_or_le p.y1 c.y0 with N | N
   ·obtain⟨x,D⟩:=xE z.head;rw[<-row,lM (s:=c::r) fun t I=>.inl (by
     rcases L8.1 I with e | I
     ·subst e;omega
     have:=z.tail.j_ t I;have:=z.tail.head.lt;omega)]at D
    cases D
   have e:p.y1=c.y0:=by omega
   refine z.2.2.1 e (nv _ _ z.head.can z.tail.head.can fun x=>?_);rw[<-dL z.head.can,<-dL z.tail.head.can,<-row x,nK z.tail (by omega) (by have:=z.tail.head.lt;omega)]
 exact h
theorem Cx:∀(a b:List aR),dF a->dF b->(∀x y,at' a x y=at' b x y)->a=b
 | [],b,_,hb,he=>(IY hb fun x y=>(he x y).symm).symm
 | p::r,[],ha,_,he=>IY ha fun x y=>he x y
 | p::r,q::u,ha,hb,he=>by
  have z:p.y0=q.y0:=Int.le_antisymm (RH hb ha fun x y=>(he x y).symm) (RH ha hb he);have D:p.xs=q.xs:=nv _ _ ha.head.can hb.head.can fun x=>by
   rw[<-dL ha.head.can,<-dL hb.head.can,<-nK ha (pq _) ha.head.lt,he,nK hb (by omega) (by have:=hb.head.lt;omega)]
  have e1:p.y1=q.y1:=Int.le_antisymm (MU hb ha (fun x y=>(he x y).symm) z.symm D.symm) (MU ha hb he z D);have ih:=Cx r u ha.tail hb.tail fun x y=>by
   rcases Int.lt_or_le y p.y1 with h | h
   ·rw[lM (s:=r) fun t I=>.inl (by have:=ha.j_ t I;omega),lM (s:=u) fun t I=>.inl (by have:=hb.j_ t I;omega)]
   rw[<-rQ (b:=p) h,he,rQ (by omega)]
  have:p=q:=by
   cases p;cases q;simp only at z e1 D;subst z e1 D;rfl
  rw[this,ih]
theorem vL{a b:aB}:before a b=true↔a.y0<b.y0\/(a.y0=b.y0/\a.x0<b.x0):=by simp[before]
theorem Lj{s:cw}(h:Canon s):s.Pairwise fun p q=>p.1<q.1:=by
 induction s with
 | nil=>exact List.Pairwise.nil
 | cons p s ih=>
  refine pw.2 ⟨fun q u=>?_,ih h.tail⟩;have:=h.behind q u;have:=h.head;omega
theorem Lk(h:dF s):(told s).Pairwise fun a b=>before a b=true:=by
 induction s with
 | nil=>exact List.Pairwise.nil
 | cons b s ih=>
  have e:told (b::s)=(b.xs.map fun p=>⟨p.1,b.y0,p.2,b.y1⟩)++told s:=rfl;rw[e];have aw:(b.xs.map fun p=>(⟨p.1,b.y0,p.2,b.y1⟩:aB)).Pairwise fun a b=>before a b=true:=by
   rw[gM];refine (Lj h.head.can).imp fun {p q} hp=>?_;exact vL.2 (.inr ⟨rfl,hp⟩)
  refine af.2 ⟨aw,ih h.tail,fun a u c z=>?_⟩;obtain⟨p,_,rfl⟩:=aZ.1 u;obtain⟨t,D,q,_,rfl⟩:=mA.1 z;have h1:=h.j_ t D;have h2:=h.head.lt;exact vL.2 (.inl (by show b.y0<t.y0;omega))
theorem ahL(h:dF s)(u:told s=[]):s=[]:=IY h fun x y=>by rw[<-Ct h,u];rfl
end Reg
end Go.Proofs.YtliffnpbaeijgaaGreatDoor
