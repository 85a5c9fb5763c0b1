/- Part 5 of the proof of HouseShopsMatchSpec. -/
import Derived.Test.YtedjhhieekileaaGreatDoorM04
set_option linter.unusedVariables false
set_option linter.unusedSimpArgs false
set_option maxRecDepth 100000
set_option maxHeartbeats 8000000
namespace Go
abbrev S7:=@List.findIdx_getElem
abbrev Ti:=@List.set_cons_succ
abbrev UC:=@Prod.ext
abbrev Vb:=@List.any_cons
end Go
namespace Go.Proofs.YtedjhhieekileaaGreatDoor
namespace M
open Go.AM Go.RowKit
def ky(n:Int)(p:Bool×Int):Bool×Int:=if p.1=false\/n<p.2 then (true,n) else p
def gJ(l:List Wt)(p:Bool×Int):Bool×Int:=match l with
 | []=>p
 | w::_=>ky w.1 p
def wc(now:Int)(l:List Wt)(p:Bool×Int):Bool×Int:=match l with
 | []=>p
 | w::_=>if now<w.1 then ky w.1 p else p
def eU(x:a_)(q:List Wt):Bool×Int:=wc x.now q (gJ x.ends (false,0))
theorem Pb(n:Int)(p:Bool×Int):aT C 67 [.pv (i64 n),.box [bool p.1],.box [i64 p.2]] (.tu []) [.box [bool (ky n p).1],.box [i64 (ky n p).2]]:=by
 obtain⟨f,a⟩:=p;refine fW hC Tryz.func67 rfl (by kernel_rfl) fun _=>?_;apply iW<;>intro z<;>try simp only[zB]at z
 ·have e:ky n (f,a)=(true,n):=by rw[ky,qH (.inl (by simpa using z))]
  rw[e];exact⟨Z,Z,Z,Y⟩
 apply iW<;>intro c<;>try simp only[zB]at c
 ·have e:ky n (f,a)=(true,n):=by rw[ky,qH (.inr c)]
  rw[e];exact⟨Z,Z,Z,Y⟩
 have e:ky n (f,a)=(f,a):=by rw[ky,af (fun h=>h.elim (fun h=>by simp_all) c)]
 rw[e];exact⟨Z,Z,Z,Y⟩
variable {α:Type}
theorem dP{l:List α}{i:Nat}{a:α}(h:l[i]?=some a):l.set i a=l:=by
 apply lW;intro k;by_cases e:k=i
 ·subst e;rw[bQ (ah h),h]
 rw[bY (fun h=>e h.symm)]
theorem JA(st:Stat)(x:a_)(q:List Wt)(z:x.queues[0]?=some q):cR C 42 [.bx 100000 0] (kK st x) (.tu [.p (i64 (eU x q).2),.p (bool (eU x q).1)]) (kK st x):=by
 have c:=ah z;refine Kz ⟨[5],[],[],[],[],[]⟩ hC Tryz.func42 rfl (by kernel_rfl) fun _=>?_;apply iW<;>intro J<;>try simp only[zB]at J
 ·obtain⟨w,W,D⟩:∃w W,x.ends=w::W:=by cases he:x.ends with | nil=>rw[he]at J;simp at J | cons u Q=>exact⟨u,Q,rfl⟩
  refine⟨⟨by omega,by rw[D];simp⟩,(wt w),(by rw[D];rfl),_,_,(Pb w.1 (false,0)),?_⟩;refine lG (aY.mi (by exact hC) _ 90001 0 0 90015 (e:=53) (by decide) (by decide) (by exact iX (AB.ai _) (by simp only[cP,cJ])) (ru _) (ff qC z) (by exact rfl)) ?_;refine⟨⟨by omega,by simp only[cu,ct];exact c⟩,[HX.av (.ow 90015)],(by exact bQ (by rw[ct];exact c)),?_⟩;apply iW<;>intro G<;>try simp only[zB]at G
  ·obtain⟨u,Q,rfl⟩:∃u Q,q=u::Q:=by cases q with | nil=>simp at G | cons u Q=>exact⟨u,Q,rfl⟩
   refine⟨⟨by omega,by simp⟩,(wt u),rfl,iW ?_ ?_⟩<;>intro I<;>try simp only[zB]at I
   ·have e:eU x (u::Q)=ky u.1 (ky w.1 (false,0)):=by simp only[eU,D,wc,gJ,qH I]
    rw[e];refine⟨⟨by omega,by simp⟩,(wt u),rfl,_,_,(Pb u.1 (ky w.1 (false,0))),_,aY.jg (by exact hC) _ 90001 0 0 7 (e:=53) (es:=(x.queues.map qC).set 0 [.av (.ow 7)]) (e':=68) (xs:=(u::Q:List Wt).map wt) (by decide) (by exact iX (AB.ai _) (by simp only[oW,cP,cJ];rfl)) (by exact rfl) (by exact bQ (by rw[ct];exact c)) (by exact rfl),rfl,rfl,?_,rfl,?_,Z,Z,Y⟩
    ·refine iX (AB.ai _) ?_;show ((x.queues.map qC).set 0 [HX.av (.ow 7)]).set 0 [HX.row 68 ((u::Q:List Wt).map wt)]=_;rw[Uz,jq,dP z]
    exact iX (AB.ai _) (by simp only[dF,dG])
   have e:eU x (u::Q)=ky w.1 (false,0):=by simp only[eU,D,wc,gJ,af I]
   rw[e];refine⟨_,aY.jg (by exact hC) _ 90001 0 0 7 (e:=53) (es:=(x.queues.map qC).set 0 [.av (.ow 7)]) (e':=68) (xs:=(u::Q:List Wt).map wt) (by decide) (by exact iX (AB.ai _) (by simp only[oW,cP,cJ];rfl)) (by exact rfl) (by exact bQ (by rw[ct];exact c)) (by exact rfl),rfl,rfl,?_,rfl,?_,Z,Z,Y⟩
   ·refine iX (AB.ai _) ?_;show ((x.queues.map qC).set 0 [HX.av (.ow 7)]).set 0 [HX.row 68 ((u::Q:List Wt).map wt)]=_;rw[Uz,jq,dP z]
   exact iX (AB.ai _) (by simp only[dF,dG])
  obtain rfl:q=[]:=by cases q with | nil=>rfl | cons u Q=>simp at G
  have e:eU x []=ky w.1 (false,0):=by simp only[eU,D,wc,gJ]
  rw[e];refine⟨_,aY.jg (by exact hC) _ 90001 0 0 7 (e:=53) (es:=(x.queues.map qC).set 0 [.av (.ow 7)]) (e':=68) (xs:=([]:List Wt).map wt) (by decide) (by exact iX (AB.ai _) (by simp only[oW,cP,cJ];rfl)) (by exact rfl) (by exact bQ (by rw[ct];exact c)) (by exact rfl),rfl,rfl,?_,rfl,?_,Z,Z,Y⟩
  ·refine iX (AB.ai _) ?_;show ((x.queues.map qC).set 0 [HX.av (.ow 7)]).set 0 [HX.row 68 (([]:List Wt).map wt)]=_;rw[Uz,jq,dP z]
  exact iX (AB.ai _) (by simp only[dF,dG])
 have D:x.ends=[]:=by cases he:x.ends with | nil=>rfl | cons u Q=>rw[he]at J;simp at J
 refine lG (aY.mi (by exact hC) _ 90001 0 0 90015 (e:=53) (by decide) (by decide) (by exact iX (AB.ai _) (by simp only[cP,cJ])) (ru _) (ff qC z) (by exact rfl)) ?_;refine⟨⟨by omega,by simp only[cu,ct];exact c⟩,[HX.av (.ow 90015)],(by exact bQ (by rw[ct];exact c)),?_⟩;apply iW<;>intro G<;>try simp only[zB]at G
 ·obtain⟨u,Q,rfl⟩:∃u Q,q=u::Q:=by cases q with | nil=>simp at G | cons u Q=>exact⟨u,Q,rfl⟩
  refine⟨⟨by omega,by simp⟩,(wt u),rfl,iW ?_ ?_⟩<;>intro I<;>try simp only[zB]at I
  ·have e:eU x (u::Q)=ky u.1 ((false,0)):=by simp only[eU,D,wc,gJ,qH I]
   rw[e];refine⟨⟨by omega,by simp⟩,(wt u),rfl,_,_,(Pb u.1 ((false,0))),_,aY.jg (by exact hC) _ 90001 0 0 7 (e:=53) (es:=(x.queues.map qC).set 0 [.av (.ow 7)]) (e':=68) (xs:=(u::Q:List Wt).map wt) (by decide) (by exact iX (AB.ai _) (by simp only[oW,cP,cJ];rfl)) (by exact rfl) (by exact bQ (by rw[ct];exact c)) (by exact rfl),rfl,rfl,?_,rfl,?_,Z,Z,Y⟩
   ·refine iX (AB.ai _) ?_;show ((x.queues.map qC).set 0 [HX.av (.ow 7)]).set 0 [HX.row 68 ((u::Q:List Wt).map wt)]=_;rw[Uz,jq,dP z]
   exact iX (AB.ai _) (by simp only[dF,dG])
  have e:eU x (u::Q)=(false,0):=by simp only[eU,D,wc,gJ,af I]
  rw[e];refine⟨_,aY.jg (by exact hC) _ 90001 0 0 7 (e:=53) (es:=(x.queues.map qC).set 0 [.av (.ow 7)]) (e':=68) (xs:=(u::Q:List Wt).map wt) (by decide) (by exact iX (AB.ai _) (by simp only[oW,cP,cJ];rfl)) (by exact rfl) (by exact bQ (by rw[ct];exact c)) (by exact rfl),rfl,rfl,?_,rfl,?_,Z,Z,Y⟩
  ·refine iX (AB.ai _) ?_;show ((x.queues.map qC).set 0 [HX.av (.ow 7)]).set 0 [HX.row 68 ((u::Q:List Wt).map wt)]=_;rw[Uz,jq,dP z]
  exact iX (AB.ai _) (by simp only[dF,dG])
 obtain rfl:q=[]:=by cases q with | nil=>rfl | cons u Q=>simp at G
 have e:eU x []=(false,0):=by simp only[eU,D,wc,gJ]
 rw[e];refine⟨_,aY.jg (by exact hC) _ 90001 0 0 7 (e:=53) (es:=(x.queues.map qC).set 0 [.av (.ow 7)]) (e':=68) (xs:=([]:List Wt).map wt) (by decide) (by exact iX (AB.ai _) (by simp only[oW,cP,cJ];rfl)) (by exact rfl) (by exact bQ (by rw[ct];exact c)) (by exact rfl),rfl,rfl,?_,rfl,?_,Z,Z,Y⟩
 ·refine iX (AB.ai _) ?_;show ((x.queues.map qC).set 0 [HX.av (.ow 7)]).set 0 [HX.row 68 (([]:List Wt).map wt)]=_;rw[Uz,jq,dP z]
 exact iX (AB.ai _) (by simp only[dF,dG])
def dR(b:List Bool):Nat:=b.findIdx fun x=>!x
theorem ux{b:List Bool}{i:Nat}(h:∀x∈b.take i,x=true)(hi:i<=b.length):i<=dR b:=by
 unfold dR;by_cases e:i<=b.findIdx fun x=>!x
 ·exact e
 exfalso;have c:(b.findIdx fun x=>!x)<b.length:=by omega
 have z:=S7 (p:=fun x=>!x) (w:=c);have D:=h (b[b.findIdx fun x=>!x]) (List.mem_take_iff_getElem.2 ⟨_,by omega,rfl⟩);simp[D]at z
theorem zU(b:List Bool)(hN:b.length<=1000000):aT C 66 [.pv (.sl (b.map fun x=>[bool x])),.pv (bool false)] (.p (i64 (if dR b<b.length then (dR b:Int) else -1))) []:=by
 refine fW hC Tryz.func66 rfl (by kernel_rfl) fun _=>?_;have G:=cH b fun x=>[bool x];refine d_ (fun i:Nat=>i<=b.length/\∀x∈b.take i,x=true) (fun i=>[(0,.p (.sl (b.map fun x=>[bool x]))),(1,.p (bool false)),(7,.p (i64 b.length)),(8,.p (i64 i))]) (fun _=>[]) (fun i=>b.length-i) 0 _ (aY.refl _ _) ⟨nI _,by simp⟩ ⟨rfl,rfl,iX (fun n:Nat=>AV.p (i64 n)) G,Z,Y⟩ trivial fun i c t h=>?_;apply iW<;>intro I<;>try simp only[zB]at I
 ·obtain⟨x,z⟩:=a8 (l:=b) (i:=i) (by omega);refine⟨[bool x],(by exact⟨by omega,by rw[c8,ao,z];rfl⟩),?_⟩;cases x with
  | true=>
   refine⟨wO (by omega),(i+1),_,aY.refl _ _,⟨by omega,fun x D=>?_⟩,by omega,⟨Z,Z,Z,Z,Y⟩,trivial⟩;rw[bT z,cD,n9]at D;exact D.elim (c.2 x) fun e=>e
  | false=>
   have e:dR b=i:=by
    refine Nat.le_antisymm ?_ (ux c.2 c.1);refine Nat.le_of_not_lt fun J=>?_;have:=List.not_of_lt_findIdx J;rw[cL]at z;obtain⟨h3,N⟩:=z;simp[N]at this
   refine⟨?_,trivial⟩;rw[e,qH (by omega)]
 refine⟨?_,trivial⟩;have:=ux c.2 c.1;rw[af (by omega)];rfl
variable {l:List Wt}
theorem pM{i j:Nat}{a b w:Wt}(c:a∈l)(hb:b∈l)(h:w∈cO l i j a b):w∈l:=by
 unfold cO at h;rcases nJ h with h | h
 ·rcases nJ h with h | h
  ·exact h
  rw[h];exact hb
 rw[h];exact c
theorem Ba:∀(n:Nat) (l:List Wt) (j:Nat) (w:Wt),w∈uw n l j->w∈l
 | 0,l,j,w,h=>h
 | n+1,l,j,w,h=>by
  unfold uw at h;split at h
  ·rename_i a b c hb;split at h
   ·exact h
   split at h
   ·exact pM (aj hb) (aj c) (Ba n _ _ w h)
   exact h
  exact h
theorem uy:∀(f:Nat) (l:List Wt) (i n:Nat) (w:Wt),w∈c9 f l i n->w∈l
 | 0,l,i,n,w,h=>h
 | f+1,l,i,n,w,h=>by
  unfold c9 at h;split at h
  ·exact h
  split at h
  ·rename_i a b c hb;split at h
   ·exact pM (aj hb) (aj c) (uy f _ _ _ w h)
   exact h
  exact h
theorem pN(l:List Wt)(x:Wt):(eH l x).length=l.length+1:=by rw[eH,A8];simp
theorem Th{x w:Wt}(h:w∈eH l x):w∈l\/w=x:=by
 have:=Ba _ _ _ _ h;simpa using this
theorem xT{i n:Nat}(h:2*i+1<n):gg l i n<n:=by unfold gg;split<;>omega
theorem sH:∀(f:Nat) (l:List Wt) (i n m:Nat),n<=m->(c9 f l i n)[m]?=l[m]?
 | 0,l,i,n,m,h=>rfl
 | f+1,l,i,n,m,h=>by
  unfold c9;split
  ·rfl
  rename_i dv;split
  ·split
   ·have h1:=xT (l:=l) (i:=i) (n:=n) (by omega);rw[sH f _ _ _ m h,cO,bY (by omega),bY (by omega)]
   rfl
  rfl
def dD(l:List Wt):List Wt:=match l[0]?,l[l.length-1]? with
 | some a,some b=>(c9 (l.length-1) (cO l 0 (l.length-1) a b) 0 (l.length-1)).take (l.length-1)
 | _,_=>l
theorem oP(a:Wt)(l:List Wt):(dD (a::l)).length=l.length:=by
 obtain⟨b,hb⟩:∃b,(a::l)[(a::l).length-1]?=some b:=a8 (by simp);rw[dD,hb];simp only[qV,dI,jJ,cy,bw];omega
theorem lK{w:Wt}(h:w∈dD l):w∈l:=by
 unfold dD at h;split at h
 ·rename_i a b c hb;exact pM (aj c) (aj hb) (uy _ _ _ _ w (eM h))
 exact h
theorem E0(a:Wt)(l:List Wt)(hN:l.length<1000000):jm C 40 66 [] 68 ((a::l).map wt) (H7 a) ((dD (a::l)).map wt):=by
 obtain⟨b,hb⟩:∃b,(a::l)[(a::l).length-1]?=some b:=a8 (by simp);refine Mh (a::l) (dD (a::l)) a b a rfl hb ?_ (by simp;omega);rw[dD,hb];simp only[qV];have z:=sH ((a::l).length-1) (cO (a::l) 0 ((a::l).length-1) a b) 0 ((a::l).length-1) ((a::l).length-1) (aC _);have D:(cO (a::l) 0 ((a::l).length-1) a b)[(a::l).length-1]?=some a:=by
  rw[cO,bQ (by simp)]
 have h3:(c9 ((a::l).length-1) (cO (a::l) 0 ((a::l).length-1) a b) 0 ((a::l).length-1)).length=(a::l).length-1+1:=by rw[jJ,cy];simp
 have c:=bT (z.trans D);rw[vm (by omega)]at c;exact c
def oQ(l:List (List Wt)):Nat:=(l.map List.length).sum
theorem oR:∀{l:List (List Wt)} {i:Nat} {q:List Wt} (c:List Wt),l[i]?=some q->oQ (l.set i c)+q.length=oQ l+c.length
 | [],i,q,c,h=>by simp at h
 | a::l,0,q,c,h=>by
  simp at h;subst h;simp only[oQ,ik,qO,SX];omega
 | a::l,i+1,q,c,h=>by
  have:=oR (l:=l) c (by simpa using h);simp only[oQ,Ti,qO,SX]at this ⊢;omega
theorem sI:∀{l:List (List Wt)} {q:List Wt},q∈l->q.length<=oQ l
 | a::l,q,h=>by
  simp only[oQ,qO,SX];rcases fL.1 h with rfl | h
  ·omega
  have:=sI h;simp only[oQ]at this;omega
def yq(st:Stat)(w:Wt):Prop:=∃(i k:Nat) (r:List Nat) (g:Nat),w.2.1=i/\w.2.2=k/\st.gs[i]?=some r/\r[k]?=some g
def bU(st:Stat)(w:Wt):Nat:=pos st.gs w.2.1.toNat w.2.2.toNat
structure wm(st:Stat)(x:a_):Prop where
 ql:x.queues.length=st.steps.length
 bl:x.busy.length=st.steps.length
 jl:x.jobs.length=st.gs.flatten.length
 qw:∀q∈x.queues,∀w∈q,yq st w
 tot:oQ x.queues+x.ends.length<=500000
 bn:∀b∈x.busy,b.length<=1000
 now:0<=x.now/\x.now<=1000000000000000
 mn:∀s∈st.steps,0<=s.minutes/\s.minutes<=1000000
def Ww(i:Nat)(s:gI)(x:a_)(q:List Wt)(a:Wt)(b:List Bool)(m:Nat)(j:lH):a_:=
 {x with jobs:=x.jobs.set m { j with machine:=dR b,from_:=x.now },queues:=x.queues.set i (dD q),ends:=eH x.ends (x.now+s.minutes,a.2.1,a.2.2),busy:=x.busy.set i (b.set (dR b) true) }
def du(st:Stat)(i:Nat)(x:a_):Option a_:=match st.steps[i]?,x.queues[i]?,x.busy[i]? with
 | some s,some (a::Q),some b=>if a.1<=x.now/\dR b<b.length then match x.jobs[bU st a]? with
  | some j=>some (Ww i s x (a::Q) a b (bU st a) j)
  | none=>none
  else none
 | _,_,_=>none
def eo:Nat->Stat->Nat->a_->a_
 | 0,_,_,x=>x
 | n+1,st,i,x=>match du st i x with
  | some y=>eo n st i y
  | none=>x
def dE(st:Stat)(i:Nat)(x:a_):a_:=eo (bF x i).length st i x
def bV(st:Stat)(x:a_):a_:=(List.range st.steps.length).foldl (fun x i=>dE st i x) x
theorem yq.RZ{st:Stat}{x:a_}(h:wm st x){w:Wt}(I:yq st w):∃(i k:Nat) (r:List Nat) (g:Nat) (j:lH),w.2=((i:Int),(k:Int))/\st.gs[i]?=some r/\r[k]?=some g/\bU st w=pos st.gs i k/\x.jobs[pos st.gs i k]?=some j:=by
 obtain⟨i,k,r,g,c,z,D,G⟩:=I;have J:=gr st.gs i k r g D G;obtain⟨j,N⟩:=a8 (l:=x.jobs) (i:=pos st.gs i k) (by rw[h.jl];exact ah J);exact⟨i,k,r,g,j,UC c z,D,G,by rw[bU,c,z,c8,c8],N⟩
variable {j:lH}
theorem wm.start{st:Stat}{x:a_}(h:wm st x){i m:Nat}{s:gI}{a:Wt}{Q:List Wt}{b:List Bool}(G:x.queues[i]?=some (a::Q))(hb:x.busy[i]?=some b):wm st (Ww i s x (a::Q) a b m j):=by
 have J:=aj G;refine⟨by simp[Ww,h.ql],by simp[Ww,h.bl],by simp[Ww,h.jl],fun q z w I=>?_,?_,fun c D=>?_,h.now,h.mn⟩
 ·rcases nJ z with z | rfl
  ·exact h.qw q z w I
  exact h.qw _ J w (lK I)
 ·have N:(Ww i s x (a::Q) a b m j).ends.length=x.ends.length+1:=pN _ _;have O:=oR (dD (a::Q)) G;rw[oP,bw]at O;have h3:=h.tot;show oQ (x.queues.set i (dD (a::Q)))+(Ww i s x (a::Q) a b m j).ends.length<=500000;rw[N];omega
 rcases nJ D with D | rfl
 ·exact h.bn c D
 rw[cu];exact h.bn b (aj hb)
theorem zV{st:Stat}{i:Nat}{x y:a_}(h:du st i x=some y):∃s a Q b j,st.steps[i]?=some s/\x.queues[i]?=some (a::Q)/\x.busy[i]?=some b/\x.jobs[bU st a]?=some j/\y=Ww i s x (a::Q) a b (bU st a) j:=by
 unfold du at h;split at h
 ·rename_i s a Q b c z D;split at h
  ·split at h
   ·rename_i j G;injection h with h;exact⟨s,a,Q,b,j,c,z,D,G,h.symm⟩
   cases h
  cases h
 cases h
theorem xU{st:Stat}{i:Nat}{x y:a_}(h:du st i x=some y):dE st i y=dE st i x:=by
 obtain⟨s,a,Q,b,j,h1,c,h3,h4,rfl⟩:=zV h;have z:(bF x i).length=Q.length+1:=by rw[bF,c];rfl
 have D:(bF (Ww i s x (a::Q) a b (bU st a) j) i).length=Q.length:=by
  show (((x.queues.set i (dD (a::Q)))[i]?).getD []).length=_;rw[bQ (ah c)];exact oP a Q
 rw[dE,dE,z,D,eo,h]
theorem xV{st:Stat}{i:Nat}{x:a_}(h:du st i x=none):dE st i x=x:=by
 unfold dE;cases (bF x i).length with
 | zero=>rfl
 | succ n=>rw[eo,h]
def Pc(st:Stat)(x:a_)(i:Nat):List (Nat×AB):=[(100000,.box (H9 st x)),(90001,.ai 53 ((x.queues.map qC).set i [.av (.ow 90015)])),(90015,.row 68 ((bF x i).map wt)),(90002,.row 68 (x.ends.map wt)),(90003,.ai 59 (x.busy.map bC)),(90004,.row 34 (x.done.map dc)),(90010,.fam (nz st.gs.flatten x.jobs) [])]
theorem zW(f:α->Nat->α)(a:α){i n:Nat}(h:i<n):(List.range' i (n-i)).foldl f a=(List.range' (i+1) (n-(i+1))).foldl f (f a i):=by
 rw[show n-i=(n-(i+1))+1 by omega,List.range'_succ,uY]
theorem GQ(st:Stat)(x:a_)(hx:wm st x)(hS:st.steps.length<=1000):cR C 41 [.bx 100000 0] (kK st x) (.tu []) (kK st (bV st x)):=by
 have lm:=cH st.steps gq;refine Kz ⟨[5,7,9],[],[],[12],[],[]⟩ hC Tryz.func41 rfl (by kernel_rfl) fun _=>?_;refine d_ (fun p:Nat×a_=>p.1<=st.steps.length/\wm st p.2/\(List.range' p.1 (st.steps.length-p.1)).foldl (fun x i=>dE st i x) p.2=bV st x) (fun p=>[(0,.bx 100000 0),(11,.p (.sl (st.steps.map gq))),(12,.p (i64 st.steps.length)),(13,.p (i64 p.1))]) (fun p=>kK st p.2) (fun p=>st.steps.length-p.1) (0,x) _ (aY.refl _ _) ⟨nI _,hx,by rw[bV,List.range_eq_range',Nat.sub_zero]⟩ ⟨rfl,rfl,iX (fun n:Nat=>AV.p (i64 n)) lm,Z,Y⟩ ⟨Z,Z,Z,Z,Z,Z,Y⟩ fun ⟨i,y⟩ hk t h=>?_;simp only at hk;obtain⟨k1,k2,k3⟩:=hk;apply iW<;>intro h1<;>try simp only[zB]at h1
 ·have J:i<st.steps.length:=by simpa using h1
  obtain⟨s,hs⟩:=a8 J;refine⟨(gq s),(idx rfl hs),?_⟩;have Qn:i<y.queues.length:=by rw[k2.ql];exact J
  obtain⟨q0,yp⟩:=a8 Qn;have Pd:bF y i=q0:=by rw[bF,yp];rfl
  refine⟨⟨by omega,by simp only[cP,ct,c8];exact Qn⟩,?_⟩;refine d_ (fun z:a_=>wm st z/\dE st i z=dE st i y) (fun _=>[(0,.bx 100000 0),(2,.p (i64 i)),(3,.bx 3 0),(4,.rp 90001 i 0),(11,.p (.sl (st.steps.map gq))),(12,.p (i64 st.steps.length)),(13,.p (i64 i))]) (fun z=>(3,.box ((gq s).map .p))::Pc st z i) (fun z=>(bF z i).length) y _ (aY.mi (by exact hC) _ 90001 i 0 90015 (e:=53) (by decide) (by decide) (by exact iX (AB.ai _) (by simp only[cP,cJ])) (ru _) (ff qC yp) (by exact rfl)) ⟨k2,rfl⟩ ⟨Z,Z,Z,Z,Z,Z,Z,Y⟩ ?_ fun z hz t h=>?_
  ·exact⟨rfl,rfl,rfl,by rw[Pd];rfl,rfl,iX (AB.ai _) (by simp only[dF,dG]),Z,Z,Y⟩
  obtain⟨D,z2⟩:=hz;have Ni:i<z.queues.length:=by rw[D.ql];exact J
  have GR:i<z.busy.length:=by rw[D.bl];exact J
  obtain⟨b,hb⟩:=a8 GR;obtain⟨N,G⟩:=a8 Ni;have I:bF z i=N:=by rw[bF,G];rfl
  have O:((z.queues.map qC).set i [HX.av (.ow 90015)])[i]?=some [HX.av (.ow 90015)]:=bQ (by rw[ct];exact Ni);have Bb:((z.busy.map bC).set i [HX.av (.ow 90013)])[i]?=some [HX.av (.ow 90013)]:=bQ (by rw[ct];exact GR);have Bc:((z.queues.map qC).set i [HX.av (.ow 90015)]).set i [HX.row 68 (N.map wt)]=z.queues.map qC:=by rw[Uz,jq,dP G]
  have Mj:((z.busy.map bC).set i [HX.av (.ow 90013)]).set i [HX.row 4 (b.map fun x=>[bool x])]=z.busy.map bC:=by rw[Uz,zT,dP hb]
  have stop:du st i z=none->(List.range' (i+1) (st.steps.length-(i+1))).foldl (fun x i=>dE st i x) z=bV st x:=fun h0=>by
   rw[<-k3];rw[zW _ _ J,<-z2,xV h0]
  refine⟨[HX.av (.ow 90015)],O,iW ?_ ?_⟩<;>intro V<;>try simp only[zB]at V
  ·obtain⟨a,Q,rfl⟩:∃a Q,N=a::Q:=by cases N with | nil=>rw[I]at V;simp at V | cons u Q=>exact⟨u,Q,rfl⟩
   have R0:((bF z i).map wt)[0]?=some (wt a):=by rw[I];rfl
   have Pe:0<((bF z i).map wt).length:=by rw[I];simp
   refine⟨[HX.av (.ow 90015)],O,⟨by omega,Pe⟩,(wt a),R0,iW ?_ ?_⟩<;>intro h3<;>try simp only[zB]at h3
   ·refine lG (aY.mi (by exact hC) _ 90003 i 0 90013 (e:=59) (by decide) (by decide) (by exact iX (AB.ai _) (by simp only[dF,dG])) (A9 _) (ff bC hb) (by exact rfl)) ?_;refine⟨⟨by omega,by simp only[cu,ct,c8];exact GR⟩,[HX.av (.ow 90013)],(by rw[c8];exact Bb),?_⟩;have C2:=zU b (by have:=D.bn b (aj hb);omega);by_cases U:dR b<b.length
    ·rw[qH U]at C2;refine⟨_,_,C2,?_⟩;obtain⟨c,k,r,g,j,Qo,cK,M1,hpos,hj⟩:=yq.RZ D (D.qw _ (aj G) a dJ);obtain⟨at_,a2⟩:=a;simp only at Qo;subst Qo;have O9:du st i z=some (Ww i s z ((at_,(c:Int),(k:Int))::Q) (at_,c,k) b (pos st.gs c k) j):=by
      rw[du,hs,G,hb];simp only;rw[qH ⟨h3,U⟩,hpos,hj]
     have hg:=gr st.gs c k r g cK M1;have hf:=zS hg hj;have hlen:=D.tot;have Az:=sI (aj G);simp only[bw]at Az;refine lG ((aY.jg (by exact hC) _ 90001 i 0 90015 (e:=53) (es:=(z.queues.map qC).set i [.av (.ow 90015)]) (e':=68) (xs:=(((at_,(c:Int),(k:Int))::Q:List Wt)).map wt) (by decide) (by exact iX (AB.ai _) (by simp only[oW,cP,cJ];rfl)) (by exact iX (AB.row _) (by rw[I])) O (by exact rfl)).trans (aY.KA _ 90001 (.ai 53 (z.queues.map qC)) (by exact iX (AB.ai _) Bc))) ?_;refine⟨(qC ((at_,(c:Int),(k:Int))::Q)),(by simp only[cP,cJ];exact ff qC G),_,_,E0 (at_,c,k) Q (by omega),rfl,jL _,[CE r],(idx rfl cK),[ptr g],(idx rfl M1),?_⟩;refine lG ((aY.zJ (by exact hC) _ 90010 90012 7 (pos st.gs c k) (by decide) (by decide) (by exact rfl) hf (by exact rfl)).trans (aY.open (by exact hC) _ 90012 [90014] (by exact rfl) (by exact rfl) (by exact rfl) (by exact rfl))) ?_;refine⟨⟨by omega,by simp only[cu,ct,c8];exact GR⟩,[HX.av (.ow 90013)],(by simp only[oW,dF,dG];exact Bb),⟨by omega,by rw[c8,ct];exact U⟩,?_⟩;obtain⟨b0,Yf⟩:=a8 U;refine⟨[bool b0],(by rw[c8,ao,Yf];rfl),?_⟩;have Pf:=D.now;have SC:=D.mn s (aj hs);refine⟨wO (by omega),_,_,wb z.ends (z.now+s.minutes,c,k) (by omega),rfl,jL _,?_⟩;have Pg:wm st (Ww i s z ((at_,(c:Int),(k:Int))::Q) (at_,c,k) b (pos st.gs c k) j):=D.start G hb;have e2:bF (Ww i s z ((at_,(c:Int),(k:Int))::Q) (at_,c,k) b (pos st.gs c k) j) i=dD ((at_,(c:Int),(k:Int))::Q):=by
      show ((z.queues.set i (dD _))[i]?).getD []=_;rw[bQ Ni];rfl
     refine⟨Ww i s z ((at_,(c:Int),(k:Int))::Q) (at_,c,k) b (pos st.gs c k) j,_,(((((aY.pack (by exact hC) _ 90012 (cs:=pL { j with machine:=dR b,from_:=z.now }) (by exact rfl) (by exact rfl) (by exact⟨Z,Z,Z,Z,Z,Z,Z,Z,Z,Y⟩)).trans (aY.sr (by exact hC) _ 90010 90012 (pos st.gs c k) (by exact rfl) (by exact rfl) hf)).trans (aY.jg (by exact hC) _ 90003 i 0 90013 (e:=59) (es:=(z.busy.map bC).set i [.av (.ow 90013)]) (e':=4) (xs:=(b.set (dR b) true).map fun x=>[bool x]) (by decide) (by exact iX (AB.ai _) (by simp only[oW,dF,dG];rfl)) (by exact iX (AB.row _) (by rw[oW];rfl)) Bb (by exact rfl))).trans (aY.KA _ 90003 (.ai 59 ((z.busy.set i (b.set (dR b) true)).map bC)) (by exact iX (AB.ai _) (by show ((z.busy.map bC).set i _).set i [HX.row _ _]=_;rw[Uz,zT])))).trans (aY.ez _ 102 90002 (by decide) (by decide))).trans (aY.mi (by exact hC) _ 90001 i 0 90015 (e:=53) (es:=(z.queues.set i (dD ((at_,(c:Int),(k:Int))::Q))).map qC) (by decide) (by decide) (by exact iX (AB.ai _) (by simp only[oW,cP,cJ];rfl)) (ru _) (ff qC (bQ Ni)) (by exact rfl)),⟨Pg,by rw[xU O9,z2]⟩,?_,⟨Z,Z,Z,Z,Z,Z,Z,Y⟩,⟨rfl,rfl,rfl,?_,rfl,?_,rfl,?_,trivial⟩⟩
     ·rw[e2,oP,I];simp
     ·rw[e2];rfl
     ·exact iX (AB.ai _) (by simp only[dF,dG];rfl)
     exact iX (fun l=>AB.fam l []) (kx hg)
    rw[af U]at C2;refine⟨_,_,C2,wO (by omega),(i+1,z),_,((aY.jg (by exact hC) _ 90003 i 0 90013 (e:=59) (es:=(z.busy.map bC).set i [.av (.ow 90013)]) (e':=4) (xs:=b.map fun x=>[bool x]) (by decide) (by exact iX (AB.ai _) (by simp only[oW,dF,dG];rfl)) (by exact rfl) Bb (by exact rfl)).trans (aY.KA _ 90003 (.ai 59 (z.busy.map bC)) (by exact iX (AB.ai _) Mj))).trans ((aY.jg (by exact hC) _ 90001 i 0 90015 (e:=53) (es:=(z.queues.map qC).set i [.av (.ow 90015)]) (e':=68) (xs:=(a::Q:List Wt).map wt) (by decide) (by exact iX (AB.ai _) (by simp only[oW,cP,cJ];rfl)) (by exact iX (AB.row _) (by rw[I])) O (by exact rfl)).trans (aY.KA _ 90001 (.ai 53 (z.queues.map qC)) (by exact iX (AB.ai _) Bc))),⟨by omega,D,stop ?_⟩,by simp only;omega,⟨Z,Z,Z,Z,Y⟩,⟨rfl,rfl,rfl,?_,Z,Z,Y⟩⟩
    ·rw[du,hs,G,hb];simp only;rw[af fun h=>U h.2]
    exact iX (AB.ai _) (by simp only[dF,dG])
   refine⟨wO (by omega),(i+1,z),_,((aY.jg (by exact hC) _ 90001 i 0 90015 (e:=53) (es:=(z.queues.map qC).set i [.av (.ow 90015)]) (e':=68) (xs:=(a::Q:List Wt).map wt) (by decide) (by exact iX (AB.ai _) (by simp only[oW,cP,cJ];try rfl)) (by exact iX (AB.row _) (by rw[I])) O (by exact rfl)).trans (aY.KA _ 90001 (.ai 53 (z.queues.map qC)) (by exact iX (AB.ai _) Bc))),⟨by omega,D,stop ?_⟩,by simp only;omega,⟨Z,Z,Z,Z,Y⟩,⟨rfl,rfl,rfl,?_,Z,Z,Y⟩⟩
   ·rw[du,hs,G,hb];simp only;rw[af fun h=>h3 h.1]
   exact iX (AB.ai _) (by simp only[dF,dG])
  obtain rfl:N=[]:=by cases N with | nil=>rfl | cons u Q=>rw[I]at V;simp at V
  refine⟨wO (by omega),(i+1,z),_,((aY.jg (by exact hC) _ 90001 i 0 90015 (e:=53) (es:=(z.queues.map qC).set i [.av (.ow 90015)]) (e':=68) (xs:=([]:List Wt).map wt) (by decide) (by exact iX (AB.ai _) (by simp only[oW,cP,cJ];try rfl)) (by exact iX (AB.row _) (by rw[I])) O (by exact rfl)).trans (aY.KA _ 90001 (.ai 53 (z.queues.map qC)) (by exact iX (AB.ai _) Bc))),⟨by omega,D,stop ?_⟩,by simp only;omega,⟨Z,Z,Z,Z,Y⟩,⟨rfl,rfl,rfl,?_,Z,Z,Y⟩⟩
  ·rw[du,hs,G,hb]
  exact iX (AB.ai _) (by simp only[dF,dG])
 have J:i=st.steps.length:=by
  have:¬(i:Int)<st.steps.length:=by simpa using h1
  omega
 subst J;have e:y=bV st x:=by rw[<-k3,gX];rfl
 rw[<-e];exact⟨_,aY.refl _ _,Z,Z,Z,Z,Z,Z,Z,Y⟩
def tC(st:Stat)(f:Fl):Bool:=st.bad.any fun g=>decide (g.lot=f.lot/\g.panel=f.panel/\g.step=f.step/\g.visit=f.visit)
def eI(st:Stat)(x:a_):Option a_:=match x.ends with
 | []=>none
 | w::W=>if w.1=x.now then match x.jobs[bU st w]?,st.lots[w.2.1.toNat]? with
  | some j,some lt=>match st.steps[j.step]?,x.busy[j.step]?,j.visits[j.step]? with
   | some s,some b,some v=>some (mM st { x with ends:=dD x.ends } w w.2.2.toNat (bU st w) j s b v lt.name (tC st ⟨lt.name,w.2.2,j.step,v+1⟩))
   | _,_,_=>none
  | _,_=>none
  else none
def fx(st:Stat)(x:a_)(w:Wt):Nat:=match x.jobs[bU st w]? with
 | some j=>(5-j.made.rework).toNat*st.steps.length+(st.steps.length-j.step)
 | none=>0
def fF(x:a_)(w:Wt):Nat:=if x.now<w.1 then 1 else 0
def bK(f:Wt->Nat)(l:List Wt):Nat:=(l.map f).sum
def eJ(f:Wt->Nat)(l:List (List Wt)):Nat:=(l.map (bK f)).sum
def eW(st:Stat)(x:a_):Nat:=eJ (fun w=>4*fx st x w+2+fF x w) x.queues+bK (fun w=>4*fx st x w+fF x w) x.ends
def kz:Nat->Stat->a_->a_
 | 0,_,x=>x
 | n+1,st,x=>match eI st x with
  | some y=>kz n st y
  | none=>x
def fy(st:Stat)(x:a_):a_:=kz (eW st x) st x
def iU:Nat->Stat->a_->a_
 | 0,_,x=>x
 | n+1,st,x=>match eU (bV st (fy st x)) (bF (bV st (fy st x)) 0) with
  | (true,a)=>iU n st { bV st (fy st x) with now:=a }
  | (false,_)=>bV st (fy st x)
def iV(st:Stat)(x:a_):a_:=iU (eW st x+1) st x
def qE(x:a_)(p:Int×Int):Nat:=eJ (fun w=>if w.2=p then 1 else 0) x.queues+bK (fun w=>if w.2=p then 1 else 0) x.ends
def Heap(l:List Wt):Prop:=∀c a b,0<c->l[c]?=some a->l[(c-1) / 2]?=some b->qt a b=false
def WD:Nat:=15000000
structure SZ(st:Stat)(x:a_):Prop where
 sv:wm st x
 hs:0<st.steps.length/\st.steps.length<=1000
 hb:∀(i:Nat) (s:gI),st.steps[i]?=some s->s.back<=i/\1<=s.minutes
 hl:st.lots.length=st.gs.length
 eh:Heap x.ends
 qh:∀q∈x.queues,Heap q
 ew:∀w∈x.ends,yq st w/\x.now<=w.1
 jv:∀j∈x.jobs,j.step<st.steps.length/\j.visits.length=st.steps.length/\(∀v∈j.visits,0<=v/\v<=x.done.length)/\0<=j.made.rework/\j.made.rework<=5
 un:∀p,qE x p<=1
 qs:∀i q w,x.queues[i]?=some q->w∈q->∃j,x.jobs[bU st w]?=some j/\j.step=i
 es:∀w∈x.ends,∃j b,x.jobs[bU st w]?=some j/\x.busy[j.step]?=some b/\j.machine<b.length
 dn:2*x.done.length+eW st x<=WD
 tm:∀w,(w∈x.ends\/∃q∈x.queues,w∈q)->w.1<=1000000000+1000000*((WD:Int)-eW st x)
 tn:x.now<=1000000000+1000000*((WD:Int)-eW st x)
def FH(a b:Wt):Prop:=a.1<b.1\/a.1=b.1/\(a.2.1<b.2.1\/a.2.1=b.2.1/\a.2.2<b.2.2)
theorem Xt(a b:Wt):qt a b=true↔FH a b:=by
 have key:∀x y:Int,(x<y/\jI x y=-1)\/(x=y/\jI x y=0)\/(y<x/\jI x y=1):=fun x y=>by
  unfold jI;split
  ·exact .inl ⟨by assumption,rfl⟩
  split
  ·exact .inr (.inr ⟨by assumption,rfl⟩)
  exact .inr (.inl ⟨by omega,rfl⟩)
 simp only[qt,dS,FH];rcases key a.1 b.1 with⟨G,c⟩ | ⟨G,c⟩ | ⟨G,c⟩<;>rcases key a.2.1 b.2.1 with⟨I,z⟩ | ⟨I,z⟩ | ⟨I,z⟩<;>rcases key a.2.2 b.2.2 with⟨J,D⟩ | ⟨J,D⟩ | ⟨J,D⟩<;>rw[c,z,D]<;>simp only[A6]<;>simp<;>omega
theorem TK(a b:Wt):qt a b=false↔¬FH a b:=by
 rw[<-Xt];simp
theorem sJ{a b c:Wt}(h1:qt b a=false)(h2:qt c b=false):qt c a=false:=by
 rw[TK]at *;unfold FH at *;omega
theorem E1{a b:Wt}(h:qt a b=true):qt b a=false:=by
 rw[Xt]at h;rw[TK];unfold FH at *;omega
theorem JB{a b c:Wt}(h:qt a b=true)(h2:qt c b=false):qt c a=false:=by
 rw[Xt]at h;rw[TK]at *;unfold FH at *;omega
def Mk(l:List Wt)(c p:Nat):Prop:=∀a b,l[c]?=some a->l[p]?=some b->qt a b=false
theorem mz{i j:Nat}{a b:Wt}(D:l[i]?=some a)(G:l[j]?=some b)(c:Nat):(cO l i j a b)[c]?=if c=j then some a else if c=i then some b else l[c]?:=by
 unfold cO;by_cases e:c=j
 ·subst e;rw[qH rfl,bQ (by rw[cu];exact ah G)]
 rw[af e,bY (fun h=>e h.symm)];by_cases z:c=i
 ·subst z;rw[qH rfl,bQ (ah D)]
 rw[af z,bY (fun h=>z h.symm)]
theorem Bd:∀(n:Nat) (l:List Wt) (j:Nat),j<n->(∀c,0<c->c≠j->Mk l c ((c-1) / 2))->(∀c,0<c->(c-1) / 2=j->0<j->Mk l c ((j-1) / 2))->Heap (uw n l j)
 | 0,l,j,h,_,_=>by omega
 | n+1,l,j,h,h1,h2=>by
  unfold uw;split
  ·rename_i a b V hb;split
   ·rename_i e;intro c x y I D z;exact h1 c I (by omega) x y D z
   rename_i e;split
   ·rename_i J;have Y:=mz hb V;refine Bd n _ _ (by omega) (fun c I N x y D z=>?_) (fun c I N hp x y D z=>?_)
    ·rw[Y]at D z;by_cases G:c=j
     ·subst G;rw[qH rfl]at D;rw[af (by omega),qH rfl]at z;injection D with D;injection z with z;subst D;subst z;exact E1 J
     rw[af G,af N]at D;by_cases O:(c-1) / 2=j
     ·rw[qH O]at z;injection z with z;subst z;exact h2 c I O (by omega) x b D hb
     rw[af O]at z;by_cases U:(c-1) / 2=(j-1) / 2
     ·rw[qH U]at z;injection z with z;subst z;exact JB J (h1 c I G x b D (by rw[U];exact hb))
     rw[af U]at z;exact h1 c I G x y D z
    rw[Y]at D z;rw[af (by omega),af (by omega)]at z;have Z:=h1 ((j-1) / 2) hp (by omega) b y hb z;by_cases G:c=j
    ·rw[qH G]at D;injection D with D;subst D;exact Z
    rw[af G,af (by omega)]at D;exact sJ Z (h1 c I G x b D (by rw[N];exact hb))
   rename_i J;have J:qt a b=false:=by simpa using J
   intro c x y I D z;by_cases G:c=j
   ·subst G;rw[V]at D;rw[hb]at z;injection D with D;injection z with z;subst D;subst z;exact J
   exact h1 c I G x y D z
  rename_i tP;intro c x y I D z;by_cases G:c=j
  ·subst G;exact (tP x y D z).elim
  exact h1 c I G x y D z
theorem nB(x:Wt)(h:Heap l):Heap (eH l x):=by
 refine Bd _ _ _ (by omega) (fun c D SD a b z hb=>?_) (fun c D BY hp a b z hb=>?_)
 ·have hl:=ah z;simp only[fj,aw]at hl;rw[ba (by omega)]at z;rw[ba (by omega)]at hb;exact h c a b D z hb
 have hl:=ah z;simp only[fj,aw]at hl;omega
def Ml(l:List Wt)(n:Nat):Prop:=∀c,0<c->c<n->Mk l c ((c-1) / 2)
theorem xW{a b:Nat}{x y:Wt}(c:l[a]?=some x)(z:l[b]?=some y):EV l a b=qt x y:=by rw[EV,c,z]
theorem uA:∀(f:Nat) (l:List Wt) (i n:Nat),n<=l.length->n-i<=f->(∀c,0<c->c<n->(c-1) / 2≠i->Mk l c ((c-1) / 2))->(∀c,0<c->c<n->(c-1) / 2=i->0<i->Mk l c ((i-1) / 2))->Ml (c9 f l i n) n
 | 0,l,i,n,hn,hf,h1,h2=>fun c J I x y z D=>h1 c J I (by omega) x y z D
 | f+1,l,i,n,hn,hf,h1,h2=>by
  unfold c9;split
  ·exact fun c J I x y z D=>h1 c J I (by omega) x y z D
  rename_i dv;have Y:=xT (l:=l) (i:=i) (n:=n) (by omega);have wR:=xS l i n;have Z:(gg l i n-1) / 2=i:=by unfold gg;split<;>omega
  have least:∀c x a,0<c->c<n->(c-1) / 2=i->l[c]?=some x->l[gg l i n]?=some a->qt x a=false:=fun c x a J I U z G=>by
   unfold gg at G;split at G
   ·rename_i hp;rcases (by omega:c=2*i+1\/c=2*i+2) with e | e
    ·subst e;rw[xW G z]at hp;exact E1 hp.2
    subst e;rw[z]at G;injection G with G;subst G;rw[TK];unfold FH;omega
   rename_i hp;rcases (by omega:c=2*i+1\/c=2*i+2) with e | e
   ·subst e;rw[z]at G;injection G with G;subst G;rw[TK];unfold FH;omega
   subst e;cases hq:qt x a with
   | false=>rfl
   | true=>exact (hp ⟨I,by rw[xW z G];exact hq⟩).elim
  obtain⟨j,hj⟩:∃j,gg l i n=j:=⟨_,rfl⟩;rw[hj]at Y wR Z least ⊢;split
  ·rename_i a b G hb;split
   ·rename_i O;have hg:=mz hb G;refine uA f _ _ n (by rw[cy];exact hn) (by omega) (fun c J I U x y z D=>?_) (fun c J I U hp x y z D=>?_)
    ·rw[hg]at z D;by_cases ec:c=j
     ·rw[qH ec]at z;rw[af (by omega),qH (by omega)]at D;injection z with z;injection D with D;subst z;subst D;exact E1 O
     rw[af ec]at z;rw[af U]at D;by_cases N:(c-1) / 2=i
     ·rw[qH N]at D;rw[af (by omega)]at z;injection D with D;subst D;exact least c x a J I N z G
     rw[af N]at D;by_cases V:c=i
     ·rw[qH V]at z;injection z with z;subst z;subst V;exact h2 j (by omega) Y Z (by omega) a y G D
     rw[af V]at z;exact h1 c J I N x y z D
    rw[hg]at z D;rw[af (by omega),af (by omega)]at z;rw[af (by omega),qH (by omega)]at D;injection D with D;subst D;exact h1 c J I (by omega) x a z (by rw[U];exact G)
   rename_i O;have O:qt a b=false:=by simpa using O
   intro c J I x y z D;by_cases N:(c-1) / 2=i
   ·rw[N,hb]at D;injection D with D;subst D;exact sJ O (least c x a J I N z G)
   exact h1 c J I N x y z D
  rename_i tP;obtain⟨a,G⟩:=a8 (l:=l) (i:=j) (by omega);obtain⟨b,hb⟩:=a8 (l:=l) (i:=i) (by omega);exact (tP a b G hb).elim
theorem uB(h:Heap l):Heap (dD l):=by
 unfold dD;split
 ·rename_i a b I hb;have hl:=ah I;have J:=mz I hb;have key:=uA (l.length-1) (cO l 0 (l.length-1) a b) 0 (l.length-1) (by rw[cy];omega) (by omega) (fun c G N O x y z D=>by
   rw[J]at z D;rw[af (by omega),af (by omega)]at z;rw[af (by omega),af (by omega)]at D;exact h c x y G z D) (fun c G N O hp=>by omega)
  intro c x y G z D;have U:=ah z;simp only[dI]at U;rw[aF (by omega)]at z;rw[aF (by omega)]at D;exact key c G (by omega) x y z D
 exact h
theorem E2{l:List Wt}(h:Heap l){a:Wt}(D:l[0]?=some a)(c:Nat):∀w,l[c]?=some w->qt w a=false:=by
 induction c using Nat.strongRecOn with
 | _ c ih=>
  intro w z;by_cases e:c=0
  ·subst e;rw[D]at z;injection z with z;subst z;rw[TK];unfold FH;omega
  obtain⟨p,hp⟩:=a8 (l:=l) (i:=(c-1) / 2) (by have:=ah z;omega);exact sJ (ih _ (by omega) p hp) (h c w p (by omega) z hp)
theorem Be{a:Wt}(h:Heap (a::l)){w:Wt}(z:w∈a::l):a.1<=w.1:=by
 obtain⟨c,D⟩:=uU.1 z;have:=E2 h rfl c w D;rw[TK]at this;unfold FH at this;omega
theorem sK{f:Wt->Nat}:∀{l:List Wt} {i:Nat} {a:Wt} (b:Wt),l[i]?=some a->bK f (l.set i b)+f a=bK f l+f b
 | [],i,a,b,h=>by simp at h
 | x::l,0,a,b,h=>by
  simp at h;subst h;simp only[bK,ik,qO,SX];omega
 | x::l,i+1,a,b,h=>by
  have:=sK (f:=f) (l:=l) b (by simpa using h);simp only[bK,Ti,qO,SX]at this ⊢;omega
theorem pO{f:Wt->Nat}{i j:Nat}{a b:Wt}(c:l[i]?=some a)(z:l[j]?=some b):bK f (cO l i j a b)=bK f l:=by
 have h1:=sK (f:=f) b c;have D:(l.set i b)[j]?=some b:=by
  by_cases e:j=i
  ·subst e;rw[bQ (ah c)]
  rw[bY (fun h=>e h.symm)];exact z
 have h3:=sK (f:=f) a D;unfold cO;omega
theorem Bf{f:Wt->Nat}:∀(n:Nat) (l:List Wt) (j:Nat),bK f (uw n l j)=bK f l
 | 0,l,j=>rfl
 | n+1,l,j=>by
  unfold uw;split
  ·rename_i a b c hb;split
   ·rfl
   split
   ·rw[Bf n,pO hb c]
   rfl
  rfl
theorem uC{f:Wt->Nat}:∀(k:Nat) (l:List Wt) (i n:Nat),bK f (c9 k l i n)=bK f l
 | 0,l,i,n=>rfl
 | k+1,l,i,n=>by
  unfold c9;split
  ·rfl
  split
  ·rename_i a b c hb;split
   ·rw[uC k,pO hb c]
   rfl
  rfl
theorem xX{f:Wt->Nat}(l m:List Wt):bK f (l++m)=bK f l+bK f m:=by simp[bK]
theorem jM{f:Wt->Nat}(l:List Wt)(x:Wt):bK f (eH l x)=bK f l+f x:=by
 rw[eH,Bf,xX];simp[bK]
theorem oS{f:Wt->Nat}(a:Wt)(l:List Wt):bK f (dD (a::l))+f a=bK f (a::l):=by
 obtain⟨b,hb⟩:∃b,(a::l)[(a::l).length-1]?=some b:=a8 (by simp);have h0:(a::l)[0]?=some a:=rfl;have e:dD (a::l)=(c9 ((a::l).length-1) (cO (a::l) 0 ((a::l).length-1) a b) 0 ((a::l).length-1)).take ((a::l).length-1):=by rw[dD,hb];rfl
 have c:=sH ((a::l).length-1) (cO (a::l) 0 ((a::l).length-1) a b) 0 ((a::l).length-1) ((a::l).length-1) (aC _);rw[mz h0 hb,qH rfl]at c;have z:=bT c;rw[vm (by rw[jJ,cy];omega)]at z;have D:=iX (bK f) z;rw[uC,pO h0 hb,xX,<-e]at D;simp only[bK,qO,rA,SX,Bv]at D ⊢;omega
theorem jN{f:Wt->Nat}:∀{l:List (List Wt)} {i:Nat} {q:List Wt} (c:List Wt),l[i]?=some q->eJ f (l.set i c)+bK f q=eJ f l+bK f c
 | [],i,q,c,h=>by simp at h
 | a::l,0,q,c,h=>by
  simp at h;subst h;simp only[eJ,ik,qO,SX];omega
 | a::l,i+1,q,c,h=>by
  have:=jN (f:=f) (l:=l) c (by simpa using h);simp only[eJ,Ti,qO,SX]at this ⊢;omega
theorem kA{f g:Wt->Nat}:∀{l:List Wt},(∀w∈l,f w<=g w)->bK f l<=bK g l
 | [],_=>aC _
 | a::l,h=>by
  have c:=kA (l:=l) fun w z=>h w (An _ z);have h2:=h a dJ;simp only[bK,qO,SX]at c ⊢;omega
theorem mA{f g:Wt->Nat}:∀{l:List (List Wt)},(∀q∈l,∀w∈q,f w<=g w)->eJ f l<=eJ g l
 | [],_=>aC _
 | a::l,h=>by
  have c:=mA (l:=l) fun q z=>h q (An _ z);have h2:=kA (h a dJ);simp only[eJ,qO,SX]at c ⊢;omega
theorem jO{f:Wt->Nat}:∀{l:List Wt} {w:Wt},w∈l->f w<=bK f l
 | a::l,w,h=>by
  simp only[bK,qO,SX];rcases fL.1 h with rfl | h
  ·omega
  have:=jO (f:=f) h;simp only[bK]at this;omega
theorem sL{f:Wt->Nat}:∀{l:List (List Wt)} {q:List Wt},q∈l->bK f q<=eJ f l
 | a::l,q,h=>by
  simp only[eJ,qO,SX];rcases fL.1 h with rfl | h
  ·omega
  have:=sL (f:=f) h;simp only[eJ]at this;omega
theorem wu{f g:Wt->Nat}:∀{l:List Wt} {w:Wt},(∀w∈l,f w<=g w)->w∈l->f w<g w->bK f l<bK g l
 | a::l,w,h,c,D=>by
  have h2:=h a dJ;simp only[bK,qO,SX];rcases fL.1 c with rfl | c
  ·have z:=kA (l:=l) fun w c=>h w (An _ c);simp only[bK]at z;omega
  have z:=wu (l:=l) (fun w c=>h w (An _ c)) c D;simp only[bK]at z;omega
theorem Bg{f g:Wt->Nat}:∀{l:List (List Wt)} {q:List Wt} {w:Wt},(∀q∈l,∀w∈q,f w<=g w)->q∈l->w∈q->f w<g w->eJ f l<eJ g l
 | a::l,q,w,h,c,hw,D=>by
  have h2:=kA (h a dJ);simp only[eJ,qO,SX];rcases fL.1 c with rfl | c
  ·have z:=mA (l:=l) fun q c=>h q (An _ c);have h3:=wu (h q dJ) hw D;simp only[eJ]at z;omega
  have z:=Bg (l:=l) (fun q c=>h q (An _ c)) c hw D;simp only[eJ]at z;omega
theorem lM(a:List Nat)(gs:List (List Nat))(i k:Nat):pos (a::gs) (i+1) k=a.length+pos gs i k:=by
 simp only[pos,Bw,qO,SX];omega
theorem Bh:∀{gs:List (List Nat)} {i k i' k':Nat} {r c:List Nat},gs[i]?=some r->gs[i']?=some c->k<r.length->k' < c.length->pos gs i k=pos gs i' k'->i=i'/\k=k'
 | [],i,k,i',k',r,c,h,_,_,_,_=>by simp at h
 | a::gs,0,k,0,k',r,c,h,h',hk,z,e=>by simpa [pos] using e
 | a::gs,0,k,i'+1,k',r,c,h,h',hk,z,e=>by
  rw[lM]at e;simp at h;subst h;simp[pos]at e;omega
 | a::gs,i+1,k,0,k',r,c,h,h',hk,z,e=>by
  rw[lM]at e;simp at h';subst h';simp[pos]at e;omega
 | a::gs,i+1,k,i'+1,k',r,c,h,h',hk,z,e=>by
  rw[lM,lM]at e;have:=Bh (gs:=gs) (by simpa using h) (by simpa using h') hk z (by omega);omega
variable {u:Wt}
theorem yq.inj{st:Stat}{w:Wt}(J:yq st u)(N:yq st w)(h:bU st u=bU st w):u.2=w.2:=by
 obtain⟨i,k,r,g,z,D,O,U⟩:=J;obtain⟨i',k',r',g',G,I,c,V⟩:=N;rw[bU,bU,z,D,G,I]at h;simp only[c8]at h;obtain⟨Y,Z⟩:=Bh O c (ah U) (ah V) h;exact UC (by rw[z,G,Y]) (by rw[D,I,Z])
theorem yq.of{st:Stat}{w:Wt}(h:yq st w)(e:u.2=w.2):yq st u:=by
 obtain⟨i,k,r,g,c,z,D⟩:=h;exact⟨i,k,r,g,by rw[e];exact c,by rw[e];exact z,D⟩
theorem wv{st:Stat}{w:Wt}(e:u.2=w.2):bU st u=bU st w:=by rw[bU,bU,e]
def nC(st:Stat)(j:lH):Nat:=(5-j.made.rework).toNat*st.steps.length+(st.steps.length-j.step)
variable {j':lH}
theorem gK{l:List lH}{m n:Nat}(c:l[m]?=some j):(l.set m j')[n]?=if n=m then some j' else l[n]?:=by
 by_cases e:n=m
 ·subst e;rw[qH rfl,bQ (ah c)]
 rw[af e,bY (fun h=>e h.symm)]
theorem eR{l:List α}{m n:Nat}{j j':α}(c:l[m]?=some j):(l.set m j')[n]?=if n=m then some j' else l[n]?:=by
 by_cases e:n=m
 ·subst e;rw[qH rfl,bQ (ah c)]
 rw[af e,bY (fun h=>e h.symm)]
theorem E3{st:Stat}{x:a_}{w:Wt}(h:x.jobs[bU st w]?=some j):fx st x w=nC st j:=by rw[fx,h];rfl
theorem Bi{st:Stat}{x y:a_}{m:Nat}(c:x.jobs[m]?=some j)(z:y.jobs=x.jobs.set m j')(hp:nC st j'<=nC st j)(w:Wt):fx st y w<=fx st x w:=by
 unfold fx;rw[z,gK c];by_cases e:bU st w=m
 ·rw[qH e,e,c];exact hp
 rw[af e];exact aC _
theorem SZ.Ww{st:Stat}{x:a_}(h:SZ st x){i:Nat}{s:gI}{a:Wt}{Q:List Wt}{b:List Bool}(hs:st.steps[i]?=some s)(U:x.queues[i]?=some (a::Q))(hb:x.busy[i]?=some b)(V:x.jobs[bU st a]?=some j)(ha:a.1<=x.now)(hf:dR b<b.length):
  SZ st (M.Ww i s x (a::Q) a b (bU st a) j)/\eW st (M.Ww i s x (a::Q) a b (bU st a) j)<eW st x:=by
 obtain⟨y,N⟩:∃y,y=M.Ww i s x (a::Q) a b (bU st a) j:=⟨_,rfl⟩;have G:y.jobs=x.jobs.set (bU st a) { j with machine:=dR b,from_:=x.now }:=by rw[N];rfl
 have KD:y.queues=x.queues.set i (dD (a::Q)):=by rw[N];rfl
 have Y:y.ends=eH x.ends (x.now+s.minutes,a.2.1,a.2.2):=by rw[N];rfl
 have KE:y.busy=x.busy.set i (b.set (dR b) true):=by rw[N];rfl
 have Ia:y.now=x.now:=by rw[N];rfl
 have Nj:y.done=x.done:=by rw[N];rfl
 have Az:=aj U;have JC:=h.hb i s hs;have Qq:=h.sv.mn s (aj hs);have KF:j.step=i:=by
  obtain⟨z,I,D⟩:=h.qs i _ a U dJ;rw[V]at I;injection I with I;rw[I];exact D
 have pP:∀w,fx st y w<=fx st x w:=Bi V G (aC _);have qF:∀w,fF y w=fF x w:=fun w=>by rw[fF,fF,Ia]
 have ea:((x.now+s.minutes,a.2.1,a.2.2):Wt).2=a.2:=rfl;have Mn:fx st x (x.now+s.minutes,a.2.1,a.2.2)=fx st x a:=by rw[fx,fx,wv ea]
 have R2:fF x a=0:=by rw[fF,af (by omega)]
 have Mo:fF x (x.now+s.minutes,a.2.1,a.2.2)<=1:=by unfold fF;split<;>omega
 have JD:eW st y+1<=eW st x:=by
  have I:=jN (f:=fun w=>4*fx st x w+2+fF x w) (dD (a::Q)) U;have D:bK (fun w=>4*fx st x w+2+fF x w) (dD (a::Q))+(4*fx st x a+2+fF x a)=bK (fun w=>4*fx st x w+2+fF x w) (a::Q):=oS a Q;have J:bK (fun w=>4*fx st x w+fF x w) (eH x.ends (x.now+s.minutes,a.2.1,a.2.2))=bK (fun w=>4*fx st x w+fF x w) x.ends+(4*fx st x (x.now+s.minutes,a.2.1,a.2.2)+fF x (x.now+s.minutes,a.2.1,a.2.2)):=jM _ _;have h4:eJ (fun w=>4*fx st y w+2+fF y w) y.queues<=eJ (fun w=>4*fx st x w+2+fF x w) y.queues:=mA fun q _ w _=>by have:=pP w;have:=qF w;omega
  have h5:bK (fun w=>4*fx st y w+fF y w) y.ends<=bK (fun w=>4*fx st x w+fF x w) y.ends:=kA fun w _=>by have:=pP w;have:=qF w;omega
  rw[KD]at h4;rw[Y]at h5;unfold eW;rw[KD,Y];rw[Mn]at J;omega
 have Cq:∀p,qE y p=qE x p:=fun p=>by
  have I:=jN (f:=fun w=>if w.2=p then 1 else 0) (dD (a::Q)) U;have D:bK (fun w=>if w.2=p then 1 else 0) (dD (a::Q))+(if a.2=p then 1 else 0)=bK (fun w=>if w.2=p then 1 else 0) (a::Q):=oS a Q;have J:bK (fun w=>if w.2=p then 1 else 0) (eH x.ends (x.now+s.minutes,a.2.1,a.2.2))=bK (fun w=>if w.2=p then 1 else 0) x.ends+(if a.2=p then 1 else 0):=jM _ _;unfold qE;rw[KD,Y];omega
 have Pj:∀w∈a::Q,yq st w:=h.sv.qw _ Az;rw[<-N];refine⟨⟨by rw[N];exact h.sv.start U hb,h.hs,h.hb,h.hl,by rw[Y];exact nB _ h.eh,fun q O=>?_,fun w c=>?_,fun z wR=>?_,fun p=>by rw[Cq];exact h.un p,fun i2 q w Z c=>?_,fun w c=>?_,by rw[Nj];have:=h.dn;omega,fun w c=>?_,?_⟩,by omega⟩
 ·rw[KD]at O;rcases nJ O with O | rfl
  ·exact h.qh q O
  exact uB (h.qh _ Az)
 ·rw[Y]at c;rw[Ia];rcases Th c with c | rfl
  ·exact h.ew w c
  exact⟨(Pj a dJ).of ea,by simp only;omega⟩
 ·rw[G]at wR;rw[Nj];rcases nJ wR with wR | rfl
  ·exact h.jv z wR
  exact h.jv j (aj V)
 ·have old:∃q0,x.queues[i2]?=some q0/\w∈q0:=by
   rw[KD,eR U]at Z;by_cases e:i2=i
   ·subst e;rw[qH rfl]at Z;injection Z with Z;subst Z;exact⟨_,U,lK c⟩
   rw[af e]at Z;exact⟨q,Z,c⟩
  obtain⟨q0,I,D⟩:=old;obtain⟨z,J,h4⟩:=h.qs i2 q0 w I D;rw[G,gK V];by_cases e:bU st w=bU st a
  ·rw[qH e];refine⟨_,rfl,?_⟩;rw[e,V]at J;injection J with J;rw[<-J]at h4;exact h4
  rw[af e];exact⟨z,J,h4⟩
 ·have new:∃z b2,y.jobs[bU st a]?=some z/\y.busy[z.step]?=some b2/\z.machine<b2.length:=by
   rw[G,gK V,qH rfl,KE];exact⟨_,b.set (dR b) true,rfl,by show (x.busy.set i _)[j.step]?=_;rw[KF,eR hb,qH rfl],by rw[cu];exact hf⟩
  rw[Y]at c;rcases Th c with c | rfl
  ·by_cases e:bU st w=bU st a
   ·rw[e];exact new
   obtain⟨z,b2,I,D,J⟩:=h.es w c;rw[G,gK V,af e,KE];by_cases ej:z.step=i
   ·rw[ej]at D;rw[hb]at D;injection D with D;subst D;exact⟨z,_,I,by rw[eR hb,qH ej],by rw[cu];exact J⟩
   exact⟨z,b2,I,by rw[eR hb,af ej];exact D,J⟩
  rw[wv ea];exact new
 ·have BJ:=h.tm;have o9:=h.tn;have Ib:(1000000000:Int)+1000000*((WD:Int)-eW st x)+1000000<=1000000000+1000000*((WD:Int)-eW st y):=by omega
  rw[Y,KD]at c;rcases c with c | ⟨q,O,c⟩
  ·rcases Th c with c | rfl
   ·have:=BJ w (.inl c);omega
   simp only;omega
  rcases nJ O with O | rfl
  ·have:=BJ w (.inr ⟨q,O,c⟩);omega
  have:=BJ w (.inr ⟨_,Az,lK c⟩);omega
 have o9:=h.tn;rw[Ia];omega
theorem SZ.fin{st:Stat}{x:a_}(h:SZ st x){w:Wt}{W:List Wt}(I:x.ends=w::W)(J:w.1=x.now):∃(i k:Nat) (r:List Nat) (g:Nat) (j:lH) (s:gI) (b:List Bool) (lt:Lt) (v:Int),w=(x.now,(i:Int),(k:Int))/\st.gs[i]?=some r/\r[k]?=some g/\x.jobs[pos st.gs i k]?=some j/\st.steps[j.step]?=some s/\x.busy[j.step]?=some b/\j.machine<b.length/\st.lots[i]?=some lt/\j.visits[j.step]?=some v/\(v+1<=1000000000/\0<=v)/\s.back<=j.step/\(0<=j.made.rework/\j.made.rework<=5)/\
  eI st x=some (mM st { x with ends:=dD x.ends } w k (pos st.gs i k) j s b v lt.name (tC st ⟨lt.name,k,j.step,v+1⟩)):=by
 have N:w∈x.ends:=by rw[I];exact dJ
 obtain⟨i,k,r,g,c,z,O,V⟩:=(h.ew w N).1;obtain⟨j,b,D,hb,Y⟩:=h.es w N;have hp:bU st w=pos st.gs i k:=by rw[bU,c,z,c8,c8]
 obtain⟨Z,q2,q3,q4,q5⟩:=h.jv j (aj D);obtain⟨s,hs⟩:=a8 Z;obtain⟨v,G⟩:=a8 (l:=j.visits) (i:=j.step) (by omega);obtain⟨lt,U⟩:=a8 (l:=st.lots) (i:=i) (by rw[h.hl];exact ah O);have Ks:=q3 v (aj G);have HB:=h.dn;have e0:WD=15000000:=rfl;refine⟨i,k,r,g,j,s,b,lt,v,by rw[<-J,<-c,<-z],O,V,by rw[<-hp];exact D,hs,hb,Y,U,G,⟨by omega,Ks.1⟩,(h.hb _ s hs).1,⟨q4,q5⟩,?_⟩;rw[M.eI,I];simp only;rw[qH J,D,c,c8,U];simp only;rw[hs,hb,G,z,c8,hp]
theorem SZ.JE{st:Stat}{x y:a_}(h:SZ st x){w:Wt}{W:List Wt}(he:x.ends=w::W)(hw:w.1=x.now){b b':List Bool}{d:dQ}(hj:x.jobs[bU st w]?=some j)(hb:x.busy[j.step]?=some b)(dM:b'.length=b.length)
  (J:y.jobs=x.jobs.set (bU st w) j') (Z:y.ends=dD x.ends) (KE:y.busy=x.busy.set j.step b') (Ia:y.now=x.now) (Nj:y.done=x.done++[d])
  (h1:j'.step<st.steps.length) (h2:j'.visits.length=st.steps.length) (h3:∀v∈j'.visits,0<=v/\v<=x.done.length+1) (h4:0<=j'.made.rework/\j'.made.rework<=5)
  (hq:(y.queues=x.queues/\nC st j'<=nC st j)\/∃q,x.queues[j'.step]?=some q/\y.queues=x.queues.set j'.step (eH q w)/\nC st j'+1<=nC st j):SZ st y/\eW st y<eW st x:=by
 have E4:w∈x.ends:=by rw[he];exact dJ
 have hok:=(h.ew w E4).1;have JF:nC st j'<=nC st j:=by rcases hq with h | ⟨q,_,_,h⟩;exact h.2;omega
 have pP:∀u,fx st y u<=fx st x u:=Bi hj J JF;have qF:∀u,fF y u=fF x u:=fun u=>by rw[fF,fF,Ia]
 have Mo:fF x w=0:=by rw[fF,af (by omega)]
 have Mn:fx st x w=nC st j:=E3 hj;have Qr:fx st y w=nC st j':=by
  refine E3 ?_;rw[J,gK hj,qH rfl]
 have SE:=(h.jv j (aj hj)).1;have R3:1<=nC st j:=by unfold nC;omega
 have JG:∀f:Wt->Nat,bK f (dD x.ends)+f w=bK f x.ends:=fun f=>by rw[he];exact oS w W
 have iN:∀u∈y.ends,u∈x.ends:=fun u z=>by rw[Z]at z;exact lK z
 have Qt:∀i q u,y.queues[i]?=some q->u∈q->(∃I,x.queues[i]?=some I/\u∈I)\/(u=w/\i=j'.step):=fun i q u U z=>by
  rcases hq with⟨e,_⟩ | ⟨N,D,G,_⟩
  ·rw[e]at U;exact .inl ⟨q,U,z⟩
  rw[G,eR D]at U;by_cases ei:i=j'.step
  ·rw[qH ei]at U;injection U with U;subst U;rcases Th z with z | rfl
   ·exact .inl ⟨N,by rw[ei];exact D,z⟩
   exact .inr ⟨rfl,ei⟩
  rw[af ei]at U;exact .inl ⟨q,U,z⟩
 have Az:∀q∈y.queues,∀u∈q,(∃I∈x.queues,u∈I)\/u=w:=fun q O u z=>by
  obtain⟨i,hi⟩:=uU.1 O;rcases Qt i q u hi z with⟨I,D,G⟩ | ⟨D,_⟩
  ·exact .inl ⟨I,aj D,G⟩
  exact .inr D
 have BU:∀f:Wt->Nat,eJ f y.queues<=eJ f x.queues+f w:=fun f=>by
  rcases hq with⟨e,_⟩ | ⟨N,D,G,_⟩
  ·rw[e];omega
  have V:=jN (f:=f) (eH N w) D;have Y:=jM (f:=f) N w;rw[G];omega
 have JD:eW st y+2<=eW st x:=by
  have a5:bK (fun u=>4*fx st y u+fF y u) y.ends<=bK (fun u=>4*fx st x u+fF x u) y.ends:=kA fun u _=>by have:=pP u;have:=qF u;omega
  have a6:bK (fun u=>4*fx st x u+fF x u) (dD x.ends)+(4*fx st x w+fF x w)=bK (fun u=>4*fx st x u+fF x u) x.ends:=JG _;rw[Z]at a5;have key:eJ (fun u=>4*fx st y u+2+fF y u) y.queues+2<=eJ (fun u=>4*fx st x u+2+fF x u) x.queues+4*fx st x w:=by
   rcases hq with⟨e,_⟩ | ⟨N,D,G,g3⟩
   ·have a4:eJ (fun u=>4*fx st y u+2+fF y u) x.queues<=eJ (fun u=>4*fx st x u+2+fF x u) x.queues:=mA fun q _ u _=>by have:=pP u;have:=qF u;omega
    rw[e];omega
   have V:=jN (f:=fun u=>4*fx st y u+2+fF y u) (eH N w) D;have Y:bK (fun u=>4*fx st y u+2+fF y u) (eH N w)=bK (fun u=>4*fx st y u+2+fF y u) N+(4*fx st y w+2+fF y w):=jM _ _;have a4:eJ (fun u=>4*fx st y u+2+fF y u) x.queues<=eJ (fun u=>4*fx st x u+2+fF x u) x.queues:=mA fun q _ u _=>by have:=pP u;have:=qF u;omega
   have a7:=qF w;rw[G];omega
  unfold eW;rw[Z];omega
 have Cq:∀p,qE y p<=qE x p:=fun p=>by
  have V:=BU fun u=>if u.2=p then 1 else 0;have Y:=JG fun u=>if u.2=p then 1 else 0;unfold qE;rw[Z];omega
 have alone:∀u,((∃q∈x.queues,u∈q)\/u∈dD x.ends)->u.2≠w.2:=fun u z e=>by
  have a0:=h.un w.2;have Y:=JG fun u=>if u.2=w.2 then 1 else 0;simp only[qH]at Y;unfold qE at a0;rcases z with⟨q,gR,z⟩ | z
  ·have b1:=jO (f:=fun u=>if u.2=w.2 then 1 else 0) z;have b2:=sL (f:=fun u=>if u.2=w.2 then 1 else 0) gR;simp only[qH e]at b1;omega
  have b1:=jO (f:=fun u=>if u.2=w.2 then 1 else 0) z;simp only[qH e]at b1;omega
 have other:∀u,yq st u->((∃q∈x.queues,u∈q)\/u∈dD x.ends)->y.jobs[bU st u]?=x.jobs[bU st u]?:=fun u z hm=>by
  rw[J,gK hj,af fun e=>alone u hm (z.inj hok e)]
 have Mp:y.done.length=x.done.length+1:=by rw[Nj];simp
 have Qu:∀(n:Nat) (b2:List Bool),x.busy[n]?=some b2->∃b3:List Bool,y.busy[n]?=some b3/\b3.length=b2.length:=fun n b2 hn=>by
  rw[KE,eR hb];by_cases e:n=j.step
  ·rw[qH e];rw[e,hb]at hn;injection hn with hn;subst hn;exact⟨b',rfl,dM⟩
  rw[af e];exact⟨b2,hn,rfl⟩
 have Ib:(1000000000:Int)+1000000*((WD:Int)-eW st x)<=1000000000+1000000*((WD:Int)-eW st y):=by omega
 refine⟨⟨⟨?_,by rw[KE,cu];exact h.sv.bl,by rw[J,cu];exact h.sv.jl,fun q O u z=>?_,?_,fun c hc=>?_,by rw[Ia];exact h.sv.now,h.sv.mn⟩,h.hs,h.hb,h.hl,by rw[Z];exact uB h.eh,fun q O=>?_,fun u z=>?_,fun j2 wR=>?_,fun p=>bM (Cq p) (h.un p),fun i q u U z=>?_,fun u z=>?_,by have:=h.dn;omega,fun u z=>?_,?_⟩,by omega⟩
 ·rcases hq with⟨e,_⟩ | ⟨N,D,G,_⟩
  ·rw[e];exact h.sv.ql
  rw[G,cu];exact h.sv.ql
 ·rcases Az q O u z with⟨I,D,G⟩ | rfl
  ·exact h.sv.qw I D u G
  exact hok
 ·have e1:(dD x.ends).length+1=x.ends.length:=by rw[he,oP];rfl
  have:=h.sv.tot;rw[Z];rcases hq with⟨e,_⟩ | ⟨N,D,G,_⟩
  ·rw[e];omega
  have V:=oR (eH N w) D;rw[pN]at V;rw[G];omega
 ·rw[KE]at hc;rcases nJ hc with hc | rfl
  ·exact h.sv.bn c hc
  rw[dM];exact h.sv.bn b (aj hb)
 ·rcases hq with⟨e,_⟩ | ⟨N,D,G,_⟩
  ·rw[e]at O;exact h.qh q O
  rw[G]at O;rcases nJ O with O | rfl
  ·exact h.qh q O
  exact nB _ (h.qh _ (aj D))
 ·rw[Ia];exact h.ew u (iN u z)
 ·rw[J]at wR;rw[Mp];rcases nJ wR with wR | rfl
  ·obtain⟨V,Y,a3,a4⟩:=h.jv j2 wR;exact⟨V,Y,fun v hv=>by have:=a3 v hv;omega,a4⟩
  exact⟨h1,h2,fun v hv=>by have:=h3 v hv;omega,h4⟩
 ·rcases Qt i q u U z with⟨I,D,G⟩ | ⟨rfl,rfl⟩
  ·rw[other u (h.sv.qw I (aj D) u G) (.inl ⟨I,aj D,G⟩)];exact h.qs i I u D G
  exact⟨j',by rw[J,gK hj,qH rfl],rfl⟩
 ·have FF:=iN u z;rw[Z]at z;obtain⟨j2,b2,V,Y,a3⟩:=h.es u FF;rw[other u (h.ew u FF).1 (.inr z)];obtain⟨b3,c1,c2⟩:=Qu _ b2 Y;exact⟨j2,b3,V,c1,by omega⟩
 ·rcases z with z | ⟨q,O,z⟩
  ·have:=h.tm u (.inl (iN u z));omega
  rcases Az q O u z with⟨I,D,G⟩ | rfl
  ·have:=h.tm u (.inr ⟨I,D,G⟩);omega
  have:=h.tm u (.inl E4);omega
 have:=h.tn;rw[Ia];omega
theorem SZ.eI{st:Stat}{x y:a_}(h:SZ st x)(c:M.eI st x=some y):SZ st y/\eW st y<eW st x:=by
 obtain⟨w,W,z,D⟩:∃w W,x.ends=w::W/\w.1=x.now:=by
  unfold M.eI at c;split at c
  ·cases c
  rename_i w W z;split at c
  ·rename_i D;exact⟨w,W,z,D⟩
  cases c
 obtain⟨i,k,r,g,j,s,b,lt,v,e0,h3,h4,G,hs,hb,hm,dv,hv,Ks,H_,R4,hf⟩:=h.fin z D;rw[hf]at c;injection c with c;have hp:bU st w=pos st.gs i k:=by rw[bU,e0];simp
 rw[<-hp]at G c;obtain⟨q1,q2,Y,Z,q5⟩:=h.jv j (aj G);have J:∀u∈j.visits.set j.step (v+1),0<=u/\u<=x.done.length+1:=fun u N=>by
  rcases nJ N with N | rfl
  ·have:=Y u N;omega
  have:=Y v (aj hv);omega
 have O:(j.visits.set j.step (v+1)).length=st.steps.length:=by rw[cu];exact q2
 unfold mM at c;simp only at c;split at c
 ·rename_i U;obtain⟨c1,c2,c3⟩:=U;obtain⟨q,I⟩:=a8 (l:=x.queues) (i:=s.back.toNat) (by rw[h.sv.ql];omega);have V:bF { x with ends:=dD x.ends } s.back.toNat=q:=by show (x.queues[s.back.toNat]?).getD []=q;rw[I];rfl
  rw[V]at c;refine h.JE (y:=y) (j':={ kQ j v with step:=s.back.toNat,made:={ j.made with rework:=j.made.rework+1 } }) z D G hb (b':=b.set j.machine false) (by simp) (d:=S9 { x with ends:=dD x.ends } k j lt.name (tC st ⟨lt.name,k,j.step,v+1⟩)) (by subst c;rfl) (by subst c;rfl) (by subst c;rfl) (by subst c;rfl) (by subst c;rfl) (by show s.back.toNat<_;omega) O J ⟨by show 0<=j.made.rework+1;omega,by show j.made.rework+1<=5;omega⟩ (.inr ⟨q,I,by subst c;rfl,?_⟩);unfold nC;show (5-(j.made.rework+1)).toNat*st.steps.length+(st.steps.length-s.back.toNat)+1<=_;have e5:(5-j.made.rework).toNat=(5-(j.made.rework+1)).toNat+1:=by omega
  rw[e5,lV];omega
 split at c
 ·refine h.JE (y:=y) (j':={ kQ j v with made:={ j.made with done:=!tC st ⟨lt.name,k,j.step,v+1⟩,at_:=x.now } }) z D G hb (b':=b.set j.machine false) (by simp) (d:=S9 { x with ends:=dD x.ends } k j lt.name (tC st ⟨lt.name,k,j.step,v+1⟩)) (by subst c;rfl) (by subst c;rfl) (by subst c;rfl) (by subst c;rfl) (by subst c;rfl) q1 O J ⟨Z,q5⟩ (.inl ⟨by subst c;rfl,aC _⟩)
 rename_i U;have Qv:j.step+1<st.steps.length:=by
  have:j.step+1≠st.steps.length:=fun e=>U (.inr e);omega
 obtain⟨q,I⟩:=a8 (l:=x.queues) (i:=j.step+1) (by rw[h.sv.ql];exact Qv);have V:bF { x with ends:=dD x.ends } (j.step+1)=q:=by show (x.queues[j.step+1]?).getD []=q;rw[I];rfl
 rw[V]at c;refine h.JE (y:=y) (j':={ kQ j v with step:=j.step+1 }) z D G hb (b':=b.set j.machine false) (by simp) (d:=S9 { x with ends:=dD x.ends } k j lt.name (tC st ⟨lt.name,k,j.step,v+1⟩)) (by subst c;rfl) (by subst c;rfl) (by subst c;rfl) (by subst c;rfl) (by subst c;rfl) Qv O J ⟨Z,q5⟩ (.inr ⟨q,I,by subst c;rfl,?_⟩);unfold nC;show (5-j.made.rework).toNat*st.steps.length+(st.steps.length-(j.step+1))+1<=_;omega
def oT(x:a_):Prop:=∀w∈x.ends,x.now<w.1
theorem SZ.du{st:Stat}{i:Nat}{x y:a_}(h:SZ st x)(c:M.du st i x=some y):SZ st y/\eW st y<eW st x/\y.now=x.now/\(oT x->oT y):=by
 unfold M.du at c;split at c
 ·rename_i s a Q b D I J;split at c
  ·rename_i G;split at c
   ·rename_i j N;injection c with c;have key:=h.Ww D I J N G.1 G.2;rw[c]at key;refine⟨key.1,key.2,by rw[<-c];rfl,fun hl w z=>?_⟩;have O:y.now=x.now:=by rw[<-c];rfl
    rw[<-c]at z;rw[O];rcases Th z with z | rfl
    ·exact hl w z
    have:=(h.hb i s D).2;show x.now<x.now+s.minutes;omega
   cases c
  cases c
 cases c
theorem SZ.eo{st:Stat}{i:Nat}:∀(n:Nat) {x:a_},SZ st x->SZ st (M.eo n st i x)/\eW st (M.eo n st i x)<=eW st x/\(M.eo n st i x).now=x.now/\(oT x->oT (M.eo n st i x))
 | 0,x,h=>⟨h,aC _,rfl,id⟩
 | n+1,x,h=>by
  unfold M.eo;split
  ·rename_i y c;obtain⟨z,a2,D,G⟩:=h.du c;obtain⟨I,b2,J,N⟩:=SZ.eo (i:=i) n z;exact⟨I,by omega,J.trans D,fun hl=>N (G hl)⟩
  exact⟨h,aC _,rfl,id⟩
theorem SZ.lN{st:Stat}:∀(l:List Nat) {x:a_},SZ st x->SZ st (l.foldl (fun x i=>dE st i x) x)/\eW st (l.foldl (fun x i=>dE st i x) x)<=eW st x/\(l.foldl (fun x i=>dE st i x) x).now=x.now/\(oT x->oT (l.foldl (fun x i=>dE st i x) x))
 | [],x,h=>⟨h,aC _,rfl,id⟩
 | i::l,x,h=>by
  obtain⟨D,z,c,G⟩:=SZ.eo (i:=i) (bF x i).length h;obtain⟨I,b2,J,N⟩:=SZ.lN l (x:=dE st i x) D;rw[uY];have z:eW st (dE st i x)<=eW st x:=z;have c:(dE st i x).now=x.now:=c;exact⟨I,by omega,J.trans c,fun hl=>N (G hl)⟩
theorem SZ.start{st:Stat}{x:a_}(h:SZ st x):SZ st (bV st x)/\eW st (bV st x)<=eW st x:=
 ⟨(SZ.lN _ h).1,(SZ.lN _ h).2.1⟩
theorem xY{st:Stat}{x:a_}(h:SZ st x)(D:M.eI st x=none):oT x:=by
 intro w c;cases he:x.ends with
 | nil=>rw[he]at c;cases c
 | cons u W=>
  have h1:=(h.ew u (by rw[he];exact dJ)).2;have h2:=Be (he▸h.eh) (he▸c);by_cases e:u.1=x.now
  ·obtain⟨_,_,_,_,_,_,_,_,_,_,_,_,_,_,_,_,_,_,_,_,_,z⟩:=h.fin he e;rw[D]at z;cases z
  omega
theorem Bj{y:a_}{q:List Wt}{a:Int}(hl:oT y)(J:Heap y.ends)(c:eU y q=(true,a)):y.now<a/\(∀w∈y.ends,a<=w.1)/\∃w,(w∈y.ends\/w∈q)/\w.1=a:=by
 have ends:(y.ends=[]/\gJ y.ends (false,0)=(false,0))\/∃u W,y.ends=u::W/\gJ y.ends (false,0)=(true,u.1):=by
  cases h:y.ends with
  | nil=>exact .inl ⟨rfl,rfl⟩
  | cons u W=>exact .inr ⟨u,W,rfl,by rw[gJ,ky,qH (.inl rfl)]⟩
 rw[eU]at c;rcases ends with⟨D,G⟩ | ⟨u,W,D,G⟩
 ·rw[G]at c;unfold wc at c;split at c
  ·cases c
  rename_i v Q;split at c
  ·rename_i N;rw[ky,qH (.inl rfl)]at c;injection c with _ c;exact⟨by omega,fun w z=>(by rw[D]at z;cases z),v,.inr dJ,c⟩
  cases c
 rw[G]at c;have hu:y.now<u.1:=hl u (by rw[D];exact dJ);have I:∀w∈y.ends,u.1<=w.1:=fun w z=>Be (D▸J) (D▸z);have O:u∈y.ends:=by rw[D];exact dJ
 have base:(true,u.1)=(true,a)->y.now<a/\(∀w∈y.ends,a<=w.1)/\∃w,(w∈y.ends\/w∈q)/\w.1=a:=fun e=>by
  injection e with _ e;exact⟨by omega,fun w z=>by have:=I w z;omega,u,.inl O,e⟩
 unfold wc at c;split at c
 ·exact base c
 rename_i v Q;split at c
 ·rename_i N;unfold ky at c;split at c
  ·rename_i U;injection c with _ c;have dv:v.1<u.1:=U.elim (fun h=>by cases h) id;exact⟨by omega,fun w z=>by have:=I w z;omega,v,.inr dJ,c⟩
  exact base c
 exact base c
theorem SZ.next{st:Stat}{x:a_}(h:SZ st x)(hf:M.eI st x=none){a:Int}(hn:eU (bV st x) (bF (bV st x) 0)=(true,a)):SZ st { bV st x with now:=a }/\eW st { bV st x with now:=a }<eW st x:=by
 obtain⟨s1,s2,s3,s4⟩:=SZ.lN (List.range st.steps.length) h;obtain⟨y,Y⟩:∃y,y=bV st x:=⟨_,rfl⟩;have s1:SZ st y:=by rw[Y];exact s1
 have s2:eW st y<=eW st x:=by rw[Y];exact s2
 have s4:oT y:=by rw[Y];exact s4 (xY h hf)
 rw[<-Y]at hn ⊢;obtain⟨n1,n2,w,c,n4⟩:=Bj s4 s1.eh hn;obtain⟨z,G⟩:∃z:a_,z={ y with now:=a }:=⟨_,rfl⟩;have D:z.queues=y.queues:=by rw[G]
 have I:z.ends=y.ends:=by rw[G]
 have U:z.jobs=y.jobs:=by rw[G]
 have zb:z.busy=y.busy:=by rw[G]
 have zd:z.done=y.done:=by rw[G]
 have V:z.now=a:=by rw[G]
 have J:∀u,fx st z u=fx st y u:=fun u=>by rw[fx,fx,U]
 have Z:∀u,fF z u<=fF y u:=fun u=>by unfold fF;rw[V];split<;>split<;>omega
 have Mo:fF z w<fF y w:=by rw[fF,fF,V,af (by omega),qH (by omega)];omega
 have JD:eW st z<eW st y:=by
  have a1:eJ (fun u=>4*fx st z u+2+fF z u) y.queues<=eJ (fun u=>4*fx st y u+2+fF y u) y.queues:=mA fun q _ u _=>by have:=J u;have:=Z u;omega
  have a2:bK (fun u=>4*fx st z u+fF z u) y.ends<=bK (fun u=>4*fx st y u+fF y u) y.ends:=kA fun u _=>by have:=J u;have:=Z u;omega
  unfold eW;rw[D,I];rcases c with c | c
  ·have a3:bK (fun u=>4*fx st z u+fF z u) y.ends<bK (fun u=>4*fx st y u+fF y u) y.ends:=wu (fun u _=>by have:=J u;have:=Z u;omega) c (by have:=J w;omega);omega
  have yp:∃N∈y.queues,w∈N:=by
   unfold bF at c;cases hq:y.queues[0]? with
   | none=>rw[hq]at c;cases c
   | some N=>rw[hq]at c;exact⟨N,aj hq,c⟩
  obtain⟨N,m1,m2⟩:=yp;have a3:eJ (fun u=>4*fx st z u+2+fF z u) y.queues<eJ (fun u=>4*fx st y u+2+fF y u) y.queues:=Bg (fun q _ u _=>by have:=J u;have:=Z u;omega) m1 m2 (by have:=J w;omega);omega
 have SF:a<=1000000000+1000000*((WD:Int)-eW st y):=by
  rw[<-n4];refine s1.tm w (c.imp id fun c=>?_);unfold bF at c;cases hq:y.queues[0]? with
  | none=>rw[hq]at c;cases c
  | some N=>rw[hq]at c;exact⟨N,aj hq,c⟩
 have Ib:(1000000000:Int)+1000000*((WD:Int)-eW st y)<=1000000000+1000000*((WD:Int)-eW st z):=by omega
 have e0:WD=15000000:=rfl;have Pf:=s1.sv.now;rw[<-G];refine⟨⟨⟨by rw[D];exact s1.sv.ql,by rw[zb];exact s1.sv.bl,by rw[U];exact s1.sv.jl,by rw[D];exact s1.sv.qw,by rw[D,I];exact s1.sv.tot,by rw[zb];exact s1.sv.bn,by rw[V];exact⟨by omega,by omega⟩,s1.sv.mn⟩,s1.hs,s1.hb,s1.hl,by rw[I];exact s1.eh,by rw[D];exact s1.qh,fun u O=>?_,by rw[U,zd];exact s1.jv,fun p=>?_,?_,?_,by rw[zd];have:=s1.dn;omega,fun u O=>?_,by rw[V];omega⟩,by omega⟩
 ·rw[I]at O;rw[V];exact⟨(s1.ew u O).1,n2 u O⟩
 ·have:=s1.un p;unfold qE at this ⊢;rw[D,I];exact this
 ·rw[D,U];exact s1.qs
 ·rw[I,U,zb];exact s1.es
 rw[I,D]at O;have:=s1.tm u O;omega
theorem CF{st:Stat}(k:Nat):∀(n m:Nat) (x:a_),SZ st x->eW st x<=n->eW st x<=m->n<=k->kz n st x=kz m st x:=by
 induction k with
 | zero=>
  intro n m x h c z D;have G:n=0:=by omega
  subst G;cases m with
  | zero=>rfl
  | succ m=>
   rw[kz,kz];cases hy:M.eI st x with
   | none=>rfl
   | some y=>have:=(h.eI hy).2;omega
 | succ k ih=>
  intro n m x h c z D;cases hy:M.eI st x with
  | none=>
   cases n<;>cases m<;>simp only[kz,hy]
  | some y=>
   have hp:=(h.eI hy).2;cases n with
   | zero=>omega
   | succ n=>
    cases m with
    | zero=>omega
    | succ m=>
     simp only[kz,hy];exact ih n m y (h.eI hy).1 (by omega) (by omega) (by omega)
theorem CG{st:Stat}{x y:a_}(h:SZ st x)(c:M.eI st x=some y):fy st y=fy st x:=by
 obtain⟨z,h2⟩:=h.eI c;obtain⟨n,D⟩:∃n,eW st x=n+1:=⟨eW st x-1,by omega⟩;rw[fy,fy,D,kz,c];exact CF _ _ _ y z (aC _) (by omega) (aC _)
theorem uD{st:Stat}{x:a_}(c:eI st x=none):fy st x=x:=by
 unfold fy;cases eW st x with
 | zero=>rfl
 | succ n=>rw[kz,c]
theorem xZ{st:Stat}:∀(n:Nat) {x:a_},SZ st x->eW st x<=n->SZ st (kz n st x)/\eW st (kz n st x)<=eW st x/\M.eI st (kz n st x)=none
 | 0,x,h,hn=>by
  refine⟨h,aC _,?_⟩;cases c:M.eI st x with
  | none=>exact c
  | some y=>have:=(h.eI c).2;omega
 | n+1,x,h,hn=>by
  unfold kz;split
  ·rename_i y c;obtain⟨z,h2⟩:=h.eI c;obtain⟨D,a2,G⟩:=xZ n z (by omega);exact⟨D,by omega,G⟩
  rename_i c;exact⟨h,aC _,c⟩
theorem SZ.fy{st:Stat}{x:a_}(h:SZ st x):SZ st (M.fy st x)/\eW st (M.fy st x)<=eW st x/\M.eI st (M.fy st x)=none:=xZ _ h (aC _)
theorem CH{st:Stat}(k:Nat):∀(n m:Nat) (x:a_),SZ st x->eW st x<n->eW st x<m->n<=k->iU n st x=iU m st x:=by
 induction k with
 | zero=>intro n m x h c z D;omega
 | succ k ih=>
  intro n m x h c z D;cases n with
  | zero=>omega
  | succ n=>
   cases m with
   | zero=>omega
   | succ m=>
    obtain⟨G,f2,f3⟩:=h.fy;rw[iU,iU];split
    ·rename_i a I;have:=G.next f3 I;exact ih n m _ this.1 (by omega) (by omega) (by omega)
    rfl
theorem CI{st:Stat}{x:a_}(h:SZ st x){a:Int}(c:eU (bV st (fy st x)) (bF (bV st (fy st x)) 0)=(true,a)):iV st { bV st (fy st x) with now:=a }=iV st x:=by
 obtain⟨z,f2,f3⟩:=h.fy;have D:=z.next f3 c;have e:iU (eW st x+1) st x=iU (eW st x) st { bV st (fy st x) with now:=a }:=by rw[iU,c]
 show iU _ st _=iU (eW st x+1) st x;rw[e];exact CH _ _ _ _ D.1 (by omega) (by omega) (aC _)
theorem Bk(st:Stat)(f:Fl):pc ((mL st.bad).map Bz) (FG f)=match tC st f with | true=>some (.im (.bool true)) | false=>none:=by
 unfold tC mL
 induction st.bad with
 | nil=>rfl
 | cons g l ih=>
  simp only[qO,Bz,pc,Vb];rw[EW];have e:decide (f.lot=g.lot/\f.panel=g.panel/\f.step=g.step/\f.visit=g.visit)=decide (g.lot=f.lot/\g.panel=f.panel/\g.step=f.step/\g.visit=f.visit):=by
   apply decide_eq_decide.2;constructor<;>rintro⟨c,z,D,G⟩<;>exact⟨c.symm,z.symm,D.symm,G.symm⟩
  rw[e];cases decide (g.lot=f.lot/\g.panel=f.panel/\g.step=f.step/\g.visit=f.visit) with
  | true=>rfl
  | false=>simpa [Bz] using ih
theorem Mq(st:Stat)(x:a_)(hx:SZ st x):cR C 18 [.bx 100000 0] (kK st x) (.tu []) (kK st (iV st x)):=by
 refine Kz ⟨[],[2],[],[],[],[]⟩ hC Tryz.func18 rfl (by kernel_rfl) fun _=>?_;refine d_ (fun y:a_=>SZ st y/\iV st y=iV st x) (fun _=>[(0,.bx 100000 0)]) (fun y=>kK st y) (fun y=>eW st y) x _ (aY.refl _ _) ⟨hx,rfl⟩ ⟨Z,Y⟩ ⟨Z,Z,Z,Z,Z,Z,Y⟩ fun y hk t h=>?_;obtain⟨k1,k2⟩:=hk;refine O3 (fun z:a_=>SZ st z/\eI st z=none/\fy st y=z/\eW st z<=eW st y) (fun _=>[(0,.bx 100000 0)]) (fun z=>kK st z) (fun z hz t h=>?_) ?_
 ·obtain⟨c,J,G,z4⟩:=hz;have hs:=c.start;refine⟨[(100000,100000),(90001,90001),(90002,90002),(90003,90003),(90004,90004),(90010,90010)],_,_,_,_,GQ st z c.sv c.hs.2,⟨rfl,rfl,rfl,iX (AB.ai _) (lI _ _),rfl,iX (AB.ai _) (lJ _ _),Z,Z,Y⟩,?_⟩;obtain⟨q,V⟩:=a8 (l:=(bV st z).queues) (i:=0) (by rw[hs.1.sv.ql];exact hs.1.hs.1);have vq:bF (bV st z) 0=q:=by rw[bF,V];rfl
  have LB:=JA st (bV st z) q V;have N:∀f a,eU (bV st z) q=(f,a)->eU (bV st (fy st y)) (bF (bV st (fy st y)) 0)=(f,a):=fun f a h=>by rw[G,vq,h]
  rcases hp:eU (bV st z) q with⟨f,a⟩;rw[hp]at LB;have FC:=N f a hp;cases f with
  | true=>
   refine⟨[(100000,100000),(90001,90001),(90002,90002),(90003,90003),(90004,90004),(90010,90010)],_,_,_,_,LB,⟨rfl,rfl,rfl,iX (AB.ai _) (by simp only[lI]),rfl,iX (AB.ai _) (by simp only[lJ]),Z,Z,Y⟩,?_⟩;have R6:=c.next J (a:=a) (by rw[vq,hp]);refine⟨{ bV st z with now:=a },_,aY.refl _ _,⟨R6.1,?_⟩,by omega,⟨Z,Y⟩,⟨rfl,iX (AB.ai _) (by simp only[lI]),rfl,iX (AB.ai _) (by simp only[lJ]),Z,Z,Y⟩⟩;have:=CI k1 FC;rw[G,k2]at this;exact this
  | false=>
   have e:iV st x=bV st z:=by
    rw[<-k2,iV,iU,FC,G]
   rw[e];exact⟨[(100000,100000),(90001,90001),(90002,90002),(90003,90003),(90004,90004),(90010,90010)],_,_,_,_,LB,⟨rfl,rfl,rfl,iX (AB.ai _) (by simp only[lI]),rfl,iX (AB.ai _) (by simp only[lJ]),Z,Z,Y⟩,_,aY.refl _ _,rfl,rfl,iX (AB.ai _) (by simp only[lI]),rfl,iX (AB.ai _) (by simp only[lJ]),Z,Z,Y⟩
 refine d_ (fun z:a_=>SZ st z/\fy st z=fy st y/\eW st z<=eW st y) (fun _=>[(0,.bx 100000 0)]) (fun z=>kK st z) (fun z=>eW st z) y _ (aY.refl _ _) ⟨k1,rfl,aC _⟩ ⟨Z,Y⟩ ⟨Z,Z,Z,Z,Z,Z,Y⟩ fun z hz t h=>?_;obtain⟨c,J,G⟩:=hz;have lm:=cH z.ends wt;apply iW<;>intro I<;>try simp only[zB]at I
 ·obtain⟨w,W,D⟩:∃w W,z.ends=w::W:=by cases he:z.ends with | nil=>rw[he]at I;simp at I | cons u Q=>exact⟨u,Q,rfl⟩
  have Pe:(z.ends.map wt)[0]?=some (wt w):=by rw[D];rfl
  refine⟨⟨by omega,by rw[D];simp⟩,(wt w),Pe,iW ?_ ?_⟩<;>intro h2<;>try simp only[zB]at h2
  ·obtain⟨i,k,r,g,j,s,b,lt,v,rfl,f1,f2,f3,f4,f5,f6,f7,f8,f9,f10,f11,O⟩:=c.fin D h2;have iR:=c.eI O;have hlen:=c.sv.tot;have F0:z.ends.length=W.length+1:=by rw[D];rfl
   refine⟨_,_,(show jm C _ _ [] _ (z.ends.map wt) (H7 (z.now,(i:Int),(k:Int))) ((dD z.ends).map wt) by rw[D];exact E0 _ W (by omega)),rfl,jL _,?_⟩;have hfn:=EX st { z with ends:=dD z.ends } z.now i k r g j s b lt v f1 f2 f3 f4 f5 f6 f7 f8 _ (Bk st ⟨lt.name,k,j.step,v+1⟩) f9 (by have:=c.dn;have e:WD=15000000:=rfl;show z.done.length<10000000;omega) c.sv.ql f10 f11 (fun q V=>by have I:q.length<=oQ z.queues:=sI V;have:=c.sv.tot;omega) c.hs.2;refine⟨[(100000,100000),(90001,90001),(29,90002),(90003,90003),(90004,90004),(90010,90010)],_,_,_,_,hfn,⟨rfl,rfl,rfl,iX (AB.ai _) (by simp only[cP,lI]),rfl,iX (AB.ai _) (by simp only[dF,lJ]),Z,Z,Y⟩,_,_,aY.ez _ 29 90002 (by decide) (by decide),⟨iR.1,by rw[<-J];exact CG c O,by omega⟩,iR.2,⟨Z,Y⟩,⟨rfl,iX (AB.ai _) (by simp only[lI,cJ]),rfl,iX (AB.ai _) (by simp only[lJ,dG]),Z,Z,Y⟩⟩
  have U:eI st z=none:=by rw[eI,D];simp only;rw[af h2]
  exact⟨z,⟨c,U,by rw[<-J,uD U],G⟩,⟨Z,Y⟩,⟨Z,Z,Z,Z,Z,Z,Y⟩⟩
 have D:z.ends=[]:=by cases he:z.ends with | nil=>rfl | cons u Q=>rw[he]at I;simp at I
 have U:eI st z=none:=by rw[eI,D]
 exact⟨z,⟨c,U,by rw[<-J,uD U],G⟩,⟨Z,Y⟩,⟨Z,Z,Z,Z,Z,Z,Y⟩⟩
end M
end Go.Proofs.YtedjhhieekileaaGreatDoor
