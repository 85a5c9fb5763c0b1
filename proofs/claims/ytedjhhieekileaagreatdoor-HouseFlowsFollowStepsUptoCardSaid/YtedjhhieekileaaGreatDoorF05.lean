/- Part 5 of the proof of HouseFlowsFollowSteps. -/
import Derived.Test.YtedjhhieekileaaGreatDoorF04
set_option linter.unusedVariables false
set_option linter.unusedSimpArgs false
set_option maxRecDepth 100000
set_option maxHeartbeats 8000000
namespace Go
abbrev UC:=@List.any_cons
end Go
namespace Go.Proofs.YtedjhhieekileaaGreatDoor
namespace M
open Go.AM Go.RowKit
def ky(n:Int)(p:Bool×Int):Bool×Int:=if p.1=false\/n<p.2 then (true,n) else p
def gJ(l:List Wt)(p:Bool×Int):Bool×Int:=match l with
 | []=>p
 | w::_=>ky w.1 p
def wc(now:Int)(l:List Wt)(p:Bool×Int):Bool×Int:=match l with
 | []=>p
 | w::_=>if now<w.1 then ky w.1 p else p
def eU(x:a_)(q:List Wt):Bool×Int:=wc x.now q (gJ x.ends (false,0))
theorem Pb(n:Int)(p:Bool×Int):aT C 67 [.pv (i64 n),.box [bool p.1],.box [i64 p.2]] (.tu []) [.box [bool (ky n p).1],.box [i64 (ky n p).2]]:=by
 obtain⟨f,a⟩:=p;refine fW hC Tryz.func67 rfl (by kernel_rfl) fun _=>?_;apply iW<;>intro h1<;>try simp only[zB]at h1
 ·have e:ky n (f,a)=(true,n):=by rw[ky,ae (.inl (by simpa using h1))]
  rw[e];exact⟨Z,Z,Z,Y⟩
 apply iW<;>intro h2<;>try simp only[zB]at h2
 ·have e:ky n (f,a)=(true,n):=by rw[ky,ae (.inr h2)]
  rw[e];exact⟨Z,Z,Z,Y⟩
 have e:ky n (f,a)=(f,a):=by rw[ky,af (fun h=>h.elim (fun h=>by simp_all) h2)]
 rw[e];exact⟨Z,Z,Z,Y⟩
variable {α:Type}
theorem dP{l:List α}{i:Nat}{a:α}(h:l[i]?=some a):l.set i a=l:=by
 apply fj;intro k;by_cases e:k=i
 ·subst e;rw[aP (ah h),h]
 rw[bw (fun h=>e h.symm)]
theorem JA(st:Stat)(x:a_)(q:List Wt)(hq:x.queues[0]?=some q):cR C 42 [.bx 100000 0] (kK st x) (.tu [.p (i64 (eU x q).2),.p (bool (eU x q).1)]) (kK st x):=by
 have lq:=ah hq;refine Kz ⟨[5],[],[],[],[],[]⟩ hC Tryz.func42 rfl (by kernel_rfl) fun _=>?_;apply iW<;>intro h1<;>try simp only[zB]at h1
 ·obtain⟨w,W,hw⟩:∃w W,x.ends=w::W:=by cases he:x.ends with | nil=>rw[he]at h1;simp at h1 | cons u Q=>exact⟨u,Q,rfl⟩
  refine⟨⟨by omega,by rw[hw];simp⟩,(wt w),(by rw[hw];rfl),_,_,(Pb w.1 (false,0)),?_⟩;refine lG (aY.mi (by exact hC) _ 90001 0 0 90015 (e:=53) (by decide) (by decide) (by exact qU (AB.ai _) (by simp only[cP,cJ])) (ru _) (ff qC hq) (by exact rfl)) ?_;refine⟨⟨by omega,by simp only[aF,Al];exact lq⟩,[HX.av (.ow 90015)],(by exact aP (by rw[Al];exact lq)),?_⟩;apply iW<;>intro h2<;>try simp only[zB]at h2
  ·obtain⟨u,Q,rfl⟩:∃u Q,q=u::Q:=by cases q with | nil=>simp at h2 | cons u Q=>exact⟨u,Q,rfl⟩
   refine⟨⟨by omega,by simp⟩,(wt u),rfl,iW ?_ ?_⟩<;>intro h3<;>try simp only[zB]at h3
   ·have e:eU x (u::Q)=ky u.1 (ky w.1 (false,0)):=by simp only[eU,hw,wc,gJ,ae h3]
    rw[e];refine⟨⟨by omega,by simp⟩,(wt u),rfl,_,_,(Pb u.1 (ky w.1 (false,0))),_,aY.jg (by exact hC) _ 90001 0 0 7 (e:=53) (es:=(x.queues.map qC).set 0 [.av (.ow 7)]) (e':=68) (xs:=(u::Q:List Wt).map wt) (by decide) (by exact qU (AB.ai _) (by simp only[rA,cP,cJ];rfl)) (by exact rfl) (by exact aP (by rw[Al];exact lq)) (by exact rfl),rfl,rfl,?_,rfl,?_,Z,Z,Y⟩
    ·refine qU (AB.ai _) ?_;show ((x.queues.map qC).set 0 [HX.av (.ow 7)]).set 0 [HX.row 68 ((u::Q:List Wt).map wt)]=_;rw[Ti,jq,dP hq]
    exact qU (AB.ai _) (by simp only[dF,dG])
   have e:eU x (u::Q)=ky w.1 (false,0):=by simp only[eU,hw,wc,gJ,af h3]
   rw[e];refine⟨_,aY.jg (by exact hC) _ 90001 0 0 7 (e:=53) (es:=(x.queues.map qC).set 0 [.av (.ow 7)]) (e':=68) (xs:=(u::Q:List Wt).map wt) (by decide) (by exact qU (AB.ai _) (by simp only[rA,cP,cJ];rfl)) (by exact rfl) (by exact aP (by rw[Al];exact lq)) (by exact rfl),rfl,rfl,?_,rfl,?_,Z,Z,Y⟩
   ·refine qU (AB.ai _) ?_;show ((x.queues.map qC).set 0 [HX.av (.ow 7)]).set 0 [HX.row 68 ((u::Q:List Wt).map wt)]=_;rw[Ti,jq,dP hq]
   exact qU (AB.ai _) (by simp only[dF,dG])
  obtain rfl:q=[]:=by cases q with | nil=>rfl | cons u Q=>simp at h2
  have e:eU x []=ky w.1 (false,0):=by simp only[eU,hw,wc,gJ]
  rw[e];refine⟨_,aY.jg (by exact hC) _ 90001 0 0 7 (e:=53) (es:=(x.queues.map qC).set 0 [.av (.ow 7)]) (e':=68) (xs:=([]:List Wt).map wt) (by decide) (by exact qU (AB.ai _) (by simp only[rA,cP,cJ];rfl)) (by exact rfl) (by exact aP (by rw[Al];exact lq)) (by exact rfl),rfl,rfl,?_,rfl,?_,Z,Z,Y⟩
  ·refine qU (AB.ai _) ?_;show ((x.queues.map qC).set 0 [HX.av (.ow 7)]).set 0 [HX.row 68 (([]:List Wt).map wt)]=_;rw[Ti,jq,dP hq]
  exact qU (AB.ai _) (by simp only[dF,dG])
 have hw:x.ends=[]:=by cases he:x.ends with | nil=>rfl | cons u Q=>rw[he]at h1;simp at h1
 refine lG (aY.mi (by exact hC) _ 90001 0 0 90015 (e:=53) (by decide) (by decide) (by exact qU (AB.ai _) (by simp only[cP,cJ])) (ru _) (ff qC hq) (by exact rfl)) ?_;refine⟨⟨by omega,by simp only[aF,Al];exact lq⟩,[HX.av (.ow 90015)],(by exact aP (by rw[Al];exact lq)),?_⟩;apply iW<;>intro h2<;>try simp only[zB]at h2
 ·obtain⟨u,Q,rfl⟩:∃u Q,q=u::Q:=by cases q with | nil=>simp at h2 | cons u Q=>exact⟨u,Q,rfl⟩
  refine⟨⟨by omega,by simp⟩,(wt u),rfl,iW ?_ ?_⟩<;>intro h3<;>try simp only[zB]at h3
  ·have e:eU x (u::Q)=ky u.1 ((false,0)):=by simp only[eU,hw,wc,gJ,ae h3]
   rw[e];refine⟨⟨by omega,by simp⟩,(wt u),rfl,_,_,(Pb u.1 ((false,0))),_,aY.jg (by exact hC) _ 90001 0 0 7 (e:=53) (es:=(x.queues.map qC).set 0 [.av (.ow 7)]) (e':=68) (xs:=(u::Q:List Wt).map wt) (by decide) (by exact qU (AB.ai _) (by simp only[rA,cP,cJ];rfl)) (by exact rfl) (by exact aP (by rw[Al];exact lq)) (by exact rfl),rfl,rfl,?_,rfl,?_,Z,Z,Y⟩
   ·refine qU (AB.ai _) ?_;show ((x.queues.map qC).set 0 [HX.av (.ow 7)]).set 0 [HX.row 68 ((u::Q:List Wt).map wt)]=_;rw[Ti,jq,dP hq]
   exact qU (AB.ai _) (by simp only[dF,dG])
  have e:eU x (u::Q)=(false,0):=by simp only[eU,hw,wc,gJ,af h3]
  rw[e];refine⟨_,aY.jg (by exact hC) _ 90001 0 0 7 (e:=53) (es:=(x.queues.map qC).set 0 [.av (.ow 7)]) (e':=68) (xs:=(u::Q:List Wt).map wt) (by decide) (by exact qU (AB.ai _) (by simp only[rA,cP,cJ];rfl)) (by exact rfl) (by exact aP (by rw[Al];exact lq)) (by exact rfl),rfl,rfl,?_,rfl,?_,Z,Z,Y⟩
  ·refine qU (AB.ai _) ?_;show ((x.queues.map qC).set 0 [HX.av (.ow 7)]).set 0 [HX.row 68 ((u::Q:List Wt).map wt)]=_;rw[Ti,jq,dP hq]
  exact qU (AB.ai _) (by simp only[dF,dG])
 obtain rfl:q=[]:=by cases q with | nil=>rfl | cons u Q=>simp at h2
 have e:eU x []=(false,0):=by simp only[eU,hw,wc,gJ]
 rw[e];refine⟨_,aY.jg (by exact hC) _ 90001 0 0 7 (e:=53) (es:=(x.queues.map qC).set 0 [.av (.ow 7)]) (e':=68) (xs:=([]:List Wt).map wt) (by decide) (by exact qU (AB.ai _) (by simp only[rA,cP,cJ];rfl)) (by exact rfl) (by exact aP (by rw[Al];exact lq)) (by exact rfl),rfl,rfl,?_,rfl,?_,Z,Z,Y⟩
 ·refine qU (AB.ai _) ?_;show ((x.queues.map qC).set 0 [HX.av (.ow 7)]).set 0 [HX.row 68 (([]:List Wt).map wt)]=_;rw[Ti,jq,dP hq]
 exact qU (AB.ai _) (by simp only[dF,dG])
def dR(b:List Bool):Nat:=b.findIdx fun x=>!x
theorem ux{b:List Bool}{i:Nat}(h:∀x∈b.take i,x=true)(hi:i<=b.length):i<=dR b:=by
 unfold dR;by_cases e:i<=b.findIdx fun x=>!x
 ·exact e
 exfalso;have dv:(b.findIdx fun x=>!x)<b.length:=by omega
 have h1:=List.findIdx_getElem (p:=fun x=>!x) (w:=dv);have h2:=h (b[b.findIdx fun x=>!x]) (List.mem_take_iff_getElem.2 ⟨_,by omega,rfl⟩);simp[h2]at h1
theorem zU(b:List Bool)(hN:b.length<=1000000):aT C 66 [.pv (.sl (b.map fun x=>[bool x])),.pv (bool false)] (.p (i64 (if dR b<b.length then (dR b:Int) else -1))) []:=by
 refine fW hC Tryz.func66 rfl (by kernel_rfl) fun _=>?_;have lm:=cH b fun x=>[bool x];refine d_ (fun i:Nat=>i<=b.length/\∀x∈b.take i,x=true) (fun i=>[(0,.p (.sl (b.map fun x=>[bool x]))),(1,.p (bool false)),(7,.p (i64 b.length)),(8,.p (i64 i))]) (fun _=>[]) (fun i=>b.length-i) 0 _ (aY.refl _ _) ⟨bd _,by simp⟩ ⟨rfl,rfl,qU (fun n:Nat=>AV.p (i64 n)) lm,Z,Y⟩ trivial fun i hi t h=>?_;apply iW<;>intro h1<;>try simp only[zB]at h1
 ·obtain⟨x,hx⟩:=a8 (l:=b) (i:=i) (by omega);refine⟨[bool x],(by exact⟨by omega,by rw[wh,ao,hx];rfl⟩),?_⟩;cases x with
  | true=>
   refine⟨wO (by omega),(i+1),_,aY.refl _ _,⟨by omega,fun x KB=>?_⟩,by omega,⟨Z,Z,Z,Z,Y⟩,trivial⟩;rw[bT hx,cX,n9]at KB;exact KB.elim (hi.2 x) fun e=>e
  | false=>
   have e:dR b=i:=by
    refine Nat.le_antisymm ?_ (ux hi.2 hi.1);refine Nat.le_of_not_lt fun dv=>?_;have:=List.not_of_lt_findIdx dv;rw[cL]at hx;obtain⟨h3,h4⟩:=hx;simp[h4]at this
   refine⟨?_,trivial⟩;rw[e,ae (by omega)]
 refine⟨?_,trivial⟩;have:=ux hi.2 hi.1;rw[af (by omega)];rfl
variable {l:List Wt}
theorem pM{i j:Nat}{a b w:Wt}(ha:a∈l)(hb:b∈l)(h:w∈cO l i j a b):w∈l:=by
 unfold cO at h;rcases cw h with h | h
 ·rcases cw h with h | h
  ·exact h
  rw[h];exact hb
 rw[h];exact ha
theorem Ba:∀(n:Nat) (l:List Wt) (j:Nat) (w:Wt),w∈uw n l j->w∈l
 | 0,l,j,w,h=>h
 | n+1,l,j,w,h=>by
  unfold uw at h;split at h
  ·rename_i a b ha hb;split at h
   ·exact h
   split at h
   ·exact pM (aj hb) (aj ha) (Ba n _ _ w h)
   exact h
  exact h
theorem uy:∀(f:Nat) (l:List Wt) (i n:Nat) (w:Wt),w∈c9 f l i n->w∈l
 | 0,l,i,n,w,h=>h
 | f+1,l,i,n,w,h=>by
  unfold c9 at h;split at h
  ·exact h
  split at h
  ·rename_i a b ha hb;split at h
   ·exact pM (aj hb) (aj ha) (uy f _ _ _ w h)
   exact h
  exact h
theorem pN(l:List Wt)(x:Wt):(eH l x).length=l.length+1:=by rw[eH,A8];simp
theorem Th{x w:Wt}(h:w∈eH l x):w∈l\/w=x:=by
 have:=Ba _ _ _ _ h;simpa using this
theorem xT{i n:Nat}(h:2*i+1<n):gg l i n<n:=by unfold gg;split<;>omega
theorem sH:∀(f:Nat) (l:List Wt) (i n m:Nat),n<=m->(c9 f l i n)[m]?=l[m]?
 | 0,l,i,n,m,h=>rfl
 | f+1,l,i,n,m,h=>by
  unfold c9;split
  ·rfl
  rename_i dv;split
  ·split
   ·have h1:=xT (l:=l) (i:=i) (n:=n) (by omega);rw[sH f _ _ _ m h,cO,bw (by omega),bw (by omega)]
   rfl
  rfl
def dD(l:List Wt):List Wt:=match l[0]?,l[l.length-1]? with
 | some a,some b=>(c9 (l.length-1) (cO l 0 (l.length-1) a b) 0 (l.length-1)).take (l.length-1)
 | _,_=>l
theorem oP(a:Wt)(l:List Wt):(dD (a::l)).length=l.length:=by
 obtain⟨b,hb⟩:∃b,(a::l)[(a::l).length-1]?=some b:=a8 (by simp);rw[dD,hb];simp only[qV,cu,jJ,cy,cD];omega
theorem lK{w:Wt}(h:w∈dD l):w∈l:=by
 unfold dD at h;split at h
 ·rename_i a b ha hb;exact pM (aj ha) (aj hb) (uy _ _ _ _ w (nH h))
 exact h
theorem E0(a:Wt)(l:List Wt)(hN:l.length<1000000):jm C 40 66 [] 68 ((a::l).map wt) (H7 a) ((dD (a::l)).map wt):=by
 obtain⟨b,hb⟩:∃b,(a::l)[(a::l).length-1]?=some b:=a8 (by simp);refine Mh (a::l) (dD (a::l)) a b a rfl hb ?_ (by simp;omega);rw[dD,hb];simp only[qV];have h1:=sH ((a::l).length-1) (cO (a::l) 0 ((a::l).length-1) a b) 0 ((a::l).length-1) ((a::l).length-1) (aC _);have h2:(cO (a::l) 0 ((a::l).length-1) a b)[(a::l).length-1]?=some a:=by
  rw[cO,aP (by simp)]
 have h3:(c9 ((a::l).length-1) (cO (a::l) 0 ((a::l).length-1) a b) 0 ((a::l).length-1)).length=(a::l).length-1+1:=by rw[jJ,cy];simp
 have h4:=bT (h1.trans h2);rw[vm (by omega)]at h4;exact h4
def oQ(l:List (List Wt)):Nat:=(l.map List.length).sum
theorem oR:∀{l:List (List Wt)} {i:Nat} {q:List Wt} (q':List Wt),l[i]?=some q->oQ (l.set i q')+q.length=oQ l+q'.length
 | [],i,q,q',h=>by simp at h
 | a::l,0,q,q',h=>by
  simp at h;subst h;simp only[oQ,km,qO,S7];omega
 | a::l,i+1,q,q',h=>by
  have:=oR (l:=l) q' (by simpa using h);simp only[oQ,ji,qO,S7]at this ⊢;omega
theorem sI:∀{l:List (List Wt)} {q:List Wt},q∈l->q.length<=oQ l
 | a::l,q,h=>by
  simp only[oQ,qO,S7];rcases fL.1 h with rfl | h
  ·omega
  have:=sI h;simp only[oQ]at this;omega
def yq(st:Stat)(w:Wt):Prop:=∃(i k:Nat) (r:List Nat) (g:Nat),w.2.1=i/\w.2.2=k/\st.gs[i]?=some r/\r[k]?=some g
def bU(st:Stat)(w:Wt):Nat:=pos st.gs w.2.1.toNat w.2.2.toNat
structure wm(st:Stat)(x:a_):Prop where
 ql:x.queues.length=st.steps.length
 bl:x.busy.length=st.steps.length
 jl:x.jobs.length=st.gs.flatten.length
 qw:∀q∈x.queues,∀w∈q,yq st w
 tot:oQ x.queues+x.ends.length<=500000
 bn:∀b∈x.busy,b.length<=1000
 now:0<=x.now/\x.now<=1000000000000000
 mn:∀s∈st.steps,0<=s.minutes/\s.minutes<=1000000
def en(i:Nat)(s:gI)(x:a_)(q:List Wt)(a:Wt)(b:List Bool)(m:Nat)(j:lH):a_:=
 {x with jobs:=x.jobs.set m { j with machine:=dR b,from_:=x.now },queues:=x.queues.set i (dD q),ends:=eH x.ends (x.now+s.minutes,a.2.1,a.2.2),busy:=x.busy.set i (b.set (dR b) true) }
def du(st:Stat)(i:Nat)(x:a_):Option a_:=match st.steps[i]?,x.queues[i]?,x.busy[i]? with
 | some s,some (a::Q),some b=>if a.1<=x.now/\dR b<b.length then match x.jobs[bU st a]? with
  | some j=>some (en i s x (a::Q) a b (bU st a) j)
  | none=>none
  else none
 | _,_,_=>none
def eo:Nat->Stat->Nat->a_->a_
 | 0,_,_,x=>x
 | n+1,st,i,x=>match du st i x with
  | some y=>eo n st i y
  | none=>x
def dE(st:Stat)(i:Nat)(x:a_):a_:=eo (bF x i).length st i x
def bV(st:Stat)(x:a_):a_:=(List.range st.steps.length).foldl (fun x i=>dE st i x) x
theorem yq.RZ{st:Stat}{x:a_}(h:wm st x){w:Wt}(hw:yq st w):∃(i k:Nat) (r:List Nat) (g:Nat) (j:lH),w.2=((i:Int),(k:Int))/\st.gs[i]?=some r/\r[k]?=some g/\bU st w=pos st.gs i k/\x.jobs[pos st.gs i k]?=some j:=by
 obtain⟨i,k,r,g,h1,h2,h3,h4⟩:=hw;have hg:=gr st.gs i k r g h3 h4;obtain⟨j,hj⟩:=a8 (l:=x.jobs) (i:=pos st.gs i k) (by rw[h.jl];exact ah hg);exact⟨i,k,r,g,j,Prod.ext h1 h2,h3,h4,by rw[bU,h1,h2,wh,wh],hj⟩
variable {j:lH}
theorem wm.start{st:Stat}{x:a_}(h:wm st x){i m:Nat}{s:gI}{a:Wt}{Q:List Wt}{b:List Bool}(hq:x.queues[i]?=some (a::Q))(hb:x.busy[i]?=some b):wm st (en i s x (a::Q) a b m j):=by
 have dq:=aj hq;refine⟨by simp[en,h.ql],by simp[en,h.bl],by simp[en,h.jl],fun q vq w hw=>?_,?_,fun c hc=>?_,h.now,h.mn⟩
 ·rcases cw vq with vq | rfl
  ·exact h.qw q vq w hw
  exact h.qw _ dq w (lK hw)
 ·have h1:(en i s x (a::Q) a b m j).ends.length=x.ends.length+1:=pN _ _;have h2:=oR (dD (a::Q)) hq;rw[oP,cD]at h2;have h3:=h.tot;show oQ (x.queues.set i (dD (a::Q)))+(en i s x (a::Q) a b m j).ends.length<=500000;rw[h1];omega
 rcases cw hc with hc | rfl
 ·exact h.bn c hc
 rw[aF];exact h.bn b (aj hb)
theorem zV{st:Stat}{i:Nat}{x y:a_}(h:du st i x=some y):∃s a Q b j,st.steps[i]?=some s/\x.queues[i]?=some (a::Q)/\x.busy[i]?=some b/\x.jobs[bU st a]?=some j/\y=en i s x (a::Q) a b (bU st a) j:=by
 unfold du at h;split at h
 ·rename_i s a Q b h1 h2 h3;split at h
  ·split at h
   ·rename_i j hj;injection h with h;exact⟨s,a,Q,b,j,h1,h2,h3,hj,h.symm⟩
   cases h
  cases h
 cases h
theorem xU{st:Stat}{i:Nat}{x y:a_}(h:du st i x=some y):dE st i y=dE st i x:=by
 obtain⟨s,a,Q,b,j,h1,h2,h3,h4,rfl⟩:=zV h;have e1:(bF x i).length=Q.length+1:=by rw[bF,h2];rfl
 have e2:(bF (en i s x (a::Q) a b (bU st a) j) i).length=Q.length:=by
  show (((x.queues.set i (dD (a::Q)))[i]?).getD []).length=_;rw[aP (ah h2)];exact oP a Q
 rw[dE,dE,e1,e2,eo,h]
theorem xV{st:Stat}{i:Nat}{x:a_}(h:du st i x=none):dE st i x=x:=by
 unfold dE;cases (bF x i).length with
 | zero=>rfl
 | succ n=>rw[eo,h]
def Pc(st:Stat)(x:a_)(i:Nat):List (Nat×AB):=[(100000,.box (H9 st x)),(90001,.ai 53 ((x.queues.map qC).set i [.av (.ow 90015)])),(90015,.row 68 ((bF x i).map wt)),(90002,.row 68 (x.ends.map wt)),(90003,.ai 59 (x.busy.map bC)),(90004,.row 34 (x.done.map dc)),(90010,.fam (nz st.gs.flatten x.jobs) [])]
theorem zW(f:α->Nat->α)(a:α){i n:Nat}(h:i<n):(List.range' i (n-i)).foldl f a=(List.range' (i+1) (n-(i+1))).foldl f (f a i):=by
 rw[show n-i=(n-(i+1))+1 by omega,List.range'_succ,uY]
theorem GQ(st:Stat)(x:a_)(hx:wm st x)(hS:st.steps.length<=1000):cR C 41 [.bx 100000 0] (kK st x) (.tu []) (kK st (bV st x)):=by
 have lm:=cH st.steps gq;refine Kz ⟨[5,7,9],[],[],[12],[],[]⟩ hC Tryz.func41 rfl (by kernel_rfl) fun _=>?_;refine d_ (fun p:Nat×a_=>p.1<=st.steps.length/\wm st p.2/\(List.range' p.1 (st.steps.length-p.1)).foldl (fun x i=>dE st i x) p.2=bV st x) (fun p=>[(0,.bx 100000 0),(11,.p (.sl (st.steps.map gq))),(12,.p (i64 st.steps.length)),(13,.p (i64 p.1))]) (fun p=>kK st p.2) (fun p=>st.steps.length-p.1) (0,x) _ (aY.refl _ _) ⟨bd _,hx,by rw[bV,List.range_eq_range',Nat.sub_zero]⟩ ⟨rfl,rfl,qU (fun n:Nat=>AV.p (i64 n)) lm,Z,Y⟩ ⟨Z,Z,Z,Z,Z,Z,Y⟩ fun ⟨i,y⟩ hk t h=>?_;simp only at hk;obtain⟨k1,k2,k3⟩:=hk;apply iW<;>intro h1<;>try simp only[zB]at h1
 ·have hi:i<st.steps.length:=by simpa using h1
  obtain⟨s,hs⟩:=a8 hi;refine⟨(gq s),(idx rfl hs),?_⟩;have Qn:i<y.queues.length:=by rw[k2.ql];exact hi
  obtain⟨q0,yp⟩:=a8 Qn;have Pd:bF y i=q0:=by rw[bF,yp];rfl
  refine⟨⟨by omega,by simp only[cP,Al,wh];exact Qn⟩,?_⟩;refine d_ (fun z:a_=>wm st z/\dE st i z=dE st i y) (fun _=>[(0,.bx 100000 0),(2,.p (i64 i)),(3,.bx 3 0),(4,.rp 90001 i 0),(11,.p (.sl (st.steps.map gq))),(12,.p (i64 st.steps.length)),(13,.p (i64 i))]) (fun z=>(3,.box ((gq s).map .p))::Pc st z i) (fun z=>(bF z i).length) y _ (aY.mi (by exact hC) _ 90001 i 0 90015 (e:=53) (by decide) (by decide) (by exact qU (AB.ai _) (by simp only[cP,cJ])) (ru _) (ff qC yp) (by exact rfl)) ⟨k2,rfl⟩ ⟨Z,Z,Z,Z,Z,Z,Z,Y⟩ ?_ fun z hz t h=>?_
  ·exact⟨rfl,rfl,rfl,by rw[Pd];rfl,rfl,qU (AB.ai _) (by simp only[dF,dG]),Z,Z,Y⟩
  obtain⟨z1,z2⟩:=hz;have Ni:i<z.queues.length:=by rw[z1.ql];exact hi
  have GR:i<z.busy.length:=by rw[z1.bl];exact hi
  obtain⟨b,hb⟩:=a8 GR;obtain⟨q1,gR⟩:=a8 Ni;have wo:bF z i=q1:=by rw[bF,gR];rfl
  have uz:((z.queues.map qC).set i [HX.av (.ow 90015)])[i]?=some [HX.av (.ow 90015)]:=aP (by rw[Al];exact Ni);have Bb:((z.busy.map bC).set i [HX.av (.ow 90013)])[i]?=some [HX.av (.ow 90013)]:=aP (by rw[Al];exact GR);have Bc:((z.queues.map qC).set i [HX.av (.ow 90015)]).set i [HX.row 68 (q1.map wt)]=z.queues.map qC:=by rw[Ti,jq,dP gR]
  have Mj:((z.busy.map bC).set i [HX.av (.ow 90013)]).set i [HX.row 4 (b.map fun x=>[bool x])]=z.busy.map bC:=by rw[Ti,zT,dP hb]
  have stop:du st i z=none->(List.range' (i+1) (st.steps.length-(i+1))).foldl (fun x i=>dE st i x) z=bV st x:=fun h0=>by
   rw[<-k3];rw[zW _ _ hi,<-z2,xV h0]
  refine⟨[HX.av (.ow 90015)],uz,iW ?_ ?_⟩<;>intro h2<;>try simp only[zB]at h2
  ·obtain⟨a,Q,rfl⟩:∃a Q,q1=a::Q:=by cases q1 with | nil=>rw[wo]at h2;simp at h2 | cons u Q=>exact⟨u,Q,rfl⟩
   have R0:((bF z i).map wt)[0]?=some (wt a):=by rw[wo];rfl
   have Pe:0<((bF z i).map wt).length:=by rw[wo];simp
   refine⟨[HX.av (.ow 90015)],uz,⟨by omega,Pe⟩,(wt a),R0,iW ?_ ?_⟩<;>intro h3<;>try simp only[zB]at h3
   ·refine lG (aY.mi (by exact hC) _ 90003 i 0 90013 (e:=59) (by decide) (by decide) (by exact qU (AB.ai _) (by simp only[dF,dG])) (A9 _) (ff bC hb) (by exact rfl)) ?_;refine⟨⟨by omega,by simp only[aF,Al,wh];exact GR⟩,[HX.av (.ow 90013)],(by rw[wh];exact Bb),?_⟩;have C2:=zU b (by have:=z1.bn b (aj hb);omega);by_cases dY:dR b<b.length
    ·rw[ae dY]at C2;refine⟨_,_,C2,?_⟩;obtain⟨li,k,r,g,j,Qo,cK,M1,hpos,hj⟩:=yq.RZ z1 (z1.qw _ (aj gR) a dJ);obtain⟨at_,a2⟩:=a;simp only at Qo;subst Qo;have O9:du st i z=some (en i s z ((at_,(li:Int),(k:Int))::Q) (at_,li,k) b (pos st.gs li k) j):=by
      rw[du,hs,gR,hb];simp only;rw[ae ⟨h3,dY⟩,hpos,hj]
     have hg:=gr st.gs li k r g cK M1;have hf:=zS hg hj;have hlen:=z1.tot;have Az:=sI (aj gR);simp only[cD]at Az;refine lG ((aY.jg (by exact hC) _ 90001 i 0 90015 (e:=53) (es:=(z.queues.map qC).set i [.av (.ow 90015)]) (e':=68) (xs:=(((at_,(li:Int),(k:Int))::Q:List Wt)).map wt) (by decide) (by exact qU (AB.ai _) (by simp only[rA,cP,cJ];rfl)) (by exact qU (AB.row _) (by rw[wo])) uz (by exact rfl)).trans (aY.KA _ 90001 (.ai 53 (z.queues.map qC)) (by exact qU (AB.ai _) Bc))) ?_;refine⟨(qC ((at_,(li:Int),(k:Int))::Q)),(by simp only[cP,cJ];exact ff qC gR),_,_,E0 (at_,li,k) Q (by omega),rfl,jL _,[CE r],(idx rfl cK),[ptr g],(idx rfl M1),?_⟩;refine lG ((aY.zJ (by exact hC) _ 90010 90012 7 (pos st.gs li k) (by decide) (by decide) (by exact rfl) hf (by exact rfl)).trans (aY.open (by exact hC) _ 90012 [90014] (by exact rfl) (by exact rfl) (by exact rfl) (by exact rfl))) ?_;refine⟨⟨by omega,by simp only[aF,Al,wh];exact GR⟩,[HX.av (.ow 90013)],(by simp only[rA,dF,dG];exact Bb),⟨by omega,by rw[wh,Al];exact dY⟩,?_⟩;obtain⟨b0,F1⟩:=a8 dY;refine⟨[bool b0],(by rw[wh,ao,F1];rfl),?_⟩;have Pf:=z1.now;have SC:=z1.mn s (aj hs);refine⟨wO (by omega),_,_,wb z.ends (z.now+s.minutes,li,k) (by omega),rfl,jL _,?_⟩;have Pg:wm st (en i s z ((at_,(li:Int),(k:Int))::Q) (at_,li,k) b (pos st.gs li k) j):=z1.start gR hb;have e2:bF (en i s z ((at_,(li:Int),(k:Int))::Q) (at_,li,k) b (pos st.gs li k) j) i=dD ((at_,(li:Int),(k:Int))::Q):=by
      show ((z.queues.set i (dD _))[i]?).getD []=_;rw[aP Ni];rfl
     refine⟨en i s z ((at_,(li:Int),(k:Int))::Q) (at_,li,k) b (pos st.gs li k) j,_,(((((aY.pack (by exact hC) _ 90012 (cs:=pL { j with machine:=dR b,from_:=z.now }) (by exact rfl) (by exact rfl) (by exact⟨Z,Z,Z,Z,Z,Z,Z,Z,Z,Y⟩)).trans (aY.sr (by exact hC) _ 90010 90012 (pos st.gs li k) (by exact rfl) (by exact rfl) hf)).trans (aY.jg (by exact hC) _ 90003 i 0 90013 (e:=59) (es:=(z.busy.map bC).set i [.av (.ow 90013)]) (e':=4) (xs:=(b.set (dR b) true).map fun x=>[bool x]) (by decide) (by exact qU (AB.ai _) (by simp only[rA,dF,dG];rfl)) (by exact qU (AB.row _) (by rw[rA];rfl)) Bb (by exact rfl))).trans (aY.KA _ 90003 (.ai 59 ((z.busy.set i (b.set (dR b) true)).map bC)) (by exact qU (AB.ai _) (by show ((z.busy.map bC).set i _).set i [HX.row _ _]=_;rw[Ti,zT])))).trans (aY.ez _ 102 90002 (by decide) (by decide))).trans (aY.mi (by exact hC) _ 90001 i 0 90015 (e:=53) (es:=(z.queues.set i (dD ((at_,(li:Int),(k:Int))::Q))).map qC) (by decide) (by decide) (by exact qU (AB.ai _) (by simp only[rA,cP,cJ];rfl)) (ru _) (ff qC (aP Ni)) (by exact rfl)),⟨Pg,by rw[xU O9,z2]⟩,?_,⟨Z,Z,Z,Z,Z,Z,Z,Y⟩,⟨rfl,rfl,rfl,?_,rfl,?_,rfl,?_,trivial⟩⟩
     ·rw[e2,oP,wo];simp
     ·rw[e2];rfl
     ·exact qU (AB.ai _) (by simp only[dF,dG];rfl)
     exact qU (fun l=>AB.fam l []) (kx hg)
    rw[af dY]at C2;refine⟨_,_,C2,wO (by omega),(i+1,z),_,((aY.jg (by exact hC) _ 90003 i 0 90013 (e:=59) (es:=(z.busy.map bC).set i [.av (.ow 90013)]) (e':=4) (xs:=b.map fun x=>[bool x]) (by decide) (by exact qU (AB.ai _) (by simp only[rA,dF,dG];rfl)) (by exact rfl) Bb (by exact rfl)).trans (aY.KA _ 90003 (.ai 59 (z.busy.map bC)) (by exact qU (AB.ai _) Mj))).trans ((aY.jg (by exact hC) _ 90001 i 0 90015 (e:=53) (es:=(z.queues.map qC).set i [.av (.ow 90015)]) (e':=68) (xs:=(a::Q:List Wt).map wt) (by decide) (by exact qU (AB.ai _) (by simp only[rA,cP,cJ];rfl)) (by exact qU (AB.row _) (by rw[wo])) uz (by exact rfl)).trans (aY.KA _ 90001 (.ai 53 (z.queues.map qC)) (by exact qU (AB.ai _) Bc))),⟨by omega,z1,stop ?_⟩,by simp only;omega,⟨Z,Z,Z,Z,Y⟩,⟨rfl,rfl,rfl,?_,Z,Z,Y⟩⟩
    ·rw[du,hs,gR,hb];simp only;rw[af fun h=>dY h.2]
    exact qU (AB.ai _) (by simp only[dF,dG])
   refine⟨wO (by omega),(i+1,z),_,((aY.jg (by exact hC) _ 90001 i 0 90015 (e:=53) (es:=(z.queues.map qC).set i [.av (.ow 90015)]) (e':=68) (xs:=(a::Q:List Wt).map wt) (by decide) (by exact qU (AB.ai _) (by simp only[rA,cP,cJ];try rfl)) (by exact qU (AB.row _) (by rw[wo])) uz (by exact rfl)).trans (aY.KA _ 90001 (.ai 53 (z.queues.map qC)) (by exact qU (AB.ai _) Bc))),⟨by omega,z1,stop ?_⟩,by simp only;omega,⟨Z,Z,Z,Z,Y⟩,⟨rfl,rfl,rfl,?_,Z,Z,Y⟩⟩
   ·rw[du,hs,gR,hb];simp only;rw[af fun h=>h3 h.1]
   exact qU (AB.ai _) (by simp only[dF,dG])
  obtain rfl:q1=[]:=by cases q1 with | nil=>rfl | cons u Q=>rw[wo]at h2;simp at h2
  refine⟨wO (by omega),(i+1,z),_,((aY.jg (by exact hC) _ 90001 i 0 90015 (e:=53) (es:=(z.queues.map qC).set i [.av (.ow 90015)]) (e':=68) (xs:=([]:List Wt).map wt) (by decide) (by exact qU (AB.ai _) (by simp only[rA,cP,cJ];try rfl)) (by exact qU (AB.row _) (by rw[wo])) uz (by exact rfl)).trans (aY.KA _ 90001 (.ai 53 (z.queues.map qC)) (by exact qU (AB.ai _) Bc))),⟨by omega,z1,stop ?_⟩,by simp only;omega,⟨Z,Z,Z,Z,Y⟩,⟨rfl,rfl,rfl,?_,Z,Z,Y⟩⟩
  ·rw[du,hs,gR,hb]
  exact qU (AB.ai _) (by simp only[dF,dG])
 have hi:i=st.steps.length:=by
  have:¬(i:Int)<st.steps.length:=by simpa using h1
  omega
 subst hi;have e:y=bV st x:=by rw[<-k3,fH];rfl
 rw[<-e];exact⟨_,aY.refl _ _,Z,Z,Z,Z,Z,Z,Z,Y⟩
def tC(st:Stat)(f:Fl):Bool:=st.bad.any fun g=>decide (g.lot=f.lot/\g.panel=f.panel/\g.step=f.step/\g.visit=f.visit)
def eI(st:Stat)(x:a_):Option a_:=match x.ends with
 | []=>none
 | w::W=>if w.1=x.now then match x.jobs[bU st w]?,st.lots[w.2.1.toNat]? with
  | some j,some lt=>match st.steps[j.step]?,x.busy[j.step]?,j.visits[j.step]? with
   | some s,some b,some v=>some (mM st { x with ends:=dD x.ends } w w.2.2.toNat (bU st w) j s b v lt.name (tC st ⟨lt.name,w.2.2,j.step,v+1⟩))
   | _,_,_=>none
  | _,_=>none
  else none
def fx(st:Stat)(x:a_)(w:Wt):Nat:=match x.jobs[bU st w]? with
 | some j=>(5-j.made.rework).toNat*st.steps.length+(st.steps.length-j.step)
 | none=>0
def fF(x:a_)(w:Wt):Nat:=if x.now<w.1 then 1 else 0
def bK(f:Wt->Nat)(l:List Wt):Nat:=(l.map f).sum
def eJ(f:Wt->Nat)(l:List (List Wt)):Nat:=(l.map (bK f)).sum
def eW(st:Stat)(x:a_):Nat:=eJ (fun w=>4*fx st x w+2+fF x w) x.queues+bK (fun w=>4*fx st x w+fF x w) x.ends
def kz:Nat->Stat->a_->a_
 | 0,_,x=>x
 | n+1,st,x=>match eI st x with
  | some y=>kz n st y
  | none=>x
def fy(st:Stat)(x:a_):a_:=kz (eW st x) st x
def iU:Nat->Stat->a_->a_
 | 0,_,x=>x
 | n+1,st,x=>match eU (bV st (fy st x)) (bF (bV st (fy st x)) 0) with
  | (true,a)=>iU n st { bV st (fy st x) with now:=a }
  | (false,_)=>bV st (fy st x)
def iV(st:Stat)(x:a_):a_:=iU (eW st x+1) st x
def qE(x:a_)(p:Int×Int):Nat:=eJ (fun w=>if w.2=p then 1 else 0) x.queues+bK (fun w=>if w.2=p then 1 else 0) x.ends
def Heap(l:List Wt):Prop:=∀c a b,0<c->l[c]?=some a->l[(c-1) / 2]?=some b->qt a b=false
def lL:Nat:=15000000
structure SZ(st:Stat)(x:a_):Prop where
 sv:wm st x
 hs:0<st.steps.length/\st.steps.length<=1000
 hb:∀(i:Nat) (s:gI),st.steps[i]?=some s->s.back<=i/\1<=s.minutes
 hl:st.lots.length=st.gs.length
 eh:Heap x.ends
 qh:∀q∈x.queues,Heap q
 ew:∀w∈x.ends,yq st w/\x.now<=w.1
 jv:∀j∈x.jobs,j.step<st.steps.length/\j.visits.length=st.steps.length/\(∀v∈j.visits,0<=v/\v<=x.done.length)/\0<=j.made.rework/\j.made.rework<=5
 un:∀p,qE x p<=1
 qs:∀i q w,x.queues[i]?=some q->w∈q->∃j,x.jobs[bU st w]?=some j/\j.step=i
 es:∀w∈x.ends,∃j b,x.jobs[bU st w]?=some j/\x.busy[j.step]?=some b/\j.machine<b.length
 dn:2*x.done.length+eW st x<=lL
 tm:∀w,(w∈x.ends\/∃q∈x.queues,w∈q)->w.1<=1000000000+1000000*((lL:Int)-eW st x)
 tn:x.now<=1000000000+1000000*((lL:Int)-eW st x)
def FH(a b:Wt):Prop:=a.1<b.1\/a.1=b.1/\(a.2.1<b.2.1\/a.2.1=b.2.1/\a.2.2<b.2.2)
theorem wq(a b:Wt):qt a b=true↔FH a b:=by
 have key:∀x y:Int,(x<y/\jI x y=-1)\/(x=y/\jI x y=0)\/(y<x/\jI x y=1):=fun x y=>by
  unfold jI;split
  ·exact .inl ⟨by assumption,rfl⟩
  split
  ·exact .inr (.inr ⟨by assumption,rfl⟩)
  exact .inr (.inl ⟨by omega,rfl⟩)
 simp only[qt,dS,FH];rcases key a.1 b.1 with⟨h1,e1⟩ | ⟨h1,e1⟩ | ⟨h1,e1⟩<;>rcases key a.2.1 b.2.1 with⟨h2,e2⟩ | ⟨h2,e2⟩ | ⟨h2,e2⟩<;>rcases key a.2.2 b.2.2 with⟨h3,e3⟩ | ⟨h3,e3⟩ | ⟨h3,e3⟩<;>rw[e1,e2,e3]<;>simp only[A6]<;>simp<;>omega
theorem TK(a b:Wt):qt a b=false↔¬FH a b:=by
 rw[<-wq];simp
theorem sJ{a b c:Wt}(h1:qt b a=false)(h2:qt c b=false):qt c a=false:=by
 rw[TK]at *;unfold FH at *;omega
theorem E1{a b:Wt}(h:qt a b=true):qt b a=false:=by
 rw[wq]at h;rw[TK];unfold FH at *;omega
theorem JB{a b c:Wt}(h:qt a b=true)(h2:qt c b=false):qt c a=false:=by
 rw[wq]at h;rw[TK]at *;unfold FH at *;omega
def Mk(l:List Wt)(c p:Nat):Prop:=∀a b,l[c]?=some a->l[p]?=some b->qt a b=false
theorem mz{i j:Nat}{a b:Wt}(hi:l[i]?=some a)(hj:l[j]?=some b)(c:Nat):(cO l i j a b)[c]?=if c=j then some a else if c=i then some b else l[c]?:=by
 unfold cO;by_cases e:c=j
 ·subst e;rw[ae rfl,aP (by rw[aF];exact ah hj)]
 rw[af e,bw (fun h=>e h.symm)];by_cases e2:c=i
 ·subst e2;rw[ae rfl,aP (ah hi)]
 rw[af e2,bw (fun h=>e2 h.symm)]
theorem Bd:∀(n:Nat) (l:List Wt) (j:Nat),j<n->(∀c,0<c->c≠j->Mk l c ((c-1) / 2))->(∀c,0<c->(c-1) / 2=j->0<j->Mk l c ((j-1) / 2))->Heap (uw n l j)
 | 0,l,j,h,_,_=>by omega
 | n+1,l,j,h,h1,h2=>by
  unfold uw;split
  ·rename_i a b ha hb;split
   ·rename_i e;intro c x y hc hx hy;exact h1 c hc (by omega) x y hx hy
   rename_i e;split
   ·rename_i dv;have hg:=mz hb ha;refine Bd n _ _ (by omega) (fun c hc BY x y hx hy=>?_) (fun c hc BY hp x y hx hy=>?_)
    ·rw[hg]at hx hy;by_cases ec:c=j
     ·subst ec;rw[ae rfl]at hx;rw[af (by omega),ae rfl]at hy;injection hx with hx;injection hy with hy;subst hx;subst hy;exact E1 dv
     rw[af ec,af BY]at hx;by_cases e1:(c-1) / 2=j
     ·rw[ae e1]at hy;injection hy with hy;subst hy;exact h2 c hc e1 (by omega) x b hx hb
     rw[af e1]at hy;by_cases e2:(c-1) / 2=(j-1) / 2
     ·rw[ae e2]at hy;injection hy with hy;subst hy;exact JB dv (h1 c hc ec x b hx (by rw[e2];exact hb))
     rw[af e2]at hy;exact h1 c hc ec x y hx hy
    rw[hg]at hx hy;rw[af (by omega),af (by omega)]at hy;have Ph:=h1 ((j-1) / 2) hp (by omega) b y hb hy;by_cases ec:c=j
    ·rw[ae ec]at hx;injection hx with hx;subst hx;exact Ph
    rw[af ec,af (by omega)]at hx;exact sJ Ph (h1 c hc ec x b hx (by rw[BY];exact hb))
   rename_i dv;have dv:qt a b=false:=by simpa using dv
   intro c x y hc hx hy;by_cases ec:c=j
   ·subst ec;rw[ha]at hx;rw[hb]at hy;injection hx with hx;injection hy with hy;subst hx;subst hy;exact dv
   exact h1 c hc ec x y hx hy
  rename_i tP;intro c x y hc hx hy;by_cases ec:c=j
  ·subst ec;exact (tP x y hx hy).elim
  exact h1 c hc ec x y hx hy
theorem nB(x:Wt)(h:Heap l):Heap (eH l x):=by
 refine Bd _ _ _ (by omega) (fun c hc SD a b ha hb=>?_) (fun c hc BY hp a b ha hb=>?_)
 ·have hl:=ah ha;simp only[bZ,nJ]at hl;rw[bQ (by omega)]at ha;rw[bQ (by omega)]at hb;exact h c a b hc ha hb
 have hl:=ah ha;simp only[bZ,nJ]at hl;omega
def Ml(l:List Wt)(n:Nat):Prop:=∀c,0<c->c<n->Mk l c ((c-1) / 2)
theorem xW{a b:Nat}{x y:Wt}(hx:l[a]?=some x)(hy:l[b]?=some y):EV l a b=qt x y:=by rw[EV,hx,hy]
theorem uA:∀(f:Nat) (l:List Wt) (i n:Nat),n<=l.length->n-i<=f->(∀c,0<c->c<n->(c-1) / 2≠i->Mk l c ((c-1) / 2))->(∀c,0<c->c<n->(c-1) / 2=i->0<i->Mk l c ((i-1) / 2))->Ml (c9 f l i n) n
 | 0,l,i,n,hn,hf,h1,h2=>fun c hc xM x y hx hy=>h1 c hc xM (by omega) x y hx hy
 | f+1,l,i,n,hn,hf,h1,h2=>by
  unfold c9;split
  ·exact fun c hc xM x y hx hy=>h1 c hc xM (by omega) x y hx hy
  rename_i dv;have M7:=xT (l:=l) (i:=i) (n:=n) (by omega);have wR:=xS l i n;have Qp:(gg l i n-1) / 2=i:=by unfold gg;split<;>omega
  have least:∀c x a,0<c->c<n->(c-1) / 2=i->l[c]?=some x->l[gg l i n]?=some a->qt x a=false:=fun c x a hc xM BY hx ha=>by
   unfold gg at ha;split at ha
   ·rename_i hp;rcases (by omega:c=2*i+1\/c=2*i+2) with e | e
    ·subst e;rw[xW ha hx]at hp;exact E1 hp.2
    subst e;rw[hx]at ha;injection ha with ha;subst ha;rw[TK];unfold FH;omega
   rename_i hp;rcases (by omega:c=2*i+1\/c=2*i+2) with e | e
   ·subst e;rw[hx]at ha;injection ha with ha;subst ha;rw[TK];unfold FH;omega
   subst e;cases hq:qt x a with
   | false=>rfl
   | true=>exact (hp ⟨xM,by rw[xW hx ha];exact hq⟩).elim
  obtain⟨j,hj⟩:∃j,gg l i n=j:=⟨_,rfl⟩;rw[hj]at M7 wR Qp least ⊢;split
  ·rename_i a b ha hb;split
   ·rename_i Mm;have hg:=mz hb ha;refine uA f _ _ n (by rw[cy];exact hn) (by omega) (fun c hc xM BY x y hx hy=>?_) (fun c hc xM BY hp x y hx hy=>?_)
    ·rw[hg]at hx hy;by_cases ec:c=j
     ·rw[ae ec]at hx;rw[af (by omega),ae (by omega)]at hy;injection hx with hx;injection hy with hy;subst hx;subst hy;exact E1 Mm
     rw[af ec]at hx;rw[af BY]at hy;by_cases e1:(c-1) / 2=i
     ·rw[ae e1]at hy;rw[af (by omega)]at hx;injection hy with hy;subst hy;exact least c x a hc xM e1 hx ha
     rw[af e1]at hy;by_cases e2:c=i
     ·rw[ae e2]at hx;injection hx with hx;subst hx;subst e2;exact h2 j (by omega) M7 Qp (by omega) a y ha hy
     rw[af e2]at hx;exact h1 c hc xM e1 x y hx hy
    rw[hg]at hx hy;rw[af (by omega),af (by omega)]at hx;rw[af (by omega),ae (by omega)]at hy;injection hy with hy;subst hy;exact h1 c hc xM (by omega) x a hx (by rw[BY];exact ha)
   rename_i Mm;have Mm:qt a b=false:=by simpa using Mm
   intro c hc xM x y hx hy;by_cases e1:(c-1) / 2=i
   ·rw[e1,hb]at hy;injection hy with hy;subst hy;exact sJ Mm (least c x a hc xM e1 hx ha)
   exact h1 c hc xM e1 x y hx hy
  rename_i tP;obtain⟨a,ha⟩:=a8 (l:=l) (i:=j) (by omega);obtain⟨b,hb⟩:=a8 (l:=l) (i:=i) (by omega);exact (tP a b ha hb).elim
theorem uB(h:Heap l):Heap (dD l):=by
 unfold dD;split
 ·rename_i a b ha hb;have hl:=ah ha;have hg:=mz ha hb;have key:=uA (l.length-1) (cO l 0 (l.length-1) a b) 0 (l.length-1) (by rw[cy];omega) (by omega) (fun c hc xM BY x y hx hy=>by
   rw[hg]at hx hy;rw[af (by omega),af (by omega)]at hx;rw[af (by omega),af (by omega)]at hy;exact h c x y hc hx hy) (fun c hc xM BY hp=>by omega)
  intro c x y hc hx hy;have P5:=ah hx;simp only[cu]at P5;rw[gY (by omega)]at hx;rw[gY (by omega)]at hy;exact key c hc (by omega) x y hx hy
 exact h
theorem E2{l:List Wt}(h:Heap l){a:Wt}(ha:l[0]?=some a)(c:Nat):∀w,l[c]?=some w->qt w a=false:=by
 induction c using Nat.strongRecOn with
 | _ c ih=>
  intro w hw;by_cases e:c=0
  ·subst e;rw[ha]at hw;injection hw with hw;subst hw;rw[TK];unfold FH;omega
  obtain⟨p,hp⟩:=a8 (l:=l) (i:=(c-1) / 2) (by have:=ah hw;omega);exact sJ (ih _ (by omega) p hp) (h c w p (by omega) hw hp)
theorem Be{a:Wt}(h:Heap (a::l)){w:Wt}(hw:w∈a::l):a.1<=w.1:=by
 obtain⟨c,hc⟩:=cf.1 hw;have:=E2 h rfl c w hc;rw[TK]at this;unfold FH at this;omega
theorem sK{f:Wt->Nat}:∀{l:List Wt} {i:Nat} {a:Wt} (b:Wt),l[i]?=some a->bK f (l.set i b)+f a=bK f l+f b
 | [],i,a,b,h=>by simp at h
 | x::l,0,a,b,h=>by
  simp at h;subst h;simp only[bK,km,qO,S7];omega
 | x::l,i+1,a,b,h=>by
  have:=sK (f:=f) (l:=l) b (by simpa using h);simp only[bK,ji,qO,S7]at this ⊢;omega
theorem pO{f:Wt->Nat}{i j:Nat}{a b:Wt}(hi:l[i]?=some a)(hj:l[j]?=some b):bK f (cO l i j a b)=bK f l:=by
 have h1:=sK (f:=f) b hi;have h2:(l.set i b)[j]?=some b:=by
  by_cases e:j=i
  ·subst e;rw[aP (ah hi)]
  rw[bw (fun h=>e h.symm)];exact hj
 have h3:=sK (f:=f) a h2;unfold cO;omega
theorem Bf{f:Wt->Nat}:∀(n:Nat) (l:List Wt) (j:Nat),bK f (uw n l j)=bK f l
 | 0,l,j=>rfl
 | n+1,l,j=>by
  unfold uw;split
  ·rename_i a b ha hb;split
   ·rfl
   split
   ·rw[Bf n,pO hb ha]
   rfl
  rfl
theorem uC{f:Wt->Nat}:∀(k:Nat) (l:List Wt) (i n:Nat),bK f (c9 k l i n)=bK f l
 | 0,l,i,n=>rfl
 | k+1,l,i,n=>by
  unfold c9;split
  ·rfl
  split
  ·rename_i a b ha hb;split
   ·rw[uC k,pO hb ha]
   rfl
  rfl
theorem xX{f:Wt->Nat}(l m:List Wt):bK f (l++m)=bK f l+bK f m:=by simp[bK]
theorem jM{f:Wt->Nat}(l:List Wt)(x:Wt):bK f (eH l x)=bK f l+f x:=by
 rw[eH,Bf,xX];simp[bK]
theorem oS{f:Wt->Nat}(a:Wt)(l:List Wt):bK f (dD (a::l))+f a=bK f (a::l):=by
 obtain⟨b,hb⟩:∃b,(a::l)[(a::l).length-1]?=some b:=a8 (by simp);have h0:(a::l)[0]?=some a:=rfl;have e:dD (a::l)=(c9 ((a::l).length-1) (cO (a::l) 0 ((a::l).length-1) a b) 0 ((a::l).length-1)).take ((a::l).length-1):=by rw[dD,hb];rfl
 have h1:=sH ((a::l).length-1) (cO (a::l) 0 ((a::l).length-1) a b) 0 ((a::l).length-1) ((a::l).length-1) (aC _);rw[mz h0 hb,ae rfl]at h1;have h2:=bT h1;rw[vm (by rw[jJ,cy];omega)]at h2;have h3:=qU (bK f) h2;rw[uC,pO h0 hb,xX,<-e]at h3;simp only[bK,qO,Bw,S7,List.sum_nil]at h3 ⊢;omega
theorem jN{f:Wt->Nat}:∀{l:List (List Wt)} {i:Nat} {q:List Wt} (q':List Wt),l[i]?=some q->eJ f (l.set i q')+bK f q=eJ f l+bK f q'
 | [],i,q,q',h=>by simp at h
 | a::l,0,q,q',h=>by
  simp at h;subst h;simp only[eJ,km,qO,S7];omega
 | a::l,i+1,q,q',h=>by
  have:=jN (f:=f) (l:=l) q' (by simpa using h);simp only[eJ,ji,qO,S7]at this ⊢;omega
theorem kA{f g:Wt->Nat}:∀{l:List Wt},(∀w∈l,f w<=g w)->bK f l<=bK g l
 | [],_=>aC _
 | a::l,h=>by
  have h1:=kA (l:=l) fun w hw=>h w (An _ hw);have h2:=h a dJ;simp only[bK,qO,S7]at h1 ⊢;omega
theorem mA{f g:Wt->Nat}:∀{l:List (List Wt)},(∀q∈l,∀w∈q,f w<=g w)->eJ f l<=eJ g l
 | [],_=>aC _
 | a::l,h=>by
  have h1:=mA (l:=l) fun q hq=>h q (An _ hq);have h2:=kA (h a dJ);simp only[eJ,qO,S7]at h1 ⊢;omega
theorem jO{f:Wt->Nat}:∀{l:List Wt} {w:Wt},w∈l->f w<=bK f l
 | a::l,w,h=>by
  simp only[bK,qO,S7];rcases fL.1 h with rfl | h
  ·omega
  have:=jO (f:=f) h;simp only[bK]at this;omega
theorem sL{f:Wt->Nat}:∀{l:List (List Wt)} {q:List Wt},q∈l->bK f q<=eJ f l
 | a::l,q,h=>by
  simp only[eJ,qO,S7];rcases fL.1 h with rfl | h
  ·omega
  have:=sL (f:=f) h;simp only[eJ]at this;omega
theorem wu{f g:Wt->Nat}:∀{l:List Wt} {w:Wt},(∀w∈l,f w<=g w)->w∈l->f w<g w->bK f l<bK g l
 | a::l,w,h,hw,dv=>by
  have h2:=h a dJ;simp only[bK,qO,S7];rcases fL.1 hw with rfl | hw
  ·have h1:=kA (l:=l) fun w hw=>h w (An _ hw);simp only[bK]at h1;omega
  have h1:=wu (l:=l) (fun w hw=>h w (An _ hw)) hw dv;simp only[bK]at h1;omega
theorem Bg{f g:Wt->Nat}:∀{l:List (List Wt)} {q:List Wt} {w:Wt},(∀q∈l,∀w∈q,f w<=g w)->q∈l->w∈q->f w<g w->eJ f l<eJ g l
 | a::l,q,w,h,hq,hw,dv=>by
  have h2:=kA (h a dJ);simp only[eJ,qO,S7];rcases fL.1 hq with rfl | hq
  ·have h1:=mA (l:=l) fun q hq=>h q (An _ hq);have h3:=wu (h q dJ) hw dv;simp only[eJ]at h1;omega
  have h1:=Bg (l:=l) (fun q hq=>h q (An _ hq)) hq hw dv;simp only[eJ]at h1;omega
theorem lM(a:List Nat)(gs:List (List Nat))(i k:Nat):pos (a::gs) (i+1) k=a.length+pos gs i k:=by
 simp only[pos,Uz,qO,S7];omega
theorem Bh:∀{gs:List (List Nat)} {i k i' k':Nat} {r r':List Nat},gs[i]?=some r->gs[i']?=some r'->k<r.length->k' < r'.length->pos gs i k=pos gs i' k'->i=i'/\k=k'
 | [],i,k,i',k',r,r',h,_,_,_,_=>by simp at h
 | a::gs,0,k,0,k',r,r',h,h',hk,mF,e=>by simpa [pos] using e
 | a::gs,0,k,i'+1,k',r,r',h,h',hk,mF,e=>by
  rw[lM]at e;simp at h;subst h;simp[pos]at e;omega
 | a::gs,i+1,k,0,k',r,r',h,h',hk,mF,e=>by
  rw[lM]at e;simp at h';subst h';simp[pos]at e;omega
 | a::gs,i+1,k,i'+1,k',r,r',h,h',hk,mF,e=>by
  rw[lM,lM]at e;have:=Bh (gs:=gs) (by simpa using h) (by simpa using h') hk mF (by omega);omega
variable {u:Wt}
theorem yq.inj{st:Stat}{w:Wt}(hu:yq st u)(hw:yq st w)(h:bU st u=bU st w):u.2=w.2:=by
 obtain⟨i,k,r,g,h1,h2,h3,h4⟩:=hu;obtain⟨i',k',r',g',mP,nG,h3',R1⟩:=hw;rw[bU,bU,h1,h2,mP,nG]at h;simp only[wh]at h;obtain⟨e1,e2⟩:=Bh h3 h3' (ah h4) (ah R1) h;exact Prod.ext (by rw[h1,mP,e1]) (by rw[h2,nG,e2])
theorem yq.of{st:Stat}{w:Wt}(h:yq st w)(e:u.2=w.2):yq st u:=by
 obtain⟨i,k,r,g,h1,h2,h3⟩:=h;exact⟨i,k,r,g,by rw[e];exact h1,by rw[e];exact h2,h3⟩
theorem wv{st:Stat}{w:Wt}(e:u.2=w.2):bU st u=bU st w:=by rw[bU,bU,e]
def nC(st:Stat)(j:lH):Nat:=(5-j.made.rework).toNat*st.steps.length+(st.steps.length-j.step)
variable {j':lH}
theorem gK{l:List lH}{m n:Nat}(hm:l[m]?=some j):(l.set m j')[n]?=if n=m then some j' else l[n]?:=by
 by_cases e:n=m
 ·subst e;rw[ae rfl,aP (ah hm)]
 rw[af e,bw (fun h=>e h.symm)]
theorem eR{l:List α}{m n:Nat}{j j':α}(hm:l[m]?=some j):(l.set m j')[n]?=if n=m then some j' else l[n]?:=by
 by_cases e:n=m
 ·subst e;rw[ae rfl,aP (ah hm)]
 rw[af e,bw (fun h=>e h.symm)]
theorem E3{st:Stat}{x:a_}{w:Wt}(h:x.jobs[bU st w]?=some j):fx st x w=nC st j:=by rw[fx,h];rfl
theorem Bi{st:Stat}{x y:a_}{m:Nat}(hm:x.jobs[m]?=some j)(hy:y.jobs=x.jobs.set m j')(hp:nC st j'<=nC st j)(w:Wt):fx st y w<=fx st x w:=by
 unfold fx;rw[hy,gK hm];by_cases e:bU st w=m
 ·rw[ae e,e,hm];exact hp
 rw[af e];exact aC _
theorem SZ.en{st:Stat}{x:a_}(h:SZ st x){i:Nat}{s:gI}{a:Wt}{Q:List Wt}{b:List Bool}(hs:st.steps[i]?=some s)(hq:x.queues[i]?=some (a::Q))(hb:x.busy[i]?=some b)(hj:x.jobs[bU st a]?=some j)(ha:a.1<=x.now)(hf:dR b<b.length):
  SZ st (M.en i s x (a::Q) a b (bU st a) j)/\eW st (M.en i s x (a::Q) a b (bU st a) j)<eW st x:=by
 obtain⟨y,hy⟩:∃y,y=M.en i s x (a::Q) a b (bU st a) j:=⟨_,rfl⟩;have hyj:y.jobs=x.jobs.set (bU st a) { j with machine:=dR b,from_:=x.now }:=by rw[hy];rfl
 have KD:y.queues=x.queues.set i (dD (a::Q)):=by rw[hy];rfl
 have w5:y.ends=eH x.ends (x.now+s.minutes,a.2.1,a.2.2):=by rw[hy];rfl
 have KE:y.busy=x.busy.set i (b.set (dR b) true):=by rw[hy];rfl
 have Ia:y.now=x.now:=by rw[hy];rfl
 have Nj:y.done=x.done:=by rw[hy];rfl
 have Az:=aj hq;have JC:=h.hb i s hs;have Qq:=h.sv.mn s (aj hs);have KF:j.step=i:=by
  obtain⟨j2,h1,h2⟩:=h.qs i _ a hq dJ;rw[hj]at h1;injection h1 with h1;rw[h1];exact h2
 have pP:∀w,fx st y w<=fx st x w:=Bi hj hyj (aC _);have qF:∀w,fF y w=fF x w:=fun w=>by rw[fF,fF,Ia]
 have ea:((x.now+s.minutes,a.2.1,a.2.2):Wt).2=a.2:=rfl;have Mn:fx st x (x.now+s.minutes,a.2.1,a.2.2)=fx st x a:=by rw[fx,fx,wv ea]
 have R2:fF x a=0:=by rw[fF,af (by omega)]
 have Mo:fF x (x.now+s.minutes,a.2.1,a.2.2)<=1:=by unfold fF;split<;>omega
 have JD:eW st y+1<=eW st x:=by
  have h1:=jN (f:=fun w=>4*fx st x w+2+fF x w) (dD (a::Q)) hq;have h2:bK (fun w=>4*fx st x w+2+fF x w) (dD (a::Q))+(4*fx st x a+2+fF x a)=bK (fun w=>4*fx st x w+2+fF x w) (a::Q):=oS a Q;have h3:bK (fun w=>4*fx st x w+fF x w) (eH x.ends (x.now+s.minutes,a.2.1,a.2.2))=bK (fun w=>4*fx st x w+fF x w) x.ends+(4*fx st x (x.now+s.minutes,a.2.1,a.2.2)+fF x (x.now+s.minutes,a.2.1,a.2.2)):=jM _ _;have h4:eJ (fun w=>4*fx st y w+2+fF y w) y.queues<=eJ (fun w=>4*fx st x w+2+fF x w) y.queues:=mA fun q _ w _=>by have:=pP w;have:=qF w;omega
  have h5:bK (fun w=>4*fx st y w+fF y w) y.ends<=bK (fun w=>4*fx st x w+fF x w) y.ends:=kA fun w _=>by have:=pP w;have:=qF w;omega
  rw[KD]at h4;rw[w5]at h5;unfold eW;rw[KD,w5];rw[Mn]at h3;omega
 have Cq:∀p,qE y p=qE x p:=fun p=>by
  have h1:=jN (f:=fun w=>if w.2=p then 1 else 0) (dD (a::Q)) hq;have h2:bK (fun w=>if w.2=p then 1 else 0) (dD (a::Q))+(if a.2=p then 1 else 0)=bK (fun w=>if w.2=p then 1 else 0) (a::Q):=oS a Q;have h3:bK (fun w=>if w.2=p then 1 else 0) (eH x.ends (x.now+s.minutes,a.2.1,a.2.2))=bK (fun w=>if w.2=p then 1 else 0) x.ends+(if a.2=p then 1 else 0):=jM _ _;unfold qE;rw[KD,w5];omega
 have Pj:∀w∈a::Q,yq st w:=h.sv.qw _ Az;rw[<-hy];refine⟨⟨by rw[hy];exact h.sv.start hq hb,h.hs,h.hb,h.hl,by rw[w5];exact nB _ h.eh,fun q vq=>?_,fun w hw=>?_,fun j2 wR=>?_,fun p=>by rw[Cq];exact h.un p,fun i2 q w kY hw=>?_,fun w hw=>?_,by rw[Nj];have:=h.dn;omega,fun w hw=>?_,?_⟩,by omega⟩
 ·rw[KD]at vq;rcases cw vq with vq | rfl
  ·exact h.qh q vq
  exact uB (h.qh _ Az)
 ·rw[w5]at hw;rw[Ia];rcases Th hw with hw | rfl
  ·exact h.ew w hw
  exact⟨(Pj a dJ).of ea,by simp only;omega⟩
 ·rw[hyj]at wR;rw[Nj];rcases cw wR with wR | rfl
  ·exact h.jv j2 wR
  exact h.jv j (aj hj)
 ·have old:∃q0,x.queues[i2]?=some q0/\w∈q0:=by
   rw[KD,eR hq]at kY;by_cases e:i2=i
   ·subst e;rw[ae rfl]at kY;injection kY with kY;subst kY;exact⟨_,hq,lK hw⟩
   rw[af e]at kY;exact⟨q,kY,hw⟩
  obtain⟨q0,h1,h2⟩:=old;obtain⟨j2,h3,h4⟩:=h.qs i2 q0 w h1 h2;rw[hyj,gK hj];by_cases e:bU st w=bU st a
  ·rw[ae e];refine⟨_,rfl,?_⟩;rw[e,hj]at h3;injection h3 with h3;rw[<-h3]at h4;exact h4
  rw[af e];exact⟨j2,h3,h4⟩
 ·have new:∃j2 b2,y.jobs[bU st a]?=some j2/\y.busy[j2.step]?=some b2/\j2.machine<b2.length:=by
   rw[hyj,gK hj,ae rfl,KE];exact⟨_,b.set (dR b) true,rfl,by show (x.busy.set i _)[j.step]?=_;rw[KF,eR hb,ae rfl],by rw[aF];exact hf⟩
  rw[w5]at hw;rcases Th hw with hw | rfl
  ·by_cases e:bU st w=bU st a
   ·rw[e];exact new
   obtain⟨j2,b2,h1,h2,h3⟩:=h.es w hw;rw[hyj,gK hj,af e,KE];by_cases ej:j2.step=i
   ·rw[ej]at h2;rw[hb]at h2;injection h2 with h2;subst h2;exact⟨j2,_,h1,by rw[eR hb,ae ej],by rw[aF];exact h3⟩
   exact⟨j2,b2,h1,by rw[eR hb,af ej];exact h2,h3⟩
  rw[wv ea];exact new
 ·have BJ:=h.tm;have o9:=h.tn;have Ib:(1000000000:Int)+1000000*((lL:Int)-eW st x)+1000000<=1000000000+1000000*((lL:Int)-eW st y):=by omega
  rw[w5,KD]at hw;rcases hw with hw | ⟨q,vq,hw⟩
  ·rcases Th hw with hw | rfl
   ·have:=BJ w (.inl hw);omega
   simp only;omega
  rcases cw vq with vq | rfl
  ·have:=BJ w (.inr ⟨q,vq,hw⟩);omega
  have:=BJ w (.inr ⟨_,Az,lK hw⟩);omega
 have o9:=h.tn;rw[Ia];omega
theorem SZ.fin{st:Stat}{x:a_}(h:SZ st x){w:Wt}{W:List Wt}(he:x.ends=w::W)(hw:w.1=x.now):∃(i k:Nat) (r:List Nat) (g:Nat) (j:lH) (s:gI) (b:List Bool) (lt:Lt) (v:Int),w=(x.now,(i:Int),(k:Int))/\st.gs[i]?=some r/\r[k]?=some g/\x.jobs[pos st.gs i k]?=some j/\st.steps[j.step]?=some s/\x.busy[j.step]?=some b/\j.machine<b.length/\st.lots[i]?=some lt/\j.visits[j.step]?=some v/\(v+1<=1000000000/\0<=v)/\s.back<=j.step/\(0<=j.made.rework/\j.made.rework<=5)/\
  eI st x=some (mM st { x with ends:=dD x.ends } w k (pos st.gs i k) j s b v lt.name (tC st ⟨lt.name,k,j.step,v+1⟩)):=by
 have E4:w∈x.ends:=by rw[he];exact dJ
 obtain⟨i,k,r,g,e1,e2,h3,h4⟩:=(h.ew w E4).1;obtain⟨j,b,hj,hb,hm⟩:=h.es w E4;have hp:bU st w=pos st.gs i k:=by rw[bU,e1,e2,wh,wh]
 obtain⟨q1,q2,q3,q4,q5⟩:=h.jv j (aj hj);obtain⟨s,hs⟩:=a8 q1;obtain⟨v,hv⟩:=a8 (l:=j.visits) (i:=j.step) (by omega);obtain⟨lt,dv⟩:=a8 (l:=st.lots) (i:=i) (by rw[h.hl];exact ah h3);have Ks:=q3 v (aj hv);have HB:=h.dn;have e0:lL=15000000:=rfl;refine⟨i,k,r,g,j,s,b,lt,v,by rw[<-hw,<-e1,<-e2],h3,h4,by rw[<-hp];exact hj,hs,hb,hm,dv,hv,⟨by omega,Ks.1⟩,(h.hb _ s hs).1,⟨q4,q5⟩,?_⟩;rw[M.eI,he];simp only;rw[ae hw,hj,e1,wh,dv];simp only;rw[hs,hb,hv,e2,wh,hp]
theorem SZ.JE{st:Stat}{x y:a_}(h:SZ st x){w:Wt}{W:List Wt}(he:x.ends=w::W)(hw:w.1=x.now){b b':List Bool}{d:dQ}(hj:x.jobs[bU st w]?=some j)(hb:x.busy[j.step]?=some b)(dM:b'.length=b.length)
  (hyj:y.jobs=x.jobs.set (bU st w) j') (w5:y.ends=dD x.ends) (KE:y.busy=x.busy.set j.step b') (Ia:y.now=x.now) (Nj:y.done=x.done++[d])
  (h1:j'.step<st.steps.length) (h2:j'.visits.length=st.steps.length) (h3:∀v∈j'.visits,0<=v/\v<=x.done.length+1) (h4:0<=j'.made.rework/\j'.made.rework<=5)
  (hq:(y.queues=x.queues/\nC st j'<=nC st j)\/∃q,x.queues[j'.step]?=some q/\y.queues=x.queues.set j'.step (eH q w)/\nC st j'+1<=nC st j):SZ st y/\eW st y<eW st x:=by
 have E4:w∈x.ends:=by rw[he];exact dJ
 have hok:=(h.ew w E4).1;have JF:nC st j'<=nC st j:=by rcases hq with h | ⟨q,_,_,h⟩;exact h.2;omega
 have pP:∀u,fx st y u<=fx st x u:=Bi hj hyj JF;have qF:∀u,fF y u=fF x u:=fun u=>by rw[fF,fF,Ia]
 have Mo:fF x w=0:=by rw[fF,af (by omega)]
 have Mn:fx st x w=nC st j:=E3 hj;have Qr:fx st y w=nC st j':=by
  refine E3 ?_;rw[hyj,gK hj,ae rfl]
 have SE:=(h.jv j (aj hj)).1;have R3:1<=nC st j:=by unfold nC;omega
 have JG:∀f:Wt->Nat,bK f (dD x.ends)+f w=bK f x.ends:=fun f=>by rw[he];exact oS w W
 have iN:∀u∈y.ends,u∈x.ends:=fun u hu=>by rw[w5]at hu;exact lK hu
 have Qt:∀i q u,y.queues[i]?=some q->u∈q->(∃q0,x.queues[i]?=some q0/\u∈q0)\/(u=w/\i=j'.step):=fun i q u xg hu=>by
  rcases hq with⟨e,_⟩ | ⟨q1,g1,g2,_⟩
  ·rw[e]at xg;exact .inl ⟨q,xg,hu⟩
  rw[g2,eR g1]at xg;by_cases ei:i=j'.step
  ·rw[ae ei]at xg;injection xg with xg;subst xg;rcases Th hu with hu | rfl
   ·exact .inl ⟨q1,by rw[ei];exact g1,hu⟩
   exact .inr ⟨rfl,ei⟩
  rw[af ei]at xg;exact .inl ⟨q,xg,hu⟩
 have Az:∀q∈y.queues,∀u∈q,(∃q0∈x.queues,u∈q0)\/u=w:=fun q C8 u hu=>by
  obtain⟨i,hi⟩:=cf.1 C8;rcases Qt i q u hi hu with⟨q0,g1,g2⟩ | ⟨g1,_⟩
  ·exact .inl ⟨q0,aj g1,g2⟩
  exact .inr g1
 have BU:∀f:Wt->Nat,eJ f y.queues<=eJ f x.queues+f w:=fun f=>by
  rcases hq with⟨e,_⟩ | ⟨q1,g1,g2,_⟩
  ·rw[e];omega
  have a1:=jN (f:=f) (eH q1 w) g1;have a2:=jM (f:=f) q1 w;rw[g2];omega
 have JD:eW st y+2<=eW st x:=by
  have a5:bK (fun u=>4*fx st y u+fF y u) y.ends<=bK (fun u=>4*fx st x u+fF x u) y.ends:=kA fun u _=>by have:=pP u;have:=qF u;omega
  have a6:bK (fun u=>4*fx st x u+fF x u) (dD x.ends)+(4*fx st x w+fF x w)=bK (fun u=>4*fx st x u+fF x u) x.ends:=JG _;rw[w5]at a5;have key:eJ (fun u=>4*fx st y u+2+fF y u) y.queues+2<=eJ (fun u=>4*fx st x u+2+fF x u) x.queues+4*fx st x w:=by
   rcases hq with⟨e,_⟩ | ⟨q1,g1,g2,g3⟩
   ·have a4:eJ (fun u=>4*fx st y u+2+fF y u) x.queues<=eJ (fun u=>4*fx st x u+2+fF x u) x.queues:=mA fun q _ u _=>by have:=pP u;have:=qF u;omega
    rw[e];omega
   have a1:=jN (f:=fun u=>4*fx st y u+2+fF y u) (eH q1 w) g1;have a2:bK (fun u=>4*fx st y u+2+fF y u) (eH q1 w)=bK (fun u=>4*fx st y u+2+fF y u) q1+(4*fx st y w+2+fF y w):=jM _ _;have a4:eJ (fun u=>4*fx st y u+2+fF y u) x.queues<=eJ (fun u=>4*fx st x u+2+fF x u) x.queues:=mA fun q _ u _=>by have:=pP u;have:=qF u;omega
   have a7:=qF w;rw[g2];omega
  unfold eW;rw[w5];omega
 have Cq:∀p,qE y p<=qE x p:=fun p=>by
  have a1:=BU fun u=>if u.2=p then 1 else 0;have a2:=JG fun u=>if u.2=p then 1 else 0;unfold qE;rw[w5];omega
 have alone:∀u,((∃q∈x.queues,u∈q)\/u∈dD x.ends)->u.2≠w.2:=fun u hu e=>by
  have a0:=h.un w.2;have a2:=JG fun u=>if u.2=w.2 then 1 else 0;simp only[ae]at a2;unfold qE at a0;rcases hu with⟨q,gR,hu⟩ | hu
  ·have b1:=jO (f:=fun u=>if u.2=w.2 then 1 else 0) hu;have b2:=sL (f:=fun u=>if u.2=w.2 then 1 else 0) gR;simp only[ae e]at b1;omega
  have b1:=jO (f:=fun u=>if u.2=w.2 then 1 else 0) hu;simp only[ae e]at b1;omega
 have other:∀u,yq st u->((∃q∈x.queues,u∈q)\/u∈dD x.ends)->y.jobs[bU st u]?=x.jobs[bU st u]?:=fun u hu hm=>by
  rw[hyj,gK hj,af fun e=>alone u hm (hu.inj hok e)]
 have Mp:y.done.length=x.done.length+1:=by rw[Nj];simp
 have Qu:∀(n:Nat) (b2:List Bool),x.busy[n]?=some b2->∃b3:List Bool,y.busy[n]?=some b3/\b3.length=b2.length:=fun n b2 hn=>by
  rw[KE,eR hb];by_cases e:n=j.step
  ·rw[ae e];rw[e,hb]at hn;injection hn with hn;subst hn;exact⟨b',rfl,dM⟩
  rw[af e];exact⟨b2,hn,rfl⟩
 have Ib:(1000000000:Int)+1000000*((lL:Int)-eW st x)<=1000000000+1000000*((lL:Int)-eW st y):=by omega
 refine⟨⟨⟨?_,by rw[KE,aF];exact h.sv.bl,by rw[hyj,aF];exact h.sv.jl,fun q C8 u hu=>?_,?_,fun c hc=>?_,by rw[Ia];exact h.sv.now,h.sv.mn⟩,h.hs,h.hb,h.hl,by rw[w5];exact uB h.eh,fun q C8=>?_,fun u hu=>?_,fun j2 wR=>?_,fun p=>bM (Cq p) (h.un p),fun i q u xg hu=>?_,fun u hu=>?_,by have:=h.dn;omega,fun u hu=>?_,?_⟩,by omega⟩
 ·rcases hq with⟨e,_⟩ | ⟨q1,g1,g2,_⟩
  ·rw[e];exact h.sv.ql
  rw[g2,aF];exact h.sv.ql
 ·rcases Az q C8 u hu with⟨q0,g1,g2⟩ | rfl
  ·exact h.sv.qw q0 g1 u g2
  exact hok
 ·have e1:(dD x.ends).length+1=x.ends.length:=by rw[he,oP];rfl
  have:=h.sv.tot;rw[w5];rcases hq with⟨e,_⟩ | ⟨q1,g1,g2,_⟩
  ·rw[e];omega
  have a1:=oR (eH q1 w) g1;rw[pN]at a1;rw[g2];omega
 ·rw[KE]at hc;rcases cw hc with hc | rfl
  ·exact h.sv.bn c hc
  rw[dM];exact h.sv.bn b (aj hb)
 ·rcases hq with⟨e,_⟩ | ⟨q1,g1,g2,_⟩
  ·rw[e]at C8;exact h.qh q C8
  rw[g2]at C8;rcases cw C8 with C8 | rfl
  ·exact h.qh q C8
  exact nB _ (h.qh _ (aj g1))
 ·rw[Ia];exact h.ew u (iN u hu)
 ·rw[hyj]at wR;rw[Mp];rcases cw wR with wR | rfl
  ·obtain⟨a1,a2,a3,a4⟩:=h.jv j2 wR;exact⟨a1,a2,fun v hv=>by have:=a3 v hv;omega,a4⟩
  exact⟨h1,h2,fun v hv=>by have:=h3 v hv;omega,h4⟩
 ·rcases Qt i q u xg hu with⟨q0,g1,g2⟩ | ⟨rfl,rfl⟩
  ·rw[other u (h.sv.qw q0 (aj g1) u g2) (.inl ⟨q0,aj g1,g2⟩)];exact h.qs i q0 u g1 g2
  exact⟨j',by rw[hyj,gK hj,ae rfl],rfl⟩
 ·have FF:=iN u hu;rw[w5]at hu;obtain⟨j2,b2,a1,a2,a3⟩:=h.es u FF;rw[other u (h.ew u FF).1 (.inr hu)];obtain⟨b3,c1,c2⟩:=Qu _ b2 a2;exact⟨j2,b3,a1,c1,by omega⟩
 ·rcases hu with hu | ⟨q,C8,hu⟩
  ·have:=h.tm u (.inl (iN u hu));omega
  rcases Az q C8 u hu with⟨q0,g1,g2⟩ | rfl
  ·have:=h.tm u (.inr ⟨q0,g1,g2⟩);omega
  have:=h.tm u (.inl E4);omega
 have:=h.tn;rw[Ia];omega
theorem SZ.eI{st:Stat}{x y:a_}(h:SZ st x)(hy:M.eI st x=some y):SZ st y/\eW st y<eW st x:=by
 obtain⟨w,W,he,hw⟩:∃w W,x.ends=w::W/\w.1=x.now:=by
  unfold M.eI at hy;split at hy
  ·cases hy
  rename_i w W he;split at hy
  ·rename_i hw;exact⟨w,W,he,hw⟩
  cases hy
 obtain⟨i,k,r,g,j,s,b,lt,v,e0,h3,h4,hj,hs,hb,hm,dv,hv,Ks,H_,R4,hf⟩:=h.fin he hw;rw[hf]at hy;injection hy with hy;have hp:bU st w=pos st.gs i k:=by rw[bU,e0];simp
 rw[<-hp]at hj hy;obtain⟨q1,q2,q3,q4,q5⟩:=h.jv j (aj hj);have Pk:∀u∈j.visits.set j.step (v+1),0<=u/\u<=x.done.length+1:=fun u hu=>by
  rcases cw hu with hu | rfl
  ·have:=q3 u hu;omega
  have:=q3 v (aj hv);omega
 have yE:(j.visits.set j.step (v+1)).length=st.steps.length:=by rw[aF];exact q2
 unfold mM at hy;simp only at hy;split at hy
 ·rename_i hc;obtain⟨c1,c2,c3⟩:=hc;obtain⟨q,hq⟩:=a8 (l:=x.queues) (i:=s.back.toNat) (by rw[h.sv.ql];omega);have Pm:bF { x with ends:=dD x.ends } s.back.toNat=q:=by show (x.queues[s.back.toNat]?).getD []=q;rw[hq];rfl
  rw[Pm]at hy;refine h.JE (y:=y) (j':={ kQ j v with step:=s.back.toNat,made:={ j.made with rework:=j.made.rework+1 } }) he hw hj hb (b':=b.set j.machine false) (by simp) (d:=S9 { x with ends:=dD x.ends } k j lt.name (tC st ⟨lt.name,k,j.step,v+1⟩)) (by subst hy;rfl) (by subst hy;rfl) (by subst hy;rfl) (by subst hy;rfl) (by subst hy;rfl) (by show s.back.toNat<_;omega) yE Pk ⟨by show 0<=j.made.rework+1;omega,by show j.made.rework+1<=5;omega⟩ (.inr ⟨q,hq,by subst hy;rfl,?_⟩);unfold nC;show (5-(j.made.rework+1)).toNat*st.steps.length+(st.steps.length-s.back.toNat)+1<=_;have e5:(5-j.made.rework).toNat=(5-(j.made.rework+1)).toNat+1:=by omega
  rw[e5,bR];omega
 split at hy
 ·refine h.JE (y:=y) (j':={ kQ j v with made:={ j.made with done:=!tC st ⟨lt.name,k,j.step,v+1⟩,at_:=x.now } }) he hw hj hb (b':=b.set j.machine false) (by simp) (d:=S9 { x with ends:=dD x.ends } k j lt.name (tC st ⟨lt.name,k,j.step,v+1⟩)) (by subst hy;rfl) (by subst hy;rfl) (by subst hy;rfl) (by subst hy;rfl) (by subst hy;rfl) q1 yE Pk ⟨q4,q5⟩ (.inl ⟨by subst hy;rfl,aC _⟩)
 rename_i hc;have Qv:j.step+1<st.steps.length:=by
  have:j.step+1≠st.steps.length:=fun e=>hc (.inr e);omega
 obtain⟨q,hq⟩:=a8 (l:=x.queues) (i:=j.step+1) (by rw[h.sv.ql];exact Qv);have Pm:bF { x with ends:=dD x.ends } (j.step+1)=q:=by show (x.queues[j.step+1]?).getD []=q;rw[hq];rfl
 rw[Pm]at hy;refine h.JE (y:=y) (j':={ kQ j v with step:=j.step+1 }) he hw hj hb (b':=b.set j.machine false) (by simp) (d:=S9 { x with ends:=dD x.ends } k j lt.name (tC st ⟨lt.name,k,j.step,v+1⟩)) (by subst hy;rfl) (by subst hy;rfl) (by subst hy;rfl) (by subst hy;rfl) (by subst hy;rfl) Qv yE Pk ⟨q4,q5⟩ (.inr ⟨q,hq,by subst hy;rfl,?_⟩);unfold nC;show (5-j.made.rework).toNat*st.steps.length+(st.steps.length-(j.step+1))+1<=_;omega
def oT(x:a_):Prop:=∀w∈x.ends,x.now<w.1
theorem SZ.du{st:Stat}{i:Nat}{x y:a_}(h:SZ st x)(hy:M.du st i x=some y):SZ st y/\eW st y<eW st x/\y.now=x.now/\(oT x->oT y):=by
 unfold M.du at hy;split at hy
 ·rename_i s a Q b h1 h2 h3;split at hy
  ·rename_i hc;split at hy
   ·rename_i j hj;injection hy with hy;have key:=h.en h1 h2 h3 hj hc.1 hc.2;rw[hy]at key;refine⟨key.1,key.2,by rw[<-hy];rfl,fun hl w hw=>?_⟩;have hn:y.now=x.now:=by rw[<-hy];rfl
    rw[<-hy]at hw;rw[hn];rcases Th hw with hw | rfl
    ·exact hl w hw
    have:=(h.hb i s h1).2;show x.now<x.now+s.minutes;omega
   cases hy
  cases hy
 cases hy
theorem SZ.eo{st:Stat}{i:Nat}:∀(n:Nat) {x:a_},SZ st x->SZ st (M.eo n st i x)/\eW st (M.eo n st i x)<=eW st x/\(M.eo n st i x).now=x.now/\(oT x->oT (M.eo n st i x))
 | 0,x,h=>⟨h,aC _,rfl,id⟩
 | n+1,x,h=>by
  unfold M.eo;split
  ·rename_i y hy;obtain⟨a1,a2,a3,a4⟩:=h.du hy;obtain⟨b1,b2,b3,b4⟩:=SZ.eo (i:=i) n a1;exact⟨b1,by omega,b3.trans a3,fun hl=>b4 (a4 hl)⟩
  exact⟨h,aC _,rfl,id⟩
theorem SZ.lN{st:Stat}:∀(l:List Nat) {x:a_},SZ st x->SZ st (l.foldl (fun x i=>dE st i x) x)/\eW st (l.foldl (fun x i=>dE st i x) x)<=eW st x/\(l.foldl (fun x i=>dE st i x) x).now=x.now/\(oT x->oT (l.foldl (fun x i=>dE st i x) x))
 | [],x,h=>⟨h,aC _,rfl,id⟩
 | i::l,x,h=>by
  obtain⟨a1,a2,a3,a4⟩:=SZ.eo (i:=i) (bF x i).length h;obtain⟨b1,b2,b3,b4⟩:=SZ.lN l (x:=dE st i x) a1;rw[uY];have a2:eW st (dE st i x)<=eW st x:=a2;have a3:(dE st i x).now=x.now:=a3;exact⟨b1,by omega,b3.trans a3,fun hl=>b4 (a4 hl)⟩
theorem SZ.start{st:Stat}{x:a_}(h:SZ st x):SZ st (bV st x)/\eW st (bV st x)<=eW st x:=
 ⟨(SZ.lN _ h).1,(SZ.lN _ h).2.1⟩
theorem xY{st:Stat}{x:a_}(h:SZ st x)(hf:M.eI st x=none):oT x:=by
 intro w hw;cases he:x.ends with
 | nil=>rw[he]at hw;cases hw
 | cons u W=>
  have h1:=(h.ew u (by rw[he];exact dJ)).2;have h2:=Be (he▸h.eh) (he▸hw);by_cases e:u.1=x.now
  ·obtain⟨_,_,_,_,_,_,_,_,_,_,_,_,_,_,_,_,_,_,_,_,_,cG⟩:=h.fin he e;rw[hf]at cG;cases cG
  omega
theorem Bj{y:a_}{q:List Wt}{a:Int}(hl:oT y)(he:Heap y.ends)(hn:eU y q=(true,a)):y.now<a/\(∀w∈y.ends,a<=w.1)/\∃w,(w∈y.ends\/w∈q)/\w.1=a:=by
 have ends:(y.ends=[]/\gJ y.ends (false,0)=(false,0))\/∃u W,y.ends=u::W/\gJ y.ends (false,0)=(true,u.1):=by
  cases h:y.ends with
  | nil=>exact .inl ⟨rfl,rfl⟩
  | cons u W=>exact .inr ⟨u,W,rfl,by rw[gJ,ky,ae (.inl rfl)]⟩
 rw[eU]at hn;rcases ends with⟨e1,e2⟩ | ⟨u,W,e1,e2⟩
 ·rw[e2]at hn;unfold wc at hn;split at hn
  ·cases hn
  rename_i v Q;split at hn
  ·rename_i hv;rw[ky,ae (.inl rfl)]at hn;injection hn with _ hn;exact⟨by omega,fun w hw=>(by rw[e1]at hw;cases hw),v,.inr dJ,hn⟩
  cases hn
 rw[e2]at hn;have hu:y.now<u.1:=hl u (by rw[e1];exact dJ);have JC:∀w∈y.ends,u.1<=w.1:=fun w hw=>Be (e1▸he) (e1▸hw);have R5:u∈y.ends:=by rw[e1];exact dJ
 have base:(true,u.1)=(true,a)->y.now<a/\(∀w∈y.ends,a<=w.1)/\∃w,(w∈y.ends\/w∈q)/\w.1=a:=fun e=>by
  injection e with _ e;exact⟨by omega,fun w hw=>by have:=JC w hw;omega,u,.inl R5,e⟩
 unfold wc at hn;split at hn
 ·exact base hn
 rename_i v Q;split at hn
 ·rename_i hv;unfold ky at hn;split at hn
  ·rename_i hc;injection hn with _ hn;have dv:v.1<u.1:=hc.elim (fun h=>by cases h) id;exact⟨by omega,fun w hw=>by have:=JC w hw;omega,v,.inr dJ,hn⟩
  exact base hn
 exact base hn
theorem SZ.next{st:Stat}{x:a_}(h:SZ st x)(hf:M.eI st x=none){a:Int}(hn:eU (bV st x) (bF (bV st x) 0)=(true,a)):SZ st { bV st x with now:=a }/\eW st { bV st x with now:=a }<eW st x:=by
 obtain⟨s1,s2,s3,s4⟩:=SZ.lN (List.range st.steps.length) h;obtain⟨y,hy⟩:∃y,y=bV st x:=⟨_,rfl⟩;have s1:SZ st y:=by rw[hy];exact s1
 have s2:eW st y<=eW st x:=by rw[hy];exact s2
 have s4:oT y:=by rw[hy];exact s4 (xY h hf)
 rw[<-hy]at hn ⊢;obtain⟨n1,n2,w,n3,n4⟩:=Bj s4 s1.eh hn;obtain⟨z,hz⟩:∃z:a_,z={ y with now:=a }:=⟨_,rfl⟩;have zq:z.queues=y.queues:=by rw[hz]
 have ze:z.ends=y.ends:=by rw[hz]
 have zj:z.jobs=y.jobs:=by rw[hz]
 have zb:z.busy=y.busy:=by rw[hz]
 have zd:z.done=y.done:=by rw[hz]
 have zn:z.now=a:=by rw[hz]
 have pP:∀u,fx st z u=fx st y u:=fun u=>by rw[fx,fx,zj]
 have qF:∀u,fF z u<=fF y u:=fun u=>by unfold fF;rw[zn];split<;>split<;>omega
 have Mo:fF z w<fF y w:=by rw[fF,fF,zn,af (by omega),ae (by omega)];omega
 have JD:eW st z<eW st y:=by
  have a1:eJ (fun u=>4*fx st z u+2+fF z u) y.queues<=eJ (fun u=>4*fx st y u+2+fF y u) y.queues:=mA fun q _ u _=>by have:=pP u;have:=qF u;omega
  have a2:bK (fun u=>4*fx st z u+fF z u) y.ends<=bK (fun u=>4*fx st y u+fF y u) y.ends:=kA fun u _=>by have:=pP u;have:=qF u;omega
  unfold eW;rw[zq,ze];rcases n3 with n3 | n3
  ·have a3:bK (fun u=>4*fx st z u+fF z u) y.ends<bK (fun u=>4*fx st y u+fF y u) y.ends:=wu (fun u _=>by have:=pP u;have:=qF u;omega) n3 (by have:=pP w;omega);omega
  have yp:∃q0∈y.queues,w∈q0:=by
   unfold bF at n3;cases hq:y.queues[0]? with
   | none=>rw[hq]at n3;cases n3
   | some q0=>rw[hq]at n3;exact⟨q0,aj hq,n3⟩
  obtain⟨q0,m1,m2⟩:=yp;have a3:eJ (fun u=>4*fx st z u+2+fF z u) y.queues<eJ (fun u=>4*fx st y u+2+fF y u) y.queues:=Bg (fun q _ u _=>by have:=pP u;have:=qF u;omega) m1 m2 (by have:=pP w;omega);omega
 have SF:a<=1000000000+1000000*((lL:Int)-eW st y):=by
  rw[<-n4];refine s1.tm w (n3.imp id fun n3=>?_);unfold bF at n3;cases hq:y.queues[0]? with
  | none=>rw[hq]at n3;cases n3
  | some q0=>rw[hq]at n3;exact⟨q0,aj hq,n3⟩
 have Ib:(1000000000:Int)+1000000*((lL:Int)-eW st y)<=1000000000+1000000*((lL:Int)-eW st z):=by omega
 have e0:lL=15000000:=rfl;have Pf:=s1.sv.now;rw[<-hz];refine⟨⟨⟨by rw[zq];exact s1.sv.ql,by rw[zb];exact s1.sv.bl,by rw[zj];exact s1.sv.jl,by rw[zq];exact s1.sv.qw,by rw[zq,ze];exact s1.sv.tot,by rw[zb];exact s1.sv.bn,by rw[zn];exact⟨by omega,by omega⟩,s1.sv.mn⟩,s1.hs,s1.hb,s1.hl,by rw[ze];exact s1.eh,by rw[zq];exact s1.qh,fun u hu=>?_,by rw[zj,zd];exact s1.jv,fun p=>?_,?_,?_,by rw[zd];have:=s1.dn;omega,fun u hu=>?_,by rw[zn];omega⟩,by omega⟩
 ·rw[ze]at hu;rw[zn];exact⟨(s1.ew u hu).1,n2 u hu⟩
 ·have:=s1.un p;unfold qE at this ⊢;rw[zq,ze];exact this
 ·rw[zq,zj];exact s1.qs
 ·rw[ze,zj,zb];exact s1.es
 rw[ze,zq]at hu;have:=s1.tm u hu;omega
theorem CF{st:Stat}(k:Nat):∀(n m:Nat) (x:a_),SZ st x->eW st x<=n->eW st x<=m->n<=k->kz n st x=kz m st x:=by
 induction k with
 | zero=>
  intro n m x h h1 h2 h3;have hn:n=0:=by omega
  subst hn;cases m with
  | zero=>rfl
  | succ m=>
   rw[kz,kz];cases hy:M.eI st x with
   | none=>rfl
   | some y=>have:=(h.eI hy).2;omega
 | succ k ih=>
  intro n m x h h1 h2 h3;cases hy:M.eI st x with
  | none=>
   cases n<;>cases m<;>simp only[kz,hy]
  | some y=>
   have hp:=(h.eI hy).2;cases n with
   | zero=>omega
   | succ n=>
    cases m with
    | zero=>omega
    | succ m=>
     simp only[kz,hy];exact ih n m y (h.eI hy).1 (by omega) (by omega) (by omega)
theorem CG{st:Stat}{x y:a_}(h:SZ st x)(hy:M.eI st x=some y):fy st y=fy st x:=by
 obtain⟨h1,h2⟩:=h.eI hy;obtain⟨n,hn⟩:∃n,eW st x=n+1:=⟨eW st x-1,by omega⟩;rw[fy,fy,hn,kz,hy];exact CF _ _ _ y h1 (aC _) (by omega) (aC _)
theorem uD{st:Stat}{x:a_}(hy:eI st x=none):fy st x=x:=by
 unfold fy;cases eW st x with
 | zero=>rfl
 | succ n=>rw[kz,hy]
theorem xZ{st:Stat}:∀(n:Nat) {x:a_},SZ st x->eW st x<=n->SZ st (kz n st x)/\eW st (kz n st x)<=eW st x/\M.eI st (kz n st x)=none
 | 0,x,h,hn=>by
  refine⟨h,aC _,?_⟩;cases hy:M.eI st x with
  | none=>exact hy
  | some y=>have:=(h.eI hy).2;omega
 | n+1,x,h,hn=>by
  unfold kz;split
  ·rename_i y hy;obtain⟨h1,h2⟩:=h.eI hy;obtain⟨a1,a2,a3⟩:=xZ n h1 (by omega);exact⟨a1,by omega,a3⟩
  rename_i hy;exact⟨h,aC _,hy⟩
theorem SZ.fy{st:Stat}{x:a_}(h:SZ st x):SZ st (M.fy st x)/\eW st (M.fy st x)<=eW st x/\M.eI st (M.fy st x)=none:=xZ _ h (aC _)
theorem CH{st:Stat}(k:Nat):∀(n m:Nat) (x:a_),SZ st x->eW st x<n->eW st x<m->n<=k->iU n st x=iU m st x:=by
 induction k with
 | zero=>intro n m x h h1 h2 h3;omega
 | succ k ih=>
  intro n m x h h1 h2 h3;cases n with
  | zero=>omega
  | succ n=>
   cases m with
   | zero=>omega
   | succ m=>
    obtain⟨f1,f2,f3⟩:=h.fy;rw[iU,iU];split
    ·rename_i a ha;have:=f1.next f3 ha;exact ih n m _ this.1 (by omega) (by omega) (by omega)
    rfl
theorem CI{st:Stat}{x:a_}(h:SZ st x){a:Int}(hn:eU (bV st (fy st x)) (bF (bV st (fy st x)) 0)=(true,a)):iV st { bV st (fy st x) with now:=a }=iV st x:=by
 obtain⟨f1,f2,f3⟩:=h.fy;have hx:=f1.next f3 hn;have e:iU (eW st x+1) st x=iU (eW st x) st { bV st (fy st x) with now:=a }:=by rw[iU,hn]
 show iU _ st _=iU (eW st x+1) st x;rw[e];exact CH _ _ _ _ hx.1 (by omega) (by omega) (aC _)
theorem Bk(st:Stat)(f:Fl):pc ((mL st.bad).map Bz) (FG f)=match tC st f with | true=>some (.im (.bool true)) | false=>none:=by
 unfold tC mL
 induction st.bad with
 | nil=>rfl
 | cons g l ih=>
  simp only[qO,Bz,pc,UC];rw[EW];have e:decide (f.lot=g.lot/\f.panel=g.panel/\f.step=g.step/\f.visit=g.visit)=decide (g.lot=f.lot/\g.panel=f.panel/\g.step=f.step/\g.visit=f.visit):=by
   apply decide_eq_decide.2;constructor<;>rintro⟨h1,h2,h3,h4⟩<;>exact⟨h1.symm,h2.symm,h3.symm,h4.symm⟩
  rw[e];cases decide (g.lot=f.lot/\g.panel=f.panel/\g.step=f.step/\g.visit=f.visit) with
  | true=>rfl
  | false=>simpa [Bz] using ih
theorem Mq(st:Stat)(x:a_)(hx:SZ st x):cR C 18 [.bx 100000 0] (kK st x) (.tu []) (kK st (iV st x)):=by
 refine Kz ⟨[],[2],[],[],[],[]⟩ hC Tryz.func18 rfl (by kernel_rfl) fun _=>?_;refine d_ (fun y:a_=>SZ st y/\iV st y=iV st x) (fun _=>[(0,.bx 100000 0)]) (fun y=>kK st y) (fun y=>eW st y) x _ (aY.refl _ _) ⟨hx,rfl⟩ ⟨Z,Y⟩ ⟨Z,Z,Z,Z,Z,Z,Y⟩ fun y hk t h=>?_;obtain⟨k1,k2⟩:=hk;refine O3 (fun z:a_=>SZ st z/\eI st z=none/\fy st y=z/\eW st z<=eW st y) (fun _=>[(0,.bx 100000 0)]) (fun z=>kK st z) (fun z hz t h=>?_) ?_
 ·obtain⟨z1,z2,z3,z4⟩:=hz;have hs:=z1.start;refine⟨[(100000,100000),(90001,90001),(90002,90002),(90003,90003),(90004,90004),(90010,90010)],_,_,_,_,GQ st z z1.sv z1.hs.2,⟨rfl,rfl,rfl,qU (AB.ai _) (lI _ _),rfl,qU (AB.ai _) (lJ _ _),Z,Z,Y⟩,?_⟩;obtain⟨q,hq⟩:=a8 (l:=(bV st z).queues) (i:=0) (by rw[hs.1.sv.ql];exact hs.1.hs.1);have vq:bF (bV st z) 0=q:=by rw[bF,hq];rfl
  have LB:=JA st (bV st z) q hq;have hrun:∀f a,eU (bV st z) q=(f,a)->eU (bV st (fy st y)) (bF (bV st (fy st y)) 0)=(f,a):=fun f a h=>by rw[z3,vq,h]
  rcases hp:eU (bV st z) q with⟨f,a⟩;rw[hp]at LB;have FC:=hrun f a hp;cases f with
  | true=>
   refine⟨[(100000,100000),(90001,90001),(90002,90002),(90003,90003),(90004,90004),(90010,90010)],_,_,_,_,LB,⟨rfl,rfl,rfl,qU (AB.ai _) (by simp only[lI]),rfl,qU (AB.ai _) (by simp only[lJ]),Z,Z,Y⟩,?_⟩;have R6:=z1.next z2 (a:=a) (by rw[vq,hp]);refine⟨{ bV st z with now:=a },_,aY.refl _ _,⟨R6.1,?_⟩,by omega,⟨Z,Y⟩,⟨rfl,qU (AB.ai _) (by simp only[lI]),rfl,qU (AB.ai _) (by simp only[lJ]),Z,Z,Y⟩⟩;have:=CI k1 FC;rw[z3,k2]at this;exact this
  | false=>
   have e:iV st x=bV st z:=by
    rw[<-k2,iV,iU,FC,z3]
   rw[e];exact⟨[(100000,100000),(90001,90001),(90002,90002),(90003,90003),(90004,90004),(90010,90010)],_,_,_,_,LB,⟨rfl,rfl,rfl,qU (AB.ai _) (by simp only[lI]),rfl,qU (AB.ai _) (by simp only[lJ]),Z,Z,Y⟩,_,aY.refl _ _,rfl,rfl,qU (AB.ai _) (by simp only[lI]),rfl,qU (AB.ai _) (by simp only[lJ]),Z,Z,Y⟩
 refine d_ (fun z:a_=>SZ st z/\fy st z=fy st y/\eW st z<=eW st y) (fun _=>[(0,.bx 100000 0)]) (fun z=>kK st z) (fun z=>eW st z) y _ (aY.refl _ _) ⟨k1,rfl,aC _⟩ ⟨Z,Y⟩ ⟨Z,Z,Z,Z,Z,Z,Y⟩ fun z hz t h=>?_;obtain⟨z1,z2,z3⟩:=hz;have lm:=cH z.ends wt;apply iW<;>intro h1<;>try simp only[zB]at h1
 ·obtain⟨w,W,hw⟩:∃w W,z.ends=w::W:=by cases he:z.ends with | nil=>rw[he]at h1;simp at h1 | cons u Q=>exact⟨u,Q,rfl⟩
  have Pe:(z.ends.map wt)[0]?=some (wt w):=by rw[hw];rfl
  refine⟨⟨by omega,by rw[hw];simp⟩,(wt w),Pe,iW ?_ ?_⟩<;>intro h2<;>try simp only[zB]at h2
  ·obtain⟨i,k,r,g,j,s,b,lt,v,rfl,f1,f2,f3,f4,f5,f6,f7,f8,f9,f10,f11,f12⟩:=z1.fin hw h2;have iR:=z1.eI f12;have hlen:=z1.sv.tot;have F0:z.ends.length=W.length+1:=by rw[hw];rfl
   refine⟨_,_,(show jm C _ _ [] _ (z.ends.map wt) (H7 (z.now,(i:Int),(k:Int))) ((dD z.ends).map wt) by rw[hw];exact E0 _ W (by omega)),rfl,jL _,?_⟩;have hfn:=EX st { z with ends:=dD z.ends } z.now i k r g j s b lt v f1 f2 f3 f4 f5 f6 f7 f8 _ (Bk st ⟨lt.name,k,j.step,v+1⟩) f9 (by have:=z1.dn;have e:lL=15000000:=rfl;show z.done.length<10000000;omega) z1.sv.ql f10 f11 (fun q hq=>by have h1:q.length<=oQ z.queues:=sI hq;have:=z1.sv.tot;omega) z1.hs.2;refine⟨[(100000,100000),(90001,90001),(29,90002),(90003,90003),(90004,90004),(90010,90010)],_,_,_,_,hfn,⟨rfl,rfl,rfl,qU (AB.ai _) (by simp only[cP,lI]),rfl,qU (AB.ai _) (by simp only[dF,lJ]),Z,Z,Y⟩,_,_,aY.ez _ 29 90002 (by decide) (by decide),⟨iR.1,by rw[<-z2];exact CG z1 f12,by omega⟩,iR.2,⟨Z,Y⟩,⟨rfl,qU (AB.ai _) (by simp only[lI,cJ]),rfl,qU (AB.ai _) (by simp only[lJ,dG]),Z,Z,Y⟩⟩
  have x4:eI st z=none:=by rw[eI,hw];simp only;rw[af h2]
  exact⟨z,⟨z1,x4,by rw[<-z2,uD x4],z3⟩,⟨Z,Y⟩,⟨Z,Z,Z,Z,Z,Z,Y⟩⟩
 have hw:z.ends=[]:=by cases he:z.ends with | nil=>rfl | cons u Q=>rw[he]at h1;simp at h1
 have x4:eI st z=none:=by rw[eI,hw]
 exact⟨z,⟨z1,x4,by rw[<-z2,uD x4],z3⟩,⟨Z,Y⟩,⟨Z,Z,Z,Z,Z,Z,Y⟩⟩
end M
end Go.Proofs.YtedjhhieekileaaGreatDoor
