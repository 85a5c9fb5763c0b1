/- Part 5 of the proof of HouseFlowsAreRight. -/
import Derived.Test.YtedjhhieekileaaGreatDoorR04
import Derived.Lib.Bytealg
set_option linter.unusedVariables false
set_option linter.unusedSimpArgs false
set_option maxRecDepth 100000
set_option maxHeartbeats 8000000
namespace Go
abbrev wh:=@List.set_cons_succ
abbrev wi:=@List.any_cons
abbrev ry:=@List.cons_lt_cons_iff
abbrev wj:=@List.pairwise_iff_getElem
abbrev wk:=@decide_eq_true
abbrev wy:=@List.map_take
end Go
namespace Go.Proofs.YtedjhhieekileaaGreatDoor
namespace M
open Go.AM Go.RowKit
def oQ(l:List (List Wt)):Nat:=(l.map List.length).sum
theorem oR:∀{l:List (List Wt)} {i:Nat} {q:List Wt} (c:List Wt),l[i]?=some q->oQ (l.set i c)+q.length=oQ l+c.length
 | [],i,q,c,h=>by simp at h
 | a::l,0,q,c,h=>by
  simp at h;subst h;simp only[oQ,ma,aV,fU];omega
 | a::l,i+1,q,c,h=>by
  have:=oR (l:=l) c (by simpa using h);simp only[oQ,wh,aV,fU]at this ⊢;omega
theorem sI:∀{l:List (List Wt)} {q:List Wt},q∈l->q.length<=oQ l
 | a::l,q,h=>by
  simp only[oQ,aV,fU];rcases fK.1 h with rfl | h
  ·omega
  have:=sI h;simp only[oQ]at this;omega
def yq(st:Stat)(w:Wt):Prop:=∃(i k:Nat) (r:List Nat) (g:Nat),w.2.1=i/\w.2.2=k/\st.gs[i]?=some r/\r[k]?=some g
def bU(st:Stat)(w:Wt):Nat:=pos st.gs w.2.1.toNat w.2.2.toNat
structure wm(st:Stat)(x:a_):Prop where
 ql:x.queues.length=st.steps.length
 bl:x.busy.length=st.steps.length
 jl:x.jobs.length=st.gs.flatten.length
 qw:∀q∈x.queues,∀w∈q,yq st w
 tot:oQ x.queues+x.ends.length<=500000
 bn:∀b∈x.busy,b.length<=1000
 now:0<=x.now/\x.now<=1000000000000000
 mn:∀s∈st.steps,0<=s.minutes/\s.minutes<=1000000
def en(i:Nat)(s:gI)(x:a_)(q:List Wt)(a:Wt)(b:List Bool)(m:Nat)(j:lH):a_:=
 {x with jobs:=x.jobs.set m { j with machine:=dR b,from_:=x.now },queues:=x.queues.set i (dD q),ends:=eH x.ends (x.now+s.minutes,a.2.1,a.2.2),busy:=x.busy.set i (b.set (dR b) true) }
def du(st:Stat)(i:Nat)(x:a_):Option a_:=match st.steps[i]?,x.queues[i]?,x.busy[i]? with
 | some s,some (a::Q),some b=>if a.1<=x.now/\dR b<b.length then match x.jobs[bU st a]? with
  | some j=>some (en i s x (a::Q) a b (bU st a) j)
  | none=>none
  else none
 | _,_,_=>none
def eo:Nat->Stat->Nat->a_->a_
 | 0,_,_,x=>x
 | n+1,st,i,x=>match du st i x with
  | some y=>eo n st i y
  | none=>x
def dE(st:Stat)(i:Nat)(x:a_):a_:=eo (bF x i).length st i x
def bV(st:Stat)(x:a_):a_:=(List.range st.steps.length).foldl (fun x i=>dE st i x) x
theorem yq.RZ{st:Stat}{x:a_}(h:wm st x){w:Wt}(G:yq st w):∃(i k:Nat) (r:List Nat) (g:Nat) (j:lH),w.2=((i:Int),(k:Int))/\st.gs[i]?=some r/\r[k]?=some g/\bU st w=pos st.gs i k/\x.jobs[pos st.gs i k]?=some j:=by
 obtain⟨i,k,r,g,c,m,z,D⟩:=G;have I:=gr st.gs i k r g z D;obtain⟨j,J⟩:=a8 (l:=x.jobs) (i:=pos st.gs i k) (by rw[h.jl];exact ah I);exact⟨i,k,r,g,j,Prod.ext c m,z,D,by rw[bU,c,m,gH,gH],J⟩
variable {j:lH}
theorem wm.start{st:Stat}{x:a_}(h:wm st x){i m:Nat}{s:gI}{a:Wt}{Q:List Wt}{b:List Bool}(G:x.queues[i]?=some (a::Q))(hb:x.busy[i]?=some b):wm st (en i s x (a::Q) a b m j):=by
 have J:=aj G;refine⟨by simp[en,h.ql],by simp[en,h.bl],by simp[en,h.jl],fun q z w I=>?_,?_,fun c D=>?_,h.now,h.mn⟩
 ·rcases cw z with z | rfl
  ·exact h.qw q z w I
  exact h.qw _ J w (lK I)
 ·have L:(en i s x (a::Q) a b m j).ends.length=x.ends.length+1:=pN _ _;have N:=oR (dD (a::Q)) G;rw[oP,cD]at N;have h3:=h.tot;show oQ (x.queues.set i (dD (a::Q)))+(en i s x (a::Q) a b m j).ends.length<=500000;rw[L];omega
 rcases cw D with D | rfl
 ·exact h.bn c D
 rw[aF];exact h.bn b (aj hb)
variable {y:a_}
theorem zV{st:Stat}{i:Nat}{x:a_}(h:du st i x=some y):∃s a Q b j,st.steps[i]?=some s/\x.queues[i]?=some (a::Q)/\x.busy[i]?=some b/\x.jobs[bU st a]?=some j/\y=en i s x (a::Q) a b (bU st a) j:=by
 unfold du at h;split at h
 ·rename_i s a Q b c m z;split at h
  ·split at h
   ·rename_i j D;injection h with h;exact⟨s,a,Q,b,j,c,m,z,D,h.symm⟩
   cases h
  cases h
 cases h
theorem xU{st:Stat}{i:Nat}{x:a_}(h:du st i x=some y):dE st i y=dE st i x:=by
 obtain⟨s,a,Q,b,j,h1,c,h3,h4,rfl⟩:=zV h;have m:(bF x i).length=Q.length+1:=by rw[bF,c];rfl
 have z:(bF (en i s x (a::Q) a b (bU st a) j) i).length=Q.length:=by
  show (((x.queues.set i (dD (a::Q)))[i]?).getD []).length=_;rw[aP (ah c)];exact oP a Q
 rw[dE,dE,m,z,eo,h]
theorem xV{st:Stat}{i:Nat}{x:a_}(h:du st i x=none):dE st i x=x:=by
 unfold dE;cases (bF x i).length with
 | zero=>rfl
 | succ n=>rw[eo,h]
def Pc(st:Stat)(x:a_)(i:Nat):List (Nat×AB):=[(100000,.box (H9 st x)),(90001,.ai 53 ((x.queues.map qC).set i [.av (.ow 90015)])),(90015,.row 68 ((bF x i).map wt)),(90002,.row 68 (x.ends.map wt)),(90003,.ai 59 (x.busy.map bC)),(90004,.row 34 (x.done.map dc)),(90010,.fam (nz st.gs.flatten x.jobs) [])]
variable {α:Type}
theorem zW(f:α->Nat->α)(a:α){i n:Nat}(h:i<n):(List.range' i (n-i)).foldl f a=(List.range' (i+1) (n-(i+1))).foldl f (f a i):=by
 rw[show n-i=(n-(i+1))+1 by omega,List.range'_succ,qN]
theorem GQ(st:Stat)(x:a_)(hx:wm st x)(hS:st.steps.length<=1000):cR C 41 [.bx 100000 0] (kK st x) (.tu []) (kK st (bV st x)):=by
 have lm:=cH st.steps gq;refine Kz ⟨[5,7,9],[],[],[12],[],[]⟩ hC Tryz.func41 rfl (by kernel_rfl) fun _=>?_;refine d_ (fun p:Nat×a_=>p.1<=st.steps.length/\wm st p.2/\(List.range' p.1 (st.steps.length-p.1)).foldl (fun x i=>dE st i x) p.2=bV st x) (fun p=>[(0,.bx 100000 0),(11,.p (.sl (st.steps.map gq))),(12,.p (i64 st.steps.length)),(13,.p (i64 p.1))]) (fun p=>kK st p.2) (fun p=>st.steps.length-p.1) (0,x) _ (aY.refl _ _) ⟨bd _,hx,by rw[bV,List.range_eq_range',Nat.sub_zero]⟩ ⟨rfl,rfl,aa (fun n:Nat=>AV.p (i64 n)) lm,Z,Y⟩ ⟨Z,Z,Z,Z,Z,Z,Y⟩ fun ⟨i,y⟩ hk t h=>?_;simp only at hk;obtain⟨k1,k2,k3⟩:=hk;apply iW<;>intro h1<;>try simp only[zB]at h1
 ·have I:i<st.steps.length:=by simpa using h1
  obtain⟨s,hs⟩:=a8 I;refine⟨(gq s),(idx rfl hs),?_⟩;have Qn:i<y.queues.length:=by rw[k2.ql];exact I
  obtain⟨q0,yp⟩:=a8 Qn;have Pd:bF y i=q0:=by rw[bF,yp];rfl
  refine⟨⟨by omega,by simp only[cP,aB,gH];exact Qn⟩,?_⟩;refine d_ (fun z:a_=>wm st z/\dE st i z=dE st i y) (fun _=>[(0,.bx 100000 0),(2,.p (i64 i)),(3,.bx 3 0),(4,.rp 90001 i 0),(11,.p (.sl (st.steps.map gq))),(12,.p (i64 st.steps.length)),(13,.p (i64 i))]) (fun z=>(3,.box ((gq s).map .p))::Pc st z i) (fun z=>(bF z i).length) y _ (aY.mi (by exact hC) _ 90001 i 0 90015 (e:=53) (by decide) (by decide) (by exact aa (AB.ai _) (by simp only[cP,cJ])) (ru _) (ff qC yp) (by exact rfl)) ⟨k2,rfl⟩ ⟨Z,Z,Z,Z,Z,Z,Z,Y⟩ ?_ fun z hz t h=>?_
  ·exact⟨rfl,rfl,rfl,by rw[Pd];rfl,rfl,aa (AB.ai _) (by simp only[dF,dG]),Z,Z,Y⟩
  obtain⟨m,z2⟩:=hz;have U:i<z.queues.length:=by rw[m.ql];exact I
  have V:i<z.busy.length:=by rw[m.bl];exact I
  obtain⟨b,hb⟩:=a8 V;obtain⟨J,D⟩:=a8 U;have G:bF z i=J:=by rw[bF,D];rfl
  have L:((z.queues.map qC).set i [HX.av (.ow 90015)])[i]?=some [HX.av (.ow 90015)]:=aP (by rw[aB];exact U);have W:((z.busy.map bC).set i [HX.av (.ow 90013)])[i]?=some [HX.av (.ow 90013)]:=aP (by rw[aB];exact V);have Bc:((z.queues.map qC).set i [HX.av (.ow 90015)]).set i [HX.row 68 (J.map wt)]=z.queues.map qC:=by rw[wg,jq,dP D]
  have Mj:((z.busy.map bC).set i [HX.av (.ow 90013)]).set i [HX.row 4 (b.map fun x=>[bool x])]=z.busy.map bC:=by rw[wg,zT,dP hb]
  have stop:du st i z=none->(List.range' (i+1) (st.steps.length-(i+1))).foldl (fun x i=>dE st i x) z=bV st x:=fun h0=>by
   rw[<-k3];rw[zW _ _ I,<-z2,xV h0]
  refine⟨[HX.av (.ow 90015)],L,iW ?_ ?_⟩<;>intro O<;>try simp only[zB]at O
  ·obtain⟨a,Q,rfl⟩:∃a Q,J=a::Q:=by cases J with | nil=>rw[G]at O;simp at O | cons u Q=>exact⟨u,Q,rfl⟩
   have R0:((bF z i).map wt)[0]?=some (wt a):=by rw[G];rfl
   have Pe:0<((bF z i).map wt).length:=by rw[G];simp
   refine⟨[HX.av (.ow 90015)],L,⟨by omega,Pe⟩,(wt a),R0,iW ?_ ?_⟩<;>intro h3<;>try simp only[zB]at h3
   ·refine lG (aY.mi (by exact hC) _ 90003 i 0 90013 (e:=59) (by decide) (by decide) (by exact aa (AB.ai _) (by simp only[dF,dG])) (A9 _) (ff bC hb) (by exact rfl)) ?_;refine⟨⟨by omega,by simp only[aF,aB,gH];exact V⟩,[HX.av (.ow 90013)],(by rw[gH];exact W),?_⟩;have C2:=zU b (by have:=m.bn b (aj hb);omega);by_cases N:dR b<b.length
    ·rw[ae N]at C2;refine⟨_,_,C2,?_⟩;obtain⟨c,k,r,g,j,Qo,cK,M1,R,hj⟩:=yq.RZ m (m.qw _ (aj D) a aW);obtain⟨at_,a2⟩:=a;simp only at Qo;subst Qo;have O9:du st i z=some (en i s z ((at_,(c:Int),(k:Int))::Q) (at_,c,k) b (pos st.gs c k) j):=by
      rw[du,hs,D,hb];simp only;rw[ae ⟨h3,N⟩,R,hj]
     have hg:=gr st.gs c k r g cK M1;have hf:=zS hg hj;have hlen:=m.tot;have Az:=sI (aj D);simp only[cD]at Az;refine lG ((aY.jg (by exact hC) _ 90001 i 0 90015 (e:=53) (es:=(z.queues.map qC).set i [.av (.ow 90015)]) (e':=68) (xs:=(((at_,(c:Int),(k:Int))::Q:List Wt)).map wt) (by decide) (by exact aa (AB.ai _) (by simp only[rm,cP,cJ];rfl)) (by exact aa (AB.row _) (by rw[G])) L (by exact rfl)).trans (aY.KA _ 90001 (.ai 53 (z.queues.map qC)) (by exact aa (AB.ai _) Bc))) ?_;refine⟨(qC ((at_,(c:Int),(k:Int))::Q)),(by simp only[cP,cJ];exact ff qC D),_,_,E0 (at_,c,k) Q (by omega),rfl,jL _,[CE r],(idx rfl cK),[ptr g],(idx rfl M1),?_⟩;refine lG ((aY.zJ (by exact hC) _ 90010 90012 7 (pos st.gs c k) (by decide) (by decide) (by exact rfl) hf (by exact rfl)).trans (aY.open (by exact hC) _ 90012 [90014] (by exact rfl) (by exact rfl) (by exact rfl) (by exact rfl))) ?_;refine⟨⟨by omega,by simp only[aF,aB,gH];exact V⟩,[HX.av (.ow 90013)],(by simp only[rm,dF,dG];exact W),⟨by omega,by rw[gH,aB];exact N⟩,?_⟩;obtain⟨b0,F1⟩:=a8 N;refine⟨[bool b0],(by rw[gH,ao,F1];rfl),?_⟩;have Pf:=m.now;have SC:=m.mn s (aj hs);refine⟨wO (by omega),_,_,wb z.ends (z.now+s.minutes,c,k) (by omega),rfl,jL _,?_⟩;have Pg:wm st (en i s z ((at_,(c:Int),(k:Int))::Q) (at_,c,k) b (pos st.gs c k) j):=m.start D hb;have e2:bF (en i s z ((at_,(c:Int),(k:Int))::Q) (at_,c,k) b (pos st.gs c k) j) i=dD ((at_,(c:Int),(k:Int))::Q):=by
      show ((z.queues.set i (dD _))[i]?).getD []=_;rw[aP U];rfl
     refine⟨en i s z ((at_,(c:Int),(k:Int))::Q) (at_,c,k) b (pos st.gs c k) j,_,(((((aY.pack (by exact hC) _ 90012 (cs:=pL { j with machine:=dR b,from_:=z.now }) (by exact rfl) (by exact rfl) (by exact⟨Z,Z,Z,Z,Z,Z,Z,Z,Z,Y⟩)).trans (aY.sr (by exact hC) _ 90010 90012 (pos st.gs c k) (by exact rfl) (by exact rfl) hf)).trans (aY.jg (by exact hC) _ 90003 i 0 90013 (e:=59) (es:=(z.busy.map bC).set i [.av (.ow 90013)]) (e':=4) (xs:=(b.set (dR b) true).map fun x=>[bool x]) (by decide) (by exact aa (AB.ai _) (by simp only[rm,dF,dG];rfl)) (by exact aa (AB.row _) (by rw[rm];rfl)) W (by exact rfl))).trans (aY.KA _ 90003 (.ai 59 ((z.busy.set i (b.set (dR b) true)).map bC)) (by exact aa (AB.ai _) (by show ((z.busy.map bC).set i _).set i [HX.row _ _]=_;rw[wg,zT])))).trans (aY.ez _ 102 90002 (by decide) (by decide))).trans (aY.mi (by exact hC) _ 90001 i 0 90015 (e:=53) (es:=(z.queues.set i (dD ((at_,(c:Int),(k:Int))::Q))).map qC) (by decide) (by decide) (by exact aa (AB.ai _) (by simp only[rm,cP,cJ];rfl)) (ru _) (ff qC (aP U)) (by exact rfl)),⟨Pg,by rw[xU O9,z2]⟩,?_,⟨Z,Z,Z,Z,Z,Z,Z,Y⟩,⟨rfl,rfl,rfl,?_,rfl,?_,rfl,?_,trivial⟩⟩
     ·rw[e2,oP,G];simp
     ·rw[e2];rfl
     ·exact aa (AB.ai _) (by simp only[dF,dG];rfl)
     exact aa (fun l=>AB.fam l []) (kx hg)
    rw[af N]at C2;refine⟨_,_,C2,wO (by omega),(i+1,z),_,((aY.jg (by exact hC) _ 90003 i 0 90013 (e:=59) (es:=(z.busy.map bC).set i [.av (.ow 90013)]) (e':=4) (xs:=b.map fun x=>[bool x]) (by decide) (by exact aa (AB.ai _) (by simp only[rm,dF,dG];rfl)) (by exact rfl) W (by exact rfl)).trans (aY.KA _ 90003 (.ai 59 (z.busy.map bC)) (by exact aa (AB.ai _) Mj))).trans ((aY.jg (by exact hC) _ 90001 i 0 90015 (e:=53) (es:=(z.queues.map qC).set i [.av (.ow 90015)]) (e':=68) (xs:=(a::Q:List Wt).map wt) (by decide) (by exact aa (AB.ai _) (by simp only[rm,cP,cJ];rfl)) (by exact aa (AB.row _) (by rw[G])) L (by exact rfl)).trans (aY.KA _ 90001 (.ai 53 (z.queues.map qC)) (by exact aa (AB.ai _) Bc))),⟨by omega,m,stop ?_⟩,by simp only;omega,⟨Z,Z,Z,Z,Y⟩,⟨rfl,rfl,rfl,?_,Z,Z,Y⟩⟩
    ·rw[du,hs,D,hb];simp only;rw[af fun h=>N h.2]
    exact aa (AB.ai _) (by simp only[dF,dG])
   refine⟨wO (by omega),(i+1,z),_,((aY.jg (by exact hC) _ 90001 i 0 90015 (e:=53) (es:=(z.queues.map qC).set i [.av (.ow 90015)]) (e':=68) (xs:=(a::Q:List Wt).map wt) (by decide) (by exact aa (AB.ai _) (by simp only[rm,cP,cJ];try rfl)) (by exact aa (AB.row _) (by rw[G])) L (by exact rfl)).trans (aY.KA _ 90001 (.ai 53 (z.queues.map qC)) (by exact aa (AB.ai _) Bc))),⟨by omega,m,stop ?_⟩,by simp only;omega,⟨Z,Z,Z,Z,Y⟩,⟨rfl,rfl,rfl,?_,Z,Z,Y⟩⟩
   ·rw[du,hs,D,hb];simp only;rw[af fun h=>h3 h.1]
   exact aa (AB.ai _) (by simp only[dF,dG])
  obtain rfl:J=[]:=by cases J with | nil=>rfl | cons u Q=>rw[G]at O;simp at O
  refine⟨wO (by omega),(i+1,z),_,((aY.jg (by exact hC) _ 90001 i 0 90015 (e:=53) (es:=(z.queues.map qC).set i [.av (.ow 90015)]) (e':=68) (xs:=([]:List Wt).map wt) (by decide) (by exact aa (AB.ai _) (by simp only[rm,cP,cJ];try rfl)) (by exact aa (AB.row _) (by rw[G])) L (by exact rfl)).trans (aY.KA _ 90001 (.ai 53 (z.queues.map qC)) (by exact aa (AB.ai _) Bc))),⟨by omega,m,stop ?_⟩,by simp only;omega,⟨Z,Z,Z,Z,Y⟩,⟨rfl,rfl,rfl,?_,Z,Z,Y⟩⟩
  ·rw[du,hs,D,hb]
  exact aa (AB.ai _) (by simp only[dF,dG])
 have I:i=st.steps.length:=by
  have:¬(i:Int)<st.steps.length:=by simpa using h1
  omega
 subst I;have e:y=bV st x:=by rw[<-k3,fH];rfl
 rw[<-e];exact⟨_,aY.refl _ _,Z,Z,Z,Z,Z,Z,Z,Y⟩
def tC(st:Stat)(f:Fl):Bool:=st.bad.any fun g=>decide (g.lot=f.lot/\g.panel=f.panel/\g.step=f.step/\g.visit=f.visit)
def eI(st:Stat)(x:a_):Option a_:=match x.ends with
 | []=>none
 | w::W=>if w.1=x.now then match x.jobs[bU st w]?,st.lots[w.2.1.toNat]? with
  | some j,some lt=>match st.steps[j.step]?,x.busy[j.step]?,j.visits[j.step]? with
   | some s,some b,some v=>some (mM st { x with ends:=dD x.ends } w w.2.2.toNat (bU st w) j s b v lt.name (tC st ⟨lt.name,w.2.2,j.step,v+1⟩))
   | _,_,_=>none
  | _,_=>none
  else none
def fx(st:Stat)(x:a_)(w:Wt):Nat:=match x.jobs[bU st w]? with
 | some j=>(5-j.made.rework).toNat*st.steps.length+(st.steps.length-j.step)
 | none=>0
def fF(x:a_)(w:Wt):Nat:=if x.now<w.1 then 1 else 0
def bK(f:Wt->Nat)(l:List Wt):Nat:=(l.map f).sum
def eJ(f:Wt->Nat)(l:List (List Wt)):Nat:=(l.map (bK f)).sum
def eW(st:Stat)(x:a_):Nat:=eJ (fun w=>4*fx st x w+2+fF x w) x.queues+bK (fun w=>4*fx st x w+fF x w) x.ends
def kz:Nat->Stat->a_->a_
 | 0,_,x=>x
 | n+1,st,x=>match eI st x with
  | some y=>kz n st y
  | none=>x
def fy(st:Stat)(x:a_):a_:=kz (eW st x) st x
def iU:Nat->Stat->a_->a_
 | 0,_,x=>x
 | n+1,st,x=>match eU (bV st (fy st x)) (bF (bV st (fy st x)) 0) with
  | (true,a)=>iU n st { bV st (fy st x) with now:=a }
  | (false,_)=>bV st (fy st x)
def iV(st:Stat)(x:a_):a_:=iU (eW st x+1) st x
def qE(x:a_)(p:Int×Int):Nat:=eJ (fun w=>if w.2=p then 1 else 0) x.queues+bK (fun w=>if w.2=p then 1 else 0) x.ends
def Heap(l:List Wt):Prop:=∀c a b,0<c->l[c]?=some a->l[(c-1) / 2]?=some b->qt a b=false
def lL:Nat:=15000000
structure bz(st:Stat)(x:a_):Prop where
 sv:wm st x
 hs:0<st.steps.length/\st.steps.length<=1000
 hb:∀(i:Nat) (s:gI),st.steps[i]?=some s->s.back<=i/\1<=s.minutes
 hl:st.lots.length=st.gs.length
 eh:Heap x.ends
 qh:∀q∈x.queues,Heap q
 ew:∀w∈x.ends,yq st w/\x.now<=w.1
 jv:∀j∈x.jobs,j.step<st.steps.length/\j.visits.length=st.steps.length/\(∀v∈j.visits,0<=v/\v<=x.done.length)/\0<=j.made.rework/\j.made.rework<=5
 un:∀p,qE x p<=1
 qs:∀i q w,x.queues[i]?=some q->w∈q->∃j,x.jobs[bU st w]?=some j/\j.step=i
 es:∀w∈x.ends,∃j b,x.jobs[bU st w]?=some j/\x.busy[j.step]?=some b/\j.machine<b.length
 dn:2*x.done.length+eW st x<=lL
 tm:∀w,(w∈x.ends\/∃q∈x.queues,w∈q)->w.1<=1000000000+1000000*((lL:Int)-eW st x)
 tn:x.now<=1000000000+1000000*((lL:Int)-eW st x)
def FH(a b:Wt):Prop:=a.1<b.1\/a.1=b.1/\(a.2.1<b.2.1\/a.2.1=b.2.1/\a.2.2<b.2.2)
theorem wq(a b:Wt):qt a b=true↔FH a b:=by
 have key:∀x y:Int,(x<y/\jI x y=-1)\/(x=y/\jI x y=0)\/(y<x/\jI x y=1):=fun x y=>by
  unfold jI;split
  ·exact .inl ⟨by assumption,rfl⟩
  split
  ·exact .inr (.inr ⟨by assumption,rfl⟩)
  exact .inr (.inl ⟨by omega,rfl⟩)
 simp only[qt,dS,FH];rcases key a.1 b.1 with⟨D,c⟩ | ⟨D,c⟩ | ⟨D,c⟩<;>rcases key a.2.1 b.2.1 with⟨G,m⟩ | ⟨G,m⟩ | ⟨G,m⟩<;>rcases key a.2.2 b.2.2 with⟨I,z⟩ | ⟨I,z⟩ | ⟨I,z⟩<;>rw[c,m,z]<;>simp only[A6]<;>simp<;>omega
theorem nA(a b:Wt):qt a b=false↔¬FH a b:=by
 rw[<-wq];simp
theorem sJ{a b c:Wt}(h1:qt b a=false)(h2:qt c b=false):qt c a=false:=by
 rw[nA]at *;unfold FH at *;omega
theorem E1{a b:Wt}(h:qt a b=true):qt b a=false:=by
 rw[wq]at h;rw[nA];unfold FH at *;omega
theorem JB{a b c:Wt}(h:qt a b=true)(h2:qt c b=false):qt c a=false:=by
 rw[wq]at h;rw[nA]at *;unfold FH at *;omega
def Mk(l:List Wt)(c p:Nat):Prop:=∀a b,l[c]?=some a->l[p]?=some b->qt a b=false
theorem mz{l:List Wt}{i j:Nat}{a b:Wt}(z:l[i]?=some a)(D:l[j]?=some b)(c:Nat):(cO l i j a b)[c]?=if c=j then some a else if c=i then some b else l[c]?:=by
 unfold cO;by_cases e:c=j
 ·subst e;rw[ae rfl,aP (by rw[aF];exact ah D)]
 rw[af e,bw (fun h=>e h.symm)];by_cases m:c=i
 ·subst m;rw[ae rfl,aP (ah z)]
 rw[af m,bw (fun h=>m h.symm)]
theorem Bd:∀(n:Nat) (l:List Wt) (j:Nat),j<n->(∀c,0<c->c≠j->Mk l c ((c-1) / 2))->(∀c,0<c->(c-1) / 2=j->0<j->Mk l c ((j-1) / 2))->Heap (uw n l j)
 | 0,l,j,h,_,_=>by omega
 | n+1,l,j,h,h1,h2=>by
  unfold uw;split
  ·rename_i a b O hb;split
   ·rename_i e;intro c x y G z m;exact h1 c G (by omega) x y z m
   rename_i e;split
   ·rename_i I;have R:=mz hb O;refine Bd n _ _ (by omega) (fun c G J x y z m=>?_) (fun c G J hp x y z m=>?_)
    ·rw[R]at z m;by_cases D:c=j
     ·subst D;rw[ae rfl]at z;rw[af (by omega),ae rfl]at m;injection z with z;injection m with m;subst z;subst m;exact E1 I
     rw[af D,af J]at z;by_cases L:(c-1) / 2=j
     ·rw[ae L]at m;injection m with m;subst m;exact h2 c G L (by omega) x b z hb
     rw[af L]at m;by_cases N:(c-1) / 2=(j-1) / 2
     ·rw[ae N]at m;injection m with m;subst m;exact JB I (h1 c G D x b z (by rw[N];exact hb))
     rw[af N]at m;exact h1 c G D x y z m
    rw[R]at z m;rw[af (by omega),af (by omega)]at m;have U:=h1 ((j-1) / 2) hp (by omega) b y hb m;by_cases D:c=j
    ·rw[ae D]at z;injection z with z;subst z;exact U
    rw[af D,af (by omega)]at z;exact sJ U (h1 c G D x b z (by rw[J];exact hb))
   rename_i I;have I:qt a b=false:=by simpa using I
   intro c x y G z m;by_cases D:c=j
   ·subst D;rw[O]at z;rw[hb]at m;injection z with z;injection m with m;subst z;subst m;exact I
   exact h1 c G D x y z m
  rename_i V;intro c x y G z m;by_cases D:c=j
  ·subst D;exact (V x y z m).elim
  exact h1 c G D x y z m
theorem nB{l:List Wt}(x:Wt)(h:Heap l):Heap (eH l x):=by
 refine Bd _ _ _ (by omega) (fun c z SD a b m hb=>?_) (fun c z BY hp a b m hb=>?_)
 ·have hl:=ah m;simp only[bZ,nJ]at hl;rw[bQ (by omega)]at m;rw[bQ (by omega)]at hb;exact h c a b z m hb
 have hl:=ah m;simp only[bZ,nJ]at hl;omega
def Ml(l:List Wt)(n:Nat):Prop:=∀c,0<c->c<n->Mk l c ((c-1) / 2)
theorem xW{l:List Wt}{a b:Nat}{x y:Wt}(c:l[a]?=some x)(m:l[b]?=some y):EV l a b=qt x y:=by rw[EV,c,m]
theorem uA:∀(f:Nat) (l:List Wt) (i n:Nat),n<=l.length->n-i<=f->(∀c,0<c->c<n->(c-1) / 2≠i->Mk l c ((c-1) / 2))->(∀c,0<c->c<n->(c-1) / 2=i->0<i->Mk l c ((i-1) / 2))->Ml (c9 f l i n) n
 | 0,l,i,n,hn,hf,h1,h2=>fun c I G x y m z=>h1 c I G (by omega) x y m z
 | f+1,l,i,n,hn,hf,h1,h2=>by
  unfold c9;split
  ·exact fun c I G x y m z=>h1 c I G (by omega) x y m z
  rename_i dv;have R:=xT (l:=l) (i:=i) (n:=n) (by omega);have Y:=xS l i n;have U:(gg l i n-1) / 2=i:=by unfold gg;split<;>omega
  have least:∀c x a,0<c->c<n->(c-1) / 2=i->l[c]?=some x->l[gg l i n]?=some a->qt x a=false:=fun c x a I G N m D=>by
   unfold gg at D;split at D
   ·rename_i hp;rcases (by omega:c=2*i+1\/c=2*i+2) with e | e
    ·subst e;rw[xW D m]at hp;exact E1 hp.2
    subst e;rw[m]at D;injection D with D;subst D;rw[nA];unfold FH;omega
   rename_i hp;rcases (by omega:c=2*i+1\/c=2*i+2) with e | e
   ·subst e;rw[m]at D;injection D with D;subst D;rw[nA];unfold FH;omega
   subst e;cases hq:qt x a with
   | false=>rfl
   | true=>exact (hp ⟨G,by rw[xW m D];exact hq⟩).elim
  obtain⟨j,Z⟩:∃j,gg l i n=j:=⟨_,rfl⟩;rw[Z]at R Y U least ⊢;split
  ·rename_i a b D hb;split
   ·rename_i L;have V:=mz hb D;refine uA f _ _ n (by rw[cy];exact hn) (by omega) (fun c I G N x y m z=>?_) (fun c I G N hp x y m z=>?_)
    ·rw[V]at m z;by_cases W:c=j
     ·rw[ae W]at m;rw[af (by omega),ae (by omega)]at z;injection m with m;injection z with z;subst m;subst z;exact E1 L
     rw[af W]at m;rw[af N]at z;by_cases J:(c-1) / 2=i
     ·rw[ae J]at z;rw[af (by omega)]at m;injection z with z;subst z;exact least c x a I G J m D
     rw[af J]at z;by_cases O:c=i
     ·rw[ae O]at m;injection m with m;subst m;subst O;exact h2 j (by omega) R U (by omega) a y D z
     rw[af O]at m;exact h1 c I G J x y m z
    rw[V]at m z;rw[af (by omega),af (by omega)]at m;rw[af (by omega),ae (by omega)]at z;injection z with z;subst z;exact h1 c I G (by omega) x a m (by rw[N];exact D)
   rename_i L;have L:qt a b=false:=by simpa using L
   intro c I G x y m z;by_cases J:(c-1) / 2=i
   ·rw[J,hb]at z;injection z with z;subst z;exact sJ L (least c x a I G J m D)
   exact h1 c I G J x y m z
  rename_i tP;obtain⟨a,D⟩:=a8 (l:=l) (i:=j) (by omega);obtain⟨b,hb⟩:=a8 (l:=l) (i:=i) (by omega);exact (tP a b D hb).elim
theorem uB{l:List Wt}(h:Heap l):Heap (dD l):=by
 unfold dD;split
 ·rename_i a b G hb;have hl:=ah G;have I:=mz G hb;have key:=uA (l.length-1) (cO l 0 (l.length-1) a b) 0 (l.length-1) (by rw[cy];omega) (by omega) (fun c D J L x y m z=>by
   rw[I]at m z;rw[af (by omega),af (by omega)]at m;rw[af (by omega),af (by omega)]at z;exact h c x y D m z) (fun c D J L hp=>by omega)
  intro c x y D m z;have N:=ah m;simp only[cu]at N;rw[gY (by omega)]at m;rw[gY (by omega)]at z;exact key c D (by omega) x y m z
 exact h
theorem E2{l:List Wt}(h:Heap l){a:Wt}(z:l[0]?=some a)(c:Nat):∀w,l[c]?=some w->qt w a=false:=by
 induction c using Nat.strongRecOn with
 | _ c ih=>
  intro w m;by_cases e:c=0
  ·subst e;rw[z]at m;injection m with m;subst m;rw[nA];unfold FH;omega
  obtain⟨p,hp⟩:=a8 (l:=l) (i:=(c-1) / 2) (by have:=ah m;omega);exact sJ (ih _ (by omega) p hp) (h c w p (by omega) m hp)
theorem Be{a:Wt}{l:List Wt}(h:Heap (a::l)){w:Wt}(m:w∈a::l):a.1<=w.1:=by
 obtain⟨c,z⟩:=cf.1 m;have:=E2 h rfl c w z;rw[nA]at this;unfold FH at this;omega
theorem sK{f:Wt->Nat}:∀{l:List Wt} {i:Nat} {a:Wt} (b:Wt),l[i]?=some a->bK f (l.set i b)+f a=bK f l+f b
 | [],i,a,b,h=>by simp at h
 | x::l,0,a,b,h=>by
  simp at h;subst h;simp only[bK,ma,aV,fU];omega
 | x::l,i+1,a,b,h=>by
  have:=sK (f:=f) (l:=l) b (by simpa using h);simp only[bK,wh,aV,fU]at this ⊢;omega
theorem pO{f:Wt->Nat}{l:List Wt}{i j:Nat}{a b:Wt}(c:l[i]?=some a)(m:l[j]?=some b):bK f (cO l i j a b)=bK f l:=by
 have h1:=sK (f:=f) b c;have z:(l.set i b)[j]?=some b:=by
  by_cases e:j=i
  ·subst e;rw[aP (ah c)]
  rw[bw (fun h=>e h.symm)];exact m
 have h3:=sK (f:=f) a z;unfold cO;omega
theorem Bf{f:Wt->Nat}:∀(n:Nat) (l:List Wt) (j:Nat),bK f (uw n l j)=bK f l
 | 0,l,j=>rfl
 | n+1,l,j=>by
  unfold uw;split
  ·rename_i a b c hb;split
   ·rfl
   split
   ·rw[Bf n,pO hb c]
   rfl
  rfl
theorem uC{f:Wt->Nat}:∀(k:Nat) (l:List Wt) (i n:Nat),bK f (c9 k l i n)=bK f l
 | 0,l,i,n=>rfl
 | k+1,l,i,n=>by
  unfold c9;split
  ·rfl
  split
  ·rename_i a b c hb;split
   ·rw[uC k,pO hb c]
   rfl
  rfl
theorem xX{f:Wt->Nat}(l m:List Wt):bK f (l++m)=bK f l+bK f m:=by simp[bK]
theorem jM{f:Wt->Nat}(l:List Wt)(x:Wt):bK f (eH l x)=bK f l+f x:=by
 rw[eH,Bf,xX];simp[bK]
theorem oS{f:Wt->Nat}(a:Wt)(l:List Wt):bK f (dD (a::l))+f a=bK f (a::l):=by
 obtain⟨b,hb⟩:∃b,(a::l)[(a::l).length-1]?=some b:=a8 (by simp);have c:(a::l)[0]?=some a:=rfl;have e:dD (a::l)=(c9 ((a::l).length-1) (cO (a::l) 0 ((a::l).length-1) a b) 0 ((a::l).length-1)).take ((a::l).length-1):=by rw[dD,hb];rfl
 have m:=sH ((a::l).length-1) (cO (a::l) 0 ((a::l).length-1) a b) 0 ((a::l).length-1) ((a::l).length-1) (aC _);rw[mz c hb,ae rfl]at m;have z:=bT m;rw[qU (by rw[jJ,cy];omega)]at z;have D:=aa (bK f) z;rw[uC,pO c hb,xX,<-e]at D;simp only[bK,aV,my,fU,List.sum_nil]at D ⊢;omega
theorem jN{f:Wt->Nat}:∀{l:List (List Wt)} {i:Nat} {q:List Wt} (c:List Wt),l[i]?=some q->eJ f (l.set i c)+bK f q=eJ f l+bK f c
 | [],i,q,c,h=>by simp at h
 | a::l,0,q,c,h=>by
  simp at h;subst h;simp only[eJ,ma,aV,fU];omega
 | a::l,i+1,q,c,h=>by
  have:=jN (f:=f) (l:=l) c (by simpa using h);simp only[eJ,wh,aV,fU]at this ⊢;omega
theorem kA{f g:Wt->Nat}:∀{l:List Wt},(∀w∈l,f w<=g w)->bK f l<=bK g l
 | [],_=>aC _
 | a::l,h=>by
  have c:=kA (l:=l) fun w m=>h w (cg _ m);have h2:=h a aW;simp only[bK,aV,fU]at c ⊢;omega
theorem mA{f g:Wt->Nat}:∀{l:List (List Wt)},(∀q∈l,∀w∈q,f w<=g w)->eJ f l<=eJ g l
 | [],_=>aC _
 | a::l,h=>by
  have c:=mA (l:=l) fun q m=>h q (cg _ m);have h2:=kA (h a aW);simp only[eJ,aV,fU]at c ⊢;omega
theorem jO{f:Wt->Nat}:∀{l:List Wt} {w:Wt},w∈l->f w<=bK f l
 | a::l,w,h=>by
  simp only[bK,aV,fU];rcases fK.1 h with rfl | h
  ·omega
  have:=jO (f:=f) h;simp only[bK]at this;omega
theorem sL{f:Wt->Nat}:∀{l:List (List Wt)} {q:List Wt},q∈l->bK f q<=eJ f l
 | a::l,q,h=>by
  simp only[eJ,aV,fU];rcases fK.1 h with rfl | h
  ·omega
  have:=sL (f:=f) h;simp only[eJ]at this;omega
theorem wu{f g:Wt->Nat}:∀{l:List Wt} {w:Wt},(∀w∈l,f w<=g w)->w∈l->f w<g w->bK f l<bK g l
 | a::l,w,h,c,z=>by
  have h2:=h a aW;simp only[bK,aV,fU];rcases fK.1 c with rfl | c
  ·have m:=kA (l:=l) fun w c=>h w (cg _ c);simp only[bK]at m;omega
  have m:=wu (l:=l) (fun w c=>h w (cg _ c)) c z;simp only[bK]at m;omega
theorem Bg{f g:Wt->Nat}:∀{l:List (List Wt)} {q:List Wt} {w:Wt},(∀q∈l,∀w∈q,f w<=g w)->q∈l->w∈q->f w<g w->eJ f l<eJ g l
 | a::l,q,w,h,c,hw,z=>by
  have h2:=kA (h a aW);simp only[eJ,aV,fU];rcases fK.1 c with rfl | c
  ·have m:=mA (l:=l) fun q c=>h q (cg _ c);have h3:=wu (h q aW) hw z;simp only[eJ]at m;omega
  have m:=Bg (l:=l) (fun q c=>h q (cg _ c)) c hw z;simp only[eJ]at m;omega
theorem lM(a:List Nat)(gs:List (List Nat))(i k:Nat):pos (a::gs) (i+1) k=a.length+pos gs i k:=by
 simp only[pos,c8,aV,fU];omega
theorem Bh:∀{gs:List (List Nat)} {i k z c:Nat} {r m:List Nat},gs[i]?=some r->gs[z]?=some m->k<r.length->c < m.length->pos gs i k=pos gs z c->i=z/\k=c
 | [],i,k,z,c,r,m,h,_,_,_,_=>by simp at h
 | a::gs,0,k,0,c,r,m,h,h',hk,D,e=>by simpa [pos] using e
 | a::gs,0,k,z+1,c,r,m,h,h',hk,D,e=>by
  rw[lM]at e;simp at h;subst h;simp[pos]at e;omega
 | a::gs,i+1,k,0,c,r,m,h,h',hk,D,e=>by
  rw[lM]at e;simp at h';subst h';simp[pos]at e;omega
 | a::gs,i+1,k,z+1,c,r,m,h,h',hk,D,e=>by
  rw[lM,lM]at e;have:=Bh (gs:=gs) (by simpa using h) (by simpa using h') hk D (by omega);omega
variable {u:Wt}
theorem yq.inj{st:Stat}{w:Wt}(I:yq st u)(J:yq st w)(h:bU st u=bU st w):u.2=w.2:=by
 obtain⟨i,k,r,g,m,z,L,N⟩:=I;obtain⟨i',k',r',g',D,G,c,O⟩:=J;rw[bU,bU,m,z,D,G]at h;simp only[gH]at h;obtain⟨R,U⟩:=Bh L c (ah N) (ah O) h;exact Prod.ext (by rw[m,D,R]) (by rw[z,G,U])
theorem yq.of{st:Stat}{w:Wt}(h:yq st w)(e:u.2=w.2):yq st u:=by
 obtain⟨i,k,r,g,c,m,z⟩:=h;exact⟨i,k,r,g,by rw[e];exact c,by rw[e];exact m,z⟩
theorem wv{st:Stat}{w:Wt}(e:u.2=w.2):bU st u=bU st w:=by rw[bU,bU,e]
def nC(st:Stat)(j:lH):Nat:=(5-j.made.rework).toNat*st.steps.length+(st.steps.length-j.step)
variable {j':lH}
theorem gK{l:List lH}{m n:Nat}(c:l[m]?=some j):(l.set m j')[n]?=if n=m then some j' else l[n]?:=by
 by_cases e:n=m
 ·subst e;rw[ae rfl,aP (ah c)]
 rw[af e,bw (fun h=>e h.symm)]
theorem eR{l:List α}{m n:Nat}{j j':α}(c:l[m]?=some j):(l.set m j')[n]?=if n=m then some j' else l[n]?:=by
 by_cases e:n=m
 ·subst e;rw[ae rfl,aP (ah c)]
 rw[af e,bw (fun h=>e h.symm)]
theorem E3{st:Stat}{x:a_}{w:Wt}(h:x.jobs[bU st w]?=some j):fx st x w=nC st j:=by rw[fx,h];rfl
theorem Bi{st:Stat}{x:a_}{m:Nat}(c:x.jobs[m]?=some j)(z:y.jobs=x.jobs.set m j')(hp:nC st j'<=nC st j)(w:Wt):fx st y w<=fx st x w:=by
 unfold fx;rw[z,gK c];by_cases e:bU st w=m
 ·rw[ae e,e,c];exact hp
 rw[af e];exact aC _
theorem bz.en{st:Stat}{x:a_}(h:bz st x){i:Nat}{s:gI}{a:Wt}{Q:List Wt}{b:List Bool}(hs:st.steps[i]?=some s)(N:x.queues[i]?=some (a::Q))(hb:x.busy[i]?=some b)(O:x.jobs[bU st a]?=some j)(ha:a.1<=x.now)(hf:dR b<b.length):
  bz st (M.en i s x (a::Q) a b (bU st a) j)/\eW st (M.en i s x (a::Q) a b (bU st a) j)<eW st x:=by
 obtain⟨y,J⟩:∃y,y=M.en i s x (a::Q) a b (bU st a) j:=⟨_,rfl⟩;have D:y.jobs=x.jobs.set (bU st a) { j with machine:=dR b,from_:=x.now }:=by rw[J];rfl
 have V:y.queues=x.queues.set i (dD (a::Q)):=by rw[J];rfl
 have R:y.ends=eH x.ends (x.now+s.minutes,a.2.1,a.2.2):=by rw[J];rfl
 have KE:y.busy=x.busy.set i (b.set (dR b) true):=by rw[J];rfl
 have Ia:y.now=x.now:=by rw[J];rfl
 have Nj:y.done=x.done:=by rw[J];rfl
 have Az:=aj N;have JC:=h.hb i s hs;have Qq:=h.sv.mn s (aj hs);have KF:j.step=i:=by
  obtain⟨m,G,z⟩:=h.qs i _ a N aW;rw[O]at G;injection G with G;rw[G];exact z
 have pP:∀w,fx st y w<=fx st x w:=Bi O D (aC _);have qF:∀w,fF y w=fF x w:=fun w=>by rw[fF,fF,Ia]
 have ea:((x.now+s.minutes,a.2.1,a.2.2):Wt).2=a.2:=rfl;have Mn:fx st x (x.now+s.minutes,a.2.1,a.2.2)=fx st x a:=by rw[fx,fx,wv ea]
 have R2:fF x a=0:=by rw[fF,af (by omega)]
 have Mo:fF x (x.now+s.minutes,a.2.1,a.2.2)<=1:=by unfold fF;split<;>omega
 have JD:eW st y+1<=eW st x:=by
  have G:=jN (f:=fun w=>4*fx st x w+2+fF x w) (dD (a::Q)) N;have z:bK (fun w=>4*fx st x w+2+fF x w) (dD (a::Q))+(4*fx st x a+2+fF x a)=bK (fun w=>4*fx st x w+2+fF x w) (a::Q):=oS a Q;have I:bK (fun w=>4*fx st x w+fF x w) (eH x.ends (x.now+s.minutes,a.2.1,a.2.2))=bK (fun w=>4*fx st x w+fF x w) x.ends+(4*fx st x (x.now+s.minutes,a.2.1,a.2.2)+fF x (x.now+s.minutes,a.2.1,a.2.2)):=jM _ _;have W:eJ (fun w=>4*fx st y w+2+fF y w) y.queues<=eJ (fun w=>4*fx st x w+2+fF x w) y.queues:=mA fun q _ w _=>by have:=pP w;have:=qF w;omega
  have h5:bK (fun w=>4*fx st y w+fF y w) y.ends<=bK (fun w=>4*fx st x w+fF x w) y.ends:=kA fun w _=>by have:=pP w;have:=qF w;omega
  rw[V]at W;rw[R]at h5;unfold eW;rw[V,R];rw[Mn]at I;omega
 have Cq:∀p,qE y p=qE x p:=fun p=>by
  have G:=jN (f:=fun w=>if w.2=p then 1 else 0) (dD (a::Q)) N;have z:bK (fun w=>if w.2=p then 1 else 0) (dD (a::Q))+(if a.2=p then 1 else 0)=bK (fun w=>if w.2=p then 1 else 0) (a::Q):=oS a Q;have I:bK (fun w=>if w.2=p then 1 else 0) (eH x.ends (x.now+s.minutes,a.2.1,a.2.2))=bK (fun w=>if w.2=p then 1 else 0) x.ends+(if a.2=p then 1 else 0):=jM _ _;unfold qE;rw[V,R];omega
 have Pj:∀w∈a::Q,yq st w:=h.sv.qw _ Az;rw[<-J];refine⟨⟨by rw[J];exact h.sv.start N hb,h.hs,h.hb,h.hl,by rw[R];exact nB _ h.eh,fun q L=>?_,fun w c=>?_,fun m Y=>?_,fun p=>by rw[Cq];exact h.un p,fun i2 q w U c=>?_,fun w c=>?_,by rw[Nj];have:=h.dn;omega,fun w c=>?_,?_⟩,by omega⟩
 ·rw[V]at L;rcases cw L with L | rfl
  ·exact h.qh q L
  exact uB (h.qh _ Az)
 ·rw[R]at c;rw[Ia];rcases gu c with c | rfl
  ·exact h.ew w c
  exact⟨(Pj a aW).of ea,by simp only;omega⟩
 ·rw[D]at Y;rw[Nj];rcases cw Y with Y | rfl
  ·exact h.jv m Y
  exact h.jv j (aj O)
 ·have old:∃Z,x.queues[i2]?=some Z/\w∈Z:=by
   rw[V,eR N]at U;by_cases e:i2=i
   ·subst e;rw[ae rfl]at U;injection U with U;subst U;exact⟨_,N,lK c⟩
   rw[af e]at U;exact⟨q,U,c⟩
  obtain⟨Z,G,z⟩:=old;obtain⟨m,I,W⟩:=h.qs i2 Z w G z;rw[D,gK O];by_cases e:bU st w=bU st a
  ·rw[ae e];refine⟨_,rfl,?_⟩;rw[e,O]at I;injection I with I;rw[<-I]at W;exact W
  rw[af e];exact⟨m,I,W⟩
 ·have new:∃m b2,y.jobs[bU st a]?=some m/\y.busy[m.step]?=some b2/\m.machine<b2.length:=by
   rw[D,gK O,ae rfl,KE];exact⟨_,b.set (dR b) true,rfl,by show (x.busy.set i _)[j.step]?=_;rw[KF,eR hb,ae rfl],by rw[aF];exact hf⟩
  rw[R]at c;rcases gu c with c | rfl
  ·by_cases e:bU st w=bU st a
   ·rw[e];exact new
   obtain⟨m,b2,G,z,I⟩:=h.es w c;rw[D,gK O,af e,KE];by_cases ej:m.step=i
   ·rw[ej]at z;rw[hb]at z;injection z with z;subst z;exact⟨m,_,G,by rw[eR hb,ae ej],by rw[aF];exact I⟩
   exact⟨m,b2,G,by rw[eR hb,af ej];exact z,I⟩
  rw[wv ea];exact new
 ·have BJ:=h.tm;have o9:=h.tn;have Ib:(1000000000:Int)+1000000*((lL:Int)-eW st x)+1000000<=1000000000+1000000*((lL:Int)-eW st y):=by omega
  rw[R,V]at c;rcases c with c | ⟨q,L,c⟩
  ·rcases gu c with c | rfl
   ·have:=BJ w (.inl c);omega
   simp only;omega
  rcases cw L with L | rfl
  ·have:=BJ w (.inr ⟨q,L,c⟩);omega
  have:=BJ w (.inr ⟨_,Az,lK c⟩);omega
 have o9:=h.tn;rw[Ia];omega
theorem bz.fin{st:Stat}{x:a_}(h:bz st x){w:Wt}{W:List Wt}(G:x.ends=w::W)(I:w.1=x.now):∃(i k:Nat) (r:List Nat) (g:Nat) (j:lH) (s:gI) (b:List Bool) (lt:Lt) (v:Int),w=(x.now,(i:Int),(k:Int))/\st.gs[i]?=some r/\r[k]?=some g/\x.jobs[pos st.gs i k]?=some j/\st.steps[j.step]?=some s/\x.busy[j.step]?=some b/\j.machine<b.length/\st.lots[i]?=some lt/\j.visits[j.step]?=some v/\(v+1<=1000000000/\0<=v)/\s.back<=j.step/\(0<=j.made.rework/\j.made.rework<=5)/\
  eI st x=some (mM st { x with ends:=dD x.ends } w k (pos st.gs i k) j s b v lt.name (tC st ⟨lt.name,k,j.step,v+1⟩)):=by
 have J:w∈x.ends:=by rw[G];exact aW
 obtain⟨i,k,r,g,c,m,L,O⟩:=(h.ew w J).1;obtain⟨j,b,z,hb,R⟩:=h.es w J;have hp:bU st w=pos st.gs i k:=by rw[bU,c,m,gH,gH]
 obtain⟨U,q2,V,Y,Z⟩:=h.jv j (aj z);obtain⟨s,hs⟩:=a8 U;obtain⟨v,D⟩:=a8 (l:=j.visits) (i:=j.step) (by omega);obtain⟨lt,N⟩:=a8 (l:=st.lots) (i:=i) (by rw[h.hl];exact ah L);have Ks:=V v (aj D);have HB:=h.dn;have e0:lL=15000000:=rfl;refine⟨i,k,r,g,j,s,b,lt,v,by rw[<-I,<-c,<-m],L,O,by rw[<-hp];exact z,hs,hb,R,N,D,⟨by omega,Ks.1⟩,(h.hb _ s hs).1,⟨Y,Z⟩,?_⟩;rw[M.eI,G];simp only;rw[ae I,z,c,gH,N];simp only;rw[hs,hb,D,m,gH,hp]
theorem bz.JE{st:Stat}{x:a_}(h:bz st x){w:Wt}{W:List Wt}(he:x.ends=w::W)(hw:w.1=x.now){b b':List Bool}{d:dQ}(Z:x.jobs[bU st w]?=some j)(hb:x.busy[j.step]?=some b)(dM:b'.length=b.length)
  (I:y.jobs=x.jobs.set (bU st w) j') (U:y.ends=dD x.ends) (KE:y.busy=x.busy.set j.step b') (Ia:y.now=x.now) (Nj:y.done=x.done++[d])
  (h1:j'.step<st.steps.length) (h2:j'.visits.length=st.steps.length) (h3:∀v∈j'.visits,0<=v/\v<=x.done.length+1) (h4:0<=j'.made.rework/\j'.made.rework<=5)
  (V:(y.queues=x.queues/\nC st j'<=nC st j)\/∃q,x.queues[j'.step]?=some q/\y.queues=x.queues.set j'.step (eH q w)/\nC st j'+1<=nC st j):bz st y/\eW st y<eW st x:=by
 have E4:w∈x.ends:=by rw[he];exact aW
 have hok:=(h.ew w E4).1;have JF:nC st j'<=nC st j:=by rcases V with h | ⟨q,_,_,h⟩;exact h.2;omega
 have pP:∀u,fx st y u<=fx st x u:=Bi Z I JF;have qF:∀u,fF y u=fF x u:=fun u=>by rw[fF,fF,Ia]
 have Mo:fF x w=0:=by rw[fF,af (by omega)]
 have Mn:fx st x w=nC st j:=E3 Z;have Qr:fx st y w=nC st j':=by
  refine E3 ?_;rw[I,gK Z,ae rfl]
 have SE:=(h.jv j (aj Z)).1;have R3:1<=nC st j:=by unfold nC;omega
 have JG:∀f:Wt->Nat,bK f (dD x.ends)+f w=bK f x.ends:=fun f=>by rw[he];exact oS w W
 have iN:∀u∈y.ends,u∈x.ends:=fun u m=>by rw[U]at m;exact lK m
 have Qt:∀i q u,y.queues[i]?=some q->u∈q->(∃G,x.queues[i]?=some G/\u∈G)\/(u=w/\i=j'.step):=fun i q u N m=>by
  rcases V with⟨e,_⟩ | ⟨J,z,D,_⟩
  ·rw[e]at N;exact .inl ⟨q,N,m⟩
  rw[D,eR z]at N;by_cases ei:i=j'.step
  ·rw[ae ei]at N;injection N with N;subst N;rcases gu m with m | rfl
   ·exact .inl ⟨J,by rw[ei];exact z,m⟩
   exact .inr ⟨rfl,ei⟩
  rw[af ei]at N;exact .inl ⟨q,N,m⟩
 have Az:∀q∈y.queues,∀u∈q,(∃G∈x.queues,u∈G)\/u=w:=fun q L u m=>by
  obtain⟨i,hi⟩:=cf.1 L;rcases Qt i q u hi m with⟨G,z,D⟩ | ⟨z,_⟩
  ·exact .inl ⟨G,aj z,D⟩
  exact .inr z
 have BU:∀f:Wt->Nat,eJ f y.queues<=eJ f x.queues+f w:=fun f=>by
  rcases V with⟨e,_⟩ | ⟨J,z,D,_⟩
  ·rw[e];omega
  have O:=jN (f:=f) (eH J w) z;have R:=jM (f:=f) J w;rw[D];omega
 have JD:eW st y+2<=eW st x:=by
  have a5:bK (fun u=>4*fx st y u+fF y u) y.ends<=bK (fun u=>4*fx st x u+fF x u) y.ends:=kA fun u _=>by have:=pP u;have:=qF u;omega
  have a6:bK (fun u=>4*fx st x u+fF x u) (dD x.ends)+(4*fx st x w+fF x w)=bK (fun u=>4*fx st x u+fF x u) x.ends:=JG _;rw[U]at a5;have key:eJ (fun u=>4*fx st y u+2+fF y u) y.queues+2<=eJ (fun u=>4*fx st x u+2+fF x u) x.queues+4*fx st x w:=by
   rcases V with⟨e,_⟩ | ⟨J,z,D,g3⟩
   ·have a4:eJ (fun u=>4*fx st y u+2+fF y u) x.queues<=eJ (fun u=>4*fx st x u+2+fF x u) x.queues:=mA fun q _ u _=>by have:=pP u;have:=qF u;omega
    rw[e];omega
   have O:=jN (f:=fun u=>4*fx st y u+2+fF y u) (eH J w) z;have R:bK (fun u=>4*fx st y u+2+fF y u) (eH J w)=bK (fun u=>4*fx st y u+2+fF y u) J+(4*fx st y w+2+fF y w):=jM _ _;have a4:eJ (fun u=>4*fx st y u+2+fF y u) x.queues<=eJ (fun u=>4*fx st x u+2+fF x u) x.queues:=mA fun q _ u _=>by have:=pP u;have:=qF u;omega
   have a7:=qF w;rw[D];omega
  unfold eW;rw[U];omega
 have Cq:∀p,qE y p<=qE x p:=fun p=>by
  have O:=BU fun u=>if u.2=p then 1 else 0;have R:=JG fun u=>if u.2=p then 1 else 0;unfold qE;rw[U];omega
 have alone:∀u,((∃q∈x.queues,u∈q)\/u∈dD x.ends)->u.2≠w.2:=fun u m e=>by
  have a0:=h.un w.2;have R:=JG fun u=>if u.2=w.2 then 1 else 0;simp only[ae]at R;unfold qE at a0;rcases m with⟨q,gR,m⟩ | m
  ·have b1:=jO (f:=fun u=>if u.2=w.2 then 1 else 0) m;have Y:=sL (f:=fun u=>if u.2=w.2 then 1 else 0) gR;simp only[ae e]at b1;omega
  have b1:=jO (f:=fun u=>if u.2=w.2 then 1 else 0) m;simp only[ae e]at b1;omega
 have other:∀u,yq st u->((∃q∈x.queues,u∈q)\/u∈dD x.ends)->y.jobs[bU st u]?=x.jobs[bU st u]?:=fun u m hm=>by
  rw[I,gK Z,af fun e=>alone u hm (m.inj hok e)]
 have Mp:y.done.length=x.done.length+1:=by rw[Nj];simp
 have Qu:∀(n:Nat) (Y:List Bool),x.busy[n]?=some Y->∃b3:List Bool,y.busy[n]?=some b3/\b3.length=Y.length:=fun n Y hn=>by
  rw[KE,eR hb];by_cases e:n=j.step
  ·rw[ae e];rw[e,hb]at hn;injection hn with hn;subst hn;exact⟨b',rfl,dM⟩
  rw[af e];exact⟨Y,hn,rfl⟩
 have Ib:(1000000000:Int)+1000000*((lL:Int)-eW st x)<=1000000000+1000000*((lL:Int)-eW st y):=by omega
 refine⟨⟨⟨?_,by rw[KE,aF];exact h.sv.bl,by rw[I,aF];exact h.sv.jl,fun q L u m=>?_,?_,fun c hc=>?_,by rw[Ia];exact h.sv.now,h.sv.mn⟩,h.hs,h.hb,h.hl,by rw[U];exact uB h.eh,fun q L=>?_,fun u m=>?_,fun j2 wR=>?_,fun p=>bM (Cq p) (h.un p),fun i q u N m=>?_,fun u m=>?_,by have:=h.dn;omega,fun u m=>?_,?_⟩,by omega⟩
 ·rcases V with⟨e,_⟩ | ⟨J,z,D,_⟩
  ·rw[e];exact h.sv.ql
  rw[D,aF];exact h.sv.ql
 ·rcases Az q L u m with⟨G,z,D⟩ | rfl
  ·exact h.sv.qw G z u D
  exact hok
 ·have e1:(dD x.ends).length+1=x.ends.length:=by rw[he,oP];rfl
  have:=h.sv.tot;rw[U];rcases V with⟨e,_⟩ | ⟨J,z,D,_⟩
  ·rw[e];omega
  have O:=oR (eH J w) z;rw[pN]at O;rw[D];omega
 ·rw[KE]at hc;rcases cw hc with hc | rfl
  ·exact h.sv.bn c hc
  rw[dM];exact h.sv.bn b (aj hb)
 ·rcases V with⟨e,_⟩ | ⟨J,z,D,_⟩
  ·rw[e]at L;exact h.qh q L
  rw[D]at L;rcases cw L with L | rfl
  ·exact h.qh q L
  exact nB _ (h.qh _ (aj z))
 ·rw[Ia];exact h.ew u (iN u m)
 ·rw[I]at wR;rw[Mp];rcases cw wR with wR | rfl
  ·obtain⟨O,R,a3,a4⟩:=h.jv j2 wR;exact⟨O,R,fun v hv=>by have:=a3 v hv;omega,a4⟩
  exact⟨h1,h2,fun v hv=>by have:=h3 v hv;omega,h4⟩
 ·rcases Qt i q u N m with⟨G,z,D⟩ | ⟨rfl,rfl⟩
  ·rw[other u (h.sv.qw G (aj z) u D) (.inl ⟨G,aj z,D⟩)];exact h.qs i G u z D
  exact⟨j',by rw[I,gK Z,ae rfl],rfl⟩
 ·have FF:=iN u m;rw[U]at m;obtain⟨j2,Y,O,R,a3⟩:=h.es u FF;rw[other u (h.ew u FF).1 (.inr m)];obtain⟨b3,c1,c2⟩:=Qu _ Y R;exact⟨j2,b3,O,c1,by omega⟩
 ·rcases m with m | ⟨q,L,m⟩
  ·have:=h.tm u (.inl (iN u m));omega
  rcases Az q L u m with⟨G,z,D⟩ | rfl
  ·have:=h.tm u (.inr ⟨G,z,D⟩);omega
  have:=h.tm u (.inl E4);omega
 have:=h.tn;rw[Ia];omega
theorem bz.eI{st:Stat}{x y:a_}(h:bz st x)(c:M.eI st x=some y):bz st y/\eW st y<eW st x:=by
 obtain⟨w,W,m,z⟩:∃w W,x.ends=w::W/\w.1=x.now:=by
  unfold M.eI at c;split at c
  ·cases c
  rename_i w W m;split at c
  ·rename_i z;exact⟨w,W,m,z⟩
  cases c
 obtain⟨i,k,r,g,j,s,b,lt,v,Z,h3,h4,D,hs,hb,hm,dv,hv,Ks,H_,R4,hf⟩:=h.fin m z;rw[hf]at c;injection c with c;have hp:bU st w=pos st.gs i k:=by rw[bU,Z];simp
 rw[<-hp]at D c;obtain⟨q1,q2,R,U,V⟩:=h.jv j (aj D);have I:∀u∈j.visits.set j.step (v+1),0<=u/\u<=x.done.length+1:=fun u J=>by
  rcases cw J with J | rfl
  ·have:=R u J;omega
  have:=R v (aj hv);omega
 have L:(j.visits.set j.step (v+1)).length=st.steps.length:=by rw[aF];exact q2
 unfold mM at c;simp only at c;split at c
 ·rename_i N;obtain⟨c1,c2,c3⟩:=N;obtain⟨q,G⟩:=a8 (l:=x.queues) (i:=s.back.toNat) (by rw[h.sv.ql];omega);have O:bF { x with ends:=dD x.ends } s.back.toNat=q:=by show (x.queues[s.back.toNat]?).getD []=q;rw[G];rfl
  rw[O]at c;refine h.JE (y:=y) (j':={ kQ j v with step:=s.back.toNat,made:={ j.made with rework:=j.made.rework+1 } }) m z D hb (b':=b.set j.machine false) (by simp) (d:=eT { x with ends:=dD x.ends } k j lt.name (tC st ⟨lt.name,k,j.step,v+1⟩)) (by subst c;rfl) (by subst c;rfl) (by subst c;rfl) (by subst c;rfl) (by subst c;rfl) (by show s.back.toNat<_;omega) L I ⟨by show 0<=j.made.rework+1;omega,by show j.made.rework+1<=5;omega⟩ (.inr ⟨q,G,by subst c;rfl,?_⟩);unfold nC;show (5-(j.made.rework+1)).toNat*st.steps.length+(st.steps.length-s.back.toNat)+1<=_;have e5:(5-j.made.rework).toNat=(5-(j.made.rework+1)).toNat+1:=by omega
  rw[e5,bR];omega
 split at c
 ·refine h.JE (y:=y) (j':={ kQ j v with made:={ j.made with done:=!tC st ⟨lt.name,k,j.step,v+1⟩,at_:=x.now } }) m z D hb (b':=b.set j.machine false) (by simp) (d:=eT { x with ends:=dD x.ends } k j lt.name (tC st ⟨lt.name,k,j.step,v+1⟩)) (by subst c;rfl) (by subst c;rfl) (by subst c;rfl) (by subst c;rfl) (by subst c;rfl) q1 L I ⟨U,V⟩ (.inl ⟨by subst c;rfl,aC _⟩)
 rename_i N;have Y:j.step+1<st.steps.length:=by
  have:j.step+1≠st.steps.length:=fun e=>N (.inr e);omega
 obtain⟨q,G⟩:=a8 (l:=x.queues) (i:=j.step+1) (by rw[h.sv.ql];exact Y);have O:bF { x with ends:=dD x.ends } (j.step+1)=q:=by show (x.queues[j.step+1]?).getD []=q;rw[G];rfl
 rw[O]at c;refine h.JE (y:=y) (j':={ kQ j v with step:=j.step+1 }) m z D hb (b':=b.set j.machine false) (by simp) (d:=eT { x with ends:=dD x.ends } k j lt.name (tC st ⟨lt.name,k,j.step,v+1⟩)) (by subst c;rfl) (by subst c;rfl) (by subst c;rfl) (by subst c;rfl) (by subst c;rfl) Y L I ⟨U,V⟩ (.inr ⟨q,G,by subst c;rfl,?_⟩);unfold nC;show (5-j.made.rework).toNat*st.steps.length+(st.steps.length-(j.step+1))+1<=_;omega
def oT(x:a_):Prop:=∀w∈x.ends,x.now<w.1
theorem bz.du{st:Stat}{i:Nat}{x:a_}(h:bz st x)(c:M.du st i x=some y):bz st y/\eW st y<eW st x/\y.now=x.now/\(oT x->oT y):=by
 unfold M.du at c;split at c
 ·rename_i s a Q b z G I;split at c
  ·rename_i D;split at c
   ·rename_i j J;injection c with c;have key:=h.en z G I J D.1 D.2;rw[c]at key;refine⟨key.1,key.2,by rw[<-c];rfl,fun hl w m=>?_⟩;have L:y.now=x.now:=by rw[<-c];rfl
    rw[<-c]at m;rw[L];rcases gu m with m | rfl
    ·exact hl w m
    have:=(h.hb i s z).2;show x.now<x.now+s.minutes;omega
   cases c
  cases c
 cases c
theorem bz.eo{st:Stat}{i:Nat}:∀(n:Nat) {x:a_},bz st x->bz st (M.eo n st i x)/\eW st (M.eo n st i x)<=eW st x/\(M.eo n st i x).now=x.now/\(oT x->oT (M.eo n st i x))
 | 0,x,h=>⟨h,aC _,rfl,id⟩
 | n+1,x,h=>by
  unfold M.eo;split
  ·rename_i y c;obtain⟨m,a2,z,D⟩:=h.du c;obtain⟨G,b2,I,J⟩:=bz.eo (i:=i) n m;exact⟨G,by omega,I.trans z,fun hl=>J (D hl)⟩
  exact⟨h,aC _,rfl,id⟩
theorem bz.lN{st:Stat}:∀(l:List Nat) {x:a_},bz st x->bz st (l.foldl (fun x i=>dE st i x) x)/\eW st (l.foldl (fun x i=>dE st i x) x)<=eW st x/\(l.foldl (fun x i=>dE st i x) x).now=x.now/\(oT x->oT (l.foldl (fun x i=>dE st i x) x))
 | [],x,h=>⟨h,aC _,rfl,id⟩
 | i::l,x,h=>by
  obtain⟨z,m,c,D⟩:=bz.eo (i:=i) (bF x i).length h;obtain⟨G,b2,I,J⟩:=bz.lN l (x:=dE st i x) z;rw[qN];have m:eW st (dE st i x)<=eW st x:=m;have c:(dE st i x).now=x.now:=c;exact⟨G,by omega,I.trans c,fun hl=>J (D hl)⟩
theorem bz.start{st:Stat}{x:a_}(h:bz st x):bz st (bV st x)/\eW st (bV st x)<=eW st x:=
 ⟨(bz.lN _ h).1,(bz.lN _ h).2.1⟩
theorem xY{st:Stat}{x:a_}(h:bz st x)(z:M.eI st x=none):oT x:=by
 intro w c;cases he:x.ends with
 | nil=>rw[he]at c;cases c
 | cons u W=>
  have h1:=(h.ew u (by rw[he];exact aW)).2;have h2:=Be (he▸h.eh) (he▸c);by_cases e:u.1=x.now
  ·obtain⟨_,_,_,_,_,_,_,_,_,_,_,_,_,_,_,_,_,_,_,_,_,m⟩:=h.fin he e;rw[z]at m;cases m
  omega
theorem Bj{q:List Wt}{a:Int}(hl:oT y)(I:Heap y.ends)(c:eU y q=(true,a)):y.now<a/\(∀w∈y.ends,a<=w.1)/\∃w,(w∈y.ends\/w∈q)/\w.1=a:=by
 have ends:(y.ends=[]/\gJ y.ends (false,0)=(false,0))\/∃u W,y.ends=u::W/\gJ y.ends (false,0)=(true,u.1):=by
  cases h:y.ends with
  | nil=>exact .inl ⟨rfl,rfl⟩
  | cons u W=>exact .inr ⟨u,W,rfl,by rw[gJ,ky,ae (.inl rfl)]⟩
 rw[eU]at c;rcases ends with⟨z,D⟩ | ⟨u,W,z,D⟩
 ·rw[D]at c;unfold wc at c;split at c
  ·cases c
  rename_i v Q;split at c
  ·rename_i J;rw[ky,ae (.inl rfl)]at c;injection c with _ c;exact⟨by omega,fun w m=>(by rw[z]at m;cases m),v,.inr aW,c⟩
  cases c
 rw[D]at c;have hu:y.now<u.1:=hl u (by rw[z];exact aW);have G:∀w∈y.ends,u.1<=w.1:=fun w m=>Be (z▸I) (z▸m);have L:u∈y.ends:=by rw[z];exact aW
 have base:(true,u.1)=(true,a)->y.now<a/\(∀w∈y.ends,a<=w.1)/\∃w,(w∈y.ends\/w∈q)/\w.1=a:=fun e=>by
  injection e with _ e;exact⟨by omega,fun w m=>by have:=G w m;omega,u,.inl L,e⟩
 unfold wc at c;split at c
 ·exact base c
 rename_i v Q;split at c
 ·rename_i J;unfold ky at c;split at c
  ·rename_i N;injection c with _ c;have dv:v.1<u.1:=N.elim (fun h=>by cases h) id;exact⟨by omega,fun w m=>by have:=G w m;omega,v,.inr aW,c⟩
  exact base c
 exact base c
theorem bz.next{st:Stat}{x:a_}(h:bz st x)(hf:M.eI st x=none){a:Int}(Y:eU (bV st x) (bF (bV st x) 0)=(true,a)):bz st { bV st x with now:=a }/\eW st { bV st x with now:=a }<eW st x:=by
 obtain⟨s1,s2,s3,V⟩:=bz.lN (List.range st.steps.length) h;obtain⟨y,R⟩:∃y,y=bV st x:=⟨_,rfl⟩;have s1:bz st y:=by rw[R];exact s1
 have s2:eW st y<=eW st x:=by rw[R];exact s2
 have V:oT y:=by rw[R];exact V (xY h hf)
 rw[<-R]at Y ⊢;obtain⟨n1,n2,w,c,n4⟩:=Bj V s1.eh Y;obtain⟨z,D⟩:∃z:a_,z={ y with now:=a }:=⟨_,rfl⟩;have m:z.queues=y.queues:=by rw[D]
 have G:z.ends=y.ends:=by rw[D]
 have N:z.jobs=y.jobs:=by rw[D]
 have W:z.busy=y.busy:=by rw[D]
 have Z:z.done=y.done:=by rw[D]
 have O:z.now=a:=by rw[D]
 have I:∀u,fx st z u=fx st y u:=fun u=>by rw[fx,fx,N]
 have U:∀u,fF z u<=fF y u:=fun u=>by unfold fF;rw[O];split<;>split<;>omega
 have Mo:fF z w<fF y w:=by rw[fF,fF,O,af (by omega),ae (by omega)];omega
 have JD:eW st z<eW st y:=by
  have a1:eJ (fun u=>4*fx st z u+2+fF z u) y.queues<=eJ (fun u=>4*fx st y u+2+fF y u) y.queues:=mA fun q _ u _=>by have:=I u;have:=U u;omega
  have a2:bK (fun u=>4*fx st z u+fF z u) y.ends<=bK (fun u=>4*fx st y u+fF y u) y.ends:=kA fun u _=>by have:=I u;have:=U u;omega
  unfold eW;rw[m,G];rcases c with c | c
  ·have a3:bK (fun u=>4*fx st z u+fF z u) y.ends<bK (fun u=>4*fx st y u+fF y u) y.ends:=wu (fun u _=>by have:=I u;have:=U u;omega) c (by have:=I w;omega);omega
  have yp:∃J∈y.queues,w∈J:=by
   unfold bF at c;cases hq:y.queues[0]? with
   | none=>rw[hq]at c;cases c
   | some J=>rw[hq]at c;exact⟨J,aj hq,c⟩
  obtain⟨J,m1,m2⟩:=yp;have a3:eJ (fun u=>4*fx st z u+2+fF z u) y.queues<eJ (fun u=>4*fx st y u+2+fF y u) y.queues:=Bg (fun q _ u _=>by have:=I u;have:=U u;omega) m1 m2 (by have:=I w;omega);omega
 have SF:a<=1000000000+1000000*((lL:Int)-eW st y):=by
  rw[<-n4];refine s1.tm w (c.imp id fun c=>?_);unfold bF at c;cases hq:y.queues[0]? with
  | none=>rw[hq]at c;cases c
  | some J=>rw[hq]at c;exact⟨J,aj hq,c⟩
 have Ib:(1000000000:Int)+1000000*((lL:Int)-eW st y)<=1000000000+1000000*((lL:Int)-eW st z):=by omega
 have e0:lL=15000000:=rfl;have Pf:=s1.sv.now;rw[<-D];refine⟨⟨⟨by rw[m];exact s1.sv.ql,by rw[W];exact s1.sv.bl,by rw[N];exact s1.sv.jl,by rw[m];exact s1.sv.qw,by rw[m,G];exact s1.sv.tot,by rw[W];exact s1.sv.bn,by rw[O];exact⟨by omega,by omega⟩,s1.sv.mn⟩,s1.hs,s1.hb,s1.hl,by rw[G];exact s1.eh,by rw[m];exact s1.qh,fun u L=>?_,by rw[N,Z];exact s1.jv,fun p=>?_,?_,?_,by rw[Z];have:=s1.dn;omega,fun u L=>?_,by rw[O];omega⟩,by omega⟩
 ·rw[G]at L;rw[O];exact⟨(s1.ew u L).1,n2 u L⟩
 ·have:=s1.un p;unfold qE at this ⊢;rw[m,G];exact this
 ·rw[m,N];exact s1.qs
 ·rw[G,N,W];exact s1.es
 rw[G,m]at L;have:=s1.tm u L;omega
theorem CF{st:Stat}(k:Nat):∀(n m:Nat) (x:a_),bz st x->eW st x<=n->eW st x<=m->n<=k->kz n st x=kz m st x:=by
 induction k with
 | zero=>
  intro n m x h c z D;have G:n=0:=by omega
  subst G;cases m with
  | zero=>rfl
  | succ m=>
   rw[kz,kz];cases hy:M.eI st x with
   | none=>rfl
   | some y=>have:=(h.eI hy).2;omega
 | succ k ih=>
  intro n m x h c z D;cases hy:M.eI st x with
  | none=>
   cases n<;>cases m<;>simp only[kz,hy]
  | some y=>
   have hp:=(h.eI hy).2;cases n with
   | zero=>omega
   | succ n=>
    cases m with
    | zero=>omega
    | succ m=>
     simp only[kz,hy];exact ih n m y (h.eI hy).1 (by omega) (by omega) (by omega)
theorem CG{st:Stat}{x:a_}(h:bz st x)(c:M.eI st x=some y):fy st y=fy st x:=by
 obtain⟨m,h2⟩:=h.eI c;obtain⟨n,z⟩:∃n,eW st x=n+1:=⟨eW st x-1,by omega⟩;rw[fy,fy,z,kz,c];exact CF _ _ _ y m (aC _) (by omega) (aC _)
theorem uD{st:Stat}{x:a_}(c:eI st x=none):fy st x=x:=by
 unfold fy;cases eW st x with
 | zero=>rfl
 | succ n=>rw[kz,c]
theorem xZ{st:Stat}:∀(n:Nat) {x:a_},bz st x->eW st x<=n->bz st (kz n st x)/\eW st (kz n st x)<=eW st x/\M.eI st (kz n st x)=none
 | 0,x,h,hn=>by
  refine⟨h,aC _,?_⟩;cases c:M.eI st x with
  | none=>exact c
  | some y=>have:=(h.eI c).2;omega
 | n+1,x,h,hn=>by
  unfold kz;split
  ·rename_i y c;obtain⟨m,h2⟩:=h.eI c;obtain⟨z,a2,D⟩:=xZ n m (by omega);exact⟨z,by omega,D⟩
  rename_i c;exact⟨h,aC _,c⟩
theorem bz.fy{st:Stat}{x:a_}(h:bz st x):bz st (M.fy st x)/\eW st (M.fy st x)<=eW st x/\M.eI st (M.fy st x)=none:=xZ _ h (aC _)
theorem CH{st:Stat}(k:Nat):∀(n m:Nat) (x:a_),bz st x->eW st x<n->eW st x<m->n<=k->iU n st x=iU m st x:=by
 induction k with
 | zero=>intro n m x h c z D;omega
 | succ k ih=>
  intro n m x h c z D;cases n with
  | zero=>omega
  | succ n=>
   cases m with
   | zero=>omega
   | succ m=>
    obtain⟨G,f2,I⟩:=h.fy;rw[iU,iU];split
    ·rename_i a J;have:=G.next I J;exact ih n m _ this.1 (by omega) (by omega) (by omega)
    rfl
theorem CI{st:Stat}{x:a_}(h:bz st x){a:Int}(c:eU (bV st (fy st x)) (bF (bV st (fy st x)) 0)=(true,a)):iV st { bV st (fy st x) with now:=a }=iV st x:=by
 obtain⟨m,f2,z⟩:=h.fy;have D:=m.next z c;have e:iU (eW st x+1) st x=iU (eW st x) st { bV st (fy st x) with now:=a }:=by rw[iU,c]
 show iU _ st _=iU (eW st x+1) st x;rw[e];exact CH _ _ _ _ D.1 (by omega) (by omega) (aC _)
theorem Bk(st:Stat)(f:Fl):pc ((mL st.bad).map Bz) (FG f)=match tC st f with | true=>some (.im (.bool true)) | false=>none:=by
 unfold tC mL
 induction st.bad with
 | nil=>rfl
 | cons g l ih=>
  simp only[aV,Bz,pc,wi];rw[EW];have e:decide (f.lot=g.lot/\f.panel=g.panel/\f.step=g.step/\f.visit=g.visit)=decide (g.lot=f.lot/\g.panel=f.panel/\g.step=f.step/\g.visit=f.visit):=by
   apply decide_eq_decide.2;constructor<;>rintro⟨c,m,z,D⟩<;>exact⟨c.symm,m.symm,z.symm,D.symm⟩
  rw[e];cases decide (g.lot=f.lot/\g.panel=f.panel/\g.step=f.step/\g.visit=f.visit) with
  | true=>rfl
  | false=>simpa [Bz] using ih
theorem Mq(st:Stat)(x:a_)(hx:bz st x):cR C 18 [.bx 100000 0] (kK st x) (.tu []) (kK st (iV st x)):=by
 refine Kz ⟨[],[2],[],[],[],[]⟩ hC Tryz.func18 rfl (by kernel_rfl) fun _=>?_;refine d_ (fun y:a_=>bz st y/\iV st y=iV st x) (fun _=>[(0,.bx 100000 0)]) (fun y=>kK st y) (fun y=>eW st y) x _ (aY.refl _ _) ⟨hx,rfl⟩ ⟨Z,Y⟩ ⟨Z,Z,Z,Z,Z,Z,Y⟩ fun y hk t h=>?_;obtain⟨k1,k2⟩:=hk;refine O3 (fun z:a_=>bz st z/\eI st z=none/\fy st y=z/\eW st z<=eW st y) (fun _=>[(0,.bx 100000 0)]) (fun z=>kK st z) (fun z R t h=>?_) ?_
 ·obtain⟨c,I,D,z4⟩:=R;have hs:=c.start;refine⟨[(100000,100000),(90001,90001),(90002,90002),(90003,90003),(90004,90004),(90010,90010)],_,_,_,_,GQ st z c.sv c.hs.2,⟨rfl,rfl,rfl,aa (AB.ai _) (lI _ _),rfl,aa (AB.ai _) (lJ _ _),Z,Z,Y⟩,?_⟩;obtain⟨q,O⟩:=a8 (l:=(bV st z).queues) (i:=0) (by rw[hs.1.sv.ql];exact hs.1.hs.1);have vq:bF (bV st z) 0=q:=by rw[bF,O];rfl
  have U:=JA st (bV st z) q O;have J:∀f a,eU (bV st z) q=(f,a)->eU (bV st (fy st y)) (bF (bV st (fy st y)) 0)=(f,a):=fun f a h=>by rw[D,vq,h]
  rcases hp:eU (bV st z) q with⟨f,a⟩;rw[hp]at U;have FC:=J f a hp;cases f with
  | true=>
   refine⟨[(100000,100000),(90001,90001),(90002,90002),(90003,90003),(90004,90004),(90010,90010)],_,_,_,_,U,⟨rfl,rfl,rfl,aa (AB.ai _) (by simp only[lI]),rfl,aa (AB.ai _) (by simp only[lJ]),Z,Z,Y⟩,?_⟩;have R6:=c.next I (a:=a) (by rw[vq,hp]);refine⟨{ bV st z with now:=a },_,aY.refl _ _,⟨R6.1,?_⟩,by omega,⟨Z,Y⟩,⟨rfl,aa (AB.ai _) (by simp only[lI]),rfl,aa (AB.ai _) (by simp only[lJ]),Z,Z,Y⟩⟩;have:=CI k1 FC;rw[D,k2]at this;exact this
  | false=>
   have e:iV st x=bV st z:=by
    rw[<-k2,iV,iU,FC,D]
   rw[e];exact⟨[(100000,100000),(90001,90001),(90002,90002),(90003,90003),(90004,90004),(90010,90010)],_,_,_,_,U,⟨rfl,rfl,rfl,aa (AB.ai _) (by simp only[lI]),rfl,aa (AB.ai _) (by simp only[lJ]),Z,Z,Y⟩,_,aY.refl _ _,rfl,rfl,aa (AB.ai _) (by simp only[lI]),rfl,aa (AB.ai _) (by simp only[lJ]),Z,Z,Y⟩
 refine d_ (fun z:a_=>bz st z/\fy st z=fy st y/\eW st z<=eW st y) (fun _=>[(0,.bx 100000 0)]) (fun z=>kK st z) (fun z=>eW st z) y _ (aY.refl _ _) ⟨k1,rfl,aC _⟩ ⟨Z,Y⟩ ⟨Z,Z,Z,Z,Z,Z,Y⟩ fun z R t h=>?_;obtain⟨c,I,D⟩:=R;have lm:=cH z.ends wt;apply iW<;>intro G<;>try simp only[zB]at G
 ·obtain⟨w,W,m⟩:∃w W,z.ends=w::W:=by cases he:z.ends with | nil=>rw[he]at G;simp at G | cons u Q=>exact⟨u,Q,rfl⟩
  have Pe:(z.ends.map wt)[0]?=some (wt w):=by rw[m];rfl
  refine⟨⟨by omega,by rw[m];simp⟩,(wt w),Pe,iW ?_ ?_⟩<;>intro V<;>try simp only[zB]at V
  ·obtain⟨i,k,r,g,j,s,b,lt,v,rfl,f1,f2,f3,f4,f5,f6,f7,f8,f9,f10,f11,L⟩:=c.fin m V;have iR:=c.eI L;have hlen:=c.sv.tot;have F0:z.ends.length=W.length+1:=by rw[m];rfl
   refine⟨_,_,(show jm C _ _ [] _ (z.ends.map wt) (H7 (z.now,(i:Int),(k:Int))) ((dD z.ends).map wt) by rw[m];exact E0 _ W (by omega)),rfl,jL _,?_⟩;have hfn:=EX st { z with ends:=dD z.ends } z.now i k r g j s b lt v f1 f2 f3 f4 f5 f6 f7 f8 _ (Bk st ⟨lt.name,k,j.step,v+1⟩) f9 (by have:=c.dn;have e:lL=15000000:=rfl;show z.done.length<10000000;omega) c.sv.ql f10 f11 (fun q O=>by have G:q.length<=oQ z.queues:=sI O;have:=c.sv.tot;omega) c.hs.2;refine⟨[(100000,100000),(90001,90001),(29,90002),(90003,90003),(90004,90004),(90010,90010)],_,_,_,_,hfn,⟨rfl,rfl,rfl,aa (AB.ai _) (by simp only[cP,lI]),rfl,aa (AB.ai _) (by simp only[dF,lJ]),Z,Z,Y⟩,_,_,aY.ez _ 29 90002 (by decide) (by decide),⟨iR.1,by rw[<-I];exact CG c L,by omega⟩,iR.2,⟨Z,Y⟩,⟨rfl,aa (AB.ai _) (by simp only[lI,cJ]),rfl,aa (AB.ai _) (by simp only[lJ,dG]),Z,Z,Y⟩⟩
  have N:eI st z=none:=by rw[eI,m];simp only;rw[af V]
  exact⟨z,⟨c,N,by rw[<-I,uD N],D⟩,⟨Z,Y⟩,⟨Z,Z,Z,Z,Z,Z,Y⟩⟩
 have m:z.ends=[]:=by cases he:z.ends with | nil=>rfl | cons u Q=>rw[he]at G;simp at G
 have N:eI st z=none:=by rw[eI,m]
 exact⟨z,⟨c,N,by rw[<-I,uD N],D⟩,⟨Z,Y⟩,⟨Z,Z,Z,Z,Z,Z,Y⟩⟩
open Go.Lib
def kT(a b:ByteArray):Bool:=Op.bytesLess a.data.toList b.data.toList
theorem kC{a b:ByteArray}:kT a b=true↔a.data.toList<b.data.toList:=by
 unfold kT;rw[Go.Proofs.bytesLess_eq];simp
theorem db(a:ByteArray):kT a a=false:=by
 rw[cr];intro h;exact List.lt_irrefl _ (kC.1 h)
theorem iA{a b c:ByteArray}(m:kT a b=true)(z:kT b c=true):kT a c=true:=kC.2 (List.lt_trans (kC.1 m) (kC.1 z))
theorem E5{a b:Nat}(h:a+b<4611686018427387904):(IntKind.u64.wrap ((a:Int)+(b:Int))).fdiv (2 ^ min (Int.toNat 1) IntKind.u64.bits)=(((a+b) / 2:Nat):Int):=by
 have c:IntKind.u64.wrap ((a:Int)+(b:Int))=((a+b:Nat):Int):=by simp[IntKind.wrap,IntKind.bits,IntKind.signed];omega
 rw[c];have m:(2:Int) ^ min (Int.toNat 1) IntKind.u64.bits=2:=by decide
 rw[m,Int.fdiv_eq_ediv_of_nonneg _ (by decide)];omega
def fV{α:Type}(p:α->Bool):List α->Nat->Int
 | [],_=>-1
 | x::r,k=>match p x with
  | true=>k
  | false=>fV p r (k+1)
theorem lO{p:α->Bool}:∀{l:List α} {k:Nat},(∀x∈l,p x=false)->fV p l k=-1:=by
 intro l
 induction l with
 | nil=>intro k _;rfl
 | cons x l ih=>intro k h;rw[fV,h x (by simp)];exact ih fun y c=>h y (by simp[c])
theorem uE{p:α->Bool}:∀{l:List α} {i k:Nat} {x:α},l[i]?=some x->p x=true->(∀y∈l.take i,p y=false)->fV p l k=((k+i:Nat):Int):=by
 intro l
 induction l with
 | nil=>intro i k x h;simp at h
 | cons y l ih=>
  intro i k x h hp c;cases i with
  | zero=>simp at h;subst h;rw[fV,hp];rfl
  | succ i=>
   rw[fV,c y (by simp)];have:=ih (i:=i) (k:=k+1) (by simpa using h) hp fun z m=>c z (by simp[m]);simp only[this];omega
theorem sM(p:α->Bool):∀(l:List α) (k:Nat),decide (0<=fV p l k)=l.any p:=by
 intro l
 induction l with
 | nil=>intro k;rfl
 | cons x l ih=>
  intro k;rw[fV,wi];cases p x with
  | true=>simp
  | false=>simpa using ih (k+1)
theorem GS{p:α->Bool}{l:List α}{i:Nat}{x:α}(m:l[i]?=some x)(hp:p x=false)(h:∀y∈l.take i,p y=false):∀y∈l.take (i+1),p y=false:=by
 intro y c;rw[bT m,cX,jc]at c;rcases c with c | rfl
 ·exact h y c
 exact hp
theorem sO:∀a b:List UInt8,(Lib.compareBytes a b<0↔a<b)/\(Lib.compareBytes a b=0↔a=b)
 | [],[]=>by simp[Lib.compareBytes]
 | [],_::_=>by simp[Lib.compareBytes]
 | _::_,[]=>by simp[Lib.compareBytes]
 | x::a,y::b=>by
  have ih:=sO a b;unfold Lib.compareBytes;rw[ry,List.cons.injEq];by_cases e:x=y
  ·subst e;have c:¬x<x:=UInt8.lt_irrefl x;simp[c,ih.1,ih.2]
  rcases UInt8.lt_or_lt_of_ne e with h | h
  ·simp[e,h]
  have m:¬x<y:=UInt8.not_lt.2 (UInt8.le_of_lt h);simp[e,h,m]
theorem JH(a b:ByteArray):decide (Lib.compareBytes a.data.toList b.data.toList<0)=kT a b:=by
 rw[gU,kC,decide_eq_true_iff];exact (sO _ _).1
theorem cmp_eq(a b:ByteArray):Lib.compareBytes a.data.toList b.data.toList=0↔a=b:=by
 rw[(sO _ _).2];refine⟨fun h=>?_,fun h=>by rw[h]⟩;obtain⟨⟨x⟩⟩:=a;obtain⟨⟨y⟩⟩:=b;simpa using h
theorem x5(a b:ByteArray):aT C 64 [.pv (str a),.pv (str b)] (.p (i64 (Lib.compareBytes a.data.toList b.data.toList))) []:=
 iz [.string a,.string b] _ ⟨_,Tryz.func64,rfl,rfl⟩ fun S w _ _=>(Tryz.strings_Compare a b w).mono fun e w' h=>⟨h.1,by rw[h.2];exact Below.refl _ _⟩
def Qw(f:FuncId):PV:=.im (.func (.func f) #[] #[])
def sQ{α:Type}(f:α->ByteArray)(l:List α)(x:ByteArray):Nat:=(l.filter fun y=>kT (f y) x).length
def tD{α:Type}(f:α->ByteArray)(l:List α)(x:ByteArray):Bool:=l.any fun y=>decide (f y=x)
def sR{α:Type}(f:α->ByteArray)(l:List α)(x:ByteArray):Int:=fV (fun y=>decide (f y=x)) l 0
def gL{α:Type}(f:α->ByteArray)(l:List α):Prop:=l.Pairwise fun a b=>kT (f a) (f b)=true
theorem c_{f:α->ByteArray}{l:List α}(h:gL f l){i j:Nat}{a b:α}(c:l[i]?=some a)(hb:l[j]?=some b)(m:i<j):kT (f a) (f b)=true:=by
 obtain⟨z,rfl⟩:=cL.1 c;obtain⟨D,rfl⟩:=cL.1 hb;exact wj.1 h i j z D m
theorem uF{f:α->ByteArray}{l:List α}{x:ByteArray}{i:Nat}(hi:i<=l.length)(z:∀(k:Nat) y,k<i->l[k]?=some y->kT (f y) x=true)(D:∀(k:Nat) y,i<=k->l[k]?=some y->kT (f y) x=false):sQ f l x=i:=by
 unfold sQ;rw[<-iX i l,List.filter_append,bZ];have G:(l.take i).filter (fun y=>kT (f y) x)=l.take i:=List.filter_eq_self.2 fun y m=>by
  obtain⟨k,c⟩:=cf.1 m;rw[cB]at c;split at c
  ·exact z k y (by assumption) c
  cases c
 have I:(l.drop i).filter (fun y=>kT (f y) x)=[]:=List.filter_eq_nil_iff.2 fun y m=>by
  obtain⟨k,c⟩:=cf.1 m;rw[fh]at c;rw[D (i+k) y (by omega) c];decide
 rw[G,I,cu];simp;omega
theorem gO{f:α->ByteArray}{l:List α}{x:ByteArray}:tD f l x=true↔∃y∈l,f y=x:=by simp[tD]
theorem oU{a b:ByteArray}(h:a=b):kT a b=false:=by rw[h,db]
theorem GU{f:α->ByteArray}{l:List α}{x:ByteArray}{y:α}{a:Nat}(hs:gL f l)(G:∀(k:Nat) z,k<a->l[k]?=some z->kT (f z) x=true)(D:l[a]?=some y)(I:kT (f y) x=false)(J:¬f y=x):tD f l x=false:=by
 rw[cr];intro L;obtain⟨z,N,m⟩:=gO.1 L;obtain⟨k,c⟩:=cf.1 N;rcases vp k a with h | h | h
 ·have:=G k z h c;rw[oU m]at this;cases this
 ·subst h;rw[D]at c;injection c with c;exact J (by rw[c];exact m)
 have:=c_ hs D c h;rw[m,I]at this;cases this
theorem x6{f:α->ByteArray}{l:List α}{x:ByteArray}(hs:gL f l):sR f l x=if tD f l x=true then (sQ f l x:Int) else -1:=by
 split
 ·rename_i h;obtain⟨y,I,G⟩:=gO.1 h;obtain⟨k,D⟩:=cf.1 I;have SH:=(cL.1 D).1;have b:sQ f l x=k:=uF (by omega) (fun j z m c=>by rw[<-G];exact c_ hs c D m) (fun j z m c=>by
   by_cases e:j=k
   ·subst e;rw[D]at c;injection c with c;rw[<-c];exact oU G
   rw[cr];intro J;have:=iA (c_ hs D c (by omega)) J;rw[oU G]at this;cases this)
  rw[b,sR,uE (p:=fun y=>decide (f y=x)) D (by simp[G]) (fun z c=>?_)]
  ·omega
  obtain⟨j,m⟩:=cf.1 c;rw[cB]at m;split at m
  ·have:=c_ hs m D (by assumption);simp only[v7];intro e;rw[e,G,db]at this;cases this
  cases m
 rename_i h;exact lO fun z c=>by
  simp only[v7];exact fun e=>h (gO.2 ⟨z,c,e⟩)
theorem E6{f:α->ByteArray}{l:List α}{x:ByteArray}(h:0<=sR f l x):∃(k:Nat) (y:α),sR f l x=k/\l[k]?=some y/\f y=x:=by
 have key:∀(l:List α) (n:Nat),fV (fun y=>decide (f y=x)) l n=-1\/∃(k:Nat) (y:α),fV (fun y=>decide (f y=x)) l n=((n+k:Nat):Int)/\l[k]?=some y/\f y=x:=by
  intro l
  induction l with
  | nil=>exact fun n=>.inl rfl
  | cons a l ih=>
   intro n;rw[fV];cases h:decide (f a=x) with
   | true=>exact .inr ⟨0,a,rfl,rfl,by simpa using h⟩
   | false=>
    rcases ih (n+1) with e | ⟨k,y,c,m,z⟩
    ·exact .inl e
    exact .inr ⟨k+1,y,by simp only;rw[c];congr 1;omega,by simpa using m,z⟩
 rcases key l 0 with e | ⟨k,y,c,m,z⟩
 ·rw[sR,e]at h;omega
 exact⟨k,y,by rw[sR,c,cV],m,z⟩
theorem E7{f:α->ByteArray}{l:List α}{x:ByteArray}:decide (sR f l x<0)=!tD f l x:=by
 cases h:tD f l x with
 | true=>
  obtain⟨y,hy,Ic⟩:=gO.1 h;simp only[vy,v7];intro c;have e:(l.any fun y=>decide (f y=x))=true:=h;rw[<-sM _ l 0]at e;have e2:fV (fun y=>decide (f y=x)) l 0<0:=c;simp at e;omega
 | false=>
  simp only[Bool.not_false,dS];rw[sR,lO fun z m=>by
   simp only[v7];exact fun e=>by rw[gO.2 ⟨z,m,e⟩]at h;cases h]
  decide
theorem Bl(p:Lt)(s:ByteArray):aT C 63 [.pv (.ag (jK p)),.pv (str s)] (.p (i64 (Lib.compareBytes p.name.data.toList s.data.toList))) []:=by
 refine fW hC Tryz.func63 rfl (by kernel_rfl) fun _=>?_;refine⟨_,_,(x5 p.name s),?_,trivial⟩;rfl
theorem zX(l:List Lt)(x:ByteArray)(hs:gL Lt.name l)(hN:l.length<=1000000000):aT C 62 [.pv (.sl (l.map jK)),.pv (str x),.pv (Qw 63)] (.tu [i64 (sQ Lt.name l x),bool (tD Lt.name l x)]) []:=by
 refine fW hC Tryz.func62 rfl (by kernel_rfl) fun _=>?_;have U:=cH l jK;refine d_ (fun p:Nat×Nat=>p.1<=p.2/\p.2<=l.length/\(∀(k:Nat) y,k<p.1->l[k]?=some y->kT (Lt.name y) x=true)/\(∀(k:Nat) y,p.2<=k->l[k]?=some y->kT (Lt.name y) x=false)) (fun p=>[(0,.p (.sl (l.map jK))),(1,.p (str x)),(2,.p (Qw 63)),(8,.p (i64 l.length)),(9,.p (i64 p.1)),(10,.p (i64 p.2))]) (fun _=>[]) (fun p=>p.2-p.1) (0,l.length) _ (aY.refl _ _) ⟨bd _,aC _,fun k y h=>by omega,fun k y O c=>by have:=(cL.1 c).1;simp only at O;omega⟩ ⟨rfl,rfl,rfl,kv (by rw[U]),rfl,kv (by rw[U]),trivial⟩ trivial fun ⟨a,b⟩ hi t h=>?_;obtain⟨q1,R,J,N⟩:=hi;simp only at q1 R J N;apply iW<;>intro O<;>try simp only[zB]at O
 ·have G:=E5 (a:=a) (b:=b) (by omega);obtain⟨y,D⟩:=a8 (l:=l) (i:=(a+b) / 2) (by omega);refine⟨⟨by simp only;omega,by simp only;omega⟩,⟨by decide,by decide⟩,⟨by simp only;rw[G];omega,by simp only;rw[G];omega⟩,(jK y),(idx G D),_,_,(Bl y x),?_⟩;have V:=JH y.name x;apply iW<;>intro c
  ·have c:kT (Lt.name y) x=true:=by rw[<-V];exact wk c
   refine⟨⟨by simp only;rw[G];omega,by simp only;rw[G];omega⟩,((a+b) / 2+1,b),_,aY.refl _ _,⟨by simp only;omega,R,fun k z I m=>?_,N⟩,by simp only;omega,⟨rfl,rfl,rfl,rfl,kv (by simp only;rw[G];omega),Z,Y⟩,trivial⟩;by_cases e:k=(a+b) / 2
   ·subst e;rw[D]at m;injection m with m;subst m;exact c
   exact iA (c_ hs m D (by simp only at I;omega)) c
  have c:kT (Lt.name y) x=false:=by rw[<-V];exact decide_eq_false c
  refine⟨(a,(a+b) / 2),_,aY.refl _ _,⟨by simp only;omega,by simp only;omega,J,fun k z I m=>?_⟩,by simp only;omega,⟨rfl,rfl,rfl,rfl,rfl,kv G,trivial⟩,trivial⟩;by_cases e:k=(a+b) / 2
  ·subst e;rw[D]at m;injection m with m;subst m;exact c
  rw[cr];intro dv;rw[iA (c_ hs D m (by simp only at I;omega)) dv]at c;cases c
 have e:a=b:=by omega
 subst e;have hb:=uF R J N;apply iW<;>intro c<;>try simp only[zB]at c
 ·obtain⟨y,D⟩:=a8 (l:=l) (i:=a) (by omega);refine⟨(jK y),(idx rfl D),_,_,(Bl y x),?_,trivial⟩;have W:=cmp_eq y.name x;have L:tD Lt.name l x=decide (Lib.compareBytes y.name.data.toList x.data.toList=0):=by
   by_cases e:y.name=x
   ·rw[wk (W.2 e)];exact gO.2 ⟨y,aj D,e⟩
   rw[decide_eq_false (fun h=>e (W.1 h))];exact GU hs J D (N a y (aC _) D) e
  rw[hb,L];rfl
 refine⟨?_,trivial⟩;have L:tD Lt.name l x=false:=by
  rw[cr];intro L;obtain⟨z,m,Mr⟩:=gO.1 L;obtain⟨k,I⟩:=cf.1 m;have:=J k z (by have:=(cL.1 I).1;omega) I;rw[oU Mr]at this;cases this
 rw[hb,L];rfl
theorem x7(l:List Lt)(x:ByteArray)(hs:gL Lt.name l)(m:l.length<=1000000000):aT C 37 [.pv (.sl (l.map jK)),.pv (str x)] (.p (i64 (sR Lt.name l x))) []:=by
 refine fW hC Tryz.func37 rfl (by kernel_rfl) fun _=>?_;have hp:=x6 (x:=x) hs;refine⟨_,_,(zX l x hs m),iW ?_ ?_⟩<;>intro c<;>try simp only[zB]at c
 ·refine⟨?_,trivial⟩;rw[hp,af (by simp[c])];rfl
 refine⟨?_,trivial⟩;rw[hp,ae (by simpa using c)]
theorem GV{f:α->List PV}{n:Nat}{l:List α}(h:∀x,(f x).length=n):∀r∈l.map f,r.length=n:=fun r c=>by
 obtain⟨z,_,rfl⟩:=aR.1 c;exact h z
theorem JI(x y:UInt8):x<y\/x=y\/y<x:=by
 rcases vp x.toNat y.toNat with h | h | h
 ·exact .inl h
 ·exact .inr (.inl (UInt8.toNat_inj.1 h))
 exact .inr (.inr h)
theorem E8:∀a b:List UInt8,a<b\/a=b\/b<a
 | [],[]=>.inr (.inl rfl)
 | [],_::_=>.inl (by simp)
 | _::_,[]=>.inr (.inr (by simp))
 | x::a,y::b=>by
  rw[ry,ry,List.cons.injEq];rcases JI x y with h | h | h
  ·exact .inl (.inl h)
  ·subst h;rcases E8 a b with h | h | h
   ·exact .inl (.inr ⟨rfl,h⟩)
   ·exact .inr (.inl ⟨rfl,h⟩)
   exact .inr (.inr (.inr ⟨rfl,h⟩))
  exact .inr (.inr (.inl h))
theorem Bm(a b:ByteArray):kT a b=!(kT b a||decide (b=a)):=by
 rw[gU];simp only[vn,vo,v7];constructor
 ·intro h;refine⟨?_,fun e=>by rw[e,db]at h;cases h⟩;rw[cr];intro c;have:=iA h c;rw[db]at this;cases this
 rintro⟨m,c⟩;rcases E8 a.data.toList b.data.toList with h | h | h
 ·exact kC.2 h
 ·exfalso;apply c;obtain⟨⟨x⟩⟩:=a;obtain⟨⟨y⟩⟩:=b;simpa using h.symm
 rw[kC.2 h]at m;cases m
theorem Ms{a b:ByteArray}(h:Op.bytesLess a.data.toList b.data.toList=true\/a=b):¬kT b a=true:=by
 rw[Bm,(show (kT a b||decide (a=b))=true by simpa [kT] using h)];decide
theorem JJ{a b:ByteArray}(h:Op.bytesLess a.data.toList b.data.toList=false/\¬a=b):kT b a=true:=by
 rw[Bm,(show (kT a b||decide (a=b))=false by simpa [kT] using h)];rfl
def mW{α:Type}(f:List α->α->Int):List α->List α->Int
 | _,[]=>0
 | p,a::l=>if f p a=0 then mW f (p++[a]) l else f p a
theorem E9{f:List α->α->Int}{l:List α}{i:Nat}{a:α}(h:l[i]?=some a):mW f (l.take i) (l.drop i)=if f (l.take i) a=0 then mW f (l.take (i+1)) (l.drop (i+1)) else f (l.take i) a:=by
 have c:i<l.length:=ah h;rw[aM c]at h;injection h with h;have m:l.drop i=a::l.drop (i+1):=by rw[<-h];exact cn c
 have z:l.take (i+1)=l.take i++[a]:=by rw[<-h];exact bT (aM c)
 rw[m,mW,z]
theorem oV{f:List α->α->Int}{l:List α}{i:Nat}{a:α}{c:Int}(h:l[i]?=some a)(m:mW f [] l=mW f (l.take i) (l.drop i))(e:f (l.take i) a=c)(z:c≠0):mW f [] l=c:=by
 rw[m,E9 h,af (by rw[e];exact z),e]
theorem lP{f:List α->α->Int}{l:List α}{i:Nat}{a:α}(h:l[i]?=some a)(c:mW f [] l=mW f (l.take i) (l.drop i))(e:f (l.take i) a=0):mW f [] l=mW f (l.take (i+1)) (l.drop (i+1)):=by
 rw[c,E9 h,ae e]
theorem wx{f:List α->α->Int}{l:List α}{i:Nat}(h:l.length<=i)(c:mW f [] l=mW f (l.take i) (l.drop i)):mW f [] l=0:=by
 rw[c,List.drop_of_length_le h];rfl
def uG(s t:gI):Bool:=decide (t.name=s.name)
def eK(p:List gI)(s:gI):Int:=if jh s.name=true then (if p.any (uG s)=true then 7 else if pK s.minutes 1 10000=true/\pK s.machines 1 20=true/\pK s.back (-1) p.length=true then 0 else 1) else 5
def cz(l:List gI):Int:=if l.length=0 then 9 else if 30<l.length then 2 else mW eK [] l
def fq(p:List Lt)(x:Lt):Int:=if jh x.name=true then (if pK x.panels 1 200=true/\pK x.at_ 0 1000000000=true then (match p.getLast? with | some y=>if kT y.name x.name=true then 0 else 8 | none=>0) else 1) else 5
def cA(l:List Lt):Int:=if 100<l.length then 2 else mW fq [] l
def CJ(f:Fl):List PV:=[str f.lot,i64 f.panel,i64 f.step,i64 f.visit]
def sT(a b:Fl):Bool:=decide (b.lot=a.lot/\b.panel=a.panel/\b.step=a.step/\b.visit=a.visit)
def pQ(l:List Lt)(f:Fl):Bool:=l.any fun x=>decide (x.name=f.lot)&&pK f.panel 0 (x.panels-1)
def fX(s:List gI)(l:List Lt)(p:List Fl)(f:Fl):Int:=if pQ l f=true/\pK f.step 0 (s.length-1)=true then (if pK f.visit 1 6=true then (if p.any (sT f)=true then 7 else 0) else 1) else 9
def de(s:List gI)(l:List Lt)(b:List Fl):Int:=if 2000<b.length then 2 else mW (fX s l) [] b
theorem JK(s t:gI):aT C 27 [.pv (.ag (gq t)),.pv (.ip (gq s))] (.p (bool (uG s t))) []:=by
 refine fW hC Tryz.func27 rfl (by kernel_rfl) fun _=>?_;refine⟨?_,trivial⟩;rfl
theorem zY(l:List gI)(hN:l.length<=1000000)(s:gI):aT C 53 [.pv (.sl (l.map gq)),.pv (.fn 27 [.ip (gq s)])] (.p (i64 (fV (uG s) l 0))) []:=by
 refine fW hC Tryz.func53 rfl (by kernel_rfl) fun _=>?_;have I:=cH l gq;refine d_ (fun i:Nat=>i<=l.length/\∀z∈l.take i,uG s z=false) (fun i=>[(0,.p (.sl (l.map gq))),(1,.p (.fn 27 [.ip (gq s)])),(7,.p (i64 (l.map gq).length)),(8,.p (i64 i))]) (fun _=>[]) (fun i=>l.length-i) 0 _ (aY.refl _ _) ⟨bd _,by simp⟩ ⟨Z,Z,Z,Z,Y⟩ trivial fun i m t h=>?_;apply iW<;>intro D<;>try simp only[zB]at D
 ·rw[I]at D;obtain⟨r,G⟩:=a8 (l:=l) (i:=i) (by omega);refine⟨(gq r),(idx rfl G),_,_,(JK s r),iW ?_ ?_⟩<;>intro c<;>try simp only[zB]at c
  ·refine⟨?_,trivial⟩;rw[uE G c m.2,cV]
  exact⟨wO (by omega),(i+1),_,aY.refl _ _,⟨by omega,GS G c m.2⟩,by omega,⟨Z,Z,Z,Z,Y⟩,trivial⟩
 rw[I]at D;refine⟨?_,trivial⟩;have c:=m.2;rw[qU (by omega)]at c;rw[lO c];rfl
theorem tE(l:List gI)(c:l.length<=1000000)(s:gI):aT C 26 [.pv (.sl (l.map gq)),.pv (.fn 27 [.ip (gq s)])] (.p (bool (l.any (uG s)))) []:=by
 refine fW hC Tryz.func26 rfl (by kernel_rfl) fun _=>?_;refine⟨_,_,(zY l c s),?_,trivial⟩;rw[<-sM _ l 0];rfl
theorem Ie{s:ByteArray}(h:s.size<4294967281):s.size<=9223372036854775807:=by omega
theorem ft(l:List gI)(hS:∀s∈l,s.name.size<4294967281)(hN:l.length<=140737488355328):aT C 8 [.pv (.sl (l.map gq))] (.p (i64 (cz l))) []:=by
 refine fW hC Tryz.func8 rfl (by kernel_rfl) fun _=>?_;have U:=cH l gq;apply iW<;>intro V<;>try simp only[zB]at V
 ·refine⟨?_,trivial⟩;rw[cz,ae (by omega)];rfl
 apply iW<;>intro W<;>try simp only[zB]at W
 ·refine⟨?_,trivial⟩;rw[cz,af (by omega),ae (by omega)];rfl
 rw[cz,af (by omega),af (by omega)];refine d_ (fun i:Nat=>i<=l.length/\mW eK [] l=mW eK (l.take i) (l.drop i)) (fun i=>[(0,.p (.sl (l.map gq))),(11,.p (.sl (l.map gq))),(12,.p (i64 l.length)),(13,.p (i64 i))]) (fun _=>[]) (fun i=>l.length-i) 0 _ (aY.refl _ _) ⟨bd _,rfl⟩ ⟨rfl,rfl,aa (fun n:Nat=>AV.p (i64 n)) U,Z,Y⟩ trivial fun i m t h=>?_;apply iW<;>intro h1<;>try simp only[zB]at h1
 ·obtain⟨s,hs⟩:=a8 (l:=l) (i:=i) (by omega);have lt:(l.take i).length=i:=by rw[cu];omega
  have bad:∀c:Int,eK (l.take i) s=c->c≠0->mW eK [] l=c:=fun c=>oV hs m.2;refine⟨(gq s),(idx rfl hs),_,_,(ir s.name (Ie (hS s (aj hs)))),iW ?_ ?_⟩<;>intro z<;>try simp only[zB]at z
  ·refine⟨?_,trivial⟩;rw[bad 5 (by rw[eK,af (by simp[z])]) (by decide)];rfl
  have D:jh s.name=true:=by simpa using z
  have et:(l.map gq).take i=(l.take i).map gq:=wy.symm;refine⟨⟨by omega,by omega,by omega,GV fun _=>rfl⟩,?_⟩;have J:=tE (l.take i) (by omega) s;rw[<-et]at J;refine⟨_,_,J,iW ?_ ?_⟩<;>intro G<;>try simp only[zB]at G
  ·refine⟨?_,trivial⟩;rw[bad 7 (by rw[eK,ae D,ae (by simpa using G)]) (by decide)];rfl
  have L:¬((l.take i).any (uG s)=true):=by simpa using G
  have I:¬(pK s.minutes 1 10000=true/\pK s.machines 1 20=true/\pK s.back (-1) i=true)->mW eK [] l=1:=fun h=>bad 1 (by rw[eK,ae D,af L,lt,af h]) (by decide);refine⟨_,_,(cI s.minutes 1 10000),iW ?_ ?_⟩<;>intro N<;>try simp only[zB]at N
  ·refine⟨?_,trivial⟩;rw[I (fun h=>by simp_all)];rfl
  refine⟨_,_,(cI s.machines 1 20),iW ?_ ?_⟩<;>intro O<;>try simp only[zB]at O
  ·refine⟨?_,trivial⟩;rw[I (fun h=>by simp_all)];rfl
  refine⟨_,_,(cI s.back (-1) i),iW ?_ ?_⟩<;>intro R<;>try simp only[zB]at R
  ·refine⟨?_,trivial⟩;rw[I (fun h=>by simp_all)];rfl
  exact⟨wO (by omega),(i+1),_,aY.refl _ _,⟨by omega,lP hs m.2 (by rw[eK,ae D,af L,lt,ae ⟨by simpa using N,by simpa using O,by simpa using R⟩])⟩,by omega,⟨Z,Z,Z,Z,Y⟩,trivial⟩
 refine⟨?_,trivial⟩;rw[wx (by omega) m.2];rfl
theorem Bn{l:List α}{i:Nat}{y:α}(h0:0<i)(h:l[i-1]?=some y):(l.take i).getLast?=some y:=by
 have e:l.take i=l.take (i-1)++[y]:=by
  have:=bT h
  rwa [show i-1+1=i by omega]at this
 rw[e];simp
theorem gS(l:List Lt)(hS:∀s∈l,s.name.size<4294967281)(hN:l.length<=140737488355328):aT C 10 [.pv (.sl (l.map jK))] (.p (i64 (cA l))) []:=by
 refine fW hC Tryz.func10 rfl (by kernel_rfl) fun _=>?_;have R:=cH l jK;apply iW<;>intro U<;>try simp only[zB]at U
 ·refine⟨?_,trivial⟩;rw[cA,ae (by omega)];rfl
 rw[cA,af (by omega)];refine d_ (fun i:Nat=>i<=l.length/\mW fq [] l=mW fq (l.take i) (l.drop i)) (fun i=>[(0,.p (.sl (l.map jK))),(8,.p (.sl (l.map jK))),(9,.p (i64 l.length)),(10,.p (i64 i))]) (fun _=>[]) (fun i=>l.length-i) 0 _ (aY.refl _ _) ⟨bd _,rfl⟩ ⟨rfl,rfl,aa (fun n:Nat=>AV.p (i64 n)) R,Z,Y⟩ trivial fun i m t h=>?_;apply iW<;>intro V<;>try simp only[zB]at V
 ·obtain⟨s,hs⟩:=a8 (l:=l) (i:=i) (by omega);have bad:∀c:Int,fq (l.take i) s=c->c≠0->mW fq [] l=c:=fun c=>oV hs m.2;refine⟨(jK s),(idx rfl hs),_,_,(ir s.name (Ie (hS s (aj hs)))),iW ?_ ?_⟩<;>intro D<;>try simp only[zB]at D
  ·refine⟨?_,trivial⟩;rw[bad 5 (by rw[fq,af (by simp[D])]) (by decide)];rfl
  have z:jh s.name=true:=by simpa using D
  have J:¬(pK s.panels 1 200=true/\pK s.at_ 0 1000000000=true)->mW fq [] l=1:=fun h=>bad 1 (by rw[fq,ae z,af h]) (by decide);refine⟨_,_,(cI s.panels 1 200),iW ?_ ?_⟩<;>intro L<;>try simp only[zB]at L
  ·refine⟨?_,trivial⟩;rw[J (fun h=>by simp_all)];rfl
  refine⟨_,_,(cI s.at_ 0 1000000000),iW ?_ ?_⟩<;>intro N<;>try simp only[zB]at N
  ·refine⟨?_,trivial⟩;rw[J (fun h=>by simp_all)];rfl
  have G:pK s.panels 1 200=true/\pK s.at_ 0 1000000000=true:=⟨by simpa using L,by simpa using N⟩;apply iW<;>intro W<;>try simp only[zB]at W
  ·obtain⟨y,O⟩:=a8 (l:=l) (i:=i-1) (by omega);have hl:=Bn (by omega) O;refine⟨wO (by omega),(jK y),(idx (show (i:Int)-1=((i-1:Nat):Int) by omega) O),iW ?_ ?_⟩<;>intro I<;>try simp only[zB]at I
   ·refine⟨?_,trivial⟩;rw[bad 8 (by rw[fq,ae z,ae G,hl];exact af (Ms (by simpa using I))) (by decide)];rfl
   exact⟨wO (by omega),(i+1),_,aY.refl _ _,⟨by omega,lP hs m.2 (by rw[fq,ae z,ae G,hl];exact ae (JJ (by simpa using I)))⟩,by omega,⟨Z,Z,Z,Z,Y⟩,trivial⟩
  have h0:i=0:=by omega
  exact⟨wO (by omega),(i+1),_,aY.refl _ _,⟨by omega,lP hs m.2 (by rw[fq,ae z,ae G,h0];rfl)⟩,by omega,⟨Z,Z,Z,Z,Y⟩,trivial⟩
 refine⟨?_,trivial⟩;rw[wx (by omega) m.2];rfl
end M
end Go.Proofs.YtedjhhieekileaaGreatDoor
