/- Part 7 of the proof of HouseFlowsFollowSteps. -/
import Derived.Test.YtedjhhieekileaaGreatDoorF06
import Derived.Lib.SplitLaws
import Derived.Lib.AppendIntMem
import Derived.Lib.SmallJoins
set_option linter.unusedVariables false
set_option linter.unusedSimpArgs false
set_option maxRecDepth 100000
set_option maxHeartbeats 8000000
namespace Go
abbrev Vc:=@List.getLast?_eq_getElem?
abbrev Ue:=@List.map_replicate
abbrev Vd:=@Int.mul_le_mul_of_nonneg_left
abbrev TB:=@ByteArray.size_append
abbrev Ve:=@List.getElem?_eq_none_iff
abbrev TO:=@List.drop_eq_nil_of_le
end Go
namespace Go.Proofs.YtedjhhieekileaaGreatDoor
namespace M
open Go.AM Go.RowKit
theorem SZ.ind{st:Stat}(P:a_->Prop)(hf:∀x y,SZ st x->P x->M.eI st x=some y->P y)(hs:∀i x y,SZ st x->P x->M.du st i x=some y->P y)(hn:∀x a,SZ st x->P x->x.now<a->(∀w∈x.ends,a<=w.1)->P { x with now:=a }){x:a_}(h:SZ st x)(hx:P x):P (M.iV st x):=by
 have fin:∀(n:Nat) (x:a_),SZ st x->P x->P (kz n st x):=by
  intro n
  induction n with
  | zero=>intro x _ hp;exact hp
  | succ n ih=>
   intro x h hp;unfold kz;split
   ·rename_i y hy;exact ih y (h.eI hy).1 (hf x y h hp hy)
   exact hp
 have Sa:∀(i n:Nat) (x:a_),SZ st x->P x->SZ st (M.eo n st i x)/\P (M.eo n st i x):=by
  intro i n
  induction n with
  | zero=>intro x h hp;exact⟨h,hp⟩
  | succ n ih=>
   intro x h hp;unfold M.eo;split
   ·rename_i y hy;exact ih y (h.du hy).1 (hs i x y h hp hy)
   exact⟨h,hp⟩
 have all:∀(l:List Nat) (x:a_),SZ st x->P x->P (l.foldl (fun x i=>dE st i x) x):=by
  intro l
  induction l with
  | nil=>intro x _ hp;exact hp
  | cons i l ih=>
   intro x h hp;rw[uY];obtain⟨a,b⟩:=Sa i (bF x i).length x h hp;exact ih _ a b
 have run:∀(n:Nat) (x:a_),SZ st x->P x->P (M.iU n st x):=by
  intro n
  induction n with
  | zero=>intro x _ hp;exact hp
  | succ n ih=>
   intro x h hp;obtain⟨f1,f2,f3⟩:=h.fy;have p1:P (bV st (M.fy st x)):=all _ _ f1 (fin _ x h hp);unfold M.iU;split
   ·rename_i a ha;obtain⟨s1,s2,s3,s4⟩:=SZ.lN (List.range st.steps.length) f1;obtain⟨n1,n2,_⟩:=Bj (s4 (xY f1 f3)) s1.eh ha;exact ih _ (f1.next f3 ha).1 (hn _ a s1 p1 n1 n2)
   exact p1
 exact run _ x h hx
structure Fk(st:Stat)(x y:a_)(w:Wt)(i k:Nat)(j:lH)(s:gI)(b:List Bool)(lt:Lt)(v:Int):Prop where
 he:∃W,x.ends=w::W
 hw:w=(x.now,(i:Int),(k:Int))
 hg:∃r g,st.gs[i]?=some r/\r[k]?=some g
 hj:x.jobs[bU st w]?=some j
 hs:st.steps[j.step]?=some s
 hb:x.busy[j.step]?=some b
 hm:j.machine<b.length
 hl:st.lots[i]?=some lt
 hv:j.visits[j.step]?=some v
 hy:y=mM st { x with ends:=dD x.ends } w k (bU st w) j s b v lt.name (tC st ⟨lt.name,k,j.step,v+1⟩)
theorem SZ.MD{st:Stat}{x y:a_}(h:SZ st x)(hy:M.eI st x=some y):∃w i k j s b lt v,Fk st x y w i k j s b lt v:=by
 obtain⟨w,W,he,hw⟩:∃w W,x.ends=w::W/\w.1=x.now:=by
  unfold M.eI at hy;split at hy
  ·cases hy
  rename_i w W he;split at hy
  ·rename_i hw;exact⟨w,W,he,hw⟩
  cases hy
 obtain⟨i,k,r,g,j,s,b,lt,v,e0,h3,h4,hj,hs,hb,hm,dv,hv,Ks,H_,R4,hf⟩:=h.fin he hw;rw[hf]at hy;injection hy with hy;have hp:bU st w=pos st.gs i k:=by rw[bU,e0];simp
 rw[<-hp]at hj hy;exact⟨w,i,k,j,s,b,lt,v,⟨W,he⟩,e0,⟨r,g,h3,h4⟩,hj,hs,hb,hm,dv,hv,hy.symm⟩
variable {k:Nat} {j:lH}
theorem Fk.parts{st:Stat}{x y:a_}{w:Wt}{i:Nat}{s:gI}{b:List Bool}{lt:Lt}{v:Int}(h:Fk st x y w i k j s b lt v):
  y.ends=dD x.ends/\y.busy=x.busy.set j.step (b.set j.machine false)/\y.now=x.now/\y.done=x.done++[S9 x k j lt.name (tC st ⟨lt.name,k,j.step,v+1⟩)]/\∃j',y.jobs=x.jobs.set (bU st w) j'/\j'.made.lot=j.made.lot/\j'.made.panel=j.made.panel:=by
 obtain⟨_,_,_,_,_,_,_,_,_,hy⟩:=h;subst hy;unfold mM;simp only;split
 ·exact⟨rfl,rfl,rfl,rfl,_,rfl,rfl,rfl⟩
 split
 ·exact⟨rfl,rfl,rfl,rfl,_,rfl,rfl,rfl⟩
 exact⟨rfl,rfl,rfl,rfl,_,rfl,rfl,rfl⟩
theorem SZ.alone{st:Stat}{x:a_}(h:SZ st x){w:Wt}{W:List Wt}(he:x.ends=w::W):∀u∈dD x.ends,u.2≠w.2:=by
 intro u hu e;have a0:=h.un w.2;have a2:bK (fun u=>if u.2=w.2 then 1 else 0) (dD x.ends)+(if w.2=w.2 then 1 else 0)=bK (fun u=>if u.2=w.2 then 1 else 0) x.ends:=by rw[he];exact oS w W
 simp only[ae]at a2;unfold qE at a0;have b1:=jO (f:=fun u=>if u.2=w.2 then 1 else 0) hu;simp only[ae e]at b1;omega
theorem SZ.JV{st:Stat}{x:a_}(h:SZ st x){i:Nat}{a:Wt}{q:List Wt}(hq:x.queues[i]?=some q)(ha:a∈q):∀u∈x.ends,u.2≠a.2:=by
 intro u hu e;have a0:=h.un a.2;have b0:=jO (f:=fun u=>if u.2=a.2 then 1 else 0) hu;have b1:=jO (f:=fun u=>if u.2=a.2 then 1 else 0) ha;have b2:=sL (f:=fun u=>if u.2=a.2 then 1 else 0) (aj hq);simp only[ae e,ae]at b0 b1;unfold qE at a0;omega
def sZ(y x:dQ):Prop:=y.till<=x.from_\/x.till<=y.from_\/¬(x.step=y.step/\x.machine=y.machine\/x.lot=y.lot/\x.panel=y.panel)
def Ad(j:lH):ByteArray×Int:=(j.made.lot,j.made.panel)
structure kR(st:Stat)(K:List (ByteArray×Int))(x:a_):Prop where
 kj:x.jobs.map Ad=K
 bl:∀(i:Nat) b s,x.busy[i]?=some b->st.steps[i]?=some s->b.length=s.machines.toNat
 we:∀w∈x.ends,∃j s b,x.jobs[bU st w]?=some j/\st.steps[j.step]?=some s/\x.busy[j.step]?=some b/\b[j.machine]?=some true/\w.1=j.from_+s.minutes/\0<=j.from_/\j.from_<=x.now
 ds:∀w∈x.ends,∀u∈x.ends,∀j j',x.jobs[bU st w]?=some j->x.jobs[bU st u]?=some j'->j.step=j'.step->j.machine=j'.machine->w.2=u.2
 d1:∀d∈x.done,∃(k m:Nat) (s:gI),d.step=k/\st.steps[k]?=some s/\d.machine=m/\m<s.machines.toNat/\d.till=d.from_+s.minutes/\d.till<=x.now/\0<=d.from_
 dw:∀d∈x.done,∀w∈x.ends,∀j,x.jobs[bU st w]?=some j->(d.step=j.step/\d.machine=j.machine\/d.lot=j.made.lot/\d.panel=j.made.panel)->d.till<=j.from_
 dp:x.done.Pairwise sZ
structure Ae(st:Stat)(K:List (ByteArray×Int)):Prop where
 at_:∀i k r g lt,st.gs[i]?=some r->r[k]?=some g->st.lots[i]?=some lt->K[pos st.gs i k]?=some (lt.name,(k:Int))
 inj:∀w u p,yq st w->yq st u->K[bU st w]?=some p->K[bU st u]?=some p->w.2=u.2
theorem kR.fin{st:Stat}{K:List (ByteArray×Int)}(hK:Ae st K){x y:a_}(h:SZ st x)(a:kR st K x)(hy:M.eI st x=some y):kR st K y:=by
 obtain⟨w,i,k,j,s,b,lt,v,E⟩:=h.MD hy;obtain⟨y1,y2,y3,y4,j',y5,y6,y7⟩:=E.parts;obtain⟨⟨W,he⟩,hw,⟨r,g,On,xd⟩,hj,hs,hb,hm,hl,hv,_⟩:=E;have E4:w∈x.ends:=by rw[he];exact dJ
 have hok:=(h.ew w E4).1;have Pt:=h.alone he;have iN:∀u∈y.ends,u∈x.ends/\u.2≠w.2:=fun u hu=>by rw[y1]at hu;exact⟨lK hu,Pt u hu⟩
 have Bu:∀u∈y.ends,y.jobs[bU st u]?=x.jobs[bU st u]?:=fun u hu=>by
  obtain⟨h1,h2⟩:=iN u hu;rw[y5,gK hj,af fun e=>h2 ((h.ew u h1).1.inj hok e)]
 have DM:K[bU st w]?=some (j.made.lot,j.made.panel):=by rw[<-a.kj,ao,hj];rfl
 have ME:(j.made.lot,j.made.panel)=(lt.name,(k:Int)):=by
  have:=hK.at_ i k r g lt On xd hl;have hp:bU st w=pos st.gs i k:=by rw[bU,hw];simp
  rw[<-hp,DM]at this;injection this
 injection ME with MF MG;obtain⟨j0,s0,b0,e1,e2,e3,e4,e5,e6,e7⟩:=a.we w E4;rw[hj]at e1;injection e1 with e1;subst e1;rw[hs]at e2;injection e2 with e2;subst e2;have FB:w.1=x.now:=by rw[hw]
 refine⟨?_,fun n c t hc ht=>?_,fun u hu=>?_,fun u hu z hz p q hp hq h1 h2=>?_,fun d hd=>?_,fun d hd u hu p hp hc=>?_,?_⟩
 ·rw[y5,rA,show Ad j'=Ad j by rw[Ad,Ad,y6,y7],<-a.kj];exact dP (by rw[ao,hj];rfl)
 ·rw[y2,eR hb]at hc;split at hc
  ·rename_i e;injection hc with hc;subst hc;rw[aF];exact a.bl n b t (by rw[e];exact hb) ht
  exact a.bl n c t hc ht
 ·obtain⟨u1,u2⟩:=iN u hu;obtain⟨p,t,c,c1,c2,c3,c4,c5,c6,c7⟩:=a.we u u1;rw[Bu u hu,y2,y3];by_cases e:p.step=j.step
  ·rw[e,hb]at c3;injection c3 with c3;subst c3;refine⟨p,t,_,c1,c2,by rw[eR hb,ae e],?_,c5,c6,c7⟩;have bO:p.machine≠j.machine:=fun em=>u2 (a.ds u u1 w E4 p j c1 hj e em);rw[bw (fun e=>bO e.symm)];exact c4
  exact⟨p,t,c,c1,c2,by rw[eR hb,af e];exact c3,c4,c5,c6,c7⟩
 ·rw[Bu u hu]at hp;rw[Bu z hz]at hq;exact a.ds u (iN u hu).1 z (iN z hz).1 p q hp hq h1 h2
 ·rw[y4,cX,n9]at hd;rw[y3];rcases hd with hd | rfl
  ·exact a.d1 d hd
  exact⟨j.step,j.machine,s,rfl,hs,rfl,by rw[<-a.bl _ b s hb hs];exact hm,by show x.now=j.from_+s.minutes;omega,TN _,e6⟩
 ·obtain⟨u1,u2⟩:=iN u hu;rw[Bu u hu]at hp;rw[y4,cX,n9]at hd;rcases hd with hd | rfl
  ·exact a.dw d hd u u1 p hp hc
  exfalso;rcases hc with⟨c1,c2⟩ | ⟨c1,c2⟩
  ·have c1:(j.step:Int)=p.step:=c1;have c2:(j.machine:Int)=p.machine:=c2;exact u2 (a.ds u u1 w E4 p j hp hj (by omega) (by omega))
  have c1:lt.name=p.made.lot:=c1;have c2:(k:Int)=p.made.panel:=c2;refine u2 (hK.inj u w (lt.name,(k:Int)) (h.ew u u1).1 hok ?_ ?_)
  ·rw[<-a.kj,ao,hp,c1,c2];rfl
  rw[DM,MF,MG]
 rw[y4,jW];refine⟨a.dp,qQ ..,fun d hd e j6=>?_⟩;rw[n9]at j6;subst j6;by_cases hc:(j.step:Int)=d.step/\(j.machine:Int)=d.machine\/lt.name=d.lot/\(k:Int)=d.panel
 ·left;refine a.dw d hd w E4 j hj ?_;rcases hc with⟨c1,c2⟩ | ⟨c1,c2⟩
  ·exact .inl ⟨c1.symm,c2.symm⟩
  exact .inr ⟨by rw[MF,c1],by rw[MG,c2]⟩
 exact .inr (.inr hc)
theorem Hc{b:List Bool}(h:dR b<b.length):b[dR b]?=some false:=by
 rw[aM h];have:=List.findIdx_getElem (p:=fun x=>!x) (w:=h);have e:b[dR b]=false:=by
  show b[List.findIdx (fun x=>!x) b]=false;simpa using this
 rw[e]
theorem kR.start{st:Stat}{K:List (ByteArray×Int)}{i:Nat}{x y:a_}(h:SZ st x)(a:kR st K x)(hy:M.du st i x=some y):kR st K y:=by
 unfold M.du at hy;split at hy
 ·rename_i s u Q b h1 h2 h3;split at hy
  ·rename_i hc;split at hy
   ·rename_i j hj;injection hy with hy;have Pt:=h.JV h2 dJ;have dq:=aj h2;have hok:=h.sv.qw _ dq u dJ;have KF:j.step=i:=by
     obtain⟨j2,c1,c2⟩:=h.qs i _ u h2 dJ;rw[hj]at c1;injection c1 with c1;rw[c1];exact c2
    have y1:y.jobs=x.jobs.set (bU st u) { j with machine:=dR b,from_:=x.now }:=by rw[<-hy];rfl
    have y2:y.ends=eH x.ends (x.now+s.minutes,u.2.1,u.2.2):=by rw[<-hy];rfl
    have y3:y.busy=x.busy.set i (b.set (dR b) true):=by rw[<-hy];rfl
    have y4:y.now=x.now:=by rw[<-hy];rfl
    have y5:y.done=x.done:=by rw[<-hy];rfl
    have eu:((x.now+s.minutes,u.2.1,u.2.2):Wt).2=u.2:=rfl;have iN:∀w∈y.ends,w∈x.ends\/w=(x.now+s.minutes,u.2.1,u.2.2):=fun w hw=>by rw[y2]at hw;exact Th hw
    have old:∀w∈x.ends,y.jobs[bU st w]?=x.jobs[bU st w]?:=fun w hw=>by
     rw[y1,gK hj,af fun e=>Pt w hw ((h.ew w hw).1.inj hok e)]
    have new:y.jobs[bU st (x.now+s.minutes,u.2.1,u.2.2)]?=some { j with machine:=dR b,from_:=x.now }:=by
     rw[wv eu,y1,gK hj,ae rfl]
    have Sb:=Hc hc.2;have tZ:∀w∈x.ends,∀p,x.jobs[bU st w]?=some p->p.step=i->p.machine≠dR b:=fun w hw p hp e em=>by
     obtain⟨p2,t,c,c1,c2,c3,c4,_⟩:=a.we w hw;rw[hp]at c1;injection c1 with c1;subst c1;rw[e,h3]at c3;injection c3 with c3;subst c3;rw[em,Sb]at c4;cases c4
    refine⟨?_,fun n c t Ft ht=>?_,fun w hw=>?_,fun w hw z hz p q hp hq g1 g2=>?_,fun d hd=>?_,fun d hd w hw p hp Ft=>?_,by rw[y5];exact a.dp⟩
    ·rw[y1,rA,<-a.kj];exact dP (by rw[ao,hj];rfl)
    ·rw[y3,eR h3]at Ft;split at Ft
     ·rename_i e;injection Ft with Ft;subst Ft;rw[aF];exact a.bl n b t (by rw[e];exact h3) ht
     exact a.bl n c t Ft ht
    ·rw[y4];rcases iN w hw with hw | rfl
     ·obtain⟨p,t,c,c1,c2,c3,c4,c5,c6,c7⟩:=a.we w hw;rw[old w hw,y3];by_cases e:p.step=i
      ·rw[e,h3]at c3;injection c3 with c3;subst c3;refine⟨p,t,_,c1,c2,by rw[eR h3,ae e],?_,c5,c6,c7⟩;rw[bw (fun em=>tZ w hw p c1 e em.symm)];exact c4
      exact⟨p,t,c,c1,c2,by rw[eR h3,af e];exact c3,c4,c5,c6,c7⟩
     rw[new,y3];refine⟨_,s,b.set (dR b) true,rfl,by show st.steps[j.step]?=_;rw[KF];exact h1,by show (x.busy.set i _)[j.step]?=_;rw[KF,eR h3,ae rfl],?_,rfl,h.sv.now.1,TN _⟩;show (b.set (dR b) true)[dR b]?=some true;rw[aP hc.2]
    ·rcases iN w hw with hw | rfl
     ·rw[old w hw]at hp;rcases iN z hz with hz | rfl
      ·rw[old z hz]at hq;exact a.ds w hw z hz p q hp hq g1 g2
      rw[new]at hq;injection hq with hq;subst hq;exact absurd g2 (tZ w hw p hp (g1.trans KF))
     rw[new]at hp;injection hp with hp;subst hp;rcases iN z hz with hz | rfl
     ·rw[old z hz]at hq;exact absurd g2.symm (tZ z hz q hq (g1.symm.trans KF))
     rfl
    ·rw[y5]at hd;rw[y4];exact a.d1 d hd
    rw[y5]at hd;rcases iN w hw with hw | rfl
    ·rw[old w hw]at hp;exact a.dw d hd w hw p hp Ft
    rw[new]at hp;injection hp with hp;subst hp;obtain⟨_,_,_,_,_,_,_,_,d6,_⟩:=a.d1 d hd;exact d6
   cases hy
  cases hy
 cases hy
theorem kR.now{st:Stat}{K:List (ByteArray×Int)}{x:a_}(a:kR st K x){t:Int}(ht:x.now<t):kR st K { x with now:=t }:=by
 refine⟨a.kj,a.bl,fun w hw=>?_,a.ds,fun d hd=>?_,a.dw,a.dp⟩
 ·obtain⟨j,s,b,c1,c2,c3,c4,c5,c6,c7⟩:=a.we w hw;exact⟨j,s,b,c1,c2,c3,c4,c5,c6,by show j.from_<=t;omega⟩
 obtain⟨k,m,s,c1,c2,c3,c4,c5,c6,c7⟩:=a.d1 d hd;exact⟨k,m,s,c1,c2,c3,c4,c5,by show d.till<=t;omega,c7⟩
theorem kR.run{st:Stat}{K:List (ByteArray×Int)}(hK:Ae st K){x:a_}(h:SZ st x)(a:kR st K x):kR st K (M.iV st x):=
 h.ind (kR st K) (fun _ _ h a=>a.fin hK h) (fun _ _ _ h a=>a.start h) (fun _ _ _ a ht _=>a.now ht) a
def qz(x:Lt):List (ByteArray×Int):=(List.range x.panels.toNat).map fun (k:Nat)=>(x.name,(k:Int))
def fZ(l:List Lt):List (ByteArray×Int):=l.flatMap qz
theorem CV(s:List gI)(x:Lt):(iP s x x.panels.toNat).map Ad=qz x:=by
 rw[iP,ig];rfl
theorem CW(s:List gI)(l:List Lt):(gh s l).map Ad=fZ l:=by
 rw[gh,List.map_flatMap,fZ];congr 1;funext x;exact CV s x
theorem CX(l:List Lt):(fZ l).length=(l.map fun x=>x.panels.toNat).sum:=by
 induction l with
 | nil=>rfl
 | cons x l ih=>
  simp only[fZ,ic,bZ,qO,S7]at ih ⊢;rw[ih];simp[qz]
theorem s5(x:Lt)(h:k<x.panels.toNat):(qz x)[k]?=some (x.name,(k:Int)):=by
 rw[qz,ao,fG h];rfl
theorem fC(x:Lt):(qz x).length=x.panels.toNat:=by simp[qz]
def Ii(l:List Lt):List (List Nat):=l.map fun x=>List.replicate x.panels.toNat 0
theorem yg:∀{l:List Lt} {i k:Nat} {x:Lt},l[i]?=some x->k<x.panels.toNat->(fZ l)[pos (Ii l) i k]?=some (x.name,(k:Int))
 | [],i,k,x,h,_=>by simp at h
 | a::l,0,k,x,h,hk=>by
  simp at h;subst h;simp only[pos,mC,Bw,List.sum_nil,cV,fZ,ic];rw[bQ (by rw[fC];exact hk)];exact s5 a hk
 | a::l,i+1,k,x,h,hk=>by
  have ih:=yg (l:=l) (i:=i) (k:=k) (by simpa using h) hk;rw[Ii,qO,lM,uX];simp only[fZ,ic]at ih ⊢;rw[bY (by rw[fC];omega),fC,qZ];exact ih
variable {l:List Lt}
theorem pX{p:ByteArray×Int}(h:p∈fZ l):∃x∈l,p.1=x.name/\0<=p.2/\p.2<x.panels:=by
 simp only[fZ,gG,qz,aV,dA]at h;obtain⟨x,hx,k,hk,rfl⟩:=h;exact⟨x,hx,rfl,by simp only;omega,by simp only;omega⟩
variable {s:List gI}
theorem vP{b:List Fl}(hl:gL Lt.name l):Ae (MC s l b) (fZ l):=by
 have Pu:∀(i:Nat) (r:List Nat),(Ii l)[i]?=some r->∃x:Lt,l[i]?=some x/\r.length=x.panels.toNat:=fun i r hr=>by
  rw[Ii,ao]at hr;obtain⟨x,hx,rfl⟩:=az.1 hr;exact⟨x,hx,uX ..⟩
 have Pv:∀(i k:Nat) (r:List Nat) (g:Nat),(Ii l)[i]?=some r->r[k]?=some g->∃x,l[i]?=some x/\(fZ l)[pos (Ii l) i k]?=some (x.name,(k:Int)):=fun i k r g hr hg=>by
  obtain⟨x,hx,hlen⟩:=Pu i r hr;exact⟨x,hx,yg hx (by have:=ah hg;omega)⟩
 refine⟨fun i k r g lt hr hg dv=>?_,fun w u p hw hu h1 h2=>?_⟩
 ·obtain⟨x,hx,h⟩:=Pv i k r g hr hg;have dv:l[i]?=some lt:=dv;rw[hx]at dv;injection dv with dv;rw[<-dv];exact h
 obtain⟨i,k,r,g,a1,a2,a3,a4⟩:=hw;obtain⟨i',k',r',g',b1,b2,b3,b4⟩:=hu;obtain⟨x,hx,Sc⟩:=Pv i k r g a3 a4;obtain⟨y,hy,Pw⟩:=Pv i' k' r' g' b3 b4;rw[bU,a1,a2,wh,wh]at h1;rw[bU,b1,b2,wh,wh]at h2;have e1:some p=some (x.name,(k:Int)):=h1.symm.trans Sc;have e2:some p=some (y.name,(k':Int)):=h2.symm.trans Pw;rw[e1]at e2;injection e2 with e2;injection e2 with e2 e3;have ei:i=i':=by
  rcases gC i i' with h | h | h
  ·have:=c_ hl hx hy h;rw[e2,db]at this;cases this
  ·exact h
  have:=c_ hl hy hx h;rw[e2,db]at this;cases this
 exact Prod.ext (by rw[a1,b1,ei]) (by rw[a2,b2,e3])
theorem kR.zero{b:List Fl}:kR (MC s l b) (fZ l) (fY s l):=by
 refine⟨CW s l,fun i c t hc ht=>?_,fun w hw=>(by cases hw),fun w hw=>(by cases hw),fun d hd=>(by cases hd),fun d hd=>(by cases hd),List.Pairwise.nil⟩;have hc:(s.map mX)[i]?=some c:=hc;have ht:s[i]?=some t:=ht;rw[ao,ht]at hc;injection hc with hc;rw[<-hc];exact uX ..
structure JW(s:List gI)(l:List Lt)(D:List dQ)(M:List Made):Prop where
 len:D.length<=7500000
 d1:∀d∈D,∃(k m:Nat) (t:gI),d.step=k/\s[k]?=some t/\d.machine=m/\(m:Int)<t.machines/\d.till=d.from_+t.minutes/\d.till<=1000000000000000/\0<=d.from_
 dp:D.Pairwise sZ
 ks:(M.map fun m=>(m.lot,m.panel))=fZ l
theorem sZ.symm{x y:dQ}(h:sZ x y):sZ y x:=by
 rcases h with h | h | h
 ·exact .inr (.inl h)
 ·exact .inl h
 refine .inr (.inr fun hh=>h ?_);rcases hh with⟨a,b⟩ | ⟨a,b⟩
 ·exact .inl ⟨a.symm,b.symm⟩
 exact .inr ⟨a.symm,b.symm⟩
theorem Fm{b:List Fl}(h1:cz s=0)(h2:cA l=0):JW s l (iO (pW s l b).done) ((pW s l b).jobs.map lH.made):=by
 have hr:=SZ.pW (b:=b) h1 h2;have hz:=SZ.zero (b:=b) (gs:=Ii l) h1 h2 (by rw[Ii,ig];exact vA fun x _=>uX ..);have ha:kR (MC s l b) (fZ l) (pW s l b):=kR.run (vP (oZ h2).2.1) hz kR.zero;obtain⟨hp,_⟩:=sV (pW s l b).done;refine⟨?_,fun d hd=>?_,(hp.pairwise_iff fun h=>h.symm).2 ha.dp,?_⟩
 ·rw[hp.length_eq];have:=hr.dn;have e:lL=15000000:=rfl;omega
 ·obtain⟨k,m,t,c1,c2,c3,c4,c5,c6,c7⟩:=ha.d1 d (hp.mem_iff.1 hd);have:=hr.sv.now;exact⟨k,m,t,c1,c2,c3,by omega,c5,by omega,c7⟩
 rw[ig];exact ha.kj
def TX(p:ByteArray×Int)(d:dQ):Bool:=decide (d.lot=p.1)&&decide (d.panel=p.2)
theorem Uf(p:ByteArray×Int)(d:dQ):TX p d=true↔(d.lot,d.panel)=p:=by
 obtain⟨a,b⟩:=p;simp[TX]
def TJ(S:List gI)(d:dQ):Int:=if d.good=true then d.step+1 else match S[d.step.toNat]? with
 | some s=>s.back
 | none=>0
def Tp(l:List dQ):Nat:=(l.filter fun d=>!d.good).length
structure Vn(S:List gI)(l:List dQ):Prop where
 h0:∀d,l[0]?=some d->d.step=0
 adj:∀(i:Nat) a b,l[i]?=some a->l[i+1]?=some b->a.till<=b.from_/\b.step=TJ S a
theorem Vn.app{S:List gI}{l:List dQ}{d:dQ}(h:Vn S l)(h1:l=[]->d.step=0)(h2:∀a,l.getLast?=some a->a.till<=d.from_/\d.step=TJ S a):Vn S (l++[d]):=by
 refine⟨fun e he=>?_,fun i a b ha hb=>?_⟩
 ·by_cases hl:l=[]
  ·subst hl;simp at he;subst he;exact h1 rfl
  rw[bQ (List.length_pos_iff.2 hl)]at he;exact h.h0 e he
 by_cases hi:i+1<l.length
 ·rw[bQ (by omega)]at ha;rw[bQ hi]at hb;exact h.adj i a b ha hb
 have dM:=ah hb;rw[bZ,nJ]at dM;have e:i+1=l.length:=by omega
 rw[bY (by omega),e,fH]at hb;injection hb with hb;subst hb;rw[bQ (by omega)]at ha;exact h2 a (by rw[Vc,show l.length-1=i by omega];exact ha)
theorem TY(l:List dQ)(d:dQ):Tp (l++[d])=Tp l+(if d.good=true then 0 else 1):=by
 unfold Tp;rw[ry,bZ];cases h:d.good<;>simp[h]
def VS(st:Stat)(j:lH)(l:List dQ):Prop:=(Tp l:Int)=j.made.rework/\(l=[]->j.step=0)/\(∀a,l.getLast?=some a->(j.step:Int)=TJ st.steps a)/\l.length+nC st j<=6*st.steps.length
def VT(st:Stat)(j:lH)(l:List dQ):Prop:=l.length<=6*st.steps.length/\∃a,l.getLast?=some a/\a.till=j.made.at_/\(j.made.done=true/\a.good=true/\a.step+1=st.steps.length/\(Tp l:Int)=j.made.rework\/j.made.done=false/\a.good=false/\(Tp l:Int)=j.made.rework+1)
structure Tw(st:Stat)(K:List (ByteArray×Int))(x:a_):Prop where
 a:kR st K x
 bz:∀(i:Nat) b (c:Nat),x.busy[i]?=some b->b[c]?=some true->∃w∈x.ends,∃j,x.jobs[bU st w]?=some j/\j.step=i/\j.machine=c
 qn:∀(i:Nat) q w,x.queues[i]?=some q->w∈q->0<i->w.1<=x.now
 dk:∀d∈x.done,(d.lot,d.panel)∈K
 tr:∀w,yq st w->∀j p,x.jobs[bU st w]?=some j->K[bU st w]?=some p->Vn st.steps (x.done.filter (TX p))/\(0<qE x w.2/\VS st j (x.done.filter (TX p))\/qE x w.2=0/\VT st j (x.done.filter (TX p)))
theorem TQ{f:Wt->Nat}:∀{l:List Wt},0<bK f l->∃w∈l,0<f w
 | [],h=>by simp[bK]at h
 | a::l,h=>by
  simp only[bK,qO,S7]at h;by_cases ha:0<f a
  ·exact⟨a,dJ,ha⟩
  obtain⟨w,h1,h2⟩:=TQ (f:=f) (l:=l) (by unfold bK;omega);exact⟨w,An _ h1,h2⟩
theorem Vo{W:List Wt}{w u:Wt}(hu:u∈w::W)(bO:u.2≠w.2):∃v∈dD (w::W),v.2=u.2:=by
 have h1:=jO (f:=fun v:Wt=>if v.2=u.2 then 1 else 0) hu;have h2:=oS (f:=fun v:Wt=>if v.2=u.2 then 1 else 0) w W;simp only[ae,af (fun e=>bO (Eq.symm e))]at h1 h2;obtain⟨v,h3,h4⟩:=TQ (f:=fun v:Wt=>if v.2=u.2 then 1 else 0) (l:=dD (w::W)) (by omega);refine⟨v,h3,?_⟩;by_cases e:v.2=u.2
 ·exact e
 simp only[af e]at h4;omega
theorem U2{l:List Wt}{a u:Wt}(hu:u∈l):∃v∈eH l a,v.2=u.2:=by
 have h1:=jO (f:=fun v:Wt=>if v.2=u.2 then 1 else 0) hu;have h2:=jM (f:=fun v:Wt=>if v.2=u.2 then 1 else 0) l a;simp only[ae]at h1;obtain⟨v,h3,h4⟩:=TQ (f:=fun v:Wt=>if v.2=u.2 then 1 else 0) (l:=eH l a) (by omega);refine⟨v,h3,?_⟩;by_cases e:v.2=u.2
 ·exact e
 simp only[af e]at h4;omega
theorem Vw(l:List Wt)(a:Wt):∃v∈eH l a,v.2=a.2:=by
 have h2:=jM (f:=fun v:Wt=>if v.2=a.2 then 1 else 0) l a;simp only[ae]at h2;obtain⟨v,h3,h4⟩:=TQ (f:=fun v:Wt=>if v.2=a.2 then 1 else 0) (l:=eH l a) (by omega);refine⟨v,h3,?_⟩;by_cases e:v.2=a.2
 ·exact e
 simp only[af e]at h4;omega
theorem Vx{x:a_}{w:Wt}(h:w∈x.ends):0<qE x w.2:=by
 have h1:=jO (f:=fun v:Wt=>if v.2=w.2 then 1 else 0) h;simp only[ae]at h1;unfold qE;omega
structure VX(st:Stat)(x y:a_)(w:Wt)(k:Nat)(j j':lH)(lt:Lt)(bad:Bool):Prop where
 yj:y.jobs=x.jobs.set (bU st w) j'
 yd:y.done=x.done++[S9 x k j lt.name bad]
 VR:(∃q,x.queues[j'.step]?=some q/\y.queues=x.queues.set j'.step (eH q w)/\(j'.step:Int)=TJ st.steps (S9 x k j lt.name bad)/\j'.made.rework=j.made.rework+(if bad=true then 1 else 0)/\nC st j'+1<=nC st j)\/(y.queues=x.queues/\j'.made.at_=x.now/\j'.made.done=!bad/\j'.made.rework=j.made.rework/\(bad=false->j.step+1=st.steps.length))
theorem Fk.VR{st:Stat}{x y:a_}(h:SZ st x){w:Wt}{i k:Nat}{s:gI}{b:List Bool}{lt:Lt}{v:Int}(E:Fk st x y w i k j s b lt v):∃j',VX st x y w k j j' lt (tC st ⟨lt.name,k,j.step,v+1⟩):=by
 obtain⟨_,_,_,hj,hs,hb,hm,hl,hv,hy⟩:=E;have ls:=ah hs;have jv:=h.jv j (aj hj);have Wh:=h.hb j.step s hs;generalize tC st ⟨lt.name,k,j.step,v+1⟩=bad at hy ⊢;have Fw:∀n,n<st.steps.length->∃q,x.queues[n]?=some q/\bF x n=q:=fun n hn=>by
  obtain⟨q,hq⟩:=a8 (l:=x.queues) (i:=n) (by rw[h.sv.ql];exact hn);exact⟨q,hq,by rw[bF,hq];rfl⟩
 subst hy;unfold mM;simp only;split
 ·rename_i hc;obtain⟨q,q1,q2⟩:=Fw s.back.toNat (by omega);refine⟨{ kQ j v with step:=s.back.toNat,made:={ j.made with rework:=j.made.rework+1 } },rfl,rfl,.inl ⟨q,q1,?_,?_,?_,?_⟩⟩
  ·show x.queues.set s.back.toNat (eH (bF x s.back.toNat) w)=_;rw[q2]
  ·rw[TJ,hc.1];show (s.back.toNat:Int)=if (!true)=true then _ else match st.steps[((j.step:Nat):Int).toNat]? with
    | some s=>s.back
    | none=>0
   rw[wh,hs];simp only[vz,aK,if_false];omega
  ·rw[hc.1,ae rfl]
  show (5-(j.made.rework+1)).toNat*st.steps.length+(st.steps.length-s.back.toNat)+1<=(5-j.made.rework).toNat*st.steps.length+(st.steps.length-j.step);have e:(5-j.made.rework).toNat=(5-(j.made.rework+1)).toNat+1:=by omega
  rw[e,jT];omega
 rename_i hc;split
 ·rename_i Ft;refine⟨{ kQ j v with made:={ j.made with done:=!bad,at_:=x.now } },rfl,rfl,.inr ⟨rfl,rfl,rfl,rfl,fun hb=>?_⟩⟩;rcases Ft with h | h
  ·rw[hb]at h;cases h
  exact h
 rename_i Ft;have hb:bad=false:=by
  cases bad with
  | true=>exact absurd (.inl rfl) Ft
  | false=>rfl
 have bO:j.step+1≠st.steps.length:=fun e=>Ft (.inr e);obtain⟨q,q1,q2⟩:=Fw (j.step+1) (by omega);refine⟨{ kQ j v with step:=j.step+1 },rfl,rfl,.inl ⟨q,q1,?_,?_,?_,?_⟩⟩
 ·show x.queues.set (j.step+1) (eH (bF x (j.step+1)) w)=_;rw[q2]
 ·rw[hb];show ((j.step+1:Nat):Int)=(j.step:Int)+1;omega
 ·rw[hb];show j.made.rework=j.made.rework+0;omega
 show (5-j.made.rework).toNat*st.steps.length+(st.steps.length-(j.step+1))+1<=(5-j.made.rework).toNat*st.steps.length+(st.steps.length-j.step);omega
theorem Um{p:ByteArray×Int}(l:List dQ)(d:dQ):(l++[d]).filter (TX p)=l.filter (TX p)++(if (d.lot,d.panel)=p then [d] else []):=by
 rw[ry];congr 1;by_cases e:(d.lot,d.panel)=p
 ·rw[ae e,fT,ae ((Uf p d).2 e)];rfl
 rw[af e,fT,af fun h=>e ((Uf p d).1 h)];rfl
theorem Vy{st:Stat}{x:a_}(h:SZ st x){m:Nat}(hj:x.jobs[m]?=some j):1<=nC st j:=by
 have:=(h.jv j (aj hj)).1;unfold nC;omega
theorem Tw.fin{st:Stat}{K:List (ByteArray×Int)}(hK:Ae st K){x y:a_}(h:SZ st x)(f:Tw st K x)(hy:M.eI st x=some y):Tw st K y:=by
 have fa:=f.a.fin hK h hy;obtain⟨w,i,k,j,s,b,lt,v,E⟩:=h.MD hy;obtain⟨y1,y2,y3,_,_⟩:=E.parts;obtain⟨j',F⟩:=E.VR h;obtain⟨⟨W,he⟩,hw,⟨r,g,On,xd⟩,hj,hs,hb,hm,hl,hv,_⟩:=E;generalize tC st ⟨lt.name,k,j.step,v+1⟩=bad at F;obtain⟨yj,yd,VR⟩:=F;have E4:w∈x.ends:=by rw[he];exact dJ
 have hok:=(h.ew w E4).1;have Pt:=h.alone he;have FB:w.1=x.now:=by rw[hw]
 have DM:K[bU st w]?=some (lt.name,(k:Int)):=by
  have:=hK.at_ i k r g lt On xd hl;rw[bU,hw];simpa using this
 have jobs:∀u,yq st u->u.2≠w.2->y.jobs[bU st u]?=x.jobs[bU st u]?:=fun u hu ne=>by
  rw[yj,gK hj,af fun e=>ne (hu.inj hok e)]
 have JG:∀q:Int×Int,bK (fun u=>if u.2=q then 1 else 0) (dD x.ends)+(if w.2=q then 1 else 0)=bK (fun u=>if u.2=q then 1 else 0) x.ends:=fun q=>by rw[he];exact oS w W
 have VY:∀q:Int×Int,q≠w.2->qE y q=qE x q:=fun q hq=>by
  have h1:=JG q;rw[af fun e=>hq e.symm]at h1;unfold qE;rw[y1];rcases VR with⟨Q,q1,q2,_⟩ | ⟨q2,_⟩
  ·have h2:=jN (f:=fun u=>if u.2=q then 1 else 0) (eH Q w) q1;rw[jM,af fun e=>hq e.symm]at h2;rw[q2];omega
  rw[q2];omega
 refine⟨fa,fun n c m hn hc=>?_,fun n q u hn hu h0=>?_,fun d hd=>?_,fun u hu p q hp hq=>?_⟩
 ·rw[y2,eR hb]at hn;have old:∃u∈x.ends,∃p,x.jobs[bU st u]?=some p/\p.step=n/\p.machine=m/\u.2≠w.2:=by
   split at hn
   ·rename_i e;injection hn with hn;subst hn;have bO:j.machine≠m:=fun em=>by
     rw[em,aP (by omega)]at hc;cases hc
    rw[bw bO]at hc;obtain⟨u,u1,p,u2,u3,u4⟩:=f.bz n b m (by rw[e];exact hb) hc;refine⟨u,u1,p,u2,u3,u4,fun e2=>?_⟩;rw[wv e2,hj]at u2;injection u2 with u2;exact bO (by rw[u2];exact u4)
   rename_i e;obtain⟨u,u1,p,u2,u3,u4⟩:=f.bz n c m hn hc;refine⟨u,u1,p,u2,u3,u4,fun e2=>?_⟩;rw[wv e2,hj]at u2;injection u2 with u2;exact e (by rw[u2];exact u3.symm)
  obtain⟨u,u1,p,u2,u3,u4,u5⟩:=old;obtain⟨z,z1,z2⟩:=Vo (W:=W) (w:=w) (he▸u1) u5;refine⟨z,by rw[y1,he];exact z1,p,?_,u3,u4⟩;rw[wv z2,jobs u (h.ew u u1).1 u5];exact u2
 ·rw[y3];rcases VR with⟨Q,q1,q2,_⟩ | ⟨q2,_⟩
  ·rw[q2,eR q1]at hn;split at hn
   ·rename_i e;injection hn with hn;subst hn;rcases Th hu with hu | rfl
    ·exact f.qn n Q u (by rw[e];exact q1) hu h0
    omega
   exact f.qn n q u hn hu h0
  rw[q2]at hn;exact f.qn n q u hn hu h0
 ·rw[yd,cX,n9]at hd;rcases hd with hd | rfl
  ·exact f.dk d hd
  exact aj DM
 by_cases e:u.2=w.2
 ·rw[wv e]at hp hq;rw[DM]at hq;injection hq with hq;subst hq;rw[yj,gK hj,ae rfl]at hp;injection hp with hp;subst hp;rw[yd,Um,ae (show ((S9 x k j lt.name bad).lot,(S9 x k j lt.name bad).panel)=(lt.name,(k:Int)) from rfl),e];obtain⟨t1,t2⟩:=f.tr w hok j _ hj DM;have c1:=Vx E4;have c2:=h.un w.2;rcases t2 with⟨_,g1,g2,g3,g4⟩ | ⟨c0,_⟩
  ·have DX:∀a,(x.done.filter (TX (lt.name,(k:Int)))).getLast?=some a->a.till<=j.from_/\(j.step:Int)=TJ st.steps a:=fun a ha=>by
    have hm:=List.mem_of_getLast? ha;rw[ib]at hm;have Dz:Ad j=(lt.name,(k:Int)):=by
     have:=f.a.kj;rw[<-this,ao,hj]at DM;injection DM
    have e1:=(Uf _ _).1 hm.2;injection Dz with k1 k2;injection e1 with e1 e2;exact⟨f.a.dw a hm.1 w E4 j hj (.inr ⟨by rw[e1,k1],by rw[e2,k2]⟩),g3 a ha⟩
   refine⟨t1.app (fun hn=>by show (j.step:Int)=0;rw[g2 hn];rfl) DX,?_⟩;have hlen:(x.done.filter (TX (lt.name,(k:Int)))++[S9 x k j lt.name bad]).length=(x.done.filter (TX (lt.name,(k:Int)))).length+1:=by simp
   have VU:(x.done.filter (TX (lt.name,(k:Int)))++[S9 x k j lt.name bad]).getLast?=some (S9 x k j lt.name bad):=by simp
   have Q4:=TY (x.done.filter (TX (lt.name,(k:Int)))) (S9 x k j lt.name bad);have Wc:(S9 x k j lt.name bad).good=!bad:=rfl;rw[Wc]at Q4;have pp:=Vy h hj;have h1:=JG w.2;rw[ae rfl]at h1;rcases VR with⟨Q,q1,q2,q3,q4,q5⟩ | ⟨q2,q3,q4,q5,q6⟩
   ·left;refine⟨?_,?_,fun hn=>?_,fun a ha=>?_,?_⟩
    ·have h2:=jN (f:=fun u=>if u.2=w.2 then 1 else 0) (eH Q w) q1;rw[jM,ae rfl]at h2;unfold qE at c1 ⊢;rw[y1,q2];omega
    ·rw[Q4,q4];cases bad<;>simp<;>omega
    ·have:=qU List.length hn;rw[hlen]at this;simp at this
    ·rw[VU]at ha;injection ha with ha;rw[<-ha];exact q3
    rw[hlen];omega
   right;refine⟨?_,by rw[hlen];omega,_,VU,q3.symm,?_⟩
   ·unfold qE at c1 c2 ⊢;rw[y1,q2];have:=jO (f:=fun u:Wt=>if u.2=w.2 then 1 else 0) E4;simp only[ae]at this;omega
   rw[Q4,q4,q5];cases bad with
   | false=>
    left;refine⟨rfl,rfl,?_,by simp;omega⟩;have:=q6 rfl;show (j.step:Int)+1=st.steps.length;omega
   | true=>exact .inr ⟨rfl,rfl,by simp;omega⟩
  omega
 rw[jobs u hu e]at hp;have bO:¬((S9 x k j lt.name bad).lot,(S9 x k j lt.name bad).panel)=q:=fun kY=>e (hK.inj u w q hu hok hq (by rw[DM,<-kY];rfl));rw[yd,Um,af bO,ca,VY u.2 e];exact f.tr u hu p q hp hq
theorem Tw.start{st:Stat}{K:List (ByteArray×Int)}{i:Nat}{x y:a_}(h:SZ st x)(f:Tw st K x)(hy:M.du st i x=some y):Tw st K y:=by
 have fa:=f.a.start h hy;unfold M.du at hy;split at hy
 ·rename_i s u Q b h1 h2 h3;split at hy
  ·rename_i hc;split at hy
   ·rename_i j hj;injection hy with hy;have Pt:=h.JV h2 dJ;have dq:=aj h2;have hok:=h.sv.qw _ dq u dJ;have KF:j.step=i:=by
     obtain⟨j2,c1,c2⟩:=h.qs i _ u h2 dJ;rw[hj]at c1;injection c1 with c1;rw[c1];exact c2
    have y1:y.jobs=x.jobs.set (bU st u) { j with machine:=dR b,from_:=x.now }:=by rw[<-hy];rfl
    have y2:y.ends=eH x.ends (x.now+s.minutes,u.2.1,u.2.2):=by rw[<-hy];rfl
    have y3:y.busy=x.busy.set i (b.set (dR b) true):=by rw[<-hy];rfl
    have y4:y.now=x.now:=by rw[<-hy];rfl
    have y5:y.done=x.done:=by rw[<-hy];rfl
    have y6:y.queues=x.queues.set i (dD (u::Q)):=by rw[<-hy];rfl
    have eu:((x.now+s.minutes,u.2.1,u.2.2):Wt).2=u.2:=rfl;have VY:∀q,qE y q=qE x q:=fun q=>by
     unfold qE;have a1:=jN (f:=fun w=>if w.2=q then 1 else 0) (dD (u::Q)) h2;have a2:=oS (f:=fun w=>if w.2=q then 1 else 0) u Q;have a3:=jM (f:=fun w=>if w.2=q then 1 else 0) x.ends (x.now+s.minutes,u.2);rw[y2,y6,show ((x.now+s.minutes,u.2.1,u.2.2):Wt)=(x.now+s.minutes,u.2) from rfl];simp only at a2 a3;omega
    refine⟨fa,fun n c m hn Ft=>?_,fun n q w hn hw h0=>?_,fun d hd=>?_,fun w hw p q hp hq=>?_⟩
    ·rw[y3,eR h3]at hn;have old:∀c,x.busy[n]?=some c->c[m]?=some true->∃w∈y.ends,∃j,y.jobs[bU st w]?=some j/\j.step=n/\j.machine=m:=fun c hx Ss=>by
      obtain⟨w,w1,p,w2,w3,w4⟩:=f.bz n c m hx Ss;obtain⟨z,z1,z2⟩:=U2 (a:=(x.now+s.minutes,u.2.1,u.2.2)) w1;refine⟨z,by rw[y2];exact z1,p,?_,w3,w4⟩;rw[wv z2,y1,gK hj,af fun e=>Pt w w1 ((h.ew w w1).1.inj hok e)];exact w2
     split at hn
     ·rename_i e;injection hn with hn;subst hn;by_cases em:dR b=m
      ·obtain⟨z,z1,z2⟩:=Vw x.ends (x.now+s.minutes,u.2.1,u.2.2);refine⟨z,by rw[y2];exact z1,{ j with machine:=dR b,from_:=x.now },?_,by show j.step=n;rw[KF,e],em⟩;rw[wv (z2.trans eu),y1,gK hj,ae rfl]
      rw[bw em]at Ft;exact old b (by rw[e];exact h3) Ft
     exact old c hn Ft
    ·rw[y6,eR h2]at hn;rw[y4];split at hn
     ·rename_i e;injection hn with hn;subst hn;exact f.qn n _ w (by rw[e];exact h2) (lK hw) h0
     exact f.qn n q w hn hw h0
    ·rw[y5]at hd;exact f.dk d hd
    rw[y5,VY];rw[y1,gK hj]at hp;split at hp
    ·rename_i e;injection hp with hp;subst hp;obtain⟨t1,t2⟩:=f.tr w hw j q (by rw[e];exact hj) hq;exact⟨t1,t2.imp (fun h=>⟨h.1,h.2.1,h.2.2.1,h.2.2.2.1,h.2.2.2.2⟩) fun h=>⟨h.1,h.2.1,h.2.2⟩⟩
    exact f.tr w hw p q hp hq
   cases hy
  cases hy
 cases hy
theorem Tw.now{st:Stat}{K:List (ByteArray×Int)}{x:a_}(f:Tw st K x){t:Int}(ht:x.now<t):Tw st K { x with now:=t }:=
 ⟨f.a.now ht,f.bz,fun n q w hn hw h0=>by have:=f.qn n q w hn hw h0;show w.1<=t;omega,f.dk,f.tr⟩
theorem Tw.run{st:Stat}{K:List (ByteArray×Int)}(hK:Ae st K){x:a_}(h:SZ st x)(f:Tw st K x):Tw st K (M.iV st x):=
 h.ind (Tw st K) (fun _ _ h a=>a.fin hK h) (fun _ _ _ h a=>a.start h) (fun _ _ _ a ht _=>a.now ht) f
open Ql (Tb)
def Quiet(st:Stat)(i:Nat)(x:a_):Prop:=∀s a Q b,st.steps[i]?=some s->x.queues[i]?=some (a::Q)->x.busy[i]?=some b->¬(a.1<=x.now/\dR b<b.length)
theorem U3{st:Stat}{i:Nat}{x:a_}(h:SZ st x)(hn:M.du st i x=none):Quiet st i x:=fun s a Q b h1 h2 h3 hc=>by
 obtain⟨j,hj,_⟩:=h.qs i _ a h2 dJ;unfold M.du at hn;rw[h1,h2,h3]at hn;simp only[ae hc,hj]at hn;cases hn
theorem T7{st:Stat}{i:Nat}{x y:a_}(hy:M.du st i x=some y):∃a Q b c,x.queues[i]?=some (a::Q)/\x.busy[i]?=some b/\y.queues=x.queues.set i (dD (a::Q))/\y.busy=x.busy.set i c/\y.now=x.now:=by
 unfold M.du at hy;split at hy
 ·rename_i s u Q b h1 h2 h3;split at hy
  ·split at hy
   ·injection hy with hy;subst hy;exact⟨u,Q,b,_,h2,h3,rfl,rfl,rfl⟩
   cases hy
  cases hy
 cases hy
theorem TR{st:Stat}{i:Nat}(hk:k≠i):∀(n:Nat) (x:a_),(M.eo n st i x).queues[k]?=x.queues[k]?/\(M.eo n st i x).busy[k]?=x.busy[k]?/\(M.eo n st i x).now=x.now
 | 0,x=>⟨rfl,rfl,rfl⟩
 | n+1,x=>by
  unfold M.eo;split
  ·rename_i y hy;obtain⟨a,Q,b,c,h1,h2,h3,h4,h5⟩:=T7 hy;obtain⟨e1,e2,e3⟩:=TR (st:=st) hk n y;rw[e1,e2,e3,h3,h4,h5,eR h1,eR h2,af hk,af hk];exact⟨rfl,rfl,rfl⟩
  exact⟨rfl,rfl,rfl⟩
theorem TS{st:Stat}{i:Nat}:∀(n:Nat) (x:a_),SZ st x->(bF x i).length<=n->Quiet st i (M.eo n st i x)
 | 0,x,h,hn=>fun s a Q b _ h2 _ _=>by
  have h2:x.queues[i]?=some (a::Q):=h2;rw[bF,h2]at hn;simp at hn
 | n+1,x,h,hn=>by
  unfold M.eo;split
  ·rename_i y hy;obtain⟨a,Q,b,c,h1,h2,h3,h4,h5⟩:=T7 hy;refine TS n y (h.du hy).1 ?_;rw[bF,h1]at hn;rw[bF,h3,eR h1,ae rfl];have:=oP a Q;simp only[fR,cD]at hn ⊢;omega
  rename_i hy;exact U3 h hy
theorem TT{st:Stat}{i:Nat}{x:a_}(h:SZ st x)(hq:k=i\/Quiet st k x):Quiet st k (dE st i x):=by
 by_cases e:k=i
 ·subst e;exact TS _ x h (aC _)
 obtain⟨e1,e2,e3⟩:=TR (st:=st) e (bF x i).length x;intro s a Q b h1 h2 h3;unfold dE at h2 h3 ⊢;rw[e1]at h2;rw[e2]at h3;rw[e3];exact (hq.resolve_left e) s a Q b h1 h2 h3
theorem Tz{st:Stat}:∀(l:List Nat) (x:a_),SZ st x->k∈l\/Quiet st k x->Quiet st k (l.foldl (fun x i=>dE st i x) x)
 | [],x,_,hq=>hq.resolve_left fun h=>by cases h
 | i::l,x,h,hq=>by
  rw[uY];refine Tz l _ (h.eo _).1 ?_;rcases hq with hq | hq
  ·rcases fL.1 hq with rfl | hq
   ·exact .inr (TT h (.inl rfl))
   exact .inl hq
  exact .inr (TT h (.inr hq))
theorem UI{st:Stat}{x:a_}(h:SZ st x)(hk:k<st.steps.length):Quiet st k (bV st x):=Tz _ x h (.inl (dA.2 hk))
theorem Uu{st:Stat}:∀(n:Nat) (x:a_),SZ st x->eW st x<n->∃z,SZ st z/\M.iU n st x=bV st z/\(eU (bV st z) (bF (bV st z) 0)).1=false
 | 0,x,_,h=>by omega
 | n+1,x,h,hn=>by
  obtain⟨f1,f2,f3⟩:=h.fy;unfold M.iU;split
  ·rename_i a ha;obtain⟨g1,g2⟩:=f1.next f3 ha;exact Uu n _ g1 (by omega)
  rename_i a ha;exact⟨_,f1,rfl,by rw[ha]⟩
theorem UT{f:Wt->Nat}:∀{l:List (List Wt)},(∀q∈l,q=[])->eJ f l=0
 | [],_=>rfl
 | q::l,h=>by
  have:=UT (f:=f) (l:=l) fun r hr=>h r (An _ hr);have e:=h q dJ;subst e;simp only[eJ,qO,S7]at this ⊢;rw[this];rfl
theorem VH{st:Stat}{K:List (ByteArray×Int)}{x:a_}(h:SZ st x)(hK:Ae st K)(f:Tw st K x)(hm:∀(i:Nat) s,st.steps[i]?=some s->1<=s.machines)(p:Int×Int):qE (M.iV st x) p=0:=by
 have hr:=h.iV;have hf:=f.run hK h;obtain⟨z,z1,z2,z3⟩:=Uu (eW st x+1) x h (Nat.lt_succ_self _);have z2:M.iV st x=bV st z:=z2;rw[<-z2]at z3;have hq:∀i,i<st.steps.length->Quiet st i (M.iV st x):=fun i hi=>by rw[z2];exact UI z1 hi
 generalize M.iV st x=y at hr hf z3 hq;have he:y.ends=[]:=by
  cases e:y.ends with
  | nil=>rfl
  | cons u W=>
   exfalso;rw[eU,e,gJ,ky,ae (.inl rfl)]at z3;unfold wc at z3;split at z3
   ·cases z3
   split at z3
   ·unfold ky at z3;split at z3
    ·cases z3
    cases z3
   cases z3
 have h0:∀a Q,y.queues[0]?=some (a::Q)->a.1<=y.now:=fun a Q e=>by
  rw[eU,he,bF,e]at z3;simp only[fR,gJ,wc]at z3;split at z3
  ·rw[ky,ae (.inl rfl)]at z3;cases z3
  omega
 have fI:∀q∈y.queues,q=[]:=fun q vq=>by
  obtain⟨i,hi⟩:=cf.1 vq;cases q with
  | nil=>rfl
  | cons a Q=>
   exfalso;have hl:=ah hi;rw[hr.sv.ql]at hl;have ha:a.1<=y.now:=by
    by_cases e:i=0
    ·subst e;exact h0 a Q hi
    exact hf.qn i _ a hi dJ (by omega)
   obtain⟨s,hs⟩:=a8 hl;obtain⟨b,hb⟩:=a8 (l:=y.busy) (i:=i) (by rw[hr.sv.bl];exact hl);have hlen:=hf.a.bl i b s hb hs;have F4:=hm i s hs;have C4:¬dR b<b.length:=fun h=>hq i hl s a Q b hs hi hb ⟨ha,h⟩;obtain⟨c,hc⟩:=a8 (l:=b) (i:=0) (by omega);have Wd:c=true:=by
    have e:b.findIdx (fun x=>!x)=b.length:=by
     have:=List.findIdx_le_length (p:=fun x:Bool=>!x) (xs:=b);unfold dR at C4;omega
    have:=(List.findIdx_eq_length.1 e) c (aj hc);simpa using this
   rw[Wd]at hc;obtain⟨w,hw,_⟩:=hf.bz i b 0 hb hc;rw[he]at hw;cases hw
 unfold qE;rw[he,UT fI];rfl
theorem UU{n m:Nat}{x:Lt}(hx:l[n]?=some x)(hm:m<x.panels.toNat):∀i,n<i->1<=bK (Nn ((n:Int),(m:Int))) (dh l i)
 | 0,h=>by omega
 | i+1,h=>by
  unfold dh;by_cases e:n=i
  ·subst e;rw[hx];simp only;rw[uL,ae ⟨rfl,by simp only;omega,by simp only;omega⟩];omega
  have ih:=UU hx hm i (by omega);split
  ·rw[uL];omega
  exact ih
theorem Tw.zero{b:List Fl}(h1:cz s=0):Tw (MC s l b) (fZ l) (fY s l):=by
 obtain⟨s1,s2⟩:=o5 h1;refine⟨kR.zero,fun i c m hc hm=>?_,fun i q w hq hw h0=>?_,fun d hd=>(by cases hd),fun w hw j p hj hp=>?_⟩
 ·exfalso;have hc:(s.map mX)[i]?=some c:=hc;rw[ao]at hc;obtain⟨t,_,rfl⟩:=az.1 hc;have:=aB (aj hm);cases this
 ·rcases Ac hq with⟨rfl,_⟩ | rfl
  ·omega
  cases hw
 have hj:(gh s l)[bU (MC s l b) w]?=some j:=hj;obtain⟨x,_,k,_,rfl⟩:=CU (aj hj);refine⟨⟨fun d hd=>(by cases hd),fun i a c ha=>(by cases ha)⟩,.inl ⟨?_,rfl,fun _=>rfl,fun a ha=>(by cases ha),?_⟩⟩
 ·obtain⟨i,k,r,g,a1,a2,a3,a4⟩:=hw;have a3:(Ii l)[i]?=some r:=a3;rw[Ii,ao]at a3;obtain⟨y,hy,rfl⟩:=az.1 a3;have hk:=ah a4;rw[uX]at hk;have Wi:=UU hy hk l.length (ah hy);have e:w.2=((i:Int),(k:Int)):=Prod.ext a1 a2;have hs:=Hb s1.1 (fun u:Wt=>if u.2=w.2 then 1 else 0) (dh l l.length);unfold qE;have:eJ (fun u:Wt=>if u.2=w.2 then 1 else 0) (fY s l).queues=bK (Nn ((i:Int),(k:Int))) (dh l l.length):=by
   rw[e]at hs ⊢;exact hs
  omega
 show 0+((5-0:Int).toNat*s.length+(s.length-0))<=6*s.length;rw[show (5-0:Int).toNat=5 from rfl];omega
theorem Uv:∀{l:List Lt} {n:Nat} {p:ByteArray×Int},(fZ l)[n]?=some p->∃(i k:Nat) (x:Lt),l[i]?=some x/\k<x.panels.toNat/\pos (Ii l) i k=n/\p=(x.name,(k:Int))
 | [],n,p,h=>by simp[fZ]at h
 | x::l,n,p,h=>by
  simp only[fZ,ic]at h;by_cases h1:n<x.panels.toNat
  ·rw[bQ (by rw[fC];exact h1),s5 x h1]at h;injection h with h;exact⟨0,n,x,rfl,h1,by simp[pos],h.symm⟩
  rw[bY (by rw[fC];omega),fC]at h;obtain⟨i,k,y,g1,g2,g3,g4⟩:=Uv (l:=l) h;refine⟨i+1,k,y,g1,g2,?_,g4⟩;rw[Ii,qO,lM,uX];rw[Ii]at g3;omega
theorem UJ{s:List gI}{l:List Lt}{b:List Fl}(h1:cz s=0)(h2:cA l=0):(∀d∈(pW s l b).done,(d.lot,d.panel)∈fZ l)/\∀(n:Nat) j,(pW s l b).jobs[n]?=some j->Vn s ((pW s l b).done.filter (TX (j.made.lot,j.made.panel)))/\VT (MC s l b) j ((pW s l b).done.filter (TX (j.made.lot,j.made.panel))):=by
 have hz:=SZ.zero (b:=b) (gs:=Ii l) h1 h2 (by rw[Ii,ig];exact vA fun x _=>uX ..);have hk:=vP (s:=s) (b:=b) (oZ h2).2.1;have f0:=Tw.zero (l:=l) (b:=b) h1;have hf:Tw (MC s l b) (fZ l) (pW s l b):=f0.run hk hz;have hd:=fun p=>VH (st:=MC s l b) hz hk f0 (fun i t ht=>((o5 h1).2 i t ht).2.2.1.1) p;refine⟨hf.dk,fun n j hj=>?_⟩;have hp:(fZ l)[n]?=some (j.made.lot,j.made.panel):=by rw[<-hf.a.kj,ao,hj];rfl
 obtain⟨i,k,x,g1,g2,g3,g4⟩:=Uv hp;have hok:yq (MC s l b) ((0:Int),(i:Int),(k:Int)):=⟨i,k,List.replicate x.panels.toNat 0,0,rfl,rfl,by show (l.map fun x=>List.replicate x.panels.toNat 0)[i]?=_;rw[ao,g1];rfl,by rw[ik,ae g2]⟩;have V1:bU (MC s l b) ((0:Int),(i:Int),(k:Int))=n:=by
  rw[bU];show pos (Ii l) (i:Int).toNat (k:Int).toNat=n;rw[wh,wh];exact g3
 obtain⟨t1,t2⟩:=hf.tr _ hok j _ (by rw[V1];exact hj) (by rw[V1];exact hp);rcases t2 with⟨c,_⟩ | ⟨_,g⟩
 ·have:qE (pW s l b) ((i:Int),(k:Int))=0:=hd _;have c:0<qE (pW s l b) ((i:Int),(k:Int)):=c;omega
 exact⟨t1,g⟩
theorem Af(s:List gI)(l:List Lt)(b:List Fl)(h1:cz s=0)(h2:cA l=0)(h3:de s l b=0)(hS:∀x∈s,x.name.size<4294967281)(hL:∀x∈l,x.name.size<4294967281)(hs:s.length<=140737488355328)(hl:l.length<=140737488355328)(hb:b.length<=140737488355328):aT C 6 [.pv (.sl (s.map gq)),.pv (.sl (l.map jK)),.pv (.sl (b.map CJ))] (.tu [.sl ((iO (M.iV ⟨s,l,b,l.map fun x=>List.replicate x.panels.toNat 0⟩ (fY s l)).done).map dc),.sl ((M.iV ⟨s,l,b,l.map fun x=>List.replicate x.panels.toNat 0⟩ (fY s l)).jobs.map fun j=>mc j.made),i64 0]) []:=by
 refine Mb ⟨[11,16,20,29,31,32,33,36,42,43],[],[],[19,28,29],[],[]⟩ hC Tryz.func6 rfl (by kernel_rfl) fun _=>?_;obtain⟨s1,s2⟩:=o5 h1;obtain⟨l1,l2,l3⟩:=oZ h2;have ls:=cH s gq;have ll:=cH l jK;have lb:=cH b CJ;have c1:=ft s hS hs;have c2:=gS l hL hl;have c3:=jP s l b s1 h2 hb;rw[h1]at c1;rw[h2]at c2;rw[h3]at c3;refine⟨_,_,c1,_,_,c2,_,_,c3,And.intro (by omega) (And.intro (by omega) (And.intro (by show ((s.map gq).length:Int)*24<=_;omega) (by omega))),?_⟩;refine lG (((aY.OQ (by exact hC) _ 48 (e:=53) (es:=List.replicate ((s.map gq).length:Int).toNat [PV.im (.slice none 0 0)]) (by exact rfl)).trans (aY.L7 (by exact hC) _ 48 s.length (e:=53) (e':=68) (by exact qU (AB.ai _) (by rw[wh,ls,Ue];rfl)) (by exact rfl) (by decide))).trans ((aY.rf (by exact hC) _ 50 6 90003 59 _ _ (by decide) (by decide) (by exact rfl) (by exact rfl) (by exact rfl) (by decide)).trans (aY.OQ (by exact hC) _ 90003 (e:=59) (es:=[]) (by exact rfl)))) ?_;have fI:∀(i:Nat) (f:Fl),b[i]?=some f->¬(b.take i).any (Ul f)=true:=fun i f hf=>CR h3 hf;refine d_ (fun i:Nat=>i<=b.length) (fun i=>[(0,.p (.sl (s.map gq))),(1,.p (.sl (l.map jK))),(12,.bx 50 0),(51,.p (.sl (b.map CJ))),(52,.p (i64 b.length)),(53,.p (i64 i))]) (fun i=>[(45,.map (.st [0,1,1,1]) ((mL (b.take i)).map Bz)),(48,.ai 53 ((List.replicate s.length ([]:List Wt)).map qC)),(50,.box [.p (.sl (s.map gq)),.p (.sl (l.map jK)),.ow 45,.nl,.ow 48,.nl,.ow 90003,.p (i64 0),.nl]),(90003,.ai 59 [])]) (fun i=>b.length-i) 0 _ (aY.refl _ _) (bd _) ⟨rfl,rfl,rfl,rfl,qU (fun n:Nat=>AV.p (i64 n)) lb,Z,Y⟩ ⟨rfl,qU (AB.ai _) (by simp only[Ue];rfl),Z,Z,Y⟩ fun i hi t h=>?_;apply iW<;>intro g1<;>try simp only[zB]at g1
 ·obtain⟨f,hf⟩:=a8 (l:=b) (i:=i) (by omega);have hm:=yb (l:=b.take i) (f:=f) (fI i f hf);have ht:=bT hf;exact⟨(CJ f),(idx rfl hf),wO (by omega),(i+1),_,aY.refl _ _,by omega,by omega,⟨Z,Z,Z,Z,Z,Z,Y⟩,⟨by rw[ht];exact qU (AB.map _) hm,qU (AB.ai _) (by simp only[cP,cJ]),Z,Z,Y⟩⟩
 have Jk:i=b.length:=by omega
 refine lG (aY.Jn (by exact hC) _ 50 2 45 (mL b) _ (by decide) (by exact rfl) (by exact rfl) (by exact rfl) (by rw[Jk,Tn])) ?_;refine d_ (fun i:Nat=>i<=s.length) (fun i=>[(0,.p (.sl (s.map gq))),(1,.p (.sl (l.map jK))),(12,.bx 50 0),(63,.p (.sl (s.map gq))),(64,.p (i64 s.length)),(65,.p (i64 i))]) (fun i=>[(48,.ai 53 ((List.replicate s.length ([]:List Wt)).map qC)),(50,.box [.p (.sl (s.map gq)),.p (.sl (l.map jK)),.p (.mp (.st [0,1,1,1]) (mL b)),.nl,.ow 48,.nl,.ow 90003,.p (i64 0),.nl]),(90003,.ai 59 (((s.take i).map mX).map bC))]) (fun i=>s.length-i) 0 _ (aY.refl _ _) (bd _) ⟨rfl,rfl,rfl,rfl,qU (fun n:Nat=>AV.p (i64 n)) ls,Z,Y⟩ ⟨Z,Z,Z,Y⟩ fun i hi t h=>?_;apply iW<;>intro g2<;>try simp only[zB]at g2
 ·obtain⟨x,hx⟩:=a8 (l:=s) (i:=i) (by omega);obtain⟨_,_,SJ,_⟩:=s2 i x hx;refine⟨(gq x),(idx rfl hx),And.intro (by omega) (And.intro (by omega) (And.intro (by show x.machines*1<=_;omega) (by omega))),And.intro (fun r hr=>by rw[n9.1 hr];rfl) (And.intro (by simp only[bZ,Al,cu,cD,jU];omega) (by simp only[bZ,Al,cu,cD,jU];omega)),?_⟩;have QE:(((s.take i).map mX).map bC).length=i:=by simp only[Al,cu];omega
  refine lG ((aY.jg (by exact hC) _ 78 i 0 76 (e:=59) (es:=((s.take i).map mX).map bC++[[.av (.ow 76)]]) (r:=[.av (.ow 76)]) (e':=4) (xs:=(mX x).map fun y=>[bool y]) (by decide) (by exact qU (AB.ai _) (by simp only[dF,dG];rfl)) (by exact qU (AB.row _) (by rw[mX,Ue];rfl)) (by rw[bY (by omega),QE,fH];rfl) rfl).trans (aY.ez _ 78 90003 (by decide) (by decide))) ?_;have KB:=bT hx;refine⟨wO (by omega),(i+1),_,aY.refl _ _,by omega,by omega,⟨Z,Z,Z,Z,Z,Z,Y⟩,⟨qU (AB.ai _) (by simp only[cP,cJ]),rfl,qU (AB.ai _) ?_,trivial⟩⟩;rw[KB,aa,aa,il _ _ (by omega),QE,fH];simp only[dF,dG,aa];rfl
 have Sd:i=s.length:=by omega
 subst Sd;obtain⟨n0,MX⟩:∃n0,s.length=n0+1:=⟨s.length-1,by omega⟩;have yp:((List.replicate s.length ([]:List Wt)).map qC)=((cQ s (dh l 0)).map qC):=by
  rw[cQ,MX,kl,km];rfl
 rw[Tn,yp];refine d_ (fun p:Nat×List (List Nat)=>p.1<=l.length/\p.2.map List.length=(l.take p.1).map fun x=>x.panels.toNat) (fun p=>[(0,.p (.sl (s.map gq))),(12,.bx 50 0),(82,.p (.sl (l.map jK))),(83,.p (i64 l.length)),(84,.p (i64 p.1))]) (fun p=>[(48,.ai 53 ((cQ s (dh l p.1)).map qC)),(50,.box [.p (.sl (s.map gq)),.p (.sl (l.map jK)),.p (.mp (.st [0,1,1,1]) (mL b)),.ow 90005,.ow 48,.ow 90002,.ow 90003,.p (i64 0),.ow 90004]),(90002,.row 68 []),(90003,.ai 59 ((s.map mX).map bC)),(90004,.row 34 []),(90005,.row 60 (Fg p.2)),(90010,.fam (nz p.2.flatten (gh s (l.take p.1))) [])]) (fun p=>l.length-p.1) (0,[]) _ ((((aY.rf (by exact hC) _ 50 3 90005 60 _ _ (by decide) (by decide) (by exact rfl) (by exact rfl) (by exact rfl) (by decide)).trans (aY.rf (by exact hC) _ 50 5 90002 68 _ _ (by decide) (by decide) (by exact rfl) (by exact rfl) (by exact rfl) (by decide))).trans (aY.rf (by exact hC) _ 50 8 90004 34 _ _ (by decide) (by decide) (by exact rfl) (by exact rfl) (by exact rfl) (by decide))).trans (aY.Jl (by exact hC) _ 90010 (by decide))) ⟨bd _,rfl⟩ ⟨rfl,rfl,rfl,qU (fun n:Nat=>AV.p (i64 n)) ll,Z,Y⟩ ⟨qU (AB.ai _) (by simp only[cP,cJ]),rfl,rfl,qU (AB.ai _) (by simp only[dF,dG]),Z,Z,Z,Y⟩ fun ⟨i,gs⟩ hi t h=>?_;obtain⟨i1,i2⟩:=hi;simp only at i1 i2;apply iW<;>intro g3<;>try simp only[zB]at g3
 ·obtain⟨x,hx⟩:=a8 (l:=l) (i:=i) (by omega);refine⟨(jK x),(idx rfl hx),?_⟩;obtain⟨_,xp,xa⟩:=l3 x (aj hx);have Fw:=pU (l:=l) (fun x hx=>(l3 x hx).2.1.2) i;have Ko:=mB (s:=s) i2;refine d_ (fun p:Nat×List Nat=>p.1<=x.panels.toNat/\p.2.length=p.1) (fun p=>[(0,.p (.sl (s.map gq))),(12,.bx 50 0),(17,.p (i64 i)),(18,.bx 18 0),(19,.ow 19),(82,.p (.sl (l.map jK))),(83,.p (i64 l.length)),(84,.p (i64 i)),(90,.p (i64 x.panels)),(91,.p (i64 p.1))]) (fun p=>[(18,.box [.p (str x.name),.p (i64 x.panels),.p (i64 x.at_)]),(19,.ai 61 (p.2.map tH)),(48,.ai 53 ((cQ s (jj x.at_ i p.1 (dh l i))).map qC)),(50,.box [.p (.sl (s.map gq)),.p (.sl (l.map jK)),.p (.mp (.st [0,1,1,1]) (mL b)),.ow 90005,.ow 48,.ow 90002,.ow 90003,.p (i64 0),.ow 90004]),(90002,.row 68 []),(90003,.ai 59 ((s.map mX).map bC)),(90004,.row 34 []),(90005,.row 60 (Fg gs)),(90010,.fam (nz (gs.flatten++p.2) (gh s (l.take i)++iP s x p.1)) [])]) (fun p=>x.panels.toNat-p.1) (0,[]) _ ((aY.EH (by exact hC) _ 19 61 _ (by decide) (by exact rfl) (by exact rfl) (by decide)).trans (aY.OQ (by exact hC) _ 19 (e:=61) (es:=[]) (by exact rfl))) ⟨bd _,rfl⟩ ⟨Z,Z,Z,Z,Z,Z,Z,Z,Z,Z,Y⟩ ⟨rfl,rfl,qU (AB.ai _) (by simp only[cP,cJ];rfl),rfl,rfl,qU (AB.ai _) (by simp only[dF,dG]),rfl,rfl,by rw[ca,show iP s x 0=[] from rfl,ca];rfl,trivial⟩ fun ⟨k,r⟩ hk t h=>?_;obtain⟨k1,k2⟩:=hk;simp only at k1 k2;apply iW<;>intro g4<;>try simp only[zB]at g4
  ·refine⟨And.intro (by omega) (And.intro (by omega) (And.intro (by show ((s.map gq).length:Int)*8<=_;omega) (by omega))),And.intro (fun r hr=>by rw[n9.1 hr];rfl) (And.intro (by simp only[bZ,Al,cu,cD,jU];omega) (by simp only[bZ,Al,cu,cD,jU];omega)),?_⟩;have lr:(r.map tH).length=k:=by rw[Al];exact k2
   refine Seen.le (aY.pack (by exact hC) _ 103 (cs:=pL (qx s x k)) (by exact rfl) (by exact rfl) (by exact⟨rfl,rfl,rfl,qU (AB.row _) (by rw[wh,ls];simp only[qx,Ue];rfl),Z,Z,Z,Z,Z,Y⟩)) (Seen.Jm (by exact hC) _ 90010 103 19 k 0 (cs:=pL (qx s x k)) (e:=61) (es:=r.map tH++[[.av (.bx 103 0)]]) (r:=[.av (.bx 103 0)]) (by exact rfl) (by exact rfl) (by exact qU (AB.ai _) (by simp only[aa,Bp,Bq];rfl)) (by rw[bY (by omega),lr,fH];rfl) rfl fun g=>?_);have yp:=qy s1.1 (jj x.at_ i k (dh l i));have SK:=pT x.at_ i k (dh l i);have Px:=lS s (jj x.at_ i k (dh l i));refine⟨And.intro (by omega) (by simp only[cP,cJ];rw[List.length_map,Px];exact s1.1),(qC (jj x.at_ i k (dh l i))),(by simp only[cP,cJ];exact ff qC yp),_,_,wb (jj x.at_ i k (dh l i)) (x.at_,i,k) (by omega),rfl,jL _,⟨by dsimp only;omega,by dsimp only;omega⟩,?_⟩;have Py:(gs.flatten++r).length=(gh s (l.take i)++iP s x k).length:=by
    rw[bZ,bZ,Ko,k2];simp[iP]
   have Se:=Fh Py g (qx s x k);refine⟨(k+1,r++[g]),_,aY.refl _ _,⟨by dsimp only;omega,by dsimp only;rw[List.length_append,k2];rfl⟩,by dsimp only;omega,⟨Z,Z,Z,Z,Z,Z,Z,Z,Z,Z,Y⟩,⟨rfl,congrArg (AB.ai _) ?_,congrArg (AB.ai _) ?_,rfl,rfl,congrArg (AB.ai _) (by simp only[dF,dG]),rfl,rfl,congrArg (AB.fam · _) ?_,trivial⟩⟩
   ·rw[il _ _ (by omega),lr,fH];simp only[Bp,Bq,aa];rfl
   ·simp only[cP,cJ];exact (jq _ _ _).trans (qU (List.map qC) (ye s _ _))
   dsimp only;rw[Ab,<-gX,<-gX];exact Se.symm
  have Pz:k=x.panels.toNat:=by omega
  refine lG ((aY.L1 (by exact hC) _ 19 (e:=61) (r.map fun g=>[ptr g]) (by exact rfl) (G7 r)).trans (aY.own (by exact hC) _ 19 (by exact rfl) (by exact rfl))) ?_;have lg:(Fg gs).length=i:=by
   have:=qU List.length i2;simp only[Al,cu]at this;rw[Fg,Al];omega
  refine⟨And.intro (fun r hr=>by simp at hr;subst hr;rfl) (And.intro (by simp only[aF,uX];omega) (by simp only[aF,uX];omega)),?_⟩;refine lG (aY.ez _ 127 90005 (by decide) (by decide)) ?_;refine⟨wO (by omega),?_⟩;have KB:=Aa (s:=s) hx;have FC:dh l (i+1)=jj x.at_ i x.panels.toNat (dh l i):=by rw[dh,hx]
  refine⟨(i+1,gs++[r]),_,aY.refl _ _,⟨by dsimp only;omega,?_⟩,by dsimp only;omega,⟨Z,Z,Z,Z,Z,Y⟩,⟨congrArg (AB.ai _) ?_,rfl,rfl,congrArg (AB.ai _) (by simp only[dF,dG]),rfl,congrArg (AB.row _) ?_,congrArg (AB.fam · _) ?_,trivial⟩⟩
  ·dsimp only;rw[bT hx,aa,aa,i2];simp only[qO,Bw];rw[k2,Pz]
  ·dsimp only;rw[FC,<-Pz];simp only[cP,cJ]
  ·dsimp only;simp only[Fg,aa];rfl
  dsimp only;rw[KB,Pz,List.flatten_append];simp
 have IG:i=l.length:=by omega
 subst IG;rw[Tn]at i2;rw[Tn];have hr:=SZ.zero (b:=b) h1 h2 i2;have hrun:=Mq _ _ hr;refine lG (aY.Gz (by exact hC) _ 50 3 90005 60 (Fg gs) _ (by decide) (by exact rfl) (by exact rfl) (by exact rfl)) ?_;refine⟨[(50,100000),(48,90001),(90002,90002),(90003,90003),(90004,90004),(90010,90010)],_,_,_,_,hrun,⟨rfl,rfl,rfl,qU (AB.ai _) (by simp only[lI];rfl),rfl,qU (AB.ai _) (by simp only[lJ];rfl),Z,Z,Y⟩,?_⟩;have FA:=hr.iV;obtain⟨x1,Oj⟩:∃x1,x1=M.iV ⟨s,l,b,gs⟩ (fY s l):=⟨_,rfl⟩;have mH:M.iV ⟨s,l,b,l.map fun x=>List.replicate x.panels.toNat 0⟩ (fY s l)=M.iV ⟨s,l,b,gs⟩ (fY s l):=Ha (by rw[i2,ig];exact vA fun x _=>(uX ..)) _;rw[mH];rw[<-Oj]at FA ⊢;have MH:=US x1.done (by have:=FA.dn;have e:lL=15000000:=rfl;omega);refine⟨_,_,MH,?_⟩;have Sf:(Fg gs).length=gs.length:=Al ..;have kX:x1.jobs.length=gs.flatten.length:=FA.sv.jl;have QC:gs.length=l.length:=by simpa using qU List.length i2
 have SL:x1.jobs.length<=20000:=by
  have h1:=yf (s:=s) fun x hx=>(l3 x hx).2.1.2;have h2:=mB (s:=s) i2;omega
 refine lG (aY.EH (by exact hC) _ 21 37 _ (by decide) (by exact rfl) (by exact rfl) (by decide)) ?_;refine d_ (fun i:Nat=>i<=gs.length) (fun i=>[(12,.bx 50 0),(21,.ow 21),(141,.p (.sl (Fg gs))),(142,.p (i64 gs.length)),(143,.p (i64 i))]) (fun i=>[(21,.row 37 ((x1.jobs.take (pos gs i 0)).map fun j=>mc j.made)),(50,.box [.p (.sl (s.map gq)),.p (.sl (l.map jK)),.p (.mp (.st [0,1,1,1]) (mL b)),.p (.sl (Fg gs)),.ow 48,.ow 90002,.ow 90003,.p (i64 x1.now),.ow 90004]),(90004,.row 34 ((iO x1.done).map dc)),(90010,.fam (nz gs.flatten x1.jobs) [])]) (fun i=>gs.length-i) 0 _ (aY.refl _ _) (bd _) ⟨rfl,rfl,rfl,qU (fun n:Nat=>AV.p (i64 n)) Sf,Z,Y⟩ ⟨by rw[show pos gs 0 0=0 from rfl];rfl,Z,Z,Z,Y⟩ fun i hi t h=>?_;apply iW<;>intro g5<;>try simp only[zB]at g5
 ·obtain⟨r,IN⟩:=a8 (l:=gs) (i:=i) (by omega);have lr:(r.map fun g=>[ptr g]).length=r.length:=Al ..;refine⟨[CE r],(idx rfl IN),?_⟩;refine d_ (fun k:Nat=>k<=r.length) (fun k=>[(12,.bx 50 0),(21,.ow 21),(141,.p (.sl (Fg gs))),(142,.p (i64 gs.length)),(143,.p (i64 i)),(147,.p (CE r)),(148,.p (i64 r.length)),(149,.p (i64 k))]) (fun k=>[(21,.row 37 ((x1.jobs.take (pos gs i k)).map fun j=>mc j.made)),(50,.box [.p (.sl (s.map gq)),.p (.sl (l.map jK)),.p (.mp (.st [0,1,1,1]) (mL b)),.p (.sl (Fg gs)),.ow 48,.ow 90002,.ow 90003,.p (i64 x1.now),.ow 90004]),(90004,.row 34 ((iO x1.done).map dc)),(90010,.fam (nz gs.flatten x1.jobs) [])]) (fun k=>r.length-k) 0 _ (aY.refl _ _) (bd _) ⟨rfl,rfl,rfl,rfl,rfl,rfl,qU (fun n:Nat=>AV.p (i64 n)) lr,Z,Y⟩ ⟨Z,Z,Z,Z,Y⟩ fun k hk t h=>?_;apply iW<;>intro g6<;>try simp only[zB]at g6
  ·obtain⟨g,HR⟩:=a8 (l:=r) (i:=k) (by omega);have hg:=gr gs i k r g IN HR;obtain⟨j,hj⟩:=a8 (l:=x1.jobs) (i:=pos gs i k) (by have:=ah hg;omega);have hf:=zS hg hj;refine⟨[ptr g],(idx rfl HR),?_⟩;refine lG ((aY.zJ (by exact hC) _ 90010 90012 25 (pos gs i k) (by decide) (by decide) (by exact rfl) hf (by exact rfl)).trans (aY.open (by exact hC) _ 90012 [90014] (by exact rfl) (by exact rfl) (by exact rfl) (by exact rfl))) ?_;have SM:((x1.jobs.take (pos gs i k)).map fun j=>mc j.made).length<=20000:=by rw[Al,cu];omega
   refine⟨And.intro (fun r hr=>by simp at hr;subst hr;rfl) (And.intro (by simp only[aF,uX];omega) (by simp only[aF,uX];omega)),?_⟩;refine lG ((aY.pack (by exact hC) _ 90012 (cs:=pL j) (by exact rfl) (by exact rfl) (by exact⟨Z,Z,Z,Z,Z,Z,Z,Z,Z,Y⟩)).trans (aY.sr (by exact hC) _ 90010 90012 (pos gs i k) (by exact rfl) (by exact rfl) hf)) ?_;have SN:k<=pos gs i k:=by unfold pos;omega
   have DI:=ah hj;refine⟨wO (by omega),(k+1),_,aY.refl _ _,?_⟩;have NP:x1.jobs.take (pos gs i (k+1))=x1.jobs.take (pos gs i k)++[j]:=bT hj;refine⟨by omega,by omega,⟨Z,Z,Z,Z,Z,Z,Z,Z,Y⟩,⟨qU (AB.row _) ?_,rfl,rfl,qU (AB.fam · _) ?_,trivial⟩⟩
   ·rw[NP,aa];rfl
   rw[kx hg,dP hj]
  have e:k=r.length:=by omega
  exact⟨wO (by omega),(i+1),_,aY.refl _ _,by omega,by omega,⟨Z,Z,Z,Z,Z,Y⟩,⟨by rw[Fi IN,e];rfl,Z,Z,Z,Y⟩⟩
 have e:i=gs.length:=by omega
 subst e;rw[G8,<-kX,Tn];refine⟨?_,trivial⟩;rfl
theorem Ag(s:List gI)(l:List Lt)(b:List Fl)(hS:∀x∈s,x.name.size<4294967281)(hL:∀x∈l,x.name.size<4294967281)(hs:s.length<=140737488355328)(hl:l.length<=140737488355328)(hb:b.length<=140737488355328):aT C 6 [.pv (.sl (s.map gq)),.pv (.sl (l.map jK)),.pv (.sl (b.map CJ))] (.tu [.sl ((jQ s l b).1.map dc),.sl ((jQ s l b).2.1.map mc),i64 (jQ s l b).2.2]) []:=by
 by_cases h1:cz s=0
 ·by_cases h2:cA l=0
  ·by_cases h3:de s l b=0
   ·have:=Af s l b h1 h2 h3 hS hL hs hl hb;rw[jQ,ae h1,ae h2,ae h3];simp only[ig];exact this
   have e:jQ s l b=([],[],de s l b):=by rw[jQ,ae h1,ae h2,af h3]
   rw[e];have c1:=ft s hS hs;have c2:=gS l hL hl;have c3:=jP s l b (o5 h1).1 h2 hb;rw[h1]at c1;rw[h2]at c2;refine Mb ⟨[],[],[],[19,28,29],[],[]⟩ hC Tryz.func6 rfl (by kernel_rfl) fun _=>?_;refine⟨_,_,c1,_,_,c2,_,_,c3,iW ?_ ?_⟩<;>intro g1<;>try simp only[zB]at g1
   ·refine⟨?_,trivial⟩;rfl
   exact absurd (by simpa using g1) h3
  have e:jQ s l b=([],[],cA l):=by rw[jQ,ae h1,af h2]
  rw[e];have c1:=ft s hS hs;have c2:=gS l hL hl;rw[h1]at c1;refine Mb ⟨[],[],[],[19,28,29],[],[]⟩ hC Tryz.func6 rfl (by kernel_rfl) fun _=>?_;refine⟨_,_,c1,_,_,c2,iW ?_ ?_⟩<;>intro g1<;>try simp only[zB]at g1
  ·refine⟨?_,trivial⟩;rfl
  exact absurd (by simpa using g1) h2
 have e:jQ s l b=([],[],cz s):=by rw[jQ,af h1]
 rw[e];have c1:=ft s hS hs;refine Mb ⟨[],[],[],[19,28,29],[],[]⟩ hC Tryz.func6 rfl (by kernel_rfl) fun _=>?_;refine⟨_,_,c1,iW ?_ ?_⟩<;>intro g1<;>try simp only[zB]at g1
 ·refine⟨?_,trivial⟩;rfl
 exact absurd (by simpa using g1) h1
open Go.Lib
def No(l:List UInt8):ByteArray:=⟨l.toArray⟩
theorem Ah(n:Int)(h:-9223372036854775808<=n/\n<=9223372036854775807):aT C 106 [.pv (i64 n)] (.p (str (No (Lib.itoa n)))) []:=
 iz [.int .i64 n] (.string (No (Lib.itoa n))) ⟨_,Tryz.func106,by decide,rfl⟩ fun S w hE hS=>by
  refine (Tryz.strconv_Itoa n h.1 h.2 w hE.2.2.2).mono ?_;rintro e w' ⟨rfl,k,os,rfl⟩;exact⟨rfl,Lib.below_grow _ _ (aC _) k os⟩
theorem wF(s p:ByteArray):aT C 33 [.pv (str s),.pv (str p)] (.p (bool (Lib.hasPrefix s.data.toList p.data.toList))) []:=
 iz [.string s,.string p] (.bool _) ⟨_,Tryz.func33,by decide,rfl⟩ fun S w hE hS=>by
  refine (Tryz.strings_HasPrefix s p w).mono ?_;rintro e w' ⟨rfl,rfl⟩;exact⟨rfl,Below.refl _ _⟩
theorem s6(s p:ByteArray)(hs:s.size<4294967281):aT C 56 [.pv (str s),.pv (str p)] (.p (bool (Lib.contains s.data.toList p.data.toList))) []:=
 iz [.string s,.string p] (.bool _) ⟨_,Tryz.func56,by decide,rfl⟩ fun S w hE hS=>by
  obtain⟨_,_,⟨m,hm⟩,_⟩:=hE;refine (Tryz.strings_Contains s p m w hs hm).mono ?_;rintro e w' ⟨rfl,rfl⟩;exact⟨rfl,Below.refl _ _⟩
def s7:ByteArray:=⟨#[48,49,50,51,52,53,54,55,56,57]⟩
theorem CY:(Tryz.prog.info? (Tryz.laysTrim_ren.t 116)).map (fun i=>(i.zero,i.size))=some (some (.agg (Array.replicate 256 (.bool false))),256):=by kernel_rfl
theorem Ai:∀(j:Nat) b,s7.data.toList[j]?=some b->b.toNat<128:=fun j b h=>by
 have:=aj h;revert b;intro b _ hb;exact (show ∀c∈s7.data.toList,c.toNat<128 by decide) b hb
theorem Aj(s:ByteArray)(hs:s.size<=9223372036854775807):aT C 83 [.pv (str s),.pv (str s7)] (.p (str (No (Lib.trimS s.data.toList s7.data.toList)))) []:=
 iz [.string s,.string s7] (.string _) ⟨_,Tryz.func83,by decide,rfl⟩ fun S w hE hS=>by
  refine (Tryz.strings_Trim_laid CY s s7 w hs (by decide) Ai).mono ?_;rintro e w' ⟨rfl,hb⟩;exact⟨rfl,hb⟩
theorem CZ {f : FuncId} (us rs : List Value) (hf : ∃ fn : Func, C.P.funcs[f]? = some fn ∧ (fn.name == "runtime.NumGoroutine") = false ∧ fn.body.isNone = false) (h : ∀ S w, C.E S w → (∀ b, S b → b < w.heap.size) → Calls C.P f us.toArray w fun e w' => e = .returned (.tuple rs.toArray) ∧ Below w.heap.size w w') :
  aT C f (us.map fun a=>.pv (.im a)) (.tu (rs.map .im)) []:=by
 refine⟨hf,fun S w vs hE hS hl hr _=>?_⟩;have wV:=rj hl hr;subst wV;exact (h S w hE hS).mono fun e w' ⟨he,hb⟩=>⟨.tuple rs.toArray,S,he,⟨hb.os,hb.tape,hb.output,hb.size,fun k hk _=>hb.block k hk⟩,fun _ h=>h,fun b dM=>bg (hS b dM) hb.size,fun b dM=>.inl dM,⟨rs.toArray,rfl,by simp,fun i x u h1 h2=>by
  rw[ao,az]at h1;obtain⟨y,hy,rfl⟩:=h1;have:rs[i]?=some u:=by simpa using h2
  rw[hy]at this;cases this;exact .im _⟩,vY us,sB us,fun g h=>by cases h⟩
theorem Ak(s:ByteArray)(n:Int)(hl:s.size<=18)(h:Lib.atoi s.data.toList=some n):aT C 84 [.pv (str s)] (.tu [i64 n,.im .nilIface]) []:=
 CZ [.string s] [.int .i64 n,.nilIface] ⟨_,Tryz.func84,by decide,rfl⟩ fun S w hE hS=>by
  refine (Tryz.strconv_Atoi s n hl h w).mono ?_;rintro e w' ⟨rfl,t,rfl⟩;exact⟨rfl,Joins.below_bytesWorld _ _ _ _ (aC _)⟩
def C0:ByteArray:=⟨#[46]⟩
def s0:ByteArray:=⟨#[97,46,48,48,49,46,48,48,50,46,48]⟩
def sA:ByteArray:=⟨#[97]⟩
def s1:ByteArray:=⟨#[48,48,49]⟩
def s2:ByteArray:=⟨#[48,48,50]⟩
def sD:ByteArray:=⟨#[48]⟩
def sF:ByteArray:=⟨#[97,46,48,48,49,46,48,48,50]⟩
def sP:ByteArray:=⟨#[97,46,48,48,49,46,48,48,50,46]⟩
def wG:ByteArray:=⟨#[48,49,50,51,52,53,54,55,56,57,65,66,67,68,69,70,71,72,73,74,75,76,77,78,79,80,81,82,83,84,85,86,87,88,89,90,42]⟩
theorem JX:Lib.splitB C0 0 (Lib.countB s0 C0) s0=[sA,s1,s2,sD]:=by kernel_rfl
theorem JY:Lib.countB s0 C0=3:=by kernel_rfl
theorem JZ:aT C 55 [.pv (str s0),.pv (str C0)] (.own 9 [[str sA],[str s1],[str s2],[str sD]]) []:=
 xQ hC (f:=55) [.string s0,.string C0] 9 [.string sA,.string s1,.string s2,.string sD] _ rfl rfl (by simp[Value.oneCell']) (by decide) ⟨_,Tryz.func55,by decide,rfl⟩ fun S w hE hS=>by
  obtain⟨_,_,⟨m,hm⟩,_⟩:=hE;refine (Tryz.strings_Split s0 C0 m w (by decide) hm (by decide)).mono fun _ _ ⟨h1,h2⟩=>⟨?_,?_⟩
  ·rw[h1,JY];rfl
  rw[h2,JX];rfl
theorem UW(s:ByteArray)(n:Int)(hs:s.size=3)(h1:Lib.trimS s.data.toList s7.data.toList=[])(h2:Lib.atoi s.data.toList=some n):aT C 57 [.pv (str s)] (.tu [i64 n,bool true]) []:=by
 refine fW hC Tryz.func57 rfl (by kernel_rfl) fun _=>?_;have ht:=Aj s (by omega);rw[h1]at ht;apply iW<;>intro h3
 ·exact absurd (by omega) h3
 refine⟨_,_,ht,_,_,(Ak s n (by omega) h2),?_,trivial⟩;rfl
def pY(s:ByteArray):Nat->Int
 | 0=>0
 | i+1=>pY s i+((i:Int)+1)*(((s.data.toList[i]?).getD 0).toNat:Int)
theorem uN(s:ByteArray):∀i,i<=40->0<=pY s i/\pY s i<=10200*(i:Int)
 | 0,_=>by simp[pY]
 | i+1,hi=>by
  have ⟨h1,h2⟩:=uN s i (by omega);have hb:(((s.data.toList[i]?).getD 0).toNat:Int)<=255:=by have:=((s.data.toList[i]?).getD 0).toNat_lt;omega
  have h0:(0:Int)<=(((s.data.toList[i]?).getD 0).toNat:Int):=Int.natCast_nonneg _;rw[pY];generalize (((s.data.toList[i]?).getD 0).toNat:Int)=c at hb h0;have m1:((i:Int)+1)*c<=((i:Int)+1)*255:=Vd hb (by omega);have m0:0<=((i:Int)+1)*c:=Int.mul_nonneg (by omega) h0;generalize ((i:Int)+1)*c=z at m1 m0;omega
theorem Hd(s:ByteArray)(hs:s.size<=40)(c:UInt8)(hc:wG[((pY s s.size).tmod 37).toNat]?=some c):aT C 58 [.pv (str s)] (.p (.im (.int .u8 c.toNat))) []:=by
 refine fW hC Tryz.func58 rfl (by kernel_rfl) fun _=>?_;have hsz:s.data.toList.length=s.size:=by simp
 refine d_ (fun i:Nat=>i<=s.size) (fun i=>[(0,.p (str s)),(3,.p (i64 (pY s i))),(6,.p (i64 s.size)),(7,.p (i64 i))]) (fun _=>[]) (fun i=>s.size-i) 0 _ (aY.refl _ _) (bd _) ⟨Z,Z,Z,Z,Y⟩ trivial fun i hi t h=>?_;have sb:=uN s i (by omega);apply iW<;>intro h1
 ·obtain⟨b,hb,dM⟩:=xR (s:=s) (i:=i) (by omega);have Qu:=b.toNat_lt;have m1:((i:Int)+1)*(b.toNat:Int)<=((i:Int)+1)*255:=Vd (by omega) (by omega);have m0:0<=((i:Int)+1)*(b.toNat:Int):=Int.mul_nonneg (by omega) (Int.natCast_nonneg _);have e:pY s (i+1)=pY s i+((i:Int)+1)*(b.toNat:Int):=by rw[pY,dM];rfl
  generalize hz:((i:Int)+1)*(b.toNat:Int)=z at m1 m0 e;exact⟨wO (by omega),b,⟨by omega,by rw[wh];exact hb⟩,wO (by omega),⟨by rw[hz];omega,by rw[hz];omega⟩,⟨by rw[hz];omega,by rw[hz];omega⟩,wO (by omega),(i+1),_,aY.refl _ _,by omega,by omega,⟨rfl,qU (fun n:Int=>AV.p (i64 n)) (by rw[e,hz]),Z,Z,Y⟩,trivial⟩
 have e:i=s.size:=by omega
 have Sg:0<=(pY s i).tmod 37/\(pY s i).tmod 37<37:=⟨Int.tmod_nonneg _ sb.1,Int.tmod_lt_of_pos _ (by decide)⟩;rw[<-e]at hc;refine⟨by decide,c,⟨Sg.1,hc⟩,?_,trivial⟩;rfl
def sN:ByteArray:=⟨#[49,48,48,49]⟩
theorem uO(n:Int)(a b:ByteArray)(h0:0<=n/\n<=999)(ha:No (Lib.itoa (1000+n))=a)(hl:a.size=4)(hb:a.extract 1 4=b):aT C 85 [.pv (i64 n)] (.p (str b)) []:=by
 refine fW hC Tryz.func85 rfl (by kernel_rfl) fun _=>?_;have hi:=Ah (1000+n) ⟨by omega,by omega⟩;rw[ha]at hi;refine⟨wO (by omega),_,_,hi,⟨by decide,by omega,by omega⟩,?_,trivial⟩;rw[hl];exact qU (fun z=>PV.im (Value.string z)) hb
def sS:ByteArray:=⟨#[97,46,48,48,49,46,48,48,50,46,88]⟩
theorem MI:wG[((pY sF sF.size).tmod 37).toNat]?=some 88:=by kernel_rfl
theorem yk(s:ByteArray)(h:s=sF):aT C 58 [.pv (str s)] (.p (.im (.int .u8 88))) []:=by
 rw[h];exact Hd sF (by decide) 88 MI
theorem He:aT C 85 [.pv (i64 1)] (.p (str s1)) []:=uO 1 sN s1 (by decide) (by kernel_rfl) (by decide) (by kernel_rfl)
def Sh:ByteArray:=⟨#[49,48,48,50]⟩
theorem Hf:aT C 85 [.pv (i64 2)] (.p (str s2)) []:=uO 2 Sh s2 (by decide) (by kernel_rfl) (by decide) (by kernel_rfl)
theorem PA:sA++⟨#[46]⟩++s1++⟨#[46]⟩++s2=sF:=by kernel_rfl
theorem PB:sA++⟨#[46]⟩++s1++⟨#[46]⟩++s2++⟨#[46]⟩++Utf8.encode 88=sS:=by kernel_rfl
theorem Fo:(sA++⟨#[46]⟩++s1++⟨#[46]⟩++s2++⟨#[46]⟩).size+(Utf8.encode 88).size<=9223372036854775807:=by
 have h:(Utf8.encode 88).size=1:=by kernel_rfl
 rw[h];simp only[TB];decide
theorem Fp:aT C 58 [.pv (.im (.string (sA++⟨#[46]⟩++s1++⟨#[46]⟩++s2)))] (.p (.im (.int .u8 88))) []:=yk _ PA
theorem Hg:aT C 59 [.pv (str sA),.pv (i64 1),.pv (i64 2)] (.p (str sS)) []:=by
 refine fW hC Tryz.func59 rfl (by kernel_rfl) fun _=>?_;refine⟨by show _<=9223372036854775807;first | (simp only[TB];decide) | decide,_,_,He,by show _<=9223372036854775807;first | (simp only[TB];decide) | decide,by show _<=9223372036854775807;first | (simp only[TB];decide) | decide,_,_,Hf,by show _<=9223372036854775807;first | (simp only[TB];decide) | decide,by show _<=9223372036854775807;first | (simp only[TB];decide) | decide,_,_,Fp,Fo,?_,trivial⟩;exact qU (fun z=>PV.im (Value.string z)) PB
theorem tI:aT C 32 [.pv (str sA),.pv (i64 1),.pv (i64 2)] (.tu [str sS,i64 0]) []:=by
 refine fW hC Tryz.func32 rfl (by kernel_rfl) fun _=>?_;have hw:=ir sA (by decide);rw[show jh sA=true from by decide]at hw;have h1:=cI 1 0 999;rw[show pK 1 0 999=true from by decide]at h1;have h2:=cI 2 0 999;rw[show pK 2 0 999=true from by decide]at h2;refine⟨_,_,hw,_,_,h1,_,_,h2,_,_,Hg,?_,trivial⟩;rfl
theorem ym:aT C 31 [.pv (str s0)] (.tu [str ByteArray.empty,i64 0,i64 0,i64 15]) []:=by
 refine fW hC Tryz.func31 rfl (by kernel_rfl) fun _=>?_;have hw:=ir sA (by decide);rw[show jh sA=true from by decide]at hw;have hc:=s6 wG sD (by decide);rw[show Lib.contains wG.data.toList sD.data.toList=true from by decide]at hc;have h1:=UW s1 1 rfl (by decide) (by decide);have h2:=UW s2 2 rfl (by decide) (by decide);refine⟨_,_,JZ,⟨by decide,by decide⟩,[str sA],rfl,_,_,hw,⟨by decide,by decide⟩,[str sD],rfl,⟨by decide,by decide⟩,[str sD],rfl,_,_,hc,⟨by decide,by decide⟩,[str s1],rfl,_,_,h1,⟨by decide,by decide⟩,[str s2],rfl,_,_,h2,⟨by decide,by decide⟩,[str sD],rfl,48,⟨by decide,rfl⟩,⟨by decide,by decide⟩,⟨by decide,by decide,by decide⟩,_,_,(yk (s0.extract 0 9) (by kernel_rfl)),?_,trivial⟩;rfl
theorem uP:aT C 14 [] (.p (bool true)) []:=by
 refine fW hC Tryz.func14 rfl (by kernel_rfl) fun _=>?_;have hp:=wF sS sP;rw[show Lib.hasPrefix sS.data.toList sP.data.toList=true from by kernel_rfl]at hp;refine⟨_,_,ym,_,_,tI,_,_,hp,?_,trivial⟩;rfl
theorem yn(s:List gI)(l:List Lt)(b:List Fl):(∃c,c≠0/\jQ s l b=([],[],c))\/(cz s=0/\cA l=0/\de s l b=0/\jQ s l b=(iO (pW s l b).done,(pW s l b).jobs.map lH.made,0)):=by
 unfold jQ;split
 ·split
  ·split
   ·exact .inr ⟨by assumption,by assumption,by assumption,rfl⟩
   rename_i h;exact .inl ⟨_,h,rfl⟩
  rename_i h;exact .inl ⟨_,h,rfl⟩
 rename_i h;exact .inl ⟨_,h,rfl⟩
def yo(l:List Lt):Nat:=(l.map fun x=>x.panels.toNat).sum
theorem uQ{i:Nat}{x:Lt}(h:l[i]?=some x):yo (l.take (i+1))=yo (l.take i)+x.panels.toNat:=by
 rw[yo,yo,bT h,aa,List.sum_append];simp
theorem wH(h:∀x∈l,x.panels<=200):∀i,yo (l.take i)<=200*i
 | 0=>by simp[yo]
 | i+1=>by
  have ih:=wH h i;cases hx:l[i]? with
  | none=>rw[vm (by have:=Ve.1 hx;omega)];rw[vm (Ve.1 hx)]at ih;omega
  | some x=>rw[uQ hx];have:=h x (aj hx);omega
open Ql (SY gp)
def S_(d:dQ):Int:=if jh d.lot=true then (if pK d.panel 0 199=true/\0<=d.step/\0<=d.machine/\0<=d.from_/\0<=d.till then (if d.till<d.from_ then 8 else 0) else 1) else 5
def S8(l:List dQ):Int:=if 3600000<l.length then 2 else A6 (l.map S_)
variable {α:Type}
theorem VN{l:List α}{f:α->Int}{i:Nat}{x:α}(hn:∀y∈l.take i,f y=0)(hx:l[i]?=some x)(h0:f x≠0):A6 (l.map f)=f x:=by
 have e:(l.map f).take i=(l.take i).map f:=by rw[Ud]
 have hz:∀y∈(l.map f).take i,y=0:=fun y hy=>by
  rw[e]at hy;obtain⟨z,hz,rfl⟩:=aV.1 hy;exact hn z hz
 exact ER (sG hz) hz (by rw[ao,hx];rfl) h0
theorem Vf{l:List α}{f:α->Int}(hn:∀y∈l,f y=0):A6 (l.map f)=0:=sG fun y hy=>by
 obtain⟨z,hz,rfl⟩:=aV.1 hy;exact hn z hz
theorem all_succ{l:List α}{f:α->Int}{i:Nat}{x:α}(hn:∀y∈l.take i,f y=0)(hx:l[i]?=some x)(h0:f x=0):∀y∈l.take (i+1),f y=0:=fun y hy=>by
 rw[bT hx,cX,n9]at hy;rcases hy with hy | rfl
 ·exact hn y hy
 exact h0
theorem TU(l:List dQ)(hS:∀d∈l,A7 d.lot)(hN:l.length<=140737488355328):aT C 34 [.pv (.sl (l.map dc))] (.p (i64 (S8 l))) []:=by
 refine fW hC Tryz.func34 rfl (by kernel_rfl) fun _=>?_;have lm:=cH l dc;apply iW<;>intro h0<;>try simp only[zB]at h0
 ·refine⟨?_,trivial⟩;rw[S8,ae (by omega)];rfl
 rw[S8,af (by omega)];refine d_ (fun i:Nat=>i<=l.length/\∀y∈l.take i,S_ y=0) (fun i=>[(8,.p (.sl (l.map dc))),(9,.p (i64 l.length)),(10,.p (i64 i))]) (fun _=>[]) (fun i=>l.length-i) 0 _ (aY.refl _ _) ⟨bd _,by simp⟩ ⟨rfl,qU (fun n:Nat=>AV.p (i64 n)) lm,Z,Y⟩ trivial fun i hi t h=>?_;apply iW<;>intro h1<;>try simp only[zB]at h1
 ·obtain⟨d,hd⟩:=a8 (l:=l) (i:=i) (by omega);have bad:S_ d≠0->A6 (l.map S_)=S_ d:=VN hi.2 hd;refine⟨(dc d),(idx rfl hd),_,_,(ir d.lot (by have:d.lot.size<4294967281:=hS d (aj hd);omega)),iW ?_ ?_⟩<;>intro h2<;>try simp only[zB]at h2
  ·refine⟨?_,trivial⟩;have e:S_ d=5:=by rw[S_,af (by simp[h2])]
   rw[bad (by rw[e];decide),e];rfl
  have e0:S_ d=(if pK d.panel 0 199=true/\0<=d.step/\0<=d.machine/\0<=d.from_/\0<=d.till then (if d.till<d.from_ then 8 else 0) else 1):=by rw[S_,ae (by simpa using h2)]
  have Vz:¬(pK d.panel 0 199=true/\0<=d.step/\0<=d.machine/\0<=d.from_/\0<=d.till)->A6 (l.map S_)=1:=fun hb=>by rw[af hb]at e0;rw[bad (by rw[e0];decide),e0]
  refine⟨_,_,(TF d.panel),iW ?_ ?_⟩<;>intro h3<;>try simp only[zB]at h3
  ·refine⟨?_,trivial⟩;rw[Vz (fun hb=>by first | (simp_all;done) | omega)];rfl
  apply iW<;>intro h4<;>try simp only[zB]at h4
  ·refine⟨?_,trivial⟩;rw[Vz (fun hb=>by first | (simp_all;done) | omega)];rfl
  apply iW<;>intro h5<;>try simp only[zB]at h5
  ·refine⟨?_,trivial⟩;rw[Vz (fun hb=>by first | (simp_all;done) | omega)];rfl
  apply iW<;>intro h6<;>try simp only[zB]at h6
  ·refine⟨?_,trivial⟩;rw[Vz (fun hb=>by first | (simp_all;done) | omega)];rfl
  apply iW<;>intro h7<;>try simp only[zB]at h7
  ·refine⟨?_,trivial⟩;rw[Vz (fun hb=>by first | (simp_all;done) | omega)];rfl
  have good:pK d.panel 0 199=true/\0<=d.step/\0<=d.machine/\0<=d.from_/\0<=d.till:=⟨by simpa using h3,by omega,by omega,by omega,by omega⟩;rw[ae good]at e0;apply iW<;>intro h8<;>try simp only[zB]at h8
  ·refine⟨?_,trivial⟩;rw[ae h8]at e0;rw[bad (by rw[e0];decide),e0];rfl
  rw[af h8]at e0;exact⟨wO (by omega),(i+1),_,aY.refl _ _,⟨by omega,all_succ hi.2 hd e0⟩,by omega,⟨Z,Z,Z,Y⟩,trivial⟩
 refine⟨?_,trivial⟩;rw[Vf fun y hy=>hi.2 y (by rw[vm (by omega)];exact hy)];rfl
def Ts:PV:=.im (.func (.func 20) #[] #[])
def maxD:Nat:=3600000
variable {d:List dQ}
theorem Ug{x y:dQ}{i j:Int}{m:Nat}(hi:i=(k:Int))(hj:j=(m:Int))(bO:k≠m)(h:d[m]?=some y):((d.map dc).set i.toNat (dc x))[j.toNat]?=some (dc y):=by
 subst hi hj;rw[wh,wh,bw bO];exact A5 dc h
theorem TC{x y:dQ}{e:TypeId}{i j:Int}{m:Nat}(hi:i=(k:Int))(hj:j=(m:Int)):AB.row e (((d.map dc).set i.toNat (dc x)).set j.toNat (dc y))=AB.row e (((d.set k x).set m y).map dc):=by
 subst hi hj;rw[wh,wh,rA,rA]
theorem Tg{r:List dQ}{e:TypeId}(h:d=r):AB.row e (d.map dc)=AB.row e (r.map dc):=by rw[h]
theorem Td{l:List α}{i:Nat}{x:α}(h:l[i]?=some x):l.drop i=x::l.drop (i+1):=by
 have hi:=Ql.zQ h;rw[aM hi]at h;injection h with h;rw[<-h,oX hi]
theorem TZ(A U B V D l r:List dQ)(n:Nat)(hU:U.length=n)(hV:V.length=n)(hl:l=A++(U++(B++(V++D))))(hr:r=A++(V++(B++(U++D))))(a b:Int)(ha:a=A.length)(hb:b=(A.length:Int)+n+B.length)(hN:l.length<=maxD):
  aT C 125 [.row 34 (l.map dc),.pv (i64 a),.pv (i64 b),.pv (i64 n),.pv Ts] (.tu []) [.row (r.map dc)]:=by
 refine fW hC Tryz.func125 rfl (by kernel_rfl) fun _=>?_;have hlen:l.length=A.length+n+B.length+n+D.length:=by rw[hl];simp only[bZ];omega
 unfold maxD at hN;refine d_ (fun p:Nat×List dQ=>p.1<=n/\p.2=A++((V.take p.1++U.drop p.1)++(B++((U.take p.1++V.drop p.1)++D)))) (fun p=>[(0,.ow 100000),(1,.p (i64 a)),(2,.p (i64 b)),(3,.p (i64 n)),(10,.p (i64 p.1))]) (fun p=>[(100000,.row 34 (p.2.map dc))]) (fun p=>n-p.1) (0,l) _ (aY.refl _ _) ⟨bd _,hl⟩ ⟨Z,Z,Z,Z,Z,Y⟩ ⟨Z,Y⟩ fun ⟨i,d⟩ hi t h=>?_;obtain⟨hi,hd⟩:=hi;simp only at hi hd;apply iW<;>intro h1<;>try simp only[zB]at h1
 ·obtain⟨u,hu⟩:=a8 (l:=U) (i:=i) (by omega);obtain⟨v,hv⟩:=a8 (l:=V) (i:=i) (by omega);have e0:d=(A++V.take i)++u::((U.drop (i+1)++B++U.take i)++v::(V.drop (i+1)++D)):=by
   rw[hd,Td hu,Td hv];simp
  have e1:A++((V.take (i+1)++U.drop (i+1))++(B++((U.take (i+1)++V.drop (i+1))++D)))=(A++V.take i)++v::((U.drop (i+1)++B++U.take i)++u::(V.drop (i+1)++D)):=by
   rw[bT hu,bT hv];simp
  have l1:(A++V.take i).length=A.length+i:=by simp;omega
  have l2:(U.drop (i+1)++B++U.take i).length=n-1+B.length:=by simp;omega
  have g1:d[A.length+i]?=some u:=by rw[e0];exact Ql.get_at _ _ _ _ l1.symm
  have g2:d[A.length+n+B.length+i]?=some v:=by rw[e0];exact Ql.UB _ _ _ _ _ _ (by rw[l1,l2];omega)
  have lm:=cH d dc;have i1:a+i=((A.length+i:Nat):Int):=by omega
  have i2:b+i=((A.length+n+B.length+i:Nat):Int):=by omega
  have b1:=Ql.zQ g1;have b2:=Ql.zQ g2;refine⟨wO (by omega),wO (by omega),wO (by omega),⟨by omega,by rw[lm];omega⟩,(dc v),(idx i2 g2).2,wO (by omega),⟨by omega,by rw[lm];omega⟩,(dc u),(idx i1 g1).2,⟨by omega,by rw[lm];omega⟩,(dc u),(idx i1 g1).2,⟨by omega,by rw[aF,lm];omega⟩,(dc v),(Ug i1 i2 (by omega) g2),wO (by omega),(i+1,(d.set (A.length+i) v).set (A.length+n+B.length+i) u),_,aY.refl _ _,⟨by simp only;omega,?_⟩,by simp only;omega,⟨Z,Z,Z,Z,Z,Y⟩,⟨TC i1 i2,trivial⟩⟩;simp only;rw[e1,e0];exact Ql.Uk _ _ _ _ _ _ _ l1.symm (by rw[l1,l2];omega)
 have e:i=n:=by omega
 refine⟨rfl,⟨Tg ?_,trivial⟩⟩;rw[hr,hd,e,vm (by omega),TO (by omega),vm (by omega),TO (by omega)];simp
theorem rotate(A U V D l r:List dQ)(hl:l=A++(U++(V++D)))(hr:r=A++(V++(U++D)))(hU:0<U.length)(hV:0<V.length)(a m b:Int)(ha:a=A.length)(hm:m=(A.length:Int)+U.length)(hb:b=(A.length:Int)+U.length+V.length)(hN:l.length<=maxD):
  aT C 107 [.row 34 (l.map dc),.pv (i64 a),.pv (i64 m),.pv (i64 b),.pv Ts] (.tu []) [.row (r.map dc)]:=by
 refine fW hC Tryz.func107 rfl (by kernel_rfl) fun _=>?_;have hlen:l.length=A.length+U.length+V.length+D.length:=by rw[hl];simp only[bZ];omega
 unfold maxD at hN;refine⟨wO (by omega),wO (by omega),?_⟩;refine d_ (fun p:(List dQ×List dQ)×(List dQ×List dQ)×List dQ=>p.2.2=p.1.1++(p.2.1.1++(p.2.1.2++p.1.2))/\r=p.1.1++(p.2.1.2++(p.2.1.1++p.1.2))/\0<p.2.1.1.length/\0<p.2.1.2.length/\m=(p.1.1.length:Int)+p.2.1.1.length/\p.2.2.length=l.length) (fun p=>[(0,.ow 100000),(2,.p (i64 m)),(4,.p Ts),(10,.p (i64 p.2.1.1.length)),(11,.p (i64 p.2.1.2.length))]) (fun p=>[(100000,.row 34 (p.2.2.map dc))]) (fun p=>p.2.1.1.length+p.2.1.2.length) ((A,D),(U,V),l) _ (aY.refl _ _) ⟨hl,hr,hU,hV,hm,rfl⟩ ⟨rfl,rfl,rfl,congrArg (fun n:Int=>AV.p (i64 n)) (by dsimp only;omega),congrArg (fun n:Int=>AV.p (i64 n)) (by dsimp only;omega),trivial⟩ ⟨Z,Y⟩ fun ⟨⟨A',D'⟩,⟨U',V'⟩,d⟩ hi t h=>?_;obtain⟨i1,i2,i3,i4,i5,i6⟩:=hi;simp only at i1 i2 i3 i4 i5 i6;have VK:d.length=A'.length+U'.length+V'.length+D'.length:=by rw[i1];simp only[bZ];omega
 apply iW<;>intro h1<;>try simp only[zB]at h1
 ·apply iW<;>intro h2<;>try simp only[zB]at h2
  ·have e1:U'++(V'++D')=U'.take V'.length++(U'.drop V'.length++(V'++D')):=by rw[<-gX (U'.take _),nZ]
   have e2:V'++(U'++D')=V'++(U'.take V'.length++(U'.drop V'.length++D')):=by rw[<-gX (U'.take _),nZ]
   have e3:(U'.drop V'.length).length=U'.length-V'.length:=nI ..;have e4:(U'.take V'.length).length=V'.length:=by simp;omega
   refine⟨⟨by dsimp only;omega,by dsimp only;omega⟩,_,_,(TZ A' (U'.take V'.length) (U'.drop V'.length) V' D' d _ V'.length e4 rfl (by rw[i1,e1]) rfl _ _ (show m-(U'.length:Int)=A'.length by omega) (show m=(A'.length:Int)+V'.length+(U'.drop V'.length).length by omega) (by rw[i6];exact hN)),⟨by dsimp only;omega,by dsimp only;omega⟩,((A'++V',D'),(U'.drop V'.length,U'.take V'.length),A'++(V'++(U'.drop V'.length++(U'.take V'.length++D')))),_,aY.refl _ _,⟨by simp,by rw[i2,e2];simp,by dsimp only;omega,by dsimp only;omega,by dsimp only;rw[List.length_append];omega,?_⟩,by dsimp only;omega,⟨rfl,rfl,rfl,congrArg (fun n:Int=>AV.p (i64 n)) (by dsimp only;omega),congrArg (fun n:Nat=>AV.p (i64 n)) e4.symm,trivial⟩,⟨Z,Y⟩⟩;rw[<-i6,VK];simp only[bZ];omega
  have e1:U'++(V'++D')=U'++(V'.take (V'.length-U'.length)++(V'.drop (V'.length-U'.length)++D')):=by rw[<-gX (V'.take _),nZ]
  have e2:V'++(U'++D')=V'.take (V'.length-U'.length)++(V'.drop (V'.length-U'.length)++(U'++D')):=by rw[<-gX (V'.take _),nZ]
  have e3:(V'.take (V'.length-U'.length)).length=V'.length-U'.length:=by simp
  have e4:(V'.drop (V'.length-U'.length)).length=U'.length:=by simp;omega
  refine⟨⟨by dsimp only;omega,by dsimp only;omega⟩,⟨by dsimp only;omega,by dsimp only;omega⟩,⟨by dsimp only;omega,by dsimp only;omega⟩,_,_,(TZ A' U' (V'.take (V'.length-U'.length)) (V'.drop (V'.length-U'.length)) D' d _ U'.length rfl e4 (by rw[i1,e1]) rfl _ _ (show m-(U'.length:Int)=A'.length by omega) (show m+(V'.length:Int)-U'.length=(A'.length:Int)+U'.length+(V'.take (V'.length-U'.length)).length by omega) (by rw[i6];exact hN)),⟨by dsimp only;omega,by dsimp only;omega⟩,((A',U'++D'),(V'.drop (V'.length-U'.length),V'.take (V'.length-U'.length)),A'++(V'.drop (V'.length-U'.length)++(V'.take (V'.length-U'.length)++(U'++D')))),_,aY.refl _ _,⟨by simp,by rw[i2,e2],by dsimp only;omega,by dsimp only;omega,by dsimp only;omega,?_⟩,by dsimp only;omega,⟨rfl,rfl,rfl,congrArg (fun n:Nat=>AV.p (i64 n)) e4.symm,congrArg (fun n:Int=>AV.p (i64 n)) (by dsimp only;omega),trivial⟩,⟨Z,Y⟩⟩;rw[<-i6,VK];simp only[bZ];omega
 have e:U'.length=V'.length:=by omega
 refine⟨⟨by dsimp only;omega,by dsimp only;omega⟩,_,_,(TZ A' U' [] V' D' d _ U'.length rfl e.symm (by rw[i1];rfl) rfl _ _ (show m-(U'.length:Int)=A'.length by omega) (show m=(A'.length:Int)+U'.length+([]:List dQ).length by simp;omega) (by rw[i6];exact hN)),rfl,⟨Tg ?_,trivial⟩⟩;rw[i2];rfl
end M
end Go.Proofs.YtedjhhieekileaaGreatDoor
