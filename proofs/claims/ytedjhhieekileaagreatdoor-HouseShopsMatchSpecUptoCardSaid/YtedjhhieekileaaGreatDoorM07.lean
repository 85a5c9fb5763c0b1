/- Part 7 of the proof of HouseShopsMatchSpec. -/
import Derived.Test.YtedjhhieekileaaGreatDoorM06
set_option linter.unusedVariables false
set_option linter.unusedSimpArgs false
set_option maxRecDepth 100000
set_option maxHeartbeats 8000000
namespace Go
abbrev TB:=@List.length_range
abbrev Ve:=@List.any_append
abbrev TO:=@List.foldl_append
end Go
namespace Go.Proofs.YtedjhhieekileaaGreatDoor
namespace M
open Go.AM Go.RowKit
theorem SZ.ind{st:Stat}(P:a_->Prop)(I:∀x y,SZ st x->P x->M.eI st x=some y->P y)(hs:∀i x y,SZ st x->P x->M.du st i x=some y->P y)(J:∀x a,SZ st x->P x->x.now<a->(∀w∈x.ends,a<=w.1)->P { x with now:=a }){x:a_}(h:SZ st x)(N:P x):P (M.iV st x):=by
 have fin:∀(n:Nat) (x:a_),SZ st x->P x->P (kz n st x):=by
  intro n
  induction n with
  | zero=>intro x _ hp;exact hp
  | succ n ih=>
   intro x h hp;unfold kz;split
   ·rename_i y c;exact ih y (h.eI c).1 (I x y h hp c)
   exact hp
 have O:∀(i n:Nat) (x:a_),SZ st x->P x->SZ st (M.eo n st i x)/\P (M.eo n st i x):=by
  intro i n
  induction n with
  | zero=>intro x h hp;exact⟨h,hp⟩
  | succ n ih=>
   intro x h hp;unfold M.eo;split
   ·rename_i y c;exact ih y (h.du c).1 (hs i x y h hp c)
   exact⟨h,hp⟩
 have all:∀(l:List Nat) (x:a_),SZ st x->P x->P (l.foldl (fun x i=>dE st i x) x):=by
  intro l
  induction l with
  | nil=>intro x _ hp;exact hp
  | cons i l ih=>
   intro x h hp;rw[uY];obtain⟨a,b⟩:=O i (bF x i).length x h hp;exact ih _ a b
 have run:∀(n:Nat) (x:a_),SZ st x->P x->P (M.iU n st x):=by
  intro n
  induction n with
  | zero=>intro x _ hp;exact hp
  | succ n ih=>
   intro x h hp;obtain⟨z,f2,f3⟩:=h.fy;have D:P (bV st (M.fy st x)):=all _ _ z (fin _ x h hp);unfold M.iU;split
   ·rename_i a G;obtain⟨s1,s2,s3,U⟩:=SZ.lN (List.range st.steps.length) z;obtain⟨V,Y,_⟩:=Bj (U (xY z f3)) s1.eh G;exact ih _ (z.next f3 G).1 (J _ a s1 D V Y)
   exact D
 exact run _ x h N
structure Fk(st:Stat)(x y:a_)(w:Wt)(i k:Nat)(j:lH)(s:gI)(b:List Bool)(lt:Lt)(v:Int):Prop where
 he:∃W,x.ends=w::W
 hw:w=(x.now,(i:Int),(k:Int))
 hg:∃r g,st.gs[i]?=some r/\r[k]?=some g
 hj:x.jobs[bU st w]?=some j
 hs:st.steps[j.step]?=some s
 hb:x.busy[j.step]?=some b
 hm:j.machine<b.length
 hl:st.lots[i]?=some lt
 hv:j.visits[j.step]?=some v
 hy:y=mM st { x with ends:=dD x.ends } w k (bU st w) j s b v lt.name (tC st ⟨lt.name,k,j.step,v+1⟩)
theorem SZ.MD{st:Stat}{x y:a_}(h:SZ st x)(c:M.eI st x=some y):∃w i k j s b lt v,Fk st x y w i k j s b lt v:=by
 obtain⟨w,W,z,D⟩:∃w W,x.ends=w::W/\w.1=x.now:=by
  unfold M.eI at c;split at c
  ·cases c
  rename_i w W z;split at c
  ·rename_i D;exact⟨w,W,z,D⟩
  cases c
 obtain⟨i,k,r,g,j,s,b,lt,v,G,J,N,I,hs,hb,O,U,V,Ks,H_,R4,Y⟩:=h.fin z D;rw[Y]at c;injection c with c;have hp:bU st w=pos st.gs i k:=by rw[bU,G];simp
 rw[<-hp]at I c;exact⟨w,i,k,j,s,b,lt,v,⟨W,z⟩,G,⟨r,g,J,N⟩,I,hs,hb,O,U,V,c.symm⟩
variable {k:Nat} {j:lH}
theorem Fk.parts{st:Stat}{x y:a_}{w:Wt}{i:Nat}{s:gI}{b:List Bool}{lt:Lt}{v:Int}(h:Fk st x y w i k j s b lt v):
  y.ends=dD x.ends/\y.busy=x.busy.set j.step (b.set j.machine false)/\y.now=x.now/\y.done=x.done++[S9 x k j lt.name (tC st ⟨lt.name,k,j.step,v+1⟩)]/\∃j',y.jobs=x.jobs.set (bU st w) j'/\j'.made.lot=j.made.lot/\j'.made.panel=j.made.panel:=by
 obtain⟨_,_,_,_,_,_,_,_,_,c⟩:=h;subst c;unfold mM;simp only;split
 ·exact⟨rfl,rfl,rfl,rfl,_,rfl,rfl,rfl⟩
 split
 ·exact⟨rfl,rfl,rfl,rfl,_,rfl,rfl,rfl⟩
 exact⟨rfl,rfl,rfl,rfl,_,rfl,rfl,rfl⟩
theorem SZ.alone{st:Stat}{x:a_}(h:SZ st x){w:Wt}{W:List Wt}(c:x.ends=w::W):∀u∈dD x.ends,u.2≠w.2:=by
 intro u z e;have D:=h.un w.2;have G:bK (fun u=>if u.2=w.2 then 1 else 0) (dD x.ends)+(if w.2=w.2 then 1 else 0)=bK (fun u=>if u.2=w.2 then 1 else 0) x.ends:=by rw[c];exact oS w W
 simp only[qH]at G;unfold qE at D;have I:=jO (f:=fun u=>if u.2=w.2 then 1 else 0) z;simp only[qH e]at I;omega
theorem SZ.JV{st:Stat}{x:a_}(h:SZ st x){i:Nat}{a:Wt}{q:List Wt}(c:x.queues[i]?=some q)(z:a∈q):∀u∈x.ends,u.2≠a.2:=by
 intro u D e;have G:=h.un a.2;have I:=jO (f:=fun u=>if u.2=a.2 then 1 else 0) D;have J:=jO (f:=fun u=>if u.2=a.2 then 1 else 0) z;have b2:=sL (f:=fun u=>if u.2=a.2 then 1 else 0) (aj c);simp only[qH e,qH]at I J;unfold qE at G;omega
def sZ(y x:dQ):Prop:=y.till<=x.from_\/x.till<=y.from_\/¬(x.step=y.step/\x.machine=y.machine\/x.lot=y.lot/\x.panel=y.panel)
def Ad(j:lH):ByteArray×Int:=(j.made.lot,j.made.panel)
structure kR(st:Stat)(K:List (ByteArray×Int))(x:a_):Prop where
 kj:x.jobs.map Ad=K
 bl:∀(i:Nat) b s,x.busy[i]?=some b->st.steps[i]?=some s->b.length=s.machines.toNat
 we:∀w∈x.ends,∃j s b,x.jobs[bU st w]?=some j/\st.steps[j.step]?=some s/\x.busy[j.step]?=some b/\b[j.machine]?=some true/\w.1=j.from_+s.minutes/\0<=j.from_/\j.from_<=x.now
 ds:∀w∈x.ends,∀u∈x.ends,∀j j',x.jobs[bU st w]?=some j->x.jobs[bU st u]?=some j'->j.step=j'.step->j.machine=j'.machine->w.2=u.2
 d1:∀d∈x.done,∃(k m:Nat) (s:gI),d.step=k/\st.steps[k]?=some s/\d.machine=m/\m<s.machines.toNat/\d.till=d.from_+s.minutes/\d.till<=x.now/\0<=d.from_
 dw:∀d∈x.done,∀w∈x.ends,∀j,x.jobs[bU st w]?=some j->(d.step=j.step/\d.machine=j.machine\/d.lot=j.made.lot/\d.panel=j.made.panel)->d.till<=j.from_
 dp:x.done.Pairwise sZ
structure Ae(st:Stat)(K:List (ByteArray×Int)):Prop where
 at_:∀i k r g lt,st.gs[i]?=some r->r[k]?=some g->st.lots[i]?=some lt->K[pos st.gs i k]?=some (lt.name,(k:Int))
 inj:∀w u p,yq st w->yq st u->K[bU st w]?=some p->K[bU st u]?=some p->w.2=u.2
theorem kR.fin{st:Stat}{K:List (ByteArray×Int)}(hK:Ae st K){x y:a_}(h:SZ st x)(a:kR st K x)(hy:M.eI st x=some y):kR st K y:=by
 obtain⟨w,i,k,j,s,b,lt,v,E⟩:=h.MD hy;obtain⟨y1,y2,y3,y4,j',y5,y6,y7⟩:=E.parts;obtain⟨⟨W,he⟩,hw,⟨r,g,On,xd⟩,J,hs,hb,hm,hl,hv,_⟩:=E;have O:w∈x.ends:=by rw[he];exact dJ
 have U:=(h.ew w O).1;have Pt:=h.alone he;have V:∀u∈y.ends,u∈x.ends/\u.2≠w.2:=fun u D=>by rw[y1]at D;exact⟨lK D,Pt u D⟩
 have Z:∀u∈y.ends,y.jobs[bU st u]?=x.jobs[bU st u]?:=fun u D=>by
  obtain⟨h1,h2⟩:=V u D;rw[y5,gK J,af fun e=>h2 ((h.ew u h1).1.inj U e)]
 have DM:K[bU st w]?=some (j.made.lot,j.made.panel):=by rw[<-a.kj,ao,J];rfl
 have ME:(j.made.lot,j.made.panel)=(lt.name,(k:Int)):=by
  have:=hK.at_ i k r g lt On xd hl;have hp:bU st w=pos st.gs i k:=by rw[bU,hw];simp
  rw[<-hp,DM]at this;injection this
 injection ME with MF MG;obtain⟨j0,s0,b0,e1,e2,e3,e4,e5,e6,e7⟩:=a.we w O;rw[J]at e1;injection e1 with e1;subst e1;rw[hs]at e2;injection e2 with e2;subst e2;have FB:w.1=x.now:=by rw[hw]
 refine⟨?_,fun n c t G ht=>?_,fun u D=>?_,fun u D z hz p q hp hq h1 h2=>?_,fun d I=>?_,fun d I u D p hp G=>?_,?_⟩
 ·rw[y5,oW,show Ad j'=Ad j by rw[Ad,Ad,y6,y7],<-a.kj];exact dP (by rw[ao,J];rfl)
 ·rw[y2,eR hb]at G;split at G
  ·rename_i e;injection G with G;subst G;rw[cu];exact a.bl n b t (by rw[e];exact hb) ht
  exact a.bl n c t G ht
 ·obtain⟨N,u2⟩:=V u D;obtain⟨p,t,c,c1,c2,Y,c4,c5,c6,c7⟩:=a.we u N;rw[Z u D,y2,y3];by_cases e:p.step=j.step
  ·rw[e,hb]at Y;injection Y with Y;subst Y;refine⟨p,t,_,c1,c2,by rw[eR hb,qH e],?_,c5,c6,c7⟩;have bO:p.machine≠j.machine:=fun em=>u2 (a.ds u N w O p j c1 J e em);rw[bY (fun e=>bO e.symm)];exact c4
  exact⟨p,t,c,c1,c2,by rw[eR hb,af e];exact Y,c4,c5,c6,c7⟩
 ·rw[Z u D]at hp;rw[Z z hz]at hq;exact a.ds u (V u D).1 z (V z hz).1 p q hp hq h1 h2
 ·rw[y4,cD,n9]at I;rw[y3];rcases I with I | rfl
  ·exact a.d1 d I
  exact⟨j.step,j.machine,s,rfl,hs,rfl,by rw[<-a.bl _ b s hb hs];exact hm,by show x.now=j.from_+s.minutes;omega,Vd _,e6⟩
 ·obtain⟨N,u2⟩:=V u D;rw[Z u D]at hp;rw[y4,cD,n9]at I;rcases I with I | rfl
  ·exact a.dw d I u N p hp G
  exfalso;rcases G with⟨c1,c2⟩ | ⟨c1,c2⟩
  ·have c1:(j.step:Int)=p.step:=c1;have c2:(j.machine:Int)=p.machine:=c2;exact u2 (a.ds u N w O p j hp J (by omega) (by omega))
  have c1:lt.name=p.made.lot:=c1;have c2:(k:Int)=p.made.panel:=c2;refine u2 (hK.inj u w (lt.name,(k:Int)) (h.ew u N).1 U ?_ ?_)
  ·rw[<-a.kj,ao,hp,c1,c2];rfl
  rw[DM,MF,MG]
 rw[y4,jW];refine⟨a.dp,qQ ..,fun d I e j6=>?_⟩;rw[n9]at j6;subst j6;by_cases G:(j.step:Int)=d.step/\(j.machine:Int)=d.machine\/lt.name=d.lot/\(k:Int)=d.panel
 ·left;refine a.dw d I w O j J ?_;rcases G with⟨c1,c2⟩ | ⟨c1,c2⟩
  ·exact .inl ⟨c1.symm,c2.symm⟩
  exact .inr ⟨by rw[MF,c1],by rw[MG,c2]⟩
 exact .inr (.inr G)
theorem Hc{b:List Bool}(h:dR b<b.length):b[dR b]?=some false:=by
 rw[aM h];have:=S7 (p:=fun x=>!x) (w:=h);have e:b[dR b]=false:=by
  show b[List.findIdx (fun x=>!x) b]=false;simpa using this
 rw[e]
theorem kR.start{st:Stat}{K:List (ByteArray×Int)}{i:Nat}{x y:a_}(h:SZ st x)(a:kR st K x)(G:M.du st i x=some y):kR st K y:=by
 unfold M.du at G;split at G
 ·rename_i s u Q b h1 h2 U;split at G
  ·rename_i hc;split at G
   ·rename_i j hj;injection G with G;have Pt:=h.JV h2 dJ;have dq:=aj h2;have hok:=h.sv.qw _ dq u dJ;have KF:j.step=i:=by
     obtain⟨j2,c1,c2⟩:=h.qs i _ u h2 dJ;rw[hj]at c1;injection c1 with c1;rw[c1];exact c2
    have y1:y.jobs=x.jobs.set (bU st u) { j with machine:=dR b,from_:=x.now }:=by rw[<-G];rfl
    have y2:y.ends=eH x.ends (x.now+s.minutes,u.2.1,u.2.2):=by rw[<-G];rfl
    have y3:y.busy=x.busy.set i (b.set (dR b) true):=by rw[<-G];rfl
    have y4:y.now=x.now:=by rw[<-G];rfl
    have y5:y.done=x.done:=by rw[<-G];rfl
    have eu:((x.now+s.minutes,u.2.1,u.2.2):Wt).2=u.2:=rfl;have Y:∀w∈y.ends,w∈x.ends\/w=(x.now+s.minutes,u.2.1,u.2.2):=fun w D=>by rw[y2]at D;exact Th D
    have old:∀w∈x.ends,y.jobs[bU st w]?=x.jobs[bU st w]?:=fun w D=>by
     rw[y1,gK hj,af fun e=>Pt w D ((h.ew w D).1.inj hok e)]
    have new:y.jobs[bU st (x.now+s.minutes,u.2.1,u.2.2)]?=some { j with machine:=dR b,from_:=x.now }:=by
     rw[wv eu,y1,gK hj,qH rfl]
    have Sb:=Hc hc.2;have tZ:∀w∈x.ends,∀p,x.jobs[bU st w]?=some p->p.step=i->p.machine≠dR b:=fun w D p hp e em=>by
     obtain⟨p2,t,c,c1,c2,I,Z,_⟩:=a.we w D;rw[hp]at c1;injection c1 with c1;subst c1;rw[e,U]at I;injection I with I;subst I;rw[em,Sb]at Z;cases Z
    refine⟨?_,fun n c t J ht=>?_,fun w D=>?_,fun w D z N p q hp O g1 g2=>?_,fun d V=>?_,fun d V w D p hp J=>?_,by rw[y5];exact a.dp⟩
    ·rw[y1,oW,<-a.kj];exact dP (by rw[ao,hj];rfl)
    ·rw[y3,eR U]at J;split at J
     ·rename_i e;injection J with J;subst J;rw[cu];exact a.bl n b t (by rw[e];exact U) ht
     exact a.bl n c t J ht
    ·rw[y4];rcases Y w D with D | rfl
     ·obtain⟨p,t,c,c1,c2,I,Z,c5,c6,c7⟩:=a.we w D;rw[old w D,y3];by_cases e:p.step=i
      ·rw[e,U]at I;injection I with I;subst I;refine⟨p,t,_,c1,c2,by rw[eR U,qH e],?_,c5,c6,c7⟩;rw[bY (fun em=>tZ w D p c1 e em.symm)];exact Z
      exact⟨p,t,c,c1,c2,by rw[eR U,af e];exact I,Z,c5,c6,c7⟩
     rw[new,y3];refine⟨_,s,b.set (dR b) true,rfl,by show st.steps[j.step]?=_;rw[KF];exact h1,by show (x.busy.set i _)[j.step]?=_;rw[KF,eR U,qH rfl],?_,rfl,h.sv.now.1,Vd _⟩;show (b.set (dR b) true)[dR b]?=some true;rw[bQ hc.2]
    ·rcases Y w D with D | rfl
     ·rw[old w D]at hp;rcases Y z N with N | rfl
      ·rw[old z N]at O;exact a.ds w D z N p q hp O g1 g2
      rw[new]at O;injection O with O;subst O;exact absurd g2 (tZ w D p hp (g1.trans KF))
     rw[new]at hp;injection hp with hp;subst hp;rcases Y z N with N | rfl
     ·rw[old z N]at O;exact absurd g2.symm (tZ z N q O (g1.symm.trans KF))
     rfl
    ·rw[y5]at V;rw[y4];exact a.d1 d V
    rw[y5]at V;rcases Y w D with D | rfl
    ·rw[old w D]at hp;exact a.dw d V w D p hp J
    rw[new]at hp;injection hp with hp;subst hp;obtain⟨_,_,_,_,_,_,_,_,d6,_⟩:=a.d1 d V;exact d6
   cases G
  cases G
 cases G
theorem kR.now{st:Stat}{K:List (ByteArray×Int)}{x:a_}(a:kR st K x){t:Int}(ht:x.now<t):kR st K { x with now:=t }:=by
 refine⟨a.kj,a.bl,fun w J=>?_,a.ds,fun d N=>?_,a.dw,a.dp⟩
 ·obtain⟨j,s,b,c1,c2,c,z,D,G,I⟩:=a.we w J;exact⟨j,s,b,c1,c2,c,z,D,G,by show j.from_<=t;omega⟩
 obtain⟨k,m,s,c1,c2,c,z,D,G,I⟩:=a.d1 d N;exact⟨k,m,s,c1,c2,c,z,D,by show d.till<=t;omega,I⟩
theorem kR.run{st:Stat}{K:List (ByteArray×Int)}(c:Ae st K){x:a_}(h:SZ st x)(a:kR st K x):kR st K (M.iV st x):=
 h.ind (kR st K) (fun _ _ h a=>a.fin c h) (fun _ _ _ h a=>a.start h) (fun _ _ _ a z _=>a.now z) a
def qz(x:Lt):List (ByteArray×Int):=(List.range x.panels.toNat).map fun (k:Nat)=>(x.name,(k:Int))
def fZ(l:List Lt):List (ByteArray×Int):=l.flatMap qz
theorem CV(s:List gI)(x:Lt):(iP s x x.panels.toNat).map Ad=qz x:=by
 rw[iP,ib];rfl
theorem CW(s:List gI)(l:List Lt):(gh s l).map Ad=fZ l:=by
 rw[gh,List.map_flatMap,fZ];congr 1;funext x;exact CV s x
theorem CX(l:List Lt):(fZ l).length=(l.map fun x=>x.panels.toNat).sum:=by
 induction l with
 | nil=>rfl
 | cons x l ih=>
  simp only[fZ,fT,fj,qO,SX]at ih ⊢;rw[ih];simp[qz]
theorem Yh(x:Lt)(h:k<x.panels.toNat):(qz x)[k]?=some (x.name,(k:Int)):=by
 rw[qz,ao,fG h];rfl
theorem fC(x:Lt):(qz x).length=x.panels.toNat:=by simp[qz]
def Ii(l:List Lt):List (List Nat):=l.map fun x=>List.replicate x.panels.toNat 0
theorem yg:∀{l:List Lt} {i k:Nat} {x:Lt},l[i]?=some x->k<x.panels.toNat->(fZ l)[pos (Ii l) i k]?=some (x.name,(k:Int))
 | [],i,k,x,h,_=>by simp at h
 | a::l,0,k,x,h,hk=>by
  simp at h;subst h;simp only[pos,oX,rA,Bv,ae,fZ,fT];rw[ba (by rw[fC];exact hk)];exact Yh a hk
 | a::l,i+1,k,x,h,hk=>by
  have ih:=yg (l:=l) (i:=i) (k:=k) (by simpa using h) hk;rw[Ii,qO,lM,uX];simp only[fZ,fT]at ih ⊢;rw[bd (by rw[fC];omega),fC,qZ];exact ih
variable {s:List gI} {l:List Lt}
theorem vP{b:List Fl}(hl:gL Lt.name l):Ae (MC s l b) (fZ l):=by
 have Pu:∀(i:Nat) (r:List Nat),(Ii l)[i]?=some r->∃x:Lt,l[i]?=some x/\r.length=x.panels.toNat:=fun i r D=>by
  rw[Ii,ao]at D;obtain⟨x,c,rfl⟩:=az.1 D;exact⟨x,c,uX ..⟩
 have I:∀(i k:Nat) (r:List Nat) (g:Nat),(Ii l)[i]?=some r->r[k]?=some g->∃x,l[i]?=some x/\(fZ l)[pos (Ii l) i k]?=some (x.name,(k:Int)):=fun i k r g D J=>by
  obtain⟨x,c,hlen⟩:=Pu i r D;exact⟨x,c,yg c (by have:=ah J;omega)⟩
 refine⟨fun i k r g lt D J G=>?_,fun w u p hw hu N O=>?_⟩
 ·obtain⟨x,c,h⟩:=I i k r g D J;have G:l[i]?=some lt:=G;rw[c]at G;injection G with G;rw[<-G];exact h
 obtain⟨i,k,r,g,U,V,a3,a4⟩:=hw;obtain⟨i',k',r',g',Y,Z,b3,b4⟩:=hu;obtain⟨x,c,Sc⟩:=I i k r g a3 a4;obtain⟨y,hy,Pw⟩:=I i' k' r' g' b3 b4;rw[bU,U,V,c8,c8]at N;rw[bU,Y,Z,c8,c8]at O;have e1:some p=some (x.name,(k:Int)):=N.symm.trans Sc;have z:some p=some (y.name,(k':Int)):=O.symm.trans Pw;rw[e1]at z;injection z with z;injection z with z e3;have ei:i=i':=by
  rcases gC i i' with h | h | h
  ·have:=c_ hl c hy h;rw[z,db]at this;cases this
  ·exact h
  have:=c_ hl hy c h;rw[z,db]at this;cases this
 exact UC (by rw[U,Y,ei]) (by rw[V,Z,e3])
theorem kR.zero{b:List Fl}:kR (MC s l b) (fZ l) (fY s l):=by
 refine⟨CW s l,fun i c t z D=>?_,fun w G=>(by cases G),fun w G=>(by cases G),fun d I=>(by cases I),fun d I=>(by cases I),List.Pairwise.nil⟩;have z:(s.map mX)[i]?=some c:=z;have D:s[i]?=some t:=D;rw[ao,D]at z;injection z with z;rw[<-z];exact uX ..
structure JW(s:List gI)(l:List Lt)(D:List dQ)(M:List Made):Prop where
 len:D.length<=7500000
 d1:∀d∈D,∃(k m:Nat) (t:gI),d.step=k/\s[k]?=some t/\d.machine=m/\(m:Int)<t.machines/\d.till=d.from_+t.minutes/\d.till<=1000000000000000/\0<=d.from_
 dp:D.Pairwise sZ
 ks:(M.map fun m=>(m.lot,m.panel))=fZ l
theorem sZ.symm{x y:dQ}(h:sZ x y):sZ y x:=by
 rcases h with h | h | h
 ·exact .inr (.inl h)
 ·exact .inl h
 refine .inr (.inr fun c=>h ?_);rcases c with⟨a,b⟩ | ⟨a,b⟩
 ·exact .inl ⟨a.symm,b.symm⟩
 exact .inr ⟨a.symm,b.symm⟩
theorem Fm{b:List Fl}(D:cz s=0)(c:cA l=0):JW s l (iO (pW s l b).done) ((pW s l b).jobs.map lH.made):=by
 have G:=SZ.pW (b:=b) D c;have I:=SZ.zero (b:=b) (gs:=Ii l) D c (by rw[Ii,ib];exact vz fun x _=>uX ..);have z:kR (MC s l b) (fZ l) (pW s l b):=kR.run (vP (oZ c).2.1) I kR.zero;obtain⟨hp,_⟩:=sV (pW s l b).done;refine⟨?_,fun d J=>?_,(hp.pairwise_iff fun h=>h.symm).2 z.dp,?_⟩
 ·rw[hp.length_eq];have:=G.dn;have e:WD=15000000:=rfl;omega
 ·obtain⟨k,m,t,c1,c2,N,c4,O,c6,U⟩:=z.d1 d (hp.mem_iff.1 J);have:=G.sv.now;exact⟨k,m,t,c1,c2,N,by omega,O,by omega,U⟩
 rw[ib];exact z.kj
def TX(p:ByteArray×Int)(d:dQ):Bool:=decide (d.lot=p.1)&&decide (d.panel=p.2)
theorem Uf(p:ByteArray×Int)(d:dQ):TX p d=true↔(d.lot,d.panel)=p:=by
 obtain⟨a,b⟩:=p;simp[TX]
def TJ(S:List gI)(d:dQ):Int:=if d.good=true then d.step+1 else match S[d.step.toNat]? with
 | some s=>s.back
 | none=>0
def Tp(l:List dQ):Nat:=(l.filter fun d=>!d.good).length
structure Vn(S:List gI)(l:List dQ):Prop where
 h0:∀d,l[0]?=some d->d.step=0
 adj:∀(i:Nat) a b,l[i]?=some a->l[i+1]?=some b->a.till<=b.from_/\b.step=TJ S a
theorem Vn.app{S:List gI}{l:List dQ}{d:dQ}(h:Vn S l)(D:l=[]->d.step=0)(G:∀a,l.getLast?=some a->a.till<=d.from_/\d.step=TJ S a):Vn S (l++[d]):=by
 refine⟨fun e c=>?_,fun i a b z hb=>?_⟩
 ·by_cases hl:l=[]
  ·subst hl;simp at c;subst c;exact D rfl
  rw[ba (List.length_pos_iff.2 hl)]at c;exact h.h0 e c
 by_cases I:i+1<l.length
 ·rw[ba (by omega)]at z;rw[ba I]at hb;exact h.adj i a b z hb
 have J:=ah hb;rw[fj,aw]at J;have e:i+1=l.length:=by omega
 rw[bd (by omega),e,gX]at hb;injection hb with hb;subst hb;rw[ba (by omega)]at z;exact G a (by rw[List.getLast?_eq_getElem?,show l.length-1=i by omega];exact z)
theorem TY(l:List dQ)(d:dQ):Tp (l++[d])=Tp l+(if d.good=true then 0 else 1):=by
 unfold Tp;rw[wh,fj];cases h:d.good<;>simp[h]
def VS(st:Stat)(j:lH)(l:List dQ):Prop:=(Tp l:Int)=j.made.rework/\(l=[]->j.step=0)/\(∀a,l.getLast?=some a->(j.step:Int)=TJ st.steps a)/\l.length+nC st j<=6*st.steps.length
def VT(st:Stat)(j:lH)(l:List dQ):Prop:=l.length<=6*st.steps.length/\∃a,l.getLast?=some a/\a.till=j.made.at_/\(j.made.done=true/\a.good=true/\a.step+1=st.steps.length/\(Tp l:Int)=j.made.rework\/j.made.done=false/\a.good=false/\(Tp l:Int)=j.made.rework+1)
structure Tw(st:Stat)(K:List (ByteArray×Int))(x:a_):Prop where
 a:kR st K x
 bz:∀(i:Nat) b (c:Nat),x.busy[i]?=some b->b[c]?=some true->∃w∈x.ends,∃j,x.jobs[bU st w]?=some j/\j.step=i/\j.machine=c
 qn:∀(i:Nat) q w,x.queues[i]?=some q->w∈q->0<i->w.1<=x.now
 dk:∀d∈x.done,(d.lot,d.panel)∈K
 tr:∀w,yq st w->∀j p,x.jobs[bU st w]?=some j->K[bU st w]?=some p->Vn st.steps (x.done.filter (TX p))/\(0<qE x w.2/\VS st j (x.done.filter (TX p))\/qE x w.2=0/\VT st j (x.done.filter (TX p)))
theorem TQ{f:Wt->Nat}:∀{l:List Wt},0<bK f l->∃w∈l,0<f w
 | [],h=>by simp[bK]at h
 | a::l,h=>by
  simp only[bK,qO,SX]at h;by_cases c:0<f a
  ·exact⟨a,dJ,c⟩
  obtain⟨w,z,D⟩:=TQ (f:=f) (l:=l) (by unfold bK;omega);exact⟨w,An _ z,D⟩
variable {u:Wt}
theorem Vo{W:List Wt}{w:Wt}(c:u∈w::W)(z:u.2≠w.2):∃v∈dD (w::W),v.2=u.2:=by
 have D:=jO (f:=fun v:Wt=>if v.2=u.2 then 1 else 0) c;have G:=oS (f:=fun v:Wt=>if v.2=u.2 then 1 else 0) w W;simp only[qH,af (fun e=>z (Eq.symm e))]at D G;obtain⟨v,I,J⟩:=TQ (f:=fun v:Wt=>if v.2=u.2 then 1 else 0) (l:=dD (w::W)) (by omega);refine⟨v,I,?_⟩;by_cases e:v.2=u.2
 ·exact e
 simp only[af e]at J;omega
theorem U2{l:List Wt}{a:Wt}(c:u∈l):∃v∈eH l a,v.2=u.2:=by
 have z:=jO (f:=fun v:Wt=>if v.2=u.2 then 1 else 0) c;have h2:=jM (f:=fun v:Wt=>if v.2=u.2 then 1 else 0) l a;simp only[qH]at z;obtain⟨v,D,G⟩:=TQ (f:=fun v:Wt=>if v.2=u.2 then 1 else 0) (l:=eH l a) (by omega);refine⟨v,D,?_⟩;by_cases e:v.2=u.2
 ·exact e
 simp only[af e]at G;omega
theorem Vw(l:List Wt)(a:Wt):∃v∈eH l a,v.2=a.2:=by
 have c:=jM (f:=fun v:Wt=>if v.2=a.2 then 1 else 0) l a;simp only[qH]at c;obtain⟨v,z,D⟩:=TQ (f:=fun v:Wt=>if v.2=a.2 then 1 else 0) (l:=eH l a) (by omega);refine⟨v,z,?_⟩;by_cases e:v.2=a.2
 ·exact e
 simp only[af e]at D;omega
theorem Vx{x:a_}{w:Wt}(h:w∈x.ends):0<qE x w.2:=by
 have c:=jO (f:=fun v:Wt=>if v.2=w.2 then 1 else 0) h;simp only[qH]at c;unfold qE;omega
structure VX(st:Stat)(x y:a_)(w:Wt)(k:Nat)(j j':lH)(lt:Lt)(bad:Bool):Prop where
 yj:y.jobs=x.jobs.set (bU st w) j'
 yd:y.done=x.done++[S9 x k j lt.name bad]
 VR:(∃q,x.queues[j'.step]?=some q/\y.queues=x.queues.set j'.step (eH q w)/\(j'.step:Int)=TJ st.steps (S9 x k j lt.name bad)/\j'.made.rework=j.made.rework+(if bad=true then 1 else 0)/\nC st j'+1<=nC st j)\/(y.queues=x.queues/\j'.made.at_=x.now/\j'.made.done=!bad/\j'.made.rework=j.made.rework/\(bad=false->j.step+1=st.steps.length))
theorem Fk.VR{st:Stat}{x y:a_}(h:SZ st x){w:Wt}{i k:Nat}{s:gI}{b:List Bool}{lt:Lt}{v:Int}(E:Fk st x y w i k j s b lt v):∃j',VX st x y w k j j' lt (tC st ⟨lt.name,k,j.step,v+1⟩):=by
 obtain⟨_,_,_,O,hs,hb,hm,hl,hv,I⟩:=E;have ls:=ah hs;have jv:=h.jv j (aj O);have Wh:=h.hb j.step s hs;generalize tC st ⟨lt.name,k,j.step,v+1⟩=bad at I ⊢;have J:∀n,n<st.steps.length->∃q,x.queues[n]?=some q/\bF x n=q:=fun n U=>by
  obtain⟨q,N⟩:=a8 (l:=x.queues) (i:=n) (by rw[h.sv.ql];exact U);exact⟨q,N,by rw[bF,N];rfl⟩
 subst I;unfold mM;simp only;split
 ·rename_i z;obtain⟨q,D,G⟩:=J s.back.toNat (by omega);refine⟨{ kQ j v with step:=s.back.toNat,made:={ j.made with rework:=j.made.rework+1 } },rfl,rfl,.inl ⟨q,D,?_,?_,?_,?_⟩⟩
  ·show x.queues.set s.back.toNat (eH (bF x s.back.toNat) w)=_;rw[G]
  ·rw[TJ,z.1];show (s.back.toNat:Int)=if (!true)=true then _ else match st.steps[((j.step:Nat):Int).toNat]? with
    | some s=>s.back
    | none=>0
   rw[c8,hs];simp only[kf,qU,if_false];omega
  ·rw[z.1,qH rfl]
  show (5-(j.made.rework+1)).toNat*st.steps.length+(st.steps.length-s.back.toNat)+1<=(5-j.made.rework).toNat*st.steps.length+(st.steps.length-j.step);have e:(5-j.made.rework).toNat=(5-(j.made.rework+1)).toNat+1:=by omega
  rw[e,qI];omega
 rename_i z;split
 ·rename_i c;refine⟨{ kQ j v with made:={ j.made with done:=!bad,at_:=x.now } },rfl,rfl,.inr ⟨rfl,rfl,rfl,rfl,fun hb=>?_⟩⟩;rcases c with h | h
  ·rw[hb]at h;cases h
  exact h
 rename_i c;have hb:bad=false:=by
  cases bad with
  | true=>exact absurd (.inl rfl) c
  | false=>rfl
 have bO:j.step+1≠st.steps.length:=fun e=>c (.inr e);obtain⟨q,D,G⟩:=J (j.step+1) (by omega);refine⟨{ kQ j v with step:=j.step+1 },rfl,rfl,.inl ⟨q,D,?_,?_,?_,?_⟩⟩
 ·show x.queues.set (j.step+1) (eH (bF x (j.step+1)) w)=_;rw[G]
 ·rw[hb];show ((j.step+1:Nat):Int)=(j.step:Int)+1;omega
 ·rw[hb];show j.made.rework=j.made.rework+0;omega
 show (5-j.made.rework).toNat*st.steps.length+(st.steps.length-(j.step+1))+1<=(5-j.made.rework).toNat*st.steps.length+(st.steps.length-j.step);omega
theorem Um{p:ByteArray×Int}(l:List dQ)(d:dQ):(l++[d]).filter (TX p)=l.filter (TX p)++(if (d.lot,d.panel)=p then [d] else []):=by
 rw[wh];congr 1;by_cases e:(d.lot,d.panel)=p
 ·rw[qH e,ma,qH ((Uf p d).2 e)];rfl
 rw[af e,ma,af fun h=>e ((Uf p d).1 h)];rfl
theorem Vy{st:Stat}{x:a_}(h:SZ st x){m:Nat}(c:x.jobs[m]?=some j):1<=nC st j:=by
 have:=(h.jv j (aj c)).1;unfold nC;omega
theorem Tw.fin{st:Stat}{K:List (ByteArray×Int)}(hK:Ae st K){x y:a_}(h:SZ st x)(f:Tw st K x)(hy:M.eI st x=some y):Tw st K y:=by
 have fa:=f.a.fin hK h hy;obtain⟨w,i,k,j,s,b,lt,v,E⟩:=h.MD hy;obtain⟨y1,y2,y3,_,_⟩:=E.parts;obtain⟨j',F⟩:=E.VR h;obtain⟨⟨W,he⟩,hw,⟨r,g,On,xd⟩,O,hs,hb,hm,hl,hv,_⟩:=E;generalize tC st ⟨lt.name,k,j.step,v+1⟩=bad at F;obtain⟨yj,yd,VR⟩:=F;have E4:w∈x.ends:=by rw[he];exact dJ
 have U:=(h.ew w E4).1;have Pt:=h.alone he;have FB:w.1=x.now:=by rw[hw]
 have Y:K[bU st w]?=some (lt.name,(k:Int)):=by
  have:=hK.at_ i k r g lt On xd hl;rw[bU,hw];simpa using this
 have jobs:∀u,yq st u->u.2≠w.2->y.jobs[bU st u]?=x.jobs[bU st u]?:=fun u I ne=>by
  rw[yj,gK O,af fun e=>ne (I.inj U e)]
 have JG:∀q:Int×Int,bK (fun u=>if u.2=q then 1 else 0) (dD x.ends)+(if w.2=q then 1 else 0)=bK (fun u=>if u.2=q then 1 else 0) x.ends:=fun q=>by rw[he];exact oS w W
 have VY:∀q:Int×Int,q≠w.2->qE y q=qE x q:=fun q N=>by
  have h1:=JG q;rw[af fun e=>N e.symm]at h1;unfold qE;rw[y1];rcases VR with⟨Q,Z,J,_⟩ | ⟨J,_⟩
  ·have h2:=jN (f:=fun u=>if u.2=q then 1 else 0) (eH Q w) Z;rw[jM,af fun e=>N e.symm]at h2;rw[J];omega
  rw[J];omega
 refine⟨fa,fun n c m D hc=>?_,fun n q u D I h0=>?_,fun d hd=>?_,fun u I p q hp N=>?_⟩
 ·rw[y2,eR hb]at D;have old:∃u∈x.ends,∃p,x.jobs[bU st u]?=some p/\p.step=n/\p.machine=m/\u.2≠w.2:=by
   split at D
   ·rename_i e;injection D with D;subst D;have bO:j.machine≠m:=fun em=>by
     rw[em,bQ (by omega)]at hc;cases hc
    rw[bY bO]at hc;obtain⟨u,u1,p,G,u3,u4⟩:=f.bz n b m (by rw[e];exact hb) hc;refine⟨u,u1,p,G,u3,u4,fun e2=>?_⟩;rw[wv e2,O]at G;injection G with G;exact bO (by rw[G];exact u4)
   rename_i e;obtain⟨u,u1,p,G,u3,u4⟩:=f.bz n c m D hc;refine⟨u,u1,p,G,u3,u4,fun e2=>?_⟩;rw[wv e2,O]at G;injection G with G;exact e (by rw[G];exact u3.symm)
  obtain⟨u,u1,p,G,u3,u4,u5⟩:=old;obtain⟨z,z1,z2⟩:=Vo (W:=W) (w:=w) (he▸u1) u5;refine⟨z,by rw[y1,he];exact z1,p,?_,u3,u4⟩;rw[wv z2,jobs u (h.ew u u1).1 u5];exact G
 ·rw[y3];rcases VR with⟨Q,Z,J,_⟩ | ⟨J,_⟩
  ·rw[J,eR Z]at D;split at D
   ·rename_i e;injection D with D;subst D;rcases Th I with I | rfl
    ·exact f.qn n Q u (by rw[e];exact Z) I h0
    omega
   exact f.qn n q u D I h0
  rw[J]at D;exact f.qn n q u D I h0
 ·rw[yd,cD,n9]at hd;rcases hd with hd | rfl
  ·exact f.dk d hd
  exact aj Y
 by_cases e:u.2=w.2
 ·rw[wv e]at hp N;rw[Y]at N;injection N with N;subst N;rw[yj,gK O,qH rfl]at hp;injection hp with hp;subst hp;rw[yd,Um,qH (show ((S9 x k j lt.name bad).lot,(S9 x k j lt.name bad).panel)=(lt.name,(k:Int)) from rfl),e];obtain⟨t1,t2⟩:=f.tr w U j _ O Y;have c1:=Vx E4;have c2:=h.un w.2;rcases t2 with⟨_,g1,g2,g3,g4⟩ | ⟨c0,_⟩
  ·have DX:∀a,(x.done.filter (TX (lt.name,(k:Int)))).getLast?=some a->a.till<=j.from_/\(j.step:Int)=TJ st.steps a:=fun a V=>by
    have hm:=List.mem_of_getLast? V;rw[ov]at hm;have Dz:Ad j=(lt.name,(k:Int)):=by
     have:=f.a.kj;rw[<-this,ao,O]at Y;injection Y
    have e1:=(Uf _ _).1 hm.2;injection Dz with k1 k2;injection e1 with e1 e2;exact⟨f.a.dw a hm.1 w E4 j O (.inr ⟨by rw[e1,k1],by rw[e2,k2]⟩),g3 a V⟩
   refine⟨t1.app (fun D=>by show (j.step:Int)=0;rw[g2 D];rfl) DX,?_⟩;have hlen:(x.done.filter (TX (lt.name,(k:Int)))++[S9 x k j lt.name bad]).length=(x.done.filter (TX (lt.name,(k:Int)))).length+1:=by simp
   have VU:(x.done.filter (TX (lt.name,(k:Int)))++[S9 x k j lt.name bad]).getLast?=some (S9 x k j lt.name bad):=by simp
   have Q4:=TY (x.done.filter (TX (lt.name,(k:Int)))) (S9 x k j lt.name bad);have Wc:(S9 x k j lt.name bad).good=!bad:=rfl;rw[Wc]at Q4;have pp:=Vy h O;have h1:=JG w.2;rw[qH rfl]at h1;rcases VR with⟨Q,Z,J,q3,q4,q5⟩ | ⟨J,q3,q4,q5,q6⟩
   ·left;refine⟨?_,?_,fun D=>?_,fun a V=>?_,?_⟩
    ·have h2:=jN (f:=fun u=>if u.2=w.2 then 1 else 0) (eH Q w) Z;rw[jM,qH rfl]at h2;unfold qE at c1 ⊢;rw[y1,J];omega
    ·rw[Q4,q4];cases bad<;>simp<;>omega
    ·have:=iX List.length D;rw[hlen]at this;simp at this
    ·rw[VU]at V;injection V with V;rw[<-V];exact q3
    rw[hlen];omega
   right;refine⟨?_,by rw[hlen];omega,_,VU,q3.symm,?_⟩
   ·unfold qE at c1 c2 ⊢;rw[y1,J];have:=jO (f:=fun u:Wt=>if u.2=w.2 then 1 else 0) E4;simp only[qH]at this;omega
   rw[Q4,q4,q5];cases bad with
   | false=>
    left;refine⟨rfl,rfl,?_,by simp;omega⟩;have:=q6 rfl;show (j.step:Int)+1=st.steps.length;omega
   | true=>exact .inr ⟨rfl,rfl,by simp;omega⟩
  omega
 rw[jobs u I e]at hp;have bO:¬((S9 x k j lt.name bad).lot,(S9 x k j lt.name bad).panel)=q:=fun kY=>e (hK.inj u w q I U N (by rw[Y,<-kY];rfl));rw[yd,Um,af bO,fK,VY u.2 e];exact f.tr u I p q hp N
theorem Tw.start{st:Stat}{K:List (ByteArray×Int)}{i:Nat}{x y:a_}(h:SZ st x)(f:Tw st K x)(D:M.du st i x=some y):Tw st K y:=by
 have fa:=f.a.start h D;unfold M.du at D;split at D
 ·rename_i s u Q b h1 I h3;split at D
  ·rename_i hc;split at D
   ·rename_i j J;injection D with D;have Pt:=h.JV I dJ;have dq:=aj I;have O:=h.sv.qw _ dq u dJ;have KF:j.step=i:=by
     obtain⟨j2,c1,c2⟩:=h.qs i _ u I dJ;rw[J]at c1;injection c1 with c1;rw[c1];exact c2
    have U:y.jobs=x.jobs.set (bU st u) { j with machine:=dR b,from_:=x.now }:=by rw[<-D];rfl
    have V:y.ends=eH x.ends (x.now+s.minutes,u.2.1,u.2.2):=by rw[<-D];rfl
    have y3:y.busy=x.busy.set i (b.set (dR b) true):=by rw[<-D];rfl
    have y4:y.now=x.now:=by rw[<-D];rfl
    have y5:y.done=x.done:=by rw[<-D];rfl
    have y6:y.queues=x.queues.set i (dD (u::Q)):=by rw[<-D];rfl
    have eu:((x.now+s.minutes,u.2.1,u.2.2):Wt).2=u.2:=rfl;have VY:∀q,qE y q=qE x q:=fun q=>by
     unfold qE;have a1:=jN (f:=fun w=>if w.2=q then 1 else 0) (dD (u::Q)) I;have a2:=oS (f:=fun w=>if w.2=q then 1 else 0) u Q;have a3:=jM (f:=fun w=>if w.2=q then 1 else 0) x.ends (x.now+s.minutes,u.2);rw[V,y6,show ((x.now+s.minutes,u.2.1,u.2.2):Wt)=(x.now+s.minutes,u.2) from rfl];simp only at a2 a3;omega
    refine⟨fa,fun n c m G Y=>?_,fun n q w G N h0=>?_,fun d hd=>?_,fun w N p q hp hq=>?_⟩
    ·rw[y3,eR h3]at G;have old:∀c,x.busy[n]?=some c->c[m]?=some true->∃w∈y.ends,∃j,y.jobs[bU st w]?=some j/\j.step=n/\j.machine=m:=fun c hx Ss=>by
      obtain⟨w,Z,p,w2,w3,w4⟩:=f.bz n c m hx Ss;obtain⟨z,z1,z2⟩:=U2 (a:=(x.now+s.minutes,u.2.1,u.2.2)) Z;refine⟨z,by rw[V];exact z1,p,?_,w3,w4⟩;rw[wv z2,U,gK J,af fun e=>Pt w Z ((h.ew w Z).1.inj O e)];exact w2
     split at G
     ·rename_i e;injection G with G;subst G;by_cases em:dR b=m
      ·obtain⟨z,z1,z2⟩:=Vw x.ends (x.now+s.minutes,u.2.1,u.2.2);refine⟨z,by rw[V];exact z1,{ j with machine:=dR b,from_:=x.now },?_,by show j.step=n;rw[KF,e],em⟩;rw[wv (z2.trans eu),U,gK J,qH rfl]
      rw[bY em]at Y;exact old b (by rw[e];exact h3) Y
     exact old c G Y
    ·rw[y6,eR I]at G;rw[y4];split at G
     ·rename_i e;injection G with G;subst G;exact f.qn n _ w (by rw[e];exact I) (lK N) h0
     exact f.qn n q w G N h0
    ·rw[y5]at hd;exact f.dk d hd
    rw[y5,VY];rw[U,gK J]at hp;split at hp
    ·rename_i e;injection hp with hp;subst hp;obtain⟨t1,t2⟩:=f.tr w N j q (by rw[e];exact J) hq;exact⟨t1,t2.imp (fun h=>⟨h.1,h.2.1,h.2.2.1,h.2.2.2.1,h.2.2.2.2⟩) fun h=>⟨h.1,h.2.1,h.2.2⟩⟩
    exact f.tr w N p q hp hq
   cases D
  cases D
 cases D
theorem Tw.now{st:Stat}{K:List (ByteArray×Int)}{x:a_}(f:Tw st K x){t:Int}(c:x.now<t):Tw st K { x with now:=t }:=
 ⟨f.a.now c,f.bz,fun n q w z D h0=>by have:=f.qn n q w z D h0;show w.1<=t;omega,f.dk,f.tr⟩
theorem Tw.run{st:Stat}{K:List (ByteArray×Int)}(c:Ae st K){x:a_}(h:SZ st x)(f:Tw st K x):Tw st K (M.iV st x):=
 h.ind (Tw st K) (fun _ _ h a=>a.fin c h) (fun _ _ _ h a=>a.start h) (fun _ _ _ a z _=>a.now z) f
open Reg (Tb)
def Quiet(st:Stat)(i:Nat)(x:a_):Prop:=∀s a Q b,st.steps[i]?=some s->x.queues[i]?=some (a::Q)->x.busy[i]?=some b->¬(a.1<=x.now/\dR b<b.length)
theorem U3{st:Stat}{i:Nat}{x:a_}(h:SZ st x)(c:M.du st i x=none):Quiet st i x:=fun s a Q b D z G I=>by
 obtain⟨j,J,_⟩:=h.qs i _ a z dJ;unfold M.du at c;rw[D,z,G]at c;simp only[qH I,J]at c;cases c
theorem T7{st:Stat}{i:Nat}{x y:a_}(z:M.du st i x=some y):∃a Q b c,x.queues[i]?=some (a::Q)/\x.busy[i]?=some b/\y.queues=x.queues.set i (dD (a::Q))/\y.busy=x.busy.set i c/\y.now=x.now:=by
 unfold M.du at z;split at z
 ·rename_i s u Q b h1 D G;split at z
  ·split at z
   ·injection z with z;subst z;exact⟨u,Q,b,_,D,G,rfl,rfl,rfl⟩
   cases z
  cases z
 cases z
theorem TR{st:Stat}{i:Nat}(z:k≠i):∀(n:Nat) (x:a_),(M.eo n st i x).queues[k]?=x.queues[k]?/\(M.eo n st i x).busy[k]?=x.busy[k]?/\(M.eo n st i x).now=x.now
 | 0,x=>⟨rfl,rfl,rfl⟩
 | n+1,x=>by
  unfold M.eo;split
  ·rename_i y D;obtain⟨a,Q,b,c,G,I,J,N,O⟩:=T7 D;obtain⟨U,V,Y⟩:=TR (st:=st) z n y;rw[U,V,Y,J,N,O,eR G,eR I,af z,af z];exact⟨rfl,rfl,rfl⟩
  exact⟨rfl,rfl,rfl⟩
theorem TS{st:Stat}{i:Nat}:∀(n:Nat) (x:a_),SZ st x->(bF x i).length<=n->Quiet st i (M.eo n st i x)
 | 0,x,h,hn=>fun s a Q b _ z _ _=>by
  have z:x.queues[i]?=some (a::Q):=z;rw[bF,z]at hn;simp at hn
 | n+1,x,h,hn=>by
  unfold M.eo;split
  ·rename_i y D;obtain⟨a,Q,b,c,G,z,I,h4,h5⟩:=T7 D;refine TS n y (h.du D).1 ?_;rw[bF,G]at hn;rw[bF,I,eR G,qH rfl];have:=oP a Q;simp only[fR,bw]at hn ⊢;omega
  rename_i D;exact U3 h D
theorem TT{st:Stat}{i:Nat}{x:a_}(h:SZ st x)(D:k=i\/Quiet st k x):Quiet st k (dE st i x):=by
 by_cases e:k=i
 ·subst e;exact TS _ x h (aC _)
 obtain⟨G,I,J⟩:=TR (st:=st) e (bF x i).length x;intro s a Q b N c z;unfold dE at c z ⊢;rw[G]at c;rw[I]at z;rw[J];exact (D.resolve_left e) s a Q b N c z
theorem Tz{st:Stat}:∀(l:List Nat) (x:a_),SZ st x->k∈l\/Quiet st k x->Quiet st k (l.foldl (fun x i=>dE st i x) x)
 | [],x,_,c=>c.resolve_left fun h=>by cases h
 | i::l,x,h,c=>by
  rw[uY];refine Tz l _ (h.eo _).1 ?_;rcases c with c | c
  ·rcases fL.1 c with rfl | c
   ·exact .inr (TT h (.inl rfl))
   exact .inl c
  exact .inr (TT h (.inr c))
theorem UI{st:Stat}{x:a_}(h:SZ st x)(c:k<st.steps.length):Quiet st k (bV st x):=Tz _ x h (.inl (dT.2 c))
theorem UT{f:Wt->Nat}:∀{l:List (List Wt)},(∀q∈l,q=[])->eJ f l=0
 | [],_=>rfl
 | q::l,h=>by
  have:=UT (f:=f) (l:=l) fun r c=>h r (An _ c);have e:=h q dJ;subst e;simp only[eJ,qO,SX]at this ⊢;rw[this];rfl
theorem UU{n m:Nat}{x:Lt}(c:l[n]?=some x)(z:m<x.panels.toNat):∀i,n<i->1<=bK (Nn ((n:Int),(m:Int))) (dh l i)
 | 0,h=>by omega
 | i+1,h=>by
  unfold dh;by_cases e:n=i
  ·subst e;rw[c];simp only;rw[uL,qH ⟨rfl,by simp only;omega,by simp only;omega⟩];omega
  have ih:=UU c z i (by omega);split
  ·rw[uL];omega
  exact ih
theorem Tw.zero{b:List Fl}(V:cz s=0):Tw (MC s l b) (fZ l) (fY s l):=by
 obtain⟨s1,s2⟩:=o5 V;refine⟨kR.zero,fun i c m z Y=>?_,fun i q w Z G h0=>?_,fun d I=>(by cases I),fun w G j p J hp=>?_⟩
 ·exfalso;have z:(s.map mX)[i]?=some c:=z;rw[ao]at z;obtain⟨t,_,rfl⟩:=az.1 z;have:=qN (aj Y);cases this
 ·rcases Ac Z with⟨rfl,_⟩ | rfl
  ·omega
  cases G
 have J:(gh s l)[bU (MC s l b) w]?=some j:=J;obtain⟨x,_,k,_,rfl⟩:=CU (aj J);refine⟨⟨fun d I=>(by cases I),fun i a c N=>(by cases N)⟩,.inl ⟨?_,rfl,fun _=>rfl,fun a N=>(by cases N),?_⟩⟩
 ·obtain⟨i,k,r,g,a1,a2,D,a4⟩:=G;have D:(Ii l)[i]?=some r:=D;rw[Ii,ao]at D;obtain⟨y,O,rfl⟩:=az.1 D;have U:=ah a4;rw[uX]at U;have Wi:=UU O U l.length (ah O);have e:w.2=((i:Int),(k:Int)):=UC a1 a2;have hs:=Hb s1.1 (fun u:Wt=>if u.2=w.2 then 1 else 0) (dh l l.length);unfold qE;have:eJ (fun u:Wt=>if u.2=w.2 then 1 else 0) (fY s l).queues=bK (Nn ((i:Int),(k:Int))) (dh l l.length):=by
   rw[e]at hs ⊢;exact hs
  omega
 show 0+((5-0:Int).toNat*s.length+(s.length-0))<=6*s.length;rw[show (5-0:Int).toNat=5 from rfl];omega
structure eS where
 lot:ByteArray
 panel:Int
 step:Int
 came:Int
 working:Bool
 machine:Int
 from_:Int
 to_:Int
 visits:List Int
 rework:Int
 at_:Int
def WQ(x:eS)(v:HX):List HX:=[.av (.p (str x.lot)),.av (.p (i64 x.panel)),.av (.p (i64 x.step)),.av (.p (i64 x.came)),.av (.p (bool x.working)),.av (.p (i64 x.machine)),.av (.p (i64 x.from_)),.av (.p (i64 x.to_)),v,.av (.p (i64 x.rework)),.av (.p (i64 x.at_))]
def YG(x:eS):HX:=.row 3 (x.visits.map fun n=>[i64 n])
def gv(x:eS):List HX:=WQ x (YG x)
def Yi(x:eS)(v:AV):AV:=.st [.p (str x.lot),.p (i64 x.panel),.p (i64 x.step),.p (i64 x.came),.p (bool x.working),.p (i64 x.machine),.p (i64 x.from_),.p (i64 x.to_),v,.p (i64 x.rework),.p (i64 x.at_)]
def YH(s:List gI)(b:List Fl):List AV:=[.p (.sl (s.map gq)),.p (.sl (b.map CJ)),.ow 100001,.ow 90004]
def p7(s:List gI)(b:List Fl)(E:List (List HX))(D:List dQ):List (Nat×AB):=[(100000,.box (YH s b)),(100001,.ai 76 E),(90004,.row 34 (D.map dc))]
theorem gx(d:Nat)(l:List eS):(l.map gv).map (fun r=>r.map (HX.Te (sc d)))=l.map gv:=by
 rw[ib];rfl
theorem sT(i d:Nat)(l:List eS):(l.map gv).map (fun r=>r.map (HX.Te (rn i d)))=l.map gv:=by
 rw[ib];rfl
theorem eT(σ:Nat->Option Nat)(l:List eS):(l.map gv).map (fun r=>r.map (HX.Te (AV.ez σ)))=l.map gv:=by
 rw[ib];rfl
theorem XU(l:List eS):ri (l.map gv):=fun r z x c=>by
 obtain⟨q,_,rfl⟩:=fh.1 z;simp[gv,WQ,YG]at c;rcases c with rfl | rfl | rfl | rfl | rfl | rfl | rfl | rfl | rfl | rfl | rfl<;>trivial
def WA(s:List gI)(x:eS):Bool:=decide (x.step<0)||decide (x.step=s.length)
def X4(x:eS):List (Nat×AB):=[(90013,.row 3 (x.visits.map fun n=>[i64 n]))]
def Still(E:List (List HX)):Prop:=(∀d,d≠90013->E.map (fun r=>r.map (HX.Te (sc d)))=E)/\∀i d,i≠90013->d≠90013->E.map (fun r=>r.map (HX.Te (rn i d)))=E
theorem still_all(l:List eS):Still (l.map gv):=⟨fun d _=>gx d l,fun i d _ _=>sT i d l⟩
def qA(L:List eS)(i:Nat)(x:eS):List (List HX):=(L.map gv).set i (WQ x (.av (.ow 90013)))
theorem XP{d:Nat}(h:d≠90013):bB 90013 d=false:=cr.2 fun e=>h (bq e).symm
theorem still_out(L:List eS)(i:Nat)(x:eS):Still (qA L i x):=by
 refine⟨fun d c=>?_,fun a d z c=>?_⟩
 ·rw[qA,oW,gx];congr 1;have e:sc d (.ow 90013)=.ow 90013:=by
   simp only[sc,XP c]
  simp only[WQ,qO,rA,HX.Te,e];rfl
 rw[qA,oW,sT];congr 1;have e:rn a d (.ow 90013)=.ow 90013:=by
  simp only[rn,XP z,XP c]
 simp only[WQ,qO,rA,HX.Te,e];rfl
theorem XV(L:List eS)(i:Nat)(x:eS):(qA L i x).map (fun r=>r.map (HX.Te (AV.ez (rV [(100000,100000),(100001,100001),(90004,90004),(90013,90013)]))))=qA L i x:=by
 rw[qA,oW,eT];rfl
theorem Xh(L:List eS)(i:Nat)(x:eS):(qA L i x).map (fun r=>r.map (HX.Te (AV.ez (jE [(100000,100000),(100001,100001),(90004,90004),(90013,90013)]))))=qA L i x:=by
 rw[qA,oW,eT];rfl
variable {L:List eS}
theorem WT{i:Nat}{x:eS}(h:i<L.length):(qA L i x)[i]?=some (WQ x (.av (.ow 90013))):=bQ (by rw[ct];exact h)
theorem Xu(L:List eS)(i:Nat)(x:eS):(qA L i x).set i ((WQ x (.av (.ow 90013))).set 8 (YG x))=(L.set i x).map gv:=by
 rw[qA,Uz,oW];rfl
theorem YI(s:List gI)(b:List Fl)(E:List (List HX))(D:List dQ)(x:eS)(G:Still E):cR C 47 [.bx 100000 0,Yi x .junk] (p7 s b E D) (.p (bool (WA s x))) (p7 s b E D):=by
 have I:=cH s gq;refine Jr ⟨[],[],[],[],[],[]⟩ hC Tryz.func47 rfl (by kernel_rfl) fun _=>?_;apply iW<;>intro z<;>try simp only[zB]at z
 ·exact⟨iX (fun c=>AV.p (bool c)) (by simp[WA,z]),rfl,iX (AB.ai _) (G.1 3 (by decide)),Z,Y⟩
 exact⟨iX (fun c=>AV.p (bool c)) (by simp only[WA,I,z,decide_false,q8]),rfl,iX (AB.ai _) (G.1 3 (by decide)),Z,Y⟩
def Wx(i:Nat)(m:Nat)(x:eS):Bool:=x.working&&(decide (x.step=i)&&decide (x.machine=m))
def WB(i:Nat)(now:Int)(L:List eS)(YO:Int)(x:eS):Bool:=(decide (x.step=i)&&!x.working&&decide (x.came<=now))&&(decide (YO<0)||match L[YO.toNat]? with
 | some y=>decide (x.came<y.came)
 | none=>false)
def iv(i:Nat)(now:Int)(L:List eS):Nat->Int
 | 0=>-1
 | n+1=>match L[n]? with
  | some x=>if WB i now L (iv i now L n) x=true then (n:Int) else iv i now L n
  | none=>iv i now L n
def gu(now:Int)(x:eS):Int:=if x.working=true then x.to_ else if now<x.came then x.came else -1
def gy(s:List gI)(now:Int):List eS->Int->Int
 | [],o=>o
 | x::L,o=>gy s now L (if WA s x=true then o else if 0<=gu now x/\(o<0\/gu now x<o) then gu now x else o)
theorem XQ{n:Nat}{x:eS}(h:L[n]?=some x):(L.map gv)[((n:Nat):Int).toNat]?=some (gv x):=by rw[c8,ao,h];rfl
theorem W5(i:Nat)(now:Int)(L:List eS):∀n,-1<=iv i now L n/\iv i now L n<n
 | 0=>by rw[iv];omega
 | n+1=>by
  have ih:=W5 i now L n;unfold iv;split
  ·split<;>omega
  omega
theorem WZ{i:Nat}{now:Int}{n:Nat}{x:eS}(c:L[n]?=some x)(h:WB i now L (iv i now L n) x=true):iv i now L (n+1)=n:=by
 rw[iv,c];simp only;rw[qH h]
theorem WJ{i:Nat}{now:Int}{n:Nat}{x:eS}(c:L[n]?=some x)(h:WB i now L (iv i now L n) x=false):iv i now L (n+1)=iv i now L n:=by
 rw[iv,c];simp only;rw[af (by rw[h];decide)]
theorem X5(s:List gI)(b:List Fl)(L:List eS)(D:List dQ)(i:Nat)(now:Int)(hL:L.length<=1000000):cR C 51 [.bx 100000 0,.p (i64 i),.p (i64 now)] (p7 s b (L.map gv) D) (.p (i64 (iv i now L L.length))) (p7 s b (L.map gv) D):=by
 have ll:(L.map gv).length=L.length:=ct ..;refine Jr ⟨[],[],[],[],[],[]⟩ hC Tryz.func51 rfl (by kernel_rfl) fun _=>?_;refine d_ (fun n:Nat=>n<=L.length) (fun n=>[(0,.bx 100000 0),(1,.p (i64 i)),(2,.p (i64 now)),(7,.p (i64 (iv i now L n))),(8,.p (i64 n))]) (fun _=>p7 s b (L.map gv) D) (fun n=>L.length-n) 0 _ (aY.refl _ _) (nI _) ⟨Z,Z,Z,Z,Z,Y⟩ ⟨Z,Z,Z,Y⟩ fun n hn t h=>?_;apply iW<;>intro U<;>try simp only[zB]at U
 ·obtain⟨x,c⟩:=a8 (l:=L) (i:=n) (by omega);have rg:=W5 i now L n;refine⟨wO (by omega),(gv x),(XQ c),iW ?_ ?_⟩<;>intro z<;>try simp only[zB]at z
  ·apply iW<;>intro G<;>try simp only[zB]at G
   ·apply iW<;>intro I<;>try simp only[zB]at I
    ·apply iW<;>intro J<;>try simp only[zB]at J
     ·exact⟨wO (by omega),(n+1),_,aY.refl _ _,by omega,by omega,⟨rfl,rfl,rfl,kv (by rw[WZ c (by simp[WB,z,G,I,J])]),Z,Y⟩,⟨rfl,iX (AB.ai _) (gx 9 L),Z,Y⟩⟩
     obtain⟨y,N⟩:=a8 (l:=L) (i:=(iv i now L n).toNat) (by omega);refine⟨⟨by omega,by rw[ct,ct];omega⟩,(gv y),(by rw[gx,ao,N];rfl),?_⟩;apply iW<;>intro O<;>try simp only[zB]at O
     ·exact⟨wO (by omega),(n+1),_,aY.refl _ _,by omega,by omega,⟨rfl,rfl,rfl,kv (by rw[WZ c (by simp[WB,z,G,I,N,O])]),Z,Y⟩,⟨rfl,iX (AB.ai _) (gx 9 L),Z,Y⟩⟩
     exact⟨wO (by omega),(n+1),_,aY.refl _ _,by omega,by omega,⟨rfl,rfl,rfl,kv (by rw[WJ c (by simp[WB,J,N,O])]),Z,Y⟩,⟨rfl,iX (AB.ai _) (gx 9 L),Z,Y⟩⟩
    exact⟨wO (by omega),(n+1),_,aY.refl _ _,by omega,by omega,⟨rfl,rfl,rfl,kv (by rw[WJ c (by simp[WB,I])]),Z,Y⟩,⟨rfl,iX (AB.ai _) (gx 9 L),Z,Y⟩⟩
   exact⟨wO (by omega),(n+1),_,aY.refl _ _,by omega,by omega,⟨rfl,rfl,rfl,kv (by rw[WJ c (by simp[WB,G])]),Z,Y⟩,⟨rfl,iX (AB.ai _) (gx 9 L),Z,Y⟩⟩
  exact⟨wO (by omega),(n+1),_,aY.refl _ _,by omega,by omega,⟨rfl,rfl,rfl,kv (by rw[WJ c (by simp[WB,z])]),Z,Y⟩,⟨rfl,iX (AB.ai _) (gx 9 L),Z,Y⟩⟩
 have e:n=L.length:=by omega
 subst e;exact⟨Z,Z,Z,Z,Y⟩
def p6(s:List gI)(now:Int)(x:eS)(o:Int):Int:=if WA s x=true then o else if 0<=gu now x/\(o<0\/gu now x<o) then gu now x else o
theorem Yj{now o:Int}{n:Nat}{x:eS}(c:L[n]?=some x):gy s now (L.drop n) o=gy s now (L.drop (n+1)) (p6 s now x o):=by
 have hl:=ah c;rw[wz hl,gy];rw[aM hl]at c;injection c with c;rw[c];rfl
theorem Yk(s:List gI)(b:List Fl)(L:List eS)(D:List dQ)(now:Int)(hL:L.length<=1000000):cR C 22 [.bx 100000 0,.p (i64 now)] (p7 s b (L.map gv) D) (.p (i64 (gy s now L (-1)))) (p7 s b (L.map gv) D):=by
 have ll:(L.map gv).length=L.length:=ct ..;refine Jr ⟨[],[],[],[],[],[]⟩ hC Tryz.func22 rfl (by kernel_rfl) fun _=>?_;refine d_ (fun p:Nat×Int=>p.1<=L.length/\gy s now L (-1)=gy s now (L.drop p.1) p.2) (fun p=>[(0,.bx 100000 0),(1,.p (i64 now)),(5,.p (i64 p.2)),(6,.p (i64 p.1))]) (fun _=>p7 s b (L.map gv) D) (fun p=>L.length-p.1) (0,-1) _ (aY.refl _ _) ⟨nI _,rfl⟩ ⟨Z,Z,Z,Z,Y⟩ ⟨Z,Z,Z,Y⟩ fun ⟨n,o⟩ V t h=>?_;obtain⟨hn,c⟩:=V;simp only at hn c;apply iW<;>intro h1<;>try simp only[zB]at h1
 ·obtain⟨x,U⟩:=a8 (l:=L) (i:=n) (by omega);rw[Yj U]at c;refine⟨wO (by omega),(gv x),(XQ U),[(100000,100000),(100001,100001),(90004,90004)],_,_,_,_,YI s b (L.map gv) D x (still_all L),⟨rfl,rfl,rfl,iX (AB.ai _) (by simp only[gx,eT]),Z,Y⟩,iW ?_ ?_⟩<;>intro z<;>try simp only[zB]at z
  ·refine⟨⟨by dsimp only;omega,by dsimp only;omega⟩,(n+1,p6 s now x o),_,aY.refl _ _,⟨by dsimp only;omega,c⟩,by dsimp only;omega,⟨rfl,rfl,kv (by simp[p6,z]),Z,Y⟩,⟨rfl,congrArg (AB.ai _) (by first | rfl | simp only[gx,eT,sT]),Z,Y⟩⟩
  apply iW<;>intro G<;>try simp only[zB]at G
  ·apply iW<;>intro I<;>try simp only[zB]at I
   ·apply iW<;>intro J<;>try simp only[zB]at J
    ·refine⟨⟨by dsimp only;omega,by dsimp only;omega⟩,(n+1,p6 s now x o),_,aY.refl _ _,⟨by dsimp only;omega,c⟩,by dsimp only;omega,⟨rfl,rfl,kv (by simp[p6,gu,z,G,I,J]),Z,Y⟩,⟨rfl,congrArg (AB.ai _) (by first | rfl | simp only[gx,eT,sT]),Z,Y⟩⟩
    apply iW<;>intro N<;>try simp only[zB]at N
    ·refine⟨⟨by dsimp only;omega,by dsimp only;omega⟩,(n+1,p6 s now x o),_,aY.refl _ _,⟨by dsimp only;omega,c⟩,by dsimp only;omega,⟨rfl,rfl,kv (by simp[p6,gu,z,G,I,N]),Z,Y⟩,⟨rfl,congrArg (AB.ai _) (by first | rfl | simp only[gx,eT,sT]),Z,Y⟩⟩
    refine⟨⟨by dsimp only;omega,by dsimp only;omega⟩,(n+1,p6 s now x o),_,aY.refl _ _,⟨by dsimp only;omega,c⟩,by dsimp only;omega,⟨rfl,rfl,kv (by simp[p6,gu,z,G,J,N]),Z,Y⟩,⟨rfl,congrArg (AB.ai _) (by first | rfl | simp only[gx,eT,sT]),Z,Y⟩⟩
   refine⟨⟨by dsimp only;omega,by dsimp only;omega⟩,(n+1,p6 s now x o),_,aY.refl _ _,⟨by dsimp only;omega,c⟩,by dsimp only;omega,⟨rfl,rfl,kv (by simp[p6,gu,z,G,I]),Z,Y⟩,⟨rfl,congrArg (AB.ai _) (by first | rfl | simp only[gx,eT,sT]),Z,Y⟩⟩
  apply iW<;>intro O<;>try simp only[zB]at O
  ·apply iW<;>intro I<;>try simp only[zB]at I
   ·apply iW<;>intro J<;>try simp only[zB]at J
    ·refine⟨⟨by dsimp only;omega,by dsimp only;omega⟩,(n+1,p6 s now x o),_,aY.refl _ _,⟨by dsimp only;omega,c⟩,by dsimp only;omega,⟨rfl,rfl,kv (by simp[p6,gu,z,G,O,I,J]),Z,Y⟩,⟨rfl,congrArg (AB.ai _) (by first | rfl | simp only[gx,eT,sT]),Z,Y⟩⟩
    apply iW<;>intro N<;>try simp only[zB]at N
    ·refine⟨⟨by dsimp only;omega,by dsimp only;omega⟩,(n+1,p6 s now x o),_,aY.refl _ _,⟨by dsimp only;omega,c⟩,by dsimp only;omega,⟨rfl,rfl,kv (by simp[p6,gu,z,G,O,I,N]),Z,Y⟩,⟨rfl,congrArg (AB.ai _) (by first | rfl | simp only[gx,eT,sT]),Z,Y⟩⟩
    refine⟨⟨by dsimp only;omega,by dsimp only;omega⟩,(n+1,p6 s now x o),_,aY.refl _ _,⟨by dsimp only;omega,c⟩,by dsimp only;omega,⟨rfl,rfl,kv (by simp[p6,gu,z,G,O,J,N]),Z,Y⟩,⟨rfl,congrArg (AB.ai _) (by first | rfl | simp only[gx,eT,sT]),Z,Y⟩⟩
   refine⟨⟨by dsimp only;omega,by dsimp only;omega⟩,(n+1,p6 s now x o),_,aY.refl _ _,⟨by dsimp only;omega,c⟩,by dsimp only;omega,⟨rfl,rfl,kv (by simp[p6,gu,z,G,O,I]),Z,Y⟩,⟨rfl,congrArg (AB.ai _) (by first | rfl | simp only[gx,eT,sT]),Z,Y⟩⟩
  refine⟨⟨by dsimp only;omega,by dsimp only;omega⟩,(n+1,p6 s now x o),_,aY.refl _ _,⟨by dsimp only;omega,c⟩,by dsimp only;omega,⟨rfl,rfl,kv (by simp[p6,gu,z,G,O]),Z,Y⟩,⟨rfl,congrArg (AB.ai _) (by first | rfl | simp only[gx,eT,sT]),Z,Y⟩⟩
 have e:n=L.length:=by omega
 subst e;rw[List.drop_length]at c;rw[c];exact⟨Z,Z,Z,Z,Y⟩
def Wy(i:Nat)(L:List eS)(M:Nat):Nat:=(List.range M).findIdx fun m=>!(L.any (Wx i m))
theorem XG{i:Nat}{M n:Nat}(c:n<M)(z:∀m,m<n->L.any (Wx i m)=true)(D:L.any (Wx i n)=false):Wy i L M=n:=by
 unfold Wy;have hlen:(List.range M).length=M:=TB;rw[List.findIdx_eq (by rw[hlen];exact c)];refine⟨by rw[TM,D];rfl,fun m G=>?_⟩;rw[TM,z m G];rfl
theorem XH{i:Nat}{M:Nat}(c:∀m,m<M->L.any (Wx i m)=true):¬Wy i L M<M:=by
 intro h;unfold Wy at h;have hlen:(List.range M).length=M:=TB;have:=S7 (p:=fun m=>!(L.any (Wx i m))) (xs:=List.range M) (w:=by rw[hlen];exact h);rw[TM,c _ h]at this;cases this
theorem any_succ{p:eS->Bool}{n:Nat}{x:eS}(c:L[n]?=some x):(L.take (n+1)).any p=((L.take n).any p||p x):=by
 rw[bT c,Ve];simp
theorem X6(s:List gI)(b:List Fl)(L:List eS)(D:List dQ)(i:Nat)(z:gI)(hs:s[i]?=some z)(hM:0<=z.machines/\z.machines<=1000)(hL:L.length<=1000000):cR C 50 [.bx 100000 0,.p (i64 i)] (p7 s b (L.map gv) D) (.p (i64 (if Wy i L z.machines.toNat<z.machines.toNat then (Wy i L z.machines.toNat:Int) else -1))) (p7 s b (L.map gv) D):=by
 have ll:(L.map gv).length=L.length:=ct ..;have ls:=cH s gq;refine Jr ⟨[],[],[],[],[],[]⟩ hC Tryz.func50 rfl (by kernel_rfl) fun _=>?_;refine d_ (fun m:Nat=>m<=z.machines.toNat/\∀k,k<m->L.any (Wx i k)=true) (fun m=>[(0,.bx 100000 0),(1,.p (i64 i)),(5,.p (i64 m))]) (fun _=>p7 s b (L.map gv) D) (fun m=>z.machines.toNat-m) 0 _ (aY.refl _ _) ⟨nI _,fun k O=>by omega⟩ ⟨Z,Z,Z,Y⟩ ⟨Z,Z,Z,Y⟩ fun m J t h=>?_;refine⟨(gq z),(idx rfl hs),iW ?_ ?_⟩<;>intro V<;>try simp only[zB]at V
 ·refine d_ (fun n:Nat=>n<=L.length) (fun n=>[(0,.bx 100000 0),(1,.p (i64 i)),(5,.p (i64 m)),(6,.p (bool (!(L.take n).any (Wx i m)))),(7,.p (i64 n))]) (fun _=>p7 s b (L.map gv) D) (fun n=>L.length-n) 0 _ (aY.refl _ _) (nI _) ⟨Z,Z,Z,Z,Z,Y⟩ ⟨Z,Z,Z,Y⟩ fun n hn t h=>?_;apply iW<;>intro h2<;>try simp only[zB]at h2
  ·obtain⟨x,U⟩:=a8 (l:=L) (i:=n) (by omega);have G:=any_succ (p:=Wx i m) U;refine⟨wO (by omega),(gv x),(XQ U),?_⟩;generalize (L.take n).any (Wx i m)=fr at G ⊢;cases fr
   ·apply iW<;>intro I<;>try simp only[zB]at I
    ·apply iW<;>intro N<;>try simp only[zB]at N
     ·exact⟨wO (by omega),(n+1),_,aY.refl _ _,by omega,by omega,⟨rfl,rfl,rfl,iX (fun c=>AV.p (bool c)) (by rw[G];simp[Wx,I,N]),Z,Y⟩,⟨rfl,iX (AB.ai _) (gx 8 L),Z,Y⟩⟩
     exact⟨wO (by omega),(n+1),_,aY.refl _ _,by omega,by omega,⟨rfl,rfl,rfl,iX (fun c=>AV.p (bool c)) (by rw[G];simp[Wx,I,N]),Z,Y⟩,⟨rfl,iX (AB.ai _) (gx 8 L),Z,Y⟩⟩
    exact⟨wO (by omega),(n+1),_,aY.refl _ _,by omega,by omega,⟨rfl,rfl,rfl,iX (fun c=>AV.p (bool c)) (by rw[G];simp[Wx,I]),Z,Y⟩,⟨rfl,iX (AB.ai _) (gx 8 L),Z,Y⟩⟩
   exact⟨wO (by omega),(n+1),_,aY.refl _ _,by omega,by omega,⟨rfl,rfl,rfl,iX (fun c=>AV.p (bool c)) (by rw[G];simp[Wx]),Z,Y⟩,⟨rfl,iX (AB.ai _) (gx 8 L),Z,Y⟩⟩
  have Gk:n=L.length:=by omega
  subst Gk;rw[Ue];apply iW<;>intro c1<;>try simp only[zB]at c1
  ·rw[XG (n:=m) (by omega) J.2 (by simpa using c1),qH (by omega)];exact⟨Z,Z,Z,Z,Y⟩
  refine⟨wO (by omega),(m+1),_,aY.refl _ _,?_⟩;exact⟨⟨by omega,fun k O=>by
   by_cases e:k=m
   ·subst e;simpa using c1
   exact J.2 k (by omega)⟩,by omega,⟨Z,Z,Z,Y⟩,⟨Z,Z,Z,Y⟩⟩
 rw[af (XH fun k O=>J.2 k (by omega))];exact⟨Z,Z,Z,Z,Y⟩
def Xv(t:gI)(i:Nat)(now:Int)(m:Nat)(v:Int)(x:eS):eS:={ x with working:=true,machine:=m,from_:=now,to_:=now+t.minutes,visits:=x.visits.set i (v+1) }
def WK(s:List gI)(i:Nat)(now:Int)(L:List eS):Option (List eS):=match s[i]? with
 | some t=>if Wy i L t.machines.toNat<t.machines.toNat/\0<=iv i now L L.length then match L[(iv i now L L.length).toNat]? with
  | some x=>match x.visits[i]? with
   | some v=>some (L.set (iv i now L L.length).toNat (Xv t i now (Wy i L t.machines.toNat) v x))
   | none=>none
  | none=>none
  else none
 | none=>none
def WO(L:List eS):Nat:=(L.map fun x=>if x.working=true then 0 else 1).sum
def Xi:Nat->List gI->Nat->Int->List eS->List eS
 | 0,_,_,_,L=>L
 | n+1,s,i,now,L=>match WK s i now L with
  | some L'=>Xi n s i now L'
  | none=>L
def WH(s:List gI)(i:Nat)(now:Int)(L:List eS):List eS:=Xi (WO L) s i now L
def B1(s:List gI)(now:Int)(n:Nat)(L:List eS):List eS:=(List.range n).foldl (fun L i=>WH s i now L) L
theorem Xj:∀{L:List eS} {i:Nat} {x y:eS},L[i]?=some x->x.working=false->y.working=true->WO (L.set i y)+1=WO L
 | [],i,x,y,h,_,_=>by simp at h
 | a::L,0,x,y,h,h1,h2=>by
  simp at h;subst h;simp only[WO,ik,qO,SX,h1,h2,qH,qU,if_false];omega
 | a::L,i+1,x,y,h,h1,h2=>by
  have ih:=Xj (L:=L) (i:=i) (by simpa using h) h1 h2;simp only[WO,Ti,qO,SX]at ih ⊢;omega
theorem WU{i:Nat}{now:Int}:∀{n:Nat},0<=iv i now L n->∃x,L[(iv i now L n).toNat]?=some x/\x.step=i/\x.working=false/\x.came<=now
 | 0,h=>by rw[iv]at h;omega
 | n+1,h=>by
  unfold iv at h ⊢;split at h
  ·rename_i x z;split at h
   ·rename_i c;rw[qH c,c8];refine⟨x,z,?_⟩;simp only[WB,fH,dS,j8]at c;exact⟨c.1.1.1,c.1.1.2,c.1.2⟩
   rename_i c;rw[af c];exact WU h
  exact WU h
variable {L':List eS}
theorem Xk{i:Nat}{now:Int}(h:WK s i now L=some L'):WO L'+1=WO L:=by
 unfold WK at h;split at h
 ·split at h
  ·rename_i D;split at h
   ·rename_i x z;split at h
    ·injection h with h;rw[<-h];obtain⟨y,c,_,G,_⟩:=WU D.2;rw[z]at c;injection c with c;rw[c]at z;exact Xj z G rfl
    cases h
   cases h
  cases h
 cases h
theorem Xb{i:Nat}{now:Int}(h:WK s i now L=some L'):WH s i now L=WH s i now L':=by
 rw[WH,WH,<-Xk h,Xi,h]
theorem WG{i:Nat}{now:Int}(h:WK s i now L=none):WH s i now L=L:=by
 rw[WH];cases WO L with
 | zero=>rfl
 | succ n=>rw[Xi,h]
def Ye(s:List gI)(x:eS):Prop:=x.visits.length=s.length/\∀v∈x.visits,0<=v/\v<=1000000000+(if x.working=true then 1 else 0)
theorem Yl{t:gI}{i:Nat}{now:Int}{m:Nat}{v:Int}{x:eS}(h:Ye s x)(D:x.working=false)(G:x.visits[i]?=some v):Ye s (Xv t i now m v x):=by
 obtain⟨I,c⟩:=h;rw[D]at c;refine⟨by show (x.visits.set i (v+1)).length=_;rw[cu];exact I,fun u z=>?_⟩;show 0<=u/\u<=1000000000+1;have J:=c v (aj G);simp only[qU,if_false]at J c;rcases nJ z with z | rfl
 ·have:=c u z;omega
 omega
theorem XI{i:Nat}{now:Int}(h:WK s i now L=some L')(G:∀x∈L,Ye s x):(∀x∈L',Ye s x)/\L'.length=L.length:=by
 unfold WK at h;split at h
 ·split at h
  ·rename_i N;split at h
   ·rename_i x I;split at h
    ·rename_i v O;injection h with h;rw[<-h];refine⟨fun y D=>?_,cu ..⟩;rcases nJ D with D | rfl
     ·exact G y D
     obtain⟨z,c,_,J,_⟩:=WU N.2;rw[I]at c;injection c with c;rw[<-c]at J;exact Yl (G x (aj I)) J O
    cases h
   cases h
  cases h
 cases h
theorem Xr{s:List gI}{i:Nat}{now:Int}:∀(n:Nat) {L:List eS},(∀x∈L,Ye s x)->(∀x∈Xi n s i now L,Ye s x)/\(Xi n s i now L).length=L.length
 | 0,L,h=>⟨h,rfl⟩
 | n+1,L,h=>by
  unfold Xi;split
  ·rename_i L' c;obtain⟨z,D⟩:=XI c h;obtain⟨G,I⟩:=Xr (s:=s) (i:=i) (now:=now) n z;exact⟨G,I.trans D⟩
  exact⟨h,rfl⟩
theorem W6{s:List gI}{now:Int}(h:∀x∈L,Ye s x):∀n,(∀x∈B1 s now n L,Ye s x)/\(B1 s now n L).length=L.length
 | 0=>⟨h,rfl⟩
 | n+1=>by
  obtain⟨c,z⟩:=W6 (now:=now) h n;unfold B1 at c z ⊢;rw[Vc,TO];obtain⟨D,G⟩:=Xr (s:=s) (i:=n) (now:=now) _ c;exact⟨D,G.trans z⟩
def WV(x:eS)(v:Int)(f:Fl):Bool:=decide (f.lot=x.lot/\f.panel=x.panel/\f.step=x.step/\f.visit=v)
def YW(x:eS)(v:AV):AB:=.box [.p (str x.lot),.p (i64 x.panel),.p (i64 x.step),.p (i64 x.came),.p (bool x.working),.p (i64 x.machine),.p (i64 x.from_),.p (i64 x.to_),v,.p (i64 x.rework),.p (i64 x.at_)]
theorem Yw(s:List gI)(b:List Fl)(E:List (List HX))(D:List dQ)(x:eS)(I:Still E)(k:Nat)(v:Int)(hk:x.step=k)(hv:x.visits[k]?=some v)(hb:b.length<=2000):cR C 48 [.bx 100000 0,Yi x (.ow 90013)] (p7 s b E D++X4 x) (.p (bool (b.any (WV x v)))) (p7 s b E D++X4 x):=by
 have lb:=cH b CJ;have lv:(x.visits.map fun n=>[i64 n]).length=x.visits.length:=ct ..;have lk:=ah hv;refine Jr ⟨[],[],[],[],[],[]⟩ hC Tryz.func48 rfl (by kernel_rfl) fun _=>?_;refine d_ (fun i:Nat=>i<=b.length/\∀z∈b.take i,WV x v z=false) (fun i=>[(0,.bx 100000 0),(3,.bx 3 0),(5,.p (i64 i))]) (fun _=>(3,YW x (.ow 90013))::(p7 s b E D++X4 x)) (fun i=>b.length-i) 0 _ (aY.refl _ _) ⟨nI _,by simp⟩ ⟨Z,Z,Z,Y⟩ ⟨rfl,rfl,iX (AB.ai _) (I.1 3 (by decide)),Z,Z,Y⟩ fun i hi t h=>?_;apply iW<;>intro h1<;>try simp only[zB]at h1
 ·obtain⟨f,N⟩:=a8 (l:=b) (i:=i) (by omega);refine⟨(CJ f),(idx rfl N),?_⟩;have G:WV x v f=false->∀z∈b.take (i+1),WV x v z=false:=fun hh z J=>by
   rw[bT N,cD,n9]at J;rcases J with J | rfl
   ·exact hi.2 z J
   exact hh
  apply iW<;>intro O<;>try simp only[zB]at O
  ·apply iW<;>intro U<;>try simp only[zB]at U
   ·apply iW<;>intro V<;>try simp only[zB]at V
    ·refine⟨⟨by omega,by rw[hk,c8,lv];exact lk⟩,[i64 v],(by rw[hk,c8,ao,hv];rfl),?_⟩;apply iW<;>intro a4<;>try simp only[zB]at a4
     ·refine⟨iX (fun c=>AV.p (bool c)) ?_,rfl,iX (AB.ai _) (I.1 6 (by decide)),Z,Z,Y⟩;exact (dA.2 ⟨f,aj N,by simp[WV,O,U,V,a4]⟩).symm
     exact⟨wO (by omega),(i+1),_,aY.refl _ _,⟨by omega,G (by simp[WV,a4])⟩,by omega,⟨Z,Z,Z,Y⟩,⟨rfl,rfl,iX (AB.ai _) (I.1 6 (by decide)),Z,Z,Y⟩⟩
    exact⟨wO (by omega),(i+1),_,aY.refl _ _,⟨by omega,G (by simp[WV,V])⟩,by omega,⟨Z,Z,Z,Y⟩,⟨rfl,rfl,iX (AB.ai _) (I.1 6 (by decide)),Z,Z,Y⟩⟩
   exact⟨wO (by omega),(i+1),_,aY.refl _ _,⟨by omega,G (by simp[WV,U])⟩,by omega,⟨Z,Z,Z,Y⟩,⟨rfl,rfl,iX (AB.ai _) (I.1 6 (by decide)),Z,Z,Y⟩⟩
  exact⟨wO (by omega),(i+1),_,aY.refl _ _,⟨by omega,G (by simp[WV,O])⟩,by omega,⟨Z,Z,Z,Y⟩,⟨rfl,rfl,iX (AB.ai _) (I.1 6 (by decide)),Z,Z,Y⟩⟩
 refine⟨iX (fun c=>AV.p (bool c)) ?_,rfl,iX (AB.ai _) rfl,Z,Z,Y⟩;have IG:i=b.length:=by omega
 have h2:=hi.2;rw[IG,Ue]at h2;rw[eq_comm,List.any_eq_false];intro z J;rw[h2 z J];decide
open Reg (SY gp)
def W7(x:eS)(good:Bool):dQ:=⟨x.lot,x.panel,x.step,x.machine,x.from_,x.to_,good⟩
def Y9(d:dQ):AB:=.box [.p (str d.lot),.p (i64 d.panel),.p (i64 d.step),.p (i64 d.machine),.p (i64 d.from_),.p (i64 d.till),.p (bool d.good)]
theorem WW{W:List dQ}{r:List PV}(h:r∈W.map dc):r.length=7:=by
 obtain⟨x,_,rfl⟩:=fh.1 h;rfl
theorem XW{D:List dQ}{d:dQ}{q:Nat}(e:TypeId)(hl:(D.map dc).length=D.length):AB.row e ((((D.map dc).take (Int.toNat q)).drop (Int.toNat 0)++[dc d])++((D.map dc).take (Int.toNat (D.map dc).length)).drop (Int.toNat q))=AB.row e ((D.take q++d::D.drop q).map dc):=by
 rw[c8,c8,Ue,aa,qO,UG,List.map_drop];simp
theorem Yx(s:List gI)(b:List Fl)(E:List (List HX))(W:List dQ)(x:eS)(good:Bool)(z:Still E)(hN:W.length<=10000000):cR C 49 [.bx 100000 0,Yi x (.ow 90013),.p (bool good)] (p7 s b E (Tb H6 W)++X4 x) (.tu []) (p7 s b E (Tb H6 (W++[W7 x good]))++X4 x):=by
 obtain⟨D,J⟩:∃D,D=Tb H6 W:=⟨_,rfl⟩;obtain⟨d,hd⟩:∃d,d=W7 x good:=⟨_,rfl⟩;rw[<-J,<-hd];have Zl:D.length<=10000000:=by rw[J,Reg.S4];exact hN
 have I:=cH D dc;have hs:SY H6 D:=by rw[J];exact (Reg.S0 Tc _).1
 have next:∀q,(∀e∈D.drop q,H6 e d=false)->(q=0\/∃y,D[q-1]?=some y/\H6 y d=true)->Tb H6 (W++[d])=D.take q++d::D.drop q:=fun q h1 h2=>
  Reg.put_eq Tc (by rw[ca,J]) (Reg.Tr hs (fun a b h3 O=>Tc.trans _ _ _ h3 O) h2) h1
 refine Kz ⟨[],[],[],[],[],[]⟩ hC Tryz.func49 rfl (by kernel_rfl) fun _=>?_;refine d_ (fun q:Nat=>q<=D.length/\∀e∈D.drop q,H6 e d=false) (fun q=>[(0,.bx 100000 0),(6,.bx 6 0),(7,.p (i64 q))]) (fun _=>(6,Y9 d)::(p7 s b E D++X4 x)) (fun q=>q) D.length _ (aY.refl _ _) ⟨aC _,by simp⟩ ⟨rfl,rfl,kv (by rw[I]),trivial⟩ ⟨by rw[hd];rfl,rfl,iX (AB.ai _) (by rw[z.1 _ (by decide),z.1 _ (by decide)]),Z,Z,Y⟩ fun q hq t h=>?_;obtain⟨q1,U⟩:=hq;apply iW<;>intro O<;>try simp only[zB]at O
 ·obtain⟨y,G⟩:=a8 (l:=D) (i:=q-1) (by omega);refine⟨wO (by omega),wO (by omega),(dc y),(idx (show (q:Int)-1=((q-1:Nat):Int) by omega) G).2,_,_,(XF y d),iW ?_ ?_⟩<;>intro V<;>try simp only[zB]at V
  ·refine⟨wO (by omega),(q-1),_,aY.refl _ _,⟨by omega,fun e N=>?_⟩,by omega,⟨rfl,rfl,kv (by omega),trivial⟩,⟨rfl,rfl,iX (AB.ai _) (z.1 40 (by decide)),Z,Z,Y⟩⟩;rw[wz (Reg.zQ G)]at N;rw[aM (Reg.zQ G)]at G;injection G with G;rcases fL.1 N with e1 | N
   ·rw[e1,G];simpa using V
   exact U e (by rw[show q=q-1+1 by omega];exact N)
  have en:=next q U (.inr ⟨y,G,by simpa using V⟩)
  refine Or.inr ?_;refine⟨⟨by omega,by omega,by rw[I];omega,fun r c=>WW c⟩,⟨fun r c=>WW (eM (jT c)),by simp only[fj,cw,dI,ct,cu,uX,bw,qJ];omega,by simp only[fj,cw,dI,ct,cu,uX,bw,qJ];omega⟩,⟨fun r c=>by simp at c;subst c;rfl,by simp only[fj,cw,dI,ct,cu,uX,bw,qJ];omega,by simp only[fj,cw,dI,ct,cu,uX,bw,qJ];omega⟩,⟨by omega,by rw[I];omega,by omega,fun r c=>WW c⟩,⟨fun r c=>WW (eM (jT c)),by simp only[fj,cw,dI,ct,cu,uX,bw,qJ];omega,by simp only[fj,cw,dI,ct,cu,uX,bw,qJ];omega⟩,_,aY.ez _ 64 90004 (by decide) (by decide),?_⟩;rw[en];refine⟨rfl,rfl,iX (AB.ai _) ?_,XW _ I,Z,Y⟩;rw[z.1 40 (by decide),z.1 51 (by decide),z.2 51 8 (by decide) (by decide),z.1 54 (by decide),z.1 55 (by decide),z.2 55 8 (by decide) (by decide),z.1 64 (by decide),z.2 64 90004 (by decide) (by decide)]
 have en:=next q U (.inl (by omega))
 refine Or.inr ?_;refine⟨⟨by omega,by omega,by rw[I];omega,fun r c=>WW c⟩,⟨fun r c=>WW (eM (jT c)),by simp only[fj,cw,dI,ct,cu,uX,bw,qJ];omega,by simp only[fj,cw,dI,ct,cu,uX,bw,qJ];omega⟩,⟨fun r c=>by simp at c;subst c;rfl,by simp only[fj,cw,dI,ct,cu,uX,bw,qJ];omega,by simp only[fj,cw,dI,ct,cu,uX,bw,qJ];omega⟩,⟨by omega,by rw[I];omega,by omega,fun r c=>WW c⟩,⟨fun r c=>WW (eM (jT c)),by simp only[fj,cw,dI,ct,cu,uX,bw,qJ];omega,by simp only[fj,cw,dI,ct,cu,uX,bw,qJ];omega⟩,_,aY.ez _ 64 90004 (by decide) (by decide),?_⟩;rw[en];refine⟨rfl,rfl,iX (AB.ai _) ?_,XW _ I,Z,Y⟩;rw[z.1 40 (by decide),z.1 51 (by decide),z.2 51 8 (by decide) (by decide),z.1 54 (by decide),z.1 55 (by decide),z.2 55 8 (by decide) (by decide),z.1 64 (by decide),z.2 64 90004 (by decide) (by decide)]
def WR(s:List gI)(b:List Fl)(now v:Int)(x:eS):eS:=
 if b.any (WV x v)=false then { x with working:=false,came:=now,at_:=now,step:=x.step+1 }
 else match s[x.step.toNat]? with
  | some t=>if 0<=t.back/\x.rework<5 then { x with working:=false,came:=now,at_:=now,rework:=x.rework+1,step:=t.back } else { x with working:=false,came:=now,at_:=now,step:=-1 }
  | none=>x
theorem YP(s:List gI)(b:List Fl)(L:List eS)(W:List dQ)(i:Nat)(x:eS)(now:Int)(k:Nat)(v:Int)(D:gI)(O:L[i]?=some x)(I:x.step=k)(hs:s[k]?=some D)(hv:x.visits[k]?=some v)(hb:b.length<=2000)(hN:W.length<=10000000)(hS:s.length<=1000)(hr:0<=x.rework/\x.rework<=5):
  cR C 23 [.bx 100000 0,.rp 100001 i 0,.p (i64 now)] (p7 s b (L.map gv) (Tb H6 W)) (.tu []) (p7 s b ((L.set i (WR s b now v x)).map gv) (Tb H6 (W++[W7 x (!b.any (WV x v))]))):=by
 have z:=ah O;have lk:=ah hs;have U:=still_out L i x;have YX:(L.map gv)[i]?=some (gv x):=by rw[ao,O];rfl
 have V:=Yw s b (qA L i x) (Tb H6 W) x U k v I hv hb;obtain⟨bad,G⟩:∃c,c=b.any (WV x v):=⟨_,rfl⟩;rw[<-G]at V;rw[<-G];refine Y8 ⟨[2],[],[],[],[],[]⟩ hC Tryz.func23 rfl (by kernel_rfl) fun _=>?_;refine Seen.of (aY.mi (by exact hC) _ 100001 i 8 90013 (e:=76) (by decide) (by decide) (by exact rfl) (XU _) YX (by exact rfl)) ?_;refine⟨(WQ x (.av (.ow 90013))),(WT z),[(100000,100000),(100001,100001),(90004,90004),(90013,90013)],_,_,_,_,V,⟨rfl,rfl,rfl,iX (AB.ai _) (XV L i x),Z,Z,Y⟩,(WQ x (.av (.ow 90013))),(by rw[Xh];exact WT z),[(100000,100000),(100001,100001),(90004,90004),(90013,90013)],_,_,_,_,Yx s b (qA L i x) W x (!bad) U hN,⟨rfl,rfl,rfl,iX (AB.ai _) (by rw[Xh,XV]),Z,Z,Y⟩,?_⟩;refine lG (aY.KA _ 100001 (.ai _ (qA L i x)) (by exact iX (AB.ai _) (Xh L i x))) ?_;refine⟨_,(WT z),_,(bQ (by simp only[qA,cu,ct];exact z)),?_⟩;refine⟨_,(bQ (by simp only[qA,cu,ct];exact z)),?_⟩;cases bad
 ·refine⟨_,(bQ (by simp only[qA,cu,ct];exact z)),?_⟩;refine⟨wO (by omega),_,(bQ (by simp only[qA,cu,ct];exact z)),?_⟩;rw[show WR s b now v x={ x with working:=false,came:=now,at_:=now,step:=x.step+1 } by rw[WR,<-G,qH rfl]];refine⟨_,(aY.KA _ 100001 (.ai _ (qA L i ({ x with working:=false,came:=now,at_:=now,step:=x.step+1 }))) (by exact iX (AB.ai _) (by simp only[qA,Uz];rfl))).trans (aY.jg (by exact hC) _ 100001 i 8 90013 (e:=76) (es:=qA L i ({ x with working:=false,came:=now,at_:=now,step:=x.step+1 })) (e':=3) (xs:=x.visits.map fun n=>[i64 n]) (by decide) (by exact rfl) (by exact rfl) (by exact WT z) (by exact rfl)),rfl,rfl,iX (AB.ai _) (Xu L i ({ x with working:=false,came:=now,at_:=now,step:=x.step+1 })),Z,Y⟩
 refine⟨_,(bQ (by simp only[qA,cu,ct];exact z)),?_⟩;refine⟨(gq D),(idx I hs),iW ?_ ?_⟩<;>intro J<;>try simp only[zB]at J
 ·refine⟨_,(bQ (by simp only[qA,cu,ct];exact z)),?_⟩;apply iW<;>intro N<;>try simp only[zB]at N
  ·refine⟨_,(bQ (by simp only[qA,cu,ct];exact z)),?_⟩;refine⟨wO (by omega),_,(bQ (by simp only[qA,cu,ct];exact z)),?_⟩;refine⟨_,(bQ (by simp only[qA,cu,ct];exact z)),?_⟩;rw[show WR s b now v x={ x with working:=false,came:=now,at_:=now,rework:=x.rework+1,step:=D.back } by rw[WR,<-G,af (by decide),I,c8,hs];simp only;rw[qH ⟨J,N⟩]];refine⟨_,(aY.KA _ 100001 (.ai _ (qA L i ({ x with working:=false,came:=now,at_:=now,rework:=x.rework+1,step:=D.back }))) (by exact iX (AB.ai _) (by simp only[qA,Uz];rfl))).trans (aY.jg (by exact hC) _ 100001 i 8 90013 (e:=76) (es:=qA L i ({ x with working:=false,came:=now,at_:=now,rework:=x.rework+1,step:=D.back })) (e':=3) (xs:=x.visits.map fun n=>[i64 n]) (by decide) (by exact rfl) (by exact rfl) (by exact WT z) (by exact rfl)),rfl,rfl,iX (AB.ai _) (Xu L i ({ x with working:=false,came:=now,at_:=now,rework:=x.rework+1,step:=D.back })),Z,Y⟩
  refine⟨_,(bQ (by simp only[qA,cu,ct];exact z)),?_⟩;rw[show WR s b now v x={ x with working:=false,came:=now,at_:=now,step:=-1 } by rw[WR,<-G,af (by decide),I,c8,hs];simp only;rw[af fun h=>N h.2]];refine⟨_,(aY.KA _ 100001 (.ai _ (qA L i ({ x with working:=false,came:=now,at_:=now,step:=-1 }))) (by exact iX (AB.ai _) (by simp only[qA,Uz];rfl))).trans (aY.jg (by exact hC) _ 100001 i 8 90013 (e:=76) (es:=qA L i ({ x with working:=false,came:=now,at_:=now,step:=-1 })) (e':=3) (xs:=x.visits.map fun n=>[i64 n]) (by decide) (by exact rfl) (by exact rfl) (by exact WT z) (by exact rfl)),rfl,rfl,iX (AB.ai _) (Xu L i ({ x with working:=false,came:=now,at_:=now,step:=-1 })),Z,Y⟩
 refine⟨_,(bQ (by simp only[qA,cu,ct];exact z)),?_⟩;rw[show WR s b now v x={ x with working:=false,came:=now,at_:=now,step:=-1 } by rw[WR,<-G,af (by decide),I,c8,hs];simp only;rw[af fun h=>J h.1]];refine⟨_,(aY.KA _ 100001 (.ai _ (qA L i ({ x with working:=false,came:=now,at_:=now,step:=-1 }))) (by exact iX (AB.ai _) (by simp only[qA,Uz];rfl))).trans (aY.jg (by exact hC) _ 100001 i 8 90013 (e:=76) (es:=qA L i ({ x with working:=false,came:=now,at_:=now,step:=-1 })) (e':=3) (xs:=x.visits.map fun n=>[i64 n]) (by decide) (by exact rfl) (by exact rfl) (by exact WT z) (by exact rfl)),rfl,rfl,iX (AB.ai _) (Xu L i ({ x with working:=false,came:=now,at_:=now,step:=-1 })),Z,Y⟩
structure Ym(st:Stat)(x:a_)(w:Wt)(j:lH)(f:eS):Prop where
 lot:f.lot=j.made.lot
 panel:f.panel=j.made.panel
 rework:f.rework=j.made.rework
 VR:(∃q t,x.queues[j.step]?=some q/\((t,w.2):Wt)∈q/\f.working=false/\f.step=j.step/\f.came=t/\f.visits=j.visits)
  \/ (∃t v,((t,w.2):Wt)∈x.ends/\f.working=true/\f.step=j.step/\f.to_=t/\f.machine=j.machine/\f.from_=j.from_/\j.visits[j.step]?=some v/\f.visits=j.visits.set j.step (v+1))
  \/ (qE x w.2=0/\f.working=false/\f.at_=j.made.at_/\(j.made.done=true/\f.step=st.steps.length\/j.made.done=false/\f.step=-1)/\f.visits=j.visits)
structure Rel(st:Stat)(x:a_)(L:List eS):Prop where
 len:L.length=x.jobs.length
 at_:∀w,yq st w->∀j f,x.jobs[bU st w]?=some j->L[bU st w]?=some f->Ym st x w j f
theorem Yn:∀{gs:List (List Nat)} {m:Nat},m<gs.flatten.length->∃i k r g,gs[i]?=some r/\r[k]?=some g/\pos gs i k=m
 | [],m,h=>by simp at h
 | a::gs,m,h=>by
  by_cases c:m<a.length
  ·obtain⟨g,z⟩:=a8 c;exact⟨0,m,a,g,rfl,z,by simp[pos]⟩
  rw[mC,fj]at h;obtain⟨i,k,r,g,D,G,h4⟩:=Yn (gs:=gs) (m:=m-a.length) (by omega);exact⟨i+1,k,r,g,by simpa using D,G,by rw[lM];omega⟩
theorem W8{st:Stat}{x:a_}(h:SZ st x){m:Nat}(c:m<x.jobs.length):∃w,yq st w/\bU st w=m:=by
 rw[h.sv.jl]at c;obtain⟨i,k,r,g,z,D,G⟩:=Yn c;exact⟨(0,(i:Int),(k:Int)),⟨i,k,r,g,rfl,rfl,z,D⟩,by rw[bU,c8,c8];exact G⟩
theorem XJ:∀{gs:List (List Nat)} {i k i' k':Nat} {r c:List Nat},gs[i]?=some r->gs[i']?=some c->k<r.length->k' < c.length->(i<i'\/i=i'/\k<k')->pos gs i k<pos gs i' k'
 | [],i,k,i',k',r,c,h,_,_,_,_=>by simp at h
 | a::gs,0,k,0,k',r,c,h,h',hk,z,hl=>by simp only[pos,oX,rA,Bv];omega
 | a::gs,0,k,i'+1,k',r,c,h,h',hk,z,hl=>by
  simp at h;subst h;rw[lM];simp only[pos,oX,rA,Bv];omega
 | a::gs,i+1,k,0,k',r,c,h,h',hk,z,hl=>by omega
 | a::gs,i+1,k,i'+1,k',r,c,h,h',hk,z,hl=>by
  rw[lM,lM];have:=XJ (gs:=gs) (i:=i) (k:=k) (i':=i') (k':=k') (by simpa using h) (by simpa using h') hk z (by omega);omega
theorem XX{st:Stat}{w:Wt}(c:yq st u)(z:yq st w)(h:u.2.1<w.2.1\/u.2.1=w.2.1/\u.2.2<w.2.2):bU st u<bU st w:=by
 obtain⟨i,k,r,g,D,G,I,J⟩:=c;obtain⟨i',k',r',g',N,O,U,V⟩:=z;rw[bU,bU,D,G,N,O,c8,c8,c8,c8];exact XJ I U (ah J) (ah V) (by omega)
theorem XY{W:List Wt}{w:Wt}(c:u∈w::W)(z:u≠w):u∈dD (w::W):=by
 have D:=jO (f:=fun v:Wt=>if v=u then 1 else 0) c;have G:=oS (f:=fun v:Wt=>if v=u then 1 else 0) w W;simp only[qH,af (fun e=>z (Eq.symm e))]at D G;obtain⟨v,I,J⟩:=TQ (f:=fun v:Wt=>if v=u then 1 else 0) (l:=dD (w::W)) (by omega);by_cases e:v=u
 ·rw[<-e];exact I
 simp only[af e]at J;omega
theorem WX{l:List Wt}{a:Wt}(c:u∈l\/u=a):u∈eH l a:=by
 have z:=jM (f:=fun v:Wt=>if v=u then 1 else 0) l a;obtain⟨v,D,G⟩:=TQ (f:=fun v:Wt=>if v=u then 1 else 0) (l:=eH l a) (by
  rcases c with c | c
  ·have I:=jO (f:=fun v:Wt=>if v=u then 1 else 0) c;simp only[qH]at I;omega
  simp only[qH c.symm]at z;omega)
 by_cases e:v=u
 ·rw[<-e];exact D
 simp only[af e]at G;omega
theorem Yo{x:a_}{i:Nat}{q:List Wt}{w:Wt}(c:x.queues[i]?=some q)(z:w∈q):0<qE x w.2:=by
 have D:=jO (f:=fun v:Wt=>if v.2=w.2 then 1 else 0) z;have h2:=sL (f:=fun v:Wt=>if v.2=w.2 then 1 else 0) (aj c);simp only[qH]at D;unfold qE;omega
theorem Xw{st:Stat}{x:a_}(h:SZ st x){w:Wt}(c:u∈x.ends)(z:w∈x.ends)(e:u.2=w.2):u=w:=by
 by_cases D:u=w
 ·exact D
 exfalso;have G:=h.un w.2;have:∀{l:List Wt},u∈l->w∈l->2<=bK (fun v:Wt=>if v.2=w.2 then 1 else 0) l:=by
  intro l c z;obtain⟨s,t,rfl⟩:=List.append_of_mem z;have I:bK (fun v:Wt=>if v.2=w.2 then 1 else 0) (w::t)=1+bK (fun v:Wt=>if v.2=w.2 then 1 else 0) t:=by
   simp only[bK,qO,SX,qH]
  rw[xX,I];rcases cD.1 c with c | c
  ·have:=jO (f:=fun v:Wt=>if v.2=w.2 then 1 else 0) c;simp only[qH e]at this;omega
  rcases fL.1 c with rfl | c
  ·exact absurd rfl D
  have:=jO (f:=fun v:Wt=>if v.2=w.2 then 1 else 0) c;simp only[qH e]at this;omega
 have:=this c z;unfold qE at G;omega
theorem Xl{i:Nat}{now:Int}{p:Nat}{f:eS}(hp:L[p]?=some f)(z:f.step=i)(D:f.working=false)(G:f.came<=now)(I:∀(m:Nat) g,L[m]?=some g->g.step=i->g.working=false->g.came<=now->f.came<g.came\/f.came=g.came/\p<=m):
  ∀n,n<=L.length->(p<n->iv i now L n=p)/\(n<=p->iv i now L n<0\/∃y,L[(iv i now L n).toNat]?=some y/\f.came<y.came)
 | 0,_=>⟨fun h=>by omega,fun _=>.inl (by rw[iv];decide)⟩
 | n+1,hn=>by
  obtain⟨N,J⟩:=Xl hp z D G I n (by omega);obtain⟨x,c⟩:=a8 (l:=L) (i:=n) (by omega);by_cases e:n=p
  ·subst e;rw[hp]at c;injection c with c;subst c;refine⟨fun _=>WZ hp ?_,fun h=>by omega⟩;rcases J (aC _) with h | ⟨y,O,U⟩
   ·simp[WB,z,D,G,h]
   simp[WB,z,D,G,O,U]
  by_cases dv:n<p
  ·refine⟨fun h=>by omega,fun _=>?_⟩;cases hw:WB i now L (iv i now L n) x with
   | true=>
    rw[WZ c hw];refine .inr ⟨x,by rw[c8];exact c,?_⟩;simp only[WB,fH,dS,j8]at hw;rcases I n x c hw.1.1.1 hw.1.1.2 hw.1.2 with h | ⟨_,h⟩
    ·exact h
    omega
   | false=>
    rw[WJ c hw];exact J (by omega)
  refine⟨fun _=>?_,fun h=>by omega⟩;have a:=N (by omega);rw[WJ c,a];rw[a];cases hw:WB i now L p x with
  | false=>rfl
  | true=>
   exfalso;simp only[WB,fH,oa,dS,j8,c8,hp]at hw;rcases hw.2 with h | h
   ·omega
   rcases I n x c hw.1.1.1 hw.1.1.2 hw.1.2 with h' | ⟨h',_⟩<;>omega
theorem Xm{i:Nat}{now:Int}(z:∀(m:Nat) g,L[m]?=some g->g.step=i->g.working=false->¬g.came<=now):∀n,iv i now L n=-1
 | 0=>rfl
 | n+1=>by
  have ih:=Xm z n;unfold iv;split
  ·rename_i x D;rw[af,ih];intro c;simp only[WB,fH,dS,j8]at c;exact z n x D c.1.1.1 c.1.1.2 c.1.2
  exact ih
theorem W9(s:List gI)(now:Int):∀(L:List eS) (o:Int),(0<=o->0<=gy s now L o/\gy s now L o<=o)/\(∀x∈L,WA s x=false->0<=gu now x->0<=gy s now L o/\gy s now L o<=gu now x)/\(gy s now L o=o\/∃x∈L,WA s x=false/\0<=gu now x/\gy s now L o=gu now x)
 | [],o=>⟨fun h=>⟨h,Vd _⟩,fun x O=>(by cases O),.inl rfl⟩
 | x::L,o=>by
  have hs:gy s now (x::L) o=gy s now L (p6 s now x o):=rfl;obtain⟨D,U,V⟩:=W9 s now L (p6 s now x o);rw[hs];have c:p6 s now x o=o\/(WA s x=false/\0<=gu now x/\p6 s now x o=gu now x/\(0<=o->gu now x<=o)):=by
   unfold p6;split
   ·exact .inl rfl
   rename_i Y;split
   ·rename_i Z;exact .inr ⟨by simpa using Y,Z.1,rfl,fun h0=>by omega⟩
   exact .inl rfl
  refine⟨fun h=>?_,fun y z G I=>?_,?_⟩
  ·rcases c with c | ⟨_,J,N,h5⟩
   ·rw[c]at D ⊢;exact D h
   have:=D (by rw[N];exact J);have:=h5 h;rw[N]at *;omega
  ·rcases fL.1 z with rfl | z
   ·have:0<=p6 s now y o/\p6 s now y o<=gu now y:=by
     unfold p6;rw[af (by rw[G];decide)];split<;>omega
    have:=D this.1;omega
   exact U y z G I
  rcases V with h | ⟨y,z,h⟩
  ·rcases c with c | ⟨G,I,J,_⟩
   ·exact .inl (h.trans c)
   exact .inr ⟨x,dJ,G,I,h.trans J⟩
  exact .inr ⟨y,An _ z,h⟩
end M
end Go.Proofs.YtedjhhieekileaaGreatDoor
