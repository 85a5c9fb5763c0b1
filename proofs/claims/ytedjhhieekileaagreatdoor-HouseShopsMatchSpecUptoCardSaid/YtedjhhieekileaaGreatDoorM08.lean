/- Part 8 of the proof of HouseShopsMatchSpec. -/
import Derived.Test.YtedjhhieekileaaGreatDoorM07
set_option linter.unusedVariables false
set_option linter.unusedSimpArgs false
set_option maxRecDepth 100000
set_option maxHeartbeats 8000000
namespace Go
abbrev UK:=@List.map_replicate
end Go
namespace Go.Proofs.YtedjhhieekileaaGreatDoor
namespace M
open Go.AM Go.RowKit
theorem Yy{x y:a_}{w:Wt}{W:List Wt}(z:x.ends=w::W)(D:y.ends=dD x.ends)(G:y.queues=x.queues\/∃(n:Nat) (q:List Wt),x.queues[n]?=some q/\y.queues=x.queues.set n (eH q w))(p:Int×Int)(hp:p≠w.2):qE y p=qE x p:=by
 have I:bK (fun u=>if u.2=p then 1 else 0) (dD x.ends)+(if w.2=p then 1 else 0)=bK (fun u=>if u.2=p then 1 else 0) x.ends:=by rw[z];exact oS w W
 rw[af fun e=>hp e.symm]at I;unfold qE;rw[D];rcases G with c | ⟨n,Q,J,c⟩
 ·rw[c];omega
 have N:=jN (f:=fun u=>if u.2=p then 1 else 0) (eH Q w) J;rw[jM,af fun e=>hp e.symm]at N;rw[c];omega
theorem XK{st:Stat}{x y:a_}(h:SZ st x){w:Wt}{W:List Wt}(c:x.ends=w::W)(z:y.ends=dD x.ends)(D:y.queues=x.queues):qE y w.2=0:=by
 have G:bK (fun u=>if u.2=w.2 then 1 else 0) (dD x.ends)+(if w.2=w.2 then 1 else 0)=bK (fun u=>if u.2=w.2 then 1 else 0) x.ends:=by rw[c];exact oS w W
 rw[qH rfl]at G;have I:=h.un w.2;unfold qE at I ⊢;rw[z,D];omega
variable {u:Wt}
theorem X7{st:Stat}{x y:a_}{w:Wt}{W:List Wt}(G:x.ends=w::W)(N:y.ends=dD x.ends)(O:y.queues=x.queues\/∃(n:Nat) (q:List Wt),x.queues[n]?=some q/\y.queues=x.queues.set n (eH q w))(U:u.2≠w.2){j:lH}{f:eS}(r:Ym st x u j f):Ym st y u j f:=by
 obtain⟨V,Y,Z,VR⟩:=r;refine⟨V,Y,Z,?_⟩;rcases VR with⟨q,t,c,z,I⟩ | ⟨t,v,c,z⟩ | ⟨c,z⟩
 ·rcases O with D | ⟨n,Q,J,D⟩
  ·exact .inl ⟨q,t,by rw[D];exact c,z,I⟩
  by_cases e:j.step=n
  ·rw[e,J]at c;injection c with c;subst c;exact .inl ⟨eH Q w,t,by rw[D,e,eR J,qH rfl],WX (.inl z),I⟩
  exact .inl ⟨q,t,by rw[D,eR J,af e];exact c,z,I⟩
 ·refine .inr (.inl ⟨t,v,?_,z⟩);rw[N,G];exact XY (by rw[<-G];exact c) fun e=>U (by rw[<-e])
 exact .inr (.inr ⟨by rw[Yy G N O _ U];exact c,z⟩)
variable {L:List eS}
theorem Rel.fin{st:Stat}{K:List (ByteArray×Int)}(hK:Ae st K){x y:a_}(h:SZ st x)(a:Tw st K x)(R:Rel st x L)(hy:M.eI st x=some y):
  ∃(w:Wt) (W:List Wt) (f:eS) (v:Int) (t0:gI) (k:Nat),x.ends=w::W/\w.1=x.now/\yq st w/\L[bU st w]?=some f/\f.working=true/\f.to_=x.now/\f.step=k/\st.steps[k]?=some t0/\f.visits[k]?=some v/\(0<=f.rework/\f.rework<=5)/\y.now=x.now/\y.ends=dD x.ends/\y.done=x.done++[W7 f (!st.bad.any (WV f v))]/\Rel st y (L.set (bU st w) (WR st.steps st.bad x.now v f)):=by
 obtain⟨w,i,k,j,s,b,lt,v,E⟩:=h.MD hy;obtain⟨y1,y2,y3,y4,_⟩:=E.parts;obtain⟨⟨W,V⟩,hw,⟨r,g,On,xd⟩,N,hs,hb,hm,hl,hv,z⟩:=E;have E4:w∈x.ends:=by rw[V];exact dJ
 have G:=(h.ew w E4).1;have FB:w.1=x.now:=by rw[hw]
 have DM:K[bU st w]?=some (lt.name,(k:Int)):=by
  have:=hK.at_ i k r g lt On xd hl;rw[bU,hw];simpa using this
 have Dz:Ad j=(lt.name,(k:Int)):=by
  rw[<-a.a.kj,ao,N]at DM;injection DM
 injection Dz with k1 k2;obtain⟨f,hf⟩:=a8 (l:=L) (i:=bU st w) (by rw[R.len];exact ah N);have rj:=R.at_ w G j f N hf;have jv:=h.jv j (aj N);obtain⟨O,U,I,VR⟩:=rj;obtain⟨t,v0,w1,w2,w3,w4,w5,w6,w7,Y⟩:∃t v,((t,w.2):Wt)∈x.ends/\f.working=true/\f.step=j.step/\f.to_=t/\f.machine=j.machine/\f.from_=j.from_/\j.visits[j.step]?=some v/\f.visits=j.visits.set j.step (v+1):=by
  rcases VR with⟨q,t,a1,a2,_⟩ | hh | ⟨a1,_⟩
  ·exact absurd rfl (h.JV a1 a2 w E4)
  ·exact hh
  have:=Vx E4;omega
 rw[hv]at w7;injection w7 with w7;subst w7;have ht:t=x.now:=by
  have:=Xw h w1 E4 rfl;rw[<-FB,<-this]
 have GM:tC st ⟨lt.name,k,j.step,v+1⟩=st.bad.any (WV f (v+1)):=by
  unfold tC;congr 1;funext g;simp only[WV,O,U,w3,k1,k2]
 have lv:=ah hv;have ls:=ah hs;refine⟨w,W,f,v+1,s,j.step,V,FB,G,hf,w2,by rw[w4,ht],w3,hs,by rw[Y,bQ lv],by rw[I];exact jv.2.2.2,y3,y1,?_,?_⟩
 ·rw[y4,<-GM];simp only[S9,W7,O,U,w3,w4,w5,w6,k1,k2,ht]
 rw[GM]at z;have YQ:f.step.toNat=j.step:=by rw[w3,c8]
 have Q7:st.steps.length=st.steps.length:=rfl;have c:∀(j':lH) (f':eS),y.jobs=x.jobs.set (bU st w) j'->WR st.steps st.bad x.now (v+1) f=f'->(y.queues=x.queues\/∃(n:Nat) (q:List Wt),x.queues[n]?=some q/\y.queues=x.queues.set n (eH q w))->Ym st y w j' f'->Rel st y (L.set (bU st w) (WR st.steps st.bad x.now (v+1) f)):=by
  intro j' f' z1 z2 z3 z4;rw[z2];refine⟨by rw[cu,z1,cu];exact R.len,fun u hu p g hp J=>?_⟩;by_cases e:u.2=w.2
  ·rw[wv e]at hp J;rw[z1,gK N,qH rfl]at hp;rw[eR hf,qH rfl]at J;injection hp with hp;injection J with J;subst hp J;obtain⟨c1,c2,c3,c4⟩:=z4;exact⟨c1,c2,c3,by rw[e];exact c4⟩
  have ne:bU st u≠bU st w:=fun e2=>e (hu.inj G e2);rw[z1,gK N,af ne]at hp;rw[eR hf,af ne]at J;exact X7 V y1 z3 e (R.at_ u hu p g hp J)
 have Fw:∀n,n<st.steps.length->∃q,x.queues[n]?=some q/\bF x n=q:=fun n hn=>by
  obtain⟨q,hq⟩:=a8 (l:=x.queues) (i:=n) (by rw[h.sv.ql];exact hn);exact⟨q,hq,by rw[bF,hq];rfl⟩
 have Wh:=h.hb j.step s hs;generalize hB:st.bad.any (WV f (v+1))=bad at z;have Y2:((x.now,w.2):Wt)=w:=by rw[<-FB]
 unfold mM at z;simp only at z;split at z
 ·rename_i Z;obtain⟨q,q1,q2⟩:=Fw s.back.toNat (by omega);have D:y.queues=x.queues.set s.back.toNat (eH q w):=by
   rw[z,<-q2];rfl
  refine c { kQ j v with step:=s.back.toNat,made:={ j.made with rework:=j.made.rework+1 } } { f with working:=false,came:=x.now,at_:=x.now,rework:=f.rework+1,step:=s.back } (by rw[z];rfl) ?_ (.inr ⟨_,q,q1,D⟩) ⟨O,U,by show f.rework+1=j.made.rework+1;rw[I],.inl ⟨eH q w,x.now,?_,WX (.inr Y2),rfl,by show s.back=((s.back.toNat:Nat):Int);omega,rfl,Y⟩⟩
  ·rw[WR,hB,Z.1,af (by decide),YQ,hs];simp only;rw[qH ⟨Z.2.1,by rw[I];exact Z.2.2⟩]
  show y.queues[s.back.toNat]?=_;rw[D,eR q1,qH rfl]
 rename_i Z;split at z
 ·rename_i Ft;have D:y.queues=x.queues:=by rw[z];rfl
  cases bad with
  | true=>
   refine c { kQ j v with made:={ j.made with done:=!true,at_:=x.now } } { f with working:=false,came:=x.now,at_:=x.now,step:=-1 } (by rw[z];rfl) ?_ (.inl D) ⟨O,U,I,.inr (.inr ⟨XK h V y1 D,rfl,rfl,.inr ⟨rfl,rfl⟩,Y⟩)⟩;rw[WR,hB,af (by decide),YQ,hs];simp only;rw[af fun hh=>Z ⟨rfl,hh.1,by rw[<-I];exact hh.2⟩]
  | false=>
   have DX:j.step+1=st.steps.length:=by
    rcases Ft with h | h
    ·cases h
    exact h
   refine c { kQ j v with made:={ j.made with done:=!false,at_:=x.now } } { f with working:=false,came:=x.now,at_:=x.now,step:=f.step+1 } (by rw[z];rfl) ?_ (.inl D) ⟨O,U,I,.inr (.inr ⟨XK h V y1 D,rfl,rfl,.inl ⟨rfl,by show f.step+1=_;rw[w3];omega⟩,Y⟩)⟩;rw[WR,hB,qH rfl]
 rename_i Ft;have Yf:bad=false:=by
  cases bad with
  | true=>exact absurd (.inl rfl) Ft
  | false=>rfl
 subst Yf;have bO:j.step+1≠st.steps.length:=fun e=>Ft (.inr e);obtain⟨q,q1,q2⟩:=Fw (j.step+1) (by omega);have D:y.queues=x.queues.set (j.step+1) (eH q w):=by
  rw[z,<-q2];rfl
 refine c { kQ j v with step:=j.step+1 } { f with working:=false,came:=x.now,at_:=x.now,step:=f.step+1 } (by rw[z];rfl) ?_ (.inr ⟨_,q,q1,D⟩) ⟨O,U,I,.inl ⟨eH q w,x.now,?_,WX (.inr Y2),rfl,by show f.step+1=((j.step+1:Nat):Int);rw[w3];omega,rfl,Y⟩⟩
 ·rw[WR,hB,qH rfl]
 show y.queues[j.step+1]?=_;rw[D,eR q1,qH rfl]
variable {s:List gI}
theorem Xn{i:Nat}{now:Int}{t:gI}{x:eS}{v:Int}(hs:s[i]?=some t)(c:Wy i L t.machines.toNat<t.machines.toNat)(z:0<=iv i now L L.length)(D:L[(iv i now L L.length).toNat]?=some x)(G:x.visits[i]?=some v):WK s i now L=some (L.set (iv i now L L.length).toNat (Xv t i now (Wy i L t.machines.toNat) v x)):=by
 rw[WK,hs];simp only;rw[qH ⟨c,z⟩,D];simp only;rw[G]
theorem Xo{i:Nat}{now:Int}{t:gI}(hs:s[i]?=some t)(h:¬(Wy i L t.machines.toNat<t.machines.toNat/\0<=iv i now L L.length)):WK s i now L=none:=by
 rw[WK,hs];simp only;rw[af h]
theorem Xc(s:List gI)(now:Int)(n:Nat)(L:List eS):B1 s now (n+1) L=WH s n now (B1 s now n L):=by
 rw[B1,Vc,TO];rfl
theorem Yz(s:List gI)(b:List Fl)(z:List eS)(D:List dQ)(now:Int)(hS:s.length<=1000)(hM:∀t∈s,0<=t.machines/\t.machines<=1000)(hT:∀t∈s,0<=t.minutes/\t.minutes<=1000000)(hL:z.length<=1000000)(hV:∀x∈z,Ye s x)(hn:0<=now/\now<=1000000000000000):
  cR C 24 [.bx 100000 0,.p (i64 now)] (p7 s b (z.map gv) D) (.tu []) (p7 s b ((B1 s now s.length z).map gv) D):=by
 have ls:=cH s gq;refine Jr ⟨[7],[],[],[],[],[]⟩ hC Tryz.func24 rfl (by kernel_rfl) fun _=>?_;refine d_ (fun i:Nat=>i<=s.length) (fun i=>[(0,.bx 100000 0),(1,.p (i64 now)),(4,.p (i64 i))]) (fun i=>p7 s b ((B1 s now i z).map gv) D) (fun i=>s.length-i) 0 _ (aY.refl _ _) (nI _) ⟨Z,Z,Z,Y⟩ ⟨Z,Z,Z,Y⟩ fun i hi t h=>?_;apply iW<;>intro h1<;>try simp only[zB]at h1
 ·obtain⟨c,hs⟩:=a8 (l:=s) (i:=i) (by omega);have Za:=hM c (aj hs);have Zm:=hT c (aj hs);obtain⟨v1,v2⟩:=W6 (now:=now) hV i;refine d_ (fun L:List eS=>B1 s now (i+1) z=WH s i now L/\(∀x∈L,Ye s x)/\L.length=z.length) (fun _=>[(0,.bx 100000 0),(1,.p (i64 now)),(4,.p (i64 i))]) (fun L=>p7 s b (L.map gv) D) WO (B1 s now i z) _ (aY.refl _ _) ⟨Xc s now i z,v1,v2⟩ ⟨Z,Z,Z,Y⟩ ⟨Z,Z,Z,Y⟩ fun L Lh t h=>?_;obtain⟨U,g2,g3⟩:=Lh;have rg:=W5 i now L L.length;refine⟨[(100000,100000),(100001,100001),(90004,90004)],_,_,_,_,X6 s b L D i c hs Za (by omega),⟨rfl,rfl,rfl,iX (AB.ai _) (by simp only[eT]),Z,Y⟩,[(100000,100000),(100001,100001),(90004,90004)],_,_,_,_,X5 s b L D i now (by omega),⟨rfl,rfl,rfl,iX (AB.ai _) (by simp only[eT]),Z,Y⟩,?_⟩;by_cases N:Wy i L c.machines.toNat<c.machines.toNat
  ·rw[qH N];apply iW<;>intro a1<;>try simp only[zB]at a1
   ·refine⟨wO (by omega),(i+1),_,aY.refl _ _,?_⟩;rw[U,WG (Xo hs fun V=>absurd V.2 (by omega))];exact⟨by omega,by omega,⟨Z,Z,Z,Y⟩,⟨rfl,iX (AB.ai _) (by simp only[eT]),Z,Y⟩⟩
   obtain⟨x,I,w1,w2,w3⟩:=WU (i:=i) (now:=now) (L:=L) (n:=L.length) (by omega);obtain⟨y1,y2⟩:=g2 x (aj I);obtain⟨v,J⟩:=a8 (l:=x.visits) (i:=i) (by omega);have NF:=y2 v (aj J);rw[w2]at NF;simp only[qU,if_false]at NF;have O:=Xn hs N (by omega) I J;have YR:=Xk O;obtain⟨o1,o2⟩:=XI O g2;generalize hw:iv i now L L.length=wq at *;obtain⟨w,rfl⟩:∃w:Nat,wq=w:=⟨wq.toNat,by omega⟩;rw[c8]at I O o1 o2 YR;have G:=ah I;have YX:(L.map gv)[((w:Nat):Int).toNat]?=some (gv x):=XQ I;refine⟨⟨by omega,by simp only[ct];omega⟩,(gq c),(idx rfl hs),wO (by omega),(gv x),(by rw[eT];exact YX),_,(bQ (by simp only[c8,cu,ct];exact G)),?_⟩;refine⟨_,(bQ (by simp only[c8,cu,ct];exact G)),?_⟩;refine⟨_,(bQ (by simp only[c8,cu,ct];exact G)),?_⟩;have On:((L.set w { x with working:=true,machine:=Wy i L c.machines.toNat,from_:=now,to_:=now+c.minutes }).map gv)[w]?=some (gv { x with working:=true,machine:=Wy i L c.machines.toNat,from_:=now,to_:=now+c.minutes }):=by rw[ao,bQ G];rfl
   refine lG ((aY.KA _ 100001 (.ai _ ((L.set w { x with working:=true,machine:=Wy i L c.machines.toNat,from_:=now,to_:=now+c.minutes }).map gv)) (by exact iX (AB.ai _) (by simp only[eT,c8,Uz,oW];rfl))).trans (aY.mi (by exact hC) _ 100001 w 8 90013 (e:=76) (by decide) (by decide) (by exact rfl) (XU _) On (by exact rfl))) ?_;have lv:i<(x.visits.map fun n=>[i64 n]).length:=by rw[ct];exact ah J
   refine⟨(WQ { x with working:=true,machine:=Wy i L c.machines.toNat,from_:=now,to_:=now+c.minutes } (.av (.ow 90013))),(by rw[c8];exact bQ (by rw[ct,cu];exact G)),?_⟩;refine⟨⟨by omega,by rw[c8];exact lv⟩,[i64 v],(by rw[c8,ao,J];rfl),?_⟩;refine⟨wO (by omega),⟨by omega,by rw[c8];exact lv⟩,[i64 v],(by rw[c8,ao,J];rfl),?_⟩;refine⟨L.set w (Xv c i now (Wy i L c.machines.toNat) v x),_,(aY.KA _ 100001 (.ai _ (qA (L.set w { x with working:=true,machine:=Wy i L c.machines.toNat,from_:=now,to_:=now+c.minutes }) w { x with working:=true,machine:=Wy i L c.machines.toNat,from_:=now,to_:=now+c.minutes })) (by exact rfl)).trans (aY.jg (by exact hC) _ 100001 w 8 90013 (e:=76) (es:=qA (L.set w { x with working:=true,machine:=Wy i L c.machines.toNat,from_:=now,to_:=now+c.minutes }) w { x with working:=true,machine:=Wy i L c.machines.toNat,from_:=now,to_:=now+c.minutes }) (e':=3) (xs:=(x.visits.map fun n=>[i64 n]).set (i:Int).toNat [i64 (v+1)]) (by decide) (by exact rfl) (by exact rfl) (by exact WT (by rw[cu];exact G)) (by exact rfl)),⟨by rw[U,Xb O],o1,by rw[o2,g3]⟩,by omega,⟨Z,Z,Z,Y⟩,⟨rfl,iX (AB.ai _) ?_,Z,Y⟩⟩;have ev:(x.visits.map fun n=>[i64 n]).set i [i64 (v+1)]=(x.visits.set i (v+1)).map fun n=>[i64 n]:=oW.symm;rw[qA,Uz,c8,ev,oW (f:=gv),oW (f:=gv),Uz];rfl
  rw[af N];refine⟨wO (by omega),(i+1),_,aY.refl _ _,?_⟩;rw[U,WG (Xo hs fun V=>N V.1)];exact⟨by omega,by omega,⟨Z,Z,Z,Y⟩,⟨rfl,iX (AB.ai _) (by simp only[eT]),Z,Y⟩⟩
 have e:i=s.length:=by omega
 subst e;exact⟨Z,Z,Z,Z,Y⟩
theorem YS{st:Stat}{x:a_}(h:SZ st x){i:Nat}{q:List Wt}(D:x.queues[i]?=some q){w:Wt}(c:u∈q)(G:w∈q)(e:u.2=w.2):u=w:=by
 by_cases z:u=w
 ·exact z
 exfalso;have I:=h.un w.2;have h4:2<=bK (fun v:Wt=>if v.2=w.2 then 1 else 0) q:=by
  obtain⟨s,t,rfl⟩:=List.append_of_mem G;have J:bK (fun v:Wt=>if v.2=w.2 then 1 else 0) (w::t)=1+bK (fun v:Wt=>if v.2=w.2 then 1 else 0) t:=by
   simp only[bK,qO,SX,qH]
  rw[xX,J];rcases cD.1 c with c | c
  ·have:=jO (f:=fun v:Wt=>if v.2=w.2 then 1 else 0) c;simp only[qH e]at this;omega
  rcases fL.1 c with rfl | c
  ·exact absurd rfl z
  have:=jO (f:=fun v:Wt=>if v.2=w.2 then 1 else 0) c;simp only[qH e]at this;omega
 have h5:=sL (f:=fun v:Wt=>if v.2=w.2 then 1 else 0) (aj D);unfold qE at I;omega
theorem Xx{st:Stat}{K:List (ByteArray×Int)}{x:a_}(h:SZ st x)(a:Tw st K x)(R:Rel st x L){i c:Nat}{b:List Bool}(hb:x.busy[i]?=some b):L.any (Wx i c)=true↔b[c]?=some true:=by
 constructor
 ·intro Z;obtain⟨g,hg,z⟩:=dA.1 Z;simp only[Wx,fH,dS]at z;obtain⟨m,I⟩:=uU.1 hg;have J:=ah I;rw[R.len]at J;obtain⟨w,FB,XL⟩:=W8 h J;obtain⟨j,D⟩:=a8 J;rw[<-XL]at D I;obtain⟨_,_,_,VR⟩:=R.at_ w FB j g D I;rcases VR with⟨_,_,_,_,e,_⟩ | ⟨t,v,N,O,e3,_,e5,_⟩ | ⟨_,e,_⟩
  ·rw[z.1]at e;cases e
  ·obtain⟨j0,s0,b0,c1,c2,G,U,_⟩:=a.a.we _ N;have c1:x.jobs[bU st w]?=some j0:=c1;rw[D]at c1;injection c1 with c1;subst c1;have ei:j.step=i:=by have:=z.2.1;omega
   have ec:j.machine=c:=by have:=z.2.2;omega
   rw[ei,hb]at G;injection G with G;rw[<-G,ec]at U;exact U
  rw[z.1]at e;cases e
 intro hc;obtain⟨w,z,j,D,N,O⟩:=a.bz i b c hb hc;obtain⟨f,V⟩:=a8 (l:=L) (i:=bU st w) (by rw[R.len];exact ah D);obtain⟨_,_,_,VR⟩:=R.at_ w (h.ew w z).1 j f D V;rcases VR with⟨q,t,Y,a2,_⟩ | ⟨t,v,d1,d2,d3,_,d5,_⟩ | ⟨Y,_⟩
 ·exact absurd rfl (h.JV Y a2 w z)
 ·exact dA.2 ⟨f,aj V,by simp[Wx,d2,d3,d5,N,O]⟩
 have:=Vx z;omega
theorem XZ{st:Stat}{K:List (ByteArray×Int)}{x:a_}(h:SZ st x)(a:Tw st K x)(R:Rel st x L){i:Nat}{b:List Bool}{c:gI}(hb:x.busy[i]?=some b)(hs:st.steps[i]?=some c):(dR b<b.length->Wy i L c.machines.toNat=dR b/\dR b<c.machines.toNat)/\(¬dR b<b.length->¬Wy i L c.machines.toNat<c.machines.toNat):=by
 have hl:=a.a.bl i b c hb hs;have D:∀m,m<dR b->b[m]?=some true:=fun m z=>by
  have I:m<b.length:=bg z (List.findIdx_le_length);have:=List.not_of_lt_findIdx (p:=fun x:Bool=>!x) (xs:=b) (i:=m) z;rw[aM I];have e:b[m]=true:=by simpa using this
  rw[e]
 refine⟨fun G=>⟨XG (by omega) (fun m z=>(Xx h a R hb).2 (D m z)) ?_,by omega⟩,fun G=>XH fun m z=>(Xx h a R hb).2 (D m (by omega))⟩;cases hc:L.any (Wx i (dR b)) with
 | false=>rfl
 | true=>
  have:=(Xx h a R hb).1 hc;rw[Hc G]at this;cases this
theorem X1{st:Stat}{x:a_}(h:SZ st x)(R:Rel st x L){i m:Nat}{q:List Wt}{g:eS}(hi:i<st.steps.length)(O:x.queues[i]?=some q)(z:L[m]?=some g)(h1:g.step=i)(U:g.working=false):∃w,yq st w/\bU st w=m/\((g.came,w.2):Wt)∈q:=by
 have D:=ah z;rw[R.len]at D;obtain⟨w,G,I⟩:=W8 h D;obtain⟨j,J⟩:=a8 D;rw[<-I]at J z;obtain⟨_,_,_,VR⟩:=R.at_ w G j g J z;rcases VR with⟨q',t,c,V,a3,a4,Y,_⟩ | ⟨t,v,_,N,_⟩ | ⟨_,_,_,e,_⟩
 ·have Z:j.step=i:=by omega
  rw[Z,O]at c;injection c with c;subst c Y;exact⟨w,G,I,V⟩
 ·rw[U]at N;cases N
 rcases e with⟨_,e⟩ | ⟨_,e⟩<;>omega
theorem Xg{st:Stat}{x:a_}(h:SZ st x)(R:Rel st x L){i:Nat}{q:List Wt}(c:x.queues[i]?=some q)(z:u∈q):∃j f,x.jobs[bU st u]?=some j/\L[bU st u]?=some f/\Ym st x u j f/\j.step=i/\f.step=i/\f.working=false/\f.came=u.1/\f.visits=j.visits:=by
 obtain⟨j,G,hs⟩:=h.qs i q u c z;obtain⟨f,J⟩:=a8 (l:=L) (i:=bU st u) (by rw[R.len];exact ah G);have I:=h.sv.qw q (aj c) u z;have r:=R.at_ u I j f G J;refine⟨j,f,G,J,r,hs,?_⟩;obtain⟨_,_,_,VR⟩:=r;rcases VR with⟨q',t,D,N,O,U,V,Y⟩ | ⟨t,v,Z,_⟩ | ⟨e,_⟩
 ·rw[hs,c]at D;injection D with D;subst D;have:=YS h c N z rfl;refine⟨by rw[U,hs],O,?_,Y⟩;rw[V,<-this]
 ·exact absurd (rfl:((t,u.2):Wt).2=u.2) (h.JV c z (t,u.2) Z)
 have:=Yo c z;omega
theorem YA{st:Stat}{x:a_}(h:SZ st x)(R:Rel st x L){i:Nat}{Q:List Wt}(N:i<st.steps.length)(z:x.queues[i]?=some (u::Q))(hu:u.1<=x.now):iv i x.now L L.length=bU st u:=by
 obtain⟨j,f,hj,J,_,_,O,U,f3,_⟩:=Xg h R z dJ;have D:=h.sv.qw _ (aj z) u dJ;refine (Xl J O U (by omega) (fun m g V Y Z g3=>?_) L.length (aC _)).1 (ah J);obtain⟨w,w1,w2,w3⟩:=X1 h R N z V Y Z;obtain⟨c,hc⟩:=uU.1 w3;have G:=(TK _ _).1 (E2 (h.qh _ (aj z)) (a:=u) rfl c _ hc);simp only[FH]at G;rw[<-w2];by_cases e:f.came<g.came
 ·exact .inl e
 right;have e1:¬(g.came<u.1):=fun I=>G (.inl I);refine⟨by omega,?_⟩;have e2:g.came=u.1:=by omega
 have e3:¬(w.2.1<u.2.1\/w.2.1=u.2.1/\w.2.2<u.2.2):=fun I=>G (.inr ⟨e2,I⟩);by_cases e4:u.2.1<w.2.1\/u.2.1=w.2.1/\u.2.2<w.2.2
 ·exact fm (XX D w1 e4)
 have:u.2=w.2:=UC (by omega) (by omega);rw[wv this];exact aC _
theorem YB{st:Stat}{x:a_}(h:SZ st x)(R:Rel st x L){i:Nat}{q:List Wt}(z:i<st.steps.length)(c:x.queues[i]?=some q)(D:∀u Q,q=u::Q->¬u.1<=x.now)(n:Nat):iv i x.now L n=-1:=by
 refine Xm (fun m g G I J g3=>?_) n;obtain⟨w,_,_,w3⟩:=X1 h R z c G I J;cases q with
 | nil=>cases w3
 | cons u Q=>
  have:=Be (h.qh _ (aj c)) w3;have h1:=D u Q rfl;simp only at this;omega
theorem Rel.YE{st:Stat}{K:List (ByteArray×Int)}{x:a_}(h:SZ st x)(a:Tw st K x)(R:Rel st x L){i:Nat}(c:i<st.steps.length)(G:M.du st i x=none):WK st.steps i x.now L=none:=by
 obtain⟨I,hs⟩:=a8 c;obtain⟨q,z⟩:=a8 (l:=x.queues) (i:=i) (by rw[h.sv.ql];exact c);obtain⟨b,hb⟩:=a8 (l:=x.busy) (i:=i) (by rw[h.sv.bl];exact c);have J:=U3 h G;refine Xo hs fun N=>?_;by_cases D:dR b<b.length
 ·have:=YB h R c z (fun u Q e O=>J I u Q b hs (by rw[z,e]) hb ⟨O,D⟩) L.length;omega
 exact (XZ h a R hb hs).2 D N.1
theorem Rel.start{st:Stat}{K:List (ByteArray×Int)}{x y:a_}(h:SZ st x)(a:Tw st K x)(R:Rel st x L){i:Nat}(c:M.du st i x=some y):∃L',WK st.steps i x.now L=some L'/\Rel st y L':=by
 unfold M.du at c;split at c
 ·rename_i s u Q b U G h3;split at c
  ·rename_i hc;split at c
   ·rename_i j J;injection c with c;have hi:=ah U;obtain⟨j2,f,N,V,r,Y,f1,f2,f3,f4⟩:=Xg h R G dJ;rw[J]at N;injection N with N;subst N;have Z:=YA h R hi G hc.1;obtain⟨m1,m2⟩:=(XZ h a R h3 U).1 hc.2;have hok:=h.sv.qw _ (aj G) u dJ;have jv:=h.jv j (aj J);obtain⟨v,hv⟩:=a8 (l:=j.visits) (i:=i) (by rw[jv.2.1];exact hi);have wL:=Xn (now:=x.now) U (by rw[m1];exact m2) (by rw[Z];omega) (x:=f) (v:=v) (by rw[Z,c8];exact V) (by rw[f4];exact hv);rw[Z,c8,m1]at wL;refine⟨_,wL,?_⟩;have y1:y.jobs=x.jobs.set (bU st u) { j with machine:=dR b,from_:=x.now }:=by rw[<-c];rfl
    have y2:y.ends=eH x.ends (x.now+s.minutes,u.2):=by rw[<-c];rfl
    have y6:y.queues=x.queues.set i (dD (u::Q)):=by rw[<-c];rfl
    have VY:∀p,qE y p=qE x p:=fun p=>by
     unfold qE;have z:=jN (f:=fun w=>if w.2=p then 1 else 0) (dD (u::Q)) G;have D:=oS (f:=fun w=>if w.2=p then 1 else 0) u Q;have O:=jM (f:=fun w=>if w.2=p then 1 else 0) x.ends (x.now+s.minutes,u.2);rw[y2,y6];simp only at D O;omega
    refine⟨by rw[cu,y1,cu];exact R.len,fun w XL p g hp I=>?_⟩;by_cases e:w.2=u.2
    ·rw[wv e]at hp I;rw[y1,gK J,qH rfl]at hp;rw[eR V,qH rfl]at I;injection hp with hp;injection I with I;subst hp I;obtain⟨r1,r2,r3,_⟩:=r;refine⟨r1,r2,r3,.inr (.inl ⟨x.now+s.minutes,v,?_,rfl,by show f.step=(j.step:Int);rw[f1,Y],rfl,rfl,rfl,by show j.visits[j.step]?=some v;rw[Y];exact hv,?_⟩)⟩
     ·rw[y2,e];exact WX (.inr rfl)
     show f.visits.set i (v+1)=j.visits.set j.step (v+1);rw[f4,Y]
    have ne:bU st w≠bU st u:=fun e2=>e (XL.inj hok e2);rw[y1,gK J,af ne]at hp;rw[eR V,af ne]at I;obtain⟨r1,r2,r3,VR⟩:=R.at_ w XL p g hp I;refine⟨r1,r2,r3,?_⟩;rcases VR with⟨q,t,z,D,O⟩ | ⟨t,v',z,D⟩ | ⟨z,D⟩
    ·by_cases e3:p.step=i
     ·rw[e3,G]at z;injection z with z;subst z;exact .inl ⟨dD (u::Q),t,by rw[y6,e3,eR G,qH rfl],XY D fun e4=>e (by rw[<-e4]),O⟩
     exact .inl ⟨q,t,by rw[y6,eR G,af e3];exact z,D,O⟩
    ·exact .inr (.inl ⟨t,v',by rw[y2];exact WX (.inl z),D⟩)
    exact .inr (.inr ⟨by rw[VY];exact z,D⟩)
   cases c
  cases c
 cases c
theorem X8{st:Stat}{i:Nat}{x y:a_}(c:M.du st i x=some y):y.now=x.now/\y.done=x.done:=by
 unfold M.du at c;split at c
 ·split at c
  ·split at c
   ·injection c with c;rw[<-c];exact⟨rfl,rfl⟩
   cases c
  cases c
 cases c
theorem Rel.eo{st:Stat}{K:List (ByteArray×Int)}{i:Nat}(G:i<st.steps.length):∀(n:Nat) {x:a_} {L:List eS},SZ st x->Tw st K x->Rel st x L->(bF x i).length<=n->SZ st (M.eo n st i x)/\Tw st K (M.eo n st i x)/\Rel st (M.eo n st i x) (WH st.steps i x.now L)/\(M.eo n st i x).now=x.now/\(M.eo n st i x).done=x.done
 | 0,x,L,h,a,R,hn=>by
  have hs:M.du st i x=none:=by
   cases hc:M.du st i x with
   | none=>rfl
   | some y=>
    obtain⟨u,Q,b,c,D,_⟩:=T7 hc;rw[bF,D]at hn;simp at hn
  rw[M.eo,WG (R.YE h a G hs)];exact⟨h,a,R,rfl,rfl⟩
 | n+1,x,L,h,a,R,hn=>by
  unfold M.eo;split
  ·rename_i y z;obtain⟨u,Q,b,c,D,h2,N,h4,h5⟩:=T7 z;obtain⟨L',O,U⟩:=R.start h a z;obtain⟨V,Y⟩:=X8 z;have Z:(bF y i).length<=n:=by
    rw[bF,D]at hn;rw[bF,N,eR D,qH rfl];have:=oP u Q;simp only[fR,bw]at hn ⊢;omega
   obtain⟨i1,i2,I,J,i5⟩:=Rel.eo G n (h.du z).1 (a.start h z) U Z;rw[V]at I J;rw[Xb O];exact⟨i1,i2,I,J,i5.trans Y⟩
  rename_i hs;rw[WG (R.YE h a G hs)];exact⟨h,a,R,rfl,rfl⟩
theorem Rel.Yp{st:Stat}{K:List (ByteArray×Int)}{x:a_}(h:SZ st x)(a:Tw st K x)(R:Rel st x L):∀n,n<=st.steps.length->SZ st ((List.range n).foldl (fun x i=>dE st i x) x)/\Tw st K ((List.range n).foldl (fun x i=>dE st i x) x)/\Rel st ((List.range n).foldl (fun x i=>dE st i x) x) (B1 st.steps x.now n L)/\((List.range n).foldl (fun x i=>dE st i x) x).now=x.now/\((List.range n).foldl (fun x i=>dE st i x) x).done=x.done
 | 0,_=>⟨h,a,R,rfl,rfl⟩
 | n+1,hn=>by
  obtain⟨z,D,G,c,I⟩:=Rel.Yp h a R n (by omega);rw[Xc,Vc,TO];generalize (List.range n).foldl (fun x i=>dE st i x) x=y at z D G c I ⊢;obtain⟨N,O,J,U,V⟩:=Rel.eo (show n<st.steps.length by omega) _ z D G (aC _);rw[c]at J;exact⟨N,O,J,U.trans c,V.trans I⟩
theorem SZ.bump{st:Stat}{y:a_}(s1:SZ st y){a:Int}(n1:y.now<a)(n2:∀w∈y.ends,a<=w.1)(c:∃w,(w∈y.ends\/∃Z∈y.queues,w∈Z)/\w.1=a):SZ st { y with now:=a }/\eW st { y with now:=a }<eW st y:=by
 obtain⟨w,c,n4⟩:=c;obtain⟨z,G⟩:∃z:a_,z={ y with now:=a }:=⟨_,rfl⟩;have D:z.queues=y.queues:=by rw[G]
 have I:z.ends=y.ends:=by rw[G]
 have O:z.jobs=y.jobs:=by rw[G]
 have Y:z.busy=y.busy:=by rw[G]
 have zd:z.done=y.done:=by rw[G]
 have U:z.now=a:=by rw[G]
 have J:∀u,fx st z u=fx st y u:=fun u=>by rw[fx,fx,O]
 have V:∀u,fF z u<=fF y u:=fun u=>by unfold fF;rw[U];split<;>split<;>omega
 have Mo:fF z w<fF y w:=by rw[fF,fF,U,af (by omega),qH (by omega)];omega
 have JD:eW st z<eW st y:=by
  have a1:eJ (fun u=>4*fx st z u+2+fF z u) y.queues<=eJ (fun u=>4*fx st y u+2+fF y u) y.queues:=mA fun q _ u _=>by have:=J u;have:=V u;omega
  have a2:bK (fun u=>4*fx st z u+fF z u) y.ends<=bK (fun u=>4*fx st y u+fF y u) y.ends:=kA fun u _=>by have:=J u;have:=V u;omega
  unfold eW;rw[D,I];rcases c with c | c
  ·have a3:bK (fun u=>4*fx st z u+fF z u) y.ends<bK (fun u=>4*fx st y u+fF y u) y.ends:=wu (fun u _=>by have:=J u;have:=V u;omega) c (by have:=J w;omega);omega
  obtain⟨Z,m1,m2⟩:=c;have a3:eJ (fun u=>4*fx st z u+2+fF z u) y.queues<eJ (fun u=>4*fx st y u+2+fF y u) y.queues:=Bg (fun q _ u _=>by have:=J u;have:=V u;omega) m1 m2 (by have:=J w;omega);omega
 have SF:a<=1000000000+1000000*((WD:Int)-eW st y):=by
  rw[<-n4];exact s1.tm w c
 have Ib:(1000000000:Int)+1000000*((WD:Int)-eW st y)<=1000000000+1000000*((WD:Int)-eW st z):=by omega
 have e0:WD=15000000:=rfl;have Pf:=s1.sv.now;rw[<-G];refine⟨⟨⟨by rw[D];exact s1.sv.ql,by rw[Y];exact s1.sv.bl,by rw[O];exact s1.sv.jl,by rw[D];exact s1.sv.qw,by rw[D,I];exact s1.sv.tot,by rw[Y];exact s1.sv.bn,by rw[U];exact⟨by omega,by omega⟩,s1.sv.mn⟩,s1.hs,s1.hb,s1.hl,by rw[I];exact s1.eh,by rw[D];exact s1.qh,fun u N=>?_,by rw[O,zd];exact s1.jv,fun p=>?_,?_,?_,by rw[zd];have:=s1.dn;omega,fun u N=>?_,by rw[U];omega⟩,JD⟩
 ·rw[I]at N;rw[U];exact⟨(s1.ew u N).1,n2 u N⟩
 ·have:=s1.un p;unfold qE at this ⊢;rw[D,I];exact this
 ·rw[D,O];exact s1.qs
 ·rw[I,O,Y];exact s1.es
 rw[I,D]at N;have:=s1.tm u N;omega
theorem XR{st:Stat}{K:List (ByteArray×Int)}{y:a_}(N:SZ st y)(I:Tw st K y)(V:∀(i:Nat) s,st.steps[i]?=some s->1<=s.machines)(z:(eU y (bF y 0)).1=false)(Y:∀i,i<st.steps.length->Quiet st i y):y.ends=[]/\(∀q∈y.queues,q=[])/\∀p,qE y p=0:=by
 have D:y.ends=[]:=by
  cases e:y.ends with
  | nil=>rfl
  | cons u W=>
   exfalso;rw[eU,e,gJ,ky,qH (.inl rfl)]at z;unfold wc at z;split at z
   ·cases z
   split at z
   ·unfold ky at z;split at z
    ·cases z
    cases z
   cases z
 have h0:∀a Q,y.queues[0]?=some (a::Q)->a.1<=y.now:=fun a Q e=>by
  rw[eU,D,bF,e]at z;simp only[fR,gJ,wc]at z;split at z
  ·rw[ky,qH (.inl rfl)]at z;cases z
  omega
 have O:∀q∈y.queues,q=[]:=fun q Z=>by
  obtain⟨i,G⟩:=uU.1 Z;cases q with
  | nil=>rfl
  | cons a Q=>
   exfalso;have hl:=ah G;rw[N.sv.ql]at hl;have ha:a.1<=y.now:=by
    by_cases e:i=0
    ·subst e;exact h0 a Q G
    exact I.qn i _ a G dJ (by omega)
   obtain⟨s,hs⟩:=a8 hl;obtain⟨b,hb⟩:=a8 (l:=y.busy) (i:=i) (by rw[N.sv.bl];exact hl);have hlen:=I.a.bl i b s hb hs;have F4:=V i s hs;have C4:¬dR b<b.length:=fun h=>Y i hl s a Q b hs G hb ⟨ha,h⟩;obtain⟨c,J⟩:=a8 (l:=b) (i:=0) (by omega);have Wd:c=true:=by
    have e:b.findIdx (fun x=>!x)=b.length:=by
     have:=List.findIdx_le_length (p:=fun x:Bool=>!x) (xs:=b);unfold dR at C4;omega
    have:=(List.findIdx_eq_length.1 e) c (aj J);simpa using this
   rw[Wd]at J;obtain⟨w,U,_⟩:=I.bz i b 0 hb J;rw[D]at U;cases U
 refine⟨D,O,fun p=>?_⟩;unfold qE;rw[D,UT O];rfl
theorem Xp{y:a_}{v:Wt}{Q:List Wt}{a:Int}(c:eU y (v::Q)=(true,a))(D:y.now<v.1):a<=v.1:=by
 rw[eU,wc,qH D,ky]at c;split at c
 ·injection c with _ c;omega
 rename_i z;rw[c]at z;simp only at z;have:¬v.1<a:=fun h=>z (.inr h);omega
theorem X9{st:Stat}{x:a_}(c:(eU (bV st (fy st x)) (bF (bV st (fy st x)) 0)).1=false):M.iV st x=bV st (fy st x):=by
 rw[M.iV,iU];split
 ·rename_i a z;rw[z]at c;cases c
 rfl
theorem Xd{st:Stat}{x:a_}(h:∀i,i<st.steps.length->M.du st i x=none):bV st x=x:=by
 have:∀l:List Nat,(∀i∈l,i<st.steps.length)->l.foldl (fun x i=>dE st i x) x=x:=by
  intro l
  induction l with
  | nil=>intro _;rfl
  | cons i l ih=>
   intro hl;rw[uY];have e:dE st i x=x:=by
    rw[dE];cases (bF x i).length with
    | zero=>rfl
    | succ n=>rw[M.eo,h i (hl i dJ)]
   rw[e];exact ih fun k c=>hl k (An _ c)
 exact this _ fun i z=>dT.1 z
theorem Xe{c z:Int}:∀{L:List eS} (o:Int),(∀x∈L,gu c x=gu z x)->gy s c L o=gy s z L o
 | [],o,_=>rfl
 | x::L,o,h=>by
  show gy s c L (p6 s c x o)=gy s z L (p6 s z x o);have e:p6 s c x o=p6 s z x o:=by rw[p6,p6,h x dJ]
  rw[e];exact Xe _ fun y D=>h y (An _ D)
theorem Yq{st:Stat}{z:a_}(h:SZ st z)(R:Rel st z L){w:Wt}(c:w∈z.ends):∃f∈L,WA st.steps f=false/\0<=gu z.now f/\gu z.now f=w.1:=by
 obtain⟨D,Wi⟩:=h.ew w c;obtain⟨j,b,G,_,_⟩:=h.es w c;obtain⟨f,I⟩:=a8 (l:=L) (i:=bU st w) (by rw[R.len];exact ah G);obtain⟨_,_,_,VR⟩:=R.at_ w D j f G I;have jl:=(h.jv j (aj G)).1;have hn:=h.sv.now;rcases VR with⟨q,t,J,N,_⟩ | ⟨t,v,d1,O,U,V,_⟩ | ⟨J,_⟩
 ·exact absurd rfl (h.JV J N w c)
 ·have:=Xw h d1 c rfl;have e:gu z.now f=w.1:=by rw[gu,qH O,V,<-this]
  exact⟨f,aj I,by simp[WA,U];omega,by omega,e⟩
 have:=Vx c;omega
theorem X_{st:Stat}{z:a_}(h:SZ st z)(R:Rel st z L){i:Nat}{q:List Wt}{w:Wt}(c:z.queues[i]?=some q)(D:w∈q)(hl:z.now<w.1):∃f∈L,WA st.steps f=false/\0<=gu z.now f/\gu z.now f=w.1:=by
 obtain⟨j,f,G,I,_,js,J,N,f3,_⟩:=Xg h R c D;have jl:=(h.jv j (aj G)).1;have hn:=h.sv.now;have e:gu z.now f=w.1:=by rw[gu,af (by rw[N];decide),f3,qH hl]
 exact⟨f,aj I,by simp[WA,J];omega,by omega,e⟩
theorem X2{st:Stat}{z:a_}(h:SZ st z)(R:Rel st z L){f:eS}(J:f∈L)(N:WA st.steps f=false)(G:0<=gu z.now f):(∃w∈z.ends,w.1=gu z.now f)\/∃(i:Nat) (q:List Wt) (w:Wt),z.queues[i]?=some q/\w∈q/\z.now<w.1/\w.1=gu z.now f:=by
 obtain⟨m,c⟩:=uU.1 J;have D:=ah c;rw[R.len]at D;obtain⟨w,O,U⟩:=W8 h D;obtain⟨j,I⟩:=a8 D;rw[<-U]at I c;obtain⟨_,_,_,VR⟩:=R.at_ w O j f I c;rcases VR with⟨q,t,V,Y,Z,a4,a5,_⟩ | ⟨t,v,d1,d2,d3,d4,_⟩ | ⟨_,_,_,e,_⟩
 ·right;rw[gu,af (by rw[Z];decide),a5]at G ⊢;split at G
  ·rename_i hl;rw[qH hl];exact⟨j.step,q,_,V,Y,hl,rfl⟩
  omega
 ·left;exact⟨_,d1,by rw[gu,qH d2,d4]⟩
 exfalso;rcases e with⟨_,e⟩ | ⟨_,e⟩<;>simp[WA,e]at N
theorem round{st:Stat}{K:List (ByteArray×Int)}{x z:a_}(hx:SZ st x)(V:z=bV st (fy st x))(h:SZ st z)(a:Tw st K z)(R:Rel st z L)(hl:oT z)(hq:∀i,i<st.steps.length->Quiet st i z)(hm:∀(i:Nat) s,st.steps[i]?=some s->1<=s.machines):
  (gy st.steps z.now L (-1)=-1/\M.iV st x=z/\∀p,qE z p=0)\/(0<=gy st.steps z.now L (-1)/\z.now<gy st.steps z.now L (-1)/\SZ st { z with now:=gy st.steps z.now L (-1) }/\eW st { z with now:=gy st.steps z.now L (-1) }<eW st z/\M.iV st { z with now:=gy st.steps z.now L (-1) }=M.iV st x):=by
 obtain⟨m1,m2,Z⟩:=W9 st.steps z.now L (-1);generalize gy st.steps z.now L (-1)=N at m1 m2 Z ⊢;cases hn:eU z (bF z 0) with
 | mk c t=>
 cases c with
 | false=>
  left;obtain⟨d1,d2,d3⟩:=XR h a hm (by rw[hn]) hq;refine⟨?_,?_,d3⟩
  ·rcases Z with e | ⟨f,hf,h1,h2,_⟩
   ·exact e
   exfalso;rcases X2 h R hf h1 h2 with⟨w,G,_⟩ | ⟨i,q,w,xg,G,_⟩
   ·rw[d1]at G;cases G
   rw[d2 q (aj xg)]at G;cases G
  rw[V];exact X9 (by rw[<-V,hn])
 | true=>
  right;obtain⟨n1,n2,w,J,n4⟩:=Bj hl h.eh hn;have yp:w∈bF z 0->∃I,z.queues[0]?=some I/\w∈I:=fun G=>by
   unfold bF at G;cases hc:z.queues[0]? with
   | none=>rw[hc]at G;cases G
   | some I=>rw[hc]at G;exact⟨I,rfl,G⟩
  obtain⟨f,f1,f2,f3,f4⟩:∃f∈L,WA st.steps f=false/\0<=gu z.now f/\gu z.now f=w.1:=by
   rcases J with J | J
   ·exact Yq h R J
   obtain⟨I,c1,c2⟩:=yp J;exact X_ h R c1 c2 (by omega)
  have hN:=m2 f f1 f2 f3;have Zn:N<=t:=by omega
  obtain⟨g,g1,g2,g3,g4⟩:∃g∈L,WA st.steps g=false/\0<=gu z.now g/\N=gu z.now g:=by
   rcases Z with e | e
   ·omega
   exact e
  have YJ:=X2 h R g1 g2 g3;rw[<-g4]at YJ;have Pf:z.now<N:=by
   rcases YJ with⟨u,O,Y⟩ | ⟨i,q,u,_,_,u3,u4⟩
   ·have:=hl u O;omega
   omega
  have iN:∀u∈z.ends,N<=u.1:=fun u hu=>by have:=n2 u hu;omega
  have hex:∃w,(w∈z.ends\/∃I∈z.queues,w∈I)/\w.1=N:=by
   rcases YJ with⟨u,O,Y⟩ | ⟨i,q,u,O,Y,_,u4⟩
   ·exact⟨u,.inl O,Y⟩
   exact⟨u,.inr ⟨q,aj O,Y⟩,u4⟩
  obtain⟨b1,b2⟩:=h.bump Pf iN hex;refine⟨hN.1,Pf,b1,b2,?_⟩;have YF:M.iV st { z with now:=t }=M.iV st x:=by
   rw[V];exact CI hx (by rw[<-V];exact hn)
  by_cases e:N=t
  ·rw[e];exact YF
  rw[<-YF];obtain⟨D,U⟩:∃D:a_,D={ z with now:=N }:=⟨_,rfl⟩;rw[<-U]at b1 ⊢;have k1:M.eI st D=none:=by
   rw[U];unfold M.eI;simp only;split
   ·rfl
   rename_i u W he;rw[af];have:=n2 u (by rw[he];exact dJ);omega
  have k2:∀i,i<st.steps.length->M.du st i D=none:=fun i hi=>by
   cases hc:M.du st i D with
   | none=>rfl
   | some y=>
    exfalso;unfold M.du at hc;split at hc
    ·rename_i s u Q b c1 c2 c3;split at hc
     ·rename_i Oy;rw[U]at c2 c3 Oy;simp only at c2 c3 Oy;have YY:=hq i hi s u Q b c1 c2 c3;have hu:z.now<u.1:=by
       by_cases h0:u.1<=z.now
       ·exact absurd ⟨h0,Oy.2⟩ YY
       omega
      by_cases i0:i=0
      ·subst i0;have:=Xp (y:=z) (v:=u) (Q:=Q) (a:=t) (by rw[<-hn,bF,c2];rfl) hu;omega
      have:=a.qn i _ u c2 dJ (by omega);omega
     cases hc
    cases hc
  have k3:fy st D=D:=uD k1;have k4:bV st D=D:=Xd k2;have k5:eU D (bF D 0)=(true,t):=by
   rw[<-hn,U];show wc N (bF z 0) (gJ z.ends (false,0))=wc z.now (bF z 0) (gJ z.ends (false,0));cases hc:bF z 0 with
   | nil=>rfl
   | cons v Q=>
    rw[hc]at hn;rw[wc,wc];by_cases hv:z.now<v.1
    ·have:=Xp hn hv;rw[qH hv,qH (by omega)]
    rw[af hv,af (by omega)]
  have:=CI (st:=st) (x:=D) b1 (a:=t) (by rw[k3,k4];exact k5);rw[k3,k4]at this;rw[<-this,U]
open Reg (Tb)
def W2(s:List gI)(x:Lt)(k:Nat):eS:=⟨x.name,k,0,x.at_,false,0,0,0,List.replicate s.length 0,0,0⟩
def WE(s:List gI)(x:Lt)(n:Nat):List eS:=(List.range n).map (W2 s x)
def lB(s:List gI)(l:List Lt):List eS:=l.flatMap fun x=>WE s x x.panels.toNat
variable {α:Type}
theorem wA(F:Lt->Nat->α):∀{l:List Lt} {i k:Nat} {x:Lt},l[i]?=some x->k<x.panels.toNat->(l.flatMap fun x=>(List.range x.panels.toNat).map (F x))[pos (Ii l) i k]?=some (F x k)
 | [],i,k,x,h,_=>by simp at h
 | a::l,0,k,x,h,hk=>by
  simp at h;subst h;simp only[pos,oX,rA,Bv,ae,fT];rw[ba (by simpa using hk),ao,fG hk];rfl
 | a::l,i+1,k,x,h,hk=>by
  have ih:=wA F (l:=l) (i:=i) (k:=k) (by simpa using h) hk;rw[Ii,qO,lM,uX];simp only[fT];rw[bd (by simp),ct,TB,qZ];exact ih
theorem W_(s:List gI):∀l:List Lt,(lB s l).length=(gh s l).length
 | []=>rfl
 | x::l=>by
  have ih:=W_ s l;simp only[lB,gh,fT,fj]at ih ⊢;rw[ih];simp[WE,iP]
theorem Ya{l:List Lt}{f:eS}(h:f∈lB s l):∃x∈l,∃k,k<x.panels.toNat/\f=W2 s x k:=by
 simp only[lB,ic,WE,fh,dT]at h;obtain⟨x,c,k,z,rfl⟩:=h;exact⟨x,c,k,z,rfl⟩
theorem Rel.zero{l:List Lt}{b:List Fl}(Z:cz s=0):Rel (MC s l b) (fY s l) (lB s l):=by
 obtain⟨s1,s2⟩:=o5 Z;refine⟨W_ s l,fun w hw j f c D=>?_⟩;obtain⟨i,k,r,g,N,O,G,a4⟩:=hw;have G:(Ii l)[i]?=some r:=G;rw[Ii,ao]at G;obtain⟨y,z,rfl⟩:=az.1 G;have I:=ah a4;rw[uX]at I;have hp:bU (MC s l b) w=pos (Ii l) i k:=by
  rw[bU,N,O,c8,c8];rfl
 have e1:(gh s l)[pos (Ii l) i k]?=some (qx s y k):=wA (qx s) z I;have e2:(lB s l)[pos (Ii l) i k]?=some (W2 s y k):=wA (W2 s) z I;have c:(gh s l)[bU (MC s l b) w]?=some j:=c;rw[hp,e1]at c;rw[hp,e2]at D;injection c with c;injection D with D;subst c D;refine⟨rfl,rfl,rfl,.inl ⟨dh l l.length,y.at_,qy s1.1 _,?_,rfl,rfl,rfl,rfl⟩⟩;have Wi:=UU z I l.length (ah z);obtain⟨v,U,V⟩:=TQ (f:=Nn ((i:Int),(k:Int))) (l:=dh l l.length) (by omega);obtain⟨n,x,m,c1,c2,c3,Y⟩:=pV U;have J:v.2=((i:Int),(k:Int)):=by
  unfold Nn at V;split at V
  ·assumption
  omega
 rw[Y]at J;injection J with J v4;have en:n=i:=by omega
 subst en;rw[z]at c2;injection c2 with c2;have:((y.at_,w.2):Wt)=v:=by
  rw[Y,c2];exact UC rfl (UC N (by rw[O];exact v4.symm))
 rw[this];exact U
theorem Rel.YT{st:Stat}{z:a_}(R:Rel st z L)(t:Int):Rel st { z with now:=t } L:=⟨R.len,fun w c j f D G=>⟨(R.at_ w c j f D G).lot,(R.at_ w c j f D G).panel,(R.at_ w c j f D G).rework,(R.at_ w c j f D G).VR⟩⟩
def X3(st:Stat)(K:List (ByteArray×Int))(X0 x:a_)(L:List eS)(N:Int):Prop:=
 (N=-1/\x=M.iV st X0/\Rel st x L/\∀p,qE x p=0)\/(0<=N/\x.now=N/\SZ st x/\Tw st K x/\Rel st x L/\M.iV st x=M.iV st X0)
theorem YU{l:List Lt}{b:List Fl}(N:cz s=0)(h2:cA l=0):∃x,X3 (MC s l b) (fZ l) (fY s l) x (lB s l) (gy s (-1) (lB s l) (-1))/\x.done=[]/\eW (MC s l b) x<=eW (MC s l b) (fY s l):=by
 obtain⟨s1,s2⟩:=o5 N;obtain⟨l1,l2,l3⟩:=oZ h2;have I:=SZ.zero (b:=b) (gs:=Ii l) N h2 (by rw[Ii,ib];exact vz fun x _=>uX ..);have I:SZ (MC s l b) (fY s l):=I;have O:=Tw.zero (l:=l) (b:=b) N;have R:=Rel.zero (l:=l) (b:=b) N;have came:∀f∈lB s l,f.working=false/\0<=f.came/\WA s f=false:=fun f z=>by
  obtain⟨x,hx,k,_,rfl⟩:=Ya z;exact⟨rfl,(l3 x hx).2.2.1,by
   show (decide ((0:Int)<0)||decide ((0:Int)=s.length))=false;rw[Ud (by omega),Ud (by omega)];rfl⟩
 by_cases J:∃f∈lB s l,f.came=0
 ·obtain⟨f,z,NY⟩:=J;obtain⟨c1,c2,c3⟩:=came f z;have e:gu (-1) f=0:=by rw[gu,af (by rw[c1];decide),qH (by omega),NY]
  have:=(W9 s (-1) (lB s l) (-1)).2.1 f z c3 (by omega);exact⟨fY s l,.inr ⟨by omega,by show (0:Int)=_;omega,I,O,R,rfl⟩,rfl,aC _⟩
 have D:∀f∈lB s l,0<f.came:=fun f z=>by
  have h0:f.came≠0:=fun e=>J ⟨f,z,e⟩;have:=(came f z).2.1;omega
 have ec:gy s (-1) (lB s l) (-1)=gy s 0 (lB s l) (-1):=Xe _ fun f z=>by
  have:=D f z;have c:=(came f z).1;unfold gu;rw[c];simp only[qU,if_false];rw[qH (by omega),qH (by omega)]
 have later:oT (fY s l):=fun w hw=>by cases hw
 have front:∀(i:Nat) (u:Wt) (Q:List Wt),(fY s l).queues[i]?=some (u::Q)->0<u.1:=fun i u Q hq=>by
  obtain⟨j,f,_,z,_,_,_,_,f3,_⟩:=Xg I R hq dJ;have:=D f (aj z);omega
 have G:∀i,i<(MC s l b).steps.length->M.du (MC s l b) i (fY s l)=none:=fun i hi=>by
  cases G:M.du (MC s l b) i (fY s l) with
  | none=>rfl
  | some y=>
   exfalso;unfold M.du at G;split at G
   ·rename_i t u Q c c1 c2 c3;split at G
    ·rename_i Oy;have:=front i u Q c2;have hn:(fY s l).now=0:=rfl;omega
    cases G
   cases G
 have k1:M.fy (MC s l b) (fY s l)=fY s l:=uD rfl;have k2:bV (MC s l b) (fY s l)=fY s l:=Xd G;have U:=round I (by rw[k1,k2]) I O R later (fun i hi=>U3 I (G i hi)) (fun i t ht=>(s2 i t ht).2.2.1.1);have U:(gy s 0 (lB s l) (-1)=-1/\M.iV (MC s l b) (fY s l)=fY s l/\∀p,qE (fY s l) p=0)\/(0<=gy s 0 (lB s l) (-1)/\(0:Int)<gy s 0 (lB s l) (-1)/\SZ (MC s l b) { fY s l with now:=gy s 0 (lB s l) (-1) }/\eW (MC s l b) { fY s l with now:=gy s 0 (lB s l) (-1) }<eW (MC s l b) (fY s l)/\M.iV (MC s l b) { fY s l with now:=gy s 0 (lB s l) (-1) }=M.iV (MC s l b) (fY s l)):=U;rw[ec];rcases U with⟨V,Y,Z⟩ | ⟨V,Y,Z,a4,a5⟩
 ·exact⟨fY s l,.inl ⟨V,Y.symm,R,Z⟩,rfl,aC _⟩
 exact⟨{ fY s l with now:=gy s 0 (lB s l) (-1) },.inr ⟨V,rfl,Z,O.now Y,R.YT _,a5⟩,rfl,fm a4⟩
def Xq(s:List gI)(f:eS):Made:=⟨f.lot,f.panel,decide (f.step=s.length),f.at_,f.rework⟩
theorem YC{st:Stat}{x:a_}(h:SZ st x)(R:Rel st x L)(G:∀p,qE x p=0):L.map (Xq st.steps)=x.jobs.map lH.made:=by
 apply lW;intro m;rw[ao,ao];by_cases c:m<x.jobs.length
 ·obtain⟨w,I,J⟩:=W8 h c;obtain⟨j,z⟩:=a8 c;obtain⟨f,D⟩:=a8 (l:=L) (i:=m) (by rw[R.len];exact c);rw[z,D];rw[<-J]at z D;obtain⟨N,O,U,VR⟩:=R.at_ w I j f z D;have h0:=G w.2;rcases VR with⟨q,t,V,Y,_⟩ | ⟨t,v,d1,_⟩ | ⟨_,_,Z,e2,_⟩
  ·have:=Yo V Y;simp only at this;omega
  ·have:=Vx d1;simp only at this;omega
  have e3:decide (f.step=(st.steps.length:Int))=j.made.done:=by
   rcases e2 with⟨c1,c2⟩ | ⟨c1,c2⟩
   ·rw[c1,c2];simp
   rw[c1,c2];exact Ud (by omega)
  show some (Xq st.steps f)=some j.made;rw[Xq,N,O,U,Z,e3]
 rw[dy (by rw[R.len];omega),dy (by omega)];rfl
theorem Yb(le:α->α->Bool)(x:α)(l:List α):(Reg.Vm le x l).Perm (x::l):=by
 unfold Reg.Vm;refine List.perm_middle.trans ?_;rw[wk]
theorem Xs(le:α->α->Bool)(l:List α):(Tb le l).Perm l:=by
 have:∀(l a:List α),(l.foldl (fun a x=>Reg.Vm le x a) a).Perm (l++a):=by
  intro l
  induction l with
  | nil=>intro a;exact List.Perm.refl _
  | cons x l ih=>
   intro a;rw[uY];refine (ih _).trans ?_;refine ((Yb le x a).append_left l).trans ?_;exact List.perm_middle
 have:=this l [];rw[fK]at this;exact this
theorem YD{st:Stat}{K:List (ByteArray×Int)}{x:a_}(a:kR st K x)(Y:∀s∈st.steps,1<=s.minutes):iO x.done=Tb H6 x.done:=by
 obtain⟨Z,p2⟩:=sV x.done;refine List.Perm.eq_of_pairwise (le:=fun a b=>H6 a b=true) (fun c d z D G I=>?_) p2 (Reg.S0 Tc x.done).1 (Z.trans (Xs H6 x.done).symm);have z:=Z.mem_iff.1 z;have D:=(Xs H6 x.done).mem_iff.1 D;simp only[H6,dS]at G I;have J:∀(i k:Nat) (u v:dQ),x.done[i]?=some u->x.done[k]?=some v->i<k->sZ u v:=fun i k u v O U Ku=>by
  have G:=(cL.1 O);have I:=(cL.1 U);have:=(wy.1 a.dp) i k G.1 I.1 Ku;rw[G.2,I.2]at this;exact this
 have tZ:∀u v:dQ,u∈x.done->v∈x.done->sZ u v->u.from_=v.from_->u.step=v.step->u.machine=v.machine->False:=fun u v O U J e1 e2 e3=>by
  obtain⟨k1,m1,s1,_,g1,_,_,t1,_⟩:=a.d1 u O;obtain⟨k2,m2,s2,_,g2,_,_,t2,_⟩:=a.d1 v U;have:=Y s1 (aj g1);have:=Y s2 (aj g2);rcases J with h | h | h
  ·omega
  ·omega
  exact h (.inl ⟨e2.symm,e3.symm⟩)
 obtain⟨i,V⟩:=uU.1 z;obtain⟨k,N⟩:=uU.1 D;rcases gC i k with h | h | h
 ·exact (tZ c d z D (J i k c d V N h) (by omega) (by omega) (by omega)).elim
 ·subst h;rw[V]at N;injection N
 exact (tZ d c D z (J k i d c N V h) (by omega) (by omega) (by omega)).elim
structure EI(st:Stat)(K:List (ByteArray×Int))(x y:a_)(L:List eS)(i:Nat):Prop where
 r:SZ st y
 a:Tw st K y
 R:Rel st y L
 f:M.fy st y=M.fy st x
 now:y.now=x.now
 ps:eW st y<=eW st x
 low:∀w∈y.ends,w.1=x.now->i<=bU st w
theorem EI.skip{st:Stat}{K:List (ByteArray×Int)}{x y:a_}{i:Nat}(E:EI st K x y L i){f:eS}(D:L[i]?=some f)(J:¬(f.working=true/\f.to_=x.now)):EI st K x y L (i+1):=by
 obtain⟨r,a,R,N,O,U,z⟩:=E;refine⟨r,a,R,N,O,U,fun w c G=>?_⟩;have h1:=z w c G;by_cases e:bU st w=i
 ·exfalso;obtain⟨j,b,V,_,_⟩:=r.es w c;rw[<-e]at D;obtain⟨_,_,_,VR⟩:=R.at_ w (r.ew w c).1 j f V D;rcases VR with⟨q,t,I,Y,_⟩ | ⟨t,v,d1,Z,_,d4,_⟩ | ⟨I,_⟩
  ·exact absurd rfl (r.JV I Y w c)
  ·have:=Xw r d1 c rfl;exact J ⟨Z,by rw[d4,<-G,<-this]⟩
  have:=Vx c;omega
 omega
theorem EI.hit{st:Stat}{K:List (ByteArray×Int)}(hK:Ae st K){x y:a_}{i:Nat}(E:EI st K x y L i){f:eS}(U:L[i]?=some f)(h1:f.working=true)(h2:f.to_=x.now):∃(D:a_) (v:Int) (V:gI) (k:Nat),f.step=k/\st.steps[k]?=some V/\f.visits[k]?=some v/\(0<=f.rework/\f.rework<=5)/\D.done=y.done++[W7 f (!st.bad.any (WV f v))]/\EI st K x D (L.set i (WR st.steps st.bad x.now v f)) (i+1):=by
 obtain⟨r,a,R,e1,e2,e3,G⟩:=E;have Y:=ah U;rw[R.len]at Y;obtain⟨w,FB,Z⟩:=W8 r Y;obtain⟨j,hj⟩:=a8 Y;rw[<-Z]at hj;have Zc:L[bU st w]?=some f:=by rw[Z];exact U
 obtain⟨_,_,_,VR⟩:=R.at_ w FB j f hj Zc;obtain⟨t,I,Zd⟩:∃t,((t,w.2):Wt)∈y.ends/\f.to_=t:=by
  rcases VR with⟨q,t,_,_,a3,_⟩ | ⟨t,v,d1,_,_,d4,_⟩ | ⟨_,a2,_⟩
  ·rw[h1]at a3;cases a3
  ·exact⟨t,d1,d4⟩
  rw[h1]at a2;cases a2
 have Zo:t=x.now:=by rw[<-Zd,h2]
 cases he:y.ends with
 | nil=>rw[he]at I;cases I
 | cons u W=>
  have R5:u∈y.ends:=by rw[he];exact dJ
  have Lq:u.1=y.now:=by
   have:=(r.ew u R5).2;have hh:=Be (he▸r.eh) (he▸I);simp only at hh;omega
  obtain⟨_,_,_,_,_,_,_,_,_,_,_,_,_,_,_,_,_,_,_,_,_,YV⟩:=r.fin he Lq;obtain⟨D,J⟩:∃D,M.eI st y=some D:=⟨_,YV⟩;obtain⟨w0,W0,f0,v,V,k,N,b2,b3,O,b5,b6,b7,b8,b9,Ze,Zf,Zg,Zh,Y3⟩:=Rel.fin hK r a R J;rw[he]at N;injection N with N Zp;subst N;have hle:bU st u<=i:=by
   rw[<-Z];obtain⟨c,hc⟩:=uU.1 I;have JC:=(TK _ _).1 (E2 r.eh (a:=u) (by rw[he];rfl) c _ hc);simp only[FH]at JC;have e4:¬(w.2.1<u.2.1\/w.2.1=u.2.1/\w.2.2<u.2.2):=fun hh=>JC (.inr ⟨by omega,hh⟩);by_cases e5:u.2.1<w.2.1\/u.2.1=w.2.1/\u.2.2<w.2.2
   ·exact fm (XX b3 FB e5)
   have:u.2=w.2:=UC (by omega) (by omega);rw[wv this];exact aC _
  have Wi:=G u R5 (by omega);have Gq:bU st u=i:=by omega
  rw[Gq,U]at O;injection O with O;subst O;rw[Gq,e2]at Y3;obtain⟨r1,r2⟩:=r.eI J;refine⟨D,v,V,k,b7,b8,b9,Ze,Zh,r1,a.fin hK r J,Y3,(CG r J).trans e1,Zf.trans e2,by omega,fun z hz YK=>?_⟩;rw[Zg]at hz;have Y4:=lK hz;have Zi:=r.alone he z hz;have:=G z Y4 YK;by_cases e:bU st z=i
  ·exact absurd ((r.ew z Y4).1.inj b3 (by rw[e,Gq])) Zi
  omega
theorem EI.end{st:Stat}{K:List (ByteArray×Int)}{x y:a_}{i:Nat}(E:EI st K x y L i)(hi:L.length<=i):M.eI st y=none/\y=M.fy st x:=by
 obtain⟨r,a,R,G,I,e3,c⟩:=E;have D:M.eI st y=none:=by
  cases hc:M.eI st y with
  | none=>rfl
  | some z=>
   exfalso;obtain⟨w,_,k,j,s,b,lt,v,E⟩:=r.MD hc;obtain⟨⟨W,J⟩,N,_,O,_⟩:=E;have U:w∈y.ends:=by rw[J];exact dJ
   have:=c w U (by rw[N];exact I);have:=ah O;rw[<-R.len]at this;omega
 exact⟨D,by rw[<-G,uD D]⟩
theorem EI.zero{st:Stat}{K:List (ByteArray×Int)}{x:a_}(h:SZ st x)(a:Tw st K x)(R:Rel st x L):EI st K x x L 0:=⟨h,a,R,rfl,rfl,aC _,fun _ _ _=>nI _⟩
theorem Rel.Zj{st:Stat}{x:a_}(h:SZ st x)(R:Rel st x L):∀f∈L,Ye st.steps f:=by
 intro f U;obtain⟨m,z⟩:=uU.1 U;have D:=ah z;rw[R.len]at D;obtain⟨w,V,Y⟩:=W8 h D;obtain⟨j,G⟩:=a8 D;rw[<-Y]at G z;obtain⟨_,_,_,VR⟩:=R.at_ w V j f G z;obtain⟨_,J,I,_⟩:=h.jv j (aj G);have hd:=h.dn;have e0:WD=15000000:=rfl;have plain:f.visits=j.visits->Ye st.steps f:=fun e=>⟨by rw[e];exact J,fun v N=>by
  rw[e]at N;have:=I v N;split<;>omega⟩
 rcases VR with⟨q,t,_,_,_,_,_,Z⟩ | ⟨t,v,_,d2,_,_,_,_,d7,O⟩ | ⟨_,_,_,_,e⟩
 ·exact plain Z
 ·refine⟨by rw[O,cu];exact J,fun u c=>?_⟩;rw[d2,qH rfl];rw[O]at c;rcases nJ c with c | rfl
  ·have:=I u c;omega
  have:=I v (aj d7);omega
 exact plain e
theorem Yc{st:Stat}{K:List (ByteArray×Int)}{U x y:a_}(hx:SZ st x)(V:M.iV st x=M.iV st U)(E:EI st K x y L L.length)(hm:∀(i:Nat) s,st.steps[i]?=some s->1<=s.machines):
  ∃D,X3 st K U D (B1 st.steps x.now st.steps.length L) (gy st.steps x.now (B1 st.steps x.now st.steps.length L) (-1))/\D.done=y.done/\((gy st.steps x.now (B1 st.steps x.now st.steps.length L) (-1)=-1/\eW st D<=eW st x)\/eW st D < eW st x):=by
 obtain⟨hn,hy⟩:=E.end (aC _);obtain⟨s1,s2,c,G,J⟩:=Rel.Yp E.r E.a E.R st.steps.length (aC _);rw[E.now]at c G;have Y:(List.range st.steps.length).foldl (fun x i=>dE st i x) y=bV st (M.fy st x):=by rw[<-hy];rfl
 obtain⟨t1,t2,t3,t4⟩:=SZ.lN (List.range st.steps.length) E.r;have hl:=t4 (xY E.r hn);have Z:∀i,i<st.steps.length->Quiet st i ((List.range st.steps.length).foldl (fun x i=>dE st i x) y):=fun i hi=>UI E.r hi;have hps:=E.ps;generalize (List.range st.steps.length).foldl (fun x i=>dE st i x) y=z at s1 s2 c G J Y t2 hl Z;generalize B1 st.steps x.now st.steps.length L=L2 at c ⊢;have hr:=round hx Y s1 s2 c hl Z hm;rw[G]at hr;rcases hr with⟨I,N,O⟩ | ⟨I,N,O,a4,a5⟩
 ·exact⟨z,.inl ⟨I,by rw[<-V,N],c,O⟩,J,.inl ⟨I,by omega⟩⟩
 exact⟨_,.inr ⟨I,rfl,O,s2.now (by rw[G];exact N),c.YT _,a5.trans V⟩,J,.inr (by omega)⟩
theorem Yr{l:List α}{p:α->Bool}{i:Nat}{x:α}(h:l[i]?=some x)(c:(l.take i).any p=false)(z:p x=false):(l.take (i+1)).any p=false:=by
 rw[bT h,Ve,c];simp[z]
theorem B2(l:List gI)(hS:∀s∈l,s.name.size<4294967281)(hN:l.length<=140737488355328):aT C 9 [.pv (.sl (l.map gq))] (.p (i64 (cz l))) []:=by
 refine fW hC Tryz.func9 rfl (by kernel_rfl) fun _=>?_;have lm:=cH l gq;apply iW<;>intro g0<;>try simp only[zB]at g0
 ·refine⟨?_,trivial⟩;rw[cz,qH (by omega)];rfl
 apply iW<;>intro g1<;>try simp only[zB]at g1
 ·refine⟨?_,trivial⟩;rw[cz,af (by omega),qH (by omega)];rfl
 rw[cz,af (by omega),af (by omega)];refine d_ (fun i:Nat=>i<=l.length/\mW eK [] l=mW eK (l.take i) (l.drop i)) (fun i=>[(0,.p (.sl (l.map gq))),(3,.p (i64 i))]) (fun _=>[]) (fun i=>l.length-i) 0 _ (aY.refl _ _) ⟨nI _,rfl⟩ ⟨Z,Z,Y⟩ trivial fun i z t h=>?_;apply iW<;>intro h1<;>try simp only[zB]at h1
 ·obtain⟨s,hs⟩:=a8 (l:=l) (i:=i) (by omega);have lt:(l.take i).length=i:=by rw[dI];omega
  have bad:∀c:Int,eK (l.take i) s=c->c≠0->mW eK [] l=c:=fun c=>oV hs z.2;refine⟨(gq s),(idx rfl hs),_,_,(Xa s.name (Ie (hS s (aj hs)))),iW ?_ ?_⟩<;>intro D<;>try simp only[zB]at D
  ·refine⟨?_,trivial⟩;rw[bad 5 (by rw[eK,af (by simp[D])]) (by decide)];rfl
  have G:jh s.name=true:=by simpa using D
  refine d_ (fun k:Nat=>k<=i/\((l.take i).take k).any (uG s)=false) (fun k=>[(0,.p (.sl (l.map gq))),(3,.p (i64 i)),(4,.p (i64 k))]) (fun _=>[]) (fun k=>i-k) 0 _ (aY.refl _ _) ⟨nI _,rfl⟩ ⟨Z,Z,Z,Y⟩ trivial fun k N t h=>?_;apply iW<;>intro k1<;>try simp only[zB]at k1
  ·obtain⟨y,O⟩:=a8 (l:=l) (i:=k) (by omega);have U:(l.take i)[k]?=some y:=by rw[cB,qH (by omega)];exact O
   refine⟨(gq y),(idx rfl O),(gq s),(idx rfl hs),iW ?_ ?_⟩<;>intro I<;>try simp only[zB]at I
   ·refine⟨?_,trivial⟩;rw[bad 7 (by rw[eK,qH G,qH (dA.2 ⟨y,aj U,by simp[uG,I]⟩)]) (by decide)];rfl
   exact⟨wO (by omega),(k+1),_,aY.refl _ _,⟨by omega,Yr U N.2 (by simp[uG,I])⟩,by omega,⟨Z,Z,Z,Y⟩,trivial⟩
  have NB:k=i:=by omega
  have V:¬((l.take i).any (uG s)=true):=by
   have:=N.2;rw[NB,nZ,Nat.min_self]at this;rw[this];decide
  have J:¬(pK s.minutes 1 10000=true/\pK s.machines 1 20=true/\pK s.back (-1) i=true)->mW eK [] l=1:=fun h=>bad 1 (by rw[eK,qH G,af V,lt,af h]) (by decide);refine⟨(gq s),(idx rfl hs),_,_,(sw s.minutes 1 10000),iW ?_ ?_⟩<;>intro h4<;>try simp only[zB]at h4
  ·refine⟨?_,trivial⟩;rw[J (fun h=>by simp_all)];rfl
  refine⟨(gq s),(idx rfl hs),_,_,(sw s.machines 1 20),iW ?_ ?_⟩<;>intro h5<;>try simp only[zB]at h5
  ·refine⟨?_,trivial⟩;rw[J (fun h=>by simp_all)];rfl
  refine⟨(gq s),(idx rfl hs),_,_,(sw s.back (-1) i),iW ?_ ?_⟩<;>intro h6<;>try simp only[zB]at h6
  ·refine⟨?_,trivial⟩;rw[J (fun h=>by simp_all)];rfl
  exact⟨wO (by omega),(i+1),_,aY.refl _ _,⟨by omega,lP hs z.2 (by rw[eK,qH G,af V,lt,qH ⟨by simpa using h4,by simpa using h5,by simpa using h6⟩])⟩,by omega,⟨Z,Z,Y⟩,trivial⟩
 refine⟨?_,trivial⟩;rw[wx (by omega) z.2];rfl
theorem Wz(l:List Lt)(hS:∀s∈l,s.name.size<4294967281)(hN:l.length<=140737488355328):aT C 11 [.pv (.sl (l.map jK))] (.p (i64 (cA l))) []:=by
 refine fW hC Tryz.func11 rfl (by kernel_rfl) fun _=>?_;have lm:=cH l jK;apply iW<;>intro g1<;>try simp only[zB]at g1
 ·refine⟨?_,trivial⟩;rw[cA,qH (by omega)];rfl
 rw[cA,af (by omega)];refine d_ (fun i:Nat=>i<=l.length/\mW fq [] l=mW fq (l.take i) (l.drop i)) (fun i=>[(0,.p (.sl (l.map jK))),(3,.p (i64 i))]) (fun _=>[]) (fun i=>l.length-i) 0 _ (aY.refl _ _) ⟨nI _,rfl⟩ ⟨Z,Z,Y⟩ trivial fun i z t h=>?_;apply iW<;>intro h1<;>try simp only[zB]at h1
 ·obtain⟨s,hs⟩:=a8 (l:=l) (i:=i) (by omega);have bad:∀c:Int,fq (l.take i) s=c->c≠0->mW fq [] l=c:=fun c=>oV hs z.2;refine⟨(jK s),(idx rfl hs),_,_,(Xa s.name (Ie (hS s (aj hs)))),iW ?_ ?_⟩<;>intro G<;>try simp only[zB]at G
  ·refine⟨?_,trivial⟩;rw[bad 5 (by rw[fq,af (by simp[G])]) (by decide)];rfl
  have D:jh s.name=true:=by simpa using G
  have N:¬(pK s.panels 1 200=true/\pK s.at_ 0 1000000000=true)->mW fq [] l=1:=fun h=>bad 1 (by rw[fq,qH D,af h]) (by decide);refine⟨(jK s),(idx rfl hs),_,_,(sw s.panels 1 200),iW ?_ ?_⟩<;>intro O<;>try simp only[zB]at O
  ·refine⟨?_,trivial⟩;rw[N (fun h=>by simp_all)];rfl
  refine⟨(jK s),(idx rfl hs),_,_,(sw s.at_ 0 1000000000),iW ?_ ?_⟩<;>intro U<;>try simp only[zB]at U
  ·refine⟨?_,trivial⟩;rw[N (fun h=>by simp_all)];rfl
  have I:pK s.panels 1 200=true/\pK s.at_ 0 1000000000=true:=⟨by simpa using O,by simpa using U⟩;apply iW<;>intro h6<;>try simp only[zB]at h6
  ·obtain⟨y,V⟩:=a8 (l:=l) (i:=i-1) (by omega);have hl:=Bn (by omega) V;refine⟨(jK s),(idx rfl hs),wO (by omega),(jK y),(idx (show (i:Int)-1=((i-1:Nat):Int) by omega) V),iW ?_ ?_⟩<;>intro J<;>try simp only[zB]at J
   ·refine⟨?_,trivial⟩;rw[bad 8 (by rw[fq,qH D,qH I,hl];exact af (Ms (by simpa using J))) (by decide)];rfl
   exact⟨wO (by omega),(i+1),_,aY.refl _ _,⟨by omega,lP hs z.2 (by rw[fq,qH D,qH I,hl];exact qH (JJ (by simpa using J)))⟩,by omega,⟨Z,Z,Y⟩,trivial⟩
  have h0:i=0:=by omega
  exact⟨wO (by omega),(i+1),_,aY.refl _ _,⟨by omega,lP hs z.2 (by rw[fq,qH D,qH I,h0];rfl)⟩,by omega,⟨Z,Z,Y⟩,trivial⟩
 refine⟨?_,trivial⟩;rw[wx (by omega) z.2];rfl
def WY(f:Fl)(x:Lt):Bool:=decide (x.name=f.lot)&&pK f.panel 0 (x.panels-1)
theorem Ys{l:List Lt}{f:Fl}{k:Nat}{x:Lt}(h:l[k]?=some x):(l.take (k+1)).any (WY f)=((l.take k).any (WY f)||WY f x):=by
 rw[bT h,Ve];simp
theorem WL(s:List gI)(l:List Lt)(b:List Fl)(hs:0<s.length/\s.length<=30)(hl:cA l=0)(hN:b.length<=140737488355328):aT C 21 [.pv (.sl (s.map gq)),.pv (.sl (l.map jK)),.pv (.sl (b.map CJ))] (.p (i64 (de s l b))) []:=by
 refine fW hC Tryz.func21 rfl (by kernel_rfl) fun _=>?_;have lm:=cH b CJ;have U:=cH s gq;have ll:=cH l jK;obtain⟨l1,l2,l3⟩:=oZ hl;apply iW<;>intro g1<;>try simp only[zB]at g1
 ·refine⟨?_,trivial⟩;rw[de,qH (by omega)];rfl
 rw[de,af (by omega)];refine d_ (fun i:Nat=>i<=b.length/\mW (fX s l) [] b=mW (fX s l) (b.take i) (b.drop i)) (fun i=>[(0,.p (.sl (s.map gq))),(1,.p (.sl (l.map jK))),(2,.p (.sl (b.map CJ))),(7,.p (i64 i))]) (fun _=>[]) (fun i=>b.length-i) 0 _ (aY.refl _ _) ⟨nI _,rfl⟩ ⟨Z,Z,Z,Z,Y⟩ trivial fun i J t h=>?_;apply iW<;>intro h1<;>try simp only[zB]at h1
 ·obtain⟨f,z⟩:=a8 (l:=b) (i:=i) (by omega);have bad:∀c:Int,fX s l (b.take i) f=c->c≠0->mW (fX s l) [] b=c:=fun c=>oV z J.2;have V:¬(pQ l f=true/\pK f.step 0 (s.length-1)=true)->mW (fX s l) [] b=9:=fun h=>bad 9 (by rw[fX,af h]) (by decide);refine d_ (fun k:Nat=>k<=l.length) (fun k=>[(0,.p (.sl (s.map gq))),(1,.p (.sl (l.map jK))),(2,.p (.sl (b.map CJ))),(7,.p (i64 i)),(8,.p (bool ((l.take k).any (WY f)))),(9,.p (i64 k))]) (fun _=>[]) (fun k=>l.length-k) 0 _ (aY.refl _ _) (nI _) ⟨Z,Z,Z,Z,Z,Z,Y⟩ trivial fun k N t h=>?_;apply iW<;>intro k1<;>try simp only[zB]at k1
  ·obtain⟨x,G⟩:=a8 (l:=l) (i:=k) (by omega);have hp:=(l3 x (aj G)).2.1;have I:=Ys (f:=f) G;generalize (l.take k).any (WY f)=fr at I ⊢;cases fr
   ·refine⟨(jK x),(idx rfl G),(CJ f),(idx rfl z),iW ?_ ?_⟩<;>intro D<;>try simp only[zB]at D
    ·exact⟨(CJ f),(idx rfl z),(jK x),(idx rfl G),wO (by omega),_,_,(sw f.panel 0 (x.panels-1)),wO (by omega),(k+1),_,aY.refl _ _,by omega,by omega,⟨rfl,rfl,rfl,rfl,iX (fun c=>AV.p (bool c)) (by rw[I];simp[WY,D]),Z,Y⟩,trivial⟩
    exact⟨wO (by omega),(k+1),_,aY.refl _ _,by omega,by omega,⟨rfl,rfl,rfl,rfl,iX (fun c=>AV.p (bool c)) (by rw[I];simp[WY,D]),Z,Y⟩,trivial⟩
   exact⟨wO (by omega),(k+1),_,aY.refl _ _,by omega,by omega,⟨rfl,rfl,rfl,rfl,iX (fun c=>AV.p (bool c)) (by rw[I];simp),Z,Y⟩,trivial⟩
  have SH:k=l.length:=by omega
  subst SH;rw[Ue,show l.any (WY f)=pQ l f from rfl];cases hh:pQ l f with
  | false=>
   refine⟨?_,trivial⟩;rw[V (fun h=>by rw[hh]at h;cases h.1)];rfl
  | true=>
   refine⟨(CJ f),(idx rfl z),wO (by omega),?_⟩;have hw:=sw f.step 0 (s.length-1);rw[<-U]at hw;refine⟨_,_,hw,iW ?_ ?_⟩<;>intro h4<;>try simp only[zB]at h4
   ·refine⟨?_,trivial⟩;rw[V (fun h=>by simp_all)];rfl
   have O:pQ l f=true/\pK f.step 0 (s.length-1)=true:=⟨hh,by rw[<-U];simpa using h4⟩;refine⟨(CJ f),(idx rfl z),_,_,(sw f.visit 1 6),iW ?_ ?_⟩<;>intro h5<;>try simp only[zB]at h5
   ·refine⟨?_,trivial⟩;rw[bad 1 (by rw[fX,qH O,af (by simp_all)]) (by decide)];rfl
   have w2:pK f.visit 1 6=true:=by simpa using h5
   refine d_ (fun k:Nat=>k<=i/\((b.take i).take k).any (Ul f)=false) (fun k=>[(0,.p (.sl (s.map gq))),(1,.p (.sl (l.map jK))),(2,.p (.sl (b.map CJ))),(7,.p (i64 i)),(10,.p (i64 k))]) (fun _=>[]) (fun k=>i-k) 0 _ (aY.refl _ _) ⟨nI _,rfl⟩ ⟨Z,Z,Z,Z,Z,Y⟩ trivial fun k N t h=>?_;apply iW<;>intro m1<;>try simp only[zB]at m1
   ·obtain⟨y,hy⟩:=a8 (l:=b) (i:=k) (by omega);have Pw:(b.take i)[k]?=some y:=by rw[cB,qH (by omega)];exact hy
    refine⟨(CJ y),(idx rfl hy),(CJ f),(idx rfl z),iW ?_ ?_⟩<;>intro D<;>try simp only[zB]at D
    ·refine⟨?_,trivial⟩;rw[bad 7 (by rw[fX,qH O,qH w2,qH (dA.2 ⟨y,aj Pw,by simpa [Ul] using D⟩)]) (by decide)];rfl
    exact⟨wO (by omega),(k+1),_,aY.refl _ _,⟨by omega,Yr Pw N.2 (by simpa [Ul] using D)⟩,by omega,⟨Z,Z,Z,Z,Z,Y⟩,trivial⟩
   have NB:k=i:=by omega
   have w3:¬((b.take i).any (Ul f)=true):=by
    have:=N.2;rw[NB,nZ,Nat.min_self]at this;rw[this];decide
   exact⟨wO (by omega),(i+1),_,aY.refl _ _,⟨by omega,lP z J.2 (by rw[fX,qH O,qH w2,af w3])⟩,by omega,⟨Z,Z,Z,Z,Y⟩,trivial⟩
 refine⟨?_,trivial⟩;rw[wx (by omega) J.2];rfl
theorem Af(s:List gI)(l:List Lt)(b:List Fl)(U:cz s=0)(J:cA l=0)(h3:de s l b=0)(hS:∀x∈s,x.name.size<4294967281)(hL:∀x∈l,x.name.size<4294967281)(hs:s.length<=140737488355328)(hl:l.length<=140737488355328)(hb:b.length<=140737488355328):aT C 6 [.pv (.sl (s.map gq)),.pv (.sl (l.map jK)),.pv (.sl (b.map CJ))] (.tu [.sl ((iO (M.iV ⟨s,l,b,l.map fun x=>List.replicate x.panels.toNat 0⟩ (fY s l)).done).map dc),.sl ((M.iV ⟨s,l,b,l.map fun x=>List.replicate x.panels.toNat 0⟩ (fY s l)).jobs.map fun j=>mc j.made),i64 0]) []:=by
 refine Mb ⟨[11,16,20,29,31,32,33,36,42,43],[],[],[19,28,29],[],[]⟩ hC Tryz.func6 rfl (by kernel_rfl) fun _=>?_;obtain⟨s1,s2⟩:=o5 U;obtain⟨l1,l2,l3⟩:=oZ J;have ls:=cH s gq;have ll:=cH l jK;have lb:=cH b CJ;have c1:=ft s hS hs;have c2:=gS l hL hl;have c3:=jP s l b s1 J hb;rw[U]at c1;rw[J]at c2;rw[h3]at c3;refine⟨_,_,c1,_,_,c2,_,_,c3,And.intro (by omega) (And.intro (by omega) (And.intro (by show ((s.map gq).length:Int)*24<=_;omega) (by omega))),?_⟩;refine lG (((aY.OQ (by exact hC) _ 48 (e:=53) (es:=List.replicate ((s.map gq).length:Int).toNat [PV.im (.slice none 0 0)]) (by exact rfl)).trans (aY.L7 (by exact hC) _ 48 s.length (e:=53) (e':=68) (by exact iX (AB.ai _) (by rw[c8,ls,UK];rfl)) (by exact rfl) (by decide))).trans ((aY.rf (by exact hC) _ 50 6 90003 59 _ _ (by decide) (by decide) (by exact rfl) (by exact rfl) (by exact rfl) (by decide)).trans (aY.OQ (by exact hC) _ 90003 (e:=59) (es:=[]) (by exact rfl)))) ?_;have fI:∀(i:Nat) (f:Fl),b[i]?=some f->¬(b.take i).any (Ul f)=true:=fun i f I=>CR h3 I;refine d_ (fun i:Nat=>i<=b.length) (fun i=>[(0,.p (.sl (s.map gq))),(1,.p (.sl (l.map jK))),(12,.bx 50 0),(51,.p (.sl (b.map CJ))),(52,.p (i64 b.length)),(53,.p (i64 i))]) (fun i=>[(45,.map (.st [0,1,1,1]) ((mL (b.take i)).map Bz)),(48,.ai 53 ((List.replicate s.length ([]:List Wt)).map qC)),(50,.box [.p (.sl (s.map gq)),.p (.sl (l.map jK)),.ow 45,.nl,.ow 48,.nl,.ow 90003,.p (i64 0),.nl]),(90003,.ai 59 [])]) (fun i=>b.length-i) 0 _ (aY.refl _ _) (nI _) ⟨rfl,rfl,rfl,rfl,iX (fun n:Nat=>AV.p (i64 n)) lb,Z,Y⟩ ⟨rfl,iX (AB.ai _) (by simp only[UK];rfl),Z,Z,Y⟩ fun i V t h=>?_;apply iW<;>intro g1<;>try simp only[zB]at g1
 ·obtain⟨f,I⟩:=a8 (l:=b) (i:=i) (by omega);have hm:=yb (l:=b.take i) (f:=f) (fI i f I);have ht:=bT I;exact⟨(CJ f),(idx rfl I),wO (by omega),(i+1),_,aY.refl _ _,by omega,by omega,⟨Z,Z,Z,Z,Z,Z,Y⟩,⟨by rw[ht];exact iX (AB.map _) hm,iX (AB.ai _) (by simp only[cP,cJ]),Z,Z,Y⟩⟩
 have Jk:i=b.length:=by omega
 refine lG (aY.Jn (by exact hC) _ 50 2 45 (mL b) _ (by decide) (by exact rfl) (by exact rfl) (by exact rfl) (by rw[Jk,Ue])) ?_;refine d_ (fun i:Nat=>i<=s.length) (fun i=>[(0,.p (.sl (s.map gq))),(1,.p (.sl (l.map jK))),(12,.bx 50 0),(63,.p (.sl (s.map gq))),(64,.p (i64 s.length)),(65,.p (i64 i))]) (fun i=>[(48,.ai 53 ((List.replicate s.length ([]:List Wt)).map qC)),(50,.box [.p (.sl (s.map gq)),.p (.sl (l.map jK)),.p (.mp (.st [0,1,1,1]) (mL b)),.nl,.ow 48,.nl,.ow 90003,.p (i64 0),.nl]),(90003,.ai 59 (((s.take i).map mX).map bC))]) (fun i=>s.length-i) 0 _ (aY.refl _ _) (nI _) ⟨rfl,rfl,rfl,rfl,iX (fun n:Nat=>AV.p (i64 n)) ls,Z,Y⟩ ⟨Z,Z,Z,Y⟩ fun i V t h=>?_;apply iW<;>intro g2<;>try simp only[zB]at g2
 ·obtain⟨x,z⟩:=a8 (l:=s) (i:=i) (by omega);obtain⟨_,_,SJ,_⟩:=s2 i x z;refine⟨(gq x),(idx rfl z),And.intro (by omega) (And.intro (by omega) (And.intro (by show x.machines*1<=_;omega) (by omega))),And.intro (fun r D=>by rw[n9.1 D];rfl) (And.intro (by simp only[fj,ct,dI,bw,qJ];omega) (by simp only[fj,ct,dI,bw,qJ];omega)),?_⟩;have QE:(((s.take i).map mX).map bC).length=i:=by simp only[ct,dI];omega
  refine lG ((aY.jg (by exact hC) _ 78 i 0 76 (e:=59) (es:=((s.take i).map mX).map bC++[[.av (.ow 76)]]) (r:=[.av (.ow 76)]) (e':=4) (xs:=(mX x).map fun y=>[bool y]) (by decide) (by exact iX (AB.ai _) (by simp only[dF,dG];rfl)) (by exact iX (AB.row _) (by rw[mX,UK];rfl)) (by rw[bd (by omega),QE,gX];rfl) rfl).trans (aY.ez _ 78 90003 (by decide) (by decide))) ?_;have KB:=bT z;refine⟨wO (by omega),(i+1),_,aY.refl _ _,by omega,by omega,⟨Z,Z,Z,Z,Z,Z,Y⟩,⟨iX (AB.ai _) (by simp only[cP,cJ]),rfl,iX (AB.ai _) ?_,trivial⟩⟩;rw[KB,aa,aa,gG _ _ (by omega),QE,gX];simp only[dF,dG,aa];rfl
 have Sd:i=s.length:=by omega
 subst Sd;obtain⟨n0,MX⟩:∃n0,s.length=n0+1:=⟨s.length-1,by omega⟩;have yp:((List.replicate s.length ([]:List Wt)).map qC)=((cQ s (dh l 0)).map qC):=by
  rw[cQ,MX,ij,ik];rfl
 rw[Ue,yp];refine d_ (fun p:Nat×List (List Nat)=>p.1<=l.length/\p.2.map List.length=(l.take p.1).map fun x=>x.panels.toNat) (fun p=>[(0,.p (.sl (s.map gq))),(12,.bx 50 0),(82,.p (.sl (l.map jK))),(83,.p (i64 l.length)),(84,.p (i64 p.1))]) (fun p=>[(48,.ai 53 ((cQ s (dh l p.1)).map qC)),(50,.box [.p (.sl (s.map gq)),.p (.sl (l.map jK)),.p (.mp (.st [0,1,1,1]) (mL b)),.ow 90005,.ow 48,.ow 90002,.ow 90003,.p (i64 0),.ow 90004]),(90002,.row 68 []),(90003,.ai 59 ((s.map mX).map bC)),(90004,.row 34 []),(90005,.row 60 (Fg p.2)),(90010,.fam (nz p.2.flatten (gh s (l.take p.1))) [])]) (fun p=>l.length-p.1) (0,[]) _ ((((aY.rf (by exact hC) _ 50 3 90005 60 _ _ (by decide) (by decide) (by exact rfl) (by exact rfl) (by exact rfl) (by decide)).trans (aY.rf (by exact hC) _ 50 5 90002 68 _ _ (by decide) (by decide) (by exact rfl) (by exact rfl) (by exact rfl) (by decide))).trans (aY.rf (by exact hC) _ 50 8 90004 34 _ _ (by decide) (by decide) (by exact rfl) (by exact rfl) (by exact rfl) (by decide))).trans (aY.Jl (by exact hC) _ 90010 (by decide))) ⟨nI _,rfl⟩ ⟨rfl,rfl,rfl,iX (fun n:Nat=>AV.p (i64 n)) ll,Z,Y⟩ ⟨iX (AB.ai _) (by simp only[cP,cJ]),rfl,rfl,iX (AB.ai _) (by simp only[dF,dG]),Z,Z,Z,Y⟩ fun ⟨i,gs⟩ V t h=>?_;obtain⟨i1,G⟩:=V;simp only at i1 G;apply iW<;>intro g3<;>try simp only[zB]at g3
 ·obtain⟨x,z⟩:=a8 (l:=l) (i:=i) (by omega);refine⟨(jK x),(idx rfl z),?_⟩;obtain⟨_,xp,xa⟩:=l3 x (aj z);have Fw:=pU (l:=l) (fun x z=>(l3 x z).2.1.2) i;have Ko:=mB (s:=s) G;refine d_ (fun p:Nat×List Nat=>p.1<=x.panels.toNat/\p.2.length=p.1) (fun p=>[(0,.p (.sl (s.map gq))),(12,.bx 50 0),(17,.p (i64 i)),(18,.bx 18 0),(19,.ow 19),(82,.p (.sl (l.map jK))),(83,.p (i64 l.length)),(84,.p (i64 i)),(90,.p (i64 x.panels)),(91,.p (i64 p.1))]) (fun p=>[(18,.box [.p (str x.name),.p (i64 x.panels),.p (i64 x.at_)]),(19,.ai 61 (p.2.map tH)),(48,.ai 53 ((cQ s (jj x.at_ i p.1 (dh l i))).map qC)),(50,.box [.p (.sl (s.map gq)),.p (.sl (l.map jK)),.p (.mp (.st [0,1,1,1]) (mL b)),.ow 90005,.ow 48,.ow 90002,.ow 90003,.p (i64 0),.ow 90004]),(90002,.row 68 []),(90003,.ai 59 ((s.map mX).map bC)),(90004,.row 34 []),(90005,.row 60 (Fg gs)),(90010,.fam (nz (gs.flatten++p.2) (gh s (l.take i)++iP s x p.1)) [])]) (fun p=>x.panels.toNat-p.1) (0,[]) _ ((aY.EH (by exact hC) _ 19 61 _ (by decide) (by exact rfl) (by exact rfl) (by decide)).trans (aY.OQ (by exact hC) _ 19 (e:=61) (es:=[]) (by exact rfl))) ⟨nI _,rfl⟩ ⟨Z,Z,Z,Z,Z,Z,Z,Z,Z,Z,Y⟩ ⟨rfl,rfl,iX (AB.ai _) (by simp only[cP,cJ];rfl),rfl,rfl,iX (AB.ai _) (by simp only[dF,dG]),rfl,rfl,by rw[fK,show iP s x 0=[] from rfl,fK];rfl,trivial⟩ fun ⟨k,r⟩ hk t h=>?_;obtain⟨k1,N⟩:=hk;simp only at k1 N;apply iW<;>intro g4<;>try simp only[zB]at g4
  ·refine⟨And.intro (by omega) (And.intro (by omega) (And.intro (by show ((s.map gq).length:Int)*8<=_;omega) (by omega))),And.intro (fun r D=>by rw[n9.1 D];rfl) (And.intro (by simp only[fj,ct,dI,bw,qJ];omega) (by simp only[fj,ct,dI,bw,qJ];omega)),?_⟩;have lr:(r.map tH).length=k:=by rw[ct];exact N
   refine Seen.le (aY.pack (by exact hC) _ 103 (cs:=pL (qx s x k)) (by exact rfl) (by exact rfl) (by exact⟨rfl,rfl,rfl,iX (AB.row _) (by rw[c8,ls];simp only[qx,UK];rfl),Z,Z,Z,Z,Z,Y⟩)) (Seen.Jm (by exact hC) _ 90010 103 19 k 0 (cs:=pL (qx s x k)) (e:=61) (es:=r.map tH++[[.av (.bx 103 0)]]) (r:=[.av (.bx 103 0)]) (by exact rfl) (by exact rfl) (by exact iX (AB.ai _) (by simp only[aa,Bp,Bq];rfl)) (by rw[bd (by omega),lr,gX];rfl) rfl fun g=>?_);have yp:=qy s1.1 (jj x.at_ i k (dh l i));have SK:=pT x.at_ i k (dh l i);have Px:=lS s (jj x.at_ i k (dh l i));refine⟨And.intro (by omega) (by simp only[cP,cJ];rw[List.length_map,Px];exact s1.1),(qC (jj x.at_ i k (dh l i))),(by simp only[cP,cJ];exact ff qC yp),_,_,wb (jj x.at_ i k (dh l i)) (x.at_,i,k) (by omega),rfl,jL _,⟨by dsimp only;omega,by dsimp only;omega⟩,?_⟩;have Py:(gs.flatten++r).length=(gh s (l.take i)++iP s x k).length:=by
    rw[fj,fj,Ko,N];simp[iP]
   have Se:=Fh Py g (qx s x k);refine⟨(k+1,r++[g]),_,aY.refl _ _,⟨by dsimp only;omega,by dsimp only;rw[List.length_append,N];rfl⟩,by dsimp only;omega,⟨Z,Z,Z,Z,Z,Z,Z,Z,Z,Z,Y⟩,⟨rfl,congrArg (AB.ai _) ?_,congrArg (AB.ai _) ?_,rfl,rfl,congrArg (AB.ai _) (by simp only[dF,dG]),rfl,rfl,congrArg (AB.fam · _) ?_,trivial⟩⟩
   ·rw[gG _ _ (by omega),lr,gX];simp only[Bp,Bq,aa];rfl
   ·simp only[cP,cJ];exact (jq _ _ _).trans (iX (List.map qC) (ye s _ _))
   dsimp only;rw[Ab,<-bR,<-bR];exact Se.symm
  have Pz:k=x.panels.toNat:=by omega
  refine lG ((aY.L1 (by exact hC) _ 19 (e:=61) (r.map fun g=>[ptr g]) (by exact rfl) (G7 r)).trans (aY.own (by exact hC) _ 19 (by exact rfl) (by exact rfl))) ?_;have lg:(Fg gs).length=i:=by
   have:=iX List.length G;simp only[ct,dI]at this;rw[Fg,ct];omega
  refine⟨And.intro (fun r D=>by simp at D;subst D;rfl) (And.intro (by simp only[cu,uX];omega) (by simp only[cu,uX];omega)),?_⟩;refine lG (aY.ez _ 127 90005 (by decide) (by decide)) ?_;refine⟨wO (by omega),?_⟩;have KB:=Aa (s:=s) z;have FC:dh l (i+1)=jj x.at_ i x.panels.toNat (dh l i):=by rw[dh,z]
  refine⟨(i+1,gs++[r]),_,aY.refl _ _,⟨by dsimp only;omega,?_⟩,by dsimp only;omega,⟨Z,Z,Z,Z,Z,Y⟩,⟨congrArg (AB.ai _) ?_,rfl,rfl,congrArg (AB.ai _) (by simp only[dF,dG]),rfl,congrArg (AB.row _) ?_,congrArg (AB.fam · _) ?_,trivial⟩⟩
  ·dsimp only;rw[bT z,aa,aa,G];simp only[qO,rA];rw[N,Pz]
  ·dsimp only;rw[FC,<-Pz];simp only[cP,cJ]
  ·dsimp only;simp only[Fg,aa];rfl
  dsimp only;rw[KB,Pz,List.flatten_append];simp
 have IG:i=l.length:=by omega
 subst IG;rw[Ue]at G;rw[Ue];have D:=SZ.zero (b:=b) U J G;have O:=Mq _ _ D;refine lG (aY.Gz (by exact hC) _ 50 3 90005 60 (Fg gs) _ (by decide) (by exact rfl) (by exact rfl) (by exact rfl)) ?_;refine⟨[(50,100000),(48,90001),(90002,90002),(90003,90003),(90004,90004),(90010,90010)],_,_,_,_,O,⟨rfl,rfl,rfl,iX (AB.ai _) (by simp only[lI];rfl),rfl,iX (AB.ai _) (by simp only[lJ];rfl),Z,Z,Y⟩,?_⟩;have FA:=D.iV;obtain⟨c,Oj⟩:∃c,c=M.iV ⟨s,l,b,gs⟩ (fY s l):=⟨_,rfl⟩;have mH:M.iV ⟨s,l,b,l.map fun x=>List.replicate x.panels.toNat 0⟩ (fY s l)=M.iV ⟨s,l,b,gs⟩ (fY s l):=Ha (by rw[G,ib];exact vz fun x _=>(uX ..)) _;rw[mH];rw[<-Oj]at FA ⊢;have MH:=US c.done (by have:=FA.dn;have e:WD=15000000:=rfl;omega);refine⟨_,_,MH,?_⟩;have Sf:(Fg gs).length=gs.length:=ct ..;have kX:c.jobs.length=gs.flatten.length:=FA.sv.jl;have QC:gs.length=l.length:=by simpa using iX List.length G
 have SL:c.jobs.length<=20000:=by
  have U:=yf (s:=s) fun x z=>(l3 x z).2.1.2;have J:=mB (s:=s) G;omega
 refine lG (aY.EH (by exact hC) _ 21 37 _ (by decide) (by exact rfl) (by exact rfl) (by decide)) ?_;refine d_ (fun i:Nat=>i<=gs.length) (fun i=>[(12,.bx 50 0),(21,.ow 21),(141,.p (.sl (Fg gs))),(142,.p (i64 gs.length)),(143,.p (i64 i))]) (fun i=>[(21,.row 37 ((c.jobs.take (pos gs i 0)).map fun j=>mc j.made)),(50,.box [.p (.sl (s.map gq)),.p (.sl (l.map jK)),.p (.mp (.st [0,1,1,1]) (mL b)),.p (.sl (Fg gs)),.ow 48,.ow 90002,.ow 90003,.p (i64 c.now),.ow 90004]),(90004,.row 34 ((iO c.done).map dc)),(90010,.fam (nz gs.flatten c.jobs) [])]) (fun i=>gs.length-i) 0 _ (aY.refl _ _) (nI _) ⟨rfl,rfl,rfl,iX (fun n:Nat=>AV.p (i64 n)) Sf,Z,Y⟩ ⟨by rw[show pos gs 0 0=0 from rfl];rfl,Z,Z,Z,Y⟩ fun i V t h=>?_;apply iW<;>intro g5<;>try simp only[zB]at g5
 ·obtain⟨r,IN⟩:=a8 (l:=gs) (i:=i) (by omega);have lr:(r.map fun g=>[ptr g]).length=r.length:=ct ..;refine⟨[CE r],(idx rfl IN),?_⟩;refine d_ (fun k:Nat=>k<=r.length) (fun k=>[(12,.bx 50 0),(21,.ow 21),(141,.p (.sl (Fg gs))),(142,.p (i64 gs.length)),(143,.p (i64 i)),(147,.p (CE r)),(148,.p (i64 r.length)),(149,.p (i64 k))]) (fun k=>[(21,.row 37 ((c.jobs.take (pos gs i k)).map fun j=>mc j.made)),(50,.box [.p (.sl (s.map gq)),.p (.sl (l.map jK)),.p (.mp (.st [0,1,1,1]) (mL b)),.p (.sl (Fg gs)),.ow 48,.ow 90002,.ow 90003,.p (i64 c.now),.ow 90004]),(90004,.row 34 ((iO c.done).map dc)),(90010,.fam (nz gs.flatten c.jobs) [])]) (fun k=>r.length-k) 0 _ (aY.refl _ _) (nI _) ⟨rfl,rfl,rfl,rfl,rfl,rfl,iX (fun n:Nat=>AV.p (i64 n)) lr,Z,Y⟩ ⟨Z,Z,Z,Z,Y⟩ fun k hk t h=>?_;apply iW<;>intro g6<;>try simp only[zB]at g6
  ·obtain⟨g,HR⟩:=a8 (l:=r) (i:=k) (by omega);have hg:=gr gs i k r g IN HR;obtain⟨j,hj⟩:=a8 (l:=c.jobs) (i:=pos gs i k) (by have:=ah hg;omega);have I:=zS hg hj;refine⟨[ptr g],(idx rfl HR),?_⟩;refine lG ((aY.zJ (by exact hC) _ 90010 90012 25 (pos gs i k) (by decide) (by decide) (by exact rfl) I (by exact rfl)).trans (aY.open (by exact hC) _ 90012 [90014] (by exact rfl) (by exact rfl) (by exact rfl) (by exact rfl))) ?_;have SM:((c.jobs.take (pos gs i k)).map fun j=>mc j.made).length<=20000:=by rw[ct,dI];omega
   refine⟨And.intro (fun r D=>by simp at D;subst D;rfl) (And.intro (by simp only[cu,uX];omega) (by simp only[cu,uX];omega)),?_⟩;refine lG ((aY.pack (by exact hC) _ 90012 (cs:=pL j) (by exact rfl) (by exact rfl) (by exact⟨Z,Z,Z,Z,Z,Z,Z,Z,Z,Y⟩)).trans (aY.sr (by exact hC) _ 90010 90012 (pos gs i k) (by exact rfl) (by exact rfl) I)) ?_;have SN:k<=pos gs i k:=by unfold pos;omega
   have DI:=ah hj;refine⟨wO (by omega),(k+1),_,aY.refl _ _,?_⟩;have NP:c.jobs.take (pos gs i (k+1))=c.jobs.take (pos gs i k)++[j]:=bT hj;refine⟨by omega,by omega,⟨Z,Z,Z,Z,Z,Z,Z,Z,Y⟩,⟨iX (AB.row _) ?_,rfl,rfl,iX (AB.fam · _) ?_,trivial⟩⟩
   ·rw[NP,aa];rfl
   rw[kx hg,dP hj]
  have e:k=r.length:=by omega
  exact⟨wO (by omega),(i+1),_,aY.refl _ _,by omega,by omega,⟨Z,Z,Z,Z,Z,Y⟩,⟨by rw[Fi IN,e];rfl,Z,Z,Z,Y⟩⟩
 have e:i=gs.length:=by omega
 subst e;rw[G8,<-kX,Ue];refine⟨?_,trivial⟩;rfl
theorem Ag(s:List gI)(l:List Lt)(b:List Fl)(hS:∀x∈s,x.name.size<4294967281)(I:∀x∈l,x.name.size<4294967281)(hs:s.length<=140737488355328)(hl:l.length<=140737488355328)(hb:b.length<=140737488355328):aT C 6 [.pv (.sl (s.map gq)),.pv (.sl (l.map jK)),.pv (.sl (b.map CJ))] (.tu [.sl ((jQ s l b).1.map dc),.sl ((jQ s l b).2.1.map mc),i64 (jQ s l b).2.2]) []:=by
 by_cases c:cz s=0
 ·by_cases D:cA l=0
  ·by_cases G:de s l b=0
   ·have:=Af s l b c D G hS I hs hl hb;rw[jQ,qH c,qH D,qH G];simp only[ib];exact this
   have e:jQ s l b=([],[],de s l b):=by rw[jQ,qH c,qH D,af G]
   rw[e];have c1:=ft s hS hs;have c2:=gS l I hl;have J:=jP s l b (o5 c).1 D hb;rw[c]at c1;rw[D]at c2;refine Mb ⟨[],[],[],[19,28,29],[],[]⟩ hC Tryz.func6 rfl (by kernel_rfl) fun _=>?_;refine⟨_,_,c1,_,_,c2,_,_,J,iW ?_ ?_⟩<;>intro z<;>try simp only[zB]at z
   ·refine⟨?_,trivial⟩;rfl
   exact absurd (by simpa using z) G
  have e:jQ s l b=([],[],cA l):=by rw[jQ,qH c,af D]
  rw[e];have c1:=ft s hS hs;have c2:=gS l I hl;rw[c]at c1;refine Mb ⟨[],[],[],[19,28,29],[],[]⟩ hC Tryz.func6 rfl (by kernel_rfl) fun _=>?_;refine⟨_,_,c1,_,_,c2,iW ?_ ?_⟩<;>intro z<;>try simp only[zB]at z
  ·refine⟨?_,trivial⟩;rfl
  exact absurd (by simpa using z) D
 have e:jQ s l b=([],[],cz s):=by rw[jQ,af c]
 rw[e];have c1:=ft s hS hs;refine Mb ⟨[],[],[],[19,28,29],[],[]⟩ hC Tryz.func6 rfl (by kernel_rfl) fun _=>?_;refine⟨_,_,c1,iW ?_ ?_⟩<;>intro z<;>try simp only[zB]at z
 ·refine⟨?_,trivial⟩;rfl
 exact absurd (by simpa using z) c
end M
end Go.Proofs.YtedjhhieekileaaGreatDoor
