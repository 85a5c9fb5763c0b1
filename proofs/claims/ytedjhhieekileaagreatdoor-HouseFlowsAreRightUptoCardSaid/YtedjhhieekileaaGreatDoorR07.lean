/- No machine works on two panels at once, no panel is at two machines at once, each work takes its minutes, and each panel is told once. Condition: what is read is of bulk at most 1048576; the listed variables are tied to the program's text by the card. -/
import Derived.Test.YtedjhhieekileaaGreatDoorR06
import Derived.Lib.SplitLaws
import Derived.Lib.AppendIntMem
import Derived.Lib.SmallJoins
set_option linter.unusedVariables false
set_option linter.unusedSimpArgs false
set_option maxRecDepth 100000
set_option maxHeartbeats 8000000
namespace Go
abbrev Bv:=@List.map_replicate
abbrev mC:=@Int.mul_le_mul_of_nonneg_left
abbrev Bw:=@ByteArray.size_append
abbrev SX:=@List.getElem?_eq_none_iff
end Go
namespace Go.Proofs.YtedjhhieekileaaGreatDoor
namespace M
open Go.AM Go.RowKit
theorem Af(s:List gI)(l:List Lt)(b:List Fl)(L:cz s=0)(G:cA l=0)(h3:de s l b=0)(hS:∀x∈s,x.name.size<4294967281)(hL:∀x∈l,x.name.size<4294967281)(hs:s.length<=140737488355328)(hl:l.length<=140737488355328)(hb:b.length<=140737488355328):aT C 6 [.pv (.sl (s.map gq)),.pv (.sl (l.map jK)),.pv (.sl (b.map CJ))] (.tu [.sl ((iO (M.iV ⟨s,l,b,l.map fun x=>List.replicate x.panels.toNat 0⟩ (fY s l)).done).map dc),.sl ((M.iV ⟨s,l,b,l.map fun x=>List.replicate x.panels.toNat 0⟩ (fY s l)).jobs.map fun j=>mc j.made),i64 0]) []:=by
 refine Mb ⟨[11,16,20,29,31,32,33,36,42,43],[],[],[19,28,29],[],[]⟩ hC Tryz.func6 rfl (by kernel_rfl) fun _=>?_;obtain⟨s1,s2⟩:=o5 L;obtain⟨l1,l2,U⟩:=oZ G;have V:=cH s gq;have ll:=cH l jK;have lb:=cH b CJ;have c1:=ft s hS hs;have c2:=gS l hL hl;have c3:=jP s l b s1 G hb;rw[L]at c1;rw[G]at c2;rw[h3]at c3;refine⟨_,_,c1,_,_,c2,_,_,c3,And.intro (by omega) (And.intro (by omega) (And.intro (by show ((s.map gq).length:Int)*24<=_;omega) (by omega))),?_⟩;refine lG (((aY.OQ (by exact hC) _ 48 (e:=53) (es:=List.replicate ((s.map gq).length:Int).toNat [PV.im (.slice none 0 0)]) (by exact rfl)).trans (aY.L7 (by exact hC) _ 48 s.length (e:=53) (e':=68) (by exact aa (AB.ai _) (by rw[gH,V,Bv];rfl)) (by exact rfl) (by decide))).trans ((aY.rf (by exact hC) _ 50 6 90003 59 _ _ (by decide) (by decide) (by exact rfl) (by exact rfl) (by exact rfl) (by decide)).trans (aY.OQ (by exact hC) _ 90003 (e:=59) (es:=[]) (by exact rfl)))) ?_;have fI:∀(i:Nat) (f:Fl),b[i]?=some f->¬(b.take i).any (sT f)=true:=fun i f D=>CR h3 D;refine d_ (fun i:Nat=>i<=b.length) (fun i=>[(0,.p (.sl (s.map gq))),(1,.p (.sl (l.map jK))),(12,.bx 50 0),(51,.p (.sl (b.map CJ))),(52,.p (i64 b.length)),(53,.p (i64 i))]) (fun i=>[(45,.map (.st [0,1,1,1]) ((mL (b.take i)).map Bz)),(48,.ai 53 ((List.replicate s.length ([]:List Wt)).map qC)),(50,.box [.p (.sl (s.map gq)),.p (.sl (l.map jK)),.ow 45,.nl,.ow 48,.nl,.ow 90003,.p (i64 0),.nl]),(90003,.ai 59 [])]) (fun i=>b.length-i) 0 _ (aY.refl _ _) (bd _) ⟨rfl,rfl,rfl,rfl,aa (fun n:Nat=>AV.p (i64 n)) lb,Z,Y⟩ ⟨rfl,aa (AB.ai _) (by simp only[Bv];rfl),Z,Z,Y⟩ fun i N t h=>?_;apply iW<;>intro g1<;>try simp only[zB]at g1
 ·obtain⟨f,D⟩:=a8 (l:=b) (i:=i) (by omega);have hm:=yb (l:=b.take i) (f:=f) (fI i f D);have ht:=bT D;exact⟨(CJ f),(idx rfl D),wO (by omega),(i+1),_,aY.refl _ _,by omega,by omega,⟨Z,Z,Z,Z,Z,Z,Y⟩,⟨by rw[ht];exact aa (AB.map _) hm,aa (AB.ai _) (by simp only[cP,cJ]),Z,Z,Y⟩⟩
 have Jk:i=b.length:=by omega
 refine lG (aY.Jn (by exact hC) _ 50 2 45 (mL b) _ (by decide) (by exact rfl) (by exact rfl) (by exact rfl) (by rw[Jk,oX])) ?_;refine d_ (fun i:Nat=>i<=s.length) (fun i=>[(0,.p (.sl (s.map gq))),(1,.p (.sl (l.map jK))),(12,.bx 50 0),(63,.p (.sl (s.map gq))),(64,.p (i64 s.length)),(65,.p (i64 i))]) (fun i=>[(48,.ai 53 ((List.replicate s.length ([]:List Wt)).map qC)),(50,.box [.p (.sl (s.map gq)),.p (.sl (l.map jK)),.p (.mp (.st [0,1,1,1]) (mL b)),.nl,.ow 48,.nl,.ow 90003,.p (i64 0),.nl]),(90003,.ai 59 (((s.take i).map mX).map bC))]) (fun i=>s.length-i) 0 _ (aY.refl _ _) (bd _) ⟨rfl,rfl,rfl,rfl,aa (fun n:Nat=>AV.p (i64 n)) V,Z,Y⟩ ⟨Z,Z,Z,Y⟩ fun i N t h=>?_;apply iW<;>intro g2<;>try simp only[zB]at g2
 ·obtain⟨x,m⟩:=a8 (l:=s) (i:=i) (by omega);obtain⟨_,_,SJ,_⟩:=s2 i x m;refine⟨(gq x),(idx rfl m),And.intro (by omega) (And.intro (by omega) (And.intro (by show x.machines*1<=_;omega) (by omega))),And.intro (fun r u=>by rw[jc.1 u];rfl) (And.intro (by simp only[bZ,aB,cu,cD,jU];omega) (by simp only[bZ,aB,cu,cD,jU];omega)),?_⟩;have QE:(((s.take i).map mX).map bC).length=i:=by simp only[aB,cu];omega
  refine lG ((aY.jg (by exact hC) _ 78 i 0 76 (e:=59) (es:=((s.take i).map mX).map bC++[[.av (.ow 76)]]) (r:=[.av (.ow 76)]) (e':=4) (xs:=(mX x).map fun y=>[bool y]) (by decide) (by exact aa (AB.ai _) (by simp only[dF,dG];rfl)) (by exact aa (AB.row _) (by rw[mX,Bv];rfl)) (by rw[bY (by omega),QE,fH];rfl) rfl).trans (aY.ez _ 78 90003 (by decide) (by decide))) ?_;have W:=bT m;refine⟨wO (by omega),(i+1),_,aY.refl _ _,by omega,by omega,⟨Z,Z,Z,Z,Z,Z,Y⟩,⟨aa (AB.ai _) (by simp only[cP,cJ]),rfl,aa (AB.ai _) ?_,trivial⟩⟩;rw[W,dJ,dJ,vB _ _ (by omega),QE,fH];simp only[dF,dG,dJ];rfl
 have Sd:i=s.length:=by omega
 subst Sd;obtain⟨n0,MX⟩:∃n0,s.length=n0+1:=⟨s.length-1,by omega⟩;have yp:((List.replicate s.length ([]:List Wt)).map qC)=((cQ s (dh l 0)).map qC):=by
  rw[cQ,MX,l_,ma];rfl
 rw[oX,yp];refine d_ (fun p:Nat×List (List Nat)=>p.1<=l.length/\p.2.map List.length=(l.take p.1).map fun x=>x.panels.toNat) (fun p=>[(0,.p (.sl (s.map gq))),(12,.bx 50 0),(82,.p (.sl (l.map jK))),(83,.p (i64 l.length)),(84,.p (i64 p.1))]) (fun p=>[(48,.ai 53 ((cQ s (dh l p.1)).map qC)),(50,.box [.p (.sl (s.map gq)),.p (.sl (l.map jK)),.p (.mp (.st [0,1,1,1]) (mL b)),.ow 90005,.ow 48,.ow 90002,.ow 90003,.p (i64 0),.ow 90004]),(90002,.row 68 []),(90003,.ai 59 ((s.map mX).map bC)),(90004,.row 34 []),(90005,.row 60 (Fg p.2)),(90010,.fam (nz p.2.flatten (gh s (l.take p.1))) [])]) (fun p=>l.length-p.1) (0,[]) _ ((((aY.rf (by exact hC) _ 50 3 90005 60 _ _ (by decide) (by decide) (by exact rfl) (by exact rfl) (by exact rfl) (by decide)).trans (aY.rf (by exact hC) _ 50 5 90002 68 _ _ (by decide) (by decide) (by exact rfl) (by exact rfl) (by exact rfl) (by decide))).trans (aY.rf (by exact hC) _ 50 8 90004 34 _ _ (by decide) (by decide) (by exact rfl) (by exact rfl) (by exact rfl) (by decide))).trans (aY.Jl (by exact hC) _ 90010 (by decide))) ⟨bd _,rfl⟩ ⟨rfl,rfl,rfl,aa (fun n:Nat=>AV.p (i64 n)) ll,Z,Y⟩ ⟨aa (AB.ai _) (by simp only[cP,cJ]),rfl,rfl,aa (AB.ai _) (by simp only[dF,dG]),Z,Z,Z,Y⟩ fun ⟨i,gs⟩ N t h=>?_;obtain⟨i1,z⟩:=N;simp only at i1 z;apply iW<;>intro g3<;>try simp only[zB]at g3
 ·obtain⟨x,m⟩:=a8 (l:=l) (i:=i) (by omega);refine⟨(jK x),(idx rfl m),?_⟩;obtain⟨_,xp,xa⟩:=U x (aj m);have Fw:=pU (l:=l) (fun x m=>(U x m).2.1.2) i;have Ko:=mB (s:=s) z;refine d_ (fun p:Nat×List Nat=>p.1<=x.panels.toNat/\p.2.length=p.1) (fun p=>[(0,.p (.sl (s.map gq))),(12,.bx 50 0),(17,.p (i64 i)),(18,.bx 18 0),(19,.ow 19),(82,.p (.sl (l.map jK))),(83,.p (i64 l.length)),(84,.p (i64 i)),(90,.p (i64 x.panels)),(91,.p (i64 p.1))]) (fun p=>[(18,.box [.p (str x.name),.p (i64 x.panels),.p (i64 x.at_)]),(19,.ai 61 (p.2.map tH)),(48,.ai 53 ((cQ s (jj x.at_ i p.1 (dh l i))).map qC)),(50,.box [.p (.sl (s.map gq)),.p (.sl (l.map jK)),.p (.mp (.st [0,1,1,1]) (mL b)),.ow 90005,.ow 48,.ow 90002,.ow 90003,.p (i64 0),.ow 90004]),(90002,.row 68 []),(90003,.ai 59 ((s.map mX).map bC)),(90004,.row 34 []),(90005,.row 60 (Fg gs)),(90010,.fam (nz (gs.flatten++p.2) (gh s (l.take i)++iP s x p.1)) [])]) (fun p=>x.panels.toNat-p.1) (0,[]) _ ((aY.EH (by exact hC) _ 19 61 _ (by decide) (by exact rfl) (by exact rfl) (by decide)).trans (aY.OQ (by exact hC) _ 19 (e:=61) (es:=[]) (by exact rfl))) ⟨bd _,rfl⟩ ⟨Z,Z,Z,Z,Z,Z,Z,Z,Z,Z,Y⟩ ⟨rfl,rfl,aa (AB.ai _) (by simp only[cP,cJ];rfl),rfl,rfl,aa (AB.ai _) (by simp only[dF,dG]),rfl,rfl,by rw[qR,show iP s x 0=[] from rfl,qR];rfl,trivial⟩ fun ⟨k,r⟩ hk t h=>?_;obtain⟨k1,I⟩:=hk;simp only at k1 I;apply iW<;>intro g4<;>try simp only[zB]at g4
  ·refine⟨And.intro (by omega) (And.intro (by omega) (And.intro (by show ((s.map gq).length:Int)*8<=_;omega) (by omega))),And.intro (fun r u=>by rw[jc.1 u];rfl) (And.intro (by simp only[bZ,aB,cu,cD,jU];omega) (by simp only[bZ,aB,cu,cD,jU];omega)),?_⟩;have O:(r.map tH).length=k:=by rw[aB];exact I
   refine Seen.le (aY.pack (by exact hC) _ 103 (cs:=pL (qx s x k)) (by exact rfl) (by exact rfl) (by exact⟨rfl,rfl,rfl,aa (AB.row _) (by rw[gH,V];simp only[qx,Bv];rfl),Z,Z,Z,Z,Z,Y⟩)) (Seen.Jm (by exact hC) _ 90010 103 19 k 0 (cs:=pL (qx s x k)) (e:=61) (es:=r.map tH++[[.av (.bx 103 0)]]) (r:=[.av (.bx 103 0)]) (by exact rfl) (by exact rfl) (by exact aa (AB.ai _) (by simp only[dJ,Bp,Bq];rfl)) (by rw[bY (by omega),O,fH];rfl) rfl fun g=>?_);have yp:=qy s1.1 (jj x.at_ i k (dh l i));have SK:=pT x.at_ i k (dh l i);have Px:=lS s (jj x.at_ i k (dh l i));refine⟨And.intro (by omega) (by simp only[cP,cJ];rw[List.length_map,Px];exact s1.1),(qC (jj x.at_ i k (dh l i))),(by simp only[cP,cJ];exact ff qC yp),_,_,wb (jj x.at_ i k (dh l i)) (x.at_,i,k) (by omega),rfl,jL _,⟨by dsimp only;omega,by dsimp only;omega⟩,?_⟩;have Py:(gs.flatten++r).length=(gh s (l.take i)++iP s x k).length:=by
    rw[bZ,bZ,Ko,I];simp[iP]
   have Se:=Fh Py g (qx s x k);refine⟨(k+1,r++[g]),_,aY.refl _ _,⟨by dsimp only;omega,by dsimp only;rw[List.length_append,I];rfl⟩,by dsimp only;omega,⟨Z,Z,Z,Z,Z,Z,Z,Z,Z,Z,Y⟩,⟨rfl,congrArg (AB.ai _) ?_,congrArg (AB.ai _) ?_,rfl,rfl,congrArg (AB.ai _) (by simp only[dF,dG]),rfl,rfl,congrArg (AB.fam · _) ?_,trivial⟩⟩
   ·rw[vB _ _ (by omega),O,fH];simp only[Bp,Bq,dJ];rfl
   ·simp only[cP,cJ];exact (jq _ _ _).trans (aa (List.map qC) (ye s _ _))
   dsimp only;rw[Ab,<-gX,<-gX];exact Se.symm
  have Pz:k=x.panels.toNat:=by omega
  refine lG ((aY.L1 (by exact hC) _ 19 (e:=61) (r.map fun g=>[ptr g]) (by exact rfl) (G7 r)).trans (aY.own (by exact hC) _ 19 (by exact rfl) (by exact rfl))) ?_;have lg:(Fg gs).length=i:=by
   have:=aa List.length z;simp only[aB,cu]at this;rw[Fg,aB];omega
  refine⟨And.intro (fun r u=>by simp at u;subst u;rfl) (And.intro (by simp only[aF,di];omega) (by simp only[aF,di];omega)),?_⟩;refine lG (aY.ez _ 127 90005 (by decide) (by decide)) ?_;refine⟨wO (by omega),?_⟩;have W:=Aa (s:=s) m;have FC:dh l (i+1)=jj x.at_ i x.panels.toNat (dh l i):=by rw[dh,m]
  refine⟨(i+1,gs++[r]),_,aY.refl _ _,⟨by dsimp only;omega,?_⟩,by dsimp only;omega,⟨Z,Z,Z,Z,Z,Y⟩,⟨congrArg (AB.ai _) ?_,rfl,rfl,congrArg (AB.ai _) (by simp only[dF,dG]),rfl,congrArg (AB.row _) ?_,congrArg (AB.fam · _) ?_,trivial⟩⟩
  ·dsimp only;rw[bT m,dJ,dJ,z];simp only[aV,my];rw[I,Pz]
  ·dsimp only;rw[FC,<-Pz];simp only[cP,cJ]
  ·dsimp only;simp only[Fg,dJ];rfl
  dsimp only;rw[W,Pz,List.flatten_append];simp
 have IG:i=l.length:=by omega
 subst IG;rw[oX]at z;rw[oX];have u:=bz.zero (b:=b) L G z;have J:=Mq _ _ u;refine lG (aY.Gz (by exact hC) _ 50 3 90005 60 (Fg gs) _ (by decide) (by exact rfl) (by exact rfl) (by exact rfl)) ?_;refine⟨[(50,100000),(48,90001),(90002,90002),(90003,90003),(90004,90004),(90010,90010)],_,_,_,_,J,⟨rfl,rfl,rfl,aa (AB.ai _) (by simp only[lI];rfl),rfl,aa (AB.ai _) (by simp only[lJ];rfl),Z,Z,Y⟩,?_⟩;have FA:=u.iV;obtain⟨c,Oj⟩:∃c,c=M.iV ⟨s,l,b,gs⟩ (fY s l):=⟨_,rfl⟩;have mH:M.iV ⟨s,l,b,l.map fun x=>List.replicate x.panels.toNat 0⟩ (fY s l)=M.iV ⟨s,l,b,gs⟩ (fY s l):=Ha (by rw[z,vz];exact ou fun x _=>(di ..)) _;rw[mH];rw[<-Oj]at FA ⊢;have MH:=yd c.done (by have:=FA.dn;have e:lL=15000000:=rfl;omega);refine⟨_,_,MH,?_⟩;have Sf:(Fg gs).length=gs.length:=aB ..;have kX:c.jobs.length=gs.flatten.length:=FA.sv.jl;have QC:gs.length=l.length:=by simpa using aa List.length z
 have SL:c.jobs.length<=20000:=by
  have L:=yf (s:=s) fun x m=>(U x m).2.1.2;have G:=mB (s:=s) z;omega
 refine lG (aY.EH (by exact hC) _ 21 37 _ (by decide) (by exact rfl) (by exact rfl) (by decide)) ?_;refine d_ (fun i:Nat=>i<=gs.length) (fun i=>[(12,.bx 50 0),(21,.ow 21),(141,.p (.sl (Fg gs))),(142,.p (i64 gs.length)),(143,.p (i64 i))]) (fun i=>[(21,.row 37 ((c.jobs.take (pos gs i 0)).map fun j=>mc j.made)),(50,.box [.p (.sl (s.map gq)),.p (.sl (l.map jK)),.p (.mp (.st [0,1,1,1]) (mL b)),.p (.sl (Fg gs)),.ow 48,.ow 90002,.ow 90003,.p (i64 c.now),.ow 90004]),(90004,.row 34 ((iO c.done).map dc)),(90010,.fam (nz gs.flatten c.jobs) [])]) (fun i=>gs.length-i) 0 _ (aY.refl _ _) (bd _) ⟨rfl,rfl,rfl,aa (fun n:Nat=>AV.p (i64 n)) Sf,Z,Y⟩ ⟨by rw[show pos gs 0 0=0 from rfl];rfl,Z,Z,Z,Y⟩ fun i N t h=>?_;apply iW<;>intro g5<;>try simp only[zB]at g5
 ·obtain⟨r,IN⟩:=a8 (l:=gs) (i:=i) (by omega);have O:(r.map fun g=>[ptr g]).length=r.length:=aB ..;refine⟨[CE r],(idx rfl IN),?_⟩;refine d_ (fun k:Nat=>k<=r.length) (fun k=>[(12,.bx 50 0),(21,.ow 21),(141,.p (.sl (Fg gs))),(142,.p (i64 gs.length)),(143,.p (i64 i)),(147,.p (CE r)),(148,.p (i64 r.length)),(149,.p (i64 k))]) (fun k=>[(21,.row 37 ((c.jobs.take (pos gs i k)).map fun j=>mc j.made)),(50,.box [.p (.sl (s.map gq)),.p (.sl (l.map jK)),.p (.mp (.st [0,1,1,1]) (mL b)),.p (.sl (Fg gs)),.ow 48,.ow 90002,.ow 90003,.p (i64 c.now),.ow 90004]),(90004,.row 34 ((iO c.done).map dc)),(90010,.fam (nz gs.flatten c.jobs) [])]) (fun k=>r.length-k) 0 _ (aY.refl _ _) (bd _) ⟨rfl,rfl,rfl,rfl,rfl,rfl,aa (fun n:Nat=>AV.p (i64 n)) O,Z,Y⟩ ⟨Z,Z,Z,Z,Y⟩ fun k hk t h=>?_;apply iW<;>intro g6<;>try simp only[zB]at g6
  ·obtain⟨g,HR⟩:=a8 (l:=r) (i:=k) (by omega);have hg:=gr gs i k r g IN HR;obtain⟨j,R⟩:=a8 (l:=c.jobs) (i:=pos gs i k) (by have:=ah hg;omega);have D:=zS hg R;refine⟨[ptr g],(idx rfl HR),?_⟩;refine lG ((aY.zJ (by exact hC) _ 90010 90012 25 (pos gs i k) (by decide) (by decide) (by exact rfl) D (by exact rfl)).trans (aY.open (by exact hC) _ 90012 [90014] (by exact rfl) (by exact rfl) (by exact rfl) (by exact rfl))) ?_;have SM:((c.jobs.take (pos gs i k)).map fun j=>mc j.made).length<=20000:=by rw[aB,cu];omega
   refine⟨And.intro (fun r u=>by simp at u;subst u;rfl) (And.intro (by simp only[aF,di];omega) (by simp only[aF,di];omega)),?_⟩;refine lG ((aY.pack (by exact hC) _ 90012 (cs:=pL j) (by exact rfl) (by exact rfl) (by exact⟨Z,Z,Z,Z,Z,Z,Z,Z,Z,Y⟩)).trans (aY.sr (by exact hC) _ 90010 90012 (pos gs i k) (by exact rfl) (by exact rfl) D)) ?_;have SN:k<=pos gs i k:=by unfold pos;omega
   have DI:=ah R;refine⟨wO (by omega),(k+1),_,aY.refl _ _,?_⟩;have NP:c.jobs.take (pos gs i (k+1))=c.jobs.take (pos gs i k)++[j]:=bT R;refine⟨by omega,by omega,⟨Z,Z,Z,Z,Z,Z,Z,Z,Y⟩,⟨aa (AB.row _) ?_,rfl,rfl,aa (AB.fam · _) ?_,trivial⟩⟩
   ·rw[NP,dJ];rfl
   rw[kx hg,dP R]
  have e:k=r.length:=by omega
  exact⟨wO (by omega),(i+1),_,aY.refl _ _,by omega,by omega,⟨Z,Z,Z,Z,Z,Y⟩,⟨by rw[Fi IN,e];rfl,Z,Z,Z,Y⟩⟩
 have e:i=gs.length:=by omega
 subst e;rw[G8,<-kX,oX];refine⟨?_,trivial⟩;rfl
theorem Ag(s:List gI)(l:List Lt)(b:List Fl)(hS:∀x∈s,x.name.size<4294967281)(D:∀x∈l,x.name.size<4294967281)(hs:s.length<=140737488355328)(hl:l.length<=140737488355328)(hb:b.length<=140737488355328):aT C 6 [.pv (.sl (s.map gq)),.pv (.sl (l.map jK)),.pv (.sl (b.map CJ))] (.tu [.sl ((jQ s l b).1.map dc),.sl ((jQ s l b).2.1.map mc),i64 (jQ s l b).2.2]) []:=by
 by_cases c:cz s=0
 ·by_cases u:cA l=0
  ·by_cases z:de s l b=0
   ·have:=Af s l b c u z hS D hs hl hb;rw[jQ,ae c,ae u,ae z];simp only[vz];exact this
   have e:jQ s l b=([],[],de s l b):=by rw[jQ,ae c,ae u,af z]
   rw[e];have c1:=ft s hS hs;have c2:=gS l D hl;have G:=jP s l b (o5 c).1 u hb;rw[c]at c1;rw[u]at c2;refine Mb ⟨[],[],[],[19,28,29],[],[]⟩ hC Tryz.func6 rfl (by kernel_rfl) fun _=>?_;refine⟨_,_,c1,_,_,c2,_,_,G,iW ?_ ?_⟩<;>intro m<;>try simp only[zB]at m
   ·refine⟨?_,trivial⟩;rfl
   exact absurd (by simpa using m) z
  have e:jQ s l b=([],[],cA l):=by rw[jQ,ae c,af u]
  rw[e];have c1:=ft s hS hs;have c2:=gS l D hl;rw[c]at c1;refine Mb ⟨[],[],[],[19,28,29],[],[]⟩ hC Tryz.func6 rfl (by kernel_rfl) fun _=>?_;refine⟨_,_,c1,_,_,c2,iW ?_ ?_⟩<;>intro m<;>try simp only[zB]at m
  ·refine⟨?_,trivial⟩;rfl
  exact absurd (by simpa using m) u
 have e:jQ s l b=([],[],cz s):=by rw[jQ,af c]
 rw[e];have c1:=ft s hS hs;refine Mb ⟨[],[],[],[19,28,29],[],[]⟩ hC Tryz.func6 rfl (by kernel_rfl) fun _=>?_;refine⟨_,_,c1,iW ?_ ?_⟩<;>intro m<;>try simp only[zB]at m
 ·refine⟨?_,trivial⟩;rfl
 exact absurd (by simpa using m) c
open Go.Lib
def No(l:List UInt8):ByteArray:=⟨l.toArray⟩
theorem Ah(n:Int)(h:-9223372036854775808<=n/\n<=9223372036854775807):aT C 106 [.pv (i64 n)] (.p (str (No (Lib.itoa n)))) []:=
 iz [.int .i64 n] (.string (No (Lib.itoa n))) ⟨_,Tryz.func106,by decide,rfl⟩ fun S w c hS=>by
  refine (Tryz.strconv_Itoa n h.1 h.2 w c.2.2.2).mono ?_;rintro e w' ⟨rfl,k,os,rfl⟩;exact⟨rfl,Lib.below_grow _ _ (aC _) k os⟩
theorem wF(s p:ByteArray):aT C 33 [.pv (str s),.pv (str p)] (.p (bool (Lib.hasPrefix s.data.toList p.data.toList))) []:=
 iz [.string s,.string p] (.bool _) ⟨_,Tryz.func33,by decide,rfl⟩ fun S w hE hS=>by
  refine (Tryz.strings_HasPrefix s p w).mono ?_;rintro e w' ⟨rfl,rfl⟩;exact⟨rfl,Below.refl _ _⟩
theorem s6(s p:ByteArray)(hs:s.size<4294967281):aT C 56 [.pv (str s),.pv (str p)] (.p (bool (Lib.contains s.data.toList p.data.toList))) []:=
 iz [.string s,.string p] (.bool _) ⟨_,Tryz.func56,by decide,rfl⟩ fun S w c hS=>by
  obtain⟨_,_,⟨m,u⟩,_⟩:=c;refine (Tryz.strings_Contains s p m w hs u).mono ?_;rintro e w' ⟨rfl,rfl⟩;exact⟨rfl,Below.refl _ _⟩
def s7:ByteArray:=⟨#[48,49,50,51,52,53,54,55,56,57]⟩
theorem CY:(Tryz.prog.info? (Tryz.laysTrim_ren.t 116)).map (fun i=>(i.zero,i.size))=some (some (.agg (Array.replicate 256 (.bool false))),256):=by kernel_rfl
theorem Ai:∀(j:Nat) b,s7.data.toList[j]?=some b->b.toNat<128:=fun j b h=>by
 have:=aj h;revert b;intro b _ hb;exact (show ∀c∈s7.data.toList,c.toNat<128 by decide) b hb
theorem Aj(s:ByteArray)(hs:s.size<=9223372036854775807):aT C 83 [.pv (str s),.pv (str s7)] (.p (str (No (Lib.trimS s.data.toList s7.data.toList)))) []:=
 iz [.string s,.string s7] (.string _) ⟨_,Tryz.func83,by decide,rfl⟩ fun S w hE hS=>by
  refine (Tryz.strings_Trim_laid CY s s7 w hs (by decide) Ai).mono ?_;rintro e w' ⟨rfl,hb⟩;exact⟨rfl,hb⟩
theorem CZ {f : FuncId} (us rs : List Value) (hf : ∃ fn : Func, C.P.funcs[f]? = some fn ∧ (fn.name == "runtime.NumGoroutine") = false ∧ fn.body.isNone = false) (h : ∀ S w, C.E S w → (∀ b, S b → b < w.heap.size) → Calls C.P f us.toArray w fun e w' => e = .returned (.tuple rs.toArray) ∧ Below w.heap.size w w') :
  aT C f (us.map fun a=>.pv (.im a)) (.tu (rs.map .im)) []:=by
 refine⟨hf,fun S w vs hE hS hl hr _=>?_⟩;have wV:=rj hl hr;subst wV;exact (h S w hE hS).mono fun e w' ⟨he,hb⟩=>⟨.tuple rs.toArray,S,he,⟨hb.os,hb.tape,hb.output,hb.size,fun k hk _=>hb.block k hk⟩,fun _ h=>h,fun b dM=>bg (hS b dM) hb.size,fun b dM=>.inl dM,⟨rs.toArray,rfl,by simp,fun i x u h1 h2=>by
  rw[ao,az]at h1;obtain⟨y,hy,rfl⟩:=h1;have:rs[i]?=some u:=by simpa using h2
  rw[hy]at this;cases this;exact .im _⟩,vY us,sB us,fun g h=>by cases h⟩
theorem Ak(s:ByteArray)(n:Int)(hl:s.size<=18)(h:Lib.atoi s.data.toList=some n):aT C 84 [.pv (str s)] (.tu [i64 n,.im .nilIface]) []:=
 CZ [.string s] [.int .i64 n,.nilIface] ⟨_,Tryz.func84,by decide,rfl⟩ fun S w hE hS=>by
  refine (Tryz.strconv_Atoi s n hl h w).mono ?_;rintro e w' ⟨rfl,t,rfl⟩;exact⟨rfl,Joins.below_bytesWorld _ _ _ _ (aC _)⟩
def C0:ByteArray:=⟨#[46]⟩
def s0:ByteArray:=⟨#[97,46,48,48,49,46,48,48,50,46,48]⟩
def sA:ByteArray:=⟨#[97]⟩
def s1:ByteArray:=⟨#[48,48,49]⟩
def s2:ByteArray:=⟨#[48,48,50]⟩
def sD:ByteArray:=⟨#[48]⟩
def sF:ByteArray:=⟨#[97,46,48,48,49,46,48,48,50]⟩
def sP:ByteArray:=⟨#[97,46,48,48,49,46,48,48,50,46]⟩
def wG:ByteArray:=⟨#[48,49,50,51,52,53,54,55,56,57,65,66,67,68,69,70,71,72,73,74,75,76,77,78,79,80,81,82,83,84,85,86,87,88,89,90,42]⟩
theorem JX:Lib.splitB C0 0 (Lib.countB s0 C0) s0=[sA,s1,s2,sD]:=by kernel_rfl
theorem JY:Lib.countB s0 C0=3:=by kernel_rfl
theorem JZ:aT C 55 [.pv (str s0),.pv (str C0)] (.own 9 [[str sA],[str s1],[str s2],[str sD]]) []:=
 xQ hC (f:=55) [.string s0,.string C0] 9 [.string sA,.string s1,.string s2,.string sD] _ rfl rfl (by simp[Value.oneCell']) (by decide) ⟨_,Tryz.func55,by decide,rfl⟩ fun S w c hS=>by
  obtain⟨_,_,⟨m,u⟩,_⟩:=c;refine (Tryz.strings_Split s0 C0 m w (by decide) u (by decide)).mono fun _ _ ⟨z,D⟩=>⟨?_,?_⟩
  ·rw[z,JY];rfl
  rw[D,JX];rfl
theorem yj(s:ByteArray)(n:Int)(hs:s.size=3)(m:Lib.trimS s.data.toList s7.data.toList=[])(u:Lib.atoi s.data.toList=some n):aT C 57 [.pv (str s)] (.tu [i64 n,bool true]) []:=by
 refine fW hC Tryz.func57 rfl (by kernel_rfl) fun _=>?_;have c:=Aj s (by omega);rw[m]at c;apply iW<;>intro z
 ·exact absurd (by omega) z
 refine⟨_,_,c,_,_,(Ak s n (by omega) u),?_,trivial⟩;rfl
def pY(s:ByteArray):Nat->Int
 | 0=>0
 | i+1=>pY s i+((i:Int)+1)*(((s.data.toList[i]?).getD 0).toNat:Int)
theorem uN(s:ByteArray):∀i,i<=40->0<=pY s i/\pY s i<=10200*(i:Int)
 | 0,_=>by simp[pY]
 | i+1,hi=>by
  have ⟨h1,h2⟩:=uN s i (by omega);have hb:(((s.data.toList[i]?).getD 0).toNat:Int)<=255:=by have:=((s.data.toList[i]?).getD 0).toNat_lt;omega
  have m:(0:Int)<=(((s.data.toList[i]?).getD 0).toNat:Int):=Int.natCast_nonneg _;rw[pY];generalize (((s.data.toList[i]?).getD 0).toNat:Int)=c at hb m;have u:((i:Int)+1)*c<=((i:Int)+1)*255:=mC hb (by omega);have D:0<=((i:Int)+1)*c:=Int.mul_nonneg (by omega) m;generalize ((i:Int)+1)*c=z at u D;omega
theorem Hd(s:ByteArray)(hs:s.size<=40)(c:UInt8)(u:wG[((pY s s.size).tmod 37).toNat]?=some c):aT C 58 [.pv (str s)] (.p (.im (.int .u8 c.toNat))) []:=by
 refine fW hC Tryz.func58 rfl (by kernel_rfl) fun _=>?_;have hsz:s.data.toList.length=s.size:=by simp
 refine d_ (fun i:Nat=>i<=s.size) (fun i=>[(0,.p (str s)),(3,.p (i64 (pY s i))),(6,.p (i64 s.size)),(7,.p (i64 i))]) (fun _=>[]) (fun i=>s.size-i) 0 _ (aY.refl _ _) (bd _) ⟨Z,Z,Z,Z,Y⟩ trivial fun i hi t h=>?_;have sb:=uN s i (by omega);apply iW<;>intro h1
 ·obtain⟨b,hb,D⟩:=xR (s:=s) (i:=i) (by omega);have Qu:=b.toNat_lt;have G:((i:Int)+1)*(b.toNat:Int)<=((i:Int)+1)*255:=mC (by omega) (by omega);have I:0<=((i:Int)+1)*(b.toNat:Int):=Int.mul_nonneg (by omega) (Int.natCast_nonneg _);have e:pY s (i+1)=pY s i+((i:Int)+1)*(b.toNat:Int):=by rw[pY,D];rfl
  generalize m:((i:Int)+1)*(b.toNat:Int)=z at G I e;exact⟨wO (by omega),b,⟨by omega,by rw[gH];exact hb⟩,wO (by omega),⟨by rw[m];omega,by rw[m];omega⟩,⟨by rw[m];omega,by rw[m];omega⟩,wO (by omega),(i+1),_,aY.refl _ _,by omega,by omega,⟨rfl,aa (fun n:Int=>AV.p (i64 n)) (by rw[e,m]),Z,Z,Y⟩,trivial⟩
 have e:i=s.size:=by omega
 have J:0<=(pY s i).tmod 37/\(pY s i).tmod 37<37:=⟨Int.tmod_nonneg _ sb.1,Int.tmod_lt_of_pos _ (by decide)⟩;rw[<-e]at u;refine⟨by decide,c,⟨J.1,u⟩,?_,trivial⟩;rfl
def sN:ByteArray:=⟨#[49,48,48,49]⟩
theorem uO(n:Int)(a b:ByteArray)(h0:0<=n/\n<=999)(m:No (Lib.itoa (1000+n))=a)(hl:a.size=4)(hb:a.extract 1 4=b):aT C 85 [.pv (i64 n)] (.p (str b)) []:=by
 refine fW hC Tryz.func85 rfl (by kernel_rfl) fun _=>?_;have c:=Ah (1000+n) ⟨by omega,by omega⟩;rw[m]at c;refine⟨wO (by omega),_,_,c,⟨by decide,by omega,by omega⟩,?_,trivial⟩;rw[hl];exact aa (fun z=>PV.im (Value.string z)) hb
def sS:ByteArray:=⟨#[97,46,48,48,49,46,48,48,50,46,88]⟩
theorem MI:wG[((pY sF sF.size).tmod 37).toNat]?=some 88:=by kernel_rfl
theorem yk(s:ByteArray)(h:s=sF):aT C 58 [.pv (str s)] (.p (.im (.int .u8 88))) []:=by
 rw[h];exact Hd sF (by decide) 88 MI
theorem He:aT C 85 [.pv (i64 1)] (.p (str s1)) []:=uO 1 sN s1 (by decide) (by kernel_rfl) (by decide) (by kernel_rfl)
def Sh:ByteArray:=⟨#[49,48,48,50]⟩
theorem Hf:aT C 85 [.pv (i64 2)] (.p (str s2)) []:=uO 2 Sh s2 (by decide) (by kernel_rfl) (by decide) (by kernel_rfl)
theorem PA:sA++⟨#[46]⟩++s1++⟨#[46]⟩++s2=sF:=by kernel_rfl
theorem PB:sA++⟨#[46]⟩++s1++⟨#[46]⟩++s2++⟨#[46]⟩++Utf8.encode 88=sS:=by kernel_rfl
theorem Fo:(sA++⟨#[46]⟩++s1++⟨#[46]⟩++s2++⟨#[46]⟩).size+(Utf8.encode 88).size<=9223372036854775807:=by
 have h:(Utf8.encode 88).size=1:=by kernel_rfl
 rw[h];simp only[Bw];decide
theorem Fp:aT C 58 [.pv (.im (.string (sA++⟨#[46]⟩++s1++⟨#[46]⟩++s2)))] (.p (.im (.int .u8 88))) []:=yk _ PA
theorem Hg:aT C 59 [.pv (str sA),.pv (i64 1),.pv (i64 2)] (.p (str sS)) []:=by
 refine fW hC Tryz.func59 rfl (by kernel_rfl) fun _=>?_;refine⟨by show _<=9223372036854775807;first | (simp only[Bw];decide) | decide,_,_,He,by show _<=9223372036854775807;first | (simp only[Bw];decide) | decide,by show _<=9223372036854775807;first | (simp only[Bw];decide) | decide,_,_,Hf,by show _<=9223372036854775807;first | (simp only[Bw];decide) | decide,by show _<=9223372036854775807;first | (simp only[Bw];decide) | decide,_,_,Fp,Fo,?_,trivial⟩;exact aa (fun z=>PV.im (Value.string z)) PB
theorem tI:aT C 32 [.pv (str sA),.pv (i64 1),.pv (i64 2)] (.tu [str sS,i64 0]) []:=by
 refine fW hC Tryz.func32 rfl (by kernel_rfl) fun _=>?_;have c:=ir sA (by decide);rw[show jh sA=true from by decide]at c;have m:=cI 1 0 999;rw[show pK 1 0 999=true from by decide]at m;have u:=cI 2 0 999;rw[show pK 2 0 999=true from by decide]at u;refine⟨_,_,c,_,_,m,_,_,u,_,_,Hg,?_,trivial⟩;rfl
theorem ym:aT C 31 [.pv (str s0)] (.tu [str ByteArray.empty,i64 0,i64 0,i64 15]) []:=by
 refine fW hC Tryz.func31 rfl (by kernel_rfl) fun _=>?_;have c:=ir sA (by decide);rw[show jh sA=true from by decide]at c;have m:=s6 wG sD (by decide);rw[show Lib.contains wG.data.toList sD.data.toList=true from by decide]at m;have u:=yj s1 1 rfl (by decide) (by decide);have z:=yj s2 2 rfl (by decide) (by decide);refine⟨_,_,JZ,⟨by decide,by decide⟩,[str sA],rfl,_,_,c,⟨by decide,by decide⟩,[str sD],rfl,⟨by decide,by decide⟩,[str sD],rfl,_,_,m,⟨by decide,by decide⟩,[str s1],rfl,_,_,u,⟨by decide,by decide⟩,[str s2],rfl,_,_,z,⟨by decide,by decide⟩,[str sD],rfl,48,⟨by decide,rfl⟩,⟨by decide,by decide⟩,⟨by decide,by decide,by decide⟩,_,_,(yk (s0.extract 0 9) (by kernel_rfl)),?_,trivial⟩;rfl
theorem uP:aT C 14 [] (.p (bool true)) []:=by
 refine fW hC Tryz.func14 rfl (by kernel_rfl) fun _=>?_;have hp:=wF sS sP;rw[show Lib.hasPrefix sS.data.toList sP.data.toList=true from by kernel_rfl]at hp;refine⟨_,_,ym,_,_,tI,_,_,hp,?_,trivial⟩;rfl
theorem yn(s:List gI)(l:List Lt)(b:List Fl):(∃c,c≠0/\jQ s l b=([],[],c))\/(cz s=0/\cA l=0/\de s l b=0/\jQ s l b=(iO (pW s l b).done,(pW s l b).jobs.map lH.made,0)):=by
 unfold jQ;split
 ·split
  ·split
   ·exact .inr ⟨by assumption,by assumption,by assumption,rfl⟩
   rename_i h;exact .inl ⟨_,h,rfl⟩
  rename_i h;exact .inl ⟨_,h,rfl⟩
 rename_i h;exact .inl ⟨_,h,rfl⟩
def yo(l:List Lt):Nat:=(l.map fun x=>x.panels.toNat).sum
theorem uQ{l:List Lt}{i:Nat}{x:Lt}(h:l[i]?=some x):yo (l.take (i+1))=yo (l.take i)+x.panels.toNat:=by
 rw[yo,yo,bT h,dJ,List.sum_append];simp
theorem wH{l:List Lt}(h:∀x∈l,x.panels<=200):∀i,yo (l.take i)<=200*i
 | 0=>by simp[yo]
 | i+1=>by
  have ih:=wH h i;cases hx:l[i]? with
  | none=>rw[qU (by have:=SX.1 hx;omega)];rw[qU (SX.1 hx)]at ih;omega
  | some x=>rw[uQ hx];have:=h x (aj hx);omega
theorem C1(s:List gI)(l:List Lt)(b:List Fl)(hS:∀x∈s,x.name.size<4294967281)(hL:∀x∈l,x.name.size<4294967281)(hs:s.length<=140737488355328)(hl:l.length<=140737488355328)(hb:b.length<=140737488355328):aT C 4 [.pv (.sl (s.map gq)),.pv (.sl (l.map jK)),.pv (.sl (b.map CJ))] (.p (bool true)) []:=by
 refine fW hC Tryz.func4 rfl (by kernel_rfl) fun _=>?_;have J:=Ag s l b hS hL hs hl hb;rcases yn s l b with⟨c,hc,e⟩ | ⟨h1,h2,h3,e⟩
 ·rw[e]at J;refine⟨_,_,J,iW ?_ ?_⟩<;>intro g1<;>try simp only[zB]at g1
  ·refine⟨_,_,uP,?_,trivial⟩;rfl
  exact absurd (by simpa using g1) hc
 rw[e]at J;have V:=Fm (b:=b) h1 h2;obtain⟨l1,l2,U⟩:=oZ h2;obtain⟨s1,s2⟩:=o5 h1;generalize iO (pW s l b).done=D at J V;generalize (pW s l b).jobs.map lH.made=M at J V;obtain⟨r1,r2,r3,r4⟩:=V;have ld:=cH D dc;have SO:=cH M mc;have ll:=cH l jK;have ls:=cH s gq;refine⟨_,_,J,?_⟩;refine d_ (fun i:Nat=>i<=D.length) (fun i=>[(0,.p (.sl (s.map gq))),(1,.p (.sl (l.map jK))),(7,.p (.sl (D.map dc))),(8,.p (.sl (M.map mc))),(10,.p (i64 i))]) (fun _=>[]) (fun i=>D.length-i) 0 _ (aY.refl _ _) (bd _) ⟨Z,Z,Z,Z,Z,Y⟩ trivial fun i hi t h=>?_;apply iW<;>intro g2<;>try simp only[zB]at g2
 ·obtain⟨d,W⟩:=a8 (l:=D) (i:=i) (by omega);obtain⟨k,m,u,c1,c2,c3,c4,c5,c6,c7⟩:=r2 d (aj W);have lk:=ah c2;have hm:=(s2 k u c2).2.1;refine⟨(dc d),(idx rfl W),iW ?_ ?_⟩<;>intro g3<;>try simp only[zB]at g3
  ·omega
  apply iW<;>intro g4<;>try simp only[zB]at g4
  ·omega
  apply iW<;>intro g5<;>try simp only[zB]at g5
  ·omega
  refine⟨(gq u),(idx c1 c2),iW ?_ ?_⟩<;>intro g6<;>try simp only[zB]at g6
  ·omega
  refine⟨wO (by omega),(gq u),(idx c1 c2),iW ?_ ?_⟩<;>intro g7<;>try simp only[zB]at g7
  ·omega
  refine d_ (fun q:Nat=>q<=i) (fun q=>[(0,.p (.sl (s.map gq))),(1,.p (.sl (l.map jK))),(7,.p (.sl (D.map dc))),(8,.p (.sl (M.map mc))),(10,.p (i64 i)),(11,.bx 11 0),(12,.p (i64 q))]) (fun _=>[(11,.box [.p (str d.lot),.p (i64 d.panel),.p (i64 d.step),.p (i64 d.machine),.p (i64 d.from_),.p (i64 d.till),.p (bool d.good)])]) (fun q=>i-q) 0 _ (aY.refl _ _) (bd _) ⟨Z,Z,Z,Z,Z,Z,Z,Y⟩ ⟨Z,Y⟩ fun q hq t h=>?_;apply iW<;>intro g8<;>try simp only[zB]at g8
  ·obtain⟨y,I⟩:=a8 (l:=D) (i:=q) (by omega);have Gr:sZ y d:=by
    obtain⟨u1,e1⟩:=cL.1 I;obtain⟨u2,e2⟩:=cL.1 W;have:=wj.1 r3 q i u1 u2 (by omega);rw[e1,e2]at this;exact this
   unfold sZ at Gr;refine⟨(dc y),(idx rfl I),iW ?_ ?_⟩<;>intro a1<;>try simp only[zB]at a1
   ·exact⟨And.intro (by omega) (by omega),(q+1),_,aY.refl _ _,by omega,by omega,⟨Z,Z,Z,Z,Z,Z,Z,Y⟩,⟨Z,Y⟩⟩
   apply iW<;>intro a2<;>try simp only[zB]at a2
   ·have J0:¬(d.step=y.step/\d.machine=y.machine\/d.lot=y.lot/\d.panel=y.panel):=by
     rcases Gr with h | h | h
     ·omega
     ·omega
     exact h
    apply iW<;>intro a3<;>try simp only[zB]at a3
    ·apply iW<;>intro a4<;>try simp only[zB]at a4
     ·exact absurd (.inl ⟨a3,a4⟩) J0
     apply iW<;>intro N<;>try simp only[zB]at N
     ·apply iW<;>intro O<;>try simp only[zB]at O
      ·exact absurd (.inr ⟨N,O⟩) J0
      exact⟨And.intro (by omega) (by omega),(q+1),_,aY.refl _ _,by omega,by omega,⟨Z,Z,Z,Z,Z,Z,Z,Y⟩,⟨Z,Y⟩⟩
     exact⟨And.intro (by omega) (by omega),(q+1),_,aY.refl _ _,by omega,by omega,⟨Z,Z,Z,Z,Z,Z,Z,Y⟩,⟨Z,Y⟩⟩
    apply iW<;>intro N<;>try simp only[zB]at N
    ·apply iW<;>intro O<;>try simp only[zB]at O
     ·exact absurd (.inr ⟨N,O⟩) J0
     exact⟨And.intro (by omega) (by omega),(q+1),_,aY.refl _ _,by omega,by omega,⟨Z,Z,Z,Z,Z,Z,Z,Y⟩,⟨Z,Y⟩⟩
    exact⟨And.intro (by omega) (by omega),(q+1),_,aY.refl _ _,by omega,by omega,⟨Z,Z,Z,Z,Z,Z,Z,Y⟩,⟨Z,Y⟩⟩
   exact⟨And.intro (by omega) (by omega),(q+1),_,aY.refl _ _,by omega,by omega,⟨Z,Z,Z,Z,Z,Z,Z,Y⟩,⟨Z,Y⟩⟩
  exact⟨wO (by omega),(i+1),_,aY.refl _ _,by omega,by omega,⟨Z,Z,Z,Z,Z,Y⟩,trivial⟩
 refine d_ (fun i:Nat=>i<=l.length) (fun i=>[(1,.p (.sl (l.map jK))),(8,.p (.sl (M.map mc))),(15,.p (i64 (yo (l.take i)))),(16,.p (i64 i))]) (fun _=>[]) (fun i=>l.length-i) 0 _ (aY.refl _ _) (bd _) ⟨Z,Z,Z,Z,Y⟩ trivial fun i hi t h=>?_;apply iW<;>intro b1<;>try simp only[zB]at b1
 ·obtain⟨x,G⟩:=a8 (l:=l) (i:=i) (by omega);have hp:=(U x (aj G)).2.1;have R:=wH (fun x G=>(U x G).2.1.2) i;have Si:=uQ G;exact⟨(jK x),(idx rfl G),wO (by omega),wO (by omega),(i+1),_,aY.refl _ _,by omega,by omega,⟨rfl,rfl,kv (by rw[Si];omega),Z,Y⟩,trivial⟩
 have IG:i=l.length:=by omega
 subst IG;have hM:M.length=yo l:=by
  have:=aa List.length r4;rw[aB,CX]at this;exact this
 rw[oX];apply iW<;>intro b2<;>try simp only[zB]at b2
 ·omega
 have key:∀(n:Nat) (x:Made),M[n]?=some x->(fZ l)[n]?=some (x.lot,x.panel):=fun n x G=>by
  rw[<-r4,ao,G];rfl
 have R:=wH (l:=l) (fun x G=>(U x G).2.1.2) l.length;rw[oX]at R;refine d_ (fun i:Nat=>1<=i/\i<=max 1 M.length) (fun i=>[(8,.p (.sl (M.map mc))),(17,.p (i64 i))]) (fun _=>[]) (fun i=>M.length-i) 1 _ (aY.refl _ _) ⟨aC _,by omega⟩ ⟨Z,Z,Y⟩ trivial fun i hi t h=>?_;apply iW<;>intro b3<;>try simp only[zB]at b3
 ·obtain⟨x,G⟩:=a8 (l:=M) (i:=i) (by omega);obtain⟨y,I⟩:=a8 (l:=M) (i:=i-1) (by omega);have J1:=yi l2 (key (i-1) y I) (by rw[show i-1+1=i by omega];exact key i x G);obtain⟨z,_,_,z2,z3⟩:=pX (aj (key (i-1) y I));obtain⟨z',Sj,_,_,z4⟩:=pX (aj (key (i-1) y I));have z5:=(U z' Sj).2.1.2;simp only at J1 z2 z3 z4;refine⟨(mc x),(idx rfl G),wO (by omega),(mc y),(idx (show (i:Int)-1=((i-1:Nat):Int) by omega) I),iW ?_ ?_⟩<;>intro L<;>try simp only[zB]at L
  ·exfalso;have L:kT x.lot y.lot=true:=by simpa [kT] using L
   rcases J1 with h | ⟨h,_⟩
   ·have:=iA h L;rw[db]at this;cases this
   rw[h,db]at L;cases L
  refine⟨(mc x),(idx rfl G),wO (by omega),(mc y),(idx (show (i:Int)-1=((i-1:Nat):Int) by omega) I),iW ?_ ?_⟩<;>intro b5<;>try simp only[zB]at b5
  ·refine⟨(mc x),(idx rfl G),wO (by omega),(mc y),(idx (show (i:Int)-1=((i-1:Nat):Int) by omega) I),wO (by omega),iW ?_ ?_⟩<;>intro b6<;>try simp only[zB]at b6
   ·exfalso;rcases J1 with h | ⟨_,h⟩
    ·rw[b5,db]at h;cases h
    exact b6 h
   exact⟨wO (by omega),(i+1),_,aY.refl _ _,by omega,by omega,⟨Z,Z,Y⟩,trivial⟩
  exact⟨wO (by omega),(i+1),_,aY.refl _ _,by omega,by omega,⟨Z,Z,Y⟩,trivial⟩
 refine⟨_,_,uP,?_,trivial⟩;rfl
end M
end Go.Proofs.YtedjhhieekileaaGreatDoor
namespace Go.Proofs.YtedjhhieekileaaGreatDoor
open Go.ChangeShapes Go.WideShapes Go.ChangeAt Go.RowKit Go.AM
open Go.ChangeMaps (open_string shut_string)
open Go.Proofs.YtedjhhieekileaaGreatDoor.M
namespace houseFlowsAreRight
theorem s8{P:Program}{f:FuncId}{fn:Func}{s:ChangeSpec}{c:OpenClaim}(u:(laidOutB P)=true)(z:(mapsRowed P)=true)(D:((c.inPlace==P.inPlace f))=true)(G:((c.unfollowed==P.unfollowed f))=true)(I:((c.recurses==P.recurses f))=true)(J:((c.named==P.varsNamed f))=true)(L:((c.plainKeys==P.plainKeys))=true)(N:(P.stopsHeard)=true)(O:(P.mayEnter)=true)(R:((c.lifted==P.liftsFinal))=true)(U:((P.make==some c.make))=true)
  (m:(c.wf (OpenSpec.ofChange s)&&true&&fn.params.all (P.readableRec ·)&&namedTie P c.named s.vars&&(c.stops==[])&&(P.stops==[])&&(c.knobs==[])&&(P.stopKnobs==[])&&true&&(c.maps==(fn.params.toList++s.plain.varTypes P).any (P.mapsRec ·))&&(c.ifaces==(fn.params.toList++s.plain.varTypes P).any (P.ifacesRec ·))&&(c.mapsOut==P.mapsAmong fn.resultTypes.toList)&&(c.loops==(fn.params.toList++s.plain.varTypes P).any (P.loopsFrom ·))&&(c.wideKeys==(fn.params.toList++s.plain.varTypes P++fn.resultTypes.toList).any (P.wideKeysFrom ·))&&s.vars.all (P.varReadable ·)&&fn.resultTypes.all (fun t=>P.readableRec t&&decide (t<P.types.size))&&(c.ifacesOut==fn.resultTypes.toList.any (P.ifacesRec ·))&&(c.loopsOut==fn.resultTypes.toList.any (P.loopsFrom ·))&&c.shortTexts.isNone&&(c.kinds==(if c.domain.isEmpty then [] else fn.params.toList.map fun t=>match P.underlying t with | some (.int k)=>some k | _=>none))&&(c.pinned==c.pinnedBy)&&(c.veiled==(fn.params.toList++s.plain.varTypes P++fn.resultTypes.toList).any (P.veiledRec ·))&&c.veiledFits P fn.params.toList (fn.params.toList++s.plain.varTypes P++fn.resultTypes.toList))=true):joinedFacts P f fn s c=true:=by
 simp only[aw]at m;simp only[joinedFacts,aw];simp only[u,z,D,G,I,J,L,N,O,R,U,and_true];simp only[and_assoc,and_true]at m ⊢;exact m
theorem J6{W:World}(c:laidMetH Tryz.prog Rows.houseFlowsAreRightUptoRow.laid W)(h:W.ShapedOpen Tryz.prog):M.Env (fun b=>b<W.heap.size) W:=by
 refine x_ (Go.Proofs.cell_of_shapedOpen_int (zero:=#[.int .i64 0]) (t:=3) h (ov (by kernel_rfl)) (by kernel_rfl) rfl (by kernel_rfl) (by kernel_rfl) ib) ?_;rw[MakeChecks.laidMetH_plain _ _ _ (by kernel_rfl)]at c;exact Lib.tabIs_of_head (rest:=Rows.houseFlowsAreRightUptoRow.laid.drop 3) M.Js (by kernel_rfl) aO vZ (by kernel_rfl) (by kernel_rfl) (laidMet.tail (laidMet.tail c))
theorem Fq(H:Type)(enc:TypeId×Value->H)(W:World)(base:Nat)(args:Array Value)(ds gs:List (DataW H))(before:List MemPlace)
  (c:∀(j:Nat) t v,Tryz.f4.params[j]?=some t->args[j]?=some v->Value.okWide Tryz.prog W .any base t v)
  (G:DataW.Whole enc Tryz.prog Tryz.f4.params.toList Rows.houseFlowsAreRightSpec.vars false W args.toList ds gs before) (D:Rows.uptoSmall H (ds++gs)=true) (U:M.Env (fun b=>b<W.heap.size) W):
  Calls Tryz.prog 4 args W fun e u=>∃v,e=.returned v/\Rows.houseFlowsAreRightSpec.post enc Tryz.prog Tryz.f4 false true false false W args v u:=by
 have V:=G;obtain⟨I,q,Y,Z,rfl,wU,Fz⟩:=G;have z:DataW.TrodAll enc Tryz.prog W 0 (fun _=>true) true Tryz.f4.params.toList args.toList ds I:=Y;have m:=fun (u:World) (hb:Below W.heap.size W u)=>uI MA hb (by kernel_rfl) z z.lt;rw[Tryz.params4]at z c;obtain⟨J,SP,d0,SQ,p0,q0,hargs,rfl,Ph,h0,r0⟩:=trodAll_cons z;obtain⟨L,SR,d1,SS,p1,q1,rfl,rfl,rfl,h1,r1⟩:=trodAll_cons r0;obtain⟨N,SU,d2,SV,p2,q2,rfl,rfl,rfl,h2,r2⟩:=trodAll_cons r1;obtain⟨rfl,rfl,rfl⟩:=trodAll_nil r2;obtain rfl:args=#[J,L,N]:=by cases args;simp_all
 obtain⟨rfl,rfl⟩:=trodVars_none Z;obtain⟨_,w0,s,e0,z0⟩:=pR (S:=fun b=>b<W.heap.size) Tryz.underlying22 (G4 fun _ h=>h) (c 0 22 J rfl rfl) h0;cases e0;have O:Fb s:=G5 (wC D (qZ _ (by repeat (first | exact aW .. | apply cg)))) z0;obtain⟨_,w1,l,e1,z1⟩:=pR (S:=fun b=>b<W.heap.size) Tryz.underlying23 (JO fun _ h=>h) (c 1 23 L rfl rfl) h1;cases e1;have R:Ig l:=JQ (wC D (qZ _ (by repeat (first | exact aW .. | apply cg)))) z1;obtain⟨_,w2,b,e2,z2⟩:=pR (S:=fun b=>b<W.heap.size) Tryz.underlying24 (JP fun _ h=>h) (c 2 24 N rfl rfl) h2;cases e2;have Sm:Ih b:=JR (wC D (qZ _ (by repeat (first | exact aW .. | apply cg)))) z2;refine (JL (C:=C) (xs:=[.sl (s.map gq),.sl (l.map jK),.sl (b.map CJ)]) (y:=.bool true) (C1 s l b O.1 R.1 O.2 R.2 Sm.2) U (pS (w0) (pS (w1) (pS (w2) E_)))).mono fun e u ⟨he,hb⟩=>?_;subst he;exact⟨_,rfl,tG (pa:=I) (pv:=[]) V (fun _ _ _=>trodAll_cons_mk (shut_bool kq _) trodAll_mk0) (fun sp h=>m u hb sp (fun p hp=>h p (qZ _ hp))) (fun _ _=>rfl) rfl
  hb (ok_one (by kernel_rfl) rfl (okWide_bool_mk kq _))⟩
theorem reads(os:Os){H:Type}(enc:TypeId×Value->H):∃c,DataW.whole enc Tryz.prog ((World.laidAll Tryz.prog os Rows.houseFlowsAreRightUptoRow.laid).forCall (fun _ _=>0) ⟨#[],#[.slice none 0 0,.slice none 0 0,.slice none 0 0],[]⟩).memory Tryz.f4.params.toList Rows.houseFlowsAreRightSpec.vars false (#[.slice none 0 0,.slice none 0 0,.slice none 0 0]:Array Value).toList 8=some ([.nil,.nil,.nil],[],c):=
 ⟨[],by kernel_rfl⟩
theorem lifted(os:Os)(c:os.Started)(H:Type)(enc:TypeId×Value->H)(F:Stop.Interp):
  ReturnsInHanded {} Tryz.checked os 4 .any ((Rows.OpenSpec.upto Rows.houseFlowsAreRightSpec).preRow enc Tryz.prog Tryz.f4 Rows.houseFlowsAreRightUptoRow.domain false Rows.houseFlowsAreRightUptoRow.laid) (((Rows.OpenSpec.upto Rows.houseFlowsAreRightSpec).at F).post enc Tryz.prog Tryz.f4 false true false false):=by
 obtain⟨places,z⟩:=reads os enc;refine returnsInHanded_of_row (C:=Tryz.checked) (s:=Rows.OpenSpec.upto Rows.houseFlowsAreRightSpec) own c (by kernel_rfl) Tryz.func4
  (qG (enc:=enc) (C:=Tryz.checked) (World.laidAll Tryz.prog os Rows.houseFlowsAreRightUptoRow.laid) #[.slice none 0 0,.slice none 0 0,.slice none 0 0] (World.laidAll_os _ _ _) (World.shaped_of_ZipB (by kernel_rfl) (by kernel_rfl)) (by kernel_rfl)
   (OpenSpec.preRow_of_cond 8 z (by kernel_rfl) (fun k D=>by cases D;kernel_rfl) (by kernel_rfl)
    (by rw[MakeChecks.laidMetH_plain _ _ _ (by kernel_rfl)];exact laidMet_laidAll _ (by kernel_rfl) (by kernel_rfl)))) ?_
 intro W base args ds gs before m G _ I _ J u _;exact Fq H enc W base args ds gs before m G (I _ rfl) (J6 J u)
theorem J7:laidOutB Tryz.prog=true:=by kernel_rfl
theorem Hl:mapsRowed Tryz.prog=true:=by kernel_rfl
theorem J8:(Rows.houseFlowsAreRightUptoRow.inPlace==Tryz.prog.inPlace 4)=true:=by kernel_rfl
theorem MN:(Rows.houseFlowsAreRightUptoRow.unfollowed==Tryz.prog.unfollowed 4)=true:=by kernel_rfl
theorem MO:(Rows.houseFlowsAreRightUptoRow.recurses==Tryz.prog.recurses 4)=true:=by kernel_rfl
theorem Hm:(Rows.houseFlowsAreRightUptoRow.named==Tryz.prog.varsNamed 4)=true:=by kernel_rfl
theorem MP:(Rows.houseFlowsAreRightUptoRow.plainKeys==Tryz.prog.plainKeys)=true:=by kernel_rfl
theorem Ho:Tryz.prog.stopsHeard=true:=by kernel_rfl
theorem Hp:Tryz.prog.mayEnter=true:=by kernel_rfl
theorem J9:(Rows.houseFlowsAreRightUptoRow.lifted==Tryz.prog.liftsFinal)=true:=by kernel_rfl
theorem J_:(Tryz.prog.make==some Rows.houseFlowsAreRightUptoRow.make)=true:=by kernel_rfl
theorem Ka:false=Rows.houseFlowsAreRightUptoRow.goesBy Tryz.prog:=by kernel_rfl
theorem Hq:true=Tryz.prog.looks []:=by kernel_rfl
theorem PC:Rows.houseFlowsAreRightUptoRow.wfByText (Rows.OpenSpec.upto Rows.houseFlowsAreRightSpec)=true:=by kernel_rfl
theorem Kb:joinedFacts Tryz.prog 4 Tryz.f4 (Rows.OpenSpec.upto Rows.houseFlowsAreRightSpec).bare Rows.houseFlowsAreRightUptoRow=true:=
 s8 J7 Hl J8 MN MO Hm MP Ho Hp J9 J_ (by kernel_rfl)
theorem Fs:Rows.HouseFlowsAreRightUptoSaid:=
 OpenClaim.holds_of_cond 4 Tryz.f4 rfl rfl rfl rfl rfl rfl rfl ⟨rfl,rfl,rfl,rfl,rfl⟩ rfl rfl rfl rfl rfl (by kernel_rfl) Tryz.func4 Kb
  (ov (by kernel_rfl)) (by unfold Func.isWrapper;first | (rw[ae (by decide +kernel)];kernel_rfl) | (rw[af (by decide +kernel)];exact⟨rfl,rfl⟩))
  (fun os c H enc _ F=>by rw[OpenClaim.pre_eq_preRow];exact lifted os c H enc F)
theorem plain(f:FuncId)(fn:Func)(z:Tryz.pinned.checked.prog.funcNamed Rows.houseFlowsAreRightUptoRow.func=some f)(c:Tryz.pinned.checked.prog.funcs[f]?=some fn):
  true=Tryz.pinned.checked.prog.looks []/\∀(j:Nat) t,fn.params[j]?=some t->Tryz.pinned.checked.prog.wantsStandIn t=false:=by
 obtain rfl:f=4:=Option.some.inj ((show Tryz.prog.funcNamed Rows.houseFlowsAreRightUptoRow.func=some 4 by kernel_rfl).symm.trans z) |>.symm;obtain rfl:fn=Tryz.f4:=(Option.some.inj (Tryz.func4.symm.trans c)).symm;refine⟨Hq,fun j t m=>?_⟩;rw[Tryz.params4]at m;have D:=qI m;have G:((Tryz.f4.params.toList).all fun u=>!Tryz.prog.wantsStandIn u)=true:=by kernel_rfl
 exact (show Tryz.prog.wantsStandIn t=false by simpa using cC.1 G t (by rw[Tryz.params4];simpa using D))
theorem cardUpto:Rows.HouseFlowsAreRightUptoCardSaid:=
 Claim7.holds_tied_plain_at .later [] _ _ _ _ Fs (fun _ h=>by cases h) PC (fun _ h=>by cases h) houseFlowsAreRightUpto_row_tie rfl ⟨rfl,rfl⟩ (by kernel_rfl) rfl plain Ka
end houseFlowsAreRight
end Go.Proofs.YtedjhhieekileaaGreatDoor
