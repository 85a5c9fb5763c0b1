/- Part 11 of the proof of RulesAllMatchSpec. -/
import Derived.Test.YtfloceomobknoaaGreatDoorA10
set_option linter.unusedVariables false
set_option linter.unusedSimpArgs false
set_option maxRecDepth 100000
set_option maxHeartbeats 8000000
namespace Go
abbrev adN:=@List.length_eq_zero_iff
abbrev aeg:=@List.Nodup.length_le_of_subset
abbrev adj:=@List.length_pos_iff
end Go
namespace Go.Proofs.YtfloceomobknoaaGreatDoor
namespace M
open Reg (ae an aS fS Piece BR bE cv told aB bO aa through fT afd aC E1 bN uo nM a_ coreS at' jn aP cQ jm bB bG mG)
theorem Fs{a:fS}(h:dc a=0):iD a/\Reg.eG a=true/\Reg.da a.bores 0=false:=by
 unfold dc at h;split at h
 ·cases h
 rename_i g1;split at h
 ·cases h
 rename_i g2;split at h
 ·rename_i g;exact absurd h g
 rename_i I;have I:Reg.db a.coppers=0:=by simpa using I
 split at h
 ·rename_i g;exact absurd h g
 rename_i J;have J:Reg.aF a.outline=0:=by simpa using J
 split at h
 ·cases h
 split at h
 ·rename_i g;exact absurd h g
 rename_i z;have z:Reg.bT a=0:=by simpa using z
 split at h
 ·rename_i g;exact absurd h g
 rename_i D;have D:c8 a=0:=by simpa using D
 split at h
 ·cases h
 rename_i L;split at h
 ·rename_i N;have O:a.bores.length<=500:=by
   unfold Reg.bT at z;split at z
   ·cases z
   omega
  have R:Reg.c_ a.coppers.length a.bores=0:=by rwa [Reg.bT,aaa (by omega)]at z
  refine⟨⟨⟨by omega,by omega⟩,Reg.jo I,J,O,Reg.sM R,?_⟩,N,by simpa using L⟩;unfold c8 at D;split at D
  ·cases D
  omega
 cases h
structure VD(a:fS)(p:Piece):Prop where
 sok:bE p.set
 ink:cv 1000000 p.set
 ne:p.set≠[]
 jB:(told p.set).length<=2000
 lo:0<=p.layer
 hi:p.layer<a.coppers.length
structure Ft(a:fS):Prop where
 art:iD a
 jB:(aC a).pieces.length<=2000
 pc:∀p∈(aC a).pieces,VD a p
 two:∀(i j:Nat) p q,(aC a).pieces[i]?=some p->(aC a).pieces[j]?=some q->i<j->p.layer=q.layer->Reg.O7 p q
 gr:mG a.bores (aC a).pieces.length (((aC a).ofPiece,(aC a).ofBore),(jn a.bores (aC a).pieces.length (aP (cQ (jm (aC a).pieces.length a.bores.length (aC a).bB)) ((aC a).pieces.length+a.bores.length))).2)
theorem jv{a:fS}(z:iD a):∀b∈a.bores,bO b=true:=fun b hb=>ky (z.bor b hb)
theorem jW{a:fS}(h:dc a=0):Ft a:=by
 obtain⟨D,I,_⟩:=Fs h;have J:∀(n:Nat) r,a.coppers[n]?=some r->SO (Reg.bU a.bores (0+n) r):=fun n r L=>jV (jv D) D.jB _ (D.reg r (aad L));rw[Reg.eG,aaZ,aaH]at I;refine⟨D,I.2,fun p hp=>?_,fun i j p q hp O R U=>Reg.PR (fun n r L=>(J n r L).sok) I.1 hp O R U,?_⟩
 ·obtain⟨n,r,z,h2,N⟩:=Reg.mH hp;have hn:=(aao.1 z).1;obtain⟨V,W,_,Y⟩:=Reg.rD (J n r z).sok N;refine⟨V,Y _ (J n r z).ink,W,?_,by omega,by omega⟩;have zA:=Reg.xR I.1 n r z;obtain⟨l,hl,e⟩:=adS.1 N;have Z:=(Reg.afp hl).2;have s1:=Reg.vN (J n r z).sok Z;obtain⟨k,hk⟩:=List.getElem?_of_mem hl;have s2:=Reg.NG hk;rw[<-e];omega
 have ht:∀x∈bB a.bores (bG a.bores 0 a.coppers),∀p∈x,0<=p/\p<((bG a.bores 0 a.coppers).length:Int):=fun x hx p hp=>by
  obtain⟨b,_,rfl⟩:=adS.1 hx;have:=Reg.rE b (bG a.bores 0 a.coppers) 0 p hp;omega
 have hl:(bB a.bores (bG a.bores 0 a.coppers)).length=a.bores.length:=by rw[Reg.bB,aej]
 obtain⟨u1,u2⟩:=Reg.qM (n:=(bG a.bores 0 a.coppers).length) (nb:=a.bores.length) (bB a.bores (bG a.bores 0 a.coppers)) 0 (Reg.iota ((bG a.bores 0 a.coppers).length+a.bores.length)) (Reg.ny _) (Reg.aeM _) (by omega) ht;exact Reg.vL u1 u2
theorem agx{r:cP}(z:zd r)(x:ByteArray):0<=E3 r x/\E3 r x<=100000:=by
 have D:=z.nums;simp only[gM,cL,aaZ,aaH]at D;rw[E3];split
 ·rename_i h;refine⟨by omega,?_⟩;rw[aeR]at h ⊢;cases e:r.classes.find? fun c=>hasB c.nets x&&!decide (x=M4) with
  | none=>rw[e]at h;simp[agP]at h
  | some c=>
   have:=(z.cl c (List.mem_of_find?_eq_some e)).2.2.2.2;simp only[cL,aaZ,aaH]at this;exact this.2
 exact⟨by omega,by omega⟩
def kU(a b:Break):Prop:=a.kind=b.kind/\a.a=b.a/\a.b=b.b/\a.is=b.is
def Has(l m:List Break):Prop:=∀b∈l,∃c∈m,kU b c
theorem Has.nil(m:List Break):Has [] m:=fun b hb=>by cases hb
theorem KT{own c:List an}(D:bE own)(I:bE c){n:Int}(z:0<=n):bE (jr own c n)/\∀x y,at' (jr own c n) x y=((at' (a_ own n n n n) x y&&!at' own x y)&&!at' c x y):=by
 obtain⟨J,_,_⟩:=Reg.bW D z z z z;obtain⟨l1,l2,_⟩:=Reg.b6 J D;obtain⟨L,N,_⟩:=Reg.b6 l1 I;exact⟨L,fun x y=>by rw[jr,N,l2]⟩
theorem Jc{bs:List aS}{i:Nat}{layer:Int}:∀(t:List aS) (k:Nat) (s:List an),(∀b∈t,bO b=true)->bE s->cv 2000000 s->bE (dM bs i layer k t s)/\cv 2000000 (dM bs i layer k t s)
 | [],k,s,_,h,hk=>⟨h,hk⟩
 | y::t,k,s,hb,h,hk=>by
  rw[dM];refine Jc t (k+1) _ (fun b h=>hb b (aaw _ h)) ?_ ?_
  ·split
   ·exact (Reg.kH h (Reg.aR (l:=[aa y]) (fun q z=>by rw[ab_]at z;subst z;exact Reg.bX (hb y adU))).1).1
   exact h
  split
  ·have D:=Reg.aR (l:=[aa y]) (fun q z=>by rw[ab_]at z;subst z;exact Reg.bX (hb y adU));refine (Reg.kH h D.1).2.2 2000000 hk (D.2.2 2000000 fun q z=>?_);rw[ab_]at z;subst z;obtain⟨a1,a2,a3,a4⟩:=Reg.er (hb y adU);exact⟨by omega,by omega,by omega,by omega⟩
  exact hk
theorem gz{b:aS}(h:bO b=true):bE (aB [aa b])/\cv 1010000 (aB [aa b]):=by
 have D:=Reg.aR (l:=[aa b]) (fun q z=>by rw[ab_]at z;subst z;exact Reg.bX h);refine⟨D.1,D.2.2 _ fun q z=>?_⟩;rw[ab_]at z;subst z;exact Reg.er h
theorem xS{l:List ae}(h:Reg.aF l=0):bE (aB l)/\cv 1000000 (aB l):=by
 have h:=ph h;have hb:=Reg.aR h.full;exact⟨hb.1,hb.2.2 _ h.rk⟩
theorem HH{a:fS}(D:iD a)(i:Nat)(layer:Int):bE (fF a.bores a.coppers i layer)/\cv 2000000 (fF a.bores a.coppers i layer):=by
 refine Jc _ _ _ (jv D) ?_ ?_
 ·rw[ad4];cases e:a.coppers[layer.toNat]? with
  | none=>exact (Reg.aR (l:=[]) fun q z=>by cases z).1
  | some r=>exact (xS (D.reg r (aad e))).1
 rw[ad4];cases e:a.coppers[layer.toNat]? with
 | none=>exact (Reg.aR (l:=[]) fun q z=>by cases z).2.2 _ (fun q z=>by cases z)
 | some r=>
  exact Reg.cv.up (by omega) (xS (D.reg r (aad e))).2
end M
end Go.Proofs.YtfloceomobknoaaGreatDoor
namespace Go.AM
theorem au.SX{A:cD}(hC:bI A.C)(s:AS)(id j:Nat)(f:FuncId)(z:List PV)(cs:List AV)(hb:s.h id=.box cs)(L:cs[j]?=some (.fn f (z.map .p))):au A s ⟨s.t,aT s.h id (.box (cs.set j (.p (.fn f z))))⟩:=by
 intro S rho a w D;refine⟨S,rho,D.write hC id trivial (by rw[hb];trivial) _ (fun _ h=>by cases h) w rfl rfl rfl rfl (fun _ _=>rfl) fun T=>?_⟩;have N:=D.hp id trivial;rw[hb]at N;obtain⟨g,V,c,W,Y,Z,O⟩:=N;refine⟨g,V,c,W,Y,by rw[Z,aaM],fun q x u hi R=>?_⟩;by_cases U:q=j
 ·subst U;rw[ab7 (aD L)]at hi;injection hi with hi;subst hi;obtain⟨I,J⟩:=O q _ u L R;refine⟨I,?_⟩;have k7:aO S w (.fn f z) u:=by
   cases J with
   | fn _ _ vs hl hc=>
    refine .fn f z vs (by rw[<-hl,aej]) fun i x v hx hv=>?_;have:=hc i (.p x) v (by rw[aak,hx];rfl) hv;cases this with
    | p _ _ h=>exact h
  exact (aY.p _ _ k7).cK T
 rw[ac5 (fun e=>U e.symm)]at hi;obtain⟨I,J⟩:=O q x u hi R;exact⟨I,J.cK T⟩
theorem eL.ZJ{S S':Nat->Prop}{w:World}{P:Program}:∀{xs:List PV} {vs:List Value},eL S w P (xs.map .pv) [] vs->eL S' w P (xs.map .pv) [] vs
 | [],[],h=>h
 | [],_::_,h=>h
 | _::_,[],h=>h
 | _::xs,_::vs,h=>eL.ZJ (xs:=xs) (vs:=vs) h
theorem af.jA{C:Ctx}{f:FuncId}{xs:List PV}{e:TypeId}{es:List (List PV)}(h:af C f (xs.map .pv) (.own e es) []):af C f (xs.map .pv) (.p (.sl es)) []:=by
 refine⟨h.1,fun S w vs D hS hl I J=>(h.2 S w vs D hS hl I J).mono ?_⟩;rintro e' w' ⟨v,S',rfl,fr,L,N,O,R,U,V,z⟩;have W:aG C.P w' (aO S' w') e es v:=R.1;refine⟨v,fun b=>S' b\/cC v=some b,rfl,fr,fun b hb=>.inl (L b hb),fun b hb=>?_,fun b hb=>?_,W.DT (fun b h=>.inl h) (fun g h=>.inr h),eL.ZJ U,V,fun g Y=>by cases Y⟩
 ·rcases hb with hb | hb
  ·exact N b hb
  exact (z b rfl (DM hb)).1
 rcases hb with hb | hb
 ·exact O b hb
 exact .inr (z b rfl (DM hb)).2.1
end Go.AM
namespace Go.Proofs.YtfloceomobknoaaGreatDoor
namespace M
open Go.AM Go.RowKit Go.Lib
open Reg (ae an aS fS Piece BR bE cv told aB bO aa through aC E1 bN uo nM a_ coreS)
theorem zG{l:List ae}(h:Nf l):af C 34 [.pv (aj l)] (.p (aw (aB l))) []:=af.jA (xs:=[aj l]) (BB h)
theorem zH{b:aS}(h:bO b=true):af C 34 [.pv (aj [aa b])] (.p (aw (aB [aa b]))) []:=af.jA (xs:=[aj [aa b]]) (kG [aa b] 1010000 (by omega) (by omega) (fun q z=>by rw[ab_]at z;subst z;exact Reg.bX h) (fun q z=>by rw[ab_]at z;subst z;exact Reg.er h) (by simp))
theorem open_1(s:ByteArray)(z:ue s):af C 150 [.pv (str s)] (.p (bool (!afe s))) []:=by
 refine fW hC Tryz.func150 rfl (by kernel_rfl) fun _=>?_;refine⟨_,_,(agt s z),?_,trivial⟩;rfl
theorem agI(l:List ByteArray)(hN:l.length<=140737488355328)(N:∀s∈l,ue s):af C 210 [.pv (strs l),.pv (vA 150)] (.p (i64 (jO (fun s=>!afe s) l 0))) []:=by
 refine fW hC Tryz.func210 rfl (by kernel_rfl) fun _=>?_;have J:=ai l fun s=>[str s];refine aJ (fun i:Nat=>i<=l.length/\∀z∈l.take i,(!afe z)=false) (fun i=>[(0,.p (strs l)),(1,.p (vA 150)),(7,.p (i64 (l.map fun s=>[str s]).length)),(8,.p (i64 i))]) (fun _=>[]) (fun i=>l.length-i) 0 _ (au.refl _ _) ⟨aaj _,by simp⟩ ⟨Z,Z,Z,Z,Y⟩ trivial fun i hi t h=>?_;apply iW<;>intro L
 ·rw[J]at L;obtain⟨r,I⟩:=ak (l:=l) (i:=i) (by omega);refine⟨[str r],(idx rfl I),_,_,(open_1 r (N r (aad I))),iW ?_ ?_⟩<;>intro D
  ·have D:(!afe r)=true:=by simpa using D
   refine⟨?_,trivial⟩;rw[lY (p:=fun s=>!afe s) I D hi.2,abC]
  have D:(!afe r)=false:=by simpa using D
  exact⟨wO (by omega),(i+1),_,au.refl _ _,⟨by omega,tW (p:=fun s=>!afe s) I D hi.2⟩,by omega,⟨Z,Z,Z,Z,Y⟩,trivial⟩
 rw[J]at L;refine⟨?_,trivial⟩;have D:=hi.2;rw[adW (by omega)]at D;rw[iV (p:=fun s=>!afe s) D];rfl
theorem aga(l:List ByteArray)(z:l.length<=140737488355328)(D:∀s∈l,ue s):af C 149 [.pv (strs l),.pv (vA 150)] (.p (bool (l.any fun s=>!afe s))) []:=by
 refine fW hC Tryz.func149 rfl (by kernel_rfl) fun _=>?_;refine⟨_,_,(agI l z D),?_,trivial⟩;rw[<-oX _ l 0];rfl
def agl(r:cP)(a:fS)(nets:List ByteArray):PV:=if aeJ r a nets=0 then .ip (kW a) else .im (.pointer none)
structure afj(l:List ByteArray):Prop where
 len:l.length<=1000000000
 str:∀s∈l,ue s
theorem agJ(r:cP)(N:e8 r)(a:fS)(O:ly a)(nets:List ByteArray)(J:afj nets):af C 69 [.pv (.ag (rl r)),.pv (.ag (dX a)),.pv (strs nets)] (.tu [agl r a nets,i64 (aeJ r a nets)]) []:=by
 have ln:=ai nets fun s=>[str s];have lg:=ai (aC a).placed.groups sT;have hn1:=J.len;obtain⟨F,z⟩:∃F,F=aeJ r a nets:=⟨_,rfl⟩;have R:agl r a nets=if F=0 then .ip (kW a) else .im (.pointer none):=by rw[z];rfl
 rw[R,<-z];rw[aeJ]at z;refine fW hC Tryz.func69 rfl (by kernel_rfl) fun _=>?_;refine⟨_,_,(jQ r N),iW ?_ ?_⟩<;>intro D
 ·have D:bC r≠0:=by simpa using D
  rw[aap D]at z;refine⟨?_,trivial⟩;rw[z,aaa D]
 have D:bC r=0:=by simpa using D
 rw[aaa (by simpa using D)]at z;have I:=Fp a O;by_cases g:dc a=0
 ·rw[Jb,aap g,g]at I;rw[aaa (by simpa using g)]at z;have gd:=jW g;refine⟨_,_,I,iW ?_ ?_⟩<;>intro g2
  ·rw[aap (by omega)]at z;refine⟨?_,trivial⟩;rw[z];rfl
  rw[aaa (by omega)]at z;refine⟨_,_,(aga nets (by omega) J.str),iW ?_ ?_⟩<;>intro L
  ·rw[aap L]at z;refine⟨?_,trivial⟩;rw[z];rfl
  rw[aaa (by simpa using L)]at z;refine⟨?_,trivial⟩;rw[z];rfl
 rw[Jb,aaa g]at I;rw[aap g]at z;refine⟨_,_,I,iW ?_ ?_⟩<;>intro h
 ·refine⟨?_,trivial⟩;rw[z,aaa g]
 exact absurd (by simpa using h) g
theorem len_nil{s:List an}:decide (((s.map hb).length:Int)=0)=decide (s=[]):=by
 cases s with
 | nil=>rfl
 | cons b s=>simp;omega
theorem ahd(p:Piece)(z:bE p.set)(ks:cv 1000000 p.set)(n:Int)(D:0<=n)(I:n<=100000):af C 153 [.pv (i64 n),.pv (.ip (jb p))] (.p (bool (decide (E1 p.set n=[])))) []:=by
 refine fW hC Tryz.func153 rfl (by kernel_rfl) fun _=>?_;refine⟨_,_,(afY p.set z ks n D I),?_,trivial⟩;rw[len_nil];rfl
theorem PS(p:Piece)(o:List an)(L:bE p.set)(ks:cv 1000000 p.set)(D:bE o)(J:cv 1000000 o)(n:Int)(z:0<=n)(N:n<=100000):af C 134 [.pv (i64 n),.pv (.ip (jb p)),.pv (.ip [aw o])] (.p (bool (decide (bN p.set (coreS o n n n n)=[])))) []:=by
 have I:=Reg.pe D z z z z;have O:=Dd I.1 D J fun x y R=>(I.2.1 x y).1 R x y (by omega) (by omega) (by omega) (by omega);refine fW hC Tryz.func134 rfl (by kernel_rfl) fun _=>?_;refine⟨_,_,(zt o D J n z N),_,_,(Nh p.set (coreS o n n n n) L I.1 (ks.up (by omega)) (O.up (by omega))),?_,trivial⟩;rfl
theorem Jd(own c:List an)(z:bE own)(L:cv 1010000 own)(O:bE c)(kc:cv 2000000 c)(n:Int)(D:0<=n)(I:n<=100000):af C 125 [.pv (i64 n),.pv (.ip [aw own]),.pv (.ip [aw c])] (.p (aw (jr own c n))) []:=by
 obtain⟨N,_,J⟩:=Reg.bW z D D D D;have J:=J 1010000 100000 L I I I I;obtain⟨l1,_,_⟩:=Reg.b6 N z;have R:=I1 N z J;refine fW hC Tryz.func125 rfl (by kernel_rfl) fun _=>?_;refine⟨_,_,(Hk own z (L.up (by omega)) n D I),_,_,(iJ (a_ own n n n n) own N z (J.up (by omega)) (L.up (by omega))),_,_,(iJ (bN (a_ own n n n n) own) c l1 O (R.up (by omega)) kc),?_,trivial⟩;rfl
def vO(own c:List an):PV:=.fn 125 [.ip [aw own],.ip [aw c]]
theorem PT(own c:List an)(z:bE own)(D:cv 1010000 own)(I:bE c)(kc:cv 2000000 c)(n:Int)(J:0<=n)(L:n<=100000):af C 128 [.pv (i64 n),.pv (.ip [vO own c])] (.p (bool (decide (n<0)||decide (jr own c n=[])))) []:=by
 refine fW hC Tryz.func128 rfl (by kernel_rfl) fun _=>?_;apply iW<;>intro g
 ·omega
 refine⟨_,_,(Jd own c z D I kc n J L),?_,trivial⟩;rw[len_nil,aaz g,abv];rfl
theorem agm(p:Piece)(J:bE p.set)(ks:cv 1000000 p.set)(z:Int)(h0:0<=z)(h1:z<=100000):af C 127 [.pv (i64 z),.pv (.fn 153 [.ip (jb p)])] (.p (i64 (dL (fun n=>decide (E1 p.set n=[])) z))) []:=by
 refine fW hC Tryz.func127 rfl (by kernel_rfl) fun _=>?_;obtain⟨H,D⟩:∃H:Int->Bool,H=fun n=>decide (E1 p.set n=[]):=⟨_,rfl⟩;rw[<-D];have L:∀n,0<=n->n<=100000->af C 153 [.pv (i64 n),.pv (.ip (jb p))] (.p (bool (H n))) []:=fun n a b=>by rw[D];exact ahd p J ks n a b
 refine aJ (fun x:Nat×Int×Int=>gn H x.1 x.2.1 x.2.2=dL H z/\(x.2.2-x.2.1).toNat<=x.1/\-1<=x.2.1/\x.2.1<=x.2.2/\x.2.2<=z) (fun x=>[(1,.p (.fn 153 [.ip (jb p)])),(5,.p (i64 x.2.1)),(6,.p (i64 x.2.2))]) (fun _=>[]) (fun x=>x.1) ((z+1).toNat,-1,z) _ (au.refl _ _) ⟨rfl,by simp only;omega,by simp only;omega,by simp only;omega,by simp only;omega⟩ ⟨Z,Z,Z,Y⟩ trivial fun ⟨n,low,high⟩ N t h=>?_;obtain⟨x1,I,O,R,U⟩:=N;simp only at x1 I O R U;apply iW<;>intro g<;>try simp only[zB]at g
 ·have hf:=pA (d:=high-low) (by omega);rw[nB H g I]at x1;refine⟨⟨by dsimp only;omega,by dsimp only;omega⟩,⟨by dsimp only;omega,by dsimp only;omega⟩,by decide,⟨by dsimp only;omega,by dsimp only;omega⟩,⟨by dsimp only;omega,by dsimp only;omega⟩,_,_,(L (low+(high-low+1).tdiv 2) (by omega) (by omega)),iW ?_ ?_⟩<;>intro k
  ·rw[aap k]at x1;exact⟨(n-1,low+(high-low+1).tdiv 2,high),_,au.refl _ _,⟨x1,by simp only;omega,by simp only;omega,by simp only;omega,by simp only;omega⟩,by simp only;omega,⟨Z,Z,Z,Y⟩,trivial⟩
  rw[aaa (by simpa using k)]at x1;exact⟨⟨by dsimp only;omega,by dsimp only;omega⟩,(n-1,low,low+(high-low+1).tdiv 2-1),_,au.refl _ _,⟨x1,by simp only;omega,by simp only;omega,by simp only;omega,by simp only;omega⟩,by simp only;omega,⟨Z,Z,Z,Y⟩,trivial⟩
 rw[pB H g]at x1;refine⟨?_,trivial⟩;rw[x1]
theorem Fu(p:Piece)(o:List an)(J:bE p.set)(ks:cv 1000000 p.set)(L:bE o)(N:cv 1000000 o)(z:Int)(h0:0<=z)(h1:z<=100000):af C 127 [.pv (i64 z),.pv (.fn 134 [.ip (jb p),.ip [aw o]])] (.p (i64 (dL (fun n=>decide (bN p.set (coreS o n n n n)=[])) z))) []:=by
 refine fW hC Tryz.func127 rfl (by kernel_rfl) fun _=>?_;obtain⟨H,D⟩:∃H:Int->Bool,H=fun n=>decide (bN p.set (coreS o n n n n)=[]):=⟨_,rfl⟩;rw[<-D];have O:∀n,0<=n->n<=100000->af C 134 [.pv (i64 n),.pv (.ip (jb p)),.pv (.ip [aw o])] (.p (bool (H n))) []:=fun n a b=>by rw[D];exact PS p o J ks L N n a b
 refine aJ (fun x:Nat×Int×Int=>gn H x.1 x.2.1 x.2.2=dL H z/\(x.2.2-x.2.1).toNat<=x.1/\-1<=x.2.1/\x.2.1<=x.2.2/\x.2.2<=z) (fun x=>[(1,.p (.fn 134 [.ip (jb p),.ip [aw o]])),(5,.p (i64 x.2.1)),(6,.p (i64 x.2.2))]) (fun _=>[]) (fun x=>x.1) ((z+1).toNat,-1,z) _ (au.refl _ _) ⟨rfl,by simp only;omega,by simp only;omega,by simp only;omega,by simp only;omega⟩ ⟨Z,Z,Z,Y⟩ trivial fun ⟨n,low,high⟩ R t h=>?_;obtain⟨x1,I,U,V,W⟩:=R;simp only at x1 I U V W;apply iW<;>intro g<;>try simp only[zB]at g
 ·have hf:=pA (d:=high-low) (by omega);rw[nB H g I]at x1;refine⟨⟨by dsimp only;omega,by dsimp only;omega⟩,⟨by dsimp only;omega,by dsimp only;omega⟩,by decide,⟨by dsimp only;omega,by dsimp only;omega⟩,⟨by dsimp only;omega,by dsimp only;omega⟩,_,_,(O (low+(high-low+1).tdiv 2) (by omega) (by omega)),iW ?_ ?_⟩<;>intro k
  ·rw[aap k]at x1;exact⟨(n-1,low+(high-low+1).tdiv 2,high),_,au.refl _ _,⟨x1,by simp only;omega,by simp only;omega,by simp only;omega,by simp only;omega⟩,by simp only;omega,⟨Z,Z,Z,Y⟩,trivial⟩
  rw[aaa (by simpa using k)]at x1;exact⟨⟨by dsimp only;omega,by dsimp only;omega⟩,(n-1,low,low+(high-low+1).tdiv 2-1),_,au.refl _ _,⟨x1,by simp only;omega,by simp only;omega,by simp only;omega,by simp only;omega⟩,by simp only;omega,⟨Z,Z,Z,Y⟩,trivial⟩
 rw[pB H g]at x1;refine⟨?_,trivial⟩;rw[x1]
theorem Fv(own c:List an)(J:bE own)(L:cv 1010000 own)(N:bE c)(kc:cv 2000000 c)(z:Int)(h0:0<=z)(h1:z<=100000):af C 127 [.pv (i64 z),.pv (.fn 128 [.ip [vO own c]])] (.p (i64 (dL (fun n=>decide (n<0)||decide (jr own c n=[])) z))) []:=by
 refine fW hC Tryz.func127 rfl (by kernel_rfl) fun _=>?_;obtain⟨H,D⟩:∃H:Int->Bool,H=fun n=>decide (n<0)||decide (jr own c n=[]):=⟨_,rfl⟩;rw[<-D];have je:∀n,0<=n->n<=100000->af C 128 [.pv (i64 n),.pv (.ip [vO own c])] (.p (bool (H n))) []:=fun n a b=>by rw[D];exact PT own c J L N kc n a b
 refine aJ (fun x:Nat×Int×Int=>gn H x.1 x.2.1 x.2.2=dL H z/\(x.2.2-x.2.1).toNat<=x.1/\-1<=x.2.1/\x.2.1<=x.2.2/\x.2.2<=z) (fun x=>[(1,.p (.fn 128 [.ip [vO own c]])),(5,.p (i64 x.2.1)),(6,.p (i64 x.2.2))]) (fun _=>[]) (fun x=>x.1) ((z+1).toNat,-1,z) _ (au.refl _ _) ⟨rfl,by simp only;omega,by simp only;omega,by simp only;omega,by simp only;omega⟩ ⟨Z,Z,Z,Y⟩ trivial fun ⟨n,low,high⟩ O t h=>?_;obtain⟨x1,I,R,U,V⟩:=O;simp only at x1 I R U V;apply iW<;>intro g<;>try simp only[zB]at g
 ·have hf:=pA (d:=high-low) (by omega);rw[nB H g I]at x1;refine⟨⟨by dsimp only;omega,by dsimp only;omega⟩,⟨by dsimp only;omega,by dsimp only;omega⟩,by decide,⟨by dsimp only;omega,by dsimp only;omega⟩,⟨by dsimp only;omega,by dsimp only;omega⟩,_,_,(je (low+(high-low+1).tdiv 2) (by omega) (by omega)),iW ?_ ?_⟩<;>intro k
  ·rw[aap k]at x1;exact⟨(n-1,low+(high-low+1).tdiv 2,high),_,au.refl _ _,⟨x1,by simp only;omega,by simp only;omega,by simp only;omega,by simp only;omega⟩,by simp only;omega,⟨Z,Z,Z,Y⟩,trivial⟩
  rw[aaa (by simpa using k)]at x1;exact⟨⟨by dsimp only;omega,by dsimp only;omega⟩,(n-1,low,low+(high-low+1).tdiv 2-1),_,au.refl _ _,⟨x1,by simp only;omega,by simp only;omega,by simp only;omega,by simp only;omega⟩,by simp only;omega,⟨Z,Z,Z,Y⟩,trivial⟩
 rw[pB H g]at x1;refine⟨?_,trivial⟩;rw[x1]
end M
end Go.Proofs.YtfloceomobknoaaGreatDoor
namespace Go.AM
open Go.RowKit Go.ChangeShapes
section
variable {H:Type} {enc:TypeId×Value->H} {P:Program} {w:World} {S:Nat->Prop}
theorem NH{t:TypeId}(z:P.underlying t=some .bool):IK enc P w S t 1 fun xs d=>∃b:Bool,xs=[.im (.bool b)]:=fun n cs x h=>by
 obtain⟨b,rfl,rfl⟩:=DataW.trod_bool z h;exact⟨[.im (.bool b)],rfl,rfl,one_cell ⟨.im _,rfl⟩,b,rfl⟩
def nE(S:Nat->Prop)(w:World)(o:Nat)(xs:List PV)(cs:List Value):Prop:=∀(i:Nat) c v,xs[i]?=some c->cs[o+i]?=some v->aO S w c v/\v.oneCell'=true
theorem nE.join{o:Nat}{xs ys:List PV}{cs:List Value}(h:nE S w o xs cs)(k:nE S w (o+xs.length) ys cs):nE S w o (xs++ys) cs:=fun i c v z D=>by
 by_cases e:i<xs.length
 ·rw[aaE e]at z;exact h i c v z D
 rw[acu (by omega)]at z;refine k (i-xs.length) c v z ?_;rw[<-D];congr 1;omega
theorem zI{t:TypeId}{z:Array Field}(N:P.underlying t=some (.struct z))(ks:Nat->Nat)(hk:∀(i:Nat) (f:Field),z[i]?=some f->P.cellsOf f.type=ks i)(Qs:Nat->List PV->DataW H->Prop)(O:∀(i:Nat) (f:Field),z[i]?=some f->IK enc P w S f.type (ks i) (Qs i)){n:Nat}{cs:List Value}{x:DataW H×List MemPlace}(h:DataW.trod enc P w 0 (fun _=>true) true n t cs=some x):
  cs.length=P.cellsOf t/\∃ds:List (DataW H),x.1=.agg ds/\ds.length=z.size/\∀(i:Nat) (f:Field),z[i]?=some f->∃xs d,xs.length=ks i/\nE S w f.offset xs cs/\ds[i]?=some d/\Qs i xs d:=by
 obtain⟨ys,m,_,rfl,hl,hlen,R⟩:=DataW.trod_struct N h;refine⟨hl,ys.map (·.1),rfl,by rw[aej,hlen],fun i f D=>?_⟩;have hi:i<z.size:=(ab9.1 D).1;have I:=R i f D;have J:ys[i]?=some ys[i]:=acg (by omega);rw[J,hk i f D]at I;obtain⟨xs,l1,l2,U,V⟩:=O i f D _ _ _ I;refine⟨xs,ys[i].1,l1,fun j c v L W=>U j c v L ?_,by rw[aak,J];rfl,V⟩;have hj:=(aao.1 L).1;rw[aa0 (by omega),aas];exact W
end
end Go.AM
namespace Go.Proofs.YtfloceomobknoaaGreatDoor
namespace M
open Go.AM Go.RowKit Go.Lib
open Reg (ae aU an aS fo fS)
variable {H:Type} {enc:TypeId×Value->H} {w:World} {S:Nat->Prop}
theorem Yk:Sp enc w S 4 1 (fun b=>[bool b]) fun _ _=>True:=fun n cs x h=>by
 obtain⟨xs,l1,l2,z,b,e⟩:=NH (S:=S) acm n cs x h;exact⟨xs,l1,l2,z,b,e,trivial⟩
def SY(P:Program)(fs:Array Field)(ks:Nat->Nat):Bool:=(List.range fs.size).all fun i=>match fs[i]? with
 | some f=>Nat.beq (P.cellsOf f.type) (ks i)
 | none=>true
theorem Fw{P:Program}{z:Array Field}{ks:Nat->Nat}(h:SY P z ks=true):∀(i:Nat) (f:Field),z[i]?=some f->P.cellsOf f.type=ks i:=fun i f D=>by
 have hi:=(ab9.1 D).1;have:=abh.1 h i (abD.2 hi);rw[D]at this;exact aa2 this
theorem PU:Sp enc w S 95 6 bc fun _ _=>True:=fun n cs x h=>by
 obtain⟨hl,ds,e,ld,q⟩:=zI (S:=S) (ks:=fun i=>match i with | 0=>2 | _=>1) (hk:=Fw (by kernel_rfl)) (Qs:=fun i xs d=>match i with
   | 0=>∃p:Int×Int,xs=[i64 p.1,i64 p.2]/\True
   | 4=>∃b,xs=[bool b]/\True
   | _=>∃n,xs=[i64 n]/\True) Tryz.underlying95 (fun i f z=>by
  match i,z with
  | 0,z=>cases z;exact EL
  | 1,z=>cases z;exact sL
  | 2,z=>cases z;exact sL
  | 3,z=>cases z;exact sL
  | 4,z=>cases z;exact Yk
  | n+5,z=>cases z) h
 have hl:cs.length=6:=hl.trans (by kernel_rfl);obtain⟨x0,_,_,O,_,p,R,_⟩:=q 0 _ rfl;obtain⟨x1,_,_,U,_,I,e1,_⟩:=q 1 _ rfl;obtain⟨x2,_,_,V,_,J,e2,_⟩:=q 2 _ rfl;obtain⟨x3,_,_,W,_,L,e3,_⟩:=q 3 _ rfl;obtain⟨x4,_,_,r4,_,N,e4,_⟩:=q 4 _ rfl;cases R;cases e1;cases e2;cases e3;cases e4;have D:nE S w 0 ([i64 p.1,i64 p.2]++([i64 I]++([i64 J]++([i64 L]++[bool N])))) cs:=nE.join O (nE.join U (nE.join V (nE.join W r4)));exact⟨_,rfl,hl,fun i c v h1 h2=>D i c v h1 (by rw[abC];exact h2),⟨p.1,p.2,I,J,L,N⟩,Z,Y⟩
def zJ(l:fo)(n:Nat):Prop:=l.part.size<=n/\l.pin.size<=n
theorem qQ(l:fo)(m n:Nat)(h:m<=n):zJ l m->zJ l n:=fun ⟨z,D⟩=>⟨aaF z h,aaF D h⟩
theorem PX:Sp enc w S 201 5 lc zJ:=fun n cs x h=>by
 obtain⟨hl,ds,e,ld,q⟩:=zI (S:=S) (ks:=fun i=>match i with | 3=>2 | _=>1) (hk:=Fw (by kernel_rfl)) (Qs:=fun i xs d=>match i with
   | 0=>∃s,xs=[str s]/\s.size<=Rows.uptoBulk d
   | 1=>∃s,xs=[str s]/\s.size<=Rows.uptoBulk d
   | 2=>∃n,xs=[i64 n]/\True
   | _=>∃p:Int×Int,xs=[i64 p.1,i64 p.2]/\True) Tryz.underlying201 (fun i f z=>by
  match i,z with
  | 0,z=>cases z;exact Pz
  | 1,z=>cases z;exact Pz
  | 2,z=>cases z;exact sL
  | 3,z=>cases z;exact EL
  | n+4,z=>cases z) h
 have hl:cs.length=5:=hl.trans (by kernel_rfl);obtain⟨x0,y0',_,R,U,I,V,W⟩:=q 0 _ rfl;obtain⟨x1,y1',_,Y,Z,J,e1,b1⟩:=q 1 _ rfl;obtain⟨x2,_,_,r2,_,L,e2,_⟩:=q 2 _ rfl;obtain⟨x3,_,_,r3,_,p,e3,_⟩:=q 3 _ rfl;cases V;cases e1;cases e2;cases e3;have D:nE S w 0 ([str I]++([str J]++([i64 L]++[i64 p.1,i64 p.2]))) cs:=nE.join R (nE.join Y (nE.join r2 r3));have N:=nK U;have O:=nK Z;rw[<-e]at N O;exact⟨_,rfl,hl,fun i c v h1 h2=>D i c v h1 (by rw[abC];exact h2),⟨I,J,L,p.1,p.2⟩,rfl,aaF W N,aaF b1 O⟩
def Je(a:fS)(n:Nat):Prop:=a.coppers.length<=n/\(∀r∈a.coppers,r.length<=n)/\a.outline.length<=n/\a.bores.length<=n/\a.lands.length<=n/\∀l∈a.lands,zJ l n
theorem SZ(hS:∀b,b<w.heap.size->S b):Sp enc w S 27 4 dX Je:=fun n cs x h=>by
 obtain⟨xs,l1,l2,l3,ds,e,O,q⟩:=jP (S:=S) (Qs:=fun i xs d=>match i with
   | 0=>∃r:List (List ae),xs=[.sl (r.map fun q=>[aj q])]/\(r.length<=Rows.uptoBulk d/\∀c∈r,(c.length<=Rows.uptoBulk d/\∀z∈c,True))
   | 1=>∃r,xs=[aj r]/\(r.length<=Rows.uptoBulk d/\∀z∈r,True)
   | 2=>∃r:List aS,xs=[.sl (r.map bc)]/\(r.length<=Rows.uptoBulk d/\∀c∈r,True)
   | _=>∃r:List fo,xs=[.sl (r.map lc)]/\(r.length<=Rows.uptoBulk d/\∀c∈r,zJ c (Rows.uptoBulk d))) Tryz.underlying27 (acY (by kernel_rfl)) (by kernel_rfl) (fun i f D=>by
  match i,D with
  | 0,D=>cases D;exact mA (k:=1) Tryz.underlying23 (by kernel_rfl) (by decide) hS (fun r m n h ⟨h1,h2⟩=>⟨aaF h1 h,h2⟩) (yZ hS)
  | 1,D=>cases D;exact yZ hS
  | 2,D=>cases D;exact mA (k:=6) Tryz.underlying24 (by kernel_rfl) (by decide) hS (fun _ _ _ _ h=>h) PU
  | 3,D=>cases D;exact mA (k:=5) Tryz.underlying25 (by kernel_rfl) (by decide) hS qQ PX
  | n+4,D=>cases D) _ _ _ h
 have l1:xs.length=4:=l1;have O:ds.length=4:=O;obtain⟨a,b,c,d,rfl⟩:∃a b c d,xs=[a,b,c,d]:=by
  match xs,l1 with
  | [a,b,c,d],_=>exact⟨a,b,c,d,rfl⟩
 obtain⟨I,J,L,N,rfl⟩:∃a b c d,ds=[a,b,c,d]:=by
  match ds,O with
  | [a,b,c,d],_=>exact⟨a,b,c,d,rfl⟩
 obtain⟨n0,e0,p0,R⟩:=q 0 _ _ rfl rfl;obtain⟨n1,e1,p1,_⟩:=q 1 _ _ rfl rfl;obtain⟨n2,e2,p2,_⟩:=q 2 _ _ rfl rfl;obtain⟨n3,e3,p3,U⟩:=q 3 _ _ rfl rfl;cases e0;cases e1;cases e2;cases e3;have V:=nK (ds:=[I,J,L,N]) (i:=0) rfl;have Y:=nK (ds:=[I,J,L,N]) (i:=1) rfl;have Z:=nK (ds:=[I,J,L,N]) (i:=2) rfl;have W:=nK (ds:=[I,J,L,N]) (i:=3) rfl;rw[<-e]at V Y Z W;exact⟨_,rfl,l2,l3,⟨n0,n1,n2,n3⟩,rfl,by exact aaF p0 V,fun r hr=>aaF (R r hr).1 V,by exact aaF p1 Y,by exact aaF p2 Z,by exact aaF p3 W,fun l hl=>qQ l _ _ W (U l hl)⟩
theorem HI(a:fS)(m n:Nat)(h:m<=n):Je a m->Je a n:=fun ⟨h1,z,h3,h4,h5,D⟩=>⟨by omega,fun r I=>aaF (z r I) h,by omega,by omega,by omega,fun l hl=>qQ l _ _ h (D l hl)⟩
theorem S0{a:fS}(h:Je a 1048576):ly a:=⟨h.1,h.2.1,h.2.2.1,h.2.2.2.1,h.2.2.2.2.1,fun l hl=>⟨M_ (h.2.2.2.2.2 l hl).1,M_ (h.2.2.2.2.2 l hl).2⟩⟩
theorem ahp{l:List ByteArray}{n:Nat}(z:n<=1048576)(h:l.length<=n/\∀s∈l,s.size<=n):afj l:=⟨by omega,fun s D=>M_ (aaF (h.2 s D) z)⟩
end M
namespace Reg
def gR(w:Int)(p q:Bool):Bool:=(decide (w=1)&&(p||q)||(decide (w=2)&&p)&&q)||(decide (w=3)&&p)&&!q
theorem mJ(w:Int):gR w false false=false:=by simp[gR]
def aL(s:aU)(x:Int):Bool:=s.any fun p=>decide (p.1<=x)&&decide (x<p.2)
variable {s:aU}
theorem jw{x:Int}:aL s x=true↔cover s x:=by simp[aL,cover]
theorem zK(h:Canon s)(x:Int):aL s x=par (bw s) x:=by
 rw[abb,jw,cu h]
def fH(xs:List Int)(s:aU):List Int:=s.foldl (fun xs p=>put (put xs p.1) p.2) xs
theorem jX:∀(s:aU) (xs:List Int),bF xs->bF (fH xs s)/\∀y,y∈fH xs s↔y∈xs\/∃p∈s,y=p.1\/y=p.2
 | [],xs,h=>⟨h,fun y=>by simp[fH]⟩
 | p::s,xs,h=>by
  obtain⟨z,D⟩:=jX s (put (put xs p.1) p.2) (iG _ _ (iG _ _ h));refine⟨z,fun y=>?_⟩;show y∈fH (put (put xs p.1) p.2) s↔_;rw[D,tO,tO];simp only[adq,exists_eq_or_imp];constructor
  ·rintro (((h | h) | h) | h)
   ·exact .inl h
   ·exact .inr (.inl (.inl h))
   ·exact .inr (.inl (.inr h))
   exact .inr (.inr h)
  rintro (h | ((h | h) | h))
  ·exact .inl (.inl (.inl h))
  ·exact .inl (.inl (.inr h))
  ·exact .inl (.inr h)
  exact .inr h
def hY(w:Int)(a b:aU)(xs:List Int):Nat->aU
 | 0=>[]
 | i+1=>if gR w (aL a (xs.getD i 0)) (aL b (xs.getD i 0))=true then dG (hY w a b xs i) (xs.getD i 0) (xs.getD (i+1) 0) else hY w a b xs i
def fI(a b:aU):List Int:=fH (fH [] a) b
def mixed(w:Int)(a b:aU):aU:=hY w a b (fI a b) ((fI a b).length-1)
theorem Dp(a b:aU):bF (fI a b)/\∀y,y∈fI a b↔(∃p∈a,y=p.1\/y=p.2)\/∃p∈b,y=p.1\/y=p.2:=by
 obtain⟨z,D⟩:=jX a [] List.Pairwise.nil;obtain⟨I,J⟩:=jX b _ z;exact⟨I,fun y=>by rw[fI,J,D];simp⟩
theorem wT{xs:List Int}(z:bF xs)(D:∀p∈s,p.1∈xs/\p.2∈xs){k:Nat}{u v x:Int}(I:xs[k]?=some u)(J:xs[k+1]?=some v)(h1:u<=x)(h2:x<v):aL s u=aL s x:=by
 rw[abb,jw,jw];constructor
 ·rintro⟨p,hp,a,b⟩;have L:=Q0 z I J (D p hp).1;have N:=Q0 z I J (D p hp).2;exact⟨p,hp,by omega,by omega⟩
 rintro⟨p,hp,a,b⟩;have L:=Q0 z I J (D p hp).1;have N:=Q0 z I J (D p hp).2;exact⟨p,hp,by omega,by omega⟩
theorem uD{xs:List Int}(I:bF xs){a c:Int}(D:xs[0]?=some a)(z:c∈xs):a<=c:=by
 cases xs with
 | nil=>cases z
 | cons u t=>
  simp at D;subst D;rcases adq.1 z with rfl | z
  ·exact acP _
  exact Int.le_of_lt ((ade.1 I).1 c z)
theorem wU{xs:List Int}(z:bF xs){a c:Int}(D:xs[xs.length-1]?=some a)(I:c∈xs):c<=a:=by
 obtain⟨j,J⟩:=ab8.1 I;obtain⟨L,N⟩:=aao.1 D;obtain⟨O,R⟩:=aao.1 J;rcases aen j (xs.length-1) with e | e
 ·have:=aaS.1 z j _ O L e;omega
 have:j=xs.length-1:=by omega
 subst this;rw[N]at R;omega
theorem wV{xs:List Int}(z:bF xs){k:Nat}{a b:Int}(D:xs[k]?=some a)(hb:xs[k+1]?=some b):a<b:=by
 obtain⟨I,a2⟩:=aao.1 D;obtain⟨J,b2⟩:=aao.1 hb;have:=aaS.1 z k (k+1) I J (by omega);omega
theorem wW(w:Int){a b:aU}{xs:List Int}(J:bF xs)(O:∀p∈a,p.1∈xs/\p.2∈xs)(hb:∀p∈b,p.1∈xs/\p.2∈xs):∀(k:Nat) (y:Int),xs[k]?=some y ->
  Canon (hY w a b xs k)/\∀x,cover (hY w a b xs k) x↔x<y/\gR w (aL a x) (aL b x)=true
 | 0,y,hy=>by
  refine⟨trivial,fun x=>⟨fun h=>absurd h (eQ x),fun ⟨D,z⟩=>?_⟩⟩;have no:∀s:aU,(∀p∈s,p.1∈xs/\p.2∈xs)->aL s x=false:=fun s V=>by
   rw[aaV];intro h;obtain⟨p,hp,N,_⟩:=jw.1 h;have:=uD J hy (V p hp).1;omega
  rw[no a O,no b hb,mJ]at z;cases z
 | k+1,y,hy=>by
  obtain⟨I,L⟩:∃I,xs[k]?=some I:=by
   have:=(aao.1 hy).1;exact⟨_,acg (by omega)⟩
  obtain⟨R,U⟩:=wW w J O hb k I L;have W:=wV J L hy;rw[hY,getD_some L,getD_some hy];have go:∀x,I<=x->x<y->(gR w (aL a I) (aL b I)=gR w (aL a x) (aL b x)):=fun x D z=>by
   rw[wT J O L hy D z,wT J hb L hy D z]
  by_cases c:gR w (aL a I) (aL b I)=true
  ·rw[aap c];obtain⟨Y,Z,_⟩:=tN (hY w a b xs k) I y R W;refine⟨Y,fun x=>?_⟩;rw[Z,U];constructor
   ·rintro (⟨D,z⟩ | ⟨D,z⟩)
    ·exact⟨by omega,z⟩
    exact⟨z,(go x D z)▸c⟩
   rintro⟨D,z⟩;by_cases N:x<I
   ·exact .inl ⟨N,z⟩
   exact .inr ⟨by omega,D⟩
  rw[aaa c];refine⟨R,fun x=>?_⟩;rw[U];constructor
  ·rintro⟨D,z⟩;exact⟨by omega,z⟩
  rintro⟨D,z⟩;refine⟨?_,z⟩;by_cases N:x<I
  ·exact N
  exact absurd ((go x (by omega) D).trans z) c
theorem Fx(w:Int){a b:aU}(O:Canon a)(hb:Canon b):Canon (mixed w a b)/\∀x,par (bw (mixed w a b)) x=gR w (par (bw a) x) (par (bw b) x):=by
 obtain⟨J,z⟩:=Dp a b;have D:∀p∈a,p.1∈fI a b/\p.2∈fI a b:=fun p hp=>⟨(z _).2 (.inl ⟨p,hp,.inl rfl⟩),(z _).2 (.inl ⟨p,hp,.inr rfl⟩)⟩;have I:∀p∈b,p.1∈fI a b/\p.2∈fI a b:=fun p hp=>⟨(z _).2 (.inr ⟨p,hp,.inl rfl⟩),(z _).2 (.inr ⟨p,hp,.inr rfl⟩)⟩;have key:Canon (mixed w a b)/\∀x,cover (mixed w a b) x↔gR w (aL a x) (aL b x)=true:=by
  rcases ace (fI a b).length with L | L
  ·have e:fI a b=[]:=adN.1 L;have R:a=[]:=abH.2 fun p hp=>by have:=(D p hp).1;rw[e]at this;cases this
   have U:b=[]:=abH.2 fun p hp=>by have:=(I p hp).1;rw[e]at this;cases this
   subst R;subst U;refine⟨trivial,fun x=>⟨fun h=>absurd h (eQ x),fun h=>?_⟩⟩;have h:gR w false false=true:=h;rw[mJ]at h;cases h
  obtain⟨y,N⟩:∃y,(fI a b)[(fI a b).length-1]?=some y:=⟨_,acg (by omega)⟩;obtain⟨V,W⟩:=wW w J D I _ y N;refine⟨V,fun x=>(W x).trans ⟨fun h=>h.2,fun h=>⟨?_,h⟩⟩⟩;by_cases Y:x<y
  ·exact Y
  have no:∀s:aU,(∀p∈s,p.1∈fI a b/\p.2∈fI a b)->aL s x=false:=fun s Z=>by
   rw[aaV];intro h;obtain⟨p,hp,_,h4⟩:=jw.1 h;have:=wU J N (Z p hp).2;omega
  rw[no a D,no b I,mJ]at h;cases h
 refine⟨key.1,fun x=>?_⟩;rw[abb,cu key.1,key.2,zK O,zK hb]
def gS(w:Int)(a b:List ae)(ys:List Int):Nat->List an
 | 0=>[]
 | k+1=>cA (gS w a b ys k) ⟨ys.getD k 0,ys.getD (k+1) 0,mixed w (rowOf a (ys.getD k 0)) (rowOf b (ys.getD k 0))⟩
def BU(w:Int)(a b:List ae):List an:=gS w a b (aE (a++b)) ((aE (a++b)).length-1)
def aeB(w:Int)(a b:List ae):List ae:=told (BU w a b)
theorem Fy{l all:List ae}(hl:∀r∈l,r∈all){k:Nat}{u v:Int}(I:(aE all)[k]?=some u)(J:(aE all)[k+1]?=some v){x z:Int}(h1:u<=z)(h2:z<v):l.any (dE x u)=l.any (dE x z):=by
 obtain⟨L,N⟩:=cT all;rw[abb,aci,aci];have go:∀r∈l,(dE x u r=true↔dE x z r=true):=fun r D=>by
  have g1:=Q0 L I J ((N r.y0).2 ⟨r,hl r D,.inl rfl⟩);have g2:=Q0 L I J ((N r.y1).2 ⟨r,hl r D,.inr rfl⟩);rw[aQ,aQ];omega
 constructor
 ·rintro⟨r,D,h⟩;exact⟨r,D,(go r D).1 h⟩
 rintro⟨r,D,h⟩;exact⟨r,D,(go r D).2 h⟩
theorem uE(w:Int){a b:List ae}(N:∀r∈a,Full r)(hb:∀r∈b,Full r):∀(k:Nat) (y:Int),(aE (a++b))[k]?=some y ->
  bE (gS w a b (aE (a++b)) k)/\(∀t∈gS w a b (aE (a++b)) k,t.y1<=y)/\∀x z,at' (gS w a b (aE (a++b)) k) x z=(decide (z<y)&&gR w (a.any (dE x z)) (b.any (dE x z)))
 | 0,y,hy=>by
  obtain⟨I,R⟩:=cT (a++b);refine⟨trivial,fun t U=>(by cases U),fun x z=>?_⟩;show false=_;symm;rw[aaC];by_cases V:z<y
  ·right;have no:∀l:List ae,(∀r∈l,r∈a++b)->l.any (dE x z)=false:=fun l hl=>by
    rw[aaV];intro hp;obtain⟨r,W,h⟩:=aci.1 hp;obtain⟨_,_,h3,_⟩:=aQ.1 h;have:=uD I hy ((R r.y0).2 ⟨r,hl r W,.inl rfl⟩);omega
   rw[no a fun r h=>abY _ h,no b fun r h=>adt _ h,mJ]
  left;exact aaz V
 | k+1,y,hy=>by
  obtain⟨I,R⟩:=cT (a++b);obtain⟨D,J⟩:∃D,(aE (a++b))[k]?=some D:=by
   have:=(aao.1 hy).1;exact⟨_,acg (by omega)⟩
  obtain⟨Y,Z,i3⟩:=uE w N hb k D J;have eF:=wV I J hy;rw[gS,getD_some J,getD_some hy];obtain⟨m1,m2⟩:=Fx w (iS a D (fun r I=>(N r I).1)).1 (iS b D (fun r I=>(hb r I).1)).1;obtain⟨p1,p2,p3,p4⟩:=jT (b:=⟨D,y,mixed w (rowOf a D) (rowOf b D)⟩) Y eF m1 Z;refine⟨p1,p2,fun x z=>?_⟩;rw[p3,i3,at_one];show (decide (z<D)&&gR w (a.any (dE x z)) (b.any (dE x z))||decide (D<=z)&&decide (z<y)&&par (bw (mixed w (rowOf a D) (rowOf b D))) x)=_;rw[m2,Db N,Db hb];by_cases O:z<D
  ·rw[acd O,aaz (by omega:¬D<=z),acd (by omega:z<y)];simp
  by_cases L:z<y
  ·rw[aaz O,acd (by omega:D<=z),acd L];simp only[abp,abv,adr];rw[Fy (fun r h=>abY _ h) J hy (by omega) L,Fy (fun r h=>adt _ h) J hy (by omega) L]
  rw[aaz O,aaz L];simp
theorem HK(w:Int){a b:List ae}(O:∀r∈a,Full r)(hb:∀r∈b,Full r):bE (BU w a b)/\∀x z,at' (BU w a b) x z=gR w (a.any (dE x z)) (b.any (dE x z)):=by
 obtain⟨R,I⟩:=cT (a++b);rcases ace (aE (a++b)).length with J | J
 ·have e:aE (a++b)=[]:=adN.1 J;have no:a++b=[]:=abH.2 fun r D=>by
   have:=(I r.y0).2 ⟨r,D,.inl rfl⟩;rw[e]at this;cases this
  obtain⟨e1,e2⟩:=List.append_eq_nil_iff.1 no;subst e1;subst e2;exact⟨trivial,fun x z=>(mJ w).symm⟩
 obtain⟨y,L⟩:∃y,(aE (a++b))[(aE (a++b)).length-1]?=some y:=⟨_,acg (by omega)⟩;obtain⟨U,h2,V⟩:=uE w O hb _ y L;refine⟨U,fun x z=>?_⟩;show at' (gS w a b (aE (a++b)) ((aE (a++b)).length-1)) x z=_;rw[V];by_cases N:z<y
 ·rw[acd N,adr]
 rw[aaz N,abp];have no:∀l:List ae,(∀r∈l,r∈a++b)->l.any (dE x z)=false:=fun l hl=>by
  rw[aaV];intro hp;obtain⟨r,D,h⟩:=aci.1 hp;obtain⟨_,_,_,h5⟩:=aQ.1 h;have:=wU R L ((I r.y1).2 ⟨r,hl r D,.inr rfl⟩);omega
 rw[no a fun r h=>abY _ h,no b fun r h=>adt _ h,mJ]
theorem zL{w:Int}{k:Bool->Bool->Bool}(hk:∀p q,gR w p q=k p q){a b:List ae}(z:∀r∈a,Full r)(hb:∀r∈b,Full r):BU w a b=ik k (aB a) (aB b):=by
 obtain⟨D,I⟩:=HK w z hb;obtain⟨J,L,_⟩:=aR z;obtain⟨N,O,_⟩:=aR hb;obtain⟨R,U,_⟩:=lO (k:=k) ((hk false false).symm.trans (mJ w)) J N;exact iK _ _ D R fun x y=>by rw[I,U,hk,L,O]
theorem PY{a b:List ae}(z:∀r∈a,Full r)(hb:∀r∈b,Full r):BU 1 a b=uo (aB a) (aB b):=zL (fun p q=>by cases p<;>cases q<;>rfl) z hb
theorem KU{a b:List ae}(z:∀r∈a,Full r)(hb:∀r∈b,Full r):BU 3 a b=bN (aB a) (aB b):=zL (fun p q=>by cases p<;>cases q<;>rfl) z hb
end Reg
namespace M
open Go.AM Go.RowKit
open Reg (ae aU)
theorem zM{xs:List Int}{s:aU}{i:Nat}{p:Int×Int}(h:s[i]?=some p):Reg.fH xs (s.take (i+1))=Reg.put (Reg.put (Reg.fH xs (s.take i)) p.1) p.2:=by
 rw[adF,h,Reg.fH,Reg.fH,aaD];rfl
theorem fc:∀(s:aU) (xs:List Int),(Reg.fH xs s).length<=xs.length+2*s.length
 | [],xs=>by simp[Reg.fH]
 | p::s,xs=>by
  have h1:=fc s (Reg.put (Reg.put xs p.1) p.2);have h2:=iH p.1 xs;have h3:=iH p.2 (Reg.put xs p.1);simp only[aaB];have e:Reg.fH xs (p::s)=Reg.fH (Reg.put (Reg.put xs p.1) p.2) s:=rfl;rw[e];omega
theorem pD(w:Int)(a b:aU)(xs:List Int):∀k,(Reg.hY w a b xs k).length<=k
 | 0=>aam _
 | k+1=>by
  have ih:=pD w a b xs k;rw[Reg.hY];split
  ·have:=rU (Reg.hY w a b xs k) (xs.getD k 0) (xs.getD (k+1) 0);omega
  omega
theorem KV(a b:aU)(w:Int)(qb:a.length+b.length<=4398046511104):af C 203 [.pv (fD a),.pv (fD b),.pv (i64 w)] (.p (fD (Reg.mixed w a b))) []:=by
 refine fW hC Tryz.func203 rfl (by kernel_rfl) fun _=>?_;have la:=ai a sp;have lb:=ai b sp;refine aJ (fun i:Nat=>i<=a.length) (fun i=>[(0,.p (fD a)),(1,.p (fD b)),(2,.p (i64 w)),(7,.p (ints (Reg.fH [] (a.take i)))),(8,.p (i64 i))]) (fun _=>[]) (fun i=>a.length-i) 0 _ (au.nil hC _ 7 rfl) (aaj _) ⟨Z,Z,Z,Z,Z,Y⟩ trivial fun i hi t h=>?_;apply iW<;>intro h1
 ·rw[la]at h1;obtain⟨p,hp⟩:=ak (l:=a) (i:=i) (by omega);have hL:=fc (a.take i) [];have OV:=aaA i a;have R:=(Reg.jX (a.take i) [] List.Pairwise.nil).1;refine⟨(sp p),(idx rfl hp),?_⟩;have V7:=iH p.1 (Reg.fH [] (a.take i));refine⟨_,_,(ru _ p.1 R (by simp only[acs]at hL;omega)),(sp p),(idx rfl hp),_,_,(ru _ p.2 (Reg.iG _ _ R) (by simp only[acs]at hL;omega)),wO (by omega),(i+1),_,au.refl _ _,by omega,by omega,⟨rfl,rfl,rfl,?_,Z,Y⟩,trivial⟩;rw[zM hp];rfl
 rw[la]at h1;have ea:a.take i=a:=adW (by omega);refine aJ (fun j:Nat=>j<=b.length) (fun j=>[(0,.p (fD a)),(1,.p (fD b)),(2,.p (i64 w)),(7,.p (ints (Reg.fH (Reg.fH [] (a.take i)) (b.take j)))),(9,.p (i64 j))]) (fun _=>[]) (fun j=>b.length-j) 0 _ (au.refl _ _) (aaj _) ⟨Z,Z,Z,Z,Z,Y⟩ trivial fun j hj t h=>?_;apply iW<;>intro h2
 ·rw[lb]at h2;obtain⟨p,hp⟩:=ak (l:=b) (i:=j) (by omega);have hL:=fc (b.take j) (Reg.fH [] (a.take i));have Yl:=fc (a.take i) [];have OV:=aaA j b;have hL4:=aaA i a;have R:=(Reg.jX (b.take j) _ (Reg.jX (a.take i) [] List.Pairwise.nil).1).1;refine⟨(sp p),(idx rfl hp),?_⟩;have V7:=iH p.1 (Reg.fH (Reg.fH [] (a.take i)) (b.take j));simp only[acs]at Yl;refine⟨_,_,(ru _ p.1 R (by omega)),(sp p),(idx rfl hp),_,_,(ru _ p.2 (Reg.iG _ _ R) (by omega)),wO (by omega),(j+1),_,au.refl _ _,by omega,by omega,⟨rfl,rfl,rfl,?_,Z,Y⟩,trivial⟩;rw[zM hp];rfl
 rw[lb]at h2;have eb:b.take j=b:=adW (by omega);obtain⟨X,hX⟩:∃X,X=Reg.fH (Reg.fH [] (a.take i)) (b.take j):=⟨_,rfl⟩;have lX:=ai X fun n=>[i64 n];refine aJ (fun k:Nat=>k<=X.length-1) (fun k=>[(0,.p (fD a)),(1,.p (fD b)),(2,.p (i64 w)),(7,.p (ints X)),(10,.p (fD (Reg.hY w a b X k))),(11,.p (i64 ((k:Int)+1)))]) (fun _=>[]) (fun k=>X.length-k) 0 _ (au.nil hC _ 10 rfl) (aaj _) ⟨rfl,rfl,rfl,by rw[hX];rfl,Z,Z,Y⟩ trivial fun k hk t h=>?_;have Yl:=fc (a.take i) [];have hL1:=fc (b.take j) (Reg.fH [] (a.take i));have OV:=aaA j b;have hL4:=aaA i a;rw[<-hX]at hL1;simp only[acs]at Yl;have hM:=pD w a b X k;apply iW<;>intro h3
 ·rw[lX]at h3;obtain⟨y,z⟩:=ak (l:=X) (i:=k) (by omega);obtain⟨J,D⟩:=ak (l:=X) (i:=k+1) (by omega);have L:(k:Int)+1-1=(k:Nat):=by omega
  have V:(k:Int)+1=((k+1:Nat):Int):=by omega
  refine⟨wO (by omega),[i64 y],(idx L z),_,_,(sI a y (by omega)),wO (by omega),[i64 y],(idx L z),_,_,(sI b y (by omega)),?_⟩;have ia:Reg.aL a y=aL a y:=rfl;have ib:Reg.aL b y=aL b y:=rfl;apply iW<;>intro W
  ·apply iW<;>intro N
   ·refine⟨wO (by omega),[i64 y],(idx L z),[i64 J],(idx V D),_,_,(ae_ _ y J (by omega)),wO (by omega),(k+1),_,au.refl _ _,by omega,by omega,⟨rfl,rfl,rfl,rfl,?_,a8 (by omega),trivial⟩,trivial⟩;rw[Reg.hY,cO z,cO D,aap (show Reg.gR w (Reg.aL a y) (Reg.aL b y)=true by show Reg.gR w (aL a y) (aL b y)=true;rw[W,N];rfl)];rfl
   apply iW<;>intro I
   ·refine⟨wO (by omega),[i64 y],(idx L z),[i64 J],(idx V D),_,_,(ae_ _ y J (by omega)),wO (by omega),(k+1),_,au.refl _ _,by omega,by omega,⟨rfl,rfl,rfl,rfl,?_,a8 (by omega),trivial⟩,trivial⟩;rw[Reg.hY,cO z,cO D,aap (show Reg.gR w (Reg.aL a y) (Reg.aL b y)=true by show Reg.gR w (aL a y) (aL b y)=true;rw[W,N,I];rfl)];rfl
   apply iW<;>intro O
   ·exfalso;omega
   apply iW<;>intro U
   ·exfalso;omega
   refine⟨wO (by omega),(k+1),_,au.refl _ _,by omega,by omega,⟨rfl,rfl,rfl,rfl,?_,a8 (by omega),trivial⟩,trivial⟩;rw[Reg.hY,cO z,cO D,aaa (show ¬Reg.gR w (Reg.aL a y) (Reg.aL b y)=true by show ¬Reg.gR w (aL a y) (aL b y)=true;rw[W,N,I];decide)];rfl
  apply iW<;>intro N
  ·apply iW<;>intro I
   ·apply iW<;>intro O
    ·refine⟨wO (by omega),[i64 y],(idx L z),[i64 J],(idx V D),_,_,(ae_ _ y J (by omega)),wO (by omega),(k+1),_,au.refl _ _,by omega,by omega,⟨rfl,rfl,rfl,rfl,?_,a8 (by omega),trivial⟩,trivial⟩;rw[Reg.hY,cO z,cO D,aap (show Reg.gR w (Reg.aL a y) (Reg.aL b y)=true by show Reg.gR w (aL a y) (aL b y)=true;rw[N,I,O];rfl)];rfl
    apply iW<;>intro U
    ·exfalso;omega
    refine⟨wO (by omega),(k+1),_,au.refl _ _,by omega,by omega,⟨rfl,rfl,rfl,rfl,?_,a8 (by omega),trivial⟩,trivial⟩;rw[Reg.hY,cO z,cO D,aaa (show ¬Reg.gR w (Reg.aL a y) (Reg.aL b y)=true by show ¬Reg.gR w (aL a y) (aL b y)=true;rw[N,I,O];decide)];rfl
   apply iW<;>intro U
   ·exfalso;omega
   refine⟨wO (by omega),(k+1),_,au.refl _ _,by omega,by omega,⟨rfl,rfl,rfl,rfl,?_,a8 (by omega),trivial⟩,trivial⟩;rw[Reg.hY,cO z,cO D,aaa (show ¬Reg.gR w (Reg.aL a y) (Reg.aL b y)=true by show ¬Reg.gR w (aL a y) (aL b y)=true;rw[N,I];cases aL b y<;>decide)];rfl
  apply iW<;>intro I
  ·apply iW<;>intro O
   ·apply iW<;>intro U
    ·refine⟨wO (by omega),[i64 y],(idx L z),[i64 J],(idx V D),_,_,(ae_ _ y J (by omega)),wO (by omega),(k+1),_,au.refl _ _,by omega,by omega,⟨rfl,rfl,rfl,rfl,?_,a8 (by omega),trivial⟩,trivial⟩;rw[Reg.hY,cO z,cO D,aap (show Reg.gR w (Reg.aL a y) (Reg.aL b y)=true by show Reg.gR w (aL a y) (aL b y)=true;rw[I,O,U];rfl)];rfl
    refine⟨wO (by omega),(k+1),_,au.refl _ _,by omega,by omega,⟨rfl,rfl,rfl,rfl,?_,a8 (by omega),trivial⟩,trivial⟩;rw[Reg.hY,cO z,cO D,aaa (show ¬Reg.gR w (Reg.aL a y) (Reg.aL b y)=true by show ¬Reg.gR w (aL a y) (aL b y)=true;rw[I,O,U];decide)];rfl
   refine⟨wO (by omega),(k+1),_,au.refl _ _,by omega,by omega,⟨rfl,rfl,rfl,rfl,?_,a8 (by omega),trivial⟩,trivial⟩;rw[Reg.hY,cO z,cO D,aaa (show ¬Reg.gR w (Reg.aL a y) (Reg.aL b y)=true by show ¬Reg.gR w (aL a y) (aL b y)=true;rw[I,O];cases aL b y<;>decide)];rfl
  refine⟨wO (by omega),(k+1),_,au.refl _ _,by omega,by omega,⟨rfl,rfl,rfl,rfl,?_,a8 (by omega),trivial⟩,trivial⟩;rw[Reg.hY,cO z,cO D,aaa (show ¬Reg.gR w (Reg.aL a y) (Reg.aL b y)=true by show ¬Reg.gR w (aL a y) (aL b y)=true;simp[Reg.gR,W,N,I])];rfl
 rw[lX]at h3;refine⟨?_,trivial⟩;have L:k=X.length-1:=by omega
 rw[L,hX,ea,eb];rfl
theorem Dq(w:Int)(s t:aU):(Reg.mixed w s t).length<=2*(s.length+t.length):=by
 have h1:=pD w s t (Reg.fI s t) ((Reg.fI s t).length-1);have h2:=fc t (Reg.fH [] s);have z:=fc s [];simp only[acs]at z;have e:(Reg.fI s t).length=(Reg.fH (Reg.fH [] s) t).length:=rfl;show (Reg.hY w s t (Reg.fI s t) ((Reg.fI s t).length-1)).length<=_;omega
theorem AU(w:Int)(a b:List ae)(ys:List Int):∀k,(Reg.gS w a b ys k).length<=k:=by
 intro k
 induction k with
 | zero=>simp[Reg.gS]
 | succ k ih=>rw[Reg.gS];have:=tR (Reg.gS w a b ys k) ⟨ys.getD k 0,ys.getD (k+1) 0,Reg.mixed w (Reg.rowOf a (ys.getD k 0)) (Reg.rowOf b (ys.getD k 0))⟩;omega
theorem KW(w:Int)(a b:List ae)(ys:List Int):∀k,∀t∈Reg.gS w a b ys k,t.xs.length<=2*(a.length+b.length):=by
 intro k
 induction k with
 | zero=>simp[Reg.gS]
 | succ k ih=>
  rw[Reg.gS];refine yO _ _ _ ih ?_;have h1:=Dq w (Reg.rowOf a (ys.getD k 0)) (Reg.rowOf b (ys.getD k 0));have h2:=fQ a (ys.getD k 0);have h3:=fQ b (ys.getD k 0);show (Reg.mixed _ _ _).length<=_;omega
theorem uF(a b:List ae)(w:Int)(qb:a.length+b.length<=4398046511104)(z:(Reg.aE (a++b)).length<=3000000000000)(hr:(Reg.aeB w a b).length<=4398046511104):af C 136 [.pv (aj a),.pv (aj b),.pv (i64 w)] (.p (aj (Reg.aeB w a b))) []:=by
 refine uX ⟨[],[],[],[9],[],[]⟩ hC Tryz.func136 rfl (by kernel_rfl) fun _=>?_;have L:=ai a rc;have N:=ai b rc;refine⟨⟨C4 a,by rw[L];simp;omega,by rw[L];omega⟩,⟨C4 b,by rw[N];simp;omega,by rw[N];omega⟩,?_⟩;have O:=wB (a++b) (by rw[acv];omega);rw[aj,abE]at O;refine⟨_,_,O,?_⟩;obtain⟨ys,I⟩:∃ys,ys=Reg.aE (a++b):=⟨_,rfl⟩;have hL:=dm (a++b);rw[<-I,acv]at hL;rw[<-I]at z;have R:=ai ys fun n=>[i64 n];refine aJ (fun k:Nat=>k<=ys.length-1) (fun k=>[(0,.p (aj a)),(1,.p (aj b)),(2,.p (i64 w)),(8,.p (ints ys)),(9,.ow 9),(10,.p (i64 ((k:Int)+1)))]) (fun k=>[(9,.row 196 ((Reg.gS w a b ys k).map bd))]) (fun k=>ys.length-k) 0 _ (au.dk hC _ 9 196 _ (by decide) rfl rfl (by decide)) (aaj _) ⟨rfl,rfl,rfl,by rw[I];rfl,Z,Z,Y⟩ ⟨Z,Y⟩ fun k hk t h=>?_;have bl:=AU w a b ys k;have bx:=KW w a b ys k;apply iW<;>intro U
 ·rw[R]at U;obtain⟨y,z⟩:=ak (l:=ys) (i:=k) (by omega);obtain⟨V,W⟩:=ak (l:=ys) (i:=k+1) (by omega);have J:(k:Int)+1-1=(k:Nat):=by omega
  have QT:(k:Int)+1=((k+1:Nat):Int):=by omega
  have ra:=fQ a y;have rb:=fQ b y;refine⟨wO (by omega),[i64 y],(idx J z),[i64 V],(idx QT W),wO (by omega),[i64 y],(idx J z),_,_,(xK a y (by omega)),wO (by omega),[i64 y],(idx J z),_,_,(xK b y (by omega)),_,_,(KV _ _ w (by omega)),_,_,(wC _ ⟨y,V,Reg.mixed w (Reg.rowOf a y) (Reg.rowOf b y)⟩ (by omega) (fun t D=>by have:=bx t D;omega)),wO (by omega),(k+1),_,au.refl _ _,by omega,by omega,⟨rfl,rfl,rfl,rfl,rfl,a8 (by omega),trivial⟩,⟨?_,trivial⟩⟩;rw[Reg.gS,cO z,cO W];rfl
 rw[R]at U;have e:k=ys.length-1:=by omega
 have D:Reg.told (Reg.gS w a b ys k)=Reg.aeB w a b:=by rw[e,I];rfl
 refine⟨_,_,(Es _ (by omega) (fun t D=>by have:=bx t D;omega) (by rw[D];exact hr)),?_,trivial⟩;rw[D]
end M
namespace Reg
structure HL(E:List (Nat×Nat))(u:List Int):Prop where
 uf:UF u
 edge:∀e∈E,e.1<u.length/\e.2<u.length/\kU u e.1 e.2
 cl:∀S:Nat->Prop,(∀e∈E,S e.1↔S e.2)->∀i k,kU u i k->(S i↔S k)
theorem Fz(n:Nat):HL [] (iota n):=
 ⟨ny n,fun e z=>(by cases z),fun S _ i k ⟨r,D,I⟩=>by rw[BI D,BI I]⟩
theorem FA{E:List (Nat×Nat)}{u:List Int}(h:HL E u){i k:Nat}(hi:i<u.length)(hk:k<u.length):HL (E++[(i,k)]) (gj u i k):=by
 have a:=fU i u i h.uf hi (aam _);have b:=fU k (cw i u i).1 k a.uf (by rw[a.len];exact hk) (aam _);have O:∀m q,eh (cw k (cw i u i).1 k).1 m q↔eh u m q:=fun m q=>(b.same m q).trans (a.same m q);have Y:=(O _ _).2 a.root;have Z:=(b.same _ _).2 b.root;have D:=fun p q=>PI O p q;have len:(cw k (cw i u i).1 k).1.length=u.length:=by rw[b.len,a.len]
 have J:∀p q,p<u.length->q<u.length->(kU (gj u i k) p q↔kU u p q\/(kU u p i/\kU u q k)\/(kU u p k/\kU u q i)):=fun p q hp I=>by
  rw[gj,KI b.uf Y Z (by rw[len];exact hp) (by rw[len];exact I),D,D,D,D,D]
 obtain⟨j1,R⟩:=mC h.uf hi hk;have self:∀m,m<u.length->kU u m m:=fun m hm=>by
  obtain⟨r,U⟩:=h.uf.root m hm;exact⟨r,U,U⟩
 refine⟨j1,fun e z=>?_,fun S hS p q V=>?_⟩
 ·rw[R];rcases abi.1 z with z | z
  ·obtain⟨e1,e2,e3⟩:=h.edge e z;exact⟨e1,e2,(J _ _ e1 e2).2 (.inl e3)⟩
  rw[ab_.1 z];exact⟨hi,hk,(J _ _ hi hk).2 (.inr (.inl ⟨self i hi,self k hk⟩))⟩
 obtain⟨r,RO,iO⟩:=id V;have hp:=RO.lt;have I:=iO.lt;rw[R]at hp I;have c:=h.cl S fun e z=>hS e (abY _ z);have W:S i↔S k:=hS (i,k) (adt _ (ab_.2 rfl));rcases (J p q hp I).1 V with g | ⟨L,N⟩ | ⟨L,N⟩
 ·exact c p q g
 ·exact (c p i L).trans (W.trans (c q k N).symm)
 exact (c p k L).trans (W.symm.trans (c q i N).symm)
def mW(q:Nat->Bool)(s:List Bool×List Nat)(k:Nat):List Bool×List Nat:=if s.1.getD k true=false/\q k=true then (s.1.set k true,s.2++[k]) else s
def pE(q:Nat->Bool)(n:Nat)(s:List Bool×List Nat):List Bool×List Nat:=(List.range n).foldl (mW q) s
def kL(q:Nat->Nat->Bool)(n:Nat):Nat->Nat->List Bool×List Nat->List Bool×List Nat
 | 0,_,s=>s
 | f+1,i,s=>if i<s.2.length then kL q n f (i+1) (pE (q (s.2.getD i 0)) n s) else s
def mK(q:Nat->Nat->Bool)(n:Nat)(s:List Bool×List (List Nat))(i:Nat):List Bool×List (List Nat):=
 if s.1.getD i true=true then s else ((kL q n n 0 (s.1.set i true,[i])).1,s.2++[(kL q n n 0 (s.1.set i true,[i])).2])
def NI(q:Nat->Nat->Bool)(n:Nat):List (List Nat):=((List.range n).foldl (mK q n) (List.replicate n false,[])).2
structure qR(n:Nat)(D0:List Bool)(s:List Bool×List Nat):Prop where
 len:s.1.length=n
 nod:s.2.Nodup
 mem:∀k∈s.2,k<n/\D0.getD k true=false
 done:∀k,k<n->(s.1.getD k true=true↔D0.getD k true=true\/k∈s.2)
variable {D0:List Bool}
theorem qR.le{n:Nat}{s:List Bool×List Nat}(h:qR n D0 s):s.2.length<=n:=by
 have:=aeg h.nod (l₂:=List.range n) fun k hk=>abD.2 (h.mem k hk).1;simpa using this
theorem jx{l:List Bool}{k j:Nat}(hk:k<l.length):(l.set k true).getD j true=if j=k then true else l.getD j true:=by
 rw[ad4,ew hk,ad4];split<;>rfl
theorem Jf{n:Nat}{q:Nat->Bool}{s:List Bool×List Nat}(h:qR n D0 s){k:Nat}(hk:k<n):
  qR n D0 (mW q s k)/\(∀x,x∈(mW q s k).2↔x∈s.2\/(x=k/\q k=true/\D0.getD k true=false))/\(∃t,(mW q s k).2=s.2++t):=by
 rw[mW];by_cases c:s.1.getD k true=false/\q k=true
 ·rw[aap c];have D:¬(D0.getD k true=true\/k∈s.2):=fun g=>by
   have:=(h.done k hk).2 g;rw[c.1]at this;cases this
  have I:D0.getD k true=false:=by
   cases e:D0.getD k true with
   | false=>rfl
   | true=>exact absurd (.inl e) D
  refine⟨⟨by show (s.1.set k true).length=n;rw[aaM,h.len],?_,fun x z=>?_,fun x z=>?_⟩,fun x=>?_,[k],rfl⟩
  ·show (s.2++[k]).Nodup;rw[aef];refine⟨h.nod,by simp,fun a J b hb=>?_⟩;rw[ab_.1 hb];exact fun e=>D (.inr (e▸J))
  ·rcases abi.1 z with z | z
   ·exact h.mem x z
   rw[ab_.1 z];exact⟨hk,I⟩
  ·show (s.1.set k true).getD x true=true↔_;rw[jx (by rw[h.len];exact hk)];by_cases e:x=k
   ·rw[aap e];exact⟨fun _=>.inr (adt _ (ab_.2 e)),fun _=>rfl⟩
   rw[aaa e,h.done x z];constructor
   ·rintro (g | g)
    ·exact .inl g
    exact .inr (abY _ g)
   rintro (g | g)
   ·exact .inl g
   rcases abi.1 g with g | g
   ·exact .inr g
   exact absurd (ab_.1 g) e
  show x∈s.2++[k]↔_;rw[abi,ab_];exact⟨fun g=>g.elim .inl fun e=>.inr ⟨e,c.2,I⟩,fun g=>g.elim .inl fun e=>.inr e.1⟩
 rw[aaa c];refine⟨h,fun x=>⟨.inl,fun g=>g.elim id fun ⟨e,D,I⟩=>?_⟩,[],by simp⟩;subst e;cases e:s.1.getD x true with
 | false=>exact absurd ⟨e,D⟩ c
 | true=>
  rcases (h.done x hk).1 e with g | g
  ·rw[I]at g;cases g
  exact g
theorem vP{n:Nat}{q:Nat->Bool}:∀(l:List Nat) (s:List Bool×List Nat),qR n D0 s->(∀k∈l,k<n)->
  qR n D0 (l.foldl (mW q) s)/\(∀x,x∈(l.foldl (mW q) s).2↔x∈s.2\/(x∈l/\q x=true/\D0.getD x true=false))/\(∃t,(l.foldl (mW q) s).2=s.2++t)
 | [],s,h,_=>⟨h,fun x=>by simp,[],by simp⟩
 | k::l,s,h,hl=>by
  obtain⟨D,I,t,J⟩:=Jf (q:=q) h (hl k adU);obtain⟨L,N,v,O⟩:=vP l _ D fun x R=>hl x (aaw _ R);refine⟨L,fun x=>?_,t++v,?_⟩
  ·show x∈(l.foldl (mW q) (mW q s k)).2↔_;rw[N,I,adq];constructor
   ·rintro ((g | ⟨rfl,g⟩) | ⟨g,z⟩)
    ·exact .inl g
    ·exact .inr ⟨.inl rfl,g⟩
    exact .inr ⟨.inr g,z⟩
   rintro (g | ⟨rfl | g,z⟩)
   ·exact .inl (.inl g)
   ·exact .inl (.inr ⟨rfl,z⟩)
   exact .inr ⟨g,z⟩
  show (l.foldl (mW q) (mW q s k)).2=_;rw[O,J,abx]
structure Ym(p:Nat->Nat)(q:Nat->Nat->Bool)(n:Nat):Prop where
 tops:Dg p n
 edge:∀a b,a<n->b<n->q a b=true->p a=p b
 cl:∀S:Nat->Prop,(∀a b,a<n->b<n->S a->q a b=true->S b)->∀k,k<n->S (p k)->S k
theorem Jg{p:Nat->Nat}{q:Nat->Nat->Bool}{n:Nat}(I:Ym p q n){r:Nat}(V:r<n)(N:∀k,k<n->p k=r->D0.getD k true=false):
  ∀(f i:Nat) (s:List Bool×List Nat),qR n D0 s->n<=f+i->r∈s.2->(∀k∈s.2,p k=r)->(∀j,j<i->j<s.2.length->∀b,b<n->q (s.2.getD j 0) b=true->b∈s.2)->
   qR n D0 (kL q n f i s)/\∀k,k∈(kL q n f i s).2↔k<n/\p k=r
 | f,i,s,h,hf,h0,h1,h2=>by
  have fin:s.2.length<=i->qR n D0 s/\∀k,k∈s.2↔k<n/\p k=r:=fun hi=>by
   refine⟨h,fun k=>⟨fun hk=>⟨(h.mem k hk).1,h1 k hk⟩,fun ⟨hk,e⟩=>?_⟩⟩;refine I.cl (fun x=>x∈s.2) (fun a b ha hb D z=>?_) k hk (by rw[e];exact h0);obtain⟨j,J⟩:=ab8.1 D;obtain⟨W,j2⟩:=aao.1 J;exact h2 j (by omega) W b hb (by rw[ad4,J];exact z)
  match f,hf with
  | 0,hf=>exact fin (by have:=h.le;omega)
  | f+1,hf=>
   rw[kL];by_cases c:i<s.2.length
   ·rw[aap c];have Y:s.2[i]?=some s.2[i]:=acg c;have O:s.2.getD i 0=s.2[i]:=by rw[ad4,Y];rfl
    have D:s.2[i]∈s.2:=adn c;obtain⟨Z,L,t,b3⟩:=vP (q:=q (s.2.getD i 0)) (List.range n) s h fun k hk=>abD.1 hk;refine Jg I V N f (i+1) _ Z (by omega) ((L r).2 (.inl h0)) (fun k hk=>?_) (fun j J hl b hb z=>?_)
    ·rcases (L k).1 hk with g | ⟨g1,R,_⟩
     ·exact h1 k g
     rw[O]at R;rw[<-I.edge _ _ (h.mem _ D).1 (abD.1 g1) R];exact h1 _ D
    have e3:(pE (q (s.2.getD i 0)) n s).2=s.2++t:=b3;have U:j<s.2.length:=by omega
    rw[e3,ad4,aaE U,<-ad4]at z;refine (L b).2 ?_;by_cases e:j=i
    ·subst e;refine .inr ⟨abD.2 hb,z,N b hb ?_⟩;rw[O]at z;rw[<-I.edge _ _ (h.mem _ D).1 hb z];exact h1 _ D
    exact .inl (h2 j (by omega) U b hb z)
   rw[aaa c];exact fin (by omega)
theorem rF{p:Nat->Nat}{q:Nat->Nat->Bool}{n:Nat}(I:Ym p q n):∀i,i<=n ->
  ((List.range i).foldl (mK q n) (List.replicate n false,[])).1.length=n /\
  (∀k,k<n->(((List.range i).foldl (mK q n) (List.replicate n false,[])).1.getD k true=true↔p k<i))/\
  ∃M:Nat->List Nat,((List.range i).foldl (mK q n) (List.replicate n false,[])).2=(cd p i).map M/\∀r∈cd p i,∀k,k∈M r↔k<n/\p k=r
 | 0,_=>by
  refine⟨by simp,fun k hk=>?_,fun _=>[],rfl,fun r D=>?_⟩
  ·simp[ad4,hk]
  cases D
 | i+1,hi=>by
  obtain⟨l1,z,M,L,N⟩:=rF I i (by omega);rw[ac2,aaD];generalize (List.range i).foldl (mK q n) (List.replicate n false,[])=s at l1 z L ⊢;simp only[aaq,List.foldl_nil];have tp:=I.tops.le i (by omega);rw[fE];by_cases c:p i=i
  ·have J:s.1.getD i true=false:=by
    cases e:s.1.getD i true with
    | false=>rfl
    | true=>have:=(z i (by omega)).1 e;omega
   have U:(mK q n s i)=((kL q n n 0 (s.1.set i true,[i])).1,s.2++[(kL q n n 0 (s.1.set i true,[i])).2]):=by
    rw[mK,aaa (by rw[J];simp)]
   obtain⟨O,R⟩:=Jg I (D0:=s.1) (r:=i) (by omega) (fun k hk e=>by
     cases g:s.1.getD k true with
     | false=>rfl
     | true=>have:=(z k hk).1 g;omega) n 0 (s.1.set i true,[i])
    ⟨by show (s.1.set i true).length=n;rw[aaM,l1],by simp,fun k hk=>by rw[ab_.1 hk];exact⟨by omega,J⟩,fun k hk=>by
     show (s.1.set i true).getD k true=true↔_;rw[jx (by rw[l1];omega),ab_];by_cases e:k=i<;>simp[e]⟩ (by omega) (by simp) (fun k hk=>by rw[ab_.1 hk];exact c) (fun j hj=>by omega)
   rw[aap c,U];refine⟨O.len,fun k hk=>?_,fun r=>if r=i then (kL q n n 0 (s.1.set i true,[i])).2 else M r,?_,fun r D k=>?_⟩
   ·rw[O.done k hk,z k hk,R k];constructor
    ·rintro (g | g)<;>omega
    intro g;by_cases e:p k=i
    ·exact .inr ⟨hk,e⟩
    exact .inl (by omega)
   ·show s.2++_=_;rw[L,abE];congr 1
    ·refine aaG fun r D=>?_;rw[aaa (by have:=(mem_keys.1 D).1;omega)]
    simp
   show k∈(if r=i then _ else _)↔_;by_cases e:r=i
   ·rw[aap e,e];exact R k
   rw[aaa e];refine N r ?_ k;rcases abi.1 D with g | g
   ·exact g
   exact absurd (ab_.1 g) e
  have J:s.1.getD i true=true:=(z i (by omega)).2 (by omega);rw[aaa c,mK,aap J];refine⟨l1,fun k hk=>?_,M,L,N⟩;rw[z k hk];constructor
  ·intro g;omega
  intro g;by_cases e:p k=i
  ·have:=I.tops.top k hk;rw[e]at this;exact absurd this c
  omega
def dN(a b:ae):Int:=min a.x1 b.x1-max a.x0 b.x0
def dO(a b:ae):Int:=min a.y1 b.y1-max a.y0 b.y0
def en(a b:ae):Bool:=(decide (0<dN a b)&&decide (0<=dO a b))||(decide (0<=dN a b)&&decide (0<dO a b))
theorem jY{a b:ae}:en a b=true↔(0<dN a b/\0<=dO a b)\/(0<=dN a b/\0<dO a b):=by simp[en]
theorem zN(a b:ae):en a b=en b a:=by
 have z:dN a b=dN b a:=by simp only[dN];omega
 have D:dO a b=dO b a:=by simp only[dO];omega
 rw[en,en,z,D]
theorem wX:∀{s:aU},Canon s->s.Pairwise fun p q=>p.2<q.1
 | [],_=>List.Pairwise.nil
 | _::_,h=>ade.2 ⟨h.behind,wX h.tail⟩
theorem rG{a b:ae}:kK a b=true↔a.x0<b.x1/\b.x0<a.x1:=by simp[kK]
theorem zO(all:List ae){g f e:Nat}(N:∀a b,g<=a->a<b->b<f->(all.getD a bg).x1<(all.getD b bg).x0)(O:∀a b,f<=a->a<b->b<e->(all.getD a bg).x1<(all.getD b bg).x0):
  ∀(n:Nat) (u:List Int) (i j:Nat) (E:List (Nat×Nat)),g<=i->f<=j->f<=u.length->e<=u.length->(f-i)+(e-j)<=n->HL E u ->
   ∃D,HL (E++D) (ov all f e n u i j)/\(∀c∈D,(i<=c.1/\c.1<f)/\(j<=c.2/\c.2<e)/\kK (all.getD c.1 bg) (all.getD c.2 bg)=true)/\
    ∀a b,i<=a->a<f->j<=b->b<e->kK (all.getD a bg) (all.getD b bg)=true->(a,b)∈D
 | 0,u,i,j,E,_,_,_,_,hn,h=>⟨[],by rw[acw];exact h,fun c z=>(by cases z),fun a b L I=>by omega⟩
 | n+1,u,i,j,E,hi,hj,hf,he,hn,h=>by
  rw[ov];by_cases c:i<f/\j<e
  ·rw[aap c];obtain⟨D,R,d2,d3,d4⟩:∃D,HL (E++D) (if kK (all.getD i bg) (all.getD j bg)=true then gj u i j else u)/\(∀c∈D,c=(i,j)/\kK (all.getD i bg) (all.getD j bg)=true)/\
     (kK (all.getD i bg) (all.getD j bg)=true->(i,j)∈D)/\(if kK (all.getD i bg) (all.getD j bg)=true then gj u i j else u).length=u.length:=by
    by_cases o:kK (all.getD i bg) (all.getD j bg)=true
    ·rw[aap o];exact⟨[(i,j)],FA h (by omega) (by omega),fun c z=>⟨ab_.1 z,o⟩,fun _=>ab_.2 rfl,(mC h.uf (by omega) (by omega)).2⟩
    rw[aaa o];exact⟨[],by rw[acw];exact h,fun c z=>(by cases z),fun x=>absurd x o,rfl⟩
   generalize (if kK (all.getD i bg) (all.getD j bg)=true then gj u i j else u)=v at R d4 ⊢;by_cases x:(all.getD i bg).x1<(all.getD j bg).x1
   ·rw[aap x,aap x];obtain⟨U,e1,e2,V⟩:=zO all N O n v (i+1) j (E++D) (by omega) hj (by omega) (by omega) (by omega) R;refine⟨D++U,by rw[<-abx];exact e1,fun k hk=>?_,fun a b L I W J o=>?_⟩
    ·rcases abi.1 hk with hk | hk
     ·obtain⟨rfl,o⟩:=d2 k hk;exact⟨⟨aam _,c.1⟩,⟨aam _,c.2⟩,o⟩
     obtain⟨⟨a1,a2⟩,Y,Z⟩:=e2 k hk;exact⟨⟨by omega,a2⟩,Y,Z⟩
    by_cases ea:a=i
    ·subst ea;by_cases eb:b=j
     ·subst eb;exact abY _ (d3 o)
     have:=O j b hj (by omega) J;have:=rG.1 o;omega
    exact adt _ (V a b (by omega) I W J o)
   rw[aaa x,aaa x];obtain⟨U,e1,e2,V⟩:=zO all N O n v i (j+1) (E++D) hi (by omega) (by omega) (by omega) (by omega) R;refine⟨D++U,by rw[<-abx];exact e1,fun k hk=>?_,fun a b L I W J o=>?_⟩
   ·rcases abi.1 hk with hk | hk
    ·obtain⟨rfl,o⟩:=d2 k hk;exact⟨⟨aam _,c.1⟩,⟨aam _,c.2⟩,o⟩
    obtain⟨a1,⟨a2,Y⟩,Z⟩:=e2 k hk;exact⟨a1,⟨by omega,Y⟩,Z⟩
   by_cases eb:b=j
   ·subst eb;by_cases ea:a=i
    ·subst ea;exact abY _ (d3 o)
    have:=N i a hi (by omega) I;have:=rG.1 o;omega
   exact adt _ (V a b L I (by omega) J o)
  rw[aaa c];exact⟨[],by rw[acw];exact h,fun c z=>(by cases z),fun a b L I W J=>by omega⟩
def Dr(all:List ae)(f:Nat)(b:an):Prop:=∀m,m<b.xs.length->∃p,b.xs[m]?=some p/\all.getD (f+m) bg=⟨p.1,b.y0,p.2,b.y1⟩
variable {all:List ae} {s:List an}
theorem KX{f:Nat}{b:an}(h:all.drop f=told (b::s)):Dr all f b:=fun m z=>by
 have e:told (b::s)=b.xs.map (fun p=>(⟨p.1,b.y0,p.2,b.y1⟩:ae))++told s:=by simp[told]
 refine⟨b.xs[m],acg z,?_⟩;rw[ad4,<-aas,h,e,aaE (by simpa using z),aak,acg z];rfl
theorem zP{f:Nat}{b:an}(h:Dr all f b)(I:Canon b.xs):∀i j,f<=i->i<j->j<f+b.xs.length->(all.getD i bg).x1<(all.getD j bg).x0:=fun i j h1 h2 h3=>by
 obtain⟨p,J,z⟩:=h (i-f) (by omega);obtain⟨q,L,D⟩:=h (j-f) (by omega);rw[show f+(i-f)=i by omega]at z;rw[show f+(j-f)=j by omega]at D;rw[z,D];obtain⟨N,O⟩:=aao.1 J;obtain⟨R,U⟩:=aao.1 L;have:=aaS.1 (wX I) (i-f) (j-f) N R (by omega);rw[O,U]at this;exact this
theorem oz{f:Nat}{b:an}(h:Dr all f b)(D:Canon b.xs){i:Nat}(h1:f<=i)(h2:i<f+b.xs.length):(all.getD i bg).y0=b.y0/\(all.getD i bg).y1=b.y1/\(all.getD i bg).x0<(all.getD i bg).x1:=by
 obtain⟨p,I,z⟩:=h (i-f) (by omega);rw[show f+(i-f)=i by omega]at z;rw[z];exact⟨rfl,rfl,ga D p (aad I)⟩
theorem BV(all:List ae):∀(s:List an) (p:Option an) (u:List Int) (f g:Nat) (E:List (Nat×Nat)),bE s->u.length=all.length->all.drop f=told s->HL E u ->
  (∀q,p=some q->bE (q::s)/\f=g+q.xs.length/\Dr all g q)->(p=none->f=g)->(∀a,a<g->∀t∈s,(all.getD a bg).y1<t.y0)->
   ∃D,HL (E++D) (pW all p s u f g)/\(∀c∈D,en (all.getD c.1 bg) (all.getD c.2 bg)=true)/\∀a b,f<=b->b<all.length->a<b->en (all.getD a bg) (all.getD b bg)=true->(a,b)∈D
 | [],p,u,f,g,E,Z,hl,hd,h,hp,hn,S4=>by
  refine⟨[],by rw[acw];exact h,fun c z=>(by cases z),fun a b I J=>?_⟩;have:=adV List.length hd;simp[told]at this;omega
 | b::s,p,u,f,g,E,Z,hl,hd,h,hp,hn,S4=>by
  have hb:=Z.head;have V:=KX hd;have el:(told (b::s)).length=b.xs.length+(told s).length:=by simp[told]
  have hfl:f+b.xs.length<=all.length:=by
   have:=adV List.length hd;rw[aaN,el]at this;have b8:=hb.lt;rcases aen all.length f with g1 | g1
   ·have:b.xs.length=0:=by omega
    exact absurd (adN.1 this) hb.ne
   omega
  have Qp:all.drop (f+b.xs.length)=told s:=by
   have e:told (b::s)=b.xs.map (fun p=>(⟨p.1,b.y0,p.2,b.y1⟩:ae))++told s:=by simp[told]
   rw[<-ad7,hd,e,List.drop_append_of_le_length (by simp),ab1 (by simp),acZ]
  rw[pW];obtain⟨D,d1,d2,d3,d4⟩:∃D,HL (E++D) (if meets p b=true then ov all f (f+b.xs.length) (f-g+b.xs.length) u g f else u)/\(∀c∈D,en (all.getD c.1 bg) (all.getD c.2 bg)=true)/\
    (∀x y,g<=x->x<f->f<=y->y<f+b.xs.length->en (all.getD x bg) (all.getD y bg)=true->(x,y)∈D)/\(if meets p b=true then ov all f (f+b.xs.length) (f-g+b.xs.length) u g f else u).length=u.length:=by
   cases p with
   | none=>
    have:=hn rfl;exact⟨[],by rw[acw];exact h,fun c z=>(by cases z),fun x y I J=>by omega,rfl⟩
   | some q=>
    obtain⟨q1,q2,q3⟩:=hp q rfl;have R:=q1.head;have qb:=q1.fM b adU;have oF:=R.lt;have JC:=hb.lt;have ty:∀x y,g<=x->x<f->f<=y->y<f+b.xs.length->dO (all.getD x bg) (all.getD y bg)=q.y1-b.y0:=fun x y I J L W=>by
     obtain⟨a1,a2,_⟩:=oz q3 R.can I (by omega);obtain⟨b1,b2,_⟩:=oz V hb.can L W;simp only[dO,a1,a2,b1,b2];omega
    by_cases m:meets (some q) b=true
    ·rw[aap m];have m:q.y1=b.y0:=adw m;obtain⟨D,e1,e2,e3⟩:=zO all (g:=g) (f:=f) (e:=f+b.xs.length) (by rw[q2];exact zP q3 R.can) (zP V hb.can) (f-g+b.xs.length) u g f E (aam _) (aam _) (by omega) (by omega) (by omega) h;refine⟨D,e1,fun c z=>?_,fun x y I J L W N=>?_,(xP all f _ _ u g f h.uf (by omega) (by omega)).2⟩
     ·obtain⟨⟨c1,c2⟩,⟨Y,c4⟩,o⟩:=e2 c z;have o:=rG.1 o;have y:=ty _ _ c1 c2 Y c4;obtain⟨_,_,a3⟩:=oz q3 R.can c1 (by omega);obtain⟨_,_,b3⟩:=oz V hb.can Y c4;exact jY.2 (.inl ⟨by simp only[dN];omega,by omega⟩)
     have y:=ty _ _ I J L W;refine e3 x _ I J L W (rG.2 ?_);rcases jY.1 N with⟨O,U⟩ | ⟨O,U⟩
     ·simp only[dN]at O;omega
     omega
    rw[aaa m];have m:¬q.y1=b.y0:=fun e=>m (acd e);refine⟨[],by rw[acw];exact h,fun c z=>(by cases z),fun x y I J L W N=>?_,rfl⟩;have y:=ty _ _ I J L W;rcases jY.1 N with⟨O,U⟩ | ⟨O,U⟩<;>omega
  generalize (if meets p b=true then ov all f (f+b.xs.length) (f-g+b.xs.length) u g f else u)=v at d1 d4 ⊢;have Yn:∀a,a<f->∀t∈s,(all.getD a bg).y1<t.y0:=fun a ha t N=>by
   have I:=Z.fM t N;have J:=hb.lt;rcases aen a g with c | c
   ·have:=S4 a c b adU;omega
   cases p with
   | none=>have:=hn rfl;omega
   | some q=>
    obtain⟨q1,q2,q3⟩:=hp q rfl;have L:=q1.fM b adU;obtain⟨_,a2,_⟩:=oz q3 q1.head.can c (by omega);omega
  obtain⟨D',e1,e2,e3⟩:=BV all s (some b) v (f+b.xs.length) f (E++D) Z.tail (by omega) Qp d1 (fun q R=>by injection R with R;subst R;exact⟨Z,rfl,V⟩) (fun x=>by cases x) Yn;refine⟨D++D',by rw[<-abx];exact e1,fun c z=>?_,fun x y I J L N=>?_⟩
  ·rcases abi.1 z with z | z
   ·exact d2 c z
   exact e2 c z
  rcases aen y (f+b.xs.length) with c | c
  ·obtain⟨b1,b2,b3⟩:=oz V hb.can I c;rcases aen x g with c2 | c2
   ·have l:=S4 x c2 b adU;rcases jY.1 N with⟨O,U⟩ | ⟨O,U⟩<;>simp only[dO]at U<;>omega
   rcases aen x f with Y | Y
   ·exact abY _ (d3 x y c2 Y I c N)
   have l:=zP V hb.can x y Y L c;rcases jY.1 N with⟨O,U⟩ | ⟨O,U⟩<;>simp only[dN]at O<;>omega
  exact adt _ (e3 x y c J L N)
def cN(r:List ae)(a b:Nat):Bool:=en (r.getD a bg) (r.getD b bg)
theorem FB(h:bE s):Ym (cQ (jE s)) (cN (told s)) (told s).length:=by
 obtain⟨D,z,U,L⟩:=BV (told s) s none (iota (told s).length) 0 0 [] h (aeM _) rfl (Fz _) (fun q I=>by cases I) (fun _=>rfl) (fun a N=>by omega);have z:HL D (jE s):=z;have len:=(zv s).2;have J:=rz z.uf;rw[len]at J;refine⟨J,fun a b N hb I=>?_,fun S hS k hk hp=>?_⟩
 ·rcases ada a b with c | c | c
  ·exact (ae8 z.uf (by omega) (by omega)).1 (z.edge _ (L a b (by omega) hb c I)).2.2
  ·rw[c]
  rw[cN,zN]at I;exact ((ae8 z.uf (by omega) (by omega)).1 (z.edge _ (L b a (by omega) N c I)).2.2).symm
 refine (z.cl S (fun e O=>?_) (cQ (jE s) k) k ?_).1 hp
 ·obtain⟨l1,l2,_⟩:=z.edge e O;have R:=U e O;exact⟨fun g=>hS _ _ (by omega) (by omega) g R,fun g=>hS _ _ (by omega) (by omega) g (by rw[cN,zN];exact R)⟩
 have:=J.le k hk;exact (ae8 z.uf (by omega) (by omega)).2 (J.top k hk)
theorem HM{l m:List ae}(hl:∀r∈l,Full r)(h:∀r,r∈l↔r∈m):aB l=aB m:=by
 obtain⟨I,J,_⟩:=aR hl;obtain⟨L,N,_⟩:=aR (l:=m) fun r O=>hl r ((h r).2 O);refine iK _ _ I L fun x y=>?_;rw[J,N,abb,aci,aci];exact⟨fun ⟨r,z,D⟩=>⟨r,(h r).1 z,D⟩,fun ⟨r,z,D⟩=>⟨r,(h r).2 z,D⟩⟩
def Jh(r:List ae):List (List ae):=(NI (cN r) r.length).map fun L=>bR (L.map fun k=>r.getD k bg)
theorem Ds(h:bE s):Jh (told s)=(cV s).map told:=by
 have D:=FB h;obtain⟨_,_,M,I,J⟩:=rF D (told s).length (aam _);rw[Jh,NI,I,cV,ox,aP,ad6,ad6,ad6,ad6];refine aaG fun r L=>?_;show told (aB _)=told (aB _);have N:=bP h;have z:=J r L;rw[HM]
 ·intro q O;obtain⟨k,hk,rfl⟩:=adS.1 O;have:=((z k).1 hk).1;exact N _ (by rw[ad4,acg this];exact adn this)
 intro q;simp only[adS];constructor
 ·rintro⟨k,hk,e⟩;exact⟨k,dx.2 ((z k).1 hk),e⟩
 rintro⟨k,hk,e⟩;exact⟨k,(z k).2 (dx.1 hk),e⟩
def dD(l:List ae):ae:=l.getD 0 bg
def kX(x:ae)(l:List (List ae)):Nat->Nat
 | 0=>0
 | k+1=>if before x (dD (l.getD k []))=true then kX x l k else k+1
def zQ(l:List (List ae))(r:List ae):List (List ae):=(l.take (kX (dD r) l l.length)++[r])++l.drop (kX (dD r) l l.length)
theorem NJ{l:List (List ae)}{r:List ae}(h:∀t,l.getLast?=some t->before (dD r) (dD t)=false):zQ l r=l++[r]:=by
 have e:kX (dD r) l l.length=l.length:=by
  cases hn:l.length with
  | zero=>rfl
  | succ k=>
   rw[kX];have hk:l[k]?=some l[k]:=acg (by omega);rw[aaa];rw[ad4,hk];have:=h l[k] (by rw[acB,show l.length-1=k by omega];exact hk);simp only[acy,this];simp
 rw[zQ,e,abU,List.drop_length,acw]
def nN(r:List ae)(s:List Bool×List (List ae))(i:Nat):List Bool×List (List ae):=
 if s.1.getD i true=true then s else ((kL (cN r) r.length r.length 0 (s.1.set i true,[i])).1,zQ s.2 (bR ((kL (cN r) r.length r.length 0 (s.1.set i true,[i])).2.map fun k=>r.getD k bg)))
def cB(r:List ae)(i:Nat):List Bool×List (List ae):=(List.range i).foldl (nN r) (List.replicate r.length false,[])
def lU(r:List ae):List (List ae):=(cB r r.length).2
theorem iz(r:List ae)(i:Nat):cB r (i+1)=nN r (cB r i) i:=by simp[cB,ac2,aaD]
theorem HN{a b:ae}:before a b=false↔¬(a.y0<b.y0\/(a.y0=b.y0/\a.x0<b.x0)):=by
 rw[<-Bool.not_eq_true,gN]
theorem HO{l:List ae}(hl:∀r∈l,Full r){q:ae}(L:q∈l)(h:∀r∈l,q.y0<r.y0\/(q.y0=r.y0/\q.x0<=r.x0)):(dD (bR l)).y0=q.y0/\(dD (bR l)).x0=q.x0:=by
 obtain⟨D,I,_⟩:=aR hl;have N:=hl q L;have z:at' (aB l) q.x0 q.y0=true:=by
  rw[I,aci];exact⟨q,L,aQ.2 ⟨acP _,N.1,acP _,N.2⟩⟩
 rw[bR];cases e:aB l with
 | nil=>rw[e]at z;cases z
 | cons b s=>
  rw[e]at D I z;have hb:=D.head;cases ex:b.xs with
  | nil=>exact absurd ex hb.ne
  | cons p t=>
   have e1:dD (told (b::s))=⟨p.1,b.y0,p.2,b.y1⟩:=by simp[dD,told,ex]
   rw[e1];show b.y0=q.y0/\p.1=q.x0;have J:=hb.can;rw[ex]at J;have hp:=J.head;have U:=hb.lt;have O:at' (b::s) p.1 b.y0=true:=qB.2 ⟨b,adU,acP _,U,(cu hb.can _).2 ⟨p,by rw[ex];exact adU,acP _,hp⟩⟩;rw[I,aci]at O;obtain⟨r,V,W⟩:=O;obtain⟨r1,r2,r3,r4⟩:=aQ.1 W;have hqr:=h r V;obtain⟨c,Y,c1,c2,Z⟩:=qB.1 z;have eb:c=b:=by
    rcases adq.1 Y with g | g
    ·exact g
    have:=D.fM c g;omega
   subst eb;obtain⟨u,R,u1,u2⟩:=(cu hb.can _).1 Z;rw[ex]at R;have:p.1<=u.1:=by
    rcases adq.1 R with g | g
    ·rw[g];exact acP _
    have:=J.behind u g;omega
   omega
theorem sd(h:bE s):∀i,i<=(told s).length ->
  (cB (told s) i).1=((List.range i).foldl (mK (cN (told s)) (told s).length) (List.replicate (told s).length false,[])).1 /\
  (cB (told s) i).2=((List.range i).foldl (mK (cN (told s)) (told s).length) (List.replicate (told s).length false,[])).2.map fun L=>bR (L.map fun k=>(told s).getD k bg)
 | 0,_=>⟨rfl,rfl⟩
 | i+1,hi=>by
  obtain⟨R,J⟩:=sd h i (by omega);have W:=FB h;obtain⟨_,_,M,U,m2⟩:=rF W i (by omega);obtain⟨_,_,M',N,Y⟩:=rF W (i+1) hi;rw[iz];have TB:(List.range (i+1)).foldl (mK (cN (told s)) (told s).length) (List.replicate (told s).length false,[])=mK (cN (told s)) (told s).length ((List.range i).foldl (mK (cN (told s)) (told s).length) (List.replicate (told s).length false,[])) i:=by
   rw[ac2,aaD];rfl
  rw[TB]at N ⊢;generalize (List.range i).foldl (mK (cN (told s)) (told s).length) (List.replicate (told s).length false,[])=w at R J U N ⊢;generalize cB (told s) i=v at R J ⊢;rw[nN,mK]at *;rw[R];by_cases c:w.1.getD i true=true
  ·rw[aap c,aap c];exact⟨R,J⟩
  rw[aaa c]at N ⊢;rw[aaa c];refine⟨rfl,?_⟩;generalize kL (cN (told s)) (told s).length (told s).length 0 (w.1.set i true,[i])=z at N ⊢;show zQ v.2 (bR (z.2.map _))=_;have D:∀k,k<(told s).length->(told s)[k]?=some ((told s).getD k bg):=fun k hk=>by rw[ad4,acg hk];rfl
  have fl:=bP h;have O:∀a b,a<b->b<(told s).length->before ((told s).getD a bg) ((told s).getD b bg)=true:=fun a b h1 h2=>by
   obtain⟨a1,a2⟩:=aao.1 (D a (by omega));obtain⟨b1,b2⟩:=aao.1 (D b h2);have:=aaS.1 (pk h) a b a1 b1 h1;rw[a2,b2]at this;exact this
  have hd:∀(r:Nat) (L:List Nat),r<(told s).length->cQ (jE s) r=r->(∀k,k∈L↔k<(told s).length/\cQ (jE s) k=r)->
    (dD (bR (L.map fun k=>(told s).getD k bg))).y0=((told s).getD r bg).y0/\(dD (bR (L.map fun k=>(told s).getD k bg))).x0=((told s).getD r bg).x0:=fun r L V hp Z=>by
   refine HO (fun q hq=>?_) (adS.2 ⟨r,(Z r).2 ⟨V,hp⟩,rfl⟩) fun q hq=>?_
   ·obtain⟨k,hk,rfl⟩:=adS.1 hq;exact fl _ (aad (D k ((Z k).1 hk).1))
   obtain⟨k,hk,rfl⟩:=adS.1 hq;obtain⟨k1,k2⟩:=(Z k).1 hk;have:=W.tops.le k k1;by_cases e:r=k
   ·subst e;exact .inr ⟨rfl,acP _⟩
   have:=gN.1 (O r k (by omega) k1);omega
  have I:w.2++[z.2]=(cd (cQ (jE s)) (i+1)).map M':=N;rw[fE]at I Y;by_cases pi:cQ (jE s) i=i
  ·rw[aap pi]at I Y;rw[abE]at I;have zi:=(List.append_inj I (by rw[U];simp)).2;have zi:z.2=M' i:=by simpa using zi
   have mz:=Y i (adt _ (ab_.2 rfl));rw[<-zi]at mz;rw[NJ,J,abE]
   ·rfl
   intro t ht;rw[J,U,ad6]at ht;obtain⟨r,V,rfl⟩:=adS.1 (acp ht);obtain⟨r1,r2⟩:=mem_keys.1 V;obtain⟨a1,a2⟩:=hd i z.2 (by omega) pi mz;obtain⟨b1,b2⟩:=hd r (M r) (by omega) r2 (m2 r V);have o:=gN.1 (O r i r1 (by omega));rw[HN];simp only[Function.comp]at *;omega
  rw[aaa pi]at I;have:=adV List.length I;rw[U]at this;simp at this
theorem uG(h:bE s):lU (told s)=(cV s).map told:=by
 rw[lU,(sd h _ (aam _)).2,<-Ds h];rfl
theorem pF(h:bE s):aB (told s)=s:=by
 obtain⟨z,D,_⟩:=aR (bP h);exact iK _ _ z h fun x y=>by rw[D,iy h]
theorem Ra{t:List an}(z:bE s)(D:bE t):aeB 1 (told s) (told t)=told (uo s t):=by rw[aeB,PY (bP z) (bP D),pF z,pF D]
theorem FC{t:List an}(z:bE s)(D:bE t):aeB 3 (told s) (told t)=told (bN s t):=by rw[aeB,KU (bP z) (bP D),pF z,pF D]
theorem qS{r:ae}(h:Full r):told (aB [r])=[r]:=by rw[vC h];rfl
theorem gz{r:ae}(h:Full r):bE (aB [r])/\∀x y,at' (aB [r]) x y=dE x y r:=by
 obtain⟨z,D,_⟩:=aR (l:=[r]) fun q I=>by rw[ab_.1 I];exact h
 exact⟨z,fun x y=>by rw[D];simp⟩
def dp(o q:ae):ae:=⟨min o.x0 q.x0,min o.y0 q.y0,max o.x1 q.x1,max o.y1 q.y1⟩
def dy(r:List ae):ae:=r.foldl dp (dD r)
theorem wY:∀(l:List ae) (o:ae),((l.foldl dp o).x0<=o.x0/\(l.foldl dp o).y0<=o.y0/\o.x1<=(l.foldl dp o).x1/\o.y1<=(l.foldl dp o).y1)/\
  (∀q∈l,(l.foldl dp o).x0<=q.x0/\(l.foldl dp o).y0<=q.y0/\q.x1<=(l.foldl dp o).x1/\q.y1<=(l.foldl dp o).y1)/\∀K,RK K o->(∀q∈l,RK K q)->RK K (l.foldl dp o)
 | [],o=>⟨⟨acP _,acP _,acP _,acP _⟩,fun q z=>(by cases z),fun K h _=>h⟩
 | p::l,o=>by
  obtain⟨⟨a1,a2,a3,a4⟩,b,c⟩:=wY l (dp o p);have e1:(dp o p).x0=min o.x0 p.x0:=rfl;have e2:(dp o p).y0=min o.y0 p.y0:=rfl;have e3:(dp o p).x1=max o.x1 p.x1:=rfl;have e4:(dp o p).y1=max o.y1 p.y1:=rfl;rw[aaq];refine⟨⟨by omega,by omega,by omega,by omega⟩,fun q z=>?_,fun K hK hl=>c K ?_ fun q z=>hl q (aaw _ z)⟩
  ·rcases adq.1 z with e | z
   ·rw[e];exact⟨by omega,by omega,by omega,by omega⟩
   exact b q z
  have:=hl p adU;unfold RK at *;omega
theorem pG(h:bE s)(L:s≠[]):Full (dy (told s))/\(∀x y,at' s x y=true->dE x y (dy (told s))=true)/\∀K,cv K s->RK K (dy (told s)):=by
 obtain⟨a,b,c⟩:=wY (told s) (dD (told s));have D:dD (told s)∈told s:=by
  have:told s≠[]:=fun e=>L (qD h e);rw[dD,ad4,acg (adj.2 this)];exact adn _
 have f:=bP h _ D;have f1:=f.1;have f2:=f.2;refine⟨⟨?_,?_⟩,fun x y I=>?_,fun K J=>c K (fR h J _ D) fun q z=>fR h J q z⟩
 ·show (List.foldl dp _ _).x0<(List.foldl dp _ _).x1;omega
 ·show (List.foldl dp _ _).y0<(List.foldl dp _ _).y1;omega
 rw[<-iy h,aci]at I;obtain⟨q,z,N⟩:=I;have:=b q z;obtain⟨g1,g2,g3,g4⟩:=aQ.1 N;exact aQ.2 ⟨by show (List.foldl dp _ _).x0<=x;omega,by show x<(List.foldl dp _ _).x1;omega,by show (List.foldl dp _ _).y0<=y;omega,by show y<(List.foldl dp _ _).y1;omega⟩
theorem FD(h:bE s){box:ae}(R:Full box){l r d u:Int}(hl:0<=l)(D:0<=r)(I:0<=d)(J:0<=u)
  (hb:∀x y,at' s x y=true->box.x0<=x-l/\x+r<box.x1/\box.y0<=y-d/\y+u<box.y1):bN s (a_ (bN (aB [box]) s) r l u d)=coreS s l r d u:=by
 obtain⟨U,V⟩:=gz R;obtain⟨W,L,_⟩:=b6 U h;obtain⟨Y,N,_⟩:=bW W D hl J I;obtain⟨e1,e2,_⟩:=b6 h Y;obtain⟨Z,k2,_⟩:=pe h hl D I J;refine iK _ _ e1 Z fun x y=>?_;rw[abb,k2,e2,aaZ,ael];constructor
 ·rintro⟨h1,h2⟩ a b g1 g2 g3 g4;cases qb:at' s a b with
  | true=>rfl
  | false=>
   have ha:=hb x y h1;have:at' (a_ (bN (aB [box]) s) r l u d) x y=true:=(N x y).2 ⟨a,b,by
    rw[L,V,qb,aQ.2 ⟨by omega,by omega,by omega,by omega⟩];rfl,by omega,by omega,by omega,by omega⟩
   rw[h2]at this;cases this
 intro z;refine⟨z x y (by omega) (by omega) (by omega) (by omega),?_⟩;rw[aaV];intro hp;obtain⟨a,b,O,g1,g2,g3,g4⟩:=(N x y).1 hp;rw[L,z a b (by omega) (by omega) (by omega) (by omega)]at O;simp at O
def ff(q:ae)(n:Int):ae:=⟨q.x0-n,q.y0-n,q.x1+n,q.y1+n⟩
theorem l6{q:ae}(h:Full q){n:Int}(h0:0<=n):Full (ff q n):=⟨by have:=h.1;show q.x0-n<q.x1+n;omega,by have:=h.2;show q.y0-n<q.y1+n;omega⟩
def Dt(r:List ae)(n:Int):List ae:=aeB 3 [ff (dy r) n] r
def xT(r:List ae)(n:Int):List ae:=if r.length=0 then [] else aeB 3 r (bR ((Dt r n).map fun q=>ff q n))
theorem wZ(h:bE s)(z:s≠[]){n:Int}(D:0<=n):Dt (told s) n=told (bN (aB [ff (dy (told s)) n]) s):=by
 have f:=l6 (pG h z).1 D;rw[Dt,<-qS f,FC (gz f).1 h,qS f]
theorem FE(h:bE s){n:Int}(z:0<=n):xT (told s) n=told (coreS s n n n n):=by
 rw[xT];by_cases D:s=[]
 ·subst D;rfl
 have I:(told s).length≠0:=fun e=>D (qD h (adN.1 e));obtain⟨J,L,_⟩:=pG h D;have f:=l6 J z;rw[aaa I,wZ h D z];have N:=(b6 (gz f).1 h).1;have e:bR ((told (bN (aB [ff (dy (told s)) n]) s)).map fun q=>ff q n)=told (a_ (bN (aB [ff (dy (told s)) n]) s) n n n n):=rfl;rw[e,FC h (bW N z z z z).1,FD h f z z z z];intro x y O;obtain⟨g1,g2,g3,g4⟩:=aQ.1 (L x y O);exact⟨by show (dy (told s)).x0-n<=_;omega,by show _<(dy (told s)).x1+n;omega,by show (dy (told s)).y0-n<=_;omega,by show _<(dy (told s)).y1+n;omega⟩
def noR(w:Int)(q:ae):ae:=⟨q.x0-w+1,q.y0-w+1,q.x1,q.y1⟩
def af3(w:Int)(q:ae):ae:=⟨q.x0,q.y0,q.x1+w-1,q.y1+w-1⟩
end Reg
end Go.Proofs.YtfloceomobknoaaGreatDoor
