/- Part 11 of the proof of RulesHolesMatchSpec. -/
import Derived.Test.YtfloceomobknoaaGreatDoorH10
set_option linter.unusedVariables false
set_option linter.unusedSimpArgs false
set_option maxRecDepth 100000
set_option maxHeartbeats 8000000
namespace Go
abbrev aef:=@List.length_eq_zero_iff
abbrev abV:=@List.Nodup.length_le_of_subset
end Go
namespace Go.AM
open Go.RowKit Go.ChangeShapes
section
variable {H:Type} {enc:TypeId×Value->H} {P:Program} {w:World} {S:Nat->Prop}
theorem NH{t:TypeId}(ht:P.underlying t=some .bool):IK enc P w S t 1 fun xs d=>∃b:Bool,xs=[.im (.bool b)]:=fun n cs x h=>by
 obtain⟨b,rfl,rfl⟩:=DataW.trod_bool ht h;exact⟨[.im (.bool b)],rfl,rfl,one_cell ⟨.im _,rfl⟩,b,rfl⟩
def nE(S:Nat->Prop)(w:World)(o:Nat)(xs:List PV)(cs:List Value):Prop:=∀(i:Nat) c v,xs[i]?=some c->cs[o+i]?=some v->aO S w c v/\v.oneCell'=true
theorem nE.join{o:Nat}{xs ys:List PV}{cs:List Value}(h:nE S w o xs cs)(k:nE S w (o+xs.length) ys cs):nE S w o (xs++ys) cs:=fun i c v h1 h2=>by
 by_cases e:i<xs.length
 ·rw[aaE e]at h1;exact h i c v h1 h2
 rw[acu (by omega)]at h1;refine k (i-xs.length) c v h1 ?_;rw[<-h2];congr 1;omega
theorem zI{t:TypeId}{fs:Array Field}(ht:P.underlying t=some (.struct fs))(ks:Nat->Nat)(hk:∀(i:Nat) (f:Field),fs[i]?=some f->P.cellsOf f.type=ks i)(Qs:Nat->List PV->DataW H->Prop)(hf:∀(i:Nat) (f:Field),fs[i]?=some f->IK enc P w S f.type (ks i) (Qs i)){n:Nat}{cs:List Value}{x:DataW H×List MemPlace}(h:DataW.trod enc P w 0 (fun _=>true) true n t cs=some x):
  cs.length=P.cellsOf t/\∃ds:List (DataW H),x.1=.agg ds/\ds.length=fs.size/\∀(i:Nat) (f:Field),fs[i]?=some f->∃xs d,xs.length=ks i/\nE S w f.offset xs cs/\ds[i]?=some d/\Qs i xs d:=by
 obtain⟨ys,m,_,rfl,hl,hlen,hy⟩:=DataW.trod_struct ht h;refine⟨hl,ys.map (·.1),rfl,by rw[aej,hlen],fun i f QV=>?_⟩;have hi:i<fs.size:=(ab9.1 QV).1;have QW:=hy i f QV;have UZ:ys[i]?=some ys[i]:=acg (by omega);rw[UZ,hk i f QV]at QW;obtain⟨xs,l1,l2,l3,l4⟩:=hf i f QV _ _ _ QW;refine⟨xs,ys[i].1,l1,fun j c v h1 h2=>l3 j c v h1 ?_,by rw[aak,UZ];rfl,l4⟩;have hj:=(aao.1 h1).1;rw[aa0 (by omega),aas];exact h2
end
end Go.AM
namespace Go.Proofs.YtfloceomobknoaaGreatDoor
namespace M
open Go.AM Go.RowKit Go.Lib
open Reg (ae aU an aS fo fS)
variable {H:Type} {enc:TypeId×Value->H} {w:World} {S:Nat->Prop}
theorem Yk:Sp enc w S 4 1 (fun b=>[bool b]) fun _ _=>True:=fun n cs x h=>by
 obtain⟨xs,l1,l2,l3,b,e⟩:=NH (S:=S) acm n cs x h;exact⟨xs,l1,l2,l3,b,e,trivial⟩
def SY(P:Program)(fs:Array Field)(ks:Nat->Nat):Bool:=(List.range fs.size).all fun i=>match fs[i]? with
 | some f=>Nat.beq (P.cellsOf f.type) (ks i)
 | none=>true
theorem Fw{P:Program}{fs:Array Field}{ks:Nat->Nat}(h:SY P fs ks=true):∀(i:Nat) (f:Field),fs[i]?=some f->P.cellsOf f.type=ks i:=fun i f hf=>by
 have hi:=(ab9.1 hf).1;have:=abh.1 h i (abD.2 hi);rw[hf]at this;exact aa2 this
theorem PU:Sp enc w S 95 6 bc fun _ _=>True:=fun n cs x h=>by
 obtain⟨hl,ds,e,ld,q⟩:=zI (S:=S) (ks:=fun i=>match i with | 0=>2 | _=>1) (hk:=Fw (by kernel_rfl)) (Qs:=fun i xs d=>match i with
   | 0=>∃p:Int×Int,xs=[i64 p.1,i64 p.2]/\True
   | 4=>∃b,xs=[bool b]/\True
   | _=>∃n,xs=[i64 n]/\True) Tryz.underlying95 (fun i f hf=>by
  match i,hf with
  | 0,hf=>cases hf;exact EL
  | 1,hf=>cases hf;exact sL
  | 2,hf=>cases hf;exact sL
  | 3,hf=>cases hf;exact sL
  | 4,hf=>cases hf;exact Yk
  | n+5,hf=>cases hf) h
 have hl:cs.length=6:=hl.trans (by kernel_rfl);obtain⟨x0,_,_,r0,_,p,e0,_⟩:=q 0 _ rfl;obtain⟨x1,_,_,r1,_,n1,e1,_⟩:=q 1 _ rfl;obtain⟨x2,_,_,r2,_,n2,e2,_⟩:=q 2 _ rfl;obtain⟨x3,_,_,r3,_,n3,e3,_⟩:=q 3 _ rfl;obtain⟨x4,_,_,r4,_,b4,e4,_⟩:=q 4 _ rfl;cases e0;cases e1;cases e2;cases e3;cases e4;have rel:nE S w 0 ([i64 p.1,i64 p.2]++([i64 n1]++([i64 n2]++([i64 n3]++[bool b4])))) cs:=nE.join r0 (nE.join r1 (nE.join r2 (nE.join r3 r4)));exact⟨_,rfl,hl,fun i c v h1 h2=>rel i c v h1 (by rw[abC];exact h2),⟨p.1,p.2,n1,n2,n3,b4⟩,Z,Y⟩
def zJ(l:fo)(n:Nat):Prop:=l.part.size<=n/\l.pin.size<=n
theorem qQ(l:fo)(m n:Nat)(h:m<=n):zJ l m->zJ l n:=fun ⟨h1,h2⟩=>⟨aaF h1 h,aaF h2 h⟩
theorem PX:Sp enc w S 201 5 lc zJ:=fun n cs x h=>by
 obtain⟨hl,ds,e,ld,q⟩:=zI (S:=S) (ks:=fun i=>match i with | 3=>2 | _=>1) (hk:=Fw (by kernel_rfl)) (Qs:=fun i xs d=>match i with
   | 0=>∃s,xs=[str s]/\s.size<=Rows.uptoBulk d
   | 1=>∃s,xs=[str s]/\s.size<=Rows.uptoBulk d
   | 2=>∃n,xs=[i64 n]/\True
   | _=>∃p:Int×Int,xs=[i64 p.1,i64 p.2]/\True) Tryz.underlying201 (fun i f hf=>by
  match i,hf with
  | 0,hf=>cases hf;exact Pz
  | 1,hf=>cases hf;exact Pz
  | 2,hf=>cases hf;exact sL
  | 3,hf=>cases hf;exact EL
  | n+4,hf=>cases hf) h
 have hl:cs.length=5:=hl.trans (by kernel_rfl);obtain⟨x0,y0',_,r0,i0,n0,e0,b0⟩:=q 0 _ rfl;obtain⟨x1,y1',_,r1,i1,n1,e1,b1⟩:=q 1 _ rfl;obtain⟨x2,_,_,r2,_,n2,e2,_⟩:=q 2 _ rfl;obtain⟨x3,_,_,r3,_,p,e3,_⟩:=q 3 _ rfl;cases e0;cases e1;cases e2;cases e3;have rel:nE S w 0 ([str n0]++([str n1]++([i64 n2]++[i64 p.1,i64 p.2]))) cs:=nE.join r0 (nE.join r1 (nE.join r2 r3));have j0:=nK i0;have j1:=nK i1;rw[<-e]at j0 j1;exact⟨_,rfl,hl,fun i c v h1 h2=>rel i c v h1 (by rw[abC];exact h2),⟨n0,n1,n2,p.1,p.2⟩,rfl,aaF b0 j0,aaF b1 j1⟩
def Je(a:fS)(n:Nat):Prop:=a.coppers.length<=n/\(∀r∈a.coppers,r.length<=n)/\a.outline.length<=n/\a.bores.length<=n/\a.lands.length<=n/\∀l∈a.lands,zJ l n
theorem SZ(hS:∀b,b<w.heap.size->S b):Sp enc w S 27 4 dX Je:=fun n cs x h=>by
 obtain⟨xs,l1,l2,l3,ds,e,ld,q⟩:=jP (S:=S) (Qs:=fun i xs d=>match i with
   | 0=>∃r:List (List ae),xs=[.sl (r.map fun q=>[aj q])]/\(r.length<=Rows.uptoBulk d/\∀c∈r,(c.length<=Rows.uptoBulk d/\∀z∈c,True))
   | 1=>∃r,xs=[aj r]/\(r.length<=Rows.uptoBulk d/\∀z∈r,True)
   | 2=>∃r:List aS,xs=[.sl (r.map bc)]/\(r.length<=Rows.uptoBulk d/\∀c∈r,True)
   | _=>∃r:List fo,xs=[.sl (r.map lc)]/\(r.length<=Rows.uptoBulk d/\∀c∈r,zJ c (Rows.uptoBulk d))) Tryz.underlying27 (adi (by kernel_rfl)) (by kernel_rfl) (fun i f hf=>by
  match i,hf with
  | 0,hf=>cases hf;exact mA (k:=1) Tryz.underlying23 (by kernel_rfl) (by decide) hS (fun r m n h ⟨h1,h2⟩=>⟨aaF h1 h,h2⟩) (yZ hS)
  | 1,hf=>cases hf;exact yZ hS
  | 2,hf=>cases hf;exact mA (k:=6) Tryz.underlying24 (by kernel_rfl) (by decide) hS (fun _ _ _ _ h=>h) PU
  | 3,hf=>cases hf;exact mA (k:=5) Tryz.underlying25 (by kernel_rfl) (by decide) hS qQ PX
  | n+4,hf=>cases hf) _ _ _ h
 have l1:xs.length=4:=l1;have ld:ds.length=4:=ld;obtain⟨a,b,c,d,rfl⟩:∃a b c d,xs=[a,b,c,d]:=by
  match xs,l1 with
  | [a,b,c,d],_=>exact⟨a,b,c,d,rfl⟩
 obtain⟨a',b',c',d',rfl⟩:∃a b c d,ds=[a,b,c,d]:=by
  match ds,ld with
  | [a,b,c,d],_=>exact⟨a,b,c,d,rfl⟩
 obtain⟨n0,e0,p0,p0'⟩:=q 0 _ _ rfl rfl;obtain⟨n1,e1,p1,_⟩:=q 1 _ _ rfl rfl;obtain⟨n2,e2,p2,_⟩:=q 2 _ _ rfl rfl;obtain⟨n3,e3,p3,p3'⟩:=q 3 _ _ rfl rfl;cases e0;cases e1;cases e2;cases e3;have i0:=nK (ds:=[a',b',c',d']) (i:=0) rfl;have i1:=nK (ds:=[a',b',c',d']) (i:=1) rfl;have i2:=nK (ds:=[a',b',c',d']) (i:=2) rfl;have i3:=nK (ds:=[a',b',c',d']) (i:=3) rfl;rw[<-e]at i0 i1 i2 i3;exact⟨_,rfl,l2,l3,⟨n0,n1,n2,n3⟩,rfl,by exact aaF p0 i0,fun r hr=>aaF (p0' r hr).1 i0,by exact aaF p1 i1,by exact aaF p2 i2,by exact aaF p3 i3,fun l hl=>qQ l _ _ i3 (p3' l hl)⟩
theorem HI(a:fS)(m n:Nat)(h:m<=n):Je a m->Je a n:=fun ⟨h1,h2,h3,h4,h5,h6⟩=>⟨by omega,fun r hr=>aaF (h2 r hr) h,by omega,by omega,by omega,fun l hl=>qQ l _ _ h (h6 l hl)⟩
theorem S0{a:fS}(h:Je a 1048576):ly a:=⟨h.1,h.2.1,h.2.2.1,h.2.2.2.1,h.2.2.2.2.1,fun l hl=>⟨M_ (h.2.2.2.2.2 l hl).1,M_ (h.2.2.2.2.2 l hl).2⟩⟩
end M
namespace Reg
def gR(w:Int)(p q:Bool):Bool:=(decide (w=1)&&(p||q)||(decide (w=2)&&p)&&q)||(decide (w=3)&&p)&&!q
theorem mJ(w:Int):gR w false false=false:=by simp[gR]
def aL(s:aU)(x:Int):Bool:=s.any fun p=>decide (p.1<=x)&&decide (x<p.2)
variable {s:aU}
theorem jw{x:Int}:aL s x=true↔cover s x:=by simp[aL,cover]
theorem zK(h:Canon s)(x:Int):aL s x=par (bw s) x:=by
 rw[abb,jw,cu h]
def fH(xs:List Int)(s:aU):List Int:=s.foldl (fun xs p=>put (put xs p.1) p.2) xs
theorem jX:∀(s:aU) (xs:List Int),bF xs->bF (fH xs s)/\∀y,y∈fH xs s↔y∈xs\/∃p∈s,y=p.1\/y=p.2
 | [],xs,h=>⟨h,fun y=>by simp[fH]⟩
 | p::s,xs,h=>by
  obtain⟨i1,i2⟩:=jX s (put (put xs p.1) p.2) (iG _ _ (iG _ _ h));refine⟨i1,fun y=>?_⟩;show y∈fH (put (put xs p.1) p.2) s↔_;rw[i2,tO,tO];simp only[adq,exists_eq_or_imp];constructor
  ·rintro (((h | h) | h) | h)
   ·exact .inl h
   ·exact .inr (.inl (.inl h))
   ·exact .inr (.inl (.inr h))
   exact .inr (.inr h)
  rintro (h | ((h | h) | h))
  ·exact .inl (.inl (.inl h))
  ·exact .inl (.inl (.inr h))
  ·exact .inl (.inr h)
  exact .inr h
def hY(w:Int)(a b:aU)(xs:List Int):Nat->aU
 | 0=>[]
 | i+1=>if gR w (aL a (xs.getD i 0)) (aL b (xs.getD i 0))=true then dG (hY w a b xs i) (xs.getD i 0) (xs.getD (i+1) 0) else hY w a b xs i
def fI(a b:aU):List Int:=fH (fH [] a) b
def mixed(w:Int)(a b:aU):aU:=hY w a b (fI a b) ((fI a b).length-1)
theorem Dp(a b:aU):bF (fI a b)/\∀y,y∈fI a b↔(∃p∈a,y=p.1\/y=p.2)\/∃p∈b,y=p.1\/y=p.2:=by
 obtain⟨h1,h2⟩:=jX a [] List.Pairwise.nil;obtain⟨h3,h4⟩:=jX b _ h1;exact⟨h3,fun y=>by rw[fI,h4,h2];simp⟩
theorem wT{xs:List Int}(hr:bF xs)(hm:∀p∈s,p.1∈xs/\p.2∈xs){k:Nat}{u v x:Int}(hu:xs[k]?=some u)(hv:xs[k+1]?=some v)(h1:u<=x)(h2:x<v):aL s u=aL s x:=by
 rw[abb,jw,jw];constructor
 ·rintro⟨p,hp,a,b⟩;have g1:=Q0 hr hu hv (hm p hp).1;have g2:=Q0 hr hu hv (hm p hp).2;exact⟨p,hp,by omega,by omega⟩
 rintro⟨p,hp,a,b⟩;have g1:=Q0 hr hu hv (hm p hp).1;have g2:=Q0 hr hu hv (hm p hp).2;exact⟨p,hp,by omega,by omega⟩
theorem uD{xs:List Int}(hr:bF xs){a c:Int}(ha:xs[0]?=some a)(hc:c∈xs):a<=c:=by
 cases xs with
 | nil=>cases hc
 | cons u t=>
  simp at ha;subst ha;rcases adq.1 hc with rfl | hc
  ·exact acP _
  exact Int.le_of_lt ((ade.1 hr).1 c hc)
theorem wU{xs:List Int}(hr:bF xs){a c:Int}(ha:xs[xs.length-1]?=some a)(hc:c∈xs):c<=a:=by
 obtain⟨j,hj⟩:=ab8.1 hc;obtain⟨a1,a2⟩:=aao.1 ha;obtain⟨j1,j2⟩:=aao.1 hj;rcases aen j (xs.length-1) with e | e
 ·have:=aaS.1 hr j _ j1 a1 e;omega
 have:j=xs.length-1:=by omega
 subst this;rw[a2]at j2;omega
theorem wV{xs:List Int}(hr:bF xs){k:Nat}{a b:Int}(ha:xs[k]?=some a)(hb:xs[k+1]?=some b):a<b:=by
 obtain⟨a1,a2⟩:=aao.1 ha;obtain⟨b1,b2⟩:=aao.1 hb;have:=aaS.1 hr k (k+1) a1 b1 (by omega);omega
theorem wW(w:Int){a b:aU}{xs:List Int}(hr:bF xs)(ha:∀p∈a,p.1∈xs/\p.2∈xs)(hb:∀p∈b,p.1∈xs/\p.2∈xs):∀(k:Nat) (y:Int),xs[k]?=some y ->
  Canon (hY w a b xs k)/\∀x,cover (hY w a b xs k) x↔x<y/\gR w (aL a x) (aL b x)=true
 | 0,y,hy=>by
  refine⟨trivial,fun x=>⟨fun h=>absurd h (eQ x),fun ⟨h1,h2⟩=>?_⟩⟩;have no:∀s:aU,(∀p∈s,p.1∈xs/\p.2∈xs)->aL s x=false:=fun s hs=>by
   rw[aaV];intro h;obtain⟨p,hp,h3,_⟩:=jw.1 h;have:=uD hr hy (hs p hp).1;omega
  rw[no a ha,no b hb,mJ]at h2;cases h2
 | k+1,y,hy=>by
  obtain⟨y',cm⟩:∃y',xs[k]?=some y':=by
   have:=(aao.1 hy).1;exact⟨_,acg (by omega)⟩
  obtain⟨i1,i2⟩:=wW w hr ha hb k y' cm;have eF:=wV hr cm hy;rw[hY,getD_some cm,getD_some hy];have go:∀x,y'<=x->x<y->(gR w (aL a y') (aL b y')=gR w (aL a x) (aL b x)):=fun x h1 h2=>by
   rw[wT hr ha cm hy h1 h2,wT hr hb cm hy h1 h2]
  by_cases c:gR w (aL a y') (aL b y')=true
  ·rw[aap c];obtain⟨j1,j2,_⟩:=tN (hY w a b xs k) y' y i1 eF;refine⟨j1,fun x=>?_⟩;rw[j2,i2];constructor
   ·rintro (⟨h1,h2⟩ | ⟨h1,h2⟩)
    ·exact⟨by omega,h2⟩
    exact⟨h2,(go x h1 h2)▸c⟩
   rintro⟨h1,h2⟩;by_cases h3:x<y'
   ·exact .inl ⟨h3,h2⟩
   exact .inr ⟨by omega,h1⟩
  rw[aaa c];refine⟨i1,fun x=>?_⟩;rw[i2];constructor
  ·rintro⟨h1,h2⟩;exact⟨by omega,h2⟩
  rintro⟨h1,h2⟩;refine⟨?_,h2⟩;by_cases h3:x<y'
  ·exact h3
  exact absurd ((go x (by omega) h1).trans h2) c
theorem Fx(w:Int){a b:aU}(ha:Canon a)(hb:Canon b):Canon (mixed w a b)/\∀x,par (bw (mixed w a b)) x=gR w (par (bw a) x) (par (bw b) x):=by
 obtain⟨hr,hm⟩:=Dp a b;have ma:∀p∈a,p.1∈fI a b/\p.2∈fI a b:=fun p hp=>⟨(hm _).2 (.inl ⟨p,hp,.inl rfl⟩),(hm _).2 (.inl ⟨p,hp,.inr rfl⟩)⟩;have mb:∀p∈b,p.1∈fI a b/\p.2∈fI a b:=fun p hp=>⟨(hm _).2 (.inr ⟨p,hp,.inl rfl⟩),(hm _).2 (.inr ⟨p,hp,.inr rfl⟩)⟩;have key:Canon (mixed w a b)/\∀x,cover (mixed w a b) x↔gR w (aL a x) (aL b x)=true:=by
  rcases ace (fI a b).length with h0 | h0
  ·have e:fI a b=[]:=aef.1 h0;have ea:a=[]:=abH.2 fun p hp=>by have:=(ma p hp).1;rw[e]at this;cases this
   have eb:b=[]:=abH.2 fun p hp=>by have:=(mb p hp).1;rw[e]at this;cases this
   subst ea;subst eb;refine⟨trivial,fun x=>⟨fun h=>absurd h (eQ x),fun h=>?_⟩⟩;have h:gR w false false=true:=h;rw[mJ]at h;cases h
  obtain⟨y,hy⟩:∃y,(fI a b)[(fI a b).length-1]?=some y:=⟨_,acg (by omega)⟩;obtain⟨h1,h2⟩:=wW w hr ma mb _ y hy;refine⟨h1,fun x=>(h2 x).trans ⟨fun h=>h.2,fun h=>⟨?_,h⟩⟩⟩;by_cases hx:x<y
  ·exact hx
  have no:∀s:aU,(∀p∈s,p.1∈fI a b/\p.2∈fI a b)->aL s x=false:=fun s hs=>by
   rw[aaV];intro h;obtain⟨p,hp,_,h4⟩:=jw.1 h;have:=wU hr hy (hs p hp).2;omega
  rw[no a ma,no b mb,mJ]at h;cases h
 refine⟨key.1,fun x=>?_⟩;rw[abb,cu key.1,key.2,zK ha,zK hb]
def gS(w:Int)(a b:List ae)(ys:List Int):Nat->List an
 | 0=>[]
 | k+1=>cA (gS w a b ys k) ⟨ys.getD k 0,ys.getD (k+1) 0,mixed w (rowOf a (ys.getD k 0)) (rowOf b (ys.getD k 0))⟩
def BU(w:Int)(a b:List ae):List an:=gS w a b (aE (a++b)) ((aE (a++b)).length-1)
def aeB(w:Int)(a b:List ae):List ae:=told (BU w a b)
theorem Fy{l all:List ae}(hl:∀r∈l,r∈all){k:Nat}{u v:Int}(hu:(aE all)[k]?=some u)(hv:(aE all)[k+1]?=some v){x z:Int}(h1:u<=z)(h2:z<v):l.any (dE x u)=l.any (dE x z):=by
 obtain⟨hr,hm⟩:=cT all;rw[abb,aci,aci];have go:∀r∈l,(dE x u r=true↔dE x z r=true):=fun r m_=>by
  have g1:=Q0 hr hu hv ((hm r.y0).2 ⟨r,hl r m_,.inl rfl⟩);have g2:=Q0 hr hu hv ((hm r.y1).2 ⟨r,hl r m_,.inr rfl⟩);rw[aQ,aQ];omega
 constructor
 ·rintro⟨r,m_,h⟩;exact⟨r,m_,(go r m_).1 h⟩
 rintro⟨r,m_,h⟩;exact⟨r,m_,(go r m_).2 h⟩
theorem uE(w:Int){a b:List ae}(ha:∀r∈a,Full r)(hb:∀r∈b,Full r):∀(k:Nat) (y:Int),(aE (a++b))[k]?=some y ->
  bE (gS w a b (aE (a++b)) k)/\(∀t∈gS w a b (aE (a++b)) k,t.y1<=y)/\∀x z,at' (gS w a b (aE (a++b)) k) x z=(decide (z<y)&&gR w (a.any (dE x z)) (b.any (dE x z)))
 | 0,y,hy=>by
  obtain⟨hr,hm⟩:=cT (a++b);refine⟨trivial,fun t ht=>(by cases ht),fun x z=>?_⟩;show false=_;symm;rw[aaC];by_cases hz:z<y
  ·right;have no:∀l:List ae,(∀r∈l,r∈a++b)->l.any (dE x z)=false:=fun l hl=>by
    rw[aaV];intro hp;obtain⟨r,m_,h⟩:=aci.1 hp;obtain⟨_,_,h3,_⟩:=aQ.1 h;have:=uD hr hy ((hm r.y0).2 ⟨r,hl r m_,.inl rfl⟩);omega
   rw[no a fun r h=>abY _ h,no b fun r h=>adt _ h,mJ]
  left;exact aaz hz
 | k+1,y,hy=>by
  obtain⟨hr,hm⟩:=cT (a++b);obtain⟨y',cm⟩:∃y',(aE (a++b))[k]?=some y':=by
   have:=(aao.1 hy).1;exact⟨_,acg (by omega)⟩
  obtain⟨i1,i2,i3⟩:=uE w ha hb k y' cm;have eF:=wV hr cm hy;rw[gS,getD_some cm,getD_some hy];obtain⟨m1,m2⟩:=Fx w (iS a y' (fun r hr=>(ha r hr).1)).1 (iS b y' (fun r hr=>(hb r hr).1)).1;obtain⟨p1,p2,p3,p4⟩:=jT (b:=⟨y',y,mixed w (rowOf a y') (rowOf b y')⟩) i1 eF m1 i2;refine⟨p1,p2,fun x z=>?_⟩;rw[p3,i3,at_one];show (decide (z<y')&&gR w (a.any (dE x z)) (b.any (dE x z))||decide (y'<=z)&&decide (z<y)&&par (bw (mixed w (rowOf a y') (rowOf b y'))) x)=_;rw[m2,Db ha,Db hb];by_cases c1:z<y'
  ·rw[acd c1,aaz (by omega:¬y'<=z),acd (by omega:z<y)];simp
  by_cases c2:z<y
  ·rw[aaz c1,acd (by omega:y'<=z),acd c2];simp only[adJ,abv,adr];rw[Fy (fun r h=>abY _ h) cm hy (by omega) c2,Fy (fun r h=>adt _ h) cm hy (by omega) c2]
  rw[aaz c1,aaz c2];simp
theorem HK(w:Int){a b:List ae}(ha:∀r∈a,Full r)(hb:∀r∈b,Full r):bE (BU w a b)/\∀x z,at' (BU w a b) x z=gR w (a.any (dE x z)) (b.any (dE x z)):=by
 obtain⟨hr,hm⟩:=cT (a++b);rcases ace (aE (a++b)).length with h0 | h0
 ·have e:aE (a++b)=[]:=aef.1 h0;have no:a++b=[]:=abH.2 fun r m_=>by
   have:=(hm r.y0).2 ⟨r,m_,.inl rfl⟩;rw[e]at this;cases this
  obtain⟨e1,e2⟩:=List.append_eq_nil_iff.1 no;subst e1;subst e2;exact⟨trivial,fun x z=>(mJ w).symm⟩
 obtain⟨y,hy⟩:∃y,(aE (a++b))[(aE (a++b)).length-1]?=some y:=⟨_,acg (by omega)⟩;obtain⟨h1,h2,h3⟩:=uE w ha hb _ y hy;refine⟨h1,fun x z=>?_⟩;show at' (gS w a b (aE (a++b)) ((aE (a++b)).length-1)) x z=_;rw[h3];by_cases hz:z<y
 ·rw[acd hz,adr]
 rw[aaz hz,adJ];have no:∀l:List ae,(∀r∈l,r∈a++b)->l.any (dE x z)=false:=fun l hl=>by
  rw[aaV];intro hp;obtain⟨r,m_,h⟩:=aci.1 hp;obtain⟨_,_,_,h5⟩:=aQ.1 h;have:=wU hr hy ((hm r.y1).2 ⟨r,hl r m_,.inr rfl⟩);omega
 rw[no a fun r h=>abY _ h,no b fun r h=>adt _ h,mJ]
theorem zL{w:Int}{k:Bool->Bool->Bool}(hk:∀p q,gR w p q=k p q){a b:List ae}(ha:∀r∈a,Full r)(hb:∀r∈b,Full r):BU w a b=ik k (aB a) (aB b):=by
 obtain⟨h1,h2⟩:=HK w ha hb;obtain⟨a1,a2,_⟩:=aR ha;obtain⟨b1,b2,_⟩:=aR hb;obtain⟨m1,m2,_⟩:=lO (k:=k) ((hk false false).symm.trans (mJ w)) a1 b1;exact iK _ _ h1 m1 fun x y=>by rw[h2,m2,hk,a2,b2]
theorem PY{a b:List ae}(ha:∀r∈a,Full r)(hb:∀r∈b,Full r):BU 1 a b=uo (aB a) (aB b):=zL (fun p q=>by cases p<;>cases q<;>rfl) ha hb
theorem KU{a b:List ae}(ha:∀r∈a,Full r)(hb:∀r∈b,Full r):BU 3 a b=bN (aB a) (aB b):=zL (fun p q=>by cases p<;>cases q<;>rfl) ha hb
end Reg
namespace M
open Go.AM Go.RowKit
open Reg (ae aU)
theorem zM{xs:List Int}{s:aU}{i:Nat}{p:Int×Int}(h:s[i]?=some p):Reg.fH xs (s.take (i+1))=Reg.put (Reg.put (Reg.fH xs (s.take i)) p.1) p.2:=by
 rw[adF,h,Reg.fH,Reg.fH,aaD];rfl
theorem fc:∀(s:aU) (xs:List Int),(Reg.fH xs s).length<=xs.length+2*s.length
 | [],xs=>by simp[Reg.fH]
 | p::s,xs=>by
  have h1:=fc s (Reg.put (Reg.put xs p.1) p.2);have h2:=iH p.1 xs;have h3:=iH p.2 (Reg.put xs p.1);simp only[aaB];have e:Reg.fH xs (p::s)=Reg.fH (Reg.put (Reg.put xs p.1) p.2) s:=rfl;rw[e];omega
theorem pD(w:Int)(a b:aU)(xs:List Int):∀k,(Reg.hY w a b xs k).length<=k
 | 0=>aam _
 | k+1=>by
  have ih:=pD w a b xs k;rw[Reg.hY];split
  ·have:=rU (Reg.hY w a b xs k) (xs.getD k 0) (xs.getD (k+1) 0);omega
  omega
theorem KV(a b:aU)(w:Int)(qb:a.length+b.length<=4398046511104):af C 203 [.pv (fD a),.pv (fD b),.pv (i64 w)] (.p (fD (Reg.mixed w a b))) []:=by
 refine fW hC Tryz.func203 rfl (by kernel_rfl) fun _=>?_;have la:=ai a sp;have lb:=ai b sp;refine aJ (fun i:Nat=>i<=a.length) (fun i=>[(0,.p (fD a)),(1,.p (fD b)),(2,.p (i64 w)),(7,.p (ints (Reg.fH [] (a.take i)))),(8,.p (i64 i))]) (fun _=>[]) (fun i=>a.length-i) 0 _ (au.nil hC _ 7 rfl) (aaj _) ⟨Z,Z,Z,Z,Z,Y⟩ trivial fun i hi t h=>?_;refine iW ?_ ?_<;>intro h1
 ·rw[la]at h1;obtain⟨p,hp⟩:=ak (l:=a) (i:=i) (by omega);have hL:=fc (a.take i) [];have OV:=aaA i a;have hR:=(Reg.jX (a.take i) [] List.Pairwise.nil).1;refine⟨(sp p),(idx rfl hp),?_⟩;have V7:=iH p.1 (Reg.fH [] (a.take i));refine⟨_,_,(ru _ p.1 hR (by simp only[acs]at hL;omega)),?_⟩;refine⟨(sp p),(idx rfl hp),?_⟩;refine⟨_,_,(ru _ p.2 (Reg.iG _ _ hR) (by simp only[acs]at hL;omega)),?_⟩;refine⟨⟨by omega,by omega⟩,?_⟩;refine⟨(i+1),_,au.refl _ _,?_⟩;refine⟨by omega,by omega,⟨rfl,rfl,rfl,?_,Z,Y⟩,trivial⟩;rw[zM hp];rfl
 rw[la]at h1;have ea:a.take i=a:=adW (by omega);refine aJ (fun j:Nat=>j<=b.length) (fun j=>[(0,.p (fD a)),(1,.p (fD b)),(2,.p (i64 w)),(7,.p (ints (Reg.fH (Reg.fH [] (a.take i)) (b.take j)))),(9,.p (i64 j))]) (fun _=>[]) (fun j=>b.length-j) 0 _ (au.refl _ _) (aaj _) ⟨Z,Z,Z,Z,Z,Y⟩ trivial fun j hj t h=>?_;refine iW ?_ ?_<;>intro h2
 ·rw[lb]at h2;obtain⟨p,hp⟩:=ak (l:=b) (i:=j) (by omega);have hL:=fc (b.take j) (Reg.fH [] (a.take i));have Yl:=fc (a.take i) [];have OV:=aaA j b;have hL4:=aaA i a;have hR:=(Reg.jX (b.take j) _ (Reg.jX (a.take i) [] List.Pairwise.nil).1).1;refine⟨(sp p),(idx rfl hp),?_⟩;have V7:=iH p.1 (Reg.fH (Reg.fH [] (a.take i)) (b.take j));simp only[acs]at Yl;refine⟨_,_,(ru _ p.1 hR (by omega)),?_⟩;refine⟨(sp p),(idx rfl hp),?_⟩;refine⟨_,_,(ru _ p.2 (Reg.iG _ _ hR) (by omega)),?_⟩;refine⟨⟨by omega,by omega⟩,?_⟩;refine⟨(j+1),_,au.refl _ _,?_⟩;refine⟨by omega,by omega,⟨rfl,rfl,rfl,?_,Z,Y⟩,trivial⟩;rw[zM hp];rfl
 rw[lb]at h2;have eb:b.take j=b:=adW (by omega);obtain⟨X,hX⟩:∃X,X=Reg.fH (Reg.fH [] (a.take i)) (b.take j):=⟨_,rfl⟩;have lX:=ai X fun n=>[i64 n];refine aJ (fun k:Nat=>k<=X.length-1) (fun k=>[(0,.p (fD a)),(1,.p (fD b)),(2,.p (i64 w)),(7,.p (ints X)),(10,.p (fD (Reg.hY w a b X k))),(11,.p (i64 ((k:Int)+1)))]) (fun _=>[]) (fun k=>X.length-k) 0 _ (au.nil hC _ 10 rfl) (aaj _) ⟨rfl,rfl,rfl,by rw[hX];rfl,Z,Z,Y⟩ trivial fun k hk t h=>?_;have Yl:=fc (a.take i) [];have hL1:=fc (b.take j) (Reg.fH [] (a.take i));have OV:=aaA j b;have hL4:=aaA i a;rw[<-hX]at hL1;simp only[acs]at Yl;have hM:=pD w a b X k;refine iW ?_ ?_<;>intro h3
 ·rw[lX]at h3;obtain⟨y,hy⟩:=ak (l:=X) (i:=k) (by omega);obtain⟨y',cm⟩:=ak (l:=X) (i:=k+1) (by omega);have ek:(k:Int)+1-1=(k:Nat):=by omega
  have QT:(k:Int)+1=((k+1:Nat):Int):=by omega
  refine⟨⟨by omega,by omega⟩,?_⟩;refine⟨[i64 y],(idx ek hy),?_⟩;refine⟨_,_,(sI a y (by omega)),?_⟩;refine⟨⟨by omega,by omega⟩,?_⟩;refine⟨[i64 y],(idx ek hy),?_⟩;refine⟨_,_,(sI b y (by omega)),?_⟩;have ia:Reg.aL a y=aL a y:=rfl;have ib:Reg.aL b y=aL b y:=rfl;refine iW ?_ ?_<;>intro h4
  ·refine iW ?_ ?_<;>intro h5
   ·refine⟨⟨by omega,by omega⟩,?_⟩;refine⟨[i64 y],(idx ek hy),?_⟩;refine⟨[i64 y'],(idx QT cm),?_⟩;refine⟨_,_,(ae_ _ y y' (by omega)),?_⟩;refine⟨⟨by omega,by omega⟩,?_⟩;refine⟨(k+1),_,au.refl _ _,?_⟩;refine⟨by omega,by omega,⟨rfl,rfl,rfl,rfl,?_,a8 (by omega),trivial⟩,trivial⟩;rw[Reg.hY,cO hy,cO cm,aap (show Reg.gR w (Reg.aL a y) (Reg.aL b y)=true by show Reg.gR w (aL a y) (aL b y)=true;rw[h4,h5];rfl)];rfl
   refine iW ?_ ?_<;>intro h6
   ·refine⟨⟨by omega,by omega⟩,?_⟩;refine⟨[i64 y],(idx ek hy),?_⟩;refine⟨[i64 y'],(idx QT cm),?_⟩;refine⟨_,_,(ae_ _ y y' (by omega)),?_⟩;refine⟨⟨by omega,by omega⟩,?_⟩;refine⟨(k+1),_,au.refl _ _,?_⟩;refine⟨by omega,by omega,⟨rfl,rfl,rfl,rfl,?_,a8 (by omega),trivial⟩,trivial⟩;rw[Reg.hY,cO hy,cO cm,aap (show Reg.gR w (Reg.aL a y) (Reg.aL b y)=true by show Reg.gR w (aL a y) (aL b y)=true;rw[h4,h5,h6];rfl)];rfl
   refine iW ?_ ?_<;>intro h7
   ·exfalso;omega
   refine iW ?_ ?_<;>intro h8
   ·exfalso;omega
   refine⟨⟨by omega,by omega⟩,?_⟩;refine⟨(k+1),_,au.refl _ _,?_⟩;refine⟨by omega,by omega,⟨rfl,rfl,rfl,rfl,?_,a8 (by omega),trivial⟩,trivial⟩;rw[Reg.hY,cO hy,cO cm,aaa (show ¬Reg.gR w (Reg.aL a y) (Reg.aL b y)=true by show ¬Reg.gR w (aL a y) (aL b y)=true;rw[h4,h5,h6];decide)];rfl
  refine iW ?_ ?_<;>intro h5
  ·refine iW ?_ ?_<;>intro h6
   ·refine iW ?_ ?_<;>intro h7
    ·refine⟨⟨by omega,by omega⟩,?_⟩;refine⟨[i64 y],(idx ek hy),?_⟩;refine⟨[i64 y'],(idx QT cm),?_⟩;refine⟨_,_,(ae_ _ y y' (by omega)),?_⟩;refine⟨⟨by omega,by omega⟩,?_⟩;refine⟨(k+1),_,au.refl _ _,?_⟩;refine⟨by omega,by omega,⟨rfl,rfl,rfl,rfl,?_,a8 (by omega),trivial⟩,trivial⟩;rw[Reg.hY,cO hy,cO cm,aap (show Reg.gR w (Reg.aL a y) (Reg.aL b y)=true by show Reg.gR w (aL a y) (aL b y)=true;rw[h5,h6,h7];rfl)];rfl
    refine iW ?_ ?_<;>intro h8
    ·exfalso;omega
    refine⟨⟨by omega,by omega⟩,?_⟩;refine⟨(k+1),_,au.refl _ _,?_⟩;refine⟨by omega,by omega,⟨rfl,rfl,rfl,rfl,?_,a8 (by omega),trivial⟩,trivial⟩;rw[Reg.hY,cO hy,cO cm,aaa (show ¬Reg.gR w (Reg.aL a y) (Reg.aL b y)=true by show ¬Reg.gR w (aL a y) (aL b y)=true;rw[h5,h6,h7];decide)];rfl
   refine iW ?_ ?_<;>intro h8
   ·exfalso;omega
   refine⟨⟨by omega,by omega⟩,?_⟩;refine⟨(k+1),_,au.refl _ _,?_⟩;refine⟨by omega,by omega,⟨rfl,rfl,rfl,rfl,?_,a8 (by omega),trivial⟩,trivial⟩;rw[Reg.hY,cO hy,cO cm,aaa (show ¬Reg.gR w (Reg.aL a y) (Reg.aL b y)=true by show ¬Reg.gR w (aL a y) (aL b y)=true;rw[h5,h6];cases aL b y<;>decide)];rfl
  refine iW ?_ ?_<;>intro h6
  ·refine iW ?_ ?_<;>intro h7
   ·refine iW ?_ ?_<;>intro h8
    ·refine⟨⟨by omega,by omega⟩,?_⟩;refine⟨[i64 y],(idx ek hy),?_⟩;refine⟨[i64 y'],(idx QT cm),?_⟩;refine⟨_,_,(ae_ _ y y' (by omega)),?_⟩;refine⟨⟨by omega,by omega⟩,?_⟩;refine⟨(k+1),_,au.refl _ _,?_⟩;refine⟨by omega,by omega,⟨rfl,rfl,rfl,rfl,?_,a8 (by omega),trivial⟩,trivial⟩;rw[Reg.hY,cO hy,cO cm,aap (show Reg.gR w (Reg.aL a y) (Reg.aL b y)=true by show Reg.gR w (aL a y) (aL b y)=true;rw[h6,h7,h8];rfl)];rfl
    refine⟨⟨by omega,by omega⟩,?_⟩;refine⟨(k+1),_,au.refl _ _,?_⟩;refine⟨by omega,by omega,⟨rfl,rfl,rfl,rfl,?_,a8 (by omega),trivial⟩,trivial⟩;rw[Reg.hY,cO hy,cO cm,aaa (show ¬Reg.gR w (Reg.aL a y) (Reg.aL b y)=true by show ¬Reg.gR w (aL a y) (aL b y)=true;rw[h6,h7,h8];decide)];rfl
   refine⟨⟨by omega,by omega⟩,?_⟩;refine⟨(k+1),_,au.refl _ _,?_⟩;refine⟨by omega,by omega,⟨rfl,rfl,rfl,rfl,?_,a8 (by omega),trivial⟩,trivial⟩;rw[Reg.hY,cO hy,cO cm,aaa (show ¬Reg.gR w (Reg.aL a y) (Reg.aL b y)=true by show ¬Reg.gR w (aL a y) (aL b y)=true;rw[h6,h7];cases aL b y<;>decide)];rfl
  refine⟨⟨by omega,by omega⟩,?_⟩;refine⟨(k+1),_,au.refl _ _,?_⟩;refine⟨by omega,by omega,⟨rfl,rfl,rfl,rfl,?_,a8 (by omega),trivial⟩,trivial⟩;rw[Reg.hY,cO hy,cO cm,aaa (show ¬Reg.gR w (Reg.aL a y) (Reg.aL b y)=true by show ¬Reg.gR w (aL a y) (aL b y)=true;simp[Reg.gR,h4,h5,h6])];rfl
 rw[lX]at h3;refine⟨?_,trivial⟩;have ek:k=X.length-1:=by omega
 rw[ek,hX,ea,eb];rfl
theorem Dq(w:Int)(s t:aU):(Reg.mixed w s t).length<=2*(s.length+t.length):=by
 have h1:=pD w s t (Reg.fI s t) ((Reg.fI s t).length-1);have h2:=fc t (Reg.fH [] s);have h3:=fc s [];simp only[acs]at h3;have e:(Reg.fI s t).length=(Reg.fH (Reg.fH [] s) t).length:=rfl;show (Reg.hY w s t (Reg.fI s t) ((Reg.fI s t).length-1)).length<=_;omega
theorem AU(w:Int)(a b:List ae)(ys:List Int):∀k,(Reg.gS w a b ys k).length<=k:=by
 intro k
 induction k with
 | zero=>simp[Reg.gS]
 | succ k ih=>rw[Reg.gS];have:=tR (Reg.gS w a b ys k) ⟨ys.getD k 0,ys.getD (k+1) 0,Reg.mixed w (Reg.rowOf a (ys.getD k 0)) (Reg.rowOf b (ys.getD k 0))⟩;omega
theorem KW(w:Int)(a b:List ae)(ys:List Int):∀k,∀t∈Reg.gS w a b ys k,t.xs.length<=2*(a.length+b.length):=by
 intro k
 induction k with
 | zero=>simp[Reg.gS]
 | succ k ih=>
  rw[Reg.gS];refine yO _ _ _ ih ?_;have h1:=Dq w (Reg.rowOf a (ys.getD k 0)) (Reg.rowOf b (ys.getD k 0));have h2:=fQ a (ys.getD k 0);have h3:=fQ b (ys.getD k 0);show (Reg.mixed _ _ _).length<=_;omega
theorem uF(a b:List ae)(w:Int)(qb:a.length+b.length<=4398046511104)(hy:(Reg.aE (a++b)).length<=3000000000000)(hr:(Reg.aeB w a b).length<=4398046511104):af C 136 [.pv (aj a),.pv (aj b),.pv (i64 w)] (.p (aj (Reg.aeB w a b))) []:=by
 refine uX ⟨[],[],[],[9],[],[]⟩ hC Tryz.func136 rfl (by kernel_rfl) fun _=>?_;have la:=ai a rc;have lb:=ai b rc;refine⟨⟨C4 a,by rw[la];simp;omega,by rw[la];omega⟩,?_⟩;refine⟨⟨C4 b,by rw[lb];simp;omega,by rw[lb];omega⟩,?_⟩;have hh:=wB (a++b) (by rw[acv];omega);rw[aj,abE]at hh;refine⟨_,_,hh,?_⟩;obtain⟨ys,Ij⟩:∃ys,ys=Reg.aE (a++b):=⟨_,rfl⟩;have hL:=dm (a++b);rw[<-Ij,acv]at hL;rw[<-Ij]at hy;have lm:=ai ys fun n=>[i64 n];refine aJ (fun k:Nat=>k<=ys.length-1) (fun k=>[(0,.p (aj a)),(1,.p (aj b)),(2,.p (i64 w)),(8,.p (ints ys)),(9,.ow 9),(10,.p (i64 ((k:Int)+1)))]) (fun k=>[(9,.row 196 ((Reg.gS w a b ys k).map bd))]) (fun k=>ys.length-k) 0 _ (au.dk hC _ 9 196 _ (by decide) rfl rfl (by decide)) (aaj _) ⟨rfl,rfl,rfl,by rw[Ij];rfl,Z,Z,Y⟩ ⟨Z,Y⟩ fun k hk t h=>?_;have bl:=AU w a b ys k;have bx:=KW w a b ys k;refine iW ?_ ?_<;>intro h1
 ·rw[lm]at h1;obtain⟨y,hy⟩:=ak (l:=ys) (i:=k) (by omega);obtain⟨y',cm⟩:=ak (l:=ys) (i:=k+1) (by omega);have ek:(k:Int)+1-1=(k:Nat):=by omega
  have QT:(k:Int)+1=((k+1:Nat):Int):=by omega
  have ra:=fQ a y;have rb:=fQ b y;refine⟨⟨by omega,by omega⟩,?_⟩;refine⟨[i64 y],(idx ek hy),?_⟩;refine⟨[i64 y'],(idx QT cm),?_⟩;refine⟨⟨by omega,by omega⟩,?_⟩;refine⟨[i64 y],(idx ek hy),?_⟩;refine⟨_,_,(xK a y (by omega)),?_⟩;refine⟨⟨by omega,by omega⟩,?_⟩;refine⟨[i64 y],(idx ek hy),?_⟩;refine⟨_,_,(xK b y (by omega)),?_⟩;refine⟨_,_,(KV _ _ w (by omega)),?_⟩;refine⟨_,_,(wC _ ⟨y,y',Reg.mixed w (Reg.rowOf a y) (Reg.rowOf b y)⟩ (by omega) (fun t ht=>by have:=bx t ht;omega)),?_⟩;refine⟨⟨by omega,by omega⟩,?_⟩;refine⟨(k+1),_,au.refl _ _,?_⟩;refine⟨by omega,by omega,⟨rfl,rfl,rfl,rfl,rfl,a8 (by omega),trivial⟩,⟨?_,trivial⟩⟩;rw[Reg.gS,cO hy,cO cm];rfl
 rw[lm]at h1;have e:k=ys.length-1:=by omega
 have ht:Reg.told (Reg.gS w a b ys k)=Reg.aeB w a b:=by rw[e,Ij];rfl
 refine⟨_,_,(Es _ (by omega) (fun t ht=>by have:=bx t ht;omega) (by rw[ht];exact hr)),?_⟩;refine⟨?_,trivial⟩;rw[ht]
end M
namespace Reg
structure HL(E:List (Nat×Nat))(u:List Int):Prop where
 uf:UF u
 edge:∀e∈E,e.1<u.length/\e.2<u.length/\kU u e.1 e.2
 cl:∀S:Nat->Prop,(∀e∈E,S e.1↔S e.2)->∀i k,kU u i k->(S i↔S k)
theorem Fz(n:Nat):HL [] (iota n):=
 ⟨ny n,fun e he=>(by cases he),fun S _ i k ⟨r,h1,h2⟩=>by rw[BI h1,BI h2]⟩
theorem FA{E:List (Nat×Nat)}{u:List Int}(h:HL E u){i k:Nat}(hi:i<u.length)(hk:k<u.length):HL (E++[(i,k)]) (gj u i k):=by
 have a:=fU i u i h.uf hi (aam _);have b:=fU k (cw i u i).1 k a.uf (by rw[a.len];exact hk) (aam _);have s1:∀m q,eh (cw k (cw i u i).1 k).1 m q↔eh u m q:=fun m q=>(b.same m q).trans (a.same m q);have ra:=(s1 _ _).2 a.root;have rb:=(b.same _ _).2 b.root;have ss:=fun p q=>PI s1 p q;have len:(cw k (cw i u i).1 k).1.length=u.length:=by rw[b.len,a.len]
 have J:∀p q,p<u.length->q<u.length->(kU (gj u i k) p q↔kU u p q\/(kU u p i/\kU u q k)\/(kU u p k/\kU u q i)):=fun p q hp hq=>by
  rw[gj,KI b.uf ra rb (by rw[len];exact hp) (by rw[len];exact hq),ss,ss,ss,ss,ss]
 obtain⟨j1,j2⟩:=mC h.uf hi hk;have self:∀m,m<u.length->kU u m m:=fun m hm=>by
  obtain⟨r,hr⟩:=h.uf.root m hm;exact⟨r,hr,hr⟩
 refine⟨j1,fun e he=>?_,fun S hS p q hs=>?_⟩
 ·rw[j2];rcases abi.1 he with he | he
  ·obtain⟨e1,e2,e3⟩:=h.edge e he;exact⟨e1,e2,(J _ _ e1 e2).2 (.inl e3)⟩
  rw[ab_.1 he];exact⟨hi,hk,(J _ _ hi hk).2 (.inr (.inl ⟨self i hi,self k hk⟩))⟩
 obtain⟨r,RO,iO⟩:=id hs;have hp:=RO.lt;have hq:=iO.lt;rw[j2]at hp hq;have c:=h.cl S fun e he=>hS e (abY _ he);have O8:S i↔S k:=hS (i,k) (adt _ (ab_.2 rfl));rcases (J p q hp hq).1 hs with g | ⟨g1,g2⟩ | ⟨g1,g2⟩
 ·exact c p q g
 ·exact (c p i g1).trans (O8.trans (c q k g2).symm)
 exact (c p k g1).trans (O8.symm.trans (c q i g2).symm)
def mW(q:Nat->Bool)(s:List Bool×List Nat)(k:Nat):List Bool×List Nat:=if s.1.getD k true=false/\q k=true then (s.1.set k true,s.2++[k]) else s
def pE(q:Nat->Bool)(n:Nat)(s:List Bool×List Nat):List Bool×List Nat:=(List.range n).foldl (mW q) s
def kL(q:Nat->Nat->Bool)(n:Nat):Nat->Nat->List Bool×List Nat->List Bool×List Nat
 | 0,_,s=>s
 | f+1,i,s=>if i<s.2.length then kL q n f (i+1) (pE (q (s.2.getD i 0)) n s) else s
def mK(q:Nat->Nat->Bool)(n:Nat)(s:List Bool×List (List Nat))(i:Nat):List Bool×List (List Nat):=
 if s.1.getD i true=true then s else ((kL q n n 0 (s.1.set i true,[i])).1,s.2++[(kL q n n 0 (s.1.set i true,[i])).2])
def NI(q:Nat->Nat->Bool)(n:Nat):List (List Nat):=((List.range n).foldl (mK q n) (List.replicate n false,[])).2
structure qR(n:Nat)(D0:List Bool)(s:List Bool×List Nat):Prop where
 len:s.1.length=n
 nod:s.2.Nodup
 mem:∀k∈s.2,k<n/\D0.getD k true=false
 done:∀k,k<n->(s.1.getD k true=true↔D0.getD k true=true\/k∈s.2)
variable {D0:List Bool}
theorem qR.le{n:Nat}{s:List Bool×List Nat}(h:qR n D0 s):s.2.length<=n:=by
 have:=abV h.nod (l₂:=List.range n) fun k hk=>abD.2 (h.mem k hk).1;simpa using this
theorem jx{l:List Bool}{k j:Nat}(hk:k<l.length):(l.set k true).getD j true=if j=k then true else l.getD j true:=by
 rw[ad4,ew hk,ad4];split<;>rfl
theorem Jf{n:Nat}{q:Nat->Bool}{s:List Bool×List Nat}(h:qR n D0 s){k:Nat}(hk:k<n):
  qR n D0 (mW q s k)/\(∀x,x∈(mW q s k).2↔x∈s.2\/(x=k/\q k=true/\D0.getD k true=false))/\(∃t,(mW q s k).2=s.2++t):=by
 rw[mW];by_cases c:s.1.getD k true=false/\q k=true
 ·rw[aap c];have h1:¬(D0.getD k true=true\/k∈s.2):=fun g=>by
   have:=(h.done k hk).2 g;rw[c.1]at this;cases this
  have h2:D0.getD k true=false:=by
   cases e:D0.getD k true with
   | false=>rfl
   | true=>exact absurd (.inl e) h1
  refine⟨⟨by show (s.1.set k true).length=n;rw[aaM,h.len],?_,fun x hx=>?_,fun x hx=>?_⟩,fun x=>?_,[k],rfl⟩
  ·show (s.2++[k]).Nodup;rw[aee];refine⟨h.nod,by simp,fun a ha b hb=>?_⟩;rw[ab_.1 hb];exact fun e=>h1 (.inr (e▸ha))
  ·rcases abi.1 hx with hx | hx
   ·exact h.mem x hx
   rw[ab_.1 hx];exact⟨hk,h2⟩
  ·show (s.1.set k true).getD x true=true↔_;rw[jx (by rw[h.len];exact hk)];by_cases e:x=k
   ·rw[aap e];exact⟨fun _=>.inr (adt _ (ab_.2 e)),fun _=>rfl⟩
   rw[aaa e,h.done x hx];constructor
   ·rintro (g | g)
    ·exact .inl g
    exact .inr (abY _ g)
   rintro (g | g)
   ·exact .inl g
   rcases abi.1 g with g | g
   ·exact .inr g
   exact absurd (ab_.1 g) e
  show x∈s.2++[k]↔_;rw[abi,ab_];exact⟨fun g=>g.elim .inl fun e=>.inr ⟨e,c.2,h2⟩,fun g=>g.elim .inl fun e=>.inr e.1⟩
 rw[aaa c];refine⟨h,fun x=>⟨.inl,fun g=>g.elim id fun ⟨e,h1,h2⟩=>?_⟩,[],by simp⟩;subst e;cases e:s.1.getD x true with
 | false=>exact absurd ⟨e,h1⟩ c
 | true=>
  rcases (h.done x hk).1 e with g | g
  ·rw[h2]at g;cases g
  exact g
theorem vP{n:Nat}{q:Nat->Bool}:∀(l:List Nat) (s:List Bool×List Nat),qR n D0 s->(∀k∈l,k<n)->
  qR n D0 (l.foldl (mW q) s)/\(∀x,x∈(l.foldl (mW q) s).2↔x∈s.2\/(x∈l/\q x=true/\D0.getD x true=false))/\(∃t,(l.foldl (mW q) s).2=s.2++t)
 | [],s,h,_=>⟨h,fun x=>by simp,[],by simp⟩
 | k::l,s,h,hl=>by
  obtain⟨a1,a2,t,a3⟩:=Jf (q:=q) h (hl k adU);obtain⟨b1,b2,v,b3⟩:=vP l _ a1 fun x hx=>hl x (aaw _ hx);refine⟨b1,fun x=>?_,t++v,?_⟩
  ·show x∈(l.foldl (mW q) (mW q s k)).2↔_;rw[b2,a2,adq];constructor
   ·rintro ((g | ⟨rfl,g⟩) | ⟨g,g2⟩)
    ·exact .inl g
    ·exact .inr ⟨.inl rfl,g⟩
    exact .inr ⟨.inr g,g2⟩
   rintro (g | ⟨rfl | g,g2⟩)
   ·exact .inl (.inl g)
   ·exact .inl (.inr ⟨rfl,g2⟩)
   exact .inr ⟨g,g2⟩
  show (l.foldl (mW q) (mW q s k)).2=_;rw[b3,a3,abx]
structure Ym(p:Nat->Nat)(q:Nat->Nat->Bool)(n:Nat):Prop where
 tops:Dg p n
 edge:∀a b,a<n->b<n->q a b=true->p a=p b
 cl:∀S:Nat->Prop,(∀a b,a<n->b<n->S a->q a b=true->S b)->∀k,k<n->S (p k)->S k
theorem Jg{p:Nat->Nat}{q:Nat->Nat->Bool}{n:Nat}(hc:Ym p q n){r:Nat}(hr:r<n)(hd:∀k,k<n->p k=r->D0.getD k true=false):
  ∀(f i:Nat) (s:List Bool×List Nat),qR n D0 s->n<=f+i->r∈s.2->(∀k∈s.2,p k=r)->(∀j,j<i->j<s.2.length->∀b,b<n->q (s.2.getD j 0) b=true->b∈s.2)->
   qR n D0 (kL q n f i s)/\∀k,k∈(kL q n f i s).2↔k<n/\p k=r
 | f,i,s,h,hf,h0,h1,h2=>by
  have fin:s.2.length<=i->qR n D0 s/\∀k,k∈s.2↔k<n/\p k=r:=fun hi=>by
   refine⟨h,fun k=>⟨fun hk=>⟨(h.mem k hk).1,h1 k hk⟩,fun ⟨hk,e⟩=>?_⟩⟩;refine hc.cl (fun x=>x∈s.2) (fun a b ha hb hm hq=>?_) k hk (by rw[e];exact h0);obtain⟨j,hj⟩:=ab8.1 hm;obtain⟨j1,j2⟩:=aao.1 hj;exact h2 j (by omega) j1 b hb (by rw[ad4,hj];exact hq)
  match f,hf with
  | 0,hf=>exact fin (by have:=h.le;omega)
  | f+1,hf=>
   rw[kL];by_cases c:i<s.2.length
   ·rw[aap c];have hx:s.2[i]?=some s.2[i]:=acg c;have ex:s.2.getD i 0=s.2[i]:=by rw[ad4,hx];rfl
    have hm:s.2[i]∈s.2:=adn c;obtain⟨b1,b2,t,b3⟩:=vP (q:=q (s.2.getD i 0)) (List.range n) s h fun k hk=>abD.1 hk;refine Jg hc hr hd f (i+1) _ b1 (by omega) ((b2 r).2 (.inl h0)) (fun k hk=>?_) (fun j hj hl b hb hq=>?_)
    ·rcases (b2 k).1 hk with g | ⟨g1,g2,_⟩
     ·exact h1 k g
     rw[ex]at g2;rw[<-hc.edge _ _ (h.mem _ hm).1 (abD.1 g1) g2];exact h1 _ hm
    have e3:(pE (q (s.2.getD i 0)) n s).2=s.2++t:=b3;have sw:j<s.2.length:=by omega
    rw[e3,ad4,aaE sw,<-ad4]at hq;refine (b2 b).2 ?_;by_cases e:j=i
    ·subst e;refine .inr ⟨abD.2 hb,hq,hd b hb ?_⟩;rw[ex]at hq;rw[<-hc.edge _ _ (h.mem _ hm).1 hb hq];exact h1 _ hm
    exact .inl (h2 j (by omega) sw b hb hq)
   rw[aaa c];exact fin (by omega)
theorem rF{p:Nat->Nat}{q:Nat->Nat->Bool}{n:Nat}(hc:Ym p q n):∀i,i<=n ->
  ((List.range i).foldl (mK q n) (List.replicate n false,[])).1.length=n /\
  (∀k,k<n->(((List.range i).foldl (mK q n) (List.replicate n false,[])).1.getD k true=true↔p k<i))/\
  ∃M:Nat->List Nat,((List.range i).foldl (mK q n) (List.replicate n false,[])).2=(cd p i).map M/\∀r∈cd p i,∀k,k∈M r↔k<n/\p k=r
 | 0,_=>by
  refine⟨by simp,fun k hk=>?_,fun _=>[],rfl,fun r hr=>?_⟩
  ·simp[ad4,hk]
  cases hr
 | i+1,hi=>by
  obtain⟨l1,d1,M,m1,m2⟩:=rF hc i (by omega);rw[adK,aaD];generalize (List.range i).foldl (mK q n) (List.replicate n false,[])=s at l1 d1 m1 ⊢;simp only[aaq,List.foldl_nil];have tp:=hc.tops.le i (by omega);rw[fE];by_cases c:p i=i
  ·have hd:s.1.getD i true=false:=by
    cases e:s.1.getD i true with
    | false=>rfl
    | true=>have:=(d1 i (by omega)).1 e;omega
   have e0:(mK q n s i)=((kL q n n 0 (s.1.set i true,[i])).1,s.2++[(kL q n n 0 (s.1.set i true,[i])).2]):=by
    rw[mK,aaa (by rw[hd];simp)]
   obtain⟨b1,b2⟩:=Jg hc (D0:=s.1) (r:=i) (by omega) (fun k hk e=>by
     cases g:s.1.getD k true with
     | false=>rfl
     | true=>have:=(d1 k hk).1 g;omega) n 0 (s.1.set i true,[i])
    ⟨by show (s.1.set i true).length=n;rw[aaM,l1],by simp,fun k hk=>by rw[ab_.1 hk];exact⟨by omega,hd⟩,fun k hk=>by
     show (s.1.set i true).getD k true=true↔_;rw[jx (by rw[l1];omega),ab_];by_cases e:k=i<;>simp[e]⟩ (by omega) (by simp) (fun k hk=>by rw[ab_.1 hk];exact c) (fun j hj=>by omega)
   rw[aap c,e0];refine⟨b1.len,fun k hk=>?_,fun r=>if r=i then (kL q n n 0 (s.1.set i true,[i])).2 else M r,?_,fun r hr k=>?_⟩
   ·rw[b1.done k hk,d1 k hk,b2 k];constructor
    ·rintro (g | g)<;>omega
    intro g;by_cases e:p k=i
    ·exact .inr ⟨hk,e⟩
    exact .inl (by omega)
   ·show s.2++_=_;rw[m1,abE];congr 1
    ·refine aaG fun r hr=>?_;rw[aaa (by have:=(mem_keys.1 hr).1;omega)]
    simp
   show k∈(if r=i then _ else _)↔_;by_cases e:r=i
   ·rw[aap e,e];exact b2 k
   rw[aaa e];refine m2 r ?_ k;rcases abi.1 hr with g | g
   ·exact g
   exact absurd (ab_.1 g) e
  have hd:s.1.getD i true=true:=(d1 i (by omega)).2 (by omega);rw[aaa c,mK,aap hd];refine⟨l1,fun k hk=>?_,M,m1,m2⟩;rw[d1 k hk];constructor
  ·intro g;omega
  intro g;by_cases e:p k=i
  ·have:=hc.tops.top k hk;rw[e]at this;exact absurd this c
  omega
def dN(a b:ae):Int:=min a.x1 b.x1-max a.x0 b.x0
def dO(a b:ae):Int:=min a.y1 b.y1-max a.y0 b.y0
def en(a b:ae):Bool:=(decide (0<dN a b)&&decide (0<=dO a b))||(decide (0<=dN a b)&&decide (0<dO a b))
theorem jY{a b:ae}:en a b=true↔(0<dN a b/\0<=dO a b)\/(0<=dN a b/\0<dO a b):=by simp[en]
theorem zN(a b:ae):en a b=en b a:=by
 have h1:dN a b=dN b a:=by simp only[dN];omega
 have h2:dO a b=dO b a:=by simp only[dO];omega
 rw[en,en,h1,h2]
theorem wX:∀{s:aU},Canon s->s.Pairwise fun p q=>p.2<q.1
 | [],_=>List.Pairwise.nil
 | _::_,h=>ade.2 ⟨h.behind,wX h.tail⟩
theorem rG{a b:ae}:kK a b=true↔a.x0<b.x1/\b.x0<a.x1:=by simp[kK]
theorem zO(all:List ae){g f e:Nat}(hA:∀a b,g<=a->a<b->b<f->(all.getD a bg).x1<(all.getD b bg).x0)(hB:∀a b,f<=a->a<b->b<e->(all.getD a bg).x1<(all.getD b bg).x0):
  ∀(n:Nat) (u:List Int) (i j:Nat) (E:List (Nat×Nat)),g<=i->f<=j->f<=u.length->e<=u.length->(f-i)+(e-j)<=n->HL E u ->
   ∃D,HL (E++D) (ov all f e n u i j)/\(∀c∈D,(i<=c.1/\c.1<f)/\(j<=c.2/\c.2<e)/\kK (all.getD c.1 bg) (all.getD c.2 bg)=true)/\
    ∀a b,i<=a->a<f->j<=b->b<e->kK (all.getD a bg) (all.getD b bg)=true->(a,b)∈D
 | 0,u,i,j,E,_,_,_,_,hn,h=>⟨[],by rw[acw];exact h,fun c hc=>(by cases hc),fun a b h1 h2=>by omega⟩
 | n+1,u,i,j,E,hi,hj,hf,he,hn,h=>by
  rw[ov];by_cases c:i<f/\j<e
  ·rw[aap c];obtain⟨D,d1,d2,d3,d4⟩:∃D,HL (E++D) (if kK (all.getD i bg) (all.getD j bg)=true then gj u i j else u)/\(∀c∈D,c=(i,j)/\kK (all.getD i bg) (all.getD j bg)=true)/\
     (kK (all.getD i bg) (all.getD j bg)=true->(i,j)∈D)/\(if kK (all.getD i bg) (all.getD j bg)=true then gj u i j else u).length=u.length:=by
    by_cases o:kK (all.getD i bg) (all.getD j bg)=true
    ·rw[aap o];exact⟨[(i,j)],FA h (by omega) (by omega),fun c hc=>⟨ab_.1 hc,o⟩,fun _=>ab_.2 rfl,(mC h.uf (by omega) (by omega)).2⟩
    rw[aaa o];exact⟨[],by rw[acw];exact h,fun c hc=>(by cases hc),fun x=>absurd x o,rfl⟩
   generalize (if kK (all.getD i bg) (all.getD j bg)=true then gj u i j else u)=v at d1 d4 ⊢;by_cases x:(all.getD i bg).x1<(all.getD j bg).x1
   ·rw[aap x,aap x];obtain⟨D',e1,e2,e3⟩:=zO all hA hB n v (i+1) j (E++D) (by omega) hj (by omega) (by omega) (by omega) d1;refine⟨D++D',by rw[<-abx];exact e1,fun k hk=>?_,fun a b h1 h2 h3 h4 o=>?_⟩
    ·rcases abi.1 hk with hk | hk
     ·obtain⟨rfl,o⟩:=d2 k hk;exact⟨⟨aam _,c.1⟩,⟨aam _,c.2⟩,o⟩
     obtain⟨⟨a1,a2⟩,a3,a4⟩:=e2 k hk;exact⟨⟨by omega,a2⟩,a3,a4⟩
    by_cases ea:a=i
    ·subst ea;by_cases eb:b=j
     ·subst eb;exact abY _ (d3 o)
     have:=hB j b hj (by omega) h4;have:=rG.1 o;omega
    exact adt _ (e3 a b (by omega) h2 h3 h4 o)
   rw[aaa x,aaa x];obtain⟨D',e1,e2,e3⟩:=zO all hA hB n v i (j+1) (E++D) hi (by omega) (by omega) (by omega) (by omega) d1;refine⟨D++D',by rw[<-abx];exact e1,fun k hk=>?_,fun a b h1 h2 h3 h4 o=>?_⟩
   ·rcases abi.1 hk with hk | hk
    ·obtain⟨rfl,o⟩:=d2 k hk;exact⟨⟨aam _,c.1⟩,⟨aam _,c.2⟩,o⟩
    obtain⟨a1,⟨a2,a3⟩,a4⟩:=e2 k hk;exact⟨a1,⟨by omega,a3⟩,a4⟩
   by_cases eb:b=j
   ·subst eb;by_cases ea:a=i
    ·subst ea;exact abY _ (d3 o)
    have:=hA i a hi (by omega) h2;have:=rG.1 o;omega
   exact adt _ (e3 a b h1 h2 (by omega) h4 o)
  rw[aaa c];exact⟨[],by rw[acw];exact h,fun c hc=>(by cases hc),fun a b h1 h2 h3 h4=>by omega⟩
def Dr(all:List ae)(f:Nat)(b:an):Prop:=∀m,m<b.xs.length->∃p,b.xs[m]?=some p/\all.getD (f+m) bg=⟨p.1,b.y0,p.2,b.y1⟩
variable {all:List ae} {s:List an}
theorem KX{f:Nat}{b:an}(h:all.drop f=told (b::s)):Dr all f b:=fun m hm=>by
 have e:told (b::s)=b.xs.map (fun p=>(⟨p.1,b.y0,p.2,b.y1⟩:ae))++told s:=by simp[told]
 refine⟨b.xs[m],acg hm,?_⟩;rw[ad4,<-aas,h,e,aaE (by simpa using hm),aak,acg hm];rfl
theorem zP{f:Nat}{b:an}(h:Dr all f b)(hc:Canon b.xs):∀i j,f<=i->i<j->j<f+b.xs.length->(all.getD i bg).x1<(all.getD j bg).x0:=fun i j h1 h2 h3=>by
 obtain⟨p,p1,p2⟩:=h (i-f) (by omega);obtain⟨q,q1,q2⟩:=h (j-f) (by omega);rw[show f+(i-f)=i by omega]at p2;rw[show f+(j-f)=j by omega]at q2;rw[p2,q2];obtain⟨a1,a2⟩:=aao.1 p1;obtain⟨b1,b2⟩:=aao.1 q1;have:=aaS.1 (wX hc) (i-f) (j-f) a1 b1 (by omega);rw[a2,b2]at this;exact this
theorem oz{f:Nat}{b:an}(h:Dr all f b)(hc:Canon b.xs){i:Nat}(h1:f<=i)(h2:i<f+b.xs.length):(all.getD i bg).y0=b.y0/\(all.getD i bg).y1=b.y1/\(all.getD i bg).x0<(all.getD i bg).x1:=by
 obtain⟨p,p1,p2⟩:=h (i-f) (by omega);rw[show f+(i-f)=i by omega]at p2;rw[p2];exact⟨rfl,rfl,ga hc p (aad p1)⟩
theorem BV(all:List ae):∀(s:List an) (p:Option an) (u:List Int) (f g:Nat) (E:List (Nat×Nat)),bE s->u.length=all.length->all.drop f=told s->HL E u ->
  (∀q,p=some q->bE (q::s)/\f=g+q.xs.length/\Dr all g q)->(p=none->f=g)->(∀a,a<g->∀t∈s,(all.getD a bg).y1<t.y0)->
   ∃D,HL (E++D) (pW all p s u f g)/\(∀c∈D,en (all.getD c.1 bg) (all.getD c.2 bg)=true)/\∀a b,f<=b->b<all.length->a<b->en (all.getD a bg) (all.getD b bg)=true->(a,b)∈D
 | [],p,u,f,g,E,hs,hl,hd,h,hp,hn,S4=>by
  refine⟨[],by rw[acw];exact h,fun c hc=>(by cases hc),fun a b h1 h2=>?_⟩;have:=adV List.length hd;simp[told]at this;omega
 | b::s,p,u,f,g,E,hs,hl,hd,h,hp,hn,S4=>by
  have hb:=hs.head;have ba:=KX hd;have el:(told (b::s)).length=b.xs.length+(told s).length:=by simp[told]
  have hfl:f+b.xs.length<=all.length:=by
   have:=adV List.length hd;rw[aaN,el]at this;have b8:=hb.lt;rcases aen all.length f with g1 | g1
   ·have:b.xs.length=0:=by omega
    exact absurd (aef.1 this) hb.ne
   omega
  have Qp:all.drop (f+b.xs.length)=told s:=by
   have e:told (b::s)=b.xs.map (fun p=>(⟨p.1,b.y0,p.2,b.y1⟩:ae))++told s:=by simp[told]
   rw[<-ad7,hd,e,List.drop_append_of_le_length (by simp),ab1 (by simp),aaI]
  rw[pW];obtain⟨D,d1,d2,d3,d4⟩:∃D,HL (E++D) (if meets p b=true then ov all f (f+b.xs.length) (f-g+b.xs.length) u g f else u)/\(∀c∈D,en (all.getD c.1 bg) (all.getD c.2 bg)=true)/\
    (∀x y,g<=x->x<f->f<=y->y<f+b.xs.length->en (all.getD x bg) (all.getD y bg)=true->(x,y)∈D)/\(if meets p b=true then ov all f (f+b.xs.length) (f-g+b.xs.length) u g f else u).length=u.length:=by
   cases p with
   | none=>
    have:=hn rfl;exact⟨[],by rw[acw];exact h,fun c hc=>(by cases hc),fun x y h1 h2=>by omega,rfl⟩
   | some q=>
    obtain⟨q1,q2,q3⟩:=hp q rfl;have hq:=q1.head;have qb:=q1.fM b adU;have oF:=hq.lt;have JC:=hb.lt;have ty:∀x y,g<=x->x<f->f<=y->y<f+b.xs.length->dO (all.getD x bg) (all.getD y bg)=q.y1-b.y0:=fun x y h1 h2 h3 h4=>by
     obtain⟨a1,a2,_⟩:=oz q3 hq.can h1 (by omega);obtain⟨b1,b2,_⟩:=oz ba hb.can h3 h4;simp only[dO,a1,a2,b1,b2];omega
    by_cases m:meets (some q) b=true
    ·rw[aap m];have m:q.y1=b.y0:=adw m;obtain⟨D,e1,e2,e3⟩:=zO all (g:=g) (f:=f) (e:=f+b.xs.length) (by rw[q2];exact zP q3 hq.can) (zP ba hb.can) (f-g+b.xs.length) u g f E (aam _) (aam _) (by omega) (by omega) (by omega) h;refine⟨D,e1,fun c hc=>?_,fun x y h1 h2 h3 h4 ht=>?_,(xP all f _ _ u g f h.uf (by omega) (by omega)).2⟩
     ·obtain⟨⟨c1,c2⟩,⟨c3,c4⟩,o⟩:=e2 c hc;have o:=rG.1 o;have y:=ty _ _ c1 c2 c3 c4;obtain⟨_,_,a3⟩:=oz q3 hq.can c1 (by omega);obtain⟨_,_,b3⟩:=oz ba hb.can c3 c4;exact jY.2 (.inl ⟨by simp only[dN];omega,by omega⟩)
     have y:=ty _ _ h1 h2 h3 h4;refine e3 x _ h1 h2 h3 h4 (rG.2 ?_);rcases jY.1 ht with⟨t1,t2⟩ | ⟨t1,t2⟩
     ·simp only[dN]at t1;omega
     omega
    rw[aaa m];have m:¬q.y1=b.y0:=fun e=>m (acd e);refine⟨[],by rw[acw];exact h,fun c hc=>(by cases hc),fun x y h1 h2 h3 h4 ht=>?_,rfl⟩;have y:=ty _ _ h1 h2 h3 h4;rcases jY.1 ht with⟨t1,t2⟩ | ⟨t1,t2⟩<;>omega
  generalize (if meets p b=true then ov all f (f+b.xs.length) (f-g+b.xs.length) u g f else u)=v at d1 d4 ⊢;have Yn:∀a,a<f->∀t∈s,(all.getD a bg).y1<t.y0:=fun a ha t ht=>by
   have h1:=hs.fM t ht;have h2:=hb.lt;rcases aen a g with c | c
   ·have:=S4 a c b adU;omega
   cases p with
   | none=>have:=hn rfl;omega
   | some q=>
    obtain⟨q1,q2,q3⟩:=hp q rfl;have h3:=q1.fM b adU;obtain⟨_,a2,_⟩:=oz q3 q1.head.can c (by omega);omega
  obtain⟨D',e1,e2,e3⟩:=BV all s (some b) v (f+b.xs.length) f (E++D) hs.tail (by omega) Qp d1 (fun q hq=>by injection hq with hq;subst hq;exact⟨hs,rfl,ba⟩) (fun x=>by cases x) Yn;refine⟨D++D',by rw[<-abx];exact e1,fun c hc=>?_,fun x y h1 h2 h3 ht=>?_⟩
  ·rcases abi.1 hc with hc | hc
   ·exact d2 c hc
   exact e2 c hc
  rcases aen y (f+b.xs.length) with c | c
  ·obtain⟨b1,b2,b3⟩:=oz ba hb.can h1 c;rcases aen x g with c2 | c2
   ·have l:=S4 x c2 b adU;rcases jY.1 ht with⟨t1,t2⟩ | ⟨t1,t2⟩<;>simp only[dO]at t2<;>omega
   rcases aen x f with c3 | c3
   ·exact abY _ (d3 x y c2 c3 h1 c ht)
   have l:=zP ba hb.can x y c3 h3 c;rcases jY.1 ht with⟨t1,t2⟩ | ⟨t1,t2⟩<;>simp only[dN]at t1<;>omega
  exact adt _ (e3 x y c h2 h3 ht)
def cN(r:List ae)(a b:Nat):Bool:=en (r.getD a bg) (r.getD b bg)
theorem FB(h:bE s):Ym (cQ (jE s)) (cN (told s)) (told s).length:=by
 obtain⟨D,d1,d2,d3⟩:=BV (told s) s none (iota (told s).length) 0 0 [] h (aeM _) rfl (Fz _) (fun q hq=>by cases hq) (fun _=>rfl) (fun a ha=>by omega);have d1:HL D (jE s):=d1;have len:=(zv s).2;have tp:=rz d1.uf;rw[len]at tp;refine⟨tp,fun a b ha hb hq=>?_,fun S hS k hk hp=>?_⟩
 ·rcases ada a b with c | c | c
  ·exact (ae8 d1.uf (by omega) (by omega)).1 (d1.edge _ (d3 a b (by omega) hb c hq)).2.2
  ·rw[c]
  rw[cN,zN]at hq;exact ((ae8 d1.uf (by omega) (by omega)).1 (d1.edge _ (d3 b a (by omega) ha c hq)).2.2).symm
 refine (d1.cl S (fun e he=>?_) (cQ (jE s) k) k ?_).1 hp
 ·obtain⟨l1,l2,_⟩:=d1.edge e he;have ht:=d2 e he;exact⟨fun g=>hS _ _ (by omega) (by omega) g ht,fun g=>hS _ _ (by omega) (by omega) g (by rw[cN,zN];exact ht)⟩
 have:=tp.le k hk;exact (ae8 d1.uf (by omega) (by omega)).2 (tp.top k hk)
theorem HM{l m:List ae}(hl:∀r∈l,Full r)(h:∀r,r∈l↔r∈m):aB l=aB m:=by
 obtain⟨a1,a2,_⟩:=aR hl;obtain⟨b1,b2,_⟩:=aR (l:=m) fun r hr=>hl r ((h r).2 hr);refine iK _ _ a1 b1 fun x y=>?_;rw[a2,b2,abb,aci,aci];exact⟨fun ⟨r,h1,h2⟩=>⟨r,(h r).1 h1,h2⟩,fun ⟨r,h1,h2⟩=>⟨r,(h r).2 h1,h2⟩⟩
def Jh(r:List ae):List (List ae):=(NI (cN r) r.length).map fun L=>bR (L.map fun k=>r.getD k bg)
theorem Ds(h:bE s):Jh (told s)=(cV s).map told:=by
 have hc:=FB h;obtain⟨_,_,M,m1,m2⟩:=rF hc (told s).length (aam _);rw[Jh,NI,m1,cV,ox,aP,ad6,ad6,ad6,ad6];refine aaG fun r hr=>?_;show told (aB _)=told (aB _);have fl:=bP h;have hm:=m2 r hr;rw[HM]
 ·intro q hq;obtain⟨k,hk,rfl⟩:=adS.1 hq;have:=((hm k).1 hk).1;exact fl _ (by rw[ad4,acg this];exact adn this)
 intro q;simp only[adS];constructor
 ·rintro⟨k,hk,e⟩;exact⟨k,dx.2 ((hm k).1 hk),e⟩
 rintro⟨k,hk,e⟩;exact⟨k,(hm k).2 (dx.1 hk),e⟩
def dD(l:List ae):ae:=l.getD 0 bg
def kX(x:ae)(l:List (List ae)):Nat->Nat
 | 0=>0
 | k+1=>if before x (dD (l.getD k []))=true then kX x l k else k+1
def zQ(l:List (List ae))(r:List ae):List (List ae):=(l.take (kX (dD r) l l.length)++[r])++l.drop (kX (dD r) l l.length)
theorem NJ{l:List (List ae)}{r:List ae}(h:∀t,l.getLast?=some t->before (dD r) (dD t)=false):zQ l r=l++[r]:=by
 have e:kX (dD r) l l.length=l.length:=by
  cases hn:l.length with
  | zero=>rfl
  | succ k=>
   rw[kX];have hk:l[k]?=some l[k]:=acg (by omega);rw[aaa];rw[ad4,hk];have:=h l[k] (by rw[acB,show l.length-1=k by omega];exact hk);simp only[acy,this];simp
 rw[zQ,e,abU,List.drop_length,acw]
def nN(r:List ae)(s:List Bool×List (List ae))(i:Nat):List Bool×List (List ae):=
 if s.1.getD i true=true then s else ((kL (cN r) r.length r.length 0 (s.1.set i true,[i])).1,zQ s.2 (bR ((kL (cN r) r.length r.length 0 (s.1.set i true,[i])).2.map fun k=>r.getD k bg)))
def cB(r:List ae)(i:Nat):List Bool×List (List ae):=(List.range i).foldl (nN r) (List.replicate r.length false,[])
def lU(r:List ae):List (List ae):=(cB r r.length).2
theorem iz(r:List ae)(i:Nat):cB r (i+1)=nN r (cB r i) i:=by simp[cB,adK,aaD]
theorem HN{a b:ae}:before a b=false↔¬(a.y0<b.y0\/(a.y0=b.y0/\a.x0<b.x0)):=by
 rw[<-Bool.not_eq_true,gN]
theorem HO{l:List ae}(hl:∀r∈l,Full r){q:ae}(hq:q∈l)(h:∀r∈l,q.y0<r.y0\/(q.y0=r.y0/\q.x0<=r.x0)):(dD (bR l)).y0=q.y0/\(dD (bR l)).x0=q.x0:=by
 obtain⟨a1,a2,_⟩:=aR hl;have fq:=hl q hq;have QU:at' (aB l) q.x0 q.y0=true:=by
  rw[a2,aci];exact⟨q,hq,aQ.2 ⟨acP _,fq.1,acP _,fq.2⟩⟩
 rw[bR];cases e:aB l with
 | nil=>rw[e]at QU;cases QU
 | cons b s=>
  rw[e]at a1 a2 QU;have hb:=a1.head;cases ex:b.xs with
  | nil=>exact absurd ex hb.ne
  | cons p t=>
   have e1:dD (told (b::s))=⟨p.1,b.y0,p.2,b.y1⟩:=by simp[dD,told,ex]
   rw[e1];show b.y0=q.y0/\p.1=q.x0;have hc:=hb.can;rw[ex]at hc;have hp:=hc.head;have hy:=hb.lt;have ZK:at' (b::s) p.1 b.y0=true:=qB.2 ⟨b,adU,acP _,hy,(cu hb.can _).2 ⟨p,by rw[ex];exact adU,acP _,hp⟩⟩;rw[a2,aci]at ZK;obtain⟨r,hr,iO⟩:=ZK;obtain⟨r1,r2,r3,r4⟩:=aQ.1 iO;have hqr:=h r hr;obtain⟨c,WD,c1,c2,c3⟩:=qB.1 QU;have eb:c=b:=by
    rcases adq.1 WD with g | g
    ·exact g
    have:=a1.fM c g;omega
   subst eb;obtain⟨u,hu,u1,u2⟩:=(cu hb.can _).1 c3;rw[ex]at hu;have:p.1<=u.1:=by
    rcases adq.1 hu with g | g
    ·rw[g];exact acP _
    have:=hc.behind u g;omega
   omega
theorem sd(h:bE s):∀i,i<=(told s).length ->
  (cB (told s) i).1=((List.range i).foldl (mK (cN (told s)) (told s).length) (List.replicate (told s).length false,[])).1 /\
  (cB (told s) i).2=((List.range i).foldl (mK (cN (told s)) (told s).length) (List.replicate (told s).length false,[])).2.map fun L=>bR (L.map fun k=>(told s).getD k bg)
 | 0,_=>⟨rfl,rfl⟩
 | i+1,hi=>by
  obtain⟨i1,i2⟩:=sd h i (by omega);have hc:=FB h;obtain⟨_,_,M,m1,m2⟩:=rF hc i (by omega);obtain⟨_,_,M',VF,Yo⟩:=rF hc (i+1) hi;rw[iz];have TB:(List.range (i+1)).foldl (mK (cN (told s)) (told s).length) (List.replicate (told s).length false,[])=mK (cN (told s)) (told s).length ((List.range i).foldl (mK (cN (told s)) (told s).length) (List.replicate (told s).length false,[])) i:=by
   rw[adK,aaD];rfl
  rw[TB]at VF ⊢;generalize (List.range i).foldl (mK (cN (told s)) (told s).length) (List.replicate (told s).length false,[])=w at i1 i2 m1 VF ⊢;generalize cB (told s) i=v at i1 i2 ⊢;rw[nN,mK]at *;rw[i1];by_cases c:w.1.getD i true=true
  ·rw[aap c,aap c];exact⟨i1,i2⟩
  rw[aaa c]at VF ⊢;rw[aaa c];refine⟨rfl,?_⟩;generalize kL (cN (told s)) (told s).length (told s).length 0 (w.1.set i true,[i])=z at VF ⊢;show zQ v.2 (bR (z.2.map _))=_;have get:∀k,k<(told s).length->(told s)[k]?=some ((told s).getD k bg):=fun k hk=>by rw[ad4,acg hk];rfl
  have fl:=bP h;have ord:∀a b,a<b->b<(told s).length->before ((told s).getD a bg) ((told s).getD b bg)=true:=fun a b h1 h2=>by
   obtain⟨a1,a2⟩:=aao.1 (get a (by omega));obtain⟨b1,b2⟩:=aao.1 (get b h2);have:=aaS.1 (pk h) a b a1 b1 h1;rw[a2,b2]at this;exact this
  have hd:∀(r:Nat) (L:List Nat),r<(told s).length->cQ (jE s) r=r->(∀k,k∈L↔k<(told s).length/\cQ (jE s) k=r)->
    (dD (bR (L.map fun k=>(told s).getD k bg))).y0=((told s).getD r bg).y0/\(dD (bR (L.map fun k=>(told s).getD k bg))).x0=((told s).getD r bg).x0:=fun r L hr hp hL=>by
   refine HO (fun q hq=>?_) (adS.2 ⟨r,(hL r).2 ⟨hr,hp⟩,rfl⟩) fun q hq=>?_
   ·obtain⟨k,hk,rfl⟩:=adS.1 hq;exact fl _ (aad (get k ((hL k).1 hk).1))
   obtain⟨k,hk,rfl⟩:=adS.1 hq;obtain⟨k1,k2⟩:=(hL k).1 hk;have:=hc.tops.le k k1;by_cases e:r=k
   ·subst e;exact .inr ⟨rfl,acP _⟩
   have:=gN.1 (ord r k (by omega) k1);omega
  have KY:w.2++[z.2]=(cd (cQ (jE s)) (i+1)).map M':=VF;rw[fE]at KY Yo;by_cases pi:cQ (jE s) i=i
  ·rw[aap pi]at KY Yo;rw[abE]at KY;have zi:=(List.append_inj KY (by rw[m1];simp)).2;have zi:z.2=M' i:=by simpa using zi
   have mz:=Yo i (adt _ (ab_.2 rfl));rw[<-zi]at mz;rw[NJ,i2,abE]
   ·rfl
   intro t ht;rw[i2,m1,ad6]at ht;obtain⟨r,hr,rfl⟩:=adS.1 (acp ht);obtain⟨r1,r2⟩:=mem_keys.1 hr;obtain⟨a1,a2⟩:=hd i z.2 (by omega) pi mz;obtain⟨b1,b2⟩:=hd r (M r) (by omega) r2 (m2 r hr);have o:=gN.1 (ord r i r1 (by omega));rw[HN];simp only[Function.comp]at *;omega
  rw[aaa pi]at KY;have:=adV List.length KY;rw[m1]at this;simp at this
theorem uG(h:bE s):lU (told s)=(cV s).map told:=by
 rw[lU,(sd h _ (aam _)).2,<-Ds h];rfl
theorem pF(h:bE s):aB (told s)=s:=by
 obtain⟨a1,a2,_⟩:=aR (bP h);exact iK _ _ a1 h fun x y=>by rw[a2,iy h]
theorem Ra{t:List an}(hs:bE s)(ht:bE t):aeB 1 (told s) (told t)=told (uo s t):=by rw[aeB,PY (bP hs) (bP ht),pF hs,pF ht]
theorem FC{t:List an}(hs:bE s)(ht:bE t):aeB 3 (told s) (told t)=told (bN s t):=by rw[aeB,KU (bP hs) (bP ht),pF hs,pF ht]
theorem qS{r:ae}(h:Full r):told (aB [r])=[r]:=by rw[vC h];rfl
theorem gz{r:ae}(h:Full r):bE (aB [r])/\∀x y,at' (aB [r]) x y=dE x y r:=by
 obtain⟨a1,a2,_⟩:=aR (l:=[r]) fun q hq=>by rw[ab_.1 hq];exact h
 exact⟨a1,fun x y=>by rw[a2];simp⟩
def dp(o q:ae):ae:=⟨min o.x0 q.x0,min o.y0 q.y0,max o.x1 q.x1,max o.y1 q.y1⟩
def dy(r:List ae):ae:=r.foldl dp (dD r)
theorem wY:∀(l:List ae) (o:ae),((l.foldl dp o).x0<=o.x0/\(l.foldl dp o).y0<=o.y0/\o.x1<=(l.foldl dp o).x1/\o.y1<=(l.foldl dp o).y1)/\
  (∀q∈l,(l.foldl dp o).x0<=q.x0/\(l.foldl dp o).y0<=q.y0/\q.x1<=(l.foldl dp o).x1/\q.y1<=(l.foldl dp o).y1)/\∀K,RK K o->(∀q∈l,RK K q)->RK K (l.foldl dp o)
 | [],o=>⟨⟨acP _,acP _,acP _,acP _⟩,fun q hq=>(by cases hq),fun K h _=>h⟩
 | p::l,o=>by
  obtain⟨⟨a1,a2,a3,a4⟩,b,c⟩:=wY l (dp o p);have e1:(dp o p).x0=min o.x0 p.x0:=rfl;have e2:(dp o p).y0=min o.y0 p.y0:=rfl;have e3:(dp o p).x1=max o.x1 p.x1:=rfl;have e4:(dp o p).y1=max o.y1 p.y1:=rfl;rw[aaq];refine⟨⟨by omega,by omega,by omega,by omega⟩,fun q hq=>?_,fun K hK hl=>c K ?_ fun q hq=>hl q (aaw _ hq)⟩
  ·rcases adq.1 hq with e | hq
   ·rw[e];exact⟨by omega,by omega,by omega,by omega⟩
   exact b q hq
  have:=hl p adU;unfold RK at *;omega
theorem pG(h:bE s)(hn:s≠[]):Full (dy (told s))/\(∀x y,at' s x y=true->dE x y (dy (told s))=true)/\∀K,cv K s->RK K (dy (told s)):=by
 obtain⟨a,b,c⟩:=wY (told s) (dD (told s));have hm:dD (told s)∈told s:=by
  have:told s≠[]:=fun e=>hn (qD h e);rw[dD,ad4,acg (List.length_pos_iff.2 this)];exact adn _
 have f:=bP h _ hm;have f1:=f.1;have f2:=f.2;refine⟨⟨?_,?_⟩,fun x y hx=>?_,fun K hK=>c K (fR h hK _ hm) fun q hq=>fR h hK q hq⟩
 ·show (List.foldl dp _ _).x0<(List.foldl dp _ _).x1;omega
 ·show (List.foldl dp _ _).y0<(List.foldl dp _ _).y1;omega
 rw[<-iy h,aci]at hx;obtain⟨q,hq,hh⟩:=hx;have:=b q hq;obtain⟨g1,g2,g3,g4⟩:=aQ.1 hh;exact aQ.2 ⟨by show (List.foldl dp _ _).x0<=x;omega,by show x<(List.foldl dp _ _).x1;omega,by show (List.foldl dp _ _).y0<=y;omega,by show y<(List.foldl dp _ _).y1;omega⟩
theorem FD(h:bE s){box:ae}(hf:Full box){l r d u:Int}(hl:0<=l)(hr:0<=r)(hd:0<=d)(hu:0<=u)
  (hb:∀x y,at' s x y=true->box.x0<=x-l/\x+r<box.x1/\box.y0<=y-d/\y+u<box.y1):bN s (a_ (bN (aB [box]) s) r l u d)=coreS s l r d u:=by
 obtain⟨b1,b2⟩:=gz hf;obtain⟨c1,c2,_⟩:=b6 b1 h;obtain⟨d1,d2,_⟩:=bW c1 hr hl hu hd;obtain⟨e1,e2,_⟩:=b6 h d1;obtain⟨k1,k2,_⟩:=pe h hl hr hd hu;refine iK _ _ e1 k1 fun x y=>?_;rw[abb,k2,e2,aaZ,ael];constructor
 ·rintro⟨h1,h2⟩ a b g1 g2 g3 g4;cases qb:at' s a b with
  | true=>rfl
  | false=>
   have ha:=hb x y h1;have:at' (a_ (bN (aB [box]) s) r l u d) x y=true:=(d2 x y).2 ⟨a,b,by
    rw[c2,b2,qb,aQ.2 ⟨by omega,by omega,by omega,by omega⟩];rfl,by omega,by omega,by omega,by omega⟩
   rw[h2]at this;cases this
 intro aeL;refine⟨aeL x y (by omega) (by omega) (by omega) (by omega),?_⟩;rw[aaV];intro hp;obtain⟨a,b,g0,g1,g2,g3,g4⟩:=(d2 x y).1 hp;rw[c2,aeL a b (by omega) (by omega) (by omega) (by omega)]at g0;simp at g0
def ff(q:ae)(n:Int):ae:=⟨q.x0-n,q.y0-n,q.x1+n,q.y1+n⟩
theorem l6{q:ae}(h:Full q){n:Int}(h0:0<=n):Full (ff q n):=⟨by have:=h.1;show q.x0-n<q.x1+n;omega,by have:=h.2;show q.y0-n<q.y1+n;omega⟩
def Dt(r:List ae)(n:Int):List ae:=aeB 3 [ff (dy r) n] r
def xT(r:List ae)(n:Int):List ae:=if r.length=0 then [] else aeB 3 r (bR ((Dt r n).map fun q=>ff q n))
theorem wZ(h:bE s)(hn:s≠[]){n:Int}(h0:0<=n):Dt (told s) n=told (bN (aB [ff (dy (told s)) n]) s):=by
 have f:=l6 (pG h hn).1 h0;rw[Dt,<-qS f,FC (gz f).1 h,qS f]
theorem FE(h:bE s){n:Int}(h0:0<=n):xT (told s) n=told (coreS s n n n n):=by
 rw[xT];by_cases hn:s=[]
 ·subst hn;rfl
 have ht:(told s).length≠0:=fun e=>hn (qD h (aef.1 e));obtain⟨b1,b2,_⟩:=pG h hn;have f:=l6 b1 h0;rw[aaa ht,wZ h hn h0];have k1:=(b6 (gz f).1 h).1;have e:bR ((told (bN (aB [ff (dy (told s)) n]) s)).map fun q=>ff q n)=told (a_ (bN (aB [ff (dy (told s)) n]) s) n n n n):=rfl;rw[e,FC h (bW k1 h0 h0 h0 h0).1,FD h f h0 h0 h0 h0];intro x y hx;obtain⟨g1,g2,g3,g4⟩:=aQ.1 (b2 x y hx);exact⟨by show (dy (told s)).x0-n<=_;omega,by show _<(dy (told s)).x1+n;omega,by show (dy (told s)).y0-n<=_;omega,by show _<(dy (told s)).y1+n;omega⟩
theorem vQ{K:Nat}(h:bE s)(hb:cv K s):(told s).length<=2*K*K:=by
 have h1:=cc h (by omega) hb;have h2:=uj (M:=K) (s:=s) fun t ht=>by have:=kT h (by omega) hb t ht;omega
 exact aaF h2 (abf _ (by omega))
theorem zR{K:Nat}:∀{l:List Int} {a:Int},bF (a::l)->(∀y∈a::l,y<=K)->(l.length:Int)<=K-a
 | [],a,_,h=>by have:=h a (by simp);simp only[acs];omega
 | b::l,a,hr,h=>by
  have ih:=zR (l:=l) (a:=b) (ade.1 hr).2 (fun y hy=>h y (by simp at hy ⊢;exact .inr hy));have h1:=(ade.1 hr).1 b (by simp);simp only[aaB];omega
theorem BX{l:List ae}{K:Nat}(hf:∀r∈l,Full r)(hk:∀r∈l,RK K r):(aE l).length<=2*K+1:=by
 obtain⟨h1,h2⟩:=cT l;have h3:∀y∈aE l,-(K:Int)<=y/\y<=K:=fun y hy=>by
  obtain⟨r,hr,e⟩:=(h2 y).1 hy;have a:=hf r hr;obtain⟨b1,b2,b3,b4⟩:=hk r hr;have:=a.2;rcases e with e | e<;>omega
 generalize aE l=ys at *;cases ys with
 | nil=>simp
 | cons a ys=>
  have h4:=zR h1 fun y hy=>(h3 y hy).2;have h5:=(h3 a (by simp)).1;simp only[aaB];omega
theorem PZ(h:bE s)(hn:s≠[]):told s≠[]:=fun e=>hn (qD h e)
theorem uH{l:List ae}(hf:∀r∈l,Full r)(hn:l≠[]):bR l≠[]:=by
 obtain⟨h1,h2,_⟩:=aR hf;refine PZ h1 fun e=>?_;cases l with
 | nil=>exact hn rfl
 | cons r l=>
  have h3:=h2 r.x0 r.y0;rw[e]at h3;have h4:=hf r (by simp);have h5:dE r.x0 r.y0 r=true:=aQ.2 ⟨by omega,h4.1,by omega,h4.2⟩;rw[abd,h5,abn]at h3;cases h3
def Yp(YQ:List Int)(l:List ae):Prop:=∀r∈l,r.y0∈YQ/\r.y1∈YQ
theorem getD_in{ys:List Int}{k:Nat}(h:k<ys.length):ys.getD k 0∈ys:=by
 rw[ad4,acg h];exact adn h
theorem Yp.mono{YQ ZQ:List Int}{l:List ae}(h:Yp YQ l)(k:∀y∈YQ,y∈ZQ):Yp ZQ l:=fun r hr=>⟨k _ (h r hr).1,k _ (h r hr).2⟩
end Reg
namespace M
open Go.AM Go.RowKit
open Reg (ae aU an bE cv Full RK told aB aeB bN uo nM)
theorem FF(a b:List ae)(qb:a.length+b.length<=4398046511104)(hy:(Reg.aE (a++b)).length<=3000000000000)(hr:(aeB 3 a b).length<=4398046511104):af C 54 [.pv (aj a),.pv (aj b)] (.p (aj (aeB 3 a b))) []:=by
 refine fW hC Tryz.func54 rfl (by kernel_rfl) fun _=>?_;refine⟨_,_,(uF a b 3 qb hy hr),?_⟩;refine⟨?_,trivial⟩;rfl
theorem FG(a b:List ae)(qb:a.length+b.length<=4398046511104)(hy:(Reg.aE (a++b)).length<=3000000000000)(hr:(aeB 1 a b).length<=4398046511104):af C 132 [.pv (aj a),.pv (aj b)] (.p (aj (aeB 1 a b))) []:=by
 refine fW hC Tryz.func132 rfl (by kernel_rfl) fun _=>?_;refine⟨_,_,(uF a b 1 qb hy hr),?_⟩;refine⟨?_,trivial⟩;rfl
variable {s:List an}
theorem w7{t:List an}(hs:bE s)(ht:bE t)(ks:cv 1400000 s)(kt:cv 1400000 t):(Reg.aE (told s++told t)).length<=3000000000000:=by
 have:=Reg.BX (K:=1400000) (l:=told s++told t) (fun r hr=>by
  rcases abi.1 hr with h | h
  ·exact Reg.bP hs r h
  ·exact Reg.bP ht r h) (fun r hr=>by
  rcases abi.1 hr with h | h
  ·exact Reg.fR hs ks r h
  exact Reg.fR ht kt r h)
 omega
theorem mL{t:List an}(hs:bE s)(ht:bE t)(ks:cv 1400000 s)(kt:cv 1400000 t)(hn:(told s).length+(told t).length<=4398046511104):af C 54 [.pv (aj (told s)),.pv (aj (told t))] (.p (aj (told (bN s t)))) []:=by
 obtain⟨a1,a2,a3⟩:=Reg.b6 hs ht;have h:=FF (told s) (told t) hn (w7 hs ht ks kt) (by rw[Reg.FC hs ht];exact Reg.fj a1 (a3 _ ks kt))
 rwa [Reg.FC hs ht]at h
theorem S6{t:List an}(hs:bE s)(ht:bE t)(ks:cv 1400000 s)(kt:cv 1400000 t)(hn:(told s).length+(told t).length<=4398046511104):af C 132 [.pv (aj (told s)),.pv (aj (told t))] (.p (aj (told (uo s t)))) []:=by
 obtain⟨a1,a2,a3⟩:=Reg.kH hs ht;have h:=FG (told s) (told t) hn (w7 hs ht ks kt) (by rw[Reg.Ra hs ht];exact Reg.fj a1 (a3 _ ks kt))
 rwa [Reg.Ra hs ht]at h
theorem vR{l:List ae}(hf:∀r∈l,Full r)(hk:∀r∈l,RK 1400000 r)(hn:l.length<=4398046511104):af C 93 [.pv (aj l)] (.p (aj (told (aB l)))) []:=by
 obtain⟨b1,_,b3⟩:=Reg.aR hf;have hh:=Reg.BX (K:=1400000) hf hk;exact rV l hn (by omega) (Reg.fj b1 (b3 _ hk))
end M
namespace Reg
theorem FH:∀(l:List Int) (n:Int),l.foldl min n<=n/\(∀x∈l,l.foldl min n<=x)/\(l.foldl min n=n\/l.foldl min n∈l)
 | [],n=>⟨acP _,fun x h=>(by cases h),.inl rfl⟩
 | m::l,n=>by
  obtain⟨h1,h2,h3⟩:=FH l (min n m);rw[aaq];refine⟨by omega,fun x hx=>?_,?_⟩
  ·rcases adq.1 hx with e | hx
   ·rw[e];omega
   exact h2 x hx
  rcases h3 with e | e
  ·rw[e];by_cases c:n<=m
   ·exact .inl (by omega)
   exact .inr (by rw[show min n m=m by omega];exact adU)
  exact .inr (aaw _ e)
theorem head_mem{l:List ae}(h:l≠[]):dD l∈l:=by
 rw[dD,ad4,acg (List.length_pos_iff.2 h)];exact adn _
theorem HP(a b:ae):0<=fT a b:=by simp only[fT,bA];omega
theorem uI(a b c d:Int):bA a b c d=bA c d a b:=by simp only[bA];omega
theorem uJ(a b:ae):fT a b=fT b a:=by rw[fT,fT,uI a.x0,uI a.y0]
theorem zS{a b c d p:Int}(h1:c<=p)(h2:p<d):bA a b c d<=bA a b p (p+1):=by simp only[bA];omega
theorem NK{y u:ae}{p:Int×Int}(h:dE p.1 p.2 u=true):fT y u<=fT y (xu p):=by
 obtain⟨h1,h2,h3,h4⟩:=aQ.1 h;have a:=zS (a:=y.x0) (b:=y.x1) h1 h2;have b:=zS (a:=y.y0) (b:=y.y1) h3 h4;show max (bA y.x0 y.x1 u.x0 u.x1) (bA y.y0 y.y1 u.y0 u.y1)<=max (bA y.x0 y.x1 p.1 (p.1+1)) (bA y.y0 y.y1 p.2 (p.2+1));omega
theorem NL{u v:ae}(hu:Full u){n:Int}(h:fT u v<=n):dE (jD u v n).1 (jD u v n).2 u=true:=by
 obtain⟨u1,u2⟩:=hu;have h1:bA u.x0 u.x1 v.x0 v.x1<=n:=by unfold fT at h;omega
 have h2:bA u.y0 u.y1 v.y0 v.y1<=n:=by unfold fT at h;omega
 simp only[bA]at h1 h2;refine aQ.2 ⟨?_,?_,?_,?_⟩<;>simp only[jD]<;>omega
end Reg
namespace M
open Go.AM Go.RowKit Go.Lib
open Reg (ae Full fT bA)
def jZ(r:ae):Prop:=(-4611686018427387000<=r.x0/\r.x0<=4611686018427387000)/\(-4611686018427387000<=r.y0/\r.y0<=4611686018427387000)/\(-4611686018427387000<=r.x1/\r.x1<=4611686018427387000)/\(-4611686018427387000<=r.y1/\r.y1<=4611686018427387000)
end M
namespace Reg
def eJ(q:ae)(c:List an)(n:Int):List an:=bN (bN (a_ (aB [q]) n n n n) (aB [q])) c
theorem pH{q:ae}(hq:Full q){c:List an}(hc:bE c){n:Int}(h0:0<=n):bE (eJ q c n)/\∀x y,at' (eJ q c n) x y=true↔fT (xu (x,y)) q<=n/\dE x y q=false/\at' c x y=false:=by
 obtain⟨b1,b2⟩:=gz hq;obtain⟨s1,s2,_⟩:=bW b1 h0 h0 h0 h0;obtain⟨l1,l2,_⟩:=b6 s1 b1;obtain⟨m1,m2,_⟩:=b6 l1 hc;refine⟨m1,fun x y=>?_⟩;have e:at' (a_ (aB [q]) n n n n) x y=true↔fT (xu (x,y)) q<=n:=by
  rw[s2];obtain⟨q1,q2⟩:=hq;have key:fT (xu (x,y)) q<=n↔(q.x0-n<=x/\x<q.x1+n)/\q.y0-n<=y/\y<q.y1+n:=by
   have ex:bA x (x+1) q.x0 q.x1<=n↔q.x0-n<=x/\x<q.x1+n:=by simp only[bA];omega
   have ey:bA y (y+1) q.y0 q.y1<=n↔q.y0-n<=y/\y<q.y1+n:=by simp only[bA];omega
   rw[<-ex,<-ey];show max (bA x (x+1) q.x0 q.x1) (bA y (y+1) q.y0 q.y1)<=n↔_;omega
  rw[key];constructor
  ·rintro⟨a,b,h1,h2,h3,h4,h5⟩;rw[b2]at h1;obtain⟨g1,g2,g3,g4⟩:=aQ.1 h1;exact⟨⟨by omega,by omega⟩,by omega,by omega⟩
  rintro⟨⟨h1,h2⟩,h3,h4⟩;refine⟨max q.x0 (min x (q.x1-1)),max q.y0 (min y (q.y1-1)),?_,by omega,by omega,by omega,by omega⟩;rw[b2];exact aQ.2 ⟨by omega,by omega,by omega,by omega⟩
 rw[eJ,m2,l2,b2,aaZ,aaZ,e,ael,ael,and_assoc]
def gT(m:List ae)(q:ae):Int:=m.foldl (fun n r=>min n (fT r q)) (fT (dD m) q)
theorem Du{m:List ae}(hm:m≠[])(q:ae):(∀r∈m,gT m q<=fT r q)/\∃r∈m,gT m q=fT r q:=by
 have e:gT m q=(m.map fun r=>fT r q).foldl min (fT (dD m) q):=by rw[gT,List.foldl_map]
 obtain⟨_,h2,h3⟩:=FH (m.map fun r=>fT r q) (fT (dD m) q);rw[e];refine⟨fun r hr=>h2 _ (adS.2 ⟨r,hr,rfl⟩),?_⟩;rcases h3 with g | g
 ·exact⟨_,head_mem hm,g⟩
 obtain⟨r,hr,g⟩:=adS.1 g;exact⟨r,hr,g.symm⟩
theorem NM{r q:ae}(hr:Full r)(hq:Full q):dE (jD r q (fT r q)).1 (jD r q (fT r q)).2 r=true/\fT (xu (jD r q (fT r q))) q<=fT r q:=by
 refine⟨NL hr (acP _),?_⟩;have h0:=HP r q;have hx:bA r.x0 r.x1 q.x0 q.x1<=fT r q:=by unfold fT;omega
 have hy:bA r.y0 r.y1 q.y0 q.y1<=fT r q:=by unfold fT;omega
 generalize fT r q=n at *;obtain⟨q1,q2⟩:=hq;have ax:bA (max r.x0 (q.x0-n)) (max r.x0 (q.x0-n)+1) q.x0 q.x1<=n:=by simp only[bA]at hx ⊢;omega
 have ay:bA (max r.y0 (q.y0-n)) (max r.y0 (q.y0-n)+1) q.y0 q.y1<=n:=by simp only[bA]at hy ⊢;omega
 show max (bA (max r.x0 (q.x0-n)) (max r.x0 (q.x0-n)+1) q.x0 q.x1) (bA (max r.y0 (q.y0-n)) (max r.y0 (q.y0-n)+1) q.y0 q.y1)<=n;omega
theorem afz{q:ae}(hq:Full q){c:List an}(hc:bE c){g:Int}(h0:0<=g)(hn:eJ q c g≠[]):
  1<=gT (told (eJ q c g)) q/\gT (told (eJ q c g)) q<=g/\∀n,0<=n->n<=g->(eJ q c n=[]↔n<gT (told (eJ q c g)) q):=by
 obtain⟨s1,s2⟩:=pH hq hc h0;have ht:told (eJ q c g)≠[]:=fun e=>hn (qD s1 e);obtain⟨l1,r,hr,l2⟩:=Du ht q;have fr:=bP s1 r hr;obtain⟨p1,p2⟩:=NM fr hq;have pin:at' (eJ q c g) (jD r q (fT r q)).1 (jD r q (fT r q)).2=true:=by
  rw[<-iy s1,aci];exact⟨r,hr,p1⟩
 obtain⟨i1,i2,i3⟩:=(s2 _ _).1 pin;have ge1:∀x y,dE x y q=false->1<=fT (xu (x,y)) q:=fun x y h=>by
  obtain⟨q1,q2⟩:=hq;have h:=fun g=>aaV.1 h (aQ.2 g);have ex:bA x (x+1) q.x0 q.x1<1->q.x0<=x/\x<q.x1:=by simp only[bA];omega
  have ey:bA y (y+1) q.y0 q.y1<1->q.y0<=y/\y<q.y1:=by simp only[bA];omega
  refine acz fun k=>h ?_;have k:max (bA x (x+1) q.x0 q.x1) (bA y (y+1) q.y0 q.y1)<1:=by
   show fT (xu (x,y)) q<1;omega
  have:=ex (by omega);have:=ey (by omega);exact⟨by omega,by omega,by omega,by omega⟩
 have low:gT (told (eJ q c g)) q<=fT (xu (jD r q (fT r q))) q:=by
  have:=NK (y:=q) (u:=r) (p:=jD r q (fT r q)) p1;rw[uJ q r,uJ q]at this;omega
 have one:=ge1 _ _ i2;refine⟨?_,?_,fun n n0 ng=>⟨fun he=>?_,fun eF=>?_⟩⟩
 ·have:=p2;have o:1<=fT (xu (jD r q (fT r q))) q:=one;omega
 ·have:fT (xu (jD r q (fT r q))) q<=g:=i1;omega
 ·refine acz fun k=>?_;obtain⟨t1,t2⟩:=pH hq hc n0;have:at' (eJ q c n) (jD r q (fT r q)).1 (jD r q (fT r q)).2=true:=(t2 _ _).2 ⟨by
   have:fT (xu (jD r q (fT r q))) q<=n:=by omega
   exact this,i2,i3⟩
  rw[he]at this;cases this
 obtain⟨t1,t2⟩:=pH hq hc n0;refine qC t1 fun x y=>?_;rw[aaV];intro k;obtain⟨k1,k2,k3⟩:=(t2 x y).1 k;have kg:at' (eJ q c g) x y=true:=(s2 x y).2 ⟨by omega,k2,k3⟩;rw[<-iy s1,aci]at kg;obtain⟨u,hu,hh⟩:=kg;have h1:=l1 u hu;have h2:=NK (y:=q) (u:=u) (p:=(x,y)) hh;rw[uJ q u,uJ q]at h2;omega
theorem NN{x a b:Int}(h:a<b)(h1:a-1<=x)(h2:x<b+1):∃c,(a<=c/\c<b)/\x-1<=c/\c<=x+1:=⟨max a (min x (b-1)),⟨by omega,by omega⟩,by omega,by omega⟩
theorem Rb{a b c d:Int}(h:a<b)(k:c<d)(h1:0<=min b d-max a c):∃x,(a<=x/\x<b)/\c-1<=x/\x<d+1:=⟨max a (min (c-1) (b-1)),⟨by omega,by omega⟩,by omega,by omega⟩
theorem Rc{a b c d:Int}(h1:0<min b d-max a c):∃x,(a<=x/\x<b)/\c<=x/\x<d:=⟨max a c,⟨by omega,by omega⟩,by omega,by omega⟩
theorem Re{a b c d x:Int}(_h:a<b)(_k:c<d)(h1:a<=x)(h2:x<b)(h3:c-1<=x)(h4:x<d+1):0<=min b d-max a c:=by omega
theorem Rf{a b c d x:Int}(h1:a<=x)(h2:x<b)(h3:c<=x)(h4:x<d):0<min b d-max a c:=by omega
theorem NO{q:ae}(hq:Full q)(x y:Int):at' (uo (a_ (aB [q]) 1 1 0 0) (a_ (aB [q]) 0 0 1 1)) x y=true↔((q.x0-1<=x/\x<q.x1+1)/\q.y0<=y/\y<q.y1)\/((q.x0<=x/\x<q.x1)/\q.y0-1<=y/\y<q.y1+1):=by
 obtain⟨b1,b2⟩:=gz hq;obtain⟨s1,s2,_⟩:=bW b1 (l:=1) (r:=1) (d:=0) (u:=0) (by decide) (by decide) (by decide) (by decide);obtain⟨t1,t2,_⟩:=bW b1 (l:=0) (r:=0) (d:=1) (u:=1) (by decide) (by decide) (by decide) (by decide);obtain⟨q1,q2⟩:=hq;rw[(kH s1 t1).2.1,adZ,s2,t2];have hb:∀a b,at' (aB [q]) a b=true↔(q.x0<=a/\a<q.x1)/\q.y0<=b/\b<q.y1:=fun a b=>by
  rw[b2,aQ];exact⟨fun ⟨h1,h2,h3,h4⟩=>⟨⟨h1,h2⟩,h3,h4⟩,fun ⟨⟨h1,h2⟩,h3,h4⟩=>⟨h1,h2,h3,h4⟩⟩
 generalize at' (aB [q])=f at hb ⊢;clear s1 s2 t1 t2 b1 b2;constructor
 ·rintro (⟨a,b,h,h1,h2,h3,h4⟩ | ⟨a,b,h,h1,h2,h3,h4⟩)
  ·have:=(hb a b).1 h;exact .inl ⟨⟨by omega,by omega⟩,by omega,by omega⟩
  have:=(hb a b).1 h;exact .inr ⟨⟨by omega,by omega⟩,by omega,by omega⟩
 rintro (⟨⟨h1,h2⟩,h3,h4⟩ | ⟨⟨h1,h2⟩,h3,h4⟩)
 ·obtain⟨c,hc,k1,k2⟩:=NN q1 h1 h2;exact .inl ⟨c,y,(hb _ _).2 ⟨hc,h3,h4⟩,by omega,by omega,by omega,by omega⟩
 obtain⟨c,hc,k1,k2⟩:=NN q2 h3 h4;exact .inr ⟨x,c,(hb _ _).2 ⟨⟨h1,h2⟩,hc⟩,by omega,by omega,by omega,by omega⟩
theorem FI{r:List ae}(hr:∀p∈r,Full p){q:ae}(hq:Full q):(r.any fun p=>en p q)=true↔nM (aB r) (uo (a_ (aB [q]) 1 1 0 0) (a_ (aB [q]) 0 0 1 1))≠[]:=by
 have hs:=bW (gz hq).1 (l:=1) (r:=1) (d:=0) (u:=0) (by decide) (by decide) (by decide) (by decide);have ht:=bW (gz hq).1 (l:=0) (r:=0) (d:=1) (u:=1) (by decide) (by decide) (by decide) (by decide);have o1:=(kH hs.1 ht.1).1;have ca:=NO hq;clear hs ht;generalize uo (a_ (aB [q]) 1 1 0 0) (a_ (aB [q]) 0 0 1 1)=O at ca o1 ⊢;have hc:=aR hr;have c1:=hc.1;have c2:=hc.2.1;have ha:=Ky c1 o1;have a1:=ha.1;have a2:=ha.2.1;clear hc ha;generalize nM (aB r) O=A at a1 a2 ⊢;have b8:A≠[]↔∃x y,at' (A) x y=true:=by
  constructor
  ·intro h;refine acz fun k=>h (qC a1 fun x y=>?_);rw[aaV];exact fun g=>k ⟨x,y,g⟩
  rintro⟨x,y,h⟩ e;rw[e]at h;cases h
 rw[b8,aci];constructor
 ·rintro⟨p,hp,ht⟩;have fp:=hr p hp;obtain⟨p1,p2⟩:=fp;obtain⟨q1,q2⟩:=hq;have fin:∀x y,dE x y p=true->(((q.x0-1<=x/\x<q.x1+1)/\q.y0<=y/\y<q.y1)\/((q.x0<=x/\x<q.x1)/\q.y0-1<=y/\y<q.y1+1))->∃x y,at' (A) x y=true:=fun x y h1 h2=>⟨x,y,by
   rw[a2,aaZ,c2,aci];exact⟨⟨p,hp,h1⟩,(ca x y).2 h2⟩⟩
  rcases jY.1 ht with⟨h1,h2⟩ | ⟨h1,h2⟩
  ·unfold dN at h1;unfold dO at h2;obtain⟨u,⟨u1,u2⟩,u3⟩:=Rc h1;obtain⟨v,⟨v1,v2⟩,v3⟩:=Rb p2 q2 h2;exact fin u v (aQ.2 ⟨u1,u2,v1,v2⟩) (.inr ⟨u3,v3⟩)
  unfold dN at h1;unfold dO at h2;obtain⟨u,⟨u1,u2⟩,u3⟩:=Rb p1 q1 h1;obtain⟨v,⟨v1,v2⟩,v3⟩:=Rc h2;exact fin u v (aQ.2 ⟨u1,u2,v1,v2⟩) (.inl ⟨u3,v3⟩)
 rintro⟨x,y,h⟩;rw[a2,aaZ,c2,aci]at h;obtain⟨⟨p,hp,h1⟩,h2⟩:=h;obtain⟨p1,p2⟩:=hr p hp;obtain⟨q1,q2⟩:=hq;obtain⟨g1,g2,g3,g4⟩:=aQ.1 h1;refine⟨p,hp,jY.2 ?_⟩;rcases (ca x y).1 h2 with⟨⟨k1,k2⟩,k3,k4⟩ | ⟨⟨k1,k2⟩,k3,k4⟩
 ·exact .inr ⟨Re p1 q1 g1 g2 k1 k2,Rf g3 g4 k3 k4⟩
 exact .inl ⟨Rf g1 g2 k1 k2,Re p2 q2 g3 g4 k3 k4⟩
end Reg
namespace M
open Reg (ae an bE cv Full told aB bN uo nM a_ coreS at' dE ff aeB fT)
theorem zT{T:List an}(h:bE T)(hn:T≠[]):∃r t,told T=r::t/\(r.x0,r.y0)=jq T:=by
 cases T with
 | nil=>exact absurd rfl hn
 | cons b T=>
  have hb:=(Reg.bE.head h).ne;cases hx:b.xs with
  | nil=>exact absurd hx hb
  | cons p xs=>
   refine⟨⟨p.1,b.y0,p.2,b.y1⟩,(xs.map fun p=>⟨p.1,b.y0,p.2,b.y1⟩)++told T,?_,?_⟩
   ·unfold told;rw[abz,hx,aa8,abe]
   rw[jq,hx];rfl
theorem told_none{T:List an}(h:bE T):(told T).length=0↔T=[]:=by
 constructor
 ·intro e;exact Reg.qD h (aef.1 e)
 intro e;rw[e];rfl
theorem NP{q:ae}(hq:Full q){n:Int}(h0:0<=n):aB [ff q n]=a_ (aB [q]) n n n n:=by
 obtain⟨b1,b2⟩:=Reg.gz hq;obtain⟨w1,w2⟩:=Reg.gz (Reg.l6 hq h0);obtain⟨s1,s2,_⟩:=Reg.bW b1 h0 h0 h0 h0;refine Reg.iK _ _ w1 s1 fun x y=>?_;rw[w2,abb,s2];obtain⟨q1,q2⟩:=hq;constructor
 ·intro h;obtain⟨g1,g2,g3,g4⟩:=Reg.aQ.1 h;simp only[ff]at g1 g2 g3 g4;refine⟨max q.x0 (min x (q.x1-1)),max q.y0 (min y (q.y1-1)),?_,by omega,by omega,by omega,by omega⟩;rw[b2];exact Reg.aQ.2 ⟨by omega,by omega,by omega,by omega⟩
 rintro⟨a,b,h1,h2,h3,h4,h5⟩;rw[b2]at h1;obtain⟨g1,g2,g3,g4⟩:=Reg.aQ.1 h1;refine Reg.aQ.2 ?_;simp only[ff];exact⟨by omega,by omega,by omega,by omega⟩
theorem NQ{low high:Int}(h:-1<=low)(hl:low<high):(low+high+1).tdiv 2=low+(high-low+1).tdiv 2:=by
 rw[abk (by omega),abk (by omega)];omega
theorem FJ{q:ae}(hq:Full q){c:List an}(hc:bE c){g:Int}(h0:0<=g)(hn:Reg.eJ q c g≠[]):
  Reg.gT (told (Reg.eJ q c g)) q-1=dL (fun n=>decide (n<0)||decide (Reg.eJ q c n=[])) g:=by
 obtain⟨l1,l2,l3⟩:=Reg.afz hq hc h0 hn;generalize Reg.gT (told (Reg.eJ q c g)) q=L at *;have hg:(decide (g<0)||decide (Reg.eJ q c g=[]))=false:=by
  rw[adX,abF,abF];exact⟨by omega,hn⟩
 obtain⟨b1,b2,b3,b4⟩:=HD (h:=fun n=>decide (n<0)||decide (Reg.eJ q c n=[])) h0 hg;generalize dL (fun n=>decide (n<0)||decide (Reg.eJ q c n=[])) g=G at *;rw[adX,abF,abF]at b4;obtain⟨b4,b5⟩:=b4;rw[l3 (G+1) (by omega) (by omega)]at b5;rcases b3 with e | e
 ·omega
 rw[adZ,aaH,aaH]at e;rcases e with e | e
 ·omega
 by_cases G0:G<0
 ·omega
 rw[l3 G (by omega) (by omega)]at e;omega
end M
end Go.Proofs.YtfloceomobknoaaGreatDoor
