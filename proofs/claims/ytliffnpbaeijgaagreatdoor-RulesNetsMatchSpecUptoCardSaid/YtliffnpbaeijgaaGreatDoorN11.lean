/- Part 11 of the proof of RulesNetsMatchSpec. -/
import Derived.Test.YtliffnpbaeijgaaGreatDoorN10
set_option linter.unusedVariables false
set_option linter.unusedSimpArgs false
set_option maxRecDepth 100000
set_option maxHeartbeats 8000000
namespace Go
abbrev uz:=@List.take_zero
abbrev eP:=@List.filter_nil
abbrev Be:=@List.Nodup.length_le_of_subset
abbrev uF:=@List.Pairwise.imp
abbrev xM:=@List.filter_map
abbrev pL:=@List.filter_congr
abbrev GS:=@List.length_eq_zero_iff
end Go
namespace Go.Proofs.YtliffnpbaeijgaaGreatDoor
namespace M
open Go.AM Go.RowKit Go.Lib
def afH:List (Value×Value)->Value->Value->List (Value×Value)
 | [],k,v=>[(k,v)]
 | (k',u)::r,k,v=>match Dj k k' with
  | true=>(k,v)::r
  | false=>(k',u)::afH r k v
theorem aa5(k v:Value):∀es:List (Value×Value),iS (es.map mpE) k (.im v)=(afH es k v).map mpE
 | []=>rfl
 | (k',u)::r=>by
  show (match Dj k k' with
   | true=>(k,PV.im v)::r.map mpE
   | false=>(k',PV.im u)::iS (r.map mpE) k (.im v))=(match Dj k k' with
   | true=>(k,v)::r
   | false=>(k',u)::afH r k v).map mpE
  cases Dj k k' with
  | true=>rfl
  | false=>simp only[aa5 k v r];rfl
def acy(i:Nat)(es:List (Value×Value))(l:List HI):List (Value×Value):=l.foldl (fun es p=>afH es (vI p) (.int .i64 i)) es
def Kv(l:List Net):Nat->List (Value×Value)
 | 0=>[]
 | n+1=>match l[n]? with
  | some y=>acy n (Kv l n) y.pins
  | none=>Kv l n
def aaA(l:List Net)(p:HI):Nat->Option Nat
 | 0=>none
 | n+1=>match l[n]? with
  | some y=>if (y.pins.any fun q=>decide (q=p))=true then some n else aaA l p n
  | none=>aaA l p n
theorem afI(i:Nat)(p:HI):∀(l:List HI) {es:List (Value×Value)},nG (es.map mpE)->nG ((acy i es l).map mpE)/\gz ((acy i es l).map mpE) (vI p)=if (l.any fun q=>decide (q=p))=true then some (i64 i) else gz (es.map mpE) (vI p)
 | [],es,h=>⟨h,rfl⟩
 | q::r,es,h=>by
  have hk:nG ((afH es (vI q) (.int .i64 i)).map mpE):=by rw[<-aa5];exact zY h
  obtain⟨u,z⟩:=afI i p r hk;refine⟨u,z.trans ?_⟩;rw[<-aa5,RB h,uc];by_cases e:q=p
  ·subst e;rw[ae (rfl:q=q),nq (rfl:q=q),Ft,ae (rfl:true=true)];split<;>rfl
  rw[aa (fun c:p=q=>e c.symm),fJ e,ph]
theorem aed(l:List Net)(p:HI):∀n,nG ((Kv l n).map mpE)/\gz ((Kv l n).map mpE) (vI p)=(aaA l p n).map fun k=>i64 k
 | 0=>⟨fun e D=>(by cases D),rfl⟩
 | n+1=>by
  obtain⟨u,z⟩:=aed l p n;unfold Kv aaA;cases hx:l[n]? with
  | none=>exact⟨u,z⟩
  | some y=>
   simp only;obtain⟨I,J⟩:=afI n p y.pins u;refine⟨I,?_⟩;rw[J,z];cases (y.pins.any fun q=>decide (q=p))<;>rfl
theorem aee(x:DP)(hN:x.nets.length<=1048576)(z:∀n∈x.nets,n.pins.length<=1048576):ai C 9 [.pv (.ag (S9 x))] (.p (.mp (.st [0,0]) (Kv x.nets x.nets.length))) []:=by
 refine ZF ⟨[],[],[],[],[],[]⟩ hC Tryz.func9 rfl (by kernel_rfl) fun _=>⟨_,aA.refl _ _,?_⟩;have D:=an x.nets Uh;refine aP (fun i:Nat=>i<=x.nets.length) (fun i=>[(3,.ow 8),(10,.p (.sl (x.nets.map Uh))),(11,.p (i64 x.nets.length)),(12,.p (i64 i))]) (fun i=>[(8,.map (.st [0,0]) ((Kv x.nets i).map mpE))]) (fun i=>x.nets.length-i) 0 _ (aA.refl _ _) (ak _) ⟨rfl,rfl,ar (fun n:Nat=>AV.p (i64 n)) D,Z,Y⟩ ⟨Z,Y⟩ fun i hi t h=>?_;apply iW<;>intro h1
 ·obtain⟨n,u⟩:=ax (l:=x.nets) (i:=i) (by omega);have I:=an n.pins Gm;have hn:=z n (aj u);refine⟨(Uh n),(idx rfl u),?_⟩;refine aP (fun j:Nat=>j<=n.pins.length) (fun j=>[(3,.ow 8),(4,.p (i64 i)),(10,.p (.sl (x.nets.map Uh))),(11,.p (i64 x.nets.length)),(12,.p (i64 i)),(18,.p (.sl (n.pins.map Gm))),(19,.p (i64 n.pins.length)),(20,.p (i64 j))]) (fun j=>[(8,.map (.st [0,0]) ((acy i (Kv x.nets i) (n.pins.take j)).map mpE))]) (fun j=>n.pins.length-j) 0 _ (aA.refl _ _) (ak _) ⟨rfl,rfl,rfl,rfl,rfl,rfl,ar (fun n:Nat=>AV.p (i64 n)) I,Z,Y⟩ ⟨Z,Y⟩ fun j hj t h=>?_;apply iW<;>intro h2
  ·obtain⟨p,hp⟩:=ax (l:=n.pins) (i:=j) (by omega);refine⟨(Gm p),(idx rfl hp),wO (by omega),(j+1),_,aA.refl _ _,by omega,by omega,⟨Z,Z,Z,Z,Z,Z,Z,Z,Y⟩,⟨?_,trivial⟩⟩;have e:acy i (Kv x.nets i) (n.pins.take (j+1))=afH (acy i (Kv x.nets i) (n.pins.take j)) (vI p) (.int .i64 i):=by rw[bq hp,acy,u7];rfl
   show AB.map _ _=AB.map _ ((acy i (Kv x.nets i) (n.pins.take (j+1))).map mpE);rw[e];exact ar (AB.map _) (aa5 _ _ _)
  have J:j=n.pins.length:=by omega
  refine⟨wO (by omega),(i+1),_,aA.refl _ _,by omega,by omega,⟨Z,Z,Z,Z,Y⟩,⟨?_,trivial⟩⟩;rw[J,nu];have e:Kv x.nets (i+1)=acy i (Kv x.nets i) n.pins:=by simp only[Kv,u]
  rw[e];rfl
 have L:i=x.nets.length:=by omega
 subst L;exact⟨_,aA.ajr (by exact hC) _ 2 8 _ (by exact rfl) (by exact rfl) (by exact rfl),And.intro rfl trivial⟩
def aaZ(p:Part)(l:List eV):List HI:=l.map fun y=>⟨p.name,y.name⟩
def pk(t:List bG)(p:Part):List eV:=match t[(jE bG.name t p.type).toNat]? with
 | some y=>y.pins
 | none=>[]
theorem afg(t:List bG)(p:Part)(D:qq t)(hN:t.length<=1048576)(I:0<=jE bG.name t p.type)(J:∀y∈t,y.pins.length<=1048576):ai C 18 [.pv (.sl (t.map vU)),.pv (.ag (yV p))] (.p (.sl ((aaZ p (pk t p)).map Gm))) []:=by
 obtain⟨k,y,e,u,_⟩:=xp I;have L:pk t p=y.pins:=by simp only[pk,e,FY,u]
 rw[L];have hyp:=J y (aj u);have N:=an y.pins uj;refine fW hC Tryz.func18 rfl (by kernel_rfl) fun _=>?_;refine⟨_,_,(rE t p.type D.ord (by omega)),(vU y),(idx e u),?_⟩;refine aP (fun j:Nat=>j<=y.pins.length) (fun j=>[(3,.bx 3 0),(5,.ow 5),(15,.p (.sl (y.pins.map uj))),(16,.p (i64 y.pins.length)),(17,.p (i64 j))]) (fun j=>[(3,.box ((yV p).map .p)),(5,.row 49 ((aaZ p (y.pins.take j)).map Gm))]) (fun j=>y.pins.length-j) 0 _ (aA.eK (by exact hC) _ 5 49 _ (by decide) (by exact rfl) (by exact rfl) (by decide)) (ak _) ⟨rfl,rfl,rfl,ar (fun n:Nat=>AV.p (i64 n)) N,Z,Y⟩ ⟨Z,Z,Y⟩ fun j hj t h=>?_;apply iW<;>intro h1
 ·obtain⟨q,z⟩:=ax (l:=y.pins) (i:=j) (by omega);have lo:((aaZ p (y.pins.take j)).map Gm).length=j:=by rw[E5,aaZ,E5,cE];omega
  refine⟨(uj q),(idx rfl z),⟨kL rfl,by rw[lo];simp;omega,by rw[lo];simp;omega⟩,wO (by omega),(j+1),_,aA.refl _ _,by omega,by omega,⟨Z,Z,Z,Z,Z,Y⟩,⟨rfl,?_,trivial⟩⟩;have e:aaZ p (y.pins.take (j+1))=aaZ p (y.pins.take j)++[⟨p.name,q.name⟩]:=by rw[bq z,aaZ,E8];rfl
  show AB.row _ _=AB.row _ ((aaZ p (y.pins.take (j+1))).map Gm);rw[e,E8];rfl
 have O:j=y.pins.length:=by omega
 refine⟨?_,trivial⟩;rw[O,nu]
def aaQ(x:DP)(q:HI):Bool:=(aaA x.nets q x.nets.length).isNone
def ac9(t:List bG)(x:DP)(p:Part):List HI:=(aaZ p (pk t p)).filter (aaQ x)
def tx(t:List bG)(x:DP)(l:List Part):List HI:=l.flatMap (ac9 t x)
theorem acz{t:List bG}(u:qq t)(p:Part):(pk t p).length<=200:=by
 unfold pk;split
 ·rename_i y z;exact (u.pins y (aj z)).2
 exact ak _
theorem acg{t:List bG}(u:qq t)(x:DP):∀l:List Part,(tx t x l).length<=200*l.length
 | []=>ak _
 | p::r=>by
  have h:=acg u x r;have h2:=acz u p;have h3:(ac9 t x p).length<=(aaZ p (pk t p)).length:=wH _ _;have h4:(aaZ p (pk t p)).length=(pk t p).length:=E5 _;rw[tx,l6,bJ,bN];rw[tx]at h;omega
theorem aeH(t:List bG)(x:DP)(z:qq t)(hp:uo t x.parts)(W:x.nets.length<=1048576)(hP:∀n∈x.nets,n.pins.length<=1048576):ai C 10 [.pv (.sl (t.map vU)),.pv (.ag (S9 x))] (.p (.sl ((tx t x x.parts).map Gm))) []:=by
 have J:=aee x W hP;have lm:=an x.parts yV;have ltl:=z.len;have lpl:=hp.len;refine fW hC Tryz.func10 rfl (by kernel_rfl) fun _=>?_;refine⟨_,_,J,?_⟩;refine aP (fun i:Nat=>i<=x.parts.length) (fun i=>[(0,.p (.sl (t.map vU))),(5,.p (.mp (.st [0,0]) (Kv x.nets x.nets.length))),(6,.ow 6),(16,.p (.sl (x.parts.map yV))),(17,.p (i64 x.parts.length)),(18,.p (i64 i))]) (fun i=>[(6,.row 49 ((tx t x (x.parts.take i)).map Gm))]) (fun i=>x.parts.length-i) 0 _ (aA.eK (by exact hC) _ 6 49 _ (by decide) (by exact rfl) (by exact rfl) (by decide)) (ak _) ⟨rfl,rfl,rfl,rfl,ar (fun n:Nat=>AV.p (i64 n)) lm,Z,Y⟩ ⟨Z,Y⟩ fun i hi s h=>?_;apply iW<;>intro h1
 ·obtain⟨p,L⟩:=ax (l:=x.parts) (i:=i) (by omega);have hh:=hp.typ p (aj L);have h0:0<=jE bG.name t p.type:=by
   have:=oz (f:=bG.name) (l:=t) (x:=p.type);rw[hh]at this;simpa using this
  obtain⟨P,u⟩:∃P,P=aaZ p (pk t p):=⟨_,rfl⟩;have few:P.length<=200:=by rw[u,aaZ,E5];exact acz z p
  have O:=afg t p z (by omega) h0 (fun y hy=>by have:=(z.pins y hy).2;omega);rw[<-u]at O;have lp:=an P Gm;have lo:=acg z x (x.parts.take i);rw[cE]at lo;refine⟨(yV p),(idx rfl L),_,_,O,?_⟩;refine aP (fun j:Nat=>j<=P.length) (fun j=>[(0,.p (.sl (t.map vU))),(5,.p (.mp (.st [0,0]) (Kv x.nets x.nets.length))),(6,.ow 6),(16,.p (.sl (x.parts.map yV))),(17,.p (i64 x.parts.length)),(18,.p (i64 i)),(24,.p (.sl (P.map Gm))),(25,.p (i64 P.length)),(26,.p (i64 j))]) (fun j=>[(6,.row 49 ((tx t x (x.parts.take i)++(P.take j).filter (aaQ x)).map Gm))]) (fun j=>P.length-j) 0 _ (aA.refl _ _) (ak _) ⟨rfl,rfl,rfl,rfl,rfl,rfl,rfl,ar (fun n:Nat=>AV.p (i64 n)) lp,Z,Y⟩ ⟨by rw[uz,eP,aq];rfl,trivial⟩ fun j hj s h=>?_;apply iW<;>intro h2
  ·obtain⟨q,R⟩:=ax (l:=P) (i:=j) (by omega);have D:=(aed x.nets q x.nets.length).2;have I:aaQ x q=(aaA x.nets q x.nets.length).isNone:=rfl;have hl:((tx t x (x.parts.take i)++(P.take j).filter (aaQ x)).map Gm).length<=200*i+j:=by
    have e:((P.take j).filter (aaQ x)).length<=j:=aS (wH _ _) (by rw[cE];omega);rw[E5,bJ];omega
   have U:(P.take (j+1)).filter (aaQ x)=(P.take j).filter (aaQ x)++[q].filter (aaQ x):=by rw[bq R,nt]
   refine⟨(Gm q),(idx rfl R),?_⟩;cases V:aaA x.nets q x.nets.length with
   | some k=>
    rw[V]at D I;refine⟨(some (i64 k)),D,wO (by omega),(j+1),_,aA.refl _ _,by omega,by omega,⟨Z,Z,Z,Z,Z,Z,Z,Z,Z,Y⟩,⟨?_,trivial⟩⟩;show AB.row _ _=AB.row _ ((tx t x (x.parts.take i)++(P.take (j+1)).filter (aaQ x)).map Gm);rw[U,List.filter_cons_of_neg (by rw[I];exact fun c=>by cases c),eP,aq]
   | none=>
    rw[V]at D I;refine⟨none,D,?_⟩;obtain⟨m,N⟩:∃m,((tx t x (x.parts.take i)++(P.take j).filter (aaQ x)).map Gm).length=m:=⟨_,rfl⟩;rw[N]at hl;refine⟨⟨kL rfl,by rw[N];simp;omega,by rw[N];simp;omega⟩,wO (by omega),(j+1),_,aA.refl _ _,by omega,by omega,⟨Z,Z,Z,Z,Z,Z,Z,Z,Z,Y⟩,⟨?_,trivial⟩⟩;show AB.row _ _=AB.row _ ((tx t x (x.parts.take i)++(P.take (j+1)).filter (aaQ x)).map Gm);rw[U,List.filter_cons_of_pos (by rw[I];rfl),eP,<-d_,E8 (l₂:=[q])];rfl
  have ej:j=P.length:=by omega
  refine⟨wO (by omega),(i+1),_,aA.refl _ _,by omega,by omega,⟨Z,Z,Z,Z,Z,Z,Y⟩,⟨?_,trivial⟩⟩;have e:tx t x (x.parts.take (i+1))=tx t x (x.parts.take i)++P.filter (aaQ x):=by
   rw[bq L,tx,aT,u];simp[tx,ac9]
  rw[ej,nu];show AB.row _ _=AB.row _ ((tx t x (x.parts.take (i+1))).map Gm);rw[e]
 have ei:i=x.parts.length:=by omega
 refine⟨?_,trivial⟩;rw[ei,nu]
end M
namespace Reg
structure Gen(E:List (Nat×Nat))(u:List Int):Prop where
 uf:UF u
 edge:∀e∈E,e.1<u.length/\e.2<u.length/\aaG u e.1 e.2
 cl:∀S:Nat->Prop,(∀e∈E,S e.1↔S e.2)->∀i k,aaG u i k->(S i↔S k)
theorem afJ(n:Nat):Gen [] (iota n):=
 ⟨Bf n,fun e u=>(by cases u),fun S _ i k ⟨r,z,D⟩=>by rw[aeO z,aeO D]⟩
theorem afK{E:List (Nat×Nat)}{u:List Int}(h:Gen E u){i k:Nat}(hi:i<u.length)(hk:k<u.length):Gen (E++[(i,k)]) (kU u i k):=by
 have a:=ji i u i h.uf hi (aG _);have b:=ji k (cV i u i).1 k a.uf (by rw[a.len];exact hk) (aG _);have O:∀m q,ig (cV k (cV i u i).1 k).1 m q↔ig u m q:=fun m q=>(b.same m q).trans (a.same m q);have Y:=(O _ _).2 a.root;have Z:=(b.same _ _).2 b.root;have D:=fun p q=>aip O p q;have len:(cV k (cV i u i).1 k).1.length=u.length:=by rw[b.len,a.len]
 have J:∀p q,p<u.length->q<u.length->(aaG (kU u i k) p q↔aaG u p q\/(aaG u p i/\aaG u q k)\/(aaG u p k/\aaG u q i)):=fun p q hp I=>by
  rw[kU,ag9 b.uf Y Z (by rw[len];exact hp) (by rw[len];exact I),D,D,D,D,D]
 obtain⟨j1,R⟩:=xR h.uf hi hk;have self:∀m,m<u.length->aaG u m m:=fun m hm=>by
  obtain⟨r,U⟩:=h.uf.root m hm;exact⟨r,U,U⟩
 refine⟨j1,fun e z=>?_,fun S hS p q V=>?_⟩
 ·rw[R];rcases fC.1 z with z | z
  ·obtain⟨e1,e2,e3⟩:=h.edge e z;exact⟨e1,e2,(J _ _ e1 e2).2 (.inl e3)⟩
  rw[Fp.1 z];exact⟨hi,hk,(J _ _ hi hk).2 (.inr (.inl ⟨self i hi,self k hk⟩))⟩
 obtain⟨r,Wv,oP⟩:=id V;have hp:=Wv.lt;have I:=oP.lt;rw[R]at hp I;have c:=h.cl S fun e z=>hS e (q_ _ z);have W:S i↔S k:=hS (i,k) (tJ _ (Fp.2 rfl));rcases (J p q hp I).1 V with g | ⟨L,N⟩ | ⟨L,N⟩
 ·exact c p q g
 ·exact (c p i L).trans (W.trans (c q k N).symm)
 exact (c p k L).trans (W.symm.trans (c q i N).symm)
def aaW(q:Nat->Bool)(s:List Bool×List Nat)(k:Nat):List Bool×List Nat:=if s.1.getD k true=false/\q k=true then (s.1.set k true,s.2++[k]) else s
def abi(q:Nat->Bool)(n:Nat)(s:List Bool×List Nat):List Bool×List Nat:=(List.range n).foldl (aaW q) s
def aaB(q:Nat->Nat->Bool)(n:Nat):Nat->Nat->List Bool×List Nat->List Bool×List Nat
 | 0,_,s=>s
 | f+1,i,s=>if i<s.2.length then aaB q n f (i+1) (abi (q (s.2.getD i 0)) n s) else s
def aaR(q:Nat->Nat->Bool)(n:Nat)(s:List Bool×List (List Nat))(i:Nat):List Bool×List (List Nat):=
 if s.1.getD i true=true then s else ((aaB q n n 0 (s.1.set i true,[i])).1,s.2++[(aaB q n n 0 (s.1.set i true,[i])).2])
def ahQ(q:Nat->Nat->Bool)(n:Nat):List (List Nat):=((List.range n).foldl (aaR q n) (List.replicate n false,[])).2
structure abL(n:Nat)(D0:List Bool)(s:List Bool×List Nat):Prop where
 len:s.1.length=n
 nod:s.2.Nodup
 mem:∀k∈s.2,k<n/\D0.getD k true=false
 done:∀k,k<n->(s.1.getD k true=true↔D0.getD k true=true\/k∈s.2)
variable {D0:List Bool}
theorem abL.le{n:Nat}{s:List Bool×List Nat}(h:abL n D0 s):s.2.length<=n:=by
 have:=Be h.nod (l₂:=List.range n) fun k hk=>wx.2 (h.mem k hk).1;simpa using this
theorem L2{l:List Bool}{k j:Nat}(hk:k<l.length):(l.set k true).getD j true=if j=k then true else l.getD j true:=by
 rw[dc,ky hk,dc];split<;>rfl
theorem agW{n:Nat}{q:Nat->Bool}{s:List Bool×List Nat}(h:abL n D0 s){k:Nat}(hk:k<n):
  abL n D0 (aaW q s k)/\(∀x,x∈(aaW q s k).2↔x∈s.2\/(x=k/\q k=true/\D0.getD k true=false))/\(∃t,(aaW q s k).2=s.2++t):=by
 rw[aaW];by_cases c:s.1.getD k true=false/\q k=true
 ·rw[ae c];have z:¬(D0.getD k true=true\/k∈s.2):=fun g=>by
   have:=(h.done k hk).2 g;rw[c.1]at this;cases this
  have D:D0.getD k true=false:=by
   cases e:D0.getD k true with
   | false=>rfl
   | true=>exact absurd (.inl e) z
  refine⟨⟨by show (s.1.set k true).length=n;rw[aQ,h.len],?_,fun x u=>?_,fun x u=>?_⟩,fun x=>?_,[k],rfl⟩
  ·show (s.2++[k]).Nodup;rw[ad2];refine⟨h.nod,by simp,fun a I b hb=>?_⟩;rw[Fp.1 hb];exact fun e=>z (.inr (e▸I))
  ·rcases fC.1 u with u | u
   ·exact h.mem x u
   rw[Fp.1 u];exact⟨hk,D⟩
  ·show (s.1.set k true).getD x true=true↔_;rw[L2 (by rw[h.len];exact hk)];by_cases e:x=k
   ·rw[ae e];exact⟨fun _=>.inr (tJ _ (Fp.2 e)),fun _=>rfl⟩
   rw[aa e,h.done x u];constructor
   ·rintro (g | g)
    ·exact .inl g
    exact .inr (q_ _ g)
   rintro (g | g)
   ·exact .inl g
   rcases fC.1 g with g | g
   ·exact .inr g
   exact absurd (Fp.1 g) e
  show x∈s.2++[k]↔_;rw[fC,Fp];exact⟨fun g=>g.elim .inl fun e=>.inr ⟨e,c.2,D⟩,fun g=>g.elim .inl fun e=>.inr e.1⟩
 rw[aa c];refine⟨h,fun x=>⟨.inl,fun g=>g.elim id fun ⟨e,z,D⟩=>?_⟩,[],by simp⟩;subst e;cases e:s.1.getD x true with
 | false=>exact absurd ⟨e,z⟩ c
 | true=>
  rcases (h.done x hk).1 e with g | g
  ·rw[D]at g;cases g
  exact g
theorem ac_{n:Nat}{q:Nat->Bool}:∀(l:List Nat) (s:List Bool×List Nat),abL n D0 s->(∀k∈l,k<n)->
  abL n D0 (l.foldl (aaW q) s)/\(∀x,x∈(l.foldl (aaW q) s).2↔x∈s.2\/(x∈l/\q x=true/\D0.getD x true=false))/\(∃t,(l.foldl (aaW q) s).2=s.2++t)
 | [],s,h,_=>⟨h,fun x=>by simp,[],by simp⟩
 | k::l,s,h,hl=>by
  obtain⟨z,D,t,I⟩:=agW (q:=q) h (hl k bW);obtain⟨J,L,v,N⟩:=ac_ l _ z fun x O=>hl x (cD _ O);refine⟨J,fun x=>?_,t++v,?_⟩
  ·show x∈(l.foldl (aaW q) (aaW q s k)).2↔_;rw[L,D,L8];constructor
   ·rintro ((g | ⟨rfl,g⟩) | ⟨g,u⟩)
    ·exact .inl g
    ·exact .inr ⟨.inl rfl,g⟩
    exact .inr ⟨.inr g,u⟩
   rintro (g | ⟨rfl | g,u⟩)
   ·exact .inl (.inl g)
   ·exact .inl (.inr ⟨rfl,u⟩)
   exact .inr ⟨g,u⟩
  show (l.foldl (aaW q) (aaW q s k)).2=_;rw[N,I,d_]
structure Cls(p:Nat->Nat)(q:Nat->Nat->Bool)(n:Nat):Prop where
 tops:OW p n
 edge:∀a b,a<n->b<n->q a b=true->p a=p b
 cl:∀S:Nat->Prop,(∀a b,a<n->b<n->S a->q a b=true->S b)->∀k,k<n->S (p k)->S k
theorem agX{p:Nat->Nat}{q:Nat->Nat->Bool}{n:Nat}(D:Cls p q n){r:Nat}(U:r<n)(L:∀k,k<n->p k=r->D0.getD k true=false):
  ∀(f i:Nat) (s:List Bool×List Nat),abL n D0 s->n<=f+i->r∈s.2->(∀k∈s.2,p k=r)->(∀j,j<i->j<s.2.length->∀b,b<n->q (s.2.getD j 0) b=true->b∈s.2)->
   abL n D0 (aaB q n f i s)/\∀k,k∈(aaB q n f i s).2↔k<n/\p k=r
 | f,i,s,h,hf,h0,h1,h2=>by
  have fin:s.2.length<=i->abL n D0 s/\∀k,k∈s.2↔k<n/\p k=r:=fun hi=>by
   refine⟨h,fun k=>⟨fun hk=>⟨(h.mem k hk).1,h1 k hk⟩,fun ⟨hk,e⟩=>?_⟩⟩;refine D.cl (fun x=>x∈s.2) (fun a b ha hb z u=>?_) k hk (by rw[e];exact h0);obtain⟨j,I⟩:=ca.1 z;obtain⟨V,j2⟩:=az.1 I;exact h2 j (by omega) V b hb (by rw[dc,I];exact u)
  match f,hf with
  | 0,hf=>exact fin (by have:=h.le;omega)
  | f+1,hf=>
   rw[aaB];by_cases c:i<s.2.length
   ·rw[ae c];have W:s.2[i]?=some s.2[i]:=oX c;have N:s.2.getD i 0=s.2[i]:=by rw[dc,W];rfl
    have z:s.2[i]∈s.2:=na c;obtain⟨Y,J,t,Z⟩:=ac_ (q:=q (s.2.getD i 0)) (List.range n) s h fun k hk=>wx.1 hk;refine agX D U L f (i+1) _ Y (by omega) ((J r).2 (.inl h0)) (fun k hk=>?_) (fun j I hl b hb u=>?_)
    ·rcases (J k).1 hk with g | ⟨g1,O,_⟩
     ·exact h1 k g
     rw[N]at O;rw[<-D.edge _ _ (h.mem _ z).1 (wx.1 g1) O];exact h1 _ z
    have e3:(abi (q (s.2.getD i 0)) n s).2=s.2++t:=Z;have R:j<s.2.length:=by omega
    rw[e3,dc,dN R,<-dc]at u;refine (J b).2 ?_;by_cases e:j=i
    ·subst e;refine .inr ⟨wx.2 hb,u,L b hb ?_⟩;rw[N]at u;rw[<-D.edge _ _ (h.mem _ z).1 hb u];exact h1 _ z
    exact .inl (h2 j (by omega) R b hb u)
   rw[aa c];exact fin (by omega)
theorem abW{p:Nat->Nat}{q:Nat->Nat->Bool}{n:Nat}(D:Cls p q n):∀i,i<=n ->
  ((List.range i).foldl (aaR q n) (List.replicate n false,[])).1.length=n /\
  (∀k,k<n->(((List.range i).foldl (aaR q n) (List.replicate n false,[])).1.getD k true=true↔p k<i))/\
  ∃M:Nat->List Nat,((List.range i).foldl (aaR q n) (List.replicate n false,[])).2=(dy p i).map M/\∀r∈dy p i,∀k,k∈M r↔k<n/\p k=r
 | 0,_=>by
  refine⟨by simp,fun k hk=>?_,fun _=>[],rfl,fun r z=>?_⟩
  ·simp[dc,hk]
  cases z
 | i+1,hi=>by
  obtain⟨l1,u,M,J,L⟩:=abW D i (by omega);rw[rG,u7];generalize (List.range i).foldl (aaR q n) (List.replicate n false,[])=s at l1 u J ⊢;simp only[jN,List.foldl_nil];have tp:=D.tops.le i (by omega);rw[kp];by_cases c:p i=i
  ·have I:s.1.getD i true=false:=by
    cases e:s.1.getD i true with
    | false=>rfl
    | true=>have:=(u i (by omega)).1 e;omega
   have R:(aaR q n s i)=((aaB q n n 0 (s.1.set i true,[i])).1,s.2++[(aaB q n n 0 (s.1.set i true,[i])).2]):=by
    rw[aaR,aa (by rw[I];simp)]
   obtain⟨N,O⟩:=agX D (D0:=s.1) (r:=i) (by omega) (fun k hk e=>by
     cases g:s.1.getD k true with
     | false=>rfl
     | true=>have:=(u k hk).1 g;omega) n 0 (s.1.set i true,[i])
    ⟨by show (s.1.set i true).length=n;rw[aQ,l1],by simp,fun k hk=>by rw[Fp.1 hk];exact⟨by omega,I⟩,fun k hk=>by
     show (s.1.set i true).getD k true=true↔_;rw[L2 (by rw[l1];omega),Fp];by_cases e:k=i<;>simp[e]⟩ (by omega) (by simp) (fun k hk=>by rw[Fp.1 hk];exact c) (fun j hj=>by omega)
   rw[ae c,R];refine⟨N.len,fun k hk=>?_,fun r=>if r=i then (aaB q n n 0 (s.1.set i true,[i])).2 else M r,?_,fun r z k=>?_⟩
   ·rw[N.done k hk,u k hk,O k];constructor
    ·rintro (g | g)<;>omega
    intro g;by_cases e:p k=i
    ·exact .inr ⟨hk,e⟩
    exact .inl (by omega)
   ·show s.2++_=_;rw[J,E8];congr 1
    ·refine qY fun r z=>?_;rw[aa (by have:=(mem_keys.1 z).1;omega)]
    simp
   show k∈(if r=i then _ else _)↔_;by_cases e:r=i
   ·rw[ae e,e];exact O k
   rw[aa e];refine L r ?_ k;rcases fC.1 z with g | g
   ·exact g
   exact absurd (Fp.1 g) e
  have I:s.1.getD i true=true:=(u i (by omega)).2 (by omega);rw[aa c,aaR,ae I];refine⟨l1,fun k hk=>?_,M,J,L⟩;rw[u k hk];constructor
  ·intro g;omega
  intro g;by_cases e:p k=i
  ·have:=D.tops.top k hk;rw[e]at this;exact absurd this c
  omega
def aaV(l:List Int)(n:Int):Bool:=l.any fun x=>decide (x=n)
theorem aa6{l:List Int}{n:Int}:aaV l n=true↔n∈l:=by simp[aaV]
def s8(l:List Int)(n:Int):Nat->Nat
 | 0=>0
 | k+1=>if n<l.getD k 0 then s8 l n k else k+1
def aa7(l:List Int)(n:Int):List Int:=if 0<s8 l n l.length/\l.getD (s8 l n l.length-1) 0=n then l else (l.take (s8 l n l.length)++[n])++l.drop (s8 l n l.length)
theorem acB(l:List Int)(n:Int):∀k,k<=l.length->s8 l n k<=k/\(∀i,s8 l n k<=i->i<k->n<l.getD i 0)/\(0<s8 l n k->l.getD (s8 l n k-1) 0<=n)
 | 0,_=>⟨aG _,fun i _ h=>by omega,fun h=>by simp[s8]at h⟩
 | k+1,hk=>by
  rw[s8];by_cases c:n<l.getD k 0
  ·rw[ae c];obtain⟨h1,z,D⟩:=acB l n k (by omega);refine⟨by omega,fun i u I=>?_,D⟩;by_cases e:i=k
   ·rw[e];exact c
   exact z i u (by omega)
  rw[aa c];exact⟨aG _,fun i u I=>by omega,fun _=>by simpa using c⟩
theorem B1{l:List Int}(h:ct l){i j:Nat}(hi:i<j)(u:j<l.length):l.getD i 0<l.getD j 0:=by
 have:=FZ.1 h i j (by omega) u hi;rw[dc,dc,oX (by omega),oX u];exact this
theorem aef{l:List Int}{i:Nat}(h:i<l.length):l[i]=l.getD i 0:=by rw[dc,oX h];rfl
theorem ach{l:List Int}(h:ct l)(n:Int):ct (aa7 l n)/\∀x,x∈aa7 l n↔x∈l\/x=n:=by
 obtain⟨I,z,D⟩:=acB l n l.length (aG _);rw[aa7];generalize s8 l n l.length=k at I z D ⊢;by_cases c:0<k/\l.getD (k-1) 0=n
 ·rw[ae c];refine⟨h,fun x=>⟨.inl,fun g=>g.elim id fun e=>?_⟩⟩;rw[e,<-c.2,<-aef (by omega)];exact na _
 rw[aa c];have lo:∀a∈l.take k,a<n:=fun a u=>by
  obtain⟨i,hi,rfl⟩:=List.mem_iff_getElem.1 u;rw[cE]at hi;rw[List.getElem_take,aef (by omega)];have h5:=D (by omega);have h6:¬l.getD (k-1) 0=n:=fun e=>c ⟨by omega,e⟩;by_cases e:i=k-1
  ·rw[e];omega
  have:=B1 h (i:=i) (j:=k-1) (by omega) (by omega);omega
 have hi:∀b∈l.drop k,n<b:=fun b hb=>by
  obtain⟨i,hi,rfl⟩:=List.mem_iff_getElem.1 hb;rw[lU]at hi;rw[List.getElem_drop,aef (by omega)];exact z _ (by omega) (by omega)
 refine⟨?_,fun x=>?_⟩
 ·rw[ct,d_,af];refine⟨pE (List.take_sublist _ _) h,?_,fun a u b hb=>?_⟩
  ·rw[GF,pw];exact⟨hi,pE (List.drop_sublist _ _) h⟩
  have:=lo a u;rcases fC.1 hb with g | g
  ·rw[Fp.1 g];exact this
  have:=hi b g;omega
 rw[fC,fC,Fp];have:x∈l↔x∈l.take k\/x∈l.drop k:=by rw[<-fC,nj]
 rw[this];constructor
 ·rintro ((g | g) | g)
  ·exact .inl (.inl g)
  ·exact .inr g
  exact .inl (.inr g)
 rintro ((g | g) | g)
 ·exact .inl (.inl g)
 ·exact .inr g
 exact .inl (.inr g)
structure Spr where
 seen:List Bool
 pieces:List Int
 bores:List Int
 used:List Bool
 todo:List Int
def abl(s:Spr)(p:Int):Spr:=if s.seen.getD p.toNat true=true then s else ⟨s.seen.set p.toNat true,aa7 s.pieces p,s.bores,s.used,s.todo++[p]⟩
def aa2(T:List (List Int))(x:Int)(s:Spr)(j:Nat):Spr:=if s.used.getD j true=true\/aaV (T.getD j []) x=false then s else (T.getD j []).foldl abl ⟨s.seen,s.pieces,aa7 s.bores j,s.used.set j true,s.todo⟩
def abu(T:List (List Int)):Nat->Nat->Spr->Spr
 | 0,_,s=>s
 | f+1,i,s=>if i<s.todo.length then abu T f (i+1) ((List.range T.length).foldl (aa2 T (s.todo.getD i 0)) s) else s
def ly(T:List (List Int))(n i:Nat)(seen:List Bool):Spr:=abu T n 0 ⟨seen.set i true,[(i:Int)],[],List.replicate T.length false,[(i:Int)]⟩
structure L1(T:List (List Int))(n:Nat)(D0:List Bool)(s:Spr):Prop where
 len:s.seen.length=n
 ulen:s.used.length=T.length
 nod:s.todo.Nodup
 mem:∀p∈s.todo,(0<=p/\p<n)/\D0.getD p.toNat true=false
 done:∀p:Int,0<=p->p<n->(s.seen.getD p.toNat true=true↔D0.getD p.toNat true=true\/p∈s.todo)
 pr:ct s.pieces
 pm:∀p,p∈s.pieces↔p∈s.todo
 br:ct s.bores
 bm:∀x,x∈s.bores↔∃j:Nat,x=j/\j<T.length/\s.used.getD j true=true
structure K0(s t:Spr):Prop where
 todo:∃v,t.todo=s.todo++v
 used:∀j,s.used.getD j true=true->t.used.getD j true=true
theorem K0.refl(s:Spr):K0 s s:=⟨⟨[],by simp⟩,fun _ h=>h⟩
variable {s:Spr}
theorem K0.trans{t u:Spr}(h:K0 s t)(k:K0 t u):K0 s u:=by
 obtain⟨v,z⟩:=h.todo;obtain⟨w,D⟩:=k.todo;exact⟨⟨v++w,by rw[D,z,d_]⟩,fun j I=>k.used j (h.used j I)⟩
theorem K0.mem{t:Spr}(h:K0 s t){p:Int}(hp:p∈s.todo):p∈t.todo:=by
 obtain⟨v,u⟩:=h.todo;rw[u];exact q_ _ hp
theorem agY{T:List (List Int)}{n:Nat}(h:L1 T n D0 s){p:Int}(u:0<=p)(z:p<n):
  L1 T n D0 (abl s p)/\K0 s (abl s p)/\(∀x,x∈(abl s p).todo↔x∈s.todo\/(x=p/\D0.getD p.toNat true=false))/\(abl s p).used=s.used:=by
 rw[abl];by_cases c:s.seen.getD p.toNat true=true
 ·rw[ae c];refine⟨h,K0.refl s,fun x=>⟨.inl,fun g=>g.elim id fun ⟨e,g⟩=>?_⟩,rfl⟩;rcases (h.done p u z).1 c with k | k
  ·rw[g]at k;cases k
  rw[e];exact k
 rw[aa c];have D:¬(D0.getD p.toNat true=true\/p∈s.todo):=fun g=>c ((h.done p u z).2 g);have I:D0.getD p.toNat true=false:=by
  cases e:D0.getD p.toNat true with
  | false=>rfl
  | true=>exact absurd (.inl e) D
 obtain⟨J,L⟩:=ach h.pr p;refine⟨⟨by show (s.seen.set _ true).length=n;rw[aQ,h.len],h.ulen,?_,fun x N=>?_,fun x x0 O=>?_,J,fun x=>?_,h.br,h.bm⟩,⟨⟨[p],rfl⟩,fun _ g=>g⟩,fun x=>?_,rfl⟩
 ·show (s.todo++[p]).Nodup;rw[ad2];refine⟨h.nod,by simp,fun a R b hb=>?_⟩;rw[Fp.1 hb];exact fun e=>D (.inr (e▸R))
 ·rcases fC.1 N with g | g
  ·exact h.mem x g
  rw[Fp.1 g];exact⟨⟨u,z⟩,I⟩
 ·show (s.seen.set p.toNat true).getD x.toNat true=true↔_\/x∈s.todo++[p];rw[L2 (by rw[h.len];omega),fC,Fp];by_cases e:x.toNat=p.toNat
  ·rw[ae e];exact⟨fun _=>.inr (.inr (by omega)),fun _=>rfl⟩
  rw[aa e,h.done x x0 O];constructor
  ·rintro (g | g)
   ·exact .inl g
   exact .inr (.inl g)
  rintro (g | g | g)
  ·exact .inl g
  ·exact .inr g
  exact absurd (by rw[g]) e
 ·show x∈aa7 s.pieces p↔x∈s.todo++[p];rw[L,h.pm,fC,Fp]
 show x∈s.todo++[p]↔_;rw[fC,Fp];exact⟨fun g=>g.elim .inl fun e=>.inr ⟨e,I⟩,fun g=>g.elim .inl fun e=>.inr e.1⟩
theorem aeg{T:List (List Int)}{n:Nat}:∀(l:List Int) (s:Spr),L1 T n D0 s->(∀p∈l,0<=p/\p<n)->
  L1 T n D0 (l.foldl abl s)/\K0 s (l.foldl abl s)/\(∀x,x∈(l.foldl abl s).todo↔x∈s.todo\/(x∈l/\D0.getD x.toNat true=false))/\(l.foldl abl s).used=s.used
 | [],s,h,_=>⟨h,K0.refl s,fun x=>by simp,rfl⟩
 | p::l,s,h,hl=>by
  obtain⟨z,pn⟩:=hl p bW;obtain⟨D,I,J,L⟩:=agY h z pn;obtain⟨N,O,R,U⟩:=aeg l _ D fun x V=>hl x (cD _ V);refine⟨N,I.trans O,fun x=>?_,U.trans L⟩;show x∈(l.foldl abl (abl s p)).todo↔_;rw[R,J,L8];constructor
  ·rintro ((g | ⟨g,u⟩) | ⟨g,u⟩)
   ·exact .inl g
   ·exact .inr ⟨.inl g,by rw[g];exact u⟩
   exact .inr ⟨.inr g,u⟩
  rintro (g | ⟨g | g,u⟩)
  ·exact .inl (.inl g)
  ·exact .inl (.inr ⟨g,by rw[<-g];exact u⟩)
  exact .inr ⟨g,u⟩
structure agq(c:Nat->Nat)(T:List (List Int))(n:Nat):Prop where
 tops:OW c n
 inn:∀j,∀p∈T.getD j [],0<=p/\p<n
 edge:∀j a b,a∈T.getD j []->b∈T.getD j []->c a.toNat=c b.toNat
 cl:∀S:Nat->Prop,(∀j a b,a∈T.getD j []->b∈T.getD j []->S a.toNat->S b.toNat)->∀k,k<n->S (c k)->S k
structure afL(T:List (List Int))(c:Nat->Nat)(r:Nat)(D0:List Bool)(s:Spr):Prop where
 u1:∀j,j<T.length->s.used.getD j true=true->∀p∈T.getD j [],D0.getD p.toNat true=false->p∈s.todo
 u2:∀j,j<T.length->s.used.getD j true=true->∃a∈s.todo,a∈T.getD j []
 u4:∀p∈s.todo,c p.toNat=r
theorem aiv{T:List (List Int)}{n:Nat}{c:Nat->Nat}(N:agq c T n){r:Nat}(h:L1 T n D0 s)(g:afL T c r D0 s){x:Int}(O:x∈s.todo){j:Nat}(R:j<T.length):
  L1 T n D0 (aa2 T x s j)/\afL T c r D0 (aa2 T x s j)/\K0 s (aa2 T x s j)/\(x∈T.getD j []->(aa2 T x s j).used.getD j true=true):=by
 rw[aa2];by_cases k:s.used.getD j true=true\/aaV (T.getD j []) x=false
 ·rw[ae k];refine⟨h,g,K0.refl s,fun I=>?_⟩;rcases k with k | k
  ·exact k
  rw[aa6.2 I]at k;cases k
 rw[aa k];have I:x∈T.getD j []:=by
  refine aa6.1 ?_;cases e:aaV (T.getD j []) x with
  | true=>rfl
  | false=>exact absurd (.inr e) k
 obtain⟨Z,b2⟩:=ach h.br (j:Int);have z:∀i,(s.used.set j true).getD i true=true↔i=j\/s.used.getD i true=true:=fun i=>by
  rw[L2 (by rw[h.ulen];exact R)];by_cases e:i=j<;>simp[e]
 have h1:L1 T n D0 ⟨s.seen,s.pieces,aa7 s.bores j,s.used.set j true,s.todo⟩:=
  ⟨h.len,by show (s.used.set j true).length=_;rw[aQ,h.ulen],h.nod,h.mem,h.done,h.pr,h.pm,Z,fun y=>by
   show y∈aa7 s.bores j↔∃i:Nat,y=i/\i<T.length/\(s.used.set j true).getD i true=true;rw[b2,h.bm];constructor
   ·rintro (⟨i,e,J,L⟩ | e)
    ·exact⟨i,e,J,(z i).2 (.inr L)⟩
    exact⟨j,e,R,(z j).2 (.inl rfl)⟩
   rintro⟨i,e,J,L⟩;rcases (z i).1 L with e2 | e2
   ·exact .inr (by rw[e,e2])
   exact .inl ⟨i,e,J,e2⟩⟩
 obtain⟨c1,U,V,W⟩:=aeg (T.getD j []) _ h1 (N.inn j);have st:K0 s ⟨s.seen,s.pieces,aa7 s.bores j,s.used.set j true,s.todo⟩:=⟨⟨[],by simp⟩,fun i hi=>(z i).2 (.inr hi)⟩;have u:=st.trans U;refine⟨c1,⟨fun i hi D p hp Y=>?_,fun i hi D=>?_,fun p hp=>?_⟩,u,fun _=>U.used j ((z j).2 (.inl rfl))⟩
 ·rw[W]at D;rcases (z i).1 D with e | e
  ·rw[e]at hp;exact (V p).2 (.inr ⟨hp,Y⟩)
  exact u.mem (g.u1 i hi e p hp Y)
 ·rw[W]at D;rcases (z i).1 D with e | e
  ·rw[e];exact⟨x,u.mem O,I⟩
  obtain⟨a,a1,a2⟩:=g.u2 i hi e;exact⟨a,u.mem a1,a2⟩
 rcases (V p).1 hp with e | ⟨e,_⟩
 ·exact g.u4 p e
 rw[N.edge j p x e I];exact g.u4 x O
theorem afM{T:List (List Int)}{n:Nat}{c:Nat->Nat}(z:agq c T n){r:Nat}{x:Int}:∀(l:List Nat) (s:Spr),(∀j∈l,j<T.length)->L1 T n D0 s->afL T c r D0 s->x∈s.todo ->
  L1 T n D0 (l.foldl (aa2 T x) s)/\afL T c r D0 (l.foldl (aa2 T x) s)/\K0 s (l.foldl (aa2 T x) s)/\∀j∈l,x∈T.getD j []->(l.foldl (aa2 T x) s).used.getD j true=true
 | [],s,_,h,g,_=>⟨h,g,K0.refl s,fun j J=>by cases J⟩
 | j::l,s,hl,h,g,hx=>by
  obtain⟨L,N,D,O⟩:=aiv z h g hx (hl j bW);obtain⟨R,U,I,V⟩:=afM z l _ (fun i hi=>hl i (cD _ hi)) L N (D.mem hx);refine⟨R,U,D.trans I,fun i hi u=>?_⟩;rcases L8.1 hi with e | e
  ·rw[e]at u ⊢;exact I.used j (O u)
  exact V i e u
theorem afN{T:List (List Int)}{n:Nat}(h:L1 T n D0 s):(s.todo.map Int.toNat).Nodup:=by
 have hp:=FZ.1 h.nod;refine FZ.2 fun i j hi u z=>?_;rw[E5]at hi u;rw[List.getElem_map,List.getElem_map];have a:=(h.mem _ (na hi)).1;have b:=(h.mem _ (na u)).1;have:=hp i j hi u z;omega
theorem L1.le{T:List (List Int)}{n:Nat}(h:L1 T n D0 s):s.todo.length<=n:=by
 have:=Be (l₁:=s.todo.map Int.toNat) (l₂:=List.range n) (afN h) fun k hk=>by
  obtain⟨p,hp,rfl⟩:=aZ.1 hk;have:=(h.mem p hp).1;exact wx.2 (by omega)
 simpa using this
theorem agZ{T:List (List Int)}{n:Nat}{c:Nat->Nat}(D:agq c T n){r:Nat}(U:r<n)(R:∀k,k<n->c k=r->D0.getD k true=false):
  ∀(f i:Nat) (s:Spr),L1 T n D0 s->afL T c r D0 s->n<=f+i->(r:Int)∈s.todo->(∀m,m<i->m<s.todo.length->∀j,j<T.length->s.todo.getD m 0∈T.getD j []->s.used.getD j true=true)->
   L1 T n D0 (abu T f i s)/\(∀p,p∈(abu T f i s).todo↔(0<=p/\p<n)/\c p.toNat=r)/\∀j,j<T.length->((abu T f i s).used.getD j true=true↔∃a∈T.getD j [],c a.toNat=r)
 | f,i,s,h,g,hf,h0,h2=>by
  have fin:s.todo.length<=i->L1 T n D0 s/\(∀p,p∈s.todo↔(0<=p/\p<n)/\c p.toNat=r)/\∀j,j<T.length->(s.used.getD j true=true↔∃a∈T.getD j [],c a.toNat=r):=fun hi=>by
   have full:∀a∈s.todo,∀j,j<T.length->a∈T.getD j []->s.used.getD j true=true:=fun a z j u L=>by
    obtain⟨m,I⟩:=ca.1 z;obtain⟨V,m2⟩:=az.1 I;have e:s.todo.getD m 0=a:=by rw[dc,I];rfl
    exact h2 m (by omega) V j u (by rw[e];exact L)
   have all:∀p:Int,0<=p->p<n->c p.toNat=r->p∈s.todo:=fun p N pn e=>by
    have:=D.cl (fun k=>(k:Int)∈s.todo) (fun j a b z hb hS=>?_) p.toNat (by omega) (by show ((c p.toNat:Nat):Int)∈s.todo;rw[e];exact h0)
    ·rw[jh N]at this;exact this
    have W:=(D.inn j a z).1;have Y:=D.inn j b hb;rw[jh W]at hS;rw[jh Y.1];have u:j<T.length:=by
     rcases AF j T.length with q | q
     ·exact q
     rw[dc,iR q]at z;cases z
    refine g.u1 j u (full a hS j u z) b hb (R _ (by omega) ?_);rw[D.edge j b a hb z];exact g.u4 a hS
   refine⟨h,fun p=>⟨fun hp=>⟨(h.mem p hp).1,g.u4 p hp⟩,fun ⟨⟨N,pn⟩,e⟩=>all p N pn e⟩,fun j u=>⟨fun Z=>?_,fun ⟨a,z,e⟩=>?_⟩⟩
   ·obtain⟨a,a1,a2⟩:=g.u2 j u Z;exact⟨a,a2,g.u4 a a1⟩
   have:=D.inn j a z;exact full a (all a this.1 this.2 e) j u z
  match f,hf with
  | 0,hf=>exact fin (by have:=h.le;omega)
  | f+1,hf=>
   rw[abu];by_cases k:i<s.todo.length
   ·rw[ae k];have ex:s.todo.getD i 0=s.todo[i]:=by rw[dc,oX k];rfl
    have L:s.todo.getD i 0∈s.todo:=by rw[ex];exact na k
    obtain⟨b1,b2,O,b4⟩:=afM D (List.range T.length) s (fun j u=>wx.1 u) h g L;refine agZ D U R f (i+1) _ b1 b2 (by omega) (O.mem h0) fun m hmi Rz j u I=>?_;obtain⟨v,hv⟩:=O.todo;have J:m<s.todo.length:=by omega
    have e0:(s.todo++v).getD m 0=s.todo.getD m 0:=by rw[dc,dN J,<-dc]
    rw[hv,e0]at I;by_cases e:m=i
    ·rw[e]at I;exact b4 j (wx.2 u) I
    exact O.used j (h2 m (by omega) J j u I)
   rw[aa k];exact fin (by omega)
theorem aeS{m:Nat}:∀(l:List Int) (u:List Int) (E:List (Nat×Nat)),Gen E u->m<u.length->(∀p∈l,0<=p/\p.toNat<u.length)->∃D,Gen (E++D) (ya m l u)/\∀e,e∈D↔∃p∈l,e=(p.toNat,m)
 | [],u,E,h,_,_=>⟨[],by rw[aq];exact h,fun e=>by simp⟩
 | p::r,u,E,h,hm,hl=>by
  have J:=afK h (i:=p.toNat) (k:=m) (hl p bW).2 hm;have z:=(xR h.uf (i:=p.toNat) (k:=m) (hl p bW).2 hm).2;obtain⟨D,I,L⟩:=aeS r _ _ J (by rw[z];exact hm) fun q N=>by rw[z];exact hl q (cD _ N)
  refine⟨(p.toNat,m)::D,by rw[d_,GF]at I;exact I,fun e=>?_⟩;rw[L8,L];simp only[L8,exists_eq_or_imp]
theorem aeT{n nb:Nat}:∀(l:List (List Int)) (k:Nat) (u:List Int) (E:List (Nat×Nat)),Gen E u->u.length=n+nb->k+l.length<=nb->(∀x∈l,∀p∈x,0<=p/\p<n)->
  ∃D,Gen (E++D) (Ab n k l u)/\∀e,e∈D↔∃j:Nat,∃p∈l.getD j [],e=(p.toNat,n+(k+j))
 | [],k,u,E,h,_,_,_=>⟨[],by rw[aq];exact h,fun e=>by simp⟩
 | x::r,k,u,E,h,hl,hk,hx=>by
  simp only[bN]at hk;obtain⟨D,z,I⟩:=aeS (m:=n+k) x u E h (by omega) fun p hp=>by have:=hx x bW p hp;omega
  have J:=(Jq (m:=n+k) x u h.uf (by omega) fun p hp=>by have:=hx x bW p hp;omega).2;obtain⟨L,N,O⟩:=aeT r (k+1) _ _ z (J.trans hl) (by omega) fun y R=>hx y (cD _ R);refine⟨D++L,by rw[<-d_];exact N,fun e=>?_⟩;rw[fC,I,O];constructor
  ·rintro (⟨p,hp,rfl⟩ | ⟨j,p,hp,rfl⟩)
   ·exact⟨0,p,hp,rfl⟩
   exact⟨j+1,p,by simpa using hp,by rw[show n+(k+1+j)=n+(k+(j+1)) by omega]⟩
  rintro⟨j,p,hp,rfl⟩;cases j with
  | zero=>exact .inl ⟨p,by simpa using hp,rfl⟩
  | succ j=>exact .inr ⟨j,p,by simpa using hp,by rw[show n+(k+1+j)=n+(k+(j+1)) by omega]⟩
structure ajE(c:Nat->Nat)(T:List (List Int))(n:Nat):Prop where
 tops:OW c (n+T.length)
 pc:agq c T n
 e1:∀j,∀a∈T.getD j [],c a.toNat=c (n+j)
 e2:∀j,j<T.length->T.getD j []=[]->∀m,m<n+T.length->c m=c (n+j)->m=n+j
theorem aeU{n:Nat}{T:List (List Int)}(N:∀x∈T,∀p∈x,0<=p/\p<n):ajE (kV (Lx n T.length T)) T n:=by
 obtain⟨D,u,J⟩:=aeT (n:=n) (nb:=T.length) T 0 (iota (n+T.length)) [] (afJ _) (qz _) (by omega) N;have u:Gen D (Lx n T.length T):=u;have len:(Lx n T.length T).length=n+T.length:=(Jr T 0 _ (Bf _) (qz _) (by omega) N).2;have J:∀e,e∈D↔∃j:Nat,∃p∈T.getD j [],e=(p.toNat,n+j):=fun e=>by rw[J e];simp only[fX]
 generalize Lx n T.length T=U at u len;have I:=Bg u.uf;rw[len]at I;have lt:∀{j:Nat} {a:Int},a∈T.getD j []->j<T.length:=fun {j a} z=>by
  rcases AF j T.length with q | q
  ·exact q
  rw[dc,iR q]at z;cases z
 have inn:∀j,∀p∈T.getD j [],0<=p/\p<n:=fun j p hp=>by
  have L:=lt hp;rw[dc,oX L]at hp;exact N _ (na L) p hp
 have e1:∀j,∀a∈T.getD j [],kV U a.toNat=kV U (n+j):=fun j a z=>by
  have:=inn j a z;have L:=lt z;exact (aaN u.uf (by omega) (by omega)).1 (u.edge _ ((J _).2 ⟨j,a,z,rfl⟩)).2.2
 refine⟨I,⟨⟨fun m W=>I.le m (by omega),fun m W=>I.top m (by omega)⟩,inn,fun j a b z hb=>(e1 j a z).trans (e1 j b hb).symm,fun S hS k hk O=>?_⟩,e1,fun j L R m W O=>?_⟩
 ·have hle:=I.le k (by omega);have V:aaG U (kV U k) k:=(aaN u.uf (by omega) (by omega)).2 (I.top k (by omega));have:=u.cl (fun x=>if x<n then S x else ∃a∈T.getD (x-n) [],S a.toNat) (fun e R=>?_) _ _ V
  ·simp only[ae hk,ae (show kV U k<n by omega)]at this;exact this.1 O
  obtain⟨j,p,hp,rfl⟩:=(J e).1 R;have:=inn j p hp;simp only[ae (show p.toNat<n by omega),aa (show ¬n+j<n by omega),gG];exact⟨fun g=>⟨p,hp,g⟩,fun ⟨a,z,g⟩=>hS j a p z hp g⟩
 have V:aaG U m (n+j):=(aaN u.uf (by omega) (by omega)).2 O;refine (u.cl (fun x=>x=n+j) (fun e Y=>?_) _ _ V).2 rfl;obtain⟨i,p,hp,rfl⟩:=(J e).1 Y;have:=inn i p hp;show p.toNat=n+j↔n+i=n+j;constructor
 ·intro g;omega
 intro g;have:i=j:=by omega
 rw[this,R]at hp;cases hp
def afh(c:Nat->Nat)(n r:Nat):List Int:=(kj c n r).map fun (k:Nat)=>(k:Int)
def aeh(c:Nat->Nat)(T:List (List Int))(r:Nat):List Int:=((List.range T.length).filter fun j=>(T.getD j []).any fun a=>decide (c a.toNat=r)).map fun (k:Nat)=>(k:Int)
theorem aei(f:Nat->Bool)(n:Nat):ct (((List.range n).filter f).map fun (k:Nat)=>(k:Int)):=by
 rw[ct,gM];refine uF ?_ (pE ga List.pairwise_lt_range);intro a b h;omega
theorem ahc(c:Nat->Nat)(n r:Nat):ct (afh c n r):=aei _ n
def aaw(T:List (List Int))(n:Nat)(s:List Bool×List dW)(i:Nat):List Bool×List dW:=
 if s.1.getD i true=true then s else ((ly T n i s.1).seen,s.2++[⟨(ly T n i s.1).pieces,(ly T n i s.1).bores,[]⟩])
theorem ahd{T:List (List Int)}{n:Nat}{c:Nat->Nat}(V:agq c T n){D0:List Bool}(hl:D0.length=n){r:Nat}(J:r<n)(hk:c r=r)(O:∀k,k<n->c k=r->D0.getD k true=false):
  (ly T n r D0).seen.length=n/\(∀k,k<n->((ly T n r D0).seen.getD k true=true↔D0.getD k true=true\/c k=r))/\(ly T n r D0).pieces=afh c n r/\(ly T n r D0).bores=aeh c T r:=by
 have W:=O r J hk;have z:∀j,j<T.length->(List.replicate T.length false).getD j true=true->False:=fun j D h=>by
  rw[dc,MR,ae D]at h;cases h
 obtain⟨h,R,U⟩:=agZ V (D0:=D0) J O n 0 ⟨D0.set r true,[(r:Int)],[],List.replicate T.length false,[(r:Int)]⟩
  ⟨by show (D0.set r true).length=n;rw[aQ,hl],bX,by simp,fun p hp=>by
   rw[Fp.1 hp];exact⟨⟨by omega,by omega⟩,by rw[FY];exact W⟩,fun p p0 pn=>by
   show (D0.set r true).getD p.toNat true=true↔_\/p∈[(r:Int)];rw[L2 (by rw[hl];exact J),Fp];by_cases e:p.toNat=r
   ·rw[ae e];exact⟨fun _=>.inr (by omega),fun _=>rfl⟩
   rw[aa e];exact⟨.inl,fun g=>g.elim id fun g=>absurd (by rw[g];simp) e⟩,E9 _ _,fun p=>cI,List.Pairwise.nil,fun x=>⟨fun g=>(Gc g).elim,fun ⟨j,_,u,I⟩=>(z j u I).elim⟩⟩
  ⟨fun j D L=>(z j D L).elim,fun j D L=>(z j D L).elim,fun p hp=>by rw[Fp.1 hp,FY];exact hk⟩
  (by omega) (Fp.2 rfl) (fun m hm=>by omega)
 refine⟨h.len,fun k HR=>?_,DH _ _ h.pr (ahc c n r) fun p=>?_,DH _ _ h.br (aei _ _) fun x=>?_⟩
 ·have:=h.done (k:Int) (by omega) (by omega);rw[FY,R,FY]at this;rw[show (ly T n r D0)=abu T n 0 ⟨D0.set r true,[(r:Int)],[],List.replicate T.length false,[(r:Int)]⟩ from rfl,this];exact⟨fun g=>g.imp id fun g=>g.2,fun g=>g.imp id fun g=>⟨⟨by omega,by omega⟩,g⟩⟩
 ·show p∈(abu T n 0 _).pieces↔_;rw[h.pm,R,afh,aZ];constructor
  ·rintro⟨⟨a,b⟩,e⟩;exact⟨p.toNat,pM.2 ⟨by omega,e⟩,by omega⟩
  rintro⟨k,Y,rfl⟩;obtain⟨a,b⟩:=pM.1 Y;exact⟨⟨by omega,by omega⟩,by rw[FY];exact b⟩
 show x∈(abu T n 0 _).bores↔_;rw[h.bm,aeh,aZ];constructor
 ·rintro⟨j,e,u,I⟩;refine⟨j,l5.2 ⟨wx.2 u,wy.2 ?_⟩,e.symm⟩;obtain⟨a,N,e2⟩:=(U j u).1 I;exact⟨a,N,nq e2⟩
 rintro⟨j,D,rfl⟩;obtain⟨u,I⟩:=l5.1 D;have u:=wx.1 u;obtain⟨a,N,e2⟩:=wy.1 I;exact⟨j,rfl,u,(U j u).2 ⟨a,N,iY e2⟩⟩
theorem acm{T:List (List Int)}{n:Nat}{c:Nat->Nat}(z:agq c T n):∀i,i<=n ->
  ((List.range i).foldl (aaw T n) (List.replicate n false,[])).1.length=n /\
  (∀k,k<n->(((List.range i).foldl (aaw T n) (List.replicate n false,[])).1.getD k true=true↔c k<i))/\
  ((List.range i).foldl (aaw T n) (List.replicate n false,[])).2=(dy c i).map fun r=>⟨afh c n r,aeh c T r,[]⟩
 | 0,_=>by
  refine⟨by simp,fun k hk=>?_,rfl⟩;simp[dc,hk]
 | i+1,hi=>by
  obtain⟨l1,u,D⟩:=acm z i (by omega);rw[rG,u7];generalize (List.range i).foldl (aaw T n) (List.replicate n false,[])=s at l1 u D ⊢;simp only[jN,List.foldl_nil];have tp:=z.tops.le i (by omega);rw[kp];by_cases e:c i=i
  ·have I:s.1.getD i true=false:=by
    cases g:s.1.getD i true with
    | false=>rfl
    | true=>have:=(u i (by omega)).1 g;omega
   obtain⟨J,L,N,O⟩:=ahd z l1 (r:=i) (by omega) e fun k hk g=>by
    cases q:s.1.getD k true with
    | false=>rfl
    | true=>have:=(u k hk).1 q;omega
   rw[aaw,aa (by rw[I];simp),ae e];refine⟨J,fun k hk=>?_,?_⟩
   ·rw[L k hk,u k hk];omega
   show s.2++_=_;rw[N,O,D,E8];rfl
  have I:s.1.getD i true=true:=(u i (by omega)).2 (by omega);rw[aa e,aaw,ae I];refine⟨l1,fun k hk=>?_,D⟩;rw[u k hk];constructor
  ·intro g;omega
  intro g;by_cases e2:c k=i
  ·have:=z.tops.top k hk;rw[e2]at this;exact absurd this e
  omega
theorem aej(bs:List dq)(n g:Nat):∀(l:List Nat) (s:(List Int×List Int)×List Int×List Int),
  (l.foldl (pO bs n g) s).2.1=s.2.1++(l.filter fun i=>decide (i<n)).map (fun (i:Nat)=>(i:Int))/\
  (l.foldl (pO bs n g) s).2.2=s.2.2++(l.filter fun i=>!decide (i<n)&&gv bs (i-n)).map fun (i:Nat)=>(i:Int)-n
 | [],s=>by simp
 | i::l,s=>by
  obtain⟨u,z⟩:=aej bs n g l (pO bs n g s i);rw[jN,u,z,pO];by_cases c:i<n
  ·rw[ae c,kJ,kJ];simp[c]
  rw[aa c,kJ,kJ];have e:(bs.getD (i-n) ⟨0,0,0,0,0,false⟩).plated=gv bs (i-n):=rfl;rw[e];by_cases p:gv bs (i-n)=true
  ·rw[ae p];simp[c,p]
  rw[aa p];simp[c,p]
def abN(bs:List dq)(n:Nat)(l:List Nat):dW:=⟨(l.filter fun i=>decide (i<n)).map (fun (i:Nat)=>(i:Int)),(l.filter fun i=>!decide (i<n)&&gv bs (i-n)).map (fun (i:Nat)=>(i:Int)-n),[]⟩
def aeV(g:dW):Bool:=decide (0<g.pieces.length+g.bores.length)
theorem aeW(bs:List dq)(n:Nat):∀(L:List (List Nat)) (s:(List Int×List Int)×List dW),(L.foldl (Js bs n) s).2=s.2++(L.map (abN bs n)).filter aeV
 | [],s=>by simp
 | l::L,s=>by
  obtain⟨u,z⟩:=aej bs n s.2.length l (s.1,[],[]);rw[jN,aeW bs n L,eH,kJ];have e:(Js bs n s l).2=s.2++if aeV (abN bs n l)=true then [abN bs n l] else []:=by
   show (if _ then _ else _)=_;rw[u,z,ur,ur];show (if 0<(abN bs n l).pieces.length+(abN bs n l).bores.length then s.2++[abN bs n l] else s.2)=_;by_cases c:aeV (abN bs n l)=true
   ·rw[ae c,ae (iY c)]
   rw[aa c,aa (fun g=>c (nq g)),aq]
  rw[e,d_];congr 1;by_cases c:aeV (abN bs n l)=true
  ·rw[ae c,ae c];rfl
  rw[aa c,aa c];rfl
def adE(bs:List dq)(T:List (List Int))(gs:List dW)(j:Nat):List dW:=if gv bs j=true/\(T.getD j []).length=0 then gs++[⟨[],[(j:Int)],[]⟩] else gs
def kx(bs:List dq)(T:List (List Int))(n:Nat):List dW:=(List.range T.length).foldl (adE bs T) ((List.range n).foldl (aaw T n) (List.replicate n false,[])).2
theorem adb(bs:List dq)(T:List (List Int)):∀(l:List Nat) (u:List dW),l.foldl (adE bs T) u=u++(l.filter fun j=>gv bs j&&decide ((T.getD j []).length=0)).map fun (j:Nat)=>⟨[],[(j:Int)],[]⟩
 | [],u=>by simp
 | j::l,u=>by
  rw[jN,adb bs T l,kJ,adE];by_cases p:gv bs j=true/\(T.getD j []).length=0
  ·rw[ae p,p.1,nq p.2];simp
  rw[aa p];have:(gv bs j&&decide ((T.getD j []).length=0))=false:=by
   rw[cu];intro h;rw[aJ]at h;exact p ⟨h.1,iY h.2⟩
  rw[this];rfl
theorem acE{bs:List dq}{T:List (List Int)}{n:Nat}(hlen:T.length=bs.length)(W:∀x∈T,∀p∈x,0<=p/\p<n)(hp:∀j,j<T.length->gv bs j=false->T.getD j []=[]):
  kx bs T n=(yb bs n (a7 (kV (Lx n bs.length T)) (n+bs.length))).2:=by
 rw[<-hlen];have bc:=aeU W;generalize kV (Lx n T.length T)=c at bc;obtain⟨_,_,Y⟩:=acm bc.pc n (aG _);have lt:∀{j:Nat} {a:Int},a∈T.getD j []->j<T.length:=fun {j a} J=>by
  rcases AF j T.length with q | q
  ·exact q
  rw[dc,iR q]at J;cases J
 rw[kx,Y,adb,yb,aeW,ur,a7,Mu];have Z:dy c (n+T.length)=dy c n++((List.range T.length).filter fun j=>decide (c (n+j)=n+j)).map fun j=>n+j:=by
  rw[dy,List.range_add,nt,dy,xM];rfl
 have em:∀r,kj c (n+T.length) r=kj c n r++((List.range T.length).filter fun j=>decide (c (n+j)=r)).map fun j=>n+j:=fun r=>by
  rw[kj,List.range_add,nt,kj,xM];rfl
 rw[Z,E8,nt];congr 1
 ·rw[mc.2]
  ·refine qY fun r O=>?_;obtain⟨U,R⟩:=mem_keys.1 O;show _=abN bs n (kj c (n+T.length) r);rw[abN,em,nt,nt];have f1:(kj c n r).filter (fun i=>decide (i<n))=kj c n r:=mc.2 fun k hk=>nq (pM.1 hk).1;have f2:(((List.range T.length).filter fun j=>decide (c (n+j)=r)).map fun j=>n+j).filter (fun i=>decide (i<n))=[]:=Gz.2 fun k hk=>by
    obtain⟨j,_,rfl⟩:=aZ.1 hk;simp
   have f3:(kj c n r).filter (fun i=>!decide (i<n)&&gv bs (i-n))=[]:=Gz.2 fun k hk=>by
    have:=(pM.1 hk).1;simp[this]
   rw[f1,f2,f3,aq,ur,xM,Mu,List.filter_filter];have f4:((List.range T.length).filter fun j=>((fun i=>!decide (i<n)&&gv bs (i-n))∘fun j=>n+j) j&&decide (c (n+j)=r))=(List.range T.length).filter fun j=>(T.getD j []).any fun a=>decide (c a.toNat=r):=by
    refine pL fun j u=>?_;have u:=wx.1 u;rw[Ax,aJ,wy];simp only[Function.comp,gG,show ¬n+j<n by omega,decide_false,Bb,tG,fV];constructor
    ·rintro⟨D,I⟩;cases e:T.getD j [] with
     | nil=>
      have Ti:=bc.e2 j u e r (by omega) (by rw[R];exact I.symm);omega
     | cons a t=>exact⟨a,bW,by rw[bc.e1 j a (by rw[e];exact bW)];exact I⟩
    rintro⟨a,J,e⟩;refine⟨?_,by rw[<-bc.e1 j a J];exact e⟩;cases q:gv bs j with
    | true=>rfl
    | false=>rw[hp j u q]at J;cases J
   rw[f4];show (⟨afh c n r,aeh c T r,[]⟩:dW)=⟨afh c n r,_,[]⟩;congr 1;refine qY fun j _=>?_;show (j:Int)=((n+j:Nat):Int)-n;omega
  intro g hg;obtain⟨r,O,rfl⟩:=aZ.1 hg;obtain⟨U,R⟩:=mem_keys.1 O;refine nq ?_;have:(r:Int)∈(abN bs n (kj c (n+T.length) r)).pieces:=aZ.2 ⟨r,l5.2 ⟨pM.2 ⟨by omega,R⟩,nq U⟩,rfl⟩;have:=nL this;show 0<(abN bs n (kj c (n+T.length) r)).pieces.length+_;omega
 rw[Mu];have z:∀j,j<T.length->c (n+j)=n+j->T.getD j []=[]:=fun j u h=>by
  cases e:T.getD j [] with
  | nil=>rfl
  | cons a t=>
   have D:=bc.e1 j a (by rw[e];exact bW);have I:=bc.pc.inn j a (by rw[e];exact bW);have h3:=bc.tops.le a.toNat (by omega);omega
 have self:∀j,j<T.length->T.getD j []=[]->c (n+j)=n+j:=fun j u e=>by
  have D:=bc.tops.le (n+j) (by omega);exact bc.e2 j u e (c (n+j)) (by omega) (bc.tops.top _ (by omega))
 have L:∀j,j<T.length->c (n+j)=n+j->abN bs n (kj c (n+T.length) (n+j))=⟨[],if gv bs j=true then [(j:Int)] else [],[]⟩:=fun j u h=>by
  have e:=z j u h;have only:kj c (n+T.length) (n+j)=[n+j]:=by
   rw[em];have a1:kj c n (n+j)=[]:=Gz.2 fun m V=>by
    have V:=wx.1 V;have:=bc.tops.le m (by omega);simp only[fV];omega
   have a2:(List.range T.length).filter (fun i=>decide (c (n+i)=n+j))=[j]:=by
    have:(List.range T.length).filter (fun i=>decide (c (n+i)=n+j))=(List.range T.length).filter (fun i=>decide (i=j)):=pL fun i hi=>by
     have hi:=wx.1 hi;rw[Ax,fV,fV];constructor
     ·intro q;have:=bc.e2 j u e (n+i) (by omega) (by rw[h];exact q);omega
     intro q;rw[q];exact h
    rw[this];clear this;have:∀N,j<N->(List.range N).filter (fun i=>decide (i=j))=[j]:=by
     intro N
     induction N with
     | zero=>intro h;omega
     | succ N ih=>
      intro hN;rw[rG,nt];by_cases q:j=N
      ·subst q;rw[Gz.2 fun i hi=>by have:=wx.1 hi;simp;omega];simp
      rw[ih (by omega)];simp[Ne.symm q]
    exact this _ u
   rw[a1,a2];rfl
  rw[only,abN];by_cases p:gv bs j=true
  ·simp[p];omega
  simp[p]
 rw[xM,List.filter_filter];have ef:(List.range T.length).filter (fun j=>gv bs j&&decide ((T.getD j []).length=0))=(List.range T.length).filter (fun j=>(aeV∘((abN bs n∘kj c (n+T.length))∘fun j=>n+j)) j&&decide (c (n+j)=n+j)):=by
  refine pL fun j u=>?_;have u:=wx.1 u;by_cases h:c (n+j)=n+j
  ·have e:=z j u h;rw[nq h,qJ,e];show (gv bs j&&true)=aeV (abN bs n (kj c (n+T.length) (n+j)));rw[L j u h];cases gv bs j<;>rfl
  rw[fJ h,wS,F1];refine .inr (fJ fun q=>h (self j u (GS.1 q)))
 rw[<-ef];refine qY fun j u=>?_;obtain⟨D,I⟩:=l5.1 u;have D:=wx.1 D;rw[aJ]at I;show _=abN bs n (kj c (n+T.length) (n+j));rw[L j D (self j D (GS.1 (iY I.2))),ae I.1]
def py(a b:aB):Int:=min a.x1 b.x1-max a.x0 b.x0
def q8(a b:aB):Int:=min a.y1 b.y1-max a.y0 b.y0
def HG(a b:aB):Bool:=(decide (0<py a b)&&decide (0<=q8 a b))||(decide (0<=py a b)&&decide (0<q8 a b))
theorem aa8{a b:aB}:HG a b=true↔(0<py a b/\0<=q8 a b)\/(0<=py a b/\0<q8 a b):=by simp[HG]
theorem aek(a b:aB):HG a b=HG b a:=by
 have u:py a b=py b a:=by simp only[py];omega
 have z:q8 a b=q8 b a:=by simp only[q8];omega
 rw[HG,HG,u,z]
theorem adF:∀{s:cw},Canon s->s.Pairwise fun p q=>p.2<q.1
 | [],_=>List.Pairwise.nil
 | _::_,h=>pw.2 ⟨h.behind,adF h.tail⟩
theorem abY{a b:aB}:CT a b=true↔a.x0<b.x1/\b.x0<a.x1:=by simp[CT]
theorem ael(all:List aB){g f e:Nat}(N:∀a b,g<=a->a<b->b<f->(all.getD a kW).x1<(all.getD b kW).x0)(O:∀a b,f<=a->a<b->b<e->(all.getD a kW).x1<(all.getD b kW).x0):
  ∀(n:Nat) (u:List Int) (i j:Nat) (E:List (Nat×Nat)),g<=i->f<=j->f<=u.length->e<=u.length->(f-i)+(e-j)<=n->Gen E u ->
   ∃D,Gen (E++D) (vQ all f e n u i j)/\(∀c∈D,(i<=c.1/\c.1<f)/\(j<=c.2/\c.2<e)/\CT (all.getD c.1 kW) (all.getD c.2 kW)=true)/\
    ∀a b,i<=a->a<f->j<=b->b<e->CT (all.getD a kW) (all.getD b kW)=true->(a,b)∈D
 | 0,u,i,j,E,_,_,_,_,hn,h=>⟨[],by rw[aq];exact h,fun c z=>(by cases z),fun a b L I=>by omega⟩
 | n+1,u,i,j,E,hi,hj,hf,he,hn,h=>by
  rw[vQ];by_cases c:i<f/\j<e
  ·rw[ae c];obtain⟨D,R,d2,d3,d4⟩:∃D,Gen (E++D) (if CT (all.getD i kW) (all.getD j kW)=true then kU u i j else u)/\(∀c∈D,c=(i,j)/\CT (all.getD i kW) (all.getD j kW)=true)/\
     (CT (all.getD i kW) (all.getD j kW)=true->(i,j)∈D)/\(if CT (all.getD i kW) (all.getD j kW)=true then kU u i j else u).length=u.length:=by
    by_cases o:CT (all.getD i kW) (all.getD j kW)=true
    ·rw[ae o];exact⟨[(i,j)],afK h (by omega) (by omega),fun c z=>⟨Fp.1 z,o⟩,fun _=>Fp.2 rfl,(xR h.uf (by omega) (by omega)).2⟩
    rw[aa o];exact⟨[],by rw[aq];exact h,fun c z=>(by cases z),fun x=>absurd x o,rfl⟩
   generalize (if CT (all.getD i kW) (all.getD j kW)=true then kU u i j else u)=v at R d4 ⊢;by_cases x:(all.getD i kW).x1<(all.getD j kW).x1
   ·rw[ae x,ae x];obtain⟨U,e1,e2,V⟩:=ael all N O n v (i+1) j (E++D) (by omega) hj (by omega) (by omega) (by omega) R;refine⟨D++U,by rw[<-d_];exact e1,fun k hk=>?_,fun a b L I W J o=>?_⟩
    ·rcases fC.1 hk with hk | hk
     ·obtain⟨rfl,o⟩:=d2 k hk;exact⟨⟨aG _,c.1⟩,⟨aG _,c.2⟩,o⟩
     obtain⟨⟨a1,a2⟩,Y,Z⟩:=e2 k hk;exact⟨⟨by omega,a2⟩,Y,Z⟩
    by_cases ea:a=i
    ·subst ea;by_cases eb:b=j
     ·subst eb;exact q_ _ (d3 o)
     have:=O j b hj (by omega) J;have:=abY.1 o;omega
    exact tJ _ (V a b (by omega) I W J o)
   rw[aa x,aa x];obtain⟨U,e1,e2,V⟩:=ael all N O n v i (j+1) (E++D) hi (by omega) (by omega) (by omega) (by omega) R;refine⟨D++U,by rw[<-d_];exact e1,fun k hk=>?_,fun a b L I W J o=>?_⟩
   ·rcases fC.1 hk with hk | hk
    ·obtain⟨rfl,o⟩:=d2 k hk;exact⟨⟨aG _,c.1⟩,⟨aG _,c.2⟩,o⟩
    obtain⟨a1,⟨a2,Y⟩,Z⟩:=e2 k hk;exact⟨a1,⟨by omega,Y⟩,Z⟩
   by_cases eb:b=j
   ·subst eb;by_cases ea:a=i
    ·subst ea;exact q_ _ (d3 o)
    have:=N i a hi (by omega) I;have:=abY.1 o;omega
   exact tJ _ (V a b L I (by omega) J o)
  rw[aa c];exact⟨[],by rw[aq];exact h,fun c z=>(by cases z),fun a b L I W J=>by omega⟩
def afi(all:List aB)(f:Nat)(b:aR):Prop:=∀m,m<b.xs.length->∃p,b.xs[m]?=some p/\all.getD (f+m) kW=⟨p.1,b.y0,p.2,b.y1⟩
variable {all:List aB}
theorem ahe{f:Nat}{b:aR}{s:List aR}(h:all.drop f=told (b::s)):afi all f b:=fun m u=>by
 have e:told (b::s)=b.xs.map (fun p=>(⟨p.1,b.y0,p.2,b.y1⟩:aB))++told s:=by simp[told]
 refine⟨b.xs[m],oX u,?_⟩;rw[dc,<-aW,h,e,dN (by simpa using u),aD,oX u];rfl
theorem aem{f:Nat}{b:aR}(h:afi all f b)(D:Canon b.xs):∀i j,f<=i->i<j->j<f+b.xs.length->(all.getD i kW).x1<(all.getD j kW).x0:=fun i j h1 h2 h3=>by
 obtain⟨p,I,u⟩:=h (i-f) (by omega);obtain⟨q,J,z⟩:=h (j-f) (by omega);rw[show f+(i-f)=i by omega]at u;rw[show f+(j-f)=j by omega]at z;rw[u,z];obtain⟨L,N⟩:=az.1 I;obtain⟨O,R⟩:=az.1 J;have:=FZ.1 (adF D) (i-f) (j-f) L O (by omega);rw[N,R]at this;exact this
theorem aa9{f:Nat}{b:aR}(h:afi all f b)(z:Canon b.xs){i:Nat}(h1:f<=i)(h2:i<f+b.xs.length):(all.getD i kW).y0=b.y0/\(all.getD i kW).y1=b.y1/\(all.getD i kW).x0<(all.getD i kW).x1:=by
 obtain⟨p,D,u⟩:=h (i-f) (by omega);rw[show f+(i-f)=i by omega]at u;rw[u];exact⟨rfl,rfl,iK z p (aj D)⟩
theorem aeX(all:List aB):∀(s:List aR) (p:Option aR) (u:List Int) (f g:Nat) (E:List (Nat×Nat)),dF s->u.length=all.length->all.drop f=told s->Gen E u ->
  (∀q,p=some q->dF (q::s)/\f=g+q.xs.length/\afi all g q)->(p=none->f=g)->(∀a,a<g->∀t∈s,(all.getD a kW).y1<t.y0)->
   ∃D,Gen (E++D) (vg all p s u f g)/\(∀c∈D,HG (all.getD c.1 kW) (all.getD c.2 kW)=true)/\∀a b,f<=b->b<all.length->a<b->HG (all.getD a kW) (all.getD b kW)=true->(a,b)∈D
 | [],p,u,f,g,E,hs,hl,hd,h,hp,hn,V=>by
  refine⟨[],by rw[aq];exact h,fun c z=>(by cases z),fun a b I J=>?_⟩;have:=ar List.length hd;simp[told]at this;omega
 | b::s,p,u,f,g,E,hs,hl,hd,h,hp,hn,V=>by
  have hb:=hs.head;have W:=ahe hd;have el:(told (b::s)).length=b.xs.length+(told s).length:=by simp[told]
  have hfl:f+b.xs.length<=all.length:=by
   have:=ar List.length hd;rw[lU,el]at this;have cO:=hb.lt;rcases AF all.length f with g1 | g1
   ·have:b.xs.length=0:=by omega
    exact absurd (GS.1 this) hb.ne
   omega
  have Ye:all.drop (f+b.xs.length)=told s:=by
   have e:told (b::s)=b.xs.map (fun p=>(⟨p.1,b.y0,p.2,b.y1⟩:aB))++told s:=by simp[told]
   rw[<-Gd,hd,e,List.drop_append_of_le_length (by simp),jR (by simp),ur]
  rw[vg];obtain⟨D,d1,d2,d3,d4⟩:∃D,Gen (E++D) (if meets p b=true then vQ all f (f+b.xs.length) (f-g+b.xs.length) u g f else u)/\(∀c∈D,HG (all.getD c.1 kW) (all.getD c.2 kW)=true)/\
    (∀x y,g<=x->x<f->f<=y->y<f+b.xs.length->HG (all.getD x kW) (all.getD y kW)=true->(x,y)∈D)/\(if meets p b=true then vQ all f (f+b.xs.length) (f-g+b.xs.length) u g f else u).length=u.length:=by
   cases p with
   | none=>
    have:=hn rfl;exact⟨[],by rw[aq];exact h,fun c z=>(by cases z),fun x y I J=>by omega,rfl⟩
   | some q=>
    obtain⟨q1,q2,q3⟩:=hp q rfl;have R:=q1.head;have Hh:=q1.j_ b bW;have qX:=R.lt;have Wq:=hb.lt;have ty:∀x y,g<=x->x<f->f<=y->y<f+b.xs.length->q8 (all.getD x kW) (all.getD y kW)=q.y1-b.y0:=fun x y I J L Y=>by
     obtain⟨a1,a2,_⟩:=aa9 q3 R.can I (by omega);obtain⟨b1,b2,_⟩:=aa9 W hb.can L Y;simp only[q8,a1,a2,b1,b2];omega
    by_cases m:meets (some q) b=true
    ·rw[ae m];have m:q.y1=b.y0:=iY m;obtain⟨D,e1,e2,e3⟩:=ael all (g:=g) (f:=f) (e:=f+b.xs.length) (by rw[q2];exact aem q3 R.can) (aem W hb.can) (f-g+b.xs.length) u g f E (aG _) (aG _) (by omega) (by omega) (by omega) h;refine⟨D,e1,fun c z=>?_,fun x y I J L Y N=>?_,(GR all f _ _ u g f h.uf (by omega) (by omega)).2⟩
     ·obtain⟨⟨c1,c2⟩,⟨Z,c4⟩,o⟩:=e2 c z;have o:=abY.1 o;have y:=ty _ _ c1 c2 Z c4;obtain⟨_,_,a3⟩:=aa9 q3 R.can c1 (by omega);obtain⟨_,_,b3⟩:=aa9 W hb.can Z c4;exact aa8.2 (.inl ⟨by simp only[py];omega,by omega⟩)
     have y:=ty _ _ I J L Y;refine e3 x _ I J L Y (abY.2 ?_);rcases aa8.1 N with⟨O,U⟩ | ⟨O,U⟩
     ·simp only[py]at O;omega
     omega
    rw[aa m];have m:¬q.y1=b.y0:=fun e=>m (nq e);refine⟨[],by rw[aq];exact h,fun c z=>(by cases z),fun x y I J L Y N=>?_,rfl⟩;have y:=ty _ _ I J L Y;rcases aa8.1 N with⟨O,U⟩ | ⟨O,U⟩<;>omega
  generalize (if meets p b=true then vQ all f (f+b.xs.length) (f-g+b.xs.length) u g f else u)=v at d1 d4 ⊢;have aln:∀a,a<f->∀t∈s,(all.getD a kW).y1<t.y0:=fun a ha t N=>by
   have I:=hs.j_ t N;have J:=hb.lt;rcases AF a g with c | c
   ·have:=V a c b bW;omega
   cases p with
   | none=>have:=hn rfl;omega
   | some q=>
    obtain⟨q1,q2,q3⟩:=hp q rfl;have L:=q1.j_ b bW;obtain⟨_,a2,_⟩:=aa9 q3 q1.head.can c (by omega);omega
  obtain⟨D',e1,e2,e3⟩:=aeX all s (some b) v (f+b.xs.length) f (E++D) hs.tail (by omega) Ye d1 (fun q R=>by injection R with R;subst R;exact⟨hs,rfl,W⟩) (fun x=>by cases x) aln;refine⟨D++D',by rw[<-d_];exact e1,fun c z=>?_,fun x y I J L N=>?_⟩
  ·rcases fC.1 z with z | z
   ·exact d2 c z
   exact e2 c z
  rcases AF y (f+b.xs.length) with c | c
  ·obtain⟨b1,b2,b3⟩:=aa9 W hb.can I c;rcases AF x g with c2 | c2
   ·have l:=V x c2 b bW;rcases aa8.1 N with⟨O,U⟩ | ⟨O,U⟩<;>simp only[q8]at U<;>omega
   rcases AF x f with Z | Z
   ·exact q_ _ (d3 x y c2 Z I c N)
   have l:=aem W hb.can x y Z L c;rcases aa8.1 N with⟨O,U⟩ | ⟨O,U⟩<;>simp only[py]at O<;>omega
  exact tJ _ (e3 x y c J L N)
def c9(r:List aB)(a b:Nat):Bool:=HG (r.getD a kW) (r.getD b kW)
theorem afO{s:List aR}(h:dF s):Cls (kV (ET s)) (c9 (told s)) (told s).length:=by
 obtain⟨D,u,R,J⟩:=aeX (told s) s none (iota (told s).length) 0 0 [] h (qz _) rfl (afJ _) (fun q z=>by cases z) (fun _=>rfl) (fun a L=>by omega);have u:Gen D (ET s):=u;have len:=(Sm s).2;have I:=Bg u.uf;rw[len]at I;refine⟨I,fun a b L hb z=>?_,fun S hS k hk hp=>?_⟩
 ·rcases iq a b with c | c | c
  ·exact (aaN u.uf (by omega) (by omega)).1 (u.edge _ (J a b (by omega) hb c z)).2.2
  ·rw[c]
  rw[c9,aek]at z;exact ((aaN u.uf (by omega) (by omega)).1 (u.edge _ (J b a (by omega) L c z)).2.2).symm
 refine (u.cl S (fun e N=>?_) (kV (ET s) k) k ?_).1 hp
 ·obtain⟨l1,l2,_⟩:=u.edge e N;have O:=R e N;exact⟨fun g=>hS _ _ (by omega) (by omega) g O,fun g=>hS _ _ (by omega) (by omega) g (by rw[c9,aek];exact O)⟩
 have:=I.le k hk;exact (aaN u.uf (by omega) (by omega)).2 (I.top k hk)
theorem agr{l m:List aB}(hl:∀r∈l,Full r)(h:∀r,r∈l↔r∈m):cH l=cH m:=by
 obtain⟨D,I,_⟩:=b7 hl;obtain⟨J,L,_⟩:=b7 (l:=m) fun r N=>hl r ((h r).2 N);refine Cx _ _ D J fun x y=>?_;rw[I,L,Ax,wy,wy];exact⟨fun ⟨r,u,z⟩=>⟨r,(h r).1 u,z⟩,fun ⟨r,u,z⟩=>⟨r,(h r).2 u,z⟩⟩
def ag0(r:List aB):List (List aB):=(ahQ (c9 r) r.length).map fun L=>t_ (L.map fun k=>r.getD k kW)
theorem afj{s:List aR}(h:dF s):ag0 (told s)=(iO s).map told:=by
 have z:=afO h;obtain⟨_,_,M,D,I⟩:=abW z (told s).length (aG _);rw[ag0,ahQ,D,iO,Jg,a7,Mu,Mu,Mu,Mu];refine qY fun r J=>?_;show told (cH _)=told (cH _);have L:=nW h;have u:=I r J;rw[agr]
 ·intro q N;obtain⟨k,hk,rfl⟩:=aZ.1 N;have:=((u k).1 hk).1;exact L _ (by rw[dc,oX this];exact na this)
 intro q;simp only[aZ];constructor
 ·rintro⟨k,hk,e⟩;exact⟨k,pM.2 ((u k).1 hk),e⟩
 rintro⟨k,hk,e⟩;exact⟨k,(u k).2 (pM.1 hk),e⟩
def ag1(p q:aB):Bool:=(decide (0<py p q)&&decide (q8 p q=0))||(decide (py p q=0)&&decide (0<q8 p q))
theorem afP{p q:aB}(hp:Full p)(D:Full q):ag1 p q=beside p q:=by
 obtain⟨p1,p2⟩:=hp;obtain⟨q1,q2⟩:=D;have u:py p q=min p.x1 q.x1-max p.x0 q.x0:=rfl;have z:q8 p q=min p.y1 q.y1-max p.y0 q.y0:=rfl;have x0:0<py p q↔p.x0<q.x1/\q.x0<p.x1:=by rw[u];omega
 have y0:0<q8 p q↔p.y0<q.y1/\q.y0<p.y1:=by rw[z];omega
 have x1:py p q=0↔p.x1=q.x0\/q.x1=p.x0:=by rw[u];omega
 have y1:q8 p q=0↔p.y1=q.y0\/q.y1=p.y0:=by rw[z];omega
 rw[ag1,beside,decide_eq_decide.2 x0,decide_eq_decide.2 y0,decide_eq_decide.2 x1,decide_eq_decide.2 y1,Bool.decide_and,Bool.decide_and,Bool.decide_or,Bool.decide_or];rw[Bool.and_comm (decide (p.x1=q.x0)||decide (q.x1=p.x0))]
def adG(r:List aB)(q:aB):Bool:=r.any fun p=>ag1 p q
def aa3(b:dq)(p:Piece):Bool:=through b p.layer&&adG (told p.set) (bM b)
def er(b:dq)(ps:List Piece)(k:Nat):List Int:=if b.plated=true then ((List.range k).filter fun i=>aa3 b (ps.getD i ⟨0,[]⟩)).map fun (i:Nat)=>(i:Int) else []
theorem acF(b:dq):∀(ps:List Piece) (k:Nat),jv b k ps=((List.range ps.length).filter fun i=>td b (ps.getD i ⟨0,[]⟩)).map fun (i:Nat)=>((k+i:Nat):Int)
 | [],k=>rfl
 | p::ps,k=>by
  rw[jv,acF b ps (k+1),bN,List.range_succ_eq_map,kJ,xM];have e:(((List.range ps.length).filter ((fun i=>td b ((p::ps).getD i ⟨0,[]⟩))∘Nat.succ)).map Nat.succ).map (fun (i:Nat)=>((k+i:Nat):Int))=((List.range ps.length).filter fun i=>td b (ps.getD i ⟨0,[]⟩)).map fun (i:Nat)=>((k+1+i:Nat):Int):=by
   rw[Mu];refine qY fun i _=>?_;show ((k+(i+1):Nat):Int)=_;rw[show k+(i+1)=k+1+i by omega]
  by_cases c:td b p=true
  ·have u:td b ((p::ps).getD 0 ⟨0,[]⟩)=true:=c;rw[ae c,ae u,eH,e];rfl
  have u:¬td b ((p::ps).getD 0 ⟨0,[]⟩)=true:=c;rw[aa c,aa u,e]
theorem ags{b:dq}(hb:Full (bM b)){ps:List Piece}(hp:∀p∈ps,dF p.set):er b ps ps.length=jv b 0 ps:=by
 rw[acF,er];by_cases c:b.plated=true
 ·rw[ae c];have e:(List.range ps.length).filter (fun i=>aa3 b (ps.getD i ⟨0,[]⟩))=(List.range ps.length).filter fun i=>td b (ps.getD i ⟨0,[]⟩):=by
   refine pL fun i hi=>?_;have hi:=wx.1 hi;have u:ps.getD i ⟨0,[]⟩∈ps:=by
    rw[dc,oX hi];exact na hi
   have z:=nW (hp _ u);rw[aa3,td,c,tG,adG];congr 1;exact xV fun r D=>afP (z r D) hb
  rw[e];refine qY fun i _=>?_;rw[fX]
 rw[aa c];have:(List.range ps.length).filter (fun i=>td b (ps.getD i ⟨0,[]⟩))=[]:=Gz.2 fun i _=>by
  simp[td,c]
 rw[this];rfl
def Bs(l:oW):Nat->List Piece->Option Nat
 | _,[]=>none
 | k,p::r=>if Jp l p=true then some k else Bs l (k+1) r
def W3(l:oW):Nat->List dq->Option Nat
 | _,[]=>none
 | k,b::r=>if DY l b=true then some k else W3 l (k+1) r
def ade(bs:List dq)(ps:List Piece)(l:oW):UK×Bool:=match Bs l 0 ps with
 | some k=>(⟨false,k⟩,true)
 | none=>match W3 l 0 bs with
  | some k=>(⟨true,k⟩,true)
  | none=>(⟨false,0⟩,false)
theorem adH(l:oW):∀(ps:List Piece) (k:Nat),match Bs l k ps with
  | some m=>vj l k ps=(⟨false,m⟩,true)/\∃p∈ps,Jp l p=true
  | none=>(vj l k ps).2=false/\∀p∈ps,Jp l p=false
 | [],k=>⟨rfl,fun p h=>by cases h⟩
 | p::ps,k=>by
  rw[Bs,vj];by_cases c:Jp l p=true
  ·rw[ae c,ae c];exact⟨rfl,p,bW,c⟩
  rw[aa c,aa c];have ih:=adH l ps (k+1);cases e:Bs l (k+1) ps with
  | some m=>
   rw[e]at ih;obtain⟨z,q,u,D⟩:=ih;exact⟨z,q,cD _ u,D⟩
  | none=>
   rw[e]at ih;refine⟨ih.1,fun q u=>?_⟩;rcases L8.1 u with e | u
   ·rw[e];simpa using c
   exact ih.2 q u
theorem aen(l:oW)(ps:List Piece):∀(bs:List dq) (k:Nat),match W3 l k bs with
  | some m=>sr l ps k bs=(⟨true,m⟩,true)/\∃b∈bs,DY l b=true
  | none=>sr l ps k bs=vj l 0 ps/\∀b∈bs,DY l b=false
 | [],k=>⟨rfl,fun p h=>by cases h⟩
 | b::bs,k=>by
  rw[W3,sr];by_cases c:DY l b=true
  ·rw[ae c,ae c];exact⟨rfl,b,bW,c⟩
  rw[aa c,aa c];have ih:=aen l ps bs (k+1);cases e:W3 l (k+1) bs with
  | some m=>
   rw[e]at ih;obtain⟨z,q,u,D⟩:=ih;exact⟨z,q,cD _ u,D⟩
  | none=>
   rw[e]at ih;refine⟨ih.1,fun q u=>?_⟩;rcases L8.1 u with e | u
   ·rw[e];simpa using c
   exact ih.2 q u
def ahR(bs:List dq)(ps:List Piece):Prop:=∀p∈ps,∀b∈bs,∀x y,through b p.layer=true->oV x y (bM b)=true->(told p.set).any (oV x y)=false
theorem aiw{bs:List dq}{ps:List Piece}(h:ahR bs ps)(l:oW):(ade bs ps l).2=(x_ bs ps l).2/\((x_ bs ps l).2=true->ade bs ps l=x_ bs ps l):=by
 have hp:=adH l ps 0;have hb:=aen l ps bs 0;rw[x_,ade];cases e:Bs l 0 ps with
 | some m=>
  rw[e]at hp;obtain⟨D,p,pm,u⟩:=hp;cases f:W3 l 0 bs with
  | some k=>
   rw[f]at hb;obtain⟨b1,b,bm,z⟩:=hb;rw[Jp,aJ,fV]at u;rw[DY,aJ,aJ]at z;have:=h p pm b bm l.x l.y (by rw[u.1];exact z.1.2) z.2;rw[u.2]at this;cases this
  | none=>
   rw[f]at hb;rw[hb.1,D];exact⟨rfl,fun _=>rfl⟩
 | none=>
  rw[e]at hp;cases f:W3 l 0 bs with
  | some k=>
   rw[f]at hb;rw[hb.1];exact⟨rfl,fun _=>rfl⟩
  | none=>
   rw[f]at hb;rw[hb.1,hp.1];exact⟨rfl,fun g=>by cases g⟩
def gb(h:UK)(g:dW):Bool:=(h.bore&&aaV g.bores h.num)||(!h.bore&&aaV g.pieces h.num)
def aaH(h:UK):Nat->List dW->Int
 | _,[]=>-1
 | k,g::r=>if gb h g=true then k else aaH h (k+1) r
theorem ahS{h:UK}:∀{u:List dW} {m:Nat} {k:Nat} {g:dW},u[k]?=some g->gb h g=true->(∀i q,u[i]?=some q->gb h q=true->i=k)->aaH h m u=((m+k:Nat):Int)
 | [],m,k,g,hk,_,_=>by cases hk
 | q::u,m,k,g,hk,hg,hu=>by
  rw[aaH];by_cases c:gb h q=true
  ·rw[ae c];have:=hu 0 q rfl c;rw[<-this];rfl
  rw[aa c];cases k with
  | zero=>injection hk with hk;rw[hk]at c;exact absurd hg c
  | succ k=>
   rw[ahS (k:=k) (g:=g) (by simpa using hk) hg fun i p hi hp=>by have:=hu (i+1) p (by simpa using hi) hp;omega];rw[show m+1+k=m+(k+1) by omega]
end Reg
namespace M
open Go.AM Go.RowKit Go.Lib
open Reg (aB Full dq oW yr bM ew gW through VQ)
theorem ad4(n lo hi:Int):ai C 61 [.pv (i64 n),.pv (i64 lo),.pv (i64 hi)] (.p (bool (Reg.within n lo hi))) []:=adt n lo hi
theorem tn(b:dq)(h:ew b=true):ai C 24 [.pv (.ag (bc b))] (.p (.ag (rc (bM b)))) []:=by
 simp[ew,Reg.within,Reg.iZ]at h;have h1:0<=b.size.tdiv 2/\b.size.tdiv 2<=b.size:=by
  rw[F0 (by omega)];omega
 refine fW hC Tryz.func24 rfl (by kernel_rfl) fun _=>?_;refine⟨by omega,wO (by omega),wO (by omega),by omega,wO (by omega),wO (by omega),wO (by omega),wO (by omega),?_,trivial⟩;rfl
theorem adf(b:dq):ai C 60 [.pv (.ag (bc b))] (.p (i64 (if gW b=true then 0 else 1))) []:=by
 refine fW hC Tryz.func60 rfl (by kernel_rfl) fun _=>?_;refine⟨_,_,(ad4 b.size 1 10000),iW ?_ ?_⟩<;>intro z
 ·refine⟨?_,trivial⟩;rw[aa (by simp only[gW,ew];rw[z];simp)];rfl
 refine⟨_,_,(aeN b.x b.y),iW ?_ ?_⟩<;>intro D
 ·refine⟨?_,trivial⟩;rw[aa (by simp only[gW,ew];rw[z,D];simp)];rfl
 have u:ew b=true:=by simp only[ew];rw[z,D];rfl
 have go:gW b=Reg.jq (bM b):=by simp only[gW];rw[u,tG]
 rw[go];refine⟨_,_,(tn b u),_,_,(aa1 (bM b).x0),iW ?_ ?_⟩<;>intro I
 ·refine⟨?_,trivial⟩;rw[aa (by simp only[Reg.jq];rw[I];simp)];rfl
 refine⟨_,_,(aa1 (bM b).y0),iW ?_ ?_⟩<;>intro J
 ·refine⟨?_,trivial⟩;rw[aa (by simp only[Reg.jq];rw[J];simp)];rfl
 refine⟨_,_,(aa1 (bM b).x1),iW ?_ ?_⟩<;>intro L
 ·refine⟨?_,trivial⟩;rw[aa (by simp only[Reg.jq];rw[L];simp)];rfl
 refine⟨_,_,(aa1 (bM b).y1),iW ?_ ?_⟩<;>intro N
 ·refine⟨?_,trivial⟩;rw[aa (by simp only[Reg.jq];rw[N];simp)];rfl
 refine⟨?_,trivial⟩;rw[ae (by simp only[Reg.jq];rw[I,J,L,N];rfl)];rfl
theorem abn(b:dq)(l:Int):ai C 27 [.pv (.ag (bc b)),.pv (i64 l)] (.p (bool (through b l))) []:=by
 refine fW hC Tryz.func27 rfl (by kernel_rfl) fun _=>?_;apply iW<;>intro h<;>(refine⟨?_,trivial⟩)<;>simp[bool,through,h]
def afk(x y:dq):Bool:=decide (x.lo<=y.hi)&&decide (y.lo<=x.hi)
theorem afQ(x y:dq):ai C 22 [.pv (.ag (bc x)),.pv (.ag (bc y))] (.p (bool (afk x y))) []:=by
 refine fW hC Tryz.func22 rfl (by kernel_rfl) fun _=>?_;apply iW<;>intro h<;>(refine⟨?_,trivial⟩)<;>simp[bool,afk,h]
def afR(p q:aB):Bool:=decide (max p.x0 q.x0<min p.x1 q.x1)&&decide (max p.y0 q.y0<min p.y1 q.y1)
theorem afl(p q:aB):ai C 23 [.pv (.ag (rc p)),.pv (.ag (rc q))] (.p (bool (afR p q))) []:=by
 refine fW hC Tryz.func23 rfl (by kernel_rfl) fun _=>?_;apply iW<;>intro h<;>(refine⟨?_,trivial⟩)<;>simp[bool,afR,h]
theorem ahT{p q:aB}(hp:Full p)(u:Full q):afR p q=decide (VQ p q=0):=by
 obtain⟨p1,p2⟩:=hp;obtain⟨q1,q2⟩:=u;have z:VQ p q=0↔(q.x0<p.x1/\p.x0<q.x1)/\(q.y0<p.y1/\p.y0<q.y1):=by unfold VQ Reg.uD;omega
 rw[Ax,afR,aJ,fV,fV,fV,z];rw[ad0,ad0,Int.min_def,Int.min_def];split<;>split<;>split<;>split<;>omega
theorem ahU{x y:dq}(u:ew x=true)(z:ew y=true):(afk x y&&afR (bM x) (bM y))=Reg.ny x y:=by
 rw[ahT (Reg.mC u) (Reg.mC z)];rfl
end M
end Go.Proofs.YtliffnpbaeijgaaGreatDoor
