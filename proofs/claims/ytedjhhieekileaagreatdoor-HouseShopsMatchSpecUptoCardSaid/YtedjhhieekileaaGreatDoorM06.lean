/- Part 6 of the proof of HouseShopsMatchSpec. -/
import Derived.Test.YtedjhhieekileaaGreatDoorM05
import Derived.Lib.Bytealg
import Derived.Shelf.SlSortCmp.WholeK
import Derived.Deep.Slices
import Derived.Test.YtedjhhieekileaaGreatDoorCards
import Derived.Test.YtedjhhieekileaaGreatDoorTie
import Derived.WalkKit
import Derived.ProofKit
import Derived.OpenShut
import Derived.Deep.DeepHandedRow
import Derived.Lib.LaidTab
import Derived.LaidMore
import Derived.Lay
import Derived.Stop.Joined
import Derived.Stop.LaidErr
import Derived.MakeChecks
import Derived.Deep.Fields
import Derived.Carry
import Derived.DataShut
import Derived.Shelf.SlSortCmp.NoneTotal
import Derived.StillTailTactics
set_option linter.unusedVariables false
set_option linter.unusedSimpArgs false
set_option maxRecDepth 100000
set_option maxHeartbeats 8000000
namespace Go
abbrev UE:=@List.cons_lt_cons_iff
abbrev UF:=@decide_eq_true
abbrev Ud:=@decide_eq_false
abbrev UG:=@List.map_take
abbrev UH:=@Array.getElem?_eq_none
abbrev TM:=@List.getElem_range
abbrev Tn:=@Go.Deep.hone_of
abbrev TN:=@Go.World.cell?_alloc_at
abbrev Vc:=@List.range_succ
abbrev Ue:=@List.take_length
abbrev Vd:=@Int.le_refl
end Go
namespace Go.Proofs.YtedjhhieekileaaGreatDoor
namespace M
open Go.AM Go.RowKit Go.Lib
def kT(a b:ByteArray):Bool:=Op.bytesLess a.data.toList b.data.toList
theorem kC{a b:ByteArray}:kT a b=true↔a.data.toList<b.data.toList:=by
 unfold kT;rw[Go.Proofs.bytesLess_eq];simp
theorem db(a:ByteArray):kT a a=false:=by
 rw[cr];intro h;exact List.lt_irrefl _ (kC.1 h)
theorem iA{a b c:ByteArray}(z:kT a b=true)(D:kT b c=true):kT a c=true:=kC.2 (List.lt_trans (kC.1 z) (kC.1 D))
theorem E5{a b:Nat}(h:a+b<4611686018427387904):(IntKind.u64.wrap ((a:Int)+(b:Int))).fdiv (2 ^ min (Int.toNat 1) IntKind.u64.bits)=(((a+b) / 2:Nat):Int):=by
 have c:IntKind.u64.wrap ((a:Int)+(b:Int))=((a+b:Nat):Int):=by simp[IntKind.wrap,IntKind.bits,IntKind.signed];omega
 rw[c];have z:(2:Int) ^ min (Int.toNat 1) IntKind.u64.bits=2:=by decide
 rw[z,Int.fdiv_eq_ediv_of_nonneg _ (by decide)];omega
def fV{α:Type}(p:α->Bool):List α->Nat->Int
 | [],_=>-1
 | x::r,k=>match p x with
  | true=>k
  | false=>fV p r (k+1)
variable {α:Type}
theorem lO{p:α->Bool}:∀{l:List α} {k:Nat},(∀x∈l,p x=false)->fV p l k=-1:=by
 intro l
 induction l with
 | nil=>intro k _;rfl
 | cons x l ih=>intro k h;rw[fV,h x (by simp)];exact ih fun y c=>h y (by simp[c])
theorem uE{p:α->Bool}:∀{l:List α} {i k:Nat} {x:α},l[i]?=some x->p x=true->(∀y∈l.take i,p y=false)->fV p l k=((k+i:Nat):Int):=by
 intro l
 induction l with
 | nil=>intro i k x h;simp at h
 | cons y l ih=>
  intro i k x h hp c;cases i with
  | zero=>simp at h;subst h;rw[fV,hp];rfl
  | succ i=>
   rw[fV,c y (by simp)];have:=ih (i:=i) (k:=k+1) (by simpa using h) hp fun z D=>c z (by simp[D]);simp only[this];omega
theorem sM(p:α->Bool):∀(l:List α) (k:Nat),decide (0<=fV p l k)=l.any p:=by
 intro l
 induction l with
 | nil=>intro k;rfl
 | cons x l ih=>
  intro k;rw[fV,Vb];cases p x with
  | true=>simp
  | false=>simpa using ih (k+1)
theorem GS{p:α->Bool}{l:List α}{i:Nat}{x:α}(z:l[i]?=some x)(hp:p x=false)(h:∀y∈l.take i,p y=false):∀y∈l.take (i+1),p y=false:=by
 intro y c;rw[bT z,cD,n9]at c;rcases c with c | rfl
 ·exact h y c
 exact hp
theorem sO:∀a b:List UInt8,(Lib.compareBytes a b<0↔a<b)/\(Lib.compareBytes a b=0↔a=b)
 | [],[]=>by simp[Lib.compareBytes]
 | [],_::_=>by simp[Lib.compareBytes]
 | _::_,[]=>by simp[Lib.compareBytes]
 | x::a,y::b=>by
  have ih:=sO a b;unfold Lib.compareBytes;rw[UE,List.cons.injEq];by_cases e:x=y
  ·subst e;have c:¬x<x:=UInt8.lt_irrefl x;simp[c,ih.1,ih.2]
  rcases UInt8.lt_or_lt_of_ne e with h | h
  ·simp[e,h]
  have z:¬x<y:=UInt8.not_lt.2 (UInt8.le_of_lt h);simp[e,h,z]
theorem JH(a b:ByteArray):decide (Lib.compareBytes a.data.toList b.data.toList<0)=kT a b:=by
 rw[gU,kC,decide_eq_true_iff];exact (sO _ _).1
theorem cmp_eq(a b:ByteArray):Lib.compareBytes a.data.toList b.data.toList=0↔a=b:=by
 rw[(sO _ _).2];refine⟨fun h=>?_,fun h=>by rw[h]⟩;obtain⟨⟨x⟩⟩:=a;obtain⟨⟨y⟩⟩:=b;simpa using h
theorem x5(a b:ByteArray):aT C 64 [.pv (str a),.pv (str b)] (.p (i64 (Lib.compareBytes a.data.toList b.data.toList))) []:=
 iz [.string a,.string b] _ ⟨_,Tryz.func64,rfl,rfl⟩ fun S w _ _=>(Tryz.strings_Compare a b w).mono fun e w' h=>⟨h.1,by rw[h.2];exact Below.refl _ _⟩
def Qw(f:FuncId):PV:=.im (.func (.func f) #[] #[])
def sQ{α:Type}(f:α->ByteArray)(l:List α)(x:ByteArray):Nat:=(l.filter fun y=>kT (f y) x).length
def tD{α:Type}(f:α->ByteArray)(l:List α)(x:ByteArray):Bool:=l.any fun y=>decide (f y=x)
def sR{α:Type}(f:α->ByteArray)(l:List α)(x:ByteArray):Int:=fV (fun y=>decide (f y=x)) l 0
def gL{α:Type}(f:α->ByteArray)(l:List α):Prop:=l.Pairwise fun a b=>kT (f a) (f b)=true
theorem c_{f:α->ByteArray}{l:List α}(h:gL f l){i j:Nat}{a b:α}(c:l[i]?=some a)(hb:l[j]?=some b)(z:i<j):kT (f a) (f b)=true:=by
 obtain⟨D,rfl⟩:=cL.1 c;obtain⟨G,rfl⟩:=cL.1 hb;exact wy.1 h i j D G z
theorem uF{f:α->ByteArray}{l:List α}{x:ByteArray}{i:Nat}(hi:i<=l.length)(D:∀(k:Nat) y,k<i->l[k]?=some y->kT (f y) x=true)(G:∀(k:Nat) y,i<=k->l[k]?=some y->kT (f y) x=false):sQ f l x=i:=by
 unfold sQ;rw[<-ca i l,wh,fj];have I:(l.take i).filter (fun y=>kT (f y) x)=l.take i:=List.filter_eq_self.2 fun y z=>by
  obtain⟨k,c⟩:=uU.1 z;rw[cB]at c;split at c
  ·exact D k y (by assumption) c
  cases c
 have J:(l.drop i).filter (fun y=>kT (f y) x)=[]:=List.filter_eq_nil_iff.2 fun y z=>by
  obtain⟨k,c⟩:=uU.1 z;rw[cV]at c;rw[G (i+k) y (by omega) c];decide
 rw[I,J,dI];simp;omega
theorem gO{f:α->ByteArray}{l:List α}{x:ByteArray}:tD f l x=true↔∃y∈l,f y=x:=by simp[tD]
theorem oU{a b:ByteArray}(h:a=b):kT a b=false:=by rw[h,db]
theorem GU{f:α->ByteArray}{l:List α}{x:ByteArray}{y:α}{a:Nat}(hs:gL f l)(I:∀(k:Nat) z,k<a->l[k]?=some z->kT (f z) x=true)(G:l[a]?=some y)(J:kT (f y) x=false)(N:¬f y=x):tD f l x=false:=by
 rw[cr];intro O;obtain⟨z,U,D⟩:=gO.1 O;obtain⟨k,c⟩:=uU.1 U;rcases gC k a with h | h | h
 ·have:=I k z h c;rw[oU D]at this;cases this
 ·subst h;rw[G]at c;injection c with c;exact N (by rw[c];exact D)
 have:=c_ hs G c h;rw[D,J]at this;cases this
theorem x6{f:α->ByteArray}{l:List α}{x:ByteArray}(hs:gL f l):sR f l x=if tD f l x=true then (sQ f l x:Int) else -1:=by
 split
 ·rename_i h;obtain⟨y,J,I⟩:=gO.1 h;obtain⟨k,G⟩:=uU.1 J;have SH:=(cL.1 G).1;have b:sQ f l x=k:=uF (by omega) (fun j z D c=>by rw[<-I];exact c_ hs c G D) (fun j z D c=>by
   by_cases e:j=k
   ·subst e;rw[G]at c;injection c with c;rw[<-c];exact oU I
   rw[cr];intro N;have:=iA (c_ hs G c (by omega)) N;rw[oU I]at this;cases this)
  rw[b,sR,uE (p:=fun y=>decide (f y=x)) G (by simp[I]) (fun z c=>?_)]
  ·omega
  obtain⟨j,D⟩:=uU.1 c;rw[cB]at D;split at D
  ·have:=c_ hs D G (by assumption);simp only[wg];intro e;rw[e,I,db]at this;cases this
  cases D
 rename_i h;exact lO fun z c=>by
  simp only[wg];exact fun e=>h (gO.2 ⟨z,c,e⟩)
theorem E6{f:α->ByteArray}{l:List α}{x:ByteArray}(h:0<=sR f l x):∃(k:Nat) (y:α),sR f l x=k/\l[k]?=some y/\f y=x:=by
 have key:∀(l:List α) (n:Nat),fV (fun y=>decide (f y=x)) l n=-1\/∃(k:Nat) (y:α),fV (fun y=>decide (f y=x)) l n=((n+k:Nat):Int)/\l[k]?=some y/\f y=x:=by
  intro l
  induction l with
  | nil=>exact fun n=>.inl rfl
  | cons a l ih=>
   intro n;rw[fV];cases h:decide (f a=x) with
   | true=>exact .inr ⟨0,a,rfl,rfl,by simpa using h⟩
   | false=>
    rcases ih (n+1) with e | ⟨k,y,c,z,D⟩
    ·exact .inl e
    exact .inr ⟨k+1,y,by simp only;rw[c];congr 1;omega,by simpa using z,D⟩
 rcases key l 0 with e | ⟨k,y,c,z,D⟩
 ·rw[sR,e]at h;omega
 exact⟨k,y,by rw[sR,c,ae],z,D⟩
theorem E7{f:α->ByteArray}{l:List α}{x:ByteArray}:decide (sR f l x<0)=!tD f l x:=by
 cases h:tD f l x with
 | true=>
  obtain⟨y,hy,Ic⟩:=gO.1 h;simp only[kf,wg];intro c;have e:(l.any fun y=>decide (f y=x))=true:=h;rw[<-sM _ l 0]at e;have e2:fV (fun y=>decide (f y=x)) l 0<0:=c;simp at e;omega
 | false=>
  simp only[Bool.not_false,dS];rw[sR,lO fun z D=>by
   simp only[wg];exact fun e=>by rw[gO.2 ⟨z,D,e⟩]at h;cases h]
  decide
theorem Bl(p:Lt)(s:ByteArray):aT C 63 [.pv (.ag (jK p)),.pv (str s)] (.p (i64 (Lib.compareBytes p.name.data.toList s.data.toList))) []:=by
 refine fW hC Tryz.func63 rfl (by kernel_rfl) fun _=>?_;refine⟨_,_,(x5 p.name s),?_,trivial⟩;rfl
theorem zX(l:List Lt)(x:ByteArray)(hs:gL Lt.name l)(hN:l.length<=1000000000):aT C 62 [.pv (.sl (l.map jK)),.pv (str x),.pv (Qw 63)] (.tu [i64 (sQ Lt.name l x),bool (tD Lt.name l x)]) []:=by
 refine fW hC Tryz.func62 rfl (by kernel_rfl) fun _=>?_;have lm:=cH l jK;refine d_ (fun p:Nat×Nat=>p.1<=p.2/\p.2<=l.length/\(∀(k:Nat) y,k<p.1->l[k]?=some y->kT (Lt.name y) x=true)/\(∀(k:Nat) y,p.2<=k->l[k]?=some y->kT (Lt.name y) x=false)) (fun p=>[(0,.p (.sl (l.map jK))),(1,.p (str x)),(2,.p (Qw 63)),(8,.p (i64 l.length)),(9,.p (i64 p.1)),(10,.p (i64 p.2))]) (fun _=>[]) (fun p=>p.2-p.1) (0,l.length) _ (aY.refl _ _) ⟨nI _,aC _,fun k y h=>by omega,fun k y V c=>by have:=(cL.1 c).1;simp only at V;omega⟩ ⟨rfl,rfl,rfl,kv (by rw[lm]),rfl,kv (by rw[lm]),trivial⟩ trivial fun ⟨a,b⟩ hi t h=>?_;obtain⟨q1,q2,N,U⟩:=hi;simp only at q1 q2 N U;apply iW<;>intro V<;>try simp only[zB]at V
 ·have I:=E5 (a:=a) (b:=b) (by omega);obtain⟨y,G⟩:=a8 (l:=l) (i:=(a+b) / 2) (by omega);refine⟨⟨by simp only;omega,by simp only;omega⟩,⟨by decide,by decide⟩,⟨by simp only;rw[I];omega,by simp only;rw[I];omega⟩,(jK y),(idx I G),_,_,(Bl y x),?_⟩;have hc:=JH y.name x;apply iW<;>intro c
  ·have c:kT (Lt.name y) x=true:=by rw[<-hc];exact UF c
   refine⟨⟨by simp only;rw[I];omega,by simp only;rw[I];omega⟩,((a+b) / 2+1,b),_,aY.refl _ _,⟨by simp only;omega,q2,fun k z J D=>?_,U⟩,by simp only;omega,⟨rfl,rfl,rfl,rfl,kv (by simp only;rw[I];omega),Z,Y⟩,trivial⟩;by_cases e:k=(a+b) / 2
   ·subst e;rw[G]at D;injection D with D;subst D;exact c
   exact iA (c_ hs D G (by simp only at J;omega)) c
  have c:kT (Lt.name y) x=false:=by rw[<-hc];exact Ud c
  refine⟨(a,(a+b) / 2),_,aY.refl _ _,⟨by simp only;omega,by simp only;omega,N,fun k z J D=>?_⟩,by simp only;omega,⟨rfl,rfl,rfl,rfl,rfl,kv I,trivial⟩,trivial⟩;by_cases e:k=(a+b) / 2
  ·subst e;rw[G]at D;injection D with D;subst D;exact c
  rw[cr];intro dv;rw[iA (c_ hs G D (by simp only at J;omega)) dv]at c;cases c
 have e:a=b:=by omega
 subst e;have hb:=uF q2 N U;apply iW<;>intro c<;>try simp only[zB]at c
 ·obtain⟨y,G⟩:=a8 (l:=l) (i:=a) (by omega);refine⟨(jK y),(idx rfl G),_,_,(Bl y x),?_,trivial⟩;have hq:=cmp_eq y.name x;have O:tD Lt.name l x=decide (Lib.compareBytes y.name.data.toList x.data.toList=0):=by
   by_cases e:y.name=x
   ·rw[UF (hq.2 e)];exact gO.2 ⟨y,aj G,e⟩
   rw[Ud (fun h=>e (hq.1 h))];exact GU hs N G (U a y (aC _) G) e
  rw[hb,O];rfl
 refine⟨?_,trivial⟩;have O:tD Lt.name l x=false:=by
  rw[cr];intro O;obtain⟨z,D,Mr⟩:=gO.1 O;obtain⟨k,J⟩:=uU.1 D;have:=N k z (by have:=(cL.1 J).1;omega) J;rw[oU Mr]at this;cases this
 rw[hb,O];rfl
theorem x7(l:List Lt)(x:ByteArray)(hs:gL Lt.name l)(z:l.length<=1000000000):aT C 37 [.pv (.sl (l.map jK)),.pv (str x)] (.p (i64 (sR Lt.name l x))) []:=by
 refine fW hC Tryz.func37 rfl (by kernel_rfl) fun _=>?_;have hp:=x6 (x:=x) hs;refine⟨_,_,(zX l x hs z),iW ?_ ?_⟩<;>intro c<;>try simp only[zB]at c
 ·refine⟨?_,trivial⟩;rw[hp,af (by simp[c])];rfl
 refine⟨?_,trivial⟩;rw[hp,qH (by simpa using c)]
theorem GV{f:α->List PV}{n:Nat}{l:List α}(h:∀x,(f x).length=n):∀r∈l.map f,r.length=n:=fun r c=>by
 obtain⟨z,_,rfl⟩:=fh.1 c;exact h z
theorem JI(x y:UInt8):x<y\/x=y\/y<x:=by
 rcases gC x.toNat y.toNat with h | h | h
 ·exact .inl h
 ·exact .inr (.inl (UInt8.toNat_inj.1 h))
 exact .inr (.inr h)
theorem E8:∀a b:List UInt8,a<b\/a=b\/b<a
 | [],[]=>.inr (.inl rfl)
 | [],_::_=>.inl (by simp)
 | _::_,[]=>.inr (.inr (by simp))
 | x::a,y::b=>by
  rw[UE,UE,List.cons.injEq];rcases JI x y with h | h | h
  ·exact .inl (.inl h)
  ·subst h;rcases E8 a b with h | h | h
   ·exact .inl (.inr ⟨rfl,h⟩)
   ·exact .inr (.inl ⟨rfl,h⟩)
   exact .inr (.inr (.inr ⟨rfl,h⟩))
  exact .inr (.inr (.inl h))
theorem Bm(a b:ByteArray):kT a b=!(kT b a||decide (b=a)):=by
 rw[gU];simp only[j8,fQ,wg];constructor
 ·intro h;refine⟨?_,fun e=>by rw[e,db]at h;cases h⟩;rw[cr];intro c;have:=iA h c;rw[db]at this;cases this
 rintro⟨z,c⟩;rcases E8 a.data.toList b.data.toList with h | h | h
 ·exact kC.2 h
 ·exfalso;apply c;obtain⟨⟨x⟩⟩:=a;obtain⟨⟨y⟩⟩:=b;simpa using h.symm
 rw[kC.2 h]at z;cases z
theorem Ms{a b:ByteArray}(h:Op.bytesLess a.data.toList b.data.toList=true\/a=b):¬kT b a=true:=by
 rw[Bm,(show (kT a b||decide (a=b))=true by simpa [kT] using h)];decide
theorem JJ{a b:ByteArray}(h:Op.bytesLess a.data.toList b.data.toList=false/\¬a=b):kT b a=true:=by
 rw[Bm,(show (kT a b||decide (a=b))=false by simpa [kT] using h)];rfl
def mW{α:Type}(f:List α->α->Int):List α->List α->Int
 | _,[]=>0
 | p,a::l=>if f p a=0 then mW f (p++[a]) l else f p a
theorem E9{f:List α->α->Int}{l:List α}{i:Nat}{a:α}(h:l[i]?=some a):mW f (l.take i) (l.drop i)=if f (l.take i) a=0 then mW f (l.take (i+1)) (l.drop (i+1)) else f (l.take i) a:=by
 have c:i<l.length:=ah h;rw[aM c]at h;injection h with h;have z:l.drop i=a::l.drop (i+1):=by rw[<-h];exact wz c
 have D:l.take (i+1)=l.take i++[a]:=by rw[<-h];exact bT (aM c)
 rw[z,mW,D]
theorem oV{f:List α->α->Int}{l:List α}{i:Nat}{a:α}{c:Int}(h:l[i]?=some a)(z:mW f [] l=mW f (l.take i) (l.drop i))(e:f (l.take i) a=c)(D:c≠0):mW f [] l=c:=by
 rw[z,E9 h,af (by rw[e];exact D),e]
theorem lP{f:List α->α->Int}{l:List α}{i:Nat}{a:α}(h:l[i]?=some a)(c:mW f [] l=mW f (l.take i) (l.drop i))(e:f (l.take i) a=0):mW f [] l=mW f (l.take (i+1)) (l.drop (i+1)):=by
 rw[c,E9 h,qH e]
theorem wx{f:List α->α->Int}{l:List α}{i:Nat}(h:l.length<=i)(c:mW f [] l=mW f (l.take i) (l.drop i)):mW f [] l=0:=by
 rw[c,List.drop_of_length_le h];rfl
def uG(s t:gI):Bool:=decide (t.name=s.name)
def eK(p:List gI)(s:gI):Int:=if jh s.name=true then (if p.any (uG s)=true then 7 else if pK s.minutes 1 10000=true/\pK s.machines 1 20=true/\pK s.back (-1) p.length=true then 0 else 1) else 5
def cz(l:List gI):Int:=if l.length=0 then 9 else if 30<l.length then 2 else mW eK [] l
def fq(p:List Lt)(x:Lt):Int:=if jh x.name=true then (if pK x.panels 1 200=true/\pK x.at_ 0 1000000000=true then (match p.getLast? with | some y=>if kT y.name x.name=true then 0 else 8 | none=>0) else 1) else 5
def cA(l:List Lt):Int:=if 100<l.length then 2 else mW fq [] l
def CJ(f:Fl):List PV:=[str f.lot,i64 f.panel,i64 f.step,i64 f.visit]
def Ul(a b:Fl):Bool:=decide (b.lot=a.lot/\b.panel=a.panel/\b.step=a.step/\b.visit=a.visit)
def pQ(l:List Lt)(f:Fl):Bool:=l.any fun x=>decide (x.name=f.lot)&&pK f.panel 0 (x.panels-1)
def fX(s:List gI)(l:List Lt)(p:List Fl)(f:Fl):Int:=if pQ l f=true/\pK f.step 0 (s.length-1)=true then (if pK f.visit 1 6=true then (if p.any (Ul f)=true then 7 else 0) else 1) else 9
def de(s:List gI)(l:List Lt)(b:List Fl):Int:=if 2000<b.length then 2 else mW (fX s l) [] b
theorem JK(s t:gI):aT C 27 [.pv (.ag (gq t)),.pv (.ip (gq s))] (.p (bool (uG s t))) []:=by
 refine fW hC Tryz.func27 rfl (by kernel_rfl) fun _=>?_;refine⟨?_,trivial⟩;rfl
theorem zY(l:List gI)(hN:l.length<=1000000)(s:gI):aT C 53 [.pv (.sl (l.map gq)),.pv (.fn 27 [.ip (gq s)])] (.p (i64 (fV (uG s) l 0))) []:=by
 refine fW hC Tryz.func53 rfl (by kernel_rfl) fun _=>?_;have J:=cH l gq;refine d_ (fun i:Nat=>i<=l.length/\∀z∈l.take i,uG s z=false) (fun i=>[(0,.p (.sl (l.map gq))),(1,.p (.fn 27 [.ip (gq s)])),(7,.p (i64 (l.map gq).length)),(8,.p (i64 i))]) (fun _=>[]) (fun i=>l.length-i) 0 _ (aY.refl _ _) ⟨nI _,by simp⟩ ⟨Z,Z,Z,Z,Y⟩ trivial fun i D t h=>?_;apply iW<;>intro G<;>try simp only[zB]at G
 ·rw[J]at G;obtain⟨r,I⟩:=a8 (l:=l) (i:=i) (by omega);refine⟨(gq r),(idx rfl I),_,_,(JK s r),iW ?_ ?_⟩<;>intro c<;>try simp only[zB]at c
  ·refine⟨?_,trivial⟩;rw[uE I c D.2,ae]
  exact⟨wO (by omega),(i+1),_,aY.refl _ _,⟨by omega,GS I c D.2⟩,by omega,⟨Z,Z,Z,Z,Y⟩,trivial⟩
 rw[J]at G;refine⟨?_,trivial⟩;have c:=D.2;rw[vm (by omega)]at c;rw[lO c];rfl
theorem tE(l:List gI)(c:l.length<=1000000)(s:gI):aT C 26 [.pv (.sl (l.map gq)),.pv (.fn 27 [.ip (gq s)])] (.p (bool (l.any (uG s)))) []:=by
 refine fW hC Tryz.func26 rfl (by kernel_rfl) fun _=>?_;refine⟨_,_,(zY l c s),?_,trivial⟩;rw[<-sM _ l 0];rfl
theorem Ie{s:ByteArray}(h:s.size<4294967281):s.size<=9223372036854775807:=by omega
theorem ft(l:List gI)(hS:∀s∈l,s.name.size<4294967281)(hN:l.length<=140737488355328):aT C 8 [.pv (.sl (l.map gq))] (.p (i64 (cz l))) []:=by
 refine fW hC Tryz.func8 rfl (by kernel_rfl) fun _=>?_;have lm:=cH l gq;apply iW<;>intro g0<;>try simp only[zB]at g0
 ·refine⟨?_,trivial⟩;rw[cz,qH (by omega)];rfl
 apply iW<;>intro g1<;>try simp only[zB]at g1
 ·refine⟨?_,trivial⟩;rw[cz,af (by omega),qH (by omega)];rfl
 rw[cz,af (by omega),af (by omega)];refine d_ (fun i:Nat=>i<=l.length/\mW eK [] l=mW eK (l.take i) (l.drop i)) (fun i=>[(0,.p (.sl (l.map gq))),(11,.p (.sl (l.map gq))),(12,.p (i64 l.length)),(13,.p (i64 i))]) (fun _=>[]) (fun i=>l.length-i) 0 _ (aY.refl _ _) ⟨nI _,rfl⟩ ⟨rfl,rfl,iX (fun n:Nat=>AV.p (i64 n)) lm,Z,Y⟩ trivial fun i z t h=>?_;apply iW<;>intro h1<;>try simp only[zB]at h1
 ·obtain⟨s,hs⟩:=a8 (l:=l) (i:=i) (by omega);have lt:(l.take i).length=i:=by rw[dI];omega
  have bad:∀c:Int,eK (l.take i) s=c->c≠0->mW eK [] l=c:=fun c=>oV hs z.2;refine⟨(gq s),(idx rfl hs),_,_,(ir s.name (Ie (hS s (aj hs)))),iW ?_ ?_⟩<;>intro D<;>try simp only[zB]at D
  ·refine⟨?_,trivial⟩;rw[bad 5 (by rw[eK,af (by simp[D])]) (by decide)];rfl
  have G:jh s.name=true:=by simpa using D
  have et:(l.map gq).take i=(l.take i).map gq:=UG.symm;refine⟨⟨by omega,by omega,by omega,GV fun _=>rfl⟩,?_⟩;have N:=tE (l.take i) (by omega) s;rw[<-et]at N;refine⟨_,_,N,iW ?_ ?_⟩<;>intro I<;>try simp only[zB]at I
  ·refine⟨?_,trivial⟩;rw[bad 7 (by rw[eK,qH G,qH (by simpa using I)]) (by decide)];rfl
  have O:¬((l.take i).any (uG s)=true):=by simpa using I
  have J:¬(pK s.minutes 1 10000=true/\pK s.machines 1 20=true/\pK s.back (-1) i=true)->mW eK [] l=1:=fun h=>bad 1 (by rw[eK,qH G,af O,lt,af h]) (by decide);refine⟨_,_,(cI s.minutes 1 10000),iW ?_ ?_⟩<;>intro U<;>try simp only[zB]at U
  ·refine⟨?_,trivial⟩;rw[J (fun h=>by simp_all)];rfl
  refine⟨_,_,(cI s.machines 1 20),iW ?_ ?_⟩<;>intro V<;>try simp only[zB]at V
  ·refine⟨?_,trivial⟩;rw[J (fun h=>by simp_all)];rfl
  refine⟨_,_,(cI s.back (-1) i),iW ?_ ?_⟩<;>intro h6<;>try simp only[zB]at h6
  ·refine⟨?_,trivial⟩;rw[J (fun h=>by simp_all)];rfl
  exact⟨wO (by omega),(i+1),_,aY.refl _ _,⟨by omega,lP hs z.2 (by rw[eK,qH G,af O,lt,qH ⟨by simpa using U,by simpa using V,by simpa using h6⟩])⟩,by omega,⟨Z,Z,Z,Z,Y⟩,trivial⟩
 refine⟨?_,trivial⟩;rw[wx (by omega) z.2];rfl
theorem Bn{l:List α}{i:Nat}{y:α}(h0:0<i)(h:l[i-1]?=some y):(l.take i).getLast?=some y:=by
 have e:l.take i=l.take (i-1)++[y]:=by
  have:=bT h
  rwa [show i-1+1=i by omega]at this
 rw[e];simp
theorem gS(l:List Lt)(hS:∀s∈l,s.name.size<4294967281)(hN:l.length<=140737488355328):aT C 10 [.pv (.sl (l.map jK))] (.p (i64 (cA l))) []:=by
 refine fW hC Tryz.func10 rfl (by kernel_rfl) fun _=>?_;have lm:=cH l jK;apply iW<;>intro g1<;>try simp only[zB]at g1
 ·refine⟨?_,trivial⟩;rw[cA,qH (by omega)];rfl
 rw[cA,af (by omega)];refine d_ (fun i:Nat=>i<=l.length/\mW fq [] l=mW fq (l.take i) (l.drop i)) (fun i=>[(0,.p (.sl (l.map jK))),(8,.p (.sl (l.map jK))),(9,.p (i64 l.length)),(10,.p (i64 i))]) (fun _=>[]) (fun i=>l.length-i) 0 _ (aY.refl _ _) ⟨nI _,rfl⟩ ⟨rfl,rfl,iX (fun n:Nat=>AV.p (i64 n)) lm,Z,Y⟩ trivial fun i z t h=>?_;apply iW<;>intro h1<;>try simp only[zB]at h1
 ·obtain⟨s,hs⟩:=a8 (l:=l) (i:=i) (by omega);have bad:∀c:Int,fq (l.take i) s=c->c≠0->mW fq [] l=c:=fun c=>oV hs z.2;refine⟨(jK s),(idx rfl hs),_,_,(ir s.name (Ie (hS s (aj hs)))),iW ?_ ?_⟩<;>intro G<;>try simp only[zB]at G
  ·refine⟨?_,trivial⟩;rw[bad 5 (by rw[fq,af (by simp[G])]) (by decide)];rfl
  have D:jh s.name=true:=by simpa using G
  have N:¬(pK s.panels 1 200=true/\pK s.at_ 0 1000000000=true)->mW fq [] l=1:=fun h=>bad 1 (by rw[fq,qH D,af h]) (by decide);refine⟨_,_,(cI s.panels 1 200),iW ?_ ?_⟩<;>intro O<;>try simp only[zB]at O
  ·refine⟨?_,trivial⟩;rw[N (fun h=>by simp_all)];rfl
  refine⟨_,_,(cI s.at_ 0 1000000000),iW ?_ ?_⟩<;>intro U<;>try simp only[zB]at U
  ·refine⟨?_,trivial⟩;rw[N (fun h=>by simp_all)];rfl
  have I:pK s.panels 1 200=true/\pK s.at_ 0 1000000000=true:=⟨by simpa using O,by simpa using U⟩;apply iW<;>intro h6<;>try simp only[zB]at h6
  ·obtain⟨y,V⟩:=a8 (l:=l) (i:=i-1) (by omega);have hl:=Bn (by omega) V;refine⟨wO (by omega),(jK y),(idx (show (i:Int)-1=((i-1:Nat):Int) by omega) V),iW ?_ ?_⟩<;>intro J<;>try simp only[zB]at J
   ·refine⟨?_,trivial⟩;rw[bad 8 (by rw[fq,qH D,qH I,hl];exact af (Ms (by simpa using J))) (by decide)];rfl
   exact⟨wO (by omega),(i+1),_,aY.refl _ _,⟨by omega,lP hs z.2 (by rw[fq,qH D,qH I,hl];exact qH (JJ (by simpa using J)))⟩,by omega,⟨Z,Z,Z,Z,Y⟩,trivial⟩
  have h0:i=0:=by omega
  exact⟨wO (by omega),(i+1),_,aY.refl _ _,⟨by omega,lP hs z.2 (by rw[fq,qH D,qH I,h0];rfl)⟩,by omega,⟨Z,Z,Z,Z,Y⟩,trivial⟩
 refine⟨?_,trivial⟩;rw[wx (by omega) z.2];rfl
end M
end Go.Proofs.YtedjhhieekileaaGreatDoor
namespace Go.AM
open Go.RowKit
variable {k:Nat}
theorem wA{α:Type}:∀{L:List (List α)} {a:Nat} {r:List α} {j:Nat} {v:α},(∀r∈L,r.length=k)->L[a]?=some r->r[j]?=some v->L.flatten[a*k+j]?=some v:=by
 intro L
 induction L with
 | nil=>intro a r j v _ h;simp at h
 | cons x L ih=>
  intro a r j v D c z;have hx:=D x (by simp);cases a with
  | zero=>
   simp at c;subst c;rw[mC,Nat.zero_mul,ae,ba (ah z)];exact z
  | succ a=>
   rw[mC,lV,bd (by omega)];have:=ih (a:=a) (r:=r) (j:=j) (v:=v) (fun r G=>D r (by simp[G])) (by simpa using c) z;rw[<-this];congr 1;omega
theorem lQ{α:Type}:∀{L:List (List α)},(∀r∈L,r.length=k)->L.flatten.length=L.length*k:=by
 intro L
 induction L with
 | nil=>intro _;simp
 | cons x L ih=>
  intro c;rw[mC,fj,ih fun r z=>c r (by simp[z]),c x (by simp),bw,lV];omega
def bG(L:List (List Value)):List (List PV):=L.map fun r=>r.map PV.im
variable {L:List (List Value)}
theorem CL{P:Program}{S:Nat->Prop}{w:World}(c:∀r∈L,r.length=k){xs:List Value}(hl:xs.length=L.length*k)(h:∀(a:Nat) r (j:Nat) x,(bG L)[a]?=some r->r[j]?=some x->∃u,xs[a*k+j]?=some u/\ay S w x u):xs=L.flatten:=by
 have Ko:=lQ c;apply lW;intro q;by_cases z:q<L.length*k
 ·have D:0<k:=Nat.pos_of_ne_zero fun e=>by rw[e]at z;simp at z
  have G:q / k<L.length:=(Nat.div_lt_iff_lt_mul D).2 z;have hj:q % k<k:=di _ D;have I:L[q / k]?=some L[q / k]:=aM G;have nP:=c _ (Al G);have J:L[q / k][q % k]?=some (L[q / k][q % k]'(by omega)):=aM _;have e:q / k*k+q % k=q:=by rw[Nat.mul_comm];exact Nat.div_add_mod q k
  obtain⟨u,N,U⟩:=h (q / k) _ (q % k) _ (by unfold bG;rw[ao,I];rfl) (by rw[ao,J];rfl);rw[e]at N;have O:=wA c I J;rw[e]at O;rw[N,O,U.bc]
 rw[dy (by omega),dy (by omega)]
theorem CM{S:Nat->Prop}{w:World}(D:∀r∈L,r.length=k):∀(a:Nat) r (j:Nat) x,(bG L)[a]?=some r->r[j]?=some x->∃u,L.flatten[a*k+j]?=some u/\ay S w x u:=by
 intro a r j x c z;unfold bG at c;rw[ao]at c;obtain⟨r0,G,rfl⟩:=az.1 c;rw[ao]at z;obtain⟨v,I,rfl⟩:=az.1 z;exact⟨v,wA D G I,.im v⟩
theorem GW(c:∀r∈L,r.length=k):∀r∈bG L,r.length=k:=by
 intro r z;obtain⟨D,h,rfl⟩:=fh.1 z;rw[ct,c D h]
def tF(w:World)(g n:Nat)(F:Array Value)(os:Array Obj):World:=Sort.grow (Sort.putRow id (Sort.ahead w n) g 0 F) os
theorem zZ(w:World)(g n:Nat)(F:Array Value)(os:Array Obj):(tF w g n F os).os=w.os/\(tF w g n F os).tape=w.tape/\(tF w g n F os).output=w.output/\w.heap.size<=(tF w g n F os).heap.size/\∀k,k<w.heap.size->(tF w g n F os).heap[k]?=if k=g then (w.heap[k]?).map (Sort.onCells (Sort.putCells id 0 F)) else w.heap[k]?:=by
 refine⟨rfl,rfl,rfl,?_,fun k c=>?_⟩
 ·simp[tF,Sort.grow,Sort.putRow,Sort.mapBlock,Sort.ahead]
 simp only[tF,Sort.grow,Sort.putRow,Sort.mapBlock,Sort.ahead];rw[vp (by simpa using c),qR];by_cases e:g=k
 ·rw[qH e,qH e.symm]
 rw[af e,af fun h=>e h.symm]
theorem wB(F c:Array Value)(h:F.size<=c.size):(Sort.putCells id 0 F c).size=c.size/\(Sort.putCells id 0 F c).toList.take F.size=F.toList:=by
 refine⟨by simp[Sort.putCells],?_⟩;apply lW;intro j;rw[cB];split
 ·rename_i z;rw[uZ,uZ];simp only[Sort.putCells,Array.getElem?_mapIdx];rw[bE (by omega:j<c.size),bE z,cW,qH ⟨nI _,by omega⟩,Nat.sub_zero,getElem!_pos F j z];rfl
 rename_i z;rw[dy (by simpa using z)]
theorem CN{w w':World}{e:TypeId}{es G:List (List PV)}{c:Value}{zs:List Value}(hs:w.heap.size<=w'.heap.size)(h:∀g,bH c=some g->g<w.heap.size/\Mv w (.row e es::zs.map fun a=>.pv (.im a)) (#[c]++zs.toArray) g):T4 w w' (.row e es::zs.map fun a=>.pv (.im a)) [.row G] (#[c]++zs.toArray):=by
 have D:∀i g,cq w' (.row e es::zs.map fun a=>.pv (.im a)) [.row G] (#[c]++zs.toArray).toList i g->i=0/\bH c=some g:=fun i g z=>by
  simp only[vo]at z;cases i with
  | zero=>exact⟨rfl,al rfl z.2⟩
  | succ i=>exact (rk zs i g z).elim
 exact⟨fun i g z=>by obtain⟨I,J⟩:=h g (D i g z).2;exact⟨bg I hs,.inr J⟩,fun i j g N O=>by rw[(D i g N).1,(D j g O).1]⟩
theorem z6{C:Ctx}(hC:aL C){f:FuncId}(e:TypeId)(V:TI)(hT:C.T e=some V)(FZ:0<V.size)(zs:List Value)(L L':List (List Value))(hL:∀r∈L,r.length=V.size)(Z:∀r∈L',r.length=V.size)(hlen:L'.length=L.length)
  (h1:∀r∈L',∀v∈r,v.oneCell'=true) (hf:vX C f)
  (Y:L=[]->∀w,Calls C.P f (#[.slice none 0 0]++zs.toArray) w fun e' w'=>e'=.returned (.tuple #[])/\w'=w)
  (h:∀S w bH D,C.E S w->bH<w.heap.size->L.length<=D->(∀j v,L.flatten[j]?=some v->w.cell? ⟨bH,j,none⟩=some v/\w.frozen? ⟨bH,j,none⟩=false)->
   Calls C.P f (#[.slice (some ⟨bH,0,none⟩) L.length D]++zs.toArray) w fun e' w'=>e'=.returned (.tuple #[])/\∃n os,w'=tF w bH n L'.flatten.toArray os):
  aT C f (.row e (bG L)::zs.map fun a=>.pv (.im a)) (.tu []) [.row (bG L')]:=by
 refine⟨hf,fun S w vs hE hS hl hr _=>?_⟩;obtain⟨c,vr,rfl⟩:∃c vr,vs=#[c]++vr:=by
  obtain⟨l⟩:=vs;cases l with
  | nil=>simp at hl
  | cons c l=>exact⟨c,⟨l⟩,by simp⟩
 have IS:vr=zs.toArray:=Xf (S:=S) (w:=w) (P:=C.P) (by simp at hl ⊢;omega) fun j x v hx hv=>hr (j+1) x v (by simpa using hx) (by rw[l9 (by simp)];simpa using hv);subst IS;have ai:an C.P w (ay S w) e (bG L) c/\∀g,bH c=some g->¬S g:=hr 0 _ c rfl (by simp);obtain⟨⟨i,xs,hi,I,hown,SI,ga,J⟩,Qx⟩:=ai;obtain⟨info,z,g1,O,_⟩:=hC.eL e V hT;rw[hi]at g1;injection g1 with g1;subst g1;have N:(bG L).length=L.length:=ct ..;have GX:(bG L').length=L.length:=by rw[<-hlen];exact ct ..
 have hx:xs=L.flatten:=CL (P:=C.P) (k:=i.size) (by rw[O];exact hL) (by rw[<-N];exact hown.1) J;have Ln:∀g,bH c=some g->Mv w (.row e (bG L)::zs.map fun a=>.pv (.im a)) (#[c]++zs.toArray) g:=fun g hg=>⟨0,_,c,rfl,by simp,rfl,.inl hg⟩;have tail:∀w':World,jk S w' C.P (.row e (bG L)) (.row (bG L')) c->eV S w' C.P (.row e (bG L)::zs.map fun a=>.pv (.im a)) [.row (bG L')] (#[c]++zs.toArray).toList:=fun w' C4=>by
  simp only[vo];exact⟨C4,vY zs⟩
 have Qy:∀w':World,w.heap.size<=w'.heap.size->T4 w w' (.row e (bG L)::zs.map fun a=>.pv (.im a)) [.row (bG L')] (#[c]++zs.toArray):=fun w' hs=>CN hs (fun g hg=>⟨(hown.lt g (by rw[cm (bP hown).choose_spec.choose_spec];exact hg)).2,Ln g hg⟩);rcases hown.2 with⟨q1,q2⟩ | ⟨g,D,G,q1,q2,q3,q4,q5,q6,q7⟩
 ·have Ea:L=[]:=gw (by rw[<-N];exact q2);subst q1;refine (Y Ea w).mono fun e' w' ⟨he,hw⟩=>?_;subst hw;refine⟨.tuple #[],S,he,Fr.refl _ _,fun _ h=>h,hS,fun b hb=>.inl hb,⟨#[],rfl,rfl,by simp⟩,tail _ ⟨?_,Qx⟩,Qy _ (aC _),fun g h=>by cases h⟩;have Po:L'=[]:=gw (by rw[hlen,Ea];rfl);subst Po;exact⟨i,[],hi,I,World.ownsRow_nil _ _ _ _,by simp[bG],by simp,by simp[bG]⟩
 subst q1;have Mt:g<w.heap.size:=(vn.1 q3).1;have R7:L'.flatten.toArray.size=L.length*i.size:=by rw[Tk,lQ Z,hlen,O]
 have WI:L.length*i.size<=G.size:=by rw[q6];exact bZ _ (by rw[<-N];exact q4)
 have hh:=h S w g D hE Mt (by rw[<-N];exact q4) fun j v U=>by
  have kX:j<L.length*i.size:=by have:=ah U;rw[lQ hL]at this;rw[O];exact this
  have:G[j]?=some v:=by
   rw[<-hx,<-q7]at U;rw[cB]at U;split at U
   ·simpa using U
   cases U
  exact⟨by rw[cell_of_row w g j G e (0,0) q3];exact this,by simp[World.frozen?,q3]⟩
 rw[<-N]at hh;refine hh.mono fun e' w' ⟨he,n,os,hw⟩=>?_;subst hw;obtain⟨p1,p2,p3,p4,p5⟩:=zZ w g n L'.flatten.toArray os;obtain⟨c1,c2⟩:=wB L'.flatten.toArray G (by omega);have eY:(tF w g n L'.flatten.toArray os).heap[g]?=some (.cells (Sort.putCells id 0 L'.flatten.toArray G) e (0,0)):=by rw[p5 g Mt,qH rfl,q3];rfl
 refine⟨.tuple #[],S,he,⟨p1,p2,p3,p4,fun k hk hn=>?_⟩,fun _ h=>h,fun b hb=>bg (hS b hb) p4,fun b hb=>.inl hb,⟨#[],rfl,rfl,by simp⟩,tail _ ⟨?_,Qx⟩,Qy _ p4,fun g h=>by cases h⟩
 ·rw[p5 k hk,af];intro e;subst e;exact hn (Ln k rfl)
 refine⟨i,L'.flatten,hi,I,⟨by rw[GX,<-hlen,O];exact lQ Z,.inr ⟨g,D,_,by rw[GX,N],nI _,eY,by rw[GX,<-N];exact q4,q5,by rw[c1];exact q6,?_⟩⟩,by rw[O];exact GW Z,fun u hu=>?_,CM (by rw[O];exact Z)⟩
 ·rw[GX,<-R7];exact c2
 obtain⟨r,FA,jb⟩:=List.mem_flatten.1 hu;exact h1 r FA u jb
end Go.AM
namespace Go.AM
open Go.RowKit
end Go.AM
namespace Go.AM
open Go.RowKit Go.ChangeShapes
section
variable {H:Type} {enc:TypeId×Value->H} {P:Program} {w:World} {S:Nat->Prop}
def FI(enc:TypeId×Value->H)(P:Program)(w:World)(S:Nat->Prop)(t:TypeId)(k:Nat)(Q:List PV->DataW H->Prop):Prop:=
 ∀n cs x,DataW.trod enc P w 0 (fun _=>true) true n t cs=some x->∃xs,xs.length=k/\cs.length=k/\(∀(i:Nat) c v,xs[i]?=some c->cs[i]?=some v->ay S w c v/\v.oneCell'=true)/\Q xs x.1
theorem one_cell{c:PV}{u:Value}(h:ay S w c u/\u.oneCell'=true):∀(i:Nat) G v,[c][i]?=some G->[u][i]?=some v->ay S w G v/\v.oneCell'=true:=fun i G v z D=>by
 match i,z,D with
 | 0,z,D=>cases z;cases D;exact h
 | n+1,z,D=>cases z
theorem GY{t:TypeId}(c:P.underlying t=some (.int .i64)):FI enc P w S t 1 fun xs d=>∃n:Int,xs=[.im (.int .i64 n)]/\d=.lit (.int .i64 n):=fun n cs x h=>by
 obtain⟨z,rfl,rfl,_⟩:=DataW.trod_int c h;exact⟨[.im (.int .i64 z)],rfl,rfl,one_cell ⟨.im _,rfl⟩,z,rfl,rfl⟩
theorem GZ{t:TypeId}(c:P.underlying t=some .string):FI enc P w S t 1 fun xs d=>∃s:ByteArray,xs=[.im (.string s)]/\d=.lit (.string s.data.toList):=fun n cs x h=>by
 obtain⟨s,rfl,rfl,_⟩:=DataW.trod_string c h;exact⟨[.im (.string s)],rfl,rfl,one_cell ⟨.im _,rfl⟩,s,rfl,rfl⟩
theorem G2{a:Addr}{v:Value}(h:w.cell? a=some v):a.spot=none/\a.block<w.heap.size:=by
 unfold World.cell? at h;split at h
 ·rename_i c _ _ z;refine⟨?_,?_⟩
  ·cases hs:a.spot with
   | none=>rfl
   | some s=>rw[hs]at h;cases h
  rcases Nat.lt_or_ge a.block w.heap.size with h' | h'
  ·exact h'
  rw[UH h']at z;cases z
 cases h
theorem CO{t e:TypeId}{k:Nat}{Q:List PV->DataW H->Prop}(ht:P.underlying t=some (.slice e))(hc:P.cellsOf e=k)(hk:0<k)(hS:∀b,b<w.heap.size->S b)(he:FI enc P w S e k Q):
  FI enc P w S t 1 fun xs d=>∃(es:List (List PV)) (ds sp:List (DataW H)),xs=[.sl es]/\es.length=ds.length/\(d=.nil/\ds=[]\/d=.slice ds sp)/\∀(i:Nat) x y,es[i]?=some x->ds[i]?=some y->Q x y:=fun n cs x h=>by
 rcases Go.Deep.open_slice ht h with⟨rfl,rfl⟩ | ⟨a,len,cap,m,n,D,Pl,rfl,hb,hl,hm,BR,rfl,hx⟩
 ·exact⟨[.sl []],rfl,rfl,one_cell ⟨.nil _ _,rfl⟩,[],[],[],rfl,rfl,.inl ⟨rfl,rfl⟩,fun i x y h=>by cases h⟩
 have PX:len<=m:=by rw[BR];split<;>omega
 rcases Nat.eq_zero_or_pos len with h0 | Y
 ·subst h0;exact⟨[.sl []],rfl,rfl,one_cell ⟨.nil _ _,rfl⟩,[],[],_,rfl,rfl,.inr rfl,fun i x y h=>by cases h⟩
 rw[hc]at hx;have Z:∀i,i<len->∃p:List PV×List Value,p.1.length=k/\p.2.length=k/\(∀j,j<k->w.cell? ((a.add (i*k)).add j)=p.2[j]?)/\(∀(j:Nat) c v,p.1[j]?=some c->p.2[j]?=some v->ay S w c v/\v.oneCell'=true)/\Q p.1 (D i):=fun i G=>by
  obtain⟨dB,J,z⟩:=hx i (by omega);obtain⟨_,hlen,U⟩:=World.cells?_some J;obtain⟨xs,l1,l2,l3,l4⟩:=he _ _ _ z;exact⟨(xs,dB),l1,l2,U,l3,l4⟩
 obtain⟨F,N⟩:=Go.Deep.choose_lt (α:=List PV×List Value) Z;have get:∀(i:Nat) e,((List.range len).map fun i=>(F i).1)[i]?=some e->i<len/\e=(F i).1:=fun i e h=>by
  rw[ao,az]at h;obtain⟨j,O,rfl⟩:=h;obtain⟨J,z⟩:=cL.1 O;rw[TM]at z;subst z;exact⟨by simpa using J,rfl⟩
 have I:∀i j,i<len->j<k->w.cell? ((a.add (i*k)).add j)=some (((F i).2[j]?).getD .nilIface):=fun i j G O=>by
  obtain⟨_,l2,h3,_⟩:=N i G;rw[h3 j O,aM (by omega)];rfl
 have hz:=G2 (I 0 0 Y hk);obtain⟨b,V,spot⟩:=a;have BC:spot=none:=by simpa [Addr.add] using hz.1
 subst BC;have Pp:b<w.heap.size:=by simpa [Addr.add] using hz.2
 have ai:∀i j,((⟨b,V,none⟩:Addr).add (i*k)).add j=⟨b,V+i*k+j,none⟩:=fun i j=>by
  unfold Addr.add;by_cases J:i*k=0
  ·rw[qH J,J];by_cases z:j=0
   ·rw[qH z,z];rfl
   rw[af z];rfl
  rw[af J];by_cases z:j=0
  ·rw[qH z,z];rfl
  rw[af z]
 refine⟨[.sl ((List.range len).map fun i=>(F i).1)],rfl,rfl,one_cell ⟨?_,rfl⟩,(List.range len).map fun i=>(F i).1,(List.range len).map D,_,rfl,by simp,.inr rfl,fun i x y J z=>?_⟩
 ·have hlen:((List.range len).map fun i=>(F i).1).length=len:=by simp
  have:=ay.sl (S:=S) (w:=w) ((List.range len).map fun i=>(F i).1) k b V cap (fun i j=>((F i).2[j]?).getD .nilIface) (by rw[hlen];exact hl) (hS b Pp)
   (fun e Ox=>by obtain⟨i,G,rfl⟩:=fh.1 Ox;exact (N i (dT.1 G)).1)
   (fun i e j x J z=>by
    obtain⟨G,rfl⟩:=get i e J;have O:j<k:=by rw[<-(N i G).1];exact (cL.1 z).1
    have hv:(F i).2[j]?=some (((F i).2[j]?).getD .nilIface):=by rw[aM (by rw[(N i G).2.1];exact O)];rfl
    exact⟨by rw[<-ai];exact I i j G O,((N i G).2.2.2.1 j x _ z hv).2⟩)
   (fun i e j x J z=>by
    obtain⟨G,rfl⟩:=get i e J;have O:j<k:=by rw[<-(N i G).1];exact (cL.1 z).1
    have hv:(F i).2[j]?=some (((F i).2[j]?).getD .nilIface):=by rw[aM (by rw[(N i G).2.1];exact O)];rfl
    exact ((N i G).2.2.2.1 j x _ z hv).1)
  rw[hlen]at this;exact this
 obtain⟨G,rfl⟩:=get i x J;rw[ao,fG G]at z;cases z;exact (N i G).2.2.2.2
instance:Inhabited PV:=⟨.sl []⟩
theorem nD{t:TypeId}{z:Array Field}(ht:P.underlying t=some (.struct z))(ga:∀(i:Nat) (f:Field),z[i]?=some f->f.offset=i/\P.cellsOf f.type=1)(hc:P.cellsOf t=z.size)(Qs:Nat->List PV->DataW H->Prop)
  (hf:∀(i:Nat) (f:Field),z[i]?=some f->FI enc P w S f.type 1 (Qs i)):
  FI enc P w S t z.size fun xs d=>∃ds:List (DataW H),d=.agg ds/\ds.length=z.size/\∀(i:Nat) x y,xs[i]?=some x->ds[i]?=some y->Qs i [x] y:=fun n cs x h=>by
 obtain⟨ys,m,_,rfl,hl,hlen,hy⟩:=DataW.trod_struct ht h;rw[hc]at hl;have I:∀i,i<z.size->∃c:PV,∃y v,ys[i]?=some y/\cs[i]?=some v/\ay S w c v/\v.oneCell'=true/\Qs i [c] y.1:=fun i G=>by
  have N:z[i]?=some z[i]:=bE G;obtain⟨ho,D⟩:=ga i _ N;have O:=hy i _ N;rw[ho,D]at O;have V:ys[i]?=some ys[i]:=aM (by omega);rw[V]at O;obtain⟨xs,l1,l2,U,l4⟩:=hf i _ N _ _ _ O;have WI:cs[i]?=some cs[i]:=aM (by omega);have hd:(cs.drop i).take 1=[cs[i]]:=by
   rw[wz (by omega)];rfl
  rw[hd]at U;obtain⟨c,rfl⟩:∃c,xs=[c]:=by
   match xs,l1 with
   | [c],_=>exact⟨c,rfl⟩
  exact⟨c,ys[i],cs[i],V,WI,(U 0 _ _ rfl rfl).1,(U 0 _ _ rfl rfl).2,l4⟩
 obtain⟨F,Y⟩:=Go.Deep.choose_lt (α:=PV) I;refine⟨(List.range z.size).map F,by simp,hl,fun i c v D J=>?_,ys.map (·.1),rfl,by rw[ct,hlen],fun i x y D J=>?_⟩
 ·have G:i<z.size:=by have:=(cL.1 D).1;simpa using this
  rw[ao,fG G]at D;cases D;obtain⟨y,v',_,Z,e3,e4,_⟩:=Y i G;rw[J]at Z;cases Z;exact⟨e3,e4⟩
 have G:i<z.size:=by have:=(cL.1 D).1;simpa using this
 rw[ao,fG G]at D;cases D;obtain⟨y',v',e1,_,_,_,e5⟩:=Y i G;rw[ao,e1]at J;cases J;exact e5
theorem pR{t e:TypeId}{Q:List PV->DataW H->Prop}{r:Reach}{z:Nat}(D:P.underlying t=some (.slice e))(G:FI enc P w S t 1 Q){v:Value}{d:DataW H}{ps:List MemPlace}(I:Value.okWide P w r z t v)(h:DataW.Trod enc P w 0 (fun _=>true) true t v d ps):
  ∃c,ay S w c v/\Q [c] d:=by
 obtain⟨a,l,c,rfl⟩:=Go.WideShapes.okWide_slice D I;obtain⟨n,J⟩:=h;obtain⟨xs,N,l2,O,U⟩:=G _ _ _ J;obtain⟨x,rfl⟩:∃x,xs=[x]:=by
  match xs,N with
  | [x],_=>exact⟨x,rfl⟩
 exact⟨x,(O 0 x _ rfl rfl).1,U⟩
theorem Mu(w:World)(xs:List PV)(vs:Array Value)(g:Nat):¬Mv w (xs.map Arg.pv) vs g:=by
 rintro⟨j,y,v,c,_,z,_⟩;rw[ao,az]at c;obtain⟨x,_,rfl⟩:=c;cases z
def G3(S:Nat->Prop)(w:World)(xs:List PV)(vs:List Value):Prop:=xs.length=vs.length/\∀(j:Nat) x v,xs[j]?=some x->vs[j]?=some v->ay S w x v
theorem E_:G3 S w [] []:=⟨rfl,fun j x v h=>by cases h⟩
theorem pS{x:PV}{v:Value}{xs:List PV}{vs:List Value}(h:ay S w x v)(D:G3 S w xs vs):G3 S w (x::xs) (v::vs):=⟨by rw[bw,bw,D.1],fun j G I c z=>by
 match j,c,z with
 | 0,c,z=>cases c;cases z;exact h
 | j+1,c,z=>exact D.2 j G I c z⟩
theorem JL{C:Ctx}{f:FuncId}{xs:List PV}{y:Value}(h:aT C f (xs.map Arg.pv) (.p (.im y)) []){vs:Array Value}(I:C.E (fun b=>b<w.heap.size) w)(G:G3 (fun b=>b<w.heap.size) w xs vs.toList):
  Calls C.P f vs w fun e w'=>e=.returned y/\Below w.heap.size w w':=by
 refine (h.2 (fun b=>b<w.heap.size) w vs I (fun _ h=>h) (by rw[ct,G.1];simp) (fun j x v c J=>?_) (fun i j x y v u g c _ _ _ N=>?_)).mono ?_
 ·rw[ao,az]at c;obtain⟨x,O,rfl⟩:=c;exact G.2 j x v O (by rw[uZ];exact J)
 ·rw[ao,az]at c;obtain⟨x,_,rfl⟩:=c;cases N
 rintro e w' ⟨v,S',rfl,z,_,_,_,D,_⟩;have D:ay S' w' (.im y) v:=D;cases D;exact⟨rfl,z.os,z.tape,z.output,z.size,fun k U=>z.block k U (Mu _ _ _ _)⟩
end
end Go.AM
namespace Go.Proofs.YtedjhhieekileaaGreatDoor
open Go.ChangeShapes Go.WideShapes Go.ChangeAt Go.RowKit
section
variable {H:Type} {enc:TypeId×Value->H} {P:Program}
theorem tG{f:Func}{s:ChangeSpec}{c O z U:Bool}{W Y:World}{args:Array Value}{v:Value}{ds gs:List (DataW H)}{before pa pv:List MemPlace}
  (hW:DataW.Whole enc P f.params.toList s.vars c W args.toList ds gs before)
  (J:∀(b:Nat) (V:Nat->Bool) (hd:Bool),DataW.TrodAll enc P Y b V hd f.resultTypes.toList (v.resultList f.resultTypes.size) (s.fn H (ds++gs)).results [])
  (D:∀V:Nat->Bool,(∀p∈before,V p.block=true)->DataW.TrodAll enc P Y 0 V true f.params.toList args.toList (s.fn H (ds++gs)).args pa)
  (G:∀V:Nat->Bool,(∀p∈before,V p.block=true)->DataW.TrodVars enc P Y V s.vars (s.fn H (ds++gs)).vars pv)
  (I:before=pa++pv) (hb:Below W.heap.size W Y)
  (hok:∀(j:Nat) (t:TypeId) (r:Value),f.resultTypes[j]?=some t->(v.resultList f.resultTypes.size)[j]?=some r->Value.okWide P Y .any 0 t r):
  s.post enc P f c O z U W args v Y:=by
 have dv:∀p∈before,p.block<W.heap.size:=fun p hp=>hW.lt p hp;have N:∀p∈before,(fun b=>decide (b<W.heap.size)) p.block=true:=fun p hp=>by simpa using dv p hp
 refine⟨ds,gs,before,[],pa,pv,hW,J _ _ _,D _ N,G _ N,World.keptBut_mono (fun p hp=>⟨hp,?_⟩) (hb.frame (·∈before)),fun _=>?_⟩
 ·rw[I,cD]at hp;exact Or.inr hp
 obtain⟨_,_,_,_,_,hz,hn⟩:=hW;refine⟨hok,_,_,([]++pa)++pv,⟨[]++pa,pv,trodAll_append (D _ (fun _ _=>rfl)) (J _ _ _),G _ (fun _ _=>rfl),rfl,?_,?_⟩,?_⟩
 ·intro b Z hp;have iR:MemPlace.cell b Z∈before:=by rw[I];simpa using hp
  rw[hb.frozen (dv _ iR)];exact hz b Z iR
 ·intro ha;have:=hn ha;rw[I]at this;simpa using this
 intro p hp _;rw[I];simpa using hp
theorem qG{C:Checked}{os:Os}{f:FuncId}{fn:Func}{s:OpenSpec}{c:List PathCond}{z:Bool}{laid:List (String×DataW Unit)}(w0:World)(args:Array Value)(I:w0.os=os)
  (G:(w0.forCall (fun _ _=>0) ⟨#[],args,[]⟩).Shaped C.prog)
  (D:Input.okWideB C.prog (w0.forCall (fun _ _=>0) ⟨#[],args,[]⟩) f ⟨#[],args,[]⟩=true)
  (ai:s.preRow enc C.prog fn c z laid (w0.forCall (fun _ _=>0) ⟨#[],args,[]⟩).memory args):
  ∃(w:World) (tape:Tape) (i:Input),w.os=os/\(w.forCall tape i).Shaped C.prog/\i.vars=[]/\Input.okWide C.prog (w.forCall tape i) .any w.heap.size f i /\
   s.preRow enc C.prog fn c z laid (w.forCall tape i).memory i.args/\({}:Assume).holds C.prog (lone (Frame.enter C.prog f i.args .normal) [] (w.forCall tape i)):=
 ⟨w0,fun _ _=>0,⟨#[],args,[]⟩,I,G,(Input.okWide_of_okWideB (base:=0) D).1,(Input.okWide_of_okWideB D).2,ai,by
  simp only[Assume.holds];exact⟨by simp,by simp,fun _=>Modest.zero,by simp,by simp⟩⟩
end
theorem own:ownKnob Tryz.prog.godebug=none:=by kernel_rfl
variable {H:Type}
theorem Fa(d:DataW H):1<=Rows.uptoBulk d:=by
 cases d with
 | lit l=>cases l<;>simp[Rows.uptoBulk]
 | nil=>simp[Rows.uptoBulk]
 | ptr d=>simp[Rows.uptoBulk]
 | slice elems spare=>simp[Rows.uptoBulk]
 | agg parts=>simp[Rows.uptoBulk]
 | iface t d=>simp[Rows.uptoBulk]
 | map entries=>simp[Rows.uptoBulk]
 | held h=>simp[Rows.uptoBulk]
theorem uH{d:DataW H}{l:List (DataW H)}(h:d∈l):Rows.uptoBulk d<=Rows.uptoBulkAll l:=by
 induction l with
 | nil=>cases h
 | cons x r ih=>
  simp only[Rows.uptoBulkAll];cases fL.1 h with
  | inl e=>subst e;omega
  | inr e=>have:=ih e;omega
theorem x8{H:Type}(bytes:List UInt8):Rows.uptoBulk (DataW.lit (H:=H) (.string bytes))=bytes.length+1:=by
 simp[Rows.uptoBulk]
theorem z7{l:List (DataW H)}(c:Rows.uptoSmall H l=true):Rows.uptoBulkAll l<=1048576:=il c
end Go.Proofs.YtedjhhieekileaaGreatDoor
namespace Go.Proofs.YtedjhhieekileaaGreatDoor
namespace M
open Go.AM Go.RowKit Go.Lib
variable {H:Type} {enc:TypeId×Value->H} {w:World} {S:Nat->Prop}
theorem Mw:FI enc Tryz.prog w S 3 1 fun xs d=>∃n:Int,xs=[i64 n]/\d=.lit (.int .i64 n):=GY km
theorem Mx:FI enc Tryz.prog w S 9 1 fun xs d=>∃s:ByteArray,xs=[str s]/\d=.lit (.string s.data.toList):=GZ oE
abbrev Sp(enc:TypeId×Value->H)(w:World)(S:Nat->Prop)(t:TypeId)(k:Nat){γ:Type}(f:γ->List PV)(B:γ->Nat->Prop):Prop:=FI enc Tryz.prog w S t k fun xs d=>∃r,xs=f r/\B r (Rows.uptoBulk d)
theorem x9:Sp enc w S 3 1 (fun n=>[i64 n]) fun _ _=>True:=fun n cs x h=>by
 obtain⟨xs,c,D,G,z,e,_⟩:=Mw (S:=S) n cs x h;exact⟨xs,c,D,G,z,e,trivial⟩
theorem JM:Sp enc w S 9 1 (fun s=>[str s]) fun s n=>s.size<=n:=fun n cs x h=>by
 obtain⟨xs,c,D,G,z,e,d⟩:=Mx (S:=S) n cs x h;refine⟨xs,c,D,G,z,e,?_⟩;rw[d,x8];have:z.data.toList.length=z.size:=by simp
 omega
theorem Bo{α γ:Type}{f:γ->α}{B:γ->Nat->Prop}(c:∀r m n,m<=n->B r m->B r n):∀{es:List α} {ds:List (DataW H)},es.length=ds.length->(∀(i:Nat) x y,es[i]?=some x->ds[i]?=some y->∃r,x=f r/\B r (Rows.uptoBulk y))->∃l:List γ,es=l.map f/\l.length<=Rows.uptoBulkAll ds/\∀r∈l,B r (Rows.uptoBulkAll ds)
 | [],_,_,_=>⟨[],rfl,nI _,fun r h=>by cases h⟩
 | x::es,[],hl,_=>by cases hl
 | x::es,y::ds,hl,h=>by
  obtain⟨r,rfl,G⟩:=h 0 x y rfl rfl;obtain⟨l,rfl,D,z⟩:=Bo c (es:=es) (ds:=ds) (by simpa using hl) (fun i a b D z=>h (i+1) a b (by simpa using D) (by simpa using z));have e:Rows.uptoBulkAll (y::ds)=Rows.uptoBulk y+Rows.uptoBulkAll ds:=by simp only[Rows.uptoBulkAll]
  have b1:=Fa y;refine⟨r::l,rfl,by rw[bw];omega,fun q I=>?_⟩;rcases fL.1 I with h | h
  ·subst h;exact c _ _ _ (by omega) G
  exact c _ _ _ (by omega) (z q h)
theorem sU{t e:TypeId}{k:Nat}{γ:Type}{f:γ->List PV}{B:γ->Nat->Prop}(D:Tryz.prog.underlying t=some (.slice e))(G:Tryz.prog.cellsOf e=k)(I:0<k)(hS:∀b,b<w.heap.size->S b)(c:∀r m n,m<=n->B r m->B r n)(J:Sp enc w S e k f B):
  Sp enc w S t 1 (fun l:List γ=>[.sl (l.map f)]) fun l n=>l.length<=n/\∀r∈l,B r n:=fun n cs x h=>by
 obtain⟨xs,N,O,U,es,ds,sp,rfl,hl,V,q⟩:=CO D G I hS J _ _ _ h;obtain⟨l,rfl,b1,Y⟩:=Bo c hl q;have hb:Rows.uptoBulkAll ds<=Rows.uptoBulk x.1:=by
  rcases V with⟨z,Z⟩ | z
  ·rw[Z];exact nI _
  rw[z];simp only[Rows.uptoBulk];omega
 exact⟨_,N,O,U,l,rfl,by omega,fun r hr=>c _ _ _ hb (Y r hr)⟩
theorem z8{ds:List (DataW H)}{i:Nat}{y:DataW H}(h:ds[i]?=some y):Rows.uptoBulk y<=Rows.uptoBulk (.agg ds):=by
 have:=uH (aj h);simp only[Rows.uptoBulk];omega
theorem JN:Sp enc w S 41 4 gq fun x n=>x.name.size<=n:=fun n cs x h=>by
 obtain⟨xs,D,J,N,ds,e,G,q⟩:=nD (S:=S) (Qs:=fun i xs d=>match i with
   | 0=>∃r,xs=[str r]/\r.size<=Rows.uptoBulk d
   | 1=>∃r,xs=[i64 r]/\True
   | 2=>∃r,xs=[i64 r]/\True
   | _=>∃r,xs=[i64 r]/\True) Tryz.underlying41 (Tn (by kernel_rfl)) (by kernel_rfl) (fun i f z=>by
  match i,z with
  | 0,z=>cases z;exact JM
  | 1,z=>cases z;exact x9
  | 2,z=>cases z;exact x9
  | 3,z=>cases z;exact x9
  | n+4,z=>cases z) _ _ _ h
 have D:xs.length=4:=D;have G:ds.length=4:=G;obtain⟨x0,x1,x2,x3,rfl⟩:∃a b c d,xs=[a,b,c,d]:=by
  match xs,D with
  | [a,b,c,d],_=>exact⟨a,b,c,d,rfl⟩
 obtain⟨O,U,V,Y,rfl⟩:∃a b c d,ds=[a,b,c,d]:=by
  match ds,G with
  | [a,b,c,d],_=>exact⟨a,b,c,d,rfl⟩
 obtain⟨Z,e0,p0⟩:=q 0 _ _ rfl rfl;obtain⟨n1,e1,p1⟩:=q 1 _ _ rfl rfl;obtain⟨n2,e2,p2⟩:=q 2 _ _ rfl rfl;obtain⟨n3,e3,p3⟩:=q 3 _ _ rfl rfl;cases e0;cases e1;cases e2;cases e3;have I:=z8 (ds:=[O,U,V,Y]) (i:=0) rfl;rw[<-e]at I;exact⟨_,rfl,J,N,⟨Z,n1,n2,n3⟩,rfl,by exact bM p0 I⟩
theorem My:Sp enc w S 43 3 jK fun x n=>x.name.size<=n:=fun n cs x h=>by
 obtain⟨xs,D,J,N,ds,e,G,q⟩:=nD (S:=S) (Qs:=fun i xs d=>match i with
   | 0=>∃r,xs=[str r]/\r.size<=Rows.uptoBulk d
   | 1=>∃r,xs=[i64 r]/\True
   | _=>∃r,xs=[i64 r]/\True) Tryz.underlying43 (Tn (by kernel_rfl)) (by kernel_rfl) (fun i f z=>by
  match i,z with
  | 0,z=>cases z;exact JM
  | 1,z=>cases z;exact x9
  | 2,z=>cases z;exact x9
  | n+3,z=>cases z) _ _ _ h
 have D:xs.length=3:=D;have G:ds.length=3:=G;obtain⟨x0,x1,x2,rfl⟩:∃a b c,xs=[a,b,c]:=by
  match xs,D with
  | [a,b,c],_=>exact⟨a,b,c,rfl⟩
 obtain⟨O,U,V,rfl⟩:∃a b c,ds=[a,b,c]:=by
  match ds,G with
  | [a,b,c],_=>exact⟨a,b,c,rfl⟩
 obtain⟨Y,Z,p0⟩:=q 0 _ _ rfl rfl;obtain⟨n1,e1,p1⟩:=q 1 _ _ rfl rfl;obtain⟨n2,e2,p2⟩:=q 2 _ _ rfl rfl;cases Z;cases e1;cases e2;have I:=z8 (ds:=[O,U,V]) (i:=0) rfl;rw[<-e]at I;exact⟨_,rfl,J,N,⟨Y,n1,n2⟩,rfl,by exact bM p0 I⟩
theorem Mz:Sp enc w S 58 4 CJ fun x n=>x.lot.size<=n:=fun n cs x h=>by
 obtain⟨xs,D,J,N,ds,e,G,q⟩:=nD (S:=S) (Qs:=fun i xs d=>match i with
   | 0=>∃r,xs=[str r]/\r.size<=Rows.uptoBulk d
   | 1=>∃r,xs=[i64 r]/\True
   | 2=>∃r,xs=[i64 r]/\True
   | _=>∃r,xs=[i64 r]/\True) Tryz.underlying58 (Tn (by kernel_rfl)) (by kernel_rfl) (fun i f z=>by
  match i,z with
  | 0,z=>cases z;exact JM
  | 1,z=>cases z;exact x9
  | 2,z=>cases z;exact x9
  | 3,z=>cases z;exact x9
  | n+4,z=>cases z) _ _ _ h
 have D:xs.length=4:=D;have G:ds.length=4:=G;obtain⟨x0,x1,x2,x3,rfl⟩:∃a b c d,xs=[a,b,c,d]:=by
  match xs,D with
  | [a,b,c,d],_=>exact⟨a,b,c,d,rfl⟩
 obtain⟨O,U,V,Y,rfl⟩:∃a b c d,ds=[a,b,c,d]:=by
  match ds,G with
  | [a,b,c,d],_=>exact⟨a,b,c,d,rfl⟩
 obtain⟨Z,e0,p0⟩:=q 0 _ _ rfl rfl;obtain⟨n1,e1,p1⟩:=q 1 _ _ rfl rfl;obtain⟨n2,e2,p2⟩:=q 2 _ _ rfl rfl;obtain⟨n3,e3,p3⟩:=q 3 _ _ rfl rfl;cases e0;cases e1;cases e2;cases e3;have I:=z8 (ds:=[O,U,V,Y]) (i:=0) rfl;rw[<-e]at I;exact⟨_,rfl,J,N,⟨Z,n1,n2,n3⟩,rfl,by exact bM p0 I⟩
theorem G4(hS:∀b,b<w.heap.size->S b):Sp enc w S 22 1 (fun l:List gI=>[.sl (l.map gq)]) fun l n=>l.length<=n/\∀x∈l,x.name.size<=n:=sU (k:=4) Tryz.underlying22 (by kernel_rfl) (by decide) hS (fun _ _ _ c z=>bM z c) JN
theorem JO(hS:∀b,b<w.heap.size->S b):Sp enc w S 23 1 (fun l:List Lt=>[.sl (l.map jK)]) fun l n=>l.length<=n/\∀x∈l,x.name.size<=n:=sU (k:=3) Tryz.underlying23 (by kernel_rfl) (by decide) hS (fun _ _ _ c z=>bM z c) My
theorem JP(hS:∀b,b<w.heap.size->S b):Sp enc w S 24 1 (fun l:List Fl=>[.sl (l.map CJ)]) fun l n=>l.length<=n/\∀x∈l,x.lot.size<=n:=sU (k:=4) Tryz.underlying24 (by kernel_rfl) (by decide) hS (fun _ _ _ c z=>bM z c) Mz
def Fb(l:List gI):Prop:=(∀x∈l,A7 x.name)/\l.length<=140737488355328
def Ig(l:List Lt):Prop:=(∀x∈l,A7 x.name)/\l.length<=140737488355328
def Ih(l:List Fl):Prop:=(∀x∈l,A7 x.lot)/\l.length<=140737488355328
theorem wC{d:DataW H}{l:List (DataW H)}(c:Rows.uptoSmall H l=true)(h:d∈l):Rows.uptoBulk d<=1048576:=bM (uH h) (z7 c)
theorem uI{P:Program}(hl:laidOutB P=true){W I:World}(hb:Below W.heap.size W I):∀{z:List TypeId} {vs:List Value} {ds:List (DataW H)} {ps:List MemPlace},(z.all fun t=>P.readableRec t&&decide (t<P.types.size))=true->DataW.TrodAll enc P W 0 (fun _=>true) true z vs ds ps->(∀p∈ps,p.block<W.heap.size)->∀D:Nat->Bool,(∀p∈ps,D p.block=true)->DataW.TrodAll enc P I 0 D true z vs ds ps
 | [],[],[],_,_,h,_,_,_=>h
 | t::z,v::vs,d::ds,ps,G,h,J,D,hs=>by
  obtain⟨p,q,N,O,rfl⟩:=h;simp only[Ub,fH,dS]at G;have U:(z.all fun t=>P.readableRec t&&decide (t<P.types.size))=true:=by simpa using G.2
  exact⟨p,q,Go.WideElems.Trod_stays hl G.1.1 G.1.2 N (fun x c=>hb.same (J x (vA _ c))) (fun x c=>hs x (vA _ c)),
   uI hl hb U O (fun x c=>J x (l_ _ c)) D (fun x c=>hs x (l_ _ c)),rfl⟩
 | [],_::_,_,_,_,h,_,_,_=>h.elim
 | [],[],_::_,_,_,h,_,_,_=>h.elim
 | _::_,[],_,_,_,h,_,_,_=>h.elim
 | _::_,_::_,[],_,_,h,_,_,_=>h.elim
theorem x_ {W : World} (h1 : ∃ m : Int, W.cell? ⟨0, 0, none⟩ = some (.int .i64 m)) (h2 : Lib.TabIs Tryz.prog W "internal/strconv.uint64pow10" .u64 Lib.pow10Tab) : Env (fun b => b < W.heap.size) W := by
 refine⟨?_,block_lt_of_cell (h2.cell Js 0 (by decide)),h1,h2⟩;obtain⟨m,hm⟩:=h1;exact block_lt_of_cell hm
theorem MA:laidOutB Tryz.prog=true:=by kernel_rfl
theorem z_{s:ByteArray}(h:s.size<=1048576):A7 s:=Nat.lt_of_le_of_lt h (by decide)
theorem G5{l:List gI}{n:Nat}(c:n<=1048576)(h:l.length<=n/\∀x∈l,x.name.size<=n):Fb l:=⟨fun x z=>z_ (bM (h.2 x z) c),bM h.1 (bM c (by decide))⟩
theorem JQ{l:List Lt}{n:Nat}(c:n<=1048576)(h:l.length<=n/\∀x∈l,x.name.size<=n):Ig l:=⟨fun x z=>z_ (bM (h.2 x z) c),bM h.1 (bM c (by decide))⟩
theorem JR{l:List Fl}{n:Nat}(c:n<=1048576)(h:l.length<=n/\∀x∈l,x.lot.size<=n):Ih l:=⟨fun x z=>z_ (bM (h.2 x z) c),bM h.1 (bM c (by decide))⟩
end M
namespace M
open Go.AM Go.RowKit Go.Lib
theorem wD{α:Type}{f:List α->α->Int}{l:List α}(h:mW f [] l=0):∀(i:Nat) (a:α),l[i]?=some a->f (l.take i) a=0:=by
 have key:∀n,n<=l.length->mW f [] l=mW f (l.take n) (l.drop n):=by
  intro n
  induction n with
  | zero=>intro _;rfl
  | succ n ih=>
   intro hn;obtain⟨a,c⟩:=a8 (l:=l) (i:=n) (by omega);have e:=ih (by omega);by_cases h0:f (l.take n) a=0
   ·exact lP c e h0
   exact absurd (oV c e rfl h0) (by rw[h];exact fun e=>h0 e.symm)
 intro i a c;by_cases h0:f (l.take i) a=0
 ·exact h0
 exact absurd (oV c (key i (by have:=ah c;omega)) rfl h0) (by rw[h];exact fun e=>h0 e.symm)
theorem oY{n c z:Int}:pK n c z=true↔c<=n/\n<=z:=by simp[pK]
theorem ya{α:Type}{f:α->ByteArray}{l:List α}(h:∀i a b,l[i]?=some a->l[i+1]?=some b->kT (f a) (f b)=true):gL f l:=by
 have key:∀d i a b,l[i]?=some a->l[i+1+d]?=some b->kT (f a) (f b)=true:=by
  intro d
  induction d with
  | zero=>exact h
  | succ d ih=>
   intro i a b D hb;obtain⟨c,z⟩:=a8 (l:=l) (i:=i+1+d) (by have:=ah hb;omega);exact iA (ih i a c D z) (h _ c b z hb)
 refine wy.2 fun i j G I F8=>?_;exact key (j-i-1) i _ _ (aM G) (by rw[show i+1+(j-i-1)=j by omega];exact aM I)
variable {l:List Lt}
theorem oZ(h:cA l=0):l.length<=100/\gL Lt.name l/\∀x∈l,jh x.name=true/\(1<=x.panels/\x.panels<=200)/\(0<=x.at_/\x.at_<=1000000000):=by
 unfold cA at h;split at h
 ·cases h
 rename_i hlen;have z:=wD h;have one:∀(i:Nat) (x:Lt),l[i]?=some x->jh x.name=true/\(pK x.panels 1 200=true/\pK x.at_ 0 1000000000=true)/\(∀y,(l.take i).getLast?=some y->kT y.name x.name=true):=fun i x c=>by
  have:=z i x c;unfold fq at this;split at this
  ·rename_i w;split at this
   ·rename_i r;refine⟨w,r,fun y D=>?_⟩;rw[D]at this;simp only at this;split at this
    ·assumption
    cases this
   cases this
  cases this
 refine⟨by omega,ya fun i a b G hb=>?_,fun x c=>?_⟩
 ·exact (one (i+1) b hb).2.2 a (Bn (by omega) (by simpa using G))
 obtain⟨i,I⟩:=uU.1 c;obtain⟨w,r,_⟩:=one i x I;exact⟨w,oY.1 r.1,oY.1 r.2⟩
theorem o5{l:List gI}(h:cz l=0):(0<l.length/\l.length<=30)/\∀(i:Nat) (s:gI),l[i]?=some s->jh s.name=true/\(1<=s.minutes/\s.minutes<=10000)/\(1<=s.machines/\s.machines<=20)/\(-1<=s.back/\s.back<=i):=by
 unfold cz at h;split at h
 ·cases h
 split at h
 ·cases h
 refine⟨by omega,fun i s hs=>?_⟩;have:=wD h i s hs;unfold eK at this;split at this
 ·rename_i w;split at this
  ·cases this
  split at this
  ·rename_i r;have e:(l.take i).length=i:=by rw[dI];have:=ah hs;omega
   rw[e]at r;exact⟨w,oY.1 r.1,oY.1 r.2.1,oY.1 r.2.2⟩
  cases this
 cases this
theorem yb{l:List Fl}{f:Fl}(h:¬l.any (Ul f)=true):qB ((mL l).map Bz) (FG f) (.im (.bool true))=(mL (l++[f])).map Bz:=by
 induction l with
 | nil=>rfl
 | cons g l ih=>
  rw[Vb,oa,not_or]at h;have e:yx (FG f) (FG g)=false:=by
   rw[EW];simp only[Ul,dS]at h;simp only[wg];exact fun c=>h.1 ⟨c.1.symm,c.2.1.symm,c.2.2.1.symm,c.2.2.2.symm⟩
  have:=ih h.2;unfold mL at this ⊢;simp only[qO,lX,qB,Bz];rw[e];simp only;rw[<-this]
theorem Fc(l:List Fl)(f:Fl):pc ((mL l).map Bz) (FG f)=match l.any (Ul f) with | true=>some (.im (.bool true)) | false=>none:=Bk ⟨[],[],l,[]⟩ f
theorem CP{f:Fl}(hs:gL Lt.name l){k:Nat}{y:Lt}(z:l[k]?=some y)(D:y.name=f.lot):pQ l f=pK f.panel 0 (y.panels-1):=by
 unfold pQ;rw[gU,dA];constructor
 ·rintro⟨x,G,hp⟩;simp only[fH,dS]at hp;obtain⟨i,c⟩:=uU.1 G;have e:i=k:=by
   rcases gC i k with h | h | h
   ·have:=c_ hs c z h;rw[hp.1,D,db]at this;cases this
   ·exact h
   have:=c_ hs z c h;rw[hp.1,D,db]at this;cases this
  subst e;rw[z]at c;injection c with c;rw[c];exact hp.2
 intro h;exact⟨y,aj z,by simp[D,h]⟩
theorem CQ{l:List Lt}{f:Fl}(h:sR Lt.name l f.lot<0):pQ l f=false:=by
 have c:=E7 (f:=Lt.name) (l:=l) (x:=f.lot);rw[UF h]at c;have z:tD Lt.name l f.lot=false:=by simpa using c.symm
 rw[cr];intro D;obtain⟨x,G,hp⟩:=dA.1 D;simp only[fH,dS]at hp;rw[gO.2 ⟨x,G,hp.1⟩]at z;cases z
theorem jP(s:List gI)(l:List Lt)(b:List Fl)(hs:0<s.length/\s.length<=30)(hl:cA l=0)(hN:b.length<=140737488355328):aT C 16 [.pv (.sl (s.map gq)),.pv (.sl (l.map jK)),.pv (.sl (b.map CJ))] (.p (i64 (de s l b))) []:=by
 refine fW hC Tryz.func16 rfl (by kernel_rfl) fun _=>?_;have lm:=cH b CJ;have O:=cH s gq;obtain⟨l1,U,l3⟩:=oZ hl;apply iW<;>intro g1<;>try simp only[zB]at g1
 ·refine⟨?_,trivial⟩;rw[de,qH (by omega)];rfl
 rw[de,af (by omega)];refine d_ (fun i:Nat=>i<=b.length/\mW (fX s l) [] b=mW (fX s l) (b.take i) (b.drop i)) (fun i=>[(0,.p (.sl (s.map gq))),(1,.p (.sl (l.map jK))),(7,.ow 14),(15,.p (.sl (b.map CJ))),(16,.p (i64 b.length)),(17,.p (i64 i))]) (fun i=>[(14,.map (.st [0,1,1,1]) ((mL (b.take i)).map Bz))]) (fun i=>b.length-i) 0 _ (aY.refl _ _) ⟨nI _,rfl⟩ ⟨rfl,rfl,rfl,rfl,iX (fun n:Nat=>AV.p (i64 n)) lm,Z,Y⟩ ⟨Z,Y⟩ fun i G t h=>?_;apply iW<;>intro h1<;>try simp only[zB]at h1
 ·obtain⟨f,z⟩:=a8 (l:=b) (i:=i) (by omega);have bad:∀c:Int,fX s l (b.take i) f=c->c≠0->mW (fX s l) [] b=c:=fun c=>oV z G.2;have I:¬(pQ l f=true/\pK f.step 0 (s.length-1)=true)->mW (fX s l) [] b=9:=fun h=>bad 9 (by rw[fX,af h]) (by decide);refine⟨(CJ f),(idx rfl z),_,_,(x7 l f.lot U (by omega)),iW ?_ ?_⟩<;>intro V<;>try simp only[zB]at V
  ·refine⟨?_,trivial⟩;rw[I (fun h=>by rw[CQ V]at h;cases h.1)];rfl
  obtain⟨k,y,hk,J,hn⟩:=E6 (f:=Lt.name) (l:=l) (x:=f.lot) (by omega);have hh:=CP U J hn;have hp:=(l3 y (aj J)).2.1;refine⟨(jK y),(idx (show max (sR Lt.name l f.lot) 0=(k:Int) by rw[hk];omega) J),wO (by omega),_,_,(cI f.panel 0 (y.panels-1)),iW ?_ ?_⟩<;>intro h3<;>try simp only[zB]at h3
  ·refine⟨?_,trivial⟩;rw[I (fun h=>by rw[hh]at h;simp_all)];rfl
  refine⟨wO (by omega),?_⟩;have hw:=cI f.step 0 (s.length-1);rw[<-O]at hw;refine⟨_,_,hw,iW ?_ ?_⟩<;>intro h4<;>try simp only[zB]at h4
  ·refine⟨?_,trivial⟩;rw[I (fun h=>by simp_all)];rfl
  have N:pQ l f=true/\pK f.step 0 (s.length-1)=true:=⟨by rw[hh];simpa using h3,by rw[<-O];simpa using h4⟩;refine⟨_,_,(cI f.visit 1 6),iW ?_ ?_⟩<;>intro h5<;>try simp only[zB]at h5
  ·refine⟨?_,trivial⟩;rw[bad 1 (by rw[fX,qH N,af (by simp_all)]) (by decide)];rfl
  have w2:pK f.visit 1 6=true:=by simpa using h5
  have D:=Fc (b.take i) f;cases hq:(b.take i).any (Ul f) with
  | true=>
   rw[hq]at D;refine⟨(some (.im (.bool true))),D,?_,trivial⟩;rw[bad 7 (by rw[fX,qH N,qH w2,qH hq]) (by decide)];rfl
  | false=>
   rw[hq]at D;refine⟨none,D,?_⟩;have hm:=yb (l:=b.take i) (f:=f) (by rw[hq];decide);have ht:=bT z;exact⟨wO (by omega),(i+1),_,aY.refl _ _,⟨by omega,lP z G.2 (by rw[fX,qH N,qH w2,af (by rw[hq];decide)])⟩,by omega,⟨Z,Z,Z,Z,Z,Z,Y⟩,⟨by rw[ht];exact iX (AB.map _) hm,trivial⟩⟩
 refine⟨?_,trivial⟩;rw[wx (by omega) G.2];rfl
open Go.Sort
instance:Inhabited dQ:=⟨⟨.empty,0,0,0,0,0,false⟩⟩
def qv(d:dQ):List Value:=[.string d.lot,.int .i64 d.panel,.int .i64 d.step,.int .i64 d.machine,.int .i64 d.from_,.int .i64 d.till,.bool d.good]
theorem o6(l:List dQ):bG (l.map qv)=l.map dc:=by
 unfold bG;rw[ib];exact vz fun r _=>rfl
theorem rz{l:List dQ}:∀r∈l.map qv,r.length=7:=by
 intro r c;obtain⟨x,_,rfl⟩:=fh.1 c;rfl
theorem yc(d:Array dQ):flatK qv 7 d=(d.toList.map qv).flatten.toArray:=by
 apply Array.ext_getElem?;intro q;have hlen:(d.toList.map qv).flatten.length=d.size*7:=by rw[lQ (k:=7) rz];simp
 by_cases D:q<d.size*7
 ·have c:q / 7<d.size:=by omega
  have G:q % 7<7:=di _ (by omega);have e:q / 7*7+q % 7=q:=by omega
  have I:=get_flatK qv 7 d q D;have hsz:(flatK qv 7 d).size=d.size*7:=by simp
  rw[bE (by omega),<-getElem!_pos (flatK qv 7 d) q (by omega),I];have J:(d.toList.map qv)[q / 7]?=some (qv d[q / 7]!):=by
   rw[ao,uZ,bE c,cW,getElem!_pos d _ c]
  have N:(qv d[q / 7]!)[q % 7]?=some ((qv d[q / 7]!)[q % 7]!):=by
   have z:q % 7<(qv d[q / 7]!).length:=G;rw[aM z,getElem!_pos (qv d[q / 7]!) (q % 7) z]
  have:=wA (k:=7) rz J N;rw[e]at this;simpa using this.symm
 rw[UH (by simp;omega),UH (by simp only[Tk];omega)]
theorem Nl(a b:dQ):ltOf tB a b=!H6 b a:=ES a b
theorem MB:SWO (ltOf tB) where
 irrefl x:=by rw[Nl];simp[H6]
 trans x y z h1 h2:=by
  rw[Nl]at *;simp only[H6,j8,wg]at *;omega
 ntrans x y z h1 h2:=by
  rw[Nl]at *;simp only[H6,Bool.not_eq_false',dS]at *;omega
def iO(l:List dQ):List dQ:=(pdq (ltOf tB) l.toArray 0 l.toArray.size (Lib.bitLen l.toArray.size) true true).toList
theorem sV(l:List dQ):(iO l).Perm l/\(iO l).Pairwise fun a b=>H6 a b=true:=by
 obtain⟨I,J⟩:=pdq_sorts (ltOf tB) MB l.toArray 0 l.toArray.size (Lib.bitLen l.toArray.size) true true (nI _) (aC _) (Or.inl rfl);obtain⟨N,_,D⟩:=I;have hp:(iO l).Perm l:=by
  have G:∀d:Array dQ,d.size=l.toArray.size->(d.extract 0 l.toArray.size).toList=d.toList:=fun d h=>by rw[<-h];simp
  rw[G _ N,G _ rfl]at D;unfold iO;simpa using D
 refine⟨hp,?_⟩;rw[wy];intro i j c z O;have hs:(iO l).length=l.toArray.size:=by rw[hp.length_eq];simp
 have:=J i j (nI _) O (by omega);unfold iO at c z ⊢;simp only[cf]at c z;rw[getElem!_pos _ j z,getElem!_pos _ i c,Nl]at this;simpa using this
theorem Pr(n:Int)(W:World):Calls Tryz.prog 78 #[.int .i64 n] W fun e w'=>e=.returned (.bool false)/\w'=W:=by
 go_enter Tryz.func78,Tryz.ntmps78
 go_wp2
 go_ret
 exact⟨by simp,rfl⟩
theorem JS(a b:Int)(W:World):Calls Tryz.prog 46 #[.int .i64 a,.int .i64 b] W fun e w'=>e=.returned (.int .i64 (jI a b))/\w'=W:=by
 go_enter Tryz.func46,Tryz.ntmps46
 go_wp2_with (go_at_call 78;refine (Pr _ _).mono ?_;rintro e w' ⟨rfl,c⟩;rw[c])
 all_goals (go_ret;refine⟨?_,rfl⟩;unfold jI;(repeat' split)<;>first | rfl | (exfalso;omega))
theorem G6(W:World)(bH:Nat)(a b d:Int)(h0:W.cell? ⟨bH,0,none⟩=some (.int .i64 a))(h1:W.cell? ⟨bH,1,none⟩=some (.int .i64 b))(h2:W.cell? ⟨bH,2,none⟩=some (.int .i64 d))(c:Nat):Calls Tryz.prog 45 #[.slice (some ⟨bH,0,none⟩) 3 c] W fun e w'=>e=.returned (.int .i64 (A6 [a,b,d]))/\w'=W:=by
 simp only[A6]
 go_enter Tryz.func45,Tryz.ntmps45
 go_wp2
 go_loop [8] (fun i=>∃k:Nat,k<=3/\i=.int .i64 k/\(0<k->a=0)/\(1<k->b=0)/\(2<k->d=0)) (fun i=>3-(intOf i).toNat)
 case atStart=>exact⟨0,by omega,rfl,fun h=>by omega,fun h=>by omega,fun h=>by omega⟩
 case round=>
  obtain⟨k,hk,rfl,z,G,I⟩:=hrel;rcases (show k=0\/k=1\/k=2\/k=3 by omega) with rfl | rfl | rfl | rfl
  ·by_cases e:a=0
   ·subst e
    go_wp2
    go_round
    case rel=>exact⟨1,by omega,by go_num,fun _=>by trivial,fun h=>by omega,fun h=>by omega⟩
    case measure=>simp[intOf]
   go_wp2
   go_ret
   exact⟨by first | rfl | simp[e],rfl⟩
  ·have e:=z (by omega);subst e;by_cases e:b=0
   ·subst e
    go_wp2
    go_round
    case rel=>exact⟨2,by omega,by go_num,fun _=>by trivial,fun _=>by trivial,fun h=>by omega⟩
    case measure=>simp[intOf]
   go_wp2
   go_ret
   exact⟨by first | rfl | simp[e],rfl⟩
  ·have e:=z (by omega);have D:=G (by omega);subst e;subst D;by_cases e:d=0
   ·subst e
    go_wp2
    go_round
    case rel=>exact⟨3,by omega,by go_num,fun _=>by trivial,fun _=>by trivial,fun _=>by trivial⟩
    case measure=>simp[intOf]
   go_wp2
   go_ret
   exact⟨by first | rfl | simp[e],rfl⟩
  have e:=z (by omega);have D:=G (by omega);have J:=I (by omega);subst e;subst D;subst J
  go_wp2
  go_ret
  exact⟨rfl,rfl⟩
theorem Ff(x y:dQ)(W:World):Calls Tryz.prog 20 #[.agg (qv x).toArray,.agg (qv y).toArray] W fun e w'=>e=.returned (.int .i64 (tB x y))/\∃q R_,w'=grow (W.drewN q) R_:=by
 unfold qv tB;obtain⟨a1,a2,I,J,N,a6,a7⟩:=x;obtain⟨b1,b2,O,U,V,b6,b7⟩:=y;simp only
 go_enter Tryz.func20,Tryz.ntmps20
 obtain⟨Y,QA⟩:∃o,o=Obj.cells #[Value.string a1,Value.int IntKind.i64 a2,Value.int IntKind.i64 I,Value.int IntKind.i64 J,Value.int IntKind.i64 N,Value.int IntKind.i64 a6,Value.bool a7] 34:=⟨_,rfl⟩;obtain⟨Z,QB⟩:∃o,o=Obj.cells #[Value.string b1,Value.int IntKind.i64 b2,Value.int IntKind.i64 O,Value.int IntKind.i64 U,Value.int IntKind.i64 V,Value.int IntKind.i64 b6,Value.bool b7] 34:=⟨_,rfl⟩;obtain⟨c,z⟩:∃w3,w3=({ ((W.alloc Y).alloc Z) with drawn:=((W.alloc Y).alloc Z).drawn+1 }:World):=⟨_,rfl⟩;have hs:c.heap.size=W.heap.size+2:=by rw[z];exact (kl ..).trans (iX (·+1) (kl ..))
 have D:∀(i:Nat) v,#[Value.string a1,Value.int IntKind.i64 a2,Value.int IntKind.i64 I,Value.int IntKind.i64 J,Value.int IntKind.i64 N,Value.int IntKind.i64 a6,Value.bool a7][i]?=some v->c.cell? ⟨W.heap.size,i,none⟩=some v:=fun i v hv=>by
  rw[z];refine (World.cell?_alloc_past (w:=W.alloc _) _ _ _ (by rw[show (W.alloc _).heap.size=W.heap.size+1 from kl ..];omega)).trans ?_;rw[QA];exact (TN _ _ _ _ rfl).trans hv
 have c1:∀(i:Nat) v,#[Value.string b1,Value.int IntKind.i64 b2,Value.int IntKind.i64 O,Value.int IntKind.i64 U,Value.int IntKind.i64 V,Value.int IntKind.i64 b6,Value.bool b7][i]?=some v->c.cell? ⟨W.heap.size+1,i,none⟩=some v:=fun i v hv=>by
  rw[z];rw[QB];exact (TN (w:=W.alloc _) _ _ _ _ (kl ..).symm).trans hv
 have d4:=D 4 _ rfl;have d2:=D 2 _ rfl;have d3:=D 3 _ rfl;have e4:=c1 4 _ rfl;have e2:=c1 2 _ rfl;have e3:=c1 3 _ rfl;clear D c1;have G:c=grow (W.drewN 1) #[Y,Z]:=by
  rw[z,alloc_eq_grow,alloc_eq_grow,grow_grow];rfl
 have HG:=Lib.hid G;clear G
 go_wp2_with fail
 refine wp_region_still_tail 15 (by kernel_rfl) (by kernel_rfl) ?_;rw[<-QA,<-QB,<-z];clear z;simp only[Bw,oX,List.drop_succ_cons,List.drop_zero]
 repeat still_step
 still_call (JS N V c)
 repeat still_step
 still_call (JS I O c)
 repeat still_step
 still_call (JS J U c)
 refine wpStill_nil ?_
 go_wp2_with (go_at_call 45;refine (G6 _ _ _ _ _ (TN _ _ _ _ (by omega)) (TN _ _ _ _ (by omega)) (TN _ _ _ _ (by omega)) _).mono ?_;rintro e w' ⟨rfl,hw⟩;rw[hw])
 go_ret
 have G:=HG.out;exact⟨rfl,1,_,by rw[G,alloc_eq_grow,grow_grow]⟩
theorem US(l:List dQ)(U:l.length<4611686018427387904):aT C 19 [.row 34 (l.map dc),.pv (.im (.func (.func 20) #[] #[]))] (.tu []) [.row ((iO l).map dc)]:=by
 obtain⟨hp,_⟩:=sV l;have V:=enters_of Tryz.func20 (by kernel_rfl) rfl;have:=z6 hC (f:=19) 34 _ rfl (by decide) [.func (.func 20) #[] #[]] (l.map qv) ((iO l).map qv) rz rz (by rw[ct,ct,hp.length_eq])
  (fun r Y v c=>by
   obtain⟨x,_,rfl⟩:=fh.1 Y;simp only[qv,fL,List.not_mem_nil,or_false]at c;rcases c with rfl | rfl | rfl | rfl | rfl | rfl | rfl<;>rfl)
  ⟨_,Tryz.func19,rfl,rfl⟩
  (fun _ w=>AnyF.slices_SortFunc_none Tryz.laysSortDoing none 0 (.func (.func 20) #[] #[]) w)
  (fun S w bH I hE D _ z=>by
   have Z:HoldsK qv 7 w bH 0 l.toArray:=by
    unfold HoldsK;intro j G;rw[yc]at G ⊢;simp only[Tk]at G;have c:(l.map qv).flatten[j]?=some ((l.map qv).flatten[j]'G):=aM G;obtain⟨J,N⟩:=z j _ c;rw[ae];refine⟨?_,N⟩;rw[J];congr 1;rw[getElem!_pos _ j (by simpa using G)];simp
   have O:=AnyQ.slices_SortFunc_eq Tryz.laysSortDoing 7 (fun w=>(hC.eL 34 _ rfl).isAgg w) (fun w=>(hC.eL 34 _ rfl).sizeOf w) qv (fun _=>rfl) (fun x v c=>by
    simp only[qv,fL,List.not_mem_nil,or_false]at c;rcases c with rfl | rfl | rfl | rfl | rfl | rfl | rfl<;>rfl) tB MB 20 #[] bH 0 I l.toArray w V (fun _ _ _ _ x y=>Ff x y _) Z D (by simpa using U)
   have e:l.toArray.size=(l.map qv).length:=by simp
   rw[e]at O;refine O.mono fun e' w' ⟨J,n,os,N⟩=>⟨J,n,os,?_⟩;rw[N];unfold sortWorldK putRowK tF;rw[yc,<-e];rfl)
 rw[o6,o6]at this;exact this
variable {s:List gI}
theorem CR{b:List Fl}(h:de s l b=0){i:Nat}{f:Fl}(c:b[i]?=some f):¬(b.take i).any (Ul f)=true:=by
 unfold de at h;split at h
 ·cases h
 have:=wD h i f c;unfold fX at this;split at this
 ·split at this
  ·split at this
   ·cases this
   assumption
  cases this
 cases this
def mX(x:gI):List Bool:=List.replicate x.machines.toNat false
def qx(s:List gI)(x:Lt)(k:Nat):lH:=⟨0,0,0,List.replicate s.length 0,⟨x.name,k,false,0,0⟩⟩
def iP(s:List gI)(x:Lt)(n:Nat):List lH:=(List.range n).map (qx s x)
def gh(s:List gI)(l:List Lt):List lH:=l.flatMap fun x=>iP s x x.panels.toNat
def jj(a:Int)(i:Nat):Nat->List Wt->List Wt
 | 0,Q=>Q
 | k+1,Q=>eH (jj a i k Q) (a,(i:Int),(k:Int))
def dh(l:List Lt):Nat->List Wt
 | 0=>[]
 | i+1=>match l[i]? with
  | some x=>jj x.at_ i x.panels.toNat (dh l i)
  | none=>dh l i
theorem pT(a:Int)(i:Nat):∀(k:Nat) (Q:List Wt),(jj a i k Q).length=Q.length+k
 | 0,Q=>rfl
 | k+1,Q=>by rw[jj,pN,pT a i k Q];omega
theorem pU(h:∀x∈l,x.panels<=200):∀i,(dh l i).length<=200*i
 | 0=>aC _
 | i+1=>by
  have ih:=pU h i;unfold dh;split
  ·rename_i x c;have:=h x (aj c);rw[pT];omega
  omega
def tH(g:Nat):List HX:=[.av (.p (ptr g))]
theorem Bp(d:Nat)(l:List Nat):(l.map tH).map (fun r=>r.map (HX.Te (sc d)))=l.map tH:=by
 rw[ib];rfl
theorem Bq(i d:Nat)(l:List Nat):(l.map tH).map (fun r=>r.map (HX.Te (rn i d)))=l.map tH:=by
 rw[ib];rfl
def Fg(gs:List (List Nat)):List (List PV):=gs.map fun r=>[CE r]
def cQ(s:List gI)(Q:List Wt):List (List Wt):=(List.replicate s.length ([]:List Wt)).set 0 Q
theorem G7(l:List Nat):Kf (l.map tH) (l.map fun g=>[ptr g]):=Kf.map fun g _=>⟨rfl,fun j u v c z=>by
 cases j with
 | zero=>
  simp[tH]at c z;subst c;subst z;exact .p _
 | succ j=>simp[tH]at c⟩
theorem qy(h:0<s.length)(Q:List Wt):(cQ s Q)[0]?=some Q:=by
 rw[cQ,bQ (by simpa using h)]
theorem ye(s:List gI)(Q c:List Wt):(cQ s Q).set 0 c=cQ s c:=by
 rw[cQ,Uz];rfl
theorem lS(s:List gI)(Q:List Wt):(cQ s Q).length=s.length:=by
 rw[cQ,cu,uX]
theorem Aa{i:Nat}{x:Lt}(h:l[i]?=some x):gh s (l.take (i+1))=gh s (l.take i)++iP s x x.panels.toNat:=by
 rw[bT h,gh,List.flatMap_append];simp[gh]
theorem Ab(s:List gI)(x:Lt)(k:Nat):iP s x (k+1)=iP s x k++[qx s x k]:=by
 rw[iP,Vc,aa];rfl
theorem Fh{A:List Nat}{B:List lH}(h:A.length=B.length)(g:Nat)(j:lH):nz (A++[g]) (B++[j])=nz A B++[(g,pL j)]:=by
 rw[nz,List.zipWith_append h];rfl
theorem mB{s:List gI}:∀{l:List Lt} {gs:List (List Nat)},gs.map List.length=l.map (fun x=>x.panels.toNat)->gs.flatten.length=(gh s l).length
 | [],[],_=>rfl
 | [],_::_,h=>by cases h
 | _::_,[],h=>by cases h
 | x::l,r::gs,h=>by
  simp only[qO,List.cons.injEq]at h;have:=mB (s:=s) h.2;simp only[gh,fT,mC,fj]at this ⊢;rw[this,h.1];simp[iP]
theorem SZ.iU{st:Stat}:∀(n:Nat) {x:a_},SZ st x->SZ st (M.iU n st x)
 | 0,x,h=>h
 | n+1,x,h=>by
  obtain⟨c,f2,f3⟩:=h.fy;unfold M.iU;split
  ·rename_i a z;exact SZ.iU n (c.next f3 z).1
  exact c.start.1
theorem SZ.iV{st:Stat}{x:a_}(h:SZ st x):SZ st (M.iV st x):=SZ.iU _ h
theorem Fi{gs:List (List Nat)}{i:Nat}{r:List Nat}(h:gs[i]?=some r):pos gs (i+1) 0=pos gs i r.length:=by
 rw[pos,pos,bT h,aa,List.sum_append];simp
theorem G8(gs:List (List Nat)):pos gs gs.length 0=gs.flatten.length:=by
 rw[pos,Ue,List.length_flatten];rfl
theorem yf{s:List gI}:∀{l:List Lt},(∀x∈l,x.panels<=200)->(gh s l).length<=200*l.length
 | [],_=>aC _
 | x::l,h=>by
  have ih:=yf (s:=s) fun y c=>h y (An _ c);have:=h x dJ;simp only[gh,fT,fj,bw]at ih ⊢;have e:(iP s x x.panels.toNat).length=x.panels.toNat:=by simp[iP]
  omega
def fY(s:List gI)(l:List Lt):a_:=⟨gh s l,cQ s (dh l l.length),[],s.map mX,0,[]⟩
variable {sW:List (List Nat)}
theorem wE{b:List Fl}{gs:List (List Nat)}(h:gs.map List.length=sW.map List.length)(w:Wt):bU ⟨s,l,b,gs⟩ w=bU ⟨s,l,b,sW⟩ w:=by
 simp only[bU,pos];rw[UG,UG,h]
theorem G9{b:List Fl}{gs:List (List Nat)}(h:gs.map List.length=sW.map List.length)(x:a_):eI ⟨s,l,b,gs⟩ x=eI ⟨s,l,b,sW⟩ x:=by
 unfold eI;simp only[wE h];rfl
theorem JT{b:List Fl}{gs:List (List Nat)}(h:gs.map List.length=sW.map List.length)(x:a_):fx ⟨s,l,b,gs⟩ x=fx ⟨s,l,b,sW⟩ x:=by
 funext w;unfold fx;rw[wE h]
theorem Fj{b:List Fl}{gs:List (List Nat)}(h:gs.map List.length=sW.map List.length)(x:a_):eW ⟨s,l,b,gs⟩ x=eW ⟨s,l,b,sW⟩ x:=by
 unfold eW;rw[JT h]
theorem Br{b:List Fl}{gs:List (List Nat)}(h:gs.map List.length=sW.map List.length):∀(n:Nat) (x:a_),kz n ⟨s,l,b,gs⟩ x=kz n ⟨s,l,b,sW⟩ x
 | 0,x=>rfl
 | n+1,x=>by
  unfold kz;rw[G9 h];split
  ·exact Br h n _
  rfl
theorem CS{b:List Fl}{gs:List (List Nat)}(h:gs.map List.length=sW.map List.length)(i:Nat)(x:a_):du ⟨s,l,b,gs⟩ i x=du ⟨s,l,b,sW⟩ i x:=by
 unfold du;simp only[wE h]
theorem uJ{b:List Fl}{gs:List (List Nat)}(h:gs.map List.length=sW.map List.length)(i:Nat):∀(n:Nat) (x:a_),eo n ⟨s,l,b,gs⟩ i x=eo n ⟨s,l,b,sW⟩ i x
 | 0,x=>rfl
 | n+1,x=>by
  unfold eo;rw[CS h];split
  ·exact uJ h i n _
  rfl
theorem CT{b:List Fl}{gs:List (List Nat)}(h:gs.map List.length=sW.map List.length)(x:a_):bV ⟨s,l,b,gs⟩ x=bV ⟨s,l,b,sW⟩ x:=by
 have e:(fun x i=>dE ⟨s,l,b,gs⟩ i x)=(fun x i=>dE ⟨s,l,b,sW⟩ i x):=by
  funext x i;exact uJ h i _ x
 unfold bV;rw[e]
theorem G_{b:List Fl}{gs:List (List Nat)}(h:gs.map List.length=sW.map List.length)(x:a_):fy ⟨s,l,b,gs⟩ x=fy ⟨s,l,b,sW⟩ x:=by
 unfold fy;rw[Fj h];exact Br h _ x
theorem Bs{b:List Fl}{gs:List (List Nat)}(h:gs.map List.length=sW.map List.length):∀(n:Nat) (x:a_),iU n ⟨s,l,b,gs⟩ x=iU n ⟨s,l,b,sW⟩ x
 | 0,x=>rfl
 | n+1,x=>by
  unfold iU;rw[G_ h,CT h];split
  ·exact Bs h n _
  rfl
theorem Ha{b:List Fl}{gs:List (List Nat)}(h:gs.map List.length=sW.map List.length)(x:a_):iV ⟨s,l,b,gs⟩ x=iV ⟨s,l,b,sW⟩ x:=by
 unfold iV;rw[Fj h];exact Bs h _ x
theorem uK{a:Int}{i:Nat}:∀{k:Nat} {Q:List Wt} {w:Wt},w∈jj a i k Q->w∈Q\/∃m,m<k/\w=(a,(i:Int),(m:Int))
 | 0,Q,w,h=>.inl h
 | k+1,Q,w,h=>by
  rcases Th h with h | rfl
  ·rcases uK h with h | ⟨m,h1,c⟩
   ·exact .inl h
   exact .inr ⟨m,by omega,c⟩
  exact .inr ⟨k,by omega,rfl⟩
theorem pV:∀{i:Nat} {w:Wt},w∈dh l i->∃(n:Nat) (x:Lt) (m:Nat),n<i/\l[n]?=some x/\m<x.panels.toNat/\w=(x.at_,(n:Int),(m:Int))
 | 0,w,h=>by cases h
 | i+1,w,h=>by
  unfold dh at h;split at h
  ·rename_i x D;rcases uK h with h | ⟨m,z,c⟩
   ·obtain⟨n,y,m,z,c⟩:=pV h;exact⟨n,y,m,by omega,c⟩
   exact⟨i,x,m,by omega,D,z,c⟩
  obtain⟨n,y,m,z,c⟩:=pV h;exact⟨n,y,m,by omega,c⟩
theorem sX{a:Int}{i:Nat}:∀(k:Nat) {Q:List Wt},Heap Q->Heap (jj a i k Q)
 | 0,Q,h=>h
 | k+1,Q,h=>nB _ (sX k h)
theorem sY:Heap []:=fun c a b _ h=>by simp at h
theorem nE(l:List Lt):∀i,Heap (dh l i)
 | 0=>sY
 | i+1=>by
  unfold dh;split
  ·exact sX _ (nE l i)
  exact nE l i
def Nn(p:Int×Int)(w:Wt):Nat:=if w.2=p then 1 else 0
theorem uL(p:Int×Int)(a:Int)(i:Nat):∀(k:Nat) (Q:List Wt),bK (Nn p) (jj a i k Q)=bK (Nn p) Q+(if p.1=i/\0<=p.2/\p.2<k then 1 else 0)
 | 0,Q=>by
  rw[af (by omega)];rfl
 | k+1,Q=>by
  rw[jj,jM,uL p a i k Q];obtain⟨p1,p2⟩:=p;simp only[Nn,Prod.mk.injEq]
  repeat' split
  all_goals omega
theorem uM(p:Int×Int)(l:List Lt):∀i,bK (Nn p) (dh l i)<=if 0<=p.1/\p.1<i then 1 else 0
 | 0=>by rw[dh];simp[bK]
 | i+1=>by
  have ih:=uM p l i;unfold dh;split
  ·rw[uL]
   repeat' split
   all_goals (repeat' split at ih)
   all_goals omega
  repeat' split
  all_goals (repeat' split at ih)
  all_goals omega
theorem JU(f:Wt->Nat)(n:Nat):eJ f (List.replicate n [])=0:=by
 induction n with
 | zero=>rfl
 | succ n ih=>simp only[eJ,ij,qO,SX]at ih ⊢;rw[ih];rfl
theorem Hb(h:0<s.length)(f:Wt->Nat)(Q:List Wt):eJ f (cQ s Q)=bK f Q:=by
 have c:=jN (f:=f) (l:=List.replicate s.length ([]:List Wt)) (i:=0) (q:=[]) Q (by rw[ig,qH h]);rw[JU]at c;have h2:bK f []=0:=rfl;rw[cQ];omega
theorem Bt{f:Wt->Nat}{c:Nat}:∀{l:List Wt},(∀w∈l,f w<=c)->bK f l<=c*l.length
 | [],_=>nI _
 | a::l,h=>by
  have z:=Bt (l:=l) fun w D=>h w (An _ D);have h2:=h a dJ;simp only[bK,qO,SX,bw,Nat.mul_add,Nat.mul_one]at z ⊢;omega
theorem CU{j:lH}(h:j∈gh s l):∃x∈l,∃k,k<x.panels.toNat/\j=qx s x k:=by
 simp only[gh,ic,iP,fh,dT]at h;obtain⟨x,c,k,z,rfl⟩:=h;exact⟨x,c,k,z,rfl⟩
theorem lT{Q q:List Wt}(h:q∈cQ s Q):q=[]\/q=Q:=by
 rcases nJ h with h | h
 ·exact .inl (qN h)
 exact .inr h
theorem Ac{Q q:List Wt}{i:Nat}(h:(cQ s Q)[i]?=some q):(i=0/\q=Q)\/q=[]:=by
 by_cases e:i=0
 ·subst e;have hl:0<s.length:=by have:=ah h;rw[lS]at this;exact this
  rw[qy hl]at h;injection h with h;exact .inl ⟨rfl,h.symm⟩
 rw[cQ,bY (fun h=>e h.symm),ig]at h;split at h
 ·injection h with h;exact .inr h.symm
 cases h
theorem SZ.zero{s:List gI}{l:List Lt}{b:List Fl}{gs:List (List Nat)}(h1:cz s=0)(h2:cA l=0)(V:gs.map List.length=l.map fun x=>x.panels.toNat):SZ ⟨s,l,b,gs⟩ (fY s l):=by
 obtain⟨s1,s2⟩:=o5 h1;obtain⟨l1,l2,l3⟩:=oZ h2;have QC:gs.length=l.length:=by simpa using iX List.length V
 have kX:=mB (s:=s) V;have Fw:=pU (l:=l) (fun x I=>(l3 x I).2.1.2) l.length;have ok:∀w∈dh l l.length,yq ⟨s,l,b,gs⟩ w/\0<=w.1/\w.1<=1000000000:=fun w z=>by
  obtain⟨n,x,m,O,N,a3,rfl⟩:=pV z;obtain⟨r,hr⟩:=a8 (l:=gs) (i:=n) (by omega);have e:r.length=x.panels.toNat:=by
   have D:(gs.map List.length)[n]?=some r.length:=by rw[ao,hr];rfl
   rw[V,ao,N]at D;injection D with D;exact D.symm
  obtain⟨g,xd⟩:=a8 (l:=r) (i:=m) (by omega);exact⟨⟨n,m,r,g,rfl,rfl,hr,xd⟩,(l3 x (aj N)).2.2⟩
 have Y:∀(n:Nat) (j:lH),(gh s l)[n]?=some j->j.step=0/\j.visits.length=s.length/\(∀v∈j.visits,v=0)/\j.made.rework=0:=fun n j G=>by
  obtain⟨x,_,k,_,rfl⟩:=CU (aj G);exact⟨rfl,by simp[qx],fun v Z=>qN Z,rfl⟩
 have BU:∀f:Wt->Nat,eJ f (fY s l).queues=bK f (dh l l.length):=fun f=>Hb s1.1 f _;have JF:∀w,fx ⟨s,l,b,gs⟩ (fY s l) w<=180:=fun w=>by
  unfold fx;split
  ·rename_i j G;obtain⟨D,_,_,U⟩:=Y _ j G;rw[D,U];show (5-0:Int).toNat*s.length+(s.length-0)<=180;have:(5-0:Int).toNat=5:=rfl;rw[this];omega
  omega
 have JD:eW ⟨s,l,b,gs⟩ (fY s l)<=WD:=by
  have e0:WD=15000000:=rfl;have b1:bK (fun w=>4*fx ⟨s,l,b,gs⟩ (fY s l) w+2+fF (fY s l) w) (dh l l.length)<=723*(dh l l.length).length:=Bt fun w _=>by
   have:=JF w;have:fF (fY s l) w<=1:=by unfold fF;split<;>omega
   omega
  unfold eW;rw[BU];have b2:bK (fun w=>4*fx ⟨s,l,b,gs⟩ (fY s l) w+fF (fY s l) w) (fY s l).ends=0:=rfl;omega
 have hlen:oQ (cQ s (dh l l.length))<=20000:=by
  have O:=oR (l:=List.replicate s.length ([]:List Wt)) (i:=0) (q:=[]) (dh l l.length) (by rw[ig,qH s1.1]);have N:oQ (List.replicate s.length ([]:List Wt))=0:=by simp[oQ]
  rw[cQ];simp only[qJ]at O;omega
 refine⟨⟨lS _ _,by simp[fY],kX.symm,fun q J w z=>?_,?_,fun c hc=>?_,⟨Vd _,(by decide:(0:Int)<=1000000000000000)⟩,fun x I=>?_⟩,⟨s1.1,by show s.length<=1000;omega⟩,fun i x I=>?_,QC.symm,sY,fun q J=>?_,fun w z=>(by cases z),fun j G=>?_,fun p=>?_,fun i q w J z=>?_,fun w z=>(by cases z),?_,fun w z=>?_,?_⟩
 ·rcases lT J with rfl | rfl
  ·cases z
  exact (ok w z).1
 ·show oQ (cQ s (dh l l.length))+0<=500000;omega
 ·obtain⟨x,I,rfl⟩:=fh.1 hc;obtain⟨i,hi⟩:=uU.1 I;have:=(s2 i x hi).2.2.1;rw[mX,uX];omega
 ·obtain⟨i,hi⟩:=uU.1 I;have:=(s2 i x hi).2.1;omega
 ·have:=s2 i x I;omega
 ·rcases lT J with rfl | rfl
  ·exact sY
  exact nE _ _
 ·obtain⟨n,hn⟩:=uU.1 G;obtain⟨D,e2,e3,U⟩:=Y n j hn;exact⟨by rw[D];exact s1.1,e2,fun v Z=>by rw[e3 v Z];exact⟨Vd _,Vd _⟩,by rw[U];decide,by rw[U];decide⟩
 ·unfold qE;rw[BU];have:=uM p l l.length;have e:bK (fun w=>if w.2=p then 1 else 0) (fY s l).ends=0:=rfl;rw[e];have this:bK (fun w=>if w.2=p then 1 else 0) (dh l l.length)<=if 0<=p.1/\p.1<l.length then 1 else 0:=this;split at this<;>omega
 ·rcases Ac J with⟨rfl,rfl⟩ | rfl
  ·obtain⟨i,k,r,g,O,N,a3,a4⟩:=(ok w z).1;have hf:=gr gs i k r g a3 a4;obtain⟨j,G⟩:=a8 (l:=gh s l) (i:=pos gs i k) (by have:=ah hf;omega);refine⟨j,?_,(Y _ j G).1⟩;rw[bU,O,N,c8,c8];exact G
  cases z
 ·show 2*0+_<=_;omega
 ·rcases z with z | ⟨q,J,z⟩
  ·cases z
  rcases lT J with rfl | rfl
  ·cases z
  have:=(ok w z).2;omega
 show (0:Int)<=_;omega
def MC(s:List gI)(l:List Lt)(b:List Fl):Stat:=⟨s,l,b,l.map fun x=>List.replicate x.panels.toNat 0⟩
def pW(s:List gI)(l:List Lt)(b:List Fl):a_:=iV (MC s l b) (fY s l)
def jQ(s:List gI)(l:List Lt)(b:List Fl):List dQ×List Made×Int:=
 if cz s=0 then if cA l=0 then if de s l b=0 then (iO (pW s l b).done,(pW s l b).jobs.map lH.made,0) else ([],[],de s l b) else ([],[],cA l) else ([],[],cz s)
theorem SZ.pW{b:List Fl}(c:cz s=0)(z:cA l=0):SZ (MC s l b) (M.pW s l b):=SZ.iV (SZ.zero c z (by rw[ib];exact vz fun x _=>uX ..))
end M
end Go.Proofs.YtedjhhieekileaaGreatDoor
