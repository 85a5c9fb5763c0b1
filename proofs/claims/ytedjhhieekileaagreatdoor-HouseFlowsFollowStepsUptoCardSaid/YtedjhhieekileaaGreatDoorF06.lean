/- Part 6 of the proof of HouseFlowsFollowSteps. -/
import Derived.Test.YtedjhhieekileaaGreatDoorF05
import Derived.Lib.Bytealg
import Derived.Shelf.SlSortCmp.WholeK
import Derived.Deep.Slices
import Derived.Test.YtedjhhieekileaaGreatDoorCards
import Derived.Test.YtedjhhieekileaaGreatDoorTie
import Derived.WalkKit
import Derived.ProofKit
import Derived.OpenShut
import Derived.Deep.DeepHandedRow
import Derived.Lib.LaidTab
import Derived.LaidMore
import Derived.Lay
import Derived.Stop.Joined
import Derived.Stop.LaidErr
import Derived.MakeChecks
import Derived.Deep.Fields
import Derived.Carry
import Derived.DataShut
import Derived.Shelf.SlSortCmp.NoneTotal
import Derived.StillTailTactics
set_option linter.unusedVariables false
set_option linter.unusedSimpArgs false
set_option maxRecDepth 100000
set_option maxHeartbeats 8000000
namespace Go
abbrev Vb:=@Int.fdiv_eq_ediv_of_nonneg
abbrev UE:=@List.cons_lt_cons_iff
abbrev UF:=@decide_eq_true
abbrev Ud:=@List.map_take
abbrev UG:=@Array.getElem?_eq_none
abbrev UH:=@Go.Deep.hone_of
abbrev TM:=@Go.World.cell?_alloc_at
abbrev Tn:=@List.take_length
abbrev TN:=@Int.le_refl
end Go
namespace Go.Proofs.YtedjhhieekileaaGreatDoor
namespace M
open Go.AM Go.RowKit Go.Lib
def kT(a b:ByteArray):Bool:=Op.bytesLess a.data.toList b.data.toList
theorem kC{a b:ByteArray}:kT a b=true↔a.data.toList<b.data.toList:=by
 unfold kT;rw[Go.Proofs.bytesLess_eq];simp
theorem db(a:ByteArray):kT a a=false:=by
 rw[cr];intro h;exact List.lt_irrefl _ (kC.1 h)
theorem iA{a b c:ByteArray}(h1:kT a b=true)(h2:kT b c=true):kT a c=true:=kC.2 (List.lt_trans (kC.1 h1) (kC.1 h2))
theorem E5{a b:Nat}(h:a+b<4611686018427387904):(IntKind.u64.wrap ((a:Int)+(b:Int))).fdiv (2 ^ min (Int.toNat 1) IntKind.u64.bits)=(((a+b) / 2:Nat):Int):=by
 have h1:IntKind.u64.wrap ((a:Int)+(b:Int))=((a+b:Nat):Int):=by simp[IntKind.wrap,IntKind.bits,IntKind.signed];omega
 rw[h1];have h2:(2:Int) ^ min (Int.toNat 1) IntKind.u64.bits=2:=by decide
 rw[h2,Vb _ (by decide)];omega
def fV{α:Type}(p:α->Bool):List α->Nat->Int
 | [],_=>-1
 | x::r,k=>match p x with
  | true=>k
  | false=>fV p r (k+1)
variable {α:Type}
theorem lO{p:α->Bool}:∀{l:List α} {k:Nat},(∀x∈l,p x=false)->fV p l k=-1:=by
 intro l
 induction l with
 | nil=>intro k _;rfl
 | cons x l ih=>intro k h;rw[fV,h x (by simp)];exact ih fun y hy=>h y (by simp[hy])
theorem uE{p:α->Bool}:∀{l:List α} {i k:Nat} {x:α},l[i]?=some x->p x=true->(∀y∈l.take i,p y=false)->fV p l k=((k+i:Nat):Int):=by
 intro l
 induction l with
 | nil=>intro i k x h;simp at h
 | cons y l ih=>
  intro i k x h hp hn;cases i with
  | zero=>simp at h;subst h;rw[fV,hp];rfl
  | succ i=>
   rw[fV,hn y (by simp)];have:=ih (i:=i) (k:=k+1) (by simpa using h) hp fun z hz=>hn z (by simp[hz]);simp only[this];omega
theorem sM(p:α->Bool):∀(l:List α) (k:Nat),decide (0<=fV p l k)=l.any p:=by
 intro l
 induction l with
 | nil=>intro k;rfl
 | cons x l ih=>
  intro k;rw[fV,UC];cases p x with
  | true=>simp
  | false=>simpa using ih (k+1)
theorem GS{p:α->Bool}{l:List α}{i:Nat}{x:α}(hx:l[i]?=some x)(hp:p x=false)(h:∀y∈l.take i,p y=false):∀y∈l.take (i+1),p y=false:=by
 intro y hy;rw[bT hx,cX,n9]at hy;rcases hy with hy | rfl
 ·exact h y hy
 exact hp
theorem sO:∀a b:List UInt8,(Lib.compareBytes a b<0↔a<b)/\(Lib.compareBytes a b=0↔a=b)
 | [],[]=>by simp[Lib.compareBytes]
 | [],_::_=>by simp[Lib.compareBytes]
 | _::_,[]=>by simp[Lib.compareBytes]
 | x::a,y::b=>by
  have ih:=sO a b;unfold Lib.compareBytes;rw[UE,List.cons.injEq];by_cases e:x=y
  ·subst e;have hx:¬x<x:=UInt8.lt_irrefl x;simp[hx,ih.1,ih.2]
  rcases UInt8.lt_or_lt_of_ne e with h | h
  ·simp[e,h]
  have h2:¬x<y:=UInt8.not_lt.2 (UInt8.le_of_lt h);simp[e,h,h2]
theorem JH(a b:ByteArray):decide (Lib.compareBytes a.data.toList b.data.toList<0)=kT a b:=by
 rw[gU,kC,decide_eq_true_iff];exact (sO _ _).1
theorem cmp_eq(a b:ByteArray):Lib.compareBytes a.data.toList b.data.toList=0↔a=b:=by
 rw[(sO _ _).2];refine⟨fun h=>?_,fun h=>by rw[h]⟩;obtain⟨⟨x⟩⟩:=a;obtain⟨⟨y⟩⟩:=b;simpa using h
theorem x5(a b:ByteArray):aT C 64 [.pv (str a),.pv (str b)] (.p (i64 (Lib.compareBytes a.data.toList b.data.toList))) []:=
 iz [.string a,.string b] _ ⟨_,Tryz.func64,rfl,rfl⟩ fun S w _ _=>(Tryz.strings_Compare a b w).mono fun e w' h=>⟨h.1,by rw[h.2];exact Below.refl _ _⟩
def Qw(f:FuncId):PV:=.im (.func (.func f) #[] #[])
def sQ{α:Type}(f:α->ByteArray)(l:List α)(x:ByteArray):Nat:=(l.filter fun y=>kT (f y) x).length
def tD{α:Type}(f:α->ByteArray)(l:List α)(x:ByteArray):Bool:=l.any fun y=>decide (f y=x)
def sR{α:Type}(f:α->ByteArray)(l:List α)(x:ByteArray):Int:=fV (fun y=>decide (f y=x)) l 0
def gL{α:Type}(f:α->ByteArray)(l:List α):Prop:=l.Pairwise fun a b=>kT (f a) (f b)=true
theorem c_{f:α->ByteArray}{l:List α}(h:gL f l){i j:Nat}{a b:α}(ha:l[i]?=some a)(hb:l[j]?=some b)(F8:i<j):kT (f a) (f b)=true:=by
 obtain⟨hi,rfl⟩:=cL.1 ha;obtain⟨hj,rfl⟩:=cL.1 hb;exact oW.1 h i j hi hj F8
theorem uF{f:α->ByteArray}{l:List α}{x:ByteArray}{i:Nat}(hi:i<=l.length)(h1:∀(k:Nat) y,k<i->l[k]?=some y->kT (f y) x=true)(h2:∀(k:Nat) y,i<=k->l[k]?=some y->kT (f y) x=false):sQ f l x=i:=by
 unfold sQ;rw[<-nZ i l,ry,bZ];have e1:(l.take i).filter (fun y=>kT (f y) x)=l.take i:=List.filter_eq_self.2 fun y hy=>by
  obtain⟨k,hk⟩:=cf.1 hy;rw[cB]at hk;split at hk
  ·exact h1 k y (by assumption) hk
  cases hk
 have e2:(l.drop i).filter (fun y=>kT (f y) x)=[]:=List.filter_eq_nil_iff.2 fun y hy=>by
  obtain⟨k,hk⟩:=cf.1 hy;rw[fh]at hk;rw[h2 (i+k) y (by omega) hk];decide
 rw[e1,e2,cu];simp;omega
theorem gO{f:α->ByteArray}{l:List α}{x:ByteArray}:tD f l x=true↔∃y∈l,f y=x:=by simp[tD]
theorem oU{a b:ByteArray}(h:a=b):kT a b=false:=by rw[h,db]
theorem GU{f:α->ByteArray}{l:List α}{x:ByteArray}{y:α}{a:Nat}(hs:gL f l)(q3:∀(k:Nat) z,k<a->l[k]?=some z->kT (f z) x=true)(hy:l[a]?=some y)(Ic:kT (f y) x=false)(bO:¬f y=x):tD f l x=false:=by
 rw[cr];intro h4;obtain⟨z,hz,Mr⟩:=gO.1 h4;obtain⟨k,hk⟩:=cf.1 hz;rcases gC k a with h | h | h
 ·have:=q3 k z h hk;rw[oU Mr]at this;cases this
 ·subst h;rw[hy]at hk;injection hk with hk;exact bO (by rw[hk];exact Mr)
 have:=c_ hs hy hk h;rw[Mr,Ic]at this;cases this
theorem x6{f:α->ByteArray}{l:List α}{x:ByteArray}(hs:gL f l):sR f l x=if tD f l x=true then (sQ f l x:Int) else -1:=by
 split
 ·rename_i h;obtain⟨y,hy,Ic⟩:=gO.1 h;obtain⟨k,hk⟩:=cf.1 hy;have SH:=(cL.1 hk).1;have b:sQ f l x=k:=uF (by omega) (fun j z hj hz=>by rw[<-Ic];exact c_ hs hz hk hj) (fun j z hj hz=>by
   by_cases e:j=k
   ·subst e;rw[hk]at hz;injection hz with hz;rw[<-hz];exact oU Ic
   rw[cr];intro h2;have:=iA (c_ hs hk hz (by omega)) h2;rw[oU Ic]at this;cases this)
  rw[b,sR,uE (p:=fun y=>decide (f y=x)) hk (by simp[Ic]) (fun z hz=>?_)]
  ·omega
  obtain⟨j,hj⟩:=cf.1 hz;rw[cB]at hj;split at hj
  ·have:=c_ hs hj hk (by assumption);simp only[wi];intro e;rw[e,Ic,db]at this;cases this
  cases hj
 rename_i h;exact lO fun z hz=>by
  simp only[wi];exact fun e=>h (gO.2 ⟨z,hz,e⟩)
theorem E6{f:α->ByteArray}{l:List α}{x:ByteArray}(h:0<=sR f l x):∃(k:Nat) (y:α),sR f l x=k/\l[k]?=some y/\f y=x:=by
 have key:∀(l:List α) (n:Nat),fV (fun y=>decide (f y=x)) l n=-1\/∃(k:Nat) (y:α),fV (fun y=>decide (f y=x)) l n=((n+k:Nat):Int)/\l[k]?=some y/\f y=x:=by
  intro l
  induction l with
  | nil=>exact fun n=>.inl rfl
  | cons a l ih=>
   intro n;rw[fV];cases h:decide (f a=x) with
   | true=>exact .inr ⟨0,a,rfl,rfl,by simpa using h⟩
   | false=>
    rcases ih (n+1) with e | ⟨k,y,e1,e2,e3⟩
    ·exact .inl e
    exact .inr ⟨k+1,y,by simp only;rw[e1];congr 1;omega,by simpa using e2,e3⟩
 rcases key l 0 with e | ⟨k,y,e1,e2,e3⟩
 ·rw[sR,e]at h;omega
 exact⟨k,y,by rw[sR,e1,cV],e2,e3⟩
theorem E7{f:α->ByteArray}{l:List α}{x:ByteArray}:decide (sR f l x<0)=!tD f l x:=by
 cases h:tD f l x with
 | true=>
  obtain⟨y,hy,Ic⟩:=gO.1 h;simp only[vz,wi];intro h2;have e:(l.any fun y=>decide (f y=x))=true:=h;rw[<-sM _ l 0]at e;have e2:fV (fun y=>decide (f y=x)) l 0<0:=h2;simp at e;omega
 | false=>
  simp only[Bool.not_false,dS];rw[sR,lO fun z hz=>by
   simp only[wi];exact fun e=>by rw[gO.2 ⟨z,hz,e⟩]at h;cases h]
  decide
theorem Bl(p:Lt)(s:ByteArray):aT C 63 [.pv (.ag (jK p)),.pv (str s)] (.p (i64 (Lib.compareBytes p.name.data.toList s.data.toList))) []:=by
 refine fW hC Tryz.func63 rfl (by kernel_rfl) fun _=>?_;refine⟨_,_,(x5 p.name s),?_,trivial⟩;rfl
theorem zX(l:List Lt)(x:ByteArray)(hs:gL Lt.name l)(hN:l.length<=1000000000):aT C 62 [.pv (.sl (l.map jK)),.pv (str x),.pv (Qw 63)] (.tu [i64 (sQ Lt.name l x),bool (tD Lt.name l x)]) []:=by
 refine fW hC Tryz.func62 rfl (by kernel_rfl) fun _=>?_;have lm:=cH l jK;refine d_ (fun p:Nat×Nat=>p.1<=p.2/\p.2<=l.length/\(∀(k:Nat) y,k<p.1->l[k]?=some y->kT (Lt.name y) x=true)/\(∀(k:Nat) y,p.2<=k->l[k]?=some y->kT (Lt.name y) x=false)) (fun p=>[(0,.p (.sl (l.map jK))),(1,.p (str x)),(2,.p (Qw 63)),(8,.p (i64 l.length)),(9,.p (i64 p.1)),(10,.p (i64 p.2))]) (fun _=>[]) (fun p=>p.2-p.1) (0,l.length) _ (aY.refl _ _) ⟨bd _,aC _,fun k y h=>by omega,fun k y h1 h2=>by have:=(cL.1 h2).1;simp only at h1;omega⟩ ⟨rfl,rfl,rfl,kv (by rw[lm]),rfl,kv (by rw[lm]),trivial⟩ trivial fun ⟨a,b⟩ hi t h=>?_;obtain⟨q1,q2,q3,q4⟩:=hi;simp only at q1 q2 q3 q4;apply iW<;>intro h1<;>try simp only[zB]at h1
 ·have hm:=E5 (a:=a) (b:=b) (by omega);obtain⟨y,hy⟩:=a8 (l:=l) (i:=(a+b) / 2) (by omega);refine⟨⟨by simp only;omega,by simp only;omega⟩,⟨by decide,by decide⟩,⟨by simp only;rw[hm];omega,by simp only;rw[hm];omega⟩,(jK y),(idx hm hy),_,_,(Bl y x),?_⟩;have hc:=JH y.name x;apply iW<;>intro h2
  ·have h2:kT (Lt.name y) x=true:=by rw[<-hc];exact UF h2
   refine⟨⟨by simp only;rw[hm];omega,by simp only;rw[hm];omega⟩,((a+b) / 2+1,b),_,aY.refl _ _,⟨by simp only;omega,q2,fun k z hk hz=>?_,q4⟩,by simp only;omega,⟨rfl,rfl,rfl,rfl,kv (by simp only;rw[hm];omega),Z,Y⟩,trivial⟩;by_cases e:k=(a+b) / 2
   ·subst e;rw[hy]at hz;injection hz with hz;subst hz;exact h2
   exact iA (c_ hs hz hy (by simp only at hk;omega)) h2
  have h2:kT (Lt.name y) x=false:=by rw[<-hc];exact decide_eq_false h2
  refine⟨(a,(a+b) / 2),_,aY.refl _ _,⟨by simp only;omega,by simp only;omega,q3,fun k z hk hz=>?_⟩,by simp only;omega,⟨rfl,rfl,rfl,rfl,rfl,kv hm,trivial⟩,trivial⟩;by_cases e:k=(a+b) / 2
  ·subst e;rw[hy]at hz;injection hz with hz;subst hz;exact h2
  rw[cr];intro dv;rw[iA (c_ hs hy hz (by simp only at hk;omega)) dv]at h2;cases h2
 have e:a=b:=by omega
 subst e;have hb:=uF q2 q3 q4;apply iW<;>intro h2<;>try simp only[zB]at h2
 ·obtain⟨y,hy⟩:=a8 (l:=l) (i:=a) (by omega);refine⟨(jK y),(idx rfl hy),_,_,(Bl y x),?_,trivial⟩;have hq:=cmp_eq y.name x;have h4:tD Lt.name l x=decide (Lib.compareBytes y.name.data.toList x.data.toList=0):=by
   by_cases e:y.name=x
   ·rw[UF (hq.2 e)];exact gO.2 ⟨y,aj hy,e⟩
   rw[decide_eq_false (fun h=>e (hq.1 h))];exact GU hs q3 hy (q4 a y (aC _) hy) e
  rw[hb,h4];rfl
 refine⟨?_,trivial⟩;have h4:tD Lt.name l x=false:=by
  rw[cr];intro h4;obtain⟨z,hz,Mr⟩:=gO.1 h4;obtain⟨k,hk⟩:=cf.1 hz;have:=q3 k z (by have:=(cL.1 hk).1;omega) hk;rw[oU Mr]at this;cases this
 rw[hb,h4];rfl
theorem x7(l:List Lt)(x:ByteArray)(hs:gL Lt.name l)(hN:l.length<=1000000000):aT C 37 [.pv (.sl (l.map jK)),.pv (str x)] (.p (i64 (sR Lt.name l x))) []:=by
 refine fW hC Tryz.func37 rfl (by kernel_rfl) fun _=>?_;have hp:=x6 (x:=x) hs;refine⟨_,_,(zX l x hs hN),iW ?_ ?_⟩<;>intro h1<;>try simp only[zB]at h1
 ·refine⟨?_,trivial⟩;rw[hp,af (by simp[h1])];rfl
 refine⟨?_,trivial⟩;rw[hp,ae (by simpa using h1)]
theorem GV{f:α->List PV}{n:Nat}{l:List α}(h:∀x,(f x).length=n):∀r∈l.map f,r.length=n:=fun r hr=>by
 obtain⟨z,_,rfl⟩:=aV.1 hr;exact h z
theorem JI(x y:UInt8):x<y\/x=y\/y<x:=by
 rcases gC x.toNat y.toNat with h | h | h
 ·exact .inl h
 ·exact .inr (.inl (UInt8.toNat_inj.1 h))
 exact .inr (.inr h)
theorem E8:∀a b:List UInt8,a<b\/a=b\/b<a
 | [],[]=>.inr (.inl rfl)
 | [],_::_=>.inl (by simp)
 | _::_,[]=>.inr (.inr (by simp))
 | x::a,y::b=>by
  rw[UE,UE,List.cons.injEq];rcases JI x y with h | h | h
  ·exact .inl (.inl h)
  ·subst h;rcases E8 a b with h | h | h
   ·exact .inl (.inr ⟨rfl,h⟩)
   ·exact .inr (.inl ⟨rfl,h⟩)
   exact .inr (.inr (.inr ⟨rfl,h⟩))
  exact .inr (.inr (.inl h))
theorem Bm(a b:ByteArray):kT a b=!(kT b a||decide (b=a)):=by
 rw[gU];simp only[j8,fQ,wi];constructor
 ·intro h;refine⟨?_,fun e=>by rw[e,db]at h;cases h⟩;rw[cr];intro h2;have:=iA h h2;rw[db]at this;cases this
 rintro⟨h1,h2⟩;rcases E8 a.data.toList b.data.toList with h | h | h
 ·exact kC.2 h
 ·exfalso;apply h2;obtain⟨⟨x⟩⟩:=a;obtain⟨⟨y⟩⟩:=b;simpa using h.symm
 rw[kC.2 h]at h1;cases h1
theorem Ms{a b:ByteArray}(h:Op.bytesLess a.data.toList b.data.toList=true\/a=b):¬kT b a=true:=by
 rw[Bm,(show (kT a b||decide (a=b))=true by simpa [kT] using h)];decide
theorem JJ{a b:ByteArray}(h:Op.bytesLess a.data.toList b.data.toList=false/\¬a=b):kT b a=true:=by
 rw[Bm,(show (kT a b||decide (a=b))=false by simpa [kT] using h)];rfl
def mW{α:Type}(f:List α->α->Int):List α->List α->Int
 | _,[]=>0
 | p,a::l=>if f p a=0 then mW f (p++[a]) l else f p a
theorem E9{f:List α->α->Int}{l:List α}{i:Nat}{a:α}(h:l[i]?=some a):mW f (l.take i) (l.drop i)=if f (l.take i) a=0 then mW f (l.take (i+1)) (l.drop (i+1)) else f (l.take i) a:=by
 have hi:i<l.length:=ah h;rw[aM hi]at h;injection h with h;have e1:l.drop i=a::l.drop (i+1):=by rw[<-h];exact oX hi
 have e2:l.take (i+1)=l.take i++[a]:=by rw[<-h];exact bT (aM hi)
 rw[e1,mW,e2]
theorem oV{f:List α->α->Int}{l:List α}{i:Nat}{a:α}{c:Int}(h:l[i]?=some a)(hi:mW f [] l=mW f (l.take i) (l.drop i))(e:f (l.take i) a=c)(hc:c≠0):mW f [] l=c:=by
 rw[hi,E9 h,af (by rw[e];exact hc),e]
theorem lP{f:List α->α->Int}{l:List α}{i:Nat}{a:α}(h:l[i]?=some a)(hi:mW f [] l=mW f (l.take i) (l.drop i))(e:f (l.take i) a=0):mW f [] l=mW f (l.take (i+1)) (l.drop (i+1)):=by
 rw[hi,E9 h,ae e]
theorem wx{f:List α->α->Int}{l:List α}{i:Nat}(h:l.length<=i)(hi:mW f [] l=mW f (l.take i) (l.drop i)):mW f [] l=0:=by
 rw[hi,List.drop_of_length_le h];rfl
def uG(s t:gI):Bool:=decide (t.name=s.name)
def eK(p:List gI)(s:gI):Int:=if jh s.name=true then (if p.any (uG s)=true then 7 else if pK s.minutes 1 10000=true/\pK s.machines 1 20=true/\pK s.back (-1) p.length=true then 0 else 1) else 5
def cz(l:List gI):Int:=if l.length=0 then 9 else if 30<l.length then 2 else mW eK [] l
def fq(p:List Lt)(x:Lt):Int:=if jh x.name=true then (if pK x.panels 1 200=true/\pK x.at_ 0 1000000000=true then (match p.getLast? with | some y=>if kT y.name x.name=true then 0 else 8 | none=>0) else 1) else 5
def cA(l:List Lt):Int:=if 100<l.length then 2 else mW fq [] l
def CJ(f:Fl):List PV:=[str f.lot,i64 f.panel,i64 f.step,i64 f.visit]
def Ul(a b:Fl):Bool:=decide (b.lot=a.lot/\b.panel=a.panel/\b.step=a.step/\b.visit=a.visit)
def pQ(l:List Lt)(f:Fl):Bool:=l.any fun x=>decide (x.name=f.lot)&&pK f.panel 0 (x.panels-1)
def fX(s:List gI)(l:List Lt)(p:List Fl)(f:Fl):Int:=if pQ l f=true/\pK f.step 0 (s.length-1)=true then (if pK f.visit 1 6=true then (if p.any (Ul f)=true then 7 else 0) else 1) else 9
def de(s:List gI)(l:List Lt)(b:List Fl):Int:=if 2000<b.length then 2 else mW (fX s l) [] b
theorem JK(s t:gI):aT C 27 [.pv (.ag (gq t)),.pv (.ip (gq s))] (.p (bool (uG s t))) []:=by
 refine fW hC Tryz.func27 rfl (by kernel_rfl) fun _=>?_;refine⟨?_,trivial⟩;rfl
theorem zY(l:List gI)(hN:l.length<=1000000)(s:gI):aT C 53 [.pv (.sl (l.map gq)),.pv (.fn 27 [.ip (gq s)])] (.p (i64 (fV (uG s) l 0))) []:=by
 refine fW hC Tryz.func53 rfl (by kernel_rfl) fun _=>?_;have lm:=cH l gq;refine d_ (fun i:Nat=>i<=l.length/\∀z∈l.take i,uG s z=false) (fun i=>[(0,.p (.sl (l.map gq))),(1,.p (.fn 27 [.ip (gq s)])),(7,.p (i64 (l.map gq).length)),(8,.p (i64 i))]) (fun _=>[]) (fun i=>l.length-i) 0 _ (aY.refl _ _) ⟨bd _,by simp⟩ ⟨Z,Z,Z,Z,Y⟩ trivial fun i hi t h=>?_;apply iW<;>intro h1<;>try simp only[zB]at h1
 ·rw[lm]at h1;obtain⟨r,hr⟩:=a8 (l:=l) (i:=i) (by omega);refine⟨(gq r),(idx rfl hr),_,_,(JK s r),iW ?_ ?_⟩<;>intro h2<;>try simp only[zB]at h2
  ·refine⟨?_,trivial⟩;rw[uE hr h2 hi.2,cV]
  exact⟨wO (by omega),(i+1),_,aY.refl _ _,⟨by omega,GS hr h2 hi.2⟩,by omega,⟨Z,Z,Z,Z,Y⟩,trivial⟩
 rw[lm]at h1;refine⟨?_,trivial⟩;have h2:=hi.2;rw[vm (by omega)]at h2;rw[lO h2];rfl
theorem tE(l:List gI)(hN:l.length<=1000000)(s:gI):aT C 26 [.pv (.sl (l.map gq)),.pv (.fn 27 [.ip (gq s)])] (.p (bool (l.any (uG s)))) []:=by
 refine fW hC Tryz.func26 rfl (by kernel_rfl) fun _=>?_;refine⟨_,_,(zY l hN s),?_,trivial⟩;rw[<-sM _ l 0];rfl
theorem Ie{s:ByteArray}(h:s.size<4294967281):s.size<=9223372036854775807:=by omega
theorem ft(l:List gI)(hS:∀s∈l,s.name.size<4294967281)(hN:l.length<=140737488355328):aT C 8 [.pv (.sl (l.map gq))] (.p (i64 (cz l))) []:=by
 refine fW hC Tryz.func8 rfl (by kernel_rfl) fun _=>?_;have lm:=cH l gq;apply iW<;>intro g0<;>try simp only[zB]at g0
 ·refine⟨?_,trivial⟩;rw[cz,ae (by omega)];rfl
 apply iW<;>intro g1<;>try simp only[zB]at g1
 ·refine⟨?_,trivial⟩;rw[cz,af (by omega),ae (by omega)];rfl
 rw[cz,af (by omega),af (by omega)];refine d_ (fun i:Nat=>i<=l.length/\mW eK [] l=mW eK (l.take i) (l.drop i)) (fun i=>[(0,.p (.sl (l.map gq))),(11,.p (.sl (l.map gq))),(12,.p (i64 l.length)),(13,.p (i64 i))]) (fun _=>[]) (fun i=>l.length-i) 0 _ (aY.refl _ _) ⟨bd _,rfl⟩ ⟨rfl,rfl,qU (fun n:Nat=>AV.p (i64 n)) lm,Z,Y⟩ trivial fun i hi t h=>?_;apply iW<;>intro h1<;>try simp only[zB]at h1
 ·obtain⟨s,hs⟩:=a8 (l:=l) (i:=i) (by omega);have lt:(l.take i).length=i:=by rw[cu];omega
  have bad:∀c:Int,eK (l.take i) s=c->c≠0->mW eK [] l=c:=fun c=>oV hs hi.2;refine⟨(gq s),(idx rfl hs),_,_,(ir s.name (Ie (hS s (aj hs)))),iW ?_ ?_⟩<;>intro h2<;>try simp only[zB]at h2
  ·refine⟨?_,trivial⟩;rw[bad 5 (by rw[eK,af (by simp[h2])]) (by decide)];rfl
  have w1:jh s.name=true:=by simpa using h2
  have et:(l.map gq).take i=(l.take i).map gq:=Ud.symm;refine⟨⟨by omega,by omega,by omega,GV fun _=>rfl⟩,?_⟩;have iQ:=tE (l.take i) (by omega) s;rw[<-et]at iQ;refine⟨_,_,iQ,iW ?_ ?_⟩<;>intro h3<;>try simp only[zB]at h3
  ·refine⟨?_,trivial⟩;rw[bad 7 (by rw[eK,ae w1,ae (by simpa using h3)]) (by decide)];rfl
  have w2:¬((l.take i).any (uG s)=true):=by simpa using h3
  have b1:¬(pK s.minutes 1 10000=true/\pK s.machines 1 20=true/\pK s.back (-1) i=true)->mW eK [] l=1:=fun h=>bad 1 (by rw[eK,ae w1,af w2,lt,af h]) (by decide);refine⟨_,_,(cI s.minutes 1 10000),iW ?_ ?_⟩<;>intro h4<;>try simp only[zB]at h4
  ·refine⟨?_,trivial⟩;rw[b1 (fun h=>by simp_all)];rfl
  refine⟨_,_,(cI s.machines 1 20),iW ?_ ?_⟩<;>intro h5<;>try simp only[zB]at h5
  ·refine⟨?_,trivial⟩;rw[b1 (fun h=>by simp_all)];rfl
  refine⟨_,_,(cI s.back (-1) i),iW ?_ ?_⟩<;>intro h6<;>try simp only[zB]at h6
  ·refine⟨?_,trivial⟩;rw[b1 (fun h=>by simp_all)];rfl
  exact⟨wO (by omega),(i+1),_,aY.refl _ _,⟨by omega,lP hs hi.2 (by rw[eK,ae w1,af w2,lt,ae ⟨by simpa using h4,by simpa using h5,by simpa using h6⟩])⟩,by omega,⟨Z,Z,Z,Z,Y⟩,trivial⟩
 refine⟨?_,trivial⟩;rw[wx (by omega) hi.2];rfl
theorem Bn{l:List α}{i:Nat}{y:α}(h0:0<i)(h:l[i-1]?=some y):(l.take i).getLast?=some y:=by
 have e:l.take i=l.take (i-1)++[y]:=by
  have:=bT h
  rwa [show i-1+1=i by omega]at this
 rw[e];simp
theorem gS(l:List Lt)(hS:∀s∈l,s.name.size<4294967281)(hN:l.length<=140737488355328):aT C 10 [.pv (.sl (l.map jK))] (.p (i64 (cA l))) []:=by
 refine fW hC Tryz.func10 rfl (by kernel_rfl) fun _=>?_;have lm:=cH l jK;apply iW<;>intro g1<;>try simp only[zB]at g1
 ·refine⟨?_,trivial⟩;rw[cA,ae (by omega)];rfl
 rw[cA,af (by omega)];refine d_ (fun i:Nat=>i<=l.length/\mW fq [] l=mW fq (l.take i) (l.drop i)) (fun i=>[(0,.p (.sl (l.map jK))),(8,.p (.sl (l.map jK))),(9,.p (i64 l.length)),(10,.p (i64 i))]) (fun _=>[]) (fun i=>l.length-i) 0 _ (aY.refl _ _) ⟨bd _,rfl⟩ ⟨rfl,rfl,qU (fun n:Nat=>AV.p (i64 n)) lm,Z,Y⟩ trivial fun i hi t h=>?_;apply iW<;>intro h1<;>try simp only[zB]at h1
 ·obtain⟨s,hs⟩:=a8 (l:=l) (i:=i) (by omega);have bad:∀c:Int,fq (l.take i) s=c->c≠0->mW fq [] l=c:=fun c=>oV hs hi.2;refine⟨(jK s),(idx rfl hs),_,_,(ir s.name (Ie (hS s (aj hs)))),iW ?_ ?_⟩<;>intro h2<;>try simp only[zB]at h2
  ·refine⟨?_,trivial⟩;rw[bad 5 (by rw[fq,af (by simp[h2])]) (by decide)];rfl
  have w1:jh s.name=true:=by simpa using h2
  have b1:¬(pK s.panels 1 200=true/\pK s.at_ 0 1000000000=true)->mW fq [] l=1:=fun h=>bad 1 (by rw[fq,ae w1,af h]) (by decide);refine⟨_,_,(cI s.panels 1 200),iW ?_ ?_⟩<;>intro h4<;>try simp only[zB]at h4
  ·refine⟨?_,trivial⟩;rw[b1 (fun h=>by simp_all)];rfl
  refine⟨_,_,(cI s.at_ 0 1000000000),iW ?_ ?_⟩<;>intro h5<;>try simp only[zB]at h5
  ·refine⟨?_,trivial⟩;rw[b1 (fun h=>by simp_all)];rfl
  have w2:pK s.panels 1 200=true/\pK s.at_ 0 1000000000=true:=⟨by simpa using h4,by simpa using h5⟩;apply iW<;>intro h6<;>try simp only[zB]at h6
  ·obtain⟨y,hy⟩:=a8 (l:=l) (i:=i-1) (by omega);have hl:=Bn (by omega) hy;refine⟨wO (by omega),(jK y),(idx (show (i:Int)-1=((i-1:Nat):Int) by omega) hy),iW ?_ ?_⟩<;>intro h7<;>try simp only[zB]at h7
   ·refine⟨?_,trivial⟩;rw[bad 8 (by rw[fq,ae w1,ae w2,hl];exact af (Ms (by simpa using h7))) (by decide)];rfl
   exact⟨wO (by omega),(i+1),_,aY.refl _ _,⟨by omega,lP hs hi.2 (by rw[fq,ae w1,ae w2,hl];exact ae (JJ (by simpa using h7)))⟩,by omega,⟨Z,Z,Z,Z,Y⟩,trivial⟩
  have h0:i=0:=by omega
  exact⟨wO (by omega),(i+1),_,aY.refl _ _,⟨by omega,lP hs hi.2 (by rw[fq,ae w1,ae w2,h0];rfl)⟩,by omega,⟨Z,Z,Z,Z,Y⟩,trivial⟩
 refine⟨?_,trivial⟩;rw[wx (by omega) hi.2];rfl
end M
end Go.Proofs.YtedjhhieekileaaGreatDoor
namespace Go.AM
open Go.RowKit
variable {k:Nat}
theorem wA{α:Type}:∀{L:List (List α)} {a:Nat} {r:List α} {j:Nat} {v:α},(∀r∈L,r.length=k)->L[a]?=some r->r[j]?=some v->L.flatten[a*k+j]?=some v:=by
 intro L
 induction L with
 | nil=>intro a r j v _ h;simp at h
 | cons x L ih=>
  intro a r j v hk h1 h2;have hx:=hk x (by simp);cases a with
  | zero=>
   simp at h1;subst h1;rw[SX,Nat.zero_mul,cV,bQ (ah h2)];exact h2
  | succ a=>
   rw[SX,bR,bY (by omega)];have:=ih (a:=a) (r:=r) (j:=j) (v:=v) (fun r hr=>hk r (by simp[hr])) (by simpa using h1) h2;rw[<-this];congr 1;omega
theorem lQ{α:Type}:∀{L:List (List α)},(∀r∈L,r.length=k)->L.flatten.length=L.length*k:=by
 intro L
 induction L with
 | nil=>intro _;simp
 | cons x L ih=>
  intro hk;rw[SX,bZ,ih fun r hr=>hk r (by simp[hr]),hk x (by simp),cD,bR];omega
def bG(L:List (List Value)):List (List PV):=L.map fun r=>r.map PV.im
variable {L:List (List Value)}
theorem CL{P:Program}{S:Nat->Prop}{w:World}(hk:∀r∈L,r.length=k){xs:List Value}(hl:xs.length=L.length*k)(h:∀(a:Nat) r (j:Nat) x,(bG L)[a]?=some r->r[j]?=some x->∃u,xs[a*k+j]?=some u/\ay S w x u):xs=L.flatten:=by
 have Ko:=lQ hk;apply fj;intro q;by_cases hq:q<L.length*k
 ·have FZ:0<k:=Nat.pos_of_ne_zero fun e=>by rw[e]at hq;simp at hq
  have ha:q / k<L.length:=(qN FZ).2 hq;have hj:q % k<k:=qM _ FZ;have hr:L[q / k]?=some L[q / k]:=aM ha;have nP:=hk _ (qL ha);have hv:L[q / k][q % k]?=some (L[q / k][q % k]'(by omega)):=aM _;have e:q / k*k+q % k=q:=by rw[aR];exact Nat.div_add_mod q k
  obtain⟨u,h1,h2⟩:=h (q / k) _ (q % k) _ (by unfold bG;rw[ao,hr];rfl) (by rw[ao,hv];rfl);rw[e]at h1;have h3:=wA hk hr hv;rw[e]at h3;rw[h1,h3,h2.bc]
 rw[dI (by omega),dI (by omega)]
theorem CM{S:Nat->Prop}{w:World}(hk:∀r∈L,r.length=k):∀(a:Nat) r (j:Nat) x,(bG L)[a]?=some r->r[j]?=some x->∃u,L.flatten[a*k+j]?=some u/\ay S w x u:=by
 intro a r j x h1 h2;unfold bG at h1;rw[ao]at h1;obtain⟨r0,h3,rfl⟩:=az.1 h1;rw[ao]at h2;obtain⟨v,h4,rfl⟩:=az.1 h2;exact⟨v,wA hk h3 h4,.im v⟩
theorem GW(hk:∀r∈L,r.length=k):∀r∈bG L,r.length=k:=by
 intro r hr;obtain⟨r0,h,rfl⟩:=aV.1 hr;rw[Al,hk r0 h]
def tF(w:World)(g n:Nat)(F:Array Value)(os:Array Obj):World:=Sort.grow (Sort.putRow id (Sort.ahead w n) g 0 F) os
theorem zZ(w:World)(g n:Nat)(F:Array Value)(os:Array Obj):(tF w g n F os).os=w.os/\(tF w g n F os).tape=w.tape/\(tF w g n F os).output=w.output/\w.heap.size<=(tF w g n F os).heap.size/\∀k,k<w.heap.size->(tF w g n F os).heap[k]?=if k=g then (w.heap[k]?).map (Sort.onCells (Sort.putCells id 0 F)) else w.heap[k]?:=by
 refine⟨rfl,rfl,rfl,?_,fun k hk=>?_⟩
 ·simp[tF,Sort.grow,Sort.putRow,Sort.mapBlock,Sort.ahead]
 simp only[tF,Sort.grow,Sort.putRow,Sort.mapBlock,Sort.ahead];rw[vp (by simpa using hk),qR];by_cases e:g=k
 ·rw[ae e,ae e.symm]
 rw[af e,af fun h=>e h.symm]
theorem wB(F cur:Array Value)(h:F.size<=cur.size):(Sort.putCells id 0 F cur).size=cur.size/\(Sort.putCells id 0 F cur).toList.take F.size=F.toList:=by
 refine⟨by simp[Sort.putCells],?_⟩;apply fj;intro j;rw[cB];split
 ·rename_i hj;rw[cg,cg];simp only[Sort.putCells,Array.getElem?_mapIdx];rw[bE (by omega:j<cur.size),bE hj,eM,ae ⟨bd _,by omega⟩,Nat.sub_zero,getElem!_pos F j hj];rfl
 rename_i hj;rw[dI (by simpa using hj)]
theorem CN{w w':World}{e:TypeId}{es bW:List (List PV)}{v0:Value}{zs:List Value}(hs:w.heap.size<=w'.heap.size)(h:∀g,bH v0=some g->g<w.heap.size/\Mv w (.row e es::zs.map fun a=>.pv (.im a)) (#[v0]++zs.toArray) g):T4 w w' (.row e es::zs.map fun a=>.pv (.im a)) [.row bW] (#[v0]++zs.toArray):=by
 have Pn:∀i g,cq w' (.row e es::zs.map fun a=>.pv (.im a)) [.row bW] (#[v0]++zs.toArray).toList i g->i=0/\bH v0=some g:=fun i g hg=>by
  simp only[vo]at hg;cases i with
  | zero=>exact⟨rfl,al rfl hg.2⟩
  | succ i=>exact (rk zs i g hg).elim
 exact⟨fun i g hg=>by obtain⟨h1,h2⟩:=h g (Pn i g hg).2;exact⟨bg h1 hs,.inr h2⟩,fun i j g hi hj=>by rw[(Pn i g hi).1,(Pn j g hj).1]⟩
theorem z6{C:Ctx}(hC:aL C){f:FuncId}(e:TypeId)(ti:TI)(hT:C.T e=some ti)(FZ:0<ti.size)(zs:List Value)(L L':List (List Value))(hL:∀r∈L,r.length=ti.size)(Nk:∀r∈L',r.length=ti.size)(hlen:L'.length=L.length)
  (h1:∀r∈L',∀v∈r,v.oneCell'=true) (hf:vX C f)
  (hnil:L=[]->∀w,Calls C.P f (#[.slice none 0 0]++zs.toArray) w fun e' w'=>e'=.returned (.tuple #[])/\w'=w)
  (h:∀S w bH cap,C.E S w->bH<w.heap.size->L.length<=cap->(∀j v,L.flatten[j]?=some v->w.cell? ⟨bH,j,none⟩=some v/\w.frozen? ⟨bH,j,none⟩=false)->
   Calls C.P f (#[.slice (some ⟨bH,0,none⟩) L.length cap]++zs.toArray) w fun e' w'=>e'=.returned (.tuple #[])/\∃n os,w'=tF w bH n L'.flatten.toArray os):
  aT C f (.row e (bG L)::zs.map fun a=>.pv (.im a)) (.tu []) [.row (bG L')]:=by
 refine⟨hf,fun S w vs hE hS hl hr _=>?_⟩;obtain⟨v0,vr,rfl⟩:∃v0 vr,vs=#[v0]++vr:=by
  obtain⟨l⟩:=vs;cases l with
  | nil=>simp at hl
  | cons v0 l=>exact⟨v0,⟨l⟩,by simp⟩
 have IS:vr=zs.toArray:=rj (S:=S) (w:=w) (P:=C.P) (by simp at hl ⊢;omega) fun j x v hx hv=>hr (j+1) x v (by simpa using hx) (by rw[l9 (by simp)];simpa using hv);subst IS;have ai:an C.P w (ay S w) e (bG L) v0/\∀g,bH v0=some g->¬S g:=hr 0 _ v0 rfl (by simp);obtain⟨⟨i,xs,hi,hpos,hown,SI,ga,hcell⟩,Qx⟩:=ai;obtain⟨info,z,g1,g2,_⟩:=hC.eL e ti hT;rw[hi]at g1;injection g1 with g1;subst g1;have DI:(bG L).length=L.length:=Al ..;have GX:(bG L').length=L.length:=by rw[<-hlen];exact Al ..
 have hx:xs=L.flatten:=CL (P:=C.P) (k:=i.size) (by rw[g2];exact hL) (by rw[<-DI];exact hown.1) hcell;have Ln:∀g,bH v0=some g->Mv w (.row e (bG L)::zs.map fun a=>.pv (.im a)) (#[v0]++zs.toArray) g:=fun g hg=>⟨0,_,v0,rfl,by simp,rfl,.inl hg⟩;have tail:∀w':World,jk S w' C.P (.row e (bG L)) (.row (bG L')) v0->eV S w' C.P (.row e (bG L)::zs.map fun a=>.pv (.im a)) [.row (bG L')] (#[v0]++zs.toArray).toList:=fun w' C4=>by
  simp only[vo];exact⟨C4,vY zs⟩
 have Qy:∀w':World,w.heap.size<=w'.heap.size->T4 w w' (.row e (bG L)::zs.map fun a=>.pv (.im a)) [.row (bG L')] (#[v0]++zs.toArray):=fun w' hs=>CN hs (fun g hg=>⟨(hown.lt g (by rw[cm (bP hown).choose_spec.choose_spec];exact hg)).2,Ln g hg⟩);rcases hown.2 with⟨q1,q2⟩ | ⟨g,cap,cur,q1,q2,q3,q4,q5,q6,q7⟩
 ·have Ea:L=[]:=cW (by rw[<-DI];exact q2);subst q1;refine (hnil Ea w).mono fun e' w' ⟨he,hw⟩=>?_;subst hw;refine⟨.tuple #[],S,he,Fr.refl _ _,fun _ h=>h,hS,fun b hb=>.inl hb,⟨#[],rfl,rfl,by simp⟩,tail _ ⟨?_,Qx⟩,Qy _ (aC _),fun g h=>by cases h⟩;have Po:L'=[]:=cW (by rw[hlen,Ea];rfl);subst Po;exact⟨i,[],hi,hpos,World.ownsRow_nil _ _ _ _,by simp[bG],by simp,by simp[bG]⟩
 subst q1;have Mt:g<w.heap.size:=(vn.1 q3).1;have R7:L'.flatten.toArray.size=L.length*i.size:=by rw[lV,lQ Nk,hlen,g2]
 have js:L.length*i.size<=cur.size:=by rw[q6];exact ba _ (by rw[<-DI];exact q4)
 have hh:=h S w g cap hE Mt (by rw[<-DI];exact q4) fun j v hj=>by
  have kX:j<L.length*i.size:=by have:=ah hj;rw[lQ hL]at this;rw[g2];exact this
  have:cur[j]?=some v:=by
   rw[<-hx,<-q7]at hj;rw[cB]at hj;split at hj
   ·simpa using hj
   cases hj
  exact⟨by rw[cell_of_row w g j cur e (0,0) q3];exact this,by simp[World.frozen?,q3]⟩
 rw[<-DI]at hh;refine hh.mono fun e' w' ⟨he,n,os,hw⟩=>?_;subst hw;obtain⟨p1,p2,p3,p4,p5⟩:=zZ w g n L'.flatten.toArray os;obtain⟨c1,c2⟩:=wB L'.flatten.toArray cur (by omega);have eY:(tF w g n L'.flatten.toArray os).heap[g]?=some (.cells (Sort.putCells id 0 L'.flatten.toArray cur) e (0,0)):=by rw[p5 g Mt,ae rfl,q3];rfl
 refine⟨.tuple #[],S,he,⟨p1,p2,p3,p4,fun k hk hn=>?_⟩,fun _ h=>h,fun b hb=>bg (hS b hb) p4,fun b hb=>.inl hb,⟨#[],rfl,rfl,by simp⟩,tail _ ⟨?_,Qx⟩,Qy _ p4,fun g h=>by cases h⟩
 ·rw[p5 k hk,af];intro e;subst e;exact hn (Ln k rfl)
 refine⟨i,L'.flatten,hi,hpos,⟨by rw[GX,<-hlen,g2];exact lQ Nk,.inr ⟨g,cap,_,by rw[GX,DI],bd _,eY,by rw[GX,<-DI];exact q4,q5,by rw[c1];exact q6,?_⟩⟩,by rw[g2];exact GW Nk,fun u hu=>?_,CM (by rw[g2];exact Nk)⟩
 ·rw[GX,<-R7];exact c2
 obtain⟨r,FA,jb⟩:=List.mem_flatten.1 hu;exact h1 r FA u jb
end Go.AM
namespace Go.AM
open Go.RowKit
end Go.AM
namespace Go.AM
open Go.RowKit Go.ChangeShapes
section
variable {H:Type} {enc:TypeId×Value->H} {P:Program} {w:World} {S:Nat->Prop}
def FI(enc:TypeId×Value->H)(P:Program)(w:World)(S:Nat->Prop)(t:TypeId)(k:Nat)(Q:List PV->DataW H->Prop):Prop:=
 ∀n cs x,DataW.trod enc P w 0 (fun _=>true) true n t cs=some x->∃xs,xs.length=k/\cs.length=k/\(∀(i:Nat) c v,xs[i]?=some c->cs[i]?=some v->ay S w c v/\v.oneCell'=true)/\Q xs x.1
theorem one_cell{c:PV}{u:Value}(h:ay S w c u/\u.oneCell'=true):∀(i:Nat) c' v,[c][i]?=some c'->[u][i]?=some v->ay S w c' v/\v.oneCell'=true:=fun i c' v h1 h2=>by
 match i,h1,h2 with
 | 0,h1,h2=>cases h1;cases h2;exact h
 | n+1,h1,h2=>cases h1
theorem GY{t:TypeId}(ht:P.underlying t=some (.int .i64)):FI enc P w S t 1 fun xs d=>∃n:Int,xs=[.im (.int .i64 n)]/\d=.lit (.int .i64 n):=fun n cs x h=>by
 obtain⟨z,rfl,rfl,_⟩:=DataW.trod_int ht h;exact⟨[.im (.int .i64 z)],rfl,rfl,one_cell ⟨.im _,rfl⟩,z,rfl,rfl⟩
theorem GZ{t:TypeId}(ht:P.underlying t=some .string):FI enc P w S t 1 fun xs d=>∃s:ByteArray,xs=[.im (.string s)]/\d=.lit (.string s.data.toList):=fun n cs x h=>by
 obtain⟨s,rfl,rfl,_⟩:=DataW.trod_string ht h;exact⟨[.im (.string s)],rfl,rfl,one_cell ⟨.im _,rfl⟩,s,rfl,rfl⟩
theorem G2{a:Addr}{v:Value}(h:w.cell? a=some v):a.spot=none/\a.block<w.heap.size:=by
 unfold World.cell? at h;split at h
 ·rename_i c _ _ hh;refine⟨?_,?_⟩
  ·cases hs:a.spot with
   | none=>rfl
   | some s=>rw[hs]at h;cases h
  rcases Nat.lt_or_ge a.block w.heap.size with h' | h'
  ·exact h'
  rw[UG h']at hh;cases hh
 cases h
theorem CO{t e:TypeId}{k:Nat}{Q:List PV->DataW H->Prop}(ht:P.underlying t=some (.slice e))(hc:P.cellsOf e=k)(hk:0<k)(hS:∀b,b<w.heap.size->S b)(he:FI enc P w S e k Q):
  FI enc P w S t 1 fun xs d=>∃(es:List (List PV)) (ds sp:List (DataW H)),xs=[.sl es]/\es.length=ds.length/\(d=.nil/\ds=[]\/d=.slice ds sp)/\∀(i:Nat) x y,es[i]?=some x->ds[i]?=some y->Q x y:=fun n cs x h=>by
 rcases Go.Deep.open_slice ht h with⟨rfl,rfl⟩ | ⟨a,len,cap,m,n,D,Pl,rfl,hb,hl,hm,BR,rfl,hx⟩
 ·exact⟨[.sl []],rfl,rfl,one_cell ⟨.nil _ _,rfl⟩,[],[],[],rfl,rfl,.inl ⟨rfl,rfl⟩,fun i x y h=>by cases h⟩
 have PX:len<=m:=by rw[BR];split<;>omega
 rcases Nat.eq_zero_or_pos len with h0 | hpos
 ·subst h0;exact⟨[.sl []],rfl,rfl,one_cell ⟨.nil _ _,rfl⟩,[],[],_,rfl,rfl,.inr rfl,fun i x y h=>by cases h⟩
 rw[hc]at hx;have each:∀i,i<len->∃p:List PV×List Value,p.1.length=k/\p.2.length=k/\(∀j,j<k->w.cell? ((a.add (i*k)).add j)=p.2[j]?)/\(∀(j:Nat) c v,p.1[j]?=some c->p.2[j]?=some v->ay S w c v/\v.oneCell'=true)/\Q p.1 (D i):=fun i hi=>by
  obtain⟨dB,h1,h2⟩:=hx i (by omega);obtain⟨_,hlen,hcell⟩:=World.cells?_some h1;obtain⟨xs,l1,l2,l3,l4⟩:=he _ _ _ h2;exact⟨(xs,dB),l1,l2,hcell,l3,l4⟩
 obtain⟨F,hF⟩:=Go.Deep.choose_lt (α:=List PV×List Value) each;have get:∀(i:Nat) e,((List.range len).map fun i=>(F i).1)[i]?=some e->i<len/\e=(F i).1:=fun i e h=>by
  rw[ao,az]at h;obtain⟨j,hj,rfl⟩:=h;obtain⟨h1,h2⟩:=cL.1 hj;rw[List.getElem_range]at h2;subst h2;exact⟨by simpa using h1,rfl⟩
 have cellOf:∀i j,i<len->j<k->w.cell? ((a.add (i*k)).add j)=some (((F i).2[j]?).getD .nilIface):=fun i j hi hj=>by
  obtain⟨_,l2,h3,_⟩:=hF i hi;rw[h3 j hj,aM (by omega)];rfl
 have hz:=G2 (cellOf 0 0 hpos hk);obtain⟨b,off,spot⟩:=a;have BC:spot=none:=by simpa [Addr.add] using hz.1
 subst BC;have Pp:b<w.heap.size:=by simpa [Addr.add] using hz.2
 have ai:∀i j,((⟨b,off,none⟩:Addr).add (i*k)).add j=⟨b,off+i*k+j,none⟩:=fun i j=>by
  unfold Addr.add;by_cases h1:i*k=0
  ·rw[ae h1,h1];by_cases h2:j=0
   ·rw[ae h2,h2];rfl
   rw[af h2];rfl
  rw[af h1];by_cases h2:j=0
  ·rw[ae h2,h2];rfl
  rw[af h2]
 refine⟨[.sl ((List.range len).map fun i=>(F i).1)],rfl,rfl,one_cell ⟨?_,rfl⟩,(List.range len).map fun i=>(F i).1,(List.range len).map D,_,rfl,by simp,.inr rfl,fun i x y h1 h2=>?_⟩
 ·have hlen:((List.range len).map fun i=>(F i).1).length=len:=by simp
  have:=ay.sl (S:=S) (w:=w) ((List.range len).map fun i=>(F i).1) k b off cap (fun i j=>((F i).2[j]?).getD .nilIface) (by rw[hlen];exact hl) (hS b Pp)
   (fun e Ox=>by obtain⟨i,hi,rfl⟩:=aV.1 Ox;exact (hF i (dA.1 hi)).1)
   (fun i e j x h1 h2=>by
    obtain⟨hi,rfl⟩:=get i e h1;have hj:j<k:=by rw[<-(hF i hi).1];exact (cL.1 h2).1
    have hv:(F i).2[j]?=some (((F i).2[j]?).getD .nilIface):=by rw[aM (by rw[(hF i hi).2.1];exact hj)];rfl
    exact⟨by rw[<-ai];exact cellOf i j hi hj,((hF i hi).2.2.2.1 j x _ h2 hv).2⟩)
   (fun i e j x h1 h2=>by
    obtain⟨hi,rfl⟩:=get i e h1;have hj:j<k:=by rw[<-(hF i hi).1];exact (cL.1 h2).1
    have hv:(F i).2[j]?=some (((F i).2[j]?).getD .nilIface):=by rw[aM (by rw[(hF i hi).2.1];exact hj)];rfl
    exact ((hF i hi).2.2.2.1 j x _ h2 hv).1)
  rw[hlen]at this;exact this
 obtain⟨hi,rfl⟩:=get i x h1;rw[ao,fG hi]at h2;cases h2;exact (hF i hi).2.2.2.2
instance:Inhabited PV:=⟨.sl []⟩
theorem nD{t:TypeId}{fs:Array Field}(ht:P.underlying t=some (.struct fs))(ga:∀(i:Nat) (f:Field),fs[i]?=some f->f.offset=i/\P.cellsOf f.type=1)(hc:P.cellsOf t=fs.size)(Qs:Nat->List PV->DataW H->Prop)
  (hf:∀(i:Nat) (f:Field),fs[i]?=some f->FI enc P w S f.type 1 (Qs i)):
  FI enc P w S t fs.size fun xs d=>∃ds:List (DataW H),d=.agg ds/\ds.length=fs.size/\∀(i:Nat) x y,xs[i]?=some x->ds[i]?=some y->Qs i [x] y:=fun n cs x h=>by
 obtain⟨ys,m,_,rfl,hl,hlen,hy⟩:=DataW.trod_struct ht h;rw[hc]at hl;have each:∀i,i<fs.size->∃c:PV,∃y v,ys[i]?=some y/\cs[i]?=some v/\ay S w c v/\v.oneCell'=true/\Qs i [c] y.1:=fun i hi=>by
  have Pq:fs[i]?=some fs[i]:=bE hi;obtain⟨ho,h1⟩:=ga i _ Pq;have Jz:=hy i _ Pq;rw[ho,h1]at Jz;have Qz:ys[i]?=some ys[i]:=aM (by omega);rw[Qz]at Jz;obtain⟨xs,l1,l2,l3,l4⟩:=hf i _ Pq _ _ _ Jz;have js:cs[i]?=some cs[i]:=aM (by omega);have hd:(cs.drop i).take 1=[cs[i]]:=by
   rw[oX (by omega)];rfl
  rw[hd]at l3;obtain⟨c,rfl⟩:∃c,xs=[c]:=by
   match xs,l1 with
   | [c],_=>exact⟨c,rfl⟩
  exact⟨c,ys[i],cs[i],Qz,js,(l3 0 _ _ rfl rfl).1,(l3 0 _ _ rfl rfl).2,l4⟩
 obtain⟨F,hF⟩:=Go.Deep.choose_lt (α:=PV) each;refine⟨(List.range fs.size).map F,by simp,hl,fun i c v h1 h2=>?_,ys.map (·.1),rfl,by rw[Al,hlen],fun i x y h1 h2=>?_⟩
 ·have hi:i<fs.size:=by have:=(cL.1 h1).1;simpa using this
  rw[ao,fG hi]at h1;cases h1;obtain⟨y,v',_,e2,e3,e4,_⟩:=hF i hi;rw[h2]at e2;cases e2;exact⟨e3,e4⟩
 have hi:i<fs.size:=by have:=(cL.1 h1).1;simpa using this
 rw[ao,fG hi]at h1;cases h1;obtain⟨y',v',e1,_,_,_,e5⟩:=hF i hi;rw[ao,e1]at h2;cases h2;exact e5
theorem pR{t e:TypeId}{Q:List PV->DataW H->Prop}{r:Reach}{b0:Nat}(ht:P.underlying t=some (.slice e))(hd:FI enc P w S t 1 Q){v:Value}{d:DataW H}{ps:List MemPlace}(hv:Value.okWide P w r b0 t v)(h:DataW.Trod enc P w 0 (fun _=>true) true t v d ps):
  ∃c,ay S w c v/\Q [c] d:=by
 obtain⟨a,l,c,rfl⟩:=Go.WideShapes.okWide_slice ht hv;obtain⟨n,hn⟩:=h;obtain⟨xs,l1,l2,l3,l4⟩:=hd _ _ _ hn;obtain⟨x,rfl⟩:∃x,xs=[x]:=by
  match xs,l1 with
  | [x],_=>exact⟨x,rfl⟩
 exact⟨x,(l3 0 x _ rfl rfl).1,l4⟩
theorem Mu(w:World)(xs:List PV)(vs:Array Value)(g:Nat):¬Mv w (xs.map Arg.pv) vs g:=by
 rintro⟨j,y,v,h1,_,h2,_⟩;rw[ao,az]at h1;obtain⟨x,_,rfl⟩:=h1;cases h2
def G3(S:Nat->Prop)(w:World)(xs:List PV)(vs:List Value):Prop:=xs.length=vs.length/\∀(j:Nat) x v,xs[j]?=some x->vs[j]?=some v->ay S w x v
theorem E_:G3 S w [] []:=⟨rfl,fun j x v h=>by cases h⟩
theorem pS{x:PV}{v:Value}{xs:List PV}{vs:List Value}(h:ay S w x v)(hr:G3 S w xs vs):G3 S w (x::xs) (v::vs):=⟨by rw[cD,cD,hr.1],fun j x' v' h1 h2=>by
 match j,h1,h2 with
 | 0,h1,h2=>cases h1;cases h2;exact h
 | j+1,h1,h2=>exact hr.2 j x' v' h1 h2⟩
theorem JL{C:Ctx}{f:FuncId}{xs:List PV}{y:Value}(h:aT C f (xs.map Arg.pv) (.p (.im y)) []){vs:Array Value}(hE:C.E (fun b=>b<w.heap.size) w)(hr:G3 (fun b=>b<w.heap.size) w xs vs.toList):
  Calls C.P f vs w fun e w'=>e=.returned y/\Below w.heap.size w w':=by
 refine (h.2 (fun b=>b<w.heap.size) w vs hE (fun _ h=>h) (by rw[Al,hr.1];simp) (fun j x v h1 h2=>?_) (fun i j x y v u g h1 _ _ _ h5=>?_)).mono ?_
 ·rw[ao,az]at h1;obtain⟨x,hx,rfl⟩:=h1;exact hr.2 j x v hx (by rw[cg];exact h2)
 ·rw[ao,az]at h1;obtain⟨x,_,rfl⟩:=h1;cases h5
 rintro e w' ⟨v,S',rfl,hf,_,_,_,hv,_⟩;have hv:ay S' w' (.im y) v:=hv;cases hv;exact⟨rfl,hf.os,hf.tape,hf.output,hf.size,fun k hk=>hf.block k hk (Mu _ _ _ _)⟩
end
end Go.AM
namespace Go.Proofs.YtedjhhieekileaaGreatDoor
open Go.ChangeShapes Go.WideShapes Go.ChangeAt Go.RowKit
section
variable {H:Type} {enc:TypeId×Value->H} {P:Program}
theorem tG{f:Func}{s:ChangeSpec}{apart fresh handsOn again:Bool}{W W':World}{args:Array Value}{v:Value}{ds gs:List (DataW H)}{before pa pv:List MemPlace}
  (hW:DataW.Whole enc P f.params.toList s.vars apart W args.toList ds gs before)
  (hres:∀(b:Nat) (sp:Nat->Bool) (hd:Bool),DataW.TrodAll enc P W' b sp hd f.resultTypes.toList (v.resultList f.resultTypes.size) (s.fn H (ds++gs)).results [])
  (hargs:∀sp:Nat->Bool,(∀p∈before,sp p.block=true)->DataW.TrodAll enc P W' 0 sp true f.params.toList args.toList (s.fn H (ds++gs)).args pa)
  (hvars:∀sp:Nat->Bool,(∀p∈before,sp p.block=true)->DataW.TrodVars enc P W' sp s.vars (s.fn H (ds++gs)).vars pv)
  (hps:before=pa++pv) (hb:Below W.heap.size W W')
  (hok:∀(j:Nat) (t:TypeId) (r:Value),f.resultTypes[j]?=some t->(v.resultList f.resultTypes.size)[j]?=some r->Value.okWide P W' .any 0 t r):
  s.post enc P f apart fresh handsOn again W args v W':=by
 have dv:∀p∈before,p.block<W.heap.size:=fun p hp=>hW.lt p hp;have hold:∀p∈before,(fun b=>decide (b<W.heap.size)) p.block=true:=fun p hp=>by simpa using dv p hp
 refine⟨ds,gs,before,[],pa,pv,hW,hres _ _ _,hargs _ hold,hvars _ hold,World.keptBut_mono (fun p hp=>⟨hp,?_⟩) (hb.frame (·∈before)),fun _=>?_⟩
 ·rw[hps,cX]at hp;exact Or.inr hp
 obtain⟨_,_,_,_,_,hz,hn⟩:=hW;refine⟨hok,_,_,([]++pa)++pv,⟨[]++pa,pv,trodAll_append (hargs _ (fun _ _=>rfl)) (hres _ _ _),hvars _ (fun _ _=>rfl),rfl,?_,?_⟩,?_⟩
 ·intro b off hp;have iR:MemPlace.cell b off∈before:=by rw[hps];simpa using hp
  rw[hb.frozen (dv _ iR)];exact hz b off iR
 ·intro ha;have:=hn ha;rw[hps]at this;simpa using this
 intro p hp _;rw[hps];simpa using hp
theorem qG{C:Checked}{os:Os}{f:FuncId}{fn:Func}{s:OpenSpec}{conds:List PathCond}{apart:Bool}{laid:List (String×DataW Unit)}(w0:World)(args:Array Value)(R8:w0.os=os)
  (hsh:(w0.forCall (fun _ _=>0) ⟨#[],args,[]⟩).Shaped C.prog)
  (hok:Input.okWideB C.prog (w0.forCall (fun _ _=>0) ⟨#[],args,[]⟩) f ⟨#[],args,[]⟩=true)
  (ai:s.preRow enc C.prog fn conds apart laid (w0.forCall (fun _ _=>0) ⟨#[],args,[]⟩).memory args):
  ∃(w:World) (tape:Tape) (i:Input),w.os=os/\(w.forCall tape i).Shaped C.prog/\i.vars=[]/\Input.okWide C.prog (w.forCall tape i) .any w.heap.size f i /\
   s.preRow enc C.prog fn conds apart laid (w.forCall tape i).memory i.args/\({}:Assume).holds C.prog (lone (Frame.enter C.prog f i.args .normal) [] (w.forCall tape i)):=
 ⟨w0,fun _ _=>0,⟨#[],args,[]⟩,R8,hsh,(Input.okWide_of_okWideB (base:=0) hok).1,(Input.okWide_of_okWideB hok).2,ai,by
  simp only[Assume.holds];exact⟨by simp,by simp,fun _=>Modest.zero,by simp,by simp⟩⟩
end
theorem own:ownKnob Tryz.prog.godebug=none:=by kernel_rfl
variable {H:Type}
theorem Fa(d:DataW H):1<=Rows.uptoBulk d:=by
 cases d with
 | lit l=>cases l<;>simp[Rows.uptoBulk]
 | nil=>simp[Rows.uptoBulk]
 | ptr d=>simp[Rows.uptoBulk]
 | slice elems spare=>simp[Rows.uptoBulk]
 | agg parts=>simp[Rows.uptoBulk]
 | iface t d=>simp[Rows.uptoBulk]
 | map entries=>simp[Rows.uptoBulk]
 | held h=>simp[Rows.uptoBulk]
theorem uH{d:DataW H}{l:List (DataW H)}(h:d∈l):Rows.uptoBulk d<=Rows.uptoBulkAll l:=by
 induction l with
 | nil=>cases h
 | cons x r ih=>
  simp only[Rows.uptoBulkAll];cases fL.1 h with
  | inl e=>subst e;omega
  | inr e=>have:=ih e;omega
theorem x8{H:Type}(bytes:List UInt8):Rows.uptoBulk (DataW.lit (H:=H) (.string bytes))=bytes.length+1:=by
 simp[Rows.uptoBulk]
theorem z7{l:List (DataW H)}(hk:Rows.uptoSmall H l=true):Rows.uptoBulkAll l<=1048576:=ko hk
end Go.Proofs.YtedjhhieekileaaGreatDoor
namespace Go.Proofs.YtedjhhieekileaaGreatDoor
namespace M
open Go.AM Go.RowKit Go.Lib
variable {H:Type} {enc:TypeId×Value->H} {w:World} {S:Nat->Prop}
theorem Mw:FI enc Tryz.prog w S 3 1 fun xs d=>∃n:Int,xs=[i64 n]/\d=.lit (.int .i64 n):=GY oD
theorem Mx:FI enc Tryz.prog w S 9 1 fun xs d=>∃s:ByteArray,xs=[str s]/\d=.lit (.string s.data.toList):=GZ iq
abbrev Sp(enc:TypeId×Value->H)(w:World)(S:Nat->Prop)(t:TypeId)(k:Nat){γ:Type}(f:γ->List PV)(B:γ->Nat->Prop):Prop:=FI enc Tryz.prog w S t k fun xs d=>∃r,xs=f r/\B r (Rows.uptoBulk d)
theorem x9:Sp enc w S 3 1 (fun n=>[i64 n]) fun _ _=>True:=fun n cs x h=>by
 obtain⟨xs,l1,l2,l3,z,e,_⟩:=Mw (S:=S) n cs x h;exact⟨xs,l1,l2,l3,z,e,trivial⟩
theorem JM:Sp enc w S 9 1 (fun s=>[str s]) fun s n=>s.size<=n:=fun n cs x h=>by
 obtain⟨xs,l1,l2,l3,z,e,d⟩:=Mx (S:=S) n cs x h;refine⟨xs,l1,l2,l3,z,e,?_⟩;rw[d,x8];have:z.data.toList.length=z.size:=by simp
 omega
theorem Bo{α γ:Type}{f:γ->α}{B:γ->Nat->Prop}(hm:∀r m n,m<=n->B r m->B r n):∀{es:List α} {ds:List (DataW H)},es.length=ds.length->(∀(i:Nat) x y,es[i]?=some x->ds[i]?=some y->∃r,x=f r/\B r (Rows.uptoBulk y))->∃l:List γ,es=l.map f/\l.length<=Rows.uptoBulkAll ds/\∀r∈l,B r (Rows.uptoBulkAll ds)
 | [],_,_,_=>⟨[],rfl,bd _,fun r h=>by cases h⟩
 | x::es,[],hl,_=>by cases hl
 | x::es,y::ds,hl,h=>by
  obtain⟨r,rfl,hr⟩:=h 0 x y rfl rfl;obtain⟨l,rfl,h1,h2⟩:=Bo hm (es:=es) (ds:=ds) (by simpa using hl) (fun i a b h1 h2=>h (i+1) a b (by simpa using h1) (by simpa using h2));have e:Rows.uptoBulkAll (y::ds)=Rows.uptoBulk y+Rows.uptoBulkAll ds:=by simp only[Rows.uptoBulkAll]
  have b1:=Fa y;refine⟨r::l,rfl,by rw[cD];omega,fun q hq=>?_⟩;rcases fL.1 hq with h | h
  ·subst h;exact hm _ _ _ (by omega) hr
  exact hm _ _ _ (by omega) (h2 q h)
theorem sU{t e:TypeId}{k:Nat}{γ:Type}{f:γ->List PV}{B:γ->Nat->Prop}(ht:Tryz.prog.underlying t=some (.slice e))(hc:Tryz.prog.cellsOf e=k)(hk:0<k)(hS:∀b,b<w.heap.size->S b)(hm:∀r m n,m<=n->B r m->B r n)(he:Sp enc w S e k f B):
  Sp enc w S t 1 (fun l:List γ=>[.sl (l.map f)]) fun l n=>l.length<=n/\∀r∈l,B r n:=fun n cs x h=>by
 obtain⟨xs,l1,l2,l3,es,ds,sp,rfl,hl,hd,q⟩:=CO ht hc hk hS he _ _ _ h;obtain⟨l,rfl,b1,b2⟩:=Bo hm hl q;have hb:Rows.uptoBulkAll ds<=Rows.uptoBulk x.1:=by
  rcases hd with⟨h1,h2⟩ | h1
  ·rw[h2];exact bd _
  rw[h1];simp only[Rows.uptoBulk];omega
 exact⟨_,l1,l2,l3,l,rfl,by omega,fun r hr=>hm _ _ _ hb (b2 r hr)⟩
theorem z8{ds:List (DataW H)}{i:Nat}{y:DataW H}(h:ds[i]?=some y):Rows.uptoBulk y<=Rows.uptoBulk (.agg ds):=by
 have:=uH (aj h);simp only[Rows.uptoBulk];omega
theorem JN:Sp enc w S 41 4 gq fun x n=>x.name.size<=n:=fun n cs x h=>by
 obtain⟨xs,l1,l2,l3,ds,e,ld,q⟩:=nD (S:=S) (Qs:=fun i xs d=>match i with
   | 0=>∃r,xs=[str r]/\r.size<=Rows.uptoBulk d
   | 1=>∃r,xs=[i64 r]/\True
   | 2=>∃r,xs=[i64 r]/\True
   | _=>∃r,xs=[i64 r]/\True) Tryz.underlying41 (UH (by kernel_rfl)) (by kernel_rfl) (fun i f hf=>by
  match i,hf with
  | 0,hf=>cases hf;exact JM
  | 1,hf=>cases hf;exact x9
  | 2,hf=>cases hf;exact x9
  | 3,hf=>cases hf;exact x9
  | n+4,hf=>cases hf) _ _ _ h
 have l1:xs.length=4:=l1;have ld:ds.length=4:=ld;obtain⟨x0,x1,x2,x3,rfl⟩:∃a b c d,xs=[a,b,c,d]:=by
  match xs,l1 with
  | [a,b,c,d],_=>exact⟨a,b,c,d,rfl⟩
 obtain⟨y0,y1,y2,y3,rfl⟩:∃a b c d,ds=[a,b,c,d]:=by
  match ds,ld with
  | [a,b,c,d],_=>exact⟨a,b,c,d,rfl⟩
 obtain⟨n0,e0,p0⟩:=q 0 _ _ rfl rfl;obtain⟨n1,e1,p1⟩:=q 1 _ _ rfl rfl;obtain⟨n2,e2,p2⟩:=q 2 _ _ rfl rfl;obtain⟨n3,e3,p3⟩:=q 3 _ _ rfl rfl;cases e0;cases e1;cases e2;cases e3;have i0:=z8 (ds:=[y0,y1,y2,y3]) (i:=0) rfl;rw[<-e]at i0;exact⟨_,rfl,l2,l3,⟨n0,n1,n2,n3⟩,rfl,by exact bM p0 i0⟩
theorem My:Sp enc w S 43 3 jK fun x n=>x.name.size<=n:=fun n cs x h=>by
 obtain⟨xs,l1,l2,l3,ds,e,ld,q⟩:=nD (S:=S) (Qs:=fun i xs d=>match i with
   | 0=>∃r,xs=[str r]/\r.size<=Rows.uptoBulk d
   | 1=>∃r,xs=[i64 r]/\True
   | _=>∃r,xs=[i64 r]/\True) Tryz.underlying43 (UH (by kernel_rfl)) (by kernel_rfl) (fun i f hf=>by
  match i,hf with
  | 0,hf=>cases hf;exact JM
  | 1,hf=>cases hf;exact x9
  | 2,hf=>cases hf;exact x9
  | n+3,hf=>cases hf) _ _ _ h
 have l1:xs.length=3:=l1;have ld:ds.length=3:=ld;obtain⟨x0,x1,x2,rfl⟩:∃a b c,xs=[a,b,c]:=by
  match xs,l1 with
  | [a,b,c],_=>exact⟨a,b,c,rfl⟩
 obtain⟨y0,y1,y2,rfl⟩:∃a b c,ds=[a,b,c]:=by
  match ds,ld with
  | [a,b,c],_=>exact⟨a,b,c,rfl⟩
 obtain⟨n0,e0,p0⟩:=q 0 _ _ rfl rfl;obtain⟨n1,e1,p1⟩:=q 1 _ _ rfl rfl;obtain⟨n2,e2,p2⟩:=q 2 _ _ rfl rfl;cases e0;cases e1;cases e2;have i0:=z8 (ds:=[y0,y1,y2]) (i:=0) rfl;rw[<-e]at i0;exact⟨_,rfl,l2,l3,⟨n0,n1,n2⟩,rfl,by exact bM p0 i0⟩
theorem Mz:Sp enc w S 58 4 CJ fun x n=>x.lot.size<=n:=fun n cs x h=>by
 obtain⟨xs,l1,l2,l3,ds,e,ld,q⟩:=nD (S:=S) (Qs:=fun i xs d=>match i with
   | 0=>∃r,xs=[str r]/\r.size<=Rows.uptoBulk d
   | 1=>∃r,xs=[i64 r]/\True
   | 2=>∃r,xs=[i64 r]/\True
   | _=>∃r,xs=[i64 r]/\True) Tryz.underlying58 (UH (by kernel_rfl)) (by kernel_rfl) (fun i f hf=>by
  match i,hf with
  | 0,hf=>cases hf;exact JM
  | 1,hf=>cases hf;exact x9
  | 2,hf=>cases hf;exact x9
  | 3,hf=>cases hf;exact x9
  | n+4,hf=>cases hf) _ _ _ h
 have l1:xs.length=4:=l1;have ld:ds.length=4:=ld;obtain⟨x0,x1,x2,x3,rfl⟩:∃a b c d,xs=[a,b,c,d]:=by
  match xs,l1 with
  | [a,b,c,d],_=>exact⟨a,b,c,d,rfl⟩
 obtain⟨y0,y1,y2,y3,rfl⟩:∃a b c d,ds=[a,b,c,d]:=by
  match ds,ld with
  | [a,b,c,d],_=>exact⟨a,b,c,d,rfl⟩
 obtain⟨n0,e0,p0⟩:=q 0 _ _ rfl rfl;obtain⟨n1,e1,p1⟩:=q 1 _ _ rfl rfl;obtain⟨n2,e2,p2⟩:=q 2 _ _ rfl rfl;obtain⟨n3,e3,p3⟩:=q 3 _ _ rfl rfl;cases e0;cases e1;cases e2;cases e3;have i0:=z8 (ds:=[y0,y1,y2,y3]) (i:=0) rfl;rw[<-e]at i0;exact⟨_,rfl,l2,l3,⟨n0,n1,n2,n3⟩,rfl,by exact bM p0 i0⟩
theorem G4(hS:∀b,b<w.heap.size->S b):Sp enc w S 22 1 (fun l:List gI=>[.sl (l.map gq)]) fun l n=>l.length<=n/\∀x∈l,x.name.size<=n:=sU (k:=4) Tryz.underlying22 (by kernel_rfl) (by decide) hS (fun _ _ _ h1 h2=>bM h2 h1) JN
theorem JO(hS:∀b,b<w.heap.size->S b):Sp enc w S 23 1 (fun l:List Lt=>[.sl (l.map jK)]) fun l n=>l.length<=n/\∀x∈l,x.name.size<=n:=sU (k:=3) Tryz.underlying23 (by kernel_rfl) (by decide) hS (fun _ _ _ h1 h2=>bM h2 h1) My
theorem JP(hS:∀b,b<w.heap.size->S b):Sp enc w S 24 1 (fun l:List Fl=>[.sl (l.map CJ)]) fun l n=>l.length<=n/\∀x∈l,x.lot.size<=n:=sU (k:=4) Tryz.underlying24 (by kernel_rfl) (by decide) hS (fun _ _ _ h1 h2=>bM h2 h1) Mz
def Fb(l:List gI):Prop:=(∀x∈l,A7 x.name)/\l.length<=140737488355328
def Ig(l:List Lt):Prop:=(∀x∈l,A7 x.name)/\l.length<=140737488355328
def Ih(l:List Fl):Prop:=(∀x∈l,A7 x.lot)/\l.length<=140737488355328
theorem wC{d:DataW H}{l:List (DataW H)}(hk:Rows.uptoSmall H l=true)(h:d∈l):Rows.uptoBulk d<=1048576:=bM (uH h) (z7 hk)
theorem uI{P:Program}(hl:laidOutB P=true){W W':World}(hb:Below W.heap.size W W'):∀{ts:List TypeId} {vs:List Value} {ds:List (DataW H)} {ps:List MemPlace},(ts.all fun t=>P.readableRec t&&decide (t<P.types.size))=true->DataW.TrodAll enc P W 0 (fun _=>true) true ts vs ds ps->(∀p∈ps,p.block<W.heap.size)->∀sp:Nat->Bool,(∀p∈ps,sp p.block=true)->DataW.TrodAll enc P W' 0 sp true ts vs ds ps
 | [],[],[],_,_,h,_,_,_=>h
 | t::ts,v::vs,d::ds,ps,ht,h,dv,sp,hs=>by
  obtain⟨p,q,h1,h2,rfl⟩:=h;simp only[Ub,qK,dS]at ht;have R9:(ts.all fun t=>P.readableRec t&&decide (t<P.types.size))=true:=by simpa using ht.2
  exact⟨p,q,Go.WideElems.Trod_stays hl ht.1.1 ht.1.2 h1 (fun x hx=>hb.same (dv x (l_ _ hx))) (fun x hx=>hs x (l_ _ hx)),
   uI hl hb R9 h2 (fun x hx=>dv x (ov _ hx)) sp (fun x hx=>hs x (ov _ hx)),rfl⟩
 | [],_::_,_,_,_,h,_,_,_=>h.elim
 | [],[],_::_,_,_,h,_,_,_=>h.elim
 | _::_,[],_,_,_,h,_,_,_=>h.elim
 | _::_,_::_,[],_,_,h,_,_,_=>h.elim
theorem x_ {W : World} (h1 : ∃ m : Int, W.cell? ⟨0, 0, none⟩ = some (.int .i64 m)) (h2 : Lib.TabIs Tryz.prog W "internal/strconv.uint64pow10" .u64 Lib.pow10Tab) : Env (fun b => b < W.heap.size) W := by
 refine⟨?_,block_lt_of_cell (h2.cell Js 0 (by decide)),h1,h2⟩;obtain⟨m,hm⟩:=h1;exact block_lt_of_cell hm
theorem MA:laidOutB Tryz.prog=true:=by kernel_rfl
theorem z_{s:ByteArray}(h:s.size<=1048576):A7 s:=Nat.lt_of_le_of_lt h (by decide)
theorem G5{l:List gI}{n:Nat}(hn:n<=1048576)(h:l.length<=n/\∀x∈l,x.name.size<=n):Fb l:=⟨fun x hx=>z_ (bM (h.2 x hx) hn),bM h.1 (bM hn (by decide))⟩
theorem JQ{l:List Lt}{n:Nat}(hn:n<=1048576)(h:l.length<=n/\∀x∈l,x.name.size<=n):Ig l:=⟨fun x hx=>z_ (bM (h.2 x hx) hn),bM h.1 (bM hn (by decide))⟩
theorem JR{l:List Fl}{n:Nat}(hn:n<=1048576)(h:l.length<=n/\∀x∈l,x.lot.size<=n):Ih l:=⟨fun x hx=>z_ (bM (h.2 x hx) hn),bM h.1 (bM hn (by decide))⟩
end M
namespace M
open Go.AM Go.RowKit Go.Lib
theorem wD{α:Type}{f:List α->α->Int}{l:List α}(h:mW f [] l=0):∀(i:Nat) (a:α),l[i]?=some a->f (l.take i) a=0:=by
 have key:∀n,n<=l.length->mW f [] l=mW f (l.take n) (l.drop n):=by
  intro n
  induction n with
  | zero=>intro _;rfl
  | succ n ih=>
   intro hn;obtain⟨a,ha⟩:=a8 (l:=l) (i:=n) (by omega);have e:=ih (by omega);by_cases h0:f (l.take n) a=0
   ·exact lP ha e h0
   exact absurd (oV ha e rfl h0) (by rw[h];exact fun e=>h0 e.symm)
 intro i a ha;by_cases h0:f (l.take i) a=0
 ·exact h0
 exact absurd (oV ha (key i (by have:=ah ha;omega)) rfl h0) (by rw[h];exact fun e=>h0 e.symm)
theorem oY{n lo hi:Int}:pK n lo hi=true↔lo<=n/\n<=hi:=by simp[pK]
theorem ya{α:Type}{f:α->ByteArray}{l:List α}(h:∀i a b,l[i]?=some a->l[i+1]?=some b->kT (f a) (f b)=true):gL f l:=by
 have key:∀d i a b,l[i]?=some a->l[i+1+d]?=some b->kT (f a) (f b)=true:=by
  intro d
  induction d with
  | zero=>exact h
  | succ d ih=>
   intro i a b ha hb;obtain⟨c,hc⟩:=a8 (l:=l) (i:=i+1+d) (by have:=ah hb;omega);exact iA (ih i a c ha hc) (h _ c b hc hb)
 refine oW.2 fun i j hi hj F8=>?_;exact key (j-i-1) i _ _ (aM hi) (by rw[show i+1+(j-i-1)=j by omega];exact aM hj)
variable {l:List Lt}
theorem oZ(h:cA l=0):l.length<=100/\gL Lt.name l/\∀x∈l,jh x.name=true/\(1<=x.panels/\x.panels<=200)/\(0<=x.at_/\x.at_<=1000000000):=by
 unfold cA at h;split at h
 ·cases h
 rename_i hlen;have fI:=wD h;have one:∀(i:Nat) (x:Lt),l[i]?=some x->jh x.name=true/\(pK x.panels 1 200=true/\pK x.at_ 0 1000000000=true)/\(∀y,(l.take i).getLast?=some y->kT y.name x.name=true):=fun i x hx=>by
  have:=fI i x hx;unfold fq at this;split at this
  ·rename_i w;split at this
   ·rename_i r;refine⟨w,r,fun y hy=>?_⟩;rw[hy]at this;simp only at this;split at this
    ·assumption
    cases this
   cases this
  cases this
 refine⟨by omega,ya fun i a b ha hb=>?_,fun x hx=>?_⟩
 ·exact (one (i+1) b hb).2.2 a (Bn (by omega) (by simpa using ha))
 obtain⟨i,hi⟩:=cf.1 hx;obtain⟨w,r,_⟩:=one i x hi;exact⟨w,oY.1 r.1,oY.1 r.2⟩
theorem o5{l:List gI}(h:cz l=0):(0<l.length/\l.length<=30)/\∀(i:Nat) (s:gI),l[i]?=some s->jh s.name=true/\(1<=s.minutes/\s.minutes<=10000)/\(1<=s.machines/\s.machines<=20)/\(-1<=s.back/\s.back<=i):=by
 unfold cz at h;split at h
 ·cases h
 split at h
 ·cases h
 refine⟨by omega,fun i s hs=>?_⟩;have:=wD h i s hs;unfold eK at this;split at this
 ·rename_i w;split at this
  ·cases this
  split at this
  ·rename_i r;have e:(l.take i).length=i:=by rw[cu];have:=ah hs;omega
   rw[e]at r;exact⟨w,oY.1 r.1,oY.1 r.2.1,oY.1 r.2.2⟩
  cases this
 cases this
theorem yb{l:List Fl}{f:Fl}(h:¬l.any (Ul f)=true):qB ((mL l).map Bz) (FG f) (.im (.bool true))=(mL (l++[f])).map Bz:=by
 induction l with
 | nil=>rfl
 | cons g l ih=>
  rw[UC,oa,not_or]at h;have e:yx (FG f) (FG g)=false:=by
   rw[EW];simp only[Ul,dS]at h;simp only[wi];exact fun hh=>h.1 ⟨hh.1.symm,hh.2.1.symm,hh.2.2.1.symm,hh.2.2.2.symm⟩
  have:=ih h.2;unfold mL at this ⊢;simp only[qO,uV,qB,Bz];rw[e];simp only;rw[<-this]
theorem Fc(l:List Fl)(f:Fl):pc ((mL l).map Bz) (FG f)=match l.any (Ul f) with | true=>some (.im (.bool true)) | false=>none:=Bk ⟨[],[],l,[]⟩ f
theorem CP{f:Fl}(hs:gL Lt.name l){k:Nat}{y:Lt}(hy:l[k]?=some y)(hn:y.name=f.lot):pQ l f=pK f.panel 0 (y.panels-1):=by
 unfold pQ;rw[gU,q9];constructor
 ·rintro⟨x,hx,hp⟩;simp only[qK,dS]at hp;obtain⟨i,hi⟩:=cf.1 hx;have e:i=k:=by
   rcases gC i k with h | h | h
   ·have:=c_ hs hi hy h;rw[hp.1,hn,db]at this;cases this
   ·exact h
   have:=c_ hs hy hi h;rw[hp.1,hn,db]at this;cases this
  subst e;rw[hy]at hi;injection hi with hi;rw[hi];exact hp.2
 intro h;exact⟨y,aj hy,by simp[hn,h]⟩
theorem CQ{l:List Lt}{f:Fl}(h:sR Lt.name l f.lot<0):pQ l f=false:=by
 have h2:=E7 (f:=Lt.name) (l:=l) (x:=f.lot);rw[UF h]at h2;have h3:tD Lt.name l f.lot=false:=by simpa using h2.symm
 rw[cr];intro h4;obtain⟨x,hx,hp⟩:=q9.1 h4;simp only[qK,dS]at hp;rw[gO.2 ⟨x,hx,hp.1⟩]at h3;cases h3
theorem jP(s:List gI)(l:List Lt)(b:List Fl)(hs:0<s.length/\s.length<=30)(hl:cA l=0)(hN:b.length<=140737488355328):aT C 16 [.pv (.sl (s.map gq)),.pv (.sl (l.map jK)),.pv (.sl (b.map CJ))] (.p (i64 (de s l b))) []:=by
 refine fW hC Tryz.func16 rfl (by kernel_rfl) fun _=>?_;have lm:=cH b CJ;have ls:=cH s gq;obtain⟨l1,l2,l3⟩:=oZ hl;apply iW<;>intro g1<;>try simp only[zB]at g1
 ·refine⟨?_,trivial⟩;rw[de,ae (by omega)];rfl
 rw[de,af (by omega)];refine d_ (fun i:Nat=>i<=b.length/\mW (fX s l) [] b=mW (fX s l) (b.take i) (b.drop i)) (fun i=>[(0,.p (.sl (s.map gq))),(1,.p (.sl (l.map jK))),(7,.ow 14),(15,.p (.sl (b.map CJ))),(16,.p (i64 b.length)),(17,.p (i64 i))]) (fun i=>[(14,.map (.st [0,1,1,1]) ((mL (b.take i)).map Bz))]) (fun i=>b.length-i) 0 _ (aY.refl _ _) ⟨bd _,rfl⟩ ⟨rfl,rfl,rfl,rfl,qU (fun n:Nat=>AV.p (i64 n)) lm,Z,Y⟩ ⟨Z,Y⟩ fun i hi t h=>?_;apply iW<;>intro h1<;>try simp only[zB]at h1
 ·obtain⟨f,hf⟩:=a8 (l:=b) (i:=i) (by omega);have bad:∀c:Int,fX s l (b.take i) f=c->c≠0->mW (fX s l) [] b=c:=fun c=>oV hf hi.2;have Fe:¬(pQ l f=true/\pK f.step 0 (s.length-1)=true)->mW (fX s l) [] b=9:=fun h=>bad 9 (by rw[fX,af h]) (by decide);refine⟨(CJ f),(idx rfl hf),_,_,(x7 l f.lot l2 (by omega)),iW ?_ ?_⟩<;>intro h2<;>try simp only[zB]at h2
  ·refine⟨?_,trivial⟩;rw[Fe (fun h=>by rw[CQ h2]at h;cases h.1)];rfl
  obtain⟨k,y,hk,hy,hn⟩:=E6 (f:=Lt.name) (l:=l) (x:=f.lot) (by omega);have hh:=CP l2 hy hn;have hp:=(l3 y (aj hy)).2.1;refine⟨(jK y),(idx (show max (sR Lt.name l f.lot) 0=(k:Int) by rw[hk];omega) hy),wO (by omega),_,_,(cI f.panel 0 (y.panels-1)),iW ?_ ?_⟩<;>intro h3<;>try simp only[zB]at h3
  ·refine⟨?_,trivial⟩;rw[Fe (fun h=>by rw[hh]at h;simp_all)];rfl
  refine⟨wO (by omega),?_⟩;have hw:=cI f.step 0 (s.length-1);rw[<-ls]at hw;refine⟨_,_,hw,iW ?_ ?_⟩<;>intro h4<;>try simp only[zB]at h4
  ·refine⟨?_,trivial⟩;rw[Fe (fun h=>by simp_all)];rfl
  have w1:pQ l f=true/\pK f.step 0 (s.length-1)=true:=⟨by rw[hh];simpa using h3,by rw[<-ls];simpa using h4⟩;refine⟨_,_,(cI f.visit 1 6),iW ?_ ?_⟩<;>intro h5<;>try simp only[zB]at h5
  ·refine⟨?_,trivial⟩;rw[bad 1 (by rw[fX,ae w1,af (by simp_all)]) (by decide)];rfl
  have w2:pK f.visit 1 6=true:=by simpa using h5
  have hg:=Fc (b.take i) f;cases hq:(b.take i).any (Ul f) with
  | true=>
   rw[hq]at hg;refine⟨(some (.im (.bool true))),hg,?_,trivial⟩;rw[bad 7 (by rw[fX,ae w1,ae w2,ae hq]) (by decide)];rfl
  | false=>
   rw[hq]at hg;refine⟨none,hg,?_⟩;have hm:=yb (l:=b.take i) (f:=f) (by rw[hq];decide);have ht:=bT hf;exact⟨wO (by omega),(i+1),_,aY.refl _ _,⟨by omega,lP hf hi.2 (by rw[fX,ae w1,ae w2,af (by rw[hq];decide)])⟩,by omega,⟨Z,Z,Z,Z,Z,Z,Y⟩,⟨by rw[ht];exact qU (AB.map _) hm,trivial⟩⟩
 refine⟨?_,trivial⟩;rw[wx (by omega) hi.2];rfl
open Go.Sort
instance:Inhabited dQ:=⟨⟨.empty,0,0,0,0,0,false⟩⟩
def qv(d:dQ):List Value:=[.string d.lot,.int .i64 d.panel,.int .i64 d.step,.int .i64 d.machine,.int .i64 d.from_,.int .i64 d.till,.bool d.good]
theorem o6(l:List dQ):bG (l.map qv)=l.map dc:=by
 unfold bG;rw[ig];exact vA fun r _=>rfl
theorem rz{l:List dQ}:∀r∈l.map qv,r.length=7:=by
 intro r hr;obtain⟨x,_,rfl⟩:=aV.1 hr;rfl
theorem yc(d:Array dQ):flatK qv 7 d=(d.toList.map qv).flatten.toArray:=by
 apply Array.ext_getElem?;intro q;have hlen:(d.toList.map qv).flatten.length=d.size*7:=by rw[lQ (k:=7) rz];simp
 by_cases hq:q<d.size*7
 ·have h1:q / 7<d.size:=by omega
  have h2:q % 7<7:=qM _ (by omega);have e:q / 7*7+q % 7=q:=by omega
  have hg:=get_flatK qv 7 d q hq;have hsz:(flatK qv 7 d).size=d.size*7:=by simp
  rw[bE (by omega),<-getElem!_pos (flatK qv 7 d) q (by omega),hg];have hr:(d.toList.map qv)[q / 7]?=some (qv d[q / 7]!):=by
   rw[ao,cg,bE h1,eM,getElem!_pos d _ h1]
  have hv:(qv d[q / 7]!)[q % 7]?=some ((qv d[q / 7]!)[q % 7]!):=by
   have h3:q % 7<(qv d[q / 7]!).length:=h2;rw[aM h3,getElem!_pos (qv d[q / 7]!) (q % 7) h3]
  have:=wA (k:=7) rz hr hv;rw[e]at this;simpa using this.symm
 rw[UG (by simp;omega),UG (by simp only[lV];omega)]
theorem Nl(a b:dQ):ltOf tB a b=!H6 b a:=ES a b
theorem MB:SWO (ltOf tB) where
 irrefl x:=by rw[Nl];simp[H6]
 trans x y z h1 h2:=by
  rw[Nl]at *;simp only[H6,j8,wi]at *;omega
 ntrans x y z h1 h2:=by
  rw[Nl]at *;simp only[H6,Bool.not_eq_false',dS]at *;omega
def iO(l:List dQ):List dQ:=(pdq (ltOf tB) l.toArray 0 l.toArray.size (Lib.bitLen l.toArray.size) true true).toList
theorem sV(l:List dQ):(iO l).Perm l/\(iO l).Pairwise fun a b=>H6 a b=true:=by
 obtain⟨h1,h2⟩:=pdq_sorts (ltOf tB) MB l.toArray 0 l.toArray.size (Lib.bitLen l.toArray.size) true true (bd _) (aC _) (Or.inl rfl);obtain⟨p1,_,p3⟩:=h1;have hp:(iO l).Perm l:=by
  have e1:∀d:Array dQ,d.size=l.toArray.size->(d.extract 0 l.toArray.size).toList=d.toList:=fun d h=>by rw[<-h];simp
  rw[e1 _ p1,e1 _ rfl]at p3;unfold iO;simpa using p3
 refine⟨hp,?_⟩;rw[oW];intro i j hi hj F8;have hs:(iO l).length=l.toArray.size:=by rw[hp.length_eq];simp
 have:=h2 i j (bd _) F8 (by omega);unfold iO at hi hj ⊢;simp only[Tk]at hi hj;rw[getElem!_pos _ j hj,getElem!_pos _ i hi,Nl]at this;simpa using this
theorem Pr(n:Int)(W:World):Calls Tryz.prog 78 #[.int .i64 n] W fun e w'=>e=.returned (.bool false)/\w'=W:=by
 go_enter Tryz.func78,Tryz.ntmps78
 go_wp2
 go_ret
 exact⟨by simp,rfl⟩
theorem JS(a b:Int)(W:World):Calls Tryz.prog 46 #[.int .i64 a,.int .i64 b] W fun e w'=>e=.returned (.int .i64 (jI a b))/\w'=W:=by
 go_enter Tryz.func46,Tryz.ntmps46
 go_wp2_with (go_at_call 78;refine (Pr _ _).mono ?_;rintro e w' ⟨rfl,hw⟩;rw[hw])
 all_goals (go_ret;refine⟨?_,rfl⟩;unfold jI;(repeat' split)<;>first | rfl | (exfalso;omega))
theorem G6(W:World)(bH:Nat)(a b d:Int)(h0:W.cell? ⟨bH,0,none⟩=some (.int .i64 a))(h1:W.cell? ⟨bH,1,none⟩=some (.int .i64 b))(h2:W.cell? ⟨bH,2,none⟩=some (.int .i64 d))(c:Nat):Calls Tryz.prog 45 #[.slice (some ⟨bH,0,none⟩) 3 c] W fun e w'=>e=.returned (.int .i64 (A6 [a,b,d]))/\w'=W:=by
 simp only[A6]
 go_enter Tryz.func45,Tryz.ntmps45
 go_wp2
 go_loop [8] (fun i=>∃k:Nat,k<=3/\i=.int .i64 k/\(0<k->a=0)/\(1<k->b=0)/\(2<k->d=0)) (fun i=>3-(intOf i).toNat)
 case atStart=>exact⟨0,by omega,rfl,fun h=>by omega,fun h=>by omega,fun h=>by omega⟩
 case round=>
  obtain⟨k,hk,rfl,k1,k2,k3⟩:=hrel;rcases (show k=0\/k=1\/k=2\/k=3 by omega) with rfl | rfl | rfl | rfl
  ·by_cases e:a=0
   ·subst e
    go_wp2
    go_round
    case rel=>exact⟨1,by omega,by go_num,fun _=>by trivial,fun h=>by omega,fun h=>by omega⟩
    case measure=>simp[intOf]
   go_wp2
   go_ret
   exact⟨by first | rfl | simp[e],rfl⟩
  ·have e:=k1 (by omega);subst e;by_cases e:b=0
   ·subst e
    go_wp2
    go_round
    case rel=>exact⟨2,by omega,by go_num,fun _=>by trivial,fun _=>by trivial,fun h=>by omega⟩
    case measure=>simp[intOf]
   go_wp2
   go_ret
   exact⟨by first | rfl | simp[e],rfl⟩
  ·have e:=k1 (by omega);have e2:=k2 (by omega);subst e;subst e2;by_cases e:d=0
   ·subst e
    go_wp2
    go_round
    case rel=>exact⟨3,by omega,by go_num,fun _=>by trivial,fun _=>by trivial,fun _=>by trivial⟩
    case measure=>simp[intOf]
   go_wp2
   go_ret
   exact⟨by first | rfl | simp[e],rfl⟩
  have e:=k1 (by omega);have e2:=k2 (by omega);have e3:=k3 (by omega);subst e;subst e2;subst e3
  go_wp2
  go_ret
  exact⟨rfl,rfl⟩
theorem Ff(x y:dQ)(W:World):Calls Tryz.prog 20 #[.agg (qv x).toArray,.agg (qv y).toArray] W fun e w'=>e=.returned (.int .i64 (tB x y))/\∃q R_,w'=grow (W.drewN q) R_:=by
 unfold qv tB;obtain⟨a1,a2,a3,a4,a5,a6,a7⟩:=x;obtain⟨b1,b2,b3,b4,b5,b6,b7⟩:=y;simp only
 go_enter Tryz.func20,Tryz.ntmps20
 obtain⟨O1,QA⟩:∃o,o=Obj.cells #[Value.string a1,Value.int IntKind.i64 a2,Value.int IntKind.i64 a3,Value.int IntKind.i64 a4,Value.int IntKind.i64 a5,Value.int IntKind.i64 a6,Value.bool a7] 34:=⟨_,rfl⟩;obtain⟨O2,QB⟩:∃o,o=Obj.cells #[Value.string b1,Value.int IntKind.i64 b2,Value.int IntKind.i64 b3,Value.int IntKind.i64 b4,Value.int IntKind.i64 b5,Value.int IntKind.i64 b6,Value.bool b7] 34:=⟨_,rfl⟩;obtain⟨W3,KG⟩:∃w3,w3=({ ((W.alloc O1).alloc O2) with drawn:=((W.alloc O1).alloc O2).drawn+1 }:World):=⟨_,rfl⟩;have hs:W3.heap.size=W.heap.size+2:=by rw[KG];exact (kp ..).trans (qU (·+1) (kp ..))
 have c0:∀(i:Nat) v,#[Value.string a1,Value.int IntKind.i64 a2,Value.int IntKind.i64 a3,Value.int IntKind.i64 a4,Value.int IntKind.i64 a5,Value.int IntKind.i64 a6,Value.bool a7][i]?=some v->W3.cell? ⟨W.heap.size,i,none⟩=some v:=fun i v hv=>by
  rw[KG];refine (World.cell?_alloc_past (w:=W.alloc _) _ _ _ (by rw[show (W.alloc _).heap.size=W.heap.size+1 from kp ..];omega)).trans ?_;rw[QA];exact (TM _ _ _ _ rfl).trans hv
 have c1:∀(i:Nat) v,#[Value.string b1,Value.int IntKind.i64 b2,Value.int IntKind.i64 b3,Value.int IntKind.i64 b4,Value.int IntKind.i64 b5,Value.int IntKind.i64 b6,Value.bool b7][i]?=some v->W3.cell? ⟨W.heap.size+1,i,none⟩=some v:=fun i v hv=>by
  rw[KG];rw[QB];exact (TM (w:=W.alloc _) _ _ _ _ (kp ..).symm).trans hv
 have d4:=c0 4 _ rfl;have d2:=c0 2 _ rfl;have d3:=c0 3 _ rfl;have e4:=c1 4 _ rfl;have e2:=c1 2 _ rfl;have e3:=c1 3 _ rfl;clear c0 c1;have hg:W3=grow (W.drewN 1) #[O1,O2]:=by
  rw[KG,alloc_eq_grow,alloc_eq_grow,grow_grow];rfl
 have HG:=Lib.hid hg;clear hg
 go_wp2_with fail
 refine wp_region_still_tail 15 (by kernel_rfl) (by kernel_rfl) ?_;rw[<-QA,<-QB,<-KG];clear KG;simp only[Uz,mC,List.drop_succ_cons,List.drop_zero]
 repeat still_step
 still_call (JS a5 b5 W3)
 repeat still_step
 still_call (JS a3 b3 W3)
 repeat still_step
 still_call (JS a4 b4 W3)
 refine wpStill_nil ?_
 go_wp2_with (go_at_call 45;refine (G6 _ _ _ _ _ (TM _ _ _ _ (by omega)) (TM _ _ _ _ (by omega)) (TM _ _ _ _ (by omega)) _).mono ?_;rintro e w' ⟨rfl,hw⟩;rw[hw])
 go_ret
 have hg:=HG.out;exact⟨rfl,1,_,by rw[hg,alloc_eq_grow,grow_grow]⟩
theorem US(l:List dQ)(hN:l.length<4611686018427387904):aT C 19 [.row 34 (l.map dc),.pv (.im (.func (.func 20) #[] #[]))] (.tu []) [.row ((iO l).map dc)]:=by
 obtain⟨hp,_⟩:=sV l;have eg:=enters_of Tryz.func20 (by kernel_rfl) rfl;have:=z6 hC (f:=19) 34 _ rfl (by decide) [.func (.func 20) #[] #[]] (l.map qv) ((iO l).map qv) rz rz (by rw[Al,Al,hp.length_eq])
  (fun r hr v hv=>by
   obtain⟨x,_,rfl⟩:=aV.1 hr;simp only[qv,fL,List.not_mem_nil,or_false]at hv;rcases hv with rfl | rfl | rfl | rfl | rfl | rfl | rfl<;>rfl)
  ⟨_,Tryz.func19,rfl,rfl⟩
  (fun _ w=>AnyF.slices_SortFunc_none Tryz.laysSortDoing none 0 (.func (.func 20) #[] #[]) w)
  (fun S w bH cap hE hblk _ hcell=>by
   have hH:HoldsK qv 7 w bH 0 l.toArray:=by
    unfold HoldsK;intro j hj;rw[yc]at hj ⊢;simp only[lV]at hj;have hv:(l.map qv).flatten[j]?=some ((l.map qv).flatten[j]'hj):=aM hj;obtain⟨h1,h2⟩:=hcell j _ hv;rw[cV];refine⟨?_,h2⟩;rw[h1];congr 1;rw[getElem!_pos _ j (by simpa using hj)];simp
   have hc:=AnyQ.slices_SortFunc_eq Tryz.laysSortDoing 7 (fun w=>(hC.eL 34 _ rfl).isAgg w) (fun w=>(hC.eL 34 _ rfl).sizeOf w) qv (fun _=>rfl) (fun x v hv=>by
    simp only[qv,fL,List.not_mem_nil,or_false]at hv;rcases hv with rfl | rfl | rfl | rfl | rfl | rfl | rfl<;>rfl) tB MB 20 #[] bH 0 cap l.toArray w eg (fun _ _ _ _ x y=>Ff x y _) hH hblk (by simpa using hN)
   have e:l.toArray.size=(l.map qv).length:=by simp
   rw[e]at hc;refine hc.mono fun e' w' ⟨h1,n,os,h2⟩=>⟨h1,n,os,?_⟩;rw[h2];unfold sortWorldK putRowK tF;rw[yc,<-e];rfl)
 rw[o6,o6]at this;exact this
variable {s:List gI}
theorem CR{b:List Fl}(h:de s l b=0){i:Nat}{f:Fl}(hf:b[i]?=some f):¬(b.take i).any (Ul f)=true:=by
 unfold de at h;split at h
 ·cases h
 have:=wD h i f hf;unfold fX at this;split at this
 ·split at this
  ·split at this
   ·cases this
   assumption
  cases this
 cases this
def mX(x:gI):List Bool:=List.replicate x.machines.toNat false
def qx(s:List gI)(x:Lt)(k:Nat):lH:=⟨0,0,0,List.replicate s.length 0,⟨x.name,k,false,0,0⟩⟩
def iP(s:List gI)(x:Lt)(n:Nat):List lH:=(List.range n).map (qx s x)
def gh(s:List gI)(l:List Lt):List lH:=l.flatMap fun x=>iP s x x.panels.toNat
def jj(a:Int)(i:Nat):Nat->List Wt->List Wt
 | 0,Q=>Q
 | k+1,Q=>eH (jj a i k Q) (a,(i:Int),(k:Int))
def dh(l:List Lt):Nat->List Wt
 | 0=>[]
 | i+1=>match l[i]? with
  | some x=>jj x.at_ i x.panels.toNat (dh l i)
  | none=>dh l i
theorem pT(a:Int)(i:Nat):∀(k:Nat) (Q:List Wt),(jj a i k Q).length=Q.length+k
 | 0,Q=>rfl
 | k+1,Q=>by rw[jj,pN,pT a i k Q];omega
theorem pU(h:∀x∈l,x.panels<=200):∀i,(dh l i).length<=200*i
 | 0=>aC _
 | i+1=>by
  have ih:=pU h i;unfold dh;split
  ·rename_i x hx;have:=h x (aj hx);rw[pT];omega
  omega
def tH(g:Nat):List HX:=[.av (.p (ptr g))]
theorem Bp(d:Nat)(l:List Nat):(l.map tH).map (fun r=>r.map (HX.Te (sc d)))=l.map tH:=by
 rw[ig];rfl
theorem Bq(i d:Nat)(l:List Nat):(l.map tH).map (fun r=>r.map (HX.Te (rn i d)))=l.map tH:=by
 rw[ig];rfl
def Fg(gs:List (List Nat)):List (List PV):=gs.map fun r=>[CE r]
def cQ(s:List gI)(Q:List Wt):List (List Wt):=(List.replicate s.length ([]:List Wt)).set 0 Q
theorem G7(l:List Nat):Kf (l.map tH) (l.map fun g=>[ptr g]):=Kf.map fun g _=>⟨rfl,fun j u v hu hv=>by
 cases j with
 | zero=>
  simp[tH]at hu hv;subst hu;subst hv;exact .p _
 | succ j=>simp[tH]at hu⟩
theorem qy(h:0<s.length)(Q:List Wt):(cQ s Q)[0]?=some Q:=by
 rw[cQ,aP (by simpa using h)]
theorem ye(s:List gI)(Q Q':List Wt):(cQ s Q).set 0 Q'=cQ s Q':=by
 rw[cQ,Ti];rfl
theorem lS(s:List gI)(Q:List Wt):(cQ s Q).length=s.length:=by
 rw[cQ,aF,uX]
theorem Aa{i:Nat}{x:Lt}(h:l[i]?=some x):gh s (l.take (i+1))=gh s (l.take i)++iP s x x.panels.toNat:=by
 rw[bT h,gh,List.flatMap_append];simp[gh]
theorem Ab(s:List gI)(x:Lt)(k:Nat):iP s x (k+1)=iP s x k++[qx s x k]:=by
 rw[iP,List.range_succ,aa];rfl
theorem Fh{A:List Nat}{B:List lH}(h:A.length=B.length)(g:Nat)(j:lH):nz (A++[g]) (B++[j])=nz A B++[(g,pL j)]:=by
 rw[nz,List.zipWith_append h];rfl
theorem mB{s:List gI}:∀{l:List Lt} {gs:List (List Nat)},gs.map List.length=l.map (fun x=>x.panels.toNat)->gs.flatten.length=(gh s l).length
 | [],[],_=>rfl
 | [],_::_,h=>by cases h
 | _::_,[],h=>by cases h
 | x::l,r::gs,h=>by
  simp only[qO,List.cons.injEq]at h;have:=mB (s:=s) h.2;simp only[gh,ic,SX,bZ]at this ⊢;rw[this,h.1];simp[iP]
theorem SZ.iU{st:Stat}:∀(n:Nat) {x:a_},SZ st x->SZ st (M.iU n st x)
 | 0,x,h=>h
 | n+1,x,h=>by
  obtain⟨f1,f2,f3⟩:=h.fy;unfold M.iU;split
  ·rename_i a ha;exact SZ.iU n (f1.next f3 ha).1
  exact f1.start.1
theorem SZ.iV{st:Stat}{x:a_}(h:SZ st x):SZ st (M.iV st x):=SZ.iU _ h
theorem Fi{gs:List (List Nat)}{i:Nat}{r:List Nat}(h:gs[i]?=some r):pos gs (i+1) 0=pos gs i r.length:=by
 rw[pos,pos,bT h,aa,List.sum_append];simp
theorem G8(gs:List (List Nat)):pos gs gs.length 0=gs.flatten.length:=by
 rw[pos,Tn,List.length_flatten];rfl
theorem yf{s:List gI}:∀{l:List Lt},(∀x∈l,x.panels<=200)->(gh s l).length<=200*l.length
 | [],_=>aC _
 | x::l,h=>by
  have ih:=yf (s:=s) fun y hy=>h y (An _ hy);have:=h x dJ;simp only[gh,ic,bZ,cD]at ih ⊢;have e:(iP s x x.panels.toNat).length=x.panels.toNat:=by simp[iP]
  omega
def fY(s:List gI)(l:List Lt):a_:=⟨gh s l,cQ s (dh l l.length),[],s.map mX,0,[]⟩
variable {sW:List (List Nat)}
theorem wE{b:List Fl}{gs:List (List Nat)}(h:gs.map List.length=sW.map List.length)(w:Wt):bU ⟨s,l,b,gs⟩ w=bU ⟨s,l,b,sW⟩ w:=by
 simp only[bU,pos];rw[Ud,Ud,h]
theorem G9{b:List Fl}{gs:List (List Nat)}(h:gs.map List.length=sW.map List.length)(x:a_):eI ⟨s,l,b,gs⟩ x=eI ⟨s,l,b,sW⟩ x:=by
 unfold eI;simp only[wE h];rfl
theorem JT{b:List Fl}{gs:List (List Nat)}(h:gs.map List.length=sW.map List.length)(x:a_):fx ⟨s,l,b,gs⟩ x=fx ⟨s,l,b,sW⟩ x:=by
 funext w;unfold fx;rw[wE h]
theorem Fj{b:List Fl}{gs:List (List Nat)}(h:gs.map List.length=sW.map List.length)(x:a_):eW ⟨s,l,b,gs⟩ x=eW ⟨s,l,b,sW⟩ x:=by
 unfold eW;rw[JT h]
theorem Br{b:List Fl}{gs:List (List Nat)}(h:gs.map List.length=sW.map List.length):∀(n:Nat) (x:a_),kz n ⟨s,l,b,gs⟩ x=kz n ⟨s,l,b,sW⟩ x
 | 0,x=>rfl
 | n+1,x=>by
  unfold kz;rw[G9 h];split
  ·exact Br h n _
  rfl
theorem CS{b:List Fl}{gs:List (List Nat)}(h:gs.map List.length=sW.map List.length)(i:Nat)(x:a_):du ⟨s,l,b,gs⟩ i x=du ⟨s,l,b,sW⟩ i x:=by
 unfold du;simp only[wE h]
theorem uJ{b:List Fl}{gs:List (List Nat)}(h:gs.map List.length=sW.map List.length)(i:Nat):∀(n:Nat) (x:a_),eo n ⟨s,l,b,gs⟩ i x=eo n ⟨s,l,b,sW⟩ i x
 | 0,x=>rfl
 | n+1,x=>by
  unfold eo;rw[CS h];split
  ·exact uJ h i n _
  rfl
theorem CT{b:List Fl}{gs:List (List Nat)}(h:gs.map List.length=sW.map List.length)(x:a_):bV ⟨s,l,b,gs⟩ x=bV ⟨s,l,b,sW⟩ x:=by
 have e:(fun x i=>dE ⟨s,l,b,gs⟩ i x)=(fun x i=>dE ⟨s,l,b,sW⟩ i x):=by
  funext x i;exact uJ h i _ x
 unfold bV;rw[e]
theorem G_{b:List Fl}{gs:List (List Nat)}(h:gs.map List.length=sW.map List.length)(x:a_):fy ⟨s,l,b,gs⟩ x=fy ⟨s,l,b,sW⟩ x:=by
 unfold fy;rw[Fj h];exact Br h _ x
theorem Bs{b:List Fl}{gs:List (List Nat)}(h:gs.map List.length=sW.map List.length):∀(n:Nat) (x:a_),iU n ⟨s,l,b,gs⟩ x=iU n ⟨s,l,b,sW⟩ x
 | 0,x=>rfl
 | n+1,x=>by
  unfold iU;rw[G_ h,CT h];split
  ·exact Bs h n _
  rfl
theorem Ha{b:List Fl}{gs:List (List Nat)}(h:gs.map List.length=sW.map List.length)(x:a_):iV ⟨s,l,b,gs⟩ x=iV ⟨s,l,b,sW⟩ x:=by
 unfold iV;rw[Fj h];exact Bs h _ x
theorem uK{a:Int}{i:Nat}:∀{k:Nat} {Q:List Wt} {w:Wt},w∈jj a i k Q->w∈Q\/∃m,m<k/\w=(a,(i:Int),(m:Int))
 | 0,Q,w,h=>.inl h
 | k+1,Q,w,h=>by
  rcases Th h with h | rfl
  ·rcases uK h with h | ⟨m,h1,h2⟩
   ·exact .inl h
   exact .inr ⟨m,by omega,h2⟩
  exact .inr ⟨k,by omega,rfl⟩
theorem pV:∀{i:Nat} {w:Wt},w∈dh l i->∃(n:Nat) (x:Lt) (m:Nat),n<i/\l[n]?=some x/\m<x.panels.toNat/\w=(x.at_,(n:Int),(m:Int))
 | 0,w,h=>by cases h
 | i+1,w,h=>by
  unfold dh at h;split at h
  ·rename_i x hx;rcases uK h with h | ⟨m,h1,h2⟩
   ·obtain⟨n,y,m,h1,h2⟩:=pV h;exact⟨n,y,m,by omega,h2⟩
   exact⟨i,x,m,by omega,hx,h1,h2⟩
  obtain⟨n,y,m,h1,h2⟩:=pV h;exact⟨n,y,m,by omega,h2⟩
theorem sX{a:Int}{i:Nat}:∀(k:Nat) {Q:List Wt},Heap Q->Heap (jj a i k Q)
 | 0,Q,h=>h
 | k+1,Q,h=>nB _ (sX k h)
theorem sY:Heap []:=fun c a b _ h=>by simp at h
theorem nE(l:List Lt):∀i,Heap (dh l i)
 | 0=>sY
 | i+1=>by
  unfold dh;split
  ·exact sX _ (nE l i)
  exact nE l i
def Nn(p:Int×Int)(w:Wt):Nat:=if w.2=p then 1 else 0
theorem uL(p:Int×Int)(a:Int)(i:Nat):∀(k:Nat) (Q:List Wt),bK (Nn p) (jj a i k Q)=bK (Nn p) Q+(if p.1=i/\0<=p.2/\p.2<k then 1 else 0)
 | 0,Q=>by
  rw[af (by omega)];rfl
 | k+1,Q=>by
  rw[jj,jM,uL p a i k Q];obtain⟨p1,p2⟩:=p;simp only[Nn,Prod.mk.injEq]
  repeat' split
  all_goals omega
theorem uM(p:Int×Int)(l:List Lt):∀i,bK (Nn p) (dh l i)<=if 0<=p.1/\p.1<i then 1 else 0
 | 0=>by rw[dh];simp[bK]
 | i+1=>by
  have ih:=uM p l i;unfold dh;split
  ·rw[uL]
   repeat' split
   all_goals (repeat' split at ih)
   all_goals omega
  repeat' split
  all_goals (repeat' split at ih)
  all_goals omega
theorem JU(f:Wt->Nat)(n:Nat):eJ f (List.replicate n [])=0:=by
 induction n with
 | zero=>rfl
 | succ n ih=>simp only[eJ,kl,qO,S7]at ih ⊢;rw[ih];rfl
theorem Hb(h:0<s.length)(f:Wt->Nat)(Q:List Wt):eJ f (cQ s Q)=bK f Q:=by
 have h1:=jN (f:=f) (l:=List.replicate s.length ([]:List Wt)) (i:=0) (q:=[]) Q (by rw[ik,ae h]);rw[JU]at h1;have h2:bK f []=0:=rfl;rw[cQ];omega
theorem Bt{f:Wt->Nat}{c:Nat}:∀{l:List Wt},(∀w∈l,f w<=c)->bK f l<=c*l.length
 | [],_=>bd _
 | a::l,h=>by
  have h1:=Bt (l:=l) fun w hw=>h w (An _ hw);have h2:=h a dJ;simp only[bK,qO,S7,cD,Nat.mul_add,Nat.mul_one]at h1 ⊢;omega
theorem CU{j:lH}(h:j∈gh s l):∃x∈l,∃k,k<x.panels.toNat/\j=qx s x k:=by
 simp only[gh,gG,iP,aV,dA]at h;obtain⟨x,hx,k,hk,rfl⟩:=h;exact⟨x,hx,k,hk,rfl⟩
theorem lT{Q q:List Wt}(h:q∈cQ s Q):q=[]\/q=Q:=by
 rcases cw h with h | h
 ·exact .inl (aB h)
 exact .inr h
theorem Ac{Q q:List Wt}{i:Nat}(h:(cQ s Q)[i]?=some q):(i=0/\q=Q)\/q=[]:=by
 by_cases e:i=0
 ·subst e;have hl:0<s.length:=by have:=ah h;rw[lS]at this;exact this
  rw[qy hl]at h;injection h with h;exact .inl ⟨rfl,h.symm⟩
 rw[cQ,bw (fun h=>e h.symm),ik]at h;split at h
 ·injection h with h;exact .inr h.symm
 cases h
theorem SZ.zero{s:List gI}{l:List Lt}{b:List Fl}{gs:List (List Nat)}(h1:cz s=0)(h2:cA l=0)(hg:gs.map List.length=l.map fun x=>x.panels.toNat):SZ ⟨s,l,b,gs⟩ (fY s l):=by
 obtain⟨s1,s2⟩:=o5 h1;obtain⟨l1,l2,l3⟩:=oZ h2;have QC:gs.length=l.length:=by simpa using qU List.length hg
 have kX:=mB (s:=s) hg;have Fw:=pU (l:=l) (fun x hx=>(l3 x hx).2.1.2) l.length;have ok:∀w∈dh l l.length,yq ⟨s,l,b,gs⟩ w/\0<=w.1/\w.1<=1000000000:=fun w hw=>by
  obtain⟨n,x,m,a1,a2,a3,rfl⟩:=pV hw;obtain⟨r,hr⟩:=a8 (l:=gs) (i:=n) (by omega);have e:r.length=x.panels.toNat:=by
   have e1:(gs.map List.length)[n]?=some r.length:=by rw[ao,hr];rfl
   rw[hg,ao,a2]at e1;injection e1 with e1;exact e1.symm
  obtain⟨g,xd⟩:=a8 (l:=r) (i:=m) (by omega);exact⟨⟨n,m,r,g,rfl,rfl,hr,xd⟩,(l3 x (aj a2)).2.2⟩
 have Ps:∀(n:Nat) (j:lH),(gh s l)[n]?=some j->j.step=0/\j.visits.length=s.length/\(∀v∈j.visits,v=0)/\j.made.rework=0:=fun n j hj=>by
  obtain⟨x,_,k,_,rfl⟩:=CU (aj hj);exact⟨rfl,by simp[qx],fun v hv=>aB hv,rfl⟩
 have BU:∀f:Wt->Nat,eJ f (fY s l).queues=bK f (dh l l.length):=fun f=>Hb s1.1 f _;have JF:∀w,fx ⟨s,l,b,gs⟩ (fY s l) w<=180:=fun w=>by
  unfold fx;split
  ·rename_i j hj;obtain⟨e1,_,_,e4⟩:=Ps _ j hj;rw[e1,e4];show (5-0:Int).toNat*s.length+(s.length-0)<=180;have:(5-0:Int).toNat=5:=rfl;rw[this];omega
  omega
 have JD:eW ⟨s,l,b,gs⟩ (fY s l)<=lL:=by
  have e0:lL=15000000:=rfl;have b1:bK (fun w=>4*fx ⟨s,l,b,gs⟩ (fY s l) w+2+fF (fY s l) w) (dh l l.length)<=723*(dh l l.length).length:=Bt fun w _=>by
   have:=JF w;have:fF (fY s l) w<=1:=by unfold fF;split<;>omega
   omega
  unfold eW;rw[BU];have b2:bK (fun w=>4*fx ⟨s,l,b,gs⟩ (fY s l) w+fF (fY s l) w) (fY s l).ends=0:=rfl;omega
 have hlen:oQ (cQ s (dh l l.length))<=20000:=by
  have a1:=oR (l:=List.replicate s.length ([]:List Wt)) (i:=0) (q:=[]) (dh l l.length) (by rw[ik,ae s1.1]);have a2:oQ (List.replicate s.length ([]:List Wt))=0:=by simp[oQ]
  rw[cQ];simp only[jU]at a1;omega
 refine⟨⟨lS _ _,by simp[fY],kX.symm,fun q hq w hw=>?_,?_,fun c hc=>?_,⟨TN _,(by decide:(0:Int)<=1000000000000000)⟩,fun x hx=>?_⟩,⟨s1.1,by show s.length<=1000;omega⟩,fun i x hx=>?_,QC.symm,sY,fun q hq=>?_,fun w hw=>(by cases hw),fun j hj=>?_,fun p=>?_,fun i q w hq hw=>?_,fun w hw=>(by cases hw),?_,fun w hw=>?_,?_⟩
 ·rcases lT hq with rfl | rfl
  ·cases hw
  exact (ok w hw).1
 ·show oQ (cQ s (dh l l.length))+0<=500000;omega
 ·obtain⟨x,hx,rfl⟩:=aV.1 hc;obtain⟨i,hi⟩:=cf.1 hx;have:=(s2 i x hi).2.2.1;rw[mX,uX];omega
 ·obtain⟨i,hi⟩:=cf.1 hx;have:=(s2 i x hi).2.1;omega
 ·have:=s2 i x hx;omega
 ·rcases lT hq with rfl | rfl
  ·exact sY
  exact nE _ _
 ·obtain⟨n,hn⟩:=cf.1 hj;obtain⟨e1,e2,e3,e4⟩:=Ps n j hn;exact⟨by rw[e1];exact s1.1,e2,fun v hv=>by rw[e3 v hv];exact⟨TN _,TN _⟩,by rw[e4];decide,by rw[e4];decide⟩
 ·unfold qE;rw[BU];have:=uM p l l.length;have e:bK (fun w=>if w.2=p then 1 else 0) (fY s l).ends=0:=rfl;rw[e];have this:bK (fun w=>if w.2=p then 1 else 0) (dh l l.length)<=if 0<=p.1/\p.1<l.length then 1 else 0:=this;split at this<;>omega
 ·rcases Ac hq with⟨rfl,rfl⟩ | rfl
  ·obtain⟨i,k,r,g,a1,a2,a3,a4⟩:=(ok w hw).1;have hf:=gr gs i k r g a3 a4;obtain⟨j,hj⟩:=a8 (l:=gh s l) (i:=pos gs i k) (by have:=ah hf;omega);refine⟨j,?_,(Ps _ j hj).1⟩;rw[bU,a1,a2,wh,wh];exact hj
  cases hw
 ·show 2*0+_<=_;omega
 ·rcases hw with hw | ⟨q,hq,hw⟩
  ·cases hw
  rcases lT hq with rfl | rfl
  ·cases hw
  have:=(ok w hw).2;omega
 show (0:Int)<=_;omega
def MC(s:List gI)(l:List Lt)(b:List Fl):Stat:=⟨s,l,b,l.map fun x=>List.replicate x.panels.toNat 0⟩
def pW(s:List gI)(l:List Lt)(b:List Fl):a_:=iV (MC s l b) (fY s l)
def jQ(s:List gI)(l:List Lt)(b:List Fl):List dQ×List Made×Int:=
 if cz s=0 then if cA l=0 then if de s l b=0 then (iO (pW s l b).done,(pW s l b).jobs.map lH.made,0) else ([],[],de s l b) else ([],[],cA l) else ([],[],cz s)
theorem SZ.pW{b:List Fl}(h1:cz s=0)(h2:cA l=0):SZ (MC s l b) (M.pW s l b):=SZ.iV (SZ.zero h1 h2 (by rw[ig];exact vA fun x _=>uX ..))
end M
end Go.Proofs.YtedjhhieekileaaGreatDoor
