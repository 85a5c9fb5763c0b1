/- Part 5 of the proof of RulesNetsMatchSpec. -/
import Derived.Test.YtliffnpbaeijgaaGreatDoorN04
import Derived.Lib.SplitLaws
import Derived.Shelf.SlSortCmp.WholeK
import Derived.Deep.Slices
import Derived.Shelf.SlSortCmp.NoneTotal
set_option linter.unusedVariables false
set_option linter.unusedSimpArgs false
set_option maxRecDepth 100000
set_option maxHeartbeats 8000000
namespace Go
abbrev wT:=@List.all_eq_false
abbrev A3:=@List.all_append
abbrev Mu:=@List.map_map
abbrev uc:=@List.any_cons
abbrev A4:=@List.flatten_cons
abbrev wZ:=@Array.getElem?_append_right
abbrev Ga:=@Array.getElem?_eq_none
abbrev Gb:=@Nat.eq_zero_or_pos
abbrev Gc:=@List.not_mem_nil
abbrev mc:=@List.filter_eq_self
abbrev Gd:=@List.drop_drop
abbrev w_:=@List.map_set
end Go
namespace Go.Proofs.YtliffnpbaeijgaaGreatDoor
namespace M
open Go.AM Go.RowKit
theorem DL(s:ByteArray)(c:Int):ai C 135 [.pv (str s),.pv (.im (.int .u8 c))] (.p (i64 (Lib.indexByte s.data.toList c.toNat.toUInt8))) []:=
 tO [.string s,.int .u8 c] _ ⟨_,Tryz.func135,rfl,rfl⟩ fun _ w _ _=>(Tryz.strings_IndexByte s c w).mono fun _ _ ⟨u,z⟩=>⟨u,by rw[z];exact Mt _ _⟩
theorem adt(n lo hi:Int):ai C 61 [.pv (i64 n),.pv (i64 lo),.pv (i64 hi)] (.p (bool (decide (lo<=n)&&decide (n<=hi)))) []:=by
 refine fW hC Tryz.func61 rfl (by kernel_rfl) fun _=>?_;apply iW<;>intro h<;>(refine⟨?_,trivial⟩)<;>simp[bool,h]
def okB(b:UInt8):Bool:=(decide ((97:Int)<=b.toNat)&&decide ((b.toNat:Int)<=122))||(decide ((65:Int)<=b.toNat)&&decide ((b.toNat:Int)<=90))||(decide ((48:Int)<=b.toNat)&&decide ((b.toNat:Int)<=57))||!decide (Lib.indexByte [95,43,45,35] b<0)
theorem byte_back(b:UInt8):((b.toNat:Int)).toNat.toUInt8=b:=by simp
def gV(s:ByteArray):Bool:=s.data.toList.all okB&&(decide ((1:Int)<=s.size)&&decide ((s.size:Int)<=40))
theorem Ij{s:ByteArray}{i:Nat}(h:i<s.size):∃b:UInt8,s[i]?=some b/\s.data.toList[i]?=some b:=by
 refine⟨s[i],getElem?_pos s i h,?_⟩;rw[kC];exact cC h
theorem adu(s:ByteArray)(hs:s.size<=9223372036854775807):ai C 121 [.pv (str s)] (.p (bool (gV s))) []:=by
 refine fW hC Tryz.func121 rfl (by kernel_rfl) fun _=>?_;have hsz:s.data.toList.length=s.size:=by simp
 refine aP (fun i:Nat=>i<=s.size/\(s.data.toList.take i).all okB=true) (fun i=>[(0,.p (str s)),(3,.p (i64 i))]) (fun _=>[]) (fun i=>s.size-i) 0 _ (aA.refl _ _) ⟨ak _,by simp⟩ ⟨Z,Z,Y⟩ trivial fun i hi t h=>?_;apply iW<;>intro h1
 ·obtain⟨b,hb,z⟩:=Ij (s:=s) (i:=i) (by omega);have I:okB b=false->gV s=false:=fun h=>by
   rw[gV,F1];refine .inl ?_;rw[wT];exact⟨b,aj z,by simp[h]⟩
  have u:okB b=true->(s.data.toList.take (i+1)).all okB=true:=fun h=>by rw[bq z,A3,hi.2];simp[h]
  refine⟨b,⟨by omega,by rw[FY];exact hb⟩,?_⟩;have D:=DL ⟨#[95,43,45,35]⟩ b.toNat;rw[byte_back]at D
  repeat' first | apply iW<;>intro h<;>try simp only[zB]at h | refine⟨_,_,D,?_⟩
  all_goals skip
  all_goals first
   | (
     refine⟨wO (by omega),?_⟩;refine⟨(i+1),_,aA.refl _ _,?_⟩;exact⟨⟨by omega,u (by simp[okB, *])⟩,by omega,⟨Z,Z,Y⟩,trivial⟩)
   | (
     refine⟨?_,trivial⟩;rw[I (by simp[okB, *])];rfl)
 have J:s.data.toList.all okB=true:=by
  have:=hi.2
  rwa [kG (by omega)]at this
 refine⟨_,_,(adt s.size 1 40),?_,trivial⟩;rw[gV,J,tG]
def zQ:ByteArray:=⟨#[47]⟩
def parts(s:ByteArray):List ByteArray:=Lib.splitB zQ 0 (Lib.countB s zQ) s
def si(s:ByteArray):Bool:=(parts s).all gV&&decide ((s.size:Int)<=200)
theorem Ik(z:ByteArray):∀(k:Nat) (s:ByteArray),∀x∈Lib.splitB z 0 k s,x.size<=s.size:=by
 intro k
 induction k with
 | zero=>
  intro s x u;rw[Lib.splitB_zero,Fp]at u;rw[u];omega
 | succ k ih=>
  intro s x u;unfold Lib.splitB at u;split at u
  ·rw[Fp]at u;rw[u];omega
  rcases L8.1 u with h | h
  ·rw[h,ByteArray.size_extract];omega
  have:=ih _ x h;rw[ByteArray.size_extract]at this;omega
theorem wW(s:ByteArray):(parts s).length=Lib.countB s zQ+1:=Lib.splitB_all zQ (by decide) 0 _ s rfl
theorem Il(s:ByteArray):(parts s).length<=s.size+1:=by
 rw[wW];have:=Lib.countB_le zQ (by decide) s.size s (aG _);omega
theorem Q5(l:List ByteArray):(l.map Value.string).map (fun v=>[PV.im v])=l.map fun s=>[str s]:=by
 rw[Mu];rfl
theorem Om(s:ByteArray)(u:s.size<4294967281):ai C 81 [.pv (str s),.pv (str zQ)] (.own 9 ((parts s).map fun s=>[str s])) []:=by
 have h:=Ia hC (f:=81) [.string s,.string zQ] 9 ((parts s).map Value.string) _ rfl rfl (by simp[Value.oneCell']) (by rw[E5];have:=Il s;have:maxLen=9223372036854775807:=rfl;omega) ⟨_,Tryz.func81,rfl,rfl⟩ fun S w z _=>by
  obtain⟨_,_,⟨m,D⟩,_⟩:=z;refine (Tryz.strings_Split s zQ m w u D (by decide)).mono fun _ _ ⟨I,J⟩=>⟨?_,J⟩;rw[I,E5,wW]
 rw[Q5]at h;exact h
theorem afA(s:ByteArray)(N:s.size<4294967281):ai C 120 [.pv (str s)] (.p (bool (si s))) []:=by
 refine fW hC Tryz.func120 rfl (by kernel_rfl) fun _=>?_;have z:=an (parts s) fun s=>[str s];have pl:=Il s;refine⟨_,_,(Om s N),?_⟩;refine aP (fun i:Nat=>i<=(parts s).length/\((parts s).take i).all gV=true) (fun i=>[(0,.p (str s)),(3,.p (strs (parts s))),(4,.p (i64 i))]) (fun _=>[]) (fun i=>(parts s).length-i) 0 _ (aA.own hC _ 3 rfl rfl) ⟨ak _,by simp⟩ ⟨Z,Z,Z,Y⟩ trivial fun i hi t h=>?_;apply iW<;>intro D
 ·rw[z]at D;obtain⟨x,u⟩:=ax (l:=parts s) (i:=i) (by omega);have uN:=Ik _ _ _ x (aj u);refine⟨[str x],(idx rfl u),_,_,(adu x (by omega)),iW ?_ ?_⟩<;>intro I
  ·refine⟨?_,trivial⟩;rw[show si s=false from ?_]
   ·rfl
   rw[si,F1,wT];exact .inl ⟨x,aj u,by simp[I]⟩
  refine⟨wO (by omega),(i+1),_,aA.refl _ _,⟨by omega,?_⟩,by omega,⟨Z,Z,Z,Y⟩,trivial⟩;rw[bq u,A3,hi.2];simp[I]
 rw[z]at D;refine⟨?_,trivial⟩;have J:=hi.2;rw[kG (by omega)]at J;rw[si,J,tG];rfl
open Reg (aB cw aR)
theorem wX(n lo hi:Int):ai C 74 [.pv (i64 n),.pv (i64 lo),.pv (i64 hi)] (.p (bool (decide (lo<=n)&&decide (n<=hi)))) []:=by
 refine fW hC Tryz.func74 rfl (by kernel_rfl) fun _=>?_;apply iW<;>intro h<;>(refine⟨?_,trivial⟩)<;>simp[bool,h]
theorem aaM(n:Int):ai C 72 [.pv (i64 n)] (.p (bool (iG n))) []:=by
 refine fW hC Tryz.func72 rfl (by kernel_rfl) fun _=>?_;refine⟨_,_,(wX n 0 100000),?_,trivial⟩;rfl
theorem F7(n:Int):ai C 71 [.pv (i64 n)] (.p (bool (!iG n))) []:=by
 refine fW hC Tryz.func71 rfl (by kernel_rfl) fun _=>?_;refine⟨_,_,(aaM n),?_,trivial⟩;rfl
theorem F8(n lo hi:Int):ai C 186 [.pv (i64 n),.pv (i64 lo),.pv (i64 hi)] (.p (bool (decide (lo<=n)&&decide (n<=hi)))) []:=by
 refine fW hC Tryz.func186 rfl (by kernel_rfl) fun _=>?_;apply iW<;>intro h<;>(refine⟨?_,trivial⟩)<;>simp[bool,h]
theorem lI(n:Int):ai C 155 [.pv (i64 n)] (.p (bool (Reg.iZ n))) []:=by
 refine fW hC Tryz.func155 rfl (by kernel_rfl) fun _=>?_;refine⟨_,_,(F8 n (-1000000) 1000000),?_,trivial⟩;rfl
theorem dR(x y:Int):ai C 92 [.pv (.ag [i64 x,i64 y])] (.p (bool (Reg.iZ x&&Reg.iZ y))) []:=by
 refine fW hC Tryz.func92 rfl (by kernel_rfl) fun _=>?_;refine⟨_,_,(lI x),iW ?_ ?_⟩<;>intro h
 ·refine⟨_,_,(lI y),?_,trivial⟩;simp[bool,h]
 refine⟨?_,trivial⟩;simp[bool,h]
theorem wY(r:aB):ai C 144 [.pv (.ag (rc r))] (.p (bool (Reg.jq r))) []:=by
 refine fW hC Tryz.func144 rfl (by kernel_rfl) fun _=>?_;refine⟨_,_,(lI r.x0),iW ?_ ?_⟩<;>intro u
 ·refine⟨_,_,(lI r.y0),iW ?_ ?_⟩<;>intro z
  ·refine⟨_,_,(lI r.x1),iW ?_ ?_⟩<;>intro D
   ·refine⟨_,_,(lI r.y1),?_,trivial⟩;simp[bool,Reg.jq,u,z,D]
   refine⟨?_,trivial⟩;simp[bool,Reg.jq,u,z,D]
  refine⟨?_,trivial⟩;simp[bool,Reg.jq,u,z]
 refine⟨?_,trivial⟩;simp[bool,Reg.jq,u]
def eM{α:Type}(p:α->Bool):List α->Nat->Int
 | [],_=>-1
 | x::r,k=>match p x with
  | true=>k
  | false=>eM p r (k+1)
variable {α:Type}
theorem cT{p:α->Bool}:∀{l:List α} {k:Nat},(∀x∈l,p x=false)->eM p l k=-1:=by
 intro l
 induction l with
 | nil=>intro k _;rfl
 | cons x l ih=>intro k h;rw[eM,h x (by simp)];exact ih fun y u=>h y (by simp[u])
theorem hD{p:α->Bool}:∀{l:List α} {i k:Nat} {x:α},l[i]?=some x->p x=true->(∀y∈l.take i,p y=false)->eM p l k=((k+i:Nat):Int):=by
 intro l
 induction l with
 | nil=>intro i k x h;simp at h
 | cons y l ih=>
  intro i k x h hp u;cases i with
  | zero=>simp at h;subst h;rw[eM,hp];rfl
  | succ i=>
   rw[eM,u y (by simp)];have:=ih (i:=i) (k:=k+1) (by simpa using h) hp fun z D=>u z (by simp[D]);simp only[this];omega
theorem eZ(p:α->Bool):∀(l:List α) (k:Nat),decide (0<=eM p l k)=l.any p:=by
 intro l
 induction l with
 | nil=>intro k;rfl
 | cons x l ih=>
  intro k;rw[eM,uc];cases p x with
  | true=>simp
  | false=>simpa using ih (k+1)
theorem iu{p:α->Bool}{l:List α}{i:Nat}{x:α}(z:l[i]?=some x)(hp:p x=false)(h:∀y∈l.take i,p y=false):∀y∈l.take (i+1),p y=false:=by
 intro y u;rw[bq z,fC,Fp]at u;rcases u with u | rfl
 ·exact h y u
 exact hp
theorem On(l:List Int)(hN:l.length<=140737488355328):ai C 131 [.pv (ints l),.pv (.im (.func (.func 71) #[] #[]))] (.p (i64 (eM (fun n=>!iG n) l 0))) []:=by
 refine fW hC Tryz.func131 rfl (by kernel_rfl) fun _=>?_;have D:=an l fun n=>[i64 n];refine aP (fun i:Nat=>i<=l.length/\∀x∈l.take i,(!iG x)=false) (fun i=>[(0,.p (ints l)),(1,.p (.im (.func (.func 71) #[] #[]))),(7,.p (i64 (l.map fun n=>[i64 n]).length)),(8,.p (i64 i))]) (fun _=>[]) (fun i=>l.length-i) 0 _ (aA.refl _ _) ⟨ak _,by simp⟩ ⟨Z,Z,Z,Z,Y⟩ trivial fun i hi t h=>?_;apply iW<;>intro I
 ·rw[D]at I;obtain⟨x,z⟩:=ax (l:=l) (i:=i) (by omega);refine⟨[i64 x],(idx rfl z),_,_,(F7 x),iW ?_ ?_⟩<;>intro u
  ·refine⟨?_,trivial⟩;rw[hD z (by simp[u]) hi.2,fX]
  exact⟨wO (by omega),(i+1),_,aA.refl _ _,⟨by omega,iu z (by simp[u]) hi.2⟩,by omega,⟨Z,Z,Z,Z,Y⟩,trivial⟩
 rw[D]at I;refine⟨?_,trivial⟩;have u:=hi.2;rw[kG (by omega)]at u;rw[cT u];rfl
theorem F9(l:List Int)(u:l.length<=140737488355328):ai C 70 [.pv (ints l),.pv (.im (.func (.func 71) #[] #[]))] (.p (bool (l.any fun n=>!iG n))) []:=by
 refine fW hC Tryz.func70 rfl (by kernel_rfl) fun _=>?_;refine⟨_,_,(On l u),?_,trivial⟩;rw[<-eZ _ l 0];rfl
theorem eN(s:ByteArray)(hs:s.size<=9223372036854775807):ai C 78 [.pv (str s)] (.p (bool (gV s))) []:=by
 refine fW hC Tryz.func78 rfl (by kernel_rfl) fun _=>?_;have hsz:s.data.toList.length=s.size:=by simp
 refine aP (fun i:Nat=>i<=s.size/\(s.data.toList.take i).all okB=true) (fun i=>[(0,.p (str s)),(6,.p (i64 s.size)),(7,.p (i64 i))]) (fun _=>[]) (fun i=>s.size-i) 0 _ (aA.refl _ _) ⟨ak _,by simp⟩ ⟨Z,Z,Z,Y⟩ trivial fun i hi t h=>?_;apply iW<;>intro h1
 ·obtain⟨b,hb,z⟩:=Ij (s:=s) (i:=i) (by omega);have N:okB b=false->gV s=false:=fun h=>by
   rw[gV,F1];refine .inl ?_;rw[wT];exact⟨b,aj z,by simp[h]⟩
  have u:okB b=true->(s.data.toList.take (i+1)).all okB=true:=fun h=>by rw[bq z,A3,hi.2];simp[h]
  refine⟨b,⟨by omega,by rw[FY];exact hb⟩,?_⟩;have D:=DL ⟨#[95,43,45,35]⟩ b.toNat;rw[byte_back]at D
  repeat' first | apply iW<;>intro h<;>try simp only[zB]at h | refine⟨_,_,D,?_⟩
  all_goals skip
  all_goals first
   | (
     refine⟨wO (by omega),?_⟩;refine⟨(i+1),_,aA.refl _ _,?_⟩;exact⟨⟨by omega,u (by simp only[okB,lZ,aJ,fV,Fq,dG];omega)⟩,by omega,⟨Z,Z,Z,Y⟩,trivial⟩)
   | (
     refine⟨?_,trivial⟩;rw[N (by simp only[okB,wj,F1,dG,Bool.not_eq_false',fV];omega)];rfl)
 have I:s.data.toList.all okB=true:=by
  have:=hi.2
  rwa [kG (by omega)]at this
 apply iW<;>intro J
 ·refine⟨?_,trivial⟩;simp[bool,gV,I,J]
 refine⟨?_,trivial⟩;simp[bool,gV,I,J]
theorem Q6(s:ByteArray)(u:s.size<=9223372036854775807):ai C 82 [.pv (str s)] (.p (bool (!gV s))) []:=by
 refine fW hC Tryz.func82 rfl (by kernel_rfl) fun _=>?_;refine⟨_,_,(eN s u),?_,trivial⟩;rfl
theorem Oo(l:List ByteArray)(hN:l.length<=140737488355328)(hS:∀s∈l,s.size<=9223372036854775807):ai C 138 [.pv (strs l),.pv (.im (.func (.func 82) #[] #[]))] (.p (i64 (eM (fun s=>!gV s) l 0))) []:=by
 refine fW hC Tryz.func138 rfl (by kernel_rfl) fun _=>?_;have D:=an l fun s=>[str s];refine aP (fun i:Nat=>i<=l.length/\∀x∈l.take i,(!gV x)=false) (fun i=>[(0,.p (strs l)),(1,.p (.im (.func (.func 82) #[] #[]))),(7,.p (i64 (l.map fun s=>[str s]).length)),(8,.p (i64 i))]) (fun _=>[]) (fun i=>l.length-i) 0 _ (aA.refl _ _) ⟨ak _,by simp⟩ ⟨Z,Z,Z,Z,Y⟩ trivial fun i hi t h=>?_;apply iW<;>intro I
 ·rw[D]at I;obtain⟨x,z⟩:=ax (l:=l) (i:=i) (by omega);refine⟨[str x],(idx rfl z),_,_,(Q6 x (hS x (aj z))),iW ?_ ?_⟩<;>intro u
  ·refine⟨?_,trivial⟩;rw[hD z (by simp[u]) hi.2,fX]
  exact⟨wO (by omega),(i+1),_,aA.refl _ _,⟨by omega,iu z (by simp[u]) hi.2⟩,by omega,⟨Z,Z,Z,Z,Y⟩,trivial⟩
 rw[D]at I;refine⟨?_,trivial⟩;have u:=hi.2;rw[kG (by omega)]at u;rw[cT u];rfl
theorem F_(l:List ByteArray)(u:l.length<=140737488355328)(hS:∀s∈l,s.size<=9223372036854775807):ai C 80 [.pv (strs l),.pv (.im (.func (.func 82) #[] #[]))] (.p (bool (l.any fun s=>!gV s))) []:=by
 refine fW hC Tryz.func80 rfl (by kernel_rfl) fun _=>?_;refine⟨_,_,(Oo l u hS),?_,trivial⟩;rw[<-eZ _ l 0];rfl
theorem TZ(p:α->Bool):∀l:List α,(!l.any fun s=>!p s)=l.all p:=by
 intro l
 induction l with
 | nil=>rfl
 | cons x l ih=>rw[uc,vZ,<-ih,Bool.not_or,Bool.not_not]
theorem kM(s:ByteArray)(z:s.size<4294967281):ai C 40 [.pv (str s)] (.p (bool (si s))) []:=by
 refine fW hC Tryz.func40 rfl (by kernel_rfl) fun _=>?_;have pl:=Il s;apply iW<;>intro u
 ·refine⟨_,_,(Om s z),_,_,(F_ (parts s) (by omega) fun x D=>by have:=Ik _ _ _ x D;omega),?_,trivial⟩;rw[TZ,si,nq u,qJ];rfl
 refine⟨?_,trivial⟩;rw[si,fJ u,wS];rfl
theorem yS(l:List aB):ai C 86 [.pv (aE l)] (.p (i64 (Reg.c7 l))) []:=by
 refine fW hC Tryz.func86 rfl (by kernel_rfl) fun _=>?_;have z:=an l rc;apply iW<;>intro I
 ·rw[z]at I;refine⟨?_,trivial⟩;rw[Reg.c7,ae (by omega)];rfl
 rw[z]at I;have D:Reg.c7 l=Reg.gL l:=by rw[Reg.c7,aa (by omega)]
 refine aP (fun i:Nat=>i<=l.length/\Reg.gL l=Reg.gL (l.drop i)) (fun i=>[(8,.p (aE l)),(9,.p (i64 (l.map rc).length)),(10,.p (i64 i))]) (fun _=>[]) (fun i=>l.length-i) 0 _ (aA.refl _ _) ⟨ak _,rfl⟩ ⟨Z,Z,Z,Y⟩ trivial fun i hi t h=>?_;apply iW<;>intro J
 ·rw[z]at J;obtain⟨r,N⟩:=ax (l:=l) (i:=i) (by omega);have u:=yR N;refine⟨(rc r),(idx rfl N),_,_,(wY r),iW ?_ ?_⟩<;>intro O
  ·refine⟨?_,trivial⟩;rw[D,hi.2,u,aa (by simp[O])];rfl
  rw[ae O]at u;apply iW<;>intro e1
  ·refine⟨?_,trivial⟩;rw[D,hi.2,u,ae (.inl e1)];rfl
  apply iW<;>intro e2
  ·refine⟨?_,trivial⟩;rw[D,hi.2,u,ae (.inr e2)];rfl
  refine⟨wO (by omega),(i+1),_,aA.refl _ _,⟨by omega,?_⟩,by omega,⟨Z,Z,Z,Y⟩,trivial⟩;rw[hi.2,u,aa (by omega)]
 rw[z]at J;refine⟨?_,trivial⟩;rw[D,hi.2,jR (by omega)];rfl
theorem Io(l m:List aB)(hN:l.length<=140737488355328):ai C 87 [.pv (aE l),.pv (aE m)] (.p (bool (decide (l=m)))) []:=by
 refine fW hC Tryz.func87 rfl (by kernel_rfl) fun _=>?_;have z:=an l rc;have I:=an m rc;apply iW<;>intro D
 ·rw[z,I]at D;refine⟨?_,trivial⟩;rw[fJ (fun e:l=m=>D (by rw[e]))];rfl
 rw[z,I]at D;refine aP (fun i:Nat=>i<=l.length/\(l=m↔l.drop i=m.drop i)) (fun i=>[(0,.p (aE l)),(1,.p (aE m)),(12,.p (i64 (l.map rc).length)),(13,.p (i64 i))]) (fun _=>[]) (fun i=>l.length-i) 0 _ (aA.refl _ _) ⟨ak _,cI⟩ ⟨Z,Z,Z,Z,Y⟩ trivial fun i hi t h=>?_;apply iW<;>intro J
 ·rw[z]at J;obtain⟨r,N⟩:=ax (l:=l) (i:=i) (by omega);obtain⟨q,O⟩:=ax (l:=m) (i:=i) (by omega);have R:=Ex N O;refine⟨(rc r),(idx rfl N),(rc q),(idx rfl O),?_⟩;have U:=Reg.aB.Ib r q;apply iW<;>intro u<;>try simp only[zB]at u
  ·refine⟨?_,trivial⟩;rw[fJ];rfl;rw[hi.2,R,U];simp only[F1,dG]at u;intro ⟨⟨e1,e2,V,W⟩,_⟩;simp[e1,e2,V,W]at u
  refine⟨wO (by omega),(i+1),_,aA.refl _ _,⟨by omega,?_⟩,by omega,⟨Z,Z,Z,Z,Y⟩,trivial⟩;rw[hi.2,R,U];simp[fV]at u;exact and_iff_right u
 refine⟨?_,trivial⟩;rw[z]at J;rw[nq];rfl;rw[hi.2,jR (by omega),jR (by omega)]
theorem KQ(l m:List Int)(hN:l.length<=140737488355328):ai C 183 [.pv (ints l),.pv (ints m)] (.p (bool (decide (l=m)))) []:=by
 refine fW hC Tryz.func183 rfl (by kernel_rfl) fun _=>?_;have u:=an l fun n=>[i64 n];have D:=an m fun n=>[i64 n];apply iW<;>intro z
 ·rw[u,D]at z;refine⟨?_,trivial⟩;rw[fJ (fun e:l=m=>z (by rw[e]))];rfl
 rw[u,D]at z;refine aP (fun i:Nat=>i<=l.length/\(l=m↔l.drop i=m.drop i)) (fun i=>[(0,.p (ints l)),(1,.p (ints m)),(12,.p (i64 (l.map fun n=>[i64 n]).length)),(13,.p (i64 i))]) (fun _=>[]) (fun i=>l.length-i) 0 _ (aA.refl _ _) ⟨ak _,cI⟩ ⟨Z,Z,Z,Z,Y⟩ trivial fun i hi t h=>?_;apply iW<;>intro I
 ·rw[u]at I;obtain⟨r,J⟩:=ax (l:=l) (i:=i) (by omega);obtain⟨q,N⟩:=ax (l:=m) (i:=i) (by omega);have O:=Ex J N;refine⟨[i64 r],(idx rfl J),[i64 q],(idx rfl N),iW ?_ ?_⟩<;>intro R
  ·refine⟨?_,trivial⟩;rw[fJ];rfl;rw[hi.2,O];exact fun h=>R h.1
  refine⟨wO (by omega),(i+1),_,aA.refl _ _,⟨by omega,?_⟩,by omega,⟨Z,Z,Z,Z,Y⟩,trivial⟩;rw[hi.2,O];exact and_iff_right R
 refine⟨?_,trivial⟩;rw[u]at I;rw[nq];rfl;rw[hi.2,jR (by omega),jR (by omega)]
def flat:cw->List Int
 | []=>[]
 | p::s=>p.1::p.2::flat s
theorem fK:∀s:cw,(flat s).length=2*s.length:=by
 intro s
 induction s with
 | nil=>rfl
 | cons p s ih=>simp only[flat,bN,ih];omega
theorem Q7:∀{s u:cw},flat s=flat u->s=u:=by
 intro s
 induction s with
 | nil=>intro u h;cases u with | nil=>rfl | cons=>cases h
 | cons p s ih=>
  intro u h;cases u with
  | nil=>cases h
  | cons q u=>
   simp only[flat,List.cons.injEq]at h;rw[ih h.2.2,Prod.ext h.1 h.2.1]
def hb(b:aR):List PV:=[i64 b.y0,i64 b.y1,ints (flat b.xs)]
theorem vE(l:List aR)(b:aR)(Nz:b.y0<b.y1)(hN:l.length<=1000000000000)(hX:∀t∈l,t.xs.length<=1000000000000):ai C 152 [.row 214 (l.map hb),.pv (.ag (hb b))] (.own 214 ((Reg.fj l b).map hb)) [.gone]:=by
 refine fW hC Tryz.func152 rfl (by kernel_rfl) fun _=>?_;have D:=an l hb;have U:=an (flat b.xs) fun n=>[i64 n];have V:=fK b.xs;have done:∀z:List aR,z=Reg.fj l b->AB.row 214 (z.map hb)=AB.row 214 ((Reg.fj l b).map hb):=fun z e=>by rw[e]
 apply iW<;>intro O
 ·rw[U,V]at O;have N:b.xs=[]:=Az (by omega);exact⟨done l (by rw[Reg.fj,ae N]),Z,Y⟩
 rw[U,V]at O;have N:b.xs≠[]:=fun e=>O (by rw[e];rfl);have u:l++[b]=Reg.fj l b->AB.row 214 (l.map hb++[hb b])=AB.row 214 ((Reg.fj l b).map hb):=fun e=>by rw[<-e,E8];rfl
 apply iW<;>intro h0
 ·omega
 refine⟨⟨by rw[D];omega,by rw[D];omega⟩,iW ?_ ?_⟩<;>intro W
 ·rw[D]at W;obtain⟨m,R⟩:∃m,l.length=m+1:=⟨l.length-1,by omega⟩;have hi:((l.map hb).length:Int)-1=(m:Nat):=by rw[D];omega
  have hp:Reg.fj l b=match l.getLast? with
   | some t=>if t.y1=b.y0/\t.xs=b.xs then l.dropLast++[⟨t.y0,b.y1,t.xs⟩] else l++[b]
   | none=>[b]:=by rw[Reg.fj,aa N]<;>rfl
  obtain⟨t,I⟩:=ax (l:=l) (i:=m) (by omega);rw[Ih R I]at hp;simp only at hp;have ft:=fK t.xs;refine⟨⟨by rw[hi];omega,by rw[hi,D];omega⟩,(hb t),(idx hi I).2,iW ?_ ?_⟩<;>intro h3
  ·refine⟨⟨by rw[hi];omega,by rw[hi,D];omega⟩,(hb t),(idx hi I).2,_,_,(KQ (flat t.xs) (flat b.xs) (by have:=hX t (aj I);omega)),iW ?_ ?_⟩<;>intro J
   ·have J:t.xs=b.xs:=Q7 J;refine⟨⟨by rw[hi];omega,by rw[hi,D];omega⟩,(hb t),(idx hi I).2,?_⟩;rw[ae ⟨h3,J⟩]at hp;have qh:∀k:Nat,k=m->AB.row 214 ((l.map hb).set k [i64 t.y0,i64 b.y1,ints (flat t.xs)])=AB.row 214 ((Reg.fj l b).map hb):=by
     intro k e;subst e;rw[hp];obtain⟨d,hd⟩:=aY.1 (Ih R I);subst hd;have hk:k=d.length:=by simp at R;omega
     subst hk;simp[hb]
    exact⟨qh _ (by rw[hi];rfl),Z,Y⟩
   have J:t.xs≠b.xs:=fun e=>J (by rw[e]);rw[aa (fun h=>J h.2)]at hp;exact⟨⟨by simp,by simp;omega,by simp;omega⟩,u hp.symm,Z,Y⟩
  rw[aa (fun h=>h3 h.1)]at hp;exact⟨⟨by simp,by simp;omega,by simp;omega⟩,u hp.symm,Z,Y⟩
 rw[D]at W;have hl:l=[]:=Az (by omega);exact⟨⟨by simp,by simp;omega,by simp;omega⟩,u (by subst hl;rw[Reg.fj,aa N];rfl),Z,Y⟩
theorem Ip:∀{s:cw} {k:Nat} {p:Int×Int},s[k]?=some p->(flat s)[2*k]?=some p.1/\(flat s)[2*k+1]?=some p.2:=by
 intro s
 induction s with
 | nil=>intro k p h;simp at h
 | cons q s ih=>
  intro k p h;cases k with
  | zero=>simp at h;subst h;exact⟨rfl,rfl⟩
  | succ k=>
   obtain⟨u,z⟩:=ih (k:=k) (p:=p) (by simpa using h);rw[show 2*(k+1)=(2*k+1)+1 by omega];exact⟨by simpa [flat] using u,by simpa [flat] using z⟩
theorem rz(l:List aR)(hN:l.length<=1000000000000)(N:∀t∈l,t.xs.length<=1000000000000)(hT:(Reg.told l).length<=4398046511104):ai C 89 [.pv (.sl (l.map hb))] (.own 90 ((Reg.told l).map rc)) []:=by
 refine FP ⟨[],[2],[],[8],[],[]⟩ hC Tryz.func89 rfl (by kernel_rfl) fun _=>?_;have z:=an l hb;have O:∀i,(Reg.told (l.take i)).length<=(Reg.told l).length:=fun i=>by
  have e:Reg.told l=Reg.told (l.take i)++Reg.told (l.drop i):=by
   unfold Reg.told;rw[<-aT,nj]
  rw[e,bJ];omega
 refine aP (fun i:Nat=>i<=l.length) (fun i=>[(7,.p (.sl (l.map hb))),(8,.p (i64 (l.map hb).length)),(3,.ow 3),(9,.p (i64 i))]) (fun i=>[(3,.row 90 ((Reg.told (l.take i)).map rc))]) (fun i=>l.length-i) 0 _ (aA.eK hC _ 3 90 _ (by decide) rfl rfl (by decide)) (ak _) ⟨Z,Z,Z,Z,Y⟩ ⟨Z,Y⟩ fun i hi t h=>?_;apply iW<;>intro D
 ·rw[z]at D;obtain⟨b,u⟩:=ax (l:=l) (i:=i) (by omega);have bm:=an (flat b.xs) fun n=>[i64 n];have I:=fK b.xs;have hb':=N b (aj u);have R:=O (i+1);rw[qn u,bJ,E5]at R;refine⟨(hb b),(idx rfl u),?_⟩;refine Ak (fun _:Unit=>True) (fun _=>[(7,.p (.sl (l.map hb))),(8,.p (i64 (l.map hb).length)),(3,.ow 3),(9,.p (i64 i))]) (fun _=>[(3,.row 90 ((Reg.told (l.take (i+1))).map rc))]) (fun _ _ t h=>?_) ?_
  ·exact⟨wO (by omega),(i+1),_,aA.refl _ _,by omega,by omega,⟨Z,Z,Z,Z,Y⟩,⟨Z,Y⟩⟩
  refine aP (fun k:Nat=>k<=b.xs.length) (fun k=>[(7,.p (.sl (l.map hb))),(8,.p (i64 (l.map hb).length)),(3,.ow 3),(9,.p (i64 i)),(5,.bx 5 0),(6,.p (i64 ((2*k:Nat):Int)))]) (fun k=>[(3,.row 90 ((Reg.told (l.take i)++oU b k).map rc)),(5,.box [.p (i64 b.y0),.p (i64 b.y1),.p (ints (flat b.xs))])]) (fun k=>b.xs.length-k) 0 _ (aA.refl _ _) (ak _) ⟨Z,Z,Z,Z,Z,Z,Y⟩ ⟨by rw[oU];simp;rfl,Z,Y⟩ fun k hk t h=>?_;have KR:(oU b k).length<=k:=by simp[oU];omega
  apply iW<;>intro J
  ·rw[bm,I]at J;obtain⟨p,hp⟩:=ax (l:=b.xs) (i:=k) (by omega);obtain⟨U,V⟩:=Ip hp;refine⟨[i64 p.1],(idx rfl U),wO (by omega),[i64 p.2],(idx (by omega) V),⟨kL rfl,by simp;omega,by simp;omega⟩,wO (by omega),(k+1),_,aA.refl _ _,by omega,by omega,⟨rfl,rfl,rfl,rfl,rfl,bI (by omega),trivial⟩,⟨?_,Z,Y⟩⟩;have W:oU b (k+1)=oU b k++[⟨p.1,b.y0,p.2,b.y1⟩]:=by simp[oU,bq hp]
   have e:(Reg.told (l.take i)++oU b k).map rc++[rc ⟨p.1,b.y0,p.2,b.y1⟩]=(Reg.told (l.take i)++oU b (k+1)).map rc:=by
    rw[W,<-d_,E8 (l₂:=[_])];rfl
   exact ar (AB.row 90) e
  rw[bm,I]at J;refine⟨(),trivial,⟨Z,Z,Z,Z,Y⟩,⟨?_,trivial⟩⟩;rw[qn u];have:oU b k=b.xs.map fun p=>⟨p.1,b.y0,p.2,b.y1⟩:=by rw[oU,kG (by omega)]
  rw[<-this];rfl
 rw[z]at D;rw[kG (by omega)];exact⟨Z,Z,Y⟩
theorem Iq(l:List aR)(z:l.length<=1000000)(u:∀t∈l,t.xs.length<=1000000):ai C 89 [.pv (.sl (l.map hb))] (.own 90 ((Reg.told l).map rc)) []:=
 rz l (by omega) (fun t D=>by have:=u t D;omega) (by
  have h1:=zP l u;have h3:l.length*1000000<=1000000*1000000:=cq _ z;omega)
end M
end Go.Proofs.YtliffnpbaeijgaaGreatDoor
namespace Go.AM
open Go.RowKit
theorem A5{α:Type}{k:Nat}:∀{L:List (List α)} {a:Nat} {r:List α} {j:Nat} {v:α},(∀r∈L,r.length=k)->L[a]?=some r->r[j]?=some v->L.flatten[a*k+j]?=some v:=by
 intro L
 induction L with
 | nil=>intro a r j v _ h;simp at h
 | cons x L ih=>
  intro a r j v hk u z;have hx:=hk x (by simp);cases a with
  | zero=>
   simp at u;subst u;rw[A4,Nat.zero_mul,fX,dN (aC z)];exact z
  | succ a=>
   rw[A4,dO,du (by omega)];have:=ih (a:=a) (r:=r) (j:=j) (v:=v) (fun r D=>hk r (by simp[D])) (by simpa using u) z;rw[<-this];congr 1;omega
theorem kO{α:Type}{k:Nat}:∀{L:List (List α)},(∀r∈L,r.length=k)->L.flatten.length=L.length*k:=by
 intro L
 induction L with
 | nil=>intro _;simp
 | cons x L ih=>
  intro hk;rw[A4,bJ,ih fun r u=>hk r (by simp[u]),hk x (by simp),bN,dO];omega
def bh(L:List (List Value)):List (List PV):=L.map fun r=>r.map PV.im
variable {L:List (List Value)}
theorem Ey{P:Program}{S:Nat->Prop}{w:World}{k:Nat}(hk:∀r∈L,r.length=k){xs:List Value}(hl:xs.length=L.length*k)(h:∀(a:Nat) r (j:Nat) x,(bh L)[a]?=some r->r[j]?=some x->∃u,xs[a*k+j]?=some u/\aO S w x u):xs=L.flatten:=by
 have hfl:=kO hk;apply kz;intro q;by_cases z:q<L.length*k
 ·have D:0<k:=Nat.pos_of_ne_zero fun e=>by rw[e]at z;simp at z
  have I:q / k<L.length:=(Nat.div_lt_iff_lt_mul D).2 z;have hj:q % k<k:=LM _ D;have J:L[q / k]?=some L[q / k]:=oX I;have Ah:=hk _ (na I);have N:L[q / k][q % k]?=some (L[q / k][q % k]'(by omega)):=oX _;have e:q / k*k+q % k=q:=by rw[Nat.mul_comm];exact Nat.div_add_mod q k
  obtain⟨u,O,U⟩:=h (q / k) _ (q % k) _ (by unfold bh;rw[aD,J];rfl) (by rw[aD,N];rfl);rw[e]at O;have R:=A5 hk J N;rw[e]at R;rw[O,R,U.bZ]
 rw[iR (by omega),iR (by omega)]
theorem Ez{S:Nat->Prop}{w:World}{k:Nat}(hk:∀r∈L,r.length=k):∀(a:Nat) r (j:Nat) x,(bh L)[a]?=some r->r[j]?=some x->∃u,L.flatten[a*k+j]?=some u/\aO S w x u:=by
 intro a r j x z D;unfold bh at z;rw[aD]at z;obtain⟨r0,I,rfl⟩:=qI.1 z;rw[aD]at D;obtain⟨v,J,rfl⟩:=qI.1 D;exact⟨v,A5 hk I J,.im v⟩
theorem My{k:Nat}(hk:∀r∈L,r.length=k):∀r∈bh L,r.length=k:=by
 intro r u;obtain⟨z,h,rfl⟩:=aZ.1 u;rw[E5,hk z h]
def sT(w:World)(g n:Nat)(F:Array Value)(os:Array Obj):World:=Sort.grow (Sort.putRow id (Sort.ahead w n) g 0 F) os
theorem B4(w:World)(g n:Nat)(F:Array Value)(os:Array Obj):(sT w g n F os).os=w.os/\(sT w g n F os).tape=w.tape/\(sT w g n F os).output=w.output/\w.heap.size<=(sT w g n F os).heap.size/\∀k,k<w.heap.size->(sT w g n F os).heap[k]?=if k=g then (w.heap[k]?).map (Sort.onCells (Sort.putCells id 0 F)) else w.heap[k]?:=by
 refine⟨rfl,rfl,rfl,?_,fun k hk=>?_⟩
 ·simp[sT,Sort.grow,Sort.putRow,Sort.mapBlock,Sort.ahead]
 simp only[sT,Sort.grow,Sort.putRow,Sort.mapBlock,Sort.ahead];rw[lY (by simpa using hk),tA];by_cases e:g=k
 ·rw[ae e,ae e.symm]
 rw[aa e,aa fun h=>e h.symm]
theorem xd(F u:Array Value)(h:F.size<=u.size):(Sort.putCells id 0 F u).size=u.size/\(Sort.putCells id 0 F u).toList.take F.size=F.toList:=by
 refine⟨by simp[Sort.putCells],?_⟩;apply kz;intro j;rw[dM];split
 ·rename_i z;rw[kC,kC];simp only[Sort.putCells,Array.getElem?_mapIdx];rw[cC (by omega:j<u.size),cC z,mZ,ae ⟨ak _,by omega⟩,Nat.sub_zero,getElem!_pos F j z];rfl
 rename_i z;rw[iR (by simpa using z)]
theorem Oq{w w':World}{e:TypeId}{es I:List (List PV)}{z:Value}{zs:List Value}(J:w.heap.size<=w'.heap.size)(h:∀g,cF z=some g->g<w.heap.size/\Mv w (.row e es::zs.map fun a=>.pv (.im a)) (#[z]++zs.toArray) g):v7 w w' (.row e es::zs.map fun a=>.pv (.im a)) [.row I] (#[z]++zs.toArray):=by
 have u:∀i g,dA w' (.row e es::zs.map fun a=>.pv (.im a)) [.row I] (#[z]++zs.toArray).toList i g->i=0/\cF z=some g:=fun i g D=>by
  simp only[AL]at D;cases i with
  | zero=>exact⟨rfl,aI rfl D.2⟩
  | succ i=>exact (wG zs i g D).elim
 exact⟨fun i g D=>by obtain⟨N,O⟩:=h g (u i g D).2;exact⟨cB N J,.inr O⟩,fun i j g hi R=>by rw[(u i g hi).1,(u j g R).1]⟩
theorem vF{C:Ctx}(hC:bP C){f:FuncId}(e:TypeId)(W:TI)(hT:C.T e=some W)(L4:0<W.size)(zs:List Value)(L L':List (List Value))(hL:∀r∈L,r.length=W.size)(T1:∀r∈L',r.length=W.size)(hlen:L'.length=L.length)
  (h1:∀r∈L',∀v∈r,v.oneCell'=true) (hf:AW C f)
  (Y:L=[]->∀w,Calls C.P f (#[.slice none 0 0]++zs.toArray) w fun e' w'=>e'=.returned (.tuple #[])/\w'=w)
  (h:∀S w cF I,C.E S w->cF<w.heap.size->L.length<=I->(∀j v,L.flatten[j]?=some v->w.cell? ⟨cF,j,none⟩=some v/\w.frozen? ⟨cF,j,none⟩=false)->
   Calls C.P f (#[.slice (some ⟨cF,0,none⟩) L.length I]++zs.toArray) w fun e' w'=>e'=.returned (.tuple #[])/\∃n os,w'=sT w cF n L'.flatten.toArray os):
  ai C f (.row e (bh L)::zs.map fun a=>.pv (.im a)) (.tu []) [.row (bh L')]:=by
 refine⟨hf,fun S w vs hE hS hl hr _=>?_⟩;obtain⟨D,vr,rfl⟩:∃D vr,vs=#[D]++vr:=by
  obtain⟨l⟩:=vs;cases l with
  | nil=>simp at hl
  | cons D l=>exact⟨D,⟨l⟩,by simp⟩
 have hvr:vr=zs.toArray:=AX (S:=S) (w:=w) (P:=C.P) (by simp at hl ⊢;omega) fun j x v hx hv=>hr (j+1) x v (by simpa using hx) (by rw[wZ (by simp)];simpa using hv);subst hvr;have aw:aH C.P w (aO S w) e (bh L) D/\∀g,cF D=some g->¬S g:=hr 0 _ D rfl (by simp);obtain⟨⟨i,xs,hi,N,hown,hkr,kE,O⟩,Z⟩:=aw;obtain⟨info,z,g1,U,_⟩:=hC.jw e W hT;rw[hi]at g1;injection g1 with g1;subst g1;have R:(bh L).length=L.length:=E5 ..;have Ge:(bh L').length=L.length:=by rw[<-hlen];exact E5 ..
 have hx:xs=L.flatten:=Ey (P:=C.P) (k:=i.size) (by rw[U];exact hL) (by rw[<-R];exact hown.1) O;have Md:∀g,cF D=some g->Mv w (.row e (bh L)::zs.map fun a=>.pv (.im a)) (#[D]++zs.toArray) g:=fun g hg=>⟨0,_,D,rfl,by simp,rfl,.inl hg⟩;have tail:∀w':World,pS S w' C.P (.row e (bh L)) (.row (bh L')) D->w9 S w' C.P (.row e (bh L)::zs.map fun a=>.pv (.im a)) [.row (bh L')] (#[D]++zs.toArray).toList:=fun w' Pw=>by
  simp only[AL];exact⟨Pw,FQ zs⟩
 have ZI:∀w':World,w.heap.size<=w'.heap.size->v7 w w' (.row e (bh L)::zs.map fun a=>.pv (.im a)) [.row (bh L')] (#[D]++zs.toArray):=fun w' hs=>Oq hs (fun g hg=>⟨(hown.lt g (by rw[fG (dQ hown).choose_spec.choose_spec];exact hg)).2,Md g hg⟩);rcases hown.2 with⟨q1,q2⟩ | ⟨g,I,J,q1,q2,q3,q4,q5,q6,q7⟩
 ·have Kk:L=[]:=Az (by rw[<-R];exact q2);subst q1;refine (Y Kk w).mono fun e' w' ⟨he,hw⟩=>?_;subst hw;refine⟨.tuple #[],S,he,Fr.refl _ _,fun _ h=>h,hS,fun b hb=>.inl hb,⟨#[],rfl,rfl,by simp⟩,tail _ ⟨?_,Z⟩,ZI _ (aG _),fun g h=>by cases h⟩;have W5:L'=[]:=Az (by rw[hlen,Kk];rfl);subst W5;exact⟨i,[],hi,N,ee _ _ _ _,by simp[bh],by simp,by simp[bh]⟩
 subst q1;have Ot:g<w.heap.size:=(qS.1 q3).1;have hFl:L'.flatten.toArray.size=L.length*i.size:=by rw[lS,kO T1,hlen,U]
 have nP:L.length*i.size<=J.size:=by rw[q6];exact cq _ (by rw[<-R];exact q4)
 have hh:=h S w g I hE Ot (by rw[<-R];exact q4) fun j v V=>by
  have yp:j<L.length*i.size:=by have:=aC V;rw[kO hL]at this;rw[U];exact this
  have:J[j]?=some v:=by
   rw[<-hx,<-q7]at V;rw[dM]at V;split at V
   ·simpa using V
   cases V
  exact⟨by rw[cell_of_row w g j J e (0,0) q3];exact this,by simp[World.frozen?,q3]⟩
 rw[<-R]at hh;refine hh.mono fun e' w' ⟨he,n,os,hw⟩=>?_;subst hw;obtain⟨p1,p2,p3,p4,p5⟩:=B4 w g n L'.flatten.toArray os;obtain⟨c1,c2⟩:=xd L'.flatten.toArray J (by omega);have qG:(sT w g n L'.flatten.toArray os).heap[g]?=some (.cells (Sort.putCells id 0 L'.flatten.toArray J) e (0,0)):=by rw[p5 g Ot,ae rfl,q3];rfl
 refine⟨.tuple #[],S,he,⟨p1,p2,p3,p4,fun k hk hn=>?_⟩,fun _ h=>h,fun b hb=>cB (hS b hb) p4,fun b hb=>.inl hb,⟨#[],rfl,rfl,by simp⟩,tail _ ⟨?_,Z⟩,ZI _ p4,fun g h=>by cases h⟩
 ·rw[p5 k hk,aa];intro e;subst e;exact hn (Md k rfl)
 refine⟨i,L'.flatten,hi,N,⟨by rw[Ge,<-hlen,U];exact kO T1,.inr ⟨g,I,_,by rw[Ge,R],ak _,qG,by rw[Ge,<-R];exact q4,q5,by rw[c1];exact q6,?_⟩⟩,by rw[U];exact My T1,fun u hu=>?_,Ez (by rw[U];exact T1)⟩
 ·rw[Ge,<-hFl];exact c2
 obtain⟨r,Wv,oP⟩:=List.mem_flatten.1 hu;exact h1 r Wv u oP
theorem KS{C:Ctx}(hC:bP C){f:FuncId}(e:TypeId)(Y:TI)(hT:C.T e=some Y)(L4:0<Y.size)(zs:List Value)(L L':List (List Value))(m:Nat)(hm:m<=L.length)(hL:∀r∈L,r.length=Y.size)(T1:∀r∈L',r.length=Y.size)(hlen:L'.length=L.length)
  (h1:∀r∈L',∀v∈r,v.oneCell'=true) (hf:AW C f)
  (Z:L=[]->∀w,Calls C.P f (#[.slice none 0 0]++zs.toArray) w fun e' w'=>e'=.returned (.slice none 0 0)/\w'=w)
  (h:∀S w cF D,C.E S w->cF<w.heap.size->L.length<=D->(∀j v,L.flatten[j]?=some v->w.cell? ⟨cF,j,none⟩=some v/\w.frozen? ⟨cF,j,none⟩=false)->
   Calls C.P f (#[.slice (some ⟨cF,0,none⟩) L.length D]++zs.toArray) w fun e' w'=>e'=.returned (.slice (some ⟨cF,0,none⟩) m D)/\∃n os,w'=sT w cF n L'.flatten.toArray os):
  ai C f (.row e (bh L)::zs.map fun a=>.pv (.im a)) (.own e (bh (L'.take m))) [.gone]:=by
 refine⟨hf,fun S w vs hE hS hl hr _=>?_⟩;obtain⟨I,vr,rfl⟩:∃I vr,vs=#[I]++vr:=by
  obtain⟨l⟩:=vs;cases l with
  | nil=>simp at hl
  | cons I l=>exact⟨I,⟨l⟩,by simp⟩
 have hvr:vr=zs.toArray:=AX (S:=S) (w:=w) (P:=C.P) (by simp at hl ⊢;omega) fun j x v hx hv=>hr (j+1) x v (by simpa using hx) (by rw[wZ (by simp)];simpa using hv);subst hvr;have aw:aH C.P w (aO S w) e (bh L) I/\∀g,cF I=some g->¬S g:=hr 0 _ I rfl (by simp);obtain⟨⟨i,xs,hi,N,hown,hkr,kE,U⟩,hnS⟩:=aw;obtain⟨info,z,g1,V,_⟩:=hC.jw e Y hT;rw[hi]at g1;injection g1 with g1;subst g1;have O:(bh L).length=L.length:=E5 ..;have Ge:(bh L').length=L.length:=by rw[<-hlen];exact E5 ..
 have hx:xs=L.flatten:=Ey (P:=C.P) (k:=i.size) (by rw[V];exact hL) (by rw[<-O];exact hown.1) U;have Md:∀g,cF I=some g->Mv w (.row e (bh L)::zs.map fun a=>.pv (.im a)) (#[I]++zs.toArray) g:=fun g hg=>⟨0,_,I,rfl,by simp,rfl,.inl hg⟩;have tail:∀w':World,w9 S w' C.P (.row e (bh L)::zs.map fun a=>.pv (.im a)) [.gone] (#[I]++zs.toArray).toList:=fun w'=>by
  simp only[AL];exact⟨trivial,FQ zs⟩
 have Q8:∀(w':World) (i g:Nat),¬dA w' (.row e (bh L)::zs.map fun a=>.pv (.im a)) [.gone] (#[I]++zs.toArray).toList i g:=fun w' i g hk=>by
  simp only[AL]at hk;cases i with
  | zero=>cases hk.1
  | succ i=>exact wG zs i g hk
 have ZI:∀w':World,v7 w w' (.row e (bh L)::zs.map fun a=>.pv (.im a)) [.gone] (#[I]++zs.toArray):=fun w'=>⟨fun i g h=>(Q8 w' i g h).elim,fun i j g h=>(Q8 w' i g h).elim⟩;have ZJ:bh (L'.take m)=(bh L').take m:=by unfold bh;rw[cS]
 rcases hown.2 with⟨q1,q2⟩ | ⟨g,D,J,q1,q2,q3,q4,q5,q6,q7⟩
 ·have Kk:L=[]:=Az (by rw[<-O];exact q2);subst q1;refine (Z Kk w).mono fun e' w' ⟨he,hw⟩=>?_;subst hw;have W5:L'=[]:=Az (by rw[hlen,Kk];rfl);subst W5;refine⟨.slice none 0 0,S,he,Fr.refl _ _,fun _ h=>h,hS,fun b hb=>.inl hb,⟨?_,fun g hg=>by cases hg⟩,tail _,ZI _,fun g _ hg=>by cases aI rfl hg⟩;rw[List.take_nil];exact⟨i,[],hi,N,ee _ _ _ _,by simp[bh],by simp,by simp[bh]⟩
 subst q1;have Ot:g<w.heap.size:=(qS.1 q3).1;have hFl:L'.flatten.toArray.size=L.length*i.size:=by rw[lS,kO T1,hlen,V]
 have nP:L.length*i.size<=J.size:=by rw[q6];exact cq _ (by rw[<-O];exact q4)
 have hh:=h S w g D hE Ot (by rw[<-O];exact q4) fun j v W=>by
  have yp:j<L.length*i.size:=by have:=aC W;rw[kO hL]at this;rw[V];exact this
  have:J[j]?=some v:=by
   rw[<-hx,<-q7]at W;rw[dM]at W;split at W
   ·simpa using W
   cases W
  exact⟨by rw[cell_of_row w g j J e (0,0) q3];exact this,by simp[World.frozen?,q3]⟩
 rw[<-O]at hh;refine hh.mono fun e' w' ⟨he,n,os,hw⟩=>?_;subst hw;obtain⟨p1,p2,p3,p4,p5⟩:=B4 w g n L'.flatten.toArray os;obtain⟨c1,c2⟩:=xd L'.flatten.toArray J (by omega);have R:(sT w g n L'.flatten.toArray os).heap[g]?=some (.cells (Sort.putCells id 0 L'.flatten.toArray J) e (0,0)):=by rw[p5 g Ot,ae rfl,q3];rfl
 have ZK:aH C.P (sT w g n L'.flatten.toArray os) (aO S (sT w g n L'.flatten.toArray os)) e (bh L') (.slice (some ⟨g,0,none⟩) (bh L).length D):=by
  refine⟨i,L'.flatten,hi,N,⟨by rw[Ge,<-hlen,V];exact kO T1,.inr ⟨g,D,_,by rw[Ge,O],ak _,R,by rw[Ge,<-O];exact q4,q5,by rw[c1];exact q6,?_⟩⟩,by rw[V];exact My T1,fun u hu=>?_,Ez (by rw[V];exact T1)⟩
  ·rw[Ge,<-hFl];exact c2
  obtain⟨r,Wv,oP⟩:=List.mem_flatten.1 hu;exact h1 r Wv u oP
 refine⟨_,S,he,⟨p1,p2,p3,p4,fun k hk hn=>?_⟩,fun _ h=>h,fun b hb=>cB (hS b hb) p4,fun b hb=>.inl hb,⟨?_,fun g' R=>hnS g' R⟩,tail _,ZI _,fun g' _ R=>⟨?_,.inr (Md g' (aI rfl R)),fun i=>Q8 _ i g'⟩⟩
 ·rw[p5 k hk,aa];intro e;subst e;exact hn (Md k rfl)
 ·rw[ZJ];exact aH.front ZK rfl (by rw[O];exact hm) rfl
 have R:=aI rfl R;have:g=g':=by injection R
 rw[<-this];exact cB Ot p4
end Go.AM
namespace Go.AM
open Go.RowKit
end Go.AM
namespace Go.AM
open Go.RowKit Go.ChangeShapes
section
variable {H:Type} {enc:TypeId×Value->H} {P:Program} {w:World} {S:Nat->Prop}
def Mz(enc:TypeId×Value->H)(P:Program)(w:World)(S:Nat->Prop)(t:TypeId)(k:Nat)(Q:List PV->DataW H->Prop):Prop:=
 ∀n cs x,DataW.trod enc P w 0 (fun _=>true) true n t cs=some x->∃xs,xs.length=k/\cs.length=k/\(∀(i:Nat) c v,xs[i]?=some c->cs[i]?=some v->aO S w c v/\v.oneCell'=true)/\Q xs x.1
theorem one_cell{c:PV}{u:Value}(h:aO S w c u/\u.oneCell'=true):∀(i:Nat) I v,[c][i]?=some I->[u][i]?=some v->aO S w I v/\v.oneCell'=true:=fun i I v z D=>by
 match i,z,D with
 | 0,z,D=>cases z;cases D;exact h
 | n+1,z,D=>cases z
theorem T2{t:TypeId}(u:P.underlying t=some (.int .i64)):Mz enc P w S t 1 fun xs d=>∃n:Int,xs=[.im (.int .i64 n)]/\d=.lit (.int .i64 n):=fun n cs x h=>by
 obtain⟨z,rfl,rfl,_⟩:=DataW.trod_int u h;exact⟨[.im (.int .i64 z)],rfl,rfl,one_cell ⟨.im _,rfl⟩,z,rfl,rfl⟩
theorem T3{t:TypeId}(u:P.underlying t=some .string):Mz enc P w S t 1 fun xs d=>∃s:ByteArray,xs=[.im (.string s)]/\d=.lit (.string s.data.toList):=fun n cs x h=>by
 obtain⟨s,rfl,rfl,_⟩:=DataW.trod_string u h;exact⟨[.im (.string s)],rfl,rfl,one_cell ⟨.im _,rfl⟩,s,rfl,rfl⟩
theorem MA{a:Addr}{v:Value}(h:w.cell? a=some v):a.spot=none/\a.block<w.heap.size:=by
 unfold World.cell? at h;split at h
 ·rename_i c _ _ u;refine⟨?_,?_⟩
  ·cases z:a.spot with
   | none=>rfl
   | some s=>rw[z]at h;cases h
  rcases AF a.block w.heap.size with h' | h'
  ·exact h'
  rw[Ga h']at u;cases u
 cases h
variable {Q:List PV->DataW H->Prop}
theorem Ou{t e:TypeId}{k:Nat}(ht:P.underlying t=some (.slice e))(hc:P.cellsOf e=k)(hk:0<k)(hS:∀b,b<w.heap.size->S b)(he:Mz enc P w S e k Q):
  Mz enc P w S t 1 fun xs d=>∃(es:List (List PV)) (ds sp:List (DataW H)),xs=[.sl es]/\es.length=ds.length/\(d=.nil/\ds=[]\/d=.slice ds sp)/\∀(i:Nat) x y,es[i]?=some x->ds[i]?=some y->Q x y:=fun n cs x h=>by
 rcases Go.Deep.open_slice ht h with⟨rfl,rfl⟩ | ⟨a,len,Y,m,n,D,Pl,rfl,hb,hl,hm,P_,rfl,hx⟩
 ·exact⟨[.sl []],rfl,rfl,one_cell ⟨.nil _ _,rfl⟩,[],[],[],rfl,rfl,.inl ⟨rfl,rfl⟩,fun i x y h=>by cases h⟩
 have Yk:len<=m:=by rw[P_];split<;>omega
 rcases Gb len with h0 | V
 ·subst h0;exact⟨[.sl []],rfl,rfl,one_cell ⟨.nil _ _,rfl⟩,[],[],_,rfl,rfl,.inr rfl,fun i x y h=>by cases h⟩
 rw[hc]at hx;have W:∀i,i<len->∃p:List PV×List Value,p.1.length=k/\p.2.length=k/\(∀j,j<k->w.cell? ((a.add (i*k)).add j)=p.2[j]?)/\(∀(j:Nat) c v,p.1[j]?=some c->p.2[j]?=some v->aO S w c v/\v.oneCell'=true)/\Q p.1 (D i):=fun i hi=>by
  obtain⟨oM,I,u⟩:=hx i (by omega);obtain⟨_,hlen,O⟩:=World.cells?_some I;obtain⟨xs,l1,l2,l3,l4⟩:=he _ _ _ u;exact⟨(xs,oM),l1,l2,O,l3,l4⟩
 obtain⟨F,J⟩:=Go.Deep.choose_lt (α:=List PV×List Value) W;have R:∀(i:Nat) e,((List.range len).map fun i=>(F i).1)[i]?=some e->i<len/\e=(F i).1:=fun i e h=>by
  rw[aD,qI]at h;obtain⟨j,N,rfl⟩:=h;obtain⟨I,u⟩:=az.1 N;rw[List.getElem_range]at u;subst u;exact⟨by simpa using I,rfl⟩
 have z:∀i j,i<len->j<k->w.cell? ((a.add (i*k)).add j)=some (((F i).2[j]?).getD .nilIface):=fun i j hi N=>by
  obtain⟨_,l2,h3,_⟩:=J i hi;rw[h3 j N,oX (by omega)];rfl
 have hz:=MA (z 0 0 V hk);obtain⟨b,U,spot⟩:=a;have Bv:spot=none:=by simpa [Addr.add] using hz.1
 subst Bv;have W6:b<w.heap.size:=by simpa [Addr.add] using hz.2
 have aw:∀i j,((⟨b,U,none⟩:Addr).add (i*k)).add j=⟨b,U+i*k+j,none⟩:=fun i j=>by
  unfold Addr.add;by_cases I:i*k=0
  ·rw[ae I,I];by_cases u:j=0
   ·rw[ae u,u];rfl
   rw[aa u];rfl
  rw[aa I];by_cases u:j=0
  ·rw[ae u,u];rfl
  rw[aa u]
 refine⟨[.sl ((List.range len).map fun i=>(F i).1)],rfl,rfl,one_cell ⟨?_,rfl⟩,(List.range len).map fun i=>(F i).1,(List.range len).map D,_,rfl,by simp,.inr rfl,fun i x y I u=>?_⟩
 ·have hlen:((List.range len).map fun i=>(F i).1).length=len:=by simp
  have:=aO.sl (S:=S) (w:=w) ((List.range len).map fun i=>(F i).1) k b U Y (fun i j=>((F i).2[j]?).getD .nilIface) (by rw[hlen];exact hl) (hS b W6)
   (fun e TH=>by obtain⟨i,hi,rfl⟩:=aZ.1 TH;exact (J i (wx.1 hi)).1)
   (fun i e j x I u=>by
    obtain⟨hi,rfl⟩:=R i e I;have N:j<k:=by rw[<-(J i hi).1];exact (az.1 u).1
    have Z:(F i).2[j]?=some (((F i).2[j]?).getD .nilIface):=by rw[oX (by rw[(J i hi).2.1];exact N)];rfl
    exact⟨by rw[<-aw];exact z i j hi N,((J i hi).2.2.2.1 j x _ u Z).2⟩)
   (fun i e j x I u=>by
    obtain⟨hi,rfl⟩:=R i e I;have N:j<k:=by rw[<-(J i hi).1];exact (az.1 u).1
    have Z:(F i).2[j]?=some (((F i).2[j]?).getD .nilIface):=by rw[oX (by rw[(J i hi).2.1];exact N)];rfl
    exact ((J i hi).2.2.2.1 j x _ u Z).1)
  rw[hlen]at this;exact this
 obtain⟨hi,rfl⟩:=R i x I;rw[aD,jK hi]at u;cases u;exact (J i hi).2.2.2.2
instance:Inhabited PV:=⟨.sl []⟩
theorem oy{t:TypeId}{u:Array Field}(V:P.underlying t=some (.struct u))(W:∀(i:Nat) (f:Field),u[i]?=some f->f.offset=i/\P.cellsOf f.type=1)(Y:P.cellsOf t=u.size)(Qs:Nat->List PV->DataW H->Prop)
  (Z:∀(i:Nat) (f:Field),u[i]?=some f->Mz enc P w S f.type 1 (Qs i)):
  Mz enc P w S t u.size fun xs d=>∃ds:List (DataW H),d=.agg ds/\ds.length=u.size/\∀(i:Nat) x y,xs[i]?=some x->ds[i]?=some y->Qs i [x] y:=fun n cs x h=>by
 obtain⟨ys,m,_,rfl,hl,hlen,hy⟩:=DataW.trod_struct V h;rw[Y]at hl;have D:∀i,i<u.size->∃c:PV,∃y v,ys[i]?=some y/\cs[i]?=some v/\aO S w c v/\v.oneCell'=true/\Qs i [c] y.1:=fun i hi=>by
  have J:u[i]?=some u[i]:=cC hi;obtain⟨ho,z⟩:=W i _ J;have N:=hy i _ J;rw[ho,z]at N;have R:ys[i]?=some ys[i]:=oX (by omega);rw[R]at N;obtain⟨xs,l1,l2,O,l4⟩:=Z i _ J _ _ _ N;have nP:cs[i]?=some cs[i]:=oX (by omega);have hd:(cs.drop i).take 1=[cs[i]]:=by
   rw[l_ (by omega)];rfl
  rw[hd]at O;obtain⟨c,rfl⟩:∃c,xs=[c]:=by
   match xs,l1 with
   | [c],_=>exact⟨c,rfl⟩
  exact⟨c,ys[i],cs[i],R,nP,(O 0 _ _ rfl rfl).1,(O 0 _ _ rfl rfl).2,l4⟩
 obtain⟨F,U⟩:=Go.Deep.choose_lt (α:=PV) D;refine⟨(List.range u.size).map F,by simp,hl,fun i c v z I=>?_,ys.map (·.1),rfl,by rw[E5,hlen],fun i x y z I=>?_⟩
 ·have hi:i<u.size:=by have:=(az.1 z).1;simpa using this
  rw[aD,jK hi]at z;cases z;obtain⟨y,v',_,e2,e3,e4,_⟩:=U i hi;rw[I]at e2;cases e2;exact⟨e3,e4⟩
 have hi:i<u.size:=by have:=(az.1 z).1;simpa using this
 rw[aD,jK hi]at z;cases z;obtain⟨y',v',e1,_,_,_,e5⟩:=U i hi;rw[aD,e1]at I;cases I;exact e5
theorem T4{t:TypeId}{k:Nat}(I:Mz enc P w S t k Q){vs:Array Value}{d:DataW H}{ps:List MemPlace}(h:DataW.Trod enc P w 0 (fun _=>true) true t (.agg vs) d ps):
  ∃xs,aO S w (.ag xs) (.agg vs)/\xs.length=k/\Q xs d:=by
 obtain⟨n,J⟩:=h;obtain⟨xs,l1,l2,D,N⟩:=I _ _ _ J;have l2:vs.toList.length=k:=l2;have z:∀(i:Nat) (v:Value),vs[i]?=some v->vs.toList[i]?=some v:=fun i v h=>by rw[kC];exact h
 refine⟨xs,.ag xs vs (by rw[l1,<-l2];simp) (fun u O=>?_) fun i c v R U=>(D i c v R (z i v U)).1,l1,N⟩;obtain⟨i,hi⟩:=ca.1 O;have V:i<xs.length:=by have:=(az.1 hi).1;omega
 exact (D i _ u (oX V) hi).2
theorem B5{t:TypeId}{u:Array Field}{k:Nat}{r:Reach}{z:Nat}(D:P.underlying t=some (.struct u))(I:Mz enc P w S t k Q){v:Value}{d:DataW H}{ps:List MemPlace}(J:Value.okWide P w r z t v)(h:DataW.Trod enc P w 0 (fun _=>true) true t v d ps):
  ∃xs,aO S w (.ag xs) v/\Q xs d:=by
 obtain⟨cs,rfl,_⟩:=Go.WideShapes.okWide_struct D J;obtain⟨xs,N,_,O⟩:=T4 I h;exact⟨xs,N,O⟩
theorem ag8{t e:TypeId}{r:Reach}{u:Nat}(z:P.underlying t=some (.slice e))(D:Mz enc P w S t 1 Q){v:Value}{d:DataW H}{ps:List MemPlace}(I:Value.okWide P w r u t v)(h:DataW.Trod enc P w 0 (fun _=>true) true t v d ps):
  ∃c,aO S w c v/\Q [c] d:=by
 obtain⟨a,l,c,rfl⟩:=Go.WideShapes.okWide_slice z I;obtain⟨n,J⟩:=h;obtain⟨xs,l1,l2,N,O⟩:=D _ _ _ J;obtain⟨x,rfl⟩:∃x,xs=[x]:=by
  match xs,l1 with
  | [x],_=>exact⟨x,rfl⟩
 exact⟨x,(N 0 x _ rfl rfl).1,O⟩
theorem ZM(w:World)(xs:List PV)(vs:Array Value)(g:Nat):¬Mv w (xs.map Arg.pv) vs g:=by
 rintro⟨j,y,v,u,_,z,_⟩;rw[aD,qI]at u;obtain⟨x,_,rfl⟩:=u;cases z
def T5(S:Nat->Prop)(w:World)(xs:List PV)(vs:List Value):Prop:=xs.length=vs.length/\∀(j:Nat) x v,xs[j]?=some x->vs[j]?=some v->aO S w x v
theorem Q9:T5 S w [] []:=⟨rfl,fun j x v h=>by cases h⟩
theorem ue{x:PV}{v:Value}{xs:List PV}{vs:List Value}(h:aO S w x v)(D:T5 S w xs vs):T5 S w (x::xs) (v::vs):=⟨by rw[bN,bN,D.1],fun j I J u z=>by
 match j,u,z with
 | 0,u,z=>cases u;cases z;exact h
 | j+1,u,z=>exact D.2 j I J u z⟩
theorem W7{C:Ctx}{f:FuncId}{xs:List PV}{y:Value}(h:ai C f (xs.map Arg.pv) (.p (.im y)) []){vs:Array Value}(N:C.E (fun b=>b<w.heap.size) w)(J:T5 (fun b=>b<w.heap.size) w xs vs.toList):
  Calls C.P f vs w fun e w'=>e=.returned y/\Below w.heap.size w w':=by
 refine (h.2 (fun b=>b<w.heap.size) w vs N (fun _ h=>h) (by rw[E5,J.1];simp) (fun j x v z O=>?_) (fun i j x y v u g z _ _ _ R=>?_)).mono ?_
 ·rw[aD,qI]at z;obtain⟨x,U,rfl⟩:=z;exact J.2 j x v U (by rw[kC];exact O)
 ·rw[aD,qI]at z;obtain⟨x,_,rfl⟩:=z;cases R
 rintro e w' ⟨v,S',rfl,D,_,_,_,I,_⟩;have I:aO S' w' (.im y) v:=I;cases I;exact⟨rfl,D.os,D.tape,D.output,D.size,fun k hk=>D.block k hk (ZM _ _ _ _)⟩
end
end Go.AM
namespace Go.Proofs.YtliffnpbaeijgaaGreatDoor
namespace M
open Go.AM Go.RowKit Go.Lib Go.Sort
open Reg (aB cw aR)
instance:Inhabited aB:=⟨⟨0,0,0,0⟩⟩
def cl(n:Int):Int:=max (-4611686018427387904) (min n 4611686018427387903)
theorem pA(n:Int):-4611686018427387904<=cl n/\cl n<=4611686018427387903:=by unfold cl;omega
theorem adw{n:Int}(h:-4611686018427387904<=n/\n<=4611686018427387903):cl n=n:=by unfold cl;omega
def Bd(r:aB):Prop:=(-4611686018427387904<=r.x0/\r.x0<=4611686018427387903)/\(-4611686018427387904<=r.y0/\r.y0<=4611686018427387903)/\(-4611686018427387904<=r.x1/\r.x1<=4611686018427387903)/\(-4611686018427387904<=r.y1/\r.y1<=4611686018427387903)
def iA(r:aB):List Value:=[.int .i64 (cl r.x0),.int .i64 (cl r.y0),.int .i64 (cl r.x1),.int .i64 (cl r.y1)]
theorem T6{r:aB}(h:Bd r):(iA r).map PV.im=rc r:=by
 obtain⟨u,z,D,I⟩:=h;simp only[iA,adw u,adw z,adw D,adw I];rfl
theorem zR{l:List aB}(h:∀r∈l,Bd r):bh (l.map iA)=l.map rc:=by
 unfold bh;rw[Mu];exact qY fun r u=>T6 (h r u)
theorem xe{l:List aB}:∀r∈l.map iA,r.length=4:=by
 intro r u;obtain⟨x,_,rfl⟩:=aZ.1 u;rfl
theorem Ir(d:Array aB):flatK iA 4 d=(d.toList.map iA).flatten.toArray:=by
 apply Array.ext_getElem?;intro q;have hlen:(d.toList.map iA).flatten.length=d.size*4:=by rw[kO (k:=4) xe];simp
 by_cases D:q<d.size*4
 ·have u:q / 4<d.size:=by omega
  have I:q % 4<4:=LM _ (by omega);have e:q / 4*4+q % 4=q:=by omega
  have J:=get_flatK iA 4 d q D;have hsz:(flatK iA 4 d).size=d.size*4:=by simp
  rw[cC (by omega),<-getElem!_pos (flatK iA 4 d) q (by omega),J];have N:(d.toList.map iA)[q / 4]?=some (iA d[q / 4]!):=by
   rw[aD,kC,cC u,mZ,getElem!_pos d _ u]
  have O:(iA d[q / 4]!)[q % 4]?=some ((iA d[q / 4]!)[q % 4]!):=by
   have z:q % 4<(iA d[q / 4]!).length:=I;rw[oX z,getElem!_pos (iA d[q / 4]!) (q % 4) z]
  have:=A5 (k:=4) xe N O;rw[e]at this;simpa using this.symm
 rw[Ga (by simp;omega),Ga (by simp only[lS];omega)]
def Q_(a b:aB):Int:=cl a.y0-cl b.y0
def Dn(a b:aB):Int:=cl a.x0-cl b.x0
theorem ltY(a b:aB):ltOf Q_ a b=decide (cl a.y0<cl b.y0):=by unfold ltOf Q_;congr 1;exact propext ⟨fun h=>by omega,fun h=>by omega⟩
theorem ltX(a b:aB):ltOf Dn a b=decide (cl a.x0<cl b.x0):=by unfold ltOf Dn;congr 1;exact propext ⟨fun h=>by omega,fun h=>by omega⟩
theorem ZN:SWO (ltOf Q_) where
 irrefl x:=by rw[ltY];simp
 trans x y z h1 h2:=by rw[ltY]at *;simp at *;omega
 ntrans x y z h1 h2:=by rw[ltY]at *;simp at *;omega
theorem T7:SWO (ltOf Dn) where
 irrefl x:=by rw[ltX];simp
 trans x y z h1 h2:=by rw[ltX]at *;simp at *;omega
 ntrans x y z h1 h2:=by rw[ltX]at *;simp at *;omega
theorem Ra(x y:aB)(W:World):Calls Tryz.prog 147 #[.agg (iA x).toArray,.agg (iA y).toArray] W fun e w'=>e=.returned (.int .i64 (Q_ x y))/\∃q u,w'=grow (W.drewN q) u:=by
 have h1:=pA x.y0;have h2:=pA y.y0;unfold iA Q_;generalize cl x.x0=a1 at *;generalize cl x.y0=a2 at *;generalize cl x.x1=a3 at *;generalize cl x.y1=a4 at *;generalize cl y.x0=b1 at *;generalize cl y.y0=b2 at *;generalize cl y.x1=b3 at *;generalize cl y.y1=b4 at *
 go_enter Tryz.func147,Tryz.ntmps147
 go_wp2
 go_ret
 exact⟨rfl,0,_,by rw[alloc_eq_grow,alloc_eq_grow,grow_grow];rfl⟩
theorem Rb(x y:aB)(W:World):Calls Tryz.prog 184 #[.agg (iA x).toArray,.agg (iA y).toArray] W fun e w'=>e=.returned (.int .i64 (Dn x y))/\∃q u,w'=grow (W.drewN q) u:=by
 have h1:=pA x.x0;have h2:=pA y.x0;unfold iA Dn;generalize cl x.x0=a1 at *;generalize cl x.y0=a2 at *;generalize cl x.x1=a3 at *;generalize cl x.y1=a4 at *;generalize cl y.x0=b1 at *;generalize cl y.y0=b2 at *;generalize cl y.x1=b3 at *;generalize cl y.y1=b4 at *
 go_enter Tryz.func184,Tryz.ntmps184
 go_wp2
 go_ret
 exact⟨rfl,0,_,by rw[alloc_eq_grow,alloc_eq_grow,grow_grow];rfl⟩
def eO(cf:aB->aB->Int)(l:List aB):List aB:=(pdq (ltOf cf) l.toArray 0 l.toArray.size (Lib.bitLen l.toArray.size) true true).toList
theorem nA(u:aB->aB->Int)(I:SWO (ltOf u))(l:List aB):(eO u l).Perm l/\(eO u l).Pairwise fun a b=>ltOf u b a=false:=by
 obtain⟨J,N⟩:=pdq_sorts (ltOf u) I l.toArray 0 l.toArray.size (Lib.bitLen l.toArray.size) true true (ak _) (aG _) (Or.inl rfl);obtain⟨O,_,D⟩:=J;have hp:(eO u l).Perm l:=by
  have e1:∀d:Array aB,d.size=l.toArray.size->(d.extract 0 l.toArray.size).toList=d.toList:=fun d h=>by rw[<-h];simp
  rw[e1 _ O,e1 _ rfl]at D;unfold eO;simpa using D
 refine⟨hp,?_⟩;rw[FZ];intro i j hi z R;have hs:(eO u l).length=l.toArray.size:=by rw[hp.length_eq];simp
 have:=N i j (ak _) R (by omega);unfold eO at hi z ⊢;simp only[aaK]at hi z;rw[getElem!_pos _ j z,getElem!_pos _ i hi]at this;simpa using this
theorem Is{l:List aB}(h:∀r∈l,Bd r):(eO Q_ l).Perm l/\(eO Q_ l).Pairwise fun a b=>a.y0<=b.y0:=by
 obtain⟨u,D⟩:=nA Q_ ZN l;refine⟨u,D.imp_of_mem fun {a b} ha hb z=>?_⟩;rw[ltY,adw (h b (u.mem_iff.1 hb)).2.1,adw (h a (u.mem_iff.1 ha)).2.1]at z;simpa using z
theorem pB{l:List aB}(h:∀r∈l,Bd r):(eO Dn l).Perm l/\(eO Dn l).Pairwise fun a b=>a.x0<=b.x0:=by
 obtain⟨u,D⟩:=nA Dn T7 l;refine⟨u,D.imp_of_mem fun {a b} ha hb z=>?_⟩;rw[ltX,adw (h b (u.mem_iff.1 hb)).1,adw (h a (u.mem_iff.1 ha)).1]at z;simpa using z
theorem B6(u:aB->aB->Int)(V:SWO (ltOf u))(g:Nat)(Z:∀args w,(callFunc g args).run Tryz.prog w=.ok (.enter g args) w)
  (jx:∀(x y:aB) (W:World),Calls Tryz.prog g #[.agg (iA x).toArray,.agg (iA y).toArray] W fun e w'=>e=.returned (.int .i64 (u x y))/\∃q Ov,w'=grow (W.drewN q) Ov)
  (l:List aB) (hl:∀r∈l,Bd r) (hN:l.length<4611686018427387904):ai C 146 [.row 90 (l.map rc),.pv (.im (.func (.func g) #[] #[]))] (.tu []) [.row ((eO u l).map rc)]:=by
 obtain⟨hp,_⟩:=nA u V l;have Rc:∀r∈eO u l,Bd r:=fun r N=>hl r (hp.mem_iff.1 N);have:=vF hC (f:=146) 90 _ rfl (by decide) [.func (.func g) #[] #[]] (l.map iA) ((eO u l).map iA) xe xe (by rw[E5,E5,hp.length_eq])
  (fun r N v z=>by
   obtain⟨x,_,rfl⟩:=aZ.1 N;simp only[iA,L8,Gc,or_false]at z;rcases z with rfl | rfl | rfl | rfl<;>rfl)
  ⟨_,Tryz.func146,rfl,rfl⟩
  (fun _ w=>AnyF.slices_SortFunc_none Tryz.laysSortRect none 0 (.func (.func g) #[] #[]) w)
  (fun S w cF O hE I _ D=>by
   have hH:HoldsK iA 4 w cF 0 l.toArray:=by
    unfold HoldsK;intro j J;rw[Ir]at J ⊢;simp only[lS]at J;have z:(l.map iA).flatten[j]?=some ((l.map iA).flatten[j]'J):=oX J;obtain⟨R,U⟩:=D j _ z;rw[fX];refine⟨?_,U⟩;rw[R];congr 1;rw[getElem!_pos _ j (by simpa using J)];simp
   have Y:=AnyQ.slices_SortFunc_eq Tryz.laysSortRect 4 (fun w=>(hC.jw 90 _ rfl).isAgg w) (fun w=>(hC.jw 90 _ rfl).sizeOf w) iA (fun _=>rfl) (fun x v z=>by
    simp only[iA,L8,Gc,or_false]at z;rcases z with rfl | rfl | rfl | rfl<;>rfl) u V g #[] cF 0 O l.toArray w Z (fun _ _ _ _ x y=>jx x y _) hH I (by simpa using hN)
   have e:l.toArray.size=(l.map iA).length:=by simp
   rw[e]at Y;refine Y.mono fun e' w' ⟨R,n,os,U⟩=>⟨R,n,os,?_⟩;rw[U];unfold sortWorldK putRowK sT;rw[Ir,<-e];rfl)
 rw[zR hl,zR Rc]at this;exact this
theorem W8(l:List aB)(hl:∀r∈l,Bd r)(u:l.length<4611686018427387904):ai C 146 [.row 90 (l.map rc),.pv (.im (.func (.func 147) #[] #[]))] (.tu []) [.row ((eO Q_ l).map rc)]:=
 B6 Q_ ZN _ (enters_of Tryz.func147 (by kernel_rfl) rfl) Ra l hl u
theorem W9(l:List aB)(hl:∀r∈l,Bd r)(u:l.length<4611686018427387904):ai C 146 [.row 90 (l.map rc),.pv (.im (.func (.func 184) #[] #[]))] (.tu []) [.row ((eO Dn l).map rc)]:=
 B6 Dn T7 _ (enters_of Tryz.func184 (by kernel_rfl) rfl) Rb l hl u
theorem Gf(d:Array Int)(I:∀i j,i<=j->j<d.size->d[i]!<=d[j]!):∀m,m<=d.size->Reg.ct (compactUpTo d m)/\(∀x,x∈compactUpTo d m↔∃j,j<m/\d[j]! = x):=by
 intro m
 induction m with
 | zero=>intro _;exact⟨by simp[compactUpTo,Reg.ct],by simp[compactUpTo]⟩
 | succ m ih=>
  intro hm;obtain⟨J,z⟩:=ih (by omega);rw[compactUpTo_succ];cases hk:keeps d m with
  | true=>
   have D:m=0\/d[m]!≠d[m-1]!:=by simpa [keeps] using hk
   have N:∀x∈compactUpTo d m,x<d[m]!:=by
    intro x O;obtain⟨j,u,rfl⟩:=(z x).1 O;rcases D with h | h
    ·omega
    have a:=I j (m-1) (by omega) (by omega);have b:=I (m-1) m (by omega) (by omega);omega
   refine⟨?_,fun x=>?_⟩
   ·simp only[ae];exact af.2 ⟨J,by simp,fun a R b hb=>by simp at hb;subst hb;exact N a R⟩
   simp only[ae,fC,Fp,z];constructor
   ·rintro (⟨j,u,rfl⟩ | rfl)
    ·exact⟨j,by omega,rfl⟩
    exact⟨m,by omega,rfl⟩
   rintro⟨j,u,rfl⟩;by_cases e:j=m
   ·exact .inr (by rw[e])
   exact .inl ⟨j,by omega,rfl⟩
  | false=>
   have D:m≠0/\d[m]! = d[m-1]!:=by simpa [keeps] using hk
   simp only[cK,aa,aq,not_false_eq_true];refine⟨J,fun x=>?_⟩;rw[z];constructor
   ·rintro⟨j,u,rfl⟩;exact⟨j,by omega,rfl⟩
   rintro⟨j,u,rfl⟩;by_cases e:j=m
   ·exact⟨m-1,by omega,by rw[e];exact D.2.symm⟩
   exact⟨j,by omega,rfl⟩
theorem u5{zs:List Int}(D:zs.Pairwise (·<=·)):Reg.ct (compact zs)/\∀x,x∈compact zs↔x∈zs:=by
 have z:∀i (h:i<zs.length),zs.toArray[i]! = zs[i]:=fun i h=>by rw[getElem!_pos _ i (by simpa using h)];simp
 obtain⟨I,J⟩:=Gf zs.toArray (fun i j Ma u=>by
  have u:j<zs.length:=by simpa using u
  rw[z i (by omega),z j u];by_cases e:i=j
  ·subst e;omega
  exact FZ.1 D i j (by omega) u (by omega)) zs.length (by simp)
 refine⟨I,fun x=>(J x).trans ?_⟩;constructor
 ·rintro⟨j,u,rfl⟩;rw[z j u];exact na u
 intro N;obtain⟨j,u,rfl⟩:=dP N;exact⟨j,u,z j u⟩
def encI(n:Int):List Value:=[.int .i64 n]
theorem xf{l:List Int}:∀r∈l.map encI,r.length=1:=by
 intro r u;obtain⟨x,_,rfl⟩:=aZ.1 u;rfl
theorem rA(l:List Int):bh (l.map encI)=l.map fun n=>[i64 n]:=by
 unfold bh;rw[Mu];rfl
theorem yT(l:List Int):(l.map encI).flatten=l.map (Value.int .i64):=by
 induction l with
 | nil=>rfl
 | cons a l ih=>rw[eH,A4,ih];rfl
theorem B7(w:World)(b n:Nat)(l:List Int):putRow (Value.int .i64) (Sort.ahead w n) b 0 l.toArray=putRow id (Sort.ahead w n) b 0 (l.map (Value.int .i64)).toArray:=by
 unfold putRow;refine mapBlock_congr _ _ _ _ fun c _ _ _=>?_;apply Array.ext_getElem?;intro k;simp only[putCells,Array.getElem?_mapIdx,lS,E5];cases c[k]? with
 | none=>rfl
 | some x=>
  simp only[mZ];by_cases h:0<=k/\k<0+l.length
  ·rw[ae h,ae h];congr 1;rw[getElem!_pos _ (k-0) (by simp;omega),getElem!_pos _ (k-0) (by simp;omega)];simp
  rw[aa h,aa h]
theorem B8{w:World}{cF:Nat}{l:List Int}(h:∀j v,(l.map encI).flatten[j]?=some v->w.cell? ⟨cF,j,none⟩=some v/\w.frozen? ⟨cF,j,none⟩=false):Holds (Value.int .i64) w cF 0 l.toArray:=by
 intro j u;have z:j<l.length:=by simpa using u
 rw[yT]at h;obtain⟨D,I⟩:=h j (.int .i64 l[j]) (by rw[aD,oX z];rfl);rw[fX,D];refine⟨?_,I⟩;rw[getElem!_pos _ j u];simp
def pC(l:List Int):List Int:=l.mergeSort fun x y=>decide (x<=y)
theorem EA(l:List Int)(J:l.length<4611686018427387904):ai C 148 [.row 3 (l.map fun n=>[i64 n])] (.tu []) [.row ((pC l).map fun n=>[i64 n])]:=by
 have:=vF hC (f:=148) 3 _ rfl (by decide) [] (l.map encI) ((pC l).map encI) xf xf (by rw[E5,E5,pC,List.length_mergeSort])
  (fun r N v I=>by
   obtain⟨x,_,rfl⟩:=aZ.1 N;simp only[encI,Fp]at I;rw[I];rfl)
  ⟨_,Tryz.func148,rfl,rfl⟩
  (fun _ w=>Tryz.slices_Sort_int_none none 0 w)
  (fun S w cF D hE z _ u=>by
   have O:=Tryz.slices_Sort_int cF 0 D l w (B8 u) z J;rw[E5];refine O.mono fun e' w' ⟨R,n,os,U⟩=>⟨R,n,os,?_⟩;rw[U];unfold sT;rw[yT,<-B7];rfl)
 rw[rA,rA]at this;exact this
theorem xg(l:List Int)(J:l.length<=9223372036854775807):ai C 149 [.row 3 (l.map fun n=>[i64 n])] (.own 3 ((compact l).map fun n=>[i64 n])) [.gone]:=by
 have jx:=compact_length_le l;have:=KS hC (f:=149) 3 _ rfl (by decide) [] (l.map encI) ((compact l++List.replicate (l.length-(compact l).length) 0).map encI) (compact l).length (by rw[E5];exact jx) xf xf (by simp;omega)
  (fun r N v D=>by
   obtain⟨x,_,rfl⟩:=aZ.1 N;simp only[encI,Fp]at D;rw[D];rfl)
  ⟨_,Tryz.func149,rfl,rfl⟩
  (fun _ w=>Tryz.slices_Compact_int_empty none 0 w)
  (fun S w cF z hE hblk I u=>by
   rw[E5]at I;have O:=Tryz.slices_Compact_int cF 0 z l w (B8 u) J I;rw[E5];refine O.mono fun e' w' ⟨R,n,U⟩=>⟨R,n,#[],?_⟩;rw[U];unfold sT;rw[yT,<-B7,grow_empty])
 rw[<-cS,rA,rA,List.take_left]at this;exact this
theorem T8(l:List aB):∀r∈l.map rc,r.length=4:=by
 intro r u;obtain⟨x,_,rfl⟩:=aZ.1 u;rfl
theorem It(l:List aB)(u:l.length<=4398046511104):ai C 145 [.pv (aE l)] (.own 90 (l.map rc)) []:=by
 cases l with
 | nil=>
  refine fW hC Tryz.func145 rfl (by kernel_rfl) fun _=>?_;refine⟨?_,?_⟩
  ·exact⟨Z,Y⟩
  exact⟨⟨by simp,by simp,by simp⟩,Z,Z,Y⟩
 | cons a l=>
  have z:=T8 (a::l);have hl:=an (a::l) rc;refine fW hC Tryz.func145 rfl (by kernel_rfl) fun _=>?_;exact⟨⟨z,by simp at u ⊢;omega,by simp at u ⊢;omega⟩,Z,Z,Y⟩
def qo(y:Int)(r:aB):Bool:=decide (r.y1<=y)
theorem MB(r:aB)(ys:List Int)(k:Nat)(y:Int)(u:ys[k]?=some y):ai C 151 [.pv (.ag (rc r)),.pv (.ip [ints ys]),.pv (.ip [i64 k])] (.p (bool (qo y r))) []:=by
 refine fW hC Tryz.func151 rfl (by kernel_rfl) fun _=>?_;refine⟨[i64 y],(idx rfl u),?_,trivial⟩;rfl
theorem Iu(l:List aB)(hN:l.length<=140737488355328)(ys:List Int)(k:Nat)(y:Int)(J:ys[k]?=some y):ai C 159 [.row 90 (l.map rc),.pv (.fn 151 [.ip [ints ys],.ip [i64 k]])] (.p (i64 (eM (qo y) l 0))) [.row (l.map rc)]:=by
 refine fW hC Tryz.func159 rfl (by kernel_rfl) fun _=>?_;have z:=an l rc;refine aP (fun i:Nat=>i<=l.length/\∀x∈l.take i,qo y x=false) (fun i=>[(0,.ow 100000),(1,.p (.fn 151 [.ip [ints ys],.ip [i64 k]])),(7,.p (i64 (l.map rc).length)),(8,.p (i64 i))]) (fun _=>[(100000,.row 90 (l.map rc))]) (fun i=>l.length-i) 0 _ (aA.refl _ _) ⟨ak _,by simp⟩ ⟨Z,Z,Z,Z,Y⟩ ⟨Z,Y⟩ fun i hi t h=>?_;apply iW<;>intro I
 ·rw[z]at I;obtain⟨x,D⟩:=ax (l:=l) (i:=i) (by omega);refine⟨⟨by omega,by rw[z];omega⟩,(rc x),(idx rfl D).2,_,_,(MB x ys k y J),iW ?_ ?_⟩<;>intro u
  ·exact⟨by rw[hD D u hi.2,fX],Z,Y⟩
  exact⟨wO (by omega),(i+1),_,aA.refl _ _,⟨by omega,iu D u hi.2⟩,by omega,⟨Z,Z,Z,Z,Y⟩,⟨Z,Y⟩⟩
 rw[z]at I;have u:=hi.2;rw[kG (by omega)]at u;exact⟨by rw[cT u];rfl,Z,Y⟩
variable {α:Type}
theorem Re{p:α->Bool}:∀{l:List α},l.any p=true->∃i x,l[i]?=some x/\p x=true/\∀z∈l.take i,p z=false:=by
 intro l
 induction l with
 | nil=>intro h;cases h
 | cons y l ih=>
  intro h;cases hy:p y with
  | true=>exact⟨0,y,rfl,hy,by simp⟩
  | false=>
   rw[uc,hy,ph]at h;obtain⟨i,x,D,I,J⟩:=ih h;refine⟨i+1,x,by simpa using D,I,fun z u=>?_⟩;rw[List.take_succ_cons,L8]at u;rcases u with rfl | u
   ·exact hy
   exact J z u
theorem Iv{m:List α}{a:Nat}{x:α}(h:a<m.length):(m.set a x).take (a+1)=m.take a++[x]:=by
 apply kz;intro j;rw[dM,List.getElem?_set];by_cases u:j<a
 ·rw[ae (by omega),aa (by omega),dN (by rw[cE];omega),dM,ae u]
 by_cases z:j=a
 ·subst z;rw[ae (by omega),ae rfl,ae h,du (by rw[cE];omega)];simp[AK (Nat.le_of_lt h)]
 rw[aa (by omega),iR (by simp;omega)]
theorem filter_none{p:α->Bool}{l:List α}(h:∀x∈l,p x=false):l.filter (fun x=>!p x)=l:=mc.2 fun x u=>by simp[h x u]
theorem sU{p:α->Bool}{l:List α}{i:Nat}{x:α}(u:l[i]?=some x):(l.take (i+1)).filter p=(l.take i).filter p++if p x then [x] else []:=by
 rw[bq u,nt];congr 1;cases h:p x<;>simp[List.filter,h]
theorem Gg(l:List aB)(hN:l.length<=4398046511104)(ys:List Int)(k:Nat)(y:Int)(hy:ys[k]?=some y):ai C 150 [.row 90 (l.map rc),.pv (.fn 151 [.ip [ints ys],.ip [i64 k]])] (.own 90 ((l.filter fun r=>!qo y r).map rc)) [.gone]:=by
 refine fW hC Tryz.func150 rfl (by kernel_rfl) fun _=>?_;have lm:=an l rc;refine⟨_,_,(Iu l (by omega) ys k y hy),?_⟩;by_cases ZO:l.any (qo y)=true
 ·obtain⟨i0,x0,u,I,J⟩:∃i x,l[i]?=some x/\qo y x=true/\∀z∈l.take i,qo y z=false:=Re ZO;rw[hD u I J,fX];have Wr:=(az.1 u).1;refine⟨wO (by omega),?_⟩;refine aP (fun p:Nat×Nat×List aB=>p.1<p.2.1/\p.2.1<=l.length/\p.2.2.length=l.length/\p.2.2.take p.1=(l.take p.2.1).filter (fun r=>!qo y r)/\p.2.2.drop p.2.1=l.drop p.2.1) (fun p=>[(0,.ow 100000),(1,.p (.fn 151 [.ip [ints ys],.ip [i64 k]])),(5,.p (i64 p.1)),(6,.p (i64 p.2.1))]) (fun p=>[(100000,.row 90 (p.2.2.map rc))]) (fun p=>l.length-p.2.1) (i0,i0+1,l) _ (aA.refl _ _) ⟨by simp,by simp only;omega,rfl,?_,rfl⟩ ⟨rfl,rfl,rfl,bI (by simp only;omega),trivial⟩ ⟨Z,Y⟩ fun ⟨a,b,m⟩ hi t h=>?_
  ·simp only;rw[sU u,filter_none J];simp[I]
  simp only at hi;obtain⟨q1,q2,O,R,U⟩:=hi;have D:=an m rc;apply iW<;>intro V<;>try simp only[zB]at V
  ·rw[D,O]at V;obtain⟨x,N⟩:=ax (l:=l) (i:=b) (by omega);have W:m[b]?=some x:=by
    have:(m.drop b)[0]?=(l.drop b)[0]?:=by rw[U]
    simpa [N] using this
   refine⟨⟨by simp only;omega,by simp only;rw[D];omega⟩,(rc x),(idx rfl W).2,_,_,(MB x ys k y hy),iW ?_ ?_⟩<;>intro h3
   ·obtain⟨z,hz⟩:=ax (l:=m) (i:=a) (by omega);refine⟨⟨by simp only;omega,by simp only;rw[D];omega⟩,(rc z),(idx rfl hz).2,⟨by simp only;omega,by simp only;omega⟩,⟨by simp only;omega,by simp only;omega⟩,(a+1,b+1,m.set a x),_,aA.refl _ _,⟨by simp only;omega,by simp only;omega,by simp only;rw[aQ];exact O,?_,?_⟩,by simp only;omega,⟨rfl,rfl,bI (by simp only;omega),bI (by simp only;omega),trivial⟩,⟨?_,trivial⟩⟩
    ·simp only;rw[Iv (by omega),R,sU N,h3];rfl
    ·simp only;rw[List.drop_set_of_lt (by omega)];have:=ar (List.drop 1) U;simpa [Gd] using this
    show AB.row _ ((m.map rc).set a (rc x))=AB.row _ ((m.set a x).map rc);rw[w_]
   refine⟨⟨by simp only;omega,by simp only;omega⟩,(a,b+1,m),_,aA.refl _ _,⟨by simp only;omega,by simp only;omega,O,?_,?_⟩,by simp only;omega,⟨rfl,rfl,rfl,bI (by simp only;omega),trivial⟩,⟨Z,Y⟩⟩
   ·simp only;rw[R,sU N,h3];simp
   have:=ar (List.drop 1) U;simpa [Gd] using this
  rw[D,O]at V;refine Or.inl ?_;refine⟨⟨by simp only;omega,by simp only;rw[D];omega,by simp only;omega⟩,⟨by simp only[FY];omega,by simp only[FY];omega⟩,?_⟩;refine Or.inl ?_;have Rf:((((m.map rc).take a++List.replicate ((m.map rc).length-a) [i64 0,i64 0,i64 0,i64 0]++(m.map rc).drop (m.map rc).length).length:Nat):Int)=m.length:=by simp;omega
  refine⟨⟨by omega,by simp only;omega,by simp only[FY];exact Int.le_trans (show (a:Int)<=m.length by omega) (Int.le_of_eq Rf.symm)⟩,?_,Z,Y⟩;simp only[FY];rw[d_,List.take_append_of_le_length (by rw[cE,D];omega),cL,Nat.min_self,<-cS,R,kG (by omega)]
 have Eb:∀x∈l,qo y x=false:=fun x N=>by
  cases h:qo y x with
  | false=>rfl
  | true=>exact absurd (wy.2 ⟨x,N,h⟩) ZO
 rw[cT Eb];rw[filter_none Eb];exact⟨Z,Z,Y⟩
theorem Gh(a b:Int):∀(s:cw),(s=[]->flat (Reg.dH s a b)=[a,b])/\(∀n,s.length=n+1->∃p,(flat s)[2*n+1]?=some p/\flat (Reg.dH s a b)=if a<=p then (flat s).set (2*n+1) (max p b) else flat s++[a,b]):=by
 intro s
 induction s with
 | nil=>exact⟨fun _=>rfl,fun n h=>by simp at h⟩
 | cons p s ih=>
  refine⟨fun h=>by simp at h,fun n u=>?_⟩;cases s with
  | nil=>
   have:n=0:=by simpa using u.symm
   subst this;refine⟨p.2,rfl,?_⟩;rw[Reg.dH];split<;>rfl
  | cons q s=>
   cases n with
   | zero=>simp at u
   | succ n=>
    obtain⟨z,D,I⟩:=ih.2 n (by simpa using u);refine⟨z,?_,?_⟩
    ·rw[show 2*(n+1)+1=(2*n+1)+1+1 by omega];simpa [flat] using D
    rw[Reg.dH,flat,I,show 2*(n+1)+1=(2*n+1)+1+1 by omega];split
    ·simp[flat]
    simp[flat]
theorem B9(a b:Int):∀(s:cw),(Reg.dH s a b).length<=s.length+1:=by
 intro s
 induction s with
 | nil=>simp[Reg.dH]
 | cons p s ih=>
  cases s with
  | nil=>rw[Reg.dH];split<;>simp
  | cons q s=>rw[Reg.dH];simp only[bN]at ih ⊢;omega
theorem B_(l:List aB):(Reg.dk l).length<=l.length:=by
 suffices H:∀n (m:List aB),m.length=n->(Reg.dk m).length<=m.length from H _ l rfl
 intro n
 induction n with
 | zero=>
  intro m u;have:m=[]:=Az u;subst this;simp[Reg.dk]
 | succ n ih=>
  intro m u;obtain⟨d,r,rfl⟩:∃d r,m=d++[r]:=by
   cases h:m.reverse with
   | nil=>simp at h;subst h;simp at u
   | cons r d=>exact⟨d.reverse,r,by rw[<-List.reverse_reverse m,h];simp⟩
  rw[Reg.ry];have h1:=B9 r.x0 r.x1 (Reg.dk d);have h2:=ih d (by simp at u;exact u);simp only[bJ,ij];omega
theorem Al(l:List aB)(hl:∀r∈l,Bd r)(hN:l.length<=4398046511104):ai C 153 [.row 90 (l.map rc)] (.p (ints (flat (Reg.dk (eO Dn l))))) [.row ((eO Dn l).map rc)]:=by
 refine fW hC Tryz.func153 rfl (by kernel_rfl) fun _=>?_;obtain⟨hp,_⟩:=pB hl;have qH:=hp.length_eq;refine⟨_,_,(W9 l hl (by omega)),?_⟩;generalize eO Dn l=L at hp qH ⊢;have I:=an L rc;refine aP (fun i:Nat=>i<=L.length) (fun i=>[(0,.ow 100000),(9,.ow 100000),(10,.p (i64 (L.map rc).length)),(11,.p (i64 i)),(3,.ow 3)]) (fun i=>[(100000,.row 90 (L.map rc)),(3,.row 3 ((flat (Reg.dk (L.take i))).map fun n=>[i64 n]))]) (fun i=>L.length-i) 0 _ (aA.eK hC _ 3 3 _ (by decide) rfl rfl (by decide)) (ak _) ⟨Z,Z,Z,Z,Z,Y⟩ ⟨Z,Z,Y⟩ fun i hi t h=>?_;have sl:=B_ (L.take i);have z:=fK (Reg.dk (L.take i));have u:=an (flat (Reg.dk (L.take i))) fun n=>[i64 n];rw[cE]at sl;apply iW<;>intro N
 ·rw[I]at N;obtain⟨r,O⟩:=ax (l:=L) (i:=i) (by omega);have wh:Reg.dk (L.take (i+1))=Reg.dH (Reg.dk (L.take i)) r.x0 r.x1:=by rw[bq O,Reg.ry]
  obtain⟨R,U⟩:=Gh r.x0 r.x1 (Reg.dk (L.take i));rw[<-wh]at R U;generalize Reg.dk (L.take i)=s at *;refine⟨⟨by omega,by rw[I];omega⟩,(rc r),(idx rfl O).2,⟨by rw[u];omega,by rw[u];omega⟩,iW ?_ ?_⟩<;>intro V
  ·rw[u,z]at V;obtain⟨n,hn⟩:∃n,s.length=n+1:=⟨s.length-1,by omega⟩;obtain⟨p,J,D⟩:=U n hn;have hk:(((flat s).map fun n=>[i64 n]).length:Int)-1=((2*n+1:Nat):Int):=by rw[u,z];omega
   refine⟨⟨by rw[hk];omega,by rw[hk,u,z];omega⟩,[i64 p],(idx hk J).2,iW ?_ ?_⟩<;>intro W
   ·rw[ae W]at D;refine⟨⟨by rw[hk];omega,by rw[hk,u,z];omega⟩,[i64 p],(idx hk J).2,⟨by rw[hk];omega,by rw[hk,u,z];omega⟩,[i64 p],(idx hk J).2,wO (by omega),(i+1),_,aA.refl _ _,by omega,by omega,⟨Z,Z,Z,Z,Z,Y⟩,⟨rfl,?_,trivial⟩⟩;have qh:∀k:Nat,k=2*n+1->AB.row 3 (((flat s).map fun n=>[i64 n]).set k [i64 (max p r.x1)])=AB.row 3 ((flat (Reg.dk (L.take (i+1)))).map fun n=>[i64 n]):=by
     intro k e;subst e;rw[D,w_]
    exact qh _ (by rw[hk];rfl)
   rw[aa W]at D;refine⟨⟨by simp,by simp;omega,by simp;omega⟩,wO (by omega),(i+1),_,aA.refl _ _,by omega,by omega,⟨Z,Z,Z,Z,Z,Y⟩,⟨rfl,?_,trivial⟩⟩;rw[D,E8];rfl
  rw[u,z]at V;have hs:s=[]:=Az (by omega);have D:=R hs;refine⟨⟨by simp,by simp;omega,by simp;omega⟩,wO (by omega),(i+1),_,aA.refl _ _,by omega,by omega,⟨Z,Z,Z,Z,Z,Y⟩,⟨rfl,?_,trivial⟩⟩;rw[D,hs];rfl
 rw[I]at N;rw[kG (by omega)];exact⟨Z,Z,Y⟩
def ends(l:List aB):List Int:=l.flatMap fun r=>[r.y0,r.y1]
theorem Ow{l:List aB}{i:Nat}{r:aB}(h:l[i]?=some r):ends (l.take (i+1))=ends (l.take i)++[r.y0,r.y1]:=by
 rw[bq h];simp[ends]
theorem Rg(l:List aB)(y:Int):y∈ends l↔∃r∈l,y=r.y0\/y=r.y1:=by
 simp[ends]
theorem Iw(l:List aB):(ends l).length=2*l.length:=by
 induction l with
 | nil=>rfl
 | cons r l ih=>simp only[ends,l6,bJ,bN,kv]at ih ⊢;omega
theorem KT{l m:List aB}(z:∀r,r∈m↔r∈l):compact (pC (ends m))=Reg.cr l:=by
 have J:(pC (ends m)).Pairwise (·<=·):=by
  have:=List.pairwise_mergeSort (le:=fun x y:Int=>decide (x<=y)) (fun a b c D I=>by simp at *;omega) (fun a b=>by simp;omega) (ends m);exact this.imp fun h=>by simpa using h
 obtain⟨D,I⟩:=u5 J;obtain⟨N,O⟩:=Reg.gY l;refine Reg.DH _ _ D N fun x=>?_;rw[I,O,pC,(List.mergeSort_perm _ _).mem_iff,Rg];constructor
 ·rintro⟨r,u,h⟩;exact⟨r,(z r).1 u,h⟩
 rintro⟨r,u,h⟩;exact⟨r,(z r).2 u,h⟩
variable {ys:List Int}
theorem Ox(D:Reg.ct ys){k:Nat}{y q:Int}(u:ys[k]?=some y)(J:q∈ys)(h1:q<=y)(N:∀j z,j+1=k->ys[j]?=some z->z<q):q=y:=by
 obtain⟨i,hi⟩:=ca.1 J;rcases iq i k with h | h | h
 ·obtain⟨z,I⟩:=ax (l:=ys) (i:=k-1) (by have:=(az.1 u).1;omega);have:=N (k-1) z (by omega) I;have:=B1 D hi I (by omega);omega
 ·subst h;rw[hi]at u;injection u
 have:=B1 D u hi (by omega);omega
structure MC(L:List aB)(ys:List Int)(k:Nat)(nw:List aB)(next:Nat):Prop where
 le:next<=L.length
 len:nw.length<=next
 mem:∀r,r∈nw↔r∈L.take next/\∀j y,j+1=k->ys[j]?=some y->y<r.y1
 below:∀r∈L.take next,∀j y,j+1=k->ys[j]?=some y->r.y0<=y
 j_:∀r∈L.drop next,∀j y,j+1=k->ys[j]?=some y->y<r.y0
 zero:k=0->next=0
structure S7(L:List aB)(y:Int)(nw:List aB)(next:Nat):Prop where
 le:next<=L.length
 len:nw.length<=next
 mem:∀r,r∈nw↔r∈L.take next/\y<r.y1
 below:∀r∈L.take next,r.y0<=y
variable {L nw:List aB}
theorem MC.mid{k:Nat}{next:Nat}(h:MC L ys k nw next)(R:Reg.ct ys){y:Int}(O:ys[k]?=some y):S7 L y (nw.filter fun r=>!qo y r) next:=by
 have u:k≠0->∃z,ys[k-1]?=some z/\z<y:=fun hk=>by
  have KR:=(az.1 O).1;obtain⟨z,I⟩:=ax (l:=ys) (i:=k-1) (by omega);have U:=az.1 I;have V:=az.1 O;obtain⟨W,b2⟩:=U;obtain⟨Y,c2⟩:=V;have:=(FZ.1 R) (k-1) k W Y (by omega);exact⟨z,I,by omega⟩
 refine⟨h.le,aS (wH _ _) h.len,fun r=>?_,fun r J=>?_⟩
 ·rw[l5,h.mem];simp only[qo,Fq,dG];constructor
  ·rintro⟨⟨N,_⟩,Z⟩;exact⟨N,by omega⟩
  rintro⟨N,Z⟩;refine⟨⟨N,fun j z hj I=>?_⟩,by omega⟩;obtain⟨z',D,eX⟩:=u (by omega);rw[show k-1=j by omega,I]at D;injection D with D;omega
 by_cases hk:k=0
 ·rw[h.zero hk]at J;simp at J
 obtain⟨z,I,eX⟩:=u hk;have:=h.below r J (k-1) z (by omega) I;omega
theorem S7.next{y:Int}{next:Nat}(h:S7 L y nw next){r:aB}(z:L[next]?=some r)(D:r.y0<=y)(I:y<r.y1):S7 L y (nw++[r]) (next+1):=by
 have eX:=(az.1 z).1;refine⟨by omega,by have:=h.len;simp;omega,fun q=>?_,fun q u=>?_⟩
 ·rw[bq z,fC,fC,Fp,h.mem];constructor
  ·rintro (⟨a,b⟩ | rfl)
   ·exact⟨.inl a,b⟩
   exact⟨.inr rfl,I⟩
  rintro⟨a | rfl,b⟩
  ·exact .inl ⟨a,b⟩
  exact .inr rfl
 rw[bq z,fC,Fp]at u;rcases u with u | rfl
 ·exact h.below q u
 exact D
theorem S7.row{l:List aB}{y:Int}{next:Nat}(h:S7 L y nw next)(u:∀r,r∈L↔r∈l)(z:∀r∈L.drop next,y<r.y0):∀r,r∈nw↔r∈l/\r.y0<=y/\y<r.y1:=by
 intro r;rw[h.mem,<-u];constructor
 ·rintro⟨a,b⟩;exact⟨Ay a,h.below r a,b⟩
 rintro⟨a,b,c⟩;refine⟨?_,c⟩;rw[<-nj next L,fC]at a;rcases a with a | a
 ·exact a
 have:=z r a;omega
theorem S7.aju{k:Nat}{m:List aB}{next:Nat}{y:Int}(h:S7 L y nw next)(J:ys[k]?=some y)(hp:m.Perm nw)(N:∀r∈L.drop next,y<r.y0):MC L ys (k+1) m next:=by
 have one:∀j z,j+1=k+1->ys[j]?=some z->z=y:=fun j z D u=>by
  rw[show j=k by omega,J]at u;injection u with u;exact u.symm
 refine⟨h.le,by rw[hp.length_eq];exact h.len,fun r=>?_,fun r I j z D u=>?_,fun r I j z D u=>?_,fun h=>by omega⟩
 ·rw[hp.mem_iff,h.mem];constructor
  ·rintro⟨a,b⟩;exact⟨a,fun j z D u=>by rw[one j z D u];exact b⟩
  rintro⟨a,b⟩;exact⟨a,b k y rfl J⟩
 ·rw[one j z D u];exact h.below r I
 rw[one j z D u];exact N r I
theorem KU(D:L.Pairwise fun a b=>a.y0<=b.y0){i:Nat}{r:aB}(I:L[i]?=some r){y:Int}(h:y<r.y0):∀q∈L.drop i,y<q.y0:=by
 intro q u;obtain⟨hi,z⟩:=az.1 I;rw[l_ hi,z,L8]at u;rcases u with rfl | u
 ·exact h
 obtain⟨j,J,rfl⟩:=dP u;rw[List.getElem_drop];have:=FZ.1 D i (i+1+j) hi (by rw[lU]at J;omega) (by omega);rw[z]at this;omega
def Good(r:aB):Prop:=Bd r/\r.x0<r.x1/\r.y0<r.y1
theorem Ix(l:List aB)(ys:List Int){N:Nat}(h:∀y,(Reg.rowOf l y).length<=N):∀k,∀t∈Reg.dw l ys k,t.xs.length<=N:=by
 intro k
 induction k with
 | zero=>simp[Reg.dw]
 | succ k ih=>rw[Reg.dw];exact Ii _ _ _ ih (h _)
theorem xi(l:List aB)(hl:∀r∈l,Good r)(hN:l.length<=4398046511104)(hH:(Reg.cr l).length<=1000000000000)(hX:∀y,(Reg.rowOf l y).length<=1000000000000):ai C 88 [.pv (aE l)] (.own 214 ((Reg.cH l).map hb)) []:=by
 refine FP ⟨[],[4],[],[20],[(20,[true,false,false,false,false,false,false,true,false,false,true,false,true,true,true])],[]⟩ hC Tryz.func88 rfl (by kernel_rfl) fun _=>?_;have PA:∀r∈l,Bd r:=fun r u=>(hl r u).1;obtain⟨hp,VH⟩:=Is PA;have qH:=hp.length_eq;refine⟨_,_,(It l (by omega)),_,_,(W8 l PA (by omega)),?_⟩;generalize eO Q_ l=L at hp VH qH;have N:=an L rc;refine aP (fun i:Nat=>i<=L.length) (fun i=>[(0,.ow 0),(14,.ow 0),(15,.p (i64 (L.map rc).length)),(16,.p (i64 i)),(3,.bx 3 0)]) (fun i=>[(0,.row 90 (L.map rc)),(3,.box [.ow 90000]),(90000,.row 3 ((ends (L.take i)).map fun n=>[i64 n]))]) (fun i=>L.length-i) 0 _ (aA.gH hC _ 3 0 90000 3 _ _ (by decide) (by decide) rfl rfl rfl (by decide)) (ak _) ⟨Z,Z,Z,Z,Z,Y⟩ ⟨Z,Z,Z,Y⟩ fun i hi t h=>?_;have el:=Iw (L.take i);have em:=an (ends (L.take i)) fun n=>[i64 n];rw[cE]at el;apply iW<;>intro h1
 ·rw[N]at h1;obtain⟨r,u⟩:=ax (l:=L) (i:=i) (by omega);refine⟨⟨by omega,by rw[N];omega⟩,(rc r),(idx rfl u).2,⟨by simp,by simp;omega,by simp;omega⟩,wO (by omega),i+1,_,aA.N0 _ 26 90000 (by decide) (by decide),by omega,by omega,⟨Z,Z,Z,Z,Z,Y⟩,⟨rfl,rfl,?_,trivial⟩⟩;show AB.row _ _=AB.row _ _;rw[Ow u,E8];rfl
 rw[N]at h1;rw[kG (show L.length<=i by omega)]at *;refine⟨_,_,(EA (ends L) (by omega)),_,_,(xg (pC (ends L)) (by rw[pC,List.length_mergeSort];omega)),?_⟩;have V:∀r,r∈L↔r∈l:=fun r=>hp.mem_iff;rw[KT V];have W:=B3 l;have hL:=ox l;have Y0:=an (Reg.cr l) fun n=>[i64 n];have VG:∀r∈L,r.y0∈Reg.cr l:=fun r u=>((Reg.gY l).2 _).2 ⟨r,(V r).1 u,.inl rfl⟩;have hbl:=sS l (Reg.cr l);have hbx:=Ix l (Reg.cr l) hX;have W_:Reg.cH l=Reg.dw l (Reg.cr l) ((Reg.cr l).length-1):=rfl;generalize Reg.cr l=ys at *;refine aP (fun x:Nat×List aB×Nat=>x.1<=ys.length-1/\MC L ys x.1 x.2.1 x.2.2) (fun x=>[(0,.ow 0),(3,.p (.ip [ints ys])),(6,.ow 6),(7,.ow 7),(8,.p (i64 x.2.2)),(9,.bx 9 0)]) (fun x=>[(0,.row 90 (L.map rc)),(6,.row 214 ((Reg.dw l ys x.1).map hb)),(7,.row 90 (x.2.1.map rc)),(9,.box [.p (i64 x.1)])]) (fun x=>ys.length-x.1) (0,[],0) _
  (aA.trans (aA.eK hC _ 6 214 _ (by decide) rfl rfl (by decide)) (aA.trans (aA.eK hC _ 7 90 _ (by decide) rfl rfl (by decide)) (aA.trans (aA.gI hC _ 3 0 31 3 _ _ (by decide) rfl rfl rfl) (aA.iT hC _ 3 (y:=.ip [ints ys]) (fz:=[(3,.nd [ints ys])]) ⟨rfl,rfl⟩))))
  ⟨ak _,⟨ak _,aG _,by simp,by simp,fun r _ j y h=>by omega,fun _=>rfl⟩⟩ ⟨Z,Z,Z,Z,Z,Z,Y⟩ ⟨Z,Z,Z,Z,Y⟩ fun ⟨k,nw,next⟩ hi t h=>?_
 obtain⟨hk,R⟩:=hi;simp only at hk R;refine⟨⟨by simp only;omega,by simp only;omega⟩,iW ?_ ?_⟩<;>intro h2<;>try simp only[zB]at h2
 ·rw[Y0]at h2;obtain⟨y,I⟩:=ax (l:=ys) (i:=k) (by omega);obtain⟨y',oO⟩:=ax (l:=ys) (i:=k+1) (by omega);have acN:=R.mid W I;refine⟨_,_,(Gg nw (by have:=R.len;have:=R.le;omega) ys k y I),?_⟩;refine Ak (fun p:List aB×Nat=>S7 L y p.1 p.2/\∀r∈L.drop p.2,y<r.y0) (fun p=>[(0,.ow 0),(3,.p (.ip [ints ys])),(6,.ow 6),(7,.ow 7),(8,.p (i64 p.2)),(9,.p (.ip [i64 k]))]) (fun p=>[(0,.row 90 (L.map rc)),(6,.row 214 ((Reg.dw l ys k).map hb)),(7,.row 90 (p.1.map rc))]) (fun ⟨J,O⟩ Hf t h=>?_) ?_
  ·obtain⟨D,Ye⟩:=Hf;simp only at D Ye;have aw:=D.row V Ye;have Aj:∀r∈J,Bd r:=fun r u=>(hl r ((aw r).1 u).1).1;obtain⟨U,Tn⟩:=pB Aj;have est:Reg.dk (eO Dn J)=Reg.rowOf l y:=Reg.Ie l _ y (fun r u=>(hl r u).2.1) Tn fun r=>(U.mem_iff).trans (aw r);have eX:y<y':=by
    obtain⟨b1,b2⟩:=az.1 I;obtain⟨c1,c2⟩:=az.1 oO;have:=(FZ.1 W) k (k+1) b1 c1 (by omega);omega
   refine⟨[i64 y],(idx rfl I),wO (by omega),[i64 y'],(idx (by omega) oO),_,_,(Al J Aj (by have:=D.len;have:=D.le;omega)),?_⟩;rw[est];refine⟨_,_,(vE (Reg.dw l ys k) ⟨y,y',Reg.rowOf l y⟩ eX (by have:=hbl k;omega) (fun t ht=>by have:=hbx k t ht;omega)),wO (by omega),(k+1,eO Dn J,O),_,aA.refl _ _,⟨by simp only;omega,D.aju I U Ye⟩,by simp only;omega,⟨Z,Z,Z,Z,Z,Z,Y⟩,⟨rfl,?_,rfl,?_,trivial⟩⟩
   ·simp only;rw[Reg.dw,A2 I,A2 oO];rfl
   exact ar (fun z=>AB.box [z]) (bI (by simp only;omega))
  refine aP (fun p:List aB×Nat=>next<=p.2/\S7 L y p.1 p.2) (fun p=>[(0,.ow 0),(3,.p (.ip [ints ys])),(6,.ow 6),(7,.ow 7),(8,.p (i64 p.2)),(9,.p (.ip [i64 k]))]) (fun p=>[(0,.row 90 (L.map rc)),(6,.row 214 ((Reg.dw l ys k).map hb)),(7,.row 90 (p.1.map rc))]) (fun p=>L.length-p.2) (nw.filter fun r=>!qo y r,next) _ (aA.iT hC _ 9 (y:=.ip [i64 k]) (fz:=[]) ⟨rfl,rfl⟩) ⟨aG _,acN⟩ ⟨Z,Z,Z,Z,Z,Z,Y⟩ ⟨Z,Z,Z,Y⟩ fun ⟨J,O⟩ Hf t h=>?_;obtain⟨acO,D⟩:=Hf;simp only at acO D;have hn2:=D.le;have Hd:=D.len;apply iW<;>intro g1<;>try simp only[zB]at g1
  ·rw[N]at g1;obtain⟨r,u⟩:=ax (l:=L) (i:=O) (by omega);refine⟨⟨by simp only;omega,by simp only;rw[N];omega⟩,(rc r),(idx rfl u).2,[i64 y],(idx rfl I),iW ?_ ?_⟩<;>intro g2
   ·have Xa:r∈L:=aj u;have e:=Ox W I (VG r Xa) g2 fun j z hj hz=>R.j_ r (by
     refine aj (i:=O-next) ?_;rw[aW,<-u];congr 1;omega) j z hj hz
    have hg:=hl r ((V r).1 Xa);refine⟨⟨by simp only;omega,by simp only;rw[N];omega⟩,(rc r),(idx rfl u).2,⟨kL rfl,by simp;omega,by simp;omega⟩,⟨by simp only;omega,by simp only;omega⟩,(J++[r],O+1),_,aA.refl _ _,⟨by simp only;omega,D.next u g2 (by have:=hg.2.2;omega)⟩,by simp only;omega,⟨rfl,rfl,rfl,rfl,bI (by simp only;omega),Z,Y⟩,⟨rfl,rfl,?_,trivial⟩⟩;show AB.row _ _=AB.row _ _;rw[E8];rfl
   exact⟨(J,O),⟨D,KU VH u (by omega)⟩,⟨Z,Z,Z,Z,Z,Z,Y⟩,⟨Z,Z,Z,Y⟩⟩
  rw[N]at g1;refine⟨(J,O),⟨D,fun r u=>?_⟩,⟨Z,Z,Z,Z,Z,Z,Y⟩,⟨Z,Z,Z,Y⟩⟩;rw[jR (by simp only;omega)]at u;cases u
 rw[Y0]at h2;rw[W_,show ys.length-1=k by omega];exact⟨Z,Z,Y⟩
theorem Iy(l:List aB)(hl:∀r∈l,Good r)(hN:l.length<=400000):ai C 88 [.pv (aE l)] (.own 214 ((Reg.cH l).map hb)) []:=
 xi l hl (by omega) (by have:=ox l;omega) (fun y=>by have:=wV l y;omega)
end M
end Go.Proofs.YtliffnpbaeijgaaGreatDoor
