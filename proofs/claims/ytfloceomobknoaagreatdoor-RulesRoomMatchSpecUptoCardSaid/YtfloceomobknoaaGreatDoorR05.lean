/- Part 5 of the proof of RulesRoomMatchSpec. -/
import Derived.Test.YtfloceomobknoaaGreatDoorR04
import Derived.Lib.SplitLaws
import Derived.Shelf.SlSortCmp.WholeK
import Derived.Deep.Slices
import Derived.Shelf.SlSortCmp.NoneTotal
set_option linter.unusedVariables false
set_option linter.unusedSimpArgs false
set_option maxRecDepth 100000
set_option maxHeartbeats 8000000
namespace Go
abbrev ad5:=@List.all_eq_false
abbrev ad6:=@List.all_append
abbrev abd:=@List.map_map
abbrev abK:=@List.any_cons
abbrev adH:=@List.flatten_cons
abbrev aen:=@Array.getElem?_append_right
abbrev abm:=@Nat.lt_or_ge
abbrev ace:=@Array.getElem?_eq_none
abbrev adI:=@Nat.eq_zero_or_pos
abbrev ab2:=@List.not_mem_nil
abbrev ad7:=@List.filter_eq_self
abbrev ad8:=@List.drop_drop
abbrev abL:=@List.map_set
abbrev adi:=@List.getElem_drop
end Go
namespace Go.Proofs.YtfloceomobknoaaGreatDoor
namespace M
open Go.AM Go.RowKit
theorem rY(s:ByteArray)(c:Int):af C 206 [.pv (str s),.pv (.im (.int .u8 c))] (.p (i64 (Lib.indexByte s.data.toList c.toNat.toUInt8))) []:=
 vv [.string s,.int .u8 c] _ ⟨_,Tryz.func206,rfl,rfl⟩ fun _ w _ _=>(Tryz.strings_IndexByte s c w).mono fun _ _ ⟨z,D⟩=>⟨z,by rw[D];exact acE _ _⟩
theorem wE(n lo hi:Int):af C 187 [.pv (i64 n),.pv (i64 lo),.pv (i64 hi)] (.p (bool (decide (lo<=n)&&decide (n<=hi)))) []:=by
 refine fW hC Tryz.func187 rfl (by kernel_rfl) fun _=>?_;apply iW<;>intro h<;>(refine⟨?_,trivial⟩)<;>simp[bool,h]
def okB(b:UInt8):Bool:=(decide ((97:Int)<=b.toNat)&&decide ((b.toNat:Int)<=122))||(decide ((65:Int)<=b.toNat)&&decide ((b.toNat:Int)<=90))||(decide ((48:Int)<=b.toNat)&&decide ((b.toNat:Int)<=57))||!decide (Lib.indexByte [95,43,45,35] b<0)
theorem byte_back(b:UInt8):((b.toNat:Int)).toNat.toUInt8=b:=by simp
def iU(s:ByteArray):Bool:=s.data.toList.all okB&&(decide ((1:Int)<=s.size)&&decide ((s.size:Int)<=40))
theorem Ev{s:ByteArray}{i:Nat}(h:i<s.size):∃b:UInt8,s[i]?=some b/\s.data.toList[i]?=some b:=by
 refine⟨s[i],getElem?_pos s i h,?_⟩;rw[aek];exact aa1 h
theorem qz(s:ByteArray)(hs:s.size<=9223372036854775807):af C 142 [.pv (str s)] (.p (bool (iU s))) []:=by
 refine fW hC Tryz.func142 rfl (by kernel_rfl) fun _=>?_;have hsz:s.data.toList.length=s.size:=by simp
 refine aJ (fun i:Nat=>i<=s.size/\(s.data.toList.take i).all okB=true) (fun i=>[(0,.p (str s)),(3,.p (i64 i))]) (fun _=>[]) (fun i=>s.size-i) 0 _ (au.refl _ _) ⟨aaj _,by simp⟩ ⟨Z,Z,Y⟩ trivial fun i hi t h=>?_;apply iW<;>intro h1
 ·obtain⟨b,hb,D⟩:=Ev (s:=s) (i:=i) (by omega);have N:okB b=false->iU s=false:=fun h=>by
   rw[iU,abF];refine .inl ?_;rw[ad5];exact⟨b,aad D,by simp[h]⟩
  have z:okB b=true->(s.data.toList.take (i+1)).all okB=true:=fun h=>by rw[aZ D,ad6,hi.2];simp[h]
  refine⟨b,⟨by omega,by rw[aaS];exact hb⟩,?_⟩;have J:=rY ⟨#[95,43,45,35]⟩ b.toNat;rw[byte_back]at J
  repeat' first | apply iW<;>intro h<;>try simp only[zB]at h | refine⟨_,_,J,?_⟩
  all_goals skip
  all_goals first
   | (
     refine⟨wO (by omega),?_⟩;refine⟨(i+1),_,au.refl _ _,?_⟩;exact⟨⟨by omega,z (by simp[okB, *])⟩,by omega,⟨Z,Z,Y⟩,trivial⟩)
   | (
     refine⟨?_,trivial⟩;rw[N (by simp[okB, *])];rfl)
 have I:s.data.toList.all okB=true:=by
  have:=hi.2
  rwa [adW (by omega)]at this
 refine⟨_,_,(wE s.size 1 40),?_,trivial⟩;rw[iU,I,adr]
def wF:ByteArray:=⟨#[47]⟩
def parts(s:ByteArray):List ByteArray:=Lib.splitB wF 0 (Lib.countB s wF) s
def lh(s:ByteArray):Bool:=(parts s).all iU&&decide ((s.size:Int)<=200)
theorem wG(D:ByteArray):∀(k:Nat) (s:ByteArray),∀x∈Lib.splitB D 0 k s,x.size<=s.size:=by
 intro k
 induction k with
 | zero=>
  intro s x z;rw[Lib.splitB_zero,ab_]at z;rw[z];omega
 | succ k ih=>
  intro s x z;unfold Lib.splitB at z;split at z
  ·rw[ab_]at z;rw[z];omega
  rcases adq.1 z with h | h
  ·rw[h,ByteArray.size_extract];omega
  have:=ih _ x h;rw[ByteArray.size_extract]at this;omega
theorem tT(s:ByteArray):(parts s).length=Lib.countB s wF+1:=Lib.splitB_all wF (by decide) 0 _ s rfl
theorem yP(s:ByteArray):(parts s).length<=s.size+1:=by
 rw[tT];have:=Lib.countB_le wF (by decide) s.size s (aam _);omega
theorem MQ(l:List ByteArray):(l.map Value.string).map (fun v=>[PV.im v])=l.map fun s=>[str s]:=by
 rw[abd];rfl
theorem Bs(s:ByteArray)(z:s.size<4294967281):af C 141 [.pv (str s),.pv (str wF)] (.own 9 ((parts s).map fun s=>[str s])) []:=by
 have h:=Em hC (f:=141) [.string s,.string wF] 9 ((parts s).map Value.string) _ rfl rfl (by simp[Value.oneCell']) (by rw[aej];have:=yP s;have:maxLen=9223372036854775807:=rfl;omega) ⟨_,Tryz.func141,rfl,rfl⟩ fun S w D _=>by
  obtain⟨_,_,⟨m,I⟩,_⟩:=D;refine (Tryz.strings_Split s wF m w z I (by decide)).mono fun _ _ ⟨J,N⟩=>⟨?_,N⟩;rw[J,aej,tT]
 rw[MQ]at h;exact h
theorem wH(s:ByteArray)(N:s.size<4294967281):af C 63 [.pv (str s)] (.p (bool (lh s))) []:=by
 refine fW hC Tryz.func63 rfl (by kernel_rfl) fun _=>?_;have lm:=ai (parts s) fun s=>[str s];have pl:=yP s;refine⟨_,_,(Bs s N),?_⟩;refine aJ (fun i:Nat=>i<=(parts s).length/\((parts s).take i).all iU=true) (fun i=>[(0,.p (str s)),(3,.p (strs (parts s))),(4,.p (i64 i))]) (fun _=>[]) (fun i=>(parts s).length-i) 0 _ (au.own hC _ 3 rfl rfl) ⟨aaj _,by simp⟩ ⟨Z,Z,Z,Y⟩ trivial fun i hi t h=>?_;apply iW<;>intro I
 ·rw[lm]at I;obtain⟨x,D⟩:=ak (l:=parts s) (i:=i) (by omega);have s9:=wG _ _ _ x (aad D);refine⟨[str x],(idx rfl D),_,_,(qz x (by omega)),iW ?_ ?_⟩<;>intro J
  ·refine⟨?_,trivial⟩;rw[show lh s=false from ?_]
   ·rfl
   rw[lh,abF,ad5];exact .inl ⟨x,aad D,by simp[J]⟩
  refine⟨wO (by omega),(i+1),_,au.refl _ _,⟨by omega,?_⟩,by omega,⟨Z,Z,Z,Y⟩,trivial⟩;rw[aZ D,ad6,hi.2];simp[J]
 rw[lm]at I;refine⟨?_,trivial⟩;have z:=hi.2;rw[adW (by omega)]at z;rw[lh,z,adr];rfl
open Reg (ae aU an)
theorem tU(n lo hi:Int):af C 77 [.pv (i64 n),.pv (i64 lo),.pv (i64 hi)] (.p (bool (decide (lo<=n)&&decide (n<=hi)))) []:=by
 refine fW hC Tryz.func77 rfl (by kernel_rfl) fun _=>?_;apply iW<;>intro h<;>(refine⟨?_,trivial⟩)<;>simp[bool,h]
theorem lK(n:Int):af C 32 [.pv (i64 n)] (.p (bool (cL n))) []:=by
 refine fW hC Tryz.func32 rfl (by kernel_rfl) fun _=>?_;refine⟨_,_,(tU n 0 100000),?_,trivial⟩;rfl
theorem CW(n:Int):af C 195 [.pv (i64 n)] (.p (bool (!cL n))) []:=by
 refine fW hC Tryz.func195 rfl (by kernel_rfl) fun _=>?_;refine⟨_,_,(lK n),?_,trivial⟩;rfl
theorem CX(n lo hi:Int):af C 259 [.pv (i64 n),.pv (i64 lo),.pv (i64 hi)] (.p (bool (decide (lo<=n)&&decide (n<=hi)))) []:=by
 refine fW hC Tryz.func259 rfl (by kernel_rfl) fun _=>?_;apply iW<;>intro h<;>(refine⟨?_,trivial⟩)<;>simp[bool,h]
theorem jN(n:Int):af C 213 [.pv (i64 n)] (.p (bool (Reg.kR n))) []:=by
 refine fW hC Tryz.func213 rfl (by kernel_rfl) fun _=>?_;refine⟨_,_,(CX n (-1000000) 1000000),?_,trivial⟩;rfl
theorem rZ(x y:Int):af C 173 [.pv (.ag [i64 x,i64 y])] (.p (bool (Reg.kR x&&Reg.kR y))) []:=by
 refine fW hC Tryz.func173 rfl (by kernel_rfl) fun _=>?_;refine⟨_,_,(jN x),iW ?_ ?_⟩<;>intro h
 ·refine⟨_,_,(jN y),?_,trivial⟩;simp[bool,h]
 refine⟨?_,trivial⟩;simp[bool,h]
theorem tV(r:ae):af C 154 [.pv (.ag (rc r))] (.p (bool (Reg.c7 r))) []:=by
 refine fW hC Tryz.func154 rfl (by kernel_rfl) fun _=>?_;refine⟨_,_,(jN r.x0),iW ?_ ?_⟩<;>intro z
 ·refine⟨_,_,(jN r.y0),iW ?_ ?_⟩<;>intro D
  ·refine⟨_,_,(jN r.x1),iW ?_ ?_⟩<;>intro I
   ·refine⟨_,_,(jN r.y1),?_,trivial⟩;simp[bool,Reg.c7,z,D,I]
   refine⟨?_,trivial⟩;simp[bool,Reg.c7,z,D,I]
  refine⟨?_,trivial⟩;simp[bool,Reg.c7,z,D]
 refine⟨?_,trivial⟩;simp[bool,Reg.c7,z]
def jO{α:Type}(p:α->Bool):List α->Nat->Int
 | [],_=>-1
 | x::r,k=>match p x with
  | true=>k
  | false=>jO p r (k+1)
variable {α:Type}
theorem iV{p:α->Bool}:∀{l:List α} {k:Nat},(∀x∈l,p x=false)->jO p l k=-1:=by
 intro l
 induction l with
 | nil=>intro k _;rfl
 | cons x l ih=>intro k h;rw[jO,h x (by simp)];exact ih fun y z=>h y (by simp[z])
theorem lY{p:α->Bool}:∀{l:List α} {i k:Nat} {x:α},l[i]?=some x->p x=true->(∀y∈l.take i,p y=false)->jO p l k=((k+i:Nat):Int):=by
 intro l
 induction l with
 | nil=>intro i k x h;simp at h
 | cons y l ih=>
  intro i k x h hp D;cases i with
  | zero=>simp at h;subst h;rw[jO,hp];rfl
  | succ i=>
   rw[jO,D y (by simp)];have:=ih (i:=i) (k:=k+1) (by simpa using h) hp fun z I=>D z (by simp[I]);simp only[this];omega
theorem oX(p:α->Bool):∀(l:List α) (k:Nat),decide (0<=jO p l k)=l.any p:=by
 intro l
 induction l with
 | nil=>intro k;rfl
 | cons x l ih=>
  intro k;rw[jO,abK];cases p x with
  | true=>simp
  | false=>simpa using ih (k+1)
theorem tW{p:α->Bool}{l:List α}{i:Nat}{x:α}(D:l[i]?=some x)(hp:p x=false)(h:∀y∈l.take i,p y=false):∀y∈l.take (i+1),p y=false:=by
 intro y z;rw[aZ D,abi,ab_]at z;rcases z with z | rfl
 ·exact h y z
 exact hp
theorem Kn(l:List Int)(hN:l.length<=140737488355328):af C 248 [.pv (ints l),.pv (.im (.func (.func 195) #[] #[]))] (.p (i64 (jO (fun n=>!cL n) l 0))) []:=by
 refine fW hC Tryz.func248 rfl (by kernel_rfl) fun _=>?_;have lm:=ai l fun n=>[i64 n];refine aJ (fun i:Nat=>i<=l.length/\∀x∈l.take i,(!cL x)=false) (fun i=>[(0,.p (ints l)),(1,.p (.im (.func (.func 195) #[] #[]))),(7,.p (i64 (l.map fun n=>[i64 n]).length)),(8,.p (i64 i))]) (fun _=>[]) (fun i=>l.length-i) 0 _ (au.refl _ _) ⟨aaj _,by simp⟩ ⟨Z,Z,Z,Z,Y⟩ trivial fun i hi t h=>?_;apply iW<;>intro I
 ·rw[lm]at I;obtain⟨x,D⟩:=ak (l:=l) (i:=i) (by omega);refine⟨[i64 x],(idx rfl D),_,_,(CW x),iW ?_ ?_⟩<;>intro z
  ·refine⟨?_,trivial⟩;rw[lY D (by simp[z]) hi.2,abC]
  exact⟨wO (by omega),(i+1),_,au.refl _ _,⟨by omega,tW D (by simp[z]) hi.2⟩,by omega,⟨Z,Z,Z,Z,Y⟩,trivial⟩
 rw[lm]at I;refine⟨?_,trivial⟩;have z:=hi.2;rw[adW (by omega)]at z;rw[iV z];rfl
theorem CY(l:List Int)(z:l.length<=140737488355328):af C 194 [.pv (ints l),.pv (.im (.func (.func 195) #[] #[]))] (.p (bool (l.any fun n=>!cL n))) []:=by
 refine fW hC Tryz.func194 rfl (by kernel_rfl) fun _=>?_;refine⟨_,_,(Kn l z),?_,trivial⟩;rw[<-oX _ l 0];rfl
theorem oY(s:ByteArray)(hs:s.size<=9223372036854775807):af C 172 [.pv (str s)] (.p (bool (iU s))) []:=by
 refine fW hC Tryz.func172 rfl (by kernel_rfl) fun _=>?_;have hsz:s.data.toList.length=s.size:=by simp
 refine aJ (fun i:Nat=>i<=s.size/\(s.data.toList.take i).all okB=true) (fun i=>[(0,.p (str s)),(6,.p (i64 s.size)),(7,.p (i64 i))]) (fun _=>[]) (fun i=>s.size-i) 0 _ (au.refl _ _) ⟨aaj _,by simp⟩ ⟨Z,Z,Z,Y⟩ trivial fun i hi t h=>?_;apply iW<;>intro h1
 ·obtain⟨b,hb,D⟩:=Ev (s:=s) (i:=i) (by omega);have O:okB b=false->iU s=false:=fun h=>by
   rw[iU,abF];refine .inl ?_;rw[ad5];exact⟨b,aad D,by simp[h]⟩
  have z:okB b=true->(s.data.toList.take (i+1)).all okB=true:=fun h=>by rw[aZ D,ad6,hi.2];simp[h]
  refine⟨b,⟨by omega,by rw[aaS];exact hb⟩,?_⟩;have J:=rY ⟨#[95,43,45,35]⟩ b.toNat;rw[byte_back]at J
  repeat' first | apply iW<;>intro h<;>try simp only[zB]at h | refine⟨_,_,J,?_⟩
  all_goals skip
  all_goals first
   | (
     refine⟨wO (by omega),?_⟩;refine⟨(i+1),_,au.refl _ _,?_⟩;exact⟨⟨by omega,z (by simp only[okB,adZ,aaZ,aaH,ael,acd];omega)⟩,by omega,⟨Z,Z,Z,Y⟩,trivial⟩)
   | (
     refine⟨?_,trivial⟩;rw[O (by simp only[okB,adX,abF,acd,Bool.not_eq_false',aaH];omega)];rfl)
 have I:s.data.toList.all okB=true:=by
  have:=hi.2
  rwa [adW (by omega)]at this
 apply iW<;>intro N
 ·refine⟨?_,trivial⟩;simp[bool,iU,I,N]
 refine⟨?_,trivial⟩;simp[bool,iU,I,N]
theorem MR(s:ByteArray)(z:s.size<=9223372036854775807):af C 240 [.pv (str s)] (.p (bool (!iU s))) []:=by
 refine fW hC Tryz.func240 rfl (by kernel_rfl) fun _=>?_;refine⟨_,_,(oY s z),?_,trivial⟩;rfl
theorem Ko(l:List ByteArray)(hN:l.length<=140737488355328)(hS:∀s∈l,s.size<=9223372036854775807):af C 210 [.pv (strs l),.pv (.im (.func (.func 240) #[] #[]))] (.p (i64 (jO (fun s=>!iU s) l 0))) []:=by
 refine fW hC Tryz.func210 rfl (by kernel_rfl) fun _=>?_;have lm:=ai l fun s=>[str s];refine aJ (fun i:Nat=>i<=l.length/\∀x∈l.take i,(!iU x)=false) (fun i=>[(0,.p (strs l)),(1,.p (.im (.func (.func 240) #[] #[]))),(7,.p (i64 (l.map fun s=>[str s]).length)),(8,.p (i64 i))]) (fun _=>[]) (fun i=>l.length-i) 0 _ (au.refl _ _) ⟨aaj _,by simp⟩ ⟨Z,Z,Z,Z,Y⟩ trivial fun i hi t h=>?_;apply iW<;>intro I
 ·rw[lm]at I;obtain⟨x,D⟩:=ak (l:=l) (i:=i) (by omega);refine⟨[str x],(idx rfl D),_,_,(MR x (hS x (aad D))),iW ?_ ?_⟩<;>intro z
  ·refine⟨?_,trivial⟩;rw[lY D (by simp[z]) hi.2,abC]
  exact⟨wO (by omega),(i+1),_,au.refl _ _,⟨by omega,tW D (by simp[z]) hi.2⟩,by omega,⟨Z,Z,Z,Z,Y⟩,trivial⟩
 rw[lm]at I;refine⟨?_,trivial⟩;have z:=hi.2;rw[adW (by omega)]at z;rw[iV z];rfl
theorem CZ(l:List ByteArray)(z:l.length<=140737488355328)(hS:∀s∈l,s.size<=9223372036854775807):af C 149 [.pv (strs l),.pv (.im (.func (.func 240) #[] #[]))] (.p (bool (l.any fun s=>!iU s))) []:=by
 refine fW hC Tryz.func149 rfl (by kernel_rfl) fun _=>?_;refine⟨_,_,(Ko l z hS),?_,trivial⟩;rw[<-oX _ l 0];rfl
theorem Pp(p:α->Bool):∀l:List α,(!l.any fun s=>!p s)=l.all p:=by
 intro l
 induction l with
 | nil=>rfl
 | cons x l ih=>rw[abK,aaP,<-ih,Bool.not_or,Bool.not_not]
theorem tX(s:ByteArray)(D:s.size<4294967281):af C 171 [.pv (str s)] (.p (bool (lh s))) []:=by
 refine fW hC Tryz.func171 rfl (by kernel_rfl) fun _=>?_;have pl:=yP s;apply iW<;>intro z
 ·refine⟨_,_,(Bs s D),_,_,(CZ (parts s) (by omega) fun x I=>by have:=wG _ _ _ x I;omega),?_,trivial⟩;rw[Pp,lh,aaA z,ac7];rfl
 refine⟨?_,trivial⟩;rw[lh,aaC z,acC];rfl
theorem vx(l:List ae):af C 74 [.pv (aj l)] (.p (i64 (Reg.cz l))) []:=by
 refine fW hC Tryz.func74 rfl (by kernel_rfl) fun _=>?_;have lm:=ai l rc;apply iW<;>intro I
 ·rw[lm]at I;refine⟨?_,trivial⟩;rw[Reg.cz,aap (by omega)];rfl
 rw[lm]at I;have D:Reg.cz l=Reg.dU l:=by rw[Reg.cz,aaa (by omega)]
 refine aJ (fun i:Nat=>i<=l.length/\Reg.dU l=Reg.dU (l.drop i)) (fun i=>[(8,.p (aj l)),(9,.p (i64 (l.map rc).length)),(10,.p (i64 i))]) (fun _=>[]) (fun i=>l.length-i) 0 _ (au.refl _ _) ⟨aaj _,rfl⟩ ⟨Z,Z,Z,Y⟩ trivial fun i hi t h=>?_;apply iW<;>intro J
 ·rw[lm]at J;obtain⟨r,N⟩:=ak (l:=l) (i:=i) (by omega);have z:=oc N;refine⟨(rc r),(idx rfl N),_,_,(tV r),iW ?_ ?_⟩<;>intro O
  ·refine⟨?_,trivial⟩;rw[D,hi.2,z,aaa (by simp[O])];rfl
  rw[aap O]at z;apply iW<;>intro e1
  ·refine⟨?_,trivial⟩;rw[D,hi.2,z,aap (.inl e1)];rfl
  apply iW<;>intro e2
  ·refine⟨?_,trivial⟩;rw[D,hi.2,z,aap (.inr e2)];rfl
  refine⟨wO (by omega),(i+1),_,au.refl _ _,⟨by omega,?_⟩,by omega,⟨Z,Z,Z,Y⟩,trivial⟩;rw[hi.2,z,aaa (by omega)]
 rw[lm]at J;refine⟨?_,trivial⟩;rw[D,hi.2,aaz (by omega)];rfl
theorem Ew(l m:List ae)(hN:l.length<=140737488355328):af C 75 [.pv (aj l),.pv (aj m)] (.p (bool (decide (l=m)))) []:=by
 refine fW hC Tryz.func75 rfl (by kernel_rfl) fun _=>?_;have lm:=ai l rc;have I:=ai m rc;apply iW<;>intro D
 ·rw[lm,I]at D;refine⟨?_,trivial⟩;rw[aaC (fun e:l=m=>D (by rw[e]))];rfl
 rw[lm,I]at D;refine aJ (fun i:Nat=>i<=l.length/\(l=m↔l.drop i=m.drop i)) (fun i=>[(0,.p (aj l)),(1,.p (aj m)),(12,.p (i64 (l.map rc).length)),(13,.p (i64 i))]) (fun _=>[]) (fun i=>l.length-i) 0 _ (au.refl _ _) ⟨aaj _,aaT⟩ ⟨Z,Z,Z,Z,Y⟩ trivial fun i hi t h=>?_;apply iW<;>intro J
 ·rw[lm]at J;obtain⟨r,N⟩:=ak (l:=l) (i:=i) (by omega);obtain⟨q,O⟩:=ak (l:=m) (i:=i) (by omega);have R:=rv N O;refine⟨(rc r),(idx rfl N),(rc q),(idx rfl O),?_⟩;have U:=Reg.ae.yK r q;apply iW<;>intro z<;>try simp only[zB]at z
  ·refine⟨?_,trivial⟩;rw[aaC];rfl;rw[hi.2,R,U];simp only[abF,acd]at z;intro ⟨⟨e1,e2,V,W⟩,_⟩;simp[e1,e2,V,W]at z
  refine⟨wO (by omega),(i+1),_,au.refl _ _,⟨by omega,?_⟩,by omega,⟨Z,Z,Z,Z,Y⟩,trivial⟩;rw[hi.2,R,U];simp[aaH]at z;exact and_iff_right z
 refine⟨?_,trivial⟩;rw[lm]at J;rw[aaA];rfl;rw[hi.2,aaz (by omega),aaz (by omega)]
theorem G6(l m:List Int)(hN:l.length<=140737488355328):af C 162 [.pv (ints l),.pv (ints m)] (.p (bool (decide (l=m)))) []:=by
 refine fW hC Tryz.func162 rfl (by kernel_rfl) fun _=>?_;have lm:=ai l fun n=>[i64 n];have D:=ai m fun n=>[i64 n];apply iW<;>intro z
 ·rw[lm,D]at z;refine⟨?_,trivial⟩;rw[aaC (fun e:l=m=>z (by rw[e]))];rfl
 rw[lm,D]at z;refine aJ (fun i:Nat=>i<=l.length/\(l=m↔l.drop i=m.drop i)) (fun i=>[(0,.p (ints l)),(1,.p (ints m)),(12,.p (i64 (l.map fun n=>[i64 n]).length)),(13,.p (i64 i))]) (fun _=>[]) (fun i=>l.length-i) 0 _ (au.refl _ _) ⟨aaj _,aaT⟩ ⟨Z,Z,Z,Z,Y⟩ trivial fun i hi t h=>?_;apply iW<;>intro I
 ·rw[lm]at I;obtain⟨r,J⟩:=ak (l:=l) (i:=i) (by omega);obtain⟨q,N⟩:=ak (l:=m) (i:=i) (by omega);have O:=rv J N;refine⟨[i64 r],(idx rfl J),[i64 q],(idx rfl N),iW ?_ ?_⟩<;>intro R
  ·refine⟨?_,trivial⟩;rw[aaC];rfl;rw[hi.2,O];exact fun h=>R h.1
  refine⟨wO (by omega),(i+1),_,au.refl _ _,⟨by omega,?_⟩,by omega,⟨Z,Z,Z,Z,Y⟩,trivial⟩;rw[hi.2,O];exact and_iff_right R
 refine⟨?_,trivial⟩;rw[lm]at I;rw[aaA];rfl;rw[hi.2,aaz (by omega),aaz (by omega)]
def flat:aU->List Int
 | []=>[]
 | p::s=>p.1::p.2::flat s
theorem eY:∀s:aU,(flat s).length=2*s.length:=by
 intro s
 induction s with
 | nil=>rfl
 | cons p s ih=>simp only[flat,aaB,ih];omega
theorem MS:∀{s u:aU},flat s=flat u->s=u:=by
 intro s
 induction s with
 | nil=>intro u h;cases u with | nil=>rfl | cons=>cases h
 | cons p s ih=>
  intro u h;cases u with
  | nil=>cases h
  | cons q u=>
   simp only[flat,List.cons.injEq]at h;rw[ih h.2.2,Prod.ext h.1 h.2.1]
def hb(b:an):List PV:=[i64 b.y0,i64 b.y1,ints (flat b.xs)]
theorem oZ(l:List an)(b:an)(WR:b.y0<b.y1)(hN:l.length<=1000000000000)(hX:∀t∈l,t.xs.length<=1000000000000):af C 88 [.row 128 (l.map hb),.pv (.ag (hb b))] (.own 128 ((Reg.cA l b).map hb)) [.gone]:=by
 refine fW hC Tryz.func88 rfl (by kernel_rfl) fun _=>?_;have lm:=ai l hb;have U:=ai (flat b.xs) fun n=>[i64 n];have V:=eY b.xs;have done:∀z:List an,z=Reg.cA l b->AB.row 128 (z.map hb)=AB.row 128 ((Reg.cA l b).map hb):=fun z e=>by rw[e]
 apply iW<;>intro O
 ·rw[U,V]at O;have N:b.xs=[]:=adl (by omega);exact⟨done l (by rw[Reg.cA,aap N]),Z,Y⟩
 rw[U,V]at O;have N:b.xs≠[]:=fun e=>O (by rw[e];rfl);have D:l++[b]=Reg.cA l b->AB.row 128 (l.map hb++[hb b])=AB.row 128 ((Reg.cA l b).map hb):=fun e=>by rw[<-e,abE];rfl
 apply iW<;>intro h0
 ·omega
 refine⟨⟨by rw[lm];omega,by rw[lm];omega⟩,iW ?_ ?_⟩<;>intro W
 ·rw[lm]at W;obtain⟨m,R⟩:∃m,l.length=m+1:=⟨l.length-1,by omega⟩;have hi:((l.map hb).length:Int)-1=(m:Nat):=by rw[lm];omega
  have hp:Reg.cA l b=match l.getLast? with
   | some t=>if t.y1=b.y0/\t.xs=b.xs then l.dropLast++[⟨t.y0,b.y1,t.xs⟩] else l++[b]
   | none=>[b]:=by rw[Reg.cA,aaa N]<;>rfl
  obtain⟨t,I⟩:=ak (l:=l) (i:=m) (by omega);rw[tQ R I]at hp;simp only at hp;have ft:=eY t.xs;refine⟨⟨by rw[hi];omega,by rw[hi,lm];omega⟩,(hb t),(idx hi I).2,iW ?_ ?_⟩<;>intro h3
  ·refine⟨⟨by rw[hi];omega,by rw[hi,lm];omega⟩,(hb t),(idx hi I).2,_,_,(G6 (flat t.xs) (flat b.xs) (by have:=hX t (aad I);omega)),iW ?_ ?_⟩<;>intro J
   ·have J:t.xs=b.xs:=MS J;refine⟨⟨by rw[hi];omega,by rw[hi,lm];omega⟩,(hb t),(idx hi I).2,?_⟩;rw[aap ⟨h3,J⟩]at hp;have mT:∀k:Nat,k=m->AB.row 128 ((l.map hb).set k [i64 t.y0,i64 b.y1,ints (flat t.xs)])=AB.row 128 ((Reg.cA l b).map hb):=by
     intro k e;subst e;rw[hp];obtain⟨d,hd⟩:=adG.1 (tQ R I);subst hd;have hk:k=d.length:=by simp at R;omega
     subst hk;simp[hb]
    exact⟨mT _ (by rw[hi];rfl),Z,Y⟩
   have J:t.xs≠b.xs:=fun e=>J (by rw[e]);rw[aaa (fun h=>J h.2)]at hp;exact⟨⟨by simp,by simp;omega,by simp;omega⟩,D hp.symm,Z,Y⟩
  rw[aaa (fun h=>h3 h.1)]at hp;exact⟨⟨by simp,by simp;omega,by simp;omega⟩,D hp.symm,Z,Y⟩
 rw[lm]at W;have hl:l=[]:=adl (by omega);exact⟨⟨by simp,by simp;omega,by simp;omega⟩,D (by subst hl;rw[Reg.cA,aaa N];rfl),Z,Y⟩
theorem Ex:∀{s:aU} {k:Nat} {p:Int×Int},s[k]?=some p->(flat s)[2*k]?=some p.1/\(flat s)[2*k+1]?=some p.2:=by
 intro s
 induction s with
 | nil=>intro k p h;simp at h
 | cons q s ih=>
  intro k p h;cases k with
  | zero=>simp at h;subst h;exact⟨rfl,rfl⟩
  | succ k=>
   obtain⟨z,D⟩:=ih (k:=k) (p:=p) (by simpa using h);rw[show 2*(k+1)=(2*k+1)+1 by omega];exact⟨by simpa [flat] using z,by simpa [flat] using D⟩
theorem ae6(l:List an)(hN:l.length<=1000000000000)(N:∀t∈l,t.xs.length<=1000000000000)(hT:(Reg.told l).length<=4398046511104):af C 76 [.pv (.sl (l.map hb))] (.own 87 ((Reg.told l).map rc)) []:=by
 refine uX ⟨[],[2],[],[8],[],[]⟩ hC Tryz.func76 rfl (by kernel_rfl) fun _=>?_;have lm:=ai l hb;have O:∀i,(Reg.told (l.take i)).length<=(Reg.told l).length:=fun i=>by
  have e:Reg.told l=Reg.told (l.take i)++Reg.told (l.drop i):=by
   unfold Reg.told;rw[<-acp,aaU]
  rw[e,acv];omega
 refine aJ (fun i:Nat=>i<=l.length) (fun i=>[(7,.p (.sl (l.map hb))),(8,.p (i64 (l.map hb).length)),(3,.ow 3),(9,.p (i64 i))]) (fun i=>[(3,.row 87 ((Reg.told (l.take i)).map rc))]) (fun i=>l.length-i) 0 _ (au.dk hC _ 3 87 _ (by decide) rfl rfl (by decide)) (aaj _) ⟨Z,Z,Z,Z,Y⟩ ⟨Z,Y⟩ fun i hi t h=>?_;apply iW<;>intro D
 ·rw[lm]at D;obtain⟨b,z⟩:=ak (l:=l) (i:=i) (by omega);have bm:=ai (flat b.xs) fun n=>[i64 n];have I:=eY b.xs;have hb':=N b (aad z);have R:=O (i+1);rw[jM z,acv,aej]at R;refine⟨(hb b),(idx rfl z),?_⟩;refine p7 (fun _:Unit=>True) (fun _=>[(7,.p (.sl (l.map hb))),(8,.p (i64 (l.map hb).length)),(3,.ow 3),(9,.p (i64 i))]) (fun _=>[(3,.row 87 ((Reg.told (l.take (i+1))).map rc))]) (fun _ _ t h=>?_) ?_
  ·exact⟨wO (by omega),(i+1),_,au.refl _ _,by omega,by omega,⟨Z,Z,Z,Z,Y⟩,⟨Z,Y⟩⟩
  refine aJ (fun k:Nat=>k<=b.xs.length) (fun k=>[(7,.p (.sl (l.map hb))),(8,.p (i64 (l.map hb).length)),(3,.ow 3),(9,.p (i64 i)),(5,.bx 5 0),(6,.p (i64 ((2*k:Nat):Int)))]) (fun k=>[(3,.row 87 ((Reg.told (l.take i)++ig b k).map rc)),(5,.box [.p (i64 b.y0),.p (i64 b.y1),.p (ints (flat b.xs))])]) (fun k=>b.xs.length-k) 0 _ (au.refl _ _) (aaj _) ⟨Z,Z,Z,Z,Z,Z,Y⟩ ⟨by rw[ig];simp;rfl,Z,Y⟩ fun k hk t h=>?_;have Ov:(ig b k).length<=k:=by simp[ig];omega
  apply iW<;>intro J
  ·rw[bm,I]at J;obtain⟨p,hp⟩:=ak (l:=b.xs) (i:=k) (by omega);obtain⟨U,V⟩:=Ex hp;refine⟨[i64 p.1],(idx rfl U),wO (by omega),[i64 p.2],(idx (by omega) V),⟨xL rfl,by simp;omega,by simp;omega⟩,wO (by omega),(k+1),_,au.refl _ _,by omega,by omega,⟨rfl,rfl,rfl,rfl,rfl,a8 (by omega),trivial⟩,⟨?_,Z,Y⟩⟩;have W:ig b (k+1)=ig b k++[⟨p.1,b.y0,p.2,b.y1⟩]:=by simp[ig,aZ hp]
   have e:(Reg.told (l.take i)++ig b k).map rc++[rc ⟨p.1,b.y0,p.2,b.y1⟩]=(Reg.told (l.take i)++ig b (k+1)).map rc:=by
    rw[W,<-abx,abE (l₂:=[_])];rfl
   exact adV (AB.row 87) e
  rw[bm,I]at J;refine⟨(),trivial,⟨Z,Z,Z,Z,Y⟩,⟨?_,trivial⟩⟩;rw[jM z];have:ig b k=b.xs.map fun p=>⟨p.1,b.y0,p.2,b.y1⟩:=by rw[ig,adW (by omega)]
  rw[<-this];rfl
 rw[lm]at D;rw[adW (by omega)];exact⟨Z,Z,Y⟩
theorem Ey(l:List an)(D:l.length<=1000000)(z:∀t∈l,t.xs.length<=1000000):af C 76 [.pv (.sl (l.map hb))] (.own 87 ((Reg.told l).map rc)) []:=
 ae6 l (by omega) (fun t I=>by have:=z t I;omega) (by
  have h1:=nq l z;have h3:l.length*1000000<=1000000*1000000:=abf _ D;omega)
end M
end Go.Proofs.YtfloceomobknoaaGreatDoor
namespace Go.AM
open Go.RowKit
theorem C0{α:Type}{k:Nat}:∀{L:List (List α)} {a:Nat} {r:List α} {j:Nat} {v:α},(∀r∈L,r.length=k)->L[a]?=some r->r[j]?=some v->L.flatten[a*k+j]?=some v:=by
 intro L
 induction L with
 | nil=>intro a r j v _ h;simp at h
 | cons x L ih=>
  intro a r j v hk z D;have hx:=hk x (by simp);cases a with
  | zero=>
   simp at z;subst z;rw[adH,Nat.zero_mul,abC,aaE (aD D)];exact D
  | succ a=>
   rw[adH,aa3,acu (by omega)];have:=ih (a:=a) (r:=r) (j:=j) (v:=v) (fun r I=>hk r (by simp[I])) (by simpa using z) D;rw[<-this];congr 1;omega
theorem gL{α:Type}{k:Nat}:∀{L:List (List α)},(∀r∈L,r.length=k)->L.flatten.length=L.length*k:=by
 intro L
 induction L with
 | nil=>intro _;simp
 | cons x L ih=>
  intro hk;rw[adH,acv,ih fun r z=>hk r (by simp[z]),hk x (by simp),aaB,aa3];omega
def aX(L:List (List Value)):List (List PV):=L.map fun r=>r.map PV.im
variable {w:World} {L:List (List Value)}
theorem Bt{P:Program}{S:Nat->Prop}{k:Nat}(hk:∀r∈L,r.length=k){xs:List Value}(hl:xs.length=L.length*k)(h:∀(a:Nat) r (j:Nat) x,(aX L)[a]?=some r->r[j]?=some x->∃u,xs[a*k+j]?=some u/\aO S w x u):xs=L.flatten:=by
 have hfl:=gL hk;apply ach;intro q;by_cases z:q<L.length*k
 ·have D:0<k:=Nat.pos_of_ne_zero fun e=>by rw[e]at z;simp at z
  have I:q / k<L.length:=(Nat.div_lt_iff_lt_mul D).2 z;have hj:q % k<k:=abt _ D;have J:L[q / k]?=some L[q / k]:=acg I;have xj:=hk _ (adn I);have N:L[q / k][q % k]?=some (L[q / k][q % k]'(by omega)):=acg _;have e:q / k*k+q % k=q:=by rw[Nat.mul_comm];exact Nat.div_add_mod q k
  obtain⟨u,O,U⟩:=h (q / k) _ (q % k) _ (by unfold aX;rw[aak,J];rfl) (by rw[aak,N];rfl);rw[e]at O;have R:=C0 hk J N;rw[e]at R;rw[O,R,U.bS]
 rw[abI (by omega),abI (by omega)]
theorem Bu{S:Nat->Prop}{k:Nat}(hk:∀r∈L,r.length=k):∀(a:Nat) r (j:Nat) x,(aX L)[a]?=some r->r[j]?=some x->∃u,L.flatten[a*k+j]?=some u/\aO S w x u:=by
 intro a r j x z D;unfold aX at z;rw[aak]at z;obtain⟨r0,I,rfl⟩:=acq.1 z;rw[aak]at D;obtain⟨v,J,rfl⟩:=acq.1 D;exact⟨v,C0 hk I J,.im v⟩
theorem IJ{k:Nat}(hk:∀r∈L,r.length=k):∀r∈aX L,r.length=k:=by
 intro r z;obtain⟨D,h,rfl⟩:=adS.1 z;rw[aej,hk D h]
def rI(w:World)(g n:Nat)(F:Array Value)(os:Array Obj):World:=Sort.grow (Sort.putRow id (Sort.ahead w n) g 0 F) os
theorem yQ(w:World)(g n:Nat)(F:Array Value)(os:Array Obj):(rI w g n F os).os=w.os/\(rI w g n F os).tape=w.tape/\(rI w g n F os).output=w.output/\w.heap.size<=(rI w g n F os).heap.size/\∀k,k<w.heap.size->(rI w g n F os).heap[k]?=if k=g then (w.heap[k]?).map (Sort.onCells (Sort.putCells id 0 F)) else w.heap[k]?:=by
 refine⟨rfl,rfl,rfl,?_,fun k hk=>?_⟩
 ·simp[rI,Sort.grow,Sort.putRow,Sort.mapBlock,Sort.ahead]
 simp only[rI,Sort.grow,Sort.putRow,Sort.mapBlock,Sort.ahead];rw[acN (by simpa using hk),aac];by_cases e:g=k
 ·rw[aap e,aap e.symm]
 rw[aaa e,aaa fun h=>e h.symm]
theorem tY(F z:Array Value)(h:F.size<=z.size):(Sort.putCells id 0 F z).size=z.size/\(Sort.putCells id 0 F z).toList.take F.size=F.toList:=by
 refine⟨by simp[Sort.putCells],?_⟩;apply ach;intro j;rw[aa7];split
 ·rename_i D;rw[aek,aek];simp only[Sort.putCells,Array.getElem?_mapIdx];rw[aa1 (by omega:j<z.size),aa1 D,ab6,aap ⟨aaj _,by omega⟩,Nat.sub_zero,getElem!_pos F j D];rfl
 rename_i D;rw[abI (by simpa using D)]
theorem Kp{w':World}{e:TypeId}{es J:List (List PV)}{z:Value}{zs:List Value}(N:w.heap.size<=w'.heap.size)(h:∀g,cC z=some g->g<w.heap.size/\Mv w (.row e es::zs.map fun a=>.pv (.im a)) (#[z]++zs.toArray) g):ta w w' (.row e es::zs.map fun a=>.pv (.im a)) [.row J] (#[z]++zs.toArray):=by
 have I:∀i g,du w' (.row e es::zs.map fun a=>.pv (.im a)) [.row J] (#[z]++zs.toArray).toList i g->i=0/\cC z=some g:=fun i g D=>by
  simp only[abX]at D;cases i with
  | zero=>exact⟨rfl,aI rfl D.2⟩
  | succ i=>exact (tM zs i g D).elim
 exact⟨fun i g D=>by obtain⟨O,R⟩:=h g (I i g D).2;exact⟨aaW O N,.inr R⟩,fun i j g hi U=>by rw[(I i g hi).1,(I j g U).1]⟩
theorem yR{C:Ctx}(hC:bI C){f:FuncId}(e:TypeId)(W:TI)(hT:C.T e=some W)(Im:0<W.size)(zs:List Value)(L L':List (List Value))(hL:∀r∈L,r.length=W.size)(Z:∀r∈L',r.length=W.size)(hlen:L'.length=L.length)
  (h1:∀r∈L',∀v∈r,v.oneCell'=true) (hf:xI C f)
  (Y:L=[]->∀w,Calls C.P f (#[.slice none 0 0]++zs.toArray) w fun e' w'=>e'=.returned (.tuple #[])/\w'=w)
  (h:∀S w cC I,C.E S w->cC<w.heap.size->L.length<=I->(∀j v,L.flatten[j]?=some v->w.cell? ⟨cC,j,none⟩=some v/\w.frozen? ⟨cC,j,none⟩=false)->
   Calls C.P f (#[.slice (some ⟨cC,0,none⟩) L.length I]++zs.toArray) w fun e' w'=>e'=.returned (.tuple #[])/\∃n os,w'=rI w cC n L'.flatten.toArray os):
  af C f (.row e (aX L)::zs.map fun a=>.pv (.im a)) (.tu []) [.row (aX L')]:=by
 refine⟨hf,fun S w vs hE hS hl hr _=>?_⟩;obtain⟨D,vr,rfl⟩:∃D vr,vs=#[D]++vr:=by
  obtain⟨l⟩:=vs;cases l with
  | nil=>simp at hl
  | cons D l=>exact⟨D,⟨l⟩,by simp⟩
 have XT:vr=zs.toArray:=xJ (S:=S) (w:=w) (P:=C.P) (by simp at hl ⊢;omega) fun j x v hx hv=>hr (j+1) x v (by simpa using hx) (by rw[aen (by simp)];simpa using hv);subst XT;have az:aG C.P w (aO S w) e (aX L) D/\∀g,cC D=some g->¬S g:=hr 0 _ D rfl (by simp);obtain⟨⟨i,xs,hi,N,hown,hkr,jg,O⟩,Wk⟩:=az;obtain⟨info,z,g1,U,_⟩:=hC.iq e W hT;rw[hi]at g1;injection g1 with g1;subst g1;have R:(aX L).length=L.length:=aej ..;have C1:(aX L').length=L.length:=by rw[<-hlen];exact aej ..
 have hx:xs=L.flatten:=Bt (P:=C.P) (k:=i.size) (by rw[U];exact hL) (by rw[<-R];exact hown.1) O;have UU:∀g,cC D=some g->Mv w (.row e (aX L)::zs.map fun a=>.pv (.im a)) (#[D]++zs.toArray) g:=fun g hg=>⟨0,_,D,rfl,by simp,rfl,.inl hg⟩;have tail:∀w':World,oH S w' C.P (.row e (aX L)) (.row (aX L')) D->eL S w' C.P (.row e (aX L)::zs.map fun a=>.pv (.im a)) [.row (aX L')] (#[D]++zs.toArray).toList:=fun w' Iq=>by
  simp only[abX];exact⟨Iq,CS zs⟩
 have UW:∀w':World,w.heap.size<=w'.heap.size->ta w w' (.row e (aX L)::zs.map fun a=>.pv (.im a)) [.row (aX L')] (#[D]++zs.toArray):=fun w' hs=>Kp hs (fun g hg=>⟨(hown.lt g (by rw[cI (cr hown).choose_spec.choose_spec];exact hg)).2,UU g hg⟩);rcases hown.2 with⟨q1,q2⟩ | ⟨g,I,J,q1,q2,q3,q4,q5,q6,q7⟩
 ·have Gz:L=[]:=adl (by rw[<-R];exact q2);subst q1;refine (Y Gz w).mono fun e' w' ⟨he,hw⟩=>?_;subst hw;refine⟨.tuple #[],S,he,Fr.refl _ _,fun _ h=>h,hS,fun b hb=>.inl hb,⟨#[],rfl,rfl,by simp⟩,tail _ ⟨?_,Wk⟩,UW _ (aam _),fun g h=>by cases h⟩;have Sx:L'=[]:=adl (by rw[hlen,Gz];rfl);subst Sx;exact⟨i,[],hi,N,aem _ _ _ _,by simp[aX],by simp,by simp[aX]⟩
 subst q1;have Kq:g<w.heap.size:=(ab9.1 q3).1;have XU:L'.flatten.toArray.size=L.length*i.size:=by rw[aaf,gL Z,hlen,U]
 have pN:L.length*i.size<=J.size:=by rw[q6];exact abf _ (by rw[<-R];exact q4)
 have hh:=h S w g I hE Kq (by rw[<-R];exact q4) fun j v V=>by
  have sw:j<L.length*i.size:=by have:=aD V;rw[gL hL]at this;rw[U];exact this
  have:J[j]?=some v:=by
   rw[<-hx,<-q7]at V;rw[aa7]at V;split at V
   ·simpa using V
   cases V
  exact⟨by rw[cell_of_row w g j J e (0,0) q3];exact this,by simp[World.frozen?,q3]⟩
 rw[<-R]at hh;refine hh.mono fun e' w' ⟨he,n,os,hw⟩=>?_;subst hw;obtain⟨p1,p2,p3,p4,p5⟩:=yQ w g n L'.flatten.toArray os;obtain⟨c1,c2⟩:=tY L'.flatten.toArray J (by omega);have nS:(rI w g n L'.flatten.toArray os).heap[g]?=some (.cells (Sort.putCells id 0 L'.flatten.toArray J) e (0,0)):=by rw[p5 g Kq,aap rfl,q3];rfl
 refine⟨.tuple #[],S,he,⟨p1,p2,p3,p4,fun k hk hn=>?_⟩,fun _ h=>h,fun b hb=>aaW (hS b hb) p4,fun b hb=>.inl hb,⟨#[],rfl,rfl,by simp⟩,tail _ ⟨?_,Wk⟩,UW _ p4,fun g h=>by cases h⟩
 ·rw[p5 k hk,aaa];intro e;subst e;exact hn (UU k rfl)
 refine⟨i,L'.flatten,hi,N,⟨by rw[C1,<-hlen,U];exact gL Z,.inr ⟨g,I,_,by rw[C1,R],aaj _,nS,by rw[C1,<-R];exact q4,q5,by rw[c1];exact q6,?_⟩⟩,by rw[U];exact IJ Z,fun u hu=>?_,Bu (by rw[U];exact Z)⟩
 ·rw[C1,<-XU];exact c2
 obtain⟨r,RO,iO⟩:=List.mem_flatten.1 hu;exact h1 r RO u iO
theorem G7{C:Ctx}(hC:bI C){f:FuncId}(e:TypeId)(Y:TI)(hT:C.T e=some Y)(Im:0<Y.size)(zs:List Value)(L L':List (List Value))(m:Nat)(hm:m<=L.length)(hL:∀r∈L,r.length=Y.size)(Pq:∀r∈L',r.length=Y.size)(hlen:L'.length=L.length)
  (h1:∀r∈L',∀v∈r,v.oneCell'=true) (hf:xI C f)
  (Z:L=[]->∀w,Calls C.P f (#[.slice none 0 0]++zs.toArray) w fun e' w'=>e'=.returned (.slice none 0 0)/\w'=w)
  (h:∀S w cC D,C.E S w->cC<w.heap.size->L.length<=D->(∀j v,L.flatten[j]?=some v->w.cell? ⟨cC,j,none⟩=some v/\w.frozen? ⟨cC,j,none⟩=false)->
   Calls C.P f (#[.slice (some ⟨cC,0,none⟩) L.length D]++zs.toArray) w fun e' w'=>e'=.returned (.slice (some ⟨cC,0,none⟩) m D)/\∃n os,w'=rI w cC n L'.flatten.toArray os):
  af C f (.row e (aX L)::zs.map fun a=>.pv (.im a)) (.own e (aX (L'.take m))) [.gone]:=by
 refine⟨hf,fun S w vs hE hS hl hr _=>?_⟩;obtain⟨I,vr,rfl⟩:∃I vr,vs=#[I]++vr:=by
  obtain⟨l⟩:=vs;cases l with
  | nil=>simp at hl
  | cons I l=>exact⟨I,⟨l⟩,by simp⟩
 have XT:vr=zs.toArray:=xJ (S:=S) (w:=w) (P:=C.P) (by simp at hl ⊢;omega) fun j x v hx hv=>hr (j+1) x v (by simpa using hx) (by rw[aen (by simp)];simpa using hv);subst XT;have az:aG C.P w (aO S w) e (aX L) I/\∀g,cC I=some g->¬S g:=hr 0 _ I rfl (by simp);obtain⟨⟨i,xs,hi,N,hown,hkr,jg,U⟩,Wk⟩:=az;obtain⟨info,z,g1,V,_⟩:=hC.iq e Y hT;rw[hi]at g1;injection g1 with g1;subst g1;have O:(aX L).length=L.length:=aej ..;have C1:(aX L').length=L.length:=by rw[<-hlen];exact aej ..
 have hx:xs=L.flatten:=Bt (P:=C.P) (k:=i.size) (by rw[V];exact hL) (by rw[<-O];exact hown.1) U;have UU:∀g,cC I=some g->Mv w (.row e (aX L)::zs.map fun a=>.pv (.im a)) (#[I]++zs.toArray) g:=fun g hg=>⟨0,_,I,rfl,by simp,rfl,.inl hg⟩;have tail:∀w':World,eL S w' C.P (.row e (aX L)::zs.map fun a=>.pv (.im a)) [.gone] (#[I]++zs.toArray).toList:=fun w'=>by
  simp only[abX];exact⟨trivial,CS zs⟩
 have MT:∀(w':World) (i g:Nat),¬du w' (.row e (aX L)::zs.map fun a=>.pv (.im a)) [.gone] (#[I]++zs.toArray).toList i g:=fun w' i g hk=>by
  simp only[abX]at hk;cases i with
  | zero=>cases hk.1
  | succ i=>exact tM zs i g hk
 have UW:∀w':World,ta w w' (.row e (aX L)::zs.map fun a=>.pv (.im a)) [.gone] (#[I]++zs.toArray):=fun w'=>⟨fun i g h=>(MT w' i g h).elim,fun i j g h=>(MT w' i g h).elim⟩;have UX:aX (L'.take m)=(aX L').take m:=by unfold aX;rw[acb]
 rcases hown.2 with⟨q1,q2⟩ | ⟨g,D,J,q1,q2,q3,q4,q5,q6,q7⟩
 ·have Gz:L=[]:=adl (by rw[<-O];exact q2);subst q1;refine (Z Gz w).mono fun e' w' ⟨he,hw⟩=>?_;subst hw;have Sx:L'=[]:=adl (by rw[hlen,Gz];rfl);subst Sx;refine⟨.slice none 0 0,S,he,Fr.refl _ _,fun _ h=>h,hS,fun b hb=>.inl hb,⟨?_,fun g hg=>by cases hg⟩,tail _,UW _,fun g _ hg=>by cases aI rfl hg⟩;rw[List.take_nil];exact⟨i,[],hi,N,aem _ _ _ _,by simp[aX],by simp,by simp[aX]⟩
 subst q1;have Kq:g<w.heap.size:=(ab9.1 q3).1;have XU:L'.flatten.toArray.size=L.length*i.size:=by rw[aaf,gL Pq,hlen,V]
 have pN:L.length*i.size<=J.size:=by rw[q6];exact abf _ (by rw[<-O];exact q4)
 have hh:=h S w g D hE Kq (by rw[<-O];exact q4) fun j v W=>by
  have sw:j<L.length*i.size:=by have:=aD W;rw[gL hL]at this;rw[V];exact this
  have:J[j]?=some v:=by
   rw[<-hx,<-q7]at W;rw[aa7]at W;split at W
   ·simpa using W
   cases W
  exact⟨by rw[cell_of_row w g j J e (0,0) q3];exact this,by simp[World.frozen?,q3]⟩
 rw[<-O]at hh;refine hh.mono fun e' w' ⟨he,n,os,hw⟩=>?_;subst hw;obtain⟨p1,p2,p3,p4,p5⟩:=yQ w g n L'.flatten.toArray os;obtain⟨c1,c2⟩:=tY L'.flatten.toArray J (by omega);have R:(rI w g n L'.flatten.toArray os).heap[g]?=some (.cells (Sort.putCells id 0 L'.flatten.toArray J) e (0,0)):=by rw[p5 g Kq,aap rfl,q3];rfl
 have UY:aG C.P (rI w g n L'.flatten.toArray os) (aO S (rI w g n L'.flatten.toArray os)) e (aX L') (.slice (some ⟨g,0,none⟩) (aX L).length D):=by
  refine⟨i,L'.flatten,hi,N,⟨by rw[C1,<-hlen,V];exact gL Pq,.inr ⟨g,D,_,by rw[C1,O],aaj _,R,by rw[C1,<-O];exact q4,q5,by rw[c1];exact q6,?_⟩⟩,by rw[V];exact IJ Pq,fun u hu=>?_,Bu (by rw[V];exact Pq)⟩
  ·rw[C1,<-XU];exact c2
  obtain⟨r,RO,iO⟩:=List.mem_flatten.1 hu;exact h1 r RO u iO
 refine⟨_,S,he,⟨p1,p2,p3,p4,fun k hk hn=>?_⟩,fun _ h=>h,fun b hb=>aaW (hS b hb) p4,fun b hb=>.inl hb,⟨?_,fun g' R=>Wk g' R⟩,tail _,UW _,fun g' _ R=>⟨?_,.inr (UU g' (aI rfl R)),fun i=>MT _ i g'⟩⟩
 ·rw[p5 k hk,aaa];intro e;subst e;exact hn (UU k rfl)
 ·rw[UX];exact aG.front UY rfl (by rw[O];exact hm) rfl
 have R:=aI rfl R;have:g=g':=by injection R
 rw[<-this];exact aaW Kq p4
end Go.AM
namespace Go.AM
open Go.RowKit Go.ChangeShapes
section
variable {H:Type} {enc:TypeId×Value->H} {P:Program} {w:World} {S:Nat->Prop}
def IK(enc:TypeId×Value->H)(P:Program)(w:World)(S:Nat->Prop)(t:TypeId)(k:Nat)(Q:List PV->DataW H->Prop):Prop:=
 ∀n cs x,DataW.trod enc P w 0 (fun _=>true) true n t cs=some x->∃xs,xs.length=k/\cs.length=k/\(∀(i:Nat) c v,xs[i]?=some c->cs[i]?=some v->aO S w c v/\v.oneCell'=true)/\Q xs x.1
theorem one_cell{c:PV}{u:Value}(h:aO S w c u/\u.oneCell'=true):∀(i:Nat) I v,[c][i]?=some I->[u][i]?=some v->aO S w I v/\v.oneCell'=true:=fun i I v z D=>by
 match i,z,D with
 | 0,z,D=>cases z;cases D;exact h
 | n+1,z,D=>cases z
theorem Pr{t:TypeId}(D:P.underlying t=some (.int .i64)):IK enc P w S t 1 fun xs d=>∃n:Int,xs=[.im (.int .i64 n)]/\d=.lit (.int .i64 n):=fun n cs x h=>by
 obtain⟨z,rfl,rfl,_⟩:=DataW.trod_int D h;exact⟨[.im (.int .i64 z)],rfl,rfl,one_cell ⟨.im _,rfl⟩,z,rfl,rfl⟩
theorem Pt{t:TypeId}(z:P.underlying t=some .string):IK enc P w S t 1 fun xs d=>∃s:ByteArray,xs=[.im (.string s)]/\d=.lit (.string s.data.toList):=fun n cs x h=>by
 obtain⟨s,rfl,rfl,_⟩:=DataW.trod_string z h;exact⟨[.im (.string s)],rfl,rfl,one_cell ⟨.im _,rfl⟩,s,rfl,rfl⟩
theorem Pu{a:Addr}{v:Value}(h:w.cell? a=some v):a.spot=none/\a.block<w.heap.size:=by
 unfold World.cell? at h;split at h
 ·rename_i c _ _ z;refine⟨?_,?_⟩
  ·cases D:a.spot with
   | none=>rfl
   | some s=>rw[D]at h;cases h
  rcases abm a.block w.heap.size with h' | h'
  ·exact h'
  rw[ace h']at z;cases z
 cases h
variable {Q:List PV->DataW H->Prop}
theorem Kr{t e:TypeId}{k:Nat}(ht:P.underlying t=some (.slice e))(hc:P.cellsOf e=k)(hk:0<k)(hS:∀b,b<w.heap.size->S b)(he:IK enc P w S e k Q):
  IK enc P w S t 1 fun xs d=>∃(es:List (List PV)) (ds sp:List (DataW H)),xs=[.sl es]/\es.length=ds.length/\(d=.nil/\ds=[]\/d=.slice ds sp)/\∀(i:Nat) x y,es[i]?=some x->ds[i]?=some y->Q x y:=fun n cs x h=>by
 rcases Go.Deep.open_slice ht h with⟨rfl,rfl⟩ | ⟨a,len,Z,m,n,D,Pl,rfl,hb,hl,hm,DW,rfl,hx⟩
 ·exact⟨[.sl []],rfl,rfl,one_cell ⟨.nil _ _,rfl⟩,[],[],[],rfl,rfl,.inl ⟨rfl,rfl⟩,fun i x y h=>by cases h⟩
 have Wa:len<=m:=by rw[DW];split<;>omega
 rcases adI len with h0 | W
 ·subst h0;exact⟨[.sl []],rfl,rfl,one_cell ⟨.nil _ _,rfl⟩,[],[],_,rfl,rfl,.inr rfl,fun i x y h=>by cases h⟩
 rw[hc]at hx;have Y:∀i,i<len->∃p:List PV×List Value,p.1.length=k/\p.2.length=k/\(∀j,j<k->w.cell? ((a.add (i*k)).add j)=p.2[j]?)/\(∀(j:Nat) c v,p.1[j]?=some c->p.2[j]?=some v->aO S w c v/\v.oneCell'=true)/\Q p.1 (D i):=fun i hi=>by
  obtain⟨mZ,J,z⟩:=hx i (by omega);obtain⟨_,hlen,R⟩:=World.cells?_some J;obtain⟨xs,l1,l2,l3,l4⟩:=he _ _ _ z;exact⟨(xs,mZ),l1,l2,R,l3,l4⟩
 obtain⟨F,N⟩:=Go.Deep.choose_lt (α:=List PV×List Value) Y;have U:∀(i:Nat) e,((List.range len).map fun i=>(F i).1)[i]?=some e->i<len/\e=(F i).1:=fun i e h=>by
  rw[aak,acq]at h;obtain⟨j,O,rfl⟩:=h;obtain⟨J,z⟩:=aao.1 O;rw[List.getElem_range]at z;subst z;exact⟨by simpa using J,rfl⟩
 have I:∀i j,i<len->j<k->w.cell? ((a.add (i*k)).add j)=some (((F i).2[j]?).getD .nilIface):=fun i j hi O=>by
  obtain⟨_,l2,h3,_⟩:=N i hi;rw[h3 j O,acg (by omega)];rfl
 have hz:=Pu (I 0 0 W hk);obtain⟨b,V,spot⟩:=a;have Jv:spot=none:=by simpa [Addr.add] using hz.1
 subst Jv;have XV:b<w.heap.size:=by simpa [Addr.add] using hz.2
 have az:∀i j,((⟨b,V,none⟩:Addr).add (i*k)).add j=⟨b,V+i*k+j,none⟩:=fun i j=>by
  unfold Addr.add;by_cases J:i*k=0
  ·rw[aap J,J];by_cases z:j=0
   ·rw[aap z,z];rfl
   rw[aaa z];rfl
  rw[aaa J];by_cases z:j=0
  ·rw[aap z,z];rfl
  rw[aaa z]
 refine⟨[.sl ((List.range len).map fun i=>(F i).1)],rfl,rfl,one_cell ⟨?_,rfl⟩,(List.range len).map fun i=>(F i).1,(List.range len).map D,_,rfl,by simp,.inr rfl,fun i x y J z=>?_⟩
 ·have hlen:((List.range len).map fun i=>(F i).1).length=len:=by simp
  have:=aO.sl (S:=S) (w:=w) ((List.range len).map fun i=>(F i).1) k b V Z (fun i j=>((F i).2[j]?).getD .nilIface) (by rw[hlen];exact hl) (hS b XV)
   (fun e GQ=>by obtain⟨i,hi,rfl⟩:=adS.1 GQ;exact (N i (abD.1 hi)).1)
   (fun i e j x J z=>by
    obtain⟨hi,rfl⟩:=U i e J;have O:j<k:=by rw[<-(N i hi).1];exact (aao.1 z).1
    have hv:(F i).2[j]?=some (((F i).2[j]?).getD .nilIface):=by rw[acg (by rw[(N i hi).2.1];exact O)];rfl
    exact⟨by rw[<-az];exact I i j hi O,((N i hi).2.2.2.1 j x _ z hv).2⟩)
   (fun i e j x J z=>by
    obtain⟨hi,rfl⟩:=U i e J;have O:j<k:=by rw[<-(N i hi).1];exact (aao.1 z).1
    have hv:(F i).2[j]?=some (((F i).2[j]?).getD .nilIface):=by rw[acg (by rw[(N i hi).2.1];exact O)];rfl
    exact ((N i hi).2.2.2.1 j x _ z hv).1)
  rw[hlen]at this;exact this
 obtain⟨hi,rfl⟩:=U i x J;rw[aak,abP hi]at z;cases z;exact (N i hi).2.2.2.2
instance:Inhabited PV:=⟨.sl []⟩
theorem jP{t:TypeId}{z:Array Field}(W:P.underlying t=some (.struct z))(Y:∀(i:Nat) (f:Field),z[i]?=some f->f.offset=i/\P.cellsOf f.type=1)(Z:P.cellsOf t=z.size)(Qs:Nat->List PV->DataW H->Prop)
  (hf:∀(i:Nat) (f:Field),z[i]?=some f->IK enc P w S f.type 1 (Qs i)):
  IK enc P w S t z.size fun xs d=>∃ds:List (DataW H),d=.agg ds/\ds.length=z.size/\∀(i:Nat) x y,xs[i]?=some x->ds[i]?=some y->Qs i [x] y:=fun n cs x h=>by
 obtain⟨ys,m,_,rfl,hl,hlen,hy⟩:=DataW.trod_struct W h;rw[Z]at hl;have I:∀i,i<z.size->∃c:PV,∃y v,ys[i]?=some y/\cs[i]?=some v/\aO S w c v/\v.oneCell'=true/\Qs i [c] y.1:=fun i hi=>by
  have N:z[i]?=some z[i]:=aa1 hi;obtain⟨ho,D⟩:=Y i _ N;have O:=hy i _ N;rw[ho,D]at O;have U:ys[i]?=some ys[i]:=acg (by omega);rw[U]at O;obtain⟨xs,l1,l2,R,l4⟩:=hf i _ N _ _ _ O;have pN:cs[i]?=some cs[i]:=acg (by omega);have hd:(cs.drop i).take 1=[cs[i]]:=by
   rw[ab1 (by omega)];rfl
  rw[hd]at R;obtain⟨c,rfl⟩:∃c,xs=[c]:=by
   match xs,l1 with
   | [c],_=>exact⟨c,rfl⟩
  exact⟨c,ys[i],cs[i],U,pN,(R 0 _ _ rfl rfl).1,(R 0 _ _ rfl rfl).2,l4⟩
 obtain⟨F,V⟩:=Go.Deep.choose_lt (α:=PV) I;refine⟨(List.range z.size).map F,by simp,hl,fun i c v D J=>?_,ys.map (·.1),rfl,by rw[aej,hlen],fun i x y D J=>?_⟩
 ·have hi:i<z.size:=by have:=(aao.1 D).1;simpa using this
  rw[aak,abP hi]at D;cases D;obtain⟨y,v',_,e2,e3,e4,_⟩:=V i hi;rw[J]at e2;cases e2;exact⟨e3,e4⟩
 have hi:i<z.size:=by have:=(aao.1 D).1;simpa using this
 rw[aak,abP hi]at D;cases D;obtain⟨y',v',e1,_,_,_,e5⟩:=V i hi;rw[aak,e1]at J;cases J;exact e5
theorem Pv{t:TypeId}{k:Nat}(I:IK enc P w S t k Q){vs:Array Value}{d:DataW H}{ps:List MemPlace}(h:DataW.Trod enc P w 0 (fun _=>true) true t (.agg vs) d ps):
  ∃xs,aO S w (.ag xs) (.agg vs)/\xs.length=k/\Q xs d:=by
 obtain⟨n,J⟩:=h;obtain⟨xs,l1,l2,D,N⟩:=I _ _ _ J;have l2:vs.toList.length=k:=l2;have z:∀(i:Nat) (v:Value),vs[i]?=some v->vs.toList[i]?=some v:=fun i v h=>by rw[aek];exact h
 refine⟨xs,.ag xs vs (by rw[l1,<-l2];simp) (fun u O=>?_) fun i c v R U=>(D i c v R (z i v U)).1,l1,N⟩;obtain⟨i,hi⟩:=ab8.1 O;have V:i<xs.length:=by have:=(aao.1 hi).1;omega
 exact (D i _ u (acg V) hi).2
theorem yS{t:TypeId}{z:Array Field}{k:Nat}{r:Reach}{D:Nat}(I:P.underlying t=some (.struct z))(J:IK enc P w S t k Q){v:Value}{d:DataW H}{ps:List MemPlace}(N:Value.okWide P w r D t v)(h:DataW.Trod enc P w 0 (fun _=>true) true t v d ps):
  ∃xs,aO S w (.ag xs) v/\Q xs d:=by
 obtain⟨cs,rfl,_⟩:=Go.WideShapes.okWide_struct I N;obtain⟨xs,O,_,R⟩:=Pv J h;exact⟨xs,O,R⟩
theorem agV{t e:TypeId}{r:Reach}{z:Nat}(D:P.underlying t=some (.slice e))(I:IK enc P w S t 1 Q){v:Value}{d:DataW H}{ps:List MemPlace}(J:Value.okWide P w r z t v)(h:DataW.Trod enc P w 0 (fun _=>true) true t v d ps):
  ∃c,aO S w c v/\Q [c] d:=by
 obtain⟨a,l,c,rfl⟩:=Go.WideShapes.okWide_slice D J;obtain⟨n,N⟩:=h;obtain⟨xs,l1,l2,O,R⟩:=I _ _ _ N;obtain⟨x,rfl⟩:∃x,xs=[x]:=by
  match xs,l1 with
  | [x],_=>exact⟨x,rfl⟩
 exact⟨x,(O 0 x _ rfl rfl).1,R⟩
theorem U0(w:World)(xs:List PV)(vs:Array Value)(g:Nat):¬Mv w (xs.map Arg.pv) vs g:=by
 rintro⟨j,y,v,z,_,D,_⟩;rw[aak,acq]at z;obtain⟨x,_,rfl⟩:=z;cases D
def Pw(S:Nat->Prop)(w:World)(xs:List PV)(vs:List Value):Prop:=xs.length=vs.length/\∀(j:Nat) x v,xs[j]?=some x->vs[j]?=some v->aO S w x v
theorem MU:Pw S w [] []:=⟨rfl,fun j x v h=>by cases h⟩
theorem Bv{x:PV}{v:Value}{xs:List PV}{vs:List Value}(h:aO S w x v)(I:Pw S w xs vs):Pw S w (x::xs) (v::vs):=⟨by rw[aaB,aaB,I.1],fun j J N z D=>by
 match j,z,D with
 | 0,z,D=>cases z;cases D;exact h
 | j+1,z,D=>exact I.2 j J N z D⟩
theorem Sy{C:Ctx}{f:FuncId}{xs:List PV}{y:Value}(h:af C f (xs.map Arg.pv) (.p (.im y)) []){vs:Array Value}(N:C.E (fun b=>b<w.heap.size) w)(J:Pw (fun b=>b<w.heap.size) w xs vs.toList):
  Calls C.P f vs w fun e w'=>e=.returned y/\Below w.heap.size w w':=by
 refine (h.2 (fun b=>b<w.heap.size) w vs N (fun _ h=>h) (by rw[aej,J.1];simp) (fun j x v z O=>?_) (fun i j x y v u g z _ _ _ R=>?_)).mono ?_
 ·rw[aak,acq]at z;obtain⟨x,U,rfl⟩:=z;exact J.2 j x v U (by rw[aek];exact O)
 ·rw[aak,acq]at z;obtain⟨x,_,rfl⟩:=z;cases R
 rintro e w' ⟨v,S',rfl,D,_,_,_,I,_⟩;have I:aO S' w' (.im y) v:=I;cases I;exact⟨rfl,D.os,D.tape,D.output,D.size,fun k hk=>D.block k hk (U0 _ _ _ _)⟩
end
end Go.AM
namespace Go.Proofs.YtfloceomobknoaaGreatDoor
namespace M
open Go.AM Go.RowKit Go.Lib Go.Sort
open Reg (ae aU an)
instance:Inhabited ae:=⟨⟨0,0,0,0⟩⟩
def cl(n:Int):Int:=max (-4611686018427387904) (min n 4611686018427387903)
theorem IL(n:Int):-4611686018427387904<=cl n/\cl n<=4611686018427387903:=by unfold cl;omega
theorem wI{n:Int}(h:-4611686018427387904<=n/\n<=4611686018427387903):cl n=n:=by unfold cl;omega
def Bd(r:ae):Prop:=(-4611686018427387904<=r.x0/\r.x0<=4611686018427387903)/\(-4611686018427387904<=r.y0/\r.y0<=4611686018427387903)/\(-4611686018427387904<=r.x1/\r.x1<=4611686018427387903)/\(-4611686018427387904<=r.y1/\r.y1<=4611686018427387903)
def ij(r:ae):List Value:=[.int .i64 (cl r.x0),.int .i64 (cl r.y0),.int .i64 (cl r.x1),.int .i64 (cl r.y1)]
theorem Px{r:ae}(h:Bd r):(ij r).map PV.im=rc r:=by
 obtain⟨z,D,I,J⟩:=h;simp only[ij,wI z,wI D,wI I,wI J];rfl
theorem wJ{l:List ae}(h:∀r∈l,Bd r):aX (l.map ij)=l.map rc:=by
 unfold aX;rw[abd];exact aaG fun r z=>Px (h r z)
theorem tZ{l:List ae}:∀r∈l.map ij,r.length=4:=by
 intro r z;obtain⟨x,_,rfl⟩:=adS.1 z;rfl
theorem Ez(d:Array ae):flatK ij 4 d=(d.toList.map ij).flatten.toArray:=by
 apply Array.ext_getElem?;intro q;have hlen:(d.toList.map ij).flatten.length=d.size*4:=by rw[gL (k:=4) tZ];simp
 by_cases I:q<d.size*4
 ·have z:q / 4<d.size:=by omega
  have J:q % 4<4:=abt _ (by omega);have e:q / 4*4+q % 4=q:=by omega
  have N:=get_flatK ij 4 d q I;have hsz:(flatK ij 4 d).size=d.size*4:=by simp
  rw[aa1 (by omega),<-getElem!_pos (flatK ij 4 d) q (by omega),N];have O:(d.toList.map ij)[q / 4]?=some (ij d[q / 4]!):=by
   rw[aak,aek,aa1 z,ab6,getElem!_pos d _ z]
  have R:(ij d[q / 4]!)[q % 4]?=some ((ij d[q / 4]!)[q % 4]!):=by
   have D:q % 4<(ij d[q / 4]!).length:=J;rw[acg D,getElem!_pos (ij d[q / 4]!) (q % 4) D]
  have:=C0 (k:=4) tZ O R;rw[e]at this;simpa using this.symm
 rw[ace (by simp;omega),ace (by simp only[aaf];omega)]
def MV(a b:ae):Int:=cl a.y0-cl b.y0
def G8(a b:ae):Int:=cl a.x0-cl b.x0
theorem Wl(a b:ae):ltOf MV a b=decide (cl a.y0<cl b.y0):=by unfold ltOf MV;congr 1;exact propext ⟨fun h=>by omega,fun h=>by omega⟩
theorem Wm(a b:ae):ltOf G8 a b=decide (cl a.x0<cl b.x0):=by unfold ltOf G8;congr 1;exact propext ⟨fun h=>by omega,fun h=>by omega⟩
theorem U1:SWO (ltOf MV) where
 irrefl x:=by rw[Wl];simp
 trans x y z h1 h2:=by rw[Wl]at *;simp at *;omega
 ntrans x y z h1 h2:=by rw[Wl]at *;simp at *;omega
theorem U2:SWO (ltOf G8) where
 irrefl x:=by rw[Wm];simp
 trans x y z h1 h2:=by rw[Wm]at *;simp at *;omega
 ntrans x y z h1 h2:=by rw[Wm]at *;simp at *;omega
theorem MW(x y:ae)(W:World):Calls Tryz.prog 83 #[.agg (ij x).toArray,.agg (ij y).toArray] W fun e w'=>e=.returned (.int .i64 (MV x y))/\∃q z,w'=grow (W.drewN q) z:=by
 have h1:=IL x.y0;have h2:=IL y.y0;unfold ij MV;generalize cl x.x0=a1 at *;generalize cl x.y0=a2 at *;generalize cl x.x1=a3 at *;generalize cl x.y1=a4 at *;generalize cl y.x0=b1 at *;generalize cl y.y0=b2 at *;generalize cl y.x1=b3 at *;generalize cl y.y1=b4 at *
 go_enter Tryz.func83,Tryz.ntmps83
 go_wp2
 go_ret
 exact⟨rfl,0,_,by rw[alloc_eq_grow,alloc_eq_grow,grow_grow];rfl⟩
theorem MX(x y:ae)(W:World):Calls Tryz.prog 163 #[.agg (ij x).toArray,.agg (ij y).toArray] W fun e w'=>e=.returned (.int .i64 (G8 x y))/\∃q z,w'=grow (W.drewN q) z:=by
 have h1:=IL x.x0;have h2:=IL y.x0;unfold ij G8;generalize cl x.x0=a1 at *;generalize cl x.y0=a2 at *;generalize cl x.x1=a3 at *;generalize cl x.y1=a4 at *;generalize cl y.x0=b1 at *;generalize cl y.y0=b2 at *;generalize cl y.x1=b3 at *;generalize cl y.y1=b4 at *
 go_enter Tryz.func163,Tryz.ntmps163
 go_wp2
 go_ret
 exact⟨rfl,0,_,by rw[alloc_eq_grow,alloc_eq_grow,grow_grow];rfl⟩
def fh(cf:ae->ae->Int)(l:List ae):List ae:=(pdq (ltOf cf) l.toArray 0 l.toArray.size (Lib.bitLen l.toArray.size) true true).toList
theorem o7(z:ae->ae->Int)(J:SWO (ltOf z))(l:List ae):(fh z l).Perm l/\(fh z l).Pairwise fun a b=>ltOf z b a=false:=by
 obtain⟨N,O⟩:=pdq_sorts (ltOf z) J l.toArray 0 l.toArray.size (Lib.bitLen l.toArray.size) true true (aaj _) (aam _) (Or.inl rfl);obtain⟨R,_,I⟩:=N;have hp:(fh z l).Perm l:=by
  have e1:∀d:Array ae,d.size=l.toArray.size->(d.extract 0 l.toArray.size).toList=d.toList:=fun d h=>by rw[<-h];simp
  rw[e1 _ R,e1 _ rfl]at I;unfold fh;simpa using I
 refine⟨hp,?_⟩;rw[abk];intro i j hi D U;have hs:(fh z l).length=l.toArray.size:=by rw[hp.length_eq];simp
 have:=O i j (aaj _) U (by omega);unfold fh at hi D ⊢;simp only[abj]at hi D;rw[getElem!_pos _ j D,getElem!_pos _ i hi]at this;simpa using this
theorem EA{l:List ae}(h:∀r∈l,Bd r):(fh MV l).Perm l/\(fh MV l).Pairwise fun a b=>a.y0<=b.y0:=by
 obtain⟨z,I⟩:=o7 MV U1 l;refine⟨z,I.imp_of_mem fun {a b} ha hb D=>?_⟩;rw[Wl,wI (h b (z.mem_iff.1 hb)).2.1,wI (h a (z.mem_iff.1 ha)).2.1]at D;simpa using D
theorem wK{l:List ae}(h:∀r∈l,Bd r):(fh G8 l).Perm l/\(fh G8 l).Pairwise fun a b=>a.x0<=b.x0:=by
 obtain⟨z,I⟩:=o7 G8 U2 l;refine⟨z,I.imp_of_mem fun {a b} ha hb D=>?_⟩;rw[Wm,wI (h b (z.mem_iff.1 hb)).1,wI (h a (z.mem_iff.1 ha)).1]at D;simpa using D
theorem EB(z:ae->ae->Int)(Y:SWO (ltOf z))(g:Nat)(eg:∀args w,(callFunc g args).run Tryz.prog w=.ok (.enter g args) w)
  (je:∀(x y:ae) (W:World),Calls Tryz.prog g #[.agg (ij x).toArray,.agg (ij y).toArray] W fun e w'=>e=.returned (.int .i64 (z x y))/\∃q U3,w'=grow (W.drewN q) U3)
  (l:List ae) (hl:∀r∈l,Bd r) (hN:l.length<4611686018427387904):af C 82 [.row 87 (l.map rc),.pv (.im (.func (.func g) #[] #[]))] (.tu []) [.row ((fh z l).map rc)]:=by
 obtain⟨hp,_⟩:=o7 z Y l;have IM:∀r∈fh z l,Bd r:=fun r O=>hl r (hp.mem_iff.1 O);have:=yR hC (f:=82) 87 _ rfl (by decide) [.func (.func g) #[] #[]] (l.map ij) ((fh z l).map ij) tZ tZ (by rw[aej,aej,hp.length_eq])
  (fun r O v D=>by
   obtain⟨x,_,rfl⟩:=adS.1 O;simp only[ij,adq,ab2,or_false]at D;rcases D with rfl | rfl | rfl | rfl<;>rfl)
  ⟨_,Tryz.func82,rfl,rfl⟩
  (fun _ w=>AnyF.slices_SortFunc_none Tryz.laysSortRect none 0 (.func (.func g) #[] #[]) w)
  (fun S w cC R hE J _ I=>by
   have hH:HoldsK ij 4 w cC 0 l.toArray:=by
    unfold HoldsK;intro j N;rw[Ez]at N ⊢;simp only[aaf]at N;have D:(l.map ij).flatten[j]?=some ((l.map ij).flatten[j]'N):=acg N;obtain⟨U,V⟩:=I j _ D;rw[abC];refine⟨?_,V⟩;rw[U];congr 1;rw[getElem!_pos _ j (by simpa using N)];simp
   have Z:=AnyQ.slices_SortFunc_eq Tryz.laysSortRect 4 (fun w=>(hC.iq 87 _ rfl).isAgg w) (fun w=>(hC.iq 87 _ rfl).sizeOf w) ij (fun _=>rfl) (fun x v D=>by
    simp only[ij,adq,ab2,or_false]at D;rcases D with rfl | rfl | rfl | rfl<;>rfl) z Y g #[] cC 0 R l.toArray w eg (fun _ _ _ _ x y=>je x y _) hH J (by simpa using hN)
   have e:l.toArray.size=(l.map ij).length:=by simp
   rw[e]at Z;refine Z.mono fun e' w' ⟨U,n,os,V⟩=>⟨U,n,os,?_⟩;rw[V];unfold sortWorldK putRowK rI;rw[Ez,<-e];rfl)
 rw[wJ hl,wJ IM]at this;exact this
theorem Sz(l:List ae)(hl:∀r∈l,Bd r)(z:l.length<4611686018427387904):af C 82 [.row 87 (l.map rc),.pv (.im (.func (.func 83) #[] #[]))] (.tu []) [.row ((fh MV l).map rc)]:=
 EB MV U1 _ (enters_of Tryz.func83 (by kernel_rfl) rfl) MW l hl z
theorem SA(l:List ae)(hl:∀r∈l,Bd r)(z:l.length<4611686018427387904):af C 82 [.row 87 (l.map rc),.pv (.im (.func (.func 163) #[] #[]))] (.tu []) [.row ((fh G8 l).map rc)]:=
 EB G8 U2 _ (enters_of Tryz.func163 (by kernel_rfl) rfl) MX l hl z
theorem C2(d:Array Int)(J:∀i j,i<=j->j<d.size->d[i]!<=d[j]!):∀m,m<=d.size->Reg.bF (compactUpTo d m)/\(∀x,x∈compactUpTo d m↔∃j,j<m/\d[j]! = x):=by
 intro m
 induction m with
 | zero=>intro _;exact⟨by simp[compactUpTo,Reg.bF],by simp[compactUpTo]⟩
 | succ m ih=>
  intro hm;obtain⟨N,D⟩:=ih (by omega);rw[compactUpTo_succ];cases hk:keeps d m with
  | true=>
   have I:m=0\/d[m]!≠d[m-1]!:=by simpa [keeps] using hk
   have O:∀x∈compactUpTo d m,x<d[m]!:=by
    intro x R;obtain⟨j,z,rfl⟩:=(D x).1 R;rcases I with h | h
    ·omega
    have a:=J j (m-1) (by omega) (by omega);have b:=J (m-1) m (by omega) (by omega);omega
   refine⟨?_,fun x=>?_⟩
   ·simp only[aap];exact ade.2 ⟨N,by simp,fun a U b hb=>by simp at hb;subst hb;exact O a U⟩
   simp only[aap,abi,ab_,D];constructor
   ·rintro (⟨j,z,rfl⟩ | rfl)
    ·exact⟨j,by omega,rfl⟩
    exact⟨m,by omega,rfl⟩
   rintro⟨j,z,rfl⟩;by_cases e:j=m
   ·exact .inr (by rw[e])
   exact .inl ⟨j,by omega,rfl⟩
  | false=>
   have I:m≠0/\d[m]! = d[m-1]!:=by simpa [keeps] using hk
   simp only[acO,aaa,acw,not_false_eq_true];refine⟨N,fun x=>?_⟩;rw[D];constructor
   ·rintro⟨j,z,rfl⟩;exact⟨j,by omega,rfl⟩
   rintro⟨j,z,rfl⟩;by_cases e:j=m
   ·exact⟨m-1,by omega,by rw[e];exact I.2.symm⟩
   exact⟨j,by omega,rfl⟩
theorem AE{zs:List Int}(I:zs.Pairwise (·<=·)):Reg.bF (compact zs)/\∀x,x∈compact zs↔x∈zs:=by
 have D:∀i (h:i<zs.length),zs.toArray[i]! = zs[i]:=fun i h=>by rw[getElem!_pos _ i (by simpa using h)];simp
 obtain⟨J,N⟩:=C2 zs.toArray (fun i j DX z=>by
  have z:j<zs.length:=by simpa using z
  rw[D i (by omega),D j z];by_cases e:i=j
  ·subst e;omega
  exact abk.1 I i j (by omega) z (by omega)) zs.length (by simp)
 refine⟨J,fun x=>(N x).trans ?_⟩;constructor
 ·rintro⟨j,z,rfl⟩;rw[D j z];exact adn z
 intro O;obtain⟨j,z,rfl⟩:=ac8 O;exact⟨j,z,D j z⟩
def encI(n:Int):List Value:=[.int .i64 n]
theorem t_{l:List Int}:∀r∈l.map encI,r.length=1:=by
 intro r z;obtain⟨x,_,rfl⟩:=adS.1 z;rfl
theorem o9(l:List Int):aX (l.map encI)=l.map fun n=>[i64 n]:=by
 unfold aX;rw[abd];rfl
theorem vy(l:List Int):(l.map encI).flatten=l.map (Value.int .i64):=by
 induction l with
 | nil=>rfl
 | cons a l ih=>rw[aa8,adH,ih];rfl
theorem yT(w:World)(b n:Nat)(l:List Int):putRow (Value.int .i64) (Sort.ahead w n) b 0 l.toArray=putRow id (Sort.ahead w n) b 0 (l.map (Value.int .i64)).toArray:=by
 unfold putRow;refine mapBlock_congr _ _ _ _ fun c _ _ _=>?_;apply Array.ext_getElem?;intro k;simp only[putCells,Array.getElem?_mapIdx,aaf,aej];cases c[k]? with
 | none=>rfl
 | some x=>
  simp only[ab6];by_cases h:0<=k/\k<0+l.length
  ·rw[aap h,aap h];congr 1;rw[getElem!_pos _ (k-0) (by simp;omega),getElem!_pos _ (k-0) (by simp;omega)];simp
  rw[aaa h,aaa h]
theorem yU{w:World}{cC:Nat}{l:List Int}(h:∀j v,(l.map encI).flatten[j]?=some v->w.cell? ⟨cC,j,none⟩=some v/\w.frozen? ⟨cC,j,none⟩=false):Holds (Value.int .i64) w cC 0 l.toArray:=by
 intro j z;have D:j<l.length:=by simpa using z
 rw[vy]at h;obtain⟨I,J⟩:=h j (.int .i64 l[j]) (by rw[aak,acg D];rfl);rw[abC,I];refine⟨?_,J⟩;rw[getElem!_pos _ j z];simp
def wL(l:List Int):List Int:=l.mergeSort fun x y=>decide (x<=y)
theorem Ks(l:List Int)(N:l.length<4611686018427387904):af C 84 [.row 3 (l.map fun n=>[i64 n])] (.tu []) [.row ((wL l).map fun n=>[i64 n])]:=by
 have:=yR hC (f:=84) 3 _ rfl (by decide) [] (l.map encI) ((wL l).map encI) t_ t_ (by rw[aej,aej,wL,List.length_mergeSort])
  (fun r O v J=>by
   obtain⟨x,_,rfl⟩:=adS.1 O;simp only[encI,ab_]at J;rw[J];rfl)
  ⟨_,Tryz.func84,rfl,rfl⟩
  (fun _ w=>Tryz.slices_Sort_int_none none 0 w)
  (fun S w cC I hE D _ z=>by
   have R:=Tryz.slices_Sort_int cC 0 I l w (yU z) D N;rw[aej];refine R.mono fun e' w' ⟨U,n,os,V⟩=>⟨U,n,os,?_⟩;rw[V];unfold rI;rw[vy,<-yT];rfl)
 rw[o9,o9]at this;exact this
theorem C3(l:List Int)(N:l.length<=9223372036854775807):af C 85 [.row 3 (l.map fun n=>[i64 n])] (.own 3 ((compact l).map fun n=>[i64 n])) [.gone]:=by
 have je:=compact_length_le l;have:=G7 hC (f:=85) 3 _ rfl (by decide) [] (l.map encI) ((compact l++List.replicate (l.length-(compact l).length) 0).map encI) (compact l).length (by rw[aej];exact je) t_ t_ (by simp;omega)
  (fun r O v I=>by
   obtain⟨x,_,rfl⟩:=adS.1 O;simp only[encI,ab_]at I;rw[I];rfl)
  ⟨_,Tryz.func85,rfl,rfl⟩
  (fun _ w=>Tryz.slices_Compact_int_empty none 0 w)
  (fun S w cC D hE hblk J z=>by
   rw[aej]at J;have R:=Tryz.slices_Compact_int cC 0 D l w (yU z) N J;rw[aej];refine R.mono fun e' w' ⟨U,n,V⟩=>⟨U,n,#[],?_⟩;rw[V];unfold rI;rw[vy,<-yT,grow_empty])
 rw[<-acb,o9,o9,List.take_left]at this;exact this
theorem C4(l:List ae):∀r∈l.map rc,r.length=4:=by
 intro r z;obtain⟨x,_,rfl⟩:=adS.1 z;rfl
theorem EC(l:List ae)(z:l.length<=4398046511104):af C 81 [.pv (aj l)] (.own 87 (l.map rc)) []:=by
 cases l with
 | nil=>
  refine fW hC Tryz.func81 rfl (by kernel_rfl) fun _=>?_;refine⟨?_,?_⟩
  ·exact⟨Z,Y⟩
  exact⟨⟨by simp,by simp,by simp⟩,Z,Z,Y⟩
 | cons a l=>
  have D:=C4 (a::l);have hl:=ai (a::l) rc;refine fW hC Tryz.func81 rfl (by kernel_rfl) fun _=>?_;exact⟨⟨D,by simp at z ⊢;omega,by simp at z ⊢;omega⟩,Z,Z,Y⟩
def od(y:Int)(r:ae):Bool:=decide (r.y1<=y)
theorem IN(r:ae)(ys:List Int)(k:Nat)(y:Int)(z:ys[k]?=some y):af C 87 [.pv (.ag (rc r)),.pv (.ip [ints ys]),.pv (.ip [i64 k])] (.p (bool (od y r))) []:=by
 refine fW hC Tryz.func87 rfl (by kernel_rfl) fun _=>?_;refine⟨[i64 y],(idx rfl z),?_,trivial⟩;rfl
theorem ED(l:List ae)(hN:l.length<=140737488355328)(ys:List Int)(k:Nat)(y:Int)(J:ys[k]?=some y):af C 161 [.row 87 (l.map rc),.pv (.fn 87 [.ip [ints ys],.ip [i64 k]])] (.p (i64 (jO (od y) l 0))) [.row (l.map rc)]:=by
 refine fW hC Tryz.func161 rfl (by kernel_rfl) fun _=>?_;have lm:=ai l rc;refine aJ (fun i:Nat=>i<=l.length/\∀x∈l.take i,od y x=false) (fun i=>[(0,.ow 100000),(1,.p (.fn 87 [.ip [ints ys],.ip [i64 k]])),(7,.p (i64 (l.map rc).length)),(8,.p (i64 i))]) (fun _=>[(100000,.row 87 (l.map rc))]) (fun i=>l.length-i) 0 _ (au.refl _ _) ⟨aaj _,by simp⟩ ⟨Z,Z,Z,Z,Y⟩ ⟨Z,Y⟩ fun i hi t h=>?_;apply iW<;>intro I
 ·rw[lm]at I;obtain⟨x,D⟩:=ak (l:=l) (i:=i) (by omega);refine⟨⟨by omega,by rw[lm];omega⟩,(rc x),(idx rfl D).2,_,_,(IN x ys k y J),iW ?_ ?_⟩<;>intro z
  ·exact⟨by rw[lY D z hi.2,abC],Z,Y⟩
  exact⟨wO (by omega),(i+1),_,au.refl _ _,⟨by omega,tW D z hi.2⟩,by omega,⟨Z,Z,Z,Z,Y⟩,⟨Z,Y⟩⟩
 rw[lm]at I;have z:=hi.2;rw[adW (by omega)]at z;exact⟨by rw[iV z];rfl,Z,Y⟩
variable {α:Type}
theorem MY{p:α->Bool}:∀{l:List α},l.any p=true->∃i x,l[i]?=some x/\p x=true/\∀z∈l.take i,p z=false:=by
 intro l
 induction l with
 | nil=>intro h;cases h
 | cons y l ih=>
  intro h;cases hy:p y with
  | true=>exact⟨0,y,rfl,hy,by simp⟩
  | false=>
   rw[abK,hy,abv]at h;obtain⟨i,x,I,J,N⟩:=ih h;refine⟨i+1,x,by simpa using I,J,fun z D=>?_⟩;rw[List.take_succ_cons,adq]at D;rcases D with rfl | D
   ·exact hy
   exact N z D
theorem MZ{m:List α}{a:Nat}{x:α}(h:a<m.length):(m.set a x).take (a+1)=m.take a++[x]:=by
 apply ach;intro j;rw[aa7,List.getElem?_set];by_cases z:j<a
 ·rw[aap (by omega),aaa (by omega),aaE (by rw[aat];omega),aa7,aap z]
 by_cases D:j=a
 ·subst D;rw[aap (by omega),aap rfl,aap h,acu (by rw[aat];omega)];simp[ac9 (Nat.le_of_lt h)]
 rw[aaa (by omega),abI (by simp;omega)]
theorem filter_none{p:α->Bool}{l:List α}(h:∀x∈l,p x=false):l.filter (fun x=>!p x)=l:=ad7.2 fun x z=>by simp[h x z]
theorem qA{p:α->Bool}{l:List α}{i:Nat}{x:α}(z:l[i]?=some x):(l.take (i+1)).filter p=(l.take i).filter p++if p x then [x] else []:=by
 rw[aZ z,abU];congr 1;cases h:p x<;>simp[List.filter,h]
theorem C5(l:List ae)(hN:l.length<=4398046511104)(ys:List Int)(k:Nat)(y:Int)(W:ys[k]?=some y):af C 86 [.row 87 (l.map rc),.pv (.fn 87 [.ip [ints ys],.ip [i64 k]])] (.own 87 ((l.filter fun r=>!od y r).map rc)) [.gone]:=by
 refine fW hC Tryz.func86 rfl (by kernel_rfl) fun _=>?_;have lm:=ai l rc;refine⟨_,_,(ED l (by omega) ys k y W),?_⟩;by_cases U4:l.any (od y)=true
 ·obtain⟨i0,x0,N,Wn,Zj⟩:∃i x,l[i]?=some x/\od y x=true/\∀z∈l.take i,od y z=false:=MY U4;rw[lY N Wn Zj,abC];have Tu:=(aao.1 N).1;refine⟨wO (by omega),?_⟩;refine aJ (fun p:Nat×Nat×List ae=>p.1<p.2.1/\p.2.1<=l.length/\p.2.2.length=l.length/\p.2.2.take p.1=(l.take p.2.1).filter (fun r=>!od y r)/\p.2.2.drop p.2.1=l.drop p.2.1) (fun p=>[(0,.ow 100000),(1,.p (.fn 87 [.ip [ints ys],.ip [i64 k]])),(5,.p (i64 p.1)),(6,.p (i64 p.2.1))]) (fun p=>[(100000,.row 87 (p.2.2.map rc))]) (fun p=>l.length-p.2.1) (i0,i0+1,l) _ (au.refl _ _) ⟨by simp,by simp only;omega,rfl,?_,rfl⟩ ⟨rfl,rfl,rfl,a8 (by simp only;omega),trivial⟩ ⟨Z,Y⟩ fun ⟨a,b,m⟩ hi t h=>?_
  ·simp only;rw[qA N,filter_none Zj];simp[Wn]
  simp only at hi;obtain⟨q1,q2,J,O,R⟩:=hi;have D:=ai m rc;apply iW<;>intro U<;>try simp only[zB]at U
  ·rw[D,J]at U;obtain⟨x,I⟩:=ak (l:=l) (i:=b) (by omega);have V:m[b]?=some x:=by
    have:(m.drop b)[0]?=(l.drop b)[0]?:=by rw[R]
    simpa [I] using this
   refine⟨⟨by simp only;omega,by simp only;rw[D];omega⟩,(rc x),(idx rfl V).2,_,_,(IN x ys k y W),iW ?_ ?_⟩<;>intro h3
   ·obtain⟨z,hz⟩:=ak (l:=m) (i:=a) (by omega);refine⟨⟨by simp only;omega,by simp only;rw[D];omega⟩,(rc z),(idx rfl hz).2,⟨by simp only;omega,by simp only;omega⟩,⟨by simp only;omega,by simp only;omega⟩,(a+1,b+1,m.set a x),_,au.refl _ _,⟨by simp only;omega,by simp only;omega,by simp only;rw[aaM];exact J,?_,?_⟩,by simp only;omega,⟨rfl,rfl,a8 (by simp only;omega),a8 (by simp only;omega),trivial⟩,⟨?_,trivial⟩⟩
    ·simp only;rw[MZ (by omega),O,qA I,h3];rfl
    ·simp only;rw[List.drop_set_of_lt (by omega)];have:=adV (List.drop 1) R;simpa [ad8] using this
    show AB.row _ ((m.map rc).set a (rc x))=AB.row _ ((m.set a x).map rc);rw[abL]
   refine⟨⟨by simp only;omega,by simp only;omega⟩,(a,b+1,m),_,au.refl _ _,⟨by simp only;omega,by simp only;omega,J,?_,?_⟩,by simp only;omega,⟨rfl,rfl,rfl,a8 (by simp only;omega),trivial⟩,⟨Z,Y⟩⟩
   ·simp only;rw[O,qA I,h3];simp
   have:=adV (List.drop 1) R;simpa [ad8] using this
  rw[D,J]at U;refine Or.inl ?_;refine⟨⟨by simp only;omega,by simp only;rw[D];omega,by simp only;omega⟩,⟨by simp only[aaS];omega,by simp only[aaS];omega⟩,?_⟩;refine Or.inl ?_;have U5:((((m.map rc).take a++List.replicate ((m.map rc).length-a) [i64 0,i64 0,i64 0,i64 0]++(m.map rc).drop (m.map rc).length).length:Nat):Int)=m.length:=by simp;omega
  refine⟨⟨by omega,by simp only;omega,by simp only[aaS];exact Int.le_trans (show (a:Int)<=m.length by omega) (Int.le_of_eq U5.symm)⟩,?_,Z,Y⟩;simp only[aaS];rw[abx,List.take_append_of_le_length (by rw[aat,D];omega),acx,Nat.min_self,<-acb,O,adW (by omega)]
 have DJ:∀x∈l,od y x=false:=fun x I=>by
  cases h:od y x with
  | false=>rfl
  | true=>exact absurd (aci.2 ⟨x,I,h⟩) U4
 rw[iV DJ];rw[filter_none DJ];exact⟨Z,Z,Y⟩
theorem C6(a b:Int):∀(s:aU),(s=[]->flat (Reg.dw s a b)=[a,b])/\(∀n,s.length=n+1->∃p,(flat s)[2*n+1]?=some p/\flat (Reg.dw s a b)=if a<=p then (flat s).set (2*n+1) (max p b) else flat s++[a,b]):=by
 intro s
 induction s with
 | nil=>exact⟨fun _=>rfl,fun n h=>by simp at h⟩
 | cons p s ih=>
  refine⟨fun h=>by simp at h,fun n D=>?_⟩;cases s with
  | nil=>
   have:n=0:=by simpa using D.symm
   subst this;refine⟨p.2,rfl,?_⟩;rw[Reg.dw];split<;>rfl
  | cons q s=>
   cases n with
   | zero=>simp at D
   | succ n=>
    obtain⟨z,I,J⟩:=ih.2 n (by simpa using D);refine⟨z,?_,?_⟩
    ·rw[show 2*(n+1)+1=(2*n+1)+1+1 by omega];simpa [flat] using I
    rw[Reg.dw,flat,J,show 2*(n+1)+1=(2*n+1)+1+1 by omega];split
    ·simp[flat]
    simp[flat]
theorem yV(a b:Int):∀(s:aU),(Reg.dw s a b).length<=s.length+1:=by
 intro s
 induction s with
 | nil=>simp[Reg.dw]
 | cons p s ih=>
  cases s with
  | nil=>rw[Reg.dw];split<;>simp
  | cons q s=>rw[Reg.dw];simp only[aaB]at ih ⊢;omega
theorem yW(l:List ae):(Reg.cY l).length<=l.length:=by
 suffices H:∀n (m:List ae),m.length=n->(Reg.cY m).length<=m.length from H _ l rfl
 intro n
 induction n with
 | zero=>
  intro m z;have:m=[]:=adl z;subst this;simp[Reg.cY]
 | succ n ih=>
  intro m z;obtain⟨d,r,rfl⟩:∃d r,m=d++[r]:=by
   cases h:m.reverse with
   | nil=>simp at h;subst h;simp at z
   | cons r d=>exact⟨d.reverse,r,by rw[<-List.reverse_reverse m,h];simp⟩
  rw[Reg.oV];have h1:=yV r.x0 r.x1 (Reg.cY d);have h2:=ih d (by simp at z;exact z);simp only[acv,abS];omega
theorem xq(l:List ae)(hl:∀r∈l,Bd r)(hN:l.length<=4398046511104):af C 89 [.row 87 (l.map rc)] (.p (ints (flat (Reg.cY (fh G8 l))))) [.row ((fh G8 l).map rc)]:=by
 refine fW hC Tryz.func89 rfl (by kernel_rfl) fun _=>?_;obtain⟨hp,_⟩:=wK hl;have qg:=hp.length_eq;refine⟨_,_,(SA l hl (by omega)),?_⟩;generalize fh G8 l=L at hp qg ⊢;have lm:=ai L rc;refine aJ (fun i:Nat=>i<=L.length) (fun i=>[(0,.ow 100000),(9,.ow 100000),(10,.p (i64 (L.map rc).length)),(11,.p (i64 i)),(3,.ow 3)]) (fun i=>[(100000,.row 87 (L.map rc)),(3,.row 3 ((flat (Reg.cY (L.take i))).map fun n=>[i64 n]))]) (fun i=>L.length-i) 0 _ (au.dk hC _ 3 3 _ (by decide) rfl rfl (by decide)) (aaj _) ⟨Z,Z,Z,Z,Z,Y⟩ ⟨Z,Z,Y⟩ fun i hi t h=>?_;have sl:=yW (L.take i);have D:=eY (Reg.cY (L.take i));have z:=ai (flat (Reg.cY (L.take i))) fun n=>[i64 n];rw[aat]at sl;apply iW<;>intro N
 ·rw[lm]at N;obtain⟨r,O⟩:=ak (l:=L) (i:=i) (by omega);have xl:Reg.cY (L.take (i+1))=Reg.dw (Reg.cY (L.take i)) r.x0 r.x1:=by rw[aZ O,Reg.oV]
  obtain⟨R,U⟩:=C6 r.x0 r.x1 (Reg.cY (L.take i));rw[<-xl]at R U;generalize Reg.cY (L.take i)=s at *;refine⟨⟨by omega,by rw[lm];omega⟩,(rc r),(idx rfl O).2,⟨by rw[z];omega,by rw[z];omega⟩,iW ?_ ?_⟩<;>intro V
  ·rw[z,D]at V;obtain⟨n,hn⟩:∃n,s.length=n+1:=⟨s.length-1,by omega⟩;obtain⟨p,J,I⟩:=U n hn;have hk:(((flat s).map fun n=>[i64 n]).length:Int)-1=((2*n+1:Nat):Int):=by rw[z,D];omega
   refine⟨⟨by rw[hk];omega,by rw[hk,z,D];omega⟩,[i64 p],(idx hk J).2,iW ?_ ?_⟩<;>intro W
   ·rw[aap W]at I;refine⟨⟨by rw[hk];omega,by rw[hk,z,D];omega⟩,[i64 p],(idx hk J).2,⟨by rw[hk];omega,by rw[hk,z,D];omega⟩,[i64 p],(idx hk J).2,wO (by omega),(i+1),_,au.refl _ _,by omega,by omega,⟨Z,Z,Z,Z,Z,Y⟩,⟨rfl,?_,trivial⟩⟩;have mT:∀k:Nat,k=2*n+1->AB.row 3 (((flat s).map fun n=>[i64 n]).set k [i64 (max p r.x1)])=AB.row 3 ((flat (Reg.cY (L.take (i+1)))).map fun n=>[i64 n]):=by
     intro k e;subst e;rw[I,abL]
    exact mT _ (by rw[hk];rfl)
   rw[aaa W]at I;refine⟨⟨by simp,by simp;omega,by simp;omega⟩,wO (by omega),(i+1),_,au.refl _ _,by omega,by omega,⟨Z,Z,Z,Z,Z,Y⟩,⟨rfl,?_,trivial⟩⟩;rw[I,abE];rfl
  rw[z,D]at V;have hs:s=[]:=adl (by omega);have I:=R hs;refine⟨⟨by simp,by simp;omega,by simp;omega⟩,wO (by omega),(i+1),_,au.refl _ _,by omega,by omega,⟨Z,Z,Z,Z,Z,Y⟩,⟨rfl,?_,trivial⟩⟩;rw[I,hs];rfl
 rw[lm]at N;rw[adW (by omega)];exact⟨Z,Z,Y⟩
def ends(l:List ae):List Int:=l.flatMap fun r=>[r.y0,r.y1]
theorem Kt{l:List ae}{i:Nat}{r:ae}(h:l[i]?=some r):ends (l.take (i+1))=ends (l.take i)++[r.y0,r.y1]:=by
 rw[aZ h];simp[ends]
theorem M0(l:List ae)(y:Int):y∈ends l↔∃r∈l,y=r.y0\/y=r.y1:=by
 simp[ends]
theorem EE(l:List ae):(ends l).length=2*l.length:=by
 induction l with
 | nil=>rfl
 | cons r l ih=>simp only[ends,abz,acv,aaB,acs]at ih ⊢;omega
theorem G9{l m:List ae}(D:∀r,r∈m↔r∈l):compact (wL (ends m))=Reg.aE l:=by
 have N:(wL (ends m)).Pairwise (·<=·):=by
  have:=List.pairwise_mergeSort (le:=fun x y:Int=>decide (x<=y)) (fun a b c I J=>by simp at *;omega) (fun a b=>by simp;omega) (ends m);exact this.imp fun h=>by simpa using h
 obtain⟨I,J⟩:=AE N;obtain⟨O,R⟩:=Reg.cT l;refine Reg.nI _ _ I O fun x=>?_;rw[J,R,wL,(List.mergeSort_perm _ _).mem_iff,M0];constructor
 ·rintro⟨r,z,h⟩;exact⟨r,(D r).1 z,h⟩
 rintro⟨r,z,h⟩;exact⟨r,(D r).2 z,h⟩
variable {ys:List Int}
theorem Ku(I:Reg.bF ys){k:Nat}{y q:Int}(D:ys[k]?=some y)(N:q∈ys)(h1:q<=y)(O:∀j z,j+1=k->ys[j]?=some z->z<q):q=y:=by
 obtain⟨i,hi⟩:=ab8.1 N;rcases ada i k with h | h | h
 ·obtain⟨z,J⟩:=ak (l:=ys) (i:=k-1) (by have:=(aao.1 D).1;omega);have:=O (k-1) z (by omega) J;have:=jL I hi J (by omega);omega
 ·subst h;rw[hi]at D;injection D
 have:=jL I D hi (by omega);omega
structure IP(L:List ae)(ys:List Int)(k:Nat)(nw:List ae)(next:Nat):Prop where
 le:next<=L.length
 len:nw.length<=next
 mem:∀r,r∈nw↔r∈L.take next/\∀j y,j+1=k->ys[j]?=some y->y<r.y1
 below:∀r∈L.take next,∀j y,j+1=k->ys[j]?=some y->r.y0<=y
 fM:∀r∈L.drop next,∀j y,j+1=k->ys[j]?=some y->y<r.y0
 zero:k=0->next=0
structure Ow(L:List ae)(y:Int)(nw:List ae)(next:Nat):Prop where
 le:next<=L.length
 len:nw.length<=next
 mem:∀r,r∈nw↔r∈L.take next/\y<r.y1
 below:∀r∈L.take next,r.y0<=y
variable {L nw:List ae}
theorem IP.mid{k:Nat}{next:Nat}(h:IP L ys k nw next)(U:Reg.bF ys){y:Int}(R:ys[k]?=some y):Ow L y (nw.filter fun r=>!od y r) next:=by
 have D:k≠0->∃z,ys[k-1]?=some z/\z<y:=fun hk=>by
  have Ov:=(aao.1 R).1;obtain⟨z,I⟩:=ak (l:=ys) (i:=k-1) (by omega);have V:=aao.1 I;have W:=aao.1 R;obtain⟨Y,b2⟩:=V;obtain⟨Z,c2⟩:=W;have:=(abk.1 U) (k-1) k Y Z (by omega);exact⟨z,I,by omega⟩
 refine⟨h.le,aaF (adb _ _) h.len,fun r=>?_,fun r J=>?_⟩
 ·rw[adu,h.mem];simp only[od,ael,acd];constructor
  ·rintro⟨⟨N,_⟩,h2⟩;exact⟨N,by omega⟩
  rintro⟨N,h2⟩;refine⟨⟨N,fun j z hj I=>?_⟩,by omega⟩;obtain⟨z',O,eF⟩:=D (by omega);rw[show k-1=j by omega,I]at O;injection O with O;omega
 by_cases hk:k=0
 ·rw[h.zero hk]at J;simp at J
 obtain⟨z,I,eF⟩:=D hk;have:=h.below r J (k-1) z (by omega) I;omega
theorem Ow.next{y:Int}{next:Nat}(h:Ow L y nw next){r:ae}(D:L[next]?=some r)(I:r.y0<=y)(J:y<r.y1):Ow L y (nw++[r]) (next+1):=by
 have eF:=(aao.1 D).1;refine⟨by omega,by have:=h.len;simp;omega,fun q=>?_,fun q z=>?_⟩
 ·rw[aZ D,abi,abi,ab_,h.mem];constructor
  ·rintro (⟨a,b⟩ | rfl)
   ·exact⟨.inl a,b⟩
   exact⟨.inr rfl,J⟩
  rintro⟨a | rfl,b⟩
  ·exact .inl ⟨a,b⟩
  exact .inr rfl
 rw[aZ D,abi,ab_]at z;rcases z with z | rfl
 ·exact h.below q z
 exact I
theorem Ow.row{l:List ae}{y:Int}{next:Nat}(h:Ow L y nw next)(z:∀r,r∈L↔r∈l)(D:∀r∈L.drop next,y<r.y0):∀r,r∈nw↔r∈l/\r.y0<=y/\y<r.y1:=by
 intro r;rw[h.mem,<-z];constructor
 ·rintro⟨a,b⟩;exact⟨acM a,h.below r a,b⟩
 rintro⟨a,b,c⟩;refine⟨?_,c⟩;rw[<-aaU next L,abi]at a;rcases a with a | a
 ·exact a
 have:=D r a;omega
theorem Ow.U6{k:Nat}{m:List ae}{next:Nat}{y:Int}(h:Ow L y nw next)(N:ys[k]?=some y)(hp:m.Perm nw)(O:∀r∈L.drop next,y<r.y0):IP L ys (k+1) m next:=by
 have one:∀j z,j+1=k+1->ys[j]?=some z->z=y:=fun j z I D=>by
  rw[show j=k by omega,N]at D;injection D with D;exact D.symm
 refine⟨h.le,by rw[hp.length_eq];exact h.len,fun r=>?_,fun r J j z I D=>?_,fun r J j z I D=>?_,fun h=>by omega⟩
 ·rw[hp.mem_iff,h.mem];constructor
  ·rintro⟨a,b⟩;exact⟨a,fun j z I D=>by rw[one j z I D];exact b⟩
  rintro⟨a,b⟩;exact⟨a,b k y rfl N⟩
 ·rw[one j z I D];exact h.below r J
 rw[one j z I D];exact O r J
theorem G_(I:L.Pairwise fun a b=>a.y0<=b.y0){i:Nat}{r:ae}(J:L[i]?=some r){y:Int}(h:y<r.y0):∀q∈L.drop i,y<q.y0:=by
 intro q z;obtain⟨hi,D⟩:=aao.1 J;rw[ab1 hi,D,adq]at z;rcases z with rfl | z
 ·exact h
 obtain⟨j,N,rfl⟩:=ac8 z;rw[adi];have:=abk.1 I i (i+1+j) hi (by rw[aaN]at N;omega) (by omega);rw[D]at this;omega
def Good(r:ae):Prop:=Bd r/\r.x0<r.x1/\r.y0<r.y1
theorem EF(l:List ae)(ys:List Int){N:Nat}(h:∀y,(Reg.rowOf l y).length<=N):∀k,∀t∈Reg.cg l ys k,t.xs.length<=N:=by
 intro k
 induction k with
 | zero=>simp[Reg.cg]
 | succ k ih=>rw[Reg.cg];exact yO _ _ _ ih (h _)
theorem uc(l:List ae)(hl:∀r∈l,Good r)(hN:l.length<=4398046511104)(hH:(Reg.aE l).length<=1000000000000)(hX:∀y,(Reg.rowOf l y).length<=1000000000000):af C 34 [.pv (aj l)] (.own 128 ((Reg.aB l).map hb)) []:=by
 refine uX ⟨[],[4],[],[20],[(20,[true,false,false,false,false,false,false,true,false,false,true,false,true,true,true])],[]⟩ hC Tryz.func34 rfl (by kernel_rfl) fun _=>?_;have Ox:∀r∈l,Bd r:=fun r D=>(hl r D).1;obtain⟨hp,QX⟩:=EA Ox;have qg:=hp.length_eq;refine⟨_,_,(EC l (by omega)),_,_,(Sz l Ox (by omega)),?_⟩;generalize fh MV l=L at hp QX qg;have lm:=ai L rc;refine aJ (fun i:Nat=>i<=L.length) (fun i=>[(0,.ow 0),(14,.ow 0),(15,.p (i64 (L.map rc).length)),(16,.p (i64 i)),(3,.bx 3 0)]) (fun i=>[(0,.row 87 (L.map rc)),(3,.box [.ow 90000]),(90000,.row 3 ((ends (L.take i)).map fun n=>[i64 n]))]) (fun i=>L.length-i) 0 _ (au.aeK hC _ 3 0 90000 3 _ _ (by decide) (by decide) rfl rfl rfl (by decide)) (aaj _) ⟨Z,Z,Z,Z,Z,Y⟩ ⟨Z,Z,Z,Y⟩ fun i hi t h=>?_;have el:=EE (L.take i);have em:=ai (ends (L.take i)) fun n=>[i64 n];rw[aat]at el;apply iW<;>intro h1
 ·rw[lm]at h1;obtain⟨r,D⟩:=ak (l:=L) (i:=i) (by omega);refine⟨⟨by omega,by rw[lm];omega⟩,(rc r),(idx rfl D).2,⟨by simp,by simp;omega,by simp;omega⟩,wO (by omega),i+1,_,au.Cx _ 26 90000 (by decide) (by decide),by omega,by omega,⟨Z,Z,Z,Z,Z,Y⟩,⟨rfl,rfl,?_,trivial⟩⟩;show AB.row _ _=AB.row _ _;rw[Kt D,abE];rfl
 rw[lm]at h1;rw[adW (show L.length<=i by omega)]at *;refine⟨_,_,(Ks (ends L) (by omega)),_,_,(C3 (wL (ends L)) (by rw[wL,List.length_mergeSort];omega)),?_⟩;have V:∀r,r∈L↔r∈l:=fun r=>hp.mem_iff;rw[G9 V];have W:=ae9 l;have hL:=dm l;have Zk:=ai (Reg.aE l) fun n=>[i64 n];have QW:∀r∈L,r.y0∈Reg.aE l:=fun r D=>((Reg.cT l).2 _).2 ⟨r,(V r).1 D,.inl rfl⟩;have hbl:=gK l (Reg.aE l);have hbx:=EF l (Reg.aE l) hX;have SB:Reg.aB l=Reg.cg l (Reg.aE l) ((Reg.aE l).length-1):=rfl;generalize Reg.aE l=ys at *;refine aJ (fun x:Nat×List ae×Nat=>x.1<=ys.length-1/\IP L ys x.1 x.2.1 x.2.2) (fun x=>[(0,.ow 0),(3,.p (.ip [ints ys])),(6,.ow 6),(7,.ow 7),(8,.p (i64 x.2.2)),(9,.bx 9 0)]) (fun x=>[(0,.row 87 (L.map rc)),(6,.row 128 ((Reg.cg l ys x.1).map hb)),(7,.row 87 (x.2.1.map rc)),(9,.box [.p (i64 x.1)])]) (fun x=>ys.length-x.1) (0,[],0) _
  (au.trans (au.dk hC _ 6 128 _ (by decide) rfl rfl (by decide)) (au.trans (au.dk hC _ 7 87 _ (by decide) rfl rfl (by decide)) (au.trans (au.fB hC _ 3 0 31 3 _ _ (by decide) rfl rfl rfl) (au.gD hC _ 3 (y:=.ip [ints ys]) (fz:=[(3,.jd [ints ys])]) ⟨rfl,rfl⟩))))
  ⟨aaj _,⟨aaj _,aam _,by simp,by simp,fun r _ j y h=>by omega,fun _=>rfl⟩⟩ ⟨Z,Z,Z,Z,Z,Z,Y⟩ ⟨Z,Z,Z,Z,Y⟩ fun ⟨k,nw,next⟩ hi t h=>?_
 obtain⟨hk,U⟩:=hi;simp only at hk U;refine⟨⟨by simp only;omega,by simp only;omega⟩,iW ?_ ?_⟩<;>intro h2<;>try simp only[zB]at h2
 ·rw[Zk]at h2;obtain⟨y,J⟩:=ak (l:=ys) (i:=k) (by omega);obtain⟨y',O⟩:=ak (l:=ys) (i:=k+1) (by omega);have XZ:=U.mid W J;refine⟨_,_,(C5 nw (by have:=U.len;have:=U.le;omega) ys k y J),?_⟩;refine p7 (fun p:List ae×Nat=>Ow L y p.1 p.2/\∀r∈L.drop p.2,y<r.y0) (fun p=>[(0,.ow 0),(3,.p (.ip [ints ys])),(6,.ow 6),(7,.ow 7),(8,.p (i64 p.2)),(9,.p (.ip [i64 k]))]) (fun p=>[(0,.row 87 (L.map rc)),(6,.row 128 ((Reg.cg l ys k).map hb)),(7,.row 87 (p.1.map rc))]) (fun ⟨N,R⟩ Li t h=>?_) ?_
  ·obtain⟨I,Qp⟩:=Li;simp only at I Qp;have az:=I.row V Qp;have oE:∀r∈N,Bd r:=fun r D=>(hl r ((az r).1 D).1).1;obtain⟨Zl,OJ⟩:=wK oE;have est:Reg.cY (fh G8 N)=Reg.rowOf l y:=Reg.Eo l _ y (fun r D=>(hl r D).2.1) OJ fun r=>(Zl.mem_iff).trans (az r);have eF:y<y':=by
    obtain⟨b1,b2⟩:=aao.1 J;obtain⟨c1,c2⟩:=aao.1 O;have:=(abk.1 W) k (k+1) b1 c1 (by omega);omega
   refine⟨[i64 y],(idx rfl J),wO (by omega),[i64 y'],(idx (by omega) O),_,_,(xq N oE (by have:=I.len;have:=I.le;omega)),?_⟩;rw[est];refine⟨_,_,(oZ (Reg.cg l ys k) ⟨y,y',Reg.rowOf l y⟩ eF (by have:=hbl k;omega) (fun t ht=>by have:=hbx k t ht;omega)),wO (by omega),(k+1,fh G8 N,R),_,au.refl _ _,⟨by simp only;omega,I.U6 J Zl Qp⟩,by simp only;omega,⟨Z,Z,Z,Z,Z,Z,Y⟩,⟨rfl,?_,rfl,?_,trivial⟩⟩
   ·simp only;rw[Reg.cg,cO J,cO O];rfl
   exact adV (fun z=>AB.box [z]) (a8 (by simp only;omega))
  refine aJ (fun p:List ae×Nat=>next<=p.2/\Ow L y p.1 p.2) (fun p=>[(0,.ow 0),(3,.p (.ip [ints ys])),(6,.ow 6),(7,.ow 7),(8,.p (i64 p.2)),(9,.p (.ip [i64 k]))]) (fun p=>[(0,.row 87 (L.map rc)),(6,.row 128 ((Reg.cg l ys k).map hb)),(7,.row 87 (p.1.map rc))]) (fun p=>L.length-p.2) (nw.filter fun r=>!od y r,next) _ (au.gD hC _ 9 (y:=.ip [i64 k]) (fz:=[]) ⟨rfl,rfl⟩) ⟨aam _,XZ⟩ ⟨Z,Z,Z,Z,Z,Z,Y⟩ ⟨Z,Z,Z,Y⟩ fun ⟨N,R⟩ Li t h=>?_;obtain⟨X0,I⟩:=Li;simp only at X0 I;have Ue:=I.le;have F4:=I.len;apply iW<;>intro g1<;>try simp only[zB]at g1
  ·rw[lm]at g1;obtain⟨r,D⟩:=ak (l:=L) (i:=R) (by omega);refine⟨⟨by simp only;omega,by simp only;rw[lm];omega⟩,(rc r),(idx rfl D).2,[i64 y],(idx rfl J),iW ?_ ?_⟩<;>intro g2
   ·have SC:r∈L:=aad D;have e:=Ku W J (QW r SC) g2 fun j z hj hz=>U.fM r (by
     refine aad (i:=R-next) ?_;rw[aas,<-D];congr 1;omega) j z hj hz
    have hg:=hl r ((V r).1 SC);refine⟨⟨by simp only;omega,by simp only;rw[lm];omega⟩,(rc r),(idx rfl D).2,⟨xL rfl,by simp;omega,by simp;omega⟩,⟨by simp only;omega,by simp only;omega⟩,(N++[r],R+1),_,au.refl _ _,⟨by simp only;omega,I.next D g2 (by have:=hg.2.2;omega)⟩,by simp only;omega,⟨rfl,rfl,rfl,rfl,a8 (by simp only;omega),Z,Y⟩,⟨rfl,rfl,?_,trivial⟩⟩;show AB.row _ _=AB.row _ _;rw[abE];rfl
   exact⟨(N,R),⟨I,G_ QX D (by omega)⟩,⟨Z,Z,Z,Z,Z,Z,Y⟩,⟨Z,Z,Z,Y⟩⟩
  rw[lm]at g1;refine⟨(N,R),⟨I,fun r D=>?_⟩,⟨Z,Z,Z,Z,Z,Z,Y⟩,⟨Z,Z,Z,Y⟩⟩;rw[aaz (by simp only;omega)]at D;cases D
 rw[Zk]at h2;rw[SB,show ys.length-1=k by omega];exact⟨Z,Z,Y⟩
theorem EG(l:List ae)(hl:∀r∈l,Good r)(hN:l.length<=400000):af C 34 [.pv (aj l)] (.own 128 ((Reg.aB l).map hb)) []:=
 uc l hl (by omega) (by have:=dm l;omega) (fun y=>by have:=fQ l y;omega)
end M
end Go.Proofs.YtfloceomobknoaaGreatDoor
