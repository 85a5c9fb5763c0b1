/- Part 5 of the proof of RulesHolesMatchSpec. -/
import Derived.Test.YtfloceomobknoaaGreatDoorH04
import Derived.Lib.SplitLaws
import Derived.Shelf.SlSortCmp.WholeK
import Derived.Deep.Slices
import Derived.Shelf.SlSortCmp.NoneTotal
set_option linter.unusedVariables false
set_option linter.unusedSimpArgs false
set_option maxRecDepth 100000
set_option maxHeartbeats 8000000
namespace Go
abbrev acC:=@List.all_eq_false
abbrev ad5:=@List.all_append
abbrev ad6:=@List.map_map
abbrev abd:=@List.any_cons
abbrev abK:=@List.flatten_cons
abbrev adH:=@Array.getElem?_append_right
abbrev aen:=@Nat.lt_or_ge
abbrev abm:=@Array.getElem?_eq_none
abbrev ace:=@Nat.eq_zero_or_pos
abbrev adI:=@List.not_mem_nil
abbrev ab2:=@List.filter_eq_self
abbrev ad7:=@List.drop_drop
abbrev ad8:=@List.map_set
end Go
namespace Go.Proofs.YtfloceomobknoaaGreatDoor
namespace M
open Go.AM Go.RowKit
open Reg (ae aU an)
def str(s:ByteArray):PV:=.im (.string s)
def strs(l:List ByteArray):PV:=.sl (l.map fun s=>[str s])
def cL(n:Int):Bool:=decide (0<=n)&&decide (n<=100000)
theorem wD(n lo hi:Int):af C 64 [.pv (i64 n),.pv (i64 lo),.pv (i64 hi)] (.p (bool (decide (lo<=n)&&decide (n<=hi)))) []:=by
 refine fW hC Tryz.func64 rfl (by kernel_rfl) fun _=>?_;refine iW ?_ ?_<;>intro h<;>(refine⟨?_,trivial⟩)<;>simp[bool,h]
theorem iT(n:Int):af C 37 [.pv (i64 n)] (.p (bool (cL n))) []:=by
 refine fW hC Tryz.func37 rfl (by kernel_rfl) fun _=>?_;refine⟨_,_,(wD n 0 100000),?_⟩;refine⟨?_,trivial⟩;rfl
def hasB(l:List ByteArray)(x:ByteArray):Bool:=l.any fun y=>decide (y=x)
theorem Et{l:List ByteArray}{x:ByteArray}:hasB l x=true↔x∈l:=by
 simp[hasB]
theorem Eu(l:List ByteArray)(x:ByteArray)(hN:l.length<=140737488355328):af C 209 [.pv (strs l),.pv (str x)] (.p (bool (hasB l x))) []:=by
 refine fW hC Tryz.func209 rfl (by kernel_rfl) fun _=>?_;have lm:=ai l fun s=>[str s];refine aJ (fun i:Nat=>i<=l.length/\x ∉ l.take i) (fun i=>[(0,.p (strs l)),(1,.p (str x)),(5,.p (i64 i))]) (fun _=>[]) (fun i=>l.length-i) 0 _ (au.refl _ _) ⟨aaj _,by simp⟩ ⟨Z,Z,Z,Y⟩ trivial fun i hi t h=>?_;refine iW ?_ ?_<;>intro h1
 ·rw[lm]at h1;obtain⟨y,hy⟩:=ak (l:=l) (i:=i) (by omega);refine⟨[str y],(idx rfl hy),?_⟩;refine iW ?_ ?_<;>intro h2
  ·refine⟨?_,trivial⟩;rw[Et.2 (by rw[<-h2];exact aad hy)];rfl
  refine⟨⟨by omega,by omega⟩,?_⟩;refine⟨(i+1),_,au.refl _ _,?_⟩;refine⟨⟨by omega,?_⟩,by omega,⟨Z,Z,Z,Y⟩,trivial⟩;rw[aZ hy,abi,ab_];rintro (h | h)
  ·exact hi.2 h
  exact h2 h.symm
 rw[lm]at h1;refine⟨?_,trivial⟩;have h2:=hi.2;rw[adW (by omega)]at h2;rw[show hasB l x=false by rw[aaV];exact fun h=>h2 (Et.1 h)];rfl
theorem rY(s:ByteArray)(c:Int):af C 206 [.pv (str s),.pv (.im (.int .u8 c))] (.p (i64 (Lib.indexByte s.data.toList c.toNat.toUInt8))) []:=
 vv [.string s,.int .u8 c] _ ⟨_,Tryz.func206,rfl,rfl⟩ fun _ w _ _=>(Tryz.strings_IndexByte s c w).mono fun _ _ ⟨h1,h2⟩=>⟨h1,by rw[h2];exact abJ _ _⟩
theorem wE(n lo hi:Int):af C 187 [.pv (i64 n),.pv (i64 lo),.pv (i64 hi)] (.p (bool (decide (lo<=n)&&decide (n<=hi)))) []:=by
 refine fW hC Tryz.func187 rfl (by kernel_rfl) fun _=>?_;refine iW ?_ ?_<;>intro h<;>(refine⟨?_,trivial⟩)<;>simp[bool,h]
def okB(b:UInt8):Bool:=(decide ((97:Int)<=b.toNat)&&decide ((b.toNat:Int)<=122))||(decide ((65:Int)<=b.toNat)&&decide ((b.toNat:Int)<=90))||(decide ((48:Int)<=b.toNat)&&decide ((b.toNat:Int)<=57))||!decide (Lib.indexByte [95,43,45,35] b<0)
theorem byte_back(b:UInt8):((b.toNat:Int)).toNat.toUInt8=b:=by simp
def iU(s:ByteArray):Bool:=s.data.toList.all okB&&(decide ((1:Int)<=s.size)&&decide ((s.size:Int)<=40))
theorem Ev{s:ByteArray}{i:Nat}(h:i<s.size):∃b:UInt8,s[i]?=some b/\s.data.toList[i]?=some b:=by
 refine⟨s[i],getElem?_pos s i h,?_⟩;rw[aek];exact aa1 h
theorem qz(s:ByteArray)(hs:s.size<=9223372036854775807):af C 142 [.pv (str s)] (.p (bool (iU s))) []:=by
 refine fW hC Tryz.func142 rfl (by kernel_rfl) fun _=>?_;have hsz:s.data.toList.length=s.size:=by simp
 refine aJ (fun i:Nat=>i<=s.size/\(s.data.toList.take i).all okB=true) (fun i=>[(0,.p (str s)),(3,.p (i64 i))]) (fun _=>[]) (fun i=>s.size-i) 0 _ (au.refl _ _) ⟨aaj _,by simp⟩ ⟨Z,Z,Y⟩ trivial fun i hi t h=>?_;refine iW ?_ ?_<;>intro h1
 ·obtain⟨b,hb,hb'⟩:=Ev (s:=s) (i:=i) (by omega);have Sw:okB b=false->iU s=false:=fun h=>by
   rw[iU,aaC];refine .inl ?_;rw[acC];exact⟨b,aad hb',by simp[h]⟩
  have hnext:okB b=true->(s.data.toList.take (i+1)).all okB=true:=fun h=>by rw[aZ hb',ad5,hi.2];simp[h]
  refine⟨b,⟨by omega,by rw[ad2];exact hb⟩,?_⟩;have Oj:=rY ⟨#[95,43,45,35]⟩ b.toNat;rw[byte_back]at Oj
  repeat' first | refine iW ?_ ?_<;>intro h<;>try simp only[zB]at h | refine⟨_,_,Oj,?_⟩
  all_goals skip
  all_goals first
   | (
     refine⟨⟨by omega,by omega⟩,?_⟩;refine⟨(i+1),_,au.refl _ _,?_⟩;exact⟨⟨by omega,hnext (by simp[okB, *])⟩,by omega,⟨Z,Z,Y⟩,trivial⟩)
   | (
     refine⟨?_,trivial⟩;rw[Sw (by simp[okB, *])];rfl)
 have aeL:s.data.toList.all okB=true:=by
  have:=hi.2
  rwa [adW (by omega)]at this
 refine⟨_,_,(wE s.size 1 40),?_⟩;refine⟨?_,trivial⟩;rw[iU,aeL,adr]
def wF:ByteArray:=⟨#[47]⟩
def parts(s:ByteArray):List ByteArray:=Lib.splitB wF 0 (Lib.countB s wF) s
def lh(s:ByteArray):Bool:=(parts s).all iU&&decide ((s.size:Int)<=200)
theorem wG(sep:ByteArray):∀(k:Nat) (s:ByteArray),∀x∈Lib.splitB sep 0 k s,x.size<=s.size:=by
 intro k
 induction k with
 | zero=>
  intro s x hx;rw[Lib.splitB_zero,ab_]at hx;rw[hx];omega
 | succ k ih=>
  intro s x hx;unfold Lib.splitB at hx;split at hx
  ·rw[ab_]at hx;rw[hx];omega
  rcases adq.1 hx with h | h
  ·rw[h,ByteArray.size_extract];omega
  have:=ih _ x h;rw[ByteArray.size_extract]at this;omega
theorem tT(s:ByteArray):(parts s).length=Lib.countB s wF+1:=Lib.splitB_all wF (by decide) 0 _ s rfl
theorem yP(s:ByteArray):(parts s).length<=s.size+1:=by
 rw[tT];have:=Lib.countB_le wF (by decide) s.size s (aam _);omega
theorem MQ(l:List ByteArray):(l.map Value.string).map (fun v=>[PV.im v])=l.map fun s=>[str s]:=by
 rw[ad6];rfl
theorem Bs(s:ByteArray)(hs:s.size<4294967281):af C 141 [.pv (str s),.pv (str wF)] (.own 9 ((parts s).map fun s=>[str s])) []:=by
 have h:=Em hC (f:=141) [.string s,.string wF] 9 ((parts s).map Value.string) _ rfl rfl (by simp[Value.oneCell']) (by rw[aej];have:=yP s;have:maxLen=9223372036854775807:=rfl;omega) ⟨_,Tryz.func141,rfl,rfl⟩ fun S w hE _=>by
  obtain⟨_,_,⟨m,hm⟩,_⟩:=hE;refine (Tryz.strings_Split s wF m w hs hm (by decide)).mono fun _ _ ⟨h1,h2⟩=>⟨?_,h2⟩;rw[h1,aej,tT]
 rw[MQ]at h;exact h
theorem wH(s:ByteArray)(hs:s.size<4294967281):af C 63 [.pv (str s)] (.p (bool (lh s))) []:=by
 refine fW hC Tryz.func63 rfl (by kernel_rfl) fun _=>?_;have lm:=ai (parts s) fun s=>[str s];have pl:=yP s;refine⟨_,_,(Bs s hs),?_⟩;refine aJ (fun i:Nat=>i<=(parts s).length/\((parts s).take i).all iU=true) (fun i=>[(0,.p (str s)),(3,.p (strs (parts s))),(4,.p (i64 i))]) (fun _=>[]) (fun i=>(parts s).length-i) 0 _ (au.own hC _ 3 rfl rfl) ⟨aaj _,by simp⟩ ⟨Z,Z,Z,Y⟩ trivial fun i hi t h=>?_;refine iW ?_ ?_<;>intro h1
 ·rw[lm]at h1;obtain⟨x,hx⟩:=ak (l:=parts s) (i:=i) (by omega);have s9:=wG _ _ _ x (aad hx);refine⟨[str x],(idx rfl hx),?_⟩;refine⟨_,_,(qz x (by omega)),?_⟩;refine iW ?_ ?_<;>intro h2
  ·refine⟨?_,trivial⟩;rw[show lh s=false from ?_]
   ·rfl
   rw[lh,aaC,acC];exact .inl ⟨x,aad hx,by simp[h2]⟩
  refine⟨⟨by omega,by omega⟩,?_⟩;refine⟨(i+1),_,au.refl _ _,?_⟩;refine⟨⟨by omega,?_⟩,by omega,⟨Z,Z,Z,Y⟩,trivial⟩;rw[aZ hx,ad5,hi.2];simp[h2]
 rw[lm]at h1;refine⟨?_,trivial⟩;have aeL:=hi.2;rw[adW (by omega)]at aeL;rw[lh,aeL,adr];rfl
theorem tU(n lo hi:Int):af C 77 [.pv (i64 n),.pv (i64 lo),.pv (i64 hi)] (.p (bool (decide (lo<=n)&&decide (n<=hi)))) []:=by
 refine fW hC Tryz.func77 rfl (by kernel_rfl) fun _=>?_;refine iW ?_ ?_<;>intro h<;>(refine⟨?_,trivial⟩)<;>simp[bool,h]
theorem lK(n:Int):af C 32 [.pv (i64 n)] (.p (bool (cL n))) []:=by
 refine fW hC Tryz.func32 rfl (by kernel_rfl) fun _=>?_;refine⟨_,_,(tU n 0 100000),?_⟩;refine⟨?_,trivial⟩;rfl
theorem CW(n:Int):af C 195 [.pv (i64 n)] (.p (bool (!cL n))) []:=by
 refine fW hC Tryz.func195 rfl (by kernel_rfl) fun _=>?_;refine⟨_,_,(lK n),?_⟩;refine⟨?_,trivial⟩;rfl
theorem CX(n lo hi:Int):af C 259 [.pv (i64 n),.pv (i64 lo),.pv (i64 hi)] (.p (bool (decide (lo<=n)&&decide (n<=hi)))) []:=by
 refine fW hC Tryz.func259 rfl (by kernel_rfl) fun _=>?_;refine iW ?_ ?_<;>intro h<;>(refine⟨?_,trivial⟩)<;>simp[bool,h]
theorem jN(n:Int):af C 213 [.pv (i64 n)] (.p (bool (Reg.kR n))) []:=by
 refine fW hC Tryz.func213 rfl (by kernel_rfl) fun _=>?_;refine⟨_,_,(CX n (-1000000) 1000000),?_⟩;refine⟨?_,trivial⟩;rfl
theorem rZ(x y:Int):af C 173 [.pv (.ag [i64 x,i64 y])] (.p (bool (Reg.kR x&&Reg.kR y))) []:=by
 refine fW hC Tryz.func173 rfl (by kernel_rfl) fun _=>?_;refine⟨_,_,(jN x),?_⟩;refine iW ?_ ?_<;>intro h
 ·refine⟨_,_,(jN y),?_⟩;refine⟨?_,trivial⟩;simp[bool,h]
 refine⟨?_,trivial⟩;simp[bool,h]
theorem tV(r:ae):af C 154 [.pv (.ag (rc r))] (.p (bool (Reg.c7 r))) []:=by
 refine fW hC Tryz.func154 rfl (by kernel_rfl) fun _=>?_;refine⟨_,_,(jN r.x0),?_⟩;refine iW ?_ ?_<;>intro h1
 ·refine⟨_,_,(jN r.y0),?_⟩;refine iW ?_ ?_<;>intro h2
  ·refine⟨_,_,(jN r.x1),?_⟩;refine iW ?_ ?_<;>intro h3
   ·refine⟨_,_,(jN r.y1),?_⟩;refine⟨?_,trivial⟩;simp[bool,Reg.c7,h1,h2,h3]
   refine⟨?_,trivial⟩;simp[bool,Reg.c7,h1,h2,h3]
  refine⟨?_,trivial⟩;simp[bool,Reg.c7,h1,h2]
 refine⟨?_,trivial⟩;simp[bool,Reg.c7,h1]
def jO{α:Type}(p:α->Bool):List α->Nat->Int
 | [],_=>-1
 | x::r,k=>match p x with
  | true=>k
  | false=>jO p r (k+1)
variable {α:Type}
theorem iV{p:α->Bool}:∀{l:List α} {k:Nat},(∀x∈l,p x=false)->jO p l k=-1:=by
 intro l
 induction l with
 | nil=>intro k _;rfl
 | cons x l ih=>intro k h;rw[jO,h x (by simp)];exact ih fun y hy=>h y (by simp[hy])
theorem lY{p:α->Bool}:∀{l:List α} {i k:Nat} {x:α},l[i]?=some x->p x=true->(∀y∈l.take i,p y=false)->jO p l k=((k+i:Nat):Int):=by
 intro l
 induction l with
 | nil=>intro i k x h;simp at h
 | cons y l ih=>
  intro i k x h hp hn;cases i with
  | zero=>simp at h;subst h;rw[jO,hp];rfl
  | succ i=>
   rw[jO,hn y (by simp)];have:=ih (i:=i) (k:=k+1) (by simpa using h) hp fun z hz=>hn z (by simp[hz]);simp only[this];omega
theorem oX(p:α->Bool):∀(l:List α) (k:Nat),decide (0<=jO p l k)=l.any p:=by
 intro l
 induction l with
 | nil=>intro k;rfl
 | cons x l ih=>
  intro k;rw[jO,abd];cases p x with
  | true=>simp
  | false=>simpa using ih (k+1)
theorem tW{p:α->Bool}{l:List α}{i:Nat}{x:α}(hx:l[i]?=some x)(hp:p x=false)(h:∀y∈l.take i,p y=false):∀y∈l.take (i+1),p y=false:=by
 intro y hy;rw[aZ hx,abi,ab_]at hy;rcases hy with hy | rfl
 ·exact h y hy
 exact hp
theorem Kn(l:List Int)(hN:l.length<=140737488355328):af C 248 [.pv (ints l),.pv (.im (.func (.func 195) #[] #[]))] (.p (i64 (jO (fun n=>!cL n) l 0))) []:=by
 refine fW hC Tryz.func248 rfl (by kernel_rfl) fun _=>?_;have lm:=ai l fun n=>[i64 n];refine aJ (fun i:Nat=>i<=l.length/\∀x∈l.take i,(!cL x)=false) (fun i=>[(0,.p (ints l)),(1,.p (.im (.func (.func 195) #[] #[]))),(7,.p (i64 (l.map fun n=>[i64 n]).length)),(8,.p (i64 i))]) (fun _=>[]) (fun i=>l.length-i) 0 _ (au.refl _ _) ⟨aaj _,by simp⟩ ⟨Z,Z,Z,Z,Y⟩ trivial fun i hi t h=>?_;refine iW ?_ ?_<;>intro h1
 ·rw[lm]at h1;obtain⟨x,hx⟩:=ak (l:=l) (i:=i) (by omega);refine⟨[i64 x],(idx rfl hx),?_⟩;refine⟨_,_,(CW x),?_⟩;refine iW ?_ ?_<;>intro h2
  ·refine⟨?_,trivial⟩;rw[lY hx (by simp[h2]) hi.2,abC]
  refine⟨⟨by omega,by omega⟩,?_⟩;exact⟨(i+1),_,au.refl _ _,⟨by omega,tW hx (by simp[h2]) hi.2⟩,by omega,⟨Z,Z,Z,Z,Y⟩,trivial⟩
 rw[lm]at h1;refine⟨?_,trivial⟩;have h2:=hi.2;rw[adW (by omega)]at h2;rw[iV h2];rfl
theorem CY(l:List Int)(hN:l.length<=140737488355328):af C 194 [.pv (ints l),.pv (.im (.func (.func 195) #[] #[]))] (.p (bool (l.any fun n=>!cL n))) []:=by
 refine fW hC Tryz.func194 rfl (by kernel_rfl) fun _=>?_;refine⟨_,_,(Kn l hN),?_⟩;refine⟨?_,trivial⟩;rw[<-oX _ l 0];rfl
theorem oY(s:ByteArray)(hs:s.size<=9223372036854775807):af C 172 [.pv (str s)] (.p (bool (iU s))) []:=by
 refine fW hC Tryz.func172 rfl (by kernel_rfl) fun _=>?_;have hsz:s.data.toList.length=s.size:=by simp
 refine aJ (fun i:Nat=>i<=s.size/\(s.data.toList.take i).all okB=true) (fun i=>[(0,.p (str s)),(6,.p (i64 s.size)),(7,.p (i64 i))]) (fun _=>[]) (fun i=>s.size-i) 0 _ (au.refl _ _) ⟨aaj _,by simp⟩ ⟨Z,Z,Z,Y⟩ trivial fun i hi t h=>?_;refine iW ?_ ?_<;>intro h1
 ·obtain⟨b,hb,hb'⟩:=Ev (s:=s) (i:=i) (by omega);have Sw:okB b=false->iU s=false:=fun h=>by
   rw[iU,aaC];refine .inl ?_;rw[acC];exact⟨b,aad hb',by simp[h]⟩
  have hnext:okB b=true->(s.data.toList.take (i+1)).all okB=true:=fun h=>by rw[aZ hb',ad5,hi.2];simp[h]
  refine⟨b,⟨by omega,by rw[ad2];exact hb⟩,?_⟩;have Oj:=rY ⟨#[95,43,45,35]⟩ b.toNat;rw[byte_back]at Oj
  repeat' first | refine iW ?_ ?_<;>intro h<;>try simp only[zB]at h | refine⟨_,_,Oj,?_⟩
  all_goals skip
  all_goals first
   | (
     refine⟨⟨by omega,by omega⟩,?_⟩;refine⟨(i+1),_,au.refl _ _,?_⟩;exact⟨⟨by omega,hnext (by simp only[okB,adZ,aaZ,aaH,ael,abF];omega)⟩,by omega,⟨Z,Z,Z,Y⟩,trivial⟩)
   | (
     refine⟨?_,trivial⟩;rw[Sw (by simp only[okB,adX,aaC,abF,Bool.not_eq_false',aaH];omega)];rfl)
 have aeL:s.data.toList.all okB=true:=by
  have:=hi.2
  rwa [adW (by omega)]at this
 refine iW ?_ ?_<;>intro h2
 ·refine⟨?_,trivial⟩;simp[bool,iU,aeL,h2]
 refine⟨?_,trivial⟩;simp[bool,iU,aeL,h2]
theorem MR(s:ByteArray)(hs:s.size<=9223372036854775807):af C 240 [.pv (str s)] (.p (bool (!iU s))) []:=by
 refine fW hC Tryz.func240 rfl (by kernel_rfl) fun _=>?_;refine⟨_,_,(oY s hs),?_⟩;refine⟨?_,trivial⟩;rfl
theorem Ko(l:List ByteArray)(hN:l.length<=140737488355328)(hS:∀s∈l,s.size<=9223372036854775807):af C 210 [.pv (strs l),.pv (.im (.func (.func 240) #[] #[]))] (.p (i64 (jO (fun s=>!iU s) l 0))) []:=by
 refine fW hC Tryz.func210 rfl (by kernel_rfl) fun _=>?_;have lm:=ai l fun s=>[str s];refine aJ (fun i:Nat=>i<=l.length/\∀x∈l.take i,(!iU x)=false) (fun i=>[(0,.p (strs l)),(1,.p (.im (.func (.func 240) #[] #[]))),(7,.p (i64 (l.map fun s=>[str s]).length)),(8,.p (i64 i))]) (fun _=>[]) (fun i=>l.length-i) 0 _ (au.refl _ _) ⟨aaj _,by simp⟩ ⟨Z,Z,Z,Z,Y⟩ trivial fun i hi t h=>?_;refine iW ?_ ?_<;>intro h1
 ·rw[lm]at h1;obtain⟨x,hx⟩:=ak (l:=l) (i:=i) (by omega);refine⟨[str x],(idx rfl hx),?_⟩;refine⟨_,_,(MR x (hS x (aad hx))),?_⟩;refine iW ?_ ?_<;>intro h2
  ·refine⟨?_,trivial⟩;rw[lY hx (by simp[h2]) hi.2,abC]
  refine⟨⟨by omega,by omega⟩,?_⟩;exact⟨(i+1),_,au.refl _ _,⟨by omega,tW hx (by simp[h2]) hi.2⟩,by omega,⟨Z,Z,Z,Z,Y⟩,trivial⟩
 rw[lm]at h1;refine⟨?_,trivial⟩;have h2:=hi.2;rw[adW (by omega)]at h2;rw[iV h2];rfl
theorem CZ(l:List ByteArray)(hN:l.length<=140737488355328)(hS:∀s∈l,s.size<=9223372036854775807):af C 149 [.pv (strs l),.pv (.im (.func (.func 240) #[] #[]))] (.p (bool (l.any fun s=>!iU s))) []:=by
 refine fW hC Tryz.func149 rfl (by kernel_rfl) fun _=>?_;refine⟨_,_,(Ko l hN hS),?_⟩;refine⟨?_,trivial⟩;rw[<-oX _ l 0];rfl
theorem Pp(p:α->Bool):∀l:List α,(!l.any fun s=>!p s)=l.all p:=by
 intro l
 induction l with
 | nil=>rfl
 | cons x l ih=>rw[abd,aaP,<-ih,Bool.not_or,Bool.not_not]
theorem tX(s:ByteArray)(hs:s.size<4294967281):af C 171 [.pv (str s)] (.p (bool (lh s))) []:=by
 refine fW hC Tryz.func171 rfl (by kernel_rfl) fun _=>?_;have pl:=yP s;refine iW ?_ ?_<;>intro h1
 ·refine⟨_,_,(Bs s hs),?_⟩;refine⟨_,_,(CZ (parts s) (by omega) fun x hx=>by have:=wG _ _ _ x hx;omega),?_⟩;refine⟨?_,trivial⟩;rw[Pp,lh,acd h1,ac7];rfl
 refine⟨?_,trivial⟩;rw[lh,aaz h1,aav];rfl
theorem vx(l:List ae):af C 74 [.pv (aj l)] (.p (i64 (Reg.cz l))) []:=by
 refine fW hC Tryz.func74 rfl (by kernel_rfl) fun _=>?_;have lm:=ai l rc;refine iW ?_ ?_<;>intro h0
 ·rw[lm]at h0;refine⟨?_,trivial⟩;rw[Reg.cz,aap (by omega)];rfl
 rw[lm]at h0;have hc:Reg.cz l=Reg.dU l:=by rw[Reg.cz,aaa (by omega)]
 refine aJ (fun i:Nat=>i<=l.length/\Reg.dU l=Reg.dU (l.drop i)) (fun i=>[(8,.p (aj l)),(9,.p (i64 (l.map rc).length)),(10,.p (i64 i))]) (fun _=>[]) (fun i=>l.length-i) 0 _ (au.refl _ _) ⟨aaj _,rfl⟩ ⟨Z,Z,Z,Y⟩ trivial fun i hi t h=>?_;refine iW ?_ ?_<;>intro h1
 ·rw[lm]at h1;obtain⟨r,hr⟩:=ak (l:=l) (i:=i) (by omega);have hs:=oc hr;refine⟨(rc r),(idx rfl hr),?_⟩;refine⟨_,_,(tV r),?_⟩;refine iW ?_ ?_<;>intro g1
  ·refine⟨?_,trivial⟩;rw[hc,hi.2,hs,aaa (by simp[g1])];rfl
  rw[aap g1]at hs;refine iW ?_ ?_<;>intro e1
  ·refine⟨?_,trivial⟩;rw[hc,hi.2,hs,aap (.inl e1)];rfl
  refine iW ?_ ?_<;>intro e2
  ·refine⟨?_,trivial⟩;rw[hc,hi.2,hs,aap (.inr e2)];rfl
  refine⟨⟨by omega,by omega⟩,?_⟩;refine⟨(i+1),_,au.refl _ _,?_⟩;refine⟨⟨by omega,?_⟩,by omega,⟨Z,Z,Z,Y⟩,trivial⟩;rw[hi.2,hs,aaa (by omega)]
 rw[lm]at h1;refine⟨?_,trivial⟩;rw[hc,hi.2,ab1 (by omega)];rfl
theorem Ew(l m:List ae)(hN:l.length<=140737488355328):af C 75 [.pv (aj l),.pv (aj m)] (.p (bool (decide (l=m)))) []:=by
 refine fW hC Tryz.func75 rfl (by kernel_rfl) fun _=>?_;have lm:=ai l rc;have mm:=ai m rc;refine iW ?_ ?_<;>intro h0
 ·rw[lm,mm]at h0;refine⟨?_,trivial⟩;rw[aaz (fun e:l=m=>h0 (by rw[e]))];rfl
 rw[lm,mm]at h0;refine aJ (fun i:Nat=>i<=l.length/\(l=m↔l.drop i=m.drop i)) (fun i=>[(0,.p (aj l)),(1,.p (aj m)),(12,.p (i64 (l.map rc).length)),(13,.p (i64 i))]) (fun _=>[]) (fun i=>l.length-i) 0 _ (au.refl _ _) ⟨aaj _,aaT⟩ ⟨Z,Z,Z,Z,Y⟩ trivial fun i hi t h=>?_;refine iW ?_ ?_<;>intro h1
 ·rw[lm]at h1;obtain⟨r,hr⟩:=ak (l:=l) (i:=i) (by omega);obtain⟨q,hq⟩:=ak (l:=m) (i:=i) (by omega);have hs:=rv hr hq;refine⟨(rc r),(idx rfl hr),?_⟩;refine⟨(rc q),(idx rfl hq),?_⟩;have he:=Reg.ae.yK r q;refine iW ?_ ?_<;>intro h2<;>try simp only[zB]at h2
  ·refine⟨?_,trivial⟩;rw[aaz];rfl;rw[hi.2,hs,he];simp only[aaC,abF]at h2;intro ⟨⟨e1,e2,e3,e4⟩,_⟩;simp[e1,e2,e3,e4]at h2
  refine⟨⟨by omega,by omega⟩,?_⟩;refine⟨(i+1),_,au.refl _ _,?_⟩;refine⟨⟨by omega,?_⟩,by omega,⟨Z,Z,Z,Z,Y⟩,trivial⟩;rw[hi.2,hs,he];simp[aaH]at h2;exact and_iff_right h2
 refine⟨?_,trivial⟩;rw[lm]at h1;rw[acd];rfl;rw[hi.2,ab1 (by omega),ab1 (by omega)]
theorem G6(l m:List Int)(hN:l.length<=140737488355328):af C 162 [.pv (ints l),.pv (ints m)] (.p (bool (decide (l=m)))) []:=by
 refine fW hC Tryz.func162 rfl (by kernel_rfl) fun _=>?_;have lm:=ai l fun n=>[i64 n];have mm:=ai m fun n=>[i64 n];refine iW ?_ ?_<;>intro h0
 ·rw[lm,mm]at h0;refine⟨?_,trivial⟩;rw[aaz (fun e:l=m=>h0 (by rw[e]))];rfl
 rw[lm,mm]at h0;refine aJ (fun i:Nat=>i<=l.length/\(l=m↔l.drop i=m.drop i)) (fun i=>[(0,.p (ints l)),(1,.p (ints m)),(12,.p (i64 (l.map fun n=>[i64 n]).length)),(13,.p (i64 i))]) (fun _=>[]) (fun i=>l.length-i) 0 _ (au.refl _ _) ⟨aaj _,aaT⟩ ⟨Z,Z,Z,Z,Y⟩ trivial fun i hi t h=>?_;refine iW ?_ ?_<;>intro h1
 ·rw[lm]at h1;obtain⟨r,hr⟩:=ak (l:=l) (i:=i) (by omega);obtain⟨q,hq⟩:=ak (l:=m) (i:=i) (by omega);have hs:=rv hr hq;refine⟨[i64 r],(idx rfl hr),?_⟩;refine⟨[i64 q],(idx rfl hq),?_⟩;refine iW ?_ ?_<;>intro h2
  ·refine⟨?_,trivial⟩;rw[aaz];rfl;rw[hi.2,hs];exact fun h=>h2 h.1
  refine⟨⟨by omega,by omega⟩,?_⟩;refine⟨(i+1),_,au.refl _ _,?_⟩;refine⟨⟨by omega,?_⟩,by omega,⟨Z,Z,Z,Z,Y⟩,trivial⟩;rw[hi.2,hs];exact and_iff_right h2
 refine⟨?_,trivial⟩;rw[lm]at h1;rw[acd];rfl;rw[hi.2,ab1 (by omega),ab1 (by omega)]
def flat:aU->List Int
 | []=>[]
 | p::s=>p.1::p.2::flat s
theorem eY:∀s:aU,(flat s).length=2*s.length:=by
 intro s
 induction s with
 | nil=>rfl
 | cons p s ih=>simp only[flat,aaB,ih];omega
theorem MS:∀{s u:aU},flat s=flat u->s=u:=by
 intro s
 induction s with
 | nil=>intro u h;cases u with | nil=>rfl | cons=>cases h
 | cons p s ih=>
  intro u h;cases u with
  | nil=>cases h
  | cons q u=>
   simp only[flat,List.cons.injEq]at h;rw[ih h.2.2,Prod.ext h.1 h.2.1]
def hb(b:an):List PV:=[i64 b.y0,i64 b.y1,ints (flat b.xs)]
theorem oZ(l:List an)(b:an)(WR:b.y0<b.y1)(hN:l.length<=1000000000000)(hX:∀t∈l,t.xs.length<=1000000000000):af C 88 [.row 128 (l.map hb),.pv (.ag (hb b))] (.own 128 ((Reg.cA l b).map hb)) [.gone]:=by
 refine fW hC Tryz.func88 rfl (by kernel_rfl) fun _=>?_;have lm:=ai l hb;have sm:=ai (flat b.xs) fun n=>[i64 n];have fl:=eY b.xs;have done:∀z:List an,z=Reg.cA l b->AB.row 128 (z.map hb)=AB.row 128 ((Reg.cA l b).map hb):=fun z e=>by rw[e]
 refine iW ?_ ?_<;>intro h1
 ·rw[sm,fl]at h1;have he:b.xs=[]:=adl (by omega);exact⟨done l (by rw[Reg.cA,aap he]),Z,Y⟩
 rw[sm,fl]at h1;have he:b.xs≠[]:=fun e=>h1 (by rw[e];rfl);have more:l++[b]=Reg.cA l b->AB.row 128 (l.map hb++[hb b])=AB.row 128 ((Reg.cA l b).map hb):=fun e=>by rw[<-e,abE];rfl
 refine iW ?_ ?_<;>intro h0
 ·omega
 refine⟨⟨by rw[lm];omega,by rw[lm];omega⟩,?_⟩;refine iW ?_ ?_<;>intro h2
 ·rw[lm]at h2;obtain⟨m,hm⟩:∃m,l.length=m+1:=⟨l.length-1,by omega⟩;have hi:((l.map hb).length:Int)-1=(m:Nat):=by rw[lm];omega
  have hp:Reg.cA l b=match l.getLast? with
   | some t=>if t.y1=b.y0/\t.xs=b.xs then l.dropLast++[⟨t.y0,b.y1,t.xs⟩] else l++[b]
   | none=>[b]:=by rw[Reg.cA,aaa he]<;>rfl
  obtain⟨t,ht⟩:=ak (l:=l) (i:=m) (by omega);rw[tQ hm ht]at hp;simp only at hp;have ft:=eY t.xs;refine⟨⟨by rw[hi];omega,by rw[hi,lm];omega⟩,?_⟩;refine⟨(hb t),(idx hi ht).2,?_⟩;refine iW ?_ ?_<;>intro h3
  ·refine⟨⟨by rw[hi];omega,by rw[hi,lm];omega⟩,?_⟩;refine⟨(hb t),(idx hi ht).2,?_⟩;refine⟨_,_,(G6 (flat t.xs) (flat b.xs) (by have:=hX t (aad ht);omega)),?_⟩;refine iW ?_ ?_<;>intro h4
   ·have h4:t.xs=b.xs:=MS h4;refine⟨⟨by rw[hi];omega,by rw[hi,lm];omega⟩,?_⟩;refine⟨(hb t),(idx hi ht).2,?_⟩;rw[aap ⟨h3,h4⟩]at hp;have mT:∀k:Nat,k=m->AB.row 128 ((l.map hb).set k [i64 t.y0,i64 b.y1,ints (flat t.xs)])=AB.row 128 ((Reg.cA l b).map hb):=by
     intro k e;subst e;rw[hp];obtain⟨d,hd⟩:=ad3.1 (tQ hm ht);subst hd;have hk:k=d.length:=by simp at hm;omega
     subst hk;simp[hb]
    exact⟨mT _ (by rw[hi];rfl),Z,Y⟩
   have h4:t.xs≠b.xs:=fun e=>h4 (by rw[e]);rw[aaa (fun h=>h4 h.2)]at hp;refine⟨⟨by simp,by simp;omega,by simp;omega⟩,?_⟩;exact⟨more hp.symm,Z,Y⟩
  rw[aaa (fun h=>h3 h.1)]at hp;refine⟨⟨by simp,by simp;omega,by simp;omega⟩,?_⟩;exact⟨more hp.symm,Z,Y⟩
 rw[lm]at h2;have hl:l=[]:=adl (by omega);refine⟨⟨by simp,by simp;omega,by simp;omega⟩,?_⟩;exact⟨more (by subst hl;rw[Reg.cA,aaa he];rfl),Z,Y⟩
theorem Ex:∀{s:aU} {k:Nat} {p:Int×Int},s[k]?=some p->(flat s)[2*k]?=some p.1/\(flat s)[2*k+1]?=some p.2:=by
 intro s
 induction s with
 | nil=>intro k p h;simp at h
 | cons q s ih=>
  intro k p h;cases k with
  | zero=>simp at h;subst h;exact⟨rfl,rfl⟩
  | succ k=>
   obtain⟨h1,h2⟩:=ih (k:=k) (p:=p) (by simpa using h);rw[show 2*(k+1)=(2*k+1)+1 by omega];exact⟨by simpa [flat] using h1,by simpa [flat] using h2⟩
theorem ae6(l:List an)(hN:l.length<=1000000000000)(hX:∀t∈l,t.xs.length<=1000000000000)(hT:(Reg.told l).length<=4398046511104):af C 76 [.pv (.sl (l.map hb))] (.own 87 ((Reg.told l).map rc)) []:=by
 refine uX ⟨[],[2],[],[8],[],[]⟩ hC Tryz.func76 rfl (by kernel_rfl) fun _=>?_;have lm:=ai l hb;have tl:∀i,(Reg.told (l.take i)).length<=(Reg.told l).length:=fun i=>by
  have e:Reg.told l=Reg.told (l.take i)++Reg.told (l.drop i):=by
   unfold Reg.told;rw[<-adG,aaU]
  rw[e,acv];omega
 refine aJ (fun i:Nat=>i<=l.length) (fun i=>[(7,.p (.sl (l.map hb))),(8,.p (i64 (l.map hb).length)),(3,.ow 3),(9,.p (i64 i))]) (fun i=>[(3,.row 87 ((Reg.told (l.take i)).map rc))]) (fun i=>l.length-i) 0 _ (au.dk hC _ 3 87 _ (by decide) rfl rfl (by decide)) (aaj _) ⟨Z,Z,Z,Z,Y⟩ ⟨Z,Y⟩ fun i hi t h=>?_;refine iW ?_ ?_<;>intro h1
 ·rw[lm]at h1;obtain⟨b,uW⟩:=ak (l:=l) (i:=i) (by omega);have bm:=ai (flat b.xs) fun n=>[i64 n];have fl:=eY b.xs;have hb':=hX b (aad uW);have ht:=tl (i+1);rw[jM uW,acv,aej]at ht;refine⟨(hb b),(idx rfl uW),?_⟩;refine p7 (fun _:Unit=>True) (fun _=>[(7,.p (.sl (l.map hb))),(8,.p (i64 (l.map hb).length)),(3,.ow 3),(9,.p (i64 i))]) (fun _=>[(3,.row 87 ((Reg.told (l.take (i+1))).map rc))]) (fun _ _ t h=>?_) ?_
  ·refine⟨⟨by omega,by omega⟩,?_⟩;exact⟨(i+1),_,au.refl _ _,by omega,by omega,⟨Z,Z,Z,Z,Y⟩,⟨Z,Y⟩⟩
  refine aJ (fun k:Nat=>k<=b.xs.length) (fun k=>[(7,.p (.sl (l.map hb))),(8,.p (i64 (l.map hb).length)),(3,.ow 3),(9,.p (i64 i)),(5,.bx 5 0),(6,.p (i64 ((2*k:Nat):Int)))]) (fun k=>[(3,.row 87 ((Reg.told (l.take i)++ig b k).map rc)),(5,.box [.p (i64 b.y0),.p (i64 b.y1),.p (ints (flat b.xs))])]) (fun k=>b.xs.length-k) 0 _ (au.refl _ _) (aaj _) ⟨Z,Z,Z,Z,Z,Z,Y⟩ ⟨by rw[ig];simp;rfl,Z,Y⟩ fun k hk t h=>?_;have Ov:(ig b k).length<=k:=by simp[ig];omega
  refine iW ?_ ?_<;>intro h2
  ·rw[bm,fl]at h2;obtain⟨p,hp⟩:=ak (l:=b.xs) (i:=k) (by omega);obtain⟨g1,g2⟩:=Ex hp;refine⟨[i64 p.1],(idx rfl g1),?_⟩;refine⟨⟨by omega,by omega⟩,?_⟩;refine⟨[i64 p.2],(idx (by omega) g2),?_⟩;refine⟨⟨xL rfl,by simp;omega,by simp;omega⟩,?_⟩;refine⟨⟨by omega,by omega⟩,?_⟩;refine⟨(k+1),_,au.refl _ _,?_⟩;refine⟨by omega,by omega,⟨rfl,rfl,rfl,rfl,rfl,a8 (by omega),trivial⟩,⟨?_,Z,Y⟩⟩;have hc:ig b (k+1)=ig b k++[⟨p.1,b.y0,p.2,b.y1⟩]:=by simp[ig,aZ hp]
   have e:(Reg.told (l.take i)++ig b k).map rc++[rc ⟨p.1,b.y0,p.2,b.y1⟩]=(Reg.told (l.take i)++ig b (k+1)).map rc:=by
    rw[hc,<-abx,abE (l₂:=[_])];rfl
   exact adV (AB.row 87) e
  rw[bm,fl]at h2;refine⟨(),trivial,⟨Z,Z,Z,Z,Y⟩,⟨?_,trivial⟩⟩;rw[jM uW];have:ig b k=b.xs.map fun p=>⟨p.1,b.y0,p.2,b.y1⟩:=by rw[ig,adW (by omega)]
  rw[<-this];rfl
 rw[lm]at h1;rw[adW (by omega)];exact⟨Z,Z,Y⟩
theorem Ey(l:List an)(hN:l.length<=1000000)(hX:∀t∈l,t.xs.length<=1000000):af C 76 [.pv (.sl (l.map hb))] (.own 87 ((Reg.told l).map rc)) []:=
 ae6 l (by omega) (fun t ht=>by have:=hX t ht;omega) (by
  have h1:=nq l hX;have h3:l.length*1000000<=1000000*1000000:=abf _ hN;omega)
end M
end Go.Proofs.YtfloceomobknoaaGreatDoor
namespace Go.AM
open Go.RowKit
theorem C0{α:Type}{k:Nat}:∀{L:List (List α)} {a:Nat} {r:List α} {j:Nat} {v:α},(∀r∈L,r.length=k)->L[a]?=some r->r[j]?=some v->L.flatten[a*k+j]?=some v:=by
 intro L
 induction L with
 | nil=>intro a r j v _ h;simp at h
 | cons x L ih=>
  intro a r j v hk h1 h2;have hx:=hk x (by simp);cases a with
  | zero=>
   simp at h1;subst h1;rw[abK,Nat.zero_mul,abC,aaE (aD h2)];exact h2
  | succ a=>
   rw[abK,aa3,acu (by omega)];have:=ih (a:=a) (r:=r) (j:=j) (v:=v) (fun r hr=>hk r (by simp[hr])) (by simpa using h1) h2;rw[<-this];congr 1;omega
theorem gL{α:Type}{k:Nat}:∀{L:List (List α)},(∀r∈L,r.length=k)->L.flatten.length=L.length*k:=by
 intro L
 induction L with
 | nil=>intro _;simp
 | cons x L ih=>
  intro hk;rw[abK,acv,ih fun r hr=>hk r (by simp[hr]),hk x (by simp),aaB,aa3];omega
def aX(L:List (List Value)):List (List PV):=L.map fun r=>r.map PV.im
variable {w:World} {L:List (List Value)}
theorem Bt{P:Program}{S:Nat->Prop}{k:Nat}(hk:∀r∈L,r.length=k){xs:List Value}(hl:xs.length=L.length*k)(h:∀(a:Nat) r (j:Nat) x,(aX L)[a]?=some r->r[j]?=some x->∃u,xs[a*k+j]?=some u/\aO S w x u):xs=L.flatten:=by
 have hfl:=gL hk;apply ach;intro q;by_cases hq:q<L.length*k
 ·have Im:0<k:=Nat.pos_of_ne_zero fun e=>by rw[e]at hq;simp at hq
  have ha:q / k<L.length:=(Nat.div_lt_iff_lt_mul Im).2 hq;have hj:q % k<k:=abt _ Im;have hr:L[q / k]?=some L[q / k]:=acg ha;have xj:=hk _ (adn ha);have hv:L[q / k][q % k]?=some (L[q / k][q % k]'(by omega)):=acg _;have e:q / k*k+q % k=q:=by rw[Nat.mul_comm];exact Nat.div_add_mod q k
  obtain⟨u,h1,h2⟩:=h (q / k) _ (q % k) _ (by unfold aX;rw[aak,hr];rfl) (by rw[aak,hv];rfl);rw[e]at h1;have h3:=C0 hk hr hv;rw[e]at h3;rw[h1,h3,h2.bS]
 rw[abI (by omega),abI (by omega)]
theorem Bu{S:Nat->Prop}{k:Nat}(hk:∀r∈L,r.length=k):∀(a:Nat) r (j:Nat) x,(aX L)[a]?=some r->r[j]?=some x->∃u,L.flatten[a*k+j]?=some u/\aO S w x u:=by
 intro a r j x h1 h2;unfold aX at h1;rw[aak]at h1;obtain⟨r0,h3,rfl⟩:=acq.1 h1;rw[aak]at h2;obtain⟨v,h4,rfl⟩:=acq.1 h2;exact⟨v,C0 hk h3 h4,.im v⟩
theorem IJ{k:Nat}(hk:∀r∈L,r.length=k):∀r∈aX L,r.length=k:=by
 intro r hr;obtain⟨r0,h,rfl⟩:=adS.1 hr;rw[aej,hk r0 h]
def rI(w:World)(g n:Nat)(F:Array Value)(os:Array Obj):World:=Sort.grow (Sort.putRow id (Sort.ahead w n) g 0 F) os
theorem yQ(w:World)(g n:Nat)(F:Array Value)(os:Array Obj):(rI w g n F os).os=w.os/\(rI w g n F os).tape=w.tape/\(rI w g n F os).output=w.output/\w.heap.size<=(rI w g n F os).heap.size/\∀k,k<w.heap.size->(rI w g n F os).heap[k]?=if k=g then (w.heap[k]?).map (Sort.onCells (Sort.putCells id 0 F)) else w.heap[k]?:=by
 refine⟨rfl,rfl,rfl,?_,fun k hk=>?_⟩
 ·simp[rI,Sort.grow,Sort.putRow,Sort.mapBlock,Sort.ahead]
 simp only[rI,Sort.grow,Sort.putRow,Sort.mapBlock,Sort.ahead];rw[acN (by simpa using hk),aac];by_cases e:g=k
 ·rw[aap e,aap e.symm]
 rw[aaa e,aaa fun h=>e h.symm]
theorem tY(F cur:Array Value)(h:F.size<=cur.size):(Sort.putCells id 0 F cur).size=cur.size/\(Sort.putCells id 0 F cur).toList.take F.size=F.toList:=by
 refine⟨by simp[Sort.putCells],?_⟩;apply ach;intro j;rw[aa7];split
 ·rename_i hj;rw[aek,aek];simp only[Sort.putCells,Array.getElem?_mapIdx];rw[aa1 (by omega:j<cur.size),aa1 hj,ab6,aap ⟨aaj _,by omega⟩,Nat.sub_zero,getElem!_pos F j hj];rfl
 rename_i hj;rw[abI (by simpa using hj)]
theorem Kp{w':World}{e:TypeId}{es de:List (List PV)}{v0:Value}{zs:List Value}(hs:w.heap.size<=w'.heap.size)(h:∀g,cC v0=some g->g<w.heap.size/\Mv w (.row e es::zs.map fun a=>.pv (.im a)) (#[v0]++zs.toArray) g):ta w w' (.row e es::zs.map fun a=>.pv (.im a)) [.row de] (#[v0]++zs.toArray):=by
 have QU:∀i g,du w' (.row e es::zs.map fun a=>.pv (.im a)) [.row de] (#[v0]++zs.toArray).toList i g->i=0/\cC v0=some g:=fun i g hg=>by
  simp only[abX]at hg;cases i with
  | zero=>exact⟨rfl,aI rfl hg.2⟩
  | succ i=>exact (tM zs i g hg).elim
 exact⟨fun i g hg=>by obtain⟨h1,h2⟩:=h g (QU i g hg).2;exact⟨aaW h1 hs,.inr h2⟩,fun i j g hi hj=>by rw[(QU i g hi).1,(QU j g hj).1]⟩
theorem yR{C:Ctx}(hC:bI C){f:FuncId}(e:TypeId)(ti:TI)(hT:C.T e=some ti)(Im:0<ti.size)(zs:List Value)(L L':List (List Value))(hL:∀r∈L,r.length=ti.size)(Pq:∀r∈L',r.length=ti.size)(hlen:L'.length=L.length)
  (h1:∀r∈L',∀v∈r,v.oneCell'=true) (hf:xI C f)
  (hnil:L=[]->∀w,Calls C.P f (#[.slice none 0 0]++zs.toArray) w fun e' w'=>e'=.returned (.tuple #[])/\w'=w)
  (h:∀S w cC cap,C.E S w->cC<w.heap.size->L.length<=cap->(∀j v,L.flatten[j]?=some v->w.cell? ⟨cC,j,none⟩=some v/\w.frozen? ⟨cC,j,none⟩=false)->
   Calls C.P f (#[.slice (some ⟨cC,0,none⟩) L.length cap]++zs.toArray) w fun e' w'=>e'=.returned (.tuple #[])/\∃n os,w'=rI w cC n L'.flatten.toArray os):
  af C f (.row e (aX L)::zs.map fun a=>.pv (.im a)) (.tu []) [.row (aX L')]:=by
 refine⟨hf,fun S w vs hE hS hl hr _=>?_⟩;obtain⟨v0,vr,rfl⟩:∃v0 vr,vs=#[v0]++vr:=by
  obtain⟨l⟩:=vs;cases l with
  | nil=>simp at hl
  | cons v0 l=>exact⟨v0,⟨l⟩,by simp⟩
 have XT:vr=zs.toArray:=xJ (S:=S) (w:=w) (P:=C.P) (by simp at hl ⊢;omega) fun j x v hx hv=>hr (j+1) x v (by simpa using hx) (by rw[adH (by simp)];simpa using hv);subst XT;have az:aG C.P w (aO S w) e (aX L) v0/\∀g,cC v0=some g->¬S g:=hr 0 _ v0 rfl (by simp);obtain⟨⟨i,xs,hi,hpos,hown,hkr,jg,hcell⟩,Wk⟩:=az;obtain⟨info,z,g1,g2,_⟩:=hC.iq e ti hT;rw[hi]at g1;injection g1 with g1;subst g1;have qg:(aX L).length=L.length:=aej ..;have C1:(aX L').length=L.length:=by rw[<-hlen];exact aej ..
 have hx:xs=L.flatten:=Bt (P:=C.P) (k:=i.size) (by rw[g2];exact hL) (by rw[<-qg];exact hown.1) hcell;have UU:∀g,cC v0=some g->Mv w (.row e (aX L)::zs.map fun a=>.pv (.im a)) (#[v0]++zs.toArray) g:=fun g hg=>⟨0,_,v0,rfl,by simp,rfl,.inl hg⟩;have tail:∀w':World,oH S w' C.P (.row e (aX L)) (.row (aX L')) v0->eL S w' C.P (.row e (aX L)::zs.map fun a=>.pv (.im a)) [.row (aX L')] (#[v0]++zs.toArray).toList:=fun w' Iq=>by
  simp only[abX];exact⟨Iq,CS zs⟩
 have UW:∀w':World,w.heap.size<=w'.heap.size->ta w w' (.row e (aX L)::zs.map fun a=>.pv (.im a)) [.row (aX L')] (#[v0]++zs.toArray):=fun w' hs=>Kp hs (fun g hg=>⟨(hown.lt g (by rw[cI (cr hown).choose_spec.choose_spec];exact hg)).2,UU g hg⟩);rcases hown.2 with⟨q1,q2⟩ | ⟨g,cap,cur,q1,q2,q3,q4,q5,q6,q7⟩
 ·have Gz:L=[]:=adl (by rw[<-qg];exact q2);subst q1;refine (hnil Gz w).mono fun e' w' ⟨he,hw⟩=>?_;subst hw;refine⟨.tuple #[],S,he,Fr.refl _ _,fun _ h=>h,hS,fun b hb=>.inl hb,⟨#[],rfl,rfl,by simp⟩,tail _ ⟨?_,Wk⟩,UW _ (aam _),fun g h=>by cases h⟩;have Sx:L'=[]:=adl (by rw[hlen,Gz];rfl);subst Sx;exact⟨i,[],hi,hpos,aem _ _ _ _,by simp[aX],by simp,by simp[aX]⟩
 subst q1;have Kq:g<w.heap.size:=(ab9.1 q3).1;have XU:L'.flatten.toArray.size=L.length*i.size:=by rw[aaf,gL Pq,hlen,g2]
 have pN:L.length*i.size<=cur.size:=by rw[q6];exact abf _ (by rw[<-qg];exact q4)
 have hh:=h S w g cap hE Kq (by rw[<-qg];exact q4) fun j v hj=>by
  have sw:j<L.length*i.size:=by have:=aD hj;rw[gL hL]at this;rw[g2];exact this
  have:cur[j]?=some v:=by
   rw[<-hx,<-q7]at hj;rw[aa7]at hj;split at hj
   ·simpa using hj
   cases hj
  exact⟨by rw[cell_of_row w g j cur e (0,0) q3];exact this,by simp[World.frozen?,q3]⟩
 rw[<-qg]at hh;refine hh.mono fun e' w' ⟨he,n,os,hw⟩=>?_;subst hw;obtain⟨p1,p2,p3,p4,p5⟩:=yQ w g n L'.flatten.toArray os;obtain⟨c1,c2⟩:=tY L'.flatten.toArray cur (by omega);have nS:(rI w g n L'.flatten.toArray os).heap[g]?=some (.cells (Sort.putCells id 0 L'.flatten.toArray cur) e (0,0)):=by rw[p5 g Kq,aap rfl,q3];rfl
 refine⟨.tuple #[],S,he,⟨p1,p2,p3,p4,fun k hk hn=>?_⟩,fun _ h=>h,fun b hb=>aaW (hS b hb) p4,fun b hb=>.inl hb,⟨#[],rfl,rfl,by simp⟩,tail _ ⟨?_,Wk⟩,UW _ p4,fun g h=>by cases h⟩
 ·rw[p5 k hk,aaa];intro e;subst e;exact hn (UU k rfl)
 refine⟨i,L'.flatten,hi,hpos,⟨by rw[C1,<-hlen,g2];exact gL Pq,.inr ⟨g,cap,_,by rw[C1,qg],aaj _,nS,by rw[C1,<-qg];exact q4,q5,by rw[c1];exact q6,?_⟩⟩,by rw[g2];exact IJ Pq,fun u hu=>?_,Bu (by rw[g2];exact Pq)⟩
 ·rw[C1,<-XU];exact c2
 obtain⟨r,RO,iO⟩:=List.mem_flatten.1 hu;exact h1 r RO u iO
theorem G7{C:Ctx}(hC:bI C){f:FuncId}(e:TypeId)(ti:TI)(hT:C.T e=some ti)(Im:0<ti.size)(zs:List Value)(L L':List (List Value))(m:Nat)(hm:m<=L.length)(hL:∀r∈L,r.length=ti.size)(Pq:∀r∈L',r.length=ti.size)(hlen:L'.length=L.length)
  (h1:∀r∈L',∀v∈r,v.oneCell'=true) (hf:xI C f)
  (hnil:L=[]->∀w,Calls C.P f (#[.slice none 0 0]++zs.toArray) w fun e' w'=>e'=.returned (.slice none 0 0)/\w'=w)
  (h:∀S w cC cap,C.E S w->cC<w.heap.size->L.length<=cap->(∀j v,L.flatten[j]?=some v->w.cell? ⟨cC,j,none⟩=some v/\w.frozen? ⟨cC,j,none⟩=false)->
   Calls C.P f (#[.slice (some ⟨cC,0,none⟩) L.length cap]++zs.toArray) w fun e' w'=>e'=.returned (.slice (some ⟨cC,0,none⟩) m cap)/\∃n os,w'=rI w cC n L'.flatten.toArray os):
  af C f (.row e (aX L)::zs.map fun a=>.pv (.im a)) (.own e (aX (L'.take m))) [.gone]:=by
 refine⟨hf,fun S w vs hE hS hl hr _=>?_⟩;obtain⟨v0,vr,rfl⟩:∃v0 vr,vs=#[v0]++vr:=by
  obtain⟨l⟩:=vs;cases l with
  | nil=>simp at hl
  | cons v0 l=>exact⟨v0,⟨l⟩,by simp⟩
 have XT:vr=zs.toArray:=xJ (S:=S) (w:=w) (P:=C.P) (by simp at hl ⊢;omega) fun j x v hx hv=>hr (j+1) x v (by simpa using hx) (by rw[adH (by simp)];simpa using hv);subst XT;have az:aG C.P w (aO S w) e (aX L) v0/\∀g,cC v0=some g->¬S g:=hr 0 _ v0 rfl (by simp);obtain⟨⟨i,xs,hi,hpos,hown,hkr,jg,hcell⟩,Wk⟩:=az;obtain⟨info,z,g1,g2,_⟩:=hC.iq e ti hT;rw[hi]at g1;injection g1 with g1;subst g1;have qg:(aX L).length=L.length:=aej ..;have C1:(aX L').length=L.length:=by rw[<-hlen];exact aej ..
 have hx:xs=L.flatten:=Bt (P:=C.P) (k:=i.size) (by rw[g2];exact hL) (by rw[<-qg];exact hown.1) hcell;have UU:∀g,cC v0=some g->Mv w (.row e (aX L)::zs.map fun a=>.pv (.im a)) (#[v0]++zs.toArray) g:=fun g hg=>⟨0,_,v0,rfl,by simp,rfl,.inl hg⟩;have tail:∀w':World,eL S w' C.P (.row e (aX L)::zs.map fun a=>.pv (.im a)) [.gone] (#[v0]++zs.toArray).toList:=fun w'=>by
  simp only[abX];exact⟨trivial,CS zs⟩
 have MT:∀(w':World) (i g:Nat),¬du w' (.row e (aX L)::zs.map fun a=>.pv (.im a)) [.gone] (#[v0]++zs.toArray).toList i g:=fun w' i g hk=>by
  simp only[abX]at hk;cases i with
  | zero=>cases hk.1
  | succ i=>exact tM zs i g hk
 have UW:∀w':World,ta w w' (.row e (aX L)::zs.map fun a=>.pv (.im a)) [.gone] (#[v0]++zs.toArray):=fun w'=>⟨fun i g h=>(MT w' i g h).elim,fun i j g h=>(MT w' i g h).elim⟩;have UX:aX (L'.take m)=(aX L').take m:=by unfold aX;rw[aco]
 rcases hown.2 with⟨q1,q2⟩ | ⟨g,cap,cur,q1,q2,q3,q4,q5,q6,q7⟩
 ·have Gz:L=[]:=adl (by rw[<-qg];exact q2);subst q1;refine (hnil Gz w).mono fun e' w' ⟨he,hw⟩=>?_;subst hw;have Sx:L'=[]:=adl (by rw[hlen,Gz];rfl);subst Sx;refine⟨.slice none 0 0,S,he,Fr.refl _ _,fun _ h=>h,hS,fun b hb=>.inl hb,⟨?_,fun g hg=>by cases hg⟩,tail _,UW _,fun g _ hg=>by cases aI rfl hg⟩;rw[List.take_nil];exact⟨i,[],hi,hpos,aem _ _ _ _,by simp[aX],by simp,by simp[aX]⟩
 subst q1;have Kq:g<w.heap.size:=(ab9.1 q3).1;have XU:L'.flatten.toArray.size=L.length*i.size:=by rw[aaf,gL Pq,hlen,g2]
 have pN:L.length*i.size<=cur.size:=by rw[q6];exact abf _ (by rw[<-qg];exact q4)
 have hh:=h S w g cap hE Kq (by rw[<-qg];exact q4) fun j v hj=>by
  have sw:j<L.length*i.size:=by have:=aD hj;rw[gL hL]at this;rw[g2];exact this
  have:cur[j]?=some v:=by
   rw[<-hx,<-q7]at hj;rw[aa7]at hj;split at hj
   ·simpa using hj
   cases hj
  exact⟨by rw[cell_of_row w g j cur e (0,0) q3];exact this,by simp[World.frozen?,q3]⟩
 rw[<-qg]at hh;refine hh.mono fun e' w' ⟨he,n,os,hw⟩=>?_;subst hw;obtain⟨p1,p2,p3,p4,p5⟩:=yQ w g n L'.flatten.toArray os;obtain⟨c1,c2⟩:=tY L'.flatten.toArray cur (by omega);have nS:(rI w g n L'.flatten.toArray os).heap[g]?=some (.cells (Sort.putCells id 0 L'.flatten.toArray cur) e (0,0)):=by rw[p5 g Kq,aap rfl,q3];rfl
 have UY:aG C.P (rI w g n L'.flatten.toArray os) (aO S (rI w g n L'.flatten.toArray os)) e (aX L') (.slice (some ⟨g,0,none⟩) (aX L).length cap):=by
  refine⟨i,L'.flatten,hi,hpos,⟨by rw[C1,<-hlen,g2];exact gL Pq,.inr ⟨g,cap,_,by rw[C1,qg],aaj _,nS,by rw[C1,<-qg];exact q4,q5,by rw[c1];exact q6,?_⟩⟩,by rw[g2];exact IJ Pq,fun u hu=>?_,Bu (by rw[g2];exact Pq)⟩
  ·rw[C1,<-XU];exact c2
  obtain⟨r,RO,iO⟩:=List.mem_flatten.1 hu;exact h1 r RO u iO
 refine⟨_,S,he,⟨p1,p2,p3,p4,fun k hk hn=>?_⟩,fun _ h=>h,fun b hb=>aaW (hS b hb) p4,fun b hb=>.inl hb,⟨?_,fun g' nS=>Wk g' nS⟩,tail _,UW _,fun g' _ nS=>⟨?_,.inr (UU g' (aI rfl nS)),fun i=>MT _ i g'⟩⟩
 ·rw[p5 k hk,aaa];intro e;subst e;exact hn (UU k rfl)
 ·rw[UX];exact aG.front UY rfl (by rw[qg];exact hm) rfl
 have nS:=aI rfl nS;have:g=g':=by injection nS
 rw[<-this];exact aaW Kq p4
end Go.AM
namespace Go.AM
open Go.RowKit Go.ChangeShapes
section
variable {H:Type} {enc:TypeId×Value->H} {P:Program} {w:World} {S:Nat->Prop}
def IK(enc:TypeId×Value->H)(P:Program)(w:World)(S:Nat->Prop)(t:TypeId)(k:Nat)(Q:List PV->DataW H->Prop):Prop:=
 ∀n cs x,DataW.trod enc P w 0 (fun _=>true) true n t cs=some x->∃xs,xs.length=k/\cs.length=k/\(∀(i:Nat) c v,xs[i]?=some c->cs[i]?=some v->aO S w c v/\v.oneCell'=true)/\Q xs x.1
theorem one_cell{c:PV}{u:Value}(h:aO S w c u/\u.oneCell'=true):∀(i:Nat) c' v,[c][i]?=some c'->[u][i]?=some v->aO S w c' v/\v.oneCell'=true:=fun i c' v h1 h2=>by
 match i,h1,h2 with
 | 0,h1,h2=>cases h1;cases h2;exact h
 | n+1,h1,h2=>cases h1
theorem Pr{t:TypeId}(ht:P.underlying t=some (.int .i64)):IK enc P w S t 1 fun xs d=>∃n:Int,xs=[.im (.int .i64 n)]/\d=.lit (.int .i64 n):=fun n cs x h=>by
 obtain⟨z,rfl,rfl,_⟩:=DataW.trod_int ht h;exact⟨[.im (.int .i64 z)],rfl,rfl,one_cell ⟨.im _,rfl⟩,z,rfl,rfl⟩
theorem Pt{t:TypeId}(ht:P.underlying t=some .string):IK enc P w S t 1 fun xs d=>∃s:ByteArray,xs=[.im (.string s)]/\d=.lit (.string s.data.toList):=fun n cs x h=>by
 obtain⟨s,rfl,rfl,_⟩:=DataW.trod_string ht h;exact⟨[.im (.string s)],rfl,rfl,one_cell ⟨.im _,rfl⟩,s,rfl,rfl⟩
theorem Pu{a:Addr}{v:Value}(h:w.cell? a=some v):a.spot=none/\a.block<w.heap.size:=by
 unfold World.cell? at h;split at h
 ·rename_i c _ _ hh;refine⟨?_,?_⟩
  ·cases hs:a.spot with
   | none=>rfl
   | some s=>rw[hs]at h;cases h
  rcases aen a.block w.heap.size with h' | h'
  ·exact h'
  rw[abm h']at hh;cases hh
 cases h
variable {Q:List PV->DataW H->Prop}
theorem Kr{t e:TypeId}{k:Nat}(ht:P.underlying t=some (.slice e))(hc:P.cellsOf e=k)(hk:0<k)(hS:∀b,b<w.heap.size->S b)(he:IK enc P w S e k Q):
  IK enc P w S t 1 fun xs d=>∃(es:List (List PV)) (ds sp:List (DataW H)),xs=[.sl es]/\es.length=ds.length/\(d=.nil/\ds=[]\/d=.slice ds sp)/\∀(i:Nat) x y,es[i]?=some x->ds[i]?=some y->Q x y:=fun n cs x h=>by
 rcases Go.Deep.open_slice ht h with⟨rfl,rfl⟩ | ⟨a,len,cap,m,n,D,Pl,rfl,hb,hl,hm,DW,rfl,hx⟩
 ·exact⟨[.sl []],rfl,rfl,one_cell ⟨.nil _ _,rfl⟩,[],[],[],rfl,rfl,.inl ⟨rfl,rfl⟩,fun i x y h=>by cases h⟩
 have Wa:len<=m:=by rw[DW];split<;>omega
 rcases ace len with h0 | hpos
 ·subst h0;exact⟨[.sl []],rfl,rfl,one_cell ⟨.nil _ _,rfl⟩,[],[],_,rfl,rfl,.inr rfl,fun i x y h=>by cases h⟩
 rw[hc]at hx;have each:∀i,i<len->∃p:List PV×List Value,p.1.length=k/\p.2.length=k/\(∀j,j<k->w.cell? ((a.add (i*k)).add j)=p.2[j]?)/\(∀(j:Nat) c v,p.1[j]?=some c->p.2[j]?=some v->aO S w c v/\v.oneCell'=true)/\Q p.1 (D i):=fun i hi=>by
  obtain⟨mZ,h1,h2⟩:=hx i (by omega);obtain⟨_,hlen,hcell⟩:=World.cells?_some h1;obtain⟨xs,l1,l2,l3,l4⟩:=he _ _ _ h2;exact⟨(xs,mZ),l1,l2,hcell,l3,l4⟩
 obtain⟨F,hF⟩:=Go.Deep.choose_lt (α:=List PV×List Value) each;have get:∀(i:Nat) e,((List.range len).map fun i=>(F i).1)[i]?=some e->i<len/\e=(F i).1:=fun i e h=>by
  rw[aak,acq]at h;obtain⟨j,hj,rfl⟩:=h;obtain⟨h1,h2⟩:=aao.1 hj;rw[List.getElem_range]at h2;subst h2;exact⟨by simpa using h1,rfl⟩
 have cellOf:∀i j,i<len->j<k->w.cell? ((a.add (i*k)).add j)=some (((F i).2[j]?).getD .nilIface):=fun i j hi hj=>by
  obtain⟨_,l2,h3,_⟩:=hF i hi;rw[h3 j hj,acg (by omega)];rfl
 have hz:=Pu (cellOf 0 0 hpos hk);obtain⟨b,off,spot⟩:=a;have Jv:spot=none:=by simpa [Addr.add] using hz.1
 subst Jv;have XV:b<w.heap.size:=by simpa [Addr.add] using hz.2
 have az:∀i j,((⟨b,off,none⟩:Addr).add (i*k)).add j=⟨b,off+i*k+j,none⟩:=fun i j=>by
  unfold Addr.add;by_cases h1:i*k=0
  ·rw[aap h1,h1];by_cases h2:j=0
   ·rw[aap h2,h2];rfl
   rw[aaa h2];rfl
  rw[aaa h1];by_cases h2:j=0
  ·rw[aap h2,h2];rfl
  rw[aaa h2]
 refine⟨[.sl ((List.range len).map fun i=>(F i).1)],rfl,rfl,one_cell ⟨?_,rfl⟩,(List.range len).map fun i=>(F i).1,(List.range len).map D,_,rfl,by simp,.inr rfl,fun i x y h1 h2=>?_⟩
 ·have hlen:((List.range len).map fun i=>(F i).1).length=len:=by simp
  have:=aO.sl (S:=S) (w:=w) ((List.range len).map fun i=>(F i).1) k b off cap (fun i j=>((F i).2[j]?).getD .nilIface) (by rw[hlen];exact hl) (hS b XV)
   (fun e GQ=>by obtain⟨i,hi,rfl⟩:=adS.1 GQ;exact (hF i (abD.1 hi)).1)
   (fun i e j x h1 h2=>by
    obtain⟨hi,rfl⟩:=get i e h1;have hj:j<k:=by rw[<-(hF i hi).1];exact (aao.1 h2).1
    have hv:(F i).2[j]?=some (((F i).2[j]?).getD .nilIface):=by rw[acg (by rw[(hF i hi).2.1];exact hj)];rfl
    exact⟨by rw[<-az];exact cellOf i j hi hj,((hF i hi).2.2.2.1 j x _ h2 hv).2⟩)
   (fun i e j x h1 h2=>by
    obtain⟨hi,rfl⟩:=get i e h1;have hj:j<k:=by rw[<-(hF i hi).1];exact (aao.1 h2).1
    have hv:(F i).2[j]?=some (((F i).2[j]?).getD .nilIface):=by rw[acg (by rw[(hF i hi).2.1];exact hj)];rfl
    exact ((hF i hi).2.2.2.1 j x _ h2 hv).1)
  rw[hlen]at this;exact this
 obtain⟨hi,rfl⟩:=get i x h1;rw[aak,abP hi]at h2;cases h2;exact (hF i hi).2.2.2.2
instance:Inhabited PV:=⟨.sl []⟩
theorem jP{t:TypeId}{fs:Array Field}(ht:P.underlying t=some (.struct fs))(jg:∀(i:Nat) (f:Field),fs[i]?=some f->f.offset=i/\P.cellsOf f.type=1)(hc:P.cellsOf t=fs.size)(Qs:Nat->List PV->DataW H->Prop)
  (hf:∀(i:Nat) (f:Field),fs[i]?=some f->IK enc P w S f.type 1 (Qs i)):
  IK enc P w S t fs.size fun xs d=>∃ds:List (DataW H),d=.agg ds/\ds.length=fs.size/\∀(i:Nat) x y,xs[i]?=some x->ds[i]?=some y->Qs i [x] y:=fun n cs x h=>by
 obtain⟨ys,m,_,rfl,hl,hlen,hy⟩:=DataW.trod_struct ht h;rw[hc]at hl;have each:∀i,i<fs.size->∃c:PV,∃y v,ys[i]?=some y/\cs[i]?=some v/\aO S w c v/\v.oneCell'=true/\Qs i [c] y.1:=fun i hi=>by
  have QV:fs[i]?=some fs[i]:=aa1 hi;obtain⟨ho,h1⟩:=jg i _ QV;have QW:=hy i _ QV;rw[ho,h1]at QW;have UZ:ys[i]?=some ys[i]:=acg (by omega);rw[UZ]at QW;obtain⟨xs,l1,l2,l3,l4⟩:=hf i _ QV _ _ _ QW;have pN:cs[i]?=some cs[i]:=acg (by omega);have hd:(cs.drop i).take 1=[cs[i]]:=by
   rw[acX (by omega)];rfl
  rw[hd]at l3;obtain⟨c,rfl⟩:∃c,xs=[c]:=by
   match xs,l1 with
   | [c],_=>exact⟨c,rfl⟩
  exact⟨c,ys[i],cs[i],UZ,pN,(l3 0 _ _ rfl rfl).1,(l3 0 _ _ rfl rfl).2,l4⟩
 obtain⟨F,hF⟩:=Go.Deep.choose_lt (α:=PV) each;refine⟨(List.range fs.size).map F,by simp,hl,fun i c v h1 h2=>?_,ys.map (·.1),rfl,by rw[aej,hlen],fun i x y h1 h2=>?_⟩
 ·have hi:i<fs.size:=by have:=(aao.1 h1).1;simpa using this
  rw[aak,abP hi]at h1;cases h1;obtain⟨y,v',_,e2,e3,e4,_⟩:=hF i hi;rw[h2]at e2;cases e2;exact⟨e3,e4⟩
 have hi:i<fs.size:=by have:=(aao.1 h1).1;simpa using this
 rw[aak,abP hi]at h1;cases h1;obtain⟨y',v',e1,_,_,_,e5⟩:=hF i hi;rw[aak,e1]at h2;cases h2;exact e5
theorem Pv{t:TypeId}{k:Nat}(hd:IK enc P w S t k Q){vs:Array Value}{d:DataW H}{ps:List MemPlace}(h:DataW.Trod enc P w 0 (fun _=>true) true t (.agg vs) d ps):
  ∃xs,aO S w (.ag xs) (.agg vs)/\xs.length=k/\Q xs d:=by
 obtain⟨n,hn⟩:=h;obtain⟨xs,l1,l2,l3,l4⟩:=hd _ _ _ hn;have l2:vs.toList.length=k:=l2;have get:∀(i:Nat) (v:Value),vs[i]?=some v->vs.toList[i]?=some v:=fun i v h=>by rw[aek];exact h
 refine⟨xs,.ag xs vs (by rw[l1,<-l2];simp) (fun u hu=>?_) fun i c v h1 h2=>(l3 i c v h1 (get i v h2)).1,l1,l4⟩;obtain⟨i,hi⟩:=ab8.1 hu;have eF:i<xs.length:=by have:=(aao.1 hi).1;omega
 exact (l3 i _ u (acg eF) hi).2
theorem yS{t:TypeId}{fs:Array Field}{k:Nat}{r:Reach}{b0:Nat}(ht:P.underlying t=some (.struct fs))(hd:IK enc P w S t k Q){v:Value}{d:DataW H}{ps:List MemPlace}(hv:Value.okWide P w r b0 t v)(h:DataW.Trod enc P w 0 (fun _=>true) true t v d ps):
  ∃xs,aO S w (.ag xs) v/\Q xs d:=by
 obtain⟨cs,rfl,_⟩:=Go.WideShapes.okWide_struct ht hv;obtain⟨xs,h1,_,h2⟩:=Pv hd h;exact⟨xs,h1,h2⟩
theorem U0(w:World)(xs:List PV)(vs:Array Value)(g:Nat):¬Mv w (xs.map Arg.pv) vs g:=by
 rintro⟨j,y,v,h1,_,h2,_⟩;rw[aak,acq]at h1;obtain⟨x,_,rfl⟩:=h1;cases h2
def Pw(S:Nat->Prop)(w:World)(xs:List PV)(vs:List Value):Prop:=xs.length=vs.length/\∀(j:Nat) x v,xs[j]?=some x->vs[j]?=some v->aO S w x v
theorem MU:Pw S w [] []:=⟨rfl,fun j x v h=>by cases h⟩
theorem Bv{x:PV}{v:Value}{xs:List PV}{vs:List Value}(h:aO S w x v)(hr:Pw S w xs vs):Pw S w (x::xs) (v::vs):=⟨by rw[aaB,aaB,hr.1],fun j x' v' h1 h2=>by
 match j,h1,h2 with
 | 0,h1,h2=>cases h1;cases h2;exact h
 | j+1,h1,h2=>exact hr.2 j x' v' h1 h2⟩
theorem Sy{C:Ctx}{f:FuncId}{xs:List PV}{y:Value}(h:af C f (xs.map Arg.pv) (.p (.im y)) []){vs:Array Value}(hE:C.E (fun b=>b<w.heap.size) w)(hr:Pw (fun b=>b<w.heap.size) w xs vs.toList):
  Calls C.P f vs w fun e w'=>e=.returned y/\Below w.heap.size w w':=by
 refine (h.2 (fun b=>b<w.heap.size) w vs hE (fun _ h=>h) (by rw[aej,hr.1];simp) (fun j x v h1 h2=>?_) (fun i j x y v u g h1 _ _ _ h5=>?_)).mono ?_
 ·rw[aak,acq]at h1;obtain⟨x,hx,rfl⟩:=h1;exact hr.2 j x v hx (by rw[aek];exact h2)
 ·rw[aak,acq]at h1;obtain⟨x,_,rfl⟩:=h1;cases h5
 rintro e w' ⟨v,S',rfl,hf,_,_,_,hv,_⟩;have hv:aO S' w' (.im y) v:=hv;cases hv;exact⟨rfl,hf.os,hf.tape,hf.output,hf.size,fun k hk=>hf.block k hk (U0 _ _ _ _)⟩
end
end Go.AM
namespace Go.Proofs.YtfloceomobknoaaGreatDoor
namespace M
open Go.AM Go.RowKit Go.Lib Go.Sort
open Reg (ae aU an)
instance:Inhabited ae:=⟨⟨0,0,0,0⟩⟩
def cl(n:Int):Int:=max (-4611686018427387904) (min n 4611686018427387903)
theorem IL(n:Int):-4611686018427387904<=cl n/\cl n<=4611686018427387903:=by unfold cl;omega
theorem wI{n:Int}(h:-4611686018427387904<=n/\n<=4611686018427387903):cl n=n:=by unfold cl;omega
def Bd(r:ae):Prop:=(-4611686018427387904<=r.x0/\r.x0<=4611686018427387903)/\(-4611686018427387904<=r.y0/\r.y0<=4611686018427387903)/\(-4611686018427387904<=r.x1/\r.x1<=4611686018427387903)/\(-4611686018427387904<=r.y1/\r.y1<=4611686018427387903)
def ij(r:ae):List Value:=[.int .i64 (cl r.x0),.int .i64 (cl r.y0),.int .i64 (cl r.x1),.int .i64 (cl r.y1)]
theorem Px{r:ae}(h:Bd r):(ij r).map PV.im=rc r:=by
 obtain⟨h1,h2,h3,h4⟩:=h;simp only[ij,wI h1,wI h2,wI h3,wI h4];rfl
theorem wJ{l:List ae}(h:∀r∈l,Bd r):aX (l.map ij)=l.map rc:=by
 unfold aX;rw[ad6];exact aaG fun r hr=>Px (h r hr)
theorem tZ{l:List ae}:∀r∈l.map ij,r.length=4:=by
 intro r hr;obtain⟨x,_,rfl⟩:=adS.1 hr;rfl
theorem Ez(d:Array ae):flatK ij 4 d=(d.toList.map ij).flatten.toArray:=by
 apply Array.ext_getElem?;intro q;have hlen:(d.toList.map ij).flatten.length=d.size*4:=by rw[gL (k:=4) tZ];simp
 by_cases hq:q<d.size*4
 ·have h1:q / 4<d.size:=by omega
  have h2:q % 4<4:=abt _ (by omega);have e:q / 4*4+q % 4=q:=by omega
  have hg:=get_flatK ij 4 d q hq;have hsz:(flatK ij 4 d).size=d.size*4:=by simp
  rw[aa1 (by omega),<-getElem!_pos (flatK ij 4 d) q (by omega),hg];have hr:(d.toList.map ij)[q / 4]?=some (ij d[q / 4]!):=by
   rw[aak,aek,aa1 h1,ab6,getElem!_pos d _ h1]
  have hv:(ij d[q / 4]!)[q % 4]?=some ((ij d[q / 4]!)[q % 4]!):=by
   have h3:q % 4<(ij d[q / 4]!).length:=h2;rw[acg h3,getElem!_pos (ij d[q / 4]!) (q % 4) h3]
  have:=C0 (k:=4) tZ hr hv;rw[e]at this;simpa using this.symm
 rw[abm (by simp;omega),abm (by simp only[aaf];omega)]
def MV(a b:ae):Int:=cl a.y0-cl b.y0
def G8(a b:ae):Int:=cl a.x0-cl b.x0
theorem Wl(a b:ae):ltOf MV a b=decide (cl a.y0<cl b.y0):=by unfold ltOf MV;congr 1;exact propext ⟨fun h=>by omega,fun h=>by omega⟩
theorem Wm(a b:ae):ltOf G8 a b=decide (cl a.x0<cl b.x0):=by unfold ltOf G8;congr 1;exact propext ⟨fun h=>by omega,fun h=>by omega⟩
theorem U1:SWO (ltOf MV) where
 irrefl x:=by rw[Wl];simp
 trans x y z h1 h2:=by rw[Wl]at *;simp at *;omega
 ntrans x y z h1 h2:=by rw[Wl]at *;simp at *;omega
theorem U2:SWO (ltOf G8) where
 irrefl x:=by rw[Wm];simp
 trans x y z h1 h2:=by rw[Wm]at *;simp at *;omega
 ntrans x y z h1 h2:=by rw[Wm]at *;simp at *;omega
theorem MW(x y:ae)(W:World):Calls Tryz.prog 83 #[.agg (ij x).toArray,.agg (ij y).toArray] W fun e w'=>e=.returned (.int .i64 (MV x y))/\∃q U3,w'=grow (W.drewN q) U3:=by
 have h1:=IL x.y0;have h2:=IL y.y0;unfold ij MV;generalize cl x.x0=a1 at *;generalize cl x.y0=a2 at *;generalize cl x.x1=a3 at *;generalize cl x.y1=a4 at *;generalize cl y.x0=b1 at *;generalize cl y.y0=b2 at *;generalize cl y.x1=b3 at *;generalize cl y.y1=b4 at *
 go_enter Tryz.func83,Tryz.ntmps83
 go_wp2
 go_ret
 exact⟨rfl,0,_,by rw[alloc_eq_grow,alloc_eq_grow,grow_grow];rfl⟩
theorem MX(x y:ae)(W:World):Calls Tryz.prog 163 #[.agg (ij x).toArray,.agg (ij y).toArray] W fun e w'=>e=.returned (.int .i64 (G8 x y))/\∃q U3,w'=grow (W.drewN q) U3:=by
 have h1:=IL x.x0;have h2:=IL y.x0;unfold ij G8;generalize cl x.x0=a1 at *;generalize cl x.y0=a2 at *;generalize cl x.x1=a3 at *;generalize cl x.y1=a4 at *;generalize cl y.x0=b1 at *;generalize cl y.y0=b2 at *;generalize cl y.x1=b3 at *;generalize cl y.y1=b4 at *
 go_enter Tryz.func163,Tryz.ntmps163
 go_wp2
 go_ret
 exact⟨rfl,0,_,by rw[alloc_eq_grow,alloc_eq_grow,grow_grow];rfl⟩
def fh(cf:ae->ae->Int)(l:List ae):List ae:=(pdq (ltOf cf) l.toArray 0 l.toArray.size (Lib.bitLen l.toArray.size) true true).toList
theorem o7(cf:ae->ae->Int)(hO:SWO (ltOf cf))(l:List ae):(fh cf l).Perm l/\(fh cf l).Pairwise fun a b=>ltOf cf b a=false:=by
 obtain⟨h1,h2⟩:=pdq_sorts (ltOf cf) hO l.toArray 0 l.toArray.size (Lib.bitLen l.toArray.size) true true (aaj _) (aam _) (Or.inl rfl);obtain⟨p1,_,p3⟩:=h1;have hp:(fh cf l).Perm l:=by
  have e1:∀d:Array ae,d.size=l.toArray.size->(d.extract 0 l.toArray.size).toList=d.toList:=fun d h=>by rw[<-h];simp
  rw[e1 _ p1,e1 _ rfl]at p3;unfold fh;simpa using p3
 refine⟨hp,?_⟩;rw[aaS];intro i j hi hj DX;have hs:(fh cf l).length=l.toArray.size:=by rw[hp.length_eq];simp
 have:=h2 i j (aaj _) DX (by omega);unfold fh at hi hj ⊢;simp only[abj]at hi hj;rw[getElem!_pos _ j hj,getElem!_pos _ i hi]at this;simpa using this
theorem EA{l:List ae}(h:∀r∈l,Bd r):(fh MV l).Perm l/\(fh MV l).Pairwise fun a b=>a.y0<=b.y0:=by
 obtain⟨h1,h2⟩:=o7 MV U1 l;refine⟨h1,h2.imp_of_mem fun {a b} ha hb qb=>?_⟩;rw[Wl,wI (h b (h1.mem_iff.1 hb)).2.1,wI (h a (h1.mem_iff.1 ha)).2.1]at qb;simpa using qb
theorem wK{l:List ae}(h:∀r∈l,Bd r):(fh G8 l).Perm l/\(fh G8 l).Pairwise fun a b=>a.x0<=b.x0:=by
 obtain⟨h1,h2⟩:=o7 G8 U2 l;refine⟨h1,h2.imp_of_mem fun {a b} ha hb qb=>?_⟩;rw[Wm,wI (h b (h1.mem_iff.1 hb)).1,wI (h a (h1.mem_iff.1 ha)).1]at qb;simpa using qb
theorem EB(cf:ae->ae->Int)(hO:SWO (ltOf cf))(g:Nat)(eg:∀args w,(callFunc g args).run Tryz.prog w=.ok (.enter g args) w)
  (je:∀(x y:ae) (W:World),Calls Tryz.prog g #[.agg (ij x).toArray,.agg (ij y).toArray] W fun e w'=>e=.returned (.int .i64 (cf x y))/\∃q U3,w'=grow (W.drewN q) U3)
  (l:List ae) (hl:∀r∈l,Bd r) (hN:l.length<4611686018427387904):af C 82 [.row 87 (l.map rc),.pv (.im (.func (.func g) #[] #[]))] (.tu []) [.row ((fh cf l).map rc)]:=by
 obtain⟨hp,_⟩:=o7 cf hO l;have IM:∀r∈fh cf l,Bd r:=fun r hr=>hl r (hp.mem_iff.1 hr);have:=yR hC (f:=82) 87 _ rfl (by decide) [.func (.func g) #[] #[]] (l.map ij) ((fh cf l).map ij) tZ tZ (by rw[aej,aej,hp.length_eq])
  (fun r hr v hv=>by
   obtain⟨x,_,rfl⟩:=adS.1 hr;simp only[ij,adq,adI,or_false]at hv;rcases hv with rfl | rfl | rfl | rfl<;>rfl)
  ⟨_,Tryz.func82,rfl,rfl⟩
  (fun _ w=>AnyF.slices_SortFunc_none Tryz.laysSortRect none 0 (.func (.func g) #[] #[]) w)
  (fun S w cC cap hE hblk _ hcell=>by
   have hH:HoldsK ij 4 w cC 0 l.toArray:=by
    unfold HoldsK;intro j hj;rw[Ez]at hj ⊢;simp only[aaf]at hj;have hv:(l.map ij).flatten[j]?=some ((l.map ij).flatten[j]'hj):=acg hj;obtain⟨h1,h2⟩:=hcell j _ hv;rw[abC];refine⟨?_,h2⟩;rw[h1];congr 1;rw[getElem!_pos _ j (by simpa using hj)];simp
   have hc:=AnyQ.slices_SortFunc_eq Tryz.laysSortRect 4 (fun w=>(hC.iq 87 _ rfl).isAgg w) (fun w=>(hC.iq 87 _ rfl).sizeOf w) ij (fun _=>rfl) (fun x v hv=>by
    simp only[ij,adq,adI,or_false]at hv;rcases hv with rfl | rfl | rfl | rfl<;>rfl) cf hO g #[] cC 0 cap l.toArray w eg (fun _ _ _ _ x y=>je x y _) hH hblk (by simpa using hN)
   have e:l.toArray.size=(l.map ij).length:=by simp
   rw[e]at hc;refine hc.mono fun e' w' ⟨h1,n,os,h2⟩=>⟨h1,n,os,?_⟩;rw[h2];unfold sortWorldK putRowK rI;rw[Ez,<-e];rfl)
 rw[wJ hl,wJ IM]at this;exact this
theorem Sz(l:List ae)(hl:∀r∈l,Bd r)(hN:l.length<4611686018427387904):af C 82 [.row 87 (l.map rc),.pv (.im (.func (.func 83) #[] #[]))] (.tu []) [.row ((fh MV l).map rc)]:=
 EB MV U1 _ (enters_of Tryz.func83 (by kernel_rfl) rfl) MW l hl hN
theorem SA(l:List ae)(hl:∀r∈l,Bd r)(hN:l.length<4611686018427387904):af C 82 [.row 87 (l.map rc),.pv (.im (.func (.func 163) #[] #[]))] (.tu []) [.row ((fh G8 l).map rc)]:=
 EB G8 U2 _ (enters_of Tryz.func163 (by kernel_rfl) rfl) MX l hl hN
theorem C2(d:Array Int)(hs:∀i j,i<=j->j<d.size->d[i]!<=d[j]!):∀m,m<=d.size->Reg.bF (compactUpTo d m)/\(∀x,x∈compactUpTo d m↔∃j,j<m/\d[j]! = x):=by
 intro m
 induction m with
 | zero=>intro _;exact⟨by simp[compactUpTo,Reg.bF],by simp[compactUpTo]⟩
 | succ m ih=>
  intro hm;obtain⟨h1,h2⟩:=ih (by omega);rw[compactUpTo_succ];cases hk:keeps d m with
  | true=>
   have l_:m=0\/d[m]!≠d[m-1]!:=by simpa [keeps] using hk
   have eF:∀x∈compactUpTo d m,x<d[m]!:=by
    intro x hx;obtain⟨j,hj,rfl⟩:=(h2 x).1 hx;rcases l_ with h | h
    ·omega
    have a:=hs j (m-1) (by omega) (by omega);have b:=hs (m-1) m (by omega) (by omega);omega
   refine⟨?_,fun x=>?_⟩
   ·simp only[aap];exact abZ.2 ⟨h1,by simp,fun a ha b hb=>by simp at hb;subst hb;exact eF a ha⟩
   simp only[aap,abi,ab_,h2];constructor
   ·rintro (⟨j,hj,rfl⟩ | rfl)
    ·exact⟨j,by omega,rfl⟩
    exact⟨m,by omega,rfl⟩
   rintro⟨j,hj,rfl⟩;by_cases e:j=m
   ·exact .inr (by rw[e])
   exact .inl ⟨j,by omega,rfl⟩
  | false=>
   have l_:m≠0/\d[m]! = d[m-1]!:=by simpa [keeps] using hk
   simp only[acO,aaa,acw,not_false_eq_true];refine⟨h1,fun x=>?_⟩;rw[h2];constructor
   ·rintro⟨j,hj,rfl⟩;exact⟨j,by omega,rfl⟩
   rintro⟨j,hj,rfl⟩;by_cases e:j=m
   ·exact⟨m-1,by omega,by rw[e];exact l_.2.symm⟩
   exact⟨j,by omega,rfl⟩
theorem AE{zs:List Int}(hs:zs.Pairwise (·<=·)):Reg.bF (compact zs)/\∀x,x∈compact zs↔x∈zs:=by
 have hg:∀i (h:i<zs.length),zs.toArray[i]! = zs[i]:=fun i h=>by rw[getElem!_pos _ i (by simpa using h)];simp
 obtain⟨h1,h2⟩:=C2 zs.toArray (fun i j DX hj=>by
  have hj:j<zs.length:=by simpa using hj
  rw[hg i (by omega),hg j hj];by_cases e:i=j
  ·subst e;omega
  exact aaS.1 hs i j (by omega) hj (by omega)) zs.length (by simp)
 refine⟨h1,fun x=>(h2 x).trans ?_⟩;constructor
 ·rintro⟨j,hj,rfl⟩;rw[hg j hj];exact adn hj
 intro hx;obtain⟨j,hj,rfl⟩:=ac8 hx;exact⟨j,hj,hg j hj⟩
def encI(n:Int):List Value:=[.int .i64 n]
theorem t_{l:List Int}:∀r∈l.map encI,r.length=1:=by
 intro r hr;obtain⟨x,_,rfl⟩:=adS.1 hr;rfl
theorem o9(l:List Int):aX (l.map encI)=l.map fun n=>[i64 n]:=by
 unfold aX;rw[ad6];rfl
theorem vy(l:List Int):(l.map encI).flatten=l.map (Value.int .i64):=by
 induction l with
 | nil=>rfl
 | cons a l ih=>rw[aa8,abK,ih];rfl
theorem yT(w:World)(b n:Nat)(l:List Int):putRow (Value.int .i64) (Sort.ahead w n) b 0 l.toArray=putRow id (Sort.ahead w n) b 0 (l.map (Value.int .i64)).toArray:=by
 unfold putRow;refine mapBlock_congr _ _ _ _ fun c _ _ _=>?_;apply Array.ext_getElem?;intro k;simp only[putCells,Array.getElem?_mapIdx,aaf,aej];cases c[k]? with
 | none=>rfl
 | some x=>
  simp only[ab6];by_cases h:0<=k/\k<0+l.length
  ·rw[aap h,aap h];congr 1;rw[getElem!_pos _ (k-0) (by simp;omega),getElem!_pos _ (k-0) (by simp;omega)];simp
  rw[aaa h,aaa h]
theorem yU{w:World}{cC:Nat}{l:List Int}(h:∀j v,(l.map encI).flatten[j]?=some v->w.cell? ⟨cC,j,none⟩=some v/\w.frozen? ⟨cC,j,none⟩=false):Holds (Value.int .i64) w cC 0 l.toArray:=by
 intro j hj;have Lw:j<l.length:=by simpa using hj
 rw[vy]at h;obtain⟨h1,h2⟩:=h j (.int .i64 l[j]) (by rw[aak,acg Lw];rfl);rw[abC,h1];refine⟨?_,h2⟩;rw[getElem!_pos _ j hj];simp
def wL(l:List Int):List Int:=l.mergeSort fun x y=>decide (x<=y)
theorem Ks(l:List Int)(hN:l.length<4611686018427387904):af C 84 [.row 3 (l.map fun n=>[i64 n])] (.tu []) [.row ((wL l).map fun n=>[i64 n])]:=by
 have:=yR hC (f:=84) 3 _ rfl (by decide) [] (l.map encI) ((wL l).map encI) t_ t_ (by rw[aej,aej,wL,List.length_mergeSort])
  (fun r hr v hv=>by
   obtain⟨x,_,rfl⟩:=adS.1 hr;simp only[encI,ab_]at hv;rw[hv];rfl)
  ⟨_,Tryz.func84,rfl,rfl⟩
  (fun _ w=>Tryz.slices_Sort_int_none none 0 w)
  (fun S w cC cap hE hblk _ hcell=>by
   have hc:=Tryz.slices_Sort_int cC 0 cap l w (yU hcell) hblk hN;rw[aej];refine hc.mono fun e' w' ⟨h1,n,os,h2⟩=>⟨h1,n,os,?_⟩;rw[h2];unfold rI;rw[vy,<-yT];rfl)
 rw[o9,o9]at this;exact this
theorem C3(l:List Int)(hN:l.length<=9223372036854775807):af C 85 [.row 3 (l.map fun n=>[i64 n])] (.own 3 ((compact l).map fun n=>[i64 n])) [.gone]:=by
 have je:=compact_length_le l;have:=G7 hC (f:=85) 3 _ rfl (by decide) [] (l.map encI) ((compact l++List.replicate (l.length-(compact l).length) 0).map encI) (compact l).length (by rw[aej];exact je) t_ t_ (by simp;omega)
  (fun r hr v hv=>by
   obtain⟨x,_,rfl⟩:=adS.1 hr;simp only[encI,ab_]at hv;rw[hv];rfl)
  ⟨_,Tryz.func85,rfl,rfl⟩
  (fun _ w=>Tryz.slices_Compact_int_empty none 0 w)
  (fun S w cC cap hE hblk Cs hcell=>by
   rw[aej]at Cs;have hc:=Tryz.slices_Compact_int cC 0 cap l w (yU hcell) hN Cs;rw[aej];refine hc.mono fun e' w' ⟨h1,n,h2⟩=>⟨h1,n,#[],?_⟩;rw[h2];unfold rI;rw[vy,<-yT,grow_empty])
 rw[<-aco,o9,o9,List.take_left]at this;exact this
theorem C4(l:List ae):∀r∈l.map rc,r.length=4:=by
 intro r hr;obtain⟨x,_,rfl⟩:=adS.1 hr;rfl
theorem EC(l:List ae)(hN:l.length<=4398046511104):af C 81 [.pv (aj l)] (.own 87 (l.map rc)) []:=by
 cases l with
 | nil=>
  refine fW hC Tryz.func81 rfl (by kernel_rfl) fun _=>?_;refine⟨?_,?_⟩
  ·exact⟨Z,Y⟩
  refine⟨⟨by simp,by simp,by simp⟩,?_⟩;exact⟨Z,Z,Y⟩
 | cons a l=>
  have hr:=C4 (a::l);have hl:=ai (a::l) rc;refine fW hC Tryz.func81 rfl (by kernel_rfl) fun _=>?_;refine⟨⟨hr,by simp at hN ⊢;omega,by simp at hN ⊢;omega⟩,?_⟩;exact⟨Z,Z,Y⟩
def od(y:Int)(r:ae):Bool:=decide (r.y1<=y)
theorem IN(r:ae)(ys:List Int)(k:Nat)(y:Int)(hy:ys[k]?=some y):af C 87 [.pv (.ag (rc r)),.pv (.ip [ints ys]),.pv (.ip [i64 k])] (.p (bool (od y r))) []:=by
 refine fW hC Tryz.func87 rfl (by kernel_rfl) fun _=>?_;refine⟨[i64 y],(idx rfl hy),?_⟩;refine⟨?_,trivial⟩;rfl
theorem ED(l:List ae)(hN:l.length<=140737488355328)(ys:List Int)(k:Nat)(y:Int)(hy:ys[k]?=some y):af C 161 [.row 87 (l.map rc),.pv (.fn 87 [.ip [ints ys],.ip [i64 k]])] (.p (i64 (jO (od y) l 0))) [.row (l.map rc)]:=by
 refine fW hC Tryz.func161 rfl (by kernel_rfl) fun _=>?_;have lm:=ai l rc;refine aJ (fun i:Nat=>i<=l.length/\∀x∈l.take i,od y x=false) (fun i=>[(0,.ow 100000),(1,.p (.fn 87 [.ip [ints ys],.ip [i64 k]])),(7,.p (i64 (l.map rc).length)),(8,.p (i64 i))]) (fun _=>[(100000,.row 87 (l.map rc))]) (fun i=>l.length-i) 0 _ (au.refl _ _) ⟨aaj _,by simp⟩ ⟨Z,Z,Z,Z,Y⟩ ⟨Z,Y⟩ fun i hi t h=>?_;refine iW ?_ ?_<;>intro h1
 ·rw[lm]at h1;obtain⟨x,hx⟩:=ak (l:=l) (i:=i) (by omega);refine⟨⟨by omega,by rw[lm];omega⟩,?_⟩;refine⟨(rc x),(idx rfl hx).2,?_⟩;refine⟨_,_,(IN x ys k y hy),?_⟩;refine iW ?_ ?_<;>intro h2
  ·exact⟨by rw[lY hx h2 hi.2,abC],Z,Y⟩
  refine⟨⟨by omega,by omega⟩,?_⟩;exact⟨(i+1),_,au.refl _ _,⟨by omega,tW hx h2 hi.2⟩,by omega,⟨Z,Z,Z,Z,Y⟩,⟨Z,Y⟩⟩
 rw[lm]at h1;have h2:=hi.2;rw[adW (by omega)]at h2;exact⟨by rw[iV h2];rfl,Z,Y⟩
variable {α:Type}
theorem MY{p:α->Bool}:∀{l:List α},l.any p=true->∃i x,l[i]?=some x/\p x=true/\∀z∈l.take i,p z=false:=by
 intro l
 induction l with
 | nil=>intro h;cases h
 | cons y l ih=>
  intro h;cases hy:p y with
  | true=>exact⟨0,y,rfl,hy,by simp⟩
  | false=>
   rw[abd,hy,abv]at h;obtain⟨i,x,h1,h2,h3⟩:=ih h;refine⟨i+1,x,by simpa using h1,h2,fun z hz=>?_⟩;rw[List.take_succ_cons,adq]at hz;rcases hz with rfl | hz
   ·exact hy
   exact h3 z hz
theorem MZ{m:List α}{a:Nat}{x:α}(h:a<m.length):(m.set a x).take (a+1)=m.take a++[x]:=by
 apply ach;intro j;rw[aa7,List.getElem?_set];by_cases h1:j<a
 ·rw[aap (by omega),aaa (by omega),aaE (by rw[aat];omega),aa7,aap h1]
 by_cases h2:j=a
 ·subst h2;rw[aap (by omega),aap rfl,aap h,acu (by rw[aat];omega)];simp[ac9 (Nat.le_of_lt h)]
 rw[aaa (by omega),abI (by simp;omega)]
theorem filter_none{p:α->Bool}{l:List α}(h:∀x∈l,p x=false):l.filter (fun x=>!p x)=l:=ab2.2 fun x hx=>by simp[h x hx]
theorem qA{p:α->Bool}{l:List α}{i:Nat}{x:α}(hx:l[i]?=some x):(l.take (i+1)).filter p=(l.take i).filter p++if p x then [x] else []:=by
 rw[aZ hx,acA];congr 1;cases h:p x<;>simp[List.filter,h]
theorem C5(l:List ae)(hN:l.length<=4398046511104)(ys:List Int)(k:Nat)(y:Int)(hy:ys[k]?=some y):af C 86 [.row 87 (l.map rc),.pv (.fn 87 [.ip [ints ys],.ip [i64 k]])] (.own 87 ((l.filter fun r=>!od y r).map rc)) [.gone]:=by
 refine fW hC Tryz.func86 rfl (by kernel_rfl) fun _=>?_;have lm:=ai l rc;refine⟨_,_,(ED l (by omega) ys k y hy),?_⟩;by_cases U4:l.any (od y)=true
 ·obtain⟨i0,x0,XW,Wn,Zj⟩:∃i x,l[i]?=some x/\od y x=true/\∀z∈l.take i,od y z=false:=MY U4;rw[lY XW Wn Zj,abC];have Tu:=(aao.1 XW).1;refine⟨⟨by omega,by omega⟩,?_⟩;refine aJ (fun p:Nat×Nat×List ae=>p.1<p.2.1/\p.2.1<=l.length/\p.2.2.length=l.length/\p.2.2.take p.1=(l.take p.2.1).filter (fun r=>!od y r)/\p.2.2.drop p.2.1=l.drop p.2.1) (fun p=>[(0,.ow 100000),(1,.p (.fn 87 [.ip [ints ys],.ip [i64 k]])),(5,.p (i64 p.1)),(6,.p (i64 p.2.1))]) (fun p=>[(100000,.row 87 (p.2.2.map rc))]) (fun p=>l.length-p.2.1) (i0,i0+1,l) _ (au.refl _ _) ⟨by simp,by simp only;omega,rfl,?_,rfl⟩ ⟨rfl,rfl,rfl,a8 (by simp only;omega),trivial⟩ ⟨Z,Y⟩ fun ⟨a,b,m⟩ hi t h=>?_
  ·simp only;rw[qA XW,filter_none Zj];simp[Wn]
  simp only at hi;obtain⟨q1,q2,q3,q4,q5⟩:=hi;have mm:=ai m rc;refine iW ?_ ?_<;>intro h2<;>try simp only[zB]at h2
  ·rw[mm,q3]at h2;obtain⟨x,hx⟩:=ak (l:=l) (i:=b) (by omega);have hmx:m[b]?=some x:=by
    have:(m.drop b)[0]?=(l.drop b)[0]?:=by rw[q5]
    simpa [hx] using this
   refine⟨⟨by simp only;omega,by simp only;rw[mm];omega⟩,?_⟩;refine⟨(rc x),(idx rfl hmx).2,?_⟩;refine⟨_,_,(IN x ys k y hy),?_⟩;refine iW ?_ ?_<;>intro h3
   ·obtain⟨z,hz⟩:=ak (l:=m) (i:=a) (by omega);refine⟨⟨by simp only;omega,by simp only;rw[mm];omega⟩,?_⟩;refine⟨(rc z),(idx rfl hz).2,?_⟩;refine⟨⟨by simp only;omega,by simp only;omega⟩,?_⟩;refine⟨⟨by simp only;omega,by simp only;omega⟩,?_⟩;refine⟨(a+1,b+1,m.set a x),_,au.refl _ _,?_⟩;refine⟨⟨by simp only;omega,by simp only;omega,by simp only;rw[aaM];exact q3,?_,?_⟩,by simp only;omega,⟨rfl,rfl,a8 (by simp only;omega),a8 (by simp only;omega),trivial⟩,⟨?_,trivial⟩⟩
    ·simp only;rw[MZ (by omega),q4,qA hx,h3];rfl
    ·simp only;rw[List.drop_set_of_lt (by omega)];have:=adV (List.drop 1) q5;simpa [ad7] using this
    show AB.row _ ((m.map rc).set a (rc x))=AB.row _ ((m.set a x).map rc);rw[ad8]
   refine⟨⟨by simp only;omega,by simp only;omega⟩,?_⟩;refine⟨(a,b+1,m),_,au.refl _ _,?_⟩;refine⟨⟨by simp only;omega,by simp only;omega,q3,?_,?_⟩,by simp only;omega,⟨rfl,rfl,rfl,a8 (by simp only;omega),trivial⟩,⟨Z,Y⟩⟩
   ·simp only;rw[q4,qA hx,h3];simp
   have:=adV (List.drop 1) q5;simpa [ad7] using this
  rw[mm,q3]at h2;refine Or.inl ?_;refine⟨⟨by simp only;omega,by simp only;rw[mm];omega,by simp only;omega⟩,?_⟩;refine⟨⟨by simp only[ad2];omega,by simp only[ad2];omega⟩,?_⟩;refine Or.inl ?_;have U5:((((m.map rc).take a++List.replicate ((m.map rc).length-a) [i64 0,i64 0,i64 0,i64 0]++(m.map rc).drop (m.map rc).length).length:Nat):Int)=m.length:=by simp;omega
  refine⟨⟨by omega,by simp only;omega,by simp only[ad2];exact Int.le_trans (show (a:Int)<=m.length by omega) (Int.le_of_eq U5.symm)⟩,?_⟩;refine⟨?_,Z,Y⟩;simp only[ad2];rw[abx,List.take_append_of_le_length (by rw[aat,mm];omega),acx,Nat.min_self,<-aco,q4,adW (by omega)]
 have DJ:∀x∈l,od y x=false:=fun x hx=>by
  cases h:od y x with
  | false=>rfl
  | true=>exact absurd (aci.2 ⟨x,hx,h⟩) U4
 rw[iV DJ];rw[filter_none DJ];exact⟨Z,Z,Y⟩
theorem C6(a b:Int):∀(s:aU),(s=[]->flat (Reg.dw s a b)=[a,b])/\(∀n,s.length=n+1->∃p,(flat s)[2*n+1]?=some p/\flat (Reg.dw s a b)=if a<=p then (flat s).set (2*n+1) (max p b) else flat s++[a,b]):=by
 intro s
 induction s with
 | nil=>exact⟨fun _=>rfl,fun n h=>by simp at h⟩
 | cons p s ih=>
  refine⟨fun h=>by simp at h,fun n hn=>?_⟩;cases s with
  | nil=>
   have:n=0:=by simpa using hn.symm
   subst this;refine⟨p.2,rfl,?_⟩;rw[Reg.dw];split<;>rfl
  | cons q s=>
   cases n with
   | zero=>simp at hn
   | succ n=>
    obtain⟨z,h1,h2⟩:=ih.2 n (by simpa using hn);refine⟨z,?_,?_⟩
    ·rw[show 2*(n+1)+1=(2*n+1)+1+1 by omega];simpa [flat] using h1
    rw[Reg.dw,flat,h2,show 2*(n+1)+1=(2*n+1)+1+1 by omega];split
    ·simp[flat]
    simp[flat]
theorem yV(a b:Int):∀(s:aU),(Reg.dw s a b).length<=s.length+1:=by
 intro s
 induction s with
 | nil=>simp[Reg.dw]
 | cons p s ih=>
  cases s with
  | nil=>rw[Reg.dw];split<;>simp
  | cons q s=>rw[Reg.dw];simp only[aaB]at ih ⊢;omega
theorem yW(l:List ae):(Reg.cY l).length<=l.length:=by
 suffices H:∀n (m:List ae),m.length=n->(Reg.cY m).length<=m.length from H _ l rfl
 intro n
 induction n with
 | zero=>
  intro m hm;have:m=[]:=adl hm;subst this;simp[Reg.cY]
 | succ n ih=>
  intro m hm;obtain⟨d,r,rfl⟩:∃d r,m=d++[r]:=by
   cases h:m.reverse with
   | nil=>simp at h;subst h;simp at hm
   | cons r d=>exact⟨d.reverse,r,by rw[<-List.reverse_reverse m,h];simp⟩
  rw[Reg.oV];have h1:=yV r.x0 r.x1 (Reg.cY d);have h2:=ih d (by simp at hm;exact hm);simp only[acv,abS];omega
theorem xq(l:List ae)(hl:∀r∈l,Bd r)(hN:l.length<=4398046511104):af C 89 [.row 87 (l.map rc)] (.p (ints (flat (Reg.cY (fh G8 l))))) [.row ((fh G8 l).map rc)]:=by
 refine fW hC Tryz.func89 rfl (by kernel_rfl) fun _=>?_;obtain⟨hp,_⟩:=wK hl;have qg:=hp.length_eq;refine⟨_,_,(SA l hl (by omega)),?_⟩;generalize fh G8 l=L at hp qg ⊢;have lm:=ai L rc;refine aJ (fun i:Nat=>i<=L.length) (fun i=>[(0,.ow 100000),(9,.ow 100000),(10,.p (i64 (L.map rc).length)),(11,.p (i64 i)),(3,.ow 3)]) (fun i=>[(100000,.row 87 (L.map rc)),(3,.row 3 ((flat (Reg.cY (L.take i))).map fun n=>[i64 n]))]) (fun i=>L.length-i) 0 _ (au.dk hC _ 3 3 _ (by decide) rfl rfl (by decide)) (aaj _) ⟨Z,Z,Z,Z,Z,Y⟩ ⟨Z,Z,Y⟩ fun i hi t h=>?_;have sl:=yW (L.take i);have fl:=eY (Reg.cY (L.take i));have sm:=ai (flat (Reg.cY (L.take i))) fun n=>[i64 n];rw[aat]at sl;refine iW ?_ ?_<;>intro h1
 ·rw[lm]at h1;obtain⟨r,hr⟩:=ak (l:=L) (i:=i) (by omega);have xl:Reg.cY (L.take (i+1))=Reg.dw (Reg.cY (L.take i)) r.x0 r.x1:=by rw[aZ hr,Reg.oV]
  obtain⟨a1,a2⟩:=C6 r.x0 r.x1 (Reg.cY (L.take i));rw[<-xl]at a1 a2;generalize Reg.cY (L.take i)=s at *;refine⟨⟨by omega,by rw[lm];omega⟩,?_⟩;refine⟨(rc r),(idx rfl hr).2,?_⟩;refine⟨⟨by rw[sm];omega,by rw[sm];omega⟩,?_⟩;refine iW ?_ ?_<;>intro h2
  ·rw[sm,fl]at h2;obtain⟨n,hn⟩:∃n,s.length=n+1:=⟨s.length-1,by omega⟩;obtain⟨p,XX,Li⟩:=a2 n hn;have hk:(((flat s).map fun n=>[i64 n]).length:Int)-1=((2*n+1:Nat):Int):=by rw[sm,fl];omega
   refine⟨⟨by rw[hk];omega,by rw[hk,sm,fl];omega⟩,?_⟩;refine⟨[i64 p],(idx hk XX).2,?_⟩;refine iW ?_ ?_<;>intro h3
   ·rw[aap h3]at Li;refine⟨⟨by rw[hk];omega,by rw[hk,sm,fl];omega⟩,?_⟩;refine⟨[i64 p],(idx hk XX).2,?_⟩;refine⟨⟨by rw[hk];omega,by rw[hk,sm,fl];omega⟩,?_⟩;refine⟨[i64 p],(idx hk XX).2,?_⟩;refine⟨⟨by omega,by omega⟩,?_⟩;refine⟨(i+1),_,au.refl _ _,?_⟩;refine⟨by omega,by omega,⟨Z,Z,Z,Z,Z,Y⟩,⟨rfl,?_,trivial⟩⟩;have mT:∀k:Nat,k=2*n+1->AB.row 3 (((flat s).map fun n=>[i64 n]).set k [i64 (max p r.x1)])=AB.row 3 ((flat (Reg.cY (L.take (i+1)))).map fun n=>[i64 n]):=by
     intro k e;subst e;rw[Li,ad8]
    exact mT _ (by rw[hk];rfl)
   rw[aaa h3]at Li;refine⟨⟨by simp,by simp;omega,by simp;omega⟩,?_⟩;refine⟨⟨by omega,by omega⟩,?_⟩;refine⟨(i+1),_,au.refl _ _,?_⟩;refine⟨by omega,by omega,⟨Z,Z,Z,Z,Z,Y⟩,⟨rfl,?_,trivial⟩⟩;rw[Li,abE];rfl
  rw[sm,fl]at h2;have hs:s=[]:=adl (by omega);have Li:=a1 hs;refine⟨⟨by simp,by simp;omega,by simp;omega⟩,?_⟩;refine⟨⟨by omega,by omega⟩,?_⟩;refine⟨(i+1),_,au.refl _ _,?_⟩;refine⟨by omega,by omega,⟨Z,Z,Z,Z,Z,Y⟩,⟨rfl,?_,trivial⟩⟩;rw[Li,hs];rfl
 rw[lm]at h1;rw[adW (by omega)];exact⟨Z,Z,Y⟩
def ends(l:List ae):List Int:=l.flatMap fun r=>[r.y0,r.y1]
theorem Kt{l:List ae}{i:Nat}{r:ae}(h:l[i]?=some r):ends (l.take (i+1))=ends (l.take i)++[r.y0,r.y1]:=by
 rw[aZ h];simp[ends]
theorem M0(l:List ae)(y:Int):y∈ends l↔∃r∈l,y=r.y0\/y=r.y1:=by
 simp[ends]
theorem EE(l:List ae):(ends l).length=2*l.length:=by
 induction l with
 | nil=>rfl
 | cons r l ih=>simp only[ends,abz,acv,aaB,acs]at ih ⊢;omega
theorem G9{l m:List ae}(hm:∀r,r∈m↔r∈l):compact (wL (ends m))=Reg.aE l:=by
 have hs:(wL (ends m)).Pairwise (·<=·):=by
  have:=List.pairwise_mergeSort (le:=fun x y:Int=>decide (x<=y)) (fun a b c h1 h2=>by simp at *;omega) (fun a b=>by simp;omega) (ends m);exact this.imp fun h=>by simpa using h
 obtain⟨h1,h2⟩:=AE hs;obtain⟨h3,h4⟩:=Reg.cT l;refine Reg.nI _ _ h1 h3 fun x=>?_;rw[h2,h4,wL,(List.mergeSort_perm _ _).mem_iff,M0];constructor
 ·rintro⟨r,hr,h⟩;exact⟨r,(hm r).1 hr,h⟩
 rintro⟨r,hr,h⟩;exact⟨r,(hm r).2 hr,h⟩
variable {ys:List Int}
theorem Ku(hR:Reg.bF ys){k:Nat}{y q:Int}(hy:ys[k]?=some y)(hq:q∈ys)(h1:q<=y)(h2:∀j z,j+1=k->ys[j]?=some z->z<q):q=y:=by
 obtain⟨i,hi⟩:=ab8.1 hq;rcases ada i k with h | h | h
 ·obtain⟨z,hz⟩:=ak (l:=ys) (i:=k-1) (by have:=(aao.1 hy).1;omega);have:=h2 (k-1) z (by omega) hz;have:=jL hR hi hz (by omega);omega
 ·subst h;rw[hi]at hy;injection hy
 have:=jL hR hy hi (by omega);omega
structure IP(L:List ae)(ys:List Int)(k:Nat)(nw:List ae)(next:Nat):Prop where
 le:next<=L.length
 len:nw.length<=next
 mem:∀r,r∈nw↔r∈L.take next/\∀j y,j+1=k->ys[j]?=some y->y<r.y1
 below:∀r∈L.take next,∀j y,j+1=k->ys[j]?=some y->r.y0<=y
 fM:∀r∈L.drop next,∀j y,j+1=k->ys[j]?=some y->y<r.y0
 zero:k=0->next=0
structure Ow(L:List ae)(y:Int)(nw:List ae)(next:Nat):Prop where
 le:next<=L.length
 len:nw.length<=next
 mem:∀r,r∈nw↔r∈L.take next/\y<r.y1
 below:∀r∈L.take next,r.y0<=y
variable {L nw:List ae}
theorem IP.mid{k:Nat}{next:Nat}(h:IP L ys k nw next)(hR:Reg.bF ys){y:Int}(hy:ys[k]?=some y):Ow L y (nw.filter fun r=>!od y r) next:=by
 have prev:k≠0->∃z,ys[k-1]?=some z/\z<y:=fun hk=>by
  have Ov:=(aao.1 hy).1;obtain⟨z,hz⟩:=ak (l:=ys) (i:=k-1) (by omega);have a1:=aao.1 hz;have a2:=aao.1 hy;obtain⟨b1,b2⟩:=a1;obtain⟨c1,c2⟩:=a2;have:=(aaS.1 hR) (k-1) k b1 c1 (by omega);exact⟨z,hz,by omega⟩
 refine⟨h.le,aaF (adb _ _) h.len,fun r=>?_,fun r hr=>?_⟩
 ·rw[adu,h.mem];simp only[od,ael,abF];constructor
  ·rintro⟨⟨h1,_⟩,h2⟩;exact⟨h1,by omega⟩
  rintro⟨h1,h2⟩;refine⟨⟨h1,fun j z hj hz=>?_⟩,by omega⟩;obtain⟨z',XY,eF⟩:=prev (by omega);rw[show k-1=j by omega,hz]at XY;injection XY with XY;omega
 by_cases hk:k=0
 ·rw[h.zero hk]at hr;simp at hr
 obtain⟨z,hz,eF⟩:=prev hk;have:=h.below r hr (k-1) z (by omega) hz;omega
theorem Ow.next{y:Int}{next:Nat}(h:Ow L y nw next){r:ae}(hr:L[next]?=some r)(h0:r.y0<=y)(h1:y<r.y1):Ow L y (nw++[r]) (next+1):=by
 have eF:=(aao.1 hr).1;refine⟨by omega,by have:=h.len;simp;omega,fun q=>?_,fun q hq=>?_⟩
 ·rw[aZ hr,abi,abi,ab_,h.mem];constructor
  ·rintro (⟨a,b⟩ | rfl)
   ·exact⟨.inl a,b⟩
   exact⟨.inr rfl,h1⟩
  rintro⟨a | rfl,b⟩
  ·exact .inl ⟨a,b⟩
  exact .inr rfl
 rw[aZ hr,abi,ab_]at hq;rcases hq with hq | rfl
 ·exact h.below q hq
 exact h0
theorem Ow.row{l:List ae}{y:Int}{next:Nat}(h:Ow L y nw next)(hm:∀r,r∈L↔r∈l)(M1:∀r∈L.drop next,y<r.y0):∀r,r∈nw↔r∈l/\r.y0<=y/\y<r.y1:=by
 intro r;rw[h.mem,<-hm];constructor
 ·rintro⟨a,b⟩;exact⟨acM a,h.below r a,b⟩
 rintro⟨a,b,c⟩;refine⟨?_,c⟩;rw[<-aaU next L,abi]at a;rcases a with a | a
 ·exact a
 have:=M1 r a;omega
theorem Ow.U6{k:Nat}{m:List ae}{next:Nat}{y:Int}(h:Ow L y nw next)(hy:ys[k]?=some y)(hp:m.Perm nw)(M1:∀r∈L.drop next,y<r.y0):IP L ys (k+1) m next:=by
 have one:∀j z,j+1=k+1->ys[j]?=some z->z=y:=fun j z hj hz=>by
  rw[show j=k by omega,hy]at hz;injection hz with hz;exact hz.symm
 refine⟨h.le,by rw[hp.length_eq];exact h.len,fun r=>?_,fun r hr j z hj hz=>?_,fun r hr j z hj hz=>?_,fun h=>by omega⟩
 ·rw[hp.mem_iff,h.mem];constructor
  ·rintro⟨a,b⟩;exact⟨a,fun j z hj hz=>by rw[one j z hj hz];exact b⟩
  rintro⟨a,b⟩;exact⟨a,b k y rfl hy⟩
 ·rw[one j z hj hz];exact h.below r hr
 rw[one j z hj hz];exact M1 r hr
theorem G_(hs:L.Pairwise fun a b=>a.y0<=b.y0){i:Nat}{r:ae}(hr:L[i]?=some r){y:Int}(h:y<r.y0):∀q∈L.drop i,y<q.y0:=by
 intro q hq;obtain⟨hi,he⟩:=aao.1 hr;rw[acX hi,he,adq]at hq;rcases hq with rfl | hq
 ·exact h
 obtain⟨j,hj,rfl⟩:=ac8 hq;rw[List.getElem_drop];have:=aaS.1 hs i (i+1+j) hi (by rw[aaN]at hj;omega) (by omega);rw[he]at this;omega
end M
end Go.Proofs.YtfloceomobknoaaGreatDoor
