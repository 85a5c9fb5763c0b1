/- Part 5 of the proof of HouseDrillingMatchesSpec. -/
import Derived.Test.YtnpkopkpbgflnaaGreatDoorG04
import Derived.Lib.SplitLaws
import Derived.Shelf.SlSortCmp.WholeK
import Derived.Deep.Slices
import Derived.Shelf.SlSortCmp.NoneTotal
set_option linter.unusedVariables false
set_option linter.unusedSimpArgs false
set_option maxRecDepth 100000
set_option maxHeartbeats 8000000
namespace Go
abbrev sE:=@Bool.and_false
abbrev jV:=@List.all_eq_false
abbrev jW:=@List.all_append
abbrev mq:=@List.map_map
abbrev vg:=@List.any_cons
abbrev sF:=@Bool.not_eq_false'
abbrev vh:=@List.flatten_cons
abbrev Jo:=@Array.getElem?_append_right
abbrev vi:=@List.mem_flatten
abbrev vj:=@Array.getElem?_eq_none
abbrev D3:=@Go.Deep.choose_lt
abbrev D4:=@Array.ext_getElem?
abbrev oh:=@List.not_mem_nil
abbrev sG:=@Nat.le_of_lt
abbrev vk:=@List.drop_drop
abbrev sH:=@List.map_set
abbrev mr:=@List.take_append_of_le_length
abbrev yZ:=@Nat.min_self
end Go
namespace Go.Proofs.YtnpkopkpbgflnaaGreatDoor
namespace M
open Go.AM Go.RowKit
open Reg (aZ cR gQ)
theorem D5(l:List gQ)(b:gQ):(Reg.pushB l b).length<=l.length+1:=by
 unfold Reg.pushB;split
 ·omega
 split
 ·split
  ·rw[bG,List.length_dropLast];simp only[yD];omega
  simp
 simp
theorem FQ(l:List gQ)(b:gQ)(n:Nat)(D:∀t∈l,t.xs.length<=n)(hb:b.xs.length<=n):∀t∈Reg.pushB l b,t.xs.length<=n:=by
 unfold Reg.pushB;split
 ·exact D
 split
 ·rename_i t I;split
  ·intro u z;rcases cm.1 z with h | h
   ·exact D u ((List.dropLast_sublist l).subset h)
   rw[bM.1 h];exact D t (List.mem_of_getLast? I)
  intro u z;rcases cm.1 z with h | h
  ·exact D u h
  rw[bM.1 h];exact hb
 intro u z;rw[bM.1 z];exact hb
theorem jX(l:List aZ)(ys:List Int):∀k,(Reg.dJ l ys k).length<=k:=by
 intro k
 induction k with
 | zero=>simp[Reg.dJ]
 | succ k ih=>rw[Reg.dJ];have:=D5 (Reg.dJ l ys k) ⟨ys.getD k 0,ys.getD (k+1) 0,Reg.rowOf l (ys.getD k 0)⟩;omega
theorem tV(l:List aZ)(ys:List Int):∀k,∀t∈Reg.dJ l ys k,t.xs.length<=l.length:=by
 intro k
 induction k with
 | zero=>simp[Reg.dJ]
 | succ k ih=>rw[Reg.dJ];exact FQ _ _ _ ih (ve _ _)
theorem y7{l:List Int}{i:Nat}{x:Int}(h:l[i]?=some x):l.getD i 0=x:=by rw[List.getD_eq_getElem?_getD,h];rfl
theorem BJ(l:List aZ)(R:l.length<=4398046511104)(u:(Reg.bC l).length<=3000000000000)(U:(Reg.gM l).length<=4398046511104):af C 221 [.pv (cd l)] (.p (cd (Reg.gM l))) []:=by
 refine sd ⟨[],[],[],[6],[],[]⟩ hC Tryz.func221 rfl (by kernel_rfl) fun _=>?_;have D:=ak (Reg.bC l) fun n=>[i64 n];have hL:=fj l;refine⟨_,_,(FN l R),?_⟩;refine ax (fun k:Nat=>k<=(Reg.bC l).length-1) (fun k=>[(0,.p (cd l)),(3,.p (ints (Reg.bC l))),(4,.ow 4),(5,.p (i64 ((k:Int)+1)))]) (fun k=>[(4,.row 418 ((Reg.dJ l (Reg.bC l) k).map bd))]) (fun k=>(Reg.bC l).length-k) 0 _ (au.ed hC _ 4 418 _ (by decide) rfl rfl (by decide)) (ai _) ⟨Z,Z,Z,Z,Y⟩ ⟨Z,Y⟩ fun k hk t h=>?_;have bl:=jX l (Reg.bC l) k;have bx:=tV l (Reg.bC l) k;apply iW<;>intro I
 ·rw[D]at I;obtain⟨y,u⟩:=aj (l:=Reg.bC l) (i:=k) (by omega);obtain⟨J,N⟩:=aj (l:=Reg.bC l) (i:=k+1) (by omega);have O:(k:Int)+1-1=(k:Nat):=by omega
  have V:(k:Int)+1=((k+1:Nat):Int):=by omega
  refine⟨wO (by omega),[i64 y],(idx O u),[i64 J],(idx V N),wO (by omega),[i64 y],(idx O u),_,_,(Pg l y (by omega)),_,_,(FP _ ⟨y,J,Reg.rowOf l y⟩ (by omega) (fun t z=>by have:=bx t z;omega)),wO (by omega),(k+1),_,au.refl _ _,by omega,by omega,⟨rfl,rfl,rfl,bc (by omega),trivial⟩,⟨?_,trivial⟩⟩;rw[Reg.dJ,y7 u,y7 N];rfl
 rw[D]at I;refine⟨_,_,(M7 _ (by omega) (fun t z=>by have:=bx t z;omega) (by rw[show k=(Reg.bC l).length-1 by omega];exact U)),?_,trivial⟩;rw[Reg.gM,Reg.qq,show (Reg.bC l).length-1=k by omega]
theorem BK(l:List aZ)(hN:l.length<=1000000):(Reg.gM l).length<=4398046511104:=by
 have h1:=qX (Reg.dJ l (Reg.bC l) ((Reg.bC l).length-1)) (fun t u=>by have:=tV l (Reg.bC l) _ t u;omega);have h2:=jX l (Reg.bC l) ((Reg.bC l).length-1);have h3:=fj l;have h4:(Reg.dJ l (Reg.bC l) ((Reg.bC l).length-1)).length*1000000<=2000000*1000000:=a8 _ (by omega);have e:Reg.gM l=Reg.told (Reg.dJ l (Reg.bC l) ((Reg.bC l).length-1)):=rfl;rw[e];omega
theorem tv{l:List aZ}:∀{i:Nat} {a b:aZ},l[i]?=some a->l[i+1]?=some b->Reg.before a b=false->Reg.ordered l=false:=by
 induction l with
 | nil=>intro i a b h;simp at h
 | cons x l ih=>
  intro i a b z u D;cases l with
  | nil=>simp at u
  | cons y l=>
   rw[Reg.ordered];cases i with
   | zero=>
    simp at z u;subst z;subst u;rw[D];rfl
   | succ i=>rw[ih (i:=i) (by simpa using z) (by simpa using u) D,sE]
theorem vl{l:List aZ}:(∀(i:Nat) a b,l[i]?=some a->l[i+1]?=some b->Reg.before a b=true)->Reg.ordered l=true:=by
 induction l with
 | nil=>intro _;rfl
 | cons x l ih=>
  intro h;cases l with
  | nil=>rfl
  | cons y l=>
   rw[Reg.ordered,h 0 x y rfl rfl,ih fun i a b u z=>h (i+1) a b (by simpa using u) (by simpa using z)];rfl
theorem yi(l:List aZ):af C 182 [.pv (cd l)] (.p (i64 (Reg.bS l))) []:=by
 refine sd ⟨[],[0],[],[],[],[]⟩ hC Tryz.func182 rfl (by kernel_rfl) fun _=>?_;have O:=ak l rc;refine⟨_,_,(zY l),iW ?_ ?_⟩<;>intro u
 ·refine⟨?_,trivial⟩;rw[Reg.bS,aa u]
 have u:Reg.dv l=0:=by simpa using u
 obtain⟨hl,_⟩:=Reg.tT u;have N:Reg.bS l=(if Reg.ordered l=true then (if Reg.gM l=l then 0 else 3) else 8):=by rw[Reg.bS,ae u]
 refine DL (fun _:Unit=>Reg.ordered l=true) (fun _=>[(0,.p (cd l))]) (fun _=>[]) (fun _ U t h=>?_) ?_
 ·rw[ae U]at N;have hh:=fj l;refine⟨_,_,(BJ l (by omega) (by omega) (BK l (by omega))),_,_,(BF l _ (by omega)),iW ?_ ?_⟩<;>intro z
  ·refine⟨?_,trivial⟩;rw[N,aa (fun e=>z e.symm)];rfl
  refine⟨?_,trivial⟩;rw[N,ae (by simpa using z.symm)];rfl
 refine ax (fun i:Nat=>∀(j:Nat) a b,j<i->l[j]?=some a->l[j+1]?=some b->Reg.before a b=true) (fun i=>[(0,.p (cd l)),(4,.p (i64 ((i:Int)+1)))]) (fun _=>[]) (fun i=>l.length-i) 0 _ (au.refl _ _) (fun j a b h=>by omega) ⟨Z,Z,Y⟩ trivial fun i hi t h=>?_;apply iW<;>intro R
 ·rw[O]at R;obtain⟨a,D⟩:=aj (l:=l) (i:=i) (by omega);obtain⟨b,hb⟩:=aj (l:=l) (i:=i+1) (by omega);refine⟨wO (by omega),(rc a),(idx (show ((i:Int)+1)-1=(i:Nat) by omega) D),(rc b),(idx (show ((i:Int)+1)=((i+1:Nat):Int) by omega) hb),_,_,(HT a b),iW ?_ ?_⟩<;>intro z
  ·refine⟨?_,trivial⟩;rw[N,aa (by rw[tv D hb z];decide)];rfl
  refine⟨wO (by omega),(i+1),_,au.refl _ _,fun j x y hj I J=>?_,by omega,⟨rfl,bc (by omega),trivial⟩,trivial⟩;by_cases e:j=i
  ·subst e;rw[D]at I;injection I with I;rw[hb]at J;injection J with J;rw[<-I,<-J];simpa using z
  exact hi j x y (by omega) I J
 rw[O]at R;refine⟨(),vl fun j a b D hb=>hi j a b ?_ D hb,⟨Z,Y⟩,trivial⟩;have:=(aU.1 hb).1;omega
def str(s:ByteArray):PV:=.im (.string s)
def strs(l:List ByteArray):PV:=.sl (l.map fun s=>[str s])
def fm(n:Int):Bool:=decide (0<=n)&&decide (n<=100000)
theorem xE(n lo hi:Int):af C 181 [.pv (i64 n),.pv (i64 lo),.pv (i64 hi)] (.p (bool (decide (lo<=n)&&decide (n<=hi)))) []:=by
 refine fW hC Tryz.func181 rfl (by kernel_rfl) fun _=>?_;apply iW<;>intro h<;>(refine⟨?_,trivial⟩)<;>simp[bool,h]
theorem jB(n:Int):af C 179 [.pv (i64 n)] (.p (bool (fm n))) []:=by
 refine fW hC Tryz.func179 rfl (by kernel_rfl) fun _=>?_;refine⟨_,_,(xE n 0 100000),?_,trivial⟩;rfl
def hasB(l:List ByteArray)(x:ByteArray):Bool:=l.any fun y=>decide (y=x)
theorem FR{l:List ByteArray}{x:ByteArray}:hasB l x=true↔x∈l:=by
 simp[hasB]
theorem FT(l:List ByteArray)(x:ByteArray)(hN:l.length<=140737488355328):af C 285 [.pv (strs l),.pv (str x)] (.p (bool (hasB l x))) []:=by
 refine fW hC Tryz.func285 rfl (by kernel_rfl) fun _=>?_;have D:=ak l fun s=>[str s];refine ax (fun i:Nat=>i<=l.length/\x ∉ l.take i) (fun i=>[(0,.p (strs l)),(1,.p (str x)),(5,.p (i64 i))]) (fun _=>[]) (fun i=>l.length-i) 0 _ (au.refl _ _) ⟨ai _,by simp⟩ ⟨Z,Z,Z,Y⟩ trivial fun i hi t h=>?_;apply iW<;>intro I
 ·rw[D]at I;obtain⟨y,z⟩:=aj (l:=l) (i:=i) (by omega);refine⟨[str y],(idx rfl z),iW ?_ ?_⟩<;>intro u
  ·refine⟨?_,trivial⟩;rw[FR.2 (by rw[<-u];exact an z)];rfl
  refine⟨wO (by omega),(i+1),_,au.refl _ _,⟨by omega,?_⟩,by omega,⟨Z,Z,Z,Y⟩,trivial⟩;rw[aN z,cm,bM];rintro (h | h)
  ·exact hi.2 h
  exact u h.symm
 rw[D]at I;refine⟨?_,trivial⟩;have u:=hi.2;rw[aW (by omega)]at u;rw[show hasB l x=false by rw[cy];exact fun h=>u (FR.1 h)];rfl
theorem gN(s:ByteArray)(c:Int):af C 235 [.pv (str s),.pv (.im (.int .u8 c))] (.p (i64 (Lib.indexByte s.data.toList c.toNat.toUInt8))) []:=
 wG [.string s,.int .u8 c] _ ⟨_,Tryz.func235,rfl,rfl⟩ fun _ w _ _=>(Tryz.strings_IndexByte s c w).mono fun _ _ ⟨u,z⟩=>⟨u,by rw[z];exact Below.refl _ _⟩
theorem FU(n lo hi:Int):af C 217 [.pv (i64 n),.pv (i64 lo),.pv (i64 hi)] (.p (bool (decide (lo<=n)&&decide (n<=hi)))) []:=by
 refine fW hC Tryz.func217 rfl (by kernel_rfl) fun _=>?_;apply iW<;>intro h<;>(refine⟨?_,trivial⟩)<;>simp[bool,h]
def okB(b:UInt8):Bool:=(decide ((97:Int)<=b.toNat)&&decide ((b.toNat:Int)<=122))||(decide ((65:Int)<=b.toNat)&&decide ((b.toNat:Int)<=90))||(decide ((48:Int)<=b.toNat)&&decide ((b.toNat:Int)<=57))||!decide (Lib.indexByte [95,43,45,35] b<0)
theorem byte_back(b:UInt8):((b.toNat:Int)).toNat.toUInt8=b:=by simp
def ct(s:ByteArray):Bool:=s.data.toList.all okB&&(decide ((1:Int)<=s.size)&&decide ((s.size:Int)<=40))
theorem lC{s:ByteArray}{i:Nat}(h:i<s.size):∃b:UInt8,s[i]?=some b/\s.data.toList[i]?=some b:=by
 refine⟨s[i],getElem?_pos s i h,?_⟩;rw[jN];exact cx h
theorem xF(s:ByteArray)(hs:s.size<=9223372036854775807):af C 283 [.pv (str s)] (.p (bool (ct s))) []:=by
 refine fW hC Tryz.func283 rfl (by kernel_rfl) fun _=>?_;have hsz:s.data.toList.length=s.size:=by simp
 refine ax (fun i:Nat=>i<=s.size/\(s.data.toList.take i).all okB=true) (fun i=>[(0,.p (str s)),(3,.p (i64 i))]) (fun _=>[]) (fun i=>s.size-i) 0 _ (au.refl _ _) ⟨ai _,by simp⟩ ⟨Z,Z,Y⟩ trivial fun i hi t h=>?_;apply iW<;>intro h1
 ·obtain⟨b,hb,z⟩:=lC (s:=s) (i:=i) (by omega);have I:okB b=false->ct s=false:=fun h=>by
   rw[ct,eH];refine .inl ?_;rw[jV];exact⟨b,an z,by simp[h]⟩
  have u:okB b=true->(s.data.toList.take (i+1)).all okB=true:=fun h=>by rw[aN z,jW,hi.2];simp[h]
  refine⟨b,⟨by omega,by rw[bU];exact hb⟩,?_⟩;have D:=gN ⟨#[95,43,45,35]⟩ b.toNat;rw[byte_back]at D
  repeat' first | apply iW<;>intro h<;>try simp only[zB]at h | refine⟨_,_,D,?_⟩
  all_goals skip
  all_goals first
   | (
     refine⟨wO (by omega),?_⟩;refine⟨(i+1),_,au.refl _ _,?_⟩;exact⟨⟨by omega,u (by simp[okB, *])⟩,by omega,⟨Z,Z,Y⟩,trivial⟩)
   | (
     refine⟨?_,trivial⟩;rw[I (by simp[okB, *])];rfl)
 have J:s.data.toList.all okB=true:=by
  have:=hi.2
  rwa [aW (by omega)]at this
 refine⟨_,_,(FU s.size 1 40),?_,trivial⟩;rw[ct,J,fu]
def xG:ByteArray:=⟨#[47]⟩
def parts(s:ByteArray):List ByteArray:=Lib.splitB xG 0 (Lib.countB s xG) s
def gh(s:ByteArray):Bool:=(parts s).all ct&&decide ((s.size:Int)<=200)
theorem om(z:ByteArray):∀(k:Nat) (s:ByteArray),∀x∈Lib.splitB z 0 k s,x.size<=s.size:=by
 intro k
 induction k with
 | zero=>
  intro s x u;rw[Lib.splitB_zero,bM]at u;rw[u];omega
 | succ k ih=>
  intro s x u;unfold Lib.splitB at u;split at u
  ·rw[bM]at u;rw[u];omega
  rcases aE.1 u with h | h
  ·rw[h,ByteArray.size_extract];omega
  have:=ih _ x h;rw[ByteArray.size_extract]at this;omega
theorem vm(s:ByteArray):(parts s).length=Lib.countB s xG+1:=Lib.splitB_all xG (by decide) 0 _ s rfl
theorem qY(s:ByteArray):(parts s).length<=s.size+1:=by
 rw[vm];have:=Lib.countB_le xG (by decide) s.size s (aF _);omega
theorem M8(l:List ByteArray):(l.map Value.string).map (fun v=>[PV.im v])=l.map fun s=>[str s]:=by
 rw[mq];rfl
theorem sI(s:ByteArray)(hs:s.size<4294967281):af C 228 [.pv (str s),.pv (str xG)] (.own 9 ((parts s).map fun s=>[str s])) []:=by
 have h:=FJ hC (f:=228) [.string s,.string xG] 9 ((parts s).map Value.string) _ rfl rfl (by simp[Value.oneCell']) (by rw[aw];have:=qY s;have:maxLen=9223372036854775807:=rfl;omega) ⟨_,Tryz.func228,rfl,rfl⟩ fun S w u _=>by
  obtain⟨_,_,⟨m,z⟩,_⟩:=u;refine (Tryz.strings_Split s xG m w hs z (by decide)).mono fun _ _ ⟨D,I⟩=>⟨?_,I⟩;rw[D,aw,vm]
 rw[M8]at h;exact h
theorem FV(s:ByteArray)(hs:s.size<4294967281):af C 284 [.pv (str s)] (.p (bool (gh s))) []:=by
 refine fW hC Tryz.func284 rfl (by kernel_rfl) fun _=>?_;have z:=ak (parts s) fun s=>[str s];have pl:=qY s;refine⟨_,_,(sI s hs),?_⟩;refine ax (fun i:Nat=>i<=(parts s).length/\((parts s).take i).all ct=true) (fun i=>[(0,.p (str s)),(3,.p (strs (parts s))),(4,.p (i64 i))]) (fun _=>[]) (fun i=>(parts s).length-i) 0 _ (au.own hC _ 3 rfl rfl) ⟨ai _,by simp⟩ ⟨Z,Z,Z,Y⟩ trivial fun i hi t h=>?_;apply iW<;>intro D
 ·rw[z]at D;obtain⟨x,u⟩:=aj (l:=parts s) (i:=i) (by omega);have qA:=om _ _ _ x (an u);refine⟨[str x],(idx rfl u),_,_,(xF x (by omega)),iW ?_ ?_⟩<;>intro I
  ·refine⟨?_,trivial⟩;rw[show gh s=false from ?_]
   ·rfl
   rw[gh,eH,jV];exact .inl ⟨x,an u,by simp[I]⟩
  refine⟨wO (by omega),(i+1),_,au.refl _ _,⟨by omega,?_⟩,by omega,⟨Z,Z,Z,Y⟩,trivial⟩;rw[aN u,jW,hi.2];simp[I]
 rw[z]at D;refine⟨?_,trivial⟩;have J:=hi.2;rw[aW (by omega)]at J;rw[gh,J,fu];rfl
theorem vn(n lo hi:Int):af C 155 [.pv (i64 n),.pv (i64 lo),.pv (i64 hi)] (.p (bool (decide (lo<=n)&&decide (n<=hi)))) []:=by
 refine fW hC Tryz.func155 rfl (by kernel_rfl) fun _=>?_;apply iW<;>intro h<;>(refine⟨?_,trivial⟩)<;>simp[bool,h]
theorem mw(n:Int):af C 153 [.pv (i64 n)] (.p (bool (fm n))) []:=by
 refine fW hC Tryz.func153 rfl (by kernel_rfl) fun _=>?_;refine⟨_,_,(vn n 0 100000),?_,trivial⟩;rfl
theorem D6(n:Int):af C 152 [.pv (i64 n)] (.p (bool (!fm n))) []:=by
 refine fW hC Tryz.func152 rfl (by kernel_rfl) fun _=>?_;refine⟨_,_,(mw n),?_,trivial⟩;rfl
theorem D7(n lo hi:Int):af C 355 [.pv (i64 n),.pv (i64 lo),.pv (i64 hi)] (.p (bool (decide (lo<=n)&&decide (n<=hi)))) []:=by
 refine fW hC Tryz.func355 rfl (by kernel_rfl) fun _=>?_;apply iW<;>intro h<;>(refine⟨?_,trivial⟩)<;>simp[bool,h]
theorem kD(n:Int):af C 242 [.pv (i64 n)] (.p (bool (Reg.kC n))) []:=by
 refine fW hC Tryz.func242 rfl (by kernel_rfl) fun _=>?_;refine⟨_,_,(D7 n (-1000000) 1000000),?_,trivial⟩;rfl
theorem tw(x y:Int):af C 147 [.pv (.ag [i64 x,i64 y])] (.p (bool (Reg.kC x&&Reg.kC y))) []:=by
 refine fW hC Tryz.func147 rfl (by kernel_rfl) fun _=>?_;refine⟨_,_,(kD x),iW ?_ ?_⟩<;>intro h
 ·refine⟨_,_,(kD y),?_,trivial⟩;simp[bool,h]
 refine⟨?_,trivial⟩;simp[bool,h]
theorem D8(r:aZ):af C 356 [.pv (.ag (rc r))] (.p (bool (Reg.ia r))) []:=by
 refine fW hC Tryz.func356 rfl (by kernel_rfl) fun _=>?_;refine⟨_,_,(kD r.x0),iW ?_ ?_⟩<;>intro u
 ·refine⟨_,_,(kD r.y0),iW ?_ ?_⟩<;>intro z
  ·refine⟨_,_,(kD r.x1),iW ?_ ?_⟩<;>intro D
   ·refine⟨_,_,(kD r.y1),?_,trivial⟩;simp[bool,Reg.ia,u,z,D]
   refine⟨?_,trivial⟩;simp[bool,Reg.ia,u,z,D]
  refine⟨?_,trivial⟩;simp[bool,Reg.ia,u,z]
 refine⟨?_,trivial⟩;simp[bool,Reg.ia,u]
def fy{α:Type}(p:α->Bool):List α->Nat->Int
 | [],_=>-1
 | x::r,k=>match p x with
  | true=>k
  | false=>fy p r (k+1)
variable {α:Type}
theorem bW{p:α->Bool}:∀{l:List α} {k:Nat},(∀x∈l,p x=false)->fy p l k=-1:=by
 intro l
 induction l with
 | nil=>intro k _;rfl
 | cons x l ih=>intro k h;rw[fy,h x (by simp)];exact ih fun y u=>h y (by simp[u])
theorem cX{p:α->Bool}:∀{l:List α} {i k:Nat} {x:α},l[i]?=some x->p x=true->(∀y∈l.take i,p y=false)->fy p l k=((k+i:Nat):Int):=by
 intro l
 induction l with
 | nil=>intro i k x h;simp at h
 | cons y l ih=>
  intro i k x h hp u;cases i with
  | zero=>simp at h;subst h;rw[fy,hp];rfl
  | succ i=>
   rw[fy,u y (by simp)];have:=ih (i:=i) (k:=k+1) (by simpa using h) hp fun z D=>u z (by simp[D]);simp only[this];omega
theorem ib(p:α->Bool):∀(l:List α) (k:Nat),decide (0<=fy p l k)=l.any p:=by
 intro l
 induction l with
 | nil=>intro k;rfl
 | cons x l ih=>
  intro k;rw[fy,vg];cases p x with
  | true=>simp
  | false=>simpa using ih (k+1)
theorem cN{p:α->Bool}{l:List α}{i:Nat}{x:α}(z:l[i]?=some x)(hp:p x=false)(h:∀y∈l.take i,p y=false):∀y∈l.take (i+1),p y=false:=by
 intro y u;rw[aN z,cm,bM]at u;rcases u with u | rfl
 ·exact h y u
 exact hp
theorem KT(l:List Int)(hN:l.length<=140737488355328):af C 247 [.pv (ints l),.pv (.im (.func (.func 152) #[] #[]))] (.p (i64 (fy (fun n=>!fm n) l 0))) []:=by
 refine fW hC Tryz.func247 rfl (by kernel_rfl) fun _=>?_;have D:=ak l fun n=>[i64 n];refine ax (fun i:Nat=>i<=l.length/\∀x∈l.take i,(!fm x)=false) (fun i=>[(0,.p (ints l)),(1,.p (.im (.func (.func 152) #[] #[]))),(7,.p (i64 (l.map fun n=>[i64 n]).length)),(8,.p (i64 i))]) (fun _=>[]) (fun i=>l.length-i) 0 _ (au.refl _ _) ⟨ai _,by simp⟩ ⟨Z,Z,Z,Z,Y⟩ trivial fun i hi t h=>?_;apply iW<;>intro I
 ·rw[D]at I;obtain⟨x,z⟩:=aj (l:=l) (i:=i) (by omega);refine⟨[i64 x],(idx rfl z),_,_,(D6 x),iW ?_ ?_⟩<;>intro u
  ·refine⟨?_,trivial⟩;rw[cX z (by simp[u]) hi.2,aY]
  exact⟨wO (by omega),(i+1),_,au.refl _ _,⟨by omega,cN z (by simp[u]) hi.2⟩,by omega,⟨Z,Z,Z,Z,Y⟩,trivial⟩
 rw[D]at I;refine⟨?_,trivial⟩;have u:=hi.2;rw[aW (by omega)]at u;rw[bW u];rfl
theorem D9(l:List Int)(u:l.length<=140737488355328):af C 151 [.pv (ints l),.pv (.im (.func (.func 152) #[] #[]))] (.p (bool (l.any fun n=>!fm n))) []:=by
 refine fW hC Tryz.func151 rfl (by kernel_rfl) fun _=>?_;refine⟨_,_,(KT l u),?_,trivial⟩;rw[<-ib _ l 0];rfl
theorem eY(s:ByteArray)(hs:s.size<=9223372036854775807):af C 138 [.pv (str s)] (.p (bool (ct s))) []:=by
 refine fW hC Tryz.func138 rfl (by kernel_rfl) fun _=>?_;have hsz:s.data.toList.length=s.size:=by simp
 refine ax (fun i:Nat=>i<=s.size/\(s.data.toList.take i).all okB=true) (fun i=>[(0,.p (str s)),(6,.p (i64 s.size)),(7,.p (i64 i))]) (fun _=>[]) (fun i=>s.size-i) 0 _ (au.refl _ _) ⟨ai _,by simp⟩ ⟨Z,Z,Z,Y⟩ trivial fun i hi t h=>?_;apply iW<;>intro h1
 ·obtain⟨b,hb,z⟩:=lC (s:=s) (i:=i) (by omega);have N:okB b=false->ct s=false:=fun h=>by
   rw[ct,eH];refine .inl ?_;rw[jV];exact⟨b,an z,by simp[h]⟩
  have u:okB b=true->(s.data.toList.take (i+1)).all okB=true:=fun h=>by rw[aN z,jW,hi.2];simp[h]
  refine⟨b,⟨by omega,by rw[bU];exact hb⟩,?_⟩;have D:=gN ⟨#[95,43,45,35]⟩ b.toNat;rw[byte_back]at D
  repeat' first | apply iW<;>intro h<;>try simp only[zB]at h | refine⟨_,_,D,?_⟩
  all_goals skip
  all_goals first
   | (
     refine⟨wO (by omega),?_⟩;refine⟨(i+1),_,au.refl _ _,?_⟩;exact⟨⟨by omega,u (by simp only[okB,eG,aK,cz,jj,dI];omega)⟩,by omega,⟨Z,Z,Z,Y⟩,trivial⟩)
   | (
     refine⟨?_,trivial⟩;rw[N (by simp only[okB,gV,eH,dI,sF,cz];omega)];rfl)
 have I:s.data.toList.all okB=true:=by
  have:=hi.2
  rwa [aW (by omega)]at this
 apply iW<;>intro J
 ·refine⟨?_,trivial⟩;simp[bool,ct,I,J]
 refine⟨?_,trivial⟩;simp[bool,ct,I,J]
theorem M9(s:ByteArray)(hs:s.size<=9223372036854775807):af C 229 [.pv (str s)] (.p (bool (!ct s))) []:=by
 refine fW hC Tryz.func229 rfl (by kernel_rfl) fun _=>?_;refine⟨_,_,(eY s hs),?_,trivial⟩;rfl
theorem KU(l:List ByteArray)(hN:l.length<=140737488355328)(hS:∀s∈l,s.size<=9223372036854775807):af C 344 [.pv (strs l),.pv (.im (.func (.func 229) #[] #[]))] (.p (i64 (fy (fun s=>!ct s) l 0))) []:=by
 refine fW hC Tryz.func344 rfl (by kernel_rfl) fun _=>?_;have D:=ak l fun s=>[str s];refine ax (fun i:Nat=>i<=l.length/\∀x∈l.take i,(!ct x)=false) (fun i=>[(0,.p (strs l)),(1,.p (.im (.func (.func 229) #[] #[]))),(7,.p (i64 (l.map fun s=>[str s]).length)),(8,.p (i64 i))]) (fun _=>[]) (fun i=>l.length-i) 0 _ (au.refl _ _) ⟨ai _,by simp⟩ ⟨Z,Z,Z,Z,Y⟩ trivial fun i hi t h=>?_;apply iW<;>intro I
 ·rw[D]at I;obtain⟨x,z⟩:=aj (l:=l) (i:=i) (by omega);refine⟨[str x],(idx rfl z),_,_,(M9 x (hS x (an z))),iW ?_ ?_⟩<;>intro u
  ·refine⟨?_,trivial⟩;rw[cX z (by simp[u]) hi.2,aY]
  exact⟨wO (by omega),(i+1),_,au.refl _ _,⟨by omega,cN z (by simp[u]) hi.2⟩,by omega,⟨Z,Z,Z,Z,Y⟩,trivial⟩
 rw[D]at I;refine⟨?_,trivial⟩;have u:=hi.2;rw[aW (by omega)]at u;rw[bW u];rfl
theorem D_(l:List ByteArray)(u:l.length<=140737488355328)(hS:∀s∈l,s.size<=9223372036854775807):af C 227 [.pv (strs l),.pv (.im (.func (.func 229) #[] #[]))] (.p (bool (l.any fun s=>!ct s))) []:=by
 refine fW hC Tryz.func227 rfl (by kernel_rfl) fun _=>?_;refine⟨_,_,(KU l u hS),?_,trivial⟩;rw[<-ib _ l 0];rfl
theorem Ph(p:α->Bool):∀l:List α,(!l.any fun s=>!p s)=l.all p:=by
 intro l
 induction l with
 | nil=>rfl
 | cons x l ih=>rw[vg,ux,<-ih,Bool.not_or,Bool.not_not]
theorem my(s:ByteArray)(hs:s.size<4294967281):af C 132 [.pv (str s)] (.p (bool (gh s))) []:=by
 refine fW hC Tryz.func132 rfl (by kernel_rfl) fun _=>?_;have pl:=qY s;apply iW<;>intro u
 ·refine⟨_,_,(sI s hs),_,_,(D_ (parts s) (by omega) fun x z=>by have:=om _ _ _ x z;omega),?_,trivial⟩;rw[Ph,gh,aP u,yG];rfl
 refine⟨?_,trivial⟩;rw[gh,aL u,sE];rfl
theorem wI(l:List aZ):af C 248 [.pv (cd l)] (.p (i64 (Reg.dv l))) []:=by
 refine fW hC Tryz.func248 rfl (by kernel_rfl) fun _=>?_;have u:=ak l rc;apply iW<;>intro D
 ·rw[u]at D;refine⟨?_,trivial⟩;rw[Reg.dv,ae (by omega)];rfl
 rw[u]at D;have z:Reg.dv l=Reg.eN l:=by rw[Reg.dv,aa (by omega)]
 refine ax (fun i:Nat=>i<=l.length/\Reg.eN l=Reg.eN (l.drop i)) (fun i=>[(8,.p (cd l)),(9,.p (i64 (l.map rc).length)),(10,.p (i64 i))]) (fun _=>[]) (fun i=>l.length-i) 0 _ (au.refl _ _) ⟨ai _,rfl⟩ ⟨Z,Z,Z,Y⟩ trivial fun i hi t h=>?_;apply iW<;>intro I
 ·rw[u]at I;obtain⟨r,J⟩:=aj (l:=l) (i:=i) (by omega);have hs:=oS J;refine⟨(rc r),(idx rfl J),_,_,(D8 r),iW ?_ ?_⟩<;>intro N
  ·refine⟨?_,trivial⟩;rw[z,hi.2,hs,aa (by simp[N])];rfl
  rw[ae N]at hs;apply iW<;>intro O
  ·refine⟨?_,trivial⟩;rw[z,hi.2,hs,ae (.inl O)];rfl
  apply iW<;>intro R
  ·refine⟨?_,trivial⟩;rw[z,hi.2,hs,ae (.inr R)];rfl
  refine⟨wO (by omega),(i+1),_,au.refl _ _,⟨by omega,?_⟩,by omega,⟨Z,Z,Z,Y⟩,trivial⟩;rw[hi.2,hs,aa (by omega)]
 rw[u]at I;refine⟨?_,trivial⟩;rw[z,hi.2,fv (by omega)];rfl
theorem FW(l m:List aZ)(hN:l.length<=140737488355328):af C 55 [.pv (cd l),.pv (cd m)] (.p (bool (decide (l=m)))) []:=by
 refine fW hC Tryz.func55 rfl (by kernel_rfl) fun _=>?_;have z:=ak l rc;have I:=ak m rc;apply iW<;>intro D
 ·rw[z,I]at D;refine⟨?_,trivial⟩;rw[aL (fun e:l=m=>D (by rw[e]))];rfl
 rw[z,I]at D;refine ax (fun i:Nat=>i<=l.length/\(l=m↔l.drop i=m.drop i)) (fun i=>[(0,.p (cd l)),(1,.p (cd m)),(12,.p (i64 (l.map rc).length)),(13,.p (i64 i))]) (fun _=>[]) (fun i=>l.length-i) 0 _ (au.refl _ _) ⟨ai _,fH⟩ ⟨Z,Z,Z,Z,Y⟩ trivial fun i hi t h=>?_;apply iW<;>intro J
 ·rw[z]at J;obtain⟨r,N⟩:=aj (l:=l) (i:=i) (by omega);obtain⟨q,O⟩:=aj (l:=m) (i:=i) (by omega);have hs:=sC N O;refine⟨(rc r),(idx rfl N),(rc q),(idx rfl O),?_⟩;have R:=Reg.aZ.zX r q;apply iW<;>intro u<;>try simp only[zB]at u
  ·refine⟨?_,trivial⟩;rw[aL];rfl;rw[hi.2,hs,R];simp only[eH,dI]at u;intro ⟨⟨U,e2,V,W⟩,_⟩;simp[U,e2,V,W]at u
  refine⟨wO (by omega),(i+1),_,au.refl _ _,⟨by omega,?_⟩,by omega,⟨Z,Z,Z,Z,Y⟩,trivial⟩;rw[hi.2,hs,R];simp[cz]at u;exact and_iff_right u
 refine⟨?_,trivial⟩;rw[z]at J;rw[aP];rfl;rw[hi.2,fv (by omega),fv (by omega)]
theorem z6(l m:List Int)(hN:l.length<=140737488355328):af C 33 [.pv (ints l),.pv (ints m)] (.p (bool (decide (l=m)))) []:=by
 refine fW hC Tryz.func33 rfl (by kernel_rfl) fun _=>?_;have u:=ak l fun n=>[i64 n];have D:=ak m fun n=>[i64 n];apply iW<;>intro z
 ·rw[u,D]at z;refine⟨?_,trivial⟩;rw[aL (fun e:l=m=>z (by rw[e]))];rfl
 rw[u,D]at z;refine ax (fun i:Nat=>i<=l.length/\(l=m↔l.drop i=m.drop i)) (fun i=>[(0,.p (ints l)),(1,.p (ints m)),(12,.p (i64 (l.map fun n=>[i64 n]).length)),(13,.p (i64 i))]) (fun _=>[]) (fun i=>l.length-i) 0 _ (au.refl _ _) ⟨ai _,fH⟩ ⟨Z,Z,Z,Z,Y⟩ trivial fun i hi t h=>?_;apply iW<;>intro I
 ·rw[u]at I;obtain⟨r,J⟩:=aj (l:=l) (i:=i) (by omega);obtain⟨q,N⟩:=aj (l:=m) (i:=i) (by omega);have hs:=sC J N;refine⟨[i64 r],(idx rfl J),[i64 q],(idx rfl N),iW ?_ ?_⟩<;>intro O
  ·refine⟨?_,trivial⟩;rw[aL];rfl;rw[hi.2,hs];exact fun h=>O h.1
  refine⟨wO (by omega),(i+1),_,au.refl _ _,⟨by omega,?_⟩,by omega,⟨Z,Z,Z,Z,Y⟩,trivial⟩;rw[hi.2,hs];exact and_iff_right O
 refine⟨?_,trivial⟩;rw[u]at I;rw[aP];rfl;rw[hi.2,fv (by omega),fv (by omega)]
def flat:cR->List Int
 | []=>[]
 | p::s=>p.1::p.2::flat s
theorem oo:∀s:cR,(flat s).length=2*s.length:=by
 intro s
 induction s with
 | nil=>rfl
 | cons p s ih=>simp only[flat,cH,ih];omega
theorem M_:∀{s u:cR},flat s=flat u->s=u:=by
 intro s
 induction s with
 | nil=>intro u h;cases u with | nil=>rfl | cons=>cases h
 | cons p s ih=>
  intro u h;cases u with
  | nil=>cases h
  | cons q u=>
   simp only[flat,List.cons.injEq]at h;rw[ih h.2.2,uZ h.1 h.2.1]
def hb(b:gQ):List PV:=[i64 b.y0,i64 b.y1,ints (flat b.xs)]
theorem HW(l:List gQ)(b:gQ)(xq:b.y0<b.y1)(hN:l.length<=1000000000000)(hX:∀t∈l,t.xs.length<=1000000000000):af C 101 [.row 203 (l.map hb),.pv (.ag (hb b))] (.own 203 ((Reg.pushB l b).map hb)) [.gone]:=by
 refine fW hC Tryz.func101 rfl (by kernel_rfl) fun _=>?_;have D:=ak l hb;have U:=ak (flat b.xs) fun n=>[i64 n];have V:=oo b.xs;have done:∀z:List gQ,z=Reg.pushB l b->AB.row 203 (z.map hb)=AB.row 203 ((Reg.pushB l b).map hb):=fun z e=>by rw[e]
 apply iW<;>intro O
 ·rw[U,V]at O;have N:b.xs=[]:=cP (by omega);exact⟨done l (by rw[Reg.pushB,ae N]),Z,Y⟩
 rw[U,V]at O;have N:b.xs≠[]:=fun e=>O (by rw[e];rfl);have u:l++[b]=Reg.pushB l b->AB.row 203 (l.map hb++[hb b])=AB.row 203 ((Reg.pushB l b).map hb):=fun e=>by rw[<-e,bz];rfl
 apply iW<;>intro h0
 ·omega
 refine⟨⟨by rw[D];omega,by rw[D];omega⟩,iW ?_ ?_⟩<;>intro W
 ·rw[D]at W;obtain⟨m,R⟩:∃m,l.length=m+1:=⟨l.length-1,by omega⟩;have hi:((l.map hb).length:Int)-1=(m:Nat):=by rw[D];omega
  have hp:Reg.pushB l b=match l.getLast? with
   | some t=>if t.y1=b.y0/\t.xs=b.xs then l.dropLast++[⟨t.y0,b.y1,t.xs⟩] else l++[b]
   | none=>[b]:=by rw[Reg.pushB,aa N]<;>rfl
  obtain⟨t,I⟩:=aj (l:=l) (i:=m) (by omega);rw[vf R I]at hp;simp only at hp;have ft:=oo t.xs;refine⟨⟨by rw[hi];omega,by rw[hi,D];omega⟩,(hb t),(idx hi I).2,iW ?_ ?_⟩<;>intro h3
  ·refine⟨⟨by rw[hi];omega,by rw[hi,D];omega⟩,(hb t),(idx hi I).2,_,_,(z6 (flat t.xs) (flat b.xs) (by have:=hX t (an I);omega)),iW ?_ ?_⟩<;>intro J
   ·have J:t.xs=b.xs:=M_ J;refine⟨⟨by rw[hi];omega,by rw[hi,D];omega⟩,(hb t),(idx hi I).2,?_⟩;rw[ae ⟨h3,J⟩]at hp;have Dw:∀k:Nat,k=m->AB.row 203 ((l.map hb).set k [i64 t.y0,i64 b.y1,ints (flat t.xs)])=AB.row 203 ((Reg.pushB l b).map hb):=by
     intro k e;subst e;rw[hp];obtain⟨d,hd⟩:=Jl.1 (vf R I);subst hd;have hk:k=d.length:=by simp at R;omega
     subst hk;simp[hb]
    exact⟨Dw _ (by rw[hi];rfl),Z,Y⟩
   have J:t.xs≠b.xs:=fun e=>J (by rw[e]);rw[aa (fun h=>J h.2)]at hp;exact⟨⟨by simp,by simp;omega,by simp;omega⟩,u hp.symm,Z,Y⟩
  rw[aa (fun h=>h3 h.1)]at hp;exact⟨⟨by simp,by simp;omega,by simp;omega⟩,u hp.symm,Z,Y⟩
 rw[D]at W;have hl:l=[]:=cP (by omega);exact⟨⟨by simp,by simp;omega,by simp;omega⟩,u (by subst hl;rw[Reg.pushB,aa N];rfl),Z,Y⟩
theorem Na:∀{s:cR} {k:Nat} {p:Int×Int},s[k]?=some p->(flat s)[2*k]?=some p.1/\(flat s)[2*k+1]?=some p.2:=by
 intro s
 induction s with
 | nil=>intro k p h;simp at h
 | cons q s ih=>
  intro k p h;cases k with
  | zero=>simp at h;subst h;exact⟨rfl,rfl⟩
  | succ k=>
   obtain⟨u,z⟩:=ih (k:=k) (p:=p) (by simpa using h);rw[show 2*(k+1)=(2*k+1)+1 by omega];exact⟨by simpa [flat] using u,by simpa [flat] using z⟩
theorem Ea(l:List gQ)(hN:l.length<=1000000000000)(O:∀t∈l,t.xs.length<=1000000000000)(hT:(Reg.told l).length<=4398046511104):af C 212 [.pv (.sl (l.map hb))] (.own 125 ((Reg.told l).map rc)) []:=by
 refine sd ⟨[],[2],[],[8],[],[]⟩ hC Tryz.func212 rfl (by kernel_rfl) fun _=>?_;have z:=ak l hb;have R:∀i,(Reg.told (l.take i)).length<=(Reg.told l).length:=fun i=>by
  have e:Reg.told l=Reg.told (l.take i)++Reg.told (l.drop i):=by
   unfold Reg.told;rw[<-List.flatMap_append,nO]
  rw[e,bG];omega
 refine ax (fun i:Nat=>i<=l.length) (fun i=>[(7,.p (.sl (l.map hb))),(8,.p (i64 (l.map hb).length)),(3,.ow 3),(9,.p (i64 i))]) (fun i=>[(3,.row 125 ((Reg.told (l.take i)).map rc))]) (fun i=>l.length-i) 0 _ (au.ed hC _ 3 125 _ (by decide) rfl rfl (by decide)) (ai _) ⟨Z,Z,Z,Z,Y⟩ ⟨Z,Y⟩ fun i hi t h=>?_;apply iW<;>intro D
 ·rw[z]at D;obtain⟨b,u⟩:=aj (l:=l) (i:=i) (by omega);have I:=ak (flat b.xs) fun n=>[i64 n];have J:=oo b.xs;have gZ:=O b (an u);have U:=R (i+1);rw[sD u,bG,aw]at U;refine⟨(hb b),(idx rfl u),?_⟩;refine DL (fun _:Unit=>True) (fun _=>[(7,.p (.sl (l.map hb))),(8,.p (i64 (l.map hb).length)),(3,.ow 3),(9,.p (i64 i))]) (fun _=>[(3,.row 125 ((Reg.told (l.take (i+1))).map rc))]) (fun _ _ t h=>?_) ?_
  ·exact⟨wO (by omega),(i+1),_,au.refl _ _,by omega,by omega,⟨Z,Z,Z,Z,Y⟩,⟨Z,Y⟩⟩
  refine ax (fun k:Nat=>k<=b.xs.length) (fun k=>[(7,.p (.sl (l.map hb))),(8,.p (i64 (l.map hb).length)),(3,.ow 3),(9,.p (i64 i)),(5,.bx 5 0),(6,.p (i64 ((2*k:Nat):Int)))]) (fun k=>[(3,.row 125 ((Reg.told (l.take i)++nF b k).map rc)),(5,.box [.p (i64 b.y0),.p (i64 b.y1),.p (ints (flat b.xs))])]) (fun k=>b.xs.length-k) 0 _ (au.refl _ _) (ai _) ⟨Z,Z,Z,Z,Z,Z,Y⟩ ⟨by rw[nF];simp;rfl,Z,Y⟩ fun k hk t h=>?_;have HV:(nF b k).length<=k:=by simp[nF];omega
  apply iW<;>intro N
  ·rw[I,J]at N;obtain⟨p,hp⟩:=aj (l:=b.xs) (i:=k) (by omega);obtain⟨V,W⟩:=Na hp;refine⟨[i64 p.1],(idx rfl V),wO (by omega),[i64 p.2],(idx (by omega) W),⟨D2 rfl,by simp;omega,by simp;omega⟩,wO (by omega),(k+1),_,au.refl _ _,by omega,by omega,⟨rfl,rfl,rfl,rfl,rfl,bc (by omega),trivial⟩,⟨?_,Z,Y⟩⟩;have hc:nF b (k+1)=nF b k++[⟨p.1,b.y0,p.2,b.y1⟩]:=by simp[nF,aN hp]
   have e:(Reg.told (l.take i)++nF b k).map rc++[rc ⟨p.1,b.y0,p.2,b.y1⟩]=(Reg.told (l.take i)++nF b (k+1)).map rc:=by
    rw[hc,<-gT,bz (l₂:=[_])];rfl
   exact ah (AB.row 125) e
  rw[I,J]at N;refine⟨(),trivial,⟨Z,Z,Z,Z,Y⟩,⟨?_,trivial⟩⟩;rw[sD u];have:nF b k=b.xs.map fun p=>⟨p.1,b.y0,p.2,b.y1⟩:=by rw[nF,aW (by omega)]
  rw[<-this];rfl
 rw[z]at D;rw[aW (by omega)];exact⟨Z,Z,Y⟩
theorem FX(l:List gQ)(z:l.length<=1000000)(u:∀t∈l,t.xs.length<=1000000):af C 212 [.pv (.sl (l.map hb))] (.own 125 ((Reg.told l).map rc)) []:=
 Ea l (by omega) (fun t D=>by have:=u t D;omega) (by
  have h1:=qX l u;have h3:l.length*1000000<=1000000*1000000:=a8 _ z;omega)
end M
end Go.Proofs.YtnpkopkpbgflnaaGreatDoor
namespace Go.AM
open Go.RowKit
variable {k:Nat}
theorem y8{α:Type}:∀{L:List (List α)} {a:Nat} {r:List α} {j:Nat} {v:α},(∀r∈L,r.length=k)->L[a]?=some r->r[j]?=some v->L.flatten[a*k+j]?=some v:=by
 intro L
 induction L with
 | nil=>intro a r j v _ h;simp at h
 | cons x L ih=>
  intro a r j v hk u z;have hx:=hk x (by simp);cases a with
  | zero=>
   simp at u;subst u;rw[vh,Nat.zero_mul,aY,dU (aA z)];exact z
  | succ a=>
   rw[vh,dh,dV (by omega)];have:=ih (a:=a) (r:=r) (j:=j) (v:=v) (fun r D=>hk r (by simp[D])) (by simpa using u) z;rw[<-this];congr 1;omega
theorem gI{α:Type}:∀{L:List (List α)},(∀r∈L,r.length=k)->L.flatten.length=L.length*k:=by
 intro L
 induction L with
 | nil=>intro _;simp
 | cons x L ih=>
  intro hk;rw[vh,bG,ih fun r u=>hk r (by simp[u]),hk x (by simp),cH,dh];omega
def az(L:List (List Value)):List (List PV):=L.map fun r=>r.map PV.im
variable {L:List (List Value)}
theorem sJ{P:Program}{S:Nat->Prop}{w:World}(hk:∀r∈L,r.length=k){xs:List Value}(hl:xs.length=L.length*k)(h:∀(a:Nat) r (j:Nat) x,(az L)[a]?=some r->r[j]?=some x->∃u,xs[a*k+j]?=some u/\aQ S w x u):xs=L.flatten:=by
 have VK:=gI hk;apply jM;intro q;by_cases z:q<L.length*k
 ·have D:0<k:=CW fun e=>by rw[e]at z;simp at z
  have I:q / k<L.length:=(Nat.div_lt_iff_lt_mul D).2 z;have hj:q % k<k:=pk _ D;have J:L[q / k]?=some L[q / k]:=aX I;have xl:=hk _ (uw I);have N:L[q / k][q % k]?=some (L[q / k][q % k]'(by omega)):=aX _;have e:q / k*k+q % k=q:=by rw[Nat.mul_comm];exact Nat.div_add_mod q k
  obtain⟨u,O,U⟩:=h (q / k) _ (q % k) _ (by unfold az;rw[aB,J];rfl) (by rw[aB,N];rfl);rw[e]at O;have R:=y8 hk J N;rw[e]at R;rw[O,R,U.bT]
 rw[fI (by omega),fI (by omega)]
theorem wJ{S:Nat->Prop}{w:World}(hk:∀r∈L,r.length=k):∀(a:Nat) r (j:Nat) x,(az L)[a]?=some r->r[j]?=some x->∃u,L.flatten[a*k+j]?=some u/\aQ S w x u:=by
 intro a r j x z D;unfold az at z;rw[aB]at z;obtain⟨r0,I,rfl⟩:=aT.1 z;rw[aB]at D;obtain⟨v,J,rfl⟩:=aT.1 D;exact⟨v,y8 hk I J,.im v⟩
theorem Eb(hk:∀r∈L,r.length=k):∀r∈az L,r.length=k:=by
 intro r u;obtain⟨z,h,rfl⟩:=bF.1 u;rw[aw,hk z h]
def qZ(w:World)(g n:Nat)(F:Array Value)(os:Array Obj):World:=Sort.grow (Sort.putRow id (Sort.ahead w n) g 0 F) os
theorem z7(w:World)(g n:Nat)(F:Array Value)(os:Array Obj):(qZ w g n F os).os=w.os/\(qZ w g n F os).tape=w.tape/\(qZ w g n F os).output=w.output/\w.heap.size<=(qZ w g n F os).heap.size/\∀k,k<w.heap.size->(qZ w g n F os).heap[k]?=if k=g then (w.heap[k]?).map (Sort.onCells (Sort.putCells id 0 F)) else w.heap[k]?:=by
 refine⟨rfl,rfl,rfl,?_,fun k hk=>?_⟩
 ·simp[qZ,Sort.grow,Sort.putRow,Sort.mapBlock,Sort.ahead]
 simp only[qZ,Sort.grow,Sort.putRow,Sort.mapBlock,Sort.ahead];rw[I2 (by simpa using hk),C0];by_cases e:g=k
 ·rw[ae e,ae e.symm]
 rw[aa e,aa fun h=>e h.symm]
theorem vo(F cur:Array Value)(h:F.size<=cur.size):(Sort.putCells id 0 F cur).size=cur.size/\(Sort.putCells id 0 F cur).toList.take F.size=F.toList:=by
 refine⟨by simp[Sort.putCells],?_⟩;apply jM;intro j;rw[cV];split
 ·rename_i u;rw[jN,jN];simp only[Sort.putCells,Array.getElem?_mapIdx];rw[cx (by omega:j<cur.size),cx u,fG,ae ⟨ai _,by omega⟩,Nat.sub_zero,getElem!_pos F j u];rfl
 rename_i u;rw[fI (by simpa using u)]
theorem KV{w w':World}{e:TypeId}{es I:List (List PV)}{u:Value}{zs:List Value}(hs:w.heap.size<=w'.heap.size)(h:∀g,bY u=some g->g<w.heap.size/\Mv w (.row e es::zs.map fun a=>.pv (.im a)) (#[u]++zs.toArray) g):uy w w' (.row e es::zs.map fun a=>.pv (.im a)) [.row I] (#[u]++zs.toArray):=by
 have D:∀i g,dG w' (.row e es::zs.map fun a=>.pv (.im a)) [.row I] (#[u]++zs.toArray).toList i g->i=0/\bY u=some g:=fun i g z=>by
  simp only[iz]at z;cases i with
  | zero=>exact⟨rfl,aD rfl z.2⟩
  | succ i=>exact (uY zs i g z).elim
 exact⟨fun i g z=>by obtain⟨J,N⟩:=h g (D i g z).2;exact⟨cG J hs,.inr N⟩,fun i j g hi O=>by rw[(D i g hi).1,(D j g O).1]⟩
theorem tW{C:Ctx}(hC:bR C){f:FuncId}(e:TypeId)(U:TI)(hT:C.T e=some U)(Lq:0<U.size)(zs:List Value)(L L':List (List Value))(hL:∀r∈L,r.length=U.size)(W:∀r∈L',r.length=U.size)(hlen:L'.length=L.length)
  (h1:∀r∈L',∀v∈r,v.oneCell'=true) (hf:uX C f)
  (V:L=[]->∀w,Calls C.P f (#[.slice none 0 0]++zs.toArray) w fun e' w'=>e'=.returned (.tuple #[])/\w'=w)
  (h:∀S w bY cap,C.E S w->bY<w.heap.size->L.length<=cap->(∀j v,L.flatten[j]?=some v->w.cell? ⟨bY,j,none⟩=some v/\w.frozen? ⟨bY,j,none⟩=false)->
   Calls C.P f (#[.slice (some ⟨bY,0,none⟩) L.length cap]++zs.toArray) w fun e' w'=>e'=.returned (.tuple #[])/\∃n os,w'=qZ w bY n L'.flatten.toArray os):
  af C f (.row e (az L)::zs.map fun a=>.pv (.im a)) (.tu []) [.row (az L')]:=by
 refine⟨hf,fun S w vs hE hS hl hr _=>?_⟩;obtain⟨D,vr,rfl⟩:∃D vr,vs=#[D]++vr:=by
  obtain⟨l⟩:=vs;cases l with
  | nil=>simp at hl
  | cons D l=>exact⟨D,⟨l⟩,by simp⟩
 have Xl:vr=zs.toArray:=yT (S:=S) (w:=w) (P:=C.P) (by simp at hl ⊢;omega) fun j x v hx hv=>hr (j+1) x v (by simpa using hx) (by rw[Jo (by simp)];simpa using hv);subst Xl;have ay:aC C.P w (aQ S w) e (az L) D/\∀g,bY D=some g->¬S g:=hr 0 _ D rfl (by simp);obtain⟨⟨i,xs,hi,I,hown,YB,jG,J⟩,Td⟩:=ay;obtain⟨info,z,Y,O,_⟩:=hC.tab e U hT;rw[hi]at Y;injection Y with Y;subst Y;have N:(az L).length=L.length:=aw ..;have Z:(az L').length=L.length:=by rw[<-hlen];exact aw ..
 have hx:xs=L.flatten:=sJ (P:=C.P) (k:=i.size) (by rw[O];exact hL) (by rw[<-N];exact hown.1) J;have Nb:∀g,bY D=some g->Mv w (.row e (az L)::zs.map fun a=>.pv (.im a)) (#[D]++zs.toArray) g:=fun g hg=>⟨0,_,D,rfl,by simp,rfl,.inl hg⟩;have tail:∀w':World,pr S w' C.P (.row e (az L)) (.row (az L')) D->fx S w' C.P (.row e (az L)::zs.map fun a=>.pv (.im a)) [.row (az L')] (#[D]++zs.toArray).toList:=fun w' Lr=>by
  simp only[iz];exact⟨Lr,DM zs⟩
 have Uy:∀w':World,w.heap.size<=w'.heap.size->uy w w' (.row e (az L)::zs.map fun a=>.pv (.im a)) [.row (az L')] (#[D]++zs.toArray):=fun w' hs=>KV hs (fun g hg=>⟨(hown.lt g (by rw[fM (er hown).choose_spec.choose_spec];exact hg)).2,Nb g hg⟩);rcases hown.2 with⟨q1,q2⟩ | ⟨g,cap,cur,q1,q2,q3,q4,q5,q6,q7⟩
 ·have I7:L=[]:=cP (by rw[<-N];exact q2);subst q1;refine (V I7 w).mono fun e' w' ⟨he,hw⟩=>?_;subst hw;refine⟨.tuple #[],S,he,Fr.refl _ _,fun _ h=>h,hS,fun b hb=>.inl hb,⟨#[],rfl,rfl,by simp⟩,tail _ ⟨?_,Td⟩,Uy _ (aF _),fun g h=>by cases h⟩;have RQ:L'=[]:=cP (by rw[hlen,I7];rfl);subst RQ;exact⟨i,[],hi,I,Dm _ _ _ _,by simp[az],by simp,by simp[az]⟩
 subst q1;have KW:g<w.heap.size:=(dq.1 q3).1;have Xm:L'.flatten.toArray.size=L.length*i.size:=by rw[eF,gI W,hlen,O]
 have nR:L.length*i.size<=cur.size:=by rw[q6];exact a8 _ (by rw[<-N];exact q4)
 have hh:=h S w g cap hE KW (by rw[<-N];exact q4) fun j v R=>by
  have uo:j<L.length*i.size:=by have:=aA R;rw[gI hL]at this;rw[O];exact this
  have:cur[j]?=some v:=by
   rw[<-hx,<-q7]at R;rw[cV]at R;split at R
   ·simpa using R
   cases R
  exact⟨by rw[cell_of_row w g j cur e (0,0) q3];exact this,by simp[World.frozen?,q3]⟩
 rw[<-N]at hh;refine hh.mono fun e' w' ⟨he,n,os,hw⟩=>?_;subst hw;obtain⟨p1,p2,p3,p4,p5⟩:=z7 w g n L'.flatten.toArray os;obtain⟨c1,c2⟩:=vo L'.flatten.toArray cur (by omega);have lN:(qZ w g n L'.flatten.toArray os).heap[g]?=some (.cells (Sort.putCells id 0 L'.flatten.toArray cur) e (0,0)):=by rw[p5 g KW,ae rfl,q3];rfl
 refine⟨.tuple #[],S,he,⟨p1,p2,p3,p4,fun k hk hn=>?_⟩,fun _ h=>h,fun b hb=>cG (hS b hb) p4,fun b hb=>.inl hb,⟨#[],rfl,rfl,by simp⟩,tail _ ⟨?_,Td⟩,Uy _ p4,fun g h=>by cases h⟩
 ·rw[p5 k hk,aa];intro e;subst e;exact hn (Nb k rfl)
 refine⟨i,L'.flatten,hi,I,⟨by rw[Z,<-hlen,O];exact gI W,.inr ⟨g,cap,_,by rw[Z,N],ai _,lN,by rw[Z,<-N];exact q4,q5,by rw[c1];exact q6,?_⟩⟩,by rw[O];exact Eb W,fun u hu=>?_,wJ (by rw[O];exact W)⟩
 ·rw[Z,<-Xm];exact c2
 obtain⟨r,Mf,oM⟩:=vi.1 hu;exact h1 r Mf u oM
theorem HY{C:Ctx}(hC:bR C){f:FuncId}(e:TypeId)(V:TI)(hT:C.T e=some V)(Lq:0<V.size)(zs:List Value)(L L':List (List Value))(m:Nat)(hm:m<=L.length)(hL:∀r∈L,r.length=V.size)(Lw:∀r∈L',r.length=V.size)(hlen:L'.length=L.length)
  (h1:∀r∈L',∀v∈r,v.oneCell'=true) (hf:uX C f)
  (W:L=[]->∀w,Calls C.P f (#[.slice none 0 0]++zs.toArray) w fun e' w'=>e'=.returned (.slice none 0 0)/\w'=w)
  (h:∀S w bY cap,C.E S w->bY<w.heap.size->L.length<=cap->(∀j v,L.flatten[j]?=some v->w.cell? ⟨bY,j,none⟩=some v/\w.frozen? ⟨bY,j,none⟩=false)->
   Calls C.P f (#[.slice (some ⟨bY,0,none⟩) L.length cap]++zs.toArray) w fun e' w'=>e'=.returned (.slice (some ⟨bY,0,none⟩) m cap)/\∃n os,w'=qZ w bY n L'.flatten.toArray os):
  af C f (.row e (az L)::zs.map fun a=>.pv (.im a)) (.own e (az (L'.take m))) [.gone]:=by
 refine⟨hf,fun S w vs hE hS hl hr _=>?_⟩;obtain⟨D,vr,rfl⟩:∃D vr,vs=#[D]++vr:=by
  obtain⟨l⟩:=vs;cases l with
  | nil=>simp at hl
  | cons D l=>exact⟨D,⟨l⟩,by simp⟩
 have Xl:vr=zs.toArray:=yT (S:=S) (w:=w) (P:=C.P) (by simp at hl ⊢;omega) fun j x v hx hv=>hr (j+1) x v (by simpa using hx) (by rw[Jo (by simp)];simpa using hv);subst Xl;have ay:aC C.P w (aQ S w) e (az L) D/\∀g,bY D=some g->¬S g:=hr 0 _ D rfl (by simp);obtain⟨⟨i,xs,hi,I,hown,YB,jG,O⟩,Td⟩:=ay;obtain⟨info,z,g1,R,_⟩:=hC.tab e V hT;rw[hi]at g1;injection g1 with g1;subst g1;have J:(az L).length=L.length:=aw ..;have Ec:(az L').length=L.length:=by rw[<-hlen];exact aw ..
 have hx:xs=L.flatten:=sJ (P:=C.P) (k:=i.size) (by rw[R];exact hL) (by rw[<-J];exact hown.1) O;have Nb:∀g,bY D=some g->Mv w (.row e (az L)::zs.map fun a=>.pv (.im a)) (#[D]++zs.toArray) g:=fun g Y=>⟨0,_,D,rfl,by simp,rfl,.inl Y⟩;have tail:∀w':World,fx S w' C.P (.row e (az L)::zs.map fun a=>.pv (.im a)) [.gone] (#[D]++zs.toArray).toList:=fun w'=>by
  simp only[iz];exact⟨trivial,DM zs⟩
 have Nc:∀(w':World) (i g:Nat),¬dG w' (.row e (az L)::zs.map fun a=>.pv (.im a)) [.gone] (#[D]++zs.toArray).toList i g:=fun w' i g hk=>by
  simp only[iz]at hk;cases i with
  | zero=>cases hk.1
  | succ i=>exact uY zs i g hk
 have Uy:∀w':World,uy w w' (.row e (az L)::zs.map fun a=>.pv (.im a)) [.gone] (#[D]++zs.toArray):=fun w'=>⟨fun i g h=>(Nc w' i g h).elim,fun i j g h=>(Nc w' i g h).elim⟩;have Uz:az (L'.take m)=(az L').take m:=by unfold az;rw[iC]
 rcases hown.2 with⟨q1,q2⟩ | ⟨g,cap,cur,q1,q2,q3,q4,q5,q6,q7⟩
 ·have I7:L=[]:=cP (by rw[<-J];exact q2);subst q1;refine (W I7 w).mono fun e' w' ⟨he,hw⟩=>?_;subst hw;have RQ:L'=[]:=cP (by rw[hlen,I7];rfl);subst RQ;refine⟨.slice none 0 0,S,he,Fr.refl _ _,fun _ h=>h,hS,fun b hb=>.inl hb,⟨?_,fun g Y=>by cases Y⟩,tail _,Uy _,fun g _ Y=>by cases aD rfl Y⟩;rw[List.take_nil];exact⟨i,[],hi,I,Dm _ _ _ _,by simp[az],by simp,by simp[az]⟩
 subst q1;have KW:g<w.heap.size:=(dq.1 q3).1;have Xm:L'.flatten.toArray.size=L.length*i.size:=by rw[eF,gI Lw,hlen,R]
 have nR:L.length*i.size<=cur.size:=by rw[q6];exact a8 _ (by rw[<-J];exact q4)
 have hh:=h S w g cap hE KW (by rw[<-J];exact q4) fun j v U=>by
  have uo:j<L.length*i.size:=by have:=aA U;rw[gI hL]at this;rw[R];exact this
  have:cur[j]?=some v:=by
   rw[<-hx,<-q7]at U;rw[cV]at U;split at U
   ·simpa using U
   cases U
  exact⟨by rw[cell_of_row w g j cur e (0,0) q3];exact this,by simp[World.frozen?,q3]⟩
 rw[<-J]at hh;refine hh.mono fun e' w' ⟨he,n,os,hw⟩=>?_;subst hw;obtain⟨p1,p2,p3,p4,p5⟩:=z7 w g n L'.flatten.toArray os;obtain⟨c1,c2⟩:=vo L'.flatten.toArray cur (by omega);have N:(qZ w g n L'.flatten.toArray os).heap[g]?=some (.cells (Sort.putCells id 0 L'.flatten.toArray cur) e (0,0)):=by rw[p5 g KW,ae rfl,q3];rfl
 have Nd:aC C.P (qZ w g n L'.flatten.toArray os) (aQ S (qZ w g n L'.flatten.toArray os)) e (az L') (.slice (some ⟨g,0,none⟩) (az L).length cap):=by
  refine⟨i,L'.flatten,hi,I,⟨by rw[Ec,<-hlen,R];exact gI Lw,.inr ⟨g,cap,_,by rw[Ec,J],ai _,N,by rw[Ec,<-J];exact q4,q5,by rw[c1];exact q6,?_⟩⟩,by rw[R];exact Eb Lw,fun u hu=>?_,wJ (by rw[R];exact Lw)⟩
  ·rw[Ec,<-Xm];exact c2
  obtain⟨r,Mf,oM⟩:=vi.1 hu;exact h1 r Mf u oM
 refine⟨_,S,he,⟨p1,p2,p3,p4,fun k hk hn=>?_⟩,fun _ h=>h,fun b hb=>cG (hS b hb) p4,fun b hb=>.inl hb,⟨?_,fun Z N=>Td Z N⟩,tail _,Uy _,fun Z _ N=>⟨?_,.inr (Nb Z (aD rfl N)),fun i=>Nc _ i Z⟩⟩
 ·rw[p5 k hk,aa];intro e;subst e;exact hn (Nb k rfl)
 ·rw[Uz];exact aC.front Nd rfl (by rw[J];exact hm) rfl
 have N:=aD rfl N;have:g=Z:=by injection N
 rw[<-this];exact cG KW p4
end Go.AM
namespace Go.AM
open Go.RowKit
theorem z8{C:Ctx}(hC:bR C){f:FuncId}(e:TypeId)(J:TI)(hT:C.T e=some J)(i:Int)(L L':List (List Value))(x:List Value)(hL:∀r∈L,r.length=J.size)(hx:x.length=J.size)(Lw:∀r∈L',r.length=J.size)(h1:∀r∈L',∀v∈r,v.oneCell'=true)(hf:uX C f)
  (h:∀(w:World) (D:Value) (g2 c2:Nat) (tX:Array Value),w.ownsRow 0 e J.size D L.length L.flatten->bY D≠some g2->w.heap[g2]?=some (.cells tX e (0,0))->(∀(j:Nat) v,x[j]?=some v->tX[j]?=some v)->1<=c2->tX.size=c2*J.size ->
   Calls C.P f #[D,.int .i64 i,.slice (some ⟨g2,0,none⟩) 1 c2] w fun e' w'=>∃W,e'=.returned W/\w'.ownsRow 0 e J.size W L'.length L'.flatten/\Fr (fun b=>bY D=some b) w w'/\∀g,bY W=some g->g<w'.heap.size/\(w.heap.size<=g\/bY D=some g)):
  af C f [.row e (az L),.pv (.im (.int .i64 i)),.row e (az [x])] (.own e (az L')) [.gone,.gone]:=by
 refine⟨hf,fun S w vs hE hS hl Y hd=>?_⟩;obtain⟨D,v1,R,rfl⟩:∃D v1 R,vs=#[D,v1,R]:=by
  obtain⟨l⟩:=vs
  match l,hl with
  | [a,b,c],_=>exact⟨a,b,c,rfl⟩
 have r1:aQ S w (.im (.int .i64 i)) v1:=Y 1 _ v1 rfl rfl;have r1:=r1.bT;subst r1;obtain⟨⟨i0,xs,hi,Z,hown,YB,jG,N⟩,Td⟩:aC C.P w (aQ S w) e (az L) D/\∀g,bY D=some g->¬S g:=Y 0 _ D rfl rfl;obtain⟨⟨i2,KI,IV,_,Qx,_,_,RS⟩,_⟩:aC C.P w (aQ S w) e (az [x]) R/\∀g,bY R=some g->¬S g:=Y 2 _ R rfl rfl;obtain⟨info,z,g1,O,_⟩:=hC.tab e J hT;rw[hi]at g1 IV;injection g1 with g1;subst g1;injection IV with IV;subst IV;have qE:(az L).length=L.length:=aw ..;have qA:xs=L.flatten:=sJ (P:=C.P) (k:=i0.size) (by rw[O];exact hL) (by rw[<-qE];exact hown.1) N;have Xn:KI=[x].flatten:=sJ (P:=C.P) (k:=i0.size) (by rw[O];intro r Y;rw[bM.1 Y];exact hx) (by have:=Qx.1;simpa [az] using this) RS;have Nb:∀g,bY D=some g->Mv w [.row e (az L),.pv (.im (.int .i64 i)),.row e (az [x])] #[D,.int .i64 i,R] g:=fun g hg=>⟨0,_,D,rfl,rfl,rfl,.inl hg⟩;rw[qE,qA]at hown;rcases Qx.2 with⟨_,q2⟩ | ⟨g,cap,cur,q1,q2,q3,q4,q5,q6,q7⟩
 ·simp[az]at q2
 subst q1;have cU:bY D≠some g:=fun U=>by
  have:=hd 0 2 _ _ D (.slice (some ⟨g,0,none⟩) (az [x]).length cap) g rfl rfl rfl rfl rfl rfl (.inl U) (.inl rfl);cases this
 have QW:∀(j:Nat) v,x[j]?=some v->cur[j]?=some v:=fun j v hv=>by
  have hj:=aA hv;rw[Xn,List.flatten_singleton]at q7;rw[<-q7,cV]at hv;split at hv
  ·simpa using hv
  cases hv
 refine (h w D g cap cur (by rw[<-O];exact hown) cU q3 QW (by simpa [az] using q4) (by rw[<-O];exact q6)).mono fun e' w' ⟨W,he,ho,V,hg⟩=>?_;refine⟨W,S,he,⟨V.os,V.tape,V.output,V.size,fun k hk hn=>V.block k hk fun U=>hn (Nb k U)⟩,fun _ h=>h,fun b hb=>cG (hS b hb) V.size,fun b hb=>.inl hb,⟨⟨i0,L'.flatten,hi,Z,?_,by rw[O];exact Eb Lw,fun u hu=>?_,wJ (by rw[O];exact Lw)⟩,fun I lN hs=>?_⟩,⟨trivial,trivial,trivial⟩,?_,fun I _ lN=>?_⟩
 ·rw[show (az L').length=L'.length from aw ..,O];exact ho
 ·obtain⟨r,Mf,oM⟩:=vi.1 hu;exact h1 r Mf u oM
 ·rcases (hg I lN).2 with U | U
  ·have:=hS I hs;omega
  exact Td I U hs
 all_goals
  have Bx:∀q I,¬dG w' [.row e (az L),.pv (.im (.int .i64 i)),.row e (az [x])] [.gone,.gone] [D,.int .i64 i,.slice (some ⟨g,0,none⟩) (az [x]).length cap] q I:=fun q I hk=>by
   match q,hk with
   | 0,hk=>cases hk.1
   | 1,hk=>exact hk
   | 2,hk=>cases hk.1
   | q+3,hk=>exact hk
 ·exact⟨fun q I hk=>(Bx q I hk).elim,fun q j I hk=>(Bx q I hk).elim⟩
 obtain⟨h2,h3⟩:=hg I (aD rfl lN);exact⟨h2,h3.imp id (Nb I),fun q=>Bx q I⟩
end Go.AM
namespace Go.AM
open Go.RowKit Go.ChangeShapes
section
variable {H:Type} {enc:TypeId×Value->H} {P:Program} {w:World} {S:Nat->Prop}
def HZ(enc:TypeId×Value->H)(P:Program)(w:World)(S:Nat->Prop)(t:TypeId)(k:Nat)(Q:List PV->DataW H->Prop):Prop:=
 ∀n cs x,DataW.trod enc P w 0 (fun _=>true) true n t cs=some x->∃xs,xs.length=k/\cs.length=k/\(∀(i:Nat) c v,xs[i]?=some c->cs[i]?=some v->aQ S w c v/\v.oneCell'=true)/\Q xs x.1
theorem one_cell{c:PV}{u:Value}(h:aQ S w c u/\u.oneCell'=true):∀(i:Nat) I v,[c][i]?=some I->[u][i]?=some v->aQ S w I v/\v.oneCell'=true:=fun i I v z D=>by
 match i,z,D with
 | 0,z,D=>cases z;cases D;exact h
 | n+1,z,D=>cases z
theorem Pj{t:TypeId}(u:P.underlying t=some (.int .i64)):HZ enc P w S t 1 fun xs d=>∃n:Int,xs=[.im (.int .i64 n)]/\d=.lit (.int .i64 n):=fun n cs x h=>by
 obtain⟨z,rfl,rfl,_⟩:=DataW.trod_int u h;exact⟨[.im (.int .i64 z)],rfl,rfl,one_cell ⟨.im _,rfl⟩,z,rfl,rfl⟩
theorem Pk{t:TypeId}(u:P.underlying t=some .string):HZ enc P w S t 1 fun xs d=>∃s:ByteArray,xs=[.im (.string s)]/\d=.lit (.string s.data.toList):=fun n cs x h=>by
 obtain⟨s,rfl,rfl,_⟩:=DataW.trod_string u h;exact⟨[.im (.string s)],rfl,rfl,one_cell ⟨.im _,rfl⟩,s,rfl,rfl⟩
theorem Jp{a:Addr}{v:Value}(h:w.cell? a=some v):a.spot=none/\a.block<w.heap.size:=by
 unfold World.cell? at h;split at h
 ·rename_i c _ _ u;refine⟨?_,?_⟩
  ·cases hs:a.spot with
   | none=>rfl
   | some s=>rw[hs]at h;cases h
  rcases Nat.lt_or_ge a.block w.heap.size with h' | h'
  ·exact h'
  rw[vj h']at u;cases u
 cases h
variable {k:Nat} {Q:List PV->DataW H->Prop}
theorem KX{t e:TypeId}(ht:P.underlying t=some (.slice e))(hc:P.cellsOf e=k)(hk:0<k)(hS:∀b,b<w.heap.size->S b)(he:HZ enc P w S e k Q):
  HZ enc P w S t 1 fun xs d=>∃(es:List (List PV)) (ds sp:List (DataW H)),xs=[.sl es]/\es.length=ds.length/\(d=.nil/\ds=[]\/d=.slice ds sp)/\∀(i:Nat) x y,es[i]?=some x->ds[i]?=some y->Q x y:=fun n cs x h=>by
 rcases Go.Deep.open_slice ht h with⟨rfl,rfl⟩ | ⟨a,len,cap,m,n,D,Pl,rfl,hb,hl,hm,Ma,rfl,Z⟩
 ·exact⟨[.sl []],rfl,rfl,one_cell ⟨.nil _ _,rfl⟩,[],[],[],rfl,rfl,.inl ⟨rfl,rfl⟩,fun i x y h=>by cases h⟩
 have Qi:len<=m:=by rw[Ma];split<;>omega
 rcases Nat.eq_zero_or_pos len with h0 | V
 ·subst h0;exact⟨[.sl []],rfl,rfl,one_cell ⟨.nil _ _,rfl⟩,[],[],_,rfl,rfl,.inr rfl,fun i x y h=>by cases h⟩
 rw[hc]at Z;have W:∀i,i<len->∃p:List PV×List Value,p.1.length=k/\p.2.length=k/\(∀j,j<k->w.cell? ((a.add (i*k)).add j)=p.2[j]?)/\(∀(j:Nat) c v,p.1[j]?=some c->p.2[j]?=some v->aQ S w c v/\v.oneCell'=true)/\Q p.1 (D i):=fun i hi=>by
  obtain⟨nz,I,u⟩:=Z i (by omega);obtain⟨_,hlen,O⟩:=World.cells?_some I;obtain⟨xs,l1,l2,l3,l4⟩:=he _ _ _ u;exact⟨(xs,nz),l1,l2,O,l3,l4⟩
 obtain⟨F,J⟩:=D3 (α:=List PV×List Value) W;have R:∀(i:Nat) e,((List.range len).map fun i=>(F i).1)[i]?=some e->i<len/\e=(F i).1:=fun i e h=>by
  rw[aB,aT]at h;obtain⟨j,N,rfl⟩:=h;obtain⟨I,u⟩:=aU.1 N;rw[List.getElem_range]at u;subst u;exact⟨by simpa using I,rfl⟩
 have z:∀i j,i<len->j<k->w.cell? ((a.add (i*k)).add j)=some (((F i).2[j]?).getD .nilIface):=fun i j hi N=>by
  obtain⟨_,l2,h3,_⟩:=J i hi;rw[h3 j N,aX (by omega)];rfl
 have hz:=Jp (z 0 0 V hk);obtain⟨b,U,spot⟩:=a;have rQ:spot=none:=by simpa [Addr.add] using hz.1
 subst rQ;have RT:b<w.heap.size:=by simpa [Addr.add] using hz.2
 have ay:∀i j,((⟨b,U,none⟩:Addr).add (i*k)).add j=⟨b,U+i*k+j,none⟩:=fun i j=>by
  unfold Addr.add;by_cases I:i*k=0
  ·rw[ae I,I];by_cases u:j=0
   ·rw[ae u,u];rfl
   rw[aa u];rfl
  rw[aa I];by_cases u:j=0
  ·rw[ae u,u];rfl
  rw[aa u]
 refine⟨[.sl ((List.range len).map fun i=>(F i).1)],rfl,rfl,one_cell ⟨?_,rfl⟩,(List.range len).map fun i=>(F i).1,(List.range len).map D,_,rfl,by simp,.inr rfl,fun i x y I u=>?_⟩
 ·have hlen:((List.range len).map fun i=>(F i).1).length=len:=by simp
  have:=aQ.sl (S:=S) (w:=w) ((List.range len).map fun i=>(F i).1) k b U cap (fun i j=>((F i).2[j]?).getD .nilIface) (by rw[hlen];exact hl) (hS b RT)
   (fun e T9=>by obtain⟨i,hi,rfl⟩:=bF.1 T9;exact (J i (fN.1 hi)).1)
   (fun i e j x I u=>by
    obtain⟨hi,rfl⟩:=R i e I;have N:j<k:=by rw[<-(J i hi).1];exact (aU.1 u).1
    have Y:(F i).2[j]?=some (((F i).2[j]?).getD .nilIface):=by rw[aX (by rw[(J i hi).2.1];exact N)];rfl
    exact⟨by rw[<-ay];exact z i j hi N,((J i hi).2.2.2.1 j x _ u Y).2⟩)
   (fun i e j x I u=>by
    obtain⟨hi,rfl⟩:=R i e I;have N:j<k:=by rw[<-(J i hi).1];exact (aU.1 u).1
    have Y:(F i).2[j]?=some (((F i).2[j]?).getD .nilIface):=by rw[aX (by rw[(J i hi).2.1];exact N)];rfl
    exact ((J i hi).2.2.2.1 j x _ u Y).1)
  rw[hlen]at this;exact this
 obtain⟨hi,rfl⟩:=R i x I;rw[aB,iu hi]at u;cases u;exact (J i hi).2.2.2.2
instance:Inhabited PV:=⟨.sl []⟩
theorem ng{t:TypeId}{u:Array Field}(Y:P.underlying t=some (.struct u))(Z:∀(i:Nat) (f:Field),u[i]?=some f->f.offset=i/\P.cellsOf f.type=1)(hc:P.cellsOf t=u.size)(Qs:Nat->List PV->DataW H->Prop)
  (hf:∀(i:Nat) (f:Field),u[i]?=some f->HZ enc P w S f.type 1 (Qs i)):
  HZ enc P w S t u.size fun xs d=>∃ds:List (DataW H),d=.agg ds/\ds.length=u.size/\∀(i:Nat) x y,xs[i]?=some x->ds[i]?=some y->Qs i [x] y:=fun n cs x h=>by
 obtain⟨ys,m,_,rfl,R,hlen,hy⟩:=DataW.trod_struct Y h;rw[hc]at R;have D:∀i,i<u.size->∃c:PV,∃y v,ys[i]?=some y/\cs[i]?=some v/\aQ S w c v/\v.oneCell'=true/\Qs i [c] y.1:=fun i hi=>by
  have J:u[i]?=some u[i]:=cx hi;obtain⟨ho,z⟩:=Z i _ J;have N:=hy i _ J;rw[ho,z]at N;have U:ys[i]?=some ys[i]:=aX (by omega);rw[U]at N;obtain⟨xs,l1,l2,O,l4⟩:=hf i _ J _ _ _ N;have nR:cs[i]?=some cs[i]:=aX (by omega);have hd:(cs.drop i).take 1=[cs[i]]:=by
   rw[pO (by omega)];rfl
  rw[hd]at O;obtain⟨c,rfl⟩:∃c,xs=[c]:=by
   match xs,l1 with
   | [c],_=>exact⟨c,rfl⟩
  exact⟨c,ys[i],cs[i],U,nR,(O 0 _ _ rfl rfl).1,(O 0 _ _ rfl rfl).2,l4⟩
 obtain⟨F,V⟩:=D3 (α:=PV) D;refine⟨(List.range u.size).map F,by simp,R,fun i c v z I=>?_,ys.map (·.1),rfl,by rw[aw,hlen],fun i x y z I=>?_⟩
 ·have hi:i<u.size:=by have:=(aU.1 z).1;simpa using this
  rw[aB,iu hi]at z;cases z;obtain⟨y,v',_,W,e3,e4,_⟩:=V i hi;rw[I]at W;cases W;exact⟨e3,e4⟩
 have hi:i<u.size:=by have:=(aU.1 z).1;simpa using this
 rw[aB,iu hi]at z;cases z;obtain⟨y',v',e1,_,_,_,e5⟩:=V i hi;rw[aB,e1]at I;cases I;exact e5
variable {d:DataW H} {ps:List MemPlace}
theorem Pm{t:TypeId}(N:HZ enc P w S t k Q){vs:Array Value}(h:DataW.Trod enc P w 0 (fun _=>true) true t (.agg vs) d ps):
  ∃xs,aQ S w (.ag xs) (.agg vs)/\xs.length=k/\Q xs d:=by
 obtain⟨n,O⟩:=h;obtain⟨xs,I,z,J,R⟩:=N _ _ _ O;have z:vs.toList.length=k:=z;have D:∀(i:Nat) (v:Value),vs[i]?=some v->vs.toList[i]?=some v:=fun i v h=>by rw[jN];exact h
 refine⟨xs,.ag xs vs (by rw[I,<-z];simp) (fun u U=>?_) fun i c v V W=>(J i c v V (D i v W)).1,I,R⟩;obtain⟨i,hi⟩:=cI.1 U;have Y:i<xs.length:=by have:=(aU.1 hi).1;omega
 exact (J i _ u (aX Y) hi).2
theorem H0{t:TypeId}{u:Array Field}{r:Reach}{b0:Nat}(z:P.underlying t=some (.struct u))(D:HZ enc P w S t k Q){v:Value}(I:Value.okWide P w r b0 t v)(h:DataW.Trod enc P w 0 (fun _=>true) true t v d ps):
  ∃xs,aQ S w (.ag xs) v/\Q xs d:=by
 obtain⟨cs,rfl,_⟩:=Go.WideShapes.okWide_struct z I;obtain⟨xs,J,_,N⟩:=Pm D h;exact⟨xs,J,N⟩
theorem KY{t e:TypeId}{r:Reach}{b0:Nat}(u:P.underlying t=some (.slice e))(z:HZ enc P w S t 1 Q){v:Value}(D:Value.okWide P w r b0 t v)(h:DataW.Trod enc P w 0 (fun _=>true) true t v d ps):
  ∃c,aQ S w c v/\Q [c] d:=by
 obtain⟨a,l,c,rfl⟩:=Go.WideShapes.okWide_slice u D;obtain⟨n,I⟩:=h;obtain⟨xs,J,l2,N,O⟩:=z _ _ _ I;obtain⟨x,rfl⟩:∃x,xs=[x]:=by
  match xs,J with
  | [x],_=>exact⟨x,rfl⟩
 exact⟨x,(N 0 x _ rfl rfl).1,O⟩
theorem UC(w:World)(xs:List PV)(vs:Array Value)(g:Nat):¬Mv w (xs.map Arg.pv) vs g:=by
 rintro⟨j,y,v,u,_,z,_⟩;rw[aB,aT]at u;obtain⟨x,_,rfl⟩:=u;cases z
def Pn(S:Nat->Prop)(w:World)(xs:List PV)(vs:List Value):Prop:=xs.length=vs.length/\∀(j:Nat) x v,xs[j]?=some x->vs[j]?=some v->aQ S w x v
theorem Nf:Pn S w [] []:=⟨rfl,fun j x v h=>by cases h⟩
theorem wK{x:PV}{v:Value}{xs:List PV}{vs:List Value}(h:aQ S w x v)(D:Pn S w xs vs):Pn S w (x::xs) (v::vs):=⟨by rw[cH,cH,D.1],fun j I J u z=>by
 match j,u,z with
 | 0,u,z=>cases u;cases z;exact h
 | j+1,u,z=>exact D.2 j I J u z⟩
theorem RU{C:Ctx}{f:FuncId}{xs:List PV}{y:Value}(h:af C f (xs.map Arg.pv) (.p (.im y)) []){vs:Array Value}(N:C.E (fun b=>b<w.heap.size) w)(J:Pn (fun b=>b<w.heap.size) w xs vs.toList):
  Calls C.P f vs w fun e w'=>e=.returned y/\Below w.heap.size w w':=by
 refine (h.2 (fun b=>b<w.heap.size) w vs N (fun _ h=>h) (by rw[aw,J.1];simp) (fun j x v z O=>?_) (fun i j x y v u g z _ _ _ R=>?_)).mono ?_
 ·rw[aB,aT]at z;obtain⟨x,U,rfl⟩:=z;exact J.2 j x v U (by rw[jN];exact O)
 ·rw[aB,aT]at z;obtain⟨x,_,rfl⟩:=z;cases R
 rintro e w' ⟨v,S',rfl,D,_,_,_,I,_⟩;have I:aQ S' w' (.im y) v:=I;cases I;exact⟨rfl,D.os,D.tape,D.output,D.size,fun k hk=>D.block k hk (UC _ _ _ _)⟩
end
end Go.AM
namespace Go.Proofs.YtnpkopkpbgflnaaGreatDoor
namespace M
open Go.AM Go.RowKit Go.Lib Go.Sort
open Reg (aZ cR gQ)
instance:Inhabited aZ:=⟨⟨0,0,0,0⟩⟩
def cl(n:Int):Int:=max (-4611686018427387904) (min n 4611686018427387903)
theorem qs(n:Int):-4611686018427387904<=cl n/\cl n<=4611686018427387903:=by unfold cl;omega
theorem ku{n:Int}(h:-4611686018427387904<=n/\n<=4611686018427387903):cl n=n:=by unfold cl;omega
def Bd(r:aZ):Prop:=(-4611686018427387904<=r.x0/\r.x0<=4611686018427387903)/\(-4611686018427387904<=r.y0/\r.y0<=4611686018427387903)/\(-4611686018427387904<=r.x1/\r.x1<=4611686018427387903)/\(-4611686018427387904<=r.y1/\r.y1<=4611686018427387903)
def iQ(r:aZ):List Value:=[.int .i64 (cl r.x0),.int .i64 (cl r.y0),.int .i64 (cl r.x1),.int .i64 (cl r.y1)]
theorem Po{r:aZ}(h:Bd r):(iQ r).map PV.im=rc r:=by
 obtain⟨u,z,D,I⟩:=h;simp only[iQ,ku u,ku z,ku D,ku I];rfl
variable {l:List aZ}
theorem xH(h:∀r∈l,Bd r):az (l.map iQ)=l.map rc:=by
 unfold az;rw[mq];exact nW fun r u=>Po (h r u)
theorem vp:∀r∈l.map iQ,r.length=4:=by
 intro r u;obtain⟨x,_,rfl⟩:=bF.1 u;rfl
theorem FY(d:Array aZ):flatK iQ 4 d=(d.toList.map iQ).flatten.toArray:=by
 apply D4;intro q;have hlen:(d.toList.map iQ).flatten.length=d.size*4:=by rw[gI (k:=4) vp];simp
 by_cases D:q<d.size*4
 ·have u:q / 4<d.size:=by omega
  have I:q % 4<4:=pk _ (by omega);have e:q / 4*4+q % 4=q:=by omega
  have J:=get_flatK iQ 4 d q D;have hsz:(flatK iQ 4 d).size=d.size*4:=by simp
  rw[cx (by omega),<-getElem!_pos (flatK iQ 4 d) q (by omega),J];have N:(d.toList.map iQ)[q / 4]?=some (iQ d[q / 4]!):=by
   rw[aB,jN,cx u,fG,getElem!_pos d _ u]
  have O:(iQ d[q / 4]!)[q % 4]?=some ((iQ d[q / 4]!)[q % 4]!):=by
   have z:q % 4<(iQ d[q / 4]!).length:=I;rw[aX z,getElem!_pos (iQ d[q / 4]!) (q % 4) z]
  have:=y8 (k:=4) vp N O;rw[e]at this;simpa using this.symm
 rw[vj (by simp;omega),vj (by simp only[eF];omega)]
def Ng(a b:aZ):Int:=cl a.y0-cl b.y0
def H3(a b:aZ):Int:=cl a.x0-cl b.x0
theorem VL(a b:aZ):ltOf Ng a b=decide (cl a.y0<cl b.y0):=by unfold ltOf Ng;congr 1;exact propext ⟨fun h=>by omega,fun h=>by omega⟩
theorem VM(a b:aZ):ltOf H3 a b=decide (cl a.x0<cl b.x0):=by unfold ltOf H3;congr 1;exact propext ⟨fun h=>by omega,fun h=>by omega⟩
theorem UE:SWO (ltOf Ng) where
 irrefl x:=by rw[VL];simp
 trans x y z h1 h2:=by rw[VL]at *;simp at *;omega
 ntrans x y z h1 h2:=by rw[VL]at *;simp at *;omega
theorem UF:SWO (ltOf H3) where
 irrefl x:=by rw[VM];simp
 trans x y z h1 h2:=by rw[VM]at *;simp at *;omega
 ntrans x y z h1 h2:=by rw[VM]at *;simp at *;omega
theorem Nh(x y:aZ)(W:World):Calls Tryz.prog 96 #[.agg (iQ x).toArray,.agg (iQ y).toArray] W fun e w'=>e=.returned (.int .i64 (Ng x y))/\∃q u,w'=grow (W.drewN q) u:=by
 have h1:=qs x.y0;have h2:=qs y.y0;unfold iQ Ng;generalize cl x.x0=a1 at *;generalize cl x.y0=a2 at *;generalize cl x.x1=a3 at *;generalize cl x.y1=a4 at *;generalize cl y.x0=b1 at *;generalize cl y.y0=b2 at *;generalize cl y.x1=b3 at *;generalize cl y.y1=b4 at *
 go_enter Tryz.func96,Tryz.ntmps96
 go_wp2
 go_ret
 exact⟨rfl,0,_,by rw[alloc_eq_grow,alloc_eq_grow,grow_grow];rfl⟩
theorem Nj(x y:aZ)(W:World):Calls Tryz.prog 203 #[.agg (iQ x).toArray,.agg (iQ y).toArray] W fun e w'=>e=.returned (.int .i64 (H3 x y))/\∃q u,w'=grow (W.drewN q) u:=by
 have h1:=qs x.x0;have h2:=qs y.x0;unfold iQ H3;generalize cl x.x0=a1 at *;generalize cl x.y0=a2 at *;generalize cl x.x1=a3 at *;generalize cl x.y1=a4 at *;generalize cl y.x0=b1 at *;generalize cl y.y0=b2 at *;generalize cl y.x1=b3 at *;generalize cl y.y1=b4 at *
 go_enter Tryz.func203,Tryz.ntmps203
 go_wp2
 go_ret
 exact⟨rfl,0,_,by rw[alloc_eq_grow,alloc_eq_grow,grow_grow];rfl⟩
def fV(cf:aZ->aZ->Int)(l:List aZ):List aZ:=(pdq (ltOf cf) l.toArray 0 l.toArray.size (Lib.bitLen l.toArray.size) true true).toList
theorem pS(u:aZ->aZ->Int)(J:SWO (ltOf u))(l:List aZ):(fV u l).Perm l/\(fV u l).Pairwise fun a b=>ltOf u b a=false:=by
 obtain⟨N,O⟩:=pdq_sorts (ltOf u) J l.toArray 0 l.toArray.size (Lib.bitLen l.toArray.size) true true (ai _) (aF _) (Or.inl rfl);obtain⟨R,_,D⟩:=N;have hp:(fV u l).Perm l:=by
  have I:∀d:Array aZ,d.size=l.toArray.size->(d.extract 0 l.toArray.size).toList=d.toList:=fun d h=>by rw[<-h];simp
  rw[I _ R,I _ rfl]at D;unfold fV;simpa using D
 refine⟨hp,?_⟩;rw[jU];intro i j hi z U;have hs:(fV u l).length=l.toArray.size:=by rw[hp.length_eq];simp
 have:=O i j (ai _) U (by omega);unfold fV at hi z ⊢;simp only[gd]at hi z;rw[getElem!_pos _ j z,getElem!_pos _ i hi]at this;simpa using this
theorem FZ(h:∀r∈l,Bd r):(fV Ng l).Perm l/\(fV Ng l).Pairwise fun a b=>a.y0<=b.y0:=by
 obtain⟨u,D⟩:=pS Ng UE l;refine⟨u,D.imp_of_mem fun {a b} ha hb z=>?_⟩;rw[VL,ku (h b (u.mem_iff.1 hb)).2.1,ku (h a (u.mem_iff.1 ha)).2.1]at z;simpa using z
theorem xI(h:∀r∈l,Bd r):(fV H3 l).Perm l/\(fV H3 l).Pairwise fun a b=>a.x0<=b.x0:=by
 obtain⟨u,D⟩:=pS H3 UF l;refine⟨u,D.imp_of_mem fun {a b} ha hb z=>?_⟩;rw[VM,ku (h b (u.mem_iff.1 hb)).1,ku (h a (u.mem_iff.1 ha)).1]at z;simpa using z
theorem F0(u:aZ->aZ->Int)(V:SWO (ltOf u))(g:Nat)(eg:∀args w,(callFunc g args).run Tryz.prog w=.ok (.enter g args) w)
  (N:∀(x y:aZ) (W:World),Calls Tryz.prog g #[.agg (iQ x).toArray,.agg (iQ y).toArray] W fun e w'=>e=.returned (.int .i64 (u x y))/\∃q Ni,w'=grow (W.drewN q) Ni)
  (l:List aZ) (Y:∀r∈l,Bd r) (hN:l.length<4611686018427387904):af C 95 [.row 125 (l.map rc),.pv (.im (.func (.func g) #[] #[]))] (.tu []) [.row ((fV u l).map rc)]:=by
 obtain⟨hp,_⟩:=pS u V l;have Xo:∀r∈fV u l,Bd r:=fun r O=>Y r (hp.mem_iff.1 O);have:=tW hC (f:=95) 125 _ rfl (by decide) [.func (.func g) #[] #[]] (l.map iQ) ((fV u l).map iQ) vp vp (by rw[aw,aw,hp.length_eq])
  (fun r O v z=>by
   obtain⟨x,_,rfl⟩:=bF.1 O;simp only[iQ,aE,oh,or_false]at z;rcases z with rfl | rfl | rfl | rfl<;>rfl)
  ⟨_,Tryz.func95,rfl,rfl⟩
  (fun _ w=>AnyF.slices_SortFunc_none Tryz.laysSortRect none 0 (.func (.func g) #[] #[]) w)
  (fun S w bY cap hE I _ D=>by
   have hH:HoldsK iQ 4 w bY 0 l.toArray:=by
    unfold HoldsK;intro j J;rw[FY]at J ⊢;simp only[eF]at J;have z:(l.map iQ).flatten[j]?=some ((l.map iQ).flatten[j]'J):=aX J;obtain⟨R,U⟩:=D j _ z;rw[aY];refine⟨?_,U⟩;rw[R];congr 1;rw[getElem!_pos _ j (by simpa using J)];simp
   have Z:=AnyQ.slices_SortFunc_eq Tryz.laysSortRect 4 (fun w=>(hC.tab 125 _ rfl).isAgg w) (fun w=>(hC.tab 125 _ rfl).sizeOf w) iQ (fun _=>rfl) (fun x v z=>by
    simp only[iQ,aE,oh,or_false]at z;rcases z with rfl | rfl | rfl | rfl<;>rfl) u V g #[] bY 0 cap l.toArray w eg (fun _ _ _ _ x y=>N x y _) hH I (by simpa using hN)
   have e:l.toArray.size=(l.map iQ).length:=by simp
   rw[e]at Z;refine Z.mono fun e' w' ⟨R,n,os,U⟩=>⟨R,n,os,?_⟩;rw[U];unfold sortWorldK putRowK qZ;rw[FY,<-e];rfl)
 rw[xH Y,xH Xo]at this;exact this
theorem RV(l:List aZ)(u:∀r∈l,Bd r)(z:l.length<4611686018427387904):af C 95 [.row 125 (l.map rc),.pv (.im (.func (.func 96) #[] #[]))] (.tu []) [.row ((fV Ng l).map rc)]:=
 F0 Ng UE _ (enters_of Tryz.func96 (by kernel_rfl) rfl) Nh l u z
theorem RW(l:List aZ)(u:∀r∈l,Bd r)(z:l.length<4611686018427387904):af C 95 [.row 125 (l.map rc),.pv (.im (.func (.func 203) #[] #[]))] (.tu []) [.row ((fV H3 l).map rc)]:=
 F0 H3 UF _ (enters_of Tryz.func203 (by kernel_rfl) rfl) Nj l u z
theorem Ed(d:Array Int)(hs:∀i j,i<=j->j<d.size->d[i]!<=d[j]!):∀m,m<=d.size->Reg.jv (compactUpTo d m)/\(∀x,x∈compactUpTo d m↔∃j,j<m/\d[j]! = x):=by
 intro m
 induction m with
 | zero=>intro _;exact⟨by simp[compactUpTo,Reg.jv],by simp[compactUpTo]⟩
 | succ m ih=>
  intro hm;obtain⟨I,z⟩:=ih (by omega);rw[compactUpTo_succ];cases hk:keeps d m with
  | true=>
   have D:m=0\/d[m]!≠d[m-1]!:=by simpa [keeps] using hk
   have J:∀x∈compactUpTo d m,x<d[m]!:=by
    intro x N;obtain⟨j,u,rfl⟩:=(z x).1 N;rcases D with h | h
    ·omega
    have a:=hs j (m-1) (by omega) (by omega);have b:=hs (m-1) m (by omega) (by omega);omega
   refine⟨?_,fun x=>?_⟩
   ·simp only[ae];exact yU.2 ⟨I,by simp,fun a O b hb=>by simp at hb;subst hb;exact J a O⟩
   simp only[ae,cm,bM,z];constructor
   ·rintro (⟨j,u,rfl⟩ | rfl)
    ·exact⟨j,by omega,rfl⟩
    exact⟨m,by omega,rfl⟩
   rintro⟨j,u,rfl⟩;by_cases e:j=m
   ·exact .inr (by rw[e])
   exact .inl ⟨j,by omega,rfl⟩
  | false=>
   have D:m≠0/\d[m]! = d[m-1]!:=by simpa [keeps] using hk
   simp only[yQ,aa,cQ,not_false_eq_true];refine⟨I,fun x=>?_⟩;rw[z];constructor
   ·rintro⟨j,u,rfl⟩;exact⟨j,by omega,rfl⟩
   rintro⟨j,u,rfl⟩;by_cases e:j=m
   ·exact⟨m-1,by omega,by rw[e];exact D.2.symm⟩
   exact⟨j,by omega,rfl⟩
theorem BL{zs:List Int}(hs:zs.Pairwise (·<=·)):Reg.jv (compact zs)/\∀x,x∈compact zs↔x∈zs:=by
 have z:∀i (h:i<zs.length),zs.toArray[i]! = zs[i]:=fun i h=>by rw[getElem!_pos _ i (by simpa using h)];simp
 obtain⟨D,I⟩:=Ed zs.toArray (fun i j Bm u=>by
  have u:j<zs.length:=by simpa using u
  rw[z i (by omega),z j u];by_cases e:i=j
  ·subst e;omega
  exact jU.1 hs i j (by omega) u (by omega)) zs.length (by simp)
 refine⟨D,fun x=>(I x).trans ?_⟩;constructor
 ·rintro⟨j,u,rfl⟩;rw[z j u];exact uw u
 intro J;obtain⟨j,u,rfl⟩:=CZ J;exact⟨j,u,z j u⟩
def encI(n:Int):List Value:=[.int .i64 n]
theorem vq{l:List Int}:∀r∈l.map encI,r.length=1:=by
 intro r u;obtain⟨x,_,rfl⟩:=bF.1 u;rfl
theorem pT(l:List Int):az (l.map encI)=l.map fun n=>[i64 n]:=by
 unfold az;rw[mq];rfl
theorem wL(l:List Int):(l.map encI).flatten=l.map (Value.int .i64):=by
 induction l with
 | nil=>rfl
 | cons a l ih=>rw[fJ,vh,ih];rfl
theorem z_(w:World)(b n:Nat)(l:List Int):putRow (Value.int .i64) (Sort.ahead w n) b 0 l.toArray=putRow id (Sort.ahead w n) b 0 (l.map (Value.int .i64)).toArray:=by
 unfold putRow;refine mapBlock_congr _ _ _ _ fun c _ _ _=>?_;apply D4;intro k;simp only[putCells,Array.getElem?_mapIdx,eF,aw];cases c[k]? with
 | none=>rfl
 | some x=>
  simp only[fG];by_cases h:0<=k/\k<0+l.length
  ·rw[ae h,ae h];congr 1;rw[getElem!_pos _ (k-0) (by simp;omega),getElem!_pos _ (k-0) (by simp;omega)];simp
  rw[aa h,aa h]
theorem Aa{w:World}{bY:Nat}{l:List Int}(h:∀j v,(l.map encI).flatten[j]?=some v->w.cell? ⟨bY,j,none⟩=some v/\w.frozen? ⟨bY,j,none⟩=false):Holds (Value.int .i64) w bY 0 l.toArray:=by
 intro j u;have z:j<l.length:=by simpa using u
 rw[wL]at h;obtain⟨D,I⟩:=h j (.int .i64 l[j]) (by rw[aB,aX z];rfl);rw[aY,D];refine⟨?_,I⟩;rw[getElem!_pos _ j u];simp
def xJ(l:List Int):List Int:=l.mergeSort fun x y=>decide (x<=y)
theorem KZ(l:List Int)(I:l.length<4611686018427387904):af C 97 [.row 3 (l.map fun n=>[i64 n])] (.tu []) [.row ((xJ l).map fun n=>[i64 n])]:=by
 have:=tW hC (f:=97) 3 _ rfl (by decide) [] (l.map encI) ((xJ l).map encI) vq vq (by rw[aw,aw,xJ,List.length_mergeSort])
  (fun r J v D=>by
   obtain⟨x,_,rfl⟩:=bF.1 J;simp only[encI,bM]at D;rw[D];rfl)
  ⟨_,Tryz.func97,rfl,rfl⟩
  (fun _ w=>Tryz.slices_Sort_int_none none 0 w)
  (fun S w bY cap hE z _ u=>by
   have N:=Tryz.slices_Sort_int bY 0 cap l w (Aa u) z I;rw[aw];refine N.mono fun e' w' ⟨O,n,os,R⟩=>⟨O,n,os,?_⟩;rw[R];unfold qZ;rw[wL,<-z_];rfl)
 rw[pT,pT]at this;exact this
theorem Ee(l:List Int)(J:l.length<=9223372036854775807):af C 98 [.row 3 (l.map fun n=>[i64 n])] (.own 3 ((compact l).map fun n=>[i64 n])) [.gone]:=by
 have z:=compact_length_le l;have:=HY hC (f:=98) 3 _ rfl (by decide) [] (l.map encI) ((compact l++List.replicate (l.length-(compact l).length) 0).map encI) (compact l).length (by rw[aw];exact z) vq vq (by simp;omega)
  (fun r N v D=>by
   obtain⟨x,_,rfl⟩:=bF.1 N;simp only[encI,bM]at D;rw[D];rfl)
  ⟨_,Tryz.func98,rfl,rfl⟩
  (fun _ w=>Tryz.slices_Compact_int_empty none 0 w)
  (fun S w bY cap hE hblk I u=>by
   rw[aw]at I;have O:=Tryz.slices_Compact_int bY 0 cap l w (Aa u) J I;rw[aw];refine O.mono fun e' w' ⟨R,n,U⟩=>⟨R,n,#[],?_⟩;rw[U];unfold qZ;rw[wL,<-z_,grow_empty])
 rw[<-iC,pT,pT,List.take_left]at this;exact this
theorem Pp(l:List aZ):∀r∈l.map rc,r.length=4:=by
 intro r u;obtain⟨x,_,rfl⟩:=bF.1 u;rfl
theorem F1(l:List aZ)(u:l.length<=4398046511104):af C 94 [.pv (cd l)] (.own 125 (l.map rc)) []:=by
 cases l with
 | nil=>
  refine fW hC Tryz.func94 rfl (by kernel_rfl) fun _=>?_;refine⟨?_,?_⟩
  ·exact⟨Z,Y⟩
  exact⟨⟨by simp,by simp,by simp⟩,Z,Z,Y⟩
 | cons a l=>
  have z:=Pp (a::l);have hl:=ak (a::l) rc;refine fW hC Tryz.func94 rfl (by kernel_rfl) fun _=>?_;exact⟨⟨z,by simp at u ⊢;omega,by simp at u ⊢;omega⟩,Z,Z,Y⟩
def oT(y:Int)(r:aZ):Bool:=decide (r.y1<=y)
theorem Jq(r:aZ)(ys:List Int)(k:Nat)(y:Int)(u:ys[k]?=some y):af C 100 [.pv (.ag (rc r)),.pv (.ip [ints ys]),.pv (.ip [i64 k])] (.p (bool (oT y r))) []:=by
 refine fW hC Tryz.func100 rfl (by kernel_rfl) fun _=>?_;refine⟨[i64 y],(idx rfl u),?_,trivial⟩;rfl
theorem F2(l:List aZ)(hN:l.length<=140737488355328)(ys:List Int)(k:Nat)(y:Int)(J:ys[k]?=some y):af C 202 [.row 125 (l.map rc),.pv (.fn 100 [.ip [ints ys],.ip [i64 k]])] (.p (i64 (fy (oT y) l 0))) [.row (l.map rc)]:=by
 refine fW hC Tryz.func202 rfl (by kernel_rfl) fun _=>?_;have z:=ak l rc;refine ax (fun i:Nat=>i<=l.length/\∀x∈l.take i,oT y x=false) (fun i=>[(0,.ow 100000),(1,.p (.fn 100 [.ip [ints ys],.ip [i64 k]])),(7,.p (i64 (l.map rc).length)),(8,.p (i64 i))]) (fun _=>[(100000,.row 125 (l.map rc))]) (fun i=>l.length-i) 0 _ (au.refl _ _) ⟨ai _,by simp⟩ ⟨Z,Z,Z,Z,Y⟩ ⟨Z,Y⟩ fun i hi t h=>?_;apply iW<;>intro I
 ·rw[z]at I;obtain⟨x,D⟩:=aj (l:=l) (i:=i) (by omega);refine⟨⟨by omega,by rw[z];omega⟩,(rc x),(idx rfl D).2,_,_,(Jq x ys k y J),iW ?_ ?_⟩<;>intro u
  ·exact⟨by rw[cX D u hi.2,aY],Z,Y⟩
  exact⟨wO (by omega),(i+1),_,au.refl _ _,⟨by omega,cN D u hi.2⟩,by omega,⟨Z,Z,Z,Z,Y⟩,⟨Z,Y⟩⟩
 rw[z]at I;have u:=hi.2;rw[aW (by omega)]at u;exact⟨by rw[bW u];rfl,Z,Y⟩
variable {α:Type}
theorem Nk{p:α->Bool}:∀{l:List α},l.any p=true->∃i x,l[i]?=some x/\p x=true/\∀z∈l.take i,p z=false:=by
 intro l
 induction l with
 | nil=>intro h;cases h
 | cons y l ih=>
  intro h;cases hy:p y with
  | true=>exact⟨0,y,rfl,hy,by simp⟩
  | false=>
   rw[vg,hy,jk]at h;obtain⟨i,x,D,I,J⟩:=ih h;refine⟨i+1,x,by simpa using D,I,fun z u=>?_⟩;rw[List.take_succ_cons,aE]at u;rcases u with rfl | u
   ·exact hy
   exact J z u
theorem F3{m:List α}{a:Nat}{x:α}(h:a<m.length):(m.set a x).take (a+1)=m.take a++[x]:=by
 apply jM;intro j;rw[cV,List.getElem?_set];by_cases u:j<a
 ·rw[ae (by omega),aa (by omega),dU (by rw[aV];omega),cV,ae u]
 by_cases z:j=a
 ·subst z;rw[ae (by omega),ae rfl,ae h,dV (by rw[aV];omega)];simp[gx (sG h)]
 rw[aa (by omega),fI (by simp;omega)]
theorem filter_none{p:α->Bool}{l:List α}(h:∀x∈l,p x=false):l.filter (fun x=>!p x)=l:=List.filter_eq_self.2 fun x u=>by simp[h x u]
theorem q9{p:α->Bool}{l:List α}{i:Nat}{x:α}(u:l[i]?=some x):(l.take (i+1)).filter p=(l.take i).filter p++if p x then [x] else []:=by
 rw[aN u,iD];congr 1;cases h:p x<;>simp[List.filter,h]
theorem Ef(l:List aZ)(hN:l.length<=4398046511104)(ys:List Int)(k:Nat)(y:Int)(U:ys[k]?=some y):af C 99 [.row 125 (l.map rc),.pv (.fn 100 [.ip [ints ys],.ip [i64 k]])] (.own 125 ((l.filter fun r=>!oT y r).map rc)) [.gone]:=by
 refine fW hC Tryz.func99 rfl (by kernel_rfl) fun _=>?_;have lm:=ak l rc;refine⟨_,_,(F2 l (by omega) ys k y U),?_⟩;by_cases V:l.any (oT y)=true
 ·obtain⟨W,x0,J,VN,YC⟩:∃i x,l[i]?=some x/\oT y x=true/\∀z∈l.take i,oT y z=false:=Nk V;rw[cX J VN YC,aY];have Ce:=(aU.1 J).1;refine⟨wO (by omega),?_⟩;refine ax (fun p:Nat×Nat×List aZ=>p.1<p.2.1/\p.2.1<=l.length/\p.2.2.length=l.length/\p.2.2.take p.1=(l.take p.2.1).filter (fun r=>!oT y r)/\p.2.2.drop p.2.1=l.drop p.2.1) (fun p=>[(0,.ow 100000),(1,.p (.fn 100 [.ip [ints ys],.ip [i64 k]])),(5,.p (i64 p.1)),(6,.p (i64 p.2.1))]) (fun p=>[(100000,.row 125 (p.2.2.map rc))]) (fun p=>l.length-p.2.1) (W,W+1,l) _ (au.refl _ _) ⟨by simp,by simp only;omega,rfl,?_,rfl⟩ ⟨rfl,rfl,rfl,bc (by simp only;omega),trivial⟩ ⟨Z,Y⟩ fun ⟨a,b,m⟩ hi t h=>?_
  ·simp only;rw[q9 J,filter_none YC];simp[VN]
  simp only at hi;obtain⟨q1,q2,I,N,O⟩:=hi;have u:=ak m rc;apply iW<;>intro R<;>try simp only[zB]at R
  ·rw[u,I]at R;obtain⟨x,D⟩:=aj (l:=l) (i:=b) (by omega);have ZG:m[b]?=some x:=by
    have:(m.drop b)[0]?=(l.drop b)[0]?:=by rw[O]
    simpa [D] using this
   refine⟨⟨by simp only;omega,by simp only;rw[u];omega⟩,(rc x),(idx rfl ZG).2,_,_,(Jq x ys k y U),iW ?_ ?_⟩<;>intro h3
   ·obtain⟨z,hz⟩:=aj (l:=m) (i:=a) (by omega);refine⟨⟨by simp only;omega,by simp only;rw[u];omega⟩,(rc z),(idx rfl hz).2,⟨by simp only;omega,by simp only;omega⟩,⟨by simp only;omega,by simp only;omega⟩,(a+1,b+1,m.set a x),_,au.refl _ _,⟨by simp only;omega,by simp only;omega,by simp only;rw[dz];exact I,?_,?_⟩,by simp only;omega,⟨rfl,rfl,bc (by simp only;omega),bc (by simp only;omega),trivial⟩,⟨?_,trivial⟩⟩
    ·simp only;rw[F3 (by omega),N,q9 D,h3];rfl
    ·simp only;rw[List.drop_set_of_lt (by omega)];have:=ah (List.drop 1) O;simpa [vk] using this
    show AB.row _ ((m.map rc).set a (rc x))=AB.row _ ((m.set a x).map rc);rw[sH]
   refine⟨⟨by simp only;omega,by simp only;omega⟩,(a,b+1,m),_,au.refl _ _,⟨by simp only;omega,by simp only;omega,I,?_,?_⟩,by simp only;omega,⟨rfl,rfl,rfl,bc (by simp only;omega),trivial⟩,⟨Z,Y⟩⟩
   ·simp only;rw[N,q9 D,h3];simp
   have:=ah (List.drop 1) O;simpa [vk] using this
  rw[u,I]at R;refine Or.inl ?_;refine⟨⟨by simp only;omega,by simp only;rw[u];omega,by simp only;omega⟩,⟨by simp only[bU];omega,by simp only[bU];omega⟩,?_⟩;refine Or.inl ?_;have Nl:((((m.map rc).take a++List.replicate ((m.map rc).length-a) [i64 0,i64 0,i64 0,i64 0]++(m.map rc).drop (m.map rc).length).length:Nat):Int)=m.length:=by simp;omega
  refine⟨⟨by omega,by simp only;omega,by simp only[bU];exact Int.le_trans (show (a:Int)<=m.length by omega) (Int.le_of_eq Nl.symm)⟩,?_,Z,Y⟩;simp only[bU];rw[gT,mr (by rw[aV,u];omega),po,yZ,<-iC,N,aW (by omega)]
 have Bx:∀x∈l,oT y x=false:=fun x D=>by
  cases h:oT y x with
  | false=>rfl
  | true=>exact absurd (gz.2 ⟨x,D,h⟩) V
 rw[bW Bx];rw[filter_none Bx];exact⟨Z,Z,Y⟩
theorem Eg(a b:Int):∀(s:cR),(s=[]->flat (Reg.dW s a b)=[a,b])/\(∀n,s.length=n+1->∃p,(flat s)[2*n+1]?=some p/\flat (Reg.dW s a b)=if a<=p then (flat s).set (2*n+1) (max p b) else flat s++[a,b]):=by
 intro s
 induction s with
 | nil=>exact⟨fun _=>rfl,fun n h=>by simp at h⟩
 | cons p s ih=>
  refine⟨fun h=>by simp at h,fun n u=>?_⟩;cases s with
  | nil=>
   have:n=0:=by simpa using u.symm
   subst this;refine⟨p.2,rfl,?_⟩;rw[Reg.dW];split<;>rfl
  | cons q s=>
   cases n with
   | zero=>simp at u
   | succ n=>
    obtain⟨z,D,I⟩:=ih.2 n (by simpa using u);refine⟨z,?_,?_⟩
    ·rw[show 2*(n+1)+1=(2*n+1)+1+1 by omega];simpa [flat] using D
    rw[Reg.dW,flat,I,show 2*(n+1)+1=(2*n+1)+1+1 by omega];split
    ·simp[flat]
    simp[flat]
theorem Ab(a b:Int):∀(s:cR),(Reg.dW s a b).length<=s.length+1:=by
 intro s
 induction s with
 | nil=>simp[Reg.dW]
 | cons p s ih=>
  cases s with
  | nil=>rw[Reg.dW];split<;>simp
  | cons q s=>rw[Reg.dW];simp only[cH]at ih ⊢;omega
theorem Ac(l:List aZ):(Reg.dt l).length<=l.length:=by
 suffices H:∀n (m:List aZ),m.length=n->(Reg.dt m).length<=m.length from H _ l rfl
 intro n
 induction n with
 | zero=>
  intro m u;have:m=[]:=cP u;subst this;simp[Reg.dt]
 | succ n ih=>
  intro m u;obtain⟨d,r,rfl⟩:∃d r,m=d++[r]:=by
   cases h:m.reverse with
   | nil=>simp at h;subst h;simp at u
   | cons r d=>exact⟨d.reverse,r,by rw[<-List.reverse_reverse m,h];simp⟩
  rw[Reg.pP];have h1:=Ab r.x0 r.x1 (Reg.dt d);have h2:=ih d (by simp at u;exact u);simp only[bG,yD];omega
theorem yj(l:List aZ)(N:∀r∈l,Bd r)(hN:l.length<=4398046511104):af C 102 [.row 125 (l.map rc)] (.p (ints (flat (Reg.dt (fV H3 l))))) [.row ((fV H3 l).map rc)]:=by
 refine fW hC Tryz.func102 rfl (by kernel_rfl) fun _=>?_;obtain⟨hp,_⟩:=xI N;have qE:=hp.length_eq;refine⟨_,_,(RW l N (by omega)),?_⟩;generalize fV H3 l=L at hp qE ⊢;have I:=ak L rc;refine ax (fun i:Nat=>i<=L.length) (fun i=>[(0,.ow 100000),(9,.ow 100000),(10,.p (i64 (L.map rc).length)),(11,.p (i64 i)),(3,.ow 3)]) (fun i=>[(100000,.row 125 (L.map rc)),(3,.row 3 ((flat (Reg.dt (L.take i))).map fun n=>[i64 n]))]) (fun i=>L.length-i) 0 _ (au.ed hC _ 3 3 _ (by decide) rfl rfl (by decide)) (ai _) ⟨Z,Z,Z,Z,Z,Y⟩ ⟨Z,Z,Y⟩ fun i hi t h=>?_;have sl:=Ac (L.take i);have z:=oo (Reg.dt (L.take i));have u:=ak (flat (Reg.dt (L.take i))) fun n=>[i64 n];rw[aV]at sl;apply iW<;>intro O
 ·rw[I]at O;obtain⟨r,R⟩:=aj (l:=L) (i:=i) (by omega);have Bk:Reg.dt (L.take (i+1))=Reg.dW (Reg.dt (L.take i)) r.x0 r.x1:=by rw[aN R,Reg.pP]
  obtain⟨U,V⟩:=Eg r.x0 r.x1 (Reg.dt (L.take i));rw[<-Bk]at U V;generalize Reg.dt (L.take i)=s at *;refine⟨⟨by omega,by rw[I];omega⟩,(rc r),(idx rfl R).2,⟨by rw[u];omega,by rw[u];omega⟩,iW ?_ ?_⟩<;>intro W
  ·rw[u,z]at W;obtain⟨n,hn⟩:∃n,s.length=n+1:=⟨s.length-1,by omega⟩;obtain⟨p,J,D⟩:=V n hn;have hk:(((flat s).map fun n=>[i64 n]).length:Int)-1=((2*n+1:Nat):Int):=by rw[u,z];omega
   refine⟨⟨by rw[hk];omega,by rw[hk,u,z];omega⟩,[i64 p],(idx hk J).2,iW ?_ ?_⟩<;>intro h3
   ·rw[ae h3]at D;refine⟨⟨by rw[hk];omega,by rw[hk,u,z];omega⟩,[i64 p],(idx hk J).2,⟨by rw[hk];omega,by rw[hk,u,z];omega⟩,[i64 p],(idx hk J).2,wO (by omega),(i+1),_,au.refl _ _,by omega,by omega,⟨Z,Z,Z,Z,Z,Y⟩,⟨rfl,?_,trivial⟩⟩;have Dw:∀k:Nat,k=2*n+1->AB.row 3 (((flat s).map fun n=>[i64 n]).set k [i64 (max p r.x1)])=AB.row 3 ((flat (Reg.dt (L.take (i+1)))).map fun n=>[i64 n]):=by
     intro k e;subst e;rw[D,sH]
    exact Dw _ (by rw[hk];rfl)
   rw[aa h3]at D;refine⟨⟨by simp,by simp;omega,by simp;omega⟩,wO (by omega),(i+1),_,au.refl _ _,by omega,by omega,⟨Z,Z,Z,Z,Z,Y⟩,⟨rfl,?_,trivial⟩⟩;rw[D,bz];rfl
  rw[u,z]at W;have hs:s=[]:=cP (by omega);have D:=U hs;refine⟨⟨by simp,by simp;omega,by simp;omega⟩,wO (by omega),(i+1),_,au.refl _ _,by omega,by omega,⟨Z,Z,Z,Z,Z,Y⟩,⟨rfl,?_,trivial⟩⟩;rw[D,hs];rfl
 rw[I]at O;rw[aW (by omega)];exact⟨Z,Z,Y⟩
end M
end Go.Proofs.YtnpkopkpbgflnaaGreatDoor
