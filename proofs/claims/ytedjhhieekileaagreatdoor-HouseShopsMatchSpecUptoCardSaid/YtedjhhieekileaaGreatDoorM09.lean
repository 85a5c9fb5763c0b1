/- CheckShop, CheckLots and Flow give just what the reference gives, with all errors. Condition: what is read is of bulk at most 1048576; the listed variables are tied to the program's text by the card. -/
import Derived.Test.YtedjhhieekileaaGreatDoorM08
import Derived.Lib.SplitLaws
import Derived.Lib.AppendIntMem
import Derived.Lib.SmallJoins
set_option linter.unusedVariables false
set_option linter.unusedSimpArgs false
set_option maxRecDepth 100000
set_option maxHeartbeats 8000000
namespace Go
abbrev TV:=@Int.mul_le_mul_of_nonneg_left
abbrev W1:=@ByteArray.size_append
end Go
namespace Go.Proofs.YtedjhhieekileaaGreatDoor
namespace M
open Go.AM Go.RowKit
open Reg (Tb)
theorem XS{s:List gI}{l:List Lt}{i:Nat}{x:Lt}(h:l[i]?=some x):lB s (l.take (i+1))=lB s (l.take i)++WE s x x.panels.toNat:=by
 rw[bT h,lB,List.flatMap_append];simp[lB]
theorem XM(s:List gI)(x:Lt)(k:Nat):WE s x (k+1)=WE s x k++[W2 s x k]:=by
 rw[WE,Vc,aa];rfl
theorem XN(s:List gI)(l:List Lt)(b:List Fl)(O:cz s=0)(U:cA l=0)(h3:de s l b=0)(hS:∀x∈s,x.name.size<4294967281)(hL:∀x∈l,x.name.size<4294967281)(hs:s.length<=140737488355328)(hl:l.length<=140737488355328)(hb:b.length<=140737488355328):aT C 7 [.pv (.sl (s.map gq)),.pv (.sl (l.map jK)),.pv (.sl (b.map CJ))] (.tu [.sl ((iO (pW s l b).done).map dc),.sl (((pW s l b).jobs.map lH.made).map mc),i64 0]) []:=by
 refine Mb ⟨[11,16],[],[],[17],[],[]⟩ hC Tryz.func7 rfl (by kernel_rfl) fun _=>?_;obtain⟨s1,s2⟩:=o5 O;obtain⟨l1,l2,l3⟩:=oZ U;have ls:=cH s gq;have ll:=cH l jK;have lb:=cH b CJ;have c1:=B2 s hS hs;have c2:=Wz l hL hl;have c3:=WL s l b s1 U hb;rw[O]at c1;rw[U]at c2;rw[h3]at c3;have o9:b.length<=2000:=by
  unfold de at h3;split at h3
  ·cases h3
  omega
 refine⟨_,_,c1,_,_,c2,_,_,c3,?_⟩;refine lG (((aY.rf (by exact hC) _ 41 2 90001 76 _ _ (by decide) (by decide) (by exact rfl) (by exact rfl) (by exact rfl) (by decide)).trans (aY.OQ (by exact hC) _ 90001 (e:=76) (es:=[]) (by exact rfl))).trans (aY.rf (by exact hC) _ 41 3 90004 34 _ _ (by decide) (by decide) (by exact rfl) (by exact rfl) (by exact rfl) (by decide))) ?_;have fl:∀i,i<=l.length->(lB s (l.take i)).length<=200*i:=fun i z=>by
  rw[W_];refine bM (yf fun x I=>(l3 x (eM I)).2.1.2) ?_;rw[dI];omega
 refine d_ (fun i:Nat=>i<=l.length) (fun i=>[(0,.p (.sl (s.map gq))),(1,.p (.sl (l.map jK))),(12,.bx 41 0),(13,.p (i64 i))]) (fun i=>[(41,.box [.p (.sl (s.map gq)),.p (.sl (b.map CJ)),.ow 90001,.ow 90004]),(90001,.ai 76 ((lB s (l.take i)).map gv)),(90004,.row 34 (([]:List dQ).map dc))]) (fun i=>l.length-i) 0 _ (aY.refl _ _) (nI _) ⟨Z,Z,Z,Z,Y⟩ ⟨Z,Z,Z,Y⟩ fun i z t h=>?_;apply iW<;>intro g1<;>try simp only[zB]at g1
 ·obtain⟨x,I⟩:=a8 (l:=l) (i:=i) (by omega);obtain⟨_,xp,xa⟩:=l3 x (aj I);have fi:=fl i z;refine d_ (fun k:Nat=>k<=x.panels.toNat) (fun k=>[(0,.p (.sl (s.map gq))),(1,.p (.sl (l.map jK))),(12,.bx 41 0),(13,.p (i64 i)),(14,.p (i64 k))]) (fun k=>[(41,.box [.p (.sl (s.map gq)),.p (.sl (b.map CJ)),.ow 90001,.ow 90004]),(90001,.ai 76 ((lB s (l.take i)++WE s x k).map gv)),(90004,.row 34 (([]:List dQ).map dc))]) (fun k=>x.panels.toNat-k) 0 _ (aY.refl _ _) (nI _) ⟨Z,Z,Z,Z,Z,Y⟩ ⟨rfl,iX (AB.ai _) (by rw[show WE s x 0=[] from rfl,fK]),Z,Y⟩ fun k hk t h=>?_;refine⟨(jK x),(idx rfl I),iW ?_ ?_⟩<;>intro g2<;>try simp only[zB]at g2
  ·obtain⟨F,hF⟩:∃F,F=lB s (l.take i)++WE s x k:=⟨_,rfl⟩;have lF:F.length<=20000:=by rw[hF,fj,WE,ct,TB];omega
   rw[<-hF];refine⟨(jK x),(idx rfl I),(jK x),(idx rfl I),And.intro (by omega) (And.intro (by omega) (And.intro (by show ((s.map gq).length:Int)*8<=_;omega) (by omega))),And.intro (fun r V=>by rw[n9.1 V];rfl) (And.intro (by simp only[fj,ct,bw,qJ];omega) (by simp only[fj,ct,bw,qJ];omega)),?_⟩;have Y6:(F.map gv).length=F.length:=ct ..;refine lG ((aY.jg (by exact hC) _ 78 F.length 8 75 (e:=76) (es:=F.map gv++[WQ (W2 s x k) (.av (.ow 75))]) (r:=WQ (W2 s x k) (.av (.ow 75))) (e':=3) (xs:=(List.replicate s.length (0:Int)).map fun n=>[i64 n]) (by decide) (by exact iX (AB.ai _) (by simp only[gx,sT];rfl)) (by exact iX (AB.row _) (by rw[c8,ls,UK];rfl)) (by rw[bd (by omega),Y6,gX];rfl) rfl).trans (aY.ez _ 78 90001 (by decide) (by decide))) ?_;refine⟨wO (by omega),(k+1),_,aY.refl _ _,by omega,by omega,⟨Z,Z,Z,Z,Z,Y⟩,⟨rfl,iX (AB.ai _) ?_,Z,Y⟩⟩;rw[XM,<-bR,<-hF,gG _ _ (by omega),Y6,gX];simp only[gx,sT,aa];rfl
  have Pz:k=x.panels.toNat:=by omega
  exact⟨wO (by omega),(i+1),_,aY.refl _ _,by omega,by omega,⟨Z,Z,Z,Z,Y⟩,⟨rfl,iX (AB.ai _) (by rw[XS I,Pz]),Z,Y⟩⟩
 have IG:i=l.length:=by omega
 subst IG;rw[Ue];have lL:=fl l.length (aC _);rw[Ue]at lL;refine⟨[(41,100000),(90001,100001),(90004,90004)],_,_,_,_,Yk s b (lB s l) [] (-1) (by omega),⟨rfl,rfl,rfl,iX (AB.ai _) (by simp only[eT]),Z,Y⟩,?_⟩;obtain⟨x0,Zk,V8,_⟩:=YU (b:=b) O U;have hK:=vP (s:=s) (b:=b) l2;have Y0:∀(i:Nat) t,(MC s l b).steps[i]?=some t->1<=t.machines:=fun i t J=>(s2 i t J).2.2.1.1;refine d_ (fun p:a_×List eS×Int=>X3 (MC s l b) (fZ l) (fY s l) p.1 p.2.1 p.2.2/\p.2.1.length<=20000) (fun p=>[(0,.p (.sl (s.map gq))),(12,.bx 41 0),(15,.p (i64 p.2.2))]) (fun p=>[(41,.box [.p (.sl (s.map gq)),.p (.sl (b.map CJ)),.ow 90001,.ow 90004]),(90001,.ai 76 (p.2.1.map gv)),(90004,.row 34 ((Tb H6 p.1.done).map dc))]) (fun p=>eW (MC s l b) p.1+(if 0<=p.2.2 then 1 else 0)) (x0,lB s l,gy s (-1) (lB s l) (-1)) _ (aY.refl _ _) ⟨Zk,by dsimp only;omega⟩ ⟨Z,Z,Z,Y⟩ ⟨rfl,congrArg (AB.ai _) (by simp only[eT]),by rw[V8];rfl,trivial⟩ fun ⟨x,L,N⟩ z t h=>?_;obtain⟨hh,hlen⟩:=z;simp only at hh hlen;apply iW<;>intro g3<;>try simp only[zB]at g3
 ·rcases hh with⟨e,_⟩ | ⟨n0,n1,n2,n3,n4,n5⟩
  ·omega
  have hps:=n2.dn;have e0:WD=15000000:=rfl;refine d_ (fun p:a_×List eS×Nat=>EI (MC s l b) (fZ l) x p.1 p.2.1 p.2.2/\p.2.1.length=L.length/\p.2.2<=L.length) (fun p=>[(0,.p (.sl (s.map gq))),(12,.bx 41 0),(15,.p (i64 N)),(16,.p (i64 p.2.2))]) (fun p=>[(41,.box [.p (.sl (s.map gq)),.p (.sl (b.map CJ)),.ow 90001,.ow 90004]),(90001,.ai 76 (p.2.1.map gv)),(90004,.row 34 ((Tb H6 p.1.done).map dc))]) (fun p=>L.length-p.2.2) (x,L,0) _ (aY.refl _ _) ⟨EI.zero n2 n3 n4,rfl,nI _⟩ ⟨Z,Z,Z,Z,Y⟩ ⟨Z,Z,Z,Y⟩ fun ⟨y,c,i⟩ z t h=>?_;obtain⟨D,yE,Kh⟩:=z;simp only at D yE Kh;have lf:(c.map gv).length=c.length:=ct ..;apply iW<;>intro g4<;>try simp only[zB]at g4
  ·obtain⟨f,G⟩:=a8 (l:=c) (i:=i) (by omega);refine⟨⟨by dsimp only;omega,by dsimp only;omega⟩,(gv f),(XQ G),iW ?_ ?_⟩<;>intro g5<;>try simp only[zB]at g5
   ·refine⟨(gv f),(XQ G),iW ?_ ?_⟩<;>intro g6<;>try simp only[zB]at g6
    ·obtain⟨y',v,t0,k,q1,q2,q3,q4,q5,q6⟩:=D.hit hK G g5 (by rw[n1];exact g6);rw[n1]at q6;have q2:s[k]?=some t0:=q2;have Nj:=D.r.dn;refine⟨[(41,100000),(90001,100001),(90004,90004)],_,_,_,_,YP s b c y.done i f N k v t0 G q1 q2 q3 o9 (by omega) (by omega) q4,⟨rfl,rfl,rfl,congrArg (AB.ai _) (by simp only[eT]),Z,Y⟩,⟨by dsimp only;omega,by dsimp only;omega⟩,(y',c.set i (WR s b N v f),i+1),_,aY.refl _ _,⟨q6,by dsimp only;rw[List.length_set];exact yE,by dsimp only;omega⟩,by dsimp only;omega,⟨Z,Z,Z,Z,Y⟩,⟨rfl,congrArg (AB.ai _) (by simp only[eT]),by rw[q5];rfl,trivial⟩⟩
    refine⟨⟨by dsimp only;omega,by dsimp only;omega⟩,(y,c,i+1),_,aY.refl _ _,⟨D.skip G (fun hh=>g6 (by rw[hh.2,n1])),yE,by dsimp only;omega⟩,by dsimp only;omega,⟨Z,Z,Z,Z,Y⟩,⟨Z,Z,Z,Y⟩⟩
   refine⟨⟨by dsimp only;omega,by dsimp only;omega⟩,(y,c,i+1),_,aY.refl _ _,⟨D.skip G (fun hh=>by simp_all),yE,by dsimp only;omega⟩,by dsimp only;omega,⟨Z,Z,Z,Z,Y⟩,⟨Z,Z,Z,Y⟩⟩
  have IG:i=c.length:=by omega
  rw[IG]at D;have hv:=D.R.Zj D.r;have Pf:=n2.sv.now;obtain⟨x',m1,m2,m3⟩:=Yc n2 n5 D Y0;rw[n1]at m1 m3;obtain⟨_,b2⟩:=W6 (s:=s) (now:=N) hv s.length;have m1:X3 (MC s l b) (fZ l) (fY s l) x' (B1 s N s.length c) (gy s N (B1 s N s.length c) (-1)):=m1;have m3:(gy s N (B1 s N s.length c) (-1)=-1/\eW (MC s l b) x'<=eW (MC s l b) x)\/eW (MC s l b) x' < eW (MC s l b) x:=m3;refine⟨[(41,100000),(90001,100001),(90004,90004)],_,_,_,_,Yz s b c (Tb H6 y.done) N (by omega) (fun t J=>by obtain⟨i,z⟩:=List.mem_iff_getElem?.1 J;have:=s2 i t z;omega) (fun t J=>by obtain⟨i,z⟩:=List.mem_iff_getElem?.1 J;have:=s2 i t z;omega) (by omega) hv (by omega),⟨rfl,rfl,rfl,congrArg (AB.ai _) (by simp only[eT]),Z,Y⟩,[(41,100000),(90001,100001),(90004,90004)],_,_,_,_,Yk s b (B1 s N s.length c) (Tb H6 y.done) N (by omega),⟨rfl,rfl,rfl,congrArg (AB.ai _) (by simp only[eT]),Z,Y⟩,(x',B1 s N s.length c,gy s N (B1 s N s.length c) (-1)),_,aY.refl _ _,⟨m1,by dsimp only;omega⟩,?_,⟨Z,Z,Z,Y⟩,⟨rfl,congrArg (AB.ai _) (by simp only[eT]),by rw[m2];rfl,trivial⟩⟩;dsimp only;rw[qH n0];rcases m3 with⟨a1,a2⟩ | a1
  ·rw[a1,af (by decide)];omega
  split<;>omega
 rcases hh with⟨e,n1,n2,n3⟩ | ⟨n0,_⟩
 case inr=>omega
 have V:SZ (MC s l b) (pW s l b):=SZ.pW O U;have Dw:x=pW s l b:=n1;have Y1:=YC (x:=x) (by rw[Dw];exact V) n2 n3;have Se:Tw (MC s l b) (fZ l) (pW s l b):=(Tw.zero (l:=l) (b:=b) O).run hK (SZ.zero (b:=b) (gs:=Ii l) O U (by rw[Ii,ib];exact vz fun x _=>uX ..));have Y7:=YD Se.a (fun t J=>by obtain⟨i,z⟩:=uU.1 J;have:=s2 i t z;omega);rw[<-Dw]at Y7;have lf:(L.map gv).length=L.length:=ct ..;refine d_ (fun i:Nat=>i<=L.length) (fun i=>[(0,.p (.sl (s.map gq))),(12,.bx 41 0),(18,.ow 18),(19,.p (i64 i))]) (fun i=>[(18,.row 37 (((L.take i).map (Xq s)).map mc)),(41,.box [.p (.sl (s.map gq)),.p (.sl (b.map CJ)),.ow 90001,.ow 90004]),(90001,.ai 76 (L.map gv)),(90004,.row 34 ((Tb H6 x.done).map dc))]) (fun i=>L.length-i) 0 _ (aY.EH (by exact hC) _ 18 37 _ (by decide) (by exact rfl) (by exact rfl) (by decide)) (nI _) ⟨Z,Z,Z,Z,Y⟩ ⟨rfl,rfl,iX (AB.ai _) (by simp only[gx]),Z,Y⟩ fun i z t h=>?_;apply iW<;>intro g7<;>try simp only[zB]at g7
 ·obtain⟨f,G⟩:=a8 (l:=L) (i:=i) (by omega);have Zq:((((L.take i).map (Xq s)).map mc)).length<=20000:=by rw[ct,ct,dI];omega
  refine⟨wO (by omega),(gv f),(XQ G),And.intro (fun r V=>by simp at V;subst V;rfl) (And.intro (by simp only[cu,uX];omega) (by simp only[cu,uX];omega)),wO (by omega),(i+1),_,aY.refl _ _,by omega,by omega,⟨Z,Z,Z,Z,Y⟩,⟨iX (AB.row _) ?_,rfl,iX (AB.ai _) (by simp only[gx,sT]),Z,Y⟩⟩;rw[bT G,aa,aa];simp only[qO,rA,Xq,mc,ls];rfl
 have IG:i=L.length:=by omega
 subst IG;rw[Ue];have Y1:L.map (Xq s)=x.jobs.map lH.made:=Y1;rw[Y1,<-Y7,Dw];refine⟨?_,trivial⟩;rfl
open Go.Lib
def No(l:List UInt8):ByteArray:=⟨l.toArray⟩
theorem Ah(n:Int)(h:-9223372036854775808<=n/\n<=9223372036854775807):aT C 106 [.pv (i64 n)] (.p (str (No (Lib.itoa n)))) []:=
 iz [.int .i64 n] (.string (No (Lib.itoa n))) ⟨_,Tryz.func106,by decide,rfl⟩ fun S w c hS=>by
  refine (Tryz.strconv_Itoa n h.1 h.2 w c.2.2.2).mono ?_;rintro e w' ⟨rfl,k,os,rfl⟩;exact⟨rfl,Lib.below_grow _ _ (aC _) k os⟩
theorem wF(s p:ByteArray):aT C 33 [.pv (str s),.pv (str p)] (.p (bool (Lib.hasPrefix s.data.toList p.data.toList))) []:=
 iz [.string s,.string p] (.bool _) ⟨_,Tryz.func33,by decide,rfl⟩ fun S w hE hS=>by
  refine (Tryz.strings_HasPrefix s p w).mono ?_;rintro e w' ⟨rfl,rfl⟩;exact⟨rfl,Below.refl _ _⟩
theorem s6(s p:ByteArray)(hs:s.size<4294967281):aT C 56 [.pv (str s),.pv (str p)] (.p (bool (Lib.contains s.data.toList p.data.toList))) []:=
 iz [.string s,.string p] (.bool _) ⟨_,Tryz.func56,by decide,rfl⟩ fun S w c hS=>by
  obtain⟨_,_,⟨m,z⟩,_⟩:=c;refine (Tryz.strings_Contains s p m w hs z).mono ?_;rintro e w' ⟨rfl,rfl⟩;exact⟨rfl,Below.refl _ _⟩
def s7:ByteArray:=⟨#[48,49,50,51,52,53,54,55,56,57]⟩
theorem CY:(Tryz.prog.info? (Tryz.laysTrim_ren.t 116)).map (fun i=>(i.zero,i.size))=some (some (.agg (Array.replicate 256 (.bool false))),256):=by kernel_rfl
theorem Ai:∀(j:Nat) b,s7.data.toList[j]?=some b->b.toNat<128:=fun j b h=>by
 have:=aj h;revert b;intro b _ hb;exact (show ∀c∈s7.data.toList,c.toNat<128 by decide) b hb
theorem Aj(s:ByteArray)(hs:s.size<=9223372036854775807):aT C 83 [.pv (str s),.pv (str s7)] (.p (str (No (Lib.trimS s.data.toList s7.data.toList)))) []:=
 iz [.string s,.string s7] (.string _) ⟨_,Tryz.func83,by decide,rfl⟩ fun S w hE hS=>by
  refine (Tryz.strings_Trim_laid CY s s7 w hs (by decide) Ai).mono ?_;rintro e w' ⟨rfl,hb⟩;exact⟨rfl,hb⟩
theorem CZ {f : FuncId} (us rs : List Value) (hf : ∃ fn : Func, C.P.funcs[f]? = some fn ∧ (fn.name == "runtime.NumGoroutine") = false ∧ fn.body.isNone = false) (h : ∀ S w, C.E S w → (∀ b, S b → b < w.heap.size) → Calls C.P f us.toArray w fun e w' => e = .returned (.tuple rs.toArray) ∧ Below w.heap.size w w') :
  aT C f (us.map fun a=>.pv (.im a)) (.tu (rs.map .im)) []:=by
 refine⟨hf,fun S w vs hE hS hl hr _=>?_⟩;have wV:=Xf hl hr;subst wV;exact (h S w hE hS).mono fun e w' ⟨he,hb⟩=>⟨.tuple rs.toArray,S,he,⟨hb.os,hb.tape,hb.output,hb.size,fun k hk _=>hb.block k hk⟩,fun _ h=>h,fun b dM=>bg (hS b dM) hb.size,fun b dM=>.inl dM,⟨rs.toArray,rfl,by simp,fun i x u h1 h2=>by
  rw[ao,az]at h1;obtain⟨y,hy,rfl⟩:=h1;have:rs[i]?=some u:=by simpa using h2
  rw[hy]at this;cases this;exact .im _⟩,vY us,sB us,fun g h=>by cases h⟩
theorem Ak(s:ByteArray)(n:Int)(hl:s.size<=18)(h:Lib.atoi s.data.toList=some n):aT C 84 [.pv (str s)] (.tu [i64 n,.im .nilIface]) []:=
 CZ [.string s] [.int .i64 n,.nilIface] ⟨_,Tryz.func84,by decide,rfl⟩ fun S w hE hS=>by
  refine (Tryz.strconv_Atoi s n hl h w).mono ?_;rintro e w' ⟨rfl,t,rfl⟩;exact⟨rfl,Joins.below_bytesWorld _ _ _ _ (aC _)⟩
def C0:ByteArray:=⟨#[46]⟩
def s0:ByteArray:=⟨#[97,46,48,48,49,46,48,48,50,46,48]⟩
def sA:ByteArray:=⟨#[97]⟩
def s1:ByteArray:=⟨#[48,48,49]⟩
def s2:ByteArray:=⟨#[48,48,50]⟩
def sD:ByteArray:=⟨#[48]⟩
def sF:ByteArray:=⟨#[97,46,48,48,49,46,48,48,50]⟩
def sP:ByteArray:=⟨#[97,46,48,48,49,46,48,48,50,46]⟩
def wG:ByteArray:=⟨#[48,49,50,51,52,53,54,55,56,57,65,66,67,68,69,70,71,72,73,74,75,76,77,78,79,80,81,82,83,84,85,86,87,88,89,90,42]⟩
theorem JX:Lib.splitB C0 0 (Lib.countB s0 C0) s0=[sA,s1,s2,sD]:=by kernel_rfl
theorem JY:Lib.countB s0 C0=3:=by kernel_rfl
theorem JZ:aT C 55 [.pv (str s0),.pv (str C0)] (.own 9 [[str sA],[str s1],[str s2],[str sD]]) []:=
 xQ hC (f:=55) [.string s0,.string C0] 9 [.string sA,.string s1,.string s2,.string sD] _ rfl rfl (by simp[Value.oneCell']) (by decide) ⟨_,Tryz.func55,by decide,rfl⟩ fun S w c hS=>by
  obtain⟨_,_,⟨m,z⟩,_⟩:=c;refine (Tryz.strings_Split s0 C0 m w (by decide) z (by decide)).mono fun _ _ ⟨D,G⟩=>⟨?_,?_⟩
  ·rw[D,JY];rfl
  rw[G,JX];rfl
theorem UW(s:ByteArray)(n:Int)(hs:s.size=3)(z:Lib.trimS s.data.toList s7.data.toList=[])(D:Lib.atoi s.data.toList=some n):aT C 57 [.pv (str s)] (.tu [i64 n,bool true]) []:=by
 refine fW hC Tryz.func57 rfl (by kernel_rfl) fun _=>?_;have c:=Aj s (by omega);rw[z]at c;apply iW<;>intro G
 ·exact absurd (by omega) G
 refine⟨_,_,c,_,_,(Ak s n (by omega) D),?_,trivial⟩;rfl
def pY(s:ByteArray):Nat->Int
 | 0=>0
 | i+1=>pY s i+((i:Int)+1)*(((s.data.toList[i]?).getD 0).toNat:Int)
theorem uN(s:ByteArray):∀i,i<=40->0<=pY s i/\pY s i<=10200*(i:Int)
 | 0,_=>by simp[pY]
 | i+1,hi=>by
  have ⟨h1,h2⟩:=uN s i (by omega);have hb:(((s.data.toList[i]?).getD 0).toNat:Int)<=255:=by have:=((s.data.toList[i]?).getD 0).toNat_lt;omega
  have h0:(0:Int)<=(((s.data.toList[i]?).getD 0).toNat:Int):=Int.natCast_nonneg _;rw[pY];generalize (((s.data.toList[i]?).getD 0).toNat:Int)=c at hb h0;have D:((i:Int)+1)*c<=((i:Int)+1)*255:=TV hb (by omega);have G:0<=((i:Int)+1)*c:=Int.mul_nonneg (by omega) h0;generalize ((i:Int)+1)*c=z at D G;omega
theorem Hd(s:ByteArray)(hs:s.size<=40)(c:UInt8)(G:wG[((pY s s.size).tmod 37).toNat]?=some c):aT C 58 [.pv (str s)] (.p (.im (.int .u8 c.toNat))) []:=by
 refine fW hC Tryz.func58 rfl (by kernel_rfl) fun _=>?_;have hsz:s.data.toList.length=s.size:=by simp
 refine d_ (fun i:Nat=>i<=s.size) (fun i=>[(0,.p (str s)),(3,.p (i64 (pY s i))),(6,.p (i64 s.size)),(7,.p (i64 i))]) (fun _=>[]) (fun i=>s.size-i) 0 _ (aY.refl _ _) (nI _) ⟨Z,Z,Z,Z,Y⟩ trivial fun i hi t h=>?_;have sb:=uN s i (by omega);apply iW<;>intro h1
 ·obtain⟨b,hb,I⟩:=xR (s:=s) (i:=i) (by omega);have Qu:=b.toNat_lt;have J:((i:Int)+1)*(b.toNat:Int)<=((i:Int)+1)*255:=TV (by omega) (by omega);have N:0<=((i:Int)+1)*(b.toNat:Int):=Int.mul_nonneg (by omega) (Int.natCast_nonneg _);have e:pY s (i+1)=pY s i+((i:Int)+1)*(b.toNat:Int):=by rw[pY,I];rfl
  generalize D:((i:Int)+1)*(b.toNat:Int)=z at J N e;exact⟨wO (by omega),b,⟨by omega,by rw[c8];exact hb⟩,wO (by omega),⟨by rw[D];omega,by rw[D];omega⟩,⟨by rw[D];omega,by rw[D];omega⟩,wO (by omega),(i+1),_,aY.refl _ _,by omega,by omega,⟨rfl,iX (fun n:Int=>AV.p (i64 n)) (by rw[e,D]),Z,Z,Y⟩,trivial⟩
 have e:i=s.size:=by omega
 have O:0<=(pY s i).tmod 37/\(pY s i).tmod 37<37:=⟨Int.tmod_nonneg _ sb.1,Int.tmod_lt_of_pos _ (by decide)⟩;rw[<-e]at G;refine⟨by decide,c,⟨O.1,G⟩,?_,trivial⟩;rfl
def sN:ByteArray:=⟨#[49,48,48,49]⟩
theorem uO(n:Int)(a b:ByteArray)(h0:0<=n/\n<=999)(D:No (Lib.itoa (1000+n))=a)(hl:a.size=4)(hb:a.extract 1 4=b):aT C 85 [.pv (i64 n)] (.p (str b)) []:=by
 refine fW hC Tryz.func85 rfl (by kernel_rfl) fun _=>?_;have c:=Ah (1000+n) ⟨by omega,by omega⟩;rw[D]at c;refine⟨wO (by omega),_,_,c,⟨by decide,by omega,by omega⟩,?_,trivial⟩;rw[hl];exact iX (fun z=>PV.im (Value.string z)) hb
def sS:ByteArray:=⟨#[97,46,48,48,49,46,48,48,50,46,88]⟩
theorem MI:wG[((pY sF sF.size).tmod 37).toNat]?=some 88:=by kernel_rfl
theorem yk(s:ByteArray)(h:s=sF):aT C 58 [.pv (str s)] (.p (.im (.int .u8 88))) []:=by
 rw[h];exact Hd sF (by decide) 88 MI
theorem He:aT C 85 [.pv (i64 1)] (.p (str s1)) []:=uO 1 sN s1 (by decide) (by kernel_rfl) (by decide) (by kernel_rfl)
def Sh:ByteArray:=⟨#[49,48,48,50]⟩
theorem Hf:aT C 85 [.pv (i64 2)] (.p (str s2)) []:=uO 2 Sh s2 (by decide) (by kernel_rfl) (by decide) (by kernel_rfl)
theorem PA:sA++⟨#[46]⟩++s1++⟨#[46]⟩++s2=sF:=by kernel_rfl
theorem PB:sA++⟨#[46]⟩++s1++⟨#[46]⟩++s2++⟨#[46]⟩++Utf8.encode 88=sS:=by kernel_rfl
theorem Fo:(sA++⟨#[46]⟩++s1++⟨#[46]⟩++s2++⟨#[46]⟩).size+(Utf8.encode 88).size<=9223372036854775807:=by
 have h:(Utf8.encode 88).size=1:=by kernel_rfl
 rw[h];simp only[W1];decide
theorem Fp:aT C 58 [.pv (.im (.string (sA++⟨#[46]⟩++s1++⟨#[46]⟩++s2)))] (.p (.im (.int .u8 88))) []:=yk _ PA
theorem Hg:aT C 59 [.pv (str sA),.pv (i64 1),.pv (i64 2)] (.p (str sS)) []:=by
 refine fW hC Tryz.func59 rfl (by kernel_rfl) fun _=>?_;refine⟨by show _<=9223372036854775807;first | (simp only[W1];decide) | decide,_,_,He,by show _<=9223372036854775807;first | (simp only[W1];decide) | decide,by show _<=9223372036854775807;first | (simp only[W1];decide) | decide,_,_,Hf,by show _<=9223372036854775807;first | (simp only[W1];decide) | decide,by show _<=9223372036854775807;first | (simp only[W1];decide) | decide,_,_,Fp,Fo,?_,trivial⟩;exact iX (fun z=>PV.im (Value.string z)) PB
theorem tI:aT C 32 [.pv (str sA),.pv (i64 1),.pv (i64 2)] (.tu [str sS,i64 0]) []:=by
 refine fW hC Tryz.func32 rfl (by kernel_rfl) fun _=>?_;have c:=ir sA (by decide);rw[show jh sA=true from by decide]at c;have z:=cI 1 0 999;rw[show pK 1 0 999=true from by decide]at z;have D:=cI 2 0 999;rw[show pK 2 0 999=true from by decide]at D;refine⟨_,_,c,_,_,z,_,_,D,_,_,Hg,?_,trivial⟩;rfl
theorem ym:aT C 31 [.pv (str s0)] (.tu [str ByteArray.empty,i64 0,i64 0,i64 15]) []:=by
 refine fW hC Tryz.func31 rfl (by kernel_rfl) fun _=>?_;have c:=ir sA (by decide);rw[show jh sA=true from by decide]at c;have z:=s6 wG sD (by decide);rw[show Lib.contains wG.data.toList sD.data.toList=true from by decide]at z;have D:=UW s1 1 rfl (by decide) (by decide);have G:=UW s2 2 rfl (by decide) (by decide);refine⟨_,_,JZ,⟨by decide,by decide⟩,[str sA],rfl,_,_,c,⟨by decide,by decide⟩,[str sD],rfl,⟨by decide,by decide⟩,[str sD],rfl,_,_,z,⟨by decide,by decide⟩,[str s1],rfl,_,_,D,⟨by decide,by decide⟩,[str s2],rfl,_,_,G,⟨by decide,by decide⟩,[str sD],rfl,48,⟨by decide,rfl⟩,⟨by decide,by decide⟩,⟨by decide,by decide,by decide⟩,_,_,(yk (s0.extract 0 9) (by kernel_rfl)),?_,trivial⟩;rfl
theorem uP:aT C 14 [] (.p (bool true)) []:=by
 refine fW hC Tryz.func14 rfl (by kernel_rfl) fun _=>?_;have hp:=wF sS sP;rw[show Lib.hasPrefix sS.data.toList sP.data.toList=true from by kernel_rfl]at hp;refine⟨_,_,ym,_,_,tI,_,_,hp,?_,trivial⟩;rfl
theorem Xy(l:List dQ)(hN:l.length<=140737488355328):aT C 12 [.pv (.sl (l.map dc)),.pv (.sl (l.map dc))] (.p (bool true)) []:=by
 refine fW hC Tryz.func12 rfl (by kernel_rfl) fun _=>?_;have D:=cH l dc;apply iW<;>intro h0<;>try simp only[zB]at h0
 ·exact absurd trivial h0
 refine d_ (fun i:Nat=>i<=l.length) (fun i=>[(0,.p (.sl (l.map dc))),(1,.p (.sl (l.map dc))),(12,.p (i64 l.length)),(13,.p (i64 i))]) (fun _=>[]) (fun i=>l.length-i) 0 _ (aY.refl _ _) (nI _) ⟨rfl,rfl,iX (fun n:Nat=>AV.p (i64 n)) D,Z,Y⟩ trivial fun i hi t h=>?_;apply iW<;>intro G<;>try simp only[zB]at G
 ·obtain⟨d,c⟩:=a8 (l:=l) (i:=i) (by omega);refine⟨(dc d),(idx rfl c),(dc d),(idx rfl c),iW ?_ ?_⟩<;>intro z<;>try simp only[zB]at z
  ·exact absurd z (by simp)
  exact⟨wO (by omega),(i+1),_,aY.refl _ _,by omega,by omega,⟨Z,Z,Z,Z,Y⟩,trivial⟩
 refine⟨?_,trivial⟩;rfl
theorem XO(l:List Made)(hN:l.length<=140737488355328):aT C 13 [.pv (.sl (l.map mc)),.pv (.sl (l.map mc))] (.p (bool true)) []:=by
 refine fW hC Tryz.func13 rfl (by kernel_rfl) fun _=>?_;have D:=cH l mc;apply iW<;>intro h0<;>try simp only[zB]at h0
 ·exact absurd trivial h0
 refine d_ (fun i:Nat=>i<=l.length) (fun i=>[(0,.p (.sl (l.map mc))),(1,.p (.sl (l.map mc))),(12,.p (i64 l.length)),(13,.p (i64 i))]) (fun _=>[]) (fun i=>l.length-i) 0 _ (aY.refl _ _) (nI _) ⟨rfl,rfl,iX (fun n:Nat=>AV.p (i64 n)) D,Z,Y⟩ trivial fun i hi t h=>?_;apply iW<;>intro G<;>try simp only[zB]at G
 ·obtain⟨d,c⟩:=a8 (l:=l) (i:=i) (by omega);refine⟨(mc d),(idx rfl c),(mc d),(idx rfl c),iW ?_ ?_⟩<;>intro z<;>try simp only[zB]at z
  ·exact absurd z (by simp)
  exact⟨wO (by omega),(i+1),_,aY.refl _ _,by omega,by omega,⟨Z,Z,Z,Z,Y⟩,trivial⟩
 refine⟨?_,trivial⟩;rfl
theorem XT(s:List gI)(l:List Lt)(b:List Fl)(hS:∀x∈s,x.name.size<4294967281)(I:∀x∈l,x.name.size<4294967281)(hs:s.length<=140737488355328)(hl:l.length<=140737488355328)(hb:b.length<=140737488355328):aT C 7 [.pv (.sl (s.map gq)),.pv (.sl (l.map jK)),.pv (.sl (b.map CJ))] (.tu [.sl ((jQ s l b).1.map dc),.sl ((jQ s l b).2.1.map mc),i64 (jQ s l b).2.2]) []:=by
 by_cases c:cz s=0
 ·by_cases D:cA l=0
  ·by_cases G:de s l b=0
   ·have:=XN s l b c D G hS I hs hl hb;rw[jQ,qH c,qH D,qH G];exact this
   have e:jQ s l b=([],[],de s l b):=by rw[jQ,qH c,qH D,af G]
   rw[e];have c1:=B2 s hS hs;have c2:=Wz l I hl;have J:=WL s l b (o5 c).1 D hb;rw[c]at c1;rw[D]at c2;refine Mb ⟨[],[],[],[17],[],[]⟩ hC Tryz.func7 rfl (by kernel_rfl) fun _=>?_;refine⟨_,_,c1,_,_,c2,_,_,J,iW ?_ ?_⟩<;>intro z<;>try simp only[zB]at z
   ·refine⟨?_,trivial⟩;rfl
   exact absurd (by simpa using z) G
  have e:jQ s l b=([],[],cA l):=by rw[jQ,qH c,af D]
  rw[e];have c1:=B2 s hS hs;have c2:=Wz l I hl;rw[c]at c1;refine Mb ⟨[],[],[],[17],[],[]⟩ hC Tryz.func7 rfl (by kernel_rfl) fun _=>?_;refine⟨_,_,c1,_,_,c2,iW ?_ ?_⟩<;>intro z<;>try simp only[zB]at z
  ·refine⟨?_,trivial⟩;rfl
  exact absurd (by simpa using z) D
 have e:jQ s l b=([],[],cz s):=by rw[jQ,af c]
 rw[e];have c1:=B2 s hS hs;refine Mb ⟨[],[],[],[17],[],[]⟩ hC Tryz.func7 rfl (by kernel_rfl) fun _=>?_;refine⟨_,_,c1,iW ?_ ?_⟩<;>intro z<;>try simp only[zB]at z
 ·refine⟨?_,trivial⟩;rfl
 exact absurd (by simpa using z) c
theorem Yt(s:List gI)(l:List Lt)(b:List Fl):(jQ s l b).1.length<=140737488355328/\(jQ s l b).2.1.length<=140737488355328:=by
 unfold jQ;split
 ·rename_i D;split
  ·rename_i c;split
   ·have z:=Fm (b:=b) D c;have h3:=z.len;obtain⟨l1,l2,G⟩:=oZ c;have I:=iX List.length z.ks;rw[ct,CX]at I;have J:∀{l:List Lt},(∀x∈l,x.panels<=200)->(l.map fun x=>x.panels.toNat).sum<=200*l.length:=by
     intro l hl
     induction l with
     | nil=>exact nI _
     | cons x l ih=>
      have:=ih fun y N=>hl y (An _ N);have:=hl x dJ;simp only[qO,SX,bw];omega
    have:=J fun x O=>(G x O).2.1.2;exact⟨by dsimp only;omega,by dsimp only;omega⟩
   exact⟨nI _,nI _⟩
  exact⟨nI _,nI _⟩
 exact⟨nI _,nI _⟩
theorem Yd(s:List gI)(l:List Lt)(b:List Fl)(hS:∀x∈s,x.name.size<4294967281)(c:∀x∈l,x.name.size<4294967281)(hs:s.length<=140737488355328)(hl:l.length<=140737488355328)(hb:b.length<=140737488355328):aT C 3 [.pv (.sl (s.map gq)),.pv (.sl (l.map jK)),.pv (.sl (b.map CJ))] (.p (bool true)) []:=by
 refine fW hC Tryz.func3 rfl (by kernel_rfl) fun _=>?_;have z:=Ag s l b hS c hs hl hb;have D:=XT s l b hS c hs hl hb;obtain⟨Y,Z⟩:=Yt s l b;have G:=Xy _ Y;have I:=XO _ Z;have c1:=ft s hS hs;have c2:=B2 s hS hs;have J:=gS l c hl;have N:=Wz l c hl;generalize jQ s l b=F at z D G I;obtain⟨F1,F2,F3⟩:=F;generalize cz s=A1 at c1 c2;generalize cA l=A2 at J N;refine⟨_,_,z,_,_,D,_,_,c1,_,_,c2,iW ?_ ?_⟩<;>intro O<;>try simp only[zB]at O
 ·refine⟨_,_,J,_,_,N,iW ?_ ?_⟩<;>intro U<;>try simp only[zB]at U
  ·refine⟨_,_,G,_,_,I,iW ?_ ?_⟩<;>intro V<;>try simp only[zB]at V
   ·refine⟨_,_,uP,?_,trivial⟩;rfl
   exact absurd trivial V
  exact absurd trivial U
 exact absurd trivial O
end M
end Go.Proofs.YtedjhhieekileaaGreatDoor
namespace Go.Proofs.YtedjhhieekileaaGreatDoor
open Go.ChangeShapes Go.WideShapes Go.ChangeAt Go.RowKit Go.AM
open Go.ChangeMaps (open_string shut_string)
open Go.Proofs.YtedjhhieekileaaGreatDoor.M
namespace houseShopsMatchSpec
theorem s8{P:Program}{f:FuncId}{fn:Func}{s:ChangeSpec}{c:OpenClaim}(D:(laidOutB P)=true)(G:(mapsRowed P)=true)(I:((c.inPlace==P.inPlace f))=true)(J:((c.unfollowed==P.unfollowed f))=true)(N:((c.recurses==P.recurses f))=true)(O:((c.named==P.varsNamed f))=true)(U:((c.plainKeys==P.plainKeys))=true)(V:(P.stopsHeard)=true)(Y:(P.mayEnter)=true)(Z:((c.lifted==P.liftsFinal))=true)(J5:((P.make==some c.make))=true)
  (z:(c.wf (OpenSpec.ofChange s)&&true&&fn.params.all (P.readableRec ·)&&namedTie P c.named s.vars&&(c.stops==[])&&(P.stops==[])&&(c.knobs==[])&&(P.stopKnobs==[])&&true&&(c.maps==(fn.params.toList++s.plain.varTypes P).any (P.mapsRec ·))&&(c.ifaces==(fn.params.toList++s.plain.varTypes P).any (P.ifacesRec ·))&&(c.mapsOut==P.mapsAmong fn.resultTypes.toList)&&(c.loops==(fn.params.toList++s.plain.varTypes P).any (P.loopsFrom ·))&&(c.wideKeys==(fn.params.toList++s.plain.varTypes P++fn.resultTypes.toList).any (P.wideKeysFrom ·))&&s.vars.all (P.varReadable ·)&&fn.resultTypes.all (fun t=>P.readableRec t&&decide (t<P.types.size))&&(c.ifacesOut==fn.resultTypes.toList.any (P.ifacesRec ·))&&(c.loopsOut==fn.resultTypes.toList.any (P.loopsFrom ·))&&c.shortTexts.isNone&&(c.kinds==(if c.domain.isEmpty then [] else fn.params.toList.map fun t=>match P.underlying t with | some (.int k)=>some k | _=>none))&&(c.pinned==c.pinnedBy)&&(c.veiled==(fn.params.toList++s.plain.varTypes P++fn.resultTypes.toList).any (P.veiledRec ·))&&c.veiledFits P fn.params.toList (fn.params.toList++s.plain.varTypes P++fn.resultTypes.toList))=true):joinedFacts P f fn s c=true:=by
 simp only[fH]at z;simp only[joinedFacts,fH];simp only[D,G,I,J,N,O,U,V,Y,Z,J5,and_true];simp only[and_assoc,and_true]at z ⊢;exact z
theorem J6{W:World}(c:laidMetH Tryz.prog Rows.houseShopsMatchSpecUptoRow.laid W)(h:W.ShapedOpen Tryz.prog):M.Env (fun b=>b<W.heap.size) W:=by
 refine x_ (Go.Proofs.cell_of_shapedOpen_int (zero:=#[.int .i64 0]) (t:=3) h (il (by kernel_rfl)) (by kernel_rfl) rfl (by kernel_rfl) (by kernel_rfl) km) ?_;rw[MakeChecks.laidMetH_plain _ _ _ (by kernel_rfl)]at c;exact Lib.tabIs_of_head (rest:=Rows.houseShopsMatchSpecUptoRow.laid.drop 3) M.Js (by kernel_rfl) v_ my (by kernel_rfl) (by kernel_rfl) (laidMet.tail (laidMet.tail c))
theorem Fq(H:Type)(enc:TypeId×Value->H)(W:World)(base:Nat)(args:Array Value)(ds gs:List (DataW H))(before:List MemPlace)
  (c:∀(j:Nat) t v,Tryz.f3.params[j]?=some t->args[j]?=some v->Value.okWide Tryz.prog W .any base t v)
  (J:DataW.Whole enc Tryz.prog Tryz.f3.params.toList Rows.houseShopsMatchSpecSpec.vars false W args.toList ds gs before) (I:Rows.uptoSmall H (ds++gs)=true) (hE:M.Env (fun b=>b<W.heap.size) W):
  Calls Tryz.prog 3 args W fun e D=>∃v,e=.returned v/\Rows.houseShopsMatchSpecSpec.post enc Tryz.prog Tryz.f3 false true false false W args v D:=by
 have Sk:=J;obtain⟨N,q,Sl,hV,rfl,wU,Fz⟩:=J;have G:DataW.TrodAll enc Tryz.prog W 0 (fun _=>true) true Tryz.f3.params.toList args.toList ds N:=Sl;have z:=fun (D:World) (hb:Below W.heap.size W D)=>uI MA hb (by kernel_rfl) G G.lt;rw[Tryz.params3]at G c;obtain⟨O,SP,d0,SQ,p0,q0,hargs,rfl,Ph,h0,r0⟩:=trodAll_cons G;obtain⟨U,SR,d1,SS,p1,q1,rfl,rfl,rfl,h1,r1⟩:=trodAll_cons r0;obtain⟨V,SU,d2,SV,p2,q2,rfl,rfl,rfl,h2,r2⟩:=trodAll_cons r1;obtain⟨rfl,rfl,rfl⟩:=trodAll_nil r2;obtain rfl:args=#[O,U,V]:=by cases args;simp_all
 obtain⟨rfl,rfl⟩:=trodVars_none hV;obtain⟨_,w0,s,e0,z0⟩:=pR (S:=fun b=>b<W.heap.size) Tryz.underlying22 (G4 fun _ h=>h) (c 0 22 O rfl rfl) h0;cases e0;have Y:Fb s:=G5 (wC I (vA _ (by repeat (first | exact dJ .. | apply An)))) z0;obtain⟨_,w1,l,e1,z1⟩:=pR (S:=fun b=>b<W.heap.size) Tryz.underlying23 (JO fun _ h=>h) (c 1 23 U rfl rfl) h1;cases e1;have Z:Ig l:=JQ (wC I (vA _ (by repeat (first | exact dJ .. | apply An)))) z1;obtain⟨_,w2,b,e2,z2⟩:=pR (S:=fun b=>b<W.heap.size) Tryz.underlying24 (JP fun _ h=>h) (c 2 24 V rfl rfl) h2;cases e2;have Sm:Ih b:=JR (wC I (vA _ (by repeat (first | exact dJ .. | apply An)))) z2;refine (JL (C:=C) (xs:=[.sl (s.map gq),.sl (l.map jK),.sl (b.map CJ)]) (y:=.bool true) (Yd s l b Y.1 Z.1 Y.2 Z.2 Sm.2) hE (pS (w0) (pS (w1) (pS (w2) E_)))).mono fun e D ⟨he,hb⟩=>?_;subst he;exact⟨_,rfl,tG (pa:=N) (pv:=[]) Sk (fun _ _ _=>trodAll_cons_mk (shut_bool oI _) trodAll_mk0) (fun sp h=>z D hb sp (fun p hp=>h p (vA _ hp))) (fun _ _=>rfl) rfl
  hb (ok_one (by kernel_rfl) rfl (okWide_bool_mk oI _))⟩
theorem reads(os:Os){H:Type}(enc:TypeId×Value->H):∃c,DataW.whole enc Tryz.prog ((World.laidAll Tryz.prog os Rows.houseShopsMatchSpecUptoRow.laid).forCall (fun _ _=>0) ⟨#[],#[.slice none 0 0,.slice none 0 0,.slice none 0 0],[]⟩).memory Tryz.f3.params.toList Rows.houseShopsMatchSpecSpec.vars false (#[.slice none 0 0,.slice none 0 0,.slice none 0 0]:Array Value).toList 8=some ([.nil,.nil,.nil],[],c):=
 ⟨[],by kernel_rfl⟩
theorem lifted(os:Os)(c:os.Started)(H:Type)(enc:TypeId×Value->H)(F:Stop.Interp):
  ReturnsInHanded {} Tryz.checked os 3 .any ((Rows.OpenSpec.upto Rows.houseShopsMatchSpecSpec).preRow enc Tryz.prog Tryz.f3 Rows.houseShopsMatchSpecUptoRow.domain false Rows.houseShopsMatchSpecUptoRow.laid) (((Rows.OpenSpec.upto Rows.houseShopsMatchSpecSpec).at F).post enc Tryz.prog Tryz.f3 false true false false):=by
 obtain⟨places,G⟩:=reads os enc;refine returnsInHanded_of_row (C:=Tryz.checked) (s:=Rows.OpenSpec.upto Rows.houseShopsMatchSpecSpec) own c (by kernel_rfl) Tryz.func3
  (qG (enc:=enc) (C:=Tryz.checked) (World.laidAll Tryz.prog os Rows.houseShopsMatchSpecUptoRow.laid) #[.slice none 0 0,.slice none 0 0,.slice none 0 0] (World.laidAll_os _ _ _) (World.shaped_of_ZipB (by kernel_rfl) (by kernel_rfl)) (by kernel_rfl)
   (OpenSpec.preRow_of_cond 8 G (by kernel_rfl) (fun k I=>by cases I;kernel_rfl) (by kernel_rfl)
    (by rw[MakeChecks.laidMetH_plain _ _ _ (by kernel_rfl)];exact laidMet_laidAll _ (by kernel_rfl) (by kernel_rfl)))) ?_
 intro W base args ds gs before z J _ N _ O D _;exact Fq H enc W base args ds gs before z J (N _ rfl) (J6 O D)
theorem J7:laidOutB Tryz.prog=true:=by kernel_rfl
theorem Hl:mapsRowed Tryz.prog=true:=by kernel_rfl
theorem J8:(Rows.houseShopsMatchSpecUptoRow.inPlace==Tryz.prog.inPlace 3)=true:=by kernel_rfl
theorem MN:(Rows.houseShopsMatchSpecUptoRow.unfollowed==Tryz.prog.unfollowed 3)=true:=by kernel_rfl
theorem MO:(Rows.houseShopsMatchSpecUptoRow.recurses==Tryz.prog.recurses 3)=true:=by kernel_rfl
theorem Hm:(Rows.houseShopsMatchSpecUptoRow.named==Tryz.prog.varsNamed 3)=true:=by kernel_rfl
theorem MP:(Rows.houseShopsMatchSpecUptoRow.plainKeys==Tryz.prog.plainKeys)=true:=by kernel_rfl
theorem Ho:Tryz.prog.stopsHeard=true:=by kernel_rfl
theorem Hp:Tryz.prog.mayEnter=true:=by kernel_rfl
theorem J9:(Rows.houseShopsMatchSpecUptoRow.lifted==Tryz.prog.liftsFinal)=true:=by kernel_rfl
theorem J_:(Tryz.prog.make==some Rows.houseShopsMatchSpecUptoRow.make)=true:=by kernel_rfl
theorem Ka:false=Rows.houseShopsMatchSpecUptoRow.goesBy Tryz.prog:=by kernel_rfl
theorem Hq:true=Tryz.prog.looks []:=by kernel_rfl
theorem PC:Rows.houseShopsMatchSpecUptoRow.wfByText (Rows.OpenSpec.upto Rows.houseShopsMatchSpecSpec)=true:=by kernel_rfl
theorem Kb:joinedFacts Tryz.prog 3 Tryz.f3 (Rows.OpenSpec.upto Rows.houseShopsMatchSpecSpec).bare Rows.houseShopsMatchSpecUptoRow=true:=
 s8 J7 Hl J8 MN MO Hm MP Ho Hp J9 J_ (by kernel_rfl)
theorem Fs:Rows.HouseShopsMatchSpecUptoSaid:=
 OpenClaim.holds_of_cond 3 Tryz.f3 rfl rfl rfl rfl rfl rfl rfl ⟨rfl,rfl,rfl,rfl,rfl⟩ rfl rfl rfl rfl rfl (by kernel_rfl) Tryz.func3 Kb
  (il (by kernel_rfl)) (by unfold Func.isWrapper;first | (rw[qH (by decide +kernel)];kernel_rfl) | (rw[af (by decide +kernel)];exact⟨rfl,rfl⟩))
  (fun os c H enc _ F=>by rw[OpenClaim.pre_eq_preRow];exact lifted os c H enc F)
theorem plain(f:FuncId)(fn:Func)(D:Tryz.pinned.checked.prog.funcNamed Rows.houseShopsMatchSpecUptoRow.func=some f)(c:Tryz.pinned.checked.prog.funcs[f]?=some fn):
  true=Tryz.pinned.checked.prog.looks []/\∀(j:Nat) t,fn.params[j]?=some t->Tryz.pinned.checked.prog.wantsStandIn t=false:=by
 obtain rfl:f=3:=Option.some.inj ((show Tryz.prog.funcNamed Rows.houseShopsMatchSpecUptoRow.func=some 3 by kernel_rfl).symm.trans D) |>.symm;obtain rfl:fn=Tryz.f3:=(Option.some.inj (Tryz.func3.symm.trans c)).symm;refine⟨Hq,fun j t z=>?_⟩;rw[Tryz.params3]at z;have G:=cX z;have I:((Tryz.f3.params.toList).all fun u=>!Tryz.prog.wantsStandIn u)=true:=by kernel_rfl
 exact (show Tryz.prog.wantsStandIn t=false by simpa using cC.1 I t (by rw[Tryz.params3];simpa using G))
theorem cardUpto:Rows.HouseShopsMatchSpecUptoCardSaid:=
 Claim7.holds_tied_plain_at .later [] _ _ _ _ Fs (fun _ h=>by cases h) PC (fun _ h=>by cases h) houseShopsMatchSpecUpto_row_tie rfl ⟨rfl,rfl⟩ (by kernel_rfl) rfl plain Ka
end houseShopsMatchSpec
end Go.Proofs.YtedjhhieekileaaGreatDoor
