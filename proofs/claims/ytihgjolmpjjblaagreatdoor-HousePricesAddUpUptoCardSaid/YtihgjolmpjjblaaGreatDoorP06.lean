/- Part 6 of the proof of HousePricesAddUp. -/
import Derived.Test.YtihgjolmpjjblaaGreatDoorP05
import Derived.Test.YtihgjolmpjjblaaGreatDoorCards
import Derived.Test.YtihgjolmpjjblaaGreatDoorTie
import Derived.WalkKit
import Derived.ProofKit
import Derived.OpenShut
import Derived.Deep.DeepHandedRow
import Derived.Lib.LaidTab
import Derived.LaidMore
import Derived.Lay
import Derived.Stop.Joined
import Derived.Stop.LaidErr
import Derived.MakeChecks
import Derived.Deep.Fields
import Derived.Carry
import Derived.Sort.Walk0
import Derived.Lib.Bytealg
set_option linter.unusedVariables false
set_option linter.unusedSimpArgs false
set_option maxRecDepth 100000
set_option maxHeartbeats 8000000
namespace Go
abbrev xc:=@Go.Deep.hone_of
abbrev xl:=@Bool.not_eq_true
abbrev uh:=@Bool.false_and
abbrev gM:=@Int.tdiv_eq_ediv_of_nonneg
end Go
namespace Go.Proofs.YtihgjolmpjjblaaGreatDoor
open Go.ChangeShapes Go.WideShapes Go.ChangeAt Go.RowKit
section
variable {H:Type} {enc:TypeId×Value->H} {P:Program}
theorem DN{f:Func}{s:ChangeSpec}{z U D V:Bool}{W Y:World}{args:Array Value}{v:Value}{ds Z:List (DataW H)}{before pa pv:List MemPlace}
  (hW:DataW.Whole enc P f.params.toList s.vars z W args.toList ds Z before)
  (O:∀(b:Nat) (sp:Nat->Bool) (hd:Bool),DataW.TrodAll enc P Y b sp hd f.resultTypes.toList (v.resultList f.resultTypes.size) (s.fn H (ds++Z)).results [])
  (I:∀sp:Nat->Bool,(∀p∈before,sp p.block=true)->DataW.TrodAll enc P Y 0 sp true f.params.toList args.toList (s.fn H (ds++Z)).args pa)
  (J:∀sp:Nat->Bool,(∀p∈before,sp p.block=true)->DataW.TrodVars enc P Y sp s.vars (s.fn H (ds++Z)).vars pv)
  (N:before=pa++pv) (hb:Below W.heap.size W Y)
  (hok:∀(j:Nat) (t:TypeId) (r:Value),f.resultTypes[j]?=some t->(v.resultList f.resultTypes.size)[j]?=some r->Value.okWide P Y .any 0 t r):
  s.post enc P f z U D V W args v Y:=by
 have eX:∀p∈before,p.block<W.heap.size:=fun p hp=>hW.lt p hp;have R:∀p∈before,(fun b=>decide (b<W.heap.size)) p.block=true:=fun p hp=>by simpa using eX p hp
 refine⟨ds,Z,before,[],pa,pv,hW,O _ _ _,I _ R,J _ R,World.keptBut_mono (fun p hp=>⟨hp,?_⟩) (hb.frame (·∈before)),fun _=>?_⟩
 ·rw[N,b_]at hp;exact Or.inr hp
 obtain⟨_,_,_,_,_,hz,hn⟩:=hW;refine⟨hok,_,_,([]++pa)++pv,⟨[]++pa,pv,trodAll_append (I _ (fun _ _=>rfl)) (O _ _ _),J _ (fun _ _=>rfl),rfl,?_,?_⟩,?_⟩
 ·intro b off hp;have nQ:MemPlace.cell b off∈before:=by rw[N];simpa using hp
  rw[hb.frozen (eX _ nQ)];exact hz b off nQ
 ·intro ha;have:=hn ha;rw[N]at this;simpa using this
 intro p hp _;rw[N];simpa using hp
theorem Am{C:Checked}{os:Os}{f:FuncId}{fn:Func}{s:OpenSpec}{z:List PathCond}{D:Bool}{laid:List (String×DataW Unit)}(w0:World)(args:Array Value)(J:w0.os=os)
  (N:(w0.forCall (fun _ _=>0) ⟨#[],args,[]⟩).Shaped C.prog)
  (I:Input.okWideB C.prog (w0.forCall (fun _ _=>0) ⟨#[],args,[]⟩) f ⟨#[],args,[]⟩=true)
  (aw:s.preRow enc C.prog fn z D laid (w0.forCall (fun _ _=>0) ⟨#[],args,[]⟩).memory args):
  ∃(w:World) (tape:Tape) (i:Input),w.os=os/\(w.forCall tape i).Shaped C.prog/\i.vars=[]/\Input.okWide C.prog (w.forCall tape i) .any w.heap.size f i /\
   s.preRow enc C.prog fn z D laid (w.forCall tape i).memory i.args/\({}:Assume).holds C.prog (lone (Frame.enter C.prog f i.args .normal) [] (w.forCall tape i)):=
 ⟨w0,fun _ _=>0,⟨#[],args,[]⟩,J,N,(Input.okWide_of_okWideB (base:=0) I).1,(Input.okWide_of_okWideB I).2,aw,by
  simp only[Assume.holds];exact⟨by simp,by simp,fun _=>Modest.zero,by simp,by simp⟩⟩
end
theorem own:ownKnob Tryz.prog.godebug=none:=by kernel_rfl
variable {H:Type}
theorem Rj(d:DataW H):1<=Rows.uptoBulk d:=by
 cases d with
 | lit l=>cases l<;>simp[Rows.uptoBulk]
 | nil=>simp[Rows.uptoBulk]
 | ptr d=>simp[Rows.uptoBulk]
 | slice elems spare=>simp[Rows.uptoBulk]
 | agg parts=>simp[Rows.uptoBulk]
 | iface t d=>simp[Rows.uptoBulk]
 | map entries=>simp[Rows.uptoBulk]
 | held h=>simp[Rows.uptoBulk]
theorem EB{d:DataW H}{l:List (DataW H)}(h:d∈l):Rows.uptoBulk d<=Rows.uptoBulkAll l:=by
 induction l with
 | nil=>cases h
 | cons x r ih=>
  simp only[Rows.uptoBulkAll];cases aq.1 h with
  | inl e=>subst e;omega
  | inr e=>have:=ih e;omega
theorem IC{H:Type}(bytes:List UInt8):Rows.uptoBulk (DataW.lit (H:=H) (.string bytes))=bytes.length+1:=by
 simp[Rows.uptoBulk]
theorem KX{l:List (DataW H)}(hk:Rows.uptoSmall H l=true):Rows.uptoBulkAll l<=1048576:=l5 hk
end Go.Proofs.YtihgjolmpjjblaaGreatDoor
namespace Go.Proofs.YtihgjolmpjjblaaGreatDoor
namespace M
open Go.AM Go.RowKit Go.Lib
open Reg (aB cw aR)
variable {H:Type} {enc:TypeId×Value->H} {w:World} {S:Nat->Prop}
theorem ID:Mz enc Tryz.prog w S 3 1 fun xs d=>∃n:Int,xs=[i64 n]/\d=.lit (.int .i64 n):=T2 jQ
theorem ZS:Mz enc Tryz.prog w S 9 1 fun xs d=>∃s:ByteArray,xs=[str s]/\d=.lit (.string s.data.toList):=T3 pz
theorem Rk:Mz enc Tryz.prog w S 93 4 fun xs _=>∃r:aB,xs=rc r:=fun n cs x h=>by
 obtain⟨xs,l1,l2,I,ds,e,D,q⟩:=oy (S:=S) (Qs:=fun _ xs d=>∃n:Int,xs=[i64 n]/\d=.lit (.int .i64 n)) Tryz.underlying93 (xc (by kernel_rfl)) (by kernel_rfl) (fun i f z=>by
  match i,z with
  | 0,z=>cases z;exact ID
  | 1,z=>cases z;exact ID
  | 2,z=>cases z;exact ID
  | 3,z=>cases z;exact ID
  | n+4,z=>cases z) _ _ _ h
 have l1:xs.length=4:=l1;have D:ds.length=4:=D;obtain⟨a,b,c,d,rfl⟩:∃a b c d,xs=[a,b,c,d]:=by
  match xs,l1 with
  | [a,b,c,d],_=>exact⟨a,b,c,d,rfl⟩
 obtain⟨a',b',c',d',rfl⟩:∃a b c d,ds=[a,b,c,d]:=by
  match ds,D with
  | [a,b,c,d],_=>exact⟨a,b,c,d,rfl⟩
 obtain⟨J,N,_⟩:=q 0 _ _ rfl rfl;obtain⟨O,R,_⟩:=q 1 _ _ rfl rfl;obtain⟨U,V,_⟩:=q 2 _ _ rfl rfl;obtain⟨W,Y,_⟩:=q 3 _ _ rfl rfl;cases N;cases R;cases V;cases Y;exact⟨_,rfl,l2,I,⟨J,O,U,W⟩,rfl⟩
abbrev Sp(enc:TypeId×Value->H)(w:World)(S:Nat->Prop)(t:TypeId)(k:Nat){γ:Type}(f:γ->List PV)(B:γ->Nat->Prop):Prop:=Mz enc Tryz.prog w S t k fun xs d=>∃r,xs=f r/\B r (Rows.uptoBulk d)
theorem An:Sp enc w S 3 1 (fun n=>[i64 n]) fun _ _=>True:=fun n cs x h=>by
 obtain⟨xs,l1,l2,D,z,e,_⟩:=ID (S:=S) n cs x h;exact⟨xs,l1,l2,D,z,e,trivial⟩
theorem Xc:Sp enc w S 9 1 (fun s=>[str s]) fun s n=>s.size<=n:=fun n cs x h=>by
 obtain⟨xs,l1,l2,D,z,e,d⟩:=ZS (S:=S) n cs x h;refine⟨xs,l1,l2,D,z,e,?_⟩;rw[d,IC];have:z.data.toList.length=z.size:=by simp
 omega
theorem Gk{α γ:Type}{f:γ->α}{B:γ->Nat->Prop}(z:∀r m n,m<=n->B r m->B r n):∀{es:List α} {ds:List (DataW H)},es.length=ds.length->(∀(i:Nat) x y,es[i]?=some x->ds[i]?=some y->∃r,x=f r/\B r (Rows.uptoBulk y))->∃l:List γ,es=l.map f/\l.length<=Rows.uptoBulkAll ds/\∀r∈l,B r (Rows.uptoBulkAll ds)
 | [],_,_,_=>⟨[],rfl,ak _,fun r h=>by cases h⟩
 | x::es,[],hl,_=>by cases hl
 | x::es,y::ds,hl,h=>by
  obtain⟨r,rfl,J⟩:=h 0 x y rfl rfl;obtain⟨l,rfl,I,D⟩:=Gk z (es:=es) (ds:=ds) (by simpa using hl) (fun i a b I D=>h (i+1) a b (by simpa using I) (by simpa using D));have e:Rows.uptoBulkAll (y::ds)=Rows.uptoBulk y+Rows.uptoBulkAll ds:=by simp only[Rows.uptoBulkAll]
  have b1:=Rj y;refine⟨r::l,rfl,by rw[bN];omega,fun q N=>?_⟩;rcases aq.1 N with h | h
  ·subst h;exact z _ _ _ (by omega) J
  exact z _ _ _ (by omega) (D q h)
theorem sV{t e:TypeId}{k:Nat}{γ:Type}{f:γ->List PV}{B:γ->Nat->Prop}(I:Tryz.prog.underlying t=some (.slice e))(J:Tryz.prog.cellsOf e=k)(hk:0<k)(hS:∀b,b<w.heap.size->S b)(z:∀r m n,m<=n->B r m->B r n)(N:Sp enc w S e k f B):
  Sp enc w S t 1 (fun l:List γ=>[.sl (l.map f)]) fun l n=>l.length<=n/\∀r∈l,B r n:=fun n cs x h=>by
 obtain⟨xs,l1,l2,O,es,ds,sp,rfl,hl,R,q⟩:=Ou I J hk hS N _ _ _ h;obtain⟨l,rfl,b1,U⟩:=Gk z hl q;have hb:Rows.uptoBulkAll ds<=Rows.uptoBulk x.1:=by
  rcases R with⟨D,V⟩ | D
  ·rw[V];exact ak _
  rw[D];simp only[Rows.uptoBulk];omega
 exact⟨_,l1,l2,O,l,rfl,by omega,fun r W=>z _ _ _ hb (U r W)⟩
theorem bE{ds:List (DataW H)}{i:Nat}{y:DataW H}(h:ds[i]?=some y):Rows.uptoBulk y<=Rows.uptoBulk (.agg ds):=by
 have:=EB (aj h);simp only[Rows.uptoBulk];omega
theorem MF:Sp enc w S 93 4 rc fun _ _=>True:=fun n cs x h=>by
 obtain⟨xs,l1,l2,z,r,e⟩:=Rk (S:=S) n cs x h;exact⟨xs,l1,l2,z,r,e,trivial⟩
theorem Rl(hS:∀b,b<w.heap.size->S b):Sp enc w S 52 1 (fun l=>[aE l]) fun l n=>l.length<=n/\∀r∈l,True:=sV (k:=4) Tryz.underlying52 (by kernel_rfl) (by decide) hS (fun _ _ _ _ h=>h) MF
theorem Ua(hS:∀b,b<w.heap.size->S b):Sp enc w S 136 1 (fun l=>[strs l]) fun l n=>l.length<=n/\∀s∈l,s.size<=n:=sV (k:=1) FZ (by kernel_rfl) (by decide) hS (fun _ _ _ z D=>aS D z) Xc
theorem Ub(hS:∀b,b<w.heap.size->S b):Sp enc w S 171 3 arr fun _ _=>True:=fun n cs x h=>by
 obtain⟨xs,l1,l2,J,ds,e,I,q⟩:=oy (S:=S) (Qs:=fun i xs d=>match i with
   | 1=>∃r,xs=[aE r]/\(r.length<=Rows.uptoBulk d/\∀z∈r,True)
   | _=>∃r,xs=[i64 r]/\True) Tryz.underlying171 (xc (by kernel_rfl)) (by kernel_rfl) (fun i f D=>by
  match i,D with
  | 0,D=>cases D;exact An
  | 1,D=>cases D;exact Rl hS
  | 2,D=>cases D;exact An
  | n+3,D=>cases D) _ _ _ h
 have l1:xs.length=3:=l1;have I:ds.length=3:=I;obtain⟨a,b,c,rfl⟩:∃a b c,xs=[a,b,c]:=by
  match xs,l1 with
  | [a,b,c],_=>exact⟨a,b,c,rfl⟩
 obtain⟨a',b',c',rfl⟩:∃a b c,ds=[a,b,c]:=by
  match ds,I with
  | [a,b,c],_=>exact⟨a,b,c,rfl⟩
 obtain⟨N,O,_⟩:=q 0 _ _ rfl rfl;obtain⟨R,U,_⟩:=q 1 _ _ rfl rfl;obtain⟨V,W,_⟩:=q 2 _ _ rfl rfl;cases O;cases U;cases W;exact⟨_,rfl,l2,J,⟨N,R,V⟩,Z,Y⟩
def xm(c:Class)(n:Nat):Prop:=c.name.size<=n/\c.nets.length<=n/\∀s∈c.nets,s.size<=n
theorem rC(c:Class)(m n:Nat)(h:m<=n):xm c m->xm c n:=fun ⟨h1,h2,z⟩=>⟨by omega,by omega,fun s D=>aS (z s D) h⟩
theorem Rm(hS:∀b,b<w.heap.size->S b):Sp enc w S 235 4 kl xm:=fun n cs x h=>by
 obtain⟨xs,l1,l2,V,ds,e,D,q⟩:=oy (S:=S) (Qs:=fun i xs d=>match i with
   | 0=>∃r,xs=[str r]/\r.size<=Rows.uptoBulk d
   | 1=>∃r,xs=[strs r]/\(r.length<=Rows.uptoBulk d/\∀s∈r,s.size<=Rows.uptoBulk d)
   | _=>∃r,xs=[i64 r]/\True) Tryz.underlying235 (xc (by kernel_rfl)) (by kernel_rfl) (fun i f z=>by
  match i,z with
  | 0,z=>cases z;exact Xc
  | 1,z=>cases z;exact Ua hS
  | 2,z=>cases z;exact An
  | 3,z=>cases z;exact An
  | n+4,z=>cases z) _ _ _ h
 have l1:xs.length=4:=l1;have D:ds.length=4:=D;obtain⟨a,b,c,d,rfl⟩:∃a b c d,xs=[a,b,c,d]:=by
  match xs,l1 with
  | [a,b,c,d],_=>exact⟨a,b,c,d,rfl⟩
 obtain⟨J,N,O,R,rfl⟩:∃a b c d,ds=[a,b,c,d]:=by
  match ds,D with
  | [a,b,c,d],_=>exact⟨a,b,c,d,rfl⟩
 obtain⟨W,Y,p0⟩:=q 0 _ _ rfl rfl;obtain⟨Z,e1,p1,p2⟩:=q 1 _ _ rfl rfl;obtain⟨n2,e2,_⟩:=q 2 _ _ rfl rfl;obtain⟨n3,e3,_⟩:=q 3 _ _ rfl rfl;cases Y;cases e1;cases e2;cases e3;have U:=bE (ds:=[J,N,O,R]) (i:=0) rfl;have I:=bE (ds:=[J,N,O,R]) (i:=1) rfl;rw[<-e]at U I;exact⟨_,rfl,l2,V,⟨W,Z,n2,n3⟩,rfl,by exact aS p0 U,by exact aS p1 I,fun s hs=>aS (p2 s hs) I⟩
def A6(r:u6)(n:Nat):Prop:=r.classes.length<=n/\r.areas.length<=n/\∀c∈r.classes,xm c n
theorem Rn(hS:∀b,b<w.heap.size->S b):Sp enc w S 41 7 rl A6:=fun n cs x h=>by
 obtain⟨xs,l1,l2,W,ds,e,D,q⟩:=oy (S:=S) (Qs:=fun i xs d=>match i with
   | 5=>∃r:List Class,xs=[.sl (r.map kl)]/\(r.length<=Rows.uptoBulk d/\∀c∈r,xm c (Rows.uptoBulk d))
   | 6=>∃r:List Gj,xs=[.sl (r.map arr)]/\(r.length<=Rows.uptoBulk d/\∀c∈r,True)
   | _=>∃r,xs=[i64 r]/\True) Tryz.underlying41 (xc (by kernel_rfl)) (by kernel_rfl) (fun i f z=>by
  match i,z with
  | 0,z=>cases z;exact An
  | 1,z=>cases z;exact An
  | 2,z=>cases z;exact An
  | 3,z=>cases z;exact An
  | 4,z=>cases z;exact An
  | 5,z=>cases z;exact sV (k:=4) Tryz.underlying38 (by kernel_rfl) (by decide) hS rC (Rm hS)
  | 6,z=>cases z;exact sV (k:=3) Tryz.underlying39 (by kernel_rfl) (by decide) hS (fun _ _ _ _ h=>h) (Ub hS)
  | n+7,z=>cases z) _ _ _ h
 have l1:xs.length=7:=l1;have D:ds.length=7:=D;obtain⟨x0,x1,x2,x3,x4,x5,x6,rfl⟩:∃a b c d e f g,xs=[a,b,c,d,e,f,g]:=by
  match xs,l1 with
  | [a,b,c,d,e,f,g],_=>exact⟨a,b,c,d,e,f,g,rfl⟩
 obtain⟨y0,y1,J,N,O,R,U,rfl⟩:∃a b c d e f g,ds=[a,b,c,d,e,f,g]:=by
  match ds,D with
  | [a,b,c,d,e,f,g],_=>exact⟨a,b,c,d,e,f,g,rfl⟩
 obtain⟨Y,Z,_⟩:=q 0 _ _ rfl rfl;obtain⟨n1,e1,_⟩:=q 1 _ _ rfl rfl;obtain⟨n2,e2,_⟩:=q 2 _ _ rfl rfl;obtain⟨n3,e3,_⟩:=q 3 _ _ rfl rfl;obtain⟨n4,e4,_⟩:=q 4 _ _ rfl rfl;obtain⟨n5,e5,p1,p2⟩:=q 5 _ _ rfl rfl;obtain⟨n6,e6,p3,_⟩:=q 6 _ _ rfl rfl;cases Z;cases e1;cases e2;cases e3;cases e4;cases e5;cases e6;have I:=bE (ds:=[y0,y1,J,N,O,R,U]) (i:=5) rfl;have V:=bE (ds:=[y0,y1,J,N,O,R,U]) (i:=6) rfl;rw[<-e]at I V;exact⟨_,rfl,l2,W,⟨Y,n1,n2,n3,n4,n5,n6⟩,rfl,by exact aS p1 I,by exact aS p3 V,fun c hc=>rC c _ _ I (p2 c hc)⟩
theorem Ro:Sp enc w S 78 2 (fun p:Int×Int=>[i64 p.1,i64 p.2]) fun _ _=>True:=fun n cs x h=>by
 obtain⟨xs,l1,l2,I,ds,e,D,q⟩:=oy (S:=S) (Qs:=fun i xs d=>∃r,xs=[i64 r]/\True) Tryz.underlying78 (xc (by kernel_rfl)) (by kernel_rfl) (fun i f z=>by
  match i,z with
  | 0,z=>cases z;exact An
  | 1,z=>cases z;exact An
  | n+2,z=>cases z) _ _ _ h
 have l1:xs.length=2:=l1;have D:ds.length=2:=D;obtain⟨a,b,rfl⟩:∃a b,xs=[a,b]:=by
  match xs,l1 with
  | [a,b],_=>exact⟨a,b,rfl⟩
 obtain⟨a',b',rfl⟩:∃a b,ds=[a,b]:=by
  match ds,D with
  | [a,b],_=>exact⟨a,b,rfl⟩
 obtain⟨J,N,_⟩:=q 0 _ _ rfl rfl;obtain⟨O,R,_⟩:=q 1 _ _ rfl rfl;cases N;cases R;exact⟨_,rfl,l2,I,(J,O),Z,Y⟩
theorem Rp{r:u6}(h:A6 r 1048576):xj r:=⟨fun c z=>by
  obtain⟨D,I,J⟩:=h.2.2 c z;exact⟨AL D (by decide),I,fun s N=>AL (J s N) (by decide)⟩,h.1,h.2.1⟩
theorem Gl(r:u6)(m n:Nat)(h:m<=n):A6 r m->A6 r n:=fun ⟨h1,h2,z⟩=>⟨by omega,by omega,fun c D=>rC c _ _ h (z c D)⟩
theorem Uc{d:DataW H}{l:List (DataW H)}(hk:Rows.uptoSmall H l=true)(h:d∈l):Rows.uptoBulk d<=1048576:=aS (EB h) (KX hk)
theorem EC{P:Program}(hl:laidOutB P=true){W I:World}(hb:Below W.heap.size W I):∀{D:List TypeId} {vs:List Value} {ds:List (DataW H)} {ps:List MemPlace},(D.all fun t=>P.readableRec t&&decide (t<P.types.size))=true->DataW.TrodAll enc P W 0 (fun _=>true) true D vs ds ps->(∀p∈ps,p.block<W.heap.size)->∀sp:Nat->Bool,(∀p∈ps,sp p.block=true)->DataW.TrodAll enc P I 0 sp true D vs ds ps
 | [],[],[],_,_,h,_,_,_=>h
 | t::D,v::vs,d::ds,ps,ht,h,J,sp,N=>by
  obtain⟨p,q,O,R,rfl⟩:=h;simp only[vZ,aJ,db]at ht;have U:(D.all fun t=>P.readableRec t&&decide (t<P.types.size))=true:=by simpa using ht.2
  exact⟨p,q,Go.WideElems.Trod_stays hl ht.1.1 ht.1.2 O (fun x z=>hb.same (J x (ir _ z))) (fun x z=>N x (ir _ z)),
   EC hl hb U R (fun x z=>J x (qY _ z)) sp (fun x z=>N x (qY _ z)),rfl⟩
 | [],_::_,_,_,_,h,_,_,_=>h.elim
 | [],[],_::_,_,_,h,_,_,_=>h.elim
 | _::_,[],_,_,_,h,_,_,_=>h.elim
 | _::_,_::_,[],_,_,h,_,_,_=>h.elim
theorem IE {W : World} (h1 : ∃ m : Int, W.cell? ⟨1, 0, none⟩ = some (.int .i64 m)) (h2 : Lib.TabIs Tryz.prog W "internal/strconv.uint64pow10" .u64 Lib.pow10Tab) : Env (fun b => b < W.heap.size) W := by
 refine⟨?_,block_lt_of_cell (h2.cell W4 0 (by decide)),h1,h2⟩;obtain⟨m,hm⟩:=h1;exact block_lt_of_cell hm
theorem ZT:laidOutB Tryz.prog=true:=by kernel_rfl
theorem Xd{s:ByteArray}(h:s.size<=1048576):bK s:=AL h (by decide)
end M
namespace M
open Go.AM Go.RowKit Go.Lib
open Reg (aB cw aR)
def gT(n lo hi:Int):Bool:=decide (lo<=n)&&decide (n<=hi)
theorem cd{n lo hi:Int}:gT n lo hi=true↔lo<=n/\n<=hi:=by simp[gT]
theorem Ud{n lo hi:Int}:gT n lo hi=false↔¬(lo<=n/\n<=hi):=by
 rw[<-cd,xl]
theorem jc(n lo hi:Int):ai C 8 [.pv (i64 n),.pv (i64 lo),.pv (i64 hi)] (.p (bool (gT n lo hi))) []:=by
 refine fW hC Tryz.func8 rfl (by kernel_rfl) fun _=>?_;apply iW<;>intro h<;>(refine⟨?_,trivial⟩)<;>simp[bool,gT,h]
theorem rD(n lo hi:Int):ai C 103 [.pv (i64 n),.pv (i64 lo),.pv (i64 hi)] (.p (bool (gT n lo hi))) []:=by
 refine fW hC Tryz.func103 rfl (by kernel_rfl) fun _=>?_;apply iW<;>intro h<;>(refine⟨?_,trivial⟩)<;>simp[bool,gT,h]
theorem dU(n lo hi:Int):ai C 52 [.pv (i64 n),.pv (i64 lo),.pv (i64 hi)] (.p (bool (gT n lo hi))) []:=by
 refine fW hC Tryz.func52 rfl (by kernel_rfl) fun _=>?_;apply iW<;>intro h<;>(refine⟨?_,trivial⟩)<;>simp[bool,gT,h]
theorem nB(n lo hi:Int):ai C 58 [.pv (i64 n),.pv (i64 lo),.pv (i64 hi)] (.p (bool (gT n lo hi))) []:=by
 refine fW hC Tryz.func58 rfl (by kernel_rfl) fun _=>?_;apply iW<;>intro h<;>(refine⟨?_,trivial⟩)<;>simp[bool,gT,h]
def Ue(b:UInt8):Bool:=(decide ((97:Int)<=b.toNat)&&decide ((b.toNat:Int)<=122))||(decide ((65:Int)<=b.toNat)&&decide ((b.toNat:Int)<=90))
def Uf(b:UInt8):Bool:=decide ((b.toNat:Int)=95)||decide ((b.toNat:Int)=45)||(decide ((48:Int)<=b.toNat)&&decide ((b.toNat:Int)<=57))
def IF(s:ByteArray)(i:Nat):Bool:=match s.data.toList[i]? with
 | some b=>Ue b||(decide (0<i)&&Uf b)
 | none=>true
def Ao(f:Nat->Bool):Nat->Bool
 | 0=>true
 | n+1=>Ao f n&&f n
theorem xn{f:Nat->Bool}{i:Nat}(h:f i=false):∀{n:Nat},i<n->Ao f n=false
 | 0,hn=>by omega
 | n+1,hn=>by
  rw[Ao];by_cases e:i=n
  ·subst e;rw[h,dG]
  rw[xn h (by omega:i<n),uh]
def IG(s:ByteArray):Bool:=Ao (IF s) s.size&&gT s.size 1 40
theorem IH(s:ByteArray)(hs:s.size<=9223372036854775807):ai C 107 [.pv (str s)] (.p (bool (IG s))) []:=by
 refine fW hC Tryz.func107 rfl (by kernel_rfl) fun _=>?_;refine aP (fun i:Nat=>i<=s.size/\Ao (IF s) i=true) (fun i=>[(0,.p (str s)),(7,.p (i64 s.size)),(8,.p (i64 i))]) (fun _=>[]) (fun i=>s.size-i) 0 _ (aA.refl _ _) ⟨ak _,rfl⟩ ⟨Z,Z,Z,Y⟩ trivial fun i hi t h=>?_;apply iW<;>intro h1
 ·obtain⟨b,hb,D⟩:=Ij (s:=s) (i:=i) (by omega);have I:IF s i=(Ue b||(decide (0<i)&&Uf b)):=by rw[IF,D]
  have J:IF s i=false->IG s=false:=fun h=>by rw[IG,xn h (by omega),uh]
  have z:IF s i=true->Ao (IF s) (i+1)=true:=fun h=>by rw[Ao,hi.2,h];rfl
  refine⟨b,⟨by omega,by rw[F0];exact hb⟩,?_⟩
  repeat' apply iW<;>intro h
  all_goals skip
  all_goals first
   | (
     refine⟨wO (by omega),?_⟩;refine⟨(i+1),_,aA.refl _ _,?_⟩;exact⟨⟨by omega,z (by rw[I];simp only[Ue,Uf,gF,aJ,db];omega)⟩,by omega,⟨Z,Z,Z,Y⟩,trivial⟩)
   | (
     refine⟨?_,trivial⟩;rw[J (by rw[I];simp only[Ue,Uf,o_,nt,nu];omega)];rfl)
 have N:i=s.size:=by omega
 have O:Ao (IF s) s.size=true:=by rw[<-N];exact hi.2
 apply iW<;>intro R<;>(refine⟨?_,trivial⟩)<;>simp[bool,IG,gT,O,R]
structure eV where
 name:ByteArray
 kind:Int
 group:Int
structure bG where
 name:ByteArray
 pins:List eV
structure Part where
 name:ByteArray
 type:ByteArray
structure sy where
 part:ByteArray
 pin:ByteArray
deriving DecidableEq
structure fy where
 name:ByteArray
 kind:Int
 thick:Int
 grow:Int
structure Body where
 name:ByteArray
 w:Int
 h:Int
 tall:Int
 nozzle:ByteArray
def uj(p:eV):List PV:=[str p.name,i64 p.kind,i64 p.group]
def vU(t:bG):List PV:=[str t.name,.sl (t.pins.map uj)]
def yV(p:Part):List PV:=[str p.name,str p.type]
def Gm(p:sy):List PV:=[str p.part,str p.pin]
def vV(m:fy):List PV:=[str m.name,i64 m.kind,i64 m.thick,i64 m.grow]
def DO(b:Body):List PV:=[str b.name,i64 b.w,i64 b.h,i64 b.tall,str b.nozzle]
theorem xo:∀a b:List UInt8,(Lib.compareBytes a b<0↔a<b)/\(Lib.compareBytes a b=0↔a=b)
 | [],[]=>by simp[Lib.compareBytes]
 | [],_::_=>by simp[Lib.compareBytes]
 | _::_,[]=>by simp[Lib.compareBytes]
 | x::a,y::b=>by
  have ih:=xo a b;unfold Lib.compareBytes;rw[List.cons_lt_cons_iff,List.cons.injEq];by_cases e:x=y
  ·subst e;have z:¬x<x:=UInt8.lt_irrefl x;simp[z,ih.1,ih.2]
  rcases UInt8.lt_or_lt_of_ne e with h | h
  ·simp[e,h]
  have D:¬x<y:=UInt8.not_lt.2 (UInt8.le_of_lt h);simp[e,h,D]
theorem sW(a b:ByteArray):decide (Lib.compareBytes a.data.toList b.data.toList<0)=eG a b:=by
 rw[fV,rB,decide_eq_true_iff];exact (xo _ _).1
theorem cmp_eq(a b:ByteArray):Lib.compareBytes a.data.toList b.data.toList=0↔a=b:=by
 rw[(xo _ _).2];refine⟨fun h=>?_,fun h=>by rw[h]⟩;obtain⟨⟨x⟩⟩:=a;obtain⟨⟨y⟩⟩:=b;simpa using h
theorem gA(a b:ByteArray):ai C 71 [.pv (str a),.pv (str b)] (.p (i64 (Lib.compareBytes a.data.toList b.data.toList))) []:=
 tO [.string a,.string b] _ ⟨_,Tryz.func71,rfl,rfl⟩ fun S w _ _=>(Tryz.strings_Compare a b w).mono fun e w' h=>⟨h.1,by rw[h.2];exact Below.refl _ _⟩
def MG(f:FuncId):PV:=.im (.func (.func f) #[] #[])
def pU{α:Type}(f:α->ByteArray)(l:List α)(x:ByteArray):Nat:=(l.filter fun y=>eG (f y) x).length
def dX{α:Type}(f:α->ByteArray)(l:List α)(x:ByteArray):Bool:=l.any fun y=>decide (f y=x)
def jE{α:Type}(f:α->ByteArray)(l:List α)(x:ByteArray):Int:=eM (fun y=>decide (f y=x)) l 0
def cM{α:Type}(f:α->ByteArray)(l:List α):Prop:=l.Pairwise fun a b=>eG (f a) (f b)=true
variable {α:Type}
theorem cx{f:α->ByteArray}{l:List α}(h:cM f l){i j:Nat}{a b:α}(z:l[i]?=some a)(hb:l[j]?=some b)(D:i<j):eG (f a) (f b)=true:=by
 obtain⟨hi,rfl⟩:=az.1 z;obtain⟨I,rfl⟩:=az.1 hb;exact cS.1 h i j hi I D
theorem lJ{f:α->ByteArray}{l:List α}{x:ByteArray}{i:Nat}(hi:i<=l.length)(D:∀(k:Nat) y,k<i->l[k]?=some y->eG (f y) x=true)(I:∀(k:Nat) y,i<=k->l[k]?=some y->eG (f y) x=false):pU f l x=i:=by
 unfold pU;rw[<-o6 i l,l_,bJ];have J:(l.take i).filter (fun y=>eG (f y) x)=l.take i:=List.filter_eq_self.2 fun y z=>by
  obtain⟨k,hk⟩:=ca.1 z;rw[dM]at hk;split at hk
  ·exact D k y (by assumption) hk
  cases hk
 have N:(l.drop i).filter (fun y=>eG (f y) x)=[]:=List.filter_eq_nil_iff.2 fun y z=>by
  obtain⟨k,hk⟩:=ca.1 z;rw[gB]at hk;rw[I (i+k) y (by omega) hk];decide
 rw[J,N,cE];simp;omega
theorem dB{f:α->ByteArray}{l:List α}{x:ByteArray}:dX f l x=true↔∃y∈l,f y=x:=by simp[dX]
theorem kQ{a b:ByteArray}(h:a=b):eG a b=false:=by rw[h,iH]
theorem uk{f:α->ByteArray}{l:List α}{x:ByteArray}{y:α}{a:Nat}(J:cM f l)(N:∀(k:Nat) z,k<a->l[k]?=some z->eG (f z) x=true)(I:l[a]?=some y)(O:eG (f y) x=false)(R:¬f y=x):dX f l x=false:=by
 rw[cu];intro U;obtain⟨z,V,D⟩:=dB.1 U;obtain⟨k,hk⟩:=ca.1 V;rcases il k a with h | h | h
 ·have:=N k z h hk;rw[kQ D]at this;cases this
 ·subst h;rw[I]at hk;injection hk with hk;exact R (by rw[hk];exact D)
 have:=cx J I hk h;rw[D,O]at this;cases this
theorem kd{f:α->ByteArray}{l:List α}{x:ByteArray}(N:cM f l):jE f l x=if dX f l x=true then (pU f l x:Int) else -1:=by
 split
 ·rename_i h;obtain⟨y,O,J⟩:=dB.1 h;obtain⟨k,hk⟩:=ca.1 O;have KR:=(az.1 hk).1;have b:pU f l x=k:=lJ (by omega) (fun j z I D=>by rw[<-J];exact cx N D hk I) (fun j z I D=>by
   by_cases e:j=k
   ·subst e;rw[hk]at D;injection D with D;rw[<-D];exact kQ J
   rw[cu];intro R;have:=dK (cx N hk D (by omega)) R;rw[kQ J]at this;cases this)
  rw[b,jE,eU (p:=fun y=>decide (f y=x)) hk (by simp[J]) (fun z D=>?_)]
  ·omega
  obtain⟨j,I⟩:=ca.1 D;rw[dM]at I;split at I
  ·have:=cx N I hk (by assumption);simp only[nu];intro e;rw[e,J,iH]at this;cases this
  cases I
 rename_i h;exact cT fun z D=>by
  simp only[nu];exact fun e=>h (dB.2 ⟨z,D,e⟩)
theorem xp{f:α->ByteArray}{l:List α}{x:ByteArray}(h:0<=jE f l x):∃(k:Nat) (y:α),jE f l x=k/\l[k]?=some y/\f y=x:=by
 have key:∀(l:List α) (n:Nat),eM (fun y=>decide (f y=x)) l n=-1\/∃(k:Nat) (y:α),eM (fun y=>decide (f y=x)) l n=((n+k:Nat):Int)/\l[k]?=some y/\f y=x:=by
  intro l
  induction l with
  | nil=>exact fun n=>.inl rfl
  | cons a l ih=>
   intro n;rw[eM];cases h:decide (f a=x) with
   | true=>exact .inr ⟨0,a,rfl,rfl,by simpa using h⟩
   | false=>
    rcases ih (n+1) with e | ⟨k,y,z,D,I⟩
    ·exact .inl e
    exact .inr ⟨k+1,y,by simp only;rw[z];congr 1;omega,by simpa using D,I⟩
 rcases key l 0 with e | ⟨k,y,z,D,I⟩
 ·rw[jE,e]at h;omega
 exact⟨k,y,by rw[jE,z,bp],D,I⟩
theorem oz{f:α->ByteArray}{l:List α}{x:ByteArray}:decide (jE f l x<0)=!dX f l x:=by
 cases h:dX f l x with
 | true=>
  obtain⟨y,hy,S8⟩:=dB.1 h;simp only[lY,nu];intro D;have e:(l.any fun y=>decide (f y=x))=true:=h;rw[<-eZ _ l 0]at e;have e2:eM (fun y=>decide (f y=x)) l 0<0:=D;simp at e;omega
 | false=>
  simp only[Bool.not_false,db];rw[jE,cT fun z I=>by
   simp only[nu];exact fun e=>by rw[dB.2 ⟨z,I,e⟩]at h;cases h]
  decide
theorem MH(p:bG)(s:ByteArray):ai C 114 [.pv (.ag (vU p)),.pv (str s)] (.p (i64 (Lib.compareBytes p.name.data.toList s.data.toList))) []:=by
 refine fW hC Tryz.func114 rfl (by kernel_rfl) fun _=>?_;refine⟨_,_,(gA p.name s),?_,trivial⟩;rfl
theorem KZ(l:List bG)(x:ByteArray)(V:cM bG.name l)(hN:l.length<=1000000000):ai C 113 [.pv (.sl (l.map vU)),.pv (str x),.pv (MG 114)] (.tu [i64 (pU bG.name l x),bool (dX bG.name l x)]) []:=by
 refine fW hC Tryz.func113 rfl (by kernel_rfl) fun _=>?_;have lm:=an l vU;refine aP (fun p:Nat×Nat=>p.1<=p.2/\p.2<=l.length/\(∀(k:Nat) y,k<p.1->l[k]?=some y->eG (bG.name y) x=true)/\(∀(k:Nat) y,p.2<=k->l[k]?=some y->eG (bG.name y) x=false)) (fun p=>[(0,.p (.sl (l.map vU))),(1,.p (str x)),(2,.p (MG 114)),(8,.p (i64 l.length)),(9,.p (i64 p.1)),(10,.p (i64 p.2))]) (fun _=>[]) (fun p=>p.2-p.1) (0,l.length) _ (aA.refl _ _) ⟨ak _,aG _,fun k y h=>by omega,fun k y W D=>by have:=(az.1 D).1;simp only at W;omega⟩ ⟨rfl,rfl,rfl,bI (by rw[lm]),rfl,bI (by rw[lm]),trivial⟩ trivial fun ⟨a,b⟩ hi t h=>?_;obtain⟨q1,q2,O,U⟩:=hi;simp only at q1 q2 O U;apply iW<;>intro W<;>try simp only[zB]at W
 ·have N:=qp (a:=a) (b:=b) (by omega);obtain⟨y,J⟩:=ao (l:=l) (i:=(a+b) / 2) (by omega);refine⟨⟨by simp only;omega,by simp only;omega⟩,⟨by decide,by decide⟩,⟨by simp only;rw[N];omega,by simp only;rw[N];omega⟩,(vU y),(idx N J),_,_,(MH y x),?_⟩;have hc:=sW y.name x;apply iW<;>intro D
  ·have D:eG (bG.name y) x=true:=by rw[<-hc];exact jS D
   refine⟨⟨by simp only;rw[N];omega,by simp only;rw[N];omega⟩,((a+b) / 2+1,b),_,aA.refl _ _,⟨by simp only;omega,q2,fun k z hk I=>?_,U⟩,by simp only;omega,⟨rfl,rfl,rfl,rfl,bI (by simp only;rw[N];omega),Z,Y⟩,trivial⟩;by_cases e:k=(a+b) / 2
   ·subst e;rw[J]at I;injection I with I;subst I;exact D
   exact dK (cx V I J (by simp only at hk;omega)) D
  have D:eG (bG.name y) x=false:=by rw[<-hc];exact aY D
  refine⟨(a,(a+b) / 2),_,aA.refl _ _,⟨by simp only;omega,by simp only;omega,O,fun k z hk I=>?_⟩,by simp only;omega,⟨rfl,rfl,rfl,rfl,rfl,bI N,trivial⟩,trivial⟩;by_cases e:k=(a+b) / 2
  ·subst e;rw[J]at I;injection I with I;subst I;exact D
  rw[cu];intro eX;rw[dK (cx V J I (by simp only at hk;omega)) eX]at D;cases D
 have e:a=b:=by omega
 subst e;have hb:=lJ q2 O U;apply iW<;>intro D<;>try simp only[zB]at D
 ·obtain⟨y,J⟩:=ao (l:=l) (i:=a) (by omega);refine⟨(vU y),(idx rfl J),_,_,(MH y x),?_,trivial⟩;have hq:=cmp_eq y.name x;have R:dX bG.name l x=decide (Lib.compareBytes y.name.data.toList x.data.toList=0):=by
   by_cases e:y.name=x
   ·rw[jS (hq.2 e)];exact dB.2 ⟨y,aj J,e⟩
   rw[aY (fun h=>e (hq.1 h))];exact uk V O J (U a y (aG _) J) e
  rw[hb,R];rfl
 refine⟨?_,trivial⟩;have R:dX bG.name l x=false:=by
  rw[cu];intro R;obtain⟨z,I,KY⟩:=dB.1 R;obtain⟨k,hk⟩:=ca.1 I;have:=O k z (by have:=(az.1 hk).1;omega) hk;rw[kQ KY]at this;cases this
 rw[hb,R];rfl
theorem MI(p:eV)(s:ByteArray):ai C 116 [.pv (.ag (uj p)),.pv (str s)] (.p (i64 (Lib.compareBytes p.name.data.toList s.data.toList))) []:=by
 refine fW hC Tryz.func116 rfl (by kernel_rfl) fun _=>?_;refine⟨_,_,(gA p.name s),?_,trivial⟩;rfl
theorem K1(l:List eV)(x:ByteArray)(V:cM eV.name l)(hN:l.length<=1000000000):ai C 115 [.pv (.sl (l.map uj)),.pv (str x),.pv (MG 116)] (.tu [i64 (pU eV.name l x),bool (dX eV.name l x)]) []:=by
 refine fW hC Tryz.func115 rfl (by kernel_rfl) fun _=>?_;have lm:=an l uj;refine aP (fun p:Nat×Nat=>p.1<=p.2/\p.2<=l.length/\(∀(k:Nat) y,k<p.1->l[k]?=some y->eG (eV.name y) x=true)/\(∀(k:Nat) y,p.2<=k->l[k]?=some y->eG (eV.name y) x=false)) (fun p=>[(0,.p (.sl (l.map uj))),(1,.p (str x)),(2,.p (MG 116)),(8,.p (i64 l.length)),(9,.p (i64 p.1)),(10,.p (i64 p.2))]) (fun _=>[]) (fun p=>p.2-p.1) (0,l.length) _ (aA.refl _ _) ⟨ak _,aG _,fun k y h=>by omega,fun k y W D=>by have:=(az.1 D).1;simp only at W;omega⟩ ⟨rfl,rfl,rfl,bI (by rw[lm]),rfl,bI (by rw[lm]),trivial⟩ trivial fun ⟨a,b⟩ hi t h=>?_;obtain⟨q1,q2,O,U⟩:=hi;simp only at q1 q2 O U;apply iW<;>intro W<;>try simp only[zB]at W
 ·have N:=qp (a:=a) (b:=b) (by omega);obtain⟨y,J⟩:=ao (l:=l) (i:=(a+b) / 2) (by omega);refine⟨⟨by simp only;omega,by simp only;omega⟩,⟨by decide,by decide⟩,⟨by simp only;rw[N];omega,by simp only;rw[N];omega⟩,(uj y),(idx N J),_,_,(MI y x),?_⟩;have hc:=sW y.name x;apply iW<;>intro D
  ·have D:eG (eV.name y) x=true:=by rw[<-hc];exact jS D
   refine⟨⟨by simp only;rw[N];omega,by simp only;rw[N];omega⟩,((a+b) / 2+1,b),_,aA.refl _ _,⟨by simp only;omega,q2,fun k z hk I=>?_,U⟩,by simp only;omega,⟨rfl,rfl,rfl,rfl,bI (by simp only;rw[N];omega),Z,Y⟩,trivial⟩;by_cases e:k=(a+b) / 2
   ·subst e;rw[J]at I;injection I with I;subst I;exact D
   exact dK (cx V I J (by simp only at hk;omega)) D
  have D:eG (eV.name y) x=false:=by rw[<-hc];exact aY D
  refine⟨(a,(a+b) / 2),_,aA.refl _ _,⟨by simp only;omega,by simp only;omega,O,fun k z hk I=>?_⟩,by simp only;omega,⟨rfl,rfl,rfl,rfl,rfl,bI N,trivial⟩,trivial⟩;by_cases e:k=(a+b) / 2
  ·subst e;rw[J]at I;injection I with I;subst I;exact D
  rw[cu];intro eX;rw[dK (cx V J I (by simp only at hk;omega)) eX]at D;cases D
 have e:a=b:=by omega
 subst e;have hb:=lJ q2 O U;apply iW<;>intro D<;>try simp only[zB]at D
 ·obtain⟨y,J⟩:=ao (l:=l) (i:=a) (by omega);refine⟨(uj y),(idx rfl J),_,_,(MI y x),?_,trivial⟩;have hq:=cmp_eq y.name x;have R:dX eV.name l x=decide (Lib.compareBytes y.name.data.toList x.data.toList=0):=by
   by_cases e:y.name=x
   ·rw[jS (hq.2 e)];exact dB.2 ⟨y,aj J,e⟩
   rw[aY (fun h=>e (hq.1 h))];exact uk V O J (U a y (aG _) J) e
  rw[hb,R];rfl
 refine⟨?_,trivial⟩;have R:dX eV.name l x=false:=by
  rw[cu];intro R;obtain⟨z,I,KY⟩:=dB.1 R;obtain⟨k,hk⟩:=ca.1 I;have:=O k z (by have:=(az.1 hk).1;omega) hk;rw[kQ KY]at this;cases this
 rw[hb,R];rfl
theorem II(p:Part)(s:ByteArray):ai C 158 [.pv (.ag (yV p)),.pv (str s)] (.p (i64 (Lib.compareBytes p.name.data.toList s.data.toList))) []:=by
 refine fW hC Tryz.func158 rfl (by kernel_rfl) fun _=>?_;refine⟨_,_,(gA p.name s),?_,trivial⟩;rfl
theorem IJ(l:List Part)(x:ByteArray)(V:cM Part.name l)(hN:l.length<=1000000000):ai C 69 [.pv (.sl (l.map yV)),.pv (str x),.pv (MG 158)] (.tu [i64 (pU Part.name l x),bool (dX Part.name l x)]) []:=by
 refine fW hC Tryz.func69 rfl (by kernel_rfl) fun _=>?_;have lm:=an l yV;refine aP (fun p:Nat×Nat=>p.1<=p.2/\p.2<=l.length/\(∀(k:Nat) y,k<p.1->l[k]?=some y->eG (Part.name y) x=true)/\(∀(k:Nat) y,p.2<=k->l[k]?=some y->eG (Part.name y) x=false)) (fun p=>[(0,.p (.sl (l.map yV))),(1,.p (str x)),(2,.p (MG 158)),(8,.p (i64 l.length)),(9,.p (i64 p.1)),(10,.p (i64 p.2))]) (fun _=>[]) (fun p=>p.2-p.1) (0,l.length) _ (aA.refl _ _) ⟨ak _,aG _,fun k y h=>by omega,fun k y W D=>by have:=(az.1 D).1;simp only at W;omega⟩ ⟨rfl,rfl,rfl,bI (by rw[lm]),rfl,bI (by rw[lm]),trivial⟩ trivial fun ⟨a,b⟩ hi t h=>?_;obtain⟨q1,q2,O,U⟩:=hi;simp only at q1 q2 O U;apply iW<;>intro W<;>try simp only[zB]at W
 ·have N:=qp (a:=a) (b:=b) (by omega);obtain⟨y,J⟩:=ao (l:=l) (i:=(a+b) / 2) (by omega);refine⟨⟨by simp only;omega,by simp only;omega⟩,⟨by decide,by decide⟩,⟨by simp only;rw[N];omega,by simp only;rw[N];omega⟩,(yV y),(idx N J),_,_,(II y x),?_⟩;have hc:=sW y.name x;apply iW<;>intro D
  ·have D:eG (Part.name y) x=true:=by rw[<-hc];exact jS D
   refine⟨⟨by simp only;rw[N];omega,by simp only;rw[N];omega⟩,((a+b) / 2+1,b),_,aA.refl _ _,⟨by simp only;omega,q2,fun k z hk I=>?_,U⟩,by simp only;omega,⟨rfl,rfl,rfl,rfl,bI (by simp only;rw[N];omega),Z,Y⟩,trivial⟩;by_cases e:k=(a+b) / 2
   ·subst e;rw[J]at I;injection I with I;subst I;exact D
   exact dK (cx V I J (by simp only at hk;omega)) D
  have D:eG (Part.name y) x=false:=by rw[<-hc];exact aY D
  refine⟨(a,(a+b) / 2),_,aA.refl _ _,⟨by simp only;omega,by simp only;omega,O,fun k z hk I=>?_⟩,by simp only;omega,⟨rfl,rfl,rfl,rfl,rfl,bI N,trivial⟩,trivial⟩;by_cases e:k=(a+b) / 2
  ·subst e;rw[J]at I;injection I with I;subst I;exact D
  rw[cu];intro eX;rw[dK (cx V J I (by simp only at hk;omega)) eX]at D;cases D
 have e:a=b:=by omega
 subst e;have hb:=lJ q2 O U;apply iW<;>intro D<;>try simp only[zB]at D
 ·obtain⟨y,J⟩:=ao (l:=l) (i:=a) (by omega);refine⟨(yV y),(idx rfl J),_,_,(II y x),?_,trivial⟩;have hq:=cmp_eq y.name x;have R:dX Part.name l x=decide (Lib.compareBytes y.name.data.toList x.data.toList=0):=by
   by_cases e:y.name=x
   ·rw[jS (hq.2 e)];exact dB.2 ⟨y,aj J,e⟩
   rw[aY (fun h=>e (hq.1 h))];exact uk V O J (U a y (aG _) J) e
  rw[hb,R];rfl
 refine⟨?_,trivial⟩;have R:dX Part.name l x=false:=by
  rw[cu];intro R;obtain⟨z,I,KY⟩:=dB.1 R;obtain⟨k,hk⟩:=ca.1 I;have:=O k z (by have:=(az.1 hk).1;omega) hk;rw[kQ KY]at this;cases this
 rw[hb,R];rfl
theorem MJ(p:fy)(s:ByteArray):ai C 105 [.pv (.ag (vV p)),.pv (str s)] (.p (i64 (Lib.compareBytes p.name.data.toList s.data.toList))) []:=by
 refine fW hC Tryz.func105 rfl (by kernel_rfl) fun _=>?_;refine⟨_,_,(gA p.name s),?_,trivial⟩;rfl
theorem K2(l:List fy)(x:ByteArray)(V:cM fy.name l)(hN:l.length<=1000000000):ai C 104 [.pv (.sl (l.map vV)),.pv (str x),.pv (MG 105)] (.tu [i64 (pU fy.name l x),bool (dX fy.name l x)]) []:=by
 refine fW hC Tryz.func104 rfl (by kernel_rfl) fun _=>?_;have lm:=an l vV;refine aP (fun p:Nat×Nat=>p.1<=p.2/\p.2<=l.length/\(∀(k:Nat) y,k<p.1->l[k]?=some y->eG (fy.name y) x=true)/\(∀(k:Nat) y,p.2<=k->l[k]?=some y->eG (fy.name y) x=false)) (fun p=>[(0,.p (.sl (l.map vV))),(1,.p (str x)),(2,.p (MG 105)),(8,.p (i64 l.length)),(9,.p (i64 p.1)),(10,.p (i64 p.2))]) (fun _=>[]) (fun p=>p.2-p.1) (0,l.length) _ (aA.refl _ _) ⟨ak _,aG _,fun k y h=>by omega,fun k y W D=>by have:=(az.1 D).1;simp only at W;omega⟩ ⟨rfl,rfl,rfl,bI (by rw[lm]),rfl,bI (by rw[lm]),trivial⟩ trivial fun ⟨a,b⟩ hi t h=>?_;obtain⟨q1,q2,O,U⟩:=hi;simp only at q1 q2 O U;apply iW<;>intro W<;>try simp only[zB]at W
 ·have N:=qp (a:=a) (b:=b) (by omega);obtain⟨y,J⟩:=ao (l:=l) (i:=(a+b) / 2) (by omega);refine⟨⟨by simp only;omega,by simp only;omega⟩,⟨by decide,by decide⟩,⟨by simp only;rw[N];omega,by simp only;rw[N];omega⟩,(vV y),(idx N J),_,_,(MJ y x),?_⟩;have hc:=sW y.name x;apply iW<;>intro D
  ·have D:eG (fy.name y) x=true:=by rw[<-hc];exact jS D
   refine⟨⟨by simp only;rw[N];omega,by simp only;rw[N];omega⟩,((a+b) / 2+1,b),_,aA.refl _ _,⟨by simp only;omega,q2,fun k z hk I=>?_,U⟩,by simp only;omega,⟨rfl,rfl,rfl,rfl,bI (by simp only;rw[N];omega),Z,Y⟩,trivial⟩;by_cases e:k=(a+b) / 2
   ·subst e;rw[J]at I;injection I with I;subst I;exact D
   exact dK (cx V I J (by simp only at hk;omega)) D
  have D:eG (fy.name y) x=false:=by rw[<-hc];exact aY D
  refine⟨(a,(a+b) / 2),_,aA.refl _ _,⟨by simp only;omega,by simp only;omega,O,fun k z hk I=>?_⟩,by simp only;omega,⟨rfl,rfl,rfl,rfl,rfl,bI N,trivial⟩,trivial⟩;by_cases e:k=(a+b) / 2
  ·subst e;rw[J]at I;injection I with I;subst I;exact D
  rw[cu];intro eX;rw[dK (cx V J I (by simp only at hk;omega)) eX]at D;cases D
 have e:a=b:=by omega
 subst e;have hb:=lJ q2 O U;apply iW<;>intro D<;>try simp only[zB]at D
 ·obtain⟨y,J⟩:=ao (l:=l) (i:=a) (by omega);refine⟨(vV y),(idx rfl J),_,_,(MJ y x),?_,trivial⟩;have hq:=cmp_eq y.name x;have R:dX fy.name l x=decide (Lib.compareBytes y.name.data.toList x.data.toList=0):=by
   by_cases e:y.name=x
   ·rw[jS (hq.2 e)];exact dB.2 ⟨y,aj J,e⟩
   rw[aY (fun h=>e (hq.1 h))];exact uk V O J (U a y (aG _) J) e
  rw[hb,R];rfl
 refine⟨?_,trivial⟩;have R:dX fy.name l x=false:=by
  rw[cu];intro R;obtain⟨z,I,KY⟩:=dB.1 R;obtain⟨k,hk⟩:=ca.1 I;have:=O k z (by have:=(az.1 hk).1;omega) hk;rw[kQ KY]at this;cases this
 rw[hb,R];rfl
theorem ML(p:Body)(s:ByteArray):ai C 112 [.pv (.ag (DO p)),.pv (str s)] (.p (i64 (Lib.compareBytes p.name.data.toList s.data.toList))) []:=by
 refine fW hC Tryz.func112 rfl (by kernel_rfl) fun _=>?_;refine⟨_,_,(gA p.name s),?_,trivial⟩;rfl
theorem K4(l:List Body)(x:ByteArray)(V:cM Body.name l)(hN:l.length<=1000000000):ai C 111 [.pv (.sl (l.map DO)),.pv (str x),.pv (MG 112)] (.tu [i64 (pU Body.name l x),bool (dX Body.name l x)]) []:=by
 refine fW hC Tryz.func111 rfl (by kernel_rfl) fun _=>?_;have lm:=an l DO;refine aP (fun p:Nat×Nat=>p.1<=p.2/\p.2<=l.length/\(∀(k:Nat) y,k<p.1->l[k]?=some y->eG (Body.name y) x=true)/\(∀(k:Nat) y,p.2<=k->l[k]?=some y->eG (Body.name y) x=false)) (fun p=>[(0,.p (.sl (l.map DO))),(1,.p (str x)),(2,.p (MG 112)),(8,.p (i64 l.length)),(9,.p (i64 p.1)),(10,.p (i64 p.2))]) (fun _=>[]) (fun p=>p.2-p.1) (0,l.length) _ (aA.refl _ _) ⟨ak _,aG _,fun k y h=>by omega,fun k y W D=>by have:=(az.1 D).1;simp only at W;omega⟩ ⟨rfl,rfl,rfl,bI (by rw[lm]),rfl,bI (by rw[lm]),trivial⟩ trivial fun ⟨a,b⟩ hi t h=>?_;obtain⟨q1,q2,O,U⟩:=hi;simp only at q1 q2 O U;apply iW<;>intro W<;>try simp only[zB]at W
 ·have N:=qp (a:=a) (b:=b) (by omega);obtain⟨y,J⟩:=ao (l:=l) (i:=(a+b) / 2) (by omega);refine⟨⟨by simp only;omega,by simp only;omega⟩,⟨by decide,by decide⟩,⟨by simp only;rw[N];omega,by simp only;rw[N];omega⟩,(DO y),(idx N J),_,_,(ML y x),?_⟩;have hc:=sW y.name x;apply iW<;>intro D
  ·have D:eG (Body.name y) x=true:=by rw[<-hc];exact jS D
   refine⟨⟨by simp only;rw[N];omega,by simp only;rw[N];omega⟩,((a+b) / 2+1,b),_,aA.refl _ _,⟨by simp only;omega,q2,fun k z hk I=>?_,U⟩,by simp only;omega,⟨rfl,rfl,rfl,rfl,bI (by simp only;rw[N];omega),Z,Y⟩,trivial⟩;by_cases e:k=(a+b) / 2
   ·subst e;rw[J]at I;injection I with I;subst I;exact D
   exact dK (cx V I J (by simp only at hk;omega)) D
  have D:eG (Body.name y) x=false:=by rw[<-hc];exact aY D
  refine⟨(a,(a+b) / 2),_,aA.refl _ _,⟨by simp only;omega,by simp only;omega,O,fun k z hk I=>?_⟩,by simp only;omega,⟨rfl,rfl,rfl,rfl,rfl,bI N,trivial⟩,trivial⟩;by_cases e:k=(a+b) / 2
  ·subst e;rw[J]at I;injection I with I;subst I;exact D
  rw[cu];intro eX;rw[dK (cx V J I (by simp only at hk;omega)) eX]at D;cases D
 have e:a=b:=by omega
 subst e;have hb:=lJ q2 O U;apply iW<;>intro D<;>try simp only[zB]at D
 ·obtain⟨y,J⟩:=ao (l:=l) (i:=a) (by omega);refine⟨(DO y),(idx rfl J),_,_,(ML y x),?_,trivial⟩;have hq:=cmp_eq y.name x;have R:dX Body.name l x=decide (Lib.compareBytes y.name.data.toList x.data.toList=0):=by
   by_cases e:y.name=x
   ·rw[jS (hq.2 e)];exact dB.2 ⟨y,aj J,e⟩
   rw[aY (fun h=>e (hq.1 h))];exact uk V O J (U a y (aG _) J) e
  rw[hb,R];rfl
 refine⟨?_,trivial⟩;have R:dX Body.name l x=false:=by
  rw[cu];intro R;obtain⟨z,I,KY⟩:=dB.1 R;obtain⟨k,hk⟩:=ca.1 I;have:=O k z (by have:=(az.1 hk).1;omega) hk;rw[kQ KY]at this;cases this
 rw[hb,R];rfl
theorem rE(l:List bG)(x:ByteArray)(z:cM bG.name l)(I:l.length<=1000000000):ai C 59 [.pv (.sl (l.map vU)),.pv (str x)] (.p (i64 (jE bG.name l x))) []:=by
 refine fW hC Tryz.func59 rfl (by kernel_rfl) fun _=>?_;have hp:=kd (x:=x) z;refine⟨_,_,(KZ l x z I),iW ?_ ?_⟩<;>intro D
 ·refine⟨?_,trivial⟩;rw[hp,aa (by simp[D])];rfl
 refine⟨?_,trivial⟩;rw[hp,ae (by simpa using D)]
theorem zS(t:bG)(x:ByteArray)(z:cM eV.name t.pins)(I:t.pins.length<=1000000000):ai C 60 [.pv (.ag (vU t)),.pv (str x)] (.p (i64 (jE eV.name t.pins x))) []:=by
 refine fW hC Tryz.func60 rfl (by kernel_rfl) fun _=>?_;have hp:=kd (x:=x) z;refine⟨_,_,(K1 t.pins x z I),iW ?_ ?_⟩<;>intro D
 ·refine⟨?_,trivial⟩;rw[hp,aa (by simp[D])];rfl
 refine⟨?_,trivial⟩;rw[hp,ae (by simpa using D)]
theorem Gn(l:List Part)(x:ByteArray)(z:cM Part.name l)(I:l.length<=1000000000):ai C 102 [.pv (.sl (l.map yV)),.pv (str x)] (.p (i64 (jE Part.name l x))) []:=by
 refine fW hC Tryz.func102 rfl (by kernel_rfl) fun _=>?_;have hp:=kd (x:=x) z;refine⟨_,_,(IJ l x z I),iW ?_ ?_⟩<;>intro D
 ·refine⟨?_,trivial⟩;rw[hp,aa (by simp[D])];rfl
 refine⟨?_,trivial⟩;rw[hp,ae (by simpa using D)]
theorem aM{f:Nat->Int}{i n:Nat}{c:Int}(h:∀k,k<i->f k=0)(hn:i<n)(e:f i=c)(z:c≠0):bw f 0 n=c:=by
 rw[nT (by rw[e];exact z) (fun k _ hk=>h k hk) (ak _) (by omega),e]
theorem eQ{f:Nat->Int}{i:Nat}(h:∀k,k<i->f k=0)(e:f i=0):∀k,k<i+1->f k=0:=fun k hk=>by
 by_cases e':k=i
 ·rw[e'];exact e
 exact h k (by omega)
theorem kR{l:List α}{f:α->ByteArray}{i:Nat}{a b:α}(z:l[i]?=some a)(hb:l[i-1]?=some b)(D:0<i):cg (l.map f) i=(eG (f a) (f b)||decide (f a=f b)):=by
 simp only[cg,aD,z,hb,fB];rw[jS D];rfl
theorem pV{l:List ByteArray}{i:Nat}(h:i=0):cg l i=false:=by
 subst h;unfold cg;split<;>simp
theorem xq{f:α->List PV}{n:Nat}{l:List α}(h:∀x,(f x).length=n):∀r∈l.map f,r.length=n:=fun r D=>by
 obtain⟨z,_,rfl⟩:=aZ.1 D;exact h z
def xr(a b:Int):Int:=if a=0 then b else a
theorem mr{a b:Int}(h:a=0):xr a b=b:=ae h
theorem fM{a b c:Int}(h:a=c)(z:c≠0):xr a b=c:=by rw[xr,aa (by rw[h];exact z),h]
def yW(l:List eV)(i:Nat):Int:=match l[i]? with
 | some x=>if gV x.name=true then (if gT x.kind 1 7=true then (if gT x.group 0 200=true then (if cg (l.map eV.name) i=true then 8 else 0) else 1) else 4) else 5
 | none=>0
def se(p q:eV):Bool:=decide (0<p.group)&&decide (q.group=p.group)&&!decide (q.kind=p.kind)
def xt(l:List eV)(i:Nat):Int:=match l[i]? with
 | some x=>if (l.take i).any (se x)=true then 12 else 0
 | none=>0
def jd(l:List eV):Int:=if l.length=0 then 9 else if 200<l.length then 2 else xr (bw (yW l) 0 l.length) (bw (xt l) 0 l.length)
def zT(x:bG):Int:=if gV x.name=true then jd x.pins else 5
def nD(l:List bG)(i:Nat):Int:=match l[i]? with
 | some x=>xr (zT x) (if cg (l.map bG.name) i=true then 8 else 0)
 | none=>0
def ep(l:List bG):Int:=if 200<l.length then 2 else bw (nD l) 0 l.length
def Gp(l:List eV):Prop:=l.length<=1048576/\∀x∈l,bK x.name
def Gq(l:List bG):Prop:=l.length<=1048576/\∀x∈l,bK x.name/\Gp x.pins
theorem bK.le{s:ByteArray}(h:bK s):s.size<=9223372036854775807:=by unfold bK at h;omega
theorem Ug(q p:eV):ai C 155 [.pv (.ag (uj q)),.pv (.ip (uj p))] (.p (bool (se p q))) []:=by
 refine fW hC Tryz.func155 rfl (by kernel_rfl) fun _=>?_;apply iW<;>intro z
 ·apply iW<;>intro D
  ·refine⟨?_,trivial⟩;simp[bool,se,z,D]
  refine⟨?_,trivial⟩;simp[bool,se,z,D]
 refine⟨?_,trivial⟩;simp[bool,se,z]
theorem IK(l:List eV)(hN:l.length<=140737488355328)(p:eV):ai C 192 [.pv (.sl (l.map uj)),.pv (.fn 155 [.ip (uj p)])] (.p (i64 (eM (se p) l 0))) []:=by
 refine fW hC Tryz.func192 rfl (by kernel_rfl) fun _=>?_;have J:=an l uj;refine aP (fun i:Nat=>i<=l.length/\∀z∈l.take i,se p z=false) (fun i=>[(0,.p (.sl (l.map uj))),(1,.p (.fn 155 [.ip (uj p)])),(7,.p (i64 (l.map uj).length)),(8,.p (i64 i))]) (fun _=>[]) (fun i=>l.length-i) 0 _ (aA.refl _ _) ⟨ak _,by simp⟩ ⟨Z,Z,Z,Z,Y⟩ trivial fun i hi t h=>?_;apply iW<;>intro N
 ·rw[J]at N;obtain⟨r,I⟩:=ao (l:=l) (i:=i) (by omega);refine⟨(uj r),(idx rfl I),_,_,(Ug r p),iW ?_ ?_⟩<;>intro D
  ·refine⟨?_,trivial⟩;rw[eU I D hi.2,bp]
  exact⟨wO (by omega),(i+1),_,aA.refl _ _,⟨by omega,iu I D hi.2⟩,by omega,⟨Z,Z,Z,Z,Y⟩,trivial⟩
 rw[J]at N;refine⟨?_,trivial⟩;have D:=hi.2;rw[cK (by omega)]at D;rw[cT D];rfl
theorem Cb(l:List eV)(z:l.length<=140737488355328)(p:eV):ai C 154 [.pv (.sl (l.map uj)),.pv (.fn 155 [.ip (uj p)])] (.p (bool (l.any (se p)))) []:=by
 refine fW hC Tryz.func154 rfl (by kernel_rfl) fun _=>?_;refine⟨_,_,(IK l z p),?_,trivial⟩;rw[<-eZ _ l 0];rfl
theorem Ap(l:List eV)(ho:Gp l):ai C 97 [.pv (.sl (l.map uj))] (.p (i64 (jd l))) []:=by
 refine fW hC Tryz.func97 rfl (by kernel_rfl) fun _=>?_;have R:=an l uj;apply iW<;>intro N
 ·refine⟨?_,trivial⟩;rw[jd,ae (by have:(((l.map uj).length:Nat):Int)=0:=N;omega)];rfl
 have N:¬l.length=0:=fun e=>N (by show (((l.map uj).length:Nat):Int)=0;omega);apply iW<;>intro g1
 ·refine⟨?_,trivial⟩;rw[jd,aa N,ae (by omega)];rfl
 rw[jd,aa N,aa (by omega)];refine aP (fun i:Nat=>i<=l.length/\∀k,k<i->yW l k=0) (fun i=>[(0,.p (.sl (l.map uj))),(13,.p (.sl (l.map uj))),(14,.p (i64 l.length)),(15,.p (i64 i))]) (fun _=>[]) (fun i=>l.length-i) 0 _ (aA.refl _ _) ⟨ak _,fun k h=>by omega⟩ ⟨rfl,rfl,af (fun n:Nat=>AV.p (i64 n)) R,Z,Y⟩ trivial fun i hi t h=>?_;apply iW<;>intro h1
 ·obtain⟨x,I⟩:=ao (l:=l) (i:=i) (by omega);have D:yW l i=(if gV x.name=true then (if gT x.kind 1 7=true then (if gT x.group 0 200=true then (if cg (l.map eV.name) i=true then 8 else 0) else 1) else 4) else 5):=by simp only[yW,I]
  refine⟨(uj x),(idx rfl I),?_⟩;obtain so:=ho.2 x (aj I);refine⟨_,_,(eN x.name so.le),iW ?_ ?_⟩<;>intro U
  ·refine⟨?_,trivial⟩;rw[aa (by simp[U])]at D;rw[aM hi.2 (by omega) D (by decide)];rfl
  rw[ae (by simpa using U)]at D;apply iW<;>intro a2
  ·refine⟨?_,trivial⟩;rw[aa (by simp[gT];omega)]at D;rw[aM hi.2 (by omega) D (by decide)];rfl
  apply iW<;>intro a3
  ·refine⟨?_,trivial⟩;rw[aa (by simp[gT];omega)]at D;rw[aM hi.2 (by omega) D (by decide)];rfl
  rw[ae (by rw[cd];omega)]at D;apply iW<;>intro a4
  ·refine⟨?_,trivial⟩;rw[aa (by simp[gT];omega)]at D;rw[aM hi.2 (by omega) D (by decide)];rfl
  apply iW<;>intro a5
  ·refine⟨?_,trivial⟩;rw[aa (by simp[gT];omega)]at D;rw[aM hi.2 (by omega) D (by decide)];rfl
  rw[ae (by rw[cd];omega)]at D;apply iW<;>intro o1
  ·obtain⟨z,V⟩:=ao (l:=l) (i:=i-1) (by omega);rw[kR (f:=eV.name) I V (by omega)]at D;refine⟨wO (by omega),(uj z),(idx (show (i:Int)-1=((i-1:Nat):Int) by omega) V),iW ?_ ?_⟩<;>intro J
   ·refine⟨?_,trivial⟩;have J:(eG (eV.name x) (eV.name z)||decide (eV.name x=eV.name z))=true:=by simpa [eG] using J
    rw[J,ae rfl]at D;rw[aM hi.2 (by omega) D (by decide)];rfl
   have J:(eG (eV.name x) (eV.name z)||decide (eV.name x=eV.name z))=false:=by simpa [eG] using J
   rw[J,aa (by decide)]at D;exact⟨wO (by omega),(i+1),_,aA.refl _ _,⟨by omega,eQ hi.2 D⟩,by omega,⟨Z,Z,Z,Z,Y⟩,trivial⟩
  have h0:i=0:=by omega
  rw[pV h0,aa (by decide)]at D;exact⟨wO (by omega),(i+1),_,aA.refl _ _,⟨by omega,eQ hi.2 D⟩,by omega,⟨Z,Z,Z,Z,Y⟩,trivial⟩
 skip;have O:bw (yW l) 0 l.length=0:=bR fun k _ hk=>hi.2 k (by omega);rw[mr O];refine aP (fun i:Nat=>i<=l.length/\∀k,k<i->xt l k=0) (fun i=>[(0,.p (.sl (l.map uj))),(58,.p (.sl (l.map uj))),(59,.p (i64 l.length)),(60,.p (i64 i))]) (fun _=>[]) (fun i=>l.length-i) 0 _ (aA.refl _ _) ⟨ak _,fun k h=>by omega⟩ ⟨rfl,rfl,af (fun n:Nat=>AV.p (i64 n)) R,Z,Y⟩ trivial fun i hi t h=>?_;apply iW<;>intro h1
 ·obtain⟨x,I⟩:=ao (l:=l) (i:=i) (by omega);have D:xt l i=(if (l.take i).any (se x)=true then 12 else 0):=by simp only[xt,I]
  refine⟨(uj x),(idx rfl I),?_⟩;have et:(l.map uj).take i=(l.take i).map uj:=Mu.symm;refine⟨⟨by omega,by omega,by omega,xq fun _=>rfl⟩,?_⟩;have jx:=Cb (l.take i) (by rw[cE];omega) x;rw[<-et]at jx;refine⟨_,_,jx,iW ?_ ?_⟩<;>intro W
  ·refine⟨?_,trivial⟩;rw[ae W]at D;rw[aM hi.2 (by omega) D (by decide)];rfl
  rw[aa (by simp[W])]at D;exact⟨wO (by omega),(i+1),_,aA.refl _ _,⟨by omega,eQ hi.2 D⟩,by omega,⟨Z,Z,Z,Z,Y⟩,trivial⟩
 refine⟨?_,trivial⟩;have O:bw (xt l) 0 l.length=0:=bR fun k _ hk=>hi.2 k (by omega);rw[O];rfl
theorem yX(l:List bG)(V:Gq l):ai C 41 [.pv (.sl (l.map vU))] (.p (i64 (ep l))) []:=by
 refine fW hC Tryz.func41 rfl (by kernel_rfl) fun _=>?_;have W:=an l vU;apply iW<;>intro g1
 ·refine⟨?_,trivial⟩;rw[ep,ae (by omega)];rfl
 rw[ep,aa (by omega)];refine aP (fun i:Nat=>i<=l.length/\∀k,k<i->nD l k=0) (fun i=>[(0,.p (.sl (l.map vU))),(9,.p (.sl (l.map vU))),(10,.p (i64 l.length)),(11,.p (i64 i))]) (fun _=>[]) (fun i=>l.length-i) 0 _ (aA.refl _ _) ⟨ak _,fun k h=>by omega⟩ ⟨rfl,rfl,af (fun n:Nat=>AV.p (i64 n)) W,Z,Y⟩ trivial fun i hi t h=>?_;apply iW<;>intro h1
 ·obtain⟨x,N⟩:=ao (l:=l) (i:=i) (by omega);have D:nD l i=xr (zT x) (if cg (l.map bG.name) i=true then 8 else 0):=by simp only[nD,N]
  refine⟨(vU x),(idx rfl N),?_⟩;obtain⟨so,sp⟩:=V.2 x (aj N);refine⟨_,_,(eN x.name so.le),iW ?_ ?_⟩<;>intro O
  ·refine⟨?_,trivial⟩;rw[fM (c:=5) (by rw[zT,aa (by simp[O])]) (by decide)]at D;rw[aM hi.2 (by omega) D (by decide)];rfl
  have R:zT x=jd x.pins:=by rw[zT,ae (by simpa using O)]
  refine⟨_,_,(Ap x.pins sp),iW ?_ ?_⟩<;>intro I
  ·have I:jd x.pins≠0:=by simpa using I
   rw[fM R I]at D;refine⟨?_,trivial⟩;rw[aM hi.2 (by omega) D I]
  have I:jd x.pins=0:=by simpa using I
  rw[mr (by rw[R,I])]at D;apply iW<;>intro o1
  ·obtain⟨z,U⟩:=ao (l:=l) (i:=i-1) (by omega);rw[kR (f:=bG.name) N U (by omega)]at D;refine⟨wO (by omega),(vU z),(idx (show (i:Int)-1=((i-1:Nat):Int) by omega) U),iW ?_ ?_⟩<;>intro J
   ·refine⟨?_,trivial⟩;have J:(eG (bG.name x) (bG.name z)||decide (bG.name x=bG.name z))=true:=by simpa [eG] using J
    rw[J,ae rfl]at D;rw[aM hi.2 (by omega) D (by decide)];rfl
   have J:(eG (bG.name x) (bG.name z)||decide (bG.name x=bG.name z))=false:=by simpa [eG] using J
   rw[J,aa (by decide)]at D;exact⟨wO (by omega),(i+1),_,aA.refl _ _,⟨by omega,eQ hi.2 D⟩,by omega,⟨Z,Z,Z,Z,Y⟩,trivial⟩
  have h0:i=0:=by omega
  rw[pV h0,aa (by decide)]at D;exact⟨wO (by omega),(i+1),_,aA.refl _ _,⟨by omega,eQ hi.2 D⟩,by omega,⟨Z,Z,Z,Z,Y⟩,trivial⟩
 refine⟨?_,trivial⟩;have z0:bw (nD l) 0 l.length=0:=bR fun k _ hk=>hi.2 k (by omega);rw[z0];rfl
structure Net where
 name:ByteArray
 pins:List sy
 ports:List ByteArray
structure DP where
 parts:List Part
 nets:List Net
def Uh(n:Net):List PV:=[str n.name,.sl (n.pins.map Gm),strs n.ports]
def S9(x:DP):List PV:=[.sl (x.parts.map yV),.sl (x.nets.map Uh)]
theorem cP{f:Nat->Int}:∀{n i:Nat},bw f i n=0->∀k,i<=k->k<i+n->f k=0
 | 0,i,_,k,h1,h2=>by omega
 | n+1,i,h,k,h1,h2=>by
  rw[bw]at h;split at h
  ·rename_i z;by_cases e:k=i
   ·rw[e];exact z
   exact cP h k (by omega) (by omega)
  rename_i z;exact absurd h z
theorem dp{a b:Int}(h:xr a b=0):a=0/\b=0:=by
 unfold xr at h;split at h
 ·rename_i z;exact⟨z,h⟩
 rename_i z;exact absurd h z
theorem ED{a b:ByteArray}(h:eG a b=false)(N:¬a=b):eG b a=true:=by
 rw[rB];have D:¬a.data.toList<b.data.toList:=fun e=>by rw[rB.2 e]at h;cases h
 have I:¬a.data.toList=b.data.toList:=fun e=>N ((cmp_eq a b).1 ((xo _ _).2.2 e));rcases List.le_total a.data.toList b.data.toList with J | J
 ·exact absurd (List.le_antisymm J (List.not_lt.1 D)) I
 rcases Classical.em (b.data.toList<a.data.toList) with z | z
 ·exact z
 exact absurd (List.le_antisymm (List.not_lt.1 z) (List.not_lt.1 D)) I
theorem ke{f:α->ByteArray}{l:List α}(h:∀i,i<l.length->cg (l.map f) i=false):cM f l:=by
 unfold cM;rw[cS];intro i j hi z D;obtain⟨d,rfl⟩:∃d,j=i+1+d:=⟨j-i-1,by omega⟩;have step:∀k (hk:k+1<l.length),eG (f l[k]) (f l[k+1])=true:=fun k hk=>by
  have:=h (k+1) hk;rw[kR (aW hk) (aW (show k+1-1<l.length by omega)) (by omega),o_]at this;exact ED this.1 (by simpa using this.2)
 clear D
 induction d with
 | zero=>exact step i z
 | succ d ih=>exact dK (ih (by omega) step) (step (i+1+d) z)
structure qq(t:List bG):Prop where
 len:t.length<=200
 ord:cM bG.name t
 pins:∀x∈t,cM eV.name x.pins/\x.pins.length<=200
theorem Cc{t:List bG}(h:ep t=0):qq t:=by
 unfold ep at h;split at h
 ·cases h
 have key:=fun k hk=>dp (cP h k (ak _) (by rw[bp];exact hk) |> (fun e=>by
  obtain⟨x,I⟩:=ao (l:=t) (i:=k) hk;exact e:nD t k=0->nD t k=0) |> (fun e=>by
  obtain⟨x,I⟩:=ao (l:=t) (i:=k) hk;simp only[nD,I]at e;exact (by rw[show t[k]=x from Option.some.inj ((aW hk).symm.trans I)];exact e:xr (zT t[k]) (if cg (t.map bG.name) k=true then 8 else 0)=0)))
 refine⟨by omega,ke fun i hi=>?_,fun x I=>?_⟩
 ·have:=(key i hi).2;cases e:cg (t.map bG.name) i with
  | false=>rfl
  | true=>rw[e]at this;cases this
 obtain⟨k,hk⟩:=ca.1 I;have J:=(az.1 hk).1;have z:=(key k J).1;rw[show t[k]=x from Option.some.inj ((aW J).symm.trans hk),zT]at z;split at z
 ·unfold jd at z;split at z
  ·cases z
  split at z
  ·cases z
  refine⟨ke fun i hi=>?_,by omega⟩;have D:=cP (dp z).1 i (ak _) (by omega);obtain⟨y,N⟩:=ao (l:=x.pins) (i:=i) hi;simp only[yW,N]at D;split at D
  ·split at D
   ·split at D
    ·cases e:cg (x.pins.map eV.name) i with
     | false=>rfl
     | true=>rw[e]at D;cases D
    cases D
   cases D
  cases D
 cases z
def um(t:List bG)(l:List Part)(i:Nat):Int:=match l[i]? with
 | some x=>if si x.name=true then (if dX bG.name t x.type=true then (if cg (l.map Part.name) i=true then 8 else 0) else 9) else 5
 | none=>0
def iI(t:List bG)(l:List Part):Int:=if 1000<l.length then 2 else bw (um t l) 0 l.length
structure uo(t:List bG)(l:List Part):Prop where
 len:l.length<=1000
 ord:cM Part.name l
 typ:∀x∈l,dX bG.name t x.type=true
theorem Cd{t:List bG}{l:List Part}(h:iI t l=0):uo t l:=by
 unfold iI at h;split at h
 ·cases h
 have key:∀i x,l[i]?=some x->dX bG.name t x.type=true/\cg (l.map Part.name) i=false:=fun i x D=>by
  have z:=cP h i (ak _) (by rw[bp];exact (az.1 D).1);simp only[um,D]at z;split at z
  ·split at z
   ·rename_i I;cases e:cg (l.map Part.name) i with
    | false=>exact⟨I,rfl⟩
    | true=>rw[e]at z;cases z
   cases z
  cases z
 refine⟨by omega,ke fun i hi=>(key i _ (aW hi)).2,fun x D=>?_⟩;obtain⟨k,hk⟩:=ca.1 D;exact (key k x hk).1
def rF(t:List bG)(l:List Part)(p:sy):Bool:=decide (0<=jE Part.name l p.part)&&(match l[(jE Part.name l p.part).toNat]? with
 | some q=>(match t[(jE bG.name t q.type).toNat]? with
  | some y=>decide (0<=jE eV.name y.pins p.pin)
  | none=>false)
 | none=>false)
def Yq(p q:sy):Bool:=eG p.part q.part||(decide (p.part=q.part)&&eG p.pin q.pin)
def Rq(p q:sy):Int:=if Lib.compareBytes p.part.data.toList q.part.data.toList=0 then Lib.compareBytes p.pin.data.toList q.pin.data.toList else Lib.compareBytes p.part.data.toList q.part.data.toList
theorem Rr(a b:ByteArray):(Lib.compareBytes a.data.toList b.data.toList<=0)↔eG b a=false:=by
 constructor
 ·intro h;rw[cu];intro z;rcases Int.lt_or_eq_of_le h with D | D
  ·have I:eG a b=true:=by rw[<-sW];exact jS D
   have:=dK I z;rw[iH]at this;cases this
  rw[(cmp_eq a b).1 D,iH]at z;cases z
 intro h;by_cases e:a=b
 ·exact Int.le_of_eq ((cmp_eq a b).2 e)
 have I:=ED h (fun e'=>e e'.symm);have:=(sW a b).trans I;have:=l5 this;omega
theorem Ui(p q:sy):(Rq p q<=0)↔Yq q p=false:=by
 unfold Rq Yq;by_cases e:p.part=q.part
 ·rw[ae ((cmp_eq _ _).2 e),Rr,e,iH];simp
 rw[aa (fun h=>e ((cmp_eq _ _).1 h)),Rr,aY (fun h=>e h.symm)];simp
def gN(l:List Net)(p:sy):Bool:=l.any fun n=>n.pins.any fun q=>decide (q=p)
def Ce(l:List sy)(k:Nat):Bool:=match l[k]?,l[k-1]? with
 | some a,some b=>decide (0<k)&&!Yq b a
 | _,_=>false
def Gr(t:List bG)(parts:List Part)(seen:sy->Bool)(l:List sy)(k:Nat):Int:=match l[k]? with
 | some p=>if rF t parts p=true then (if Ce l k=true then 8 else if seen p=true then 7 else 0) else 9
 | none=>0
def fN(t:List bG)(parts:List Part)(seen:sy->Bool)(l:List sy):Int:=if 500<l.length then 2 else bw (Gr t parts seen l) 0 l.length
theorem ZU{l:List sy}{i:Nat}{a b:sy}(z:l[i]?=some a)(hb:l[i-1]?=some b)(D:0<i):Ce l i=!Yq b a:=by
 simp only[Ce,z,hb];rw[jS D];rfl
theorem acP{l:List sy}{i:Nat}(h:i=0):Ce l i=false:=by
 subst h;unfold Ce;split<;>simp
theorem Gs(t:List bG)(l:List Part)(p:sy)(z:qq t)(hp:uo t l):ai C 46 [.pv (.sl (t.map vU)),.pv (.sl (l.map yV)),.pv (.ag (Gm p))] (.p (bool (rF t l p))) []:=by
 refine fW hC Tryz.func46 rfl (by kernel_rfl) fun _=>?_;have hl:=hp.len;have Hd:=z.len;refine⟨_,_,(Gn l p.part hp.ord (by omega)),iW ?_ ?_⟩<;>intro D
 ·obtain⟨k,q,J,hk,hq⟩:=xp D;have O:=hp.typ q (aj hk);have R:0<=jE bG.name t q.type:=by
   have:=oz (f:=bG.name) (l:=t) (x:=q.type);rw[O]at this;have:=of_decide_eq_false this;omega
  obtain⟨m,y,N,I,hy⟩:=xp R;have U:=z.pins y (aj I);have V:rF t l p=decide (0<=jE eV.name y.pins p.pin):=by
   unfold rF;rw[jS D,J,F0,hk];simp only;rw[N,F0,I];rfl
  refine⟨(yV q),(idx J hk),_,_,(rE t q.type z.ord (by omega)),(vU y),(idx N I),_,_,(zS y p.pin U.1 (by omega)),?_,trivial⟩;rw[V];rfl
 refine⟨?_,trivial⟩;rw[rF,aY D];rfl
theorem Oz(t:List bG)(x:DP)(p:sy)(z:qq t)(hp:uo t x.parts):ai C 45 [.pv (.ag (Gm p)),.pv (.ip [.sl (t.map vU)]),.pv (.ip (S9 x))] (.p (bool (rF t x.parts p))) []:=by
 refine fW hC Tryz.func45 rfl (by kernel_rfl) fun _=>?_;refine⟨_,_,(Gs t x.parts p z hp),?_,trivial⟩;rfl
theorem xu(p q:sy):ai C 101 [.pv (.ag (Gm p)),.pv (.ag (Gm q))] (.p (i64 (Rq p q))) []:=by
 refine fW hC Tryz.func101 rfl (by kernel_rfl) fun _=>?_;refine⟨_,_,(gA p.part q.part),iW ?_ ?_⟩<;>intro h
 ·refine⟨?_,trivial⟩;rw[Rq,aa (by simpa using h)]
 refine⟨_,_,(gA p.pin q.pin),?_,trivial⟩;rw[Rq,ae (by simpa using h)]
theorem Xe(p q:sy):(decide (p.part=q.part)&&(decide (p.pin=q.pin)&&true))=decide (q=p):=by
 rw[fV];cases p;cases q;simp only[qJ,aJ,db,sy.mk.injEq];exact⟨fun h=>⟨h.1.symm,h.2.symm⟩,fun h=>⟨h.1.symm,h.2.symm⟩⟩
structure dD where
 name:ByteArray
 aE:List aB
structure gp where
 kind:Int
 name:ByteArray
 x:Int
 y:Int
 pts:List (Int×Int)
 nx:Int
 ny:Int
inductive Steps where
 | nil
 | cons (s:gp) (sub:Steps) (rest:Steps)
def zU(t:dD):List PV:=[str t.name,aE t.aE]
def Dp(s:gp)(sub:List (List PV)):List PV:=[i64 s.kind,str s.name,i64 s.x,i64 s.y,.sl (s.pts.map sp),i64 s.nx,i64 s.ny,.sl sub]
def Steps.rows:Steps->List (List PV)
 | .nil=>[]
 | .cons s sub rest=>Dp s sub.rows::rest.rows
structure cy where
 unit:Int
 tools:List dD
 steps:Steps
def dE(p:cy):List PV:=[i64 p.unit,.sl (p.tools.map zU),.sl p.steps.rows]
def lC(n u:Int):Bool:=decide (-1000000<=n*u)&&decide (n*u<=1000000)
theorem K5{n u:Int}(h1:1<=u):gT n (Int.tdiv (-1000000) u) (Int.tdiv 1000000 u)=lC n u:=by
 have z:Int.tdiv 1000000 u=1000000 / u:=gM (by decide);have D:Int.tdiv (-1000000) u=-(1000000 / u):=by rw[Int.neg_tdiv,z]
 have I:n<=1000000 / u↔n*u<=1000000:=Int.le_ediv_iff_mul_le (by omega);have J:-n<=1000000 / u↔-n*u<=1000000:=Int.le_ediv_iff_mul_le (by omega);rw[Int.neg_mul]at J;have N:-(1000000 / u)<=n↔-1000000<=n*u:=by omega
 unfold gT lC;rw[z,D];congr 1
 ·exact decide_eq_decide.2 N
 exact decide_eq_decide.2 I
theorem MM{n u:Int}(D:1<=u)(h:lC n u=true):-1000000<=n/\n<=1000000:=by
 simp only[lC,aJ,db]at h;rcases Int.le_total 0 n with z | z
 ·have:n*1<=n*u:=Int.mul_le_mul_of_nonneg_left D z;omega
 have:n*u<=n*1:=Int.mul_le_mul_of_nonpos_left z D;omega
theorem nU(n u:Int)(I:1<=u/\u<=1000):ai C 108 [.pv (i64 n),.pv (i64 u)] (.p (bool (lC n u))) []:=by
 refine fW hC Tryz.func108 rfl (by kernel_rfl) fun _=>?_;have e:=K5 (n:=n) I.1;have z:Int.tdiv 1000000 u=1000000 / u:=gM (by decide);have D:Int.tdiv (-1000000) u=-(1000000 / u):=by rw[Int.neg_tdiv,z]
 have b1:1000000 / u<=1000000:=Int.ediv_le_self _ (by decide);have b2:0<=1000000 / u:=Int.ediv_nonneg (by decide) (by omega);refine⟨fun h=>by have h:u=0:=h;omega,⟨by rw[D];omega,by rw[D];omega⟩,fun h=>by have h:u=0:=h;omega,⟨by rw[z];omega,by rw[z];omega⟩,_,_,(dU n (Int.tdiv (-1000000) u) (Int.tdiv 1000000 u)),?_,trivial⟩;rw[e]
def kS(p:Int×Int)(u:Int):Bool:=lC p.1 u&&lC p.2 u
theorem je(p:Int×Int)(u:Int)(z:1<=u/\u<=1000):ai C 163 [.pv (.ag (sp p)),.pv (i64 u)] (.p (bool (kS p u))) []:=by
 refine fW hC Tryz.func163 rfl (by kernel_rfl) fun _=>?_;refine⟨_,_,(nU p.1 u z),iW ?_ ?_⟩<;>intro h
 ·refine⟨_,_,(nU p.2 u z),?_,trivial⟩;rw[kS,h];rfl
 refine⟨?_,trivial⟩;rw[kS,show lC p.1 u=false by simpa using h];rfl
def uq(u:Int)(l:List aB)(i:Nat):Int:=match l[i]? with
 | some r=>if lC r.x0 u=true then (if lC r.y0 u=true then (if lC r.x1 u=true then (if lC r.y1 u=true then (if r.x1<=r.x0 then 13 else if r.y1<=r.y0 then 13 else 0) else 1) else 1) else 1) else 1
 | none=>0
def Cf(u:Int)(l:List aB):Int:=if l.length=0 then 9 else if 2000<l.length then 2 else bw (uq u l) 0 l.length
def zV(u:Int)(t:dD):Int:=if IG t.name=true then Cf u t.aE else 5
def Gt(t:dD):Prop:=bK t.name/\t.aE.length<=1048576
theorem Cg(y:dD)(u:Int)(I:1<=u/\u<=1000)(ho:Gt y):ai C 53 [.pv (.ag (zU y)),.pv (i64 u)] (.p (i64 (zV u y))) []:=by
 refine fW hC Tryz.func53 rfl (by kernel_rfl) fun _=>?_;have lm:=an y.aE rc;refine⟨_,_,(IH y.name ho.1.le),iW ?_ ?_⟩<;>intro J
 ·refine⟨?_,trivial⟩;rw[zV,aa (by simp[J])];rfl
 rw[zV,ae (by simpa using J)];apply iW<;>intro D
 ·refine⟨?_,trivial⟩;rw[Cf,ae (by have:(((y.aE.map rc).length:Nat):Int)=0:=D;omega)];rfl
 have D:¬y.aE.length=0:=fun e=>D (by show (((y.aE.map rc).length:Nat):Int)=0;omega);apply iW<;>intro g2
 ·refine⟨?_,trivial⟩;rw[Cf,aa D,ae (by omega)];rfl
 rw[Cf,aa D,aa (by omega)];refine aP (fun i:Nat=>i<=y.aE.length/\∀k,k<i->uq u y.aE k=0) (fun i=>[(1,.p (i64 u)),(20,.p (.sl (y.aE.map rc))),(21,.p (i64 y.aE.length)),(22,.p (i64 i))]) (fun _=>[]) (fun i=>y.aE.length-i) 0 _ (aA.refl _ _) ⟨ak _,fun k h=>by omega⟩ ⟨rfl,rfl,af (fun n:Nat=>AV.p (i64 n)) lm,Z,Y⟩ trivial fun i hi t h=>?_;apply iW<;>intro h1
 ·obtain⟨x,N⟩:=ao (l:=y.aE) (i:=i) (by omega);have z:uq u y.aE i=(if lC x.x0 u=true then (if lC x.y0 u=true then (if lC x.x1 u=true then (if lC x.y1 u=true then (if x.x1<=x.x0 then 13 else if x.y1<=x.y0 then 13 else 0) else 1) else 1) else 1) else 1):=by simp only[uq,N]
  refine⟨(rc x),(idx rfl N),_,_,(nU x.x0 u I),iW ?_ ?_⟩<;>intro O
  ·refine⟨?_,trivial⟩;rw[aa (by simp[O])]at z;rw[aM hi.2 (by omega) z (by decide)];rfl
  rw[ae (by simpa using O)]at z;refine⟨_,_,(nU x.y0 u I),iW ?_ ?_⟩<;>intro R
  ·refine⟨?_,trivial⟩;rw[aa (by simp[R])]at z;rw[aM hi.2 (by omega) z (by decide)];rfl
  rw[ae (by simpa using R)]at z;refine⟨_,_,(nU x.x1 u I),iW ?_ ?_⟩<;>intro U
  ·refine⟨?_,trivial⟩;rw[aa (by simp[U])]at z;rw[aM hi.2 (by omega) z (by decide)];rfl
  rw[ae (by simpa using U)]at z;refine⟨_,_,(nU x.y1 u I),iW ?_ ?_⟩<;>intro V
  ·refine⟨?_,trivial⟩;rw[aa (by simp[V])]at z;rw[aM hi.2 (by omega) z (by decide)];rfl
  rw[ae (by simpa using V)]at z;apply iW<;>intro W
  ·refine⟨?_,trivial⟩;rw[ae W]at z;rw[aM hi.2 (by omega) z (by decide)];rfl
  rw[aa W]at z;apply iW<;>intro a6
  ·refine⟨?_,trivial⟩;rw[ae a6]at z;rw[aM hi.2 (by omega) z (by decide)];rfl
  rw[aa a6]at z;exact⟨wO (by omega),(i+1),_,aA.refl _ _,⟨by omega,eQ hi.2 z⟩,by omega,⟨Z,Z,Z,Z,Y⟩,trivial⟩
 refine⟨?_,trivial⟩;have z0:bw (uq u y.aE) 0 y.aE.length=0:=bR fun k _ hk=>hi.2 k (by omega);rw[z0];rfl
def IL(l:List (Int×Int))(i:Nat):Bool:=match l[i]?,l[(i+1) % l.length]? with
 | some a,some b=>!(decide (a.1=b.1)==decide (a.2=b.2))
 | _,_=>true
def Ch(l:List (Int×Int)):Bool:=decide (4<=l.length)&&Ao (IL l) l.length
theorem MN(a b:Nat):((a:Int)+1).tmod (b:Int)=(((a+1) % b:Nat):Int):=by
 rw[show ((a:Int)+1)=((a+1:Nat):Int) by omega];exact (Int.ofNat_tmod _ _).symm
theorem IM(l:List (Int×Int))(hN:l.length<=1048576):ai C 166 [.pv (.sl (l.map sp))] (.p (bool (Ch l))) []:=by
 refine fW hC Tryz.func166 rfl (by kernel_rfl) fun _=>?_;have D:=an l sp;apply iW<;>intro g1
 ·refine⟨?_,trivial⟩;rw[Ch,aY (by omega)];rfl
 refine aP (fun i:Nat=>i<=l.length/\Ao (IL l) i=true) (fun i=>[(0,.p (.sl (l.map sp))),(9,.p (.sl (l.map sp))),(10,.p (i64 (l.map sp).length)),(11,.p (i64 i))]) (fun _=>[]) (fun i=>l.length-i) 0 _ (aA.refl _ _) ⟨ak _,rfl⟩ ⟨Z,Z,Z,Z,Y⟩ trivial fun i hi t h=>?_;apply iW<;>intro h1
 ·obtain⟨a,I⟩:=ao (l:=l) (i:=i) (by omega);have R:(i+1) % l.length<l.length:=na _ (by omega);obtain⟨b,hb⟩:=ao (l:=l) (i:=(i+1) % l.length) R;have J:IL l i=!(decide (a.1=b.1)==decide (a.2=b.2)):=by simp only[IL,I,hb]
  have N:=MN i l.length;rw[<-D]at N;refine⟨(sp a),(idx rfl I),wO (by omega),fun e=>by have e:(((l.map sp).length:Nat):Int)=0:=e;omega,(sp b),(idx (N.trans (by rw[D])) hb),iW ?_ ?_⟩<;>intro z
  ·have z:(decide (a.1=b.1)==decide (a.2=b.2))=true:=by simpa using z
   refine⟨?_,trivial⟩;rw[Ch,xn (by rw[J,z];rfl) (by omega:i<l.length),dG];rfl
  have z:(decide (a.1=b.1)==decide (a.2=b.2))=false:=by simpa using z
  exact⟨wO (by omega),(i+1),_,aA.refl _ _,⟨by omega,by rw[Ao,hi.2,J,z];rfl⟩,by omega,⟨Z,Z,Z,Z,Y⟩,trivial⟩
 have e:i=l.length:=by omega
 have O:=hi.2;rw[e]at O;refine⟨?_,trivial⟩;rw[Ch,O,jS (by omega)];rfl
end M
end Go.Proofs.YtihgjolmpjjblaaGreatDoor
