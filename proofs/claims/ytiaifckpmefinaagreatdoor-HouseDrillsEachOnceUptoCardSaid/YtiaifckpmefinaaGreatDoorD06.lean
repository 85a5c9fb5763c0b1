/- Part 6 of 11 of the proof of HouseDrillsEachOnce (the names are shortened by a program: the size of a claim is limited). -/
import Derived.Test.YtiaifckpmefinaaGreatDoorD05
import Derived.Sort.Walk0
import Derived.Test.YtiaifckpmefinaaGreatDoorCards
import Derived.Test.YtiaifckpmefinaaGreatDoorTie
import Derived.WalkKit
import Derived.ProofKit
import Derived.OpenShut
import Derived.Deep.DeepHandedRow
import Derived.Lib.LaidTab
import Derived.LaidMore
import Derived.Lay
import Derived.Stop.Joined
import Derived.Stop.LaidErr
import Derived.MakeChecks
import Derived.Deep.Fields
import Derived.Carry
import Derived.Lib.Bytealg
set_option linter.unusedVariables false
set_option linter.unusedSimpArgs false
set_option maxRecDepth 100000
set_option maxHeartbeats 8000000
namespace Go.Proofs.YtiaifckpmefinaaGreatDoor
namespace M
open Go.AM Go.RowKit Go.Lib
open aK (aG bB fa)
def ct (a b:ByteArray):Bool:=Op.bytesLess a.data.toList b.data.toList
theorem jS {a b:ByteArray}:ct a b=true↔a.data.toList < b.data.toList:=by
 unfold ct
 rw[Go.Proofs.bytesLess_eq]
 simp
theorem iw (a:ByteArray):ct a a=false:=by
 rw[Bool.eq_false_iff]
 intro h
 exact List.lt_irrefl _ (jS.1 h)
theorem cF {a b c:ByteArray} (h1:ct a b=true) (h2:ct b c=true):ct a c=true:=jS.2 (List.lt_trans (jS.1 h1) (jS.1 h2))
theorem kZ {a b:Nat} (h:a+b < 4611686018427387904):(IntKind.u64.wrap ((a:Int)+(b:Int))).fdiv (2 ^ min (Int.toNat 1) IntKind.u64.bits)=(((a+b) / 2:Nat):Int):=by
 have h1:IntKind.u64.wrap ((a:Int)+(b:Int))=((a+b:Nat):Int):=by simp[IntKind.wrap,IntKind.bits,IntKind.signed];omega
 rw[h1]
 have h2:(2:Int) ^ min (Int.toNat 1) IntKind.u64.bits=2:=by decide
 rw[h2,Int.fdiv_eq_ediv_of_nonneg _ (by decide)]
 omega
def aH (f:Nat->Int) (i:Nat):Nat->Int
 | 0=>0
 | n+1=>if f i=0 then aH f (i+1) n else f i
theorem aT {f:Nat->Int}:∀{n i:Nat},(∀k,i<=k->k < i+n->f k=0)->aH f i n=0
 | 0,_,_=>rfl
 | n+1,i,h=>by
  rw[aH,if_pos (h i (Nat.le_refl _) (by omega))]
  exact aT fun k h1 h2=>h k (by omega) (by omega)
theorem jn {f:Nat->Int} {m:Nat} (hm:f m≠0):∀{n i:Nat},(∀k,i<=k->k < m->f k=0)->i<=m->m < i+n->aH f i n=f m
 | 0,i,_,h1,h2=>by omega
 | n+1,i,h,h1,h2=>by
  rw[aH]
  by_cases e:i=m
  ·subst e;rw[if_neg hm]
  rw[if_pos (h i (Nat.le_refl _) (by omega))]
  exact jn hm (fun k h3 h4=>h k (by omega) h4) (by omega) (by omega)
def a7 (l:List ByteArray) (j:Nat):Bool:=match l[j]?,l[j - 1]? with
 | some a,some b=>decide (0 < j) && (ct a b || decide (a=b))
 | _,_=>false
def seenIn (cs:List Class) (x:ByteArray):Bool:=cs.any fun c=>hasB c.nets x
def cW (cs:List Class) (i:Nat) (l:List ByteArray) (j:Nat):Int:=match l[j]? with
 | some y=>if kW y=true then (if a7 l j=true then 8 else if seenIn (cs.take i) y=true then 7 else 0) else 5
 | none=>0
def cI (cs:List Class) (i:Nat):Int:=match cs[i]? with
 | some c=>if dw c.name=true then (if 1000 < c.nets.length then 2 else
   if aH (cW cs i c.nets) 0 c.nets.length=0 then
    (if (dY c.clearance && dY c.width)=true then (if a7 (cs.map Class.name) i=true then 8 else 0) else 1)
   else aH (cW cs i c.nets) 0 c.nets.length) else 5
 | none=>0
theorem A_ (a b:ByteArray):wo (.string a) (.string b)=decide (a=b):=rfl
theorem IV {k:ByteArray} {k':Value} (h:wo (.string k) k'=true):k'=.string k:=by
 cases k' <;> simp_all [wo]
theorem pw (v:PV) (k n:ByteArray):∀es:List (Value×PV),fO (gu es (.string k) v) (.string n)=if n=k then some v else fO es (.string n)
 | []=>by
  simp only[gu,fO,A_]
  by_cases h:n=k <;> simp[h]
 | (k',u)::r=>by
  simp only[gu]
  cases h:wo (.string k) k'
  ·simp only[fO,pw v k n r]
   by_cases e:n=k
   ·subst e;simp[h]
   simp[e]
  have e:=IV h
  subst e
  simp only[fO,A_]
  by_cases e:n=k <;> simp[e]
def aQ (s:ByteArray):Prop:=s.size < 4294967281
def Ba (c:Class):Prop:=aQ c.name/\c.nets.length<=1048576/\∀s∈c.nets,aQ s
theorem nc (cs:List Class) (hok:∀c∈cs,Ba c) (hN:cs.length<=1048576):af C 128 [.pv (.sl (cs.map kl))] (.p (i64 (if 50 < cs.length then 2 else aH (cI cs) 0 cs.length))) []:=by
 refine ah hC Tryz.func128 rfl rfl 93 rfl (by decide) (by kernel_rfl) fun _ _ _ _ _=>?_
 have lm:=ai cs kl
 (repeat refine yY Z ?_);refine iF Z (fun h0=>?_) (fun h0=>?_)
 ·((repeat refine yY Z ?_);refine aa zi ?_);refine And.intro ?_ trivial
  rw[if_pos (by omega)];rfl
 rw[if_neg (by omega)]
 (repeat refine yY Z ?_)
 refine ak (fun p:Nat×List (Value×PV)=>p.1<=cs.length/\(∀k,k < p.1->cI cs k=0)/\∀n,fO p.2 (.string n)=if seenIn (cs.take p.1) n=true then some (bool true) else none) (fun p=>[(0,.p (.sl (cs.map kl))),(3,.ow 13),(14,.p (.sl (cs.map kl))),(15,.p (i64 (cs.map kl).length)),(16,.p (i64 p.1))]) (fun p=>[(13,.map .str p.2)]) (fun p=>cs.length - p.1) (0,[]) _ (aD.refl _ _) ⟨Nat.zero_le _,fun k h=>by omega,fun n=>rfl⟩ ⟨Z,Z,Z,Z,Z,Y⟩ ⟨Z,Y⟩ fun ⟨i,es⟩ hi t h=>?_
 obtain⟨q1,q2,q3⟩:=hi
 (repeat refine yY Z ?_);refine iF Z (fun h1=>?_) (fun h1=>?_) <;> try simp only[zB] at h1
 ·obtain⟨c,hc⟩:=aj (l:=cs) (i:=i) (by omega)
  obtain⟨o1,o2,o3⟩:=hok c (List.mem_of_getElem? hc)
  have bad:cI cs i≠0->aH (cI cs) 0 cs.length=cI cs i:=fun hb=>jn hb (fun k _ hk=>q2 k hk) (Nat.zero_le _) (by omega)
  have cf:cI cs i=(if dw c.name=true then (if 1000 < c.nets.length then 2 else
  if aH (cW cs i c.nets) 0 c.nets.length=0 then
   (if (dY c.clearance && dY c.width)=true then (if a7 (cs.map Class.name) i=true then 8 else 0) else 1)
  else aH (cW cs i c.nets) 0 c.nets.length) else 5):=by rw[cI,hc]
  have lc:=ai c.nets fun s=>[str s]
  ((repeat refine yY Z ?_);refine zX zi ?_);refine⟨(kl c),(idx rfl hc),?_⟩
  ((repeat refine yY Z ?_);refine zX zi ?_);refine⟨_,_,(cB c.name (by have:c.name.size < 4294967281:=o1;omega)),?_⟩
  (repeat refine yY Z ?_);refine iF Z (fun h2=>?_) (fun h2=>?_)
  ·((repeat refine yY Z ?_);refine aa zi ?_);refine And.intro ?_ trivial
   rw[if_neg (by simp[h2])] at cf
   rw[bad (by rw[cf];decide),cf];rfl
  rw[if_pos (by simpa using h2)] at cf
  (repeat refine yY Z ?_);refine iF Z (fun h3=>?_) (fun h3=>?_)
  ·((repeat refine yY Z ?_);refine aa zi ?_);refine And.intro ?_ trivial
   rw[if_pos (by omega)] at cf
   rw[bad (by rw[cf];decide),cf];rfl
  rw[if_neg (by omega)] at cf
  (repeat refine yY Z ?_)
  refine ak (fun j:Nat=>j<=c.nets.length/\∀k,k < j->cW cs i c.nets k=0) (fun j=>[(0,.p (.sl (cs.map kl))),(3,.ow 13),(14,.p (.sl (cs.map kl))),(15,.p (i64 (cs.map kl).length)),(16,.p (i64 i)),(4,.p (i64 i)),(5,.bx 5 0),(30,.p (strs c.nets)),(31,.p (i64 (c.nets.map fun s=>[str s]).length)),(32,.p (i64 j))]) (fun _=>[(5,.box [.p (str c.name),.p (strs c.nets),.p (i64 c.clearance),.p (i64 c.width)]),(13,.map .str es)]) (fun j=>c.nets.length - j) 0 _ (aD.refl _ _) ⟨Nat.zero_le _,fun k h=>by omega⟩ ⟨Z,Z,Z,Z,Z,Z,Z,Z,Z,Z,Y⟩ ⟨Z,Z,Y⟩ fun j hj t h=>?_
  obtain⟨p1,p2⟩:=hj
  (repeat refine yY Z ?_);refine iF Z (fun h4=>?_) (fun h4=>?_)
  ·obtain⟨y,hy⟩:=aj (l:=c.nets) (i:=j) (by omega)
   have F_:cW cs i c.nets j≠0->aH (cI cs) 0 cs.length=cW cs i c.nets j:=fun hb=>by
    have e:aH (cW cs i c.nets) 0 c.nets.length=cW cs i c.nets j:=jn hb (fun k _ hk=>p2 k hk) (Nat.zero_le _) (by omega)
    rw[e,if_neg hb] at cf
    rw[bad (by rw[cf];exact hb),cf]
   have nf:cW cs i c.nets j=(if kW y=true then (if a7 c.nets j=true then 8 else if seenIn (cs.take i) y=true then 7 else 0) else 5):=by rw[cW,hy]
   ((repeat refine yY Z ?_);refine zX zi ?_);refine⟨[str y],(idx rfl hy),?_⟩
   ((repeat refine yY Z ?_);refine zX zi ?_);refine⟨_,_,(gL y (o3 y (List.mem_of_getElem? hy))),?_⟩
   (repeat refine yY Z ?_);refine iF Z (fun h5=>?_) (fun h5=>?_)
   ·((repeat refine yY Z ?_);refine aa zi ?_);refine And.intro ?_ trivial
    rw[if_neg (by simp[h5])] at nf
    rw[F_ (by rw[nf];decide),nf];rfl
   rw[if_pos (by simpa using h5)] at nf
   have q:=q3 y
   have next:cW cs i c.nets j=0->∀k,k < j+1->cW cs i c.nets k=0:=fun h0 k hk=>by
    by_cases e:k=j
    ·subst e;exact h0
    exact p2 k (by omega)
   (repeat refine yY Z ?_);refine iF Z (fun h6=>?_) (fun h6=>?_)
   ·obtain⟨z,hz⟩:=aj (l:=c.nets) (i:=j - 1) (by omega)
    have bk:a7 c.nets j=(ct y z || decide (y=z)):=by
     simp only[a7,hy,hz]
     rw[decide_eq_true (by omega:0 < j)];rfl
    ((repeat refine yY Z ?_);refine zA zi ?_);refine And.intro ⟨by omega,by omega⟩ ?_
    ((repeat refine yY Z ?_);refine zX zi ?_);refine⟨[str z],(idx (show (j:Int) - 1=((j - 1:Nat):Int) by omega) hz),?_⟩
    (repeat refine yY Z ?_);refine iF Z (fun h7=>?_) (fun h7=>?_)
    ·((repeat refine yY Z ?_);refine aa zi ?_);refine And.intro ?_ trivial
     have h7:(ct y z || decide (y=z))=true:=by simpa [ct] using h7
     rw[bk,h7,if_pos rfl] at nf
     rw[F_ (by rw[nf];decide),nf];rfl
    have h7:(ct y z || decide (y=z))=false:=by simpa [ct] using h7
    rw[bk,h7,if_neg (by decide)] at nf
    cases hS:seenIn (cs.take i) y
    ·rw[hS] at q nf
     ((repeat refine yY Z ?_);refine zX zi ?_);refine⟨none,q,?_⟩
     ((repeat refine yY Z ?_);refine zA zi ?_);refine And.intro ⟨by omega,by omega⟩ ?_
     ((repeat refine yY Z ?_);refine ae ?_);refine⟨(j+1),_,aD.refl _ _,?_⟩
     exact⟨⟨by omega,next (by simpa using nf)⟩,by omega,⟨Z,Z,Z,Z,Z,Z,Z,Z,Z,Z,Y⟩,⟨Z,Z,Y⟩⟩
    rw[hS] at q nf
    rw[if_pos rfl] at nf
    ((repeat refine yY Z ?_);refine zX zi ?_);refine⟨(some (bool true)),q,?_⟩
    ((repeat refine yY Z ?_);refine aa zi ?_);refine And.intro ?_ trivial
    rw[F_ (by rw[nf];decide),nf];rfl
   have h0:j=0:=by omega
   have bk:a7 c.nets j=false:=by
    subst h0
    simp only[a7,hy]
    rfl
   rw[bk,if_neg (by decide)] at nf
   cases hS:seenIn (cs.take i) y
   ·rw[hS] at q nf
    ((repeat refine yY Z ?_);refine zX zi ?_);refine⟨none,q,?_⟩
    ((repeat refine yY Z ?_);refine zA zi ?_);refine And.intro ⟨by omega,by omega⟩ ?_
    ((repeat refine yY Z ?_);refine ae ?_);refine⟨(j+1),_,aD.refl _ _,?_⟩
    exact⟨⟨by omega,next (by simpa using nf)⟩,by omega,⟨Z,Z,Z,Z,Z,Z,Z,Z,Z,Z,Y⟩,⟨Z,Z,Y⟩⟩
   rw[hS] at q nf
   rw[if_pos rfl] at nf
   ((repeat refine yY Z ?_);refine zX zi ?_);refine⟨(some (bool true)),q,?_⟩
   ((repeat refine yY Z ?_);refine aa zi ?_);refine And.intro ?_ trivial
   rw[F_ (by rw[nf];decide),nf];rfl
  have z0:aH (cW cs i c.nets) 0 c.nets.length=0:=aT fun k _ hk=>p2 k (by omega)
  rw[if_pos z0] at cf
  (repeat refine yY Z ?_)
  refine ak (fun p:Nat×List (Value×PV)=>p.1<=c.nets.length/\∀n,fO p.2 (.string n)=if (seenIn (cs.take i) n || hasB (c.nets.take p.1) n)=true then some (bool true) else none) (fun p=>[(0,.p (.sl (cs.map kl))),(3,.ow 13),(14,.p (.sl (cs.map kl))),(15,.p (i64 (cs.map kl).length)),(16,.p (i64 i)),(4,.p (i64 i)),(5,.bx 5 0),(60,.p (strs c.nets)),(61,.p (i64 (c.nets.map fun s=>[str s]).length)),(62,.p (i64 p.1))]) (fun p=>[(5,.box [.p (str c.name),.p (strs c.nets),.p (i64 c.clearance),.p (i64 c.width)]),(13,.map .str p.2)]) (fun p=>c.nets.length - p.1) (0,es) _ (aD.refl _ _) ⟨Nat.zero_le _,fun n=>by rw[show hasB (c.nets.take 0) n=false from rfl,Bool.or_false];exact q3 n⟩ ⟨Z,Z,Z,Z,Z,Z,Z,Z,Z,Z,Y⟩ ⟨Z,Z,Y⟩ fun ⟨j,bW⟩ hj t h=>?_
  obtain⟨r1,r2⟩:=hj
  (repeat refine yY Z ?_);refine iF Z (fun h9=>?_) (fun h9=>?_) <;> try simp only[zB] at h9
  ·obtain⟨y,hy⟩:=aj (l:=c.nets) (i:=j) (by omega)
   ((repeat refine yY Z ?_);refine zX zi ?_);refine⟨[str y],(idx rfl hy),?_⟩
   ((repeat refine yY Z ?_);refine zA zi ?_);refine And.intro ⟨by omega,by omega⟩ ?_
   ((repeat refine yY Z ?_);refine ae ?_);refine⟨(j+1,gu bW (.string y) (bool true)),_,aD.refl _ _,?_⟩
   refine⟨⟨by omega,fun n=>?_⟩,by omega,⟨Z,Z,Z,Z,Z,Z,Z,Z,Z,Z,Y⟩,⟨Z,Z,Y⟩⟩
   simp only
   rw[pw,aN hy]
   by_cases e:n=y
   ·subst e
    rw[if_pos rfl,if_pos]
    simp[hasB]
   rw[if_neg e,r2 n]
   have:hasB (c.nets.take j++[y]) n=hasB (c.nets.take j) n:=by
    unfold hasB
    rw[List.any_append]
    rw[show ([y].any fun z=>decide (z=n))=(decide (y=n) || false) from rfl,decide_eq_false (fun h:y=n=>e h.symm)]
    simp
   rw[this]
  have e9:j=c.nets.length:=by simp only at r1;omega
  have s1:∀n,fO bW (.string n)=if seenIn (cs.take (i+1)) n=true then some (bool true) else none:=fun n=>by
   rw[r2 n,e9,List.take_length,aN hc]
   have:seenIn (cs.take i++[c]) n=(seenIn (cs.take i) n || hasB c.nets n):=by
    unfold seenIn
    rw[List.any_append]
    simp
   rw[this]
  have bn:∀d,cs[i - 1]?=some d->0 < i->a7 (cs.map Class.name) i=(ct c.name d.name || decide (c.name=d.name)):=fun d hd h0=>by
   simp only[a7,List.getElem?_map,hc,hd,Option.map_some]
   rw[decide_eq_true h0];rfl
  have Hl:cI cs i=0->∀k,k < i+1->cI cs k=0:=fun h0 k hk=>by
   by_cases e:k=i
   ·subst e;exact h0
   exact q2 k (by simp only;omega)
  ((repeat refine yY Z ?_);refine zX zi ?_);refine⟨_,_,(gK c.clearance),?_⟩
  (repeat refine yY Z ?_);refine iF Z (fun g1=>?_) (fun g1=>?_)
  ·((repeat refine yY Z ?_);refine aa zi ?_);refine And.intro ?_ trivial
   rw[if_neg (by simp[g1])] at cf
   rw[bad (by rw[cf];decide),cf];rfl
  ((repeat refine yY Z ?_);refine zX zi ?_);refine⟨_,_,(gK c.width),?_⟩
  (repeat refine yY Z ?_);refine iF Z (fun g2=>?_) (fun g2=>?_)
  ·((repeat refine yY Z ?_);refine aa zi ?_);refine And.intro ?_ trivial
   rw[if_neg (by simp[g2])] at cf
   rw[bad (by rw[cf];decide),cf];rfl
  rw[if_pos (by simp[g1,g2])] at cf
  (repeat refine yY Z ?_);refine c_ [] false IF rfl (by kernel_rfl) ?_;(repeat refine yY Z ?_);refine iF Z (fun g3=>?_) (fun g3=>?_)
  ·obtain⟨d,hd⟩:=aj (l:=cs) (i:=i - 1) (by omega)
   ((repeat refine yY Z ?_);refine zA zi ?_);refine And.intro ⟨by omega,by omega⟩ ?_
   ((repeat refine yY Z ?_);refine zX zi ?_);refine⟨(kl d),(idx (show (i:Int) - 1=((i - 1:Nat):Int) by omega) hd),?_⟩
   rw[bn d hd (by omega)] at cf
   (repeat refine yY Z ?_);refine iF Z (fun g4=>?_) (fun g4=>?_)
   ·((repeat refine yY Z ?_);refine aa zi ?_);refine And.intro ?_ trivial
    have g4:(ct c.name d.name || decide (c.name=d.name))=true:=by simpa [ct] using g4
    rw[g4,if_pos rfl] at cf
    rw[bad (by rw[cf];decide),cf];rfl
   have g4:(ct c.name d.name || decide (c.name=d.name))=false:=by simpa [ct] using g4
   rw[g4,if_neg (by decide)] at cf
   ((repeat refine yY Z ?_);refine zA zi ?_);refine And.intro ⟨by omega,by omega⟩ ?_
   ((repeat refine yY Z ?_);refine ae ?_);refine⟨(i+1,bW),_,aD.refl _ _,?_⟩
   exact⟨⟨by omega,Hl cf,s1⟩,by omega,⟨Z,Z,Z,Z,Z,Y⟩,⟨Z,Y⟩⟩
  have h0:i=0:=by omega
  have bk:a7 (cs.map Class.name) i=false:=by
   subst h0
   simp only[a7,List.getElem?_map,hc]
   rfl
  rw[bk,if_neg (by decide)] at cf
  ((repeat refine yY Z ?_);refine zA zi ?_);refine And.intro ⟨by omega,by omega⟩ ?_
  ((repeat refine yY Z ?_);refine ae ?_);refine⟨(i+1,bW),_,aD.refl _ _,?_⟩
  exact⟨⟨by omega,Hl cf,s1⟩,by omega,⟨Z,Z,Z,Z,Z,Y⟩,⟨Z,Y⟩⟩
 have e1:i=cs.length:=by simp only at q1;omega
 ((repeat refine yY Z ?_);refine aa zi ?_);refine And.intro ?_ trivial
 rw[aT fun k _ hk=>q2 k (by simp only;omega)]
 rfl
def er (al:List zE) (i:Nat):Int:=match al[i]? with
 | some a=>if (decide (-1<=a.layer) && decide (a.layer<=15))=true then (if aK.bL a.region=0 then (if dY a.clearance=true then 0 else 1) else aK.bL a.region) else 1
 | none=>0
def eu:List zE->Nat
 | []=>0
 | a::r=>a.region.length+eu r
theorem xx (a b:List zE):eu (a++b)=eu a+eu b:=by
 induction a with
 | nil=>simp[eu]
 | cons x r ih=>simp[eu,ih];omega
def zF (r:mK):Bool:=dY r.clearance && dY r.width && dY r.ring && dY r.edge && dY r.holeGap
def ew (cs:List Class):Int:=if 50 < cs.length then 2 else aH (cI cs) 0 cs.length
def nd (al:List zE):Int:=if 50 < al.length then 2 else if aH (er al) 0 al.length=0 then (if 2000 < eu al then 2 else 0) else aH (er al) 0 al.length
def fc (r:mK):Int:=if zF r=true then (if ew r.classes=0 then nd r.areas else ew r.classes) else 1
theorem zG {l:List aG} (h:aK.bL l=0):l.length<=1000000:=by
 unfold aK.bL at h
 by_cases h0:aK.da l=0
 ·have:=(aK.rT h0).1
  omega
 rw[if_neg h0] at h;exact absurd h h0
def om (r:mK):Prop:=(∀c∈r.classes,Ba c)/\r.classes.length<=1048576/\r.areas.length<=1048576
theorem px (r:mK) (ho:om r):af C 49 [.pv (.ag (rl r))] (.p (i64 (fc r))) []:=by
 refine ah hC Tryz.func49 rfl rfl 59 rfl (by decide) (by kernel_rfl) fun _ _ _ _ _=>?_
 obtain⟨o1,o2,o3⟩:=ho
 ((repeat refine yY Z ?_);refine zX zi ?_);refine⟨_,_,(vq [r.clearance,r.width,r.ring,r.edge,r.holeGap] (by simp)),?_⟩
 have nb:([r.clearance,r.width,r.ring,r.edge,r.holeGap].any fun n=>!dY n)=!zF r:=by
  simp[zF,Bool.not_and,Bool.or_assoc]
 rw[nb]
 (repeat refine yY Z ?_);refine iF Z (fun h0=>?_) (fun h0=>?_)
 ·((repeat refine yY Z ?_);refine aa zi ?_);refine And.intro ?_ trivial
  rw[fc,if_neg (by simp[h0])];rfl
 rw[fc,if_pos (by simpa using h0)]
 ((repeat refine yY Z ?_);refine zX zi ?_);refine⟨_,_,(nc r.classes o1 o2),?_⟩
 (repeat refine yY Z ?_);refine iF Z (fun h1=>?_) (fun h1=>?_)
 ·((repeat refine yY Z ?_);refine aa zi ?_);refine And.intro ?_ trivial
  rw[if_neg (show ¬ew r.classes=0 from by simpa [ew] using h1)];rfl
 rw[if_pos (show ew r.classes=0 from by simpa [ew] using h1)]
 have lm:=ai r.areas arr
 (repeat refine yY Z ?_);refine iF Z (fun h2=>?_) (fun h2=>?_)
 ·((repeat refine yY Z ?_);refine aa zi ?_);refine And.intro ?_ trivial
  rw[nd,if_pos (by omega)];rfl
 rw[nd,if_neg (by omega)]
 (repeat refine yY Z ?_)
 refine ak (fun i:Nat=>i<=r.areas.length/\(∀k,k < i->er r.areas k=0)/\eu (r.areas.take i)<=i*1000000) (fun i=>[(4,.p (i64 (eu (r.areas.take i)))),(31,.p (.sl (r.areas.map arr))),(32,.p (i64 (r.areas.map arr).length)),(33,.p (i64 i))]) (fun _=>[]) (fun i=>r.areas.length - i) 0 _ (aD.refl _ _) ⟨Nat.zero_le _,fun k h=>by omega,by simp[eu]⟩ ⟨Z,Z,Z,Z,Y⟩ trivial fun i hi t h=>?_
 obtain⟨q1,q2,q3⟩:=hi
 (repeat refine yY Z ?_);refine iF Z (fun h3=>?_) (fun h3=>?_)
 ·obtain⟨a,ha⟩:=aj (l:=r.areas) (i:=i) (by omega)
  have bad:er r.areas i≠0->aH (er r.areas) 0 r.areas.length=er r.areas i:=fun hb=>jn hb (fun k _ hk=>q2 k hk) (Nat.zero_le _) (by omega)
  have cf:er r.areas i=(if (decide (-1<=a.layer) && decide (a.layer<=15))=true then (if aK.bL a.region=0 then (if dY a.clearance=true then 0 else 1) else aK.bL a.region) else 1):=by rw[er,ha]
  have la:=ai a.region rc
  ((repeat refine yY Z ?_);refine zX zi ?_);refine⟨(arr a),(idx rfl ha),?_⟩
  ((repeat refine yY Z ?_);refine zX zi ?_);refine⟨_,_,(oa a.layer (-1) 15),?_⟩
  (repeat refine yY Z ?_);refine iF Z (fun h4=>?_) (fun h4=>?_)
  ·((repeat refine yY Z ?_);refine aa zi ?_);refine And.intro ?_ trivial
   rw[if_neg (by simpa using h4)] at cf
   rw[bad (by rw[cf];decide),cf];rfl
  rw[if_pos (by simpa using h4)] at cf
  ((repeat refine yY Z ?_);refine zX zi ?_);refine⟨_,_,(oh a.region),?_⟩
  (repeat refine yY Z ?_);refine iF Z (fun h5=>?_) (fun h5=>?_)
  ·((repeat refine yY Z ?_);refine aa zi ?_);refine And.intro ?_ trivial
   have h5:¬aK.bL a.region=0:=by simpa using h5
   rw[if_neg h5] at cf
   rw[bad (by rw[cf];exact h5),cf,if_neg h5]
  have h5:aK.bL a.region=0:=by simpa using h5
  rw[if_pos h5] at cf
  have hl:=zG h5
  ((repeat refine yY Z ?_);refine zX zi ?_);refine⟨_,_,(gK a.clearance),?_⟩
  (repeat refine yY Z ?_);refine iF Z (fun h6=>?_) (fun h6=>?_)
  ·((repeat refine yY Z ?_);refine aa zi ?_);refine And.intro ?_ trivial
   rw[if_neg (by simp[h6])] at cf
   rw[bad (by rw[cf];decide),cf];rfl
  rw[if_pos (by simpa using h6)] at cf
  have s1:eu (r.areas.take (i+1))=eu (r.areas.take i)+a.region.length:=by
   rw[aN ha,xx];simp[eu]
  ((repeat refine yY Z ?_);refine zA zi ?_);refine And.intro ⟨by omega,by omega⟩ ?_
  ((repeat refine yY Z ?_);refine zA zi ?_);refine And.intro ⟨by omega,by omega⟩ ?_
  ((repeat refine yY Z ?_);refine ae ?_);refine⟨(i+1),_,aD.refl _ _,?_⟩
  refine⟨⟨by omega,fun k hk=>?_,by omega⟩,by omega,⟨aS (by omega),Z,Z,Z,Y⟩,trivial⟩
  by_cases e:k=i
  ·subst e;exact cf
  exact q2 k (by omega)
 have e:i=r.areas.length:=by omega
 subst e
 have z0:aH (er r.areas) 0 r.areas.length=0:=aT fun k _ hk=>q2 k (by omega)
 rw[if_pos z0]
 have tl:r.areas.take r.areas.length=r.areas:=List.take_length
 (repeat refine yY Z ?_);refine iF Z (fun h7=>?_) (fun h7=>?_)
 ·((repeat refine yY Z ?_);refine aa zi ?_);refine And.intro ?_ trivial
  rw[tl] at h7
  rw[if_pos (by omega)];rfl
 ((repeat refine yY Z ?_);refine aa zi ?_);refine And.intro ?_ trivial
 rw[tl] at h7
 rw[if_neg (by omega)];rfl
end M
end Go.Proofs.YtiaifckpmefinaaGreatDoor
namespace Go.Proofs.YtiaifckpmefinaaGreatDoor
open Go.ChangeShapes Go.WideShapes Go.ChangeAt Go.RowKit
section
variable {H:Type} {enc:TypeId×Value->H} {P:Program}
theorem tq {f:Func} {s:ChangeSpec} {apart fresh handsOn again:Bool} {W W':World} {args:Array Value} {v:Value} {ds gs:List (DataW H)} {before pa pv:List MemPlace}
  (hW:DataW.Whole enc P f.params.toList s.vars apart W args.toList ds gs before)
  (hres:∀(b:Nat) (sp:Nat->Bool) (hd:Bool),DataW.TrodAll enc P W' b sp hd f.resultTypes.toList (v.resultList f.resultTypes.size) (s.fn H (ds++gs)).results [])
  (hargs:∀sp:Nat->Bool,(∀p∈before,sp p.block=true)->DataW.TrodAll enc P W' 0 sp true f.params.toList args.toList (s.fn H (ds++gs)).args pa)
  (hvars:∀sp:Nat->Bool,(∀p∈before,sp p.block=true)->DataW.TrodVars enc P W' sp s.vars (s.fn H (ds++gs)).vars pv)
  (hps:before=pa++pv) (hb:Below W.heap.size W W')
  (hok:∀(j:Nat) (t:TypeId) (r:Value),f.resultTypes[j]?=some t->(v.resultList f.resultTypes.size)[j]?=some r->Value.okWide P W' .any 0 t r):
  s.post enc P f apart fresh handsOn again W args v W':=by
 have dS:∀p∈before,p.block < W.heap.size:=fun p hp=>hW.lt p hp
 have hold:∀p∈before,(fun b=>decide (b < W.heap.size)) p.block=true:=fun p hp=>by simpa using dS p hp
 refine⟨ds,gs,before,[],pa,pv,hW,hres _ _ _,hargs _ hold,hvars _ hold,World.keptBut_mono (fun p hp=>⟨hp,?_⟩) (hb.frame (·∈before)),fun _=>?_⟩
 ·rw[hps,List.mem_append] at hp
  exact Or.inr hp
 obtain⟨_,_,_,_,_,hz,hn⟩:=hW
 refine⟨hok,_,_,([]++pa)++pv,⟨[]++pa,pv,trodAll_append (hargs _ (fun _ _=>rfl)) (hres _ _ _),hvars _ (fun _ _=>rfl),rfl,?_,?_⟩,?_⟩
 ·intro b off hp
  have nu:MemPlace.cell b off∈before:=by rw[hps];simpa using hp
  rw[hb.frozen (dS _ nu)]
  exact hz b off nu
 ·intro ha
  have:=hn ha
  rw[hps] at this
  simpa using this
 intro p hp _
 rw[hps]
 simpa using hp
theorem qB {C:Checked} {os:Os} {f:FuncId} {fn:Func} {s:OpenSpec} {conds:List PathCond} {apart:Bool} {laid:List (String×DataW Unit)} (w0:World) (args:Array Value) (Q9:w0.os=os)
  (hsh:(w0.forCall (fun _ _=>0) ⟨#[],args,[]⟩).Shaped C.prog)
  (hok:Input.okWideB C.prog (w0.forCall (fun _ _=>0) ⟨#[],args,[]⟩) f ⟨#[],args,[]⟩=true)
  (an:s.preRow enc C.prog fn conds apart laid (w0.forCall (fun _ _=>0) ⟨#[],args,[]⟩).memory args):
  ∃(w:World) (tape:Tape) (i:Input),w.os=os/\(w.forCall tape i).Shaped C.prog/\i.vars=[]/\Input.okWide C.prog (w.forCall tape i) .any w.heap.size f i /\
   s.preRow enc C.prog fn conds apart laid (w.forCall tape i).memory i.args/\({}:Assume).holds C.prog (lone (Frame.enter C.prog f i.args .normal) [] (w.forCall tape i)):=
 ⟨w0,fun _ _=>0,⟨#[],args,[]⟩,Q9,hsh,(Input.okWide_of_okWideB (base:=0) hok).1,(Input.okWide_of_okWideB hok).2,an,by
  simp only[Assume.holds]
  exact⟨by simp,by simp,fun _=>Modest.zero,by simp,by simp⟩⟩
end
theorem own:ownKnob Tryz.prog.godebug=none:=by kernel_rfl
theorem Es {H:Type} (d:DataW H):1<=Rows.uptoBulk d:=by
 cases d with
 | lit l=>cases l <;> simp[Rows.uptoBulk]
 | nil=>simp[Rows.uptoBulk]
 | ptr d=>simp[Rows.uptoBulk]
 | slice elems spare=>simp[Rows.uptoBulk]
 | agg parts=>simp[Rows.uptoBulk]
 | iface t d=>simp[Rows.uptoBulk]
 | map entries=>simp[Rows.uptoBulk]
 | held h=>simp[Rows.uptoBulk]
theorem uc {H:Type} {d:DataW H} {l:List (DataW H)} (h:d∈l):Rows.uptoBulk d<=Rows.uptoBulkAll l:=by
 induction l with
 | nil=>cases h
 | cons x r ih=>
  simp only[Rows.uptoBulkAll]
  cases List.mem_cons.1 h with
  | inl e=>subst e;omega
  | inr e=>have:=ih e;omega
theorem xy {H:Type} (bytes:List UInt8):Rows.uptoBulk (DataW.lit (H:=H) (.string bytes))=bytes.length+1:=by
 simp[Rows.uptoBulk]
theorem zH {H:Type} {l:List (DataW H)} (hk:Rows.uptoSmall H l=true):Rows.uptoBulkAll l<=1048576:=of_decide_eq_true hk
end Go.Proofs.YtiaifckpmefinaaGreatDoor
namespace Go.Proofs.YtiaifckpmefinaaGreatDoor
namespace M
open Go.AM Go.RowKit Go.Lib
open aK (aG bB fa)
variable {H:Type} {enc:TypeId×Value->H} {w:World} {S:Nat->Prop}
theorem xz:zx enc Tryz.prog w S 3 1 fun xs d=>∃n:Int,xs=[i64 n]/\d=.lit (.int .i64 n):=F2 Tryz.underlying3
theorem Lq:zx enc Tryz.prog w S 9 1 fun xs d=>∃s:ByteArray,xs=[str s]/\d=.lit (.string s.data.toList):=F3 Tryz.underlying9
theorem Et:zx enc Tryz.prog w S 221 4 fun xs _=>∃r:aG,xs=rc r:=fun n cs x h=>by
 obtain⟨xs,l1,l2,l3,ds,e,ld,q⟩:=iv (S:=S) (Qs:=fun _ xs d=>∃n:Int,xs=[i64 n]/\d=.lit (.int .i64 n)) Tryz.underlying221 (Go.Deep.hone_of (by kernel_rfl)) (by kernel_rfl) (fun i f hf=>by
  match i,hf with
  | 0,hf=>cases hf;exact xz
  | 1,hf=>cases hf;exact xz
  | 2,hf=>cases hf;exact xz
  | 3,hf=>cases hf;exact xz
  | n+4,hf=>cases hf) _ _ _ h
 have l1:xs.length=4:=l1
 have ld:ds.length=4:=ld
 obtain⟨a,b,c,d,rfl⟩:∃a b c d,xs=[a,b,c,d]:=by
  match xs,l1 with
  | [a,b,c,d],_=>exact⟨a,b,c,d,rfl⟩
 obtain⟨a',b',c',d',rfl⟩:∃a b c d,ds=[a,b,c,d]:=by
  match ds,ld with
  | [a,b,c,d],_=>exact⟨a,b,c,d,rfl⟩
 obtain⟨n0,e0,_⟩:=q 0 _ _ rfl rfl
 obtain⟨n1,e1,_⟩:=q 1 _ _ rfl rfl
 obtain⟨n2,e2,_⟩:=q 2 _ _ rfl rfl
 obtain⟨n3,e3,_⟩:=q 3 _ _ rfl rfl
 cases e0;cases e1;cases e2;cases e3
 exact⟨_,rfl,l2,l3,⟨n0,n1,n2,n3⟩,rfl⟩
abbrev Sp (enc:TypeId×Value->H) (w:World) (S:Nat->Prop) (t:TypeId) (k:Nat) {γ:Type} (f:γ->List PV) (B:γ->Nat->Prop):Prop:=zx enc Tryz.prog w S t k fun xs d=>∃r,xs=f r/\B r (Rows.uptoBulk d)
theorem qC:Sp enc w S 3 1 (fun n=>[i64 n]) fun _ _=>True:=fun n cs x h=>by
 obtain⟨xs,l1,l2,l3,z,e,_⟩:=xz (S:=S) n cs x h
 exact⟨xs,l1,l2,l3,z,e,trivial⟩
theorem IW:Sp enc w S 9 1 (fun s=>[str s]) fun s n=>s.size<=n:=fun n cs x h=>by
 obtain⟨xs,l1,l2,l3,z,e,d⟩:=Lq (S:=S) n cs x h
 refine⟨xs,l1,l2,l3,z,e,?_⟩
 rw[d,xy]
 have:z.data.toList.length=z.size:=by simp
 omega
theorem vD {α γ:Type} {f:γ->α} {B:γ->Nat->Prop} (hm:∀r m n,m<=n->B r m->B r n):∀{es:List α} {ds:List (DataW H)},es.length=ds.length->(∀(i:Nat) x y,es[i]?=some x->ds[i]?=some y->∃r,x=f r/\B r (Rows.uptoBulk y))->∃l:List γ,es=l.map f/\l.length<=Rows.uptoBulkAll ds/\∀r∈l,B r (Rows.uptoBulkAll ds)
 | [],_,_,_=>⟨[],rfl,Nat.zero_le _,fun r h=>by cases h⟩
 | x::es,[],hl,_=>by cases hl
 | x::es,y::ds,hl,h=>by
  obtain⟨r,rfl,hr⟩:=h 0 x y rfl rfl
  obtain⟨l,rfl,h1,h2⟩:=vD hm (es:=es) (ds:=ds) (by simpa using hl) (fun i a b h1 h2=>h (i+1) a b (by simpa using h1) (by simpa using h2))
  have e:Rows.uptoBulkAll (y::ds)=Rows.uptoBulk y+Rows.uptoBulkAll ds:=by simp only[Rows.uptoBulkAll]
  have b1:=Es y
  refine⟨r::l,rfl,by rw[List.length_cons];omega,fun q hq=>?_⟩
  rcases List.mem_cons.1 hq with h | h
  ·subst h;exact hm _ _ _ (by omega) hr
  exact hm _ _ _ (by omega) (h2 q h)
theorem k_ {t e:TypeId} {k:Nat} {γ:Type} {f:γ->List PV} {B:γ->Nat->Prop} (ht:Tryz.prog.underlying t=some (.slice e)) (hc:Tryz.prog.cellsOf e=k) (hk:0 < k) (hS:∀b,b < w.heap.size->S b) (hm:∀r m n,m<=n->B r m->B r n) (he:Sp enc w S e k f B):
  Sp enc w S t 1 (fun l:List γ=>[.sl (l.map f)]) fun l n=>l.length<=n/\∀r∈l,B r n:=fun n cs x h=>by
 obtain⟨xs,l1,l2,l3,es,ds,sp,rfl,hl,hd,q⟩:=Cs ht hc hk hS he _ _ _ h
 obtain⟨l,rfl,b1,b2⟩:=vD hm hl q
 have hb:Rows.uptoBulkAll ds<=Rows.uptoBulk x.1:=by
  rcases hd with⟨h1,h2⟩ | h1
  ·rw[h2];exact Nat.zero_le _
  rw[h1];simp only[Rows.uptoBulk];omega
 exact⟨_,l1,l2,l3,l,rfl,by omega,fun r hr=>hm _ _ _ hb (b2 r hr)⟩
theorem aJ {ds:List (DataW H)} {i:Nat} {y:DataW H} (h:ds[i]?=some y):Rows.uptoBulk y<=Rows.uptoBulk (.agg ds):=by
 have:=uc (List.mem_of_getElem? h)
 simp only[Rows.uptoBulk]
 omega
theorem Bb:Sp enc w S 221 4 rc fun _ _=>True:=fun n cs x h=>by
 obtain⟨xs,l1,l2,l3,r,e⟩:=Et (S:=S) n cs x h
 exact⟨xs,l1,l2,l3,r,e,trivial⟩
theorem Eu (hS:∀b,b < w.heap.size->S b):Sp enc w S 123 1 (fun l=>[ca l]) fun l n=>l.length<=n/\∀r∈l,True:=k_ (k:=4) Tryz.underlying123 (by kernel_rfl) (by decide) hS (fun _ _ _ _ h=>h) Bb
theorem Ga (hS:∀b,b < w.heap.size->S b):Sp enc w S 192 1 (fun l=>[strs l]) fun l n=>l.length<=n/\∀s∈l,s.size<=n:=k_ (k:=1) Tryz.underlying192 (by kernel_rfl) (by decide) hS (fun _ _ _ h1 h2=>Nat.le_trans h2 h1) IW
theorem Gb (hS:∀b,b < w.heap.size->S b):Sp enc w S 147 3 arr fun _ _=>True:=fun n cs x h=>by
 obtain⟨xs,l1,l2,l3,ds,e,ld,q⟩:=iv (S:=S) (Qs:=fun i xs d=>match i with
   | 1=>∃r,xs=[ca r]/\(r.length<=Rows.uptoBulk d/\∀z∈r,True)
   | _=>∃r,xs=[i64 r]/\True) Tryz.underlying147 (Go.Deep.hone_of (by kernel_rfl)) (by kernel_rfl) (fun i f hf=>by
  match i,hf with
  | 0,hf=>cases hf;exact qC
  | 1,hf=>cases hf;exact Eu hS
  | 2,hf=>cases hf;exact qC
  | n+3,hf=>cases hf) _ _ _ h
 have l1:xs.length=3:=l1
 have ld:ds.length=3:=ld
 obtain⟨a,b,c,rfl⟩:∃a b c,xs=[a,b,c]:=by
  match xs,l1 with
  | [a,b,c],_=>exact⟨a,b,c,rfl⟩
 obtain⟨a',b',c',rfl⟩:∃a b c,ds=[a,b,c]:=by
  match ds,ld with
  | [a,b,c],_=>exact⟨a,b,c,rfl⟩
 obtain⟨n0,e0,_⟩:=q 0 _ _ rfl rfl
 obtain⟨n1,e1,_⟩:=q 1 _ _ rfl rfl
 obtain⟨n2,e2,_⟩:=q 2 _ _ rfl rfl
 cases e0;cases e1;cases e2
 exact⟨_,rfl,l2,l3,⟨n0,n1,n2⟩,Z,Y⟩
def oo (c:Class) (n:Nat):Prop:=c.name.size<=n/\c.nets.length<=n/\∀s∈c.nets,s.size<=n
theorem jT (c:Class) (m n:Nat) (h:m<=n):oo c m->oo c n:=fun ⟨h1,h2,h3⟩=>⟨by omega,by omega,fun s hs=>Nat.le_trans (h3 s hs) h⟩
theorem Ev (hS:∀b,b < w.heap.size->S b):Sp enc w S 231 4 kl oo:=fun n cs x h=>by
 obtain⟨xs,l1,l2,l3,ds,e,ld,q⟩:=iv (S:=S) (Qs:=fun i xs d=>match i with
   | 0=>∃r,xs=[str r]/\r.size<=Rows.uptoBulk d
   | 1=>∃r,xs=[strs r]/\(r.length<=Rows.uptoBulk d/\∀s∈r,s.size<=Rows.uptoBulk d)
   | _=>∃r,xs=[i64 r]/\True) Tryz.underlying231 (Go.Deep.hone_of (by kernel_rfl)) (by kernel_rfl) (fun i f hf=>by
  match i,hf with
  | 0,hf=>cases hf;exact IW
  | 1,hf=>cases hf;exact Ga hS
  | 2,hf=>cases hf;exact qC
  | 3,hf=>cases hf;exact qC
  | n+4,hf=>cases hf) _ _ _ h
 have l1:xs.length=4:=l1
 have ld:ds.length=4:=ld
 obtain⟨a,b,c,d,rfl⟩:∃a b c d,xs=[a,b,c,d]:=by
  match xs,l1 with
  | [a,b,c,d],_=>exact⟨a,b,c,d,rfl⟩
 obtain⟨a',b',c',d',rfl⟩:∃a b c d,ds=[a,b,c,d]:=by
  match ds,ld with
  | [a,b,c,d],_=>exact⟨a,b,c,d,rfl⟩
 obtain⟨n0,e0,p0⟩:=q 0 _ _ rfl rfl
 obtain⟨n1,e1,p1,p2⟩:=q 1 _ _ rfl rfl
 obtain⟨n2,e2,_⟩:=q 2 _ _ rfl rfl
 obtain⟨n3,e3,_⟩:=q 3 _ _ rfl rfl
 cases e0;cases e1;cases e2;cases e3
 have i0:=aJ (ds:=[a',b',c',d']) (i:=0) rfl
 have i1:=aJ (ds:=[a',b',c',d']) (i:=1) rfl
 rw[<-e] at i0 i1
 exact⟨_,rfl,l2,l3,⟨n0,n1,n2,n3⟩,rfl,by exact Nat.le_trans p0 i0,by exact Nat.le_trans p1 i1,fun s hs=>Nat.le_trans (p2 s hs) i1⟩
def qT (r:mK) (n:Nat):Prop:=r.classes.length<=n/\r.areas.length<=n/\∀c∈r.classes,oo c n
theorem Ew (hS:∀b,b < w.heap.size->S b):Sp enc w S 41 7 rl qT:=fun n cs x h=>by
 obtain⟨xs,l1,l2,l3,ds,e,ld,q⟩:=iv (S:=S) (Qs:=fun i xs d=>match i with
   | 5=>∃r:List Class,xs=[.sl (r.map kl)]/\(r.length<=Rows.uptoBulk d/\∀c∈r,oo c (Rows.uptoBulk d))
   | 6=>∃r:List zE,xs=[.sl (r.map arr)]/\(r.length<=Rows.uptoBulk d/\∀c∈r,True)
   | _=>∃r,xs=[i64 r]/\True) Tryz.underlying41 (Go.Deep.hone_of (by kernel_rfl)) (by kernel_rfl) (fun i f hf=>by
  match i,hf with
  | 0,hf=>cases hf;exact qC
  | 1,hf=>cases hf;exact qC
  | 2,hf=>cases hf;exact qC
  | 3,hf=>cases hf;exact qC
  | 4,hf=>cases hf;exact qC
  | 5,hf=>cases hf;exact k_ (k:=4) Tryz.underlying38 (by kernel_rfl) (by decide) hS jT (Ev hS)
  | 6,hf=>cases hf;exact k_ (k:=3) Tryz.underlying39 (by kernel_rfl) (by decide) hS (fun _ _ _ _ h=>h) (Gb hS)
  | n+7,hf=>cases hf) _ _ _ h
 have l1:xs.length=7:=l1
 have ld:ds.length=7:=ld
 obtain⟨x0,x1,x2,x3,x4,x5,x6,rfl⟩:∃a b c d e f g,xs=[a,b,c,d,e,f,g]:=by
  match xs,l1 with
  | [a,b,c,d,e,f,g],_=>exact⟨a,b,c,d,e,f,g,rfl⟩
 obtain⟨y0,y1,y2,y3,y4,y5,y6,rfl⟩:∃a b c d e f g,ds=[a,b,c,d,e,f,g]:=by
  match ds,ld with
  | [a,b,c,d,e,f,g],_=>exact⟨a,b,c,d,e,f,g,rfl⟩
 obtain⟨n0,e0,_⟩:=q 0 _ _ rfl rfl
 obtain⟨n1,e1,_⟩:=q 1 _ _ rfl rfl
 obtain⟨n2,e2,_⟩:=q 2 _ _ rfl rfl
 obtain⟨n3,e3,_⟩:=q 3 _ _ rfl rfl
 obtain⟨n4,e4,_⟩:=q 4 _ _ rfl rfl
 obtain⟨n5,e5,p1,p2⟩:=q 5 _ _ rfl rfl
 obtain⟨n6,e6,p3,_⟩:=q 6 _ _ rfl rfl
 cases e0;cases e1;cases e2;cases e3;cases e4;cases e5;cases e6
 have i0:=aJ (ds:=[y0,y1,y2,y3,y4,y5,y6]) (i:=5) rfl
 have i1:=aJ (ds:=[y0,y1,y2,y3,y4,y5,y6]) (i:=6) rfl
 rw[<-e] at i0 i1
 exact⟨_,rfl,l2,l3,⟨n0,n1,n2,n3,n4,n5,n6⟩,rfl,by exact Nat.le_trans p1 i0,by exact Nat.le_trans p3 i1,fun c hc=>jT c _ _ i0 (p2 c hc)⟩
theorem Ex:Sp enc w S 52 2 (fun p:Int×Int=>[i64 p.1,i64 p.2]) fun _ _=>True:=fun n cs x h=>by
 obtain⟨xs,l1,l2,l3,ds,e,ld,q⟩:=iv (S:=S) (Qs:=fun i xs d=>∃r,xs=[i64 r]/\True) Tryz.underlying52 (Go.Deep.hone_of (by kernel_rfl)) (by kernel_rfl) (fun i f hf=>by
  match i,hf with
  | 0,hf=>cases hf;exact qC
  | 1,hf=>cases hf;exact qC
  | n+2,hf=>cases hf) _ _ _ h
 have l1:xs.length=2:=l1
 have ld:ds.length=2:=ld
 obtain⟨a,b,rfl⟩:∃a b,xs=[a,b]:=by
  match xs,l1 with
  | [a,b],_=>exact⟨a,b,rfl⟩
 obtain⟨a',b',rfl⟩:∃a b,ds=[a,b]:=by
  match ds,ld with
  | [a,b],_=>exact⟨a,b,rfl⟩
 obtain⟨n0,e0,_⟩:=q 0 _ _ rfl rfl
 obtain⟨n1,e1,_⟩:=q 1 _ _ rfl rfl
 cases e0;cases e1
 exact⟨_,rfl,l2,l3,(n0,n1),Z,Y⟩
theorem Ey {r:mK} (h:qT r 1048576):om r:=⟨fun c hc=>by
  obtain⟨h1,h2,h3⟩:=h.2.2 c hc
  exact⟨Nat.lt_of_le_of_lt h1 (by decide),h2,fun s hs=>Nat.lt_of_le_of_lt (h3 s hs) (by decide)⟩,h.1,h.2.1⟩
theorem vE (r:mK) (m n:Nat) (h:m<=n):qT r m->qT r n:=fun ⟨h1,h2,h3⟩=>⟨by omega,by omega,fun c hc=>jT c _ _ h (h3 c hc)⟩
theorem Bc {d:DataW H} {l:List (DataW H)} (hk:Rows.uptoSmall H l=true) (h:d∈l):Rows.uptoBulk d<=1048576:=Nat.le_trans (uc h) (zH hk)
theorem ue {P:Program} (hl:laidOutB P=true) {W W':World} (hb:Below W.heap.size W W'):∀{ts:List TypeId} {vs:List Value} {ds:List (DataW H)} {ps:List MemPlace},(ts.all fun t=>P.readableRec t && decide (t < P.types.size))=true->DataW.TrodAll enc P W 0 (fun _=>true) true ts vs ds ps->(∀p∈ps,p.block < W.heap.size)->∀sp:Nat->Bool,(∀p∈ps,sp p.block=true)->DataW.TrodAll enc P W' 0 sp true ts vs ds ps
 | [],[],[],_,_,h,_,_,_=>h
 | t::ts,v::vs,d::ds,ps,ht,h,dS,sp,hs=>by
  obtain⟨p,q,h1,h2,rfl⟩:=h
  simp only[List.all_cons,Bool.and_eq_true,decide_eq_true_eq] at ht
  have OL:(ts.all fun t=>P.readableRec t && decide (t < P.types.size))=true:=by simpa using ht.2
  exact⟨p,q,Go.WideElems.Trod_stays hl ht.1.1 ht.1.2 h1 (fun x hx=>hb.same (dS x (List.mem_append_left _ hx))) (fun x hx=>hs x (List.mem_append_left _ hx)),
   ue hl hb OL h2 (fun x hx=>dS x (List.mem_append_right _ hx)) sp (fun x hx=>hs x (List.mem_append_right _ hx)),rfl⟩
 | [],_::_,_,_,_,h,_,_,_=>h.elim
 | [],[],_::_,_,_,h,_,_,_=>h.elim
 | _::_,[],_,_,_,h,_,_,_=>h.elim
 | _::_,_::_,[],_,_,h,_,_,_=>h.elim
theorem xA {W : World} (h1 : ∃ m : Int, W.cell? ⟨1, 0, none⟩ = some (.int .i64 m)) (h2 : Lib.TabIs Tryz.prog W "internal/strconv.uint64pow10" .u64 Lib.pow10Tab) : Env (fun b => b < W.heap.size) W := by
 refine⟨?_,block_lt_of_cell (h2.cell IM 0 (by decide)),h1,h2⟩
 obtain⟨m,hm⟩:=h1
 exact block_lt_of_cell hm
theorem Lr:laidOutB Tryz.prog=true:=by kernel_rfl
theorem IX {s:ByteArray} (h:s.size<=1048576):aQ s:=Nat.lt_of_le_of_lt h (by decide)
end M
namespace M
open Go.AM Go.RowKit Go.Lib
open aK (aG bB fa)
def dP (n lo hi:Int):Bool:=decide (lo<=n) && decide (n<=hi)
theorem cO {n lo hi:Int}:dP n lo hi=true↔lo<=n/\n<=hi:=by simp[dP]
theorem Gc {n lo hi:Int}:dP n lo hi=false↔¬(lo<=n/\n<=hi):=by
 rw[<-cO,Bool.not_eq_true]
theorem gM (n lo hi:Int):af C 77 [.pv (i64 n),.pv (i64 lo),.pv (i64 hi)] (.p (bool (dP n lo hi))) []:=by
 refine ah hC Tryz.func77 rfl rfl 15 rfl (by decide) (by kernel_rfl) fun _ _ _ _ _=>?_
 ((repeat refine yY Z ?_);refine iF Z (fun h=>?_) (fun h=>?_)) <;> (((repeat refine yY Z ?_);refine aa zi ?_);refine And.intro ?_ trivial) <;> simp[bool,dP,h]
theorem jU (n lo hi:Int):af C 183 [.pv (i64 n),.pv (i64 lo),.pv (i64 hi)] (.p (bool (dP n lo hi))) []:=by
 refine ah hC Tryz.func183 rfl rfl 15 rfl (by decide) (by kernel_rfl) fun _ _ _ _ _=>?_
 ((repeat refine yY Z ?_);refine iF Z (fun h=>?_) (fun h=>?_)) <;> (((repeat refine yY Z ?_);refine aa zi ?_);refine And.intro ?_ trivial) <;> simp[bool,dP,h]
theorem cb (n lo hi:Int):af C 116 [.pv (i64 n),.pv (i64 lo),.pv (i64 hi)] (.p (bool (dP n lo hi))) []:=by
 refine ah hC Tryz.func116 rfl rfl 15 rfl (by decide) (by kernel_rfl) fun _ _ _ _ _=>?_
 ((repeat refine yY Z ?_);refine iF Z (fun h=>?_) (fun h=>?_)) <;> (((repeat refine yY Z ?_);refine aa zi ?_);refine And.intro ?_ trivial) <;> simp[bool,dP,h]
theorem gN (n lo hi:Int):af C 122 [.pv (i64 n),.pv (i64 lo),.pv (i64 hi)] (.p (bool (dP n lo hi))) []:=by
 refine ah hC Tryz.func122 rfl rfl 15 rfl (by decide) (by kernel_rfl) fun _ _ _ _ _=>?_
 ((repeat refine yY Z ?_);refine iF Z (fun h=>?_) (fun h=>?_)) <;> (((repeat refine yY Z ?_);refine aa zi ?_);refine And.intro ?_ trivial) <;> simp[bool,dP,h]
def Gd (b:UInt8):Bool:=(decide ((97:Int)<=b.toNat) && decide ((b.toNat:Int)<=122)) || (decide ((65:Int)<=b.toNat) && decide ((b.toNat:Int)<=90))
def Ge (b:UInt8):Bool:=decide ((b.toNat:Int)=95) || decide ((b.toNat:Int)=45) || (decide ((48:Int)<=b.toNat) && decide ((b.toNat:Int)<=57))
def xB (s:ByteArray) (i:Nat):Bool:=match s.data.toList[i]? with
 | some b=>Gd b || (decide (0 < i) && Ge b)
 | none=>true
def sf (f:Nat->Bool):Nat->Bool
 | 0=>true
 | n+1=>sf f n && f n
theorem sg {f:Nat->Bool} {i:Nat} (h:f i=false):∀{n:Nat},i < n->sf f n=false
 | 0,hn=>by omega
 | n+1,hn=>by
  rw[sf]
  by_cases e:i=n
  ·subst e;rw[h,Bool.and_false]
  rw[sg h (by omega:i < n),Bool.false_and]
def xC (s:ByteArray):Bool:=sf (xB s) s.size && dP s.size 1 40
theorem xD (s:ByteArray) (hs:s.size<=9223372036854775807):af C 187 [.pv (str s)] (.p (bool (xC s))) []:=by
 refine ah hC Tryz.func187 rfl rfl 59 rfl (by decide) (by kernel_rfl) fun _ _ _ _ _=>?_
 (repeat refine yY Z ?_)
 refine ak (fun i:Nat=>i<=s.size/\sf (xB s) i=true) (fun i=>[(0,.p (str s)),(7,.p (i64 s.size)),(8,.p (i64 i))]) (fun _=>[]) (fun i=>s.size - i) 0 _ (aD.refl _ _) ⟨Nat.zero_le _,rfl⟩ ⟨Z,Z,Z,Y⟩ trivial fun i hi t h=>?_
 (repeat refine yY Z ?_);refine iF Z (fun h1=>?_) (fun h1=>?_)
 ·obtain⟨b,hb,jG⟩:=xg (s:=s) (i:=i) (by omega)
  have e0:xB s i=(Gd b || (decide (0 < i) && Ge b)):=by rw[xB,jG]
  have xj:xB s i=false->xC s=false:=fun h=>by rw[xC,sg h (by omega),Bool.false_and]
  have hnext:xB s i=true->sf (xB s) (i+1)=true:=fun h=>by rw[sf,hi.2,h];rfl
  ((repeat refine yY Z ?_);refine zX zi ?_);refine⟨b,⟨by omega,by rw[Int.toNat_natCast];exact hb⟩,?_⟩
  repeat' ((repeat refine yY Z ?_);refine iF Z (fun h=>?_) (fun h=>?_))
  all_goals (first | ((repeat refine yY Z ?_);refine zA zi ?_) | ((repeat refine yY Z ?_);refine aa zi ?_) | ((repeat refine yY Z ?_);refine zA zi ?_) | ((repeat refine yY Z ?_);refine zA zi ?_) | ((repeat refine yY Z ?_);refine zA zi ?_) | ((repeat refine yY Z ?_);refine aa zi ?_) | ((repeat refine yY Z ?_);refine zA zi ?_))
  all_goals first
   | (
     refine And.intro ⟨by omega,by omega⟩ ?_
     ((repeat refine yY Z ?_);refine ae ?_);refine⟨(i+1),_,aD.refl _ _,?_⟩
     exact⟨⟨by omega,hnext (by rw[e0];simp only[Gd,Ge,Bool.or_eq_true,Bool.and_eq_true,decide_eq_true_eq];omega)⟩,by omega,⟨Z,Z,Z,Y⟩,trivial⟩)
   | (
     refine And.intro ?_ trivial
     rw[xj (by rw[e0];simp only[Gd,Ge,Bool.or_eq_false_iff,Bool.and_eq_false_iff,decide_eq_false_iff_not];omega)]
     rfl)
 have e1:i=s.size:=by omega
 have fA:sf (xB s) s.size=true:=by rw[<-e1];exact hi.2
 ((repeat refine yY Z ?_);refine iF Z (fun h2=>?_) (fun h2=>?_)) <;> (((repeat refine yY Z ?_);refine aa zi ?_);refine And.intro ?_ trivial) <;> simp[bool,xC,dP,fA,h2]
structure cG where
 name:ByteArray
 kind:Int
 group:Int
structure aO where
 name:ByteArray
 pins:List cG
structure Part where
 name:ByteArray
 type:ByteArray
structure kA where
 part:ByteArray
 pin:ByteArray
deriving DecidableEq
structure cu where
 name:ByteArray
 kind:Int
 thick:Int
 grow:Int
structure Body where
 name:ByteArray
 w:Int
 h:Int
 tall:Int
 nozzle:ByteArray
def l6 (p:cG):List PV:=[str p.name,i64 p.kind,i64 p.group]
def nz (t:aO):List PV:=[str t.name,.sl (t.pins.map l6)]
def uf (p:Part):List PV:=[str p.name,str p.type]
def vF (p:kA):List PV:=[str p.part,str p.pin]
def l7 (m:cu):List PV:=[str m.name,i64 m.kind,i64 m.thick,i64 m.grow]
def tr (b:Body):List PV:=[str b.name,i64 b.w,i64 b.h,i64 b.tall,str b.nozzle]
theorem oq:∀a b:List UInt8,(Lib.compareBytes a b < 0↔a < b)/\(Lib.compareBytes a b=0↔a=b)
 | [],[]=>by simp[Lib.compareBytes]
 | [],_::_=>by simp[Lib.compareBytes]
 | _::_,[]=>by simp[Lib.compareBytes]
 | x::a,y::b=>by
  have ih:=oq a b
  unfold Lib.compareBytes
  rw[List.cons_lt_cons_iff,List.cons.injEq]
  by_cases e:x=y
  ·subst e
   have hx:¬x < x:=UInt8.lt_irrefl x
   simp[hx,ih.1,ih.2]
  rcases UInt8.lt_or_lt_of_ne e with h | h
  ·simp[e,h]
  have h2:¬x < y:=UInt8.not_lt.2 (UInt8.le_of_lt h)
  simp[e,h,h2]
theorem ng (a b:ByteArray):decide (Lib.compareBytes a.data.toList b.data.toList < 0)=ct a b:=by
 rw[Bool.eq_iff_iff,jS,decide_eq_true_iff]
 exact (oq _ _).1
theorem cmp_eq (a b:ByteArray):Lib.compareBytes a.data.toList b.data.toList=0↔a=b:=by
 rw[(oq _ _).2]
 refine⟨fun h=>?_,fun h=>by rw[h]⟩
 obtain⟨⟨x⟩⟩:=a
 obtain⟨⟨y⟩⟩:=b
 simpa using h
theorem dx (a b:ByteArray):af C 156 [.pv (str a),.pv (str b)] (.p (i64 (Lib.compareBytes a.data.toList b.data.toList))) []:=
 pk [.string a,.string b] _ ⟨_,Tryz.func156,rfl,rfl⟩ fun S w _ _=>(Tryz.strings_Compare a b w).mono fun e w' h=>⟨h.1,by rw[h.2];exact Below.refl _ _⟩
def CU (f:FuncId):PV:=.im (.func (.func f) #[] #[])
def jV {α:Type} (f:α->ByteArray) (l:List α) (x:ByteArray):Nat:=(l.filter fun y=>ct (f y) x).length
def cJ {α:Type} (f:α->ByteArray) (l:List α) (x:ByteArray):Bool:=l.any fun y=>decide (f y=x)
def fy {α:Type} (f:α->ByteArray) (l:List α) (x:ByteArray):Int:=db (fun y=>decide (f y=x)) l 0
def bM {α:Type} (f:α->ByteArray) (l:List α):Prop:=l.Pairwise fun a b=>ct (f a) (f b)=true
theorem bC {α:Type} {f:α->ByteArray} {l:List α} (h:bM f l) {i j:Nat} {a b:α} (ha:l[i]?=some a) (hb:l[j]?=some b) (AH:i < j):ct (f a) (f b)=true:=by
 obtain⟨hi,rfl⟩:=List.getElem?_eq_some_iff.1 ha
 obtain⟨hj,rfl⟩:=List.getElem?_eq_some_iff.1 hb
 exact List.pairwise_iff_getElem.1 h i j hi hj AH
theorem gV {α:Type} {f:α->ByteArray} {l:List α} {x:ByteArray} {i:Nat} (hi:i<=l.length) (h1:∀(k:Nat) y,k < i->l[k]?=some y->ct (f y) x=true) (h2:∀(k:Nat) y,i<=k->l[k]?=some y->ct (f y) x=false):jV f l x=i:=by
 unfold jV
 rw[<-List.take_append_drop i l,List.filter_append,List.length_append]
 have e1:(l.take i).filter (fun y=>ct (f y) x)=l.take i:=List.filter_eq_self.2 fun y hy=>by
  obtain⟨k,hk⟩:=List.mem_iff_getElem?.1 hy
  rw[List.getElem?_take] at hk
  split at hk
  ·exact h1 k y (by assumption) hk
  cases hk
 have e2:(l.drop i).filter (fun y=>ct (f y) x)=[]:=List.filter_eq_nil_iff.2 fun y hy=>by
  obtain⟨k,hk⟩:=List.mem_iff_getElem?.1 hy
  rw[List.getElem?_drop] at hk
  rw[h2 (i+k) y (by omega) hk];decide
 rw[e1,e2,List.length_take]
 simp;omega
theorem cK {α:Type} {f:α->ByteArray} {l:List α} {x:ByteArray}:cJ f l x=true↔∃y∈l,f y=x:=by simp[cJ]
theorem gj {a b:ByteArray} (h:a=b):ct a b=false:=by rw[h,iw]
theorem ot {α:Type} {f:α->ByteArray} {l:List α} {x:ByteArray} {y:α} {a:Nat} (hs:bM f l) (q3:∀(k:Nat) z,k < a->l[k]?=some z->ct (f z) x=true) (hy:l[a]?=some y) (Hm:ct (f y) x=false) (bG:¬f y=x):cJ f l x=false:=by
 rw[Bool.eq_false_iff]
 intro h4
 obtain⟨z,hz,Cw⟩:=cK.1 h4
 obtain⟨k,hk⟩:=List.mem_iff_getElem?.1 hz
 rcases Nat.lt_trichotomy k a with h | h | h
 ·have:=q3 k z h hk
  rw[gj Cw] at this;cases this
 ·subst h
  rw[hy] at hk;injection hk with hk;exact bG (by rw[hk];exact Cw)
 have:=bC hs hy hk h
 rw[Cw,Hm] at this;cases this
theorem gk {α:Type} {f:α->ByteArray} {l:List α} {x:ByteArray} (hs:bM f l):fy f l x=if cJ f l x=true then (jV f l x:Int) else -1:=by
 split
 ·rename_i h
  obtain⟨y,hy,Hm⟩:=cK.1 h
  obtain⟨k,hk⟩:=List.mem_iff_getElem?.1 hy
  have Cp:=(List.getElem?_eq_some_iff.1 hk).1
  have b:jV f l x=k:=gV (by omega) (fun j z hj hz=>by rw[<-Hm];exact bC hs hz hk hj) (fun j z hj hz=>by
   by_cases e:j=k
   ·subst e;rw[hk] at hz;injection hz with hz;rw[<-hz];exact gj Hm
   rw[Bool.eq_false_iff];intro h2
   have:=cF (bC hs hk hz (by omega)) h2
   rw[gj Hm] at this;cases this)
  rw[b,fy,dr (p:=fun y=>decide (f y=x)) hk (by simp[Hm]) (fun z hz=>?_)]
  ·omega
  obtain⟨j,hj⟩:=List.mem_iff_getElem?.1 hz
  rw[List.getElem?_take] at hj
  split at hj
  ·have:=bC hs hj hk (by assumption)
   simp only[decide_eq_false_iff_not]
   intro e
   rw[e,Hm,iw] at this;cases this
  cases hj
 rename_i h
 exact bT fun z hz=>by
  simp only[decide_eq_false_iff_not]
  exact fun e=>h (cK.2 ⟨z,hz,e⟩)
theorem si {α:Type} {f:α->ByteArray} {l:List α} {x:ByteArray} (h:0<=fy f l x):∃(k:Nat) (y:α),fy f l x=k/\l[k]?=some y/\f y=x:=by
 have key:∀(l:List α) (n:Nat),db (fun y=>decide (f y=x)) l n=-1\/∃(k:Nat) (y:α),db (fun y=>decide (f y=x)) l n=((n+k:Nat):Int)/\l[k]?=some y/\f y=x:=by
  intro l
  induction l with
  | nil=>exact fun n=>.inl rfl
  | cons a l ih=>
   intro n
   rw[db]
   cases h:decide (f a=x) with
   | true=>exact .inr ⟨0,a,rfl,rfl,by simpa using h⟩
   | false=>
    rcases ih (n+1) with e | ⟨k,y,e1,e2,e3⟩
    ·exact .inl e
    exact .inr ⟨k+1,y,by simp only;rw[e1];congr 1;omega,by simpa using e2,e3⟩
 rcases key l 0 with e | ⟨k,y,e1,e2,e3⟩
 ·rw[fy,e] at h;omega
 exact⟨k,y,by rw[fy,e1,Nat.zero_add],e2,e3⟩
theorem iy {α:Type} {f:α->ByteArray} {l:List α} {x:ByteArray}:decide (fy f l x < 0)=!cJ f l x:=by
 cases h:cJ f l x with
 | true=>
  obtain⟨y,hy,Hm⟩:=cK.1 h
  simp only[Bool.not_true,decide_eq_false_iff_not]
  intro h2
  have e:(l.any fun y=>decide (f y=x))=true:=h
  rw[<-fb _ l 0] at e
  have e2:db (fun y=>decide (f y=x)) l 0 < 0:=h2
  simp at e;omega
 | false=>
  simp only[Bool.not_false,decide_eq_true_eq]
  rw[fy,bT fun z hz=>by
   simp only[decide_eq_false_iff_not]
   exact fun e=>by rw[cK.2 ⟨z,hz,e⟩] at h;cases h]
  decide
theorem Be (p:aO) (s:ByteArray):af C 194 [.pv (.ag (nz p)),.pv (str s)] (.p (i64 (Lib.compareBytes p.name.data.toList s.data.toList))) []:=by
 refine ah hC Tryz.func194 rfl rfl 9 rfl (by decide) (by kernel_rfl) fun _ _ _ _ _=>?_
 ((repeat refine yY Z ?_);refine zX zi ?_);refine⟨_,_,(dx p.name s),?_⟩
 ((repeat refine yY Z ?_);refine aa zi ?_);refine And.intro ?_ trivial
 rfl
theorem zI (l:List aO) (x:ByteArray) (hs:bM aO.name l) (hN:l.length<=1000000000):af C 193 [.pv (.sl (l.map nz)),.pv (str x),.pv (CU 194)] (.tu [i64 (jV aO.name l x),bool (cJ aO.name l x)]) []:=by
 refine ah hC Tryz.func193 rfl rfl 49 rfl (by decide) (by kernel_rfl) fun _ _ _ _ _=>?_
 have lm:=ai l nz
 (repeat refine yY Z ?_)
 refine ak (fun p:Nat×Nat=>p.1<=p.2/\p.2<=l.length/\(∀(k:Nat) y,k < p.1->l[k]?=some y->ct (aO.name y) x=true)/\(∀(k:Nat) y,p.2<=k->l[k]?=some y->ct (aO.name y) x=false)) (fun p=>[(0,.p (.sl (l.map nz))),(1,.p (str x)),(2,.p (CU 194)),(8,.p (i64 l.length)),(9,.p (i64 p.1)),(10,.p (i64 p.2))]) (fun _=>[]) (fun p=>p.2 - p.1) (0,l.length) _ (aD.refl _ _) ⟨Nat.zero_le _,Nat.le_refl _,fun k y h=>by omega,fun k y h1 h2=>by have:=(List.getElem?_eq_some_iff.1 h2).1;simp only at h1;omega⟩ ⟨rfl,rfl,rfl,aS (by rw[lm]),rfl,aS (by rw[lm]),trivial⟩ trivial fun ⟨a,b⟩ hi t h=>?_
 obtain⟨q1,q2,q3,q4⟩:=hi
 simp only at q1 q2 q3 q4
 (repeat refine yY Z ?_);refine iF Z (fun h1=>?_) (fun h1=>?_) <;> try simp only[zB] at h1
 ·have hm:=kZ (a:=a) (b:=b) (by omega)
  obtain⟨y,hy⟩:=aj (l:=l) (i:=(a+b) / 2) (by omega)
  ((repeat refine yY Z ?_);refine zA zi ?_);refine And.intro ⟨by simp only;omega,by simp only;omega⟩ ?_
  ((repeat refine yY Z ?_);refine zA zi ?_);refine And.intro ⟨by decide,by decide⟩ ?_
  ((repeat refine yY Z ?_);refine zA zi ?_);refine And.intro ⟨by simp only;rw[hm];omega,by simp only;rw[hm];omega⟩ ?_
  ((repeat refine yY Z ?_);refine zX zi ?_);refine⟨(nz y),(idx hm hy),?_⟩
  ((repeat refine yY Z ?_);refine zX zi ?_);refine⟨_,_,(Be y x),?_⟩
  have hc:=ng y.name x
  (repeat refine yY Z ?_);refine iF Z (fun h2=>?_) (fun h2=>?_)
  ·have h2:ct (aO.name y) x=true:=by rw[<-hc];exact decide_eq_true h2
   ((repeat refine yY Z ?_);refine zA zi ?_);refine And.intro ⟨by simp only;rw[hm];omega,by simp only;rw[hm];omega⟩ ?_
   ((repeat refine yY Z ?_);refine ae ?_);refine⟨((a+b) / 2+1,b),_,aD.refl _ _,?_⟩
   refine⟨⟨by simp only;omega,q2,fun k z hk hz=>?_,q4⟩,by simp only;omega,⟨rfl,rfl,rfl,rfl,aS (by simp only;rw[hm];omega),Z,Y⟩,trivial⟩
   by_cases e:k=(a+b) / 2
   ·subst e
    rw[hy] at hz;injection hz with hz;subst hz;exact h2
   exact cF (bC hs hz hy (by simp only at hk;omega)) h2
  have h2:ct (aO.name y) x=false:=by rw[<-hc];exact decide_eq_false h2
  ((repeat refine yY Z ?_);refine ae ?_);refine⟨(a,(a+b) / 2),_,aD.refl _ _,?_⟩
  refine⟨⟨by simp only;omega,by simp only;omega,q3,fun k z hk hz=>?_⟩,by simp only;omega,⟨rfl,rfl,rfl,rfl,rfl,aS hm,trivial⟩,trivial⟩
  by_cases e:k=(a+b) / 2
  ·subst e
   rw[hy] at hz;injection hz with hz;subst hz;exact h2
  rw[Bool.eq_false_iff]
  intro dS
  rw[cF (bC hs hy hz (by simp only at hk;omega)) dS] at h2
  cases h2
 have e:a=b:=by omega
 subst e
 have hb:=gV q2 q3 q4
 (repeat refine yY Z ?_);refine iF Z (fun h2=>?_) (fun h2=>?_) <;> try simp only[zB] at h2
 ·obtain⟨y,hy⟩:=aj (l:=l) (i:=a) (by omega)
  ((repeat refine yY Z ?_);refine zX zi ?_);refine⟨(nz y),(idx rfl hy),?_⟩
  ((repeat refine yY Z ?_);refine zX zi ?_);refine⟨_,_,(Be y x),?_⟩
  ((repeat refine yY Z ?_);refine aa zi ?_);refine And.intro ?_ trivial
  have hq:=cmp_eq y.name x
  have h4:cJ aO.name l x=decide (Lib.compareBytes y.name.data.toList x.data.toList=0):=by
   by_cases e:y.name=x
   ·rw[decide_eq_true (hq.2 e)]
    exact cK.2 ⟨y,List.mem_of_getElem? hy,e⟩
   rw[decide_eq_false (fun h=>e (hq.1 h))]
   exact ot hs q3 hy (q4 a y (Nat.le_refl _) hy) e
  rw[hb,h4]
  rfl
 ((repeat refine yY Z ?_);refine aa zi ?_);refine And.intro ?_ trivial
 have h4:cJ aO.name l x=false:=by
  rw[Bool.eq_false_iff]
  intro h4
  obtain⟨z,hz,Cw⟩:=cK.1 h4
  obtain⟨k,hk⟩:=List.mem_iff_getElem?.1 hz
  have:=q3 k z (by have:=(List.getElem?_eq_some_iff.1 hk).1;omega) hk
  rw[gj Cw] at this;cases this
 rw[hb,h4]
 rfl
theorem Bf (p:cG) (s:ByteArray):af C 196 [.pv (.ag (l6 p)),.pv (str s)] (.p (i64 (Lib.compareBytes p.name.data.toList s.data.toList))) []:=by
 refine ah hC Tryz.func196 rfl rfl 9 rfl (by decide) (by kernel_rfl) fun _ _ _ _ _=>?_
 ((repeat refine yY Z ?_);refine zX zi ?_);refine⟨_,_,(dx p.name s),?_⟩
 ((repeat refine yY Z ?_);refine aa zi ?_);refine And.intro ?_ trivial
 rfl
theorem zJ (l:List cG) (x:ByteArray) (hs:bM cG.name l) (hN:l.length<=1000000000):af C 195 [.pv (.sl (l.map l6)),.pv (str x),.pv (CU 196)] (.tu [i64 (jV cG.name l x),bool (cJ cG.name l x)]) []:=by
 refine ah hC Tryz.func195 rfl rfl 49 rfl (by decide) (by kernel_rfl) fun _ _ _ _ _=>?_
 have lm:=ai l l6
 (repeat refine yY Z ?_)
 refine ak (fun p:Nat×Nat=>p.1<=p.2/\p.2<=l.length/\(∀(k:Nat) y,k < p.1->l[k]?=some y->ct (cG.name y) x=true)/\(∀(k:Nat) y,p.2<=k->l[k]?=some y->ct (cG.name y) x=false)) (fun p=>[(0,.p (.sl (l.map l6))),(1,.p (str x)),(2,.p (CU 196)),(8,.p (i64 l.length)),(9,.p (i64 p.1)),(10,.p (i64 p.2))]) (fun _=>[]) (fun p=>p.2 - p.1) (0,l.length) _ (aD.refl _ _) ⟨Nat.zero_le _,Nat.le_refl _,fun k y h=>by omega,fun k y h1 h2=>by have:=(List.getElem?_eq_some_iff.1 h2).1;simp only at h1;omega⟩ ⟨rfl,rfl,rfl,aS (by rw[lm]),rfl,aS (by rw[lm]),trivial⟩ trivial fun ⟨a,b⟩ hi t h=>?_
 obtain⟨q1,q2,q3,q4⟩:=hi
 simp only at q1 q2 q3 q4
 (repeat refine yY Z ?_);refine iF Z (fun h1=>?_) (fun h1=>?_) <;> try simp only[zB] at h1
 ·have hm:=kZ (a:=a) (b:=b) (by omega)
  obtain⟨y,hy⟩:=aj (l:=l) (i:=(a+b) / 2) (by omega)
  ((repeat refine yY Z ?_);refine zA zi ?_);refine And.intro ⟨by simp only;omega,by simp only;omega⟩ ?_
  ((repeat refine yY Z ?_);refine zA zi ?_);refine And.intro ⟨by decide,by decide⟩ ?_
  ((repeat refine yY Z ?_);refine zA zi ?_);refine And.intro ⟨by simp only;rw[hm];omega,by simp only;rw[hm];omega⟩ ?_
  ((repeat refine yY Z ?_);refine zX zi ?_);refine⟨(l6 y),(idx hm hy),?_⟩
  ((repeat refine yY Z ?_);refine zX zi ?_);refine⟨_,_,(Bf y x),?_⟩
  have hc:=ng y.name x
  (repeat refine yY Z ?_);refine iF Z (fun h2=>?_) (fun h2=>?_)
  ·have h2:ct (cG.name y) x=true:=by rw[<-hc];exact decide_eq_true h2
   ((repeat refine yY Z ?_);refine zA zi ?_);refine And.intro ⟨by simp only;rw[hm];omega,by simp only;rw[hm];omega⟩ ?_
   ((repeat refine yY Z ?_);refine ae ?_);refine⟨((a+b) / 2+1,b),_,aD.refl _ _,?_⟩
   refine⟨⟨by simp only;omega,q2,fun k z hk hz=>?_,q4⟩,by simp only;omega,⟨rfl,rfl,rfl,rfl,aS (by simp only;rw[hm];omega),Z,Y⟩,trivial⟩
   by_cases e:k=(a+b) / 2
   ·subst e
    rw[hy] at hz;injection hz with hz;subst hz;exact h2
   exact cF (bC hs hz hy (by simp only at hk;omega)) h2
  have h2:ct (cG.name y) x=false:=by rw[<-hc];exact decide_eq_false h2
  ((repeat refine yY Z ?_);refine ae ?_);refine⟨(a,(a+b) / 2),_,aD.refl _ _,?_⟩
  refine⟨⟨by simp only;omega,by simp only;omega,q3,fun k z hk hz=>?_⟩,by simp only;omega,⟨rfl,rfl,rfl,rfl,rfl,aS hm,trivial⟩,trivial⟩
  by_cases e:k=(a+b) / 2
  ·subst e
   rw[hy] at hz;injection hz with hz;subst hz;exact h2
  rw[Bool.eq_false_iff]
  intro dS
  rw[cF (bC hs hy hz (by simp only at hk;omega)) dS] at h2
  cases h2
 have e:a=b:=by omega
 subst e
 have hb:=gV q2 q3 q4
 (repeat refine yY Z ?_);refine iF Z (fun h2=>?_) (fun h2=>?_) <;> try simp only[zB] at h2
 ·obtain⟨y,hy⟩:=aj (l:=l) (i:=a) (by omega)
  ((repeat refine yY Z ?_);refine zX zi ?_);refine⟨(l6 y),(idx rfl hy),?_⟩
  ((repeat refine yY Z ?_);refine zX zi ?_);refine⟨_,_,(Bf y x),?_⟩
  ((repeat refine yY Z ?_);refine aa zi ?_);refine And.intro ?_ trivial
  have hq:=cmp_eq y.name x
  have h4:cJ cG.name l x=decide (Lib.compareBytes y.name.data.toList x.data.toList=0):=by
   by_cases e:y.name=x
   ·rw[decide_eq_true (hq.2 e)]
    exact cK.2 ⟨y,List.mem_of_getElem? hy,e⟩
   rw[decide_eq_false (fun h=>e (hq.1 h))]
   exact ot hs q3 hy (q4 a y (Nat.le_refl _) hy) e
  rw[hb,h4]
  rfl
 ((repeat refine yY Z ?_);refine aa zi ?_);refine And.intro ?_ trivial
 have h4:cJ cG.name l x=false:=by
  rw[Bool.eq_false_iff]
  intro h4
  obtain⟨z,hz,Cw⟩:=cK.1 h4
  obtain⟨k,hk⟩:=List.mem_iff_getElem?.1 hz
  have:=q3 k z (by have:=(List.getElem?_eq_some_iff.1 hk).1;omega) hk
  rw[gj Cw] at this;cases this
 rw[hb,h4]
 rfl
theorem xE (p:Part) (s:ByteArray):af C 250 [.pv (.ag (uf p)),.pv (str s)] (.p (i64 (Lib.compareBytes p.name.data.toList s.data.toList))) []:=by
 refine ah hC Tryz.func250 rfl rfl 9 rfl (by decide) (by kernel_rfl) fun _ _ _ _ _=>?_
 ((repeat refine yY Z ?_);refine zX zi ?_);refine⟨_,_,(dx p.name s),?_⟩
 ((repeat refine yY Z ?_);refine aa zi ?_);refine And.intro ?_ trivial
 rfl
theorem xF (l:List Part) (x:ByteArray) (hs:bM Part.name l) (hN:l.length<=1000000000):af C 154 [.pv (.sl (l.map uf)),.pv (str x),.pv (CU 250)] (.tu [i64 (jV Part.name l x),bool (cJ Part.name l x)]) []:=by
 refine ah hC Tryz.func154 rfl rfl 49 rfl (by decide) (by kernel_rfl) fun _ _ _ _ _=>?_
 have lm:=ai l uf
 (repeat refine yY Z ?_)
 refine ak (fun p:Nat×Nat=>p.1<=p.2/\p.2<=l.length/\(∀(k:Nat) y,k < p.1->l[k]?=some y->ct (Part.name y) x=true)/\(∀(k:Nat) y,p.2<=k->l[k]?=some y->ct (Part.name y) x=false)) (fun p=>[(0,.p (.sl (l.map uf))),(1,.p (str x)),(2,.p (CU 250)),(8,.p (i64 l.length)),(9,.p (i64 p.1)),(10,.p (i64 p.2))]) (fun _=>[]) (fun p=>p.2 - p.1) (0,l.length) _ (aD.refl _ _) ⟨Nat.zero_le _,Nat.le_refl _,fun k y h=>by omega,fun k y h1 h2=>by have:=(List.getElem?_eq_some_iff.1 h2).1;simp only at h1;omega⟩ ⟨rfl,rfl,rfl,aS (by rw[lm]),rfl,aS (by rw[lm]),trivial⟩ trivial fun ⟨a,b⟩ hi t h=>?_
 obtain⟨q1,q2,q3,q4⟩:=hi
 simp only at q1 q2 q3 q4
 (repeat refine yY Z ?_);refine iF Z (fun h1=>?_) (fun h1=>?_) <;> try simp only[zB] at h1
 ·have hm:=kZ (a:=a) (b:=b) (by omega)
  obtain⟨y,hy⟩:=aj (l:=l) (i:=(a+b) / 2) (by omega)
  ((repeat refine yY Z ?_);refine zA zi ?_);refine And.intro ⟨by simp only;omega,by simp only;omega⟩ ?_
  ((repeat refine yY Z ?_);refine zA zi ?_);refine And.intro ⟨by decide,by decide⟩ ?_
  ((repeat refine yY Z ?_);refine zA zi ?_);refine And.intro ⟨by simp only;rw[hm];omega,by simp only;rw[hm];omega⟩ ?_
  ((repeat refine yY Z ?_);refine zX zi ?_);refine⟨(uf y),(idx hm hy),?_⟩
  ((repeat refine yY Z ?_);refine zX zi ?_);refine⟨_,_,(xE y x),?_⟩
  have hc:=ng y.name x
  (repeat refine yY Z ?_);refine iF Z (fun h2=>?_) (fun h2=>?_)
  ·have h2:ct (Part.name y) x=true:=by rw[<-hc];exact decide_eq_true h2
   ((repeat refine yY Z ?_);refine zA zi ?_);refine And.intro ⟨by simp only;rw[hm];omega,by simp only;rw[hm];omega⟩ ?_
   ((repeat refine yY Z ?_);refine ae ?_);refine⟨((a+b) / 2+1,b),_,aD.refl _ _,?_⟩
   refine⟨⟨by simp only;omega,q2,fun k z hk hz=>?_,q4⟩,by simp only;omega,⟨rfl,rfl,rfl,rfl,aS (by simp only;rw[hm];omega),Z,Y⟩,trivial⟩
   by_cases e:k=(a+b) / 2
   ·subst e
    rw[hy] at hz;injection hz with hz;subst hz;exact h2
   exact cF (bC hs hz hy (by simp only at hk;omega)) h2
  have h2:ct (Part.name y) x=false:=by rw[<-hc];exact decide_eq_false h2
  ((repeat refine yY Z ?_);refine ae ?_);refine⟨(a,(a+b) / 2),_,aD.refl _ _,?_⟩
  refine⟨⟨by simp only;omega,by simp only;omega,q3,fun k z hk hz=>?_⟩,by simp only;omega,⟨rfl,rfl,rfl,rfl,rfl,aS hm,trivial⟩,trivial⟩
  by_cases e:k=(a+b) / 2
  ·subst e
   rw[hy] at hz;injection hz with hz;subst hz;exact h2
  rw[Bool.eq_false_iff]
  intro dS
  rw[cF (bC hs hy hz (by simp only at hk;omega)) dS] at h2
  cases h2
 have e:a=b:=by omega
 subst e
 have hb:=gV q2 q3 q4
 (repeat refine yY Z ?_);refine iF Z (fun h2=>?_) (fun h2=>?_) <;> try simp only[zB] at h2
 ·obtain⟨y,hy⟩:=aj (l:=l) (i:=a) (by omega)
  ((repeat refine yY Z ?_);refine zX zi ?_);refine⟨(uf y),(idx rfl hy),?_⟩
  ((repeat refine yY Z ?_);refine zX zi ?_);refine⟨_,_,(xE y x),?_⟩
  ((repeat refine yY Z ?_);refine aa zi ?_);refine And.intro ?_ trivial
  have hq:=cmp_eq y.name x
  have h4:cJ Part.name l x=decide (Lib.compareBytes y.name.data.toList x.data.toList=0):=by
   by_cases e:y.name=x
   ·rw[decide_eq_true (hq.2 e)]
    exact cK.2 ⟨y,List.mem_of_getElem? hy,e⟩
   rw[decide_eq_false (fun h=>e (hq.1 h))]
   exact ot hs q3 hy (q4 a y (Nat.le_refl _) hy) e
  rw[hb,h4]
  rfl
 ((repeat refine yY Z ?_);refine aa zi ?_);refine And.intro ?_ trivial
 have h4:cJ Part.name l x=false:=by
  rw[Bool.eq_false_iff]
  intro h4
  obtain⟨z,hz,Cw⟩:=cK.1 h4
  obtain⟨k,hk⟩:=List.mem_iff_getElem?.1 hz
  have:=q3 k z (by have:=(List.getElem?_eq_some_iff.1 hk).1;omega) hk
  rw[gj Cw] at this;cases this
 rw[hb,h4]
 rfl
theorem Bg (p:cu) (s:ByteArray):af C 185 [.pv (.ag (l7 p)),.pv (str s)] (.p (i64 (Lib.compareBytes p.name.data.toList s.data.toList))) []:=by
 refine ah hC Tryz.func185 rfl rfl 9 rfl (by decide) (by kernel_rfl) fun _ _ _ _ _=>?_
 ((repeat refine yY Z ?_);refine zX zi ?_);refine⟨_,_,(dx p.name s),?_⟩
 ((repeat refine yY Z ?_);refine aa zi ?_);refine And.intro ?_ trivial
 rfl
theorem zK (l:List cu) (x:ByteArray) (hs:bM cu.name l) (hN:l.length<=1000000000):af C 184 [.pv (.sl (l.map l7)),.pv (str x),.pv (CU 185)] (.tu [i64 (jV cu.name l x),bool (cJ cu.name l x)]) []:=by
 refine ah hC Tryz.func184 rfl rfl 49 rfl (by decide) (by kernel_rfl) fun _ _ _ _ _=>?_
 have lm:=ai l l7
 (repeat refine yY Z ?_)
 refine ak (fun p:Nat×Nat=>p.1<=p.2/\p.2<=l.length/\(∀(k:Nat) y,k < p.1->l[k]?=some y->ct (cu.name y) x=true)/\(∀(k:Nat) y,p.2<=k->l[k]?=some y->ct (cu.name y) x=false)) (fun p=>[(0,.p (.sl (l.map l7))),(1,.p (str x)),(2,.p (CU 185)),(8,.p (i64 l.length)),(9,.p (i64 p.1)),(10,.p (i64 p.2))]) (fun _=>[]) (fun p=>p.2 - p.1) (0,l.length) _ (aD.refl _ _) ⟨Nat.zero_le _,Nat.le_refl _,fun k y h=>by omega,fun k y h1 h2=>by have:=(List.getElem?_eq_some_iff.1 h2).1;simp only at h1;omega⟩ ⟨rfl,rfl,rfl,aS (by rw[lm]),rfl,aS (by rw[lm]),trivial⟩ trivial fun ⟨a,b⟩ hi t h=>?_
 obtain⟨q1,q2,q3,q4⟩:=hi
 simp only at q1 q2 q3 q4
 (repeat refine yY Z ?_);refine iF Z (fun h1=>?_) (fun h1=>?_) <;> try simp only[zB] at h1
 ·have hm:=kZ (a:=a) (b:=b) (by omega)
  obtain⟨y,hy⟩:=aj (l:=l) (i:=(a+b) / 2) (by omega)
  ((repeat refine yY Z ?_);refine zA zi ?_);refine And.intro ⟨by simp only;omega,by simp only;omega⟩ ?_
  ((repeat refine yY Z ?_);refine zA zi ?_);refine And.intro ⟨by decide,by decide⟩ ?_
  ((repeat refine yY Z ?_);refine zA zi ?_);refine And.intro ⟨by simp only;rw[hm];omega,by simp only;rw[hm];omega⟩ ?_
  ((repeat refine yY Z ?_);refine zX zi ?_);refine⟨(l7 y),(idx hm hy),?_⟩
  ((repeat refine yY Z ?_);refine zX zi ?_);refine⟨_,_,(Bg y x),?_⟩
  have hc:=ng y.name x
  (repeat refine yY Z ?_);refine iF Z (fun h2=>?_) (fun h2=>?_)
  ·have h2:ct (cu.name y) x=true:=by rw[<-hc];exact decide_eq_true h2
   ((repeat refine yY Z ?_);refine zA zi ?_);refine And.intro ⟨by simp only;rw[hm];omega,by simp only;rw[hm];omega⟩ ?_
   ((repeat refine yY Z ?_);refine ae ?_);refine⟨((a+b) / 2+1,b),_,aD.refl _ _,?_⟩
   refine⟨⟨by simp only;omega,q2,fun k z hk hz=>?_,q4⟩,by simp only;omega,⟨rfl,rfl,rfl,rfl,aS (by simp only;rw[hm];omega),Z,Y⟩,trivial⟩
   by_cases e:k=(a+b) / 2
   ·subst e
    rw[hy] at hz;injection hz with hz;subst hz;exact h2
   exact cF (bC hs hz hy (by simp only at hk;omega)) h2
  have h2:ct (cu.name y) x=false:=by rw[<-hc];exact decide_eq_false h2
  ((repeat refine yY Z ?_);refine ae ?_);refine⟨(a,(a+b) / 2),_,aD.refl _ _,?_⟩
  refine⟨⟨by simp only;omega,by simp only;omega,q3,fun k z hk hz=>?_⟩,by simp only;omega,⟨rfl,rfl,rfl,rfl,rfl,aS hm,trivial⟩,trivial⟩
  by_cases e:k=(a+b) / 2
  ·subst e
   rw[hy] at hz;injection hz with hz;subst hz;exact h2
  rw[Bool.eq_false_iff]
  intro dS
  rw[cF (bC hs hy hz (by simp only at hk;omega)) dS] at h2
  cases h2
 have e:a=b:=by omega
 subst e
 have hb:=gV q2 q3 q4
 (repeat refine yY Z ?_);refine iF Z (fun h2=>?_) (fun h2=>?_) <;> try simp only[zB] at h2
 ·obtain⟨y,hy⟩:=aj (l:=l) (i:=a) (by omega)
  ((repeat refine yY Z ?_);refine zX zi ?_);refine⟨(l7 y),(idx rfl hy),?_⟩
  ((repeat refine yY Z ?_);refine zX zi ?_);refine⟨_,_,(Bg y x),?_⟩
  ((repeat refine yY Z ?_);refine aa zi ?_);refine And.intro ?_ trivial
  have hq:=cmp_eq y.name x
  have h4:cJ cu.name l x=decide (Lib.compareBytes y.name.data.toList x.data.toList=0):=by
   by_cases e:y.name=x
   ·rw[decide_eq_true (hq.2 e)]
    exact cK.2 ⟨y,List.mem_of_getElem? hy,e⟩
   rw[decide_eq_false (fun h=>e (hq.1 h))]
   exact ot hs q3 hy (q4 a y (Nat.le_refl _) hy) e
  rw[hb,h4]
  rfl
 ((repeat refine yY Z ?_);refine aa zi ?_);refine And.intro ?_ trivial
 have h4:cJ cu.name l x=false:=by
  rw[Bool.eq_false_iff]
  intro h4
  obtain⟨z,hz,Cw⟩:=cK.1 h4
  obtain⟨k,hk⟩:=List.mem_iff_getElem?.1 hz
  have:=q3 k z (by have:=(List.getElem?_eq_some_iff.1 hk).1;omega) hk
  rw[gj Cw] at this;cases this
 rw[hb,h4]
 rfl
theorem Bh (p:Body) (s:ByteArray):af C 192 [.pv (.ag (tr p)),.pv (str s)] (.p (i64 (Lib.compareBytes p.name.data.toList s.data.toList))) []:=by
 refine ah hC Tryz.func192 rfl rfl 9 rfl (by decide) (by kernel_rfl) fun _ _ _ _ _=>?_
 ((repeat refine yY Z ?_);refine zX zi ?_);refine⟨_,_,(dx p.name s),?_⟩
 ((repeat refine yY Z ?_);refine aa zi ?_);refine And.intro ?_ trivial
 rfl
theorem zL (l:List Body) (x:ByteArray) (hs:bM Body.name l) (hN:l.length<=1000000000):af C 191 [.pv (.sl (l.map tr)),.pv (str x),.pv (CU 192)] (.tu [i64 (jV Body.name l x),bool (cJ Body.name l x)]) []:=by
 refine ah hC Tryz.func191 rfl rfl 49 rfl (by decide) (by kernel_rfl) fun _ _ _ _ _=>?_
 have lm:=ai l tr
 (repeat refine yY Z ?_)
 refine ak (fun p:Nat×Nat=>p.1<=p.2/\p.2<=l.length/\(∀(k:Nat) y,k < p.1->l[k]?=some y->ct (Body.name y) x=true)/\(∀(k:Nat) y,p.2<=k->l[k]?=some y->ct (Body.name y) x=false)) (fun p=>[(0,.p (.sl (l.map tr))),(1,.p (str x)),(2,.p (CU 192)),(8,.p (i64 l.length)),(9,.p (i64 p.1)),(10,.p (i64 p.2))]) (fun _=>[]) (fun p=>p.2 - p.1) (0,l.length) _ (aD.refl _ _) ⟨Nat.zero_le _,Nat.le_refl _,fun k y h=>by omega,fun k y h1 h2=>by have:=(List.getElem?_eq_some_iff.1 h2).1;simp only at h1;omega⟩ ⟨rfl,rfl,rfl,aS (by rw[lm]),rfl,aS (by rw[lm]),trivial⟩ trivial fun ⟨a,b⟩ hi t h=>?_
 obtain⟨q1,q2,q3,q4⟩:=hi
 simp only at q1 q2 q3 q4
 (repeat refine yY Z ?_);refine iF Z (fun h1=>?_) (fun h1=>?_) <;> try simp only[zB] at h1
 ·have hm:=kZ (a:=a) (b:=b) (by omega)
  obtain⟨y,hy⟩:=aj (l:=l) (i:=(a+b) / 2) (by omega)
  ((repeat refine yY Z ?_);refine zA zi ?_);refine And.intro ⟨by simp only;omega,by simp only;omega⟩ ?_
  ((repeat refine yY Z ?_);refine zA zi ?_);refine And.intro ⟨by decide,by decide⟩ ?_
  ((repeat refine yY Z ?_);refine zA zi ?_);refine And.intro ⟨by simp only;rw[hm];omega,by simp only;rw[hm];omega⟩ ?_
  ((repeat refine yY Z ?_);refine zX zi ?_);refine⟨(tr y),(idx hm hy),?_⟩
  ((repeat refine yY Z ?_);refine zX zi ?_);refine⟨_,_,(Bh y x),?_⟩
  have hc:=ng y.name x
  (repeat refine yY Z ?_);refine iF Z (fun h2=>?_) (fun h2=>?_)
  ·have h2:ct (Body.name y) x=true:=by rw[<-hc];exact decide_eq_true h2
   ((repeat refine yY Z ?_);refine zA zi ?_);refine And.intro ⟨by simp only;rw[hm];omega,by simp only;rw[hm];omega⟩ ?_
   ((repeat refine yY Z ?_);refine ae ?_);refine⟨((a+b) / 2+1,b),_,aD.refl _ _,?_⟩
   refine⟨⟨by simp only;omega,q2,fun k z hk hz=>?_,q4⟩,by simp only;omega,⟨rfl,rfl,rfl,rfl,aS (by simp only;rw[hm];omega),Z,Y⟩,trivial⟩
   by_cases e:k=(a+b) / 2
   ·subst e
    rw[hy] at hz;injection hz with hz;subst hz;exact h2
   exact cF (bC hs hz hy (by simp only at hk;omega)) h2
  have h2:ct (Body.name y) x=false:=by rw[<-hc];exact decide_eq_false h2
  ((repeat refine yY Z ?_);refine ae ?_);refine⟨(a,(a+b) / 2),_,aD.refl _ _,?_⟩
  refine⟨⟨by simp only;omega,by simp only;omega,q3,fun k z hk hz=>?_⟩,by simp only;omega,⟨rfl,rfl,rfl,rfl,rfl,aS hm,trivial⟩,trivial⟩
  by_cases e:k=(a+b) / 2
  ·subst e
   rw[hy] at hz;injection hz with hz;subst hz;exact h2
  rw[Bool.eq_false_iff]
  intro dS
  rw[cF (bC hs hy hz (by simp only at hk;omega)) dS] at h2
  cases h2
 have e:a=b:=by omega
 subst e
 have hb:=gV q2 q3 q4
 (repeat refine yY Z ?_);refine iF Z (fun h2=>?_) (fun h2=>?_) <;> try simp only[zB] at h2
 ·obtain⟨y,hy⟩:=aj (l:=l) (i:=a) (by omega)
  ((repeat refine yY Z ?_);refine zX zi ?_);refine⟨(tr y),(idx rfl hy),?_⟩
  ((repeat refine yY Z ?_);refine zX zi ?_);refine⟨_,_,(Bh y x),?_⟩
  ((repeat refine yY Z ?_);refine aa zi ?_);refine And.intro ?_ trivial
  have hq:=cmp_eq y.name x
  have h4:cJ Body.name l x=decide (Lib.compareBytes y.name.data.toList x.data.toList=0):=by
   by_cases e:y.name=x
   ·rw[decide_eq_true (hq.2 e)]
    exact cK.2 ⟨y,List.mem_of_getElem? hy,e⟩
   rw[decide_eq_false (fun h=>e (hq.1 h))]
   exact ot hs q3 hy (q4 a y (Nat.le_refl _) hy) e
  rw[hb,h4]
  rfl
 ((repeat refine yY Z ?_);refine aa zi ?_);refine And.intro ?_ trivial
 have h4:cJ Body.name l x=false:=by
  rw[Bool.eq_false_iff]
  intro h4
  obtain⟨z,hz,Cw⟩:=cK.1 h4
  obtain⟨k,hk⟩:=List.mem_iff_getElem?.1 hz
  have:=q3 k z (by have:=(List.getElem?_eq_some_iff.1 hk).1;omega) hk
  rw[gj Cw] at this;cases this
 rw[hb,h4]
 rfl
theorem jW (l:List aO) (x:ByteArray) (hs:bM aO.name l) (hN:l.length<=1000000000):af C 123 [.pv (.sl (l.map nz)),.pv (str x)] (.p (i64 (fy aO.name l x))) []:=by
 refine ah hC Tryz.func123 rfl rfl 16 rfl (by decide) (by kernel_rfl) fun _ _ _ _ _=>?_
 have hp:=gk (x:=x) hs
 ((repeat refine yY Z ?_);refine zX zi ?_);refine⟨_,_,(zI l x hs hN),?_⟩
 (repeat refine yY Z ?_);refine iF Z (fun h1=>?_) (fun h1=>?_)
 ·((repeat refine yY Z ?_);refine aa zi ?_);refine And.intro ?_ trivial
  rw[hp,if_neg (by simp[h1])];rfl
 ((repeat refine yY Z ?_);refine aa zi ?_);refine And.intro ?_ trivial
 rw[hp,if_pos (by simpa using h1)]
theorem qh (t:aO) (x:ByteArray) (hs:bM cG.name t.pins) (hN:t.pins.length<=1000000000):af C 124 [.pv (.ag (nz t)),.pv (str x)] (.p (i64 (fy cG.name t.pins x))) []:=by
 refine ah hC Tryz.func124 rfl rfl 17 rfl (by decide) (by kernel_rfl) fun _ _ _ _ _=>?_
 have hp:=gk (x:=x) hs
 ((repeat refine yY Z ?_);refine zX zi ?_);refine⟨_,_,(zJ t.pins x hs hN),?_⟩
 (repeat refine yY Z ?_);refine iF Z (fun h1=>?_) (fun h1=>?_)
 ·((repeat refine yY Z ?_);refine aa zi ?_);refine And.intro ?_ trivial
  rw[hp,if_neg (by simp[h1])];rfl
 ((repeat refine yY Z ?_);refine aa zi ?_);refine And.intro ?_ trivial
 rw[hp,if_pos (by simpa using h1)]
theorem vG (l:List Part) (x:ByteArray) (hs:bM Part.name l) (hN:l.length<=1000000000):af C 182 [.pv (.sl (l.map uf)),.pv (str x)] (.p (i64 (fy Part.name l x))) []:=by
 refine ah hC Tryz.func182 rfl rfl 16 rfl (by decide) (by kernel_rfl) fun _ _ _ _ _=>?_
 have hp:=gk (x:=x) hs
 ((repeat refine yY Z ?_);refine zX zi ?_);refine⟨_,_,(xF l x hs hN),?_⟩
 (repeat refine yY Z ?_);refine iF Z (fun h1=>?_) (fun h1=>?_)
 ·((repeat refine yY Z ?_);refine aa zi ?_);refine And.intro ?_ trivial
  rw[hp,if_neg (by simp[h1])];rfl
 ((repeat refine yY Z ?_);refine aa zi ?_);refine And.intro ?_ trivial
 rw[hp,if_pos (by simpa using h1)]
theorem au {f:Nat->Int} {i n:Nat} {c:Int} (h:∀k,k < i->f k=0) (hn:i < n) (e:f i=c) (hc:c≠0):aH f 0 n=c:=by
 rw[jn (by rw[e];exact hc) (fun k _ hk=>h k hk) (Nat.zero_le _) (by omega),e]
theorem cc {f:Nat->Int} {i:Nat} (h:∀k,k < i->f k=0) (e:f i=0):∀k,k < i+1->f k=0:=fun k hk=>by
 by_cases e':k=i
 ·rw[e'];exact e
 exact h k (by omega)
theorem eW {α:Type} {l:List α} {f:α->ByteArray} {i:Nat} {a b:α} (ha:l[i]?=some a) (hb:l[i - 1]?=some b) (h0:0 < i):a7 (l.map f) i=(ct (f a) (f b) || decide (f a=f b)):=by
 simp only[a7,List.getElem?_map,ha,hb,Option.map_some]
 rw[decide_eq_true h0];rfl
theorem iz {l:List ByteArray} {i:Nat} (h:i=0):a7 l i=false:=by
 subst h
 unfold a7
 split <;> simp
theorem jX {α:Type} {f:α->List PV} {n:Nat} {l:List α} (h:∀x,(f x).length=n):∀r∈l.map f,r.length=n:=fun r hr=>by
 obtain⟨z,_,rfl⟩:=List.mem_map.1 hr
 exact h z
def nh (a b:Int):Int:=if a=0 then b else a
theorem fj {a b:Int} (h:a=0):nh a b=b:=if_pos h
theorem cL {a b c:Int} (h:a=c) (h0:c≠0):nh a b=c:=by rw[nh,if_neg (by rw[h];exact h0),h]
def py (l:List cG) (i:Nat):Int:=match l[i]? with
 | some x=>if dw x.name=true then (if dP x.kind 1 7=true then (if dP x.group 0 200=true then (if a7 (l.map cG.name) i=true then 8 else 0) else 1) else 4) else 5
 | none=>0
def km (p q:cG):Bool:=decide (0 < p.group) && decide (q.group=p.group) && !decide (q.kind=p.kind)
def ou (l:List cG) (i:Nat):Int:=match l[i]? with
 | some x=>if (l.take i).any (km x)=true then 12 else 0
 | none=>0
def ey (l:List cG):Int:=if l.length=0 then 9 else if 200 < l.length then 2 else nh (aH (py l) 0 l.length) (aH (ou l) 0 l.length)
def qi (x:aO):Int:=if dw x.name=true then ey x.pins else 5
def gO (l:List aO) (i:Nat):Int:=match l[i]? with
 | some x=>nh (qi x) (if a7 (l.map aO.name) i=true then 8 else 0)
 | none=>0
def cm (l:List aO):Int:=if 200 < l.length then 2 else aH (gO l) 0 l.length
def vH (l:List cG):Prop:=l.length<=1048576/\∀x∈l,aQ x.name
def vI (l:List aO):Prop:=l.length<=1048576/\∀x∈l,aQ x.name/\vH x.pins
theorem aQ.le {s:ByteArray} (h:aQ s):s.size<=9223372036854775807:=by unfold aQ at h;omega
theorem Gf (q p:cG):af C 247 [.pv (.ag (l6 q)),.pv (.ip (l6 p))] (.p (bool (km p q))) []:=by
 refine ah hC Tryz.func247 rfl rfl 21 rfl (by decide) (by kernel_rfl) fun _ _ _ _ _=>?_
 (repeat refine yY Z ?_);refine iF Z (fun h1=>?_) (fun h1=>?_)
 ·(repeat refine yY Z ?_);refine iF Z (fun h2=>?_) (fun h2=>?_)
  ·(repeat refine yY Z ?_);refine aa zi ?_
   (skip;refine And.intro ?_ trivial)
   simp[bool,km,h1,h2]
  (repeat refine yY Z ?_);refine aa zi ?_
  (skip;refine And.intro ?_ trivial)
  simp[bool,km,h1,h2]
 (repeat refine yY Z ?_);refine aa zi ?_
 (skip;refine And.intro ?_ trivial)
 simp[bool,km,h1]
theorem xG (l:List cG) (hN:l.length<=140737488355328) (p:cG):af C 285 [.pv (.sl (l.map l6)),.pv (.fn 247 [.ip (l6 p)])] (.p (i64 (db (km p) l 0))) []:=by
 refine ah hC Tryz.func285 rfl rfl 19 rfl (by decide) (by kernel_rfl) fun _ _ _ _ _=>?_
 have lm:=ai l l6
 (repeat refine yY Z ?_)
 refine ak (fun i:Nat=>i<=l.length/\∀z∈l.take i,km p z=false) (fun i=>[(0,.p (.sl (l.map l6))),(1,.p (.fn 247 [.ip (l6 p)])),(7,.p (i64 (l.map l6).length)),(8,.p (i64 i))]) (fun _=>[]) (fun i=>l.length - i) 0 _ (aD.refl _ _) ⟨Nat.zero_le _,by simp⟩ ⟨Z,Z,Z,Z,Y⟩ trivial fun i hi t h=>?_
 (repeat refine yY Z ?_);refine iF Z (fun h1=>?_) (fun h1=>?_)
 ·rw[lm] at h1
  obtain⟨r,hr⟩:=aj (l:=l) (i:=i) (by omega)
  ((repeat refine yY Z ?_);refine zX zi ?_);refine⟨(l6 r),(idx rfl hr),?_⟩
  ((repeat refine yY Z ?_);refine zX zi ?_);refine⟨_,_,(Gf r p),?_⟩
  (repeat refine yY Z ?_);refine iF Z (fun h2=>?_) (fun h2=>?_)
  ·((repeat refine yY Z ?_);refine aa zi ?_);refine And.intro ?_ trivial
   rw[dr hr h2 hi.2,Nat.zero_add]
  ((repeat refine yY Z ?_);refine zA zi ?_);refine And.intro ⟨by omega,by omega⟩ ?_
  ((repeat refine yY Z ?_);refine ae ?_);refine⟨(i+1),_,aD.refl _ _,?_⟩
  exact⟨⟨by omega,fE hr h2 hi.2⟩,by omega,⟨Z,Z,Z,Z,Y⟩,trivial⟩
 rw[lm] at h1
 ((repeat refine yY Z ?_);refine aa zi ?_);refine And.intro ?_ trivial
 have h2:=hi.2
 rw[List.take_of_length_le (by omega)] at h2
 rw[bT h2]
 rfl
theorem sj (l:List cG) (hN:l.length<=140737488355328) (p:cG):af C 246 [.pv (.sl (l.map l6)),.pv (.fn 247 [.ip (l6 p)])] (.p (bool (l.any (km p)))) []:=by
 refine ah hC Tryz.func246 rfl rfl 9 rfl (by decide) (by kernel_rfl) fun _ _ _ _ _=>?_
 ((repeat refine yY Z ?_);refine zX zi ?_);refine⟨_,_,(xG l hN p),?_⟩
 ((repeat refine yY Z ?_);refine aa zi ?_);refine And.intro ?_ trivial
 rw[<-fb _ l 0]
 rfl
theorem qD (l:List cG) (ho:vH l):af C 177 [.pv (.sl (l.map l6))] (.p (i64 (ey l))) []:=by
 refine ah hC Tryz.func177 rfl rfl 71 rfl (by decide) (by kernel_rfl) fun _ _ _ _ _=>?_
 have lm:=ai l l6
 (repeat refine yY Z ?_);refine iF Z (fun g0=>?_) (fun g0=>?_)
 ·((repeat refine yY Z ?_);refine aa zi ?_);refine And.intro ?_ trivial
  rw[ey,if_pos (by have:(((l.map l6).length:Nat):Int)=0:=g0;omega)];rfl
 have g0:¬l.length=0:=fun e=>g0 (by show (((l.map l6).length:Nat):Int)=0;omega)
 (repeat refine yY Z ?_);refine iF Z (fun g1=>?_) (fun g1=>?_)
 ·((repeat refine yY Z ?_);refine aa zi ?_);refine And.intro ?_ trivial
  rw[ey,if_neg g0,if_pos (by omega)];rfl
 rw[ey,if_neg g0,if_neg (by omega)]
 (repeat refine yY Z ?_)
 refine ak (fun i:Nat=>i<=l.length/\∀k,k < i->py l k=0) (fun i=>[(0,.p (.sl (l.map l6))),(13,.p (.sl (l.map l6))),(14,.p (i64 l.length)),(15,.p (i64 i))]) (fun _=>[]) (fun i=>l.length - i) 0 _ (aD.refl _ _) ⟨Nat.zero_le _,fun k h=>by omega⟩ ⟨rfl,rfl,congrArg (fun n:Nat=>AV.p (i64 n)) lm,Z,Y⟩ trivial fun i hi t h=>?_
 (repeat refine yY Z ?_);refine iF Z (fun h1=>?_) (fun h1=>?_)
 ·obtain⟨x,hx⟩:=aj (l:=l) (i:=i) (by omega)
  have cf:py l i=(if dw x.name=true then (if dP x.kind 1 7=true then (if dP x.group 0 200=true then (if a7 (l.map cG.name) i=true then 8 else 0) else 1) else 4) else 5):=by simp only[py,hx]
  ((repeat refine yY Z ?_);refine zX zi ?_);refine⟨(l6 x),(idx rfl hx),?_⟩
  obtain so:=ho.2 x (List.mem_of_getElem? hx)
  ((repeat refine yY Z ?_);refine zX zi ?_);refine⟨_,_,(cB x.name so.le),?_⟩
  (repeat refine yY Z ?_);refine iF Z (fun a1=>?_) (fun a1=>?_)
  ·((repeat refine yY Z ?_);refine aa zi ?_);refine And.intro ?_ trivial
   rw[if_neg (by simp[a1])] at cf
   rw[au hi.2 (by omega) cf (by decide)];rfl
  rw[if_pos (by simpa using a1)] at cf
  (repeat refine yY Z ?_);refine iF Z (fun a2=>?_) (fun a2=>?_)
  ·((repeat refine yY Z ?_);refine aa zi ?_);refine And.intro ?_ trivial
   rw[if_neg (by simp[dP];omega)] at cf
   rw[au hi.2 (by omega) cf (by decide)];rfl
  (repeat refine yY Z ?_);refine iF Z (fun a3=>?_) (fun a3=>?_)
  ·((repeat refine yY Z ?_);refine aa zi ?_);refine And.intro ?_ trivial
   rw[if_neg (by simp[dP];omega)] at cf
   rw[au hi.2 (by omega) cf (by decide)];rfl
  rw[if_pos (by rw[cO];omega)] at cf
  (repeat refine yY Z ?_);refine iF Z (fun a4=>?_) (fun a4=>?_)
  ·((repeat refine yY Z ?_);refine aa zi ?_);refine And.intro ?_ trivial
   rw[if_neg (by simp[dP];omega)] at cf
   rw[au hi.2 (by omega) cf (by decide)];rfl
  (repeat refine yY Z ?_);refine iF Z (fun a5=>?_) (fun a5=>?_)
  ·((repeat refine yY Z ?_);refine aa zi ?_);refine And.intro ?_ trivial
   rw[if_neg (by simp[dP];omega)] at cf
   rw[au hi.2 (by omega) cf (by decide)];rfl
  rw[if_pos (by rw[cO];omega)] at cf
  (repeat refine yY Z ?_);refine c_ [] false vf rfl (by kernel_rfl) ?_;(repeat refine yY Z ?_);refine iF Z (fun o1=>?_) (fun o1=>?_)
  ·obtain⟨z,hz⟩:=aj (l:=l) (i:=i - 1) (by omega)
   rw[eW (f:=cG.name) hx hz (by omega)] at cf
   ((repeat refine yY Z ?_);refine zA zi ?_);refine And.intro ⟨by omega,by omega⟩ ?_
   ((repeat refine yY Z ?_);refine zX zi ?_);refine⟨(l6 z),(idx (show (i:Int) - 1=((i - 1:Nat):Int) by omega) hz),?_⟩
   (repeat refine yY Z ?_);refine iF Z (fun o2=>?_) (fun o2=>?_)
   ·((repeat refine yY Z ?_);refine aa zi ?_);refine And.intro ?_ trivial
    have o2:(ct (cG.name x) (cG.name z) || decide (cG.name x=cG.name z))=true:=by simpa [ct] using o2
    rw[o2,if_pos rfl] at cf
    rw[au hi.2 (by omega) cf (by decide)];rfl
   have o2:(ct (cG.name x) (cG.name z) || decide (cG.name x=cG.name z))=false:=by simpa [ct] using o2
   rw[o2,if_neg (by decide)] at cf
   ((repeat refine yY Z ?_);refine zA zi ?_);refine And.intro ⟨by omega,by omega⟩ ?_
   ((repeat refine yY Z ?_);refine ae ?_);refine⟨(i+1),_,aD.refl _ _,?_⟩
   exact⟨⟨by omega,cc hi.2 cf⟩,by omega,⟨Z,Z,Z,Z,Y⟩,trivial⟩
  have h0:i=0:=by omega
  rw[iz h0,if_neg (by decide)] at cf
  ((repeat refine yY Z ?_);refine zA zi ?_);refine And.intro ⟨by omega,by omega⟩ ?_
  ((repeat refine yY Z ?_);refine ae ?_);refine⟨(i+1),_,aD.refl _ _,?_⟩
  exact⟨⟨by omega,cc hi.2 cf⟩,by omega,⟨Z,Z,Z,Z,Y⟩,trivial⟩
 skip
 have z0:aH (py l) 0 l.length=0:=aT fun k _ hk=>hi.2 k (by omega)
 rw[fj z0]
 (repeat refine yY Z ?_)
 refine ak (fun i:Nat=>i<=l.length/\∀k,k < i->ou l k=0) (fun i=>[(0,.p (.sl (l.map l6))),(58,.p (.sl (l.map l6))),(59,.p (i64 l.length)),(60,.p (i64 i))]) (fun _=>[]) (fun i=>l.length - i) 0 _ (aD.refl _ _) ⟨Nat.zero_le _,fun k h=>by omega⟩ ⟨rfl,rfl,congrArg (fun n:Nat=>AV.p (i64 n)) lm,Z,Y⟩ trivial fun i hi t h=>?_
 (repeat refine yY Z ?_);refine iF Z (fun h1=>?_) (fun h1=>?_)
 ·obtain⟨x,hx⟩:=aj (l:=l) (i:=i) (by omega)
  have cf:ou l i=(if (l.take i).any (km x)=true then 12 else 0):=by simp only[ou,hx]
  ((repeat refine yY Z ?_);refine zX zi ?_);refine⟨(l6 x),(idx rfl hx),?_⟩
  have et:(l.map l6).take i=(l.take i).map l6:=List.map_take.symm
  ((repeat refine yY Z ?_);refine zA zi ?_);refine And.intro ⟨by omega,by omega,by omega,jX fun _=>rfl⟩ ?_
  have hcl:=sj (l.take i) (by rw[List.length_take];omega) x
  rw[<-et] at hcl
  ((repeat refine yY Z ?_);refine zX zi ?_);refine⟨_,_,hcl,?_⟩
  (repeat refine yY Z ?_);refine iF Z (fun b1=>?_) (fun b1=>?_)
  ·((repeat refine yY Z ?_);refine aa zi ?_);refine And.intro ?_ trivial
   rw[if_pos b1] at cf
   rw[au hi.2 (by omega) cf (by decide)];rfl
  rw[if_neg (by simp[b1])] at cf
  ((repeat refine yY Z ?_);refine zA zi ?_);refine And.intro ⟨by omega,by omega⟩ ?_
  ((repeat refine yY Z ?_);refine ae ?_);refine⟨(i+1),_,aD.refl _ _,?_⟩
  exact⟨⟨by omega,cc hi.2 cf⟩,by omega,⟨Z,Z,Z,Z,Y⟩,trivial⟩
 ((repeat refine yY Z ?_);refine aa zi ?_);refine And.intro ?_ trivial
 have z0:aH (ou l) 0 l.length=0:=aT fun k _ hk=>hi.2 k (by omega)
 rw[z0];rfl
theorem pz (l:List aO) (ho:vI l):af C 105 [.pv (.sl (l.map nz))] (.p (i64 (cm l))) []:=by
 refine ah hC Tryz.func105 rfl rfl 40 rfl (by decide) (by kernel_rfl) fun _ _ _ _ _=>?_
 have lm:=ai l nz
 (repeat refine yY Z ?_);refine iF Z (fun g1=>?_) (fun g1=>?_)
 ·((repeat refine yY Z ?_);refine aa zi ?_);refine And.intro ?_ trivial
  rw[cm,if_pos (by omega)];rfl
 rw[cm,if_neg (by omega)]
 (repeat refine yY Z ?_)
 refine ak (fun i:Nat=>i<=l.length/\∀k,k < i->gO l k=0) (fun i=>[(0,.p (.sl (l.map nz))),(9,.p (.sl (l.map nz))),(10,.p (i64 l.length)),(11,.p (i64 i))]) (fun _=>[]) (fun i=>l.length - i) 0 _ (aD.refl _ _) ⟨Nat.zero_le _,fun k h=>by omega⟩ ⟨rfl,rfl,congrArg (fun n:Nat=>AV.p (i64 n)) lm,Z,Y⟩ trivial fun i hi t h=>?_
 (repeat refine yY Z ?_);refine iF Z (fun h1=>?_) (fun h1=>?_)
 ·obtain⟨x,hx⟩:=aj (l:=l) (i:=i) (by omega)
  have cf:gO l i=nh (qi x) (if a7 (l.map aO.name) i=true then 8 else 0):=by simp only[gO,hx]
  ((repeat refine yY Z ?_);refine zX zi ?_);refine⟨(nz x),(idx rfl hx),?_⟩
  obtain⟨so,sp⟩:=ho.2 x (List.mem_of_getElem? hx)
  ((repeat refine yY Z ?_);refine zX zi ?_);refine⟨_,_,(cB x.name so.le),?_⟩
  (repeat refine yY Z ?_);refine iF Z (fun a1=>?_) (fun a1=>?_)
  ·((repeat refine yY Z ?_);refine aa zi ?_);refine And.intro ?_ trivial
   rw[cL (c:=5) (by rw[qi,if_neg (by simp[a1])]) (by decide)] at cf
   rw[au hi.2 (by omega) cf (by decide)];rfl
  have et:qi x=ey x.pins:=by rw[qi,if_pos (by simpa using a1)]
  ((repeat refine yY Z ?_);refine zX zi ?_);refine⟨_,_,(qD x.pins sp),?_⟩
  (repeat refine yY Z ?_);refine iF Z (fun a2=>?_) (fun a2=>?_)
  ·have a2:ey x.pins≠0:=by simpa using a2
   rw[cL et a2] at cf
   ((repeat refine yY Z ?_);refine aa zi ?_);refine And.intro ?_ trivial
   rw[au hi.2 (by omega) cf a2]
  have a2:ey x.pins=0:=by simpa using a2
  rw[fj (by rw[et,a2])] at cf
  (repeat refine yY Z ?_);refine c_ [] false IF rfl (by kernel_rfl) ?_;(repeat refine yY Z ?_);refine iF Z (fun o1=>?_) (fun o1=>?_)
  ·obtain⟨z,hz⟩:=aj (l:=l) (i:=i - 1) (by omega)
   rw[eW (f:=aO.name) hx hz (by omega)] at cf
   ((repeat refine yY Z ?_);refine zA zi ?_);refine And.intro ⟨by omega,by omega⟩ ?_
   ((repeat refine yY Z ?_);refine zX zi ?_);refine⟨(nz z),(idx (show (i:Int) - 1=((i - 1:Nat):Int) by omega) hz),?_⟩
   (repeat refine yY Z ?_);refine iF Z (fun o2=>?_) (fun o2=>?_)
   ·((repeat refine yY Z ?_);refine aa zi ?_);refine And.intro ?_ trivial
    have o2:(ct (aO.name x) (aO.name z) || decide (aO.name x=aO.name z))=true:=by simpa [ct] using o2
    rw[o2,if_pos rfl] at cf
    rw[au hi.2 (by omega) cf (by decide)];rfl
   have o2:(ct (aO.name x) (aO.name z) || decide (aO.name x=aO.name z))=false:=by simpa [ct] using o2
   rw[o2,if_neg (by decide)] at cf
   ((repeat refine yY Z ?_);refine zA zi ?_);refine And.intro ⟨by omega,by omega⟩ ?_
   ((repeat refine yY Z ?_);refine ae ?_);refine⟨(i+1),_,aD.refl _ _,?_⟩
   exact⟨⟨by omega,cc hi.2 cf⟩,by omega,⟨Z,Z,Z,Z,Y⟩,trivial⟩
  have h0:i=0:=by omega
  rw[iz h0,if_neg (by decide)] at cf
  ((repeat refine yY Z ?_);refine zA zi ?_);refine And.intro ⟨by omega,by omega⟩ ?_
  ((repeat refine yY Z ?_);refine ae ?_);refine⟨(i+1),_,aD.refl _ _,?_⟩
  exact⟨⟨by omega,cc hi.2 cf⟩,by omega,⟨Z,Z,Z,Z,Y⟩,trivial⟩
 ((repeat refine yY Z ?_);refine aa zi ?_);refine And.intro ?_ trivial
 have z0:aH (gO l) 0 l.length=0:=aT fun k _ hk=>hi.2 k (by omega)
 rw[z0];rfl
end M
end Go.Proofs.YtiaifckpmefinaaGreatDoor
