/- Part 13 of 14 of the proof of RulesFitsKeepsApart (the names are shortened by a program: the size of a claim is limited). -/
import Derived.Test.YtpbkimanfahbgaaGreatDoorF12
set_option linter.unusedVariables false
set_option linter.unusedSimpArgs false
set_option maxRecDepth 100000
set_option maxHeartbeats 8000000
namespace Go.Proofs.YtpbkimanfahbgaaGreatDoor
namespace M
open Reg (aB ax eX Wt Piece l9 ct cQ told a_ cx aQ through B0 l5 aw kv cv ru jm bX coreS at')
structure Break where
 kind:Int
 a:Int
 b:Int
 is:Int
 need:Int
 spot:Int×Int
def er (nets:List ByteArray) (g:Int):ByteArray:=nets.getD g.toNat fb
def ri:List ax->Int×Int
 | []=>(0,0)
 | b::_=>((b.xs.headD (0,0)).1,b.y0)
def kZ (r:bR) (a:Wt) (nets:List ByteArray):Int:=
 if cK r≠0 then cK r else
 if cC a≠0 then cC a else
 if nets.length≠(aw a).placed.groups.length then 3 else
 if (nets.any fun s=>!pJ s)=true then 5 else 0
end M
namespace Reg
theorem kR {y:Int}:∀{s:List ax},ct s->∀{b c:ax},b∈s->c∈s->b.y0<=y->y < b.y1->c.y0<=y->y < c.y1->b=c
 | [],_,b,c,hb,_,_,_,_,_=>by cases hb
 | d::s,h,b,c,hb,hc,b1,b2,c1,c2=>by
  rcases List.mem_cons.1 hb with eb | hb'
  ·rcases List.mem_cons.1 hc with ec | hc'
   ·rw[eb,ec]
   have:=h.fZ c hc'
   subst eb
   omega
  rcases List.mem_cons.1 hc with ec | hc'
  ·have:=h.fZ b hb'
   subst ec
   omega
  exact kR h.tail hb' hc' b1 b2 c1 c2
theorem tq {x:Int}:∀{s:bC},Canon s->∀{p q:Int×Int},p∈s->q∈s->p.1<=x->x < p.2->q.1<=x->x < q.2->p=q
 | [],_,p,q,hp,_,_,_,_,_=>by cases hp
 | d::s,h,p,q,hp,hq,p1,p2,q1,q2=>by
  rcases List.mem_cons.1 hp with ep | hp'
  ·rcases List.mem_cons.1 hq with eq | hq'
   ·rw[ep,eq]
   have:=h.behind q hq'
   subst ep
   omega
  rcases List.mem_cons.1 hq with eq | hq'
  ·have:=h.behind p hp'
   subst eq
   omega
  exact tq h.tail hp' hq' p1 p2 q1 q2
theorem Du {s:List ax} (h:ct s) {x y:Int} {a b:aB} (ha:a∈told s) (hb:b∈told s) (ka:iN x y a=true) (kb:iN x y b=true):a=b:=by
 obtain⟨c,hc,p,hp,rfl⟩:=Wu.1 ha
 obtain⟨d,hd,q,hq,rfl⟩:=Wu.1 hb
 obtain⟨a1,a2,a3,a4⟩:=cz.1 ka
 obtain⟨b1,b2,b3,b4⟩:=cz.1 kb
 have e:=kR h hc hd a3 a4 b3 b4
 subst e
 have e:=tq (h.mem c hc).can hp hq a1 a2 b1 b2
 subst e
 rfl
theorem Dv {s:List ax} (h:ct s):(told s).Nodup:=by
 rw[List.nodup_iff_pairwise_ne]
 refine (mT h).imp fun {a b} rX e=>?_
 have:=WT.1 rX
 subst e
 omega
theorem sB {s:List ax} (h:ct s) {l:List aB} (hl:∀r∈l,r∈told s):(told (a_ l)).length<=l.length:=by
 obtain⟨b1,b2,_⟩:=eA fun r hr=>dK h r (hl r hr)
 have hn:((told (a_ l)).map fun q=>(q.y0,q.x0)).Nodup:=by
  rw[List.nodup_iff_pairwise_ne,List.pairwise_map]
  refine (mT b1).imp fun {a b} rX e=>?_
  have:=WT.1 rX
  simp only[Prod.mk.injEq] at e
  omega
 have:=qY (m:=l.map fun q=>(q.y0,q.x0)) hn fun z hz=>by
  obtain⟨q,hq,rfl⟩:=List.mem_map.1 hz
  obtain⟨b,hb,p,hp,rfl⟩:=Wu.1 hq
  have hB:=b1.mem b hb
  have h1:at' (a_ l) p.1 b.y0=true:=by
   rw[zu b1 hb (Int.le_refl _) hB.lt,dn hB.can]
   exact⟨p,hp,Int.le_refl _,fP hB.can p hp⟩
  rw[b2,List.any_eq_true] at h1
  obtain⟨r,hr,hx⟩:=h1
  have Vm:=hl r hr
  obtain⟨c,hc,t,ht,rfl⟩:=Wu.1 Vm
  obtain⟨x1,x2,x3,x4⟩:=cz.1 hx
  simp only at x1 x2 x3 x4
  have e1:t.1=p.1:=by
   refine Classical.byContradiction fun b8=>?_
   have:at' (a_ l) (p.1 - 1) b.y0=true:=by
    rw[b2,List.any_eq_true]
    exact⟨_,hr,cz.2 ⟨by simp only;omega,by simp only;omega,x3,x4⟩⟩
   rw[zu b1 hb (Int.le_refl _) hB.lt,dn hB.can] at this
   exact pX hB.can hp this
  have e2:c.y0=b.y0:=by
   refine Classical.byContradiction fun b8=>?_
   obtain⟨x,Si⟩:=xJ b1 hb
   refine Si ?_
   rw[b2,b2]
   refine ot fun r' sL=>?_
   obtain⟨d,hd,u,hu,rfl⟩:=Wu.1 (hl r' sL)
   rw[Bool.eq_iff_iff,cz,cz]
   simp only
   constructor
   ·rintro⟨a1,a2,a3,a4⟩
    have:=kR h hd hc a3 a4 (by omega) (by omega)
    subst this
    exact⟨a1,a2,by omega,by omega⟩
   rintro⟨a1,a2,a3,a4⟩
   have:=kR h hd hc a3 a4 (by omega) (by omega)
   subst this
   exact⟨a1,a2,by omega,by omega⟩
  exact List.mem_map.2 ⟨_,hr,by simp only[e1,e2]⟩
 rw[List.length_map,List.length_map] at this
 exact this
theorem BH {l:List aB} {m:Nat} (h:m < l.length):l[m]?=some (l.getD m gQ):=by
 rw[List.getD_eq_getElem?_getD,List.getElem?_eq_getElem h];rfl
theorem vF (p:Nat->Nat) (i r:Nat):(fR p i r).Nodup:=List.Pairwise.sublist List.filter_sublist List.nodup_range
theorem xN {α:Type}:∀{l:List α},l.Nodup->∀{a b:Nat} {x:α},l[a]?=some x->l[b]?=some x->a=b
 | [],_,a,b,x,ha,_=>by simp at ha
 | y::l,h,a,b,x,ha,hb=>by
  have h':=List.nodup_cons.1 h
  cases a with
  | zero=>
   cases b with
   | zero=>rfl
   | succ b=>
    have e:=Option.some.inj ha
    exact absurd (by rw[e];exact List.mem_of_getElem? (by simpa using hb)) h'.1
  | succ a=>
   cases b with
   | zero=>
    have e:=Option.some.inj hb
    exact absurd (by rw[e];exact List.mem_of_getElem? (by simpa using ha)) h'.1
   | succ b=>rw[xN h'.2 (a:=a) (b:=b) (by simpa using ha) (by simpa using hb)]
theorem F1 {s:List ax} (h:ct s) {a b:Nat} {l m:List aB} (ha:(Xb s)[a]?=some l) (hb:(Xb s)[b]?=some m) (b8:a≠b):
  l.length+m.length<=(told s).length/\∀r∈l,∀q∈m,∀x y,¬(iN x y r=true/\iN x y q=true):=by
 obtain⟨u1,u2⟩:=By s
 rw[Xb,List.getElem?_map,ba,List.getElem?_map] at ha hb
 cases ea:(cZ (dR (oo s)) (told s).length)[a]? with
 | none=>rw[ea] at ha;cases ha
 | some ka=>
  cases eb:(cZ (dR (oo s)) (told s).length)[b]? with
  | none=>rw[eb] at hb;cases hb
  | some kb=>
   rw[ea] at ha
   rw[eb] at hb
   have ha:=(Option.some.inj ha).symm
   have hb:=(Option.some.inj hb).symm
   have hk:ka≠kb:=fun e=>by
    subst e
    exact b8 (Br (pU _ _) ea eb)
   have hd:(fR (dR (oo s)) (told s).length ka++fR (dR (oo s)) (told s).length kb).Nodup:=by
    rw[List.nodup_append]
    refine⟨vF _ _ _,vF _ _ _,fun i hi j hj e=>?_⟩
    subst e
    exact hk ((fD.1 hi).2.symm.trans (fD.1 hj).2)
   have:=qY (m:=List.range (told s).length) hd fun i hi=>by
    rw[List.mem_range]
    rcases List.mem_append.1 hi with hi | hi
    ·exact (fD.1 hi).1
    exact (fD.1 hi).1
   rw[List.length_append,List.length_range] at this
   refine⟨by rw[ha,hb,List.length_map,List.length_map];exact this,fun r hr q hq x y I5=>?_⟩
   rw[ha] at hr
   rw[hb] at hq
   obtain⟨i,hi,rfl⟩:=List.mem_map.1 hr
   obtain⟨j,hj,rfl⟩:=List.mem_map.1 hq
   obtain⟨i1,i2⟩:=fD.1 hi
   obtain⟨j1,j2⟩:=fD.1 hj
   have e:=Du h (ss i1) (ss j1) I5.1 I5.2
   have D1:=BH i1
   have Gq:=BH j1
   rw[e] at D1
   have:=xN (Dv h) D1 Gq
   subst this
   exact hk (i2.symm.trans j2)
theorem IF {s:List ax} {a:Nat} {l:List aB} (ha:(Xb s)[a]?=some l):l.length<=(told s).length:=by
 rw[Xb,List.getElem?_map,ba,List.getElem?_map] at ha
 cases ea:(cZ (dR (oo s)) (told s).length)[a]? with
 | none=>rw[ea] at ha;cases ha
 | some ka=>
  rw[ea] at ha
  have ha:=(Option.some.inj ha).symm
  rw[ha,List.length_map]
  exact l7 _ _ _
theorem Dw {bs:List eX} {p q:Piece} (he:p.layer=q.layer) (l:List (List aB)):∀(k:Int) (i j:Nat),(cE bs k l)[i]?=some p->(cE bs k l)[j]?=some q->i < j ->
  ∃(n:Nat) (r:List aB) (a b:Nat),l[n]?=some r/\a < b/\(eP (dS bs (k+n) r))[a]?=some p.set/\(eP (dS bs (k+n) r))[b]?=some q.set:=by
 induction l with
 | nil=>intro k i j hp;rw[cE] at hp;cases hp
 | cons r l ih=>
  intro k i j hp hq zZ
  rw[cE] at hp hq
  obtain⟨S,hS⟩:∃S,S=eP (dS bs k r):=⟨_,rfl⟩
  rw[<-hS] at hp hq
  by_cases c:j < S.length
  ·rw[List.getElem?_append_left (by rw[List.length_map];omega),List.getElem?_map] at hp hq
   cases ep:S[i]? with
   | none=>rw[ep] at hp;cases hp
   | some s=>
    cases eq:S[j]? with
    | none=>rw[eq] at hq;cases hq
    | some t=>
     rw[ep] at hp
     rw[eq] at hq
     have hp:=Option.some.inj hp
     have hq:=Option.some.inj hq
     have z:k+((0:Nat):Int)=k:=by omega
     refine⟨0,r,i,j,rfl,zZ,?_,?_⟩
     ·rw[z,<-hS,ep,<-hp]
     rw[z,<-hS,eq,<-hq]
  rw[List.getElem?_append_right (by rw[List.length_map];omega)] at hq
  obtain⟨n,r',h1,h2,_⟩:=mY (List.mem_of_getElem? hq)
  by_cases d:i < S.length
  ·rw[List.getElem?_append_left (by rw[List.length_map];omega),List.getElem?_map] at hp
   cases ep:S[i]? with
   | none=>rw[ep] at hp;cases hp
   | some s=>
    rw[ep] at hp
    have hp:=Option.some.inj hp
    rw[<-hp] at he
    simp only at he
    omega
  rw[List.getElem?_append_right (by rw[List.length_map];omega)] at hp
  obtain⟨n,r',a,b,h1,h2,h3,h4⟩:=ih (k+1) _ _ hp hq (by rw[List.length_map];omega)
  have e:k+((n+1:Nat):Int)=k+1+(n:Int):=by omega
  exact⟨n+1,r',a,b,by simpa using h1,h2,by rw[e];exact h3,by rw[e];exact h4⟩
theorem zC {bs:List eX}:∀{l:List (List aB)} {k:Int},vA bs k l=true->∀(n:Nat) r,l[n]?=some r->(told (dS bs (k+n) r)).length<=2000
 | [],k,_,n,r,h=>by simp at h
 | q::l,k,hf,n,r,h=>by
  rw[vA,Bool.and_eq_true,decide_eq_true_eq] at hf
  cases n with
  | zero=>
   have:=Option.some.inj h
   subst this
   simpa using hf.1
  | succ n=>
   have:=zC hf.2 n r (by simpa using h)
   have e:k+((n+1:Nat):Int)=k+1+(n:Int):=by omega
   rw[e];exact this
structure Jz (p q:Piece):Prop where
 few:(told p.set).length+(told q.set).length<=2000
 apart:∀x y,¬(at' p.set x y=true/\at' q.set x y=true)
theorem Kj {bs:List eX} {l:List (List aB)} {k:Int} {i j:Nat} {p q:Piece} (hs:∀(n:Nat) r,l[n]?=some r->ct (dS bs (k+n) r)) (hf:vA bs k l=true) (hp:(cE bs k l)[i]?=some p) (hq:(cE bs k l)[j]?=some q) (zZ:i < j) (he:p.layer=q.layer):Jz p q:=by
 obtain⟨n,r,a,b,h1,h2,h3,h4⟩:=Dw he _ _ _ _ hp hq zZ
 have h0:=hs n r h1
 have tD:=zC hf n r h1
 rw[eP,List.getElem?_map] at h3 h4
 cases ea:(Xb (dS bs (k+n) r))[a]? with
 | none=>rw[ea] at h3;cases h3
 | some x=>
  cases eb:(Xb (dS bs (k+n) r))[b]? with
  | none=>rw[eb] at h4;cases h4
  | some y=>
   rw[ea] at h3
   rw[eb] at h4
   have h3:=Option.some.inj h3
   have h4:=Option.some.inj h4
   obtain⟨c1,c2⟩:=F1 h0 ea eb (by omega)
   have mx:=(oT (List.mem_of_getElem? ea)).2
   have my:=(oT (List.mem_of_getElem? eb)).2
   have sx:=sB h0 mx
   have sy:=sB h0 my
   obtain⟨_,bx,_⟩:=eA fun r hr=>dK h0 r (mx r hr)
   obtain⟨_,Vn,_⟩:=eA fun r hr=>dK h0 r (my r hr)
   refine⟨by rw[<-h3,<-h4];omega,fun u v TF=>?_⟩
   rw[<-h3,<-h4,bx,Vn,List.any_eq_true,List.any_eq_true] at TF
   obtain⟨⟨r1,m1,e1⟩,r2,m2,e2⟩:=TF
   exact c2 r1 m1 r2 m2 u v ⟨e1,e2⟩
end Reg
namespace M
open Reg (aB ax eX Wt Piece l9 ct cQ told a_ cx aQ through B0 l5 aw kv cv ru jm bX coreS at' gB ba dR jq cI cE kx)
theorem IG {a:Wt} (h:cC a=0):jG a/\Reg.iU a=true/\Reg.fw a.bores 0=false:=by
 unfold cC at h
 split at h
 ·cases h
 rename_i g1
 split at h
 ·cases h
 rename_i g2
 split at h
 ·rename_i g;exact absurd h g
 rename_i g3
 have g3:Reg.fS a.coppers=0:=by simpa using g3
 split at h
 ·rename_i g;exact absurd h g
 rename_i g4
 have g4:Reg.aH a.outline=0:=by simpa using g4
 split at h
 ·cases h
 split at h
 ·rename_i g;exact absurd h g
 rename_i g6
 have g6:Reg.dk a=0:=by simpa using g6
 split at h
 ·rename_i g;exact absurd h g
 rename_i g7
 have g7:dO a=0:=by simpa using g7
 split at h
 ·cases h
 rename_i g8
 split at h
 ·rename_i g9
  have tD:a.bores.length<=500:=by
   unfold Reg.dk at g6
   split at g6
   ·cases g6
   omega
  have NI:Reg.Wq a.coppers.length a.bores=0:=by rwa [Reg.dk,if_neg (by omega)] at g6
  refine⟨⟨⟨by omega,by omega⟩,Reg.jH g3,g4,tD,Reg.ve NI,?_⟩,g9,by simpa using g8⟩
  unfold dO at g7
  split at g7
  ·cases g7
  omega
 cases h
structure Lp (a:Wt) (p:Piece):Prop where
 sok:ct p.set
 ink:cQ 1000000 p.set
 ne:p.set≠[]
 few:(told p.set).length<=2000
 lo:0<=p.layer
 hi:p.layer < a.coppers.length
structure vG (a:Wt):Prop where
 art:jG a
 few:(aw a).pieces.length<=2000
 pc:∀p∈(aw a).pieces,Lp a p
 two:∀(i j:Nat) p q,(aw a).pieces[i]?=some p->(aw a).pieces[j]?=some q->i < j->p.layer=q.layer->Reg.Jz p q
 gr:kx a.bores (aw a).pieces.length (((aw a).ofPiece,(aw a).ofBore),(gB a.bores (aw a).pieces.length (ba (dR (jq (aw a).pieces.length a.bores.length (aw a).cI)) ((aw a).pieces.length+a.bores.length))).2)
theorem vH {a:Wt} (ha:jG a):∀b∈a.bores,cx b=true:=fun b hb=>oU (ha.bor b hb)
theorem sC {a:Wt} (h:cC a=0):vG a:=by
 obtain⟨ha,hd,_⟩:=IG h
 have hs:∀(n:Nat) r,a.coppers[n]?=some r->O2 (Reg.dS a.bores (0+n) r):=fun n r hr=>pY (vH ha) ha.few _ (ha.reg r (List.mem_of_getElem? hr))
 rw[Reg.iU,Bool.and_eq_true,decide_eq_true_eq] at hd
 refine⟨ha,hd.2,fun p hp=>?_,fun i j p q hp hq zZ he=>Reg.Kj (fun n r hr=>(hs n r hr).sok) hd.1 hp hq zZ he,?_⟩
 ·obtain⟨n,r,h1,h2,h3⟩:=Reg.mY hp
  have hn:=(List.getElem?_eq_some_iff.1 h1).1
  obtain⟨c1,c2,_,c4⟩:=Reg.su (hs n r h1).sok h3
  refine⟨c1,c4 _ (hs n r h1).ink,c2,?_,by omega,by omega⟩
  have tD:=Reg.zC hd.1 n r h1
  obtain⟨l,hl,e⟩:=List.mem_map.1 h3
  have PC:=(Reg.oT hl).2
  have s1:=Reg.sB (hs n r h1).sok PC
  obtain⟨k,hk⟩:=List.getElem?_of_mem hl
  have s2:=Reg.IF hk
  rw[<-e]
  omega
 have ht:∀x∈cI a.bores (cE a.bores 0 a.coppers),∀p∈x,0<=p/\p < ((cE a.bores 0 a.coppers).length:Int):=fun x hx p hp=>by
  obtain⟨b,_,rfl⟩:=List.mem_map.1 hx
  have:=Reg.XA b (cE a.bores 0 a.coppers) 0 p hp
  omega
 have hl:(cI a.bores (cE a.bores 0 a.coppers)).length=a.bores.length:=by rw[Reg.cI,List.length_map]
 obtain⟨u1,u2⟩:=Reg.vC (n:=(cE a.bores 0 a.coppers).length) (nb:=a.bores.length) (cI a.bores (cE a.bores 0 a.coppers)) 0 (Reg.iota ((cE a.bores 0 a.coppers).length+a.bores.length)) (Reg.qU _) (Reg.WV _) (by omega) ht
 exact Reg.xL u1 u2
open Reg (Xg)
theorem Yi {r:bR} (hg:iz r) (x:ByteArray):0<=WA r x/\WA r x<=100000:=by
 have hn:=hg.nums
 simp only[ke,di,Bool.and_eq_true,decide_eq_true_eq] at hn
 rw[WA]
 split
 ·rename_i h
  refine⟨by omega,?_⟩
  rw[WH] at h ⊢
  cases e:r.classes.find? fun c=>hasB c.nets x && !decide (x=fb) with
  | none=>rw[e] at h;simp[Es] at h
  | some c=>
   have:=(hg.cl c (List.mem_of_find?_eq_some e)).2.2.2.2
   simp only[di,Bool.and_eq_true,decide_eq_true_eq] at this
   exact this.2
 exact⟨by omega,by omega⟩
theorem BI {r:bR} (hg:iz r) (x:ByteArray):0<=dB r x/\dB r x<=100000:=by
 have hn:=hg.nums
 simp only[ke,di,Bool.and_eq_true,decide_eq_true_eq] at hn
 rw[dB]
 split
 ·rename_i h
  refine⟨by omega,?_⟩
  rw[WH] at h ⊢
  cases e:r.classes.find? fun c=>hasB c.nets x && !decide (x=fb) with
  | none=>rw[e] at h;simp[Es] at h
  | some c=>
   have:=(hg.cl c (List.mem_of_find?_eq_some e)).2.2.2.1
   simp only[di,Bool.and_eq_true,decide_eq_true_eq] at this
   exact this.2
 exact⟨by omega,by omega⟩
def OW (a b:Break):Prop:=a.kind=b.kind/\a.a=b.a/\a.b=b.b/\a.is=b.is
def Has (l m:List Break):Prop:=∀b∈l,∃c∈m,OW b c
theorem Has.nil (m:List Break):Has [] m:=fun b hb=>by cases hb
theorem Ey {b:eX} (h:cx b=true):ct (a_ [aQ b])/\cQ 1010000 (a_ [aQ b]):=by
 have MB:=Reg.eA (l:=[aQ b]) (fun q hq=>by rw[List.mem_singleton] at hq;subst hq;exact Reg.eZ h)
 refine⟨MB.1,MB.2.2 _ fun q hq=>?_⟩
 rw[List.mem_singleton] at hq
 subst hq
 exact Reg.jM h
theorem kS {l:List aB} (h:Reg.aH l=0):ct (a_ l)/\cQ 1000000 (a_ l):=by
 have h:=mQ h
 have hb:=Reg.eA h.full
 exact⟨hb.1,hb.2.2 _ h.rk⟩
end M
end Go.Proofs.YtpbkimanfahbgaaGreatDoor
namespace Go.AM
theorem eK.TG {S S':Nat->Prop} {w:World} {P:Program}:∀{xs:List PV} {vs:List Value},eK S w P (xs.map .pv) [] vs->eK S' w P (xs.map .pv) [] vs
 | [],[],h=>h
 | [],_::_,h=>h
 | _::_,[],h=>h
 | _::xs,_::vs,h=>eK.TG (xs:=xs) (vs:=vs) h
theorem aD.iv {C:Ctx} {f:FuncId} {xs:List PV} {e:TypeId} {es:List (List PV)} (h:aD C f (xs.map .pv) (.own e es) []):aD C f (xs.map .pv) (.p (.sl es)) []:=by
 refine⟨h.1,fun S w vs hE hS hl ha hd=>(h.2 S w vs hE hS hl ha hd).mono ?_⟩
 rintro e' w' ⟨v,S',rfl,fr,s1,s2,s3,hr,hf,ho,hg⟩
 have sL:aR C.P w' (bu S' w') e es v:=hr.1
 refine⟨v,fun b=>S' b\/cU v=some b,rfl,fr,fun b hb=>.inl (s1 b hb),fun b hb=>?_,fun b hb=>?_,sL.zT (fun b h=>.inl h) (fun g h=>.inr h),eK.TG hf,ho,fun g hn=>by cases hn⟩
 ·rcases hb with hb | hb
  ·exact s2 b hb
  exact (hg b rfl (tY hb)).1
 rcases hb with hb | hb
 ·exact s3 b hb
 exact .inr (hg b rfl (tY hb)).2.1
end Go.AM
namespace Go.Proofs.YtpbkimanfahbgaaGreatDoor
namespace M
open Go.AM Go.RowKit Go.Lib
open Reg (aB ax eX Wt Piece l9 ct cQ told a_ cx aQ through aw kv cv ru jm bX coreS)
theorem vI {l:List aB} (h:Ib l):aD C 32 [.pv (aV l)] (.p (aG (a_ l))) []:=aD.iv (xs:=[aV l]) (jL h)
theorem Dx {b:eX} (h:cx b=true):aD C 32 [.pv (aV [aQ b])] (.p (aG (a_ [aQ b]))) []:=aD.iv (xs:=[aV [aQ b]]) (jb [aQ b] 1010000 (by omega) (by omega) (fun q hq=>by rw[List.mem_singleton] at hq;subst hq;exact Reg.eZ h) (fun q hq=>by rw[List.mem_singleton] at hq;subst hq;exact Reg.jM h) (by simp))
theorem open_1 (s:ByteArray) (hs:jv s):aD C 87 [.pv (str s)] (.p (bool (!pJ s))) []:=by
 refine aT hC Tryz.func87 rfl rfl 6 rfl (by decide) (by kernel_rfl) fun _ _ _ _ _=>?_
 (refine yS<|yA Z<|yU<|yP Z<|yn Z<|aK zI ?_;refine⟨_,_,(s_ s hs),?_⟩)
 (refine b9 Z Z<|ae<|yP Z<|yA Z<|yR zi ?_;refine And.intro ?_ trivial)
 rfl
theorem Dy (l:List ByteArray) (hN:l.length<=140737488355328) (ho:∀s∈l,jv s):aD C 132 [.pv (strs l),.pv (pj 87)] (.p (i64 (hY (fun s=>!pJ s) l 0))) []:=by
 refine aT hC Tryz.func132 rfl rfl 19 rfl (by decide) (by kernel_rfl) fun _ _ _ _ _=>?_
 have lm:=aN l fun s=>[str s]
 refine yS<|yA Z<|yT<|au<|yS<|yP Z<|yP Z<|yP Z<|yT<|aZ ?_
 refine aI (fun i:Nat=>i<=l.length/\∀z∈l.take i,(!pJ z)=false) (fun i=>[(0,.p (strs l)),(1,.p (pj 87)),(7,.p (i64 (l.map fun s=>[str s]).length)),(8,.p (i64 i))]) (fun _=>[]) (fun i=>l.length - i) 0 _ (aW.refl _ _) ⟨Nat.zero_le _,by simp⟩ ⟨Z,Z,Z,Z,Y⟩ trivial fun i hi t h=>?_
 (refine yS<|yP Z<|yT<|au<|az Z ?_;refine aa (fun h1=>?_) (fun h1=>?_) <;> try simp only[zB] at h1)
 ·rw[lm] at h1
  obtain⟨r,hr⟩:=bh (l:=l) (i:=i) (by omega)
  (refine aJ<|aj<|au<|aZ<|yS<|yP Z<|yA Z<|yU<|yP Z<|yP Z<|yP Z<|yq Z<|aK zI ?_;refine⟨[str r],(idx rfl hr),?_⟩)
  (refine yk<|yP Z<|yn Z<|aK zI ?_;refine⟨_,_,(open_1 r (ho r (List.mem_of_getElem? hr))),?_⟩)
  (refine b9 Z Z<|ae<|yT<|az Z ?_;refine aa (fun h2=>?_) (fun h2=>?_) <;> try simp only[zB] at h2)
  ·have h2:(!pJ r)=true:=by simpa using h2
   (refine yS<|yP Z<|yA Z<|yT<|bP<|bW<|aX<|aX<|bW<|aX<|bQ zi ?_;refine And.intro ?_ trivial)
   rw[iJ (p:=fun s=>!pJ s) hr h2 hi.2,Nat.zero_add]
  have h2:(!pJ r)=false:=by simpa using h2
  (refine aJ<|bp<|aj<|aM<|yq Z<|bg zI ?_;refine sI ?_)
  (refine yk<|yP Z<|yT<|ai ?_;refine⟨(i+1),_,aW.refl _ _,?_⟩)
  exact⟨⟨by omega,oM (p:=fun s=>!pJ s) hr h2 hi.2⟩,by omega,⟨Z,Z,Z,Z,Y⟩,trivial⟩
 rw[lm] at h1
 (refine bT<|aY<|aY<|bU<|aj<|yS<|yA Z<|yR zi ?_;refine And.intro ?_ trivial)
 have h2:=hi.2
 rw[List.take_of_length_le (by omega)] at h2
 rw[fN (p:=fun s=>!pJ s) h2]
 rfl
theorem wS (l:List ByteArray) (hN:l.length<=140737488355328) (ho:∀s∈l,jv s):aD C 86 [.pv (strs l),.pv (pj 87)] (.p (bool (l.any fun s=>!pJ s))) []:=by
 refine aT hC Tryz.func86 rfl rfl 9 rfl (by decide) (by kernel_rfl) fun _ _ _ _ _=>?_
 (refine yS<|yA Z<|yU<|yP Z<|yP Z<|yn Z<|aK zI ?_;refine⟨_,_,(Dy l hN ho),?_⟩)
 (refine b9 Z Z<|ae<|yP Z<|yA Z<|yR zi ?_;refine And.intro ?_ trivial)
 rw[<-j_ _ l 0]
 rfl
def zE (r:bR) (a:Wt) (nets:List ByteArray):PV:=if kZ r a nets=0 then .ip (kY a) else .im (.pointer none)
structure sD (l:List ByteArray):Prop where
 len:l.length<=1000000000
 str:∀s∈l,jv s
theorem Dz (r:bR) (hr:ic r) (a:Wt) (ha:oh a) (nets:List ByteArray) (hn:sD nets):aD C 34 [.pv (.ag (rl r)),.pv (.ag (kG a)),.pv (strs nets)] (.tu [zE r a nets,i64 (kZ r a nets)]) []:=by
 have ln:=aN nets fun s=>[str s]
 have lg:=aN (aw a).placed.groups q_
 have SO:=hn.len
 obtain⟨F,hF⟩:∃F,F=kZ r a nets:=⟨_,rfl⟩
 have hV:zE r a nets=if F=0 then .ip (kY a) else .im (.pointer none):=by rw[hF];rfl
 rw[hV,<-hF]
 rw[kZ] at hF
 refine aT hC Tryz.func34 rfl rfl 35 rfl (by decide) (by kernel_rfl) fun _ _ _ _ _=>?_
 ((refine yS<|yn Z<|aA zI<|aS<|ak<|yn Z<|aA zI<|aS<|ak<|yA Z<|yA Z<|yT<|au<|yS ?_;refine yP Z<|yn Z<|aK zI ?_);refine⟨_,_,(lU r hr),?_⟩)
 (refine b9 Z Z<|ae<|yA Z<|yU<|yP Z<|yP Z<|yT<|az Z ?_;refine aa (fun g1=>?_) (fun g1=>?_) <;> try simp only[zB] at g1)
 ·have g1:cK r≠0:=by simpa using g1
  rw[if_pos g1] at hF
  (refine yS<|yP Z<|yA Z<|yA Z<|yT<|bP<|aX<|bQ zi ?_;refine And.intro ?_ trivial)
  rw[hF,if_neg g1]
 have g1:cK r=0:=by simpa using g1
 rw[if_neg (by simpa using g1)] at hF
 have aU:=kQ a ha
 by_cases g:cC a=0
 ·rw[pz,if_pos g,g] at aU
  rw[if_neg (by simpa using g)] at hF
  have gd:=sC g
  (refine aJ<|aj<|yS<|yP Z<|yn Z<|aK zI ?_;refine⟨_,_,aU,?_⟩)
  ((refine b9 Z Z<|bq<|yq Z<|aA zI<|bd<|bq<|yP Z<|yP Z<|yA Z<|yA Z<|yT<|au<|yS<|yP Z ?_;refine yP Z<|yT<|az Z<|cM<|aJ<|aj<|au<|yS<|yP Z<|yP Z<|yP Z<|yP Z<|yP Z<|yP Z ?_;refine yP Z<|yP Z<|yT<|az Z ?_);refine aa (fun g2=>?_) (fun g2=>?_) <;> try simp only[zB] at g2)
  ·rw[if_pos (by omega)] at hF
   (refine yS<|yA Z<|yA Z<|yT<|bP<|aX<|bQ zi ?_;refine And.intro ?_ trivial)
   rw[hF];rfl
  rw[if_neg (by omega)] at hF
  (refine aJ<|aj<|au<|yS<|yP Z<|yn Z<|aK zI ?_;refine⟨_,_,(wS nets (by omega) hn.str),?_⟩)
  (refine b9 Z Z<|ae<|yT<|az Z ?_;refine aa (fun g3=>?_) (fun g3=>?_) <;> try simp only[zB] at g3)
  ·rw[if_pos g3] at hF
   (refine yS<|yA Z<|yA Z<|yT<|bP<|aX<|bQ zi ?_;refine And.intro ?_ trivial)
   rw[hF];rfl
  rw[if_neg (by simpa using g3)] at hF
  (refine aJ<|aj<|yS<|yP Z<|yA Z<|yA Z<|yR zi ?_;refine And.intro ?_ trivial)
  rw[hF];rfl
 rw[pz,if_neg g] at aU
 rw[if_pos g] at hF
 (refine aJ<|aj<|yS<|yP Z<|yn Z<|aK zI ?_;refine⟨_,_,aU,?_⟩)
 ((refine b9 Z Z<|bq<|yq Z<|aA zI<|bd<|bq<|yP Z<|yP Z<|yA Z<|yA Z<|yT<|au<|yS<|yP Z ?_;refine yP Z<|yT<|az Z ?_);refine aa (fun h=>?_) (fun h=>?_) <;> try simp only[zB] at h)
 ·(refine yS<|yP Z<|yA Z<|yA Z<|yT<|bP<|aX<|bQ zi ?_;refine And.intro ?_ trivial)
  rw[hF,if_neg g]
 exact absurd (by simpa using h) g
theorem len_nil {s:List ax}:decide (((s.map hb).length:Int)=0)=decide (s=[]):=by
 cases s with
 | nil=>rfl
 | cons b s=>simp;omega
end M
end Go.Proofs.YtpbkimanfahbgaaGreatDoor
namespace Go.AM
open Go.RowKit Go.ChangeShapes
section
variable {H:Type} {enc:TypeId×Value->H} {P:Program} {w:World} {S:Nat->Prop}
theorem IH {t:TypeId} (ht:P.underlying t=some .bool):CW enc P w S t 1 fun xs d=>∃b:Bool,xs=[.im (.bool b)]:=fun n cs x h=>by
 obtain⟨b,rfl,rfl⟩:=DataW.trod_bool ht h
 exact⟨[.im (.bool b)],rfl,rfl,one_cell ⟨.im _,rfl⟩,b,rfl⟩
def kT (S:Nat->Prop) (w:World) (o:Nat) (xs:List PV) (cs:List Value):Prop:=∀(i:Nat) c v,xs[i]?=some c->cs[o+i]?=some v->bu S w c v/\v.oneCell'=true
theorem kT.join {o:Nat} {xs ys:List PV} {cs:List Value} (h:kT S w o xs cs) (k:kT S w (o+xs.length) ys cs):kT S w o (xs++ys) cs:=fun i c v h1 h2=>by
 by_cases e:i < xs.length
 ·rw[List.getElem?_append_left e] at h1
  exact h i c v h1 h2
 rw[List.getElem?_append_right (by omega)] at h1
 refine k (i - xs.length) c v h1 ?_
 rw[<-h2]
 congr 1
 omega
theorem vJ {t:TypeId} {fs:Array Field} (ht:P.underlying t=some (.struct fs)) (ks:Nat->Nat) (hk:∀(i:Nat) (f:Field),fs[i]?=some f->P.cellsOf f.type=ks i) (Qs:Nat->List PV->DataW H->Prop) (hf:∀(i:Nat) (f:Field),fs[i]?=some f->CW enc P w S f.type (ks i) (Qs i)) {n:Nat} {cs:List Value} {x:DataW H×List MemPlace} (h:DataW.trod enc P w 0 (fun _=>true) true n t cs=some x):
  cs.length=P.cellsOf t/\∃ds:List (DataW H),x.1=.agg ds/\ds.length=fs.size/\∀(i:Nat) (f:Field),fs[i]?=some f->∃xs d,xs.length=ks i/\kT S w f.offset xs cs/\ds[i]?=some d/\Qs i xs d:=by
 obtain⟨ys,m,_,rfl,hl,hlen,hy⟩:=DataW.trod_struct ht h
 refine⟨hl,ys.map (·.1),rfl,by rw[List.length_map,hlen],fun i f I3=>?_⟩
 have hi:i < fs.size:=(Array.getElem?_eq_some_iff.1 I3).1
 have K9:=hy i f I3
 have Ow:ys[i]?=some ys[i]:=List.getElem?_eq_getElem (by omega)
 rw[Ow,hk i f I3] at K9
 obtain⟨xs,l1,l2,l3,l4⟩:=hf i f I3 _ _ _ K9
 refine⟨xs,ys[i].1,l1,fun j c v h1 h2=>l3 j c v h1 ?_,by rw[List.getElem?_map,Ow];rfl,l4⟩
 have hj:=(List.getElem?_eq_some_iff.1 h1).1
 rw[List.getElem?_take_of_lt (by omega),List.getElem?_drop]
 exact h2
end
end Go.AM
namespace Go.Proofs.YtpbkimanfahbgaaGreatDoor
namespace M
open Go.AM Go.RowKit Go.Lib
open Reg (aB bC ax eX jn Wt)
variable {H:Type} {enc:TypeId×Value->H} {w:World} {S:Nat->Prop}
theorem Sj:Sp enc w S 4 1 (fun b=>[bool b]) fun _ _=>True:=fun n cs x h=>by
 obtain⟨xs,l1,l2,l3,b,e⟩:=IH (S:=S) Tryz.underlying4 n cs x h
 exact⟨xs,l1,l2,l3,b,e,trivial⟩
def MT (P:Program) (fs:Array Field) (ks:Nat->Nat):Bool:=(List.range fs.size).all fun i=>match fs[i]? with
 | some f=>Nat.beq (P.cellsOf f.type) (ks i)
 | none=>true
theorem BJ {P:Program} {fs:Array Field} {ks:Nat->Nat} (h:MT P fs ks=true):∀(i:Nat) (f:Field),fs[i]?=some f->P.cellsOf f.type=ks i:=fun i f hf=>by
 have hi:=(Array.getElem?_eq_some_iff.1 hf).1
 have:=List.all_eq_true.1 h i (List.mem_range.2 hi)
 rw[hf] at this
 exact Nat.eq_of_beq_eq_true this
theorem Kk:Sp enc w S 54 6 bc fun _ _=>True:=fun n cs x h=>by
 obtain⟨hl,ds,e,ld,q⟩:=vJ (S:=S) (ks:=fun i=>match i with | 0=>2 | _=>1) (hk:=BJ (by kernel_rfl)) (Qs:=fun i xs d=>match i with
   | 0=>∃p:Int×Int,xs=[i64 p.1,i64 p.2]/\True
   | 4=>∃b,xs=[bool b]/\True
   | _=>∃n,xs=[i64 n]/\True) Tryz.underlying54 (fun i f hf=>by
  match i,hf with
  | 0,hf=>cases hf;exact A2
  | 1,hf=>cases hf;exact pL
  | 2,hf=>cases hf;exact pL
  | 3,hf=>cases hf;exact pL
  | 4,hf=>cases hf;exact Sj
  | n+5,hf=>cases hf) h
 have hl:cs.length=6:=hl.trans (by kernel_rfl)
 obtain⟨x0,_,_,r0,_,p,e0,_⟩:=q 0 _ rfl
 obtain⟨x1,_,_,r1,_,n1,e1,_⟩:=q 1 _ rfl
 obtain⟨x2,_,_,r2,_,n2,e2,_⟩:=q 2 _ rfl
 obtain⟨x3,_,_,r3,_,n3,e3,_⟩:=q 3 _ rfl
 obtain⟨x4,_,_,r4,_,b4,e4,_⟩:=q 4 _ rfl
 cases e0;cases e1;cases e2;cases e3;cases e4
 have rel:kT S w 0 ([i64 p.1,i64 p.2]++([i64 n1]++([i64 n2]++([i64 n3]++[bool b4])))) cs:=kT.join r0 (kT.join r1 (kT.join r2 (kT.join r3 r4)))
 exact⟨_,rfl,hl,fun i c v h1 h2=>rel i c v h1 (by rw[Nat.zero_add];exact h2),⟨p.1,p.2,n1,n2,n3,b4⟩,Z,Y⟩
def vK (l:jn) (n:Nat):Prop:=l.part.size<=n/\l.pin.size<=n
theorem ox (l:jn) (m n:Nat) (h:m<=n):vK l m->vK l n:=fun ⟨h1,h2⟩=>⟨Nat.le_trans h1 h,Nat.le_trans h2 h⟩
theorem Kl:Sp enc w S 175 5 lc vK:=fun n cs x h=>by
 obtain⟨hl,ds,e,ld,q⟩:=vJ (S:=S) (ks:=fun i=>match i with | 3=>2 | _=>1) (hk:=BJ (by kernel_rfl)) (Qs:=fun i xs d=>match i with
   | 0=>∃s,xs=[str s]/\s.size<=Rows.uptoBulk d
   | 1=>∃s,xs=[str s]/\s.size<=Rows.uptoBulk d
   | 2=>∃n,xs=[i64 n]/\True
   | _=>∃p:Int×Int,xs=[i64 p.1,i64 p.2]/\True) Tryz.underlying175 (fun i f hf=>by
  match i,hf with
  | 0,hf=>cases hf;exact JZ
  | 1,hf=>cases hf;exact JZ
  | 2,hf=>cases hf;exact pL
  | 3,hf=>cases hf;exact A2
  | n+4,hf=>cases hf) h
 have hl:cs.length=5:=hl.trans (by kernel_rfl)
 obtain⟨x0,V9,_,r0,i0,n0,e0,b0⟩:=q 0 _ rfl
 obtain⟨x1,O_,_,r1,i1,n1,e1,b1⟩:=q 1 _ rfl
 obtain⟨x2,_,_,r2,_,n2,e2,_⟩:=q 2 _ rfl
 obtain⟨x3,_,_,r3,_,p,e3,_⟩:=q 3 _ rfl
 cases e0;cases e1;cases e2;cases e3
 have rel:kT S w 0 ([str n0]++([str n1]++([i64 n2]++[i64 p.1,i64 p.2]))) cs:=kT.join r0 (kT.join r1 (kT.join r2 r3))
 have j0:=kW i0
 have j1:=kW i1
 rw[<-e] at j0 j1
 exact⟨_,rfl,hl,fun i c v h1 h2=>rel i c v h1 (by rw[Nat.zero_add];exact h2),⟨n0,n1,n2,p.1,p.2⟩,rfl,Nat.le_trans b0 j0,Nat.le_trans b1 j1⟩
def Ez (a:Wt) (n:Nat):Prop:=a.coppers.length<=n/\(∀r∈a.coppers,r.length<=n)/\a.outline.length<=n/\a.bores.length<=n/\a.lands.length<=n/\∀l∈a.lands,vK l n
theorem MU (hS:∀b,b < w.heap.size->S b):Sp enc w S 31 4 kG Ez:=fun n cs x h=>by
 obtain⟨xs,l1,l2,l3,ds,e,ld,q⟩:=iK (S:=S) (Qs:=fun i xs d=>match i with
   | 0=>∃r:List (List aB),xs=[.sl (r.map fun q=>[aV q])]/\(r.length<=Rows.uptoBulk d/\∀c∈r,(c.length<=Rows.uptoBulk d/\∀z∈c,True))
   | 1=>∃r,xs=[aV r]/\(r.length<=Rows.uptoBulk d/\∀z∈r,True)
   | 2=>∃r:List eX,xs=[.sl (r.map bc)]/\(r.length<=Rows.uptoBulk d/\∀c∈r,True)
   | _=>∃r:List jn,xs=[.sl (r.map lc)]/\(r.length<=Rows.uptoBulk d/\∀c∈r,vK c (Rows.uptoBulk d))) Tryz.underlying31 (Go.Deep.hone_of (by kernel_rfl)) (by kernel_rfl) (fun i f hf=>by
  match i,hf with
  | 0,hf=>cases hf;exact kg (k:=1) Tryz.underlying26 (by kernel_rfl) (by decide) hS (fun r m n h ⟨h1,h2⟩=>⟨Nat.le_trans h1 h,h2⟩) (uZ hS)
  | 1,hf=>cases hf;exact uZ hS
  | 2,hf=>cases hf;exact kg (k:=6) Tryz.underlying28 (by kernel_rfl) (by decide) hS (fun _ _ _ _ h=>h) Kk
  | 3,hf=>cases hf;exact kg (k:=5) Tryz.underlying29 (by kernel_rfl) (by decide) hS ox Kl
  | n+4,hf=>cases hf) _ _ _ h
 have l1:xs.length=4:=l1
 have ld:ds.length=4:=ld
 obtain⟨a,b,c,d,rfl⟩:∃a b c d,xs=[a,b,c,d]:=by
  match xs,l1 with
  | [a,b,c,d],_=>exact⟨a,b,c,d,rfl⟩
 obtain⟨a',b',c',d',rfl⟩:∃a b c d,ds=[a,b,c,d]:=by
  match ds,ld with
  | [a,b,c,d],_=>exact⟨a,b,c,d,rfl⟩
 obtain⟨n0,e0,p0,Vo⟩:=q 0 _ _ rfl rfl
 obtain⟨n1,e1,p1,_⟩:=q 1 _ _ rfl rfl
 obtain⟨n2,e2,p2,_⟩:=q 2 _ _ rfl rfl
 obtain⟨n3,e3,p3,Vp⟩:=q 3 _ _ rfl rfl
 cases e0;cases e1;cases e2;cases e3
 have i0:=kW (ds:=[a',b',c',d']) (i:=0) rfl
 have i1:=kW (ds:=[a',b',c',d']) (i:=1) rfl
 have i2:=kW (ds:=[a',b',c',d']) (i:=2) rfl
 have i3:=kW (ds:=[a',b',c',d']) (i:=3) rfl
 rw[<-e] at i0 i1 i2 i3
 exact⟨_,rfl,l2,l3,⟨n0,n1,n2,n3⟩,rfl,by exact Nat.le_trans p0 i0,fun r hr=>Nat.le_trans (Vo r hr).1 i0,by exact Nat.le_trans p1 i1,by exact Nat.le_trans p2 i2,by exact Nat.le_trans p3 i3,fun l hl=>ox l _ _ i3 (Vp l hl)⟩
theorem DA (a:Wt) (m n:Nat) (h:m<=n):Ez a m->Ez a n:=fun ⟨h1,h2,h3,h4,h5,h6⟩=>⟨by omega,fun r hr=>Nat.le_trans (h2 r hr) h,by omega,by omega,by omega,fun l hl=>ox l _ _ h (h6 l hl)⟩
theorem MV {a:Wt} (h:Ez a 1048576):oh a:=⟨h.1,h.2.1,h.2.2.1,h.2.2.2.1,h.2.2.2.2.1,fun l hl=>⟨zf (h.2.2.2.2.2 l hl).1,zf (h.2.2.2.2.2 l hl).2⟩⟩
theorem Km {l:List ByteArray} {n:Nat} (hn:n<=1048576) (h:l.length<=n/\∀s∈l,s.size<=n):sD l:=⟨by omega,fun s hs=>zf (Nat.le_trans (h.2 s hs) hn)⟩
end M
namespace M
open Reg (aB ax eX Wt Piece l9 ct cQ told a_ cx aQ through B0 l5 aw kv cv ru jm bX coreS at')
def jr:List (Int×List ax)->Int->List ax
 | [],_=>[]
 | (k,s)::r,c=>if k=c then s else jr r c
def zF (l:List (Int×List ax)) (c:Int):Bool:=l.any fun p=>decide (p.1=c)
def o7:List (Int×List ax)->Int->List ax->List (Int×List ax)
 | [],c,s=>[(c,s)]
 | (k,u)::r,c,s=>if k=c then (k,s)::r else (k,u)::o7 r c s
def rj (layer:Int) (l:List (Int×List ax)) (a:kd):List (Int×List ax):=if OG a layer=true then o7 l a.clearance (ru (jr l a.clearance) (a_ a.region)) else l
def DB (layer:Int) (al:List kd) (l:List (Int×List ax)):List (Int×List ax):=al.foldl (rj layer) l
theorem vL (layer:Int) (a:kd) (al:List kd) (l:List (Int×List ax)):DB layer (a::al) l=DB layer al (rj layer l a):=rfl
def vM (lv:List Int):Nat->Nat->Nat->Nat
 | 0,k,_=>k
 | n+1,k,i=>if i < lv.length then vM lv n (if lv.getD k 0 < lv.getD i 0 then i else k) (i+1) else k
def BK (lv:List Int):List Int:=(lv.set (vM lv lv.length 0 0) (lv.getD (lv.length - 1) 0)).take (lv.length - 1)
def vN (lv:List Int):Int:=lv.getD (vM lv lv.length 0 0) 0
def ky (L:List (Int×List ax)):Nat->List Int->List ax->List (Int×List ax)
 | 0,_,rest=>[(-1,rest)]
 | n+1,lv,rest=>if lv.length=0 then [(-1,rest)] else (vN lv,jm rest (jr L (vN lv)))::ky L n (BK lv) (cv rest (jr L (vN lv)))
def kz (r:bR) (layer:Int) (all:List ax):List (Int×List ax):=ky (DB layer r.areas []) (DB layer r.areas []).length ((DB layer r.areas []).map (·.1)) all
def vO (r:bR) (of:List Int) (nets:List ByteArray) (net:ByteArray) (k:Nat) (x:eX):List ax:=
 if of.getD k 0 < 0\/er nets (of.getD k 0)≠net then bX (a_ [aQ x]) r.clearance r.clearance r.clearance r.clearance else a_ [aQ x]
def ir (r:bR) (of:List Int) (nets:List ByteArray) (net:ByteArray) (layer:Int):Nat->List eX->List ax->List ax
 | _,[],s=>s
 | k,x::t,s=>ir r of nets net layer (k+1) t (if through x layer=true then cv s (vO r of nets net k x) else s)
def fE (r:bR) (net other:ByteArray) (z:Int):Int:=if z < 0 then max (dB r net) (dB r other) else z
def l_ (r:bR) (of:List Int) (nets:List ByteArray) (net:ByteArray) (layer z:Int) (k:Nat) (p:Piece) (s:List ax):List ax:=
 if p.layer≠layer\/er nets (of.getD k 0)=net then s else cv s (bX p.set (fE r net (er nets (of.getD k 0)) z) (fE r net (er nets (of.getD k 0)) z) (fE r net (er nets (of.getD k 0)) z) (fE r net (er nets (of.getD k 0)) z))
def eB (r:bR) (of:List Int) (nets:List ByteArray) (net:ByteArray) (layer z:Int):Nat->List Piece->List ax->List ax
 | _,[],s=>s
 | k,p::t,s=>eB r of nets net layer z (k+1) t (l_ r of nets net layer z k p s)
def tr (r:bR) (of:List Int) (nets:List ByteArray) (net:ByteArray) (layer:Int) (ps:List Piece):List (Int×List ax)->List ax->List ax
 | [],out=>out
 | z::t,out=>tr r of nets net layer ps t (ru out (eB r of nets net layer z.1 0 ps z.2))
def tv (r:bR) (a:Wt) (nets:List ByteArray) (net:ByteArray) (layer:Int):List ax:=ir r (aw a).ofBore nets net layer 0 a.bores (coreS (a_ a.outline) r.edge r.edge r.edge r.edge)
def gx (r:bR) (a:Wt) (nets:List ByteArray) (net:ByteArray) (layer:Int):List ax:=tr r (aw a).ofPiece nets net layer (aw a).pieces (kz r layer (tv r a nets net layer)) []
def oy (r:bR) (a:Wt) (nets:List ByteArray) (net:ByteArray) (layer:Int):Int:=
 if kZ r a nets≠0 then kZ r a nets else
 if net=fb\/pJ net=false then 5 else
 if Reg.within layer 0 ((a.coppers.length:Int) - 1)=true then 0 else 1
def sr (r:bR) (a:Wt) (nets:List ByteArray) (net:ByteArray) (layer:Int) (more:List aB):Bool×Int:=
 if oy r a nets net layer=0 then (if (lY (gx r a nets net layer)).2=0 then (if Reg.aH more=0 then (decide (cv (a_ more) (gx r a nets net layer)=[]) && decide (kv (a_ more) (WA r net)=[]),0) else (false,Reg.aH more)) else (false,(lY (gx r a nets net layer)).2)) else (false,oy r a nets net layer)
structure Sub (K:Int) (s all:List ax):Prop where
 sok:ct s
 ink:cQ K s
 sub:∀x y,at' s x y=true->at' all x y=true
theorem Sub.refl {K:Int} {s:List ax} (h:ct s) (k:cQ K s):Sub K s s:=⟨h,k,fun _ _ h=>h⟩
theorem Sub.less {K:Int} {s all b:List ax} (h:Sub K s all) (hb:ct b):Sub K (cv s b) all/\∀x y,at' (cv s b) x y=true->at' s x y=true/\at' b x y=false:=by
 obtain⟨l1,l2,_⟩:=Reg.dZ h.sok hb
 have e:∀x y,at' (cv s b) x y=true->at' s x y=true/\at' b x y=false:=fun x y hx=>by
  rw[l2] at hx
  simpa using hx
 exact⟨⟨l1,qN h.sok hb h.ink,fun x y hx=>h.sub x y (e x y hx).1⟩,e⟩
theorem Sub.and {K:Int} {s all b:List ax} (h:Sub K s all) (hb:ct b):Sub K (jm s b) all:=by
 obtain⟨l1,l2,_⟩:=Reg.oP h.sok hb
 have e:∀x y,at' (jm s b) x y=true->at' s x y=true:=fun x y hx=>by
  rw[l2] at hx
  simp only[Bool.and_eq_true] at hx
  exact hx.1
 exact⟨l1,zl l1 h.sok h.ink e,fun x y hx=>h.sub x y (e x y hx)⟩
def nu (l:List (Int×List ax)):Prop:=∀p∈l,(0<=p.1/\p.1<=100000)/\ct p.2/\cQ 1000000 p.2
theorem oV {l:List (Int×List ax)} (h:nu l) (c:Int):ct (jr l c)/\cQ 1000000 (jr l c):=by
 induction l with
 | nil=>exact⟨trivial,fun b hb=>by cases hb⟩
 | cons p l ih=>
  obtain⟨k,s⟩:=p
  rw[jr]
  split
  ·exact (h (k,s) List.mem_cons_self).2
  exact ih fun q hq=>h q (List.mem_cons_of_mem _ hq)
theorem F2 {l:List (Int×List ax)} (h:nu l) {c:Int} {s:List ax} (hc:0<=c/\c<=100000) (hs:ct s) (hk:cQ 1000000 s):nu (o7 l c s):=by
 induction l with
 | nil=>exact fun p hp=>by rw[o7,List.mem_singleton] at hp;subst hp;exact⟨hc,hs,hk⟩
 | cons q l ih=>
  obtain⟨k,u⟩:=q
  rw[o7]
  have hq:=h (k,u) List.mem_cons_self
  have ht:nu l:=fun p hp=>h p (List.mem_cons_of_mem _ hp)
  split
  ·intro p hp
   rcases List.mem_cons.1 hp with e | hp
   ·subst e;exact⟨hq.1,hs,hk⟩
   exact ht p hp
  intro p hp
  rcases List.mem_cons.1 hp with e | hp
  ·subst e;exact hq
  exact ih ht p hp
theorem vP {l:List (Int×List ax)} (h:nu l) {a:kd} (layer:Int) (ha:Reg.aH a.region=0/\di a.clearance=true):nu (rj layer l a):=by
 rw[rj]
 split
 ·obtain⟨g1,g2⟩:=oV h a.clearance
  obtain⟨b1,b2⟩:=kS ha.1
  have:=ha.2
  simp only[di,Bool.and_eq_true,decide_eq_true_eq] at this
  obtain⟨o1,_,o3⟩:=Reg.va g1 b1
  exact F2 h ⟨by omega,by omega⟩ o1 (o3 _ g2 b2)
 exact h
theorem vQ {layer:Int}:∀{al:List kd} {l:List (Int×List ax)},nu l->(∀a∈al,Reg.aH a.region=0/\di a.clearance=true)->nu (DB layer al l)
 | [],l,h,_=>h
 | a::al,l,h,ha=>by
  rw[vL]
  exact vQ (vP h layer (ha a List.mem_cons_self)) fun b hb=>ha b (List.mem_cons_of_mem _ hb)
theorem zG {lv:List Int}:∀{n k i:Nat},k < lv.length->vM lv n k i < lv.length
 | 0,k,i,h=>h
 | n+1,k,i,h=>by
  rw[vM]
  split
  ·rename_i g
   exact zG (by split <;> omega)
  exact h
theorem BL {lv:List Int} (h:lv.length≠0):(BK lv).length=lv.length - 1:=by
 rw[BK,List.length_take,List.length_set]
 omega
theorem BM {lv:List Int} {i:Nat} (h:i < lv.length):lv.getD i 0∈lv:=by
 rw[List.getD_eq_getElem?_getD,List.getElem?_eq_getElem h]
 exact List.getElem_mem h
theorem BN {lv:List Int} (h:lv.length≠0):∀x∈BK lv,x∈lv:=fun x hx=>by
 have:=List.mem_of_mem_take hx
 rcases List.mem_or_eq_of_mem_set this with e | e
 ·exact e
 subst e
 exact BM (by omega)
theorem BO {lv:List Int} (h:lv.length≠0):vN lv∈lv:=BM (zG (by omega))
def DC (all:List ax) (z:Int×List ax):Prop:=(z.1=-1\/(0<=z.1/\z.1<=100000))/\Sub 1000000 z.2 all
theorem vR {L:List (Int×List ax)} (hL:nu L) {all:List ax}:∀{n:Nat} {lv:List Int} {rest:List ax},(∀c∈lv,0<=c/\c<=100000)->Sub 1000000 rest all->∀z∈ky L n lv rest,DC all z
 | 0,lv,rest,_,hr,z,hz=>by
  rw[ky,List.mem_singleton] at hz
  subst hz
  exact⟨.inl rfl,hr⟩
 | n+1,lv,rest,Li,hr,z,hz=>by
  rw[ky] at hz
  split at hz
  ·rw[List.mem_singleton] at hz
   subst hz
   exact⟨.inl rfl,hr⟩
  rename_i g
  obtain⟨g1,_⟩:=oV hL (vN lv)
  rcases List.mem_cons.1 hz with e | hz
  ·subst e
   exact⟨.inr (Li _ (BO g)),hr.and g1⟩
  exact vR hL (fun c hc=>Li c (BN g c hc)) (hr.less g1).1 z hz
theorem tw {r:bR} (hg:iz r) (layer:Int) {all:List ax} (ha:ct all) (hk:cQ 1000000 all):∀z∈kz r layer all,DC all z:=by
 have hL:nu (DB layer r.areas []):=vQ (fun p hp=>by cases hp) fun a ha=>(hg.ar a ha).2
 exact vR hL (fun c hc=>by obtain⟨p,hp,rfl⟩:=List.mem_map.1 hc;exact (hL p hp).1) (Sub.refl ha hk)
theorem BP {r:bR} (h:r.areas=[]) (layer:Int) (all:List ax):kz r layer all=[(-1,all)]:=by
 rw[kz,h];rfl
theorem II {s:List ax} (h:ct s) {n:Int} (h0:0<=n) (x y:Int) (hx:at' s x y=true):at' (bX s n n n n) x y=true:=by
 rw[(Reg.ff h h0 h0 h0 h0).2.1]
 exact⟨x,y,hx,by omega,by omega,by omega,by omega⟩
theorem F3 {r:bR} (hg:iz r) (of:List Int) (nets:List ByteArray) (net:ByteArray) (k:Nat) {x:eX} (hx:cx x=true):ct (vO r of nets net k x)/\cQ 1110000 (vO r of nets net k x)/\∀u v,at' (a_ [aQ x]) u v=true->at' (vO r of nets net k x) u v=true:=by
 have hn:=hg.nums
 simp only[ke,di,Bool.and_eq_true,decide_eq_true_eq] at hn
 obtain⟨o1,o2⟩:=Ey hx
 rw[vO]
 split
 ·obtain⟨s1,_,s3⟩:=Reg.ff o1 (l:=r.clearance) (r:=r.clearance) (d:=r.clearance) (u:=r.clearance) (by omega) (by omega) (by omega) (by omega)
  exact⟨s1,s3 1010000 100000 o2 (by omega) (by omega) (by omega) (by omega),fun u v h=>II o1 (by omega) u v h⟩
 exact⟨o1,Reg.cQ.up (by omega) o2,fun u v h=>h⟩
theorem k_ {r:bR} (hg:iz r) {of:List Int} {nets:List ByteArray} {net:ByteArray} {layer:Int} {all:List ax}:∀{t:List eX} {k:Nat} {s:List ax},(∀b∈t,cx b=true)->Sub 1000000 s all ->
  Sub 1000000 (ir r of nets net layer k t s) all/\(∀x y,at' (ir r of nets net layer k t s) x y=true->at' s x y=true)/\∀b∈t,through b layer=true->∀x y,at' (ir r of nets net layer k t s) x y=true->at' (a_ [aQ b]) x y=false
 | [],k,s,_,h=>⟨h,fun _ _ h=>h,fun b hb=>by cases hb⟩
 | x::t,k,s,hb,h=>by
  obtain⟨e1,e2,e3⟩:=F3 hg of nets net k (hb x List.mem_cons_self)
  rw[ir]
  by_cases c:through x layer=true
  ·rw[if_pos c]
   obtain⟨l1,l2⟩:=h.less e1
   obtain⟨i1,i2,i3⟩:=k_ hg (t:=t) (k:=k+1) (of:=of) (nets:=nets) (net:=net) (layer:=layer) (fun b h=>hb b (List.mem_cons_of_mem _ h)) l1
   refine⟨i1,fun u v hx=>(l2 u v (i2 u v hx)).1,fun b hbm hth u v hx=>?_⟩
   rcases List.mem_cons.1 hbm with e | hbm
   ·subst e
    have:=(l2 u v (i2 u v hx)).2
    cases e:at' (a_ [aQ b]) u v with
    | false=>rfl
    | true=>rw[e3 u v e] at this;cases this
   exact i3 b hbm hth u v hx
  rw[if_neg c]
  obtain⟨i1,i2,i3⟩:=k_ hg (t:=t) (k:=k+1) (of:=of) (nets:=nets) (net:=net) (layer:=layer) (fun b h=>hb b (List.mem_cons_of_mem _ h)) h
  refine⟨i1,i2,fun b hbm hth u v hx=>?_⟩
  rcases List.mem_cons.1 hbm with e | hbm
  ·subst e;exact absurd hth c
  exact i3 b hbm hth u v hx
theorem vS {r:bR} (hg:iz r) (net other:ByteArray) {z:Int} (hz:z=-1\/(0<=z/\z<=100000)):0<=fE r net other z/\fE r net other z<=100000:=by
 have h1:=BI hg net
 have h2:=BI hg other
 rw[fE]
 split <;> omega
theorem wT {r:bR} (hg:iz r) {of:List Int} {nets:List ByteArray} {net:ByteArray} {layer z:Int} (hz:z=-1\/(0<=z/\z<=100000)) {all:List ax} {k:Nat} {s:List ax} {p:Piece} (hp:ct p.set) (h:Sub 1000000 s all):
  Sub 1000000 (l_ r of nets net layer z k p s) all/\(∀x y,at' (l_ r of nets net layer z k p s) x y=true->at' s x y=true)/\(p.layer=layer->er nets (of.getD k 0)≠net->∀x y,at' (l_ r of nets net layer z k p s) x y=true->at' (bX p.set (fE r net (er nets (of.getD k 0)) z) (fE r net (er nets (of.getD k 0)) z) (fE r net (er nets (of.getD k 0)) z) (fE r net (er nets (of.getD k 0)) z)) x y=false):=by
 rw[l_]
 by_cases c:p.layer≠layer\/er nets (of.getD k 0)=net
 ·rw[if_pos c]
  refine⟨h,fun _ _ h=>h,fun h1 h2=>?_⟩
  rcases c with c | c
  ·exact absurd h1 c
  exact absurd c h2
 rw[if_neg c]
 obtain⟨n1,n2⟩:=vS hg net (er nets (of.getD k 0)) hz
 obtain⟨s1,_,_⟩:=Reg.ff hp n1 n1 n1 n1
 obtain⟨l1,l2⟩:=h.less s1
 exact⟨l1,fun x y hx=>(l2 x y hx).1,fun _ _ x y hx=>(l2 x y hx).2⟩
theorem iu {r:bR} (hg:iz r) {of:List Int} {nets:List ByteArray} {net:ByteArray} {layer z:Int} (hz:z=-1\/(0<=z/\z<=100000)) {all:List ax}:∀{t:List Piece} {k:Nat} {s:List ax},(∀p∈t,ct p.set)->Sub 1000000 s all ->
  Sub 1000000 (eB r of nets net layer z k t s) all/\(∀x y,at' (eB r of nets net layer z k t s) x y=true->at' s x y=true)/\∀(j:Nat) p,t[j]?=some p->p.layer=layer->er nets (of.getD (k+j) 0)≠net->∀x y,at' (eB r of nets net layer z k t s) x y=true->at' (bX p.set (fE r net (er nets (of.getD (k+j) 0)) z) (fE r net (er nets (of.getD (k+j) 0)) z) (fE r net (er nets (of.getD (k+j) 0)) z) (fE r net (er nets (of.getD (k+j) 0)) z)) x y=false
 | [],k,s,_,h=>⟨h,fun _ _ h=>h,fun j p hj=>by simp at hj⟩
 | q::t,k,s,hp,h=>by
  obtain⟨e1,e2,e3⟩:=wT hg (of:=of) (nets:=nets) (net:=net) (layer:=layer) hz (k:=k) (hp q List.mem_cons_self) h
  rw[eB]
  obtain⟨i1,i2,i3⟩:=iu hg (of:=of) (nets:=nets) (net:=net) (layer:=layer) hz (t:=t) (k:=k+1) (fun b h=>hp b (List.mem_cons_of_mem _ h)) e1
  refine⟨i1,fun u v hx=>e2 u v (i2 u v hx),fun j p hj hl b8 u v hx=>?_⟩
  cases j with
  | zero=>
   have e:=Option.some.inj hj
   subst e
   exact e3 hl b8 u v (i2 u v hx)
  | succ j=>
   rw[show k+(j+1)=k+1+j by omega] at b8 ⊢
   exact i3 j p (by simpa using hj) hl b8 u v hx
theorem vT {r:bR} (hg:iz r) {of:List Int} {nets:List ByteArray} {net:ByteArray} {layer:Int} {all:List ax} {ps:List Piece} (hp:∀p∈ps,ct p.set):∀{t:List (Int×List ax)} {out:List ax},(∀z∈t,DC all z)->Sub 1000000 out all ->
  Sub 1000000 (tr r of nets net layer ps t out) all/\∀x y,at' (tr r of nets net layer ps t out) x y=true->at' out x y=true\/∃z∈t,at' (eB r of nets net layer z.1 0 ps z.2) x y=true
 | [],out,_,h=>⟨h,fun _ _ h=>.inl h⟩
 | z::t,out,hz,h=>by
  have Ga:=hz z List.mem_cons_self
  obtain⟨p1,_,_⟩:=iu hg (of:=of) (nets:=nets) (net:=net) (layer:=layer) Ga.1 (t:=ps) (k:=0) hp Ga.2
  obtain⟨o1,o2,o3⟩:=Reg.va h.sok p1.sok
  rw[tr]
  obtain⟨i1,i2⟩:=vT hg (of:=of) (nets:=nets) (net:=net) (layer:=layer) hp (t:=t) (out:=ru out (eB r of nets net layer z.1 0 ps z.2)) (fun z OD=>hz z (List.mem_cons_of_mem _ OD)) ⟨o1,o3 _ h.ink p1.ink,fun x y hx=>by
   rw[o2,Bool.or_eq_true] at hx
   rcases hx with hx | hx
   ·exact h.sub x y hx
   exact p1.sub x y hx⟩
  refine⟨i1,fun x y hx=>?_⟩
  rcases i2 x y hx with hx | ⟨w,hw,hx⟩
  ·rw[o2,Bool.or_eq_true] at hx
   rcases hx with hx | hx
   ·exact .inl hx
   exact .inr ⟨z,List.mem_cons_self,hx⟩
  exact .inr ⟨w,List.mem_cons_of_mem _ hw,hx⟩
theorem xO {r:bR} (hg:iz r) {a:Wt} (ha:jG a) (nets:List ByteArray) (net:ByteArray) (layer:Int):
  Sub 1000000 (tv r a nets net layer) (a_ a.outline)/\∀b∈a.bores,through b layer=true->∀x y,at' (tv r a nets net layer) x y=true->at' (a_ [aQ b]) x y=false:=by
 have hn:=hg.nums
 simp only[ke,di,Bool.and_eq_true,decide_eq_true_eq] at hn
 obtain⟨o1,o2⟩:=kS ha.out
 obtain⟨c1,c2,_⟩:=Reg.u4 o1 (l:=r.edge) (r:=r.edge) (d:=r.edge) (u:=r.edge) (by omega) (by omega) (by omega) (by omega)
 have sub:∀x y,at' (coreS (a_ a.outline) r.edge r.edge r.edge r.edge) x y=true->at' (a_ a.outline) x y=true:=fun x y hx=>(c2 x y).1 hx x y (by omega) (by omega) (by omega) (by omega)
 obtain⟨b1,_,b3⟩:=k_ hg (of:=(aw a).ofBore) (nets:=nets) (net:=net) (layer:=layer) (all:=a_ a.outline) (t:=a.bores) (k:=0) (vH ha) ⟨c1,zl c1 o1 o2 sub,sub⟩
 exact⟨b1,b3⟩
theorem oW {r:bR} (hg:iz r) {a:Wt} (ha:vG a) (nets:List ByteArray) (net:ByteArray) (layer:Int):
  Sub 1000000 (gx r a nets net layer) (a_ a.outline)/\(∀b∈a.bores,through b layer=true->∀x y,at' (gx r a nets net layer) x y=true->at' (a_ [aQ b]) x y=false)/\
  (∀(j:Nat) p,(aw a).pieces[j]?=some p->p.layer=layer->er nets ((aw a).ofPiece.getD j 0)≠net->∀x y,at' (gx r a nets net layer) x y=true->at' p.set x y=false)/\
  (r.areas=[]->∀(j:Nat) p,(aw a).pieces[j]?=some p->p.layer=layer->er nets ((aw a).ofPiece.getD j 0)≠net->∀x y,at' (gx r a nets net layer) x y=true ->
   at' (bX p.set (fE r net (er nets ((aw a).ofPiece.getD j 0)) (-1)) (fE r net (er nets ((aw a).ofPiece.getD j 0)) (-1)) (fE r net (er nets ((aw a).ofPiece.getD j 0)) (-1)) (fE r net (er nets ((aw a).ofPiece.getD j 0)) (-1))) x y=false):=by
 obtain⟨f1,f2⟩:=xO hg ha.art nets net layer
 have hz:=tw hg layer f1.sok f1.ink
 have hps:∀p∈(aw a).pieces,ct p.set:=fun p hp=>(ha.pc p hp).sok
 obtain⟨j1,j2⟩:=vT hg (of:=(aw a).ofPiece) (nets:=nets) (net:=net) (layer:=layer) hps (t:=kz r layer (tv r a nets net layer)) (out:=[]) hz ⟨trivial,fun b hb=>(by cases hb),fun x y hx=>(by cases hx)⟩
 refine⟨⟨j1.sok,j1.ink,fun x y hx=>f1.sub x y (j1.sub x y hx)⟩,fun b hb ht x y hx=>f2 b hb ht x y (j1.sub x y hx),fun j p hj hl b8 x y hx=>?_,fun hA j p hj hl b8 x y hx=>?_⟩
 ·rcases j2 x y hx with hx | ⟨z,Gg,hx⟩
  ·cases hx
  obtain⟨_,_,q3⟩:=iu hg (of:=(aw a).ofPiece) (nets:=nets) (net:=net) (layer:=layer) (hz z Gg).1 (t:=(aw a).pieces) (k:=0) hps (hz z Gg).2
  have:=q3 j p hj hl (by rw[Nat.zero_add];exact b8) x y hx
  rw[Nat.zero_add] at this
  cases e:at' p.set x y with
  | false=>rfl
  | true=>
   rw[II (hps p (List.mem_of_getElem? hj)) (vS hg _ _ (hz z Gg).1).1 x y e] at this
   cases this
 rcases j2 x y hx with hx | ⟨z,Gg,hx⟩
 ·cases hx
 obtain⟨_,_,q3⟩:=iu hg (of:=(aw a).ofPiece) (nets:=nets) (net:=net) (layer:=layer) (hz z Gg).1 (t:=(aw a).pieces) (k:=0) hps (hz z Gg).2
 have:=q3 j p hj hl (by rw[Nat.zero_add];exact b8) x y hx
 rw[Nat.zero_add] at this
 rw[BP hA,List.mem_singleton] at Gg
 subst Gg
 exact this
end M
end Go.Proofs.YtpbkimanfahbgaaGreatDoor
namespace Go.AM
theorem aW.front {A:cV} (hC:bV A.C) (s:AS) (j id hi:Nat) {e:TypeId} {es:List (List PV)} (hid:id < 100000) (hj:s.t j=.vw id 0 hi) (hr:s.h id=.row e es):
  aW A s ⟨br (WB id s).t j (.ow id),br (WB id s).h id (.row e (es.take hi))⟩:=by
 intro S rho a w sim
 have bZ:(s.h id).live:=by rw[hr];trivial
 have hh:=sim.hp id trivial
 rw[hr] at hh
 have hh:aR A.C.P w (bu S w) e es (rho id):=hh
 have ht:=sim.tm j trivial
 rw[hj] at ht
 obtain⟨v,hv⟩:∃v,v=a.tmps.getD j undef:=⟨_,rfl⟩
 rw[<-hv] at ht
 have Vq:∃n c ad,rho id=.slice ad n c/\hi<=n/\v=.slice ad hi c:=by
  cases ht with
  | vw _ _ _ _ q=>
   obtain⟨_,n,c,ad,ti,q1,_,_,q3,q4,q5⟩:=q e (by rw[hr];rfl)
   refine⟨n,c,ad,q1,q3,?_⟩
   rw[q5]
   cases ad with
   | none=>simp
   | some x=>simp[Addr.add]
 obtain⟨n,c,ad,q1,q3,q5⟩:=Vq
 have hblk:∀g,cU v=some g->cU (rho id)=some g:=fun g hg=>by
  rw[q5] at hg
  rw[q1]
  cases ad <;> exact hg
 have ho:∀k,k≠id->br (WB id s).h id (.row e (es.take hi)) k=rH id (s.h k):=fun k hk=>by rw[bw _ _ hk];show br (fun k=>rH id (s.h k)) id AB.none k=_;rw[bw _ _ hk]
 have nO:=sim.free id (.row e (es.take hi))
 have bI:=nO.new hC id (.row e (es.take hi)) hid (fun h=>h rfl) (aO _ _ _) w rfl rfl rfl (Nat.le_refl _) (fun k=>cU (rho id)=some k) (fun _ _ _=>rfl) (fun k hk=>by
  obtain⟨l1,l2,l3⟩:=sim.nG id k trivial bZ hk
  refine⟨l2,fun i D1 li hb=>?_,l3⟩
  have li:(br (WB id s).h id (.row e (es.take hi)) i).live:=li
  have hb:hasB w (br (WB id s).h id (.row e (es.take hi)) i) (rho i) k:=hb
  rw[ho i D1,qn] at li
  rw[ho i D1,tL] at hb
  exact D1 (sim.dj i id k trivial trivial li bZ hb (tY hk))) v (fun g hg=>⟨(sim.nG id g trivial bZ (hblk g hg)).1,.inr (hblk g hg)⟩) fun T=>by
   show aR _ _ _ _ _ (br rho id _ id)
   rw[aO]
   exact aR.front hh q1 q3 q5
 have eE:cu A cN cN S (br rho id v) ⟨(WB id s).t,br (WB id s).h id (.row e (es.take hi))⟩ a w:=bI.nA (fun _ _=>trivial) (fun k=>⟨fun _=>by by_cases e:k=id;exact .inr e;exact .inl e,fun _=>trivial⟩)
 refine⟨S,_,{ eE with tm:=fun k _=>?_ }⟩
 by_cases ek:k=j
 ·subst ek
  show bF _ _ _ _ _ _ (br _ _ _ _) _
  rw[aO]
  exact .ow id _ fun _=>⟨trivial,by rw[aO];exact hv.symm⟩
 show bF _ _ _ _ _ _ (br _ _ _ _) _
 rw[bw _ _ ek]
 exact eE.tm k trivial
end Go.AM
namespace Go.Proofs.YtpbkimanfahbgaaGreatDoor
namespace M
open Go.AM Go.RowKit Go.Lib
open Reg (aB ax eX Wt Piece l9 ct cQ told a_ cx aQ through B0 l5 aw kv cv ru jm bX coreS P4)
def I7 (z:Int×List ax):List PV:=[i64 z.1,aG z.2]
def zc (z:Int×List ax):Value×PV:=(.int .i64 z.1,aG z.2)
theorem BQ {l:List (Int×List ax)} {c:Int} (h:zF l c=true):gR (l.map zc) (.int .i64 c)=some (aG (jr l c)):=by
 induction l with
 | nil=>cases h
 | cons p l ih=>
  obtain⟨k,s⟩:=p
  simp only[List.map_cons,zc,gR,v8,jr]
  by_cases e:k=c
  ·rw[decide_eq_true e.symm,if_pos e]
  rw[decide_eq_false (fun h=>e h.symm),if_neg e]
  refine ih ?_
  simpa [zF,e] using h
theorem F4 {l:List (Int×List ax)} {c:Int} (h:zF l c=false):gR (l.map zc) (.int .i64 c)=none/\jr l c=[]/\∀s,o7 l c s=l++[(c,s)]:=by
 induction l with
 | nil=>exact⟨rfl,rfl,fun _=>rfl⟩
 | cons p l ih=>
  obtain⟨k,s⟩:=p
  simp only[zF,List.any_cons,Bool.or_eq_false_iff,decide_eq_false_iff_not] at h
  obtain⟨h1,h2⟩:=h
  obtain⟨i1,i2,i3⟩:=ih h2
  refine⟨?_,by rw[jr,if_neg h1];exact i2,fun t=>by rw[o7,if_neg h1,i3];rfl⟩
  simp only[List.map_cons,zc,gR,v8]
  rw[decide_eq_false (fun h=>h1 h.symm)]
  exact i1
theorem BR (l:List (Int×List ax)) (c:Int) (s:List ax):jw (l.map zc) (.int .i64 c) (aG s)=(o7 l c s).map zc:=by
 induction l with
 | nil=>rfl
 | cons p l ih=>
  obtain⟨k,u⟩:=p
  simp only[List.map_cons,zc,jw,v8,o7]
  by_cases e:k=c
  ·subst e
   rw[decide_eq_true rfl,if_pos rfl];rfl
  rw[decide_eq_false (fun h=>e h.symm),if_neg e]
  simp only[List.map_cons]
  rw[<-ih];rfl
theorem F5 {l:List (Int×List ax)} {c:Int} (h:zF l c=true) (s:List ax):(o7 l c s).map (·.1)=l.map (·.1):=by
 induction l with
 | nil=>cases h
 | cons p l ih=>
  obtain⟨k,u⟩:=p
  rw[o7]
  by_cases e:k=c
  ·rw[if_pos e];rfl
  rw[if_neg e,List.map_cons,List.map_cons,ih (by simpa [zF,e] using h)]
theorem IJ (l:List (Int×List ax)) (c:Int) (s:List ax):(o7 l c s).length<=l.length+1:=by
 induction l with
 | nil=>simp[o7]
 | cons p l ih=>
  obtain⟨k,u⟩:=p
  rw[o7]
  split
  ·simp
  simp only[List.length_cons];omega
theorem IK {l:List (Int×List ax)} {c:Int} (h:c∈l.map (·.1)):zF l c=true:=by
 obtain⟨p,hp,rfl⟩:=List.mem_map.1 h
 exact List.any_eq_true.2 ⟨p,hp,decide_eq_true rfl⟩
theorem vU {lv:List Int} {i:Nat} (h:i < lv.length):lv[i]?=some (lv.getD i 0):=by
 rw[List.getD_eq_getElem?_getD,List.getElem?_eq_getElem h];rfl
theorem BT (l:List Int) (n:Nat):(aE l).take n=aE (l.take n):=by rw[aE,aE,List.map_take]
theorem F6 {lv:List Int} {k m:Nat} (hk:k=vM lv lv.length 0 0) (h:lv.length≠0) (hm:m=lv.length - 1):((aE lv).set k [i64 (lv.getD (lv.length - 1) 0)]).take m=aE (BK lv):=by
 subst hm
 rw[eO,BT,BK,<-hk]
theorem BU (r:bR) (hg:iz r) (layer:Int) (all:List ax) (hs:ct all) (hk:cQ 1000000 all):aD C 54 [.pv (.ag (rl r)),.pv (i64 layer),.pv (aG all)] (.p (.sl ((kz r layer all).map I7))) []:=by
 have la:=aN r.areas arr
 have na:=hg.na
 have hZ:nu (DB layer r.areas []):=vQ (fun p hp=>by cases hp) fun a ha=>(hg.ar a ha).2
 obtain⟨G,hG⟩:∃G,G=kz r layer all:=⟨_,rfl⟩
 rw[<-hG]
 rw[kz] at hG
 obtain⟨ZQ,TH⟩:∃ZQ,ZQ=DB layer r.areas []:=⟨_,rfl⟩
 rw[<-TH] at hG hZ
 refine aT hC Tryz.func54 rfl rfl 113 rfl (by decide) (by kernel_rfl) fun _ _ _ _ _=>?_
 (refine yS (yn Z (aA zI (aS (ak (yB Z (yU (yn Z (aA zI (aS (af (cD Z (jW Z Z Z (Eb Z) (af ?_)))))))))))));refine yU<|yB Z<|yT<|au<|yS<|yV Z<|yP Z<|yP Z<|yP Z<|yT<|aZ ?_)
 refine aI (fun x:Nat×List (Int×List ax)=>DB layer (r.areas.drop x.1) x.2=ZQ/\nu x.2/\x.2.length<=x.1/\x.1<=r.areas.length) (fun x=>[(1,.p (i64 layer)),(2,.p (aG all)),(3,.p (.ip (rl r))),(7,.ow 19),(8,.ow 8),(21,.p (.sl (r.areas.map arr))),(22,.p (i64 r.areas.length)),(23,.p (i64 x.1))]) (fun x=>[(19,.map (.int .i64) (x.2.map zc)),(8,.row 3 (aE (x.2.map (·.1))))]) (fun x=>r.areas.length - x.1) (0,[]) _ ((aW.fa (by exact hC) _ 8 3 _ (by decide) (by exact rfl) (by exact rfl) (by decide)).trans (aW.gC (by exact hC) _ 3 (y:=.ip (rl r)) (fz:=[(3,.iP (rl r))]) (by exact⟨rfl,rfl⟩))) ⟨TH.symm,fun p hp=>(by cases hp),by simp,Nat.zero_le _⟩ ⟨rfl,rfl,rfl,rfl,rfl,rfl,congrArg (fun m:Nat=>AV.p (i64 m)) la,Z,Y⟩ ⟨Z,Z,Y⟩ fun ⟨i,L⟩ hx t h=>?_
 obtain⟨x1,x2,x3,x4⟩:=hx
 simp only at x1 x2 x3 x4
 (refine yS<|yP Z<|yT<|au<|az Z ?_;refine aa (fun g1=>?_) (fun g1=>?_) <;> try simp only[zB] at g1)
 ·obtain⟨a,Sk⟩:=bh (l:=r.areas) (i:=i) (by omega)
  have ha:=(hg.ar a (List.mem_of_getElem? Sk)).2
  rw[drop_at Sk,vL] at x1
  have hnext:=vP x2 layer ha
  obtain⟨Vr,Vs⟩:=kS ha.1
  obtain⟨Vt,Vu⟩:=oV x2 a.clearance
  have PX:=vI (mQ ha.1)
  have Pa:=A_ (jr L a.clearance) (a_ a.region) Vt Vr (Vu.up (by omega)) (Vs.up (by omega))
  have TJ:(aE (L.map (·.1))).length=L.length:=by rw[cg,List.length_map]
  refine aJ<|aj<|au<|aZ ?_
  refine fB ?_
  (refine aM<|yq Z<|aK zI ?_;refine⟨(arr a),(idx rfl Sk),?_⟩)
  refine yk<|yP Z<|yn Z<|aA zI<|aS<|ak<|yq Z<|aA zI<|bd<|aF<|an<|yT<|ai ?_
  refine I2 10 (y:=.ip (arr a)) (fz:=[(10,.iP (arr a))]) (by exact hC) (by exact⟨rfl,rfl⟩) ?_
  (refine yS<|yP Z<|yP Z<|yn Z<|aK zI ?_;refine⟨_,_,(C0 a layer),?_⟩)
  (refine b9 Z Z<|ae<|yT<|az Z ?_;refine aa (fun g2=>?_) (fun g2=>?_) <;> try simp only[zB] at g2)
  ·rw[rj,if_pos g2] at x1 hnext
   cases hz:zF L a.clearance
   ·obtain⟨n1,n2,n3⟩:=F4 hz
    rw[n2] at Pa
    rw[n2,n3] at x1 hnext
    (refine au<|yS<|yq Z<|aA zI<|bd<|af<|yP Z<|yP Z<|yq Z<|aK zI ?_;refine⟨none,n1,?_⟩)
    ((refine bd<|bq<|yq Z<|aA zI<|bd<|bq<|yP Z<|yP Z<|yA Z<|yA Z<|yU<|yP Z<|yP Z<|yT ?_;refine az Z<|fy<|aM<|yq Z<|aA zI<|bd<|af<|yP Z<|yP Z<|yn Z<|aA zI<|aS<|af<|yn Z ?_;refine bg zI ?_);refine And.intro ⟨fun r hr=>by simp at hr;subst hr;rfl,by simp only[TJ,List.length_set,List.length_replicate];omega,by simp only[TJ,List.length_set,List.length_replicate];omega⟩ ?_)
    ((refine aS<|aF<|af<|cD Z<|cr Z Z Z Z Z<|yT<|cH [] false HF rfl (by kernel_rfl)<|ay Z<|ay Z<|ay Z<|ay Z<|ay Z<|ay Z<|ay Z ?_;refine ay Z<|ay Z<|cA Z Z<|cA Z Z<|cG Z<|dq Z<|aA zI<|bB<|af<|yD Z<|yD Z<|dq Z<|aA zI<|bB ?_;refine af<|yD Z<|yD Z<|dq Z<|aK zI ?_);refine⟨none,n1,?_⟩)
    (refine bB<|ae<|yD Z<|yD Z<|dq Z<|aK zI ?_;refine⟨_,_,PX,?_⟩)
    (refine bB<|ae<|dq Z<|aK zI ?_;refine⟨_,_,Pa,?_⟩)
    (refine bB<|ae<|dq Z<|aA zI<|iG Z<|aF<|an<|cn<|bz Z<|bp<|aj<|aM<|yq Z<|bg zI ?_;refine sI ?_)
    (refine yk<|yP Z<|yT<|ai ?_;refine⟨(i+1,L++[(a.clearance,ru [] (a_ a.region))]),_,aW.refl _ _,?_⟩)
    exact⟨⟨x1,hnext,by simp only[List.length_append,List.length_singleton];omega,by simp only;omega⟩,by simp only;omega,⟨Z,Z,Z,Z,Z,Z,Z,Z,Y⟩,⟨congrArg (AB.map _) (by rw[BR,n3]),congrArg (AB.row _) (by simp[aE];rfl),trivial⟩⟩
   have n1:=BQ hz
   have n2:=F5 hz (ru (jr L a.clearance) (a_ a.region))
   have n3:=BR L a.clearance (ru (jr L a.clearance) (a_ a.region))
   have n4:(o7 L a.clearance (ru (jr L a.clearance) (a_ a.region))).length=L.length:=by
    have:=congrArg List.length n2
    rwa [List.length_map,List.length_map] at this
   (refine au<|yS<|yq Z<|aA zI<|bd<|af<|yP Z<|yP Z<|yq Z<|aK zI ?_;refine⟨(some (aG (jr L a.clearance))),n1,?_⟩)
   ((refine bd<|bq<|yq Z<|aA zI<|bd<|bq<|yP Z<|yP Z<|yA Z<|yA Z<|yU<|yP Z<|yP Z<|yT ?_;refine az Z<|cM<|aJ<|aj<|cH [] false HF rfl (by kernel_rfl)<|ay Z<|ay Z<|ay Z<|ay Z<|ay Z<|ay Z<|ay Z<|ay Z<|ay Z ?_;refine cA Z Z<|cA Z Z<|cG Z<|dq Z<|aA zI<|bB<|af<|yD Z<|yD Z<|dq Z<|aA zI<|bB<|af<|yD Z ?_;refine yD Z<|dq Z<|aK zI ?_);refine⟨(some (aG (jr L a.clearance))),n1,?_⟩)
   (refine bB<|ae<|yD Z<|yD Z<|dq Z<|aK zI ?_;refine⟨_,_,PX,?_⟩)
   (refine bB<|ae<|dq Z<|aK zI ?_;refine⟨_,_,Pa,?_⟩)
   (refine bB<|ae<|dq Z<|aA zI<|iG Z<|aF<|an<|cn<|bz Z<|bp<|aj<|aM<|yq Z<|bg zI ?_;refine sI ?_)
   (refine yk<|yP Z<|yT<|ai ?_;refine⟨(i+1,o7 L a.clearance (ru (jr L a.clearance) (a_ a.region))),_,aW.refl _ _,?_⟩)
   exact⟨⟨x1,hnext,by simp only;omega,by simp only;omega⟩,by simp only;omega,⟨Z,Z,Z,Z,Z,Z,Z,Z,Y⟩,⟨congrArg (AB.map _) n3,congrArg (AB.row _) (congrArg aE n2.symm),trivial⟩⟩
  rw[rj,if_neg (by simpa using g2)] at x1
  (refine aJ<|bp<|aj<|aM<|yq Z<|bg zI ?_;refine sI ?_)
  (refine yk<|yP Z<|yT<|ai ?_;refine⟨(i+1,L),_,aW.refl _ _,?_⟩)
  exact⟨⟨x1,x2,by simp only;omega,by simp only;omega⟩,by simp only;omega,⟨Z,Z,Z,Z,Z,Z,Z,Z,Y⟩,⟨Z,Z,Y⟩⟩
 rw[List.drop_of_length_le (by omega)] at x1
 have x1:L=ZQ:=x1
 subst x1
 refine bT<|aY<|aY<|bU<|aj<|yS<|yB Z<|yU<|yP Z<|yA Z<|yT<|au<|aZ ?_
 refine aI (fun x:Nat×List Int×List ax×List (Int×List ax)=>x.2.2.2++ky L x.1 x.2.1 x.2.2.1=G/\x.1=x.2.1.length/\(∀c∈x.2.1,zF L c=true)/\ct x.2.2.1/\cQ 1000000 x.2.2.1/\x.2.2.2.length+x.2.1.length<=50) (fun x=>[(7,.ow 19),(8,.ow 8),(13,.ow 13),(14,.p (aG x.2.2.1))]) (fun x=>[(19,.map (.int .i64) (L.map zc)),(8,.row 3 (aE x.2.1)),(13,.row 121 (x.2.2.2.map I7))]) (fun x=>x.1) (L.length,(L.map fun x:Int×List ax=>x.1),all,([]:List (Int×List ax))) _ (aW.fa (by exact hC) _ 13 121 _ (by decide) (by exact rfl) (by exact rfl) (by decide)) ⟨hG.symm,by simp,fun c hc=>IK hc,hs,hk,by simp only[List.length_nil,List.length_map];omega⟩ ⟨Z,Z,Z,Z,Y⟩ ⟨Z,Z,Z,Y⟩ fun ⟨n,lv,rest,out⟩ hx t h=>?_
 obtain⟨z1,z2,z3,z4,z5,z6⟩:=hx
 simp only at z1 z2 z3 z4 z5 z6
 have ll:=cg lv
 (refine au<|yS<|yq Z<|aA zI<|bd<|af<|yP Z<|yP Z<|yT<|az Z ?_;refine aa (fun g2=>?_) (fun g2=>?_) <;> try simp only[zB] at g2)
 ·have b8:lv.length≠0:=by
   have:(0:Int) < ((aE lv).length:Int):=by simpa using g2
   omega
  obtain⟨m,rfl⟩:∃m,n=m+1:=⟨n - 1,by omega⟩
  rw[ky,if_neg b8] at z1
  have hK:vM lv lv.length 0 0 < lv.length:=zG (by omega)
  have p6:=z3 _ (BO b8)
  have rE:=BQ p6
  obtain⟨O_,TK⟩:=oV x2 (vN lv)
  have hand:=xz rest (jr L (vN lv)) z4 O_ (z5.up (by omega)) (TK.up (by omega))
  have Pb:=fQ rest (jr L (vN lv)) z4 O_ (z5.up (by omega)) (TK.up (by omega))
  have Gp:=(Reg.dZ z4 O_).1
  have xW:=qN z4 O_ z5
  refine aJ<|aj<|aZ<|yS<|yA Z<|yT ?_
  refine fB ?_
  refine yS<|yq Z<|aA zI<|bd<|af<|yP Z<|yP Z<|yT<|aZ ?_
  refine aI (fun y:Nat×Nat×Nat=>vM lv y.1 y.2.1 y.2.2=vM lv lv.length 0 0/\y.2.1 < lv.length/\y.2.2<=lv.length/\y.1=lv.length - y.2.2) (fun y=>[(7,.ow 19),(8,.ow 8),(13,.ow 13),(14,.p (aG rest)),(15,.p (i64 y.2.1)),(60,.ow 8),(61,.p (i64 lv.length)),(62,.p (i64 y.2.2))]) (fun y=>[(19,.map (.int .i64) (L.map zc)),(8,.row 3 (aE lv)),(13,.row 121 (out.map I7))]) (fun y=>y.1) (lv.length,0,0) _ (aW.refl _ _) ⟨rfl,by simp only;omega,Nat.zero_le _,rfl⟩ ⟨rfl,rfl,rfl,rfl,rfl,rfl,congrArg (fun m:Nat=>AV.p (i64 m)) ll,Z,Y⟩ ⟨Z,Z,Z,Y⟩ fun ⟨f,k,j⟩ hy t h=>?_
  obtain⟨w1,w2,w3,w4⟩:=hy
  simp only at w1 w2 w3 w4
  (refine yS<|yP Z<|yT<|au<|az Z ?_;refine aa (fun g3=>?_) (fun g3=>?_) <;> try simp only[zB] at g3)
  ·have hj:j < lv.length:=by omega
   obtain⟨f,rfl⟩:∃f',f=f'+1:=⟨f - 1,by omega⟩
   rw[vM,if_pos hj] at w1
   (refine aJ<|aj<|au<|aZ<|yS<|yP Z<|yq Z<|bg zI ?_;refine And.intro ⟨by omega,by dsimp only;rw[ll];omega⟩ ?_)
   (refine bd<|bJ<|yq Z<|aK zI ?_;refine⟨[i64 (lv.getD j 0)],(idx rfl (vU hj)).2,?_⟩)
   (refine yk<|yA Z<|yA Z<|yU<|yP Z<|yq Z<|aA zI<|bd<|af<|yP Z<|yq Z<|bg zI ?_;refine And.intro ⟨by omega,by dsimp only;rw[ll];omega⟩ ?_)
   (refine bd<|bJ<|yq Z<|aK zI ?_;refine⟨[i64 (lv.getD k 0)],(idx rfl (vU w2)).2,?_⟩)
   (refine yk<|yP Z<|yT<|az Z ?_;refine aa (fun g4=>?_) (fun g4=>?_) <;> try simp only[zB] at g4)
   ·rw[if_pos g4] at w1
    (refine aM<|yP Z<|yA Z<|cL<|bp<|aj<|aM<|yq Z<|bg zI ?_;refine And.intro ⟨by dsimp only;omega,by dsimp only;omega⟩ ?_)
    (refine yk<|yP Z<|yT<|ai ?_;refine⟨(f,j,j+1),_,aW.refl _ _,?_⟩)
    exact⟨⟨w1,hj,by simp only;omega,by simp only;omega⟩,by simp only;omega,⟨Z,Z,Z,Z,Z,Z,Z,Z,Y⟩,⟨Z,Z,Z,Y⟩⟩
   rw[if_neg g4] at w1
   (refine aJ<|bp<|aj<|aM<|yq Z<|bg zI ?_;refine And.intro ⟨by dsimp only;omega,by dsimp only;omega⟩ ?_)
   (refine yk<|yP Z<|yT<|ai ?_;refine⟨(f,k,j+1),_,aW.refl _ _,?_⟩)
   exact⟨⟨w1,w2,by simp only;omega,by simp only;omega⟩,by simp only;omega,⟨Z,Z,Z,Z,Z,Z,Z,Z,Y⟩,⟨Z,Z,Z,Y⟩⟩
  have hf:f=0:=by omega
  subst hf
  rw[vM] at w1
  rw[vN,<-w1] at rE hand Pb z1
  rw[vN,<-w1] at Gp xW
  have z8:lv.length - 1 < lv.length:=by omega
  refine bT<|aY<|aY<|bU<|aj<|ai ?_
  refine CR (aW.refl _ _) ?_
  (refine yS<|yq Z<|aA zI<|bd<|af<|yP Z<|yq Z<|bg zI ?_;refine And.intro ⟨by omega,by dsimp only;rw[ll];omega⟩ ?_)
  (refine bd<|bJ<|yq Z<|aK zI ?_;refine⟨[i64 (lv.getD k 0)],(idx rfl (vU w2)).2,?_⟩)
  ((refine yk<|yA Z<|yU<|yq Z<|aA zI<|bd<|af<|yP Z<|yq Z<|aA zI<|bd<|af<|yq Z<|aA zI ?_;refine bd<|af<|yP Z<|yq Z<|bg zI ?_);refine And.intro ⟨by rw[ll];omega,by rw[ll];omega⟩ ?_)
  (refine yk<|yq Z<|bg zI ?_;refine And.intro ⟨by rw[ll];omega,by rw[ll];omega⟩ ?_)
  (refine bd<|bJ<|yq Z<|aK zI ?_;refine⟨[i64 (lv.getD (lv.length - 1) 0)],(idx (show ((aE lv).length:Int) - 1=((lv.length - 1:Nat):Int) by rw[ll];omega) (vU z8)).2,?_⟩)
  (refine yk<|yq Z<|bg zI ?_;refine And.intro ⟨by omega,by dsimp only;rw[ll];omega⟩ ?_)
  (refine bd<|bJ<|yq Z<|aK zI ?_;refine⟨[i64 (lv.getD k 0)],(idx rfl (vU w2)).2,?_⟩)
  refine bd<|aF<|an<|yT ?_
  refine fB ?_
  (refine aM<|yq Z<|aA zI<|bd<|af<|yq Z<|aA zI<|bd<|af<|yP Z<|yq Z<|bg zI ?_;refine And.intro ⟨by simp only[List.length_set];rw[ll];omega,by simp only[List.length_set];rw[ll];omega⟩ ?_)
  refine yk<|yq Z<|Rt zI ?_
  refine Or.inl ?_
  (refine zA zi ?_;refine And.intro ⟨by omega,by simp only[List.length_set];rw[ll];omega,by simp only[List.length_set];rw[ll];omega⟩ ?_)
  refine bd (uJ (cD Z (jW Z Z Z (nX Z) (uJ (yT (ai ?_))))))
  refine CR (aW.front (by exact hC) _ 8 8 _ (by decide) (by exact rfl) (by exact rfl)) ?_
  (refine yS<|yq Z<|aA zI<|bd<|af<|yP Z<|yP Z<|yq Z<|aA zI<|bd<|af<|yP Z<|yq Z<|aK zI ?_;refine⟨(some (aG (jr L (lv.getD k 0)))),rE,?_⟩)
  (refine yk<|yn Z<|aK zI ?_;refine⟨_,_,hand,?_⟩)
  (refine b9 Z Z<|ae<|yP Z<|yn Z<|aA zI<|aS<|af<|yn Z<|bg zI ?_;refine And.intro ⟨fun r hr=>by simp at hr;subst hr;rfl,by simp only[List.length_map,List.length_set,List.length_replicate];omega,by simp only[List.length_map,List.length_set,List.length_replicate];omega⟩ ?_)
  ((refine aS<|aF<|af<|cD Z<|cr Z Z Z Z Z<|yT<|aM<|yP Z<|yq Z<|aA zI<|bd<|af<|yP Z<|yq Z ?_;refine aK zI ?_);refine⟨(some (aG (jr L (lv.getD k 0)))),rE,?_⟩)
  (refine yk<|yn Z<|aK zI ?_;refine⟨_,_,Pb,?_⟩)
  (refine b9 Z Z<|ae<|yA Z<|cL<|bp<|aj<|ai ?_;refine⟨(m,BK lv,cv rest (jr L (lv.getD k 0)),out++[(lv.getD k 0,jm rest (jr L (lv.getD k 0)))]),_,aW.refl _ _,?_⟩)
  refine⟨⟨?_,?_,?_,Gp,xW,?_⟩,?_,⟨Z,Z,Z,Z,Y⟩,⟨rfl,congrArg (AB.row _) ?_,congrArg (AB.row _) ?_,trivial⟩⟩
  ·simp only[List.append_assoc,List.singleton_append]
   exact z1
  ·simp only;rw[BL b8];omega
  ·exact fun c hc=>z3 c (BN b8 c hc)
  ·simp only[List.length_append,List.length_singleton];rw[BL b8];omega
  ·simp only;omega
  ·refine F6 w1 b8 ?_
   simp only[List.length_set];rw[ll];omega
  rw[List.map_append];rfl
 have b8:lv.length=0:=by
  have:¬(0:Int) < ((aE lv).length:Int):=by simpa using g2
  omega
 have hn:n=0:=by omega
 subst hn
 rw[ky] at z1
 ((refine bT<|aY<|aY<|bU<|aj<|yS<|yq Z<|aA zI<|bd<|af<|yP Z<|yP Z<|yn Z<|aA zI ?_;refine aS<|af<|yn Z<|bg zI ?_);refine And.intro ⟨fun r hr=>by simp at hr;subst hr;rfl,by simp only[List.length_map,List.length_set,List.length_replicate];omega,by simp only[List.length_map,List.length_set,List.length_replicate];omega⟩ ?_)
 (refine aS<|aF<|af<|cD Z<|cr Z Z Z Z Z<|yR zi ?_;refine And.intro ?_ trivial)
 rw[<-z1,List.map_append]
 rfl
theorem vV (bs:List eX) (ps:List Piece) (o:List Int×List Int):∀(l:List Reg.jn) (s:Reg.mX),(l.foldl (Reg.nt bs ps o) s).groups.length=s.groups.length
 | [],s=>rfl
 | x::l,s=>by
  rw[List.foldl_cons,vV bs ps o l]
  simp only[Reg.nt]
  split
  ·rw[List.length_set]
  rfl
theorem vW (a:Wt):(aw a).placed.groups.length=(Reg.gB a.bores (aw a).pieces.length (Reg.ba (Reg.dR (Reg.jq (aw a).pieces.length a.bores.length (aw a).cI)) ((aw a).pieces.length+a.bores.length))).2.length:=vV _ _ _ _ _
theorem MW {a:Wt} (gd:vG a) {nets:List ByteArray} (hn:nets.length=(aw a).placed.groups.length) {i:Nat} (hi:i < (aw a).pieces.length):∃(k:Nat) (s:ByteArray),(aw a).ofPiece[i]?=some (k:Int)/\(aw a).ofPiece.getD i 0=(k:Int)/\nets[k]?=some s/\er nets (k:Int)=s:=by
 obtain⟨k,g,h1,h2,_⟩:=gd.gr.a i hi
 have hk:=(List.getElem?_eq_some_iff.1 h2).1
 have h1:(aw a).ofPiece[i]?=some (k:Int):=h1
 rw[<-vW,<-hn] at hk
 obtain⟨s,hs⟩:=bh hk
 exact⟨k,s,h1,by rw[List.getD_eq_getElem?_getD,h1];rfl,hs,by rw[er,Int.toNat_natCast,List.getD_eq_getElem?_getD,hs];rfl⟩
theorem vX (L:List (Int×List ax)):∀(n:Nat) (lv:List Int) (rest:List ax),(ky L n lv rest).length<=n+1
 | 0,_,_=>by simp[ky]
 | n+1,lv,rest=>by
  rw[ky]
  split
  ·simp
  have:=vX L n (BK lv) (cv rest (jr L (vN lv)))
  simp only[List.length_cons];omega
theorem EA (layer:Int):∀(al:List kd) (l:List (Int×List ax)),(DB layer al l).length<=l.length+al.length
 | [],l=>by simp[DB]
 | a::al,l=>by
  have h1:=EA layer al (rj layer l a)
  have h2:(rj layer l a).length<=l.length+1:=by
   rw[rj]
   split
   ·exact IJ _ _ _
   omega
  rw[vL,List.length_cons]
  omega
theorem DE (r:bR) (layer:Int) (all:List ax):(kz r layer all).length<=r.areas.length+1:=by
 have h1:=vX (DB layer r.areas []) (DB layer r.areas []).length ((DB layer r.areas []).map (·.1)) all
 have h2:=EA layer r.areas []
 rw[List.length_nil] at h2
 rw[kz]
 omega
theorem Kn {a:Wt} (gd:vG a) {nets:List ByteArray} (hn:nets.length=(aw a).placed.groups.length) {j:Nat} (hj:j < a.bores.length):(∃(k:Nat) (s:ByteArray),(aw a).ofBore[j]?=some (k:Int)/\(aw a).ofBore.getD j 0=(k:Int)/\nets[k]?=some s/\er nets (k:Int)=s)\/((aw a).ofBore[j]?=some (-1)/\(aw a).ofBore.getD j 0=-1):=by
 cases hp:Reg.eJ a.bores j
 ·have h1:(aw a).ofBore[j]?=some (-1):=gd.gr.d j hj hp
  exact .inr ⟨h1,by rw[List.getD_eq_getElem?_getD,h1];rfl⟩
 obtain⟨k,g,h1,h2,_⟩:=gd.gr.b j hj hp
 have hk:=(List.getElem?_eq_some_iff.1 h2).1
 have h1:(aw a).ofBore[j]?=some (k:Int):=h1
 rw[<-vW,<-hn] at hk
 obtain⟨s,hs⟩:=bh hk
 exact .inl ⟨k,s,h1,by rw[List.getD_eq_getElem?_getD,h1];rfl,hs,by rw[er,Int.toNat_natCast,List.getD_eq_getElem?_getD,hs];rfl⟩
theorem zH {s b:List ax} (h:ct s) (k:cQ 1000000 s) (hb:ct b):ct (cv s b)/\cQ 1000000 (cv s b):=⟨(Reg.dZ h hb).1,qN h hb k⟩
theorem DF (r:bR) (hg:iz r) (a:Wt) (gd:vG a) (nets:List ByteArray) (hn:nets.length=(aw a).placed.groups.length) (net:ByteArray) (layer:Int):aD C 20 [.pv (.ag (rl r)),.pv (.ip (kY a)),.pv (strs nets),.pv (str net),.pv (i64 layer)] (.p (aG (gx r a nets net layer))) []:=by
 have lb:=aN a.bores bc
 have lp:=aN (aw a).pieces gw
 have few:=gd.few
 have Vv:=gd.art.few
 have Sl:=vH gd.art
 have Sm:=hg.nums
 simp only[ke,di,Bool.and_eq_true,decide_eq_true_eq] at Sm
 have PX:=vI (mQ gd.art.out)
 obtain⟨so,ko⟩:=kS gd.art.out
 obtain⟨Pc,_⟩:=xO hg gd.art nets net layer
 have Sn:=tw hg layer Pc.sok Pc.ink
 have LV:=DE r layer (tv r a nets net layer)
 have V_:=hg.na
 obtain⟨R,hR⟩:∃R,R=gx r a nets net layer:=⟨_,rfl⟩
 rw[<-hR]
 rw[gx] at hR
 have Sq:=BU r hg layer (tv r a nets net layer) Pc.sok Pc.ink
 obtain⟨si,PY⟩:∃si,si=tv r a nets net layer:=⟨_,rfl⟩
 rw[<-PY] at hR Sq Sn LV Pc
 obtain⟨ZS,Vw⟩:∃ZS,ZS=kz r layer si:=⟨_,rfl⟩
 rw[<-Vw] at hR Sq Sn LV
 have lz:=aN ZS I7
 rw[tv] at PY
 have TL:=Dr (a_ a.outline) so ko r.edge (by omega) (by omega)
 have PZ:=Reg.u4 so (l:=r.edge) (r:=r.edge) (d:=r.edge) (u:=r.edge) (by omega) (by omega) (by omega) (by omega)
 have TM:=zl PZ.1 so ko fun x y hx=>(PZ.2.1 x y).1 hx x y (by omega) (by omega) (by omega) (by omega)
 have TN:=PZ.1
 obtain⟨I,hI⟩:∃I,I=coreS (a_ a.outline) r.edge r.edge r.edge r.edge:=⟨_,rfl⟩
 rw[<-hI] at TL TN TM PY
 clear PZ
 refine aT hC Tryz.func20 rfl rfl 140 rfl (by decide) (by kernel_rfl) fun _ _ _ _ _=>?_
 skip
 refine fB ?_
 refine aM<|yn Z<|aA zI<|aS<|ak<|yB Z<|yT<|ai ?_
 refine I2 5 (y:=.ip (rl r)) (fz:=[(5,.iP (rl r))]) (by exact hC) (by exact⟨rfl,rfl⟩) ?_
 ((refine au<|cH [] false RF rfl (by kernel_rfl)<|ay Z<|ay Z<|ay Z<|ay Z<|ay Z<|cA Z Z<|ay Z<|ay Z<|cA Z Z<|cG Z<|yD Z<|yD Z ?_;refine yD Z<|yD Z<|yD Z<|dq Z<|aK zI ?_);refine⟨_,_,PX,?_⟩)
 (refine bB<|ae<|yD Z<|yD Z<|dq Z<|aK zI ?_;refine⟨_,_,TL,?_⟩)
 (refine bB<|ae<|yD Z<|cn<|aq Z<|aq Z<|aq Z<|aq Z<|aq Z<|aq Z<|aq Z<|aq Z<|aq Z<|dW Z Z ?_;refine bz Z<|aj<|au<|yS<|yP Z<|yP Z<|yP Z<|yP Z<|yP Z<|yP Z<|yP Z<|yT<|aZ ?_)
 refine aI (fun x:Nat×List ax=>ir r (aw a).ofBore nets net layer x.1 (a.bores.drop x.1) x.2=si/\ct x.2/\cQ 1000000 x.2/\x.1<=a.bores.length) (fun x=>[(1,.p (.ip (kY a))),(2,.p (strs nets)),(3,.p (str net)),(4,.p (i64 layer)),(5,.p (.ip (rl r))),(11,.p (aG x.2)),(37,.p (.sl (a.bores.map bc))),(38,.p (i64 a.bores.length)),(39,.p (i64 x.1))]) (fun _=>[]) (fun x=>a.bores.length - x.1) (0,I) _ (aW.refl _ _) ⟨PY.symm,TN,TM,Nat.zero_le _⟩ ⟨rfl,rfl,rfl,rfl,rfl,rfl,rfl,congrArg (fun m:Nat=>AV.p (i64 m)) lb,Z,Y⟩ trivial fun ⟨k,s⟩ hx t h=>?_
 obtain⟨x1,x2,x3,x4⟩:=hx
 simp only at x1 x2 x3 x4
 (refine yS<|yP Z<|yT<|au<|az Z ?_;refine aa (fun g1=>?_) (fun g1=>?_) <;> try simp only[zB] at g1)
 ·obtain⟨x,Sr⟩:=bh (l:=a.bores) (i:=k) (by omega)
  have bx:=Sl x (List.mem_of_getElem? Sr)
  rw[drop_at Sr,ir] at x1
  obtain⟨P0,Ss⟩:=Ey bx
  have Lo:=Dx bx
  have Vx:=Kn gd hn (j:=k) (by omega)
  refine aJ<|aj<|au<|aZ ?_
  refine fB ?_
  (refine aM<|yP Z<|yq Z<|aK zI ?_;refine⟨(bc x),(idx rfl Sr),?_⟩)
  refine yk<|yP Z<|yn Z<|aA zI<|aS<|ak<|yA Z<|yq Z<|aA zI<|bd<|aF<|an<|yT<|ai ?_
  refine I2 13 (y:=.ip (bc x)) (fz:=[(13,.iP (bc x))]) (by exact hC) (by exact⟨rfl,rfl⟩) ?_
  (refine au<|yS<|yP Z<|yP Z<|yn Z<|aK zI ?_;refine⟨_,_,(ig x layer),?_⟩)
  cases g2:through x layer
  ·rw[g2,if_neg (by decide)] at x1
   (refine b9 Z Z<|ae<|yP Z<|yT<|az Z<|fy<|bT<|aY<|bU<|aj<|aM<|yq Z<|bg zI ?_;refine sI ?_)
   (refine yk<|yP Z<|yT<|ai ?_;refine⟨(k+1,s),_,aW.refl _ _,?_⟩)
   exact⟨⟨x1,x2,x3,by simp only;omega⟩,by simp only;omega,⟨Z,Z,Z,Z,Z,Z,Z,Z,Z,Y⟩,trivial⟩
  rw[g2,if_pos rfl] at x1
  have hw:=vf (a_ [aQ x]) P0 (Ss.up (by omega)) r.clearance (by omega) (by omega)
  obtain⟨ws,_,wk⟩:=Reg.ff P0 (l:=r.clearance) (r:=r.clearance) (d:=r.clearance) (u:=r.clearance) (by omega) (by omega) (by omega) (by omega)
  have wk:=wk 1010000 100000 Ss (by omega) (by omega) (by omega) (by omega)
  have Gp:=fQ s _ x2 ws (x3.up (by omega)) (wk.up (by omega))
  have xW:=fQ s _ x2 P0 (x3.up (by omega)) (Ss.up (by omega))
  have IL:=zH x2 x3 ws
  have TO:=zH x2 x3 P0
  rcases Vx with⟨gk,sk,k1,k2,k3,k4⟩ | ⟨k1,k2⟩
  ·rw[vO,k2,k4] at x1
   (refine b9 Z Z<|ae<|yP Z<|yT<|az Z<|cM<|aJ<|aj<|yS<|yP Z<|yn Z<|aK zI ?_;refine⟨_,_,(dv x bx),?_⟩)
   (refine b9 Z Z<|ae<|yn Z<|aA zI<|aS<|af<|yn Z<|aK zI ?_;refine⟨_,_,Lo,?_⟩)
   (refine b9 Z Z<|aF<|ae<|yA Z<|yT<|au<|yS<|yP Z<|yP Z<|yP Z<|yP Z<|yP Z<|yq Z<|aK zI ?_;refine⟨[i64 gk],(idx rfl k1),?_⟩)
   (refine yk<|yP Z<|yA Z<|yU<|yP Z<|yP Z<|yP Z<|y1 Z<|y1 Z<|y2 Z<|bA Z Z<|aK zI ?_;refine⟨[str sk],(idx rfl k3),?_⟩)
   (refine yk<|y1 Z<|y1 Z<|y1 Z<|yP Z<|yT<|az Z ?_;refine aa (fun g4=>?_) (fun g4=>?_) <;> try simp only[zB] at g4)
   ·rw[if_pos (.inr (by simpa using g4))] at x1
    (refine aM<|yP Z<|yP Z<|yP Z<|yn Z<|aK zI ?_;refine⟨_,_,hw,?_⟩)
    (refine b9 Z Z<|ae<|yA Z<|yT<|aM<|yP Z<|yP Z<|yn Z<|aK zI ?_;refine⟨_,_,Gp,?_⟩)
    (refine b9 Z Z<|ae<|yA Z<|cL<|bp<|aj<|aM<|yq Z<|bg zI ?_;refine sI ?_)
    (refine yk<|yP Z<|yT<|ai ?_;refine⟨(k+1,cv s (bX (a_ [aQ x]) r.clearance r.clearance r.clearance r.clearance)),_,aW.refl _ _,?_⟩)
    exact⟨⟨x1,IL.1,IL.2,by simp only;omega⟩,by simp only;omega,⟨Z,Z,Z,Z,Z,Z,Z,Z,Z,Y⟩,trivial⟩
   rw[if_neg (by rintro (e | e);omega;exact e (by simpa using g4))] at x1
   (refine aJ<|aj<|aM<|yP Z<|yP Z<|yn Z<|aK zI ?_;refine⟨_,_,xW,?_⟩)
   (refine b9 Z Z<|ae<|yA Z<|cL<|bp<|aj<|aM<|yq Z<|bg zI ?_;refine sI ?_)
   (refine yk<|yP Z<|yT<|ai ?_;refine⟨(k+1,cv s (a_ [aQ x])),_,aW.refl _ _,?_⟩)
   exact⟨⟨x1,TO.1,TO.2,by simp only;omega⟩,by simp only;omega,⟨Z,Z,Z,Z,Z,Z,Z,Z,Z,Y⟩,trivial⟩
  rw[vO,k2,if_pos (.inl (by decide))] at x1
  (refine b9 Z Z<|ae<|yP Z<|yT<|az Z<|cM<|aJ<|aj<|yS<|yP Z<|yn Z<|aK zI ?_;refine⟨_,_,(dv x bx),?_⟩)
  (refine b9 Z Z<|ae<|yn Z<|aA zI<|aS<|af<|yn Z<|aK zI ?_;refine⟨_,_,Lo,?_⟩)
  (refine b9 Z Z<|aF<|ae<|yA Z<|yT<|au<|yS<|yP Z<|yP Z<|yP Z<|yP Z<|yP Z<|yq Z<|aK zI ?_;refine⟨[i64 (-1)],(idx rfl k1),?_⟩)
  ((refine yk<|yP Z<|yA Z<|yU<|yP Z<|yP Z<|yP Z<|y0 Z<|y0 Z<|y0 Z<|y0 Z<|y0 Z<|y0 Z<|yP Z ?_;refine yT<|az Z<|fy<|aM<|yP Z<|yP Z<|yP Z<|yn Z<|aK zI ?_);refine⟨_,_,hw,?_⟩)
  (refine b9 Z Z<|ae<|yA Z<|yT<|aM<|yP Z<|yP Z<|yn Z<|aK zI ?_;refine⟨_,_,Gp,?_⟩)
  (refine b9 Z Z<|ae<|yA Z<|cL<|bp<|aj<|aM<|yq Z<|bg zI ?_;refine sI ?_)
  (refine yk<|yP Z<|yT<|ai ?_;refine⟨(k+1,cv s (bX (a_ [aQ x]) r.clearance r.clearance r.clearance r.clearance)),_,aW.refl _ _,?_⟩)
  exact⟨⟨x1,IL.1,IL.2,by simp only;omega⟩,by simp only;omega,⟨Z,Z,Z,Z,Z,Z,Z,Z,Z,Y⟩,trivial⟩
 rw[List.drop_of_length_le (by omega),ir] at x1
 subst x1
 ((refine bT<|aY<|aY<|bU<|aj<|yS<|yB Z<|yT<|au<|yS<|yP Z<|yP Z<|yP Z<|yn Z ?_;refine aK zI ?_);refine⟨_,_,Sq,?_⟩)
 refine b9 Z Z<|ae<|yP Z<|yP Z<|yT<|aZ ?_
 refine aI (fun x:Nat×List ax=>tr r (aw a).ofPiece nets net layer (aw a).pieces (ZS.drop x.1) x.2=R/\ct x.2/\cQ 1000000 x.2/\x.1<=ZS.length) (fun x=>[(1,.p (.ip (kY a))),(2,.p (strs nets)),(3,.p (str net)),(4,.p (i64 layer)),(5,.p (.ip (rl r))),(16,.p (aG x.2)),(80,.p (.sl (ZS.map I7))),(81,.p (i64 ZS.length)),(82,.p (i64 x.1))]) (fun _=>[]) (fun x=>ZS.length - x.1) (0,([]:List ax)) _ (aW.nil (by exact hC) _ 16 (by exact rfl)) ⟨hR.symm,trivial,fun b hb=>(by cases hb),Nat.zero_le _⟩ ⟨rfl,rfl,rfl,rfl,rfl,rfl,rfl,congrArg (fun m:Nat=>AV.p (i64 m)) lz,Z,Y⟩ trivial fun ⟨i,out⟩ hx t h=>?_
 obtain⟨x1,x5,x6,x7⟩:=hx
 simp only at x1 x5 x6 x7
 (refine yS<|yP Z<|yT<|au<|az Z ?_;refine aa (fun g1=>?_) (fun g1=>?_) <;> try simp only[zB] at g1)
 ·obtain⟨z,Gg⟩:=bh (l:=ZS) (i:=i) (by omega)
  have zg:=Sn z (List.mem_of_getElem? Gg)
  obtain⟨zn,zs,zk,_⟩:=zg
  rw[drop_at Gg,tr] at x1
  obtain⟨Q,hQ⟩:∃Q,Q=eB r (aw a).ofPiece nets net layer z.1 0 (aw a).pieces z.2:=⟨_,rfl⟩
  rw[<-hQ] at x1
  refine aJ<|aj<|au<|aZ ?_
  refine fB ?_
  (refine aM<|yq Z<|aK zI ?_;refine⟨(I7 z),(idx rfl Gg),?_⟩)
  refine yk<|yP Z<|yn Z<|aA zI<|aS<|ak<|yq Z<|aA zI<|bd<|aF<|an<|yT<|ai ?_
  refine I2 18 (y:=.ip (I7 z)) (fz:=[(18,.iP (I7 z))]) (by exact hC) (by exact⟨rfl,rfl⟩) ?_
  (refine yS<|yP Z<|yP Z<|yA Z<|yT<|au<|yS<|yP Z<|yP Z<|yP Z<|yP Z<|yP Z<|yP Z<|yT ?_;refine aZ ?_)
  refine aI (fun y:Nat×List ax=>eB r (aw a).ofPiece nets net layer z.1 y.1 ((aw a).pieces.drop y.1) y.2=Q/\ct y.2/\cQ 1000000 y.2/\y.1<=(aw a).pieces.length) (fun y=>[(1,.p (.ip (kY a))),(2,.p (strs nets)),(3,.p (str net)),(4,.p (i64 layer)),(5,.p (.ip (rl r))),(16,.p (aG out)),(18,.p (.ip (I7 z))),(19,.p (aG y.2)),(80,.p (.sl (ZS.map I7))),(81,.p (i64 ZS.length)),(82,.p (i64 i)),(91,.p (.sl ((aw a).pieces.map gw))),(92,.p (i64 (aw a).pieces.length)),(93,.p (i64 y.1))]) (fun _=>[]) (fun y=>(aw a).pieces.length - y.1) (0,z.2) _ (aW.refl _ _) ⟨hQ.symm,zs,zk,Nat.zero_le _⟩ ⟨rfl,rfl,rfl,rfl,rfl,rfl,rfl,rfl,rfl,rfl,rfl,rfl,congrArg (fun m:Nat=>AV.p (i64 m)) lp,Z,Y⟩ trivial fun ⟨k,s⟩ hy t h=>?_
  obtain⟨w1,w2,w3,w4⟩:=hy
  simp only at w1 w2 w3 w4
  (refine yS<|yP Z<|yT<|au<|az Z ?_;refine aa (fun g2=>?_) (fun g2=>?_) <;> try simp only[zB] at g2)
  ·obtain⟨p,hp⟩:=bh (l:=(aw a).pieces) (i:=k) (by omega)
   have gp:=gd.pc p (List.mem_of_getElem? hp)
   obtain⟨gk,sk,k1,k2,k3,k4⟩:=MW gd hn (i:=k) (by omega)
   rw[drop_at hp,eB,l_,k2,k4] at w1
   refine aJ<|aj<|au<|aZ ?_
   refine fB ?_
   (refine aM<|yP Z<|yq Z<|aK zI ?_;refine⟨(gw p),(idx rfl hp),?_⟩)
   refine yk<|yP Z<|yn Z<|aA zI<|aS<|ak<|yA Z<|yq Z<|aA zI<|bd<|aF<|an<|yT<|ai ?_
   refine I2 21 (y:=.ip (gw p)) (fz:=[(21,.iP (gw p))]) (by exact hC) (by exact⟨rfl,rfl⟩) ?_
   (refine yS<|yP Z<|yP Z<|yP Z<|yP Z<|yP Z<|yP Z<|yq Z<|aK zI ?_;refine⟨[i64 gk],(idx rfl k1),?_⟩)
   (refine yk<|yP Z<|yq Z<|aK zI ?_;refine⟨[str sk],(idx rfl k3),?_⟩)
   (refine yk<|yP Z<|yA Z<|yT<|au<|yS<|yP Z<|yP Z<|yP Z<|yP Z<|yP Z<|yg Z ?_;refine aa (fun g3=>?_) (fun g3=>?_) <;> try simp only[zB] at g3)
   ·rw[if_pos (.inl (by simpa using g3))] at w1
    ((refine cB<|ae<|y0 Z<|y0 Z<|yP Z<|yT<|az Z<|fy<|bT<|aY<|bU<|aj<|aM<|yq Z ?_;refine bg zI ?_);refine sI ?_)
    (refine yk<|yP Z<|yT<|ai ?_;refine⟨(k+1,s),_,aW.refl _ _,?_⟩)
    exact⟨⟨w1,w2,w3,by simp only;omega⟩,by simp only;omega,⟨Z,Z,Z,Z,Z,Z,Z,Z,Z,Z,Z,Z,Z,Z,Y⟩,trivial⟩
   have g3:p.layer=layer:=by simpa using g3
   (refine bS<|bA Z Z<|aA zI<|yk<|y1 Z<|y1 Z<|yP Z<|yT<|az Z ?_;refine aa (fun g4=>?_) (fun g4=>?_) <;> try simp only[zB] at g4)
   ·rw[if_pos (.inr (by simpa using g4))] at w1
    (refine bT<|aY<|bU<|aj<|aM<|yq Z<|bg zI ?_;refine sI ?_)
    (refine yk<|yP Z<|yT<|ai ?_;refine⟨(k+1,s),_,aW.refl _ _,?_⟩)
    exact⟨⟨w1,w2,w3,by simp only;omega⟩,by simp only;omega,⟨Z,Z,Z,Z,Z,Z,Z,Z,Z,Z,Z,Z,Z,Z,Y⟩,trivial⟩
   rw[if_neg (by rintro (e | e);exact e g3;exact g4 (by simpa using e))] at w1
   obtain⟨n0,n1⟩:=vS hg net sk zn
   have P1:=vf p.set gp.sok (gp.ink.up (by omega)) (fE r net sk z.1) n0 n1
   obtain⟨ws,_,wk⟩:=Reg.ff gp.sok n0 n0 n0 n0
   have wk:=wk 1000000 100000 gp.ink n1 n1 n1 n1
   have hle:=fQ s _ w2 ws (w3.up (by omega)) (wk.up (by omega))
   have IL:=zH w2 w3 ws
   (refine aJ<|aj<|yS<|yP Z<|yP Z<|yA Z<|yT<|au<|yS<|yP Z<|yP Z<|yT<|az Z ?_;refine aa (fun g5=>?_) (fun g5=>?_) <;> try simp only[zB] at g5)
   ·have e:fE r net sk z.1=max (dB r net) (dB r sk):=by rw[fE,if_pos g5]
    rw[e] at P1 hle w1 IL
    (refine cH [] false RE rfl (by kernel_rfl)<|ay Z<|ay Z<|cA Z Z<|ay Z<|ay Z<|cA Z Z<|cG Z<|yD Z<|yD Z<|dq Z<|aK zI ?_;refine⟨_,_,(nn r hg net),?_⟩)
    (refine bB<|ae<|yD Z<|yD Z<|dq Z<|aK zI ?_;refine⟨_,_,(nn r hg sk),?_⟩)
    ((refine bB<|ae<|yD Z<|yD Z<|cn<|aq Z<|aq Z<|aq Z<|aq Z<|aq Z<|aq Z<|aq Z<|dW Z Z<|bz Z ?_;refine aj<|aM<|yP Z<|yP Z<|yP Z<|yP Z<|yn Z<|aK zI ?_);refine⟨_,_,P1,?_⟩)
    (refine b9 Z Z<|ae<|yn Z<|aK zI ?_;refine⟨_,_,hle,?_⟩)
    (refine b9 Z Z<|ae<|yA Z<|cL<|bp<|aj<|aM<|yq Z<|bg zI ?_;refine sI ?_)
    (refine yk<|yP Z<|yT<|ai ?_;refine⟨(k+1,cv s (bX p.set (max (dB r net) (dB r sk)) (max (dB r net) (dB r sk)) (max (dB r net) (dB r sk)) (max (dB r net) (dB r sk)))),_,aW.refl _ _,?_⟩)
    exact⟨⟨w1,IL.1,IL.2,by simp only;omega⟩,by simp only;omega,⟨Z,Z,Z,Z,Z,Z,Z,Z,Z,Z,Z,Z,Z,Z,Y⟩,trivial⟩
   have e:fE r net sk z.1=z.1:=by rw[fE,if_neg g5]
   rw[e] at P1 hle w1 IL
   (refine aJ<|aj<|aM<|yP Z<|yP Z<|yP Z<|yP Z<|yn Z<|aK zI ?_;refine⟨_,_,P1,?_⟩)
   (refine b9 Z Z<|ae<|yn Z<|aK zI ?_;refine⟨_,_,hle,?_⟩)
   (refine b9 Z Z<|ae<|yA Z<|cL<|bp<|aj<|aM<|yq Z<|bg zI ?_;refine sI ?_)
   (refine yk<|yP Z<|yT<|ai ?_;refine⟨(k+1,cv s (bX p.set z.1 z.1 z.1 z.1)),_,aW.refl _ _,?_⟩)
   exact⟨⟨w1,IL.1,IL.2,by simp only;omega⟩,by simp only;omega,⟨Z,Z,Z,Z,Z,Z,Z,Z,Z,Z,Z,Z,Z,Z,Y⟩,trivial⟩
  rw[List.drop_of_length_le (by omega),eB] at w1
  rw[<-w1] at x1
  have Pa:=A_ out s x5 w2 (x6.up (by omega)) (w3.up (by omega))
  obtain⟨Vy,_,Vz⟩:=Reg.va x5 w2
  (refine bT<|aY<|aY<|bU<|aj<|aM<|yP Z<|yP Z<|yn Z<|aK zI ?_;refine⟨_,_,Pa,?_⟩)
  (refine b9 Z Z<|ae<|yA Z<|cL<|bp<|aj<|aM<|yq Z<|bg zI ?_;refine sI ?_)
  (refine yk<|yP Z<|yT<|ai ?_;refine⟨(i+1,ru out s),_,aW.refl _ _,?_⟩)
  exact⟨⟨x1,Vy,Vz _ x6 w3,by simp only;omega⟩,by simp only;omega,⟨Z,Z,Z,Z,Z,Z,Z,Z,Z,Y⟩,trivial⟩
 rw[List.drop_of_length_le (by omega),tr] at x1
 subst x1
 (refine bT<|aY<|aY<|bU<|aj<|yS<|yP Z<|yA Z<|yR zi ?_;refine And.intro ?_ trivial)
 rfl
end M
end Go.Proofs.YtpbkimanfahbgaaGreatDoor
