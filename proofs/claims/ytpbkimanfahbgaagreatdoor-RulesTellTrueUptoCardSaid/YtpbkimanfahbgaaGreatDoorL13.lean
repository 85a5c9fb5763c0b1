/- Part 13 of 14 of the proof of RulesTellTrue (the names are shortened by a program: the size of a claim is limited). -/
import Derived.Test.YtpbkimanfahbgaaGreatDoorL12
set_option linter.unusedVariables false
set_option linter.unusedSimpArgs false
set_option maxRecDepth 100000
set_option maxHeartbeats 8000000
namespace Go.Proofs.YtpbkimanfahbgaaGreatDoor
namespace M
open Reg (aB ax en Wt Piece l9 hZ cQ told a_ cx aQ through B0 x7 aw zk cv ru jm bX coreS at')
structure Break where
 kind:Int
 a:Int
 b:Int
 is:Int
 need:Int
 spot:Int×Int
def er (nets:List ByteArray) (g:Int):ByteArray:=nets.getD g.toNat fb
def ri:List ax->Int×Int
 | []=>(0,0)
 | b::_=>((b.xs.headD (0,0)).1,b.y0)
def Ww (h:Int->Bool):Nat->Int->Int->Int
 | 0,low,_=>low
 | n+1,low,high=>if low < high then (if h (low+(high - low+1).tdiv 2)=true then Ww h n (low+(high - low+1).tdiv 2) high else Ww h n low (low+(high - low+1).tdiv 2 - 1)) else low
def Wo (h:Int->Bool) (zc:Int):Int:=Ww h (zc+1).toNat (-1) zc
theorem W4 {d:Int} (h:0 < d):0 < (d+1).tdiv 2/\(d+1).tdiv 2<=d:=by
 rw[Int.tdiv_eq_ediv_of_nonneg (by omega)]
 omega
theorem WZ (h:Int->Bool) {n:Nat} {low high:Int} (hl:low < high) (hn:(high - low).toNat<=n):
  Ww h n low high=if h (low+(high - low+1).tdiv 2)=true then Ww h (n - 1) (low+(high - low+1).tdiv 2) high else Ww h (n - 1) low (low+(high - low+1).tdiv 2 - 1):=by
 obtain⟨m,rfl⟩:∃m,n=m+1:=⟨n - 1,by omega⟩
 rw[Ww,if_pos hl]
 rfl
theorem W5 (h:Int->Bool) {n:Nat} {low high:Int} (hl:¬low < high):Ww h n low high=low:=by
 cases n with
 | zero=>rfl
 | succ n=>rw[Ww,if_neg hl]
theorem W6 (h:Int->Bool):∀(n:Nat) (low high:Int),(high - low).toNat<=n->low<=high ->
  low<=Ww h n low high/\Ww h n low high<=high/\(Ww h n low high=low\/h (Ww h n low high)=true)/\(Ww h n low high=high\/h (Ww h n low high+1)=false)
 | 0,low,high,hn,hl=>by
  have:low=high:=by omega
  subst this
  exact⟨Int.le_refl _,Int.le_refl _,.inl rfl,.inl rfl⟩
 | n+1,low,high,hn,hl=>by
  by_cases g:low < high
  ·obtain⟨m,hm⟩:∃m,m=low+(high - low+1).tdiv 2:=⟨_,rfl⟩
   have hf:=W4 (d:=high - low) (by omega)
   rw[WZ h g hn,<-hm,Nat.add_sub_cancel]
   by_cases k:h m=true
   ·rw[if_pos k]
    obtain⟨a1,a2,a3,a4⟩:=W6 h n m high (by omega) (by omega)
    refine⟨by omega,a2,?_,a4⟩
    rcases a3 with e | e
    ·exact .inr (by rw[e];exact k)
    exact .inr e
   rw[if_neg k]
   obtain⟨a1,a2,a3,a4⟩:=W6 h n low (m - 1) (by omega) (by omega)
   refine⟨a1,by omega,a3,?_⟩
   rcases a4 with e | e
   ·refine .inr ?_
    rw[e,Int.sub_add_cancel]
    simpa using k
   exact .inr e
  rw[W5 h g]
  have:low=high:=by omega
  exact⟨Int.le_refl _,hl,.inl rfl,.inl this⟩
theorem Xm {h:Int->Bool} {zc:Int} (h0:0<=zc) (hn:h zc=false):-1<=Wo h zc/\Wo h zc < zc/\(Wo h zc=-1\/h (Wo h zc)=true)/\h (Wo h zc+1)=false:=by
 obtain⟨a1,a2,a3,a4⟩:=W6 h (zc+1).toNat (-1) zc (by omega) (by omega)
 have a1:-1<=Wo h zc:=a1
 have a2:Wo h zc<=zc:=a2
 have a3:Wo h zc=-1\/h (Wo h zc)=true:=a3
 have a4:Wo h zc=zc\/h (Wo h zc+1)=false:=a4
 have ne:Wo h zc≠zc:=fun e=>by
  rcases a3 with e' | e'
  ·omega
  rw[e,hn] at e';cases e'
 refine⟨a1,by omega,a3,?_⟩
 rcases a4 with e | e
 ·exact absurd e ne
 exact e
def WO (r:bR) (B:l9) (nets:List ByteArray) (i k:Nat) (p q:Piece):List Break:=
 if B.ofPiece.getD i 0=B.ofPiece.getD k 0 then [] else
 if (x7 (told p.set) (told q.set)).dist < WN r (er nets (B.ofPiece.getD i 0)) (er nets (B.ofPiece.getD k 0)) p.layer (x7 (told p.set) (told q.set)).src.1 (x7 (told p.set) (told q.set)).src.2 then
  [⟨1,i,k,(x7 (told p.set) (told q.set)).dist,WN r (er nets (B.ofPiece.getD i 0)) (er nets (B.ofPiece.getD k 0)) p.layer (x7 (told p.set) (told q.set)).src.1 (x7 (told p.set) (told q.set)).src.2,(x7 (told p.set) (told q.set)).src⟩]
 else []
def WI (r:bR) (B:l9) (nets:List ByteArray) (i:Nat) (p:Piece):Nat->List Piece->List Break
 | _,[]=>[]
 | k,q::t=>if q.layer=p.layer then WO r B nets i k p q++WI r B nets i p (k+1) t else []
def WD (r:bR) (B:l9) (nets:List ByteArray):Nat->List Piece->List Break
 | _,[]=>[]
 | i,p::t=>WI r B nets i p (i+1) t++WD r B nets (i+1) t
def WS (r:bR) (B:l9) (nets:List ByteArray) (i:Nat) (p:Piece):List Break:=
 if zk p.set (WA r (er nets (B.ofPiece.getD i 0)))=[] then [] else
  [⟨2,i,0,Wo (fun n=>decide (zk p.set n=[])) (WA r (er nets (B.ofPiece.getD i 0))),WA r (er nets (B.ofPiece.getD i 0)),ri (zk p.set (WA r (er nets (B.ofPiece.getD i 0))))⟩]
def Wr (r:bR) (B:l9) (nets:List ByteArray):Nat->List Piece->List Break
 | _,[]=>[]
 | i,p::t=>WS r B nets i p++Wr r B nets (i+1) t
def Xn (x:en):List ax:=ru (bX (a_ [aQ x]) 1 1 0 0) (bX (a_ [aQ x]) 0 0 1 1)
def WJ (bs:List en) (i:Nat) (layer:Int):Nat->List en->List ax->List ax
 | _,[],s=>s
 | k,y::t,s=>WJ bs i layer (k+1) t (if k≠i/\through y layer=true then ru s (a_ [aQ y]) else s)
def Wv (bs:List en) (cs:List (List aB)) (i:Nat) (layer:Int):List ax:=WJ bs i layer 0 bs (a_ (cs.getD layer.toNat []))
def WM (own c:List ax) (n:Int):List ax:=cv (cv (bX own n n n n) own) c
def W7 (g:Int) (bs:List en) (cs:List (List aB)) (i:Nat) (x:en) (layer:Int):List Break:=
 if jm (a_ (cs.getD layer.toNat [])) (Xn x)=[] then [] else
 if WM (a_ [aQ x]) (Wv bs cs i layer) g=[] then [] else
  [⟨3,i,layer,Wo (fun n=>decide (n < 0) || decide (WM (a_ [aQ x]) (Wv bs cs i layer) n=[])) g,g,ri (WM (a_ [aQ x]) (Wv bs cs i layer) g)⟩]
def WK (g:Int) (bs:List en) (cs:List (List aB)) (i:Nat) (x:en):Nat->Int->List Break
 | 0,_=>[]
 | n+1,layer=>if x.plated=true/\layer<=x.hi then W7 g bs cs i x layer++WK g bs cs i x n (layer+1) else []
def Wx (g:Int) (bs:List en) (cs:List (List aB)):Nat->List en->List Break
 | _,[]=>[]
 | i,x::t=>WK g bs cs i x (x.hi+1 - x.lo).toNat x.lo++Wx g bs cs (i+1) t
def Xj (g:Int) (o:List ax) (i:Nat) (p:Piece):List Break:=
 if cv p.set (coreS o g g g g)=[] then [] else
  [⟨4,i,0,Wo (fun n=>decide (cv p.set (coreS o n n n n)=[])) g,g,ri (cv p.set (coreS o g g g g))⟩]
def Wy (g:Int) (o:List ax):Nat->List Piece->List Break
 | _,[]=>[]
 | i,p::t=>Xj g o i p++Wy g o (i+1) t
def W8 (g:Int) (i k:Nat) (x y:en):List Break:=
 if y.hi < x.lo\/x.hi < y.lo then [] else
 if B0 (aQ x) (aQ y) - 1 < g then [⟨5,i,k,B0 (aQ x) (aQ y) - 1,g,((aQ x).x0,(aQ x).y0)⟩] else []
def WR (g:Int) (i:Nat) (x:en):Nat->List en->List Break
 | _,[]=>[]
 | k,y::t=>W8 g i k x y++WR g i x (k+1) t
def Ws (g:Int):Nat->List en->List Break
 | _,[]=>[]
 | i,x::t=>WR g i x (i+1) t++Ws g (i+1) t
def WY (r:bR) (a:Wt) (nets:List ByteArray):List Break:=
 WD r (aw a) nets 0 (aw a).pieces++(Wr r (aw a) nets 0 (aw a).pieces++(Wx r.ring a.bores a.coppers 0 a.bores++(Wy r.edge (a_ a.outline) 0 (aw a).pieces++Ws r.holeGap 0 a.bores)))
def Xh (l:List Break):List Break×Int:=if 5000 < l.length then ([],2) else (l,0)
def kZ (r:bR) (a:Wt) (nets:List ByteArray):Int:=
 if cK r≠0 then cK r else
 if cC a≠0 then cC a else
 if nets.length≠(aw a).placed.groups.length then 3 else
 if (nets.any fun s=>!pJ s)=true then 5 else 0
def XT (r:bR) (a:Wt) (nets:List ByteArray):List Break×Int:=if kZ r a nets=0 then Xh (WY r a nets) else ([],kZ r a nets)
end M
namespace Reg
theorem kR {y:Int}:∀{s:List ax},hZ s->∀{b c:ax},b∈s->c∈s->b.y0<=y->y < b.y1->c.y0<=y->y < c.y1->b=c
 | [],_,b,c,hb,_,_,_,_,_=>by cases hb
 | d::s,h,b,c,hb,hc,b1,b2,c1,c2=>by
  rcases List.mem_cons.1 hb with eb | hb'
  ·rcases List.mem_cons.1 hc with ec | hc'
   ·rw[eb,ec]
   have:=h.fZ c hc'
   subst eb
   omega
  rcases List.mem_cons.1 hc with ec | hc'
  ·have:=h.fZ b hb'
   subst ec
   omega
  exact kR h.tail hb' hc' b1 b2 c1 c2
theorem tq {x:Int}:∀{s:bC},Canon s->∀{p q:Int×Int},p∈s->q∈s->p.1<=x->x < p.2->q.1<=x->x < q.2->p=q
 | [],_,p,q,hp,_,_,_,_,_=>by cases hp
 | d::s,h,p,q,hp,hq,p1,p2,q1,q2=>by
  rcases List.mem_cons.1 hp with ep | hp'
  ·rcases List.mem_cons.1 hq with eq | hq'
   ·rw[ep,eq]
   have:=h.behind q hq'
   subst ep
   omega
  rcases List.mem_cons.1 hq with eq | hq'
  ·have:=h.behind p hp'
   subst eq
   omega
  exact tq h.tail hp' hq' p1 p2 q1 q2
theorem Du {s:List ax} (h:hZ s) {x y:Int} {a b:aB} (ha:a∈told s) (hb:b∈told s) (ka:iN x y a=true) (kb:iN x y b=true):a=b:=by
 obtain⟨c,hc,p,hp,rfl⟩:=Wu.1 ha
 obtain⟨d,hd,q,hq,rfl⟩:=Wu.1 hb
 obtain⟨a1,a2,a3,a4⟩:=cz.1 ka
 obtain⟨b1,b2,b3,b4⟩:=cz.1 kb
 have e:=kR h hc hd a3 a4 b3 b4
 subst e
 have e:=tq (h.mem c hc).can hp hq a1 a2 b1 b2
 subst e
 rfl
theorem Dv {s:List ax} (h:hZ s):(told s).Nodup:=by
 rw[List.nodup_iff_pairwise_ne]
 refine (mT h).imp fun {a b} rX e=>?_
 have:=WT.1 rX
 subst e
 omega
theorem sB {s:List ax} (h:hZ s) {l:List aB} (hl:∀r∈l,r∈told s):(told (a_ l)).length<=l.length:=by
 obtain⟨b1,b2,_⟩:=gf fun r hr=>dK h r (hl r hr)
 have hn:((told (a_ l)).map fun q=>(q.y0,q.x0)).Nodup:=by
  rw[List.nodup_iff_pairwise_ne,List.pairwise_map]
  refine (mT b1).imp fun {a b} rX e=>?_
  have:=WT.1 rX
  simp only[Prod.mk.injEq] at e
  omega
 have:=qY (m:=l.map fun q=>(q.y0,q.x0)) hn fun z hz=>by
  obtain⟨q,hq,rfl⟩:=List.mem_map.1 hz
  obtain⟨b,hb,p,hp,rfl⟩:=Wu.1 hq
  have hB:=b1.mem b hb
  have h1:at' (a_ l) p.1 b.y0=true:=by
   rw[zu b1 hb (Int.le_refl _) hB.lt,dn hB.can]
   exact⟨p,hp,Int.le_refl _,fP hB.can p hp⟩
  rw[b2,List.any_eq_true] at h1
  obtain⟨r,hr,hx⟩:=h1
  have Vm:=hl r hr
  obtain⟨c,hc,t,ht,rfl⟩:=Wu.1 Vm
  obtain⟨x1,x2,x3,x4⟩:=cz.1 hx
  simp only at x1 x2 x3 x4
  have e1:t.1=p.1:=by
   refine Classical.byContradiction fun b8=>?_
   have:at' (a_ l) (p.1 - 1) b.y0=true:=by
    rw[b2,List.any_eq_true]
    exact⟨_,hr,cz.2 ⟨by simp only;omega,by simp only;omega,x3,x4⟩⟩
   rw[zu b1 hb (Int.le_refl _) hB.lt,dn hB.can] at this
   exact pX hB.can hp this
  have e2:c.y0=b.y0:=by
   refine Classical.byContradiction fun b8=>?_
   obtain⟨x,Si⟩:=xJ b1 hb
   refine Si ?_
   rw[b2,b2]
   refine ot fun r' sL=>?_
   obtain⟨d,hd,u,hu,rfl⟩:=Wu.1 (hl r' sL)
   rw[Bool.eq_iff_iff,cz,cz]
   simp only
   constructor
   ·rintro⟨a1,a2,a3,a4⟩
    have:=kR h hd hc a3 a4 (by omega) (by omega)
    subst this
    exact⟨a1,a2,by omega,by omega⟩
   rintro⟨a1,a2,a3,a4⟩
   have:=kR h hd hc a3 a4 (by omega) (by omega)
   subst this
   exact⟨a1,a2,by omega,by omega⟩
  exact List.mem_map.2 ⟨_,hr,by simp only[e1,e2]⟩
 rw[List.length_map,List.length_map] at this
 exact this
theorem BH {l:List aB} {m:Nat} (h:m < l.length):l[m]?=some (l.getD m gQ):=by
 rw[List.getD_eq_getElem?_getD,List.getElem?_eq_getElem h];rfl
theorem vF (p:Nat->Nat) (i r:Nat):(fR p i r).Nodup:=List.Pairwise.sublist List.filter_sublist List.nodup_range
theorem xN {α:Type}:∀{l:List α},l.Nodup->∀{a b:Nat} {x:α},l[a]?=some x->l[b]?=some x->a=b
 | [],_,a,b,x,ha,_=>by simp at ha
 | y::l,h,a,b,x,ha,hb=>by
  have h':=List.nodup_cons.1 h
  cases a with
  | zero=>
   cases b with
   | zero=>rfl
   | succ b=>
    have e:=Option.some.inj ha
    exact absurd (by rw[e];exact List.mem_of_getElem? (by simpa using hb)) h'.1
  | succ a=>
   cases b with
   | zero=>
    have e:=Option.some.inj hb
    exact absurd (by rw[e];exact List.mem_of_getElem? (by simpa using ha)) h'.1
   | succ b=>rw[xN h'.2 (a:=a) (b:=b) (by simpa using ha) (by simpa using hb)]
theorem F1 {s:List ax} (h:hZ s) {a b:Nat} {l m:List aB} (ha:(Xb s)[a]?=some l) (hb:(Xb s)[b]?=some m) (b8:a≠b):
  l.length+m.length<=(told s).length/\∀r∈l,∀q∈m,∀x y,¬(iN x y r=true/\iN x y q=true):=by
 obtain⟨u1,u2⟩:=By s
 rw[Xb,List.getElem?_map,ba,List.getElem?_map] at ha hb
 cases ea:(cZ (dR (oo s)) (told s).length)[a]? with
 | none=>rw[ea] at ha;cases ha
 | some ka=>
  cases eb:(cZ (dR (oo s)) (told s).length)[b]? with
  | none=>rw[eb] at hb;cases hb
  | some kb=>
   rw[ea] at ha
   rw[eb] at hb
   have ha:=(Option.some.inj ha).symm
   have hb:=(Option.some.inj hb).symm
   have hk:ka≠kb:=fun e=>by
    subst e
    exact b8 (Br (pU _ _) ea eb)
   have hd:(fR (dR (oo s)) (told s).length ka++fR (dR (oo s)) (told s).length kb).Nodup:=by
    rw[List.nodup_append]
    refine⟨vF _ _ _,vF _ _ _,fun i hi j hj e=>?_⟩
    subst e
    exact hk ((fD.1 hi).2.symm.trans (fD.1 hj).2)
   have:=qY (m:=List.range (told s).length) hd fun i hi=>by
    rw[List.mem_range]
    rcases List.mem_append.1 hi with hi | hi
    ·exact (fD.1 hi).1
    exact (fD.1 hi).1
   rw[List.length_append,List.length_range] at this
   refine⟨by rw[ha,hb,List.length_map,List.length_map];exact this,fun r hr q hq x y I5=>?_⟩
   rw[ha] at hr
   rw[hb] at hq
   obtain⟨i,hi,rfl⟩:=List.mem_map.1 hr
   obtain⟨j,hj,rfl⟩:=List.mem_map.1 hq
   obtain⟨i1,i2⟩:=fD.1 hi
   obtain⟨j1,j2⟩:=fD.1 hj
   have e:=Du h (ss i1) (ss j1) I5.1 I5.2
   have D1:=BH i1
   have Gq:=BH j1
   rw[e] at D1
   have:=xN (Dv h) D1 Gq
   subst this
   exact hk (i2.symm.trans j2)
theorem IF {s:List ax} {a:Nat} {l:List aB} (ha:(Xb s)[a]?=some l):l.length<=(told s).length:=by
 rw[Xb,List.getElem?_map,ba,List.getElem?_map] at ha
 cases ea:(cZ (dR (oo s)) (told s).length)[a]? with
 | none=>rw[ea] at ha;cases ha
 | some ka=>
  rw[ea] at ha
  have ha:=(Option.some.inj ha).symm
  rw[ha,List.length_map]
  exact l7 _ _ _
theorem Dw {bs:List en} {p q:Piece} (he:p.layer=q.layer) (l:List (List aB)):∀(k:Int) (i j:Nat),(cE bs k l)[i]?=some p->(cE bs k l)[j]?=some q->i < j ->
  ∃(n:Nat) (r:List aB) (a b:Nat),l[n]?=some r/\a < b/\(eP (dS bs (k+n) r))[a]?=some p.set/\(eP (dS bs (k+n) r))[b]?=some q.set:=by
 induction l with
 | nil=>intro k i j hp;rw[cE] at hp;cases hp
 | cons r l ih=>
  intro k i j hp hq zZ
  rw[cE] at hp hq
  obtain⟨S,hS⟩:∃S,S=eP (dS bs k r):=⟨_,rfl⟩
  rw[<-hS] at hp hq
  by_cases c:j < S.length
  ·rw[List.getElem?_append_left (by rw[List.length_map];omega),List.getElem?_map] at hp hq
   cases ep:S[i]? with
   | none=>rw[ep] at hp;cases hp
   | some s=>
    cases eq:S[j]? with
    | none=>rw[eq] at hq;cases hq
    | some t=>
     rw[ep] at hp
     rw[eq] at hq
     have hp:=Option.some.inj hp
     have hq:=Option.some.inj hq
     have z:k+((0:Nat):Int)=k:=by omega
     refine⟨0,r,i,j,rfl,zZ,?_,?_⟩
     ·rw[z,<-hS,ep,<-hp]
     rw[z,<-hS,eq,<-hq]
  rw[List.getElem?_append_right (by rw[List.length_map];omega)] at hq
  obtain⟨n,r',h1,h2,_⟩:=mY (List.mem_of_getElem? hq)
  by_cases d:i < S.length
  ·rw[List.getElem?_append_left (by rw[List.length_map];omega),List.getElem?_map] at hp
   cases ep:S[i]? with
   | none=>rw[ep] at hp;cases hp
   | some s=>
    rw[ep] at hp
    have hp:=Option.some.inj hp
    rw[<-hp] at he
    simp only at he
    omega
  rw[List.getElem?_append_right (by rw[List.length_map];omega)] at hp
  obtain⟨n,r',a,b,h1,h2,h3,h4⟩:=ih (k+1) _ _ hp hq (by rw[List.length_map];omega)
  have e:k+((n+1:Nat):Int)=k+1+(n:Int):=by omega
  exact⟨n+1,r',a,b,by simpa using h1,h2,by rw[e];exact h3,by rw[e];exact h4⟩
theorem YR {a b:aB} (ha:Full a) (hb:Full b) (h:∀x y,¬(iN x y a=true/\iN x y b=true)):1<=B0 a b:=by
 obtain⟨a1,a2⟩:=ha
 obtain⟨b1,b2⟩:=hb
 refine Classical.byContradiction fun hn=>?_
 simp only[B0,oQ] at hn
 refine h (max a.x0 b.x0) (max a.y0 b.y0) ⟨cz.2 ⟨?_,?_,?_,?_⟩,cz.2 ⟨?_,?_,?_,?_⟩⟩ <;> omega
theorem zC {bs:List en}:∀{l:List (List aB)} {k:Int},vA bs k l=true->∀(n:Nat) r,l[n]?=some r->(told (dS bs (k+n) r)).length<=2000
 | [],k,_,n,r,h=>by simp at h
 | q::l,k,hf,n,r,h=>by
  rw[vA,Bool.and_eq_true,decide_eq_true_eq] at hf
  cases n with
  | zero=>
   have:=Option.some.inj h
   subst this
   simpa using hf.1
  | succ n=>
   have:=zC hf.2 n r (by simpa using h)
   have e:k+((n+1:Nat):Int)=k+1+(n:Int):=by omega
   rw[e];exact this
structure Jz (p q:Piece):Prop where
 few:(told p.set).length+(told q.set).length<=2000
 apart:∀x y,¬(at' p.set x y=true/\at' q.set x y=true)
theorem Kj {bs:List en} {l:List (List aB)} {k:Int} {i j:Nat} {p q:Piece} (hs:∀(n:Nat) r,l[n]?=some r->hZ (dS bs (k+n) r)) (hf:vA bs k l=true) (hp:(cE bs k l)[i]?=some p) (hq:(cE bs k l)[j]?=some q) (zZ:i < j) (he:p.layer=q.layer):Jz p q:=by
 obtain⟨n,r,a,b,h1,h2,h3,h4⟩:=Dw he _ _ _ _ hp hq zZ
 have h0:=hs n r h1
 have tD:=zC hf n r h1
 rw[eP,List.getElem?_map] at h3 h4
 cases ea:(Xb (dS bs (k+n) r))[a]? with
 | none=>rw[ea] at h3;cases h3
 | some x=>
  cases eb:(Xb (dS bs (k+n) r))[b]? with
  | none=>rw[eb] at h4;cases h4
  | some y=>
   rw[ea] at h3
   rw[eb] at h4
   have h3:=Option.some.inj h3
   have h4:=Option.some.inj h4
   obtain⟨c1,c2⟩:=F1 h0 ea eb (by omega)
   have mx:=(oT (List.mem_of_getElem? ea)).2
   have my:=(oT (List.mem_of_getElem? eb)).2
   have sx:=sB h0 mx
   have sy:=sB h0 my
   obtain⟨_,bx,_⟩:=gf fun r hr=>dK h0 r (mx r hr)
   obtain⟨_,Vn,_⟩:=gf fun r hr=>dK h0 r (my r hr)
   refine⟨by rw[<-h3,<-h4];omega,fun u v TF=>?_⟩
   rw[<-h3,<-h4,bx,Vn,List.any_eq_true,List.any_eq_true] at TF
   obtain⟨⟨r1,m1,e1⟩,r2,m2,e2⟩:=TF
   exact c2 r1 m1 r2 m2 u v ⟨e1,e2⟩
theorem YS {p q:List ax} (hp:hZ p) (hq:hZ q) (kp:cQ 1000000 p) (kq:cQ 1000000 q) (np:p≠[]) (nq:q≠[]) (h:∀x y,¬(at' p x y=true/\at' q x y=true)):0<=(x7 (told p) (told q)).dist:=by
 have fp:=dK hp
 have fq:=dK hq
 obtain⟨_,_,_,h4⟩:=X3 (K:=1000000) (by omega) (fun r hr=>Lj (fp r hr) (kN hp kp r hr)) (fun r hr=>Lj (fq r hr) (kN hq kq r hr))
 obtain⟨x,hx,y,hy,e⟩:=h4 (fun e=>np (Xr hp e)) (fun e=>nq (Xr hq e))
 have:1<=B0 x y:=YR (fp x hx) (fq y hy) fun u v TF=>h u v ⟨by rw[<-lV hp,List.any_eq_true];exact⟨x,hx,TF.1⟩,by rw[<-lV hq,List.any_eq_true];exact⟨y,hy,TF.2⟩⟩
 show 0<=Xl (told p) (told q) - 1
 omega
theorem YM {p q:List ax} (hp:hZ p) (hq:hZ q) (kp:cQ 1000000 p) (kq:cQ 1000000 q) (np:p≠[]) (nq:q≠[]) (hn:(told p).length+(told q).length<=2000) (h0:0<=(x7 (told p) (told q)).dist) {below:Int} (hb:0<=below/\below<=100000):
  Xg [told p,told q] below=(if (x7 (told p) (told q)).dist < below then [{ x7 (told p) (told q) with a:=0,b:=1 }] else [],0):=by
 have cp:aH (told p)=0:=jc hp kp (by omega)
 have cq:aH (told q)=0:=jc hq kq (by omega)
 have lp:(told p).length≠0:=fun e=>np (Xr hp (List.length_eq_zero_iff.1 e))
 have lq:(told q).length≠0:=fun e=>nq (Xr hq (List.length_eq_zero_iff.1 e))
 rw[Xg,if_neg (by simp[Yh];omega),if_neg (by simp[WX,cp,cq]),if_pos (by simp[hb.1,hb.2])]
 have e:WL [told p,told q].length 0=[(0,1)]:=rfl
 rw[e]
 simp only[YK,List.getD_cons_zero,List.getD_cons_succ]
 rw[if_neg (by omega),if_neg (by omega)]
 by_cases c:(x7 (told p) (told q)).dist < below
 ·rw[if_pos c,if_pos c];rfl
 rw[if_neg c,if_neg c]
end Reg
namespace M
open Reg (aB ax en Wt Piece l9 hZ cQ told a_ cx aQ through B0 x7 aw zk cv ru jm bX coreS at' gB ba dR jq cI cE kx)
theorem IG {a:Wt} (h:cC a=0):jG a/\Reg.iU a=true/\Reg.fw a.bores 0=false:=by
 unfold cC at h
 split at h
 ·cases h
 rename_i g1
 split at h
 ·cases h
 rename_i g2
 split at h
 ·rename_i g;exact absurd h g
 rename_i g3
 have g3:Reg.fS a.coppers=0:=by simpa using g3
 split at h
 ·rename_i g;exact absurd h g
 rename_i g4
 have g4:Reg.aH a.outline=0:=by simpa using g4
 split at h
 ·cases h
 split at h
 ·rename_i g;exact absurd h g
 rename_i g6
 have g6:Reg.dk a=0:=by simpa using g6
 split at h
 ·rename_i g;exact absurd h g
 rename_i g7
 have g7:dO a=0:=by simpa using g7
 split at h
 ·cases h
 rename_i g8
 split at h
 ·rename_i g9
  have tD:a.bores.length<=500:=by
   unfold Reg.dk at g6
   split at g6
   ·cases g6
   omega
  have NI:Reg.Wq a.coppers.length a.bores=0:=by rwa [Reg.dk,if_neg (by omega)] at g6
  refine⟨⟨⟨by omega,by omega⟩,Reg.jH g3,g4,tD,Reg.ve NI,?_⟩,g9,by simpa using g8⟩
  unfold dO at g7
  split at g7
  ·cases g7
  omega
 cases h
structure Lp (a:Wt) (p:Piece):Prop where
 sok:hZ p.set
 ink:cQ 1000000 p.set
 ne:p.set≠[]
 few:(told p.set).length<=2000
 lo:0<=p.layer
 hi:p.layer < a.coppers.length
structure vG (a:Wt):Prop where
 art:jG a
 few:(aw a).pieces.length<=2000
 pc:∀p∈(aw a).pieces,Lp a p
 two:∀(i j:Nat) p q,(aw a).pieces[i]?=some p->(aw a).pieces[j]?=some q->i < j->p.layer=q.layer->Reg.Jz p q
 gr:kx a.bores (aw a).pieces.length (((aw a).ofPiece,(aw a).ofBore),(gB a.bores (aw a).pieces.length (ba (dR (jq (aw a).pieces.length a.bores.length (aw a).cI)) ((aw a).pieces.length+a.bores.length))).2)
theorem vH {a:Wt} (ha:jG a):∀b∈a.bores,cx b=true:=fun b hb=>oU (ha.bor b hb)
theorem sC {a:Wt} (h:cC a=0):vG a:=by
 obtain⟨ha,hd,_⟩:=IG h
 have hs:∀(n:Nat) r,a.coppers[n]?=some r->O2 (Reg.dS a.bores (0+n) r):=fun n r hr=>pY (vH ha) ha.few _ (ha.reg r (List.mem_of_getElem? hr))
 rw[Reg.iU,Bool.and_eq_true,decide_eq_true_eq] at hd
 refine⟨ha,hd.2,fun p hp=>?_,fun i j p q hp hq zZ he=>Reg.Kj (fun n r hr=>(hs n r hr).sok) hd.1 hp hq zZ he,?_⟩
 ·obtain⟨n,r,h1,h2,h3⟩:=Reg.mY hp
  have hn:=(List.getElem?_eq_some_iff.1 h1).1
  obtain⟨c1,c2,_,c4⟩:=Reg.su (hs n r h1).sok h3
  refine⟨c1,c4 _ (hs n r h1).ink,c2,?_,by omega,by omega⟩
  have tD:=Reg.zC hd.1 n r h1
  obtain⟨l,hl,e⟩:=List.mem_map.1 h3
  have PC:=(Reg.oT hl).2
  have s1:=Reg.sB (hs n r h1).sok PC
  obtain⟨k,hk⟩:=List.getElem?_of_mem hl
  have s2:=Reg.IF hk
  rw[<-e]
  omega
 have ht:∀x∈cI a.bores (cE a.bores 0 a.coppers),∀p∈x,0<=p/\p < ((cE a.bores 0 a.coppers).length:Int):=fun x hx p hp=>by
  obtain⟨b,_,rfl⟩:=List.mem_map.1 hx
  have:=Reg.XA b (cE a.bores 0 a.coppers) 0 p hp
  omega
 have hl:(cI a.bores (cE a.bores 0 a.coppers)).length=a.bores.length:=by rw[Reg.cI,List.length_map]
 obtain⟨u1,u2⟩:=Reg.vC (n:=(cE a.bores 0 a.coppers).length) (nb:=a.bores.length) (cI a.bores (cE a.bores 0 a.coppers)) 0 (Reg.iota ((cE a.bores 0 a.coppers).length+a.bores.length)) (Reg.qU _) (Reg.WV _) (by omega) ht
 exact Reg.xL u1 u2
open Reg (Xg)
theorem Xt {r:bR} {B:l9} {nets:List ByteArray} {i:Nat} {p:Piece} {b:Break}:∀{t:List Piece} {k:Nat},b∈WI r B nets i p k t->∃(j:Nat) (q:Piece),t[j]?=some q/\q.layer=p.layer/\b∈WO r B nets i (k+j) p q
 | [],k,h=>by cases h
 | q::t,k,h=>by
  rw[WI] at h
  split at h
  ·rename_i e
   rcases List.mem_append.1 h with h | h
   ·exact⟨0,q,rfl,e,h⟩
   obtain⟨j,q',h1,h2,h3⟩:=Xt h
   exact⟨j+1,q',by simpa using h1,h2,by rw[show k+(j+1)=k+1+j by omega];exact h3⟩
  cases h
theorem W9 {r:bR} {B:l9} {nets:List ByteArray} {b:Break}:∀{t:List Piece} {i:Nat},b∈WD r B nets i t->∃(j m:Nat) (p q:Piece),t[j]?=some p/\t[m]?=some q/\j < m/\q.layer=p.layer/\b∈WO r B nets (i+j) (i+m) p q
 | [],i,h=>by cases h
 | p::t,i,h=>by
  rw[WD] at h
  rcases List.mem_append.1 h with h | h
  ·obtain⟨j,q,h1,h2,h3⟩:=Xt h
   exact⟨0,j+1,p,q,rfl,by simpa using h1,by omega,h2,by rw[show i+(j+1)=i+1+j by omega];exact h3⟩
  obtain⟨j,m,p',q,h1,h2,h3,h4,h5⟩:=W9 h
  exact⟨j+1,m+1,p',q,by simpa using h1,by simpa using h2,by omega,h4,by rw[show i+(j+1)=i+1+j by omega,show i+(m+1)=i+1+m by omega];exact h5⟩
theorem W_ {r:bR} {B:l9} {nets:List ByteArray} {i k:Nat} {p q:Piece} {b:Break} (h:b∈WO r B nets i k p q):b.kind=1/\b.a=i/\b.b=k/\b.is=(x7 (told p.set) (told q.set)).dist/\b.spot=(x7 (told p.set) (told q.set)).src/\b.is < b.need/\∃x y u v w,b.need=WN r x y u v w:=by
 rw[WO] at h
 split at h
 ·cases h
 split at h
 ·rename_i g
  rw[List.mem_singleton] at h
  subst h
  exact⟨rfl,rfl,rfl,rfl,rfl,g,_,_,_,_,_,rfl⟩
 cases h
theorem Xi {r:bR} {B:l9} {nets:List ByteArray} {b:Break}:∀{t:List Piece} {i:Nat},b∈Wr r B nets i t->∃(j:Nat) (p:Piece),t[j]?=some p/\b∈WS r B nets (i+j) p
 | [],i,h=>by cases h
 | p::t,i,h=>by
  rw[Wr] at h
  rcases List.mem_append.1 h with h | h
  ·exact⟨0,p,rfl,h⟩
  obtain⟨j,p',h1,h2⟩:=Xi h
  exact⟨j+1,p',by simpa using h1,by rw[show i+(j+1)=i+1+j by omega];exact h2⟩
theorem XE {g:Int} {bs:List en} {cs:List (List aB)} {i:Nat} {x:en} {b:Break}:∀{n:Nat} {layer:Int},b∈WK g bs cs i x n layer->∃l,b∈W7 g bs cs i x l
 | 0,layer,h=>by cases h
 | n+1,layer,h=>by
  rw[WK] at h
  split at h
  ·rcases List.mem_append.1 h with h | h
   ·exact⟨_,h⟩
   exact XE h
  cases h
theorem Xo {g:Int} {bs:List en} {cs:List (List aB)} {b:Break}:∀{t:List en} {i:Nat},b∈Wx g bs cs i t->∃j x l,b∈W7 g bs cs j x l
 | [],i,h=>by cases h
 | p::t,i,h=>by
  rw[Wx] at h
  rcases List.mem_append.1 h with h | h
  ·obtain⟨l,h⟩:=XE h
   exact⟨_,_,l,h⟩
  exact Xo h
theorem Xp {g:Int} {o:List ax} {b:Break}:∀{t:List Piece} {i:Nat},b∈Wy g o i t->∃j p,b∈Xj g o j p
 | [],i,h=>by cases h
 | p::t,i,h=>by
  rw[Wy] at h
  rcases List.mem_append.1 h with h | h
  ·exact⟨_,_,h⟩
  exact Xp h
theorem XF {g:Int} {i:Nat} {x:en} {b:Break}:∀{t:List en} {k:Nat},b∈WR g i x k t->∃k y,b∈W8 g i k x y
 | [],i,h=>by cases h
 | p::t,i,h=>by
  rw[WR] at h
  rcases List.mem_append.1 h with h | h
  ·exact⟨_,_,h⟩
  exact XF h
theorem Xq {g:Int} {b:Break}:∀{t:List en} {i:Nat},b∈Ws g i t->∃j k x y,b∈W8 g j k x y
 | [],i,h=>by cases h
 | p::t,i,h=>by
  rw[Ws] at h
  rcases List.mem_append.1 h with h | h
  ·obtain⟨k,y,h⟩:=XF h
   exact⟨_,_,_,_,h⟩
  exact Xq h
theorem Yi {r:bR} (hg:iz r) (x:ByteArray):0<=WA r x/\WA r x<=100000:=by
 have hn:=hg.nums
 simp only[ke,di,Bool.and_eq_true,decide_eq_true_eq] at hn
 rw[WA]
 split
 ·rename_i h
  refine⟨by omega,?_⟩
  rw[WH] at h ⊢
  cases e:r.classes.find? fun c=>hasB c.nets x && !decide (x=fb) with
  | none=>rw[e] at h;simp[Es] at h
  | some c=>
   have:=(hg.cl c (List.mem_of_find?_eq_some e)).2.2.2.2
   simp only[di,Bool.and_eq_true,decide_eq_true_eq] at this
   exact this.2
 exact⟨by omega,by omega⟩
theorem BI {r:bR} (hg:iz r) (x:ByteArray):0<=dB r x/\dB r x<=100000:=by
 have hn:=hg.nums
 simp only[ke,di,Bool.and_eq_true,decide_eq_true_eq] at hn
 rw[dB]
 split
 ·rename_i h
  refine⟨by omega,?_⟩
  rw[WH] at h ⊢
  cases e:r.classes.find? fun c=>hasB c.nets x && !decide (x=fb) with
  | none=>rw[e] at h;simp[Es] at h
  | some c=>
   have:=(hg.cl c (List.mem_of_find?_eq_some e)).2.2.2.1
   simp only[di,Bool.and_eq_true,decide_eq_true_eq] at this
   exact this.2
 exact⟨by omega,by omega⟩
theorem Yz {layer x y:Int}:∀{l:List kd} {m:Int},(∀a∈l,di a.clearance=true)->m<=100000->WQ layer x y l m<=100000
 | [],m,_,h=>h
 | a::l,m,ha,h=>by
  rw[WQ]
  have:=ha a List.mem_cons_self
  simp only[di,Bool.and_eq_true,decide_eq_true_eq] at this
  exact Yz (fun b hb=>ha b (List.mem_cons_of_mem _ hb)) (by split <;> omega)
theorem YT {r:bR} (hg:iz r) (a b:ByteArray) (l x y:Int):0<=WN r a b l x y/\WN r a b l x y<=100000:=by
 have h1:=BI hg a
 have h2:=BI hg b
 have h3:=Yz (layer:=l) (x:=x) (y:=y) (l:=r.areas) (m:=-1) (fun a ha=>(hg.ar a ha).2.2) (by omega)
 rw[WN]
 split <;> omega
theorem Yt {r:bR} {a:Wt} {nets:List ByteArray} (hg:iz r) (b:Break) (hb:b∈WY r a nets):b.is < b.need:=by
 have hn:=hg.nums
 simp only[ke,di,Bool.and_eq_true,decide_eq_true_eq] at hn
 rw[WY] at hb
 rcases List.mem_append.1 hb with h | h
 ·obtain⟨_,_,_,_,_,_,_,_,h⟩:=W9 h
  exact (W_ h).2.2.2.2.2.1
 rcases List.mem_append.1 h with h | h
 ·obtain⟨_,_,_,h⟩:=Xi h
  rw[WS] at h
  split at h
  ·cases h
  rename_i g
  rw[List.mem_singleton] at h
  subst h
  exact (Xm (h:=fun n=>decide (zk _ n=[])) (Yi hg _).1 (decide_eq_false g)).2.1
 rcases List.mem_append.1 h with h | h
 ·obtain⟨_,_,_,h⟩:=Xo h
  rw[W7] at h
  split at h
  ·cases h
  split at h
  ·cases h
  rename_i g
  rw[List.mem_singleton] at h
  subst h
  exact (Xm (h:=fun n=>decide (n < 0) || decide (WM _ _ n=[])) (by omega) (by simp only[Bool.or_eq_false_iff,decide_eq_false_iff_not];exact⟨by omega,g⟩)).2.1
 rcases List.mem_append.1 h with h | h
 ·obtain⟨_,_,h⟩:=Xp h
  rw[Xj] at h
  split at h
  ·cases h
  rename_i g
  rw[List.mem_singleton] at h
  subst h
  exact (Xm (h:=fun n=>decide (cv _ (coreS _ n n n n)=[])) (by omega) (decide_eq_false g)).2.1
 obtain⟨_,_,_,_,h⟩:=Xq h
 rw[W8] at h
 split at h
 ·cases h
 split at h
 ·rename_i g
  rw[List.mem_singleton] at h
  subst h
  exact g
 cases h
theorem XU {l:List Break} {k:Int} (h:∀b∈l,b.kind=k):l.Pairwise fun a b=>a.kind<=b.kind:=by
 induction l with
 | nil=>exact List.Pairwise.nil
 | cons x l ih=>
  refine List.pairwise_cons.2 ⟨fun y hy=>?_,ih fun b hb=>h b (List.mem_cons_of_mem _ hb)⟩
  rw[h x List.mem_cons_self,h y (List.mem_cons_of_mem _ hy)]
  exact Int.le_refl _
theorem XG {r:bR} {B:l9} {nets:List ByteArray} {i:Nat} {t:List Piece}:∀b∈Wr r B nets i t,b.kind=2:=fun b h=>by
 obtain⟨_,_,_,h⟩:=Xi h
 rw[WS] at h
 split at h
 ·cases h
 rw[List.mem_singleton] at h;subst h;rfl
theorem XV {g:Int} {bs:List en} {cs:List (List aB)} {i:Nat} {t:List en}:∀b∈Wx g bs cs i t,b.kind=3:=fun b h=>by
 obtain⟨_,_,_,h⟩:=Xo h
 rw[W7] at h
 split at h
 ·cases h
 split at h
 ·cases h
 rw[List.mem_singleton] at h;subst h;rfl
theorem XW {g:Int} {o:List ax} {i:Nat} {t:List Piece}:∀b∈Wy g o i t,b.kind=4:=fun b h=>by
 obtain⟨_,_,h⟩:=Xp h
 rw[Xj] at h
 split at h
 ·cases h
 rw[List.mem_singleton] at h;subst h;rfl
theorem XX {g:Int} {i:Nat} {t:List en}:∀b∈Ws g i t,b.kind=5:=fun b h=>by
 obtain⟨_,_,_,_,h⟩:=Xq h
 rw[W8] at h
 split at h
 ·cases h
 split at h
 ·rw[List.mem_singleton] at h;subst h;rfl
 cases h
theorem Yu {r:bR} {B:l9} {nets:List ByteArray} {i:Nat} {t:List Piece}:∀b∈WD r B nets i t,b.kind=1:=fun b h=>by
 obtain⟨_,_,_,_,_,_,_,_,h⟩:=W9 h
 exact (W_ h).1
theorem Yv (r:bR) (a:Wt) (nets:List ByteArray):(WY r a nets).Pairwise fun a b=>a.kind<=b.kind:=by
 have up:∀{l m:List Break} {k:Int},(∀b∈l,b.kind=k)->(∀b∈m,k<=b.kind)->(m.Pairwise fun a b=>a.kind<=b.kind)->(l++m).Pairwise fun a b=>a.kind<=b.kind:=fun h1 h2 h3=>
  List.pairwise_append.2 ⟨XU h1,h3,fun x hx y hy=>by rw[h1 x hx];exact h2 y hy⟩
 have h5:∀b∈Ws r.holeGap 0 a.bores,b.kind=5:=XX
 have h4:∀b∈Wy r.edge (a_ a.outline) 0 (aw a).pieces,b.kind=4:=XW
 have h3:∀b∈Wx r.ring a.bores a.coppers 0 a.bores,b.kind=3:=XV
 have h2:∀b∈Wr r (aw a) nets 0 (aw a).pieces,b.kind=2:=XG
 have c4:∀b∈Wy r.edge (a_ a.outline) 0 (aw a).pieces++Ws r.holeGap 0 a.bores,4<=b.kind:=fun b hb=>by
  rcases List.mem_append.1 hb with h | h
  ·rw[h4 b h];decide
  rw[h5 b h];decide
 have c3:∀b∈Wx r.ring a.bores a.coppers 0 a.bores++(Wy r.edge (a_ a.outline) 0 (aw a).pieces++Ws r.holeGap 0 a.bores),3<=b.kind:=fun b hb=>by
  rcases List.mem_append.1 hb with h | h
  ·rw[h3 b h];decide
  have:=c4 b h;omega
 have c2:∀b∈Wr r (aw a) nets 0 (aw a).pieces++(Wx r.ring a.bores a.coppers 0 a.bores++(Wy r.edge (a_ a.outline) 0 (aw a).pieces++Ws r.holeGap 0 a.bores)),2<=b.kind:=fun b hb=>by
  rcases List.mem_append.1 hb with h | h
  ·rw[h2 b h];decide
  have:=c3 b h;omega
 exact up Yu (fun b hb=>by have:=c2 b hb;omega) (up h2 (fun b hb=>by have:=c3 b hb;omega) (up h3 (fun b hb=>by have:=c4 b hb;omega) (up h4 (fun b hb=>by rw[h5 b hb];decide) (XU h5))))
theorem X6 {r:bR} {a:Wt} {nets:List ByteArray} (hg:iz r) (ha:vG a) (b:Break) (hb:b∈WY r a nets) (h1:b.kind=1):
  ∃(i k:Nat) (p q:Piece),b.a=i/\b.b=k/\(aw a).pieces[i]?=some p/\(aw a).pieces[k]?=some q /\
   Xg [told p.set,told q.set] 100000=([{ x7 (told p.set) (told q.set) with a:=0,b:=1 }],0)/\(x7 (told p.set) (told q.set)).dist=b.is/\(x7 (told p.set) (told q.set)).src=b.spot:=by
 rw[WY] at hb
 have hb:b∈WD r (aw a) nets 0 (aw a).pieces:=by
  rcases List.mem_append.1 hb with h | h
  ·exact h
  rcases List.mem_append.1 h with h | h
  ·have:=XG b h;omega
  rcases List.mem_append.1 h with h | h
  ·have:=XV b h;omega
  rcases List.mem_append.1 h with h | h
  ·have:=XW b h;omega
  have:=XX b h;omega
 obtain⟨i,k,p,q,hp,hq,Nk,he,hb⟩:=W9 hb
 obtain⟨_,b2,b3,b4,b5,b6,nx,ny,nu,nv,nw,b7⟩:=W_ hb
 rw[Nat.zero_add] at b2 b3
 have hn:=YT hg nx ny nu nv nw
 rw[<-b7] at hn
 have gp:=ha.pc p (List.mem_of_getElem? hp)
 have gq:=ha.pc q (List.mem_of_getElem? hq)
 obtain⟨w1,w2⟩:=ha.two i k p q hp hq Nk he.symm
 have h0:=Reg.YS gp.sok gq.sok gp.ink gq.ink gp.ne gq.ne w2
 have e:=Reg.YM gp.sok gq.sok gp.ink gq.ink gp.ne gq.ne w1 h0 (below:=100000) ⟨by omega,by omega⟩
 rw[if_pos (by omega)] at e
 exact⟨i,k,p,q,b2,b3,hp,hq,e,b4.symm,b5.symm⟩
def OW (a b:Break):Prop:=a.kind=b.kind/\a.a=b.a/\a.b=b.b/\a.is=b.is
def Has (l m:List Break):Prop:=∀b∈l,∃c∈m,OW b c
theorem Has.nil (m:List Break):Has [] m:=fun b hb=>by cases hb
theorem YE {own c:List ax} (ho:hZ own) (hc:hZ c) {n:Int} (h0:0<=n):hZ (WM own c n)/\∀x y,at' (WM own c n) x y=((at' (bX own n n n n) x y && !at' own x y) && !at' c x y):=by
 obtain⟨s1,_,_⟩:=Reg.ff ho h0 h0 h0 h0
 obtain⟨l1,l2,_⟩:=Reg.dZ s1 ho
 obtain⟨m1,m2,_⟩:=Reg.dZ l1 hc
 exact⟨m1,fun x y=>by rw[WM,m2,l2]⟩
theorem YA {bs:List en} {i:Nat} {layer:Int}:∀(t:List en) (k:Nat) (s:List ax),(∀b∈t,cx b=true)->hZ s->cQ 2000000 s->hZ (WJ bs i layer k t s)/\cQ 2000000 (WJ bs i layer k t s)
 | [],k,s,_,h,hk=>⟨h,hk⟩
 | y::t,k,s,hb,h,hk=>by
  rw[WJ]
  refine YA t (k+1) _ (fun b h=>hb b (List.mem_cons_of_mem _ h)) ?_ ?_
  ·split
   ·exact (Reg.va h (Reg.gf (l:=[aQ y]) (fun q hq=>by rw[List.mem_singleton] at hq;subst hq;exact Reg.eZ (hb y List.mem_cons_self))).1).1
   exact h
  split
  ·have MB:=Reg.gf (l:=[aQ y]) (fun q hq=>by rw[List.mem_singleton] at hq;subst hq;exact Reg.eZ (hb y List.mem_cons_self))
   refine (Reg.va h MB.1).2.2 2000000 hk (MB.2.2 2000000 fun q hq=>?_)
   rw[List.mem_singleton] at hq
   subst hq
   obtain⟨a1,a2,a3,a4⟩:=Reg.jM (hb y List.mem_cons_self)
   exact⟨by omega,by omega,by omega,by omega⟩
  exact hk
theorem Ey {b:en} (h:cx b=true):hZ (a_ [aQ b])/\cQ 1010000 (a_ [aQ b]):=by
 have MB:=Reg.gf (l:=[aQ b]) (fun q hq=>by rw[List.mem_singleton] at hq;subst hq;exact Reg.eZ h)
 refine⟨MB.1,MB.2.2 _ fun q hq=>?_⟩
 rw[List.mem_singleton] at hq
 subst hq
 exact Reg.jM h
theorem kS {l:List aB} (h:Reg.aH l=0):hZ (a_ l)/\cQ 1000000 (a_ l):=by
 have h:=mQ h
 have hb:=Reg.gf h.full
 exact⟨hb.1,hb.2.2 _ h.rk⟩
theorem Yw {a:Wt} (ha:jG a) (i:Nat) (layer:Int):hZ (Wv a.bores a.coppers i layer)/\cQ 2000000 (Wv a.bores a.coppers i layer):=by
 refine YA _ _ _ (vH ha) ?_ ?_
 ·rw[List.getD_eq_getElem?_getD]
  cases e:a.coppers[layer.toNat]? with
  | none=>exact (Reg.gf (l:=[]) fun q hq=>by cases hq).1
  | some r=>exact (kS (ha.reg r (List.mem_of_getElem? e))).1
 rw[List.getD_eq_getElem?_getD]
 cases e:a.coppers[layer.toNat]? with
 | none=>exact (Reg.gf (l:=[]) fun q hq=>by cases hq).2.2 _ (fun q hq=>by cases hq)
 | some r=>
  exact Reg.cQ.up (by omega) (kS (ha.reg r (List.mem_of_getElem? e))).2
end M
end Go.Proofs.YtpbkimanfahbgaaGreatDoor
namespace Go.AM
theorem aW.Y1 {A:cV} (hC:bV A.C) (s:AS) (id j:Nat) (f:FuncId) (cap:List PV) (cs:List AV) (hb:s.h id=.box cs) (hn:cs[j]?=some (.fn f (cap.map .p))):aW A s ⟨s.t,br s.h id (.box (cs.set j (.p (.fn f cap))))⟩:=by
 intro S rho a w sim
 refine⟨S,rho,sim.write hC id trivial (by rw[hb];trivial) _ (fun _ h=>by cases h) w rfl rfl rfl rfl (fun _ _=>rfl) fun T=>?_⟩
 have hh:=sim.hp id trivial
 rw[hb] at hh
 obtain⟨g,ty,c,k1,k2,k3,k4⟩:=hh
 refine⟨g,ty,c,k1,k2,by rw[k3,List.length_set],fun q x u hi hu=>?_⟩
 by_cases ei:q=j
 ·subst ei
  rw[List.getElem?_set_self (aP hn)] at hi
  injection hi with hi
  subst hi
  obtain⟨k5,k6⟩:=k4 q _ u hn hu
  refine⟨k5,?_⟩
  have k7:bu S w (.fn f cap) u:=by
   cases k6 with
   | fn _ _ vs hl hc=>
    refine .fn f cap vs (by rw[<-hl,List.length_map]) fun i x v hx hv=>?_
    have:=hc i (.p x) v (by rw[List.getElem?_map,hx];rfl) hv
    cases this with
    | p _ _ h=>exact h
  exact (bF.p _ _ k7).lz T
 rw[List.getElem?_set_ne (fun e=>ei e.symm)] at hi
 obtain⟨k5,k6⟩:=k4 q x u hi hu
 exact⟨k5,k6.lz T⟩
theorem eK.TG {S S':Nat->Prop} {w:World} {P:Program}:∀{xs:List PV} {vs:List Value},eK S w P (xs.map .pv) [] vs->eK S' w P (xs.map .pv) [] vs
 | [],[],h=>h
 | [],_::_,h=>h
 | _::_,[],h=>h
 | _::xs,_::vs,h=>eK.TG (xs:=xs) (vs:=vs) h
theorem aD.iv {C:Ctx} {f:FuncId} {xs:List PV} {e:TypeId} {es:List (List PV)} (h:aD C f (xs.map .pv) (.own e es) []):aD C f (xs.map .pv) (.p (.sl es)) []:=by
 refine⟨h.1,fun S w vs hE hS hl ha hd=>(h.2 S w vs hE hS hl ha hd).mono ?_⟩
 rintro e' w' ⟨v,S',rfl,fr,s1,s2,s3,hr,hf,ho,hg⟩
 have sL:aR C.P w' (bu S' w') e es v:=hr.1
 refine⟨v,fun b=>S' b\/cU v=some b,rfl,fr,fun b hb=>.inl (s1 b hb),fun b hb=>?_,fun b hb=>?_,sL.zT (fun b h=>.inl h) (fun g h=>.inr h),eK.TG hf,ho,fun g hn=>by cases hn⟩
 ·rcases hb with hb | hb
  ·exact s2 b hb
  exact (hg b rfl (tY hb)).1
 rcases hb with hb | hb
 ·exact s3 b hb
 exact .inr (hg b rfl (tY hb)).2.1
end Go.AM
namespace Go.Proofs.YtpbkimanfahbgaaGreatDoor
namespace M
open Go.AM Go.RowKit Go.Lib
open Reg (aB ax en Wt Piece l9 hZ cQ told a_ cx aQ through aw zk cv ru jm bX coreS)
theorem vI {l:List aB} (h:Ib l):aD C 32 [.pv (aV l)] (.p (aG (a_ l))) []:=aD.iv (xs:=[aV l]) (jL h)
theorem Dx {b:en} (h:cx b=true):aD C 32 [.pv (aV [aQ b])] (.p (aG (a_ [aQ b]))) []:=aD.iv (xs:=[aV [aQ b]]) (jb [aQ b] 1010000 (by omega) (by omega) (fun q hq=>by rw[List.mem_singleton] at hq;subst hq;exact Reg.eZ h) (fun q hq=>by rw[List.mem_singleton] at hq;subst hq;exact Reg.jM h) (by simp))
theorem open_1 (s:ByteArray) (hs:jv s):aD C 87 [.pv (str s)] (.p (bool (!pJ s))) []:=by
 refine aT hC Tryz.func87 rfl rfl 6 rfl (by decide) (by kernel_rfl) fun _ _ _ _ _=>?_
 (refine yS<|yA Z<|yU<|yP Z<|yn Z<|aK zI ?_;refine⟨_,_,(s_ s hs),?_⟩)
 (refine b9 Z Z<|ae<|yP Z<|yA Z<|yR zi ?_;refine And.intro ?_ trivial)
 rfl
theorem Dy (l:List ByteArray) (hN:l.length<=140737488355328) (ho:∀s∈l,jv s):aD C 132 [.pv (strs l),.pv (pj 87)] (.p (i64 (hY (fun s=>!pJ s) l 0))) []:=by
 refine aT hC Tryz.func132 rfl rfl 19 rfl (by decide) (by kernel_rfl) fun _ _ _ _ _=>?_
 have lm:=aN l fun s=>[str s]
 refine yS<|yA Z<|yT<|au<|yS<|yP Z<|yP Z<|yP Z<|yT<|aZ ?_
 refine aI (fun i:Nat=>i<=l.length/\∀z∈l.take i,(!pJ z)=false) (fun i=>[(0,.p (strs l)),(1,.p (pj 87)),(7,.p (i64 (l.map fun s=>[str s]).length)),(8,.p (i64 i))]) (fun _=>[]) (fun i=>l.length - i) 0 _ (aW.refl _ _) ⟨Nat.zero_le _,by simp⟩ ⟨Z,Z,Z,Z,Y⟩ trivial fun i hi t h=>?_
 (refine yS<|yP Z<|yT<|au<|az Z ?_;refine aa (fun h1=>?_) (fun h1=>?_) <;> try simp only[zB] at h1)
 ·rw[lm] at h1
  obtain⟨r,hr⟩:=bh (l:=l) (i:=i) (by omega)
  (refine aJ<|aj<|au<|aZ<|yS<|yP Z<|yA Z<|yU<|yP Z<|yP Z<|yP Z<|yq Z<|aK zI ?_;refine⟨[str r],(idx rfl hr),?_⟩)
  (refine yk<|yP Z<|yn Z<|aK zI ?_;refine⟨_,_,(open_1 r (ho r (List.mem_of_getElem? hr))),?_⟩)
  (refine b9 Z Z<|ae<|yT<|az Z ?_;refine aa (fun h2=>?_) (fun h2=>?_) <;> try simp only[zB] at h2)
  ·have h2:(!pJ r)=true:=by simpa using h2
   (refine yS<|yP Z<|yA Z<|yT<|bP<|bW<|aX<|aX<|bW<|aX<|bQ zi ?_;refine And.intro ?_ trivial)
   rw[iJ (p:=fun s=>!pJ s) hr h2 hi.2,Nat.zero_add]
  have h2:(!pJ r)=false:=by simpa using h2
  (refine aJ<|bp<|aj<|aM<|yq Z<|bg zI ?_;refine sI ?_)
  (refine yk<|yP Z<|yT<|ai ?_;refine⟨(i+1),_,aW.refl _ _,?_⟩)
  exact⟨⟨by omega,oM (p:=fun s=>!pJ s) hr h2 hi.2⟩,by omega,⟨Z,Z,Z,Z,Y⟩,trivial⟩
 rw[lm] at h1
 (refine bT<|aY<|aY<|bU<|aj<|yS<|yA Z<|yR zi ?_;refine And.intro ?_ trivial)
 have h2:=hi.2
 rw[List.take_of_length_le (by omega)] at h2
 rw[fN (p:=fun s=>!pJ s) h2]
 rfl
theorem wS (l:List ByteArray) (hN:l.length<=140737488355328) (ho:∀s∈l,jv s):aD C 86 [.pv (strs l),.pv (pj 87)] (.p (bool (l.any fun s=>!pJ s))) []:=by
 refine aT hC Tryz.func86 rfl rfl 9 rfl (by decide) (by kernel_rfl) fun _ _ _ _ _=>?_
 (refine yS<|yA Z<|yU<|yP Z<|yP Z<|yn Z<|aK zI ?_;refine⟨_,_,(Dy l hN ho),?_⟩)
 (refine b9 Z Z<|ae<|yP Z<|yA Z<|yR zi ?_;refine And.intro ?_ trivial)
 rw[<-j_ _ l 0]
 rfl
def zE (r:bR) (a:Wt) (nets:List ByteArray):PV:=if kZ r a nets=0 then .ip (kY a) else .im (.pointer none)
structure sD (l:List ByteArray):Prop where
 len:l.length<=1000000000
 str:∀s∈l,jv s
theorem Dz (r:bR) (hr:ic r) (a:Wt) (ha:oh a) (nets:List ByteArray) (hn:sD nets):aD C 34 [.pv (.ag (rl r)),.pv (.ag (kG a)),.pv (strs nets)] (.tu [zE r a nets,i64 (kZ r a nets)]) []:=by
 have ln:=aN nets fun s=>[str s]
 have lg:=aN (aw a).placed.groups q_
 have SO:=hn.len
 obtain⟨F,hF⟩:∃F,F=kZ r a nets:=⟨_,rfl⟩
 have hV:zE r a nets=if F=0 then .ip (kY a) else .im (.pointer none):=by rw[hF];rfl
 rw[hV,<-hF]
 rw[kZ] at hF
 refine aT hC Tryz.func34 rfl rfl 35 rfl (by decide) (by kernel_rfl) fun _ _ _ _ _=>?_
 ((refine yS<|yn Z<|aA zI<|aS<|ak<|yn Z<|aA zI<|aS<|ak<|yA Z<|yA Z<|yT<|au<|yS ?_;refine yP Z<|yn Z<|aK zI ?_);refine⟨_,_,(lU r hr),?_⟩)
 (refine b9 Z Z<|ae<|yA Z<|yU<|yP Z<|yP Z<|yT<|az Z ?_;refine aa (fun g1=>?_) (fun g1=>?_) <;> try simp only[zB] at g1)
 ·have g1:cK r≠0:=by simpa using g1
  rw[if_pos g1] at hF
  (refine yS<|yP Z<|yA Z<|yA Z<|yT<|bP<|aX<|bQ zi ?_;refine And.intro ?_ trivial)
  rw[hF,if_neg g1]
 have g1:cK r=0:=by simpa using g1
 rw[if_neg (by simpa using g1)] at hF
 have aU:=kQ a ha
 by_cases g:cC a=0
 ·rw[pz,if_pos g,g] at aU
  rw[if_neg (by simpa using g)] at hF
  have gd:=sC g
  (refine aJ<|aj<|yS<|yP Z<|yn Z<|aK zI ?_;refine⟨_,_,aU,?_⟩)
  ((refine b9 Z Z<|bq<|yq Z<|aA zI<|bd<|bq<|yP Z<|yP Z<|yA Z<|yA Z<|yT<|au<|yS<|yP Z ?_;refine yP Z<|yT<|az Z<|cM<|aJ<|aj<|au<|yS<|yP Z<|yP Z<|yP Z<|yP Z<|yP Z<|yP Z ?_;refine yP Z<|yP Z<|yT<|az Z ?_);refine aa (fun g2=>?_) (fun g2=>?_) <;> try simp only[zB] at g2)
  ·rw[if_pos (by omega)] at hF
   (refine yS<|yA Z<|yA Z<|yT<|bP<|aX<|bQ zi ?_;refine And.intro ?_ trivial)
   rw[hF];rfl
  rw[if_neg (by omega)] at hF
  (refine aJ<|aj<|au<|yS<|yP Z<|yn Z<|aK zI ?_;refine⟨_,_,(wS nets (by omega) hn.str),?_⟩)
  (refine b9 Z Z<|ae<|yT<|az Z ?_;refine aa (fun g3=>?_) (fun g3=>?_) <;> try simp only[zB] at g3)
  ·rw[if_pos g3] at hF
   (refine yS<|yA Z<|yA Z<|yT<|bP<|aX<|bQ zi ?_;refine And.intro ?_ trivial)
   rw[hF];rfl
  rw[if_neg (by simpa using g3)] at hF
  (refine aJ<|aj<|yS<|yP Z<|yA Z<|yA Z<|yR zi ?_;refine And.intro ?_ trivial)
  rw[hF];rfl
 rw[pz,if_neg g] at aU
 rw[if_pos g] at hF
 (refine aJ<|aj<|yS<|yP Z<|yn Z<|aK zI ?_;refine⟨_,_,aU,?_⟩)
 ((refine b9 Z Z<|bq<|yq Z<|aA zI<|bd<|bq<|yP Z<|yP Z<|yA Z<|yA Z<|yT<|au<|yS<|yP Z ?_;refine yP Z<|yT<|az Z ?_);refine aa (fun h=>?_) (fun h=>?_) <;> try simp only[zB] at h)
 ·(refine yS<|yP Z<|yA Z<|yA Z<|yT<|bP<|aX<|bQ zi ?_;refine And.intro ?_ trivial)
  rw[hF,if_neg g]
 exact absurd (by simpa using h) g
theorem len_nil {s:List ax}:decide (((s.map hb).length:Int)=0)=decide (s=[]):=by
 cases s with
 | nil=>rfl
 | cons b s=>simp;omega
theorem YN (p:Piece) (hs:hZ p.set) (ks:cQ 1000000 p.set) (n:Int) (h0:0<=n) (h1:n<=100000):aD C 89 [.pv (i64 n),.pv (.ip (gw p))] (.p (bool (decide (zk p.set n=[])))) []:=by
 refine aT hC Tryz.func89 rfl rfl 10 rfl (by decide) (by kernel_rfl) fun _ _ _ _ _=>?_
 (refine yS<|yA Z<|yU<|yP Z<|yP Z<|yP Z<|yn Z<|aK zI ?_;refine⟨_,_,(XL p.set hs ks n h0 h1),?_⟩)
 (refine b9 Z Z<|ae<|yP Z<|yP Z<|yA Z<|yR zi ?_;refine And.intro ?_ trivial)
 rw[len_nil];rfl
theorem YU (p:Piece) (o:List ax) (hs:hZ p.set) (ks:cQ 1000000 p.set) (ho:hZ o) (ko:cQ 1000000 o) (n:Int) (h0:0<=n) (h1:n<=100000):aD C 93 [.pv (i64 n),.pv (.ip (gw p)),.pv (.ip [aG o])] (.p (bool (decide (cv p.set (coreS o n n n n)=[])))) []:=by
 have co:=Reg.u4 ho h0 h0 h0 h0
 have ck:=zl co.1 ho ko fun x y hx=>(co.2.1 x y).1 hx x y (by omega) (by omega) (by omega) (by omega)
 refine aT hC Tryz.func93 rfl rfl 11 rfl (by decide) (by kernel_rfl) fun _ _ _ _ _=>?_
 ((refine yS<|yA Z<|yT<|au<|cH [] false Zl rfl (by kernel_rfl)<|ay Z<|ay Z<|ay Z<|ay Z<|cA Z Z<|cA Z Z<|cG Z<|yD Z<|yD Z ?_;refine yD Z<|yD Z<|dq Z<|aK zI ?_);refine⟨_,_,(Dr o ho ko n h0 h1),?_⟩)
 (refine bB<|ae<|dq Z<|aK zI ?_;refine⟨_,_,(YI p.set (coreS o n n n n) hs co.1 (ks.up (by omega)) (ck.up (by omega))),?_⟩)
 ((refine bB<|ae<|yD Z<|cn<|aq Z<|aq Z<|aq Z<|aq Z<|aq Z<|aq Z<|dW Z Z<|fo Z<|aj<|bP ?_;refine bQ zi ?_);refine And.intro ?_ trivial)
 rfl
theorem YB (own c:List ax) (ho:hZ own) (ko:cQ 1010000 own) (hc:hZ c) (kc:cQ 2000000 c) (n:Int) (h0:0<=n) (h1:n<=100000):aD C 91 [.pv (i64 n),.pv (.ip [aG own]),.pv (.ip [aG c])] (.p (aG (WM own c n))) []:=by
 obtain⟨s1,_,s3⟩:=Reg.ff ho h0 h0 h0 h0
 have s3:=s3 1010000 100000 ko h1 h1 h1 h1
 obtain⟨l1,_,_⟩:=Reg.dZ s1 ho
 have l3:=qN s1 ho s3
 refine aT hC Tryz.func91 rfl rfl 12 rfl (by decide) (by kernel_rfl) fun _ _ _ _ _=>?_
 ((refine yS<|yB Z<|yT<|au<|cH [] false RE rfl (by kernel_rfl)<|ay Z<|ay Z<|cA Z Z<|ay Z<|cA Z Z<|ay Z<|cA Z Z<|cG Z<|yD Z ?_;refine yD Z<|dq Z<|aK zI ?_);refine⟨_,_,(vf own ho (ko.up (by omega)) n h0 h1),?_⟩)
 (refine bB<|ae<|yD Z<|dq Z<|aK zI ?_;refine⟨_,_,(fQ (bX own n n n n) own s1 ho (s3.up (by omega)) (ko.up (by omega))),?_⟩)
 (refine bB<|ae<|yD Z<|dq Z<|aK zI ?_;refine⟨_,_,(fQ (cv (bX own n n n n) own) c l1 hc (l3.up (by omega)) kc),?_⟩)
 ((refine bB<|ae<|yD Z<|cn<|aq Z<|aq Z<|aq Z<|aq Z<|aq Z<|aq Z<|aq Z<|dW Z Z<|fo Z<|aj ?_;refine bP<|bQ zi ?_);refine And.intro ?_ trivial)
 rfl
def XB (own c:List ax):PV:=.fn 91 [.ip [aG own],.ip [aG c]]
theorem YV (own c:List ax) (ho:hZ own) (ko:cQ 1010000 own) (hc:hZ c) (kc:cQ 2000000 c) (n:Int) (h0:0<=n) (h1:n<=100000):aD C 92 [.pv (i64 n),.pv (.ip [XB own c])] (.p (bool (decide (n < 0) || decide (WM own c n=[])))) []:=by
 refine aT hC Tryz.func92 rfl rfl 13 rfl (by decide) (by kernel_rfl) fun _ _ _ _ _=>?_
 (refine yS<|yA Z<|yU<|yP Z<|yP Z<|yP Z<|yg Z ?_;refine aa (fun g=>?_) (fun g=>?_) <;> try simp only[zB] at g)
 ·omega
 (refine bS<|bA Z Z<|aA zI<|yk<|y1 Z<|y2 Z<|jB Z Z Z<|aK zI ?_;refine⟨_,_,(YB own c ho ko hc kc n h0 h1),?_⟩)
 (refine b9 Z Z<|ae<|y1 Z<|y1 Z<|yP Z<|yA Z<|yR zi ?_;refine And.intro ?_ trivial)
 rw[len_nil,decide_eq_false g,Bool.false_or];rfl
theorem Ya (p:Piece) (hs:hZ p.set) (ks:cQ 1000000 p.set) (zc:Int) (h0:0<=zc) (h1:zc<=100000):aD C 88 [.pv (i64 zc),.pv (.fn 89 [.ip (gw p)])] (.p (i64 (Wo (fun n=>decide (zk p.set n=[])) zc))) []:=by
 refine aT hC Tryz.func88 rfl rfl 26 rfl (by decide) (by kernel_rfl) fun _ _ _ _ _=>?_
 obtain⟨H,hH⟩:∃H:Int->Bool,H=fun n=>decide (zk p.set n=[]):=⟨_,rfl⟩
 rw[<-hH]
 have hc:∀n,0<=n->n<=100000->aD C 89 [.pv (i64 n),.pv (.ip (gw p))] (.p (bool (H n))) []:=fun n a b=>by rw[hH];exact YN p hs ks n a b
 refine yS<|yA Z<|yU<|yP Z<|yA Z<|yA Z<|yT<|au<|aZ ?_
 refine aI (fun x:Nat×Int×Int=>Ww H x.1 x.2.1 x.2.2=Wo H zc/\(x.2.2 - x.2.1).toNat<=x.1/\-1<=x.2.1/\x.2.1<=x.2.2/\x.2.2<=zc) (fun x=>[(1,.p (.fn 89 [.ip (gw p)])),(5,.p (i64 x.2.1)),(6,.p (i64 x.2.2))]) (fun _=>[]) (fun x=>x.1) ((zc+1).toNat,-1,zc) _ (aW.refl _ _) ⟨rfl,by simp only;omega,by simp only;omega,by simp only;omega,by simp only;omega⟩ ⟨Z,Z,Z,Y⟩ trivial fun ⟨n,low,high⟩ hx t h=>?_
 obtain⟨x1,x2,x3,x4,x5⟩:=hx
 simp only at x1 x2 x3 x4 x5
 (refine au<|yS<|yP Z<|yP Z<|yP Z<|yT<|az Z ?_;refine aa (fun g=>?_) (fun g=>?_) <;> try simp only[zB] at g)
 ·have hf:=W4 (d:=high - low) (by omega)
  rw[WZ H g x2] at x1
  (refine aJ<|aj<|aZ<|yS<|yP Z<|yP Z<|yP Z<|yq Z<|bg zI ?_;refine And.intro ⟨by dsimp only;omega,by dsimp only;omega⟩ ?_)
  (refine yk<|yq Z<|bg zI ?_;refine And.intro ⟨by dsimp only;omega,by dsimp only;omega⟩ ?_)
  (refine yk<|yq Z<|bg zI ?_;refine And.intro (by decide) ?_)
  (refine zA zi ?_;refine And.intro ⟨by dsimp only;omega,by dsimp only;omega⟩ ?_)
  (refine yk<|yq Z<|bg zI ?_;refine And.intro ⟨by dsimp only;omega,by dsimp only;omega⟩ ?_)
  (refine yk<|yA Z<|yU<|yP Z<|yP Z<|yn Z<|aK zI ?_;refine⟨_,_,(hc (low+(high - low+1).tdiv 2) (by omega) (by omega)),?_⟩)
  (refine b9 Z Z<|ae<|yT<|az Z ?_;refine aa (fun k=>?_) (fun k=>?_) <;> try simp only[zB] at k)
  ·rw[if_pos k] at x1
   (refine aM<|yP Z<|yA Z<|cL<|bp<|aj<|ai ?_;refine⟨(n - 1,low+(high - low+1).tdiv 2,high),_,aW.refl _ _,?_⟩)
   exact⟨⟨x1,by simp only;omega,by simp only;omega,by simp only;omega,by simp only;omega⟩,by simp only;omega,⟨Z,Z,Z,Y⟩,trivial⟩
  rw[if_neg (by simpa using k)] at x1
  (refine aM<|yP Z<|yq Z<|bg zI ?_;refine And.intro ⟨by dsimp only;omega,by dsimp only;omega⟩ ?_)
  (refine yk<|yA Z<|cL<|bp<|aj<|ai ?_;refine⟨(n - 1,low,low+(high - low+1).tdiv 2 - 1),_,aW.refl _ _,?_⟩)
  exact⟨⟨x1,by simp only;omega,by simp only;omega,by simp only;omega,by simp only;omega⟩,by simp only;omega,⟨Z,Z,Z,Y⟩,trivial⟩
 rw[W5 H g] at x1
 (refine bT<|aY<|aY<|bU<|aj<|yS<|yP Z<|yA Z<|yR zi ?_;refine And.intro ?_ trivial)
 rw[x1]
theorem Yj (p:Piece) (o:List ax) (hs:hZ p.set) (ks:cQ 1000000 p.set) (ho:hZ o) (ko:cQ 1000000 o) (zc:Int) (h0:0<=zc) (h1:zc<=100000):aD C 88 [.pv (i64 zc),.pv (.fn 93 [.ip (gw p),.ip [aG o]])] (.p (i64 (Wo (fun n=>decide (cv p.set (coreS o n n n n)=[])) zc))) []:=by
 refine aT hC Tryz.func88 rfl rfl 26 rfl (by decide) (by kernel_rfl) fun _ _ _ _ _=>?_
 obtain⟨H,hH⟩:∃H:Int->Bool,H=fun n=>decide (cv p.set (coreS o n n n n)=[]):=⟨_,rfl⟩
 rw[<-hH]
 have hc:∀n,0<=n->n<=100000->aD C 93 [.pv (i64 n),.pv (.ip (gw p)),.pv (.ip [aG o])] (.p (bool (H n))) []:=fun n a b=>by rw[hH];exact YU p o hs ks ho ko n a b
 refine yS<|yA Z<|yU<|yP Z<|yA Z<|yA Z<|yT<|au<|aZ ?_
 refine aI (fun x:Nat×Int×Int=>Ww H x.1 x.2.1 x.2.2=Wo H zc/\(x.2.2 - x.2.1).toNat<=x.1/\-1<=x.2.1/\x.2.1<=x.2.2/\x.2.2<=zc) (fun x=>[(1,.p (.fn 93 [.ip (gw p),.ip [aG o]])),(5,.p (i64 x.2.1)),(6,.p (i64 x.2.2))]) (fun _=>[]) (fun x=>x.1) ((zc+1).toNat,-1,zc) _ (aW.refl _ _) ⟨rfl,by simp only;omega,by simp only;omega,by simp only;omega,by simp only;omega⟩ ⟨Z,Z,Z,Y⟩ trivial fun ⟨n,low,high⟩ hx t h=>?_
 obtain⟨x1,x2,x3,x4,x5⟩:=hx
 simp only at x1 x2 x3 x4 x5
 (refine au<|yS<|yP Z<|yP Z<|yP Z<|yT<|az Z ?_;refine aa (fun g=>?_) (fun g=>?_) <;> try simp only[zB] at g)
 ·have hf:=W4 (d:=high - low) (by omega)
  rw[WZ H g x2] at x1
  (refine aJ<|aj<|aZ<|yS<|yP Z<|yP Z<|yP Z<|yq Z<|bg zI ?_;refine And.intro ⟨by dsimp only;omega,by dsimp only;omega⟩ ?_)
  (refine yk<|yq Z<|bg zI ?_;refine And.intro ⟨by dsimp only;omega,by dsimp only;omega⟩ ?_)
  (refine yk<|yq Z<|bg zI ?_;refine And.intro (by decide) ?_)
  (refine zA zi ?_;refine And.intro ⟨by dsimp only;omega,by dsimp only;omega⟩ ?_)
  (refine yk<|yq Z<|bg zI ?_;refine And.intro ⟨by dsimp only;omega,by dsimp only;omega⟩ ?_)
  (refine yk<|yA Z<|yU<|yP Z<|yP Z<|yn Z<|aK zI ?_;refine⟨_,_,(hc (low+(high - low+1).tdiv 2) (by omega) (by omega)),?_⟩)
  (refine b9 Z Z<|ae<|yT<|az Z ?_;refine aa (fun k=>?_) (fun k=>?_) <;> try simp only[zB] at k)
  ·rw[if_pos k] at x1
   (refine aM<|yP Z<|yA Z<|cL<|bp<|aj<|ai ?_;refine⟨(n - 1,low+(high - low+1).tdiv 2,high),_,aW.refl _ _,?_⟩)
   exact⟨⟨x1,by simp only;omega,by simp only;omega,by simp only;omega,by simp only;omega⟩,by simp only;omega,⟨Z,Z,Z,Y⟩,trivial⟩
  rw[if_neg (by simpa using k)] at x1
  (refine aM<|yP Z<|yq Z<|bg zI ?_;refine And.intro ⟨by dsimp only;omega,by dsimp only;omega⟩ ?_)
  (refine yk<|yA Z<|cL<|bp<|aj<|ai ?_;refine⟨(n - 1,low,low+(high - low+1).tdiv 2 - 1),_,aW.refl _ _,?_⟩)
  exact⟨⟨x1,by simp only;omega,by simp only;omega,by simp only;omega,by simp only;omega⟩,by simp only;omega,⟨Z,Z,Z,Y⟩,trivial⟩
 rw[W5 H g] at x1
 (refine bT<|aY<|aY<|bU<|aj<|yS<|yP Z<|yA Z<|yR zi ?_;refine And.intro ?_ trivial)
 rw[x1]
theorem Yk (own c:List ax) (ho:hZ own) (ko:cQ 1010000 own) (hc:hZ c) (kc:cQ 2000000 c) (zc:Int) (h0:0<=zc) (h1:zc<=100000):aD C 88 [.pv (i64 zc),.pv (.fn 92 [.ip [XB own c]])] (.p (i64 (Wo (fun n=>decide (n < 0) || decide (WM own c n=[])) zc))) []:=by
 refine aT hC Tryz.func88 rfl rfl 26 rfl (by decide) (by kernel_rfl) fun _ _ _ _ _=>?_
 obtain⟨H,hH⟩:∃H:Int->Bool,H=fun n=>decide (n < 0) || decide (WM own c n=[]):=⟨_,rfl⟩
 rw[<-hH]
 have iE:∀n,0<=n->n<=100000->aD C 92 [.pv (i64 n),.pv (.ip [XB own c])] (.p (bool (H n))) []:=fun n a b=>by rw[hH];exact YV own c ho ko hc kc n a b
 refine yS<|yA Z<|yU<|yP Z<|yA Z<|yA Z<|yT<|au<|aZ ?_
 refine aI (fun x:Nat×Int×Int=>Ww H x.1 x.2.1 x.2.2=Wo H zc/\(x.2.2 - x.2.1).toNat<=x.1/\-1<=x.2.1/\x.2.1<=x.2.2/\x.2.2<=zc) (fun x=>[(1,.p (.fn 92 [.ip [XB own c]])),(5,.p (i64 x.2.1)),(6,.p (i64 x.2.2))]) (fun _=>[]) (fun x=>x.1) ((zc+1).toNat,-1,zc) _ (aW.refl _ _) ⟨rfl,by simp only;omega,by simp only;omega,by simp only;omega,by simp only;omega⟩ ⟨Z,Z,Z,Y⟩ trivial fun ⟨n,low,high⟩ hx t h=>?_
 obtain⟨x1,x2,x3,x4,x5⟩:=hx
 simp only at x1 x2 x3 x4 x5
 (refine au<|yS<|yP Z<|yP Z<|yP Z<|yT<|az Z ?_;refine aa (fun g=>?_) (fun g=>?_) <;> try simp only[zB] at g)
 ·have hf:=W4 (d:=high - low) (by omega)
  rw[WZ H g x2] at x1
  (refine aJ<|aj<|aZ<|yS<|yP Z<|yP Z<|yP Z<|yq Z<|bg zI ?_;refine And.intro ⟨by dsimp only;omega,by dsimp only;omega⟩ ?_)
  (refine yk<|yq Z<|bg zI ?_;refine And.intro ⟨by dsimp only;omega,by dsimp only;omega⟩ ?_)
  (refine yk<|yq Z<|bg zI ?_;refine And.intro (by decide) ?_)
  (refine zA zi ?_;refine And.intro ⟨by dsimp only;omega,by dsimp only;omega⟩ ?_)
  (refine yk<|yq Z<|bg zI ?_;refine And.intro ⟨by dsimp only;omega,by dsimp only;omega⟩ ?_)
  (refine yk<|yA Z<|yU<|yP Z<|yP Z<|yn Z<|aK zI ?_;refine⟨_,_,(iE (low+(high - low+1).tdiv 2) (by omega) (by omega)),?_⟩)
  (refine b9 Z Z<|ae<|yT<|az Z ?_;refine aa (fun k=>?_) (fun k=>?_) <;> try simp only[zB] at k)
  ·rw[if_pos k] at x1
   (refine aM<|yP Z<|yA Z<|cL<|bp<|aj<|ai ?_;refine⟨(n - 1,low+(high - low+1).tdiv 2,high),_,aW.refl _ _,?_⟩)
   exact⟨⟨x1,by simp only;omega,by simp only;omega,by simp only;omega,by simp only;omega⟩,by simp only;omega,⟨Z,Z,Z,Y⟩,trivial⟩
  rw[if_neg (by simpa using k)] at x1
  (refine aM<|yP Z<|yq Z<|bg zI ?_;refine And.intro ⟨by dsimp only;omega,by dsimp only;omega⟩ ?_)
  (refine yk<|yA Z<|cL<|bp<|aj<|ai ?_;refine⟨(n - 1,low,low+(high - low+1).tdiv 2 - 1),_,aW.refl _ _,?_⟩)
  exact⟨⟨x1,by simp only;omega,by simp only;omega,by simp only;omega,by simp only;omega⟩,by simp only;omega,⟨Z,Z,Z,Y⟩,trivial⟩
 rw[W5 H g] at x1
 (refine bT<|aY<|aY<|bU<|aj<|yS<|yP Z<|yA Z<|yR zi ?_;refine And.intro ?_ trivial)
 rw[x1]
end M
end Go.Proofs.YtpbkimanfahbgaaGreatDoor
namespace Go.AM
open Go.RowKit Go.ChangeShapes
section
variable {H:Type} {enc:TypeId×Value->H} {P:Program} {w:World} {S:Nat->Prop}
theorem IH {t:TypeId} (ht:P.underlying t=some .bool):CW enc P w S t 1 fun xs d=>∃b:Bool,xs=[.im (.bool b)]:=fun n cs x h=>by
 obtain⟨b,rfl,rfl⟩:=DataW.trod_bool ht h
 exact⟨[.im (.bool b)],rfl,rfl,one_cell ⟨.im _,rfl⟩,b,rfl⟩
def kT (S:Nat->Prop) (w:World) (o:Nat) (xs:List PV) (cs:List Value):Prop:=∀(i:Nat) c v,xs[i]?=some c->cs[o+i]?=some v->bu S w c v/\v.oneCell'=true
theorem kT.join {o:Nat} {xs ys:List PV} {cs:List Value} (h:kT S w o xs cs) (k:kT S w (o+xs.length) ys cs):kT S w o (xs++ys) cs:=fun i c v h1 h2=>by
 by_cases e:i < xs.length
 ·rw[List.getElem?_append_left e] at h1
  exact h i c v h1 h2
 rw[List.getElem?_append_right (by omega)] at h1
 refine k (i - xs.length) c v h1 ?_
 rw[<-h2]
 congr 1
 omega
theorem vJ {t:TypeId} {fs:Array Field} (ht:P.underlying t=some (.struct fs)) (ks:Nat->Nat) (hk:∀(i:Nat) (f:Field),fs[i]?=some f->P.cellsOf f.type=ks i) (Qs:Nat->List PV->DataW H->Prop) (hf:∀(i:Nat) (f:Field),fs[i]?=some f->CW enc P w S f.type (ks i) (Qs i)) {n:Nat} {cs:List Value} {x:DataW H×List MemPlace} (h:DataW.trod enc P w 0 (fun _=>true) true n t cs=some x):
  cs.length=P.cellsOf t/\∃ds:List (DataW H),x.1=.agg ds/\ds.length=fs.size/\∀(i:Nat) (f:Field),fs[i]?=some f->∃xs d,xs.length=ks i/\kT S w f.offset xs cs/\ds[i]?=some d/\Qs i xs d:=by
 obtain⟨ys,m,_,rfl,hl,hlen,hy⟩:=DataW.trod_struct ht h
 refine⟨hl,ys.map (·.1),rfl,by rw[List.length_map,hlen],fun i f I3=>?_⟩
 have hi:i < fs.size:=(Array.getElem?_eq_some_iff.1 I3).1
 have K9:=hy i f I3
 have Ow:ys[i]?=some ys[i]:=List.getElem?_eq_getElem (by omega)
 rw[Ow,hk i f I3] at K9
 obtain⟨xs,l1,l2,l3,l4⟩:=hf i f I3 _ _ _ K9
 refine⟨xs,ys[i].1,l1,fun j c v h1 h2=>l3 j c v h1 ?_,by rw[List.getElem?_map,Ow];rfl,l4⟩
 have hj:=(List.getElem?_eq_some_iff.1 h1).1
 rw[List.getElem?_take_of_lt (by omega),List.getElem?_drop]
 exact h2
end
end Go.AM
namespace Go.Proofs.YtpbkimanfahbgaaGreatDoor
namespace M
open Go.AM Go.RowKit Go.Lib
open Reg (aB bC ax en jn Wt)
variable {H:Type} {enc:TypeId×Value->H} {w:World} {S:Nat->Prop}
theorem Sj:Sp enc w S 4 1 (fun b=>[bool b]) fun _ _=>True:=fun n cs x h=>by
 obtain⟨xs,l1,l2,l3,b,e⟩:=IH (S:=S) Tryz.underlying4 n cs x h
 exact⟨xs,l1,l2,l3,b,e,trivial⟩
def MT (P:Program) (fs:Array Field) (ks:Nat->Nat):Bool:=(List.range fs.size).all fun i=>match fs[i]? with
 | some f=>Nat.beq (P.cellsOf f.type) (ks i)
 | none=>true
theorem BJ {P:Program} {fs:Array Field} {ks:Nat->Nat} (h:MT P fs ks=true):∀(i:Nat) (f:Field),fs[i]?=some f->P.cellsOf f.type=ks i:=fun i f hf=>by
 have hi:=(Array.getElem?_eq_some_iff.1 hf).1
 have:=List.all_eq_true.1 h i (List.mem_range.2 hi)
 rw[hf] at this
 exact Nat.eq_of_beq_eq_true this
theorem Kk:Sp enc w S 54 6 bc fun _ _=>True:=fun n cs x h=>by
 obtain⟨hl,ds,e,ld,q⟩:=vJ (S:=S) (ks:=fun i=>match i with | 0=>2 | _=>1) (hk:=BJ (by kernel_rfl)) (Qs:=fun i xs d=>match i with
   | 0=>∃p:Int×Int,xs=[i64 p.1,i64 p.2]/\True
   | 4=>∃b,xs=[bool b]/\True
   | _=>∃n,xs=[i64 n]/\True) Tryz.underlying54 (fun i f hf=>by
  match i,hf with
  | 0,hf=>cases hf;exact A2
  | 1,hf=>cases hf;exact pL
  | 2,hf=>cases hf;exact pL
  | 3,hf=>cases hf;exact pL
  | 4,hf=>cases hf;exact Sj
  | n+5,hf=>cases hf) h
 have hl:cs.length=6:=hl.trans (by kernel_rfl)
 obtain⟨x0,_,_,r0,_,p,e0,_⟩:=q 0 _ rfl
 obtain⟨x1,_,_,r1,_,n1,e1,_⟩:=q 1 _ rfl
 obtain⟨x2,_,_,r2,_,n2,e2,_⟩:=q 2 _ rfl
 obtain⟨x3,_,_,r3,_,n3,e3,_⟩:=q 3 _ rfl
 obtain⟨x4,_,_,r4,_,b4,e4,_⟩:=q 4 _ rfl
 cases e0;cases e1;cases e2;cases e3;cases e4
 have rel:kT S w 0 ([i64 p.1,i64 p.2]++([i64 n1]++([i64 n2]++([i64 n3]++[bool b4])))) cs:=kT.join r0 (kT.join r1 (kT.join r2 (kT.join r3 r4)))
 exact⟨_,rfl,hl,fun i c v h1 h2=>rel i c v h1 (by rw[Nat.zero_add];exact h2),⟨p.1,p.2,n1,n2,n3,b4⟩,Z,Y⟩
def vK (l:jn) (n:Nat):Prop:=l.part.size<=n/\l.pin.size<=n
theorem ox (l:jn) (m n:Nat) (h:m<=n):vK l m->vK l n:=fun ⟨h1,h2⟩=>⟨Nat.le_trans h1 h,Nat.le_trans h2 h⟩
theorem Kl:Sp enc w S 175 5 lc vK:=fun n cs x h=>by
 obtain⟨hl,ds,e,ld,q⟩:=vJ (S:=S) (ks:=fun i=>match i with | 3=>2 | _=>1) (hk:=BJ (by kernel_rfl)) (Qs:=fun i xs d=>match i with
   | 0=>∃s,xs=[str s]/\s.size<=Rows.uptoBulk d
   | 1=>∃s,xs=[str s]/\s.size<=Rows.uptoBulk d
   | 2=>∃n,xs=[i64 n]/\True
   | _=>∃p:Int×Int,xs=[i64 p.1,i64 p.2]/\True) Tryz.underlying175 (fun i f hf=>by
  match i,hf with
  | 0,hf=>cases hf;exact JZ
  | 1,hf=>cases hf;exact JZ
  | 2,hf=>cases hf;exact pL
  | 3,hf=>cases hf;exact A2
  | n+4,hf=>cases hf) h
 have hl:cs.length=5:=hl.trans (by kernel_rfl)
 obtain⟨x0,V9,_,r0,i0,n0,e0,b0⟩:=q 0 _ rfl
 obtain⟨x1,O_,_,r1,i1,n1,e1,b1⟩:=q 1 _ rfl
 obtain⟨x2,_,_,r2,_,n2,e2,_⟩:=q 2 _ rfl
 obtain⟨x3,_,_,r3,_,p,e3,_⟩:=q 3 _ rfl
 cases e0;cases e1;cases e2;cases e3
 have rel:kT S w 0 ([str n0]++([str n1]++([i64 n2]++[i64 p.1,i64 p.2]))) cs:=kT.join r0 (kT.join r1 (kT.join r2 r3))
 have j0:=kW i0
 have j1:=kW i1
 rw[<-e] at j0 j1
 exact⟨_,rfl,hl,fun i c v h1 h2=>rel i c v h1 (by rw[Nat.zero_add];exact h2),⟨n0,n1,n2,p.1,p.2⟩,rfl,Nat.le_trans b0 j0,Nat.le_trans b1 j1⟩
def Ez (a:Wt) (n:Nat):Prop:=a.coppers.length<=n/\(∀r∈a.coppers,r.length<=n)/\a.outline.length<=n/\a.bores.length<=n/\a.lands.length<=n/\∀l∈a.lands,vK l n
theorem MU (hS:∀b,b < w.heap.size->S b):Sp enc w S 31 4 kG Ez:=fun n cs x h=>by
 obtain⟨xs,l1,l2,l3,ds,e,ld,q⟩:=iK (S:=S) (Qs:=fun i xs d=>match i with
   | 0=>∃r:List (List aB),xs=[.sl (r.map fun q=>[aV q])]/\(r.length<=Rows.uptoBulk d/\∀c∈r,(c.length<=Rows.uptoBulk d/\∀z∈c,True))
   | 1=>∃r,xs=[aV r]/\(r.length<=Rows.uptoBulk d/\∀z∈r,True)
   | 2=>∃r:List en,xs=[.sl (r.map bc)]/\(r.length<=Rows.uptoBulk d/\∀c∈r,True)
   | _=>∃r:List jn,xs=[.sl (r.map lc)]/\(r.length<=Rows.uptoBulk d/\∀c∈r,vK c (Rows.uptoBulk d))) Tryz.underlying31 (Go.Deep.hone_of (by kernel_rfl)) (by kernel_rfl) (fun i f hf=>by
  match i,hf with
  | 0,hf=>cases hf;exact kg (k:=1) Tryz.underlying26 (by kernel_rfl) (by decide) hS (fun r m n h ⟨h1,h2⟩=>⟨Nat.le_trans h1 h,h2⟩) (uZ hS)
  | 1,hf=>cases hf;exact uZ hS
  | 2,hf=>cases hf;exact kg (k:=6) Tryz.underlying28 (by kernel_rfl) (by decide) hS (fun _ _ _ _ h=>h) Kk
  | 3,hf=>cases hf;exact kg (k:=5) Tryz.underlying29 (by kernel_rfl) (by decide) hS ox Kl
  | n+4,hf=>cases hf) _ _ _ h
 have l1:xs.length=4:=l1
 have ld:ds.length=4:=ld
 obtain⟨a,b,c,d,rfl⟩:∃a b c d,xs=[a,b,c,d]:=by
  match xs,l1 with
  | [a,b,c,d],_=>exact⟨a,b,c,d,rfl⟩
 obtain⟨a',b',c',d',rfl⟩:∃a b c d,ds=[a,b,c,d]:=by
  match ds,ld with
  | [a,b,c,d],_=>exact⟨a,b,c,d,rfl⟩
 obtain⟨n0,e0,p0,Vo⟩:=q 0 _ _ rfl rfl
 obtain⟨n1,e1,p1,_⟩:=q 1 _ _ rfl rfl
 obtain⟨n2,e2,p2,_⟩:=q 2 _ _ rfl rfl
 obtain⟨n3,e3,p3,Vp⟩:=q 3 _ _ rfl rfl
 cases e0;cases e1;cases e2;cases e3
 have i0:=kW (ds:=[a',b',c',d']) (i:=0) rfl
 have i1:=kW (ds:=[a',b',c',d']) (i:=1) rfl
 have i2:=kW (ds:=[a',b',c',d']) (i:=2) rfl
 have i3:=kW (ds:=[a',b',c',d']) (i:=3) rfl
 rw[<-e] at i0 i1 i2 i3
 exact⟨_,rfl,l2,l3,⟨n0,n1,n2,n3⟩,rfl,by exact Nat.le_trans p0 i0,fun r hr=>Nat.le_trans (Vo r hr).1 i0,by exact Nat.le_trans p1 i1,by exact Nat.le_trans p2 i2,by exact Nat.le_trans p3 i3,fun l hl=>ox l _ _ i3 (Vp l hl)⟩
theorem DA (a:Wt) (m n:Nat) (h:m<=n):Ez a m->Ez a n:=fun ⟨h1,h2,h3,h4,h5,h6⟩=>⟨by omega,fun r hr=>Nat.le_trans (h2 r hr) h,by omega,by omega,by omega,fun l hl=>ox l _ _ h (h6 l hl)⟩
theorem MV {a:Wt} (h:Ez a 1048576):oh a:=⟨h.1,h.2.1,h.2.2.1,h.2.2.2.1,h.2.2.2.2.1,fun l hl=>⟨zf (h.2.2.2.2.2 l hl).1,zf (h.2.2.2.2.2 l hl).2⟩⟩
theorem Km {l:List ByteArray} {n:Nat} (hn:n<=1048576) (h:l.length<=n/\∀s∈l,s.size<=n):sD l:=⟨by omega,fun s hs=>zf (Nat.le_trans (h.2 s hs) hn)⟩
end M
namespace M
open Reg (aB ax en Wt Piece l9 hZ cQ told a_ cx aQ through B0 x7 aw zk cv ru jm bX coreS at')
structure Sub (K:Int) (s all:List ax):Prop where
 sok:hZ s
 ink:cQ K s
 sub:∀x y,at' s x y=true->at' all x y=true
theorem Sub.less {K:Int} {s all b:List ax} (h:Sub K s all) (hb:hZ b):Sub K (cv s b) all/\∀x y,at' (cv s b) x y=true->at' s x y=true/\at' b x y=false:=by
 obtain⟨l1,l2,_⟩:=Reg.dZ h.sok hb
 have e:∀x y,at' (cv s b) x y=true->at' s x y=true/\at' b x y=false:=fun x y hx=>by
  rw[l2] at hx
  simpa using hx
 exact⟨⟨l1,qN h.sok hb h.ink,fun x y hx=>h.sub x y (e x y hx).1⟩,e⟩
theorem Sub.and {K:Int} {s all b:List ax} (h:Sub K s all) (hb:hZ b):Sub K (jm s b) all:=by
 obtain⟨l1,l2,_⟩:=Reg.oP h.sok hb
 have e:∀x y,at' (jm s b) x y=true->at' s x y=true:=fun x y hx=>by
  rw[l2] at hx
  simp only[Bool.and_eq_true] at hx
  exact hx.1
 exact⟨l1,zl l1 h.sok h.ink e,fun x y hx=>h.sub x y (e x y hx)⟩
end M
end Go.Proofs.YtpbkimanfahbgaaGreatDoor
namespace Go.AM
end Go.AM
namespace Go.Proofs.YtpbkimanfahbgaaGreatDoor
namespace M
open Go.AM Go.RowKit Go.Lib
open Reg (aB ax en Wt Piece l9 hZ cQ told a_ cx aQ through B0 x7 aw zk cv ru jm bX coreS P4)
def W2 (b:Break):List PV:=[i64 b.kind,i64 b.a,i64 b.b,i64 b.is,i64 b.need,i64 b.spot.1,i64 b.spot.2]
theorem vV (bs:List en) (ps:List Piece) (o:List Int×List Int):∀(l:List Reg.jn) (s:Reg.mX),(l.foldl (Reg.nt bs ps o) s).groups.length=s.groups.length
 | [],s=>rfl
 | x::l,s=>by
  rw[List.foldl_cons,vV bs ps o l]
  simp only[Reg.nt]
  split
  ·rw[List.length_set]
  rfl
theorem vW (a:Wt):(aw a).placed.groups.length=(Reg.gB a.bores (aw a).pieces.length (Reg.ba (Reg.dR (Reg.jq (aw a).pieces.length a.bores.length (aw a).cI)) ((aw a).pieces.length+a.bores.length))).2.length:=vV _ _ _ _ _
theorem MW {a:Wt} (gd:vG a) {nets:List ByteArray} (hn:nets.length=(aw a).placed.groups.length) {i:Nat} (hi:i < (aw a).pieces.length):∃(k:Nat) (s:ByteArray),(aw a).ofPiece[i]?=some (k:Int)/\(aw a).ofPiece.getD i 0=(k:Int)/\nets[k]?=some s/\er nets (k:Int)=s:=by
 obtain⟨k,g,h1,h2,_⟩:=gd.gr.a i hi
 have hk:=(List.getElem?_eq_some_iff.1 h2).1
 have h1:(aw a).ofPiece[i]?=some (k:Int):=h1
 rw[<-vW,<-hn] at hk
 obtain⟨s,hs⟩:=bh hk
 exact⟨k,s,h1,by rw[List.getD_eq_getElem?_getD,h1];rfl,hs,by rw[er,Int.toNat_natCast,List.getD_eq_getElem?_getD,hs];rfl⟩
theorem Yl (r:bR) (hg:iz r) (a:Wt) (gd:vG a) (nets:List ByteArray) (hn:nets.length=(aw a).placed.groups.length):aD C 35 [.pv (.ag (rl r)),.pv (.ip (kY a)),.pv (strs nets)] (.own 64 ((WD r (aw a) nets 0 (aw a).pieces).map W2)) []:=by
 have lp:=aN (aw a).pieces gw
 have few:=gd.few
 obtain⟨G,hG⟩:∃G,G=WD r (aw a) nets 0 (aw a).pieces:=⟨_,rfl⟩
 rw[<-hG]
 refine aT hC Tryz.func35 rfl rfl 108 rfl (by decide) (by kernel_rfl) fun _ _ _ _ _=>?_
 (refine yS<|yn Z<|aA zI<|aS<|ak<|yB Z<|yU<|yB Z<|yT<|au<|yS<|yP Z<|yP Z<|yP Z ?_;refine yP Z<|yP Z<|yP Z<|yT<|aZ ?_)
 refine aI (fun x:Nat×List Break=>x.2++WD r (aw a) nets x.1 ((aw a).pieces.drop x.1)=G/\x.2.length<=2000*x.1/\x.1<=(aw a).pieces.length) (fun x=>[(1,.p (.ip (kY a))),(2,.p (strs nets)),(3,.p (.ip (rl r))),(7,.ow 7),(18,.p (.sl ((aw a).pieces.map gw))),(19,.p (i64 (aw a).pieces.length)),(20,.p (i64 x.1))]) (fun x=>[(7,.row 64 (x.2.map W2))]) (fun x=>(aw a).pieces.length - x.1) (0,[]) _ ((aW.fa (by exact hC) _ 7 64 _ (by decide) (by exact rfl) (by exact rfl) (by decide)).trans (aW.gC (by exact hC) _ 3 (y:=.ip (rl r)) (fz:=[(3,.iP (rl r))]) (by exact⟨rfl,rfl⟩))) ⟨by rw[hG];rfl,by simp,Nat.zero_le _⟩ ⟨rfl,rfl,rfl,rfl,rfl,congrArg (fun m:Nat=>AV.p (i64 m)) lp,Z,Y⟩ ⟨Z,Y⟩ fun ⟨i,o⟩ hx t h=>?_
 obtain⟨x1,x2,x3⟩:=hx
 simp only at x1 x2 x3
 (refine yS<|yP Z<|yT<|au<|az Z ?_;refine aa (fun g1=>?_) (fun g1=>?_) <;> try simp only[zB] at g1)
 ·obtain⟨p,hp⟩:=bh (l:=(aw a).pieces) (i:=i) (by omega)
  have gp:=gd.pc p (List.mem_of_getElem? hp)
  obtain⟨gi,si,i1,i2,i3,i4⟩:=MW gd hn (i:=i) (by omega)
  rw[drop_at hp,WD] at x1
  refine aJ<|aj<|au<|aZ ?_
  refine fB ?_
  (refine aM<|yP Z<|yq Z<|aK zI ?_;refine⟨(gw p),(idx rfl hp),?_⟩)
  refine yk<|yP Z<|yn Z<|aA zI<|aS<|ak<|yA Z<|yq Z<|aA zI<|bd<|aF<|an<|yT<|ai ?_
  refine I2 9 (y:=.ip (gw p)) (fz:=[(9,.iP (gw p))]) (by exact hC) (by exact⟨rfl,rfl⟩) ?_
  (refine yS<|yP Z<|yq Z<|bg zI ?_;refine sI ?_)
  refine yk<|yA Z<|yT<|aZ ?_
  refine aI (fun y:Nat×List Break=>y.2++(WI r (aw a) nets i p y.1 ((aw a).pieces.drop y.1)++WD r (aw a) nets (i+1) ((aw a).pieces.drop (i+1)))=G/\y.2.length<=2000*i+y.1/\i+1<=y.1/\y.1<=(aw a).pieces.length) (fun y=>[(1,.p (.ip (kY a))),(2,.p (strs nets)),(3,.p (.ip (rl r))),(7,.ow 7),(8,.p (i64 i)),(9,.p (.ip (gw p))),(10,.p (i64 y.1)),(18,.p (.sl ((aw a).pieces.map gw))),(19,.p (i64 (aw a).pieces.length)),(20,.p (i64 i))]) (fun y=>[(7,.row 64 (y.2.map W2))]) (fun y=>(aw a).pieces.length - y.1) (i+1,o) _ (aW.refl _ _) ⟨x1,by simp only;omega,by simp only;omega,by simp only;omega⟩ ⟨Z,Z,Z,Z,Z,Z,Z,Z,Z,Z,Y⟩ ⟨Z,Y⟩ fun ⟨k,o'⟩ hy t h=>?_
  obtain⟨y1,y2,y3,y4⟩:=hy
  simp only at y1 y2 y3 y4
  (refine au<|au<|cH [] false HG rfl (by kernel_rfl)<|cG Z<|yD Z<|yD Z<|yD Z<|yD Z<|yD Z<|yD Z<|yD Z<|yD Z<|dg Z ?_;refine aa (fun g2=>?_) (fun g2=>?_) <;> try simp only[zB] at g2)
  ·rw[lp] at g2
   obtain⟨q,hq⟩:=bh (l:=(aw a).pieces) (i:=k) (by omega)
   have gq:=gd.pc q (List.mem_of_getElem? hq)
   obtain⟨gk,sk,k1,k2,k3,k4⟩:=MW gd hn (i:=k) (by omega)
   rw[drop_at hq,WI] at y1
   (refine bS<|c_ Z<|aA zI<|bB<|ae<|d1 Z<|d1 Z<|d1 Z<|d1 Z<|d2 Z<|c_ Z<|aK zI ?_;refine⟨(gw q),(idx rfl hq),?_⟩)
   (refine bB<|ae<|d1 Z<|d1 Z<|d1 Z<|d1 Z<|d1 Z<|yD Z<|cn<|fo Z<|aj<|az Z ?_;refine aa (fun g3=>?_) (fun g3=>?_) <;> try simp only[zB] at g3)
   ·have St:q.layer=p.layer:=g3
    rw[if_pos St,WO,i2,k2,i4,k4] at y1
    (refine aJ<|aj<|au<|aZ<|au<|cH [] false JH rfl (by kernel_rfl)<|cG Z<|yD Z<|yD Z<|yD Z<|yD Z<|yD Z<|dq Z<|aK zI ?_;refine⟨[i64 gi],(idx rfl i1),?_⟩)
    (refine bB<|ae<|yD Z<|yD Z<|yD Z<|yD Z<|yD Z<|yD Z<|dq Z<|aK zI ?_;refine⟨[i64 gk],(idx rfl k1),?_⟩)
    ((refine bB<|ae<|yD Z<|yD Z<|yD Z<|cn<|aq Z<|aq Z<|aq Z<|aq Z<|aq Z<|aq Z<|aq Z<|aq Z ?_;refine aq Z<|aq Z<|aq Z<|aq Z<|aq Z<|aq Z<|dW Z Z<|dW Z Z<|fo Z<|aj<|au<|yS<|yP Z<|yP Z ?_;refine yP Z<|yT<|az Z ?_);refine aa (fun g4=>?_) (fun g4=>?_) <;> try simp only[zB] at g4)
    ·rw[if_pos g4,List.nil_append] at y1
     (refine bT<|aY<|bU<|aj<|aM<|yP Z<|yq Z<|bg zI ?_;refine sI ?_)
     (refine yk<|yA Z<|yT<|ai ?_;refine⟨(k+1,o'),_,aW.refl _ _,?_⟩)
     exact⟨⟨y1,by simp only;omega,by simp only;omega,by simp only;omega⟩,by simp only;omega,⟨Z,Z,Z,Z,Z,Z,Z,Z,Z,Z,Y⟩,⟨Z,Y⟩⟩
    rw[if_neg g4] at y1
    have YW:=XD (told p.set) (told q.set) (fun r hr=>by
     obtain⟨a1,a2,a3,a4⟩:=Reg.Lj (Reg.dK gp.sok r hr) (Reg.kN gp.sok gp.ink r hr)
     exact⟨⟨by omega,by omega⟩,⟨by omega,by omega⟩,⟨by omega,by omega⟩,⟨by omega,by omega⟩⟩) (fun r hr=>by
     obtain⟨a1,a2,a3,a4⟩:=Reg.Lj (Reg.dK gq.sok r hr) (Reg.kN gq.sok gq.ink r hr)
     exact⟨⟨by omega,by omega⟩,⟨by omega,by omega⟩,⟨by omega,by omega⟩,⟨by omega,by omega⟩⟩) (by have:=gp.few;omega) (by have:=gq.few;omega)
    generalize x7 (told p.set) (told q.set)=Tg at *
    have b8:=Yf r hg si sk p.layer Tg.src.1 Tg.src.2
    generalize WN r si sk p.layer Tg.src.1 Tg.src.2=need at *
    ((refine aJ<|aj<|au<|cH [] false yz rfl (by kernel_rfl)<|ay Z<|ay Z<|ay Z<|ay Z<|ay Z<|ay Z<|ay Z<|ay Z<|ay Z<|ay Z ?_;refine cA Z Z<|cA Z Z<|cG Z<|yD Z<|yD Z<|yD Z<|yD Z<|yD Z<|yD Z<|yD Z<|dq Z<|aK zI ?_);refine⟨(gw q),(idx rfl hq),?_⟩)
    (refine bB<|ae<|yD Z<|yD Z<|dq Z<|aK zI ?_;refine⟨_,_,YW,?_⟩)
    ((refine bB<|ae<|dq Z<|aA zI<|jA Z Z<|ak<|dq Z<|aA zI<|iG Z<|aF<|an<|cn<|fo Z<|aj ?_;refine au<|cH [] false On rfl (by kernel_rfl)<|ay Z<|ay Z<|ay Z<|ay Z<|ay Z<|ay Z<|ay Z<|ay Z<|ay Z<|ay Z<|ay Z<|ay Z ?_;refine ay Z<|cA Z Z<|cG Z<|yD Z<|yD Z<|yD Z<|dq Z<|aK zI ?_);refine⟨[str si],(idx rfl i3),?_⟩)
    (refine bB<|ae<|yD Z<|yD Z<|yD Z<|dq Z<|aK zI ?_;refine⟨[str sk],(idx rfl k3),?_⟩)
    (refine bB<|ae<|yD Z<|yD Z<|yD Z<|yW Z<|yD Z<|dq Z<|aK zI ?_;refine⟨_,_,b8,?_⟩)
    ((refine bB<|ae<|yD Z<|cn<|aq Z<|aq Z<|aq Z<|aq Z<|aq Z<|aq Z<|aq Z<|aq Z<|aq Z<|aq Z ?_;refine aq Z<|aq Z<|aq Z<|aq Z<|dW Z Z<|fo Z<|aj<|yS<|yV Z<|yP Z<|yP Z<|yP Z<|yT<|az Z ?_);refine aa (fun g5=>?_) (fun g5=>?_) <;> try simp only[zB] at g5)
    ·rw[if_pos g5] at y1
     ((refine aM<|yq Z<|aA zI<|bd<|af<|yP Z<|yP Z<|yV Z<|yP Z<|yP Z<|yV Z<|yP Z<|yP Z<|yn Z ?_;refine aA zI<|aS<|af<|yn Z<|bg zI ?_);refine And.intro ⟨fun r hr=>by simp at hr;subst hr;rfl,by simp only[List.length_map,List.length_set,List.length_replicate,List.length_append,List.length_cons,List.length_nil];omega,by simp only[List.length_map,List.length_set,List.length_replicate,List.length_append,List.length_cons,List.length_nil];omega⟩ ?_)
     (refine aS<|aF<|af<|cD Z<|cr Z Z Z Z Z<|cL<|bp<|aj<|aM<|yP Z<|yq Z<|bg zI ?_;refine sI ?_)
     (refine yk<|yA Z<|yT<|ai ?_;refine⟨(k+1,o'++[⟨1,i,k,Tg.dist,need,Tg.src⟩]),_,aW.refl _ _,?_⟩)
     exact⟨⟨by rw[<-y1];simp only[List.append_assoc,List.singleton_append,List.cons_append,List.nil_append],by simp only[List.length_append,List.length_singleton];omega,by simp only;omega,by simp only;omega⟩,by simp only;omega,⟨Z,Z,Z,Z,Z,Z,Z,Z,Z,Z,Y⟩,⟨by rw[List.map_append];rfl,trivial⟩⟩
    rw[if_neg g5,List.nil_append] at y1
    (refine aJ<|bp<|aj<|aM<|yP Z<|yq Z<|bg zI ?_;refine sI ?_)
    (refine yk<|yA Z<|yT<|ai ?_;refine⟨(k+1,o'),_,aW.refl _ _,?_⟩)
    exact⟨⟨y1,by simp only;omega,by simp only;omega,by simp only;omega⟩,by simp only;omega,⟨Z,Z,Z,Z,Z,Z,Z,Z,Z,Z,Y⟩,⟨Z,Y⟩⟩
   have St:¬q.layer=p.layer:=g3
   rw[if_neg St,List.nil_append] at y1
   (refine bT<|aY<|aY<|bU<|bp<|aj<|aM<|yq Z<|bg zI ?_;refine sI ?_)
   (refine yk<|yP Z<|yT<|ai ?_;refine⟨(i+1,o'),_,aW.refl _ _,?_⟩)
   exact⟨⟨y1,by simp only;omega,by simp only;omega⟩,by simp only;omega,⟨Z,Z,Z,Z,Z,Z,Z,Y⟩,⟨Z,Y⟩⟩
  rw[lp] at g2
  rw[List.drop_of_length_le (show (aw a).pieces.length<=k by omega),WI,List.nil_append] at y1
  ((refine cB<|ae<|d0 Z<|d0 Z<|d0 Z<|d0 Z<|d0 Z<|d0 Z<|d0 Z<|d0 Z<|d0 Z<|d0 Z<|yD Z<|cn ?_;refine fo Z<|aj<|az Z<|cM<|bT<|aY<|aY<|bU<|bp<|aj<|aM<|yq Z<|bg zI ?_);refine sI ?_)
  (refine yk<|yP Z<|yT<|ai ?_;refine⟨(i+1,o'),_,aW.refl _ _,?_⟩)
  exact⟨⟨y1,by simp only;omega,by simp only;omega⟩,by simp only;omega,⟨Z,Z,Z,Z,Z,Z,Z,Y⟩,⟨Z,Y⟩⟩
 rw[List.drop_of_length_le (by omega),WD,List.append_nil] at x1
 have x1:o=G:=x1
 rw[<-x1]
 refine bT<|aY<|aY<|bU<|aj<|yS<|yq Z<|aA zI<|bd<|af<|cD Z<|cr Z Z Z Z Z<|yR zi ?_
 exact⟨Z,Z,Y⟩
structure sE (r:bR) (a:Wt) (nets:List ByteArray):Prop where
 rules:iz r
 faults:cK r=0
 open':cC a=0
 board:vG a
 len:nets.length=(aw a).placed.groups.length
theorem xP {r:bR} {a:Wt} {nets:List ByteArray} (g:kZ r a nets=0):sE r a nets:=by
 rw[kZ] at g
 by_cases g1:cK r≠0
 ·rw[if_pos g1] at g;exact absurd g g1
 rw[if_neg g1] at g
 by_cases g2:cC a≠0
 ·rw[if_pos g2] at g;exact absurd g g2
 rw[if_neg g2] at g
 by_cases g3:nets.length≠(aw a).placed.groups.length
 ·rw[if_pos g3] at g;cases g
 exact⟨vg (by simpa using g1),by simpa using g1,by simpa using g2,sC (by simpa using g2),by simpa using g3⟩
open Reg (dc Xg at' gB ba dR jq cI cE)
theorem IN {a:Wt} (h:cC a=0) {i:Nat} {p:Piece} (hp:(aw a).pieces[i]?=some p):sA a i=(told p.set,0):=by
 have hl:=(List.getElem?_eq_some_iff.1 hp).1
 have hw:Reg.within (i:Int) 0 (((aw a).pieces.length:Int) - 1)=true:=by
  simp only[Reg.within,Bool.and_eq_true,decide_eq_true_eq]
  omega
 rw[sA,if_pos h,if_pos hw,Int.toNat_natCast,List.getD_eq_getElem?_getD,hp]
 rfl
theorem BY (s:List ax) (hs:Reg.hZ s) (hn:s≠[]):aD C 26 [.pv (aG s)] (.p (.ag [i64 (ri s).1,i64 (ri s).2])) []:=by
 match s,hs,hn with
 | b::s,hs,_=>
  have hb:=hs.mem b List.mem_cons_self
  match hx:b.xs with
  | []=>exact absurd hx hb.ne
  | p::u=>
   have:=Ba b s p u hx
   rw[ri,hx]
   exact this
theorem Yb (r:bR) (hg:iz r) (a:Wt) (gd:vG a) (nets:List ByteArray) (hn:nets.length=(aw a).placed.groups.length):aD C 36 [.pv (.ag (rl r)),.pv (.ip (kY a)),.pv (strs nets)] (.p (.sl ((Wr r (aw a) nets 0 (aw a).pieces).map W2))) []:=by
 have lp:=aN (aw a).pieces gw
 have few:=gd.few
 obtain⟨G,hG⟩:∃G,G=Wr r (aw a) nets 0 (aw a).pieces:=⟨_,rfl⟩
 rw[<-hG]
 refine aT hC Tryz.func36 rfl rfl 56 rfl (by decide) (by kernel_rfl) fun _ _ _ _ _=>?_
 (refine yS<|yn Z<|aA zI<|aS<|ak<|yB Z<|yU<|yB Z<|yT<|au<|yS<|yP Z<|yP Z<|yP Z ?_;refine yP Z<|yP Z<|yP Z<|yT<|aZ ?_)
 refine aI (fun x:Nat×List Break=>x.2++Wr r (aw a) nets x.1 ((aw a).pieces.drop x.1)=G/\x.2.length<=x.1/\x.1<=(aw a).pieces.length) (fun x=>[(1,.p (.ip (kY a))),(2,.p (strs nets)),(3,.p (.ip (rl r))),(7,.ow 7),(16,.p (.sl ((aw a).pieces.map gw))),(17,.p (i64 (aw a).pieces.length)),(18,.p (i64 x.1))]) (fun x=>[(7,.row 64 (x.2.map W2))]) (fun x=>(aw a).pieces.length - x.1) (0,[]) _ ((aW.fa (by exact hC) _ 7 64 _ (by decide) (by exact rfl) (by exact rfl) (by decide)).trans (aW.gC (by exact hC) _ 3 (y:=.ip (rl r)) (fz:=[(3,.iP (rl r))]) (by exact⟨rfl,rfl⟩))) ⟨by rw[hG];rfl,by simp,Nat.zero_le _⟩ ⟨rfl,rfl,rfl,rfl,rfl,congrArg (fun m:Nat=>AV.p (i64 m)) lp,Z,Y⟩ ⟨Z,Y⟩ fun ⟨i,o⟩ hx t h=>?_
 obtain⟨x1,x2,x3⟩:=hx
 simp only at x1 x2 x3
 (refine yS<|yP Z<|yT<|au<|az Z ?_;refine aa (fun g1=>?_) (fun g1=>?_) <;> try simp only[zB] at g1)
 ·obtain⟨p,hp⟩:=bh (l:=(aw a).pieces) (i:=i) (by omega)
  have gp:=gd.pc p (List.mem_of_getElem? hp)
  obtain⟨gi,si,i1,i2,i3,i4⟩:=MW gd hn (i:=i) (by omega)
  rw[drop_at hp,Wr,WS,i2,i4] at x1
  obtain⟨w0,w1⟩:=Yi hg si
  have hw:=Ye r hg si
  generalize WA r si=need at *
  have hth:=XL p.set gp.sok gp.ink need w0 w1
  have zL:=(Reg.Yp gp.sok need).1
  have TP:=Ya p gp.sok gp.ink need w0 w1
  obtain⟨T,hT⟩:∃T,T=zk p.set need:=⟨_,rfl⟩
  have lT:=aN T hb
  generalize Wo (fun n=>decide (zk p.set n=[])) need=gr at *
  rw[<-hT] at x1 hth zL
  refine aJ<|aj<|au<|aZ ?_
  refine fB ?_
  (refine aM<|yP Z<|yq Z<|aK zI ?_;refine⟨(gw p),(idx rfl hp),?_⟩)
  refine yk<|yP Z<|yn Z<|aA zI<|aS<|ak<|yA Z<|yq Z<|aA zI<|bd<|aF<|an<|yT<|ai ?_
  refine I2 9 (y:=.ip (gw p)) (fz:=[(9,.iP (gw p))]) (by exact hC) (by exact⟨rfl,rfl⟩) ?_
  ((refine au<|cH [] false yz rfl (by kernel_rfl)<|ay Z<|ay Z<|ay Z<|ay Z<|ay Z<|ay Z<|ay Z<|ay Z<|ay Z<|ay Z<|ay Z<|cA Z Z ?_;refine cG Z<|yD Z<|yD Z<|yD Z<|yD Z<|yD Z<|yD Z<|yD Z<|dq Z<|aK zI ?_);refine⟨[i64 gi],(idx rfl i1),?_⟩)
  (refine bB<|ae<|yD Z<|dq Z<|aK zI ?_;refine⟨[str si],(idx rfl i3),?_⟩)
  (refine bB<|ae<|yD Z<|dq Z<|aK zI ?_;refine⟨_,_,hw,?_⟩)
  ((refine bB<|ae<|yD Z<|cn<|aq Z<|aq Z<|aq Z<|aq Z<|aq Z<|aq Z<|aq Z<|aq Z<|aq Z<|aq Z ?_;refine aq Z<|aq Z<|dW Z Z<|fo Z<|aj<|yS<|yP Z<|yP Z<|yP Z<|yn Z<|aK zI ?_);refine⟨_,_,hth,?_⟩)
  (refine b9 Z Z<|ae<|yA Z<|yT<|au<|yS<|yP Z<|yP Z<|yP Z<|yT<|az Z ?_;refine aa (fun g2=>?_) (fun g2=>?_) <;> try simp only[zB] at g2)
  ·have e:T=[]:=List.length_eq_zero_iff.1 (by omega)
   rw[if_pos e,List.nil_append] at x1
   (refine bT<|aY<|bU<|aj<|aM<|yq Z<|bg zI ?_;refine sI ?_)
   (refine yk<|yP Z<|yT<|ai ?_;refine⟨(i+1,o),_,aW.refl _ _,?_⟩)
   exact⟨⟨x1,by simp only;omega,by simp only;omega⟩,by simp only;omega,⟨Z,Z,Z,Z,Z,Z,Z,Y⟩,⟨Z,Y⟩⟩
  have e:T≠[]:=fun e=>g2 (by rw[e];rfl)
  rw[if_neg e] at x1
  (refine aJ<|aj<|yS<|yP Z<|yV Z<|yn Z<|aK zI ?_;refine⟨_,_,TP,?_⟩)
  ((refine b9 Z Z<|ae<|yA Z<|yT<|aM<|yq Z<|aA zI<|bd<|af<|yP Z<|yP Z<|yP Z<|yP Z<|yn Z ?_;refine aK zI ?_);refine⟨_,_,(BY T zL e),?_⟩)
  (refine b9 Z Z<|ae<|yP Z<|yn Z<|aA zI<|aS<|af<|yn Z<|bg zI ?_;refine And.intro ⟨fun r hr=>by simp at hr;subst hr;rfl,by simp only[List.length_map,List.length_set,List.length_replicate,List.length_append,List.length_cons,List.length_nil];omega,by simp only[List.length_map,List.length_set,List.length_replicate,List.length_append,List.length_cons,List.length_nil];omega⟩ ?_)
  (refine aS<|aF<|af<|cD Z<|cr Z Z Z Z Z<|cL<|bp<|aj<|aM<|yq Z<|bg zI ?_;refine sI ?_)
  (refine yk<|yP Z<|yT<|ai ?_;refine⟨(i+1,o++[⟨2,i,0,gr,need,ri T⟩]),_,aW.refl _ _,?_⟩)
  exact⟨⟨by rw[<-x1];simp only[List.append_assoc,List.singleton_append,List.cons_append,List.nil_append],by simp only[List.length_append,List.length_singleton];omega,by simp only;omega⟩,by simp only;omega,⟨Z,Z,Z,Z,Z,Z,Z,Y⟩,⟨by rw[List.map_append];rfl,trivial⟩⟩
 rw[List.drop_of_length_le (by omega),Wr,List.append_nil] at x1
 have x1:o=G:=x1
 (refine bT<|aY<|aY<|bU<|aj<|yS<|yq Z<|aA zI<|bd<|af<|cD Z<|cr Z Z Z Z Z<|yR zi ?_;refine And.intro ?_ trivial)
 rw[<-x1]
theorem Ym (r:bR) (hg:iz r) (a:Wt) (gd:vG a):aD C 38 [.pv (.ag (rl r)),.pv (.ip (kY a))] (.p (.sl ((Wy r.edge (a_ a.outline) 0 (aw a).pieces).map W2))) []:=by
 have lp:=aN (aw a).pieces gw
 have few:=gd.few
 have Sm:=hg.nums
 simp only[ke,di,Bool.and_eq_true,decide_eq_true_eq] at Sm
 obtain⟨G,hG⟩:∃G,G=Wy r.edge (a_ a.outline) 0 (aw a).pieces:=⟨_,rfl⟩
 rw[<-hG]
 have PX:=vI (mQ gd.art.out)
 obtain⟨so,ko⟩:=kS gd.art.out
 generalize a_ a.outline=O at *
 have TL:=Dr O so ko r.edge (by omega) (by omega)
 have PZ:=Reg.u4 so (l:=r.edge) (r:=r.edge) (d:=r.edge) (u:=r.edge) (by omega) (by omega) (by omega) (by omega)
 have TM:=zl PZ.1 so ko fun x y hx=>(PZ.2.1 x y).1 hx x y (by omega) (by omega) (by omega) (by omega)
 have TN:=PZ.1
 obtain⟨I,hI⟩:∃I,I=coreS O r.edge r.edge r.edge r.edge:=⟨_,rfl⟩
 rw[<-hI] at TL TN TM
 refine aT hC Tryz.func38 rfl rfl 55 rfl (by decide) (by kernel_rfl) fun _ _ _ _ _=>?_
 refine yS<|yn Z<|aA zI<|aS<|ak<|yB Z<|yU<|yB Z<|yT ?_
 refine fB ?_
 (refine aM<|yP Z<|yP Z<|yP Z<|yP Z<|yP Z<|yn Z<|aK zI ?_;refine⟨_,_,PX,?_⟩)
 refine b9 Z Z<|ae<|yn Z<|aA zI<|aS<|ak<|yq Z<|aA zI<|bd<|aF<|an<|yT<|ai ?_
 refine I2 6 (y:=.ip [aG O]) (fz:=[(6,.iP [aG O])]) (by exact hC) (by exact⟨rfl,rfl⟩) ?_
 (refine yS<|yP Z<|yV Z<|yP Z<|yn Z<|aK zI ?_;refine⟨_,_,TL,?_⟩)
 refine b9 Z Z<|ae<|yA Z<|yT<|au<|yS<|yP Z<|yP Z<|yP Z<|yP Z<|yP Z<|yP Z<|yT<|aZ ?_
 refine aI (fun x:Nat×List Break=>x.2++Wy r.edge O x.1 ((aw a).pieces.drop x.1)=G/\x.2.length<=x.1/\x.1<=(aw a).pieces.length) (fun x=>[(1,.p (.ip (kY a))),(2,.p (.ip (rl r))),(5,.ow 5),(6,.p (.ip [aG O])),(7,.p (aG I)),(25,.p (.sl ((aw a).pieces.map gw))),(26,.p (i64 (aw a).pieces.length)),(27,.p (i64 x.1))]) (fun x=>[(5,.row 64 (x.2.map W2))]) (fun x=>(aw a).pieces.length - x.1) (0,[]) _ ((aW.fa (by exact hC) _ 5 64 _ (by decide) (by exact rfl) (by exact rfl) (by decide)).trans (aW.gC (by exact hC) _ 2 (y:=.ip (rl r)) (fz:=[(2,.iP (rl r))]) (by exact⟨rfl,rfl⟩))) ⟨by rw[hG];rfl,by simp,Nat.zero_le _⟩ ⟨rfl,rfl,rfl,rfl,rfl,rfl,congrArg (fun m:Nat=>AV.p (i64 m)) lp,Z,Y⟩ ⟨Z,Y⟩ fun ⟨i,o⟩ hx t h=>?_
 obtain⟨x1,x2,x3⟩:=hx
 simp only at x1 x2 x3
 (refine yS<|yP Z<|yT<|au<|az Z ?_;refine aa (fun g1=>?_) (fun g1=>?_) <;> try simp only[zB] at g1)
 ·obtain⟨p,hp⟩:=bh (l:=(aw a).pieces) (i:=i) (by omega)
  have gp:=gd.pc p (List.mem_of_getElem? hp)
  rw[drop_at hp,Wy,Xj,<-hI] at x1
  have hle:=fQ p.set I gp.sok TN (gp.ink.up (by omega)) (TM.up (by omega))
  have Zu:=(Reg.dZ gp.sok TN).1
  have TP:=Yj p O gp.sok gp.ink so ko r.edge (by omega) (by omega)
  generalize Wo (fun n=>decide (cv p.set (coreS O n n n n)=[])) r.edge=gr at *
  generalize cv p.set I=T at *
  have lT:=aN T hb
  refine aJ<|aj<|au<|aZ ?_
  refine fB ?_
  (refine aM<|yP Z<|yq Z<|aK zI ?_;refine⟨(gw p),(idx rfl hp),?_⟩)
  refine yk<|yP Z<|yn Z<|aA zI<|aS<|ak<|yA Z<|yq Z<|aA zI<|bd<|aF<|an<|yT<|ai ?_
  refine I2 9 (y:=.ip (gw p)) (fz:=[(9,.iP (gw p))]) (by exact hC) (by exact⟨rfl,rfl⟩) ?_
  (refine yS<|yP Z<|yP Z<|yP Z<|yn Z<|aK zI ?_;refine⟨_,_,hle,?_⟩)
  (refine b9 Z Z<|ae<|yA Z<|yT<|au<|yS<|yP Z<|yP Z<|yP Z<|yT<|az Z ?_;refine aa (fun g2=>?_) (fun g2=>?_) <;> try simp only[zB] at g2)
  ·have e:T=[]:=List.length_eq_zero_iff.1 (by omega)
   rw[if_pos e,List.nil_append] at x1
   (refine bT<|aY<|bU<|aj<|aM<|yq Z<|bg zI ?_;refine sI ?_)
   (refine yk<|yP Z<|yT<|ai ?_;refine⟨(i+1,o),_,aW.refl _ _,?_⟩)
   exact⟨⟨x1,by simp only;omega,by simp only;omega⟩,by simp only;omega,⟨Z,Z,Z,Z,Z,Z,Z,Z,Y⟩,⟨Z,Y⟩⟩
  have e:T≠[]:=fun e=>g2 (by rw[e];rfl)
  rw[if_neg e] at x1
  (refine aJ<|aj<|yS<|yP Z<|yP Z<|yV Z<|yn Z<|aK zI ?_;refine⟨_,_,TP,?_⟩)
  ((refine b9 Z Z<|ae<|yA Z<|yT<|cH [] true yy rfl (by kernel_rfl)<|ay Z<|ay Z<|ay Z<|ay Z<|ay Z<|ay Z<|cA Z Z<|ay Z<|cA Z Z ?_;refine cA Z Z<|cG Z<|dq Z<|aA zI<|bB<|af<|yD Z<|yD Z<|yD Z<|yD Z<|yD Z<|dq Z<|aK zI ?_);refine⟨_,_,(BY T Zu e),?_⟩)
  (refine bB<|ae<|yD Z<|dq Z<|aA zI<|jA Z Z<|af<|dq Z<|bg zI ?_;refine And.intro ⟨fun r hr=>by simp at hr;subst hr;rfl,by simp only[List.length_map,List.length_set,List.length_replicate,List.length_append,List.length_cons,List.length_nil];omega,by simp only[List.length_map,List.length_set,List.length_replicate,List.length_append,List.length_cons,List.length_nil];omega⟩ ?_)
  ((refine hD Z Z Z<|fM<|g_<|af<|dq Z<|aA zI<|bB<|af<|cn<|aq Z<|aq Z<|aq Z<|aq Z<|aq Z ?_;refine aq Z<|aq Z<|aq Z<|aq Z<|aq Z<|Fp Z Z Z Z Z<|fo Z<|bp<|aj<|aM<|yq Z<|bg zI ?_);refine sI ?_)
  (refine yk<|yP Z<|yT<|ai ?_;refine⟨(i+1,o++[⟨4,i,0,gr,r.edge,ri T⟩]),_,aW.refl _ _,?_⟩)
  exact⟨⟨by rw[<-x1];simp only[List.append_assoc,List.singleton_append,List.cons_append,List.nil_append],by simp only[List.length_append,List.length_singleton];omega,by simp only;omega⟩,by simp only;omega,⟨Z,Z,Z,Z,Z,Z,Z,Z,Y⟩,⟨by rw[List.map_append];rfl,trivial⟩⟩
 rw[List.drop_of_length_le (by omega),Wy,List.append_nil] at x1
 have x1:o=G:=x1
 (refine bT<|aY<|aY<|bU<|aj<|yS<|yq Z<|aA zI<|bd<|af<|cD Z<|cr Z Z Z Z Z<|yR zi ?_;refine And.intro ?_ trivial)
 rw[<-x1]
theorem Yx (l:List Break):aD C 39 [.pv (.sl (l.map W2))] (.tu [.sl ((Xh l).1.map W2),i64 (Xh l).2]) []:=by
 have ll:=aN l W2
 refine aT hC Tryz.func39 rfl rfl 8 rfl (by decide) (by kernel_rfl) fun _ _ _ _ _=>?_
 (refine yS<|yB Z<|yA Z<|yT<|au<|yS<|yP Z<|yP Z<|yP Z<|yT<|az Z ?_;refine aa (fun g=>?_) (fun g=>?_) <;> try simp only[zB] at g)
 ·rw[ll] at g
  rw[Xh,if_pos (by omega)]
  (refine yS<|yB Z<|yA Z<|yT<|bP<|aX<|bQ zi ?_;refine And.intro ?_ trivial)
  rfl
 rw[ll] at g
 rw[Xh,if_neg (by omega)]
 (refine aJ<|aj<|yS<|yP Z<|yA Z<|yA Z<|yR zi ?_;refine And.intro ?_ trivial)
 rfl
end M
end Go.Proofs.YtpbkimanfahbgaaGreatDoor
