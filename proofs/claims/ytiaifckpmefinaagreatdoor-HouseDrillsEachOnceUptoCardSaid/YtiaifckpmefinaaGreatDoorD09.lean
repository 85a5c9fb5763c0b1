/- Part 9 of 11 of the proof of HouseDrillsEachOnce (the names are shortened by a program: the size of a claim is limited). -/
import Derived.Test.YtiaifckpmefinaaGreatDoorD08
import Derived.StillTailTactics
set_option linter.unusedVariables false
set_option linter.unusedSimpArgs false
set_option maxRecDepth 100000
set_option maxHeartbeats 8000000
namespace Go.Proofs.YtiaifckpmefinaaGreatDoor
namespace M
open Go.AM Go.RowKit Go.Lib Go.Sort
open aK (lexLt)
def cr (p:Int×Int):List Value:=[.int .i64 (cl p.1),.int .i64 (cl p.2)]
def Bs (p:Int×Int):Prop:=(-4611686018427387904<=p.1/\p.1<=4611686018427387903)/\(-4611686018427387904<=p.2/\p.2<=4611686018427387903)
theorem EL {p:Int×Int} (h:Bs p):(cr p).map PV.im=sp p:=by
 simp only[cr,mJ h.1,mJ h.2]
 rfl
theorem qp {l:List (Int×Int)} (h:∀r∈l,Bs r):aB (l.map cr)=l.map sp:=by
 unfold aB
 rw[List.map_map]
 exact List.map_congr_left fun r hr=>EL (h r hr)
theorem mj {l:List (Int×Int)}:∀r∈l.map cr,r.length=2:=by
 intro r hr
 obtain⟨x,_,rfl⟩:=List.mem_map.1 hr
 rfl
theorem xQ (d:Array (Int×Int)):flatK cr 2 d=(d.toList.map cr).flatten.toArray:=by
 apply Array.ext_getElem?
 intro q
 have hlen:(d.toList.map cr).flatten.length=d.size*2:=by rw[fF (k:=2) mj];simp
 by_cases hq:q < d.size*2
 ·have h1:q / 2 < d.size:=by omega
  have h2:q % 2 < 2:=Nat.mod_lt _ (by omega)
  have e:q / 2*2+q % 2=q:=by omega
  have hg:=get_flatK cr 2 d q hq
  have hsz:(flatK cr 2 d).size=d.size*2:=by simp
  rw[Array.getElem?_eq_getElem (by omega),<-getElem!_pos (flatK cr 2 d) q (by omega),hg]
  have hr:(d.toList.map cr)[q / 2]?=some (cr d[q / 2]!):=by
   rw[List.getElem?_map,Array.getElem?_toList,Array.getElem?_eq_getElem h1,Option.map_some,getElem!_pos d _ h1]
  have hv:(cr d[q / 2]!)[q % 2]?=some ((cr d[q / 2]!)[q % 2]!):=by
   have h3:q % 2 < (cr d[q / 2]!).length:=h2
   rw[List.getElem?_eq_getElem h3,getElem!_pos (cr d[q / 2]!) (q % 2) h3]
  have:=qS (k:=2) mj hr hv
  rw[e] at this
  simpa using this.symm
 rw[Array.getElem?_eq_none (by simp;omega),Array.getElem?_eq_none (by simp only[List.size_toArray];omega)]
def yn (a b:Int×Int):Int:=if cl a.1=cl b.1 then cl a.2 - cl b.2 else cl a.1 - cl b.1
def pH (x y:Int):Int:=if x < y then -1 else if y < x then 1 else 0
def Gt (a b:Int):Int:=if a=0 then b else a
def zY (a b:Int×Int):Int:=Gt (pH (cl a.2 - cl a.1) (cl b.2 - cl b.1)) (pH (cl a.1) (cl b.1))
theorem Jd (a b:Int×Int):ltOf yn a b=decide (cl a.1 < cl b.1\/cl a.1=cl b.1/\cl a.2 < cl b.2):=by
 unfold ltOf yn
 congr 1
 apply propext
 split <;> omega
theorem Je (a b:Int×Int):ltOf zY a b=decide (cl a.2 - cl a.1 < cl b.2 - cl b.1\/cl a.2 - cl a.1=cl b.2 - cl b.1/\cl a.1 < cl b.1):=by
 unfold ltOf zY Gt pH
 congr 1
 apply propext
 repeat' split
 all_goals omega
theorem EM:SWO (ltOf yn) where
 irrefl x:=by rw[Jd];simp
 trans x y z h1 h2:=by rw[Jd,decide_eq_true_eq] at *;omega
 ntrans x y z h1 h2:=by rw[Jd,decide_eq_false_iff_not] at *;omega
theorem CC:SWO (ltOf zY) where
 irrefl x:=by rw[Je];simp
 trans x y z h1 h2:=by rw[Je,decide_eq_true_eq] at *;omega
 ntrans x y z h1 h2:=by rw[Je,decide_eq_false_iff_not] at *;omega
def fH (cf:Int×Int->Int×Int->Int) (l:List (Int×Int)):List (Int×Int):=(pdq (ltOf cf) l.toArray 0 l.toArray.size (Lib.bitLen l.toArray.size) true true).toList
theorem de (cf:Int×Int->Int×Int->Int) (hO:SWO (ltOf cf)) (l:List (Int×Int)):(fH cf l).Perm l/\(fH cf l).Pairwise fun a b=>ltOf cf b a=false:=by
 obtain⟨h1,h2⟩:=pdq_sorts (ltOf cf) hO l.toArray 0 l.toArray.size (Lib.bitLen l.toArray.size) true true (Nat.zero_le _) (Nat.le_refl _) (Or.inl rfl)
 obtain⟨p1,_,p3⟩:=h1
 have hp:(fH cf l).Perm l:=by
  have e1:∀d:Array (Int×Int),d.size=l.toArray.size->(d.extract 0 l.toArray.size).toList=d.toList:=fun d h=>by rw[<-h];simp
  rw[e1 _ p1,e1 _ rfl] at p3
  unfold fH
  simpa using p3
 refine⟨hp,?_⟩
 rw[List.pairwise_iff_getElem]
 intro i j hi hj AH
 have hs:(fH cf l).length=l.toArray.size:=by rw[hp.length_eq];simp
 have:=h2 i j (Nat.zero_le _) AH (by omega)
 unfold fH at hi hj ⊢
 simp only[Array.length_toList] at hi hj
 rw[getElem!_pos _ j hj,getElem!_pos _ i hi] at this
 simpa using this
theorem sG (cf:Int×Int->Int×Int->Int) (hO:SWO (ltOf cf)) (g:Nat) (eg:∀args w,(callFunc g args).run Tryz.prog w=.ok (.enter g args) w)
  (hcl:∀(x y:Int×Int) (W:World),Calls Tryz.prog g #[.agg (cr x).toArray,.agg (cr y).toArray] W fun e w'=>e=.returned (.int .i64 (cf x y))/\∃q El,w'=grow (W.drewN q) El)
  (l:List (Int×Int)) (hl:∀r∈l,Bs r) (hN:l.length < 4611686018427387904):af C 78 [.row 93 (l.map sp),.pv (.im (.func (.func g) #[] #[]))] (.tu []) [.row ((fH cf l).map sp)]:=by
 obtain⟨hp,_⟩:=de cf hO l
 have OF:∀r∈fH cf l,Bs r:=fun r hr=>hl r (hp.mem_iff.1 hr)
 have:=na hC (f:=78) 93 _ rfl (by decide) [.func (.func g) #[] #[]] (l.map cr) ((fH cf l).map cr) mj mj (by rw[List.length_map,List.length_map,hp.length_eq])
  (fun r hr v hv=>by
   obtain⟨x,_,rfl⟩:=List.mem_map.1 hr
   simp only[cr,List.mem_cons,List.not_mem_nil,or_false] at hv
   rcases hv with rfl | rfl <;> rfl)
  ⟨_,Tryz.func78,rfl,rfl⟩
  (fun _ w=>AnyF.slices_SortFunc_none Tryz.laysSortSpan none 0 (.func (.func g) #[] #[]) w)
  (fun S w br cap hE hblk _ hcell=>by
   have hH:HoldsK cr 2 w br 0 l.toArray:=by
    unfold HoldsK
    intro j hj
    rw[xQ] at hj ⊢
    simp only[List.size_toArray] at hj
    have hv:(l.map cr).flatten[j]?=some ((l.map cr).flatten[j]'hj):=List.getElem?_eq_getElem hj
    obtain⟨h1,h2⟩:=hcell j _ hv
    rw[Nat.zero_add]
    refine⟨?_,h2⟩
    rw[h1]
    congr 1
    rw[getElem!_pos _ j (by simpa using hj)]
    simp
   have hc:=AnyQ.slices_SortFunc_eq Tryz.laysSortSpan 2 (fun w=>(hC.eK 93 _ rfl).isAgg w) (fun w=>(hC.eK 93 _ rfl).sizeOf w) cr (fun _=>rfl) (fun x v hv=>by
    simp only[cr,List.mem_cons,List.not_mem_nil,or_false] at hv
    rcases hv with rfl | rfl <;> rfl) cf hO g #[] br 0 cap l.toArray w eg (fun _ _ _ _ x y=>hcl x y _) hH hblk (by simpa using hN)
   have e:l.toArray.size=(l.map cr).length:=by simp
   rw[e] at hc
   refine hc.mono fun e' w' ⟨h1,n,os,h2⟩=>⟨h1,n,os,?_⟩
   rw[h2]
   unfold sortWorldK putRowK kX
   rw[xQ,<-e]
   rfl)
 rw[qp hl,qp OF] at this
 exact this
theorem EN (x y:Int×Int) (W:World):Calls Tryz.prog 79 #[.agg (cr x).toArray,.agg (cr y).toArray] W fun e w'=>e=.returned (.int .i64 (yn x y))/\∃q El,w'=grow (W.drewN q) El:=by
 have h1:=kq x.1
 have h2:=kq y.1
 have h3:=kq x.2
 have h4:=kq y.2
 unfold cr yn
 generalize cl x.1=a1 at *
 generalize cl x.2=a2 at *
 generalize cl y.1=b1 at *
 generalize cl y.2=b2 at *
 by_cases h:a1=b1
 ·subst h
  rw[if_pos rfl]
  go_enter Tryz.func79,Tryz.ntmps79
  go_wp2
  go_ret
  exact⟨rfl,0,_,by rw[alloc_eq_grow,alloc_eq_grow,grow_grow];rfl⟩
 rw[if_neg h]
 go_enter Tryz.func79,Tryz.ntmps79
 go_wp2
 go_ret
 exact⟨rfl,0,_,by rw[alloc_eq_grow,alloc_eq_grow,grow_grow];rfl⟩
theorem OR (n:Int) (W:World):Calls Tryz.prog 170 #[.int .i64 n] W fun e w'=>e=.returned (.bool false)/\w'=W:=by
 go_enter Tryz.func170,Tryz.ntmps170
 go_wp2
 go_ret
 exact⟨by simp,rfl⟩
theorem LF (a b:Int) (W:World):Calls Tryz.prog 164 #[.int .i64 a,.int .i64 b] W fun e w'=>e=.returned (.int .i64 (pH a b))/\w'=W:=by
 go_enter Tryz.func164,Tryz.ntmps164
 go_wp2_with (go_at_call 170;refine (OR _ _).mono ?_;rintro e w' ⟨rfl,hw⟩;rw[hw])
 all_goals (go_ret;refine⟨?_,rfl⟩;unfold pH;(repeat' split) <;> first | rfl | (exfalso;omega))
theorem Gu (W:World) (br:Nat) (a b:Int) (h0:W.cell? ⟨br,0,none⟩=some (.int .i64 a)) (h1:W.cell? ⟨br,1,none⟩=some (.int .i64 b)) (c:Nat):Calls Tryz.prog 163 #[.slice (some ⟨br,0,none⟩) 2 c] W fun e w'=>e=.returned (.int .i64 (Gt a b))/\w'=W:=by
 unfold Gt
 go_enter Tryz.func163,Tryz.ntmps163
 go_wp2
 go_loop [8] (fun i=>∃k:Nat,k<=2/\i=.int .i64 k/\(0 < k->a=0)/\(1 < k->b=0)) (fun i=>2 - (intOf i).toNat)
 case atStart=>exact⟨0,by omega,rfl,fun h=>by omega,fun h=>by omega⟩
 case round=>
  obtain⟨k,hk,rfl,k1,k2⟩:=hrel
  rcases (show k=0\/k=1\/k=2 by omega) with rfl | rfl | rfl
  ·by_cases e:a=0
   ·subst e
    go_wp2
    go_round
    case rel=>exact⟨1,by omega,by go_num,fun _=>by trivial,fun h=>by omega⟩
    case measure=>simp[intOf]
   go_wp2
   go_ret
   exact⟨by first | rfl | simp[e],rfl⟩
  ·have e:=k1 (by omega)
   subst e
   by_cases e:b=0
   ·subst e
    go_wp2
    go_round
    case rel=>exact⟨2,by omega,by go_num,fun _=>by trivial,fun _=>by trivial⟩
    case measure=>simp[intOf]
   go_wp2
   go_ret
   exact⟨by first | rfl | simp[e],rfl⟩
  have e:=k1 (by omega)
  have e2:=k2 (by omega)
  subst e
  subst e2
  go_wp2
  go_ret
  exact⟨rfl,rfl⟩
theorem EO (x y:Int×Int) (W:World):Calls Tryz.prog 238 #[.agg (cr x).toArray,.agg (cr y).toArray] W fun e w'=>e=.returned (.int .i64 (zY x y))/\∃q El,w'=grow (W.drewN q) El:=by
 have h1:=kq x.1
 have h2:=kq y.1
 have h3:=kq x.2
 have h4:=kq y.2
 unfold cr zY
 generalize cl x.1=a1 at *
 generalize cl x.2=a2 at *
 generalize cl y.1=b1 at *
 generalize cl y.2=b2 at *
 have w1:IntKind.i64.wrap (a2 - a1)=a2 - a1:=IntWalk.i64_in _ ⟨by omega,by omega⟩
 have w2:IntKind.i64.wrap (b2 - b1)=b2 - b1:=IntWalk.i64_in _ ⟨by omega,by omega⟩
 go_enter Tryz.func238,Tryz.ntmps238
 obtain⟨W3,Hr⟩:∃w3,w3=({ ((W.alloc (Obj.cells #[Value.int IntKind.i64 a1,Value.int IntKind.i64 a2] 93)).alloc (Obj.cells #[Value.int IntKind.i64 b1,Value.int IntKind.i64 b2] 93)) with drawn:=((W.alloc (Obj.cells #[Value.int IntKind.i64 a1,Value.int IntKind.i64 a2] 93)).alloc (Obj.cells #[Value.int IntKind.i64 b1,Value.int IntKind.i64 b2] 93)).drawn+1 }:World):=⟨_,rfl⟩
 have hs:W3.heap.size=W.heap.size+2:=by rw[Hr];exact (Array.size_push ..).trans (congrArg (·+1) (Array.size_push ..))
 have c0:W3.cell? ⟨W.heap.size,0,none⟩=some (.int .i64 a1):=by
  rw[Hr]
  exact (World.cell?_alloc_past (w:=W.alloc _) _ _ _ (by rw[show (W.alloc _).heap.size=W.heap.size+1 from Array.size_push ..];omega)).trans (World.cell?_alloc_at _ _ _ _ rfl)
 have c1:W3.cell? ⟨W.heap.size,1,none⟩=some (.int .i64 a2):=by
  rw[Hr]
  exact (World.cell?_alloc_past (w:=W.alloc _) _ _ _ (by rw[show (W.alloc _).heap.size=W.heap.size+1 from Array.size_push ..];omega)).trans (World.cell?_alloc_at _ _ _ _ rfl)
 have c2:W3.cell? ⟨W.heap.size+1,0,none⟩=some (.int .i64 b1):=by
  rw[Hr]
  exact World.cell?_alloc_at (w:=W.alloc _) _ _ _ _ (Array.size_push ..).symm
 have c3:W3.cell? ⟨W.heap.size+1,1,none⟩=some (.int .i64 b2):=by
  rw[Hr]
  exact World.cell?_alloc_at (w:=W.alloc _) _ _ _ _ (Array.size_push ..).symm
 have hg:W3=grow (W.drewN 1) #[Obj.cells #[Value.int IntKind.i64 a1,Value.int IntKind.i64 a2] 93,Obj.cells #[Value.int IntKind.i64 b1,Value.int IntKind.i64 b2] 93]:=by
  rw[Hr,alloc_eq_grow,alloc_eq_grow,grow_grow]
  rfl
 have HG:=Lib.hid hg
 clear hg
 go_wp2_with fail
 refine wp_region_still_tail 16 (by kernel_rfl) (by kernel_rfl) ?_
 rw[<-Hr]
 clear Hr
 simp only[List.take_succ_cons,List.take_zero,List.drop_succ_cons,List.drop_zero]
 repeat still_step
 still_call (LF (a2 - a1) (b2 - b1) W3)
 repeat still_step
 still_call (LF a1 b1 W3)
 refine wpStill_nil ?_
 go_wp2_with (go_at_call 163;refine (Gu _ _ _ _ (World.cell?_alloc_at _ _ _ _ (by omega)) (World.cell?_alloc_at _ _ _ _ (by omega)) _).mono ?_;rintro e w' ⟨rfl,hw⟩;rw[hw])
 go_ret
 have hg:=HG.out
 exact⟨rfl,1,_,by rw[hg,alloc_eq_grow,grow_grow]⟩
theorem vW (l:List (Int×Int)) (hl:∀r∈l,Bs r) (hN:l.length < 4611686018427387904):af C 78 [.row 93 (l.map sp),.pv (.im (.func (.func 79) #[] #[]))] (.tu []) [.row ((fH yn l).map sp)]:=
 sG yn EM _ (enters_of Tryz.func79 (by kernel_rfl) rfl) EN l hl hN
theorem vX (l:List (Int×Int)) (hl:∀r∈l,Bs r) (hN:l.length < 4611686018427387904):af C 78 [.row 93 (l.map sp),.pv (.im (.func (.func 238) #[] #[]))] (.tu []) [.row ((fH zY l).map sp)]:=
 sG zY CC _ (enters_of Tryz.func238 (by kernel_rfl) rfl) EO l hl hN
open aK (aG bB fa)
def EP:ByteArray:=⟨#[108,105,115,116]⟩
def vY:ByteArray:=⟨#[115,116,97,99,107]⟩
def Bm:ByteArray:=⟨#[112,108,111,116,115]⟩
def um:ByteArray:=⟨#[111,117,116,108,105,110,101]⟩
def gT:ByteArray:=⟨#[98,111,114,101,115]⟩
def xR:ByteArray:=⟨#[112,108,97,99,101,115]⟩
def ER:ByteArray:=⟨#[102,101,101,116]⟩
def Bn:ByteArray:=⟨#[114,117,108,101,115]⟩
def oH (k:Nat):ByteArray:=(⟨#[112,108,111,116,32]⟩:ByteArray)++Lx (Lib.itoa k)
def jd:List fG->Nat->Int×ByteArray
 | [],_=>(0,aX)
 | p::r,k=>if bS p=0 then jd r (k+1) else (bS p,oH k)
def oI (o:Order):Int×ByteArray:=
 if bS o.outline≠0 then (bS o.outline,um) else
 if 500 < o.bores.length then (2,gT) else
 if dz o.bodies o.places≠0 then (dz o.bodies o.places,xR) else
 if fu o.types o.feet≠0 then (fu o.types o.feet,ER) else
 if fc o.rules≠0 then (fc o.rules,Bn) else (0,aX)
def dD (o:Order):Int×ByteArray:=
 if fq o.types o.list≠0 then (fq o.types o.list,EP) else
 if bg o.mats o.stack≠0 then (bg o.mats o.stack,vY) else
 if o.plots.length≠bX o.stack then (3,Bm) else
 if (jd o.plots 0).1≠0 then jd o.plots 0 else oI o
theorem xS {l:List fG} {i:Nat} {p:fG} (h:l[i]?=some p):jd (l.drop i) i=if bS p=0 then jd (l.drop (i+1)) (i+1) else (bS p,oH i):=by
 have e:l.drop i=p::l.drop (i+1):=by
  obtain⟨hi,rfl⟩:=List.getElem?_eq_some_iff.1 h
  exact List.drop_eq_getElem_cons hi
 rw[e,jd]
def Jf (x:Int×ByteArray):List PV:=[i64 x.1,str x.2]
theorem iC {s:ByteArray} {f:Int} (h:f≠0):CA s f=[i64 f,str s]:=by rw[CA,if_neg h]
theorem qq (o:Order) (ho:iU o):af C 18 [.pv (.ag (sR o))] (.p (.ag (Jf (dD o)))) []:=by
 refine ah hC Tryz.func18 rfl rfl 85 rfl (by decide) (by kernel_rfl) fun _ _ _ _ _=>?_
 have lm:=ai o.plots fun p=>du p
 have lb:=ai o.bores oD
 have J3:=lu o.stack
 have Gv:=ho.stack.1
 have nv:=ho.plots.1
 (repeat refine yY Z ?_);refine zX zi ⟨_,_,(qG o.types o.list ho.types ho.list),?_⟩
 (repeat refine yY Z ?_);refine iF Z (fun g1=>?_) (fun g1=>?_)
 ·have g1:fq o.types o.list≠0:=by simpa using g1
  have kD:=ed EP (fq o.types o.list)
  rw[iC g1] at kD
  (repeat refine yY Z ?_);refine zX zi ⟨_,_,kD,?_⟩
  (repeat refine yY Z ?_);refine aa zi (And.intro ?_ trivial)
  rw[dD,if_pos g1];rfl
 have g1:fq o.types o.list=0:=by simpa using g1
 have ht:cm o.types=0:=(dZ g1).1
 (repeat refine yY Z ?_);refine zX zi ⟨_,_,(ju o.mats o.stack ho.mats ho.stack),?_⟩
 (repeat refine yY Z ?_);refine iF Z (fun g2=>?_) (fun g2=>?_)
 ·have g2:bg o.mats o.stack≠0:=by simpa using g2
  have kD:=ed vY (bg o.mats o.stack)
  rw[iC g2] at kD
  (repeat refine yY Z ?_);refine zX zi ⟨_,_,kD,?_⟩
  (repeat refine yY Z ?_);refine aa zi (And.intro ?_ trivial)
  rw[dD,if_neg (fun h=>h g1),if_pos g2];rfl
 have g2:bg o.mats o.stack=0:=by simpa using g2
 (repeat refine yY Z ?_);refine c_ [] false Oh rfl (by kernel_rfl) ?_;(repeat refine yY Z ?_);refine zX zi ⟨_,_,(mN o Gv),?_⟩
 (repeat refine yY Z ?_);refine iF Z (fun g3=>?_) (fun g3=>?_)
 ·have g3:o.plots.length≠bX o.stack:=fun e=>g3 (by show (((o.plots.map fun p=>du p).length:Nat):Int)=(bX o.stack:Nat);omega)
  have kD:=ed Bm 3
  rw[iC (by decide)] at kD
  (repeat refine yY Z ?_);refine zX zi ⟨_,_,kD,?_⟩
  (repeat refine yY Z ?_);refine aa zi (And.intro ?_ trivial)
  rw[dD,if_neg (fun h=>h g1),if_neg (fun h=>h g2),if_pos g3];rfl
 have g3:(((o.plots.map fun p=>du p).length:Nat):Int)=(bX o.stack:Nat):=by simpa using g3
 have g3:¬o.plots.length≠bX o.stack:=fun h=>h (by omega)
 (repeat refine yY Z ?_)
 refine ak (fun i:Nat=>i<=o.plots.length/\jd o.plots 0=jd (o.plots.drop i) i) (fun i=>[(1,.bx 1 0),(2,.bx 2 0),(37,.p (.sl (o.plots.map fun p=>du p))),(38,.p (i64 o.plots.length)),(39,.p (i64 i))]) (fun _=>[(1,.box ((sR o).map .p)),(2,.box [.p (i64 0),.p (str aX)])]) (fun i=>o.plots.length - i) 0 _ (aD.refl _ _) ⟨Nat.zero_le _,rfl⟩ ⟨rfl,rfl,rfl,congrArg (fun n:Nat=>AV.p (i64 n)) lm,Z,Y⟩ ⟨Z,Z,Y⟩ fun i hi t h=>?_
 (repeat refine yY Z ?_);refine iF Z (fun h1=>?_) (fun h1=>?_)
 ·obtain⟨p,hx⟩:=aj (l:=o.plots) (i:=i) (by omega)
  have Mi:=xS hx
  (repeat refine yY Z ?_);refine zX zi ⟨(du p),(idx rfl hx),?_⟩
  (repeat refine yY Z ?_);refine zX zi ⟨_,_,(ku p (ho.plots.2 p (List.mem_of_getElem? hx))),?_⟩
  (repeat refine yY Z ?_);refine iF Z (fun a1=>?_) (fun a1=>?_)
  ·have a1:bS p≠0:=by simpa using a1
   have e:jd o.plots 0=(bS p,oH i):=by rw[hi.2,Mi,if_neg a1]
   have L4:=Lib.itoa_length_le (i:Int) (by omega) (by omega)
   have Hs:(Lx (Lib.itoa i)).size=(Lib.itoa i).length:=by simp[Lx,ByteArray.size]
   (repeat refine yY Z ?_);refine zX zi ⟨_,_,(zV i (by omega)),?_⟩
   ((repeat refine yY Z ?_);refine zA zi ?_);refine And.intro (by rw[Hs];show (5:Nat)+_<=_;omega) ?_
   have kD:=ed (oH i) (bS p)
   rw[iC a1] at kD
   (repeat refine yY Z ?_);refine zX zi ⟨_,_,kD,?_⟩
   (repeat refine yY Z ?_);refine aa zi (And.intro ?_ trivial)
   rw[dD,if_neg (fun h=>h g1),if_neg (fun h=>h g2),if_neg g3,if_pos (by rw[e];exact a1),e];rfl
  have a1:bS p=0:=by simpa using a1
  (repeat refine yY Z ?_);refine zA zi (And.intro ⟨by omega,by omega⟩ ?_)
  (repeat refine yY Z ?_);refine ae ⟨(i+1),_,aD.refl _ _,?_⟩
  exact⟨⟨by omega,by rw[hi.2,Mi,if_pos a1]⟩,by omega,⟨Z,Z,Z,Z,Z,Y⟩,⟨Z,Z,Y⟩⟩
 have e:jd o.plots 0=(0,aX):=by rw[hi.2,List.drop_of_length_le (by omega)];rfl
 rw[show dD o=oI o by rw[dD,if_neg (fun h=>h g1),if_neg (fun h=>h g2),if_neg g3,if_neg (by rw[e];simp)]]
 (repeat refine yY Z ?_);refine zX zi ⟨_,_,(ku o.outline ho.outline),?_⟩
 (repeat refine yY Z ?_);refine iF Z (fun k1=>?_) (fun k1=>?_)
 ·have k1:bS o.outline≠0:=by simpa using k1
  have kD:=ed um (bS o.outline)
  rw[iC k1] at kD
  (repeat refine yY Z ?_);refine zX zi ⟨_,_,kD,?_⟩
  (repeat refine yY Z ?_);refine aa zi (And.intro ?_ trivial)
  rw[oI,if_pos k1];rfl
 have k1:bS o.outline=0:=by simpa using k1
 (repeat refine yY Z ?_);refine iF Z (fun k2=>?_) (fun k2=>?_)
 ·have kD:=ed gT 2
  rw[iC (by decide)] at kD
  (repeat refine yY Z ?_);refine zX zi ⟨_,_,kD,?_⟩
  (repeat refine yY Z ?_);refine aa zi (And.intro ?_ trivial)
  rw[oI,if_neg (fun h=>h k1),if_pos (by omega)];rfl
 (repeat refine yY Z ?_);refine zX zi ⟨_,_,(oC o.bodies o.places ho.bodies ho.places),?_⟩
 (repeat refine yY Z ?_);refine iF Z (fun k3=>?_) (fun k3=>?_)
 ·have k3:dz o.bodies o.places≠0:=by simpa using k3
  have kD:=ed xR (dz o.bodies o.places)
  rw[iC k3] at kD
  (repeat refine yY Z ?_);refine zX zi ⟨_,_,kD,?_⟩
  (repeat refine yY Z ?_);refine aa zi (And.intro ?_ trivial)
  rw[oI,if_neg (fun h=>h k1),if_neg (by omega),if_pos k3];rfl
 have k3:dz o.bodies o.places=0:=by simpa using k3
 (repeat refine yY Z ?_);refine zX zi ⟨_,_,(qH o ho ht),?_⟩
 (repeat refine yY Z ?_);refine iF Z (fun k4=>?_) (fun k4=>?_)
 ·have k4:fu o.types o.feet≠0:=by simpa using k4
  have kD:=ed ER (fu o.types o.feet)
  rw[iC k4] at kD
  (repeat refine yY Z ?_);refine zX zi ⟨_,_,kD,?_⟩
  (repeat refine yY Z ?_);refine aa zi (And.intro ?_ trivial)
  rw[oI,if_neg (fun h=>h k1),if_neg (by omega),if_neg (fun h=>h k3),if_pos k4];rfl
 have k4:fu o.types o.feet=0:=by simpa using k4
 (repeat refine yY Z ?_);refine zX zi ⟨_,_,(px o.rules ho.rules),?_⟩
 have kD:=ed Bn (fc o.rules)
 by_cases e0:fc o.rules=0
 ·rw[CA,if_pos e0] at kD
  (repeat refine yY Z ?_);refine zX zi ⟨_,_,kD,?_⟩
  (repeat refine yY Z ?_);refine aa zi (And.intro ?_ trivial)
  rw[oI,if_neg (fun h=>h k1),if_neg (by omega),if_neg (fun h=>h k3),if_neg (fun h=>h k4),if_neg (fun h=>h e0)];rfl
 rw[CA,if_neg e0] at kD
 (repeat refine yY Z ?_);refine zX zi ⟨_,_,kD,?_⟩
 (repeat refine yY Z ?_);refine aa zi (And.intro ?_ trivial)
 rw[oI,if_neg (fun h=>h k1),if_neg (by omega),if_neg (fun h=>h k3),if_neg (fun h=>h k4),if_pos e0];rfl
theorem pI (o:Order) (ho:iU o):af C 6 [.pv (.ag (sR o))] (.tu [str (dD o).2,i64 (dD o).1]) []:=by
 refine ah hC Tryz.func6 rfl rfl 11 rfl (by decide) (by kernel_rfl) fun _ _ _ _ _=>?_
 (repeat refine yY Z ?_);refine zX zi ⟨_,_,(qq o ho),?_⟩
 (repeat refine yY Z ?_);refine c_ [] false Oh rfl (by kernel_rfl) ?_;(repeat refine yY Z ?_);refine aa zi (And.intro ?_ trivial)
 rfl
open aK (sS nn)
theorem CD {α:Type} {l:List α} {i:Nat} {x:α} (h:l[i]?=some x):(l.take (i+1)).getLast?=some x:=by
 rw[aN h,List.getLast?_append]
 simp
theorem sH {l:List (Int×Int)} {i:Nat} {x y:Int×Int} (hx:l[i]?=some x) (hy:l[i+1]?=some y):sS (l.take (i+2))=sS (l.take (i+1))++if y=x then [] else [y]:=by
 rw[aN hy,aK.EK (CD hx)]
theorem tx (l:List (Int×Int)) (hN:l.length<=1000000):af C 80 [.row 93 (l.map sp)] (.own 93 ((sS l).map sp)) [.gone]:=by
 refine ah hC Tryz.func80 rfl rfl 61 rfl (by decide) (by kernel_rfl) fun _ _ _ _ _=>?_
 have lm:=ai l sp
 (repeat refine yY Z ?_);refine iF Z (fun h0=>?_) (fun h0=>?_)
 ·(repeat refine yY Z ?_);refine aa zi ?_
  have e:sS l=l:=by
   match l,lm,h0 with
   | [],_,_=>rfl
   | [x],_,_=>rfl
   | x::y::r,lm,h0=>simp only[List.length_cons] at lm h0;omega
  rw[e]
  exact⟨Z,Z,Y⟩
 (repeat refine yY Z ?_)
 refine ak (fun k:Nat=>1<=k/\k<=l.length/\sS (l.take k)=l.take k) (fun k=>[(0,.ow 100000),(3,.p (i64 k))]) (fun _=>[(100000,.row 93 (l.map sp))]) (fun k=>l.length - k) 1 _ (aD.refl _ _) ⟨by omega,by omega,by cases l <;> rfl⟩ ⟨Z,Z,Y⟩ ⟨Z,Y⟩ fun k hk t h=>?_
 obtain⟨k1,k2,k3⟩:=hk
 (repeat refine yY Z ?_);refine iF Z (fun h1=>?_) (fun h1=>?_)
 ·rw[lm] at h1
  obtain⟨x,hx⟩:=aj (l:=l) (i:=k - 1) (by omega)
  obtain⟨y,hy⟩:=aj (l:=l) (i:=k) (by omega)
  (repeat refine yY Z ?_);refine c_ [] false D8 rfl (by kernel_rfl) ?_;(repeat refine yY Z ?_);refine zA zi (And.intro ⟨by omega,by rw[lm];omega⟩ ?_)
  (repeat refine yY Z ?_);refine zX zi ⟨(sp y),(idx rfl hy).2,?_⟩
  (repeat refine yY Z ?_);refine zA zi (And.intro ⟨by omega,by omega⟩ ?_)
  (repeat refine yY Z ?_);refine zA zi (And.intro ⟨by omega,by rw[lm];omega⟩ ?_)
  (repeat refine yY Z ?_);refine zX zi ⟨(sp x),(idx (show (k:Int) - 1=((k - 1:Nat):Int) by omega) hx).2,?_⟩
  (repeat refine yY Z ?_);refine iF Z (fun h2=>?_) (fun h2=>?_) <;> try simp only[zB] at h2
  ·have e2:y=x:=Prod.ext (by simpa using (Bool.and_eq_true_iff.1 h2).1) (by simpa using (Bool.and_eq_true_iff.1 h2).2)
   (repeat refine yY Z ?_);refine zO zi ?_
   refine Or.inl ?_
   refine zA zi (And.intro ⟨by omega,by rw[lm];omega,by omega⟩ ?_)
   (repeat refine yY Z ?_)
   refine ak (fun p:Nat×Nat×List (Int×Int)=>k<=p.1/\p.1 < p.2.1/\p.2.1<=l.length/\p.2.2.length=l.length/\p.2.2.take p.1=sS (l.take p.2.1)/\p.2.2.drop (p.2.1 - 1)=l.drop (p.2.1 - 1)) (fun p=>[(0,.ow 100000),(3,.p (i64 p.1)),(4,.vw 100000 k l.length),(5,.p (i64 (p.2.1 - k:Nat)))]) (fun p=>[(100000,.row 93 (p.2.2.map sp))]) (fun p=>l.length - p.2.1) (k,k+1,l) _ (aD.refl _ _) ⟨by simp,by simp only;omega,by simp only;omega,rfl,?_,rfl⟩ ⟨rfl,rfl,by show AV.vw _ _ _=AV.vw _ _ _;rw[Int.toNat_natCast,Int.toNat_natCast,lm],aS (by simp only;omega),trivial⟩ ⟨Z,Y⟩ fun ⟨a,b,m⟩ hi t h=>?_
   ·simp only
    rw[show k+1=(k - 1)+2 by omega,sH hx (by rw[show k - 1+1=k by omega];exact hy),if_pos e2,show k - 1+1=k by omega,k3,List.append_nil]
   simp only at hi
   obtain⟨q1,q2,q3,q4,q5,q6⟩:=hi
   have mm:=ai m sp
   (repeat refine yY Z ?_);refine iF Z (fun h3=>?_) (fun h3=>?_) <;> try simp only[zB] at h3
   ·have hb:b < l.length:=by omega
    obtain⟨u,hu⟩:=aj (l:=l) (i:=b - 1) (by omega)
    obtain⟨v,hv⟩:=aj (l:=l) (i:=b) (by omega)
    have Mh:m[b - 1]?=some u:=by
     have:(m.drop (b - 1))[0]?=(l.drop (b - 1))[0]?:=by rw[q6]
     simpa [hu] using this
    have Hf:m[b]?=some v:=by
     have:(m.drop (b - 1))[1]?=(l.drop (b - 1))[1]?:=by rw[q6]
     simpa [show b - 1+1=b by omega,hv] using this
    have qU:sS (l.take (b+1))=sS (l.take b)++if v=u then [] else [v]:=by
     have:=sH hu (by rw[show b - 1+1=b by omega];exact hv)
     rw[show b - 1+2=b+1 by omega,show b - 1+1=b by omega] at this
     exact this
    have i1:k+((b - k:Nat):Int).toNat=b:=by omega
    have i2:k+(((b - k:Nat):Int) - 1).toNat=b - 1:=by omega
    (repeat refine yY Z ?_);refine c_ [] false D8 rfl (by kernel_rfl) ?_;(repeat refine yY Z ?_);refine zA zi (And.intro ⟨by dsimp only;omega,by dsimp only;omega⟩ ?_)
    (repeat refine yY Z ?_);refine zX zi ⟨(sp v),(by dsimp only;rw[i1];exact nY sp Hf),?_⟩
    (repeat refine yY Z ?_);refine zA zi (And.intro ⟨by dsimp only;omega,by dsimp only;omega⟩ ?_)
    (repeat refine yY Z ?_);refine zA zi (And.intro ⟨by dsimp only;omega,by dsimp only;omega⟩ ?_)
    (repeat refine yY Z ?_);refine zX zi ⟨(sp u),(by dsimp only;rw[i2];exact nY sp Mh),?_⟩
    (repeat refine yY Z ?_);refine iF Z (fun h4=>?_) (fun h4=>?_) <;> try simp only[zB] at h4
    ·have e4:¬v=u:=fun e=>by subst e;simp at h4
     rw[if_neg e4] at qU
     obtain⟨z,hz⟩:=aj (l:=m) (i:=a) (by omega)
     (repeat refine yY Z ?_);refine zA zi (And.intro ⟨by dsimp only;omega,by dsimp only;omega⟩ ?_)
     (repeat refine yY Z ?_);refine zX zi ⟨(sp v),(by dsimp only;rw[i1];exact nY sp Hf),?_⟩
     (repeat refine yY Z ?_);refine zA zi (And.intro ⟨by dsimp only;omega,by dsimp only;rw[mm];omega⟩ ?_)
     (repeat refine yY Z ?_);refine zX zi ⟨(sp z),(idx rfl hz).2,?_⟩
     (repeat refine yY Z ?_);refine zA zi (And.intro ⟨by dsimp only;omega,by dsimp only;omega⟩ ?_)
     (repeat refine yY Z ?_);refine zA zi (And.intro ⟨by dsimp only;omega,by dsimp only;omega⟩ ?_)
     (repeat refine yY Z ?_);refine ae ⟨(a+1,b+1,m.set a v),_,aD.refl _ _,?_⟩
     refine⟨⟨by dsimp only;omega,by dsimp only;omega,by dsimp only;omega,by dsimp only;rw[List.length_set];exact q4,?_,?_⟩,by dsimp only;omega,⟨rfl,aS (by dsimp only;omega),rfl,aS (by dsimp only;omega),trivial⟩,⟨?_,trivial⟩⟩
     ·dsimp only
      rw[xt (by omega),q5,qU]
     ·dsimp only
      rw[List.drop_set_of_lt (by omega)]
      have:=congrArg (List.drop 1) q6
      simpa [List.drop_drop,show b - 1+1=b by omega] using this
     show AB.row _ ((m.map sp).set a (sp v))=AB.row _ ((m.set a v).map sp)
     rw[List.map_set]
    have e4:v=u:=by
     have:(decide (v.1=u.1) && (decide (v.2=u.2) && true))=true:=by simpa using h4
     exact Prod.ext (by simpa using (Bool.and_eq_true_iff.1 this).1) (by simpa using (Bool.and_eq_true_iff.1 this).2)
    rw[if_pos e4,List.append_nil] at qU
    (repeat refine yY Z ?_);refine zA zi (And.intro ⟨by dsimp only;omega,by dsimp only;omega⟩ ?_)
    (repeat refine yY Z ?_);refine ae ⟨(a,b+1,m),_,aD.refl _ _,?_⟩
    refine⟨⟨by dsimp only;omega,by dsimp only;omega,by dsimp only;omega,q4,by dsimp only;rw[qU];exact q5,?_⟩,by dsimp only;omega,⟨rfl,rfl,rfl,aS (by dsimp only;omega),trivial⟩,⟨Z,Y⟩⟩
    have:=congrArg (List.drop 1) q6
    simpa [List.drop_drop,show b - 1+1=b by omega] using this
   have hb:b=l.length:=by omega
   (repeat refine yY Z ?_);refine zO zi ?_
   refine Or.inl ?_
   refine zA zi (And.intro ⟨by dsimp only;omega,by dsimp only;rw[mm];omega,by dsimp only;omega⟩ ?_)
   (repeat refine yY Z ?_);refine zA zi (And.intro ⟨by simp only[Int.toNat_natCast];omega,by simp only[Int.toNat_natCast];omega⟩ ?_)
   (repeat refine yY Z ?_);refine zO zi ?_
   refine Or.inl ?_
   have Eo:((((m.map sp).take a++List.replicate ((m.map sp).length - a) [i64 0,i64 0]++(m.map sp).drop (m.map sp).length).length:Nat):Int)=m.length:=by simp;omega
   refine zA zi (And.intro ⟨by omega,by dsimp only;omega,by simp only[Int.toNat_natCast];exact Int.le_trans (show (a:Int)<=m.length by omega) (Int.le_of_eq Eo.symm)⟩ ?_)
   (repeat refine yY Z ?_);refine aa zi ?_
   refine⟨?_,Z,Y⟩
   simp only[Int.toNat_natCast]
   rw[List.append_assoc,List.take_append_of_le_length (by rw[List.length_take,mm];omega),List.take_take,Nat.min_self,<-List.map_take,q5,hb,List.take_length]
  have e2:¬y=x:=fun e=>by subst e;simp at h2
  (repeat refine yY Z ?_);refine zA zi (And.intro ⟨by omega,by omega⟩ ?_)
  (repeat refine yY Z ?_);refine ae ⟨(k+1),_,aD.refl _ _,?_⟩
  refine⟨⟨by omega,by omega,?_⟩,by omega,⟨Z,Z,Y⟩,⟨Z,Y⟩⟩
  rw[show k+1=(k - 1)+2 by omega,sH hx (by rw[show k - 1+1=k by omega];exact hy),if_neg e2,show k - 1+1=k by omega,k3,show k - 1+2=k+1 by omega,aN hy]
 rw[lm] at h1
 have e:k=l.length:=by omega
 (repeat refine yY Z ?_);refine aa zi ?_
 rw[e,List.take_length] at k3
 rw[k3]
 exact⟨Z,Z,Y⟩
theorem xT (l:List (Int×Int)) (hN:l.length<=1000000):af C 236 [.pv (.sl (l.map sp))] (.own 93 (l.map sp)) []:=by
 have lm:=ai l sp
 cases l with
 | nil=>
  refine ah hC Tryz.func236 rfl rfl 8 rfl (by decide) (by kernel_rfl) fun _ _ _ _ _=>?_
  (repeat refine yY Z ?_);refine IE Z<|D5 Z Z ?_
  refine And.intro ?_ ?_
  ·(repeat refine yY Z ?_);refine aa zi ?_
   exact⟨Z,Y⟩
  (repeat refine yY Z ?_);refine zA zi (And.intro ⟨by simp,by simp,by simp⟩ ?_)
  (repeat refine yY Z ?_);refine aa zi ?_
  exact⟨Z,Z,Y⟩
 | cons x r=>
  refine ah hC Tryz.func236 rfl rfl 8 rfl (by decide) (by kernel_rfl) fun _ _ _ _ _=>?_
  have hr:r.length<=1000000:=Nat.le_of_succ_le hN
  (repeat refine yY Z ?_);refine zA zi (And.intro ⟨jX fun _=>rfl,by simp;omega,by simp;omega⟩ ?_)
  (repeat refine yY Z ?_);refine aa zi ?_
  exact⟨Z,Z,Y⟩
theorem qX (x z:Int×Int):(decide (x.1=z.1) && (decide (x.2=z.2) && true))=decide (x=z):=by
 obtain⟨a,b⟩:=x
 obtain⟨c,d⟩:=z
 by_cases h:a=c <;> by_cases h2:b=d <;> simp[h,h2]
theorem z6 (l:List (Int×Int)) (hN:l.length<=140737488355328) (x:Int×Int):af C 281 [.pv (.sl (l.map sp)),.pv (.ag (sp x))] (.p (i64 (db (fun z=>decide (x=z)) l 0))) []:=by
 refine ah hC Tryz.func281 rfl rfl 19 rfl (by decide) (by kernel_rfl) fun _ _ _ _ _=>?_
 have lm:=ai l sp
 (repeat refine yY Z ?_)
 refine ak (fun i:Nat=>i<=l.length/\∀z∈l.take i,decide (x=z)=false) (fun i=>[(0,.p (.sl (l.map sp))),(3,.bx 3 0),(7,.p (i64 (l.map sp).length)),(8,.p (i64 i))]) (fun _=>[(3,.box ((sp x).map .p))]) (fun i=>l.length - i) 0 _ (aD.refl _ _) ⟨Nat.zero_le _,by simp⟩ ⟨Z,Z,Z,Z,Y⟩ ⟨Z,Y⟩ fun i hi t h=>?_
 (repeat refine yY Z ?_);refine iF Z (fun h1=>?_) (fun h1=>?_)
 ·rw[lm] at h1
  obtain⟨r,hr⟩:=aj (l:=l) (i:=i) (by omega)
  (repeat refine yY Z ?_);refine c_ [] false Oh rfl (by kernel_rfl) ?_;(repeat refine yY Z ?_);refine zX zi ⟨(sp r),(idx rfl hr),?_⟩
  (repeat refine yY Z ?_);refine iF Z (fun h2=>?_) (fun h2=>?_) <;> try simp only[zB] at h2
  ·(repeat refine yY Z ?_);refine aa zi (And.intro ?_ trivial)
   rw[qX] at h2
   rw[dr (p:=fun z=>decide (x=z)) hr h2 hi.2,Nat.zero_add]
  (repeat refine yY Z ?_);refine zA zi (And.intro ⟨by omega,by omega⟩ ?_)
  (repeat refine yY Z ?_);refine ae ⟨(i+1),_,aD.refl _ _,?_⟩
  rw[qX] at h2
  exact⟨⟨by omega,fE (p:=fun z=>decide (x=z)) hr h2 hi.2⟩,by omega,⟨Z,Z,Z,Z,Y⟩,⟨Z,Y⟩⟩
 rw[lm] at h1
 (repeat refine yY Z ?_);refine aa zi (And.intro ?_ trivial)
 have h2:=hi.2
 rw[List.take_of_length_le (by omega)] at h2
 rw[bT (p:=fun z=>decide (x=z)) h2]
 rfl
theorem mP (l:List (Int×Int)) (hN:l.length<=140737488355328) (x:Int×Int):af C 237 [.pv (.sl (l.map sp)),.pv (.ag (sp x))] (.p (bool (decide (x∈l)))) []:=by
 refine ah hC Tryz.func237 rfl rfl 9 rfl (by decide) (by kernel_rfl) fun _ _ _ _ _=>?_
 (repeat refine yY Z ?_);refine zX zi ⟨_,_,(z6 l hN x),?_⟩
 (repeat refine yY Z ?_);refine aa zi (And.intro ?_ trivial)
 have e:decide (x∈l)=l.any fun z=>decide (x=z):=by
  rw[Bool.eq_iff_iff,decide_eq_true_iff,List.any_eq_true]
  exact⟨fun h=>⟨x,h,decide_eq_true rfl⟩,fun ⟨z,h,e⟩=>of_decide_eq_true e ▸ h⟩
 rw[e,<-fb _ l 0]
 rfl
theorem pJ (a b:Int×Int):af C 232 [.pv (.ag (sp a)),.pv (.ag (sp b))] (.p (bool (decide (b.1<=a.1) && decide (a.2<=b.2)))) []:=by
 refine ah hC Tryz.func232 rfl rfl 17 rfl (by decide) (by kernel_rfl) fun _ _ _ _ _=>?_
 (repeat refine yY Z ?_);refine iF Z (fun h=>?_) (fun h=>?_)
 ·(repeat refine yY Z ?_);refine aa zi (And.intro ?_ trivial)
  simp[bool,h]
 (repeat refine yY Z ?_);refine aa zi (And.intro ?_ trivial)
 simp[bool,h]
def np (m:List cu) (s:List Lay) (k:Nat):Bool:=match s[k]? with
 | some l=>decide (bQ m l.mat=2)
 | none=>false
def nC (m:List cu) (s:List Lay) (k:Nat):Int:=(dL m s k).length
def a_ (m:List cu) (s:List Lay) (i:Nat):List (Int×Int):=((List.range i).filter (np m s)).map fun k=>(nC m s k,nC m s k+1)
theorem sI {m:List cu} {s:List Lay} {i:Nat}:a_ m s (i+1)=a_ m s i++(if np m s i=true then [(nC m s i,nC m s i+1)] else []):=by
 unfold a_
 rw[List.range_succ,List.filter_append,List.map_append]
 congr 1
 cases h:np m s i <;> simp[h]
theorem pK {m:List cu} {s:List Lay} {i:Nat}:(a_ m s i).length<=i:=by
 unfold a_
 rw[List.length_map]
 exact Nat.le_trans (List.length_filter_le _ _) (by simp)
theorem xU {m:List cu} {s:List Lay} {i:Nat}:0<=nC m s i/\nC m s i<=i:=by
 have:=sy (m:=m) (s:=s) (i:=i)
 unfold nC
 omega
theorem Bo {m:List cu} {s:List Lay} {i:Nat}:nC m s (i+1)=nC m s i+(if iT m s i=true then 1 else 0):=by
 unfold nC
 rw[uh]
 split <;> simp
theorem xV (m:List cu) (s:List Lay) (hs:bM cu.name m) (hN:m.length<=1000000) (hS:s.length<=1048576):af C 235 [.pv (.sl (m.map l7)),.pv (.sl (s.map mM))] (.own 93 ((a_ m s s.length).map sp)) []:=by
 refine ah hC Tryz.func235 rfl rfl 33 rfl (by decide) (by kernel_rfl) fun _ _ _ _ _=>?_
 have lm:=ai s mM
 (repeat refine yY Z ?_)
 refine ak (fun i:Nat=>i<=s.length) (fun i=>[(0,.p (.sl (m.map l7))),(5,.ow 5),(6,.p (i64 (nC m s i))),(9,.p (.sl (s.map mM))),(10,.p (i64 s.length)),(11,.p (i64 i))]) (fun i=>[(5,.row 93 ((a_ m s i).map sp))]) (fun i=>s.length - i) 0 _ (aD.eG hC _ 5 93 _ (by decide) rfl rfl (by decide)) (Nat.zero_le _) ⟨rfl,rfl,rfl,rfl,congrArg (fun n:Nat=>AV.p (i64 n)) lm,Z,Y⟩ ⟨Z,Y⟩ fun i hi t h=>?_
 (repeat refine yY Z ?_);refine iF Z (fun h1=>?_) (fun h1=>?_)
 ·obtain⟨x,hx⟩:=aj (l:=s) (i:=i) (by omega)
  have hc:iT m s i=decide (bQ m x.mat=1):=by rw[iT,hx]
  have hd:np m s i=decide (bQ m x.mat=2):=by rw[np,hx]
  have qU:=sI (m:=m) (s:=s) (i:=i)
  have LG:=Bo (m:=m) (s:=s) (i:=i)
  have hle:=pK (m:=m) (s:=s) (i:=i)
  have CS:=xU (m:=m) (s:=s) (i:=i)
  have Lu:((a_ m s i).map sp).length=(a_ m s i).length:=List.length_map ..
  (repeat refine yY Z ?_);refine zX zi ⟨(mM x),(idx rfl hx),?_⟩
  (repeat refine yY Z ?_);refine zX zi ⟨_,_,(gQ m x hs hN),?_⟩
  (repeat refine yY Z ?_);refine iF Z (fun h2=>?_) (fun h2=>?_)
  ·have h2:bQ m x.mat=1:=h2
   rw[hc,if_pos (decide_eq_true h2)] at LG
   rw[hd,if_neg (by rw[h2];decide),List.append_nil] at qU
   (repeat refine yY Z ?_);refine zA zi (And.intro ⟨by omega,by omega⟩ ?_)
   (repeat refine yY Z ?_);refine zA zi (And.intro ⟨by omega,by omega⟩ ?_)
   (repeat refine yY Z ?_);refine ae ⟨(i+1),_,aD.refl _ _,?_⟩
   exact⟨by omega,by omega,⟨rfl,rfl,aS (by omega),Z,Z,Z,Y⟩,⟨by rw[qU];rfl,trivial⟩⟩
  have h2:¬bQ m x.mat=1:=h2
  rw[hc,if_neg (by rw[decide_eq_false h2];decide),Int.add_zero] at LG
  (repeat refine yY Z ?_);refine iF Z (fun h3=>?_) (fun h3=>?_)
  ·have h3:bQ m x.mat=2:=h3
   rw[hd,if_pos (decide_eq_true h3)] at qU
   (repeat refine yY Z ?_);refine zA zi (And.intro ⟨by omega,by omega⟩ ?_)
   (repeat refine yY Z ?_);refine zA zi (And.intro ⟨fun r hr=>(by rw[List.mem_singleton.1 hr];rfl),by rw[Lu];simp;omega,by rw[Lu];simp;omega⟩ ?_)
   (repeat refine yY Z ?_);refine zA zi (And.intro ⟨by omega,by omega⟩ ?_)
   (repeat refine yY Z ?_);refine ae ⟨(i+1),_,aD.refl _ _,?_⟩
   exact⟨by omega,by omega,⟨rfl,rfl,aS (by omega),Z,Z,Z,Y⟩,⟨by rw[qU,List.map_append];rfl,trivial⟩⟩
  have h3:¬bQ m x.mat=2:=h3
  rw[hd,if_neg (by rw[decide_eq_false h3];decide),List.append_nil] at qU
  (repeat refine yY Z ?_);refine zA zi (And.intro ⟨by omega,by omega⟩ ?_)
  (repeat refine yY Z ?_);refine ae ⟨(i+1),_,aD.refl _ _,?_⟩
  exact⟨by omega,by omega,⟨rfl,rfl,aS (by omega),Z,Z,Z,Y⟩,⟨by rw[qU];rfl,trivial⟩⟩
 have e:i=s.length:=by omega
 (repeat refine yY Z ?_);refine aa zi ?_
 rw[e]
 exact⟨Z,Z,Y⟩
def iW (cs acc:List (Int×Int)) (x:Int×Int):List (Int×Int):=if x∈cs then acc else if x∈acc then acc else acc++[x]
def dh (cs L:List (Int×Int)):List (Int×Int):=L.foldl (iW cs) []
def qI (m:List cu) (s:List Lay) (l:List (Int×Int)):List (Int×Int):=l++[(1,nC m s s.length)]
def fI (m:List cu) (s:List Lay) (l:List (Int×Int)):List (Int×Int):=fH zY (dh (a_ m s s.length) (qI m s l))
def bN (m:List cu) (s:List Lay) (l:List (Int×Int)):List (Int×Int):=a_ m s s.length++fI m s l
theorem sJ {cs L:List (Int×Int)} {i:Nat} {x:Int×Int} (h:L[i]?=some x):dh cs (L.take (i+1))=iW cs (dh cs (L.take i)) x:=by
 unfold dh
 rw[aN h,List.foldl_append]
 rfl
theorem CE (cs acc:List (Int×Int)) (x:Int×Int):(iW cs acc x).length<=acc.length+1:=by
 unfold iW
 split
 ·omega
 split
 ·omega
 simp
theorem ml (cs L:List (Int×Int)):∀i,i<=L.length->(dh cs (L.take i)).length<=i
 | 0,_=>by simp[dh]
 | i+1,h=>by
  obtain⟨x,hx⟩:=aj (l:=L) (i:=i) (by omega)
  rw[sJ hx]
  have:=CE cs (dh cs (L.take i)) x
  have:=ml cs L i (by omega)
  omega
theorem mn {cs L:List (Int×Int)} {x:Int×Int}:x∈dh cs L↔x∈L/\¬x∈cs:=by
 have:∀(L acc:List (Int×Int)),(∀y∈acc,¬y∈cs)->(x∈L.foldl (iW cs) acc↔x∈acc\/x∈L/\¬x∈cs):=by
  intro L
  induction L with
  | nil=>intro acc _;simp
  | cons y L ih=>
   intro acc Jg
   rw[List.foldl_cons]
   by_cases h1:y∈cs
   ·rw[show iW cs acc y=acc from if_pos h1,ih acc Jg,List.mem_cons]
    constructor
    ·rintro (h | ⟨h,h2⟩)
     ·exact .inl h
     exact .inr ⟨.inr h,h2⟩
    rintro (h | ⟨h | h,h2⟩)
    ·exact .inl h
    ·exact absurd (h ▸ h1) h2
    exact .inr ⟨h,h2⟩
   by_cases h3:y∈acc
   ·rw[show iW cs acc y=acc by rw[iW,if_neg h1,if_pos h3],ih acc Jg,List.mem_cons]
    constructor
    ·rintro (h | ⟨h,h2⟩)
     ·exact .inl h
     exact .inr ⟨.inr h,h2⟩
    rintro (h | ⟨h | h,h2⟩)
    ·exact .inl h
    ·exact .inl (h ▸ h3)
    exact .inr ⟨h,h2⟩
   rw[show iW cs acc y=acc++[y] by rw[iW,if_neg h1,if_neg h3],ih (acc++[y]) (fun z hz=>by
    rcases List.mem_append.1 hz with hz | hz
    ·exact Jg z hz
    rw[List.mem_singleton.1 hz];exact h1),List.mem_append,List.mem_singleton,List.mem_cons]
   constructor
   ·rintro ((h | h) | ⟨h,h2⟩)
    ·exact .inl h
    ·exact .inr ⟨.inl h,h ▸ h1⟩
    exact .inr ⟨.inr h,h2⟩
   rintro (h | ⟨h | h,h2⟩)
   ·exact .inl (.inl h)
   ·exact .inl (.inr h)
   exact .inr ⟨h,h2⟩
 rw[dh,this L [] (by simp)]
 simp
theorem qs (cs:List (Int×Int)):∀(L acc:List (Int×Int)),acc.Nodup->(L.foldl (iW cs) acc).Nodup
 | [],_,h=>h
 | y::L,acc,h=>by
  rw[List.foldl_cons]
  refine qs cs L _ ?_
  unfold iW
  split
  ·exact h
  split
  ·exact h
  rename_i h2
  rw[List.nodup_append]
  exact⟨h,by simp,fun a ha b hb e=>h2 (by rw[List.mem_singleton] at hb;exact hb ▸ e ▸ ha)⟩
theorem Gw {m:List cu} {s:List Lay} {l:List (Int×Int)} (hS:s.length<=1048576) (hb:∀x∈l,Bs x):∀x∈qI m s l,Bs x:=fun x hx=>by
 rcases List.mem_append.1 hx with h | h
 ·exact hb x h
 rw[List.mem_singleton.1 h]
 have:=xU (m:=m) (s:=s) (i:=s.length)
 exact⟨⟨by dsimp only;decide,by dsimp only;decide⟩,by dsimp only;omega,by dsimp only;omega⟩
theorem oJ (m:List cu) (s:List Lay) (l:List (Int×Int)) (hs:bM cu.name m) (hN:m.length<=1000000) (hS:s.length<=1048576) (hl:l.length<=1000) (hb:∀x∈l,Bs x):af C 161 [.pv (.sl (m.map l7)),.pv (.sl (s.map mM)),.pv (.sl (l.map sp))] (.tu [.sl ((bN m s l).map sp),i64 (a_ m s s.length).length]) []:=by
 refine ah hC Tryz.func161 rfl rfl 51 rfl (by decide) (by kernel_rfl) fun _ _ _ _ _=>?_
 have lm:=ai l sp
 have PO:=xV m s hs hN hS
 have Rk:=jc m s hs hN hS
 have hcl:=xT l (by omega)
 have cl:=pK (m:=m) (s:=s) (i:=s.length)
 have hn:(((dL m s s.length).map fun n=>[i64 n]).length:Int)=nC m s s.length:=by rw[List.length_map];rfl
 obtain⟨cs,je⟩:∃cs,cs=a_ m s s.length:=⟨_,rfl⟩
 obtain⟨L,hL⟩:∃L,L=qI m s l:=⟨_,rfl⟩
 have R0:L.length<=1001:=by rw[hL,qI];simp;omega
 have lL:=ai L sp
 have lc:=ai cs sp
 have he:l.map sp++[[i64 1,i64 (((dL m s s.length).map fun n=>[i64 n]).length:Int)]]=L.map sp:=by rw[hn,hL,qI,List.map_append];rfl
 have L_:((l.map sp++[[i64 1,i64 (((dL m s s.length).map fun n=>[i64 n]).length:Int)]]).length:Int)=L.length:=by rw[he,lL]
 rw[<-je] at PO cl
 (repeat refine yY Z ?_);refine zX zi ⟨_,_,PO,?_⟩
 (repeat refine yY Z ?_);refine zX zi ⟨_,_,hcl,?_⟩
 (repeat refine yY Z ?_);refine zX zi ⟨_,_,Rk,?_⟩
 (repeat refine yY Z ?_);refine zA zi (And.intro ⟨fun r hr=>(by rw[List.mem_singleton.1 hr];rfl),by simp;omega,by simp;omega⟩ ?_)
 (repeat refine yY Z ?_)
 refine ak (fun i:Nat=>i<=L.length) (fun i=>[(6,.ow 6),(7,.p (i64 cs.length)),(8,.ow 8),(24,.p (.sl (L.map sp))),(25,.p (i64 L.length)),(26,.p (i64 i))]) (fun i=>[(6,.row 93 (cs.map sp)),(8,.row 93 ((dh cs (L.take i)).map sp))]) (fun i=>L.length - i) 0 _ (aD.trans (aD.eG hC _ 8 93 _ (by decide) rfl rfl (by decide)) (aD.eh hC _ 24 (y:=.sl (l.map sp++[[i64 1,i64 (((dL m s s.length).map fun n=>[i64 n]).length:Int)]])) ⟨rfl,rfl⟩)) (Nat.zero_le _) ⟨rfl,congrArg (fun n:Nat=>AV.p (i64 n)) lc,rfl,congrArg (fun r=>AV.p (PV.sl r)) he,congrArg (fun n:Int=>AV.p (i64 n)) L_,Z,Y⟩ ⟨Z,Z,Y⟩ fun i hi t h=>?_
 (repeat refine yY Z ?_);refine iF Z (fun h1=>?_) (fun h1=>?_)
 ·obtain⟨x,hx⟩:=aj (l:=L) (i:=i) (by omega)
  have hp:=sJ (cs:=cs) hx
  have nv:=ml cs L i (by omega)
  have lp:=ai (dh cs (L.take i)) sp
  have c1:=mP cs (by omega) x
  have c2:=mP (dh cs (L.take i)) (by omega) x
  (repeat refine yY Z ?_);refine zX zi ⟨(sp x),(idx rfl hx),?_⟩
  by_cases e1:x∈cs
  ·rw[decide_eq_true e1] at c1
   rw[iW,if_pos e1] at hp
   (repeat refine yY Z ?_);refine zX zi ⟨_,_,c1,?_⟩
   (repeat refine yY Z ?_);refine zA zi (And.intro ⟨by omega,by omega⟩ ?_)
   (repeat refine yY Z ?_);refine ae ⟨(i+1),_,aD.refl _ _,?_⟩
   exact⟨by omega,by omega,⟨Z,Z,Z,Z,Z,Z,Y⟩,⟨rfl,by rw[hp];rfl,trivial⟩⟩
  rw[decide_eq_false e1] at c1
  rw[iW,if_neg e1] at hp
  (repeat refine yY Z ?_);refine zX zi ⟨_,_,c1,?_⟩
  by_cases e2:x∈dh cs (L.take i)
  ·rw[decide_eq_true e2] at c2
   rw[if_pos e2] at hp
   (repeat refine yY Z ?_);refine zX zi ⟨_,_,c2,?_⟩
   (repeat refine yY Z ?_);refine zA zi (And.intro ⟨by omega,by omega⟩ ?_)
   (repeat refine yY Z ?_);refine ae ⟨(i+1),_,aD.refl _ _,?_⟩
   exact⟨by omega,by omega,⟨Z,Z,Z,Z,Z,Z,Y⟩,⟨rfl,by rw[hp];rfl,trivial⟩⟩
  rw[decide_eq_false e2] at c2
  rw[if_neg e2] at hp
  (repeat refine yY Z ?_);refine zX zi ⟨_,_,c2,?_⟩
  (repeat refine yY Z ?_);refine zA zi (And.intro ⟨fun r hr=>(by rw[List.mem_singleton.1 hr];rfl),by rw[lp];simp;omega,by rw[lp];simp;omega⟩ ?_)
  (repeat refine yY Z ?_);refine zA zi (And.intro ⟨by omega,by omega⟩ ?_)
  (repeat refine yY Z ?_);refine ae ⟨(i+1),_,aD.refl _ _,?_⟩
  exact⟨by omega,by omega,⟨Z,Z,Z,Z,Z,Z,Y⟩,⟨rfl,by rw[hp,List.map_append];rfl,trivial⟩⟩
 have e:i=L.length:=by omega
 have nv:=ml cs L i (by omega)
 rw[e,List.take_length] at nv ⊢
 have hps:∀x∈dh cs L,Bs x:=fun x hx=>Gw hS hb x (hL ▸ (mn.1 hx).1)
 have lp:=(de zY CC (dh cs L)).1.length_eq
 have lq:=ai (fH zY (dh cs L)) sp
 (repeat refine yY Z ?_);refine zX zi ⟨_,_,(vX (dh cs L) hps (by omega)),?_⟩
 (repeat refine yY Z ?_);refine zA zi (And.intro ⟨jX fun _=>rfl,by show ((cs.map sp).length+((fH zY (dh cs L)).map sp).length)*16<=_;omega,by omega⟩ ?_)
 (repeat refine yY Z ?_);refine aa zi ?_
 rw[bN,fI,<-je,<-hL,List.map_append]
 exact⟨Z,Y⟩
def Bp (a b:Int×Int):Bool:=decide (b.1<=a.1) && decide (a.2<=b.2)
def xW (a:Int×Int) (c:Int) (b:Int×Int):Bool:=!decide (b=a) && (Bp b a && (decide (b.1<=c) && decide (c<=b.2)))
theorem LH (a b:Int×Int) (c:Int):af C 234 [.pv (.ag (sp b)),.pv (.ip (sp a)),.pv (.ip [i64 c])] (.p (bool (xW a c b))) []:=by
 refine ah hC Tryz.func234 rfl rfl 25 rfl (by decide) (by kernel_rfl) fun _ _ _ _ _=>?_
 have hl:=pJ b a
 repeat' first | ((repeat refine yY Z ?_);refine iF Z (fun d=>?_) (fun d=>?_) <;> try simp only[zB] at d) | ((repeat refine yY Z ?_);refine zX zi ⟨_,_,hl,?_⟩)
 all_goals ((repeat refine yY Z ?_);refine aa zi (And.intro ?_ trivial))
 all_goals simp_all [bool,xW,Bp,Prod.ext_iff] <;> omega
theorem CF (l:List (Int×Int)) (hN:l.length<=140737488355328) (a:Int×Int) (c:Int):af C 280 [.pv (.sl (l.map sp)),.pv (.fn 234 [.ip (sp a),.ip [i64 c]])] (.p (i64 (db (xW a c) l 0))) []:=by
 refine ah hC Tryz.func280 rfl rfl 19 rfl (by decide) (by kernel_rfl) fun _ _ _ _ _=>?_
 have lm:=ai l sp
 (repeat refine yY Z ?_)
 refine ak (fun i:Nat=>i<=l.length/\∀z∈l.take i,xW a c z=false) (fun i=>[(0,.p (.sl (l.map sp))),(1,.p (.fn 234 [.ip (sp a),.ip [i64 c]])),(7,.p (i64 (l.map sp).length)),(8,.p (i64 i))]) (fun _=>[]) (fun i=>l.length - i) 0 _ (aD.refl _ _) ⟨Nat.zero_le _,by simp⟩ ⟨Z,Z,Z,Z,Y⟩ trivial fun i hi t h=>?_
 (repeat refine yY Z ?_);refine iF Z (fun h1=>?_) (fun h1=>?_)
 ·rw[lm] at h1
  obtain⟨r,hr⟩:=aj (l:=l) (i:=i) (by omega)
  (repeat refine yY Z ?_);refine zX zi ⟨(sp r),(idx rfl hr),?_⟩
  (repeat refine yY Z ?_);refine zX zi ⟨_,_,(LH a r c),?_⟩
  (repeat refine yY Z ?_);refine iF Z (fun h2=>?_) (fun h2=>?_)
  ·(repeat refine yY Z ?_);refine aa zi (And.intro ?_ trivial)
   rw[dr hr h2 hi.2,Nat.zero_add]
  (repeat refine yY Z ?_);refine zA zi (And.intro ⟨by omega,by omega⟩ ?_)
  (repeat refine yY Z ?_);refine ae ⟨(i+1),_,aD.refl _ _,?_⟩
  exact⟨⟨by omega,fE hr h2 hi.2⟩,by omega,⟨Z,Z,Z,Z,Y⟩,trivial⟩
 rw[lm] at h1
 (repeat refine yY Z ?_);refine aa zi (And.intro ?_ trivial)
 have h2:=hi.2
 rw[List.take_of_length_le (by omega)] at h2
 rw[bT h2]
 rfl
theorem vZ (l:List (Int×Int)) (hN:l.length<=140737488355328) (a:Int×Int) (c:Int):af C 233 [.pv (.sl (l.map sp)),.pv (.fn 234 [.ip (sp a),.ip [i64 c]])] (.p (bool (l.any (xW a c)))) []:=by
 refine ah hC Tryz.func233 rfl rfl 9 rfl (by decide) (by kernel_rfl) fun _ _ _ _ _=>?_
 (repeat refine yY Z ?_);refine zX zi ⟨_,_,(CF l hN a c),?_⟩
 (repeat refine yY Z ?_);refine aa zi (And.intro ?_ trivial)
 rw[<-fb _ l 0]
 rfl
def iX (n:Int) (l:List (Int×Int)) (i:Nat):Int:=match l[i]? with
 | some x=>if x.1 < 1\/n < x.2\/x.2<=x.1 then 1 else match l[i - 1]? with
  | some p=>if 0 < i/\¬lexLt p x then 8 else 0
  | none=>0
 | none=>0
def z7 (a b:Int×Int):Bool:=decide (a.1<=b.2) && (decide (b.1<=a.2) && (!Bp a b && !Bp b a))
def xX (B:List (Int×Int)) (i:Nat):Int:=match B[i]? with
 | some a=>if (B.take i).any (z7 a)=true then 12 else 0
 | none=>0
def oK (B:List (Int×Int)) (a:Int×Int) (k:Nat):Bool:=(List.range k).any fun j=>!B.any (xW a (a.1+1+(j:Int)))
def Bq (B P:List (Int×Int)) (i:Nat):Int:=match P[i]? with
 | some a=>if oK B a (a.2 - a.1 - 1).toNat=true then 11 else 0
 | none=>0
def qt (m:List cu) (s:List Lay) (l:List (Int×Int)):Int:=nh (aH (xX (bN m s l)) 0 (bN m s l).length) (aH (Bq (bN m s l) (fI m s l)) 0 (fI m s l).length)
def bK (m:List cu) (s:List Lay) (l:List (Int×Int)):Int:=nh (bg m s) (if 200 < l.length then 2 else nh (aH (iX (nC m s s.length) l) 0 l.length) (qt m s l))
theorem sK {n:Int} {l:List (Int×Int)} {i:Nat} {x p:Int×Int} (hx:l[i]?=some x) (hp:l[i - 1]?=some p):iX n l i=if x.1 < 1\/n < x.2\/x.2<=x.1 then 1 else if 0 < i/\¬lexLt p x then 8 else 0:=by
 simp only[iX,hx,hp]
theorem uo {n:Int} {l:List (Int×Int)} (h:∀k,k < l.length->iX n l k=0):∀x∈l,1<=x.1/\x.1 < x.2/\x.2<=n:=fun x hx=>by
 obtain⟨k,hk⟩:=List.mem_iff_getElem?.1 hx
 have Cp:=(List.getElem?_eq_some_iff.1 hk).1
 obtain⟨p,hp⟩:=aj (l:=l) (i:=k - 1) (by omega)
 have:=h k Cp
 rw[sK hk hp] at this
 split at this
 ·cases this
 omega
theorem z8 {m:List cu} {s:List Lay} {l:List (Int×Int)} (h:∀x∈l,1<=x.1/\x.1 < x.2/\x.2<=nC m s s.length):∀x∈fI m s l,1<=x.1/\x.2<=nC m s s.length/\x.1<=2+s.length:=fun x hx=>by
 have h1:=(mn.1 ((de zY CC _).1.mem_iff.1 hx)).1
 have h2:=xU (m:=m) (s:=s) (i:=s.length)
 rcases List.mem_append.1 h1 with h3 | h3
 ·have:=h x h3;omega
 rw[List.mem_singleton.1 h3];simp only;omega
theorem kd {m:List cu} {s:List Lay} {l:List (Int×Int)}:(bN m s l).length<=s.length+(l.length+1)/\(bN m s l).length=(a_ m s s.length).length+(fI m s l).length:=by
 have h1:=pK (m:=m) (s:=s) (i:=s.length)
 have h2:=(de zY CC (dh (a_ m s s.length) (qI m s l))).1.length_eq
 have h3:=ml (a_ m s s.length) (qI m s l) (qI m s l).length (Nat.le_refl _)
 rw[List.take_length] at h3
 have h4:(qI m s l).length=l.length+1:=by simp[qI]
 refine⟨?_,List.length_append ..⟩
 rw[bN,List.length_append,fI]
 omega
theorem z_ (B:List (Int×Int)) (a:Int×Int) (k:Nat):oK B a (k+1)=(oK B a k || !B.any (xW a (a.1+1+(k:Int)))):=by
 unfold oK
 rw[List.range_succ,List.any_append]
 simp
theorem ES {B:List (Int×Int)} {a:Int×Int} {k K:Nat} (h:oK B a (k+1)=true) (hk:k < K):oK B a K=true:=by
 unfold oK at h ⊢
 rw[List.any_eq_true] at h ⊢
 obtain⟨j,h1,h2⟩:=h
 exact⟨j,by rw[List.mem_range] at *;omega,h2⟩
theorem jw (m:List cu) (s:List Lay) (l:List (Int×Int)) (hm:pC m) (hs:oA s) (hN:l.length<=1048576):af C 160 [.pv (.sl (m.map l7)),.pv (.sl (s.map mM)),.pv (.sl (l.map sp))] (.p (i64 (bK m s l))) []:=by
 refine ah hC Tryz.func160 rfl rfl 163 rfl (by decide) (by kernel_rfl) fun _ _ _ _ _=>?_
 have lm:=ai l sp
 (repeat refine yY Z ?_);refine zX zi ⟨_,_,(ju m s hm hs),?_⟩
 (repeat refine yY Z ?_);refine iF Z (fun g1=>?_) (fun g1=>?_)
 ·have g1:bg m s≠0:=by simpa using g1
  (repeat refine yY Z ?_);refine aa zi (And.intro ?_ trivial)
  rw[bK,cL rfl g1]
 have g1:bg m s=0:=by simpa using g1
 have gm:=js (dZ g1).1
 have gl:=gm.len
 rw[bK,fj g1]
 (repeat refine yY Z ?_);refine iF Z (fun g2=>?_) (fun g2=>?_)
 ·(repeat refine yY Z ?_);refine aa zi (And.intro ?_ trivial)
  rw[if_pos (by omega)];rfl
 rw[if_neg (by omega)]
 have I2:=jc m s gm.ord (by omega) hs.1
 have hn:(((dL m s s.length).map fun n=>[i64 n]).length:Int)=nC m s s.length:=by rw[List.length_map];rfl
 have CS:=xU (m:=m) (s:=s) (i:=s.length)
 have Gv:=hs.1
 obtain⟨n,Ht⟩:∃n,n=nC m s s.length:=⟨_,rfl⟩
 rw[<-Ht] at hn CS ⊢
 (repeat refine yY Z ?_);refine zX zi ⟨_,_,I2,?_⟩
 (repeat refine yY Z ?_)
 refine ak (fun i:Nat=>i<=l.length/\∀k,k < i->iX n l k=0) (fun i=>[(0,.p (.sl (m.map l7))),(1,.p (.sl (s.map mM))),(2,.p (.sl (l.map sp))),(8,.p (i64 n)),(33,.p (.sl (l.map sp))),(34,.p (i64 l.length)),(35,.p (i64 i))]) (fun _=>[]) (fun i=>l.length - i) 0 _ (aD.refl _ _) ⟨Nat.zero_le _,fun k h=>by omega⟩ ⟨rfl,rfl,rfl,aS hn,rfl,congrArg (fun n:Nat=>AV.p (i64 n)) lm,Z,Y⟩ trivial fun i hi t h=>?_
 (repeat refine yY Z ?_);refine iF Z (fun h1=>?_) (fun h1=>?_)
 ·obtain⟨x,hx⟩:=aj (l:=l) (i:=i) (by omega)
  obtain⟨p,hp⟩:=aj (l:=l) (i:=i - 1) (by omega)
  have cf:=sK (n:=n) hx hp
  have bad:∀{c:Int},iX n l i=c->c≠0->aH (iX n l) 0 l.length=c:=fun e h0=>au hi.2 (by omega) e h0
  (repeat refine yY Z ?_);refine zX zi ⟨(sp x),(idx rfl hx),?_⟩
  (repeat refine yY Z ?_);refine iF Z (fun a1=>?_) (fun a1=>?_)
  ·(repeat refine yY Z ?_);refine aa zi (And.intro ?_ trivial)
   rw[if_pos (.inl a1)] at cf
   rw[cL (bad cf (by decide)) (by decide)];rfl
  (repeat refine yY Z ?_);refine iF Z (fun a2=>?_) (fun a2=>?_)
  ·(repeat refine yY Z ?_);refine aa zi (And.intro ?_ trivial)
   rw[if_pos (.inr (.inl a2))] at cf
   rw[cL (bad cf (by decide)) (by decide)];rfl
  (repeat refine yY Z ?_);refine iF Z (fun a3=>?_) (fun a3=>?_)
  ·(repeat refine yY Z ?_);refine aa zi (And.intro ?_ trivial)
   rw[if_pos (.inr (.inr a3))] at cf
   rw[cL (bad cf (by decide)) (by decide)];rfl
  rw[if_neg (by omega)] at cf
  have i1:(i:Int) - 1=((i - 1:Nat):Int)\/i=0:=by omega
  (repeat refine yY Z ?_);refine c_ [] false Ot rfl (by kernel_rfl) ?_;(repeat refine yY Z ?_);refine iF Z (fun b0=>?_) (fun b0=>?_)
  ·have i1:(i:Int) - 1=((i - 1:Nat):Int):=by omega
   (repeat refine yY Z ?_);refine zA zi (And.intro ⟨by omega,by omega⟩ ?_)
   (repeat refine yY Z ?_);refine zX zi ⟨(sp p),(idx i1 hp),?_⟩
   (repeat refine yY Z ?_);refine iF Z (fun b1=>?_) (fun b1=>?_)
   ·(repeat refine yY Z ?_);refine aa zi (And.intro ?_ trivial)
    rw[if_pos ⟨by omega,by unfold lexLt;omega⟩] at cf
    rw[cL (bad cf (by decide)) (by decide)];rfl
   (repeat refine yY Z ?_);refine zA zi (And.intro ⟨by omega,by omega⟩ ?_)
   (repeat refine yY Z ?_);refine zX zi ⟨(sp p),(idx i1 hp),?_⟩
   (repeat refine yY Z ?_);refine iF Z (fun b2=>?_) (fun b2=>?_)
   ·(repeat refine yY Z ?_);refine zA zi (And.intro ⟨by omega,by omega⟩ ?_)
    (repeat refine yY Z ?_);refine zX zi ⟨(sp p),(idx i1 hp),?_⟩
    (repeat refine yY Z ?_);refine iF Z (fun b3=>?_) (fun b3=>?_)
    ·(repeat refine yY Z ?_);refine aa zi (And.intro ?_ trivial)
     rw[if_pos ⟨by omega,by unfold lexLt;omega⟩] at cf
     rw[cL (bad cf (by decide)) (by decide)];rfl
    rw[if_neg (by unfold lexLt;omega)] at cf
    (repeat refine yY Z ?_);refine zA zi (And.intro ⟨by omega,by omega⟩ ?_)
    (repeat refine yY Z ?_);refine ae ⟨(i+1),_,aD.refl _ _,?_⟩
    exact⟨⟨by omega,cc hi.2 cf⟩,by omega,⟨Z,Z,Z,Z,Z,Z,Z,Y⟩,trivial⟩
   rw[if_neg (by unfold lexLt;omega)] at cf
   (repeat refine yY Z ?_);refine zA zi (And.intro ⟨by omega,by omega⟩ ?_)
   (repeat refine yY Z ?_);refine ae ⟨(i+1),_,aD.refl _ _,?_⟩
   exact⟨⟨by omega,cc hi.2 cf⟩,by omega,⟨Z,Z,Z,Z,Z,Z,Z,Y⟩,trivial⟩
  rw[if_neg (by omega)] at cf
  (repeat refine yY Z ?_);refine zA zi (And.intro ⟨by omega,by omega⟩ ?_)
  (repeat refine yY Z ?_);refine ae ⟨(i+1),_,aD.refl _ _,?_⟩
  exact⟨⟨by omega,cc hi.2 cf⟩,by omega,⟨Z,Z,Z,Z,Z,Z,Z,Y⟩,trivial⟩
 have Hu:∀k,k < l.length->iX n l k=0:=fun k hk=>hi.2 k (by omega)
 have rh:=uo Hu
 rw[fj (aT fun k _ hk=>Hu k (by omega))]
 have Rl:l.length<=200:=by omega
 have OS:=oJ m s l gm.ord (by omega) Gv (by omega) fun x hx=>by
  have:=rh x hx
  exact⟨⟨by omega,by omega⟩,by omega,by omega⟩
 rw[Ht] at rh
 have DN:=z8 rh
 obtain⟨Rm,Rn⟩:=kd (m:=m) (s:=s) (l:=l)
 have JO:((bN m s l).map sp).drop (a_ m s s.length).length=(fI m s l).map sp:=by rw[bN,List.map_append,List.drop_left' (List.length_map ..)]
 rw[qt]
 generalize bN m s l=B at *
 generalize fI m s l=P at *
 generalize (a_ m s s.length).length=q at *
 have lB:=ai B sp
 have lP:=ai P sp
 (repeat refine yY Z ?_);refine zX zi ⟨_,_,OS,?_⟩
 (repeat refine yY Z ?_)
 refine ak (fun i:Nat=>i<=B.length/\∀k,k < i->xX B k=0) (fun i=>[(11,.p (.sl (B.map sp))),(12,.p (i64 q)),(99,.p (.sl (B.map sp))),(100,.p (i64 B.length)),(101,.p (i64 i))]) (fun _=>[]) (fun i=>B.length - i) 0 _ (aD.refl _ _) ⟨Nat.zero_le _,fun k h=>by omega⟩ ⟨rfl,rfl,rfl,congrArg (fun n:Nat=>AV.p (i64 n)) lB,Z,Y⟩ trivial fun i hi t h=>?_
 (repeat refine yY Z ?_);refine iF Z (fun h2=>?_) (fun h2=>?_)
 ·obtain⟨a,ha⟩:=aj (l:=B) (i:=i) (by omega)
  have cf:xX B i=if (B.take i).any (z7 a)=true then 12 else 0:=by simp only[xX,ha]
  (repeat refine yY Z ?_);refine zX zi ⟨(sp a),(idx rfl ha),?_⟩
  (repeat refine yY Z ?_);refine zA zi (And.intro ⟨by omega,by omega,by omega,jX fun _=>rfl⟩ ?_)
  have lT:((B.take i).map sp).length=i:=by rw[List.length_map,List.length_take];omega
  have eT:((B.map sp).take (i:Int).toNat).drop (0:Int).toNat=(B.take i).map sp:=by simp
  have eL:((((B.map sp).take (i:Int).toNat).drop (0:Int).toNat).length:Int)=i:=by rw[eT,lT]
  (repeat refine yY Z ?_)
  refine ak (fun j:Nat=>j<=i/\∀z∈(B.take i).take j,z7 a z=false) (fun j=>[(11,.p (.sl (B.map sp))),(12,.p (i64 q)),(99,.p (.sl (B.map sp))),(100,.p (i64 B.length)),(101,.p (i64 i)),(14,.bx 14 0),(108,.p (.sl ((B.take i).map sp))),(109,.p (i64 i)),(110,.p (i64 j))]) (fun _=>[(14,.box ((sp a).map .p))]) (fun j=>i - j) 0 _ (aD.refl _ _) ⟨Nat.zero_le _,by simp⟩ ⟨rfl,rfl,rfl,rfl,rfl,rfl,congrArg (fun r=>AV.p (PV.sl r)) eT,aS eL,Z,Y⟩ ⟨Z,Y⟩ fun j hj t h=>?_
  (repeat refine yY Z ?_);refine iF Z (fun h3=>?_) (fun h3=>?_)
  ·obtain⟨b,hb⟩:=aj (l:=B.take i) (i:=j) (by rw[List.length_take];omega)
   have c1:=pJ a b
   have c2:=pJ b a
   have kc:z7 a b=(decide (a.1<=b.2) && (decide (b.1<=a.2) && (!(decide (b.1<=a.1) && decide (a.2<=b.2)) && !(decide (a.1<=b.1) && decide (b.2<=a.2))))):=rfl
   generalize (decide (b.1<=a.1) && decide (a.2<=b.2))=L1 at *
   generalize (decide (a.1<=b.1) && decide (b.2<=a.2))=L2 at *
   (repeat refine yY Z ?_);refine zX zi ⟨(sp b),(idx rfl hb),?_⟩
   repeat' first | ((repeat refine yY Z ?_);refine iF Z (fun d=>?_) (fun d=>?_)) | ((repeat refine yY Z ?_);refine zX zi ⟨_,_,c1,?_⟩) | ((repeat refine yY Z ?_);refine zX zi ⟨_,_,c2,?_⟩)
   all_goals (first | ((repeat refine yY Z ?_);refine zA zi ?_) | ((repeat refine yY Z ?_);refine aa zi ?_))
   all_goals first
    | (
      refine And.intro ?_ trivial
      have kb:z7 a b=true:=by
       simp only[kc,Bool.and_eq_true,decide_eq_true_eq,Bool.not_eq_true']
       exact⟨by assumption,by assumption,by assumption,by assumption⟩
      rw[if_pos (List.any_eq_true.2 ⟨b,List.mem_of_getElem? hb,kb⟩)] at cf
      rw[cL (au hi.2 (by omega) cf (by decide)) (by decide)];rfl)
    | (
      refine And.intro ⟨by omega,by omega⟩ ?_
      have kb:z7 a b=false:=by
       simp only[kc,Bool.and_eq_false_iff,decide_eq_false_iff_not,Bool.not_eq_false']
       first | exact .inl (by assumption) | exact .inr (.inl (by assumption)) | exact .inr (.inr (.inl (by assumption))) | exact .inr (.inr (.inr (by assumption)))
      (repeat refine yY Z ?_);refine ae ⟨(j+1),_,aD.refl _ _,?_⟩
      exact⟨⟨by omega,fE (p:=z7 a) hb kb hj.2⟩,by omega,⟨Z,Z,Z,Z,Z,Z,Z,Z,Z,Y⟩,⟨Z,Y⟩⟩)
  (repeat refine yY Z ?_);refine zA zi (And.intro ⟨by omega,by omega⟩ ?_)
  have Fh:=hj.2
  rw[List.take_of_length_le (by rw[List.length_take];omega)] at Fh
  rw[if_neg (by rw[Bool.not_eq_true,List.any_eq_false];exact fun z hz=>by rw[Fh z hz];decide)] at cf
  (repeat refine yY Z ?_);refine ae ⟨(i+1),_,aD.refl _ _,?_⟩
  exact⟨⟨by omega,cc hi.2 cf⟩,by omega,⟨Z,Z,Z,Z,Z,Y⟩,trivial⟩
 have z2:aH (xX B) 0 B.length=0:=aT fun k _ hk=>hi.2 k (by omega)
 rw[fj z2]
 (repeat refine yY Z ?_);refine zA zi (And.intro ⟨by omega,by omega,by omega,jX fun _=>rfl⟩ ?_)
 have eD:((B.map sp).take ((B.map sp).length:Int).toNat).drop (q:Int).toNat=P.map sp:=by
  rw[Int.toNat_natCast,Int.toNat_natCast,List.take_length,JO]
 (repeat refine yY Z ?_)
 refine ak (fun i:Nat=>i<=P.length/\∀k,k < i->Bq B P k=0) (fun i=>[(11,.p (.sl (B.map sp))),(142,.p (.sl (P.map sp))),(143,.p (i64 P.length)),(144,.p (i64 i))]) (fun _=>[]) (fun i=>P.length - i) 0 _ (aD.refl _ _) ⟨Nat.zero_le _,fun k h=>by omega⟩ ⟨rfl,congrArg (fun r=>AV.p (PV.sl r)) eD,aS (by rw[eD,lP]),Z,Y⟩ trivial fun i hi t h=>?_
 (repeat refine yY Z ?_);refine iF Z (fun h3=>?_) (fun h3=>?_)
 ·obtain⟨a,ha⟩:=aj (l:=P) (i:=i) (by omega)
  have cf:Bq B P i=if oK B a (a.2 - a.1 - 1).toNat=true then 11 else 0:=by simp only[Bq,ha]
  obtain⟨p1,p2,p3⟩:=DN a (List.mem_of_getElem? ha)
  obtain⟨K,hK⟩:∃K,K=(a.2 - a.1 - 1).toNat:=⟨_,rfl⟩
  rw[<-hK] at cf
  (repeat refine yY Z ?_);refine zX zi ⟨(sp a),(idx rfl ha),?_⟩
  (repeat refine yY Z ?_);refine zA zi (And.intro ⟨by omega,by omega⟩ ?_)
  (repeat refine yY Z ?_)
  refine ak (fun k:Nat=>k<=K/\oK B a k=false) (fun k=>[(11,.p (.sl (B.map sp))),(142,.p (.sl (P.map sp))),(143,.p (i64 P.length)),(144,.p (i64 i)),(18,.p (.ip (sp a))),(19,.bx 19 0)]) (fun k=>[(19,.box [.p (i64 (a.1+1+(k:Int)))])]) (fun k=>K - k) 0 _ (aD.eh hC _ 18 (y:=.ip (sp a)) (fz:=[(18,.gC (sp a))]) ⟨rfl,rfl⟩) ⟨Nat.zero_le _,rfl⟩ ⟨Z,Z,Z,Z,Z,Z,Y⟩ ⟨by simp only[Int.natCast_zero,Int.add_zero];rfl,trivial⟩ fun k hk t h=>?_
  skip
  refine mH ?_
  (repeat refine yY Z ?_);refine iF Z (fun h4=>?_) (fun h4=>?_)
  ·have yx:k < K:=by omega
   have hg:=z_ B a k
   rw[hk.2,Bool.false_or] at hg
   (repeat refine yY Z ?_);refine ae ?_
   refine JQ 19 (y:=.ip [i64 (a.1+1+(k:Int))]) (fz:=[(19,.gC [i64 (a.1+1+(k:Int))])]) (by exact hC) (by exact⟨rfl,rfl⟩) ?_
   have Mz:=vZ B (by omega) a (a.1+1+(k:Int))
   cases hB:B.any (xW a (a.1+1+(k:Int))) with
   | false=>
    rw[hB] at Mz hg
    (repeat refine yY Z ?_);refine zX zi ⟨_,_,Mz,?_⟩
    (repeat refine yY Z ?_);refine aa zi (And.intro ?_ trivial)
    rw[if_pos (ES hg yx)] at cf
    rw[au hi.2 (by omega) cf (by decide)];rfl
   | true=>
    rw[hB] at Mz hg
    (repeat refine yY Z ?_);refine zX zi ⟨_,_,Mz,?_⟩
    (repeat refine yY Z ?_);refine zA zi (And.intro ⟨by omega,by omega⟩ ?_)
    (repeat refine yY Z ?_);refine ae ⟨(k+1),_,aD.refl _ _,?_⟩
    exact⟨⟨by omega,hg⟩,by omega,⟨Z,Z,Z,Z,Z,Z,Y⟩,⟨congrArg (fun x:Int=>AB.box [AV.p (i64 x)]) (by omega),trivial⟩⟩
  have e:k=K:=by omega
  rw[<-e,hk.2,if_neg (by decide)] at cf
  (repeat refine yY Z ?_);refine zA zi (And.intro ⟨by omega,by omega⟩ ?_)
  (repeat refine yY Z ?_);refine ae ⟨(i+1),_,aD.refl _ _,?_⟩
  exact⟨⟨by omega,cc hi.2 cf⟩,by omega,⟨Z,Z,Z,Z,Y⟩,trivial⟩
 (repeat refine yY Z ?_);refine aa zi (And.intro ?_ trivial)
 rw[aT fun k _ hk=>hi.2 k (by omega)];rfl
open aK (iB)
def iD {α β:Type} (f:Nat->α->β) (l:List α) (i:Nat):List β:=(List.range i).filterMap fun k=>l[k]?.map (f k)
theorem qu {α β:Type} {f:Nat->α->β} {l:List α} {i:Nat} {x:α} (h:l[i]?=some x):iD f l (i+1)=iD f l i++[f i x]:=by
 unfold iD
 rw[List.range_succ,List.filterMap_append]
 simp[h]
theorem Aa {α β:Type} (f:Nat->α->β) (l:List α) (i:Nat):(iD f l i).length<=i:=Nat.le_trans (List.length_filterMap_le _ _) (by simp)
def cY (l:List (Int×Int)) (b:Int×Int) (j:Nat):List Int:=(iB (fun x=>decide (x=b)) l j).map fun k:Nat=>(k:Int)
theorem Ab {l:List (Int×Int)} {b x:Int×Int} {j:Nat} (h:l[j]?=some x):cY l b (j+1)=cY l b j++if x=b then [(j:Int)] else []:=by
 unfold cY
 rw[aK.ka h,List.map_append]
 congr 1
 by_cases e:x=b <;> simp[e]
theorem CG (l:List (Int×Int)) (b:Int×Int) (j:Nat):(cY l b j).length<=j:=by
 unfold cY
 rw[List.length_map]
 exact aK.oG _ _ _
def oL (q:Nat) (l:List (Int×Int)) (i:Nat) (b:Int×Int):List PV:=[i64 b.1,i64 b.2,bool (decide ((i:Int) < (q:Int))),ints (cY l b l.length)]
def mo (m:List cu) (s:List Lay) (l:List (Int×Int)):List (List PV):=iD (oL (a_ m s s.length).length l) (bN m s l) (bN m s l).length
def lx (m:List cu) (s:List Lay) (l:List (Int×Int)):List PV:=if bK m s l=0 then [.sl (mo m s l),i64 0] else [.sl [],i64 (bK m s l)]
theorem Ac {m:List cu} {s:List Lay} {l:List (Int×Int)} (h:bK m s l=0):bg m s=0/\l.length<=200/\(∀x∈l,1<=x.1/\x.1 < x.2/\x.2<=nC m s s.length):=by
 obtain⟨h1,h2⟩:=dZ h
 split at h2
 ·cases h2
 obtain⟨h3,_⟩:=dZ h2
 exact⟨h1,by omega,uo fun k hk=>cD h3 k (Nat.zero_le _) (by omega)⟩
theorem tz (m:List cu) (s:List Lay) (l:List (Int×Int)) (hm:pC m) (hs:oA s) (hN:l.length<=1048576):af C 81 [.pv (.sl (m.map l7)),.pv (.sl (s.map mM)),.pv (.sl (l.map sp))] (.tu (lx m s l)) []:=by
 by_cases e0:bK m s l=0
 ·rw[lx,if_pos e0]
  obtain⟨g1,Rl,rh⟩:=Ac e0
  have gm:=js (dZ g1).1
  have gl:=gm.len
  have Gv:=hs.1
  have CS:=xU (m:=m) (s:=s) (i:=s.length)
  have Gx:=jw m s l hm hs hN
  rw[e0] at Gx
  have OS:=oJ m s l gm.ord (by omega) Gv (by omega) fun x hx=>by
   have:=rh x hx
   exact⟨⟨by omega,by omega⟩,by omega,by omega⟩
  obtain⟨Rm,Rn⟩:=kd (m:=m) (s:=s) (l:=l)
  rw[mo]
  generalize bN m s l=B at *
  generalize (a_ m s s.length).length=q at *
  have lB:=ai B sp
  have lm:=ai l sp
  refine ah hC Tryz.func81 rfl rfl 69 rfl (by decide) (by kernel_rfl) fun _ _ _ _ _=>?_
  (repeat refine yY Z ?_);refine zX zi ⟨_,_,Gx,?_⟩
  (repeat refine yY Z ?_);refine zX zi ⟨_,_,OS,?_⟩
  (repeat refine yY Z ?_)
  refine ak (fun i:Nat=>i<=B.length) (fun i=>[(2,.p (.sl (l.map sp))),(9,.p (.sl (B.map sp))),(10,.p (i64 q)),(11,.ow 11),(31,.p (.sl (B.map sp))),(32,.p (i64 B.length)),(33,.p (i64 i))]) (fun i=>[(11,.row 63 (iD (oL q l) B i))]) (fun i=>B.length - i) 0 _ (aD.eG hC _ 11 63 _ (by decide) rfl rfl (by decide)) (Nat.zero_le _) ⟨rfl,rfl,rfl,rfl,rfl,congrArg (fun n:Nat=>AV.p (i64 n)) lB,Z,Y⟩ ⟨Z,Y⟩ fun i hi t h=>?_
  (repeat refine yY Z ?_);refine iF Z (fun h2=>?_) (fun h2=>?_)
  ·obtain⟨b,hb⟩:=aj (l:=B) (i:=i) (by omega)
   have qU:=qu (f:=oL q l) hb
   have qJ:=Aa (oL q l) B i
   (repeat refine yY Z ?_);refine zX zi ⟨(sp b),(idx rfl hb),?_⟩
   (iterate 20 refine yY Z ?_)
   refine mH ?_
   (repeat refine yY Z ?_)
   refine ak (fun j:Nat=>j<=l.length) (fun j=>[(2,.p (.sl (l.map sp))),(9,.p (.sl (B.map sp))),(10,.p (i64 q)),(11,.ow 11),(31,.p (.sl (B.map sp))),(32,.p (i64 B.length)),(33,.p (i64 i)),(13,.bx 13 0),(14,.bx 14 0),(46,.p (.sl (l.map sp))),(47,.p (i64 l.length)),(48,.p (i64 j))]) (fun j=>[(11,.row 63 (iD (oL q l) B i)),(13,.box ((sp b).map .p)),(14,.box [.p (i64 b.1),.p (i64 b.2),.p (bool (decide ((i:Int) < (q:Int)))),.ow 90000]),(90000,.row 3 ((cY l b j).map fun n=>[i64 n]))]) (fun j=>l.length - j) 0 _ (aD.va hC _ 14 3 90000 3 _ _ (by decide) (by decide) rfl rfl rfl (by decide)) (Nat.zero_le _) ⟨rfl,rfl,rfl,rfl,rfl,rfl,rfl,rfl,rfl,rfl,congrArg (fun n:Nat=>AV.p (i64 n)) lm,Z,Y⟩ ⟨Z,Z,Z,Z,Y⟩ fun j hj t h=>?_
   (repeat refine yY Z ?_);refine iF Z (fun h3=>?_) (fun h3=>?_)
   ·obtain⟨x,hx⟩:=aj (l:=l) (i:=j) (by omega)
    have MA:=Ab (b:=b) hx
    have O_:=CG l b j
    have lh:=ai (cY l b j) fun n=>[i64 n]
    (repeat refine yY Z ?_);refine zX zi ⟨(sp x),(idx rfl hx),?_⟩
    (repeat refine yY Z ?_);refine iF Z (fun h4=>?_) (fun h4=>?_) <;> try simp only[zB] at h4
    ·rw[qX] at h4
     rw[if_pos (of_decide_eq_true h4)] at MA
     (repeat refine yY Z ?_);refine zA zi (And.intro ⟨by simp,by rw[lh];simp;omega,by rw[lh];simp;omega⟩ ?_)
     (repeat refine yY Z ?_);refine zA zi (And.intro ⟨by omega,by omega⟩ ?_)
     (repeat refine yY Z ?_);refine ae ?_
     refine⟨j+1,_,aD.JI _ 60 90000 (by decide) (by decide),by omega,by omega,⟨Z,Z,Z,Z,Z,Z,Z,Z,Z,Z,Z,Z,Y⟩,⟨rfl,rfl,rfl,?_,trivial⟩⟩
     show AB.row _ _=AB.row _ _
     rw[MA,List.map_append]
     rfl
    rw[qX] at h4
    rw[if_neg (of_decide_eq_false h4),List.append_nil] at MA
    (repeat refine yY Z ?_);refine zA zi (And.intro ⟨by omega,by omega⟩ ?_)
    (repeat refine yY Z ?_);refine ae ⟨(j+1),_,aD.refl _ _,?_⟩
    exact⟨by omega,by omega,⟨Z,Z,Z,Z,Z,Z,Z,Z,Z,Z,Z,Z,Y⟩,⟨rfl,rfl,rfl,by rw[MA];rfl,trivial⟩⟩
   have e:j=l.length:=by omega
   (repeat refine yY Z ?_);refine ae ?_
   refine JP (aD.vc (by exact hC) _ 14 3 90000 3 _ _ (by decide) (by exact rfl) (by exact rfl) (by exact rfl)) ?_
   (repeat refine yY Z ?_);refine zA zi (And.intro ⟨by simp,by simp;omega,by simp;omega⟩ ?_)
   (repeat refine yY Z ?_);refine zA zi (And.intro ⟨by omega,by omega⟩ ?_)
   (repeat refine yY Z ?_);refine ae ⟨(i+1),_,aD.refl _ _,?_⟩
   refine⟨by omega,by omega,⟨Z,Z,Z,Z,Z,Z,Z,Y⟩,⟨?_,trivial⟩⟩
   show AB.row _ _=AB.row _ _
   rw[qU,oL,<-e]
   rfl
  have e:i=B.length:=by omega
  (repeat refine yY Z ?_);refine aa zi ?_
  rw[e]
  exact⟨Z,Y⟩
 rw[lx,if_neg e0]
 have Gx:=jw m s l hm hs hN
 refine ah hC Tryz.func81 rfl rfl 69 rfl (by decide) (by kernel_rfl) fun _ _ _ _ _=>?_
 (repeat refine yY Z ?_);refine zX zi ⟨_,_,Gx,?_⟩
 (repeat refine yY Z ?_);refine iF Z (fun g=>?_) (fun g=>?_)
 ·(repeat refine yY Z ?_);refine aa zi (And.intro ?_ trivial)
  rfl
 exact absurd (by simpa using g) e0
end M
end Go.Proofs.YtiaifckpmefinaaGreatDoor
