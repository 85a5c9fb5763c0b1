/- Part 9 of 14 of the proof of RulesHarderBreakMore (the names are shortened by a program: the size of a claim is limited). -/
import Derived.Test.YtpbkimanfahbgaaGreatDoorH08
import Derived.Lib.AppendIntMem
import Derived.Lib.ItoaLen
set_option linter.unusedVariables false
set_option linter.unusedSimpArgs false
set_option maxRecDepth 100000
set_option maxHeartbeats 8000000
namespace Go.Proofs.YtpbkimanfahbgaaGreatDoor
open Go.RowKit Go.Shelf
open Go.AM (Fr)
section
variable {P:Program}
theorem Db (w:World) (t u ty e:TypeId) (i:TypeInfo) (ht:P.underlying t=some (.slice e)) (hu:P.underlying u=some .string) (hi:P.info? e=some i) (hz:i.zero=some (.int .u8 0)) (Bb:i.size=1) (LW:i.bytes=1)
  (v:Value) (n:Nat) (xs:List Value) (hown:w.ownsRow 0 e 1 v n xs) (s:ByteArray) (Jk:n+s.size<=maxLen) (pE:n+s.size<=140737488355328):
  ∃v' w',(Builtin.append_ #[t,u] ty #[v,.string s]).run P w=.ok v' w'/\w'.ownsRow 0 e 1 v' (n+s.size) (xs++Lib.strCells s)/\w.grownBy w' v.ownBlock/\(v'.ownBlock=v.ownBlock\/v'.ownBlock=some w.heap.size):=by
 obtain⟨v',w',hr,h2,h3,h4⟩:=Lib.run_append_own_string (P:=P) w 0 t u ty e i ht hu hi hz Bb LW v n xs hown s Jk pE (Nat.zero_le _)
 refine⟨v',w',hr,h2,h3,?_⟩
 have KA:xs.length=n:=by simpa using hown.1
 have LQ:n+s.size<=9223372036854775807:=by simp only[maxLen] at Jk;omega
 rcases hown.2 with⟨rfl,rfl⟩ | ⟨g,cap,cur,rfl,Mq,hg,LP,Qr,m_,KB⟩
 ·by_cases hm:s.size=0
  ·rw[h4.2 ⟨rfl,hm⟩]
   exact .inl rfl
  have iD:=run_append_nil_string (P:=P) w t u ty e i (.int .u8 0) ht hu hi hz s (by omega) (by omega) (by rw[LW];omega)
  rw[hr] at iD
  injection iD with iD
  rw[iD]
  exact .inr rfl
 by_cases DX:n+s.size<=cap
 ·have UW:cur.size=cap:=by simpa using m_
  have iD:=Lib.run_append_room_string (P:=P) w t u ty e i ht hu hi Bb g n cap cur hg s DX (by omega)
  rw[hr] at iD
  injection iD with iD
  rw[iD]
  exact .inl rfl
 have holds:∀j u,xs[j]?=some u->w.cell? ((⟨g,0,none⟩:Addr).add j)=some u:=hown.cells (g:=g) rfl
 have iD:=Lib.run_append_grow_string (P:=P) w t u ty e i (.int .u8 0) ht hu hi hz ⟨g,0,none⟩ n cap xs (by rw[Bb];simpa using KA) holds s (by omega) (by omega) (by rw[LW];exact growslice_fits (by omega) (by omega))
 rw[hr] at iD
 injection iD with iD
 rw[iD]
 exact .inr rfl
theorem wL {w:World} {ops:Array Oper} {rest:List Oper} {o:Oper} {a:Act} {Q:Exit->Act->World->Prop} (UX:o.guard=none) (sl x:Operand) (t u:TypeId)
  (ho:o.op=.call { callee:=.builtin .append,args:=#[sl,x],argTypes:=#[t,u] }) (e:TypeId) (i:TypeInfo) (ht:P.underlying t=some (.slice e)) (hu:P.underlying u=some .string) (hi:P.info? e=some i) (hz:i.zero=some (.int .u8 0)) (Bb:i.size=1) (LW:i.bytes=1)
  (v:Value) (n:Nat) (xs:List Value) (hs:a.eval sl=v) (hown:w.ownsRow 0 e 1 v n xs) (s:ByteArray) (hx:a.eval x=.string s) (Jk:n+s.size<=maxLen) (pE:n+s.size<=140737488355328)
  (h:∀v' w',w'.ownsRow 0 e 1 v' (n+s.size) (xs++Lib.strCells s)->w.grownBy w' v.ownBlock->(v'.ownBlock=v.ownBlock\/v'.ownBlock=some w.heap.size)->wpList P ops Q rest (a.put o.dst v') w'):wpList P ops Q (o::rest) a w:=by
 refine wpList_plain UX fun K hK=>?_
 obtain⟨v',w',hr,h2,h3,h4⟩:=Db (P:=P) w t u o.type e i ht hu hi hz Bb LW v n xs hown s Jk pE
 unfold Oper.wp execOp
 simp only[ho,resolve,invoke,builtin,Sem.run_bind,Sem.run_pure,Result.andThen_ok,List.map_toArray,List.map_cons,List.map_nil,hs,hx,hr]
 exact hK _ _ (h v' w' h2 h3 h4)
end
structure BS (b:Nat) (bs:List Value) (u0 u1:Value) (w:World):Prop where
 heap:w.heap[b]?=some (.cells #[u0,u1] 127 (0,0))
 self:u0=.pointer none\/u0=.pointer (some ⟨b,0,none⟩)
 own:w.ownsRow 0 5 1 u1 bs.length bs
 ne:u1.ownBlock≠some b
theorem BS.is {b:Nat} {bs:List Value} {u0 u1:Value} {w:World} (h:BS b bs u0 u1 w):Lib.IsBuilder 127 5 0 b bs w:=by
 rcases h.self with e | e
 ·exact .inl ⟨Nat.zero_le _,u1,by rw[<-e];exact h.heap,h.own,h.ne⟩
 exact .inr ⟨Nat.zero_le _,u1,by rw[<-e];exact h.heap,h.own,h.ne⟩
theorem BS.lt {b:Nat} {bs:List Value} {u0 u1:Value} {w:World} (h:BS b bs u0 u1 w):b < w.heap.size:=by
 rcases Nat.lt_or_ge b w.heap.size with h' | h'
 ·exact h'
 have:=h.heap
 simp[Array.getElem?_eq_none h'] at this
theorem BS.below {b:Nat} {bs:List Value} {u0 u1:Value} {w w':World} (h:BS b bs u0 u1 w) (hb:Below w.heap.size w w'):BS b bs u0 u1 w':=by
 have lt:∀k o,w.heap[k]?=some o->k < w.heap.size:=fun k o hk=>by
  rcases Nat.lt_or_ge k w.heap.size with h' | h'
  ·exact h'
  simp[Array.getElem?_eq_none h'] at hk
 refine⟨(hb.block b h.lt).trans h.heap,h.self,⟨h.own.1,?_⟩,h.ne⟩
 rcases h.own.2 with h | ⟨g,cap,cur,hv,hg,hh,r⟩
 ·exact .inl h
 exact .inr ⟨g,cap,cur,hv,hg,(hb.block g (lt _ _ hh)).trans hh,r⟩
theorem Dc (b:Nat) (bs:List Value) (u0 u1:Value) (w:World) (h:BS b bs u0 u1 w):
  Calls Tryz.prog 108 #[.pointer (some ⟨b,0,none⟩)] w fun e w'=>e=.returned (.tuple #[])/\(BS b bs (.pointer (some ⟨b,0,none⟩)) u1 w'/\Fr (fun k=>k=b) w w'/\w'.heap.size=w.heap.size):=by
 rcases h.self with e | e
 ·have hB:Lib.BuilderAt 127 5 0 b (.pointer none) bs w:=⟨Nat.zero_le _,u1,by rw[<-e];exact h.heap,h.own,h.ne⟩
  refine (nm b w hB.cell0 hB.shape hB.frozen0).mono ?_
  rintro e' w' ⟨rfl,rfl⟩
  have hs:(w.setCell ⟨b,0,none⟩ (.pointer (some ⟨b,0,none⟩))).heap.size=w.heap.size:=by simp[World.setCell]
  refine⟨rfl,⟨?_,.inr rfl,?_,h.ne⟩,⟨rfl,rfl,rfl,Nat.le_of_eq hs.symm,fun k _ hn=>Below.heap_setCell _ _ _ _ hn⟩,hs⟩
  ·have:=h.heap
   simp[World.setCell,Array.getElem?_modify,this]
  refine h.own.kept (row:=some b) ⟨rfl,rfl,rfl,by simp[World.setCell],fun k _ hk=>Below.heap_setCell _ _ _ _ (fun e=>hk (by simp[e]))⟩ ?_
  exact Or.inr h.ne
 have hB:Lib.BuilderAt 127 5 0 b (.pointer (some ⟨b,0,none⟩)) bs w:=⟨Nat.zero_le _,u1,by rw[<-e];exact h.heap,h.own,h.ne⟩
 refine (oc b w hB.cell0).mono ?_
 rintro e' w' ⟨rfl,rfl⟩
 exact⟨rfl,⟨by rw[<-e];exact h.heap,.inr rfl,h.own,h.ne⟩,Fr.refl _ _,rfl⟩
theorem MG (b:Nat) (bs:List Value) (u0 u1:Value) (s:ByteArray) (w:World) (h:BS b bs u0 u1 w) (hlen:bs.length+s.size<=140737488355328):
  Calls Tryz.prog 60 #[.pointer (some ⟨b,0,none⟩),.string s] w fun e w'=>e=.returned (.tuple #[.int .i64 s.size,.nilIface])/\∃u1',BS b (bs++Lib.strCells s) (.pointer (some ⟨b,0,none⟩)) u1' w'/\Fr (fun k=>k=b\/u1.ownBlock=some k) w w'/\∀g,u1'.ownBlock=some g->g < w'.heap.size/\(u1.ownBlock=some g\/w.heap.size<=g):=by
 obtain⟨i0,hi,Ga,OQ,hz2⟩:=info_parts Ig
 go_enter Tryz.func60,Tryz.ntmps60
 go_wp2_with (go_at_call 108;refine (Dc b bs u0 u1 _ h).mono ?_)
 rintro e w1 ⟨rfl,h1,f1,s1⟩
 obtain⟨xA,ng,hown,b8⟩:=h1
 have c0:w1.cell? ⟨b,0,none⟩=some (.pointer (some ⟨b,0,none⟩)):=by rw[Lib.cell_of_heap xA];rfl
 have c1:w1.cell? ⟨b,1,none⟩=some u1:=by rw[Lib.cell_of_heap xA];rfl
 go_wp2_with (at_builtin;refine wL rfl _ _ 125 9 rfl 5 i0 Tryz.underlying125 Tryz.underlying9 hi Ga OQ hz2 _ _ _ rfl hown s rfl ?c3 ?c4 ?_)
 case c3=>unfold maxLen;omega
 case c4=>omega
 intro v' w2 qh lZ CH
 have eL:b < w1.heap.size:=by
  rcases Nat.lt_or_ge b w1.heap.size with h' | h'
  ·exact h'
  simp[Array.getElem?_eq_none h'] at xA
 have oD:w2.heap[b]?=some (.cells #[.pointer (some ⟨b,0,none⟩),u1] 127 (0,0)):=by
  rw[lZ.block b eL (fun e=>b8 e.symm)]
  exact xA
 have d0:w2.cell? ⟨b,0,none⟩=some (.pointer (some ⟨b,0,none⟩)):=by rw[Lib.cell_of_heap oD];rfl
 have d1:w2.cell? ⟨b,1,none⟩=some u1:=by rw[Lib.cell_of_heap oD];rfl
 have V0:w2.frozen? ⟨b,1,none⟩=false:=Lib.frozen_of_heap oD 1
 obtain⟨ao,n',cap,rfl⟩:∃ao n' cap,v'=.slice ao n' cap:=by
  rcases qh.2 with⟨hv,_⟩ | ⟨g,cap,cur,hv,_⟩
  ·exact⟨_,_,_,hv⟩
  exact⟨_,_,_,hv⟩
 have UY:∀k,k < w1.heap.size->u1.ownBlock≠some k->w2.heap[k]?=w1.heap[k]?:=fun k hk hn=>lZ.block k hk fun e=>hn e.symm
 have UZ:∀g,(Value.slice ao n' cap).ownBlock=some g->g < w2.heap.size:=fun g hg=>(qh.lt g hg).2
 go_wp2
 go_ret2
 have put:=Lib.BuilderAt.put (T:=127) (e:=5) (Nat.zero_le b) oD (bs':=bs++Lib.strCells s) (by simpa [Lib.strCells_length] using qh) (by decide)
 obtain⟨_,v3,p1,p2,p3⟩:=put
 have U0:v3=.slice ao n' cap:=by
  have:(w2.setCell ⟨b,1,none⟩ (.slice ao n' cap)).heap[b]?=some (.cells #[.pointer (some ⟨b,0,none⟩),.slice ao n' cap] 127 (0,0)):=by simp[World.setCell,Array.getElem?_modify,oD]
  rw[this] at p1
  injection p1 with p1
  injection p1 with p1
  have:=congrArg (fun z=>z[1]?) p1
  simpa using this.symm
 subst U0
 have Tm:(w2.setCell ⟨b,1,none⟩ (.slice ao n' cap)).heap.size=w2.heap.size:=by simp[World.setCell]
 refine⟨rfl,.slice ao n' cap,⟨p1,.inr rfl,p2,p3⟩,⟨?_,?_,?_,?_,fun k hk hn=>?_⟩,fun g hg=>⟨?_,?_⟩⟩
 ·exact lZ.os.trans f1.os
 ·exact lZ.tape.trans f1.tape
 ·exact lZ.output.trans f1.output
 ·rw[Tm]
  exact Nat.le_trans (Nat.le_of_eq s1.symm) lZ.size
 ·rw[Below.heap_setCell _ _ _ _ (fun e=>hn (.inl e)),UY k (by omega) (fun e=>hn (.inr e))]
  exact f1.block k hk (fun e=>hn (.inl e))
 ·rw[Tm];exact UZ g hg
 rcases CH with h | h
 ·exact .inl (by rw[<-h];exact hg)
 rw[h] at hg
 injection hg with hg
 exact .inr (by omega)
end Go.Proofs.YtpbkimanfahbgaaGreatDoor
namespace Go.Proofs.YtpbkimanfahbgaaGreatDoor
open Go.RowKit Go.Shelf
open Go.AM (Fr)
theorem cF (b:Nat) (bs:List Value) (u0 u1:Value) (word:ByteArray) (l:List ByteArray) (bk off c:Nat) (w:World) (h:BS b bs u0 u1 w)
  (hcells:∀(j:Nat) x,l[j]?=some x->w.cell? ⟨bk,off+j,none⟩=some (.string x)) (hN:l.length<=1000000)
  (hlen:bs.length+(Lib.join ((word::l).map (·.data.toList)) [32]).length<=1000000000000):
  Calls Tryz.prog 59 #[.string word,.slice (some ⟨bk,off,none⟩) l.length c,.pointer (some ⟨b,0,none⟩)] w fun e w'=>e=.returned (.tuple #[])/\∃u1',BS b (bs++Lib.strCells (jd word l)) (.pointer (some ⟨b,0,none⟩)) u1' w'/\Fr (fun k=>k=b\/u1.ownBlock=some k) w w'/\∀g,u1'.ownBlock=some g->g < w'.heap.size/\(u1.ownBlock=some g\/w.heap.size<=g):=by
 obtain⟨i,hi,hz,hs,hb⟩:=info_parts Lg
 obtain⟨jt,J3⟩:∃jt:ByteArray,jt=⟨(Lib.join ((word::l).map (·.data.toList)) [32]).toArray⟩:=⟨_,rfl⟩
 have zz:jt.size=(Lib.join ((word::l).map (·.data.toList)) [32]).length:=by rw[J3];simp[ByteArray.size]
 have nz:¬9223372036854775807 < jt.size+1:=by omega
 have hsz:bs.length+(jt++⟨#[10]⟩).size<=140737488355328:=by
  rw[ByteArray.size_append,zz,show (⟨#[10]⟩:ByteArray).size=1 from rfl]
  omega
 have HS:=Lib.hid hsz
 have e1:jd word l=jt++⟨#[10]⟩:=by rw[jd,J3]
 rw[e1]
 have hl:=Lib.hid hlen
 have HJ:=Lib.hid J3
 clear hlen J3 zz hsz e1
 go_enter Tryz.func59,Tryz.ntmps59
 have b0:Below w.heap.size w (w.alloc (.cells #[.string word] 9)):=(Below.refl _ w).alloc (Nat.le_refl _) _
 go_wp2_with (at_builtin;refine wpList_append_own _ rfl _ _ 32 rfl w.heap.size 9 i _ 1 16 Tryz.underlying32 hi hz hs hb rfl (by decide) _ 1 [.string word] rfl ?o1 ⟨bk,off,none⟩ l.length c (l.map .string) rfl (by rw[List.length_map,Nat.mul_one]) ?o2 ?o3 ?o4 ?o5 ?o6 ?_)
 case o1=>exact⟨rfl,.inr ⟨w.heap.size,1,#[.string word],rfl,Nat.le_refl _,heap_alloc_new w _,Nat.le_refl _,by decide,rfl,rfl⟩⟩
 case o2=>
  intro j u hj
  rw[List.getElem?_map,Option.map_eq_some_iff] at hj
  obtain⟨x,hx,rfl⟩:=hj
  have hc:=hcells j x hx
  have:=(b0.cell (p:=⟨bk,off+j,none⟩) (World.block_lt_of_cell? _ _ hc)).trans hc
  rw[Addr.add_lit]
  exact this
 case o3=>
  intro u hu
  obtain⟨x,_,rfl⟩:=List.mem_map.1 hu
  rfl
 case o4=>unfold maxLen;omega
 case o5=>omega
 case o6=>exact b0.size
 intro v' w2 hown lZ _
 have b2:Below w.heap.size w w2:=b0.grown lZ b0.size (fun k hk=>by
  simp only[Value.ownBlock,Option.some.injEq] at hk
  exact Nat.le_of_eq hk)
 obtain⟨g,cap,cur,rfl,hg,hh,Ce,_,_,NG⟩:∃g cap cur,v'=.slice (some ⟨g,0,none⟩) (1+l.length) cap/\w.heap.size<=g/\w2.heap[g]?=some (.cells cur 9 (0,0))/\1+l.length<=cap/\cap<=maxLen/\cur.size=cap*1/\cur.toList.take ((1+l.length)*1)=[.string word]++l.map .string:=by
  rcases hown.2 with⟨_,h0⟩ | h
  ·omega
  exact h
 have RZ:g < w2.heap.size:=by
  rcases Nat.lt_or_ge g w2.heap.size with h' | h'
  ·exact h'
  simp[Array.getElem?_eq_none h'] at hh
 have hcell:∀(j:Nat) x,(word::l)[j]?=some x->w2.cell? ⟨g,0+j,none⟩=some (.string x):=fun j x hx=>by
  rw[Nat.zero_add,Lib.cell_of_heap hh]
  have h1:(cur.toList.take ((1+l.length)*1))[j]?=some (.string x):=by
   rw[NG,show [Value.string word]++l.map Value.string=(word::l).map Value.string from rfl,List.getElem?_map,hx]
   rfl
  rw[List.getElem?_take] at h1
  split at h1
  ·rw[<-Array.getElem?_toList];exact h1
  cases h1
 have Gt:BS b bs u0 u1 w2:=h.below b2
 have J:=Lf g 0 cap (word::l) ⟨#[32]⟩ w2 hcell RZ (by simp;omega) (by simp;omega) (Nat.le_trans (Nat.le_trans (Nat.le_add_left _ bs.length) hl.out) (by omega))
 rw[show (word::l).length=1+l.length by simp;omega] at J
 have JJ:=Lib.hid J
 clear J
 have JK:Hid (Calls Tryz.prog 61 #[.slice (some ⟨g,0,none⟩) (1+l.length) cap,.string ⟨#[32]⟩] w2 fun e w'=>e=.returned (.string jt)/\Below w2.heap.size w2 w'):=Lib.hid (by rw[HJ.out];exact JJ.out)
 clear JJ
 go_wp2_with (go_at_call 61;refine (JK.out).mono ?_;rintro e w3 ⟨rfl,b3⟩)
 refine (MG b bs u0 u1 _ w3 (Gt.below b3) HS.out).mono ?_
 rintro e w4 ⟨rfl,u1',h4,f4,g4⟩
 go_wp2
 go_end0
 have b5:Below w.heap.size w w3:=b2.trans (b3.mono b2.size)
 refine⟨rfl,u1',h4,⟨f4.os.trans b5.os,f4.tape.trans b5.tape,f4.output.trans b5.output,Nat.le_trans b5.size f4.size,fun k hk hn=>(f4.block k (Nat.lt_of_lt_of_le hk b5.size) hn).trans (b5.block k hk)⟩,fun g hg=>⟨(g4 g hg).1,?_⟩⟩
 rcases (g4 g hg).2 with h | h
 ·exact .inl h
 exact .inr (Nat.le_trans b5.size h)
end Go.Proofs.YtpbkimanfahbgaaGreatDoor
namespace Go.Proofs.YtpbkimanfahbgaaGreatDoor
namespace M
open Go.AM Go.RowKit Go.Lib
open Reg (aB bC ax)
theorem pq:∀a b:List UInt8,Op.bytesLess a b=true\/a=b\/Op.bytesLess b a=true
 | [],[]=>.inr (.inl rfl)
 | [],y::ys=>.inl rfl
 | x::xs,[]=>.inr (.inr rfl)
 | x::xs,y::ys=>by
  rw[bytesLess_eq,bytesLess_eq]
  simp only[decide_eq_true_eq,List.cons_lt_cons_iff]
  have ih:=pq xs ys
  rw[bytesLess_eq,bytesLess_eq] at ih
  simp only[decide_eq_true_eq] at ih
  rcases Nat.lt_trichotomy x.toNat y.toNat with h | h | h
  ·exact .inl (.inl (UInt8.lt_iff_toNat_lt.2 h))
  ·have e:x=y:=UInt8.toNat_inj.1 h
   subst e
   rcases ih with h | h | h
   ·exact .inl (.inr ⟨rfl,h⟩)
   ·exact .inr (.inl (by rw[h]))
   exact .inr (.inr (.inr ⟨rfl,h⟩))
  exact .inr (.inr (.inl (UInt8.lt_iff_toNat_lt.2 h)))
theorem Dd {a b:ByteArray} (h:(oN a b || decide (a=b))=false):oN b a=true:=by
 rw[Bool.or_eq_false_iff] at h
 rcases pq a.data.toList b.data.toList with h1 | h1 | h1
 ·rw[oN,h1] at h;cases h.1
 ·have:a=b:=by
   cases a with | mk a=>cases b with | mk b=>
   simp only at h1
   rw[Array.toList_inj.1 h1]
  exact absurd this (of_decide_eq_false h.2)
 exact h1
theorem tC {l:List ByteArray} (h:∀(j:Nat) a b,l[j]?=some a->l[j+1]?=some b->oN a b=true):qH l:=by
 have key:∀(d i:Nat) a b,l[i]?=some a->l[i+1+d]?=some b->oN a b=true:=fun d=>by
  induction d with
  | zero=>intro i a b ha hb;exact h i a b ha hb
  | succ d ih=>
   intro i a b ha hb
   have hl:=(List.getElem?_eq_some_iff.1 hb).1
   obtain⟨c,hc⟩:=bh (l:=l) (i:=i+1+d) (by omega)
   exact r9 (ih i a c ha hc) (h _ c b hc hb)
 refine List.pairwise_iff_getElem.2 fun i j hi hj zZ=>?_
 exact key (j - i - 1) i _ _ (List.getElem?_eq_getElem hi) (by rw[show i+1+(j - i - 1)=j by omega];exact List.getElem?_eq_getElem hj)
theorem je {f:Nat->Int}:∀{n i:Nat},dY f i n=0->∀k,i<=k->k < i+n->f k=0
 | 0,i,_,k,h1,h2=>by omega
 | n+1,i,h,k,h1,h2=>by
  rw[dY] at h
  split at h
  ·by_cases e:k=i
   ·subst e;assumption
   exact je h k (by omega) (by omega)
  contradiction
def sg (c:Class):Prop:=qH c.nets/\c.nets.length<=1000/\(∀y∈c.nets,nZ y=true)/\di c.clearance=true/\di c.width=true
theorem Bc {cs:List Class} {i:Nat} {l:List ByteArray} {j:Nat} {y:ByteArray} (h:dQ cs i l j=0) (hy:l[j]?=some y):nZ y=true/\gJ l j=false:=by
 rw[dQ,hy] at h
 simp only at h
 split at h
 ·split at h
  ·cases h
  exact⟨by assumption,by simpa using ‹¬gJ l j=true›⟩
 cases h
theorem De {cs:List Class} {i:Nat} {c:Class} (h:dD cs i=0) (hc:cs[i]?=some c):sg c:=by
 rw[dD,hc] at h
 simp only at h
 split at h
 ·split at h
  ·cases h
  split at h
  ·rename_i h0
   have hz:=je h0
   split at h
   ·rename_i h2
    rw[Bool.and_eq_true] at h2
    refine⟨tC fun j a b ha hb=>?_,by omega,fun y hy=>?_,h2.1,h2.2⟩
    ·have hl:=(List.getElem?_eq_some_iff.1 hb).1
     have:=(Bc (hz (j+1) (Nat.zero_le _) (by omega)) hb).2
     rw[gJ,hb,Nat.add_sub_cancel,ha] at this
     simp only at this
     rw[decide_eq_true (by omega:0 < j+1),Bool.true_and] at this
     exact Dd this
    obtain⟨j,hj⟩:=List.mem_iff_getElem?.1 hy
    exact (Bc (hz j (Nat.zero_le _) (by have:=(List.getElem?_eq_some_iff.1 hj).1;omega)) hj).1
   cases h
  contradiction
 cases h
structure iz (r:bR):Prop where
 cl:∀c∈r.classes,sg c
 nc:r.classes.length<=50
 na:r.areas.length<=50
 ar:∀a∈r.areas,-1<=a.layer/\Reg.aH a.region=0/\di a.clearance=true
 nums:ke r=true
theorem vg {r:bR} (h:cK r=0):iz r:=by
 rw[cK] at h
 split at h
 ·rename_i h1
  split at h
  ·rename_i h2
   rw[fc] at h2
   split at h2
   ·cases h2
   rw[kf] at h
   split at h
   ·cases h
   split at h
   ·rename_i h3
    refine⟨fun c hc=>?_,by omega,by omega,fun a ha=>?_,h1⟩
    ·obtain⟨i,hi⟩:=List.mem_iff_getElem?.1 hc
     exact De (je h2 i (Nat.zero_le _) (by have:=(List.getElem?_eq_some_iff.1 hi).1;omega)) hi
    obtain⟨i,hi⟩:=List.mem_iff_getElem?.1 ha
    have:=je h3 i (Nat.zero_le _) (by have:=(List.getElem?_eq_some_iff.1 hi).1;omega)
    rw[eV,hi] at this
    simp only at this
    split at this
    ·rename_i h4
     rw[Bool.and_eq_true,decide_eq_true_eq] at h4
     split at this
     ·split at this
      ·exact⟨h4.1,by assumption,by assumption⟩
      cases this
     contradiction
    cases this
   contradiction
  contradiction
 cases h
def Es:Class:=⟨fb,[],0,0⟩
def WH (cs:List Class) (x:ByteArray):Class:=(cs.find? fun c=>hasB c.nets x && !decide (x=fb)).getD Es
theorem J4 {α:Type} {p:α->Bool} {l:List α} {i:Nat} {x:α} (hx:l[i]?=some x) (hp:p x=true) (h:∀y∈l.take i,p y=false):l.find? p=some x:=by
 rw[<-List.take_append_drop i l,List.find?_append,List.find?_eq_none.2 (fun y hy=>by rw[h y hy];decide),Option.none_or]
 have:l.drop i=x::l.drop (i+1):=by
  obtain⟨hi,rfl⟩:=List.getElem?_eq_some_iff.1 hx
  exact List.drop_eq_getElem_cons hi
 rw[this,List.find?_cons,hp]
theorem wM (r:bR) (hg:iz r) (x:ByteArray):aD C 99 [.pv (.ag (rl r)),.pv (str x)] (.p (.ag (kl (WH r.classes x)))) []:=by
 refine aT hC Tryz.func99 rfl rfl 31 rfl (by decide) (by kernel_rfl) fun _ _ _ _ _=>?_
 have lm:=aN r.classes kl
 have nc:=hg.nc
 (refine yS<|yn Z<|aA zI<|aS<|ak<|yn Z<|aA zI<|aS<|ak<|yT<|au<|yS<|yV Z<|yP Z ?_;refine yP Z<|yP Z<|yT<|aZ ?_)
 refine aI (fun i:Nat=>i<=r.classes.length/\∀c∈r.classes.take i,(hasB c.nets x && !decide (x=fb))=false) (fun i=>[(1,.p (str x)),(4,.bx 4 0),(10,.p (.sl (r.classes.map kl))),(11,.p (i64 (r.classes.map kl).length)),(12,.p (i64 i))]) (fun _=>[(4,.box [.p (str fb),.nl,.p (i64 0),.p (i64 0)])]) (fun i=>r.classes.length - i) 0 _ (aW.refl _ _) ⟨Nat.zero_le _,by simp⟩ ⟨Z,Z,Z,Z,Z,Y⟩ ⟨Z,Y⟩ fun i hi t h=>?_
 obtain⟨q1,q2⟩:=hi
 (refine yS<|yP Z<|yT<|au<|az Z ?_;refine aa (fun h1=>?_) (fun h1=>?_) <;> try simp only[zB] at h1)
 ·obtain⟨c,hc⟩:=bh (l:=r.classes) (i:=i) (by omega)
  obtain⟨c1,c2,c3,c4,c5⟩:=hg.cl c (List.mem_of_getElem? hc)
  (refine aJ<|aj<|au<|aZ<|yS<|yq Z<|aK zI ?_;refine⟨(kl c),(idx rfl hc),?_⟩)
  ((refine yk<|yP Z<|yn Z<|aA zI<|aS<|ak<|yq Z<|aA zI<|bd<|aF<|an<|yU<|yV Z<|yP Z ?_;refine yP Z<|yn Z<|aK zI ?_);refine⟨_,_,(y_ c.nets x c1 (by omega)),?_⟩)
  have round:(hasB c.nets x && !decide (x=fb))=false->∀d∈r.classes.take (i+1),(hasB d.nets x && !decide (x=fb))=false:=fun hb d hd=>by
   rw[cw hc,List.mem_append,List.mem_singleton] at hd
   rcases hd with hd | hd
   ·exact q2 d hd
   rw[hd];exact hb
  (refine b9 Z Z<|bq<|yq Z<|aA zI<|bd<|bq<|yP Z<|yP Z<|yA Z<|yA Z<|yU<|yP Z<|yP Z<|yg Z ?_;refine aa (fun h2=>?_) (fun h2=>?_) <;> try simp only[zB] at h2)
  ·(refine bS<|bA Z Z<|aA zI<|yk<|y1 Z<|yP Z<|yT<|az Z ?_;refine aa (fun h3=>?_) (fun h3=>?_) <;> try simp only[zB] at h3)
   ·have h3:¬x=fb:=h3
    ((refine yS<|yP Z<|yq Z<|aA zI<|bd<|aF<|an<|yT<|bP<|bW<|aX<|aX<|bW<|aX ?_;refine bQ zi ?_);refine And.intro ?_ trivial)
    rw[WH,J4 hc (by rw[h2,decide_eq_false h3];rfl) q2]
    rfl
   have h3:x=fb:=by simpa [fb] using h3
   (refine aJ<|bp<|aj<|aM<|yq Z<|bg zI ?_;refine sI ?_)
   (refine yk<|yP Z<|yT<|ai ?_;refine⟨(i+1),_,aW.refl _ _,?_⟩)
   exact⟨⟨by omega,round (by rw[decide_eq_true h3];simp)⟩,by omega,⟨Z,Z,Z,Z,Z,Y⟩,⟨Z,Y⟩⟩
  (refine cB<|ae<|y0 Z<|yP Z<|yT<|az Z<|cM<|aJ<|bp<|aj<|aM<|yq Z<|bg zI ?_;refine sI ?_)
  (refine yk<|yP Z<|yT<|ai ?_;refine⟨(i+1),_,aW.refl _ _,?_⟩)
  exact⟨⟨by omega,round (by rw[h2];rfl)⟩,by omega,⟨Z,Z,Z,Z,Z,Y⟩,⟨Z,Y⟩⟩
 have e:i=r.classes.length:=by omega
 (refine bT<|aY<|aY<|bU<|aj<|yS<|yP Z<|yq Z<|aA zI<|bd<|aF<|an<|yR zi ?_;refine And.intro ?_ trivial)
 rw[e,List.take_length] at q2
 rw[WH,List.find?_eq_none.2 (fun y hy=>by rw[q2 y hy];decide)]
 rfl
def dB (r:bR) (x:ByteArray):Int:=if 0 < (WH r.classes x).clearance then (WH r.classes x).clearance else r.clearance
def WA (r:bR) (x:ByteArray):Int:=if 0 < (WH r.classes x).width then (WH r.classes x).width else r.width
theorem nn (r:bR) (hg:iz r) (x:ByteArray):aD C 55 [.pv (.ag (rl r)),.pv (str x)] (.p (i64 (dB r x))) []:=by
 refine aT hC Tryz.func55 rfl rfl 15 rfl (by decide) (by kernel_rfl) fun _ _ _ _ _=>?_
 (refine yS<|yn Z<|aA zI<|aS<|ak<|yA Z<|yT<|au<|yS<|yP Z<|yP Z<|yn Z<|aK zI ?_;refine⟨_,_,(wM r hg x),?_⟩)
 (refine b9 Z Z<|ae<|yP Z<|yA Z<|yU<|yP Z<|yP Z<|yT<|az Z ?_;refine aa (fun h1=>?_) (fun h1=>?_) <;> try simp only[zB] at h1)
 ·(refine yS<|yP Z<|yA Z<|yT<|bP<|aX<|bQ zi ?_;refine And.intro ?_ trivial)
  rw[dB,if_pos h1]
 (refine aJ<|aj<|yS<|yV Z<|yP Z<|yA Z<|yR zi ?_;refine And.intro ?_ trivial)
 rw[dB,if_neg h1]
theorem Ye (r:bR) (hg:iz r) (x:ByteArray):aD C 46 [.pv (.ag (rl r)),.pv (str x)] (.p (i64 (WA r x))) []:=by
 refine aT hC Tryz.func46 rfl rfl 15 rfl (by decide) (by kernel_rfl) fun _ _ _ _ _=>?_
 (refine yS<|yn Z<|aA zI<|aS<|ak<|yA Z<|yT<|au<|yS<|yP Z<|yP Z<|yn Z<|aK zI ?_;refine⟨_,_,(wM r hg x),?_⟩)
 (refine b9 Z Z<|ae<|yP Z<|yA Z<|yU<|yP Z<|yP Z<|yT<|az Z ?_;refine aa (fun h1=>?_) (fun h1=>?_) <;> try simp only[zB] at h1)
 ·(refine yS<|yP Z<|yA Z<|yT<|bP<|aX<|bQ zi ?_;refine And.intro ?_ trivial)
  rw[WA,if_pos h1]
 (refine aJ<|aj<|yS<|yV Z<|yP Z<|yA Z<|yR zi ?_;refine And.intro ?_ trivial)
 rw[WA,if_neg h1]
def meets (layer x y:Int) (a:kd):Bool:=OG a layer && a.region.any (HY x y)
def WQ (layer x y:Int):List kd->Int->Int
 | [],m=>m
 | a::l,m=>WQ layer x y l (if meets layer x y a=true then max m a.clearance else m)
theorem XM (layer x y:Int):∀(l r:List kd) (m:Int),WQ layer x y (l++r) m=WQ layer x y r (WQ layer x y l m)
 | [],_,_=>rfl
 | _::l,r,_=>XM layer x y l r _
def WN (r:bR) (a b:ByteArray) (layer x y:Int):Int:=if 0<=WQ layer x y r.areas (-1) then WQ layer x y r.areas (-1) else max (dB r a) (dB r b)
theorem Yf (r:bR) (hg:iz r) (a b:ByteArray) (layer x y:Int):aD C 50 [.pv (.ag (rl r)),.pv (str a),.pv (str b),.pv (i64 layer),.pv (.ag [i64 x,i64 y])] (.p (i64 (WN r a b layer x y))) []:=by
 refine aT hC Tryz.func50 rfl rfl 45 rfl (by decide) (by kernel_rfl) fun _ _ _ _ _=>?_
 have lm:=aN r.areas arr
 have na:=hg.na
 (refine yS<|yn Z<|aA zI<|aS<|ak<|yn Z<|aA zI<|aS<|ak<|yA Z<|yU<|yA Z<|yT<|au ?_;refine yS<|yV Z<|yP Z<|yP Z<|yP Z<|yT<|aZ ?_)
 refine aI (fun i:Nat=>i<=r.areas.length) (fun i=>[(1,.p (str a)),(2,.p (str b)),(3,.p (i64 layer)),(5,.bx 5 0),(9,.bx 9 0),(11,.p (i64 (WQ layer x y (r.areas.take i) (-1)))),(15,.p (.sl (r.areas.map arr))),(16,.p (i64 (r.areas.map arr).length)),(17,.p (i64 i))]) (fun _=>[(5,.box (Y_ r)),(9,.box [.p (i64 x),.p (i64 y)])]) (fun i=>r.areas.length - i) 0 _ (aW.refl _ _) (Nat.zero_le _) ⟨Z,Z,Z,Z,Z,Z,Z,Z,Z,Y⟩ ⟨Z,Z,Y⟩ fun i hi t h=>?_
 (refine yS<|yP Z<|yT<|au<|az Z ?_;refine aa (fun h1=>?_) (fun h1=>?_) <;> try simp only[zB] at h1)
 ·obtain⟨c,hc⟩:=bh (l:=r.areas) (i:=i) (by omega)
  have hl:=C2 (hg.ar c (List.mem_of_getElem? hc)).2.1
  have mo:WQ layer x y (r.areas.take (i+1)) (-1)=(if meets layer x y c=true then max (WQ layer x y (r.areas.take i) (-1)) c.clearance else WQ layer x y (r.areas.take i) (-1)):=by rw[cw hc,XM];rfl
  (refine aJ<|aj<|au<|aZ<|yS<|yq Z<|aK zI ?_;refine⟨(arr c),(idx rfl hc),?_⟩)
  ((refine yk<|yP Z<|yn Z<|aA zI<|aS<|ak<|yq Z<|aA zI<|bd<|aF<|an<|yU<|yP Z<|yP Z ?_;refine yn Z<|aK zI ?_);refine⟨_,_,(C0 c layer),?_⟩)
  (refine b9 Z Z<|ae<|yP Z<|yg Z ?_;refine aa (fun h2=>?_) (fun h2=>?_) <;> try simp only[zB] at h2)
  ·(refine bS<|bA Z Z<|aA zI<|bd<|ak<|y1 Z<|y1 Z<|y2 Z<|jB Z Z Z<|aK zI ?_;refine⟨_,_,(nk c.region (by omega) x y),?_⟩)
   (refine b9 Z Z<|ae<|yP Z<|yT<|az Z ?_;refine aa (fun h3=>?_) (fun h3=>?_) <;> try simp only[zB] at h3)
   ·(refine aM<|yP Z<|yV Z<|yP Z<|yP Z<|yA Z<|cL<|bp<|aj<|aM<|yq Z<|bg zI ?_;refine sI ?_)
    (refine yk<|yP Z<|yT<|ai ?_;refine⟨(i+1),_,aW.refl _ _,?_⟩)
    rw[if_pos (by rw[meets,h2,h3];rfl)] at mo
    exact⟨by omega,by omega,⟨rfl,rfl,rfl,rfl,rfl,cd (by rw[mo]),Z,Z,Z,Y⟩,⟨Z,Z,Y⟩⟩
   (refine aJ<|bp<|aj<|aM<|yq Z<|bg zI ?_;refine sI ?_)
   (refine yk<|yP Z<|yT<|ai ?_;refine⟨(i+1),_,aW.refl _ _,?_⟩)
   rw[if_neg (by rw[meets,h2,h3];decide)] at mo
   exact⟨by omega,by omega,⟨rfl,rfl,rfl,rfl,rfl,cd (by rw[mo]),Z,Z,Z,Y⟩,⟨Z,Z,Y⟩⟩
  ((refine cB<|ae<|y0 Z<|y0 Z<|y0 Z<|yP Z<|yT<|az Z<|cM<|aJ<|bp<|aj<|aM<|yq Z ?_;refine bg zI ?_);refine sI ?_)
  (refine yk<|yP Z<|yT<|ai ?_;refine⟨(i+1),_,aW.refl _ _,?_⟩)
  rw[if_neg (by rw[meets,h2];simp)] at mo
  exact⟨by omega,by omega,⟨rfl,rfl,rfl,rfl,rfl,cd (by rw[mo]),Z,Z,Z,Y⟩,⟨Z,Z,Y⟩⟩
 have e:i=r.areas.length:=by omega
 subst e
 have tl:r.areas.take r.areas.length=r.areas:=List.take_length
 (refine bT<|aY<|aY<|bU<|aj<|au<|yS<|yP Z<|yP Z<|yT<|az Z ?_;refine aa (fun h2=>?_) (fun h2=>?_) <;> try simp only[zB] at h2)
 ·(refine yS<|yP Z<|yA Z<|yT<|bP<|aX<|bQ zi ?_;refine And.intro ?_ trivial)
  rw[tl] at h2 ⊢
  rw[WN,if_pos h2]
 ((refine aJ<|aj<|au<|cH [] false RE rfl (by kernel_rfl)<|ay Z<|ay Z<|cA Z Z<|ay Z<|ay Z<|cA Z Z<|cG Z<|yD Z<|yD Z<|dq Z ?_;refine aK zI ?_);refine⟨_,_,(nn r hg a),?_⟩)
 (refine bB<|ae<|yD Z<|yD Z<|dq Z<|aK zI ?_;refine⟨_,_,(nn r hg b),?_⟩)
 ((refine bB<|ae<|yD Z<|yD Z<|cn<|aq Z<|aq Z<|aq Z<|aq Z<|aq Z<|aq Z<|aq Z<|dW Z Z<|fo Z ?_;refine aj<|bP<|bQ zi ?_);refine And.intro ?_ trivial)
 rw[tl] at h2
 rw[WN,if_neg h2];rfl
def Be (l:List UInt8):ByteArray:=⟨l.toArray⟩
theorem Bf (l:List UInt8):(Be l).data.toList=l:=rfl
theorem Et (a b:List UInt8):Be a++Be b=Be (a++b):=by
 apply ByteArray.ext
 apply Array.ext'
 simp[Be]
def OR (n:Int):Prop:=-9223372036854775808<=n/\n<=9223372036854775807
theorem dE (n:Int) (h:OR n):aD C 62 [.pv (i64 n)] (.p (str (Be (Lib.itoa n)))) []:=
 rW [.int .i64 n] (.string (Be (Lib.itoa n))) ⟨_,Tryz.func62,by decide,rfl⟩ fun S w hE hS=>by
  refine (Tryz.strconv_Itoa n h.1 h.2 w hE.2.2.2).mono ?_
  rintro e w' ⟨rfl,k,os,rfl⟩
  exact⟨rfl,Lib.below_grow _ _ (Nat.le_refl _) k os⟩
def Ii (l:List Int):List UInt8:=l.flatMap fun n=>32::Lib.itoa n
theorem tU {l:List Int} (h:∀n∈l,OR n):(Ii l).length<=22*l.length:=by
 induction l with
 | nil=>simp[Ii]
 | cons n l ih=>
  have h1:=Lib.itoa_length_le n (h n (by simp)).1 (h n (by simp)).2
  have h2:=ih (fun m hm=>h m (by simp[hm]))
  simp only[Ii,List.flatMap_cons,List.length_append,List.length_cons] at h2 ⊢
  omega
def Df:List UInt8:=[114,117,108,101,115]
def Dg:List UInt8:=[99,108,97,115,115,32]
def Ij:List UInt8:=[97,114,101,97]
def tc (r:bR):List UInt8:=Df++Ii [r.clearance,r.width,r.ring,r.edge,r.holeGap]++[10]
def Bg (l:List ByteArray):List UInt8:=l.flatMap fun s=>32::s.data.toList
def pQ (l:List aB):List UInt8:=l.flatMap fun q=>Ii [q.x0,q.y0,q.x1,q.y1]
def mU (c:Class):List UInt8:=Dg++c.name.data.toList++Ii [c.clearance,c.width]++Bg c.nets++[10]
def vh (a:kd):List UInt8:=Ij++Ii [a.layer,a.clearance]++pQ a.region++[10]
def Bh (r:bR):List UInt8:=tc r++r.classes.flatMap mU++r.areas.flatMap vh
def Bi (r:bR):ByteArray×Int:=if cK r=0 then (if 200000 < (Bh r).length then (fb,2) else (Be (Bh r),0)) else (fb,cK r)
theorem WU {n:Int} (h:di n=true):OR n:=by
 simp[di] at h
 exact⟨by omega,by omega⟩
theorem FI {l:List ByteArray} (h:∀s∈l,nZ s=true):(Bg l).length<=201*l.length:=by
 induction l with
 | nil=>simp[Bg]
 | cons s l ih=>
  have h1:(s.size:Int)<=200:=by
   have:=h s (by simp)
   simp[nZ] at this
   exact this.2
  have h2:=ih (fun m hm=>h m (by simp[hm]))
  simp only[Bg,List.flatMap_cons,List.length_append,List.length_cons] at h2 ⊢
  have:s.data.toList.length=s.size:=by simp
  omega
theorem Dh {l:List aB} (h:∀q∈l,Reg.eM q=true):(pQ l).length<=88*l.length:=by
 induction l with
 | nil=>simp[pQ]
 | cons q l ih=>
  have h1:=h q (by simp)
  simp[Reg.eM,Reg.lK] at h1
  have h2:=ih (fun m hm=>h m (by simp[hm]))
  have h3:=tU (l:=[q.x0,q.y0,q.x1,q.y1]) (fun n hn=>by
   simp at hn
   unfold OR
   rcases hn with h | h | h | h <;> subst h <;> omega)
  simp only[pQ,List.flatMap_cons,List.length_append,List.length_cons,List.length_nil] at h2 h3 ⊢
  omega
theorem qR {l:List aB} (h:Reg.aH l=0):l.length<=2000/\∀q∈l,Reg.eM q=true:=by
 unfold Reg.aH at h
 by_cases h0:Reg.dh l=0
 ·exact⟨(Reg.jY h0).1,fun q hq=>((Reg.jY h0).2 q hq).1⟩
 rw[if_neg h0] at h;exact absurd h h0
theorem vi {c:Class} (h:sg c) (hn:jv c.name):(mU c).length<=4295300000:=by
 obtain⟨_,h2,h3,h4,h5⟩:=h
 have a1:=FI h3
 have a2:=tU (l:=[c.clearance,c.width]) (fun n hn=>by
  simp at hn
  rcases hn with h | h <;> subst h <;> exact WU (by assumption))
 have a3:c.name.size < 4294967281:=hn
 have:c.name.data.toList.length=c.name.size:=by simp
 simp only[mU,List.length_append,Dg,List.length_cons,List.length_nil] at a2 ⊢
 omega
theorem xB {a:kd} (h:-1<=a.layer/\Reg.aH a.region=0/\di a.clearance=true) (hl:a.layer<=15):(vh a).length<=200000:=by
 obtain⟨h1,h2,h3⟩:=h
 obtain⟨g1,g2⟩:=qR h2
 have a1:=Dh g2
 have a2:=tU (l:=[a.layer,a.clearance]) (fun n hn=>by
  simp at hn
  rcases hn with h | h <;> subst h
  ·exact⟨by omega,by omega⟩
  exact WU h3)
 simp only[vh,List.length_append,Ij,List.length_cons,List.length_nil] at a2 ⊢
 omega
theorem fO {α:Type} {f:α->List UInt8} {k:Nat} {l:List α} (h:∀x∈l,(f x).length<=k):(l.flatMap f).length<=l.length*k:=by
 induction l with
 | nil=>simp
 | cons x l ih=>
  have h1:=h x (by simp)
  have h2:=ih (fun m hm=>h m (by simp[hm]))
  simp only[List.flatMap_cons,List.length_append,List.length_cons,Nat.add_mul]
  omega
theorem xC {α:Type} (f:α->List UInt8) {l:List α} {i:Nat} {x:α} (h:l[i]?=some x):(l.take (i+1)).flatMap f=(l.take i).flatMap f++f x:=by
 rw[cw h,List.flatMap_append];simp
theorem Bj {r:bR} (h:ke r=true):(tc r).length<=200:=by
 simp[ke] at h
 have a2:=tU (l:=[r.clearance,r.width,r.ring,r.edge,r.holeGap]) (fun n hn=>by
  simp at hn
  rcases hn with h | h | h | h | h <;> subst h <;> exact WU (by simp[h]))
 simp only[tc,List.length_append,Df,List.length_cons,List.length_nil] at a2 ⊢
 omega
theorem Bk {r:bR} (h:cK r=0):∀a∈r.areas,a.layer<=15:=by
 intro a ha
 rw[cK] at h
 split at h
 ·split at h
  ·rw[kf] at h
   split at h
   ·cases h
   split at h
   ·rename_i h3
    obtain⟨i,hi⟩:=List.mem_iff_getElem?.1 ha
    have:=je h3 i (Nat.zero_le _) (by have:=(List.getElem?_eq_some_iff.1 hi).1;omega)
    rw[eV,hi] at this
    simp only at this
    split at this
    ·rename_i h4
     rw[Bool.and_eq_true,decide_eq_true_eq,decide_eq_true_eq] at h4
     exact h4.2
    cases this
   contradiction
  contradiction
 cases h
def sh (r:bR) (i:Nat):List UInt8:=tc r++(r.classes.take i).flatMap mU
def od (r:bR) (i:Nat):List UInt8:=tc r++r.classes.flatMap mU++(r.areas.take i).flatMap vh
theorem Bl {r:bR} (hg:iz r) (ho:ic r) (i:Nat) (hi:i<=r.classes.length):(sh r i).length<=220000000000:=by
 have h1:=Bj hg.nums
 have h2:=fO (f:=mU) (k:=4295300000) (l:=r.classes.take i) (fun c hc=>vi (hg.cl c (List.mem_of_mem_take hc)) (ho.1 c (List.mem_of_mem_take hc)).1)
 have h3:=hg.nc
 rw[List.length_take,Nat.min_eq_left hi] at h2
 have h4:i*4295300000<=50*4295300000:=Nat.mul_le_mul_right _ (by omega)
 simp only[sh,List.length_append]
 omega
theorem Bm (r:bR):sh r r.classes.length=tc r++r.classes.flatMap mU:=by rw[sh,List.take_length]
theorem Ik {r:bR} (hg:iz r) (ho:ic r) (hf:cK r=0) (i:Nat) (hi:i<=r.areas.length):(od r i).length<=220010000000:=by
 have h1:=Bl hg ho _ (Nat.le_refl _)
 rw[Bm] at h1
 have h2:=fO (f:=vh) (k:=200000) (l:=r.areas.take i) (fun c hc=>xB (hg.ar c (List.mem_of_mem_take hc)) (Bk hf c (List.mem_of_mem_take hc)))
 have h3:=hg.na
 rw[List.length_take,Nat.min_eq_left hi] at h2
 have h4:i*200000<=50*200000:=Nat.mul_le_mul_right _ (by omega)
 rw[List.length_append] at h1
 simp only[od,List.length_append]
 omega
theorem J5 (r:bR):od r r.areas.length=Bh r:=by rw[od,List.take_length,Bh]
theorem J6 {S:Nat->Prop} {w:World} {x v:Value} (h:bu S w (.im x) v):v=x:=by cases h;rfl
def dI (l:List UInt8):List (List PV):=l.map fun u=>[.im (.int .u8 u.toNat)]
def dN (l:List UInt8):List Value:=l.map fun u=>.int .u8 u.toNat
theorem Lh:∃i,Tryz.prog.info? 5=some i/\i.size=1:=by
 obtain⟨i0,hi,_,OQ,_⟩:=info_parts Ig
 exact⟨i0,hi,OQ⟩
theorem FJ {w:World} {S:Nat->Prop} {l:List UInt8} {v:Value} (h:aR Tryz.prog w (bu S w) 5 (dI l) v):w.ownsRow 0 5 1 v (dN l).length (dN l):=by
 obtain⟨i,xs,h1,h2,h3,h4,h5,h6⟩:=h
 obtain⟨i0,hi,hs⟩:=Lh
 rw[hi] at h1
 cases h1
 rw[hs] at h3 h6
 have hl:xs.length=l.length:=by
  have:=h3.1
  simpa [dI] using this
 have e:xs=dN l:=by
  apply List.ext_getElem?
  intro k
  by_cases hk:k < l.length
  ·obtain⟨u,hu⟩:∃u,l[k]?=some u:=⟨_,List.getElem?_eq_getElem hk⟩
   obtain⟨z,hz,hr⟩:=h6 k [.im (.int .u8 u.toNat)] 0 (.im (.int .u8 u.toNat)) (by rw[dI,List.getElem?_map,hu];rfl) rfl
   rw[Nat.mul_one,Nat.add_zero] at hz
   cases hr
   rw[hz,dN,List.getElem?_map,hu]
   rfl
  rw[List.getElem?_eq_none (by omega),List.getElem?_eq_none (by simp[dN];omega)]
 have hb:(dI l).length=(dN l).length:=by simp[dI,dN]
 rw[<-hb,<-e]
 exact h3
theorem FK {w:World} {S:Nat->Prop} {l:List UInt8} {v:Value} (h:w.ownsRow 0 5 1 v (dN l).length (dN l)):aR Tryz.prog w (bu S w) 5 (dI l) v:=by
 obtain⟨i0,hi,hs⟩:=Lh
 have hb:(dI l).length=(dN l).length:=by simp[dI,dN]
 refine⟨i0,dN l,hi,by omega,by rw[hs,hb];exact h,fun r hr=>?_,fun u hu=>?_,fun a r j x ha hj=>?_⟩
 ·obtain⟨u,_,rfl⟩:=List.mem_map.1 hr
  rw[hs];rfl
 ·obtain⟨z,_,rfl⟩:=List.mem_map.1 hu
  rfl
 rw[dI,List.getElem?_map,Option.map_eq_some_iff] at ha
 obtain⟨u,hu,rfl⟩:=ha
 cases j with
 | zero=>
  cases hj
  refine⟨.int .u8 u.toNat,?_,.im _⟩
  rw[hs,Nat.mul_one,Nat.add_zero,dN,List.getElem?_map,hu]
  rfl
 | succ j=>cases hj
theorem vj (s:ByteArray):Lib.strCells s=dN s.data.toList:=rfl
theorem Di (a b:List UInt8):dN a++dN b=dN (a++b):=by simp[dN]
theorem Il {w:World} {S:Nat->Prop} {b:Nat} {u0 u1:Value} {l:List UInt8} (h1:w.heap[b]?=some (.cells #[u0,u1] 127 (0,0))) (h2:u0=.pointer none\/u0=.pointer (some ⟨b,0,none⟩)) (h3:aR Tryz.prog w (bu S w) 5 (dI l) u1) (h4:∀g,cU u1=some g->¬S g/\g≠b/\g < w.heap.size):BS b (dN l) u0 u1 w:=by
 have ho:=FJ h3
 obtain⟨a,c,hs⟩:=cP ho
 refine⟨h1,h2,ho,fun e=>?_⟩
 rw[cS hs] at e
 exact (h4 b e).2.1 rfl
theorem Im {S:Nat->Prop} {w:World} {l:List ByteArray} {v:Value} (hl:l≠[]) (h:bu S w (strs l) v):∃bk off c,v=.slice (some ⟨bk,off,none⟩) l.length c/\∀(j:Nat) x,l[j]?=some x->w.cell? ⟨bk,off+j,none⟩=some (.string x):=by
 unfold strs at h
 generalize he:(l.map fun s=>[str s])=es at h
 cases h with
 | nil a c=>
  cases l with
  | nil=>exact absurd rfl hl
  | cons x l=>cases he
 | sl es k b off c U hc hS hk hcell h=>
  have len:es.length=l.length:=by rw[<-he,List.length_map]
  have k1:k=1:=by
   cases l with
   | nil=>exact absurd rfl hl
   | cons x l=>
    have:=hk [str x] (by rw[<-he];simp)
    simpa using this.symm
  subst k1
  refine⟨b,off,c,by rw[len],fun j x hx=>?_⟩
  have e1:es[j]?=some [str x]:=by rw[<-he,List.getElem?_map,hx];rfl
  have a1:=(hcell j [str x] 0 (str x) e1 rfl).1
  have a2:U j 0=.string x:=J6 (h j [str x] 0 (str x) e1 rfl)
  rw[Nat.mul_one,Nat.add_zero,a2] at a1
  exact a1
theorem pR (word:ByteArray) (l:List ByteArray) (hl:l≠[]) (hN:l.length<=1000000) (bs:List UInt8) (hlen:bs.length+(Lib.join ((word::l).map (·.data.toList)) [32]).length<=1000000000000):
  xU C 59 [str word,strs l] 127 5 (dI bs) (.tu []) true (some (dI (bs++(jd word l).data.toList))):=by
 refine⟨⟨_,Tryz.func59,by decide,rfl⟩,fun S w vs b u0 u1 hE hS Li hr sR ng aL Tn hblk=>?_⟩
 obtain⟨v0,v1,rfl⟩:∃v0 v1,vs=[v0,v1]:=by
  match vs,Li with
  | [a,b],_=>exact⟨a,b,rfl⟩
 have r0:=hr 0 _ _ rfl rfl
 cases r0
 obtain⟨bk,off,c,rfl,hcell⟩:=Im hl (hr 1 _ _ rfl rfl)
 have hB:=Il sR ng aL hblk
 obtain⟨a1,c1,B9⟩:=cP hB.own
 refine (cF b (dN bs) u0 u1 word l bk off c w hB hcell hN (by rw[show (dN bs).length=bs.length by simp[dN]];exact hlen)).mono ?_
 rintro e w' ⟨rfl,u1',h4,f4,g4⟩
 obtain⟨a2,c2,Ly⟩:=cP h4.own
 have fr:Fr (fun k=>k=b\/cU u1=some k) w w':=by
  refine⟨f4.os,f4.tape,f4.output,f4.size,fun k hk hn=>f4.block k hk fun h=>hn (h.imp id fun h=>?_)⟩
  rw[<-cS B9];exact h
 refine⟨_,rfl,fr,⟨#[],rfl,rfl,fun i x u h=>(by cases h)⟩,u1',h4.heap,FK (by have:=h4.own;rw[vj,Di] at this;exact this),fun g hg=>?_⟩
 obtain⟨q1,q2⟩:=g4 g (by rw[cS Ly];exact hg)
 exact⟨q1,q2.imp (fun h=>by rw[<-cS B9];exact h) id⟩
theorem FL (bs:List UInt8):xU C 63 [] 127 5 (dI bs) (.p (i64 bs.length)) false (some (dI bs)):=by
 refine⟨⟨_,Tryz.func63,by decide,rfl⟩,fun S w vs b u0 u1 hE hS Li hr sR ng aL Tn hblk=>?_⟩
 obtain rfl:vs=[]:=by
  match vs,Li with
  | [],_=>rfl
 have hB:=Il sR ng aL hblk
 refine (Tryz.Builder_Len_f 0 b (dN bs) w (Lib.IsBuilderF.of hB.is)).mono ?_
 rintro e w' ⟨rfl,rfl⟩
 refine⟨_,rfl,Fr.refl _ _,?_,u1,sR,aL,fun g hg=>⟨(hblk g hg).2.2,.inl hg⟩⟩
 rw[show (dN bs).length=bs.length by simp[dN]]
 exact .im _
theorem OS (b:Nat) (l:List UInt8) (u0 u1:Value) (w:World) (h:BS b (Lib.byteCells l) u0 u1 w) (h0:l≠[]):
  Calls Tryz.prog 64 #[.pointer (some ⟨b,0,none⟩)] w fun e w'=>e=.returned (.string ⟨l.toArray⟩)/\Fr (fun k=>u1.ownBlock=some k) w w':=by
 obtain⟨xA,ng,hown,b8⟩:=h
 have PT:l.length≠0:=by simpa using h0
 rw[Lib.byteCells_length] at hown
 obtain⟨g,cap,cur,rfl,Mq,hg,LP,Qr,m_,KB⟩:∃g cap cur,u1=.slice (some ⟨g,0,none⟩) l.length cap/\0<=g/\w.heap[g]?=some (.cells cur 5 (0,0))/\l.length<=cap/\cap<=maxLen/\cur.size=cap*1/\cur.toList.take (l.length*1)=Lib.byteCells l:=by
  rcases hown.2 with⟨_,hz⟩ | ⟨g,cap,cur,hv,r⟩
  ·exact absurd hz PT
  exact⟨g,cap,cur,hv,r⟩
 have c1:w.drew.cell? ⟨b,1,none⟩=some (.slice (some ⟨g,0,none⟩) l.length cap):=by
  have:w.drew.heap[b]?=some (.cells #[u0,.slice (some ⟨g,0,none⟩) l.length cap] 127 (0,0)):=xA
  rw[Lib.cell_of_heap this];rfl
 have V1:(Builtin.unsafeSliceData_ #[125] 170 #[.slice (some ⟨g,0,none⟩) l.length cap]).run Tryz.prog w.drew=.ok (.pointer (some ⟨g,0,none⟩)) w.drew:=
  Lib.run_unsafeSliceData_row _ _ _ _ _ _ (by omega)
 have V2:(Builtin.unsafeString_ #[170,3] 9 #[.pointer (some ⟨g,0,none⟩),.int .i64 l.length]).run Tryz.prog w.drew=.ok (.string ⟨l.toArray⟩) (w.drew.freeze ⟨g,0,none⟩ l.length):=by
  refine Lib.run_unsafeString_row w.drew 170 3 9 5 Tryz.underlying170 (by kernel_rfl) g cur.size (by have mc:w.drew.heap[g]?=some (.cells cur 5 (0,0)):=hg;simp[World.shape?,mc]) l h0 (by omega) (by unfold maxLen at Qr;omega) ?_
  intro j x hx
  have:=hown.cells (g:=g) rfl j (.int .u8 x.toNat) (by simp[Lib.byteCells,hx])
  exact this
 have fin:Fr (fun k=>(Value.slice (some ⟨g,0,none⟩) l.length cap).ownBlock=some k) w (w.drew.freeze ⟨g,0,none⟩ l.length):=by
  unfold World.freeze
  rw[if_neg PT]
  refine⟨rfl,rfl,rfl,Nat.le_of_eq (show w.heap.size=(Array.modify w.heap g _).size from (Array.size_modify ..).symm),fun k _ hn=>?_⟩
  have OT:¬g=k:=fun e=>hn (by rw[<-e];rfl)
  show (Array.modify w.heap g _)[k]?=w.heap[k]?
  rw[Array.getElem?_modify,if_neg OT]
 have mixed:Tryz.prog.follows Departure.mixedOrders=true:=by kernel_rfl
 have FN:=Lib.hid fin
 clear fin
 go_enter Tryz.func64,Tryz.ntmps64
 go_wp2
 go_region_o
 all_goals (go_wp2;go_ret;exact⟨rfl,FN.out⟩)
theorem Dj (bs:List UInt8) (h0:bs≠[]):xU C 64 [] 127 5 (dI bs) (.p (str (Be bs))) false none:=by
 refine⟨⟨_,Tryz.func64,by decide,rfl⟩,fun S w vs b u0 u1 hE hS Li hr sR ng aL Tn hblk=>?_⟩
 obtain rfl:vs=[]:=by
  match vs,Li with
  | [],_=>rfl
 have hB:=Il sR ng aL hblk
 obtain⟨a1,c1,B9⟩:=cP hB.own
 refine (OS b bs u0 u1 w hB h0).mono ?_
 rintro e w' ⟨rfl,hf⟩
 refine⟨_,rfl,⟨hf.os,hf.tape,hf.output,hf.size,fun k hk hn=>hf.block k hk fun h=>hn (.inr (by rw[<-cS B9];exact h))⟩,.im _,trivial⟩
def zo:ByteArray:=⟨#[114,117,108,101,115]⟩
theorem Io (w:List UInt8) (l:List (List UInt8)):Lib.join (w::l) [32]=w++l.flatMap (fun s=>32::s):=by
 rw[Lib.join_cons,Lib.joinTail,List.flatMap_def]
 rfl
theorem pS (w:ByteArray) (l:List ByteArray):(jd w l).data.toList=w.data.toList++l.flatMap (fun s=>32::s.data.toList)++[10]:=by
 have e:(jd w l)=Be (Lib.join ((w::l).map (·.data.toList)) [32])++Be [10]:=rfl
 rw[e,Et,Bf,List.map_cons,Io,List.flatMap_map]
theorem vk (w:ByteArray) (l:List ByteArray):(Lib.join ((w::l).map (·.data.toList)) [32]).length+1=(jd w l).data.toList.length:=by
 have e:(jd w l)=Be (Lib.join ((w::l).map (·.data.toList)) [32])++Be [10]:=rfl
 rw[e,Et,Bf,List.length_append]
 rfl
def td (n:Int):ByteArray:=Be (Lib.itoa n)
def Ip:ByteArray:=⟨#[99,108,97,115,115]⟩
def Bn:ByteArray:=⟨#[97,114,101,97]⟩
def vm (r:bR):List ByteArray:=[td r.clearance,td r.width,td r.ring,td r.edge,td r.holeGap]
def pT (c:Class):List ByteArray:=[c.name,td c.clearance,td c.width]++c.nets
def mV (l:List aB):List ByteArray:=l.flatMap fun q=>[td q.x0,td q.y0,td q.x1,td q.y1]
def gL (a:kd) (j:Nat):List ByteArray:=[td a.layer,td a.clearance]++mV (a.region.take j)
theorem J7 (l:List Int):(l.map td).flatMap (fun s=>32::s.data.toList)=Ii l:=by
 rw[List.flatMap_map];rfl
theorem xD (r:bR):(jd zo (vm r)).data.toList=tc r:=by
 rw[pS]
 have:=J7 [r.clearance,r.width,r.ring,r.edge,r.holeGap]
 rw[show vm r=[r.clearance,r.width,r.ring,r.edge,r.holeGap].map td from rfl,this]
 rfl
theorem vn (c:Class):(jd Ip (pT c)).data.toList=mU c:=by
 rw[pS,pT,List.flatMap_append]
 simp[mU,Dg,Ip,Bg,Ii,td,Be]
theorem Dk (l:List aB):(mV l).flatMap (fun s=>32::s.data.toList)=pQ l:=by
 induction l with
 | nil=>rfl
 | cons q l ih=>
  rw[mV,List.flatMap_cons,List.flatMap_append]
  rw[mV] at ih
  rw[ih,pQ,List.flatMap_cons]
  simp[pQ,Ii,td,Be]
theorem xE (a:kd):(jd Bn (gL a a.region.length)).data.toList=vh a:=by
 rw[pS,gL,List.flatMap_append,List.take_length,Dk]
 simp[vh,Ij,Bn,Ii,td,Be]
theorem vo (a:kd) (j:Nat):(gL a j).length<=2+4*a.region.length:=by
 have h:∀l:List aB,(mV l).length=4*l.length:=fun l=>by
  induction l with
  | nil=>rfl
  | cons q l ih=>
   rw[mV,List.flatMap_cons,List.length_append]
   rw[mV] at ih
   rw[ih];simp;omega
 rw[gL,List.length_append,h,List.length_take]
 simp;omega
theorem Bo {a:kd} {j:Nat} {q:aB} (h:a.region[j]?=some q):gL a (j+1)=gL a j++[td q.x0,td q.y0,td q.x1,td q.y1]:=by
 rw[gL,gL,cw h,mV,List.flatMap_append]
 simp[mV]
theorem Dl (r:bR) (ho:ic r):aD C 22 [.pv (.ag (rl r))] (.tu [str (Bi r).1,i64 (Bi r).2]) []:=by
 refine aT hC Tryz.func22 rfl rfl 118 rfl (by decide) (by kernel_rfl) fun _ _ _ _ _=>?_
 (refine yS<|yn Z<|aA zI<|aS<|ak<|yA Z<|yA Z<|yT<|au<|yS<|yP Z<|yn Z<|aK zI ?_;refine⟨_,_,(lU r ho),?_⟩)
 (refine b9 Z Z<|ae<|yA Z<|yU<|yP Z<|yP Z<|yT<|az Z ?_;refine aa (fun h1=>?_) (fun h1=>?_) <;> try simp only[zB] at h1)
 ·(refine yS<|yP Z<|yA Z<|yA Z<|yT<|bP<|aX<|bQ zi ?_;refine And.intro ?_ trivial)
  have h1:¬cK r=0:=by simpa using h1
  rw[Bi,if_neg h1];rfl
 have h1:cK r=0:=by simpa using h1
 have hg:=vg h1
 rw[Bi,if_pos h1]
 have hh:=Bj hg.nums
 have hn:=hg.nums
 simp[ke] at hn
 have OU:∀n∈[r.clearance,r.width,r.ring,r.edge,r.holeGap],OR n:=fun n hm=>by
  simp at hm
  rcases hm with h | h | h | h | h <;> subst h <;> exact WU (by simp[hn])
 refine aJ ?_
 refine aj ?_
 refine fB ?_
 refine aM<|yn Z<|aA zI<|aS<|ak<|yT<|ai ?_
 refine CR ((aW.gC (by exact hC) _ 1 (y:=.ip (rl r)) (fz:=[(1,.iP (rl r))]) (by exact⟨rfl,rfl⟩)).trans (aW.Hx (by exact hC) _ 5 1 90000 5 127 _ _ (by decide) (by decide) (by exact rfl) (by exact rfl) (by exact rfl) (by decide))) ?_
 have Za:=vk zo (vm r)
 rw[xD] at Za
 ((refine yS (yV Z (cD Z (jW Z Z Z (nX Z) (mE (yU (yA Z (yT (au (cH [] true [true,true,true,true,false,true,false,false,false,true,false,false,false,true,false,false,false,true,false,false,true,true,true] rfl (by kernel_rfl) (ay Z (ay Z (ay Z (ay Z ?_)))))))))))));refine cA Z Z<|ay Z<|ay Z<|ay Z<|cA Z Z<|ay Z<|ay Z<|ay Z<|cA Z Z<|ay Z<|ay Z<|ay Z<|cA Z Z<|ay Z ?_;refine ay Z<|ay Z<|cA Z Z<|cA Z Z<|cA Z Z<|cG Z<|dq Z<|aA zI<|bB<|mE<|yD Z<|yD Z<|yD Z<|dq Z ?_;refine aK zI ?_);refine⟨_,_,(dE r.clearance (OU _ (by simp))),?_⟩)
 (refine bB<|ae<|yD Z<|yD Z<|yD Z<|dq Z<|aK zI ?_;refine⟨_,_,(dE r.width (OU _ (by simp))),?_⟩)
 (refine bB<|ae<|yD Z<|yD Z<|yD Z<|dq Z<|aK zI ?_;refine⟨_,_,(dE r.ring (OU _ (by simp))),?_⟩)
 (refine bB<|ae<|yD Z<|yD Z<|yD Z<|dq Z<|aK zI ?_;refine⟨_,_,(dE r.edge (OU _ (by simp))),?_⟩)
 (refine bB<|ae<|yD Z<|yD Z<|yD Z<|dq Z<|aK zI ?_;refine⟨_,_,(dE r.holeGap (OU _ (by simp))),?_⟩)
 refine bB<|ae<|dq Z<|aA zI<|jA Z Z<|af<|dq Z<|aK zI ?_
 refine⟨_,_,_,pR zo (vm r) (by simp[vm]) (by simp[vm]) [] (by simp only[List.length_nil];omega),?_⟩
 have lc:=aN r.classes kl
 have la:=aN r.areas arr
 have n1:=hg.nc
 have n2:=hg.na
 have e0:AB.row 5 (dI ([]++(jd zo (vm r)).data.toList))=AB.row 5 (dI (sh r 0)):=by
  rw[xD,List.nil_append,sh]
  simp
 (refine hD Z Z Z<|fM<|fM<|fM<|g_<|bq<|cn<|fo Z<|aj<|au<|yS<|yP Z<|yP Z<|yP Z ?_;refine yP Z<|yT<|aZ ?_)
 refine aI (fun i:Nat=>i<=r.classes.length) (fun i=>[(1,.p (.ip (rl r))),(5,.bx 5 0),(6,.fn 59 [.bx 5 0]),(7,.p (.im (.func (.func 62) #[] #[]))),(45,.p (.sl (r.classes.map kl))),(46,.p (i64 (r.classes.map kl).length)),(47,.p (i64 i))]) (fun i=>[(5,.fF 127 [.bx 5 0,.ow 90000]),(90000,.row 5 (dI (sh r i)))]) (fun i=>r.classes.length - i) 0 _ (aW.E9 _ 43 90000 (by decide) (by decide)) (Nat.zero_le _) ⟨Z,Z,Z,Z,Z,Z,Z,Y⟩ ⟨rfl,e0,trivial⟩ fun i hi t h=>?_
 (refine yS<|yP Z<|yT<|au<|az Z ?_;refine aa (fun h2=>?_) (fun h2=>?_) <;> try simp only[zB] at h2)
 ·obtain⟨c,hc⟩:=bh (l:=r.classes) (i:=i) (by omega)
  have cm:=List.mem_of_getElem? hc
  have c1:=hg.cl c cm
  have c0:jv c.name:=(ho.1 c cm).1
  have c2:c.name.size < 4294967281:=c0
  have p1:=Bl hg ho i hi
  have q1:=vi c1 c0
  have R1:=vk Ip (pT c)
  rw[vn] at R1
  have n3:=c1.2.1
  have ln:=aN c.nets fun s=>[str s]
  have e1:AB.row 5 (dI (sh r i++(jd Ip (pT c)).data.toList))=AB.row 5 (dI (sh r (i+1))):=by
   rw[vn,sh,sh,xC _ hc,List.append_assoc]
  refine aJ<|aj<|au<|aZ<|fB ?_
  (refine aM<|yq Z<|aK zI ?_;refine⟨(kl c),(idx rfl hc),?_⟩)
  refine yk<|yP Z<|yn Z<|aA zI<|aS<|ak<|yq Z<|aA zI<|bd<|aF<|an<|yT<|ai ?_
  refine I2 9 (y:=.ip (kl c)) (fz:=[(9,.iP (kl c))]) (by exact hC) (by exact⟨rfl,rfl⟩) ?_
  ((refine cH [] true [true,false,false,true,true,true,false,true,false,false,false,true,false,false,true,true] rfl (by kernel_rfl) (ay Z (ay Z (ay Z (ay Z (ay Z (ay Z (cA Z Z (ay Z (ay Z (ay Z (cA Z Z (cA Z Z (ay Z ?_)))))))))))));refine ay Z<|cA Z Z<|cA Z Z<|cG Z<|dq Z<|aA zI<|bB<|mE<|yD Z<|yD Z<|yD Z<|yD Z<|yD Z<|dq Z ?_;refine aK zI ?_);refine⟨_,_,(dE c.clearance (WU c1.2.2.2.1)),?_⟩)
  (refine bB<|ae<|yD Z<|yD Z<|yD Z<|dq Z<|aK zI ?_;refine⟨_,_,(dE c.width (WU c1.2.2.2.2)),?_⟩)
  refine bB<|ae<|dq Z<|aA zI<|jA Z Z<|af<|yD Z<|yD Z<|dq Z<|bg zI ?_
  (skip;refine And.intro ⟨by simp,by simp;omega,by simp;omega⟩ ?_)
  refine hD Z Z Z<|fM<|g_<|af<|dq Z<|aK zI ?_
  refine⟨_,_,_,pR Ip (pT c) (by simp[pT]) (by simp[pT];omega) (sh r i) (by omega),?_⟩
  (refine hD Z Z Z<|fM<|fM<|fM<|g_<|bq<|cn<|fo Z<|bp<|aj<|aM<|yq Z<|bg zI ?_;refine sI ?_)
  refine yk<|yP Z<|yT<|ai ?_
  refine⟨i+1,_,aW.E9 _ 66 90000 (by decide) (by decide),?_⟩
  exact⟨by omega,by omega,⟨Z,Z,Z,Z,Z,Z,Z,Y⟩,⟨rfl,e1,trivial⟩⟩
 have e:i=r.classes.length:=by omega
 subst e
 have e4:AB.row 5 (dI (sh r r.classes.length))=AB.row 5 (dI (od r 0)):=by rw[Bm,od];simp
 refine bT<|aY<|aY<|bU<|aj<|au<|yS<|yP Z<|yP Z<|yP Z<|yP Z<|yT<|aZ ?_
 refine aI (fun i:Nat=>i<=r.areas.length) (fun i=>[(1,.p (.ip (rl r))),(5,.bx 5 0),(6,.fn 59 [.bx 5 0]),(7,.p (.im (.func (.func 62) #[] #[]))),(69,.p (.sl (r.areas.map arr))),(70,.p (i64 (r.areas.map arr).length)),(71,.p (i64 i))]) (fun i=>[(5,.fF 127 [.bx 5 0,.ow 90000]),(90000,.row 5 (dI (od r i)))]) (fun i=>r.areas.length - i) 0 _ (aW.refl _ _) (Nat.zero_le _) ⟨Z,Z,Z,Z,Z,Z,Z,Y⟩ ⟨rfl,e4,trivial⟩ fun i hi t h=>?_
 have p2:=Ik hg ho h1 i hi
 (refine yS<|yP Z<|yT<|au<|az Z ?_;refine aa (fun h3=>?_) (fun h3=>?_) <;> try simp only[zB] at h3)
 ·obtain⟨a,ha⟩:=bh (l:=r.areas) (i:=i) (by omega)
  have To:=List.mem_of_getElem? ha
  have a1:=hg.ar a To
  have a2:=Bk h1 a To
  obtain⟨g1,g2⟩:=qR a1.2.1
  have q1:=xB a1 a2
  have ln:=aN a.region rc
  refine aJ<|aj<|au<|aZ<|fB ?_
  (refine aM<|yq Z<|aK zI ?_;refine⟨(arr a),(idx rfl ha),?_⟩)
  refine yk<|yP Z<|yn Z<|aA zI<|aS<|ak<|yq Z<|aA zI<|bd<|aF<|an<|yT<|ai ?_
  refine I2 11 (y:=.ip (arr a)) (fz:=[(11,.iP (arr a))]) (by exact hC) (by exact⟨rfl,rfl⟩) ?_
  ((refine au (cH [] true [true,true,true,false,true,false,false,true,true,true] rfl (by kernel_rfl) (ay Z (ay Z (ay Z (cA Z Z (ay Z (ay Z (ay Z (cA Z Z (cA Z Z (cG Z (yD Z (yD Z ?_)))))))))))));refine yD Z<|dq Z<|aK zI ?_);refine⟨_,_,(dE a.layer ⟨by omega,by omega⟩),?_⟩)
  (refine bB<|ae<|yD Z<|yD Z<|yD Z<|dq Z<|aK zI ?_;refine⟨_,_,(dE a.clearance (WU a1.2.2)),?_⟩)
  (refine bB<|ae<|dq Z<|aA zI<|jA Z Z<|af<|dq Z<|aA zI<|bB<|af<|cn<|aq Z<|aq Z<|aq Z ?_;refine aq Z<|aq Z<|aq Z<|aq Z<|aq Z<|aq Z<|Fp Z Z Z Z Z<|fo Z<|aj<|au<|yS<|yP Z<|yP Z<|yP Z ?_;refine yP Z<|yT<|aZ ?_)
  refine aI (fun j:Nat=>j<=a.region.length) (fun j=>[(1,.p (.ip (rl r))),(5,.bx 5 0),(6,.fn 59 [.bx 5 0]),(7,.p (.im (.func (.func 62) #[] #[]))),(69,.p (.sl (r.areas.map arr))),(70,.p (i64 (r.areas.map arr).length)),(71,.p (i64 i)),(12,.ow 12),(85,.p (aV a.region)),(86,.p (i64 (a.region.map rc).length)),(87,.p (i64 j))]) (fun j=>[(5,.fF 127 [.bx 5 0,.ow 90000]),(90000,.row 5 (dI (od r i))),(12,.row 9 ((gL a j).map fun s=>[str s]))]) (fun j=>a.region.length - j) 0 _ (aW.refl _ _) (Nat.zero_le _) ⟨Z,Z,Z,Z,Z,Z,Z,Z,Z,Z,Z,Y⟩ ⟨Z,Z,Z,Y⟩ fun j hj t h=>?_
  (refine yS<|yP Z<|yT<|au<|az Z ?_;refine aa (fun h4=>?_) (fun h4=>?_) <;> try simp only[zB] at h4)
  ·obtain⟨q,hq⟩:=bh (l:=a.region) (i:=j) (by omega)
   have g3:=g2 q (List.mem_of_getElem? hq)
   simp[Reg.eM,Reg.lK] at g3
   refine aJ<|aj<|au<|aZ<|fB ?_
   (refine aM<|yq Z<|aK zI ?_;refine⟨(rc q),(idx rfl hq),?_⟩)
   refine yk<|yP Z<|yn Z<|aA zI<|aS<|ak<|yq Z<|aA zI<|bd<|aF<|an<|yT<|ai ?_
   refine I2 14 (y:=.ip (rc q)) (fz:=[(14,.iP (rc q))]) (by exact hC) (by exact⟨rfl,rfl⟩) ?_
   have wl:=vo a j
   have e5:AB.row 9 ((gL a j).map (fun s=>[str s])++[[str (td q.x0)],[str (td q.y0)],[str (td q.x1)],[str (td q.y1)]])=AB.row 9 ((gL a (j+1)).map fun s=>[str s]):=by rw[Bo hq];simp
   ((refine cH [] true [true,true,true,true,false,true,false,false,false,true,false,false,false,true,false,false,true,true,true,true] rfl (by kernel_rfl) (ay Z (ay Z (ay Z (ay Z (cA Z Z (ay Z (ay Z (ay Z (cA Z Z (ay Z (ay Z (ay Z (cA Z Z ?_)))))))))))));refine ay Z<|ay Z<|ay Z<|cA Z Z<|cA Z Z<|cA Z Z<|cG Z<|dq Z<|aA zI<|bB<|af<|yD Z<|yD Z<|yD Z ?_;refine dq Z<|aK zI ?_);refine⟨_,_,(dE q.x0 ⟨by omega,by omega⟩),?_⟩)
   (refine bB<|ae<|yD Z<|yD Z<|yD Z<|dq Z<|aK zI ?_;refine⟨_,_,(dE q.y0 ⟨by omega,by omega⟩),?_⟩)
   (refine bB<|ae<|yD Z<|yD Z<|yD Z<|dq Z<|aK zI ?_;refine⟨_,_,(dE q.x1 ⟨by omega,by omega⟩),?_⟩)
   (refine bB<|ae<|yD Z<|yD Z<|yD Z<|dq Z<|aK zI ?_;refine⟨_,_,(dE q.y1 ⟨by omega,by omega⟩),?_⟩)
   (refine bB<|ae<|dq Z<|aA zI<|jA Z Z<|af<|dq Z<|bg zI ?_;refine And.intro ⟨by simp,by simp;omega,by simp;omega⟩ ?_)
   ((refine hD Z Z Z<|fM<|g_<|af<|dq Z<|aA zI<|bB<|af<|cn<|aq Z<|aq Z<|aq Z<|aq Z<|aq Z ?_;refine aq Z<|aq Z<|aq Z<|aq Z<|aq Z<|aq Z<|aq Z<|aq Z<|aq Z<|aq Z<|aq Z<|aq Z<|aq Z<|aq Z ?_;refine Fp Z Z Z Z Z<|fo Z<|bp<|aj<|aM<|yq Z<|bg zI ?_);refine sI ?_)
   (refine yk<|yP Z<|yT<|ai ?_;refine⟨(j+1),_,aW.refl _ _,?_⟩)
   exact⟨by omega,by omega,⟨Z,Z,Z,Z,Z,Z,Z,Z,Z,Z,Z,Y⟩,⟨rfl,rfl,e5,trivial⟩⟩
  have e:j=a.region.length:=by omega
  subst e
  have e6:AB.row 5 (dI (od r i++(jd Bn (gL a a.region.length)).data.toList))=AB.row 5 (dI (od r (i+1))):=by
   rw[xE,od,od,xC _ ha,List.append_assoc]
  have R2:=vk Bn (gL a a.region.length)
  rw[xE] at R2
  have wl:=vo a a.region.length
  (refine bT<|aY<|aY<|bU<|aj<|aM<|yq Z<|aA zI<|bd<|mE<|yq Z<|aA zI<|bd<|af ?_;refine yn Z<|aK zI ?_)
  refine⟨_,_,_,pR Bn (gL a a.region.length) (by simp[gL]) (by omega) (od r i) (by omega),?_⟩
  (refine aS<|aF<|aF<|aF<|bq<|cL<|bp<|aj<|aM<|yq Z<|bg zI ?_;refine sI ?_)
  refine yk<|yP Z<|yT<|ai ?_
  refine⟨i+1,_,aW.E9 _ 113 90000 (by decide) (by decide),?_⟩
  exact⟨by omega,by omega,⟨Z,Z,Z,Z,Z,Z,Z,Y⟩,⟨rfl,e6,trivial⟩⟩
 have e:i=r.areas.length:=by omega
 subst e
 refine bT<|aY<|aY<|bU<|aj<|au<|yS<|yn Z<|aK zI ?_
 refine⟨_,_,_,FL (od r r.areas.length),?_⟩
 have e7:od r r.areas.length=Bh r:=J5 r
 (refine aS<|aF<|aF<|ae<|yP Z<|yT<|az Z ?_;refine aa (fun h5=>?_) (fun h5=>?_) <;> try simp only[zB] at h5)
 ·(refine yS<|yA Z<|yA Z<|yT<|bP<|aX<|bQ zi ?_;refine And.intro ?_ trivial)
  rw[e7] at h5
  rw[if_pos (by omega)];rfl
 refine aJ<|aj<|yS<|yn Z<|aK zI ?_
 refine⟨_,_,_,Dj (od r r.areas.length) (by simp[od,tc,Df]),?_⟩
 (refine b9 Z Z<|aF<|aF<|ae<|yA Z<|yA Z<|yR zi ?_;refine And.intro ?_ trivial)
 rw[e7] at h5 ⊢
 rw[if_neg (by omega)];rfl
def r5:bR:=⟨0,5,0,0,0,[],[]⟩
def T5:ByteArray:=⟨#[114,117,108,101,115,32,48,32,53,32,48,32,48,32,48,10]⟩
theorem U1:ic r5:=⟨(fun c h=>by cases h),by decide,by decide⟩
theorem OV:Bi r5=(T5,0):=by kernel_rfl
theorem xF:aD C 8 [] (.p (bool true)) []:=by
 refine aT hC Tryz.func8 rfl rfl 14 rfl (by decide) (by kernel_rfl) fun _ _ _ _ _=>?_
 have h:=Dl r5 U1
 rw[OV] at h
 (refine yS<|yA Z<|yU<|yP Z<|yn Z<|aK zI ?_;refine⟨_,_,h,?_⟩)
 ((refine b9 Z Z<|bq<|yq Z<|aA zI<|bd<|bq<|yP Z<|yP Z<|yA Z<|yA Z<|yU<|yP Z<|yP Z<|yP Z ?_;refine y1 Z<|y1 Z<|yP Z<|yA Z<|yR zi ?_);refine And.intro ?_ trivial)
 exact congrArg (fun z=>PV.im (Value.bool z)) (show decide (T5=T5)=true from decide_eq_true rfl)
open Reg (bK hZ cQ A5 cv bL told dz bX coreS zk Canon Full RK at')
open Reg (en jn Wt aQ eh cx ed through oQ B0 Wz W1 Wq dk)
def kG (a:Wt):List PV:=[.sl (a.coppers.map fun r=>[aV r]),aV a.outline,.sl (a.bores.map bc),.sl (a.lands.map lc)]
def pc (p:ByteArray×ByteArray):List PV:=[str p.1,str p.2]
theorem th (a b:ByteArray):aD C 142 [.pv (str a),.pv (str b)] (.p (i64 (Lib.compareBytes a.data.toList b.data.toList))) []:=
 rW [.string a,.string b] _ ⟨_,Tryz.func142,rfl,rfl⟩ fun S w _ _=>(Tryz.strings_Compare a b w).mono fun e w' h=>⟨h.1,by rw[h.2];exact Below.refl _ _⟩
def Ir (p q:ByteArray×ByteArray):Int:=if Lib.compareBytes p.1.data.toList q.1.data.toList≠0 then Lib.compareBytes p.1.data.toList q.1.data.toList else Lib.compareBytes p.2.data.toList q.2.data.toList
theorem oY (p q:ByteArray×ByteArray):aD C 114 [.pv (.ag (pc p)),.pv (.ag (pc q))] (.p (i64 (Ir p q))) []:=by
 refine aT hC Tryz.func114 rfl rfl 19 rfl (by decide) (by kernel_rfl) fun _ _ _ _ _=>?_
 ((refine yS<|yn Z<|aA zI<|aS<|ak<|yn Z<|aA zI<|aS<|ak<|yA Z<|yT<|au<|yS<|yV Z ?_;refine yP Z<|yV Z<|yP Z<|yn Z<|aK zI ?_);refine⟨_,_,(th p.1 q.1),?_⟩)
 (refine b9 Z Z<|ae<|yA Z<|yU<|yP Z<|yP Z<|yT<|az Z ?_;refine aa (fun h=>?_) (fun h=>?_) <;> try simp only[zB] at h)
 ·(refine yS<|yP Z<|yA Z<|yT<|bP<|aX<|bQ zi ?_;refine And.intro ?_ trivial)
  rw[Ir,if_pos (by simpa using h)]
 (refine aJ<|aj<|yS<|yV Z<|yP Z<|yV Z<|yP Z<|yn Z<|aK zI ?_;refine⟨_,_,(th p.2 q.2),?_⟩)
 (refine b9 Z Z<|ae<|yA Z<|yR zi ?_;refine And.intro ?_ trivial)
 rw[Ir,if_neg (by simpa using h)]
theorem mW (l:jn):aD C 115 [.pv (.ag (lc l))] (.p (.ag (pc (l.part,l.pin)))) []:=by
 refine aT hC Tryz.func115 rfl rfl 8 rfl (by decide) (by kernel_rfl) fun _ _ _ _ _=>?_
 ((refine yS<|yn Z<|aA zI<|aS<|ak<|yn Z<|aA zI<|aS<|ak<|yU<|yV Z<|yP Z<|yV Z<|yP Z ?_;refine yP Z<|yq Z<|aA zI<|bd<|aF<|an<|yR zi ?_);refine And.intro ?_ trivial)
 rfl
theorem qS (a:Wt) (hn:a.coppers.length<=1000000):aD C 67 [.pv (.ag (kG a))] (.p (i64 (dk a))) []:=by
 refine aT hC Tryz.func67 rfl rfl 47 rfl (by decide) (by kernel_rfl) fun _ _ _ _ _=>?_
 have lm:=aN a.bores bc
 have lk:=aN a.coppers fun r=>[aV r]
 ((refine yS<|yn Z<|aA zI<|aS<|ak<|yA Z<|yT<|au<|yS<|yV Z<|yP Z<|yP Z<|yP Z<|yT ?_;refine az Z ?_);refine aa (fun h0=>?_) (fun h0=>?_) <;> try simp only[zB] at h0)
 ·rw[lm] at h0
  (refine yS<|yA Z<|yT<|bP<|aX<|bQ zi ?_;refine And.intro ?_ trivial)
  rw[dk,if_pos (by omega)];rfl
 rw[lm] at h0
 have hc:dk a=Wq a.coppers.length a.bores:=by rw[dk,if_neg (by omega)]
 (refine aJ<|aj<|yS<|yV Z<|yP Z<|yP Z<|yA Z<|yT<|au<|yS<|yV Z<|yP Z<|yP Z<|yP Z ?_;refine yT<|aZ ?_)
 refine aI (fun i:Nat=>i<=a.bores.length/\Wq a.coppers.length a.bores=Wq a.coppers.length (a.bores.drop i)) (fun i=>[(3,.p (i64 (a.coppers.map fun r=>[aV r]).length)),(16,.p (.sl (a.bores.map bc))),(17,.p (i64 (a.bores.map bc).length)),(18,.p (i64 i))]) (fun _=>[]) (fun i=>a.bores.length - i) 0 _ (aW.refl _ _) ⟨Nat.zero_le _,rfl⟩ ⟨Z,Z,Z,Z,Y⟩ trivial fun i hi t h=>?_
 (refine yS<|yP Z<|yT<|au<|az Z ?_;refine aa (fun h1=>?_) (fun h1=>?_) <;> try simp only[zB] at h1)
 ·rw[lm] at h1
  obtain⟨b,hb⟩:=bh (l:=a.bores) (i:=i) (by omega)
  have hs:=Reg.FG (n:=a.coppers.length) hb
  (refine aJ<|aj<|au<|aZ<|yS<|yq Z<|aK zI ?_;refine⟨(bc b),(idx rfl hb),?_⟩)
  ((refine yk<|yP Z<|yn Z<|aA zI<|aS<|ak<|yq Z<|aA zI<|bd<|aF<|an<|yT<|au<|yS ?_;refine yP Z<|yn Z<|aK zI ?_);refine⟨_,_,(pk b),?_⟩)
  ((refine b9 Z Z<|bq<|yq Z<|aA zI<|bd<|bq<|yP Z<|yP Z<|yn Z<|aA zI<|aS<|ak<|yq Z<|aA zI ?_;refine bd<|aF<|an<|yA Z<|yU<|yP Z<|yP Z<|yT<|az Z ?_);refine aa (fun g1=>?_) (fun g1=>?_) <;> try simp only[zB] at g1)
  ·have g1:(eh b).2≠0:=by simpa using g1
   (refine yS<|yP Z<|yA Z<|yT<|bP<|aX<|bW<|aX<|aX<|bW<|aX<|bQ zi ?_;refine And.intro ?_ trivial)
   rw[hc,hi.2,hs,if_pos g1]
  have g1:¬(eh b).2≠0:=by simpa using g1
  rw[if_neg g1] at hs
  (refine aJ<|aj<|yS<|yV Z<|yP Z<|yP Z<|yq Z<|bg zI ?_;refine sI ?_)
  (refine yk<|yn Z<|aK zI ?_;refine⟨_,_,(gv b.lo 0 (((a.coppers.map fun r=>[aV r]).length:Int) - 1)),?_⟩)
  rw[lk]
  (refine b9 Z Z<|ae<|yP Z<|yP Z<|yg Z ?_;refine aa (fun g2=>?_) (fun g2=>?_) <;> try simp only[zB] at g2)
  ·((refine cB<|ae<|y0 Z<|y0 Z<|y0 Z<|y0 Z<|y0 Z<|y0 Z<|y0 Z<|yP Z<|yT<|az Z<|fy<|yS ?_;refine yA Z<|yT<|bP<|bW<|aX<|aX<|bW<|aX<|bQ zi ?_);refine And.intro ?_ trivial)
   rw[hc,hi.2,hs,if_neg (by rw[g2];simp)];rfl
  ((refine bS<|bA Z Z<|aA zI<|bd<|ak<|y1 Z<|y2 Z<|bA Z Z<|aA zI<|bd<|ak<|y1 Z<|y1 Z<|y2 Z ?_;refine bA Z Z<|bg zI ?_);refine sI ?_)
  (refine yk<|y2 Z<|jB Z Z Z<|aK zI ?_;refine⟨_,_,(gv b.hi b.lo ((a.coppers.length:Int) - 1)),?_⟩)
  (refine b9 Z Z<|ae<|y1 Z<|yP Z<|yT<|az Z ?_;refine aa (fun g3=>?_) (fun g3=>?_) <;> try simp only[zB] at g3)
  ·(refine yS<|yA Z<|yT<|bP<|bW<|aX<|aX<|bW<|aX<|bQ zi ?_;refine And.intro ?_ trivial)
   rw[hc,hi.2,hs,if_neg (by rw[g2,g3];simp)];rfl
  rw[if_pos (by rw[g2,g3];rfl)] at hs
  (refine aJ<|bp<|aj<|aM<|yq Z<|bg zI ?_;refine sI ?_)
  (refine yk<|yP Z<|yT<|ai ?_;refine⟨(i+1),_,aW.refl _ _,?_⟩)
  exact⟨⟨by omega,by rw[hi.2,hs]⟩,by omega,⟨Z,Z,Z,Z,Y⟩,trivial⟩
 rw[lm] at h1
 (refine bT<|aY<|aY<|bU<|aj<|yS<|yA Z<|yR zi ?_;refine And.intro ?_ trivial)
 rw[hc,hi.2,List.drop_of_length_le (by omega)];rfl
def ij (n:Int) (ls:List jn) (i:Nat):Int:=match ls[i]? with
 | none=>0
 | some l=>if (nZ l.part && lO l.pin)=true then (if (Reg.within l.layer 0 (n - 1) && (Reg.lK l.x && Reg.lK l.y))=true then (match ls[i - 1]? with
   | some q=>if 0 < i/\Ir (l.part,l.pin) (q.part,q.pin)<=0 then 8 else 0
   | none=>0) else 1) else 5
def dO (a:Wt):Int:=if 1000 < a.lands.length then 2 else dY (ij a.coppers.length a.lands) 0 a.lands.length
structure oh (a:Wt):Prop where
 cop:a.coppers.length<=1048576
 rcs:∀r∈a.coppers,r.length<=1048576
 out:a.outline.length<=1048576
 bor:a.bores.length<=1048576
 lan:a.lands.length<=1048576
 str:∀l∈a.lands,jv l.part/\jv l.pin
theorem qT (a:Wt) (ho:oh a):aD C 68 [.pv (.ag (kG a))] (.p (i64 (dO a))) []:=by
 refine aT hC Tryz.func68 rfl rfl 60 rfl (by decide) (by kernel_rfl) fun _ _ _ _ _=>?_
 have lm:=aN a.lands lc
 have lk:=aN a.coppers fun r=>[aV r]
 have R3:=ho.cop
 ((refine yS<|yn Z<|aA zI<|aS<|ak<|yA Z<|yT<|au<|yS<|yV Z<|yP Z<|yP Z<|yP Z<|yT ?_;refine az Z ?_);refine aa (fun h0=>?_) (fun h0=>?_) <;> try simp only[zB] at h0)
 ·rw[lm] at h0
  (refine yS<|yA Z<|yT<|bP<|aX<|bQ zi ?_;refine And.intro ?_ trivial)
  rw[dO,if_pos (by omega)];rfl
 rw[lm] at h0
 have hc:dO a=dY (ij a.coppers.length a.lands) 0 a.lands.length:=by rw[dO,if_neg (by omega)]
 refine aJ<|aj<|au<|yS<|yV Z<|yP Z<|yP Z<|yP Z<|yT<|aZ ?_
 refine aI (fun i:Nat=>i<=a.lands.length/\∀k,k < i->ij a.coppers.length a.lands k=0) (fun i=>[(1,.bx 1 0),(10,.p (.sl (a.lands.map lc))),(11,.p (i64 (a.lands.map lc).length)),(12,.p (i64 i))]) (fun _=>[(1,.box ((kG a).map .p))]) (fun i=>a.lands.length - i) 0 _ (aW.refl _ _) ⟨Nat.zero_le _,by omega⟩ ⟨Z,Z,Z,Z,Y⟩ ⟨Z,Y⟩ fun i hi t h=>?_
 (refine yS<|yP Z<|yT<|au<|az Z ?_;refine aa (fun h1=>?_) (fun h1=>?_) <;> try simp only[zB] at h1)
 ·rw[lm] at h1
  obtain⟨l,hl⟩:=bh (l:=a.lands) (i:=i) (by omega)
  obtain⟨s1,s2⟩:=ho.str l (List.mem_of_getElem? hl)
  have bad:∀v,ij a.coppers.length a.lands i=v->v≠0->dO a=v:=fun v hv b8=>by
   rw[hc,lS (m:=i) (by rw[hv];exact b8) (fun k _ hk=>hi.2 k hk) (by omega) (by omega),hv]
  (refine aJ<|aj<|au<|aZ<|yS<|yP Z<|yq Z<|aK zI ?_;refine⟨(lc l),(idx rfl hl),?_⟩)
  ((refine yk<|yP Z<|yn Z<|aA zI<|aS<|ak<|yA Z<|yq Z<|aA zI<|bd<|aF<|an<|yT<|aZ ?_;refine yS<|yV Z<|yP Z<|yn Z<|aK zI ?_);refine⟨_,_,(mJ l.part s1),?_⟩)
  (refine b9 Z Z<|ae<|yP Z<|yP Z<|yg Z ?_;refine aa (fun g1=>?_) (fun g1=>?_) <;> try simp only[zB] at g1)
  ·((refine cB<|ae<|y0 Z<|y0 Z<|y0 Z<|yP Z<|yA Z<|yT<|az Z<|fy<|yS<|yA Z<|yT<|bP ?_;refine bW<|bW<|aX<|aX<|bW<|aX<|bQ zi ?_);refine And.intro ?_ trivial)
   rw[bad 5 (by simp only[ij,hl];rw[if_neg (by rw[g1];simp)]) (by decide)];rfl
  (refine bS<|bA Z Z<|aA zI<|bd<|ak<|y1 Z<|y2 Z<|jB Z Z Z<|aK zI ?_;refine⟨_,_,(mI l.pin (by unfold jv at s2;omega)),?_⟩)
  (refine b9 Z Z<|ae<|y1 Z<|yP Z<|yA Z<|yT<|az Z ?_;refine aa (fun g2=>?_) (fun g2=>?_) <;> try simp only[zB] at g2)
  ·(refine yS<|yA Z<|yT<|bP<|bW<|bW<|aX<|aX<|bW<|aX<|bQ zi ?_;refine And.intro ?_ trivial)
   rw[bad 5 (by simp only[ij,hl];rw[if_neg (by rw[g2];simp)]) (by decide)];rfl
  (refine yS<|yV Z<|yP Z<|yV Z<|yP Z<|yP Z<|yq Z<|bg zI ?_;refine sI ?_)
  (refine yk<|yn Z<|aK zI ?_;refine⟨_,_,(gv l.layer 0 (((a.coppers.map fun r=>[aV r]).length:Int) - 1)),?_⟩)
  rw[lk]
  (refine b9 Z Z<|ae<|yP Z<|yP Z<|yg Z ?_;refine aa (fun g3=>?_) (fun g3=>?_) <;> try simp only[zB] at g3)
  ·((refine cB<|ae<|y0 Z<|y0 Z<|y0 Z<|yP Z<|yA Z<|yT<|az Z<|fy<|yS<|yA Z<|yT<|bP ?_;refine bW<|bW<|aX<|aX<|bW<|aX<|bQ zi ?_);refine And.intro ?_ trivial)
   rw[bad 1 (by simp only[ij,hl];rw[if_pos (by rw[g1,g2];rfl),if_neg (by rw[g3];simp)]) (by decide)];rfl
  (refine bS<|bA Z Z<|aA zI<|bd<|ak<|y1 Z<|y2 Z<|jB Z Z Z<|aK zI ?_;refine⟨_,_,(ph l.x l.y),?_⟩)
  (refine b9 Z Z<|ae<|y1 Z<|yP Z<|yA Z<|yT<|az Z ?_;refine aa (fun g4=>?_) (fun g4=>?_) <;> try simp only[zB] at g4)
  ·(refine yS<|yA Z<|yT<|bP<|bW<|bW<|aX<|aX<|bW<|aX<|bQ zi ?_;refine And.intro ?_ trivial)
   rw[bad 1 (by simp only[ij,hl];rw[if_pos (by rw[g1,g2];rfl),if_neg (by rw[g4];simp)]) (by decide)];rfl
  have pre:ij a.coppers.length a.lands i=(match a.lands[i - 1]? with
    | some q=>if 0 < i/\Ir (l.part,l.pin) (q.part,q.pin)<=0 then 8 else 0
    | none=>0):=by simp only[ij,hl];rw[if_pos (by rw[g1,g2];rfl),if_pos (by rw[g3,g4];rfl)]
  ((refine au<|cH [] false JH rfl (by kernel_rfl)<|ay Z<|ay Z<|ay Z<|ay Z<|cA Z Z<|ay Z<|ay Z<|ay Z<|ay Z<|ay Z<|ay Z<|cA Z Z ?_;refine cA Z Z<|cG Z<|yD Z<|yD Z<|yD Z<|dg Z ?_);refine aa (fun g5=>?_) (fun g5=>?_) <;> try simp only[zB] at g5)
  ·obtain⟨q,hq⟩:=bh (l:=a.lands) (i:=i - 1) (by omega)
   rw[hq] at pre
   simp only at pre
   (refine bS<|c_ Z<|aA zI<|bB<|ae<|d2 Z<|c_ Z<|aK zI ?_;refine⟨_,_,(mW l),?_⟩)
   (refine bB<|ae<|d2 Z<|c_ Z<|aA zI<|bB<|ak<|d1 Z<|d1 Z<|d2 Z<|c_ Z<|bg zI ?_;refine sI ?_)
   (refine bB<|ae<|d2 Z<|c_ Z<|aK zI ?_;refine⟨(lc q),(idx (by omega) hq),?_⟩)
   (refine bB<|ae<|d1 Z<|d2 Z<|c_ Z<|aK zI ?_;refine⟨_,_,(mW q),?_⟩)
   (refine bB<|ae<|d2 Z<|c_ Z<|aK zI ?_;refine⟨_,_,(oY (l.part,l.pin) (q.part,q.pin)),?_⟩)
   ((refine bB<|ae<|d1 Z<|yD Z<|yD Z<|cn<|aq Z<|aq Z<|aq Z<|aq Z<|aq Z<|aq Z<|aq Z<|aq Z ?_;refine aq Z<|aq Z<|aq Z<|aq Z<|aq Z<|aq Z<|aq Z<|dW Z Z<|fo Z<|aj<|az Z ?_);refine aa (fun g6=>?_) (fun g6=>?_) <;> try simp only[zB] at g6)
   ·rw[if_pos ⟨by omega,by simpa using g6⟩] at pre
    (refine yS<|yA Z<|yT<|bP<|bW<|bW<|aX<|aX<|bW<|aX<|bQ zi ?_;refine And.intro ?_ trivial)
    rw[bad 8 pre (by decide)];rfl
   rw[if_neg (fun e=>by simp at g6;omega)] at pre
   (refine aJ<|bp<|bp<|aj<|aM<|yq Z<|bg zI ?_;refine sI ?_)
   (refine yk<|yP Z<|yT<|ai ?_;refine⟨(i+1),_,aW.refl _ _,?_⟩)
   exact⟨⟨by omega,fun k hk=>by by_cases e:k=i;exact e ▸ pre;exact hi.2 k (by omega)⟩,by omega,⟨Z,Z,Z,Z,Y⟩,⟨Z,Y⟩⟩
  have pre:ij a.coppers.length a.lands i=0:=by
   rw[pre]
   split
   ·rw[if_neg (by omega)]
   rfl
  ((refine cB<|ae<|d0 Z<|d0 Z<|d0 Z<|d0 Z<|d0 Z<|d0 Z<|d0 Z<|d0 Z<|d0 Z<|d0 Z<|yD Z<|yD Z ?_;refine cn<|aq Z<|aq Z<|aq Z<|aq Z<|aq Z<|aq Z<|aq Z<|aq Z<|aq Z<|aq Z<|aq Z<|aq Z<|aq Z ?_;refine aq Z<|aq Z<|dW Z Z<|fo Z<|aj<|az Z<|cM<|aJ<|bp<|bp<|aj<|aM<|yq Z<|bg zI ?_);refine sI ?_)
  (refine yk<|yP Z<|yT<|ai ?_;refine⟨(i+1),_,aW.refl _ _,?_⟩)
  exact⟨⟨by omega,fun k hk=>by by_cases e:k=i;exact e ▸ pre;exact hi.2 k (by omega)⟩,by omega,⟨Z,Z,Z,Z,Y⟩,⟨Z,Y⟩⟩
 rw[lm] at h1
 (refine bT<|aY<|aY<|bU<|aj<|yS<|yA Z<|yR zi ?_;refine And.intro ?_ trivial)
 rw[hc,i_ fun k _ hk=>hi.2 k (by omega)];rfl
end M
namespace Reg
def UF (u:List Int):Prop:=∀(i:Nat) v,u[i]?=some v->0<=v/\v<=i
inductive fg (u:List Int):Nat->Nat->Prop
 | here (i:Nat) (h:u[i]?=some (i:Int)):fg u i i
 | up (i j r:Nat) (h:u[i]?=some (j:Int)) (b8:j≠i) (hr:fg u j r):fg u i r
theorem fg.lt {u:List Int} {i r:Nat} (h:fg u i r):i < u.length:=by
 cases h with
 | here _ h=>exact (List.getElem?_eq_some_iff.1 h).1
 | up _ _ _ h=>exact (List.getElem?_eq_some_iff.1 h).1
theorem fg.top {u:List Int} {i r:Nat} (h:fg u i r):u[r]?=some (r:Int):=by
 induction h with
 | here i h=>exact h
 | up i j r h b8 hr ih=>exact ih
theorem fg.le {u:List Int} (hu:UF u) {i r:Nat} (h:fg u i r):r<=i:=by
 induction h with
 | here i h=>exact Nat.le_refl _
 | up i j r h b8 hr ih=>have:=hu i j h;omega
theorem fg.uniq {u:List Int} {i r q:Nat} (h:fg u i r) (k:fg u i q):r=q:=by
 induction h with
 | here i h=>
  cases k with
  | here=>rfl
  | up _ j _ h2 b8 _=>rw[h] at h2;injection h2 with h2;exact absurd (by omega) b8
 | up i j r h b8 hr ih=>
  cases k with
  | here _ h2=>rw[h] at h2;injection h2 with h2;exact absurd (by omega) b8
  | up _ j2 _ h2 LZ iD=>
   rw[h] at h2
   injection h2 with h2
   have:j=j2:=by omega
   subst this
   exact ih iD
theorem UF.parent {u:List Int} (hu:UF u) {i:Nat} (hi:i < u.length):∃j:Nat,u[i]?=some (j:Int)/\j<=i:=by
 obtain⟨v,hv⟩:∃v,u[i]?=some v:=⟨_,List.getElem?_eq_getElem hi⟩
 have:=hu i v hv
 exact⟨v.toNat,by rw[hv];congr 1;omega,by omega⟩
theorem UF.root {u:List Int} (hu:UF u):∀(i:Nat),i < u.length->∃r,fg u i r:=by
 intro i
 induction i using Nat.strongRecOn with
 | _ i ih=>
  intro hi
  obtain⟨j,hj,hle⟩:=hu.parent hi
  by_cases e:j=i
  ·subst e;exact⟨j,.here j hj⟩
  obtain⟨r,hr⟩:=ih j (by omega) (by omega)
  exact⟨r,.up i j r hj e hr⟩
theorem eW {α:Type} {l:List α} {i j:Nat} {x:α} (hi:i < l.length):(l.set i x)[j]?=if j=i then some x else l[j]?:=by
 by_cases e:j=i
 ·subst e;rw[if_pos rfl,List.getElem?_set_self hi]
 rw[if_neg e,List.getElem?_set_ne (fun e'=>e e'.symm)]
theorem UF.set {u:List Int} (hu:UF u) {i k:Nat} (hk:k<=i) (hi:i < u.length):UF (u.set i (k:Int)):=fun m v hv=>by
 rw[eW hi] at hv
 by_cases e:m=i
 ·rw[if_pos e] at hv;injection hv with hv;omega
 rw[if_neg e] at hv;exact hu m v hv
theorem Is {u:List Int} (hu:UF u) {i j k:Nat} (hj:u[i]?=some (j:Int)) (hk:u[j]?=some (k:Int)):UF (u.set i (k:Int))/\∀m r,fg (u.set i (k:Int)) m r↔fg u m r:=by
 have hi:=(List.getElem?_eq_some_iff.1 hj).1
 have h1:=hu i j hj
 have h2:=hu j k hk
 have oC:UF (u.set i (k:Int)):=hu.set (by omega) hi
 have fwd:∀m r,fg u m r->fg (u.set i (k:Int)) m r:=by
  intro m
  induction m using Nat.strongRecOn with
  | _ m ih=>
   intro r hr
   by_cases e:m=i
   ·subst e
    have lH:(u.set m (k:Int))[m]?=some (k:Int):=by rw[eW hi,if_pos rfl]
    cases hr with
    | here _ h=>
     rw[hj] at h
     injection h with h
     have e1:j=m:=by omega
     subst e1
     rw[hj] at hk
     injection hk with hk
     have e2:j=k:=by omega
     subst e2
     exact .here j lH
    | up _ j2 _ h b8 iD=>
     rw[hj] at h
     injection h with h
     have e1:j=j2:=by omega
     subst e1
     by_cases e2:k=j
     ·subst e2
      have:r=k:=(fg.uniq (.here k hk) iD).symm
      subst this
      exact .up m r r lH b8 (ih r (by omega) r iD)
     have U2:fg u k r:=by
      cases iD with
      | here _ h=>rw[hk] at h;injection h with h;exact absurd (by omega) e2
      | up _ k2 _ h _ U3=>
       rw[hk] at h
       injection h with h
       have e3:k=k2:=by omega
       subst e3
       exact U3
     exact .up m k r lH (by omega) (ih k (by omega) r U2)
   cases hr with
   | here _ h=>exact .here m (by rw[eW hi,if_neg e];exact h)
   | up _ j2 _ h b8 iD=>
    have:=hu m j2 h
    exact .up m j2 r (by rw[eW hi,if_neg e];exact h) b8 (ih j2 (by omega) r iD)
 refine⟨oC,fun m r=>⟨fun h=>?_,fwd m r⟩⟩
 obtain⟨q,hq⟩:=hu.root m (by have:=h.lt;rwa [List.length_set] at this)
 have:=(fwd m q hq).uniq h
 subst this
 exact hq
theorem join {u:List Int} (hu:UF u) {a b:Nat} (ha:u[a]?=some (a:Int)) (hb:u[b]?=some (b:Int)):UF (u.set (max a b) ((min a b:Nat):Int))/\∀m r,fg u m r->fg (u.set (max a b) ((min a b:Nat):Int)) m (if r=max a b then min a b else r):=by
 have hi:max a b < u.length:=by
  have h1:=(List.getElem?_eq_some_iff.1 ha).1
  have h2:=(List.getElem?_eq_some_iff.1 hb).1
  omega
 have J8:u[min a b]?=some ((min a b:Nat):Int):=by
  by_cases h:a<=b
  ·rw[show min a b=a by omega];exact ha
  rw[show min a b=b by omega];exact hb
 have Bp:u[max a b]?=some ((max a b:Nat):Int):=by
  by_cases h:a<=b
  ·rw[show max a b=b by omega];exact hb
  rw[show max a b=a by omega];exact ha
 refine⟨hu.set (by omega) hi,fun m r hr=>?_⟩
 induction hr with
 | here i h=>
  by_cases e:i=max a b
  ·rw[if_pos e]
   by_cases e2:min a b=i
   ·subst e2
    exact .here _ (by rw[eW hi,if_pos e])
   refine .up i (min a b) _ (by rw[eW hi,if_pos e]) e2 (.here _ ?_)
   rw[eW hi,if_neg (by omega)]
   exact J8
  rw[if_neg e]
  exact .here i (by rw[eW hi,if_neg e];exact h)
 | up i j r h b8 hr ih=>
  refine .up i j _ ?_ b8 ih
  rw[eW hi,if_neg]
  ·exact h
  intro e
  rw[e,Bp] at h
  injection h with h
  exact b8 (by omega)
def OW (u:List Int) (i k:Nat):Prop:=∃r,fg u i r/\fg u k r
def iota (n:Nat):List Int:=(List.range n).map fun (i:Nat)=>(i:Int)
theorem It {n i:Nat} (h:i < n):(iota n)[i]?=some (i:Int):=by rw[iota,List.getElem?_map,List.getElem?_range h];rfl
theorem WV (n:Nat):(iota n).length=n:=by simp[iota]
theorem qU (n:Nat):UF (iota n):=fun i v hv=>by
 have hi:=(List.getElem?_eq_some_iff.1 hv).1
 rw[WV] at hi
 rw[It hi] at hv
 injection hv with hv
 omega
def cO:Nat->List Int->Nat->List Int×Nat
 | 0,u,i=>(u,i)
 | n+1,u,i=>if u.getD i 0=i then (u,i) else cO n (u.set i (u.getD (u.getD i 0).toNat 0)) (u.getD (u.getD i 0).toNat 0).toNat
structure Iu (u:List Int) (i:Nat) (x:List Int×Nat):Prop where
 uf:UF x.1
 len:x.1.length=u.length
 same:∀m q,fg x.1 m q↔fg u m q
 root:fg u i x.2
theorem fY:∀(n:Nat) (u:List Int) (i:Nat),UF u->i < u.length->i<=n->Iu u i (cO n u i)
 | 0,u,i,hu,hi,hn=>by
  have:i=0:=by omega
  subst this
  obtain⟨j,hj,hle⟩:=hu.parent hi
  have:j=0:=by omega
  subst this
  exact⟨hu,rfl,fun _ _=>Iff.rfl,.here 0 hj⟩
 | n+1,u,i,hu,hi,hn=>by
  obtain⟨j,hj,hle⟩:=hu.parent hi
  have e1:u.getD i 0=j:=by rw[List.getD_eq_getElem?_getD,hj];rfl
  rw[cO]
  by_cases h:u.getD i 0=i
  ·rw[if_pos h]
   exact⟨hu,rfl,fun _ _=>Iff.rfl,.here i (by rw[hj,<-e1,h])⟩
  rw[if_neg h]
  rw[e1] at h ⊢
  have Gq:j < u.length:=by omega
  obtain⟨k,hk,OX⟩:=hu.parent Gq
  have e2:u.getD (j:Int).toNat 0=k:=by rw[Int.toNat_natCast,List.getD_eq_getElem?_getD,hk];rfl
  rw[e2,Int.toNat_natCast]
  obtain⟨h1,h2⟩:=Is hu hj hk
  have ih:=fY n (u.set i (k:Int)) k h1 (by rw[List.length_set];omega) (by omega)
  refine⟨ih.uf,by rw[ih.len,List.length_set],fun m q=>(ih.same m q).trans (h2 m q),?_⟩
  have hr:=(h2 _ _).1 ih.root
  have b8:j≠i:=by omega
  by_cases e3:k=j
  ·subst e3;exact .up i k _ hj b8 hr
  exact .up i j _ hj b8 (.up j k _ hk e3 hr)
def ik (u:List Int) (i k:Nat):List Int:=(cO k (cO i u i).1 k).1.set (max (cO i u i).2 (cO k (cO i u i).1 k).2) ((min (cO i u i).2 (cO k (cO i u i).1 k).2:Nat):Int)
theorem qV {u:List Int} (hu:UF u) {i k:Nat} (hi:i < u.length) (hk:k < u.length):UF (ik u i k)/\(ik u i k).length=u.length:=by
 have a:=fY i u i hu hi (Nat.le_refl _)
 have b:=fY k (cO i u i).1 k a.uf (by rw[a.len];exact hk) (Nat.le_refl _)
 have s1:∀m q,fg (cO k (cO i u i).1 k).1 m q↔fg u m q:=fun m q=>(b.same m q).trans (a.same m q)
 have ra:=(s1 _ _).2 a.root
 have rb:=(b.same _ _).2 b.root
 exact⟨(join b.uf ra.top rb.top).1,by rw[ik,List.length_set,b.len,a.len]⟩
end Reg
namespace M
open Go.AM Go.RowKit Go.Lib
open Reg (UF fg Iu cO fY iota)
theorem cY {u:List Int} {i:Nat} {v:Int} (h:u[i]?=some v):(aE u)[i]?=some [i64 v]:=by rw[aE,List.getElem?_map,h];rfl
theorem eO (u:List Int) (i:Nat) (v:Int):(aE u).set i [i64 v]=aE (u.set i v):=by simp[aE,List.map_set]
theorem cg (u:List Int):(aE u).length=u.length:=by simp[aE]
theorem xG {n:Nat} {u:List Int} {i:Nat} (hu:UF u) (hi:i < u.length) (hn:i<=n):∃j k:Nat,u[i]?=some (j:Int)/\u[j]?=some (k:Int)/\j<=i/\k<=j/\(j=i->cO n u i=(u,i))/\(j≠i->∃m,n=m+1/\cO n u i=cO m (u.set i (k:Int)) k):=by
 obtain⟨j,hj,hle⟩:=hu.parent hi
 obtain⟨k,hk,OX⟩:=hu.parent (i:=j) (by omega)
 have e1:u.getD i 0=j:=by rw[List.getD_eq_getElem?_getD,hj];rfl
 have e2:u.getD j 0=k:=by rw[List.getD_eq_getElem?_getD,hk];rfl
 refine⟨j,k,hj,hk,hle,OX,fun e=>?_,fun e=>?_⟩
 ·cases n with
  | zero=>rfl
  | succ n=>rw[cO,if_pos (by rw[e1];omega)]
 cases n with
 | zero=>omega
 | succ n=>
  refine⟨n,rfl,?_⟩
  rw[cO,if_neg (by rw[e1];omega),e1,Int.toNat_natCast,e2,Int.toNat_natCast]
theorem Xw (u:List Int) (hu:UF u) (i:Nat) (hi:i < u.length):aD C 144 [.bb [.row 3 (aE u)],.pv (i64 i)] (.p (i64 (cO i u i).2)) [.bb [.row 3 (aE (cO i u i).1)]]:=by
 refine qy hC Tryz.func144 rfl rfl 41 rfl (by decide) (by kernel_rfl) fun _ _ _ _ _=>⟨_,aW.open hC _ 100000 [90000] (by exact rfl) rfl rfl rfl,?_⟩
 obtain⟨R,hR⟩:∃R,R=cO i u i:=⟨_,rfl⟩
 rw[<-hR]
 refine yS<|yA Z<|yT<|au<|aZ ?_
 refine aI (fun x:Nat×List Int×Nat=>cO x.1 x.2.1 x.2.2=R/\UF x.2.1/\x.2.2 < x.2.1.length/\x.2.2<=x.1) (fun x=>[(0,.bx 100000 0),(1,.p (i64 x.2.2))]) (fun x=>[(100000,.box [.ow 90000]),(90000,.row 3 (aE x.2.1))]) (fun x=>x.2.2) (i,u,i) _ (aW.refl _ _) ⟨hR.symm,hu,hi,Nat.le_refl _⟩ ⟨Z,Z,Y⟩ ⟨Z,Z,Y⟩ fun ⟨n,v,k⟩ hx t h=>?_
 obtain⟨h1,h2,h3,h4⟩:=hx
 simp only at h1 h2 h3 h4
 obtain⟨j,l,hj,hl,q1,q2,q3,q4⟩:=xG h2 h3 h4
 have lv:=cg v
 (refine au<|yS<|yq Z<|aA zI<|bd<|ak<|yV Z<|yV Z<|yV Z<|yP Z<|yq Z<|bg zI ?_;refine And.intro ⟨by omega,by (try dsimp only);rw[lv];omega⟩ ?_)
 (refine bd<|bJ<|yq Z<|aK zI ?_;refine⟨[i64 j],(cY hj),?_⟩)
 (refine yk<|yP Z<|yP Z<|yT<|az Z ?_;refine aa (fun g=>?_) (fun g=>?_) <;> try simp only[zB] at g)
 ·have b8:j≠k:=by omega
  obtain⟨m,rfl,q5⟩:=q4 b8
  ((refine aJ<|aj<|aZ<|au<|cH [] false HG rfl (by kernel_rfl)<|cG Z<|dq Z<|aA zI<|bB<|ak<|yW Z<|yW Z<|yW Z<|yD Z ?_;refine dq Z<|aA zI<|bB<|ak<|yW Z<|yW Z<|yW Z<|dq Z<|aA zI<|bB<|ak<|yW Z<|yW Z<|yW Z ?_;refine yD Z<|dq Z<|bg zI ?_);refine And.intro ⟨by omega,by (try dsimp only);rw[lv];omega⟩ ?_)
  (refine bB<|bJ<|dq Z<|aK zI ?_;refine⟨[i64 j],(cY hj),?_⟩)
  (refine bB<|ae<|dq Z<|bg zI ?_;refine And.intro ⟨by omega,by (try dsimp only);rw[lv];omega⟩ ?_)
  (refine bB<|bJ<|dq Z<|aK zI ?_;refine⟨[i64 l],(cY hl),?_⟩)
  (refine bB<|ae<|dq Z<|bg zI ?_;refine And.intro ⟨by omega,by (try dsimp only);rw[lv];omega⟩ ?_)
  (refine bB<|bJ<|dq Z<|aK zI ?_;refine⟨[i64 j],(cY hj),?_⟩)
  ((refine iG Z<|aF<|an<|cn<|fo Z<|aj<|aM<|yq Z<|aA zI<|bd<|ak<|yV Z<|yV Z<|yV Z ?_;refine yP Z<|yq Z<|bg zI ?_);refine And.intro ⟨by omega,by (try dsimp only);rw[List.length_set,lv];omega⟩ ?_)
  (refine bd<|bJ<|yq Z<|aK zI ?_;refine⟨[i64 l],(by rw[List.getElem?_set_self (by (try dsimp only);rw[lv];omega)];rfl),?_⟩)
  (refine yk<|yA Z<|cL<|bp<|aj<|ai ?_;refine⟨(m,v.set k (l:Int),l),_,aW.refl _ _,?_⟩)
  exact⟨⟨by rw[<-q5];exact h1,(Reg.Is h2 hj hl).1,by simp only[List.length_set];omega,by dsimp only;omega⟩,by simp only;omega,⟨Z,Z,Y⟩,⟨rfl,congrArg (AB.row _) (eO v k l),trivial⟩⟩
 have e:j=k:=by omega
 have h1:=(q3 e).symm.trans h1
 subst h1
 refine bT<|aY<|aY<|bU<|aj<|yS<|yP Z<|yA Z<|yR zi ?_
 exact And.intro rfl (And.intro ⟨Z,Z,Y⟩ trivial)
open Reg (ik)
theorem Dn (u:List Int) (hu:UF u) (i k:Nat) (hi:i < u.length) (hk:k < u.length):aD C 122 [.bb [.row 3 (aE u)],.pv (i64 i),.pv (i64 k)] (.tu []) [.bb [.row 3 (aE (ik u i k))]]:=by
 have a:=fY i u i hu hi (Nat.le_refl _)
 have b:=fY k (cO i u i).1 k a.uf (by rw[a.len];exact hk) (Nat.le_refl _)
 refine aT hC Tryz.func122 rfl rfl 25 rfl (by decide) (by kernel_rfl) fun _ _ _ _ _=>?_
 refine fB ?_
 (refine aM<|yq Z<|aA zI<|bd<|ak<|yP Z<|yn Z<|aK zI ?_;refine⟨_,_,(Xw u hu i hi),?_⟩)
 (refine b9 Z Z<|aF<|ae<|yq Z<|aA zI<|bd<|ak<|yP Z<|yn Z<|aK zI ?_;refine⟨_,_,(Xw (cO i u i).1 a.uf k (by rw[a.len];exact hk)),?_⟩)
 refine b9 Z Z<|aF<|ae<|yA Z<|yA Z<|yT<|ai ?_
 refine CR (aW.open (by exact hC) _ 100000 [90000] (by exact rfl) rfl rfl rfl) ?_
 have ra:=(List.getElem?_eq_some_iff.1 ((b.same _ _).2 ((a.same _ _).2 a.root)).top).1
 have rb:=(List.getElem?_eq_some_iff.1 ((b.same _ _).2 b.root).top).1
 have Bp:((max ((cO i u i).2:Int) ((cO k (cO i u i).1 k).2:Int))).toNat=max (cO i u i).2 (cO k (cO i u i).1 k).2:=by omega
 have lv:=cg (cO k (cO i u i).1 k).1
 obtain⟨v,hv⟩:∃v,(cO k (cO i u i).1 k).1[max (cO i u i).2 (cO k (cO i u i).1 k).2]?=some v:=⟨_,List.getElem?_eq_getElem (by omega)⟩
 ((refine aM<|yq Z<|aA zI<|bd<|ak<|yV Z<|yV Z<|yV Z<|yP Z<|yP Z<|yP Z<|yP Z<|yP Z<|yP Z ?_;refine yq Z<|bg zI ?_);refine And.intro ⟨by omega,by rw[lv];omega⟩ ?_)
 (refine bd<|bJ<|yq Z<|aK zI ?_;refine⟨[i64 v],(by rw[Bp];exact cY hv),?_⟩)
 refine bd<|aF<|an<|cL<|Mu zi ?_
 refine And.intro rfl (And.intro ⟨rfl,?_,trivial⟩ trivial)
 refine congrArg (AB.row _) ?_
 rw[Bp]
 show (aE _).set _ [i64 (min _ _)]=_
 rw[eO,ik]
 congr 1
 congr 1
 omega
end M
namespace Reg
def cZ (p:Nat->Nat) (i:Nat):List Nat:=(List.range i).filter fun r=>decide (p r=r)
def fR (p:Nat->Nat) (i r:Nat):List Nat:=(List.range i).filter fun m=>decide (p m=r)
def ba (p:Nat->Nat) (i:Nat):List (List Nat):=(cZ p i).map (fR p i)
structure FM (p:Nat->Nat) (n:Nat):Prop where
 le:∀m,m < n->p m<=m
 top:∀m,m < n->p (p m)=p m
theorem mem_keys {p:Nat->Nat} {i r:Nat}:r∈cZ p i↔r < i/\p r=r:=by simp[cZ]
theorem fD {p:Nat->Nat} {i r m:Nat}:m∈fR p i r↔m < i/\p m=r:=by simp[fR]
theorem pU (p:Nat->Nat) (i:Nat):(cZ p i).Nodup:=List.Pairwise.sublist List.filter_sublist List.nodup_range
theorem gP (p:Nat->Nat) (i:Nat):cZ p (i+1)=if p i=i then cZ p i++[i] else cZ p i:=by
 rw[cZ,List.range_succ,List.filter_append]
 by_cases h:p i=i <;> simp[h,cZ]
theorem qW (p:Nat->Nat) (i r:Nat):fR p (i+1) r=if p i=r then fR p i r++[i] else fR p i r:=by
 rw[fR,List.range_succ,List.filter_append]
 by_cases h:p i=r <;> simp[h,fR]
theorem Iv {p:Nat->Nat} {n i:Nat} (hp:FM p n) (hi:i<=n):fR p i i=[]:=by
 refine List.filter_eq_nil_iff.2 fun m hm=>?_
 have h1:=List.mem_range.1 hm
 have:=hp.le m (by omega)
 simp
 omega
theorem Bq {p:Nat->Nat} {n i:Nat} (hp:FM p n) (hi:i < n) (h:p i=i):ba p (i+1)=ba p i++[[i]]:=by
 rw[ba,gP,if_pos h,List.map_append]
 congr 1
 ·refine List.map_congr_left fun r hr=>?_
  have:=(mem_keys.1 hr).1
  rw[qW,if_neg (by omega)]
 simp[qW,h,Iv hp (Nat.le_of_lt hi)]
theorem Iw {p:Nat->Nat} {n i:Nat} (hp:FM p n) (hi:i < n) (h:p i≠i):∃k:Nat,(cZ p i)[k]?=some (p i):=by
 have h1:=hp.le i hi
 exact List.mem_iff_getElem?.1 (mem_keys.2 ⟨by omega,hp.top i hi⟩)
theorem Br {l:List Nat} (h:l.Nodup) {a b x:Nat} (ha:l[a]?=some x) (hb:l[b]?=some x):a=b:=by
 obtain⟨h1,e1⟩:=List.getElem?_eq_some_iff.1 ha
 obtain⟨h2,e2⟩:=List.getElem?_eq_some_iff.1 hb
 rcases Nat.lt_trichotomy a b with h3 | h3 | h3
 ·exact absurd (e1.trans e2.symm) (List.pairwise_iff_getElem.1 h _ _ h1 h2 h3)
 ·exact h3
 exact absurd (e2.trans e1.symm) (List.pairwise_iff_getElem.1 h _ _ h2 h1 h3)
theorem Bs {p:Nat->Nat} {i:Nat} (h:p i≠i) {k:Nat} (hk:(cZ p i)[k]?=some (p i)):ba p (i+1)=(ba p i).set k (fR p i (p i)++[i])/\(ba p i)[k]?=some (fR p i (p i)):=by
 have JM:=(List.getElem?_eq_some_iff.1 hk).1
 refine⟨?_,by rw[ba,List.getElem?_map,hk];rfl⟩
 rw[ba,gP,if_neg h]
 apply List.ext_getElem?
 intro m
 rw[eW (by rw[ba,List.length_map];exact JM),ba,List.getElem?_map,List.getElem?_map]
 by_cases e:m=k
 ·subst e
  rw[if_pos rfl,hk]
  simp[qW]
 rw[if_neg e]
 cases hm:(cZ p i)[m]? with
 | none=>rfl
 | some r=>
  have b8:p i≠r:=fun e2=>e (Br (pU p i) hm (by rw[hk,e2]))
  simp[qW,b8]
theorem l6 (p:Nat->Nat) (i:Nat):(ba p i).length=(cZ p i).length:=by simp[ba]
theorem om (p:Nat->Nat) (i:Nat):(cZ p i).length<=i:=by
 have:=List.length_filter_le (fun r=>decide (p r=r)) (List.range i)
 simpa [cZ] using this
theorem l7 (p:Nat->Nat) (i r:Nat):(fR p i r).length<=i:=by
 have:=List.length_filter_le (fun m=>decide (p m=r)) (List.range i)
 simpa [fR] using this
def dR (u:List Int) (i:Nat):Nat:=(cO i u i).2
theorem ku {u:List Int} (hu:UF u) {i:Nat} (hi:i < u.length):fg u i (dR u i):=(fY i u i hu hi (Nat.le_refl _)).root
theorem Ix {u:List Int} (hu:UF u) {i r:Nat} (h:fg u i r):dR u i=r:=(ku hu h.lt).uniq h
theorem tV {u:List Int} (hu:UF u):FM (dR u) u.length:=
 ⟨fun m hm=>(ku hu hm).le hu,fun m hm=>by
  have h:=ku hu hm
  exact Ix hu (.here _ h.top)⟩
end Reg
end Go.Proofs.YtpbkimanfahbgaaGreatDoor
