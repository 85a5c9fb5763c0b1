/- Part 8 of the proof of ThinMatchSpec. -/
import Derived.Test.YtfloceomobknoaaGreatDoorT07
set_option linter.unusedVariables false
set_option linter.unusedSimpArgs false
set_option maxRecDepth 100000
set_option maxHeartbeats 8000000
namespace Go
abbrev ac0:=@List.Pairwise.sublist
abbrev aea:=@List.filter_sublist
abbrev ac1:=@List.range_succ
abbrev adK:=@List.filter_eq_nil_iff
abbrev acf:=@List.getElem?_replicate
abbrev ac2:=@List.set_set
abbrev aeb:=@List.ne_nil_of_mem
end Go
namespace Go.Proofs.YtfloceomobknoaaGreatDoor
namespace M
open Go.AM Go.RowKit Go.Lib
open Reg (ae aU an)
variable {w:World}
theorem PF{S:Nat->Prop}{x v:Value}(h:aO S w (.im x) v):v=x:=by cases h;rfl
def dK(l:List UInt8):List (List PV):=l.map fun u=>[.im (.int .u8 u.toNat)]
def dV(l:List UInt8):List Value:=l.map fun u=>.int .u8 u.toNat
theorem Q7:∃i,Tryz.prog.info? 5=some i/\i.size=1:=by
 obtain⟨i0,hi,_,Vg,_⟩:=info_parts Ni;exact⟨i0,hi,Vg⟩
theorem KD{S:Nat->Prop}{l:List UInt8}{v:Value}(h:aG Tryz.prog w (aO S w) 5 (dK l) v):w.ownsRow 0 5 1 v (dV l).length (dV l):=by
 obtain⟨i,xs,h1,h2,h3,h4,h5,h6⟩:=h;obtain⟨i0,hi,hs⟩:=Q7;rw[hi]at h1;cases h1;rw[hs]at h3 h6;have hl:xs.length=l.length:=by
  have:=h3.1;simpa [dK] using this
 have e:xs=dV l:=by
  apply ach;intro k;by_cases hk:k<l.length
  ·obtain⟨u,hu⟩:∃u,l[k]?=some u:=⟨_,acg hk⟩;obtain⟨z,hz,hr⟩:=h6 k [.im (.int .u8 u.toNat)] 0 (.im (.int .u8 u.toNat)) (by rw[dK,aak,hu];rfl) rfl;rw[abJ,abQ]at hz;cases hr;rw[hz,dV,aak,hu];rfl
  rw[abI (by omega),abI (by simp[dV];omega)]
 have hb:(dK l).length=(dV l).length:=by simp[dK,dV]
 rw[<-hb,<-e];exact h3
theorem KE{S:Nat->Prop}{l:List UInt8}{v:Value}(h:w.ownsRow 0 5 1 v (dV l).length (dV l)):aG Tryz.prog w (aO S w) 5 (dK l) v:=by
 obtain⟨i0,hi,hs⟩:=Q7;have hb:(dK l).length=(dV l).length:=by simp[dK,dV]
 refine⟨i0,dV l,hi,by omega,by rw[hs,hb];exact h,fun r hr=>?_,fun u hu=>?_,fun a r j x ha hj=>?_⟩
 ·obtain⟨u,_,rfl⟩:=adS.1 hr;rw[hs];rfl
 ·obtain⟨z,_,rfl⟩:=adS.1 hu;rfl
 rw[dK,aak,acq]at ha;obtain⟨u,hu,rfl⟩:=ha;cases j with
 | zero=>
  cases hj;refine⟨.int .u8 u.toNat,?_,.im _⟩;rw[hs,abJ,abQ,dV,aak,hu];rfl
 | succ j=>cases hj
theorem zh(s:ByteArray):Lib.strCells s=dV s.data.toList:=rfl
theorem Ht(a b:List UInt8):dV a++dV b=dV (a++b):=by simp[dV]
theorem No{S:Nat->Prop}{b:Nat}{u0 u1:Value}{l:List UInt8}(h1:w.heap[b]?=some (.cells #[u0,u1] 150 (0,0)))(h2:u0=.pointer none\/u0=.pointer (some ⟨b,0,none⟩))(h3:aG Tryz.prog w (aO S w) 5 (dK l) u1)(h4:∀g,cC u1=some g->¬S g/\g≠b/\g<w.heap.size):BS b (dV l) u0 u1 w:=by
 have ho:=KD h3;obtain⟨a,c,hs⟩:=cr ho;refine⟨h1,h2,ho,fun e=>?_⟩;rw[cI hs]at e;exact (h4 b e).2.1 rfl
theorem Np{S:Nat->Prop}{l:List ByteArray}{v:Value}(hl:l≠[])(h:aO S w (strs l) v):∃bk off c,v=.slice (some ⟨bk,off,none⟩) l.length c/\∀(j:Nat) x,l[j]?=some x->w.cell? ⟨bk,off+j,none⟩=some (.string x):=by
 unfold strs at h;generalize he:(l.map fun s=>[str s])=es at h;cases h with
 | nil a c=>
  cases l with
  | nil=>exact absurd rfl hl
  | cons x l=>cases he
 | sl es k b off c U hc hS hk hcell h=>
  have len:es.length=l.length:=by rw[<-he,aej]
  have k1:k=1:=by
   cases l with
   | nil=>exact absurd rfl hl
   | cons x l=>
    have:=hk [str x] (by rw[<-he];simp);simpa using this.symm
  subst k1;refine⟨b,off,c,by rw[len],fun j x hx=>?_⟩;have e1:es[j]?=some [str x]:=by rw[<-he,aak,hx];rfl
  have a1:=(hcell j [str x] 0 (str x) e1 rfl).1;have a2:U j 0=.string x:=PF (h j [str x] 0 (str x) e1 rfl);rw[abJ,abQ,a2]at a1;exact a1
theorem sO(word:ByteArray)(l:List ByteArray)(hl:l≠[])(hN:l.length<=1000000)(bs:List UInt8)(hlen:bs.length+(Lib.join ((word::l).map (·.data.toList)) [32]).length<=1000000000000):
  Cf C 116 [str word,strs l] 150 5 (dK bs) (.tu []) true (some (dK (bs++(aeq word l).data.toList))):=by
 refine⟨⟨_,Tryz.func116,by decide,rfl⟩,fun S w vs b u0 u1 hE hS Vi hr wh pQ az Zr hblk=>?_⟩;obtain⟨v0,v1,rfl⟩:∃v0 v1,vs=[v0,v1]:=by
  match vs,Vi with
  | [a,b],_=>exact⟨a,b,rfl⟩
 have r0:=hr 0 _ _ rfl rfl;cases r0;obtain⟨bk,off,c,rfl,hcell⟩:=Np hl (hr 1 _ _ rfl rfl);have hB:=No wh pQ az hblk;obtain⟨a1,c1,Gd⟩:=cr hB.own;refine (cn b (dV bs) u0 u1 word l bk off c w hB hcell hN (by rw[show (dV bs).length=bs.length by simp[dV]];exact hlen)).mono ?_;rintro e w' ⟨rfl,u1',h4,f4,g4⟩;obtain⟨a2,c2,Rp⟩:=cr h4.own;have fr:Fr (fun k=>k=b\/cC u1=some k) w w':=by
  refine⟨f4.os,f4.tape,f4.output,f4.size,fun k hk hn=>f4.block k hk fun h=>hn (h.imp id fun h=>?_)⟩;rw[<-cI Gd];exact h
 refine⟨_,rfl,fr,⟨#[],rfl,rfl,fun i x u h=>(by cases h)⟩,u1',h4.heap,KE (by have:=h4.own;rw[zh,Ht]at this;exact this),fun g hg=>?_⟩;obtain⟨q1,q2⟩:=g4 g (by rw[cI Rp];exact hg);exact⟨q1,q2.imp (fun h=>by rw[<-cI Gd];exact h) id⟩
theorem aet(bs:List UInt8):Cf C 120 [] 150 5 (dK bs) (.p (i64 bs.length)) false (some (dK bs)):=by
 refine⟨⟨_,Tryz.func120,by decide,rfl⟩,fun S w vs b u0 u1 hE hS Vi hr wh pQ az Zr hblk=>?_⟩;obtain rfl:vs=[]:=by
  match vs,Vi with
  | [],_=>rfl
 have hB:=No wh pQ az hblk;refine (Tryz.Builder_Len_f 0 b (dV bs) w (Lib.IsBuilderF.of hB.is)).mono ?_;rintro e w' ⟨rfl,rfl⟩;refine⟨_,rfl,Fr.refl _ _,?_,u1,wh,az,fun g hg=>⟨(hblk g hg).2.2,.inl hg⟩⟩;rw[show (dV bs).length=bs.length by simp[dV]];exact .im _
theorem Vj(b:Nat)(l:List UInt8)(u0 u1:Value)(w:World)(h:BS b (Lib.byteCells l) u0 u1 w)(h0:l≠[]):
  Calls Tryz.prog 121 #[.pointer (some ⟨b,0,none⟩)] w fun e w'=>e=.returned (.string ⟨l.toArray⟩)/\Fr (fun k=>u1.ownBlock=some k) w w':=by
 obtain⟨BD,pQ,hown,b8⟩:=h;have Wq:l.length≠0:=by simpa using h0
 rw[Lib.byteCells_length]at hown;obtain⟨g,cap,cur,rfl,Sq,hg,Qq,WN,pN,Qu⟩:∃g cap cur,u1=.slice (some ⟨g,0,none⟩) l.length cap/\0<=g/\w.heap[g]?=some (.cells cur 5 (0,0))/\l.length<=cap/\cap<=maxLen/\cur.size=cap*1/\cur.toList.take (l.length*1)=Lib.byteCells l:=by
  rcases hown.2 with⟨_,hz⟩ | ⟨g,cap,cur,hv,r⟩
  ·exact absurd hz Wq
  exact⟨g,cap,cur,hv,r⟩
 have c1:w.drew.cell? ⟨b,1,none⟩=some (.slice (some ⟨g,0,none⟩) l.length cap):=by
  have:w.drew.heap[b]?=some (.cells #[u0,.slice (some ⟨g,0,none⟩) l.length cap] 150 (0,0)):=BD;rw[acZ this];rfl
 have hSD:(Builtin.unsafeSliceData_ #[148] 225 #[.slice (some ⟨g,0,none⟩) l.length cap]).run Tryz.prog w.drew=.ok (.pointer (some ⟨g,0,none⟩)) w.drew:=
  Lib.run_unsafeSliceData_row _ _ _ _ _ _ (by omega)
 have hUS:(Builtin.unsafeString_ #[225,3] 9 #[.pointer (some ⟨g,0,none⟩),.int .i64 l.length]).run Tryz.prog w.drew=.ok (.string ⟨l.toArray⟩) (w.drew.freeze ⟨g,0,none⟩ l.length):=by
  refine Lib.run_unsafeString_row w.drew 225 3 9 5 Tryz.underlying225 (by kernel_rfl) g cur.size (by have nS:w.drew.heap[g]?=some (.cells cur 5 (0,0)):=hg;simp[World.shape?,nS]) l h0 (by omega) (by unfold maxLen at WN;omega) ?_;intro j x hx;have:=hown.cells (g:=g) rfl j (.int .u8 x.toNat) (by simp[Lib.byteCells,hx]);exact this
 have fin:Fr (fun k=>(Value.slice (some ⟨g,0,none⟩) l.length cap).ownBlock=some k) w (w.drew.freeze ⟨g,0,none⟩ l.length):=by
  unfold World.freeze;rw[aaa Wq];refine⟨rfl,rfl,rfl,aay (show w.heap.size=(Array.modify w.heap g _).size from (Array.size_modify ..).symm),fun k _ hn=>?_⟩;have PG:¬g=k:=fun e=>hn (by rw[<-e];rfl);show (Array.modify w.heap g _)[k]?=w.heap[k]?;rw[aac,aaa PG]
 have mixed:Tryz.prog.follows Departure.mixedOrders=true:=by kernel_rfl
 have FN:=ad_ fin;clear fin
 go_enter Tryz.func121,Tryz.ntmps121
 go_wp2
 go_region_o
 all_goals (go_wp2;go_ret;exact⟨rfl,FN.out⟩)
theorem Hu(bs:List UInt8)(h0:bs≠[]):Cf C 121 [] 150 5 (dK bs) (.p (str (EW bs))) false none:=by
 refine⟨⟨_,Tryz.func121,by decide,rfl⟩,fun S w vs b u0 u1 hE hS Vi hr wh pQ az Zr hblk=>?_⟩;obtain rfl:vs=[]:=by
  match vs,Vi with
  | [],_=>rfl
 have hB:=No wh pQ az hblk;obtain⟨a1,c1,Gd⟩:=cr hB.own;refine (Vj b bs u0 u1 w hB h0).mono ?_;rintro e w' ⟨rfl,hf⟩;refine⟨_,rfl,⟨hf.os,hf.tape,hf.output,hf.size,fun k hk hn=>hf.block k hk fun h=>hn (.inr (by rw[<-cI Gd];exact h))⟩,.im _,trivial⟩
def Df:ByteArray:=⟨#[114,117,108,101,115]⟩
def wP(n:Int):ByteArray:=EW (Lib.itoa n)
def r5:cP:=⟨0,5,0,0,0,[],[]⟩
def w5:List ByteArray:=[wP 0,wP 5,wP 0,wP 0,wP 0]
def L5:List UInt8:=[114,117,108,101,115,32,48,32,53,32,48,32,48,32,48,10]
theorem ok5:e8 r5:=⟨(fun c h=>by cases h),by decide,by decide⟩
theorem ln:(aeq Df w5).data.toList=L5:=by kernel_rfl
theorem nc:(Lib.join ((Df::w5).map (·.data.toList)) [32]).length=15:=by kernel_rfl
theorem ay:af C 45 [.pv (.ag (rl r5))] (.tu [str (EW L5),i64 0]) []:=by
 have h0:=jQ r5 ok5;rw[show bC r5=0 by kernel_rfl]at h0;have hl:=sO Df w5 (by simp[w5]) (by simp[w5]) [] (by rw[nc];simp);rw[ln]at hl;refine uX ⟨[5],[],[],[7,11,16,20],[(7,[true,true,true,true,false,true,false,false,false,true,false,false,false,true,false,false,false,true,false,false,true,true,true]),(11,[true,false,false,true,true,true,false,true,false,false,false,true,false,false,true,true]),(16,[true,true,true,false,true,false,false,true,true,true]),(20,[true,true,true,true,false,true,false,false,false,true,false,false,false,true,false,false,true,true,true,true])],[]⟩ hC Tryz.func45 rfl (by kernel_rfl) fun _=>?_;refine⟨_,_,h0,?_⟩;refine qy ((au.gD (by exact hC) _ 1 (y:=.ip (rl r5)) (fz:=[(1,.jd (rl r5))]) (by exact⟨rfl,rfl⟩)).trans (au.MH (by exact hC) _ 5 1 90000 5 150 _ _ (by decide) (by decide) (by exact rfl) (by exact rfl) (by exact rfl) (by decide))) ?_;refine⟨_,_,(dB 0 ⟨by decide,by decide⟩),?_⟩;refine⟨_,_,(dB 5 ⟨by decide,by decide⟩),?_⟩;refine⟨_,_,(dB 0 ⟨by decide,by decide⟩),?_⟩;refine⟨_,_,(dB 0 ⟨by decide,by decide⟩),?_⟩;refine⟨_,_,(dB 0 ⟨by decide,by decide⟩),?_⟩;refine⟨_,_,_,hl,?_⟩;refine aJ (fun _:Unit=>True) (fun _=>[(1,.p (.ip (rl r5))),(5,.bx 5 0),(6,.fn 116 [.bx 5 0]),(7,.p (.im (.func (.func 119) #[] #[]))),(46,.p (i64 0)),(47,.p (i64 0))]) (fun _=>[(5,.gC 150 [.bx 5 0,.ow 90000]),(90000,.row 5 (dK L5))]) (fun _=>0) () _ (au.Cx _ 43 90000 (by decide) (by decide)) trivial ⟨Z,Z,Z,Z,Z,Z,Y⟩ ⟨Z,Z,Y⟩ fun _ _ t h=>?_;refine aJ (fun _:Unit=>True) (fun _=>[(5,.bx 5 0),(70,.p (i64 0)),(71,.p (i64 0))]) (fun _=>[(5,.gC 150 [.bx 5 0,.ow 90000]),(90000,.row 5 (dK L5))]) (fun _=>0) () _ (au.refl _ _) trivial ⟨Z,Z,Z,Y⟩ ⟨Z,Z,Y⟩ fun _ _ t h=>?_;refine⟨_,_,_,aet L5,?_⟩;refine⟨_,_,_,Hu L5 (by simp[L5]),?_⟩;refine⟨?_,trivial⟩;rfl
theorem KG:af C 13 [] (.p (bool true)) []:=by
 refine fW hC Tryz.func13 rfl (by kernel_rfl) fun _=>?_;refine⟨_,_,ay,?_⟩;refine⟨?_,trivial⟩;exact adV (fun z=>PV.im (Value.bool z)) (show decide (EW L5=EW L5)=true from abF rfl)
open Reg (bw bE cv IV bN bK told dJ a_ coreS ax Canon Full RK at')
open Reg (aS fo fS aa ee bO cJ through bA fT jD aeW c_ bT)
def dX(a:fS):List PV:=[.sl (a.coppers.map fun r=>[aj r]),aj a.outline,.sl (a.bores.map bc),.sl (a.lands.map lc)]
def pc(p:ByteArray×ByteArray):List PV:=[str p.1,str p.2]
theorem wQ(a b:ByteArray):af C 241 [.pv (str a),.pv (str b)] (.p (i64 (Lib.compareBytes a.data.toList b.data.toList))) []:=
 vv [.string a,.string b] _ ⟨_,Tryz.func241,rfl,rfl⟩ fun S w _ _=>(Tryz.strings_Compare a b w).mono fun e w' h=>⟨h.1,by rw[h.2];exact adw _ _⟩
def AO(p q:ByteArray×ByteArray):Int:=if Lib.compareBytes p.1.data.toList q.1.data.toList≠0 then Lib.compareBytes p.1.data.toList q.1.data.toList else Lib.compareBytes p.2.data.toList q.2.data.toList
theorem rJ(p q:ByteArray×ByteArray):af C 174 [.pv (.ag (pc p)),.pv (.ag (pc q))] (.p (i64 (AO p q))) []:=by
 refine fW hC Tryz.func174 rfl (by kernel_rfl) fun _=>?_;refine⟨_,_,(wQ p.1 q.1),?_⟩;refine iW ?_ ?_<;>intro h
 ·refine⟨?_,trivial⟩;rw[AO,aap (by simpa using h)]
 refine⟨_,_,(wQ p.2 q.2),?_⟩;refine⟨?_,trivial⟩;rw[AO,aaa (by simpa using h)]
theorem pw(l:fo):af C 175 [.pv (.ag (lc l))] (.p (.ag (pc (l.part,l.pin)))) []:=by
 refine fW hC Tryz.func175 rfl (by kernel_rfl) fun _=>?_;refine⟨?_,trivial⟩;rfl
theorem uu(a:fS)(hn:a.coppers.length<=1000000):af C 96 [.pv (.ag (dX a))] (.p (i64 (bT a))) []:=by
 refine fW hC Tryz.func96 rfl (by kernel_rfl) fun _=>?_;have lm:=ai a.bores bc;have lk:=ai a.coppers fun r=>[aj r];refine iW ?_ ?_<;>intro h0
 ·rw[lm]at h0;refine⟨?_,trivial⟩;rw[bT,aap (by omega)];rfl
 rw[lm]at h0;have hc:bT a=c_ a.coppers.length a.bores:=by rw[bT,aaa (by omega)]
 refine aJ (fun i:Nat=>i<=a.bores.length/\c_ a.coppers.length a.bores=c_ a.coppers.length (a.bores.drop i)) (fun i=>[(3,.p (i64 (a.coppers.map fun r=>[aj r]).length)),(16,.p (.sl (a.bores.map bc))),(17,.p (i64 (a.bores.map bc).length)),(18,.p (i64 i))]) (fun _=>[]) (fun i=>a.bores.length-i) 0 _ (au.refl _ _) ⟨aaj _,rfl⟩ ⟨Z,Z,Z,Z,Y⟩ trivial fun i hi t h=>?_;refine iW ?_ ?_<;>intro h1
 ·rw[lm]at h1;obtain⟨b,hb⟩:=ak (l:=a.bores) (i:=i) (by omega);have hs:=Reg.BC (n:=a.coppers.length) hb;refine⟨(bc b),(idx rfl hb),?_⟩;refine⟨_,_,(AL b),?_⟩;refine iW ?_ ?_<;>intro g1
  ·have g1:(ee b).2≠0:=by simpa using g1
   refine⟨?_,trivial⟩;rw[hc,hi.2,hs,aap g1]
  have g1:¬(ee b).2≠0:=by simpa using g1
  rw[aaa g1]at hs;refine⟨⟨by omega,by omega⟩,?_⟩;refine⟨_,_,(kx b.lo 0 (((a.coppers.map fun r=>[aj r]).length:Int)-1)),?_⟩;rw[lk];refine iW ?_ ?_<;>intro g2
  ·refine⟨?_,trivial⟩;rw[hc,hi.2,hs,aaa (by rw[g2];simp)];rfl
  refine⟨⟨by omega,by omega⟩,?_⟩;refine⟨_,_,(kx b.hi b.lo ((a.coppers.length:Int)-1)),?_⟩;refine iW ?_ ?_<;>intro g3
  ·refine⟨?_,trivial⟩;rw[hc,hi.2,hs,aaa (by rw[g2,g3];simp)];rfl
  rw[aap (by rw[g2,g3];rfl)]at hs;refine⟨⟨by omega,by omega⟩,?_⟩;exact⟨(i+1),_,au.refl _ _,⟨by omega,by rw[hi.2,hs]⟩,by omega,⟨Z,Z,Z,Z,Y⟩,trivial⟩
 rw[lm]at h1;refine⟨?_,trivial⟩;rw[hc,hi.2,acX (by omega)];rfl
def dQ(n:Int)(ls:List fo)(i:Nat):Int:=match ls[i]? with
 | none=>0
 | some l=>if (lh l.part&&iU l.pin)=true then (if (Reg.within l.layer 0 (n-1)&&(Reg.kR l.x&&Reg.kR l.y))=true then (match ls[i-1]? with
   | some q=>if 0<i/\AO (l.part,l.pin) (q.part,q.pin)<=0 then 8 else 0
   | none=>0) else 1) else 5
def c8(a:fS):Int:=if 1000<a.lands.length then 2 else cU (dQ a.coppers.length a.lands) 0 a.lands.length
structure ly(a:fS):Prop where
 cop:a.coppers.length<=1048576
 rcs:∀r∈a.coppers,r.length<=1048576
 out:a.outline.length<=1048576
 bor:a.bores.length<=1048576
 lan:a.lands.length<=1048576
 str:∀l∈a.lands,ue l.part/\ue l.pin
theorem uv(a:fS)(ho:ly a):af C 97 [.pv (.ag (dX a))] (.p (i64 (c8 a))) []:=by
 refine fW hC Tryz.func97 rfl (by kernel_rfl) fun _=>?_;have lm:=ai a.lands lc;have lk:=ai a.coppers fun r=>[aj r];have KH:=ho.cop;refine iW ?_ ?_<;>intro h0
 ·rw[lm]at h0;refine⟨?_,trivial⟩;rw[c8,aap (by omega)];rfl
 rw[lm]at h0;have hc:c8 a=cU (dQ a.coppers.length a.lands) 0 a.lands.length:=by rw[c8,aaa (by omega)]
 refine aJ (fun i:Nat=>i<=a.lands.length/\∀k,k<i->dQ a.coppers.length a.lands k=0) (fun i=>[(1,.bx 1 0),(10,.p (.sl (a.lands.map lc))),(11,.p (i64 (a.lands.map lc).length)),(12,.p (i64 i))]) (fun _=>[(1,.box ((dX a).map .p))]) (fun i=>a.lands.length-i) 0 _ (au.refl _ _) ⟨aaj _,by omega⟩ ⟨Z,Z,Z,Z,Y⟩ ⟨Z,Y⟩ fun i hi t h=>?_;refine iW ?_ ?_<;>intro h1
 ·rw[lm]at h1;obtain⟨l,hl⟩:=ak (l:=a.lands) (i:=i) (by omega);obtain⟨s1,s2⟩:=ho.str l (aad hl);have bad:∀v,dQ a.coppers.length a.lands i=v->v≠0->c8 a=v:=fun v hv b8=>by
   rw[hc,gY (m:=i) (by rw[hv];exact b8) (fun k _ hk=>hi.2 k hk) (by omega) (by omega),hv]
  refine⟨(lc l),(idx rfl hl),?_⟩;refine⟨_,_,(tX l.part s1),?_⟩;refine iW ?_ ?_<;>intro g1
  ·refine⟨?_,trivial⟩;rw[bad 5 (by simp only[dQ,hl];rw[aaa (by rw[g1];simp)]) (by decide)];rfl
  refine⟨_,_,(oY l.pin (by unfold ue at s2;omega)),?_⟩;refine iW ?_ ?_<;>intro g2
  ·refine⟨?_,trivial⟩;rw[bad 5 (by simp only[dQ,hl];rw[aaa (by rw[g2];simp)]) (by decide)];rfl
  refine⟨⟨by omega,by omega⟩,?_⟩;refine⟨_,_,(kx l.layer 0 (((a.coppers.map fun r=>[aj r]).length:Int)-1)),?_⟩;rw[lk];refine iW ?_ ?_<;>intro g3
  ·refine⟨?_,trivial⟩;rw[bad 1 (by simp only[dQ,hl];rw[aap (by rw[g1,g2];rfl),aaa (by rw[g3];simp)]) (by decide)];rfl
  refine⟨_,_,(rZ l.x l.y),?_⟩;refine iW ?_ ?_<;>intro g4
  ·refine⟨?_,trivial⟩;rw[bad 1 (by simp only[dQ,hl];rw[aap (by rw[g1,g2];rfl),aaa (by rw[g4];simp)]) (by decide)];rfl
  have pre:dQ a.coppers.length a.lands i=(match a.lands[i-1]? with
    | some q=>if 0<i/\AO (l.part,l.pin) (q.part,q.pin)<=0 then 8 else 0
    | none=>0):=by simp only[dQ,hl];rw[aap (by rw[g1,g2];rfl),aap (by rw[g3,g4];rfl)]
  refine iW ?_ ?_<;>intro g5
  ·obtain⟨q,hq⟩:=ak (l:=a.lands) (i:=i-1) (by omega);rw[hq]at pre;simp only at pre;refine⟨_,_,(pw l),?_⟩;refine⟨⟨by omega,by omega⟩,?_⟩;refine⟨(lc q),(idx (by omega) hq),?_⟩;refine⟨_,_,(pw q),?_⟩;refine⟨_,_,(rJ (l.part,l.pin) (q.part,q.pin)),?_⟩;refine iW ?_ ?_<;>intro g6
   ·rw[aap ⟨by omega,by simpa using g6⟩]at pre;refine⟨?_,trivial⟩;rw[bad 8 pre (by decide)];rfl
   rw[aaa (fun e=>by simp at g6;omega)]at pre;refine⟨⟨by omega,by omega⟩,?_⟩;exact⟨(i+1),_,au.refl _ _,⟨by omega,fun k hk=>by by_cases e:k=i;exact e▸pre;exact hi.2 k (by omega)⟩,by omega,⟨Z,Z,Z,Z,Y⟩,⟨Z,Y⟩⟩
  have pre:dQ a.coppers.length a.lands i=0:=by
   rw[pre];split
   ·rw[aaa (by omega)]
   rfl
  refine⟨⟨by omega,by omega⟩,?_⟩;exact⟨(i+1),_,au.refl _ _,⟨by omega,fun k hk=>by by_cases e:k=i;exact e▸pre;exact hi.2 k (by omega)⟩,by omega,⟨Z,Z,Z,Z,Y⟩,⟨Z,Y⟩⟩
 rw[lm]at h1;refine⟨?_,trivial⟩;rw[hc,eZ fun k _ hk=>hi.2 k (by omega)];rfl
end M
namespace Reg
def UF(u:List Int):Prop:=∀(i:Nat) v,u[i]?=some v->0<=v/\v<=i
inductive eh(u:List Int):Nat->Nat->Prop
 | here (i:Nat) (h:u[i]?=some (i:Int)):eh u i i
 | up (i j r:Nat) (h:u[i]?=some (j:Int)) (b8:j≠i) (hr:eh u j r):eh u i r
variable {u:List Int}
theorem eh.lt{i r:Nat}(h:eh u i r):i<u.length:=by
 cases h with
 | here _ h=>exact (aao.1 h).1
 | up _ _ _ h=>exact (aao.1 h).1
theorem eh.top{i r:Nat}(h:eh u i r):u[r]?=some (r:Int):=by
 induction h with
 | here i h=>exact h
 | up i j r h b8 hr ih=>exact ih
theorem eh.le(hu:UF u){i r:Nat}(h:eh u i r):r<=i:=by
 induction h with
 | here i h=>exact aam _
 | up i j r h b8 hr ih=>have:=hu i j h;omega
theorem eh.uniq{i r q:Nat}(h:eh u i r)(k:eh u i q):r=q:=by
 induction h with
 | here i h=>
  cases k with
  | here=>rfl
  | up _ j _ h2 b8 _=>rw[h]at h2;injection h2 with h2;exact absurd (by omega) b8
 | up i j r h b8 hr ih=>
  cases k with
  | here _ h2=>rw[h]at h2;injection h2 with h2;exact absurd (by omega) b8
  | up _ j2 _ h2 RQ iO=>
   rw[h]at h2;injection h2 with h2;have:j=j2:=by omega
   subst this;exact ih iO
theorem UF.parent(hu:UF u){i:Nat}(hi:i<u.length):∃j:Nat,u[i]?=some (j:Int)/\j<=i:=by
 obtain⟨v,hv⟩:∃v,u[i]?=some v:=⟨_,acg hi⟩;have:=hu i v hv;exact⟨v.toNat,by rw[hv];congr 1;omega,by omega⟩
theorem UF.root(hu:UF u):∀(i:Nat),i<u.length->∃r,eh u i r:=by
 intro i
 induction i using Nat.strongRecOn with
 | _ i ih=>
  intro hi;obtain⟨j,hj,hle⟩:=hu.parent hi;by_cases e:j=i
  ·subst e;exact⟨j,.here j hj⟩
  obtain⟨r,hr⟩:=ih j (by omega) (by omega);exact⟨r,.up i j r hj e hr⟩
theorem ew{α:Type}{l:List α}{i j:Nat}{x:α}(hi:i<l.length):(l.set i x)[j]?=if j=i then some x else l[j]?:=by
 by_cases e:j=i
 ·subst e;rw[aap rfl,ab7 hi]
 rw[aaa e,ac5 (fun e'=>e e'.symm)]
theorem UF.set(hu:UF u){i k:Nat}(hk:k<=i)(hi:i<u.length):UF (u.set i (k:Int)):=fun m v hv=>by
 rw[ew hi]at hv;by_cases e:m=i
 ·rw[aap e]at hv;injection hv with hv;omega
 rw[aaa e]at hv;exact hu m v hv
theorem Ns(hu:UF u){i j k:Nat}(hj:u[i]?=some (j:Int))(hk:u[j]?=some (k:Int)):UF (u.set i (k:Int))/\∀m r,eh (u.set i (k:Int)) m r↔eh u m r:=by
 have hi:=(aao.1 hj).1;have h1:=hu i j hj;have h2:=hu j k hk;have qa:UF (u.set i (k:Int)):=hu.set (by omega) hi;have fwd:∀m r,eh u m r->eh (u.set i (k:Int)) m r:=by
  intro m
  induction m using Nat.strongRecOn with
  | _ m ih=>
   intro r hr;by_cases e:m=i
   ·subst e;have mT:(u.set m (k:Int))[m]?=some (k:Int):=by rw[ew hi,aap rfl]
    cases hr with
    | here _ h=>
     rw[hj]at h;injection h with h;have e1:j=m:=by omega
     subst e1;rw[hj]at hk;injection hk with hk;have e2:j=k:=by omega
     subst e2;exact .here j mT
    | up _ j2 _ h b8 iO=>
     rw[hj]at h;injection h with h;have e1:j=j2:=by omega
     subst e1;by_cases e2:k=j
     ·subst e2;have:r=k:=(eh.uniq (.here k hk) iO).symm;subst this;exact .up m r r mT b8 (ih r (by omega) r iO)
     have hr3:eh u k r:=by
      cases iO with
      | here _ h=>rw[hk]at h;injection h with h;exact absurd (by omega) e2
      | up _ k2 _ h _ hr4=>
       rw[hk]at h;injection h with h;have e3:k=k2:=by omega
       subst e3;exact hr4
     exact .up m k r mT (by omega) (ih k (by omega) r hr3)
   cases hr with
   | here _ h=>exact .here m (by rw[ew hi,aaa e];exact h)
   | up _ j2 _ h b8 iO=>
    have:=hu m j2 h;exact .up m j2 r (by rw[ew hi,aaa e];exact h) b8 (ih j2 (by omega) r iO)
 refine⟨qa,fun m r=>⟨fun h=>?_,fwd m r⟩⟩;obtain⟨q,hq⟩:=hu.root m (by have:=h.lt;rwa [aaM]at this);have:=(fwd m q hq).uniq h;subst this;exact hq
theorem join(hu:UF u){a b:Nat}(ha:u[a]?=some (a:Int))(hb:u[b]?=some (b:Int)):UF (u.set (max a b) ((min a b:Nat):Int))/\∀m r,eh u m r->eh (u.set (max a b) ((min a b:Nat):Int)) m (if r=max a b then min a b else r):=by
 have hi:max a b<u.length:=by
  have h1:=(aao.1 ha).1;have h2:=(aao.1 hb).1;omega
 have X6:u[min a b]?=some ((min a b:Nat):Int):=by
  by_cases h:a<=b
  ·rw[show min a b=a by omega];exact ha
  rw[show min a b=b by omega];exact hb
 have E9:u[max a b]?=some ((max a b:Nat):Int):=by
  by_cases h:a<=b
  ·rw[show max a b=b by omega];exact hb
  rw[show max a b=a by omega];exact ha
 refine⟨hu.set (by omega) hi,fun m r hr=>?_⟩
 induction hr with
 | here i h=>
  by_cases e:i=max a b
  ·rw[aap e];by_cases e2:min a b=i
   ·subst e2;exact .here _ (by rw[ew hi,aap e])
   refine .up i (min a b) _ (by rw[ew hi,aap e]) e2 (.here _ ?_);rw[ew hi,aaa (by omega)];exact X6
  rw[aaa e];exact .here i (by rw[ew hi,aaa e];exact h)
 | up i j r h b8 hr ih=>
  refine .up i j _ ?_ b8 ih;rw[ew hi,aaa]
  ·exact h
  intro e;rw[e,E9]at h;injection h with h;exact b8 (by omega)
def kU(u:List Int)(i k:Nat):Prop:=∃r,eh u i r/\eh u k r
theorem PI{v:List Int}(h:∀m r,eh v m r↔eh u m r)(i k:Nat):kU v i k↔kU u i k:=by
 simp only[kU,h]
theorem KI(hu:UF u){a b i k:Nat}(hi:eh u i a)(hk:eh u k b){p q:Nat}(hp:p<u.length)(hq:q<u.length):
  kU (u.set (max a b) ((min a b:Nat):Int)) p q↔kU u p q\/(kU u p i/\kU u q k)\/(kU u p k/\kU u q i):=by
 obtain⟨j1,j2⟩:=join hu hi.top hk.top;obtain⟨r,hr⟩:=hu.root p hp;obtain⟨s,hs⟩:=hu.root q hq;have e1:kU (u.set (max a b) ((min a b:Nat):Int)) p q↔(if r=max a b then min a b else r)=(if s=max a b then min a b else s):=
  ⟨fun ⟨z,z1,z2⟩=>((j2 p r hr).uniq z1).trans ((j2 q s hs).uniq z2).symm,fun e=>⟨_,j2 p r hr,by rw[e];exact j2 q s hs⟩⟩
 have same:∀{x y:Nat} {c d:Nat},eh u x c->eh u y d->(kU u x y↔c=d):=fun hx hy=>⟨fun ⟨z,z1,z2⟩=>(hx.uniq z1).trans (hy.uniq z2).symm,fun e=>⟨_,hx,by rw[e];exact hy⟩⟩;rw[e1,same hr hs,same hr hi,same hs hk,same hr hk,same hs hi];split<;>split<;>omega
def iota(n:Nat):List Int:=(List.range n).map fun (i:Nat)=>(i:Int)
theorem E_{n i:Nat}(h:i<n):(iota n)[i]?=some (i:Int):=by rw[iota,aak,abP h];rfl
theorem aeM(n:Nat):(iota n).length=n:=by simp[iota]
theorem ny(n:Nat):UF (iota n):=fun i v hv=>by
 have hi:=(aao.1 hv).1;rw[aeM]at hi;rw[E_ hi]at hv;injection hv with hv;omega
theorem BI{n i r:Nat}(h:eh (iota n) i r):i=r:=by
 have hi:=h.lt;rw[aeM]at hi;exact ((eh.here i (E_ hi)).uniq h)
def cw:Nat->List Int->Nat->List Int×Nat
 | 0,u,i=>(u,i)
 | n+1,u,i=>if u.getD i 0=i then (u,i) else cw n (u.set i (u.getD (u.getD i 0).toNat 0)) (u.getD (u.getD i 0).toNat 0).toNat
structure Nt(u:List Int)(i:Nat)(x:List Int×Nat):Prop where
 uf:UF x.1
 len:x.1.length=u.length
 same:∀m q,eh x.1 m q↔eh u m q
 root:eh u i x.2
theorem fU:∀(n:Nat) (u:List Int) (i:Nat),UF u->i<u.length->i<=n->Nt u i (cw n u i)
 | 0,u,i,hu,hi,hn=>by
  have:i=0:=by omega
  subst this;obtain⟨j,hj,hle⟩:=hu.parent hi;have:j=0:=by omega
  subst this;exact⟨hu,rfl,fun _ _=>aaT,.here 0 hj⟩
 | n+1,u,i,hu,hi,hn=>by
  obtain⟨j,hj,hle⟩:=hu.parent hi;have e1:u.getD i 0=j:=by rw[acp,hj];rfl
  rw[cw];by_cases h:u.getD i 0=i
  ·rw[aap h];exact⟨hu,rfl,fun _ _=>aaT,.here i (by rw[hj,<-e1,h])⟩
  rw[aaa h];rw[e1]at h ⊢;have Lw:j<u.length:=by omega
  obtain⟨k,hk,Vm⟩:=hu.parent Lw;have e2:u.getD (j:Int).toNat 0=k:=by rw[adF,acp,hk];rfl
  rw[e2,adF];obtain⟨h1,h2⟩:=Ns hu hj hk;have ih:=fU n (u.set i (k:Int)) k h1 (by rw[aaM];omega) (by omega);refine⟨ih.uf,by rw[ih.len,aaM],fun m q=>(ih.same m q).trans (h2 m q),?_⟩;have hr:=(h2 _ _).1 ih.root;have b8:j≠i:=by omega
  by_cases e3:k=j
  ·subst e3;exact .up i k _ hj b8 hr
  exact .up i j _ hj b8 (.up j k _ hk e3 hr)
def gj(u:List Int)(i k:Nat):List Int:=(cw k (cw i u i).1 k).1.set (max (cw i u i).2 (cw k (cw i u i).1 k).2) ((min (cw i u i).2 (cw k (cw i u i).1 k).2:Nat):Int)
theorem mC(hu:UF u){i k:Nat}(hi:i<u.length)(hk:k<u.length):UF (gj u i k)/\(gj u i k).length=u.length:=by
 have a:=fU i u i hu hi (aam _);have b:=fU k (cw i u i).1 k a.uf (by rw[a.len];exact hk) (aam _);have s1:∀m q,eh (cw k (cw i u i).1 k).1 m q↔eh u m q:=fun m q=>(b.same m q).trans (a.same m q);have ra:=(s1 _ _).2 a.root;have rb:=(b.same _ _).2 b.root;exact⟨(join b.uf ra.top rb.top).1,by rw[gj,aaM,b.len,a.len]⟩
end Reg
namespace M
open Go.AM Go.RowKit Go.Lib
open Reg (UF eh Nt cw fU iota)
theorem cM{u:List Int}{i:Nat}{v:Int}(h:u[i]?=some v):(aA u)[i]?=some [i64 v]:=by rw[aA,aak,h];rfl
theorem fV(u:List Int)(i:Nat)(v:Int):(aA u).set i [i64 v]=aA (u.set i v):=by simp[aA,ad7]
theorem bQ(u:List Int):(aA u).length=u.length:=by simp[aA]
theorem BJ{n:Nat}{u:List Int}{i:Nat}(hu:UF u)(hi:i<u.length)(hn:i<=n):∃j k:Nat,u[i]?=some (j:Int)/\u[j]?=some (k:Int)/\j<=i/\k<=j/\(j=i->cw n u i=(u,i))/\(j≠i->∃m,n=m+1/\cw n u i=cw m (u.set i (k:Int)) k):=by
 obtain⟨j,hj,hle⟩:=hu.parent hi;obtain⟨k,hk,Vm⟩:=hu.parent (i:=j) (by omega);have e1:u.getD i 0=j:=by rw[acp,hj];rfl
 have e2:u.getD j 0=k:=by rw[acp,hk];rfl
 refine⟨j,k,hj,hk,hle,Vm,fun e=>?_,fun e=>?_⟩
 ·cases n with
  | zero=>rfl
  | succ n=>rw[cw,aap (by rw[e1];omega)]
 cases n with
 | zero=>omega
 | succ n=>
  refine⟨n,rfl,?_⟩;rw[cw,aaa (by rw[e1];omega),e1,adF,e2,adF]
theorem vF(u:List Int)(hu:UF u)(i:Nat)(hi:i<u.length):af C 243 [.aN [.row 3 (aA u)],.pv (i64 i)] (.p (i64 (cw i u i).2)) [.aN [.row 3 (aA (cw i u i).1)]]:=by
 refine UP ⟨[],[],[],[],[],[]⟩ hC Tryz.func243 rfl (by kernel_rfl) fun _=>⟨_,au.open hC _ 100000 [90000] (by exact rfl) rfl rfl rfl,?_⟩;obtain⟨R,hR⟩:∃R,R=cw i u i:=⟨_,rfl⟩;rw[<-hR];refine aJ (fun x:Nat×List Int×Nat=>cw x.1 x.2.1 x.2.2=R/\UF x.2.1/\x.2.2<x.2.1.length/\x.2.2<=x.1) (fun x=>[(0,.bx 100000 0),(1,.p (i64 x.2.2))]) (fun x=>[(100000,.box [.ow 90000]),(90000,.row 3 (aA x.2.1))]) (fun x=>x.2.2) (i,u,i) _ (au.refl _ _) ⟨hR.symm,hu,hi,aam _⟩ ⟨Z,Z,Y⟩ ⟨Z,Z,Y⟩ fun ⟨n,v,k⟩ hx t h=>?_;obtain⟨h1,h2,h3,h4⟩:=hx;simp only at h1 h2 h3 h4;obtain⟨j,l,hj,hl,q1,q2,q3,q4⟩:=BJ h2 h3 h4;have lv:=bQ v;refine⟨⟨by omega,by (try dsimp only);rw[lv];omega⟩,?_⟩;refine⟨[i64 j],(cM hj),?_⟩;refine iW ?_ ?_<;>intro g<;>try simp only[zB]at g
 ·have b8:j≠k:=by omega
  obtain⟨m,rfl,q5⟩:=q4 b8;refine⟨⟨by omega,by (try dsimp only);rw[lv];omega⟩,?_⟩;refine⟨[i64 j],(cM hj),?_⟩;refine⟨⟨by omega,by (try dsimp only);rw[lv];omega⟩,?_⟩;refine⟨[i64 l],(cM hl),?_⟩;refine⟨⟨by omega,by (try dsimp only);rw[lv];omega⟩,?_⟩;refine⟨[i64 j],(cM hj),?_⟩;refine⟨⟨by omega,by (try dsimp only);rw[List.length_set,lv];omega⟩,?_⟩;refine⟨[i64 l],(by rw[List.getElem?_set_self (by (try dsimp only);rw[lv];omega)];rfl),?_⟩;exact⟨(m,v.set k (l:Int),l),_,au.refl _ _,⟨by rw[<-q5];exact h1,(Reg.Ns h2 hj hl).1,by simp only[List.length_set];omega,by dsimp only;omega⟩,by simp only;omega,⟨Z,Z,Y⟩,⟨rfl,congrArg (AB.row _) (fV v k l),trivial⟩⟩
 have e:j=k:=by omega
 have h1:=(q3 e).symm.trans h1;subst h1;exact And.intro rfl (And.intro ⟨Z,Z,Y⟩ trivial)
open Reg (gj)
theorem Hx(u:List Int)(hu:UF u)(i k:Nat)(hi:i<u.length)(hk:k<u.length):af C 182 [.aN [.row 3 (aA u)],.pv (i64 i),.pv (i64 k)] (.tu []) [.aN [.row 3 (aA (gj u i k))]]:=by
 have a:=fU i u i hu hi (aam _);have b:=fU k (cw i u i).1 k a.uf (by rw[a.len];exact hk) (aam _);refine uX ⟨[1],[],[],[],[],[]⟩ hC Tryz.func182 rfl (by kernel_rfl) fun _=>?_;refine⟨_,_,(vF u hu i hi),?_⟩;refine⟨_,_,(vF (cw i u i).1 a.uf k (by rw[a.len];exact hk)),?_⟩;refine qy (au.open (by exact hC) _ 100000 [90000] (by exact rfl) rfl rfl rfl) ?_;have ra:=(aao.1 ((b.same _ _).2 ((a.same _ _).2 a.root)).top).1;have rb:=(aao.1 ((b.same _ _).2 b.root).top).1;have E9:((max ((cw i u i).2:Int) ((cw k (cw i u i).1 k).2:Int))).toNat=max (cw i u i).2 (cw k (cw i u i).1 k).2:=by omega
 have lv:=bQ (cw k (cw i u i).1 k).1;obtain⟨v,hv⟩:∃v,(cw k (cw i u i).1 k).1[max (cw i u i).2 (cw k (cw i u i).1 k).2]?=some v:=⟨_,acg (by omega)⟩;refine⟨⟨by omega,by rw[lv];omega⟩,?_⟩;refine⟨[i64 v],(by rw[E9];exact cM hv),?_⟩;refine⟨rfl,(And.intro ⟨rfl,?_,trivial⟩ trivial)⟩;refine adV (AB.row _) ?_;rw[E9];show (aA _).set _ [i64 (min _ _)]=_;rw[fV,gj];congr 1;congr 1;omega
end M
namespace Reg
def cd(p:Nat->Nat)(i:Nat):List Nat:=(List.range i).filter fun r=>decide (p r=r)
def dh(p:Nat->Nat)(i r:Nat):List Nat:=(List.range i).filter fun m=>decide (p m=r)
def aP(p:Nat->Nat)(i:Nat):List (List Nat):=(cd p i).map (dh p i)
structure Dg(p:Nat->Nat)(n:Nat):Prop where
 le:∀m,m<n->p m<=m
 top:∀m,m<n->p (p m)=p m
theorem mem_keys{p:Nat->Nat}{i r:Nat}:r∈cd p i↔r<i/\p r=r:=by simp[cd]
theorem dx{p:Nat->Nat}{i r m:Nat}:m∈dh p i r↔m<i/\p m=r:=by simp[dh]
theorem afh(p:Nat->Nat)(i:Nat):(cd p i).Nodup:=ac0 aea List.nodup_range
theorem fE(p:Nat->Nat)(i:Nat):cd p (i+1)=if p i=i then cd p i++[i] else cd p i:=by
 rw[cd,ac1,aaA];by_cases h:p i=i<;>simp[h,cd]
theorem uw(p:Nat->Nat)(i r:Nat):dh p (i+1) r=if p i=r then dh p i r++[i] else dh p i r:=by
 rw[dh,ac1,aaA];by_cases h:p i=r<;>simp[h,dh]
theorem Nu{p:Nat->Nat}{n i:Nat}(hp:Dg p n)(hi:i<=n):dh p i i=[]:=by
 refine adK.2 fun m hm=>?_;have h1:=abv.1 hm;have:=hp.le m (by omega);simp;omega
theorem Fa{p:Nat->Nat}{n i:Nat}(hp:Dg p n)(hi:i<n)(h:p i=i):aP p (i+1)=aP p i++[[i]]:=by
 rw[aP,fE,aap h,abz];congr 1
 ·refine aci fun r hr=>?_;have:=(mem_keys.1 hr).1;rw[uw,aaa (by omega)]
 simp[uw,h,Nu hp (Nat.le_of_lt hi)]
theorem Nv{p:Nat->Nat}{n i:Nat}(hp:Dg p n)(hi:i<n)(h:p i≠i):∃k:Nat,(cd p i)[k]?=some (p i):=by
 have h1:=hp.le i hi;exact ab8.1 (mem_keys.2 ⟨by omega,hp.top i hi⟩)
theorem zn{l:List Nat}(h:l.Nodup){a b x:Nat}(ha:l[a]?=some x)(hb:l[b]?=some x):a=b:=by
 obtain⟨h1,e1⟩:=aao.1 ha;obtain⟨h2,e2⟩:=aao.1 hb;rcases ads a b with h3 | h3 | h3
 ·exact absurd (e1.trans e2.symm) (ad2.1 h _ _ h1 h2 h3)
 ·exact h3
 exact absurd (e2.trans e1.symm) (ad2.1 h _ _ h2 h1 h3)
theorem Fb{p:Nat->Nat}{i:Nat}(h:p i≠i){k:Nat}(hk:(cd p i)[k]?=some (p i)):aP p (i+1)=(aP p i).set k (dh p i (p i)++[i])/\(aP p i)[k]?=some (dh p i (p i)):=by
 have Ov:=(aao.1 hk).1;refine⟨?_,by rw[aP,aak,hk];rfl⟩;rw[aP,fE,aaa h];apply ach;intro m;rw[ew (by rw[aP,aej];exact Ov),aP,aak,aak];by_cases e:m=k
 ·subst e;rw[aap rfl,hk];simp[uw]
 rw[aaa e];cases hm:(cd p i)[m]? with
 | none=>rfl
 | some r=>
  have b8:p i≠r:=fun e2=>e (zn (afh p i) hm (by rw[hk,e2]));simp[uw,b8]
theorem oq(p:Nat->Nat)(i:Nat):(aP p i).length=(cd p i).length:=by simp[aP]
theorem qI(p:Nat->Nat)(i:Nat):(cd p i).length<=i:=by
 have:=aax (fun r=>decide (p r=r)) (List.range i);simpa [cd] using this
theorem qJ(p:Nat->Nat)(i r:Nat):(dh p i r).length<=i:=by
 have:=aax (fun m=>decide (p m=r)) (List.range i);simpa [dh] using this
def cQ(u:List Int)(i:Nat):Nat:=(cw i u i).2
variable {u:List Int}
theorem iM(hu:UF u){i:Nat}(hi:i<u.length):eh u i (cQ u i):=(fU i u i hu hi (aam _)).root
theorem zo(hu:UF u){i r:Nat}(h:eh u i r):cQ u i=r:=(iM hu h.lt).uniq h
theorem rz(hu:UF u):Dg (cQ u) u.length:=
 ⟨fun m hm=>(iM hu hm).le hu,fun m hm=>by
  have h:=iM hu hm;exact zo hu (.here _ h.top)⟩
theorem ae8(hu:UF u){i k:Nat}(hi:i<u.length)(hk:k<u.length):kU u i k↔cQ u i=cQ u k:=
 ⟨fun ⟨r,h1,h2⟩=>(zo hu h1).trans (zo hu h2).symm,fun e=>⟨_,iM hu hi,by rw[e];exact iM hu hk⟩⟩
end Reg
namespace M
open Go.AM Go.RowKit Go.Lib
open Reg (UF eh iota)
def sR(n i:Nat):List Int:=(List.range n).map fun (j:Nat)=>if j<i then (j:Int) else 0
theorem zp(n i:Nat):(sR n i).length=n:=by simp[sR]
theorem Fc{n i:Nat}(h:i<n):(sR n i)[i]?=some 0:=by
 rw[sR,aak,abP h];simp
theorem BK(n:Nat):aA (sR n 0)=List.replicate n [i64 0]:=by
 refine ach fun m=>?_;rw[aA,aak,sR,aak,acf];by_cases h:m<n
 ·rw[abP h,aap h];rfl
 rw[aaa h,abI (by simp;omega)];rfl
theorem Fe(n:Nat):sR n n=iota n:=aci fun j hj=>aap (abv.1 hj)
theorem Ff{n i:Nat}(h:i<n):(sR n i).set i (i:Int)=sR n (i+1):=by
 refine ach fun m=>?_;rw[Reg.ew (by rw[zp];exact h),sR,sR,aak,aak];by_cases e:m=i
 ·subst e;rw[aap rfl,abP h];simp
 rw[aaa e];by_cases hm:m<n
 ·rw[abP hm];simp only[ab6,Option.some.injEq];by_cases h2:m<i
  ·rw[aap h2,aap (by omega)]
  rw[aaa h2,aaa (by omega)]
 rw[abI (by simp;omega)];rfl
theorem KJ(n:Nat)(hn:n<=1000000000):af C 181 [.pv (i64 n)] (.hown [.row 3 (aA (iota n))]) []:=by
 refine UO ⟨[],[0],[],[],[],[]⟩ hC Tryz.func181 rfl (by kernel_rfl) fun _=>⟨_,au.refl _ _,?_⟩;refine⟨⟨by omega,by omega,by dsimp only;omega,by omega⟩,?_⟩;refine p7 (fun _:Unit=>True) (fun _=>[(3,.bx 8 0)]) (fun _=>[(8,.box [.ow 6]),(6,.row 3 (aA (iota n)))]) (fun _ hO t h=>?_) ?_
 ·exact⟨_,au.pack (by exact hC) _ 8 (cs:=[.row 3 (aA (iota n))]) (by exact rfl) (by exact rfl) (by exact⟨Z,Y⟩),And.intro rfl (And.intro rfl trivial)⟩
 refine aJ (fun i:Nat=>i<=n) (fun i=>[(3,.bx 8 0),(13,.p (i64 n)),(14,.p (i64 i))]) (fun i=>[(8,.box [.ow 6]),(6,.row 3 (aA (sR n i)))]) (fun i=>n-i) 0 _ (au.refl _ _) (aaj _) ⟨rfl,adV (fun m:Nat=>AV.p (i64 m)) aan,Z,Y⟩ ⟨rfl,by rw[BK];rfl,trivial⟩ fun i hi t h=>?_;have lv:=bQ (sR n i);have lu:=zp n i;refine iW ?_ ?_<;>intro h1
 ·refine⟨⟨by omega,by rw[lv];omega⟩,?_⟩;refine⟨[i64 0],(cM (Fc (by omega))),?_⟩;refine⟨⟨by omega,by omega⟩,?_⟩;exact⟨(i+1),_,au.refl _ _,by omega,by omega,⟨Z,Z,Z,Y⟩,⟨rfl,adV (AB.row _) ((fV _ _ _).trans (by rw[adF,Ff (by omega)])),trivial⟩⟩
 have e:i=n:=by omega
 subst e;exact⟨(),trivial,⟨Z,Y⟩,⟨rfl,adV (AB.row _) (adV aA (Fe i)),trivial⟩⟩
theorem I4(k:IntKind)(a b:Int):Ak (.int k a) (.int k b)=decide (a=b):=rfl
theorem PJ{q:IntKind}{k:Int}{k':Value}(h:Ak (.int q k) k'=true):∃q',k'=.int q' k:=by
 cases k'<;>simp_all [Ak]
theorem mE(v:PV)(q:IntKind)(k n:Int):∀es:List (Value×PV),kz (mP es (.int q k) v) (.int q n)=if n=k then some v else kz es (.int q n)
 | []=>by
  simp only[mP,kz,I4];by_cases h:n=k<;>simp[h]
 | (k',u)::r=>by
  simp only[mP];cases h:Ak (.int q k) k'
  ·simp only[kz,mE v q k n r];by_cases e:n=k
   ·subst e;simp[h]
   simp[e]
  obtain⟨q',e⟩:=PJ h;subst e;simp only[kz,I4];by_cases e:n=k
  ·simp[e]
  rw[show Ak (Value.int q n) (Value.int q' k)=decide (n=k) from rfl];simp[e]
theorem Hy(u:List Int)(hu:UF u)(i r:Nat)(hr:eh u i r):af C 243 [.aN [.row 3 (aA u)],.pv (i64 i)] (.p (i64 r)) [.aN [.row 3 (aA (Reg.cw i u i).1)]]:=by
 have h:=vF u hu i hr.lt;rw[(Reg.fU i u i hu hr.lt (aam _)).root.uniq hr]at h;exact h
def hl(l:List Nat):List HX:=[.row 3 (aA (l.map fun (m:Nat)=>(m:Int)))]
def pl(l:List Nat):List PV:=[.sl (aA (l.map fun (m:Nat)=>(m:Int)))]
def ou(u:List Int):Nat->List Int
 | 0=>u
 | i+1=>(Reg.cw i (ou u i) i).1
structure PK(u:List Int)(i:Nat)(es:List (Value×PV)):Prop where
 le:i<=u.length
 key:∀(k r:Nat),(Reg.cd (Reg.cQ u) i)[k]?=some r->kz es (.int .i64 r)=some (i64 k)
theorem zq{u:List Int}(hu:UF u):∀i,i<=u.length->UF (ou u i)/\(ou u i).length=u.length/\∀m r,eh (ou u i) m r↔eh u m r
 | 0,_=>⟨hu,rfl,fun _ _=>aaT⟩
 | i+1,h=>by
  obtain⟨a,b,c⟩:=zq hu i (by omega);have t:=Reg.fU i (ou u i) i a (by omega) (aam _);exact⟨t.uf,t.len.trans b,fun m r=>(t.same m r).trans (c m r)⟩
theorem BL(ls:List (List Nat)):xH (ls.map hl):=fun r hr x hx=>by
 obtain⟨l,_,rfl⟩:=adS.1 hr;simp only[hl,adq,ace,or_false]at hx;subst hx;trivial
theorem zr(f:AV->AV)(ls:List (List Nat)):(ls.map hl).map (fun r=>r.map (HX.cS f))=ls.map hl:=by
 rw[ad5];rfl
theorem vG(l:List Nat)(y:HX):(hl l).set 0 y=[y]:=rfl
theorem ae3(f:AV->AV)(ls:List (List Nat))(k d:Nat)(h:f (.ow d)=.ow d):((ls.map hl).set k [.av (.ow d)]).map (fun r=>r.map (HX.cS f))=(ls.map hl).set k [.av (.ow d)]:=by
 rw[ad7,zr];simp only[aa8,ab3,HX.cS,h]
theorem SH(f:AV->AV)(ls:List (List Nat))(x:List (List HX)):(ls.map hl++x).map (fun r=>r.map (HX.cS f))=ls.map hl++x.map (fun r=>r.map (HX.cS f)):=by
 rw[abz,zr]
theorem vH(ls:List (List Nat))(k d:Nat)(hk:k<ls.length):((ls.map hl).set k [.av (.ow d)])[k]?=some [.av (.ow d)]:=ab7 (by rw[aej];exact hk)
theorem ux{α:Type}(l:List α)(x y:α)(n:Nat)(h:n=l.length):(l++[x]).set n y=l++[y]:=by subst h;simp
theorem Vn(ls:List (List Nat)):Oi (ls.map hl) (ls.map pl):=Oi.map fun l _=>⟨rfl,fun j u v hu hv=>by
 match j with
 | 0=>
  simp only[hl,pl,aa9,Option.some.injEq]at hu hv;subst hu;subst hv;exact .row _ _
 | j+1=>simp[hl]at hu⟩
theorem Hz(u:List Int)(hu:UF u)(hn:u.length<=1000000000):af C 183 [.aN [.row 3 (aA u)]] (.own 71 ((Reg.aP (Reg.cQ u) u.length).map pl)) [.aN [.row 3 (aA (ou u u.length))]]:=by
 refine UO ⟨[10],[0],[(10,[3,1000003,7])],[10],[(10,[true,true,true,false,true,true,true,true,true,true,true,true,false,true,true])],[]⟩ hC Tryz.func183 rfl (by kernel_rfl) fun _=>⟨_,au.open hC _ 100000 [90000] (by exact rfl) rfl rfl rfl,?_⟩;obtain⟨p,hp⟩:∃p,p=Reg.cQ u:=⟨_,rfl⟩;have hT:Reg.Dg p u.length:=hp▸Reg.rz hu;rw[<-hp];refine p7 (fun _:Unit=>True) (fun _=>[(0,.bx 100000 0),(3,.ow 3)]) (fun _=>[(100000,.aN [.row 3 (aA (ou u u.length))]),(3,.az 71 ((Reg.aP p u.length).map hl))]) (fun _ hO t h=>?_) ?_
 ·exact⟨_,au.ID (by exact hC) _ 2 ((Reg.aP p u.length).map pl) (e:=71) (by exact adV (AB.az _) (zr (rn 3 2) _)) (Vn _),And.intro rfl (And.intro rfl (And.intro rfl trivial))⟩
 refine aJ (fun x:Nat×List (Value×PV)=>PK u x.1 x.2) (fun x=>[(0,.bx 100000 0),(3,.ow 3),(4,.ow 7),(12,.p (i64 u.length)),(13,.p (i64 x.1))]) (fun x=>[(100000,.aN [.row 3 (aA (ou u x.1))]),(3,.az 71 ((Reg.aP p x.1).map hl)),(7,.map (.int .i64) x.2)]) (fun x=>u.length-x.1) (0,[]) _ ((au.pack (by exact hC) _ 100000 (cs:=[.row 3 (aA u)]) (by exact rfl) (by exact rfl) (by exact⟨Z,Y⟩)).trans ((au.dk (by exact hC) _ 3 71 _ (by decide) (by exact rfl) (by exact rfl) (by decide)).trans (au.Wg (by exact hC) _ 3 (e:=71) (es:=[]) (by exact rfl)))) ⟨aaj _,fun k r h=>by simp[Reg.cd]at h⟩ ⟨rfl,rfl,rfl,adV (fun m:Nat=>AV.p (i64 m)) (bQ u),Z,Y⟩ ⟨Z,Z,Z,Y⟩ fun ⟨i,es⟩ hx t h=>?_;obtain⟨h1,h2⟩:=hx;simp only at h1 h2;rw[<-hp]at h2;obtain⟨vu,vl,vr⟩:=zq hu i h1;refine iW ?_ ?_<;>intro g<;>try simp only[zB]at g
 ·have hr:eh (ou u i) i (p i):=(vr _ _).2 (by rw[hp];exact Reg.iM hu (by omega));refine⟨_,_,(Hy _ vu i (p i) hr),?_⟩;refine iW ?_ ?_<;>intro g2<;>try simp only[zB]at g2
  ·have e:p i=i:=by omega
   have nx:=Reg.Fa hT (show i<u.length by omega) e;have kl:(Reg.cd p i).length<=i:=Reg.qI p i;have sl:(Reg.aP p i).length=(Reg.cd p i).length:=Reg.oq p i;refine⟨⟨fun r hr=>by simp at hr;subst hr;rfl,by simp only[aej,aaM,aan];omega,by simp only[aej,aaM,aan];omega⟩,?_⟩;refine qy ((au.Sr (by exact hC) _ 3 (Reg.aP p i).length 0 (e:=71) (e':=3) (es:=(Reg.aP p i).map hl++[[.av .nl]]) (r:=[.av .nl]) (by exact adV (AB.az _) (by simp only[zr,SH];rfl)) (by rw[acu (by simp)];simp) (by exact rfl) (by exact rfl) (by decide)).trans (au.rq (by exact hC) _ 3 (Reg.aP p i).length 0 90001 (e:=71) (es:=(Reg.aP p i++[[]]).map hl) (e':=3) (r:=hl []) (xs:=[]) (by decide) (by decide) (by exact adV (AB.az _) (by rw[abz];refine (ux _ _ _ _ (aej _).symm).trans ?_;rfl)) (BL _) (by rw[abz,acu (by simp)];simp) (by exact rfl))) ?_;have Zt:∀v,kz (mP es (.int .i64 i) v) (.int .i64 (p i))=some v:=fun v=>by rw[mE,aap (by rw[e])]
   refine⟨(some _),(Zt _),?_⟩;refine⟨(some _),(Zt _),?_⟩;have e0:(List.map (fun r=>List.map (HX.cS (sc 18)) r) (List.map hl (Reg.aP p i))).length=(Reg.aP p i).length:=by simp
   refine⟨⟨by dsimp only;omega,by simp⟩,?_⟩;refine⟨[.av (.ow 90001)],(by rw[vG,ae3,ae3];rw[e0];exact vH (Reg.aP p i++[[]]) (Reg.aP p i).length 90001 (by simp);rfl;rfl),?_⟩;refine⟨⟨fun r hr=>by simp at hr;subst hr;rfl,by simp,by simp⟩,?_⟩;refine⟨⟨by dsimp only;omega,by simp⟩,?_⟩;refine⟨[.av (.ow 90001)],(by rw[vG,ae3,ae3];rw[e0];exact vH (Reg.aP p i++[[]]) (Reg.aP p i).length 90001 (by simp);rfl;rfl),?_⟩;refine⟨⟨by omega,by omega⟩,?_⟩;refine⟨(i+1,mP es (.int .i64 i) (i64 (Reg.aP p i).length)),_,au.Bm (by exact hC) _ 3 (Reg.aP p i).length 0 41 (e:=71) (es:=((Reg.aP p i++[[]]).map hl).set (Reg.aP p i).length [.av (.ow 41)]) (e':=3) (xs:=aA [(i:Int)]) (by decide) (by exact adV (AB.az _) (by rw[vG,ae3,ae3,e0];exact ac2 _;rfl;rfl)) (by exact rfl) (vH _ _ _ (by simp)) (by exact rfl),?_⟩;refine⟨⟨by omega,fun k r hk=>?_⟩,⟨by omega,⟨Z,Z,Z,Z,Z,Y⟩,⟨rfl,?_,adV (AB.map _) ?_,trivial⟩⟩⟩
   ·rw[<-hp,Reg.fE,aap e]at hk;rw[mE];by_cases LG:k<(Reg.cd p i).length
    ·rw[aaE LG]at hk;have:=(Reg.mem_keys.1 (aad hk)).1;rw[aaa (by omega)];exact h2 k r hk
    rw[acu (by omega)]at hk;have Im:k=(Reg.cd p i).length:=by
     have:=(aao.1 hk).1;simp at this;omega
    subst Im;simp only[aab,aa9,Option.some.injEq]at hk;subst hk;rw[aap rfl,sl]
   ·refine adV (AB.az _) ?_;show ((List.map hl (Reg.aP p i++[[]])).set _ _).set _ _=List.map hl (Reg.aP p (i+1));rw[ac2,nx,abz,abz];exact ux _ _ _ _ (aej _).symm
   dsimp only;rw[e0];rfl
  have e:p i≠i:=by omega
  obtain⟨k,hk⟩:=Reg.Nv hT (show i<u.length by omega) e;obtain⟨nx,Gp⟩:=Reg.Fb e hk;have km:=h2 k (p i) hk;have SI:((Reg.aP p i).map hl)[k]?=some (hl (Reg.dh p i (p i))):=by rw[aak,Gp];rfl
  refine qy (au.rq (by exact hC) _ 3 k 0 90001 (e:=71) (by decide) (by decide) (by exact adV (AB.az _) (by simp only[zr])) (BL _) SI (by exact rfl)) ?_;refine⟨(some (i64 k)),km,?_⟩;refine⟨(some (i64 k)),km,?_⟩;have kl:=(aao.1 hk).1;have sl:(Reg.aP p i).length=(Reg.cd p i).length:=Reg.oq p i;refine⟨⟨by omega,by simp only[aej,aaM];omega⟩,?_⟩;refine⟨[.av (.ow 90001)],(by rw[vG,ae3,ae3];exact vH (Reg.aP p i) k 90001 (by omega);rfl;rfl),?_⟩;have ml:=Reg.qJ p i (p i);refine⟨⟨fun r hr=>by simp at hr;subst hr;rfl,by simp only[bQ,aej,aaM,aan];omega,by simp only[bQ,aej,aaM,aan];omega⟩,?_⟩;refine⟨⟨by omega,by simp only[aej,aaM];omega⟩,?_⟩;refine⟨[.av (.ow 90001)],(by rw[vG,ae3,ae3];exact vH (Reg.aP p i) k 90001 (by omega);rfl;rfl),?_⟩;refine⟨⟨by omega,by omega⟩,?_⟩;refine⟨(i+1,es),_,au.Bm (by exact hC) _ 3 k 0 41 (e:=71) (es:=((Reg.aP p i).map hl).set k [.av (.ow 41)]) (e':=3) (xs:=aA ((Reg.dh p i (p i)++[i]).map fun (m:Nat)=>(m:Int))) (by decide) (by exact adV (AB.az _) (by rw[vG,ae3,ae3];exact ac2 _;rfl;rfl)) (by exact adV (AB.row _) (by simp[aA];rfl)) (vH _ _ _ (by omega)) (by exact rfl),?_⟩;refine⟨⟨by omega,fun k' r xA=>?_⟩,⟨by omega,⟨Z,Z,Z,Z,Z,Y⟩,⟨rfl,?_,Z,Y⟩⟩⟩
  ·rw[<-hp,Reg.fE,aaa e]at xA;exact h2 k' r xA
  refine adV (AB.az _) ?_;show ((List.map hl (Reg.aP p i)).set _ _).set _ _=List.map hl (Reg.aP p (i+1));rw[ac2,nx,ad7];rfl
 have e:i=u.length:=by omega
 subst e;exact⟨(),trivial,⟨Z,Z,Y⟩,⟨Z,Z,Y⟩⟩
end M
namespace Reg
def P4(K:Int)(r:ae):Prop:=(-K<=r.x0/\r.x0<=K)/\(-K<=r.y0/\r.y0<=K)/\(-K<=r.x1/\r.x1<=K)/\(-K<=r.y1/\r.y1<=K)
theorem Q8{K:Int}{r:ae}(h:Full r)(k:RK K r):P4 K r:=by
 obtain⟨h1,h2⟩:=h;obtain⟨k1,k2,k3,k4⟩:=k;exact⟨⟨by omega,by omega⟩,⟨by omega,by omega⟩,⟨by omega,by omega⟩,⟨by omega,by omega⟩⟩
theorem Nw{K:Int}{a b:ae}(ha:P4 K a)(hb:P4 K b):0<=fT a b/\fT a b<=2*K+1:=by
 obtain⟨a1,a2,a3,a4⟩:=ha;obtain⟨b1,b2,b3,b4⟩:=hb;simp only[fT,bA];omega
theorem agj{K:Int}{a b:ae}{n:Int}(h0:0<=n)(ha:P4 K a)(hb:P4 K b):(-K<=(jD a b n).1/\(jD a b n).1<=K)/\(-K<=(jD a b n).2/\(jD a b n).2<=K):=by
 obtain⟨a1,a2,a3,a4⟩:=ha;obtain⟨b1,b2,b3,b4⟩:=hb;simp only[jD];omega
def aez(f:Int)(l:List Int):Int:=l.foldl (fun f n=>if f<0\/n<f then n else f) f
theorem afZ(f n:Int)(l:List Int):aez f (n::l)=aez (if f<0\/n<f then n else f) l:=rfl
theorem agk(f:Int)(l m:List Int):aez f (l++m)=aez (aez f l) m:=by simp[aez,acP]
theorem afc:∀(l:List Int) (f:Int),(∀n∈l,0<=n)->(∀n∈l,aez f l<=n)/\(aez f l=f\/aez f l∈l)/\(0<=f->aez f l<=f)/\(l≠[]->aez f l∈l\/(0<=f/\aez f l=f))
 | [],f,_=>⟨fun n h=>(by cases h),.inl rfl,fun _=>acE _,fun h=>absurd rfl h⟩
 | m::l,f,h=>by
  have h0:=h m adU;obtain⟨i1,i2,i3,i4⟩:=afc l (if f<0\/m<f then m else f) fun n hn=>h n (aaw _ hn);rw[afZ];by_cases c:f<0\/m<f
  ·rw[aap c]at i1 i2 i3 i4 ⊢;refine⟨fun n hn=>?_,?_,fun hf=>?_,fun _=>?_⟩
   ·rcases adq.1 hn with rfl | hn
    ·exact i3 h0
    exact i1 n hn
   ·rcases i2 with e | e
    ·exact .inr (by rw[e];exact adU)
    exact .inr (aaw _ e)
   ·have:=i3 h0;omega
   rcases i2 with e | e
   ·exact .inl (by rw[e];exact adU)
   exact .inl (aaw _ e)
  rw[aaa c]at i1 i2 i3 i4 ⊢;refine⟨fun n hn=>?_,?_,fun hf=>i3 hf,fun _=>?_⟩
  ·rcases adq.1 hn with rfl | hn
   ·have:=i3 (by omega);omega
   exact i1 n hn
  ·rcases i2 with e | e
   ·exact .inl e
   exact .inr (aaw _ e)
  rcases i2 with e | e
  ·exact .inr ⟨by omega,e⟩
  exact .inl (aaw _ e)
def aeA(a b:List ae):List Int:=a.flatMap fun x=>b.map (fT x)
def aeP(a b:List ae):Int:=aez (-1) (aeA a b)
def G2(n:Int)(s:Bool×Int×Int)(l:List (Int×Int×Int)):Bool×Int×Int:=l.foldl (fun s q=>if q.1=n/\(s.1=false\/aeW q.2 s.2=true) then (true,q.2) else s) s
theorem afi(n:Int)(s:Bool×Int×Int)(q:Int×Int×Int)(l:List (Int×Int×Int)):G2 n s (q::l)=G2 n (if q.1=n/\(s.1=false\/aeW q.2 s.2=true) then (true,q.2) else s) l:=rfl
theorem afC(n:Int)(s:Bool×Int×Int)(l m:List (Int×Int×Int)):G2 n s (l++m)=G2 n (G2 n s l) m:=by simp[G2,acP]
def kg(n:Int)(x y:ae):Int×Int×Int:=(fT x y,jD x y n)
def aeT(a b:List ae)(n:Int):Int×Int:=(G2 n (false,0,0) (a.flatMap fun x=>b.map (kg n x))).2
def xu(p:Int×Int):ae:=⟨p.1,p.2,p.1+1,p.2+1⟩
def ahc(b:List ae)(p:Int×Int)(n:Int):Int×Int:=(G2 n (false,0,0) (b.map fun y=>kg n y (xu p))).2
structure Zu where
 a:Int
 b:Int
 dist:Int
 src:Int×Int
 dst:Int×Int
def afd(a b:List ae):Zu:=⟨0,0,aeP a b-1,aeT a b (aeP a b),ahc b (aeT a b (aeP a b)) (aeP a b)⟩
def n5(K:Int)(p:Int×Int):Prop:=(-K<=p.1/\p.1<=K)/\(-K<=p.2/\p.2<=K)
theorem ag0{K:Int}(h0:0<=K){a b:List ae}(ha:∀r∈a,P4 K r)(hb:∀r∈b,P4 K r):(∀x∈a,∀y∈b,aeP a b<=fT x y)/\-1<=aeP a b/\aeP a b<=2*K+1/\(a≠[]->b≠[]->∃x∈a,∃y∈b,aeP a b=fT x y):=by
 have hm:∀n,n∈aeA a b↔∃x∈a,∃y∈b,fT x y=n:=fun n=>by simp[aeA]
 have hn:∀n∈aeA a b,0<=n/\n<=2*K+1:=fun n h=>by
  obtain⟨x,hx,y,hy,rfl⟩:=(hm n).1 h;exact Nw (ha x hx) (hb y hy)
 obtain⟨f1,f2,f3,f4⟩:=afc (aeA a b) (-1) fun n h=>(hn n h).1;refine⟨fun x hx y hy=>f1 _ ((hm _).2 ⟨x,hx,y,hy,rfl⟩),?_,?_,fun h1 h2=>?_⟩
 ·rcases f2 with e | e
  ·rw[aeP,e];omega
  have:=(hn _ e).1;rw[aeP];omega
 ·rcases f2 with e | e
  ·rw[aeP,e];omega
  have:=(hn _ e).2;rw[aeP];omega
 obtain⟨x,hx⟩:=aae _ h1;obtain⟨y,hy⟩:=aae _ h2;rcases f4 (aeb ((hm _).2 ⟨x,hx,y,hy,rfl⟩)) with e | ⟨e,_⟩
 ·obtain⟨x',R0,y',ar,e'⟩:=(hm _).1 e;exact⟨x',R0,y',ar,e'.symm⟩
 omega
end Reg
namespace M
open Go.AM Go.RowKit Go.Lib
open Reg (ae P4 fT bA jD aeW aez aeA aeP G2 kg aeT ahc xu afd Zu n5)
def pt(p:Int×Int):List PV:=[i64 p.1,i64 p.2]
def gc(g:Zu):List PV:=[i64 g.a,i64 g.b,i64 g.dist,i64 g.src.1,i64 g.src.2,i64 g.dst.1,i64 g.dst.2]
theorem BM(a b:ae)(ha:P4 1000000000 a)(hb:P4 1000000000 b):af C 98 [.pv (.ag (rc a)),.pv (.ag (rc b))] (.p (i64 (fT a b))) []:=by
 obtain⟨a1,a2,a3,a4⟩:=ha;obtain⟨b1,b2,b3,b4⟩:=hb;refine fW hC Tryz.func98 rfl (by kernel_rfl) fun _=>?_;refine⟨_,_,(r8 a.x0 a.x1 b.x0 b.x1 (by omega)),?_⟩;refine⟨_,_,(r8 a.y0 a.y1 b.y0 b.y1 (by omega)),?_⟩;refine⟨?_,trivial⟩;rfl
theorem af0(a b:ae)(n:Int)(ha:P4 1000000000 a)(hb:P4 1000000000 b)(hn:-1<=n/\n<=10000000000):af C 103 [.pv (.ag (rc a)),.pv (.ag (rc b)),.pv (i64 n)] (.p (.ag (pt (jD a b n)))) []:=by
 obtain⟨a1,a2,a3,a4⟩:=ha;obtain⟨b1,b2,b3,b4⟩:=hb;refine fW hC Tryz.func103 rfl (by kernel_rfl) fun _=>?_;refine⟨⟨by omega,by omega⟩,?_⟩;refine⟨⟨by omega,by omega⟩,?_⟩;refine⟨?_,trivial⟩;rfl
theorem af1(p q:Int×Int):af C 104 [.pv (.ag (pt p)),.pv (.ag (pt q))] (.p (bool (aeW p q))) []:=by
 refine fW hC Tryz.func104 rfl (by kernel_rfl) fun _=>?_;refine iW ?_ ?_<;>intro g1
 ·refine⟨?_,trivial⟩;simp only[aeW];simp[g1];rfl
 refine iW ?_ ?_<;>intro g2
 ·refine⟨?_,trivial⟩;simp only[aeW];simp[g2];rfl
 refine⟨?_,trivial⟩;simp only[aeW];simp[g1,g2];rfl
theorem drop_at{α:Type}{l:List α}{i:Nat}{x:α}(h:l[i]?=some x):l.drop i=x::l.drop (i+1):=by
 obtain⟨hi,e⟩:=aao.1 h;rw[acb hi,e]
theorem agw(a b:List ae)(ha:∀r∈a,P4 2000000 r)(hb':∀r∈b,P4 2000000 r)(na:a.length<=1000000000)(nb:b.length<=1000000000):af C 40 [.pv (aj a),.pv (aj b)] (.p (.ag (gc (afd a b)))) []:=by
 have up:∀r,P4 2000000 r->P4 1000000000 r:=fun r h=>by
  obtain⟨a1,a2,a3,a4⟩:=h;exact⟨by omega,by omega,by omega,by omega⟩
 obtain⟨R,hR⟩:∃R,R=aeP a b:=⟨_,rfl⟩;have ahM:afd a b=⟨0,0,R-1,aeT a b R,ahc b (aeT a b R) R⟩:=by rw[hR];rfl
 have hR4:=(Reg.ag0 (by omega) ha hb').2;rw[<-hR]at hR4;rw[ahM];have lm:=ai a rc;have sv:=ai b rc;refine fW hC Tryz.func40 rfl (by kernel_rfl) fun _=>?_;refine aJ (fun x:Nat×Int=>aez x.2 (aeA (a.drop x.1) b)=R/\-1<=x.2/\x.2<=100000000) (fun x=>[(0,.p (aj a)),(1,.p (aj b)),(4,.bx 4 0),(5,.p (i64 x.2)),(22,.p (aj a)),(23,.p (i64 a.length)),(24,.p (i64 x.1))]) (fun _=>[(4,.box [.p (i64 0),.p (i64 0),.p (i64 0),.p (i64 0),.p (i64 0),.p (i64 0),.p (i64 0)])]) (fun x=>a.length-x.1) (0,-1) _ (au.refl _ _) ⟨hR.symm,by decide,by decide⟩ ⟨rfl,rfl,rfl,rfl,rfl,adV (fun m:Nat=>AV.p (i64 m)) lm,Z,Y⟩ ⟨Z,Y⟩ fun ⟨i,f⟩ hx t h=>?_;obtain⟨h1,h2,h3⟩:=hx;simp only at h1 h2 h3;refine iW ?_ ?_<;>intro g<;>try simp only[zB]at g
 ·obtain⟨x,u3⟩:=ak (l:=a) (i:=i) (by omega);have px:=ha x (aad u3);rw[drop_at u3]at h1;have h1:aez (aez f (b.map (fT x))) (aeA (a.drop (i+1)) b)=R:=by rw[<-Reg.agk];exact h1
  refine⟨(rc x),(idx rfl u3),?_⟩;refine aJ (fun y:Nat×Int=>aez y.2 ((b.drop y.1).map (fT x))=aez f (b.map (fT x))/\-1<=y.2/\y.2<=100000000) (fun y=>[(0,.p (aj a)),(1,.p (aj b)),(4,.bx 4 0),(5,.p (i64 y.2)),(22,.p (aj a)),(23,.p (i64 a.length)),(24,.p (i64 i)),(7,.bx 7 0),(28,.p (aj b)),(29,.p (i64 b.length)),(30,.p (i64 y.1))]) (fun _=>[(4,.box [.p (i64 0),.p (i64 0),.p (i64 0),.p (i64 0),.p (i64 0),.p (i64 0),.p (i64 0)]),(7,.box [.p (i64 x.x0),.p (i64 x.y0),.p (i64 x.x1),.p (i64 x.y1)])]) (fun y=>b.length-y.1) (0,f) _ (au.refl _ _) ⟨rfl,h2,h3⟩ ⟨rfl,rfl,rfl,rfl,rfl,rfl,rfl,rfl,rfl,adV (fun m:Nat=>AV.p (i64 m)) sv,Z,Y⟩ ⟨Z,Z,Y⟩ fun ⟨j,f'⟩ hy t h=>?_;obtain⟨k1,k2,k3⟩:=hy;simp only at k1 k2 k3;refine iW ?_ ?_<;>intro g2<;>try simp only[zB]at g2
  ·obtain⟨y,wo⟩:=ak (l:=b) (i:=j) (by omega);have py:=hb' y (aad wo);rw[drop_at wo,aa8,Reg.afZ]at k1;have fl:=Reg.Nw px py;refine⟨(rc y),(idx rfl wo),?_⟩;refine⟨_,_,(BM x y (up x px) (up y py)),?_⟩;have nx:∀c:Prop,∀d:Decidable c,(c↔f' < 0\/fT x y<f')->aez (if c then fT x y else f') ((b.drop (j+1)).map (fT x))=aez f (b.map (fT x)):=fun c d hc=>by
    rw[<-k1];congr 1;by_cases h:c
    ·rw[aap h,aap (hc.1 h)]
    rw[aaa h,aaa fun e=>h (hc.2 e)]
   refine iW ?_ ?_<;>intro g3<;>try simp only[zB]at g3
   ·have nx:=nx True inferInstance ⟨fun _=>.inl g3,fun _=>trivial⟩;rw[aap trivial]at nx;refine⟨⟨by omega,by omega⟩,?_⟩;exact⟨(j+1,fT x y),_,au.refl _ _,⟨nx,by omega,by omega⟩,by omega,⟨Z,Z,Z,Z,Z,Z,Z,Z,Z,Z,Z,Y⟩,⟨Z,Z,Y⟩⟩
   refine iW ?_ ?_<;>intro g4<;>try simp only[zB]at g4
   ·have nx:=nx True inferInstance ⟨fun _=>.inr g4,fun _=>trivial⟩;rw[aap trivial]at nx;refine⟨⟨by omega,by omega⟩,?_⟩;exact⟨(j+1,fT x y),_,au.refl _ _,⟨nx,by omega,by omega⟩,by omega,⟨Z,Z,Z,Z,Z,Z,Z,Z,Z,Z,Z,Y⟩,⟨Z,Z,Y⟩⟩
   have nx:=nx False inferInstance ⟨fun h=>h.elim,fun h=>by omega⟩;rw[aaa (fun h=>h)]at nx;refine⟨⟨by omega,by omega⟩,?_⟩;exact⟨(j+1,f'),_,au.refl _ _,⟨nx,by omega,by omega⟩,by omega,⟨Z,Z,Z,Z,Z,Z,Z,Z,Z,Z,Z,Y⟩,⟨Z,Z,Y⟩⟩
  have e:b.length<=j:=by omega
  rw[acX e]at k1;have k1:f'=aez f (b.map (fT x)):=k1;subst k1;refine⟨⟨by omega,by omega⟩,?_⟩;exact⟨(i+1,aez f (b.map (fT x))),_,au.refl _ _,⟨h1,by omega,by omega⟩,by omega,⟨Z,Z,Z,Z,Z,Z,Z,Y⟩,⟨Z,Y⟩⟩
 have e:a.length<=i:=by omega
 rw[acX e]at h1;have h1:f=R:=h1;subst h1;refine⟨⟨by omega,by omega⟩,?_⟩;obtain⟨P,hP⟩:∃P,P=G2 f (false,0,0) (a.flatMap fun x=>b.map (kg f x)):=⟨_,rfl⟩;have ahG:aeT a b f=P.2:=by rw[hP];rfl
 rw[ahG];refine aJ (fun x:Nat×Bool×Int×Int=>G2 f x.2 ((a.drop x.1).flatMap fun x=>b.map (kg f x))=P/\n5 2000000 x.2.2) (fun x=>[(0,.p (aj a)),(1,.p (aj b)),(4,.bx 4 0),(5,.p (i64 f)),(11,.bx 11 0),(12,.p (bool x.2.1)),(50,.p (aj a)),(51,.p (i64 a.length)),(52,.p (i64 x.1))]) (fun x=>[(4,.box [.p (i64 0),.p (i64 0),.p (i64 0),.p (i64 0),.p (i64 0),.p (i64 0),.p (i64 0)]),(11,.box [.p (i64 0),.p (i64 0),.p (i64 (f-1)),.p (i64 x.2.2.1),.p (i64 x.2.2.2),.p (i64 0),.p (i64 0)])]) (fun x=>a.length-x.1) (0,false,0,0) _ (au.refl _ _) ⟨hP.symm,⟨by decide,by decide⟩,⟨by decide,by decide⟩⟩ ⟨rfl,rfl,rfl,rfl,rfl,rfl,rfl,adV (fun m:Nat=>AV.p (i64 m)) lm,Z,Y⟩ ⟨Z,Z,Y⟩ fun ⟨i,st⟩ hx t h=>?_;obtain⟨h1,h2⟩:=hx;simp only at h1 h2;refine iW ?_ ?_<;>intro g<;>try simp only[zB]at g
 ·obtain⟨x,u3⟩:=ak (l:=a) (i:=i) (by omega);have px:=ha x (aad u3);rw[drop_at u3]at h1;have h1:G2 f (G2 f st (b.map (kg f x))) ((a.drop (i+1)).flatMap fun x=>b.map (kg f x))=P:=by rw[<-Reg.afC];exact h1
  refine⟨(rc x),(idx rfl u3),?_⟩;refine aJ (fun y:Nat×Bool×Int×Int=>G2 f y.2 ((b.drop y.1).map (kg f x))=G2 f st (b.map (kg f x))/\n5 2000000 y.2.2) (fun y=>[(0,.p (aj a)),(1,.p (aj b)),(4,.bx 4 0),(5,.p (i64 f)),(11,.bx 11 0),(12,.p (bool y.2.1)),(50,.p (aj a)),(51,.p (i64 a.length)),(52,.p (i64 i)),(14,.bx 14 0),(56,.p (aj b)),(57,.p (i64 b.length)),(58,.p (i64 y.1))]) (fun y=>[(4,.box [.p (i64 0),.p (i64 0),.p (i64 0),.p (i64 0),.p (i64 0),.p (i64 0),.p (i64 0)]),(11,.box [.p (i64 0),.p (i64 0),.p (i64 (f-1)),.p (i64 y.2.2.1),.p (i64 y.2.2.2),.p (i64 0),.p (i64 0)]),(14,.box [.p (i64 x.x0),.p (i64 x.y0),.p (i64 x.x1),.p (i64 x.y1)])]) (fun y=>b.length-y.1) (0,st) _ (au.refl _ _) ⟨rfl,h2⟩ ⟨rfl,rfl,rfl,rfl,rfl,rfl,rfl,rfl,rfl,rfl,rfl,adV (fun m:Nat=>AV.p (i64 m)) sv,Z,Y⟩ ⟨Z,Z,Z,Y⟩ fun ⟨j,fd,p⟩ hy t h=>?_;obtain⟨k1,k2⟩:=hy;simp only at k1 k2;refine iW ?_ ?_<;>intro g2<;>try simp only[zB]at g2
  ·obtain⟨y,wo⟩:=ak (l:=b) (i:=j) (by omega);have py:=hb' y (aad wo);rw[drop_at wo,aa8,Reg.afi]at k1;have fl:=Reg.Nw px py;obtain⟨_,R0,_,ar,e'⟩:=hR4.2.2 (aeb (aad u3)) (aeb (aad wo));have fl':=Reg.Nw (ha _ R0) (hb' _ ar);rw[<-e']at fl';have ni:=Reg.agj fl'.1 px py;refine⟨(rc y),(idx rfl wo),?_⟩;refine⟨_,_,(af0 x y f (up x px) (up y py) (by omega)),?_⟩;refine⟨_,_,(BM x y (up x px) (up y py)),?_⟩;have keep:¬(fT x y=f/\(fd=false\/aeW (jD x y f) p=true))->G2 f (fd,p) ((b.drop (j+1)).map (kg f x))=G2 f st (b.map (kg f x)):=fun hc=>by
    rw[<-k1];congr 1;exact (aaa hc).symm
   have take:fT x y=f/\(fd=false\/aeW (jD x y f) p=true)->G2 f (true,jD x y f) ((b.drop (j+1)).map (kg f x))=G2 f st (b.map (kg f x)):=fun hc=>by
    rw[<-k1];congr 1;exact (aap hc).symm
   refine iW ?_ ?_<;>intro g3
   ·refine iW ?_ ?_<;>intro g4<;>try simp only[zB]at g4
    ·have nx:=take ⟨g3,.inl (by simpa using g4)⟩;refine⟨⟨by omega,by omega⟩,?_⟩;exact⟨(j+1,true,jD x y f),_,au.refl _ _,⟨nx,ni⟩,by omega,⟨Z,Z,Z,Z,Z,Z,Z,Z,Z,Z,Z,Z,Z,Y⟩,⟨Z,Z,Z,Y⟩⟩
    refine⟨_,_,(af1 (jD x y f) p),?_⟩;refine iW ?_ ?_<;>intro g5
    ·have nx:=take ⟨g3,.inr (by simpa using g5)⟩;refine⟨⟨by omega,by omega⟩,?_⟩;exact⟨(j+1,true,jD x y f),_,au.refl _ _,⟨nx,ni⟩,by omega,⟨Z,Z,Z,Z,Z,Z,Z,Z,Z,Z,Z,Z,Z,Y⟩,⟨Z,Z,Z,Y⟩⟩
    have nx:=keep fun ⟨_,hc⟩=>by rcases hc with hc | hc<;>simp_all
    refine⟨⟨by omega,by omega⟩,?_⟩;exact⟨(j+1,fd,p),_,au.refl _ _,⟨nx,k2⟩,by omega,⟨Z,Z,Z,Z,Z,Z,Z,Z,Z,Z,Z,Z,Z,Y⟩,⟨Z,Z,Z,Y⟩⟩
   have nx:=keep fun ⟨hc,_⟩=>by omega
   refine⟨⟨by omega,by omega⟩,?_⟩;exact⟨(j+1,fd,p),_,au.refl _ _,⟨nx,k2⟩,by omega,⟨Z,Z,Z,Z,Z,Z,Z,Z,Z,Z,Z,Z,Z,Y⟩,⟨Z,Z,Z,Y⟩⟩
  have e:b.length<=j:=by omega
  rw[acX e]at k1;have k1:(fd,p)=G2 f st (b.map (kg f x)):=k1;rw[<-k1]at h1;refine⟨⟨by omega,by omega⟩,?_⟩;exact⟨(i+1,fd,p),_,au.refl _ _,⟨h1,k2⟩,by omega,⟨Z,Z,Z,Z,Z,Z,Z,Z,Z,Y⟩,⟨Z,Z,Y⟩⟩
 have e:a.length<=i:=by omega
 rw[acX e]at h1;have h1:st=P:=h1;rw[<-h1];obtain⟨fd,p⟩:=st;obtain⟨⟨p1,p2⟩,p3,p4⟩:=h2;simp only at p1 p2 p3 p4;have h2:P4 2000001 (xu p):=⟨⟨by simp only[xu];omega,by simp only[xu];omega⟩,⟨by simp only[xu];omega,by simp only[xu];omega⟩,⟨by simp only[xu];omega,by simp only[xu];omega⟩,⟨by simp only[xu];omega,by simp only[xu];omega⟩⟩;have up1:∀r,P4 2000000 r->P4 2000001 r:=fun r h=>by
  obtain⟨a1,a2,a3,a4⟩:=h;exact⟨by omega,by omega,by omega,by omega⟩
 have up2:∀r,P4 2000001 r->P4 1000000000 r:=fun r h=>by
  obtain⟨a1,a2,a3,a4⟩:=h;exact⟨by omega,by omega,by omega,by omega⟩
 refine⟨⟨by dsimp only;omega,by dsimp only;omega⟩,?_⟩;refine⟨⟨by dsimp only;omega,by dsimp only;omega⟩,?_⟩;obtain⟨Q,hQ⟩:∃Q,Q=G2 f (false,0,0) (b.map fun y=>kg f y (xu p)):=⟨_,rfl⟩;have ZP:ahc b p f=Q.2:=by rw[hQ];rfl
 rw[ZP];refine aJ (fun x:Nat×Bool×Int×Int=>G2 f x.2 ((b.drop x.1).map fun y=>kg f y (xu p))=Q/\n5 2000001 x.2.2) (fun x=>[(0,.p (aj a)),(1,.p (aj b)),(4,.bx 4 0),(5,.p (i64 f)),(11,.bx 11 0),(18,.bx 18 0),(12,.p (bool x.2.1)),(100,.p (aj b)),(101,.p (i64 b.length)),(102,.p (i64 x.1))]) (fun x=>[(4,.box [.p (i64 0),.p (i64 0),.p (i64 0),.p (i64 0),.p (i64 0),.p (i64 0),.p (i64 0)]),(11,.box [.p (i64 0),.p (i64 0),.p (i64 (f-1)),.p (i64 p.1),.p (i64 p.2),.p (i64 x.2.2.1),.p (i64 x.2.2.2)]),(18,.box [.p (i64 (xu p).x0),.p (i64 (xu p).y0),.p (i64 (xu p).x1),.p (i64 (xu p).y1)])]) (fun x=>b.length-x.1) (0,false,0,0) _ (au.refl _ _) ⟨hQ.symm,⟨by decide,by decide⟩,⟨by decide,by decide⟩⟩ ⟨rfl,rfl,rfl,rfl,rfl,rfl,rfl,rfl,adV (fun m:Nat=>AV.p (i64 m)) sv,Z,Y⟩ ⟨Z,Z,Z,Y⟩ fun ⟨i,yf,p'⟩ hx t h=>?_;obtain⟨k1,k2⟩:=hx;simp only at k1 k2;refine iW ?_ ?_<;>intro g<;>try simp only[zB]at g
 ·obtain⟨y,QW⟩:=ak (l:=b) (i:=i) (by omega);have py:=hb' y (aad QW);rw[drop_at QW,aa8,Reg.afi]at k1;refine⟨(rc y),(idx rfl QW),?_⟩;refine⟨_,_,(af0 y (xu p) f (up y py) (up2 _ h2) (by omega)),?_⟩;refine⟨_,_,(BM y (xu p) (up y py) (up2 _ h2)),?_⟩;have keep:¬(fT y (xu p)=f/\(yf=false\/aeW (jD y (xu p) f) p'=true))->G2 f (yf,p') ((b.drop (i+1)).map fun y=>kg f y (xu p))=Q:=fun hc=>by
   rw[<-k1];congr 1;exact (aaa hc).symm
  have take:fT y (xu p)=f/\(yf=false\/aeW (jD y (xu p) f) p'=true)->G2 f (true,jD y (xu p) f) ((b.drop (i+1)).map fun y=>kg f y (xu p))=Q:=fun hc=>by
   rw[<-k1];congr 1;exact (aap hc).symm
  have ni:fT y (xu p)=f->n5 2000001 (jD y (xu p) f):=fun e=>Reg.agj (e▸(Reg.Nw (up1 y py) h2).1) (up1 y py) h2;refine iW ?_ ?_<;>intro g3
  ·refine iW ?_ ?_<;>intro g4<;>try simp only[zB]at g4
   ·have nx:=take ⟨g3,.inl (by simpa using g4)⟩;refine⟨⟨by omega,by omega⟩,?_⟩;exact⟨(i+1,true,jD y (xu p) f),_,au.refl _ _,⟨nx,ni g3⟩,by omega,⟨Z,Z,Z,Z,Z,Z,Z,Z,Z,Z,Y⟩,⟨Z,Z,Z,Y⟩⟩
   refine⟨_,_,(af1 (jD y (xu p) f) p'),?_⟩;refine iW ?_ ?_<;>intro g5
   ·have nx:=take ⟨g3,.inr (by simpa using g5)⟩;refine⟨⟨by omega,by omega⟩,?_⟩;exact⟨(i+1,true,jD y (xu p) f),_,au.refl _ _,⟨nx,ni g3⟩,by omega,⟨Z,Z,Z,Z,Z,Z,Z,Z,Z,Z,Y⟩,⟨Z,Z,Z,Y⟩⟩
   have nx:=keep fun ⟨_,hc⟩=>by rcases hc with hc | hc<;>simp_all
   refine⟨⟨by omega,by omega⟩,?_⟩;exact⟨(i+1,yf,p'),_,au.refl _ _,⟨nx,k2⟩,by omega,⟨Z,Z,Z,Z,Z,Z,Z,Z,Z,Z,Y⟩,⟨Z,Z,Z,Y⟩⟩
  have nx:=keep fun ⟨hc,_⟩=>by omega
  refine⟨⟨by omega,by omega⟩,?_⟩;exact⟨(i+1,yf,p'),_,au.refl _ _,⟨nx,k2⟩,by omega,⟨Z,Z,Z,Z,Z,Z,Z,Z,Z,Z,Y⟩,⟨Z,Z,Z,Y⟩⟩
 have e:b.length<=i:=by omega
 rw[acX e]at k1;have k1:(yf,p')=Q:=k1;subst k1;refine⟨?_,trivial⟩;rfl
open Reg (aU an bw bE cv IV bN bK told dJ a_ coreS ax Canon Full RK at')
end M
namespace Reg
end Reg
namespace M
open Go.AM Go.RowKit Go.Lib
open Reg (ae P4 Zu afd)
def rr(r:List ae):List PV:=[aj r]
end M
namespace Reg
def bg:ae:=⟨0,0,0,0⟩
def kK(a b:ae):Bool:=decide (a.x0<b.x1)&&decide (b.x0<a.x1)
def ov(all:List ae)(f e:Nat):Nat->List Int->Nat->Nat->List Int
 | 0,u,_,_=>u
 | n+1,u,i,j=>if i<f/\j<e then
   ov all f e n (if kK (all.getD i bg) (all.getD j bg)=true then gj u i j else u)
    (if (all.getD i bg).x1<(all.getD j bg).x1 then i+1 else i)
    (if (all.getD i bg).x1<(all.getD j bg).x1 then j else j+1)
  else u
def meets(p:Option an)(b:an):Bool:=match p with
 | some q=>decide (q.y1=b.y0)
 | none=>false
def pW(all:List ae):Option an->List an->List Int->Nat->Nat->List Int
 | _,[],u,_,_=>u
 | p,b::s,u,f,g=>pW all (some b) s (if meets p b=true then ov all f (f+b.xs.length) (f-g+b.xs.length) u g f else u) (f+b.xs.length) f
def jE(s:List an):List Int:=pW (told s) none s (iota (told s).length) 0 0
theorem xP(all:List ae)(f e:Nat):∀(n:Nat) (u:List Int) (i j:Nat),UF u->f<=u.length->e<=u.length->UF (ov all f e n u i j)/\(ov all f e n u i j).length=u.length
 | 0,u,i,j,h,_,_=>⟨h,rfl⟩
 | n+1,u,i,j,h,hf,he=>by
  rw[ov];by_cases c:i<f/\j<e
  ·rw[aap c];by_cases o:kK (all.getD i bg) (all.getD j bg)=true
   ·rw[aap o];obtain⟨a,b⟩:=mC h (i:=i) (k:=j) (by omega) (by omega);obtain⟨c1,c2⟩:=xP all f e n _ (if (all.getD i bg).x1<(all.getD j bg).x1 then i+1 else i) (if (all.getD i bg).x1<(all.getD j bg).x1 then j else j+1) a (by omega) (by omega);exact⟨c1,c2.trans b⟩
   rw[aaa o];exact xP all f e n u _ _ h hf he
  rw[aaa c];exact⟨h,rfl⟩
theorem zu(all:List ae):∀(s:List an) (p:Option an) (u:List Int) (f g:Nat),UF u->f+(told s).length<=u.length->UF (pW all p s u f g)/\(pW all p s u f g).length=u.length
 | [],p,u,f,g,h,_=>⟨h,rfl⟩
 | b::s,p,u,f,g,h,hl=>by
  have e:(told (b::s)).length=b.xs.length+(told s).length:=by simp[told]
  rw[e]at hl;rw[pW];by_cases c:meets p b=true
  ·rw[aap c];obtain⟨a1,a2⟩:=xP all f (f+b.xs.length) (f-g+b.xs.length) u g f h (by omega) (by omega);obtain⟨b1,b2⟩:=zu all s (some b) _ (f+b.xs.length) f a1 (by rw[a2];omega);exact⟨b1,b2.trans a2⟩
  rw[aaa c];exact zu all s (some b) u (f+b.xs.length) f h (by omega)
theorem zv(s:List an):UF (jE s)/\(jE s).length=(told s).length:=by
 have:=zu (told s) s none (iota (told s).length) 0 0 (ny _) (by rw[aeM];omega);rw[aeM]at this;exact this
def ox(s:List an):List (List ae):=(aP (cQ (jE s)) (told s).length).map fun l=>l.map fun m=>(told s).getD m bg
def cV(s:List an):List (List an):=(ox s).map aB
end Reg
namespace M
open Go.AM Go.RowKit Go.Lib
open Reg (UF eh Nt cw fU iota ae)
theorem vI(u:List Int)(hu:UF u)(i:Nat)(hi:i<u.length):af C 242 [.pv (i64 i),.aN [.row 3 (aA u)]] (.p (i64 (cw i u i).2)) [.aN [.row 3 (aA (cw i u i).1)]]:=by
 refine UP ⟨[],[],[],[],[],[]⟩ hC Tryz.func242 rfl (by kernel_rfl) fun _=>⟨_,au.open hC _ 100001 [90000] (by exact rfl) rfl rfl rfl,?_⟩;obtain⟨R,hR⟩:∃R,R=cw i u i:=⟨_,rfl⟩;rw[<-hR];refine aJ (fun x:Nat×List Int×Nat=>cw x.1 x.2.1 x.2.2=R/\UF x.2.1/\x.2.2<x.2.1.length/\x.2.2<=x.1) (fun x=>[(1,.bx 100001 0),(0,.p (i64 x.2.2))]) (fun x=>[(100001,.box [.ow 90000]),(90000,.row 3 (aA x.2.1))]) (fun x=>x.2.2) (i,u,i) _ (au.refl _ _) ⟨hR.symm,hu,hi,aam _⟩ ⟨Z,Z,Y⟩ ⟨Z,Z,Y⟩ fun ⟨n,v,k⟩ hx t h=>?_;obtain⟨h1,h2,h3,h4⟩:=hx;simp only at h1 h2 h3 h4;obtain⟨j,l,hj,hl,q1,q2,q3,q4⟩:=BJ h2 h3 h4;have lv:=bQ v;refine⟨⟨by omega,by (try dsimp only);rw[lv];omega⟩,?_⟩;refine⟨[i64 j],(cM hj),?_⟩;refine iW ?_ ?_<;>intro g<;>try simp only[zB]at g
 ·have b8:j≠k:=by omega
  obtain⟨m,rfl,q5⟩:=q4 b8;refine⟨⟨by omega,by (try dsimp only);rw[lv];omega⟩,?_⟩;refine⟨[i64 j],(cM hj),?_⟩;refine⟨⟨by omega,by (try dsimp only);rw[lv];omega⟩,?_⟩;refine⟨[i64 l],(cM hl),?_⟩;refine⟨⟨by omega,by (try dsimp only);rw[lv];omega⟩,?_⟩;refine⟨[i64 j],(cM hj),?_⟩;refine⟨⟨by omega,by (try dsimp only);rw[List.length_set,lv];omega⟩,?_⟩;refine⟨[i64 l],(by rw[List.getElem?_set_self (by (try dsimp only);rw[lv];omega)];rfl),?_⟩;exact⟨(m,v.set k (l:Int),l),_,au.refl _ _,⟨by rw[<-q5];exact h1,(Reg.Ns h2 hj hl).1,by simp only[List.length_set];omega,by dsimp only;omega⟩,by simp only;omega,⟨Z,Z,Y⟩,⟨rfl,congrArg (AB.row _) (fV v k l),trivial⟩⟩
 have e:j=k:=by omega
 have h1:=(q3 e).symm.trans h1;subst h1;exact And.intro rfl (And.intro ⟨Z,Z,Y⟩ trivial)
def vJ(e:TypeId)(f:Nat->List PV)(l:List Nat):List HX:=[.row e (l.map f)]
def SJ(f:Nat->List PV)(l:List Nat):List PV:=[.sl (l.map f)]
theorem zw(e:TypeId)(f:Nat->List PV)(ls:List (List Nat)):xH (ls.map (vJ e f)):=fun r hr x hx=>by
 obtain⟨l,_,rfl⟩:=adS.1 hr;simp only[vJ,adq,ace,or_false]at hx;subst hx;trivial
theorem xQ(e:TypeId)(g:Nat->List PV)(f:AV->AV)(ls:List (List Nat)):(ls.map (vJ e g)).map (fun r=>r.map (HX.cS f))=ls.map (vJ e g):=by
 rw[ad5];rfl
theorem afo(e:TypeId)(f:Nat->List PV)(l:List Nat)(y:HX):(vJ e f l).set 0 y=[y]:=rfl
theorem iC(e:TypeId)(g:Nat->List PV)(f:AV->AV)(ls:List (List Nat))(k d:Nat)(h:f (.ow d)=.ow d):((ls.map (vJ e g)).set k [.av (.ow d)]).map (fun r=>r.map (HX.cS f))=(ls.map (vJ e g)).set k [.av (.ow d)]:=by
 rw[ad7,xQ];simp only[aa8,ab3,HX.cS,h]
theorem PL(e:TypeId)(g:Nat->List PV)(f:AV->AV)(ls:List (List Nat))(x:List (List HX)):(ls.map (vJ e g)++x).map (fun r=>r.map (HX.cS f))=ls.map (vJ e g)++x.map (fun r=>r.map (HX.cS f)):=by
 rw[abz,xQ]
theorem rB(e:TypeId)(g:Nat->List PV)(ls:List (List Nat))(k d:Nat)(hk:k<ls.length):((ls.map (vJ e g)).set k [.av (.ow d)])[k]?=some [.av (.ow d)]:=ab7 (by rw[aej];exact hk)
theorem SK(e:TypeId)(f:Nat->List PV)(ls:List (List Nat)):Oi (ls.map (vJ e f)) (ls.map (SJ f)):=Oi.map fun l _=>⟨rfl,fun j u v hu hv=>by
 match j with
 | 0=>
  simp only[vJ,SJ,aa9,Option.some.injEq]at hu hv;subst hu;subst hv;exact .row _ _
 | j+1=>simp[vJ]at hu⟩
end M
end Go.Proofs.YtfloceomobknoaaGreatDoor
