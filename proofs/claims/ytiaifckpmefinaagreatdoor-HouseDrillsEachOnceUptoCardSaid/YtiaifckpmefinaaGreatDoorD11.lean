/- Each bore is drilled in just one press, or told that there is no tool for it. Condition: what is read is of bulk at most 1048576; the listed variables are tied to the program's text by the card. -/
import Derived.Test.YtiaifckpmefinaaGreatDoorD10
set_option linter.unusedVariables false
set_option linter.unusedSimpArgs false
set_option maxRecDepth 100000
set_option maxHeartbeats 8000000
namespace Go.Proofs.YtiaifckpmefinaaGreatDoor
open Go.ChangeShapes Go.WideShapes Go.ChangeAt Go.RowKit Go.AM
open Go.ChangeMaps (open_string shut_string)
open Go.Proofs.YtiaifckpmefinaaGreatDoor.M
namespace houseDrillsEachOnce
theorem sP {P:Program} {f:FuncId} {fn:Func} {s:ChangeSpec} {c:OpenClaim} (Jo:(laidOutB P)=true) (GA:(mapsRowed P)=true) (Jp:((c.inPlace == P.inPlace f))=true) (LP:((c.unfollowed == P.unfollowed f))=true) (LQ:((c.recurses == P.recurses f))=true) (GB:((c.named == P.varsNamed f))=true) (LR:((c.plainKeys == P.plainKeys))=true) (GC:(P.stopsHeard)=true) (GD:(P.mayEnter)=true) (Jq:((c.lifted == P.liftsFinal))=true) (Jr:((P.make == some c.make))=true)
  (h_rest:(c.wf (OpenSpec.ofChange s) && true && fn.params.all (P.readableRec ·) && namedTie P c.named s.vars && (c.stops == []) && (P.stops == []) && (c.knobs == []) && (P.stopKnobs == []) && true && (c.maps == (fn.params.toList++s.plain.varTypes P).any (P.mapsRec ·)) && (c.ifaces == (fn.params.toList++s.plain.varTypes P).any (P.ifacesRec ·)) && (c.mapsOut == P.mapsAmong fn.resultTypes.toList) && (c.loops == (fn.params.toList++s.plain.varTypes P).any (P.loopsFrom ·)) && (c.wideKeys == (fn.params.toList++s.plain.varTypes P++fn.resultTypes.toList).any (P.wideKeysFrom ·)) && s.vars.all (P.varReadable ·) && fn.resultTypes.all (fun t=>P.readableRec t && decide (t < P.types.size)) && (c.ifacesOut == fn.resultTypes.toList.any (P.ifacesRec ·)) && (c.loopsOut == fn.resultTypes.toList.any (P.loopsFrom ·)) && c.shortTexts.isNone && (c.kinds == (if c.domain.isEmpty then [] else fn.params.toList.map fun t=>match P.underlying t with | some (.int k)=>some k | _=>none)) && (c.pinned == c.pinnedBy) && (c.veiled == (fn.params.toList++s.plain.varTypes P++fn.resultTypes.toList).any (P.veiledRec ·)) && c.veiledFits P fn.params.toList (fn.params.toList++s.plain.varTypes P++fn.resultTypes.toList))=true):joinedFacts P f fn s c=true:=by
 simp only[Bool.and_eq_true] at h_rest
 simp only[joinedFacts,Bool.and_eq_true]
 simp only[Jo,GA,Jp,LP,LQ,GB,LR,GC,GD,Jq,Jr,and_true]
 simp only[and_assoc,and_true] at h_rest ⊢
 exact h_rest
theorem Js {W:World} (hL:laidMetH Tryz.prog Rows.houseDrillsEachOnceUptoRow.laid W) (h:W.ShapedOpen Tryz.prog):M.Env (fun b=>b < W.heap.size) W:=by
 refine xA (Go.Proofs.cell_of_shapedOpen_int (zero:=#[.int .i64 0]) (t:=3) h (of_decide_eq_true (by kernel_rfl)) (by kernel_rfl) rfl (by kernel_rfl) (by kernel_rfl) Tryz.underlying3) ?_
 rw[MakeChecks.laidMetH_plain _ _ _ (by kernel_rfl)] at hL
 exact Lib.tabIs_of_head (rest:=Rows.houseDrillsEachOnceUptoRow.laid.drop 3) M.IM (by kernel_rfl) Tryz.underlying332 Tryz.underlying183 (by kernel_rfl) (by kernel_rfl) (laidMet.tail (laidMet.tail hL))
theorem E3 (H:Type) (enc:TypeId×Value->H) (W:World) (base:Nat) (args:Array Value) (ds gs:List (DataW H)) (before:List MemPlace)
  (hval:∀(j:Nat) t v,Tryz.f4.params[j]?=some t->args[j]?=some v->Value.okWide Tryz.prog W .any base t v)
  (hW:DataW.Whole enc Tryz.prog Tryz.f4.params.toList Rows.houseDrillsEachOnceSpec.vars false W args.toList ds gs before) (hk:Rows.uptoSmall H (ds++gs)=true) (hE:M.Env (fun b=>b < W.heap.size) W):
  Calls Tryz.prog 4 args W fun e W'=>∃v,e=.returned v/\Rows.houseDrillsEachOnceSpec.post enc Tryz.prog Tryz.f4 false true false false W args v W':=by
 have Ry:=hW
 obtain⟨pp,q,Rz,hV,rfl,wB,yL⟩:=hW
 have hA:DataW.TrodAll enc Tryz.prog W 0 (fun _=>true) true Tryz.f4.params.toList args.toList ds pp:=Rz
 have again:=fun (W':World) (hb:Below W.heap.size W W')=>ue Lr hb (by kernel_rfl) hA hA.lt
 rw[Tryz.params4] at hA hval
 obtain⟨v0,R5,d0,R6,p0,q0,hargs,rfl,R7,h0,r0⟩:=trodAll_cons hA
 obtain⟨v1,R8,d1,R9,p1,q1,rfl,rfl,rfl,h1,r1⟩:=trodAll_cons r0
 obtain⟨v2,R_,d2,Sa,p2,q2,rfl,rfl,rfl,h2,r2⟩:=trodAll_cons r1
 obtain⟨rfl,rfl,rfl⟩:=trodAll_nil r2
 obtain rfl:args=#[v0,v1,v2]:=by cases args;simp_all
 obtain⟨rfl,rfl⟩:=trodVars_none hV
 obtain⟨_,w0,o,rfl,z0⟩:=zy (S:=fun b=>b < W.heap.size) Tryz.underlying43 (Gr fun _ h=>h) (hval 0 43 v0 rfl rfl) h0
 have RA:iU o:=z0 (Bc hk (List.mem_append_left _ (by repeat (first | exact List.mem_cons_self .. | apply List.mem_cons_of_mem))))
 obtain⟨_,w1,bits,e1,z1⟩:=Ct (S:=fun b=>b < W.heap.size) Tryz.underlying57 (Jk fun _ h=>h) (hval 1 57 v1 rfl rfl) h1
 cases e1
 have Jt:pM bits:=z1 (Bc hk (List.mem_append_left _ (by repeat (first | exact List.mem_cons_self .. | apply List.mem_cons_of_mem))))
 obtain⟨near,rfl,rfl,rfl,w2⟩:=open_int Tryz.underlying3 (hval 2 3 v2 rfl rfl) h2
 refine (IQ (C:=C) (xs:=[.ag (sR o),.sl (bits.map ff),i64 near]) (y:=.bool true) (Ao o RA bits Jt near) hE (pr (w0) (pr (w1) (pr (.im _) Ei)))).mono fun e W' ⟨he,hb⟩=>?_
 subst he
 exact⟨_,rfl,tq (pa:=pp) (pv:=[]) Ry (fun _ _ _=>trodAll_cons_mk (shut_bool Tryz.underlying4 _) trodAll_mk0) (fun sp h=>again W' hb sp (fun p hp=>h p (List.mem_append_left _ hp))) (fun _ _=>rfl) rfl
  hb (ok_one (by kernel_rfl) rfl (okWide_bool_mk Tryz.underlying4 _))⟩
theorem reads (os:Os) {H:Type} (enc:TypeId×Value->H):∃places,DataW.whole enc Tryz.prog ((World.laidAll Tryz.prog os Rows.houseDrillsEachOnceUptoRow.laid).forCall (fun _ _=>0) ⟨#[],#[.agg #[.slice none 0 0,.slice none 0 0,.slice none 0 0,.slice none 0 0,.slice none 0 0,.slice none 0 0,.int .i64 0,.slice none 0 0,.slice none 0 0,.slice none 0 0,.slice none 0 0,.slice none 0 0,.slice none 0 0,.int .i64 0,.int .i64 0,.int .i64 0,.int .i64 0,.int .i64 0,.slice none 0 0,.slice none 0 0],.slice none 0 0,.int .i64 0],[]⟩).memory Tryz.f4.params.toList Rows.houseDrillsEachOnceSpec.vars false (#[.agg #[.slice none 0 0,.slice none 0 0,.slice none 0 0,.slice none 0 0,.slice none 0 0,.slice none 0 0,.int .i64 0,.slice none 0 0,.slice none 0 0,.slice none 0 0,.slice none 0 0,.slice none 0 0,.slice none 0 0,.int .i64 0,.int .i64 0,.int .i64 0,.int .i64 0,.int .i64 0,.slice none 0 0,.slice none 0 0],.slice none 0 0,.int .i64 0]:Array Value).toList 8=some ([.agg [.nil,.agg [.nil,.nil],.nil,.nil,.nil,.agg [.lit (.int .i64 0),.nil,.nil],.nil,.nil,.nil,.nil,.agg [.lit (.int .i64 0),.lit (.int .i64 0),.lit (.int .i64 0),.lit (.int .i64 0),.lit (.int .i64 0),.nil,.nil]],.nil,.lit (.int .i64 0)],[],places):=
 ⟨[],by kernel_rfl⟩
theorem lifted (os:Os) (started:os.Started) (H:Type) (enc:TypeId×Value->H) (F:Stop.Interp):
  ReturnsInHanded {} Tryz.checked os 4 .any ((Rows.OpenSpec.upto Rows.houseDrillsEachOnceSpec).preRow enc Tryz.prog Tryz.f4 Rows.houseDrillsEachOnceUptoRow.domain false Rows.houseDrillsEachOnceUptoRow.laid) (((Rows.OpenSpec.upto Rows.houseDrillsEachOnceSpec).at F).post enc Tryz.prog Tryz.f4 false true false false):=by
 obtain⟨places,hx⟩:=reads os enc
 refine returnsInHanded_of_row (C:=Tryz.checked) (s:=Rows.OpenSpec.upto Rows.houseDrillsEachOnceSpec) own started (by kernel_rfl) Tryz.func4
  (qB (enc:=enc) (C:=Tryz.checked) (World.laidAll Tryz.prog os Rows.houseDrillsEachOnceUptoRow.laid) #[.agg #[.slice none 0 0,.slice none 0 0,.slice none 0 0,.slice none 0 0,.slice none 0 0,.slice none 0 0,.int .i64 0,.slice none 0 0,.slice none 0 0,.slice none 0 0,.slice none 0 0,.slice none 0 0,.slice none 0 0,.int .i64 0,.int .i64 0,.int .i64 0,.int .i64 0,.int .i64 0,.slice none 0 0,.slice none 0 0],.slice none 0 0,.int .i64 0] (World.laidAll_os _ _ _) (World.shaped_of_ZipB (by kernel_rfl) (by kernel_rfl)) (by kernel_rfl)
   (OpenSpec.preRow_of_cond 8 hx (by kernel_rfl) (fun k hk=>by cases hk;kernel_rfl) (by kernel_rfl)
    (by rw[MakeChecks.laidMetH_plain _ _ _ (by kernel_rfl)];exact laidMet_laidAll _ (by kernel_rfl) (by kernel_rfl)))) ?_
 intro W base args ds gs before hval hW _ AE _ hL hsh _
 exact E3 H enc W base args ds gs before hval hW (AE _ rfl) (Js hL hsh)
theorem Ju:laidOutB Tryz.prog=true:=by kernel_rfl
theorem GF:mapsRowed Tryz.prog=true:=by kernel_rfl
theorem Jv:(Rows.houseDrillsEachOnceUptoRow.inPlace == Tryz.prog.inPlace 4)=true:=by kernel_rfl
theorem LS:(Rows.houseDrillsEachOnceUptoRow.unfollowed == Tryz.prog.unfollowed 4)=true:=by kernel_rfl
theorem LU:(Rows.houseDrillsEachOnceUptoRow.recurses == Tryz.prog.recurses 4)=true:=by kernel_rfl
theorem GG:(Rows.houseDrillsEachOnceUptoRow.named == Tryz.prog.varsNamed 4)=true:=by kernel_rfl
theorem LV:(Rows.houseDrillsEachOnceUptoRow.plainKeys == Tryz.prog.plainKeys)=true:=by kernel_rfl
theorem GH:Tryz.prog.stopsHeard=true:=by kernel_rfl
theorem GI:Tryz.prog.mayEnter=true:=by kernel_rfl
theorem Jw:(Rows.houseDrillsEachOnceUptoRow.lifted == Tryz.prog.liftsFinal)=true:=by kernel_rfl
theorem Jx:(Tryz.prog.make == some Rows.houseDrillsEachOnceUptoRow.make)=true:=by kernel_rfl
theorem Jy:false=Rows.houseDrillsEachOnceUptoRow.goesBy Tryz.prog:=by kernel_rfl
theorem GJ:false=Tryz.prog.looks []:=by kernel_rfl
theorem O1:Rows.houseDrillsEachOnceUptoRow.wfByText (Rows.OpenSpec.upto Rows.houseDrillsEachOnceSpec)=true:=by kernel_rfl
theorem eH:joinedFacts Tryz.prog 4 Tryz.f4 (Rows.OpenSpec.upto Rows.houseDrillsEachOnceSpec).bare Rows.houseDrillsEachOnceUptoRow=true:=
 sP Ju GF Jv LS LU GG LV GH GI Jw Jx (by kernel_rfl)
theorem E4:Rows.HouseDrillsEachOnceUptoSaid:=
 OpenClaim.holds_of_cond 4 Tryz.f4 rfl rfl rfl rfl rfl rfl rfl ⟨rfl,rfl,rfl,rfl,rfl⟩ rfl rfl rfl rfl rfl (by kernel_rfl) Tryz.func4 eH
  (of_decide_eq_true (by kernel_rfl)) (by unfold Func.isWrapper;first | (rw[if_pos (by decide +kernel)];kernel_rfl) | (rw[if_neg (by decide +kernel)];exact⟨rfl,rfl⟩))
  (fun os started H enc _ F=>by rw[OpenClaim.pre_eq_preRow];exact lifted os started H enc F)
theorem plain (f:FuncId) (fn:Func) (hf:Tryz.pinned.checked.prog.funcNamed Rows.houseDrillsEachOnceUptoRow.func=some f) (Ns:Tryz.pinned.checked.prog.funcs[f]?=some fn):
  false=Tryz.pinned.checked.prog.looks []/\∀(j:Nat) t,fn.params[j]?=some t->Tryz.pinned.checked.prog.wantsStandIn t=false:=by
 obtain rfl:f=4:=Option.some.inj ((show Tryz.prog.funcNamed Rows.houseDrillsEachOnceUptoRow.func=some 4 by kernel_rfl).symm.trans hf) |>.symm
 obtain rfl:fn=Tryz.f4:=(Option.some.inj (Tryz.func4.symm.trans Ns)).symm
 refine⟨GJ,fun j t ht=>?_⟩
 rw[Tryz.params4] at ht
 have hm:=Array.mem_of_getElem? ht
 have fA:((Tryz.f4.params.toList).all fun u=>!Tryz.prog.wantsStandIn u)=true:=by kernel_rfl
 exact (show Tryz.prog.wantsStandIn t=false by simpa using List.all_eq_true.1 fA t (by rw[Tryz.params4];simpa using hm))
theorem cardUpto:Rows.HouseDrillsEachOnceUptoCardSaid:=
 Claim7.holds_tied_plain_at .later [] _ _ _ _ E4 (fun _ h=>by cases h) O1 (fun _ h=>by cases h) houseDrillsEachOnceUpto_row_tie rfl ⟨rfl,rfl⟩ (by kernel_rfl) rfl plain Jy
end houseDrillsEachOnce
end Go.Proofs.YtiaifckpmefinaaGreatDoor
