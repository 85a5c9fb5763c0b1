/- Yield, Longest and Trace give just what the reference gives, with all errors. Condition: what is read is of bulk at most 1048576; the listed variables are tied to the program's text by the card. -/
import Derived.Test.YtngikpapepnkaaaGreatDoorMCardS
import Derived.Test.YtngikpapepnkaaaGreatDoorMLawMade
set_option linter.unusedSimpArgs false
set_option linter.unusedVariables false
namespace Go.Proofs.YtngikpapepnkaaaGreatDoor
open Go.ChangeShapes Go.WideShapes Go.ChangeAt Go.RowKit Go.AM
open Go.ChangeMaps (open_string shut_string)
open Go.Proofs.YtngikpapepnkaaaGreatDoor.M

namespace houseMadeMatchSpec
theorem joinedFacts_mk {P : Program} {f : FuncId} {fn : Func} {s : ChangeSpec} {c : OpenClaim} (h_laid : (laidOutB P) = true) (h_rowed : (mapsRowed P) = true) (h_inpl : ((c.inPlace == P.inPlace f)) = true) (h_unf : ((c.unfollowed == P.unfollowed f)) = true) (h_rec : ((c.recurses == P.recurses f)) = true) (h_named : ((c.named == P.varsNamed f)) = true) (h_plk : ((c.plainKeys == P.plainKeys)) = true) (h_heard : (P.stopsHeard) = true) (h_enter : (P.mayEnter) = true) (h_lift : ((c.lifted == P.liftsFinal)) = true) (h_make : ((P.make == some c.make)) = true)
    (h_rest : (c.wf (OpenSpec.ofChange s) && true && fn.params.all (P.readableRec ·) && namedTie P c.named s.vars && (c.stops == []) && (P.stops == []) && (c.knobs == []) && (P.stopKnobs == []) && true && (c.maps == (fn.params.toList ++ s.plain.varTypes P).any (P.mapsRec ·)) && (c.ifaces == (fn.params.toList ++ s.plain.varTypes P).any (P.ifacesRec ·)) && (c.mapsOut == P.mapsAmong fn.resultTypes.toList) && (c.loops == (fn.params.toList ++ s.plain.varTypes P).any (P.loopsFrom ·)) && (c.wideKeys == (fn.params.toList ++ s.plain.varTypes P ++ fn.resultTypes.toList).any (P.wideKeysFrom ·)) && s.vars.all (P.varReadable ·) && fn.resultTypes.all (fun t => P.readableRec t && decide (t < P.types.size)) && (c.ifacesOut == fn.resultTypes.toList.any (P.ifacesRec ·)) && (c.loopsOut == fn.resultTypes.toList.any (P.loopsFrom ·)) && c.shortTexts.isNone && (c.kinds == (if c.domain.isEmpty then [] else fn.params.toList.map fun t => match P.underlying t with | some (.int k) => some k | _ => none)) && (c.pinned == c.pinnedBy) && (c.veiled == (fn.params.toList ++ s.plain.varTypes P ++ fn.resultTypes.toList).any (P.veiledRec ·)) && c.veiledFits P fn.params.toList (fn.params.toList ++ s.plain.varTypes P ++ fn.resultTypes.toList)) = true) : joinedFacts P f fn s c = true := by
  simp only [Bool.and_eq_true] at h_rest
  simp only [joinedFacts, Bool.and_eq_true]
  simp only [h_laid, h_rowed, h_inpl, h_unf, h_rec, h_named, h_plk, h_heard, h_enter, h_lift, h_make, and_true]
  simp only [and_assoc, and_true] at h_rest ⊢
  exact h_rest

theorem env_of {W : World} (hL : laidMetH Tryz.prog Rows.houseMadeMatchSpecUptoRow.laid W) (h : W.ShapedOpen Tryz.prog) : M.Env (fun b => b < W.heap.size) W := by
  refine env_of_card (Go.Proofs.cell_of_shapedOpen_int (zero := #[.int .i64 0]) (t := 3) h (of_decide_eq_true (by kernel_rfl)) (by kernel_rfl) rfl (by kernel_rfl) (by kernel_rfl) Tryz.underlying3) ?_
  rw [MakeChecks.laidMetH_plain _ _ _ (by kernel_rfl)] at hL
  exact Lib.tabIs_of_head (rest := Rows.houseMadeMatchSpecUptoRow.laid.drop 3) M.gPow (by kernel_rfl) Tryz.underlying131 Tryz.underlying107 (by kernel_rfl) (by kernel_rfl) (laidMet.tail (laidMet.tail hL))

set_option maxRecDepth 100000 in
theorem contract (H : Type) (enc : TypeId × Value → H) (W : World) (base : Nat) (args : Array Value) (ds gs : List (DataW H)) (before : List MemPlace)
    (hval : ∀ (j : Nat) t v, Tryz.f3.params[j]? = some t → args[j]? = some v → Value.okWide Tryz.prog W .any base t v)
    (hW : DataW.Whole enc Tryz.prog Tryz.f3.params.toList Rows.houseMadeMatchSpecSpec.vars false W args.toList ds gs before) (hk : Rows.uptoSmall H (ds ++ gs) = true) (hE : M.Env (fun b => b < W.heap.size) W) :
    Calls Tryz.prog 3 args W fun e W' => ∃ v, e = .returned v ∧ Rows.houseMadeMatchSpecSpec.post enc Tryz.prog Tryz.f3 false true false false W args v W' := by
  have hW' := hW
  obtain ⟨pp, q, hA0, hV, rfl, hfz, hnd⟩ := hW
  have hA : DataW.TrodAll enc Tryz.prog W 0 (fun _ => true) true Tryz.f3.params.toList args.toList ds pp := hA0
  have again := fun (W' : World) (hb : Below W.heap.size W W') => argsAgain laidO hb (by kernel_rfl) hA hA.lt
  rw [Tryz.params3] at hA hval
  obtain ⟨v0, vs0, d0, ds0, p0, q0, hargs, rfl, hpp, h0, r0⟩ := trodAll_cons hA
  obtain ⟨v1, vs1, d1, ds1, p1, q1, rfl, rfl, rfl, h1, r1⟩ := trodAll_cons r0
  obtain ⟨v2, vs2, d2, ds2, p2, q2, rfl, rfl, rfl, h2, r2⟩ := trodAll_cons r1
  obtain ⟨v3, vs3, d3, ds3, p3, q3, rfl, rfl, rfl, h3, r3⟩ := trodAll_cons r2
  obtain ⟨rfl, rfl, rfl⟩ := trodAll_nil r3
  obtain rfl : args = #[v0, v1, v2, v3] := by cases args; simp_all
  obtain ⟨rfl, rfl⟩ := trodVars_none hV
  obtain ⟨_, w0, m, e0, z0⟩ := arg_slice (S := fun b => b < W.heap.size) Tryz.underlying22 (sp_mades fun _ h => h) (hval 0 22 v0 rfl rfl) h0
  cases e0
  have o_m : MadesOK m := mades_ok (bulk_le hk (List.mem_append_left _ (by repeat (first | exact List.mem_cons_self .. | apply List.mem_cons_of_mem)))) z0
  obtain ⟨_, w1, d, e1, z1⟩ := arg_slice (S := fun b => b < W.heap.size) Tryz.underlying23 (sp_doings fun _ h => h) (hval 1 23 v1 rfl rfl) h1
  cases e1
  have o_d : DoingsOK d := doings_ok (bulk_le hk (List.mem_append_left _ (by repeat (first | exact List.mem_cons_self .. | apply List.mem_cons_of_mem)))) z1
  obtain ⟨lot, rfl, rfl, rfl, w2⟩ := open_string Tryz.underlying9 (hval 2 9 v2 rfl rfl) h2
  have o_lot : strOK lot := str_ok (string_bound hk (List.mem_append_left _ (by repeat (first | exact List.mem_cons_self .. | apply List.mem_cons_of_mem))))
  obtain ⟨panel, rfl, rfl, rfl, w3⟩ := open_int Tryz.underlying3 (hval 3 3 v3 rfl rfl) h3
  refine (law_im (C := C) (xs := [.sl (m.map mc), .sl (d.map dc), str lot, i64 panel]) (y := .bool true) (law_made m d lot panel o_m.1 o_m.2 o_d.1 o_d.2 o_lot) hE (reps_cons (w0) (reps_cons (w1) (reps_cons (.im _) (reps_cons (.im _) reps_nil))))).mono fun e W' ⟨he, hb⟩ => ?_
  subst he
  exact ⟨_, rfl, post_of_below (pa := pp) (pv := []) hW' (fun _ _ _ => trodAll_cons_mk (shut_bool Tryz.underlying4 _) trodAll_mk0) (fun sp h => again W' hb sp (fun p hp => h p (List.mem_append_left _ hp))) (fun _ _ => rfl) rfl
    hb (ok_one (by kernel_rfl) rfl (okWide_bool_mk Tryz.underlying4 _))⟩

theorem reads (os : Os) {H : Type} (enc : TypeId × Value → H) : ∃ places, DataW.whole enc Tryz.prog ((World.laidAll Tryz.prog os Rows.houseMadeMatchSpecUptoRow.laid).forCall (fun _ _ => 0) ⟨#[], #[.slice none 0 0, .slice none 0 0, .string ByteArray.empty, .int .i64 0], []⟩).memory Tryz.f3.params.toList Rows.houseMadeMatchSpecSpec.vars false (#[.slice none 0 0, .slice none 0 0, .string ByteArray.empty, .int .i64 0] : Array Value).toList 8 = some ([.nil, .nil, .lit (.string []), .lit (.int .i64 0)], [], places) :=
  ⟨[], by kernel_rfl⟩

set_option maxRecDepth 100000 in
theorem lifted (os : Os) (started : os.Started) (H : Type) (enc : TypeId × Value → H) (F : Stop.Interp) :
    ReturnsInHanded {} Tryz.checked os 3 .any ((Rows.OpenSpec.upto Rows.houseMadeMatchSpecSpec).preRow enc Tryz.prog Tryz.f3 Rows.houseMadeMatchSpecUptoRow.domain false Rows.houseMadeMatchSpecUptoRow.laid) (((Rows.OpenSpec.upto Rows.houseMadeMatchSpecSpec).at F).post enc Tryz.prog Tryz.f3 false true false false) := by
  obtain ⟨places, hx⟩ := reads os enc
  refine returnsInHanded_of_row (C := Tryz.checked) (s := Rows.OpenSpec.upto Rows.houseMadeMatchSpecSpec) own started (by kernel_rfl) Tryz.func3
    (witness_row_zip (enc := enc) (C := Tryz.checked) (World.laidAll Tryz.prog os Rows.houseMadeMatchSpecUptoRow.laid) #[.slice none 0 0, .slice none 0 0, .string ByteArray.empty, .int .i64 0] (World.laidAll_os _ _ _) (World.shaped_of_ZipB (by kernel_rfl) (by kernel_rfl)) (by kernel_rfl)
      (OpenSpec.preRow_of_cond 8 hx (by kernel_rfl) (fun k hk => by cases hk; kernel_rfl) (by kernel_rfl)
        (by rw [MakeChecks.laidMetH_plain _ _ _ (by kernel_rfl)]; exact laidMet_laidAll _ (by kernel_rfl) (by kernel_rfl)))) ?_
  intro W base args ds gs before hval hW _ hcond _ hL hsh _
  exact contract H enc W base args ds gs before hval hW (hcond _ rfl) (env_of hL hsh)

theorem j_laid : laidOutB Tryz.prog = true := by kernel_rfl
theorem j_rowed : mapsRowed Tryz.prog = true := by kernel_rfl
theorem j_inpl : (Rows.houseMadeMatchSpecUptoRow.inPlace == Tryz.prog.inPlace 3) = true := by kernel_rfl
theorem j_unf : (Rows.houseMadeMatchSpecUptoRow.unfollowed == Tryz.prog.unfollowed 3) = true := by kernel_rfl
theorem j_rec : (Rows.houseMadeMatchSpecUptoRow.recurses == Tryz.prog.recurses 3) = true := by kernel_rfl
theorem j_named : (Rows.houseMadeMatchSpecUptoRow.named == Tryz.prog.varsNamed 3) = true := by kernel_rfl
theorem j_plk : (Rows.houseMadeMatchSpecUptoRow.plainKeys == Tryz.prog.plainKeys) = true := by kernel_rfl
theorem j_heard : Tryz.prog.stopsHeard = true := by kernel_rfl
theorem j_enter : Tryz.prog.mayEnter = true := by kernel_rfl
theorem j_lift : (Rows.houseMadeMatchSpecUptoRow.lifted == Tryz.prog.liftsFinal) = true := by kernel_rfl
theorem j_make : (Tryz.prog.make == some Rows.houseMadeMatchSpecUptoRow.make) = true := by kernel_rfl
theorem j_goes : false = Rows.houseMadeMatchSpecUptoRow.goesBy Tryz.prog := by kernel_rfl
theorem j_looks : true = Tryz.prog.looks [] := by kernel_rfl
theorem j_wf : Rows.houseMadeMatchSpecUptoRow.wfByText (Rows.OpenSpec.upto Rows.houseMadeMatchSpecSpec) = true := by kernel_rfl
theorem joined : joinedFacts Tryz.prog 3 Tryz.f3 (Rows.OpenSpec.upto Rows.houseMadeMatchSpecSpec).bare Rows.houseMadeMatchSpecUptoRow = true :=
  joinedFacts_mk j_laid j_rowed j_inpl j_unf j_rec j_named j_plk j_heard j_enter j_lift j_make (by kernel_rfl)

theorem saidUpto : Rows.HouseMadeMatchSpecUptoSaid :=
  OpenClaim.holds_of_cond 3 Tryz.f3 rfl rfl rfl rfl rfl rfl rfl ⟨rfl, rfl, rfl, rfl, rfl⟩ rfl rfl rfl rfl rfl (by kernel_rfl) Tryz.func3 joined
    (of_decide_eq_true (by kernel_rfl)) (by unfold Func.isWrapper; first | (rw [if_pos (by decide +kernel)]; kernel_rfl) | (rw [if_neg (by decide +kernel)]; exact ⟨rfl, rfl⟩))
    (fun os started H enc _ F => by rw [OpenClaim.pre_eq_preRow]; exact lifted os started H enc F)

theorem plain (f : FuncId) (fn : Func) (hf : Tryz.pinned.checked.prog.funcNamed Rows.houseMadeMatchSpecUptoRow.func = some f) (hfn : Tryz.pinned.checked.prog.funcs[f]? = some fn) :
    true = Tryz.pinned.checked.prog.looks [] ∧ ∀ (j : Nat) t, fn.params[j]? = some t → Tryz.pinned.checked.prog.wantsStandIn t = false := by
  obtain rfl : f = 3 := Option.some.inj ((show Tryz.prog.funcNamed Rows.houseMadeMatchSpecUptoRow.func = some 3 by kernel_rfl).symm.trans hf) |>.symm
  obtain rfl : fn = Tryz.f3 := (Option.some.inj (Tryz.func3.symm.trans hfn)).symm
  refine ⟨j_looks, fun j t ht => ?_⟩
  rw [Tryz.params3] at ht
  have hm := Array.mem_of_getElem? ht
  have hall : ((Tryz.f3.params.toList).all fun u => !Tryz.prog.wantsStandIn u) = true := by kernel_rfl
  exact (show Tryz.prog.wantsStandIn t = false by simpa using List.all_eq_true.1 hall t (by rw [Tryz.params3]; simpa using hm))

/-- The card: HouseMadeMatchSpec, of every input of bulk at most 1048576. -/
theorem cardUpto : Rows.HouseMadeMatchSpecUptoCardSaid :=
  Claim7.holds_tied_plain_at .later [] _ _ _ _ saidUpto (fun _ h => by cases h) j_wf (fun _ h => by cases h) houseMadeMatchSpecUpto_row_tie rfl ⟨rfl, rfl⟩ (by kernel_rfl) rfl plain j_goes
end houseMadeMatchSpec
end Go.Proofs.YtngikpapepnkaaaGreatDoor
