/- Drilling gives just what the reference gives, with all errors and where they are. Condition: what is read is of bulk at most 1048576; the listed variables are tied to the program's text by the card. -/
import Derived.Test.YtnpkopkpbgflnaaGreatDoorG14
import Derived.Test.YtnpkopkpbgflnaaGreatDoorG15
import Derived.Test.YtnpkopkpbgflnaaGreatDoorG16
set_option linter.unusedVariables false
set_option linter.unusedSimpArgs false
set_option maxRecDepth 100000
set_option maxHeartbeats 8000000
namespace Go.Proofs.YtnpkopkpbgflnaaGreatDoor
open Go.ChangeShapes Go.WideShapes Go.ChangeAt Go.RowKit Go.AM
open Go.ChangeMaps (open_string shut_string)
open Go.Proofs.YtnpkopkpbgflnaaGreatDoor.M
namespace houseDrillingMatchesSpec
theorem X2:Rows.houseDrillingMatchesSpecUptoRow.wfByText (Rows.OpenSpec.upto Rows.houseDrillingMatchesSpecSpec)=true:=by kernel_rfl
theorem eM:joinedFacts Tryz.prog 3 Tryz.f3 (Rows.OpenSpec.upto Rows.houseDrillingMatchesSpecSpec).bare Rows.houseDrillingMatchesSpecUptoRow=true:=
 Bh SM PY SN Vk Vl PZ Vm P0 P1 SO SP (by kernel_rfl)
theorem Og:Rows.HouseDrillingMatchesSpecUptoSaid:=
 OpenClaim.holds_of_cond 3 Tryz.f3 rfl rfl rfl rfl rfl rfl rfl ⟨rfl,rfl,rfl,rfl,rfl⟩ rfl rfl rfl rfl rfl (by kernel_rfl) Tryz.func3 eM
  (fO (by kernel_rfl)) (by unfold Func.isWrapper;first | (rw[ae (by decide +kernel)];kernel_rfl) | (rw[aa (by decide +kernel)];exact⟨rfl,rfl⟩))
  (fun os d H enc _ F=>by rw[OpenClaim.pre_eq_preRow];exact lifted os d H enc F)
theorem plain(f:FuncId)(fn:Func)(z:Tryz.pinned.checked.prog.funcNamed Rows.houseDrillingMatchesSpecUptoRow.func=some f)(D:Tryz.pinned.checked.prog.funcs[f]?=some fn):
  false=Tryz.pinned.checked.prog.looks []/\∀(j:Nat) t,fn.params[j]?=some t->Tryz.pinned.checked.prog.wantsStandIn t=false:=by
 obtain rfl:f=3:=Option.some.inj ((show Tryz.prog.funcNamed Rows.houseDrillingMatchesSpecUptoRow.func=some 3 by kernel_rfl).symm.trans z) |>.symm;obtain rfl:fn=Tryz.f3:=(Option.some.inj (Tryz.func3.symm.trans D)).symm;refine⟨P2,fun j t d=>?_⟩;rw[Tryz.params3]at d;have I:=yB d;have J:((Tryz.f3.params.toList).all fun u=>!Tryz.prog.wantsStandIn u)=true:=by kernel_rfl
 exact (show Tryz.prog.wantsStandIn t=false by simpa using ep.1 J t (by rw[Tryz.params3];simpa using I))
theorem cardUpto:Rows.HouseDrillingMatchesSpecUptoCardSaid:=
 Claim7.holds_tied_plain_at .later [] _ _ _ _ Og (fun _ h=>by cases h) X2 (fun _ h=>by cases h) houseDrillingMatchesSpecUpto_row_tie rfl ⟨rfl,rfl⟩ (by kernel_rfl) rfl plain SQ
end houseDrillingMatchesSpec
end Go.Proofs.YtnpkopkpbgflnaaGreatDoor
