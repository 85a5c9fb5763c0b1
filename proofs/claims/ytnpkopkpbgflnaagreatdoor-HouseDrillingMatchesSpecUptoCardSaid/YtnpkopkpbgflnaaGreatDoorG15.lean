/- The card: facts of the program. -/
import Derived.Test.YtnpkopkpbgflnaaGreatDoorG13
set_option linter.unusedVariables false
set_option linter.unusedSimpArgs false
set_option maxRecDepth 100000
set_option maxHeartbeats 8000000
namespace Go.Proofs.YtnpkopkpbgflnaaGreatDoor
open Go.ChangeShapes Go.WideShapes Go.ChangeAt Go.RowKit Go.AM
open Go.ChangeMaps (open_string shut_string)
open Go.Proofs.YtnpkopkpbgflnaaGreatDoor.M
namespace houseDrillingMatchesSpec
theorem PZ:(Rows.houseDrillingMatchesSpecUptoRow.named==Tryz.prog.varsNamed 3)=true:=by kernel_rfl
theorem Vm:(Rows.houseDrillingMatchesSpecUptoRow.plainKeys==Tryz.prog.plainKeys)=true:=by kernel_rfl
theorem P0:Tryz.prog.stopsHeard=true:=by kernel_rfl
theorem P1:Tryz.prog.mayEnter=true:=by kernel_rfl
theorem SO:(Rows.houseDrillingMatchesSpecUptoRow.lifted==Tryz.prog.liftsFinal)=true:=by kernel_rfl
theorem SP:(Tryz.prog.make==some Rows.houseDrillingMatchesSpecUptoRow.make)=true:=by kernel_rfl
end houseDrillingMatchesSpec
end Go.Proofs.YtnpkopkpbgflnaaGreatDoor
