/- The card: facts of the program. -/
import Derived.Test.YtnpkopkpbgflnaaGreatDoorG13
set_option linter.unusedVariables false
set_option linter.unusedSimpArgs false
set_option maxRecDepth 100000
set_option maxHeartbeats 8000000
namespace Go.Proofs.YtnpkopkpbgflnaaGreatDoor
namespace houseDrillingMatchesSpec
theorem goes0 {P:Program} (h:P.funcs.any Func.goes=false) (f:FuncId):P.goes f=false:=by
 unfold Program.goes
 rw [h,Bool.and_false,Bool.or_false]
 have k:∀g:Nat,(P.funcs[g]?).any Func.goes=false:=fun g=>by
  cases hg:P.funcs[g]? with
  | none=>rfl
  | some fn=>
   obtain ⟨h1,h2⟩:=Array.getElem?_eq_some_iff.1 hg
   have:=Array.any_eq_false.1 h g h1
   rw [h2] at this
   simpa using this
 simp [k]
theorem goesBy0 {P:Program} {c:OpenClaim} (h:P.funcs.any Func.goes=false):false=c.goesBy P:=by
 have g:=goes0 h
 unfold OpenClaim.goesBy Program.goesAt Program.goesFrom
 have e1:(P.funcNamed c.func).any P.goes=false:=by cases P.funcNamed c.func <;> simp [g]
 rw [e1]
 cases c.start <;> simp [g]
theorem goN:Tryz.prog.funcs.any Func.goes=false:=by kernel_rfl
theorem SQ:false=Rows.houseDrillingMatchesSpecUptoRow.goesBy Tryz.prog:=goesBy0 goN
theorem P2:false=Tryz.prog.looks []:=by kernel_rfl
end houseDrillingMatchesSpec
end Go.Proofs.YtnpkopkpbgflnaaGreatDoor
