/-
  DERIVED. GIVEN WITH THE SEED: THE CARDS: each row of YtedjhhieekileaaGreatDoorRows.lean that lists a variable, with what it lists TIED to the program's text (the seventh form; the later family's looks); each row that meets fmt, with fmt's text TOLD by the authors' own Lean function (tested against real Go, not proved from fmt's source: count such statements apart). THE CARD IS WHAT COUNTS. Prove the row's statement (the work); the ties are given (YtedjhhieekileaaGreatDoorTie.lean); close each card by the builder's one call (the guide's Derived/Test/ToyasCard.lean, 'card_holds'). Laid BY PROGRAM, IN A SANDBOX (cutbox-door.mjs). By AI agents, Wed Nov 11 2026. No macro, syntax, notation, axiom, sorry.
-/
import Derived.Test.YtedjhhieekileaaGreatDoorRows
import GoSem.ClaimSeven
namespace Go.Proofs.YtedjhhieekileaaGreatDoor
namespace Rows

/-- THE TIED CARD OF 'etchhouselaw12.HouseShopsMatchSpec'. -/
def houseShopsMatchSpecCard : Claim7 := { stood := { row := houseShopsMatchSpecRow, standIns := [], harness := (true, "54e866dfc9b2a0ccfd687bc88ff6c05bd67f937ad105ff4e0cdc2a542b6cc979"), looks := true }, kinds := [], alts := [], laidByText := true, laidKinds := [.data, .data, .data, .data, .sentinel, .sentinel, .pinned], laidTests := true, laidLooks := .later }
def HouseShopsMatchSpecCardSaid : Prop := Claim7.holds Tryz.pinned (.plain (OpenSpec.ofChange houseShopsMatchSpecSpec)) houseShopsMatchSpecCard

/-- THE TIED CARD OF 'etchhouselaw12.HouseFlowsAreRight'. -/
def houseFlowsAreRightCard : Claim7 := { stood := { row := houseFlowsAreRightRow, standIns := [], harness := (true, "54e866dfc9b2a0ccfd687bc88ff6c05bd67f937ad105ff4e0cdc2a542b6cc979"), looks := true }, kinds := [], alts := [], laidByText := true, laidKinds := [.data, .data, .data, .data, .sentinel, .sentinel, .pinned], laidTests := true, laidLooks := .later }
def HouseFlowsAreRightCardSaid : Prop := Claim7.holds Tryz.pinned (.plain (OpenSpec.ofChange houseFlowsAreRightSpec)) houseFlowsAreRightCard

/-- THE TIED CARD OF 'etchhouselaw12.HouseFlowsFollowSteps'. -/
def houseFlowsFollowStepsCard : Claim7 := { stood := { row := houseFlowsFollowStepsRow, standIns := [], harness := (true, "54e866dfc9b2a0ccfd687bc88ff6c05bd67f937ad105ff4e0cdc2a542b6cc979"), looks := true }, kinds := [], alts := [], laidByText := true, laidKinds := [.data, .data, .data, .data, .sentinel, .sentinel, .pinned], laidTests := true, laidLooks := .later }
def HouseFlowsFollowStepsCardSaid : Prop := Claim7.holds Tryz.pinned (.plain (OpenSpec.ofChange houseFlowsFollowStepsSpec)) houseFlowsFollowStepsCard

/-- THE SECOND FORM's CARD OF 'etchhouselaw12.HouseShopsMatchSpec'. -/
def houseShopsMatchSpecUptoCard : Claim7 := { stood := { row := houseShopsMatchSpecUptoRow, standIns := [], harness := (true, "54e866dfc9b2a0ccfd687bc88ff6c05bd67f937ad105ff4e0cdc2a542b6cc979"), looks := true }, kinds := [], alts := [], laidByText := true, laidKinds := [.data, .data, .data, .data, .sentinel, .sentinel, .pinned], laidTests := true, laidLooks := .later }
def HouseShopsMatchSpecUptoCardSaid : Prop := Claim7.holds Tryz.pinned (.plain (OpenSpec.upto houseShopsMatchSpecSpec)) houseShopsMatchSpecUptoCard

/-- THE SECOND FORM's CARD OF 'etchhouselaw12.HouseFlowsAreRight'. -/
def houseFlowsAreRightUptoCard : Claim7 := { stood := { row := houseFlowsAreRightUptoRow, standIns := [], harness := (true, "54e866dfc9b2a0ccfd687bc88ff6c05bd67f937ad105ff4e0cdc2a542b6cc979"), looks := true }, kinds := [], alts := [], laidByText := true, laidKinds := [.data, .data, .data, .data, .sentinel, .sentinel, .pinned], laidTests := true, laidLooks := .later }
def HouseFlowsAreRightUptoCardSaid : Prop := Claim7.holds Tryz.pinned (.plain (OpenSpec.upto houseFlowsAreRightSpec)) houseFlowsAreRightUptoCard

/-- THE SECOND FORM's CARD OF 'etchhouselaw12.HouseFlowsFollowSteps'. -/
def houseFlowsFollowStepsUptoCard : Claim7 := { stood := { row := houseFlowsFollowStepsUptoRow, standIns := [], harness := (true, "54e866dfc9b2a0ccfd687bc88ff6c05bd67f937ad105ff4e0cdc2a542b6cc979"), looks := true }, kinds := [], alts := [], laidByText := true, laidKinds := [.data, .data, .data, .data, .sentinel, .sentinel, .pinned], laidTests := true, laidLooks := .later }
def HouseFlowsFollowStepsUptoCardSaid : Prop := Claim7.holds Tryz.pinned (.plain (OpenSpec.upto houseFlowsFollowStepsSpec)) houseFlowsFollowStepsUptoCard
end Rows
end Go.Proofs.YtedjhhieekileaaGreatDoor
