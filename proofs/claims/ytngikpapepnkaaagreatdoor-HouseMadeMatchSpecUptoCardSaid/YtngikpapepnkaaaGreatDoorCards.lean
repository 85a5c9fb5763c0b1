/-
  DERIVED. GIVEN WITH THE SEED: THE CARDS: each row of YtngikpapepnkaaaGreatDoorRows.lean that lists a variable, with what it lists TIED to the program's text (the seventh form; the later family's looks); each row that meets fmt, with fmt's text TOLD by the authors' own Lean function (tested against real Go, not proved from fmt's source: count such statements apart). THE CARD IS WHAT COUNTS. Prove the row's statement (the work); the ties are given (YtngikpapepnkaaaGreatDoorTie.lean); close each card by the builder's one call (the guide's Derived/Test/ToyasCard.lean, 'card_holds'). Laid BY PROGRAM, IN A SANDBOX (cutbox-door.mjs). By AI agents, Wed Nov 11 2026. No macro, syntax, notation, axiom, sorry.
-/
import Derived.Test.YtngikpapepnkaaaGreatDoorRows
import GoSem.ClaimSeven
namespace Go.Proofs.YtngikpapepnkaaaGreatDoor
namespace Rows

/-- THE TIED CARD OF 'etchhouselaw12.HouseMadeMatchSpec'. -/
def houseMadeMatchSpecCard : Claim7 := { stood := { row := houseMadeMatchSpecRow, standIns := [], harness := (true, "d9466155a06266ae9af1a7cc7d6e96917bd6c268f2a52d569ab4e9411314b2cd"), looks := true }, kinds := [], alts := [], laidByText := true, laidKinds := [.data, .data, .data, .data, .sentinel, .sentinel, .pinned], laidTests := true, laidLooks := .later }
def HouseMadeMatchSpecCardSaid : Prop := Claim7.holds Tryz.pinned (.plain (OpenSpec.ofChange houseMadeMatchSpecSpec)) houseMadeMatchSpecCard

/-- THE SECOND FORM's CARD OF 'etchhouselaw12.HouseMadeMatchSpec'. -/
def houseMadeMatchSpecUptoCard : Claim7 := { stood := { row := houseMadeMatchSpecUptoRow, standIns := [], harness := (true, "d9466155a06266ae9af1a7cc7d6e96917bd6c268f2a52d569ab4e9411314b2cd"), looks := true }, kinds := [], alts := [], laidByText := true, laidKinds := [.data, .data, .data, .data, .sentinel, .sentinel, .pinned], laidTests := true, laidLooks := .later }
def HouseMadeMatchSpecUptoCardSaid : Prop := Claim7.holds Tryz.pinned (.plain (OpenSpec.upto houseMadeMatchSpecSpec)) houseMadeMatchSpecUptoCard
end Rows
end Go.Proofs.YtngikpapepnkaaaGreatDoor
