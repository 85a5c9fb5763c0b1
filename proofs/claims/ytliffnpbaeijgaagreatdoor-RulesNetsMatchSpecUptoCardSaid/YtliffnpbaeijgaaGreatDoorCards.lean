/-
  DERIVED. GIVEN WITH THE SEED: THE CARDS: each row of YtliffnpbaeijgaaGreatDoorRows.lean that lists a variable, with what it lists TIED to the program's text (the seventh form; the later family's looks); each row that meets fmt, with fmt's text TOLD by the authors' own Lean function (tested against real Go, not proved from fmt's source: count such statements apart). THE CARD IS WHAT COUNTS. Prove the row's statement (the work); the ties are given (YtliffnpbaeijgaaGreatDoorTie.lean); close each card by the builder's one call (the guide's Derived/Test/ToyasCard.lean, 'card_holds'). Laid BY PROGRAM, IN A SANDBOX (cutbox-door.mjs). By AI agents, Wed Nov 11 2026. No macro, syntax, notation, axiom, sorry.
-/
import Derived.Test.YtliffnpbaeijgaaGreatDoorRows
import GoSem.ClaimSeven
namespace Go.Proofs.YtliffnpbaeijgaaGreatDoor
namespace Rows

/-- THE TIED CARD OF 'etchhouselaw6.RulesNetsMatchSpec'. -/
def rulesNetsMatchSpecCard : Claim7 := { stood := { row := rulesNetsMatchSpecRow, standIns := [], harness := (true, "b7876ad8df9784d7087c18060a517accceba6ed2c97c36b341c9c6a588572ecd"), looks := false }, kinds := [], alts := [], laidByText := true, laidKinds := [.data, .data, .data, .data, .pinned], laidTests := true, laidLooks := .later }
def RulesNetsMatchSpecCardSaid : Prop := Claim7.holds Tryz.pinned (.plain (OpenSpec.ofChange rulesNetsMatchSpecSpec)) rulesNetsMatchSpecCard

/-- THE SECOND FORM's CARD OF 'etchhouselaw6.RulesNetsMatchSpec'. -/
def rulesNetsMatchSpecUptoCard : Claim7 := { stood := { row := rulesNetsMatchSpecUptoRow, standIns := [], harness := (true, "b7876ad8df9784d7087c18060a517accceba6ed2c97c36b341c9c6a588572ecd"), looks := false }, kinds := [], alts := [], laidByText := true, laidKinds := [.data, .data, .data, .data, .pinned], laidTests := true, laidLooks := .later }
def RulesNetsMatchSpecUptoCardSaid : Prop := Claim7.holds Tryz.pinned (.plain (OpenSpec.upto rulesNetsMatchSpecSpec)) rulesNetsMatchSpecUptoCard
end Rows
end Go.Proofs.YtliffnpbaeijgaaGreatDoor
