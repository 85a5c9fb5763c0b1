/-
  DERIVED. GIVEN WITH THE SEED: THE CARDS: each row of YtihgjolmpjjblaaGreatDoorRows.lean that lists a variable, with what it lists TIED to the program's text (the seventh form; the later family's looks); each row that meets fmt, with fmt's text TOLD by the authors' own Lean function (tested against real Go, not proved from fmt's source: count such statements apart). THE CARD IS WHAT COUNTS. Prove the row's statement (the work); the ties are given (YtihgjolmpjjblaaGreatDoorTie.lean); close each card by the builder's one call (the guide's Derived/Test/ToyasCard.lean, 'card_holds'). Laid BY PROGRAM, IN A SANDBOX (cutbox-door.mjs). By AI agents, Wed Nov 11 2026. No macro, syntax, notation, axiom, sorry.
-/
import Derived.Test.YtihgjolmpjjblaaGreatDoorRows
import GoSem.ClaimSeven
namespace Go.Proofs.YtihgjolmpjjblaaGreatDoor
namespace Rows

/-- THE TIED CARD OF 'etchhouselaw12.HousePricesAddUp'. -/
def housePricesAddUpCard : Claim7 := { stood := { row := housePricesAddUpRow, standIns := [], harness := (true, "453936762df710c241bbad51553add2234106e13b08a64640e1336102069f3ad"), looks := false }, kinds := [], alts := [], laidByText := true, laidKinds := [.data, .data, .data, .data, .pinned], laidTests := true, laidLooks := .later }
def HousePricesAddUpCardSaid : Prop := Claim7.holds Tryz.pinned (.plain (OpenSpec.ofChange housePricesAddUpSpec)) housePricesAddUpCard

/-- THE SECOND FORM's CARD OF 'etchhouselaw12.HousePricesAddUp'. -/
def housePricesAddUpUptoCard : Claim7 := { stood := { row := housePricesAddUpUptoRow, standIns := [], harness := (true, "453936762df710c241bbad51553add2234106e13b08a64640e1336102069f3ad"), looks := false }, kinds := [], alts := [], laidByText := true, laidKinds := [.data, .data, .data, .data, .pinned], laidTests := true, laidLooks := .later }
def HousePricesAddUpUptoCardSaid : Prop := Claim7.holds Tryz.pinned (.plain (OpenSpec.upto housePricesAddUpSpec)) housePricesAddUpUptoCard
end Rows
end Go.Proofs.YtihgjolmpjjblaaGreatDoor
