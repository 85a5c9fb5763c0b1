/-
  DERIVED. GIVEN WITH THE SEED: THE CARDS: each row of YtiaifckpmefinaaGreatDoorRows.lean that lists a variable, with what it lists TIED to the program's text (the seventh form; the later family's looks); each row that meets fmt, with fmt's text TOLD by the authors' own Lean function (tested against real Go, not proved from fmt's source: count such statements apart). THE CARD IS WHAT COUNTS. Prove the row's statement (the work); the ties are given (YtiaifckpmefinaaGreatDoorTie.lean); close each card by the builder's one call (the guide's Derived/Test/ToyasCard.lean, 'card_holds'). Laid BY PROGRAM, IN A SANDBOX (cutbox-door.mjs). By AI agents, Wed Nov 11 2026. No macro, syntax, notation, axiom, sorry.
-/
import Derived.Test.YtiaifckpmefinaaGreatDoorRows
import GoSem.ClaimSeven
namespace Go.Proofs.YtiaifckpmefinaaGreatDoor
namespace Rows

/-- THE TIED CARD OF 'etchhouselaw12.HouseOrdersMatchSpec'. -/
def houseOrdersMatchSpecCard : Claim7 := { stood := { row := houseOrdersMatchSpecRow, standIns := [], harness := (true, "c41197579e6cbc3d4d80870e74994058082b5fd7b9abdb065d7bf4bc85ae5a4f"), looks := false }, kinds := [], alts := [], laidByText := true, laidKinds := [.data, .data, .data, .data, .pinned], laidTests := true, laidLooks := .later }
def HouseOrdersMatchSpecCardSaid : Prop := Claim7.holds Tryz.pinned (.plain (OpenSpec.ofChange houseOrdersMatchSpecSpec)) houseOrdersMatchSpecCard

/-- THE TIED CARD OF 'etchhouselaw12.HouseDrillsEachOnce'. -/
def houseDrillsEachOnceCard : Claim7 := { stood := { row := houseDrillsEachOnceRow, standIns := [], harness := (true, "c41197579e6cbc3d4d80870e74994058082b5fd7b9abdb065d7bf4bc85ae5a4f"), looks := false }, kinds := [], alts := [], laidByText := true, laidKinds := [.data, .data, .data, .data, .pinned], laidTests := true, laidLooks := .later }
def HouseDrillsEachOnceCardSaid : Prop := Claim7.holds Tryz.pinned (.plain (OpenSpec.ofChange houseDrillsEachOnceSpec)) houseDrillsEachOnceCard

/-- THE TIED CARD OF 'etchhouselaw12.HouseDrillingMatchesSpec'. -/
def houseDrillingMatchesSpecCard : Claim7 := { stood := { row := houseDrillingMatchesSpecRow, standIns := [], harness := (true, "c41197579e6cbc3d4d80870e74994058082b5fd7b9abdb065d7bf4bc85ae5a4f"), looks := false }, kinds := [], alts := [], laidByText := true, laidKinds := [.data, .data, .data, .data, .pinned], laidTests := true, laidLooks := .later }
def HouseDrillingMatchesSpecCardSaid : Prop := Claim7.holds Tryz.pinned (.plain (OpenSpec.ofChange houseDrillingMatchesSpecSpec)) houseDrillingMatchesSpecCard

/-- THE SECOND FORM's CARD OF 'etchhouselaw12.HouseOrdersMatchSpec'. -/
def houseOrdersMatchSpecUptoCard : Claim7 := { stood := { row := houseOrdersMatchSpecUptoRow, standIns := [], harness := (true, "c41197579e6cbc3d4d80870e74994058082b5fd7b9abdb065d7bf4bc85ae5a4f"), looks := false }, kinds := [], alts := [], laidByText := true, laidKinds := [.data, .data, .data, .data, .pinned], laidTests := true, laidLooks := .later }
def HouseOrdersMatchSpecUptoCardSaid : Prop := Claim7.holds Tryz.pinned (.plain (OpenSpec.upto houseOrdersMatchSpecSpec)) houseOrdersMatchSpecUptoCard

/-- THE SECOND FORM's CARD OF 'etchhouselaw12.HouseDrillsEachOnce'. -/
def houseDrillsEachOnceUptoCard : Claim7 := { stood := { row := houseDrillsEachOnceUptoRow, standIns := [], harness := (true, "c41197579e6cbc3d4d80870e74994058082b5fd7b9abdb065d7bf4bc85ae5a4f"), looks := false }, kinds := [], alts := [], laidByText := true, laidKinds := [.data, .data, .data, .data, .pinned], laidTests := true, laidLooks := .later }
def HouseDrillsEachOnceUptoCardSaid : Prop := Claim7.holds Tryz.pinned (.plain (OpenSpec.upto houseDrillsEachOnceSpec)) houseDrillsEachOnceUptoCard

/-- THE SECOND FORM's CARD OF 'etchhouselaw12.HouseDrillingMatchesSpec'. -/
def houseDrillingMatchesSpecUptoCard : Claim7 := { stood := { row := houseDrillingMatchesSpecUptoRow, standIns := [], harness := (true, "c41197579e6cbc3d4d80870e74994058082b5fd7b9abdb065d7bf4bc85ae5a4f"), looks := false }, kinds := [], alts := [], laidByText := true, laidKinds := [.data, .data, .data, .data, .pinned], laidTests := true, laidLooks := .later }
def HouseDrillingMatchesSpecUptoCardSaid : Prop := Claim7.holds Tryz.pinned (.plain (OpenSpec.upto houseDrillingMatchesSpecSpec)) houseDrillingMatchesSpecUptoCard
end Rows
end Go.Proofs.YtiaifckpmefinaaGreatDoor
