/-
  DERIVED. GIVEN WITH THE SEED: THE CARDS: each row of YtneggmggiepnoaaDoorRows.lean that lists a variable, with what it lists TIED to the program's text (the seventh form; the later family's looks); each row that meets fmt, with fmt's text TOLD by the authors' own Lean function (tested against real Go, not proved from fmt's source: count such statements apart). THE CARD IS WHAT COUNTS. Prove the row's statement (the work); the ties are given (YtneggmggiepnoaaDoorTie.lean); close each card by the builder's one call (the guide's Derived/Test/ToyasCard.lean, 'card_holds'). Laid BY PROGRAM, IN A SANDBOX (cutbox-door.mjs). By AI agents, Wed Nov 11 2026. No macro, syntax, notation, axiom, sorry.
-/
import Derived.Test.YtneggmggiepnoaaDoorRows
import GoSem.ClaimSeven
namespace Go.Proofs.YtneggmggiepnoaaDoor
namespace Rows

/-- THE TIED CARD OF 'etchhouselaw12.HouseSerialsMatchSpec'. -/
def houseSerialsMatchSpecCard : Claim7 := { stood := { row := houseSerialsMatchSpecRow, standIns := [], harness := (true, "1cd39a907f54ee513e7ed0afad3a8d2c4319cf355cde2b334fb38d30d87013fb"), looks := true }, kinds := [], alts := [], laidByText := true, laidKinds := [.data, .data, .data, .data, .sentinel, .sentinel, .pinned], laidTests := true, laidLooks := .later }
def HouseSerialsMatchSpecCardSaid : Prop := Claim7.holds Tryd.pinned (.plain (OpenSpec.ofChange houseSerialsMatchSpecSpec)) houseSerialsMatchSpecCard

/-- THE TIED CARD OF 'etchhouselaw12.HouseSerialsComeBack'. -/
def houseSerialsComeBackCard : Claim7 := { stood := { row := houseSerialsComeBackRow, standIns := [], harness := (true, "1cd39a907f54ee513e7ed0afad3a8d2c4319cf355cde2b334fb38d30d87013fb"), looks := true }, kinds := [], alts := [], laidByText := true, laidKinds := [.data, .data, .data, .data, .sentinel, .sentinel, .pinned], laidTests := true, laidLooks := .later }
def HouseSerialsComeBackCardSaid : Prop := Claim7.holds Tryd.pinned (.plain (OpenSpec.ofChange houseSerialsComeBackSpec)) houseSerialsComeBackCard

/-- THE TIED CARD OF 'etchhouselaw12.HouseSerialsFindDigits'. -/
def houseSerialsFindDigitsCard : Claim7 := { stood := { row := houseSerialsFindDigitsRow, standIns := [], harness := (true, "1cd39a907f54ee513e7ed0afad3a8d2c4319cf355cde2b334fb38d30d87013fb"), looks := true }, kinds := [], alts := [], laidByText := true, laidKinds := [.data, .data, .data, .data, .sentinel, .sentinel, .pinned], laidTests := true, laidLooks := .later }
def HouseSerialsFindDigitsCardSaid : Prop := Claim7.holds Tryd.pinned (.plain (OpenSpec.ofChange houseSerialsFindDigitsSpec)) houseSerialsFindDigitsCard

/-- THE SECOND FORM's CARD OF 'etchhouselaw12.HouseSerialsMatchSpec'. -/
def houseSerialsMatchSpecUptoCard : Claim7 := { stood := { row := houseSerialsMatchSpecUptoRow, standIns := [], harness := (true, "1cd39a907f54ee513e7ed0afad3a8d2c4319cf355cde2b334fb38d30d87013fb"), looks := true }, kinds := [], alts := [], laidByText := true, laidKinds := [.data, .data, .data, .data, .sentinel, .sentinel, .pinned], laidTests := true, laidLooks := .later }
def HouseSerialsMatchSpecUptoCardSaid : Prop := Claim7.holds Tryd.pinned (.plain (OpenSpec.upto houseSerialsMatchSpecSpec)) houseSerialsMatchSpecUptoCard

/-- THE SECOND FORM's CARD OF 'etchhouselaw12.HouseSerialsComeBack'. -/
def houseSerialsComeBackUptoCard : Claim7 := { stood := { row := houseSerialsComeBackUptoRow, standIns := [], harness := (true, "1cd39a907f54ee513e7ed0afad3a8d2c4319cf355cde2b334fb38d30d87013fb"), looks := true }, kinds := [], alts := [], laidByText := true, laidKinds := [.data, .data, .data, .data, .sentinel, .sentinel, .pinned], laidTests := true, laidLooks := .later }
def HouseSerialsComeBackUptoCardSaid : Prop := Claim7.holds Tryd.pinned (.plain (OpenSpec.upto houseSerialsComeBackSpec)) houseSerialsComeBackUptoCard

/-- THE SECOND FORM's CARD OF 'etchhouselaw12.HouseSerialsFindDigits'. -/
def houseSerialsFindDigitsUptoCard : Claim7 := { stood := { row := houseSerialsFindDigitsUptoRow, standIns := [], harness := (true, "1cd39a907f54ee513e7ed0afad3a8d2c4319cf355cde2b334fb38d30d87013fb"), looks := true }, kinds := [], alts := [], laidByText := true, laidKinds := [.data, .data, .data, .data, .sentinel, .sentinel, .pinned], laidTests := true, laidLooks := .later }
def HouseSerialsFindDigitsUptoCardSaid : Prop := Claim7.holds Tryd.pinned (.plain (OpenSpec.upto houseSerialsFindDigitsSpec)) houseSerialsFindDigitsUptoCard
end Rows
end Go.Proofs.YtneggmggiepnoaaDoor
