/-
  DERIVED. GIVEN WITH THE SEED: THE CARDS: each row of YtnpkopkpbgflnaaGreatDoorRows.lean that lists a variable, with what it lists TIED to the program's text (the seventh form; the later family's looks); each row that meets fmt, with fmt's text TOLD by the authors' own Lean function (tested against real Go, not proved from fmt's source: count such statements apart). THE CARD IS WHAT COUNTS. Prove the row's statement (the work); the ties are given (YtnpkopkpbgflnaaGreatDoorTie.lean); close each card by the builder's one call (the guide's Derived/Test/ToyasCard.lean, 'card_holds'). Laid BY PROGRAM, IN A SANDBOX (cutbox-door.mjs). By AI agents, Wed Nov 11 2026. No macro, syntax, notation, axiom, sorry.
-/
import Derived.Test.YtnpkopkpbgflnaaGreatDoorRows
import GoSem.ClaimSeven
namespace Go.Proofs.YtnpkopkpbgflnaaGreatDoor
namespace Rows

/-- THE TIED CARD OF 'etchhouselaw12.HouseDrillingMatchesSpec'. -/
def houseDrillingMatchesSpecCard : Claim7 := { stood := { row := houseDrillingMatchesSpecRow, standIns := [], harness := (true, "22be983c14d1a7adf8eeb2a7074fc2d1cd71b9570dfd9e6dc3b6158fe8bbf134"), looks := false }, kinds := [], alts := [], laidByText := true, laidKinds := [.data, .data, .data, .data, .pinned], laidTests := true, laidLooks := .later }
def HouseDrillingMatchesSpecCardSaid : Prop := Claim7.holds Tryz.pinned (.plain (OpenSpec.ofChange houseDrillingMatchesSpecSpec)) houseDrillingMatchesSpecCard

/-- THE TIED CARD OF 'etchhouselaw12.HouseOnPanelMatchesSpec'. -/
def houseOnPanelMatchesSpecCard : Claim7 := { stood := { row := houseOnPanelMatchesSpecRow, standIns := [], harness := (true, "22be983c14d1a7adf8eeb2a7074fc2d1cd71b9570dfd9e6dc3b6158fe8bbf134"), looks := false }, kinds := [], alts := [], laidByText := true, laidKinds := [.data, .data, .data, .data, .pinned], laidTests := true, laidLooks := .later }
def HouseOnPanelMatchesSpecCardSaid : Prop := Claim7.holds Tryz.pinned (.plain (OpenSpec.ofChange houseOnPanelMatchesSpecSpec)) houseOnPanelMatchesSpecCard

/-- THE TIED CARD OF 'etchhouselaw12.HouseBoardsMatchSpec'. -/
def houseBoardsMatchSpecCard : Claim7 := { stood := { row := houseBoardsMatchSpecRow, standIns := [], harness := (true, "22be983c14d1a7adf8eeb2a7074fc2d1cd71b9570dfd9e6dc3b6158fe8bbf134"), looks := false }, kinds := [], alts := [], laidByText := true, laidKinds := [.data, .data, .data, .data, .pinned], laidTests := true, laidLooks := .later }
def HouseBoardsMatchSpecCardSaid : Prop := Claim7.holds Tryz.pinned (.plain (OpenSpec.ofChange houseBoardsMatchSpecSpec)) houseBoardsMatchSpecCard

/-- THE TIED CARD OF 'etchhouselaw12.HousePricesAddUp'. -/
def housePricesAddUpCard : Claim7 := { stood := { row := housePricesAddUpRow, standIns := [], harness := (true, "22be983c14d1a7adf8eeb2a7074fc2d1cd71b9570dfd9e6dc3b6158fe8bbf134"), looks := false }, kinds := [], alts := [], laidByText := true, laidKinds := [.data, .data, .data, .data, .pinned], laidTests := true, laidLooks := .later }
def HousePricesAddUpCardSaid : Prop := Claim7.holds Tryz.pinned (.plain (OpenSpec.ofChange housePricesAddUpSpec)) housePricesAddUpCard

/-- THE SECOND FORM's CARD OF 'etchhouselaw12.HouseDrillingMatchesSpec'. -/
def houseDrillingMatchesSpecUptoCard : Claim7 := { stood := { row := houseDrillingMatchesSpecUptoRow, standIns := [], harness := (true, "22be983c14d1a7adf8eeb2a7074fc2d1cd71b9570dfd9e6dc3b6158fe8bbf134"), looks := false }, kinds := [], alts := [], laidByText := true, laidKinds := [.data, .data, .data, .data, .pinned], laidTests := true, laidLooks := .later }
def HouseDrillingMatchesSpecUptoCardSaid : Prop := Claim7.holds Tryz.pinned (.plain (OpenSpec.upto houseDrillingMatchesSpecSpec)) houseDrillingMatchesSpecUptoCard

/-- THE SECOND FORM's CARD OF 'etchhouselaw12.HouseOnPanelMatchesSpec'. -/
def houseOnPanelMatchesSpecUptoCard : Claim7 := { stood := { row := houseOnPanelMatchesSpecUptoRow, standIns := [], harness := (true, "22be983c14d1a7adf8eeb2a7074fc2d1cd71b9570dfd9e6dc3b6158fe8bbf134"), looks := false }, kinds := [], alts := [], laidByText := true, laidKinds := [.data, .data, .data, .data, .pinned], laidTests := true, laidLooks := .later }
def HouseOnPanelMatchesSpecUptoCardSaid : Prop := Claim7.holds Tryz.pinned (.plain (OpenSpec.upto houseOnPanelMatchesSpecSpec)) houseOnPanelMatchesSpecUptoCard

/-- THE SECOND FORM's CARD OF 'etchhouselaw12.HouseBoardsMatchSpec'. -/
def houseBoardsMatchSpecUptoCard : Claim7 := { stood := { row := houseBoardsMatchSpecUptoRow, standIns := [], harness := (true, "22be983c14d1a7adf8eeb2a7074fc2d1cd71b9570dfd9e6dc3b6158fe8bbf134"), looks := false }, kinds := [], alts := [], laidByText := true, laidKinds := [.data, .data, .data, .data, .pinned], laidTests := true, laidLooks := .later }
def HouseBoardsMatchSpecUptoCardSaid : Prop := Claim7.holds Tryz.pinned (.plain (OpenSpec.upto houseBoardsMatchSpecSpec)) houseBoardsMatchSpecUptoCard

/-- THE SECOND FORM's CARD OF 'etchhouselaw12.HousePricesAddUp'. -/
def housePricesAddUpUptoCard : Claim7 := { stood := { row := housePricesAddUpUptoRow, standIns := [], harness := (true, "22be983c14d1a7adf8eeb2a7074fc2d1cd71b9570dfd9e6dc3b6158fe8bbf134"), looks := false }, kinds := [], alts := [], laidByText := true, laidKinds := [.data, .data, .data, .data, .pinned], laidTests := true, laidLooks := .later }
def HousePricesAddUpUptoCardSaid : Prop := Claim7.holds Tryz.pinned (.plain (OpenSpec.upto housePricesAddUpSpec)) housePricesAddUpUptoCard
end Rows
end Go.Proofs.YtnpkopkpbgflnaaGreatDoor
