/-
  DERIVED. GIVEN WITH THE SEED: THE CARDS: each row of YtpbkimanfahbgaaGreatDoorRows.lean that lists a variable, with what it lists TIED to the program's text (the seventh form; the later family's looks); each row that meets fmt, with fmt's text TOLD by the authors' own Lean function (tested against real Go, not proved from fmt's source: count such statements apart). THE CARD IS WHAT COUNTS. Prove the row's statement (the work); the ties are given (YtpbkimanfahbgaaGreatDoorTie.lean); close each card by the builder's one call (the guide's Derived/Test/ToyasCard.lean, 'card_holds'). Laid BY PROGRAM, IN A SANDBOX (cutbox-door.mjs). By AI agents, Wed Nov 11 2026. No macro, syntax, notation, axiom, sorry.
-/
import Derived.Test.YtpbkimanfahbgaaGreatDoorRows
import GoSem.ClaimSeven
namespace Go.Proofs.YtpbkimanfahbgaaGreatDoor
namespace Rows

/-- THE TIED CARD OF 'etchhouselaw6.RulesRoomIsFree'. -/
def rulesRoomIsFreeCard : Claim7 := { stood := { row := rulesRoomIsFreeRow, standIns := [], harness := (true, "8225c6cd91debac4a5888f87a39076a5f54744e28f025ca1cef8b358c2d0873e"), looks := false }, kinds := [], alts := [], laidByText := true, laidKinds := [.data, .data, .data, .data, .pinned], laidTests := true, laidLooks := .later }
def RulesRoomIsFreeCardSaid : Prop := Claim7.holds Tryz.pinned (.plain (OpenSpec.ofChange rulesRoomIsFreeSpec)) rulesRoomIsFreeCard

/-- THE TIED CARD OF 'etchhouselaw6.RulesHarderBreakMore'. -/
def rulesHarderBreakMoreCard : Claim7 := { stood := { row := rulesHarderBreakMoreRow, standIns := [], harness := (true, "8225c6cd91debac4a5888f87a39076a5f54744e28f025ca1cef8b358c2d0873e"), looks := false }, kinds := [], alts := [], laidByText := true, laidKinds := [.data, .data, .data, .data, .pinned], laidTests := true, laidLooks := .later }
def RulesHarderBreakMoreCardSaid : Prop := Claim7.holds Tryz.pinned (.plain (OpenSpec.ofChange rulesHarderBreakMoreSpec)) rulesHarderBreakMoreCard

/-- THE TIED CARD OF 'etchhouselaw6.RulesTellTrue'. -/
def rulesTellTrueCard : Claim7 := { stood := { row := rulesTellTrueRow, standIns := [], harness := (true, "8225c6cd91debac4a5888f87a39076a5f54744e28f025ca1cef8b358c2d0873e"), looks := false }, kinds := [], alts := [], laidByText := true, laidKinds := [.data, .data, .data, .data, .pinned], laidTests := true, laidLooks := .later }
def RulesTellTrueCardSaid : Prop := Claim7.holds Tryz.pinned (.plain (OpenSpec.ofChange rulesTellTrueSpec)) rulesTellTrueCard

/-- THE TIED CARD OF 'etchhouselaw6.RulesFitsKeepsApart'. -/
def rulesFitsKeepsApartCard : Claim7 := { stood := { row := rulesFitsKeepsApartRow, standIns := [], harness := (true, "8225c6cd91debac4a5888f87a39076a5f54744e28f025ca1cef8b358c2d0873e"), looks := false }, kinds := [], alts := [], laidByText := true, laidKinds := [.data, .data, .data, .data, .pinned], laidTests := true, laidLooks := .later }
def RulesFitsKeepsApartCardSaid : Prop := Claim7.holds Tryz.pinned (.plain (OpenSpec.ofChange rulesFitsKeepsApartSpec)) rulesFitsKeepsApartCard

/-- THE SECOND FORM's CARD OF 'etchhouselaw6.RulesRoomIsFree'. -/
def rulesRoomIsFreeUptoCard : Claim7 := { stood := { row := rulesRoomIsFreeUptoRow, standIns := [], harness := (true, "8225c6cd91debac4a5888f87a39076a5f54744e28f025ca1cef8b358c2d0873e"), looks := false }, kinds := [], alts := [], laidByText := true, laidKinds := [.data, .data, .data, .data, .pinned], laidTests := true, laidLooks := .later }
def RulesRoomIsFreeUptoCardSaid : Prop := Claim7.holds Tryz.pinned (.plain (OpenSpec.upto rulesRoomIsFreeSpec)) rulesRoomIsFreeUptoCard

/-- THE SECOND FORM's CARD OF 'etchhouselaw6.RulesHarderBreakMore'. -/
def rulesHarderBreakMoreUptoCard : Claim7 := { stood := { row := rulesHarderBreakMoreUptoRow, standIns := [], harness := (true, "8225c6cd91debac4a5888f87a39076a5f54744e28f025ca1cef8b358c2d0873e"), looks := false }, kinds := [], alts := [], laidByText := true, laidKinds := [.data, .data, .data, .data, .pinned], laidTests := true, laidLooks := .later }
def RulesHarderBreakMoreUptoCardSaid : Prop := Claim7.holds Tryz.pinned (.plain (OpenSpec.upto rulesHarderBreakMoreSpec)) rulesHarderBreakMoreUptoCard

/-- THE SECOND FORM's CARD OF 'etchhouselaw6.RulesTellTrue'. -/
def rulesTellTrueUptoCard : Claim7 := { stood := { row := rulesTellTrueUptoRow, standIns := [], harness := (true, "8225c6cd91debac4a5888f87a39076a5f54744e28f025ca1cef8b358c2d0873e"), looks := false }, kinds := [], alts := [], laidByText := true, laidKinds := [.data, .data, .data, .data, .pinned], laidTests := true, laidLooks := .later }
def RulesTellTrueUptoCardSaid : Prop := Claim7.holds Tryz.pinned (.plain (OpenSpec.upto rulesTellTrueSpec)) rulesTellTrueUptoCard

/-- THE SECOND FORM's CARD OF 'etchhouselaw6.RulesFitsKeepsApart'. -/
def rulesFitsKeepsApartUptoCard : Claim7 := { stood := { row := rulesFitsKeepsApartUptoRow, standIns := [], harness := (true, "8225c6cd91debac4a5888f87a39076a5f54744e28f025ca1cef8b358c2d0873e"), looks := false }, kinds := [], alts := [], laidByText := true, laidKinds := [.data, .data, .data, .data, .pinned], laidTests := true, laidLooks := .later }
def RulesFitsKeepsApartUptoCardSaid : Prop := Claim7.holds Tryz.pinned (.plain (OpenSpec.upto rulesFitsKeepsApartSpec)) rulesFitsKeepsApartUptoCard
end Rows
end Go.Proofs.YtpbkimanfahbgaaGreatDoor
