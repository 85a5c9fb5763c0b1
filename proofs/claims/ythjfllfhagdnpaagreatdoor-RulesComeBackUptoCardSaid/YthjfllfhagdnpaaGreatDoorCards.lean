/-
  DERIVED. GIVEN WITH THE SEED: THE CARDS: each row of YthjfllfhagdnpaaGreatDoorRows.lean that lists a variable, with what it lists TIED to the program's text (the seventh form; the later family's looks); each row that meets fmt, with fmt's text TOLD by the authors' own Lean function (tested against real Go, not proved from fmt's source: count such statements apart). THE CARD IS WHAT COUNTS. Prove the row's statement (the work); the ties are given (YthjfllfhagdnpaaGreatDoorTie.lean); close each card by the builder's one call (the guide's Derived/Test/ToyasCard.lean, 'card_holds'). Laid BY PROGRAM, IN A SANDBOX (cutbox-door.mjs). By AI agents, Wed Nov 11 2026. No macro, syntax, notation, axiom, sorry.
-/
import Derived.Test.YthjfllfhagdnpaaGreatDoorRows
import GoSem.ClaimSeven
namespace Go.Proofs.YthjfllfhagdnpaaGreatDoor
namespace Rows

/-- THE TIED CARD OF 'etchhouselaw6.ThinMatchSpec'. -/
def thinMatchSpecCard : Claim7 := { stood := { row := thinMatchSpecRow, standIns := [], harness := (true, "0eebcdb8b4b21f0b70f6e0c783d268ac4f9a45456890c89eec70434fca9c8fa5"), looks := true }, kinds := [], alts := [], laidByText := true, laidKinds := [.data, .data, .data, .data, .pinned], laidTests := true, laidLooks := .later }
def ThinMatchSpecCardSaid : Prop := Claim7.holds Tryz.pinned (.plain (OpenSpec.ofChange thinMatchSpecSpec)) thinMatchSpecCard

/-- THE TIED CARD OF 'etchhouselaw6.RulesHolesMatchSpec'. -/
def rulesHolesMatchSpecCard : Claim7 := { stood := { row := rulesHolesMatchSpecRow, standIns := [], harness := (true, "0eebcdb8b4b21f0b70f6e0c783d268ac4f9a45456890c89eec70434fca9c8fa5"), looks := true }, kinds := [], alts := [], laidByText := true, laidKinds := [.data, .data, .data, .data, .pinned], laidTests := true, laidLooks := .later }
def RulesHolesMatchSpecCardSaid : Prop := Claim7.holds Tryz.pinned (.plain (OpenSpec.ofChange rulesHolesMatchSpecSpec)) rulesHolesMatchSpecCard

/-- THE TIED CARD OF 'etchhouselaw6.RulesRoomMatchSpec'. -/
def rulesRoomMatchSpecCard : Claim7 := { stood := { row := rulesRoomMatchSpecRow, standIns := [], harness := (true, "0eebcdb8b4b21f0b70f6e0c783d268ac4f9a45456890c89eec70434fca9c8fa5"), looks := true }, kinds := [], alts := [], laidByText := true, laidKinds := [.data, .data, .data, .data, .pinned], laidTests := true, laidLooks := .later }
def RulesRoomMatchSpecCardSaid : Prop := Claim7.holds Tryz.pinned (.plain (OpenSpec.ofChange rulesRoomMatchSpecSpec)) rulesRoomMatchSpecCard

/-- THE TIED CARD OF 'etchhouselaw6.RulesClearMatchSpec'. -/
def rulesClearMatchSpecCard : Claim7 := { stood := { row := rulesClearMatchSpecRow, standIns := [], harness := (true, "0eebcdb8b4b21f0b70f6e0c783d268ac4f9a45456890c89eec70434fca9c8fa5"), looks := true }, kinds := [], alts := [], laidByText := true, laidKinds := [.data, .data, .data, .data, .pinned], laidTests := true, laidLooks := .later }
def RulesClearMatchSpecCardSaid : Prop := Claim7.holds Tryz.pinned (.plain (OpenSpec.ofChange rulesClearMatchSpecSpec)) rulesClearMatchSpecCard

/-- THE TIED CARD OF 'etchhouselaw6.RulesRoomIsFree'. -/
def rulesRoomIsFreeCard : Claim7 := { stood := { row := rulesRoomIsFreeRow, standIns := [], harness := (true, "0eebcdb8b4b21f0b70f6e0c783d268ac4f9a45456890c89eec70434fca9c8fa5"), looks := true }, kinds := [], alts := [], laidByText := true, laidKinds := [.data, .data, .data, .data, .pinned], laidTests := true, laidLooks := .later }
def RulesRoomIsFreeCardSaid : Prop := Claim7.holds Tryz.pinned (.plain (OpenSpec.ofChange rulesRoomIsFreeSpec)) rulesRoomIsFreeCard

/-- THE TIED CARD OF 'etchhouselaw6.RulesComeBack'. -/
def rulesComeBackCard : Claim7 := { stood := { row := rulesComeBackRow, standIns := [], harness := (true, "0eebcdb8b4b21f0b70f6e0c783d268ac4f9a45456890c89eec70434fca9c8fa5"), looks := true }, kinds := [], alts := [], laidByText := true, laidKinds := [.data, .data, .data, .data, .sentinel, .sentinel, .pinned], laidTests := true, laidLooks := .later }
def RulesComeBackCardSaid : Prop := Claim7.holds Tryz.pinned (.plain (OpenSpec.ofChange rulesComeBackSpec)) rulesComeBackCard

/-- THE TIED CARD OF 'etchhouselaw6.RulesReadMatchSpec'. -/
def rulesReadMatchSpecCard : Claim7 := { stood := { row := rulesReadMatchSpecRow, standIns := [], harness := (true, "0eebcdb8b4b21f0b70f6e0c783d268ac4f9a45456890c89eec70434fca9c8fa5"), looks := true }, kinds := [], alts := [], laidByText := true, laidKinds := [.data, .data, .data, .data, .sentinel, .sentinel, .pinned], laidTests := true, laidLooks := .later }
def RulesReadMatchSpecCardSaid : Prop := Claim7.holds Tryz.pinned (.plain (OpenSpec.ofChange rulesReadMatchSpecSpec)) rulesReadMatchSpecCard

/-- THE TIED CARD OF 'etchhouselaw6.RulesNetsMatchSpec'. -/
def rulesNetsMatchSpecCard : Claim7 := { stood := { row := rulesNetsMatchSpecRow, standIns := [], harness := (true, "0eebcdb8b4b21f0b70f6e0c783d268ac4f9a45456890c89eec70434fca9c8fa5"), looks := true }, kinds := [], alts := [], laidByText := true, laidKinds := [.data, .data, .data, .data, .pinned], laidTests := true, laidLooks := .later }
def RulesNetsMatchSpecCardSaid : Prop := Claim7.holds Tryz.pinned (.plain (OpenSpec.ofChange rulesNetsMatchSpecSpec)) rulesNetsMatchSpecCard

/-- THE TIED CARD OF 'etchhouselaw6.RulesAllMatchSpec'. -/
def rulesAllMatchSpecCard : Claim7 := { stood := { row := rulesAllMatchSpecRow, standIns := [], harness := (true, "0eebcdb8b4b21f0b70f6e0c783d268ac4f9a45456890c89eec70434fca9c8fa5"), looks := true }, kinds := [], alts := [], laidByText := true, laidKinds := [.data, .data, .data, .data, .pinned], laidTests := true, laidLooks := .later }
def RulesAllMatchSpecCardSaid : Prop := Claim7.holds Tryz.pinned (.plain (OpenSpec.ofChange rulesAllMatchSpecSpec)) rulesAllMatchSpecCard

/-- THE TIED CARD OF 'etchhouselaw6.RulesHarderBreakMore'. -/
def rulesHarderBreakMoreCard : Claim7 := { stood := { row := rulesHarderBreakMoreRow, standIns := [], harness := (true, "0eebcdb8b4b21f0b70f6e0c783d268ac4f9a45456890c89eec70434fca9c8fa5"), looks := true }, kinds := [], alts := [], laidByText := true, laidKinds := [.data, .data, .data, .data, .pinned], laidTests := true, laidLooks := .later }
def RulesHarderBreakMoreCardSaid : Prop := Claim7.holds Tryz.pinned (.plain (OpenSpec.ofChange rulesHarderBreakMoreSpec)) rulesHarderBreakMoreCard

/-- THE TIED CARD OF 'etchhouselaw6.RulesTellTrue'. -/
def rulesTellTrueCard : Claim7 := { stood := { row := rulesTellTrueRow, standIns := [], harness := (true, "0eebcdb8b4b21f0b70f6e0c783d268ac4f9a45456890c89eec70434fca9c8fa5"), looks := true }, kinds := [], alts := [], laidByText := true, laidKinds := [.data, .data, .data, .data, .pinned], laidTests := true, laidLooks := .later }
def RulesTellTrueCardSaid : Prop := Claim7.holds Tryz.pinned (.plain (OpenSpec.ofChange rulesTellTrueSpec)) rulesTellTrueCard

/-- THE TIED CARD OF 'etchhouselaw6.RulesFitsKeepsApart'. -/
def rulesFitsKeepsApartCard : Claim7 := { stood := { row := rulesFitsKeepsApartRow, standIns := [], harness := (true, "0eebcdb8b4b21f0b70f6e0c783d268ac4f9a45456890c89eec70434fca9c8fa5"), looks := true }, kinds := [], alts := [], laidByText := true, laidKinds := [.data, .data, .data, .data, .pinned], laidTests := true, laidLooks := .later }
def RulesFitsKeepsApartCardSaid : Prop := Claim7.holds Tryz.pinned (.plain (OpenSpec.ofChange rulesFitsKeepsApartSpec)) rulesFitsKeepsApartCard

/-- THE SECOND FORM's CARD OF 'etchhouselaw6.ThinMatchSpec'. -/
def thinMatchSpecUptoCard : Claim7 := { stood := { row := thinMatchSpecUptoRow, standIns := [], harness := (true, "0eebcdb8b4b21f0b70f6e0c783d268ac4f9a45456890c89eec70434fca9c8fa5"), looks := true }, kinds := [], alts := [], laidByText := true, laidKinds := [.data, .data, .data, .data, .pinned], laidTests := true, laidLooks := .later }
def ThinMatchSpecUptoCardSaid : Prop := Claim7.holds Tryz.pinned (.plain (OpenSpec.upto thinMatchSpecSpec)) thinMatchSpecUptoCard

/-- THE SECOND FORM's CARD OF 'etchhouselaw6.RulesHolesMatchSpec'. -/
def rulesHolesMatchSpecUptoCard : Claim7 := { stood := { row := rulesHolesMatchSpecUptoRow, standIns := [], harness := (true, "0eebcdb8b4b21f0b70f6e0c783d268ac4f9a45456890c89eec70434fca9c8fa5"), looks := true }, kinds := [], alts := [], laidByText := true, laidKinds := [.data, .data, .data, .data, .pinned], laidTests := true, laidLooks := .later }
def RulesHolesMatchSpecUptoCardSaid : Prop := Claim7.holds Tryz.pinned (.plain (OpenSpec.upto rulesHolesMatchSpecSpec)) rulesHolesMatchSpecUptoCard

/-- THE SECOND FORM's CARD OF 'etchhouselaw6.RulesRoomMatchSpec'. -/
def rulesRoomMatchSpecUptoCard : Claim7 := { stood := { row := rulesRoomMatchSpecUptoRow, standIns := [], harness := (true, "0eebcdb8b4b21f0b70f6e0c783d268ac4f9a45456890c89eec70434fca9c8fa5"), looks := true }, kinds := [], alts := [], laidByText := true, laidKinds := [.data, .data, .data, .data, .pinned], laidTests := true, laidLooks := .later }
def RulesRoomMatchSpecUptoCardSaid : Prop := Claim7.holds Tryz.pinned (.plain (OpenSpec.upto rulesRoomMatchSpecSpec)) rulesRoomMatchSpecUptoCard

/-- THE SECOND FORM's CARD OF 'etchhouselaw6.RulesClearMatchSpec'. -/
def rulesClearMatchSpecUptoCard : Claim7 := { stood := { row := rulesClearMatchSpecUptoRow, standIns := [], harness := (true, "0eebcdb8b4b21f0b70f6e0c783d268ac4f9a45456890c89eec70434fca9c8fa5"), looks := true }, kinds := [], alts := [], laidByText := true, laidKinds := [.data, .data, .data, .data, .pinned], laidTests := true, laidLooks := .later }
def RulesClearMatchSpecUptoCardSaid : Prop := Claim7.holds Tryz.pinned (.plain (OpenSpec.upto rulesClearMatchSpecSpec)) rulesClearMatchSpecUptoCard

/-- THE SECOND FORM's CARD OF 'etchhouselaw6.RulesRoomIsFree'. -/
def rulesRoomIsFreeUptoCard : Claim7 := { stood := { row := rulesRoomIsFreeUptoRow, standIns := [], harness := (true, "0eebcdb8b4b21f0b70f6e0c783d268ac4f9a45456890c89eec70434fca9c8fa5"), looks := true }, kinds := [], alts := [], laidByText := true, laidKinds := [.data, .data, .data, .data, .pinned], laidTests := true, laidLooks := .later }
def RulesRoomIsFreeUptoCardSaid : Prop := Claim7.holds Tryz.pinned (.plain (OpenSpec.upto rulesRoomIsFreeSpec)) rulesRoomIsFreeUptoCard

/-- THE SECOND FORM's CARD OF 'etchhouselaw6.RulesComeBack'. -/
def rulesComeBackUptoCard : Claim7 := { stood := { row := rulesComeBackUptoRow, standIns := [], harness := (true, "0eebcdb8b4b21f0b70f6e0c783d268ac4f9a45456890c89eec70434fca9c8fa5"), looks := true }, kinds := [], alts := [], laidByText := true, laidKinds := [.data, .data, .data, .data, .sentinel, .sentinel, .pinned], laidTests := true, laidLooks := .later }
def RulesComeBackUptoCardSaid : Prop := Claim7.holds Tryz.pinned (.plain (OpenSpec.upto rulesComeBackSpec)) rulesComeBackUptoCard

/-- THE SECOND FORM's CARD OF 'etchhouselaw6.RulesReadMatchSpec'. -/
def rulesReadMatchSpecUptoCard : Claim7 := { stood := { row := rulesReadMatchSpecUptoRow, standIns := [], harness := (true, "0eebcdb8b4b21f0b70f6e0c783d268ac4f9a45456890c89eec70434fca9c8fa5"), looks := true }, kinds := [], alts := [], laidByText := true, laidKinds := [.data, .data, .data, .data, .sentinel, .sentinel, .pinned], laidTests := true, laidLooks := .later }
def RulesReadMatchSpecUptoCardSaid : Prop := Claim7.holds Tryz.pinned (.plain (OpenSpec.upto rulesReadMatchSpecSpec)) rulesReadMatchSpecUptoCard

/-- THE SECOND FORM's CARD OF 'etchhouselaw6.RulesNetsMatchSpec'. -/
def rulesNetsMatchSpecUptoCard : Claim7 := { stood := { row := rulesNetsMatchSpecUptoRow, standIns := [], harness := (true, "0eebcdb8b4b21f0b70f6e0c783d268ac4f9a45456890c89eec70434fca9c8fa5"), looks := true }, kinds := [], alts := [], laidByText := true, laidKinds := [.data, .data, .data, .data, .pinned], laidTests := true, laidLooks := .later }
def RulesNetsMatchSpecUptoCardSaid : Prop := Claim7.holds Tryz.pinned (.plain (OpenSpec.upto rulesNetsMatchSpecSpec)) rulesNetsMatchSpecUptoCard

/-- THE SECOND FORM's CARD OF 'etchhouselaw6.RulesAllMatchSpec'. -/
def rulesAllMatchSpecUptoCard : Claim7 := { stood := { row := rulesAllMatchSpecUptoRow, standIns := [], harness := (true, "0eebcdb8b4b21f0b70f6e0c783d268ac4f9a45456890c89eec70434fca9c8fa5"), looks := true }, kinds := [], alts := [], laidByText := true, laidKinds := [.data, .data, .data, .data, .pinned], laidTests := true, laidLooks := .later }
def RulesAllMatchSpecUptoCardSaid : Prop := Claim7.holds Tryz.pinned (.plain (OpenSpec.upto rulesAllMatchSpecSpec)) rulesAllMatchSpecUptoCard

/-- THE SECOND FORM's CARD OF 'etchhouselaw6.RulesHarderBreakMore'. -/
def rulesHarderBreakMoreUptoCard : Claim7 := { stood := { row := rulesHarderBreakMoreUptoRow, standIns := [], harness := (true, "0eebcdb8b4b21f0b70f6e0c783d268ac4f9a45456890c89eec70434fca9c8fa5"), looks := true }, kinds := [], alts := [], laidByText := true, laidKinds := [.data, .data, .data, .data, .pinned], laidTests := true, laidLooks := .later }
def RulesHarderBreakMoreUptoCardSaid : Prop := Claim7.holds Tryz.pinned (.plain (OpenSpec.upto rulesHarderBreakMoreSpec)) rulesHarderBreakMoreUptoCard

/-- THE SECOND FORM's CARD OF 'etchhouselaw6.RulesTellTrue'. -/
def rulesTellTrueUptoCard : Claim7 := { stood := { row := rulesTellTrueUptoRow, standIns := [], harness := (true, "0eebcdb8b4b21f0b70f6e0c783d268ac4f9a45456890c89eec70434fca9c8fa5"), looks := true }, kinds := [], alts := [], laidByText := true, laidKinds := [.data, .data, .data, .data, .pinned], laidTests := true, laidLooks := .later }
def RulesTellTrueUptoCardSaid : Prop := Claim7.holds Tryz.pinned (.plain (OpenSpec.upto rulesTellTrueSpec)) rulesTellTrueUptoCard

/-- THE SECOND FORM's CARD OF 'etchhouselaw6.RulesFitsKeepsApart'. -/
def rulesFitsKeepsApartUptoCard : Claim7 := { stood := { row := rulesFitsKeepsApartUptoRow, standIns := [], harness := (true, "0eebcdb8b4b21f0b70f6e0c783d268ac4f9a45456890c89eec70434fca9c8fa5"), looks := true }, kinds := [], alts := [], laidByText := true, laidKinds := [.data, .data, .data, .data, .pinned], laidTests := true, laidLooks := .later }
def RulesFitsKeepsApartUptoCardSaid : Prop := Claim7.holds Tryz.pinned (.plain (OpenSpec.upto rulesFitsKeepsApartSpec)) rulesFitsKeepsApartUptoCard
end Rows
end Go.Proofs.YthjfllfhagdnpaaGreatDoor
