/-
  DERIVED. GIVEN WITH THE SEED: THE CARDS: each row of YtfloceomobknoaaGreatDoorRows.lean that lists a variable, with what it lists TIED to the program's text (the seventh form; the later family's looks); each row that meets fmt, with fmt's text TOLD by the authors' own Lean function (tested against real Go, not proved from fmt's source: count such statements apart). THE CARD IS WHAT COUNTS. Prove the row's statement (the work); the ties are given (YtfloceomobknoaaGreatDoorTie.lean); close each card by the builder's one call (the guide's Derived/Test/ToyasCard.lean, 'card_holds'). Laid BY PROGRAM, IN A SANDBOX (cutbox-door.mjs). By AI agents, Wed Nov 11 2026. No macro, syntax, notation, axiom, sorry.
-/
import Derived.Test.YtfloceomobknoaaGreatDoorRows
import GoSem.ClaimSeven
namespace Go.Proofs.YtfloceomobknoaaGreatDoor
namespace Rows

/-- THE TIED CARD OF 'etchhouselaw6.ThinMatchSpec'. -/
def thinMatchSpecCard : Claim7 := { stood := { row := thinMatchSpecRow, standIns := [], harness := (true, "48e3af88e35d18f0463f0f6533e31a9d7d152049415e281b54a3ceb82eb49d34"), looks := false }, kinds := [], alts := [], laidByText := true, laidKinds := [.data, .data, .data, .data, .pinned], laidTests := true, laidLooks := .later }
def ThinMatchSpecCardSaid : Prop := Claim7.holds Tryz.pinned (.plain (OpenSpec.ofChange thinMatchSpecSpec)) thinMatchSpecCard

/-- THE TIED CARD OF 'etchhouselaw6.RulesHolesMatchSpec'. -/
def rulesHolesMatchSpecCard : Claim7 := { stood := { row := rulesHolesMatchSpecRow, standIns := [], harness := (true, "48e3af88e35d18f0463f0f6533e31a9d7d152049415e281b54a3ceb82eb49d34"), looks := false }, kinds := [], alts := [], laidByText := true, laidKinds := [.data, .data, .data, .data, .pinned], laidTests := true, laidLooks := .later }
def RulesHolesMatchSpecCardSaid : Prop := Claim7.holds Tryz.pinned (.plain (OpenSpec.ofChange rulesHolesMatchSpecSpec)) rulesHolesMatchSpecCard

/-- THE TIED CARD OF 'etchhouselaw6.RulesRoomMatchSpec'. -/
def rulesRoomMatchSpecCard : Claim7 := { stood := { row := rulesRoomMatchSpecRow, standIns := [], harness := (true, "48e3af88e35d18f0463f0f6533e31a9d7d152049415e281b54a3ceb82eb49d34"), looks := false }, kinds := [], alts := [], laidByText := true, laidKinds := [.data, .data, .data, .data, .pinned], laidTests := true, laidLooks := .later }
def RulesRoomMatchSpecCardSaid : Prop := Claim7.holds Tryz.pinned (.plain (OpenSpec.ofChange rulesRoomMatchSpecSpec)) rulesRoomMatchSpecCard

/-- THE TIED CARD OF 'etchhouselaw6.RulesClearMatchSpec'. -/
def rulesClearMatchSpecCard : Claim7 := { stood := { row := rulesClearMatchSpecRow, standIns := [], harness := (true, "48e3af88e35d18f0463f0f6533e31a9d7d152049415e281b54a3ceb82eb49d34"), looks := false }, kinds := [], alts := [], laidByText := true, laidKinds := [.data, .data, .data, .data, .pinned], laidTests := true, laidLooks := .later }
def RulesClearMatchSpecCardSaid : Prop := Claim7.holds Tryz.pinned (.plain (OpenSpec.ofChange rulesClearMatchSpecSpec)) rulesClearMatchSpecCard

/-- THE TIED CARD OF 'etchhouselaw6.RulesAllMatchSpec'. -/
def rulesAllMatchSpecCard : Claim7 := { stood := { row := rulesAllMatchSpecRow, standIns := [], harness := (true, "48e3af88e35d18f0463f0f6533e31a9d7d152049415e281b54a3ceb82eb49d34"), looks := false }, kinds := [], alts := [], laidByText := true, laidKinds := [.data, .data, .data, .data, .pinned], laidTests := true, laidLooks := .later }
def RulesAllMatchSpecCardSaid : Prop := Claim7.holds Tryz.pinned (.plain (OpenSpec.ofChange rulesAllMatchSpecSpec)) rulesAllMatchSpecCard

/-- THE SECOND FORM's CARD OF 'etchhouselaw6.ThinMatchSpec'. -/
def thinMatchSpecUptoCard : Claim7 := { stood := { row := thinMatchSpecUptoRow, standIns := [], harness := (true, "48e3af88e35d18f0463f0f6533e31a9d7d152049415e281b54a3ceb82eb49d34"), looks := false }, kinds := [], alts := [], laidByText := true, laidKinds := [.data, .data, .data, .data, .pinned], laidTests := true, laidLooks := .later }
def ThinMatchSpecUptoCardSaid : Prop := Claim7.holds Tryz.pinned (.plain (OpenSpec.upto thinMatchSpecSpec)) thinMatchSpecUptoCard

/-- THE SECOND FORM's CARD OF 'etchhouselaw6.RulesHolesMatchSpec'. -/
def rulesHolesMatchSpecUptoCard : Claim7 := { stood := { row := rulesHolesMatchSpecUptoRow, standIns := [], harness := (true, "48e3af88e35d18f0463f0f6533e31a9d7d152049415e281b54a3ceb82eb49d34"), looks := false }, kinds := [], alts := [], laidByText := true, laidKinds := [.data, .data, .data, .data, .pinned], laidTests := true, laidLooks := .later }
def RulesHolesMatchSpecUptoCardSaid : Prop := Claim7.holds Tryz.pinned (.plain (OpenSpec.upto rulesHolesMatchSpecSpec)) rulesHolesMatchSpecUptoCard

/-- THE SECOND FORM's CARD OF 'etchhouselaw6.RulesRoomMatchSpec'. -/
def rulesRoomMatchSpecUptoCard : Claim7 := { stood := { row := rulesRoomMatchSpecUptoRow, standIns := [], harness := (true, "48e3af88e35d18f0463f0f6533e31a9d7d152049415e281b54a3ceb82eb49d34"), looks := false }, kinds := [], alts := [], laidByText := true, laidKinds := [.data, .data, .data, .data, .pinned], laidTests := true, laidLooks := .later }
def RulesRoomMatchSpecUptoCardSaid : Prop := Claim7.holds Tryz.pinned (.plain (OpenSpec.upto rulesRoomMatchSpecSpec)) rulesRoomMatchSpecUptoCard

/-- THE SECOND FORM's CARD OF 'etchhouselaw6.RulesClearMatchSpec'. -/
def rulesClearMatchSpecUptoCard : Claim7 := { stood := { row := rulesClearMatchSpecUptoRow, standIns := [], harness := (true, "48e3af88e35d18f0463f0f6533e31a9d7d152049415e281b54a3ceb82eb49d34"), looks := false }, kinds := [], alts := [], laidByText := true, laidKinds := [.data, .data, .data, .data, .pinned], laidTests := true, laidLooks := .later }
def RulesClearMatchSpecUptoCardSaid : Prop := Claim7.holds Tryz.pinned (.plain (OpenSpec.upto rulesClearMatchSpecSpec)) rulesClearMatchSpecUptoCard

/-- THE SECOND FORM's CARD OF 'etchhouselaw6.RulesAllMatchSpec'. -/
def rulesAllMatchSpecUptoCard : Claim7 := { stood := { row := rulesAllMatchSpecUptoRow, standIns := [], harness := (true, "48e3af88e35d18f0463f0f6533e31a9d7d152049415e281b54a3ceb82eb49d34"), looks := false }, kinds := [], alts := [], laidByText := true, laidKinds := [.data, .data, .data, .data, .pinned], laidTests := true, laidLooks := .later }
def RulesAllMatchSpecUptoCardSaid : Prop := Claim7.holds Tryz.pinned (.plain (OpenSpec.upto rulesAllMatchSpecSpec)) rulesAllMatchSpecUptoCard
end Rows
end Go.Proofs.YtfloceomobknoaaGreatDoor
