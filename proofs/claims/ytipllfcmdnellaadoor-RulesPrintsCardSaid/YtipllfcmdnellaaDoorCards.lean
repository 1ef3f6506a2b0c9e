/-
  DERIVED. GIVEN WITH THE SEED: THE CARDS: each row of YtipllfcmdnellaaDoorRows.lean that lists a variable, with what it lists TIED to the program's text (the seventh form; the later family's looks); each row that meets fmt, with fmt's text TOLD by the authors' own Lean function (tested against real Go, not proved from fmt's source: count such statements apart). THE CARD IS WHAT COUNTS. Prove the row's statement (the work); the ties are given (YtipllfcmdnellaaDoorTie.lean); close each card by the builder's one call (the guide's Derived/Test/ToyasCard.lean, 'card_holds'). Laid BY PROGRAM, IN A SANDBOX (cutbox-door.mjs). By AI agents, Wed Nov 11 2026. No macro, syntax, notation, axiom, sorry.
-/
import Derived.Test.YtipllfcmdnellaaDoorRows
import GoSem.ClaimSeven
namespace Go.Proofs.YtipllfcmdnellaaDoor
namespace Rows

/-- THE TIED CARD OF 'dactyllaw43.RulesClashes'. -/
def rulesClashesCard : Claim7 := { stood := { row := rulesClashesRow, standIns := [], harness := (true, "0764518b11a9141eb295a81dcd345d62f536ae64c430c49d148322d2b5549a05"), looks := true }, kinds := [], alts := [], laidByText := true, laidKinds := [.data, .data, .data, .sentinel, .sentinel], laidTests := true, laidLooks := .later }
def RulesClashesCardSaid : Prop := Claim7.holds Tryd.pinned (.plain (OpenSpec.ofChange rulesClashesSpec)) rulesClashesCard

/-- THE TIED CARD OF 'dactyllaw43.RulesChecked'. -/
def rulesCheckedCard : Claim7 := { stood := { row := rulesCheckedRow, standIns := [], harness := (true, "0764518b11a9141eb295a81dcd345d62f536ae64c430c49d148322d2b5549a05"), looks := true }, kinds := [], alts := [], laidByText := true, laidKinds := [.data, .data, .data, .sentinel, .sentinel], laidTests := true, laidLooks := .later }
def RulesCheckedCardSaid : Prop := Claim7.holds Tryd.pinned (.plain (OpenSpec.ofChange rulesCheckedSpec)) rulesCheckedCard

/-- THE TIED CARD OF 'dactyllaw43.RulesLeast'. -/
def rulesLeastCard : Claim7 := { stood := { row := rulesLeastRow, standIns := [], harness := (true, "0764518b11a9141eb295a81dcd345d62f536ae64c430c49d148322d2b5549a05"), looks := true }, kinds := [], alts := [], laidByText := true, laidKinds := [.data, .data, .data, .sentinel, .sentinel], laidTests := true, laidLooks := .later }
def RulesLeastCardSaid : Prop := Claim7.holds Tryd.pinned (.plain (OpenSpec.ofChange rulesLeastSpec)) rulesLeastCard

/-- THE TIED CARD OF 'dactyllaw43.RulesMore'. -/
def rulesMoreCard : Claim7 := { stood := { row := rulesMoreRow, standIns := [], harness := (true, "0764518b11a9141eb295a81dcd345d62f536ae64c430c49d148322d2b5549a05"), looks := true }, kinds := [], alts := [], laidByText := true, laidKinds := [.data, .data, .data, .sentinel, .sentinel], laidTests := true, laidLooks := .later }
def RulesMoreCardSaid : Prop := Claim7.holds Tryd.pinned (.plain (OpenSpec.ofChange rulesMoreSpec)) rulesMoreCard

/-- THE TIED CARD OF 'dactyllaw43.RulesFair'. -/
def rulesFairCard : Claim7 := { stood := { row := rulesFairRow, standIns := [], harness := (true, "0764518b11a9141eb295a81dcd345d62f536ae64c430c49d148322d2b5549a05"), looks := true }, kinds := [], alts := [], laidByText := true, laidKinds := [.data, .data, .data, .sentinel, .sentinel], laidTests := true, laidLooks := .later }
def RulesFairCardSaid : Prop := Claim7.holds Tryd.pinned (.plain (OpenSpec.ofChange rulesFairSpec)) rulesFairCard

/-- THE TIED CARD OF 'dactyllaw43.RulesPrints'. -/
def rulesPrintsCard : Claim7 := { stood := { row := rulesPrintsRow, standIns := [], harness := (true, "0764518b11a9141eb295a81dcd345d62f536ae64c430c49d148322d2b5549a05"), looks := true }, kinds := [], alts := [], laidByText := true, laidKinds := [.data, .data, .data, .sentinel, .sentinel], laidTests := true, laidLooks := .later }
def RulesPrintsCardSaid : Prop := Claim7.holds Tryd.pinned (.plain (OpenSpec.ofChange rulesPrintsSpec)) rulesPrintsCard

/-- THE SECOND FORM's CARD OF 'dactyllaw43.RulesClashes'. -/
def rulesClashesUptoCard : Claim7 := { stood := { row := rulesClashesUptoRow, standIns := [], harness := (true, "0764518b11a9141eb295a81dcd345d62f536ae64c430c49d148322d2b5549a05"), looks := true }, kinds := [], alts := [], laidByText := true, laidKinds := [.data, .data, .data, .sentinel, .sentinel], laidTests := true, laidLooks := .later }
def RulesClashesUptoCardSaid : Prop := Claim7.holds Tryd.pinned (.plain (OpenSpec.upto rulesClashesSpec)) rulesClashesUptoCard

/-- THE SECOND FORM's CARD OF 'dactyllaw43.RulesChecked'. -/
def rulesCheckedUptoCard : Claim7 := { stood := { row := rulesCheckedUptoRow, standIns := [], harness := (true, "0764518b11a9141eb295a81dcd345d62f536ae64c430c49d148322d2b5549a05"), looks := true }, kinds := [], alts := [], laidByText := true, laidKinds := [.data, .data, .data, .sentinel, .sentinel], laidTests := true, laidLooks := .later }
def RulesCheckedUptoCardSaid : Prop := Claim7.holds Tryd.pinned (.plain (OpenSpec.upto rulesCheckedSpec)) rulesCheckedUptoCard

/-- THE SECOND FORM's CARD OF 'dactyllaw43.RulesLeast'. -/
def rulesLeastUptoCard : Claim7 := { stood := { row := rulesLeastUptoRow, standIns := [], harness := (true, "0764518b11a9141eb295a81dcd345d62f536ae64c430c49d148322d2b5549a05"), looks := true }, kinds := [], alts := [], laidByText := true, laidKinds := [.data, .data, .data, .sentinel, .sentinel], laidTests := true, laidLooks := .later }
def RulesLeastUptoCardSaid : Prop := Claim7.holds Tryd.pinned (.plain (OpenSpec.upto rulesLeastSpec)) rulesLeastUptoCard

/-- THE SECOND FORM's CARD OF 'dactyllaw43.RulesMore'. -/
def rulesMoreUptoCard : Claim7 := { stood := { row := rulesMoreUptoRow, standIns := [], harness := (true, "0764518b11a9141eb295a81dcd345d62f536ae64c430c49d148322d2b5549a05"), looks := true }, kinds := [], alts := [], laidByText := true, laidKinds := [.data, .data, .data, .sentinel, .sentinel], laidTests := true, laidLooks := .later }
def RulesMoreUptoCardSaid : Prop := Claim7.holds Tryd.pinned (.plain (OpenSpec.upto rulesMoreSpec)) rulesMoreUptoCard

/-- THE SECOND FORM's CARD OF 'dactyllaw43.RulesFair'. -/
def rulesFairUptoCard : Claim7 := { stood := { row := rulesFairUptoRow, standIns := [], harness := (true, "0764518b11a9141eb295a81dcd345d62f536ae64c430c49d148322d2b5549a05"), looks := true }, kinds := [], alts := [], laidByText := true, laidKinds := [.data, .data, .data, .sentinel, .sentinel], laidTests := true, laidLooks := .later }
def RulesFairUptoCardSaid : Prop := Claim7.holds Tryd.pinned (.plain (OpenSpec.upto rulesFairSpec)) rulesFairUptoCard

/-- THE SECOND FORM's CARD OF 'dactyllaw43.RulesPrints'. -/
def rulesPrintsUptoCard : Claim7 := { stood := { row := rulesPrintsUptoRow, standIns := [], harness := (true, "0764518b11a9141eb295a81dcd345d62f536ae64c430c49d148322d2b5549a05"), looks := true }, kinds := [], alts := [], laidByText := true, laidKinds := [.data, .data, .data, .sentinel, .sentinel], laidTests := true, laidLooks := .later }
def RulesPrintsUptoCardSaid : Prop := Claim7.holds Tryd.pinned (.plain (OpenSpec.upto rulesPrintsSpec)) rulesPrintsUptoCard
end Rows
end Go.Proofs.YtipllfcmdnellaaDoor
