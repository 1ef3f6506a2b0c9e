/-
  DERIVED. GIVEN WITH THE SEED: THE CARDS: each row of YtlhdefefoaldfaaDoorRows.lean that lists a variable, with what it lists TIED to the program's text (the seventh form; the later family's looks); each row that meets fmt, with fmt's text TOLD by the authors' own Lean function (tested against real Go, not proved from fmt's source: count such statements apart). THE CARD IS WHAT COUNTS. Prove the row's statement (the work); the ties are given (YtlhdefefoaldfaaDoorTie.lean); close each card by the builder's one call (the guide's Derived/Test/ToyasCard.lean, 'card_holds'). Laid BY PROGRAM, IN A SANDBOX (cutbox-door.mjs). By AI agents, Wed Nov 11 2026. No macro, syntax, notation, axiom, sorry.
-/
import Derived.Test.YtlhdefefoaldfaaDoorRows
import GoSem.ClaimSeven
namespace Go.Proofs.YtlhdefefoaldfaaDoor
namespace Rows

/-- THE TIED CARD OF 'dactyllaw12.FormulaPrints'. -/
def formulaPrintsCard : Claim7 := { stood := { row := formulaPrintsRow, standIns := [], harness := (true, "6707be2fc4824f4165301d20f45bf25017bd487e9c264ab3853d974557109c6c"), looks := true }, kinds := [], alts := [], laidByText := true, laidKinds := [.data, .data, .data, .sentinel, .sentinel, .widerDeep], laidTests := true, laidLooks := .later }
def FormulaPrintsCardSaid : Prop := Claim7.holds Tryd.pinned (.plain (OpenSpec.ofChange formulaPrintsSpec)) formulaPrintsCard

/-- THE TIED CARD OF 'dactyllaw12.FormulaParses'. -/
def formulaParsesCard : Claim7 := { stood := { row := formulaParsesRow, standIns := [], harness := (true, "6707be2fc4824f4165301d20f45bf25017bd487e9c264ab3853d974557109c6c"), looks := true }, kinds := [], alts := [], laidByText := true, laidKinds := [.data, .data, .data, .sentinel, .sentinel, .widerDeep], laidTests := true, laidLooks := .later }
def FormulaParsesCardSaid : Prop := Claim7.holds Tryd.pinned (.plain (OpenSpec.ofChange formulaParsesSpec)) formulaParsesCard

/-- THE TIED CARD OF 'dactyllaw12.FormulaBlanks'. -/
def formulaBlanksCard : Claim7 := { stood := { row := formulaBlanksRow, standIns := [], harness := (true, "6707be2fc4824f4165301d20f45bf25017bd487e9c264ab3853d974557109c6c"), looks := true }, kinds := [], alts := [], laidByText := true, laidKinds := [.data, .data, .data, .sentinel, .sentinel, .widerDeep], laidTests := true, laidLooks := .later }
def FormulaBlanksCardSaid : Prop := Claim7.holds Tryd.pinned (.plain (OpenSpec.ofChange formulaBlanksSpec)) formulaBlanksCard

/-- THE TIED CARD OF 'dactyllaw12.FormulaNeeded'. -/
def formulaNeededCard : Claim7 := { stood := { row := formulaNeededRow, standIns := [], harness := (true, "6707be2fc4824f4165301d20f45bf25017bd487e9c264ab3853d974557109c6c"), looks := true }, kinds := [], alts := [], laidByText := true, laidKinds := [.data, .data, .data, .sentinel, .sentinel, .widerDeep], laidTests := true, laidLooks := .later }
def FormulaNeededCardSaid : Prop := Claim7.holds Tryd.pinned (.plain (OpenSpec.ofChange formulaNeededSpec)) formulaNeededCard

/-- THE TIED CARD OF 'dactyllaw12.FormulaRules'. -/
def formulaRulesCard : Claim7 := { stood := { row := formulaRulesRow, standIns := [], harness := (true, "6707be2fc4824f4165301d20f45bf25017bd487e9c264ab3853d974557109c6c"), looks := true }, kinds := [], alts := [], laidByText := true, laidKinds := [.data, .data, .data, .sentinel, .sentinel, .widerDeep], laidTests := true, laidLooks := .later }
def FormulaRulesCardSaid : Prop := Claim7.holds Tryd.pinned (.plain (OpenSpec.ofChange formulaRulesSpec)) formulaRulesCard

/-- THE TIED CARD OF 'dactyllaw12.FormulaValues'. -/
def formulaValuesCard : Claim7 := { stood := { row := formulaValuesRow, standIns := [], harness := (true, "6707be2fc4824f4165301d20f45bf25017bd487e9c264ab3853d974557109c6c"), looks := true }, kinds := [], alts := [], laidByText := true, laidKinds := [.data, .data, .data, .sentinel, .sentinel, .widerDeep], laidTests := true, laidLooks := .later }
def FormulaValuesCardSaid : Prop := Claim7.holds Tryd.pinned (.plain (OpenSpec.ofChange formulaValuesSpec)) formulaValuesCard

/-- THE TIED CARD OF 'dactyllaw12.FormulaValid'. -/
def formulaValidCard : Claim7 := { stood := { row := formulaValidRow, standIns := [], harness := (true, "6707be2fc4824f4165301d20f45bf25017bd487e9c264ab3853d974557109c6c"), looks := true }, kinds := [], alts := [], laidByText := true, laidKinds := [.data, .data, .data, .sentinel, .sentinel, .widerDeep], laidTests := true, laidLooks := .later }
def FormulaValidCardSaid : Prop := Claim7.holds Tryd.pinned (.plain (OpenSpec.ofChange formulaValidSpec)) formulaValidCard

/-- THE TIED CARD OF 'dactyllaw13.LinearText'. -/
def linearTextCard : Claim7 := { stood := { row := linearTextRow, standIns := [], harness := (true, "6707be2fc4824f4165301d20f45bf25017bd487e9c264ab3853d974557109c6c"), looks := true }, kinds := [], alts := [], laidByText := true, laidKinds := [.data, .data, .data, .sentinel, .sentinel, .widerDeep, .widerDeep, .widerDeep, .widerDeep], laidTests := true, laidLooks := .later }
def LinearTextCardSaid : Prop := Claim7.holds Tryd.pinned (.plain (OpenSpec.ofChange linearTextSpec)) linearTextCard

/-- THE TIED CARD OF 'dactyllaw13.LinearBack'. -/
def linearBackCard : Claim7 := { stood := { row := linearBackRow, standIns := [], harness := (true, "6707be2fc4824f4165301d20f45bf25017bd487e9c264ab3853d974557109c6c"), looks := true }, kinds := [], alts := [], laidByText := true, laidKinds := [.data, .data, .data, .sentinel, .sentinel, .widerDeep, .widerDeep, .widerDeep, .widerDeep], laidTests := true, laidLooks := .later }
def LinearBackCardSaid : Prop := Claim7.holds Tryd.pinned (.plain (OpenSpec.ofChange linearBackSpec)) linearBackCard

/-- THE SECOND FORM's CARD OF 'dactyllaw12.FormulaPrints'. -/
def formulaPrintsUptoCard : Claim7 := { stood := { row := formulaPrintsUptoRow, standIns := [], harness := (true, "6707be2fc4824f4165301d20f45bf25017bd487e9c264ab3853d974557109c6c"), looks := true }, kinds := [], alts := [], laidByText := true, laidKinds := [.data, .data, .data, .sentinel, .sentinel, .widerDeep], laidTests := true, laidLooks := .later }
def FormulaPrintsUptoCardSaid : Prop := Claim7.holds Tryd.pinned (.plain (OpenSpec.upto formulaPrintsSpec)) formulaPrintsUptoCard

/-- THE SECOND FORM's CARD OF 'dactyllaw12.FormulaParses'. -/
def formulaParsesUptoCard : Claim7 := { stood := { row := formulaParsesUptoRow, standIns := [], harness := (true, "6707be2fc4824f4165301d20f45bf25017bd487e9c264ab3853d974557109c6c"), looks := true }, kinds := [], alts := [], laidByText := true, laidKinds := [.data, .data, .data, .sentinel, .sentinel, .widerDeep], laidTests := true, laidLooks := .later }
def FormulaParsesUptoCardSaid : Prop := Claim7.holds Tryd.pinned (.plain (OpenSpec.upto formulaParsesSpec)) formulaParsesUptoCard

/-- THE SECOND FORM's CARD OF 'dactyllaw12.FormulaBlanks'. -/
def formulaBlanksUptoCard : Claim7 := { stood := { row := formulaBlanksUptoRow, standIns := [], harness := (true, "6707be2fc4824f4165301d20f45bf25017bd487e9c264ab3853d974557109c6c"), looks := true }, kinds := [], alts := [], laidByText := true, laidKinds := [.data, .data, .data, .sentinel, .sentinel, .widerDeep], laidTests := true, laidLooks := .later }
def FormulaBlanksUptoCardSaid : Prop := Claim7.holds Tryd.pinned (.plain (OpenSpec.upto formulaBlanksSpec)) formulaBlanksUptoCard

/-- THE SECOND FORM's CARD OF 'dactyllaw12.FormulaNeeded'. -/
def formulaNeededUptoCard : Claim7 := { stood := { row := formulaNeededUptoRow, standIns := [], harness := (true, "6707be2fc4824f4165301d20f45bf25017bd487e9c264ab3853d974557109c6c"), looks := true }, kinds := [], alts := [], laidByText := true, laidKinds := [.data, .data, .data, .sentinel, .sentinel, .widerDeep], laidTests := true, laidLooks := .later }
def FormulaNeededUptoCardSaid : Prop := Claim7.holds Tryd.pinned (.plain (OpenSpec.upto formulaNeededSpec)) formulaNeededUptoCard

/-- THE SECOND FORM's CARD OF 'dactyllaw12.FormulaRules'. -/
def formulaRulesUptoCard : Claim7 := { stood := { row := formulaRulesUptoRow, standIns := [], harness := (true, "6707be2fc4824f4165301d20f45bf25017bd487e9c264ab3853d974557109c6c"), looks := true }, kinds := [], alts := [], laidByText := true, laidKinds := [.data, .data, .data, .sentinel, .sentinel, .widerDeep], laidTests := true, laidLooks := .later }
def FormulaRulesUptoCardSaid : Prop := Claim7.holds Tryd.pinned (.plain (OpenSpec.upto formulaRulesSpec)) formulaRulesUptoCard

/-- THE SECOND FORM's CARD OF 'dactyllaw12.FormulaValues'. -/
def formulaValuesUptoCard : Claim7 := { stood := { row := formulaValuesUptoRow, standIns := [], harness := (true, "6707be2fc4824f4165301d20f45bf25017bd487e9c264ab3853d974557109c6c"), looks := true }, kinds := [], alts := [], laidByText := true, laidKinds := [.data, .data, .data, .sentinel, .sentinel, .widerDeep], laidTests := true, laidLooks := .later }
def FormulaValuesUptoCardSaid : Prop := Claim7.holds Tryd.pinned (.plain (OpenSpec.upto formulaValuesSpec)) formulaValuesUptoCard

/-- THE SECOND FORM's CARD OF 'dactyllaw12.FormulaValid'. -/
def formulaValidUptoCard : Claim7 := { stood := { row := formulaValidUptoRow, standIns := [], harness := (true, "6707be2fc4824f4165301d20f45bf25017bd487e9c264ab3853d974557109c6c"), looks := true }, kinds := [], alts := [], laidByText := true, laidKinds := [.data, .data, .data, .sentinel, .sentinel, .widerDeep], laidTests := true, laidLooks := .later }
def FormulaValidUptoCardSaid : Prop := Claim7.holds Tryd.pinned (.plain (OpenSpec.upto formulaValidSpec)) formulaValidUptoCard

/-- THE SECOND FORM's CARD OF 'dactyllaw13.LinearText'. -/
def linearTextUptoCard : Claim7 := { stood := { row := linearTextUptoRow, standIns := [], harness := (true, "6707be2fc4824f4165301d20f45bf25017bd487e9c264ab3853d974557109c6c"), looks := true }, kinds := [], alts := [], laidByText := true, laidKinds := [.data, .data, .data, .sentinel, .sentinel, .widerDeep, .widerDeep, .widerDeep, .widerDeep], laidTests := true, laidLooks := .later }
def LinearTextUptoCardSaid : Prop := Claim7.holds Tryd.pinned (.plain (OpenSpec.upto linearTextSpec)) linearTextUptoCard

/-- THE SECOND FORM's CARD OF 'dactyllaw13.LinearBack'. -/
def linearBackUptoCard : Claim7 := { stood := { row := linearBackUptoRow, standIns := [], harness := (true, "6707be2fc4824f4165301d20f45bf25017bd487e9c264ab3853d974557109c6c"), looks := true }, kinds := [], alts := [], laidByText := true, laidKinds := [.data, .data, .data, .sentinel, .sentinel, .widerDeep, .widerDeep, .widerDeep, .widerDeep], laidTests := true, laidLooks := .later }
def LinearBackUptoCardSaid : Prop := Claim7.holds Tryd.pinned (.plain (OpenSpec.upto linearBackSpec)) linearBackUptoCard
end Rows
end Go.Proofs.YtlhdefefoaldfaaDoor
