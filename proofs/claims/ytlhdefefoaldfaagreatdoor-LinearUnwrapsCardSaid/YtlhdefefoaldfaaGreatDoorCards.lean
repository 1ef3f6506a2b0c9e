/-
  DERIVED. GIVEN WITH THE SEED: THE CARDS: each row of YtlhdefefoaldfaaGreatDoorRows.lean that lists a variable, with what it lists TIED to the program's text (the seventh form; the later family's looks); each row that meets fmt, with fmt's text TOLD by the authors' own Lean function (tested against real Go, not proved from fmt's source: count such statements apart). THE CARD IS WHAT COUNTS. Prove the row's statement (the work); the ties are given (YtlhdefefoaldfaaGreatDoorTie.lean); close each card by the builder's one call (the guide's Derived/Test/ToyasCard.lean, 'card_holds'). Laid BY PROGRAM, IN A SANDBOX (cutbox-door.mjs). By AI agents, Wed Nov 11 2026. No macro, syntax, notation, axiom, sorry.
-/
import Derived.Test.YtlhdefefoaldfaaGreatDoorRows
import GoSem.ClaimSeven
namespace Go.Proofs.YtlhdefefoaldfaaGreatDoor
namespace Rows

/-- THE TIED CARD OF 'dactyllaw13.LinearCodes'. -/
def linearCodesCard : Claim7 := { stood := { row := linearCodesRow, standIns := [], harness := (true, "485356331923648cf81233410f89ab2b708446e4050f7a6fe15e1b42e48de62a"), looks := true }, kinds := [], alts := [], laidByText := true, laidKinds := [.data, .data, .data, .sentinel, .sentinel, .widerDeep, .widerDeep, .widerDeep, .widerDeep], laidTests := true, laidLooks := .later }
def LinearCodesCardSaid : Prop := Claim7.holds Tryz.pinned (.plain (OpenSpec.ofChange linearCodesSpec)) linearCodesCard

/-- THE TIED CARD OF 'dactyllaw13.LinearReads'. -/
def linearReadsCard : Claim7 := { stood := { row := linearReadsRow, standIns := [], harness := (true, "485356331923648cf81233410f89ab2b708446e4050f7a6fe15e1b42e48de62a"), looks := true }, kinds := [], alts := [], laidByText := true, laidKinds := [.data, .data, .data, .sentinel, .sentinel, .widerDeep, .widerDeep, .widerDeep, .widerDeep], laidTests := true, laidLooks := .later }
def LinearReadsCardSaid : Prop := Claim7.holds Tryz.pinned (.plain (OpenSpec.ofChange linearReadsSpec)) linearReadsCard

/-- THE TIED CARD OF 'dactyllaw13.LinearWraps'. -/
def linearWrapsCard : Claim7 := { stood := { row := linearWrapsRow, standIns := [], harness := (true, "485356331923648cf81233410f89ab2b708446e4050f7a6fe15e1b42e48de62a"), looks := true }, kinds := [], alts := [], laidByText := true, laidKinds := [.data, .data, .data, .sentinel, .sentinel, .widerDeep, .widerDeep, .widerDeep, .widerDeep], laidTests := true, laidLooks := .later }
def LinearWrapsCardSaid : Prop := Claim7.holds Tryz.pinned (.plain (OpenSpec.ofChange linearWrapsSpec)) linearWrapsCard

/-- THE TIED CARD OF 'dactyllaw13.LinearUnwraps'. -/
def linearUnwrapsCard : Claim7 := { stood := { row := linearUnwrapsRow, standIns := [], harness := (true, "485356331923648cf81233410f89ab2b708446e4050f7a6fe15e1b42e48de62a"), looks := true }, kinds := [], alts := [], laidByText := true, laidKinds := [.data, .data, .data, .sentinel, .sentinel, .widerDeep, .widerDeep, .widerDeep, .widerDeep], laidTests := true, laidLooks := .later }
def LinearUnwrapsCardSaid : Prop := Claim7.holds Tryz.pinned (.plain (OpenSpec.ofChange linearUnwrapsSpec)) linearUnwrapsCard

/-- THE TIED CARD OF 'dactyllaw13.LinearFewest'. -/
def linearFewestCard : Claim7 := { stood := { row := linearFewestRow, standIns := [], harness := (true, "485356331923648cf81233410f89ab2b708446e4050f7a6fe15e1b42e48de62a"), looks := true }, kinds := [], alts := [], laidByText := true, laidKinds := [.data, .data, .data, .sentinel, .sentinel, .widerDeep, .widerDeep, .widerDeep, .widerDeep], laidTests := true, laidLooks := .later }
def LinearFewestCardSaid : Prop := Claim7.holds Tryz.pinned (.plain (OpenSpec.ofChange linearFewestSpec)) linearFewestCard

/-- THE SECOND FORM's CARD OF 'dactyllaw13.LinearCodes'. -/
def linearCodesUptoCard : Claim7 := { stood := { row := linearCodesUptoRow, standIns := [], harness := (true, "485356331923648cf81233410f89ab2b708446e4050f7a6fe15e1b42e48de62a"), looks := true }, kinds := [], alts := [], laidByText := true, laidKinds := [.data, .data, .data, .sentinel, .sentinel, .widerDeep, .widerDeep, .widerDeep, .widerDeep], laidTests := true, laidLooks := .later }
def LinearCodesUptoCardSaid : Prop := Claim7.holds Tryz.pinned (.plain (OpenSpec.upto linearCodesSpec)) linearCodesUptoCard

/-- THE SECOND FORM's CARD OF 'dactyllaw13.LinearReads'. -/
def linearReadsUptoCard : Claim7 := { stood := { row := linearReadsUptoRow, standIns := [], harness := (true, "485356331923648cf81233410f89ab2b708446e4050f7a6fe15e1b42e48de62a"), looks := true }, kinds := [], alts := [], laidByText := true, laidKinds := [.data, .data, .data, .sentinel, .sentinel, .widerDeep, .widerDeep, .widerDeep, .widerDeep], laidTests := true, laidLooks := .later }
def LinearReadsUptoCardSaid : Prop := Claim7.holds Tryz.pinned (.plain (OpenSpec.upto linearReadsSpec)) linearReadsUptoCard

/-- THE SECOND FORM's CARD OF 'dactyllaw13.LinearWraps'. -/
def linearWrapsUptoCard : Claim7 := { stood := { row := linearWrapsUptoRow, standIns := [], harness := (true, "485356331923648cf81233410f89ab2b708446e4050f7a6fe15e1b42e48de62a"), looks := true }, kinds := [], alts := [], laidByText := true, laidKinds := [.data, .data, .data, .sentinel, .sentinel, .widerDeep, .widerDeep, .widerDeep, .widerDeep], laidTests := true, laidLooks := .later }
def LinearWrapsUptoCardSaid : Prop := Claim7.holds Tryz.pinned (.plain (OpenSpec.upto linearWrapsSpec)) linearWrapsUptoCard

/-- THE SECOND FORM's CARD OF 'dactyllaw13.LinearUnwraps'. -/
def linearUnwrapsUptoCard : Claim7 := { stood := { row := linearUnwrapsUptoRow, standIns := [], harness := (true, "485356331923648cf81233410f89ab2b708446e4050f7a6fe15e1b42e48de62a"), looks := true }, kinds := [], alts := [], laidByText := true, laidKinds := [.data, .data, .data, .sentinel, .sentinel, .widerDeep, .widerDeep, .widerDeep, .widerDeep], laidTests := true, laidLooks := .later }
def LinearUnwrapsUptoCardSaid : Prop := Claim7.holds Tryz.pinned (.plain (OpenSpec.upto linearUnwrapsSpec)) linearUnwrapsUptoCard

/-- THE SECOND FORM's CARD OF 'dactyllaw13.LinearFewest'. -/
def linearFewestUptoCard : Claim7 := { stood := { row := linearFewestUptoRow, standIns := [], harness := (true, "485356331923648cf81233410f89ab2b708446e4050f7a6fe15e1b42e48de62a"), looks := true }, kinds := [], alts := [], laidByText := true, laidKinds := [.data, .data, .data, .sentinel, .sentinel, .widerDeep, .widerDeep, .widerDeep, .widerDeep], laidTests := true, laidLooks := .later }
def LinearFewestUptoCardSaid : Prop := Claim7.holds Tryz.pinned (.plain (OpenSpec.upto linearFewestSpec)) linearFewestUptoCard
end Rows
end Go.Proofs.YtlhdefefoaldfaaGreatDoor
