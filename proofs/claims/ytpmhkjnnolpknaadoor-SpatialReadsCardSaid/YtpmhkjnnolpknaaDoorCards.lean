/-
  DERIVED. GIVEN WITH THE SEED: THE CARDS: each row of YtpmhkjnnolpknaaDoorRows.lean that lists a variable, with what it lists TIED to the program's text (the seventh form; the later family's looks); each row that meets fmt, with fmt's text TOLD by the authors' own Lean function (tested against real Go, not proved from fmt's source: count such statements apart). THE CARD IS WHAT COUNTS. Prove the row's statement (the work); the ties are given (YtpmhkjnnolpknaaDoorTie.lean); close each card by the builder's one call (the guide's Derived/Test/ToyasCard.lean, 'card_holds'). Laid BY PROGRAM, IN A SANDBOX (cutbox-door.mjs). By AI agents, Wed Nov 11 2026. No macro, syntax, notation, axiom, sorry.
-/
import Derived.Test.YtpmhkjnnolpknaaDoorRows
import GoSem.ClaimSeven
namespace Go.Proofs.YtpmhkjnnolpknaaDoor
namespace Rows

/-- THE TIED CARD OF 'dactyllaw14.SpatialResults'. -/
def spatialResultsCard : Claim7 := { stood := { row := spatialResultsRow, standIns := [], harness := (true, "a8b5bac75da10e16d864321ceeee8925159847d1114d0e4dacac1e8355d4429e"), looks := true }, kinds := [], alts := [], laidByText := true, laidKinds := [.data, .data, .data, .sentinel, .sentinel], laidTests := true, laidLooks := .later }
def SpatialResultsCardSaid : Prop := Claim7.holds Tryd.pinned (.plain (OpenSpec.ofChange spatialResultsSpec)) spatialResultsCard

/-- THE TIED CARD OF 'dactyllaw14.SpatialLayouts'. -/
def spatialLayoutsCard : Claim7 := { stood := { row := spatialLayoutsRow, standIns := [], harness := (true, "a8b5bac75da10e16d864321ceeee8925159847d1114d0e4dacac1e8355d4429e"), looks := true }, kinds := [], alts := [], laidByText := true, laidKinds := [.data, .data, .data, .sentinel, .sentinel], laidTests := true, laidLooks := .later }
def SpatialLayoutsCardSaid : Prop := Claim7.holds Tryd.pinned (.plain (OpenSpec.ofChange spatialLayoutsSpec)) spatialLayoutsCard

/-- THE TIED CARD OF 'dactyllaw14.SpatialColumns'. -/
def spatialColumnsCard : Claim7 := { stood := { row := spatialColumnsRow, standIns := [], harness := (true, "a8b5bac75da10e16d864321ceeee8925159847d1114d0e4dacac1e8355d4429e"), looks := true }, kinds := [], alts := [], laidByText := true, laidKinds := [.data, .data, .data, .sentinel, .sentinel], laidTests := true, laidLooks := .later }
def SpatialColumnsCardSaid : Prop := Claim7.holds Tryd.pinned (.plain (OpenSpec.ofChange spatialColumnsSpec)) spatialColumnsCard

/-- THE TIED CARD OF 'dactyllaw14.SpatialAgain'. -/
def spatialAgainCard : Claim7 := { stood := { row := spatialAgainRow, standIns := [], harness := (true, "a8b5bac75da10e16d864321ceeee8925159847d1114d0e4dacac1e8355d4429e"), looks := true }, kinds := [], alts := [], laidByText := true, laidKinds := [.data, .data, .data, .sentinel, .sentinel], laidTests := true, laidLooks := .later }
def SpatialAgainCardSaid : Prop := Claim7.holds Tryd.pinned (.plain (OpenSpec.ofChange spatialAgainSpec)) spatialAgainCard

/-- THE TIED CARD OF 'dactyllaw14.SpatialReads'. -/
def spatialReadsCard : Claim7 := { stood := { row := spatialReadsRow, standIns := [], harness := (true, "a8b5bac75da10e16d864321ceeee8925159847d1114d0e4dacac1e8355d4429e"), looks := true }, kinds := [], alts := [], laidByText := true, laidKinds := [.data, .data, .data, .sentinel, .sentinel], laidTests := true, laidLooks := .later }
def SpatialReadsCardSaid : Prop := Claim7.holds Tryd.pinned (.plain (OpenSpec.ofChange spatialReadsSpec)) spatialReadsCard

/-- THE TIED CARD OF 'dactyllaw14.SpatialWrong'. -/
def spatialWrongCard : Claim7 := { stood := { row := spatialWrongRow, standIns := [], harness := (true, "a8b5bac75da10e16d864321ceeee8925159847d1114d0e4dacac1e8355d4429e"), looks := true }, kinds := [], alts := [], laidByText := true, laidKinds := [.data, .data, .data, .sentinel, .sentinel], laidTests := true, laidLooks := .later }
def SpatialWrongCardSaid : Prop := Claim7.holds Tryd.pinned (.plain (OpenSpec.ofChange spatialWrongSpec)) spatialWrongCard

/-- THE TIED CARD OF 'dactyllaw14.SpatialBack'. -/
def spatialBackCard : Claim7 := { stood := { row := spatialBackRow, standIns := [], harness := (true, "a8b5bac75da10e16d864321ceeee8925159847d1114d0e4dacac1e8355d4429e"), looks := true }, kinds := [], alts := [], laidByText := true, laidKinds := [.data, .data, .data, .sentinel, .sentinel], laidTests := true, laidLooks := .later }
def SpatialBackCardSaid : Prop := Claim7.holds Tryd.pinned (.plain (OpenSpec.ofChange spatialBackSpec)) spatialBackCard

/-- THE SECOND FORM's CARD OF 'dactyllaw14.SpatialResults'. -/
def spatialResultsUptoCard : Claim7 := { stood := { row := spatialResultsUptoRow, standIns := [], harness := (true, "a8b5bac75da10e16d864321ceeee8925159847d1114d0e4dacac1e8355d4429e"), looks := true }, kinds := [], alts := [], laidByText := true, laidKinds := [.data, .data, .data, .sentinel, .sentinel], laidTests := true, laidLooks := .later }
def SpatialResultsUptoCardSaid : Prop := Claim7.holds Tryd.pinned (.plain (OpenSpec.upto spatialResultsSpec)) spatialResultsUptoCard

/-- THE SECOND FORM's CARD OF 'dactyllaw14.SpatialLayouts'. -/
def spatialLayoutsUptoCard : Claim7 := { stood := { row := spatialLayoutsUptoRow, standIns := [], harness := (true, "a8b5bac75da10e16d864321ceeee8925159847d1114d0e4dacac1e8355d4429e"), looks := true }, kinds := [], alts := [], laidByText := true, laidKinds := [.data, .data, .data, .sentinel, .sentinel], laidTests := true, laidLooks := .later }
def SpatialLayoutsUptoCardSaid : Prop := Claim7.holds Tryd.pinned (.plain (OpenSpec.upto spatialLayoutsSpec)) spatialLayoutsUptoCard

/-- THE SECOND FORM's CARD OF 'dactyllaw14.SpatialColumns'. -/
def spatialColumnsUptoCard : Claim7 := { stood := { row := spatialColumnsUptoRow, standIns := [], harness := (true, "a8b5bac75da10e16d864321ceeee8925159847d1114d0e4dacac1e8355d4429e"), looks := true }, kinds := [], alts := [], laidByText := true, laidKinds := [.data, .data, .data, .sentinel, .sentinel], laidTests := true, laidLooks := .later }
def SpatialColumnsUptoCardSaid : Prop := Claim7.holds Tryd.pinned (.plain (OpenSpec.upto spatialColumnsSpec)) spatialColumnsUptoCard

/-- THE SECOND FORM's CARD OF 'dactyllaw14.SpatialAgain'. -/
def spatialAgainUptoCard : Claim7 := { stood := { row := spatialAgainUptoRow, standIns := [], harness := (true, "a8b5bac75da10e16d864321ceeee8925159847d1114d0e4dacac1e8355d4429e"), looks := true }, kinds := [], alts := [], laidByText := true, laidKinds := [.data, .data, .data, .sentinel, .sentinel], laidTests := true, laidLooks := .later }
def SpatialAgainUptoCardSaid : Prop := Claim7.holds Tryd.pinned (.plain (OpenSpec.upto spatialAgainSpec)) spatialAgainUptoCard

/-- THE SECOND FORM's CARD OF 'dactyllaw14.SpatialReads'. -/
def spatialReadsUptoCard : Claim7 := { stood := { row := spatialReadsUptoRow, standIns := [], harness := (true, "a8b5bac75da10e16d864321ceeee8925159847d1114d0e4dacac1e8355d4429e"), looks := true }, kinds := [], alts := [], laidByText := true, laidKinds := [.data, .data, .data, .sentinel, .sentinel], laidTests := true, laidLooks := .later }
def SpatialReadsUptoCardSaid : Prop := Claim7.holds Tryd.pinned (.plain (OpenSpec.upto spatialReadsSpec)) spatialReadsUptoCard

/-- THE SECOND FORM's CARD OF 'dactyllaw14.SpatialWrong'. -/
def spatialWrongUptoCard : Claim7 := { stood := { row := spatialWrongUptoRow, standIns := [], harness := (true, "a8b5bac75da10e16d864321ceeee8925159847d1114d0e4dacac1e8355d4429e"), looks := true }, kinds := [], alts := [], laidByText := true, laidKinds := [.data, .data, .data, .sentinel, .sentinel], laidTests := true, laidLooks := .later }
def SpatialWrongUptoCardSaid : Prop := Claim7.holds Tryd.pinned (.plain (OpenSpec.upto spatialWrongSpec)) spatialWrongUptoCard

/-- THE SECOND FORM's CARD OF 'dactyllaw14.SpatialBack'. -/
def spatialBackUptoCard : Claim7 := { stood := { row := spatialBackUptoRow, standIns := [], harness := (true, "a8b5bac75da10e16d864321ceeee8925159847d1114d0e4dacac1e8355d4429e"), looks := true }, kinds := [], alts := [], laidByText := true, laidKinds := [.data, .data, .data, .sentinel, .sentinel], laidTests := true, laidLooks := .later }
def SpatialBackUptoCardSaid : Prop := Claim7.holds Tryd.pinned (.plain (OpenSpec.upto spatialBackSpec)) spatialBackUptoCard
end Rows
end Go.Proofs.YtpmhkjnnolpknaaDoor
