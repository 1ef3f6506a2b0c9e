/-
  DERIVED. GIVEN WITH THE SEED: THE CARDS: each row of YtihfefggdgiodaaGreatDoorRows.lean that lists a variable, with what it lists TIED to the program's text (the seventh form; the later family's looks); each row that meets fmt, with fmt's text TOLD by the authors' own Lean function (tested against real Go, not proved from fmt's source: count such statements apart). THE CARD IS WHAT COUNTS. Prove the row's statement (the work); the ties are given (YtihfefggdgiodaaGreatDoorTie.lean); close each card by the builder's one call (the guide's Derived/Test/ToyasCard.lean, 'card_holds'). Laid BY PROGRAM, IN A SANDBOX (cutbox-door.mjs). By AI agents, Wed Nov 11 2026. No macro, syntax, notation, axiom, sorry.
-/
import Derived.Test.YtihfefggdgiodaaGreatDoorRows
import GoSem.ClaimSeven
namespace Go.Proofs.YtihfefggdgiodaaGreatDoor
namespace Rows

/-- THE TIED CARD OF 'dactyllaw17.ListingCodes'. -/
def listingCodesCard : Claim7 := { stood := { row := listingCodesRow, standIns := [], harness := (true, "80fde9a151805a324f9ea798bf33881f27e4874d9bbe32e3d225aa794027d751"), looks := true }, kinds := [], alts := [], laidByText := true, laidKinds := [.data, .data, .data, .data, .sentinel, .sentinel, .pinned], laidTests := true, laidLooks := .later }
def ListingCodesCardSaid : Prop := Claim7.holds Tryz.pinned (.plain (OpenSpec.ofChange listingCodesSpec)) listingCodesCard

/-- THE TIED CARD OF 'dactyllaw17.ListingRows'. -/
def listingRowsCard : Claim7 := { stood := { row := listingRowsRow, standIns := [], harness := (true, "80fde9a151805a324f9ea798bf33881f27e4874d9bbe32e3d225aa794027d751"), looks := true }, kinds := [], alts := [], laidByText := true, laidKinds := [.data, .data, .data, .data, .sentinel, .sentinel, .pinned], laidTests := true, laidLooks := .later }
def ListingRowsCardSaid : Prop := Claim7.holds Tryz.pinned (.plain (OpenSpec.ofChange listingRowsSpec)) listingRowsCard

/-- THE TIED CARD OF 'dactyllaw17.ListingReads'. -/
def listingReadsCard : Claim7 := { stood := { row := listingReadsRow, standIns := [], harness := (true, "80fde9a151805a324f9ea798bf33881f27e4874d9bbe32e3d225aa794027d751"), looks := true }, kinds := [], alts := [], laidByText := true, laidKinds := [.data, .data, .data, .data, .sentinel, .sentinel, .pinned], laidTests := true, laidLooks := .later }
def ListingReadsCardSaid : Prop := Claim7.holds Tryz.pinned (.plain (OpenSpec.ofChange listingReadsSpec)) listingReadsCard

/-- THE TIED CARD OF 'dactyllaw17.ListingFewest'. -/
def listingFewestCard : Claim7 := { stood := { row := listingFewestRow, standIns := [], harness := (true, "80fde9a151805a324f9ea798bf33881f27e4874d9bbe32e3d225aa794027d751"), looks := true }, kinds := [], alts := [], laidByText := true, laidKinds := [.data, .data, .data, .data, .sentinel, .sentinel, .pinned], laidTests := true, laidLooks := .later }
def ListingFewestCardSaid : Prop := Claim7.holds Tryz.pinned (.plain (OpenSpec.ofChange listingFewestSpec)) listingFewestCard

/-- THE TIED CARD OF 'dactyllaw17.ListingLines'. -/
def listingLinesCard : Claim7 := { stood := { row := listingLinesRow, standIns := [], harness := (true, "80fde9a151805a324f9ea798bf33881f27e4874d9bbe32e3d225aa794027d751"), looks := true }, kinds := [], alts := [], laidByText := true, laidKinds := [.data, .data, .data, .data, .sentinel, .sentinel, .pinned], laidTests := true, laidLooks := .later }
def ListingLinesCardSaid : Prop := Claim7.holds Tryz.pinned (.plain (OpenSpec.ofChange listingLinesSpec)) listingLinesCard

/-- THE TIED CARD OF 'dactyllaw17.ListingBack'. -/
def listingBackCard : Claim7 := { stood := { row := listingBackRow, standIns := [], harness := (true, "80fde9a151805a324f9ea798bf33881f27e4874d9bbe32e3d225aa794027d751"), looks := true }, kinds := [], alts := [], laidByText := true, laidKinds := [.data, .data, .data, .data, .sentinel, .sentinel, .pinned], laidTests := true, laidLooks := .later }
def ListingBackCardSaid : Prop := Claim7.holds Tryz.pinned (.plain (OpenSpec.ofChange listingBackSpec)) listingBackCard

/-- THE SECOND FORM's CARD OF 'dactyllaw17.ListingCodes'. -/
def listingCodesUptoCard : Claim7 := { stood := { row := listingCodesUptoRow, standIns := [], harness := (true, "80fde9a151805a324f9ea798bf33881f27e4874d9bbe32e3d225aa794027d751"), looks := true }, kinds := [], alts := [], laidByText := true, laidKinds := [.data, .data, .data, .data, .sentinel, .sentinel, .pinned], laidTests := true, laidLooks := .later }
def ListingCodesUptoCardSaid : Prop := Claim7.holds Tryz.pinned (.plain (OpenSpec.upto listingCodesSpec)) listingCodesUptoCard

/-- THE SECOND FORM's CARD OF 'dactyllaw17.ListingRows'. -/
def listingRowsUptoCard : Claim7 := { stood := { row := listingRowsUptoRow, standIns := [], harness := (true, "80fde9a151805a324f9ea798bf33881f27e4874d9bbe32e3d225aa794027d751"), looks := true }, kinds := [], alts := [], laidByText := true, laidKinds := [.data, .data, .data, .data, .sentinel, .sentinel, .pinned], laidTests := true, laidLooks := .later }
def ListingRowsUptoCardSaid : Prop := Claim7.holds Tryz.pinned (.plain (OpenSpec.upto listingRowsSpec)) listingRowsUptoCard

/-- THE SECOND FORM's CARD OF 'dactyllaw17.ListingReads'. -/
def listingReadsUptoCard : Claim7 := { stood := { row := listingReadsUptoRow, standIns := [], harness := (true, "80fde9a151805a324f9ea798bf33881f27e4874d9bbe32e3d225aa794027d751"), looks := true }, kinds := [], alts := [], laidByText := true, laidKinds := [.data, .data, .data, .data, .sentinel, .sentinel, .pinned], laidTests := true, laidLooks := .later }
def ListingReadsUptoCardSaid : Prop := Claim7.holds Tryz.pinned (.plain (OpenSpec.upto listingReadsSpec)) listingReadsUptoCard

/-- THE SECOND FORM's CARD OF 'dactyllaw17.ListingFewest'. -/
def listingFewestUptoCard : Claim7 := { stood := { row := listingFewestUptoRow, standIns := [], harness := (true, "80fde9a151805a324f9ea798bf33881f27e4874d9bbe32e3d225aa794027d751"), looks := true }, kinds := [], alts := [], laidByText := true, laidKinds := [.data, .data, .data, .data, .sentinel, .sentinel, .pinned], laidTests := true, laidLooks := .later }
def ListingFewestUptoCardSaid : Prop := Claim7.holds Tryz.pinned (.plain (OpenSpec.upto listingFewestSpec)) listingFewestUptoCard

/-- THE SECOND FORM's CARD OF 'dactyllaw17.ListingLines'. -/
def listingLinesUptoCard : Claim7 := { stood := { row := listingLinesUptoRow, standIns := [], harness := (true, "80fde9a151805a324f9ea798bf33881f27e4874d9bbe32e3d225aa794027d751"), looks := true }, kinds := [], alts := [], laidByText := true, laidKinds := [.data, .data, .data, .data, .sentinel, .sentinel, .pinned], laidTests := true, laidLooks := .later }
def ListingLinesUptoCardSaid : Prop := Claim7.holds Tryz.pinned (.plain (OpenSpec.upto listingLinesSpec)) listingLinesUptoCard

/-- THE SECOND FORM's CARD OF 'dactyllaw17.ListingBack'. -/
def listingBackUptoCard : Claim7 := { stood := { row := listingBackUptoRow, standIns := [], harness := (true, "80fde9a151805a324f9ea798bf33881f27e4874d9bbe32e3d225aa794027d751"), looks := true }, kinds := [], alts := [], laidByText := true, laidKinds := [.data, .data, .data, .data, .sentinel, .sentinel, .pinned], laidTests := true, laidLooks := .later }
def ListingBackUptoCardSaid : Prop := Claim7.holds Tryz.pinned (.plain (OpenSpec.upto listingBackSpec)) listingBackUptoCard
end Rows
end Go.Proofs.YtihfefggdgiodaaGreatDoor
