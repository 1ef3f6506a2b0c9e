/-
  No cell of these rows narrows 'for every input' (looked for: loops, veiled, ifaces, maps, wideKeys, modest, calm, conditions, laid).
  DERIVED. THE GIVEN ROWS OF THIS SEAT. 13 by the template 'for every input the law returns true; each argument reads behind the call as it read before'; 0 by the template 'total and deterministic' (their statements: YtokdclbfjlnnjaaTotals.lean).
  GIVEN WITH THE SEED: the statements are not yours to turn. If you find one false, say at which input.
  Laid BY PROGRAM, IN A SANDBOX (cutbox-rows.mjs): the forced cells as the released guide's own fill.sh prints them over the translation 2062874e3714ccaa… (all of the seat's roots in one cut). By AI agents, Wed Nov 11 2026. No macro, syntax, notation, axiom, sorry.
-/
import Derived.Test.YtokdclbfjlnnjaaChecked
import GoSem.Claim
import GoSem.ClaimJoined
import GoSem.ClaimMapViews
import Derived.JoinedTies
import Derived.KernelRfl
namespace Go.Proofs.Ytokdclbfjlnnjaa
/- THE CELL 'sum', in the pinned program and in every row, IS THE sha256 OF THE DUMP (.gsa) THAT YtokdclbfjlnnjaaProg.lean LOADS. Nothing in Lean hashes anything: it is a label: what it is worth is what the hold of that sum in a sandbox is worth. -/
noncomputable def Try.pinned : Pinned := { name := "ytokdclbfjlnnjaa", sum := "2062874e3714ccaace119693900465940c829ed6aad0da0402b0fb5066a8f5e5", checked := Try.checked }
namespace Rows
def none {H : Type} : Left H := { results := [], args := [] }

/-- 'dactyllaw21.SheetsSplits': WHATEVER THE INPUT: true; the input reads as it did. -/
def sheetsSplitsSpec : ChangeSpec := { name := "sheetsSplits", fn := fun _ => fun
  | [d1, d2, d3, d4, d5] => { results := [.lit (.bool true)], args := [d1, d2, d3, d4, d5] }
  | _ => none }
def sheetsSplitsRow : OpenClaim := { program := "ytokdclbfjlnnjaa", sum := "2062874e3714ccaace119693900465940c829ed6aad0da0402b0fb5066a8f5e5", func := "dactyl/dactyllaw21.SheetsSplits", spec := "sheetsSplits", unfollowed := true, recurses := true, apart := false }
def SheetsSplitsSaid : Prop := sheetsSplitsRow.holds Try.pinned (OpenSpec.ofChange sheetsSplitsSpec)

/-- ITS FALSE NEIGHBOUR: 'it returns false'. Refute it at one input. -/
def sheetsSplitsWrong : ChangeSpec := { name := "sheetsSplits", fn := fun _ => fun
  | [d1, d2, d3, d4, d5] => { results := [.lit (.bool false)], args := [d1, d2, d3, d4, d5] }
  | _ => none }
def SheetsSplitsWrongFalsely : Prop := sheetsSplitsRow.holds Try.pinned (OpenSpec.ofChange sheetsSplitsWrong)

/-- 'dactyllaw21.SheetsChecks': WHATEVER THE INPUT: true; the input reads as it did. -/
def sheetsChecksSpec : ChangeSpec := { name := "sheetsChecks", fn := fun _ => fun
  | [d1, d2, d3, d4, d5, d6] => { results := [.lit (.bool true)], args := [d1, d2, d3, d4, d5, d6] }
  | _ => none }
def sheetsChecksRow : OpenClaim := { program := "ytokdclbfjlnnjaa", sum := "2062874e3714ccaace119693900465940c829ed6aad0da0402b0fb5066a8f5e5", func := "dactyl/dactyllaw21.SheetsChecks", spec := "sheetsChecks", unfollowed := true, recurses := true, apart := false }
def SheetsChecksSaid : Prop := sheetsChecksRow.holds Try.pinned (OpenSpec.ofChange sheetsChecksSpec)

/-- ITS FALSE NEIGHBOUR: 'it returns false'. Refute it at one input. -/
def sheetsChecksWrong : ChangeSpec := { name := "sheetsChecks", fn := fun _ => fun
  | [d1, d2, d3, d4, d5, d6] => { results := [.lit (.bool false)], args := [d1, d2, d3, d4, d5, d6] }
  | _ => none }
def SheetsChecksWrongFalsely : Prop := sheetsChecksRow.holds Try.pinned (OpenSpec.ofChange sheetsChecksWrong)

/-- 'dactyllaw21.SheetsFewest': WHATEVER THE INPUT: true; the input reads as it did. -/
def sheetsFewestSpec : ChangeSpec := { name := "sheetsFewest", fn := fun _ => fun
  | [d1, d2] => { results := [.lit (.bool true)], args := [d1, d2] }
  | _ => none }
def sheetsFewestRow : OpenClaim := { program := "ytokdclbfjlnnjaa", sum := "2062874e3714ccaace119693900465940c829ed6aad0da0402b0fb5066a8f5e5", func := "dactyl/dactyllaw21.SheetsFewest", spec := "sheetsFewest", unfollowed := true, recurses := true, apart := false }
def SheetsFewestSaid : Prop := sheetsFewestRow.holds Try.pinned (OpenSpec.ofChange sheetsFewestSpec)

/-- ITS FALSE NEIGHBOUR: 'it returns false'. Refute it at one input. -/
def sheetsFewestWrong : ChangeSpec := { name := "sheetsFewest", fn := fun _ => fun
  | [d1, d2] => { results := [.lit (.bool false)], args := [d1, d2] }
  | _ => none }
def SheetsFewestWrongFalsely : Prop := sheetsFewestRow.holds Try.pinned (OpenSpec.ofChange sheetsFewestWrong)

/-- 'dactyllaw21.SheetsMoved': WHATEVER THE INPUT: true; the input reads as it did. -/
def sheetsMovedSpec : ChangeSpec := { name := "sheetsMoved", fn := fun _ => fun
  | [d1, d2, d3] => { results := [.lit (.bool true)], args := [d1, d2, d3] }
  | _ => none }
def sheetsMovedRow : OpenClaim := { program := "ytokdclbfjlnnjaa", sum := "2062874e3714ccaace119693900465940c829ed6aad0da0402b0fb5066a8f5e5", func := "dactyl/dactyllaw21.SheetsMoved", spec := "sheetsMoved", unfollowed := true, recurses := true, apart := false }
def SheetsMovedSaid : Prop := sheetsMovedRow.holds Try.pinned (OpenSpec.ofChange sheetsMovedSpec)

/-- ITS FALSE NEIGHBOUR: 'it returns false'. Refute it at one input. -/
def sheetsMovedWrong : ChangeSpec := { name := "sheetsMoved", fn := fun _ => fun
  | [d1, d2, d3] => { results := [.lit (.bool false)], args := [d1, d2, d3] }
  | _ => none }
def SheetsMovedWrongFalsely : Prop := sheetsMovedRow.holds Try.pinned (OpenSpec.ofChange sheetsMovedWrong)

/-- 'dactyllaw18.PlaneDistance': WHATEVER THE INPUT: true; the input reads as it did. -/
def planeDistanceSpec : ChangeSpec := { name := "planeDistance", fn := fun _ => fun
  | [d1, d2] => { results := [.lit (.bool true)], args := [d1, d2] }
  | _ => none }
def planeDistanceRow : OpenClaim := { program := "ytokdclbfjlnnjaa", sum := "2062874e3714ccaace119693900465940c829ed6aad0da0402b0fb5066a8f5e5", func := "dactyl/dactyllaw18.PlaneDistance", spec := "planeDistance", unfollowed := true, recurses := true, apart := false }
def PlaneDistanceSaid : Prop := planeDistanceRow.holds Try.pinned (OpenSpec.ofChange planeDistanceSpec)

/-- ITS FALSE NEIGHBOUR: 'it returns false'. Refute it at one input. -/
def planeDistanceWrong : ChangeSpec := { name := "planeDistance", fn := fun _ => fun
  | [d1, d2] => { results := [.lit (.bool false)], args := [d1, d2] }
  | _ => none }
def PlaneDistanceWrongFalsely : Prop := planeDistanceRow.holds Try.pinned (OpenSpec.ofChange planeDistanceWrong)

/-- 'dactyllaw18.PlaneTells': WHATEVER THE INPUT: true; the input reads as it did. -/
def planeTellsSpec : ChangeSpec := { name := "planeTells", fn := fun _ => fun
  | [d1, d2] => { results := [.lit (.bool true)], args := [d1, d2] }
  | _ => none }
def planeTellsRow : OpenClaim := { program := "ytokdclbfjlnnjaa", sum := "2062874e3714ccaace119693900465940c829ed6aad0da0402b0fb5066a8f5e5", func := "dactyl/dactyllaw18.PlaneTells", spec := "planeTells", unfollowed := true, recurses := true, apart := false }
def PlaneTellsSaid : Prop := planeTellsRow.holds Try.pinned (OpenSpec.ofChange planeTellsSpec)

/-- ITS FALSE NEIGHBOUR: 'it returns false'. Refute it at one input. -/
def planeTellsWrong : ChangeSpec := { name := "planeTells", fn := fun _ => fun
  | [d1, d2] => { results := [.lit (.bool false)], args := [d1, d2] }
  | _ => none }
def PlaneTellsWrongFalsely : Prop := planeTellsRow.holds Try.pinned (OpenSpec.ofChange planeTellsWrong)

/-- 'dactyllaw18.PlaneOrders': WHATEVER THE INPUT: true; the input reads as it did. -/
def planeOrdersSpec : ChangeSpec := { name := "planeOrders", fn := fun _ => fun
  | [d] => { results := [.lit (.bool true)], args := [d] }
  | _ => none }
def planeOrdersRow : OpenClaim := { program := "ytokdclbfjlnnjaa", sum := "2062874e3714ccaace119693900465940c829ed6aad0da0402b0fb5066a8f5e5", func := "dactyl/dactyllaw18.PlaneOrders", spec := "planeOrders", unfollowed := true, recurses := true, apart := false }
def PlaneOrdersSaid : Prop := planeOrdersRow.holds Try.pinned (OpenSpec.ofChange planeOrdersSpec)

/-- ITS FALSE NEIGHBOUR: 'it returns false'. Refute it at one input. -/
def planeOrdersWrong : ChangeSpec := { name := "planeOrders", fn := fun _ => fun
  | [d] => { results := [.lit (.bool false)], args := [d] }
  | _ => none }
def PlaneOrdersWrongFalsely : Prop := planeOrdersRow.holds Try.pinned (OpenSpec.ofChange planeOrdersWrong)

/-- 'dactyllaw18.PlaneMoved': WHATEVER THE INPUT: true; the input reads as it did. -/
def planeMovedSpec : ChangeSpec := { name := "planeMoved", fn := fun _ => fun
  | [d1, d2, d3, d4] => { results := [.lit (.bool true)], args := [d1, d2, d3, d4] }
  | _ => none }
def planeMovedRow : OpenClaim := { program := "ytokdclbfjlnnjaa", sum := "2062874e3714ccaace119693900465940c829ed6aad0da0402b0fb5066a8f5e5", func := "dactyl/dactyllaw18.PlaneMoved", spec := "planeMoved", unfollowed := true, recurses := true, apart := false }
def PlaneMovedSaid : Prop := planeMovedRow.holds Try.pinned (OpenSpec.ofChange planeMovedSpec)

/-- ITS FALSE NEIGHBOUR: 'it returns false'. Refute it at one input. -/
def planeMovedWrong : ChangeSpec := { name := "planeMoved", fn := fun _ => fun
  | [d1, d2, d3, d4] => { results := [.lit (.bool false)], args := [d1, d2, d3, d4] }
  | _ => none }
def PlaneMovedWrongFalsely : Prop := planeMovedRow.holds Try.pinned (OpenSpec.ofChange planeMovedWrong)

/-- 'dactyllaw18.PlaneValid': WHATEVER THE INPUT: true; the input reads as it did. -/
def planeValidSpec : ChangeSpec := { name := "planeValid", fn := fun _ => fun
  | [d1, d2, d3, d4, d5] => { results := [.lit (.bool true)], args := [d1, d2, d3, d4, d5] }
  | _ => none }
def planeValidRow : OpenClaim := { program := "ytokdclbfjlnnjaa", sum := "2062874e3714ccaace119693900465940c829ed6aad0da0402b0fb5066a8f5e5", func := "dactyl/dactyllaw18.PlaneValid", spec := "planeValid", unfollowed := true, recurses := true, apart := false }
def PlaneValidSaid : Prop := planeValidRow.holds Try.pinned (OpenSpec.ofChange planeValidSpec)

/-- ITS FALSE NEIGHBOUR: 'it returns false'. Refute it at one input. -/
def planeValidWrong : ChangeSpec := { name := "planeValid", fn := fun _ => fun
  | [d1, d2, d3, d4, d5] => { results := [.lit (.bool false)], args := [d1, d2, d3, d4, d5] }
  | _ => none }
def PlaneValidWrongFalsely : Prop := planeValidRow.holds Try.pinned (OpenSpec.ofChange planeValidWrong)

/-- 'dactyllaw18.PlaneHolds': WHATEVER THE INPUT: true; the input reads as it did. -/
def planeHoldsSpec : ChangeSpec := { name := "planeHolds", fn := fun _ => fun
  | [d1, d2, d3, d4, d5] => { results := [.lit (.bool true)], args := [d1, d2, d3, d4, d5] }
  | _ => none }
def planeHoldsRow : OpenClaim := { program := "ytokdclbfjlnnjaa", sum := "2062874e3714ccaace119693900465940c829ed6aad0da0402b0fb5066a8f5e5", func := "dactyl/dactyllaw18.PlaneHolds", spec := "planeHolds", unfollowed := true, recurses := true, apart := false }
def PlaneHoldsSaid : Prop := planeHoldsRow.holds Try.pinned (OpenSpec.ofChange planeHoldsSpec)

/-- ITS FALSE NEIGHBOUR: 'it returns false'. Refute it at one input. -/
def planeHoldsWrong : ChangeSpec := { name := "planeHolds", fn := fun _ => fun
  | [d1, d2, d3, d4, d5] => { results := [.lit (.bool false)], args := [d1, d2, d3, d4, d5] }
  | _ => none }
def PlaneHoldsWrongFalsely : Prop := planeHoldsRow.holds Try.pinned (OpenSpec.ofChange planeHoldsWrong)

/-- 'dactyllaw21.SheetsCuts': WHATEVER THE INPUT: true; the input reads as it did. -/
def sheetsCutsSpec : ChangeSpec := { name := "sheetsCuts", fn := fun _ => fun
  | [d1, d2, d3, d4, d5] => { results := [.lit (.bool true)], args := [d1, d2, d3, d4, d5] }
  | _ => none }
def sheetsCutsRow : OpenClaim := { program := "ytokdclbfjlnnjaa", sum := "2062874e3714ccaace119693900465940c829ed6aad0da0402b0fb5066a8f5e5", func := "dactyl/dactyllaw21.SheetsCuts", spec := "sheetsCuts", unfollowed := true, recurses := true, apart := false }
def SheetsCutsSaid : Prop := sheetsCutsRow.holds Try.pinned (OpenSpec.ofChange sheetsCutsSpec)

/-- ITS FALSE NEIGHBOUR: 'it returns false'. Refute it at one input. -/
def sheetsCutsWrong : ChangeSpec := { name := "sheetsCuts", fn := fun _ => fun
  | [d1, d2, d3, d4, d5] => { results := [.lit (.bool false)], args := [d1, d2, d3, d4, d5] }
  | _ => none }
def SheetsCutsWrongFalsely : Prop := sheetsCutsRow.holds Try.pinned (OpenSpec.ofChange sheetsCutsWrong)

/-- 'dactyllaw21.SheetsJoins': WHATEVER THE INPUT: true; the input reads as it did. -/
def sheetsJoinsSpec : ChangeSpec := { name := "sheetsJoins", fn := fun _ => fun
  | [d1, d2, d3, d4, d5] => { results := [.lit (.bool true)], args := [d1, d2, d3, d4, d5] }
  | _ => none }
def sheetsJoinsRow : OpenClaim := { program := "ytokdclbfjlnnjaa", sum := "2062874e3714ccaace119693900465940c829ed6aad0da0402b0fb5066a8f5e5", func := "dactyl/dactyllaw21.SheetsJoins", spec := "sheetsJoins", unfollowed := true, recurses := true, apart := false }
def SheetsJoinsSaid : Prop := sheetsJoinsRow.holds Try.pinned (OpenSpec.ofChange sheetsJoinsSpec)

/-- ITS FALSE NEIGHBOUR: 'it returns false'. Refute it at one input. -/
def sheetsJoinsWrong : ChangeSpec := { name := "sheetsJoins", fn := fun _ => fun
  | [d1, d2, d3, d4, d5] => { results := [.lit (.bool false)], args := [d1, d2, d3, d4, d5] }
  | _ => none }
def SheetsJoinsWrongFalsely : Prop := sheetsJoinsRow.holds Try.pinned (OpenSpec.ofChange sheetsJoinsWrong)

/-- 'dactyllaw21.SheetsFacts': WHATEVER THE INPUT: true; the input reads as it did. -/
def sheetsFactsSpec : ChangeSpec := { name := "sheetsFacts", fn := fun _ => fun
  | [d1, d2] => { results := [.lit (.bool true)], args := [d1, d2] }
  | _ => none }
def sheetsFactsRow : OpenClaim := { program := "ytokdclbfjlnnjaa", sum := "2062874e3714ccaace119693900465940c829ed6aad0da0402b0fb5066a8f5e5", func := "dactyl/dactyllaw21.SheetsFacts", spec := "sheetsFacts", unfollowed := true, recurses := true, apart := false }
def SheetsFactsSaid : Prop := sheetsFactsRow.holds Try.pinned (OpenSpec.ofChange sheetsFactsSpec)

/-- ITS FALSE NEIGHBOUR: 'it returns false'. Refute it at one input. -/
def sheetsFactsWrong : ChangeSpec := { name := "sheetsFacts", fn := fun _ => fun
  | [d1, d2] => { results := [.lit (.bool false)], args := [d1, d2] }
  | _ => none }
def SheetsFactsWrongFalsely : Prop := sheetsFactsRow.holds Try.pinned (OpenSpec.ofChange sheetsFactsWrong)

/- THE SECOND FORM. 'bulk': how many values and letters a reading holds, each counted each time it is reached (what is shared counts as often as it is met; a slice's spare places count too). A statement '..UptoSaid' is the law's where the arguments, and the package variables that the reading takes, are together of bulk at most 1048576: NARROWER than '..Said'. Prove '..Said' where nothing that the law and all that it calls make is longer than what came in: it says more and counts as full. Else prove '..UptoSaid'. A law counts once. -/
mutual
def uptoBulk {H : Type} : DataW H → Nat
  | .lit (.string bytes) => bytes.length + 1
  | .lit _ => 1
  | .nil => 1
  | .ptr d => uptoBulk d + 1
  | .slice elems spare => uptoBulkAll elems + uptoBulkAll spare + 1
  | .agg parts => uptoBulkAll parts + 1
  | .iface _ d => uptoBulk d + 1
  | .map entries => uptoBulkEntries entries + 1
  | .held _ => 1
def uptoBulkAll {H : Type} : List (DataW H) → Nat
  | [] => 0
  | d :: r => uptoBulk d + uptoBulkAll r
def uptoBulkEntries {H : Type} : List (Lit × DataW H) → Nat
  | [] => 0
  | x :: r => uptoBulkEntry x + uptoBulkEntries r
def uptoBulkEntry {H : Type} : Lit × DataW H → Nat
  | (.string bytes, d) => bytes.length + uptoBulk d + 1
  | (_, d) => uptoBulk d + 1
 end
def uptoSmall : (H : Type) → List (DataW H) → Bool := fun _ ds => decide (uptoBulkAll ds ≤ 1048576)
def OpenSpec.upto (s : _root_.Go.ChangeSpec) : _root_.Go.OpenSpec := { _root_.Go.OpenSpec.ofChange s with cond := some uptoSmall }

/-- 'dactyllaw21.SheetsSplits', WHERE WHAT IT READS IS OF BULK AT MOST 1048576: true; the input reads as it did. -/
def sheetsSplitsUptoRow : OpenClaim := { program := "ytokdclbfjlnnjaa", sum := "2062874e3714ccaace119693900465940c829ed6aad0da0402b0fb5066a8f5e5", func := "dactyl/dactyllaw21.SheetsSplits", spec := "sheetsSplits", unfollowed := true, recurses := true, apart := false, narrowed := true }
def SheetsSplitsUptoSaid : Prop := sheetsSplitsUptoRow.holds Try.pinned (OpenSpec.upto sheetsSplitsSpec)

/-- 'dactyllaw21.SheetsChecks', WHERE WHAT IT READS IS OF BULK AT MOST 1048576: true; the input reads as it did. -/
def sheetsChecksUptoRow : OpenClaim := { program := "ytokdclbfjlnnjaa", sum := "2062874e3714ccaace119693900465940c829ed6aad0da0402b0fb5066a8f5e5", func := "dactyl/dactyllaw21.SheetsChecks", spec := "sheetsChecks", unfollowed := true, recurses := true, apart := false, narrowed := true }
def SheetsChecksUptoSaid : Prop := sheetsChecksUptoRow.holds Try.pinned (OpenSpec.upto sheetsChecksSpec)

/-- 'dactyllaw21.SheetsFewest', WHERE WHAT IT READS IS OF BULK AT MOST 1048576: true; the input reads as it did. -/
def sheetsFewestUptoRow : OpenClaim := { program := "ytokdclbfjlnnjaa", sum := "2062874e3714ccaace119693900465940c829ed6aad0da0402b0fb5066a8f5e5", func := "dactyl/dactyllaw21.SheetsFewest", spec := "sheetsFewest", unfollowed := true, recurses := true, apart := false, narrowed := true }
def SheetsFewestUptoSaid : Prop := sheetsFewestUptoRow.holds Try.pinned (OpenSpec.upto sheetsFewestSpec)

/-- 'dactyllaw21.SheetsMoved', WHERE WHAT IT READS IS OF BULK AT MOST 1048576: true; the input reads as it did. -/
def sheetsMovedUptoRow : OpenClaim := { program := "ytokdclbfjlnnjaa", sum := "2062874e3714ccaace119693900465940c829ed6aad0da0402b0fb5066a8f5e5", func := "dactyl/dactyllaw21.SheetsMoved", spec := "sheetsMoved", unfollowed := true, recurses := true, apart := false, narrowed := true }
def SheetsMovedUptoSaid : Prop := sheetsMovedUptoRow.holds Try.pinned (OpenSpec.upto sheetsMovedSpec)

/-- 'dactyllaw18.PlaneDistance', WHERE WHAT IT READS IS OF BULK AT MOST 1048576: true; the input reads as it did. -/
def planeDistanceUptoRow : OpenClaim := { program := "ytokdclbfjlnnjaa", sum := "2062874e3714ccaace119693900465940c829ed6aad0da0402b0fb5066a8f5e5", func := "dactyl/dactyllaw18.PlaneDistance", spec := "planeDistance", unfollowed := true, recurses := true, apart := false, narrowed := true }
def PlaneDistanceUptoSaid : Prop := planeDistanceUptoRow.holds Try.pinned (OpenSpec.upto planeDistanceSpec)

/-- 'dactyllaw18.PlaneTells', WHERE WHAT IT READS IS OF BULK AT MOST 1048576: true; the input reads as it did. -/
def planeTellsUptoRow : OpenClaim := { program := "ytokdclbfjlnnjaa", sum := "2062874e3714ccaace119693900465940c829ed6aad0da0402b0fb5066a8f5e5", func := "dactyl/dactyllaw18.PlaneTells", spec := "planeTells", unfollowed := true, recurses := true, apart := false, narrowed := true }
def PlaneTellsUptoSaid : Prop := planeTellsUptoRow.holds Try.pinned (OpenSpec.upto planeTellsSpec)

/-- 'dactyllaw18.PlaneOrders', WHERE WHAT IT READS IS OF BULK AT MOST 1048576: true; the input reads as it did. -/
def planeOrdersUptoRow : OpenClaim := { program := "ytokdclbfjlnnjaa", sum := "2062874e3714ccaace119693900465940c829ed6aad0da0402b0fb5066a8f5e5", func := "dactyl/dactyllaw18.PlaneOrders", spec := "planeOrders", unfollowed := true, recurses := true, apart := false, narrowed := true }
def PlaneOrdersUptoSaid : Prop := planeOrdersUptoRow.holds Try.pinned (OpenSpec.upto planeOrdersSpec)

/-- 'dactyllaw18.PlaneMoved', WHERE WHAT IT READS IS OF BULK AT MOST 1048576: true; the input reads as it did. -/
def planeMovedUptoRow : OpenClaim := { program := "ytokdclbfjlnnjaa", sum := "2062874e3714ccaace119693900465940c829ed6aad0da0402b0fb5066a8f5e5", func := "dactyl/dactyllaw18.PlaneMoved", spec := "planeMoved", unfollowed := true, recurses := true, apart := false, narrowed := true }
def PlaneMovedUptoSaid : Prop := planeMovedUptoRow.holds Try.pinned (OpenSpec.upto planeMovedSpec)

/-- 'dactyllaw18.PlaneValid', WHERE WHAT IT READS IS OF BULK AT MOST 1048576: true; the input reads as it did. -/
def planeValidUptoRow : OpenClaim := { program := "ytokdclbfjlnnjaa", sum := "2062874e3714ccaace119693900465940c829ed6aad0da0402b0fb5066a8f5e5", func := "dactyl/dactyllaw18.PlaneValid", spec := "planeValid", unfollowed := true, recurses := true, apart := false, narrowed := true }
def PlaneValidUptoSaid : Prop := planeValidUptoRow.holds Try.pinned (OpenSpec.upto planeValidSpec)

/-- 'dactyllaw18.PlaneHolds', WHERE WHAT IT READS IS OF BULK AT MOST 1048576: true; the input reads as it did. -/
def planeHoldsUptoRow : OpenClaim := { program := "ytokdclbfjlnnjaa", sum := "2062874e3714ccaace119693900465940c829ed6aad0da0402b0fb5066a8f5e5", func := "dactyl/dactyllaw18.PlaneHolds", spec := "planeHolds", unfollowed := true, recurses := true, apart := false, narrowed := true }
def PlaneHoldsUptoSaid : Prop := planeHoldsUptoRow.holds Try.pinned (OpenSpec.upto planeHoldsSpec)

/-- 'dactyllaw21.SheetsCuts', WHERE WHAT IT READS IS OF BULK AT MOST 1048576: true; the input reads as it did. -/
def sheetsCutsUptoRow : OpenClaim := { program := "ytokdclbfjlnnjaa", sum := "2062874e3714ccaace119693900465940c829ed6aad0da0402b0fb5066a8f5e5", func := "dactyl/dactyllaw21.SheetsCuts", spec := "sheetsCuts", unfollowed := true, recurses := true, apart := false, narrowed := true }
def SheetsCutsUptoSaid : Prop := sheetsCutsUptoRow.holds Try.pinned (OpenSpec.upto sheetsCutsSpec)

/-- 'dactyllaw21.SheetsJoins', WHERE WHAT IT READS IS OF BULK AT MOST 1048576: true; the input reads as it did. -/
def sheetsJoinsUptoRow : OpenClaim := { program := "ytokdclbfjlnnjaa", sum := "2062874e3714ccaace119693900465940c829ed6aad0da0402b0fb5066a8f5e5", func := "dactyl/dactyllaw21.SheetsJoins", spec := "sheetsJoins", unfollowed := true, recurses := true, apart := false, narrowed := true }
def SheetsJoinsUptoSaid : Prop := sheetsJoinsUptoRow.holds Try.pinned (OpenSpec.upto sheetsJoinsSpec)

/-- 'dactyllaw21.SheetsFacts', WHERE WHAT IT READS IS OF BULK AT MOST 1048576: true; the input reads as it did. -/
def sheetsFactsUptoRow : OpenClaim := { program := "ytokdclbfjlnnjaa", sum := "2062874e3714ccaace119693900465940c829ed6aad0da0402b0fb5066a8f5e5", func := "dactyl/dactyllaw21.SheetsFacts", spec := "sheetsFacts", unfollowed := true, recurses := true, apart := false, narrowed := true }
def SheetsFactsUptoSaid : Prop := sheetsFactsUptoRow.holds Try.pinned (OpenSpec.upto sheetsFactsSpec)

end Rows
end Go.Proofs.Ytokdclbfjlnnjaa
