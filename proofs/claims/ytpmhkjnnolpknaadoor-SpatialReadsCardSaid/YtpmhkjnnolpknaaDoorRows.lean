/-
  NARROWER THAN 'FOR EVERY INPUT', by the rows' own cells (each row's printed sentence says how): SpatialResults: laid · SpatialLayouts: laid · SpatialColumns: laid · SpatialAgain: laid · SpatialReads: laid · SpatialWrong: laid · SpatialBack: laid.
  DERIVED. THE GIVEN ROWS OF THIS SEAT. 7 by the template 'for every input the law returns true; each argument reads behind the call as it read before'; 0 by the template 'total and deterministic' (their statements: YtpmhkjnnolpknaaDoorTotals.lean).
  GIVEN WITH THE SEED: the statements are not yours to turn. If you find one false, say at which input.
  Laid BY PROGRAM, IN A SANDBOX (cutbox-rows.mjs): the forced cells as the released guide's own fill.sh prints them over the translation 763df46756ae9a48… (all of the seat's roots in one cut). By AI agents, Wed Nov 11 2026. No macro, syntax, notation, axiom, sorry.
-/
import Derived.Test.YtpmhkjnnolpknaaDoorChecked
import GoSem.Claim
import GoSem.ClaimJoined
import GoSem.ClaimMapViews
import Derived.JoinedTies
import Derived.KernelRfl
namespace Go.Proofs.YtpmhkjnnolpknaaDoor
/- THE CELL 'sum', in the pinned program and in every row, IS THE sha256 OF THE DUMP (.gsa) THAT YtpmhkjnnolpknaaDoorProg.lean LOADS. Nothing in Lean hashes anything: it is a label: what it is worth is what the hold of that sum in a sandbox is worth. -/
noncomputable def Tryd.pinned : Pinned := { name := "ytpmhkjnnolpknaadoor", sum := "763df46756ae9a489d2e69868ad396d535d955a510c2d6cf2264e1166384bb2d", checked := Tryd.checked }
namespace Rows
def none {H : Type} : Left H := { results := [], args := [] }

/- WHAT THE LISTED PACKAGE-LEVEL VARIABLES READ AS WHEN THE CALL BEGINS. Each datum BY PROGRAM (the guide's laid-datum.mjs) off the statement by which the dump's own 'gosem.cut.vars' lays the variable. In a bare row this is a premise. The card (YtpmhkjnnolpknaaDoorCards.lean) ties it to the program's text. -/
def laid_math_bits_deBruijn32tab {H : Type} : DataW H := .agg [.lit (.int .u8 0), .lit (.int .u8 1), .lit (.int .u8 28), .lit (.int .u8 2), .lit (.int .u8 29), .lit (.int .u8 14), .lit (.int .u8 24), .lit (.int .u8 3), .lit (.int .u8 30), .lit (.int .u8 22), .lit (.int .u8 20), .lit (.int .u8 15), .lit (.int .u8 25), .lit (.int .u8 17), .lit (.int .u8 4), .lit (.int .u8 8), .lit (.int .u8 31), .lit (.int .u8 27), .lit (.int .u8 13), .lit (.int .u8 23), .lit (.int .u8 21), .lit (.int .u8 19), .lit (.int .u8 16), .lit (.int .u8 7), .lit (.int .u8 26), .lit (.int .u8 12), .lit (.int .u8 18), .lit (.int .u8 6), .lit (.int .u8 11), .lit (.int .u8 5), .lit (.int .u8 10), .lit (.int .u8 9)]
def laid_math_bits_deBruijn64tab {H : Type} : DataW H := .agg [.lit (.int .u8 0), .lit (.int .u8 1), .lit (.int .u8 56), .lit (.int .u8 2), .lit (.int .u8 57), .lit (.int .u8 49), .lit (.int .u8 28), .lit (.int .u8 3), .lit (.int .u8 61), .lit (.int .u8 58), .lit (.int .u8 42), .lit (.int .u8 50), .lit (.int .u8 38), .lit (.int .u8 29), .lit (.int .u8 17), .lit (.int .u8 4), .lit (.int .u8 62), .lit (.int .u8 47), .lit (.int .u8 59), .lit (.int .u8 36), .lit (.int .u8 45), .lit (.int .u8 43), .lit (.int .u8 51), .lit (.int .u8 22), .lit (.int .u8 53), .lit (.int .u8 39), .lit (.int .u8 33), .lit (.int .u8 30), .lit (.int .u8 24), .lit (.int .u8 18), .lit (.int .u8 12), .lit (.int .u8 5), .lit (.int .u8 63), .lit (.int .u8 55), .lit (.int .u8 48), .lit (.int .u8 27), .lit (.int .u8 60), .lit (.int .u8 41), .lit (.int .u8 37), .lit (.int .u8 16), .lit (.int .u8 46), .lit (.int .u8 35), .lit (.int .u8 44), .lit (.int .u8 21), .lit (.int .u8 52), .lit (.int .u8 32), .lit (.int .u8 23), .lit (.int .u8 11), .lit (.int .u8 54), .lit (.int .u8 26), .lit (.int .u8 40), .lit (.int .u8 15), .lit (.int .u8 34), .lit (.int .u8 20), .lit (.int .u8 31), .lit (.int .u8 10), .lit (.int .u8 25), .lit (.int .u8 14), .lit (.int .u8 19), .lit (.int .u8 9), .lit (.int .u8 13), .lit (.int .u8 8), .lit (.int .u8 7), .lit (.int .u8 6)]
def laid_internal_strconv_uint64pow10 {H : Type} : DataW H := .agg [.lit (.int .u64 1), .lit (.int .u64 10), .lit (.int .u64 100), .lit (.int .u64 1000), .lit (.int .u64 10000), .lit (.int .u64 100000), .lit (.int .u64 1000000), .lit (.int .u64 10000000), .lit (.int .u64 100000000), .lit (.int .u64 1000000000), .lit (.int .u64 10000000000), .lit (.int .u64 100000000000), .lit (.int .u64 1000000000000), .lit (.int .u64 10000000000000), .lit (.int .u64 100000000000000), .lit (.int .u64 1000000000000000), .lit (.int .u64 10000000000000000), .lit (.int .u64 100000000000000000), .lit (.int .u64 1000000000000000000), .lit (.int .u64 10000000000000000000)]
def laid_strconv_ErrRange {H : Type} : DataW H := .iface "*errors.errorString" (.ptr (.agg [.lit (.string [118, 97, 108, 117, 101, 32, 111, 117, 116, 32, 111, 102, 32, 114, 97, 110, 103, 101])]))
def laid_strconv_ErrSyntax {H : Type} : DataW H := .iface "*errors.errorString" (.ptr (.agg [.lit (.string [105, 110, 118, 97, 108, 105, 100, 32, 115, 121, 110, 116, 97, 120])]))

/-- 'dactyllaw14.SpatialResults': WHATEVER THE INPUT: true; the input reads as it did. -/
def spatialResultsSpec : ChangeSpec := { name := "spatialResults", fn := fun _ => fun
  | [d1, d2, d3, d4] => { results := [.lit (.bool true)], args := [d1, d2, d3, d4] }
  | _ => none }
def spatialResultsRow : OpenClaim := { program := "ytpmhkjnnolpknaadoor", sum := "763df46756ae9a489d2e69868ad396d535d955a510c2d6cf2264e1166384bb2d", func := "dactyl/dactyllaw14.SpatialResults", spec := "spatialResults", unfollowed := true, recurses := true, named := ["internal/strconv.uint64pow10", "math/bits.deBruijn32tab", "math/bits.deBruijn64tab", "strconv.ErrSyntax", "strconv.ErrRange"], apart := false, laid := [("math/bits.deBruijn32tab", laid_math_bits_deBruijn32tab), ("math/bits.deBruijn64tab", laid_math_bits_deBruijn64tab), ("internal/strconv.uint64pow10", laid_internal_strconv_uint64pow10), ("strconv.ErrRange", laid_strconv_ErrRange), ("strconv.ErrSyntax", laid_strconv_ErrSyntax)] }
def SpatialResultsSaid : Prop := spatialResultsRow.holds Tryd.pinned (OpenSpec.ofChange spatialResultsSpec)

/-- ITS FALSE NEIGHBOUR: 'it returns false'. Refute it at one input. -/
def spatialResultsWrong : ChangeSpec := { name := "spatialResults", fn := fun _ => fun
  | [d1, d2, d3, d4] => { results := [.lit (.bool false)], args := [d1, d2, d3, d4] }
  | _ => none }
def SpatialResultsWrongFalsely : Prop := spatialResultsRow.holds Tryd.pinned (OpenSpec.ofChange spatialResultsWrong)

/-- 'dactyllaw14.SpatialLayouts': WHATEVER THE INPUT: true; the input reads as it did. -/
def spatialLayoutsSpec : ChangeSpec := { name := "spatialLayouts", fn := fun _ => fun
  | [d1, d2, d3] => { results := [.lit (.bool true)], args := [d1, d2, d3] }
  | _ => none }
def spatialLayoutsRow : OpenClaim := { program := "ytpmhkjnnolpknaadoor", sum := "763df46756ae9a489d2e69868ad396d535d955a510c2d6cf2264e1166384bb2d", func := "dactyl/dactyllaw14.SpatialLayouts", spec := "spatialLayouts", unfollowed := true, recurses := true, named := ["internal/strconv.uint64pow10", "math/bits.deBruijn32tab", "math/bits.deBruijn64tab", "strconv.ErrSyntax", "strconv.ErrRange"], apart := false, laid := [("math/bits.deBruijn32tab", laid_math_bits_deBruijn32tab), ("math/bits.deBruijn64tab", laid_math_bits_deBruijn64tab), ("internal/strconv.uint64pow10", laid_internal_strconv_uint64pow10), ("strconv.ErrRange", laid_strconv_ErrRange), ("strconv.ErrSyntax", laid_strconv_ErrSyntax)] }
def SpatialLayoutsSaid : Prop := spatialLayoutsRow.holds Tryd.pinned (OpenSpec.ofChange spatialLayoutsSpec)

/-- ITS FALSE NEIGHBOUR: 'it returns false'. Refute it at one input. -/
def spatialLayoutsWrong : ChangeSpec := { name := "spatialLayouts", fn := fun _ => fun
  | [d1, d2, d3] => { results := [.lit (.bool false)], args := [d1, d2, d3] }
  | _ => none }
def SpatialLayoutsWrongFalsely : Prop := spatialLayoutsRow.holds Tryd.pinned (OpenSpec.ofChange spatialLayoutsWrong)

/-- 'dactyllaw14.SpatialColumns': WHATEVER THE INPUT: true; the input reads as it did. -/
def spatialColumnsSpec : ChangeSpec := { name := "spatialColumns", fn := fun _ => fun
  | [d] => { results := [.lit (.bool true)], args := [d] }
  | _ => none }
def spatialColumnsRow : OpenClaim := { program := "ytpmhkjnnolpknaadoor", sum := "763df46756ae9a489d2e69868ad396d535d955a510c2d6cf2264e1166384bb2d", func := "dactyl/dactyllaw14.SpatialColumns", spec := "spatialColumns", unfollowed := true, recurses := true, named := ["internal/strconv.uint64pow10", "math/bits.deBruijn32tab", "math/bits.deBruijn64tab", "strconv.ErrSyntax", "strconv.ErrRange"], apart := false, laid := [("math/bits.deBruijn32tab", laid_math_bits_deBruijn32tab), ("math/bits.deBruijn64tab", laid_math_bits_deBruijn64tab), ("internal/strconv.uint64pow10", laid_internal_strconv_uint64pow10), ("strconv.ErrRange", laid_strconv_ErrRange), ("strconv.ErrSyntax", laid_strconv_ErrSyntax)] }
def SpatialColumnsSaid : Prop := spatialColumnsRow.holds Tryd.pinned (OpenSpec.ofChange spatialColumnsSpec)

/-- ITS FALSE NEIGHBOUR: 'it returns false'. Refute it at one input. -/
def spatialColumnsWrong : ChangeSpec := { name := "spatialColumns", fn := fun _ => fun
  | [d] => { results := [.lit (.bool false)], args := [d] }
  | _ => none }
def SpatialColumnsWrongFalsely : Prop := spatialColumnsRow.holds Tryd.pinned (OpenSpec.ofChange spatialColumnsWrong)

/-- 'dactyllaw14.SpatialAgain': WHATEVER THE INPUT: true; the input reads as it did. -/
def spatialAgainSpec : ChangeSpec := { name := "spatialAgain", fn := fun _ => fun
  | [d1, d2] => { results := [.lit (.bool true)], args := [d1, d2] }
  | _ => none }
def spatialAgainRow : OpenClaim := { program := "ytpmhkjnnolpknaadoor", sum := "763df46756ae9a489d2e69868ad396d535d955a510c2d6cf2264e1166384bb2d", func := "dactyl/dactyllaw14.SpatialAgain", spec := "spatialAgain", unfollowed := true, recurses := true, named := ["internal/strconv.uint64pow10", "math/bits.deBruijn32tab", "math/bits.deBruijn64tab", "strconv.ErrSyntax", "strconv.ErrRange"], apart := false, laid := [("math/bits.deBruijn32tab", laid_math_bits_deBruijn32tab), ("math/bits.deBruijn64tab", laid_math_bits_deBruijn64tab), ("internal/strconv.uint64pow10", laid_internal_strconv_uint64pow10), ("strconv.ErrRange", laid_strconv_ErrRange), ("strconv.ErrSyntax", laid_strconv_ErrSyntax)] }
def SpatialAgainSaid : Prop := spatialAgainRow.holds Tryd.pinned (OpenSpec.ofChange spatialAgainSpec)

/-- ITS FALSE NEIGHBOUR: 'it returns false'. Refute it at one input. -/
def spatialAgainWrong : ChangeSpec := { name := "spatialAgain", fn := fun _ => fun
  | [d1, d2] => { results := [.lit (.bool false)], args := [d1, d2] }
  | _ => none }
def SpatialAgainWrongFalsely : Prop := spatialAgainRow.holds Tryd.pinned (OpenSpec.ofChange spatialAgainWrong)

/-- 'dactyllaw14.SpatialReads': WHATEVER THE INPUT: true; the input reads as it did. -/
def spatialReadsSpec : ChangeSpec := { name := "spatialReads", fn := fun _ => fun
  | [d1, d2, d3, d4, d5] => { results := [.lit (.bool true)], args := [d1, d2, d3, d4, d5] }
  | _ => none }
def spatialReadsRow : OpenClaim := { program := "ytpmhkjnnolpknaadoor", sum := "763df46756ae9a489d2e69868ad396d535d955a510c2d6cf2264e1166384bb2d", func := "dactyl/dactyllaw14.SpatialReads", spec := "spatialReads", unfollowed := true, recurses := true, named := ["internal/strconv.uint64pow10", "math/bits.deBruijn32tab", "math/bits.deBruijn64tab", "strconv.ErrSyntax", "strconv.ErrRange"], apart := false, laid := [("math/bits.deBruijn32tab", laid_math_bits_deBruijn32tab), ("math/bits.deBruijn64tab", laid_math_bits_deBruijn64tab), ("internal/strconv.uint64pow10", laid_internal_strconv_uint64pow10), ("strconv.ErrRange", laid_strconv_ErrRange), ("strconv.ErrSyntax", laid_strconv_ErrSyntax)] }
def SpatialReadsSaid : Prop := spatialReadsRow.holds Tryd.pinned (OpenSpec.ofChange spatialReadsSpec)

/-- ITS FALSE NEIGHBOUR: 'it returns false'. Refute it at one input. -/
def spatialReadsWrong : ChangeSpec := { name := "spatialReads", fn := fun _ => fun
  | [d1, d2, d3, d4, d5] => { results := [.lit (.bool false)], args := [d1, d2, d3, d4, d5] }
  | _ => none }
def SpatialReadsWrongFalsely : Prop := spatialReadsRow.holds Tryd.pinned (OpenSpec.ofChange spatialReadsWrong)

/-- 'dactyllaw14.SpatialWrong': WHATEVER THE INPUT: true; the input reads as it did. -/
def spatialWrongSpec : ChangeSpec := { name := "spatialWrong", fn := fun _ => fun
  | [d1, d2, d3, d4] => { results := [.lit (.bool true)], args := [d1, d2, d3, d4] }
  | _ => none }
def spatialWrongRow : OpenClaim := { program := "ytpmhkjnnolpknaadoor", sum := "763df46756ae9a489d2e69868ad396d535d955a510c2d6cf2264e1166384bb2d", func := "dactyl/dactyllaw14.SpatialWrong", spec := "spatialWrong", unfollowed := true, recurses := true, named := ["internal/strconv.uint64pow10", "math/bits.deBruijn32tab", "math/bits.deBruijn64tab", "strconv.ErrSyntax", "strconv.ErrRange"], apart := false, laid := [("math/bits.deBruijn32tab", laid_math_bits_deBruijn32tab), ("math/bits.deBruijn64tab", laid_math_bits_deBruijn64tab), ("internal/strconv.uint64pow10", laid_internal_strconv_uint64pow10), ("strconv.ErrRange", laid_strconv_ErrRange), ("strconv.ErrSyntax", laid_strconv_ErrSyntax)] }
def SpatialWrongSaid : Prop := spatialWrongRow.holds Tryd.pinned (OpenSpec.ofChange spatialWrongSpec)

/-- ITS FALSE NEIGHBOUR: 'it returns false'. Refute it at one input. -/
def spatialWrongWrong : ChangeSpec := { name := "spatialWrong", fn := fun _ => fun
  | [d1, d2, d3, d4] => { results := [.lit (.bool false)], args := [d1, d2, d3, d4] }
  | _ => none }
def SpatialWrongWrongFalsely : Prop := spatialWrongRow.holds Tryd.pinned (OpenSpec.ofChange spatialWrongWrong)

/-- 'dactyllaw14.SpatialBack': WHATEVER THE INPUT: true; the input reads as it did. -/
def spatialBackSpec : ChangeSpec := { name := "spatialBack", fn := fun _ => fun
  | [d1, d2] => { results := [.lit (.bool true)], args := [d1, d2] }
  | _ => none }
def spatialBackRow : OpenClaim := { program := "ytpmhkjnnolpknaadoor", sum := "763df46756ae9a489d2e69868ad396d535d955a510c2d6cf2264e1166384bb2d", func := "dactyl/dactyllaw14.SpatialBack", spec := "spatialBack", unfollowed := true, recurses := true, named := ["internal/strconv.uint64pow10", "math/bits.deBruijn32tab", "math/bits.deBruijn64tab", "strconv.ErrSyntax", "strconv.ErrRange"], apart := false, laid := [("math/bits.deBruijn32tab", laid_math_bits_deBruijn32tab), ("math/bits.deBruijn64tab", laid_math_bits_deBruijn64tab), ("internal/strconv.uint64pow10", laid_internal_strconv_uint64pow10), ("strconv.ErrRange", laid_strconv_ErrRange), ("strconv.ErrSyntax", laid_strconv_ErrSyntax)] }
def SpatialBackSaid : Prop := spatialBackRow.holds Tryd.pinned (OpenSpec.ofChange spatialBackSpec)

/-- ITS FALSE NEIGHBOUR: 'it returns false'. Refute it at one input. -/
def spatialBackWrong : ChangeSpec := { name := "spatialBack", fn := fun _ => fun
  | [d1, d2] => { results := [.lit (.bool false)], args := [d1, d2] }
  | _ => none }
def SpatialBackWrongFalsely : Prop := spatialBackRow.holds Tryd.pinned (OpenSpec.ofChange spatialBackWrong)

/- THE SECOND FORM. 'bulk': how many values and letters a reading holds, each counted each time it is reached (what is shared counts as often as it is met; a slice's spare places count too). A statement '..UptoSaid' is the law's where the arguments, and the package variables that the reading takes, are together of bulk at most 1048576: NARROWER than '..Said'. Prove '..Said' where nothing that the law and all that it calls make is longer than what came in: it says more and counts as full. Else prove '..UptoSaid'. A law counts once. -/
mutual
def uptoBulk {H : Type} : DataW H → Nat
  | .lit (.string bytes) => bytes.length + 1
  | .lit _ => 1
  | .nil => 1
  | .ptr d => uptoBulk d + 1
  | .slice elems spare => uptoBulkAll elems + uptoBulkAll spare + 1
  | .agg parts => uptoBulkAll parts + 1
  | .iface _ d => uptoBulk d + 1
  | .map entries => uptoBulkEntries entries + 1
  | .held _ => 1
def uptoBulkAll {H : Type} : List (DataW H) → Nat
  | [] => 0
  | d :: r => uptoBulk d + uptoBulkAll r
def uptoBulkEntries {H : Type} : List (Lit × DataW H) → Nat
  | [] => 0
  | x :: r => uptoBulkEntry x + uptoBulkEntries r
def uptoBulkEntry {H : Type} : Lit × DataW H → Nat
  | (.string bytes, d) => bytes.length + uptoBulk d + 1
  | (_, d) => uptoBulk d + 1
 end
def uptoSmall : (H : Type) → List (DataW H) → Bool := fun _ ds => decide (uptoBulkAll ds ≤ 1048576)
def OpenSpec.upto (s : _root_.Go.ChangeSpec) : _root_.Go.OpenSpec := { _root_.Go.OpenSpec.ofChange s with cond := some uptoSmall }

/-- 'dactyllaw14.SpatialResults', WHERE WHAT IT READS IS OF BULK AT MOST 1048576: true; the input reads as it did. -/
def spatialResultsUptoRow : OpenClaim := { program := "ytpmhkjnnolpknaadoor", sum := "763df46756ae9a489d2e69868ad396d535d955a510c2d6cf2264e1166384bb2d", func := "dactyl/dactyllaw14.SpatialResults", spec := "spatialResults", unfollowed := true, recurses := true, named := ["internal/strconv.uint64pow10", "math/bits.deBruijn32tab", "math/bits.deBruijn64tab", "strconv.ErrSyntax", "strconv.ErrRange"], apart := false, laid := [("math/bits.deBruijn32tab", laid_math_bits_deBruijn32tab), ("math/bits.deBruijn64tab", laid_math_bits_deBruijn64tab), ("internal/strconv.uint64pow10", laid_internal_strconv_uint64pow10), ("strconv.ErrRange", laid_strconv_ErrRange), ("strconv.ErrSyntax", laid_strconv_ErrSyntax)], narrowed := true }
def SpatialResultsUptoSaid : Prop := spatialResultsUptoRow.holds Tryd.pinned (OpenSpec.upto spatialResultsSpec)

/-- 'dactyllaw14.SpatialLayouts', WHERE WHAT IT READS IS OF BULK AT MOST 1048576: true; the input reads as it did. -/
def spatialLayoutsUptoRow : OpenClaim := { program := "ytpmhkjnnolpknaadoor", sum := "763df46756ae9a489d2e69868ad396d535d955a510c2d6cf2264e1166384bb2d", func := "dactyl/dactyllaw14.SpatialLayouts", spec := "spatialLayouts", unfollowed := true, recurses := true, named := ["internal/strconv.uint64pow10", "math/bits.deBruijn32tab", "math/bits.deBruijn64tab", "strconv.ErrSyntax", "strconv.ErrRange"], apart := false, laid := [("math/bits.deBruijn32tab", laid_math_bits_deBruijn32tab), ("math/bits.deBruijn64tab", laid_math_bits_deBruijn64tab), ("internal/strconv.uint64pow10", laid_internal_strconv_uint64pow10), ("strconv.ErrRange", laid_strconv_ErrRange), ("strconv.ErrSyntax", laid_strconv_ErrSyntax)], narrowed := true }
def SpatialLayoutsUptoSaid : Prop := spatialLayoutsUptoRow.holds Tryd.pinned (OpenSpec.upto spatialLayoutsSpec)

/-- 'dactyllaw14.SpatialColumns', WHERE WHAT IT READS IS OF BULK AT MOST 1048576: true; the input reads as it did. -/
def spatialColumnsUptoRow : OpenClaim := { program := "ytpmhkjnnolpknaadoor", sum := "763df46756ae9a489d2e69868ad396d535d955a510c2d6cf2264e1166384bb2d", func := "dactyl/dactyllaw14.SpatialColumns", spec := "spatialColumns", unfollowed := true, recurses := true, named := ["internal/strconv.uint64pow10", "math/bits.deBruijn32tab", "math/bits.deBruijn64tab", "strconv.ErrSyntax", "strconv.ErrRange"], apart := false, laid := [("math/bits.deBruijn32tab", laid_math_bits_deBruijn32tab), ("math/bits.deBruijn64tab", laid_math_bits_deBruijn64tab), ("internal/strconv.uint64pow10", laid_internal_strconv_uint64pow10), ("strconv.ErrRange", laid_strconv_ErrRange), ("strconv.ErrSyntax", laid_strconv_ErrSyntax)], narrowed := true }
def SpatialColumnsUptoSaid : Prop := spatialColumnsUptoRow.holds Tryd.pinned (OpenSpec.upto spatialColumnsSpec)

/-- 'dactyllaw14.SpatialAgain', WHERE WHAT IT READS IS OF BULK AT MOST 1048576: true; the input reads as it did. -/
def spatialAgainUptoRow : OpenClaim := { program := "ytpmhkjnnolpknaadoor", sum := "763df46756ae9a489d2e69868ad396d535d955a510c2d6cf2264e1166384bb2d", func := "dactyl/dactyllaw14.SpatialAgain", spec := "spatialAgain", unfollowed := true, recurses := true, named := ["internal/strconv.uint64pow10", "math/bits.deBruijn32tab", "math/bits.deBruijn64tab", "strconv.ErrSyntax", "strconv.ErrRange"], apart := false, laid := [("math/bits.deBruijn32tab", laid_math_bits_deBruijn32tab), ("math/bits.deBruijn64tab", laid_math_bits_deBruijn64tab), ("internal/strconv.uint64pow10", laid_internal_strconv_uint64pow10), ("strconv.ErrRange", laid_strconv_ErrRange), ("strconv.ErrSyntax", laid_strconv_ErrSyntax)], narrowed := true }
def SpatialAgainUptoSaid : Prop := spatialAgainUptoRow.holds Tryd.pinned (OpenSpec.upto spatialAgainSpec)

/-- 'dactyllaw14.SpatialReads', WHERE WHAT IT READS IS OF BULK AT MOST 1048576: true; the input reads as it did. -/
def spatialReadsUptoRow : OpenClaim := { program := "ytpmhkjnnolpknaadoor", sum := "763df46756ae9a489d2e69868ad396d535d955a510c2d6cf2264e1166384bb2d", func := "dactyl/dactyllaw14.SpatialReads", spec := "spatialReads", unfollowed := true, recurses := true, named := ["internal/strconv.uint64pow10", "math/bits.deBruijn32tab", "math/bits.deBruijn64tab", "strconv.ErrSyntax", "strconv.ErrRange"], apart := false, laid := [("math/bits.deBruijn32tab", laid_math_bits_deBruijn32tab), ("math/bits.deBruijn64tab", laid_math_bits_deBruijn64tab), ("internal/strconv.uint64pow10", laid_internal_strconv_uint64pow10), ("strconv.ErrRange", laid_strconv_ErrRange), ("strconv.ErrSyntax", laid_strconv_ErrSyntax)], narrowed := true }
def SpatialReadsUptoSaid : Prop := spatialReadsUptoRow.holds Tryd.pinned (OpenSpec.upto spatialReadsSpec)

/-- 'dactyllaw14.SpatialWrong', WHERE WHAT IT READS IS OF BULK AT MOST 1048576: true; the input reads as it did. -/
def spatialWrongUptoRow : OpenClaim := { program := "ytpmhkjnnolpknaadoor", sum := "763df46756ae9a489d2e69868ad396d535d955a510c2d6cf2264e1166384bb2d", func := "dactyl/dactyllaw14.SpatialWrong", spec := "spatialWrong", unfollowed := true, recurses := true, named := ["internal/strconv.uint64pow10", "math/bits.deBruijn32tab", "math/bits.deBruijn64tab", "strconv.ErrSyntax", "strconv.ErrRange"], apart := false, laid := [("math/bits.deBruijn32tab", laid_math_bits_deBruijn32tab), ("math/bits.deBruijn64tab", laid_math_bits_deBruijn64tab), ("internal/strconv.uint64pow10", laid_internal_strconv_uint64pow10), ("strconv.ErrRange", laid_strconv_ErrRange), ("strconv.ErrSyntax", laid_strconv_ErrSyntax)], narrowed := true }
def SpatialWrongUptoSaid : Prop := spatialWrongUptoRow.holds Tryd.pinned (OpenSpec.upto spatialWrongSpec)

/-- 'dactyllaw14.SpatialBack', WHERE WHAT IT READS IS OF BULK AT MOST 1048576: true; the input reads as it did. -/
def spatialBackUptoRow : OpenClaim := { program := "ytpmhkjnnolpknaadoor", sum := "763df46756ae9a489d2e69868ad396d535d955a510c2d6cf2264e1166384bb2d", func := "dactyl/dactyllaw14.SpatialBack", spec := "spatialBack", unfollowed := true, recurses := true, named := ["internal/strconv.uint64pow10", "math/bits.deBruijn32tab", "math/bits.deBruijn64tab", "strconv.ErrSyntax", "strconv.ErrRange"], apart := false, laid := [("math/bits.deBruijn32tab", laid_math_bits_deBruijn32tab), ("math/bits.deBruijn64tab", laid_math_bits_deBruijn64tab), ("internal/strconv.uint64pow10", laid_internal_strconv_uint64pow10), ("strconv.ErrRange", laid_strconv_ErrRange), ("strconv.ErrSyntax", laid_strconv_ErrSyntax)], narrowed := true }
def SpatialBackUptoSaid : Prop := spatialBackUptoRow.holds Tryd.pinned (OpenSpec.upto spatialBackSpec)

end Rows
end Go.Proofs.YtpmhkjnnolpknaaDoor
