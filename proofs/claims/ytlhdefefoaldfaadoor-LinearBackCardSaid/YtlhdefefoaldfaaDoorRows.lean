/-
  NARROWER THAN 'FOR EVERY INPUT', by the rows' own cells (each row's printed sentence says how): FormulaPrints: laid · FormulaParses: laid · FormulaBlanks: laid · FormulaNeeded: laid · FormulaRules: laid · FormulaValues: laid · FormulaValid: laid · LinearText: laid · LinearBack: laid.
  DERIVED. THE GIVEN ROWS OF THIS SEAT. 9 by the template 'for every input the law returns true; each argument reads behind the call as it read before'; 0 by the template 'total and deterministic' (their statements: YtlhdefefoaldfaaDoorTotals.lean).
  GIVEN WITH THE SEED: the statements are not yours to turn. If you find one false, say at which input.
  Laid BY PROGRAM, IN A SANDBOX (cutbox-rows.mjs): the forced cells as the released guide's own fill.sh prints them over the translation d13e29483872715d… (all of the seat's roots in one cut). By AI agents, Wed Nov 11 2026. No macro, syntax, notation, axiom, sorry.
-/
import Derived.Test.YtlhdefefoaldfaaDoorChecked
import GoSem.Claim
import GoSem.ClaimJoined
import GoSem.ClaimMapViews
import Derived.JoinedTies
import Derived.KernelRfl
namespace Go.Proofs.YtlhdefefoaldfaaDoor
/- THE CELL 'sum', in the pinned program and in every row, IS THE sha256 OF THE DUMP (.gsa) THAT YtlhdefefoaldfaaDoorProg.lean LOADS. Nothing in Lean hashes anything: it is a label: what it is worth is what the hold of that sum in a sandbox is worth. -/
noncomputable def Tryd.pinned : Pinned := { name := "ytlhdefefoaldfaadoor", sum := "d13e29483872715d0d42b38493cf841654befe3112fc688c358848ce50383f19", checked := Tryd.checked }
namespace Rows
def none {H : Type} : Left H := { results := [], args := [] }

/- WHAT THE LISTED PACKAGE-LEVEL VARIABLES READ AS WHEN THE CALL BEGINS. Each datum BY PROGRAM (the guide's laid-datum.mjs) off the statement by which the dump's own 'gosem.cut.vars' lays the variable. In a bare row this is a premise. The card (YtlhdefefoaldfaaDoorCards.lean) ties it to the program's text. -/
def laid_math_bits_deBruijn32tab {H : Type} : DataW H := .agg [.lit (.int .u8 0), .lit (.int .u8 1), .lit (.int .u8 28), .lit (.int .u8 2), .lit (.int .u8 29), .lit (.int .u8 14), .lit (.int .u8 24), .lit (.int .u8 3), .lit (.int .u8 30), .lit (.int .u8 22), .lit (.int .u8 20), .lit (.int .u8 15), .lit (.int .u8 25), .lit (.int .u8 17), .lit (.int .u8 4), .lit (.int .u8 8), .lit (.int .u8 31), .lit (.int .u8 27), .lit (.int .u8 13), .lit (.int .u8 23), .lit (.int .u8 21), .lit (.int .u8 19), .lit (.int .u8 16), .lit (.int .u8 7), .lit (.int .u8 26), .lit (.int .u8 12), .lit (.int .u8 18), .lit (.int .u8 6), .lit (.int .u8 11), .lit (.int .u8 5), .lit (.int .u8 10), .lit (.int .u8 9)]
def laid_math_bits_deBruijn64tab {H : Type} : DataW H := .agg [.lit (.int .u8 0), .lit (.int .u8 1), .lit (.int .u8 56), .lit (.int .u8 2), .lit (.int .u8 57), .lit (.int .u8 49), .lit (.int .u8 28), .lit (.int .u8 3), .lit (.int .u8 61), .lit (.int .u8 58), .lit (.int .u8 42), .lit (.int .u8 50), .lit (.int .u8 38), .lit (.int .u8 29), .lit (.int .u8 17), .lit (.int .u8 4), .lit (.int .u8 62), .lit (.int .u8 47), .lit (.int .u8 59), .lit (.int .u8 36), .lit (.int .u8 45), .lit (.int .u8 43), .lit (.int .u8 51), .lit (.int .u8 22), .lit (.int .u8 53), .lit (.int .u8 39), .lit (.int .u8 33), .lit (.int .u8 30), .lit (.int .u8 24), .lit (.int .u8 18), .lit (.int .u8 12), .lit (.int .u8 5), .lit (.int .u8 63), .lit (.int .u8 55), .lit (.int .u8 48), .lit (.int .u8 27), .lit (.int .u8 60), .lit (.int .u8 41), .lit (.int .u8 37), .lit (.int .u8 16), .lit (.int .u8 46), .lit (.int .u8 35), .lit (.int .u8 44), .lit (.int .u8 21), .lit (.int .u8 52), .lit (.int .u8 32), .lit (.int .u8 23), .lit (.int .u8 11), .lit (.int .u8 54), .lit (.int .u8 26), .lit (.int .u8 40), .lit (.int .u8 15), .lit (.int .u8 34), .lit (.int .u8 20), .lit (.int .u8 31), .lit (.int .u8 10), .lit (.int .u8 25), .lit (.int .u8 14), .lit (.int .u8 19), .lit (.int .u8 9), .lit (.int .u8 13), .lit (.int .u8 8), .lit (.int .u8 7), .lit (.int .u8 6)]
def laid_internal_strconv_uint64pow10 {H : Type} : DataW H := .agg [.lit (.int .u64 1), .lit (.int .u64 10), .lit (.int .u64 100), .lit (.int .u64 1000), .lit (.int .u64 10000), .lit (.int .u64 100000), .lit (.int .u64 1000000), .lit (.int .u64 10000000), .lit (.int .u64 100000000), .lit (.int .u64 1000000000), .lit (.int .u64 10000000000), .lit (.int .u64 100000000000), .lit (.int .u64 1000000000000), .lit (.int .u64 10000000000000), .lit (.int .u64 100000000000000), .lit (.int .u64 1000000000000000), .lit (.int .u64 10000000000000000), .lit (.int .u64 100000000000000000), .lit (.int .u64 1000000000000000000), .lit (.int .u64 10000000000000000000)]
def laid_strconv_ErrRange {H : Type} : DataW H := .iface "*errors.errorString" (.ptr (.agg [.lit (.string [118, 97, 108, 117, 101, 32, 111, 117, 116, 32, 111, 102, 32, 114, 97, 110, 103, 101])]))
def laid_strconv_ErrSyntax {H : Type} : DataW H := .iface "*errors.errorString" (.ptr (.agg [.lit (.string [105, 110, 118, 97, 108, 105, 100, 32, 115, 121, 110, 116, 97, 120])]))
def laid_dactyl_formula_operations {H : Type} : DataW H := .agg [.agg [.lit (.int .i64 0), .lit (.int .i64 999999), .lit (.int .i64 4), .lit (.int .u8 0)], .agg [.lit (.int .i64 0), .lit (.int .i64 25), .lit (.int .i64 4), .lit (.int .u8 0)], .agg [.lit (.int .i64 1), .lit (.int .i64 0), .lit (.int .i64 3), .lit (.int .u8 45)], .agg [.lit (.int .i64 2), .lit (.int .i64 0), .lit (.int .i64 1), .lit (.int .u8 43)], .agg [.lit (.int .i64 2), .lit (.int .i64 0), .lit (.int .i64 1), .lit (.int .u8 45)], .agg [.lit (.int .i64 2), .lit (.int .i64 0), .lit (.int .i64 2), .lit (.int .u8 42)], .agg [.lit (.int .i64 2), .lit (.int .i64 0), .lit (.int .i64 2), .lit (.int .u8 47)], .agg [.lit (.int .i64 2), .lit (.int .i64 0), .lit (.int .i64 3), .lit (.int .u8 94)], .agg [.lit (.int .i64 1), .lit (.int .i64 0), .lit (.int .i64 4), .lit (.int .u8 82)], .agg [.lit (.int .i64 2), .lit (.int .i64 0), .lit (.int .i64 0), .lit (.int .u8 61)], .agg [.lit (.int .i64 2), .lit (.int .i64 0), .lit (.int .i64 0), .lit (.int .u8 60)]]
def laid_dactyl_linear_digits {H : Type} : DataW H := .agg [.lit (.int .u8 26), .lit (.int .u8 1), .lit (.int .u8 3), .lit (.int .u8 9), .lit (.int .u8 25), .lit (.int .u8 17), .lit (.int .u8 11), .lit (.int .u8 27), .lit (.int .u8 19), .lit (.int .u8 10)]
def laid_dactyl_linear_letters {H : Type} : DataW H := .agg [.lit (.int .u8 1), .lit (.int .u8 3), .lit (.int .u8 9), .lit (.int .u8 25), .lit (.int .u8 17), .lit (.int .u8 11), .lit (.int .u8 27), .lit (.int .u8 19), .lit (.int .u8 10), .lit (.int .u8 26), .lit (.int .u8 5), .lit (.int .u8 7), .lit (.int .u8 13), .lit (.int .u8 29), .lit (.int .u8 21), .lit (.int .u8 15), .lit (.int .u8 31), .lit (.int .u8 23), .lit (.int .u8 14), .lit (.int .u8 30), .lit (.int .u8 37), .lit (.int .u8 39), .lit (.int .u8 58), .lit (.int .u8 45), .lit (.int .u8 61), .lit (.int .u8 53)]
def laid_dactyl_linear_cells {H : Type} : DataW H := .agg [.lit (.int .u8 22), .lit (.int .u8 36), .lit (.int .u8 33), .lit (.int .u8 12), .lit (.int .u8 24), .lit (.int .u8 54), .lit (.int .u8 42), .lit (.int .u8 28), .lit (.int .u8 55), .lit (.int .u8 62)]

/-- 'dactyllaw12.FormulaPrints': WHATEVER THE INPUT: true; the input reads as it did. -/
def formulaPrintsSpec : ChangeSpec := { name := "formulaPrints", fn := fun _ => fun
  | [d1, d2, d3, d4, d5] => { results := [.lit (.bool true)], args := [d1, d2, d3, d4, d5] }
  | _ => none }
def formulaPrintsRow : OpenClaim := { program := "ytlhdefefoaldfaadoor", sum := "d13e29483872715d0d42b38493cf841654befe3112fc688c358848ce50383f19", func := "dactyl/dactyllaw12.FormulaPrints", spec := "formulaPrints", unfollowed := true, recurses := true, named := ["dactyl/formula.operations", "internal/strconv.uint64pow10", "math/bits.deBruijn32tab", "math/bits.deBruijn64tab", "strconv.ErrSyntax", "strconv.ErrRange"], apart := false, laid := [("math/bits.deBruijn32tab", laid_math_bits_deBruijn32tab), ("math/bits.deBruijn64tab", laid_math_bits_deBruijn64tab), ("internal/strconv.uint64pow10", laid_internal_strconv_uint64pow10), ("strconv.ErrRange", laid_strconv_ErrRange), ("strconv.ErrSyntax", laid_strconv_ErrSyntax), ("dactyl/formula.operations", laid_dactyl_formula_operations)] }
def FormulaPrintsSaid : Prop := formulaPrintsRow.holds Tryd.pinned (OpenSpec.ofChange formulaPrintsSpec)

/-- ITS FALSE NEIGHBOUR: 'it returns false'. Refute it at one input. -/
def formulaPrintsWrong : ChangeSpec := { name := "formulaPrints", fn := fun _ => fun
  | [d1, d2, d3, d4, d5] => { results := [.lit (.bool false)], args := [d1, d2, d3, d4, d5] }
  | _ => none }
def FormulaPrintsWrongFalsely : Prop := formulaPrintsRow.holds Tryd.pinned (OpenSpec.ofChange formulaPrintsWrong)

/-- 'dactyllaw12.FormulaParses': WHATEVER THE INPUT: true; the input reads as it did. -/
def formulaParsesSpec : ChangeSpec := { name := "formulaParses", fn := fun _ => fun
  | [d1, d2, d3, d4, d5, d6, d7] => { results := [.lit (.bool true)], args := [d1, d2, d3, d4, d5, d6, d7] }
  | _ => none }
def formulaParsesRow : OpenClaim := { program := "ytlhdefefoaldfaadoor", sum := "d13e29483872715d0d42b38493cf841654befe3112fc688c358848ce50383f19", func := "dactyl/dactyllaw12.FormulaParses", spec := "formulaParses", unfollowed := true, recurses := true, named := ["dactyl/formula.operations", "strconv.ErrSyntax", "strconv.ErrRange", "internal/strconv.uint64pow10", "math/bits.deBruijn32tab", "math/bits.deBruijn64tab"], apart := false, laid := [("math/bits.deBruijn32tab", laid_math_bits_deBruijn32tab), ("math/bits.deBruijn64tab", laid_math_bits_deBruijn64tab), ("internal/strconv.uint64pow10", laid_internal_strconv_uint64pow10), ("strconv.ErrRange", laid_strconv_ErrRange), ("strconv.ErrSyntax", laid_strconv_ErrSyntax), ("dactyl/formula.operations", laid_dactyl_formula_operations)] }
def FormulaParsesSaid : Prop := formulaParsesRow.holds Tryd.pinned (OpenSpec.ofChange formulaParsesSpec)

/-- ITS FALSE NEIGHBOUR: 'it returns false'. Refute it at one input. -/
def formulaParsesWrong : ChangeSpec := { name := "formulaParses", fn := fun _ => fun
  | [d1, d2, d3, d4, d5, d6, d7] => { results := [.lit (.bool false)], args := [d1, d2, d3, d4, d5, d6, d7] }
  | _ => none }
def FormulaParsesWrongFalsely : Prop := formulaParsesRow.holds Tryd.pinned (OpenSpec.ofChange formulaParsesWrong)

/-- 'dactyllaw12.FormulaBlanks': WHATEVER THE INPUT: true; the input reads as it did. -/
def formulaBlanksSpec : ChangeSpec := { name := "formulaBlanks", fn := fun _ => fun
  | [d1, d2, d3] => { results := [.lit (.bool true)], args := [d1, d2, d3] }
  | _ => none }
def formulaBlanksRow : OpenClaim := { program := "ytlhdefefoaldfaadoor", sum := "d13e29483872715d0d42b38493cf841654befe3112fc688c358848ce50383f19", func := "dactyl/dactyllaw12.FormulaBlanks", spec := "formulaBlanks", unfollowed := true, recurses := true, named := ["dactyl/formula.operations", "internal/strconv.uint64pow10", "math/bits.deBruijn32tab", "math/bits.deBruijn64tab", "strconv.ErrSyntax", "strconv.ErrRange"], apart := false, laid := [("math/bits.deBruijn32tab", laid_math_bits_deBruijn32tab), ("math/bits.deBruijn64tab", laid_math_bits_deBruijn64tab), ("internal/strconv.uint64pow10", laid_internal_strconv_uint64pow10), ("strconv.ErrRange", laid_strconv_ErrRange), ("strconv.ErrSyntax", laid_strconv_ErrSyntax), ("dactyl/formula.operations", laid_dactyl_formula_operations)] }
def FormulaBlanksSaid : Prop := formulaBlanksRow.holds Tryd.pinned (OpenSpec.ofChange formulaBlanksSpec)

/-- ITS FALSE NEIGHBOUR: 'it returns false'. Refute it at one input. -/
def formulaBlanksWrong : ChangeSpec := { name := "formulaBlanks", fn := fun _ => fun
  | [d1, d2, d3] => { results := [.lit (.bool false)], args := [d1, d2, d3] }
  | _ => none }
def FormulaBlanksWrongFalsely : Prop := formulaBlanksRow.holds Tryd.pinned (OpenSpec.ofChange formulaBlanksWrong)

/-- 'dactyllaw12.FormulaNeeded': WHATEVER THE INPUT: true; the input reads as it did. -/
def formulaNeededSpec : ChangeSpec := { name := "formulaNeeded", fn := fun _ => fun
  | [d1, d2] => { results := [.lit (.bool true)], args := [d1, d2] }
  | _ => none }
def formulaNeededRow : OpenClaim := { program := "ytlhdefefoaldfaadoor", sum := "d13e29483872715d0d42b38493cf841654befe3112fc688c358848ce50383f19", func := "dactyl/dactyllaw12.FormulaNeeded", spec := "formulaNeeded", unfollowed := true, recurses := true, named := ["dactyl/formula.operations", "internal/strconv.uint64pow10", "math/bits.deBruijn32tab", "math/bits.deBruijn64tab", "strconv.ErrSyntax", "strconv.ErrRange"], apart := false, laid := [("math/bits.deBruijn32tab", laid_math_bits_deBruijn32tab), ("math/bits.deBruijn64tab", laid_math_bits_deBruijn64tab), ("internal/strconv.uint64pow10", laid_internal_strconv_uint64pow10), ("strconv.ErrRange", laid_strconv_ErrRange), ("strconv.ErrSyntax", laid_strconv_ErrSyntax), ("dactyl/formula.operations", laid_dactyl_formula_operations)] }
def FormulaNeededSaid : Prop := formulaNeededRow.holds Tryd.pinned (OpenSpec.ofChange formulaNeededSpec)

/-- ITS FALSE NEIGHBOUR: 'it returns false'. Refute it at one input. -/
def formulaNeededWrong : ChangeSpec := { name := "formulaNeeded", fn := fun _ => fun
  | [d1, d2] => { results := [.lit (.bool false)], args := [d1, d2] }
  | _ => none }
def FormulaNeededWrongFalsely : Prop := formulaNeededRow.holds Tryd.pinned (OpenSpec.ofChange formulaNeededWrong)

/-- 'dactyllaw12.FormulaRules': WHATEVER THE INPUT: true; the input reads as it did. -/
def formulaRulesSpec : ChangeSpec := { name := "formulaRules", fn := fun _ => fun
  | [d1, d2, d3, d4] => { results := [.lit (.bool true)], args := [d1, d2, d3, d4] }
  | _ => none }
def formulaRulesRow : OpenClaim := { program := "ytlhdefefoaldfaadoor", sum := "d13e29483872715d0d42b38493cf841654befe3112fc688c358848ce50383f19", func := "dactyl/dactyllaw12.FormulaRules", spec := "formulaRules", unfollowed := true, recurses := true, named := ["dactyl/formula.operations", "strconv.ErrSyntax", "strconv.ErrRange", "internal/strconv.uint64pow10", "math/bits.deBruijn32tab", "math/bits.deBruijn64tab"], apart := false, laid := [("math/bits.deBruijn32tab", laid_math_bits_deBruijn32tab), ("math/bits.deBruijn64tab", laid_math_bits_deBruijn64tab), ("internal/strconv.uint64pow10", laid_internal_strconv_uint64pow10), ("strconv.ErrRange", laid_strconv_ErrRange), ("strconv.ErrSyntax", laid_strconv_ErrSyntax), ("dactyl/formula.operations", laid_dactyl_formula_operations)] }
def FormulaRulesSaid : Prop := formulaRulesRow.holds Tryd.pinned (OpenSpec.ofChange formulaRulesSpec)

/-- ITS FALSE NEIGHBOUR: 'it returns false'. Refute it at one input. -/
def formulaRulesWrong : ChangeSpec := { name := "formulaRules", fn := fun _ => fun
  | [d1, d2, d3, d4] => { results := [.lit (.bool false)], args := [d1, d2, d3, d4] }
  | _ => none }
def FormulaRulesWrongFalsely : Prop := formulaRulesRow.holds Tryd.pinned (OpenSpec.ofChange formulaRulesWrong)

/-- 'dactyllaw12.FormulaValues': WHATEVER THE INPUT: true; the input reads as it did. -/
def formulaValuesSpec : ChangeSpec := { name := "formulaValues", fn := fun _ => fun
  | [d1, d2, d3, d4, d5, d6] => { results := [.lit (.bool true)], args := [d1, d2, d3, d4, d5, d6] }
  | _ => none }
def formulaValuesRow : OpenClaim := { program := "ytlhdefefoaldfaadoor", sum := "d13e29483872715d0d42b38493cf841654befe3112fc688c358848ce50383f19", func := "dactyl/dactyllaw12.FormulaValues", spec := "formulaValues", unfollowed := true, recurses := true, named := ["dactyl/formula.operations", "strconv.ErrSyntax", "strconv.ErrRange", "internal/strconv.uint64pow10", "math/bits.deBruijn32tab", "math/bits.deBruijn64tab"], apart := false, laid := [("math/bits.deBruijn32tab", laid_math_bits_deBruijn32tab), ("math/bits.deBruijn64tab", laid_math_bits_deBruijn64tab), ("internal/strconv.uint64pow10", laid_internal_strconv_uint64pow10), ("strconv.ErrRange", laid_strconv_ErrRange), ("strconv.ErrSyntax", laid_strconv_ErrSyntax), ("dactyl/formula.operations", laid_dactyl_formula_operations)] }
def FormulaValuesSaid : Prop := formulaValuesRow.holds Tryd.pinned (OpenSpec.ofChange formulaValuesSpec)

/-- ITS FALSE NEIGHBOUR: 'it returns false'. Refute it at one input. -/
def formulaValuesWrong : ChangeSpec := { name := "formulaValues", fn := fun _ => fun
  | [d1, d2, d3, d4, d5, d6] => { results := [.lit (.bool false)], args := [d1, d2, d3, d4, d5, d6] }
  | _ => none }
def FormulaValuesWrongFalsely : Prop := formulaValuesRow.holds Tryd.pinned (OpenSpec.ofChange formulaValuesWrong)

/-- 'dactyllaw12.FormulaValid': WHATEVER THE INPUT: true; the input reads as it did. -/
def formulaValidSpec : ChangeSpec := { name := "formulaValid", fn := fun _ => fun
  | [d1, d2, d3, d4, d5] => { results := [.lit (.bool true)], args := [d1, d2, d3, d4, d5] }
  | _ => none }
def formulaValidRow : OpenClaim := { program := "ytlhdefefoaldfaadoor", sum := "d13e29483872715d0d42b38493cf841654befe3112fc688c358848ce50383f19", func := "dactyl/dactyllaw12.FormulaValid", spec := "formulaValid", unfollowed := true, recurses := true, named := ["dactyl/formula.operations", "strconv.ErrSyntax", "strconv.ErrRange", "internal/strconv.uint64pow10", "math/bits.deBruijn32tab", "math/bits.deBruijn64tab"], apart := false, laid := [("math/bits.deBruijn32tab", laid_math_bits_deBruijn32tab), ("math/bits.deBruijn64tab", laid_math_bits_deBruijn64tab), ("internal/strconv.uint64pow10", laid_internal_strconv_uint64pow10), ("strconv.ErrRange", laid_strconv_ErrRange), ("strconv.ErrSyntax", laid_strconv_ErrSyntax), ("dactyl/formula.operations", laid_dactyl_formula_operations)] }
def FormulaValidSaid : Prop := formulaValidRow.holds Tryd.pinned (OpenSpec.ofChange formulaValidSpec)

/-- ITS FALSE NEIGHBOUR: 'it returns false'. Refute it at one input. -/
def formulaValidWrong : ChangeSpec := { name := "formulaValid", fn := fun _ => fun
  | [d1, d2, d3, d4, d5] => { results := [.lit (.bool false)], args := [d1, d2, d3, d4, d5] }
  | _ => none }
def FormulaValidWrongFalsely : Prop := formulaValidRow.holds Tryd.pinned (OpenSpec.ofChange formulaValidWrong)

/-- 'dactyllaw13.LinearText': WHATEVER THE INPUT: true; the input reads as it did. -/
def linearTextSpec : ChangeSpec := { name := "linearText", fn := fun _ => fun
  | [d] => { results := [.lit (.bool true)], args := [d] }
  | _ => none }
def linearTextRow : OpenClaim := { program := "ytlhdefefoaldfaadoor", sum := "d13e29483872715d0d42b38493cf841654befe3112fc688c358848ce50383f19", func := "dactyl/dactyllaw13.LinearText", spec := "linearText", inPlace := ["internal/bytealg.IndexByteString", "internal/bytealg.IndexString", "internal/bytealg.IndexByte", "internal/abi.NoEscape"], unfollowed := true, recurses := true, named := ["dactyl/formula.operations", "internal/strconv.uint64pow10", "math/bits.deBruijn32tab", "math/bits.deBruijn64tab", "dactyl/linear.digits", "dactyl/linear.letters", "dactyl/linear.cells", "strconv.ErrSyntax", "strconv.ErrRange", "internal/bytealg.MaxLen"], apart := false, laid := [("math/bits.deBruijn32tab", laid_math_bits_deBruijn32tab), ("math/bits.deBruijn64tab", laid_math_bits_deBruijn64tab), ("internal/strconv.uint64pow10", laid_internal_strconv_uint64pow10), ("strconv.ErrRange", laid_strconv_ErrRange), ("strconv.ErrSyntax", laid_strconv_ErrSyntax), ("dactyl/formula.operations", laid_dactyl_formula_operations), ("dactyl/linear.digits", laid_dactyl_linear_digits), ("dactyl/linear.letters", laid_dactyl_linear_letters), ("dactyl/linear.cells", laid_dactyl_linear_cells)] }
def LinearTextSaid : Prop := linearTextRow.holds Tryd.pinned (OpenSpec.ofChange linearTextSpec)

/-- ITS FALSE NEIGHBOUR: 'it returns false'. Refute it at one input. -/
def linearTextWrong : ChangeSpec := { name := "linearText", fn := fun _ => fun
  | [d] => { results := [.lit (.bool false)], args := [d] }
  | _ => none }
def LinearTextWrongFalsely : Prop := linearTextRow.holds Tryd.pinned (OpenSpec.ofChange linearTextWrong)

/-- 'dactyllaw13.LinearBack': WHATEVER THE INPUT: true; the input reads as it did. -/
def linearBackSpec : ChangeSpec := { name := "linearBack", fn := fun _ => fun
  | [d1, d2, d3, d4] => { results := [.lit (.bool true)], args := [d1, d2, d3, d4] }
  | _ => none }
def linearBackRow : OpenClaim := { program := "ytlhdefefoaldfaadoor", sum := "d13e29483872715d0d42b38493cf841654befe3112fc688c358848ce50383f19", func := "dactyl/dactyllaw13.LinearBack", spec := "linearBack", inPlace := ["internal/bytealg.IndexByteString", "internal/bytealg.IndexString", "internal/bytealg.IndexByte", "internal/abi.NoEscape"], unfollowed := true, recurses := true, named := ["dactyl/formula.operations", "internal/strconv.uint64pow10", "math/bits.deBruijn32tab", "math/bits.deBruijn64tab", "dactyl/linear.digits", "dactyl/linear.letters", "dactyl/linear.cells", "strconv.ErrSyntax", "strconv.ErrRange", "internal/bytealg.MaxLen"], apart := false, laid := [("math/bits.deBruijn32tab", laid_math_bits_deBruijn32tab), ("math/bits.deBruijn64tab", laid_math_bits_deBruijn64tab), ("internal/strconv.uint64pow10", laid_internal_strconv_uint64pow10), ("strconv.ErrRange", laid_strconv_ErrRange), ("strconv.ErrSyntax", laid_strconv_ErrSyntax), ("dactyl/formula.operations", laid_dactyl_formula_operations), ("dactyl/linear.digits", laid_dactyl_linear_digits), ("dactyl/linear.letters", laid_dactyl_linear_letters), ("dactyl/linear.cells", laid_dactyl_linear_cells)] }
def LinearBackSaid : Prop := linearBackRow.holds Tryd.pinned (OpenSpec.ofChange linearBackSpec)

/-- ITS FALSE NEIGHBOUR: 'it returns false'. Refute it at one input. -/
def linearBackWrong : ChangeSpec := { name := "linearBack", fn := fun _ => fun
  | [d1, d2, d3, d4] => { results := [.lit (.bool false)], args := [d1, d2, d3, d4] }
  | _ => none }
def LinearBackWrongFalsely : Prop := linearBackRow.holds Tryd.pinned (OpenSpec.ofChange linearBackWrong)

/- THE SECOND FORM. 'bulk': how many values and letters a reading holds, each counted each time it is reached (what is shared counts as often as it is met; a slice's spare places count too). A statement '..UptoSaid' is the law's where the arguments, and the package variables that the reading takes, are together of bulk at most 1048576: NARROWER than '..Said'. Prove '..Said' where nothing that the law and all that it calls make is longer than what came in: it says more and counts as full. Else prove '..UptoSaid'. A law counts once. -/
mutual
def uptoBulk {H : Type} : DataW H → Nat
  | .lit (.string bytes) => bytes.length + 1
  | .lit _ => 1
  | .nil => 1
  | .ptr d => uptoBulk d + 1
  | .slice elems spare => uptoBulkAll elems + uptoBulkAll spare + 1
  | .agg parts => uptoBulkAll parts + 1
  | .iface _ d => uptoBulk d + 1
  | .map entries => uptoBulkEntries entries + 1
  | .held _ => 1
def uptoBulkAll {H : Type} : List (DataW H) → Nat
  | [] => 0
  | d :: r => uptoBulk d + uptoBulkAll r
def uptoBulkEntries {H : Type} : List (Lit × DataW H) → Nat
  | [] => 0
  | x :: r => uptoBulkEntry x + uptoBulkEntries r
def uptoBulkEntry {H : Type} : Lit × DataW H → Nat
  | (.string bytes, d) => bytes.length + uptoBulk d + 1
  | (_, d) => uptoBulk d + 1
 end
def uptoSmall : (H : Type) → List (DataW H) → Bool := fun _ ds => decide (uptoBulkAll ds ≤ 1048576)
def OpenSpec.upto (s : _root_.Go.ChangeSpec) : _root_.Go.OpenSpec := { _root_.Go.OpenSpec.ofChange s with cond := some uptoSmall }

/-- 'dactyllaw12.FormulaPrints', WHERE WHAT IT READS IS OF BULK AT MOST 1048576: true; the input reads as it did. -/
def formulaPrintsUptoRow : OpenClaim := { program := "ytlhdefefoaldfaadoor", sum := "d13e29483872715d0d42b38493cf841654befe3112fc688c358848ce50383f19", func := "dactyl/dactyllaw12.FormulaPrints", spec := "formulaPrints", unfollowed := true, recurses := true, named := ["dactyl/formula.operations", "internal/strconv.uint64pow10", "math/bits.deBruijn32tab", "math/bits.deBruijn64tab", "strconv.ErrSyntax", "strconv.ErrRange"], apart := false, laid := [("math/bits.deBruijn32tab", laid_math_bits_deBruijn32tab), ("math/bits.deBruijn64tab", laid_math_bits_deBruijn64tab), ("internal/strconv.uint64pow10", laid_internal_strconv_uint64pow10), ("strconv.ErrRange", laid_strconv_ErrRange), ("strconv.ErrSyntax", laid_strconv_ErrSyntax), ("dactyl/formula.operations", laid_dactyl_formula_operations)], narrowed := true }
def FormulaPrintsUptoSaid : Prop := formulaPrintsUptoRow.holds Tryd.pinned (OpenSpec.upto formulaPrintsSpec)

/-- 'dactyllaw12.FormulaParses', WHERE WHAT IT READS IS OF BULK AT MOST 1048576: true; the input reads as it did. -/
def formulaParsesUptoRow : OpenClaim := { program := "ytlhdefefoaldfaadoor", sum := "d13e29483872715d0d42b38493cf841654befe3112fc688c358848ce50383f19", func := "dactyl/dactyllaw12.FormulaParses", spec := "formulaParses", unfollowed := true, recurses := true, named := ["dactyl/formula.operations", "strconv.ErrSyntax", "strconv.ErrRange", "internal/strconv.uint64pow10", "math/bits.deBruijn32tab", "math/bits.deBruijn64tab"], apart := false, laid := [("math/bits.deBruijn32tab", laid_math_bits_deBruijn32tab), ("math/bits.deBruijn64tab", laid_math_bits_deBruijn64tab), ("internal/strconv.uint64pow10", laid_internal_strconv_uint64pow10), ("strconv.ErrRange", laid_strconv_ErrRange), ("strconv.ErrSyntax", laid_strconv_ErrSyntax), ("dactyl/formula.operations", laid_dactyl_formula_operations)], narrowed := true }
def FormulaParsesUptoSaid : Prop := formulaParsesUptoRow.holds Tryd.pinned (OpenSpec.upto formulaParsesSpec)

/-- 'dactyllaw12.FormulaBlanks', WHERE WHAT IT READS IS OF BULK AT MOST 1048576: true; the input reads as it did. -/
def formulaBlanksUptoRow : OpenClaim := { program := "ytlhdefefoaldfaadoor", sum := "d13e29483872715d0d42b38493cf841654befe3112fc688c358848ce50383f19", func := "dactyl/dactyllaw12.FormulaBlanks", spec := "formulaBlanks", unfollowed := true, recurses := true, named := ["dactyl/formula.operations", "internal/strconv.uint64pow10", "math/bits.deBruijn32tab", "math/bits.deBruijn64tab", "strconv.ErrSyntax", "strconv.ErrRange"], apart := false, laid := [("math/bits.deBruijn32tab", laid_math_bits_deBruijn32tab), ("math/bits.deBruijn64tab", laid_math_bits_deBruijn64tab), ("internal/strconv.uint64pow10", laid_internal_strconv_uint64pow10), ("strconv.ErrRange", laid_strconv_ErrRange), ("strconv.ErrSyntax", laid_strconv_ErrSyntax), ("dactyl/formula.operations", laid_dactyl_formula_operations)], narrowed := true }
def FormulaBlanksUptoSaid : Prop := formulaBlanksUptoRow.holds Tryd.pinned (OpenSpec.upto formulaBlanksSpec)

/-- 'dactyllaw12.FormulaNeeded', WHERE WHAT IT READS IS OF BULK AT MOST 1048576: true; the input reads as it did. -/
def formulaNeededUptoRow : OpenClaim := { program := "ytlhdefefoaldfaadoor", sum := "d13e29483872715d0d42b38493cf841654befe3112fc688c358848ce50383f19", func := "dactyl/dactyllaw12.FormulaNeeded", spec := "formulaNeeded", unfollowed := true, recurses := true, named := ["dactyl/formula.operations", "internal/strconv.uint64pow10", "math/bits.deBruijn32tab", "math/bits.deBruijn64tab", "strconv.ErrSyntax", "strconv.ErrRange"], apart := false, laid := [("math/bits.deBruijn32tab", laid_math_bits_deBruijn32tab), ("math/bits.deBruijn64tab", laid_math_bits_deBruijn64tab), ("internal/strconv.uint64pow10", laid_internal_strconv_uint64pow10), ("strconv.ErrRange", laid_strconv_ErrRange), ("strconv.ErrSyntax", laid_strconv_ErrSyntax), ("dactyl/formula.operations", laid_dactyl_formula_operations)], narrowed := true }
def FormulaNeededUptoSaid : Prop := formulaNeededUptoRow.holds Tryd.pinned (OpenSpec.upto formulaNeededSpec)

/-- 'dactyllaw12.FormulaRules', WHERE WHAT IT READS IS OF BULK AT MOST 1048576: true; the input reads as it did. -/
def formulaRulesUptoRow : OpenClaim := { program := "ytlhdefefoaldfaadoor", sum := "d13e29483872715d0d42b38493cf841654befe3112fc688c358848ce50383f19", func := "dactyl/dactyllaw12.FormulaRules", spec := "formulaRules", unfollowed := true, recurses := true, named := ["dactyl/formula.operations", "strconv.ErrSyntax", "strconv.ErrRange", "internal/strconv.uint64pow10", "math/bits.deBruijn32tab", "math/bits.deBruijn64tab"], apart := false, laid := [("math/bits.deBruijn32tab", laid_math_bits_deBruijn32tab), ("math/bits.deBruijn64tab", laid_math_bits_deBruijn64tab), ("internal/strconv.uint64pow10", laid_internal_strconv_uint64pow10), ("strconv.ErrRange", laid_strconv_ErrRange), ("strconv.ErrSyntax", laid_strconv_ErrSyntax), ("dactyl/formula.operations", laid_dactyl_formula_operations)], narrowed := true }
def FormulaRulesUptoSaid : Prop := formulaRulesUptoRow.holds Tryd.pinned (OpenSpec.upto formulaRulesSpec)

/-- 'dactyllaw12.FormulaValues', WHERE WHAT IT READS IS OF BULK AT MOST 1048576: true; the input reads as it did. -/
def formulaValuesUptoRow : OpenClaim := { program := "ytlhdefefoaldfaadoor", sum := "d13e29483872715d0d42b38493cf841654befe3112fc688c358848ce50383f19", func := "dactyl/dactyllaw12.FormulaValues", spec := "formulaValues", unfollowed := true, recurses := true, named := ["dactyl/formula.operations", "strconv.ErrSyntax", "strconv.ErrRange", "internal/strconv.uint64pow10", "math/bits.deBruijn32tab", "math/bits.deBruijn64tab"], apart := false, laid := [("math/bits.deBruijn32tab", laid_math_bits_deBruijn32tab), ("math/bits.deBruijn64tab", laid_math_bits_deBruijn64tab), ("internal/strconv.uint64pow10", laid_internal_strconv_uint64pow10), ("strconv.ErrRange", laid_strconv_ErrRange), ("strconv.ErrSyntax", laid_strconv_ErrSyntax), ("dactyl/formula.operations", laid_dactyl_formula_operations)], narrowed := true }
def FormulaValuesUptoSaid : Prop := formulaValuesUptoRow.holds Tryd.pinned (OpenSpec.upto formulaValuesSpec)

/-- 'dactyllaw12.FormulaValid', WHERE WHAT IT READS IS OF BULK AT MOST 1048576: true; the input reads as it did. -/
def formulaValidUptoRow : OpenClaim := { program := "ytlhdefefoaldfaadoor", sum := "d13e29483872715d0d42b38493cf841654befe3112fc688c358848ce50383f19", func := "dactyl/dactyllaw12.FormulaValid", spec := "formulaValid", unfollowed := true, recurses := true, named := ["dactyl/formula.operations", "strconv.ErrSyntax", "strconv.ErrRange", "internal/strconv.uint64pow10", "math/bits.deBruijn32tab", "math/bits.deBruijn64tab"], apart := false, laid := [("math/bits.deBruijn32tab", laid_math_bits_deBruijn32tab), ("math/bits.deBruijn64tab", laid_math_bits_deBruijn64tab), ("internal/strconv.uint64pow10", laid_internal_strconv_uint64pow10), ("strconv.ErrRange", laid_strconv_ErrRange), ("strconv.ErrSyntax", laid_strconv_ErrSyntax), ("dactyl/formula.operations", laid_dactyl_formula_operations)], narrowed := true }
def FormulaValidUptoSaid : Prop := formulaValidUptoRow.holds Tryd.pinned (OpenSpec.upto formulaValidSpec)

/-- 'dactyllaw13.LinearText', WHERE WHAT IT READS IS OF BULK AT MOST 1048576: true; the input reads as it did. -/
def linearTextUptoRow : OpenClaim := { program := "ytlhdefefoaldfaadoor", sum := "d13e29483872715d0d42b38493cf841654befe3112fc688c358848ce50383f19", func := "dactyl/dactyllaw13.LinearText", spec := "linearText", inPlace := ["internal/bytealg.IndexByteString", "internal/bytealg.IndexString", "internal/bytealg.IndexByte", "internal/abi.NoEscape"], unfollowed := true, recurses := true, named := ["dactyl/formula.operations", "internal/strconv.uint64pow10", "math/bits.deBruijn32tab", "math/bits.deBruijn64tab", "dactyl/linear.digits", "dactyl/linear.letters", "dactyl/linear.cells", "strconv.ErrSyntax", "strconv.ErrRange", "internal/bytealg.MaxLen"], apart := false, laid := [("math/bits.deBruijn32tab", laid_math_bits_deBruijn32tab), ("math/bits.deBruijn64tab", laid_math_bits_deBruijn64tab), ("internal/strconv.uint64pow10", laid_internal_strconv_uint64pow10), ("strconv.ErrRange", laid_strconv_ErrRange), ("strconv.ErrSyntax", laid_strconv_ErrSyntax), ("dactyl/formula.operations", laid_dactyl_formula_operations), ("dactyl/linear.digits", laid_dactyl_linear_digits), ("dactyl/linear.letters", laid_dactyl_linear_letters), ("dactyl/linear.cells", laid_dactyl_linear_cells)], narrowed := true }
def LinearTextUptoSaid : Prop := linearTextUptoRow.holds Tryd.pinned (OpenSpec.upto linearTextSpec)

/-- 'dactyllaw13.LinearBack', WHERE WHAT IT READS IS OF BULK AT MOST 1048576: true; the input reads as it did. -/
def linearBackUptoRow : OpenClaim := { program := "ytlhdefefoaldfaadoor", sum := "d13e29483872715d0d42b38493cf841654befe3112fc688c358848ce50383f19", func := "dactyl/dactyllaw13.LinearBack", spec := "linearBack", inPlace := ["internal/bytealg.IndexByteString", "internal/bytealg.IndexString", "internal/bytealg.IndexByte", "internal/abi.NoEscape"], unfollowed := true, recurses := true, named := ["dactyl/formula.operations", "internal/strconv.uint64pow10", "math/bits.deBruijn32tab", "math/bits.deBruijn64tab", "dactyl/linear.digits", "dactyl/linear.letters", "dactyl/linear.cells", "strconv.ErrSyntax", "strconv.ErrRange", "internal/bytealg.MaxLen"], apart := false, laid := [("math/bits.deBruijn32tab", laid_math_bits_deBruijn32tab), ("math/bits.deBruijn64tab", laid_math_bits_deBruijn64tab), ("internal/strconv.uint64pow10", laid_internal_strconv_uint64pow10), ("strconv.ErrRange", laid_strconv_ErrRange), ("strconv.ErrSyntax", laid_strconv_ErrSyntax), ("dactyl/formula.operations", laid_dactyl_formula_operations), ("dactyl/linear.digits", laid_dactyl_linear_digits), ("dactyl/linear.letters", laid_dactyl_linear_letters), ("dactyl/linear.cells", laid_dactyl_linear_cells)], narrowed := true }
def LinearBackUptoSaid : Prop := linearBackUptoRow.holds Tryd.pinned (OpenSpec.upto linearBackSpec)

end Rows
end Go.Proofs.YtlhdefefoaldfaaDoor
