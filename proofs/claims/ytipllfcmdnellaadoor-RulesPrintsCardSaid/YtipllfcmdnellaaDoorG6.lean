/- Rules that contradict each other. Conditions are in the theorems. -/
import Derived.Test.YtipllfcmdnellaaDoorG4
/- Two rules that contradict each other. -/
namespace Go.Proofs
open Go Go.Ax Go.Ax.Alg
abbrev S11:=((List ((List Int)×(Int×Int)))×Bool×Int×(List ((List Int)×(Int×Int)))×Int×Int×Bool×Int×((List Int)×(Int×Int))×(List Int)×Int×Int×Int×Int×Int×Int×Int×Int×(List Int)×Int×Int)
abbrev Y11:=((List ((List Int)×(Int×Int)))×Bool×Int×(List ((List Int)×(Int×Int)))×Int×Int×Bool×Int×((List Int)×(Int×Int))×(List Int)×Int×Int×Int×Int×Int×Int×Int×(List ((List Int)×(Int×Int)))×Int×Bool×Int×Int×(List Int)×Int×Int)
end Go.Proofs
/- Where no two rules contradict each other, there is a remedy. -/
namespace Go.Proofs
open Go Go.Ax Go.Ax.Alg
end Go.Proofs
