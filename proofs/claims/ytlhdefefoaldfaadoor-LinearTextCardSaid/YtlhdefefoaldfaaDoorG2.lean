/- Trees: which are the same. Conditions are in the theorems. -/
import Derived.Test.YtlhdefefoaldfaaDoorG1
/- A tree with one node changed. -/
namespace Go.Proofs
open Go Go.Ax Go.Ax.Alg
end Go.Proofs
/- Trees: which are the same. -/
namespace Go.Proofs
open Go Go.Ax Go.Ax.Alg
section
variable {N:Nat} {e f:Ex} (h:2 * sizeE e≤N) (hB:sizeE e < 2 ^ 58) (hB':sizeE f < 2 ^ 58)
include h hB hB'
end
end Go.Proofs
