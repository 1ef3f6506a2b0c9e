/- More rules demand no less. Conditions are in the theorems. -/
import Derived.Test.YtipllfcmdnellaaDoorG2
/- More rules demand no less, and their order does not matter. -/
namespace Go.Proofs
open Go Go.Ax Go.Ax.Alg
end Go.Proofs
