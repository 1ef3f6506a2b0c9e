/- What the laws do. Conditions are in the theorems. -/
import Derived.Test.YtpmhkjnnolpknaaDoorE7
import Derived.Test.YtpmhkjnnolpknaaDoorF0
import Derived.Test.YtpmhkjnnolpknaaDoorProg
import Derived.KernelRfl
import Derived.Test.YtpmhkjnnolpknaaDoorF2
/- What functions do. -/
namespace Go.Proofs
noncomputable section
open Go.Ax Go.Ax.aB Go.RowKit Go.Ab
open Go
end
end Go.Proofs
