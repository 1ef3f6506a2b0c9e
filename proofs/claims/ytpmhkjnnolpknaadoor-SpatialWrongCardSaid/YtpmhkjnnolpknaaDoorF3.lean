/- What functions do; the examples hold. Conditions are in the theorems. -/
import Derived.Test.YtpmhkjnnolpknaaDoorF2
import Derived.Test.YtpmhkjnnolpknaaDoorE7
import Derived.Test.YtpmhkjnnolpknaaDoorF0
import Derived.Test.YtpmhkjnnolpknaaDoorProg
import Derived.KernelRfl
/- The examples hold. -/
namespace Go.Proofs
open Go Go.Ax
theorem lives60 : w20z 60 = some true := by kernel_rfl
theorem l20ok (N : Nat) : EOk Tryd.prog 20 (l20e N) := EOk.e0 (fun _ => w20fin (w20cx 60) lives60)
end Go.Proofs
/- What functions do. -/
namespace Go.Proofs
noncomputable section
open Go.Ax Go.Ax.Alg Go.RowKit Go.Ab
open Go
end
end Go.Proofs
