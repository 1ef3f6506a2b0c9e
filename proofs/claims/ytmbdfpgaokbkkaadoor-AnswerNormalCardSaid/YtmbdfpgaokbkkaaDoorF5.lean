/- The examples hold. Conditions are in the theorems. -/
import Derived.Test.YtmbdfpgaokbkkaaDoorF4
/- The examples hold. -/
namespace Go.Proofs
open Go Go.Ax Go.Ax.Alg
theorem w10_true:w10z 200=some true:=by kernel_rfl
theorem l10ok (N:Nat):EOk Tryd.prog 10 (l10e N):=EOk.e0 fun _=>w10fin (w10cx 200) w10_true
end Go.Proofs
