/- What functions do: the reader of the reference. Conditions are in the theorems. -/
import Derived.Test.YtlhdefefoaldfaaGreatDoorE7
import Derived.Test.YtlhdefefoaldfaaGreatDoorProg
import Derived.KernelRfl
import Derived.Test.YtlhdefefoaldfaaGreatDoorF0
import Derived.Test.YtlhdefefoaldfaaGreatDoorF3
/- What functions do. -/
namespace Go.Proofs
noncomputable section
open Go.Ax Go.Ax.Alg Go.RowKit Go.Ab
open Go
abbrev w112T:=Nat×(((List UInt8)→Int→Bool→Option (Int×Int×(List Ex)×(List UInt8)×Int×Bool))×((List UInt8)→Int→Bool→Option (Int×Int×(List Ex)×(List UInt8)×Int×Bool))×((List UInt8)→Int→Bool→Option (Int×Int×(List Ex)×(List UInt8)×Int×Bool))×((List UInt8)→Int→Bool→Option (Int×Int×(List Ex)×(List UInt8)×Int×Bool)))
end
end Go.Proofs
/- What functions do. -/
namespace Go.Proofs
noncomputable section
open Go.Ax Go.Ax.Alg Go.RowKit Go.Ab
open Go
end
end Go.Proofs
