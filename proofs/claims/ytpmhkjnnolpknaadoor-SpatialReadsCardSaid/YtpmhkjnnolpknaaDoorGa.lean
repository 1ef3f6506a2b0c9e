/- Columns; numbers that lines write. Conditions are in the theorems. -/
import Derived.Test.YtpmhkjnnolpknaaDoorG9
import Derived.Test.YtpmhkjnnolpknaaDoorG1
/- SpatialColumns, in plain words. -/
namespace Go.Proofs
open Go Go.Ax Go.Ax.aB
end Go.Proofs
/- SpatialColumns, in plain words: the columns of an addition. -/
namespace Go.Proofs
open Go Go.Ax Go.Ax.aB
end Go.Proofs
/- Numbers that lines write: what is read of them. -/
namespace Go.Proofs
open Go Go.Ax Go.Ax.aB
def tJ(c:UInt8):Option Nat:=BK.findIdx? λy=>decide (c=y)
def nT:List UInt8->Int->Nat->Option (Int×Nat)
 |[],n,m=>some (n,m)
 |c::l,n,m=>if c=0 then nT l n m else match tJ c with
   |none=>none
   |some d=>if m=6 then none else nT l (10*n+d) (m+1)
end Go.Proofs
