/- The reader of the reference. Conditions are in the theorems. -/
import Derived.Test.YtlhdefefoaldfaaGreatDoorG5
import Derived.Test.YtlhdefefoaldfaaGreatDoorF4
/- The reference's reader: what it sees, takes, needs, numerals. -/
namespace Go.Proofs
open Go Go.Ax Go.Ax.Alg
section
variable {N:Nat} {s l:Tx} {b:Bool} (hs:s.length < 2 ^ 62) (h:l <:+ s) (hN:s.length < N)
include hs h hN
end
section
variable {N:Nat} {s:Tx} {c:UInt8} {i j:Int} {a b d:Bool}
end
end Go.Proofs
/- The reference's reader: atoms, factors, terms, sums, round by round. -/
namespace Go.Proofs
open Go Go.Ax Go.Ax.Alg
abbrev Vr:=Int×Int×List Ex×Tx×Int×Bool
abbrev Fr:=Tx->Int->Bool->Option Vr
abbrev Rr:=Fr×Fr×Fr×Fr
section
variable {N:Nat} {rc:Rr} {s l:Tx} (hs:s.length < 2 ^ 62) (h:l <:+ s) (hN:s.length < N)
include hs h hN
end
section
variable {N m:Nat} {rc:Rr} {s l:Tx} {a b x y:Int} {z:List Ex} {K:Tx×Int×Bool×Int×Int×Int×Int×List Ex->O} {k1 k2:Unit->O} (hs:s.length < 2 ^ 62) (h:l <:+ s) (hN:s.length < N)
include hs h hN
end
section
variable {N m:Nat} {rc:Rr} {s l:Tx} {a b x y:Int} {z:List Ex} {K:Tx×Int×Bool×Int×Int×Int×Int×List Ex->O} {k1 k2:Unit->O} (hs:s.length < 2 ^ 62) (h:l <:+ s) (hN:s.length < N)
include hs h hN
end
end Go.Proofs
/- The reference's Parse: what it returns for any text. -/
namespace Go.Proofs
open Go Go.Ax Go.Ax.Alg
abbrev gR (N n:Nat):Rr:=w112gY N n
end Go.Proofs
/- Both Parses return the same. -/
namespace Go.Proofs
open Go Go.Ax Go.Ax.Alg
section
variable {N:Nat} {s:Tx} {i j x y:Int} {z:List Ex} {b d:Bool}
end
end Go.Proofs
