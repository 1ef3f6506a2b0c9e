/- The own reader. Conditions are in the theorems. -/
import Derived.Test.YtlhdefefoaldfaaGreatDoorG4
import Derived.Test.YtlhdefefoaldfaaGreatDoorF1
import Derived.Test.YtlhdefefoaldfaaGreatDoorF5
import Derived.Test.YtlhdefefoaldfaaGreatDoorG1
/- The own reader: what it sees, what it needs, numerals, operations. -/
namespace Go.Proofs
open Go Go.Ax Go.Ax.Alg
def at_ (s l:Tx):Int:=((s.length - l.length:Nat):Int)
section
variable {N:Nat} {s l:Tx} (hs:s.length < 2 ^ 62) (h:l <:+ s) (hN:s.length < N)
include hs h hN
end
section
variable {N:Nat} {s l:Tx} (hs:s.length < 2 ^ 62) (h:l <:+ s) (hN:s.length < N) {c:UInt8}
include hs h hN
end
section
variable {N:Nat} {s t:Tx} {c:UInt8} (hs:s.length < 2 ^ 62) (h:(c::t) <:+ s) (hN:s.length < N) (hd:dig c=true)
include hs h hN hd
end
abbrev opsL:List (Int×(Int×(Int×UInt8))):=[(0,999999,4,0),(0,25,4,0),(1,0,3,45),(2,0,1,43),(2,0,1,45),(2,0,2,42),(2,0,2,47),(2,0,3,94),(1,0,4,82),(2,0,0,61),(2,0,0,60)]
end Go.Proofs
/- The own reader: atoms, factors, levels, round by round. -/
namespace Go.Proofs
open Go Go.Ax Go.Ax.Alg
abbrev Rs:=(Int×Int×List Ex×Tx×Int) ⊕ (Int×Tx×Int)
abbrev Rc:=(Tx→Int→Option Rs)×(Tx→Int→Option Rs)×(Int→Tx→Int→Option Rs)
def enc (s:Tx):Pr→Rs
 | .ok e t=>.inl (e.op,e.num,e.kids,s,at_ s t)
 | .bad b=>.inr (at_ s b,s,at_ s b)
section
variable {N:Nat} {c:UInt8} {s:Tx} {i j:Int}
theorem sg {α:Type} {x d:α}:(some x).getD d=x:=rfl
theorem sm {α:Type} {x:α}:(some x).isSome=true:=rfl
end
section
variable {N:Nat} {rc:Rc} {s l:Tx} (hs:s.length < 2 ^ 62) (h:l <:+ s) (hN:s.length < N)
include hs h hN
end
end Go.Proofs
/- The own reader: what it does with any text. -/
namespace Go.Proofs
open Go Go.Ax Go.Ax.Alg
section
variable {N:Nat} {rc:Rc} {s l:Tx} (hs:s.length < 2 ^ 62) (h:l <:+ s) (hN:s.length < N)
include hs h hN
end
abbrev gT (N n:Nat):Rc:=w106gY N n
end Go.Proofs
/- Parse: what it returns for any text. -/
namespace Go.Proofs
open Go Go.Ax Go.Ax.Alg
section
variable {N:Nat} {s:Tx} {d:Int×Int×List Ex×Int×Int} (h:w42v N s=some d)
include h
end
end Go.Proofs
