/- What is known of numbers that came in. Conditions are in the theorems. -/
import Derived.Test.YtpmhkjnnolpknaaDoorG3
import Derived.Test.YtpmhkjnnolpknaaDoorG2
/- What is known of numbers that came in. -/
namespace Go.Proofs
open Go Go.Ax
theorem Nb{z:Int}(h:pI (.i .i64) z):iH z:=by
 have h:(Lit.int .i64 z).wf=true:=h;simp[Lit.wf]at h;exact h
theorem aEg{l:List Int}(h:pI (.sl (.i .i64)) l):pH l:=λx hx=>Nb (h x hx)
end Go.Proofs
