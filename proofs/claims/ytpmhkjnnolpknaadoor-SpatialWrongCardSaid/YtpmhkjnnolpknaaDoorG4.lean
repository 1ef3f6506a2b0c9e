/- What is known of numbers that came in. Conditions are in the theorems. -/
import Derived.Test.YtpmhkjnnolpknaaDoorG3
import Derived.Test.YtpmhkjnnolpknaaDoorG2
/- What is known of numbers that came in. -/
namespace Go.Proofs
open Go Go.Ax
theorem i64_w {z : Int} (h : OkV (.i .i64) z) : I64 z := by
  have h : (Lit.int .i64 z).wf = true := h
  simp [Lit.wf] at h
  exact h
theorem okl_w {l : List Int} (h : OkV (.sl (.i .i64)) l) : Okl l := fun x hx => i64_w (h x hx)
end Go.Proofs
