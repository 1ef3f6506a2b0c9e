/- More rules demand no less. Conditions are in the theorems. -/
import Derived.Test.YtipllfcmdnellaaDoorG2
/- More rules demand no less, and their order does not matter. -/
namespace Go.Proofs
open Go Go.Ax Go.Ax.Alg
theorem upL_max (H : List Bool) (d a b : Int) (r : Rl) : upL H d (max a b) r = max a (upL H d b r) := by unfold upL; split <;> omega
theorem foldL_max (H : List Bool) (d : Int) : ∀ (l : List Rl) (a b : Int), l.foldl (upL H d) (max a b) = max a (l.foldl (upL H d) b)
  | [], _, _ => rfl
  | r :: l, a, b => by rw [List.foldl_cons, List.foldl_cons, upL_max, foldL_max H d l]
theorem lz_pos (l : List Rl) (H : List Bool) (d : Int) : 0 ≤ lz l H d := by
  have h := foldL_max H d l 0 0
  rw [show max (0 : Int) 0 = 0 from rfl] at h
  unfold lz; omega
theorem lz_app (l m : List Rl) (H : List Bool) (d : Int) : lz (l ++ m) H d = max (lz l H d) (lz m H d) := by
  show (l ++ m).foldl (upL H d) 0 = _
  have h := foldL_max H d m (lz l H d) 0
  rw [show max (lz l H d) 0 = lz l H d by have := lz_pos l H d; omega] at h
  rw [List.foldl_append]
  exact h
theorem good_app {n m : Nat} {a b : List Rl} (ha : Good n a) (hb : Good m b) : Good (n + m) (a ++ b) := by
  refine ⟨by have := ha.1; have := hb.1; rw [List.length_append]; omega, fun r h => ?_⟩
  rcases List.mem_append.1 h with h | h
  · exact ha.2 r h
  · exact hb.2 r h
theorem w16_good {n : Nat} {l : List Rl} (h : Good n l) (hn : n ≤ 32) {H : List Bool} (hH : H.length = 16) : w16z 200 l H = some (leastZ l H) := w16_eq (by have := h.1; omega) h.2 hH
theorem w12_good {n : Nat} {l : List Rl} (h : Good n l) (hn : n ≤ 32) : w12z 200 l = some l := w12_eq (by have := h.1; omega)
end Go.Proofs
