/- More rules demand no less. Conditions are in the theorems. -/
import Derived.Test.YtipllfcmdnellaaDoorG2
/- More rules demand no less, and their order does not matter. -/
namespace Go.Proofs
open Go Go.Ax Go.Ax.Alg
theorem upL_max (H : List Bool) (d a b : Int) (r : Rl) : upL H d (max a b) r = max a (upL H d b r) := by unfold upL; split <;> omega
theorem upM_min (H : List Bool) (d a b : Int) (r : Rl) : upM H d (min a b) r = min a (upM H d b r) := by unfold upM; split <;> omega
theorem foldL_max (H : List Bool) (d : Int) : ∀ (l : List Rl) (a b : Int), l.foldl (upL H d) (max a b) = max a (l.foldl (upL H d) b)
 | [], _, _ => rfl
 | r :: l, a, b => by rw [List.foldl_cons, List.foldl_cons, upL_max, foldL_max H d l]
theorem foldM_min (H : List Bool) (d : Int) : ∀ (l : List Rl) (a b : Int), l.foldl (upM H d) (min a b) = min a (l.foldl (upM H d) b)
 | [], _, _ => rfl
 | r :: l, a, b => by rw [List.foldl_cons, List.foldl_cons, upM_min, foldM_min H d l]
theorem lz_pos (l : List Rl) (H : List Bool) (d : Int) : 0 ≤ lz l H d := by
 have h := foldL_max H d l 0 0
 rw [show max (0 : Int) 0 = 0 from rfl] at h
 unfold lz; omega
theorem mz_le (l : List Rl) (H : List Bool) (d : Int) : mz l H d ≤ 9999 := by
 have h := foldM_min H d l 9999 9999
 rw [show min (9999 : Int) 9999 = 9999 from rfl] at h
 unfold mz; omega
theorem lz_app (l m : List Rl) (H : List Bool) (d : Int) : lz (l ++ m) H d = max (lz l H d) (lz m H d) := by
 show (l ++ m).foldl (upL H d) 0 = _
 have h := foldL_max H d m (lz l H d) 0
 rw [show max (lz l H d) 0 = lz l H d by have := lz_pos l H d; omega] at h
 rw [List.foldl_append]
 exact h
theorem mz_app (l m : List Rl) (H : List Bool) (d : Int) : mz (l ++ m) H d = min (mz l H d) (mz m H d) := by
 show (l ++ m).foldl (upM H d) 9999 = _
 have h := foldM_min H d m (mz l H d) 9999
 rw [show min (mz l H d) 9999 = mz l H d by have := mz_le l H d; omega] at h
 rw [List.foldl_append]
 exact h
end Go.Proofs
