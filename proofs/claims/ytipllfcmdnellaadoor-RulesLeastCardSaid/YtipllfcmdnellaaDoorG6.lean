/- Rules that contradict each other. Conditions are in the theorems. -/
import Derived.Test.YtipllfcmdnellaaDoorG4
/- Two rules that contradict each other. -/
namespace Go.Proofs
open Go Go.Ax Go.Ax.Alg
abbrev S11 := ((List ((List Int) × (Int × Int))) × Bool × Int × (List ((List Int) × (Int × Int))) × Int × Int × Bool × Int × ((List Int) × (Int × Int)) × (List Int) × Int × Int × Int × Int × Int × Int × Int × Int × (List Int) × Int × Int)
abbrev Y11 := ((List ((List Int) × (Int × Int))) × Bool × Int × (List ((List Int) × (Int × Int))) × Int × Int × Bool × Int × ((List Int) × (Int × Int)) × (List Int) × Int × Int × Int × Int × Int × Int × Int × (List ((List Int) × (Int × Int))) × Int × Bool × Int × Int × (List Int) × Int × Int)
end Go.Proofs
/- Where no two rules contradict each other, there is a remedy. -/
namespace Go.Proofs
open Go Go.Ax Go.Ax.Alg
theorem lz_one (r : Rl) (H : List Bool) (d : Int) : lz [r] H d = if appB r H && decide (r.2.1 = d) then max 0 r.2.2 else 0 := rfl
theorem mz_one (r : Rl) (H : List Bool) (d : Int) : mz [r] H d = if appB r H && decide (r.2.1 = d) && decide (r.2.2 < 0) then min 9999 (-1 - r.2.2) else 9999 := rfl
theorem mz_ge (H : List Bool) : ∀ (l : List Rl) (r : Rl), r ∈ l → appB r H = true → r.2.2 < 0 → mz l H r.2.1 ≤ -1 - r.2.2
 | s :: l, r, h, ha, h0 => by
   rw [show s :: l = [s] ++ l from rfl, mz_app]
   rcases List.mem_cons.1 h with e | h
   ·subst e
    rw [mz_one, ha, decide_eq_true rfl, decide_eq_true h0, show (true && true && true) = true from rfl, if_pos rfl]; omega
   ·have := mz_ge H l r h ha h0; omega
theorem lz_at (H : List Bool) (d : Int) : ∀ l : List Rl, lz l H d = 0 ∨ ∃ r ∈ l, appB r H = true ∧ r.2.1 = d ∧ r.2.2 = lz l H d
 | [] => Or.inl rfl
 | s :: l => by
   rw [show s :: l = [s] ++ l from rfl, lz_app, lz_one]
   have h0 := lz_pos l H d
   cases hq : appB s H && decide (s.2.1 = d) with
   | false =>
     rw [if_neg (by decide)]
     rcases lz_at H d l with h | ⟨r, hr, h1, h2, h3⟩
     ·left; omega
     ·right; exact ⟨r, List.mem_cons_of_mem _ hr, h1, h2, by omega⟩
   | true =>
     rw [Bool.and_eq_true, decide_eq_true_eq] at hq
     rw [if_pos rfl]
     by_cases hs : lz l H d < s.2.2
     ·right; exact ⟨s, List.mem_cons_self, hq.1, hq.2, by omega⟩
     ·rcases lz_at H d l with h | ⟨r, hr, h1, h2, h3⟩
      ·left; omega
      ·right; exact ⟨r, List.mem_cons_of_mem _ hr, h1, h2, by omega⟩
theorem mz_at (H : List Bool) (d : Int) : ∀ l : List Rl, mz l H d = 9999 ∨ ∃ r ∈ l, appB r H = true ∧ r.2.1 = d ∧ r.2.2 < 0 ∧ -1 - r.2.2 = mz l H d
 | [] => Or.inl rfl
 | s :: l => by
   rw [show s :: l = [s] ++ l from rfl, mz_app, mz_one]
   have h0 := mz_le l H d
   cases hq : appB s H && decide (s.2.1 = d) && decide (s.2.2 < 0) with
   | false =>
     rw [if_neg (by decide)]
     rcases mz_at H d l with h | ⟨r, hr, h1, h2, h3, h4⟩
     ·left; omega
     ·right; exact ⟨r, List.mem_cons_of_mem _ hr, h1, h2, h3, by omega⟩
   | true =>
     rw [Bool.and_eq_true, Bool.and_eq_true, decide_eq_true_eq, decide_eq_true_eq] at hq
     rw [if_pos rfl]
     by_cases hs : -1 - s.2.2 < mz l H d
     ·right; exact ⟨s, List.mem_cons_self, hq.1.1, hq.1.2, hq.2, by omega⟩
     ·rcases mz_at H d l with h | ⟨r, hr, h1, h2, h3, h4⟩
      ·left; omega
      ·right; exact ⟨r, List.mem_cons_of_mem _ hr, h1, h2, h3, by omega⟩
theorem bad_at {l : List Rl} {H : List Bool} {d : Int} (h0 : 0 ≤ d) (h3 : d < 3) (h : mz l H d < lz l H d) : badZ l H := by
 unfold badZ
 rcases (show d = 0 ∨ d = 1 ∨ d = 2 by omega) with rfl | rfl | rfl
 ·exact Or.inl h
 ·exact Or.inr (Or.inl h)
 ·exact Or.inr (Or.inr h)
end Go.Proofs
