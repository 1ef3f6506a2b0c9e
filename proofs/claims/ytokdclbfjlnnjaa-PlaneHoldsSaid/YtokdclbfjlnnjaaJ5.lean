/- Plain laws of the plane: for a simple area, what winds around a point winds an odd number of times. -/
import Derived.Test.YtokdclbfjlnnjaaJ4
import Derived.Test.YtokdclbfjlnnjaaA4
namespace Go.Proofs.Ytokdclbfjlnnjaa

theorem mul_sq {a b c d f : Int} (hf : f ≠ 0) (h1 : a * f = c) (h2 : b * f = d) (h : c * d ≤ 0) : a * b ≤ 0 := by
  have hq : 0 < f * f := by
    rcases Int.lt_trichotomy f 0 with h | h | h
    · have := Int.mul_pos (show 0 < -f by omega) (show 0 < -f by omega)
      rwa [Int.neg_mul_neg] at this
    · exact (hf h).elim
    · exact Int.mul_pos h h
  have e : f * f * (a * b) = c * d := by rw [← h1, ← h2]; grind
  have := (@pos_mul (f * f) (a * b) hq).2.1
  omega
theorem sq_nn (x : Int) : 0 ≤ x * x := by
  rcases Int.le_total 0 x with h | h
  · exact Int.mul_nonneg h h
  · have := Int.mul_nonneg (show 0 ≤ -x by omega) (show 0 ≤ -x by omega)
    rwa [Int.neg_mul_neg] at this
theorem sgn_mul {x y : Int} (h : Sgn x y) : x * y ≤ 0 := by
  rcases h with ⟨h1, h2⟩ | ⟨h1, h2⟩
  · have := Int.mul_nonneg (show 0 ≤ -x by omega) h2
    rw [Int.neg_mul] at this; omega
  · have := Int.mul_nonneg h1 (show 0 ≤ -y by omega)
    rw [Int.mul_neg] at this; omega
/-- Where the line of c d is met by one of its points, between c and d. -/
theorem on_of_sgn {a b c d : Pt} (h0 : crossZ c d a = 0) (h1 : Sgn (crossZ a b c) (crossZ a b d)) (h2 : ¬ (crossZ a b c = 0 ∧ crossZ a b d = 0)) : onZ a (c, d) = true := by
  have hf : crossZ a b c - crossZ a b d ≠ 0 := by unfold Sgn at h1; omega
  have hm := sgn_mul h1
  unfold onZ
  simp only [Bool.and_eq_true, decide_eq_true_eq]
  refine ⟨h0, ?_, ?_⟩
  · refine mul_sq (c := crossZ a b c * (d.1 - c.1)) (d := crossZ a b d * (d.1 - c.1)) hf ?_ ?_ ?_
    · unfold crossZ at *; grind
    · unfold crossZ at *; grind
    · have e : crossZ a b c * (d.1 - c.1) * (crossZ a b d * (d.1 - c.1)) = -(-(crossZ a b c * crossZ a b d) * ((d.1 - c.1) * (d.1 - c.1))) := by grind
      have := Int.mul_nonneg (show 0 ≤ -(crossZ a b c * crossZ a b d) by omega) (sq_nn (d.1 - c.1))
      omega
  · refine mul_sq (c := crossZ a b c * (d.2 - c.2)) (d := crossZ a b d * (d.2 - c.2)) hf ?_ ?_ ?_
    · unfold crossZ at *; grind
    · unfold crossZ at *; grind
    · have e : crossZ a b c * (d.2 - c.2) * (crossZ a b d * (d.2 - c.2)) = -(-(crossZ a b c * crossZ a b d) * ((d.2 - c.2) * (d.2 - c.2))) := by grind
      have := Int.mul_nonneg (show 0 ≤ -(crossZ a b c * crossZ a b d) by omega) (sq_nn (d.2 - c.2))
      omega
theorem on_swap (z a b : Pt) : onZ z (b, a) = onZ z (a, b) := by
  unfold onZ
  have e := cross_swap a b z
  have e1 := Int.mul_comm (z.1 - b.1) (z.1 - a.1)
  have e2 := Int.mul_comm (z.2 - b.2) (z.2 - a.2)
  simp only [e, e1, e2]
  rw [Bool.eq_iff_iff]
  simp
/-- All on one line. -/
theorem line_of {a b c d : Pt} (hab : a ≠ b) (h1 : crossZ a b c = 0) (h2 : crossZ a b d = 0) : crossZ c d a = 0 ∧ crossZ c d b = 0 := by
  have key : ∀ z : Pt, crossZ a b z = 0 → crossZ c d z = 0 := fun z hz => by
    have e1 : crossZ c d z * (b.1 - a.1) = 0 := by unfold crossZ at *; grind
    have e2 : crossZ c d z * (b.2 - a.2) = 0 := by unfold crossZ at *; grind
    rcases Int.mul_eq_zero.1 e1 with h | h
    · exact h
    · rcases Int.mul_eq_zero.1 e2 with h' | h'
      · exact h'
      · exact (hab (Prod.ext (by omega) (by omega))).elim
  refine ⟨key a ?_, key b ?_⟩
  · unfold crossZ; grind
  · unfold crossZ; grind
/-- What cuts meets. -/
theorem cut_meet {a b c d : Pt} (hab : a ≠ b) (hcd : c ≠ d) (h : Cut a b c d) : meetZ (a, b) (c, d) = true := by
  obtain ⟨h1, h2, h3⟩ := h
  have n1 : ¬ (crossZ c d a = 0 ∧ crossZ c d b = 0) := fun ⟨q1, q2⟩ => by
    have := line_of hcd q1 q2
    exact h3 ⟨q1, q2, this⟩
  have n2 : ¬ (crossZ a b c = 0 ∧ crossZ a b d = 0) := fun ⟨q1, q2⟩ => by
    have := line_of hab q1 q2
    exact h3 ⟨this.1, this.2, q1, q2⟩
  unfold meetZ
  simp only [Bool.or_eq_true, Bool.and_eq_true]
  by_cases z1 : crossZ c d a = 0
  · exact .inl (on_of_sgn z1 h2 n2)
  by_cases z2 : crossZ c d b = 0
  · have e1 := cross_swap a b c
    have e2 := cross_swap a b d
    exact .inr (.inl (on_of_sgn (b := a) z2 (by rw [e1, e2]; exact h2.neg) (by rw [e1, e2]; omega)))
  by_cases z3 : crossZ a b c = 0
  · exact .inr (.inr (.inl (on_of_sgn z3 h1 n1)))
  by_cases z4 : crossZ a b d = 0
  · have e1 := cross_swap c d a
    have e2 := cross_swap c d b
    exact .inr (.inr (.inr (.inl (on_of_sgn (b := c) z4 (by rw [e1, e2]; exact h1.neg) (by rw [e1, e2]; omega)))))
  · refine .inr (.inr (.inr (.inr ⟨?_, ?_⟩)))
    · unfold oppZ; unfold Sgn at h2; simp only [decide_eq_true_eq]; omega
    · unfold oppZ; unfold Sgn at h1; simp only [decide_eq_true_eq]; omega
/-- On the line, and between by height. -/
theorem on_of_height {z a b : Pt} (h0 : crossZ a b z = 0) (hab : a.2 ≠ b.2) (h1 : (z.2 - a.2) * (z.2 - b.2) ≤ 0) : onZ z (a, b) = true := by
  unfold onZ
  simp only [Bool.and_eq_true, decide_eq_true_eq]
  refine ⟨h0, ?_, h1⟩
  refine mul_sq (f := b.2 - a.2) (c := (b.1 - a.1) * (z.2 - a.2)) (d := (b.1 - a.1) * (z.2 - b.2)) (by omega) ?_ ?_ ?_
  · unfold crossZ at h0; grind
  · unfold crossZ at h0; grind
  · have e : (b.1 - a.1) * (z.2 - a.2) * ((b.1 - a.1) * (z.2 - b.2)) = -(-((z.2 - a.2) * (z.2 - b.2)) * ((b.1 - a.1) * (b.1 - a.1))) := by grind
    have := Int.mul_nonneg (show 0 ≤ -((z.2 - a.2) * (z.2 - b.2)) by omega) (sq_nn (b.1 - a.1))
    omega
theorem between_mul {z a b : Int} (h : a ≤ z ∧ z ≤ b ∨ b ≤ z ∧ z ≤ a) : (z - a) * (z - b) ≤ 0 := by
  rcases h with h | h
  · have := Int.mul_nonneg (show 0 ≤ z - a by omega) (show 0 ≤ b - z by omega)
    have e : (z - a) * (z - b) = -((z - a) * (b - z)) := by grind
    omega
  · have := Int.mul_nonneg (show 0 ≤ a - z by omega) (show 0 ≤ z - b by omega)
    have e : (z - a) * (z - b) = -((a - z) * (z - b)) := by grind
    omega
/-- Two segments that pass a level at one place: they cut, or lie in one line and share a point. -/
theorem tie {p q p' q' : Pt} {y : Int} (hp : p.2 < y) (hq : y < q.2) (hp' : p'.2 < y) (hq' : y < q'.2) (h0 : gap p q p' q' y = 0) :
    Cut p q p' q' ∨ crossZ p' q' p = 0 ∧ crossZ p' q' q = 0 ∧ crossZ p q p' = 0 ∧ crossZ p q q' = 0 := by
  have m1 := @pos_mul _ (crossZ p' q' p) (show 0 < q.2 - p.2 by omega)
  have m2 := @pos_mul _ (crossZ p' q' q) (show 0 < q.2 - p.2 by omega)
  have m3 := @pos_mul _ (crossZ p q p') (show 0 < q'.2 - p'.2 by omega)
  have m4 := @pos_mul _ (crossZ p q q') (show 0 < q'.2 - p'.2 by omega)
  have e1 := gap_p p q p' q'
  have e2 := gap_q p q p' q'
  have e3 := gap_p' p q p' q'
  have e4 := gap_q' p q p' q'
  have s1 := gap_step p q p' q' y p.2
  have s2 := gap_step p q p' q' y q.2
  have s3 := gap_step p q p' q' y p'.2
  have s4 := gap_step p q p' q' y q'.2
  have N : ∀ {u w : Int}, 0 < u → ((0 < w → 0 < u * w ∧ -u * w < 0) ∧ (w < 0 → u * w < 0 ∧ 0 < -u * w) ∧ (w = 0 → u * w = 0 ∧ -u * w = 0)) := fun {u w} hu => by
    have := @pos_mul u w hu
    rw [Int.neg_mul]
    omega
  have a1 := @N (y - p.2) (slo p q p' q') (by omega)
  have a2 := @N (q.2 - y) (slo p q p' q') (by omega)
  have a3 := @N (y - p'.2) (slo p q p' q') (by omega)
  have a4 := @N (q'.2 - y) (slo p q p' q') (by omega)
  rw [show p.2 - y = -(y - p.2) by omega] at s1
  rw [show p'.2 - y = -(y - p'.2) by omega] at s3
  unfold Cut Sgn
  omega
end Go.Proofs.Ytokdclbfjlnnjaa
