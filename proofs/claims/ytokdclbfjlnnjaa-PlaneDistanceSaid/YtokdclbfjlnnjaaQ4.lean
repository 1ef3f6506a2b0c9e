/- Plain laws of the plane: what is strictly inside of a triangle. -/
import Derived.Test.YtokdclbfjlnnjaaQ3
namespace Go.Proofs.Ytokdclbfjlnnjaa

theorem tri_ids (px py x y wd t1 t2 h : Int) :
    (wd * h - t1 * t2) * (py - y) = crossZ (x + t2, y + h) (x, y) (px, py) * t1 + crossZ (x, y) (x + wd, y + t1) (px, py) * h ∧
    (wd * h - t1 * t2) * (y + h - py) = crossZ (x + wd, y + t1) (x + t2, y + h) (px, py) * h + crossZ (x + t2, y + h) (x, y) (px, py) * (h - t1) ∧
    (wd * h - t1 * t2) * (py - y - t1) = crossZ (x, y) (x + wd, y + t1) (px, py) * (h - t1) - crossZ (x + wd, y + t1) (x + t2, y + h) (px, py) * t1 ∧
    (wd * h - t1 * t2) * (px - x) = crossZ (x + t2, y + h) (x, y) (px, py) * wd + crossZ (x, y) (x + wd, y + t1) (px, py) * t2 ∧
    wd * h - t1 * t2 = crossZ (x, y) (x + wd, y + t1) (px, py) + crossZ (x + wd, y + t1) (x + t2, y + h) (px, py) + crossZ (x + t2, y + h) (x, y) (px, py) := by
  simp only [crossZ]
  refine ⟨?_, ?_, ?_, ?_, ?_⟩ <;> grind

theorem pos_of {a b : Int} (ha : 0 < a) (h : 0 < a * b) : 0 < b := (mul_sign ha).1.1 h
theorem neg_of {a b : Int} (ha : 0 < a) (h : a * b < 0) : b < 0 := (mul_sign ha).2.1.1 h
/-- The number of windings of a triangle around a point that lies on none of its sides, by the signs of the three areas. v: the point's height above the lowest corner. -/
theorem tri_core {A c0 c1 c2 t1 h v : Int} (hA : 0 < A) (hh : 0 < h) (ht : 0 ≤ t1) (hth : t1 < h) (I1 : A * v = c2 * t1 + c0 * h) (I2 : A * (h - v) = c1 * h + c2 * (h - t1)) (I3 : A * (v - t1) = c0 * (h - t1) - c1 * t1)
    (n0 : ¬ (c0 = 0 ∧ 0 ≤ c1 ∧ 0 ≤ c2)) (n2 : ¬ (c2 = 0 ∧ 0 ≤ c0 ∧ 0 ≤ c1)) (u0 u1 u2 : Int) (e0 : u0 = if 0 ≤ v ∧ v < t1 ∧ 0 < c0 then 1 else 0) (e1 : u1 = if t1 ≤ v ∧ v < h ∧ 0 < c1 then 1 else 0) (e2 : u2 = if 0 ≤ v ∧ v < h ∧ c2 < 0 then -1 else 0) :
    u0 + u1 + u2 ≠ 0 ↔ 0 < c0 ∧ 0 < c1 ∧ 0 < c2 := by
  have hht : 0 < h - t1 := by omega
  constructor
  · intro hne
    by_cases hb : 0 ≤ v ∧ v < h
    · by_cases hl : v < t1
      · have ht1 : 0 < t1 := by omega
        have hneg : A * (v - t1) < 0 := Int.mul_neg_of_pos_of_neg hA (by omega)
        by_cases hc0 : 0 < c0
        · have p0 := Int.mul_pos hc0 hht
          have p1 : 0 < t1 * c1 := by rw [Int.mul_comm]; omega
          have hc1 := pos_of ht1 p1
          have hc2 : ¬ c2 < 0 := fun hc => hne (by rw [e0, e1, e2, if_pos ⟨hb.1, hl, hc0⟩, if_neg (by omega), if_pos ⟨hb.1, hb.2, hc⟩]; omega)
          omega
        · exfalso
          have hc2 : c2 < 0 := Classical.byContradiction fun hc => hne (by rw [e0, e1, e2, if_neg (by omega), if_neg (by omega), if_neg (by omega)]; omega)
          have q1 := Int.mul_neg_of_neg_of_pos hc2 ht1
          have q2 := Int.mul_nonpos_of_nonpos_of_nonneg (show c0 ≤ 0 by omega) (show 0 ≤ h by omega)
          have q3 := neg_of hA (show A * v < 0 by omega)
          omega
      · have hge : 0 ≤ A * (v - t1) := Int.mul_nonneg (by omega) (by omega)
        by_cases hc1 : 0 < c1
        · have hc2 : ¬ c2 < 0 := fun hc => hne (by rw [e0, e1, e2, if_neg (by omega), if_pos ⟨by omega, hb.2, hc1⟩, if_pos ⟨hb.1, hb.2, hc⟩]; omega)
          have q1 := Int.mul_nonneg (show 0 ≤ c1 by omega) ht
          have hc0 : 0 ≤ c0 := Classical.byContradiction fun hc => by
            have := Int.mul_neg_of_neg_of_pos (show c0 < 0 by omega) hht
            omega
          omega
        · exfalso
          have hc2 : c2 < 0 := Classical.byContradiction fun hc => hne (by rw [e0, e1, e2, if_neg (by omega), if_neg (by omega), if_neg (by omega)]; omega)
          have q1 := Int.mul_nonpos_of_nonpos_of_nonneg (show c1 ≤ 0 by omega) (show 0 ≤ h by omega)
          have q2 := Int.mul_neg_of_neg_of_pos hc2 hht
          have q3 := neg_of hA (show A * (h - v) < 0 by omega)
          omega
    · exact absurd (by rw [e0, e1, e2, if_neg (by omega), if_neg (by omega), if_neg (by omega)]; rfl) hne
  · rintro ⟨h0, h1, h2⟩
    have q1 := Int.mul_nonneg (show 0 ≤ c2 by omega) ht
    have q2 := Int.mul_pos h0 hh
    have q3 := pos_of hA (show 0 < A * v by omega)
    have q4 := Int.mul_pos h1 hh
    have q5 := Int.mul_pos h2 hht
    have q6 := pos_of hA (show 0 < A * (h - v) by omega)
    rw [e0, e1, e2]
    by_cases hl : v < t1
    · rw [if_pos ⟨by omega, hl, h0⟩, if_neg (by omega), if_neg (by omega)]; omega
    · rw [if_neg (by omega), if_pos ⟨by omega, by omega, h1⟩, if_neg (by omega)]; omega

theorem nonneg_of {a b : Int} (ha : 0 < a) (h : 0 ≤ a * b) : 0 ≤ b := Classical.byContradiction fun hb => by
  have := Int.mul_neg_of_pos_of_neg ha (show b < 0 by omega)
  omega
theorem tri_within (px py x y wd t1 t2 h : Int) (hw : 0 < wd) (hh : 0 < h) (ht : 0 ≤ t1) (hth : t1 < h) (ht2 : 0 ≤ t2) (hA : 0 < wd * h - t1 * t2) :
    withinZ (px, py) 2 (triL x y wd t1 t2 h) = decide (0 < crossZ (x, y) (x + wd, y + t1) (px, py) ∧ 0 < crossZ (x + wd, y + t1) (x + t2, y + h) (px, py) ∧ 0 < crossZ (x + t2, y + h) (x, y) (px, py)) := by
  have hn : nSeg 2 (triL x y wd t1 t2 h) = 3 := by simp [nSeg, triL]
  have s0 : sgZ (triL x y wd t1 t2 h) 0 = ((x, y), (x + wd, y + t1)) := by simp [sgZ, ptZ, triL]
  have s1 : sgZ (triL x y wd t1 t2 h) 1 = ((x + wd, y + t1), (x + t2, y + h)) := by simp [sgZ, ptZ, triL]
  have s2 : sgZ (triL x y wd t1 t2 h) 2 = ((x + t2, y + h), (x, y)) := by simp [sgZ, ptZ, triL]
  obtain ⟨I1, I2, I3, I4, I5⟩ := tri_ids px py x y wd t1 t2 h
  unfold withinZ
  rw [hn, show List.range 3 = [0, 1, 2] from rfl]
  simp only [windS, List.any_cons, List.any_nil, s0, s1, s2, onZ_box]
  have u0 : wind1 (px, py) ((x, y), (x + wd, y + t1)) = if 0 ≤ py - y ∧ py - y < t1 ∧ 0 < crossZ (x, y) (x + wd, y + t1) (px, py) then 1 else 0 := by
    unfold wind1; simp only; split <;> split <;> (try split) <;> omega
  have u1 : wind1 (px, py) ((x + wd, y + t1), (x + t2, y + h)) = if t1 ≤ py - y ∧ py - y < h ∧ 0 < crossZ (x + wd, y + t1) (x + t2, y + h) (px, py) then 1 else 0 := by
    unfold wind1; simp only; split <;> split <;> (try split) <;> omega
  have u2 : wind1 (px, py) ((x + t2, y + h), (x, y)) = if 0 ≤ py - y ∧ py - y < h ∧ crossZ (x + t2, y + h) (x, y) (px, py) < 0 then -1 else 0 := by
    unfold wind1; simp only; split <;> (try split) <;> (try split) <;> omega
  rw [show y + h - py = h - (py - y) by omega] at I2
  generalize crossZ (x, y) (x + wd, y + t1) (px, py) = c0 at *
  generalize crossZ (x + wd, y + t1) (x + t2, y + h) (px, py) = c1 at *
  generalize crossZ (x + t2, y + h) (x, y) (px, py) = c2 at *
  generalize wd * h - t1 * t2 = A at *
  rw [Bool.eq_iff_iff]
  simp only [Bool.and_eq_true, Bool.not_eq_true', Bool.or_eq_false_iff, Bool.and_eq_false_iff, decide_eq_false_iff_not, decide_eq_true_eq, bne_iff_ne, Bool.or_false]
  constructor
  · rintro ⟨⟨o0, o1, o2⟩, hwn⟩
    refine (tri_core hA hh ht hth I1 I2 I3 ?_ ?_ _ _ _ u0 u1 u2).1 (by omega)
    · rintro ⟨z0, z1, z2⟩
      subst z0
      have a1 := nonneg_of hA (b := px - x) (by rw [I4]; have := Int.mul_nonneg z2 (show 0 ≤ wd by omega); omega)
      have a2 := nonneg_of hA (b := x + wd - px) (by have e : A * (x + wd - px) = c1 * wd := by grind
                                                     rw [e]; exact Int.mul_nonneg z1 (by omega))
      have a3 := nonneg_of hA (b := py - y) (by rw [I1]; have := Int.mul_nonneg z2 ht; omega)
      have a4 := nonneg_of hA (b := t1 - (py - y)) (by have e : A * (t1 - (py - y)) = c1 * t1 := by grind
                                                       rw [e]; exact Int.mul_nonneg z1 ht)
      omega
    · rintro ⟨z2, z0, z1⟩
      subst z2
      have a1 := nonneg_of hA (b := px - x) (by rw [I4]; have := Int.mul_nonneg z0 ht2; omega)
      have a2 := nonneg_of hA (b := x + t2 - px) (by have e : A * (x + t2 - px) = c1 * t2 := by grind
                                                     rw [e]; exact Int.mul_nonneg z1 ht2)
      have a3 := nonneg_of hA (b := py - y) (by rw [I1]; have := Int.mul_nonneg z0 (show 0 ≤ h by omega); omega)
      have a4 := nonneg_of hA (b := h - (py - y)) (by rw [I2]; have := Int.mul_nonneg z1 (show 0 ≤ h by omega); omega)
      omega
  · intro hpos
    have := (tri_core hA hh ht hth I1 I2 I3 (by omega) (by omega) _ _ _ u0 u1 u2).2 hpos
    refine ⟨by omega, by omega⟩
end Go.Proofs.Ytokdclbfjlnnjaa
