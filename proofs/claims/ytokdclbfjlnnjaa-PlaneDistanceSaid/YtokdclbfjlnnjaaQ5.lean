/- Plain laws of the plane: what lies on the left of a line. -/
import Derived.Test.YtokdclbfjlnnjaaQ4
namespace Go.Proofs.Ytokdclbfjlnnjaa

/-- A point of a segment whose ends lie strictly on the left of a line does so, too. -/
theorem on_left {a b z p q : Pt} (hz : onZ z (p, q) = true) (hp : 0 < crossZ a b p) (hq : 0 < crossZ a b q) : 0 < crossZ a b z := by
  rw [onZ_box] at hz
  simp only [Bool.and_eq_true, decide_eq_true_eq] at hz
  obtain ⟨hc, hx1, hx2, hy1, hy2⟩ := hz
  have e1 : (q.1 - p.1) * crossZ a b z = (q.1 - z.1) * crossZ a b p + (z.1 - p.1) * crossZ a b q := by simp only [crossZ] at *; grind
  have e2 : (q.2 - p.2) * crossZ a b z = (q.2 - z.2) * crossZ a b p + (z.2 - p.2) * crossZ a b q := by simp only [crossZ] at *; grind
  have key : ∀ {u v d c P Q : Int}, 0 < P → 0 < Q → d = u + v → d * c = u * P + v * Q → (0 ≤ u ∧ 0 ≤ v ∧ 0 < d) ∨ (u ≤ 0 ∧ v ≤ 0 ∧ d < 0) → 0 < c := by
    intro u v d c P Q hP hQ hd he hs
    rcases hs with ⟨hu, hv, hd0⟩ | ⟨hu, hv, hd0⟩
    · have h1 := Int.mul_nonneg hu (show 0 ≤ P by omega)
      have h2 := Int.mul_nonneg hv (show 0 ≤ Q by omega)
      rcases Int.lt_or_le 0 u with h | h
      · have := Int.mul_pos h hP; exact pos_of hd0 (by omega)
      · have := Int.mul_pos (show 0 < v by omega) hQ; exact pos_of hd0 (by omega)
    · have h1 := Int.mul_nonpos_of_nonpos_of_nonneg hu (show 0 ≤ P by omega)
      have h2 := Int.mul_nonpos_of_nonpos_of_nonneg hv (show 0 ≤ Q by omega)
      have hneg : d * c < 0 := by
        rcases Int.lt_or_le u 0 with h | h
        · have := Int.mul_neg_of_neg_of_pos h hP; omega
        · have := Int.mul_neg_of_neg_of_pos (show v < 0 by omega) hQ; omega
      exact pos_of (a := -d) (by omega) (by rw [Int.neg_mul]; omega)
  rcases Int.lt_trichotomy p.1 q.1 with h | h | h
  · exact key hp hq (by omega) e1 (.inl ⟨by omega, by omega, by omega⟩)
  · rcases Int.lt_trichotomy p.2 q.2 with h' | h' | h'
    · exact key hp hq (by omega) e2 (.inl ⟨by omega, by omega, by omega⟩)
    · have : z = p := Prod.ext (by omega) (by omega)
      rw [this]; exact hp
    · exact key hp hq (by omega) e2 (.inr ⟨by omega, by omega, by omega⟩)
  · exact key hp hq (by omega) e1 (.inr ⟨by omega, by omega, by omega⟩)
/-- A segment whose ends lie strictly on the left of a line does not meet a segment of that line. -/
theorem left_no_meet {a b p q : Pt} (hp : 0 < crossZ a b p) (hq : 0 < crossZ a b q) : meetZ (p, q) (a, b) = false := by
  have za : crossZ a b a = 0 := by simp [crossZ]
  have zb : crossZ a b b = 0 := by simp only [crossZ]; grind
  have o1 : onZ p (a, b) = false := by unfold onZ; simp only; rw [decide_eq_false (by omega)]; rfl
  have o2 : onZ q (a, b) = false := by unfold onZ; simp only; rw [decide_eq_false (by omega)]; rfl
  have o3 : onZ a (p, q) = false := by
    cases h : onZ a (p, q)
    · rfl
    · have := on_left h hp hq; omega
  have o4 : onZ b (p, q) = false := by
    cases h : onZ b (p, q)
    · rfl
    · have := on_left h hp hq; omega
  unfold meetZ
  simp only [o1, o2, o3, o4, Bool.false_or]
  rw [show oppZ (crossZ a b p) (crossZ a b q) = false by unfold oppZ; exact decide_eq_false (by omega)]
  simp

/-- A point inside of a rectangle lies on the left of a line that has all four corners on its left. -/
theorem rect_left {a b : Pt} {px py x y wd h : Int} (hx : x < px ∧ px < x + wd) (hy : y < py ∧ py < y + h)
    (h0 : 0 < crossZ a b (x, y)) (h1 : 0 < crossZ a b (x + wd, y)) (h2 : 0 < crossZ a b (x + wd, y + h)) (h3 : 0 < crossZ a b (x, y + h)) : 0 < crossZ a b (px, py) := by
  have e : (wd * h) * crossZ a b (px, py) = ((x + wd - px) * (y + h - py)) * crossZ a b (x, y) + ((px - x) * (y + h - py)) * crossZ a b (x + wd, y) + ((px - x) * (py - y)) * crossZ a b (x + wd, y + h) + ((x + wd - px) * (py - y)) * crossZ a b (x, y + h) := by
    simp only [crossZ]; grind
  have p0 := Int.mul_pos (Int.mul_pos (show 0 < x + wd - px by omega) (show 0 < y + h - py by omega)) h0
  have p1 := Int.mul_pos (Int.mul_pos (show 0 < px - x by omega) (show 0 < y + h - py by omega)) h1
  have p2 := Int.mul_pos (Int.mul_pos (show 0 < px - x by omega) (show 0 < py - y by omega)) h2
  have p3 := Int.mul_pos (Int.mul_pos (show 0 < x + wd - px by omega) (show 0 < py - y by omega)) h3
  exact pos_of (Int.mul_pos (show 0 < wd by omega) (show 0 < h by omega)) (by rw [e]; omega)
theorem tri_left {a b : Pt} {px py x y wd t1 t2 h : Int} (hA : 0 < wd * h - t1 * t2)
    (k0 : 0 < crossZ (x, y) (x + wd, y + t1) (px, py)) (k1 : 0 < crossZ (x + wd, y + t1) (x + t2, y + h) (px, py)) (k2 : 0 < crossZ (x + t2, y + h) (x, y) (px, py))
    (h0 : 0 < crossZ a b (x, y)) (h1 : 0 < crossZ a b (x + wd, y + t1)) (h2 : 0 < crossZ a b (x + t2, y + h)) : 0 < crossZ a b (px, py) := by
  have e : (wd * h - t1 * t2) * crossZ a b (px, py) = crossZ (x + wd, y + t1) (x + t2, y + h) (px, py) * crossZ a b (x, y) + crossZ (x + t2, y + h) (x, y) (px, py) * crossZ a b (x + wd, y + t1) + crossZ (x, y) (x + wd, y + t1) (px, py) * crossZ a b (x + t2, y + h) := by
    simp only [crossZ]; grind
  have p0 := Int.mul_pos k1 h0
  have p1 := Int.mul_pos k2 h1
  have p2 := Int.mul_pos k0 h2
  exact pos_of hA (by rw [e]; omega)
end Go.Proofs.Ytokdclbfjlnnjaa
