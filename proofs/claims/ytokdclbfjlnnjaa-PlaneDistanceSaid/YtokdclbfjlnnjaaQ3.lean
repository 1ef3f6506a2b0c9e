/- Plain laws of the plane: what is strictly inside of a rectangle. -/
import Derived.Test.YtokdclbfjlnnjaaQ2
namespace Go.Proofs.Ytokdclbfjlnnjaa

theorem mul_sign {h u : Int} (hh : 0 < h) : (0 < h * u ↔ 0 < u) ∧ (h * u < 0 ↔ u < 0) ∧ (h * u = 0 ↔ u = 0) := by
  rcases Int.lt_trichotomy u 0 with hu | rfl | hu
  · have := Int.mul_neg_of_pos_of_neg hh hu; omega
  · simp
  · have := Int.mul_pos hh hu; omega

theorem rect_within (px py x y wd h : Int) (hw : 0 < wd) (hh : 0 < h) : withinZ (px, py) 2 (rectL x y wd h) = decide (x < px ∧ px < x + wd ∧ y < py ∧ py < y + h) := by
  have hn : nSeg 2 (rectL x y wd h) = 4 := by simp [nSeg, rectL]
  have s0 : sgZ (rectL x y wd h) 0 = ((x, y), (x + wd, y)) := by simp [sgZ, ptZ, rectL]
  have s1 : sgZ (rectL x y wd h) 1 = ((x + wd, y), (x + wd, y + h)) := by simp [sgZ, ptZ, rectL]
  have s2 : sgZ (rectL x y wd h) 2 = ((x + wd, y + h), (x, y + h)) := by simp [sgZ, ptZ, rectL]
  have s3 : sgZ (rectL x y wd h) 3 = ((x, y + h), (x, y)) := by simp [sgZ, ptZ, rectL]
  have c0 : crossZ (x, y) (x + wd, y) (px, py) = wd * (py - y) := by simp only [crossZ]; grind
  have c1 : crossZ (x + wd, y) (x + wd, y + h) (px, py) = h * (x + wd - px) := by simp only [crossZ]; grind
  have c2 : crossZ (x + wd, y + h) (x, y + h) (px, py) = wd * (y + h - py) := by simp only [crossZ]; grind
  have c3 : crossZ (x, y + h) (x, y) (px, py) = h * (px - x) := by simp only [crossZ]; grind
  have m0 := mul_sign (u := py - y) hw
  have m1 := mul_sign (u := x + wd - px) hh
  have m2 := mul_sign (u := y + h - py) hw
  have m3 := mul_sign (u := px - x) hh
  unfold withinZ
  rw [hn, show List.range 4 = [0, 1, 2, 3] from rfl]
  simp only [windS, List.any_cons, List.any_nil, s0, s1, s2, s3, onZ_box, c0, c1, c2, c3]
  have w0 := wind1_flat (px, py) ((x, y), (x + wd, y)) rfl
  have w2 := wind1_flat (px, py) ((x + wd, y + h), (x, y + h)) rfl
  have w1 : wind1 (px, py) ((x + wd, y), (x + wd, y + h)) = if y ≤ py ∧ py < y + h ∧ px < x + wd then 1 else 0 := by
    unfold wind1
    simp only [c1]
    split <;> split <;> (try split) <;> omega
  have w3 : wind1 (px, py) ((x, y + h), (x, y)) = if y ≤ py ∧ py < y + h ∧ px < x then -1 else 0 := by
    unfold wind1
    simp only [c3]
    split <;> (try split) <;> (try split) <;> omega
  rw [w0, w1, w2, w3, Bool.eq_iff_iff]
  simp only [Bool.and_eq_true, Bool.not_eq_true', Bool.or_eq_false_iff, Bool.and_eq_false_iff, decide_eq_false_iff_not, decide_eq_true_eq, bne_iff_ne, Bool.or_false]
  constructor
  · rintro ⟨h1, h2⟩
    have : (y ≤ py ∧ py < y + h) ∧ x ≤ px ∧ px < x + wd := by
      split at h2 <;> split at h2 <;> omega
    omega
  · intro hin
    refine ⟨by omega, ?_⟩
    rw [if_pos (by omega), if_neg (by omega)]
    omega

/-- A bracket is so thin that no point with integer coordinates is strictly inside of it. -/
theorem bra_within (px py x y wd h : Int) (hw : 1 < wd) (hh : 1 < h) : withinZ (px, py) 2 (braL x y wd h) = false := by
  have hn : nSeg 2 (braL x y wd h) = 6 := by simp [nSeg, braL]
  have s0 : sgZ (braL x y wd h) 0 = ((x, y), (x + wd, y)) := by simp [sgZ, ptZ, braL]
  have s1 : sgZ (braL x y wd h) 1 = ((x + wd, y), (x + wd, y + 1)) := by simp [sgZ, ptZ, braL]
  have s2 : sgZ (braL x y wd h) 2 = ((x + wd, y + 1), (x + 1, y + 1)) := by simp [sgZ, ptZ, braL]
  have s3 : sgZ (braL x y wd h) 3 = ((x + 1, y + 1), (x + 1, y + h)) := by simp [sgZ, ptZ, braL]
  have s4 : sgZ (braL x y wd h) 4 = ((x + 1, y + h), (x, y + h)) := by simp [sgZ, ptZ, braL]
  have s5 : sgZ (braL x y wd h) 5 = ((x, y + h), (x, y)) := by simp [sgZ, ptZ, braL]
  have c0 : crossZ (x, y) (x + wd, y) (px, py) = wd * (py - y) := by simp only [crossZ]; grind
  have c1 : crossZ (x + wd, y) (x + wd, y + 1) (px, py) = x + wd - px := by simp only [crossZ]; grind
  have c3 : crossZ (x + 1, y + 1) (x + 1, y + h) (px, py) = (h - 1) * (x + 1 - px) := by simp only [crossZ]; grind
  have c5 : crossZ (x, y + h) (x, y) (px, py) = h * (px - x) := by simp only [crossZ]; grind
  have m0 := mul_sign (u := py - y) (show 0 < wd by omega)
  have m3 := mul_sign (h := h - 1) (u := x + 1 - px) (by omega)
  have m5 := mul_sign (u := px - x) (show 0 < h by omega)
  have w0 := wind1_flat (px, py) ((x, y), (x + wd, y)) rfl
  have w2 := wind1_flat (px, py) ((x + wd, y + 1), (x + 1, y + 1)) rfl
  have w4 := wind1_flat (px, py) ((x + 1, y + h), (x, y + h)) rfl
  have w1 : wind1 (px, py) ((x + wd, y), (x + wd, y + 1)) = if py = y ∧ px < x + wd then 1 else 0 := by
    unfold wind1
    simp only [c1]
    split <;> split <;> (try split) <;> omega
  have w3 : wind1 (px, py) ((x + 1, y + 1), (x + 1, y + h)) = if y + 1 ≤ py ∧ py < y + h ∧ px < x + 1 then 1 else 0 := by
    unfold wind1
    simp only [c3]
    split <;> split <;> (try split) <;> omega
  have w5 : wind1 (px, py) ((x, y + h), (x, y)) = if y ≤ py ∧ py < y + h ∧ px < x then -1 else 0 := by
    unfold wind1
    simp only [c5]
    split <;> (try split) <;> (try split) <;> omega
  have on0 : onZ (px, py) ((x, y), (x + wd, y)) = decide (py = y ∧ x ≤ px ∧ px ≤ x + wd) := by
    rw [onZ_box, c0, Bool.eq_iff_iff]
    simp only [Bool.and_eq_true, decide_eq_true_eq]
    omega
  have on5 : onZ (px, py) ((x, y + h), (x, y)) = decide (px = x ∧ y ≤ py ∧ py ≤ y + h) := by
    rw [onZ_box, c5, Bool.eq_iff_iff]
    simp only [Bool.and_eq_true, decide_eq_true_eq]
    omega
  unfold withinZ
  rw [hn, show List.range 6 = [0, 1, 2, 3, 4, 5] from rfl]
  simp only [windS, List.any_cons, List.any_nil, s0, s1, s2, s3, s4, s5, on0, on5, w0, w1, w2, w3, w4, w5]
  by_cases g0 : py = y ∧ x ≤ px ∧ px ≤ x + wd
  · simp [g0]
  by_cases g5 : px = x ∧ y ≤ py ∧ py ≤ y + h
  · simp [g5]
  have : (0 + ((if py = y ∧ px < x + wd then (1 : Int) else 0) + (0 + ((if y + 1 ≤ py ∧ py < y + h ∧ px < x + 1 then 1 else 0) + (0 + ((if y ≤ py ∧ py < y + h ∧ px < x then -1 else 0) + 0)))))) = 0 := by
    split <;> split <;> split <;> omega
  rw [this]
  simp
end Go.Proofs.Ytokdclbfjlnnjaa
