/- Plain laws of the plane: what the statement on distances asks. -/
import Derived.Test.YtokdclbfjlnnjaaQ6
namespace Go.Proofs.Ytokdclbfjlnnjaa

theorem sq_zero {a b : Pt} (h : sqZ a b = 0) : a = b := by
  have h1 := sq_nonneg (a.1 - b.1)
  have h2 := sq_nonneg (a.2 - b.2)
  unfold sqZ at h
  have e1 : (a.1 - b.1) * (a.1 - b.1) = 0 := by omega
  have e2 : (a.2 - b.2) * (a.2 - b.2) = 0 := by omega
  have f1 : a.1 - b.1 = 0 := by rcases Int.mul_eq_zero.1 e1 with h | h <;> exact h
  have f2 : a.2 - b.2 = 0 := by rcases Int.mul_eq_zero.1 e2 with h | h <;> exact h
  exact Prod.ext (by omega) (by omega)
theorem sqZ_nonneg (a b : Pt) : 0 ≤ sqZ a b := by
  have h1 := sq_nonneg (a.1 - b.1)
  have h2 := sq_nonneg (a.2 - b.2)
  unfold sqZ; omega
theorem on_first (a b : Pt) : onZ a (a, b) = true := by
  have z : crossZ a b a = 0 := by simp [crossZ]
  unfold onZ
  simp [z]
theorem on_last (a b : Pt) : onZ b (a, b) = true := by
  have z : crossZ a b b = 0 := by simp only [crossZ]; grind
  unfold onZ
  simp [z]
theorem far_zero {p : Pt} {s : Pt × Pt} (h : (farZ p s).1 = 0) : onZ p s = true := by
  obtain ⟨a, b⟩ := s
  unfold farZ at h
  split at h
  · rename_i hc
    obtain ⟨hA, hB⟩ := hc
    simp only at h hA hB
    have hz : crossZ a b p = 0 := by rcases Int.mul_eq_zero.1 h with h | h <;> exact h
    unfold onZ
    simp only [hz, decide_true, Bool.true_and, Bool.and_eq_true, decide_eq_true_eq]
    have hS : 0 < sqZ a b := by unfold sqZ; grind
    have ex : (p.1 - a.1) * sqZ a b = (b.1 - a.1) * ((p.1 - a.1) * (b.1 - a.1) + (p.2 - a.2) * (b.2 - a.2)) := by simp only [crossZ, sqZ] at *; grind
    have ey : (p.2 - a.2) * sqZ a b = (b.2 - a.2) * ((p.1 - a.1) * (b.1 - a.1) + (p.2 - a.2) * (b.2 - a.2)) := by simp only [crossZ, sqZ] at *; grind
    have ex' : (p.1 - b.1) * sqZ a b = (a.1 - b.1) * ((p.1 - b.1) * (a.1 - b.1) + (p.2 - b.2) * (a.2 - b.2)) := by simp only [crossZ, sqZ] at *; grind
    have ey' : (p.2 - b.2) * sqZ a b = (a.2 - b.2) * ((p.1 - b.1) * (a.1 - b.1) + (p.2 - b.2) * (a.2 - b.2)) := by simp only [crossZ, sqZ] at *; grind
    generalize sqZ a b = S at *
    generalize (p.1 - a.1) * (b.1 - a.1) + (p.2 - a.2) * (b.2 - a.2) = A at *
    generalize (p.1 - b.1) * (a.1 - b.1) + (p.2 - b.2) * (a.2 - b.2) = B at *
    have key : ∀ {u v d : Int}, u * S = d * A → v * S = (-d) * B → u * v ≤ 0 := by
      intro u v d h1 h2
      refine Classical.byContradiction fun hn => ?_
      have hp : 0 < u * v := by omega
      have e : (u * v) * (S * S) = -((d * d) * (A * B)) := by
        have : (u * v) * (S * S) = (u * S) * (v * S) := by grind
        rw [this, h1, h2]; grind
      have q1 := Int.mul_pos hp (Int.mul_pos hS hS)
      have q2 := Int.mul_nonneg (sq_nonneg d) (show 0 ≤ A * B from Int.mul_nonneg (by omega) (by omega))
      omega
    exact ⟨key ex (by rw [ex']; congr 1; omega), key ey (by rw [ey']; congr 1; omega)⟩
  · simp only at h
    have h1 := sqZ_nonneg p a
    have h2 := sqZ_nonneg p b
    have : sqZ p a = 0 ∨ sqZ p b = 0 := by omega
    rcases this with h | h
    · rw [sq_zero h]; exact on_first a b
    · rw [sq_zero h]; exact on_last a b
theorem far_sq (p : Pt) (s : Pt × Pt) : (farZ p s).1 ≤ sqZ p s.1 * (farZ p s).2 := by
  obtain ⟨a, b⟩ := s
  unfold farZ
  split
  · simp only
    have e : sqZ p a * sqZ a b = crossZ a b p * crossZ a b p + ((p.1 - a.1) * (b.1 - a.1) + (p.2 - a.2) * (b.2 - a.2)) * ((p.1 - a.1) * (b.1 - a.1) + (p.2 - a.2) * (b.2 - a.2)) := by
      unfold sqZ crossZ; grind
    have := sq_nonneg ((p.1 - a.1) * (b.1 - a.1) + (p.2 - a.2) * (b.2 - a.2))
    omega
  · simp only
    omega
theorem sq_mono {g u : Int} (hg : 0 ≤ g) (h : g ≤ u ∨ g ≤ -u) : g * g ≤ u * u := by
  rcases h with h | h
  · exact Int.mul_le_mul h h hg (by omega)
  · have := Int.mul_le_mul h h hg (by omega)
    have e : -u * -u = u * u := by grind
    omega
theorem far_gap {g : Int} {p : Pt} {s : Pt × Pt} (hg : 0 ≤ g) (h : (g ≤ s.1.1 - p.1 ∧ g ≤ s.2.1 - p.1) ∨ (g ≤ -(s.1.1 - p.1) ∧ g ≤ -(s.2.1 - p.1))) : g * g * (farZ p s).2 ≤ (farZ p s).1 := by
  obtain ⟨a, b⟩ := s
  simp only at h
  unfold farZ
  split
  · rename_i hc
    obtain ⟨hA, hB⟩ := hc
    simp only at hA hB ⊢
    have hS : sqZ a b = ((p.1 - a.1) * (b.1 - a.1) + (p.2 - a.2) * (b.2 - a.2)) + ((p.1 - b.1) * (a.1 - b.1) + (p.2 - b.2) * (a.2 - b.2)) := by unfold sqZ; grind
    have e : crossZ a b p * crossZ a b p * sqZ a b =
        ((a.1 - p.1) * ((p.1 - b.1) * (a.1 - b.1) + (p.2 - b.2) * (a.2 - b.2)) + (b.1 - p.1) * ((p.1 - a.1) * (b.1 - a.1) + (p.2 - a.2) * (b.2 - a.2))) *
        ((a.1 - p.1) * ((p.1 - b.1) * (a.1 - b.1) + (p.2 - b.2) * (a.2 - b.2)) + (b.1 - p.1) * ((p.1 - a.1) * (b.1 - a.1) + (p.2 - a.2) * (b.2 - a.2))) +
        ((a.2 - p.2) * ((p.1 - b.1) * (a.1 - b.1) + (p.2 - b.2) * (a.2 - b.2)) + (b.2 - p.2) * ((p.1 - a.1) * (b.1 - a.1) + (p.2 - a.2) * (b.2 - a.2))) *
        ((a.2 - p.2) * ((p.1 - b.1) * (a.1 - b.1) + (p.2 - b.2) * (a.2 - b.2)) + (b.2 - p.2) * ((p.1 - a.1) * (b.1 - a.1) + (p.2 - a.2) * (b.2 - a.2))) := by
      have ea : a.1 = (a.1 - p.1) + p.1 := by omega
      unfold sqZ crossZ
      grind
    generalize (p.1 - a.1) * (b.1 - a.1) + (p.2 - a.2) * (b.2 - a.2) = A at *
    generalize (p.1 - b.1) * (a.1 - b.1) + (p.2 - b.2) * (a.2 - b.2) = B at *
    generalize crossZ a b p * crossZ a b p = C at *
    have hy := sq_nonneg ((a.2 - p.2) * B + (b.2 - p.2) * A)
    have hx : (g * sqZ a b) * (g * sqZ a b) ≤ ((a.1 - p.1) * B + (b.1 - p.1) * A) * ((a.1 - p.1) * B + (b.1 - p.1) * A) := by
      refine sq_mono (Int.mul_nonneg hg (by omega)) ?_
      rw [hS, Int.mul_add]
      rcases h with ⟨h1, h2⟩ | ⟨h1, h2⟩
      · have := Int.mul_le_mul_of_nonneg_right h1 (show 0 ≤ B by omega)
        have := Int.mul_le_mul_of_nonneg_right h2 (show 0 ≤ A by omega)
        exact .inl (by omega)
      · have a1 := Int.mul_le_mul_of_nonneg_right h1 (show 0 ≤ B by omega)
        have a2 := Int.mul_le_mul_of_nonneg_right h2 (show 0 ≤ A by omega)
        rw [Int.neg_mul] at a1 a2
        exact .inr (by omega)
    have hSp : 0 < sqZ a b := by omega
    generalize sqZ a b = S at *
    refine Int.le_of_mul_le_mul_right (a := S) ?_ hSp
    have : g * g * S * S = g * S * (g * S) := by grind
    omega
  · simp only
    have e1 := sq_nonneg (p.2 - a.2)
    have e2 := sq_nonneg (p.2 - b.2)
    have q1 : g * g ≤ (p.1 - a.1) * (p.1 - a.1) := sq_mono hg (by omega)
    have q2 : g * g ≤ (p.1 - b.1) * (p.1 - b.1) := sq_mono hg (by omega)
    unfold sqZ
    omega
theorem frac_facts {f : Int × Int} (h2 : 0 < f.2) (h1 : 0 ≤ f.1) : 1 ≤ (fracZ (some f)).2 ∧ 0 ≤ (fracZ (some f)).1 ∧ (fracZ (some f)).1 * f.2 = f.1 * (fracZ (some f)).2 := by
  obtain ⟨n, d⟩ := f
  simp only at *
  obtain ⟨n, rfl⟩ := Int.eq_ofNat_of_zero_le h1
  obtain ⟨d, rfl⟩ := Int.eq_ofNat_of_zero_le (show 0 ≤ d by omega)
  have hd0 : 0 < d := by omega
  unfold fracZ
  simp only [Int.toNat_natCast]
  by_cases hz : n = 0
  · subst hz; simp
  · rw [if_neg (by omega)]
    have g1 : 0 < Nat.gcd d n := Nat.gcd_pos_of_pos_left _ hd0
    obtain ⟨u, hu⟩ := Nat.gcd_dvd_left d n
    obtain ⟨v, hv⟩ := Nat.gcd_dvd_right d n
    generalize Nat.gcd d n = g at *
    simp only [← Int.natCast_ediv]
    have e1 : d / g = u := by rw [hu, Nat.mul_div_cancel_left _ g1]
    have e2 : n / g = v := by rw [hv, Nat.mul_div_cancel_left _ g1]
    rw [e1, e2]
    refine ⟨?_, by omega, ?_⟩
    · have : u ≠ 0 := by rintro rfl; simp at hu; omega
      omega
    · rw [hu, hv]
      have : v * (g * u) = g * v * u := by grind
      exact_mod_cast this
theorem cross_x (s t : Pt × Pt) : crossZ t.1 t.2 s.2 * s.1.1 - crossZ t.1 t.2 s.1 * s.2.1 + crossZ s.1 s.2 t.2 * t.1.1 - crossZ s.1 s.2 t.1 * t.2.1 = 0 := by
  obtain ⟨⟨a, b⟩, c, d⟩ := s
  obtain ⟨⟨e, f⟩, g, h⟩ := t
  simp only [crossZ]
  grind
theorem cross_d (s t : Pt × Pt) : crossZ t.1 t.2 s.2 - crossZ t.1 t.2 s.1 = -(crossZ s.1 s.2 t.2 - crossZ s.1 s.2 t.1) := by
  obtain ⟨⟨a, b⟩, c, d⟩ := s
  obtain ⟨⟨e, f⟩, g, h⟩ := t
  simp only [crossZ]
  grind
theorem on_x {p : Pt} {s : Pt × Pt} (h : onZ p s = true) : min s.1.1 s.2.1 ≤ p.1 ∧ p.1 ≤ max s.1.1 s.2.1 := by
  obtain ⟨a, b⟩ := s
  rw [onZ_box] at h
  simp only [Bool.and_eq_true, decide_eq_true_eq] at h
  exact ⟨h.2.1, h.2.2.1⟩
/-- Segments on different sides of a vertical line do not meet. -/
theorem apart_no_meet {s t : Pt × Pt} {hi lo : Int} (hlt : hi < lo) (h1 : s.1.1 ≤ hi) (h2 : s.2.1 ≤ hi) (h3 : lo ≤ t.1.1) (h4 : lo ≤ t.2.1) : meetZ s t = false := by
  have ho : ∀ {p : Pt} {s : Pt × Pt}, onZ p s = true → min s.1.1 s.2.1 ≤ p.1 ∧ p.1 ≤ max s.1.1 s.2.1 := fun h => on_x h
  cases hm : meetZ s t with
  | false => rfl
  | true =>
    exfalso
    unfold meetZ at hm
    simp only [Bool.or_eq_true, Bool.and_eq_true] at hm
    rcases hm with hm | hm | hm | hm | ⟨hm, hm'⟩
    · have := ho hm; omega
    · have := ho hm; omega
    · have := ho hm; omega
    · have := ho hm; omega
    · have e1 := cross_x s t
      have e2 := cross_d s t
      unfold oppZ at hm hm'
      simp only [decide_eq_true_eq] at hm hm'
      generalize crossZ t.1 t.2 s.2 = c2 at *
      generalize crossZ t.1 t.2 s.1 = c1 at *
      generalize crossZ s.1 s.2 t.2 = f2 at *
      generalize crossZ s.1 s.2 t.1 = f1 at *
      have key : ∀ {c1 c2 f1 f2 : Int}, c1 < 0 → 0 < c2 → f2 < 0 → 0 < f1 → c2 - c1 = -(f2 - f1) → c2 * s.1.1 - c1 * s.2.1 + f2 * t.1.1 - f1 * t.2.1 = 0 → False := by
        intro c1 c2 f1 f2 a1 a2 a3 a4 hd he
        have m1 := Int.mul_le_mul_of_nonneg_left h1 (show 0 ≤ c2 by omega)
        have m2 := Int.mul_le_mul_of_nonneg_left h2 (show 0 ≤ -c1 by omega)
        have m3 := Int.mul_le_mul_of_nonneg_left h3 (show 0 ≤ -f2 by omega)
        have m4 := Int.mul_le_mul_of_nonneg_left h4 (show 0 ≤ f1 by omega)
        rw [Int.neg_mul, Int.neg_mul] at m2 m3
        have q1 : (c2 - c1) * hi = c2 * hi - c1 * hi := Int.sub_mul _ _ _
        have q2 : (c2 - c1) * lo = f1 * lo - f2 * lo := by rw [hd]; grind
        have q3 := Int.mul_lt_mul_of_pos_left hlt (show 0 < c2 - c1 by omega)
        omega
      rcases hm with ⟨a1, a2⟩ | ⟨a1, a2⟩ <;> rcases hm' with ⟨a3, a4⟩ | ⟨a3, a4⟩
      · omega
      · exact key a3 a4 a2 a1 e2 e1
      · exact key (c1 := -c1) (c2 := -c2) (f1 := -f1) (f2 := -f2) (by omega) (by omega) (by omega) (by omega) (by omega) (by simp only [Int.neg_mul]; omega)
      · omega
/-- What is said of the distance of two shapes that have parts. -/
theorem near_facts {ka kb : Int} {la lb : List Pt} (h1 : 0 < nPart ka la) (h2 : 0 < nPart kb lb) :
    1 ≤ (nearZ ka la kb lb).2 ∧ 0 ≤ (nearZ ka la kb lb).1 ∧ ((nearZ ka la kb lb).1 = 0 ↔ meets la lb (nPart ka la) (nPart kb lb) = true) ∧
    (∀ i, i < nPart ka la → ∀ j, j < nPart kb lb → (nearZ ka la kb lb).1 ≤ sqZ (sgZ la i).1 (sgZ lb j).1 * (nearZ ka la kb lb).2) ∧
    (∀ hi lo, hi < lo → (∀ i, (ptZ la i).1 ≤ hi) → (∀ j, lo ≤ (ptZ lb j).1) → (lo - hi) * (lo - hi) * (nearZ ka la kb lb).2 ≤ (nearZ ka la kb lb).1) := by
  cases hm : meets la lb (nPart ka la) (nPart kb lb) with
  | true =>
    have e : nearZ ka la kb lb = (0, 1) := by unfold nearZ; rw [if_pos hm]
    rw [e]
    refine ⟨by simp, by simp, by simp, fun i _ j _ => by simp only; have := sqZ_nonneg (sgZ la i).1 (sgZ lb j).1; omega, fun hi lo hlt ha hb => ?_⟩
    obtain ⟨i, _, j, _, h⟩ := meets_iff.1 hm
    rw [apart_no_meet hlt (ha i) (ha (i + 1)) (hb j) (hb (j + 1))] at h
    cases h
  | false =>
    have e : nearZ ka la kb lb = fracZ (allFar la lb (nPart kb lb) (nPart ka la)) := by unfold nearZ; rw [hm]; rfl
    have hmin := allFar_min la lb (nPart kb lb) (nPart ka la)
    rw [e]
    cases hst : allFar la lb (nPart kb lb) (nPart ka la) with
    | none =>
      rw [hst] at hmin
      exact absurd ⟨0, h1, 0, h2, .inl rfl⟩ (hmin _)
    | some f =>
      rw [hst] at hmin
      obtain ⟨⟨i, hi, j, hj, hf⟩, hle⟩ := hmin
      have fd := far4_den hf
      have fn := far4_num hf
      obtain ⟨r2, r1, rx⟩ := frac_facts fd fn
      generalize fracZ (some f) = r at *
      have hpos : f.1 ≠ 0 := by
        intro h0
        have hmt : meetZ (sgZ la i) (sgZ lb j) = true := by
          unfold meetZ
          simp only [Bool.or_eq_true, Bool.and_eq_true]
          rcases hf with rfl | rfl | rfl | rfl
          · exact .inl (far_zero h0)
          · exact .inr (.inl (far_zero h0))
          · exact .inr (.inr (.inl (far_zero h0)))
          · exact .inr (.inr (.inr (.inl (far_zero h0))))
        rw [meets_iff.2 ⟨i, hi, j, hj, hmt⟩] at hm
        cases hm
      refine ⟨r2, r1, ?_, fun i' hi' j' hj' => ?_, fun hi' lo' hlt ha hb => ?_⟩
      · constructor
        · intro h0
          rw [h0, Int.zero_mul] at rx
          rcases Int.mul_eq_zero.1 rx.symm with h | h
          · exact absurd h hpos
          · omega
        · intro h; cases h
      · have hl := hle _ ⟨i', hi', j', hj', .inl rfl⟩
        have hs := far_sq (sgZ la i').1 (sgZ lb j')
        have hd := far_den (p := (sgZ la i').1) (s := sgZ lb j')
        unfold leF at hl
        generalize farZ (sgZ la i').1 (sgZ lb j') = g at *
        generalize sqZ (sgZ la i').1 (sgZ lb j').1 = c at *
        -- f.1 * g.2 ≤ g.1 * f.2 ≤ c * g.2 * f.2
        have a1 := Int.mul_le_mul_of_nonneg_right hs (show 0 ≤ f.2 by omega)
        have a2 : f.1 * g.2 ≤ (c * f.2) * g.2 := by
          have : c * g.2 * f.2 = c * f.2 * g.2 := by grind
          omega
        have a3 : f.1 ≤ c * f.2 := Int.le_of_mul_le_mul_right a2 hd
        have a4 := Int.mul_le_mul_of_nonneg_right a3 (show 0 ≤ r.2 by omega)
        refine Int.le_of_mul_le_mul_right (a := f.2) ?_ fd
        have : c * f.2 * r.2 = c * r.2 * f.2 := by grind
        omega
      · have hgap : (lo' - hi') * (lo' - hi') * f.2 ≤ f.1 := by
          have b1 := ha i
          have b2 := ha (i + 1)
          have b3 := hb j
          have b4 := hb (j + 1)
          unfold far4 sgZ at hf
          rcases hf with rfl | rfl | rfl | rfl
          · exact far_gap (by omega) (.inl ⟨by simp only; omega, by simp only; omega⟩)
          · exact far_gap (by omega) (.inl ⟨by simp only; omega, by simp only; omega⟩)
          · exact far_gap (by omega) (.inr ⟨by simp only; omega, by simp only; omega⟩)
          · exact far_gap (by omega) (.inr ⟨by simp only; omega, by simp only; omega⟩)
        generalize (lo' - hi') * (lo' - hi') = c at *
        have a4 := Int.mul_le_mul_of_nonneg_right hgap (show 0 ≤ r.2 by omega)
        refine Int.le_of_mul_le_mul_right (a := f.2) ?_ fd
        have : c * f.2 * r.2 = c * r.2 * f.2 := by grind
        omega
end Go.Proofs.Ytokdclbfjlnnjaa
