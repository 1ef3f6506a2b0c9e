/- Plain laws of the plane: the least of fractions, and the distance that comes of it. -/
import Derived.Test.YtokdclbfjlnnjaaQ5
import Derived.Test.YtokdclbfjlnnjaaP10
namespace Go.Proofs.Ytokdclbfjlnnjaa

def leF (f g : Int × Int) : Prop := f.1 * g.2 ≤ g.1 * f.2
theorem leF_refl (f : Int × Int) : leF f f := Int.le_refl _
theorem leF_trans {f g h : Int × Int} (hf : 0 < f.2) (hg : 0 < g.2) (hh : 0 < h.2) (h1 : leF f g) (h2 : leF g h) : leF f h := by
  unfold leF at *
  have a := Int.mul_le_mul_of_nonneg_right h1 (show 0 ≤ h.2 by omega)
  have b := Int.mul_le_mul_of_nonneg_right h2 (show 0 ≤ f.2 by omega)
  have e1 : g.1 * f.2 * h.2 = g.1 * h.2 * f.2 := by grind
  have e2 : f.1 * g.2 * h.2 = g.2 * (f.1 * h.2) := by grind
  have e3 : h.1 * g.2 * f.2 = g.2 * (h.1 * f.2) := by grind
  rw [e1, e2] at a
  rw [e3] at b
  exact Int.le_of_mul_le_mul_left (by omega) hg
/-- What is kept is the least of what was there. -/
def MinO (S : Int × Int → Prop) (st : Option (Int × Int)) : Prop := match st with
  | none => ∀ g, ¬ S g
  | some f => S f ∧ ∀ g, S g → leF f g
theorem better_min {S : Int × Int → Prop} {st : Option (Int × Int)} {f : Int × Int} (hS : ∀ g, S g → 0 < g.2) (h : MinO S st) (hf : 0 < f.2) : MinO (fun g => S g ∨ g = f) (better st f) := by
  cases st with
  | none =>
    refine ⟨.inr rfl, fun g hg => ?_⟩
    rcases hg with hg | rfl
    · exact absurd hg (h g)
    · exact leF_refl _
  | some x =>
    obtain ⟨n, d⟩ := x
    obtain ⟨h1, h2⟩ := h
    rw [show better (some (n, d)) f = if f.1 * d < n * f.2 then some f else some (n, d) from rfl]
    by_cases hlt : f.1 * d < n * f.2
    · rw [if_pos hlt]
      refine ⟨.inr rfl, fun g hg => ?_⟩
      rcases hg with hg | rfl
      · exact leF_trans hf (hS _ h1) (hS _ hg) (by unfold leF; simp only; omega) (h2 g hg)
      · exact leF_refl _
    · rw [if_neg hlt]
      refine ⟨.inl h1, fun g hg => ?_⟩
      rcases hg with hg | rfl
      · exact h2 g hg
      · unfold leF; simp only; omega
theorem MinO.congr {S T : Int × Int → Prop} (h : ∀ g, S g ↔ T g) {st : Option (Int × Int)} (hm : MinO S st) : MinO T st := by
  have : S = T := funext fun g => propext (h g)
  rw [← this]; exact hm
theorem far_den {p : Pt} {s : Pt × Pt} : 0 < (farZ p s).2 := by
  unfold farZ
  split
  · rename_i h
    obtain ⟨h1, h2⟩ := h
    unfold sqZ
    grind
  · simp
theorem far_num {p : Pt} {s : Pt × Pt} : 0 ≤ (farZ p s).1 := by
  unfold farZ
  split
  · exact sq_nonneg _
  · have a := sq_nonneg (p.1 - s.1.1)
    have b := sq_nonneg (p.2 - s.1.2)
    have c := sq_nonneg (p.1 - s.2.1)
    have d := sq_nonneg (p.2 - s.2.2)
    unfold sqZ
    simp only
    omega
/-- The four fractions of two segments; all fractions of two shapes. -/
def far4 (s t : Pt × Pt) (g : Int × Int) : Prop := g = farZ s.1 t ∨ g = farZ s.2 t ∨ g = farZ t.1 s ∨ g = farZ t.2 s
def farS (la lb : List Pt) (m m' : Nat) (g : Int × Int) : Prop := ∃ i, i < m ∧ ∃ j, j < m' ∧ far4 (sgZ la i) (sgZ lb j) g
theorem far4_den {s t : Pt × Pt} {g : Int × Int} (h : far4 s t g) : 0 < g.2 := by rcases h with rfl | rfl | rfl | rfl <;> exact far_den
theorem far4_num {s t : Pt × Pt} {g : Int × Int} (h : far4 s t g) : 0 ≤ g.1 := by rcases h with rfl | rfl | rfl | rfl <;> exact far_num
theorem far4_swap {s t : Pt × Pt} {g : Int × Int} : far4 s t g ↔ far4 t s g := by unfold far4; constructor <;> (rintro (h | h | h | h) <;> simp [h])
theorem pairFar_min {S : Int × Int → Prop} {st : Option (Int × Int)} {s t : Pt × Pt} (hS : ∀ g, S g → 0 < g.2) (h : MinO S st) : MinO (fun g => S g ∨ far4 s t g) (pairFar s t st) := by
  have h1 := better_min hS h (far_den (p := s.1) (s := t))
  have S1 : ∀ g, (S g ∨ g = farZ s.1 t) → 0 < g.2 := fun g hg => by
    rcases hg with hg | hg
    · exact hS g hg
    · rw [hg]; exact far_den
  have h2 := better_min S1 h1 (far_den (p := s.2) (s := t))
  have S2 : ∀ g, ((S g ∨ g = farZ s.1 t) ∨ g = farZ s.2 t) → 0 < g.2 := fun g hg => by
    rcases hg with hg | hg
    · exact S1 g hg
    · rw [hg]; exact far_den
  have h3 := better_min S2 h2 (far_den (p := t.1) (s := s))
  have S3 : ∀ g, (((S g ∨ g = farZ s.1 t) ∨ g = farZ s.2 t) ∨ g = farZ t.1 s) → 0 < g.2 := fun g hg => by
    rcases hg with hg | hg
    · exact S2 g hg
    · rw [hg]; exact far_den
  have h4 := better_min S3 h3 (far_den (p := t.2) (s := s))
  exact h4.congr fun g => by unfold far4; simp [or_assoc]
theorem rowFar_min {S : Int × Int → Prop} {st : Option (Int × Int)} {s : Pt × Pt} {lb : List Pt} (hS : ∀ g, S g → 0 < g.2) (h : MinO S st) : ∀ j, MinO (fun g => S g ∨ ∃ i, i < j ∧ far4 s (sgZ lb i) g) (rowFar s lb j st)
  | 0 => h.congr fun g => by simp
  | j + 1 => (pairFar_min (fun g hg => by
      rcases hg with hg | ⟨i, _, hg⟩
      · exact hS g hg
      · exact far4_den hg) (rowFar_min hS h j)).congr fun g => by
    constructor
    · rintro ((h | ⟨i, hi, h⟩) | h)
      · exact .inl h
      · exact .inr ⟨i, by omega, h⟩
      · exact .inr ⟨j, by omega, h⟩
    · rintro (h | ⟨i, hi, h⟩)
      · exact .inl (.inl h)
      · rcases Nat.lt_or_ge i j with h' | h'
        · exact .inl (.inr ⟨i, h', h⟩)
        · obtain rfl : i = j := by omega
          exact .inr h
theorem allFar_min (la lb : List Pt) (m' : Nat) : ∀ m, MinO (farS la lb m m') (allFar la lb m' m)
  | 0 => fun g h => by obtain ⟨i, hi, _⟩ := h; omega
  | m + 1 => (rowFar_min (fun g hg => by obtain ⟨_, _, _, _, hg⟩ := hg; exact far4_den hg) (allFar_min la lb m' m) m').congr fun g => by
    unfold farS
    constructor
    · rintro (⟨i, hi, h⟩ | h)
      · exact ⟨i, by omega, h⟩
      · exact ⟨m, by omega, h⟩
    · rintro ⟨i, hi, h⟩
      rcases Nat.lt_or_ge i m with h' | h'
      · exact .inl ⟨i, h', h⟩
      · obtain rfl : i = m := by omega
        exact .inr h

theorem gcd_cross {n d n' d' : Nat} (h : n * d' = n' * d) : n * Nat.gcd d' n' = n' * Nat.gcd d n := by
  rw [← Nat.gcd_mul_left, ← Nat.gcd_mul_left, h, Nat.mul_comm n n']
theorem gcd_cross2 {n d n' d' : Nat} (h : n * d' = n' * d) : d * Nat.gcd d' n' = d' * Nat.gcd d n := by
  rw [← Nat.gcd_mul_left, ← Nat.gcd_mul_left, Nat.mul_comm d d', Nat.mul_comm d n', ← h, Nat.mul_comm n d']
theorem div_cross {a b g g' : Nat} (hg : 0 < g) (hg' : 0 < g') (h1 : g ∣ a) (h2 : g' ∣ b) (h : a * g' = b * g) : a / g = b / g' := by
  obtain ⟨u, rfl⟩ := h1
  obtain ⟨v, rfl⟩ := h2
  rw [Nat.mul_div_cancel_left _ hg, Nat.mul_div_cancel_left _ hg']
  have : (g * g') * u = (g * g') * v := by grind
  exact Nat.eq_of_mul_eq_mul_left (Nat.mul_pos hg hg') this
theorem frac_same {f g : Int × Int} (hf : 0 < f.2) (hg : 0 < g.2) (hf1 : 0 ≤ f.1) (hg1 : 0 ≤ g.1) (h : f.1 * g.2 = g.1 * f.2) : fracZ (some f) = fracZ (some g) := by
  obtain ⟨n, d⟩ := f
  obtain ⟨n', d'⟩ := g
  simp only at *
  obtain ⟨n, rfl⟩ := Int.eq_ofNat_of_zero_le hf1
  obtain ⟨n', rfl⟩ := Int.eq_ofNat_of_zero_le hg1
  obtain ⟨d, rfl⟩ := Int.eq_ofNat_of_zero_le (show 0 ≤ d by omega)
  obtain ⟨d', rfl⟩ := Int.eq_ofNat_of_zero_le (show 0 ≤ d' by omega)
  have hN : n * d' = n' * d := by exact_mod_cast h
  unfold fracZ
  simp only [Int.toNat_natCast]
  have hd0 : 0 < d := by omega
  have hd0' : 0 < d' := by omega
  by_cases hz : n = 0
  · subst hz
    have hz' : n' = 0 := by
      rw [Nat.zero_mul] at hN
      rcases Nat.mul_eq_zero.1 hN.symm with h | h
      · exact h
      · omega
    subst hz'
    simp
  · have hz' : n' ≠ 0 := by
      rintro rfl
      rw [Nat.zero_mul] at hN
      rcases Nat.mul_eq_zero.1 hN with h | h <;> omega
    rw [if_neg (by omega), if_neg (by omega)]
    have g1 : 0 < Nat.gcd d n := Nat.gcd_pos_of_pos_left _ hd0
    have g2 : 0 < Nat.gcd d' n' := Nat.gcd_pos_of_pos_left _ hd0'
    have e1 := div_cross g1 g2 (Nat.gcd_dvd_right d n) (Nat.gcd_dvd_right d' n') (gcd_cross hN)
    have e2 := div_cross g1 g2 (Nat.gcd_dvd_left d n) (Nat.gcd_dvd_left d' n') (gcd_cross2 hN)
    rw [← Int.natCast_ediv, ← Int.natCast_ediv, ← Int.natCast_ediv, ← Int.natCast_ediv, e1, e2]
theorem frac_min_same {S : Int × Int → Prop} (hS : ∀ g, S g → 0 < g.2 ∧ 0 ≤ g.1) {st st' : Option (Int × Int)} (h : MinO S st) (h' : MinO S st') : fracZ st = fracZ st' := by
  cases st with
  | none => cases st' with
    | none => rfl
    | some g => exact absurd h'.1 (h g)
  | some f => cases st' with
    | none => exact absurd h.1 (h' f)
    | some g =>
      have a := h.2 g h'.1
      have b := h'.2 f h.1
      unfold leF at a b
      exact frac_same (hS f h.1).1 (hS g h'.1).1 (hS f h.1).2 (hS g h'.1).2 (by omega)
/-- Shapes with the same fractions, and that meet alike, are as far from each other. -/
theorem near_same {ka kb ka' kb' : Int} {la lb la' lb' : List Pt} (hm : meets la lb (nPart ka la) (nPart kb lb) = meets la' lb' (nPart ka' la') (nPart kb' lb'))
    (hf : ∀ g, farS la lb (nPart ka la) (nPart kb lb) g ↔ farS la' lb' (nPart ka' la') (nPart kb' lb') g) : nearZ ka la kb lb = nearZ ka' la' kb' lb' := by
  unfold nearZ
  rw [hm]
  split
  · rfl
  · exact frac_min_same (S := farS la' lb' (nPart ka' la') (nPart kb' lb')) (fun g hg => by obtain ⟨_, _, _, _, hg⟩ := hg; exact ⟨far4_den hg, far4_num hg⟩) ((allFar_min la lb _ _).congr hf) (allFar_min la' lb' _ _)
theorem meetZ_swap (s t : Pt × Pt) : meetZ s t = meetZ t s := by
  unfold meetZ
  rw [Bool.and_comm]
  cases onZ s.1 t <;> cases onZ s.2 t <;> cases onZ t.1 s <;> cases onZ t.2 s <;> rfl
theorem meets_iff {la lb : List Pt} {m m' : Nat} : meets la lb m m' = true ↔ ∃ i, i < m ∧ ∃ j, j < m' ∧ meetZ (sgZ la i) (sgZ lb j) = true := by
  unfold meets
  simp only [List.any_eq_true, List.mem_range]
theorem near_swap (ka kb : Int) (la lb : List Pt) : nearZ ka la kb lb = nearZ kb lb ka la := by
  refine near_same ?_ fun g => ?_
  · rw [Bool.eq_iff_iff, meets_iff, meets_iff]
    constructor
    · rintro ⟨i, hi, j, hj, h⟩
      exact ⟨j, hj, i, hi, by rw [meetZ_swap]; exact h⟩
    · rintro ⟨i, hi, j, hj, h⟩
      exact ⟨j, hj, i, hi, by rw [meetZ_swap]; exact h⟩
  · unfold farS
    constructor
    · rintro ⟨i, hi, j, hj, h⟩
      exact ⟨j, hj, i, hi, far4_swap.1 h⟩
    · rintro ⟨i, hi, j, hj, h⟩
      exact ⟨j, hj, i, hi, far4_swap.1 h⟩
end Go.Proofs.Ytokdclbfjlnnjaa
