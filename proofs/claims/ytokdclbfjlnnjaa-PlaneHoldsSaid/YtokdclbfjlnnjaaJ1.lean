/- Plain laws of the plane: two segments that do not cut, level by level. -/
import Derived.Test.YtokdclbfjlnnjaaA3
namespace Go.Proofs.Ytokdclbfjlnnjaa

/-- The signs differ, or one is none. -/
def Sgn (x y : Int) : Prop := (x ≤ 0 ∧ 0 ≤ y) ∨ (0 ≤ x ∧ y ≤ 0)
theorem Sgn.swap {x y : Int} (h : Sgn x y) : Sgn y x := by unfold Sgn at *; omega
theorem Sgn.neg {x y : Int} (h : Sgn x y) : Sgn (-x) (-y) := by unfold Sgn at *; omega
/-- The segments a b and c d cut each other, and do not lie in one line. -/
def Cut (a b c d : Pt) : Prop := Sgn (crossZ c d a) (crossZ c d b) ∧ Sgn (crossZ a b c) (crossZ a b d) ∧ ¬ (crossZ c d a = 0 ∧ crossZ c d b = 0 ∧ crossZ a b c = 0 ∧ crossZ a b d = 0)
theorem Cut.sym {a b c d : Pt} (h : Cut a b c d) : Cut c d a b := ⟨h.2.1, h.1, fun ⟨h1, h2, h3, h4⟩ => h.2.2 ⟨h3, h4, h1, h2⟩⟩
theorem Cut.swap1 {a b c d : Pt} (h : Cut b a c d) : Cut a b c d := by
  obtain ⟨h1, h2, h3⟩ := h
  rw [cross_swap a b c, cross_swap a b d] at h2 h3
  exact ⟨h1.swap, by have := h2.neg; simpa using this, fun ⟨q1, q2, q3, q4⟩ => h3 ⟨q2, q1, by omega, by omega⟩⟩
theorem Cut.swap2 {a b c d : Pt} (h : Cut a b d c) : Cut a b c d := (Cut.swap1 h.sym).sym

/-- Twice the way at a level between two lines (as a multiple). -/
def gap (p q p' q' : Pt) (y : Int) : Int := (q.2 - p.2) * crossZ p' q' p + (y - p.2) * (crossZ p' q' q - crossZ p' q' p)
theorem gap_p (p q p' q' : Pt) : gap p q p' q' p.2 = (q.2 - p.2) * crossZ p' q' p := by unfold gap; grind
theorem gap_q (p q p' q' : Pt) : gap p q p' q' q.2 = (q.2 - p.2) * crossZ p' q' q := by unfold gap; grind
theorem gap_p' (p q p' q' : Pt) : gap p q p' q' p'.2 = -((q'.2 - p'.2) * crossZ p q p') := by unfold gap crossZ; grind
theorem gap_q' (p q p' q' : Pt) : gap p q p' q' q'.2 = -((q'.2 - p'.2) * crossZ p q q') := by unfold gap crossZ; grind
def slo (p q p' q' : Pt) : Int := crossZ p' q' q - crossZ p' q' p
theorem gap_step (p q p' q' : Pt) (y z : Int) : gap p q p' q' z = gap p q p' q' y + (z - y) * slo p q p' q' := by unfold gap slo; grind
theorem pos_mul {d x : Int} (hd : 0 < d) : (0 < d * x ↔ 0 < x) ∧ (d * x ≤ 0 ↔ x ≤ 0) ∧ (d * x < 0 ↔ x < 0) ∧ (0 ≤ d * x ↔ 0 ≤ x) ∧ (d * x = 0 ↔ x = 0) := by
  have h1 : 0 < x → 0 < d * x := fun h => Int.mul_pos hd h
  have h2 : x < 0 → d * x < 0 := fun h => by
    have := Int.mul_pos hd (show 0 < -x by omega)
    rw [Int.mul_neg] at this
    omega
  have h3 : x = 0 → d * x = 0 := fun h => by rw [h, Int.mul_zero]
  omega
/-- From below to above: it does so all along. -/
theorem gap_up {p q p' q' : Pt} {y z : Int} (hyz : y ≤ z) (h1 : gap p q p' q' y ≤ 0) (h2 : 0 < gap p q p' q' z) :
    0 < slo p q p' q' ∧ (∀ x, x ≤ y → gap p q p' q' x ≤ 0) ∧ ∀ x, z ≤ x → 0 < gap p q p' q' x := by
  have e := gap_step p q p' q' y z
  have hb : 0 < slo p q p' q' := by
    rcases Int.lt_trichotomy (slo p q p' q') 0 with h | h | h
    · have := Int.mul_nonneg (show 0 ≤ z - y by omega) (show 0 ≤ -slo p q p' q' by omega)
      rw [Int.mul_neg] at this
      omega
    · rw [h, Int.mul_zero] at e; omega
    · exact h
  refine ⟨hb, fun x hx => ?_, fun x hx => ?_⟩
  · have e1 := gap_step p q p' q' x y
    have := Int.mul_nonneg (show 0 ≤ y - x by omega) (show 0 ≤ slo p q p' q' by omega)
    omega
  · have e1 := gap_step p q p' q' z x
    have := Int.mul_nonneg (show 0 ≤ x - z by omega) (show 0 ≤ slo p q p' q' by omega)
    omega
theorem gap_down {p q p' q' : Pt} {y z : Int} (hyz : y ≤ z) (h1 : 0 < gap p q p' q' y) (h2 : gap p q p' q' z ≤ 0) :
    slo p q p' q' < 0 ∧ (∀ x, x ≤ y → 0 < gap p q p' q' x) ∧ ∀ x, z ≤ x → gap p q p' q' x ≤ 0 := by
  have e := gap_step p q p' q' y z
  have hb : slo p q p' q' < 0 := by
    rcases Int.lt_trichotomy (slo p q p' q') 0 with h | h | h
    · exact h
    · rw [h, Int.mul_zero] at e; omega
    · have := Int.mul_nonneg (show 0 ≤ z - y by omega) (show 0 ≤ slo p q p' q' by omega)
      omega
  refine ⟨hb, fun x hx => ?_, fun x hx => ?_⟩
  · have e1 := gap_step p q p' q' x y
    have := Int.mul_nonneg (show 0 ≤ y - x by omega) (show 0 ≤ -slo p q p' q' by omega)
    rw [Int.mul_neg] at this
    omega
  · have e1 := gap_step p q p' q' z x
    have := Int.mul_nonneg (show 0 ≤ x - z by omega) (show 0 ≤ -slo p q p' q' by omega)
    rw [Int.mul_neg] at this
    omega
/-- Which one is to the west stays, where both are. -/
theorem gap_const {p q p' q' : Pt} (hp : p.2 < q.2) (hp' : p'.2 < q'.2) {y z : Int} (hyz : y ≤ z) (h1 : p.2 ≤ y) (h2 : p'.2 ≤ y) (h3 : z ≤ q.2) (h4 : z ≤ q'.2) (hc : ¬ Cut p q p' q' ∨ p = p' ∧ p.2 < y ∨ q = q' ∧ z < q.2) :
    0 < gap p q p' q' y ↔ 0 < gap p q p' q' z := by
  have hd : 0 < q.2 - p.2 := by omega
  have hd' : 0 < q'.2 - p'.2 := by omega
  have e1 := gap_p p q p' q'
  have e2 := gap_q p q p' q'
  have e3 := gap_p' p q p' q'
  have e4 := gap_q' p q p' q'
  have m1 := @pos_mul _ (crossZ p' q' p) hd
  have m2 := @pos_mul _ (crossZ p' q' q) hd
  have m3 := @pos_mul _ (crossZ p q p') hd'
  have m4 := @pos_mul _ (crossZ p q q') hd'
  have z1 : p = p' → gap p q p' q' p.2 = 0 := fun h => by
    rw [e1, h, show crossZ p' q' p' = 0 by unfold crossZ; grind, Int.mul_zero]
  have z2 : q = q' → gap p q p' q' q.2 = 0 := fun h => by
    rw [e2, h, show crossZ p' q' q' = 0 by unfold crossZ; grind, Int.mul_zero]
  constructor
  · intro h
    refine Classical.byContradiction fun hn => ?_
    obtain ⟨hs, b1, b2⟩ := gap_down hyz h (by omega)
    have c1 := b1 p.2 h1
    have c2 := b1 p'.2 h2
    have c3 := b2 q.2 h3
    have c4 := b2 q'.2 h4
    rcases hc with hc | ⟨hc, _⟩ | ⟨hc, hz⟩
    · refine hc ⟨?_, ?_, ?_⟩
      · unfold Sgn; omega
      · unfold Sgn; omega
      · omega
    · have := z1 hc; omega
    · have e := gap_step p q p' q' z q.2
      have := z2 hc
      have := Int.mul_pos (show 0 < q.2 - z by omega) (show 0 < -slo p q p' q' by omega)
      rw [Int.mul_neg] at this
      omega
  · intro h
    refine Classical.byContradiction fun hn => ?_
    obtain ⟨hs, b1, b2⟩ := gap_up hyz (by omega) h
    have c1 := b1 p.2 h1
    have c2 := b1 p'.2 h2
    have c3 := b2 q.2 h3
    have c4 := b2 q'.2 h4
    rcases hc with hc | ⟨hc, hz⟩ | ⟨hc, _⟩
    · refine hc ⟨?_, ?_, ?_⟩
      · unfold Sgn; omega
      · unfold Sgn; omega
      · omega
    · have e := gap_step p q p' q' p.2 y
      have := z1 hc
      have := Int.mul_pos (show 0 < y - p.2 by omega) (show 0 < slo p q p' q' by omega)
      omega
    · have := z2 hc; omega

/-- What a ray to the east meets of a segment (wind1 is that), and one to the west. -/
def westL (z : Pt) (s : Pt × Pt) : Int := if s.1.2 < z.2 ∧ z.2 ≤ s.2.2 ∧ crossZ s.1 s.2 z < 0 then 1 else if s.2.2 < z.2 ∧ z.2 ≤ s.1.2 ∧ 0 < crossZ s.1 s.2 z then -1 else 0
theorem wind1_swap (z a b : Pt) : wind1 z (b, a) = -wind1 z (a, b) := by
  unfold wind1
  have := cross_swap a b z
  simp only
  generalize crossZ a b z = c at *
  rw [this]
  split <;> split <;> (try split) <;> (try split) <;> omega
theorem westL_swap (z a b : Pt) : westL z (b, a) = -westL z (a, b) := by
  unfold westL
  have := cross_swap a b z
  simp only
  generalize crossZ a b z = c at *
  rw [this]
  split <;> split <;> (try split) <;> (try split) <;> omega
theorem wind1_of_up {z a b : Pt} (h : a.2 ≤ b.2) : wind1 z (a, b) = if a.2 ≤ z.2 ∧ z.2 < b.2 ∧ 0 < crossZ a b z then 1 else 0 := by
  unfold wind1
  simp only
  split <;> (try split) <;> omega
theorem westL_of_up {z a b : Pt} (h : a.2 ≤ b.2) : westL z (a, b) = if a.2 < z.2 ∧ z.2 ≤ b.2 ∧ crossZ a b z < 0 then 1 else 0 := by
  unfold westL
  simp only
  split <;> (try split) <;> omega

/-- Two segments that do not cut, both upwards: what is met at the four ends. -/
theorem ends_up {p q p' q' : Pt} (hp : p.2 ≤ q.2) (hp' : p'.2 ≤ q'.2) (hc : ¬ Cut p q p' q') :
    wind1 p (p', q') - wind1 q (p', q') + westL p' (p, q) - westL q' (p, q) = 0 := by
  rw [wind1_of_up hp', wind1_of_up hp', westL_of_up hp, westL_of_up hp]
  by_cases h0 : p.2 = q.2
  · by_cases h0' : p'.2 = q'.2
    · rw [if_neg (by omega), if_neg (by omega), if_neg (by omega), if_neg (by omega)]; rfl
    · rw [if_neg (c := p.2 < p'.2 ∧ _) (by omega), if_neg (c := p.2 < q'.2 ∧ _) (by omega)]
      by_cases hr : p'.2 ≤ p.2 ∧ p.2 < q'.2
      · have e1 : crossZ p q p' = -((q.1 - p.1) * (p.2 - p'.2)) + 0 := by unfold crossZ; rw [← h0]; grind
        have e1' : crossZ p q p' = (q.1 - p.1) * (p'.2 - p.2) := by unfold crossZ; rw [← h0]; grind
        have e2 : crossZ p q q' = (q.1 - p.1) * (q'.2 - p.2) := by unfold crossZ; rw [← h0]; grind
        have hs : Sgn (crossZ p q p') (crossZ p q q') := by
          rcases Int.le_total 0 (q.1 - p.1) with h | h
          · have := Int.mul_nonneg h (show 0 ≤ p.2 - p'.2 by omega)
            have := Int.mul_nonneg h (show 0 ≤ q'.2 - p.2 by omega)
            unfold Sgn
            omega
          · have a1 := Int.mul_nonneg (show 0 ≤ -(q.1 - p.1) by omega) (show 0 ≤ p.2 - p'.2 by omega)
            have a2 := Int.mul_nonneg (show 0 ≤ -(q.1 - p.1) by omega) (show 0 ≤ q'.2 - p.2 by omega)
            rw [Int.neg_mul] at a1 a2
            unfold Sgn
            omega
        have : 0 < crossZ p' q' p ↔ 0 < crossZ p' q' q := by
          refine Classical.byContradiction fun hn => hc ⟨?_, hs, ?_⟩
          · unfold Sgn; omega
          · omega
        split <;> split <;> omega
      · rw [if_neg (by omega), if_neg (by omega)]; rfl
  · by_cases h0' : p'.2 = q'.2
    · rw [if_neg (c := p'.2 ≤ p.2 ∧ _) (by omega), if_neg (c := p'.2 ≤ q.2 ∧ _) (by omega)]
      by_cases hr : p.2 < p'.2 ∧ p'.2 ≤ q.2
      · have e1 : crossZ p' q' p = (q'.1 - p'.1) * (p.2 - p'.2) := by unfold crossZ; rw [← h0']; grind
        have e2 : crossZ p' q' q = (q'.1 - p'.1) * (q.2 - p'.2) := by unfold crossZ; rw [← h0']; grind
        have e1' : crossZ p' q' p = -((q'.1 - p'.1) * (p'.2 - p.2)) := by rw [e1]; grind
        have hs : Sgn (crossZ p' q' p) (crossZ p' q' q) := by
          rcases Int.le_total 0 (q'.1 - p'.1) with h | h
          · have := Int.mul_nonneg h (show 0 ≤ p'.2 - p.2 by omega)
            have := Int.mul_nonneg h (show 0 ≤ q.2 - p'.2 by omega)
            unfold Sgn
            omega
          · have a1 := Int.mul_nonneg (show 0 ≤ -(q'.1 - p'.1) by omega) (show 0 ≤ p'.2 - p.2 by omega)
            have a2 := Int.mul_nonneg (show 0 ≤ -(q'.1 - p'.1) by omega) (show 0 ≤ q.2 - p'.2 by omega)
            rw [Int.neg_mul] at a1 a2
            unfold Sgn
            omega
        have : crossZ p q p' < 0 ↔ crossZ p q q' < 0 := by
          refine Classical.byContradiction fun hn => hc ⟨hs, ?_, ?_⟩
          · unfold Sgn; omega
          · omega
        split <;> split <;> omega
      · rw [if_neg (by omega), if_neg (by omega)]; rfl
    · have hd : 0 < q.2 - p.2 := by omega
      have hd' : 0 < q'.2 - p'.2 := by omega
      have e1 := gap_p p q p' q'
      have e2 := gap_q p q p' q'
      have e3 := gap_p' p q p' q'
      have e4 := gap_q' p q p' q'
      have m1 := @pos_mul _ (crossZ p' q' p) hd
      have m2 := @pos_mul _ (crossZ p' q' q) hd
      have m3 := @pos_mul _ (crossZ p q p') hd'
      have m4 := @pos_mul _ (crossZ p q q') hd'
      have K := fun y z hyz h1 h2 h3 h4 => gap_const (p := p) (q := q) (p' := p') (q' := q') (y := y) (z := z) (by omega) (by omega) hyz h1 h2 h3 h4 (.inl hc)
      rcases Int.lt_or_le p.2 p'.2 with g1 | g1 <;> rcases Int.lt_or_le q.2 q'.2 with g2 | g2
      · by_cases g3 : p'.2 ≤ q.2
        · have := K p'.2 q.2 g3 (by omega) (by omega) (by omega) (by omega)
          split <;> split <;> split <;> split <;> omega
        · rw [if_neg (by omega), if_neg (by omega), if_neg (by omega), if_neg (by omega)]; rfl
      · have := K p'.2 q'.2 (by omega) (by omega) (by omega) (by omega) (by omega)
        split <;> split <;> split <;> split <;> omega
      · have := K p.2 q.2 (by omega) (by omega) (by omega) (by omega) (by omega)
        split <;> split <;> split <;> split <;> omega
      · by_cases g3 : p.2 < q'.2
        · have := K p.2 q'.2 (by omega) (by omega) (by omega) (by omega) (by omega)
          split <;> split <;> split <;> split <;> omega
        · rw [if_neg (by omega), if_neg (by omega), if_neg (by omega), if_neg (by omega)]; rfl
/-- The same for segments of whatever direction. -/
theorem ends_any {a b c d : Pt} (hc : ¬ Cut a b c d) : wind1 a (c, d) - wind1 b (c, d) + westL c (a, b) - westL d (a, b) = 0 := by
  rcases Int.le_total a.2 b.2 with h1 | h1 <;> rcases Int.le_total c.2 d.2 with h2 | h2
  · exact ends_up h1 h2 hc
  · have := ends_up h1 h2 (fun h => hc h.swap2)
    rw [wind1_swap a c d, wind1_swap b c d] at this
    omega
  · have := ends_up h1 h2 (fun h => hc h.swap1)
    rw [westL_swap c a b, westL_swap d a b] at this
    omega
  · have := ends_up h1 h2 (fun h => hc h.swap2.swap1)
    rw [wind1_swap a c d, wind1_swap b c d, westL_swap c a b, westL_swap d a b] at this
    omega
/-- Two segments that pass a level, above it: who is to the west there, and what is met at the upper ends. -/
theorem ends_level {p q p' q' : Pt} {y : Int} (hp : p.2 < y) (hq : y < q.2) (hp' : p'.2 < y) (hq' : y < q'.2) (hc : ¬ Cut p q p' q' ∨ p = p') :
    (if 0 < gap p q p' q' y then 1 else 0) = wind1 q (p', q') + westL q' (p, q) := by
  rw [wind1_of_up (by omega), westL_of_up (by omega)]
  have hd : 0 < q.2 - p.2 := by omega
  have hd' : 0 < q'.2 - p'.2 := by omega
  have e2 := gap_q p q p' q'
  have e4 := gap_q' p q p' q'
  have m2 := @pos_mul _ (crossZ p' q' q) hd
  have m4 := @pos_mul _ (crossZ p q q') hd'
  have K := fun z hyz h3 h4 => gap_const (p := p) (q := q) (p' := p') (q' := q') (y := y) (z := z) (by omega) (by omega) hyz (by omega) (by omega) h3 h4 (hc.imp id fun h => .inl ⟨h, hp⟩)
  rcases Int.lt_or_le q.2 q'.2 with g | g
  · have := K q.2 (by omega) (by omega) (by omega)
    split <;> split <;> split <;> omega
  · have := K q'.2 (by omega) (by omega) (by omega)
    split <;> split <;> split <;> omega
end Go.Proofs.Ytokdclbfjlnnjaa
