/- Plain laws of the plane: winding numbers and crossings. -/
import Derived.Test.YtokdclbfjlnnjaaP9
import Derived.Test.YtokdclbfjlnnjaaP18
namespace Go.Proofs.Ytokdclbfjlnnjaa

theorem cross_swap (a b c : Pt) : crossZ b a c = -crossZ a b c := by unfold crossZ; grind
theorem crossB_wind (p : Pt) (s : Pt × Pt) : crossB p s = decide (wind1 p s ≠ 0) := by
  have hsw := cross_swap s.1 s.2 p
  unfold crossB wind1
  rw [hsw]
  generalize crossZ s.1 s.2 p = c
  rw [Bool.eq_iff_iff]
  split
  · simp only [decide_eq_true_eq]
    rw [if_neg (by omega)]
    split
    · simp; omega
    · simp; omega
  · simp only [decide_eq_true_eq]
    split
    · simp; omega
    · rw [if_neg (by omega)]
      simp; omega
theorem odd_wind (p : Pt) (l : List Pt) : ∀ r, oddS p l r = decide (windS p l (List.range r) % 2 ≠ 0)
  | 0 => by simp [oddS, windS]
  | r + 1 => by
    have hb := wind1_bd p (sgZ l r)
    rw [oddS, odd_wind p l r, crossB_wind, List.range_succ, windS_snoc]
    generalize windS p l (List.range r) = u
    generalize wind1 p (sgZ l r) = v at *
    have hv : v = -1 ∨ v = 0 ∨ v = 1 := by omega
    rw [Bool.eq_iff_iff]
    by_cases hu : u % 2 = 0
    · rcases hv with rfl | rfl | rfl <;> simp [hu] <;> omega
    · rcases hv with rfl | rfl | rfl <;> simp [hu] <;> omega
theorem within_strictly {p : Pt} {k : Int} {l : List Pt} (h : -1 ≤ windS p l (List.range (nSeg k l)) ∧ windS p l (List.range (nSeg k l)) ≤ 1) : withinZ p k l = strictlyZ p k l := by
  unfold withinZ strictlyZ
  rw [odd_wind]
  congr 1
  generalize windS p l (List.range (nSeg k l)) = u at *
  rw [Bool.eq_iff_iff]
  simp
  omega
theorem inside_eq {ka kb : Int} {la lb : List Pt} (h : kb = 2 → ∀ p ∈ la, withinZ p kb lb = strictlyZ p kb lb) : insideZ ka la kb lb = rinsideZ ka la kb lb := by
  unfold insideZ rinsideZ
  by_cases hk : kb = 2
  · have : (la.any fun p => !withinZ p kb lb) = (la.any fun p => !strictlyZ p kb lb) := by
      rw [Bool.eq_iff_iff, List.any_eq_true, List.any_eq_true]
      constructor
      · rintro ⟨p, hp, hq⟩; exact ⟨p, hp, by rw [← h hk p hp]; exact hq⟩
      · rintro ⟨p, hp, hq⟩; exact ⟨p, hp, by rw [h hk p hp]; exact hq⟩
    rw [this]
  · simp [hk]

theorem loF_le (l : List Pt) : ∀ r j, j < r → (loF l r).1 ≤ (ptZ l j).1 ∧ (loF l r).2 ≤ (ptZ l j).2
  | r + 1, j, h => by
    by_cases hj : j = r
    · subst hj; exact ⟨Int.min_le_right _ _, Int.min_le_right _ _⟩
    · have := loF_le l r j (by omega)
      exact ⟨Int.le_trans (Int.min_le_left _ _) this.1, Int.le_trans (Int.min_le_left _ _) this.2⟩
theorem hiF_le (l : List Pt) : ∀ r j, j < r → (ptZ l j).1 ≤ (hiF l r).1 ∧ (ptZ l j).2 ≤ (hiF l r).2
  | r + 1, j, h => by
    by_cases hj : j = r
    · subst hj; exact ⟨Int.le_max_right _ _, Int.le_max_right _ _⟩
    · have := hiF_le l r j (by omega)
      exact ⟨Int.le_trans this.1 (Int.le_max_left _ _), Int.le_trans this.2 (Int.le_max_left _ _)⟩
theorem loF_in (l : List Pt) (h : l ≠ []) : ∀ r, (∃ p ∈ l, (loF l r).1 = p.1) ∧ (∃ p ∈ l, (loF l r).2 = p.2)
  | 0 => ⟨⟨_, ptZ_mem h 0, rfl⟩, ⟨_, ptZ_mem h 0, rfl⟩⟩
  | r + 1 => by
    obtain ⟨⟨p, hp, e1⟩, ⟨q, hq, e2⟩⟩ := loF_in l h r
    refine ⟨?_, ?_⟩
    · show ∃ p ∈ l, min (loF l r).1 (ptZ l r).1 = p.1
      rcases Int.le_total (loF l r).1 (ptZ l r).1 with h' | h'
      · exact ⟨p, hp, by rw [Int.min_eq_left h', e1]⟩
      · exact ⟨_, ptZ_mem h r, by rw [Int.min_eq_right h']⟩
    · show ∃ p ∈ l, min (loF l r).2 (ptZ l r).2 = p.2
      rcases Int.le_total (loF l r).2 (ptZ l r).2 with h' | h'
      · exact ⟨q, hq, by rw [Int.min_eq_left h', e2]⟩
      · exact ⟨_, ptZ_mem h r, by rw [Int.min_eq_right h']⟩
theorem hiF_in (l : List Pt) (h : l ≠ []) : ∀ r, (∃ p ∈ l, (hiF l r).1 = p.1) ∧ (∃ p ∈ l, (hiF l r).2 = p.2)
  | 0 => ⟨⟨_, ptZ_mem h 0, rfl⟩, ⟨_, ptZ_mem h 0, rfl⟩⟩
  | r + 1 => by
    obtain ⟨⟨p, hp, e1⟩, ⟨q, hq, e2⟩⟩ := hiF_in l h r
    refine ⟨?_, ?_⟩
    · show ∃ p ∈ l, max (hiF l r).1 (ptZ l r).1 = p.1
      rcases Int.le_total (hiF l r).1 (ptZ l r).1 with h' | h'
      · exact ⟨_, ptZ_mem h r, by rw [Int.max_eq_right h']⟩
      · exact ⟨p, hp, by rw [Int.max_eq_left h', e1]⟩
    · show ∃ p ∈ l, max (hiF l r).2 (ptZ l r).2 = p.2
      rcases Int.le_total (hiF l r).2 (ptZ l r).2 with h' | h'
      · exact ⟨_, ptZ_mem h r, by rw [Int.max_eq_right h']⟩
      · exact ⟨q, hq, by rw [Int.max_eq_left h', e2]⟩
theorem ptZ_of_mem {l : List Pt} {p : Pt} (h : p ∈ l) : ∃ j, j < l.length ∧ ptZ l j = p := by
  obtain ⟨j, hj, e⟩ := List.mem_iff_getElem.1 h
  exact ⟨j, hj, ptZ_get (by rw [List.getElem?_eq_getElem hj, e])⟩
/-- The box of a list that is not empty: its bounds are reached, and none lies outside. -/
theorem box_spec {l : List Pt} (h : l ≠ []) : (∀ p ∈ l, (boxZ l).1.1 ≤ p.1 ∧ (boxZ l).1.2 ≤ p.2 ∧ p.1 ≤ (boxZ l).2.1 ∧ p.2 ≤ (boxZ l).2.2) ∧ (∃ p ∈ l, (boxZ l).1.1 = p.1) ∧ (∃ p ∈ l, (boxZ l).1.2 = p.2) ∧ (∃ p ∈ l, (boxZ l).2.1 = p.1) ∧ (∃ p ∈ l, (boxZ l).2.2 = p.2) := by
  unfold boxZ
  rw [if_neg h]
  refine ⟨fun p hp => ?_, (loF_in l h _).1, (loF_in l h _).2, (hiF_in l h _).1, (hiF_in l h _).2⟩
  obtain ⟨j, hj, rfl⟩ := ptZ_of_mem hp
  exact ⟨(loF_le l _ j hj).1, (loF_le l _ j hj).2, (hiF_le l _ j hj).1, (hiF_le l _ j hj).2⟩
theorem left_eq (la lb : List Pt) : leftZ la lb = rleftZ la lb := by
  unfold leftZ rleftZ
  rw [Bool.eq_iff_iff]
  rcases Decidable.em (la = []) with h | h
  · simp [h]
  rcases Decidable.em (lb = []) with h' | h'
  · simp [h']
  have hla := List.length_pos_iff.2 h
  have hlb := List.length_pos_iff.2 h'
  obtain ⟨a1, _, _, ⟨p, hp, ep⟩, _⟩ := box_spec h
  obtain ⟨b1, ⟨q, hq, eq⟩, _, _, _⟩ := box_spec h'
  simp only [hla, hlb, decide_true, Bool.and_true, Bool.true_and, decide_eq_true_eq, Bool.not_eq_true', List.any_eq_false]
  constructor
  · intro hlt u hu
    rw [Bool.not_eq_true, List.any_eq_false]
    intro v hv
    have := (a1 u hu).2.2.1
    have := (b1 v hv).1
    simp; omega
  · intro hall
    have := hall p hp
    rw [Bool.not_eq_true, List.any_eq_false] at this
    have := this q hq
    simp at this
    omega
end Go.Proofs.Ytokdclbfjlnnjaa
