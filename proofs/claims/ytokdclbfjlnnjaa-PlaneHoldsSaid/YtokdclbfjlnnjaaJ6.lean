/- Plain laws of the plane: what is strictly in a simple area by winding is so by crossings. -/
import Derived.Test.YtokdclbfjlnnjaaJ5
namespace Go.Proofs.Ytokdclbfjlnnjaa

/-- Drawn out in height, so that no point lies at the level of another one, or just above. -/
def st (p : Pt) : Pt := (p.1, 20000 * p.2)
theorem cross_st (a b c : Pt) : crossZ (st a) (st b) (st c) = 20000 * crossZ a b c := by unfold crossZ st; grind
theorem sgn_st {x y : Int} (h : Sgn (20000 * x) (20000 * y)) : Sgn x y := by unfold Sgn at *; omega
theorem cut_st {a b c d : Pt} (h : Cut (st a) (st b) (st c) (st d)) : Cut a b c d := by
  obtain ⟨h1, h2, h3⟩ := h
  simp only [cross_st] at h1 h2 h3
  exact ⟨sgn_st h1, sgn_st h2, fun ⟨q1, q2, q3, q4⟩ => h3 ⟨by omega, by omega, by omega, by omega⟩⟩
theorem on_st {z a b : Pt} (h : onZ (st z) (st a, st b) = true) : onZ z (a, b) = true := by
  unfold onZ at *
  simp only [Bool.and_eq_true, decide_eq_true_eq, cross_st] at *
  obtain ⟨h1, h2, h3⟩ := h
  refine ⟨by omega, h2, ?_⟩
  have e : ((st z).2 - (st a).2) * ((st z).2 - (st b).2) = 400000000 * ((z.2 - a.2) * (z.2 - b.2)) := by unfold st; grind
  omega
theorem meet_of_on {z a b c d : Pt} (h : onZ z (c, d) = true) (hz : z = a ∨ z = b) : meetZ (a, b) (c, d) = true ∧ meetZ (c, d) (a, b) = true := by
  unfold meetZ
  simp only [Bool.or_eq_true]
  rcases hz with rfl | rfl
  · exact ⟨.inl h, .inr (.inr (.inl h))⟩
  · exact ⟨.inr (.inl h), .inr (.inr (.inr (.inl h)))⟩
theorem lo_mem (a b : Pt) : (lo a b = a ∧ hg a b = b) ∨ (lo a b = b ∧ hg a b = a) := by
  unfold lo hg
  split
  · exact .inl ⟨rfl, rfl⟩
  · exact .inr ⟨rfl, rfl⟩
theorem on_lo {z a b : Pt} (h : onZ z (lo a b, hg a b) = true) : onZ z (a, b) = true := by
  rcases lo_mem a b with ⟨h1, h2⟩ | ⟨h1, h2⟩
  · rwa [h1, h2] at h
  · rw [h1, h2] at h; rwa [on_swap] at h
theorem cut_lo {a b c d : Pt} (h : Cut (lo a b) (hg a b) (lo c d) (hg c d)) : Cut a b c d := by
  rcases lo_mem a b with ⟨h1, h2⟩ | ⟨h1, h2⟩ <;> rcases lo_mem c d with ⟨h3, h4⟩ | ⟨h3, h4⟩ <;> rw [h1, h2, h3, h4] at h
  · exact h
  · exact h.swap2
  · exact h.swap1
  · exact h.swap2.swap1
theorem gap_low (w u z : Pt) (y : Int) : gap w u w z y = (y - w.2) * crossZ w z u := by unfold gap crossZ; grind
theorem gap_high (u w z : Pt) (y : Int) : gap u w z w y = (w.2 - y) * crossZ z w u := by unfold gap crossZ; grind
theorem sg_level {v : Nat → Pt} {y : Int} {i : Nat} (h : sg v y i ≠ 0) : (lo (v i) (v (i + 1))).2 < y ∧ y < (hg (v i) (v (i + 1))).2 := by
  unfold lo hg
  rcases sg_cases v y i with h' | h' | h'
  · rw [if_pos (by omega), if_pos (by omega)]; exact h'.2
  · rw [if_neg (by omega), if_neg (by omega)]; exact h'.2
  · exact (h h'.1).elim
theorem mod_ne {n a b : Nat} (h1 : a < b) (h2 : b < a + n) : a % n ≠ b % n := fun h => by
  have h3 := Nat.sub_mod_eq_zero_of_mod_eq h.symm
  rw [Nat.mod_eq_of_lt (by omega)] at h3
  omega
theorem sgZ_mod (l : List Pt) (i : Nat) : sgZ l (i % l.length) = sgZ l i := by
  unfold sgZ ptZ
  rw [Nat.mod_mod, Nat.mod_add_mod]
theorem windS_sum (p : Pt) (l : List Pt) : ∀ n, windS p l (List.range n) = sumF (fun t => wind1 p (sgZ l t)) 0 n
  | 0 => rfl
  | n + 1 => by rw [List.range_succ, windS_snoc, windS_sum p l n, sumF, Nat.zero_add]
/-- Just above the point's level, the same is met. -/
theorem wind_st {p a b : Pt} (ha : -10000 ≤ b.1 - a.1 ∧ b.1 - a.1 ≤ 10000) (hn : onZ p (a, b) = false) : wind1 p (a, b) = wind1 (p.1, 20000 * p.2 + 1) (st a, st b) := by
  have e : crossZ (st a) (st b) (p.1, 20000 * p.2 + 1) = 20000 * crossZ a b p + (b.1 - a.1) := by unfold crossZ st; grind
  have e2 : (st a).2 = 20000 * a.2 := rfl
  have e3 : (st b).2 = 20000 * b.2 := rfl
  have hc : a.2 ≤ p.2 ∧ p.2 < b.2 ∨ b.2 ≤ p.2 ∧ p.2 < a.2 → crossZ a b p ≠ 0 := fun h h0 => by
    rw [on_of_height h0 (by omega) (between_mul (by omega))] at hn
    cases hn
  unfold wind1
  simp only
  rw [e, e2, e3]
  by_cases h1 : a.2 ≤ p.2 ∧ p.2 < b.2
  · have := hc (.inl h1)
    split <;> split <;> (try split) <;> (try split) <;> omega
  · by_cases h2 : b.2 ≤ p.2 ∧ p.2 < a.2
    · have := hc (.inr h2)
      split <;> split <;> (try split) <;> (try split) <;> omega
    · split <;> split <;> (try split) <;> (try split) <;> omega
section
variable {l : List Pt} (h3 : 3 ≤ l.length) (hs : simpleZ 2 l = true) (hz : ∀ i, i < l.length → (sgZ l i).1 ≠ (sgZ l i).2)
include h3 hs
theorem touch_none {i j : Nat} (hi : i < l.length) (hj : j < i) : touchZ l j i = false := by
  rw [Bool.eq_false_iff]
  intro h
  have hn : nSeg 2 l = l.length := by unfold nSeg; rw [if_neg (by omega)]; rfl
  rw [simpleZ_false (by rw [hn]; exact hi) hj h] at hs
  cases hs
/-- Segments that are no neighbours do not meet. -/
theorem far_apart {i j : Nat} (h1 : i + 1 < j) (h2 : j + 1 < i + l.length) : meetZ (sgZ l i) (sgZ l j) = false ∨ meetZ (sgZ l j) (sgZ l i) = false := by
  have hn : 0 < l.length := by omega
  have bi := Nat.mod_lt i hn
  have bj := Nat.mod_lt j hn
  have n1 : (i % l.length + 1) % l.length ≠ j % l.length := by rw [Nat.mod_add_mod]; exact mod_ne h1 (by omega)
  have n2 : (j % l.length + 1) % l.length ≠ i % l.length := by
    rw [Nat.mod_add_mod]
    have := mod_ne (n := l.length) (show i < j + 1 by omega) h2
    omega
  have n3 := mod_ne (n := l.length) (show i < j by omega) (by omega)
  rcases Nat.lt_or_gt_of_ne n3 with h | h
  · have := touch_none h3 hs bj h
    unfold touchZ at this
    rw [if_neg n1, if_neg n2, sgZ_mod, sgZ_mod] at this
    exact .inl this
  · have := touch_none h3 hs bi h
    unfold touchZ at this
    rw [if_neg n2, if_neg n1, sgZ_mod, sgZ_mod] at this
    exact .inr this
/-- Neighbours share one point alone. -/
theorem near_apart (k : Nat) : onZ (sgZ l (k + 1)).2 (sgZ l k) = false ∧ onZ (sgZ l k).1 (sgZ l (k + 1)) = false := by
  have hn : 0 < l.length := by omega
  have bk := Nat.mod_lt k hn
  have bk' := Nat.mod_lt (k + 1) hn
  have n1 : (k % l.length + 1) % l.length = (k + 1) % l.length := Nat.mod_add_mod _ _ _
  have n2 : ((k + 1) % l.length + 1) % l.length ≠ k % l.length := by
    rw [Nat.mod_add_mod]
    have := mod_ne (n := l.length) (show k < k + 1 + 1 by omega) (by omega)
    omega
  have n3 := mod_ne (n := l.length) (show k < k + 1 by omega) (by omega)
  rcases Nat.lt_or_gt_of_ne n3 with h | h
  · have := touch_none h3 hs bk' h
    unfold touchZ at this
    rw [if_pos n1, if_neg n2, sgZ_mod, sgZ_mod] at this
    simpa using this
  · have := touch_none h3 hs bk h
    unfold touchZ at this
    rw [if_neg n2, if_pos n1, sgZ_mod, sgZ_mod] at this
    simpa using this
/-- Neighbours that pass a level pass it at different places. -/
theorem near_tie {y : Int} (k : Nat) (h1 : sg (fun i => st (ptZ l i)) y k ≠ 0) (h2 : sg (fun i => st (ptZ l i)) y (k + 1) ≠ 0) : gp (fun i => st (ptZ l i)) y k (k + 1) ≠ 0 := by
  intro h0
  obtain ⟨n1, n2⟩ := near_apart h3 hs k
  unfold sgZ at n1 n2
  simp only at n1 n2
  have q1 := sg_cases (fun i => st (ptZ l i)) y k
  have q2 := sg_cases (fun i => st (ptZ l i)) y (k + 1)
  unfold gp gapE at h0
  simp only at h0
  have R : ∀ u w z : Pt, crossZ (st w) (st z) (st u) = 0 → (st u).2 ≠ (st w).2 → (st w).2 ≠ (st z).2 →
      ((st w).2 ≤ (st u).2 ∧ (st w).2 ≤ (st z).2 ∨ (st u).2 ≤ (st w).2 ∧ (st z).2 ≤ (st w).2) → onZ z (u, w) = true ∨ onZ u (w, z) = true := by
    intro u w z hc hu hz hh
    have hc' : crossZ (st u) (st w) (st z) = 0 := by rw [← hc]; unfold crossZ; grind
    by_cases h : (st w).2 ≤ (st u).2 ∧ (st u).2 ≤ (st z).2 ∨ (st z).2 ≤ (st u).2 ∧ (st u).2 ≤ (st w).2
    · exact .inr (on_st (on_of_height hc hz (between_mul (by omega))))
    · exact .inl (on_st (on_of_height hc' hu (between_mul (by omega))))
  have key : onZ (ptZ l (k + 1 + 1)) (ptZ l k, ptZ l (k + 1)) = true ∨ onZ (ptZ l k) (ptZ l (k + 1), ptZ l (k + 1 + 1)) = true := by
    rcases q1 with q1 | q1 | q1
    · -- upwards, then downwards
      have e1 : lo (st (ptZ l k)) (st (ptZ l (k + 1))) = st (ptZ l k) := by unfold lo; rw [if_pos (by omega)]
      have e2 : hg (st (ptZ l k)) (st (ptZ l (k + 1))) = st (ptZ l (k + 1)) := by unfold hg; rw [if_pos (by omega)]
      have e3 : lo (st (ptZ l (k + 1))) (st (ptZ l (k + 1 + 1))) = st (ptZ l (k + 1 + 1)) := by unfold lo; rw [if_neg (by omega)]
      have e4 : hg (st (ptZ l (k + 1))) (st (ptZ l (k + 1 + 1))) = st (ptZ l (k + 1)) := by unfold hg; rw [if_neg (by omega)]
      rw [e1, e2, e3, e4, gap_high] at h0
      have hc : crossZ (st (ptZ l (k + 1 + 1))) (st (ptZ l (k + 1))) (st (ptZ l k)) = 0 := (Int.mul_eq_zero.1 h0).resolve_left (by omega)
      rw [cross_swap] at hc
      exact R _ _ _ (by omega) (by omega) (by omega) (by omega)
    · have e1 : lo (st (ptZ l k)) (st (ptZ l (k + 1))) = st (ptZ l (k + 1)) := by unfold lo; rw [if_neg (by omega)]
      have e2 : hg (st (ptZ l k)) (st (ptZ l (k + 1))) = st (ptZ l k) := by unfold hg; rw [if_neg (by omega)]
      have e3 : lo (st (ptZ l (k + 1))) (st (ptZ l (k + 1 + 1))) = st (ptZ l (k + 1)) := by unfold lo; rw [if_pos (by omega)]
      have e4 : hg (st (ptZ l (k + 1))) (st (ptZ l (k + 1 + 1))) = st (ptZ l (k + 1 + 1)) := by unfold hg; rw [if_pos (by omega)]
      rw [e1, e2, e3, e4, gap_low] at h0
      have hc : crossZ (st (ptZ l (k + 1))) (st (ptZ l (k + 1 + 1))) (st (ptZ l k)) = 0 := (Int.mul_eq_zero.1 h0).resolve_left (by omega)
      exact R _ _ _ hc (by omega) (by omega) (by omega)
    · exact (h1 q1.1).elim
  rcases key with h | h
  · rw [n1] at h; cases h
  · rw [n2] at h; cases h
omit hs in
include hz in
theorem edge_ne (i : Nat) : ptZ l i ≠ ptZ l (i + 1) := by
  have := hz (i % l.length) (Nat.mod_lt i (by omega))
  rwa [sgZ_mod] at this
include hz
theorem area_nc {i j : Nat} (h1 : i + 1 < j) (h2 : j + 1 < i + l.length) : ¬ Cut (st (ptZ l i)) (st (ptZ l (i + 1))) (st (ptZ l j)) (st (ptZ l (j + 1))) := fun hc => by
  have c := cut_st hc
  have e1 := edge_ne h3 hz i
  have e2 := edge_ne h3 hz j
  rcases far_apart h3 hs h1 h2 with h | h
  · have := cut_meet e1 e2 c
    unfold sgZ at h
    rw [h] at this
    cases this
  · have := cut_meet e2 e1 c.sym
    unfold sgZ at h
    rw [h] at this
    cases this
theorem far_tie {y : Int} {i j : Nat} (h1 : i + 1 < j) (h2 : j + 1 < i + l.length) (hi : sg (fun i => st (ptZ l i)) y i ≠ 0) (hj : sg (fun i => st (ptZ l i)) y j ≠ 0) : gp (fun i => st (ptZ l i)) y i j ≠ 0 := by
  intro h0
  have li := sg_level hi
  have lj := sg_level hj
  rcases tie li.1 li.2 lj.1 lj.2 h0 with h | ⟨z1, _, z3, _⟩
  · exact area_nc h3 hs hz h1 h2 (cut_lo h)
  · have key : meetZ (sgZ l i) (sgZ l j) = true ∧ meetZ (sgZ l j) (sgZ l i) = true := by
      rcases Int.le_total (lo (st (ptZ l j)) (st (ptZ l (j + 1)))).2 (lo (st (ptZ l i)) (st (ptZ l (i + 1)))).2 with h | h
      · have o := on_lo (on_of_height z1 (by omega) (between_mul (by omega)))
        rcases lo_mem (st (ptZ l i)) (st (ptZ l (i + 1))) with ⟨m, _⟩ | ⟨m, _⟩
        · rw [m] at o; exact meet_of_on (on_st o) (.inl rfl)
        · rw [m] at o; exact meet_of_on (on_st o) (.inr rfl)
      · have o := on_lo (on_of_height z3 (by omega) (between_mul (by omega)))
        rcases lo_mem (st (ptZ l j)) (st (ptZ l (j + 1))) with ⟨m, _⟩ | ⟨m, _⟩
        · rw [m] at o; exact (meet_of_on (on_st o) (.inl rfl)).symm
        · rw [m] at o; exact (meet_of_on (on_st o) (.inr rfl)).symm
    rcases far_apart h3 hs h1 h2 with h | h
    · rw [h] at key; cases key.1
    · rw [h] at key; cases key.2
theorem area_poly (y0 : Int) : Poly l.length (fun i => st (ptZ l i)) (20000 * y0 + 1) where
  pos := by omega
  per i := by show st (ptZ l (i + l.length)) = _; unfold ptZ; rw [Nat.add_mod_right]
  off i := by show 20000 * (ptZ l i).2 ≠ _; omega
  nc i j h1 h2 := area_nc h3 hs hz h1 h2
  ds i j h1 h2 hi hj := by
    by_cases a1 : i + 1 = j
    · subst a1; exact near_tie h3 hs i hi hj
    · by_cases a2 : j + 1 = i + l.length
      · have per : ∀ i, ptZ l (i + l.length) = ptZ l i := fun i => by unfold ptZ; rw [Nat.add_mod_right]
        have per1 : ptZ l (i + l.length + 1) = ptZ l (i + 1) := by rw [show i + l.length + 1 = i + 1 + l.length by omega, per]
        have hi' : sg (fun i => st (ptZ l i)) (20000 * y0 + 1) (j + 1) ≠ 0 := by
          rw [a2]
          unfold sg at *
          simp only at *
          rw [per, per1]
          exact hi
        have := near_tie h3 hs j hj hi'
        rw [a2] at this
        intro h0
        have s := gp_sym (fun i => st (ptZ l i)) (20000 * y0 + 1) i j
        rw [h0] at s
        apply this
        unfold gp at *
        simp only at *
        rw [per, per1]
        simpa using s
      · exact far_tie h3 hs hz (by omega) (by omega) hi hj
/-- For a simple area: strictly in it by winding, just if so by crossings. -/
theorem area_within (hsc : ScL l) (p : Pt) : withinZ p 2 l = strictlyZ p 2 l := by
  have hn : nSeg 2 l = l.length := by unfold nSeg; rw [if_neg (by omega)]; rfl
  by_cases hon : ((List.range (nSeg 2 l)).any fun i => onZ p (sgZ l i)) = true
  · unfold withinZ strictlyZ
    rw [hon]
    rfl
  · refine within_strictly ?_
    have hb := (area_poly h3 hs hz p.2).bound p.1
    have e : windS p l (List.range (nSeg 2 l)) = sumF (fun t => wind1 (p.1, 20000 * p.2 + 1) (st (ptZ l t), st (ptZ l (t + 1)))) 0 l.length := by
      rw [hn, windS_sum]
      refine sumF_congr fun m _ hm => ?_
      have sc : ∀ k, Sc (ptZ l k).1 := fun k => by
        unfold ptZ
        have hk := Nat.mod_lt k (show 0 < l.length by omega)
        rw [List.getD_eq_getElem?_getD, List.getElem?_eq_getElem hk]
        exact (hsc _ (List.getElem_mem hk)).1
      have c1 := sc m
      have c2 := sc (m + 1)
      unfold Sc at c1 c2
      refine wind_st (by omega) ?_
      rw [Bool.eq_false_iff]
      intro h
      exact hon (List.any_eq_true.2 ⟨m, List.mem_range.2 (by omega), h⟩)
    rw [e]
    exact hb
end
end Go.Proofs.Ytokdclbfjlnnjaa
