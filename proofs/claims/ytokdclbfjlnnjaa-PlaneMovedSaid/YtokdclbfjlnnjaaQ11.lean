/- Plain laws of the plane: what is inside of a turned area. -/
import Derived.Test.YtokdclbfjlnnjaaQ10
namespace Go.Proofs.Ytokdclbfjlnnjaa
open Go.RowKit

theorem within3 (p a b c : Pt) : withinZ p 2 [a, b, c] = (!(onZ p (a, b) || (onZ p (b, c) || onZ p (c, a))) && (wind1 p (a, b) + (wind1 p (b, c) + wind1 p (c, a)) != 0)) := by
  unfold withinZ
  rw [show nSeg 2 [a, b, c] = 3 by simp [nSeg], show List.range 3 = [0, 1, 2] from rfl]
  have s0 : sgZ [a, b, c] 0 = (a, b) := by simp [sgZ, ptZ]
  have s1 : sgZ [a, b, c] 1 = (b, c) := by simp [sgZ, ptZ]
  have s2 : sgZ [a, b, c] 2 = (c, a) := by simp [sgZ, ptZ]
  simp only [windS, List.any_cons, List.any_nil, s0, s1, s2, Bool.or_false, Int.add_zero]
theorem within4 (p a b c d : Pt) : withinZ p 2 [a, b, c, d] = (!(onZ p (a, b) || (onZ p (b, c) || (onZ p (c, d) || onZ p (d, a)))) && (wind1 p (a, b) + (wind1 p (b, c) + (wind1 p (c, d) + wind1 p (d, a))) != 0)) := by
  unfold withinZ
  rw [show nSeg 2 [a, b, c, d] = 4 by simp [nSeg], show List.range 4 = [0, 1, 2, 3] from rfl]
  have s0 : sgZ [a, b, c, d] 0 = (a, b) := by simp [sgZ, ptZ]
  have s1 : sgZ [a, b, c, d] 1 = (b, c) := by simp [sgZ, ptZ]
  have s2 : sgZ [a, b, c, d] 2 = (c, d) := by simp [sgZ, ptZ]
  have s3 : sgZ [a, b, c, d] 3 = (d, a) := by simp [sgZ, ptZ]
  simp only [windS, List.any_cons, List.any_nil, s0, s1, s2, s3, Bool.or_false, Int.add_zero]
theorem within6 (p a b c d e f : Pt) : withinZ p 2 [a, b, c, d, e, f] = (!(onZ p (a, b) || (onZ p (b, c) || (onZ p (c, d) || (onZ p (d, e) || (onZ p (e, f) || onZ p (f, a)))))) && (wind1 p (a, b) + (wind1 p (b, c) + (wind1 p (c, d) + (wind1 p (d, e) + (wind1 p (e, f) + wind1 p (f, a))))) != 0)) := by
  unfold withinZ
  rw [show nSeg 2 [a, b, c, d, e, f] = 6 by simp [nSeg], show List.range 6 = [0, 1, 2, 3, 4, 5] from rfl]
  have s0 : sgZ [a, b, c, d, e, f] 0 = (a, b) := by simp [sgZ, ptZ]
  have s1 : sgZ [a, b, c, d, e, f] 1 = (b, c) := by simp [sgZ, ptZ]
  have s2 : sgZ [a, b, c, d, e, f] 2 = (c, d) := by simp [sgZ, ptZ]
  have s3 : sgZ [a, b, c, d, e, f] 3 = (d, e) := by simp [sgZ, ptZ]
  have s4 : sgZ [a, b, c, d, e, f] 4 = (e, f) := by simp [sgZ, ptZ]
  have s5 : sgZ [a, b, c, d, e, f] 5 = (f, a) := by simp [sgZ, ptZ]
  simp only [windS, List.any_cons, List.any_nil, s0, s1, s2, s3, s4, s5, Bool.or_false, Int.add_zero]
theorem rot_end (o : Bool) (os : Bool) (w ws : Int) : (!(os || o) && (ws + w != 0)) = (!(o || os) && (w + ws != 0)) := by rw [Bool.or_comm, Int.add_comm]
theorem rot3 (p a b c : Pt) : withinZ p 2 [b, c, a] = withinZ p 2 [a, b, c] := by
  rw [within3, within3, ← Bool.or_assoc, ← Int.add_assoc, rot_end]
theorem rot4 (p a b c d : Pt) : withinZ p 2 [b, c, d, a] = withinZ p 2 [a, b, c, d] := by
  rw [within4, within4, ← Bool.or_assoc, ← Bool.or_assoc, ← Int.add_assoc, ← Int.add_assoc, rot_end]
  simp only [Bool.or_assoc, Int.add_assoc]
theorem rot6 (p a b c d e f : Pt) : withinZ p 2 [b, c, d, e, f, a] = withinZ p 2 [a, b, c, d, e, f] := by
  rw [within6, within6, ← Bool.or_assoc, ← Bool.or_assoc, ← Bool.or_assoc, ← Bool.or_assoc, ← Int.add_assoc, ← Int.add_assoc, ← Int.add_assoc, ← Int.add_assoc, rot_end]
  simp only [Bool.or_assoc, Int.add_assoc]
theorem flat_side {h px x t2 v : Int} (hh : 0 < h) (ht2 : 0 ≤ t2) (v0 : 0 ≤ v) (v1 : v < h) (J : h * (px - x) = t2 * v) : x ≤ px ∧ px ≤ x + t2 := by
  have a1 : 0 ≤ h * (px - x) := by rw [J]; exact Int.mul_nonneg ht2 v0
  have a2 := nonneg_of hh a1
  have a3 : 0 ≤ h * (x + t2 - px) := by
    have e1 : h * (x + t2 - px) = h * t2 - h * (px - x) := by rw [← Int.mul_sub]; congr 1; omega
    have e2 : t2 * (h - v) = h * t2 - t2 * v := by rw [Int.mul_sub, Int.mul_comm t2 h]
    rw [e1, J, ← e2]
    exact Int.mul_nonneg ht2 (by omega)
  have a4 := nonneg_of hh a3
  omega
theorem flat_core {c0 c1 c2 v h : Int} (m1 : c0 + c2 < 0 → v < 0) (m2 : 0 < h - v → 0 < c1) (hz : ¬ (c2 = 0 ∧ 0 ≤ v ∧ v < h))
    (hn : (if 0 ≤ v ∧ v < h ∧ 0 < c0 then (1 : Int) else 0) + (0 + (if 0 ≤ v ∧ v < h ∧ c2 < 0 then (-1 : Int) else 0)) ≠ 0) : 0 < c0 ∧ 0 < c1 ∧ 0 < c2 := by
  by_cases hA : 0 ≤ v ∧ v < h ∧ 0 < c0
  · by_cases hB : 0 ≤ v ∧ v < h ∧ c2 < 0
    · rw [if_pos hA, if_pos hB] at hn; exact absurd rfl hn
    · have := m2 (by omega)
      refine ⟨hA.2.2, this, ?_⟩
      have h1 : ¬ c2 < 0 := fun h => hB ⟨hA.1, hA.2.1, h⟩
      have h2 : c2 ≠ 0 := fun h => hz ⟨h, hA.1, hA.2.1⟩
      omega
  · by_cases hB : 0 ≤ v ∧ v < h ∧ c2 < 0
    · have h1 : ¬ 0 < c0 := fun h => hA ⟨hB.1, hB.2.1, h⟩
      have := m1 (by omega)
      omega
    · rw [if_neg hA, if_neg hB] at hn; exact absurd rfl hn
/-- A triangle with a level side on top. -/
theorem tri_flat (px py x y wd t2 h : Int) (hh : 0 < h) (ht2 : 0 ≤ t2) (hA : t2 < wd) :
    withinZ (px, py) 2 (triL x y wd h t2 h) = decide (0 < crossZ (x, y) (x + wd, y + h) (px, py) ∧ 0 < crossZ (x + wd, y + h) (x + t2, y + h) (px, py) ∧ 0 < crossZ (x + t2, y + h) (x, y) (px, py)) := by
  unfold triL
  rw [within3]
  simp only [onZ_box]
  have u0 : wind1 (px, py) ((x, y), (x + wd, y + h)) = if 0 ≤ py - y ∧ py - y < h ∧ 0 < crossZ (x, y) (x + wd, y + h) (px, py) then 1 else 0 := by
    unfold wind1; simp only; split <;> split <;> (try split) <;> omega
  have u1 : wind1 (px, py) ((x + wd, y + h), (x + t2, y + h)) = 0 := wind1_flat _ _ rfl
  have u2 : wind1 (px, py) ((x + t2, y + h), (x, y)) = if 0 ≤ py - y ∧ py - y < h ∧ crossZ (x + t2, y + h) (x, y) (px, py) < 0 then -1 else 0 := by
    unfold wind1; simp only; split <;> (try split) <;> (try split) <;> omega
  have J1 : (wd - t2) * (py - y) = crossZ (x, y) (x + wd, y + h) (px, py) + crossZ (x + t2, y + h) (x, y) (px, py) := by simp only [crossZ]; grind
  have J2 : crossZ (x + wd, y + h) (x + t2, y + h) (px, py) = (wd - t2) * (h - (py - y)) := by simp only [crossZ]; grind
  have J3 : crossZ (x + t2, y + h) (x, y) (px, py) = h * (px - x) - t2 * (py - y) := by simp only [crossZ]; grind
  have mJ2 := (mul_sign (h := wd - t2) (u := h - (py - y)) (by omega))
  have mJ1 := (mul_sign (h := wd - t2) (u := py - y) (by omega))
  rw [← J2] at mJ2
  rw [J1] at mJ1
  generalize crossZ (x, y) (x + wd, y + h) (px, py) = c0 at *
  generalize crossZ (x + wd, y + h) (x + t2, y + h) (px, py) = c1 at *
  generalize crossZ (x + t2, y + h) (x, y) (px, py) = c2 at *
  rw [Bool.eq_iff_iff]
  simp only [Bool.and_eq_true, Bool.not_eq_true', Bool.or_eq_false_iff, Bool.and_eq_false_iff, decide_eq_false_iff_not, decide_eq_true_eq, bne_iff_ne]
  constructor
  · rintro ⟨⟨o0, o1, o2⟩, hwn⟩
    have hc2z : ¬ (c2 = 0 ∧ 0 ≤ py - y ∧ py - y < h) := by
      clear o0 o1 hwn u0 u1 u2 mJ1 mJ2 J1 J2
      rintro ⟨z2, v0, v1⟩
      have := flat_side hh ht2 v0 v1 (px := px) (x := x) (by rw [z2] at J3; exact (Int.sub_eq_zero.1 J3.symm))
      clear J3
      omega
    rw [u0, u1, u2] at hwn
    exact flat_core (fun h => mJ1.2.1.1 h) (fun h => mJ2.1.2 h) hc2z hwn
  · rintro ⟨h0, h1, h2⟩
    have v1 := mJ2.1.1 h1
    have v0 := mJ1.1.1 (by omega)
    rw [u0, u1, u2, if_pos (by omega), if_neg (by omega)]
    refine ⟨⟨by omega, by omega, by omega⟩, by omega⟩
/-- Inside of a turned area is what was inside. -/
theorem turn_within {l : List Pt} (hg : Gen 2 l) (p : Pt) : withinZ (swP p) 2 (turnZ true l) = withinZ p 2 l := by
  rcases hg with ⟨h, _⟩ | ⟨h, _⟩ | ⟨_, x, y, wd, h, rfl, hh⟩ | ⟨_, x, y, wd, t1, t2, h, rfl, hh⟩ | ⟨_, x, y, wd, h, rfl, hh⟩
  · cases h
  · cases h
  · have e : turnZ true (rectL x y wd h) = [(y + h, x), (y + h, x + wd), (y, x + wd), (y, x)] := by simp [turnZ, rectL, swP]
    rw [e, rot4, show [(y, x), (y + h, x), (y + h, x + wd), (y, x + wd)] = rectL y x h wd from rfl]
    rw [show p = (p.1, p.2) from rfl, rect_within p.1 p.2 x y wd h (by omega) (by omega)]
    rw [show swP (p.1, p.2) = (p.2, p.1) from rfl, rect_within p.2 p.1 y x h wd (by omega) (by omega)]
    rw [Bool.eq_iff_iff]
    simp only [decide_eq_true_eq]
    omega
  · have e : turnZ true (triL x y wd t1 t2 h) = [(y + h, x + t2), (y + t1, x + wd), (y, x)] := by simp [turnZ, triL, swP]
    have hA := tri_pos (wd := wd) (t1 := t1) (t2 := t2) (h := h) (by omega) (by omega) (by omega) (by omega) (by omega) (by omega)
    rw [e, rot3, show [(y, x), (y + h, x + t2), (y + t1, x + wd)] = triL y x h t2 t1 wd from rfl]
    rw [show p = (p.1, p.2) from rfl, tri_within p.1 p.2 x y wd t1 t2 h (by omega) (by omega) (by omega) (by omega) (by omega) hA]
    rw [show swP (p.1, p.2) = (p.2, p.1) from rfl]
    have f0 : crossZ (y, x) (y + h, x + t2) (p.2, p.1) = crossZ (x + t2, y + h) (x, y) (p.1, p.2) := by simp only [crossZ]; grind
    have f1 : crossZ (y + h, x + t2) (y + t1, x + wd) (p.2, p.1) = crossZ (x + wd, y + t1) (x + t2, y + h) (p.1, p.2) := by simp only [crossZ]; grind
    have f2 : crossZ (y + t1, x + wd) (y, x) (p.2, p.1) = crossZ (x, y) (x + wd, y + t1) (p.1, p.2) := by simp only [crossZ]; grind
    rcases Int.lt_or_le t2 wd with hlt | hge
    · rw [tri_within p.2 p.1 y x h t2 t1 wd (by omega) (by omega) (by omega) hlt (by omega) (by rw [Int.mul_comm h wd, Int.mul_comm t2 t1]; exact hA), f0, f1, f2]
      rw [Bool.eq_iff_iff]
      simp only [decide_eq_true_eq]
      exact ⟨fun ⟨a, b, c⟩ => ⟨c, b, a⟩, fun ⟨a, b, c⟩ => ⟨c, b, a⟩⟩
    · obtain rfl : t2 = wd := by omega
      rw [tri_flat p.2 p.1 y x h t1 t2 (by omega) (by omega) (by omega), f0, f1, f2]
      rw [Bool.eq_iff_iff]
      simp only [decide_eq_true_eq]
      exact ⟨fun ⟨a, b, c⟩ => ⟨c, b, a⟩, fun ⟨a, b, c⟩ => ⟨c, b, a⟩⟩
  · have e : turnZ true (braL x y wd h) = [(y + h, x), (y + h, x + 1), (y + 1, x + 1), (y + 1, x + wd), (y, x + wd), (y, x)] := by simp [turnZ, braL, swP]
    rw [e, rot6, show [(y, x), (y + h, x), (y + h, x + 1), (y + 1, x + 1), (y + 1, x + wd), (y, x + wd)] = braL y x h wd from rfl]
    rw [show p = (p.1, p.2) from rfl, bra_within p.1 p.2 x y wd h (by omega) (by omega)]
    exact bra_within p.2 p.1 y x h wd (by omega) (by omega)
theorem inside_turn {ka kb : Int} {la lb : List Pt} (ha : la ≠ []) (hb : Gen kb lb) : insideZ ka (turnZ false la) kb (turnZ true lb) = insideZ ka la kb lb := by
  rw [Bool.eq_iff_iff, inside_spec, inside_spec]
  rw [nSeg_turn, nSeg_turn]
  by_cases hk : kb = 2
  · subst hk
    have e1 : turnZ false la = la.map swP := rfl
    have hmem : (∀ p ∈ turnZ false la, withinZ p 2 (turnZ true lb) = true) ↔ ∀ p ∈ la, withinZ p 2 lb = true := by
      rw [e1]
      constructor
      · intro h p hp
        rw [← turn_within hb p]; exact h _ (List.mem_map_of_mem hp)
      · intro h q hq
        obtain ⟨p, hp, rfl⟩ := List.mem_map.1 hq
        rw [turn_within hb p]; exact h p hp
    have hmt := turn_pairs (la := la) (lb := lb) (m := nSeg ka la) (m' := nSeg 2 lb) ha nSeg_or (R := fun s t => meetZ s t = true) (R' := fun s t => meetZ s t = true) (fun s t => by rw [meet_sw, meet_fl])
    have conv : ∀ (X Y : List Pt), (∀ i, i < nSeg ka la → ∀ j, j < nSeg 2 lb → meetZ (sgZ X i) (sgZ Y j) = false) ↔ ¬ ∃ i, i < nSeg ka la ∧ ∃ j, j < nSeg 2 lb ∧ meetZ (sgZ X i) (sgZ Y j) = true := fun X Y => by
      constructor
      · rintro h ⟨i, hi, j, hj, h'⟩
        rw [h i hi j hj] at h'; cases h'
      · intro h i hi j hj
        rw [← Bool.not_eq_true]
        exact fun h' => h ⟨i, hi, j, hj, h'⟩
    rw [conv, conv, hmt, hmem]
    simp only [true_and, turn_ne ha, ne_eq, not_false_eq_true, ha]
  · simp only [hk, false_and]
end Go.Proofs.Ytokdclbfjlnnjaa
