/- Plain laws of the plane: the winding numbers of the generated areas. -/
import Derived.Test.YtokdclbfjlnnjaaQ1
import Derived.Test.YtokdclbfjlnnjaaP19
namespace Go.Proofs.Ytokdclbfjlnnjaa

theorem wind1_up (p : Pt) (s : Pt × Pt) (h : s.1.2 ≤ s.2.2) : 0 ≤ wind1 p s ∧ wind1 p s ≤ 1 ∧ (wind1 p s = 1 → s.1.2 ≤ p.2 ∧ p.2 < s.2.2) := by
  unfold wind1
  generalize crossZ s.1 s.2 p = c
  split
  · omega
  · rw [if_neg (by omega)]; omega
theorem wind1_down (p : Pt) (s : Pt × Pt) (h : s.2.2 ≤ s.1.2) : -1 ≤ wind1 p s ∧ wind1 p s ≤ 0 := by
  unfold wind1
  generalize crossZ s.1 s.2 p = c
  rw [if_neg (by omega)]
  split <;> omega
theorem wind1_flat (p : Pt) (s : Pt × Pt) (h : s.2.2 = s.1.2) : wind1 p s = 0 := by
  have h1 := wind1_up p s (by omega)
  have h2 := wind1_down p s (by omega)
  omega

def triL (x y wd t1 t2 h : Int) : List Pt := [(x, y), (x + wd, y + t1), (x + t2, y + h)]
def braL (x y wd h : Int) : List Pt := [(x, y), (x + wd, y), (x + wd, y + 1), (x + 1, y + 1), (x + 1, y + h), (x, y + h)]

theorem rect_wind (p : Pt) (x y wd h : Int) (hh : 0 ≤ h) : -1 ≤ windS p (rectL x y wd h) (List.range (nSeg 2 (rectL x y wd h))) ∧ windS p (rectL x y wd h) (List.range (nSeg 2 (rectL x y wd h))) ≤ 1 := by
  have hn : nSeg 2 (rectL x y wd h) = 4 := by simp [nSeg, rectL]
  rw [hn]
  have e : windS p (rectL x y wd h) (List.range 4) = wind1 p ((x, y), (x + wd, y)) + (wind1 p ((x + wd, y), (x + wd, y + h)) + (wind1 p ((x + wd, y + h), (x, y + h)) + (wind1 p ((x, y + h), (x, y)) + 0))) := by
    rw [show List.range 4 = [0, 1, 2, 3] from rfl]
    simp [windS, sgZ, ptZ, rectL]
  rw [e]
  have w0 := wind1_flat p ((x, y), (x + wd, y)) rfl
  have w1 := wind1_up p ((x + wd, y), (x + wd, y + h)) (by simp; omega)
  have w2 := wind1_flat p ((x + wd, y + h), (x, y + h)) rfl
  have w3 := wind1_down p ((x, y + h), (x, y)) (by simp; omega)
  omega
theorem tri_wind (p : Pt) (x y wd t1 t2 h : Int) (h1 : 0 ≤ t1) (h2 : t1 ≤ h) : -1 ≤ windS p (triL x y wd t1 t2 h) (List.range (nSeg 2 (triL x y wd t1 t2 h))) ∧ windS p (triL x y wd t1 t2 h) (List.range (nSeg 2 (triL x y wd t1 t2 h))) ≤ 1 := by
  have hn : nSeg 2 (triL x y wd t1 t2 h) = 3 := by simp [nSeg, triL]
  rw [hn]
  have e : windS p (triL x y wd t1 t2 h) (List.range 3) = wind1 p ((x, y), (x + wd, y + t1)) + (wind1 p ((x + wd, y + t1), (x + t2, y + h)) + (wind1 p ((x + t2, y + h), (x, y)) + 0)) := by
    rw [show List.range 3 = [0, 1, 2] from rfl]
    simp [windS, sgZ, ptZ, triL]
  rw [e]
  have w0 := wind1_up p ((x, y), (x + wd, y + t1)) (by simp; omega)
  have w1 := wind1_up p ((x + wd, y + t1), (x + t2, y + h)) (by simp; omega)
  have w2 := wind1_down p ((x + t2, y + h), (x, y)) (by simp; omega)
  simp only at w0 w1
  omega
theorem bra_wind (p : Pt) (x y wd h : Int) (hh : 1 ≤ h) : -1 ≤ windS p (braL x y wd h) (List.range (nSeg 2 (braL x y wd h))) ∧ windS p (braL x y wd h) (List.range (nSeg 2 (braL x y wd h))) ≤ 1 := by
  have hn : nSeg 2 (braL x y wd h) = 6 := by simp [nSeg, braL]
  rw [hn]
  have e : windS p (braL x y wd h) (List.range 6) = wind1 p ((x, y), (x + wd, y)) + (wind1 p ((x + wd, y), (x + wd, y + 1)) + (wind1 p ((x + wd, y + 1), (x + 1, y + 1)) + (wind1 p ((x + 1, y + 1), (x + 1, y + h)) + (wind1 p ((x + 1, y + h), (x, y + h)) + (wind1 p ((x, y + h), (x, y)) + 0))))) := by
    rw [show List.range 6 = [0, 1, 2, 3, 4, 5] from rfl]
    simp [windS, sgZ, ptZ, braL]
  rw [e]
  have w0 := wind1_flat p ((x, y), (x + wd, y)) rfl
  have w1 := wind1_up p ((x + wd, y), (x + wd, y + 1)) (by simp; omega)
  have w2 := wind1_flat p ((x + wd, y + 1), (x + 1, y + 1)) rfl
  have w3 := wind1_up p ((x + 1, y + 1), (x + 1, y + h)) (by simp; omega)
  have w4 := wind1_flat p ((x + 1, y + h), (x, y + h)) rfl
  have w5 := wind1_down p ((x, y + h), (x, y)) (by simp; omega)
  simp only at w1 w3
  omega
end Go.Proofs.Ytokdclbfjlnnjaa
