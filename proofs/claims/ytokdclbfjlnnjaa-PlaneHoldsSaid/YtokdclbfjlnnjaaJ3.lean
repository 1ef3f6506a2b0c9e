/- Plain laws of the plane: a closed row of points that does not cut itself winds at most once around a point (the sums). -/
import Derived.Test.YtokdclbfjlnnjaaJ2
namespace Go.Proofs.Ytokdclbfjlnnjaa

def sg (v : Nat → Pt) (y : Int) (i : Nat) : Int := sgE (v i) (v (i + 1)) y
def wi (v : Nat → Pt) (y : Int) (i j : Nat) : Int := wI (v i) (v (i + 1)) (v j) (v (j + 1)) y
def gp (v : Nat → Pt) (y : Int) (i j : Nat) : Int := gapE (v i) (v (i + 1)) (v j) (v (j + 1)) y
/-- A closed row of points of which no two segments cut, and a level. -/
structure Poly (n : Nat) (v : Nat → Pt) (y : Int) : Prop where
  pos : 1 ≤ n
  per : ∀ i, v (i + n) = v i
  off : ∀ i, (v i).2 ≠ y
  nc : ∀ i j, i + 1 < j → j + 1 < i + n → ¬ Cut (v i) (v (i + 1)) (v j) (v (j + 1))
  ds : ∀ i j, i < j → j < i + n → sg v y i ≠ 0 → sg v y j ≠ 0 → gp v y i j ≠ 0

theorem gap_sym (p q p' q' : Pt) (y : Int) : gap p' q' p q y = -gap p q p' q' y := by unfold gap crossZ; grind
theorem gp_sym (v : Nat → Pt) (y : Int) (i j : Nat) : gp v y j i = -gp v y i j := gap_sym _ _ _ _ _
theorem gp_self (v : Nat → Pt) (y : Int) (i : Nat) : gp v y i i = 0 := by have := gp_sym v y i i; omega
theorem wi_self (v : Nat → Pt) (y : Int) (i : Nat) : wi v y i i = 0 := by
  have := gp_self v y i
  unfold wi wI
  rw [if_neg (show ¬ 0 < gapE _ _ _ _ y by show ¬ 0 < gp v y i i; omega)]
theorem wi_def (v : Nat → Pt) (y : Int) (i j : Nat) : wi v y i j = if 0 < gp v y i j then 1 else 0 := rfl
theorem sg_cases (v : Nat → Pt) (y : Int) (i : Nat) : (sg v y i = 1 ∧ (v i).2 < y ∧ y < (v (i + 1)).2) ∨ (sg v y i = -1 ∧ (v (i + 1)).2 < y ∧ y < (v i).2) ∨ (sg v y i = 0 ∧ ¬ ((v i).2 < y ∧ y < (v (i + 1)).2) ∧ ¬ ((v (i + 1)).2 < y ∧ y < (v i).2)) := by
  unfold sg sgE
  split
  · exact .inl ⟨rfl, by assumption⟩
  · split
    · exact .inr (.inl ⟨rfl, by assumption⟩)
    · exact .inr (.inr ⟨rfl, by assumption, by assumption⟩)
section
variable {n : Nat} {v : Nat → Pt} {y : Int}
theorem Poly.per1 (P : Poly n v y) (i : Nat) : v (i + n + 1) = v (i + 1) := by rw [show i + n + 1 = i + 1 + n by omega, P.per]
theorem Poly.sg_per (P : Poly n v y) (i : Nat) : sg v y (i + n) = sg v y i := by unfold sg; rw [P.per, P.per1]
theorem Poly.wi_per (P : Poly n v y) (e i : Nat) : wi v y e (i + n) = wi v y e i := by unfold wi; rw [P.per, P.per1]
theorem Poly.gp_per (P : Poly n v y) (e i : Nat) : gp v y e (i + n) = gp v y e i := by unfold gp; rw [P.per, P.per1]
/-- What stands to the east of a crossing, by direction. -/
def wnd (n : Nat) (v : Nat → Pt) (y : Int) (e : Nat) : Int := sumF (fun t => sg v y t * wi v y e t) 0 n
theorem Poly.wnd_at (P : Poly n v y) (e a : Nat) : wnd n v y e = sumF (fun t => sg v y t * wi v y e t) a n :=
  (sumF_turn (fun m => by rw [P.sg_per, P.wi_per]) a).symm

/-- The rest of the row lies as much to the east of one end of an arc as of the other. -/
theorem Poly.rest (P : Poly n v y) {i j : Nat} (hij : i < j) (hjn : j < i + n) (hi : (v i).2 < y) (hup : ∀ k, i < k → k ≤ j → y < (v k).2) (hj : (v (j + 1)).2 < y) :
    sumF (fun t => sg v y t * wi v y i t) (j + 1) (i + n - 1 - j) = sumF (fun t => sg v y t * wi v y j t) (j + 1) (i + n - 1 - j) := by
  have step : ∀ s, j + 1 ≤ s → s < j + 1 + (i + n - 1 - j) → sg v y s * wi v y i s - sg v y s * wi v y j s =
      -(sumF (fun t => lamE (v s) (v t) (v (t + 1)) y) i (j + 1 - i) - sumF (fun t => lamE (v (s + 1)) (v t) (v (t + 1)) y) i (j + 1 - i)) := by
    intro s hs1 hs2
    obtain ⟨r, hr⟩ : ∃ r : Nat → Int, r = fun m => if m = i then sg v y s * wi v y i s else if m = j + 1 then sg v y s * wi v y j s else wind1 (v m) (v s, v (s + 1)) := ⟨_, rfl⟩
    have one : ∀ t, i ≤ t → t < i + (j + 1 - i) → (r t - r (t + 1)) - (lamE (v (s + 1)) (v t) (v (t + 1)) y - lamE (v s) (v t) (v (t + 1)) y) = 0 := by
      intro t ht1 ht2
      have hab : y < (v t).2 ∨ y < (v (t + 1)).2 := by
        by_cases h : t = i
        · exact .inr (hup (t + 1) (by omega) (by omega))
        · exact .inl (hup t (by omega) (by omega))
      have hn : ((v s).2 < y ∧ (v (s + 1)).2 < y) ∨ ¬ Cut (v t) (v (t + 1)) (v s) (v (s + 1)) ∨ lo (v t) (v (t + 1)) = lo (v s) (v (s + 1)) ∧ (lo (v t) (v (t + 1))).2 < y := by
        by_cases h1 : t + 1 = s
        · have htj : t = j := by omega
          subst htj
          subst h1
          have u := hup t hij (Nat.le_refl _)
          by_cases h2 : (v (t + 1 + 1)).2 < y
          · exact .inl ⟨hj, h2⟩
          · have o := P.off (t + 1 + 1)
            refine .inr (.inr ⟨?_, ?_⟩)
            · unfold lo; rw [if_neg (by omega), if_pos (by omega)]
            · unfold lo; rw [if_neg (by omega)]; exact hj
        · by_cases h2 : s + 1 = t + n
          · have hti : t = i := by omega
            subst hti
            have e : v (s + 1) = v t := by rw [h2, P.per]
            have u := hup (t + 1) (by omega) (by omega)
            by_cases h3 : (v s).2 < y
            · exact .inl ⟨h3, by rw [e]; exact hi⟩
            · have o := P.off s
              refine .inr (.inr ⟨?_, ?_⟩)
              · rw [e]; unfold lo; rw [if_pos (by omega), if_neg (by omega)]
              · unfold lo; rw [if_pos (by omega)]; exact hi
          · exact .inr (.inl (P.nc t s (by omega) (by omega)))
      have e := pair (P.off t) (P.off (t + 1)) (P.off s) (P.off (s + 1)) hab hn
      have r1 : r t = rhoE (v t) (v t) (v (t + 1)) (v s) (v (s + 1)) y := by
        rw [hr]
        unfold rhoE
        by_cases h : t = i
        · subst h; simp only [if_true]; rw [if_neg (by omega)]; rfl
        · simp only; rw [if_neg h, if_neg (by omega), if_pos (hup t (by omega) (by omega))]
      have r2 : r (t + 1) = rhoE (v (t + 1)) (v t) (v (t + 1)) (v s) (v (s + 1)) y := by
        rw [hr]
        unfold rhoE
        by_cases h : t = j
        · subst h; simp only; rw [if_neg (by omega), if_pos True.intro, if_neg (by omega)]; rfl
        · simp only; rw [if_neg (by omega), if_neg (by omega), if_pos (hup (t + 1) (by omega) (by omega))]
      rw [r1, r2]
      omega
    have tot := sumF_zero one
    rw [sumF_sub, sumF_tele, sumF_sub] at tot
    have e1 : r i = sg v y s * wi v y i s := by rw [hr]; simp
    have e2 : r (i + (j + 1 - i)) = sg v y s * wi v y j s := by rw [hr, show i + (j + 1 - i) = j + 1 by omega]; simp only; rw [if_neg (by omega), if_pos True.intro]
    rw [e1, e2] at tot
    omega
  have h1 : sumF (fun t => sg v y t * wi v y i t - sg v y t * wi v y j t) (j + 1) (i + n - 1 - j) = 0 := by
    rw [sumF_congr step]
    have e := sumF_tele (fun s => -sumF (fun t => lamE (v s) (v t) (v (t + 1)) y) i (j + 1 - i)) (j + 1) (i + n - 1 - j)
    have z1 : sumF (fun t => lamE (v (j + 1)) (v t) (v (t + 1)) y) i (j + 1 - i) = 0 := sumF_zero fun t _ _ => by unfold lamE; rw [if_neg (by omega)]
    have z2 : sumF (fun t => lamE (v (j + 1 + (i + n - 1 - j))) (v t) (v (t + 1)) y) i (j + 1 - i) = 0 := sumF_zero fun t _ _ => by
      rw [show j + 1 + (i + n - 1 - j) = i + n by omega, P.per]
      unfold lamE
      rw [if_neg (by omega)]
    rw [z1, z2] at e
    rw [← sumF_congr (fun m _ _ => ?_), e]
    · rfl
    · omega
  rw [sumF_sub] at h1
  omega
/-- From one crossing upwards to the next. -/
theorem Poly.step (P : Poly n v y) {i j : Nat} (hij : i < j) (hjn : j < i + n) (hi : (v i).2 < y) (hup : ∀ k, i < k → k ≤ j → y < (v k).2) (hj : (v (j + 1)).2 < y) :
    wnd n v y j = wnd n v y i + 1 := by
  have hrest := P.rest hij hjn hi hup hj
  have si : sg v y i = 1 := by unfold sg sgE; rw [if_pos ⟨hi, hup (i + 1) (by omega) (by omega)⟩]
  have sj : sg v y j = -1 := by have := hup j hij (Nat.le_refl _); unfold sg sgE; rw [if_neg (by omega), if_pos ⟨hj, this⟩]
  have sz : ∀ k, i < k → k < j → sg v y k = 0 := fun k h1 h2 => by
    have a1 := hup k h1 (by omega)
    have a2 := hup (k + 1) (by omega) (by omega)
    unfold sg sgE
    rw [if_neg (by omega), if_neg (by omega)]
  have key : ∀ e, wnd n v y e = sumF (fun t => sg v y t * wi v y e t) (j + 1) (i + n - 1 - j) + wi v y e i - wi v y e j := fun e => by
    rw [P.wnd_at e (j + 1)]
    have e1 := sumF_split (fun t => sg v y t * wi v y e t) (j + 1) (i + n - 1 - j) (1 + ((j - i - 1) + 1))
    rw [show i + n - 1 - j + (1 + (j - i - 1 + 1)) = n by omega] at e1
    rw [e1, sumF_split, sumF_split, sumF_one, sumF_one, show j + 1 + (i + n - 1 - j) = i + n by omega, show i + n + 1 + (j - i - 1) = j + n by omega]
    rw [sumF_zero (a := i + n + 1) (k := j - i - 1) (fun m h1 h2 => by
      rw [show m = (m - n) + n by omega, P.sg_per, sz (m - n) (by omega) (by omega), Int.zero_mul])]
    rw [P.sg_per, P.sg_per, P.wi_per, P.wi_per, si, sj]
    omega
  rw [key i, key j, hrest, wi_self, wi_self]
  have d := P.ds i j hij hjn (by omega) (by omega)
  have s := gp_sym v y i j
  rw [wi_def, wi_def]
  split <;> split <;> omega
end
end Go.Proofs.Ytokdclbfjlnnjaa
