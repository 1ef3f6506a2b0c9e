/- Plain laws of the plane: a closed row of points that does not cut itself winds at most once around a point (the bound). -/
import Derived.Test.YtokdclbfjlnnjaaJ3
namespace Go.Proofs.Ytokdclbfjlnnjaa

/-! ### Upside down -/
def fl (p : Pt) : Pt := (p.1, -p.2)
theorem cross_fl (a b c : Pt) : crossZ (fl a) (fl b) (fl c) = -crossZ a b c := by unfold crossZ fl; grind
theorem cut_fl {a b c d : Pt} (h : Cut (fl a) (fl b) (fl c) (fl d)) : Cut a b c d := by
  obtain ⟨h1, h2, h3⟩ := h
  simp only [cross_fl] at h1 h2 h3
  refine ⟨?_, ?_, ?_⟩
  · have := h1.neg; simpa using this
  · have := h2.neg; simpa using this
  · intro ⟨q1, q2, q3, q4⟩
    exact h3 ⟨by omega, by omega, by omega, by omega⟩
theorem gap_fl (p q p' q' : Pt) (y : Int) : gap (fl q) (fl p) (fl q') (fl p') (-y) = gap p q p' q' y := by unfold gap crossZ fl; grind
theorem sgE_fl (c d : Pt) (y : Int) : sgE (fl c) (fl d) (-y) = -sgE c d y := by
  unfold sgE fl
  simp only
  split <;> split <;> (try split) <;> (try split) <;> omega
theorem gapE_fl {a b c d : Pt} {y : Int} (h1 : a.2 ≠ b.2) (h2 : c.2 ≠ d.2) : gapE (fl a) (fl b) (fl c) (fl d) (-y) = gapE a b c d y := by
  have L : ∀ a b : Pt, a.2 ≠ b.2 → lo (fl a) (fl b) = fl (hg a b) ∧ hg (fl a) (fl b) = fl (lo a b) := fun a b h => by
    unfold lo hg fl
    simp only
    constructor
    · split <;> split <;> first | rfl | omega
    · split <;> split <;> first | rfl | omega
  unfold gapE
  rw [(L a b h1).1, (L a b h1).2, (L c d h2).1, (L c d h2).2, gap_fl]
section
variable {n : Nat} {v : Nat → Pt} {y : Int}
theorem sg_fl (v : Nat → Pt) (y : Int) (i : Nat) : sg (fun m => fl (v m)) (-y) i = -sg v y i := sgE_fl _ _ _
theorem sg_ne {v : Nat → Pt} {y : Int} {i : Nat} (h : sg v y i ≠ 0) : (v i).2 ≠ (v (i + 1)).2 := by rcases sg_cases v y i with h' | h' | h' <;> omega
theorem gp_fl {i j : Nat} (hi : sg v y i ≠ 0) (hj : sg v y j ≠ 0) : gp (fun m => fl (v m)) (-y) i j = gp v y i j := gapE_fl (sg_ne hi) (sg_ne hj)
theorem Poly.flip (P : Poly n v y) : Poly n (fun m => fl (v m)) (-y) where
  pos := P.pos
  per i := by rw [P.per]
  off i := by have := P.off i; unfold fl; simp only; omega
  nc i j h1 h2 := fun h => P.nc i j h1 h2 (cut_fl h)
  ds i j h1 h2 h3 h4 := by
    rw [sg_fl] at h3 h4
    rw [gp_fl (by omega) (by omega)]
    exact P.ds i j h1 h2 (by omega) (by omega)
theorem wnd_fl {e : Nat} (he : sg v y e ≠ 0) : wnd n (fun m => fl (v m)) (-y) e = -wnd n v y e := by
  have h : ∀ m, 0 ≤ m → m < 0 + n → sg (fun m => fl (v m)) (-y) m * wi (fun m => fl (v m)) (-y) e m = 0 - sg v y m * wi v y e m := fun m _ _ => by
    rw [sg_fl]
    by_cases hm : sg v y m = 0
    · rw [hm]; simp
    · rw [wi_def, wi_def, gp_fl he hm]
      split <;> omega
  unfold wnd
  rw [sumF_congr h, sumF_sub, sumF_zero (fun _ _ _ => rfl)]
  omega

/-- What is the same for all crossings. -/
def val (n : Nat) (v : Nat → Pt) (y : Int) (e : Nat) : Int := wnd n v y e + if sg v y e = 1 then 1 else 0
theorem Poly.run (P : Poly n v y) {i j : Nat} (hi : sg v y i = 1) (hz : ∀ k, i < k → k < j → sg v y k = 0) : ∀ k, i < k → k ≤ j → y < (v k).2 := by
  intro k
  induction k with
  | zero => intro h; omega
  | succ k ih =>
    intro h1 h2
    by_cases hk : k = i
    · subst hk
      rcases sg_cases v y k with h | h | h <;> omega
    · have a := ih (by omega) (by omega)
      have z := hz k (by omega) (by omega)
      have o := P.off (k + 1)
      rcases sg_cases v y k with h | h | h <;> omega
theorem Poly.next_up (P : Poly n v y) {i j : Nat} (hij : i < j) (hi : sg v y i = 1) (hj : sg v y j ≠ 0) (hz : ∀ k, i < k → k < j → sg v y k = 0) : sg v y j = -1 ∧ wnd n v y j = wnd n v y i + 1 := by
  have hup := P.run hi hz
  have li : (v i).2 < y := by rcases sg_cases v y i with h | h | h <;> omega
  have uj := hup j hij (Nat.le_refl _)
  have sj := sg_cases v y j
  have hjn : j < i + n := by
    rcases Nat.lt_or_ge j (i + n) with h | h
    · exact h
    · have := hup (i + n) (by have := P.pos; omega) h
      rw [P.per] at this
      omega
  exact ⟨by omega, P.step hij hjn li hup (by omega)⟩
theorem Poly.next (P : Poly n v y) {i j : Nat} (hij : i < j) (hi : sg v y i ≠ 0) (hj : sg v y j ≠ 0) (hz : ∀ k, i < k → k < j → sg v y k = 0) : val n v y i = val n v y j := by
  unfold val
  by_cases h1 : sg v y i = 1
  · obtain ⟨e1, e2⟩ := P.next_up hij h1 hj hz
    rw [if_pos h1, if_neg (by omega)]
    omega
  · have s := sg_cases v y i
    have h2 : sg (fun m => fl (v m)) (-y) i = 1 := by rw [sg_fl]; omega
    obtain ⟨e1, e2⟩ := P.flip.next_up hij h2 (by rw [sg_fl]; omega) (fun k a b => by rw [sg_fl, hz k a b]; rfl)
    rw [sg_fl] at e1
    rw [wnd_fl hi, wnd_fl hj] at e2
    rw [if_neg h1, if_pos (by omega)]
    omega
theorem Poly.all (P : Poly n v y) : ∀ (d i j : Nat), j = i + d → sg v y i ≠ 0 → sg v y j ≠ 0 → val n v y i = val n v y j := by
  intro d
  induction d using Nat.strongRecOn with
  | _ d ih =>
    intro i j hj hi hsj
    by_cases hd : d = 0
    · subst hd; rw [hj]; rfl
    · by_cases hex : ∃ k, i < k ∧ k < j ∧ sg v y k ≠ 0
      · obtain ⟨k, h1, h2, h3⟩ := hex
        exact (ih (k - i) (by omega) i k (by omega) hi h3).trans (ih (j - k) (by omega) k j (by omega) h3 hsj)
      · exact P.next (by omega) hi hsj fun k h1 h2 => Classical.byContradiction fun h => hex ⟨k, h1, h2, h⟩
theorem Poly.same (P : Poly n v y) {i j : Nat} (hi : sg v y i ≠ 0) (hj : sg v y j ≠ 0) : val n v y i = val n v y j := by
  rcases Nat.le_total i j with h | h
  · exact P.all (j - i) i j (by omega) hi hj
  · exact (P.all (i - j) j i (by omega) hj hi).symm

/-! ### The nearest one -/
theorem le_through {a b c d e f : Int} (hb : 0 < b) (h1 : a * d ≤ c * b) (h2 : e * b ≤ a * f) (hd : 0 < d) (hf : 0 < f) : e * d ≤ c * f := by
  have h3 := Int.mul_le_mul_of_nonneg_right h1 (Int.le_of_lt hf)
  have h4 := Int.mul_le_mul_of_nonneg_right h2 (Int.le_of_lt hd)
  have e1 : e * b * d = b * (e * d) := by grind
  have e2 : a * f * d = a * d * f := by grind
  have e3 : c * b * f = b * (c * f) := by grind
  rw [e1, e2] at h4
  rw [e3] at h3
  exact Int.le_of_mul_le_mul_left (Int.le_trans h4 h3) hb
theorem exists_least (f D : Nat → Int) (Q : Nat → Prop) (hD : ∀ m, Q m → 0 < D m) : ∀ k, (∃ m, m < k ∧ Q m) → ∃ e, e < k ∧ Q e ∧ ∀ t, t < k → Q t → f e * D t ≤ f t * D e := by
  intro k
  induction k with
  | zero => intro ⟨m, h, _⟩; omega
  | succ k ih =>
    intro ⟨m, hm, hq⟩
    by_cases hex : ∃ m, m < k ∧ Q m
    · obtain ⟨e, h1, h2, h3⟩ := ih hex
      by_cases hk : Q k ∧ f k * D e < f e * D k
      · refine ⟨k, by omega, hk.1, fun t ht hqt => ?_⟩
        by_cases htk : t = k
        · subst htk; exact Int.le_refl _
        · exact le_through (hD e h2) (h3 t (by omega) hqt) (Int.le_of_lt hk.2) (hD t hqt) (hD k hk.1)
      · refine ⟨e, by omega, h2, fun t ht hqt => ?_⟩
        by_cases htk : t = k
        · subst htk
          have : ¬ f t * D e < f e * D t := fun h => hk ⟨hqt, h⟩
          omega
        · exact h3 t (by omega) hqt
    · have hmk : m = k := by
        rcases Nat.lt_or_ge m k with h | h
        · exact (hex ⟨m, h, hq⟩).elim
        · omega
      subst hmk
      exact ⟨m, by omega, hq, fun t ht hqt => by
        by_cases htk : t = m
        · subst htk; exact Int.le_refl _
        · exact (hex ⟨t, by omega, hqt⟩).elim⟩
theorem sumF_single {n e : Nat} {c : Int} (he : e < n) : sumF (fun t => if t = e then c else 0) 0 n = c := by
  have h := sumF_split (fun t => if t = e then c else 0) 0 e (1 + (n - e - 1))
  rw [show e + (1 + (n - e - 1)) = n by omega] at h
  rw [h, sumF_split, sumF_one, sumF_zero (a := 0) (fun m _ h => by rw [if_neg (by omega)]), sumF_zero (a := 0 + e + 1) (fun m h _ => by rw [if_neg (by omega)])]
  simp
theorem gap_cross (p q p' q' : Pt) (x y : Int) : gap p q p' q' y = (q.2 - p.2) * crossZ p' q' (x, y) - (q'.2 - p'.2) * crossZ p q (x, y) := by unfold gap crossZ; grind
def cz (v : Nat → Pt) (x y : Int) (t : Nat) : Int := crossZ (lo (v t) (v (t + 1))) (hg (v t) (v (t + 1))) (x, y)
def hgt (v : Nat → Pt) (t : Nat) : Int := (hg (v t) (v (t + 1))).2 - (lo (v t) (v (t + 1))).2
theorem hgt_pos {t : Nat} (h : sg v y t ≠ 0) : 0 < hgt v t := by
  have := sg_ne h
  unfold hgt hg lo
  split <;> omega
theorem gp_cz (v : Nat → Pt) (x y : Int) (s t : Nat) : gp v y s t = hgt v s * cz v x y t - hgt v t * cz v x y s := gap_cross _ _ _ _ x y
theorem wind_cz (P : Poly n v y) (x : Int) (t : Nat) : wind1 (x, y) (v t, v (t + 1)) = sg v y t * (if 0 < cz v x y t then 1 else 0) := by
  have o1 := P.off t
  have o2 := P.off (t + 1)
  rcases sg_cases v y t with h | h | h
  · rw [h.1]
    have e1 : lo (v t) (v (t + 1)) = v t := by unfold lo; rw [if_pos (by omega)]
    have e2 : hg (v t) (v (t + 1)) = v (t + 1) := by unfold hg; rw [if_pos (by omega)]
    unfold cz
    rw [e1, e2, wind1_of_up (by omega)]
    simp only
    split <;> split <;> omega
  · rw [h.1]
    have sw := wind1_swap (x, y) (v (t + 1)) (v t)
    rw [sw]
    have e1 : lo (v t) (v (t + 1)) = v (t + 1) := by unfold lo; rw [if_neg (by omega)]
    have e2 : hg (v t) (v (t + 1)) = v t := by unfold hg; rw [if_neg (by omega)]
    unfold cz
    rw [e1, e2, wind1_of_up (by omega)]
    simp only
    split <;> split <;> omega
  · rw [h.1, Int.zero_mul]
    unfold wind1
    simp only
    rw [if_neg (by omega), if_neg (by omega)]
/-- At most once around a point. -/
theorem Poly.bound (P : Poly n v y) (x : Int) : -1 ≤ sumF (fun t => wind1 (x, y) (v t, v (t + 1))) 0 n ∧ sumF (fun t => wind1 (x, y) (v t, v (t + 1))) 0 n ≤ 1 := by
  have ew : ∀ m, 0 ≤ m → m < 0 + n → wind1 (x, y) (v m, v (m + 1)) = sg v y m * (if 0 < cz v x y m then 1 else 0) := fun m _ _ => wind_cz P x m
  by_cases hex : ∃ m, m < n ∧ (sg v y m ≠ 0 ∧ 0 < cz v x y m)
  · obtain ⟨e, he, ⟨hse, hce⟩, hmin⟩ := exists_least (cz v x y) (hgt v) (fun m => sg v y m ≠ 0 ∧ 0 < cz v x y m) (fun m h => hgt_pos h.1) n hex
    obtain ⟨r, hr, hsr, hmax⟩ := exists_least (fun m => -cz v x y m) (hgt v) (fun m => sg v y m ≠ 0) (fun m h => hgt_pos h) n ⟨e, he, hse⟩
    have w1 : sumF (fun t => wind1 (x, y) (v t, v (t + 1))) 0 n = wnd n v y e + sg v y e := by
      have h1 : sumF (fun t => wind1 (x, y) (v t, v (t + 1)) - sg v y t * wi v y e t) 0 n = sg v y e := by
        rw [← sumF_single (n := n) (e := e) (c := sg v y e) he]
        refine sumF_congr fun m _ hm => ?_
        rw [ew m (by omega) hm]
        by_cases hme : m = e
        · subst hme
          rw [if_pos rfl, if_pos hce, wi_self]
          omega
        · rw [if_neg hme]
          by_cases hsm : sg v y m = 0
          · rw [hsm]; simp
          · have dis : gp v y e m ≠ 0 := by
              rcases Nat.lt_or_gt_of_ne hme with h | h
              · have := P.ds m e h (by omega) hsm hse
                have := gp_sym v y m e
                omega
              · exact P.ds e m h (by omega) hse hsm
            have g := gp_cz v x y e m
            have d1 := hgt_pos hse
            have d2 := hgt_pos hsm
            rw [wi_def]
            by_cases hcm : 0 < cz v x y m
            · have := hmin m (by omega) ⟨hsm, hcm⟩
              have c1 := Int.mul_comm (cz v x y e) (hgt v m)
              have c2 := Int.mul_comm (cz v x y m) (hgt v e)
              rw [if_pos hcm, if_pos (by omega)]
              omega
            · have a1 := (@pos_mul _ (cz v x y m) d1).2.1.2 (by omega)
              have a2 := (@pos_mul _ (cz v x y e) d2).1.2 hce
              rw [if_neg hcm, if_neg (by omega)]
              omega
      rw [sumF_sub] at h1
      unfold wnd
      omega
    have w2 : wnd n v y r = 0 := sumF_zero fun m _ hm => by
      by_cases hsm : sg v y m = 0
      · rw [hsm, Int.zero_mul]
      · have := hmax m (by omega) hsm
        have g := gp_cz v x y r m
        have c1 := Int.mul_comm (cz v x y r) (hgt v m)
        have c2 := Int.mul_comm (cz v x y m) (hgt v r)
        rw [Int.neg_mul, Int.neg_mul] at this
        rw [wi_def, if_neg (by omega), Int.mul_zero]
    have hv := P.same hse hsr
    unfold val at hv
    rw [w2] at hv
    rw [w1]
    rcases sg_cases v y e with h | h | h
    · rw [if_pos h.1] at hv
      split at hv <;> omega
    · rw [if_neg (by omega)] at hv
      split at hv <;> omega
    · exact (hse h.1).elim
  · have h0 : sumF (fun t => wind1 (x, y) (v t, v (t + 1))) 0 n = 0 := sumF_zero fun m _ hm => by
      rw [ew m (by omega) hm]
      by_cases hsm : sg v y m = 0
      · rw [hsm, Int.zero_mul]
      · rw [if_neg (fun h => hex ⟨m, by omega, hsm, h⟩), Int.mul_zero]
    omega
end
end Go.Proofs.Ytokdclbfjlnnjaa
