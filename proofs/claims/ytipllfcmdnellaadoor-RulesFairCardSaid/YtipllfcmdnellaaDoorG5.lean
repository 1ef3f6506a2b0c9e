/- RulesFair in plain words. Conditions are in the theorems. -/
import Derived.Test.YtipllfcmdnellaaDoorG4
/- With rules that always demand what a fault takes away nobody is worse off. -/
namespace Go.Proofs
open Go Go.Ax Go.Ax.Alg
theorem alw {d v : Int} (h0 : 0 ≤ d) (h1 : d < 3) (h2 : 0 ≤ v) (h3 : v < 10000) : Good 1 [(([] : List Int), d, v)] := ⟨Nat.le_refl _, fun r h => by
  rw [List.mem_singleton.1 h]
  exact valid_of rfl (Nat.zero_le 8) h0 h1 (show -10000 ≤ v by omega) (show v ≤ 9999 by omega)⟩
theorem lz_alw (H : List Bool) (d v : Int) : lz [(([] : List Int), d, v)] H d = max 0 v := by
  show upL H d 0 ([], d, v) = _
  unfold upL
  rw [show appB (([] : List Int), d, v) H = true from rfl, decide_eq_true rfl]
  rfl
theorem w7_loop (x : Int) (c : Bool) (v0 v1 v2 : Int) {L : List Rl} (hL : L.length ≤ 20) (k0 : Int × Bool × Int × Int × Int × List Rl → O) (k1 k2 : Unit → O) : w7l0 200 200 (x, c, 0, v0, v1, v2, L) k0 k1 k2 = k0 (x, c, v0, v1, v2, L ++ [([], 0, v0)] ++ [([], 1, v1)] ++ [([], 2, v2)]) := by
  show w7F0 200 (fun a0 a1 => w7l0 200 199 (x, c, a0, v0, v1, v2, a1) k0 k1 k2) (fun y0 y1 y2 y3 y4 y5 => k0 (y0, y1, y2, y3, y4, y5)) x c v0 v1 v2 0 (L) = _
  unfold w7F0
  rw [show decide ((0 : Int) < 3) = true from rfl, br_t, ck_of (show decide ((0 : Int) ≤ 0 ∧ (0 : Int) < 3) = true from rfl), show (((0 : Nat) + (0 : Int).toNat * (1 : Nat) : Nat) : Int) = 0 from rfl, gx_0, ck_of (lim_of (by simp; omega) (by simp; omega)), show IntKind.i64.wrap ((0 : Int) + 1) = 1 from rfl]
  show w7F0 200 (fun a0 a1 => w7l0 200 198 (x, c, a0, v0, v1, v2, a1) k0 k1 k2) (fun y0 y1 y2 y3 y4 y5 => k0 (y0, y1, y2, y3, y4, y5)) x c v0 v1 v2 1 (L ++ [([], 0, v0)]) = _
  unfold w7F0
  rw [show decide ((1 : Int) < 3) = true from rfl, br_t, ck_of (show decide ((0 : Int) ≤ 1 ∧ (1 : Int) < 3) = true from rfl), show (((0 : Nat) + (1 : Int).toNat * (1 : Nat) : Nat) : Int) = 1 from rfl, gx_1, ck_of (lim_of (by simp; omega) (by simp; omega)), show IntKind.i64.wrap ((1 : Int) + 1) = 2 from rfl]
  show w7F0 200 (fun a0 a1 => w7l0 200 197 (x, c, a0, v0, v1, v2, a1) k0 k1 k2) (fun y0 y1 y2 y3 y4 y5 => k0 (y0, y1, y2, y3, y4, y5)) x c v0 v1 v2 2 (L ++ [([], 0, v0)] ++ [([], 1, v1)]) = _
  unfold w7F0
  rw [show decide ((2 : Int) < 3) = true from rfl, br_t, ck_of (show decide ((0 : Int) ≤ 2 ∧ (2 : Int) < 3) = true from rfl), show (((0 : Nat) + (2 : Int).toNat * (1 : Nat) : Nat) : Int) = 2 from rfl, gx_of (n := 2) (y := v2) (l := [v0, v1, v2]) (by omega) rfl, ck_of (lim_of (by simp; omega) (by simp; omega)), show IntKind.i64.wrap ((2 : Int) + 1) = 3 from rfl]
  show w7F0 200 (fun a0 a1 => w7l0 200 196 (x, c, a0, v0, v1, v2, a1) k0 k1 k2) (fun y0 y1 y2 y3 y4 y5 => k0 (y0, y1, y2, y3, y4, y5)) x c v0 v1 v2 3 (L ++ [([], 0, v0)] ++ [([], 1, v1)] ++ [([], 2, v2)]) = _
  unfold w7F0
  rw [show decide ((3 : Int) < 3) = false from rfl, br_f]
theorem w7_ur (x : Bool) : (some (w7r0 x) : O).bind w7un = some x := rfl
theorem law7 {l : List Int} (hl : ∀ x ∈ l, I64 x) (n : Int) {one two three : Int} (h1 : I64 one) (h2 : I64 two) (h3 : I64 three) : w7z 200 l n one two three = some true := by
  unfold w7z w7 w7G
  obtain ⟨a, ha, ea⟩ := w9_ex hl
  obtain ⟨v0, p0, q0, e0⟩ := w18_ex h1 (show (1 : Int) ≤ 10000 by omega) (by omega)
  obtain ⟨v1, p1, q1, e1⟩ := w18_ex h2 (show (1 : Int) ≤ 10000 by omega) (by omega)
  obtain ⟨v2, p2, q2, e2⟩ := w18_ex h3 (show (1 : Int) ≤ 10000 by omega) (by omega)
  obtain ⟨H, hH, eH⟩ := w17_ex n
  have a12 := w12_good ha (by omega)
  have hg := good_app (good_app (good_app ha (alw (d := 0) (by omega) (by omega) p0 q0)) (alw (d := 1) (by omega) (by omega) p1 q1)) (alw (d := 2) (by omega) (by omega) p2 q2)
  rw [ck_of (w18_p e0), ck_of (w18_p e1), ck_of (w18_p e2), ck_of (w9_p ea), w9_y0 ea, ck_of (w12_p a12), w12_y0 a12, w18_y0 e0, w18_y0 e1, w18_y0 e2]
  refine (congrArg (fun z : O => z.bind w7un) (w7_loop n false v0 v1 v2 (show a.length ≤ 20 by have := ha.1; omega) _ _ _)).trans ?_
  simp only []
  have hL0 : v0 ≤ lz (a ++ [([], 0, v0)] ++ [([], 1, v1)] ++ [([], 2, v2)]) H 0 := by rw [lz_app, lz_app, lz_app, lz_alw]; omega
  have hL1 : v1 ≤ lz (a ++ [([], 0, v0)] ++ [([], 1, v1)] ++ [([], 2, v2)]) H 1 := by rw [lz_app, lz_app, lz_alw]; omega
  have hL2 : v2 ≤ lz (a ++ [([], 0, v0)] ++ [([], 1, v1)] ++ [([], 2, v2)]) H 2 := by rw [lz_app, lz_alw]; omega
  generalize a ++ [(([] : List Int), ((0 : Int), v0))] ++ [([], 1, v1)] ++ [([], 2, v2)] = L at hg hL0 hL1 hL2
  have h16 := w16_good hg (by omega) hH
  rw [ck_of (w17_p eH), w17_y0 eH, ck_of (w16_p h16), w16_y3 h16, w16_y0 h16, w16_y1 h16, w16_y2 h16]
  unfold leastZ
  by_cases hb : badZ L H
  · rw [if_pos hb]
    show (br true (ck (!true || true) (some (w7r0 (true && true)))) _).bind w7un = some true
    rw [br_t, ck_of (Bool.or_true _)]
    exact w7_ur true
  · rw [if_neg hb]
    simp only []
    have hw1 := w20_eq (lz L H 0) (lz L H 1) (lz L H 2) v0 v1 v2
    have hw2 := w20_eq (lz L H 0) (lz L H 1) (lz L H 2) 0 0 0
    have e1 : worseZ (lz L H 0) (lz L H 1) (lz L H 2) v0 v1 v2 = false := decide_eq_false (by omega)
    have e2 : worseZ (lz L H 0) (lz L H 1) (lz L H 2) 0 0 0 = false := decide_eq_false (by have := lz_pos L H 0; have := lz_pos L H 1; have := lz_pos L H 2; omega)
    rw [e1] at hw1
    rw [e2] at hw2
    rw [show decide ((0 : Int) ≠ 0) = false from rfl, br_f, ck_of (w20_p hw1), w20_y0 hw1, show (!false) = true from rfl, br_t, ck_of (w20_p hw2), w20_y0 hw2, ck_of (Bool.or_true _)]
    exact w7_ur true
end Go.Proofs
