/- SpatialAgain: the plain law, the calls. Conditions are in the theorems. -/
import Derived.Test.YtpmhkjnnolpknaaDoorG1
import Derived.Test.YtpmhkjnnolpknaaDoorG3
/- SpatialAgain, in plain words. -/
namespace Go.Proofs
open Go Go.Ax Go.Ax.Alg
theorem res4 {N : Nat} {x y : Int} (hN : 8 < N) (hx : 0 ≤ x ∧ x ≤ 999999) (hy : 0 ≤ y ∧ y ≤ x) : w13z N 4 [x, y] = some ([x - y], 0) := by
  have hv : validZ 4 [x, y] = 0 := of_val ⟨by simp, by simp, fun _ => rfl, by omega, fun z hz => by simp at hz; omega, fun _ => hy.2, fun h => by omega⟩
  rw [w13_eq (by simp) (by simp; omega)]
  unfold resultZ
  rw [if_pos hv]
  rfl
theorem res3 {N : Nat} {x y : Int} (hN : 8 < N) (hx : 0 ≤ x ∧ x ≤ 999999) (hy : 0 ≤ y ∧ y ≤ 999999) : w13z N 3 [x, y] = some ([x + y], 0) := by
  have hv : validZ 3 [x, y] = 0 := of_val ⟨by simp, by simp, fun h => rfl, by omega, fun z hz => by simp at hz; omega, fun h => by omega, fun h => by omega⟩
  rw [w13_eq (by simp) (by simp; omega)]
  unfold resultZ
  rw [if_pos hv]
  simp [resZ]
theorem res5 {N : Nat} {x y : Int} (hN : 8 < N) (hx : 0 ≤ x ∧ x ≤ 999999) (hy : 0 ≤ y ∧ y ≤ 999999) : w13z N 5 [x, y] = some ([x * y], 0) := by
  have hv : validZ 5 [x, y] = 0 := of_val ⟨by simp, by simp, fun h => rfl, by omega, fun z hz => by simp at hz; omega, fun h => by omega, fun h => by omega⟩
  rw [w13_eq (by simp) (by simp; omega)]
  unfold resultZ
  rw [if_pos hv]
  rfl
theorem res6 {N : Nat} {x y : Int} (hN : 8 < N) (hx : 0 ≤ x ∧ x ≤ 999999) (hy : 1 ≤ y ∧ y ≤ 999999) : w13z N 6 [x, y] = some ([x.tdiv y, x.tmod y], 0) := by
  have hv : validZ 6 [x, y] = 0 := of_val ⟨by simp, by simp, fun h => rfl, by omega, fun z hz => by simp at hz; omega, fun h => by omega, fun h => by simp; omega⟩
  rw [w13_eq (by simp) (by simp; omega)]
  unfold resultZ
  rw [if_pos hv]
  rfl
theorem again_true {N : Nat} {a b : Int} (hN : 8 < N) (ha : I64 a) (hb : I64 b) : w6z N a b = some true := by
  obtain ⟨x, hx⟩ : ∃ x, aroundZ a 1000000 = x := ⟨_, rfl⟩
  obtain ⟨y, hy⟩ : ∃ y, aroundZ b 1000000 = y := ⟨_, rfl⟩
  have bx : 0 ≤ x ∧ x < 1000000 := hx ▸ around_lt (by omega)
  have byy : 0 ≤ y ∧ y < 1000000 := hy ▸ around_lt (by omega)
  have ea := w25_eq N (m := 1000000) ha
  have eb := w25_eq N (m := 1000000) hb
  rw [hx] at ea
  rw [hy] at eb
  obtain ⟨t, ht⟩ : ∃ t, y.tmod 999999 = t := ⟨_, rfl⟩
  have bt : 0 ≤ t ∧ t < 999999 := ht ▸ ⟨Int.tmod_nonneg _ byy.1, Int.tmod_lt_of_pos _ (by omega)⟩
  have w1 : IntKind.i64.wrap (1 + t) = 1 + t := wr (by omega) (by omega)
  have h1 := res4 (N := N) (x := max x y) (y := min x y) hN (by omega) (by omega)
  have h2 := res3 (N := N) (x := max x y - min x y) (y := min x y) hN (by omega) (by omega)
  have h3 := res6 (N := N) (x := x) (y := 1 + t) hN (by omega) (by omega)
  have hq : 0 ≤ x.tdiv (1 + t) ∧ x.tdiv (1 + t) ≤ x := ⟨Int.tdiv_nonneg bx.1 (by omega), Int.tdiv_le_self _ bx.1⟩
  have h4 := res5 (N := N) (x := x.tdiv (1 + t)) (y := 1 + t) hN (by omega) (by omega)
  have hr : 0 ≤ x.tmod (1 + t) ∧ x.tmod (1 + t) < 1 + t := ⟨Int.tmod_nonneg _ bx.1, Int.tmod_lt_of_pos _ (by omega)⟩
  have hs : x.tdiv (1 + t) * (1 + t) + x.tmod (1 + t) = x := by rw [Int.mul_comm]; exact Int.mul_tdiv_add_tmod x (1 + t)
  have ws : IntKind.i64.wrap (x.tdiv (1 + t) * (1 + t) + x.tmod (1 + t)) = x := by rw [hs]; exact wr (by omega) (by omega)
  have hM : max x y - min x y + min x y = max x y := by omega
  rw [hM] at h2
  unfold w6z w6 w6G
  simp only [w25_p ea, w25_p eb, w25_y0 ea, w25_y0 eb, ht, w1, w13_p h1, w13_y0 h1, w13_y1 h1, gx_0, w13_p h2, w13_y0 h2, w13_y1 h2, w13_p h3, w13_y0 h3, w13_y1 h3, ck_t, List.length_cons, List.length_nil, ne_eq, not_true_eq_false, decide_false, Bool.false_or, Bool.or_false]
  have q1 : decide (x.tmod (1 + t) < 0) = false := decide_eq_false (by omega)
  have q2 : decide (t < x.tmod (1 + t)) = false := decide_eq_false (by omega)
  simp [br_f, gc_t, gx_0, gx_1, q1, q2, ck_t, w13_p h4, w13_y0 h4, w13_y1 h4, ws]
  rfl
end Go.Proofs
/- SpatialAgain: the calls. -/
namespace Go.Proofs.YtpmhkjnnolpknaaDoor
open Go.RowKit Go.Ab Go.Ax Go.Proofs
theorem i64_w {z : Int} (h : (Lit.int .i64 z).wf = true) : -9223372036854775808 ≤ z ∧ z ≤ 9223372036854775807 := by
  simp [Lit.wf] at h
  exact h
theorem spatialAgain_any (a0 a1 : Int) (w0 : (Lit.int .i64 a0).wf = true) (w1 : (Lit.int .i64 a1).wf = true) (w : World) (ht : tabPr w) :
    Calls Tryd.prog 6 #[.int .i64 a0, .int .i64 a1] w fun e w' => e = .returned (.bool true) ∧ Aft w w' := by
  refine calls_of (w6fin (w6cx 100) (again_true (N := 100) (by decide) (i64_w w0) (i64_w w1))) (tabAll ht) rfl (fun i u d hu hd => ?_)
  match i with
  | 0 => simp at hu hd; subst hu hd; exact .t (.v _ rfl)
  | 1 => simp at hu hd; subst hu hd; exact .t (.v _ rfl)
  | i + 2 => simp at hu
end Go.Proofs.YtpmhkjnnolpknaaDoor
