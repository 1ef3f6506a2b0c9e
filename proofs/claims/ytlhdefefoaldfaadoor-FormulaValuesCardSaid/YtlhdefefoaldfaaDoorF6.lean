/- What the law does. Conditions are in the theorems. -/
import Derived.Test.YtlhdefefoaldfaaDoorE7
import Derived.Test.YtlhdefefoaldfaaDoorProg
import Derived.KernelRfl
import Derived.Test.YtlhdefefoaldfaaDoorF0
import Derived.Test.YtlhdefefoaldfaaDoorF5
import Derived.Test.YtlhdefefoaldfaaDoorF2
import Derived.Test.YtlhdefefoaldfaaDoorF3
/- What functions do. -/
namespace Go.Proofs
noncomputable section
open Go.Ax Go.Ax.Alg Go.RowKit Go.Ab
open Go
def w8r0 (a0 : Bool) : Res := (.e .bo a0, [])
noncomputable def w8L (N : Nat) : List (Nat × Ent') := [(19, l19e N), (12, w12e N), (13, w13e N), (25, w25e N), (28, w28e N), (29, w29e N), (30, w30e N)]
noncomputable def w8c (N : Nat) : Cx := ⟨Tryd.prog, 25, w8L N, []⟩
noncomputable def w8b : Code := Tryd.f8.body.getD .skip
theorem w8cx (N : Nat) : CxOk (w8c N) := ctx_ok (by kernel_rfl) (.cons (by kernel_rfl) (l19ok N) (.cons (by kernel_rfl) (w12ok N) (.cons (by kernel_rfl) (w13ok N) (.cons (by kernel_rfl) (w25ok N) (.cons (by kernel_rfl) (w28ok N) (.cons (by kernel_rfl) (w29ok N) (.cons (by kernel_rfl) (w30ok N) .nil))))))) .nil
def w8F0 [Alg] (_ : Nat)  (self : Int → (List Int) → O) (k0 : Int → Int → (List Int) → Int → Int → Bool → (List Ex) → (List Int) → O) (x85_0 x85_1 : Int) (x85_2 : (List Int)) (x85_3 x85_4 : Int) (x85_5 : Bool) (x85_7 : (List Ex)) (x85_6 : Int) (x85_8 : (List Int)) : O :=
 br (decide (x85_6 < (↑x85_2.length : Int)))
  (ck (lim (x85_8 ++ [x85_1]).length (8 : Nat)) <|
  self (IntKind.i64.wrap (x85_6 + (1 : Int))) (x85_8 ++ [x85_1]))
  (k0 x85_0 x85_1 x85_2 x85_3 x85_4 x85_5 x85_7 x85_8)
noncomputable def w8b0 : Code := atC [1, 1, 1, 1, 0, 1, 0, 0, 1, 0, 0, 1, 1, 1, 1, 0, 1, 0, 0] w8b
def w8m0 : Nm := ⟨[3, 5, 14, 15, 16, 17, 18, 21, 22], [], [.nilR 21 (.row 3 (.i .i64) [] false)]⟩
def w8I0 (x : Int × Int × (List Int) × Int × Int × Bool × Int × (List Ex) × (List Int)) : Sg := ⟨[(3, .e (.i .i64) x.1), (5, .e (.i .i64) x.2.1), (14, .own 0), (15, .e (.sl (.i .i64)) x.2.2.1), (16, .e (.i .i64) x.2.2.2.1), (17, .e (.i .i64) x.2.2.2.2.1), (18, .e .bo x.2.2.2.2.2.1), (21, .own 1), (22, .e (.i .i64) x.2.2.2.2.2.2.1)], [(0, .row 25 .ex x.2.2.2.2.2.2.2.1 false), (1, .row 3 (.i .i64) x.2.2.2.2.2.2.2.2 false)], 100⟩
def w8u0 (σ : Sg) : Int × Int × (List Int) × Int × Int × Bool × Int × (List Ex) × (List Int) := (lvT (.i .i64) 3 0 σ, lvT (.i .i64) 5 0 σ, lvT (.sl (.i .i64)) 15 0 σ, lvT (.i .i64) 16 0 σ, lvT (.i .i64) 17 0 σ, lvT .bo 18 0 σ, lvT (.i .i64) 22 0 σ, lvR .ex 0 σ, lvR (.i .i64) 1 σ)
theorem w8ui0 : ∀ x, w8u0 (w8I0 x) = x := fun _ => by kernel_rfl
def w8X0_0 (y : Int × Int × (List Int) × Int × Int × Bool × (List Ex) × (List Int)) : Exit × Sg := ((.exit 2), ⟨[(3, .e (.i .i64) y.1), (5, .e (.i .i64) y.2.1), (14, .own 0), (15, .e (.sl (.i .i64)) y.2.2.1), (16, .e (.i .i64) y.2.2.2.1), (17, .e (.i .i64) y.2.2.2.2.1), (18, .e .bo y.2.2.2.2.2.1), (21, .own 1)], [(0, .row 25 .ex y.2.2.2.2.2.2.1 false), (1, .row 3 (.i .i64) y.2.2.2.2.2.2.2 false)], 100⟩)
def w8v0_0 (_ : Exit) (σ : Sg) : Int × Int × (List Int) × Int × Int × Bool × (List Ex) × (List Int) := (lvT (.i .i64) 3 0 σ, lvT (.i .i64) 5 0 σ, lvT (.sl (.i .i64)) 15 0 σ, lvT (.i .i64) 16 0 σ, lvT (.i .i64) 17 0 σ, lvT .bo 18 0 σ, lvR .ex 0 σ, lvR (.i .i64) 1 σ)
def w8w0 : List (Exit × Nm) := [((.exit 2), ⟨[3, 5, 14, 15, 16, 17, 18, 21], [], []⟩)]
theorem w8o0 : Outs w8v0_0 (fun _ _ => ()) (fun _ _ => ()) w8X0_0 (noX 1) (noX 2) (exC (.exit 2)) (exC (.goto 1)) (exC (.goto 2)) := ⟨fun _ => by kernel_rfl, fun _ => by kernel_rfl, fun _ => by kernel_rfl, fun _ => by kernel_rfl, fun _ => by kernel_rfl, fun _ => by kernel_rfl, exNe_ok (by kernel_rfl), exNe_ok (by kernel_rfl), exNe_ok (by kernel_rfl)⟩
def w8l0 [Alg] (N : Nat) : Nat → (Int × Int × (List Int) × Int × Int × Bool × Int × (List Ex) × (List Int)) → ((Int × Int × (List Int) × Int × Int × Bool × (List Ex) × (List Int)) → O) → ((Unit) → O) → ((Unit) → O) → O
 | 0, _, _, _, _ => none
 | n + 1, x, k0, k1, k2 => w8F0 N  (fun v0 v1 => w8l0 N n (x.1, x.2.1, x.2.2.1, x.2.2.2.1, x.2.2.2.2.1, x.2.2.2.2.2.1, v0, x.2.2.2.2.2.2.2.1, v1) k0 k1 k2) (fun y0 y1 y2 y3 y4 y5 y6 y7 => k0 (y0, y1, y2, y3, y4, y5, y6, y7)) x.1 x.2.1 x.2.2.1 x.2.2.2.1 x.2.2.2.2.1 x.2.2.2.2.2.1 x.2.2.2.2.2.2.2.1 x.2.2.2.2.2.2.1 x.2.2.2.2.2.2.2.2
def w8n0 [Alg] (N : Nat) (a0 a1 : Int) (a2 : (List Int)) (a3 a4 : Int) (a5 : Bool) (a6 : Int) (a7 : (List Ex)) (a8 : (List Int)) (k0 : Int → Int → (List Int) → Int → Int → Bool → (List Ex) → (List Int) → O) : O := w8l0 N N (a0, a1, a2, a3, a4, a5, a6, a7, a8) (fun y => k0 y.1 y.2.1 y.2.2.1 y.2.2.2.1 y.2.2.2.2.1 y.2.2.2.2.2.1 y.2.2.2.2.2.2.1 y.2.2.2.2.2.2.2) (fun _ => none) (fun _ => none)
noncomputable def w8s0 [Alg] (N : Nat) (a0 a1 : Int) (a2 : (List Int)) (a3 a4 : Int) (a5 : Bool) (a6 : Int) (a7 : (List Ex)) (a8 : (List Int)) (k0 : Int → Int → (List Int) → Int → Int → Bool → (List Ex) → (List Int) → O) : O := subL w8I0 w8u0 (w8l0 N N) (w8I0 (a0, a1, a2, a3, a4, a5, a6, a7, a8)) (fun y => k0 y.1 y.2.1 y.2.2.1 y.2.2.2.1 y.2.2.2.2.1 y.2.2.2.2.2.1 y.2.2.2.2.2.2.1 y.2.2.2.2.2.2.2) (fun _ => none) (fun _ => none)
theorem w8e0 [Alg] (N : Nat) : w8s0 N = w8n0 N := funext fun _ => funext fun _ => funext fun _ => funext fun _ => funext fun _ => funext fun _ => funext fun _ => funext fun _ => funext fun _ => funext fun _ => subL_I w8ui0 _ _ _ _
noncomputable def w8h0 [Alg] (_ : Nat) : Hint := (.seq .d (.seq (.block (.reg [2, 3] [] [])) .d))
theorem w8hk0 (N : Nat) : HintOk (w8c N) Tryd.f8.ntmps (w8h0 N) w8b0 := hk_of _ _ (And.intro trivial (And.intro trivial trivial))
theorem w8q0 [Alg] (N : Nat) (self : Sg → O) (K : Exit → Sg → O) (x : Int × Int × (List Int) × Int × Int × Bool × Int × (List Ex) × (List Int)) : w8F0 N  (fun v0 v1 => self (w8I0 (x.1, x.2.1, x.2.2.1, x.2.2.2.1, x.2.2.2.2.1, x.2.2.2.2.2.1, v0, x.2.2.2.2.2.2.2.1, v1))) (fun y0 y1 y2 y3 y4 y5 y6 y7 => K (w8X0_0 (y0, y1, y2, y3, y4, y5, y6, y7)).1 (w8X0_0 (y0, y1, y2, y3, y4, y5, y6, y7)).2) x.1 x.2.1 x.2.2.1 x.2.2.2.1 x.2.2.2.2.1 x.2.2.2.2.2.1 x.2.2.2.2.2.2.2.1 x.2.2.2.2.2.2.1 x.2.2.2.2.2.2.2.2 = exec (w8c N) Tryd.f8.ntmps (w8h0 N) w8b0 (w8I0 x) (roundX w8m0 w8w0 self K) := by kernel_rfl
theorem w8S0 (N : Nat) (hc : CxOk (w8c N)) : SubOk (w8c N) Tryd.f8.ntmps (.loop w8b0) w8X0_0 (noX 1) (noX 2) (subL w8I0 w8u0 (w8l0 N N)) :=
 sub_loop hc (w8hk0 N) w8o0 (n := N) (fun x K => loop_ind (w8l0 N) (fun _ _ _ _ => rfl) (fun n K ih x => by
  have h : w8F0 N  (fun v0 v1 => w8l0 N n (x.1, x.2.1, x.2.2.1, x.2.2.2.1, x.2.2.2.2.1, x.2.2.2.2.2.1, v0, x.2.2.2.2.2.2.2.1, v1) (fun y => K (w8X0_0 y).1 (w8X0_0 y).2) (fun y => K ((noX 1) y).1 ((noX 1) y).2) (fun y => K ((noX 2) y).1 ((noX 2) y).2)) (fun y0 y1 y2 y3 y4 y5 y6 y7 => K (w8X0_0 (y0, y1, y2, y3, y4, y5, y6, y7)).1 (w8X0_0 (y0, y1, y2, y3, y4, y5, y6, y7)).2) x.1 x.2.1 x.2.2.1 x.2.2.2.1 x.2.2.2.2.1 x.2.2.2.2.2.1 x.2.2.2.2.2.2.2.1 x.2.2.2.2.2.2.1 x.2.2.2.2.2.2.2.2 = w8F0 N  (fun v0 v1 => loopX (w8c N) Tryd.f8.ntmps (w8h0 N) w8b0 w8m0 w8w0 n (w8I0 (x.1, x.2.1, x.2.2.1, x.2.2.2.1, x.2.2.2.2.1, x.2.2.2.2.2.1, v0, x.2.2.2.2.2.2.2.1, v1)) K) (fun y0 y1 y2 y3 y4 y5 y6 y7 => K (w8X0_0 (y0, y1, y2, y3, y4, y5, y6, y7)).1 (w8X0_0 (y0, y1, y2, y3, y4, y5, y6, y7)).2) x.1 x.2.1 x.2.2.1 x.2.2.2.1 x.2.2.2.2.1 x.2.2.2.2.2.1 x.2.2.2.2.2.2.2.1 x.2.2.2.2.2.2.1 x.2.2.2.2.2.2.2.2 := by rw [ show (fun v0 v1 => w8l0 N n (x.1, x.2.1, x.2.2.1, x.2.2.2.1, x.2.2.2.2.1, x.2.2.2.2.2.1, v0, x.2.2.2.2.2.2.2.1, v1) (fun y => K (w8X0_0 y).1 (w8X0_0 y).2) (fun y => K ((noX 1) y).1 ((noX 1) y).2) (fun y => K ((noX 2) y).1 ((noX 2) y).2)) = (fun v0 v1 => loopX (w8c N) Tryd.f8.ntmps (w8h0 N) w8b0 w8m0 w8w0 n (w8I0 (x.1, x.2.1, x.2.2.1, x.2.2.2.1, x.2.2.2.2.1, x.2.2.2.2.2.1, v0, x.2.2.2.2.2.2.2.1, v1)) K) from funext fun _ => funext fun _ => ih _]
  exact h.trans (w8q0 N (fun σ => loopX (w8c N) Tryd.f8.ntmps (w8h0 N) w8b0 w8m0 w8w0 n σ K) K x)) N x K)
def w8F1 [Alg] (_ : Nat)  (self : Int → (List Int) → O) (k0 : Bool → O) (k1 : Int → Int → (List Int) → Int → Int → Bool → (List Ex) → (List Int) → O) (x95_0 x95_1 : Int) (x95_2 : (List Int)) (x95_3 x95_4 : Int) (x95_5 : Bool) (x95_6 : (List Int)) (x95_8 : (List Ex)) (x95_7 : Int) (x95_9 : (List Int)) : O :=
 br (decide (x95_7 < (↑x95_6.length : Int)))
  (gx x95_6 x95_7 fun y108 =>
  br (decide (y108 < (0 : Int)))
   (k0 false)
   (gx x95_6 x95_7 fun y109 =>
   br (decide (y109 < (↑x95_2.length : Int)))
    (gx x95_6 x95_7 fun y110 =>
    gx x95_6 x95_7 fun y111 =>
    gx x95_2 y111 fun y112 =>
    ck (decide ((0 : Int) ≤ y110 ∧ y110 < (↑x95_9.length : Int))) <|
    gn x95_9 y110.toNat fun _ =>
    self (IntKind.i64.wrap (x95_7 + (1 : Int))) (x95_9.set y110.toNat y112))
    (self (IntKind.i64.wrap (x95_7 + (1 : Int))) x95_9)))
  (k1 x95_0 x95_1 x95_2 x95_3 x95_4 x95_5 x95_8 x95_9)
noncomputable def w8b1 : Code := atC [1, 1, 1, 1, 0, 1, 0, 0, 1, 0, 0, 1, 1, 1, 1, 1, 1, 0, 1, 0, 0] w8b
def w8m1 : Nm := ⟨[3, 5, 14, 15, 16, 17, 18, 21, 23, 24], [], []⟩
def w8I1 (x : Int × Int × (List Int) × Int × Int × Bool × (List Int) × Int × (List Ex) × (List Int)) : Sg := ⟨[(3, .e (.i .i64) x.1), (5, .e (.i .i64) x.2.1), (14, .own 0), (15, .e (.sl (.i .i64)) x.2.2.1), (16, .e (.i .i64) x.2.2.2.1), (17, .e (.i .i64) x.2.2.2.2.1), (18, .e .bo x.2.2.2.2.2.1), (21, .own 1), (23, .e (.sl (.i .i64)) x.2.2.2.2.2.2.1), (24, .e (.i .i64) x.2.2.2.2.2.2.2.1)], [(0, .row 25 .ex x.2.2.2.2.2.2.2.2.1 false), (1, .row 3 (.i .i64) x.2.2.2.2.2.2.2.2.2 false)], 100⟩
def w8u1 (σ : Sg) : Int × Int × (List Int) × Int × Int × Bool × (List Int) × Int × (List Ex) × (List Int) := (lvT (.i .i64) 3 0 σ, lvT (.i .i64) 5 0 σ, lvT (.sl (.i .i64)) 15 0 σ, lvT (.i .i64) 16 0 σ, lvT (.i .i64) 17 0 σ, lvT .bo 18 0 σ, lvT (.sl (.i .i64)) 23 0 σ, lvT (.i .i64) 24 0 σ, lvR .ex 0 σ, lvR (.i .i64) 1 σ)
theorem w8ui1 : ∀ x, w8u1 (w8I1 x) = x := fun _ => by kernel_rfl
def w8X1_0 (y : Bool) : Exit × Sg := (.ret, ⟨[(12, .e .bo y)], [], 100⟩)
def w8v1_0 (_ : Exit) (σ : Sg) : Bool := lvT .bo 12 0 σ
def w8X1_1 (y : Int × Int × (List Int) × Int × Int × Bool × (List Ex) × (List Int)) : Exit × Sg := ((.exit 4), ⟨[(3, .e (.i .i64) y.1), (5, .e (.i .i64) y.2.1), (14, .own 0), (15, .e (.sl (.i .i64)) y.2.2.1), (16, .e (.i .i64) y.2.2.2.1), (17, .e (.i .i64) y.2.2.2.2.1), (18, .e .bo y.2.2.2.2.2.1), (21, .own 1)], [(0, .row 25 .ex y.2.2.2.2.2.2.1 false), (1, .row 3 (.i .i64) y.2.2.2.2.2.2.2 false)], 100⟩)
def w8v1_1 (_ : Exit) (σ : Sg) : Int × Int × (List Int) × Int × Int × Bool × (List Ex) × (List Int) := (lvT (.i .i64) 3 0 σ, lvT (.i .i64) 5 0 σ, lvT (.sl (.i .i64)) 15 0 σ, lvT (.i .i64) 16 0 σ, lvT (.i .i64) 17 0 σ, lvT .bo 18 0 σ, lvR .ex 0 σ, lvR (.i .i64) 1 σ)
def w8w1 : List (Exit × Nm) := [(.ret, ⟨[12], [], []⟩), ((.exit 4), ⟨[3, 5, 14, 15, 16, 17, 18, 21], [], []⟩)]
theorem w8o1 : Outs w8v1_0 w8v1_1 (fun _ _ => ()) w8X1_0 w8X1_1 (noX 2) (exC .ret) (exC (.exit 4)) (exC (.goto 2)) := ⟨fun _ => by kernel_rfl, fun _ => by kernel_rfl, fun _ => by kernel_rfl, fun _ => by kernel_rfl, fun _ => by kernel_rfl, fun _ => by kernel_rfl, exNe_ok (by kernel_rfl), exNe_ok (by kernel_rfl), exNe_ok (by kernel_rfl)⟩
def w8l1 [Alg] (N : Nat) : Nat → (Int × Int × (List Int) × Int × Int × Bool × (List Int) × Int × (List Ex) × (List Int)) → ((Bool) → O) → ((Int × Int × (List Int) × Int × Int × Bool × (List Ex) × (List Int)) → O) → ((Unit) → O) → O
 | 0, _, _, _, _ => none
 | n + 1, x, k0, k1, k2 => w8F1 N  (fun v0 v1 => w8l1 N n (x.1, x.2.1, x.2.2.1, x.2.2.2.1, x.2.2.2.2.1, x.2.2.2.2.2.1, x.2.2.2.2.2.2.1, v0, x.2.2.2.2.2.2.2.2.1, v1) k0 k1 k2) (fun y0 => k0 y0) (fun y0 y1 y2 y3 y4 y5 y6 y7 => k1 (y0, y1, y2, y3, y4, y5, y6, y7)) x.1 x.2.1 x.2.2.1 x.2.2.2.1 x.2.2.2.2.1 x.2.2.2.2.2.1 x.2.2.2.2.2.2.1 x.2.2.2.2.2.2.2.2.1 x.2.2.2.2.2.2.2.1 x.2.2.2.2.2.2.2.2.2
def w8n1 [Alg] (N : Nat) (a0 a1 : Int) (a2 : (List Int)) (a3 a4 : Int) (a5 : Bool) (a6 : (List Int)) (a7 : Int) (a8 : (List Ex)) (a9 : (List Int)) (k0 : Bool → O) (k1 : Int → Int → (List Int) → Int → Int → Bool → (List Ex) → (List Int) → O) : O := w8l1 N N (a0, a1, a2, a3, a4, a5, a6, a7, a8, a9) (fun y => k0 y) (fun y => k1 y.1 y.2.1 y.2.2.1 y.2.2.2.1 y.2.2.2.2.1 y.2.2.2.2.2.1 y.2.2.2.2.2.2.1 y.2.2.2.2.2.2.2) (fun _ => none)
noncomputable def w8s1 [Alg] (N : Nat) (a0 a1 : Int) (a2 : (List Int)) (a3 a4 : Int) (a5 : Bool) (a6 : (List Int)) (a7 : Int) (a8 : (List Ex)) (a9 : (List Int)) (k0 : Bool → O) (k1 : Int → Int → (List Int) → Int → Int → Bool → (List Ex) → (List Int) → O) : O := subL w8I1 w8u1 (w8l1 N N) (w8I1 (a0, a1, a2, a3, a4, a5, a6, a7, a8, a9)) (fun y => k0 y) (fun y => k1 y.1 y.2.1 y.2.2.1 y.2.2.2.1 y.2.2.2.2.1 y.2.2.2.2.2.1 y.2.2.2.2.2.2.1 y.2.2.2.2.2.2.2) (fun _ => none)
theorem w8e1 [Alg] (N : Nat) : w8s1 N = w8n1 N := funext fun _ => funext fun _ => funext fun _ => funext fun _ => funext fun _ => funext fun _ => funext fun _ => funext fun _ => funext fun _ => funext fun _ => funext fun _ => funext fun _ => subL_I w8ui1 _ _ _ _
noncomputable def w8h1 [Alg] (_ : Nat) : Hint := (.seq .d (.seq (.block (.seq .d (.seq .d (.cond (.reg [] [] [[], [], [], [], [], [], [], [], [], [], [], [], [], [1]]) .d)))) .d))
theorem w8hk1 (N : Nat) : HintOk (w8c N) Tryd.f8.ntmps (w8h1 N) w8b1 := hk_of _ _ (And.intro trivial (And.intro (And.intro trivial (And.intro trivial (And.intro trivial trivial))) trivial))
theorem w8q1 [Alg] (N : Nat) (self : Sg → O) (K : Exit → Sg → O) (x : Int × Int × (List Int) × Int × Int × Bool × (List Int) × Int × (List Ex) × (List Int)) : w8F1 N  (fun v0 v1 => self (w8I1 (x.1, x.2.1, x.2.2.1, x.2.2.2.1, x.2.2.2.2.1, x.2.2.2.2.2.1, x.2.2.2.2.2.2.1, v0, x.2.2.2.2.2.2.2.2.1, v1))) (fun y0 => K (w8X1_0 y0).1 (w8X1_0 y0).2) (fun y0 y1 y2 y3 y4 y5 y6 y7 => K (w8X1_1 (y0, y1, y2, y3, y4, y5, y6, y7)).1 (w8X1_1 (y0, y1, y2, y3, y4, y5, y6, y7)).2) x.1 x.2.1 x.2.2.1 x.2.2.2.1 x.2.2.2.2.1 x.2.2.2.2.2.1 x.2.2.2.2.2.2.1 x.2.2.2.2.2.2.2.2.1 x.2.2.2.2.2.2.2.1 x.2.2.2.2.2.2.2.2.2 = exec (w8c N) Tryd.f8.ntmps (w8h1 N) w8b1 (w8I1 x) (roundX w8m1 w8w1 self K) := by kernel_rfl
theorem w8S1 (N : Nat) (hc : CxOk (w8c N)) : SubOk (w8c N) Tryd.f8.ntmps (.loop w8b1) w8X1_0 w8X1_1 (noX 2) (subL w8I1 w8u1 (w8l1 N N)) :=
 sub_loop hc (w8hk1 N) w8o1 (n := N) (fun x K => loop_ind (w8l1 N) (fun _ _ _ _ => rfl) (fun n K ih x => by
  have h : w8F1 N  (fun v0 v1 => w8l1 N n (x.1, x.2.1, x.2.2.1, x.2.2.2.1, x.2.2.2.2.1, x.2.2.2.2.2.1, x.2.2.2.2.2.2.1, v0, x.2.2.2.2.2.2.2.2.1, v1) (fun y => K (w8X1_0 y).1 (w8X1_0 y).2) (fun y => K (w8X1_1 y).1 (w8X1_1 y).2) (fun y => K ((noX 2) y).1 ((noX 2) y).2)) (fun y0 => K (w8X1_0 y0).1 (w8X1_0 y0).2) (fun y0 y1 y2 y3 y4 y5 y6 y7 => K (w8X1_1 (y0, y1, y2, y3, y4, y5, y6, y7)).1 (w8X1_1 (y0, y1, y2, y3, y4, y5, y6, y7)).2) x.1 x.2.1 x.2.2.1 x.2.2.2.1 x.2.2.2.2.1 x.2.2.2.2.2.1 x.2.2.2.2.2.2.1 x.2.2.2.2.2.2.2.2.1 x.2.2.2.2.2.2.2.1 x.2.2.2.2.2.2.2.2.2 = w8F1 N  (fun v0 v1 => loopX (w8c N) Tryd.f8.ntmps (w8h1 N) w8b1 w8m1 w8w1 n (w8I1 (x.1, x.2.1, x.2.2.1, x.2.2.2.1, x.2.2.2.2.1, x.2.2.2.2.2.1, x.2.2.2.2.2.2.1, v0, x.2.2.2.2.2.2.2.2.1, v1)) K) (fun y0 => K (w8X1_0 y0).1 (w8X1_0 y0).2) (fun y0 y1 y2 y3 y4 y5 y6 y7 => K (w8X1_1 (y0, y1, y2, y3, y4, y5, y6, y7)).1 (w8X1_1 (y0, y1, y2, y3, y4, y5, y6, y7)).2) x.1 x.2.1 x.2.2.1 x.2.2.2.1 x.2.2.2.2.1 x.2.2.2.2.2.1 x.2.2.2.2.2.2.1 x.2.2.2.2.2.2.2.2.1 x.2.2.2.2.2.2.2.1 x.2.2.2.2.2.2.2.2.2 := by rw [ show (fun v0 v1 => w8l1 N n (x.1, x.2.1, x.2.2.1, x.2.2.2.1, x.2.2.2.2.1, x.2.2.2.2.2.1, x.2.2.2.2.2.2.1, v0, x.2.2.2.2.2.2.2.2.1, v1) (fun y => K (w8X1_0 y).1 (w8X1_0 y).2) (fun y => K (w8X1_1 y).1 (w8X1_1 y).2) (fun y => K ((noX 2) y).1 ((noX 2) y).2)) = (fun v0 v1 => loopX (w8c N) Tryd.f8.ntmps (w8h1 N) w8b1 w8m1 w8w1 n (w8I1 (x.1, x.2.1, x.2.2.1, x.2.2.2.1, x.2.2.2.2.1, x.2.2.2.2.2.1, x.2.2.2.2.2.2.1, v0, x.2.2.2.2.2.2.2.2.1, v1)) K) from funext fun _ => funext fun _ => ih _]
  exact h.trans (w8q1 N (fun σ => loopX (w8c N) Tryd.f8.ntmps (w8h1 N) w8b1 w8m1 w8w1 n σ K) K x)) N x K)
def w8F2 [Alg] (N : Nat) (in0 : Int → Int → (List Int) → Int → Int → Bool → Int → (List Ex) → (List Int) → (Int → Int → (List Int) → Int → Int → Bool → (List Ex) → (List Int) → O) → O) (in1 : Int → Int → (List Int) → Int → Int → Bool → (List Int) → Int → (List Ex) → (List Int) → (Bool → O) → (Int → Int → (List Int) → Int → Int → Bool → (List Ex) → (List Int) → O) → O) (self : Int → Int → (List Int) → Int → (List Ex) → O) (k0 : Bool → O) (k1 : Unit → O) (x0_0 x0_1 : Int) (x0_2 : (List Int)) (x0_3 : Int) (x0_4 : (List Ex)) : O :=
 br (decide (x0_3 < (2 : Int)))
  (ck (decide ((0 : Int) ≤ x0_3 ∧ x0_3 < (↑x0_4.length : Int))) <|
  gn x0_4 x0_3.toNat fun y83 =>
  ck (w28p N y83.op y83.num y83.kids x0_2) <|
  ck (decide ((0 : Int) ≤ x0_3 ∧ x0_3 < (↑x0_4.length : Int))) <|
  gn x0_4 x0_3.toNat fun y84 =>
  ck (w29p N y84.op y84.num y84.kids x0_2) <|
  br (!w28y1 N y83.op y83.num y83.kids x0_2 == w29y1 N y84.op y84.num y84.kids x0_2 || decide (w28y0 N y83.op y83.num y83.kids x0_2 ≠ w29y0 N y84.op y84.num y84.kids x0_2))
   (k0 false)
   (in0 x0_0 x0_1 x0_2 x0_3 (w28y0 N y83.op y83.num y83.kids x0_2) (w28y1 N y83.op y83.num y83.kids x0_2) ((0 : Int)) x0_4 []
    (fun z86 z87 z88 z89 z90 z91 z92 z93 =>
     ck (decide ((0 : Int) ≤ z89 ∧ z89 < (↑z92.length : Int))) <|
     gn z92 z89.toNat fun y94 =>
     ck (w30p N y94.op y94.num y94.kids) <|
     in1 z86 z87 z88 z89 z90 z91 (w30y0 N y94.op y94.num y94.kids) ((0 : Int)) z92 z93
      (fun z114 =>
       k0 z114)
      (fun z115 z116 z117 z118 z119 z120 z121 z122 =>
       ck (decide ((0 : Int) ≤ z118 ∧ z118 < (↑z121.length : Int))) <|
       gn z121 z118.toNat fun y123 =>
       ck (w28p N y123.op y123.num y123.kids z122) <|
       br (!w28y1 N y123.op y123.num y123.kids z122 == z120 || decide (w28y0 N y123.op y123.num y123.kids z122 ≠ z119))
        (k0 false)
        (self z115 z116 z117 (IntKind.i64.wrap (z118 + (1 : Int))) z121)))))
  (k1 ())
noncomputable def w8b2 : Code := atC [1, 1, 1, 1, 0, 1, 0, 0] w8b
def w8m2 : Nm := ⟨[3, 5, 14, 15, 16], [], []⟩
def w8I2 (x : Int × Int × (List Int) × Int × (List Ex)) : Sg := ⟨[(3, .e (.i .i64) x.1), (5, .e (.i .i64) x.2.1), (14, .own 0), (15, .e (.sl (.i .i64)) x.2.2.1), (16, .e (.i .i64) x.2.2.2.1)], [(0, .row 25 .ex x.2.2.2.2 false)], 100⟩
def w8u2 (σ : Sg) : Int × Int × (List Int) × Int × (List Ex) := (lvT (.i .i64) 3 0 σ, lvT (.i .i64) 5 0 σ, lvT (.sl (.i .i64)) 15 0 σ, lvT (.i .i64) 16 0 σ, lvR .ex 0 σ)
theorem w8ui2 : ∀ x, w8u2 (w8I2 x) = x := fun _ => by kernel_rfl
def w8X2_0 (y : Bool) : Exit × Sg := (.ret, ⟨[(12, .e .bo y)], [], 100⟩)
def w8v2_0 (_ : Exit) (σ : Sg) : Bool := lvT .bo 12 0 σ
def w8X2_1 (_ : Unit) : Exit × Sg := ((.exit 0), ⟨[], [], 100⟩)
def w8v2_1 (_ : Exit) (_ : Sg) : Unit := ()
def w8w2 : List (Exit × Nm) := [(.ret, ⟨[12], [], []⟩), ((.exit 0), ⟨[], [], []⟩)]
theorem w8o2 : Outs w8v2_0 w8v2_1 (fun _ _ => ()) w8X2_0 w8X2_1 (noX 2) (exC .ret) (exC (.exit 0)) (exC (.goto 2)) := ⟨fun _ => by kernel_rfl, fun _ => by kernel_rfl, fun _ => by kernel_rfl, fun _ => by kernel_rfl, fun _ => by kernel_rfl, fun _ => by kernel_rfl, exNe_ok (by kernel_rfl), exNe_ok (by kernel_rfl), exNe_ok (by kernel_rfl)⟩
def w8l2 [Alg] (N : Nat) : Nat → (Int × Int × (List Int) × Int × (List Ex)) → ((Bool) → O) → ((Unit) → O) → ((Unit) → O) → O
 | 0, _, _, _, _ => none
 | n + 1, x, k0, k1, k2 => w8F2 N (w8n0 N) (w8n1 N) (fun v0 v1 v2 v3 v4 => w8l2 N n (v0, v1, v2, v3, v4) k0 k1 k2) (fun y0 => k0 y0) (fun (_ : Unit) => k1 ()) x.1 x.2.1 x.2.2.1 x.2.2.2.1 x.2.2.2.2
def w8n2 [Alg] (N : Nat) (a0 a1 : Int) (a2 : (List Int)) (a3 : Int) (a4 : (List Ex)) (k0 : Bool → O) (k1 : Unit → O) : O := w8l2 N N (a0, a1, a2, a3, a4) (fun y => k0 y) (fun y => k1 y) (fun _ => none)
noncomputable def w8s2 [Alg] (N : Nat) (a0 a1 : Int) (a2 : (List Int)) (a3 : Int) (a4 : (List Ex)) (k0 : Bool → O) (k1 : Unit → O) : O := subL w8I2 w8u2 (w8l2 N N) (w8I2 (a0, a1, a2, a3, a4)) (fun y => k0 y) (fun y => k1 y) (fun _ => none)
theorem w8e2 [Alg] (N : Nat) : w8s2 N = w8n2 N := funext fun _ => funext fun _ => funext fun _ => funext fun _ => funext fun _ => funext fun _ => funext fun _ => subL_I w8ui2 _ _ _ _
noncomputable def w8h2 [Alg] (N : Nat) : Hint := (.seq .d (.seq (.block (.seq .d (.seq .d (.seq .d (.seq .d (.seq (.seq .d (.block (.sub w8m0 _ _ _ w8X0_0 (noX 1) (noX 2) (subL w8I0 w8u0 (w8l0 N N))))) (.seq .d (.seq (.seq .d (.block (.sub w8m1 _ _ _ w8X1_0 w8X1_1 (noX 2) (subL w8I1 w8u1 (w8l1 N N))))) (.seq (.reg [] [.slr 21] []) .d))))))))) .d))
theorem w8hk2 (N : Nat) (hc : CxOk (w8c N)) : HintOk (w8c N) Tryd.f8.ntmps (w8h2 N) w8b2 := hk_of _ _ (And.intro trivial (And.intro (And.intro trivial (And.intro trivial (And.intro trivial (And.intro trivial (And.intro (And.intro trivial (w8S0 N hc)) (And.intro trivial (And.intro (And.intro trivial (w8S1 N hc)) (And.intro trivial trivial)))))))) trivial))
theorem w8q2 [Alg] (N : Nat) (self : Sg → O) (K : Exit → Sg → O) (x : Int × Int × (List Int) × Int × (List Ex)) : w8F2 N (w8s0 N) (w8s1 N) (fun v0 v1 v2 v3 v4 => self (w8I2 (v0, v1, v2, v3, v4))) (fun y0 => K (w8X2_0 y0).1 (w8X2_0 y0).2) (fun (_ : Unit) => K (w8X2_1 ()).1 (w8X2_1 ()).2) x.1 x.2.1 x.2.2.1 x.2.2.2.1 x.2.2.2.2 = exec (w8c N) Tryd.f8.ntmps (w8h2 N) w8b2 (w8I2 x) (roundX w8m2 w8w2 self K) := by kernel_rfl
theorem w8S2 (N : Nat) (hc : CxOk (w8c N)) : SubOk (w8c N) Tryd.f8.ntmps (.loop w8b2) w8X2_0 w8X2_1 (noX 2) (subL w8I2 w8u2 (w8l2 N N)) :=
 sub_loop hc (w8hk2 N hc) w8o2 (n := N) (fun x K => loop_ind (w8l2 N) (fun _ _ _ _ => rfl) (fun n K ih x => by
  have h : w8F2 N (w8n0 N) (w8n1 N) (fun v0 v1 v2 v3 v4 => w8l2 N n (v0, v1, v2, v3, v4) (fun y => K (w8X2_0 y).1 (w8X2_0 y).2) (fun y => K (w8X2_1 y).1 (w8X2_1 y).2) (fun y => K ((noX 2) y).1 ((noX 2) y).2)) (fun y0 => K (w8X2_0 y0).1 (w8X2_0 y0).2) (fun (_ : Unit) => K (w8X2_1 ()).1 (w8X2_1 ()).2) x.1 x.2.1 x.2.2.1 x.2.2.2.1 x.2.2.2.2 = w8F2 N (w8s0 N) (w8s1 N) (fun v0 v1 v2 v3 v4 => loopX (w8c N) Tryd.f8.ntmps (w8h2 N) w8b2 w8m2 w8w2 n (w8I2 (v0, v1, v2, v3, v4)) K) (fun y0 => K (w8X2_0 y0).1 (w8X2_0 y0).2) (fun (_ : Unit) => K (w8X2_1 ()).1 (w8X2_1 ()).2) x.1 x.2.1 x.2.2.1 x.2.2.2.1 x.2.2.2.2 := by rw [w8e0 N, w8e1 N, show (fun v0 v1 v2 v3 v4 => w8l2 N n (v0, v1, v2, v3, v4) (fun y => K (w8X2_0 y).1 (w8X2_0 y).2) (fun y => K (w8X2_1 y).1 (w8X2_1 y).2) (fun y => K ((noX 2) y).1 ((noX 2) y).2)) = (fun v0 v1 v2 v3 v4 => loopX (w8c N) Tryd.f8.ntmps (w8h2 N) w8b2 w8m2 w8w2 n (w8I2 (v0, v1, v2, v3, v4)) K) from funext fun _ => funext fun _ => funext fun _ => funext fun _ => funext fun _ => ih _]
  exact h.trans (w8q2 N (fun σ => loopX (w8c N) Tryd.f8.ntmps (w8h2 N) w8b2 w8m2 w8w2 n σ K) K x)) N x K)
def w8G [Alg] (N : Nat) (_in0 : Int → Int → (List Int) → Int → Int → Bool → Int → (List Ex) → (List Int) → (Int → Int → (List Int) → Int → Int → Bool → (List Ex) → (List Int) → O) → O) (_in1 : Int → Int → (List Int) → Int → Int → Bool → (List Int) → Int → (List Ex) → (List Int) → (Bool → O) → (Int → Int → (List Int) → Int → Int → Bool → (List Ex) → (List Int) → O) → O) (in2 : Int → Int → (List Int) → Int → (List Ex) → (Bool → O) → (Unit → O) → O) (l0 : (List Int)) (depth1 : Int) (vars2 : (List Int)) (at3 how4 by5 : Int) : O :=
 ck (w12p N l0 depth1) <|
 ck (w13p N (w12y0 N l0 depth1) (w12y1 N l0 depth1) (w12y2 N l0 depth1) at3 how4 by5) <|
 ck (w25p N vars2 (26 : Int)) <|
 in2 at3 by5 (w25y0 N vars2 (26 : Int)) ((0 : Int)) [Ex.mk (w12y0 N l0 depth1) (w12y1 N l0 depth1) (w12y2 N l0 depth1), Ex.mk (w13y0 N (w12y0 N l0 depth1) (w12y1 N l0 depth1) (w12y2 N l0 depth1) at3 how4 by5) (w13y1 N (w12y0 N l0 depth1) (w12y1 N l0 depth1) (w12y2 N l0 depth1) at3 how4 by5) (w13y2 N (w12y0 N l0 depth1) (w12y1 N l0 depth1) (w12y2 N l0 depth1) at3 how4 by5)]
  (fun z124 =>
   some (w8r0 z124))
  (fun (_ : Unit) =>
   ck true <|
   some (w8r0 true))
def w8 [Alg] (N : Nat) (l0 : (List Int)) (depth1 : Int) (vars2 : (List Int)) (at3 how4 by5 : Int) : O := w8G N (w8n0 N) (w8n1 N) (w8n2 N) l0 depth1 vars2 at3 how4 by5
noncomputable def w8h [Alg] (N : Nat) : Hint := (.seq .d (.seq .d (.seq (.reg [6] [] []) (.seq .d (.seq (.seq .d (.block (.sub w8m2 _ _ _ w8X2_0 w8X2_1 (noX 2) (subL w8I2 w8u2 (w8l2 N N))))) .d)))))
theorem w8hk (N : Nat) (hc : CxOk (w8c N)) : HintOk (w8c N) Tryd.f8.ntmps (w8h N) w8b := hk_of _ _ (And.intro trivial (And.intro trivial (And.intro trivial (And.intro trivial (And.intro (And.intro trivial (w8S2 N hc)) trivial)))))
theorem w8q [Alg] (N : Nat) (l0 : (List Int)) (depth1 : Int) (vars2 : (List Int)) (at3 how4 by5 : Int) : w8G N (w8s0 N) (w8s1 N) (w8s2 N) l0 depth1 vars2 at3 how4 by5 = exec (w8c N) Tryd.f8.ntmps (w8h N) w8b ⟨argT 0 [.e (.sl (.i .i64)) l0, .e (.i .i64) depth1, .e (.sl (.i .i64)) vars2, .e (.i .i64) at3, .e (.i .i64) how4, .e (.i .i64) by5], [], 100⟩ (finX (w8c N) Tryd.f8 false) := by kernel_rfl
theorem w8does {N : Nat} (hc : CxOk (w8c N)) {l0 : (List Int)} {depth1 : Int} {vars2 : (List Int)} {at3 how4 by5 : Int} {r : Res} (h : w8 N l0 depth1 vars2 at3 how4 by5 = some r) : DoesR Tryd.prog 8 (([.e (.sl (.i .i64)) l0, .e (.i .i64) depth1, .e (.sl (.i .i64)) vars2, .e (.i .i64) at3, .e (.i .i64) how4, .e (.i .i64) by5] : List X).map X.D) (HA []) r :=
 fun_ok hc (f := 8) (fn := Tryd.f8) (code := w8b) (by kernel_rfl) (by kernel_rfl) (w8hk N hc) (Nat.le_of_ble_eq_true (by kernel_rfl)) (ow := false) ((w8q N l0 depth1 vars2 at3 how4 by5).symm.trans (by rw [w8e0 N, w8e1 N, w8e2 N]; exact h))
def w8un (r : Res) : Option (Bool) := match r with
 | (x0, []) => (match ue .bo x0 with | some a0 => some a0 | _ => none)
 | _ => none
theorem w8uo {r : Res} {d : Bool} (h : w8un r = some d) : r = w8r0 (d) := by
 unfold w8un at h
 split at h
 ·split at h
  ·rename_i h0; cases h; rw [ue_some h0]; rfl
  ·cases h
 ·cases h
def w8z (N : Nat) (l0 : (List Int)) (depth1 : Int) (vars2 : (List Int)) (at3 how4 by5 : Int) : Option (Bool) := (w8 N l0 depth1 vars2 at3 how4 by5).bind w8un
theorem w8fin {N : Nat} (hc : CxOk (w8c N)) {l0 : (List Int)} {depth1 : Int} {vars2 : (List Int)} {at3 how4 by5 : Int} {d : Bool} (hd : w8z N l0 depth1 vars2 at3 how4 by5 = some d) : Does Tryd.prog 8 (([.e (.sl (.i .i64)) l0, .e (.i .i64) depth1, .e (.sl (.i .i64)) vars2, .e (.i .i64) at3, .e (.i .i64) how4, .e (.i .i64) by5] : List X).map X.D) (HA []) (w8r0 (d)).1.D (HA (w8r0 (d)).2) := by
 obtain ⟨r, hr, hu⟩ := Option.bind_eq_some_iff.1 hd
 have := w8does hc hr
 rw [w8uo hu] at this
 exact this
end
end Go.Proofs
