/- What functions do; the examples hold. Conditions are in the theorems. -/
import Derived.Test.YtpmhkjnnolpknaaDoorF2
import Derived.Test.YtpmhkjnnolpknaaDoorE7
import Derived.Test.YtpmhkjnnolpknaaDoorF0
import Derived.Test.YtpmhkjnnolpknaaDoorProg
import Derived.KernelRfl
/- The examples hold. -/
namespace Go.Proofs
open Go Go.Ax
theorem lives60 : w20z 60 = some true := by kernel_rfl
theorem l20ok (N : Nat) : EOk Tryd.prog 20 (l20e N) := EOk.e0 (fun _ => w20fin (w20cx 60) lives60)
end Go.Proofs
/- What functions do. -/
namespace Go.Proofs
noncomputable section
open Go.Ax Go.Ax.Alg Go.RowKit Go.Ab
open Go
def w5r0 (a0 : Bool) : Res := (.e .bo a0, [])
noncomputable def w5L (N : Nat) : List (Nat × Ent') := [(10, w10e N), (21, w21e N), (15, w15e N), (24, w24e N), (20, l20e N)]
noncomputable def w5c (N : Nat) : Cx := ⟨Tryd.prog, 99999, w5L N⟩
noncomputable def w5b : Code := Tryd.f5.body.getD .skip
theorem w5cx (N : Nat) : CxOk (w5c N) := ctx_ok (by kernel_rfl) (.cons (by kernel_rfl) (w10ok N) (.cons (by kernel_rfl) (w21ok N) (.cons (by kernel_rfl) (w15ok N) (.cons (by kernel_rfl) (w24ok N) (.cons (by kernel_rfl) (l20ok N) .nil)))))
def w5F0 [Alg] (_ : Nat)  (self : Int → O) (k0 : Bool → O) (k1 : Bool → (List (List UInt8)) → (List Int) → Int → Int → (List Int) → O) (x1_0 : Bool) (x1_1 : (List (List UInt8))) (x1_2 : (List Int)) (x1_3 : Int) (x1_5 : Int) (x1_6 : (List Int)) (x1_4 : Int) : O :=
  br (decide (x1_4 < (↑x1_1.length : Int)))
    (gx x1_1 x1_4 fun y4 =>
    br (decide ((↑y4.length : Int) ≠ x1_3) || decide (x1_3 < (2 : Int)))
      (k0 false)
      (self (IntKind.i64.wrap (x1_4 + (1 : Int)))))
    (k1 x1_0 x1_1 x1_2 x1_3 x1_5 x1_6)
noncomputable def w5b0 : Code := atC [1, 1, 1, 1, 1, 1, 0, 1, 0, 0] w5b
def w5m0 : Nm := ⟨[2, 3, 4, 6, 8, 9], [], []⟩
def w5I0 (x : Bool × (List (List UInt8)) × (List Int) × Int × Int × Int × (List Int)) : Sg := ⟨[(2, .e .bo x.1), (3, .ref 0 0), (4, .e (.sl (.sl .u8)) x.2.1), (6, .e (.sl (.i .i64)) x.2.2.1), (8, .e (.i .i64) x.2.2.2.1), (9, .e (.i .i64) x.2.2.2.2.1)], [(0, .box 24 [.e (.i .i64) x.2.2.2.2.2.1, .e (.sl (.i .i64)) x.2.2.2.2.2.2])], 100⟩
def w5u0 (σ : Sg) : Bool × (List (List UInt8)) × (List Int) × Int × Int × Int × (List Int) := (lvT .bo 2 0 σ, lvT (.sl (.sl .u8)) 4 0 σ, lvT (.sl (.i .i64)) 6 0 σ, lvT (.i .i64) 8 0 σ, lvT (.i .i64) 9 0 σ, lvH (.i .i64) 0 0 σ, lvH (.sl (.i .i64)) 0 1 σ)
theorem w5ui0 : ∀ x, w5u0 (w5I0 x) = x := fun _ => by kernel_rfl
def w5X0_0 (y : Bool) : Exit × Sg := (.ret, ⟨[(2, .e .bo y)], [], 100⟩)
def w5v0_0 (σ : Sg) : Bool := lvT .bo 2 0 σ
def w5X0_1 (y : Bool × (List (List UInt8)) × (List Int) × Int × Int × (List Int)) : Exit × Sg := ((.exit 0), ⟨[(2, .e .bo y.1), (3, .ref 0 0), (4, .e (.sl (.sl .u8)) y.2.1), (6, .e (.sl (.i .i64)) y.2.2.1), (8, .e (.i .i64) y.2.2.2.1)], [(0, .box 24 [.e (.i .i64) y.2.2.2.2.1, .e (.sl (.i .i64)) y.2.2.2.2.2])], 100⟩)
def w5v0_1 (σ : Sg) : Bool × (List (List UInt8)) × (List Int) × Int × Int × (List Int) := (lvT .bo 2 0 σ, lvT (.sl (.sl .u8)) 4 0 σ, lvT (.sl (.i .i64)) 6 0 σ, lvT (.i .i64) 8 0 σ, lvH (.i .i64) 0 0 σ, lvH (.sl (.i .i64)) 0 1 σ)
def w5w0 : List (Exit × Nm) := [(.ret, ⟨[2], [], []⟩), ((.exit 0), ⟨[2, 3, 4, 6, 8], [], []⟩)]
theorem w5o0 : Outs w5v0_0 w5v0_1 (fun _ => ()) w5X0_0 w5X0_1 (noX 2) .ret (.exit 0) (.goto 2) := ⟨fun _ => by kernel_rfl, fun _ => by kernel_rfl, fun _ => by kernel_rfl, fun _ => by kernel_rfl, fun _ => by kernel_rfl, fun _ => by kernel_rfl, exNe_ok (by kernel_rfl), exNe_ok (by kernel_rfl), exNe_ok (by kernel_rfl)⟩
def w5l0 [Alg] (N : Nat) : Nat → (Bool × (List (List UInt8)) × (List Int) × Int × Int × Int × (List Int)) → ((Bool) → O) → ((Bool × (List (List UInt8)) × (List Int) × Int × Int × (List Int)) → O) → ((Unit) → O) → O
  | 0, _, _, _, _ => none
  | n + 1, x, k0, k1, k2 => w5F0 N  (fun v0 => w5l0 N n (x.1, x.2.1, x.2.2.1, x.2.2.2.1, v0, x.2.2.2.2.2.1, x.2.2.2.2.2.2) k0 k1 k2) (fun y0 => k0 y0) (fun y0 y1 y2 y3 y4 y5 => k1 (y0, y1, y2, y3, y4, y5)) x.1 x.2.1 x.2.2.1 x.2.2.2.1 x.2.2.2.2.2.1 x.2.2.2.2.2.2 x.2.2.2.2.1
def w5n0 [Alg] (N : Nat) (a0 : Bool) (a1 : (List (List UInt8))) (a2 : (List Int)) (a3 : Int) (a4 : Int) (a5 : Int) (a6 : (List Int)) (k0 : Bool → O) (k1 : Bool → (List (List UInt8)) → (List Int) → Int → Int → (List Int) → O) : O := w5l0 N N (a0, a1, a2, a3, a4, a5, a6) (fun y => k0 y) (fun y => k1 y.1 y.2.1 y.2.2.1 y.2.2.2.1 y.2.2.2.2.1 y.2.2.2.2.2) (fun _ => none)
noncomputable def w5s0 [Alg] (N : Nat) (a0 : Bool) (a1 : (List (List UInt8))) (a2 : (List Int)) (a3 : Int) (a4 : Int) (a5 : Int) (a6 : (List Int)) (k0 : Bool → O) (k1 : Bool → (List (List UInt8)) → (List Int) → Int → Int → (List Int) → O) : O := subL w5I0 w5u0 (w5l0 N N) (w5I0 (a0, a1, a2, a3, a4, a5, a6)) (fun y => k0 y) (fun y => k1 y.1 y.2.1 y.2.2.1 y.2.2.2.1 y.2.2.2.2.1 y.2.2.2.2.2) (fun _ => none)
theorem w5e0 [Alg] (N : Nat) : w5s0 N = w5n0 N := funext fun _ => funext fun _ => funext fun _ => funext fun _ => funext fun _ => funext fun _ => funext fun _ => funext fun _ => funext fun _ => subL_I w5ui0 _ _ _ _
noncomputable def w5h0 [Alg] (_ : Nat) : Hint := .d
theorem w5hk0 (N : Nat) : HintOk (w5c N) Tryd.f5.ntmps (w5h0 N) w5b0 := hk_of _ _ trivial
theorem w5q0 [Alg] (N : Nat) (self : Sg → O) (K : Exit → Sg → O) (x : Bool × (List (List UInt8)) × (List Int) × Int × Int × Int × (List Int)) : w5F0 N  (fun v0 => self (w5I0 (x.1, x.2.1, x.2.2.1, x.2.2.2.1, v0, x.2.2.2.2.2.1, x.2.2.2.2.2.2))) (fun y0 => K (w5X0_0 y0).1 (w5X0_0 y0).2) (fun y0 y1 y2 y3 y4 y5 => K (w5X0_1 (y0, y1, y2, y3, y4, y5)).1 (w5X0_1 (y0, y1, y2, y3, y4, y5)).2) x.1 x.2.1 x.2.2.1 x.2.2.2.1 x.2.2.2.2.2.1 x.2.2.2.2.2.2 x.2.2.2.2.1 = exec (w5c N) Tryd.f5.ntmps (w5h0 N) w5b0 (w5I0 x) (roundX w5m0 w5w0 self K) := by kernel_rfl
theorem w5S0 (N : Nat) (hc : CxOk (w5c N)) : SubOk (w5c N) Tryd.f5.ntmps (.loop w5b0) w5X0_0 w5X0_1 (noX 2) (subL w5I0 w5u0 (w5l0 N N)) :=
  sub_loop hc (w5hk0 N) w5o0 (n := N) (fun x K => loop_ind (w5l0 N) (fun _ _ _ _ => rfl) (fun n K ih x => by
    have h : w5F0 N  (fun v0 => w5l0 N n (x.1, x.2.1, x.2.2.1, x.2.2.2.1, v0, x.2.2.2.2.2.1, x.2.2.2.2.2.2) (fun y => K (w5X0_0 y).1 (w5X0_0 y).2) (fun y => K (w5X0_1 y).1 (w5X0_1 y).2) (fun y => K ((noX 2) y).1 ((noX 2) y).2)) (fun y0 => K (w5X0_0 y0).1 (w5X0_0 y0).2) (fun y0 y1 y2 y3 y4 y5 => K (w5X0_1 (y0, y1, y2, y3, y4, y5)).1 (w5X0_1 (y0, y1, y2, y3, y4, y5)).2) x.1 x.2.1 x.2.2.1 x.2.2.2.1 x.2.2.2.2.2.1 x.2.2.2.2.2.2 x.2.2.2.2.1 = w5F0 N  (fun v0 => loopX (w5c N) Tryd.f5.ntmps (w5h0 N) w5b0 w5m0 w5w0 n (w5I0 (x.1, x.2.1, x.2.2.1, x.2.2.2.1, v0, x.2.2.2.2.2.1, x.2.2.2.2.2.2)) K) (fun y0 => K (w5X0_0 y0).1 (w5X0_0 y0).2) (fun y0 y1 y2 y3 y4 y5 => K (w5X0_1 (y0, y1, y2, y3, y4, y5)).1 (w5X0_1 (y0, y1, y2, y3, y4, y5)).2) x.1 x.2.1 x.2.2.1 x.2.2.2.1 x.2.2.2.2.2.1 x.2.2.2.2.2.2 x.2.2.2.2.1 := by rw [ show (fun v0 => w5l0 N n (x.1, x.2.1, x.2.2.1, x.2.2.2.1, v0, x.2.2.2.2.2.1, x.2.2.2.2.2.2) (fun y => K (w5X0_0 y).1 (w5X0_0 y).2) (fun y => K (w5X0_1 y).1 (w5X0_1 y).2) (fun y => K ((noX 2) y).1 ((noX 2) y).2)) = (fun v0 => loopX (w5c N) Tryd.f5.ntmps (w5h0 N) w5b0 w5m0 w5w0 n (w5I0 (x.1, x.2.1, x.2.2.1, x.2.2.2.1, v0, x.2.2.2.2.2.1, x.2.2.2.2.2.2)) K) from funext fun _ => ih _]
    exact h.trans (w5q0 N (fun σ => loopX (w5c N) Tryd.f5.ntmps (w5h0 N) w5b0 w5m0 w5w0 n σ K) K x)) N x K)
def w5F1 [Alg] (N : Nat)  (self : Int → Int → O) (k0 : Bool → (List (List UInt8)) → (List Int) → Int → Int → Int → Int → Bool → Int → Int → Int → (List Int) → Int → Bool → Int → (List Int) → O) (x73_0 : Bool) (x73_1 : (List (List UInt8))) (x73_2 : (List Int)) (x73_3 : Int) (x73_4 : Int) (x73_5 : Int) (x73_6 : Int) (x73_7 : Bool) (x73_10 : Int) (x73_11 : (List Int)) (x73_8 : Int) (x73_9 : Int) : O :=
  br (decide (x73_9 ≤ (↑x73_11.length : Int)))
    (gx x73_1 x73_9 fun y78 =>
    gx y78 x73_4 fun y79 =>
    ck (w24p N y79) <|
    self (IntKind.i64.wrap (x73_8 + w24y0 N y79)) (IntKind.i64.wrap (x73_9 + (1 : Int))))
    (k0 x73_0 x73_1 x73_2 x73_3 x73_4 x73_5 x73_6 x73_7 x73_8 x73_9 x73_9 x73_11 ((↑x73_11.length : Int)) (decide (x73_9 ≤ (↑x73_11.length : Int))) x73_10 x73_11)
noncomputable def w5b1 : Code := atC [1, 1, 1, 1, 1, 1, 1, 0, 1, 0, 0, 1, 0, 0, 1, 0, 1, 0, 0] w5b
def w5m1 : Nm := ⟨[2, 3, 4, 6, 8, 10, 65, 66, 67, 11, 12], [], []⟩
def w5I1 (x : Bool × (List (List UInt8)) × (List Int) × Int × Int × Int × Int × Bool × Int × Int × Int × (List Int)) : Sg := ⟨[(2, .e .bo x.1), (3, .ref 0 0), (4, .e (.sl (.sl .u8)) x.2.1), (6, .e (.sl (.i .i64)) x.2.2.1), (8, .e (.i .i64) x.2.2.2.1), (10, .e (.i .i64) x.2.2.2.2.1), (65, .e (.i .i64) x.2.2.2.2.2.1), (66, .e (.i .i64) x.2.2.2.2.2.2.1), (67, .e .bo x.2.2.2.2.2.2.2.1), (11, .e (.i .i64) x.2.2.2.2.2.2.2.2.1), (12, .e (.i .i64) x.2.2.2.2.2.2.2.2.2.1)], [(0, .box 24 [.e (.i .i64) x.2.2.2.2.2.2.2.2.2.2.1, .e (.sl (.i .i64)) x.2.2.2.2.2.2.2.2.2.2.2])], 100⟩
def w5u1 (σ : Sg) : Bool × (List (List UInt8)) × (List Int) × Int × Int × Int × Int × Bool × Int × Int × Int × (List Int) := (lvT .bo 2 0 σ, lvT (.sl (.sl .u8)) 4 0 σ, lvT (.sl (.i .i64)) 6 0 σ, lvT (.i .i64) 8 0 σ, lvT (.i .i64) 10 0 σ, lvT (.i .i64) 65 0 σ, lvT (.i .i64) 66 0 σ, lvT .bo 67 0 σ, lvT (.i .i64) 11 0 σ, lvT (.i .i64) 12 0 σ, lvH (.i .i64) 0 0 σ, lvH (.sl (.i .i64)) 0 1 σ)
theorem w5ui1 : ∀ x, w5u1 (w5I1 x) = x := fun _ => by kernel_rfl
def w5X1_0 (y : Bool × (List (List UInt8)) × (List Int) × Int × Int × Int × Int × Bool × Int × Int × Int × (List Int) × Int × Bool × Int × (List Int)) : Exit × Sg := ((.exit 4), ⟨[(2, .e .bo y.1), (3, .ref 0 0), (4, .e (.sl (.sl .u8)) y.2.1), (6, .e (.sl (.i .i64)) y.2.2.1), (8, .e (.i .i64) y.2.2.2.1), (10, .e (.i .i64) y.2.2.2.2.1), (65, .e (.i .i64) y.2.2.2.2.2.1), (66, .e (.i .i64) y.2.2.2.2.2.2.1), (67, .e .bo y.2.2.2.2.2.2.2.1), (11, .e (.i .i64) y.2.2.2.2.2.2.2.2.1), (12, .e (.i .i64) y.2.2.2.2.2.2.2.2.2.1), (70, .e (.i .i64) y.2.2.2.2.2.2.2.2.2.2.1), (71, .ref 0 1), (72, .e (.sl (.i .i64)) y.2.2.2.2.2.2.2.2.2.2.2.1), (73, .e (.i .i64) y.2.2.2.2.2.2.2.2.2.2.2.2.1), (74, .e .bo y.2.2.2.2.2.2.2.2.2.2.2.2.2.1)], [(0, .box 24 [.e (.i .i64) y.2.2.2.2.2.2.2.2.2.2.2.2.2.2.1, .e (.sl (.i .i64)) y.2.2.2.2.2.2.2.2.2.2.2.2.2.2.2])], 100⟩)
def w5v1_0 (σ : Sg) : Bool × (List (List UInt8)) × (List Int) × Int × Int × Int × Int × Bool × Int × Int × Int × (List Int) × Int × Bool × Int × (List Int) := (lvT .bo 2 0 σ, lvT (.sl (.sl .u8)) 4 0 σ, lvT (.sl (.i .i64)) 6 0 σ, lvT (.i .i64) 8 0 σ, lvT (.i .i64) 10 0 σ, lvT (.i .i64) 65 0 σ, lvT (.i .i64) 66 0 σ, lvT .bo 67 0 σ, lvT (.i .i64) 11 0 σ, lvT (.i .i64) 12 0 σ, lvT (.i .i64) 70 0 σ, lvT (.sl (.i .i64)) 72 0 σ, lvT (.i .i64) 73 0 σ, lvT .bo 74 0 σ, lvH (.i .i64) 0 0 σ, lvH (.sl (.i .i64)) 0 1 σ)
def w5w1 : List (Exit × Nm) := [((.exit 4), ⟨[2, 3, 4, 6, 8, 10, 65, 66, 67, 11, 12, 70, 71, 72, 73, 74], [], []⟩)]
theorem w5o1 : Outs w5v1_0 (fun _ => ()) (fun _ => ()) w5X1_0 (noX 1) (noX 2) (.exit 4) (.goto 1) (.goto 2) := ⟨fun _ => by kernel_rfl, fun _ => by kernel_rfl, fun _ => by kernel_rfl, fun _ => by kernel_rfl, fun _ => by kernel_rfl, fun _ => by kernel_rfl, exNe_ok (by kernel_rfl), exNe_ok (by kernel_rfl), exNe_ok (by kernel_rfl)⟩
def w5l1 [Alg] (N : Nat) : Nat → (Bool × (List (List UInt8)) × (List Int) × Int × Int × Int × Int × Bool × Int × Int × Int × (List Int)) → ((Bool × (List (List UInt8)) × (List Int) × Int × Int × Int × Int × Bool × Int × Int × Int × (List Int) × Int × Bool × Int × (List Int)) → O) → ((Unit) → O) → ((Unit) → O) → O
  | 0, _, _, _, _ => none
  | n + 1, x, k0, k1, k2 => w5F1 N  (fun v0 v1 => w5l1 N n (x.1, x.2.1, x.2.2.1, x.2.2.2.1, x.2.2.2.2.1, x.2.2.2.2.2.1, x.2.2.2.2.2.2.1, x.2.2.2.2.2.2.2.1, v0, v1, x.2.2.2.2.2.2.2.2.2.2.1, x.2.2.2.2.2.2.2.2.2.2.2) k0 k1 k2) (fun y0 y1 y2 y3 y4 y5 y6 y7 y8 y9 y10 y11 y12 y13 y14 y15 => k0 (y0, y1, y2, y3, y4, y5, y6, y7, y8, y9, y10, y11, y12, y13, y14, y15)) x.1 x.2.1 x.2.2.1 x.2.2.2.1 x.2.2.2.2.1 x.2.2.2.2.2.1 x.2.2.2.2.2.2.1 x.2.2.2.2.2.2.2.1 x.2.2.2.2.2.2.2.2.2.2.1 x.2.2.2.2.2.2.2.2.2.2.2 x.2.2.2.2.2.2.2.2.1 x.2.2.2.2.2.2.2.2.2.1
def w5n1 [Alg] (N : Nat) (a0 : Bool) (a1 : (List (List UInt8))) (a2 : (List Int)) (a3 : Int) (a4 : Int) (a5 : Int) (a6 : Int) (a7 : Bool) (a8 : Int) (a9 : Int) (a10 : Int) (a11 : (List Int)) (k0 : Bool → (List (List UInt8)) → (List Int) → Int → Int → Int → Int → Bool → Int → Int → Int → (List Int) → Int → Bool → Int → (List Int) → O) : O := w5l1 N N (a0, a1, a2, a3, a4, a5, a6, a7, a8, a9, a10, a11) (fun y => k0 y.1 y.2.1 y.2.2.1 y.2.2.2.1 y.2.2.2.2.1 y.2.2.2.2.2.1 y.2.2.2.2.2.2.1 y.2.2.2.2.2.2.2.1 y.2.2.2.2.2.2.2.2.1 y.2.2.2.2.2.2.2.2.2.1 y.2.2.2.2.2.2.2.2.2.2.1 y.2.2.2.2.2.2.2.2.2.2.2.1 y.2.2.2.2.2.2.2.2.2.2.2.2.1 y.2.2.2.2.2.2.2.2.2.2.2.2.2.1 y.2.2.2.2.2.2.2.2.2.2.2.2.2.2.1 y.2.2.2.2.2.2.2.2.2.2.2.2.2.2.2) (fun _ => none) (fun _ => none)
noncomputable def w5s1 [Alg] (N : Nat) (a0 : Bool) (a1 : (List (List UInt8))) (a2 : (List Int)) (a3 : Int) (a4 : Int) (a5 : Int) (a6 : Int) (a7 : Bool) (a8 : Int) (a9 : Int) (a10 : Int) (a11 : (List Int)) (k0 : Bool → (List (List UInt8)) → (List Int) → Int → Int → Int → Int → Bool → Int → Int → Int → (List Int) → Int → Bool → Int → (List Int) → O) : O := subL w5I1 w5u1 (w5l1 N N) (w5I1 (a0, a1, a2, a3, a4, a5, a6, a7, a8, a9, a10, a11)) (fun y => k0 y.1 y.2.1 y.2.2.1 y.2.2.2.1 y.2.2.2.2.1 y.2.2.2.2.2.1 y.2.2.2.2.2.2.1 y.2.2.2.2.2.2.2.1 y.2.2.2.2.2.2.2.2.1 y.2.2.2.2.2.2.2.2.2.1 y.2.2.2.2.2.2.2.2.2.2.1 y.2.2.2.2.2.2.2.2.2.2.2.1 y.2.2.2.2.2.2.2.2.2.2.2.2.1 y.2.2.2.2.2.2.2.2.2.2.2.2.2.1 y.2.2.2.2.2.2.2.2.2.2.2.2.2.2.1 y.2.2.2.2.2.2.2.2.2.2.2.2.2.2.2) (fun _ => none) (fun _ => none)
theorem w5e1 [Alg] (N : Nat) : w5s1 N = w5n1 N := funext fun _ => funext fun _ => funext fun _ => funext fun _ => funext fun _ => funext fun _ => funext fun _ => funext fun _ => funext fun _ => funext fun _ => funext fun _ => funext fun _ => funext fun _ => subL_I w5ui1 _ _ _ _
noncomputable def w5h1 [Alg] (_ : Nat) : Hint := .d
theorem w5hk1 (N : Nat) : HintOk (w5c N) Tryd.f5.ntmps (w5h1 N) w5b1 := hk_of _ _ trivial
theorem w5q1 [Alg] (N : Nat) (self : Sg → O) (K : Exit → Sg → O) (x : Bool × (List (List UInt8)) × (List Int) × Int × Int × Int × Int × Bool × Int × Int × Int × (List Int)) : w5F1 N  (fun v0 v1 => self (w5I1 (x.1, x.2.1, x.2.2.1, x.2.2.2.1, x.2.2.2.2.1, x.2.2.2.2.2.1, x.2.2.2.2.2.2.1, x.2.2.2.2.2.2.2.1, v0, v1, x.2.2.2.2.2.2.2.2.2.2.1, x.2.2.2.2.2.2.2.2.2.2.2))) (fun y0 y1 y2 y3 y4 y5 y6 y7 y8 y9 y10 y11 y12 y13 y14 y15 => K (w5X1_0 (y0, y1, y2, y3, y4, y5, y6, y7, y8, y9, y10, y11, y12, y13, y14, y15)).1 (w5X1_0 (y0, y1, y2, y3, y4, y5, y6, y7, y8, y9, y10, y11, y12, y13, y14, y15)).2) x.1 x.2.1 x.2.2.1 x.2.2.2.1 x.2.2.2.2.1 x.2.2.2.2.2.1 x.2.2.2.2.2.2.1 x.2.2.2.2.2.2.2.1 x.2.2.2.2.2.2.2.2.2.2.1 x.2.2.2.2.2.2.2.2.2.2.2 x.2.2.2.2.2.2.2.2.1 x.2.2.2.2.2.2.2.2.2.1 = exec (w5c N) Tryd.f5.ntmps (w5h1 N) w5b1 (w5I1 x) (roundX w5m1 w5w1 self K) := by kernel_rfl
theorem w5S1 (N : Nat) (hc : CxOk (w5c N)) : SubOk (w5c N) Tryd.f5.ntmps (.loop w5b1) w5X1_0 (noX 1) (noX 2) (subL w5I1 w5u1 (w5l1 N N)) :=
  sub_loop hc (w5hk1 N) w5o1 (n := N) (fun x K => loop_ind (w5l1 N) (fun _ _ _ _ => rfl) (fun n K ih x => by
    have h : w5F1 N  (fun v0 v1 => w5l1 N n (x.1, x.2.1, x.2.2.1, x.2.2.2.1, x.2.2.2.2.1, x.2.2.2.2.2.1, x.2.2.2.2.2.2.1, x.2.2.2.2.2.2.2.1, v0, v1, x.2.2.2.2.2.2.2.2.2.2.1, x.2.2.2.2.2.2.2.2.2.2.2) (fun y => K (w5X1_0 y).1 (w5X1_0 y).2) (fun y => K ((noX 1) y).1 ((noX 1) y).2) (fun y => K ((noX 2) y).1 ((noX 2) y).2)) (fun y0 y1 y2 y3 y4 y5 y6 y7 y8 y9 y10 y11 y12 y13 y14 y15 => K (w5X1_0 (y0, y1, y2, y3, y4, y5, y6, y7, y8, y9, y10, y11, y12, y13, y14, y15)).1 (w5X1_0 (y0, y1, y2, y3, y4, y5, y6, y7, y8, y9, y10, y11, y12, y13, y14, y15)).2) x.1 x.2.1 x.2.2.1 x.2.2.2.1 x.2.2.2.2.1 x.2.2.2.2.2.1 x.2.2.2.2.2.2.1 x.2.2.2.2.2.2.2.1 x.2.2.2.2.2.2.2.2.2.2.1 x.2.2.2.2.2.2.2.2.2.2.2 x.2.2.2.2.2.2.2.2.1 x.2.2.2.2.2.2.2.2.2.1 = w5F1 N  (fun v0 v1 => loopX (w5c N) Tryd.f5.ntmps (w5h1 N) w5b1 w5m1 w5w1 n (w5I1 (x.1, x.2.1, x.2.2.1, x.2.2.2.1, x.2.2.2.2.1, x.2.2.2.2.2.1, x.2.2.2.2.2.2.1, x.2.2.2.2.2.2.2.1, v0, v1, x.2.2.2.2.2.2.2.2.2.2.1, x.2.2.2.2.2.2.2.2.2.2.2)) K) (fun y0 y1 y2 y3 y4 y5 y6 y7 y8 y9 y10 y11 y12 y13 y14 y15 => K (w5X1_0 (y0, y1, y2, y3, y4, y5, y6, y7, y8, y9, y10, y11, y12, y13, y14, y15)).1 (w5X1_0 (y0, y1, y2, y3, y4, y5, y6, y7, y8, y9, y10, y11, y12, y13, y14, y15)).2) x.1 x.2.1 x.2.2.1 x.2.2.2.1 x.2.2.2.2.1 x.2.2.2.2.2.1 x.2.2.2.2.2.2.1 x.2.2.2.2.2.2.2.1 x.2.2.2.2.2.2.2.2.2.2.1 x.2.2.2.2.2.2.2.2.2.2.2 x.2.2.2.2.2.2.2.2.1 x.2.2.2.2.2.2.2.2.2.1 := by rw [ show (fun v0 v1 => w5l1 N n (x.1, x.2.1, x.2.2.1, x.2.2.2.1, x.2.2.2.2.1, x.2.2.2.2.2.1, x.2.2.2.2.2.2.1, x.2.2.2.2.2.2.2.1, v0, v1, x.2.2.2.2.2.2.2.2.2.2.1, x.2.2.2.2.2.2.2.2.2.2.2) (fun y => K (w5X1_0 y).1 (w5X1_0 y).2) (fun y => K ((noX 1) y).1 ((noX 1) y).2) (fun y => K ((noX 2) y).1 ((noX 2) y).2)) = (fun v0 v1 => loopX (w5c N) Tryd.f5.ntmps (w5h1 N) w5b1 w5m1 w5w1 n (w5I1 (x.1, x.2.1, x.2.2.1, x.2.2.2.1, x.2.2.2.2.1, x.2.2.2.2.2.1, x.2.2.2.2.2.2.1, x.2.2.2.2.2.2.2.1, v0, v1, x.2.2.2.2.2.2.2.2.2.2.1, x.2.2.2.2.2.2.2.2.2.2.2)) K) from funext fun _ => funext fun _ => ih _]
    exact h.trans (w5q1 N (fun σ => loopX (w5c N) Tryd.f5.ntmps (w5h1 N) w5b1 w5m1 w5w1 n σ K) K x)) N x K)
def w5F2 [Alg] (N : Nat) (in1 : Bool → (List (List UInt8)) → (List Int) → Int → Int → Int → Int → Bool → Int → Int → Int → (List Int) → (Bool → (List (List UInt8)) → (List Int) → Int → Int → Int → Int → Bool → Int → Int → Int → (List Int) → Int → Bool → Int → (List Int) → O) → O) (self : Bool → (List (List UInt8)) → (List Int) → Int → Int → Int → (List Int) → O) (k0 : Bool → O) (k1 : Bool → O) (x12_0 : Bool) (x12_1 : (List (List UInt8))) (x12_2 : (List Int)) (x12_3 : Int) (x12_4 : Int) (x12_5 : Int) (x12_6 : (List Int)) : O :=
  br (decide (x12_4 < x12_3))
    (in1 x12_0 x12_1 x12_2 x12_3 x12_4 x12_4 x12_3 (decide (x12_4 < x12_3)) ((0 : Int)) ((0 : Int)) x12_5 x12_6
      (fun z80 z81 z82 z83 z84 _ _ _ z88 _ _ _ _ _ z94 z95 =>
        ck true <|
        gx z81 (IntKind.i64.wrap ((↑z81.length : Int) - (1 : Int))) fun y96 =>
        gx y96 z84 fun y97 =>
        ck (w24p N y97) <|
        br (decide (z88.tmod (10 : Int) ≠ w24y0 N y97))
          (k0 false)
          (br (decide ((0 : Int) < IntKind.i64.wrap (IntKind.i64.wrap (z83 - (1 : Int)) - z84)) && decide (IntKind.i64.wrap (IntKind.i64.wrap (IntKind.i64.wrap (z83 - (1 : Int)) - z84) - (1 : Int)) < (↑z82.length : Int)))
            (gx z82 (IntKind.i64.wrap (IntKind.i64.wrap (IntKind.i64.wrap (z83 - (1 : Int)) - z84) - (1 : Int))) fun y98 =>
            gx z81 ((0 : Int)) fun y99 =>
            gx y99 z84 fun y100 =>
            ck (w24p N y100) <|
            br (decide (w24y0 N y100 ≠ y98))
              (k0 false)
              (self z80 z81 z82 z83 (IntKind.i64.wrap (z84 + (1 : Int))) z94 z95))
            (gx z81 ((0 : Int)) fun y101 =>
            gx y101 z84 fun y102 =>
            ck (w24p N y102) <|
            br (decide (w24y0 N y102 ≠ (0 : Int)))
              (k0 false)
              (self z80 z81 z82 z83 (IntKind.i64.wrap (z84 + (1 : Int))) z94 z95)))))
    (k1 x12_0)
noncomputable def w5b2 : Code := atC [1, 1, 1, 1, 1, 1, 1, 0, 1, 0, 0] w5b
def w5m2 : Nm := ⟨[2, 3, 4, 6, 8, 10], [], []⟩
def w5I2 (x : Bool × (List (List UInt8)) × (List Int) × Int × Int × Int × (List Int)) : Sg := ⟨[(2, .e .bo x.1), (3, .ref 0 0), (4, .e (.sl (.sl .u8)) x.2.1), (6, .e (.sl (.i .i64)) x.2.2.1), (8, .e (.i .i64) x.2.2.2.1), (10, .e (.i .i64) x.2.2.2.2.1)], [(0, .box 24 [.e (.i .i64) x.2.2.2.2.2.1, .e (.sl (.i .i64)) x.2.2.2.2.2.2])], 100⟩
def w5u2 (σ : Sg) : Bool × (List (List UInt8)) × (List Int) × Int × Int × Int × (List Int) := (lvT .bo 2 0 σ, lvT (.sl (.sl .u8)) 4 0 σ, lvT (.sl (.i .i64)) 6 0 σ, lvT (.i .i64) 8 0 σ, lvT (.i .i64) 10 0 σ, lvH (.i .i64) 0 0 σ, lvH (.sl (.i .i64)) 0 1 σ)
theorem w5ui2 : ∀ x, w5u2 (w5I2 x) = x := fun _ => by kernel_rfl
def w5X2_0 (y : Bool) : Exit × Sg := (.ret, ⟨[(2, .e .bo y)], [], 100⟩)
def w5v2_0 (σ : Sg) : Bool := lvT .bo 2 0 σ
def w5X2_1 (y : Bool) : Exit × Sg := ((.exit 2), ⟨[(2, .e .bo y)], [], 100⟩)
def w5v2_1 (σ : Sg) : Bool := lvT .bo 2 0 σ
def w5w2 : List (Exit × Nm) := [(.ret, ⟨[2], [], []⟩), ((.exit 2), ⟨[2], [], []⟩)]
theorem w5o2 : Outs w5v2_0 w5v2_1 (fun _ => ()) w5X2_0 w5X2_1 (noX 2) .ret (.exit 2) (.goto 2) := ⟨fun _ => by kernel_rfl, fun _ => by kernel_rfl, fun _ => by kernel_rfl, fun _ => by kernel_rfl, fun _ => by kernel_rfl, fun _ => by kernel_rfl, exNe_ok (by kernel_rfl), exNe_ok (by kernel_rfl), exNe_ok (by kernel_rfl)⟩
def w5l2 [Alg] (N : Nat) : Nat → (Bool × (List (List UInt8)) × (List Int) × Int × Int × Int × (List Int)) → ((Bool) → O) → ((Bool) → O) → ((Unit) → O) → O
  | 0, _, _, _, _ => none
  | n + 1, x, k0, k1, k2 => w5F2 N (w5n1 N) (fun v0 v1 v2 v3 v4 v5 v6 => w5l2 N n (v0, v1, v2, v3, v4, v5, v6) k0 k1 k2) (fun y0 => k0 y0) (fun y0 => k1 y0) x.1 x.2.1 x.2.2.1 x.2.2.2.1 x.2.2.2.2.1 x.2.2.2.2.2.1 x.2.2.2.2.2.2
def w5n2 [Alg] (N : Nat) (a0 : Bool) (a1 : (List (List UInt8))) (a2 : (List Int)) (a3 : Int) (a4 : Int) (a5 : Int) (a6 : (List Int)) (k0 : Bool → O) (k1 : Bool → O) : O := w5l2 N N (a0, a1, a2, a3, a4, a5, a6) (fun y => k0 y) (fun y => k1 y) (fun _ => none)
noncomputable def w5s2 [Alg] (N : Nat) (a0 : Bool) (a1 : (List (List UInt8))) (a2 : (List Int)) (a3 : Int) (a4 : Int) (a5 : Int) (a6 : (List Int)) (k0 : Bool → O) (k1 : Bool → O) : O := subL w5I2 w5u2 (w5l2 N N) (w5I2 (a0, a1, a2, a3, a4, a5, a6)) (fun y => k0 y) (fun y => k1 y) (fun _ => none)
theorem w5e2 [Alg] (N : Nat) : w5s2 N = w5n2 N := funext fun _ => funext fun _ => funext fun _ => funext fun _ => funext fun _ => funext fun _ => funext fun _ => funext fun _ => funext fun _ => subL_I w5ui2 _ _ _ _
noncomputable def w5h2 [Alg] (N : Nat) : Hint := (.seq .d (.seq (.block (.seq .d (.seq (.seq .d (.block (.sub w5m1 _ _ _ w5X1_0 (noX 1) (noX 2) (subL w5I1 w5u1 (w5l1 N N))))) .d))) .d))
theorem w5hk2 (N : Nat) (hc : CxOk (w5c N)) : HintOk (w5c N) Tryd.f5.ntmps (w5h2 N) w5b2 := hk_of _ _ (And.intro trivial (And.intro (And.intro trivial (And.intro (And.intro trivial (w5S1 N hc)) trivial)) trivial))
theorem w5q2 [Alg] (N : Nat) (self : Sg → O) (K : Exit → Sg → O) (x : Bool × (List (List UInt8)) × (List Int) × Int × Int × Int × (List Int)) : w5F2 N (w5s1 N) (fun v0 v1 v2 v3 v4 v5 v6 => self (w5I2 (v0, v1, v2, v3, v4, v5, v6))) (fun y0 => K (w5X2_0 y0).1 (w5X2_0 y0).2) (fun y0 => K (w5X2_1 y0).1 (w5X2_1 y0).2) x.1 x.2.1 x.2.2.1 x.2.2.2.1 x.2.2.2.2.1 x.2.2.2.2.2.1 x.2.2.2.2.2.2 = exec (w5c N) Tryd.f5.ntmps (w5h2 N) w5b2 (w5I2 x) (roundX w5m2 w5w2 self K) := by kernel_rfl
theorem w5S2 (N : Nat) (hc : CxOk (w5c N)) : SubOk (w5c N) Tryd.f5.ntmps (.loop w5b2) w5X2_0 w5X2_1 (noX 2) (subL w5I2 w5u2 (w5l2 N N)) :=
  sub_loop hc (w5hk2 N hc) w5o2 (n := N) (fun x K => loop_ind (w5l2 N) (fun _ _ _ _ => rfl) (fun n K ih x => by
    have h : w5F2 N (w5n1 N) (fun v0 v1 v2 v3 v4 v5 v6 => w5l2 N n (v0, v1, v2, v3, v4, v5, v6) (fun y => K (w5X2_0 y).1 (w5X2_0 y).2) (fun y => K (w5X2_1 y).1 (w5X2_1 y).2) (fun y => K ((noX 2) y).1 ((noX 2) y).2)) (fun y0 => K (w5X2_0 y0).1 (w5X2_0 y0).2) (fun y0 => K (w5X2_1 y0).1 (w5X2_1 y0).2) x.1 x.2.1 x.2.2.1 x.2.2.2.1 x.2.2.2.2.1 x.2.2.2.2.2.1 x.2.2.2.2.2.2 = w5F2 N (w5s1 N) (fun v0 v1 v2 v3 v4 v5 v6 => loopX (w5c N) Tryd.f5.ntmps (w5h2 N) w5b2 w5m2 w5w2 n (w5I2 (v0, v1, v2, v3, v4, v5, v6)) K) (fun y0 => K (w5X2_0 y0).1 (w5X2_0 y0).2) (fun y0 => K (w5X2_1 y0).1 (w5X2_1 y0).2) x.1 x.2.1 x.2.2.1 x.2.2.2.1 x.2.2.2.2.1 x.2.2.2.2.2.1 x.2.2.2.2.2.2 := by rw [w5e1 N, show (fun v0 v1 v2 v3 v4 v5 v6 => w5l2 N n (v0, v1, v2, v3, v4, v5, v6) (fun y => K (w5X2_0 y).1 (w5X2_0 y).2) (fun y => K (w5X2_1 y).1 (w5X2_1 y).2) (fun y => K ((noX 2) y).1 ((noX 2) y).2)) = (fun v0 v1 v2 v3 v4 v5 v6 => loopX (w5c N) Tryd.f5.ntmps (w5h2 N) w5b2 w5m2 w5w2 n (w5I2 (v0, v1, v2, v3, v4, v5, v6)) K) from funext fun _ => funext fun _ => funext fun _ => funext fun _ => funext fun _ => funext fun _ => funext fun _ => ih _]
    exact h.trans (w5q2 N (fun σ => loopX (w5c N) Tryd.f5.ntmps (w5h2 N) w5b2 w5m2 w5w2 n σ K) K x)) N x K)
def w5G [Alg] (N : Nat) (in0 : Bool → (List (List UInt8)) → (List Int) → Int → Int → Int → (List Int) → (Bool → O) → (Bool → (List (List UInt8)) → (List Int) → Int → Int → (List Int) → O) → O) (_in1 : Bool → (List (List UInt8)) → (List Int) → Int → Int → Int → Int → Bool → Int → Int → Int → (List Int) → (Bool → (List (List UInt8)) → (List Int) → Int → Int → Int → Int → Bool → Int → Int → Int → (List Int) → Int → Bool → Int → (List Int) → O) → O) (in2 : Bool → (List (List UInt8)) → (List Int) → Int → Int → Int → (List Int) → (Bool → O) → (Bool → O) → O) (l0 : (List Int)) : O :=
  ck (lim ([(0 : Int)] ++ l0).length (8 : Nat)) <|
  ck (w10p N ([(0 : Int)] ++ l0)) <|
  ck (w21p N (w10y0 N ([(0 : Int)] ++ l0)) (w10y1 N ([(0 : Int)] ++ l0))) <|
  ck (w15p N (w10y0 N ([(0 : Int)] ++ l0)) (w10y1 N ([(0 : Int)] ++ l0))) <|
  br (decide (w21y1 N (w10y0 N ([(0 : Int)] ++ l0)) (w10y1 N ([(0 : Int)] ++ l0)) ≠ (0 : Int)) || decide (w15y1 N (w10y0 N ([(0 : Int)] ++ l0)) (w10y1 N ([(0 : Int)] ++ l0)) ≠ (0 : Int)) || decide ((↑(w21y0 N (w10y0 N ([(0 : Int)] ++ l0)) (w10y1 N ([(0 : Int)] ++ l0))).length : Int) ≠ IntKind.i64.wrap ((↑(w10y1 N ([(0 : Int)] ++ l0)).length : Int) + (3 : Int))))
    (some (w5r0 false))
    (gx (w21y0 N (w10y0 N ([(0 : Int)] ++ l0)) (w10y1 N ([(0 : Int)] ++ l0))) ((0 : Int)) fun y0 =>
    in0 false (w21y0 N (w10y0 N ([(0 : Int)] ++ l0)) (w10y1 N ([(0 : Int)] ++ l0))) (w15y0 N (w10y0 N ([(0 : Int)] ++ l0)) (w10y1 N ([(0 : Int)] ++ l0))) ((↑y0.length : Int)) ((0 : Int)) (w10y0 N ([(0 : Int)] ++ l0)) (w10y1 N ([(0 : Int)] ++ l0))
      (fun z5 =>
        some (w5r0 z5))
      (fun z6 z7 z8 z9 z10 z11 =>
        in2 z6 z7 z8 z9 ((1 : Int)) z10 z11
          (fun z103 =>
            some (w5r0 z103))
          (fun _ =>
            ck true <|
            some (w5r0 true))))
def w5 [Alg] (N : Nat) (l0 : (List Int)) : O := w5G N (w5n0 N) (w5n1 N) (w5n2 N) l0
noncomputable def w5h [Alg] (N : Nat) : Hint := (.seq .d (.seq .d (.seq .d (.seq .d (.seq .d (.seq .d (.seq (.seq .d (.block (.sub w5m0 _ _ _ w5X0_0 w5X0_1 (noX 2) (subL w5I0 w5u0 (w5l0 N N))))) (.seq (.seq .d (.block (.sub w5m2 _ _ _ w5X2_0 w5X2_1 (noX 2) (subL w5I2 w5u2 (w5l2 N N))))) .d))))))))
theorem w5hk (N : Nat) (hc : CxOk (w5c N)) : HintOk (w5c N) Tryd.f5.ntmps (w5h N) w5b := hk_of _ _ (And.intro trivial (And.intro trivial (And.intro trivial (And.intro trivial (And.intro trivial (And.intro trivial (And.intro (And.intro trivial (w5S0 N hc)) (And.intro (And.intro trivial (w5S2 N hc)) trivial))))))))
theorem w5q [Alg] (N : Nat) (l0 : (List Int)) : w5G N (w5s0 N) (w5s1 N) (w5s2 N) l0 = exec (w5c N) Tryd.f5.ntmps (w5h N) w5b ⟨argT 0 [.e (.sl (.i .i64)) l0], [], 100⟩ (finX (w5c N) Tryd.f5 false) := by kernel_rfl
theorem w5does {N : Nat} (hc : CxOk (w5c N)) {l0 : (List Int)} {r : Res} (h : w5 N l0 = some r) : Does Tryd.prog 5 (([.e (.sl (.i .i64)) l0] : List X).map X.D) (HA []) r.1.D (HA r.2) :=
  fun_ok hc (f := 5) (fn := Tryd.f5) (code := w5b) (by kernel_rfl) (by kernel_rfl) (w5hk N hc) (Nat.le_of_ble_eq_true (by kernel_rfl)) (ow := false) ((w5q N l0).symm.trans (by rw [w5e0 N, w5e1 N, w5e2 N]; exact h))
def w5un (r : Res) : Option (Bool) := match r with
  | (x0, []) => (match ue .bo x0 with | some a0 => some a0 | _ => none)
  | _ => none
theorem w5uo {r : Res} {d : Bool} (h : w5un r = some d) : r = w5r0 (d) := by
  unfold w5un at h
  split at h
  · split at h
    · rename_i h0; cases h; rw [ue_some h0]; rfl
    · cases h
  · cases h
def w5z (N : Nat) (l0 : (List Int)) : Option (Bool) := (w5 N l0).bind w5un
theorem w5fin {N : Nat} (hc : CxOk (w5c N)) {l0 : (List Int)} {d : Bool} (hd : w5z N l0 = some d) : Does Tryd.prog 5 (([.e (.sl (.i .i64)) l0] : List X).map X.D) (HA []) (w5r0 (d)).1.D (HA (w5r0 (d)).2) := by
  obtain ⟨r, hr, hu⟩ := Option.bind_eq_some_iff.1 hd
  have := w5does hc hr
  rw [w5uo hu] at this
  exact this
end
end Go.Proofs
