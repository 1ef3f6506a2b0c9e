/- What functions do; the examples hold. Conditions are in the theorems. -/
import Derived.Test.YtpmhkjnnolpknaaDoorF2
import Derived.Test.YtpmhkjnnolpknaaDoorE7
import Derived.Test.YtpmhkjnnolpknaaDoorF0
import Derived.Test.YtpmhkjnnolpknaaDoorProg
import Derived.KernelRfl
/- The examples hold. -/
namespace Go.Proofs
open Go Go.Ax
theorem lives60 : w20z 60 = some true := by kernel_rfl
theorem l20ok (N : Nat) : EOk Tryd.prog 20 (l20e N) := EOk.e0 (fun _ => w20fin (w20cx 60) lives60)
end Go.Proofs
/- What functions do. -/
namespace Go.Proofs
noncomputable section
open Go.Ax Go.Ax.Alg Go.RowKit Go.Ab
open Go
def w3r0 (a0 : Bool) : Res := (.e .bo a0, [])
noncomputable def w3L (N : Nat) : List (Nat × Ent') := [(10, w10e N), (11, w11e N), (12, w12e N), (13, w13e N), (14, w14e N), (15, w15e N), (16, w16e N), (17, w17e N), (18, w18e N), (19, w19e N), (20, l20e N)]
noncomputable def w3c (N : Nat) : Cx := ⟨Tryd.prog, 99999, w3L N⟩
noncomputable def w3b : Code := Tryd.f3.body.getD .skip
theorem w3cx (N : Nat) : CxOk (w3c N) := ctx_ok (by kernel_rfl) (.cons (by kernel_rfl) (w10ok N) (.cons (by kernel_rfl) (w11ok N) (.cons (by kernel_rfl) (w12ok N) (.cons (by kernel_rfl) (w13ok N) (.cons (by kernel_rfl) (w14ok N) (.cons (by kernel_rfl) (w15ok N) (.cons (by kernel_rfl) (w16ok N) (.cons (by kernel_rfl) (w17ok N) (.cons (by kernel_rfl) (w18ok N) (.cons (by kernel_rfl) (w19ok N) (.cons (by kernel_rfl) (l20ok N) .nil)))))))))))
def w3F0 [Alg] (N : Nat)   (k0 : Bool → Int → (List Int) → (List (Int × (List Int))) → O) (x0_0 : Int) (x0_1 : Int) (x0_2 : Bool) (x0_3 : Int) (x0_4 : (List Int)) (x0_5 : Int) (x0_6 : (List Int)) (x0_7 : (List (Int × (List Int)))) : O :=
  br (decide ((0 : Int) < (↑x0_6.length : Int)))
    (ck true <|
    ck true <|
    ck (w11p N x0_5 x0_6 (IntKind.i64.wrap (x0_0.tdiv (6 : Int))) (IntKind.i64.wrap (x0_1.tdiv (3 : Int)))) <|
    ck (lim (x0_7 ++ [(w11y0 N x0_5 x0_6 (IntKind.i64.wrap (x0_0.tdiv (6 : Int))) (IntKind.i64.wrap (x0_1.tdiv (3 : Int))), w11y1 N x0_5 x0_6 (IntKind.i64.wrap (x0_0.tdiv (6 : Int))) (IntKind.i64.wrap (x0_1.tdiv (3 : Int))))]).length (32 : Nat)) <|
    k0 x0_2 x0_3 x0_4 (x0_7 ++ [(w11y0 N x0_5 x0_6 (IntKind.i64.wrap (x0_0.tdiv (6 : Int))) (IntKind.i64.wrap (x0_1.tdiv (3 : Int))), w11y1 N x0_5 x0_6 (IntKind.i64.wrap (x0_0.tdiv (6 : Int))) (IntKind.i64.wrap (x0_1.tdiv (3 : Int))))]))
    (k0 x0_2 x0_3 x0_4 x0_7)
noncomputable def w3b0 : Code := atC [1, 1, 1, 1, 1, 0] w3b
def w3m0 : Nm := ⟨[1, 2, 8, 9, 10, 11], [], []⟩
def w3I0 (x : Int × Int × Bool × Int × (List Int) × Int × (List Int) × (List (Int × (List Int)))) : Sg := ⟨[(1, .e (.i .i64) x.1), (2, .e (.i .i64) x.2.1), (8, .e .bo x.2.2.1), (9, .ref 0 0), (10, .ref 1 0), (11, .own 2)], [(0, .box 24 [.e (.i .i64) x.2.2.2.1, .e (.sl (.i .i64)) x.2.2.2.2.1]), (1, .box 24 [.e (.i .i64) x.2.2.2.2.2.1, .e (.sl (.i .i64)) x.2.2.2.2.2.2.1]), (2, .row 24 (.pr (.i .i64) (.sl (.i .i64))) x.2.2.2.2.2.2.2 true)], 100⟩
def w3u0 (σ : Sg) : Int × Int × Bool × Int × (List Int) × Int × (List Int) × (List (Int × (List Int))) := (lvT (.i .i64) 1 0 σ, lvT (.i .i64) 2 0 σ, lvT .bo 8 0 σ, lvH (.i .i64) 0 0 σ, lvH (.sl (.i .i64)) 0 1 σ, lvH (.i .i64) 1 0 σ, lvH (.sl (.i .i64)) 1 1 σ, lvR (.pr (.i .i64) (.sl (.i .i64))) 2 σ)
theorem w3ui0 : ∀ x, w3u0 (w3I0 x) = x := fun _ => by kernel_rfl
def w3X0_0 (y : Bool × Int × (List Int) × (List (Int × (List Int)))) : Exit × Sg := (.normal, ⟨[(8, .e .bo y.1), (9, .ref 0 0), (11, .own 1)], [(0, .box 24 [.e (.i .i64) y.2.1, .e (.sl (.i .i64)) y.2.2.1]), (1, .row 24 (.pr (.i .i64) (.sl (.i .i64))) y.2.2.2 true)], 100⟩)
def w3v0_0 (σ : Sg) : Bool × Int × (List Int) × (List (Int × (List Int))) := (lvT .bo 8 0 σ, lvH (.i .i64) 0 0 σ, lvH (.sl (.i .i64)) 0 1 σ, lvR (.pr (.i .i64) (.sl (.i .i64))) 1 σ)
def w3w0 : List (Exit × Nm) := [(.normal, ⟨[8, 9, 11], [], []⟩)]
theorem w3o0 : Outs w3v0_0 (fun _ => ()) (fun _ => ()) w3X0_0 (noX 1) (noX 2) .normal (.goto 1) (.goto 2) := ⟨fun _ => by kernel_rfl, fun _ => by kernel_rfl, fun _ => by kernel_rfl, fun _ => by kernel_rfl, fun _ => by kernel_rfl, fun _ => by kernel_rfl, exNe_ok (by kernel_rfl), exNe_ok (by kernel_rfl), exNe_ok (by kernel_rfl)⟩
def w3l0 [Alg] (N : Nat) (_ : Nat) (x : Int × Int × Bool × Int × (List Int) × Int × (List Int) × (List (Int × (List Int)))) (k0 : (Bool × Int × (List Int) × (List (Int × (List Int)))) → O) (_ : (Unit) → O) (_ : (Unit) → O) : O := w3F0 N   (fun y0 y1 y2 y3 => k0 (y0, y1, y2, y3)) x.1 x.2.1 x.2.2.1 x.2.2.2.1 x.2.2.2.2.1 x.2.2.2.2.2.1 x.2.2.2.2.2.2.1 x.2.2.2.2.2.2.2
def w3n0 [Alg] (N : Nat) (a0 : Int) (a1 : Int) (a2 : Bool) (a3 : Int) (a4 : (List Int)) (a5 : Int) (a6 : (List Int)) (a7 : (List (Int × (List Int)))) (k0 : Bool → Int → (List Int) → (List (Int × (List Int))) → O) : O := w3l0 N N (a0, a1, a2, a3, a4, a5, a6, a7) (fun y => k0 y.1 y.2.1 y.2.2.1 y.2.2.2) (fun _ => none) (fun _ => none)
noncomputable def w3s0 [Alg] (N : Nat) (a0 : Int) (a1 : Int) (a2 : Bool) (a3 : Int) (a4 : (List Int)) (a5 : Int) (a6 : (List Int)) (a7 : (List (Int × (List Int)))) (k0 : Bool → Int → (List Int) → (List (Int × (List Int))) → O) : O := subL w3I0 w3u0 (w3l0 N N) (w3I0 (a0, a1, a2, a3, a4, a5, a6, a7)) (fun y => k0 y.1 y.2.1 y.2.2.1 y.2.2.2) (fun _ => none) (fun _ => none)
theorem w3e0 [Alg] (N : Nat) : w3s0 N = w3n0 N := funext fun _ => funext fun _ => funext fun _ => funext fun _ => funext fun _ => funext fun _ => funext fun _ => funext fun _ => funext fun _ => subL_I w3ui0 _ _ _ _
noncomputable def w3h0 [Alg] (_ : Nat) : Hint := .d
theorem w3hk0 (N : Nat) : HintOk (w3c N) Tryd.f3.ntmps (w3h0 N) w3b0 := hk_of _ _ trivial
theorem w3q0 [Alg] (N : Nat) (K : Exit → Sg → O) (x : Int × Int × Bool × Int × (List Int) × Int × (List Int) × (List (Int × (List Int)))) : w3F0 N   (fun y0 y1 y2 y3 => K (w3X0_0 (y0, y1, y2, y3)).1 (w3X0_0 (y0, y1, y2, y3)).2) x.1 x.2.1 x.2.2.1 x.2.2.2.1 x.2.2.2.2.1 x.2.2.2.2.2.1 x.2.2.2.2.2.2.1 x.2.2.2.2.2.2.2 = exec (w3c N) Tryd.f3.ntmps (w3h0 N) w3b0 (w3I0 x) (partX w3w0 K) := by kernel_rfl
theorem w3S0 (N : Nat) (hc : CxOk (w3c N)) : SubOk (w3c N) Tryd.f3.ntmps w3b0 w3X0_0 (noX 1) (noX 2) (subL w3I0 w3u0 (w3l0 N N)) :=
  sub_part hc (w3hk0 N) w3o0 (fun x K => by
    have h : w3F0 N   (fun y0 y1 y2 y3 => K (w3X0_0 (y0, y1, y2, y3)).1 (w3X0_0 (y0, y1, y2, y3)).2) x.1 x.2.1 x.2.2.1 x.2.2.2.1 x.2.2.2.2.1 x.2.2.2.2.2.1 x.2.2.2.2.2.2.1 x.2.2.2.2.2.2.2 = w3F0 N   (fun y0 y1 y2 y3 => K (w3X0_0 (y0, y1, y2, y3)).1 (w3X0_0 (y0, y1, y2, y3)).2) x.1 x.2.1 x.2.2.1 x.2.2.2.1 x.2.2.2.2.1 x.2.2.2.2.2.1 x.2.2.2.2.2.2.1 x.2.2.2.2.2.2.2 := by rfl
    exact h.trans (w3q0 N K x))
def w3F1 [Alg] (N : Nat)  (self : Int → O) (k0 : Bool → O) (k1 : Bool → Int → (List Int) → O) (x5_0 : Bool) (x5_2 : Int) (x5_3 : (List Int)) (x5_4 : (List (Int × (List Int)))) (x5_1 : Int) : O :=
  br (decide (x5_1 < (↑x5_4.length : Int)))
    (gx x5_4 x5_1 fun y18 =>
    ck (w13p N y18.1 y18.2) <|
    gx x5_4 x5_1 fun y19 =>
    ck (w14p N y19.1 y19.2) <|
    gx x5_4 x5_1 fun y20 =>
    ck (w15p N y20.1 y20.2) <|
    gx x5_4 x5_1 fun y21 =>
    ck (w16p N y21.1 y21.2) <|
    gx x5_4 x5_1 fun y22 =>
    ck (w17p N y22.1 y22.2) <|
    gx x5_4 x5_1 fun y23 =>
    ck (w18p N y23.1 y23.2) <|
    ck (!!(decide (w17y0 N y22.1 y22.2 ≠ w18y0 N y23.1 y23.2) || decide (w13y1 N y18.1 y18.2 ≠ w14y1 N y19.1 y19.2) || decide (w15y1 N y20.1 y20.2 ≠ w16y1 N y21.1 y21.2)) || w19p N (w13y0 N y18.1 y18.2) (w14y0 N y19.1 y19.2)) <|
    ck (!!(decide (w17y0 N y22.1 y22.2 ≠ w18y0 N y23.1 y23.2) || decide (w13y1 N y18.1 y18.2 ≠ w14y1 N y19.1 y19.2) || decide (w15y1 N y20.1 y20.2 ≠ w16y1 N y21.1 y21.2) || !w19y0 N (w13y0 N y18.1 y18.2) (w14y0 N y19.1 y19.2)) || w19p N (w15y0 N y20.1 y20.2) (w16y0 N y21.1 y21.2)) <|
    br (decide (w17y0 N y22.1 y22.2 ≠ w18y0 N y23.1 y23.2) || decide (w13y1 N y18.1 y18.2 ≠ w14y1 N y19.1 y19.2) || decide (w15y1 N y20.1 y20.2 ≠ w16y1 N y21.1 y21.2) || !w19y0 N (w13y0 N y18.1 y18.2) (w14y0 N y19.1 y19.2) || !w19y0 N (w15y0 N y20.1 y20.2) (w16y0 N y21.1 y21.2))
      (k0 false)
      (self (IntKind.i64.wrap (x5_1 + (1 : Int)))))
    (k1 x5_0 x5_2 x5_3)
noncomputable def w3b1 : Code := atC [1, 1, 1, 1, 1, 1, 0, 1, 0, 0] w3b
def w3m1 : Nm := ⟨[8, 9, 11, 12], [], []⟩
def w3I1 (x : Bool × Int × Int × (List Int) × (List (Int × (List Int)))) : Sg := ⟨[(8, .e .bo x.1), (9, .ref 0 0), (11, .own 1), (12, .e (.i .i64) x.2.1)], [(0, .box 24 [.e (.i .i64) x.2.2.1, .e (.sl (.i .i64)) x.2.2.2.1]), (1, .row 24 (.pr (.i .i64) (.sl (.i .i64))) x.2.2.2.2 true)], 100⟩
def w3u1 (σ : Sg) : Bool × Int × Int × (List Int) × (List (Int × (List Int))) := (lvT .bo 8 0 σ, lvT (.i .i64) 12 0 σ, lvH (.i .i64) 0 0 σ, lvH (.sl (.i .i64)) 0 1 σ, lvR (.pr (.i .i64) (.sl (.i .i64))) 1 σ)
theorem w3ui1 : ∀ x, w3u1 (w3I1 x) = x := fun _ => by kernel_rfl
def w3X1_0 (y : Bool) : Exit × Sg := (.ret, ⟨[(8, .e .bo y)], [], 100⟩)
def w3v1_0 (σ : Sg) : Bool := lvT .bo 8 0 σ
def w3X1_1 (y : Bool × Int × (List Int)) : Exit × Sg := ((.exit 0), ⟨[(8, .e .bo y.1), (9, .ref 0 0)], [(0, .box 24 [.e (.i .i64) y.2.1, .e (.sl (.i .i64)) y.2.2])], 100⟩)
def w3v1_1 (σ : Sg) : Bool × Int × (List Int) := (lvT .bo 8 0 σ, lvH (.i .i64) 0 0 σ, lvH (.sl (.i .i64)) 0 1 σ)
def w3w1 : List (Exit × Nm) := [(.ret, ⟨[8], [], []⟩), ((.exit 0), ⟨[8, 9], [], []⟩)]
theorem w3o1 : Outs w3v1_0 w3v1_1 (fun _ => ()) w3X1_0 w3X1_1 (noX 2) .ret (.exit 0) (.goto 2) := ⟨fun _ => by kernel_rfl, fun _ => by kernel_rfl, fun _ => by kernel_rfl, fun _ => by kernel_rfl, fun _ => by kernel_rfl, fun _ => by kernel_rfl, exNe_ok (by kernel_rfl), exNe_ok (by kernel_rfl), exNe_ok (by kernel_rfl)⟩
def w3l1 [Alg] (N : Nat) : Nat → (Bool × Int × Int × (List Int) × (List (Int × (List Int)))) → ((Bool) → O) → ((Bool × Int × (List Int)) → O) → ((Unit) → O) → O
  | 0, _, _, _, _ => none
  | n + 1, x, k0, k1, k2 => w3F1 N  (fun v0 => w3l1 N n (x.1, v0, x.2.2.1, x.2.2.2.1, x.2.2.2.2) k0 k1 k2) (fun y0 => k0 y0) (fun y0 y1 y2 => k1 (y0, y1, y2)) x.1 x.2.2.1 x.2.2.2.1 x.2.2.2.2 x.2.1
def w3n1 [Alg] (N : Nat) (a0 : Bool) (a1 : Int) (a2 : Int) (a3 : (List Int)) (a4 : (List (Int × (List Int)))) (k0 : Bool → O) (k1 : Bool → Int → (List Int) → O) : O := w3l1 N N (a0, a1, a2, a3, a4) (fun y => k0 y) (fun y => k1 y.1 y.2.1 y.2.2) (fun _ => none)
noncomputable def w3s1 [Alg] (N : Nat) (a0 : Bool) (a1 : Int) (a2 : Int) (a3 : (List Int)) (a4 : (List (Int × (List Int)))) (k0 : Bool → O) (k1 : Bool → Int → (List Int) → O) : O := subL w3I1 w3u1 (w3l1 N N) (w3I1 (a0, a1, a2, a3, a4)) (fun y => k0 y) (fun y => k1 y.1 y.2.1 y.2.2) (fun _ => none)
theorem w3e1 [Alg] (N : Nat) : w3s1 N = w3n1 N := funext fun _ => funext fun _ => funext fun _ => funext fun _ => funext fun _ => funext fun _ => funext fun _ => subL_I w3ui1 _ _ _ _
noncomputable def w3h1 [Alg] (_ : Nat) : Hint := .d
theorem w3hk1 (N : Nat) : HintOk (w3c N) Tryd.f3.ntmps (w3h1 N) w3b1 := hk_of _ _ trivial
theorem w3q1 [Alg] (N : Nat) (self : Sg → O) (K : Exit → Sg → O) (x : Bool × Int × Int × (List Int) × (List (Int × (List Int)))) : w3F1 N  (fun v0 => self (w3I1 (x.1, v0, x.2.2.1, x.2.2.2.1, x.2.2.2.2))) (fun y0 => K (w3X1_0 y0).1 (w3X1_0 y0).2) (fun y0 y1 y2 => K (w3X1_1 (y0, y1, y2)).1 (w3X1_1 (y0, y1, y2)).2) x.1 x.2.2.1 x.2.2.2.1 x.2.2.2.2 x.2.1 = exec (w3c N) Tryd.f3.ntmps (w3h1 N) w3b1 (w3I1 x) (roundX w3m1 w3w1 self K) := by kernel_rfl
theorem w3S1 (N : Nat) (hc : CxOk (w3c N)) : SubOk (w3c N) Tryd.f3.ntmps (.loop w3b1) w3X1_0 w3X1_1 (noX 2) (subL w3I1 w3u1 (w3l1 N N)) :=
  sub_loop hc (w3hk1 N) w3o1 (n := N) (fun x K => loop_ind (w3l1 N) (fun _ _ _ _ => rfl) (fun n K ih x => by
    have h : w3F1 N  (fun v0 => w3l1 N n (x.1, v0, x.2.2.1, x.2.2.2.1, x.2.2.2.2) (fun y => K (w3X1_0 y).1 (w3X1_0 y).2) (fun y => K (w3X1_1 y).1 (w3X1_1 y).2) (fun y => K ((noX 2) y).1 ((noX 2) y).2)) (fun y0 => K (w3X1_0 y0).1 (w3X1_0 y0).2) (fun y0 y1 y2 => K (w3X1_1 (y0, y1, y2)).1 (w3X1_1 (y0, y1, y2)).2) x.1 x.2.2.1 x.2.2.2.1 x.2.2.2.2 x.2.1 = w3F1 N  (fun v0 => loopX (w3c N) Tryd.f3.ntmps (w3h1 N) w3b1 w3m1 w3w1 n (w3I1 (x.1, v0, x.2.2.1, x.2.2.2.1, x.2.2.2.2)) K) (fun y0 => K (w3X1_0 y0).1 (w3X1_0 y0).2) (fun y0 y1 y2 => K (w3X1_1 (y0, y1, y2)).1 (w3X1_1 (y0, y1, y2)).2) x.1 x.2.2.1 x.2.2.2.1 x.2.2.2.2 x.2.1 := by rw [ show (fun v0 => w3l1 N n (x.1, v0, x.2.2.1, x.2.2.2.1, x.2.2.2.2) (fun y => K (w3X1_0 y).1 (w3X1_0 y).2) (fun y => K (w3X1_1 y).1 (w3X1_1 y).2) (fun y => K ((noX 2) y).1 ((noX 2) y).2)) = (fun v0 => loopX (w3c N) Tryd.f3.ntmps (w3h1 N) w3b1 w3m1 w3w1 n (w3I1 (x.1, v0, x.2.2.1, x.2.2.2.1, x.2.2.2.2)) K) from funext fun _ => ih _]
    exact h.trans (w3q1 N (fun σ => loopX (w3c N) Tryd.f3.ntmps (w3h1 N) w3b1 w3m1 w3w1 n σ K) K x)) N x K)
def w3G [Alg] (N : Nat) (in0 : Int → Int → Bool → Int → (List Int) → Int → (List Int) → (List (Int × (List Int))) → (Bool → Int → (List Int) → (List (Int × (List Int))) → O) → O) (in1 : Bool → Int → Int → (List Int) → (List (Int × (List Int))) → (Bool → O) → (Bool → Int → (List Int) → O) → O) (l0 : (List Int)) (how1 : Int) (by2 : Int) (raw3_0 : Int) (raw3_1 : (List Int)) : O :=
  ck (w10p N l0) <|
  ck (w11p N (w10y0 N l0) (w10y1 N l0) how1 by2) <|
  ck (w12p N raw3_1 (10 : Int)) <|
  in0 how1 by2 false (w10y0 N l0) (w10y1 N l0) (w11y0 N (w10y0 N l0) (w10y1 N l0) how1 by2) (w11y1 N (w10y0 N l0) (w10y1 N l0) how1 by2) [(w10y0 N l0, w10y1 N l0), (w11y0 N (w10y0 N l0) (w10y1 N l0) how1 by2, w11y1 N (w10y0 N l0) (w10y1 N l0) how1 by2), (raw3_0, w12y0 N raw3_1 (10 : Int)), ((0 : Int), [])]
    (fun z1 z2 z3 z4 =>
      in1 z1 ((0 : Int)) z2 z3 z4
        (fun z24 =>
          some (w3r0 z24))
        (fun _ z26 z27 =>
          ck (w17p N z26 z27) <|
          ck (!decide (w17y0 N z26 z27 = (0 : Int)) || true) <|
          some (w3r0 (decide (w17y0 N z26 z27 = (0 : Int)) && true))))
def w3 [Alg] (N : Nat) (l0 : (List Int)) (how1 : Int) (by2 : Int) (raw3_0 : Int) (raw3_1 : (List Int)) : O := w3G N (w3n0 N) (w3n1 N) l0 how1 by2 raw3_0 raw3_1
noncomputable def w3h [Alg] (N : Nat) : Hint := (.seq .d (.seq .d (.seq .d (.seq .d (.seq .d (.seq (.sub w3m0 _ _ _ w3X0_0 (noX 1) (noX 2) (subL w3I0 w3u0 (w3l0 N N))) (.seq (.seq .d (.block (.sub w3m1 _ _ _ w3X1_0 w3X1_1 (noX 2) (subL w3I1 w3u1 (w3l1 N N))))) .d)))))))
theorem w3hk (N : Nat) (hc : CxOk (w3c N)) : HintOk (w3c N) Tryd.f3.ntmps (w3h N) w3b := hk_of _ _ (And.intro trivial (And.intro trivial (And.intro trivial (And.intro trivial (And.intro trivial (And.intro (w3S0 N hc) (And.intro (And.intro trivial (w3S1 N hc)) trivial)))))))
theorem w3q [Alg] (N : Nat) (l0 : (List Int)) (how1 : Int) (by2 : Int) (raw3_0 : Int) (raw3_1 : (List Int)) : w3G N (w3s0 N) (w3s1 N) l0 how1 by2 raw3_0 raw3_1 = exec (w3c N) Tryd.f3.ntmps (w3h N) w3b ⟨argT 0 [.e (.sl (.i .i64)) l0, .e (.i .i64) how1, .e (.i .i64) by2, .agg [.e (.i .i64) raw3_0, .e (.sl (.i .i64)) raw3_1]], [], 100⟩ (finX (w3c N) Tryd.f3 false) := by kernel_rfl
theorem w3does {N : Nat} (hc : CxOk (w3c N)) {l0 : (List Int)} {how1 : Int} {by2 : Int} {raw3_0 : Int} {raw3_1 : (List Int)} {r : Res} (h : w3 N l0 how1 by2 raw3_0 raw3_1 = some r) : Does Tryd.prog 3 (([.e (.sl (.i .i64)) l0, .e (.i .i64) how1, .e (.i .i64) by2, .agg [.e (.i .i64) raw3_0, .e (.sl (.i .i64)) raw3_1]] : List X).map X.D) (HA []) r.1.D (HA r.2) :=
  fun_ok hc (f := 3) (fn := Tryd.f3) (code := w3b) (by kernel_rfl) (by kernel_rfl) (w3hk N hc) (Nat.le_of_ble_eq_true (by kernel_rfl)) (ow := false) ((w3q N l0 how1 by2 raw3_0 raw3_1).symm.trans (by rw [w3e0 N, w3e1 N]; exact h))
def w3un (r : Res) : Option (Bool) := match r with
  | (x0, []) => (match ue .bo x0 with | some a0 => some a0 | _ => none)
  | _ => none
theorem w3uo {r : Res} {d : Bool} (h : w3un r = some d) : r = w3r0 (d) := by
  unfold w3un at h
  split at h
  · split at h
    · rename_i h0; cases h; rw [ue_some h0]; rfl
    · cases h
  · cases h
def w3z (N : Nat) (l0 : (List Int)) (how1 : Int) (by2 : Int) (raw3_0 : Int) (raw3_1 : (List Int)) : Option (Bool) := (w3 N l0 how1 by2 raw3_0 raw3_1).bind w3un
theorem w3fin {N : Nat} (hc : CxOk (w3c N)) {l0 : (List Int)} {how1 : Int} {by2 : Int} {raw3_0 : Int} {raw3_1 : (List Int)} {d : Bool} (hd : w3z N l0 how1 by2 raw3_0 raw3_1 = some d) : Does Tryd.prog 3 (([.e (.sl (.i .i64)) l0, .e (.i .i64) how1, .e (.i .i64) by2, .agg [.e (.i .i64) raw3_0, .e (.sl (.i .i64)) raw3_1]] : List X).map X.D) (HA []) (w3r0 (d)).1.D (HA (w3r0 (d)).2) := by
  obtain ⟨r, hr, hu⟩ := Option.bind_eq_some_iff.1 hd
  have := w3does hc hr
  rw [w3uo hu] at this
  exact this
def w3p (N : Nat) (l0 : (List Int)) (how1 : Int) (by2 : Int) (raw3_0 : Int) (raw3_1 : (List Int)) : Bool := (w3z N l0 how1 by2 raw3_0 raw3_1).isSome
def w3y0 (N : Nat) (l0 : (List Int)) (how1 : Int) (by2 : Int) (raw3_0 : Int) (raw3_1 : (List Int)) : Bool := ((w3z N l0 how1 by2 raw3_0 raw3_1).getD false)
def w3e (N : Nat) : Ent' := E4 (.sl (.i .i64)) (.i .i64) (.i .i64) (.pr (.i .i64) (.sl (.i .i64)))  (fun x0 x1 x2 x3 => (w3p N x0 x1 x2 x3.1 x3.2, w3r0 (w3y0 N x0 x1 x2 x3.1 x3.2)))
theorem w3re {N : Nat} {l0 : (List Int)} {how1 : Int} {by2 : Int} {raw3_0 : Int} {raw3_1 : (List Int)} {d : Bool} (hd : w3z N l0 how1 by2 raw3_0 raw3_1 = some d) : w3r0 (w3y0 N l0 how1 by2 raw3_0 raw3_1) = w3r0 (d) := by unfold w3y0; rw [hd]; rfl
theorem w3ok (N : Nat) : EOk Tryd.prog 3 (w3e N) := EOk.e4 (fun x0 x1 x2 x3 h => by
  have h : (w3z N x0 x1 x2 x3.1 x3.2).isSome = true := h
  obtain ⟨d, hd⟩ := Option.isSome_iff_exists.1 h
  have f := w3fin (w3cx N) hd
  rw [← w3re hd] at f
  exact f)
def w4r0 (a0 : Bool) : Res := (.e .bo a0, [])
noncomputable def w4L (N : Nat) : List (Nat × Ent') := [(10, w10e N), (11, w11e N), (21, w21e N), (22, w22e N), (23, w23e N), (20, l20e N)]
noncomputable def w4c (N : Nat) : Cx := ⟨Tryd.prog, 99999, w4L N⟩
noncomputable def w4b : Code := Tryd.f4.body.getD .skip
theorem w4cx (N : Nat) : CxOk (w4c N) := ctx_ok (by kernel_rfl) (.cons (by kernel_rfl) (w10ok N) (.cons (by kernel_rfl) (w11ok N) (.cons (by kernel_rfl) (w21ok N) (.cons (by kernel_rfl) (w22ok N) (.cons (by kernel_rfl) (w23ok N) (.cons (by kernel_rfl) (l20ok N) .nil))))))
def w4F0 [Alg] (N : Nat)  (self : Int → O) (k0 : Bool → O) (k1 : Bool → O) (x0_0 : Bool) (x0_2 : (List (Int × (List Int)))) (x0_1 : Int) : O :=
  br (decide (x0_1 < (2 : Int)))
    (gx x0_2 x0_1 fun y5 =>
    ck (w21p N y5.1 y5.2) <|
    gx x0_2 x0_1 fun y6 =>
    ck (w22p N y6.1 y6.2) <|
    ck (!!decide (w21y1 N y5.1 y5.2 ≠ w22y1 N y6.1 y6.2) || w23p N (w21y0 N y5.1 y5.2) (w22y0 N y6.1 y6.2)) <|
    br (decide (w21y1 N y5.1 y5.2 ≠ w22y1 N y6.1 y6.2) || !w23y0 N (w21y0 N y5.1 y5.2) (w22y0 N y6.1 y6.2))
      (k0 false)
      (self (IntKind.i64.wrap (x0_1 + (1 : Int)))))
    (k1 x0_0)
noncomputable def w4b0 : Code := atC [1, 1, 1, 0, 1, 0, 0] w4b
def w4m0 : Nm := ⟨[6, 8, 9], [], []⟩
def w4I0 (x : Bool × Int × (List (Int × (List Int)))) : Sg := ⟨[(6, .e .bo x.1), (8, .own 0), (9, .e (.i .i64) x.2.1)], [(0, .row 24 (.pr (.i .i64) (.sl (.i .i64))) x.2.2 true)], 100⟩
def w4u0 (σ : Sg) : Bool × Int × (List (Int × (List Int))) := (lvT .bo 6 0 σ, lvT (.i .i64) 9 0 σ, lvR (.pr (.i .i64) (.sl (.i .i64))) 0 σ)
theorem w4ui0 : ∀ x, w4u0 (w4I0 x) = x := fun _ => by kernel_rfl
def w4X0_0 (y : Bool) : Exit × Sg := (.ret, ⟨[(6, .e .bo y)], [], 100⟩)
def w4v0_0 (σ : Sg) : Bool := lvT .bo 6 0 σ
def w4X0_1 (y : Bool) : Exit × Sg := ((.exit 0), ⟨[(6, .e .bo y)], [], 100⟩)
def w4v0_1 (σ : Sg) : Bool := lvT .bo 6 0 σ
def w4w0 : List (Exit × Nm) := [(.ret, ⟨[6], [], []⟩), ((.exit 0), ⟨[6], [], []⟩)]
theorem w4o0 : Outs w4v0_0 w4v0_1 (fun _ => ()) w4X0_0 w4X0_1 (noX 2) .ret (.exit 0) (.goto 2) := ⟨fun _ => by kernel_rfl, fun _ => by kernel_rfl, fun _ => by kernel_rfl, fun _ => by kernel_rfl, fun _ => by kernel_rfl, fun _ => by kernel_rfl, exNe_ok (by kernel_rfl), exNe_ok (by kernel_rfl), exNe_ok (by kernel_rfl)⟩
def w4l0 [Alg] (N : Nat) : Nat → (Bool × Int × (List (Int × (List Int)))) → ((Bool) → O) → ((Bool) → O) → ((Unit) → O) → O
  | 0, _, _, _, _ => none
  | n + 1, x, k0, k1, k2 => w4F0 N  (fun v0 => w4l0 N n (x.1, v0, x.2.2) k0 k1 k2) (fun y0 => k0 y0) (fun y0 => k1 y0) x.1 x.2.2 x.2.1
def w4n0 [Alg] (N : Nat) (a0 : Bool) (a1 : Int) (a2 : (List (Int × (List Int)))) (k0 : Bool → O) (k1 : Bool → O) : O := w4l0 N N (a0, a1, a2) (fun y => k0 y) (fun y => k1 y) (fun _ => none)
noncomputable def w4s0 [Alg] (N : Nat) (a0 : Bool) (a1 : Int) (a2 : (List (Int × (List Int)))) (k0 : Bool → O) (k1 : Bool → O) : O := subL w4I0 w4u0 (w4l0 N N) (w4I0 (a0, a1, a2)) (fun y => k0 y) (fun y => k1 y) (fun _ => none)
theorem w4e0 [Alg] (N : Nat) : w4s0 N = w4n0 N := funext fun _ => funext fun _ => funext fun _ => funext fun _ => funext fun _ => subL_I w4ui0 _ _ _ _
noncomputable def w4h0 [Alg] (_ : Nat) : Hint := .d
theorem w4hk0 (N : Nat) : HintOk (w4c N) Tryd.f4.ntmps (w4h0 N) w4b0 := hk_of _ _ trivial
theorem w4q0 [Alg] (N : Nat) (self : Sg → O) (K : Exit → Sg → O) (x : Bool × Int × (List (Int × (List Int)))) : w4F0 N  (fun v0 => self (w4I0 (x.1, v0, x.2.2))) (fun y0 => K (w4X0_0 y0).1 (w4X0_0 y0).2) (fun y0 => K (w4X0_1 y0).1 (w4X0_1 y0).2) x.1 x.2.2 x.2.1 = exec (w4c N) Tryd.f4.ntmps (w4h0 N) w4b0 (w4I0 x) (roundX w4m0 w4w0 self K) := by kernel_rfl
theorem w4S0 (N : Nat) (hc : CxOk (w4c N)) : SubOk (w4c N) Tryd.f4.ntmps (.loop w4b0) w4X0_0 w4X0_1 (noX 2) (subL w4I0 w4u0 (w4l0 N N)) :=
  sub_loop hc (w4hk0 N) w4o0 (n := N) (fun x K => loop_ind (w4l0 N) (fun _ _ _ _ => rfl) (fun n K ih x => by
    have h : w4F0 N  (fun v0 => w4l0 N n (x.1, v0, x.2.2) (fun y => K (w4X0_0 y).1 (w4X0_0 y).2) (fun y => K (w4X0_1 y).1 (w4X0_1 y).2) (fun y => K ((noX 2) y).1 ((noX 2) y).2)) (fun y0 => K (w4X0_0 y0).1 (w4X0_0 y0).2) (fun y0 => K (w4X0_1 y0).1 (w4X0_1 y0).2) x.1 x.2.2 x.2.1 = w4F0 N  (fun v0 => loopX (w4c N) Tryd.f4.ntmps (w4h0 N) w4b0 w4m0 w4w0 n (w4I0 (x.1, v0, x.2.2)) K) (fun y0 => K (w4X0_0 y0).1 (w4X0_0 y0).2) (fun y0 => K (w4X0_1 y0).1 (w4X0_1 y0).2) x.1 x.2.2 x.2.1 := by rw [ show (fun v0 => w4l0 N n (x.1, v0, x.2.2) (fun y => K (w4X0_0 y).1 (w4X0_0 y).2) (fun y => K (w4X0_1 y).1 (w4X0_1 y).2) (fun y => K ((noX 2) y).1 ((noX 2) y).2)) = (fun v0 => loopX (w4c N) Tryd.f4.ntmps (w4h0 N) w4b0 w4m0 w4w0 n (w4I0 (x.1, v0, x.2.2)) K) from funext fun _ => ih _]
    exact h.trans (w4q0 N (fun σ => loopX (w4c N) Tryd.f4.ntmps (w4h0 N) w4b0 w4m0 w4w0 n σ K) K x)) N x K)
def w4G [Alg] (N : Nat) (in0 : Bool → Int → (List (Int × (List Int))) → (Bool → O) → (Bool → O) → O) (l0 : (List Int)) (how1 : Int) (by2 : Int) : O :=
  ck (w10p N l0) <|
  ck (w11p N (w10y0 N l0) (w10y1 N l0) how1 by2) <|
  in0 false ((0 : Int)) [(w10y0 N l0, w10y1 N l0), (w11y0 N (w10y0 N l0) (w10y1 N l0) how1 by2, w11y1 N (w10y0 N l0) (w10y1 N l0) how1 by2)]
    (fun z7 =>
      some (w4r0 z7))
    (fun _ =>
      ck true <|
      some (w4r0 true))
def w4 [Alg] (N : Nat) (l0 : (List Int)) (how1 : Int) (by2 : Int) : O := w4G N (w4n0 N) l0 how1 by2
noncomputable def w4h [Alg] (N : Nat) : Hint := (.seq .d (.seq .d (.seq .d (.seq (.seq .d (.block (.sub w4m0 _ _ _ w4X0_0 w4X0_1 (noX 2) (subL w4I0 w4u0 (w4l0 N N))))) .d))))
theorem w4hk (N : Nat) (hc : CxOk (w4c N)) : HintOk (w4c N) Tryd.f4.ntmps (w4h N) w4b := hk_of _ _ (And.intro trivial (And.intro trivial (And.intro trivial (And.intro (And.intro trivial (w4S0 N hc)) trivial))))
theorem w4q [Alg] (N : Nat) (l0 : (List Int)) (how1 : Int) (by2 : Int) : w4G N (w4s0 N) l0 how1 by2 = exec (w4c N) Tryd.f4.ntmps (w4h N) w4b ⟨argT 0 [.e (.sl (.i .i64)) l0, .e (.i .i64) how1, .e (.i .i64) by2], [], 100⟩ (finX (w4c N) Tryd.f4 false) := by kernel_rfl
theorem w4does {N : Nat} (hc : CxOk (w4c N)) {l0 : (List Int)} {how1 : Int} {by2 : Int} {r : Res} (h : w4 N l0 how1 by2 = some r) : Does Tryd.prog 4 (([.e (.sl (.i .i64)) l0, .e (.i .i64) how1, .e (.i .i64) by2] : List X).map X.D) (HA []) r.1.D (HA r.2) :=
  fun_ok hc (f := 4) (fn := Tryd.f4) (code := w4b) (by kernel_rfl) (by kernel_rfl) (w4hk N hc) (Nat.le_of_ble_eq_true (by kernel_rfl)) (ow := false) ((w4q N l0 how1 by2).symm.trans (by rw [w4e0 N]; exact h))
def w4un (r : Res) : Option (Bool) := match r with
  | (x0, []) => (match ue .bo x0 with | some a0 => some a0 | _ => none)
  | _ => none
theorem w4uo {r : Res} {d : Bool} (h : w4un r = some d) : r = w4r0 (d) := by
  unfold w4un at h
  split at h
  · split at h
    · rename_i h0; cases h; rw [ue_some h0]; rfl
    · cases h
  · cases h
def w4z (N : Nat) (l0 : (List Int)) (how1 : Int) (by2 : Int) : Option (Bool) := (w4 N l0 how1 by2).bind w4un
theorem w4fin {N : Nat} (hc : CxOk (w4c N)) {l0 : (List Int)} {how1 : Int} {by2 : Int} {d : Bool} (hd : w4z N l0 how1 by2 = some d) : Does Tryd.prog 4 (([.e (.sl (.i .i64)) l0, .e (.i .i64) how1, .e (.i .i64) by2] : List X).map X.D) (HA []) (w4r0 (d)).1.D (HA (w4r0 (d)).2) := by
  obtain ⟨r, hr, hu⟩ := Option.bind_eq_some_iff.1 hd
  have := w4does hc hr
  rw [w4uo hu] at this
  exact this
def w4p (N : Nat) (l0 : (List Int)) (how1 : Int) (by2 : Int) : Bool := (w4z N l0 how1 by2).isSome
def w4y0 (N : Nat) (l0 : (List Int)) (how1 : Int) (by2 : Int) : Bool := ((w4z N l0 how1 by2).getD false)
def w4e (N : Nat) : Ent' := E3 (.sl (.i .i64)) (.i .i64) (.i .i64)  (fun x0 x1 x2 => (w4p N x0 x1 x2, w4r0 (w4y0 N x0 x1 x2)))
theorem w4re {N : Nat} {l0 : (List Int)} {how1 : Int} {by2 : Int} {d : Bool} (hd : w4z N l0 how1 by2 = some d) : w4r0 (w4y0 N l0 how1 by2) = w4r0 (d) := by unfold w4y0; rw [hd]; rfl
theorem w4ok (N : Nat) : EOk Tryd.prog 4 (w4e N) := EOk.e3 (fun x0 x1 x2 h => by
  have h : (w4z N x0 x1 x2).isSome = true := h
  obtain ⟨d, hd⟩ := Option.isSome_iff_exists.1 h
  have f := w4fin (w4cx N) hd
  rw [← w4re hd] at f
  exact f)
def w5r0 (a0 : Bool) : Res := (.e .bo a0, [])
noncomputable def w5L (N : Nat) : List (Nat × Ent') := [(10, w10e N), (21, w21e N), (15, w15e N), (24, w24e N), (20, l20e N)]
noncomputable def w5c (N : Nat) : Cx := ⟨Tryd.prog, 99999, w5L N⟩
noncomputable def w5b : Code := Tryd.f5.body.getD .skip
theorem w5cx (N : Nat) : CxOk (w5c N) := ctx_ok (by kernel_rfl) (.cons (by kernel_rfl) (w10ok N) (.cons (by kernel_rfl) (w21ok N) (.cons (by kernel_rfl) (w15ok N) (.cons (by kernel_rfl) (w24ok N) (.cons (by kernel_rfl) (l20ok N) .nil)))))
def w5F0 [Alg] (_ : Nat)  (self : Int → O) (k0 : Bool → O) (k1 : Bool → (List (List UInt8)) → (List Int) → Int → Int → (List Int) → O) (x1_0 : Bool) (x1_1 : (List (List UInt8))) (x1_2 : (List Int)) (x1_3 : Int) (x1_5 : Int) (x1_6 : (List Int)) (x1_4 : Int) : O :=
  br (decide (x1_4 < (↑x1_1.length : Int)))
    (gx x1_1 x1_4 fun y4 =>
    br (decide ((↑y4.length : Int) ≠ x1_3) || decide (x1_3 < (2 : Int)))
      (k0 false)
      (self (IntKind.i64.wrap (x1_4 + (1 : Int)))))
    (k1 x1_0 x1_1 x1_2 x1_3 x1_5 x1_6)
noncomputable def w5b0 : Code := atC [1, 1, 1, 1, 1, 1, 0, 1, 0, 0] w5b
def w5m0 : Nm := ⟨[2, 3, 4, 6, 8, 9], [], []⟩
def w5I0 (x : Bool × (List (List UInt8)) × (List Int) × Int × Int × Int × (List Int)) : Sg := ⟨[(2, .e .bo x.1), (3, .ref 0 0), (4, .e (.sl (.sl .u8)) x.2.1), (6, .e (.sl (.i .i64)) x.2.2.1), (8, .e (.i .i64) x.2.2.2.1), (9, .e (.i .i64) x.2.2.2.2.1)], [(0, .box 24 [.e (.i .i64) x.2.2.2.2.2.1, .e (.sl (.i .i64)) x.2.2.2.2.2.2])], 100⟩
def w5u0 (σ : Sg) : Bool × (List (List UInt8)) × (List Int) × Int × Int × Int × (List Int) := (lvT .bo 2 0 σ, lvT (.sl (.sl .u8)) 4 0 σ, lvT (.sl (.i .i64)) 6 0 σ, lvT (.i .i64) 8 0 σ, lvT (.i .i64) 9 0 σ, lvH (.i .i64) 0 0 σ, lvH (.sl (.i .i64)) 0 1 σ)
theorem w5ui0 : ∀ x, w5u0 (w5I0 x) = x := fun _ => by kernel_rfl
def w5X0_0 (y : Bool) : Exit × Sg := (.ret, ⟨[(2, .e .bo y)], [], 100⟩)
def w5v0_0 (σ : Sg) : Bool := lvT .bo 2 0 σ
def w5X0_1 (y : Bool × (List (List UInt8)) × (List Int) × Int × Int × (List Int)) : Exit × Sg := ((.exit 0), ⟨[(2, .e .bo y.1), (3, .ref 0 0), (4, .e (.sl (.sl .u8)) y.2.1), (6, .e (.sl (.i .i64)) y.2.2.1), (8, .e (.i .i64) y.2.2.2.1)], [(0, .box 24 [.e (.i .i64) y.2.2.2.2.1, .e (.sl (.i .i64)) y.2.2.2.2.2])], 100⟩)
def w5v0_1 (σ : Sg) : Bool × (List (List UInt8)) × (List Int) × Int × Int × (List Int) := (lvT .bo 2 0 σ, lvT (.sl (.sl .u8)) 4 0 σ, lvT (.sl (.i .i64)) 6 0 σ, lvT (.i .i64) 8 0 σ, lvH (.i .i64) 0 0 σ, lvH (.sl (.i .i64)) 0 1 σ)
def w5w0 : List (Exit × Nm) := [(.ret, ⟨[2], [], []⟩), ((.exit 0), ⟨[2, 3, 4, 6, 8], [], []⟩)]
theorem w5o0 : Outs w5v0_0 w5v0_1 (fun _ => ()) w5X0_0 w5X0_1 (noX 2) .ret (.exit 0) (.goto 2) := ⟨fun _ => by kernel_rfl, fun _ => by kernel_rfl, fun _ => by kernel_rfl, fun _ => by kernel_rfl, fun _ => by kernel_rfl, fun _ => by kernel_rfl, exNe_ok (by kernel_rfl), exNe_ok (by kernel_rfl), exNe_ok (by kernel_rfl)⟩
def w5l0 [Alg] (N : Nat) : Nat → (Bool × (List (List UInt8)) × (List Int) × Int × Int × Int × (List Int)) → ((Bool) → O) → ((Bool × (List (List UInt8)) × (List Int) × Int × Int × (List Int)) → O) → ((Unit) → O) → O
  | 0, _, _, _, _ => none
  | n + 1, x, k0, k1, k2 => w5F0 N  (fun v0 => w5l0 N n (x.1, x.2.1, x.2.2.1, x.2.2.2.1, v0, x.2.2.2.2.2.1, x.2.2.2.2.2.2) k0 k1 k2) (fun y0 => k0 y0) (fun y0 y1 y2 y3 y4 y5 => k1 (y0, y1, y2, y3, y4, y5)) x.1 x.2.1 x.2.2.1 x.2.2.2.1 x.2.2.2.2.2.1 x.2.2.2.2.2.2 x.2.2.2.2.1
def w5n0 [Alg] (N : Nat) (a0 : Bool) (a1 : (List (List UInt8))) (a2 : (List Int)) (a3 : Int) (a4 : Int) (a5 : Int) (a6 : (List Int)) (k0 : Bool → O) (k1 : Bool → (List (List UInt8)) → (List Int) → Int → Int → (List Int) → O) : O := w5l0 N N (a0, a1, a2, a3, a4, a5, a6) (fun y => k0 y) (fun y => k1 y.1 y.2.1 y.2.2.1 y.2.2.2.1 y.2.2.2.2.1 y.2.2.2.2.2) (fun _ => none)
noncomputable def w5s0 [Alg] (N : Nat) (a0 : Bool) (a1 : (List (List UInt8))) (a2 : (List Int)) (a3 : Int) (a4 : Int) (a5 : Int) (a6 : (List Int)) (k0 : Bool → O) (k1 : Bool → (List (List UInt8)) → (List Int) → Int → Int → (List Int) → O) : O := subL w5I0 w5u0 (w5l0 N N) (w5I0 (a0, a1, a2, a3, a4, a5, a6)) (fun y => k0 y) (fun y => k1 y.1 y.2.1 y.2.2.1 y.2.2.2.1 y.2.2.2.2.1 y.2.2.2.2.2) (fun _ => none)
theorem w5e0 [Alg] (N : Nat) : w5s0 N = w5n0 N := funext fun _ => funext fun _ => funext fun _ => funext fun _ => funext fun _ => funext fun _ => funext fun _ => funext fun _ => funext fun _ => subL_I w5ui0 _ _ _ _
noncomputable def w5h0 [Alg] (_ : Nat) : Hint := .d
theorem w5hk0 (N : Nat) : HintOk (w5c N) Tryd.f5.ntmps (w5h0 N) w5b0 := hk_of _ _ trivial
theorem w5q0 [Alg] (N : Nat) (self : Sg → O) (K : Exit → Sg → O) (x : Bool × (List (List UInt8)) × (List Int) × Int × Int × Int × (List Int)) : w5F0 N  (fun v0 => self (w5I0 (x.1, x.2.1, x.2.2.1, x.2.2.2.1, v0, x.2.2.2.2.2.1, x.2.2.2.2.2.2))) (fun y0 => K (w5X0_0 y0).1 (w5X0_0 y0).2) (fun y0 y1 y2 y3 y4 y5 => K (w5X0_1 (y0, y1, y2, y3, y4, y5)).1 (w5X0_1 (y0, y1, y2, y3, y4, y5)).2) x.1 x.2.1 x.2.2.1 x.2.2.2.1 x.2.2.2.2.2.1 x.2.2.2.2.2.2 x.2.2.2.2.1 = exec (w5c N) Tryd.f5.ntmps (w5h0 N) w5b0 (w5I0 x) (roundX w5m0 w5w0 self K) := by kernel_rfl
theorem w5S0 (N : Nat) (hc : CxOk (w5c N)) : SubOk (w5c N) Tryd.f5.ntmps (.loop w5b0) w5X0_0 w5X0_1 (noX 2) (subL w5I0 w5u0 (w5l0 N N)) :=
  sub_loop hc (w5hk0 N) w5o0 (n := N) (fun x K => loop_ind (w5l0 N) (fun _ _ _ _ => rfl) (fun n K ih x => by
    have h : w5F0 N  (fun v0 => w5l0 N n (x.1, x.2.1, x.2.2.1, x.2.2.2.1, v0, x.2.2.2.2.2.1, x.2.2.2.2.2.2) (fun y => K (w5X0_0 y).1 (w5X0_0 y).2) (fun y => K (w5X0_1 y).1 (w5X0_1 y).2) (fun y => K ((noX 2) y).1 ((noX 2) y).2)) (fun y0 => K (w5X0_0 y0).1 (w5X0_0 y0).2) (fun y0 y1 y2 y3 y4 y5 => K (w5X0_1 (y0, y1, y2, y3, y4, y5)).1 (w5X0_1 (y0, y1, y2, y3, y4, y5)).2) x.1 x.2.1 x.2.2.1 x.2.2.2.1 x.2.2.2.2.2.1 x.2.2.2.2.2.2 x.2.2.2.2.1 = w5F0 N  (fun v0 => loopX (w5c N) Tryd.f5.ntmps (w5h0 N) w5b0 w5m0 w5w0 n (w5I0 (x.1, x.2.1, x.2.2.1, x.2.2.2.1, v0, x.2.2.2.2.2.1, x.2.2.2.2.2.2)) K) (fun y0 => K (w5X0_0 y0).1 (w5X0_0 y0).2) (fun y0 y1 y2 y3 y4 y5 => K (w5X0_1 (y0, y1, y2, y3, y4, y5)).1 (w5X0_1 (y0, y1, y2, y3, y4, y5)).2) x.1 x.2.1 x.2.2.1 x.2.2.2.1 x.2.2.2.2.2.1 x.2.2.2.2.2.2 x.2.2.2.2.1 := by rw [ show (fun v0 => w5l0 N n (x.1, x.2.1, x.2.2.1, x.2.2.2.1, v0, x.2.2.2.2.2.1, x.2.2.2.2.2.2) (fun y => K (w5X0_0 y).1 (w5X0_0 y).2) (fun y => K (w5X0_1 y).1 (w5X0_1 y).2) (fun y => K ((noX 2) y).1 ((noX 2) y).2)) = (fun v0 => loopX (w5c N) Tryd.f5.ntmps (w5h0 N) w5b0 w5m0 w5w0 n (w5I0 (x.1, x.2.1, x.2.2.1, x.2.2.2.1, v0, x.2.2.2.2.2.1, x.2.2.2.2.2.2)) K) from funext fun _ => ih _]
    exact h.trans (w5q0 N (fun σ => loopX (w5c N) Tryd.f5.ntmps (w5h0 N) w5b0 w5m0 w5w0 n σ K) K x)) N x K)
def w5F1 [Alg] (N : Nat)  (self : Int → Int → O) (k0 : Bool → (List (List UInt8)) → (List Int) → Int → Int → Int → Int → Bool → Int → Int → Int → (List Int) → Int → Bool → Int → (List Int) → O) (x73_0 : Bool) (x73_1 : (List (List UInt8))) (x73_2 : (List Int)) (x73_3 : Int) (x73_4 : Int) (x73_5 : Int) (x73_6 : Int) (x73_7 : Bool) (x73_10 : Int) (x73_11 : (List Int)) (x73_8 : Int) (x73_9 : Int) : O :=
  br (decide (x73_9 ≤ (↑x73_11.length : Int)))
    (gx x73_1 x73_9 fun y78 =>
    gx y78 x73_4 fun y79 =>
    ck (w24p N y79) <|
    self (IntKind.i64.wrap (x73_8 + w24y0 N y79)) (IntKind.i64.wrap (x73_9 + (1 : Int))))
    (k0 x73_0 x73_1 x73_2 x73_3 x73_4 x73_5 x73_6 x73_7 x73_8 x73_9 x73_9 x73_11 ((↑x73_11.length : Int)) (decide (x73_9 ≤ (↑x73_11.length : Int))) x73_10 x73_11)
noncomputable def w5b1 : Code := atC [1, 1, 1, 1, 1, 1, 1, 0, 1, 0, 0, 1, 0, 0, 1, 0, 1, 0, 0] w5b
def w5m1 : Nm := ⟨[2, 3, 4, 6, 8, 10, 65, 66, 67, 11, 12], [], []⟩
def w5I1 (x : Bool × (List (List UInt8)) × (List Int) × Int × Int × Int × Int × Bool × Int × Int × Int × (List Int)) : Sg := ⟨[(2, .e .bo x.1), (3, .ref 0 0), (4, .e (.sl (.sl .u8)) x.2.1), (6, .e (.sl (.i .i64)) x.2.2.1), (8, .e (.i .i64) x.2.2.2.1), (10, .e (.i .i64) x.2.2.2.2.1), (65, .e (.i .i64) x.2.2.2.2.2.1), (66, .e (.i .i64) x.2.2.2.2.2.2.1), (67, .e .bo x.2.2.2.2.2.2.2.1), (11, .e (.i .i64) x.2.2.2.2.2.2.2.2.1), (12, .e (.i .i64) x.2.2.2.2.2.2.2.2.2.1)], [(0, .box 24 [.e (.i .i64) x.2.2.2.2.2.2.2.2.2.2.1, .e (.sl (.i .i64)) x.2.2.2.2.2.2.2.2.2.2.2])], 100⟩
def w5u1 (σ : Sg) : Bool × (List (List UInt8)) × (List Int) × Int × Int × Int × Int × Bool × Int × Int × Int × (List Int) := (lvT .bo 2 0 σ, lvT (.sl (.sl .u8)) 4 0 σ, lvT (.sl (.i .i64)) 6 0 σ, lvT (.i .i64) 8 0 σ, lvT (.i .i64) 10 0 σ, lvT (.i .i64) 65 0 σ, lvT (.i .i64) 66 0 σ, lvT .bo 67 0 σ, lvT (.i .i64) 11 0 σ, lvT (.i .i64) 12 0 σ, lvH (.i .i64) 0 0 σ, lvH (.sl (.i .i64)) 0 1 σ)
theorem w5ui1 : ∀ x, w5u1 (w5I1 x) = x := fun _ => by kernel_rfl
def w5X1_0 (y : Bool × (List (List UInt8)) × (List Int) × Int × Int × Int × Int × Bool × Int × Int × Int × (List Int) × Int × Bool × Int × (List Int)) : Exit × Sg := ((.exit 4), ⟨[(2, .e .bo y.1), (3, .ref 0 0), (4, .e (.sl (.sl .u8)) y.2.1), (6, .e (.sl (.i .i64)) y.2.2.1), (8, .e (.i .i64) y.2.2.2.1), (10, .e (.i .i64) y.2.2.2.2.1), (65, .e (.i .i64) y.2.2.2.2.2.1), (66, .e (.i .i64) y.2.2.2.2.2.2.1), (67, .e .bo y.2.2.2.2.2.2.2.1), (11, .e (.i .i64) y.2.2.2.2.2.2.2.2.1), (12, .e (.i .i64) y.2.2.2.2.2.2.2.2.2.1), (70, .e (.i .i64) y.2.2.2.2.2.2.2.2.2.2.1), (71, .ref 0 1), (72, .e (.sl (.i .i64)) y.2.2.2.2.2.2.2.2.2.2.2.1), (73, .e (.i .i64) y.2.2.2.2.2.2.2.2.2.2.2.2.1), (74, .e .bo y.2.2.2.2.2.2.2.2.2.2.2.2.2.1)], [(0, .box 24 [.e (.i .i64) y.2.2.2.2.2.2.2.2.2.2.2.2.2.2.1, .e (.sl (.i .i64)) y.2.2.2.2.2.2.2.2.2.2.2.2.2.2.2])], 100⟩)
def w5v1_0 (σ : Sg) : Bool × (List (List UInt8)) × (List Int) × Int × Int × Int × Int × Bool × Int × Int × Int × (List Int) × Int × Bool × Int × (List Int) := (lvT .bo 2 0 σ, lvT (.sl (.sl .u8)) 4 0 σ, lvT (.sl (.i .i64)) 6 0 σ, lvT (.i .i64) 8 0 σ, lvT (.i .i64) 10 0 σ, lvT (.i .i64) 65 0 σ, lvT (.i .i64) 66 0 σ, lvT .bo 67 0 σ, lvT (.i .i64) 11 0 σ, lvT (.i .i64) 12 0 σ, lvT (.i .i64) 70 0 σ, lvT (.sl (.i .i64)) 72 0 σ, lvT (.i .i64) 73 0 σ, lvT .bo 74 0 σ, lvH (.i .i64) 0 0 σ, lvH (.sl (.i .i64)) 0 1 σ)
def w5w1 : List (Exit × Nm) := [((.exit 4), ⟨[2, 3, 4, 6, 8, 10, 65, 66, 67, 11, 12, 70, 71, 72, 73, 74], [], []⟩)]
theorem w5o1 : Outs w5v1_0 (fun _ => ()) (fun _ => ()) w5X1_0 (noX 1) (noX 2) (.exit 4) (.goto 1) (.goto 2) := ⟨fun _ => by kernel_rfl, fun _ => by kernel_rfl, fun _ => by kernel_rfl, fun _ => by kernel_rfl, fun _ => by kernel_rfl, fun _ => by kernel_rfl, exNe_ok (by kernel_rfl), exNe_ok (by kernel_rfl), exNe_ok (by kernel_rfl)⟩
def w5l1 [Alg] (N : Nat) : Nat → (Bool × (List (List UInt8)) × (List Int) × Int × Int × Int × Int × Bool × Int × Int × Int × (List Int)) → ((Bool × (List (List UInt8)) × (List Int) × Int × Int × Int × Int × Bool × Int × Int × Int × (List Int) × Int × Bool × Int × (List Int)) → O) → ((Unit) → O) → ((Unit) → O) → O
  | 0, _, _, _, _ => none
  | n + 1, x, k0, k1, k2 => w5F1 N  (fun v0 v1 => w5l1 N n (x.1, x.2.1, x.2.2.1, x.2.2.2.1, x.2.2.2.2.1, x.2.2.2.2.2.1, x.2.2.2.2.2.2.1, x.2.2.2.2.2.2.2.1, v0, v1, x.2.2.2.2.2.2.2.2.2.2.1, x.2.2.2.2.2.2.2.2.2.2.2) k0 k1 k2) (fun y0 y1 y2 y3 y4 y5 y6 y7 y8 y9 y10 y11 y12 y13 y14 y15 => k0 (y0, y1, y2, y3, y4, y5, y6, y7, y8, y9, y10, y11, y12, y13, y14, y15)) x.1 x.2.1 x.2.2.1 x.2.2.2.1 x.2.2.2.2.1 x.2.2.2.2.2.1 x.2.2.2.2.2.2.1 x.2.2.2.2.2.2.2.1 x.2.2.2.2.2.2.2.2.2.2.1 x.2.2.2.2.2.2.2.2.2.2.2 x.2.2.2.2.2.2.2.2.1 x.2.2.2.2.2.2.2.2.2.1
def w5n1 [Alg] (N : Nat) (a0 : Bool) (a1 : (List (List UInt8))) (a2 : (List Int)) (a3 : Int) (a4 : Int) (a5 : Int) (a6 : Int) (a7 : Bool) (a8 : Int) (a9 : Int) (a10 : Int) (a11 : (List Int)) (k0 : Bool → (List (List UInt8)) → (List Int) → Int → Int → Int → Int → Bool → Int → Int → Int → (List Int) → Int → Bool → Int → (List Int) → O) : O := w5l1 N N (a0, a1, a2, a3, a4, a5, a6, a7, a8, a9, a10, a11) (fun y => k0 y.1 y.2.1 y.2.2.1 y.2.2.2.1 y.2.2.2.2.1 y.2.2.2.2.2.1 y.2.2.2.2.2.2.1 y.2.2.2.2.2.2.2.1 y.2.2.2.2.2.2.2.2.1 y.2.2.2.2.2.2.2.2.2.1 y.2.2.2.2.2.2.2.2.2.2.1 y.2.2.2.2.2.2.2.2.2.2.2.1 y.2.2.2.2.2.2.2.2.2.2.2.2.1 y.2.2.2.2.2.2.2.2.2.2.2.2.2.1 y.2.2.2.2.2.2.2.2.2.2.2.2.2.2.1 y.2.2.2.2.2.2.2.2.2.2.2.2.2.2.2) (fun _ => none) (fun _ => none)
noncomputable def w5s1 [Alg] (N : Nat) (a0 : Bool) (a1 : (List (List UInt8))) (a2 : (List Int)) (a3 : Int) (a4 : Int) (a5 : Int) (a6 : Int) (a7 : Bool) (a8 : Int) (a9 : Int) (a10 : Int) (a11 : (List Int)) (k0 : Bool → (List (List UInt8)) → (List Int) → Int → Int → Int → Int → Bool → Int → Int → Int → (List Int) → Int → Bool → Int → (List Int) → O) : O := subL w5I1 w5u1 (w5l1 N N) (w5I1 (a0, a1, a2, a3, a4, a5, a6, a7, a8, a9, a10, a11)) (fun y => k0 y.1 y.2.1 y.2.2.1 y.2.2.2.1 y.2.2.2.2.1 y.2.2.2.2.2.1 y.2.2.2.2.2.2.1 y.2.2.2.2.2.2.2.1 y.2.2.2.2.2.2.2.2.1 y.2.2.2.2.2.2.2.2.2.1 y.2.2.2.2.2.2.2.2.2.2.1 y.2.2.2.2.2.2.2.2.2.2.2.1 y.2.2.2.2.2.2.2.2.2.2.2.2.1 y.2.2.2.2.2.2.2.2.2.2.2.2.2.1 y.2.2.2.2.2.2.2.2.2.2.2.2.2.2.1 y.2.2.2.2.2.2.2.2.2.2.2.2.2.2.2) (fun _ => none) (fun _ => none)
theorem w5e1 [Alg] (N : Nat) : w5s1 N = w5n1 N := funext fun _ => funext fun _ => funext fun _ => funext fun _ => funext fun _ => funext fun _ => funext fun _ => funext fun _ => funext fun _ => funext fun _ => funext fun _ => funext fun _ => funext fun _ => subL_I w5ui1 _ _ _ _
noncomputable def w5h1 [Alg] (_ : Nat) : Hint := .d
theorem w5hk1 (N : Nat) : HintOk (w5c N) Tryd.f5.ntmps (w5h1 N) w5b1 := hk_of _ _ trivial
theorem w5q1 [Alg] (N : Nat) (self : Sg → O) (K : Exit → Sg → O) (x : Bool × (List (List UInt8)) × (List Int) × Int × Int × Int × Int × Bool × Int × Int × Int × (List Int)) : w5F1 N  (fun v0 v1 => self (w5I1 (x.1, x.2.1, x.2.2.1, x.2.2.2.1, x.2.2.2.2.1, x.2.2.2.2.2.1, x.2.2.2.2.2.2.1, x.2.2.2.2.2.2.2.1, v0, v1, x.2.2.2.2.2.2.2.2.2.2.1, x.2.2.2.2.2.2.2.2.2.2.2))) (fun y0 y1 y2 y3 y4 y5 y6 y7 y8 y9 y10 y11 y12 y13 y14 y15 => K (w5X1_0 (y0, y1, y2, y3, y4, y5, y6, y7, y8, y9, y10, y11, y12, y13, y14, y15)).1 (w5X1_0 (y0, y1, y2, y3, y4, y5, y6, y7, y8, y9, y10, y11, y12, y13, y14, y15)).2) x.1 x.2.1 x.2.2.1 x.2.2.2.1 x.2.2.2.2.1 x.2.2.2.2.2.1 x.2.2.2.2.2.2.1 x.2.2.2.2.2.2.2.1 x.2.2.2.2.2.2.2.2.2.2.1 x.2.2.2.2.2.2.2.2.2.2.2 x.2.2.2.2.2.2.2.2.1 x.2.2.2.2.2.2.2.2.2.1 = exec (w5c N) Tryd.f5.ntmps (w5h1 N) w5b1 (w5I1 x) (roundX w5m1 w5w1 self K) := by kernel_rfl
theorem w5S1 (N : Nat) (hc : CxOk (w5c N)) : SubOk (w5c N) Tryd.f5.ntmps (.loop w5b1) w5X1_0 (noX 1) (noX 2) (subL w5I1 w5u1 (w5l1 N N)) :=
  sub_loop hc (w5hk1 N) w5o1 (n := N) (fun x K => loop_ind (w5l1 N) (fun _ _ _ _ => rfl) (fun n K ih x => by
    have h : w5F1 N  (fun v0 v1 => w5l1 N n (x.1, x.2.1, x.2.2.1, x.2.2.2.1, x.2.2.2.2.1, x.2.2.2.2.2.1, x.2.2.2.2.2.2.1, x.2.2.2.2.2.2.2.1, v0, v1, x.2.2.2.2.2.2.2.2.2.2.1, x.2.2.2.2.2.2.2.2.2.2.2) (fun y => K (w5X1_0 y).1 (w5X1_0 y).2) (fun y => K ((noX 1) y).1 ((noX 1) y).2) (fun y => K ((noX 2) y).1 ((noX 2) y).2)) (fun y0 y1 y2 y3 y4 y5 y6 y7 y8 y9 y10 y11 y12 y13 y14 y15 => K (w5X1_0 (y0, y1, y2, y3, y4, y5, y6, y7, y8, y9, y10, y11, y12, y13, y14, y15)).1 (w5X1_0 (y0, y1, y2, y3, y4, y5, y6, y7, y8, y9, y10, y11, y12, y13, y14, y15)).2) x.1 x.2.1 x.2.2.1 x.2.2.2.1 x.2.2.2.2.1 x.2.2.2.2.2.1 x.2.2.2.2.2.2.1 x.2.2.2.2.2.2.2.1 x.2.2.2.2.2.2.2.2.2.2.1 x.2.2.2.2.2.2.2.2.2.2.2 x.2.2.2.2.2.2.2.2.1 x.2.2.2.2.2.2.2.2.2.1 = w5F1 N  (fun v0 v1 => loopX (w5c N) Tryd.f5.ntmps (w5h1 N) w5b1 w5m1 w5w1 n (w5I1 (x.1, x.2.1, x.2.2.1, x.2.2.2.1, x.2.2.2.2.1, x.2.2.2.2.2.1, x.2.2.2.2.2.2.1, x.2.2.2.2.2.2.2.1, v0, v1, x.2.2.2.2.2.2.2.2.2.2.1, x.2.2.2.2.2.2.2.2.2.2.2)) K) (fun y0 y1 y2 y3 y4 y5 y6 y7 y8 y9 y10 y11 y12 y13 y14 y15 => K (w5X1_0 (y0, y1, y2, y3, y4, y5, y6, y7, y8, y9, y10, y11, y12, y13, y14, y15)).1 (w5X1_0 (y0, y1, y2, y3, y4, y5, y6, y7, y8, y9, y10, y11, y12, y13, y14, y15)).2) x.1 x.2.1 x.2.2.1 x.2.2.2.1 x.2.2.2.2.1 x.2.2.2.2.2.1 x.2.2.2.2.2.2.1 x.2.2.2.2.2.2.2.1 x.2.2.2.2.2.2.2.2.2.2.1 x.2.2.2.2.2.2.2.2.2.2.2 x.2.2.2.2.2.2.2.2.1 x.2.2.2.2.2.2.2.2.2.1 := by rw [ show (fun v0 v1 => w5l1 N n (x.1, x.2.1, x.2.2.1, x.2.2.2.1, x.2.2.2.2.1, x.2.2.2.2.2.1, x.2.2.2.2.2.2.1, x.2.2.2.2.2.2.2.1, v0, v1, x.2.2.2.2.2.2.2.2.2.2.1, x.2.2.2.2.2.2.2.2.2.2.2) (fun y => K (w5X1_0 y).1 (w5X1_0 y).2) (fun y => K ((noX 1) y).1 ((noX 1) y).2) (fun y => K ((noX 2) y).1 ((noX 2) y).2)) = (fun v0 v1 => loopX (w5c N) Tryd.f5.ntmps (w5h1 N) w5b1 w5m1 w5w1 n (w5I1 (x.1, x.2.1, x.2.2.1, x.2.2.2.1, x.2.2.2.2.1, x.2.2.2.2.2.1, x.2.2.2.2.2.2.1, x.2.2.2.2.2.2.2.1, v0, v1, x.2.2.2.2.2.2.2.2.2.2.1, x.2.2.2.2.2.2.2.2.2.2.2)) K) from funext fun _ => funext fun _ => ih _]
    exact h.trans (w5q1 N (fun σ => loopX (w5c N) Tryd.f5.ntmps (w5h1 N) w5b1 w5m1 w5w1 n σ K) K x)) N x K)
def w5F2 [Alg] (N : Nat) (in1 : Bool → (List (List UInt8)) → (List Int) → Int → Int → Int → Int → Bool → Int → Int → Int → (List Int) → (Bool → (List (List UInt8)) → (List Int) → Int → Int → Int → Int → Bool → Int → Int → Int → (List Int) → Int → Bool → Int → (List Int) → O) → O) (self : Bool → (List (List UInt8)) → (List Int) → Int → Int → Int → (List Int) → O) (k0 : Bool → O) (k1 : Bool → O) (x12_0 : Bool) (x12_1 : (List (List UInt8))) (x12_2 : (List Int)) (x12_3 : Int) (x12_4 : Int) (x12_5 : Int) (x12_6 : (List Int)) : O :=
  br (decide (x12_4 < x12_3))
    (in1 x12_0 x12_1 x12_2 x12_3 x12_4 x12_4 x12_3 (decide (x12_4 < x12_3)) ((0 : Int)) ((0 : Int)) x12_5 x12_6
      (fun z80 z81 z82 z83 z84 _ _ _ z88 _ _ _ _ _ z94 z95 =>
        ck true <|
        gx z81 (IntKind.i64.wrap ((↑z81.length : Int) - (1 : Int))) fun y96 =>
        gx y96 z84 fun y97 =>
        ck (w24p N y97) <|
        br (decide (z88.tmod (10 : Int) ≠ w24y0 N y97))
          (k0 false)
          (br (decide ((0 : Int) < IntKind.i64.wrap (IntKind.i64.wrap (z83 - (1 : Int)) - z84)) && decide (IntKind.i64.wrap (IntKind.i64.wrap (IntKind.i64.wrap (z83 - (1 : Int)) - z84) - (1 : Int)) < (↑z82.length : Int)))
            (gx z82 (IntKind.i64.wrap (IntKind.i64.wrap (IntKind.i64.wrap (z83 - (1 : Int)) - z84) - (1 : Int))) fun y98 =>
            gx z81 ((0 : Int)) fun y99 =>
            gx y99 z84 fun y100 =>
            ck (w24p N y100) <|
            br (decide (w24y0 N y100 ≠ y98))
              (k0 false)
              (self z80 z81 z82 z83 (IntKind.i64.wrap (z84 + (1 : Int))) z94 z95))
            (gx z81 ((0 : Int)) fun y101 =>
            gx y101 z84 fun y102 =>
            ck (w24p N y102) <|
            br (decide (w24y0 N y102 ≠ (0 : Int)))
              (k0 false)
              (self z80 z81 z82 z83 (IntKind.i64.wrap (z84 + (1 : Int))) z94 z95)))))
    (k1 x12_0)
noncomputable def w5b2 : Code := atC [1, 1, 1, 1, 1, 1, 1, 0, 1, 0, 0] w5b
def w5m2 : Nm := ⟨[2, 3, 4, 6, 8, 10], [], []⟩
def w5I2 (x : Bool × (List (List UInt8)) × (List Int) × Int × Int × Int × (List Int)) : Sg := ⟨[(2, .e .bo x.1), (3, .ref 0 0), (4, .e (.sl (.sl .u8)) x.2.1), (6, .e (.sl (.i .i64)) x.2.2.1), (8, .e (.i .i64) x.2.2.2.1), (10, .e (.i .i64) x.2.2.2.2.1)], [(0, .box 24 [.e (.i .i64) x.2.2.2.2.2.1, .e (.sl (.i .i64)) x.2.2.2.2.2.2])], 100⟩
def w5u2 (σ : Sg) : Bool × (List (List UInt8)) × (List Int) × Int × Int × Int × (List Int) := (lvT .bo 2 0 σ, lvT (.sl (.sl .u8)) 4 0 σ, lvT (.sl (.i .i64)) 6 0 σ, lvT (.i .i64) 8 0 σ, lvT (.i .i64) 10 0 σ, lvH (.i .i64) 0 0 σ, lvH (.sl (.i .i64)) 0 1 σ)
theorem w5ui2 : ∀ x, w5u2 (w5I2 x) = x := fun _ => by kernel_rfl
def w5X2_0 (y : Bool) : Exit × Sg := (.ret, ⟨[(2, .e .bo y)], [], 100⟩)
def w5v2_0 (σ : Sg) : Bool := lvT .bo 2 0 σ
def w5X2_1 (y : Bool) : Exit × Sg := ((.exit 2), ⟨[(2, .e .bo y)], [], 100⟩)
def w5v2_1 (σ : Sg) : Bool := lvT .bo 2 0 σ
def w5w2 : List (Exit × Nm) := [(.ret, ⟨[2], [], []⟩), ((.exit 2), ⟨[2], [], []⟩)]
theorem w5o2 : Outs w5v2_0 w5v2_1 (fun _ => ()) w5X2_0 w5X2_1 (noX 2) .ret (.exit 2) (.goto 2) := ⟨fun _ => by kernel_rfl, fun _ => by kernel_rfl, fun _ => by kernel_rfl, fun _ => by kernel_rfl, fun _ => by kernel_rfl, fun _ => by kernel_rfl, exNe_ok (by kernel_rfl), exNe_ok (by kernel_rfl), exNe_ok (by kernel_rfl)⟩
def w5l2 [Alg] (N : Nat) : Nat → (Bool × (List (List UInt8)) × (List Int) × Int × Int × Int × (List Int)) → ((Bool) → O) → ((Bool) → O) → ((Unit) → O) → O
  | 0, _, _, _, _ => none
  | n + 1, x, k0, k1, k2 => w5F2 N (w5n1 N) (fun v0 v1 v2 v3 v4 v5 v6 => w5l2 N n (v0, v1, v2, v3, v4, v5, v6) k0 k1 k2) (fun y0 => k0 y0) (fun y0 => k1 y0) x.1 x.2.1 x.2.2.1 x.2.2.2.1 x.2.2.2.2.1 x.2.2.2.2.2.1 x.2.2.2.2.2.2
def w5n2 [Alg] (N : Nat) (a0 : Bool) (a1 : (List (List UInt8))) (a2 : (List Int)) (a3 : Int) (a4 : Int) (a5 : Int) (a6 : (List Int)) (k0 : Bool → O) (k1 : Bool → O) : O := w5l2 N N (a0, a1, a2, a3, a4, a5, a6) (fun y => k0 y) (fun y => k1 y) (fun _ => none)
noncomputable def w5s2 [Alg] (N : Nat) (a0 : Bool) (a1 : (List (List UInt8))) (a2 : (List Int)) (a3 : Int) (a4 : Int) (a5 : Int) (a6 : (List Int)) (k0 : Bool → O) (k1 : Bool → O) : O := subL w5I2 w5u2 (w5l2 N N) (w5I2 (a0, a1, a2, a3, a4, a5, a6)) (fun y => k0 y) (fun y => k1 y) (fun _ => none)
theorem w5e2 [Alg] (N : Nat) : w5s2 N = w5n2 N := funext fun _ => funext fun _ => funext fun _ => funext fun _ => funext fun _ => funext fun _ => funext fun _ => funext fun _ => funext fun _ => subL_I w5ui2 _ _ _ _
noncomputable def w5h2 [Alg] (N : Nat) : Hint := (.seq .d (.seq (.block (.seq .d (.seq (.seq .d (.block (.sub w5m1 _ _ _ w5X1_0 (noX 1) (noX 2) (subL w5I1 w5u1 (w5l1 N N))))) .d))) .d))
theorem w5hk2 (N : Nat) (hc : CxOk (w5c N)) : HintOk (w5c N) Tryd.f5.ntmps (w5h2 N) w5b2 := hk_of _ _ (And.intro trivial (And.intro (And.intro trivial (And.intro (And.intro trivial (w5S1 N hc)) trivial)) trivial))
theorem w5q2 [Alg] (N : Nat) (self : Sg → O) (K : Exit → Sg → O) (x : Bool × (List (List UInt8)) × (List Int) × Int × Int × Int × (List Int)) : w5F2 N (w5s1 N) (fun v0 v1 v2 v3 v4 v5 v6 => self (w5I2 (v0, v1, v2, v3, v4, v5, v6))) (fun y0 => K (w5X2_0 y0).1 (w5X2_0 y0).2) (fun y0 => K (w5X2_1 y0).1 (w5X2_1 y0).2) x.1 x.2.1 x.2.2.1 x.2.2.2.1 x.2.2.2.2.1 x.2.2.2.2.2.1 x.2.2.2.2.2.2 = exec (w5c N) Tryd.f5.ntmps (w5h2 N) w5b2 (w5I2 x) (roundX w5m2 w5w2 self K) := by kernel_rfl
theorem w5S2 (N : Nat) (hc : CxOk (w5c N)) : SubOk (w5c N) Tryd.f5.ntmps (.loop w5b2) w5X2_0 w5X2_1 (noX 2) (subL w5I2 w5u2 (w5l2 N N)) :=
  sub_loop hc (w5hk2 N hc) w5o2 (n := N) (fun x K => loop_ind (w5l2 N) (fun _ _ _ _ => rfl) (fun n K ih x => by
    have h : w5F2 N (w5n1 N) (fun v0 v1 v2 v3 v4 v5 v6 => w5l2 N n (v0, v1, v2, v3, v4, v5, v6) (fun y => K (w5X2_0 y).1 (w5X2_0 y).2) (fun y => K (w5X2_1 y).1 (w5X2_1 y).2) (fun y => K ((noX 2) y).1 ((noX 2) y).2)) (fun y0 => K (w5X2_0 y0).1 (w5X2_0 y0).2) (fun y0 => K (w5X2_1 y0).1 (w5X2_1 y0).2) x.1 x.2.1 x.2.2.1 x.2.2.2.1 x.2.2.2.2.1 x.2.2.2.2.2.1 x.2.2.2.2.2.2 = w5F2 N (w5s1 N) (fun v0 v1 v2 v3 v4 v5 v6 => loopX (w5c N) Tryd.f5.ntmps (w5h2 N) w5b2 w5m2 w5w2 n (w5I2 (v0, v1, v2, v3, v4, v5, v6)) K) (fun y0 => K (w5X2_0 y0).1 (w5X2_0 y0).2) (fun y0 => K (w5X2_1 y0).1 (w5X2_1 y0).2) x.1 x.2.1 x.2.2.1 x.2.2.2.1 x.2.2.2.2.1 x.2.2.2.2.2.1 x.2.2.2.2.2.2 := by rw [w5e1 N, show (fun v0 v1 v2 v3 v4 v5 v6 => w5l2 N n (v0, v1, v2, v3, v4, v5, v6) (fun y => K (w5X2_0 y).1 (w5X2_0 y).2) (fun y => K (w5X2_1 y).1 (w5X2_1 y).2) (fun y => K ((noX 2) y).1 ((noX 2) y).2)) = (fun v0 v1 v2 v3 v4 v5 v6 => loopX (w5c N) Tryd.f5.ntmps (w5h2 N) w5b2 w5m2 w5w2 n (w5I2 (v0, v1, v2, v3, v4, v5, v6)) K) from funext fun _ => funext fun _ => funext fun _ => funext fun _ => funext fun _ => funext fun _ => funext fun _ => ih _]
    exact h.trans (w5q2 N (fun σ => loopX (w5c N) Tryd.f5.ntmps (w5h2 N) w5b2 w5m2 w5w2 n σ K) K x)) N x K)
def w5G [Alg] (N : Nat) (in0 : Bool → (List (List UInt8)) → (List Int) → Int → Int → Int → (List Int) → (Bool → O) → (Bool → (List (List UInt8)) → (List Int) → Int → Int → (List Int) → O) → O) (_in1 : Bool → (List (List UInt8)) → (List Int) → Int → Int → Int → Int → Bool → Int → Int → Int → (List Int) → (Bool → (List (List UInt8)) → (List Int) → Int → Int → Int → Int → Bool → Int → Int → Int → (List Int) → Int → Bool → Int → (List Int) → O) → O) (in2 : Bool → (List (List UInt8)) → (List Int) → Int → Int → Int → (List Int) → (Bool → O) → (Bool → O) → O) (l0 : (List Int)) : O :=
  ck (lim ([(0 : Int)] ++ l0).length (8 : Nat)) <|
  ck (w10p N ([(0 : Int)] ++ l0)) <|
  ck (w21p N (w10y0 N ([(0 : Int)] ++ l0)) (w10y1 N ([(0 : Int)] ++ l0))) <|
  ck (w15p N (w10y0 N ([(0 : Int)] ++ l0)) (w10y1 N ([(0 : Int)] ++ l0))) <|
  br (decide (w21y1 N (w10y0 N ([(0 : Int)] ++ l0)) (w10y1 N ([(0 : Int)] ++ l0)) ≠ (0 : Int)) || decide (w15y1 N (w10y0 N ([(0 : Int)] ++ l0)) (w10y1 N ([(0 : Int)] ++ l0)) ≠ (0 : Int)) || decide ((↑(w21y0 N (w10y0 N ([(0 : Int)] ++ l0)) (w10y1 N ([(0 : Int)] ++ l0))).length : Int) ≠ IntKind.i64.wrap ((↑(w10y1 N ([(0 : Int)] ++ l0)).length : Int) + (3 : Int))))
    (some (w5r0 false))
    (gx (w21y0 N (w10y0 N ([(0 : Int)] ++ l0)) (w10y1 N ([(0 : Int)] ++ l0))) ((0 : Int)) fun y0 =>
    in0 false (w21y0 N (w10y0 N ([(0 : Int)] ++ l0)) (w10y1 N ([(0 : Int)] ++ l0))) (w15y0 N (w10y0 N ([(0 : Int)] ++ l0)) (w10y1 N ([(0 : Int)] ++ l0))) ((↑y0.length : Int)) ((0 : Int)) (w10y0 N ([(0 : Int)] ++ l0)) (w10y1 N ([(0 : Int)] ++ l0))
      (fun z5 =>
        some (w5r0 z5))
      (fun z6 z7 z8 z9 z10 z11 =>
        in2 z6 z7 z8 z9 ((1 : Int)) z10 z11
          (fun z103 =>
            some (w5r0 z103))
          (fun _ =>
            ck true <|
            some (w5r0 true))))
def w5 [Alg] (N : Nat) (l0 : (List Int)) : O := w5G N (w5n0 N) (w5n1 N) (w5n2 N) l0
noncomputable def w5h [Alg] (N : Nat) : Hint := (.seq .d (.seq .d (.seq .d (.seq .d (.seq .d (.seq .d (.seq (.seq .d (.block (.sub w5m0 _ _ _ w5X0_0 w5X0_1 (noX 2) (subL w5I0 w5u0 (w5l0 N N))))) (.seq (.seq .d (.block (.sub w5m2 _ _ _ w5X2_0 w5X2_1 (noX 2) (subL w5I2 w5u2 (w5l2 N N))))) .d))))))))
theorem w5hk (N : Nat) (hc : CxOk (w5c N)) : HintOk (w5c N) Tryd.f5.ntmps (w5h N) w5b := hk_of _ _ (And.intro trivial (And.intro trivial (And.intro trivial (And.intro trivial (And.intro trivial (And.intro trivial (And.intro (And.intro trivial (w5S0 N hc)) (And.intro (And.intro trivial (w5S2 N hc)) trivial))))))))
theorem w5q [Alg] (N : Nat) (l0 : (List Int)) : w5G N (w5s0 N) (w5s1 N) (w5s2 N) l0 = exec (w5c N) Tryd.f5.ntmps (w5h N) w5b ⟨argT 0 [.e (.sl (.i .i64)) l0], [], 100⟩ (finX (w5c N) Tryd.f5 false) := by kernel_rfl
theorem w5does {N : Nat} (hc : CxOk (w5c N)) {l0 : (List Int)} {r : Res} (h : w5 N l0 = some r) : Does Tryd.prog 5 (([.e (.sl (.i .i64)) l0] : List X).map X.D) (HA []) r.1.D (HA r.2) :=
  fun_ok hc (f := 5) (fn := Tryd.f5) (code := w5b) (by kernel_rfl) (by kernel_rfl) (w5hk N hc) (Nat.le_of_ble_eq_true (by kernel_rfl)) (ow := false) ((w5q N l0).symm.trans (by rw [w5e0 N, w5e1 N, w5e2 N]; exact h))
def w5un (r : Res) : Option (Bool) := match r with
  | (x0, []) => (match ue .bo x0 with | some a0 => some a0 | _ => none)
  | _ => none
theorem w5uo {r : Res} {d : Bool} (h : w5un r = some d) : r = w5r0 (d) := by
  unfold w5un at h
  split at h
  · split at h
    · rename_i h0; cases h; rw [ue_some h0]; rfl
    · cases h
  · cases h
def w5z (N : Nat) (l0 : (List Int)) : Option (Bool) := (w5 N l0).bind w5un
theorem w5fin {N : Nat} (hc : CxOk (w5c N)) {l0 : (List Int)} {d : Bool} (hd : w5z N l0 = some d) : Does Tryd.prog 5 (([.e (.sl (.i .i64)) l0] : List X).map X.D) (HA []) (w5r0 (d)).1.D (HA (w5r0 (d)).2) := by
  obtain ⟨r, hr, hu⟩ := Option.bind_eq_some_iff.1 hd
  have := w5does hc hr
  rw [w5uo hu] at this
  exact this
def w5p (N : Nat) (l0 : (List Int)) : Bool := (w5z N l0).isSome
def w5y0 (N : Nat) (l0 : (List Int)) : Bool := ((w5z N l0).getD false)
def w5e (N : Nat) : Ent' := E1 (.sl (.i .i64))  (fun x0 => (w5p N x0, w5r0 (w5y0 N x0)))
theorem w5re {N : Nat} {l0 : (List Int)} {d : Bool} (hd : w5z N l0 = some d) : w5r0 (w5y0 N l0) = w5r0 (d) := by unfold w5y0; rw [hd]; rfl
theorem w5ok (N : Nat) : EOk Tryd.prog 5 (w5e N) := EOk.e1 (fun x0 h => by
  have h : (w5z N x0).isSome = true := h
  obtain ⟨d, hd⟩ := Option.isSome_iff_exists.1 h
  have f := w5fin (w5cx N) hd
  rw [← w5re hd] at f
  exact f)
def w6r0 (a0 : Bool) : Res := (.e .bo a0, [])
noncomputable def w6L (N : Nat) : List (Nat × Ent') := [(25, w25e N), (13, w13e N), (20, l20e N)]
noncomputable def w6c (N : Nat) : Cx := ⟨Tryd.prog, 99999, w6L N⟩
noncomputable def w6b : Code := Tryd.f6.body.getD .skip
theorem w6cx (N : Nat) : CxOk (w6c N) := ctx_ok (by kernel_rfl) (.cons (by kernel_rfl) (w25ok N) (.cons (by kernel_rfl) (w13ok N) (.cons (by kernel_rfl) (l20ok N) .nil)))
def w6G [Alg] (N : Nat)  (a0 : Int) (b1 : Int) : O :=
  ck (w25p N a0 (1000000 : Int)) <|
  ck (w25p N b1 (1000000 : Int)) <|
  ck (w13p N (4 : Int) [max (w25y0 N a0 (1000000 : Int)) (w25y0 N b1 (1000000 : Int)), min (w25y0 N a0 (1000000 : Int)) (w25y0 N b1 (1000000 : Int))]) <|
  br (decide (w13y1 N (4 : Int) [max (w25y0 N a0 (1000000 : Int)) (w25y0 N b1 (1000000 : Int)), min (w25y0 N a0 (1000000 : Int)) (w25y0 N b1 (1000000 : Int))] ≠ (0 : Int)) || decide ((↑(w13y0 N (4 : Int) [max (w25y0 N a0 (1000000 : Int)) (w25y0 N b1 (1000000 : Int)), min (w25y0 N a0 (1000000 : Int)) (w25y0 N b1 (1000000 : Int))]).length : Int) ≠ (1 : Int)))
    (some (w6r0 false))
    (gx (w13y0 N (4 : Int) [max (w25y0 N a0 (1000000 : Int)) (w25y0 N b1 (1000000 : Int)), min (w25y0 N a0 (1000000 : Int)) (w25y0 N b1 (1000000 : Int))]) ((0 : Int)) fun y0 =>
    ck (w13p N (3 : Int) [y0, min (w25y0 N a0 (1000000 : Int)) (w25y0 N b1 (1000000 : Int))]) <|
    ck true <|
    ck (w13p N (6 : Int) [w25y0 N a0 (1000000 : Int), IntKind.i64.wrap ((1 : Int) + (w25y0 N b1 (1000000 : Int)).tmod (999999 : Int))]) <|
    gc (!(decide (w13y1 N (3 : Int) [y0, min (w25y0 N a0 (1000000 : Int)) (w25y0 N b1 (1000000 : Int))] ≠ (0 : Int)) || decide (w13y1 N (6 : Int) [w25y0 N a0 (1000000 : Int), IntKind.i64.wrap ((1 : Int) + (w25y0 N b1 (1000000 : Int)).tmod (999999 : Int))] ≠ (0 : Int)) || decide ((↑(w13y0 N (3 : Int) [y0, min (w25y0 N a0 (1000000 : Int)) (w25y0 N b1 (1000000 : Int))]).length : Int) ≠ (1 : Int)) || decide ((↑(w13y0 N (6 : Int) [w25y0 N a0 (1000000 : Int), IntKind.i64.wrap ((1 : Int) + (w25y0 N b1 (1000000 : Int)).tmod (999999 : Int))]).length : Int) ≠ (2 : Int)))) ((0 : Int)) (w13y0 N (3 : Int) [y0, min (w25y0 N a0 (1000000 : Int)) (w25y0 N b1 (1000000 : Int))]) ((0 : Int)) fun y1 =>
    gc (!(decide (w13y1 N (3 : Int) [y0, min (w25y0 N a0 (1000000 : Int)) (w25y0 N b1 (1000000 : Int))] ≠ (0 : Int)) || decide (w13y1 N (6 : Int) [w25y0 N a0 (1000000 : Int), IntKind.i64.wrap ((1 : Int) + (w25y0 N b1 (1000000 : Int)).tmod (999999 : Int))] ≠ (0 : Int)) || decide ((↑(w13y0 N (3 : Int) [y0, min (w25y0 N a0 (1000000 : Int)) (w25y0 N b1 (1000000 : Int))]).length : Int) ≠ (1 : Int)) || decide ((↑(w13y0 N (6 : Int) [w25y0 N a0 (1000000 : Int), IntKind.i64.wrap ((1 : Int) + (w25y0 N b1 (1000000 : Int)).tmod (999999 : Int))]).length : Int) ≠ (2 : Int)) || decide (y1 ≠ max (w25y0 N a0 (1000000 : Int)) (w25y0 N b1 (1000000 : Int))))) ((0 : Int)) (w13y0 N (6 : Int) [w25y0 N a0 (1000000 : Int), IntKind.i64.wrap ((1 : Int) + (w25y0 N b1 (1000000 : Int)).tmod (999999 : Int))]) ((1 : Int)) fun y2 =>
    gc (!(decide (w13y1 N (3 : Int) [y0, min (w25y0 N a0 (1000000 : Int)) (w25y0 N b1 (1000000 : Int))] ≠ (0 : Int)) || decide (w13y1 N (6 : Int) [w25y0 N a0 (1000000 : Int), IntKind.i64.wrap ((1 : Int) + (w25y0 N b1 (1000000 : Int)).tmod (999999 : Int))] ≠ (0 : Int)) || decide ((↑(w13y0 N (3 : Int) [y0, min (w25y0 N a0 (1000000 : Int)) (w25y0 N b1 (1000000 : Int))]).length : Int) ≠ (1 : Int)) || decide ((↑(w13y0 N (6 : Int) [w25y0 N a0 (1000000 : Int), IntKind.i64.wrap ((1 : Int) + (w25y0 N b1 (1000000 : Int)).tmod (999999 : Int))]).length : Int) ≠ (2 : Int)) || decide (y1 ≠ max (w25y0 N a0 (1000000 : Int)) (w25y0 N b1 (1000000 : Int))) || decide (y2 < (0 : Int)))) ((0 : Int)) (w13y0 N (6 : Int) [w25y0 N a0 (1000000 : Int), IntKind.i64.wrap ((1 : Int) + (w25y0 N b1 (1000000 : Int)).tmod (999999 : Int))]) ((1 : Int)) fun y3 =>
    ck (!!(decide (w13y1 N (3 : Int) [y0, min (w25y0 N a0 (1000000 : Int)) (w25y0 N b1 (1000000 : Int))] ≠ (0 : Int)) || decide (w13y1 N (6 : Int) [w25y0 N a0 (1000000 : Int), IntKind.i64.wrap ((1 : Int) + (w25y0 N b1 (1000000 : Int)).tmod (999999 : Int))] ≠ (0 : Int)) || decide ((↑(w13y0 N (3 : Int) [y0, min (w25y0 N a0 (1000000 : Int)) (w25y0 N b1 (1000000 : Int))]).length : Int) ≠ (1 : Int)) || decide ((↑(w13y0 N (6 : Int) [w25y0 N a0 (1000000 : Int), IntKind.i64.wrap ((1 : Int) + (w25y0 N b1 (1000000 : Int)).tmod (999999 : Int))]).length : Int) ≠ (2 : Int)) || decide (y1 ≠ max (w25y0 N a0 (1000000 : Int)) (w25y0 N b1 (1000000 : Int))) || decide (y2 < (0 : Int))) || true) <|
    br (decide (w13y1 N (3 : Int) [y0, min (w25y0 N a0 (1000000 : Int)) (w25y0 N b1 (1000000 : Int))] ≠ (0 : Int)) || decide (w13y1 N (6 : Int) [w25y0 N a0 (1000000 : Int), IntKind.i64.wrap ((1 : Int) + (w25y0 N b1 (1000000 : Int)).tmod (999999 : Int))] ≠ (0 : Int)) || decide ((↑(w13y0 N (3 : Int) [y0, min (w25y0 N a0 (1000000 : Int)) (w25y0 N b1 (1000000 : Int))]).length : Int) ≠ (1 : Int)) || decide ((↑(w13y0 N (6 : Int) [w25y0 N a0 (1000000 : Int), IntKind.i64.wrap ((1 : Int) + (w25y0 N b1 (1000000 : Int)).tmod (999999 : Int))]).length : Int) ≠ (2 : Int)) || decide (y1 ≠ max (w25y0 N a0 (1000000 : Int)) (w25y0 N b1 (1000000 : Int))) || decide (y2 < (0 : Int)) || decide ((w25y0 N b1 (1000000 : Int)).tmod (999999 : Int) < y3))
      (some (w6r0 false))
      (gx (w13y0 N (6 : Int) [w25y0 N a0 (1000000 : Int), IntKind.i64.wrap ((1 : Int) + (w25y0 N b1 (1000000 : Int)).tmod (999999 : Int))]) ((0 : Int)) fun y4 =>
      ck true <|
      ck (w13p N (5 : Int) [y4, IntKind.i64.wrap ((1 : Int) + (w25y0 N b1 (1000000 : Int)).tmod (999999 : Int))]) <|
      gc (decide (w13y1 N (5 : Int) [y4, IntKind.i64.wrap ((1 : Int) + (w25y0 N b1 (1000000 : Int)).tmod (999999 : Int))] = (0 : Int)) && decide ((↑(w13y0 N (5 : Int) [y4, IntKind.i64.wrap ((1 : Int) + (w25y0 N b1 (1000000 : Int)).tmod (999999 : Int))]).length : Int) = (1 : Int))) ((0 : Int)) (w13y0 N (5 : Int) [y4, IntKind.i64.wrap ((1 : Int) + (w25y0 N b1 (1000000 : Int)).tmod (999999 : Int))]) ((0 : Int)) fun y5 =>
      gc (decide (w13y1 N (5 : Int) [y4, IntKind.i64.wrap ((1 : Int) + (w25y0 N b1 (1000000 : Int)).tmod (999999 : Int))] = (0 : Int)) && decide ((↑(w13y0 N (5 : Int) [y4, IntKind.i64.wrap ((1 : Int) + (w25y0 N b1 (1000000 : Int)).tmod (999999 : Int))]).length : Int) = (1 : Int))) ((0 : Int)) (w13y0 N (6 : Int) [w25y0 N a0 (1000000 : Int), IntKind.i64.wrap ((1 : Int) + (w25y0 N b1 (1000000 : Int)).tmod (999999 : Int))]) ((1 : Int)) fun y6 =>
      ck (!(decide (w13y1 N (5 : Int) [y4, IntKind.i64.wrap ((1 : Int) + (w25y0 N b1 (1000000 : Int)).tmod (999999 : Int))] = (0 : Int)) && decide ((↑(w13y0 N (5 : Int) [y4, IntKind.i64.wrap ((1 : Int) + (w25y0 N b1 (1000000 : Int)).tmod (999999 : Int))]).length : Int) = (1 : Int)) && decide (IntKind.i64.wrap (y5 + y6) = w25y0 N a0 (1000000 : Int))) || true) <|
      some (w6r0 (decide (w13y1 N (5 : Int) [y4, IntKind.i64.wrap ((1 : Int) + (w25y0 N b1 (1000000 : Int)).tmod (999999 : Int))] = (0 : Int)) && decide ((↑(w13y0 N (5 : Int) [y4, IntKind.i64.wrap ((1 : Int) + (w25y0 N b1 (1000000 : Int)).tmod (999999 : Int))]).length : Int) = (1 : Int)) && decide (IntKind.i64.wrap (y5 + y6) = w25y0 N a0 (1000000 : Int)) && true))))
def w6 [Alg] (N : Nat) (a0 : Int) (b1 : Int) : O := w6G N  a0 b1
noncomputable def w6h [Alg] (_ : Nat) : Hint := .d
theorem w6hk (N : Nat) : HintOk (w6c N) Tryd.f6.ntmps (w6h N) w6b := hk_of _ _ trivial
theorem w6q [Alg] (N : Nat) (a0 : Int) (b1 : Int) : w6G N  a0 b1 = exec (w6c N) Tryd.f6.ntmps (w6h N) w6b ⟨argT 0 [.e (.i .i64) a0, .e (.i .i64) b1], [], 100⟩ (finX (w6c N) Tryd.f6 false) := by kernel_rfl
theorem w6does {N : Nat} (hc : CxOk (w6c N)) {a0 : Int} {b1 : Int} {r : Res} (h : w6 N a0 b1 = some r) : Does Tryd.prog 6 (([.e (.i .i64) a0, .e (.i .i64) b1] : List X).map X.D) (HA []) r.1.D (HA r.2) :=
  fun_ok hc (f := 6) (fn := Tryd.f6) (code := w6b) (by kernel_rfl) (by kernel_rfl) (w6hk N) (Nat.le_of_ble_eq_true (by kernel_rfl)) (ow := false) ((w6q N a0 b1).symm.trans (by exact h))
def w6un (r : Res) : Option (Bool) := match r with
  | (x0, []) => (match ue .bo x0 with | some a0 => some a0 | _ => none)
  | _ => none
theorem w6uo {r : Res} {d : Bool} (h : w6un r = some d) : r = w6r0 (d) := by
  unfold w6un at h
  split at h
  · split at h
    · rename_i h0; cases h; rw [ue_some h0]; rfl
    · cases h
  · cases h
def w6z (N : Nat) (a0 : Int) (b1 : Int) : Option (Bool) := (w6 N a0 b1).bind w6un
theorem w6fin {N : Nat} (hc : CxOk (w6c N)) {a0 : Int} {b1 : Int} {d : Bool} (hd : w6z N a0 b1 = some d) : Does Tryd.prog 6 (([.e (.i .i64) a0, .e (.i .i64) b1] : List X).map X.D) (HA []) (w6r0 (d)).1.D (HA (w6r0 (d)).2) := by
  obtain ⟨r, hr, hu⟩ := Option.bind_eq_some_iff.1 hd
  have := w6does hc hr
  rw [w6uo hu] at this
  exact this
def w6p (N : Nat) (a0 : Int) (b1 : Int) : Bool := (w6z N a0 b1).isSome
def w6y0 (N : Nat) (a0 : Int) (b1 : Int) : Bool := ((w6z N a0 b1).getD false)
def w6e (N : Nat) : Ent' := E2 (.i .i64) (.i .i64)  (fun x0 x1 => (w6p N x0 x1, w6r0 (w6y0 N x0 x1)))
theorem w6re {N : Nat} {a0 : Int} {b1 : Int} {d : Bool} (hd : w6z N a0 b1 = some d) : w6r0 (w6y0 N a0 b1) = w6r0 (d) := by unfold w6y0; rw [hd]; rfl
theorem w6ok (N : Nat) : EOk Tryd.prog 6 (w6e N) := EOk.e2 (fun x0 x1 h => by
  have h : (w6z N x0 x1).isSome = true := h
  obtain ⟨d, hd⟩ := Option.isSome_iff_exists.1 h
  have f := w6fin (w6cx N) hd
  rw [← w6re hd] at f
  exact f)
end
end Go.Proofs
