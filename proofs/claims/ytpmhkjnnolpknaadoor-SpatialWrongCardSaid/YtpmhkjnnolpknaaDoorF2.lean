/- What functions do. Conditions are in the theorems. -/
import Derived.Test.YtpmhkjnnolpknaaDoorE7
import Derived.Test.YtpmhkjnnolpknaaDoorF0
import Derived.Test.YtpmhkjnnolpknaaDoorProg
import Derived.KernelRfl
import Derived.Test.YtpmhkjnnolpknaaDoorF1
/- What functions do. -/
namespace Go.Proofs
noncomputable section
open Go.Ax Go.Ax.Alg Go.RowKit Go.Ab
open Go
def w42r0 (a0 : (List (List UInt8))) : Res := (.e (.sl (.sl .u8)) a0, [])
noncomputable def w42L (N : Nat) : List (Nat × Ent') := [(57, w57e N), (62, w62e N), (36, w36e N), (63, w63e N), (64, w64e N), (65, w65e N), (66, w66e N)]
noncomputable def w42c (N : Nat) : Cx := ⟨Tryd.prog, 99999, w42L N⟩
noncomputable def w42b : Code := Tryd.f42.body.getD .skip
theorem w42cx (N : Nat) : CxOk (w42c N) := ctx_ok (by kernel_rfl) (.cons (by kernel_rfl) (w57ok N) (.cons (by kernel_rfl) (w62ok N) (.cons (by kernel_rfl) (w36ok N) (.cons (by kernel_rfl) (w63ok N) (.cons (by kernel_rfl) (w64ok N) (.cons (by kernel_rfl) (w65ok N) (.cons (by kernel_rfl) (w66ok N) .nil)))))))
def w42F0 [Alg] (N : Nat)  (self : Int → Int → (List (List UInt8)) → O) (k0 : Int → Int → (List Int) → Int → (List (List UInt8)) → O) (x1_0 : Int) (x1_1 : (List Int)) (x1_2 : Int) (x1_4 : Int) (x1_5 : (List Int)) (x1_3 : Int) (x1_6 : Int) (x1_7 : (List (List UInt8))) : O :=
  br (decide (x1_3 < x1_2))
    (gx x1_1 x1_3 fun y4 =>
    br (decide ((0 : Int) < y4))
      (ck (w63p N y4 (IntKind.i64.wrap (x1_3 + (1 : Int))) x1_6 x1_7) <|
      self (IntKind.i64.wrap (x1_3 + (1 : Int))) (w63y0 N y4 (IntKind.i64.wrap (x1_3 + (1 : Int))) x1_6 x1_7) (w63y1 N y4 (IntKind.i64.wrap (x1_3 + (1 : Int))) x1_6 x1_7))
      (self (IntKind.i64.wrap (x1_3 + (1 : Int))) x1_6 x1_7))
    (k0 x1_0 x1_4 x1_5 x1_6 x1_7)
noncomputable def w42b0 : Code := atC [1, 1, 1, 0, 1, 0, 0] w42b
def w42m0 : Nm := ⟨[1, 2, 4, 5, 24, 25, 26], [], []⟩
def w42I0 (x : Int × (List Int) × Int × Int × Int × (List Int) × Int × (List (List UInt8))) : Sg := ⟨[(1, .e (.i .i64) x.1), (2, .ref 0 0), (4, .nilS), (5, .ref 1 0), (24, .e (.sl (.i .i64)) x.2.1), (25, .e (.i .i64) x.2.2.1), (26, .e (.i .i64) x.2.2.2.1)], [(0, .box 24 [.e (.i .i64) x.2.2.2.2.1, .e (.sl (.i .i64)) x.2.2.2.2.2.1]), (1, .box 82 [.own 2, .e (.i .i64) x.2.2.2.2.2.2.1]), (2, .nest 42 5 .u8 x.2.2.2.2.2.2.2)], 100⟩
def w42u0 (σ : Sg) : Int × (List Int) × Int × Int × Int × (List Int) × Int × (List (List UInt8)) := (lvT (.i .i64) 1 0 σ, lvT (.sl (.i .i64)) 24 0 σ, lvT (.i .i64) 25 0 σ, lvT (.i .i64) 26 0 σ, lvH (.i .i64) 0 0 σ, lvH (.sl (.i .i64)) 0 1 σ, lvH (.i .i64) 1 1 σ, lvN .u8 2 σ)
theorem w42ui0 : ∀ x, w42u0 (w42I0 x) = x := fun _ => by kernel_rfl
def w42X0_0 (y : Int × Int × (List Int) × Int × (List (List UInt8))) : Exit × Sg := ((.exit 0), ⟨[(1, .e (.i .i64) y.1), (2, .ref 0 0), (4, .nilS), (5, .ref 1 0)], [(0, .box 24 [.e (.i .i64) y.2.1, .e (.sl (.i .i64)) y.2.2.1]), (1, .box 82 [.own 2, .e (.i .i64) y.2.2.2.1]), (2, .nest 42 5 .u8 y.2.2.2.2)], 100⟩)
def w42v0_0 (σ : Sg) : Int × Int × (List Int) × Int × (List (List UInt8)) := (lvT (.i .i64) 1 0 σ, lvH (.i .i64) 0 0 σ, lvH (.sl (.i .i64)) 0 1 σ, lvH (.i .i64) 1 1 σ, lvN .u8 2 σ)
def w42w0 : List (Exit × Nm) := [((.exit 0), ⟨[1, 2, 4, 5], [], []⟩)]
theorem w42o0 : Outs w42v0_0 (fun _ => ()) (fun _ => ()) w42X0_0 (noX 1) (noX 2) (.exit 0) (.goto 1) (.goto 2) := ⟨fun _ => by kernel_rfl, fun _ => by kernel_rfl, fun _ => by kernel_rfl, fun _ => by kernel_rfl, fun _ => by kernel_rfl, fun _ => by kernel_rfl, exNe_ok (by kernel_rfl), exNe_ok (by kernel_rfl), exNe_ok (by kernel_rfl)⟩
def w42l0 [Alg] (N : Nat) : Nat → (Int × (List Int) × Int × Int × Int × (List Int) × Int × (List (List UInt8))) → ((Int × Int × (List Int) × Int × (List (List UInt8))) → O) → ((Unit) → O) → ((Unit) → O) → O
  | 0, _, _, _, _ => none
  | n + 1, x, k0, k1, k2 => w42F0 N  (fun v0 v1 v2 => w42l0 N n (x.1, x.2.1, x.2.2.1, v0, x.2.2.2.2.1, x.2.2.2.2.2.1, v1, v2) k0 k1 k2) (fun y0 y1 y2 y3 y4 => k0 (y0, y1, y2, y3, y4)) x.1 x.2.1 x.2.2.1 x.2.2.2.2.1 x.2.2.2.2.2.1 x.2.2.2.1 x.2.2.2.2.2.2.1 x.2.2.2.2.2.2.2
def w42n0 [Alg] (N : Nat) (a0 : Int) (a1 : (List Int)) (a2 : Int) (a3 : Int) (a4 : Int) (a5 : (List Int)) (a6 : Int) (a7 : (List (List UInt8))) (k0 : Int → Int → (List Int) → Int → (List (List UInt8)) → O) : O := w42l0 N N (a0, a1, a2, a3, a4, a5, a6, a7) (fun y => k0 y.1 y.2.1 y.2.2.1 y.2.2.2.1 y.2.2.2.2) (fun _ => none) (fun _ => none)
noncomputable def w42s0 [Alg] (N : Nat) (a0 : Int) (a1 : (List Int)) (a2 : Int) (a3 : Int) (a4 : Int) (a5 : (List Int)) (a6 : Int) (a7 : (List (List UInt8))) (k0 : Int → Int → (List Int) → Int → (List (List UInt8)) → O) : O := subL w42I0 w42u0 (w42l0 N N) (w42I0 (a0, a1, a2, a3, a4, a5, a6, a7)) (fun y => k0 y.1 y.2.1 y.2.2.1 y.2.2.2.1 y.2.2.2.2) (fun _ => none) (fun _ => none)
theorem w42e0 [Alg] (N : Nat) : w42s0 N = w42n0 N := funext fun _ => funext fun _ => funext fun _ => funext fun _ => funext fun _ => funext fun _ => funext fun _ => funext fun _ => funext fun _ => subL_I w42ui0 _ _ _ _
noncomputable def w42h0 [Alg] (_ : Nat) : Hint := .d
theorem w42hk0 (N : Nat) : HintOk (w42c N) Tryd.f42.ntmps (w42h0 N) w42b0 := hk_of _ _ trivial
theorem w42q0 [Alg] (N : Nat) (self : Sg → O) (K : Exit → Sg → O) (x : Int × (List Int) × Int × Int × Int × (List Int) × Int × (List (List UInt8))) : w42F0 N  (fun v0 v1 v2 => self (w42I0 (x.1, x.2.1, x.2.2.1, v0, x.2.2.2.2.1, x.2.2.2.2.2.1, v1, v2))) (fun y0 y1 y2 y3 y4 => K (w42X0_0 (y0, y1, y2, y3, y4)).1 (w42X0_0 (y0, y1, y2, y3, y4)).2) x.1 x.2.1 x.2.2.1 x.2.2.2.2.1 x.2.2.2.2.2.1 x.2.2.2.1 x.2.2.2.2.2.2.1 x.2.2.2.2.2.2.2 = exec (w42c N) Tryd.f42.ntmps (w42h0 N) w42b0 (w42I0 x) (roundX w42m0 w42w0 self K) := by kernel_rfl
theorem w42S0 (N : Nat) (hc : CxOk (w42c N)) : SubOk (w42c N) Tryd.f42.ntmps (.loop w42b0) w42X0_0 (noX 1) (noX 2) (subL w42I0 w42u0 (w42l0 N N)) :=
  sub_loop hc (w42hk0 N) w42o0 (n := N) (fun x K => loop_ind (w42l0 N) (fun _ _ _ _ => rfl) (fun n K ih x => by
    have h : w42F0 N  (fun v0 v1 v2 => w42l0 N n (x.1, x.2.1, x.2.2.1, v0, x.2.2.2.2.1, x.2.2.2.2.2.1, v1, v2) (fun y => K (w42X0_0 y).1 (w42X0_0 y).2) (fun y => K ((noX 1) y).1 ((noX 1) y).2) (fun y => K ((noX 2) y).1 ((noX 2) y).2)) (fun y0 y1 y2 y3 y4 => K (w42X0_0 (y0, y1, y2, y3, y4)).1 (w42X0_0 (y0, y1, y2, y3, y4)).2) x.1 x.2.1 x.2.2.1 x.2.2.2.2.1 x.2.2.2.2.2.1 x.2.2.2.1 x.2.2.2.2.2.2.1 x.2.2.2.2.2.2.2 = w42F0 N  (fun v0 v1 v2 => loopX (w42c N) Tryd.f42.ntmps (w42h0 N) w42b0 w42m0 w42w0 n (w42I0 (x.1, x.2.1, x.2.2.1, v0, x.2.2.2.2.1, x.2.2.2.2.2.1, v1, v2)) K) (fun y0 y1 y2 y3 y4 => K (w42X0_0 (y0, y1, y2, y3, y4)).1 (w42X0_0 (y0, y1, y2, y3, y4)).2) x.1 x.2.1 x.2.2.1 x.2.2.2.2.1 x.2.2.2.2.2.1 x.2.2.2.1 x.2.2.2.2.2.2.1 x.2.2.2.2.2.2.2 := by rw [ show (fun v0 v1 v2 => w42l0 N n (x.1, x.2.1, x.2.2.1, v0, x.2.2.2.2.1, x.2.2.2.2.2.1, v1, v2) (fun y => K (w42X0_0 y).1 (w42X0_0 y).2) (fun y => K ((noX 1) y).1 ((noX 1) y).2) (fun y => K ((noX 2) y).1 ((noX 2) y).2)) = (fun v0 v1 v2 => loopX (w42c N) Tryd.f42.ntmps (w42h0 N) w42b0 w42m0 w42w0 n (w42I0 (x.1, x.2.1, x.2.2.1, v0, x.2.2.2.2.1, x.2.2.2.2.2.1, v1, v2)) K) from funext fun _ => funext fun _ => funext fun _ => ih _]
    exact h.trans (w42q0 N (fun σ => loopX (w42c N) Tryd.f42.ntmps (w42h0 N) w42b0 w42m0 w42w0 n σ K) K x)) N x K)
def w42F1 [Alg] (N : Nat)  (self : Int → Int → (List (List UInt8)) → O) (k0 : Int → Int → (List Int) → Int → (List (List UInt8)) → O) (x10_0 : Int) (x10_1 : (List Int)) (x10_2 : Int) (x10_4 : Int) (x10_5 : (List Int)) (x10_3 : Int) (x10_6 : Int) (x10_7 : (List (List UInt8))) : O :=
  br (decide (x10_3 < x10_2))
    (gx x10_1 x10_3 fun y13 =>
    ck (w64p N y13 (0 : Int) x10_6 x10_7) <|
    self (IntKind.i64.wrap (x10_3 + (1 : Int))) (w64y0 N y13 (0 : Int) x10_6 x10_7) (w64y1 N y13 (0 : Int) x10_6 x10_7))
    (k0 x10_0 x10_4 x10_5 x10_6 x10_7)
noncomputable def w42b1 : Code := atC [1, 1, 1, 1, 0, 1, 0, 0] w42b
def w42m1 : Nm := ⟨[1, 2, 4, 5, 40, 41, 42], [], []⟩
def w42I1 (x : Int × (List Int) × Int × Int × Int × (List Int) × Int × (List (List UInt8))) : Sg := ⟨[(1, .e (.i .i64) x.1), (2, .ref 0 0), (4, .nilS), (5, .ref 1 0), (40, .e (.sl (.i .i64)) x.2.1), (41, .e (.i .i64) x.2.2.1), (42, .e (.i .i64) x.2.2.2.1)], [(0, .box 24 [.e (.i .i64) x.2.2.2.2.1, .e (.sl (.i .i64)) x.2.2.2.2.2.1]), (1, .box 82 [.own 2, .e (.i .i64) x.2.2.2.2.2.2.1]), (2, .nest 42 5 .u8 x.2.2.2.2.2.2.2)], 100⟩
def w42u1 (σ : Sg) : Int × (List Int) × Int × Int × Int × (List Int) × Int × (List (List UInt8)) := (lvT (.i .i64) 1 0 σ, lvT (.sl (.i .i64)) 40 0 σ, lvT (.i .i64) 41 0 σ, lvT (.i .i64) 42 0 σ, lvH (.i .i64) 0 0 σ, lvH (.sl (.i .i64)) 0 1 σ, lvH (.i .i64) 1 1 σ, lvN .u8 2 σ)
theorem w42ui1 : ∀ x, w42u1 (w42I1 x) = x := fun _ => by kernel_rfl
def w42X1_0 (y : Int × Int × (List Int) × Int × (List (List UInt8))) : Exit × Sg := ((.exit 2), ⟨[(1, .e (.i .i64) y.1), (2, .ref 0 0), (4, .nilS), (5, .ref 1 0)], [(0, .box 24 [.e (.i .i64) y.2.1, .e (.sl (.i .i64)) y.2.2.1]), (1, .box 82 [.own 2, .e (.i .i64) y.2.2.2.1]), (2, .nest 42 5 .u8 y.2.2.2.2)], 100⟩)
def w42v1_0 (σ : Sg) : Int × Int × (List Int) × Int × (List (List UInt8)) := (lvT (.i .i64) 1 0 σ, lvH (.i .i64) 0 0 σ, lvH (.sl (.i .i64)) 0 1 σ, lvH (.i .i64) 1 1 σ, lvN .u8 2 σ)
def w42w1 : List (Exit × Nm) := [((.exit 2), ⟨[1, 2, 4, 5], [], []⟩)]
theorem w42o1 : Outs w42v1_0 (fun _ => ()) (fun _ => ()) w42X1_0 (noX 1) (noX 2) (.exit 2) (.goto 1) (.goto 2) := ⟨fun _ => by kernel_rfl, fun _ => by kernel_rfl, fun _ => by kernel_rfl, fun _ => by kernel_rfl, fun _ => by kernel_rfl, fun _ => by kernel_rfl, exNe_ok (by kernel_rfl), exNe_ok (by kernel_rfl), exNe_ok (by kernel_rfl)⟩
def w42l1 [Alg] (N : Nat) : Nat → (Int × (List Int) × Int × Int × Int × (List Int) × Int × (List (List UInt8))) → ((Int × Int × (List Int) × Int × (List (List UInt8))) → O) → ((Unit) → O) → ((Unit) → O) → O
  | 0, _, _, _, _ => none
  | n + 1, x, k0, k1, k2 => w42F1 N  (fun v0 v1 v2 => w42l1 N n (x.1, x.2.1, x.2.2.1, v0, x.2.2.2.2.1, x.2.2.2.2.2.1, v1, v2) k0 k1 k2) (fun y0 y1 y2 y3 y4 => k0 (y0, y1, y2, y3, y4)) x.1 x.2.1 x.2.2.1 x.2.2.2.2.1 x.2.2.2.2.2.1 x.2.2.2.1 x.2.2.2.2.2.2.1 x.2.2.2.2.2.2.2
def w42n1 [Alg] (N : Nat) (a0 : Int) (a1 : (List Int)) (a2 : Int) (a3 : Int) (a4 : Int) (a5 : (List Int)) (a6 : Int) (a7 : (List (List UInt8))) (k0 : Int → Int → (List Int) → Int → (List (List UInt8)) → O) : O := w42l1 N N (a0, a1, a2, a3, a4, a5, a6, a7) (fun y => k0 y.1 y.2.1 y.2.2.1 y.2.2.2.1 y.2.2.2.2) (fun _ => none) (fun _ => none)
noncomputable def w42s1 [Alg] (N : Nat) (a0 : Int) (a1 : (List Int)) (a2 : Int) (a3 : Int) (a4 : Int) (a5 : (List Int)) (a6 : Int) (a7 : (List (List UInt8))) (k0 : Int → Int → (List Int) → Int → (List (List UInt8)) → O) : O := subL w42I1 w42u1 (w42l1 N N) (w42I1 (a0, a1, a2, a3, a4, a5, a6, a7)) (fun y => k0 y.1 y.2.1 y.2.2.1 y.2.2.2.1 y.2.2.2.2) (fun _ => none) (fun _ => none)
theorem w42e1 [Alg] (N : Nat) : w42s1 N = w42n1 N := funext fun _ => funext fun _ => funext fun _ => funext fun _ => funext fun _ => funext fun _ => funext fun _ => funext fun _ => funext fun _ => subL_I w42ui1 _ _ _ _
noncomputable def w42h1 [Alg] (_ : Nat) : Hint := .d
theorem w42hk1 (N : Nat) : HintOk (w42c N) Tryd.f42.ntmps (w42h1 N) w42b1 := hk_of _ _ trivial
theorem w42q1 [Alg] (N : Nat) (self : Sg → O) (K : Exit → Sg → O) (x : Int × (List Int) × Int × Int × Int × (List Int) × Int × (List (List UInt8))) : w42F1 N  (fun v0 v1 v2 => self (w42I1 (x.1, x.2.1, x.2.2.1, v0, x.2.2.2.2.1, x.2.2.2.2.2.1, v1, v2))) (fun y0 y1 y2 y3 y4 => K (w42X1_0 (y0, y1, y2, y3, y4)).1 (w42X1_0 (y0, y1, y2, y3, y4)).2) x.1 x.2.1 x.2.2.1 x.2.2.2.2.1 x.2.2.2.2.2.1 x.2.2.2.1 x.2.2.2.2.2.2.1 x.2.2.2.2.2.2.2 = exec (w42c N) Tryd.f42.ntmps (w42h1 N) w42b1 (w42I1 x) (roundX w42m1 w42w1 self K) := by kernel_rfl
theorem w42S1 (N : Nat) (hc : CxOk (w42c N)) : SubOk (w42c N) Tryd.f42.ntmps (.loop w42b1) w42X1_0 (noX 1) (noX 2) (subL w42I1 w42u1 (w42l1 N N)) :=
  sub_loop hc (w42hk1 N) w42o1 (n := N) (fun x K => loop_ind (w42l1 N) (fun _ _ _ _ => rfl) (fun n K ih x => by
    have h : w42F1 N  (fun v0 v1 v2 => w42l1 N n (x.1, x.2.1, x.2.2.1, v0, x.2.2.2.2.1, x.2.2.2.2.2.1, v1, v2) (fun y => K (w42X1_0 y).1 (w42X1_0 y).2) (fun y => K ((noX 1) y).1 ((noX 1) y).2) (fun y => K ((noX 2) y).1 ((noX 2) y).2)) (fun y0 y1 y2 y3 y4 => K (w42X1_0 (y0, y1, y2, y3, y4)).1 (w42X1_0 (y0, y1, y2, y3, y4)).2) x.1 x.2.1 x.2.2.1 x.2.2.2.2.1 x.2.2.2.2.2.1 x.2.2.2.1 x.2.2.2.2.2.2.1 x.2.2.2.2.2.2.2 = w42F1 N  (fun v0 v1 v2 => loopX (w42c N) Tryd.f42.ntmps (w42h1 N) w42b1 w42m1 w42w1 n (w42I1 (x.1, x.2.1, x.2.2.1, v0, x.2.2.2.2.1, x.2.2.2.2.2.1, v1, v2)) K) (fun y0 y1 y2 y3 y4 => K (w42X1_0 (y0, y1, y2, y3, y4)).1 (w42X1_0 (y0, y1, y2, y3, y4)).2) x.1 x.2.1 x.2.2.1 x.2.2.2.2.1 x.2.2.2.2.2.1 x.2.2.2.1 x.2.2.2.2.2.2.1 x.2.2.2.2.2.2.2 := by rw [ show (fun v0 v1 v2 => w42l1 N n (x.1, x.2.1, x.2.2.1, v0, x.2.2.2.2.1, x.2.2.2.2.2.1, v1, v2) (fun y => K (w42X1_0 y).1 (w42X1_0 y).2) (fun y => K ((noX 1) y).1 ((noX 1) y).2) (fun y => K ((noX 2) y).1 ((noX 2) y).2)) = (fun v0 v1 v2 => loopX (w42c N) Tryd.f42.ntmps (w42h1 N) w42b1 w42m1 w42w1 n (w42I1 (x.1, x.2.1, x.2.2.1, v0, x.2.2.2.2.1, x.2.2.2.2.2.1, v1, v2)) K) from funext fun _ => funext fun _ => funext fun _ => ih _]
    exact h.trans (w42q1 N (fun σ => loopX (w42c N) Tryd.f42.ntmps (w42h1 N) w42b1 w42m1 w42w1 n σ K) K x)) N x K)
def w42G [Alg] (N : Nat) (in0 : Int → (List Int) → Int → Int → Int → (List Int) → Int → (List (List UInt8)) → (Int → Int → (List Int) → Int → (List (List UInt8)) → O) → O) (in1 : Int → (List Int) → Int → Int → Int → (List Int) → Int → (List (List UInt8)) → (Int → Int → (List Int) → Int → (List (List UInt8)) → O) → O) (s0_0 : Int) (s0_1 : (List Int)) (result1 : Int) : O :=
  ck (w57p N result1) <|
  gx s0_1 ((0 : Int)) fun y0 =>
  ck (w57p N y0) <|
  ck (w62p N (IntKind.i64.wrap ((1 : Int) + max (w57y0 N result1) (w57y0 N y0))) []) <|
  ck (w36p N s0_0 s0_1) <|
  in0 result1 (w36y0 N s0_0 s0_1) ((↑(w36y0 N s0_0 s0_1).length : Int)) ((0 : Int)) s0_0 s0_1 (w62y0 N (IntKind.i64.wrap ((1 : Int) + max (w57y0 N result1) (w57y0 N y0))) []) (w62y1 N (IntKind.i64.wrap ((1 : Int) + max (w57y0 N result1) (w57y0 N y0))) [])
    (fun z5 z6 z7 z8 z9 =>
      in1 z5 z7 ((↑z7.length : Int)) ((0 : Int)) z6 z7 z8 z9
        (fun z14 z15 _ z17 z18 =>
          br (decide (z15 = (3 : Int)))
            (ck (w65p N (44 : UInt8) z17 z18) <|
            ck (w66p N (w65y0 N (44 : UInt8) z17 z18) (w65y1 N (44 : UInt8) z17 z18)) <|
            ck (w64p N z14 (0 : Int) (w66y0 N (w65y0 N (44 : UInt8) z17 z18) (w65y1 N (44 : UInt8) z17 z18)) (w66y1 N (w65y0 N (44 : UInt8) z17 z18) (w65y1 N (44 : UInt8) z17 z18))) <|
            some (w42r0 (w64y1 N z14 (0 : Int) (w66y0 N (w65y0 N (44 : UInt8) z17 z18) (w65y1 N (44 : UInt8) z17 z18)) (w66y1 N (w65y0 N (44 : UInt8) z17 z18) (w65y1 N (44 : UInt8) z17 z18)))))
            (ck (w65p N (36 : UInt8) z17 z18) <|
            ck (w66p N (w65y0 N (36 : UInt8) z17 z18) (w65y1 N (36 : UInt8) z17 z18)) <|
            ck (w64p N z14 (0 : Int) (w66y0 N (w65y0 N (36 : UInt8) z17 z18) (w65y1 N (36 : UInt8) z17 z18)) (w66y1 N (w65y0 N (36 : UInt8) z17 z18) (w65y1 N (36 : UInt8) z17 z18))) <|
            some (w42r0 (w64y1 N z14 (0 : Int) (w66y0 N (w65y0 N (36 : UInt8) z17 z18) (w65y1 N (36 : UInt8) z17 z18)) (w66y1 N (w65y0 N (36 : UInt8) z17 z18) (w65y1 N (36 : UInt8) z17 z18)))))))
def w42 [Alg] (N : Nat) (s0_0 : Int) (s0_1 : (List Int)) (result1 : Int) : O := w42G N (w42n0 N) (w42n1 N) s0_0 s0_1 result1
noncomputable def w42h [Alg] (N : Nat) : Hint := (.seq .d (.seq .d (.seq (.reg [] [.nilC 5 0 (.nest 42 5 .u8 [])] []) (.seq (.seq .d (.block (.sub w42m0 _ _ _ w42X0_0 (noX 1) (noX 2) (subL w42I0 w42u0 (w42l0 N N))))) (.seq (.seq .d (.block (.sub w42m1 _ _ _ w42X1_0 (noX 1) (noX 2) (subL w42I1 w42u1 (w42l1 N N))))) .d)))))
theorem w42hk (N : Nat) (hc : CxOk (w42c N)) : HintOk (w42c N) Tryd.f42.ntmps (w42h N) w42b := hk_of _ _ (And.intro trivial (And.intro trivial (And.intro trivial (And.intro (And.intro trivial (w42S0 N hc)) (And.intro (And.intro trivial (w42S1 N hc)) trivial)))))
theorem w42q [Alg] (N : Nat) (s0_0 : Int) (s0_1 : (List Int)) (result1 : Int) : w42G N (w42s0 N) (w42s1 N) s0_0 s0_1 result1 = exec (w42c N) Tryd.f42.ntmps (w42h N) w42b ⟨argT 0 [.agg [.e (.i .i64) s0_0, .e (.sl (.i .i64)) s0_1], .e (.i .i64) result1], [], 100⟩ (finX (w42c N) Tryd.f42 false) := by kernel_rfl
theorem w42does {N : Nat} (hc : CxOk (w42c N)) {s0_0 : Int} {s0_1 : (List Int)} {result1 : Int} {r : Res} (h : w42 N s0_0 s0_1 result1 = some r) : Does Tryd.prog 42 (([.agg [.e (.i .i64) s0_0, .e (.sl (.i .i64)) s0_1], .e (.i .i64) result1] : List X).map X.D) (HA []) r.1.D (HA r.2) :=
  fun_ok hc (f := 42) (fn := Tryd.f42) (code := w42b) (by kernel_rfl) (by kernel_rfl) (w42hk N hc) (Nat.le_of_ble_eq_true (by kernel_rfl)) (ow := false) ((w42q N s0_0 s0_1 result1).symm.trans (by rw [w42e0 N, w42e1 N]; exact h))
def w42un (r : Res) : Option ((List (List UInt8))) := match r with
  | (x0, []) => (match ue (.sl (.sl .u8)) x0 with | some a0 => some a0 | _ => none)
  | _ => none
theorem w42uo {r : Res} {d : (List (List UInt8))} (h : w42un r = some d) : r = w42r0 (d) := by
  unfold w42un at h
  split at h
  · split at h
    · rename_i h0; cases h; rw [ue_some h0]; rfl
    · cases h
  · cases h
def w42z (N : Nat) (s0_0 : Int) (s0_1 : (List Int)) (result1 : Int) : Option ((List (List UInt8))) := (w42 N s0_0 s0_1 result1).bind w42un
theorem w42fin {N : Nat} (hc : CxOk (w42c N)) {s0_0 : Int} {s0_1 : (List Int)} {result1 : Int} {d : (List (List UInt8))} (hd : w42z N s0_0 s0_1 result1 = some d) : Does Tryd.prog 42 (([.agg [.e (.i .i64) s0_0, .e (.sl (.i .i64)) s0_1], .e (.i .i64) result1] : List X).map X.D) (HA []) (w42r0 (d)).1.D (HA (w42r0 (d)).2) := by
  obtain ⟨r, hr, hu⟩ := Option.bind_eq_some_iff.1 hd
  have := w42does hc hr
  rw [w42uo hu] at this
  exact this
def w42p (N : Nat) (s0_0 : Int) (s0_1 : (List Int)) (result1 : Int) : Bool := (w42z N s0_0 s0_1 result1).isSome
def w42y0 (N : Nat) (s0_0 : Int) (s0_1 : (List Int)) (result1 : Int) : (List (List UInt8)) := ((w42z N s0_0 s0_1 result1).getD [])
def w42e (N : Nat) : Ent' := E2 (.pr (.i .i64) (.sl (.i .i64))) (.i .i64)  (fun x0 x1 => (w42p N x0.1 x0.2 x1, w42r0 (w42y0 N x0.1 x0.2 x1)))
theorem w42re {N : Nat} {s0_0 : Int} {s0_1 : (List Int)} {result1 : Int} {d : (List (List UInt8))} (hd : w42z N s0_0 s0_1 result1 = some d) : w42r0 (w42y0 N s0_0 s0_1 result1) = w42r0 (d) := by unfold w42y0; rw [hd]; rfl
theorem w42ok (N : Nat) : EOk Tryd.prog 42 (w42e N) := EOk.e2 (fun x0 x1 h => by
  have h : (w42z N x0.1 x0.2 x1).isSome = true := h
  obtain ⟨d, hd⟩ := Option.isSome_iff_exists.1 h
  have f := w42fin (w42cx N) hd
  rw [← w42re hd] at f
  exact f)
def w43r0 (a0 : (List (List UInt8))) : Res := (.e (.sl (.sl .u8)) a0, [])
noncomputable def w43L (N : Nat) : List (Nat × Ent') := [(57, w57e N), (64, w64e N), (65, w65e N), (66, w66e N)]
noncomputable def w43c (N : Nat) : Cx := ⟨Tryd.prog, 99999, w43L N⟩
noncomputable def w43b : Code := Tryd.f43.body.getD .skip
theorem w43cx (N : Nat) : CxOk (w43c N) := ctx_ok (by kernel_rfl) (.cons (by kernel_rfl) (w57ok N) (.cons (by kernel_rfl) (w64ok N) (.cons (by kernel_rfl) (w65ok N) (.cons (by kernel_rfl) (w66ok N) .nil))))
def w43F0 [Alg] (N : Nat)  (self : Int → Int → Int → (List Int) → O) (k0 : Int → Int → Int → Int → (List Int) → O) (x2_0 : Int) (x2_1 : Int) (x2_2 : Int) (x2_3 : Int) (x2_4 : Int) (x2_5 : Int) (x2_6 : (List Int)) : O :=
  br (decide (x2_4 = (0 : Int)) || decide ((0 : Int) < x2_5))
    (ck true <|
    ck (lim (x2_6 ++ [IntKind.i64.wrap (x2_1 * x2_5.tmod (10 : Int))]).length (8 : Nat)) <|
    ck true <|
    ck (w57p N (IntKind.i64.wrap (x2_1 * x2_5.tmod (10 : Int)))) <|
    ck true <|
    self (max x2_3 (IntKind.i64.wrap (w57y0 N (IntKind.i64.wrap (x2_1 * x2_5.tmod (10 : Int))) + x2_4))) (IntKind.i64.wrap (x2_4 + (1 : Int))) (IntKind.i64.wrap (x2_5.tdiv (10 : Int))) (x2_6 ++ [IntKind.i64.wrap (x2_1 * x2_5.tmod (10 : Int))]))
    (k0 x2_0 x2_1 x2_2 x2_3 x2_6)
noncomputable def w43b0 : Code := atC [1, 1, 1, 1, 0, 1, 0, 0] w43b
def w43m0 : Nm := ⟨[1, 4, 5, 6, 7, 8, 9, 10], [], [.nilR 8 (.row 3 (.i .i64) [] true)]⟩
def w43I0 (x : Int × Int × Int × Int × Int × Int × (List Int)) : Sg := ⟨[(1, .e (.i .i64) x.1), (4, .nilS), (5, .e (.i .i64) x.2.1), (6, .e (.i .i64) x.2.2.1), (7, .e (.i .i64) x.2.2.2.1), (8, .own 0), (9, .e (.i .i64) x.2.2.2.2.1), (10, .e (.i .i64) x.2.2.2.2.2.1)], [(0, .row 3 (.i .i64) x.2.2.2.2.2.2 true)], 100⟩
def w43u0 (σ : Sg) : Int × Int × Int × Int × Int × Int × (List Int) := (lvT (.i .i64) 1 0 σ, lvT (.i .i64) 5 0 σ, lvT (.i .i64) 6 0 σ, lvT (.i .i64) 7 0 σ, lvT (.i .i64) 9 0 σ, lvT (.i .i64) 10 0 σ, lvR (.i .i64) 0 σ)
theorem w43ui0 : ∀ x, w43u0 (w43I0 x) = x := fun _ => by kernel_rfl
def w43X0_0 (y : Int × Int × Int × Int × (List Int)) : Exit × Sg := ((.exit 0), ⟨[(1, .e (.i .i64) y.1), (4, .nilS), (5, .e (.i .i64) y.2.1), (6, .e (.i .i64) y.2.2.1), (7, .e (.i .i64) y.2.2.2.1), (8, .own 0)], [(0, .row 3 (.i .i64) y.2.2.2.2 true)], 100⟩)
def w43v0_0 (σ : Sg) : Int × Int × Int × Int × (List Int) := (lvT (.i .i64) 1 0 σ, lvT (.i .i64) 5 0 σ, lvT (.i .i64) 6 0 σ, lvT (.i .i64) 7 0 σ, lvR (.i .i64) 0 σ)
def w43w0 : List (Exit × Nm) := [((.exit 0), ⟨[1, 4, 5, 6, 7, 8], [], []⟩)]
theorem w43o0 : Outs w43v0_0 (fun _ => ()) (fun _ => ()) w43X0_0 (noX 1) (noX 2) (.exit 0) (.goto 1) (.goto 2) := ⟨fun _ => by kernel_rfl, fun _ => by kernel_rfl, fun _ => by kernel_rfl, fun _ => by kernel_rfl, fun _ => by kernel_rfl, fun _ => by kernel_rfl, exNe_ok (by kernel_rfl), exNe_ok (by kernel_rfl), exNe_ok (by kernel_rfl)⟩
def w43l0 [Alg] (N : Nat) : Nat → (Int × Int × Int × Int × Int × Int × (List Int)) → ((Int × Int × Int × Int × (List Int)) → O) → ((Unit) → O) → ((Unit) → O) → O
  | 0, _, _, _, _ => none
  | n + 1, x, k0, k1, k2 => w43F0 N  (fun v0 v1 v2 v3 => w43l0 N n (x.1, x.2.1, x.2.2.1, v0, v1, v2, v3) k0 k1 k2) (fun y0 y1 y2 y3 y4 => k0 (y0, y1, y2, y3, y4)) x.1 x.2.1 x.2.2.1 x.2.2.2.1 x.2.2.2.2.1 x.2.2.2.2.2.1 x.2.2.2.2.2.2
def w43n0 [Alg] (N : Nat) (a0 : Int) (a1 : Int) (a2 : Int) (a3 : Int) (a4 : Int) (a5 : Int) (a6 : (List Int)) (k0 : Int → Int → Int → Int → (List Int) → O) : O := w43l0 N N (a0, a1, a2, a3, a4, a5, a6) (fun y => k0 y.1 y.2.1 y.2.2.1 y.2.2.2.1 y.2.2.2.2) (fun _ => none) (fun _ => none)
noncomputable def w43s0 [Alg] (N : Nat) (a0 : Int) (a1 : Int) (a2 : Int) (a3 : Int) (a4 : Int) (a5 : Int) (a6 : (List Int)) (k0 : Int → Int → Int → Int → (List Int) → O) : O := subL w43I0 w43u0 (w43l0 N N) (w43I0 (a0, a1, a2, a3, a4, a5, a6)) (fun y => k0 y.1 y.2.1 y.2.2.1 y.2.2.2.1 y.2.2.2.2) (fun _ => none) (fun _ => none)
theorem w43e0 [Alg] (N : Nat) : w43s0 N = w43n0 N := funext fun _ => funext fun _ => funext fun _ => funext fun _ => funext fun _ => funext fun _ => funext fun _ => funext fun _ => subL_I w43ui0 _ _ _ _
noncomputable def w43h0 [Alg] (_ : Nat) : Hint := .d
theorem w43hk0 (N : Nat) : HintOk (w43c N) Tryd.f43.ntmps (w43h0 N) w43b0 := hk_of _ _ trivial
theorem w43q0 [Alg] (N : Nat) (self : Sg → O) (K : Exit → Sg → O) (x : Int × Int × Int × Int × Int × Int × (List Int)) : w43F0 N  (fun v0 v1 v2 v3 => self (w43I0 (x.1, x.2.1, x.2.2.1, v0, v1, v2, v3))) (fun y0 y1 y2 y3 y4 => K (w43X0_0 (y0, y1, y2, y3, y4)).1 (w43X0_0 (y0, y1, y2, y3, y4)).2) x.1 x.2.1 x.2.2.1 x.2.2.2.1 x.2.2.2.2.1 x.2.2.2.2.2.1 x.2.2.2.2.2.2 = exec (w43c N) Tryd.f43.ntmps (w43h0 N) w43b0 (w43I0 x) (roundX w43m0 w43w0 self K) := by kernel_rfl
theorem w43S0 (N : Nat) (hc : CxOk (w43c N)) : SubOk (w43c N) Tryd.f43.ntmps (.loop w43b0) w43X0_0 (noX 1) (noX 2) (subL w43I0 w43u0 (w43l0 N N)) :=
  sub_loop hc (w43hk0 N) w43o0 (n := N) (fun x K => loop_ind (w43l0 N) (fun _ _ _ _ => rfl) (fun n K ih x => by
    have h : w43F0 N  (fun v0 v1 v2 v3 => w43l0 N n (x.1, x.2.1, x.2.2.1, v0, v1, v2, v3) (fun y => K (w43X0_0 y).1 (w43X0_0 y).2) (fun y => K ((noX 1) y).1 ((noX 1) y).2) (fun y => K ((noX 2) y).1 ((noX 2) y).2)) (fun y0 y1 y2 y3 y4 => K (w43X0_0 (y0, y1, y2, y3, y4)).1 (w43X0_0 (y0, y1, y2, y3, y4)).2) x.1 x.2.1 x.2.2.1 x.2.2.2.1 x.2.2.2.2.1 x.2.2.2.2.2.1 x.2.2.2.2.2.2 = w43F0 N  (fun v0 v1 v2 v3 => loopX (w43c N) Tryd.f43.ntmps (w43h0 N) w43b0 w43m0 w43w0 n (w43I0 (x.1, x.2.1, x.2.2.1, v0, v1, v2, v3)) K) (fun y0 y1 y2 y3 y4 => K (w43X0_0 (y0, y1, y2, y3, y4)).1 (w43X0_0 (y0, y1, y2, y3, y4)).2) x.1 x.2.1 x.2.2.1 x.2.2.2.1 x.2.2.2.2.1 x.2.2.2.2.2.1 x.2.2.2.2.2.2 := by rw [ show (fun v0 v1 v2 v3 => w43l0 N n (x.1, x.2.1, x.2.2.1, v0, v1, v2, v3) (fun y => K (w43X0_0 y).1 (w43X0_0 y).2) (fun y => K ((noX 1) y).1 ((noX 1) y).2) (fun y => K ((noX 2) y).1 ((noX 2) y).2)) = (fun v0 v1 v2 v3 => loopX (w43c N) Tryd.f43.ntmps (w43h0 N) w43b0 w43m0 w43w0 n (w43I0 (x.1, x.2.1, x.2.2.1, v0, v1, v2, v3)) K) from funext fun _ => funext fun _ => funext fun _ => funext fun _ => ih _]
    exact h.trans (w43q0 N (fun σ => loopX (w43c N) Tryd.f43.ntmps (w43h0 N) w43b0 w43m0 w43w0 n σ K) K x)) N x K)
def w43F1 [Alg] (N : Nat)  (self : Int → Int → (List (List UInt8)) → O) (k0 : Int → (List Int) → Int → (List (List UInt8)) → O) (x8_0 : Int) (x8_1 : Int) (x8_3 : (List Int)) (x8_2 : Int) (x8_4 : Int) (x8_5 : (List (List UInt8))) : O :=
  br (decide (x8_2 < x8_1))
    (gx x8_3 x8_2 fun y11 =>
    ck (w64p N y11 x8_2 x8_4 x8_5) <|
    self (IntKind.i64.wrap (x8_2 + (1 : Int))) (w64y0 N y11 x8_2 x8_4 x8_5) (w64y1 N y11 x8_2 x8_4 x8_5))
    (k0 x8_0 x8_3 x8_4 x8_5)
noncomputable def w43b1 : Code := atC [1, 1, 1, 1, 1, 1, 1, 1, 1, 1, 0, 1, 0, 0] w43b
def w43m1 : Nm := ⟨[1, 4, 8, 11, 70, 71, 72], [], []⟩
def w43I1 (x : Int × Int × Int × (List Int) × Int × (List (List UInt8))) : Sg := ⟨[(1, .e (.i .i64) x.1), (4, .nilS), (8, .own 0), (11, .ref 1 0), (70, .own 0), (71, .e (.i .i64) x.2.1), (72, .e (.i .i64) x.2.2.1)], [(0, .row 3 (.i .i64) x.2.2.2.1 true), (1, .box 82 [.own 2, .e (.i .i64) x.2.2.2.2.1]), (2, .nest 42 5 .u8 x.2.2.2.2.2)], 100⟩
def w43u1 (σ : Sg) : Int × Int × Int × (List Int) × Int × (List (List UInt8)) := (lvT (.i .i64) 1 0 σ, lvT (.i .i64) 71 0 σ, lvT (.i .i64) 72 0 σ, lvR (.i .i64) 0 σ, lvH (.i .i64) 1 1 σ, lvN .u8 2 σ)
theorem w43ui1 : ∀ x, w43u1 (w43I1 x) = x := fun _ => by kernel_rfl
def w43X1_0 (y : Int × (List Int) × Int × (List (List UInt8))) : Exit × Sg := ((.exit 2), ⟨[(1, .e (.i .i64) y.1), (4, .nilS), (8, .own 0), (11, .ref 1 0)], [(0, .row 3 (.i .i64) y.2.1 true), (1, .box 82 [.own 2, .e (.i .i64) y.2.2.1]), (2, .nest 42 5 .u8 y.2.2.2)], 100⟩)
def w43v1_0 (σ : Sg) : Int × (List Int) × Int × (List (List UInt8)) := (lvT (.i .i64) 1 0 σ, lvR (.i .i64) 0 σ, lvH (.i .i64) 1 1 σ, lvN .u8 2 σ)
def w43w1 : List (Exit × Nm) := [((.exit 2), ⟨[1, 4, 8, 11], [], []⟩)]
theorem w43o1 : Outs w43v1_0 (fun _ => ()) (fun _ => ()) w43X1_0 (noX 1) (noX 2) (.exit 2) (.goto 1) (.goto 2) := ⟨fun _ => by kernel_rfl, fun _ => by kernel_rfl, fun _ => by kernel_rfl, fun _ => by kernel_rfl, fun _ => by kernel_rfl, fun _ => by kernel_rfl, exNe_ok (by kernel_rfl), exNe_ok (by kernel_rfl), exNe_ok (by kernel_rfl)⟩
def w43l1 [Alg] (N : Nat) : Nat → (Int × Int × Int × (List Int) × Int × (List (List UInt8))) → ((Int × (List Int) × Int × (List (List UInt8))) → O) → ((Unit) → O) → ((Unit) → O) → O
  | 0, _, _, _, _ => none
  | n + 1, x, k0, k1, k2 => w43F1 N  (fun v0 v1 v2 => w43l1 N n (x.1, x.2.1, v0, x.2.2.2.1, v1, v2) k0 k1 k2) (fun y0 y1 y2 y3 => k0 (y0, y1, y2, y3)) x.1 x.2.1 x.2.2.2.1 x.2.2.1 x.2.2.2.2.1 x.2.2.2.2.2
def w43n1 [Alg] (N : Nat) (a0 : Int) (a1 : Int) (a2 : Int) (a3 : (List Int)) (a4 : Int) (a5 : (List (List UInt8))) (k0 : Int → (List Int) → Int → (List (List UInt8)) → O) : O := w43l1 N N (a0, a1, a2, a3, a4, a5) (fun y => k0 y.1 y.2.1 y.2.2.1 y.2.2.2) (fun _ => none) (fun _ => none)
noncomputable def w43s1 [Alg] (N : Nat) (a0 : Int) (a1 : Int) (a2 : Int) (a3 : (List Int)) (a4 : Int) (a5 : (List (List UInt8))) (k0 : Int → (List Int) → Int → (List (List UInt8)) → O) : O := subL w43I1 w43u1 (w43l1 N N) (w43I1 (a0, a1, a2, a3, a4, a5)) (fun y => k0 y.1 y.2.1 y.2.2.1 y.2.2.2) (fun _ => none) (fun _ => none)
theorem w43e1 [Alg] (N : Nat) : w43s1 N = w43n1 N := funext fun _ => funext fun _ => funext fun _ => funext fun _ => funext fun _ => funext fun _ => funext fun _ => subL_I w43ui1 _ _ _ _
noncomputable def w43h1 [Alg] (_ : Nat) : Hint := .d
theorem w43hk1 (N : Nat) : HintOk (w43c N) Tryd.f43.ntmps (w43h1 N) w43b1 := hk_of _ _ trivial
theorem w43q1 [Alg] (N : Nat) (self : Sg → O) (K : Exit → Sg → O) (x : Int × Int × Int × (List Int) × Int × (List (List UInt8))) : w43F1 N  (fun v0 v1 v2 => self (w43I1 (x.1, x.2.1, v0, x.2.2.2.1, v1, v2))) (fun y0 y1 y2 y3 => K (w43X1_0 (y0, y1, y2, y3)).1 (w43X1_0 (y0, y1, y2, y3)).2) x.1 x.2.1 x.2.2.2.1 x.2.2.1 x.2.2.2.2.1 x.2.2.2.2.2 = exec (w43c N) Tryd.f43.ntmps (w43h1 N) w43b1 (w43I1 x) (roundX w43m1 w43w1 self K) := by kernel_rfl
theorem w43S1 (N : Nat) (hc : CxOk (w43c N)) : SubOk (w43c N) Tryd.f43.ntmps (.loop w43b1) w43X1_0 (noX 1) (noX 2) (subL w43I1 w43u1 (w43l1 N N)) :=
  sub_loop hc (w43hk1 N) w43o1 (n := N) (fun x K => loop_ind (w43l1 N) (fun _ _ _ _ => rfl) (fun n K ih x => by
    have h : w43F1 N  (fun v0 v1 v2 => w43l1 N n (x.1, x.2.1, v0, x.2.2.2.1, v1, v2) (fun y => K (w43X1_0 y).1 (w43X1_0 y).2) (fun y => K ((noX 1) y).1 ((noX 1) y).2) (fun y => K ((noX 2) y).1 ((noX 2) y).2)) (fun y0 y1 y2 y3 => K (w43X1_0 (y0, y1, y2, y3)).1 (w43X1_0 (y0, y1, y2, y3)).2) x.1 x.2.1 x.2.2.2.1 x.2.2.1 x.2.2.2.2.1 x.2.2.2.2.2 = w43F1 N  (fun v0 v1 v2 => loopX (w43c N) Tryd.f43.ntmps (w43h1 N) w43b1 w43m1 w43w1 n (w43I1 (x.1, x.2.1, v0, x.2.2.2.1, v1, v2)) K) (fun y0 y1 y2 y3 => K (w43X1_0 (y0, y1, y2, y3)).1 (w43X1_0 (y0, y1, y2, y3)).2) x.1 x.2.1 x.2.2.2.1 x.2.2.1 x.2.2.2.2.1 x.2.2.2.2.2 := by rw [ show (fun v0 v1 v2 => w43l1 N n (x.1, x.2.1, v0, x.2.2.2.1, v1, v2) (fun y => K (w43X1_0 y).1 (w43X1_0 y).2) (fun y => K ((noX 1) y).1 ((noX 1) y).2) (fun y => K ((noX 2) y).1 ((noX 2) y).2)) = (fun v0 v1 v2 => loopX (w43c N) Tryd.f43.ntmps (w43h1 N) w43b1 w43m1 w43w1 n (w43I1 (x.1, x.2.1, v0, x.2.2.2.1, v1, v2)) K) from funext fun _ => funext fun _ => funext fun _ => ih _]
    exact h.trans (w43q1 N (fun σ => loopX (w43c N) Tryd.f43.ntmps (w43h1 N) w43b1 w43m1 w43w1 n σ K) K x)) N x K)
def w43G [Alg] (N : Nat) (in0 : Int → Int → Int → Int → Int → Int → (List Int) → (Int → Int → Int → Int → (List Int) → O) → O) (in1 : Int → Int → Int → (List Int) → Int → (List (List UInt8)) → (Int → (List Int) → Int → (List (List UInt8)) → O) → O) (_s0_0 : Int) (s0_1 : (List Int)) (result1 : Int) : O :=
  gx s0_1 ((0 : Int)) fun y0 =>
  gx s0_1 ((1 : Int)) fun y1 =>
  ck (w57p N y0) <|
  ck (w57p N y1) <|
  ck (w57p N result1) <|
  in0 result1 y0 y1 (max (max (w57y0 N y0) (w57y0 N y1)) (w57y0 N result1)) ((0 : Int)) y1 []
    (fun z3 z4 z5 z6 z7 =>
      ck (w64p N z4 (0 : Int) (IntKind.i64.wrap ((1 : Int) + z6)) []) <|
      ck (w64p N z5 (0 : Int) (w64y0 N z4 (0 : Int) (IntKind.i64.wrap ((1 : Int) + z6)) []) (w64y1 N z4 (0 : Int) (IntKind.i64.wrap ((1 : Int) + z6)) [])) <|
      ck (w65p N (33 : UInt8) (w64y0 N z5 (0 : Int) (w64y0 N z4 (0 : Int) (IntKind.i64.wrap ((1 : Int) + z6)) []) (w64y1 N z4 (0 : Int) (IntKind.i64.wrap ((1 : Int) + z6)) [])) (w64y1 N z5 (0 : Int) (w64y0 N z4 (0 : Int) (IntKind.i64.wrap ((1 : Int) + z6)) []) (w64y1 N z4 (0 : Int) (IntKind.i64.wrap ((1 : Int) + z6)) []))) <|
      ck (w66p N (w65y0 N (33 : UInt8) (w64y0 N z5 (0 : Int) (w64y0 N z4 (0 : Int) (IntKind.i64.wrap ((1 : Int) + z6)) []) (w64y1 N z4 (0 : Int) (IntKind.i64.wrap ((1 : Int) + z6)) [])) (w64y1 N z5 (0 : Int) (w64y0 N z4 (0 : Int) (IntKind.i64.wrap ((1 : Int) + z6)) []) (w64y1 N z4 (0 : Int) (IntKind.i64.wrap ((1 : Int) + z6)) []))) (w65y1 N (33 : UInt8) (w64y0 N z5 (0 : Int) (w64y0 N z4 (0 : Int) (IntKind.i64.wrap ((1 : Int) + z6)) []) (w64y1 N z4 (0 : Int) (IntKind.i64.wrap ((1 : Int) + z6)) [])) (w64y1 N z5 (0 : Int) (w64y0 N z4 (0 : Int) (IntKind.i64.wrap ((1 : Int) + z6)) []) (w64y1 N z4 (0 : Int) (IntKind.i64.wrap ((1 : Int) + z6)) [])))) <|
      in1 z3 ((↑z7.length : Int)) ((0 : Int)) z7 (w66y0 N (w65y0 N (33 : UInt8) (w64y0 N z5 (0 : Int) (w64y0 N z4 (0 : Int) (IntKind.i64.wrap ((1 : Int) + z6)) []) (w64y1 N z4 (0 : Int) (IntKind.i64.wrap ((1 : Int) + z6)) [])) (w64y1 N z5 (0 : Int) (w64y0 N z4 (0 : Int) (IntKind.i64.wrap ((1 : Int) + z6)) []) (w64y1 N z4 (0 : Int) (IntKind.i64.wrap ((1 : Int) + z6)) []))) (w65y1 N (33 : UInt8) (w64y0 N z5 (0 : Int) (w64y0 N z4 (0 : Int) (IntKind.i64.wrap ((1 : Int) + z6)) []) (w64y1 N z4 (0 : Int) (IntKind.i64.wrap ((1 : Int) + z6)) [])) (w64y1 N z5 (0 : Int) (w64y0 N z4 (0 : Int) (IntKind.i64.wrap ((1 : Int) + z6)) []) (w64y1 N z4 (0 : Int) (IntKind.i64.wrap ((1 : Int) + z6)) [])))) (w66y1 N (w65y0 N (33 : UInt8) (w64y0 N z5 (0 : Int) (w64y0 N z4 (0 : Int) (IntKind.i64.wrap ((1 : Int) + z6)) []) (w64y1 N z4 (0 : Int) (IntKind.i64.wrap ((1 : Int) + z6)) [])) (w64y1 N z5 (0 : Int) (w64y0 N z4 (0 : Int) (IntKind.i64.wrap ((1 : Int) + z6)) []) (w64y1 N z4 (0 : Int) (IntKind.i64.wrap ((1 : Int) + z6)) []))) (w65y1 N (33 : UInt8) (w64y0 N z5 (0 : Int) (w64y0 N z4 (0 : Int) (IntKind.i64.wrap ((1 : Int) + z6)) []) (w64y1 N z4 (0 : Int) (IntKind.i64.wrap ((1 : Int) + z6)) [])) (w64y1 N z5 (0 : Int) (w64y0 N z4 (0 : Int) (IntKind.i64.wrap ((1 : Int) + z6)) []) (w64y1 N z4 (0 : Int) (IntKind.i64.wrap ((1 : Int) + z6)) []))))
        (fun z12 z13 z14 z15 =>
          br (decide ((1 : Int) < (↑z13.length : Int)))
            (ck (w66p N z14 z15) <|
            ck (w64p N z12 (0 : Int) (w66y0 N z14 z15) (w66y1 N z14 z15)) <|
            some (w43r0 (w64y1 N z12 (0 : Int) (w66y0 N z14 z15) (w66y1 N z14 z15))))
            (some (w43r0 z15))))
def w43 [Alg] (N : Nat) (s0_0 : Int) (s0_1 : (List Int)) (result1 : Int) : O := w43G N (w43n0 N) (w43n1 N) s0_0 s0_1 result1
noncomputable def w43h [Alg] (N : Nat) : Hint := (.seq .d (.seq .d (.seq .d (.seq .d (.seq (.seq .d (.block (.sub w43m0 _ _ _ w43X0_0 (noX 1) (noX 2) (subL w43I0 w43u0 (w43l0 N N))))) (.seq .d (.seq (.reg [] [.nilC 11 0 (.nest 42 5 .u8 [])] []) (.seq .d (.seq .d (.seq .d (.seq (.seq .d (.block (.sub w43m1 _ _ _ w43X1_0 (noX 1) (noX 2) (subL w43I1 w43u1 (w43l1 N N))))) .d)))))))))))
theorem w43hk (N : Nat) (hc : CxOk (w43c N)) : HintOk (w43c N) Tryd.f43.ntmps (w43h N) w43b := hk_of _ _ (And.intro trivial (And.intro trivial (And.intro trivial (And.intro trivial (And.intro (And.intro trivial (w43S0 N hc)) (And.intro trivial (And.intro trivial (And.intro trivial (And.intro trivial (And.intro trivial (And.intro (And.intro trivial (w43S1 N hc)) trivial)))))))))))
theorem w43q [Alg] (N : Nat) (s0_0 : Int) (s0_1 : (List Int)) (result1 : Int) : w43G N (w43s0 N) (w43s1 N) s0_0 s0_1 result1 = exec (w43c N) Tryd.f43.ntmps (w43h N) w43b ⟨argT 0 [.agg [.e (.i .i64) s0_0, .e (.sl (.i .i64)) s0_1], .e (.i .i64) result1], [], 100⟩ (finX (w43c N) Tryd.f43 false) := by kernel_rfl
theorem w43does {N : Nat} (hc : CxOk (w43c N)) {s0_0 : Int} {s0_1 : (List Int)} {result1 : Int} {r : Res} (h : w43 N s0_0 s0_1 result1 = some r) : Does Tryd.prog 43 (([.agg [.e (.i .i64) s0_0, .e (.sl (.i .i64)) s0_1], .e (.i .i64) result1] : List X).map X.D) (HA []) r.1.D (HA r.2) :=
  fun_ok hc (f := 43) (fn := Tryd.f43) (code := w43b) (by kernel_rfl) (by kernel_rfl) (w43hk N hc) (Nat.le_of_ble_eq_true (by kernel_rfl)) (ow := false) ((w43q N s0_0 s0_1 result1).symm.trans (by rw [w43e0 N, w43e1 N]; exact h))
def w43un (r : Res) : Option ((List (List UInt8))) := match r with
  | (x0, []) => (match ue (.sl (.sl .u8)) x0 with | some a0 => some a0 | _ => none)
  | _ => none
theorem w43uo {r : Res} {d : (List (List UInt8))} (h : w43un r = some d) : r = w43r0 (d) := by
  unfold w43un at h
  split at h
  · split at h
    · rename_i h0; cases h; rw [ue_some h0]; rfl
    · cases h
  · cases h
def w43z (N : Nat) (s0_0 : Int) (s0_1 : (List Int)) (result1 : Int) : Option ((List (List UInt8))) := (w43 N s0_0 s0_1 result1).bind w43un
theorem w43fin {N : Nat} (hc : CxOk (w43c N)) {s0_0 : Int} {s0_1 : (List Int)} {result1 : Int} {d : (List (List UInt8))} (hd : w43z N s0_0 s0_1 result1 = some d) : Does Tryd.prog 43 (([.agg [.e (.i .i64) s0_0, .e (.sl (.i .i64)) s0_1], .e (.i .i64) result1] : List X).map X.D) (HA []) (w43r0 (d)).1.D (HA (w43r0 (d)).2) := by
  obtain ⟨r, hr, hu⟩ := Option.bind_eq_some_iff.1 hd
  have := w43does hc hr
  rw [w43uo hu] at this
  exact this
def w43p (N : Nat) (s0_0 : Int) (s0_1 : (List Int)) (result1 : Int) : Bool := (w43z N s0_0 s0_1 result1).isSome
def w43y0 (N : Nat) (s0_0 : Int) (s0_1 : (List Int)) (result1 : Int) : (List (List UInt8)) := ((w43z N s0_0 s0_1 result1).getD [])
def w43e (N : Nat) : Ent' := E2 (.pr (.i .i64) (.sl (.i .i64))) (.i .i64)  (fun x0 x1 => (w43p N x0.1 x0.2 x1, w43r0 (w43y0 N x0.1 x0.2 x1)))
theorem w43re {N : Nat} {s0_0 : Int} {s0_1 : (List Int)} {result1 : Int} {d : (List (List UInt8))} (hd : w43z N s0_0 s0_1 result1 = some d) : w43r0 (w43y0 N s0_0 s0_1 result1) = w43r0 (d) := by unfold w43y0; rw [hd]; rfl
theorem w43ok (N : Nat) : EOk Tryd.prog 43 (w43e N) := EOk.e2 (fun x0 x1 h => by
  have h : (w43z N x0.1 x0.2 x1).isSome = true := h
  obtain ⟨d, hd⟩ := Option.isSome_iff_exists.1 h
  have f := w43fin (w43cx N) hd
  rw [← w43re hd] at f
  exact f)
def w44r0 (a0 : (List (List UInt8))) : Res := (.e (.sl (.sl .u8)) a0, [])
noncomputable def w44L (N : Nat) : List (Nat × Ent') := [(57, w57e N), (64, w64e N), (63, w63e N), (67, w67e N), (68, w68e N)]
noncomputable def w44c (N : Nat) : Cx := ⟨Tryd.prog, 99999, w44L N⟩
noncomputable def w44b : Code := Tryd.f44.body.getD .skip
theorem w44cx (N : Nat) : CxOk (w44c N) := ctx_ok (by kernel_rfl) (.cons (by kernel_rfl) (w57ok N) (.cons (by kernel_rfl) (w64ok N) (.cons (by kernel_rfl) (w63ok N) (.cons (by kernel_rfl) (w67ok N) (.cons (by kernel_rfl) (w68ok N) .nil)))))
def w44F0 [Alg] (N : Nat)  (self : Int → Int → Int → (List (List UInt8)) → O) (k0 : Int → (List (List UInt8)) → O) (x6_0 : Int) (x6_1 : Int) (x6_2 : (List UInt8)) (x6_3 : (List UInt8)) (x6_5 : Int) (x6_4 : Int) (x6_6 : Int) (x6_7 : Int) (x6_8 : (List (List UInt8))) : O :=
  br (decide (x6_6 < x6_5))
    (gx x6_3 x6_6 fun y11 =>
    ck (w64p N (IntKind.i64.wrap (x6_0 * IntKind.i64.wrap (↑(y11 - (48 : UInt8)).toNat : Int))) (IntKind.i64.wrap (IntKind.i64.wrap ((↑x6_3.length : Int) - (1 : Int)) - x6_6)) x6_7 x6_8) <|
    br (decide ((0 : Int) < IntKind.i64.wrap (IntKind.i64.wrap ((↑x6_3.length : Int) - (1 : Int)) - x6_6)))
      (gx x6_2 (IntKind.i64.wrap (x6_1 - IntKind.i64.wrap (IntKind.i64.wrap ((↑x6_3.length : Int) - (1 : Int)) - x6_6))) fun y12 =>
      ck (w64p N (IntKind.i64.wrap (IntKind.i64.wrap ((10 : Int) * IntKind.i64.wrap (x6_4 - IntKind.i64.wrap (x6_0 * IntKind.i64.wrap (↑(y11 - (48 : UInt8)).toNat : Int)))) + IntKind.i64.wrap (↑(y12 - (48 : UInt8)).toNat : Int))) (IntKind.i64.wrap (IntKind.i64.wrap (IntKind.i64.wrap ((↑x6_3.length : Int) - (1 : Int)) - x6_6) - (1 : Int))) (w64y0 N (IntKind.i64.wrap (x6_0 * IntKind.i64.wrap (↑(y11 - (48 : UInt8)).toNat : Int))) (IntKind.i64.wrap (IntKind.i64.wrap ((↑x6_3.length : Int) - (1 : Int)) - x6_6)) x6_7 x6_8) (w64y1 N (IntKind.i64.wrap (x6_0 * IntKind.i64.wrap (↑(y11 - (48 : UInt8)).toNat : Int))) (IntKind.i64.wrap (IntKind.i64.wrap ((↑x6_3.length : Int) - (1 : Int)) - x6_6)) x6_7 x6_8)) <|
      self (IntKind.i64.wrap (IntKind.i64.wrap ((10 : Int) * IntKind.i64.wrap (x6_4 - IntKind.i64.wrap (x6_0 * IntKind.i64.wrap (↑(y11 - (48 : UInt8)).toNat : Int)))) + IntKind.i64.wrap (↑(y12 - (48 : UInt8)).toNat : Int))) (IntKind.i64.wrap (x6_6 + (1 : Int))) (w64y0 N (IntKind.i64.wrap (IntKind.i64.wrap ((10 : Int) * IntKind.i64.wrap (x6_4 - IntKind.i64.wrap (x6_0 * IntKind.i64.wrap (↑(y11 - (48 : UInt8)).toNat : Int)))) + IntKind.i64.wrap (↑(y12 - (48 : UInt8)).toNat : Int))) (IntKind.i64.wrap (IntKind.i64.wrap (IntKind.i64.wrap ((↑x6_3.length : Int) - (1 : Int)) - x6_6) - (1 : Int))) (w64y0 N (IntKind.i64.wrap (x6_0 * IntKind.i64.wrap (↑(y11 - (48 : UInt8)).toNat : Int))) (IntKind.i64.wrap (IntKind.i64.wrap ((↑x6_3.length : Int) - (1 : Int)) - x6_6)) x6_7 x6_8) (w64y1 N (IntKind.i64.wrap (x6_0 * IntKind.i64.wrap (↑(y11 - (48 : UInt8)).toNat : Int))) (IntKind.i64.wrap (IntKind.i64.wrap ((↑x6_3.length : Int) - (1 : Int)) - x6_6)) x6_7 x6_8)) (w64y1 N (IntKind.i64.wrap (IntKind.i64.wrap ((10 : Int) * IntKind.i64.wrap (x6_4 - IntKind.i64.wrap (x6_0 * IntKind.i64.wrap (↑(y11 - (48 : UInt8)).toNat : Int)))) + IntKind.i64.wrap (↑(y12 - (48 : UInt8)).toNat : Int))) (IntKind.i64.wrap (IntKind.i64.wrap (IntKind.i64.wrap ((↑x6_3.length : Int) - (1 : Int)) - x6_6) - (1 : Int))) (w64y0 N (IntKind.i64.wrap (x6_0 * IntKind.i64.wrap (↑(y11 - (48 : UInt8)).toNat : Int))) (IntKind.i64.wrap (IntKind.i64.wrap ((↑x6_3.length : Int) - (1 : Int)) - x6_6)) x6_7 x6_8) (w64y1 N (IntKind.i64.wrap (x6_0 * IntKind.i64.wrap (↑(y11 - (48 : UInt8)).toNat : Int))) (IntKind.i64.wrap (IntKind.i64.wrap ((↑x6_3.length : Int) - (1 : Int)) - x6_6)) x6_7 x6_8)))
      (ck (w64p N (IntKind.i64.wrap (x6_4 - IntKind.i64.wrap (x6_0 * IntKind.i64.wrap (↑(y11 - (48 : UInt8)).toNat : Int)))) (IntKind.i64.wrap (IntKind.i64.wrap ((↑x6_3.length : Int) - (1 : Int)) - x6_6)) (w64y0 N (IntKind.i64.wrap (x6_0 * IntKind.i64.wrap (↑(y11 - (48 : UInt8)).toNat : Int))) (IntKind.i64.wrap (IntKind.i64.wrap ((↑x6_3.length : Int) - (1 : Int)) - x6_6)) x6_7 x6_8) (w64y1 N (IntKind.i64.wrap (x6_0 * IntKind.i64.wrap (↑(y11 - (48 : UInt8)).toNat : Int))) (IntKind.i64.wrap (IntKind.i64.wrap ((↑x6_3.length : Int) - (1 : Int)) - x6_6)) x6_7 x6_8)) <|
      self (IntKind.i64.wrap (x6_4 - IntKind.i64.wrap (x6_0 * IntKind.i64.wrap (↑(y11 - (48 : UInt8)).toNat : Int)))) (IntKind.i64.wrap (x6_6 + (1 : Int))) (w64y0 N (IntKind.i64.wrap (x6_4 - IntKind.i64.wrap (x6_0 * IntKind.i64.wrap (↑(y11 - (48 : UInt8)).toNat : Int)))) (IntKind.i64.wrap (IntKind.i64.wrap ((↑x6_3.length : Int) - (1 : Int)) - x6_6)) (w64y0 N (IntKind.i64.wrap (x6_0 * IntKind.i64.wrap (↑(y11 - (48 : UInt8)).toNat : Int))) (IntKind.i64.wrap (IntKind.i64.wrap ((↑x6_3.length : Int) - (1 : Int)) - x6_6)) x6_7 x6_8) (w64y1 N (IntKind.i64.wrap (x6_0 * IntKind.i64.wrap (↑(y11 - (48 : UInt8)).toNat : Int))) (IntKind.i64.wrap (IntKind.i64.wrap ((↑x6_3.length : Int) - (1 : Int)) - x6_6)) x6_7 x6_8)) (w64y1 N (IntKind.i64.wrap (x6_4 - IntKind.i64.wrap (x6_0 * IntKind.i64.wrap (↑(y11 - (48 : UInt8)).toNat : Int)))) (IntKind.i64.wrap (IntKind.i64.wrap ((↑x6_3.length : Int) - (1 : Int)) - x6_6)) (w64y0 N (IntKind.i64.wrap (x6_0 * IntKind.i64.wrap (↑(y11 - (48 : UInt8)).toNat : Int))) (IntKind.i64.wrap (IntKind.i64.wrap ((↑x6_3.length : Int) - (1 : Int)) - x6_6)) x6_7 x6_8) (w64y1 N (IntKind.i64.wrap (x6_0 * IntKind.i64.wrap (↑(y11 - (48 : UInt8)).toNat : Int))) (IntKind.i64.wrap (IntKind.i64.wrap ((↑x6_3.length : Int) - (1 : Int)) - x6_6)) x6_7 x6_8))))
    (k0 x6_7 x6_8)
noncomputable def w44b0 : Code := atC [1, 1, 1, 1, 1, 1, 1, 1, 1, 1, 0, 1, 0, 0] w44b
def w44m0 : Nm := ⟨[4, 6, 7, 9, 10, 11, 12, 70, 71], [], []⟩
def w44I0 (x : Int × Int × (List UInt8) × (List UInt8) × Int × Int × Int × Int × (List (List UInt8))) : Sg := ⟨[(4, .nilS), (6, .e (.i .i64) x.1), (7, .e (.i .i64) x.2.1), (9, .ref 0 0), (10, .e .tx x.2.2.1), (11, .e .tx x.2.2.2.1), (12, .e (.i .i64) x.2.2.2.2.1), (70, .e (.i .i64) x.2.2.2.2.2.1), (71, .e (.i .i64) x.2.2.2.2.2.2.1)], [(0, .box 82 [.own 1, .e (.i .i64) x.2.2.2.2.2.2.2.1]), (1, .nest 42 5 .u8 x.2.2.2.2.2.2.2.2)], 100⟩
def w44u0 (σ : Sg) : Int × Int × (List UInt8) × (List UInt8) × Int × Int × Int × Int × (List (List UInt8)) := (lvT (.i .i64) 6 0 σ, lvT (.i .i64) 7 0 σ, lvT .tx 10 0 σ, lvT .tx 11 0 σ, lvT (.i .i64) 12 0 σ, lvT (.i .i64) 70 0 σ, lvT (.i .i64) 71 0 σ, lvH (.i .i64) 0 1 σ, lvN .u8 1 σ)
theorem w44ui0 : ∀ x, w44u0 (w44I0 x) = x := fun _ => by kernel_rfl
def w44X0_0 (y : Int × (List (List UInt8))) : Exit × Sg := ((.exit 0), ⟨[(4, .nilS), (9, .ref 0 0)], [(0, .box 82 [.own 1, .e (.i .i64) y.1]), (1, .nest 42 5 .u8 y.2)], 100⟩)
def w44v0_0 (σ : Sg) : Int × (List (List UInt8)) := (lvH (.i .i64) 0 1 σ, lvN .u8 1 σ)
def w44w0 : List (Exit × Nm) := [((.exit 0), ⟨[4, 9], [], []⟩)]
theorem w44o0 : Outs w44v0_0 (fun _ => ()) (fun _ => ()) w44X0_0 (noX 1) (noX 2) (.exit 0) (.goto 1) (.goto 2) := ⟨fun _ => by kernel_rfl, fun _ => by kernel_rfl, fun _ => by kernel_rfl, fun _ => by kernel_rfl, fun _ => by kernel_rfl, fun _ => by kernel_rfl, exNe_ok (by kernel_rfl), exNe_ok (by kernel_rfl), exNe_ok (by kernel_rfl)⟩
def w44l0 [Alg] (N : Nat) : Nat → (Int × Int × (List UInt8) × (List UInt8) × Int × Int × Int × Int × (List (List UInt8))) → ((Int × (List (List UInt8))) → O) → ((Unit) → O) → ((Unit) → O) → O
  | 0, _, _, _, _ => none
  | n + 1, x, k0, k1, k2 => w44F0 N  (fun v0 v1 v2 v3 => w44l0 N n (x.1, x.2.1, x.2.2.1, x.2.2.2.1, v0, x.2.2.2.2.2.1, v1, v2, v3) k0 k1 k2) (fun y0 y1 => k0 (y0, y1)) x.1 x.2.1 x.2.2.1 x.2.2.2.1 x.2.2.2.2.2.1 x.2.2.2.2.1 x.2.2.2.2.2.2.1 x.2.2.2.2.2.2.2.1 x.2.2.2.2.2.2.2.2
def w44n0 [Alg] (N : Nat) (a0 : Int) (a1 : Int) (a2 : (List UInt8)) (a3 : (List UInt8)) (a4 : Int) (a5 : Int) (a6 : Int) (a7 : Int) (a8 : (List (List UInt8))) (k0 : Int → (List (List UInt8)) → O) : O := w44l0 N N (a0, a1, a2, a3, a4, a5, a6, a7, a8) (fun y => k0 y.1 y.2) (fun _ => none) (fun _ => none)
noncomputable def w44s0 [Alg] (N : Nat) (a0 : Int) (a1 : Int) (a2 : (List UInt8)) (a3 : (List UInt8)) (a4 : Int) (a5 : Int) (a6 : Int) (a7 : Int) (a8 : (List (List UInt8))) (k0 : Int → (List (List UInt8)) → O) : O := subL w44I0 w44u0 (w44l0 N N) (w44I0 (a0, a1, a2, a3, a4, a5, a6, a7, a8)) (fun y => k0 y.1 y.2) (fun _ => none) (fun _ => none)
theorem w44e0 [Alg] (N : Nat) : w44s0 N = w44n0 N := funext fun _ => funext fun _ => funext fun _ => funext fun _ => funext fun _ => funext fun _ => funext fun _ => funext fun _ => funext fun _ => funext fun _ => subL_I w44ui0 _ _ _ _
noncomputable def w44h0 [Alg] (_ : Nat) : Hint := .d
theorem w44hk0 (N : Nat) : HintOk (w44c N) Tryd.f44.ntmps (w44h0 N) w44b0 := hk_of _ _ trivial
theorem w44q0 [Alg] (N : Nat) (self : Sg → O) (K : Exit → Sg → O) (x : Int × Int × (List UInt8) × (List UInt8) × Int × Int × Int × Int × (List (List UInt8))) : w44F0 N  (fun v0 v1 v2 v3 => self (w44I0 (x.1, x.2.1, x.2.2.1, x.2.2.2.1, v0, x.2.2.2.2.2.1, v1, v2, v3))) (fun y0 y1 => K (w44X0_0 (y0, y1)).1 (w44X0_0 (y0, y1)).2) x.1 x.2.1 x.2.2.1 x.2.2.2.1 x.2.2.2.2.2.1 x.2.2.2.2.1 x.2.2.2.2.2.2.1 x.2.2.2.2.2.2.2.1 x.2.2.2.2.2.2.2.2 = exec (w44c N) Tryd.f44.ntmps (w44h0 N) w44b0 (w44I0 x) (roundX w44m0 w44w0 self K) := by kernel_rfl
theorem w44S0 (N : Nat) (hc : CxOk (w44c N)) : SubOk (w44c N) Tryd.f44.ntmps (.loop w44b0) w44X0_0 (noX 1) (noX 2) (subL w44I0 w44u0 (w44l0 N N)) :=
  sub_loop hc (w44hk0 N) w44o0 (n := N) (fun x K => loop_ind (w44l0 N) (fun _ _ _ _ => rfl) (fun n K ih x => by
    have h : w44F0 N  (fun v0 v1 v2 v3 => w44l0 N n (x.1, x.2.1, x.2.2.1, x.2.2.2.1, v0, x.2.2.2.2.2.1, v1, v2, v3) (fun y => K (w44X0_0 y).1 (w44X0_0 y).2) (fun y => K ((noX 1) y).1 ((noX 1) y).2) (fun y => K ((noX 2) y).1 ((noX 2) y).2)) (fun y0 y1 => K (w44X0_0 (y0, y1)).1 (w44X0_0 (y0, y1)).2) x.1 x.2.1 x.2.2.1 x.2.2.2.1 x.2.2.2.2.2.1 x.2.2.2.2.1 x.2.2.2.2.2.2.1 x.2.2.2.2.2.2.2.1 x.2.2.2.2.2.2.2.2 = w44F0 N  (fun v0 v1 v2 v3 => loopX (w44c N) Tryd.f44.ntmps (w44h0 N) w44b0 w44m0 w44w0 n (w44I0 (x.1, x.2.1, x.2.2.1, x.2.2.2.1, v0, x.2.2.2.2.2.1, v1, v2, v3)) K) (fun y0 y1 => K (w44X0_0 (y0, y1)).1 (w44X0_0 (y0, y1)).2) x.1 x.2.1 x.2.2.1 x.2.2.2.1 x.2.2.2.2.2.1 x.2.2.2.2.1 x.2.2.2.2.2.2.1 x.2.2.2.2.2.2.2.1 x.2.2.2.2.2.2.2.2 := by rw [ show (fun v0 v1 v2 v3 => w44l0 N n (x.1, x.2.1, x.2.2.1, x.2.2.2.1, v0, x.2.2.2.2.2.1, v1, v2, v3) (fun y => K (w44X0_0 y).1 (w44X0_0 y).2) (fun y => K ((noX 1) y).1 ((noX 1) y).2) (fun y => K ((noX 2) y).1 ((noX 2) y).2)) = (fun v0 v1 v2 v3 => loopX (w44c N) Tryd.f44.ntmps (w44h0 N) w44b0 w44m0 w44w0 n (w44I0 (x.1, x.2.1, x.2.2.1, x.2.2.2.1, v0, x.2.2.2.2.2.1, v1, v2, v3)) K) from funext fun _ => funext fun _ => funext fun _ => funext fun _ => ih _]
    exact h.trans (w44q0 N (fun σ => loopX (w44c N) Tryd.f44.ntmps (w44h0 N) w44b0 w44m0 w44w0 n σ K) K x)) N x K)
def w44G [Alg] (N : Nat) (in0 : Int → Int → (List UInt8) → (List UInt8) → Int → Int → Int → Int → (List (List UInt8)) → (Int → (List (List UInt8)) → O) → O) (_s0_0 : Int) (s0_1 : (List Int)) (quotient1 : Int) : O :=
  gx s0_1 ((0 : Int)) fun y0 =>
  gx s0_1 ((1 : Int)) fun y1 =>
  ck (w57p N y0) <|
  ck (w57p N y1) <|
  ck (w64p N quotient1 (0 : Int) (IntKind.i64.wrap (IntKind.i64.wrap (w57y0 N y0 + (1 : Int)) + w57y0 N y1)) []) <|
  ck (w64p N y0 (0 : Int) (w64y0 N quotient1 (0 : Int) (IntKind.i64.wrap (IntKind.i64.wrap (w57y0 N y0 + (1 : Int)) + w57y0 N y1)) []) (w64y1 N quotient1 (0 : Int) (IntKind.i64.wrap (IntKind.i64.wrap (w57y0 N y0 + (1 : Int)) + w57y0 N y1)) [])) <|
  ck (w63p N y1 (IntKind.i64.wrap (w57y0 N y0 + (1 : Int))) (w64y0 N y0 (0 : Int) (w64y0 N quotient1 (0 : Int) (IntKind.i64.wrap (IntKind.i64.wrap (w57y0 N y0 + (1 : Int)) + w57y0 N y1)) []) (w64y1 N quotient1 (0 : Int) (IntKind.i64.wrap (IntKind.i64.wrap (w57y0 N y0 + (1 : Int)) + w57y0 N y1)) [])) (w64y1 N y0 (0 : Int) (w64y0 N quotient1 (0 : Int) (IntKind.i64.wrap (IntKind.i64.wrap (w57y0 N y0 + (1 : Int)) + w57y0 N y1)) []) (w64y1 N quotient1 (0 : Int) (IntKind.i64.wrap (IntKind.i64.wrap (w57y0 N y0 + (1 : Int)) + w57y0 N y1)) []))) <|
  ck (decide ((0 : Int) ≤ (1 : Int) ∧ (1 : Int) < (↑(w63y1 N y1 (IntKind.i64.wrap (w57y0 N y0 + (1 : Int))) (w64y0 N y0 (0 : Int) (w64y0 N quotient1 (0 : Int) (IntKind.i64.wrap (IntKind.i64.wrap (w57y0 N y0 + (1 : Int)) + w57y0 N y1)) []) (w64y1 N quotient1 (0 : Int) (IntKind.i64.wrap (IntKind.i64.wrap (w57y0 N y0 + (1 : Int)) + w57y0 N y1)) [])) (w64y1 N y0 (0 : Int) (w64y0 N quotient1 (0 : Int) (IntKind.i64.wrap (IntKind.i64.wrap (w57y0 N y0 + (1 : Int)) + w57y0 N y1)) []) (w64y1 N quotient1 (0 : Int) (IntKind.i64.wrap (IntKind.i64.wrap (w57y0 N y0 + (1 : Int)) + w57y0 N y1)) []))).length : Int))) <|
  gn (w63y1 N y1 (IntKind.i64.wrap (w57y0 N y0 + (1 : Int))) (w64y0 N y0 (0 : Int) (w64y0 N quotient1 (0 : Int) (IntKind.i64.wrap (IntKind.i64.wrap (w57y0 N y0 + (1 : Int)) + w57y0 N y1)) []) (w64y1 N quotient1 (0 : Int) (IntKind.i64.wrap (IntKind.i64.wrap (w57y0 N y0 + (1 : Int)) + w57y0 N y1)) [])) (w64y1 N y0 (0 : Int) (w64y0 N quotient1 (0 : Int) (IntKind.i64.wrap (IntKind.i64.wrap (w57y0 N y0 + (1 : Int)) + w57y0 N y1)) []) (w64y1 N quotient1 (0 : Int) (IntKind.i64.wrap (IntKind.i64.wrap (w57y0 N y0 + (1 : Int)) + w57y0 N y1)) []))) ((1 : Nat)) fun _ =>
  gn (w63y1 N y1 (IntKind.i64.wrap (w57y0 N y0 + (1 : Int))) (w64y0 N y0 (0 : Int) (w64y0 N quotient1 (0 : Int) (IntKind.i64.wrap (IntKind.i64.wrap (w57y0 N y0 + (1 : Int)) + w57y0 N y1)) []) (w64y1 N quotient1 (0 : Int) (IntKind.i64.wrap (IntKind.i64.wrap (w57y0 N y0 + (1 : Int)) + w57y0 N y1)) [])) (w64y1 N y0 (0 : Int) (w64y0 N quotient1 (0 : Int) (IntKind.i64.wrap (IntKind.i64.wrap (w57y0 N y0 + (1 : Int)) + w57y0 N y1)) []) (w64y1 N quotient1 (0 : Int) (IntKind.i64.wrap (IntKind.i64.wrap (w57y0 N y0 + (1 : Int)) + w57y0 N y1)) []))) ((1 : Nat)) fun y3 =>
  ck (decide ((0 : Int) ≤ w57y0 N y1 ∧ w57y0 N y1 < (↑y3.length : Int))) <|
  gn (w63y1 N y1 (IntKind.i64.wrap (w57y0 N y0 + (1 : Int))) (w64y0 N y0 (0 : Int) (w64y0 N quotient1 (0 : Int) (IntKind.i64.wrap (IntKind.i64.wrap (w57y0 N y0 + (1 : Int)) + w57y0 N y1)) []) (w64y1 N quotient1 (0 : Int) (IntKind.i64.wrap (IntKind.i64.wrap (w57y0 N y0 + (1 : Int)) + w57y0 N y1)) [])) (w64y1 N y0 (0 : Int) (w64y0 N quotient1 (0 : Int) (IntKind.i64.wrap (IntKind.i64.wrap (w57y0 N y0 + (1 : Int)) + w57y0 N y1)) []) (w64y1 N quotient1 (0 : Int) (IntKind.i64.wrap (IntKind.i64.wrap (w57y0 N y0 + (1 : Int)) + w57y0 N y1)) []))) ((1 : Nat)) fun y4 =>
  gn y4 ((w57y0 N y1).toNat) fun _ =>
  ck (w67p N y0) <|
  ck (w67p N quotient1) <|
  ck (slcOk (w67y0 N y0).length none (some (IntKind.i64.wrap (IntKind.i64.wrap (w57y0 N y0 - (↑(w67y0 N quotient1).length : Int)) + (1 : Int))))) <|
  ck (w68p N (slc (w67y0 N y0) none (some (IntKind.i64.wrap (IntKind.i64.wrap (w57y0 N y0 - (↑(w67y0 N quotient1).length : Int)) + (1 : Int)))))) <|
  in0 y1 (w57y0 N y0) (w67y0 N y0) (w67y0 N quotient1) (w68y0 N (slc (w67y0 N y0) none (some (IntKind.i64.wrap (IntKind.i64.wrap (w57y0 N y0 - (↑(w67y0 N quotient1).length : Int)) + (1 : Int)))))) ((↑(w67y0 N quotient1).length : Int)) ((0 : Int)) (w63y0 N y1 (IntKind.i64.wrap (w57y0 N y0 + (1 : Int))) (w64y0 N y0 (0 : Int) (w64y0 N quotient1 (0 : Int) (IntKind.i64.wrap (IntKind.i64.wrap (w57y0 N y0 + (1 : Int)) + w57y0 N y1)) []) (w64y1 N quotient1 (0 : Int) (IntKind.i64.wrap (IntKind.i64.wrap (w57y0 N y0 + (1 : Int)) + w57y0 N y1)) [])) (w64y1 N y0 (0 : Int) (w64y0 N quotient1 (0 : Int) (IntKind.i64.wrap (IntKind.i64.wrap (w57y0 N y0 + (1 : Int)) + w57y0 N y1)) []) (w64y1 N quotient1 (0 : Int) (IntKind.i64.wrap (IntKind.i64.wrap (w57y0 N y0 + (1 : Int)) + w57y0 N y1)) []))) ((w63y1 N y1 (IntKind.i64.wrap (w57y0 N y0 + (1 : Int))) (w64y0 N y0 (0 : Int) (w64y0 N quotient1 (0 : Int) (IntKind.i64.wrap (IntKind.i64.wrap (w57y0 N y0 + (1 : Int)) + w57y0 N y1)) []) (w64y1 N quotient1 (0 : Int) (IntKind.i64.wrap (IntKind.i64.wrap (w57y0 N y0 + (1 : Int)) + w57y0 N y1)) [])) (w64y1 N y0 (0 : Int) (w64y0 N quotient1 (0 : Int) (IntKind.i64.wrap (IntKind.i64.wrap (w57y0 N y0 + (1 : Int)) + w57y0 N y1)) []) (w64y1 N quotient1 (0 : Int) (IntKind.i64.wrap (IntKind.i64.wrap (w57y0 N y0 + (1 : Int)) + w57y0 N y1)) []))).set (1 : Nat) (y4.set (w57y0 N y1).toNat (63 : UInt8)))
    (fun _ z14 =>
      some (w44r0 z14))
def w44 [Alg] (N : Nat) (s0_0 : Int) (s0_1 : (List Int)) (quotient1 : Int) : O := w44G N (w44n0 N) s0_0 s0_1 quotient1
noncomputable def w44h [Alg] (N : Nat) : Hint := (.seq .d (.seq .d (.seq .d (.seq .d (.seq (.reg [] [.nilC 9 0 (.nest 42 5 .u8 [])] []) (.seq .d (.seq .d (.seq .d (.seq .d (.seq .d (.seq (.seq .d (.block (.sub w44m0 _ _ _ w44X0_0 (noX 1) (noX 2) (subL w44I0 w44u0 (w44l0 N N))))) .d)))))))))))
theorem w44hk (N : Nat) (hc : CxOk (w44c N)) : HintOk (w44c N) Tryd.f44.ntmps (w44h N) w44b := hk_of _ _ (And.intro trivial (And.intro trivial (And.intro trivial (And.intro trivial (And.intro trivial (And.intro trivial (And.intro trivial (And.intro trivial (And.intro trivial (And.intro trivial (And.intro (And.intro trivial (w44S0 N hc)) trivial)))))))))))
theorem w44q [Alg] (N : Nat) (s0_0 : Int) (s0_1 : (List Int)) (quotient1 : Int) : w44G N (w44s0 N) s0_0 s0_1 quotient1 = exec (w44c N) Tryd.f44.ntmps (w44h N) w44b ⟨argT 0 [.agg [.e (.i .i64) s0_0, .e (.sl (.i .i64)) s0_1], .e (.i .i64) quotient1], [], 100⟩ (finX (w44c N) Tryd.f44 false) := by kernel_rfl
theorem w44does {N : Nat} (hc : CxOk (w44c N)) {s0_0 : Int} {s0_1 : (List Int)} {quotient1 : Int} {r : Res} (h : w44 N s0_0 s0_1 quotient1 = some r) : Does Tryd.prog 44 (([.agg [.e (.i .i64) s0_0, .e (.sl (.i .i64)) s0_1], .e (.i .i64) quotient1] : List X).map X.D) (HA []) r.1.D (HA r.2) :=
  fun_ok hc (f := 44) (fn := Tryd.f44) (code := w44b) (by kernel_rfl) (by kernel_rfl) (w44hk N hc) (Nat.le_of_ble_eq_true (by kernel_rfl)) (ow := false) ((w44q N s0_0 s0_1 quotient1).symm.trans (by rw [w44e0 N]; exact h))
def w44un (r : Res) : Option ((List (List UInt8))) := match r with
  | (x0, []) => (match ue (.sl (.sl .u8)) x0 with | some a0 => some a0 | _ => none)
  | _ => none
theorem w44uo {r : Res} {d : (List (List UInt8))} (h : w44un r = some d) : r = w44r0 (d) := by
  unfold w44un at h
  split at h
  · split at h
    · rename_i h0; cases h; rw [ue_some h0]; rfl
    · cases h
  · cases h
def w44z (N : Nat) (s0_0 : Int) (s0_1 : (List Int)) (quotient1 : Int) : Option ((List (List UInt8))) := (w44 N s0_0 s0_1 quotient1).bind w44un
theorem w44fin {N : Nat} (hc : CxOk (w44c N)) {s0_0 : Int} {s0_1 : (List Int)} {quotient1 : Int} {d : (List (List UInt8))} (hd : w44z N s0_0 s0_1 quotient1 = some d) : Does Tryd.prog 44 (([.agg [.e (.i .i64) s0_0, .e (.sl (.i .i64)) s0_1], .e (.i .i64) quotient1] : List X).map X.D) (HA []) (w44r0 (d)).1.D (HA (w44r0 (d)).2) := by
  obtain ⟨r, hr, hu⟩ := Option.bind_eq_some_iff.1 hd
  have := w44does hc hr
  rw [w44uo hu] at this
  exact this
def w44p (N : Nat) (s0_0 : Int) (s0_1 : (List Int)) (quotient1 : Int) : Bool := (w44z N s0_0 s0_1 quotient1).isSome
def w44y0 (N : Nat) (s0_0 : Int) (s0_1 : (List Int)) (quotient1 : Int) : (List (List UInt8)) := ((w44z N s0_0 s0_1 quotient1).getD [])
def w44e (N : Nat) : Ent' := E2 (.pr (.i .i64) (.sl (.i .i64))) (.i .i64)  (fun x0 x1 => (w44p N x0.1 x0.2 x1, w44r0 (w44y0 N x0.1 x0.2 x1)))
theorem w44re {N : Nat} {s0_0 : Int} {s0_1 : (List Int)} {quotient1 : Int} {d : (List (List UInt8))} (hd : w44z N s0_0 s0_1 quotient1 = some d) : w44r0 (w44y0 N s0_0 s0_1 quotient1) = w44r0 (d) := by unfold w44y0; rw [hd]; rfl
theorem w44ok (N : Nat) : EOk Tryd.prog 44 (w44e N) := EOk.e2 (fun x0 x1 h => by
  have h : (w44z N x0.1 x0.2 x1).isSome = true := h
  obtain ⟨d, hd⟩ := Option.isSome_iff_exists.1 h
  have f := w44fin (w44cx N) hd
  rw [← w44re hd] at f
  exact f)
def w21r0 (a0 : (List (List UInt8))) (a1 : Int) : Res := (.tup [.e (.sl (.sl .u8)) a0, .e (.i .i64) a1], [])
noncomputable def w21L (N : Nat) : List (Nat × Ent') := [(13, w13e N), (42, w42e N), (43, w43e N), (44, w44e N)]
noncomputable def w21c (N : Nat) : Cx := ⟨Tryd.prog, 99999, w21L N⟩
noncomputable def w21b : Code := Tryd.f21.body.getD .skip
theorem w21cx (N : Nat) : CxOk (w21c N) := ctx_ok (by kernel_rfl) (.cons (by kernel_rfl) (w13ok N) (.cons (by kernel_rfl) (w42ok N) (.cons (by kernel_rfl) (w43ok N) (.cons (by kernel_rfl) (w44ok N) .nil))))
def w21G [Alg] (N : Nat)  (s0_0 : Int) (s0_1 : (List Int)) : O :=
  ck (w13p N s0_0 s0_1) <|
  br (decide (w13y1 N s0_0 s0_1 ≠ (0 : Int)))
    (some (w21r0 [] (w13y1 N s0_0 s0_1)))
    (ck true <|
    ck true <|
    ck true <|
    ck true <|
    br (decide ((3 : Int) = s0_0))
      (gx (w13y0 N s0_0 s0_1) ((0 : Int)) fun y0 =>
      ck (w42p N s0_0 s0_1 y0) <|
      some (w21r0 (w42y0 N s0_0 s0_1 y0) ((0 : Int))))
      (br (decide ((4 : Int) = s0_0))
        (gx (w13y0 N s0_0 s0_1) ((0 : Int)) fun y1 =>
        ck (w42p N s0_0 s0_1 y1) <|
        some (w21r0 (w42y0 N s0_0 s0_1 y1) ((0 : Int))))
        (br (decide ((5 : Int) = s0_0))
          (gx (w13y0 N s0_0 s0_1) ((0 : Int)) fun y2 =>
          ck (w43p N s0_0 s0_1 y2) <|
          some (w21r0 (w43y0 N s0_0 s0_1 y2) ((0 : Int))))
          (br (decide ((6 : Int) = s0_0))
            (gx (w13y0 N s0_0 s0_1) ((0 : Int)) fun y3 =>
            ck (w44p N s0_0 s0_1 y3) <|
            some (w21r0 (w44y0 N s0_0 s0_1 y3) ((0 : Int))))
            (gx (w13y0 N s0_0 s0_1) ((0 : Int)) fun _ =>
            none)))))
def w21 [Alg] (N : Nat) (s0_0 : Int) (s0_1 : (List Int)) : O := w21G N  s0_0 s0_1
noncomputable def w21h [Alg] (_ : Nat) : Hint := .d
theorem w21hk (N : Nat) : HintOk (w21c N) Tryd.f21.ntmps (w21h N) w21b := hk_of _ _ trivial
theorem w21q [Alg] (N : Nat) (s0_0 : Int) (s0_1 : (List Int)) : w21G N  s0_0 s0_1 = exec (w21c N) Tryd.f21.ntmps (w21h N) w21b ⟨argT 0 [.agg [.e (.i .i64) s0_0, .e (.sl (.i .i64)) s0_1]], [], 100⟩ (finX (w21c N) Tryd.f21 false) := by kernel_rfl
theorem w21does {N : Nat} (hc : CxOk (w21c N)) {s0_0 : Int} {s0_1 : (List Int)} {r : Res} (h : w21 N s0_0 s0_1 = some r) : Does Tryd.prog 21 (([.agg [.e (.i .i64) s0_0, .e (.sl (.i .i64)) s0_1]] : List X).map X.D) (HA []) r.1.D (HA r.2) :=
  fun_ok hc (f := 21) (fn := Tryd.f21) (code := w21b) (by kernel_rfl) (by kernel_rfl) (w21hk N) (Nat.le_of_ble_eq_true (by kernel_rfl)) (ow := false) ((w21q N s0_0 s0_1).symm.trans (by exact h))
def w21un (r : Res) : Option ((List (List UInt8)) × Int) := match r with
  | (.tup [x0, x1], []) => (match ue (.sl (.sl .u8)) x0, ue (.i .i64) x1 with | some a0, some a1 => some (a0, a1) | _, _ => none)
  | _ => none
theorem w21uo {r : Res} {d : (List (List UInt8)) × Int} (h : w21un r = some d) : r = w21r0 (d.1) (d.2) := by
  unfold w21un at h
  split at h
  · split at h
    · rename_i h0 h1; cases h; rw [ue_some h0, ue_some h1]; rfl
    · cases h
  · cases h
def w21z (N : Nat) (s0_0 : Int) (s0_1 : (List Int)) : Option ((List (List UInt8)) × Int) := (w21 N s0_0 s0_1).bind w21un
theorem w21fin {N : Nat} (hc : CxOk (w21c N)) {s0_0 : Int} {s0_1 : (List Int)} {d : (List (List UInt8)) × Int} (hd : w21z N s0_0 s0_1 = some d) : Does Tryd.prog 21 (([.agg [.e (.i .i64) s0_0, .e (.sl (.i .i64)) s0_1]] : List X).map X.D) (HA []) (w21r0 (d.1) (d.2)).1.D (HA (w21r0 (d.1) (d.2)).2) := by
  obtain ⟨r, hr, hu⟩ := Option.bind_eq_some_iff.1 hd
  have := w21does hc hr
  rw [w21uo hu] at this
  exact this
def w21p (N : Nat) (s0_0 : Int) (s0_1 : (List Int)) : Bool := (w21z N s0_0 s0_1).isSome
def w21y0 (N : Nat) (s0_0 : Int) (s0_1 : (List Int)) : (List (List UInt8)) := ((w21z N s0_0 s0_1).getD ([], 0)).1
def w21y1 (N : Nat) (s0_0 : Int) (s0_1 : (List Int)) : Int := ((w21z N s0_0 s0_1).getD ([], 0)).2
def w21e (N : Nat) : Ent' := E1 (.pr (.i .i64) (.sl (.i .i64)))  (fun x0 => (w21p N x0.1 x0.2, w21r0 (w21y0 N x0.1 x0.2) (w21y1 N x0.1 x0.2)))
theorem w21re {N : Nat} {s0_0 : Int} {s0_1 : (List Int)} {d : (List (List UInt8)) × Int} (hd : w21z N s0_0 s0_1 = some d) : w21r0 (w21y0 N s0_0 s0_1) (w21y1 N s0_0 s0_1) = w21r0 (d.1) (d.2) := by unfold w21y0 w21y1; rw [hd]; rfl
theorem w21ok (N : Nat) : EOk Tryd.prog 21 (w21e N) := EOk.e1 (fun x0 h => by
  have h : (w21z N x0.1 x0.2).isSome = true := h
  obtain ⟨d, hd⟩ := Option.isSome_iff_exists.1 h
  have f := w21fin (w21cx N) hd
  rw [← w21re hd] at f
  exact f)
def w31r0 (a0 : UInt8) : Res := (.e .u8 a0, [])
noncomputable def w31L (_ : Nat) : List (Nat × Ent') := []
noncomputable def w31c (N : Nat) : Cx := ⟨Tryd.prog, 99999, w31L N⟩
noncomputable def w31b : Code := Tryd.f31.body.getD .skip
theorem w31cx (N : Nat) : CxOk (w31c N) := ctx_ok (by kernel_rfl) .nil
def w31G [Alg] (_ : Nat)  (c0 : UInt8) : O :=
  br (decide ((48 : UInt8) ≤ c0) && decide (c0 ≤ (57 : UInt8)))
    (gx [(26 : UInt8), (1 : UInt8), (3 : UInt8), (9 : UInt8), (25 : UInt8), (17 : UInt8), (11 : UInt8), (27 : UInt8), (19 : UInt8), (10 : UInt8)] ((↑(c0 - (48 : UInt8)).toNat : Int)) fun y0 =>
    some (w31r0 y0))
    (br (decide (c0 = (43 : UInt8)))
      (some (w31r0 ((44 : UInt8))))
      (br (decide (c0 = (45 : UInt8)))
        (some (w31r0 ((36 : UInt8))))
        (br (decide (c0 = (42 : UInt8)))
          (some (w31r0 ((33 : UInt8))))
          (br (decide (c0 = (61 : UInt8)))
            (some (w31r0 ((18 : UInt8))))
            (br (decide (c0 = (91 : UInt8)))
              (some (w31r0 ((63 : UInt8))))
              (some (w31r0 ((0 : UInt8)))))))))
def w31 [Alg] (N : Nat) (c0 : UInt8) : O := w31G N  c0
noncomputable def w31h [Alg] (_ : Nat) : Hint := .d
theorem w31hk (N : Nat) : HintOk (w31c N) Tryd.f31.ntmps (w31h N) w31b := hk_of _ _ trivial
theorem w31q [Alg] (N : Nat) (c0 : UInt8) : w31G N  c0 = exec (w31c N) Tryd.f31.ntmps (w31h N) w31b ⟨argT 0 [.e .u8 c0], [], 100⟩ (finX (w31c N) Tryd.f31 false) := by kernel_rfl
theorem w31does {N : Nat} (hc : CxOk (w31c N)) {c0 : UInt8} {r : Res} (h : w31 N c0 = some r) : Does Tryd.prog 31 (([.e .u8 c0] : List X).map X.D) (HA []) r.1.D (HA r.2) :=
  fun_ok hc (f := 31) (fn := Tryd.f31) (code := w31b) (by kernel_rfl) (by kernel_rfl) (w31hk N) (Nat.le_of_ble_eq_true (by kernel_rfl)) (ow := false) ((w31q N c0).symm.trans (by exact h))
def w31un (r : Res) : Option (UInt8) := match r with
  | (x0, []) => (match ue .u8 x0 with | some a0 => some a0 | _ => none)
  | _ => none
theorem w31uo {r : Res} {d : UInt8} (h : w31un r = some d) : r = w31r0 (d) := by
  unfold w31un at h
  split at h
  · split at h
    · rename_i h0; cases h; rw [ue_some h0]; rfl
    · cases h
  · cases h
def w31z (N : Nat) (c0 : UInt8) : Option (UInt8) := (w31 N c0).bind w31un
theorem w31fin {N : Nat} (hc : CxOk (w31c N)) {c0 : UInt8} {d : UInt8} (hd : w31z N c0 = some d) : Does Tryd.prog 31 (([.e .u8 c0] : List X).map X.D) (HA []) (w31r0 (d)).1.D (HA (w31r0 (d)).2) := by
  obtain ⟨r, hr, hu⟩ := Option.bind_eq_some_iff.1 hd
  have := w31does hc hr
  rw [w31uo hu] at this
  exact this
def w31p (N : Nat) (c0 : UInt8) : Bool := (w31z N c0).isSome
def w31y0 (N : Nat) (c0 : UInt8) : UInt8 := ((w31z N c0).getD 0)
def w31e (N : Nat) : Ent' := E1 .u8  (fun x0 => (w31p N x0, w31r0 (w31y0 N x0)))
theorem w31re {N : Nat} {c0 : UInt8} {d : UInt8} (hd : w31z N c0 = some d) : w31r0 (w31y0 N c0) = w31r0 (d) := by unfold w31y0; rw [hd]; rfl
theorem w31ok (N : Nat) : EOk Tryd.prog 31 (w31e N) := EOk.e1 (fun x0 h => by
  have h : (w31z N x0).isSome = true := h
  obtain ⟨d, hd⟩ := Option.isSome_iff_exists.1 h
  have f := w31fin (w31cx N) hd
  rw [← w31re hd] at f
  exact f)
def w45r0 (a0 : (List (List UInt8))) : Res := (.e (.sl (.sl .u8)) a0, [])
noncomputable def w45L (N : Nat) : List (Nat × Ent') := [(31, w31e N)]
noncomputable def w45c (N : Nat) : Cx := ⟨Tryd.prog, 99999, w45L N⟩
noncomputable def w45b : Code := Tryd.f45.body.getD .skip
theorem w45cx (N : Nat) : CxOk (w45c N) := ctx_ok (by kernel_rfl) (.cons (by kernel_rfl) (w31ok N) .nil)
def w45F0 [Alg] (N : Nat)  (self : Int → (List UInt8) → O) (k0 : (List (List UInt8)) → Int → Int → (List (List UInt8)) → Int → Bool → Int → Int → (List (List UInt8)) → Int → (List UInt8) → (List UInt8) → Int → Bool → (List (List UInt8)) → (List UInt8) → O) (x87_0 : (List (List UInt8))) (x87_1 : Int) (x87_2 : Int) (x87_3 : (List (List UInt8))) (x87_4 : Int) (x87_5 : Bool) (x87_7 : (List (List UInt8))) (x87_6 : Int) (x87_8 : (List UInt8)) : O :=
  gx x87_0 x87_1 fun y97 =>
  br (decide (x87_6 < (↑y97.length : Int)))
    (gx x87_0 x87_1 fun y98 =>
    gx y98 x87_6 fun y99 =>
    ck (w31p N y99) <|
    ck (lim (x87_8 ++ [w31y0 N y99]).length (1 : Nat)) <|
    self (IntKind.i64.wrap (x87_6 + (1 : Int))) (x87_8 ++ [w31y0 N y99]))
    (k0 x87_0 x87_1 x87_2 x87_3 x87_4 x87_5 x87_6 x87_6 x87_0 x87_1 y97 y97 ((↑y97.length : Int)) (decide (x87_6 < (↑y97.length : Int))) x87_7 x87_8)
noncomputable def w45b0 : Code := atC [1, 1, 0, 1, 0, 0, 1, 0, 0, 1, 0, 1, 0, 0] w45b
def w45m0 : Nm := ⟨[0, 2, 3, 4, 7, 8, 9, 10, 5, 6], [], [.nilR 5 (.row 5 .u8 [] true)]⟩
def w45I0 (x : (List (List UInt8)) × Int × Int × (List (List UInt8)) × Int × Bool × Int × (List (List UInt8)) × (List UInt8)) : Sg := ⟨[(0, .e (.sl .tx) x.1), (2, .nilS), (3, .own 0), (4, .e (.i .i64) x.2.1), (7, .e (.i .i64) x.2.2.1), (8, .e (.sl .tx) x.2.2.2.1), (9, .e (.i .i64) x.2.2.2.2.1), (10, .e .bo x.2.2.2.2.2.1), (5, .own 1), (6, .e (.i .i64) x.2.2.2.2.2.2.1)], [(0, .row 42 (.sl .u8) x.2.2.2.2.2.2.2.1 true), (1, .row 5 .u8 x.2.2.2.2.2.2.2.2 true)], 100⟩
def w45u0 (σ : Sg) : (List (List UInt8)) × Int × Int × (List (List UInt8)) × Int × Bool × Int × (List (List UInt8)) × (List UInt8) := (lvT (.sl .tx) 0 0 σ, lvT (.i .i64) 4 0 σ, lvT (.i .i64) 7 0 σ, lvT (.sl .tx) 8 0 σ, lvT (.i .i64) 9 0 σ, lvT .bo 10 0 σ, lvT (.i .i64) 6 0 σ, lvR (.sl .u8) 0 σ, lvR .u8 1 σ)
theorem w45ui0 : ∀ x, w45u0 (w45I0 x) = x := fun _ => by kernel_rfl
def w45X0_0 (y : (List (List UInt8)) × Int × Int × (List (List UInt8)) × Int × Bool × Int × Int × (List (List UInt8)) × Int × (List UInt8) × (List UInt8) × Int × Bool × (List (List UInt8)) × (List UInt8)) : Exit × Sg := ((.exit 2), ⟨[(0, .e (.sl .tx) y.1), (2, .nilS), (3, .own 0), (4, .e (.i .i64) y.2.1), (7, .e (.i .i64) y.2.2.1), (8, .e (.sl .tx) y.2.2.2.1), (9, .e (.i .i64) y.2.2.2.2.1), (10, .e .bo y.2.2.2.2.2.1), (5, .own 1), (6, .e (.i .i64) y.2.2.2.2.2.2.1), (13, .e (.i .i64) y.2.2.2.2.2.2.2.1), (14, .e (.sl .tx) y.2.2.2.2.2.2.2.2.1), (15, .e (.i .i64) y.2.2.2.2.2.2.2.2.2.1), (16, .pt .tx y.2.2.2.2.2.2.2.2.2.2.1 0), (17, .e .tx y.2.2.2.2.2.2.2.2.2.2.2.1), (18, .e (.i .i64) y.2.2.2.2.2.2.2.2.2.2.2.2.1), (19, .e .bo y.2.2.2.2.2.2.2.2.2.2.2.2.2.1)], [(0, .row 42 (.sl .u8) y.2.2.2.2.2.2.2.2.2.2.2.2.2.2.1 true), (1, .row 5 .u8 y.2.2.2.2.2.2.2.2.2.2.2.2.2.2.2 true)], 100⟩)
def w45v0_0 (σ : Sg) : (List (List UInt8)) × Int × Int × (List (List UInt8)) × Int × Bool × Int × Int × (List (List UInt8)) × Int × (List UInt8) × (List UInt8) × Int × Bool × (List (List UInt8)) × (List UInt8) := (lvT (.sl .tx) 0 0 σ, lvT (.i .i64) 4 0 σ, lvT (.i .i64) 7 0 σ, lvT (.sl .tx) 8 0 σ, lvT (.i .i64) 9 0 σ, lvT .bo 10 0 σ, lvT (.i .i64) 6 0 σ, lvT (.i .i64) 13 0 σ, lvT (.sl .tx) 14 0 σ, lvT (.i .i64) 15 0 σ, lvT .tx 16 0 σ, lvT .tx 17 0 σ, lvT (.i .i64) 18 0 σ, lvT .bo 19 0 σ, lvR (.sl .u8) 0 σ, lvR .u8 1 σ)
def w45w0 : List (Exit × Nm) := [((.exit 2), ⟨[0, 2, 3, 4, 7, 8, 9, 10, 5, 6, 13, 14, 15, 16, 17, 18, 19], [], []⟩)]
theorem w45o0 : Outs w45v0_0 (fun _ => ()) (fun _ => ()) w45X0_0 (noX 1) (noX 2) (.exit 2) (.goto 1) (.goto 2) := ⟨fun _ => by kernel_rfl, fun _ => by kernel_rfl, fun _ => by kernel_rfl, fun _ => by kernel_rfl, fun _ => by kernel_rfl, fun _ => by kernel_rfl, exNe_ok (by kernel_rfl), exNe_ok (by kernel_rfl), exNe_ok (by kernel_rfl)⟩
def w45l0 [Alg] (N : Nat) : Nat → ((List (List UInt8)) × Int × Int × (List (List UInt8)) × Int × Bool × Int × (List (List UInt8)) × (List UInt8)) → (((List (List UInt8)) × Int × Int × (List (List UInt8)) × Int × Bool × Int × Int × (List (List UInt8)) × Int × (List UInt8) × (List UInt8) × Int × Bool × (List (List UInt8)) × (List UInt8)) → O) → ((Unit) → O) → ((Unit) → O) → O
  | 0, _, _, _, _ => none
  | n + 1, x, k0, k1, k2 => w45F0 N  (fun v0 v1 => w45l0 N n (x.1, x.2.1, x.2.2.1, x.2.2.2.1, x.2.2.2.2.1, x.2.2.2.2.2.1, v0, x.2.2.2.2.2.2.2.1, v1) k0 k1 k2) (fun y0 y1 y2 y3 y4 y5 y6 y7 y8 y9 y10 y11 y12 y13 y14 y15 => k0 (y0, y1, y2, y3, y4, y5, y6, y7, y8, y9, y10, y11, y12, y13, y14, y15)) x.1 x.2.1 x.2.2.1 x.2.2.2.1 x.2.2.2.2.1 x.2.2.2.2.2.1 x.2.2.2.2.2.2.2.1 x.2.2.2.2.2.2.1 x.2.2.2.2.2.2.2.2
def w45n0 [Alg] (N : Nat) (a0 : (List (List UInt8))) (a1 : Int) (a2 : Int) (a3 : (List (List UInt8))) (a4 : Int) (a5 : Bool) (a6 : Int) (a7 : (List (List UInt8))) (a8 : (List UInt8)) (k0 : (List (List UInt8)) → Int → Int → (List (List UInt8)) → Int → Bool → Int → Int → (List (List UInt8)) → Int → (List UInt8) → (List UInt8) → Int → Bool → (List (List UInt8)) → (List UInt8) → O) : O := w45l0 N N (a0, a1, a2, a3, a4, a5, a6, a7, a8) (fun y => k0 y.1 y.2.1 y.2.2.1 y.2.2.2.1 y.2.2.2.2.1 y.2.2.2.2.2.1 y.2.2.2.2.2.2.1 y.2.2.2.2.2.2.2.1 y.2.2.2.2.2.2.2.2.1 y.2.2.2.2.2.2.2.2.2.1 y.2.2.2.2.2.2.2.2.2.2.1 y.2.2.2.2.2.2.2.2.2.2.2.1 y.2.2.2.2.2.2.2.2.2.2.2.2.1 y.2.2.2.2.2.2.2.2.2.2.2.2.2.1 y.2.2.2.2.2.2.2.2.2.2.2.2.2.2.1 y.2.2.2.2.2.2.2.2.2.2.2.2.2.2.2) (fun _ => none) (fun _ => none)
noncomputable def w45s0 [Alg] (N : Nat) (a0 : (List (List UInt8))) (a1 : Int) (a2 : Int) (a3 : (List (List UInt8))) (a4 : Int) (a5 : Bool) (a6 : Int) (a7 : (List (List UInt8))) (a8 : (List UInt8)) (k0 : (List (List UInt8)) → Int → Int → (List (List UInt8)) → Int → Bool → Int → Int → (List (List UInt8)) → Int → (List UInt8) → (List UInt8) → Int → Bool → (List (List UInt8)) → (List UInt8) → O) : O := subL w45I0 w45u0 (w45l0 N N) (w45I0 (a0, a1, a2, a3, a4, a5, a6, a7, a8)) (fun y => k0 y.1 y.2.1 y.2.2.1 y.2.2.2.1 y.2.2.2.2.1 y.2.2.2.2.2.1 y.2.2.2.2.2.2.1 y.2.2.2.2.2.2.2.1 y.2.2.2.2.2.2.2.2.1 y.2.2.2.2.2.2.2.2.2.1 y.2.2.2.2.2.2.2.2.2.2.1 y.2.2.2.2.2.2.2.2.2.2.2.1 y.2.2.2.2.2.2.2.2.2.2.2.2.1 y.2.2.2.2.2.2.2.2.2.2.2.2.2.1 y.2.2.2.2.2.2.2.2.2.2.2.2.2.2.1 y.2.2.2.2.2.2.2.2.2.2.2.2.2.2.2) (fun _ => none) (fun _ => none)
theorem w45e0 [Alg] (N : Nat) : w45s0 N = w45n0 N := funext fun _ => funext fun _ => funext fun _ => funext fun _ => funext fun _ => funext fun _ => funext fun _ => funext fun _ => funext fun _ => funext fun _ => subL_I w45ui0 _ _ _ _
noncomputable def w45h0 [Alg] (_ : Nat) : Hint := .d
theorem w45hk0 (N : Nat) : HintOk (w45c N) Tryd.f45.ntmps (w45h0 N) w45b0 := hk_of _ _ trivial
theorem w45q0 [Alg] (N : Nat) (self : Sg → O) (K : Exit → Sg → O) (x : (List (List UInt8)) × Int × Int × (List (List UInt8)) × Int × Bool × Int × (List (List UInt8)) × (List UInt8)) : w45F0 N  (fun v0 v1 => self (w45I0 (x.1, x.2.1, x.2.2.1, x.2.2.2.1, x.2.2.2.2.1, x.2.2.2.2.2.1, v0, x.2.2.2.2.2.2.2.1, v1))) (fun y0 y1 y2 y3 y4 y5 y6 y7 y8 y9 y10 y11 y12 y13 y14 y15 => K (w45X0_0 (y0, y1, y2, y3, y4, y5, y6, y7, y8, y9, y10, y11, y12, y13, y14, y15)).1 (w45X0_0 (y0, y1, y2, y3, y4, y5, y6, y7, y8, y9, y10, y11, y12, y13, y14, y15)).2) x.1 x.2.1 x.2.2.1 x.2.2.2.1 x.2.2.2.2.1 x.2.2.2.2.2.1 x.2.2.2.2.2.2.2.1 x.2.2.2.2.2.2.1 x.2.2.2.2.2.2.2.2 = exec (w45c N) Tryd.f45.ntmps (w45h0 N) w45b0 (w45I0 x) (roundX w45m0 w45w0 self K) := by kernel_rfl
theorem w45S0 (N : Nat) (hc : CxOk (w45c N)) : SubOk (w45c N) Tryd.f45.ntmps (.loop w45b0) w45X0_0 (noX 1) (noX 2) (subL w45I0 w45u0 (w45l0 N N)) :=
  sub_loop hc (w45hk0 N) w45o0 (n := N) (fun x K => loop_ind (w45l0 N) (fun _ _ _ _ => rfl) (fun n K ih x => by
    have h : w45F0 N  (fun v0 v1 => w45l0 N n (x.1, x.2.1, x.2.2.1, x.2.2.2.1, x.2.2.2.2.1, x.2.2.2.2.2.1, v0, x.2.2.2.2.2.2.2.1, v1) (fun y => K (w45X0_0 y).1 (w45X0_0 y).2) (fun y => K ((noX 1) y).1 ((noX 1) y).2) (fun y => K ((noX 2) y).1 ((noX 2) y).2)) (fun y0 y1 y2 y3 y4 y5 y6 y7 y8 y9 y10 y11 y12 y13 y14 y15 => K (w45X0_0 (y0, y1, y2, y3, y4, y5, y6, y7, y8, y9, y10, y11, y12, y13, y14, y15)).1 (w45X0_0 (y0, y1, y2, y3, y4, y5, y6, y7, y8, y9, y10, y11, y12, y13, y14, y15)).2) x.1 x.2.1 x.2.2.1 x.2.2.2.1 x.2.2.2.2.1 x.2.2.2.2.2.1 x.2.2.2.2.2.2.2.1 x.2.2.2.2.2.2.1 x.2.2.2.2.2.2.2.2 = w45F0 N  (fun v0 v1 => loopX (w45c N) Tryd.f45.ntmps (w45h0 N) w45b0 w45m0 w45w0 n (w45I0 (x.1, x.2.1, x.2.2.1, x.2.2.2.1, x.2.2.2.2.1, x.2.2.2.2.2.1, v0, x.2.2.2.2.2.2.2.1, v1)) K) (fun y0 y1 y2 y3 y4 y5 y6 y7 y8 y9 y10 y11 y12 y13 y14 y15 => K (w45X0_0 (y0, y1, y2, y3, y4, y5, y6, y7, y8, y9, y10, y11, y12, y13, y14, y15)).1 (w45X0_0 (y0, y1, y2, y3, y4, y5, y6, y7, y8, y9, y10, y11, y12, y13, y14, y15)).2) x.1 x.2.1 x.2.2.1 x.2.2.2.1 x.2.2.2.2.1 x.2.2.2.2.2.1 x.2.2.2.2.2.2.2.1 x.2.2.2.2.2.2.1 x.2.2.2.2.2.2.2.2 := by rw [ show (fun v0 v1 => w45l0 N n (x.1, x.2.1, x.2.2.1, x.2.2.2.1, x.2.2.2.2.1, x.2.2.2.2.2.1, v0, x.2.2.2.2.2.2.2.1, v1) (fun y => K (w45X0_0 y).1 (w45X0_0 y).2) (fun y => K ((noX 1) y).1 ((noX 1) y).2) (fun y => K ((noX 2) y).1 ((noX 2) y).2)) = (fun v0 v1 => loopX (w45c N) Tryd.f45.ntmps (w45h0 N) w45b0 w45m0 w45w0 n (w45I0 (x.1, x.2.1, x.2.2.1, x.2.2.2.1, x.2.2.2.2.1, x.2.2.2.2.2.1, v0, x.2.2.2.2.2.2.2.1, v1)) K) from funext fun _ => funext fun _ => ih _]
    exact h.trans (w45q0 N (fun σ => loopX (w45c N) Tryd.f45.ntmps (w45h0 N) w45b0 w45m0 w45w0 n σ K) K x)) N x K)
def w45F1 [Alg] (_ : Nat) (in0 : (List (List UInt8)) → Int → Int → (List (List UInt8)) → Int → Bool → Int → (List (List UInt8)) → (List UInt8) → ((List (List UInt8)) → Int → Int → (List (List UInt8)) → Int → Bool → Int → Int → (List (List UInt8)) → Int → (List UInt8) → (List UInt8) → Int → Bool → (List (List UInt8)) → (List UInt8) → O) → O) (self : (List (List UInt8)) → Int → (List (List UInt8)) → O) (k0 : (List (List UInt8)) → O) (x0_0 : (List (List UInt8))) (x0_1 : Int) (x0_2 : (List (List UInt8))) : O :=
  br (decide (x0_1 < (↑x0_0.length : Int)))
    (in0 x0_0 x0_1 x0_1 x0_0 ((↑x0_0.length : Int)) (decide (x0_1 < (↑x0_0.length : Int))) ((0 : Int)) x0_2 []
      (fun z100 z101 _ _ _ _ _ _ _ _ _ _ _ _ z114 z115 =>
        ck (lim (z114 ++ [z115]).length (24 : Nat)) <|
        self z100 (IntKind.i64.wrap (z101 + (1 : Int))) (z114 ++ [z115])))
    (k0 x0_2)
noncomputable def w45b1 : Code := atC [1, 1, 0, 1, 0, 0] w45b
def w45m1 : Nm := ⟨[0, 2, 3, 4], [], [.nilR 3 (.row 42 (.sl .u8) [] true)]⟩
def w45I1 (x : (List (List UInt8)) × Int × (List (List UInt8))) : Sg := ⟨[(0, .e (.sl .tx) x.1), (2, .nilS), (3, .own 0), (4, .e (.i .i64) x.2.1)], [(0, .row 42 (.sl .u8) x.2.2 true)], 100⟩
def w45u1 (σ : Sg) : (List (List UInt8)) × Int × (List (List UInt8)) := (lvT (.sl .tx) 0 0 σ, lvT (.i .i64) 4 0 σ, lvR (.sl .u8) 0 σ)
theorem w45ui1 : ∀ x, w45u1 (w45I1 x) = x := fun _ => by kernel_rfl
def w45X1_0 (y : (List (List UInt8))) : Exit × Sg := ((.exit 0), ⟨[(2, .nilS), (3, .own 0)], [(0, .row 42 (.sl .u8) y true)], 100⟩)
def w45v1_0 (σ : Sg) : (List (List UInt8)) := lvR (.sl .u8) 0 σ
def w45w1 : List (Exit × Nm) := [((.exit 0), ⟨[2, 3], [], []⟩)]
theorem w45o1 : Outs w45v1_0 (fun _ => ()) (fun _ => ()) w45X1_0 (noX 1) (noX 2) (.exit 0) (.goto 1) (.goto 2) := ⟨fun _ => by kernel_rfl, fun _ => by kernel_rfl, fun _ => by kernel_rfl, fun _ => by kernel_rfl, fun _ => by kernel_rfl, fun _ => by kernel_rfl, exNe_ok (by kernel_rfl), exNe_ok (by kernel_rfl), exNe_ok (by kernel_rfl)⟩
def w45l1 [Alg] (N : Nat) : Nat → ((List (List UInt8)) × Int × (List (List UInt8))) → (((List (List UInt8))) → O) → ((Unit) → O) → ((Unit) → O) → O
  | 0, _, _, _, _ => none
  | n + 1, x, k0, k1, k2 => w45F1 N (w45n0 N) (fun v0 v1 v2 => w45l1 N n (v0, v1, v2) k0 k1 k2) (fun y0 => k0 y0) x.1 x.2.1 x.2.2
def w45n1 [Alg] (N : Nat) (a0 : (List (List UInt8))) (a1 : Int) (a2 : (List (List UInt8))) (k0 : (List (List UInt8)) → O) : O := w45l1 N N (a0, a1, a2) (fun y => k0 y) (fun _ => none) (fun _ => none)
noncomputable def w45s1 [Alg] (N : Nat) (a0 : (List (List UInt8))) (a1 : Int) (a2 : (List (List UInt8))) (k0 : (List (List UInt8)) → O) : O := subL w45I1 w45u1 (w45l1 N N) (w45I1 (a0, a1, a2)) (fun y => k0 y) (fun _ => none) (fun _ => none)
theorem w45e1 [Alg] (N : Nat) : w45s1 N = w45n1 N := funext fun _ => funext fun _ => funext fun _ => funext fun _ => subL_I w45ui1 _ _ _ _
noncomputable def w45h1 [Alg] (N : Nat) : Hint := (.seq .d (.seq (.block (.seq .d (.seq (.seq .d (.block (.sub w45m0 _ _ _ w45X0_0 (noX 1) (noX 2) (subL w45I0 w45u0 (w45l0 N N))))) .d))) .d))
theorem w45hk1 (N : Nat) (hc : CxOk (w45c N)) : HintOk (w45c N) Tryd.f45.ntmps (w45h1 N) w45b1 := hk_of _ _ (And.intro trivial (And.intro (And.intro trivial (And.intro (And.intro trivial (w45S0 N hc)) trivial)) trivial))
theorem w45q1 [Alg] (N : Nat) (self : Sg → O) (K : Exit → Sg → O) (x : (List (List UInt8)) × Int × (List (List UInt8))) : w45F1 N (w45s0 N) (fun v0 v1 v2 => self (w45I1 (v0, v1, v2))) (fun y0 => K (w45X1_0 y0).1 (w45X1_0 y0).2) x.1 x.2.1 x.2.2 = exec (w45c N) Tryd.f45.ntmps (w45h1 N) w45b1 (w45I1 x) (roundX w45m1 w45w1 self K) := by kernel_rfl
theorem w45S1 (N : Nat) (hc : CxOk (w45c N)) : SubOk (w45c N) Tryd.f45.ntmps (.loop w45b1) w45X1_0 (noX 1) (noX 2) (subL w45I1 w45u1 (w45l1 N N)) :=
  sub_loop hc (w45hk1 N hc) w45o1 (n := N) (fun x K => loop_ind (w45l1 N) (fun _ _ _ _ => rfl) (fun n K ih x => by
    have h : w45F1 N (w45n0 N) (fun v0 v1 v2 => w45l1 N n (v0, v1, v2) (fun y => K (w45X1_0 y).1 (w45X1_0 y).2) (fun y => K ((noX 1) y).1 ((noX 1) y).2) (fun y => K ((noX 2) y).1 ((noX 2) y).2)) (fun y0 => K (w45X1_0 y0).1 (w45X1_0 y0).2) x.1 x.2.1 x.2.2 = w45F1 N (w45s0 N) (fun v0 v1 v2 => loopX (w45c N) Tryd.f45.ntmps (w45h1 N) w45b1 w45m1 w45w1 n (w45I1 (v0, v1, v2)) K) (fun y0 => K (w45X1_0 y0).1 (w45X1_0 y0).2) x.1 x.2.1 x.2.2 := by rw [w45e0 N, show (fun v0 v1 v2 => w45l1 N n (v0, v1, v2) (fun y => K (w45X1_0 y).1 (w45X1_0 y).2) (fun y => K ((noX 1) y).1 ((noX 1) y).2) (fun y => K ((noX 2) y).1 ((noX 2) y).2)) = (fun v0 v1 v2 => loopX (w45c N) Tryd.f45.ntmps (w45h1 N) w45b1 w45m1 w45w1 n (w45I1 (v0, v1, v2)) K) from funext fun _ => funext fun _ => funext fun _ => ih _]
    exact h.trans (w45q1 N (fun σ => loopX (w45c N) Tryd.f45.ntmps (w45h1 N) w45b1 w45m1 w45w1 n σ K) K x)) N x K)
def w45G [Alg] (_ : Nat) (_in0 : (List (List UInt8)) → Int → Int → (List (List UInt8)) → Int → Bool → Int → (List (List UInt8)) → (List UInt8) → ((List (List UInt8)) → Int → Int → (List (List UInt8)) → Int → Bool → Int → Int → (List (List UInt8)) → Int → (List UInt8) → (List UInt8) → Int → Bool → (List (List UInt8)) → (List UInt8) → O) → O) (in1 : (List (List UInt8)) → Int → (List (List UInt8)) → ((List (List UInt8)) → O) → O) (lines0 : (List (List UInt8))) : O :=
  in1 lines0 ((0 : Int)) []
    (fun z116 =>
      some (w45r0 z116))
def w45 [Alg] (N : Nat) (lines0 : (List (List UInt8))) : O := w45G N (w45n0 N) (w45n1 N) lines0
noncomputable def w45h [Alg] (N : Nat) : Hint := (.seq .d (.seq .d (.seq (.seq .d (.block (.sub w45m1 _ _ _ w45X1_0 (noX 1) (noX 2) (subL w45I1 w45u1 (w45l1 N N))))) .d)))
theorem w45hk (N : Nat) (hc : CxOk (w45c N)) : HintOk (w45c N) Tryd.f45.ntmps (w45h N) w45b := hk_of _ _ (And.intro trivial (And.intro trivial (And.intro (And.intro trivial (w45S1 N hc)) trivial)))
theorem w45q [Alg] (N : Nat) (lines0 : (List (List UInt8))) : w45G N (w45s0 N) (w45s1 N) lines0 = exec (w45c N) Tryd.f45.ntmps (w45h N) w45b ⟨argT 0 [.e (.sl .tx) lines0], [], 100⟩ (finX (w45c N) Tryd.f45 false) := by kernel_rfl
theorem w45does {N : Nat} (hc : CxOk (w45c N)) {lines0 : (List (List UInt8))} {r : Res} (h : w45 N lines0 = some r) : Does Tryd.prog 45 (([.e (.sl .tx) lines0] : List X).map X.D) (HA []) r.1.D (HA r.2) :=
  fun_ok hc (f := 45) (fn := Tryd.f45) (code := w45b) (by kernel_rfl) (by kernel_rfl) (w45hk N hc) (Nat.le_of_ble_eq_true (by kernel_rfl)) (ow := false) ((w45q N lines0).symm.trans (by rw [w45e0 N, w45e1 N]; exact h))
def w45un (r : Res) : Option ((List (List UInt8))) := match r with
  | (x0, []) => (match ue (.sl (.sl .u8)) x0 with | some a0 => some a0 | _ => none)
  | _ => none
theorem w45uo {r : Res} {d : (List (List UInt8))} (h : w45un r = some d) : r = w45r0 (d) := by
  unfold w45un at h
  split at h
  · split at h
    · rename_i h0; cases h; rw [ue_some h0]; rfl
    · cases h
  · cases h
def w45z (N : Nat) (lines0 : (List (List UInt8))) : Option ((List (List UInt8))) := (w45 N lines0).bind w45un
theorem w45fin {N : Nat} (hc : CxOk (w45c N)) {lines0 : (List (List UInt8))} {d : (List (List UInt8))} (hd : w45z N lines0 = some d) : Does Tryd.prog 45 (([.e (.sl .tx) lines0] : List X).map X.D) (HA []) (w45r0 (d)).1.D (HA (w45r0 (d)).2) := by
  obtain ⟨r, hr, hu⟩ := Option.bind_eq_some_iff.1 hd
  have := w45does hc hr
  rw [w45uo hu] at this
  exact this
def w45p (N : Nat) (lines0 : (List (List UInt8))) : Bool := (w45z N lines0).isSome
def w45y0 (N : Nat) (lines0 : (List (List UInt8))) : (List (List UInt8)) := ((w45z N lines0).getD [])
def w45e (N : Nat) : Ent' := E1 (.sl .tx)  (fun x0 => (w45p N x0, w45r0 (w45y0 N x0)))
theorem w45re {N : Nat} {lines0 : (List (List UInt8))} {d : (List (List UInt8))} (hd : w45z N lines0 = some d) : w45r0 (w45y0 N lines0) = w45r0 (d) := by unfold w45y0; rw [hd]; rfl
theorem w45ok (N : Nat) : EOk Tryd.prog 45 (w45e N) := EOk.e1 (fun x0 h => by
  have h : (w45z N x0).isSome = true := h
  obtain ⟨d, hd⟩ := Option.isSome_iff_exists.1 h
  have f := w45fin (w45cx N) hd
  rw [← w45re hd] at f
  exact f)
def w47r0 (a0 : Bool) : Res := (.e .bo a0, [])
noncomputable def w47L (_ : Nat) : List (Nat × Ent') := []
noncomputable def w47c (N : Nat) : Cx := ⟨Tryd.prog, 99999, w47L N⟩
noncomputable def w47b : Code := Tryd.f47.body.getD .skip
theorem w47cx (N : Nat) : CxOk (w47c N) := ctx_ok (by kernel_rfl) .nil
def w47F0 [Alg] (_ : Nat)  (self : Int → O) (k0 : Bool → O) (k1 : Bool → O) (x0_0 : (List UInt8)) (x0_1 : (List UInt8)) (x0_2 : Bool) (x0_3 : Int) : O :=
  br (decide (x0_3 < (↑x0_0.length : Int)))
    (gx x0_0 x0_3 fun y5 =>
    gx x0_1 x0_3 fun y6 =>
    br (decide (y5 ≠ y6))
      (k0 false)
      (self (IntKind.i64.wrap (x0_3 + (1 : Int)))))
    (k1 x0_2)
noncomputable def w47b0 : Code := atC [1, 1, 0, 1, 0, 0] w47b
def w47m0 : Nm := ⟨[0, 1, 4, 5], [], []⟩
def w47I0 (x : (List UInt8) × (List UInt8) × Bool × Int) : Sg := ⟨[(0, .e (.sl .u8) x.1), (1, .e (.sl .u8) x.2.1), (4, .e .bo x.2.2.1), (5, .e (.i .i64) x.2.2.2)], [], 100⟩
def w47u0 (σ : Sg) : (List UInt8) × (List UInt8) × Bool × Int := (lvT (.sl .u8) 0 0 σ, lvT (.sl .u8) 1 0 σ, lvT .bo 4 0 σ, lvT (.i .i64) 5 0 σ)
theorem w47ui0 : ∀ x, w47u0 (w47I0 x) = x := fun _ => by kernel_rfl
def w47X0_0 (y : Bool) : Exit × Sg := (.ret, ⟨[(4, .e .bo y)], [], 100⟩)
def w47v0_0 (σ : Sg) : Bool := lvT .bo 4 0 σ
def w47X0_1 (y : Bool) : Exit × Sg := ((.exit 0), ⟨[(4, .e .bo y)], [], 100⟩)
def w47v0_1 (σ : Sg) : Bool := lvT .bo 4 0 σ
def w47w0 : List (Exit × Nm) := [(.ret, ⟨[4], [], []⟩), ((.exit 0), ⟨[4], [], []⟩)]
theorem w47o0 : Outs w47v0_0 w47v0_1 (fun _ => ()) w47X0_0 w47X0_1 (noX 2) .ret (.exit 0) (.goto 2) := ⟨fun _ => by kernel_rfl, fun _ => by kernel_rfl, fun _ => by kernel_rfl, fun _ => by kernel_rfl, fun _ => by kernel_rfl, fun _ => by kernel_rfl, exNe_ok (by kernel_rfl), exNe_ok (by kernel_rfl), exNe_ok (by kernel_rfl)⟩
def w47l0 [Alg] (N : Nat) : Nat → ((List UInt8) × (List UInt8) × Bool × Int) → ((Bool) → O) → ((Bool) → O) → ((Unit) → O) → O
  | 0, _, _, _, _ => none
  | n + 1, x, k0, k1, k2 => w47F0 N  (fun v0 => w47l0 N n (x.1, x.2.1, x.2.2.1, v0) k0 k1 k2) (fun y0 => k0 y0) (fun y0 => k1 y0) x.1 x.2.1 x.2.2.1 x.2.2.2
def w47n0 [Alg] (N : Nat) (a0 : (List UInt8)) (a1 : (List UInt8)) (a2 : Bool) (a3 : Int) (k0 : Bool → O) (k1 : Bool → O) : O := w47l0 N N (a0, a1, a2, a3) (fun y => k0 y) (fun y => k1 y) (fun _ => none)
noncomputable def w47s0 [Alg] (N : Nat) (a0 : (List UInt8)) (a1 : (List UInt8)) (a2 : Bool) (a3 : Int) (k0 : Bool → O) (k1 : Bool → O) : O := subL w47I0 w47u0 (w47l0 N N) (w47I0 (a0, a1, a2, a3)) (fun y => k0 y) (fun y => k1 y) (fun _ => none)
theorem w47e0 [Alg] (N : Nat) : w47s0 N = w47n0 N := funext fun _ => funext fun _ => funext fun _ => funext fun _ => funext fun _ => funext fun _ => subL_I w47ui0 _ _ _ _
noncomputable def w47h0 [Alg] (_ : Nat) : Hint := .d
theorem w47hk0 (N : Nat) : HintOk (w47c N) Tryd.f47.ntmps (w47h0 N) w47b0 := hk_of _ _ trivial
theorem w47q0 [Alg] (N : Nat) (self : Sg → O) (K : Exit → Sg → O) (x : (List UInt8) × (List UInt8) × Bool × Int) : w47F0 N  (fun v0 => self (w47I0 (x.1, x.2.1, x.2.2.1, v0))) (fun y0 => K (w47X0_0 y0).1 (w47X0_0 y0).2) (fun y0 => K (w47X0_1 y0).1 (w47X0_1 y0).2) x.1 x.2.1 x.2.2.1 x.2.2.2 = exec (w47c N) Tryd.f47.ntmps (w47h0 N) w47b0 (w47I0 x) (roundX w47m0 w47w0 self K) := by kernel_rfl
theorem w47S0 (N : Nat) (hc : CxOk (w47c N)) : SubOk (w47c N) Tryd.f47.ntmps (.loop w47b0) w47X0_0 w47X0_1 (noX 2) (subL w47I0 w47u0 (w47l0 N N)) :=
  sub_loop hc (w47hk0 N) w47o0 (n := N) (fun x K => loop_ind (w47l0 N) (fun _ _ _ _ => rfl) (fun n K ih x => by
    have h : w47F0 N  (fun v0 => w47l0 N n (x.1, x.2.1, x.2.2.1, v0) (fun y => K (w47X0_0 y).1 (w47X0_0 y).2) (fun y => K (w47X0_1 y).1 (w47X0_1 y).2) (fun y => K ((noX 2) y).1 ((noX 2) y).2)) (fun y0 => K (w47X0_0 y0).1 (w47X0_0 y0).2) (fun y0 => K (w47X0_1 y0).1 (w47X0_1 y0).2) x.1 x.2.1 x.2.2.1 x.2.2.2 = w47F0 N  (fun v0 => loopX (w47c N) Tryd.f47.ntmps (w47h0 N) w47b0 w47m0 w47w0 n (w47I0 (x.1, x.2.1, x.2.2.1, v0)) K) (fun y0 => K (w47X0_0 y0).1 (w47X0_0 y0).2) (fun y0 => K (w47X0_1 y0).1 (w47X0_1 y0).2) x.1 x.2.1 x.2.2.1 x.2.2.2 := by rw [ show (fun v0 => w47l0 N n (x.1, x.2.1, x.2.2.1, v0) (fun y => K (w47X0_0 y).1 (w47X0_0 y).2) (fun y => K (w47X0_1 y).1 (w47X0_1 y).2) (fun y => K ((noX 2) y).1 ((noX 2) y).2)) = (fun v0 => loopX (w47c N) Tryd.f47.ntmps (w47h0 N) w47b0 w47m0 w47w0 n (w47I0 (x.1, x.2.1, x.2.2.1, v0)) K) from funext fun _ => ih _]
    exact h.trans (w47q0 N (fun σ => loopX (w47c N) Tryd.f47.ntmps (w47h0 N) w47b0 w47m0 w47w0 n σ K) K x)) N x K)
def w47G [Alg] (_ : Nat) (in0 : (List UInt8) → (List UInt8) → Bool → Int → (Bool → O) → (Bool → O) → O) (a0 : (List UInt8)) (b1 : (List UInt8)) : O :=
  br (decide ((↑a0.length : Int) ≠ (↑b1.length : Int)))
    (some (w47r0 false))
    (in0 a0 b1 false ((0 : Int))
      (fun z7 =>
        some (w47r0 z7))
      (fun _ =>
        some (w47r0 true)))
def w47 [Alg] (N : Nat) (a0 : (List UInt8)) (b1 : (List UInt8)) : O := w47G N (w47n0 N) a0 b1
noncomputable def w47h [Alg] (N : Nat) : Hint := (.seq .d (.seq .d (.seq (.seq .d (.block (.sub w47m0 _ _ _ w47X0_0 w47X0_1 (noX 2) (subL w47I0 w47u0 (w47l0 N N))))) .d)))
theorem w47hk (N : Nat) (hc : CxOk (w47c N)) : HintOk (w47c N) Tryd.f47.ntmps (w47h N) w47b := hk_of _ _ (And.intro trivial (And.intro trivial (And.intro (And.intro trivial (w47S0 N hc)) trivial)))
theorem w47q [Alg] (N : Nat) (a0 : (List UInt8)) (b1 : (List UInt8)) : w47G N (w47s0 N) a0 b1 = exec (w47c N) Tryd.f47.ntmps (w47h N) w47b ⟨argT 0 [.e (.sl .u8) a0, .e (.sl .u8) b1], [], 100⟩ (finX (w47c N) Tryd.f47 false) := by kernel_rfl
theorem w47does {N : Nat} (hc : CxOk (w47c N)) {a0 : (List UInt8)} {b1 : (List UInt8)} {r : Res} (h : w47 N a0 b1 = some r) : Does Tryd.prog 47 (([.e (.sl .u8) a0, .e (.sl .u8) b1] : List X).map X.D) (HA []) r.1.D (HA r.2) :=
  fun_ok hc (f := 47) (fn := Tryd.f47) (code := w47b) (by kernel_rfl) (by kernel_rfl) (w47hk N hc) (Nat.le_of_ble_eq_true (by kernel_rfl)) (ow := false) ((w47q N a0 b1).symm.trans (by rw [w47e0 N]; exact h))
def w47un (r : Res) : Option (Bool) := match r with
  | (x0, []) => (match ue .bo x0 with | some a0 => some a0 | _ => none)
  | _ => none
theorem w47uo {r : Res} {d : Bool} (h : w47un r = some d) : r = w47r0 (d) := by
  unfold w47un at h
  split at h
  · split at h
    · rename_i h0; cases h; rw [ue_some h0]; rfl
    · cases h
  · cases h
def w47z (N : Nat) (a0 : (List UInt8)) (b1 : (List UInt8)) : Option (Bool) := (w47 N a0 b1).bind w47un
theorem w47fin {N : Nat} (hc : CxOk (w47c N)) {a0 : (List UInt8)} {b1 : (List UInt8)} {d : Bool} (hd : w47z N a0 b1 = some d) : Does Tryd.prog 47 (([.e (.sl .u8) a0, .e (.sl .u8) b1] : List X).map X.D) (HA []) (w47r0 (d)).1.D (HA (w47r0 (d)).2) := by
  obtain ⟨r, hr, hu⟩ := Option.bind_eq_some_iff.1 hd
  have := w47does hc hr
  rw [w47uo hu] at this
  exact this
def w47p (N : Nat) (a0 : (List UInt8)) (b1 : (List UInt8)) : Bool := (w47z N a0 b1).isSome
def w47y0 (N : Nat) (a0 : (List UInt8)) (b1 : (List UInt8)) : Bool := ((w47z N a0 b1).getD false)
def w47e (N : Nat) : Ent' := E2 (.sl .u8) (.sl .u8)  (fun x0 x1 => (w47p N x0 x1, w47r0 (w47y0 N x0 x1)))
theorem w47re {N : Nat} {a0 : (List UInt8)} {b1 : (List UInt8)} {d : Bool} (hd : w47z N a0 b1 = some d) : w47r0 (w47y0 N a0 b1) = w47r0 (d) := by unfold w47y0; rw [hd]; rfl
theorem w47ok (N : Nat) : EOk Tryd.prog 47 (w47e N) := EOk.e2 (fun x0 x1 h => by
  have h : (w47z N x0 x1).isSome = true := h
  obtain ⟨d, hd⟩ := Option.isSome_iff_exists.1 h
  have f := w47fin (w47cx N) hd
  rw [← w47re hd] at f
  exact f)
def w23r0 (a0 : Bool) : Res := (.e .bo a0, [])
noncomputable def w23L (N : Nat) : List (Nat × Ent') := [(47, w47e N)]
noncomputable def w23c (N : Nat) : Cx := ⟨Tryd.prog, 99999, w23L N⟩
noncomputable def w23b : Code := Tryd.f23.body.getD .skip
theorem w23cx (N : Nat) : CxOk (w23c N) := ctx_ok (by kernel_rfl) (.cons (by kernel_rfl) (w47ok N) .nil)
def w23F0 [Alg] (N : Nat)  (self : Int → O) (k0 : Bool → O) (k1 : Bool → O) (x0_0 : (List (List UInt8))) (x0_1 : (List (List UInt8))) (x0_2 : Bool) (x0_3 : Int) : O :=
  br (decide (x0_3 < (↑x0_0.length : Int)))
    (gx x0_0 x0_3 fun y5 =>
    gx x0_1 x0_3 fun y6 =>
    ck (w47p N y5 y6) <|
    br (!w47y0 N y5 y6)
      (k0 false)
      (self (IntKind.i64.wrap (x0_3 + (1 : Int)))))
    (k1 x0_2)
noncomputable def w23b0 : Code := atC [1, 1, 0, 1, 0, 0] w23b
def w23m0 : Nm := ⟨[0, 1, 4, 5], [], []⟩
def w23I0 (x : (List (List UInt8)) × (List (List UInt8)) × Bool × Int) : Sg := ⟨[(0, .e (.sl (.sl .u8)) x.1), (1, .e (.sl (.sl .u8)) x.2.1), (4, .e .bo x.2.2.1), (5, .e (.i .i64) x.2.2.2)], [], 100⟩
def w23u0 (σ : Sg) : (List (List UInt8)) × (List (List UInt8)) × Bool × Int := (lvT (.sl (.sl .u8)) 0 0 σ, lvT (.sl (.sl .u8)) 1 0 σ, lvT .bo 4 0 σ, lvT (.i .i64) 5 0 σ)
theorem w23ui0 : ∀ x, w23u0 (w23I0 x) = x := fun _ => by kernel_rfl
def w23X0_0 (y : Bool) : Exit × Sg := (.ret, ⟨[(4, .e .bo y)], [], 100⟩)
def w23v0_0 (σ : Sg) : Bool := lvT .bo 4 0 σ
def w23X0_1 (y : Bool) : Exit × Sg := ((.exit 0), ⟨[(4, .e .bo y)], [], 100⟩)
def w23v0_1 (σ : Sg) : Bool := lvT .bo 4 0 σ
def w23w0 : List (Exit × Nm) := [(.ret, ⟨[4], [], []⟩), ((.exit 0), ⟨[4], [], []⟩)]
theorem w23o0 : Outs w23v0_0 w23v0_1 (fun _ => ()) w23X0_0 w23X0_1 (noX 2) .ret (.exit 0) (.goto 2) := ⟨fun _ => by kernel_rfl, fun _ => by kernel_rfl, fun _ => by kernel_rfl, fun _ => by kernel_rfl, fun _ => by kernel_rfl, fun _ => by kernel_rfl, exNe_ok (by kernel_rfl), exNe_ok (by kernel_rfl), exNe_ok (by kernel_rfl)⟩
def w23l0 [Alg] (N : Nat) : Nat → ((List (List UInt8)) × (List (List UInt8)) × Bool × Int) → ((Bool) → O) → ((Bool) → O) → ((Unit) → O) → O
  | 0, _, _, _, _ => none
  | n + 1, x, k0, k1, k2 => w23F0 N  (fun v0 => w23l0 N n (x.1, x.2.1, x.2.2.1, v0) k0 k1 k2) (fun y0 => k0 y0) (fun y0 => k1 y0) x.1 x.2.1 x.2.2.1 x.2.2.2
def w23n0 [Alg] (N : Nat) (a0 : (List (List UInt8))) (a1 : (List (List UInt8))) (a2 : Bool) (a3 : Int) (k0 : Bool → O) (k1 : Bool → O) : O := w23l0 N N (a0, a1, a2, a3) (fun y => k0 y) (fun y => k1 y) (fun _ => none)
noncomputable def w23s0 [Alg] (N : Nat) (a0 : (List (List UInt8))) (a1 : (List (List UInt8))) (a2 : Bool) (a3 : Int) (k0 : Bool → O) (k1 : Bool → O) : O := subL w23I0 w23u0 (w23l0 N N) (w23I0 (a0, a1, a2, a3)) (fun y => k0 y) (fun y => k1 y) (fun _ => none)
theorem w23e0 [Alg] (N : Nat) : w23s0 N = w23n0 N := funext fun _ => funext fun _ => funext fun _ => funext fun _ => funext fun _ => funext fun _ => subL_I w23ui0 _ _ _ _
noncomputable def w23h0 [Alg] (_ : Nat) : Hint := .d
theorem w23hk0 (N : Nat) : HintOk (w23c N) Tryd.f23.ntmps (w23h0 N) w23b0 := hk_of _ _ trivial
theorem w23q0 [Alg] (N : Nat) (self : Sg → O) (K : Exit → Sg → O) (x : (List (List UInt8)) × (List (List UInt8)) × Bool × Int) : w23F0 N  (fun v0 => self (w23I0 (x.1, x.2.1, x.2.2.1, v0))) (fun y0 => K (w23X0_0 y0).1 (w23X0_0 y0).2) (fun y0 => K (w23X0_1 y0).1 (w23X0_1 y0).2) x.1 x.2.1 x.2.2.1 x.2.2.2 = exec (w23c N) Tryd.f23.ntmps (w23h0 N) w23b0 (w23I0 x) (roundX w23m0 w23w0 self K) := by kernel_rfl
theorem w23S0 (N : Nat) (hc : CxOk (w23c N)) : SubOk (w23c N) Tryd.f23.ntmps (.loop w23b0) w23X0_0 w23X0_1 (noX 2) (subL w23I0 w23u0 (w23l0 N N)) :=
  sub_loop hc (w23hk0 N) w23o0 (n := N) (fun x K => loop_ind (w23l0 N) (fun _ _ _ _ => rfl) (fun n K ih x => by
    have h : w23F0 N  (fun v0 => w23l0 N n (x.1, x.2.1, x.2.2.1, v0) (fun y => K (w23X0_0 y).1 (w23X0_0 y).2) (fun y => K (w23X0_1 y).1 (w23X0_1 y).2) (fun y => K ((noX 2) y).1 ((noX 2) y).2)) (fun y0 => K (w23X0_0 y0).1 (w23X0_0 y0).2) (fun y0 => K (w23X0_1 y0).1 (w23X0_1 y0).2) x.1 x.2.1 x.2.2.1 x.2.2.2 = w23F0 N  (fun v0 => loopX (w23c N) Tryd.f23.ntmps (w23h0 N) w23b0 w23m0 w23w0 n (w23I0 (x.1, x.2.1, x.2.2.1, v0)) K) (fun y0 => K (w23X0_0 y0).1 (w23X0_0 y0).2) (fun y0 => K (w23X0_1 y0).1 (w23X0_1 y0).2) x.1 x.2.1 x.2.2.1 x.2.2.2 := by rw [ show (fun v0 => w23l0 N n (x.1, x.2.1, x.2.2.1, v0) (fun y => K (w23X0_0 y).1 (w23X0_0 y).2) (fun y => K (w23X0_1 y).1 (w23X0_1 y).2) (fun y => K ((noX 2) y).1 ((noX 2) y).2)) = (fun v0 => loopX (w23c N) Tryd.f23.ntmps (w23h0 N) w23b0 w23m0 w23w0 n (w23I0 (x.1, x.2.1, x.2.2.1, v0)) K) from funext fun _ => ih _]
    exact h.trans (w23q0 N (fun σ => loopX (w23c N) Tryd.f23.ntmps (w23h0 N) w23b0 w23m0 w23w0 n σ K) K x)) N x K)
def w23G [Alg] (_ : Nat) (in0 : (List (List UInt8)) → (List (List UInt8)) → Bool → Int → (Bool → O) → (Bool → O) → O) (a0 : (List (List UInt8))) (b1 : (List (List UInt8))) : O :=
  br (decide ((↑a0.length : Int) ≠ (↑b1.length : Int)))
    (some (w23r0 false))
    (in0 a0 b1 false ((0 : Int))
      (fun z7 =>
        some (w23r0 z7))
      (fun _ =>
        some (w23r0 true)))
def w23 [Alg] (N : Nat) (a0 : (List (List UInt8))) (b1 : (List (List UInt8))) : O := w23G N (w23n0 N) a0 b1
noncomputable def w23h [Alg] (N : Nat) : Hint := (.seq .d (.seq .d (.seq (.seq .d (.block (.sub w23m0 _ _ _ w23X0_0 w23X0_1 (noX 2) (subL w23I0 w23u0 (w23l0 N N))))) .d)))
theorem w23hk (N : Nat) (hc : CxOk (w23c N)) : HintOk (w23c N) Tryd.f23.ntmps (w23h N) w23b := hk_of _ _ (And.intro trivial (And.intro trivial (And.intro (And.intro trivial (w23S0 N hc)) trivial)))
theorem w23q [Alg] (N : Nat) (a0 : (List (List UInt8))) (b1 : (List (List UInt8))) : w23G N (w23s0 N) a0 b1 = exec (w23c N) Tryd.f23.ntmps (w23h N) w23b ⟨argT 0 [.e (.sl (.sl .u8)) a0, .e (.sl (.sl .u8)) b1], [], 100⟩ (finX (w23c N) Tryd.f23 false) := by kernel_rfl
theorem w23does {N : Nat} (hc : CxOk (w23c N)) {a0 : (List (List UInt8))} {b1 : (List (List UInt8))} {r : Res} (h : w23 N a0 b1 = some r) : Does Tryd.prog 23 (([.e (.sl (.sl .u8)) a0, .e (.sl (.sl .u8)) b1] : List X).map X.D) (HA []) r.1.D (HA r.2) :=
  fun_ok hc (f := 23) (fn := Tryd.f23) (code := w23b) (by kernel_rfl) (by kernel_rfl) (w23hk N hc) (Nat.le_of_ble_eq_true (by kernel_rfl)) (ow := false) ((w23q N a0 b1).symm.trans (by rw [w23e0 N]; exact h))
def w23un (r : Res) : Option (Bool) := match r with
  | (x0, []) => (match ue .bo x0 with | some a0 => some a0 | _ => none)
  | _ => none
theorem w23uo {r : Res} {d : Bool} (h : w23un r = some d) : r = w23r0 (d) := by
  unfold w23un at h
  split at h
  · split at h
    · rename_i h0; cases h; rw [ue_some h0]; rfl
    · cases h
  · cases h
def w23z (N : Nat) (a0 : (List (List UInt8))) (b1 : (List (List UInt8))) : Option (Bool) := (w23 N a0 b1).bind w23un
theorem w23fin {N : Nat} (hc : CxOk (w23c N)) {a0 : (List (List UInt8))} {b1 : (List (List UInt8))} {d : Bool} (hd : w23z N a0 b1 = some d) : Does Tryd.prog 23 (([.e (.sl (.sl .u8)) a0, .e (.sl (.sl .u8)) b1] : List X).map X.D) (HA []) (w23r0 (d)).1.D (HA (w23r0 (d)).2) := by
  obtain ⟨r, hr, hu⟩ := Option.bind_eq_some_iff.1 hd
  have := w23does hc hr
  rw [w23uo hu] at this
  exact this
def w23p (N : Nat) (a0 : (List (List UInt8))) (b1 : (List (List UInt8))) : Bool := (w23z N a0 b1).isSome
def w23y0 (N : Nat) (a0 : (List (List UInt8))) (b1 : (List (List UInt8))) : Bool := ((w23z N a0 b1).getD false)
def w23e (N : Nat) : Ent' := E2 (.sl (.sl .u8)) (.sl (.sl .u8))  (fun x0 x1 => (w23p N x0 x1, w23r0 (w23y0 N x0 x1)))
theorem w23re {N : Nat} {a0 : (List (List UInt8))} {b1 : (List (List UInt8))} {d : Bool} (hd : w23z N a0 b1 = some d) : w23r0 (w23y0 N a0 b1) = w23r0 (d) := by unfold w23y0; rw [hd]; rfl
theorem w23ok (N : Nat) : EOk Tryd.prog 23 (w23e N) := EOk.e2 (fun x0 x1 h => by
  have h : (w23z N x0 x1).isSome = true := h
  obtain ⟨d, hd⟩ := Option.isSome_iff_exists.1 h
  have f := w23fin (w23cx N) hd
  rw [← w23re hd] at f
  exact f)
def w41r0 (a0 : Bool) : Res := (.e .bo a0, [])
noncomputable def w41L (N : Nat) : List (Nat × Ent') := [(21, w21e N), (45, w45e N), (23, w23e N)]
noncomputable def w41c (N : Nat) : Cx := ⟨Tryd.prog, 99999, w41L N⟩
noncomputable def w41b : Code := Tryd.f41.body.getD .skip
theorem w41cx (N : Nat) : CxOk (w41c N) := ctx_ok (by kernel_rfl) (.cons (by kernel_rfl) (w21ok N) (.cons (by kernel_rfl) (w45ok N) (.cons (by kernel_rfl) (w23ok N) .nil)))
def w41G [Alg] (N : Nat)  (op0 : Int) (a1 : Int) (b2 : Int) (lines3 : (List (List UInt8))) : O :=
  ck (w21p N op0 [a1, b2]) <|
  ck (!decide (w21y1 N op0 [a1, b2] = (0 : Int)) || w45p N lines3) <|
  ck (!decide (w21y1 N op0 [a1, b2] = (0 : Int)) || w23p N (w21y0 N op0 [a1, b2]) (w45y0 N lines3)) <|
  some (w41r0 (decide (w21y1 N op0 [a1, b2] = (0 : Int)) && w23y0 N (w21y0 N op0 [a1, b2]) (w45y0 N lines3)))
def w41 [Alg] (N : Nat) (op0 : Int) (a1 : Int) (b2 : Int) (lines3 : (List (List UInt8))) : O := w41G N  op0 a1 b2 lines3
noncomputable def w41h [Alg] (_ : Nat) : Hint := .d
theorem w41hk (N : Nat) : HintOk (w41c N) Tryd.f41.ntmps (w41h N) w41b := hk_of _ _ trivial
theorem w41q [Alg] (N : Nat) (op0 : Int) (a1 : Int) (b2 : Int) (lines3 : (List (List UInt8))) : w41G N  op0 a1 b2 lines3 = exec (w41c N) Tryd.f41.ntmps (w41h N) w41b ⟨argT 0 [.e (.i .i64) op0, .e (.i .i64) a1, .e (.i .i64) b2, .e (.sl .tx) lines3], [], 100⟩ (finX (w41c N) Tryd.f41 false) := by kernel_rfl
theorem w41does {N : Nat} (hc : CxOk (w41c N)) {op0 : Int} {a1 : Int} {b2 : Int} {lines3 : (List (List UInt8))} {r : Res} (h : w41 N op0 a1 b2 lines3 = some r) : Does Tryd.prog 41 (([.e (.i .i64) op0, .e (.i .i64) a1, .e (.i .i64) b2, .e (.sl .tx) lines3] : List X).map X.D) (HA []) r.1.D (HA r.2) :=
  fun_ok hc (f := 41) (fn := Tryd.f41) (code := w41b) (by kernel_rfl) (by kernel_rfl) (w41hk N) (Nat.le_of_ble_eq_true (by kernel_rfl)) (ow := false) ((w41q N op0 a1 b2 lines3).symm.trans (by exact h))
def w41un (r : Res) : Option (Bool) := match r with
  | (x0, []) => (match ue .bo x0 with | some a0 => some a0 | _ => none)
  | _ => none
theorem w41uo {r : Res} {d : Bool} (h : w41un r = some d) : r = w41r0 (d) := by
  unfold w41un at h
  split at h
  · split at h
    · rename_i h0; cases h; rw [ue_some h0]; rfl
    · cases h
  · cases h
def w41z (N : Nat) (op0 : Int) (a1 : Int) (b2 : Int) (lines3 : (List (List UInt8))) : Option (Bool) := (w41 N op0 a1 b2 lines3).bind w41un
theorem w41fin {N : Nat} (hc : CxOk (w41c N)) {op0 : Int} {a1 : Int} {b2 : Int} {lines3 : (List (List UInt8))} {d : Bool} (hd : w41z N op0 a1 b2 lines3 = some d) : Does Tryd.prog 41 (([.e (.i .i64) op0, .e (.i .i64) a1, .e (.i .i64) b2, .e (.sl .tx) lines3] : List X).map X.D) (HA []) (w41r0 (d)).1.D (HA (w41r0 (d)).2) := by
  obtain ⟨r, hr, hu⟩ := Option.bind_eq_some_iff.1 hd
  have := w41does hc hr
  rw [w41uo hu] at this
  exact this
def w41p (N : Nat) (op0 : Int) (a1 : Int) (b2 : Int) (lines3 : (List (List UInt8))) : Bool := (w41z N op0 a1 b2 lines3).isSome
def w41y0 (N : Nat) (op0 : Int) (a1 : Int) (b2 : Int) (lines3 : (List (List UInt8))) : Bool := ((w41z N op0 a1 b2 lines3).getD false)
def w41e (N : Nat) : Ent' := E4 (.i .i64) (.i .i64) (.i .i64) (.sl .tx)  (fun x0 x1 x2 x3 => (w41p N x0 x1 x2 x3, w41r0 (w41y0 N x0 x1 x2 x3)))
theorem w41re {N : Nat} {op0 : Int} {a1 : Int} {b2 : Int} {lines3 : (List (List UInt8))} {d : Bool} (hd : w41z N op0 a1 b2 lines3 = some d) : w41r0 (w41y0 N op0 a1 b2 lines3) = w41r0 (d) := by unfold w41y0; rw [hd]; rfl
theorem w41ok (N : Nat) : EOk Tryd.prog 41 (w41e N) := EOk.e4 (fun x0 x1 x2 x3 h => by
  have h : (w41z N x0 x1 x2 x3).isSome = true := h
  obtain ⟨d, hd⟩ := Option.isSome_iff_exists.1 h
  have f := w41fin (w41cx N) hd
  rw [← w41re hd] at f
  exact f)
def w20r0 (a0 : Bool) : Res := (.e .bo a0, [])
noncomputable def w20L (N : Nat) : List (Nat × Ent') := [(41, w41e N), (15, w15e N), (19, w19e N)]
noncomputable def w20c (N : Nat) : Cx := ⟨Tryd.prog, 99999, w20L N⟩
noncomputable def w20b : Code := Tryd.f20.body.getD .skip
theorem w20cx (N : Nat) : CxOk (w20c N) := ctx_ok (by kernel_rfl) (.cons (by kernel_rfl) (w41ok N) (.cons (by kernel_rfl) (w15ok N) (.cons (by kernel_rfl) (w19ok N) .nil)))
def w20G [Alg] (N : Nat)   : O :=
  ck (w41p N (3 : Int) (58 : Int) (67 : Int) [[(95 : UInt8), (49 : UInt8), (49 : UInt8), (95 : UInt8)], [(95 : UInt8), (95 : UInt8), (53 : UInt8), (56 : UInt8)], [(43 : UInt8), (95 : UInt8), (54 : UInt8), (55 : UInt8)], [(61 : UInt8), (61 : UInt8), (61 : UInt8), (61 : UInt8)], [(95 : UInt8), (49 : UInt8), (50 : UInt8), (53 : UInt8)]]) <|
  br (w41y0 N (3 : Int) (58 : Int) (67 : Int) [[(95 : UInt8), (49 : UInt8), (49 : UInt8), (95 : UInt8)], [(95 : UInt8), (95 : UInt8), (53 : UInt8), (56 : UInt8)], [(43 : UInt8), (95 : UInt8), (54 : UInt8), (55 : UInt8)], [(61 : UInt8), (61 : UInt8), (61 : UInt8), (61 : UInt8)], [(95 : UInt8), (49 : UInt8), (50 : UInt8), (53 : UInt8)]])
    (ck (!w41y0 N (3 : Int) (58 : Int) (67 : Int) [[(95 : UInt8), (49 : UInt8), (49 : UInt8), (95 : UInt8)], [(95 : UInt8), (95 : UInt8), (53 : UInt8), (56 : UInt8)], [(43 : UInt8), (95 : UInt8), (54 : UInt8), (55 : UInt8)], [(61 : UInt8), (61 : UInt8), (61 : UInt8), (61 : UInt8)], [(95 : UInt8), (49 : UInt8), (50 : UInt8), (53 : UInt8)]] || w41p N (4 : Int) (52 : Int) (17 : Int) [[(95 : UInt8), (49 : UInt8), (95 : UInt8)], [(95 : UInt8), (53 : UInt8), (50 : UInt8)], [(45 : UInt8), (49 : UInt8), (55 : UInt8)], [(61 : UInt8), (61 : UInt8), (61 : UInt8)], [(95 : UInt8), (51 : UInt8), (53 : UInt8)]]) <|
    ck (w41p N (5 : Int) (23 : Int) (14 : Int) [[(95 : UInt8), (95 : UInt8), (50 : UInt8), (51 : UInt8)], [(42 : UInt8), (95 : UInt8), (49 : UInt8), (52 : UInt8)], [(61 : UInt8), (61 : UInt8), (61 : UInt8), (61 : UInt8)], [(95 : UInt8), (95 : UInt8), (57 : UInt8), (50 : UInt8)], [(95 : UInt8), (50 : UInt8), (51 : UInt8), (95 : UInt8)], [(61 : UInt8), (61 : UInt8), (61 : UInt8), (61 : UInt8)], [(95 : UInt8), (51 : UInt8), (50 : UInt8), (50 : UInt8)]]) <|
    br (w41y0 N (5 : Int) (23 : Int) (14 : Int) [[(95 : UInt8), (95 : UInt8), (50 : UInt8), (51 : UInt8)], [(42 : UInt8), (95 : UInt8), (49 : UInt8), (52 : UInt8)], [(61 : UInt8), (61 : UInt8), (61 : UInt8), (61 : UInt8)], [(95 : UInt8), (95 : UInt8), (57 : UInt8), (50 : UInt8)], [(95 : UInt8), (50 : UInt8), (51 : UInt8), (95 : UInt8)], [(61 : UInt8), (61 : UInt8), (61 : UInt8), (61 : UInt8)], [(95 : UInt8), (51 : UInt8), (50 : UInt8), (50 : UInt8)]])
      (ck (!w41y0 N (5 : Int) (23 : Int) (14 : Int) [[(95 : UInt8), (95 : UInt8), (50 : UInt8), (51 : UInt8)], [(42 : UInt8), (95 : UInt8), (49 : UInt8), (52 : UInt8)], [(61 : UInt8), (61 : UInt8), (61 : UInt8), (61 : UInt8)], [(95 : UInt8), (95 : UInt8), (57 : UInt8), (50 : UInt8)], [(95 : UInt8), (50 : UInt8), (51 : UInt8), (95 : UInt8)], [(61 : UInt8), (61 : UInt8), (61 : UInt8), (61 : UInt8)], [(95 : UInt8), (51 : UInt8), (50 : UInt8), (50 : UInt8)]] || w41p N (5 : Int) (7 : Int) (8 : Int) [[(95 : UInt8), (95 : UInt8), (55 : UInt8)], [(42 : UInt8), (95 : UInt8), (56 : UInt8)], [(61 : UInt8), (61 : UInt8), (61 : UInt8)], [(95 : UInt8), (53 : UInt8), (54 : UInt8)]]) <|
      ck (w41p N (6 : Int) (157 : Int) (12 : Int) [[(95 : UInt8), (95 : UInt8), (95 : UInt8), (95 : UInt8), (49 : UInt8), (51 : UInt8)], [(49 : UInt8), (50 : UInt8), (91 : UInt8), (49 : UInt8), (53 : UInt8), (55 : UInt8)], [(95 : UInt8), (95 : UInt8), (95 : UInt8), (49 : UInt8), (50 : UInt8), (95 : UInt8)], [(95 : UInt8), (95 : UInt8), (95 : UInt8), (95 : UInt8), (51 : UInt8), (55 : UInt8)], [(95 : UInt8), (95 : UInt8), (95 : UInt8), (95 : UInt8), (51 : UInt8), (54 : UInt8)], [(95 : UInt8), (95 : UInt8), (95 : UInt8), (95 : UInt8), (95 : UInt8), (49 : UInt8)]]) <|
      br (w41y0 N (6 : Int) (157 : Int) (12 : Int) [[(95 : UInt8), (95 : UInt8), (95 : UInt8), (95 : UInt8), (49 : UInt8), (51 : UInt8)], [(49 : UInt8), (50 : UInt8), (91 : UInt8), (49 : UInt8), (53 : UInt8), (55 : UInt8)], [(95 : UInt8), (95 : UInt8), (95 : UInt8), (49 : UInt8), (50 : UInt8), (95 : UInt8)], [(95 : UInt8), (95 : UInt8), (95 : UInt8), (95 : UInt8), (51 : UInt8), (55 : UInt8)], [(95 : UInt8), (95 : UInt8), (95 : UInt8), (95 : UInt8), (51 : UInt8), (54 : UInt8)], [(95 : UInt8), (95 : UInt8), (95 : UInt8), (95 : UInt8), (95 : UInt8), (49 : UInt8)]])
        (ck (!w41y0 N (6 : Int) (157 : Int) (12 : Int) [[(95 : UInt8), (95 : UInt8), (95 : UInt8), (95 : UInt8), (49 : UInt8), (51 : UInt8)], [(49 : UInt8), (50 : UInt8), (91 : UInt8), (49 : UInt8), (53 : UInt8), (55 : UInt8)], [(95 : UInt8), (95 : UInt8), (95 : UInt8), (49 : UInt8), (50 : UInt8), (95 : UInt8)], [(95 : UInt8), (95 : UInt8), (95 : UInt8), (95 : UInt8), (51 : UInt8), (55 : UInt8)], [(95 : UInt8), (95 : UInt8), (95 : UInt8), (95 : UInt8), (51 : UInt8), (54 : UInt8)], [(95 : UInt8), (95 : UInt8), (95 : UInt8), (95 : UInt8), (95 : UInt8), (49 : UInt8)]] || w41p N (6 : Int) (3 : Int) (5 : Int) [[(95 : UInt8), (95 : UInt8), (48 : UInt8)], [(53 : UInt8), (91 : UInt8), (51 : UInt8)], [(95 : UInt8), (95 : UInt8), (48 : UInt8)], [(95 : UInt8), (95 : UInt8), (51 : UInt8)]]) <|
        ck (w15p N (3 : Int) [(58 : Int), (67 : Int)]) <|
        ck (w15p N (4 : Int) [(52 : Int), (17 : Int)]) <|
        br (w41y0 N (3 : Int) (58 : Int) (67 : Int) [[(95 : UInt8), (49 : UInt8), (49 : UInt8), (95 : UInt8)], [(95 : UInt8), (95 : UInt8), (53 : UInt8), (56 : UInt8)], [(43 : UInt8), (95 : UInt8), (54 : UInt8), (55 : UInt8)], [(61 : UInt8), (61 : UInt8), (61 : UInt8), (61 : UInt8)], [(95 : UInt8), (49 : UInt8), (50 : UInt8), (53 : UInt8)]] && w41y0 N (4 : Int) (52 : Int) (17 : Int) [[(95 : UInt8), (49 : UInt8), (95 : UInt8)], [(95 : UInt8), (53 : UInt8), (50 : UInt8)], [(45 : UInt8), (49 : UInt8), (55 : UInt8)], [(61 : UInt8), (61 : UInt8), (61 : UInt8)], [(95 : UInt8), (51 : UInt8), (53 : UInt8)]] && (w41y0 N (5 : Int) (23 : Int) (14 : Int) [[(95 : UInt8), (95 : UInt8), (50 : UInt8), (51 : UInt8)], [(42 : UInt8), (95 : UInt8), (49 : UInt8), (52 : UInt8)], [(61 : UInt8), (61 : UInt8), (61 : UInt8), (61 : UInt8)], [(95 : UInt8), (95 : UInt8), (57 : UInt8), (50 : UInt8)], [(95 : UInt8), (50 : UInt8), (51 : UInt8), (95 : UInt8)], [(61 : UInt8), (61 : UInt8), (61 : UInt8), (61 : UInt8)], [(95 : UInt8), (51 : UInt8), (50 : UInt8), (50 : UInt8)]] && w41y0 N (5 : Int) (7 : Int) (8 : Int) [[(95 : UInt8), (95 : UInt8), (55 : UInt8)], [(42 : UInt8), (95 : UInt8), (56 : UInt8)], [(61 : UInt8), (61 : UInt8), (61 : UInt8)], [(95 : UInt8), (53 : UInt8), (54 : UInt8)]]) && (w41y0 N (6 : Int) (157 : Int) (12 : Int) [[(95 : UInt8), (95 : UInt8), (95 : UInt8), (95 : UInt8), (49 : UInt8), (51 : UInt8)], [(49 : UInt8), (50 : UInt8), (91 : UInt8), (49 : UInt8), (53 : UInt8), (55 : UInt8)], [(95 : UInt8), (95 : UInt8), (95 : UInt8), (49 : UInt8), (50 : UInt8), (95 : UInt8)], [(95 : UInt8), (95 : UInt8), (95 : UInt8), (95 : UInt8), (51 : UInt8), (55 : UInt8)], [(95 : UInt8), (95 : UInt8), (95 : UInt8), (95 : UInt8), (51 : UInt8), (54 : UInt8)], [(95 : UInt8), (95 : UInt8), (95 : UInt8), (95 : UInt8), (95 : UInt8), (49 : UInt8)]] && w41y0 N (6 : Int) (3 : Int) (5 : Int) [[(95 : UInt8), (95 : UInt8), (48 : UInt8)], [(53 : UInt8), (91 : UInt8), (51 : UInt8)], [(95 : UInt8), (95 : UInt8), (48 : UInt8)], [(95 : UInt8), (95 : UInt8), (51 : UInt8)]]) && decide (w15y1 N (3 : Int) [(58 : Int), (67 : Int)] = (0 : Int)) && decide (w15y1 N (4 : Int) [(52 : Int), (17 : Int)] = (0 : Int)))
          (ck (!(w41y0 N (3 : Int) (58 : Int) (67 : Int) [[(95 : UInt8), (49 : UInt8), (49 : UInt8), (95 : UInt8)], [(95 : UInt8), (95 : UInt8), (53 : UInt8), (56 : UInt8)], [(43 : UInt8), (95 : UInt8), (54 : UInt8), (55 : UInt8)], [(61 : UInt8), (61 : UInt8), (61 : UInt8), (61 : UInt8)], [(95 : UInt8), (49 : UInt8), (50 : UInt8), (53 : UInt8)]] && w41y0 N (4 : Int) (52 : Int) (17 : Int) [[(95 : UInt8), (49 : UInt8), (95 : UInt8)], [(95 : UInt8), (53 : UInt8), (50 : UInt8)], [(45 : UInt8), (49 : UInt8), (55 : UInt8)], [(61 : UInt8), (61 : UInt8), (61 : UInt8)], [(95 : UInt8), (51 : UInt8), (53 : UInt8)]] && (w41y0 N (5 : Int) (23 : Int) (14 : Int) [[(95 : UInt8), (95 : UInt8), (50 : UInt8), (51 : UInt8)], [(42 : UInt8), (95 : UInt8), (49 : UInt8), (52 : UInt8)], [(61 : UInt8), (61 : UInt8), (61 : UInt8), (61 : UInt8)], [(95 : UInt8), (95 : UInt8), (57 : UInt8), (50 : UInt8)], [(95 : UInt8), (50 : UInt8), (51 : UInt8), (95 : UInt8)], [(61 : UInt8), (61 : UInt8), (61 : UInt8), (61 : UInt8)], [(95 : UInt8), (51 : UInt8), (50 : UInt8), (50 : UInt8)]] && w41y0 N (5 : Int) (7 : Int) (8 : Int) [[(95 : UInt8), (95 : UInt8), (55 : UInt8)], [(42 : UInt8), (95 : UInt8), (56 : UInt8)], [(61 : UInt8), (61 : UInt8), (61 : UInt8)], [(95 : UInt8), (53 : UInt8), (54 : UInt8)]]) && (w41y0 N (6 : Int) (157 : Int) (12 : Int) [[(95 : UInt8), (95 : UInt8), (95 : UInt8), (95 : UInt8), (49 : UInt8), (51 : UInt8)], [(49 : UInt8), (50 : UInt8), (91 : UInt8), (49 : UInt8), (53 : UInt8), (55 : UInt8)], [(95 : UInt8), (95 : UInt8), (95 : UInt8), (49 : UInt8), (50 : UInt8), (95 : UInt8)], [(95 : UInt8), (95 : UInt8), (95 : UInt8), (95 : UInt8), (51 : UInt8), (55 : UInt8)], [(95 : UInt8), (95 : UInt8), (95 : UInt8), (95 : UInt8), (51 : UInt8), (54 : UInt8)], [(95 : UInt8), (95 : UInt8), (95 : UInt8), (95 : UInt8), (95 : UInt8), (49 : UInt8)]] && w41y0 N (6 : Int) (3 : Int) (5 : Int) [[(95 : UInt8), (95 : UInt8), (48 : UInt8)], [(53 : UInt8), (91 : UInt8), (51 : UInt8)], [(95 : UInt8), (95 : UInt8), (48 : UInt8)], [(95 : UInt8), (95 : UInt8), (51 : UInt8)]]) && decide (w15y1 N (3 : Int) [(58 : Int), (67 : Int)] = (0 : Int)) && decide (w15y1 N (4 : Int) [(52 : Int), (17 : Int)] = (0 : Int))) || w19p N (w15y0 N (3 : Int) [(58 : Int), (67 : Int)]) [(1 : Int), (1 : Int)]) <|
          br (w41y0 N (3 : Int) (58 : Int) (67 : Int) [[(95 : UInt8), (49 : UInt8), (49 : UInt8), (95 : UInt8)], [(95 : UInt8), (95 : UInt8), (53 : UInt8), (56 : UInt8)], [(43 : UInt8), (95 : UInt8), (54 : UInt8), (55 : UInt8)], [(61 : UInt8), (61 : UInt8), (61 : UInt8), (61 : UInt8)], [(95 : UInt8), (49 : UInt8), (50 : UInt8), (53 : UInt8)]] && w41y0 N (4 : Int) (52 : Int) (17 : Int) [[(95 : UInt8), (49 : UInt8), (95 : UInt8)], [(95 : UInt8), (53 : UInt8), (50 : UInt8)], [(45 : UInt8), (49 : UInt8), (55 : UInt8)], [(61 : UInt8), (61 : UInt8), (61 : UInt8)], [(95 : UInt8), (51 : UInt8), (53 : UInt8)]] && (w41y0 N (5 : Int) (23 : Int) (14 : Int) [[(95 : UInt8), (95 : UInt8), (50 : UInt8), (51 : UInt8)], [(42 : UInt8), (95 : UInt8), (49 : UInt8), (52 : UInt8)], [(61 : UInt8), (61 : UInt8), (61 : UInt8), (61 : UInt8)], [(95 : UInt8), (95 : UInt8), (57 : UInt8), (50 : UInt8)], [(95 : UInt8), (50 : UInt8), (51 : UInt8), (95 : UInt8)], [(61 : UInt8), (61 : UInt8), (61 : UInt8), (61 : UInt8)], [(95 : UInt8), (51 : UInt8), (50 : UInt8), (50 : UInt8)]] && w41y0 N (5 : Int) (7 : Int) (8 : Int) [[(95 : UInt8), (95 : UInt8), (55 : UInt8)], [(42 : UInt8), (95 : UInt8), (56 : UInt8)], [(61 : UInt8), (61 : UInt8), (61 : UInt8)], [(95 : UInt8), (53 : UInt8), (54 : UInt8)]]) && (w41y0 N (6 : Int) (157 : Int) (12 : Int) [[(95 : UInt8), (95 : UInt8), (95 : UInt8), (95 : UInt8), (49 : UInt8), (51 : UInt8)], [(49 : UInt8), (50 : UInt8), (91 : UInt8), (49 : UInt8), (53 : UInt8), (55 : UInt8)], [(95 : UInt8), (95 : UInt8), (95 : UInt8), (49 : UInt8), (50 : UInt8), (95 : UInt8)], [(95 : UInt8), (95 : UInt8), (95 : UInt8), (95 : UInt8), (51 : UInt8), (55 : UInt8)], [(95 : UInt8), (95 : UInt8), (95 : UInt8), (95 : UInt8), (51 : UInt8), (54 : UInt8)], [(95 : UInt8), (95 : UInt8), (95 : UInt8), (95 : UInt8), (95 : UInt8), (49 : UInt8)]] && w41y0 N (6 : Int) (3 : Int) (5 : Int) [[(95 : UInt8), (95 : UInt8), (48 : UInt8)], [(53 : UInt8), (91 : UInt8), (51 : UInt8)], [(95 : UInt8), (95 : UInt8), (48 : UInt8)], [(95 : UInt8), (95 : UInt8), (51 : UInt8)]]) && decide (w15y1 N (3 : Int) [(58 : Int), (67 : Int)] = (0 : Int)) && decide (w15y1 N (4 : Int) [(52 : Int), (17 : Int)] = (0 : Int)) && w19y0 N (w15y0 N (3 : Int) [(58 : Int), (67 : Int)]) [(1 : Int), (1 : Int)])
            (ck (!(w41y0 N (3 : Int) (58 : Int) (67 : Int) [[(95 : UInt8), (49 : UInt8), (49 : UInt8), (95 : UInt8)], [(95 : UInt8), (95 : UInt8), (53 : UInt8), (56 : UInt8)], [(43 : UInt8), (95 : UInt8), (54 : UInt8), (55 : UInt8)], [(61 : UInt8), (61 : UInt8), (61 : UInt8), (61 : UInt8)], [(95 : UInt8), (49 : UInt8), (50 : UInt8), (53 : UInt8)]] && w41y0 N (4 : Int) (52 : Int) (17 : Int) [[(95 : UInt8), (49 : UInt8), (95 : UInt8)], [(95 : UInt8), (53 : UInt8), (50 : UInt8)], [(45 : UInt8), (49 : UInt8), (55 : UInt8)], [(61 : UInt8), (61 : UInt8), (61 : UInt8)], [(95 : UInt8), (51 : UInt8), (53 : UInt8)]] && (w41y0 N (5 : Int) (23 : Int) (14 : Int) [[(95 : UInt8), (95 : UInt8), (50 : UInt8), (51 : UInt8)], [(42 : UInt8), (95 : UInt8), (49 : UInt8), (52 : UInt8)], [(61 : UInt8), (61 : UInt8), (61 : UInt8), (61 : UInt8)], [(95 : UInt8), (95 : UInt8), (57 : UInt8), (50 : UInt8)], [(95 : UInt8), (50 : UInt8), (51 : UInt8), (95 : UInt8)], [(61 : UInt8), (61 : UInt8), (61 : UInt8), (61 : UInt8)], [(95 : UInt8), (51 : UInt8), (50 : UInt8), (50 : UInt8)]] && w41y0 N (5 : Int) (7 : Int) (8 : Int) [[(95 : UInt8), (95 : UInt8), (55 : UInt8)], [(42 : UInt8), (95 : UInt8), (56 : UInt8)], [(61 : UInt8), (61 : UInt8), (61 : UInt8)], [(95 : UInt8), (53 : UInt8), (54 : UInt8)]]) && (w41y0 N (6 : Int) (157 : Int) (12 : Int) [[(95 : UInt8), (95 : UInt8), (95 : UInt8), (95 : UInt8), (49 : UInt8), (51 : UInt8)], [(49 : UInt8), (50 : UInt8), (91 : UInt8), (49 : UInt8), (53 : UInt8), (55 : UInt8)], [(95 : UInt8), (95 : UInt8), (95 : UInt8), (49 : UInt8), (50 : UInt8), (95 : UInt8)], [(95 : UInt8), (95 : UInt8), (95 : UInt8), (95 : UInt8), (51 : UInt8), (55 : UInt8)], [(95 : UInt8), (95 : UInt8), (95 : UInt8), (95 : UInt8), (51 : UInt8), (54 : UInt8)], [(95 : UInt8), (95 : UInt8), (95 : UInt8), (95 : UInt8), (95 : UInt8), (49 : UInt8)]] && w41y0 N (6 : Int) (3 : Int) (5 : Int) [[(95 : UInt8), (95 : UInt8), (48 : UInt8)], [(53 : UInt8), (91 : UInt8), (51 : UInt8)], [(95 : UInt8), (95 : UInt8), (48 : UInt8)], [(95 : UInt8), (95 : UInt8), (51 : UInt8)]]) && decide (w15y1 N (3 : Int) [(58 : Int), (67 : Int)] = (0 : Int)) && decide (w15y1 N (4 : Int) [(52 : Int), (17 : Int)] = (0 : Int)) && w19y0 N (w15y0 N (3 : Int) [(58 : Int), (67 : Int)]) [(1 : Int), (1 : Int)]) || w19p N (w15y0 N (4 : Int) [(52 : Int), (17 : Int)]) [(1 : Int), (0 : Int)]) <|
            some (w20r0 (w41y0 N (3 : Int) (58 : Int) (67 : Int) [[(95 : UInt8), (49 : UInt8), (49 : UInt8), (95 : UInt8)], [(95 : UInt8), (95 : UInt8), (53 : UInt8), (56 : UInt8)], [(43 : UInt8), (95 : UInt8), (54 : UInt8), (55 : UInt8)], [(61 : UInt8), (61 : UInt8), (61 : UInt8), (61 : UInt8)], [(95 : UInt8), (49 : UInt8), (50 : UInt8), (53 : UInt8)]] && w41y0 N (4 : Int) (52 : Int) (17 : Int) [[(95 : UInt8), (49 : UInt8), (95 : UInt8)], [(95 : UInt8), (53 : UInt8), (50 : UInt8)], [(45 : UInt8), (49 : UInt8), (55 : UInt8)], [(61 : UInt8), (61 : UInt8), (61 : UInt8)], [(95 : UInt8), (51 : UInt8), (53 : UInt8)]] && (w41y0 N (5 : Int) (23 : Int) (14 : Int) [[(95 : UInt8), (95 : UInt8), (50 : UInt8), (51 : UInt8)], [(42 : UInt8), (95 : UInt8), (49 : UInt8), (52 : UInt8)], [(61 : UInt8), (61 : UInt8), (61 : UInt8), (61 : UInt8)], [(95 : UInt8), (95 : UInt8), (57 : UInt8), (50 : UInt8)], [(95 : UInt8), (50 : UInt8), (51 : UInt8), (95 : UInt8)], [(61 : UInt8), (61 : UInt8), (61 : UInt8), (61 : UInt8)], [(95 : UInt8), (51 : UInt8), (50 : UInt8), (50 : UInt8)]] && w41y0 N (5 : Int) (7 : Int) (8 : Int) [[(95 : UInt8), (95 : UInt8), (55 : UInt8)], [(42 : UInt8), (95 : UInt8), (56 : UInt8)], [(61 : UInt8), (61 : UInt8), (61 : UInt8)], [(95 : UInt8), (53 : UInt8), (54 : UInt8)]]) && (w41y0 N (6 : Int) (157 : Int) (12 : Int) [[(95 : UInt8), (95 : UInt8), (95 : UInt8), (95 : UInt8), (49 : UInt8), (51 : UInt8)], [(49 : UInt8), (50 : UInt8), (91 : UInt8), (49 : UInt8), (53 : UInt8), (55 : UInt8)], [(95 : UInt8), (95 : UInt8), (95 : UInt8), (49 : UInt8), (50 : UInt8), (95 : UInt8)], [(95 : UInt8), (95 : UInt8), (95 : UInt8), (95 : UInt8), (51 : UInt8), (55 : UInt8)], [(95 : UInt8), (95 : UInt8), (95 : UInt8), (95 : UInt8), (51 : UInt8), (54 : UInt8)], [(95 : UInt8), (95 : UInt8), (95 : UInt8), (95 : UInt8), (95 : UInt8), (49 : UInt8)]] && w41y0 N (6 : Int) (3 : Int) (5 : Int) [[(95 : UInt8), (95 : UInt8), (48 : UInt8)], [(53 : UInt8), (91 : UInt8), (51 : UInt8)], [(95 : UInt8), (95 : UInt8), (48 : UInt8)], [(95 : UInt8), (95 : UInt8), (51 : UInt8)]]) && decide (w15y1 N (3 : Int) [(58 : Int), (67 : Int)] = (0 : Int)) && decide (w15y1 N (4 : Int) [(52 : Int), (17 : Int)] = (0 : Int)) && w19y0 N (w15y0 N (3 : Int) [(58 : Int), (67 : Int)]) [(1 : Int), (1 : Int)] && w19y0 N (w15y0 N (4 : Int) [(52 : Int), (17 : Int)]) [(1 : Int), (0 : Int)])))
            (none))
          (none))
        (none))
      (none))
    (none)
def w20 [Alg] (N : Nat)  : O := w20G N  
noncomputable def w20h [Alg] (_ : Nat) : Hint := .d
theorem w20hk (N : Nat) : HintOk (w20c N) Tryd.f20.ntmps (w20h N) w20b := hk_of _ _ trivial
theorem w20q [Alg] (N : Nat)  : w20G N   = exec (w20c N) Tryd.f20.ntmps (w20h N) w20b ⟨argT 0 [], [], 100⟩ (finX (w20c N) Tryd.f20 false) := by kernel_rfl
theorem w20does {N : Nat} (hc : CxOk (w20c N))  {r : Res} (h : w20 N  = some r) : Does Tryd.prog 20 (([] : List X).map X.D) (HA []) r.1.D (HA r.2) :=
  fun_ok hc (f := 20) (fn := Tryd.f20) (code := w20b) (by kernel_rfl) (by kernel_rfl) (w20hk N) (Nat.le_of_ble_eq_true (by kernel_rfl)) (ow := false) ((w20q N ).symm.trans (by exact h))
def w20un (r : Res) : Option (Bool) := match r with
  | (x0, []) => (match ue .bo x0 with | some a0 => some a0 | _ => none)
  | _ => none
theorem w20uo {r : Res} {d : Bool} (h : w20un r = some d) : r = w20r0 (d) := by
  unfold w20un at h
  split at h
  · split at h
    · rename_i h0; cases h; rw [ue_some h0]; rfl
    · cases h
  · cases h
def w20z (N : Nat)  : Option (Bool) := (w20 N ).bind w20un
theorem w20fin {N : Nat} (hc : CxOk (w20c N))  {d : Bool} (hd : w20z N  = some d) : Does Tryd.prog 20 (([] : List X).map X.D) (HA []) (w20r0 (d)).1.D (HA (w20r0 (d)).2) := by
  obtain ⟨r, hr, hu⟩ := Option.bind_eq_some_iff.1 hd
  have := w20does hc hr
  rw [w20uo hu] at this
  exact this
def w88r0 (a0 : (List UInt8)) : Res := (.e .tx a0, [])
def w88F0 [Alg] (_ : Nat)  (self : Int → (List UInt8) → O) (k0 : (List UInt8) → (List UInt8) → O) (x0_0 : UInt8) (x0_1 : Int) (x0_2 : (List UInt8)) (x0_3 : Int) (x0_4 : (List UInt8)) : O :=
  br (decide (x0_3 < x0_1))
    (ck (lim (x0_4 ++ [x0_0]).length (1 : Nat)) <|
    self (IntKind.i64.wrap (x0_3 + (1 : Int))) (x0_4 ++ [x0_0]))
    (k0 x0_2 x0_4)
def w88l0 [Alg] (N : Nat) : Nat → (UInt8 × Int × (List UInt8) × Int × (List UInt8)) → (((List UInt8) × (List UInt8)) → O) → ((Unit) → O) → ((Unit) → O) → O
  | 0, _, _, _, _ => none
  | n + 1, x, k0, k1, k2 => w88F0 N  (fun v0 v1 => w88l0 N n (x.1, x.2.1, x.2.2.1, v0, v1) k0 k1 k2) (fun y0 y1 => k0 (y0, y1)) x.1 x.2.1 x.2.2.1 x.2.2.2.1 x.2.2.2.2
def w88n0 [Alg] (N : Nat) (a0 : UInt8) (a1 : Int) (a2 : (List UInt8)) (a3 : Int) (a4 : (List UInt8)) (k0 : (List UInt8) → (List UInt8) → O) : O := w88l0 N N (a0, a1, a2, a3, a4) (fun y => k0 y.1 y.2) (fun _ => none) (fun _ => none)
def w88G [Alg] (_ : Nat) (in0 : UInt8 → Int → (List UInt8) → Int → (List UInt8) → ((List UInt8) → (List UInt8) → O) → O) (c0 : UInt8) (n1 : Int) : O :=
  in0 c0 n1 [] ((0 : Int)) []
    (fun _ z2 =>
      some (w88r0 z2))
def w88 [Alg] (N : Nat) (c0 : UInt8) (n1 : Int) : O := w88G N (w88n0 N) c0 n1
def w88un (r : Res) : Option ((List UInt8)) := match r with
  | (x0, []) => (match ue .tx x0 with | some a0 => some a0 | _ => none)
  | _ => none
def w88z (N : Nat) (c0 : UInt8) (n1 : Int) : Option ((List UInt8)) := (w88 N c0 n1).bind w88un
def w88p (N : Nat) (c0 : UInt8) (n1 : Int) : Bool := (w88z N c0 n1).isSome
def w88y0 (N : Nat) (c0 : UInt8) (n1 : Int) : (List UInt8) := ((w88z N c0 n1).getD [])
def w86r0 (a0 : (List UInt8)) : Res := (.e .tx a0, [])
def w86G [Alg] (N : Nat)  (s0 : (List UInt8)) (width1 : Int) (left2 : Int) : O :=
  ck (w88p N (95 : UInt8) (IntKind.i64.wrap (IntKind.i64.wrap (width1 - left2) - (↑s0.length : Int)))) <|
  ck (decide ((↑(w88y0 N (95 : UInt8) (IntKind.i64.wrap (IntKind.i64.wrap (width1 - left2) - (↑s0.length : Int)))).length : Int) + (↑s0.length : Int) ≤ (9223372036854775807 : Int))) <|
  ck (w88p N (95 : UInt8) left2) <|
  ck (decide ((↑(w88y0 N (95 : UInt8) (IntKind.i64.wrap (IntKind.i64.wrap (width1 - left2) - (↑s0.length : Int))) ++ s0).length : Int) + (↑(w88y0 N (95 : UInt8) left2).length : Int) ≤ (9223372036854775807 : Int))) <|
  some (w86r0 (w88y0 N (95 : UInt8) (IntKind.i64.wrap (IntKind.i64.wrap (width1 - left2) - (↑s0.length : Int))) ++ s0 ++ w88y0 N (95 : UInt8) left2))
def w86 [Alg] (N : Nat) (s0 : (List UInt8)) (width1 : Int) (left2 : Int) : O := w86G N  s0 width1 left2
def w86un (r : Res) : Option ((List UInt8)) := match r with
  | (x0, []) => (match ue .tx x0 with | some a0 => some a0 | _ => none)
  | _ => none
def w86z (N : Nat) (s0 : (List UInt8)) (width1 : Int) (left2 : Int) : Option ((List UInt8)) := (w86 N s0 width1 left2).bind w86un
def w86p (N : Nat) (s0 : (List UInt8)) (width1 : Int) (left2 : Int) : Bool := (w86z N s0 width1 left2).isSome
def w86y0 (N : Nat) (s0 : (List UInt8)) (width1 : Int) (left2 : Int) : (List UInt8) := ((w86z N s0 width1 left2).getD [])
def w87r0 (a0 : (List UInt8)) : Res := (.e .tx a0, [])
def w87G [Alg] (_ : Nat)  (line0 : (List UInt8)) (sign1 : (List UInt8)) : O :=
  ck (slcOk line0.length (some (min (1 : Int) (↑line0.length : Int))) none) <|
  ck (decide ((↑sign1.length : Int) + (↑(slc line0 (some (min (1 : Int) (↑line0.length : Int))) none).length : Int) ≤ (9223372036854775807 : Int))) <|
  some (w87r0 (sign1 ++ slc line0 (some (min (1 : Int) (↑line0.length : Int))) none))
def w87 [Alg] (N : Nat) (line0 : (List UInt8)) (sign1 : (List UInt8)) : O := w87G N  line0 sign1
def w87un (r : Res) : Option ((List UInt8)) := match r with
  | (x0, []) => (match ue .tx x0 with | some a0 => some a0 | _ => none)
  | _ => none
def w87z (N : Nat) (line0 : (List UInt8)) (sign1 : (List UInt8)) : Option ((List UInt8)) := (w87 N line0 sign1).bind w87un
def w87p (N : Nat) (line0 : (List UInt8)) (sign1 : (List UInt8)) : Bool := (w87z N line0 sign1).isSome
def w87y0 (N : Nat) (line0 : (List UInt8)) (sign1 : (List UInt8)) : (List UInt8) := ((w87z N line0 sign1).getD [])
def w71r0 (a0 : (List (List UInt8))) : Res := (.e (.sl .tx) a0, [])
def w71F0 [Alg] (N : Nat)  (self : Int → (List UInt8) → O) (k0 : Int → Int → Int → (List Int) → (List UInt8) → O) (x1_0 : Int) (x1_1 : Int) (x1_3 : Int) (x1_4 : (List Int)) (x1_2 : Int) (x1_5 : (List UInt8)) : O :=
  br (decide ((0 : Int) ≤ x1_2))
    (ck (w38p N x1_3 x1_4 (IntKind.i64.wrap (x1_2 - (1 : Int)))) <|
    br (decide ((0 : Int) < w38y0 N x1_3 x1_4 (IntKind.i64.wrap (x1_2 - (1 : Int)))))
      (ck (lim (x1_5 ++ [u8of (IntKind.i64.wrap ((48 : Int) + w38y0 N x1_3 x1_4 (IntKind.i64.wrap (x1_2 - (1 : Int)))))]).length (1 : Nat)) <|
      self (IntKind.i64.wrap (x1_2 - (1 : Int))) (x1_5 ++ [u8of (IntKind.i64.wrap ((48 : Int) + w38y0 N x1_3 x1_4 (IntKind.i64.wrap (x1_2 - (1 : Int)))))]))
      (ck (lim (x1_5 ++ [(95 : UInt8)]).length (1 : Nat)) <|
      self (IntKind.i64.wrap (x1_2 - (1 : Int))) (x1_5 ++ [(95 : UInt8)])))
    (k0 x1_0 x1_1 x1_3 x1_4 x1_5)
def w71l0 [Alg] (N : Nat) : Nat → (Int × Int × Int × Int × (List Int) × (List UInt8)) → ((Int × Int × Int × (List Int) × (List UInt8)) → O) → ((Unit) → O) → ((Unit) → O) → O
  | 0, _, _, _, _ => none
  | n + 1, x, k0, k1, k2 => w71F0 N  (fun v0 v1 => w71l0 N n (x.1, x.2.1, v0, x.2.2.2.1, x.2.2.2.2.1, v1) k0 k1 k2) (fun y0 y1 y2 y3 y4 => k0 (y0, y1, y2, y3, y4)) x.1 x.2.1 x.2.2.2.1 x.2.2.2.2.1 x.2.2.1 x.2.2.2.2.2
def w71n0 [Alg] (N : Nat) (a0 : Int) (a1 : Int) (a2 : Int) (a3 : Int) (a4 : (List Int)) (a5 : (List UInt8)) (k0 : Int → Int → Int → (List Int) → (List UInt8) → O) : O := w71l0 N N (a0, a1, a2, a3, a4, a5) (fun y => k0 y.1 y.2.1 y.2.2.1 y.2.2.2.1 y.2.2.2.2) (fun _ => none) (fun _ => none)
def w71F1 [Alg] (N : Nat)   (k0 : Int → Int → Int → Int → (List Int) → Int → Bool → (List Int) → Int → Int → Int → (List UInt8) → Int → (List UInt8) → (List UInt8) → Int → (List Int) → Int → Int → Bool → Bool → Bool → Int → (List Int) → (List (List UInt8)) → O) (x63_0 : Int) (x63_1 : Int) (x63_2 : Int) (x63_3 : Int) (x63_4 : (List Int)) (x63_5 : Int) (x63_6 : Bool) (x63_7 : (List Int)) (x63_8 : Int) (x63_9 : Int) (x63_10 : Int) (x63_11 : (List UInt8)) (x63_12 : Int) (x63_13 : (List UInt8)) (x63_14 : (List UInt8)) (x63_15 : Int) (x63_16 : (List Int)) (x63_17 : (List (List UInt8))) : O :=
  br (decide (x63_2 = IntKind.i64.wrap ((↑x63_16.length : Int) - (1 : Int))) && decide (x63_15 = (3 : Int)))
    (ck (w87p N x63_14 [(43 : UInt8)]) <|
    k0 x63_0 x63_1 x63_2 x63_3 x63_4 x63_5 x63_6 x63_7 x63_8 x63_9 x63_10 x63_11 x63_12 x63_13 (w87y0 N x63_14 [(43 : UInt8)]) x63_2 x63_16 ((↑x63_16.length : Int)) (IntKind.i64.wrap ((↑x63_16.length : Int) - (1 : Int))) (decide (x63_2 = IntKind.i64.wrap ((↑x63_16.length : Int) - (1 : Int)))) (decide (x63_2 = IntKind.i64.wrap ((↑x63_16.length : Int) - (1 : Int)))) (decide (x63_2 = IntKind.i64.wrap ((↑x63_16.length : Int) - (1 : Int))) && decide (x63_15 = (3 : Int))) x63_15 x63_16 x63_17)
    (k0 x63_0 x63_1 x63_2 x63_3 x63_4 x63_5 x63_6 x63_7 x63_8 x63_9 x63_10 x63_11 x63_12 x63_13 x63_14 x63_2 x63_16 ((↑x63_16.length : Int)) (IntKind.i64.wrap ((↑x63_16.length : Int) - (1 : Int))) (decide (x63_2 = IntKind.i64.wrap ((↑x63_16.length : Int) - (1 : Int)))) (decide (x63_2 = IntKind.i64.wrap ((↑x63_16.length : Int) - (1 : Int)))) (decide (x63_2 = IntKind.i64.wrap ((↑x63_16.length : Int) - (1 : Int))) && decide (x63_15 = (3 : Int))) x63_15 x63_16 x63_17)
def w71l1 [Alg] (N : Nat) (_ : Nat) (x : Int × Int × Int × Int × (List Int) × Int × Bool × (List Int) × Int × Int × Int × (List UInt8) × Int × (List UInt8) × (List UInt8) × Int × (List Int) × (List (List UInt8))) (k0 : (Int × Int × Int × Int × (List Int) × Int × Bool × (List Int) × Int × Int × Int × (List UInt8) × Int × (List UInt8) × (List UInt8) × Int × (List Int) × Int × Int × Bool × Bool × Bool × Int × (List Int) × (List (List UInt8))) → O) (_ : (Unit) → O) (_ : (Unit) → O) : O := w71F1 N   (fun y0 y1 y2 y3 y4 y5 y6 y7 y8 y9 y10 y11 y12 y13 y14 y15 y16 y17 y18 y19 y20 y21 y22 y23 y24 => k0 (y0, y1, y2, y3, y4, y5, y6, y7, y8, y9, y10, y11, y12, y13, y14, y15, y16, y17, y18, y19, y20, y21, y22, y23, y24)) x.1 x.2.1 x.2.2.1 x.2.2.2.1 x.2.2.2.2.1 x.2.2.2.2.2.1 x.2.2.2.2.2.2.1 x.2.2.2.2.2.2.2.1 x.2.2.2.2.2.2.2.2.1 x.2.2.2.2.2.2.2.2.2.1 x.2.2.2.2.2.2.2.2.2.2.1 x.2.2.2.2.2.2.2.2.2.2.2.1 x.2.2.2.2.2.2.2.2.2.2.2.2.1 x.2.2.2.2.2.2.2.2.2.2.2.2.2.1 x.2.2.2.2.2.2.2.2.2.2.2.2.2.2.1 x.2.2.2.2.2.2.2.2.2.2.2.2.2.2.2.1 x.2.2.2.2.2.2.2.2.2.2.2.2.2.2.2.2.1 x.2.2.2.2.2.2.2.2.2.2.2.2.2.2.2.2.2
def w71n1 [Alg] (N : Nat) (a0 : Int) (a1 : Int) (a2 : Int) (a3 : Int) (a4 : (List Int)) (a5 : Int) (a6 : Bool) (a7 : (List Int)) (a8 : Int) (a9 : Int) (a10 : Int) (a11 : (List UInt8)) (a12 : Int) (a13 : (List UInt8)) (a14 : (List UInt8)) (a15 : Int) (a16 : (List Int)) (a17 : (List (List UInt8))) (k0 : Int → Int → Int → Int → (List Int) → Int → Bool → (List Int) → Int → Int → Int → (List UInt8) → Int → (List UInt8) → (List UInt8) → Int → (List Int) → Int → Int → Bool → Bool → Bool → Int → (List Int) → (List (List UInt8)) → O) : O := w71l1 N N (a0, a1, a2, a3, a4, a5, a6, a7, a8, a9, a10, a11, a12, a13, a14, a15, a16, a17) (fun y => k0 y.1 y.2.1 y.2.2.1 y.2.2.2.1 y.2.2.2.2.1 y.2.2.2.2.2.1 y.2.2.2.2.2.2.1 y.2.2.2.2.2.2.2.1 y.2.2.2.2.2.2.2.2.1 y.2.2.2.2.2.2.2.2.2.1 y.2.2.2.2.2.2.2.2.2.2.1 y.2.2.2.2.2.2.2.2.2.2.2.1 y.2.2.2.2.2.2.2.2.2.2.2.2.1 y.2.2.2.2.2.2.2.2.2.2.2.2.2.1 y.2.2.2.2.2.2.2.2.2.2.2.2.2.2.1 y.2.2.2.2.2.2.2.2.2.2.2.2.2.2.2.1 y.2.2.2.2.2.2.2.2.2.2.2.2.2.2.2.2.1 y.2.2.2.2.2.2.2.2.2.2.2.2.2.2.2.2.2.1 y.2.2.2.2.2.2.2.2.2.2.2.2.2.2.2.2.2.2.1 y.2.2.2.2.2.2.2.2.2.2.2.2.2.2.2.2.2.2.2.1 y.2.2.2.2.2.2.2.2.2.2.2.2.2.2.2.2.2.2.2.2.1 y.2.2.2.2.2.2.2.2.2.2.2.2.2.2.2.2.2.2.2.2.2.1 y.2.2.2.2.2.2.2.2.2.2.2.2.2.2.2.2.2.2.2.2.2.2.1 y.2.2.2.2.2.2.2.2.2.2.2.2.2.2.2.2.2.2.2.2.2.2.2.1 y.2.2.2.2.2.2.2.2.2.2.2.2.2.2.2.2.2.2.2.2.2.2.2.2) (fun _ => none) (fun _ => none)
def w71F2 [Alg] (N : Nat) (in1 : Int → Int → Int → Int → (List Int) → Int → Bool → (List Int) → Int → Int → Int → (List UInt8) → Int → (List UInt8) → (List UInt8) → Int → (List Int) → (List (List UInt8)) → (Int → Int → Int → Int → (List Int) → Int → Bool → (List Int) → Int → Int → Int → (List UInt8) → Int → (List UInt8) → (List UInt8) → Int → (List Int) → Int → Int → Bool → Bool → Bool → Int → (List Int) → (List (List UInt8)) → O) → O) (self : Int → Int → Int → Int → (List Int) → (List (List UInt8)) → O) (k0 : Int → Int → (List (List UInt8)) → O) (x7_0 : Int) (x7_1 : Int) (x7_2 : Int) (x7_3 : Int) (x7_4 : (List Int)) (x7_5 : (List (List UInt8))) : O :=
  br (decide (x7_2 < (↑x7_4.length : Int)))
    (gx x7_4 x7_2 fun y62 =>
    ck (w59p N y62) <|
    ck (w86p N (w59y0 N y62) x7_1 (0 : Int)) <|
    in1 x7_0 x7_1 x7_2 x7_2 x7_4 ((↑x7_4.length : Int)) (decide (x7_2 < (↑x7_4.length : Int))) x7_4 x7_2 y62 y62 (w59y0 N y62) x7_1 (w86y0 N (w59y0 N y62) x7_1 (0 : Int)) (w86y0 N (w59y0 N y62) x7_1 (0 : Int)) x7_3 x7_4 x7_5
      (fun z64 z65 z66 _ _ _ _ _ _ _ _ _ _ _ z78 _ _ _ _ _ _ _ z86 z87 z88 =>
        br (decide (z66 = IntKind.i64.wrap ((↑z87.length : Int) - (1 : Int))) && decide (z86 = (4 : Int)))
          (ck (w87p N z78 [(45 : UInt8)]) <|
          ck (lim (z88 ++ [w87y0 N z78 [(45 : UInt8)]]).length (16 : Nat)) <|
          self z64 z65 (IntKind.i64.wrap (z66 + (1 : Int))) z86 z87 (z88 ++ [w87y0 N z78 [(45 : UInt8)]]))
          (ck (lim (z88 ++ [z78]).length (16 : Nat)) <|
          self z64 z65 (IntKind.i64.wrap (z66 + (1 : Int))) z86 z87 (z88 ++ [z78]))))
    (k0 x7_0 x7_1 x7_5)
def w71l2 [Alg] (N : Nat) : Nat → (Int × Int × Int × Int × (List Int) × (List (List UInt8))) → ((Int × Int × (List (List UInt8))) → O) → ((Unit) → O) → ((Unit) → O) → O
  | 0, _, _, _, _ => none
  | n + 1, x, k0, k1, k2 => w71F2 N (w71n1 N) (fun v0 v1 v2 v3 v4 v5 => w71l2 N n (v0, v1, v2, v3, v4, v5) k0 k1 k2) (fun y0 y1 y2 => k0 (y0, y1, y2)) x.1 x.2.1 x.2.2.1 x.2.2.2.1 x.2.2.2.2.1 x.2.2.2.2.2
def w71n2 [Alg] (N : Nat) (a0 : Int) (a1 : Int) (a2 : Int) (a3 : Int) (a4 : (List Int)) (a5 : (List (List UInt8))) (k0 : Int → Int → (List (List UInt8)) → O) : O := w71l2 N N (a0, a1, a2, a3, a4, a5) (fun y => k0 y.1 y.2.1 y.2.2) (fun _ => none) (fun _ => none)
def w71G [Alg] (N : Nat) (in0 : Int → Int → Int → Int → (List Int) → (List UInt8) → (Int → Int → Int → (List Int) → (List UInt8) → O) → O) (_in1 : Int → Int → Int → Int → (List Int) → Int → Bool → (List Int) → Int → Int → Int → (List UInt8) → Int → (List UInt8) → (List UInt8) → Int → (List Int) → (List (List UInt8)) → (Int → Int → Int → Int → (List Int) → Int → Bool → (List Int) → Int → Int → Int → (List UInt8) → Int → (List UInt8) → (List UInt8) → Int → (List Int) → Int → Int → Bool → Bool → Bool → Int → (List Int) → (List (List UInt8)) → O) → O) (in2 : Int → Int → Int → Int → (List Int) → (List (List UInt8)) → (Int → Int → (List (List UInt8)) → O) → O) (s0_0 : Int) (s0_1 : (List Int)) (result1 : Int) : O :=
  ck (w59p N result1) <|
  gx s0_1 ((0 : Int)) fun y0 =>
  ck (w59p N y0) <|
  in0 result1 (IntKind.i64.wrap ((1 : Int) + max (↑(w59y0 N result1).length : Int) (↑(w59y0 N y0).length : Int))) (IntKind.i64.wrap (IntKind.i64.wrap ((1 : Int) + max (↑(w59y0 N result1).length : Int) (↑(w59y0 N y0).length : Int)) - (1 : Int))) s0_0 s0_1 []
    (fun z2 z3 z4 z5 z6 =>
      in2 z2 z3 ((0 : Int)) z4 z5 [z6]
        (fun z89 z90 z91 =>
          ck (w88p N (61 : UInt8) z90) <|
          ck (w59p N z89) <|
          ck (w86p N (w59y0 N z89) z90 (0 : Int)) <|
          ck (lim (z91 ++ [w88y0 N (61 : UInt8) z90, w86y0 N (w59y0 N z89) z90 (0 : Int)]).length (16 : Nat)) <|
          some (w71r0 (z91 ++ [w88y0 N (61 : UInt8) z90, w86y0 N (w59y0 N z89) z90 (0 : Int)]))))
def w71 [Alg] (N : Nat) (s0_0 : Int) (s0_1 : (List Int)) (result1 : Int) : O := w71G N (w71n0 N) (w71n1 N) (w71n2 N) s0_0 s0_1 result1
def w71un (r : Res) : Option ((List (List UInt8))) := match r with
  | (x0, []) => (match ue (.sl .tx) x0 with | some a0 => some a0 | _ => none)
  | _ => none
def w71z (N : Nat) (s0_0 : Int) (s0_1 : (List Int)) (result1 : Int) : Option ((List (List UInt8))) := (w71 N s0_0 s0_1 result1).bind w71un
def w30r0 (a0 : Bool) : Res := (.e .bo a0, [])
noncomputable def w30L (N : Nat) : List (Nat × Ent') := [(19, w19e N)]
noncomputable def w30c (N : Nat) : Cx := ⟨Tryd.prog, 99999, w30L N⟩
noncomputable def w30b : Code := Tryd.f30.body.getD .skip
theorem w30cx (N : Nat) : CxOk (w30c N) := ctx_ok (by kernel_rfl) (.cons (by kernel_rfl) (w19ok N) .nil)
def w30G [Alg] (N : Nat)  (a0_0 : Int) (a0_1 : (List Int)) (b1_0 : Int) (b1_1 : (List Int)) : O :=
  ck (!decide (a0_0 = b1_0) || w19p N a0_1 b1_1) <|
  some (w30r0 (decide (a0_0 = b1_0) && w19y0 N a0_1 b1_1))
def w30 [Alg] (N : Nat) (a0_0 : Int) (a0_1 : (List Int)) (b1_0 : Int) (b1_1 : (List Int)) : O := w30G N  a0_0 a0_1 b1_0 b1_1
noncomputable def w30h [Alg] (_ : Nat) : Hint := .d
theorem w30hk (N : Nat) : HintOk (w30c N) Tryd.f30.ntmps (w30h N) w30b := hk_of _ _ trivial
theorem w30q [Alg] (N : Nat) (a0_0 : Int) (a0_1 : (List Int)) (b1_0 : Int) (b1_1 : (List Int)) : w30G N  a0_0 a0_1 b1_0 b1_1 = exec (w30c N) Tryd.f30.ntmps (w30h N) w30b ⟨argT 0 [.agg [.e (.i .i64) a0_0, .e (.sl (.i .i64)) a0_1], .agg [.e (.i .i64) b1_0, .e (.sl (.i .i64)) b1_1]], [], 100⟩ (finX (w30c N) Tryd.f30 false) := by kernel_rfl
theorem w30does {N : Nat} (hc : CxOk (w30c N)) {a0_0 : Int} {a0_1 : (List Int)} {b1_0 : Int} {b1_1 : (List Int)} {r : Res} (h : w30 N a0_0 a0_1 b1_0 b1_1 = some r) : Does Tryd.prog 30 (([.agg [.e (.i .i64) a0_0, .e (.sl (.i .i64)) a0_1], .agg [.e (.i .i64) b1_0, .e (.sl (.i .i64)) b1_1]] : List X).map X.D) (HA []) r.1.D (HA r.2) :=
  fun_ok hc (f := 30) (fn := Tryd.f30) (code := w30b) (by kernel_rfl) (by kernel_rfl) (w30hk N) (Nat.le_of_ble_eq_true (by kernel_rfl)) (ow := false) ((w30q N a0_0 a0_1 b1_0 b1_1).symm.trans (by exact h))
def w30un (r : Res) : Option (Bool) := match r with
  | (x0, []) => (match ue .bo x0 with | some a0 => some a0 | _ => none)
  | _ => none
theorem w30uo {r : Res} {d : Bool} (h : w30un r = some d) : r = w30r0 (d) := by
  unfold w30un at h
  split at h
  · split at h
    · rename_i h0; cases h; rw [ue_some h0]; rfl
    · cases h
  · cases h
def w30z (N : Nat) (a0_0 : Int) (a0_1 : (List Int)) (b1_0 : Int) (b1_1 : (List Int)) : Option (Bool) := (w30 N a0_0 a0_1 b1_0 b1_1).bind w30un
theorem w30fin {N : Nat} (hc : CxOk (w30c N)) {a0_0 : Int} {a0_1 : (List Int)} {b1_0 : Int} {b1_1 : (List Int)} {d : Bool} (hd : w30z N a0_0 a0_1 b1_0 b1_1 = some d) : Does Tryd.prog 30 (([.agg [.e (.i .i64) a0_0, .e (.sl (.i .i64)) a0_1], .agg [.e (.i .i64) b1_0, .e (.sl (.i .i64)) b1_1]] : List X).map X.D) (HA []) (w30r0 (d)).1.D (HA (w30r0 (d)).2) := by
  obtain ⟨r, hr, hu⟩ := Option.bind_eq_some_iff.1 hd
  have := w30does hc hr
  rw [w30uo hu] at this
  exact this
def w30p (N : Nat) (a0_0 : Int) (a0_1 : (List Int)) (b1_0 : Int) (b1_1 : (List Int)) : Bool := (w30z N a0_0 a0_1 b1_0 b1_1).isSome
def w30y0 (N : Nat) (a0_0 : Int) (a0_1 : (List Int)) (b1_0 : Int) (b1_1 : (List Int)) : Bool := ((w30z N a0_0 a0_1 b1_0 b1_1).getD false)
def w30e (N : Nat) : Ent' := E2 (.pr (.i .i64) (.sl (.i .i64))) (.pr (.i .i64) (.sl (.i .i64)))  (fun x0 x1 => (w30p N x0.1 x0.2 x1.1 x1.2, w30r0 (w30y0 N x0.1 x0.2 x1.1 x1.2)))
theorem w30re {N : Nat} {a0_0 : Int} {a0_1 : (List Int)} {b1_0 : Int} {b1_1 : (List Int)} {d : Bool} (hd : w30z N a0_0 a0_1 b1_0 b1_1 = some d) : w30r0 (w30y0 N a0_0 a0_1 b1_0 b1_1) = w30r0 (d) := by unfold w30y0; rw [hd]; rfl
theorem w30ok (N : Nat) : EOk Tryd.prog 30 (w30e N) := EOk.e2 (fun x0 x1 h => by
  have h : (w30z N x0.1 x0.2 x1.1 x1.2).isSome = true := h
  obtain ⟨d, hd⟩ := Option.isSome_iff_exists.1 h
  have f := w30fin (w30cx N) hd
  rw [← w30re hd] at f
  exact f)
end
end Go.Proofs
