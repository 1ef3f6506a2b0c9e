/- What Bent and the reference do. Conditions are in the theorems. -/
import Derived.Test.YtipllfcmdnellaaDoorE7
import Derived.Test.YtipllfcmdnellaaDoorProg
import Derived.KernelRfl
import Derived.Test.YtipllfcmdnellaaDoorF3
/- What functions do. -/
namespace Go.Proofs
noncomputable section
open Go.Ax Go.Ax.Alg Go.RowKit Go.Ab
open Go
def w10r0 (a0 : (List ((List Int) × (Int × Int)))) : Res := (.e (.sl (.pr (.sl (.i .i64)) (.pr (.i .i64) (.i .i64)))) a0, [])
noncomputable def w10L (N : Nat) : List (Nat × Ent') := [(18, w18e N)]
noncomputable def w10c (N : Nat) : Cx := ⟨Tryd.prog, 99999, w10L N⟩
noncomputable def w10b : Code := Tryd.f10.body.getD .skip
theorem w10cx (N : Nat) : CxOk (w10c N) := ctx_ok (by kernel_rfl) (.cons (by kernel_rfl) (w18ok N) .nil)
def w10F0 [Alg] (_ : Nat)  (self : Int → (List ((List Int) × (Int × Int))) → O) (k0 : Int → Int → Int → (List ((List Int) × (Int × Int))) → O) (x0_0 : (List ((List Int) × (Int × Int)))) (x0_1 : Int) (x0_2 : Int) (x0_3 : Int) (x0_4 : Int) (x0_5 : (List ((List Int) × (Int × Int)))) : O :=
 br (decide (x0_4 < (↑x0_0.length : Int)))
  (gx x0_0 x0_4 fun y4 =>
  ck (lim ([] ++ y4.1).length (8 : Nat)) <|
  ck (lim (x0_5.length + [([] ++ y4.1, y4.2.1, y4.2.2)].length) (40 : Nat)) <|
  self (IntKind.i64.wrap (x0_4 + (1 : Int))) (x0_5 ++ [([] ++ y4.1, y4.2.1, y4.2.2)]))
  (k0 x0_1 x0_2 x0_3 x0_5)
noncomputable def w10b0 : Code := atC [1, 1, 0, 1, 0, 0] w10b
def w10m0 : Nm := ⟨[0, 1, 2, 3, 8, 9, 10], [], [.nilR 9 (.nst 49 3 (.i .i64) (.pr (.i .i64) (.i .i64)) [] none)]⟩
def w10I0 (x : (List ((List Int) × (Int × Int))) × Int × Int × Int × Int × (List ((List Int) × (Int × Int)))) : Sg := ⟨[(0, .e (.sl (.pr (.sl (.i .i64)) (.pr (.i .i64) (.i .i64)))) x.1), (1, .e (.i .i64) x.2.1), (2, .e (.i .i64) x.2.2.1), (3, .e (.i .i64) x.2.2.2.1), (8, .nilS), (9, .own 0), (10, .e (.i .i64) x.2.2.2.2.1)], [(0, .nst 49 3 (.i .i64) (.pr (.i .i64) (.i .i64)) x.2.2.2.2.2 none)], 100⟩
def w10u0 (σ : Sg) : (List ((List Int) × (Int × Int))) × Int × Int × Int × Int × (List ((List Int) × (Int × Int))) := (lvT (.sl (.pr (.sl (.i .i64)) (.pr (.i .i64) (.i .i64)))) 0 0 σ, lvT (.i .i64) 1 0 σ, lvT (.i .i64) 2 0 σ, lvT (.i .i64) 3 0 σ, lvT (.i .i64) 10 0 σ, lvS (.i .i64) (.pr (.i .i64) (.i .i64)) 0 σ)
theorem w10ui0 : ∀ x, w10u0 (w10I0 x) = x := fun _ => by kernel_rfl
def w10X0_0 (y : Int × Int × Int × (List ((List Int) × (Int × Int)))) : Exit × Sg := ((.exit 0), ⟨[(1, .e (.i .i64) y.1), (2, .e (.i .i64) y.2.1), (3, .e (.i .i64) y.2.2.1), (8, .nilS), (9, .own 0)], [(0, .nst 49 3 (.i .i64) (.pr (.i .i64) (.i .i64)) y.2.2.2 none)], 100⟩)
def w10v0_0 (σ : Sg) : Int × Int × Int × (List ((List Int) × (Int × Int))) := (lvT (.i .i64) 1 0 σ, lvT (.i .i64) 2 0 σ, lvT (.i .i64) 3 0 σ, lvS (.i .i64) (.pr (.i .i64) (.i .i64)) 0 σ)
def w10w0 : List (Exit × Nm) := [((.exit 0), ⟨[1, 2, 3, 8, 9], [], []⟩)]
theorem w10o0 : Outs w10v0_0 (fun _ => ()) (fun _ => ()) w10X0_0 (noX 1) (noX 2) (.exit 0) (.goto 1) (.goto 2) := ⟨fun _ => by kernel_rfl, fun _ => by kernel_rfl, fun _ => by kernel_rfl, fun _ => by kernel_rfl, fun _ => by kernel_rfl, fun _ => by kernel_rfl, exNe_ok (by kernel_rfl), exNe_ok (by kernel_rfl), exNe_ok (by kernel_rfl)⟩
def w10l0 [Alg] (N : Nat) : Nat → ((List ((List Int) × (Int × Int))) × Int × Int × Int × Int × (List ((List Int) × (Int × Int)))) → ((Int × Int × Int × (List ((List Int) × (Int × Int)))) → O) → ((Unit) → O) → ((Unit) → O) → O
 | 0, _, _, _, _ => none
 | n + 1, x, k0, k1, k2 => w10F0 N  (fun v0 v1 => w10l0 N n (x.1, x.2.1, x.2.2.1, x.2.2.2.1, v0, v1) k0 k1 k2) (fun y0 y1 y2 y3 => k0 (y0, y1, y2, y3)) x.1 x.2.1 x.2.2.1 x.2.2.2.1 x.2.2.2.2.1 x.2.2.2.2.2
def w10n0 [Alg] (N : Nat) (a0 : (List ((List Int) × (Int × Int)))) (a1 : Int) (a2 : Int) (a3 : Int) (a4 : Int) (a5 : (List ((List Int) × (Int × Int)))) (k0 : Int → Int → Int → (List ((List Int) × (Int × Int))) → O) : O := w10l0 N N (a0, a1, a2, a3, a4, a5) (fun y => k0 y.1 y.2.1 y.2.2.1 y.2.2.2) (fun _ => none) (fun _ => none)
noncomputable def w10s0 [Alg] (N : Nat) (a0 : (List ((List Int) × (Int × Int)))) (a1 : Int) (a2 : Int) (a3 : Int) (a4 : Int) (a5 : (List ((List Int) × (Int × Int)))) (k0 : Int → Int → Int → (List ((List Int) × (Int × Int))) → O) : O := subL w10I0 w10u0 (w10l0 N N) (w10I0 (a0, a1, a2, a3, a4, a5)) (fun y => k0 y.1 y.2.1 y.2.2.1 y.2.2.2) (fun _ => none) (fun _ => none)
theorem w10e0 [Alg] (N : Nat) : w10s0 N = w10n0 N := funext fun _ => funext fun _ => funext fun _ => funext fun _ => funext fun _ => funext fun _ => funext fun _ => subL_I w10ui0 _ _ _ _
noncomputable def w10h0 [Alg] (_ : Nat) : Hint := (.seq .d (.seq (.block (.seq .d (.seq (.reg [0, 3] [] []) (.reg [2, 3] [] [])))) .d))
theorem w10hk0 (N : Nat) : HintOk (w10c N) Tryd.f10.ntmps (w10h0 N) w10b0 := hk_of _ _ (And.intro trivial (And.intro (And.intro trivial (And.intro trivial trivial)) trivial))
theorem w10q0 [Alg] (N : Nat) (self : Sg → O) (K : Exit → Sg → O) (x : (List ((List Int) × (Int × Int))) × Int × Int × Int × Int × (List ((List Int) × (Int × Int)))) : w10F0 N  (fun v0 v1 => self (w10I0 (x.1, x.2.1, x.2.2.1, x.2.2.2.1, v0, v1))) (fun y0 y1 y2 y3 => K (w10X0_0 (y0, y1, y2, y3)).1 (w10X0_0 (y0, y1, y2, y3)).2) x.1 x.2.1 x.2.2.1 x.2.2.2.1 x.2.2.2.2.1 x.2.2.2.2.2 = exec (w10c N) Tryd.f10.ntmps (w10h0 N) w10b0 (w10I0 x) (roundX w10m0 w10w0 self K) := by kernel_rfl
theorem w10S0 (N : Nat) (hc : CxOk (w10c N)) : SubOk (w10c N) Tryd.f10.ntmps (.loop w10b0) w10X0_0 (noX 1) (noX 2) (subL w10I0 w10u0 (w10l0 N N)) :=
 sub_loop hc (w10hk0 N) w10o0 (n := N) (fun x K => loop_ind (w10l0 N) (fun _ _ _ _ => rfl) (fun n K ih x => by
  have h : w10F0 N  (fun v0 v1 => w10l0 N n (x.1, x.2.1, x.2.2.1, x.2.2.2.1, v0, v1) (fun y => K (w10X0_0 y).1 (w10X0_0 y).2) (fun y => K ((noX 1) y).1 ((noX 1) y).2) (fun y => K ((noX 2) y).1 ((noX 2) y).2)) (fun y0 y1 y2 y3 => K (w10X0_0 (y0, y1, y2, y3)).1 (w10X0_0 (y0, y1, y2, y3)).2) x.1 x.2.1 x.2.2.1 x.2.2.2.1 x.2.2.2.2.1 x.2.2.2.2.2 = w10F0 N  (fun v0 v1 => loopX (w10c N) Tryd.f10.ntmps (w10h0 N) w10b0 w10m0 w10w0 n (w10I0 (x.1, x.2.1, x.2.2.1, x.2.2.2.1, v0, v1)) K) (fun y0 y1 y2 y3 => K (w10X0_0 (y0, y1, y2, y3)).1 (w10X0_0 (y0, y1, y2, y3)).2) x.1 x.2.1 x.2.2.1 x.2.2.2.1 x.2.2.2.2.1 x.2.2.2.2.2 := by rw [ show (fun v0 v1 => w10l0 N n (x.1, x.2.1, x.2.2.1, x.2.2.2.1, v0, v1) (fun y => K (w10X0_0 y).1 (w10X0_0 y).2) (fun y => K ((noX 1) y).1 ((noX 1) y).2) (fun y => K ((noX 2) y).1 ((noX 2) y).2)) = (fun v0 v1 => loopX (w10c N) Tryd.f10.ntmps (w10h0 N) w10b0 w10m0 w10w0 n (w10I0 (x.1, x.2.1, x.2.2.1, x.2.2.2.1, v0, v1)) K) from funext fun _ => funext fun _ => ih _]
  exact h.trans (w10q0 N (fun σ => loopX (w10c N) Tryd.f10.ntmps (w10h0 N) w10b0 w10m0 w10w0 n σ K) K x)) N x K)
def w10F1 [Alg] (N : Nat)  (self : (List Int) → O) (k0 : (List ((List Int) × (Int × Int))) → Int → (List Int) → O) (x18_0 : Int) (x18_1 : Int) (x18_2 : (List ((List Int) × (Int × Int)))) (x18_3 : Int) (x18_4 : (List Int)) : O :=
 ck (decide ((0 : Int) ≤ x18_1 ∧ x18_1 < (↑x18_2.length : Int))) <|
 ck (decide (x18_1.toNat = x18_3.toNat)) <|
 gn x18_2 x18_1.toNat fun _ =>
 ck (w18p N x18_0 (4 : Int)) <|
 br (decide ((↑x18_4.length : Int) < IntKind.i64.wrap ((7 : Int) + w18y0 N x18_0 (4 : Int))))
  (ck (decide ((0 : Int) ≤ x18_1 ∧ x18_1 < (↑x18_2.length : Int))) <|
  ck (decide (x18_1.toNat = x18_3.toNat)) <|
  gn x18_2 x18_1.toNat fun _ =>
  ck (decide ((0 : Int) ≤ x18_1 ∧ x18_1 < (↑x18_2.length : Int))) <|
  ck (decide (x18_1.toNat = x18_3.toNat)) <|
  gn x18_2 x18_1.toNat fun _ =>
  ck (lim (x18_4 ++ [IntKind.i64.wrap ((↑x18_4.length : Int) + (1 : Int))]).length (8 : Nat)) <|
  ck (decide ((0 : Int) ≤ x18_1 ∧ x18_1 < (↑x18_2.length : Int))) <|
  ck (decide (x18_1.toNat = x18_3.toNat)) <|
  gn x18_2 x18_1.toNat fun _ =>
  self (x18_4 ++ [IntKind.i64.wrap ((↑x18_4.length : Int) + (1 : Int))]))
  (k0 x18_2 x18_3 x18_4)
noncomputable def w10b1 : Code := atC [1, 1, 1, 1, 1, 0, 1, 0, 1, 1, 1, 1, 1, 1, 1, 0, 0, 0] w10b
def w10m1 : Nm := ⟨[3, 8, 9, 12], [], []⟩
def w10I1 (x : Int × Int × (List ((List Int) × (Int × Int))) × Int × (List Int)) : Sg := ⟨[(3, .e (.i .i64) x.1), (8, .nilS), (9, .own 0), (12, .e (.i .i64) x.2.1)], [(0, .nst 49 3 (.i .i64) (.pr (.i .i64) (.i .i64)) x.2.2.1 (some (x.2.2.2.1, 1))), (1, .row 3 (.i .i64) x.2.2.2.2 false)], 100⟩
def w10u1 (σ : Sg) : Int × Int × (List ((List Int) × (Int × Int))) × Int × (List Int) := (lvT (.i .i64) 3 0 σ, lvT (.i .i64) 12 0 σ, lvS (.i .i64) (.pr (.i .i64) (.i .i64)) 0 σ, lvSi 0 σ, lvR (.i .i64) 1 σ)
theorem w10ui1 : ∀ x, w10u1 (w10I1 x) = x := fun _ => by kernel_rfl
def w10X1_0 (y : (List ((List Int) × (Int × Int))) × Int × (List Int)) : Exit × Sg := ((.exit 3), ⟨[(8, .nilS), (9, .own 0)], [(0, .nst 49 3 (.i .i64) (.pr (.i .i64) (.i .i64)) y.1 (some (y.2.1, 1))), (1, .row 3 (.i .i64) y.2.2 false)], 100⟩)
def w10v1_0 (σ : Sg) : (List ((List Int) × (Int × Int))) × Int × (List Int) := (lvS (.i .i64) (.pr (.i .i64) (.i .i64)) 0 σ, lvSi 0 σ, lvR (.i .i64) 1 σ)
def w10w1 : List (Exit × Nm) := [((.exit 3), ⟨[8, 9], [], []⟩)]
theorem w10o1 : Outs w10v1_0 (fun _ => ()) (fun _ => ()) w10X1_0 (noX 1) (noX 2) (.exit 3) (.goto 1) (.goto 2) := ⟨fun _ => by kernel_rfl, fun _ => by kernel_rfl, fun _ => by kernel_rfl, fun _ => by kernel_rfl, fun _ => by kernel_rfl, fun _ => by kernel_rfl, exNe_ok (by kernel_rfl), exNe_ok (by kernel_rfl), exNe_ok (by kernel_rfl)⟩
def w10l1 [Alg] (N : Nat) : Nat → (Int × Int × (List ((List Int) × (Int × Int))) × Int × (List Int)) → (((List ((List Int) × (Int × Int))) × Int × (List Int)) → O) → ((Unit) → O) → ((Unit) → O) → O
 | 0, _, _, _, _ => none
 | n + 1, x, k0, k1, k2 => w10F1 N  (fun v0 => w10l1 N n (x.1, x.2.1, x.2.2.1, x.2.2.2.1, v0) k0 k1 k2) (fun y0 y1 y2 => k0 (y0, y1, y2)) x.1 x.2.1 x.2.2.1 x.2.2.2.1 x.2.2.2.2
def w10n1 [Alg] (N : Nat) (a0 : Int) (a1 : Int) (a2 : (List ((List Int) × (Int × Int)))) (a3 : Int) (a4 : (List Int)) (k0 : (List ((List Int) × (Int × Int))) → Int → (List Int) → O) : O := w10l1 N N (a0, a1, a2, a3, a4) (fun y => k0 y.1 y.2.1 y.2.2) (fun _ => none) (fun _ => none)
noncomputable def w10s1 [Alg] (N : Nat) (a0 : Int) (a1 : Int) (a2 : (List ((List Int) × (Int × Int)))) (a3 : Int) (a4 : (List Int)) (k0 : (List ((List Int) × (Int × Int))) → Int → (List Int) → O) : O := subL w10I1 w10u1 (w10l1 N N) (w10I1 (a0, a1, a2, a3, a4)) (fun y => k0 y.1 y.2.1 y.2.2) (fun _ => none) (fun _ => none)
theorem w10e1 [Alg] (N : Nat) : w10s1 N = w10n1 N := funext fun _ => funext fun _ => funext fun _ => funext fun _ => funext fun _ => funext fun _ => subL_I w10ui1 _ _ _ _
noncomputable def w10h1 [Alg] (_ : Nat) : Hint := (.seq .d (.block (.reg [14, 15] [] [[], [], [], [], [], [], [], [], [], [], [], [], [], [], [], [300, 1], [], [], [0]])))
theorem w10hk1 (N : Nat) : HintOk (w10c N) Tryd.f10.ntmps (w10h1 N) w10b1 := hk_of _ _ (And.intro trivial trivial)
theorem w10q1 [Alg] (N : Nat) (self : Sg → O) (K : Exit → Sg → O) (x : Int × Int × (List ((List Int) × (Int × Int))) × Int × (List Int)) : w10F1 N  (fun v0 => self (w10I1 (x.1, x.2.1, x.2.2.1, x.2.2.2.1, v0))) (fun y0 y1 y2 => K (w10X1_0 (y0, y1, y2)).1 (w10X1_0 (y0, y1, y2)).2) x.1 x.2.1 x.2.2.1 x.2.2.2.1 x.2.2.2.2 = exec (w10c N) Tryd.f10.ntmps (w10h1 N) w10b1 (w10I1 x) (roundX w10m1 w10w1 self K) := by kernel_rfl
theorem w10S1 (N : Nat) (hc : CxOk (w10c N)) : SubOk (w10c N) Tryd.f10.ntmps (.loop w10b1) w10X1_0 (noX 1) (noX 2) (subL w10I1 w10u1 (w10l1 N N)) :=
 sub_loop hc (w10hk1 N) w10o1 (n := N) (fun x K => loop_ind (w10l1 N) (fun _ _ _ _ => rfl) (fun n K ih x => by
  have h : w10F1 N  (fun v0 => w10l1 N n (x.1, x.2.1, x.2.2.1, x.2.2.2.1, v0) (fun y => K (w10X1_0 y).1 (w10X1_0 y).2) (fun y => K ((noX 1) y).1 ((noX 1) y).2) (fun y => K ((noX 2) y).1 ((noX 2) y).2)) (fun y0 y1 y2 => K (w10X1_0 (y0, y1, y2)).1 (w10X1_0 (y0, y1, y2)).2) x.1 x.2.1 x.2.2.1 x.2.2.2.1 x.2.2.2.2 = w10F1 N  (fun v0 => loopX (w10c N) Tryd.f10.ntmps (w10h1 N) w10b1 w10m1 w10w1 n (w10I1 (x.1, x.2.1, x.2.2.1, x.2.2.2.1, v0)) K) (fun y0 y1 y2 => K (w10X1_0 (y0, y1, y2)).1 (w10X1_0 (y0, y1, y2)).2) x.1 x.2.1 x.2.2.1 x.2.2.2.1 x.2.2.2.2 := by rw [ show (fun v0 => w10l1 N n (x.1, x.2.1, x.2.2.1, x.2.2.2.1, v0) (fun y => K (w10X1_0 y).1 (w10X1_0 y).2) (fun y => K ((noX 1) y).1 ((noX 1) y).2) (fun y => K ((noX 2) y).1 ((noX 2) y).2)) = (fun v0 => loopX (w10c N) Tryd.f10.ntmps (w10h1 N) w10b1 w10m1 w10w1 n (w10I1 (x.1, x.2.1, x.2.2.1, x.2.2.2.1, v0)) K) from funext fun _ => ih _]
  exact h.trans (w10q1 N (fun σ => loopX (w10c N) Tryd.f10.ntmps (w10h1 N) w10b1 w10m1 w10w1 n σ K) K x)) N x K)
def w10F2 [Alg] (N : Nat)  (self : (List ((List Int) × (Int × Int))) → O) (k0 : (List ((List Int) × (Int × Int))) → O) (x36_0 : Int) (x36_1 : Int) (x36_2 : (List ((List Int) × (Int × Int)))) : O :=
 ck (w18p N x36_0 (4 : Int)) <|
 br (decide ((↑x36_2.length : Int) < IntKind.i64.wrap ((31 : Int) + w18y0 N x36_0 (4 : Int))))
  (gx x36_2 x36_1 fun y40 =>
  ck (lim (x36_2 ++ [(y40.1, y40.2.1, y40.2.2)]).length (40 : Nat)) <|
  self (x36_2 ++ [(y40.1, y40.2.1, y40.2.2)]))
  (k0 x36_2)
noncomputable def w10b2 : Code := atC [1, 1, 1, 1, 1, 0, 1, 0, 1, 1, 1, 1, 1, 1, 1, 1, 1, 0, 0, 0] w10b
def w10m2 : Nm := ⟨[3, 8, 9, 12], [], [.slr 9]⟩
def w10I2 (x : Int × Int × (List ((List Int) × (Int × Int)))) : Sg := ⟨[(3, .e (.i .i64) x.1), (8, .nilS), (9, .own 0), (12, .e (.i .i64) x.2.1)], [(0, .row 49 (.pr (.sl (.i .i64)) (.pr (.i .i64) (.i .i64))) x.2.2 true)], 100⟩
def w10u2 (σ : Sg) : Int × Int × (List ((List Int) × (Int × Int))) := (lvT (.i .i64) 3 0 σ, lvT (.i .i64) 12 0 σ, lvR (.pr (.sl (.i .i64)) (.pr (.i .i64) (.i .i64))) 0 σ)
theorem w10ui2 : ∀ x, w10u2 (w10I2 x) = x := fun _ => by kernel_rfl
def w10X2_0 (y : (List ((List Int) × (Int × Int)))) : Exit × Sg := ((.exit 5), ⟨[(8, .nilS), (9, .own 0)], [(0, .row 49 (.pr (.sl (.i .i64)) (.pr (.i .i64) (.i .i64))) y true)], 100⟩)
def w10v2_0 (σ : Sg) : (List ((List Int) × (Int × Int))) := lvR (.pr (.sl (.i .i64)) (.pr (.i .i64) (.i .i64))) 0 σ
def w10w2 : List (Exit × Nm) := [((.exit 5), ⟨[8, 9], [], []⟩)]
theorem w10o2 : Outs w10v2_0 (fun _ => ()) (fun _ => ()) w10X2_0 (noX 1) (noX 2) (.exit 5) (.goto 1) (.goto 2) := ⟨fun _ => by kernel_rfl, fun _ => by kernel_rfl, fun _ => by kernel_rfl, fun _ => by kernel_rfl, fun _ => by kernel_rfl, fun _ => by kernel_rfl, exNe_ok (by kernel_rfl), exNe_ok (by kernel_rfl), exNe_ok (by kernel_rfl)⟩
def w10l2 [Alg] (N : Nat) : Nat → (Int × Int × (List ((List Int) × (Int × Int)))) → (((List ((List Int) × (Int × Int)))) → O) → ((Unit) → O) → ((Unit) → O) → O
 | 0, _, _, _, _ => none
 | n + 1, x, k0, k1, k2 => w10F2 N  (fun v0 => w10l2 N n (x.1, x.2.1, v0) k0 k1 k2) (fun y0 => k0 y0) x.1 x.2.1 x.2.2
def w10n2 [Alg] (N : Nat) (a0 : Int) (a1 : Int) (a2 : (List ((List Int) × (Int × Int)))) (k0 : (List ((List Int) × (Int × Int))) → O) : O := w10l2 N N (a0, a1, a2) (fun y => k0 y) (fun _ => none) (fun _ => none)
noncomputable def w10s2 [Alg] (N : Nat) (a0 : Int) (a1 : Int) (a2 : (List ((List Int) × (Int × Int)))) (k0 : (List ((List Int) × (Int × Int))) → O) : O := subL w10I2 w10u2 (w10l2 N N) (w10I2 (a0, a1, a2)) (fun y => k0 y) (fun _ => none) (fun _ => none)
theorem w10e2 [Alg] (N : Nat) : w10s2 N = w10n2 N := funext fun _ => funext fun _ => funext fun _ => funext fun _ => subL_I w10ui2 _ _ _ _
noncomputable def w10h2 [Alg] (_ : Nat) : Hint := (.seq (.seq (.reg [] [.slr 9] []) .d) (.block (.reg [5, 6] [] [])))
theorem w10hk2 (N : Nat) : HintOk (w10c N) Tryd.f10.ntmps (w10h2 N) w10b2 := hk_of _ _ (And.intro (And.intro trivial trivial) trivial)
theorem w10q2 [Alg] (N : Nat) (self : Sg → O) (K : Exit → Sg → O) (x : Int × Int × (List ((List Int) × (Int × Int)))) : w10F2 N  (fun v0 => self (w10I2 (x.1, x.2.1, v0))) (fun y0 => K (w10X2_0 y0).1 (w10X2_0 y0).2) x.1 x.2.1 x.2.2 = exec (w10c N) Tryd.f10.ntmps (w10h2 N) w10b2 (w10I2 x) (roundX w10m2 w10w2 self K) := by kernel_rfl
theorem w10S2 (N : Nat) (hc : CxOk (w10c N)) : SubOk (w10c N) Tryd.f10.ntmps (.loop w10b2) w10X2_0 (noX 1) (noX 2) (subL w10I2 w10u2 (w10l2 N N)) :=
 sub_loop hc (w10hk2 N) w10o2 (n := N) (fun x K => loop_ind (w10l2 N) (fun _ _ _ _ => rfl) (fun n K ih x => by
  have h : w10F2 N  (fun v0 => w10l2 N n (x.1, x.2.1, v0) (fun y => K (w10X2_0 y).1 (w10X2_0 y).2) (fun y => K ((noX 1) y).1 ((noX 1) y).2) (fun y => K ((noX 2) y).1 ((noX 2) y).2)) (fun y0 => K (w10X2_0 y0).1 (w10X2_0 y0).2) x.1 x.2.1 x.2.2 = w10F2 N  (fun v0 => loopX (w10c N) Tryd.f10.ntmps (w10h2 N) w10b2 w10m2 w10w2 n (w10I2 (x.1, x.2.1, v0)) K) (fun y0 => K (w10X2_0 y0).1 (w10X2_0 y0).2) x.1 x.2.1 x.2.2 := by rw [ show (fun v0 => w10l2 N n (x.1, x.2.1, v0) (fun y => K (w10X2_0 y).1 (w10X2_0 y).2) (fun y => K ((noX 1) y).1 ((noX 1) y).2) (fun y => K ((noX 2) y).1 ((noX 2) y).2)) = (fun v0 => loopX (w10c N) Tryd.f10.ntmps (w10h2 N) w10b2 w10m2 w10w2 n (w10I2 (x.1, x.2.1, v0)) K) from funext fun _ => ih _]
  exact h.trans (w10q2 N (fun σ => loopX (w10c N) Tryd.f10.ntmps (w10h2 N) w10b2 w10m2 w10w2 n σ K) K x)) N x K)
def w10G [Alg] (N : Nat) (in0 : (List ((List Int) × (Int × Int))) → Int → Int → Int → Int → (List ((List Int) × (Int × Int))) → (Int → Int → Int → (List ((List Int) × (Int × Int))) → O) → O) (in1 : Int → Int → (List ((List Int) × (Int × Int))) → Int → (List Int) → ((List ((List Int) × (Int × Int))) → Int → (List Int) → O) → O) (in2 : Int → Int → (List ((List Int) × (Int × Int))) → ((List ((List Int) × (Int × Int))) → O) → O) (l0 : (List ((List Int) × (Int × Int)))) (at1 : Int) (how2 : Int) (by3 : Int) : O :=
 in0 l0 at1 how2 by3 ((0 : Int)) []
  (fun z5 z6 z7 z8 =>
   br (decide ((↑z8.length : Int) = (0 : Int)))
    (ck (w18p N z7 (5 : Int)) <|
    some (w10r0 [([], IntKind.i64.wrap (w18y0 N z7 (5 : Int) - (1 : Int)), (0 : Int))]))
    (ck (w18p N z5 (↑z8.length : Int)) <|
    ck (w18p N z6 (6 : Int)) <|
    br (decide (w18y0 N z6 (6 : Int) = (0 : Int)))
     (ck (w18p N z7 (5 : Int)) <|
     ck (decide ((0 : Int) ≤ w18y0 N z5 (↑z8.length : Int) ∧ w18y0 N z5 (↑z8.length : Int) < (↑z8.length : Int))) <|
     gn z8 ((w18y0 N z5 (↑z8.length : Int)).toNat) fun y9 =>
     some (w10r0 (z8.set (w18y0 N z5 (↑z8.length : Int)).toNat (y9.1, IntKind.i64.wrap (w18y0 N z7 (5 : Int) - (1 : Int)), y9.2.2))))
     (br (decide (w18y0 N z6 (6 : Int) = (1 : Int)))
      (ck (w18p N z7 (6 : Int)) <|
      ck (decide ((0 : Int) ≤ w18y0 N z7 (6 : Int) ∧ w18y0 N z7 (6 : Int) < (6 : Int))) <|
      gn [(-10001 : Int), (-10000 : Int), (9999 : Int), (10000 : Int), (0 : Int), (-1 : Int)] ((w18y0 N z7 (6 : Int)).toNat) fun y10 =>
      ck (decide ((0 : Int) ≤ w18y0 N z5 (↑z8.length : Int) ∧ w18y0 N z5 (↑z8.length : Int) < (↑z8.length : Int))) <|
      gn z8 ((w18y0 N z5 (↑z8.length : Int)).toNat) fun y11 =>
      some (w10r0 (z8.set (w18y0 N z5 (↑z8.length : Int)).toNat (y11.1, y11.2.1, y10))))
      (br (decide (w18y0 N z6 (6 : Int) = (2 : Int)))
       (gx z8 (w18y0 N z5 (↑z8.length : Int)) fun y12 =>
       ck (decide ((0 : Int) ≤ w18y0 N z5 (↑z8.length : Int) ∧ w18y0 N z5 (↑z8.length : Int) < (↑z8.length : Int))) <|
       ck (decide ((w18y0 N z5 (↑z8.length : Int)).toNat = (w18y0 N z5 (↑z8.length : Int)).toNat)) <|
       gn z8 ((w18y0 N z5 (↑z8.length : Int)).toNat) fun _ =>
       ck (w18p N z7 (7 : Int)) <|
       ck (decide ((0 : Int) ≤ w18y0 N z7 (7 : Int) ∧ w18y0 N z7 (7 : Int) < (7 : Int))) <|
       gn [(0 : Int), (16 : Int), (-16 : Int), (17 : Int), (-17 : Int), (1 : Int), (-9223372036854775808 : Int)] ((w18y0 N z7 (7 : Int)).toNat) fun y14 =>
       ck (lim (y12.1 ++ [y14]).length (8 : Nat)) <|
       ck (decide ((0 : Int) ≤ w18y0 N z5 (↑z8.length : Int) ∧ w18y0 N z5 (↑z8.length : Int) < (↑z8.length : Int))) <|
       ck (decide ((w18y0 N z5 (↑z8.length : Int)).toNat = (w18y0 N z5 (↑z8.length : Int)).toNat)) <|
       gn z8 ((w18y0 N z5 (↑z8.length : Int)).toNat) fun _ =>
       gx z8 (w18y0 N z5 (↑z8.length : Int)) fun y16 =>
       some (w10r0 (z8.set (w18y0 N z5 (↑z8.length : Int)).toNat (y12.1 ++ [y14], y16.2))))
       (gx z8 (w18y0 N z5 (↑z8.length : Int)) fun y17 =>
       br (decide (w18y0 N z6 (6 : Int) = (3 : Int)))
        (in1 z7 (w18y0 N z5 (↑z8.length : Int)) z8 (w18y0 N z5 (↑z8.length : Int)) y17.1
         (fun z31 z32 z33 =>
          gx z31 z32 fun y34 =>
          some (w10r0 (z31.set z32.toNat (z33, y34.2)))))
        (gx z8 (w18y0 N z5 (↑z8.length : Int)) fun y35 =>
        br (decide (w18y0 N z6 (6 : Int) = (4 : Int)))
         (in2 z7 (w18y0 N z5 (↑z8.length : Int)) (z8.set (w18y0 N z5 (↑z8.length : Int)).toNat (y17.1, y35.2))
          (fun z41 =>
           some (w10r0 z41)))
         (gx (z8.set (w18y0 N z5 (↑z8.length : Int)).toNat (y17.1, y35.2)) (w18y0 N z5 (↑z8.length : Int)) fun y42 =>
         ck (decide ((0 : Int) ≤ w18y0 N z5 (↑z8.length : Int) ∧ w18y0 N z5 (↑z8.length : Int) < (↑(z8.set (w18y0 N z5 (↑z8.length : Int)).toNat (y17.1, y35.2)).length : Int))) <|
         ck (decide ((w18y0 N z5 (↑z8.length : Int)).toNat = (w18y0 N z5 (↑z8.length : Int)).toNat)) <|
         gn (z8.set (w18y0 N z5 (↑z8.length : Int)).toNat (y17.1, y35.2)) ((w18y0 N z5 (↑z8.length : Int)).toNat) fun _ =>
         br (decide ((0 : Int) < (↑y42.1.length : Int)))
          (ck (decide ((0 : Int) ≤ w18y0 N z5 (↑z8.length : Int) ∧ w18y0 N z5 (↑z8.length : Int) < (↑(z8.set (w18y0 N z5 (↑z8.length : Int)).toNat (y17.1, y35.2)).length : Int))) <|
          ck (decide ((w18y0 N z5 (↑z8.length : Int)).toNat = (w18y0 N z5 (↑z8.length : Int)).toNat)) <|
          gn (z8.set (w18y0 N z5 (↑z8.length : Int)).toNat (y17.1, y35.2)) ((w18y0 N z5 (↑z8.length : Int)).toNat) fun _ =>
          ck (decide ((0 : Int) ≤ w18y0 N z5 (↑z8.length : Int) ∧ w18y0 N z5 (↑z8.length : Int) < (↑(z8.set (w18y0 N z5 (↑z8.length : Int)).toNat (y17.1, y35.2)).length : Int))) <|
          ck (decide ((w18y0 N z5 (↑z8.length : Int)).toNat = (w18y0 N z5 (↑z8.length : Int)).toNat)) <|
          gn (z8.set (w18y0 N z5 (↑z8.length : Int)).toNat (y17.1, y35.2)) ((w18y0 N z5 (↑z8.length : Int)).toNat) fun _ =>
          ck (decide ((0 : Int) ≤ (0 : Int) ∧ (0 : Int) < (↑y42.1.length : Int))) <|
          gn y42.1 ((0 : Nat)) fun y46 =>
          ck (decide ((0 : Int) ≤ (0 : Int) ∧ (0 : Int) < (↑y42.1.length : Int))) <|
          gn y42.1 ((0 : Nat)) fun _ =>
          gx (z8.set (w18y0 N z5 (↑z8.length : Int)).toNat (y17.1, y35.2)) (w18y0 N z5 (↑z8.length : Int)) fun y48 =>
          some (w10r0 ((z8.set (w18y0 N z5 (↑z8.length : Int)).toNat (y17.1, y35.2)).set (w18y0 N z5 (↑z8.length : Int)).toNat (y42.1.set (0 : Nat) (IntKind.i64.wrap (-y46)), y48.2))))
          (gx (z8.set (w18y0 N z5 (↑z8.length : Int)).toNat (y17.1, y35.2)) (w18y0 N z5 (↑z8.length : Int)) fun y49 =>
          some (w10r0 ((z8.set (w18y0 N z5 (↑z8.length : Int)).toNat (y17.1, y35.2)).set (w18y0 N z5 (↑z8.length : Int)).toNat (y42.1, y49.2)))))))))))
def w10 [Alg] (N : Nat) (l0 : (List ((List Int) × (Int × Int)))) (at1 : Int) (how2 : Int) (by3 : Int) : O := w10G N (w10n0 N) (w10n1 N) (w10n2 N) l0 at1 how2 by3
noncomputable def w10h [Alg] (N : Nat) : Hint := (.seq .d (.seq .d (.seq (.seq .d (.block (.sub w10m0 _ _ _ w10X0_0 (noX 1) (noX 2) (subL w10I0 w10u0 (w10l0 N N))))) (.seq (.seq .d (.cond (.seq (.reg [4] [] []) .d) .d)) (.seq .d (.seq (.seq .d (.block (.seq .d (.cond .d (.seq .d (.cond (.reg [2] [] []) (.seq .d (.cond (.reg [7, 12, 13] [.lend 9 12] [[], [], [], [], [], [], [], [], [], [], [], [], [], [340, 228], [], [], [0]]) (.seq (.reg [] [.lend 9 12] []) (.cond (.block (.sub w10m1 _ _ _ w10X1_0 (noX 1) (noX 2) (subL w10I1 w10u1 (w10l1 N N)))) (.seq (.reg [] [.bk 9] []) (.cond (.block (.sub w10m2 _ _ _ w10X2_0 (noX 1) (noX 2) (subL w10I2 w10u2 (w10l2 N N)))) (.seq (.reg [] [.lend 9 12] []) (.cond (.reg [] [] [[], [], [], [], [], [], [], [], [], [], [], [], [], [], [268]]) .d)))))))))))))) (.seq (.reg [] [.bk 9, .slr 9] []) .d)))))))
theorem w10hk (N : Nat) (hc : CxOk (w10c N)) : HintOk (w10c N) Tryd.f10.ntmps (w10h N) w10b := hk_of _ _ (And.intro trivial (And.intro trivial (And.intro (And.intro trivial (w10S0 N hc)) (And.intro (And.intro trivial (And.intro (And.intro trivial trivial) trivial)) (And.intro trivial (And.intro (And.intro trivial (And.intro trivial (And.intro trivial (And.intro trivial (And.intro trivial (And.intro trivial (And.intro trivial (And.intro trivial (And.intro (w10S1 N hc) (And.intro trivial (And.intro (w10S2 N hc) (And.intro trivial (And.intro trivial trivial))))))))))))) (And.intro trivial trivial)))))))
theorem w10q [Alg] (N : Nat) (l0 : (List ((List Int) × (Int × Int)))) (at1 : Int) (how2 : Int) (by3 : Int) : w10G N (w10s0 N) (w10s1 N) (w10s2 N) l0 at1 how2 by3 = exec (w10c N) Tryd.f10.ntmps (w10h N) w10b ⟨argT 0 [.e (.sl (.pr (.sl (.i .i64)) (.pr (.i .i64) (.i .i64)))) l0, .e (.i .i64) at1, .e (.i .i64) how2, .e (.i .i64) by3], [], 100⟩ (finX (w10c N) Tryd.f10 false) := by kernel_rfl
theorem w10does {N : Nat} (hc : CxOk (w10c N)) {l0 : (List ((List Int) × (Int × Int)))} {at1 : Int} {how2 : Int} {by3 : Int} {r : Res} (h : w10 N l0 at1 how2 by3 = some r) : Does Tryd.prog 10 (([.e (.sl (.pr (.sl (.i .i64)) (.pr (.i .i64) (.i .i64)))) l0, .e (.i .i64) at1, .e (.i .i64) how2, .e (.i .i64) by3] : List X).map X.D) (HA []) r.1.D (HA r.2) :=
 fun_ok hc (f := 10) (fn := Tryd.f10) (code := w10b) (by kernel_rfl) (by kernel_rfl) (w10hk N hc) (Nat.le_of_ble_eq_true (by kernel_rfl)) (ow := false) ((w10q N l0 at1 how2 by3).symm.trans (by rw [w10e0 N, w10e1 N, w10e2 N]; exact h))
def w10un (r : Res) : Option ((List ((List Int) × (Int × Int)))) := match r with
 | (x0, []) => (match ue (.sl (.pr (.sl (.i .i64)) (.pr (.i .i64) (.i .i64)))) x0 with | some a0 => some a0 | _ => none)
 | _ => none
theorem w10uo {r : Res} {d : (List ((List Int) × (Int × Int)))} (h : w10un r = some d) : r = w10r0 (d) := by
 unfold w10un at h
 split at h
 ·split at h
  ·rename_i h0; cases h; rw [ue_some h0]; rfl
  ·cases h
 ·cases h
def w10z (N : Nat) (l0 : (List ((List Int) × (Int × Int)))) (at1 : Int) (how2 : Int) (by3 : Int) : Option ((List ((List Int) × (Int × Int)))) := (w10 N l0 at1 how2 by3).bind w10un
theorem w10fin {N : Nat} (hc : CxOk (w10c N)) {l0 : (List ((List Int) × (Int × Int)))} {at1 : Int} {how2 : Int} {by3 : Int} {d : (List ((List Int) × (Int × Int)))} (hd : w10z N l0 at1 how2 by3 = some d) : Does Tryd.prog 10 (([.e (.sl (.pr (.sl (.i .i64)) (.pr (.i .i64) (.i .i64)))) l0, .e (.i .i64) at1, .e (.i .i64) how2, .e (.i .i64) by3] : List X).map X.D) (HA []) (w10r0 (d)).1.D (HA (w10r0 (d)).2) := by
 obtain ⟨r, hr, hu⟩ := Option.bind_eq_some_iff.1 hd
 have := w10does hc hr
 rw [w10uo hu] at this
 exact this
def w10p (N : Nat) (l0 : (List ((List Int) × (Int × Int)))) (at1 : Int) (how2 : Int) (by3 : Int) : Bool := (w10z N l0 at1 how2 by3).isSome
def w10y0 (N : Nat) (l0 : (List ((List Int) × (Int × Int)))) (at1 : Int) (how2 : Int) (by3 : Int) : (List ((List Int) × (Int × Int))) := ((w10z N l0 at1 how2 by3).getD [])
def w10e (N : Nat) : Ent' := E4 (.sl (.pr (.sl (.i .i64)) (.pr (.i .i64) (.i .i64)))) (.i .i64) (.i .i64) (.i .i64)  (fun x0 x1 x2 x3 => (w10p N x0 x1 x2 x3, w10r0 (w10y0 N x0 x1 x2 x3)))
theorem w10re {N : Nat} {l0 : (List ((List Int) × (Int × Int)))} {at1 : Int} {how2 : Int} {by3 : Int} {d : (List ((List Int) × (Int × Int)))} (hd : w10z N l0 at1 how2 by3 = some d) : w10r0 (w10y0 N l0 at1 how2 by3) = w10r0 (d) := by unfold w10y0; rw [hd]; rfl
theorem w10ok (N : Nat) : EOk Tryd.prog 10 (w10e N) := EOk.e4 (fun x0 x1 x2 x3 h => by
 have h : (w10z N x0 x1 x2 x3).isSome = true := h
 obtain ⟨d, hd⟩ := Option.isSome_iff_exists.1 h
 have f := w10fin (w10cx N) hd
 rw [← w10re hd] at f
 exact f)
def w43r0 (a0 : Int) : Res := (.e (.i .i64) a0, [])
noncomputable def w43L (_ : Nat) : List (Nat × Ent') := []
noncomputable def w43c (N : Nat) : Cx := ⟨Tryd.prog, 99999, w43L N⟩
noncomputable def w43b : Code := Tryd.f43.body.getD .skip
theorem w43cx (N : Nat) : CxOk (w43c N) := ctx_ok (by kernel_rfl) .nil
def w43G [Alg] (_ : Nat)  (t0 : Int) : O :=
 some (w43r0 (max t0 (IntKind.i64.wrap (-t0))))
def w43 [Alg] (N : Nat) (t0 : Int) : O := w43G N  t0
noncomputable def w43h [Alg] (_ : Nat) : Hint := .d
theorem w43hk (N : Nat) : HintOk (w43c N) Tryd.f43.ntmps (w43h N) w43b := hk_of _ _ trivial
theorem w43q [Alg] (N : Nat) (t0 : Int) : w43G N  t0 = exec (w43c N) Tryd.f43.ntmps (w43h N) w43b ⟨argT 0 [.e (.i .i64) t0], [], 100⟩ (finX (w43c N) Tryd.f43 false) := by kernel_rfl
theorem w43does {N : Nat} (hc : CxOk (w43c N)) {t0 : Int} {r : Res} (h : w43 N t0 = some r) : Does Tryd.prog 43 (([.e (.i .i64) t0] : List X).map X.D) (HA []) r.1.D (HA r.2) :=
 fun_ok hc (f := 43) (fn := Tryd.f43) (code := w43b) (by kernel_rfl) (by kernel_rfl) (w43hk N) (Nat.le_of_ble_eq_true (by kernel_rfl)) (ow := false) ((w43q N t0).symm.trans (by exact h))
def w43un (r : Res) : Option (Int) := match r with
 | (x0, []) => (match ue (.i .i64) x0 with | some a0 => some a0 | _ => none)
 | _ => none
theorem w43uo {r : Res} {d : Int} (h : w43un r = some d) : r = w43r0 (d) := by
 unfold w43un at h
 split at h
 ·split at h
  ·rename_i h0; cases h; rw [ue_some h0]; rfl
  ·cases h
 ·cases h
def w43z (N : Nat) (t0 : Int) : Option (Int) := (w43 N t0).bind w43un
theorem w43fin {N : Nat} (hc : CxOk (w43c N)) {t0 : Int} {d : Int} (hd : w43z N t0 = some d) : Does Tryd.prog 43 (([.e (.i .i64) t0] : List X).map X.D) (HA []) (w43r0 (d)).1.D (HA (w43r0 (d)).2) := by
 obtain ⟨r, hr, hu⟩ := Option.bind_eq_some_iff.1 hd
 have := w43does hc hr
 rw [w43uo hu] at this
 exact this
def w43p (N : Nat) (t0 : Int) : Bool := (w43z N t0).isSome
def w43y0 (N : Nat) (t0 : Int) : Int := ((w43z N t0).getD 0)
def w43e (N : Nat) : Ent' := E1 (.i .i64)  (fun x0 => (w43p N x0, w43r0 (w43y0 N x0)))
theorem w43re {N : Nat} {t0 : Int} {d : Int} (hd : w43z N t0 = some d) : w43r0 (w43y0 N t0) = w43r0 (d) := by unfold w43y0; rw [hd]; rfl
theorem w43ok (N : Nat) : EOk Tryd.prog 43 (w43e N) := EOk.e1 (fun x0 h => by
 have h : (w43z N x0).isSome = true := h
 obtain ⟨d, hd⟩ := Option.isSome_iff_exists.1 h
 have f := w43fin (w43cx N) hd
 rw [← w43re hd] at f
 exact f)
def w25r0 (a0 : Int) : Res := (.e (.i .i64) a0, [])
noncomputable def w25L (N : Nat) : List (Nat × Ent') := [(43, w43e N)]
noncomputable def w25c (N : Nat) : Cx := ⟨Tryd.prog, 99999, w25L N⟩
noncomputable def w25b : Code := Tryd.f25.body.getD .skip
theorem w25cx (N : Nat) : CxOk (w25c N) := ctx_ok (by kernel_rfl) (.cons (by kernel_rfl) (w43ok N) .nil)
def w25F0 [Alg] (N : Nat)  (self : Int → O) (k0 : Int → O) (k1 : (List ((List Int) × (Int × Int))) → Int → Int → Int → (List ((List Int) × (Int × Int))) → Int → Bool → (List ((List Int) × (Int × Int))) → Int → ((List Int) × (Int × Int)) → (List Int) → Int → Int → (List Int) → Int → Bool → Bool → Bool → Bool → Bool → Bool → Bool → Bool → Bool → Int → Int → (List Int) → Int → Bool → (List Int) → Int → Int → O) (x84_0 : (List ((List Int) × (Int × Int)))) (x84_1 : Int) (x84_2 : Int) (x84_3 : Int) (x84_4 : (List ((List Int) × (Int × Int)))) (x84_5 : Int) (x84_6 : Bool) (x84_7 : (List ((List Int) × (Int × Int)))) (x84_8 : Int) (x84_9 : ((List Int) × (Int × Int))) (x84_10 : (List Int)) (x84_11 : Int) (x84_12 : Int) (x84_13 : (List Int)) (x84_14 : Int) (x84_15 : Bool) (x84_16 : Bool) (x84_17 : Bool) (x84_18 : Bool) (x84_19 : Bool) (x84_20 : Bool) (x84_21 : Bool) (x84_22 : Bool) (x84_23 : Bool) (x84_25 : (List Int)) (x84_26 : Int) (x84_27 : Int) (x84_24 : Int) : O :=
 br (decide (x84_24 < (↑x84_25.length : Int)))
  (gx x84_25 x84_24 fun y89 =>
  br (decide (y89 = (0 : Int)) || decide (y89 < (-16 : Int)) || decide ((16 : Int) < y89))
   (k0 ((1 : Int)))
   (ck (!decide ((0 : Int) < x84_24) || w43p N y89) <|
   gc (decide ((0 : Int) < x84_24)) ((0 : Int)) x84_25 (max (IntKind.i64.wrap (x84_24 - (1 : Int))) (0 : Int)) fun y90 =>
   ck (!decide ((0 : Int) < x84_24) || w43p N y90) <|
   br (decide ((0 : Int) < x84_24) && decide (w43y0 N y89 ≤ w43y0 N y90))
    (k0 ((1 : Int)))
    (self (IntKind.i64.wrap (x84_24 + (1 : Int))))))
  (k1 x84_0 x84_1 x84_2 x84_3 x84_4 x84_5 x84_6 x84_7 x84_8 x84_9 x84_10 x84_11 x84_12 x84_13 x84_14 x84_15 x84_16 x84_17 x84_18 x84_19 x84_20 x84_21 x84_22 x84_23 x84_24 x84_24 x84_25 ((↑x84_25.length : Int)) (decide (x84_24 < (↑x84_25.length : Int))) x84_25 x84_26 x84_27)
noncomputable def w25b0 : Code := atC [1, 1, 0, 1, 0, 0, 1, 0, 0, 1, 1, 1, 0, 0] w25b
def w25m0 : Nm := ⟨[0, 2, 3, 10, 11, 12, 13, 16, 17, 18, 19, 4, 20, 21, 22, 23, 24, 28, 29, 33, 34, 38, 39, 43, 5], [], []⟩
def w25I0 (x : (List ((List Int) × (Int × Int))) × Int × Int × Int × (List ((List Int) × (Int × Int))) × Int × Bool × (List ((List Int) × (Int × Int))) × Int × ((List Int) × (Int × Int)) × (List Int) × Int × Int × (List Int) × Int × Bool × Bool × Bool × Bool × Bool × Bool × Bool × Bool × Bool × Int × (List Int) × Int × Int) : Sg := ⟨[(0, .e (.sl (.pr (.sl (.i .i64)) (.pr (.i .i64) (.i .i64)))) x.1), (2, .e (.i .i64) x.2.1), (3, .e (.i .i64) x.2.2.1), (10, .e (.i .i64) x.2.2.2.1), (11, .e (.sl (.pr (.sl (.i .i64)) (.pr (.i .i64) (.i .i64)))) x.2.2.2.2.1), (12, .e (.i .i64) x.2.2.2.2.2.1), (13, .e .bo x.2.2.2.2.2.2.1), (16, .e (.sl (.pr (.sl (.i .i64)) (.pr (.i .i64) (.i .i64)))) x.2.2.2.2.2.2.2.1), (17, .e (.i .i64) x.2.2.2.2.2.2.2.2.1), (18, .pt (.pr (.sl (.i .i64)) (.pr (.i .i64) (.i .i64))) x.2.2.2.2.2.2.2.2.2.1 0), (19, .agg [.e (.sl (.i .i64)) x.2.2.2.2.2.2.2.2.2.2.1, .e (.i .i64) x.2.2.2.2.2.2.2.2.2.2.2.1, .e (.i .i64) x.2.2.2.2.2.2.2.2.2.2.2.2.1]), (4, .ref 0 0), (20, .ref 0 0), (21, .e (.sl (.i .i64)) x.2.2.2.2.2.2.2.2.2.2.2.2.2.1), (22, .e (.i .i64) x.2.2.2.2.2.2.2.2.2.2.2.2.2.2.1), (23, .e .bo x.2.2.2.2.2.2.2.2.2.2.2.2.2.2.2.1), (24, .e .bo x.2.2.2.2.2.2.2.2.2.2.2.2.2.2.2.2.1), (28, .e .bo x.2.2.2.2.2.2.2.2.2.2.2.2.2.2.2.2.2.1), (29, .e .bo x.2.2.2.2.2.2.2.2.2.2.2.2.2.2.2.2.2.2.1), (33, .e .bo x.2.2.2.2.2.2.2.2.2.2.2.2.2.2.2.2.2.2.2.1), (34, .e .bo x.2.2.2.2.2.2.2.2.2.2.2.2.2.2.2.2.2.2.2.2.1), (38, .e .bo x.2.2.2.2.2.2.2.2.2.2.2.2.2.2.2.2.2.2.2.2.2.1), (39, .e .bo x.2.2.2.2.2.2.2.2.2.2.2.2.2.2.2.2.2.2.2.2.2.2.1), (43, .e .bo x.2.2.2.2.2.2.2.2.2.2.2.2.2.2.2.2.2.2.2.2.2.2.2.1), (5, .e (.i .i64) x.2.2.2.2.2.2.2.2.2.2.2.2.2.2.2.2.2.2.2.2.2.2.2.2.1)], [(0, .box 49 [.e (.sl (.i .i64)) x.2.2.2.2.2.2.2.2.2.2.2.2.2.2.2.2.2.2.2.2.2.2.2.2.2.1, .e (.i .i64) x.2.2.2.2.2.2.2.2.2.2.2.2.2.2.2.2.2.2.2.2.2.2.2.2.2.2.1, .e (.i .i64) x.2.2.2.2.2.2.2.2.2.2.2.2.2.2.2.2.2.2.2.2.2.2.2.2.2.2.2])], 100⟩
def w25u0 (σ : Sg) : (List ((List Int) × (Int × Int))) × Int × Int × Int × (List ((List Int) × (Int × Int))) × Int × Bool × (List ((List Int) × (Int × Int))) × Int × ((List Int) × (Int × Int)) × (List Int) × Int × Int × (List Int) × Int × Bool × Bool × Bool × Bool × Bool × Bool × Bool × Bool × Bool × Int × (List Int) × Int × Int := (lvT (.sl (.pr (.sl (.i .i64)) (.pr (.i .i64) (.i .i64)))) 0 0 σ, lvT (.i .i64) 2 0 σ, lvT (.i .i64) 3 0 σ, lvT (.i .i64) 10 0 σ, lvT (.sl (.pr (.sl (.i .i64)) (.pr (.i .i64) (.i .i64)))) 11 0 σ, lvT (.i .i64) 12 0 σ, lvT .bo 13 0 σ, lvT (.sl (.pr (.sl (.i .i64)) (.pr (.i .i64) (.i .i64)))) 16 0 σ, lvT (.i .i64) 17 0 σ, lvT (.pr (.sl (.i .i64)) (.pr (.i .i64) (.i .i64))) 18 0 σ, lvT (.sl (.i .i64)) 19 0 σ, lvT (.i .i64) 19 1 σ, lvT (.i .i64) 19 2 σ, lvT (.sl (.i .i64)) 21 0 σ, lvT (.i .i64) 22 0 σ, lvT .bo 23 0 σ, lvT .bo 24 0 σ, lvT .bo 28 0 σ, lvT .bo 29 0 σ, lvT .bo 33 0 σ, lvT .bo 34 0 σ, lvT .bo 38 0 σ, lvT .bo 39 0 σ, lvT .bo 43 0 σ, lvT (.i .i64) 5 0 σ, lvH (.sl (.i .i64)) 0 0 σ, lvH (.i .i64) 0 1 σ, lvH (.i .i64) 0 2 σ)
theorem w25ui0 : ∀ x, w25u0 (w25I0 x) = x := fun _ => by kernel_rfl
def w25X0_0 (y : Int) : Exit × Sg := (.ret, ⟨[(2, .e (.i .i64) y)], [], 100⟩)
def w25v0_0 (σ : Sg) : Int := lvT (.i .i64) 2 0 σ
def w25X0_1 (y : (List ((List Int) × (Int × Int))) × Int × Int × Int × (List ((List Int) × (Int × Int))) × Int × Bool × (List ((List Int) × (Int × Int))) × Int × ((List Int) × (Int × Int)) × (List Int) × Int × Int × (List Int) × Int × Bool × Bool × Bool × Bool × Bool × Bool × Bool × Bool × Bool × Int × Int × (List Int) × Int × Bool × (List Int) × Int × Int) : Exit × Sg := ((.exit 2), ⟨[(0, .e (.sl (.pr (.sl (.i .i64)) (.pr (.i .i64) (.i .i64)))) y.1), (2, .e (.i .i64) y.2.1), (3, .e (.i .i64) y.2.2.1), (10, .e (.i .i64) y.2.2.2.1), (11, .e (.sl (.pr (.sl (.i .i64)) (.pr (.i .i64) (.i .i64)))) y.2.2.2.2.1), (12, .e (.i .i64) y.2.2.2.2.2.1), (13, .e .bo y.2.2.2.2.2.2.1), (16, .e (.sl (.pr (.sl (.i .i64)) (.pr (.i .i64) (.i .i64)))) y.2.2.2.2.2.2.2.1), (17, .e (.i .i64) y.2.2.2.2.2.2.2.2.1), (18, .pt (.pr (.sl (.i .i64)) (.pr (.i .i64) (.i .i64))) y.2.2.2.2.2.2.2.2.2.1 0), (19, .agg [.e (.sl (.i .i64)) y.2.2.2.2.2.2.2.2.2.2.1, .e (.i .i64) y.2.2.2.2.2.2.2.2.2.2.2.1, .e (.i .i64) y.2.2.2.2.2.2.2.2.2.2.2.2.1]), (4, .ref 0 0), (20, .ref 0 0), (21, .e (.sl (.i .i64)) y.2.2.2.2.2.2.2.2.2.2.2.2.2.1), (22, .e (.i .i64) y.2.2.2.2.2.2.2.2.2.2.2.2.2.2.1), (23, .e .bo y.2.2.2.2.2.2.2.2.2.2.2.2.2.2.2.1), (24, .e .bo y.2.2.2.2.2.2.2.2.2.2.2.2.2.2.2.2.1), (28, .e .bo y.2.2.2.2.2.2.2.2.2.2.2.2.2.2.2.2.2.1), (29, .e .bo y.2.2.2.2.2.2.2.2.2.2.2.2.2.2.2.2.2.2.1), (33, .e .bo y.2.2.2.2.2.2.2.2.2.2.2.2.2.2.2.2.2.2.2.1), (34, .e .bo y.2.2.2.2.2.2.2.2.2.2.2.2.2.2.2.2.2.2.2.2.1), (38, .e .bo y.2.2.2.2.2.2.2.2.2.2.2.2.2.2.2.2.2.2.2.2.2.1), (39, .e .bo y.2.2.2.2.2.2.2.2.2.2.2.2.2.2.2.2.2.2.2.2.2.2.1), (43, .e .bo y.2.2.2.2.2.2.2.2.2.2.2.2.2.2.2.2.2.2.2.2.2.2.2.1), (5, .e (.i .i64) y.2.2.2.2.2.2.2.2.2.2.2.2.2.2.2.2.2.2.2.2.2.2.2.2.1), (44, .e (.i .i64) y.2.2.2.2.2.2.2.2.2.2.2.2.2.2.2.2.2.2.2.2.2.2.2.2.2.1), (45, .ref 0 0), (46, .e (.sl (.i .i64)) y.2.2.2.2.2.2.2.2.2.2.2.2.2.2.2.2.2.2.2.2.2.2.2.2.2.2.1), (47, .e (.i .i64) y.2.2.2.2.2.2.2.2.2.2.2.2.2.2.2.2.2.2.2.2.2.2.2.2.2.2.2.1), (48, .e .bo y.2.2.2.2.2.2.2.2.2.2.2.2.2.2.2.2.2.2.2.2.2.2.2.2.2.2.2.2.1)], [(0, .box 49 [.e (.sl (.i .i64)) y.2.2.2.2.2.2.2.2.2.2.2.2.2.2.2.2.2.2.2.2.2.2.2.2.2.2.2.2.2.1, .e (.i .i64) y.2.2.2.2.2.2.2.2.2.2.2.2.2.2.2.2.2.2.2.2.2.2.2.2.2.2.2.2.2.2.1, .e (.i .i64) y.2.2.2.2.2.2.2.2.2.2.2.2.2.2.2.2.2.2.2.2.2.2.2.2.2.2.2.2.2.2.2])], 100⟩)
def w25v0_1 (σ : Sg) : (List ((List Int) × (Int × Int))) × Int × Int × Int × (List ((List Int) × (Int × Int))) × Int × Bool × (List ((List Int) × (Int × Int))) × Int × ((List Int) × (Int × Int)) × (List Int) × Int × Int × (List Int) × Int × Bool × Bool × Bool × Bool × Bool × Bool × Bool × Bool × Bool × Int × Int × (List Int) × Int × Bool × (List Int) × Int × Int := (lvT (.sl (.pr (.sl (.i .i64)) (.pr (.i .i64) (.i .i64)))) 0 0 σ, lvT (.i .i64) 2 0 σ, lvT (.i .i64) 3 0 σ, lvT (.i .i64) 10 0 σ, lvT (.sl (.pr (.sl (.i .i64)) (.pr (.i .i64) (.i .i64)))) 11 0 σ, lvT (.i .i64) 12 0 σ, lvT .bo 13 0 σ, lvT (.sl (.pr (.sl (.i .i64)) (.pr (.i .i64) (.i .i64)))) 16 0 σ, lvT (.i .i64) 17 0 σ, lvT (.pr (.sl (.i .i64)) (.pr (.i .i64) (.i .i64))) 18 0 σ, lvT (.sl (.i .i64)) 19 0 σ, lvT (.i .i64) 19 1 σ, lvT (.i .i64) 19 2 σ, lvT (.sl (.i .i64)) 21 0 σ, lvT (.i .i64) 22 0 σ, lvT .bo 23 0 σ, lvT .bo 24 0 σ, lvT .bo 28 0 σ, lvT .bo 29 0 σ, lvT .bo 33 0 σ, lvT .bo 34 0 σ, lvT .bo 38 0 σ, lvT .bo 39 0 σ, lvT .bo 43 0 σ, lvT (.i .i64) 5 0 σ, lvT (.i .i64) 44 0 σ, lvT (.sl (.i .i64)) 46 0 σ, lvT (.i .i64) 47 0 σ, lvT .bo 48 0 σ, lvH (.sl (.i .i64)) 0 0 σ, lvH (.i .i64) 0 1 σ, lvH (.i .i64) 0 2 σ)
def w25w0 : List (Exit × Nm) := [(.ret, ⟨[2], [], []⟩), ((.exit 2), ⟨[0, 2, 3, 10, 11, 12, 13, 16, 17, 18, 19, 4, 20, 21, 22, 23, 24, 28, 29, 33, 34, 38, 39, 43, 5, 44, 45, 46, 47, 48], [], []⟩)]
theorem w25o0 : Outs w25v0_0 w25v0_1 (fun _ => ()) w25X0_0 w25X0_1 (noX 2) .ret (.exit 2) (.goto 2) := ⟨fun _ => by kernel_rfl, fun _ => by kernel_rfl, fun _ => by kernel_rfl, fun _ => by kernel_rfl, fun _ => by kernel_rfl, fun _ => by kernel_rfl, exNe_ok (by kernel_rfl), exNe_ok (by kernel_rfl), exNe_ok (by kernel_rfl)⟩
def w25l0 [Alg] (N : Nat) : Nat → ((List ((List Int) × (Int × Int))) × Int × Int × Int × (List ((List Int) × (Int × Int))) × Int × Bool × (List ((List Int) × (Int × Int))) × Int × ((List Int) × (Int × Int)) × (List Int) × Int × Int × (List Int) × Int × Bool × Bool × Bool × Bool × Bool × Bool × Bool × Bool × Bool × Int × (List Int) × Int × Int) → ((Int) → O) → (((List ((List Int) × (Int × Int))) × Int × Int × Int × (List ((List Int) × (Int × Int))) × Int × Bool × (List ((List Int) × (Int × Int))) × Int × ((List Int) × (Int × Int)) × (List Int) × Int × Int × (List Int) × Int × Bool × Bool × Bool × Bool × Bool × Bool × Bool × Bool × Bool × Int × Int × (List Int) × Int × Bool × (List Int) × Int × Int) → O) → ((Unit) → O) → O
 | 0, _, _, _, _ => none
 | n + 1, x, k0, k1, k2 => w25F0 N  (fun v0 => w25l0 N n (x.1, x.2.1, x.2.2.1, x.2.2.2.1, x.2.2.2.2.1, x.2.2.2.2.2.1, x.2.2.2.2.2.2.1, x.2.2.2.2.2.2.2.1, x.2.2.2.2.2.2.2.2.1, x.2.2.2.2.2.2.2.2.2.1, x.2.2.2.2.2.2.2.2.2.2.1, x.2.2.2.2.2.2.2.2.2.2.2.1, x.2.2.2.2.2.2.2.2.2.2.2.2.1, x.2.2.2.2.2.2.2.2.2.2.2.2.2.1, x.2.2.2.2.2.2.2.2.2.2.2.2.2.2.1, x.2.2.2.2.2.2.2.2.2.2.2.2.2.2.2.1, x.2.2.2.2.2.2.2.2.2.2.2.2.2.2.2.2.1, x.2.2.2.2.2.2.2.2.2.2.2.2.2.2.2.2.2.1, x.2.2.2.2.2.2.2.2.2.2.2.2.2.2.2.2.2.2.1, x.2.2.2.2.2.2.2.2.2.2.2.2.2.2.2.2.2.2.2.1, x.2.2.2.2.2.2.2.2.2.2.2.2.2.2.2.2.2.2.2.2.1, x.2.2.2.2.2.2.2.2.2.2.2.2.2.2.2.2.2.2.2.2.2.1, x.2.2.2.2.2.2.2.2.2.2.2.2.2.2.2.2.2.2.2.2.2.2.1, x.2.2.2.2.2.2.2.2.2.2.2.2.2.2.2.2.2.2.2.2.2.2.2.1, v0, x.2.2.2.2.2.2.2.2.2.2.2.2.2.2.2.2.2.2.2.2.2.2.2.2.2.1, x.2.2.2.2.2.2.2.2.2.2.2.2.2.2.2.2.2.2.2.2.2.2.2.2.2.2.1, x.2.2.2.2.2.2.2.2.2.2.2.2.2.2.2.2.2.2.2.2.2.2.2.2.2.2.2) k0 k1 k2) (fun y0 => k0 y0) (fun y0 y1 y2 y3 y4 y5 y6 y7 y8 y9 y10 y11 y12 y13 y14 y15 y16 y17 y18 y19 y20 y21 y22 y23 y24 y25 y26 y27 y28 y29 y30 y31 => k1 (y0, y1, y2, y3, y4, y5, y6, y7, y8, y9, y10, y11, y12, y13, y14, y15, y16, y17, y18, y19, y20, y21, y22, y23, y24, y25, y26, y27, y28, y29, y30, y31)) x.1 x.2.1 x.2.2.1 x.2.2.2.1 x.2.2.2.2.1 x.2.2.2.2.2.1 x.2.2.2.2.2.2.1 x.2.2.2.2.2.2.2.1 x.2.2.2.2.2.2.2.2.1 x.2.2.2.2.2.2.2.2.2.1 x.2.2.2.2.2.2.2.2.2.2.1 x.2.2.2.2.2.2.2.2.2.2.2.1 x.2.2.2.2.2.2.2.2.2.2.2.2.1 x.2.2.2.2.2.2.2.2.2.2.2.2.2.1 x.2.2.2.2.2.2.2.2.2.2.2.2.2.2.1 x.2.2.2.2.2.2.2.2.2.2.2.2.2.2.2.1 x.2.2.2.2.2.2.2.2.2.2.2.2.2.2.2.2.1 x.2.2.2.2.2.2.2.2.2.2.2.2.2.2.2.2.2.1 x.2.2.2.2.2.2.2.2.2.2.2.2.2.2.2.2.2.2.1 x.2.2.2.2.2.2.2.2.2.2.2.2.2.2.2.2.2.2.2.1 x.2.2.2.2.2.2.2.2.2.2.2.2.2.2.2.2.2.2.2.2.1 x.2.2.2.2.2.2.2.2.2.2.2.2.2.2.2.2.2.2.2.2.2.1 x.2.2.2.2.2.2.2.2.2.2.2.2.2.2.2.2.2.2.2.2.2.2.1 x.2.2.2.2.2.2.2.2.2.2.2.2.2.2.2.2.2.2.2.2.2.2.2.1 x.2.2.2.2.2.2.2.2.2.2.2.2.2.2.2.2.2.2.2.2.2.2.2.2.2.1 x.2.2.2.2.2.2.2.2.2.2.2.2.2.2.2.2.2.2.2.2.2.2.2.2.2.2.1 x.2.2.2.2.2.2.2.2.2.2.2.2.2.2.2.2.2.2.2.2.2.2.2.2.2.2.2 x.2.2.2.2.2.2.2.2.2.2.2.2.2.2.2.2.2.2.2.2.2.2.2.2.1
def w25n0 [Alg] (N : Nat) (a0 : (List ((List Int) × (Int × Int)))) (a1 : Int) (a2 : Int) (a3 : Int) (a4 : (List ((List Int) × (Int × Int)))) (a5 : Int) (a6 : Bool) (a7 : (List ((List Int) × (Int × Int)))) (a8 : Int) (a9 : ((List Int) × (Int × Int))) (a10 : (List Int)) (a11 : Int) (a12 : Int) (a13 : (List Int)) (a14 : Int) (a15 : Bool) (a16 : Bool) (a17 : Bool) (a18 : Bool) (a19 : Bool) (a20 : Bool) (a21 : Bool) (a22 : Bool) (a23 : Bool) (a24 : Int) (a25 : (List Int)) (a26 : Int) (a27 : Int) (k0 : Int → O) (k1 : (List ((List Int) × (Int × Int))) → Int → Int → Int → (List ((List Int) × (Int × Int))) → Int → Bool → (List ((List Int) × (Int × Int))) → Int → ((List Int) × (Int × Int)) → (List Int) → Int → Int → (List Int) → Int → Bool → Bool → Bool → Bool → Bool → Bool → Bool → Bool → Bool → Int → Int → (List Int) → Int → Bool → (List Int) → Int → Int → O) : O := w25l0 N N (a0, a1, a2, a3, a4, a5, a6, a7, a8, a9, a10, a11, a12, a13, a14, a15, a16, a17, a18, a19, a20, a21, a22, a23, a24, a25, a26, a27) (fun y => k0 y) (fun y => k1 y.1 y.2.1 y.2.2.1 y.2.2.2.1 y.2.2.2.2.1 y.2.2.2.2.2.1 y.2.2.2.2.2.2.1 y.2.2.2.2.2.2.2.1 y.2.2.2.2.2.2.2.2.1 y.2.2.2.2.2.2.2.2.2.1 y.2.2.2.2.2.2.2.2.2.2.1 y.2.2.2.2.2.2.2.2.2.2.2.1 y.2.2.2.2.2.2.2.2.2.2.2.2.1 y.2.2.2.2.2.2.2.2.2.2.2.2.2.1 y.2.2.2.2.2.2.2.2.2.2.2.2.2.2.1 y.2.2.2.2.2.2.2.2.2.2.2.2.2.2.2.1 y.2.2.2.2.2.2.2.2.2.2.2.2.2.2.2.2.1 y.2.2.2.2.2.2.2.2.2.2.2.2.2.2.2.2.2.1 y.2.2.2.2.2.2.2.2.2.2.2.2.2.2.2.2.2.2.1 y.2.2.2.2.2.2.2.2.2.2.2.2.2.2.2.2.2.2.2.1 y.2.2.2.2.2.2.2.2.2.2.2.2.2.2.2.2.2.2.2.2.1 y.2.2.2.2.2.2.2.2.2.2.2.2.2.2.2.2.2.2.2.2.2.1 y.2.2.2.2.2.2.2.2.2.2.2.2.2.2.2.2.2.2.2.2.2.2.1 y.2.2.2.2.2.2.2.2.2.2.2.2.2.2.2.2.2.2.2.2.2.2.2.1 y.2.2.2.2.2.2.2.2.2.2.2.2.2.2.2.2.2.2.2.2.2.2.2.2.1 y.2.2.2.2.2.2.2.2.2.2.2.2.2.2.2.2.2.2.2.2.2.2.2.2.2.1 y.2.2.2.2.2.2.2.2.2.2.2.2.2.2.2.2.2.2.2.2.2.2.2.2.2.2.1 y.2.2.2.2.2.2.2.2.2.2.2.2.2.2.2.2.2.2.2.2.2.2.2.2.2.2.2.1 y.2.2.2.2.2.2.2.2.2.2.2.2.2.2.2.2.2.2.2.2.2.2.2.2.2.2.2.2.1 y.2.2.2.2.2.2.2.2.2.2.2.2.2.2.2.2.2.2.2.2.2.2.2.2.2.2.2.2.2.1 y.2.2.2.2.2.2.2.2.2.2.2.2.2.2.2.2.2.2.2.2.2.2.2.2.2.2.2.2.2.2.1 y.2.2.2.2.2.2.2.2.2.2.2.2.2.2.2.2.2.2.2.2.2.2.2.2.2.2.2.2.2.2.2) (fun _ => none)
noncomputable def w25s0 [Alg] (N : Nat) (a0 : (List ((List Int) × (Int × Int)))) (a1 : Int) (a2 : Int) (a3 : Int) (a4 : (List ((List Int) × (Int × Int)))) (a5 : Int) (a6 : Bool) (a7 : (List ((List Int) × (Int × Int)))) (a8 : Int) (a9 : ((List Int) × (Int × Int))) (a10 : (List Int)) (a11 : Int) (a12 : Int) (a13 : (List Int)) (a14 : Int) (a15 : Bool) (a16 : Bool) (a17 : Bool) (a18 : Bool) (a19 : Bool) (a20 : Bool) (a21 : Bool) (a22 : Bool) (a23 : Bool) (a24 : Int) (a25 : (List Int)) (a26 : Int) (a27 : Int) (k0 : Int → O) (k1 : (List ((List Int) × (Int × Int))) → Int → Int → Int → (List ((List Int) × (Int × Int))) → Int → Bool → (List ((List Int) × (Int × Int))) → Int → ((List Int) × (Int × Int)) → (List Int) → Int → Int → (List Int) → Int → Bool → Bool → Bool → Bool → Bool → Bool → Bool → Bool → Bool → Int → Int → (List Int) → Int → Bool → (List Int) → Int → Int → O) : O := subL w25I0 w25u0 (w25l0 N N) (w25I0 (a0, a1, a2, a3, a4, a5, a6, a7, a8, a9, a10, a11, a12, a13, a14, a15, a16, a17, a18, a19, a20, a21, a22, a23, a24, a25, a26, a27)) (fun y => k0 y) (fun y => k1 y.1 y.2.1 y.2.2.1 y.2.2.2.1 y.2.2.2.2.1 y.2.2.2.2.2.1 y.2.2.2.2.2.2.1 y.2.2.2.2.2.2.2.1 y.2.2.2.2.2.2.2.2.1 y.2.2.2.2.2.2.2.2.2.1 y.2.2.2.2.2.2.2.2.2.2.1 y.2.2.2.2.2.2.2.2.2.2.2.1 y.2.2.2.2.2.2.2.2.2.2.2.2.1 y.2.2.2.2.2.2.2.2.2.2.2.2.2.1 y.2.2.2.2.2.2.2.2.2.2.2.2.2.2.1 y.2.2.2.2.2.2.2.2.2.2.2.2.2.2.2.1 y.2.2.2.2.2.2.2.2.2.2.2.2.2.2.2.2.1 y.2.2.2.2.2.2.2.2.2.2.2.2.2.2.2.2.2.1 y.2.2.2.2.2.2.2.2.2.2.2.2.2.2.2.2.2.2.1 y.2.2.2.2.2.2.2.2.2.2.2.2.2.2.2.2.2.2.2.1 y.2.2.2.2.2.2.2.2.2.2.2.2.2.2.2.2.2.2.2.2.1 y.2.2.2.2.2.2.2.2.2.2.2.2.2.2.2.2.2.2.2.2.2.1 y.2.2.2.2.2.2.2.2.2.2.2.2.2.2.2.2.2.2.2.2.2.2.1 y.2.2.2.2.2.2.2.2.2.2.2.2.2.2.2.2.2.2.2.2.2.2.2.1 y.2.2.2.2.2.2.2.2.2.2.2.2.2.2.2.2.2.2.2.2.2.2.2.2.1 y.2.2.2.2.2.2.2.2.2.2.2.2.2.2.2.2.2.2.2.2.2.2.2.2.2.1 y.2.2.2.2.2.2.2.2.2.2.2.2.2.2.2.2.2.2.2.2.2.2.2.2.2.2.1 y.2.2.2.2.2.2.2.2.2.2.2.2.2.2.2.2.2.2.2.2.2.2.2.2.2.2.2.1 y.2.2.2.2.2.2.2.2.2.2.2.2.2.2.2.2.2.2.2.2.2.2.2.2.2.2.2.2.1 y.2.2.2.2.2.2.2.2.2.2.2.2.2.2.2.2.2.2.2.2.2.2.2.2.2.2.2.2.2.1 y.2.2.2.2.2.2.2.2.2.2.2.2.2.2.2.2.2.2.2.2.2.2.2.2.2.2.2.2.2.2.1 y.2.2.2.2.2.2.2.2.2.2.2.2.2.2.2.2.2.2.2.2.2.2.2.2.2.2.2.2.2.2.2) (fun _ => none)
theorem w25e0 [Alg] (N : Nat) : w25s0 N = w25n0 N := funext fun _ => funext fun _ => funext fun _ => funext fun _ => funext fun _ => funext fun _ => funext fun _ => funext fun _ => funext fun _ => funext fun _ => funext fun _ => funext fun _ => funext fun _ => funext fun _ => funext fun _ => funext fun _ => funext fun _ => funext fun _ => funext fun _ => funext fun _ => funext fun _ => funext fun _ => funext fun _ => funext fun _ => funext fun _ => funext fun _ => funext fun _ => funext fun _ => funext fun _ => funext fun _ => subL_I w25ui0 _ _ _ _
noncomputable def w25h0 [Alg] (_ : Nat) : Hint := .d
theorem w25hk0 (N : Nat) : HintOk (w25c N) Tryd.f25.ntmps (w25h0 N) w25b0 := hk_of _ _ trivial
theorem w25q0 [Alg] (N : Nat) (self : Sg → O) (K : Exit → Sg → O) (x : (List ((List Int) × (Int × Int))) × Int × Int × Int × (List ((List Int) × (Int × Int))) × Int × Bool × (List ((List Int) × (Int × Int))) × Int × ((List Int) × (Int × Int)) × (List Int) × Int × Int × (List Int) × Int × Bool × Bool × Bool × Bool × Bool × Bool × Bool × Bool × Bool × Int × (List Int) × Int × Int) : w25F0 N  (fun v0 => self (w25I0 (x.1, x.2.1, x.2.2.1, x.2.2.2.1, x.2.2.2.2.1, x.2.2.2.2.2.1, x.2.2.2.2.2.2.1, x.2.2.2.2.2.2.2.1, x.2.2.2.2.2.2.2.2.1, x.2.2.2.2.2.2.2.2.2.1, x.2.2.2.2.2.2.2.2.2.2.1, x.2.2.2.2.2.2.2.2.2.2.2.1, x.2.2.2.2.2.2.2.2.2.2.2.2.1, x.2.2.2.2.2.2.2.2.2.2.2.2.2.1, x.2.2.2.2.2.2.2.2.2.2.2.2.2.2.1, x.2.2.2.2.2.2.2.2.2.2.2.2.2.2.2.1, x.2.2.2.2.2.2.2.2.2.2.2.2.2.2.2.2.1, x.2.2.2.2.2.2.2.2.2.2.2.2.2.2.2.2.2.1, x.2.2.2.2.2.2.2.2.2.2.2.2.2.2.2.2.2.2.1, x.2.2.2.2.2.2.2.2.2.2.2.2.2.2.2.2.2.2.2.1, x.2.2.2.2.2.2.2.2.2.2.2.2.2.2.2.2.2.2.2.2.1, x.2.2.2.2.2.2.2.2.2.2.2.2.2.2.2.2.2.2.2.2.2.1, x.2.2.2.2.2.2.2.2.2.2.2.2.2.2.2.2.2.2.2.2.2.2.1, x.2.2.2.2.2.2.2.2.2.2.2.2.2.2.2.2.2.2.2.2.2.2.2.1, v0, x.2.2.2.2.2.2.2.2.2.2.2.2.2.2.2.2.2.2.2.2.2.2.2.2.2.1, x.2.2.2.2.2.2.2.2.2.2.2.2.2.2.2.2.2.2.2.2.2.2.2.2.2.2.1, x.2.2.2.2.2.2.2.2.2.2.2.2.2.2.2.2.2.2.2.2.2.2.2.2.2.2.2))) (fun y0 => K (w25X0_0 y0).1 (w25X0_0 y0).2) (fun y0 y1 y2 y3 y4 y5 y6 y7 y8 y9 y10 y11 y12 y13 y14 y15 y16 y17 y18 y19 y20 y21 y22 y23 y24 y25 y26 y27 y28 y29 y30 y31 => K (w25X0_1 (y0, y1, y2, y3, y4, y5, y6, y7, y8, y9, y10, y11, y12, y13, y14, y15, y16, y17, y18, y19, y20, y21, y22, y23, y24, y25, y26, y27, y28, y29, y30, y31)).1 (w25X0_1 (y0, y1, y2, y3, y4, y5, y6, y7, y8, y9, y10, y11, y12, y13, y14, y15, y16, y17, y18, y19, y20, y21, y22, y23, y24, y25, y26, y27, y28, y29, y30, y31)).2) x.1 x.2.1 x.2.2.1 x.2.2.2.1 x.2.2.2.2.1 x.2.2.2.2.2.1 x.2.2.2.2.2.2.1 x.2.2.2.2.2.2.2.1 x.2.2.2.2.2.2.2.2.1 x.2.2.2.2.2.2.2.2.2.1 x.2.2.2.2.2.2.2.2.2.2.1 x.2.2.2.2.2.2.2.2.2.2.2.1 x.2.2.2.2.2.2.2.2.2.2.2.2.1 x.2.2.2.2.2.2.2.2.2.2.2.2.2.1 x.2.2.2.2.2.2.2.2.2.2.2.2.2.2.1 x.2.2.2.2.2.2.2.2.2.2.2.2.2.2.2.1 x.2.2.2.2.2.2.2.2.2.2.2.2.2.2.2.2.1 x.2.2.2.2.2.2.2.2.2.2.2.2.2.2.2.2.2.1 x.2.2.2.2.2.2.2.2.2.2.2.2.2.2.2.2.2.2.1 x.2.2.2.2.2.2.2.2.2.2.2.2.2.2.2.2.2.2.2.1 x.2.2.2.2.2.2.2.2.2.2.2.2.2.2.2.2.2.2.2.2.1 x.2.2.2.2.2.2.2.2.2.2.2.2.2.2.2.2.2.2.2.2.2.1 x.2.2.2.2.2.2.2.2.2.2.2.2.2.2.2.2.2.2.2.2.2.2.1 x.2.2.2.2.2.2.2.2.2.2.2.2.2.2.2.2.2.2.2.2.2.2.2.1 x.2.2.2.2.2.2.2.2.2.2.2.2.2.2.2.2.2.2.2.2.2.2.2.2.2.1 x.2.2.2.2.2.2.2.2.2.2.2.2.2.2.2.2.2.2.2.2.2.2.2.2.2.2.1 x.2.2.2.2.2.2.2.2.2.2.2.2.2.2.2.2.2.2.2.2.2.2.2.2.2.2.2 x.2.2.2.2.2.2.2.2.2.2.2.2.2.2.2.2.2.2.2.2.2.2.2.2.1 = exec (w25c N) Tryd.f25.ntmps (w25h0 N) w25b0 (w25I0 x) (roundX w25m0 w25w0 self K) := by kernel_rfl
theorem w25S0 (N : Nat) (hc : CxOk (w25c N)) : SubOk (w25c N) Tryd.f25.ntmps (.loop w25b0) w25X0_0 w25X0_1 (noX 2) (subL w25I0 w25u0 (w25l0 N N)) :=
 sub_loop hc (w25hk0 N) w25o0 (n := N) (fun x K => loop_ind (w25l0 N) (fun _ _ _ _ => rfl) (fun n K ih x => by
  have h : w25F0 N  (fun v0 => w25l0 N n (x.1, x.2.1, x.2.2.1, x.2.2.2.1, x.2.2.2.2.1, x.2.2.2.2.2.1, x.2.2.2.2.2.2.1, x.2.2.2.2.2.2.2.1, x.2.2.2.2.2.2.2.2.1, x.2.2.2.2.2.2.2.2.2.1, x.2.2.2.2.2.2.2.2.2.2.1, x.2.2.2.2.2.2.2.2.2.2.2.1, x.2.2.2.2.2.2.2.2.2.2.2.2.1, x.2.2.2.2.2.2.2.2.2.2.2.2.2.1, x.2.2.2.2.2.2.2.2.2.2.2.2.2.2.1, x.2.2.2.2.2.2.2.2.2.2.2.2.2.2.2.1, x.2.2.2.2.2.2.2.2.2.2.2.2.2.2.2.2.1, x.2.2.2.2.2.2.2.2.2.2.2.2.2.2.2.2.2.1, x.2.2.2.2.2.2.2.2.2.2.2.2.2.2.2.2.2.2.1, x.2.2.2.2.2.2.2.2.2.2.2.2.2.2.2.2.2.2.2.1, x.2.2.2.2.2.2.2.2.2.2.2.2.2.2.2.2.2.2.2.2.1, x.2.2.2.2.2.2.2.2.2.2.2.2.2.2.2.2.2.2.2.2.2.1, x.2.2.2.2.2.2.2.2.2.2.2.2.2.2.2.2.2.2.2.2.2.2.1, x.2.2.2.2.2.2.2.2.2.2.2.2.2.2.2.2.2.2.2.2.2.2.2.1, v0, x.2.2.2.2.2.2.2.2.2.2.2.2.2.2.2.2.2.2.2.2.2.2.2.2.2.1, x.2.2.2.2.2.2.2.2.2.2.2.2.2.2.2.2.2.2.2.2.2.2.2.2.2.2.1, x.2.2.2.2.2.2.2.2.2.2.2.2.2.2.2.2.2.2.2.2.2.2.2.2.2.2.2) (fun y => K (w25X0_0 y).1 (w25X0_0 y).2) (fun y => K (w25X0_1 y).1 (w25X0_1 y).2) (fun y => K ((noX 2) y).1 ((noX 2) y).2)) (fun y0 => K (w25X0_0 y0).1 (w25X0_0 y0).2) (fun y0 y1 y2 y3 y4 y5 y6 y7 y8 y9 y10 y11 y12 y13 y14 y15 y16 y17 y18 y19 y20 y21 y22 y23 y24 y25 y26 y27 y28 y29 y30 y31 => K (w25X0_1 (y0, y1, y2, y3, y4, y5, y6, y7, y8, y9, y10, y11, y12, y13, y14, y15, y16, y17, y18, y19, y20, y21, y22, y23, y24, y25, y26, y27, y28, y29, y30, y31)).1 (w25X0_1 (y0, y1, y2, y3, y4, y5, y6, y7, y8, y9, y10, y11, y12, y13, y14, y15, y16, y17, y18, y19, y20, y21, y22, y23, y24, y25, y26, y27, y28, y29, y30, y31)).2) x.1 x.2.1 x.2.2.1 x.2.2.2.1 x.2.2.2.2.1 x.2.2.2.2.2.1 x.2.2.2.2.2.2.1 x.2.2.2.2.2.2.2.1 x.2.2.2.2.2.2.2.2.1 x.2.2.2.2.2.2.2.2.2.1 x.2.2.2.2.2.2.2.2.2.2.1 x.2.2.2.2.2.2.2.2.2.2.2.1 x.2.2.2.2.2.2.2.2.2.2.2.2.1 x.2.2.2.2.2.2.2.2.2.2.2.2.2.1 x.2.2.2.2.2.2.2.2.2.2.2.2.2.2.1 x.2.2.2.2.2.2.2.2.2.2.2.2.2.2.2.1 x.2.2.2.2.2.2.2.2.2.2.2.2.2.2.2.2.1 x.2.2.2.2.2.2.2.2.2.2.2.2.2.2.2.2.2.1 x.2.2.2.2.2.2.2.2.2.2.2.2.2.2.2.2.2.2.1 x.2.2.2.2.2.2.2.2.2.2.2.2.2.2.2.2.2.2.2.1 x.2.2.2.2.2.2.2.2.2.2.2.2.2.2.2.2.2.2.2.2.1 x.2.2.2.2.2.2.2.2.2.2.2.2.2.2.2.2.2.2.2.2.2.1 x.2.2.2.2.2.2.2.2.2.2.2.2.2.2.2.2.2.2.2.2.2.2.1 x.2.2.2.2.2.2.2.2.2.2.2.2.2.2.2.2.2.2.2.2.2.2.2.1 x.2.2.2.2.2.2.2.2.2.2.2.2.2.2.2.2.2.2.2.2.2.2.2.2.2.1 x.2.2.2.2.2.2.2.2.2.2.2.2.2.2.2.2.2.2.2.2.2.2.2.2.2.2.1 x.2.2.2.2.2.2.2.2.2.2.2.2.2.2.2.2.2.2.2.2.2.2.2.2.2.2.2 x.2.2.2.2.2.2.2.2.2.2.2.2.2.2.2.2.2.2.2.2.2.2.2.2.1 = w25F0 N  (fun v0 => loopX (w25c N) Tryd.f25.ntmps (w25h0 N) w25b0 w25m0 w25w0 n (w25I0 (x.1, x.2.1, x.2.2.1, x.2.2.2.1, x.2.2.2.2.1, x.2.2.2.2.2.1, x.2.2.2.2.2.2.1, x.2.2.2.2.2.2.2.1, x.2.2.2.2.2.2.2.2.1, x.2.2.2.2.2.2.2.2.2.1, x.2.2.2.2.2.2.2.2.2.2.1, x.2.2.2.2.2.2.2.2.2.2.2.1, x.2.2.2.2.2.2.2.2.2.2.2.2.1, x.2.2.2.2.2.2.2.2.2.2.2.2.2.1, x.2.2.2.2.2.2.2.2.2.2.2.2.2.2.1, x.2.2.2.2.2.2.2.2.2.2.2.2.2.2.2.1, x.2.2.2.2.2.2.2.2.2.2.2.2.2.2.2.2.1, x.2.2.2.2.2.2.2.2.2.2.2.2.2.2.2.2.2.1, x.2.2.2.2.2.2.2.2.2.2.2.2.2.2.2.2.2.2.1, x.2.2.2.2.2.2.2.2.2.2.2.2.2.2.2.2.2.2.2.1, x.2.2.2.2.2.2.2.2.2.2.2.2.2.2.2.2.2.2.2.2.1, x.2.2.2.2.2.2.2.2.2.2.2.2.2.2.2.2.2.2.2.2.2.1, x.2.2.2.2.2.2.2.2.2.2.2.2.2.2.2.2.2.2.2.2.2.2.1, x.2.2.2.2.2.2.2.2.2.2.2.2.2.2.2.2.2.2.2.2.2.2.2.1, v0, x.2.2.2.2.2.2.2.2.2.2.2.2.2.2.2.2.2.2.2.2.2.2.2.2.2.1, x.2.2.2.2.2.2.2.2.2.2.2.2.2.2.2.2.2.2.2.2.2.2.2.2.2.2.1, x.2.2.2.2.2.2.2.2.2.2.2.2.2.2.2.2.2.2.2.2.2.2.2.2.2.2.2)) K) (fun y0 => K (w25X0_0 y0).1 (w25X0_0 y0).2) (fun y0 y1 y2 y3 y4 y5 y6 y7 y8 y9 y10 y11 y12 y13 y14 y15 y16 y17 y18 y19 y20 y21 y22 y23 y24 y25 y26 y27 y28 y29 y30 y31 => K (w25X0_1 (y0, y1, y2, y3, y4, y5, y6, y7, y8, y9, y10, y11, y12, y13, y14, y15, y16, y17, y18, y19, y20, y21, y22, y23, y24, y25, y26, y27, y28, y29, y30, y31)).1 (w25X0_1 (y0, y1, y2, y3, y4, y5, y6, y7, y8, y9, y10, y11, y12, y13, y14, y15, y16, y17, y18, y19, y20, y21, y22, y23, y24, y25, y26, y27, y28, y29, y30, y31)).2) x.1 x.2.1 x.2.2.1 x.2.2.2.1 x.2.2.2.2.1 x.2.2.2.2.2.1 x.2.2.2.2.2.2.1 x.2.2.2.2.2.2.2.1 x.2.2.2.2.2.2.2.2.1 x.2.2.2.2.2.2.2.2.2.1 x.2.2.2.2.2.2.2.2.2.2.1 x.2.2.2.2.2.2.2.2.2.2.2.1 x.2.2.2.2.2.2.2.2.2.2.2.2.1 x.2.2.2.2.2.2.2.2.2.2.2.2.2.1 x.2.2.2.2.2.2.2.2.2.2.2.2.2.2.1 x.2.2.2.2.2.2.2.2.2.2.2.2.2.2.2.1 x.2.2.2.2.2.2.2.2.2.2.2.2.2.2.2.2.1 x.2.2.2.2.2.2.2.2.2.2.2.2.2.2.2.2.2.1 x.2.2.2.2.2.2.2.2.2.2.2.2.2.2.2.2.2.2.1 x.2.2.2.2.2.2.2.2.2.2.2.2.2.2.2.2.2.2.2.1 x.2.2.2.2.2.2.2.2.2.2.2.2.2.2.2.2.2.2.2.2.1 x.2.2.2.2.2.2.2.2.2.2.2.2.2.2.2.2.2.2.2.2.2.1 x.2.2.2.2.2.2.2.2.2.2.2.2.2.2.2.2.2.2.2.2.2.2.1 x.2.2.2.2.2.2.2.2.2.2.2.2.2.2.2.2.2.2.2.2.2.2.2.1 x.2.2.2.2.2.2.2.2.2.2.2.2.2.2.2.2.2.2.2.2.2.2.2.2.2.1 x.2.2.2.2.2.2.2.2.2.2.2.2.2.2.2.2.2.2.2.2.2.2.2.2.2.2.1 x.2.2.2.2.2.2.2.2.2.2.2.2.2.2.2.2.2.2.2.2.2.2.2.2.2.2.2 x.2.2.2.2.2.2.2.2.2.2.2.2.2.2.2.2.2.2.2.2.2.2.2.2.1 := by rw [ show (fun v0 => w25l0 N n (x.1, x.2.1, x.2.2.1, x.2.2.2.1, x.2.2.2.2.1, x.2.2.2.2.2.1, x.2.2.2.2.2.2.1, x.2.2.2.2.2.2.2.1, x.2.2.2.2.2.2.2.2.1, x.2.2.2.2.2.2.2.2.2.1, x.2.2.2.2.2.2.2.2.2.2.1, x.2.2.2.2.2.2.2.2.2.2.2.1, x.2.2.2.2.2.2.2.2.2.2.2.2.1, x.2.2.2.2.2.2.2.2.2.2.2.2.2.1, x.2.2.2.2.2.2.2.2.2.2.2.2.2.2.1, x.2.2.2.2.2.2.2.2.2.2.2.2.2.2.2.1, x.2.2.2.2.2.2.2.2.2.2.2.2.2.2.2.2.1, x.2.2.2.2.2.2.2.2.2.2.2.2.2.2.2.2.2.1, x.2.2.2.2.2.2.2.2.2.2.2.2.2.2.2.2.2.2.1, x.2.2.2.2.2.2.2.2.2.2.2.2.2.2.2.2.2.2.2.1, x.2.2.2.2.2.2.2.2.2.2.2.2.2.2.2.2.2.2.2.2.1, x.2.2.2.2.2.2.2.2.2.2.2.2.2.2.2.2.2.2.2.2.2.1, x.2.2.2.2.2.2.2.2.2.2.2.2.2.2.2.2.2.2.2.2.2.2.1, x.2.2.2.2.2.2.2.2.2.2.2.2.2.2.2.2.2.2.2.2.2.2.2.1, v0, x.2.2.2.2.2.2.2.2.2.2.2.2.2.2.2.2.2.2.2.2.2.2.2.2.2.1, x.2.2.2.2.2.2.2.2.2.2.2.2.2.2.2.2.2.2.2.2.2.2.2.2.2.2.1, x.2.2.2.2.2.2.2.2.2.2.2.2.2.2.2.2.2.2.2.2.2.2.2.2.2.2.2) (fun y => K (w25X0_0 y).1 (w25X0_0 y).2) (fun y => K (w25X0_1 y).1 (w25X0_1 y).2) (fun y => K ((noX 2) y).1 ((noX 2) y).2)) = (fun v0 => loopX (w25c N) Tryd.f25.ntmps (w25h0 N) w25b0 w25m0 w25w0 n (w25I0 (x.1, x.2.1, x.2.2.1, x.2.2.2.1, x.2.2.2.2.1, x.2.2.2.2.2.1, x.2.2.2.2.2.2.1, x.2.2.2.2.2.2.2.1, x.2.2.2.2.2.2.2.2.1, x.2.2.2.2.2.2.2.2.2.1, x.2.2.2.2.2.2.2.2.2.2.1, x.2.2.2.2.2.2.2.2.2.2.2.1, x.2.2.2.2.2.2.2.2.2.2.2.2.1, x.2.2.2.2.2.2.2.2.2.2.2.2.2.1, x.2.2.2.2.2.2.2.2.2.2.2.2.2.2.1, x.2.2.2.2.2.2.2.2.2.2.2.2.2.2.2.1, x.2.2.2.2.2.2.2.2.2.2.2.2.2.2.2.2.1, x.2.2.2.2.2.2.2.2.2.2.2.2.2.2.2.2.2.1, x.2.2.2.2.2.2.2.2.2.2.2.2.2.2.2.2.2.2.1, x.2.2.2.2.2.2.2.2.2.2.2.2.2.2.2.2.2.2.2.1, x.2.2.2.2.2.2.2.2.2.2.2.2.2.2.2.2.2.2.2.2.1, x.2.2.2.2.2.2.2.2.2.2.2.2.2.2.2.2.2.2.2.2.2.1, x.2.2.2.2.2.2.2.2.2.2.2.2.2.2.2.2.2.2.2.2.2.2.1, x.2.2.2.2.2.2.2.2.2.2.2.2.2.2.2.2.2.2.2.2.2.2.2.1, v0, x.2.2.2.2.2.2.2.2.2.2.2.2.2.2.2.2.2.2.2.2.2.2.2.2.2.1, x.2.2.2.2.2.2.2.2.2.2.2.2.2.2.2.2.2.2.2.2.2.2.2.2.2.2.1, x.2.2.2.2.2.2.2.2.2.2.2.2.2.2.2.2.2.2.2.2.2.2.2.2.2.2.2)) K) from funext fun _ => ih _]
  exact h.trans (w25q0 N (fun σ => loopX (w25c N) Tryd.f25.ntmps (w25h0 N) w25b0 w25m0 w25w0 n σ K) K x)) N x K)
def w25F1 [Alg] (_ : Nat) (in0 : (List ((List Int) × (Int × Int))) → Int → Int → Int → (List ((List Int) × (Int × Int))) → Int → Bool → (List ((List Int) × (Int × Int))) → Int → ((List Int) × (Int × Int)) → (List Int) → Int → Int → (List Int) → Int → Bool → Bool → Bool → Bool → Bool → Bool → Bool → Bool → Bool → Int → (List Int) → Int → Int → (Int → O) → ((List ((List Int) × (Int × Int))) → Int → Int → Int → (List ((List Int) × (Int × Int))) → Int → Bool → (List ((List Int) × (Int × Int))) → Int → ((List Int) × (Int × Int)) → (List Int) → Int → Int → (List Int) → Int → Bool → Bool → Bool → Bool → Bool → Bool → Bool → Bool → Bool → Int → Int → (List Int) → Int → Bool → (List Int) → Int → Int → O) → O) (self : (List ((List Int) × (Int × Int))) → Int → Int → O) (k0 : Int → O) (k1 : Int → O) (x0_0 : (List ((List Int) × (Int × Int)))) (x0_1 : Int) (x0_2 : Int) : O :=
 br (decide (x0_2 < (↑x0_0.length : Int)))
  (gx x0_0 x0_2 fun y83 =>
  br (decide ((8 : Int) < (↑y83.1.length : Int)) || decide (y83.2.1 < (0 : Int)) || decide ((2 : Int) < y83.2.1) || decide (y83.2.2 < (-10000 : Int)) || decide ((9999 : Int) < y83.2.2))
   (k0 ((1 : Int)))
   (in0 x0_0 x0_1 x0_2 x0_2 x0_0 ((↑x0_0.length : Int)) (decide (x0_2 < (↑x0_0.length : Int))) x0_0 x0_2 y83 y83.1 y83.2.1 y83.2.2 y83.1 ((↑y83.1.length : Int)) (decide ((8 : Int) < (↑y83.1.length : Int))) (decide ((8 : Int) < (↑y83.1.length : Int))) (decide ((8 : Int) < (↑y83.1.length : Int)) || decide (y83.2.1 < (0 : Int))) (decide ((8 : Int) < (↑y83.1.length : Int)) || decide (y83.2.1 < (0 : Int))) (decide ((8 : Int) < (↑y83.1.length : Int)) || decide (y83.2.1 < (0 : Int)) || decide ((2 : Int) < y83.2.1)) (decide ((8 : Int) < (↑y83.1.length : Int)) || decide (y83.2.1 < (0 : Int)) || decide ((2 : Int) < y83.2.1)) (decide ((8 : Int) < (↑y83.1.length : Int)) || decide (y83.2.1 < (0 : Int)) || decide ((2 : Int) < y83.2.1) || decide (y83.2.2 < (-10000 : Int))) (decide ((8 : Int) < (↑y83.1.length : Int)) || decide (y83.2.1 < (0 : Int)) || decide ((2 : Int) < y83.2.1) || decide (y83.2.2 < (-10000 : Int))) (decide ((8 : Int) < (↑y83.1.length : Int)) || decide (y83.2.1 < (0 : Int)) || decide ((2 : Int) < y83.2.1) || decide (y83.2.2 < (-10000 : Int)) || decide ((9999 : Int) < y83.2.2)) ((0 : Int)) y83.1 y83.2.1 y83.2.2
    (fun z91 =>
     k0 z91)
    (fun z92 z93 z94 _ _ _ _ _ _ _ _ _ _ _ _ _ _ _ _ _ _ _ _ _ _ _ _ _ _ _ _ _ =>
     self z92 z93 (IntKind.i64.wrap (z94 + (1 : Int))))))
  (k1 x0_1)
noncomputable def w25b1 : Code := atC [1, 1, 0, 1, 0, 0] w25b
def w25m1 : Nm := ⟨[0, 2, 3], [], []⟩
def w25I1 (x : (List ((List Int) × (Int × Int))) × Int × Int) : Sg := ⟨[(0, .e (.sl (.pr (.sl (.i .i64)) (.pr (.i .i64) (.i .i64)))) x.1), (2, .e (.i .i64) x.2.1), (3, .e (.i .i64) x.2.2)], [], 100⟩
def w25u1 (σ : Sg) : (List ((List Int) × (Int × Int))) × Int × Int := (lvT (.sl (.pr (.sl (.i .i64)) (.pr (.i .i64) (.i .i64)))) 0 0 σ, lvT (.i .i64) 2 0 σ, lvT (.i .i64) 3 0 σ)
theorem w25ui1 : ∀ x, w25u1 (w25I1 x) = x := fun _ => by kernel_rfl
def w25X1_0 (y : Int) : Exit × Sg := (.ret, ⟨[(2, .e (.i .i64) y)], [], 100⟩)
def w25v1_0 (σ : Sg) : Int := lvT (.i .i64) 2 0 σ
def w25X1_1 (y : Int) : Exit × Sg := ((.exit 0), ⟨[(2, .e (.i .i64) y)], [], 100⟩)
def w25v1_1 (σ : Sg) : Int := lvT (.i .i64) 2 0 σ
def w25w1 : List (Exit × Nm) := [(.ret, ⟨[2], [], []⟩), ((.exit 0), ⟨[2], [], []⟩)]
theorem w25o1 : Outs w25v1_0 w25v1_1 (fun _ => ()) w25X1_0 w25X1_1 (noX 2) .ret (.exit 0) (.goto 2) := ⟨fun _ => by kernel_rfl, fun _ => by kernel_rfl, fun _ => by kernel_rfl, fun _ => by kernel_rfl, fun _ => by kernel_rfl, fun _ => by kernel_rfl, exNe_ok (by kernel_rfl), exNe_ok (by kernel_rfl), exNe_ok (by kernel_rfl)⟩
def w25l1 [Alg] (N : Nat) : Nat → ((List ((List Int) × (Int × Int))) × Int × Int) → ((Int) → O) → ((Int) → O) → ((Unit) → O) → O
 | 0, _, _, _, _ => none
 | n + 1, x, k0, k1, k2 => w25F1 N (w25n0 N) (fun v0 v1 v2 => w25l1 N n (v0, v1, v2) k0 k1 k2) (fun y0 => k0 y0) (fun y0 => k1 y0) x.1 x.2.1 x.2.2
def w25n1 [Alg] (N : Nat) (a0 : (List ((List Int) × (Int × Int)))) (a1 : Int) (a2 : Int) (k0 : Int → O) (k1 : Int → O) : O := w25l1 N N (a0, a1, a2) (fun y => k0 y) (fun y => k1 y) (fun _ => none)
noncomputable def w25s1 [Alg] (N : Nat) (a0 : (List ((List Int) × (Int × Int)))) (a1 : Int) (a2 : Int) (k0 : Int → O) (k1 : Int → O) : O := subL w25I1 w25u1 (w25l1 N N) (w25I1 (a0, a1, a2)) (fun y => k0 y) (fun y => k1 y) (fun _ => none)
theorem w25e1 [Alg] (N : Nat) : w25s1 N = w25n1 N := funext fun _ => funext fun _ => funext fun _ => funext fun _ => funext fun _ => subL_I w25ui1 _ _ _ _
noncomputable def w25h1 [Alg] (N : Nat) : Hint := (.seq .d (.seq (.block (.seq .d (.seq .d (.seq .d (.block (.sub w25m0 _ _ _ w25X0_0 w25X0_1 (noX 2) (subL w25I0 w25u0 (w25l0 N N)))))))) .d))
theorem w25hk1 (N : Nat) (hc : CxOk (w25c N)) : HintOk (w25c N) Tryd.f25.ntmps (w25h1 N) w25b1 := hk_of _ _ (And.intro trivial (And.intro (And.intro trivial (And.intro trivial (And.intro trivial (w25S0 N hc)))) trivial))
theorem w25q1 [Alg] (N : Nat) (self : Sg → O) (K : Exit → Sg → O) (x : (List ((List Int) × (Int × Int))) × Int × Int) : w25F1 N (w25s0 N) (fun v0 v1 v2 => self (w25I1 (v0, v1, v2))) (fun y0 => K (w25X1_0 y0).1 (w25X1_0 y0).2) (fun y0 => K (w25X1_1 y0).1 (w25X1_1 y0).2) x.1 x.2.1 x.2.2 = exec (w25c N) Tryd.f25.ntmps (w25h1 N) w25b1 (w25I1 x) (roundX w25m1 w25w1 self K) := by kernel_rfl
theorem w25S1 (N : Nat) (hc : CxOk (w25c N)) : SubOk (w25c N) Tryd.f25.ntmps (.loop w25b1) w25X1_0 w25X1_1 (noX 2) (subL w25I1 w25u1 (w25l1 N N)) :=
 sub_loop hc (w25hk1 N hc) w25o1 (n := N) (fun x K => loop_ind (w25l1 N) (fun _ _ _ _ => rfl) (fun n K ih x => by
  have h : w25F1 N (w25n0 N) (fun v0 v1 v2 => w25l1 N n (v0, v1, v2) (fun y => K (w25X1_0 y).1 (w25X1_0 y).2) (fun y => K (w25X1_1 y).1 (w25X1_1 y).2) (fun y => K ((noX 2) y).1 ((noX 2) y).2)) (fun y0 => K (w25X1_0 y0).1 (w25X1_0 y0).2) (fun y0 => K (w25X1_1 y0).1 (w25X1_1 y0).2) x.1 x.2.1 x.2.2 = w25F1 N (w25s0 N) (fun v0 v1 v2 => loopX (w25c N) Tryd.f25.ntmps (w25h1 N) w25b1 w25m1 w25w1 n (w25I1 (v0, v1, v2)) K) (fun y0 => K (w25X1_0 y0).1 (w25X1_0 y0).2) (fun y0 => K (w25X1_1 y0).1 (w25X1_1 y0).2) x.1 x.2.1 x.2.2 := by rw [w25e0 N, show (fun v0 v1 v2 => w25l1 N n (v0, v1, v2) (fun y => K (w25X1_0 y).1 (w25X1_0 y).2) (fun y => K (w25X1_1 y).1 (w25X1_1 y).2) (fun y => K ((noX 2) y).1 ((noX 2) y).2)) = (fun v0 v1 v2 => loopX (w25c N) Tryd.f25.ntmps (w25h1 N) w25b1 w25m1 w25w1 n (w25I1 (v0, v1, v2)) K) from funext fun _ => funext fun _ => funext fun _ => ih _]
  exact h.trans (w25q1 N (fun σ => loopX (w25c N) Tryd.f25.ntmps (w25h1 N) w25b1 w25m1 w25w1 n σ K) K x)) N x K)
def w25G [Alg] (_ : Nat) (_in0 : (List ((List Int) × (Int × Int))) → Int → Int → Int → (List ((List Int) × (Int × Int))) → Int → Bool → (List ((List Int) × (Int × Int))) → Int → ((List Int) × (Int × Int)) → (List Int) → Int → Int → (List Int) → Int → Bool → Bool → Bool → Bool → Bool → Bool → Bool → Bool → Bool → Int → (List Int) → Int → Int → (Int → O) → ((List ((List Int) × (Int × Int))) → Int → Int → Int → (List ((List Int) × (Int × Int))) → Int → Bool → (List ((List Int) × (Int × Int))) → Int → ((List Int) × (Int × Int)) → (List Int) → Int → Int → (List Int) → Int → Bool → Bool → Bool → Bool → Bool → Bool → Bool → Bool → Bool → Int → Int → (List Int) → Int → Bool → (List Int) → Int → Int → O) → O) (in1 : (List ((List Int) × (Int × Int))) → Int → Int → (Int → O) → (Int → O) → O) (l0 : (List ((List Int) × (Int × Int)))) : O :=
 br (decide ((32 : Int) < (↑l0.length : Int)))
  (some (w25r0 ((4 : Int))))
  (in1 l0 ((0 : Int)) ((0 : Int))
   (fun z124 =>
    some (w25r0 z124))
   (fun _ =>
    some (w25r0 ((0 : Int)))))
def w25 [Alg] (N : Nat) (l0 : (List ((List Int) × (Int × Int)))) : O := w25G N (w25n0 N) (w25n1 N) l0
noncomputable def w25h [Alg] (N : Nat) : Hint := (.seq .d (.seq .d (.seq (.seq .d (.block (.sub w25m1 _ _ _ w25X1_0 w25X1_1 (noX 2) (subL w25I1 w25u1 (w25l1 N N))))) .d)))
theorem w25hk (N : Nat) (hc : CxOk (w25c N)) : HintOk (w25c N) Tryd.f25.ntmps (w25h N) w25b := hk_of _ _ (And.intro trivial (And.intro trivial (And.intro (And.intro trivial (w25S1 N hc)) trivial)))
theorem w25q [Alg] (N : Nat) (l0 : (List ((List Int) × (Int × Int)))) : w25G N (w25s0 N) (w25s1 N) l0 = exec (w25c N) Tryd.f25.ntmps (w25h N) w25b ⟨argT 0 [.e (.sl (.pr (.sl (.i .i64)) (.pr (.i .i64) (.i .i64)))) l0], [], 100⟩ (finX (w25c N) Tryd.f25 false) := by kernel_rfl
theorem w25does {N : Nat} (hc : CxOk (w25c N)) {l0 : (List ((List Int) × (Int × Int)))} {r : Res} (h : w25 N l0 = some r) : Does Tryd.prog 25 (([.e (.sl (.pr (.sl (.i .i64)) (.pr (.i .i64) (.i .i64)))) l0] : List X).map X.D) (HA []) r.1.D (HA r.2) :=
 fun_ok hc (f := 25) (fn := Tryd.f25) (code := w25b) (by kernel_rfl) (by kernel_rfl) (w25hk N hc) (Nat.le_of_ble_eq_true (by kernel_rfl)) (ow := false) ((w25q N l0).symm.trans (by rw [w25e0 N, w25e1 N]; exact h))
def w25un (r : Res) : Option (Int) := match r with
 | (x0, []) => (match ue (.i .i64) x0 with | some a0 => some a0 | _ => none)
 | _ => none
theorem w25uo {r : Res} {d : Int} (h : w25un r = some d) : r = w25r0 (d) := by
 unfold w25un at h
 split at h
 ·split at h
  ·rename_i h0; cases h; rw [ue_some h0]; rfl
  ·cases h
 ·cases h
def w25z (N : Nat) (l0 : (List ((List Int) × (Int × Int)))) : Option (Int) := (w25 N l0).bind w25un
theorem w25fin {N : Nat} (hc : CxOk (w25c N)) {l0 : (List ((List Int) × (Int × Int)))} {d : Int} (hd : w25z N l0 = some d) : Does Tryd.prog 25 (([.e (.sl (.pr (.sl (.i .i64)) (.pr (.i .i64) (.i .i64)))) l0] : List X).map X.D) (HA []) (w25r0 (d)).1.D (HA (w25r0 (d)).2) := by
 obtain ⟨r, hr, hu⟩ := Option.bind_eq_some_iff.1 hd
 have := w25does hc hr
 rw [w25uo hu] at this
 exact this
def w25p (N : Nat) (l0 : (List ((List Int) × (Int × Int)))) : Bool := (w25z N l0).isSome
def w25y0 (N : Nat) (l0 : (List ((List Int) × (Int × Int)))) : Int := ((w25z N l0).getD 0)
def w25e (N : Nat) : Ent' := E1 (.sl (.pr (.sl (.i .i64)) (.pr (.i .i64) (.i .i64))))  (fun x0 => (w25p N x0, w25r0 (w25y0 N x0)))
theorem w25re {N : Nat} {l0 : (List ((List Int) × (Int × Int)))} {d : Int} (hd : w25z N l0 = some d) : w25r0 (w25y0 N l0) = w25r0 (d) := by unfold w25y0; rw [hd]; rfl
theorem w25ok (N : Nat) : EOk Tryd.prog 25 (w25e N) := EOk.e1 (fun x0 h => by
 have h : (w25z N x0).isSome = true := h
 obtain ⟨d, hd⟩ := Option.isSome_iff_exists.1 h
 have f := w25fin (w25cx N) hd
 rw [← w25re hd] at f
 exact f)
def w33r0 (a0 : Bool) : Res := (.e .bo a0, [])
noncomputable def w33L (N : Nat) : List (Nat × Ent') := [(43, w43e N)]
noncomputable def w33c (N : Nat) : Cx := ⟨Tryd.prog, 99999, w33L N⟩
noncomputable def w33b : Code := Tryd.f33.body.getD .skip
theorem w33cx (N : Nat) : CxOk (w33c N) := ctx_ok (by kernel_rfl) (.cons (by kernel_rfl) (w43ok N) .nil)
def w33F0 [Alg] (N : Nat)  (self : Int → O) (k0 : Bool → O) (k1 : Bool → O) (x0_0 : (List Bool)) (x0_1 : Bool) (x0_3 : (List Int)) (_x0_4 : Int) (_x0_5 : Int) (x0_2 : Int) : O :=
 br (decide (x0_2 < (↑x0_3.length : Int)))
  (gx x0_3 x0_2 fun y5 =>
  ck (w43p N y5) <|
  gx x0_0 (IntKind.i64.wrap (w43y0 N y5 - (1 : Int))) fun y6 =>
  br (!y6 == decide ((0 : Int) < y5))
   (k0 false)
   (self (IntKind.i64.wrap (x0_2 + (1 : Int)))))
  (k1 x0_1)
noncomputable def w33b0 : Code := atC [1, 0, 1, 0, 0] w33b
def w33m0 : Nm := ⟨[1, 2, 4, 5], [], []⟩
def w33I0 (x : (List Bool) × Bool × Int × (List Int) × Int × Int) : Sg := ⟨[(1, .e (.sl .bo) x.1), (2, .ref 0 0), (4, .e .bo x.2.1), (5, .e (.i .i64) x.2.2.1)], [(0, .box 49 [.e (.sl (.i .i64)) x.2.2.2.1, .e (.i .i64) x.2.2.2.2.1, .e (.i .i64) x.2.2.2.2.2])], 100⟩
def w33u0 (σ : Sg) : (List Bool) × Bool × Int × (List Int) × Int × Int := (lvT (.sl .bo) 1 0 σ, lvT .bo 4 0 σ, lvT (.i .i64) 5 0 σ, lvH (.sl (.i .i64)) 0 0 σ, lvH (.i .i64) 0 1 σ, lvH (.i .i64) 0 2 σ)
theorem w33ui0 : ∀ x, w33u0 (w33I0 x) = x := fun _ => by kernel_rfl
def w33X0_0 (y : Bool) : Exit × Sg := (.ret, ⟨[(4, .e .bo y)], [], 100⟩)
def w33v0_0 (σ : Sg) : Bool := lvT .bo 4 0 σ
def w33X0_1 (y : Bool) : Exit × Sg := ((.exit 0), ⟨[(4, .e .bo y)], [], 100⟩)
def w33v0_1 (σ : Sg) : Bool := lvT .bo 4 0 σ
def w33w0 : List (Exit × Nm) := [(.ret, ⟨[4], [], []⟩), ((.exit 0), ⟨[4], [], []⟩)]
theorem w33o0 : Outs w33v0_0 w33v0_1 (fun _ => ()) w33X0_0 w33X0_1 (noX 2) .ret (.exit 0) (.goto 2) := ⟨fun _ => by kernel_rfl, fun _ => by kernel_rfl, fun _ => by kernel_rfl, fun _ => by kernel_rfl, fun _ => by kernel_rfl, fun _ => by kernel_rfl, exNe_ok (by kernel_rfl), exNe_ok (by kernel_rfl), exNe_ok (by kernel_rfl)⟩
def w33l0 [Alg] (N : Nat) : Nat → ((List Bool) × Bool × Int × (List Int) × Int × Int) → ((Bool) → O) → ((Bool) → O) → ((Unit) → O) → O
 | 0, _, _, _, _ => none
 | n + 1, x, k0, k1, k2 => w33F0 N  (fun v0 => w33l0 N n (x.1, x.2.1, v0, x.2.2.2.1, x.2.2.2.2.1, x.2.2.2.2.2) k0 k1 k2) (fun y0 => k0 y0) (fun y0 => k1 y0) x.1 x.2.1 x.2.2.2.1 x.2.2.2.2.1 x.2.2.2.2.2 x.2.2.1
def w33n0 [Alg] (N : Nat) (a0 : (List Bool)) (a1 : Bool) (a2 : Int) (a3 : (List Int)) (a4 : Int) (a5 : Int) (k0 : Bool → O) (k1 : Bool → O) : O := w33l0 N N (a0, a1, a2, a3, a4, a5) (fun y => k0 y) (fun y => k1 y) (fun _ => none)
noncomputable def w33s0 [Alg] (N : Nat) (a0 : (List Bool)) (a1 : Bool) (a2 : Int) (a3 : (List Int)) (a4 : Int) (a5 : Int) (k0 : Bool → O) (k1 : Bool → O) : O := subL w33I0 w33u0 (w33l0 N N) (w33I0 (a0, a1, a2, a3, a4, a5)) (fun y => k0 y) (fun y => k1 y) (fun _ => none)
theorem w33e0 [Alg] (N : Nat) : w33s0 N = w33n0 N := funext fun _ => funext fun _ => funext fun _ => funext fun _ => funext fun _ => funext fun _ => funext fun _ => funext fun _ => subL_I w33ui0 _ _ _ _
noncomputable def w33h0 [Alg] (_ : Nat) : Hint := .d
theorem w33hk0 (N : Nat) : HintOk (w33c N) Tryd.f33.ntmps (w33h0 N) w33b0 := hk_of _ _ trivial
theorem w33q0 [Alg] (N : Nat) (self : Sg → O) (K : Exit → Sg → O) (x : (List Bool) × Bool × Int × (List Int) × Int × Int) : w33F0 N  (fun v0 => self (w33I0 (x.1, x.2.1, v0, x.2.2.2.1, x.2.2.2.2.1, x.2.2.2.2.2))) (fun y0 => K (w33X0_0 y0).1 (w33X0_0 y0).2) (fun y0 => K (w33X0_1 y0).1 (w33X0_1 y0).2) x.1 x.2.1 x.2.2.2.1 x.2.2.2.2.1 x.2.2.2.2.2 x.2.2.1 = exec (w33c N) Tryd.f33.ntmps (w33h0 N) w33b0 (w33I0 x) (roundX w33m0 w33w0 self K) := by kernel_rfl
theorem w33S0 (N : Nat) (hc : CxOk (w33c N)) : SubOk (w33c N) Tryd.f33.ntmps (.loop w33b0) w33X0_0 w33X0_1 (noX 2) (subL w33I0 w33u0 (w33l0 N N)) :=
 sub_loop hc (w33hk0 N) w33o0 (n := N) (fun x K => loop_ind (w33l0 N) (fun _ _ _ _ => rfl) (fun n K ih x => by
  have h : w33F0 N  (fun v0 => w33l0 N n (x.1, x.2.1, v0, x.2.2.2.1, x.2.2.2.2.1, x.2.2.2.2.2) (fun y => K (w33X0_0 y).1 (w33X0_0 y).2) (fun y => K (w33X0_1 y).1 (w33X0_1 y).2) (fun y => K ((noX 2) y).1 ((noX 2) y).2)) (fun y0 => K (w33X0_0 y0).1 (w33X0_0 y0).2) (fun y0 => K (w33X0_1 y0).1 (w33X0_1 y0).2) x.1 x.2.1 x.2.2.2.1 x.2.2.2.2.1 x.2.2.2.2.2 x.2.2.1 = w33F0 N  (fun v0 => loopX (w33c N) Tryd.f33.ntmps (w33h0 N) w33b0 w33m0 w33w0 n (w33I0 (x.1, x.2.1, v0, x.2.2.2.1, x.2.2.2.2.1, x.2.2.2.2.2)) K) (fun y0 => K (w33X0_0 y0).1 (w33X0_0 y0).2) (fun y0 => K (w33X0_1 y0).1 (w33X0_1 y0).2) x.1 x.2.1 x.2.2.2.1 x.2.2.2.2.1 x.2.2.2.2.2 x.2.2.1 := by rw [ show (fun v0 => w33l0 N n (x.1, x.2.1, v0, x.2.2.2.1, x.2.2.2.2.1, x.2.2.2.2.2) (fun y => K (w33X0_0 y).1 (w33X0_0 y).2) (fun y => K (w33X0_1 y).1 (w33X0_1 y).2) (fun y => K ((noX 2) y).1 ((noX 2) y).2)) = (fun v0 => loopX (w33c N) Tryd.f33.ntmps (w33h0 N) w33b0 w33m0 w33w0 n (w33I0 (x.1, x.2.1, v0, x.2.2.2.1, x.2.2.2.2.1, x.2.2.2.2.2)) K) from funext fun _ => ih _]
  exact h.trans (w33q0 N (fun σ => loopX (w33c N) Tryd.f33.ntmps (w33h0 N) w33b0 w33m0 w33w0 n σ K) K x)) N x K)
def w33G [Alg] (_ : Nat) (in0 : (List Bool) → Bool → Int → (List Int) → Int → Int → (Bool → O) → (Bool → O) → O) (r0_0 : (List Int)) (r0_1 : Int) (r0_2 : Int) (have1 : (List Bool)) : O :=
 in0 have1 false ((0 : Int)) r0_0 r0_1 r0_2
  (fun z7 =>
   some (w33r0 z7))
  (fun _ =>
   some (w33r0 true))
def w33 [Alg] (N : Nat) (r0_0 : (List Int)) (r0_1 : Int) (r0_2 : Int) (have1 : (List Bool)) : O := w33G N (w33n0 N) r0_0 r0_1 r0_2 have1
noncomputable def w33h [Alg] (N : Nat) : Hint := (.seq .d (.seq (.seq .d (.block (.sub w33m0 _ _ _ w33X0_0 w33X0_1 (noX 2) (subL w33I0 w33u0 (w33l0 N N))))) .d))
theorem w33hk (N : Nat) (hc : CxOk (w33c N)) : HintOk (w33c N) Tryd.f33.ntmps (w33h N) w33b := hk_of _ _ (And.intro trivial (And.intro (And.intro trivial (w33S0 N hc)) trivial))
theorem w33q [Alg] (N : Nat) (r0_0 : (List Int)) (r0_1 : Int) (r0_2 : Int) (have1 : (List Bool)) : w33G N (w33s0 N) r0_0 r0_1 r0_2 have1 = exec (w33c N) Tryd.f33.ntmps (w33h N) w33b ⟨argT 0 [.agg [.e (.sl (.i .i64)) r0_0, .e (.i .i64) r0_1, .e (.i .i64) r0_2], .e (.sl .bo) have1], [], 100⟩ (finX (w33c N) Tryd.f33 false) := by kernel_rfl
theorem w33does {N : Nat} (hc : CxOk (w33c N)) {r0_0 : (List Int)} {r0_1 : Int} {r0_2 : Int} {have1 : (List Bool)} {r : Res} (h : w33 N r0_0 r0_1 r0_2 have1 = some r) : Does Tryd.prog 33 (([.agg [.e (.sl (.i .i64)) r0_0, .e (.i .i64) r0_1, .e (.i .i64) r0_2], .e (.sl .bo) have1] : List X).map X.D) (HA []) r.1.D (HA r.2) :=
 fun_ok hc (f := 33) (fn := Tryd.f33) (code := w33b) (by kernel_rfl) (by kernel_rfl) (w33hk N hc) (Nat.le_of_ble_eq_true (by kernel_rfl)) (ow := false) ((w33q N r0_0 r0_1 r0_2 have1).symm.trans (by rw [w33e0 N]; exact h))
def w33un (r : Res) : Option (Bool) := match r with
 | (x0, []) => (match ue .bo x0 with | some a0 => some a0 | _ => none)
 | _ => none
theorem w33uo {r : Res} {d : Bool} (h : w33un r = some d) : r = w33r0 (d) := by
 unfold w33un at h
 split at h
 ·split at h
  ·rename_i h0; cases h; rw [ue_some h0]; rfl
  ·cases h
 ·cases h
def w33z (N : Nat) (r0_0 : (List Int)) (r0_1 : Int) (r0_2 : Int) (have1 : (List Bool)) : Option (Bool) := (w33 N r0_0 r0_1 r0_2 have1).bind w33un
theorem w33fin {N : Nat} (hc : CxOk (w33c N)) {r0_0 : (List Int)} {r0_1 : Int} {r0_2 : Int} {have1 : (List Bool)} {d : Bool} (hd : w33z N r0_0 r0_1 r0_2 have1 = some d) : Does Tryd.prog 33 (([.agg [.e (.sl (.i .i64)) r0_0, .e (.i .i64) r0_1, .e (.i .i64) r0_2], .e (.sl .bo) have1] : List X).map X.D) (HA []) (w33r0 (d)).1.D (HA (w33r0 (d)).2) := by
 obtain ⟨r, hr, hu⟩ := Option.bind_eq_some_iff.1 hd
 have := w33does hc hr
 rw [w33uo hu] at this
 exact this
def w33p (N : Nat) (r0_0 : (List Int)) (r0_1 : Int) (r0_2 : Int) (have1 : (List Bool)) : Bool := (w33z N r0_0 r0_1 r0_2 have1).isSome
def w33y0 (N : Nat) (r0_0 : (List Int)) (r0_1 : Int) (r0_2 : Int) (have1 : (List Bool)) : Bool := ((w33z N r0_0 r0_1 r0_2 have1).getD false)
def w33e (N : Nat) : Ent' := E2 (.pr (.sl (.i .i64)) (.pr (.i .i64) (.i .i64))) (.sl .bo)  (fun x0 x1 => (w33p N x0.1 x0.2.1 x0.2.2 x1, w33r0 (w33y0 N x0.1 x0.2.1 x0.2.2 x1)))
theorem w33re {N : Nat} {r0_0 : (List Int)} {r0_1 : Int} {r0_2 : Int} {have1 : (List Bool)} {d : Bool} (hd : w33z N r0_0 r0_1 r0_2 have1 = some d) : w33r0 (w33y0 N r0_0 r0_1 r0_2 have1) = w33r0 (d) := by unfold w33y0; rw [hd]; rfl
theorem w33ok (N : Nat) : EOk Tryd.prog 33 (w33e N) := EOk.e2 (fun x0 x1 h => by
 have h : (w33z N x0.1 x0.2.1 x0.2.2 x1).isSome = true := h
 obtain ⟨d, hd⟩ := Option.isSome_iff_exists.1 h
 have f := w33fin (w33cx N) hd
 rw [← w33re hd] at f
 exact f)
end
end Go.Proofs
/- What functions do. -/
namespace Go.Proofs
noncomputable section
open Go.Ax Go.Ax.Alg Go.RowKit Go.Ab
open Go
def w19r0 (a0 : Int) (a1 : Int) (a2 : Int) (a3 : Int) : Res := (.tup [.agg [.e (.i .i64) a0, .e (.i .i64) a1, .e (.i .i64) a2], .e (.i .i64) a3], [])
noncomputable def w19L (N : Nat) : List (Nat × Ent') := [(25, w25e N), (33, w33e N)]
noncomputable def w19c (N : Nat) : Cx := ⟨Tryd.prog, 99999, w19L N⟩
noncomputable def w19b : Code := Tryd.f19.body.getD .skip
theorem w19cx (N : Nat) : CxOk (w19c N) := ctx_ok (by kernel_rfl) (.cons (by kernel_rfl) (w25ok N) (.cons (by kernel_rfl) (w33ok N) .nil))
def w19F0 [Alg] (N : Nat)  (self : Int → Int → Int → Int → O) (k0 : (List ((List Int) × (Int × Int))) → (List Bool) → Int → Int → Int → Int → Int → Int → Int → O) (x0_0 : (List ((List Int) × (Int × Int)))) (x0_1 : (List Bool)) (x0_2 : Int) (x0_4 : Int) (x0_5 : Int) (x0_6 : Int) (x0_3 : Int) (x0_7 : Int) (x0_8 : Int) (x0_9 : Int) : O :=
 br (decide (x0_3 < (↑x0_0.length : Int)))
  (gx x0_0 x0_3 fun y11 =>
  ck (w33p N y11.1 y11.2.1 y11.2.2 x0_1) <|
  br (w33y0 N y11.1 y11.2.1 y11.2.2 x0_1)
   (gx x0_0 x0_3 fun y12 =>
   gx x0_0 x0_3 fun y13 =>
   ck (decide ((0 : Int) ≤ y13.2.1 ∧ y13.2.1 < (3 : Int))) <|
   gx [x0_7, x0_8, x0_9] ((↑((0 : Nat) + y13.2.1.toNat * (1 : Nat)) : Int)) fun y14 =>
   gx x0_0 x0_3 fun y15 =>
   ck (decide ((0 : Int) ≤ y12.2.1 ∧ y12.2.1 < (3 : Int))) <|
   ck (decide ((0 : Nat) + y12.2.1.toNat * (1 : Nat) < [x0_7, x0_8, x0_9].length)) <|
   self (IntKind.i64.wrap (x0_3 + (1 : Int))) (sel (((0 : Nat) + y12.2.1.toNat * (1 : Nat)).beq (0 : Nat)) (max y14 y15.2.2) x0_7) (sel (((0 : Nat) + y12.2.1.toNat * (1 : Nat)).beq (1 : Nat)) (max y14 y15.2.2) x0_8) (sel (((0 : Nat) + y12.2.1.toNat * (1 : Nat)).beq (2 : Nat)) (max y14 y15.2.2) x0_9))
   (self (IntKind.i64.wrap (x0_3 + (1 : Int))) x0_7 x0_8 x0_9))
  (k0 x0_0 x0_1 x0_2 x0_4 x0_5 x0_6 x0_7 x0_8 x0_9)
noncomputable def w19b0 : Code := atC [1, 1, 1, 1, 1, 0, 1, 0, 0] w19b
def w19m0 : Nm := ⟨[0, 1, 4, 5, 7, 8], [], []⟩
def w19I0 (x : (List ((List Int) × (Int × Int))) × (List Bool) × Int × Int × Int × Int × Int × Int × Int × Int) : Sg := ⟨[(0, .e (.sl (.pr (.sl (.i .i64)) (.pr (.i .i64) (.i .i64)))) x.1), (1, .e (.sl .bo) x.2.1), (4, .ref 0 0), (5, .e (.i .i64) x.2.2.1), (7, .ref 1 0), (8, .e (.i .i64) x.2.2.2.1)], [(0, .box 38 [.e (.i .i64) x.2.2.2.2.1, .e (.i .i64) x.2.2.2.2.2.1, .e (.i .i64) x.2.2.2.2.2.2.1]), (1, .box 38 [.e (.i .i64) x.2.2.2.2.2.2.2.1, .e (.i .i64) x.2.2.2.2.2.2.2.2.1, .e (.i .i64) x.2.2.2.2.2.2.2.2.2])], 100⟩
def w19u0 (σ : Sg) : (List ((List Int) × (Int × Int))) × (List Bool) × Int × Int × Int × Int × Int × Int × Int × Int := (lvT (.sl (.pr (.sl (.i .i64)) (.pr (.i .i64) (.i .i64)))) 0 0 σ, lvT (.sl .bo) 1 0 σ, lvT (.i .i64) 5 0 σ, lvT (.i .i64) 8 0 σ, lvH (.i .i64) 0 0 σ, lvH (.i .i64) 0 1 σ, lvH (.i .i64) 0 2 σ, lvH (.i .i64) 1 0 σ, lvH (.i .i64) 1 1 σ, lvH (.i .i64) 1 2 σ)
theorem w19ui0 : ∀ x, w19u0 (w19I0 x) = x := fun _ => by kernel_rfl
def w19X0_0 (y : (List ((List Int) × (Int × Int))) × (List Bool) × Int × Int × Int × Int × Int × Int × Int) : Exit × Sg := ((.exit 0), ⟨[(0, .e (.sl (.pr (.sl (.i .i64)) (.pr (.i .i64) (.i .i64)))) y.1), (1, .e (.sl .bo) y.2.1), (4, .ref 0 0), (5, .e (.i .i64) y.2.2.1), (7, .ref 1 0)], [(0, .box 38 [.e (.i .i64) y.2.2.2.1, .e (.i .i64) y.2.2.2.2.1, .e (.i .i64) y.2.2.2.2.2.1]), (1, .box 38 [.e (.i .i64) y.2.2.2.2.2.2.1, .e (.i .i64) y.2.2.2.2.2.2.2.1, .e (.i .i64) y.2.2.2.2.2.2.2.2])], 100⟩)
def w19v0_0 (σ : Sg) : (List ((List Int) × (Int × Int))) × (List Bool) × Int × Int × Int × Int × Int × Int × Int := (lvT (.sl (.pr (.sl (.i .i64)) (.pr (.i .i64) (.i .i64)))) 0 0 σ, lvT (.sl .bo) 1 0 σ, lvT (.i .i64) 5 0 σ, lvH (.i .i64) 0 0 σ, lvH (.i .i64) 0 1 σ, lvH (.i .i64) 0 2 σ, lvH (.i .i64) 1 0 σ, lvH (.i .i64) 1 1 σ, lvH (.i .i64) 1 2 σ)
def w19w0 : List (Exit × Nm) := [((.exit 0), ⟨[0, 1, 4, 5, 7], [], []⟩)]
theorem w19o0 : Outs w19v0_0 (fun _ => ()) (fun _ => ()) w19X0_0 (noX 1) (noX 2) (.exit 0) (.goto 1) (.goto 2) := ⟨fun _ => by kernel_rfl, fun _ => by kernel_rfl, fun _ => by kernel_rfl, fun _ => by kernel_rfl, fun _ => by kernel_rfl, fun _ => by kernel_rfl, exNe_ok (by kernel_rfl), exNe_ok (by kernel_rfl), exNe_ok (by kernel_rfl)⟩
def w19l0 [Alg] (N : Nat) : Nat → ((List ((List Int) × (Int × Int))) × (List Bool) × Int × Int × Int × Int × Int × Int × Int × Int) → (((List ((List Int) × (Int × Int))) × (List Bool) × Int × Int × Int × Int × Int × Int × Int) → O) → ((Unit) → O) → ((Unit) → O) → O
 | 0, _, _, _, _ => none
 | n + 1, x, k0, k1, k2 => w19F0 N  (fun v0 v1 v2 v3 => w19l0 N n (x.1, x.2.1, x.2.2.1, v0, x.2.2.2.2.1, x.2.2.2.2.2.1, x.2.2.2.2.2.2.1, v1, v2, v3) k0 k1 k2) (fun y0 y1 y2 y3 y4 y5 y6 y7 y8 => k0 (y0, y1, y2, y3, y4, y5, y6, y7, y8)) x.1 x.2.1 x.2.2.1 x.2.2.2.2.1 x.2.2.2.2.2.1 x.2.2.2.2.2.2.1 x.2.2.2.1 x.2.2.2.2.2.2.2.1 x.2.2.2.2.2.2.2.2.1 x.2.2.2.2.2.2.2.2.2
def w19n0 [Alg] (N : Nat) (a0 : (List ((List Int) × (Int × Int)))) (a1 : (List Bool)) (a2 : Int) (a3 : Int) (a4 : Int) (a5 : Int) (a6 : Int) (a7 : Int) (a8 : Int) (a9 : Int) (k0 : (List ((List Int) × (Int × Int))) → (List Bool) → Int → Int → Int → Int → Int → Int → Int → O) : O := w19l0 N N (a0, a1, a2, a3, a4, a5, a6, a7, a8, a9) (fun y => k0 y.1 y.2.1 y.2.2.1 y.2.2.2.1 y.2.2.2.2.1 y.2.2.2.2.2.1 y.2.2.2.2.2.2.1 y.2.2.2.2.2.2.2.1 y.2.2.2.2.2.2.2.2) (fun _ => none) (fun _ => none)
noncomputable def w19s0 [Alg] (N : Nat) (a0 : (List ((List Int) × (Int × Int)))) (a1 : (List Bool)) (a2 : Int) (a3 : Int) (a4 : Int) (a5 : Int) (a6 : Int) (a7 : Int) (a8 : Int) (a9 : Int) (k0 : (List ((List Int) × (Int × Int))) → (List Bool) → Int → Int → Int → Int → Int → Int → Int → O) : O := subL w19I0 w19u0 (w19l0 N N) (w19I0 (a0, a1, a2, a3, a4, a5, a6, a7, a8, a9)) (fun y => k0 y.1 y.2.1 y.2.2.1 y.2.2.2.1 y.2.2.2.2.1 y.2.2.2.2.2.1 y.2.2.2.2.2.2.1 y.2.2.2.2.2.2.2.1 y.2.2.2.2.2.2.2.2) (fun _ => none) (fun _ => none)
theorem w19e0 [Alg] (N : Nat) : w19s0 N = w19n0 N := funext fun _ => funext fun _ => funext fun _ => funext fun _ => funext fun _ => funext fun _ => funext fun _ => funext fun _ => funext fun _ => funext fun _ => funext fun _ => subL_I w19ui0 _ _ _ _
noncomputable def w19h0 [Alg] (_ : Nat) : Hint := (.seq .d (.seq (.block (.seq .d (.cond (.reg [10, 11, 18, 19] [] [[], [], [], [], [], [], [], [], [], [], [], [], [], [], [], [], [], [], [], [1]]) .d))) .d))
theorem w19hk0 (N : Nat) : HintOk (w19c N) Tryd.f19.ntmps (w19h0 N) w19b0 := hk_of _ _ (And.intro trivial (And.intro (And.intro trivial (And.intro trivial trivial)) trivial))
theorem w19q0 [Alg] (N : Nat) (self : Sg → O) (K : Exit → Sg → O) (x : (List ((List Int) × (Int × Int))) × (List Bool) × Int × Int × Int × Int × Int × Int × Int × Int) : w19F0 N  (fun v0 v1 v2 v3 => self (w19I0 (x.1, x.2.1, x.2.2.1, v0, x.2.2.2.2.1, x.2.2.2.2.2.1, x.2.2.2.2.2.2.1, v1, v2, v3))) (fun y0 y1 y2 y3 y4 y5 y6 y7 y8 => K (w19X0_0 (y0, y1, y2, y3, y4, y5, y6, y7, y8)).1 (w19X0_0 (y0, y1, y2, y3, y4, y5, y6, y7, y8)).2) x.1 x.2.1 x.2.2.1 x.2.2.2.2.1 x.2.2.2.2.2.1 x.2.2.2.2.2.2.1 x.2.2.2.1 x.2.2.2.2.2.2.2.1 x.2.2.2.2.2.2.2.2.1 x.2.2.2.2.2.2.2.2.2 = exec (w19c N) Tryd.f19.ntmps (w19h0 N) w19b0 (w19I0 x) (roundX w19m0 w19w0 self K) := by kernel_rfl
theorem w19S0 (N : Nat) (hc : CxOk (w19c N)) : SubOk (w19c N) Tryd.f19.ntmps (.loop w19b0) w19X0_0 (noX 1) (noX 2) (subL w19I0 w19u0 (w19l0 N N)) :=
 sub_loop hc (w19hk0 N) w19o0 (n := N) (fun x K => loop_ind (w19l0 N) (fun _ _ _ _ => rfl) (fun n K ih x => by
  have h : w19F0 N  (fun v0 v1 v2 v3 => w19l0 N n (x.1, x.2.1, x.2.2.1, v0, x.2.2.2.2.1, x.2.2.2.2.2.1, x.2.2.2.2.2.2.1, v1, v2, v3) (fun y => K (w19X0_0 y).1 (w19X0_0 y).2) (fun y => K ((noX 1) y).1 ((noX 1) y).2) (fun y => K ((noX 2) y).1 ((noX 2) y).2)) (fun y0 y1 y2 y3 y4 y5 y6 y7 y8 => K (w19X0_0 (y0, y1, y2, y3, y4, y5, y6, y7, y8)).1 (w19X0_0 (y0, y1, y2, y3, y4, y5, y6, y7, y8)).2) x.1 x.2.1 x.2.2.1 x.2.2.2.2.1 x.2.2.2.2.2.1 x.2.2.2.2.2.2.1 x.2.2.2.1 x.2.2.2.2.2.2.2.1 x.2.2.2.2.2.2.2.2.1 x.2.2.2.2.2.2.2.2.2 = w19F0 N  (fun v0 v1 v2 v3 => loopX (w19c N) Tryd.f19.ntmps (w19h0 N) w19b0 w19m0 w19w0 n (w19I0 (x.1, x.2.1, x.2.2.1, v0, x.2.2.2.2.1, x.2.2.2.2.2.1, x.2.2.2.2.2.2.1, v1, v2, v3)) K) (fun y0 y1 y2 y3 y4 y5 y6 y7 y8 => K (w19X0_0 (y0, y1, y2, y3, y4, y5, y6, y7, y8)).1 (w19X0_0 (y0, y1, y2, y3, y4, y5, y6, y7, y8)).2) x.1 x.2.1 x.2.2.1 x.2.2.2.2.1 x.2.2.2.2.2.1 x.2.2.2.2.2.2.1 x.2.2.2.1 x.2.2.2.2.2.2.2.1 x.2.2.2.2.2.2.2.2.1 x.2.2.2.2.2.2.2.2.2 := by rw [ show (fun v0 v1 v2 v3 => w19l0 N n (x.1, x.2.1, x.2.2.1, v0, x.2.2.2.2.1, x.2.2.2.2.2.1, x.2.2.2.2.2.2.1, v1, v2, v3) (fun y => K (w19X0_0 y).1 (w19X0_0 y).2) (fun y => K ((noX 1) y).1 ((noX 1) y).2) (fun y => K ((noX 2) y).1 ((noX 2) y).2)) = (fun v0 v1 v2 v3 => loopX (w19c N) Tryd.f19.ntmps (w19h0 N) w19b0 w19m0 w19w0 n (w19I0 (x.1, x.2.1, x.2.2.1, v0, x.2.2.2.2.1, x.2.2.2.2.2.1, x.2.2.2.2.2.2.1, v1, v2, v3)) K) from funext fun _ => funext fun _ => funext fun _ => funext fun _ => ih _]
  exact h.trans (w19q0 N (fun σ => loopX (w19c N) Tryd.f19.ntmps (w19h0 N) w19b0 w19m0 w19w0 n σ K) K x)) N x K)
def w19F1 [Alg] (N : Nat)  (self : Int → O) (k0 : Int → Int → Int → Int → O) (k1 : Int → Int → Int → Int → Int → Int → Int → O) (x25_0 : (List ((List Int) × (Int × Int)))) (x25_1 : (List Bool)) (x25_2 : Int) (x25_4 : Int) (x25_5 : Int) (x25_6 : Int) (x25_7 : Int) (x25_8 : Int) (x25_9 : Int) (x25_3 : Int) : O :=
 br (decide (x25_3 < (↑x25_0.length : Int)))
  (gx x25_0 x25_3 fun y40 =>
  gc (decide (y40.2.2 < (0 : Int))) (([], ((0 : Int), (0 : Int)))) x25_0 x25_3 fun y41 =>
  ck (!decide (y40.2.2 < (0 : Int)) || w33p N y41.1 y41.2.1 y41.2.2 x25_1) <|
  gc (decide (y40.2.2 < (0 : Int)) && w33y0 N y41.1 y41.2.1 y41.2.2 x25_1) (([], ((0 : Int), (0 : Int)))) x25_0 x25_3 fun y42 =>
  br (decide (y40.2.2 < (0 : Int)) && w33y0 N y41.1 y41.2.1 y41.2.2 x25_1)
   (ck (!(decide (y40.2.2 < (0 : Int)) && w33y0 N y41.1 y41.2.1 y41.2.2 x25_1) || decide ((0 : Int) ≤ y42.2.1 ∧ y42.2.1 < (3 : Int))) <|
   br (decide (y40.2.2 < (0 : Int)) && w33y0 N y41.1 y41.2.1 y41.2.2 x25_1)
    (gc (decide (y40.2.2 < (0 : Int)) && w33y0 N y41.1 y41.2.1 y41.2.2 x25_1) ((0 : Int)) [x25_7, x25_8, x25_9] ((↑((0 : Nat) + y42.2.1.toNat * (1 : Nat)) : Int)) fun y43 =>
    gc (decide (y40.2.2 < (0 : Int)) && w33y0 N y41.1 y41.2.1 y41.2.2 x25_1) (([], ((0 : Int), (0 : Int)))) x25_0 x25_3 fun y44 =>
    br (decide (y40.2.2 < (0 : Int)) && w33y0 N y41.1 y41.2.1 y41.2.2 x25_1)
     (br (decide (y40.2.2 < (0 : Int)) && w33y0 N y41.1 y41.2.1 y41.2.2 x25_1 && decide (IntKind.i64.wrap ((-1 : Int) - y44.2.2) < y43))
      (k0 ((18 : Int)) ((0 : Int)) ((0 : Int)) ((0 : Int)))
      (self (IntKind.i64.wrap (x25_3 + (1 : Int)))))
     (br (decide (y40.2.2 < (0 : Int)) && w33y0 N y41.1 y41.2.1 y41.2.2 x25_1)
      (none)
      (br false
       (k0 ((18 : Int)) ((0 : Int)) ((0 : Int)) ((0 : Int)))
       (self (IntKind.i64.wrap (x25_3 + (1 : Int)))))))
    (gc (decide (y40.2.2 < (0 : Int)) && w33y0 N y41.1 y41.2.1 y41.2.2 x25_1) (([], ((0 : Int), (0 : Int)))) x25_0 x25_3 fun _ =>
    br (decide (y40.2.2 < (0 : Int)) && w33y0 N y41.1 y41.2.1 y41.2.2 x25_1)
     (none)
     (br (decide (y40.2.2 < (0 : Int)) && w33y0 N y41.1 y41.2.1 y41.2.2 x25_1)
      (none)
      (br false
       (k0 ((18 : Int)) ((0 : Int)) ((0 : Int)) ((0 : Int)))
       (self (IntKind.i64.wrap (x25_3 + (1 : Int))))))))
   (br (decide (y40.2.2 < (0 : Int)) && w33y0 N y41.1 y41.2.1 y41.2.2 x25_1)
    (none)
    (gc (decide (y40.2.2 < (0 : Int)) && w33y0 N y41.1 y41.2.1 y41.2.2 x25_1) (([], ((0 : Int), (0 : Int)))) x25_0 x25_3 fun _ =>
    br (decide (y40.2.2 < (0 : Int)) && w33y0 N y41.1 y41.2.1 y41.2.2 x25_1)
     (none)
     (br (decide (y40.2.2 < (0 : Int)) && w33y0 N y41.1 y41.2.1 y41.2.2 x25_1)
      (none)
      (br false
       (k0 ((18 : Int)) ((0 : Int)) ((0 : Int)) ((0 : Int)))
       (self (IntKind.i64.wrap (x25_3 + (1 : Int)))))))))
  (k1 x25_2 x25_4 x25_5 x25_6 x25_7 x25_8 x25_9)
noncomputable def w19b1 : Code := atC [1, 1, 1, 1, 1, 1, 0, 1, 0, 0] w19b
def w19m1 : Nm := ⟨[0, 1, 4, 5, 7, 9], [], []⟩
def w19I1 (x : (List ((List Int) × (Int × Int))) × (List Bool) × Int × Int × Int × Int × Int × Int × Int × Int) : Sg := ⟨[(0, .e (.sl (.pr (.sl (.i .i64)) (.pr (.i .i64) (.i .i64)))) x.1), (1, .e (.sl .bo) x.2.1), (4, .ref 0 0), (5, .e (.i .i64) x.2.2.1), (7, .ref 1 0), (9, .e (.i .i64) x.2.2.2.1)], [(0, .box 38 [.e (.i .i64) x.2.2.2.2.1, .e (.i .i64) x.2.2.2.2.2.1, .e (.i .i64) x.2.2.2.2.2.2.1]), (1, .box 38 [.e (.i .i64) x.2.2.2.2.2.2.2.1, .e (.i .i64) x.2.2.2.2.2.2.2.2.1, .e (.i .i64) x.2.2.2.2.2.2.2.2.2])], 100⟩
def w19u1 (σ : Sg) : (List ((List Int) × (Int × Int))) × (List Bool) × Int × Int × Int × Int × Int × Int × Int × Int := (lvT (.sl (.pr (.sl (.i .i64)) (.pr (.i .i64) (.i .i64)))) 0 0 σ, lvT (.sl .bo) 1 0 σ, lvT (.i .i64) 5 0 σ, lvT (.i .i64) 9 0 σ, lvH (.i .i64) 0 0 σ, lvH (.i .i64) 0 1 σ, lvH (.i .i64) 0 2 σ, lvH (.i .i64) 1 0 σ, lvH (.i .i64) 1 1 σ, lvH (.i .i64) 1 2 σ)
theorem w19ui1 : ∀ x, w19u1 (w19I1 x) = x := fun _ => by kernel_rfl
def w19X1_0 (y : Int × Int × Int × Int) : Exit × Sg := (.ret, ⟨[(4, .ref 0 0), (5, .e (.i .i64) y.1)], [(0, .box 38 [.e (.i .i64) y.2.1, .e (.i .i64) y.2.2.1, .e (.i .i64) y.2.2.2])], 100⟩)
def w19v1_0 (σ : Sg) : Int × Int × Int × Int := (lvT (.i .i64) 5 0 σ, lvH (.i .i64) 0 0 σ, lvH (.i .i64) 0 1 σ, lvH (.i .i64) 0 2 σ)
def w19X1_1 (y : Int × Int × Int × Int × Int × Int × Int) : Exit × Sg := ((.exit 2), ⟨[(4, .ref 0 0), (5, .e (.i .i64) y.1), (7, .ref 1 0)], [(0, .box 38 [.e (.i .i64) y.2.1, .e (.i .i64) y.2.2.1, .e (.i .i64) y.2.2.2.1]), (1, .box 38 [.e (.i .i64) y.2.2.2.2.1, .e (.i .i64) y.2.2.2.2.2.1, .e (.i .i64) y.2.2.2.2.2.2])], 100⟩)
def w19v1_1 (σ : Sg) : Int × Int × Int × Int × Int × Int × Int := (lvT (.i .i64) 5 0 σ, lvH (.i .i64) 0 0 σ, lvH (.i .i64) 0 1 σ, lvH (.i .i64) 0 2 σ, lvH (.i .i64) 1 0 σ, lvH (.i .i64) 1 1 σ, lvH (.i .i64) 1 2 σ)
def w19w1 : List (Exit × Nm) := [(.ret, ⟨[4, 5], [], []⟩), ((.exit 2), ⟨[4, 5, 7], [], []⟩)]
theorem w19o1 : Outs w19v1_0 w19v1_1 (fun _ => ()) w19X1_0 w19X1_1 (noX 2) .ret (.exit 2) (.goto 2) := ⟨fun _ => by kernel_rfl, fun _ => by kernel_rfl, fun _ => by kernel_rfl, fun _ => by kernel_rfl, fun _ => by kernel_rfl, fun _ => by kernel_rfl, exNe_ok (by kernel_rfl), exNe_ok (by kernel_rfl), exNe_ok (by kernel_rfl)⟩
def w19l1 [Alg] (N : Nat) : Nat → ((List ((List Int) × (Int × Int))) × (List Bool) × Int × Int × Int × Int × Int × Int × Int × Int) → ((Int × Int × Int × Int) → O) → ((Int × Int × Int × Int × Int × Int × Int) → O) → ((Unit) → O) → O
 | 0, _, _, _, _ => none
 | n + 1, x, k0, k1, k2 => w19F1 N  (fun v0 => w19l1 N n (x.1, x.2.1, x.2.2.1, v0, x.2.2.2.2.1, x.2.2.2.2.2.1, x.2.2.2.2.2.2.1, x.2.2.2.2.2.2.2.1, x.2.2.2.2.2.2.2.2.1, x.2.2.2.2.2.2.2.2.2) k0 k1 k2) (fun y0 y1 y2 y3 => k0 (y0, y1, y2, y3)) (fun y0 y1 y2 y3 y4 y5 y6 => k1 (y0, y1, y2, y3, y4, y5, y6)) x.1 x.2.1 x.2.2.1 x.2.2.2.2.1 x.2.2.2.2.2.1 x.2.2.2.2.2.2.1 x.2.2.2.2.2.2.2.1 x.2.2.2.2.2.2.2.2.1 x.2.2.2.2.2.2.2.2.2 x.2.2.2.1
def w19n1 [Alg] (N : Nat) (a0 : (List ((List Int) × (Int × Int)))) (a1 : (List Bool)) (a2 : Int) (a3 : Int) (a4 : Int) (a5 : Int) (a6 : Int) (a7 : Int) (a8 : Int) (a9 : Int) (k0 : Int → Int → Int → Int → O) (k1 : Int → Int → Int → Int → Int → Int → Int → O) : O := w19l1 N N (a0, a1, a2, a3, a4, a5, a6, a7, a8, a9) (fun y => k0 y.1 y.2.1 y.2.2.1 y.2.2.2) (fun y => k1 y.1 y.2.1 y.2.2.1 y.2.2.2.1 y.2.2.2.2.1 y.2.2.2.2.2.1 y.2.2.2.2.2.2) (fun _ => none)
noncomputable def w19s1 [Alg] (N : Nat) (a0 : (List ((List Int) × (Int × Int)))) (a1 : (List Bool)) (a2 : Int) (a3 : Int) (a4 : Int) (a5 : Int) (a6 : Int) (a7 : Int) (a8 : Int) (a9 : Int) (k0 : Int → Int → Int → Int → O) (k1 : Int → Int → Int → Int → Int → Int → Int → O) : O := subL w19I1 w19u1 (w19l1 N N) (w19I1 (a0, a1, a2, a3, a4, a5, a6, a7, a8, a9)) (fun y => k0 y.1 y.2.1 y.2.2.1 y.2.2.2) (fun y => k1 y.1 y.2.1 y.2.2.1 y.2.2.2.1 y.2.2.2.2.1 y.2.2.2.2.2.1 y.2.2.2.2.2.2) (fun _ => none)
theorem w19e1 [Alg] (N : Nat) : w19s1 N = w19n1 N := funext fun _ => funext fun _ => funext fun _ => funext fun _ => funext fun _ => funext fun _ => funext fun _ => funext fun _ => funext fun _ => funext fun _ => funext fun _ => funext fun _ => subL_I w19ui1 _ _ _ _
noncomputable def w19h1 [Alg] (_ : Nat) : Hint := (.seq .d (.seq (.block (.seq (.reg [28, 20, 21] [] []) .d)) .d))
theorem w19hk1 (N : Nat) : HintOk (w19c N) Tryd.f19.ntmps (w19h1 N) w19b1 := hk_of _ _ (And.intro trivial (And.intro (And.intro trivial trivial) trivial))
theorem w19q1 [Alg] (N : Nat) (self : Sg → O) (K : Exit → Sg → O) (x : (List ((List Int) × (Int × Int))) × (List Bool) × Int × Int × Int × Int × Int × Int × Int × Int) : w19F1 N  (fun v0 => self (w19I1 (x.1, x.2.1, x.2.2.1, v0, x.2.2.2.2.1, x.2.2.2.2.2.1, x.2.2.2.2.2.2.1, x.2.2.2.2.2.2.2.1, x.2.2.2.2.2.2.2.2.1, x.2.2.2.2.2.2.2.2.2))) (fun y0 y1 y2 y3 => K (w19X1_0 (y0, y1, y2, y3)).1 (w19X1_0 (y0, y1, y2, y3)).2) (fun y0 y1 y2 y3 y4 y5 y6 => K (w19X1_1 (y0, y1, y2, y3, y4, y5, y6)).1 (w19X1_1 (y0, y1, y2, y3, y4, y5, y6)).2) x.1 x.2.1 x.2.2.1 x.2.2.2.2.1 x.2.2.2.2.2.1 x.2.2.2.2.2.2.1 x.2.2.2.2.2.2.2.1 x.2.2.2.2.2.2.2.2.1 x.2.2.2.2.2.2.2.2.2 x.2.2.2.1 = exec (w19c N) Tryd.f19.ntmps (w19h1 N) w19b1 (w19I1 x) (roundX w19m1 w19w1 self K) := by kernel_rfl
theorem w19S1 (N : Nat) (hc : CxOk (w19c N)) : SubOk (w19c N) Tryd.f19.ntmps (.loop w19b1) w19X1_0 w19X1_1 (noX 2) (subL w19I1 w19u1 (w19l1 N N)) :=
 sub_loop hc (w19hk1 N) w19o1 (n := N) (fun x K => loop_ind (w19l1 N) (fun _ _ _ _ => rfl) (fun n K ih x => by
  have h : w19F1 N  (fun v0 => w19l1 N n (x.1, x.2.1, x.2.2.1, v0, x.2.2.2.2.1, x.2.2.2.2.2.1, x.2.2.2.2.2.2.1, x.2.2.2.2.2.2.2.1, x.2.2.2.2.2.2.2.2.1, x.2.2.2.2.2.2.2.2.2) (fun y => K (w19X1_0 y).1 (w19X1_0 y).2) (fun y => K (w19X1_1 y).1 (w19X1_1 y).2) (fun y => K ((noX 2) y).1 ((noX 2) y).2)) (fun y0 y1 y2 y3 => K (w19X1_0 (y0, y1, y2, y3)).1 (w19X1_0 (y0, y1, y2, y3)).2) (fun y0 y1 y2 y3 y4 y5 y6 => K (w19X1_1 (y0, y1, y2, y3, y4, y5, y6)).1 (w19X1_1 (y0, y1, y2, y3, y4, y5, y6)).2) x.1 x.2.1 x.2.2.1 x.2.2.2.2.1 x.2.2.2.2.2.1 x.2.2.2.2.2.2.1 x.2.2.2.2.2.2.2.1 x.2.2.2.2.2.2.2.2.1 x.2.2.2.2.2.2.2.2.2 x.2.2.2.1 = w19F1 N  (fun v0 => loopX (w19c N) Tryd.f19.ntmps (w19h1 N) w19b1 w19m1 w19w1 n (w19I1 (x.1, x.2.1, x.2.2.1, v0, x.2.2.2.2.1, x.2.2.2.2.2.1, x.2.2.2.2.2.2.1, x.2.2.2.2.2.2.2.1, x.2.2.2.2.2.2.2.2.1, x.2.2.2.2.2.2.2.2.2)) K) (fun y0 y1 y2 y3 => K (w19X1_0 (y0, y1, y2, y3)).1 (w19X1_0 (y0, y1, y2, y3)).2) (fun y0 y1 y2 y3 y4 y5 y6 => K (w19X1_1 (y0, y1, y2, y3, y4, y5, y6)).1 (w19X1_1 (y0, y1, y2, y3, y4, y5, y6)).2) x.1 x.2.1 x.2.2.1 x.2.2.2.2.1 x.2.2.2.2.2.1 x.2.2.2.2.2.2.1 x.2.2.2.2.2.2.2.1 x.2.2.2.2.2.2.2.2.1 x.2.2.2.2.2.2.2.2.2 x.2.2.2.1 := by rw [ show (fun v0 => w19l1 N n (x.1, x.2.1, x.2.2.1, v0, x.2.2.2.2.1, x.2.2.2.2.2.1, x.2.2.2.2.2.2.1, x.2.2.2.2.2.2.2.1, x.2.2.2.2.2.2.2.2.1, x.2.2.2.2.2.2.2.2.2) (fun y => K (w19X1_0 y).1 (w19X1_0 y).2) (fun y => K (w19X1_1 y).1 (w19X1_1 y).2) (fun y => K ((noX 2) y).1 ((noX 2) y).2)) = (fun v0 => loopX (w19c N) Tryd.f19.ntmps (w19h1 N) w19b1 w19m1 w19w1 n (w19I1 (x.1, x.2.1, x.2.2.1, v0, x.2.2.2.2.1, x.2.2.2.2.2.1, x.2.2.2.2.2.2.1, x.2.2.2.2.2.2.2.1, x.2.2.2.2.2.2.2.2.1, x.2.2.2.2.2.2.2.2.2)) K) from funext fun _ => ih _]
  exact h.trans (w19q1 N (fun σ => loopX (w19c N) Tryd.f19.ntmps (w19h1 N) w19b1 w19m1 w19w1 n σ K) K x)) N x K)
def w19G [Alg] (N : Nat) (in0 : (List ((List Int) × (Int × Int))) → (List Bool) → Int → Int → Int → Int → Int → Int → Int → Int → ((List ((List Int) × (Int × Int))) → (List Bool) → Int → Int → Int → Int → Int → Int → Int → O) → O) (in1 : (List ((List Int) × (Int × Int))) → (List Bool) → Int → Int → Int → Int → Int → Int → Int → Int → (Int → Int → Int → Int → O) → (Int → Int → Int → Int → Int → Int → Int → O) → O) (l0 : (List ((List Int) × (Int × Int)))) (have1 : (List Bool)) : O :=
 ck (w25p N l0) <|
 br (decide (w25y0 N l0 ≠ (0 : Int)))
  (some (w19r0 ((0 : Int)) ((0 : Int)) ((0 : Int)) (w25y0 N l0)))
  (br (decide ((↑have1.length : Int) ≠ (16 : Int)))
   (some (w19r0 ((0 : Int)) ((0 : Int)) ((0 : Int)) ((1 : Int))))
   (in0 l0 have1 ((0 : Int)) ((0 : Int)) ((0 : Int)) ((0 : Int)) ((0 : Int)) ((0 : Int)) ((0 : Int)) ((0 : Int))
    (fun z16 z17 z18 z19 z20 z21 z22 z23 z24 =>
     in1 z16 z17 z18 ((0 : Int)) z19 z20 z21 z22 z23 z24
      (fun z47 z48 z49 z50 =>
       some (w19r0 z48 z49 z50 z47))
      (fun _ _ _ _ z55 z56 z57 =>
       some (w19r0 z55 z56 z57 ((0 : Int)))))))
def w19 [Alg] (N : Nat) (l0 : (List ((List Int) × (Int × Int)))) (have1 : (List Bool)) : O := w19G N (w19n0 N) (w19n1 N) l0 have1
noncomputable def w19h [Alg] (N : Nat) : Hint := (.seq .d (.seq .d (.seq .d (.seq .d (.seq .d (.seq (.seq .d (.block (.sub w19m0 _ _ _ w19X0_0 (noX 1) (noX 2) (subL w19I0 w19u0 (w19l0 N N))))) (.seq (.seq .d (.block (.sub w19m1 _ _ _ w19X1_0 w19X1_1 (noX 2) (subL w19I1 w19u1 (w19l1 N N))))) .d)))))))
theorem w19hk (N : Nat) (hc : CxOk (w19c N)) : HintOk (w19c N) Tryd.f19.ntmps (w19h N) w19b := hk_of _ _ (And.intro trivial (And.intro trivial (And.intro trivial (And.intro trivial (And.intro trivial (And.intro (And.intro trivial (w19S0 N hc)) (And.intro (And.intro trivial (w19S1 N hc)) trivial)))))))
theorem w19q [Alg] (N : Nat) (l0 : (List ((List Int) × (Int × Int)))) (have1 : (List Bool)) : w19G N (w19s0 N) (w19s1 N) l0 have1 = exec (w19c N) Tryd.f19.ntmps (w19h N) w19b ⟨argT 0 [.e (.sl (.pr (.sl (.i .i64)) (.pr (.i .i64) (.i .i64)))) l0, .e (.sl .bo) have1], [], 100⟩ (finX (w19c N) Tryd.f19 false) := by kernel_rfl
theorem w19does {N : Nat} (hc : CxOk (w19c N)) {l0 : (List ((List Int) × (Int × Int)))} {have1 : (List Bool)} {r : Res} (h : w19 N l0 have1 = some r) : Does Tryd.prog 19 (([.e (.sl (.pr (.sl (.i .i64)) (.pr (.i .i64) (.i .i64)))) l0, .e (.sl .bo) have1] : List X).map X.D) (HA []) r.1.D (HA r.2) :=
 fun_ok hc (f := 19) (fn := Tryd.f19) (code := w19b) (by kernel_rfl) (by kernel_rfl) (w19hk N hc) (Nat.le_of_ble_eq_true (by kernel_rfl)) (ow := false) ((w19q N l0 have1).symm.trans (by rw [w19e0 N, w19e1 N]; exact h))
def w19un (r : Res) : Option (Int × Int × Int × Int) := match r with
 | (.tup [.agg [x0, x1, x2], x3], []) => (match ue (.i .i64) x0, ue (.i .i64) x1, ue (.i .i64) x2, ue (.i .i64) x3 with | some a0, some a1, some a2, some a3 => some (a0, a1, a2, a3) | _, _, _, _ => none)
 | _ => none
theorem w19uo {r : Res} {d : Int × Int × Int × Int} (h : w19un r = some d) : r = w19r0 (d.1) (d.2.1) (d.2.2.1) (d.2.2.2) := by
 unfold w19un at h
 split at h
 ·split at h
  ·rename_i h0 h1 h2 h3; cases h; rw [ue_some h0, ue_some h1, ue_some h2, ue_some h3]; rfl
  ·cases h
 ·cases h
def w19z (N : Nat) (l0 : (List ((List Int) × (Int × Int)))) (have1 : (List Bool)) : Option (Int × Int × Int × Int) := (w19 N l0 have1).bind w19un
theorem w19fin {N : Nat} (hc : CxOk (w19c N)) {l0 : (List ((List Int) × (Int × Int)))} {have1 : (List Bool)} {d : Int × Int × Int × Int} (hd : w19z N l0 have1 = some d) : Does Tryd.prog 19 (([.e (.sl (.pr (.sl (.i .i64)) (.pr (.i .i64) (.i .i64)))) l0, .e (.sl .bo) have1] : List X).map X.D) (HA []) (w19r0 (d.1) (d.2.1) (d.2.2.1) (d.2.2.2)).1.D (HA (w19r0 (d.1) (d.2.1) (d.2.2.1) (d.2.2.2)).2) := by
 obtain ⟨r, hr, hu⟩ := Option.bind_eq_some_iff.1 hd
 have := w19does hc hr
 rw [w19uo hu] at this
 exact this
def w19p (N : Nat) (l0 : (List ((List Int) × (Int × Int)))) (have1 : (List Bool)) : Bool := (w19z N l0 have1).isSome
def w19y0 (N : Nat) (l0 : (List ((List Int) × (Int × Int)))) (have1 : (List Bool)) : Int := ((w19z N l0 have1).getD (0, 0, 0, 0)).1
def w19y1 (N : Nat) (l0 : (List ((List Int) × (Int × Int)))) (have1 : (List Bool)) : Int := ((w19z N l0 have1).getD (0, 0, 0, 0)).2.1
def w19y2 (N : Nat) (l0 : (List ((List Int) × (Int × Int)))) (have1 : (List Bool)) : Int := ((w19z N l0 have1).getD (0, 0, 0, 0)).2.2.1
def w19y3 (N : Nat) (l0 : (List ((List Int) × (Int × Int)))) (have1 : (List Bool)) : Int := ((w19z N l0 have1).getD (0, 0, 0, 0)).2.2.2
def w19e (N : Nat) : Ent' := E2 (.sl (.pr (.sl (.i .i64)) (.pr (.i .i64) (.i .i64)))) (.sl .bo)  (fun x0 x1 => (w19p N x0 x1, w19r0 (w19y0 N x0 x1) (w19y1 N x0 x1) (w19y2 N x0 x1) (w19y3 N x0 x1)))
theorem w19re {N : Nat} {l0 : (List ((List Int) × (Int × Int)))} {have1 : (List Bool)} {d : Int × Int × Int × Int} (hd : w19z N l0 have1 = some d) : w19r0 (w19y0 N l0 have1) (w19y1 N l0 have1) (w19y2 N l0 have1) (w19y3 N l0 have1) = w19r0 (d.1) (d.2.1) (d.2.2.1) (d.2.2.2) := by unfold w19y0 w19y1 w19y2 w19y3; rw [hd]; rfl
theorem w19ok (N : Nat) : EOk Tryd.prog 19 (w19e N) := EOk.e2 (fun x0 x1 h => by
 have h : (w19z N x0 x1).isSome = true := h
 obtain ⟨d, hd⟩ := Option.isSome_iff_exists.1 h
 have f := w19fin (w19cx N) hd
 rw [← w19re hd] at f
 exact f)
def w21r0 (a0 : Bool) : Res := (.e .bo a0, [])
noncomputable def w21L (_ : Nat) : List (Nat × Ent') := []
noncomputable def w21c (N : Nat) : Cx := ⟨Tryd.prog, 99999, w21L N⟩
noncomputable def w21b : Code := Tryd.f21.body.getD .skip
theorem w21cx (N : Nat) : CxOk (w21c N) := ctx_ok (by kernel_rfl) .nil
def w21G [Alg] (_ : Nat)  (remedy0_0 : Int) (remedy0_1 : Int) (remedy0_2 : Int) (fault1_0 : Int) (fault1_1 : Int) (fault1_2 : Int) : O :=
 some (w21r0 (decide (remedy0_0 < fault1_0) || decide (remedy0_1 < fault1_1) || decide (remedy0_2 < fault1_2)))
def w21 [Alg] (N : Nat) (remedy0_0 : Int) (remedy0_1 : Int) (remedy0_2 : Int) (fault1_0 : Int) (fault1_1 : Int) (fault1_2 : Int) : O := w21G N  remedy0_0 remedy0_1 remedy0_2 fault1_0 fault1_1 fault1_2
noncomputable def w21h [Alg] (_ : Nat) : Hint := .d
theorem w21hk (N : Nat) : HintOk (w21c N) Tryd.f21.ntmps (w21h N) w21b := hk_of _ _ trivial
theorem w21q [Alg] (N : Nat) (remedy0_0 : Int) (remedy0_1 : Int) (remedy0_2 : Int) (fault1_0 : Int) (fault1_1 : Int) (fault1_2 : Int) : w21G N  remedy0_0 remedy0_1 remedy0_2 fault1_0 fault1_1 fault1_2 = exec (w21c N) Tryd.f21.ntmps (w21h N) w21b ⟨argT 0 [.agg [.e (.i .i64) remedy0_0, .e (.i .i64) remedy0_1, .e (.i .i64) remedy0_2], .agg [.e (.i .i64) fault1_0, .e (.i .i64) fault1_1, .e (.i .i64) fault1_2]], [], 100⟩ (finX (w21c N) Tryd.f21 false) := by kernel_rfl
theorem w21does {N : Nat} (hc : CxOk (w21c N)) {remedy0_0 : Int} {remedy0_1 : Int} {remedy0_2 : Int} {fault1_0 : Int} {fault1_1 : Int} {fault1_2 : Int} {r : Res} (h : w21 N remedy0_0 remedy0_1 remedy0_2 fault1_0 fault1_1 fault1_2 = some r) : Does Tryd.prog 21 (([.agg [.e (.i .i64) remedy0_0, .e (.i .i64) remedy0_1, .e (.i .i64) remedy0_2], .agg [.e (.i .i64) fault1_0, .e (.i .i64) fault1_1, .e (.i .i64) fault1_2]] : List X).map X.D) (HA []) r.1.D (HA r.2) :=
 fun_ok hc (f := 21) (fn := Tryd.f21) (code := w21b) (by kernel_rfl) (by kernel_rfl) (w21hk N) (Nat.le_of_ble_eq_true (by kernel_rfl)) (ow := false) ((w21q N remedy0_0 remedy0_1 remedy0_2 fault1_0 fault1_1 fault1_2).symm.trans (by exact h))
def w21un (r : Res) : Option (Bool) := match r with
 | (x0, []) => (match ue .bo x0 with | some a0 => some a0 | _ => none)
 | _ => none
theorem w21uo {r : Res} {d : Bool} (h : w21un r = some d) : r = w21r0 (d) := by
 unfold w21un at h
 split at h
 ·split at h
  ·rename_i h0; cases h; rw [ue_some h0]; rfl
  ·cases h
 ·cases h
def w21z (N : Nat) (remedy0_0 : Int) (remedy0_1 : Int) (remedy0_2 : Int) (fault1_0 : Int) (fault1_1 : Int) (fault1_2 : Int) : Option (Bool) := (w21 N remedy0_0 remedy0_1 remedy0_2 fault1_0 fault1_1 fault1_2).bind w21un
theorem w21fin {N : Nat} (hc : CxOk (w21c N)) {remedy0_0 : Int} {remedy0_1 : Int} {remedy0_2 : Int} {fault1_0 : Int} {fault1_1 : Int} {fault1_2 : Int} {d : Bool} (hd : w21z N remedy0_0 remedy0_1 remedy0_2 fault1_0 fault1_1 fault1_2 = some d) : Does Tryd.prog 21 (([.agg [.e (.i .i64) remedy0_0, .e (.i .i64) remedy0_1, .e (.i .i64) remedy0_2], .agg [.e (.i .i64) fault1_0, .e (.i .i64) fault1_1, .e (.i .i64) fault1_2]] : List X).map X.D) (HA []) (w21r0 (d)).1.D (HA (w21r0 (d)).2) := by
 obtain ⟨r, hr, hu⟩ := Option.bind_eq_some_iff.1 hd
 have := w21does hc hr
 rw [w21uo hu] at this
 exact this
def w21p (N : Nat) (remedy0_0 : Int) (remedy0_1 : Int) (remedy0_2 : Int) (fault1_0 : Int) (fault1_1 : Int) (fault1_2 : Int) : Bool := (w21z N remedy0_0 remedy0_1 remedy0_2 fault1_0 fault1_1 fault1_2).isSome
def w21y0 (N : Nat) (remedy0_0 : Int) (remedy0_1 : Int) (remedy0_2 : Int) (fault1_0 : Int) (fault1_1 : Int) (fault1_2 : Int) : Bool := ((w21z N remedy0_0 remedy0_1 remedy0_2 fault1_0 fault1_1 fault1_2).getD false)
def w21e (N : Nat) : Ent' := E2 (.pr (.i .i64) (.pr (.i .i64) (.i .i64))) (.pr (.i .i64) (.pr (.i .i64) (.i .i64)))  (fun x0 x1 => (w21p N x0.1 x0.2.1 x0.2.2 x1.1 x1.2.1 x1.2.2, w21r0 (w21y0 N x0.1 x0.2.1 x0.2.2 x1.1 x1.2.1 x1.2.2)))
theorem w21re {N : Nat} {remedy0_0 : Int} {remedy0_1 : Int} {remedy0_2 : Int} {fault1_0 : Int} {fault1_1 : Int} {fault1_2 : Int} {d : Bool} (hd : w21z N remedy0_0 remedy0_1 remedy0_2 fault1_0 fault1_1 fault1_2 = some d) : w21r0 (w21y0 N remedy0_0 remedy0_1 remedy0_2 fault1_0 fault1_1 fault1_2) = w21r0 (d) := by unfold w21y0; rw [hd]; rfl
theorem w21ok (N : Nat) : EOk Tryd.prog 21 (w21e N) := EOk.e2 (fun x0 x1 h => by
 have h : (w21z N x0.1 x0.2.1 x0.2.2 x1.1 x1.2.1 x1.2.2).isSome = true := h
 obtain ⟨d, hd⟩ := Option.isSome_iff_exists.1 h
 have f := w21fin (w21cx N) hd
 rw [← w21re hd] at f
 exact f)
end
end Go.Proofs
/- What functions do. -/
namespace Go.Proofs
noncomputable section
open Go.Ax Go.Ax.Alg Go.RowKit Go.Ab
open Go
def v17r0 (a0 : (List Bool)) : Res := (.own 100, [(100, .row 4 .bo a0 true)])
noncomputable def v17L (_ : Nat) : List (Nat × Ent') := []
noncomputable def v17c (N : Nat) : Cx := ⟨Tryd.prog, 99999, v17L N⟩
noncomputable def v17b : Code := Tryd.f17.body.getD .skip
theorem v17cx (N : Nat) : CxOk (v17c N) := ctx_ok (by kernel_rfl) .nil
def v17F0 [Alg] (_ : Nat)  (self : Int → (List Bool) → O) (k0 : (List Bool) → O) (x0_0 : Int) (x0_1 : Int) (x0_2 : (List Bool)) : O :=
 br (decide (x0_1 < (16 : Int)))
  (ck (decide ((0 : Int) ≤ IntKind.u64.wrap x0_1)) <|
  ck true <|
  ck (lim (x0_2 ++ [decide ((x0_0.fdiv ((2 : Int) ^ min (IntKind.u64.wrap x0_1).toNat (64 : Nat))).tmod (2 : Int) = (1 : Int))]).length (1 : Nat)) <|
  self (IntKind.i64.wrap (x0_1 + (1 : Int))) (x0_2 ++ [decide ((x0_0.fdiv ((2 : Int) ^ min (IntKind.u64.wrap x0_1).toNat (64 : Nat))).tmod (2 : Int) = (1 : Int))]))
  (k0 x0_2)
noncomputable def v17b0 : Code := atC [1, 1, 0, 1, 0, 0] v17b
def v17m0 : Nm := ⟨[0, 2, 3, 4], [], [.nilR 3 (.row 4 .bo [] true)]⟩
def v17I0 (x : Int × Int × (List Bool)) : Sg := ⟨[(0, .e (.i .i64) x.1), (2, .nilS), (3, .own 0), (4, .e (.i .i64) x.2.1)], [(0, .row 4 .bo x.2.2 true)], 100⟩
def v17u0 (σ : Sg) : Int × Int × (List Bool) := (lvT (.i .i64) 0 0 σ, lvT (.i .i64) 4 0 σ, lvR .bo 0 σ)
theorem v17ui0 : ∀ x, v17u0 (v17I0 x) = x := fun _ => by kernel_rfl
def v17X0_0 (y : (List Bool)) : Exit × Sg := ((.exit 0), ⟨[(2, .nilS), (3, .own 0)], [(0, .row 4 .bo y true)], 100⟩)
def v17v0_0 (σ : Sg) : (List Bool) := lvR .bo 0 σ
def v17w0 : List (Exit × Nm) := [((.exit 0), ⟨[2, 3], [], []⟩)]
theorem v17o0 : Outs v17v0_0 (fun _ => ()) (fun _ => ()) v17X0_0 (noX 1) (noX 2) (.exit 0) (.goto 1) (.goto 2) := ⟨fun _ => by kernel_rfl, fun _ => by kernel_rfl, fun _ => by kernel_rfl, fun _ => by kernel_rfl, fun _ => by kernel_rfl, fun _ => by kernel_rfl, exNe_ok (by kernel_rfl), exNe_ok (by kernel_rfl), exNe_ok (by kernel_rfl)⟩
def v17l0 [Alg] (N : Nat) : Nat → (Int × Int × (List Bool)) → (((List Bool)) → O) → ((Unit) → O) → ((Unit) → O) → O
 | 0, _, _, _, _ => none
 | n + 1, x, k0, k1, k2 => v17F0 N  (fun v0 v1 => v17l0 N n (x.1, v0, v1) k0 k1 k2) (fun y0 => k0 y0) x.1 x.2.1 x.2.2
def v17n0 [Alg] (N : Nat) (a0 : Int) (a1 : Int) (a2 : (List Bool)) (k0 : (List Bool) → O) : O := v17l0 N N (a0, a1, a2) (fun y => k0 y) (fun _ => none) (fun _ => none)
noncomputable def v17s0 [Alg] (N : Nat) (a0 : Int) (a1 : Int) (a2 : (List Bool)) (k0 : (List Bool) → O) : O := subL v17I0 v17u0 (v17l0 N N) (v17I0 (a0, a1, a2)) (fun y => k0 y) (fun _ => none) (fun _ => none)
theorem v17e0 [Alg] (N : Nat) : v17s0 N = v17n0 N := funext fun _ => funext fun _ => funext fun _ => funext fun _ => subL_I v17ui0 _ _ _ _
noncomputable def v17h0 [Alg] (_ : Nat) : Hint := .d
theorem v17hk0 (N : Nat) : HintOk (v17c N) Tryd.f17.ntmps (v17h0 N) v17b0 := hk_of _ _ trivial
theorem v17q0 [Alg] (N : Nat) (self : Sg → O) (K : Exit → Sg → O) (x : Int × Int × (List Bool)) : v17F0 N  (fun v0 v1 => self (v17I0 (x.1, v0, v1))) (fun y0 => K (v17X0_0 y0).1 (v17X0_0 y0).2) x.1 x.2.1 x.2.2 = exec (v17c N) Tryd.f17.ntmps (v17h0 N) v17b0 (v17I0 x) (roundX v17m0 v17w0 self K) := by kernel_rfl
theorem v17S0 (N : Nat) (hc : CxOk (v17c N)) : SubOk (v17c N) Tryd.f17.ntmps (.loop v17b0) v17X0_0 (noX 1) (noX 2) (subL v17I0 v17u0 (v17l0 N N)) :=
 sub_loop hc (v17hk0 N) v17o0 (n := N) (fun x K => loop_ind (v17l0 N) (fun _ _ _ _ => rfl) (fun n K ih x => by
  have h : v17F0 N  (fun v0 v1 => v17l0 N n (x.1, v0, v1) (fun y => K (v17X0_0 y).1 (v17X0_0 y).2) (fun y => K ((noX 1) y).1 ((noX 1) y).2) (fun y => K ((noX 2) y).1 ((noX 2) y).2)) (fun y0 => K (v17X0_0 y0).1 (v17X0_0 y0).2) x.1 x.2.1 x.2.2 = v17F0 N  (fun v0 v1 => loopX (v17c N) Tryd.f17.ntmps (v17h0 N) v17b0 v17m0 v17w0 n (v17I0 (x.1, v0, v1)) K) (fun y0 => K (v17X0_0 y0).1 (v17X0_0 y0).2) x.1 x.2.1 x.2.2 := by rw [ show (fun v0 v1 => v17l0 N n (x.1, v0, v1) (fun y => K (v17X0_0 y).1 (v17X0_0 y).2) (fun y => K ((noX 1) y).1 ((noX 1) y).2) (fun y => K ((noX 2) y).1 ((noX 2) y).2)) = (fun v0 v1 => loopX (v17c N) Tryd.f17.ntmps (v17h0 N) v17b0 v17m0 v17w0 n (v17I0 (x.1, v0, v1)) K) from funext fun _ => funext fun _ => ih _]
  exact h.trans (v17q0 N (fun σ => loopX (v17c N) Tryd.f17.ntmps (v17h0 N) v17b0 v17m0 v17w0 n σ K) K x)) N x K)
def v17G [Alg] (_ : Nat) (in0 : Int → Int → (List Bool) → ((List Bool) → O) → O) (n0 : Int) : O :=
 in0 n0 ((0 : Int)) []
  (fun z1 =>
   some (v17r0 z1))
def v17 [Alg] (N : Nat) (n0 : Int) : O := v17G N (v17n0 N) n0
noncomputable def v17h [Alg] (N : Nat) : Hint := (.seq .d (.seq .d (.seq (.seq .d (.block (.sub v17m0 _ _ _ v17X0_0 (noX 1) (noX 2) (subL v17I0 v17u0 (v17l0 N N))))) .d)))
theorem v17hk (N : Nat) (hc : CxOk (v17c N)) : HintOk (v17c N) Tryd.f17.ntmps (v17h N) v17b := hk_of _ _ (And.intro trivial (And.intro trivial (And.intro (And.intro trivial (v17S0 N hc)) trivial)))
theorem v17q [Alg] (N : Nat) (n0 : Int) : v17G N (v17s0 N) n0 = exec (v17c N) Tryd.f17.ntmps (v17h N) v17b ⟨argT 0 [.e (.i .i64) n0], [], 100⟩ (finX (v17c N) Tryd.f17 true) := by kernel_rfl
theorem v17does {N : Nat} (hc : CxOk (v17c N)) {n0 : Int} {r : Res} (h : v17 N n0 = some r) : Does Tryd.prog 17 (([.e (.i .i64) n0] : List X).map X.D) (HA []) r.1.D (HA r.2) :=
 fun_ok hc (f := 17) (fn := Tryd.f17) (code := v17b) (by kernel_rfl) (by kernel_rfl) (v17hk N hc) (Nat.le_of_ble_eq_true (by kernel_rfl)) (ow := true) ((v17q N n0).symm.trans (by rw [v17e0 N]; exact h))
def v17un (r : Res) : Option ((List Bool)) := match r with
 | (.own 100, [(100, x0)]) => (match ur 4 .bo true x0 with | some a0 => some a0 | _ => none)
 | _ => none
theorem v17uo {r : Res} {d : (List Bool)} (h : v17un r = some d) : r = v17r0 (d) := by
 unfold v17un at h
 split at h
 ·split at h
  ·rename_i h0; cases h; rw [ur_some h0]; rfl
  ·cases h
 ·cases h
def v17z (N : Nat) (n0 : Int) : Option ((List Bool)) := (v17 N n0).bind v17un
theorem v17fin {N : Nat} (hc : CxOk (v17c N)) {n0 : Int} {d : (List Bool)} (hd : v17z N n0 = some d) : Does Tryd.prog 17 (([.e (.i .i64) n0] : List X).map X.D) (HA []) (v17r0 (d)).1.D (HA (v17r0 (d)).2) := by
 obtain ⟨r, hr, hu⟩ := Option.bind_eq_some_iff.1 hd
 have := v17does hc hr
 rw [v17uo hu] at this
 exact this
def v17p (N : Nat) (n0 : Int) : Bool := (v17z N n0).isSome
def v17y0 (N : Nat) (n0 : Int) : (List Bool) := ((v17z N n0).getD [])
def v17e (N : Nat) : Ent' := E1 (.i .i64)  (fun x0 => (v17p N x0, v17r0 (v17y0 N x0)))
theorem v17re {N : Nat} {n0 : Int} {d : (List Bool)} (hd : v17z N n0 = some d) : v17r0 (v17y0 N n0) = v17r0 (d) := by unfold v17y0; rw [hd]; rfl
theorem v17ok (N : Nat) : EOk Tryd.prog 17 (v17e N) := EOk.e1 (fun x0 h => by
 have h : (v17z N x0).isSome = true := h
 obtain ⟨d, hd⟩ := Option.isSome_iff_exists.1 h
 have f := v17fin (v17cx N) hd
 rw [← v17re hd] at f
 exact f)
def w5r0 (a0 : Bool) : Res := (.e .bo a0, [])
noncomputable def w5L (N : Nat) : List (Nat × Ent') := [(15, l15e N), (9, w9e N), (10, w10e N), (17, v17e N), (12, w12e N), (16, w16e N), (19, w19e N), (20, w20e N), (21, w21e N)]
noncomputable def w5c (N : Nat) : Cx := ⟨Tryd.prog, 99999, w5L N⟩
noncomputable def w5b : Code := Tryd.f5.body.getD .skip
theorem w5cx (N : Nat) : CxOk (w5c N) := ctx_ok (by kernel_rfl) (.cons (by kernel_rfl) (l15ok N) (.cons (by kernel_rfl) (w9ok N) (.cons (by kernel_rfl) (w10ok N) (.cons (by kernel_rfl) (v17ok N) (.cons (by kernel_rfl) (w12ok N) (.cons (by kernel_rfl) (w16ok N) (.cons (by kernel_rfl) (w19ok N) (.cons (by kernel_rfl) (w20ok N) (.cons (by kernel_rfl) (w21ok N) .nil)))))))))
def w5F0 [Alg] (N : Nat)  (self : Int → O) (k0 : Bool → O) (k1 : Bool → Int → Int → Bool → Int → Int → Int → Bool → Int → Int → Int → (List (List ((List Int) × (Int × Int)))) → (List (List Bool)) → O) (x55_0 : Bool) (x55_1 : Int) (x55_2 : Int) (x55_3 : Bool) (x55_5 : Int) (x55_6 : Int) (x55_7 : Int) (x55_8 : (List (List ((List Int) × (Int × Int))))) (x55_9 : (List (List Bool))) (x55_4 : Int) : O :=
 br (decide (x55_4 < (↑x55_9.length : Int)))
  (gx x55_8 x55_1 fun y64 =>
  ck (w12p N y64) <|
  gx x55_9 x55_4 fun y65 =>
  ck (w16p N (w12y0 N y64) y65) <|
  gx x55_8 x55_1 fun y66 =>
  gx x55_9 x55_4 fun y67 =>
  ck (w19p N y66 y67) <|
  ck (!!(!(decide (w16y0 N (w12y0 N y64) y65 = w19y0 N y66 y67) && (decide (w16y1 N (w12y0 N y64) y65 = w19y1 N y66 y67) && decide (w16y2 N (w12y0 N y64) y65 = w19y2 N y66 y67))) || decide (w16y3 N (w12y0 N y64) y65 ≠ w19y3 N y66 y67)) || w20p N (w16y0 N (w12y0 N y64) y65) (w16y1 N (w12y0 N y64) y65) (w16y2 N (w12y0 N y64) y65) x55_5 x55_6 x55_7) <|
  ck (!!(!(decide (w16y0 N (w12y0 N y64) y65 = w19y0 N y66 y67) && (decide (w16y1 N (w12y0 N y64) y65 = w19y1 N y66 y67) && decide (w16y2 N (w12y0 N y64) y65 = w19y2 N y66 y67))) || decide (w16y3 N (w12y0 N y64) y65 ≠ w19y3 N y66 y67)) || w21p N (w16y0 N (w12y0 N y64) y65) (w16y1 N (w12y0 N y64) y65) (w16y2 N (w12y0 N y64) y65) x55_5 x55_6 x55_7) <|
  ck (!!(!(decide (w16y0 N (w12y0 N y64) y65 = w19y0 N y66 y67) && (decide (w16y1 N (w12y0 N y64) y65 = w19y1 N y66 y67) && decide (w16y2 N (w12y0 N y64) y65 = w19y2 N y66 y67))) || decide (w16y3 N (w12y0 N y64) y65 ≠ w19y3 N y66 y67) || !w20y0 N (w16y0 N (w12y0 N y64) y65) (w16y1 N (w12y0 N y64) y65) (w16y2 N (w12y0 N y64) y65) x55_5 x55_6 x55_7 == w21y0 N (w16y0 N (w12y0 N y64) y65) (w16y1 N (w12y0 N y64) y65) (w16y2 N (w12y0 N y64) y65) x55_5 x55_6 x55_7) || w20p N x55_5 x55_6 x55_7 (w16y0 N (w12y0 N y64) y65) (w16y1 N (w12y0 N y64) y65) (w16y2 N (w12y0 N y64) y65)) <|
  ck (!!(!(decide (w16y0 N (w12y0 N y64) y65 = w19y0 N y66 y67) && (decide (w16y1 N (w12y0 N y64) y65 = w19y1 N y66 y67) && decide (w16y2 N (w12y0 N y64) y65 = w19y2 N y66 y67))) || decide (w16y3 N (w12y0 N y64) y65 ≠ w19y3 N y66 y67) || !w20y0 N (w16y0 N (w12y0 N y64) y65) (w16y1 N (w12y0 N y64) y65) (w16y2 N (w12y0 N y64) y65) x55_5 x55_6 x55_7 == w21y0 N (w16y0 N (w12y0 N y64) y65) (w16y1 N (w12y0 N y64) y65) (w16y2 N (w12y0 N y64) y65) x55_5 x55_6 x55_7) || w21p N x55_5 x55_6 x55_7 (w16y0 N (w12y0 N y64) y65) (w16y1 N (w12y0 N y64) y65) (w16y2 N (w12y0 N y64) y65)) <|
  br (!(decide (w16y0 N (w12y0 N y64) y65 = w19y0 N y66 y67) && (decide (w16y1 N (w12y0 N y64) y65 = w19y1 N y66 y67) && decide (w16y2 N (w12y0 N y64) y65 = w19y2 N y66 y67))) || decide (w16y3 N (w12y0 N y64) y65 ≠ w19y3 N y66 y67) || !w20y0 N (w16y0 N (w12y0 N y64) y65) (w16y1 N (w12y0 N y64) y65) (w16y2 N (w12y0 N y64) y65) x55_5 x55_6 x55_7 == w21y0 N (w16y0 N (w12y0 N y64) y65) (w16y1 N (w12y0 N y64) y65) (w16y2 N (w12y0 N y64) y65) x55_5 x55_6 x55_7 || !w20y0 N x55_5 x55_6 x55_7 (w16y0 N (w12y0 N y64) y65) (w16y1 N (w12y0 N y64) y65) (w16y2 N (w12y0 N y64) y65) == w21y0 N x55_5 x55_6 x55_7 (w16y0 N (w12y0 N y64) y65) (w16y1 N (w12y0 N y64) y65) (w16y2 N (w12y0 N y64) y65))
   (k0 false)
   (self (IntKind.i64.wrap (x55_4 + (1 : Int)))))
  (k1 x55_0 x55_1 x55_2 x55_3 x55_4 x55_4 ((↑x55_9.length : Int)) (decide (x55_4 < (↑x55_9.length : Int))) x55_5 x55_6 x55_7 x55_8 x55_9)
noncomputable def w5b0 : Code := atC [1, 1, 1, 1, 0, 1, 0, 0, 1, 0, 0, 1, 0, 0] w5b
def w5m0 : Nm := ⟨[13, 14, 16, 17, 18, 46, 47, 19], [], []⟩
def w5I0 (x : Bool × Int × Int × Bool × Int × Int × Int × Int × (List (List ((List Int) × (Int × Int)))) × (List (List Bool))) : Sg := ⟨[(13, .ref 0 0), (14, .e .bo x.1), (16, .own 1), (17, .own 2), (18, .e (.i .i64) x.2.1), (46, .e (.i .i64) x.2.2.1), (47, .e .bo x.2.2.2.1), (19, .e (.i .i64) x.2.2.2.2.1)], [(0, .box 38 [.e (.i .i64) x.2.2.2.2.2.1, .e (.i .i64) x.2.2.2.2.2.2.1, .e (.i .i64) x.2.2.2.2.2.2.2.1]), (1, .row 23 (.sl (.pr (.sl (.i .i64)) (.pr (.i .i64) (.i .i64)))) x.2.2.2.2.2.2.2.2.1 true), (2, .row 28 (.sl .bo) x.2.2.2.2.2.2.2.2.2 true)], 100⟩
def w5u0 (σ : Sg) : Bool × Int × Int × Bool × Int × Int × Int × Int × (List (List ((List Int) × (Int × Int)))) × (List (List Bool)) := (lvT .bo 14 0 σ, lvT (.i .i64) 18 0 σ, lvT (.i .i64) 46 0 σ, lvT .bo 47 0 σ, lvT (.i .i64) 19 0 σ, lvH (.i .i64) 0 0 σ, lvH (.i .i64) 0 1 σ, lvH (.i .i64) 0 2 σ, lvR (.sl (.pr (.sl (.i .i64)) (.pr (.i .i64) (.i .i64)))) 1 σ, lvR (.sl .bo) 2 σ)
theorem w5ui0 : ∀ x, w5u0 (w5I0 x) = x := fun _ => by kernel_rfl
def w5X0_0 (y : Bool) : Exit × Sg := (.ret, ⟨[(14, .e .bo y)], [], 100⟩)
def w5v0_0 (σ : Sg) : Bool := lvT .bo 14 0 σ
def w5X0_1 (y : Bool × Int × Int × Bool × Int × Int × Int × Bool × Int × Int × Int × (List (List ((List Int) × (Int × Int)))) × (List (List Bool))) : Exit × Sg := ((.exit 2), ⟨[(13, .ref 0 0), (14, .e .bo y.1), (16, .own 1), (17, .own 2), (18, .e (.i .i64) y.2.1), (46, .e (.i .i64) y.2.2.1), (47, .e .bo y.2.2.2.1), (19, .e (.i .i64) y.2.2.2.2.1), (50, .e (.i .i64) y.2.2.2.2.2.1), (51, .own 2), (52, .e (.i .i64) y.2.2.2.2.2.2.1), (53, .e .bo y.2.2.2.2.2.2.2.1)], [(0, .box 38 [.e (.i .i64) y.2.2.2.2.2.2.2.2.1, .e (.i .i64) y.2.2.2.2.2.2.2.2.2.1, .e (.i .i64) y.2.2.2.2.2.2.2.2.2.2.1]), (1, .row 23 (.sl (.pr (.sl (.i .i64)) (.pr (.i .i64) (.i .i64)))) y.2.2.2.2.2.2.2.2.2.2.2.1 true), (2, .row 28 (.sl .bo) y.2.2.2.2.2.2.2.2.2.2.2.2 true)], 100⟩)
def w5v0_1 (σ : Sg) : Bool × Int × Int × Bool × Int × Int × Int × Bool × Int × Int × Int × (List (List ((List Int) × (Int × Int)))) × (List (List Bool)) := (lvT .bo 14 0 σ, lvT (.i .i64) 18 0 σ, lvT (.i .i64) 46 0 σ, lvT .bo 47 0 σ, lvT (.i .i64) 19 0 σ, lvT (.i .i64) 50 0 σ, lvT (.i .i64) 52 0 σ, lvT .bo 53 0 σ, lvH (.i .i64) 0 0 σ, lvH (.i .i64) 0 1 σ, lvH (.i .i64) 0 2 σ, lvR (.sl (.pr (.sl (.i .i64)) (.pr (.i .i64) (.i .i64)))) 1 σ, lvR (.sl .bo) 2 σ)
def w5w0 : List (Exit × Nm) := [(.ret, ⟨[14], [], []⟩), ((.exit 2), ⟨[13, 14, 16, 17, 18, 46, 47, 19, 50, 51, 52, 53], [], []⟩)]
theorem w5o0 : Outs w5v0_0 w5v0_1 (fun _ => ()) w5X0_0 w5X0_1 (noX 2) .ret (.exit 2) (.goto 2) := ⟨fun _ => by kernel_rfl, fun _ => by kernel_rfl, fun _ => by kernel_rfl, fun _ => by kernel_rfl, fun _ => by kernel_rfl, fun _ => by kernel_rfl, exNe_ok (by kernel_rfl), exNe_ok (by kernel_rfl), exNe_ok (by kernel_rfl)⟩
def w5l0 [Alg] (N : Nat) : Nat → (Bool × Int × Int × Bool × Int × Int × Int × Int × (List (List ((List Int) × (Int × Int)))) × (List (List Bool))) → ((Bool) → O) → ((Bool × Int × Int × Bool × Int × Int × Int × Bool × Int × Int × Int × (List (List ((List Int) × (Int × Int)))) × (List (List Bool))) → O) → ((Unit) → O) → O
 | 0, _, _, _, _ => none
 | n + 1, x, k0, k1, k2 => w5F0 N  (fun v0 => w5l0 N n (x.1, x.2.1, x.2.2.1, x.2.2.2.1, v0, x.2.2.2.2.2.1, x.2.2.2.2.2.2.1, x.2.2.2.2.2.2.2.1, x.2.2.2.2.2.2.2.2.1, x.2.2.2.2.2.2.2.2.2) k0 k1 k2) (fun y0 => k0 y0) (fun y0 y1 y2 y3 y4 y5 y6 y7 y8 y9 y10 y11 y12 => k1 (y0, y1, y2, y3, y4, y5, y6, y7, y8, y9, y10, y11, y12)) x.1 x.2.1 x.2.2.1 x.2.2.2.1 x.2.2.2.2.2.1 x.2.2.2.2.2.2.1 x.2.2.2.2.2.2.2.1 x.2.2.2.2.2.2.2.2.1 x.2.2.2.2.2.2.2.2.2 x.2.2.2.2.1
def w5n0 [Alg] (N : Nat) (a0 : Bool) (a1 : Int) (a2 : Int) (a3 : Bool) (a4 : Int) (a5 : Int) (a6 : Int) (a7 : Int) (a8 : (List (List ((List Int) × (Int × Int))))) (a9 : (List (List Bool))) (k0 : Bool → O) (k1 : Bool → Int → Int → Bool → Int → Int → Int → Bool → Int → Int → Int → (List (List ((List Int) × (Int × Int)))) → (List (List Bool)) → O) : O := w5l0 N N (a0, a1, a2, a3, a4, a5, a6, a7, a8, a9) (fun y => k0 y) (fun y => k1 y.1 y.2.1 y.2.2.1 y.2.2.2.1 y.2.2.2.2.1 y.2.2.2.2.2.1 y.2.2.2.2.2.2.1 y.2.2.2.2.2.2.2.1 y.2.2.2.2.2.2.2.2.1 y.2.2.2.2.2.2.2.2.2.1 y.2.2.2.2.2.2.2.2.2.2.1 y.2.2.2.2.2.2.2.2.2.2.2.1 y.2.2.2.2.2.2.2.2.2.2.2.2) (fun _ => none)
noncomputable def w5s0 [Alg] (N : Nat) (a0 : Bool) (a1 : Int) (a2 : Int) (a3 : Bool) (a4 : Int) (a5 : Int) (a6 : Int) (a7 : Int) (a8 : (List (List ((List Int) × (Int × Int))))) (a9 : (List (List Bool))) (k0 : Bool → O) (k1 : Bool → Int → Int → Bool → Int → Int → Int → Bool → Int → Int → Int → (List (List ((List Int) × (Int × Int)))) → (List (List Bool)) → O) : O := subL w5I0 w5u0 (w5l0 N N) (w5I0 (a0, a1, a2, a3, a4, a5, a6, a7, a8, a9)) (fun y => k0 y) (fun y => k1 y.1 y.2.1 y.2.2.1 y.2.2.2.1 y.2.2.2.2.1 y.2.2.2.2.2.1 y.2.2.2.2.2.2.1 y.2.2.2.2.2.2.2.1 y.2.2.2.2.2.2.2.2.1 y.2.2.2.2.2.2.2.2.2.1 y.2.2.2.2.2.2.2.2.2.2.1 y.2.2.2.2.2.2.2.2.2.2.2.1 y.2.2.2.2.2.2.2.2.2.2.2.2) (fun _ => none)
theorem w5e0 [Alg] (N : Nat) : w5s0 N = w5n0 N := funext fun _ => funext fun _ => funext fun _ => funext fun _ => funext fun _ => funext fun _ => funext fun _ => funext fun _ => funext fun _ => funext fun _ => funext fun _ => funext fun _ => subL_I w5ui0 _ _ _ _
noncomputable def w5h0 [Alg] (_ : Nat) : Hint := (.seq .d (.seq (.block (.seq (.reg [] [] [[], [], [], [], [], [], [], [], [], [], [], [], [], [], [236], []]) (.seq (.reg [] [] [[], [], [], [], [], [], [], [], [], [], [], [], [], [356], []]) .d))) .d))
theorem w5hk0 (N : Nat) : HintOk (w5c N) Tryd.f5.ntmps (w5h0 N) w5b0 := hk_of _ _ (And.intro trivial (And.intro (And.intro trivial (And.intro trivial trivial)) trivial))
theorem w5q0 [Alg] (N : Nat) (self : Sg → O) (K : Exit → Sg → O) (x : Bool × Int × Int × Bool × Int × Int × Int × Int × (List (List ((List Int) × (Int × Int)))) × (List (List Bool))) : w5F0 N  (fun v0 => self (w5I0 (x.1, x.2.1, x.2.2.1, x.2.2.2.1, v0, x.2.2.2.2.2.1, x.2.2.2.2.2.2.1, x.2.2.2.2.2.2.2.1, x.2.2.2.2.2.2.2.2.1, x.2.2.2.2.2.2.2.2.2))) (fun y0 => K (w5X0_0 y0).1 (w5X0_0 y0).2) (fun y0 y1 y2 y3 y4 y5 y6 y7 y8 y9 y10 y11 y12 => K (w5X0_1 (y0, y1, y2, y3, y4, y5, y6, y7, y8, y9, y10, y11, y12)).1 (w5X0_1 (y0, y1, y2, y3, y4, y5, y6, y7, y8, y9, y10, y11, y12)).2) x.1 x.2.1 x.2.2.1 x.2.2.2.1 x.2.2.2.2.2.1 x.2.2.2.2.2.2.1 x.2.2.2.2.2.2.2.1 x.2.2.2.2.2.2.2.2.1 x.2.2.2.2.2.2.2.2.2 x.2.2.2.2.1 = exec (w5c N) Tryd.f5.ntmps (w5h0 N) w5b0 (w5I0 x) (roundX w5m0 w5w0 self K) := by kernel_rfl
theorem w5S0 (N : Nat) (hc : CxOk (w5c N)) : SubOk (w5c N) Tryd.f5.ntmps (.loop w5b0) w5X0_0 w5X0_1 (noX 2) (subL w5I0 w5u0 (w5l0 N N)) :=
 sub_loop hc (w5hk0 N) w5o0 (n := N) (fun x K => loop_ind (w5l0 N) (fun _ _ _ _ => rfl) (fun n K ih x => by
  have h : w5F0 N  (fun v0 => w5l0 N n (x.1, x.2.1, x.2.2.1, x.2.2.2.1, v0, x.2.2.2.2.2.1, x.2.2.2.2.2.2.1, x.2.2.2.2.2.2.2.1, x.2.2.2.2.2.2.2.2.1, x.2.2.2.2.2.2.2.2.2) (fun y => K (w5X0_0 y).1 (w5X0_0 y).2) (fun y => K (w5X0_1 y).1 (w5X0_1 y).2) (fun y => K ((noX 2) y).1 ((noX 2) y).2)) (fun y0 => K (w5X0_0 y0).1 (w5X0_0 y0).2) (fun y0 y1 y2 y3 y4 y5 y6 y7 y8 y9 y10 y11 y12 => K (w5X0_1 (y0, y1, y2, y3, y4, y5, y6, y7, y8, y9, y10, y11, y12)).1 (w5X0_1 (y0, y1, y2, y3, y4, y5, y6, y7, y8, y9, y10, y11, y12)).2) x.1 x.2.1 x.2.2.1 x.2.2.2.1 x.2.2.2.2.2.1 x.2.2.2.2.2.2.1 x.2.2.2.2.2.2.2.1 x.2.2.2.2.2.2.2.2.1 x.2.2.2.2.2.2.2.2.2 x.2.2.2.2.1 = w5F0 N  (fun v0 => loopX (w5c N) Tryd.f5.ntmps (w5h0 N) w5b0 w5m0 w5w0 n (w5I0 (x.1, x.2.1, x.2.2.1, x.2.2.2.1, v0, x.2.2.2.2.2.1, x.2.2.2.2.2.2.1, x.2.2.2.2.2.2.2.1, x.2.2.2.2.2.2.2.2.1, x.2.2.2.2.2.2.2.2.2)) K) (fun y0 => K (w5X0_0 y0).1 (w5X0_0 y0).2) (fun y0 y1 y2 y3 y4 y5 y6 y7 y8 y9 y10 y11 y12 => K (w5X0_1 (y0, y1, y2, y3, y4, y5, y6, y7, y8, y9, y10, y11, y12)).1 (w5X0_1 (y0, y1, y2, y3, y4, y5, y6, y7, y8, y9, y10, y11, y12)).2) x.1 x.2.1 x.2.2.1 x.2.2.2.1 x.2.2.2.2.2.1 x.2.2.2.2.2.2.1 x.2.2.2.2.2.2.2.1 x.2.2.2.2.2.2.2.2.1 x.2.2.2.2.2.2.2.2.2 x.2.2.2.2.1 := by rw [ show (fun v0 => w5l0 N n (x.1, x.2.1, x.2.2.1, x.2.2.2.1, v0, x.2.2.2.2.2.1, x.2.2.2.2.2.2.1, x.2.2.2.2.2.2.2.1, x.2.2.2.2.2.2.2.2.1, x.2.2.2.2.2.2.2.2.2) (fun y => K (w5X0_0 y).1 (w5X0_0 y).2) (fun y => K (w5X0_1 y).1 (w5X0_1 y).2) (fun y => K ((noX 2) y).1 ((noX 2) y).2)) = (fun v0 => loopX (w5c N) Tryd.f5.ntmps (w5h0 N) w5b0 w5m0 w5w0 n (w5I0 (x.1, x.2.1, x.2.2.1, x.2.2.2.1, v0, x.2.2.2.2.2.1, x.2.2.2.2.2.2.1, x.2.2.2.2.2.2.2.1, x.2.2.2.2.2.2.2.2.1, x.2.2.2.2.2.2.2.2.2)) K) from funext fun _ => ih _]
  exact h.trans (w5q0 N (fun σ => loopX (w5c N) Tryd.f5.ntmps (w5h0 N) w5b0 w5m0 w5w0 n σ K) K x)) N x K)
def w5F1 [Alg] (_ : Nat) (in0 : Bool → Int → Int → Bool → Int → Int → Int → Int → (List (List ((List Int) × (Int × Int)))) → (List (List Bool)) → (Bool → O) → (Bool → Int → Int → Bool → Int → Int → Int → Bool → Int → Int → Int → (List (List ((List Int) × (Int × Int)))) → (List (List Bool)) → O) → O) (self : Bool → Int → Int → Int → Int → (List (List ((List Int) × (Int × Int)))) → (List (List Bool)) → O) (k0 : Bool → O) (k1 : Bool → O) (x0_0 : Bool) (x0_1 : Int) (x0_2 : Int) (x0_3 : Int) (x0_4 : Int) (x0_5 : (List (List ((List Int) × (Int × Int))))) (x0_6 : (List (List Bool))) : O :=
 br (decide (x0_1 < (2 : Int)))
  (in0 x0_0 x0_1 x0_1 (decide (x0_1 < (2 : Int))) ((0 : Int)) x0_2 x0_3 x0_4 x0_5 x0_6
   (fun z68 =>
    k0 z68)
   (fun z69 z70 _ _ _ _ _ _ z77 z78 z79 z80 z81 =>
    self z69 (IntKind.i64.wrap (z70 + (1 : Int))) z77 z78 z79 z80 z81))
  (k1 x0_0)
noncomputable def w5b1 : Code := atC [1, 1, 1, 1, 0, 1, 0, 0] w5b
def w5m1 : Nm := ⟨[13, 14, 16, 17, 18], [], []⟩
def w5I1 (x : Bool × Int × Int × Int × Int × (List (List ((List Int) × (Int × Int)))) × (List (List Bool))) : Sg := ⟨[(13, .ref 0 0), (14, .e .bo x.1), (16, .own 1), (17, .own 2), (18, .e (.i .i64) x.2.1)], [(0, .box 38 [.e (.i .i64) x.2.2.1, .e (.i .i64) x.2.2.2.1, .e (.i .i64) x.2.2.2.2.1]), (1, .row 23 (.sl (.pr (.sl (.i .i64)) (.pr (.i .i64) (.i .i64)))) x.2.2.2.2.2.1 true), (2, .row 28 (.sl .bo) x.2.2.2.2.2.2 true)], 100⟩
def w5u1 (σ : Sg) : Bool × Int × Int × Int × Int × (List (List ((List Int) × (Int × Int)))) × (List (List Bool)) := (lvT .bo 14 0 σ, lvT (.i .i64) 18 0 σ, lvH (.i .i64) 0 0 σ, lvH (.i .i64) 0 1 σ, lvH (.i .i64) 0 2 σ, lvR (.sl (.pr (.sl (.i .i64)) (.pr (.i .i64) (.i .i64)))) 1 σ, lvR (.sl .bo) 2 σ)
theorem w5ui1 : ∀ x, w5u1 (w5I1 x) = x := fun _ => by kernel_rfl
def w5X1_0 (y : Bool) : Exit × Sg := (.ret, ⟨[(14, .e .bo y)], [], 100⟩)
def w5v1_0 (σ : Sg) : Bool := lvT .bo 14 0 σ
def w5X1_1 (y : Bool) : Exit × Sg := ((.exit 0), ⟨[(14, .e .bo y)], [], 100⟩)
def w5v1_1 (σ : Sg) : Bool := lvT .bo 14 0 σ
def w5w1 : List (Exit × Nm) := [(.ret, ⟨[14], [], []⟩), ((.exit 0), ⟨[14], [], []⟩)]
theorem w5o1 : Outs w5v1_0 w5v1_1 (fun _ => ()) w5X1_0 w5X1_1 (noX 2) .ret (.exit 0) (.goto 2) := ⟨fun _ => by kernel_rfl, fun _ => by kernel_rfl, fun _ => by kernel_rfl, fun _ => by kernel_rfl, fun _ => by kernel_rfl, fun _ => by kernel_rfl, exNe_ok (by kernel_rfl), exNe_ok (by kernel_rfl), exNe_ok (by kernel_rfl)⟩
def w5l1 [Alg] (N : Nat) : Nat → (Bool × Int × Int × Int × Int × (List (List ((List Int) × (Int × Int)))) × (List (List Bool))) → ((Bool) → O) → ((Bool) → O) → ((Unit) → O) → O
 | 0, _, _, _, _ => none
 | n + 1, x, k0, k1, k2 => w5F1 N (w5n0 N) (fun v0 v1 v2 v3 v4 v5 v6 => w5l1 N n (v0, v1, v2, v3, v4, v5, v6) k0 k1 k2) (fun y0 => k0 y0) (fun y0 => k1 y0) x.1 x.2.1 x.2.2.1 x.2.2.2.1 x.2.2.2.2.1 x.2.2.2.2.2.1 x.2.2.2.2.2.2
def w5n1 [Alg] (N : Nat) (a0 : Bool) (a1 : Int) (a2 : Int) (a3 : Int) (a4 : Int) (a5 : (List (List ((List Int) × (Int × Int))))) (a6 : (List (List Bool))) (k0 : Bool → O) (k1 : Bool → O) : O := w5l1 N N (a0, a1, a2, a3, a4, a5, a6) (fun y => k0 y) (fun y => k1 y) (fun _ => none)
noncomputable def w5s1 [Alg] (N : Nat) (a0 : Bool) (a1 : Int) (a2 : Int) (a3 : Int) (a4 : Int) (a5 : (List (List ((List Int) × (Int × Int))))) (a6 : (List (List Bool))) (k0 : Bool → O) (k1 : Bool → O) : O := subL w5I1 w5u1 (w5l1 N N) (w5I1 (a0, a1, a2, a3, a4, a5, a6)) (fun y => k0 y) (fun y => k1 y) (fun _ => none)
theorem w5e1 [Alg] (N : Nat) : w5s1 N = w5n1 N := funext fun _ => funext fun _ => funext fun _ => funext fun _ => funext fun _ => funext fun _ => funext fun _ => funext fun _ => funext fun _ => subL_I w5ui1 _ _ _ _
noncomputable def w5h1 [Alg] (N : Nat) : Hint := (.seq .d (.seq (.block (.seq .d (.block (.sub w5m0 _ _ _ w5X0_0 w5X0_1 (noX 2) (subL w5I0 w5u0 (w5l0 N N)))))) .d))
theorem w5hk1 (N : Nat) (hc : CxOk (w5c N)) : HintOk (w5c N) Tryd.f5.ntmps (w5h1 N) w5b1 := hk_of _ _ (And.intro trivial (And.intro (And.intro trivial (w5S0 N hc)) trivial))
theorem w5q1 [Alg] (N : Nat) (self : Sg → O) (K : Exit → Sg → O) (x : Bool × Int × Int × Int × Int × (List (List ((List Int) × (Int × Int)))) × (List (List Bool))) : w5F1 N (w5s0 N) (fun v0 v1 v2 v3 v4 v5 v6 => self (w5I1 (v0, v1, v2, v3, v4, v5, v6))) (fun y0 => K (w5X1_0 y0).1 (w5X1_0 y0).2) (fun y0 => K (w5X1_1 y0).1 (w5X1_1 y0).2) x.1 x.2.1 x.2.2.1 x.2.2.2.1 x.2.2.2.2.1 x.2.2.2.2.2.1 x.2.2.2.2.2.2 = exec (w5c N) Tryd.f5.ntmps (w5h1 N) w5b1 (w5I1 x) (roundX w5m1 w5w1 self K) := by kernel_rfl
theorem w5S1 (N : Nat) (hc : CxOk (w5c N)) : SubOk (w5c N) Tryd.f5.ntmps (.loop w5b1) w5X1_0 w5X1_1 (noX 2) (subL w5I1 w5u1 (w5l1 N N)) :=
 sub_loop hc (w5hk1 N hc) w5o1 (n := N) (fun x K => loop_ind (w5l1 N) (fun _ _ _ _ => rfl) (fun n K ih x => by
  have h : w5F1 N (w5n0 N) (fun v0 v1 v2 v3 v4 v5 v6 => w5l1 N n (v0, v1, v2, v3, v4, v5, v6) (fun y => K (w5X1_0 y).1 (w5X1_0 y).2) (fun y => K (w5X1_1 y).1 (w5X1_1 y).2) (fun y => K ((noX 2) y).1 ((noX 2) y).2)) (fun y0 => K (w5X1_0 y0).1 (w5X1_0 y0).2) (fun y0 => K (w5X1_1 y0).1 (w5X1_1 y0).2) x.1 x.2.1 x.2.2.1 x.2.2.2.1 x.2.2.2.2.1 x.2.2.2.2.2.1 x.2.2.2.2.2.2 = w5F1 N (w5s0 N) (fun v0 v1 v2 v3 v4 v5 v6 => loopX (w5c N) Tryd.f5.ntmps (w5h1 N) w5b1 w5m1 w5w1 n (w5I1 (v0, v1, v2, v3, v4, v5, v6)) K) (fun y0 => K (w5X1_0 y0).1 (w5X1_0 y0).2) (fun y0 => K (w5X1_1 y0).1 (w5X1_1 y0).2) x.1 x.2.1 x.2.2.1 x.2.2.2.1 x.2.2.2.2.1 x.2.2.2.2.2.1 x.2.2.2.2.2.2 := by rw [w5e0 N, show (fun v0 v1 v2 v3 v4 v5 v6 => w5l1 N n (v0, v1, v2, v3, v4, v5, v6) (fun y => K (w5X1_0 y).1 (w5X1_0 y).2) (fun y => K (w5X1_1 y).1 (w5X1_1 y).2) (fun y => K ((noX 2) y).1 ((noX 2) y).2)) = (fun v0 v1 v2 v3 v4 v5 v6 => loopX (w5c N) Tryd.f5.ntmps (w5h1 N) w5b1 w5m1 w5w1 n (w5I1 (v0, v1, v2, v3, v4, v5, v6)) K) from funext fun _ => funext fun _ => funext fun _ => funext fun _ => funext fun _ => funext fun _ => funext fun _ => ih _]
  exact h.trans (w5q1 N (fun σ => loopX (w5c N) Tryd.f5.ntmps (w5h1 N) w5b1 w5m1 w5w1 n σ K) K x)) N x K)
def w5G [Alg] (N : Nat) (_in0 : Bool → Int → Int → Bool → Int → Int → Int → Int → (List (List ((List Int) × (Int × Int)))) → (List (List Bool)) → (Bool → O) → (Bool → Int → Int → Bool → Int → Int → Int → Bool → Int → Int → Int → (List (List ((List Int) × (Int × Int)))) → (List (List Bool)) → O) → O) (in1 : Bool → Int → Int → Int → Int → (List (List ((List Int) × (Int × Int)))) → (List (List Bool)) → (Bool → O) → (Bool → O) → O) (l0 : (List Int)) (at1 : Int) (how2 : Int) (by3 : Int) (n4 : Int) (raw5 : (List Bool)) (fault6_0 : Int) (fault6_1 : Int) (fault6_2 : Int) : O :=
 ck (w9p N l0) <|
 ck (w10p N (w9y0 N l0) at1 how2 by3) <|
 ck (v17p N n4) <|
 ck (v17p N by3) <|
 ck (v17p N n4) <|
 ck (slcOk (v17y0 N n4).length (some (1 : Int)) none) <|
 ck (v17p N n4) <|
 ck (lim (v17y0 N n4 ++ [true]).length (1 : Nat)) <|
 in1 false ((0 : Int)) fault6_0 fault6_1 fault6_2 [w9y0 N l0, w10y0 N (w9y0 N l0) at1 how2 by3] [v17y0 N n4, v17y0 N by3, raw5, [], slc (v17y0 N n4) (some (1 : Int)) none, v17y0 N n4 ++ [true]]
  (fun z82 =>
   some (w5r0 z82))
  (fun _ =>
   ck true <|
   some (w5r0 true))
def w5 [Alg] (N : Nat) (l0 : (List Int)) (at1 : Int) (how2 : Int) (by3 : Int) (n4 : Int) (raw5 : (List Bool)) (fault6_0 : Int) (fault6_1 : Int) (fault6_2 : Int) : O := w5G N (w5n0 N) (w5n1 N) l0 at1 how2 by3 n4 raw5 fault6_0 fault6_1 fault6_2
noncomputable def w5h [Alg] (N : Nat) : Hint := (.seq .d (.seq .d (.seq .d (.seq (.reg [] [] [[], [], [], [], [], [], [], [], [], [], [], [292, 276], [], []]) (.seq (.seq .d (.block (.sub w5m1 _ _ _ w5X1_0 w5X1_1 (noX 2) (subL w5I1 w5u1 (w5l1 N N))))) .d)))))
theorem w5hk (N : Nat) (hc : CxOk (w5c N)) : HintOk (w5c N) Tryd.f5.ntmps (w5h N) w5b := hk_of _ _ (And.intro trivial (And.intro trivial (And.intro trivial (And.intro trivial (And.intro (And.intro trivial (w5S1 N hc)) trivial)))))
theorem w5q [Alg] (N : Nat) (l0 : (List Int)) (at1 : Int) (how2 : Int) (by3 : Int) (n4 : Int) (raw5 : (List Bool)) (fault6_0 : Int) (fault6_1 : Int) (fault6_2 : Int) : w5G N (w5s0 N) (w5s1 N) l0 at1 how2 by3 n4 raw5 fault6_0 fault6_1 fault6_2 = exec (w5c N) Tryd.f5.ntmps (w5h N) w5b ⟨argT 0 [.e (.sl (.i .i64)) l0, .e (.i .i64) at1, .e (.i .i64) how2, .e (.i .i64) by3, .e (.i .i64) n4, .e (.sl .bo) raw5, .agg [.e (.i .i64) fault6_0, .e (.i .i64) fault6_1, .e (.i .i64) fault6_2]], [], 100⟩ (finX (w5c N) Tryd.f5 false) := by kernel_rfl
theorem w5does {N : Nat} (hc : CxOk (w5c N)) {l0 : (List Int)} {at1 : Int} {how2 : Int} {by3 : Int} {n4 : Int} {raw5 : (List Bool)} {fault6_0 : Int} {fault6_1 : Int} {fault6_2 : Int} {r : Res} (h : w5 N l0 at1 how2 by3 n4 raw5 fault6_0 fault6_1 fault6_2 = some r) : Does Tryd.prog 5 (([.e (.sl (.i .i64)) l0, .e (.i .i64) at1, .e (.i .i64) how2, .e (.i .i64) by3, .e (.i .i64) n4, .e (.sl .bo) raw5, .agg [.e (.i .i64) fault6_0, .e (.i .i64) fault6_1, .e (.i .i64) fault6_2]] : List X).map X.D) (HA []) r.1.D (HA r.2) :=
 fun_ok hc (f := 5) (fn := Tryd.f5) (code := w5b) (by kernel_rfl) (by kernel_rfl) (w5hk N hc) (Nat.le_of_ble_eq_true (by kernel_rfl)) (ow := false) ((w5q N l0 at1 how2 by3 n4 raw5 fault6_0 fault6_1 fault6_2).symm.trans (by rw [w5e0 N, w5e1 N]; exact h))
def w5un (r : Res) : Option (Bool) := match r with
 | (x0, []) => (match ue .bo x0 with | some a0 => some a0 | _ => none)
 | _ => none
theorem w5uo {r : Res} {d : Bool} (h : w5un r = some d) : r = w5r0 (d) := by
 unfold w5un at h
 split at h
 ·split at h
  ·rename_i h0; cases h; rw [ue_some h0]; rfl
  ·cases h
 ·cases h
def w5z (N : Nat) (l0 : (List Int)) (at1 : Int) (how2 : Int) (by3 : Int) (n4 : Int) (raw5 : (List Bool)) (fault6_0 : Int) (fault6_1 : Int) (fault6_2 : Int) : Option (Bool) := (w5 N l0 at1 how2 by3 n4 raw5 fault6_0 fault6_1 fault6_2).bind w5un
theorem w5fin {N : Nat} (hc : CxOk (w5c N)) {l0 : (List Int)} {at1 : Int} {how2 : Int} {by3 : Int} {n4 : Int} {raw5 : (List Bool)} {fault6_0 : Int} {fault6_1 : Int} {fault6_2 : Int} {d : Bool} (hd : w5z N l0 at1 how2 by3 n4 raw5 fault6_0 fault6_1 fault6_2 = some d) : Does Tryd.prog 5 (([.e (.sl (.i .i64)) l0, .e (.i .i64) at1, .e (.i .i64) how2, .e (.i .i64) by3, .e (.i .i64) n4, .e (.sl .bo) raw5, .agg [.e (.i .i64) fault6_0, .e (.i .i64) fault6_1, .e (.i .i64) fault6_2]] : List X).map X.D) (HA []) (w5r0 (d)).1.D (HA (w5r0 (d)).2) := by
 obtain ⟨r, hr, hu⟩ := Option.bind_eq_some_iff.1 hd
 have := w5does hc hr
 rw [w5uo hu] at this
 exact this
end
end Go.Proofs
