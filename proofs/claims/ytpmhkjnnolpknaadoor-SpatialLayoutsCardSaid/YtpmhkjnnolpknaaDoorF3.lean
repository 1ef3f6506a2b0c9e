/- What functions do; the examples hold. Conditions are in the theorems. -/
import Derived.Test.YtpmhkjnnolpknaaDoorF2
import Derived.Test.YtpmhkjnnolpknaaDoorE7
import Derived.Test.YtpmhkjnnolpknaaDoorF0
import Derived.Test.YtpmhkjnnolpknaaDoorProg
import Derived.KernelRfl
/- The examples hold. -/
namespace Go.Proofs
open Go Go.Ax
theorem lives60 : w20z 60 = some true := by kernel_rfl
theorem l20ok (N : Nat) : EOk Tryd.prog 20 (l20e N) := EOk.e0 (fun _ => w20fin (w20cx 60) lives60)
end Go.Proofs
/- What functions do. -/
namespace Go.Proofs
noncomputable section
open Go.Ax Go.Ax.Alg Go.RowKit Go.Ab
open Go
def w4r0 (a0 : Bool) : Res := (.e .bo a0, [])
noncomputable def w4L (N : Nat) : List (Nat × Ent') := [(10, w10e N), (11, w11e N), (21, w21e N), (22, w22e N), (23, w23e N), (20, l20e N)]
noncomputable def w4c (N : Nat) : Cx := ⟨Tryd.prog, 99999, w4L N⟩
noncomputable def w4b : Code := Tryd.f4.body.getD .skip
theorem w4cx (N : Nat) : CxOk (w4c N) := ctx_ok (by kernel_rfl) (.cons (by kernel_rfl) (w10ok N) (.cons (by kernel_rfl) (w11ok N) (.cons (by kernel_rfl) (w21ok N) (.cons (by kernel_rfl) (w22ok N) (.cons (by kernel_rfl) (w23ok N) (.cons (by kernel_rfl) (l20ok N) .nil))))))
def w4F0 [Alg] (N : Nat)  (self : Int → O) (k0 : Bool → O) (k1 : Bool → O) (x0_0 : Bool) (x0_2 : (List (Int × (List Int)))) (x0_1 : Int) : O :=
  br (decide (x0_1 < (2 : Int)))
    (gx x0_2 x0_1 fun y5 =>
    ck (w21p N y5.1 y5.2) <|
    gx x0_2 x0_1 fun y6 =>
    ck (w22p N y6.1 y6.2) <|
    ck (!!decide (w21y1 N y5.1 y5.2 ≠ w22y1 N y6.1 y6.2) || w23p N (w21y0 N y5.1 y5.2) (w22y0 N y6.1 y6.2)) <|
    br (decide (w21y1 N y5.1 y5.2 ≠ w22y1 N y6.1 y6.2) || !w23y0 N (w21y0 N y5.1 y5.2) (w22y0 N y6.1 y6.2))
      (k0 false)
      (self (IntKind.i64.wrap (x0_1 + (1 : Int)))))
    (k1 x0_0)
noncomputable def w4b0 : Code := atC [1, 1, 1, 0, 1, 0, 0] w4b
def w4m0 : Nm := ⟨[6, 8, 9], [], []⟩
def w4I0 (x : Bool × Int × (List (Int × (List Int)))) : Sg := ⟨[(6, .e .bo x.1), (8, .own 0), (9, .e (.i .i64) x.2.1)], [(0, .row 24 (.pr (.i .i64) (.sl (.i .i64))) x.2.2 true)], 100⟩
def w4u0 (σ : Sg) : Bool × Int × (List (Int × (List Int))) := (lvT .bo 6 0 σ, lvT (.i .i64) 9 0 σ, lvR (.pr (.i .i64) (.sl (.i .i64))) 0 σ)
theorem w4ui0 : ∀ x, w4u0 (w4I0 x) = x := fun _ => by kernel_rfl
def w4X0_0 (y : Bool) : Exit × Sg := (.ret, ⟨[(6, .e .bo y)], [], 100⟩)
def w4v0_0 (σ : Sg) : Bool := lvT .bo 6 0 σ
def w4X0_1 (y : Bool) : Exit × Sg := ((.exit 0), ⟨[(6, .e .bo y)], [], 100⟩)
def w4v0_1 (σ : Sg) : Bool := lvT .bo 6 0 σ
def w4w0 : List (Exit × Nm) := [(.ret, ⟨[6], [], []⟩), ((.exit 0), ⟨[6], [], []⟩)]
theorem w4o0 : Outs w4v0_0 w4v0_1 (fun _ => ()) w4X0_0 w4X0_1 (noX 2) .ret (.exit 0) (.goto 2) := ⟨fun _ => by kernel_rfl, fun _ => by kernel_rfl, fun _ => by kernel_rfl, fun _ => by kernel_rfl, fun _ => by kernel_rfl, fun _ => by kernel_rfl, exNe_ok (by kernel_rfl), exNe_ok (by kernel_rfl), exNe_ok (by kernel_rfl)⟩
def w4l0 [Alg] (N : Nat) : Nat → (Bool × Int × (List (Int × (List Int)))) → ((Bool) → O) → ((Bool) → O) → ((Unit) → O) → O
  | 0, _, _, _, _ => none
  | n + 1, x, k0, k1, k2 => w4F0 N  (fun v0 => w4l0 N n (x.1, v0, x.2.2) k0 k1 k2) (fun y0 => k0 y0) (fun y0 => k1 y0) x.1 x.2.2 x.2.1
def w4n0 [Alg] (N : Nat) (a0 : Bool) (a1 : Int) (a2 : (List (Int × (List Int)))) (k0 : Bool → O) (k1 : Bool → O) : O := w4l0 N N (a0, a1, a2) (fun y => k0 y) (fun y => k1 y) (fun _ => none)
noncomputable def w4s0 [Alg] (N : Nat) (a0 : Bool) (a1 : Int) (a2 : (List (Int × (List Int)))) (k0 : Bool → O) (k1 : Bool → O) : O := subL w4I0 w4u0 (w4l0 N N) (w4I0 (a0, a1, a2)) (fun y => k0 y) (fun y => k1 y) (fun _ => none)
theorem w4e0 [Alg] (N : Nat) : w4s0 N = w4n0 N := funext fun _ => funext fun _ => funext fun _ => funext fun _ => funext fun _ => subL_I w4ui0 _ _ _ _
noncomputable def w4h0 [Alg] (_ : Nat) : Hint := .d
theorem w4hk0 (N : Nat) : HintOk (w4c N) Tryd.f4.ntmps (w4h0 N) w4b0 := hk_of _ _ trivial
theorem w4q0 [Alg] (N : Nat) (self : Sg → O) (K : Exit → Sg → O) (x : Bool × Int × (List (Int × (List Int)))) : w4F0 N  (fun v0 => self (w4I0 (x.1, v0, x.2.2))) (fun y0 => K (w4X0_0 y0).1 (w4X0_0 y0).2) (fun y0 => K (w4X0_1 y0).1 (w4X0_1 y0).2) x.1 x.2.2 x.2.1 = exec (w4c N) Tryd.f4.ntmps (w4h0 N) w4b0 (w4I0 x) (roundX w4m0 w4w0 self K) := by kernel_rfl
theorem w4S0 (N : Nat) (hc : CxOk (w4c N)) : SubOk (w4c N) Tryd.f4.ntmps (.loop w4b0) w4X0_0 w4X0_1 (noX 2) (subL w4I0 w4u0 (w4l0 N N)) :=
  sub_loop hc (w4hk0 N) w4o0 (n := N) (fun x K => loop_ind (w4l0 N) (fun _ _ _ _ => rfl) (fun n K ih x => by
    have h : w4F0 N  (fun v0 => w4l0 N n (x.1, v0, x.2.2) (fun y => K (w4X0_0 y).1 (w4X0_0 y).2) (fun y => K (w4X0_1 y).1 (w4X0_1 y).2) (fun y => K ((noX 2) y).1 ((noX 2) y).2)) (fun y0 => K (w4X0_0 y0).1 (w4X0_0 y0).2) (fun y0 => K (w4X0_1 y0).1 (w4X0_1 y0).2) x.1 x.2.2 x.2.1 = w4F0 N  (fun v0 => loopX (w4c N) Tryd.f4.ntmps (w4h0 N) w4b0 w4m0 w4w0 n (w4I0 (x.1, v0, x.2.2)) K) (fun y0 => K (w4X0_0 y0).1 (w4X0_0 y0).2) (fun y0 => K (w4X0_1 y0).1 (w4X0_1 y0).2) x.1 x.2.2 x.2.1 := by rw [ show (fun v0 => w4l0 N n (x.1, v0, x.2.2) (fun y => K (w4X0_0 y).1 (w4X0_0 y).2) (fun y => K (w4X0_1 y).1 (w4X0_1 y).2) (fun y => K ((noX 2) y).1 ((noX 2) y).2)) = (fun v0 => loopX (w4c N) Tryd.f4.ntmps (w4h0 N) w4b0 w4m0 w4w0 n (w4I0 (x.1, v0, x.2.2)) K) from funext fun _ => ih _]
    exact h.trans (w4q0 N (fun σ => loopX (w4c N) Tryd.f4.ntmps (w4h0 N) w4b0 w4m0 w4w0 n σ K) K x)) N x K)
def w4G [Alg] (N : Nat) (in0 : Bool → Int → (List (Int × (List Int))) → (Bool → O) → (Bool → O) → O) (l0 : (List Int)) (how1 : Int) (by2 : Int) : O :=
  ck (w10p N l0) <|
  ck (w11p N (w10y0 N l0) (w10y1 N l0) how1 by2) <|
  in0 false ((0 : Int)) [(w10y0 N l0, w10y1 N l0), (w11y0 N (w10y0 N l0) (w10y1 N l0) how1 by2, w11y1 N (w10y0 N l0) (w10y1 N l0) how1 by2)]
    (fun z7 =>
      some (w4r0 z7))
    (fun _ =>
      ck true <|
      some (w4r0 true))
def w4 [Alg] (N : Nat) (l0 : (List Int)) (how1 : Int) (by2 : Int) : O := w4G N (w4n0 N) l0 how1 by2
noncomputable def w4h [Alg] (N : Nat) : Hint := (.seq .d (.seq .d (.seq .d (.seq (.seq .d (.block (.sub w4m0 _ _ _ w4X0_0 w4X0_1 (noX 2) (subL w4I0 w4u0 (w4l0 N N))))) .d))))
theorem w4hk (N : Nat) (hc : CxOk (w4c N)) : HintOk (w4c N) Tryd.f4.ntmps (w4h N) w4b := hk_of _ _ (And.intro trivial (And.intro trivial (And.intro trivial (And.intro (And.intro trivial (w4S0 N hc)) trivial))))
theorem w4q [Alg] (N : Nat) (l0 : (List Int)) (how1 : Int) (by2 : Int) : w4G N (w4s0 N) l0 how1 by2 = exec (w4c N) Tryd.f4.ntmps (w4h N) w4b ⟨argT 0 [.e (.sl (.i .i64)) l0, .e (.i .i64) how1, .e (.i .i64) by2], [], 100⟩ (finX (w4c N) Tryd.f4 false) := by kernel_rfl
theorem w4does {N : Nat} (hc : CxOk (w4c N)) {l0 : (List Int)} {how1 : Int} {by2 : Int} {r : Res} (h : w4 N l0 how1 by2 = some r) : Does Tryd.prog 4 (([.e (.sl (.i .i64)) l0, .e (.i .i64) how1, .e (.i .i64) by2] : List X).map X.D) (HA []) r.1.D (HA r.2) :=
  fun_ok hc (f := 4) (fn := Tryd.f4) (code := w4b) (by kernel_rfl) (by kernel_rfl) (w4hk N hc) (Nat.le_of_ble_eq_true (by kernel_rfl)) (ow := false) ((w4q N l0 how1 by2).symm.trans (by rw [w4e0 N]; exact h))
def w4un (r : Res) : Option (Bool) := match r with
  | (x0, []) => (match ue .bo x0 with | some a0 => some a0 | _ => none)
  | _ => none
theorem w4uo {r : Res} {d : Bool} (h : w4un r = some d) : r = w4r0 (d) := by
  unfold w4un at h
  split at h
  · split at h
    · rename_i h0; cases h; rw [ue_some h0]; rfl
    · cases h
  · cases h
def w4z (N : Nat) (l0 : (List Int)) (how1 : Int) (by2 : Int) : Option (Bool) := (w4 N l0 how1 by2).bind w4un
theorem w4fin {N : Nat} (hc : CxOk (w4c N)) {l0 : (List Int)} {how1 : Int} {by2 : Int} {d : Bool} (hd : w4z N l0 how1 by2 = some d) : Does Tryd.prog 4 (([.e (.sl (.i .i64)) l0, .e (.i .i64) how1, .e (.i .i64) by2] : List X).map X.D) (HA []) (w4r0 (d)).1.D (HA (w4r0 (d)).2) := by
  obtain ⟨r, hr, hu⟩ := Option.bind_eq_some_iff.1 hd
  have := w4does hc hr
  rw [w4uo hu] at this
  exact this
end
end Go.Proofs
