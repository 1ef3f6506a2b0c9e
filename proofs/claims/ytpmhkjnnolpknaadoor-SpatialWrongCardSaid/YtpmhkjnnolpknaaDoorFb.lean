/- What the readers do. Conditions are in the theorems. -/
import Derived.Test.YtpmhkjnnolpknaaDoorE7
import Derived.Test.YtpmhkjnnolpknaaDoorF0
import Derived.Test.YtpmhkjnnolpknaaDoorProg
import Derived.KernelRfl
import Derived.Test.YtpmhkjnnolpknaaDoorF3
import Derived.Test.YtpmhkjnnolpknaaDoorFa
/- What functions do. -/
namespace Go.Proofs
noncomputable section
open Go.Ax Go.Ax.Alg Go.RowKit Go.Ab
open Go
def w53r0 (a0 : Bool) : Res := (.e .bo a0, [])
noncomputable def w53L (_ : Nat) : List (Nat × Ent') := []
noncomputable def w53c (N : Nat) : Cx := ⟨Tryd.prog, 99999, w53L N⟩
noncomputable def w53b : Code := Tryd.f53.body.getD .skip
theorem w53cx (N : Nat) : CxOk (w53c N) := ctx_ok (by kernel_rfl) .nil
def w53F0 [Alg] (_ : Nat)  (self : Int → O) (k0 : Bool → O) (k1 : Bool → O) (x0_0 : (List UInt8)) (x0_1 : (List UInt8)) (x0_2 : Bool) (x0_3 : Int) (x0_4 : Int) : O :=
  br (decide (x0_4 < x0_3))
    (gx x0_0 x0_4 fun y5 =>
    gx x0_1 x0_4 fun y6 =>
    br (decide (y5 ≠ y6))
      (k0 false)
      (self (IntKind.i64.wrap (x0_4 + (1 : Int)))))
    (k1 x0_2)
noncomputable def w53b0 : Code := atC [1, 1, 0, 1, 0, 0] w53b
def w53m0 : Nm := ⟨[0, 1, 4, 12, 13], [], []⟩
def w53I0 (x : (List UInt8) × (List UInt8) × Bool × Int × Int) : Sg := ⟨[(0, .e (.sl .u8) x.1), (1, .e (.sl .u8) x.2.1), (4, .e .bo x.2.2.1), (12, .e (.i .i64) x.2.2.2.1), (13, .e (.i .i64) x.2.2.2.2)], [], 100⟩
def w53u0 (σ : Sg) : (List UInt8) × (List UInt8) × Bool × Int × Int := (lvT (.sl .u8) 0 0 σ, lvT (.sl .u8) 1 0 σ, lvT .bo 4 0 σ, lvT (.i .i64) 12 0 σ, lvT (.i .i64) 13 0 σ)
theorem w53ui0 : ∀ x, w53u0 (w53I0 x) = x := fun _ => by kernel_rfl
def w53X0_0 (y : Bool) : Exit × Sg := (.ret, ⟨[(4, .e .bo y)], [], 100⟩)
def w53v0_0 (σ : Sg) : Bool := lvT .bo 4 0 σ
def w53X0_1 (y : Bool) : Exit × Sg := ((.exit 0), ⟨[(4, .e .bo y)], [], 100⟩)
def w53v0_1 (σ : Sg) : Bool := lvT .bo 4 0 σ
def w53w0 : List (Exit × Nm) := [(.ret, ⟨[4], [], []⟩), ((.exit 0), ⟨[4], [], []⟩)]
theorem w53o0 : Outs w53v0_0 w53v0_1 (fun _ => ()) w53X0_0 w53X0_1 (noX 2) .ret (.exit 0) (.goto 2) := ⟨fun _ => by kernel_rfl, fun _ => by kernel_rfl, fun _ => by kernel_rfl, fun _ => by kernel_rfl, fun _ => by kernel_rfl, fun _ => by kernel_rfl, exNe_ok (by kernel_rfl), exNe_ok (by kernel_rfl), exNe_ok (by kernel_rfl)⟩
def w53l0 [Alg] (N : Nat) : Nat → ((List UInt8) × (List UInt8) × Bool × Int × Int) → ((Bool) → O) → ((Bool) → O) → ((Unit) → O) → O
  | 0, _, _, _, _ => none
  | n + 1, x, k0, k1, k2 => w53F0 N  (fun v0 => w53l0 N n (x.1, x.2.1, x.2.2.1, x.2.2.2.1, v0) k0 k1 k2) (fun y0 => k0 y0) (fun y0 => k1 y0) x.1 x.2.1 x.2.2.1 x.2.2.2.1 x.2.2.2.2
def w53n0 [Alg] (N : Nat) (a0 : (List UInt8)) (a1 : (List UInt8)) (a2 : Bool) (a3 : Int) (a4 : Int) (k0 : Bool → O) (k1 : Bool → O) : O := w53l0 N N (a0, a1, a2, a3, a4) (fun y => k0 y) (fun y => k1 y) (fun _ => none)
noncomputable def w53s0 [Alg] (N : Nat) (a0 : (List UInt8)) (a1 : (List UInt8)) (a2 : Bool) (a3 : Int) (a4 : Int) (k0 : Bool → O) (k1 : Bool → O) : O := subL w53I0 w53u0 (w53l0 N N) (w53I0 (a0, a1, a2, a3, a4)) (fun y => k0 y) (fun y => k1 y) (fun _ => none)
theorem w53e0 [Alg] (N : Nat) : w53s0 N = w53n0 N := funext fun _ => funext fun _ => funext fun _ => funext fun _ => funext fun _ => funext fun _ => funext fun _ => subL_I w53ui0 _ _ _ _
noncomputable def w53h0 [Alg] (_ : Nat) : Hint := .d
theorem w53hk0 (N : Nat) : HintOk (w53c N) Tryd.f53.ntmps (w53h0 N) w53b0 := hk_of _ _ trivial
theorem w53q0 [Alg] (N : Nat) (self : Sg → O) (K : Exit → Sg → O) (x : (List UInt8) × (List UInt8) × Bool × Int × Int) : w53F0 N  (fun v0 => self (w53I0 (x.1, x.2.1, x.2.2.1, x.2.2.2.1, v0))) (fun y0 => K (w53X0_0 y0).1 (w53X0_0 y0).2) (fun y0 => K (w53X0_1 y0).1 (w53X0_1 y0).2) x.1 x.2.1 x.2.2.1 x.2.2.2.1 x.2.2.2.2 = exec (w53c N) Tryd.f53.ntmps (w53h0 N) w53b0 (w53I0 x) (roundX w53m0 w53w0 self K) := by kernel_rfl
theorem w53S0 (N : Nat) (hc : CxOk (w53c N)) : SubOk (w53c N) Tryd.f53.ntmps (.loop w53b0) w53X0_0 w53X0_1 (noX 2) (subL w53I0 w53u0 (w53l0 N N)) :=
  sub_loop hc (w53hk0 N) w53o0 (n := N) (fun x K => loop_ind (w53l0 N) (fun _ _ _ _ => rfl) (fun n K ih x => by
    have h : w53F0 N  (fun v0 => w53l0 N n (x.1, x.2.1, x.2.2.1, x.2.2.2.1, v0) (fun y => K (w53X0_0 y).1 (w53X0_0 y).2) (fun y => K (w53X0_1 y).1 (w53X0_1 y).2) (fun y => K ((noX 2) y).1 ((noX 2) y).2)) (fun y0 => K (w53X0_0 y0).1 (w53X0_0 y0).2) (fun y0 => K (w53X0_1 y0).1 (w53X0_1 y0).2) x.1 x.2.1 x.2.2.1 x.2.2.2.1 x.2.2.2.2 = w53F0 N  (fun v0 => loopX (w53c N) Tryd.f53.ntmps (w53h0 N) w53b0 w53m0 w53w0 n (w53I0 (x.1, x.2.1, x.2.2.1, x.2.2.2.1, v0)) K) (fun y0 => K (w53X0_0 y0).1 (w53X0_0 y0).2) (fun y0 => K (w53X0_1 y0).1 (w53X0_1 y0).2) x.1 x.2.1 x.2.2.1 x.2.2.2.1 x.2.2.2.2 := by rw [ show (fun v0 => w53l0 N n (x.1, x.2.1, x.2.2.1, x.2.2.2.1, v0) (fun y => K (w53X0_0 y).1 (w53X0_0 y).2) (fun y => K (w53X0_1 y).1 (w53X0_1 y).2) (fun y => K ((noX 2) y).1 ((noX 2) y).2)) = (fun v0 => loopX (w53c N) Tryd.f53.ntmps (w53h0 N) w53b0 w53m0 w53w0 n (w53I0 (x.1, x.2.1, x.2.2.1, x.2.2.2.1, v0)) K) from funext fun _ => ih _]
    exact h.trans (w53q0 N (fun σ => loopX (w53c N) Tryd.f53.ntmps (w53h0 N) w53b0 w53m0 w53w0 n σ K) K x)) N x K)
def w53G [Alg] (_ : Nat) (in0 : (List UInt8) → (List UInt8) → Bool → Int → Int → (Bool → O) → (Bool → O) → O) (s10 : (List UInt8)) (s21 : (List UInt8)) : O :=
  br (decide ((↑s10.length : Int) ≠ (↑s21.length : Int)))
    (some (w53r0 false))
    (in0 s10 s21 false ((↑s10.length : Int)) ((0 : Int))
      (fun z7 =>
        some (w53r0 z7))
      (fun _ =>
        some (w53r0 true)))
def w53 [Alg] (N : Nat) (s10 : (List UInt8)) (s21 : (List UInt8)) : O := w53G N (w53n0 N) s10 s21
noncomputable def w53h [Alg] (N : Nat) : Hint := (.seq .d (.seq .d (.seq (.seq .d (.block (.sub w53m0 _ _ _ w53X0_0 w53X0_1 (noX 2) (subL w53I0 w53u0 (w53l0 N N))))) .d)))
theorem w53hk (N : Nat) (hc : CxOk (w53c N)) : HintOk (w53c N) Tryd.f53.ntmps (w53h N) w53b := hk_of _ _ (And.intro trivial (And.intro trivial (And.intro (And.intro trivial (w53S0 N hc)) trivial)))
theorem w53q [Alg] (N : Nat) (s10 : (List UInt8)) (s21 : (List UInt8)) : w53G N (w53s0 N) s10 s21 = exec (w53c N) Tryd.f53.ntmps (w53h N) w53b ⟨argT 0 [.e (.sl .u8) s10, .e (.sl .u8) s21], [], 100⟩ (finX (w53c N) Tryd.f53 false) := by kernel_rfl
theorem w53does {N : Nat} (hc : CxOk (w53c N)) {s10 : (List UInt8)} {s21 : (List UInt8)} {r : Res} (h : w53 N s10 s21 = some r) : Does Tryd.prog 53 (([.e (.sl .u8) s10, .e (.sl .u8) s21] : List X).map X.D) (HA []) r.1.D (HA r.2) :=
  fun_ok hc (f := 53) (fn := Tryd.f53) (code := w53b) (by kernel_rfl) (by kernel_rfl) (w53hk N hc) (Nat.le_of_ble_eq_true (by kernel_rfl)) (ow := false) ((w53q N s10 s21).symm.trans (by rw [w53e0 N]; exact h))
def w53un (r : Res) : Option (Bool) := match r with
  | (x0, []) => (match ue .bo x0 with | some a0 => some a0 | _ => none)
  | _ => none
theorem w53uo {r : Res} {d : Bool} (h : w53un r = some d) : r = w53r0 (d) := by
  unfold w53un at h
  split at h
  · split at h
    · rename_i h0; cases h; rw [ue_some h0]; rfl
    · cases h
  · cases h
def w53z (N : Nat) (s10 : (List UInt8)) (s21 : (List UInt8)) : Option (Bool) := (w53 N s10 s21).bind w53un
theorem w53fin {N : Nat} (hc : CxOk (w53c N)) {s10 : (List UInt8)} {s21 : (List UInt8)} {d : Bool} (hd : w53z N s10 s21 = some d) : Does Tryd.prog 53 (([.e (.sl .u8) s10, .e (.sl .u8) s21] : List X).map X.D) (HA []) (w53r0 (d)).1.D (HA (w53r0 (d)).2) := by
  obtain ⟨r, hr, hu⟩ := Option.bind_eq_some_iff.1 hd
  have := w53does hc hr
  rw [w53uo hu] at this
  exact this
def w53p (N : Nat) (s10 : (List UInt8)) (s21 : (List UInt8)) : Bool := (w53z N s10 s21).isSome
def w53y0 (N : Nat) (s10 : (List UInt8)) (s21 : (List UInt8)) : Bool := ((w53z N s10 s21).getD false)
def w53e (N : Nat) : Ent' := E2 (.sl .u8) (.sl .u8)  (fun x0 x1 => (w53p N x0 x1, w53r0 (w53y0 N x0 x1)))
theorem w53re {N : Nat} {s10 : (List UInt8)} {s21 : (List UInt8)} {d : Bool} (hd : w53z N s10 s21 = some d) : w53r0 (w53y0 N s10 s21) = w53r0 (d) := by unfold w53y0; rw [hd]; rfl
theorem w53ok (N : Nat) : EOk Tryd.prog 53 (w53e N) := EOk.e2 (fun x0 x1 h => by
  have h : (w53z N x0 x1).isSome = true := h
  obtain ⟨d, hd⟩ := Option.isSome_iff_exists.1 h
  have f := w53fin (w53cx N) hd
  rw [← w53re hd] at f
  exact f)
def w52r0 (a0 : (List (List UInt8))) : Res := (.e (.sl (.sl .u8)) a0, [])
noncomputable def w52L (_ : Nat) : List (Nat × Ent') := []
noncomputable def w52c (N : Nat) : Cx := ⟨Tryd.prog, 99999, w52L N⟩
noncomputable def w52b : Code := Tryd.f52.body.getD .skip
theorem w52cx (N : Nat) : CxOk (w52c N) := ctx_ok (by kernel_rfl) .nil
def w52F0 [Alg] (_ : Nat)  (self : Int → O) (k0 : (List (List UInt8)) → Int → Int → Bool → (List UInt8) → (List UInt8) → (List UInt8) → (List UInt8) → Int → Int → Int → Bool → Bool → Bool → (List (List UInt8)) → O) (x61_0 : (List (List UInt8))) (x61_1 : Int) (x61_2 : Int) (x61_3 : Bool) (x61_4 : (List UInt8)) (x61_5 : (List UInt8)) (x61_6 : (List UInt8)) (x61_7 : (List UInt8)) (x61_8 : Int) (x61_10 : (List (List UInt8))) (x61_9 : Int) : O :=
  gc (decide ((0 : Int) < x61_9)) ((0 : UInt8)) x61_6 (IntKind.i64.wrap (x61_9 - (1 : Int))) fun y64 =>
  br (decide ((0 : Int) < x61_9) && decide (y64 = (0 : UInt8)))
    (self (IntKind.i64.wrap (x61_9 - (1 : Int))))
    (k0 x61_0 x61_1 x61_2 x61_3 x61_4 x61_5 x61_6 x61_7 x61_8 x61_9 x61_9 (decide ((0 : Int) < x61_9)) (decide ((0 : Int) < x61_9)) (decide ((0 : Int) < x61_9) && decide (y64 = (0 : UInt8))) x61_10)
noncomputable def w52b0 : Code := atC [1, 1, 0, 1, 0, 0, 1, 1, 0, 0, 1, 1, 0, 0, 0] w52b
def w52m0 : Nm := ⟨[2, 3, 7, 8, 9, 10, 11, 12, 5, 13, 14, 6], [], []⟩
def w52I0 (x : (List (List UInt8)) × Int × Int × Bool × (List UInt8) × (List UInt8) × (List UInt8) × (List UInt8) × Int × Int × (List (List UInt8))) : Sg := ⟨[(2, .nilS), (3, .own 0), (7, .e (.sl (.sl .u8)) x.1), (8, .e (.i .i64) x.2.1), (9, .e (.i .i64) x.2.2.1), (10, .e .bo x.2.2.2.1), (11, .pt (.sl .u8) x.2.2.2.2.1 0), (12, .e (.sl .u8) x.2.2.2.2.2.1), (5, .e (.sl .u8) x.2.2.2.2.2.2.1), (13, .e (.sl .u8) x.2.2.2.2.2.2.2.1), (14, .e (.i .i64) x.2.2.2.2.2.2.2.2.1), (6, .e (.i .i64) x.2.2.2.2.2.2.2.2.2.1)], [(0, .row 42 (.sl .u8) x.2.2.2.2.2.2.2.2.2.2 true)], 100⟩
def w52u0 (σ : Sg) : (List (List UInt8)) × Int × Int × Bool × (List UInt8) × (List UInt8) × (List UInt8) × (List UInt8) × Int × Int × (List (List UInt8)) := (lvT (.sl (.sl .u8)) 7 0 σ, lvT (.i .i64) 8 0 σ, lvT (.i .i64) 9 0 σ, lvT .bo 10 0 σ, lvT (.sl .u8) 11 0 σ, lvT (.sl .u8) 12 0 σ, lvT (.sl .u8) 5 0 σ, lvT (.sl .u8) 13 0 σ, lvT (.i .i64) 14 0 σ, lvT (.i .i64) 6 0 σ, lvR (.sl .u8) 0 σ)
theorem w52ui0 : ∀ x, w52u0 (w52I0 x) = x := fun _ => by kernel_rfl
def w52X0_0 (y : (List (List UInt8)) × Int × Int × Bool × (List UInt8) × (List UInt8) × (List UInt8) × (List UInt8) × Int × Int × Int × Bool × Bool × Bool × (List (List UInt8))) : Exit × Sg := ((.exit 2), ⟨[(2, .nilS), (3, .own 0), (7, .e (.sl (.sl .u8)) y.1), (8, .e (.i .i64) y.2.1), (9, .e (.i .i64) y.2.2.1), (10, .e .bo y.2.2.2.1), (11, .pt (.sl .u8) y.2.2.2.2.1 0), (12, .e (.sl .u8) y.2.2.2.2.2.1), (5, .e (.sl .u8) y.2.2.2.2.2.2.1), (13, .e (.sl .u8) y.2.2.2.2.2.2.2.1), (14, .e (.i .i64) y.2.2.2.2.2.2.2.2.1), (6, .e (.i .i64) y.2.2.2.2.2.2.2.2.2.1), (15, .e (.i .i64) y.2.2.2.2.2.2.2.2.2.2.1), (16, .e .bo y.2.2.2.2.2.2.2.2.2.2.2.1), (17, .e .bo y.2.2.2.2.2.2.2.2.2.2.2.2.1), (24, .e .bo y.2.2.2.2.2.2.2.2.2.2.2.2.2.1)], [(0, .row 42 (.sl .u8) y.2.2.2.2.2.2.2.2.2.2.2.2.2.2 true)], 100⟩)
def w52v0_0 (σ : Sg) : (List (List UInt8)) × Int × Int × Bool × (List UInt8) × (List UInt8) × (List UInt8) × (List UInt8) × Int × Int × Int × Bool × Bool × Bool × (List (List UInt8)) := (lvT (.sl (.sl .u8)) 7 0 σ, lvT (.i .i64) 8 0 σ, lvT (.i .i64) 9 0 σ, lvT .bo 10 0 σ, lvT (.sl .u8) 11 0 σ, lvT (.sl .u8) 12 0 σ, lvT (.sl .u8) 5 0 σ, lvT (.sl .u8) 13 0 σ, lvT (.i .i64) 14 0 σ, lvT (.i .i64) 6 0 σ, lvT (.i .i64) 15 0 σ, lvT .bo 16 0 σ, lvT .bo 17 0 σ, lvT .bo 24 0 σ, lvR (.sl .u8) 0 σ)
def w52w0 : List (Exit × Nm) := [((.exit 2), ⟨[2, 3, 7, 8, 9, 10, 11, 12, 5, 13, 14, 6, 15, 16, 17, 24], [], []⟩)]
theorem w52o0 : Outs w52v0_0 (fun _ => ()) (fun _ => ()) w52X0_0 (noX 1) (noX 2) (.exit 2) (.goto 1) (.goto 2) := ⟨fun _ => by kernel_rfl, fun _ => by kernel_rfl, fun _ => by kernel_rfl, fun _ => by kernel_rfl, fun _ => by kernel_rfl, fun _ => by kernel_rfl, exNe_ok (by kernel_rfl), exNe_ok (by kernel_rfl), exNe_ok (by kernel_rfl)⟩
def w52l0 [Alg] (N : Nat) : Nat → ((List (List UInt8)) × Int × Int × Bool × (List UInt8) × (List UInt8) × (List UInt8) × (List UInt8) × Int × Int × (List (List UInt8))) → (((List (List UInt8)) × Int × Int × Bool × (List UInt8) × (List UInt8) × (List UInt8) × (List UInt8) × Int × Int × Int × Bool × Bool × Bool × (List (List UInt8))) → O) → ((Unit) → O) → ((Unit) → O) → O
  | 0, _, _, _, _ => none
  | n + 1, x, k0, k1, k2 => w52F0 N  (fun v0 => w52l0 N n (x.1, x.2.1, x.2.2.1, x.2.2.2.1, x.2.2.2.2.1, x.2.2.2.2.2.1, x.2.2.2.2.2.2.1, x.2.2.2.2.2.2.2.1, x.2.2.2.2.2.2.2.2.1, v0, x.2.2.2.2.2.2.2.2.2.2) k0 k1 k2) (fun y0 y1 y2 y3 y4 y5 y6 y7 y8 y9 y10 y11 y12 y13 y14 => k0 (y0, y1, y2, y3, y4, y5, y6, y7, y8, y9, y10, y11, y12, y13, y14)) x.1 x.2.1 x.2.2.1 x.2.2.2.1 x.2.2.2.2.1 x.2.2.2.2.2.1 x.2.2.2.2.2.2.1 x.2.2.2.2.2.2.2.1 x.2.2.2.2.2.2.2.2.1 x.2.2.2.2.2.2.2.2.2.2 x.2.2.2.2.2.2.2.2.2.1
def w52n0 [Alg] (N : Nat) (a0 : (List (List UInt8))) (a1 : Int) (a2 : Int) (a3 : Bool) (a4 : (List UInt8)) (a5 : (List UInt8)) (a6 : (List UInt8)) (a7 : (List UInt8)) (a8 : Int) (a9 : Int) (a10 : (List (List UInt8))) (k0 : (List (List UInt8)) → Int → Int → Bool → (List UInt8) → (List UInt8) → (List UInt8) → (List UInt8) → Int → Int → Int → Bool → Bool → Bool → (List (List UInt8)) → O) : O := w52l0 N N (a0, a1, a2, a3, a4, a5, a6, a7, a8, a9, a10) (fun y => k0 y.1 y.2.1 y.2.2.1 y.2.2.2.1 y.2.2.2.2.1 y.2.2.2.2.2.1 y.2.2.2.2.2.2.1 y.2.2.2.2.2.2.2.1 y.2.2.2.2.2.2.2.2.1 y.2.2.2.2.2.2.2.2.2.1 y.2.2.2.2.2.2.2.2.2.2.1 y.2.2.2.2.2.2.2.2.2.2.2.1 y.2.2.2.2.2.2.2.2.2.2.2.2.1 y.2.2.2.2.2.2.2.2.2.2.2.2.2.1 y.2.2.2.2.2.2.2.2.2.2.2.2.2.2) (fun _ => none) (fun _ => none)
noncomputable def w52s0 [Alg] (N : Nat) (a0 : (List (List UInt8))) (a1 : Int) (a2 : Int) (a3 : Bool) (a4 : (List UInt8)) (a5 : (List UInt8)) (a6 : (List UInt8)) (a7 : (List UInt8)) (a8 : Int) (a9 : Int) (a10 : (List (List UInt8))) (k0 : (List (List UInt8)) → Int → Int → Bool → (List UInt8) → (List UInt8) → (List UInt8) → (List UInt8) → Int → Int → Int → Bool → Bool → Bool → (List (List UInt8)) → O) : O := subL w52I0 w52u0 (w52l0 N N) (w52I0 (a0, a1, a2, a3, a4, a5, a6, a7, a8, a9, a10)) (fun y => k0 y.1 y.2.1 y.2.2.1 y.2.2.2.1 y.2.2.2.2.1 y.2.2.2.2.2.1 y.2.2.2.2.2.2.1 y.2.2.2.2.2.2.2.1 y.2.2.2.2.2.2.2.2.1 y.2.2.2.2.2.2.2.2.2.1 y.2.2.2.2.2.2.2.2.2.2.1 y.2.2.2.2.2.2.2.2.2.2.2.1 y.2.2.2.2.2.2.2.2.2.2.2.2.1 y.2.2.2.2.2.2.2.2.2.2.2.2.2.1 y.2.2.2.2.2.2.2.2.2.2.2.2.2.2) (fun _ => none) (fun _ => none)
theorem w52e0 [Alg] (N : Nat) : w52s0 N = w52n0 N := funext fun _ => funext fun _ => funext fun _ => funext fun _ => funext fun _ => funext fun _ => funext fun _ => funext fun _ => funext fun _ => funext fun _ => funext fun _ => funext fun _ => subL_I w52ui0 _ _ _ _
noncomputable def w52h0 [Alg] (_ : Nat) : Hint := .d
theorem w52hk0 (N : Nat) : HintOk (w52c N) Tryd.f52.ntmps (w52h0 N) w52b0 := hk_of _ _ trivial
theorem w52q0 [Alg] (N : Nat) (self : Sg → O) (K : Exit → Sg → O) (x : (List (List UInt8)) × Int × Int × Bool × (List UInt8) × (List UInt8) × (List UInt8) × (List UInt8) × Int × Int × (List (List UInt8))) : w52F0 N  (fun v0 => self (w52I0 (x.1, x.2.1, x.2.2.1, x.2.2.2.1, x.2.2.2.2.1, x.2.2.2.2.2.1, x.2.2.2.2.2.2.1, x.2.2.2.2.2.2.2.1, x.2.2.2.2.2.2.2.2.1, v0, x.2.2.2.2.2.2.2.2.2.2))) (fun y0 y1 y2 y3 y4 y5 y6 y7 y8 y9 y10 y11 y12 y13 y14 => K (w52X0_0 (y0, y1, y2, y3, y4, y5, y6, y7, y8, y9, y10, y11, y12, y13, y14)).1 (w52X0_0 (y0, y1, y2, y3, y4, y5, y6, y7, y8, y9, y10, y11, y12, y13, y14)).2) x.1 x.2.1 x.2.2.1 x.2.2.2.1 x.2.2.2.2.1 x.2.2.2.2.2.1 x.2.2.2.2.2.2.1 x.2.2.2.2.2.2.2.1 x.2.2.2.2.2.2.2.2.1 x.2.2.2.2.2.2.2.2.2.2 x.2.2.2.2.2.2.2.2.2.1 = exec (w52c N) Tryd.f52.ntmps (w52h0 N) w52b0 (w52I0 x) (roundX w52m0 w52w0 self K) := by kernel_rfl
theorem w52S0 (N : Nat) (hc : CxOk (w52c N)) : SubOk (w52c N) Tryd.f52.ntmps (.loop w52b0) w52X0_0 (noX 1) (noX 2) (subL w52I0 w52u0 (w52l0 N N)) :=
  sub_loop hc (w52hk0 N) w52o0 (n := N) (fun x K => loop_ind (w52l0 N) (fun _ _ _ _ => rfl) (fun n K ih x => by
    have h : w52F0 N  (fun v0 => w52l0 N n (x.1, x.2.1, x.2.2.1, x.2.2.2.1, x.2.2.2.2.1, x.2.2.2.2.2.1, x.2.2.2.2.2.2.1, x.2.2.2.2.2.2.2.1, x.2.2.2.2.2.2.2.2.1, v0, x.2.2.2.2.2.2.2.2.2.2) (fun y => K (w52X0_0 y).1 (w52X0_0 y).2) (fun y => K ((noX 1) y).1 ((noX 1) y).2) (fun y => K ((noX 2) y).1 ((noX 2) y).2)) (fun y0 y1 y2 y3 y4 y5 y6 y7 y8 y9 y10 y11 y12 y13 y14 => K (w52X0_0 (y0, y1, y2, y3, y4, y5, y6, y7, y8, y9, y10, y11, y12, y13, y14)).1 (w52X0_0 (y0, y1, y2, y3, y4, y5, y6, y7, y8, y9, y10, y11, y12, y13, y14)).2) x.1 x.2.1 x.2.2.1 x.2.2.2.1 x.2.2.2.2.1 x.2.2.2.2.2.1 x.2.2.2.2.2.2.1 x.2.2.2.2.2.2.2.1 x.2.2.2.2.2.2.2.2.1 x.2.2.2.2.2.2.2.2.2.2 x.2.2.2.2.2.2.2.2.2.1 = w52F0 N  (fun v0 => loopX (w52c N) Tryd.f52.ntmps (w52h0 N) w52b0 w52m0 w52w0 n (w52I0 (x.1, x.2.1, x.2.2.1, x.2.2.2.1, x.2.2.2.2.1, x.2.2.2.2.2.1, x.2.2.2.2.2.2.1, x.2.2.2.2.2.2.2.1, x.2.2.2.2.2.2.2.2.1, v0, x.2.2.2.2.2.2.2.2.2.2)) K) (fun y0 y1 y2 y3 y4 y5 y6 y7 y8 y9 y10 y11 y12 y13 y14 => K (w52X0_0 (y0, y1, y2, y3, y4, y5, y6, y7, y8, y9, y10, y11, y12, y13, y14)).1 (w52X0_0 (y0, y1, y2, y3, y4, y5, y6, y7, y8, y9, y10, y11, y12, y13, y14)).2) x.1 x.2.1 x.2.2.1 x.2.2.2.1 x.2.2.2.2.1 x.2.2.2.2.2.1 x.2.2.2.2.2.2.1 x.2.2.2.2.2.2.2.1 x.2.2.2.2.2.2.2.2.1 x.2.2.2.2.2.2.2.2.2.2 x.2.2.2.2.2.2.2.2.2.1 := by rw [ show (fun v0 => w52l0 N n (x.1, x.2.1, x.2.2.1, x.2.2.2.1, x.2.2.2.2.1, x.2.2.2.2.2.1, x.2.2.2.2.2.2.1, x.2.2.2.2.2.2.2.1, x.2.2.2.2.2.2.2.2.1, v0, x.2.2.2.2.2.2.2.2.2.2) (fun y => K (w52X0_0 y).1 (w52X0_0 y).2) (fun y => K ((noX 1) y).1 ((noX 1) y).2) (fun y => K ((noX 2) y).1 ((noX 2) y).2)) = (fun v0 => loopX (w52c N) Tryd.f52.ntmps (w52h0 N) w52b0 w52m0 w52w0 n (w52I0 (x.1, x.2.1, x.2.2.1, x.2.2.2.1, x.2.2.2.2.1, x.2.2.2.2.2.1, x.2.2.2.2.2.2.1, x.2.2.2.2.2.2.2.1, x.2.2.2.2.2.2.2.2.1, v0, x.2.2.2.2.2.2.2.2.2.2)) K) from funext fun _ => ih _]
    exact h.trans (w52q0 N (fun σ => loopX (w52c N) Tryd.f52.ntmps (w52h0 N) w52b0 w52m0 w52w0 n σ K) K x)) N x K)
def w52F1 [Alg] (_ : Nat) (in0 : (List (List UInt8)) → Int → Int → Bool → (List UInt8) → (List UInt8) → (List UInt8) → (List UInt8) → Int → Int → (List (List UInt8)) → ((List (List UInt8)) → Int → Int → Bool → (List UInt8) → (List UInt8) → (List UInt8) → (List UInt8) → Int → Int → Int → Bool → Bool → Bool → (List (List UInt8)) → O) → O) (self : (List (List UInt8)) → Int → Int → (List (List UInt8)) → O) (k0 : (List (List UInt8)) → O) (x0_0 : (List (List UInt8))) (x0_1 : Int) (x0_2 : Int) (x0_3 : (List (List UInt8))) : O :=
  br (decide (x0_2 < x0_1))
    (gx x0_0 x0_2 fun y60 =>
    in0 x0_0 x0_1 x0_2 (decide (x0_2 < x0_1)) y60 y60 y60 y60 ((↑y60.length : Int)) ((↑y60.length : Int)) x0_3
      (fun z65 z66 z67 _ _ _ z71 _ _ z74 _ _ _ _ z79 =>
        ck (slcOk z71.length none (some z74)) <|
        ck (lim (z79 ++ [slc z71 none (some z74)]).length (24 : Nat)) <|
        self z65 z66 (IntKind.i64.wrap (z67 + (1 : Int))) (z79 ++ [slc z71 none (some z74)])))
    (k0 x0_3)
noncomputable def w52b1 : Code := atC [1, 1, 0, 1, 0, 0] w52b
def w52m1 : Nm := ⟨[2, 3, 7, 8, 9], [], [.nilR 3 (.row 42 (.sl .u8) [] true)]⟩
def w52I1 (x : (List (List UInt8)) × Int × Int × (List (List UInt8))) : Sg := ⟨[(2, .nilS), (3, .own 0), (7, .e (.sl (.sl .u8)) x.1), (8, .e (.i .i64) x.2.1), (9, .e (.i .i64) x.2.2.1)], [(0, .row 42 (.sl .u8) x.2.2.2 true)], 100⟩
def w52u1 (σ : Sg) : (List (List UInt8)) × Int × Int × (List (List UInt8)) := (lvT (.sl (.sl .u8)) 7 0 σ, lvT (.i .i64) 8 0 σ, lvT (.i .i64) 9 0 σ, lvR (.sl .u8) 0 σ)
theorem w52ui1 : ∀ x, w52u1 (w52I1 x) = x := fun _ => by kernel_rfl
def w52X1_0 (y : (List (List UInt8))) : Exit × Sg := ((.exit 0), ⟨[(2, .nilS), (3, .own 0)], [(0, .row 42 (.sl .u8) y true)], 100⟩)
def w52v1_0 (σ : Sg) : (List (List UInt8)) := lvR (.sl .u8) 0 σ
def w52w1 : List (Exit × Nm) := [((.exit 0), ⟨[2, 3], [], []⟩)]
theorem w52o1 : Outs w52v1_0 (fun _ => ()) (fun _ => ()) w52X1_0 (noX 1) (noX 2) (.exit 0) (.goto 1) (.goto 2) := ⟨fun _ => by kernel_rfl, fun _ => by kernel_rfl, fun _ => by kernel_rfl, fun _ => by kernel_rfl, fun _ => by kernel_rfl, fun _ => by kernel_rfl, exNe_ok (by kernel_rfl), exNe_ok (by kernel_rfl), exNe_ok (by kernel_rfl)⟩
def w52l1 [Alg] (N : Nat) : Nat → ((List (List UInt8)) × Int × Int × (List (List UInt8))) → (((List (List UInt8))) → O) → ((Unit) → O) → ((Unit) → O) → O
  | 0, _, _, _, _ => none
  | n + 1, x, k0, k1, k2 => w52F1 N (w52n0 N) (fun v0 v1 v2 v3 => w52l1 N n (v0, v1, v2, v3) k0 k1 k2) (fun y0 => k0 y0) x.1 x.2.1 x.2.2.1 x.2.2.2
def w52n1 [Alg] (N : Nat) (a0 : (List (List UInt8))) (a1 : Int) (a2 : Int) (a3 : (List (List UInt8))) (k0 : (List (List UInt8)) → O) : O := w52l1 N N (a0, a1, a2, a3) (fun y => k0 y) (fun _ => none) (fun _ => none)
noncomputable def w52s1 [Alg] (N : Nat) (a0 : (List (List UInt8))) (a1 : Int) (a2 : Int) (a3 : (List (List UInt8))) (k0 : (List (List UInt8)) → O) : O := subL w52I1 w52u1 (w52l1 N N) (w52I1 (a0, a1, a2, a3)) (fun y => k0 y) (fun _ => none) (fun _ => none)
theorem w52e1 [Alg] (N : Nat) : w52s1 N = w52n1 N := funext fun _ => funext fun _ => funext fun _ => funext fun _ => funext fun _ => subL_I w52ui1 _ _ _ _
noncomputable def w52h1 [Alg] (N : Nat) : Hint := (.seq .d (.seq .d (.seq (.block (.seq .d (.seq .d (.seq (.block (.sub w52m0 _ _ _ w52X0_0 (noX 1) (noX 2) (subL w52I0 w52u0 (w52l0 N N)))) .d)))) .d)))
theorem w52hk1 (N : Nat) (hc : CxOk (w52c N)) : HintOk (w52c N) Tryd.f52.ntmps (w52h1 N) w52b1 := hk_of _ _ (And.intro trivial (And.intro trivial (And.intro (And.intro trivial (And.intro trivial (And.intro (w52S0 N hc) trivial))) trivial)))
theorem w52q1 [Alg] (N : Nat) (self : Sg → O) (K : Exit → Sg → O) (x : (List (List UInt8)) × Int × Int × (List (List UInt8))) : w52F1 N (w52s0 N) (fun v0 v1 v2 v3 => self (w52I1 (v0, v1, v2, v3))) (fun y0 => K (w52X1_0 y0).1 (w52X1_0 y0).2) x.1 x.2.1 x.2.2.1 x.2.2.2 = exec (w52c N) Tryd.f52.ntmps (w52h1 N) w52b1 (w52I1 x) (roundX w52m1 w52w1 self K) := by kernel_rfl
theorem w52S1 (N : Nat) (hc : CxOk (w52c N)) : SubOk (w52c N) Tryd.f52.ntmps (.loop w52b1) w52X1_0 (noX 1) (noX 2) (subL w52I1 w52u1 (w52l1 N N)) :=
  sub_loop hc (w52hk1 N hc) w52o1 (n := N) (fun x K => loop_ind (w52l1 N) (fun _ _ _ _ => rfl) (fun n K ih x => by
    have h : w52F1 N (w52n0 N) (fun v0 v1 v2 v3 => w52l1 N n (v0, v1, v2, v3) (fun y => K (w52X1_0 y).1 (w52X1_0 y).2) (fun y => K ((noX 1) y).1 ((noX 1) y).2) (fun y => K ((noX 2) y).1 ((noX 2) y).2)) (fun y0 => K (w52X1_0 y0).1 (w52X1_0 y0).2) x.1 x.2.1 x.2.2.1 x.2.2.2 = w52F1 N (w52s0 N) (fun v0 v1 v2 v3 => loopX (w52c N) Tryd.f52.ntmps (w52h1 N) w52b1 w52m1 w52w1 n (w52I1 (v0, v1, v2, v3)) K) (fun y0 => K (w52X1_0 y0).1 (w52X1_0 y0).2) x.1 x.2.1 x.2.2.1 x.2.2.2 := by rw [w52e0 N, show (fun v0 v1 v2 v3 => w52l1 N n (v0, v1, v2, v3) (fun y => K (w52X1_0 y).1 (w52X1_0 y).2) (fun y => K ((noX 1) y).1 ((noX 1) y).2) (fun y => K ((noX 2) y).1 ((noX 2) y).2)) = (fun v0 v1 v2 v3 => loopX (w52c N) Tryd.f52.ntmps (w52h1 N) w52b1 w52m1 w52w1 n (w52I1 (v0, v1, v2, v3)) K) from funext fun _ => funext fun _ => funext fun _ => funext fun _ => ih _]
    exact h.trans (w52q1 N (fun σ => loopX (w52c N) Tryd.f52.ntmps (w52h1 N) w52b1 w52m1 w52w1 n σ K) K x)) N x K)
def w52F2 [Alg] (_ : Nat)  (self : (List (List UInt8)) → O) (k0 : (List (List UInt8)) → O) (x81_0 : (List (List UInt8))) : O :=
  gc (decide ((0 : Int) < (↑x81_0.length : Int))) [] x81_0 (IntKind.i64.wrap ((↑x81_0.length : Int) - (1 : Int))) fun y85 =>
  br (decide ((0 : Int) < (↑x81_0.length : Int)) && decide ((↑y85.length : Int) = (0 : Int)))
    (ck (slcOk x81_0.length none (some (IntKind.i64.wrap ((↑x81_0.length : Int) - (1 : Int))))) <|
    self (slc x81_0 none (some (IntKind.i64.wrap ((↑x81_0.length : Int) - (1 : Int))))))
    (k0 x81_0)
noncomputable def w52b2 : Code := atC [1, 1, 1, 0, 0, 0] w52b
def w52m2 : Nm := ⟨[2, 3], [(3, (.sl (.sl .u8)))], [.slr 3]⟩
def w52I2 (x : (List (List UInt8))) : Sg := ⟨[(2, .nilS), (3, .e (.sl (.sl .u8)) x)], [], 100⟩
def w52u2 (σ : Sg) : (List (List UInt8)) := lvT (.sl (.sl .u8)) 3 0 σ
theorem w52ui2 : ∀ x, w52u2 (w52I2 x) = x := fun _ => by kernel_rfl
def w52X2_0 (y : (List (List UInt8))) : Exit × Sg := ((.exit 4), ⟨[(2, .nilS), (3, .e (.sl (.sl .u8)) y)], [], 100⟩)
def w52v2_0 (σ : Sg) : (List (List UInt8)) := lvT (.sl (.sl .u8)) 3 0 σ
def w52w2 : List (Exit × Nm) := [((.exit 4), ⟨[2, 3], [], []⟩)]
theorem w52o2 : Outs w52v2_0 (fun _ => ()) (fun _ => ()) w52X2_0 (noX 1) (noX 2) (.exit 4) (.goto 1) (.goto 2) := ⟨fun _ => by kernel_rfl, fun _ => by kernel_rfl, fun _ => by kernel_rfl, fun _ => by kernel_rfl, fun _ => by kernel_rfl, fun _ => by kernel_rfl, exNe_ok (by kernel_rfl), exNe_ok (by kernel_rfl), exNe_ok (by kernel_rfl)⟩
def w52l2 [Alg] (N : Nat) : Nat → (List (List UInt8)) → (((List (List UInt8))) → O) → ((Unit) → O) → ((Unit) → O) → O
  | 0, _, _, _, _ => none
  | n + 1, x, k0, k1, k2 => w52F2 N  (fun v0 => w52l2 N n v0 k0 k1 k2) (fun y0 => k0 y0) x
def w52n2 [Alg] (N : Nat) (a0 : (List (List UInt8))) (k0 : (List (List UInt8)) → O) : O := w52l2 N N a0 (fun y => k0 y) (fun _ => none) (fun _ => none)
noncomputable def w52s2 [Alg] (N : Nat) (a0 : (List (List UInt8))) (k0 : (List (List UInt8)) → O) : O := subL w52I2 w52u2 (w52l2 N N) (w52I2 a0) (fun y => k0 y) (fun _ => none) (fun _ => none)
theorem w52e2 [Alg] (N : Nat) : w52s2 N = w52n2 N := funext fun _ => funext fun _ => subL_I w52ui2 _ _ _ _
noncomputable def w52h2 [Alg] (_ : Nat) : Hint := .d
theorem w52hk2 (N : Nat) : HintOk (w52c N) Tryd.f52.ntmps (w52h2 N) w52b2 := hk_of _ _ trivial
theorem w52q2 [Alg] (N : Nat) (self : Sg → O) (K : Exit → Sg → O) (x : (List (List UInt8))) : w52F2 N  (fun v0 => self (w52I2 v0)) (fun y0 => K (w52X2_0 y0).1 (w52X2_0 y0).2) x = exec (w52c N) Tryd.f52.ntmps (w52h2 N) w52b2 (w52I2 x) (roundX w52m2 w52w2 self K) := by kernel_rfl
theorem w52S2 (N : Nat) (hc : CxOk (w52c N)) : SubOk (w52c N) Tryd.f52.ntmps (.loop w52b2) w52X2_0 (noX 1) (noX 2) (subL w52I2 w52u2 (w52l2 N N)) :=
  sub_loop hc (w52hk2 N) w52o2 (n := N) (fun x K => loop_ind (w52l2 N) (fun _ _ _ _ => rfl) (fun n K ih x => by
    have h : w52F2 N  (fun v0 => w52l2 N n v0 (fun y => K (w52X2_0 y).1 (w52X2_0 y).2) (fun y => K ((noX 1) y).1 ((noX 1) y).2) (fun y => K ((noX 2) y).1 ((noX 2) y).2)) (fun y0 => K (w52X2_0 y0).1 (w52X2_0 y0).2) x = w52F2 N  (fun v0 => loopX (w52c N) Tryd.f52.ntmps (w52h2 N) w52b2 w52m2 w52w2 n (w52I2 v0) K) (fun y0 => K (w52X2_0 y0).1 (w52X2_0 y0).2) x := by rw [ show (fun v0 => w52l2 N n v0 (fun y => K (w52X2_0 y).1 (w52X2_0 y).2) (fun y => K ((noX 1) y).1 ((noX 1) y).2) (fun y => K ((noX 2) y).1 ((noX 2) y).2)) = (fun v0 => loopX (w52c N) Tryd.f52.ntmps (w52h2 N) w52b2 w52m2 w52w2 n (w52I2 v0) K) from funext fun _ => ih _]
    exact h.trans (w52q2 N (fun σ => loopX (w52c N) Tryd.f52.ntmps (w52h2 N) w52b2 w52m2 w52w2 n σ K) K x)) N x K)
def w52G [Alg] (_ : Nat) (_in0 : (List (List UInt8)) → Int → Int → Bool → (List UInt8) → (List UInt8) → (List UInt8) → (List UInt8) → Int → Int → (List (List UInt8)) → ((List (List UInt8)) → Int → Int → Bool → (List UInt8) → (List UInt8) → (List UInt8) → (List UInt8) → Int → Int → Int → Bool → Bool → Bool → (List (List UInt8)) → O) → O) (in1 : (List (List UInt8)) → Int → Int → (List (List UInt8)) → ((List (List UInt8)) → O) → O) (in2 : (List (List UInt8)) → ((List (List UInt8)) → O) → O) (p0 : (List (List UInt8))) : O :=
  in1 p0 ((↑p0.length : Int)) ((0 : Int)) []
    (fun z80 =>
      in2 z80
        (fun z86 =>
          some (w52r0 z86)))
def w52 [Alg] (N : Nat) (p0 : (List (List UInt8))) : O := w52G N (w52n0 N) (w52n1 N) (w52n2 N) p0
noncomputable def w52h [Alg] (N : Nat) : Hint := (.seq .d (.seq .d (.seq (.seq .d (.block (.sub w52m1 _ _ _ w52X1_0 (noX 1) (noX 2) (subL w52I1 w52u1 (w52l1 N N))))) (.seq (.block (.sub w52m2 _ _ _ w52X2_0 (noX 1) (noX 2) (subL w52I2 w52u2 (w52l2 N N)))) .d))))
theorem w52hk (N : Nat) (hc : CxOk (w52c N)) : HintOk (w52c N) Tryd.f52.ntmps (w52h N) w52b := hk_of _ _ (And.intro trivial (And.intro trivial (And.intro (And.intro trivial (w52S1 N hc)) (And.intro (w52S2 N hc) trivial))))
theorem w52q [Alg] (N : Nat) (p0 : (List (List UInt8))) : w52G N (w52s0 N) (w52s1 N) (w52s2 N) p0 = exec (w52c N) Tryd.f52.ntmps (w52h N) w52b ⟨argT 0 [.e (.sl (.sl .u8)) p0], [], 100⟩ (finX (w52c N) Tryd.f52 false) := by kernel_rfl
theorem w52does {N : Nat} (hc : CxOk (w52c N)) {p0 : (List (List UInt8))} {r : Res} (h : w52 N p0 = some r) : Does Tryd.prog 52 (([.e (.sl (.sl .u8)) p0] : List X).map X.D) (HA []) r.1.D (HA r.2) :=
  fun_ok hc (f := 52) (fn := Tryd.f52) (code := w52b) (by kernel_rfl) (by kernel_rfl) (w52hk N hc) (Nat.le_of_ble_eq_true (by kernel_rfl)) (ow := false) ((w52q N p0).symm.trans (by rw [w52e0 N, w52e1 N, w52e2 N]; exact h))
def w52un (r : Res) : Option ((List (List UInt8))) := match r with
  | (x0, []) => (match ue (.sl (.sl .u8)) x0 with | some a0 => some a0 | _ => none)
  | _ => none
theorem w52uo {r : Res} {d : (List (List UInt8))} (h : w52un r = some d) : r = w52r0 (d) := by
  unfold w52un at h
  split at h
  · split at h
    · rename_i h0; cases h; rw [ue_some h0]; rfl
    · cases h
  · cases h
def w52z (N : Nat) (p0 : (List (List UInt8))) : Option ((List (List UInt8))) := (w52 N p0).bind w52un
theorem w52fin {N : Nat} (hc : CxOk (w52c N)) {p0 : (List (List UInt8))} {d : (List (List UInt8))} (hd : w52z N p0 = some d) : Does Tryd.prog 52 (([.e (.sl (.sl .u8)) p0] : List X).map X.D) (HA []) (w52r0 (d)).1.D (HA (w52r0 (d)).2) := by
  obtain ⟨r, hr, hu⟩ := Option.bind_eq_some_iff.1 hd
  have := w52does hc hr
  rw [w52uo hu] at this
  exact this
def w52p (N : Nat) (p0 : (List (List UInt8))) : Bool := (w52z N p0).isSome
def w52y0 (N : Nat) (p0 : (List (List UInt8))) : (List (List UInt8)) := ((w52z N p0).getD [])
def w52e (N : Nat) : Ent' := E1 (.sl (.sl .u8))  (fun x0 => (w52p N x0, w52r0 (w52y0 N x0)))
theorem w52re {N : Nat} {p0 : (List (List UInt8))} {d : (List (List UInt8))} (hd : w52z N p0 = some d) : w52r0 (w52y0 N p0) = w52r0 (d) := by unfold w52y0; rw [hd]; rfl
theorem w52ok (N : Nat) : EOk Tryd.prog 52 (w52e N) := EOk.e1 (fun x0 h => by
  have h : (w52z N x0).isSome = true := h
  obtain ⟨d, hd⟩ := Option.isSome_iff_exists.1 h
  have f := w52fin (w52cx N) hd
  rw [← w52re hd] at f
  exact f)
def w51r0 (a0 : Bool) : Res := (.e .bo a0, [])
noncomputable def w51L (N : Nat) : List (Nat × Ent') := [(53, w53e N)]
noncomputable def w51c (N : Nat) : Cx := ⟨Tryd.prog, 99999, w51L N⟩
noncomputable def w51b : Code := Tryd.f51.body.getD .skip
theorem w51cx (N : Nat) : CxOk (w51c N) := ctx_ok (by kernel_rfl) (.cons (by kernel_rfl) (w53ok N) .nil)
def w51F0 [Alg] (N : Nat)  (self : Int → O) (k0 : Bool → O) (k1 : Bool → O) (x0_0 : (List (List UInt8))) (x0_1 : Bool) (x0_2 : (List (List UInt8))) (x0_3 : Int) (x0_4 : Int) : O :=
  br (decide (x0_4 < x0_3))
    (gx x0_2 x0_4 fun y5 =>
    gx x0_0 x0_4 fun y6 =>
    ck (w53p N y5 y6) <|
    br (!w53y0 N y5 y6)
      (k0 false)
      (self (IntKind.i64.wrap (x0_4 + (1 : Int)))))
    (k1 x0_1)
noncomputable def w51b0 : Code := atC [1, 1, 0, 1, 0, 0] w51b
def w51m0 : Nm := ⟨[1, 2, 6, 15, 16, 17], [], []⟩
def w51I0 (x : (List (List UInt8)) × Bool × (List (List UInt8)) × Int × Int) : Sg := ⟨[(1, .e (.sl (.sl .u8)) x.1), (2, .fn 53 []), (6, .e .bo x.2.1), (15, .e (.sl (.sl .u8)) x.2.2.1), (16, .e (.i .i64) x.2.2.2.1), (17, .e (.i .i64) x.2.2.2.2)], [], 100⟩
def w51u0 (σ : Sg) : (List (List UInt8)) × Bool × (List (List UInt8)) × Int × Int := (lvT (.sl (.sl .u8)) 1 0 σ, lvT .bo 6 0 σ, lvT (.sl (.sl .u8)) 15 0 σ, lvT (.i .i64) 16 0 σ, lvT (.i .i64) 17 0 σ)
theorem w51ui0 : ∀ x, w51u0 (w51I0 x) = x := fun _ => by kernel_rfl
def w51X0_0 (y : Bool) : Exit × Sg := (.ret, ⟨[(6, .e .bo y)], [], 100⟩)
def w51v0_0 (σ : Sg) : Bool := lvT .bo 6 0 σ
def w51X0_1 (y : Bool) : Exit × Sg := ((.exit 0), ⟨[(6, .e .bo y)], [], 100⟩)
def w51v0_1 (σ : Sg) : Bool := lvT .bo 6 0 σ
def w51w0 : List (Exit × Nm) := [(.ret, ⟨[6], [], []⟩), ((.exit 0), ⟨[6], [], []⟩)]
theorem w51o0 : Outs w51v0_0 w51v0_1 (fun _ => ()) w51X0_0 w51X0_1 (noX 2) .ret (.exit 0) (.goto 2) := ⟨fun _ => by kernel_rfl, fun _ => by kernel_rfl, fun _ => by kernel_rfl, fun _ => by kernel_rfl, fun _ => by kernel_rfl, fun _ => by kernel_rfl, exNe_ok (by kernel_rfl), exNe_ok (by kernel_rfl), exNe_ok (by kernel_rfl)⟩
def w51l0 [Alg] (N : Nat) : Nat → ((List (List UInt8)) × Bool × (List (List UInt8)) × Int × Int) → ((Bool) → O) → ((Bool) → O) → ((Unit) → O) → O
  | 0, _, _, _, _ => none
  | n + 1, x, k0, k1, k2 => w51F0 N  (fun v0 => w51l0 N n (x.1, x.2.1, x.2.2.1, x.2.2.2.1, v0) k0 k1 k2) (fun y0 => k0 y0) (fun y0 => k1 y0) x.1 x.2.1 x.2.2.1 x.2.2.2.1 x.2.2.2.2
def w51n0 [Alg] (N : Nat) (a0 : (List (List UInt8))) (a1 : Bool) (a2 : (List (List UInt8))) (a3 : Int) (a4 : Int) (k0 : Bool → O) (k1 : Bool → O) : O := w51l0 N N (a0, a1, a2, a3, a4) (fun y => k0 y) (fun y => k1 y) (fun _ => none)
noncomputable def w51s0 [Alg] (N : Nat) (a0 : (List (List UInt8))) (a1 : Bool) (a2 : (List (List UInt8))) (a3 : Int) (a4 : Int) (k0 : Bool → O) (k1 : Bool → O) : O := subL w51I0 w51u0 (w51l0 N N) (w51I0 (a0, a1, a2, a3, a4)) (fun y => k0 y) (fun y => k1 y) (fun _ => none)
theorem w51e0 [Alg] (N : Nat) : w51s0 N = w51n0 N := funext fun _ => funext fun _ => funext fun _ => funext fun _ => funext fun _ => funext fun _ => funext fun _ => subL_I w51ui0 _ _ _ _
noncomputable def w51h0 [Alg] (_ : Nat) : Hint := .d
theorem w51hk0 (N : Nat) : HintOk (w51c N) Tryd.f51.ntmps (w51h0 N) w51b0 := hk_of _ _ trivial
theorem w51q0 [Alg] (N : Nat) (self : Sg → O) (K : Exit → Sg → O) (x : (List (List UInt8)) × Bool × (List (List UInt8)) × Int × Int) : w51F0 N  (fun v0 => self (w51I0 (x.1, x.2.1, x.2.2.1, x.2.2.2.1, v0))) (fun y0 => K (w51X0_0 y0).1 (w51X0_0 y0).2) (fun y0 => K (w51X0_1 y0).1 (w51X0_1 y0).2) x.1 x.2.1 x.2.2.1 x.2.2.2.1 x.2.2.2.2 = exec (w51c N) Tryd.f51.ntmps (w51h0 N) w51b0 (w51I0 x) (roundX w51m0 w51w0 self K) := by kernel_rfl
theorem w51S0 (N : Nat) (hc : CxOk (w51c N)) : SubOk (w51c N) Tryd.f51.ntmps (.loop w51b0) w51X0_0 w51X0_1 (noX 2) (subL w51I0 w51u0 (w51l0 N N)) :=
  sub_loop hc (w51hk0 N) w51o0 (n := N) (fun x K => loop_ind (w51l0 N) (fun _ _ _ _ => rfl) (fun n K ih x => by
    have h : w51F0 N  (fun v0 => w51l0 N n (x.1, x.2.1, x.2.2.1, x.2.2.2.1, v0) (fun y => K (w51X0_0 y).1 (w51X0_0 y).2) (fun y => K (w51X0_1 y).1 (w51X0_1 y).2) (fun y => K ((noX 2) y).1 ((noX 2) y).2)) (fun y0 => K (w51X0_0 y0).1 (w51X0_0 y0).2) (fun y0 => K (w51X0_1 y0).1 (w51X0_1 y0).2) x.1 x.2.1 x.2.2.1 x.2.2.2.1 x.2.2.2.2 = w51F0 N  (fun v0 => loopX (w51c N) Tryd.f51.ntmps (w51h0 N) w51b0 w51m0 w51w0 n (w51I0 (x.1, x.2.1, x.2.2.1, x.2.2.2.1, v0)) K) (fun y0 => K (w51X0_0 y0).1 (w51X0_0 y0).2) (fun y0 => K (w51X0_1 y0).1 (w51X0_1 y0).2) x.1 x.2.1 x.2.2.1 x.2.2.2.1 x.2.2.2.2 := by rw [ show (fun v0 => w51l0 N n (x.1, x.2.1, x.2.2.1, x.2.2.2.1, v0) (fun y => K (w51X0_0 y).1 (w51X0_0 y).2) (fun y => K (w51X0_1 y).1 (w51X0_1 y).2) (fun y => K ((noX 2) y).1 ((noX 2) y).2)) = (fun v0 => loopX (w51c N) Tryd.f51.ntmps (w51h0 N) w51b0 w51m0 w51w0 n (w51I0 (x.1, x.2.1, x.2.2.1, x.2.2.2.1, v0)) K) from funext fun _ => ih _]
    exact h.trans (w51q0 N (fun σ => loopX (w51c N) Tryd.f51.ntmps (w51h0 N) w51b0 w51m0 w51w0 n σ K) K x)) N x K)
def w51G [Alg] (_ : Nat) (in0 : (List (List UInt8)) → Bool → (List (List UInt8)) → Int → Int → (Bool → O) → (Bool → O) → O) (s10 : (List (List UInt8))) (s21 : (List (List UInt8))) : O :=
  br (decide ((↑s10.length : Int) ≠ (↑s21.length : Int)))
    (some (w51r0 false))
    (in0 s21 false s10 ((↑s10.length : Int)) ((0 : Int))
      (fun z7 =>
        some (w51r0 z7))
      (fun _ =>
        some (w51r0 true)))
def w51 [Alg] (N : Nat) (s10 : (List (List UInt8))) (s21 : (List (List UInt8))) : O := w51G N (w51n0 N) s10 s21
noncomputable def w51h [Alg] (N : Nat) : Hint := (.seq .d (.seq .d (.seq (.seq .d (.block (.sub w51m0 _ _ _ w51X0_0 w51X0_1 (noX 2) (subL w51I0 w51u0 (w51l0 N N))))) .d)))
theorem w51hk (N : Nat) (hc : CxOk (w51c N)) : HintOk (w51c N) Tryd.f51.ntmps (w51h N) w51b := hk_of _ _ (And.intro trivial (And.intro trivial (And.intro (And.intro trivial (w51S0 N hc)) trivial)))
theorem w51q [Alg] (N : Nat) (s10 : (List (List UInt8))) (s21 : (List (List UInt8))) : w51G N (w51s0 N) s10 s21 = exec (w51c N) Tryd.f51.ntmps (w51h N) w51b ⟨argT 0 [.e (.sl (.sl .u8)) s10, .e (.sl (.sl .u8)) s21, .fn 53 []], [], 100⟩ (finX (w51c N) Tryd.f51 false) := by kernel_rfl
theorem w51does {N : Nat} (hc : CxOk (w51c N)) {s10 : (List (List UInt8))} {s21 : (List (List UInt8))} {r : Res} (h : w51 N s10 s21 = some r) : Does Tryd.prog 51 (([.e (.sl (.sl .u8)) s10, .e (.sl (.sl .u8)) s21, .fn 53 []] : List X).map X.D) (HA []) r.1.D (HA r.2) :=
  fun_ok hc (f := 51) (fn := Tryd.f51) (code := w51b) (by kernel_rfl) (by kernel_rfl) (w51hk N hc) (Nat.le_of_ble_eq_true (by kernel_rfl)) (ow := false) ((w51q N s10 s21).symm.trans (by rw [w51e0 N]; exact h))
def w51un (r : Res) : Option (Bool) := match r with
  | (x0, []) => (match ue .bo x0 with | some a0 => some a0 | _ => none)
  | _ => none
theorem w51uo {r : Res} {d : Bool} (h : w51un r = some d) : r = w51r0 (d) := by
  unfold w51un at h
  split at h
  · split at h
    · rename_i h0; cases h; rw [ue_some h0]; rfl
    · cases h
  · cases h
def w51z (N : Nat) (s10 : (List (List UInt8))) (s21 : (List (List UInt8))) : Option (Bool) := (w51 N s10 s21).bind w51un
theorem w51fin {N : Nat} (hc : CxOk (w51c N)) {s10 : (List (List UInt8))} {s21 : (List (List UInt8))} {d : Bool} (hd : w51z N s10 s21 = some d) : Does Tryd.prog 51 (([.e (.sl (.sl .u8)) s10, .e (.sl (.sl .u8)) s21, .fn 53 []] : List X).map X.D) (HA []) (w51r0 (d)).1.D (HA (w51r0 (d)).2) := by
  obtain ⟨r, hr, hu⟩ := Option.bind_eq_some_iff.1 hd
  have := w51does hc hr
  rw [w51uo hu] at this
  exact this
def w51p (N : Nat) (s10 : (List (List UInt8))) (s21 : (List (List UInt8))) : Bool := (w51z N s10 s21).isSome
def w51y0 (N : Nat) (s10 : (List (List UInt8))) (s21 : (List (List UInt8))) : Bool := ((w51z N s10 s21).getD false)
def w51e (N : Nat) : Ent' := Ef2 (.sl (.sl .u8)) (.sl (.sl .u8)) 53 (fun x0 x1 => (w51p N x0 x1, w51r0 (w51y0 N x0 x1)))
theorem w51re {N : Nat} {s10 : (List (List UInt8))} {s21 : (List (List UInt8))} {d : Bool} (hd : w51z N s10 s21 = some d) : w51r0 (w51y0 N s10 s21) = w51r0 (d) := by unfold w51y0; rw [hd]; rfl
theorem w51ok (N : Nat) : EOk Tryd.prog 51 (w51e N) := EOk.f2 (fun x0 x1 h => by
  have h : (w51z N x0 x1).isSome = true := h
  obtain ⟨d, hd⟩ := Option.isSome_iff_exists.1 h
  have f := w51fin (w51cx N) hd
  rw [← w51re hd] at f
  exact f)
def w32r0 (a0 : Bool) : Res := (.e .bo a0, [])
noncomputable def w32L (N : Nat) : List (Nat × Ent') := [(52, w52e N), (51, w51e N), (53, w53e N)]
noncomputable def w32c (N : Nat) : Cx := ⟨Tryd.prog, 99999, w32L N⟩
noncomputable def w32b : Code := Tryd.f32.body.getD .skip
theorem w32cx (N : Nat) : CxOk (w32c N) := ctx_ok (by kernel_rfl) (.cons (by kernel_rfl) (w52ok N) (.cons (by kernel_rfl) (w51ok N) (.cons (by kernel_rfl) (w53ok N) .nil)))
def w32G [Alg] (N : Nat)  (a0 : (List (List UInt8))) (b1 : (List (List UInt8))) : O :=
  ck (w52p N a0) <|
  ck (w52p N b1) <|
  ck (w51p N (w52y0 N a0) (w52y0 N b1)) <|
  some (w32r0 (w51y0 N (w52y0 N a0) (w52y0 N b1)))
def w32 [Alg] (N : Nat) (a0 : (List (List UInt8))) (b1 : (List (List UInt8))) : O := w32G N  a0 b1
noncomputable def w32h [Alg] (_ : Nat) : Hint := .d
theorem w32hk (N : Nat) : HintOk (w32c N) Tryd.f32.ntmps (w32h N) w32b := hk_of _ _ trivial
theorem w32q [Alg] (N : Nat) (a0 : (List (List UInt8))) (b1 : (List (List UInt8))) : w32G N  a0 b1 = exec (w32c N) Tryd.f32.ntmps (w32h N) w32b ⟨argT 0 [.e (.sl (.sl .u8)) a0, .e (.sl (.sl .u8)) b1], [], 100⟩ (finX (w32c N) Tryd.f32 false) := by kernel_rfl
theorem w32does {N : Nat} (hc : CxOk (w32c N)) {a0 : (List (List UInt8))} {b1 : (List (List UInt8))} {r : Res} (h : w32 N a0 b1 = some r) : Does Tryd.prog 32 (([.e (.sl (.sl .u8)) a0, .e (.sl (.sl .u8)) b1] : List X).map X.D) (HA []) r.1.D (HA r.2) :=
  fun_ok hc (f := 32) (fn := Tryd.f32) (code := w32b) (by kernel_rfl) (by kernel_rfl) (w32hk N) (Nat.le_of_ble_eq_true (by kernel_rfl)) (ow := false) ((w32q N a0 b1).symm.trans (by exact h))
def w32un (r : Res) : Option (Bool) := match r with
  | (x0, []) => (match ue .bo x0 with | some a0 => some a0 | _ => none)
  | _ => none
theorem w32uo {r : Res} {d : Bool} (h : w32un r = some d) : r = w32r0 (d) := by
  unfold w32un at h
  split at h
  · split at h
    · rename_i h0; cases h; rw [ue_some h0]; rfl
    · cases h
  · cases h
def w32z (N : Nat) (a0 : (List (List UInt8))) (b1 : (List (List UInt8))) : Option (Bool) := (w32 N a0 b1).bind w32un
theorem w32fin {N : Nat} (hc : CxOk (w32c N)) {a0 : (List (List UInt8))} {b1 : (List (List UInt8))} {d : Bool} (hd : w32z N a0 b1 = some d) : Does Tryd.prog 32 (([.e (.sl (.sl .u8)) a0, .e (.sl (.sl .u8)) b1] : List X).map X.D) (HA []) (w32r0 (d)).1.D (HA (w32r0 (d)).2) := by
  obtain ⟨r, hr, hu⟩ := Option.bind_eq_some_iff.1 hd
  have := w32does hc hr
  rw [w32uo hu] at this
  exact this
def w32p (N : Nat) (a0 : (List (List UInt8))) (b1 : (List (List UInt8))) : Bool := (w32z N a0 b1).isSome
def w32y0 (N : Nat) (a0 : (List (List UInt8))) (b1 : (List (List UInt8))) : Bool := ((w32z N a0 b1).getD false)
def w32e (N : Nat) : Ent' := E2 (.sl (.sl .u8)) (.sl (.sl .u8))  (fun x0 x1 => (w32p N x0 x1, w32r0 (w32y0 N x0 x1)))
theorem w32re {N : Nat} {a0 : (List (List UInt8))} {b1 : (List (List UInt8))} {d : Bool} (hd : w32z N a0 b1 = some d) : w32r0 (w32y0 N a0 b1) = w32r0 (d) := by unfold w32y0; rw [hd]; rfl
theorem w32ok (N : Nat) : EOk Tryd.prog 32 (w32e N) := EOk.e2 (fun x0 x1 h => by
  have h : (w32z N x0 x1).isSome = true := h
  obtain ⟨d, hd⟩ := Option.isSome_iff_exists.1 h
  have f := w32fin (w32cx N) hd
  rw [← w32re hd] at f
  exact f)
def w72r0 (a0 : Int) : Res := (.e (.i .i64) a0, [])
noncomputable def w72L (_ : Nat) : List (Nat × Ent') := []
noncomputable def w72c (N : Nat) : Cx := ⟨Tryd.prog, 99999, w72L N⟩
noncomputable def w72b : Code := Tryd.f72.body.getD .skip
theorem w72cx (N : Nat) : CxOk (w72c N) := ctx_ok (by kernel_rfl) .nil
def w72F0 [Alg] (_ : Nat)  (self : Int → O) (k0 : Int → O) (k1 : Int → O) (x0_0 : (List UInt8)) (x0_1 : UInt8) (x0_2 : Int) (x0_3 : Int) (x0_4 : Int) : O :=
  br (decide (x0_4 < x0_3))
    (gx x0_0 x0_4 fun y3 =>
    br (decide (x0_1 = y3))
      (k0 x0_4)
      (self (IntKind.i64.wrap (x0_4 + (1 : Int)))))
    (k1 x0_2)
noncomputable def w72b0 : Code := atC [1, 0, 1, 0, 0] w72b
def w72m0 : Nm := ⟨[0, 1, 4, 7, 8], [], []⟩
def w72I0 (x : (List UInt8) × UInt8 × Int × Int × Int) : Sg := ⟨[(0, .e (.sl .u8) x.1), (1, .e .u8 x.2.1), (4, .e (.i .i64) x.2.2.1), (7, .e (.i .i64) x.2.2.2.1), (8, .e (.i .i64) x.2.2.2.2)], [], 100⟩
def w72u0 (σ : Sg) : (List UInt8) × UInt8 × Int × Int × Int := (lvT (.sl .u8) 0 0 σ, lvT .u8 1 0 σ, lvT (.i .i64) 4 0 σ, lvT (.i .i64) 7 0 σ, lvT (.i .i64) 8 0 σ)
theorem w72ui0 : ∀ x, w72u0 (w72I0 x) = x := fun _ => by kernel_rfl
def w72X0_0 (y : Int) : Exit × Sg := (.ret, ⟨[(4, .e (.i .i64) y)], [], 100⟩)
def w72v0_0 (σ : Sg) : Int := lvT (.i .i64) 4 0 σ
def w72X0_1 (y : Int) : Exit × Sg := ((.exit 0), ⟨[(4, .e (.i .i64) y)], [], 100⟩)
def w72v0_1 (σ : Sg) : Int := lvT (.i .i64) 4 0 σ
def w72w0 : List (Exit × Nm) := [(.ret, ⟨[4], [], []⟩), ((.exit 0), ⟨[4], [], []⟩)]
theorem w72o0 : Outs w72v0_0 w72v0_1 (fun _ => ()) w72X0_0 w72X0_1 (noX 2) .ret (.exit 0) (.goto 2) := ⟨fun _ => by kernel_rfl, fun _ => by kernel_rfl, fun _ => by kernel_rfl, fun _ => by kernel_rfl, fun _ => by kernel_rfl, fun _ => by kernel_rfl, exNe_ok (by kernel_rfl), exNe_ok (by kernel_rfl), exNe_ok (by kernel_rfl)⟩
def w72l0 [Alg] (N : Nat) : Nat → ((List UInt8) × UInt8 × Int × Int × Int) → ((Int) → O) → ((Int) → O) → ((Unit) → O) → O
  | 0, _, _, _, _ => none
  | n + 1, x, k0, k1, k2 => w72F0 N  (fun v0 => w72l0 N n (x.1, x.2.1, x.2.2.1, x.2.2.2.1, v0) k0 k1 k2) (fun y0 => k0 y0) (fun y0 => k1 y0) x.1 x.2.1 x.2.2.1 x.2.2.2.1 x.2.2.2.2
def w72n0 [Alg] (N : Nat) (a0 : (List UInt8)) (a1 : UInt8) (a2 : Int) (a3 : Int) (a4 : Int) (k0 : Int → O) (k1 : Int → O) : O := w72l0 N N (a0, a1, a2, a3, a4) (fun y => k0 y) (fun y => k1 y) (fun _ => none)
noncomputable def w72s0 [Alg] (N : Nat) (a0 : (List UInt8)) (a1 : UInt8) (a2 : Int) (a3 : Int) (a4 : Int) (k0 : Int → O) (k1 : Int → O) : O := subL w72I0 w72u0 (w72l0 N N) (w72I0 (a0, a1, a2, a3, a4)) (fun y => k0 y) (fun y => k1 y) (fun _ => none)
theorem w72e0 [Alg] (N : Nat) : w72s0 N = w72n0 N := funext fun _ => funext fun _ => funext fun _ => funext fun _ => funext fun _ => funext fun _ => funext fun _ => subL_I w72ui0 _ _ _ _
noncomputable def w72h0 [Alg] (_ : Nat) : Hint := .d
theorem w72hk0 (N : Nat) : HintOk (w72c N) Tryd.f72.ntmps (w72h0 N) w72b0 := hk_of _ _ trivial
theorem w72q0 [Alg] (N : Nat) (self : Sg → O) (K : Exit → Sg → O) (x : (List UInt8) × UInt8 × Int × Int × Int) : w72F0 N  (fun v0 => self (w72I0 (x.1, x.2.1, x.2.2.1, x.2.2.2.1, v0))) (fun y0 => K (w72X0_0 y0).1 (w72X0_0 y0).2) (fun y0 => K (w72X0_1 y0).1 (w72X0_1 y0).2) x.1 x.2.1 x.2.2.1 x.2.2.2.1 x.2.2.2.2 = exec (w72c N) Tryd.f72.ntmps (w72h0 N) w72b0 (w72I0 x) (roundX w72m0 w72w0 self K) := by kernel_rfl
theorem w72S0 (N : Nat) (hc : CxOk (w72c N)) : SubOk (w72c N) Tryd.f72.ntmps (.loop w72b0) w72X0_0 w72X0_1 (noX 2) (subL w72I0 w72u0 (w72l0 N N)) :=
  sub_loop hc (w72hk0 N) w72o0 (n := N) (fun x K => loop_ind (w72l0 N) (fun _ _ _ _ => rfl) (fun n K ih x => by
    have h : w72F0 N  (fun v0 => w72l0 N n (x.1, x.2.1, x.2.2.1, x.2.2.2.1, v0) (fun y => K (w72X0_0 y).1 (w72X0_0 y).2) (fun y => K (w72X0_1 y).1 (w72X0_1 y).2) (fun y => K ((noX 2) y).1 ((noX 2) y).2)) (fun y0 => K (w72X0_0 y0).1 (w72X0_0 y0).2) (fun y0 => K (w72X0_1 y0).1 (w72X0_1 y0).2) x.1 x.2.1 x.2.2.1 x.2.2.2.1 x.2.2.2.2 = w72F0 N  (fun v0 => loopX (w72c N) Tryd.f72.ntmps (w72h0 N) w72b0 w72m0 w72w0 n (w72I0 (x.1, x.2.1, x.2.2.1, x.2.2.2.1, v0)) K) (fun y0 => K (w72X0_0 y0).1 (w72X0_0 y0).2) (fun y0 => K (w72X0_1 y0).1 (w72X0_1 y0).2) x.1 x.2.1 x.2.2.1 x.2.2.2.1 x.2.2.2.2 := by rw [ show (fun v0 => w72l0 N n (x.1, x.2.1, x.2.2.1, x.2.2.2.1, v0) (fun y => K (w72X0_0 y).1 (w72X0_0 y).2) (fun y => K (w72X0_1 y).1 (w72X0_1 y).2) (fun y => K ((noX 2) y).1 ((noX 2) y).2)) = (fun v0 => loopX (w72c N) Tryd.f72.ntmps (w72h0 N) w72b0 w72m0 w72w0 n (w72I0 (x.1, x.2.1, x.2.2.1, x.2.2.2.1, v0)) K) from funext fun _ => ih _]
    exact h.trans (w72q0 N (fun σ => loopX (w72c N) Tryd.f72.ntmps (w72h0 N) w72b0 w72m0 w72w0 n σ K) K x)) N x K)
def w72G [Alg] (_ : Nat) (in0 : (List UInt8) → UInt8 → Int → Int → Int → (Int → O) → (Int → O) → O) (s0 : (List UInt8)) (v1 : UInt8) : O :=
  in0 s0 v1 ((0 : Int)) ((↑s0.length : Int)) ((0 : Int))
    (fun z4 =>
      some (w72r0 z4))
    (fun _ =>
      some (w72r0 ((-1 : Int))))
def w72 [Alg] (N : Nat) (s0 : (List UInt8)) (v1 : UInt8) : O := w72G N (w72n0 N) s0 v1
noncomputable def w72h [Alg] (N : Nat) : Hint := (.seq .d (.seq (.seq .d (.block (.sub w72m0 _ _ _ w72X0_0 w72X0_1 (noX 2) (subL w72I0 w72u0 (w72l0 N N))))) .d))
theorem w72hk (N : Nat) (hc : CxOk (w72c N)) : HintOk (w72c N) Tryd.f72.ntmps (w72h N) w72b := hk_of _ _ (And.intro trivial (And.intro (And.intro trivial (w72S0 N hc)) trivial))
theorem w72q [Alg] (N : Nat) (s0 : (List UInt8)) (v1 : UInt8) : w72G N (w72s0 N) s0 v1 = exec (w72c N) Tryd.f72.ntmps (w72h N) w72b ⟨argT 0 [.e (.sl .u8) s0, .e .u8 v1], [], 100⟩ (finX (w72c N) Tryd.f72 false) := by kernel_rfl
theorem w72does {N : Nat} (hc : CxOk (w72c N)) {s0 : (List UInt8)} {v1 : UInt8} {r : Res} (h : w72 N s0 v1 = some r) : Does Tryd.prog 72 (([.e (.sl .u8) s0, .e .u8 v1] : List X).map X.D) (HA []) r.1.D (HA r.2) :=
  fun_ok hc (f := 72) (fn := Tryd.f72) (code := w72b) (by kernel_rfl) (by kernel_rfl) (w72hk N hc) (Nat.le_of_ble_eq_true (by kernel_rfl)) (ow := false) ((w72q N s0 v1).symm.trans (by rw [w72e0 N]; exact h))
def w72un (r : Res) : Option (Int) := match r with
  | (x0, []) => (match ue (.i .i64) x0 with | some a0 => some a0 | _ => none)
  | _ => none
theorem w72uo {r : Res} {d : Int} (h : w72un r = some d) : r = w72r0 (d) := by
  unfold w72un at h
  split at h
  · split at h
    · rename_i h0; cases h; rw [ue_some h0]; rfl
    · cases h
  · cases h
def w72z (N : Nat) (s0 : (List UInt8)) (v1 : UInt8) : Option (Int) := (w72 N s0 v1).bind w72un
theorem w72fin {N : Nat} (hc : CxOk (w72c N)) {s0 : (List UInt8)} {v1 : UInt8} {d : Int} (hd : w72z N s0 v1 = some d) : Does Tryd.prog 72 (([.e (.sl .u8) s0, .e .u8 v1] : List X).map X.D) (HA []) (w72r0 (d)).1.D (HA (w72r0 (d)).2) := by
  obtain ⟨r, hr, hu⟩ := Option.bind_eq_some_iff.1 hd
  have := w72does hc hr
  rw [w72uo hu] at this
  exact this
def w72p (N : Nat) (s0 : (List UInt8)) (v1 : UInt8) : Bool := (w72z N s0 v1).isSome
def w72y0 (N : Nat) (s0 : (List UInt8)) (v1 : UInt8) : Int := ((w72z N s0 v1).getD 0)
def w72e (N : Nat) : Ent' := E2 (.sl .u8) .u8  (fun x0 x1 => (w72p N x0 x1, w72r0 (w72y0 N x0 x1)))
theorem w72re {N : Nat} {s0 : (List UInt8)} {v1 : UInt8} {d : Int} (hd : w72z N s0 v1 = some d) : w72r0 (w72y0 N s0 v1) = w72r0 (d) := by unfold w72y0; rw [hd]; rfl
theorem w72ok (N : Nat) : EOk Tryd.prog 72 (w72e N) := EOk.e2 (fun x0 x1 h => by
  have h : (w72z N x0 x1).isSome = true := h
  obtain ⟨d, hd⟩ := Option.isSome_iff_exists.1 h
  have f := w72fin (w72cx N) hd
  rw [← w72re hd] at f
  exact f)
def w89r0 (a0 : Int) (a1 : Bool) : Res := (.tup [.e (.i .i64) a0, .e .bo a1], [])
noncomputable def w89L (N : Nat) : List (Nat × Ent') := [(81, w81e N), (72, w72e N)]
noncomputable def w89c (N : Nat) : Cx := ⟨Tryd.prog, 99999, w89L N⟩
noncomputable def w89b : Code := Tryd.f89.body.getD .skip
theorem w89cx (N : Nat) : CxOk (w89c N) := ctx_ok (by kernel_rfl) (.cons (by kernel_rfl) (w81ok N) (.cons (by kernel_rfl) (w72ok N) .nil))
def w89F0 [Alg] (N : Nat)  (self : Int → Int → Int → O) (k0 : Int → Bool → O) (k1 : Int → Bool → Int → Int → O) (x0_0 : Int) (x0_1 : Bool) (x0_4 : (UInt8 × (UInt8 × (UInt8 × (UInt8 × (UInt8 × (UInt8 × (UInt8 × (UInt8 × (UInt8 × UInt8)))))))))) (x0_5 : (List UInt8)) (x0_6 : Int) (x0_2 : Int) (x0_3 : Int) (x0_7 : Int) : O :=
  br (decide (x0_7 < x0_6))
    (gx x0_5 x0_7 fun y3 =>
    br (decide (y3 = (0 : UInt8)))
      (self x0_2 x0_3 (IntKind.i64.wrap (x0_7 + (1 : Int))))
      (ck (w72p N [x0_4.1, x0_4.2.1, x0_4.2.2.1, x0_4.2.2.2.1, x0_4.2.2.2.2.1, x0_4.2.2.2.2.2.1, x0_4.2.2.2.2.2.2.1, x0_4.2.2.2.2.2.2.2.1, x0_4.2.2.2.2.2.2.2.2.1, x0_4.2.2.2.2.2.2.2.2.2] y3) <|
      br (decide (w72y0 N [x0_4.1, x0_4.2.1, x0_4.2.2.1, x0_4.2.2.2.1, x0_4.2.2.2.2.1, x0_4.2.2.2.2.2.1, x0_4.2.2.2.2.2.2.1, x0_4.2.2.2.2.2.2.2.1, x0_4.2.2.2.2.2.2.2.2.1, x0_4.2.2.2.2.2.2.2.2.2] y3 < (0 : Int)) || decide (x0_3 = (6 : Int)))
        (k0 ((0 : Int)) false)
        (self (IntKind.i64.wrap (IntKind.i64.wrap ((10 : Int) * x0_2) + w72y0 N [x0_4.1, x0_4.2.1, x0_4.2.2.1, x0_4.2.2.2.1, x0_4.2.2.2.2.1, x0_4.2.2.2.2.2.1, x0_4.2.2.2.2.2.2.1, x0_4.2.2.2.2.2.2.2.1, x0_4.2.2.2.2.2.2.2.2.1, x0_4.2.2.2.2.2.2.2.2.2] y3)) (IntKind.i64.wrap (x0_3 + (1 : Int))) (IntKind.i64.wrap (x0_7 + (1 : Int))))))
    (k1 x0_0 x0_1 x0_2 x0_3)
noncomputable def w89b0 : Code := atC [1, 1, 1, 0, 1, 0, 0] w89b
def w89m0 : Nm := ⟨[2, 3, 4, 5, 6, 11, 12, 13], [], []⟩
def w89I0 (x : Int × Bool × Int × Int × (UInt8 × (UInt8 × (UInt8 × (UInt8 × (UInt8 × (UInt8 × (UInt8 × (UInt8 × (UInt8 × UInt8))))))))) × (List UInt8) × Int × Int) : Sg := ⟨[(2, .e (.i .i64) x.1), (3, .e .bo x.2.1), (4, .e (.i .i64) x.2.2.1), (5, .e (.i .i64) x.2.2.2.1), (6, .pt (.pr .u8 (.pr .u8 (.pr .u8 (.pr .u8 (.pr .u8 (.pr .u8 (.pr .u8 (.pr .u8 (.pr .u8 .u8))))))))) x.2.2.2.2.1 0), (11, .e (.sl .u8) x.2.2.2.2.2.1), (12, .e (.i .i64) x.2.2.2.2.2.2.1), (13, .e (.i .i64) x.2.2.2.2.2.2.2)], [], 100⟩
def w89u0 (σ : Sg) : Int × Bool × Int × Int × (UInt8 × (UInt8 × (UInt8 × (UInt8 × (UInt8 × (UInt8 × (UInt8 × (UInt8 × (UInt8 × UInt8))))))))) × (List UInt8) × Int × Int := (lvT (.i .i64) 2 0 σ, lvT .bo 3 0 σ, lvT (.i .i64) 4 0 σ, lvT (.i .i64) 5 0 σ, lvT (.pr .u8 (.pr .u8 (.pr .u8 (.pr .u8 (.pr .u8 (.pr .u8 (.pr .u8 (.pr .u8 (.pr .u8 .u8))))))))) 6 0 σ, lvT (.sl .u8) 11 0 σ, lvT (.i .i64) 12 0 σ, lvT (.i .i64) 13 0 σ)
theorem w89ui0 : ∀ x, w89u0 (w89I0 x) = x := fun _ => by kernel_rfl
def w89X0_0 (y : Int × Bool) : Exit × Sg := (.ret, ⟨[(2, .e (.i .i64) y.1), (3, .e .bo y.2)], [], 100⟩)
def w89v0_0 (σ : Sg) : Int × Bool := (lvT (.i .i64) 2 0 σ, lvT .bo 3 0 σ)
def w89X0_1 (y : Int × Bool × Int × Int) : Exit × Sg := ((.exit 0), ⟨[(2, .e (.i .i64) y.1), (3, .e .bo y.2.1), (4, .e (.i .i64) y.2.2.1), (5, .e (.i .i64) y.2.2.2)], [], 100⟩)
def w89v0_1 (σ : Sg) : Int × Bool × Int × Int := (lvT (.i .i64) 2 0 σ, lvT .bo 3 0 σ, lvT (.i .i64) 4 0 σ, lvT (.i .i64) 5 0 σ)
def w89w0 : List (Exit × Nm) := [(.ret, ⟨[2, 3], [], []⟩), ((.exit 0), ⟨[2, 3, 4, 5], [], []⟩)]
theorem w89o0 : Outs w89v0_0 w89v0_1 (fun _ => ()) w89X0_0 w89X0_1 (noX 2) .ret (.exit 0) (.goto 2) := ⟨fun _ => by kernel_rfl, fun _ => by kernel_rfl, fun _ => by kernel_rfl, fun _ => by kernel_rfl, fun _ => by kernel_rfl, fun _ => by kernel_rfl, exNe_ok (by kernel_rfl), exNe_ok (by kernel_rfl), exNe_ok (by kernel_rfl)⟩
def w89l0 [Alg] (N : Nat) : Nat → (Int × Bool × Int × Int × (UInt8 × (UInt8 × (UInt8 × (UInt8 × (UInt8 × (UInt8 × (UInt8 × (UInt8 × (UInt8 × UInt8))))))))) × (List UInt8) × Int × Int) → ((Int × Bool) → O) → ((Int × Bool × Int × Int) → O) → ((Unit) → O) → O
  | 0, _, _, _, _ => none
  | n + 1, x, k0, k1, k2 => w89F0 N  (fun v0 v1 v2 => w89l0 N n (x.1, x.2.1, v0, v1, x.2.2.2.2.1, x.2.2.2.2.2.1, x.2.2.2.2.2.2.1, v2) k0 k1 k2) (fun y0 y1 => k0 (y0, y1)) (fun y0 y1 y2 y3 => k1 (y0, y1, y2, y3)) x.1 x.2.1 x.2.2.2.2.1 x.2.2.2.2.2.1 x.2.2.2.2.2.2.1 x.2.2.1 x.2.2.2.1 x.2.2.2.2.2.2.2
def w89n0 [Alg] (N : Nat) (a0 : Int) (a1 : Bool) (a2 : Int) (a3 : Int) (a4 : (UInt8 × (UInt8 × (UInt8 × (UInt8 × (UInt8 × (UInt8 × (UInt8 × (UInt8 × (UInt8 × UInt8)))))))))) (a5 : (List UInt8)) (a6 : Int) (a7 : Int) (k0 : Int → Bool → O) (k1 : Int → Bool → Int → Int → O) : O := w89l0 N N (a0, a1, a2, a3, a4, a5, a6, a7) (fun y => k0 y.1 y.2) (fun y => k1 y.1 y.2.1 y.2.2.1 y.2.2.2) (fun _ => none)
noncomputable def w89s0 [Alg] (N : Nat) (a0 : Int) (a1 : Bool) (a2 : Int) (a3 : Int) (a4 : (UInt8 × (UInt8 × (UInt8 × (UInt8 × (UInt8 × (UInt8 × (UInt8 × (UInt8 × (UInt8 × UInt8)))))))))) (a5 : (List UInt8)) (a6 : Int) (a7 : Int) (k0 : Int → Bool → O) (k1 : Int → Bool → Int → Int → O) : O := subL w89I0 w89u0 (w89l0 N N) (w89I0 (a0, a1, a2, a3, a4, a5, a6, a7)) (fun y => k0 y.1 y.2) (fun y => k1 y.1 y.2.1 y.2.2.1 y.2.2.2) (fun _ => none)
theorem w89e0 [Alg] (N : Nat) : w89s0 N = w89n0 N := funext fun _ => funext fun _ => funext fun _ => funext fun _ => funext fun _ => funext fun _ => funext fun _ => funext fun _ => funext fun _ => funext fun _ => subL_I w89ui0 _ _ _ _
noncomputable def w89h0 [Alg] (_ : Nat) : Hint := .d
theorem w89hk0 (N : Nat) : HintOk (w89c N) Tryd.f89.ntmps (w89h0 N) w89b0 := hk_of _ _ trivial
theorem w89q0 [Alg] (N : Nat) (self : Sg → O) (K : Exit → Sg → O) (x : Int × Bool × Int × Int × (UInt8 × (UInt8 × (UInt8 × (UInt8 × (UInt8 × (UInt8 × (UInt8 × (UInt8 × (UInt8 × UInt8))))))))) × (List UInt8) × Int × Int) : w89F0 N  (fun v0 v1 v2 => self (w89I0 (x.1, x.2.1, v0, v1, x.2.2.2.2.1, x.2.2.2.2.2.1, x.2.2.2.2.2.2.1, v2))) (fun y0 y1 => K (w89X0_0 (y0, y1)).1 (w89X0_0 (y0, y1)).2) (fun y0 y1 y2 y3 => K (w89X0_1 (y0, y1, y2, y3)).1 (w89X0_1 (y0, y1, y2, y3)).2) x.1 x.2.1 x.2.2.2.2.1 x.2.2.2.2.2.1 x.2.2.2.2.2.2.1 x.2.2.1 x.2.2.2.1 x.2.2.2.2.2.2.2 = exec (w89c N) Tryd.f89.ntmps (w89h0 N) w89b0 (w89I0 x) (roundX w89m0 w89w0 self K) := by kernel_rfl
theorem w89S0 (N : Nat) (hc : CxOk (w89c N)) : SubOk (w89c N) Tryd.f89.ntmps (.loop w89b0) w89X0_0 w89X0_1 (noX 2) (subL w89I0 w89u0 (w89l0 N N)) :=
  sub_loop hc (w89hk0 N) w89o0 (n := N) (fun x K => loop_ind (w89l0 N) (fun _ _ _ _ => rfl) (fun n K ih x => by
    have h : w89F0 N  (fun v0 v1 v2 => w89l0 N n (x.1, x.2.1, v0, v1, x.2.2.2.2.1, x.2.2.2.2.2.1, x.2.2.2.2.2.2.1, v2) (fun y => K (w89X0_0 y).1 (w89X0_0 y).2) (fun y => K (w89X0_1 y).1 (w89X0_1 y).2) (fun y => K ((noX 2) y).1 ((noX 2) y).2)) (fun y0 y1 => K (w89X0_0 (y0, y1)).1 (w89X0_0 (y0, y1)).2) (fun y0 y1 y2 y3 => K (w89X0_1 (y0, y1, y2, y3)).1 (w89X0_1 (y0, y1, y2, y3)).2) x.1 x.2.1 x.2.2.2.2.1 x.2.2.2.2.2.1 x.2.2.2.2.2.2.1 x.2.2.1 x.2.2.2.1 x.2.2.2.2.2.2.2 = w89F0 N  (fun v0 v1 v2 => loopX (w89c N) Tryd.f89.ntmps (w89h0 N) w89b0 w89m0 w89w0 n (w89I0 (x.1, x.2.1, v0, v1, x.2.2.2.2.1, x.2.2.2.2.2.1, x.2.2.2.2.2.2.1, v2)) K) (fun y0 y1 => K (w89X0_0 (y0, y1)).1 (w89X0_0 (y0, y1)).2) (fun y0 y1 y2 y3 => K (w89X0_1 (y0, y1, y2, y3)).1 (w89X0_1 (y0, y1, y2, y3)).2) x.1 x.2.1 x.2.2.2.2.1 x.2.2.2.2.2.1 x.2.2.2.2.2.2.1 x.2.2.1 x.2.2.2.1 x.2.2.2.2.2.2.2 := by rw [ show (fun v0 v1 v2 => w89l0 N n (x.1, x.2.1, v0, v1, x.2.2.2.2.1, x.2.2.2.2.2.1, x.2.2.2.2.2.2.1, v2) (fun y => K (w89X0_0 y).1 (w89X0_0 y).2) (fun y => K (w89X0_1 y).1 (w89X0_1 y).2) (fun y => K ((noX 2) y).1 ((noX 2) y).2)) = (fun v0 v1 v2 => loopX (w89c N) Tryd.f89.ntmps (w89h0 N) w89b0 w89m0 w89w0 n (w89I0 (x.1, x.2.1, v0, v1, x.2.2.2.2.1, x.2.2.2.2.2.1, x.2.2.2.2.2.2.1, v2)) K) from funext fun _ => funext fun _ => funext fun _ => ih _]
    exact h.trans (w89q0 N (fun σ => loopX (w89c N) Tryd.f89.ntmps (w89h0 N) w89b0 w89m0 w89w0 n σ K) K x)) N x K)
def w89G [Alg] (N : Nat) (in0 : Int → Bool → Int → Int → (UInt8 × (UInt8 × (UInt8 × (UInt8 × (UInt8 × (UInt8 × (UInt8 × (UInt8 × (UInt8 × UInt8))))))))) → (List UInt8) → Int → Int → (Int → Bool → O) → (Int → Bool → Int → Int → O) → O) (l0 : (List UInt8)) : O :=
  ck (w81p N) <|
  in0 ((0 : Int)) false ((0 : Int)) ((0 : Int)) ((w81y0 N, w81y1 N, w81y2 N, w81y3 N, w81y4 N, w81y5 N, w81y6 N, w81y7 N, w81y8 N, w81y9 N)) l0 ((↑l0.length : Int)) ((0 : Int))
    (fun z4 z5 =>
      some (w89r0 z4 z5))
    (fun _ _ z8 z9 =>
      some (w89r0 z8 (decide ((0 : Int) < z9))))
def w89 [Alg] (N : Nat) (l0 : (List UInt8)) : O := w89G N (w89n0 N) l0
noncomputable def w89h [Alg] (N : Nat) : Hint := (.seq .d (.seq .d (.seq .d (.seq (.seq (.reg [] [.fz 6 (.pr .u8 (.pr .u8 (.pr .u8 (.pr .u8 (.pr .u8 (.pr .u8 (.pr .u8 (.pr .u8 (.pr .u8 .u8)))))))))] []) (.block (.sub w89m0 _ _ _ w89X0_0 w89X0_1 (noX 2) (subL w89I0 w89u0 (w89l0 N N))))) .d))))
theorem w89hk (N : Nat) (hc : CxOk (w89c N)) : HintOk (w89c N) Tryd.f89.ntmps (w89h N) w89b := hk_of _ _ (And.intro trivial (And.intro trivial (And.intro trivial (And.intro (And.intro trivial (w89S0 N hc)) trivial))))
theorem w89q [Alg] (N : Nat) (l0 : (List UInt8)) : w89G N (w89s0 N) l0 = exec (w89c N) Tryd.f89.ntmps (w89h N) w89b ⟨argT 0 [.e (.sl .u8) l0], [], 100⟩ (finX (w89c N) Tryd.f89 false) := by kernel_rfl
theorem w89does {N : Nat} (hc : CxOk (w89c N)) {l0 : (List UInt8)} {r : Res} (h : w89 N l0 = some r) : Does Tryd.prog 89 (([.e (.sl .u8) l0] : List X).map X.D) (HA []) r.1.D (HA r.2) :=
  fun_ok hc (f := 89) (fn := Tryd.f89) (code := w89b) (by kernel_rfl) (by kernel_rfl) (w89hk N hc) (Nat.le_of_ble_eq_true (by kernel_rfl)) (ow := false) ((w89q N l0).symm.trans (by rw [w89e0 N]; exact h))
def w89un (r : Res) : Option (Int × Bool) := match r with
  | (.tup [x0, x1], []) => (match ue (.i .i64) x0, ue .bo x1 with | some a0, some a1 => some (a0, a1) | _, _ => none)
  | _ => none
theorem w89uo {r : Res} {d : Int × Bool} (h : w89un r = some d) : r = w89r0 (d.1) (d.2) := by
  unfold w89un at h
  split at h
  · split at h
    · rename_i h0 h1; cases h; rw [ue_some h0, ue_some h1]; rfl
    · cases h
  · cases h
def w89z (N : Nat) (l0 : (List UInt8)) : Option (Int × Bool) := (w89 N l0).bind w89un
theorem w89fin {N : Nat} (hc : CxOk (w89c N)) {l0 : (List UInt8)} {d : Int × Bool} (hd : w89z N l0 = some d) : Does Tryd.prog 89 (([.e (.sl .u8) l0] : List X).map X.D) (HA []) (w89r0 (d.1) (d.2)).1.D (HA (w89r0 (d.1) (d.2)).2) := by
  obtain ⟨r, hr, hu⟩ := Option.bind_eq_some_iff.1 hd
  have := w89does hc hr
  rw [w89uo hu] at this
  exact this
def w89p (N : Nat) (l0 : (List UInt8)) : Bool := (w89z N l0).isSome
def w89y0 (N : Nat) (l0 : (List UInt8)) : Int := ((w89z N l0).getD (0, false)).1
def w89y1 (N : Nat) (l0 : (List UInt8)) : Bool := ((w89z N l0).getD (0, false)).2
def w89e (N : Nat) : Ent' := E1 (.sl .u8)  (fun x0 => (w89p N x0, w89r0 (w89y0 N x0) (w89y1 N x0)))
theorem w89re {N : Nat} {l0 : (List UInt8)} {d : Int × Bool} (hd : w89z N l0 = some d) : w89r0 (w89y0 N l0) (w89y1 N l0) = w89r0 (d.1) (d.2) := by unfold w89y0 w89y1; rw [hd]; rfl
theorem w89ok (N : Nat) : EOk Tryd.prog 89 (w89e N) := EOk.e1 (fun x0 h => by
  have h : (w89z N x0).isSome = true := h
  obtain ⟨d, hd⟩ := Option.isSome_iff_exists.1 h
  have f := w89fin (w89cx N) hd
  rw [← w89re hd] at f
  exact f)
def w73r0 (a0 : (List Int)) (a1 : Bool) : Res := (.tup [.e (.sl (.i .i64)) a0, .e .bo a1], [])
noncomputable def w73L (N : Nat) : List (Nat × Ent') := [(89, w89e N)]
noncomputable def w73c (N : Nat) : Cx := ⟨Tryd.prog, 99999, w73L N⟩
noncomputable def w73b : Code := Tryd.f73.body.getD .skip
theorem w73cx (N : Nat) : CxOk (w73c N) := ctx_ok (by kernel_rfl) (.cons (by kernel_rfl) (w89ok N) .nil)
def w73F0 [Alg] (N : Nat)  (self : Int → (List Int) → O) (k0 : Bool → O) (k1 : Bool → (List Int) → O) (x0_0 : Bool) (x0_1 : (List (List UInt8))) (x0_2 : Int) (x0_3 : Int) (x0_4 : (List Int)) : O :=
  br (decide (x0_3 < x0_2))
    (gx x0_1 x0_3 fun y4 =>
    ck (w89p N y4) <|
    br (!w89y1 N y4)
      (k0 false)
      (ck (lim (x0_4 ++ [w89y0 N y4]).length (8 : Nat)) <|
      self (IntKind.i64.wrap (x0_3 + (1 : Int))) (x0_4 ++ [w89y0 N y4])))
    (k1 x0_0 x0_4)
noncomputable def w73b0 : Code := atC [1, 1, 0, 1, 0, 0] w73b
def w73m0 : Nm := ⟨[2, 3, 4, 9, 10, 11], [], [.nilR 4 (.row 3 (.i .i64) [] true)]⟩
def w73I0 (x : Bool × (List (List UInt8)) × Int × Int × (List Int)) : Sg := ⟨[(2, .nilS), (3, .e .bo x.1), (4, .own 0), (9, .e (.sl (.sl .u8)) x.2.1), (10, .e (.i .i64) x.2.2.1), (11, .e (.i .i64) x.2.2.2.1)], [(0, .row 3 (.i .i64) x.2.2.2.2 true)], 100⟩
def w73u0 (σ : Sg) : Bool × (List (List UInt8)) × Int × Int × (List Int) := (lvT .bo 3 0 σ, lvT (.sl (.sl .u8)) 9 0 σ, lvT (.i .i64) 10 0 σ, lvT (.i .i64) 11 0 σ, lvR (.i .i64) 0 σ)
theorem w73ui0 : ∀ x, w73u0 (w73I0 x) = x := fun _ => by kernel_rfl
def w73X0_0 (y : Bool) : Exit × Sg := (.ret, ⟨[(2, .nilS), (3, .e .bo y)], [], 100⟩)
def w73v0_0 (σ : Sg) : Bool := lvT .bo 3 0 σ
def w73X0_1 (y : Bool × (List Int)) : Exit × Sg := ((.exit 0), ⟨[(2, .nilS), (3, .e .bo y.1), (4, .own 0)], [(0, .row 3 (.i .i64) y.2 true)], 100⟩)
def w73v0_1 (σ : Sg) : Bool × (List Int) := (lvT .bo 3 0 σ, lvR (.i .i64) 0 σ)
def w73w0 : List (Exit × Nm) := [(.ret, ⟨[2, 3], [], []⟩), ((.exit 0), ⟨[2, 3, 4], [], []⟩)]
theorem w73o0 : Outs w73v0_0 w73v0_1 (fun _ => ()) w73X0_0 w73X0_1 (noX 2) .ret (.exit 0) (.goto 2) := ⟨fun _ => by kernel_rfl, fun _ => by kernel_rfl, fun _ => by kernel_rfl, fun _ => by kernel_rfl, fun _ => by kernel_rfl, fun _ => by kernel_rfl, exNe_ok (by kernel_rfl), exNe_ok (by kernel_rfl), exNe_ok (by kernel_rfl)⟩
def w73l0 [Alg] (N : Nat) : Nat → (Bool × (List (List UInt8)) × Int × Int × (List Int)) → ((Bool) → O) → ((Bool × (List Int)) → O) → ((Unit) → O) → O
  | 0, _, _, _, _ => none
  | n + 1, x, k0, k1, k2 => w73F0 N  (fun v0 v1 => w73l0 N n (x.1, x.2.1, x.2.2.1, v0, v1) k0 k1 k2) (fun y0 => k0 y0) (fun y0 y1 => k1 (y0, y1)) x.1 x.2.1 x.2.2.1 x.2.2.2.1 x.2.2.2.2
def w73n0 [Alg] (N : Nat) (a0 : Bool) (a1 : (List (List UInt8))) (a2 : Int) (a3 : Int) (a4 : (List Int)) (k0 : Bool → O) (k1 : Bool → (List Int) → O) : O := w73l0 N N (a0, a1, a2, a3, a4) (fun y => k0 y) (fun y => k1 y.1 y.2) (fun _ => none)
noncomputable def w73s0 [Alg] (N : Nat) (a0 : Bool) (a1 : (List (List UInt8))) (a2 : Int) (a3 : Int) (a4 : (List Int)) (k0 : Bool → O) (k1 : Bool → (List Int) → O) : O := subL w73I0 w73u0 (w73l0 N N) (w73I0 (a0, a1, a2, a3, a4)) (fun y => k0 y) (fun y => k1 y.1 y.2) (fun _ => none)
theorem w73e0 [Alg] (N : Nat) : w73s0 N = w73n0 N := funext fun _ => funext fun _ => funext fun _ => funext fun _ => funext fun _ => funext fun _ => funext fun _ => subL_I w73ui0 _ _ _ _
noncomputable def w73h0 [Alg] (_ : Nat) : Hint := .d
theorem w73hk0 (N : Nat) : HintOk (w73c N) Tryd.f73.ntmps (w73h0 N) w73b0 := hk_of _ _ trivial
theorem w73q0 [Alg] (N : Nat) (self : Sg → O) (K : Exit → Sg → O) (x : Bool × (List (List UInt8)) × Int × Int × (List Int)) : w73F0 N  (fun v0 v1 => self (w73I0 (x.1, x.2.1, x.2.2.1, v0, v1))) (fun y0 => K (w73X0_0 y0).1 (w73X0_0 y0).2) (fun y0 y1 => K (w73X0_1 (y0, y1)).1 (w73X0_1 (y0, y1)).2) x.1 x.2.1 x.2.2.1 x.2.2.2.1 x.2.2.2.2 = exec (w73c N) Tryd.f73.ntmps (w73h0 N) w73b0 (w73I0 x) (roundX w73m0 w73w0 self K) := by kernel_rfl
theorem w73S0 (N : Nat) (hc : CxOk (w73c N)) : SubOk (w73c N) Tryd.f73.ntmps (.loop w73b0) w73X0_0 w73X0_1 (noX 2) (subL w73I0 w73u0 (w73l0 N N)) :=
  sub_loop hc (w73hk0 N) w73o0 (n := N) (fun x K => loop_ind (w73l0 N) (fun _ _ _ _ => rfl) (fun n K ih x => by
    have h : w73F0 N  (fun v0 v1 => w73l0 N n (x.1, x.2.1, x.2.2.1, v0, v1) (fun y => K (w73X0_0 y).1 (w73X0_0 y).2) (fun y => K (w73X0_1 y).1 (w73X0_1 y).2) (fun y => K ((noX 2) y).1 ((noX 2) y).2)) (fun y0 => K (w73X0_0 y0).1 (w73X0_0 y0).2) (fun y0 y1 => K (w73X0_1 (y0, y1)).1 (w73X0_1 (y0, y1)).2) x.1 x.2.1 x.2.2.1 x.2.2.2.1 x.2.2.2.2 = w73F0 N  (fun v0 v1 => loopX (w73c N) Tryd.f73.ntmps (w73h0 N) w73b0 w73m0 w73w0 n (w73I0 (x.1, x.2.1, x.2.2.1, v0, v1)) K) (fun y0 => K (w73X0_0 y0).1 (w73X0_0 y0).2) (fun y0 y1 => K (w73X0_1 (y0, y1)).1 (w73X0_1 (y0, y1)).2) x.1 x.2.1 x.2.2.1 x.2.2.2.1 x.2.2.2.2 := by rw [ show (fun v0 v1 => w73l0 N n (x.1, x.2.1, x.2.2.1, v0, v1) (fun y => K (w73X0_0 y).1 (w73X0_0 y).2) (fun y => K (w73X0_1 y).1 (w73X0_1 y).2) (fun y => K ((noX 2) y).1 ((noX 2) y).2)) = (fun v0 v1 => loopX (w73c N) Tryd.f73.ntmps (w73h0 N) w73b0 w73m0 w73w0 n (w73I0 (x.1, x.2.1, x.2.2.1, v0, v1)) K) from funext fun _ => funext fun _ => ih _]
    exact h.trans (w73q0 N (fun σ => loopX (w73c N) Tryd.f73.ntmps (w73h0 N) w73b0 w73m0 w73w0 n σ K) K x)) N x K)
def w73G [Alg] (_ : Nat) (in0 : Bool → (List (List UInt8)) → Int → Int → (List Int) → (Bool → O) → (Bool → (List Int) → O) → O) (l0 : (List (List UInt8))) : O :=
  in0 false l0 ((↑l0.length : Int)) ((0 : Int)) []
    (fun z5 =>
      some (w73r0 [] z5))
    (fun _ z7 =>
      some (w73r0 z7 true))
def w73 [Alg] (N : Nat) (l0 : (List (List UInt8))) : O := w73G N (w73n0 N) l0
noncomputable def w73h [Alg] (N : Nat) : Hint := (.seq .d (.seq .d (.seq (.seq .d (.block (.sub w73m0 _ _ _ w73X0_0 w73X0_1 (noX 2) (subL w73I0 w73u0 (w73l0 N N))))) .d)))
theorem w73hk (N : Nat) (hc : CxOk (w73c N)) : HintOk (w73c N) Tryd.f73.ntmps (w73h N) w73b := hk_of _ _ (And.intro trivial (And.intro trivial (And.intro (And.intro trivial (w73S0 N hc)) trivial)))
theorem w73q [Alg] (N : Nat) (l0 : (List (List UInt8))) : w73G N (w73s0 N) l0 = exec (w73c N) Tryd.f73.ntmps (w73h N) w73b ⟨argT 0 [.e (.sl (.sl .u8)) l0], [], 100⟩ (finX (w73c N) Tryd.f73 false) := by kernel_rfl
theorem w73does {N : Nat} (hc : CxOk (w73c N)) {l0 : (List (List UInt8))} {r : Res} (h : w73 N l0 = some r) : Does Tryd.prog 73 (([.e (.sl (.sl .u8)) l0] : List X).map X.D) (HA []) r.1.D (HA r.2) :=
  fun_ok hc (f := 73) (fn := Tryd.f73) (code := w73b) (by kernel_rfl) (by kernel_rfl) (w73hk N hc) (Nat.le_of_ble_eq_true (by kernel_rfl)) (ow := false) ((w73q N l0).symm.trans (by rw [w73e0 N]; exact h))
def w73un (r : Res) : Option ((List Int) × Bool) := match r with
  | (.tup [x0, x1], []) => (match ue (.sl (.i .i64)) x0, ue .bo x1 with | some a0, some a1 => some (a0, a1) | _, _ => none)
  | _ => none
theorem w73uo {r : Res} {d : (List Int) × Bool} (h : w73un r = some d) : r = w73r0 (d.1) (d.2) := by
  unfold w73un at h
  split at h
  · split at h
    · rename_i h0 h1; cases h; rw [ue_some h0, ue_some h1]; rfl
    · cases h
  · cases h
def w73z (N : Nat) (l0 : (List (List UInt8))) : Option ((List Int) × Bool) := (w73 N l0).bind w73un
theorem w73fin {N : Nat} (hc : CxOk (w73c N)) {l0 : (List (List UInt8))} {d : (List Int) × Bool} (hd : w73z N l0 = some d) : Does Tryd.prog 73 (([.e (.sl (.sl .u8)) l0] : List X).map X.D) (HA []) (w73r0 (d.1) (d.2)).1.D (HA (w73r0 (d.1) (d.2)).2) := by
  obtain ⟨r, hr, hu⟩ := Option.bind_eq_some_iff.1 hd
  have := w73does hc hr
  rw [w73uo hu] at this
  exact this
def w73p (N : Nat) (l0 : (List (List UInt8))) : Bool := (w73z N l0).isSome
def w73y0 (N : Nat) (l0 : (List (List UInt8))) : (List Int) := ((w73z N l0).getD ([], false)).1
def w73y1 (N : Nat) (l0 : (List (List UInt8))) : Bool := ((w73z N l0).getD ([], false)).2
def w73e (N : Nat) : Ent' := E1 (.sl (.sl .u8))  (fun x0 => (w73p N x0, w73r0 (w73y0 N x0) (w73y1 N x0)))
theorem w73re {N : Nat} {l0 : (List (List UInt8))} {d : (List Int) × Bool} (hd : w73z N l0 = some d) : w73r0 (w73y0 N l0) (w73y1 N l0) = w73r0 (d.1) (d.2) := by unfold w73y0 w73y1; rw [hd]; rfl
theorem w73ok (N : Nat) : EOk Tryd.prog 73 (w73e N) := EOk.e1 (fun x0 h => by
  have h : (w73z N x0).isSome = true := h
  obtain ⟨d, hd⟩ := Option.isSome_iff_exists.1 h
  have f := w73fin (w73cx N) hd
  rw [← w73re hd] at f
  exact f)
def w48r0 (a0 : Int) (a1 : (List Int)) (a2 : Bool) : Res := (.tup [.agg [.e (.i .i64) a0, .e (.sl (.i .i64)) a1], .e .bo a2], [])
noncomputable def w48L (N : Nat) : List (Nat × Ent') := [(72, w72e N), (73, w73e N), (74, w74e N)]
noncomputable def w48c (N : Nat) : Cx := ⟨Tryd.prog, 99999, w48L N⟩
noncomputable def w48b : Code := Tryd.f48.body.getD .skip
theorem w48cx (N : Nat) : CxOk (w48c N) := ctx_ok (by kernel_rfl) (.cons (by kernel_rfl) (w72ok N) (.cons (by kernel_rfl) (w73ok N) (.cons (by kernel_rfl) (w74ok N) .nil)))
def w48F0 [Alg] (_ : Nat)   (k0 : (List (List UInt8)) → Bool → (List (List UInt8)) → Int → Int → Bool → Int → (List UInt8) → (List UInt8) → Int → (List UInt8) → (List UInt8) → Int → Bool → (List UInt8) → UInt8 → UInt8 → Int → Bool → Int → Bool → Int → Bool → Int → Bool → Bool → Bool → Int → Int → Bool → Int → Int → Int → Int → O) (x423_0 : (List (List UInt8))) (x423_1 : Bool) (x423_2 : (List (List UInt8))) (x423_3 : Int) (x423_4 : Int) (x423_5 : Bool) (x423_6 : Int) (x423_7 : (List UInt8)) (x423_8 : (List UInt8)) (x423_9 : Int) (x423_10 : (List UInt8)) (x423_11 : (List UInt8)) (x423_12 : Int) (x423_13 : Bool) (x423_14 : (List UInt8)) (x423_15 : UInt8) (x423_16 : UInt8) (x423_17 : Int) (x423_18 : Bool) (x423_19 : Int) (x423_20 : Bool) (x423_21 : Int) (x423_22 : Bool) (x423_23 : Int) (x423_24 : Bool) (x423_25 : Bool) (x423_26 : Bool) (x423_27 : Int) (x423_28 : Int) (x423_29 : Int) (x423_30 : Int) (x423_31 : Int) : O :=
  br (decide (x423_23 = (5 : Int)))
    (k0 x423_0 x423_1 x423_2 x423_3 x423_4 x423_5 x423_6 x423_7 x423_8 x423_9 x423_10 x423_11 x423_12 x423_13 x423_14 x423_15 x423_16 x423_17 x423_18 x423_19 x423_20 x423_21 x423_22 x423_23 x423_24 x423_25 x423_26 ((0 : Int)) x423_23 (decide (x423_23 = (5 : Int))) x423_28 x423_29 x423_30 x423_31)
    (k0 x423_0 x423_1 x423_2 x423_3 x423_4 x423_5 x423_6 x423_7 x423_8 x423_9 x423_10 x423_11 x423_12 x423_13 x423_14 x423_15 x423_16 x423_17 x423_18 x423_19 x423_20 x423_21 x423_22 x423_23 x423_24 x423_25 x423_26 x423_27 x423_23 (decide (x423_23 = (5 : Int))) x423_28 x423_29 x423_30 x423_31)
noncomputable def w48b0 : Code := atC [1, 1, 1, 1, 0, 1, 0, 0, 1, 1, 0, 0, 1, 1, 1, 1, 1, 0] w48b
def w48m0 : Nm := ⟨[0, 2, 3, 7, 46, 47, 48, 49, 50, 51, 52, 8, 9, 53, 54, 55, 57, 58, 59, 60, 61, 56, 62, 63, 10, 11, 64, 65, 12], [], []⟩
def w48I0 (x : (List (List UInt8)) × Bool × (List (List UInt8)) × Int × Int × Bool × Int × (List UInt8) × (List UInt8) × Int × (List UInt8) × (List UInt8) × Int × Bool × (List UInt8) × UInt8 × UInt8 × Int × Bool × Int × Bool × Int × Bool × Int × Bool × Bool × Bool × Int × Int × Int × Int × Int) : Sg := ⟨[(0, .e (.sl (.sl .u8)) x.1), (2, .ref 0 0), (3, .e .bo x.2.1), (7, .own 1), (46, .e (.sl (.sl .u8)) x.2.2.1), (47, .e (.i .i64) x.2.2.2.1), (48, .e (.i .i64) x.2.2.2.2.1), (49, .e .bo x.2.2.2.2.2.1), (50, .e (.i .i64) x.2.2.2.2.2.2.1), (51, .pt (.sl .u8) x.2.2.2.2.2.2.2.1 0), (52, .e (.sl .u8) x.2.2.2.2.2.2.2.2.1), (8, .e (.i .i64) x.2.2.2.2.2.2.2.2.2.1), (9, .e (.sl .u8) x.2.2.2.2.2.2.2.2.2.2.1), (53, .e (.sl .u8) x.2.2.2.2.2.2.2.2.2.2.2.1), (54, .e (.i .i64) x.2.2.2.2.2.2.2.2.2.2.2.2.1), (55, .e .bo x.2.2.2.2.2.2.2.2.2.2.2.2.2.1), (57, .own 1), (58, .e (.sl .u8) x.2.2.2.2.2.2.2.2.2.2.2.2.2.2.1), (59, .pt .u8 x.2.2.2.2.2.2.2.2.2.2.2.2.2.2.2.1 0), (60, .e .u8 x.2.2.2.2.2.2.2.2.2.2.2.2.2.2.2.2.1), (61, .tup [.e (.i .i64) x.2.2.2.2.2.2.2.2.2.2.2.2.2.2.2.2.2.1, .e .bo x.2.2.2.2.2.2.2.2.2.2.2.2.2.2.2.2.2.2.1]), (56, .tup [.e (.i .i64) x.2.2.2.2.2.2.2.2.2.2.2.2.2.2.2.2.2.2.2.1, .e .bo x.2.2.2.2.2.2.2.2.2.2.2.2.2.2.2.2.2.2.2.2.1]), (62, .e (.i .i64) x.2.2.2.2.2.2.2.2.2.2.2.2.2.2.2.2.2.2.2.2.2.1), (63, .e .bo x.2.2.2.2.2.2.2.2.2.2.2.2.2.2.2.2.2.2.2.2.2.2.1), (10, .e (.i .i64) x.2.2.2.2.2.2.2.2.2.2.2.2.2.2.2.2.2.2.2.2.2.2.2.1), (11, .e .bo x.2.2.2.2.2.2.2.2.2.2.2.2.2.2.2.2.2.2.2.2.2.2.2.2.1), (64, .e .bo x.2.2.2.2.2.2.2.2.2.2.2.2.2.2.2.2.2.2.2.2.2.2.2.2.2.1), (65, .e .bo x.2.2.2.2.2.2.2.2.2.2.2.2.2.2.2.2.2.2.2.2.2.2.2.2.2.2.1), (12, .e (.i .i64) x.2.2.2.2.2.2.2.2.2.2.2.2.2.2.2.2.2.2.2.2.2.2.2.2.2.2.2.1)], [(0, .box 24 [.e (.i .i64) x.2.2.2.2.2.2.2.2.2.2.2.2.2.2.2.2.2.2.2.2.2.2.2.2.2.2.2.2.1, .nilS]), (1, .mp .u8 [((44 : UInt8), .e (.i .i64) x.2.2.2.2.2.2.2.2.2.2.2.2.2.2.2.2.2.2.2.2.2.2.2.2.2.2.2.2.2.1), ((36 : UInt8), .e (.i .i64) x.2.2.2.2.2.2.2.2.2.2.2.2.2.2.2.2.2.2.2.2.2.2.2.2.2.2.2.2.2.2.1), ((33 : UInt8), .e (.i .i64) x.2.2.2.2.2.2.2.2.2.2.2.2.2.2.2.2.2.2.2.2.2.2.2.2.2.2.2.2.2.2.2)])], 100⟩
def w48u0 (σ : Sg) : (List (List UInt8)) × Bool × (List (List UInt8)) × Int × Int × Bool × Int × (List UInt8) × (List UInt8) × Int × (List UInt8) × (List UInt8) × Int × Bool × (List UInt8) × UInt8 × UInt8 × Int × Bool × Int × Bool × Int × Bool × Int × Bool × Bool × Bool × Int × Int × Int × Int × Int := (lvT (.sl (.sl .u8)) 0 0 σ, lvT .bo 3 0 σ, lvT (.sl (.sl .u8)) 46 0 σ, lvT (.i .i64) 47 0 σ, lvT (.i .i64) 48 0 σ, lvT .bo 49 0 σ, lvT (.i .i64) 50 0 σ, lvT (.sl .u8) 51 0 σ, lvT (.sl .u8) 52 0 σ, lvT (.i .i64) 8 0 σ, lvT (.sl .u8) 9 0 σ, lvT (.sl .u8) 53 0 σ, lvT (.i .i64) 54 0 σ, lvT .bo 55 0 σ, lvT (.sl .u8) 58 0 σ, lvT .u8 59 0 σ, lvT .u8 60 0 σ, lvT (.i .i64) 61 0 σ, lvT .bo 61 1 σ, lvT (.i .i64) 56 0 σ, lvT .bo 56 1 σ, lvT (.i .i64) 62 0 σ, lvT .bo 63 0 σ, lvT (.i .i64) 10 0 σ, lvT .bo 11 0 σ, lvT .bo 64 0 σ, lvT .bo 65 0 σ, lvT (.i .i64) 12 0 σ, lvH (.i .i64) 0 0 σ, lvM (.i .i64) .u8 1 0 σ, lvM (.i .i64) .u8 1 1 σ, lvM (.i .i64) .u8 1 2 σ)
theorem w48ui0 : ∀ x, w48u0 (w48I0 x) = x := fun _ => by kernel_rfl
def w48X0_0 (y : (List (List UInt8)) × Bool × (List (List UInt8)) × Int × Int × Bool × Int × (List UInt8) × (List UInt8) × Int × (List UInt8) × (List UInt8) × Int × Bool × (List UInt8) × UInt8 × UInt8 × Int × Bool × Int × Bool × Int × Bool × Int × Bool × Bool × Bool × Int × Int × Bool × Int × Int × Int × Int) : Exit × Sg := (.normal, ⟨[(0, .e (.sl (.sl .u8)) y.1), (2, .ref 0 0), (3, .e .bo y.2.1), (7, .own 1), (46, .e (.sl (.sl .u8)) y.2.2.1), (47, .e (.i .i64) y.2.2.2.1), (48, .e (.i .i64) y.2.2.2.2.1), (49, .e .bo y.2.2.2.2.2.1), (50, .e (.i .i64) y.2.2.2.2.2.2.1), (51, .pt (.sl .u8) y.2.2.2.2.2.2.2.1 0), (52, .e (.sl .u8) y.2.2.2.2.2.2.2.2.1), (8, .e (.i .i64) y.2.2.2.2.2.2.2.2.2.1), (9, .e (.sl .u8) y.2.2.2.2.2.2.2.2.2.2.1), (53, .e (.sl .u8) y.2.2.2.2.2.2.2.2.2.2.2.1), (54, .e (.i .i64) y.2.2.2.2.2.2.2.2.2.2.2.2.1), (55, .e .bo y.2.2.2.2.2.2.2.2.2.2.2.2.2.1), (57, .own 1), (58, .e (.sl .u8) y.2.2.2.2.2.2.2.2.2.2.2.2.2.2.1), (59, .pt .u8 y.2.2.2.2.2.2.2.2.2.2.2.2.2.2.2.1 0), (60, .e .u8 y.2.2.2.2.2.2.2.2.2.2.2.2.2.2.2.2.1), (61, .tup [.e (.i .i64) y.2.2.2.2.2.2.2.2.2.2.2.2.2.2.2.2.2.1, .e .bo y.2.2.2.2.2.2.2.2.2.2.2.2.2.2.2.2.2.2.1]), (56, .tup [.e (.i .i64) y.2.2.2.2.2.2.2.2.2.2.2.2.2.2.2.2.2.2.2.1, .e .bo y.2.2.2.2.2.2.2.2.2.2.2.2.2.2.2.2.2.2.2.2.1]), (62, .e (.i .i64) y.2.2.2.2.2.2.2.2.2.2.2.2.2.2.2.2.2.2.2.2.2.1), (63, .e .bo y.2.2.2.2.2.2.2.2.2.2.2.2.2.2.2.2.2.2.2.2.2.2.1), (10, .e (.i .i64) y.2.2.2.2.2.2.2.2.2.2.2.2.2.2.2.2.2.2.2.2.2.2.2.1), (11, .e .bo y.2.2.2.2.2.2.2.2.2.2.2.2.2.2.2.2.2.2.2.2.2.2.2.2.1), (64, .e .bo y.2.2.2.2.2.2.2.2.2.2.2.2.2.2.2.2.2.2.2.2.2.2.2.2.2.1), (65, .e .bo y.2.2.2.2.2.2.2.2.2.2.2.2.2.2.2.2.2.2.2.2.2.2.2.2.2.2.1), (12, .e (.i .i64) y.2.2.2.2.2.2.2.2.2.2.2.2.2.2.2.2.2.2.2.2.2.2.2.2.2.2.2.1), (66, .e (.i .i64) y.2.2.2.2.2.2.2.2.2.2.2.2.2.2.2.2.2.2.2.2.2.2.2.2.2.2.2.2.1), (67, .e .bo y.2.2.2.2.2.2.2.2.2.2.2.2.2.2.2.2.2.2.2.2.2.2.2.2.2.2.2.2.2.1)], [(0, .box 24 [.e (.i .i64) y.2.2.2.2.2.2.2.2.2.2.2.2.2.2.2.2.2.2.2.2.2.2.2.2.2.2.2.2.2.2.1, .nilS]), (1, .mp .u8 [((44 : UInt8), .e (.i .i64) y.2.2.2.2.2.2.2.2.2.2.2.2.2.2.2.2.2.2.2.2.2.2.2.2.2.2.2.2.2.2.2.1), ((36 : UInt8), .e (.i .i64) y.2.2.2.2.2.2.2.2.2.2.2.2.2.2.2.2.2.2.2.2.2.2.2.2.2.2.2.2.2.2.2.2.1), ((33 : UInt8), .e (.i .i64) y.2.2.2.2.2.2.2.2.2.2.2.2.2.2.2.2.2.2.2.2.2.2.2.2.2.2.2.2.2.2.2.2.2)])], 100⟩)
def w48v0_0 (σ : Sg) : (List (List UInt8)) × Bool × (List (List UInt8)) × Int × Int × Bool × Int × (List UInt8) × (List UInt8) × Int × (List UInt8) × (List UInt8) × Int × Bool × (List UInt8) × UInt8 × UInt8 × Int × Bool × Int × Bool × Int × Bool × Int × Bool × Bool × Bool × Int × Int × Bool × Int × Int × Int × Int := (lvT (.sl (.sl .u8)) 0 0 σ, lvT .bo 3 0 σ, lvT (.sl (.sl .u8)) 46 0 σ, lvT (.i .i64) 47 0 σ, lvT (.i .i64) 48 0 σ, lvT .bo 49 0 σ, lvT (.i .i64) 50 0 σ, lvT (.sl .u8) 51 0 σ, lvT (.sl .u8) 52 0 σ, lvT (.i .i64) 8 0 σ, lvT (.sl .u8) 9 0 σ, lvT (.sl .u8) 53 0 σ, lvT (.i .i64) 54 0 σ, lvT .bo 55 0 σ, lvT (.sl .u8) 58 0 σ, lvT .u8 59 0 σ, lvT .u8 60 0 σ, lvT (.i .i64) 61 0 σ, lvT .bo 61 1 σ, lvT (.i .i64) 56 0 σ, lvT .bo 56 1 σ, lvT (.i .i64) 62 0 σ, lvT .bo 63 0 σ, lvT (.i .i64) 10 0 σ, lvT .bo 11 0 σ, lvT .bo 64 0 σ, lvT .bo 65 0 σ, lvT (.i .i64) 12 0 σ, lvT (.i .i64) 66 0 σ, lvT .bo 67 0 σ, lvH (.i .i64) 0 0 σ, lvM (.i .i64) .u8 1 0 σ, lvM (.i .i64) .u8 1 1 σ, lvM (.i .i64) .u8 1 2 σ)
def w48w0 : List (Exit × Nm) := [(.normal, ⟨[0, 2, 3, 7, 46, 47, 48, 49, 50, 51, 52, 8, 9, 53, 54, 55, 57, 58, 59, 60, 61, 56, 62, 63, 10, 11, 64, 65, 12, 66, 67], [], []⟩)]
theorem w48o0 : Outs w48v0_0 (fun _ => ()) (fun _ => ()) w48X0_0 (noX 1) (noX 2) .normal (.goto 1) (.goto 2) := ⟨fun _ => by kernel_rfl, fun _ => by kernel_rfl, fun _ => by kernel_rfl, fun _ => by kernel_rfl, fun _ => by kernel_rfl, fun _ => by kernel_rfl, exNe_ok (by kernel_rfl), exNe_ok (by kernel_rfl), exNe_ok (by kernel_rfl)⟩
def w48l0 [Alg] (N : Nat) (_ : Nat) (x : (List (List UInt8)) × Bool × (List (List UInt8)) × Int × Int × Bool × Int × (List UInt8) × (List UInt8) × Int × (List UInt8) × (List UInt8) × Int × Bool × (List UInt8) × UInt8 × UInt8 × Int × Bool × Int × Bool × Int × Bool × Int × Bool × Bool × Bool × Int × Int × Int × Int × Int) (k0 : ((List (List UInt8)) × Bool × (List (List UInt8)) × Int × Int × Bool × Int × (List UInt8) × (List UInt8) × Int × (List UInt8) × (List UInt8) × Int × Bool × (List UInt8) × UInt8 × UInt8 × Int × Bool × Int × Bool × Int × Bool × Int × Bool × Bool × Bool × Int × Int × Bool × Int × Int × Int × Int) → O) (_ : (Unit) → O) (_ : (Unit) → O) : O := w48F0 N   (fun y0 y1 y2 y3 y4 y5 y6 y7 y8 y9 y10 y11 y12 y13 y14 y15 y16 y17 y18 y19 y20 y21 y22 y23 y24 y25 y26 y27 y28 y29 y30 y31 y32 y33 => k0 (y0, y1, y2, y3, y4, y5, y6, y7, y8, y9, y10, y11, y12, y13, y14, y15, y16, y17, y18, y19, y20, y21, y22, y23, y24, y25, y26, y27, y28, y29, y30, y31, y32, y33)) x.1 x.2.1 x.2.2.1 x.2.2.2.1 x.2.2.2.2.1 x.2.2.2.2.2.1 x.2.2.2.2.2.2.1 x.2.2.2.2.2.2.2.1 x.2.2.2.2.2.2.2.2.1 x.2.2.2.2.2.2.2.2.2.1 x.2.2.2.2.2.2.2.2.2.2.1 x.2.2.2.2.2.2.2.2.2.2.2.1 x.2.2.2.2.2.2.2.2.2.2.2.2.1 x.2.2.2.2.2.2.2.2.2.2.2.2.2.1 x.2.2.2.2.2.2.2.2.2.2.2.2.2.2.1 x.2.2.2.2.2.2.2.2.2.2.2.2.2.2.2.1 x.2.2.2.2.2.2.2.2.2.2.2.2.2.2.2.2.1 x.2.2.2.2.2.2.2.2.2.2.2.2.2.2.2.2.2.1 x.2.2.2.2.2.2.2.2.2.2.2.2.2.2.2.2.2.2.1 x.2.2.2.2.2.2.2.2.2.2.2.2.2.2.2.2.2.2.2.1 x.2.2.2.2.2.2.2.2.2.2.2.2.2.2.2.2.2.2.2.2.1 x.2.2.2.2.2.2.2.2.2.2.2.2.2.2.2.2.2.2.2.2.2.1 x.2.2.2.2.2.2.2.2.2.2.2.2.2.2.2.2.2.2.2.2.2.2.1 x.2.2.2.2.2.2.2.2.2.2.2.2.2.2.2.2.2.2.2.2.2.2.2.1 x.2.2.2.2.2.2.2.2.2.2.2.2.2.2.2.2.2.2.2.2.2.2.2.2.1 x.2.2.2.2.2.2.2.2.2.2.2.2.2.2.2.2.2.2.2.2.2.2.2.2.2.1 x.2.2.2.2.2.2.2.2.2.2.2.2.2.2.2.2.2.2.2.2.2.2.2.2.2.2.1 x.2.2.2.2.2.2.2.2.2.2.2.2.2.2.2.2.2.2.2.2.2.2.2.2.2.2.2.1 x.2.2.2.2.2.2.2.2.2.2.2.2.2.2.2.2.2.2.2.2.2.2.2.2.2.2.2.2.1 x.2.2.2.2.2.2.2.2.2.2.2.2.2.2.2.2.2.2.2.2.2.2.2.2.2.2.2.2.2.1 x.2.2.2.2.2.2.2.2.2.2.2.2.2.2.2.2.2.2.2.2.2.2.2.2.2.2.2.2.2.2.1 x.2.2.2.2.2.2.2.2.2.2.2.2.2.2.2.2.2.2.2.2.2.2.2.2.2.2.2.2.2.2.2
def w48n0 [Alg] (N : Nat) (a0 : (List (List UInt8))) (a1 : Bool) (a2 : (List (List UInt8))) (a3 : Int) (a4 : Int) (a5 : Bool) (a6 : Int) (a7 : (List UInt8)) (a8 : (List UInt8)) (a9 : Int) (a10 : (List UInt8)) (a11 : (List UInt8)) (a12 : Int) (a13 : Bool) (a14 : (List UInt8)) (a15 : UInt8) (a16 : UInt8) (a17 : Int) (a18 : Bool) (a19 : Int) (a20 : Bool) (a21 : Int) (a22 : Bool) (a23 : Int) (a24 : Bool) (a25 : Bool) (a26 : Bool) (a27 : Int) (a28 : Int) (a29 : Int) (a30 : Int) (a31 : Int) (k0 : (List (List UInt8)) → Bool → (List (List UInt8)) → Int → Int → Bool → Int → (List UInt8) → (List UInt8) → Int → (List UInt8) → (List UInt8) → Int → Bool → (List UInt8) → UInt8 → UInt8 → Int → Bool → Int → Bool → Int → Bool → Int → Bool → Bool → Bool → Int → Int → Bool → Int → Int → Int → Int → O) : O := w48l0 N N (a0, a1, a2, a3, a4, a5, a6, a7, a8, a9, a10, a11, a12, a13, a14, a15, a16, a17, a18, a19, a20, a21, a22, a23, a24, a25, a26, a27, a28, a29, a30, a31) (fun y => k0 y.1 y.2.1 y.2.2.1 y.2.2.2.1 y.2.2.2.2.1 y.2.2.2.2.2.1 y.2.2.2.2.2.2.1 y.2.2.2.2.2.2.2.1 y.2.2.2.2.2.2.2.2.1 y.2.2.2.2.2.2.2.2.2.1 y.2.2.2.2.2.2.2.2.2.2.1 y.2.2.2.2.2.2.2.2.2.2.2.1 y.2.2.2.2.2.2.2.2.2.2.2.2.1 y.2.2.2.2.2.2.2.2.2.2.2.2.2.1 y.2.2.2.2.2.2.2.2.2.2.2.2.2.2.1 y.2.2.2.2.2.2.2.2.2.2.2.2.2.2.2.1 y.2.2.2.2.2.2.2.2.2.2.2.2.2.2.2.2.1 y.2.2.2.2.2.2.2.2.2.2.2.2.2.2.2.2.2.1 y.2.2.2.2.2.2.2.2.2.2.2.2.2.2.2.2.2.2.1 y.2.2.2.2.2.2.2.2.2.2.2.2.2.2.2.2.2.2.2.1 y.2.2.2.2.2.2.2.2.2.2.2.2.2.2.2.2.2.2.2.2.1 y.2.2.2.2.2.2.2.2.2.2.2.2.2.2.2.2.2.2.2.2.2.1 y.2.2.2.2.2.2.2.2.2.2.2.2.2.2.2.2.2.2.2.2.2.2.1 y.2.2.2.2.2.2.2.2.2.2.2.2.2.2.2.2.2.2.2.2.2.2.2.1 y.2.2.2.2.2.2.2.2.2.2.2.2.2.2.2.2.2.2.2.2.2.2.2.2.1 y.2.2.2.2.2.2.2.2.2.2.2.2.2.2.2.2.2.2.2.2.2.2.2.2.2.1 y.2.2.2.2.2.2.2.2.2.2.2.2.2.2.2.2.2.2.2.2.2.2.2.2.2.2.1 y.2.2.2.2.2.2.2.2.2.2.2.2.2.2.2.2.2.2.2.2.2.2.2.2.2.2.2.1 y.2.2.2.2.2.2.2.2.2.2.2.2.2.2.2.2.2.2.2.2.2.2.2.2.2.2.2.2.1 y.2.2.2.2.2.2.2.2.2.2.2.2.2.2.2.2.2.2.2.2.2.2.2.2.2.2.2.2.2.1 y.2.2.2.2.2.2.2.2.2.2.2.2.2.2.2.2.2.2.2.2.2.2.2.2.2.2.2.2.2.2.1 y.2.2.2.2.2.2.2.2.2.2.2.2.2.2.2.2.2.2.2.2.2.2.2.2.2.2.2.2.2.2.2.1 y.2.2.2.2.2.2.2.2.2.2.2.2.2.2.2.2.2.2.2.2.2.2.2.2.2.2.2.2.2.2.2.2.1 y.2.2.2.2.2.2.2.2.2.2.2.2.2.2.2.2.2.2.2.2.2.2.2.2.2.2.2.2.2.2.2.2.2) (fun _ => none) (fun _ => none)
noncomputable def w48s0 [Alg] (N : Nat) (a0 : (List (List UInt8))) (a1 : Bool) (a2 : (List (List UInt8))) (a3 : Int) (a4 : Int) (a5 : Bool) (a6 : Int) (a7 : (List UInt8)) (a8 : (List UInt8)) (a9 : Int) (a10 : (List UInt8)) (a11 : (List UInt8)) (a12 : Int) (a13 : Bool) (a14 : (List UInt8)) (a15 : UInt8) (a16 : UInt8) (a17 : Int) (a18 : Bool) (a19 : Int) (a20 : Bool) (a21 : Int) (a22 : Bool) (a23 : Int) (a24 : Bool) (a25 : Bool) (a26 : Bool) (a27 : Int) (a28 : Int) (a29 : Int) (a30 : Int) (a31 : Int) (k0 : (List (List UInt8)) → Bool → (List (List UInt8)) → Int → Int → Bool → Int → (List UInt8) → (List UInt8) → Int → (List UInt8) → (List UInt8) → Int → Bool → (List UInt8) → UInt8 → UInt8 → Int → Bool → Int → Bool → Int → Bool → Int → Bool → Bool → Bool → Int → Int → Bool → Int → Int → Int → Int → O) : O := subL w48I0 w48u0 (w48l0 N N) (w48I0 (a0, a1, a2, a3, a4, a5, a6, a7, a8, a9, a10, a11, a12, a13, a14, a15, a16, a17, a18, a19, a20, a21, a22, a23, a24, a25, a26, a27, a28, a29, a30, a31)) (fun y => k0 y.1 y.2.1 y.2.2.1 y.2.2.2.1 y.2.2.2.2.1 y.2.2.2.2.2.1 y.2.2.2.2.2.2.1 y.2.2.2.2.2.2.2.1 y.2.2.2.2.2.2.2.2.1 y.2.2.2.2.2.2.2.2.2.1 y.2.2.2.2.2.2.2.2.2.2.1 y.2.2.2.2.2.2.2.2.2.2.2.1 y.2.2.2.2.2.2.2.2.2.2.2.2.1 y.2.2.2.2.2.2.2.2.2.2.2.2.2.1 y.2.2.2.2.2.2.2.2.2.2.2.2.2.2.1 y.2.2.2.2.2.2.2.2.2.2.2.2.2.2.2.1 y.2.2.2.2.2.2.2.2.2.2.2.2.2.2.2.2.1 y.2.2.2.2.2.2.2.2.2.2.2.2.2.2.2.2.2.1 y.2.2.2.2.2.2.2.2.2.2.2.2.2.2.2.2.2.2.1 y.2.2.2.2.2.2.2.2.2.2.2.2.2.2.2.2.2.2.2.1 y.2.2.2.2.2.2.2.2.2.2.2.2.2.2.2.2.2.2.2.2.1 y.2.2.2.2.2.2.2.2.2.2.2.2.2.2.2.2.2.2.2.2.2.1 y.2.2.2.2.2.2.2.2.2.2.2.2.2.2.2.2.2.2.2.2.2.2.1 y.2.2.2.2.2.2.2.2.2.2.2.2.2.2.2.2.2.2.2.2.2.2.2.1 y.2.2.2.2.2.2.2.2.2.2.2.2.2.2.2.2.2.2.2.2.2.2.2.2.1 y.2.2.2.2.2.2.2.2.2.2.2.2.2.2.2.2.2.2.2.2.2.2.2.2.2.1 y.2.2.2.2.2.2.2.2.2.2.2.2.2.2.2.2.2.2.2.2.2.2.2.2.2.2.1 y.2.2.2.2.2.2.2.2.2.2.2.2.2.2.2.2.2.2.2.2.2.2.2.2.2.2.2.1 y.2.2.2.2.2.2.2.2.2.2.2.2.2.2.2.2.2.2.2.2.2.2.2.2.2.2.2.2.1 y.2.2.2.2.2.2.2.2.2.2.2.2.2.2.2.2.2.2.2.2.2.2.2.2.2.2.2.2.2.1 y.2.2.2.2.2.2.2.2.2.2.2.2.2.2.2.2.2.2.2.2.2.2.2.2.2.2.2.2.2.2.1 y.2.2.2.2.2.2.2.2.2.2.2.2.2.2.2.2.2.2.2.2.2.2.2.2.2.2.2.2.2.2.2.1 y.2.2.2.2.2.2.2.2.2.2.2.2.2.2.2.2.2.2.2.2.2.2.2.2.2.2.2.2.2.2.2.2.1 y.2.2.2.2.2.2.2.2.2.2.2.2.2.2.2.2.2.2.2.2.2.2.2.2.2.2.2.2.2.2.2.2.2) (fun _ => none) (fun _ => none)
theorem w48e0 [Alg] (N : Nat) : w48s0 N = w48n0 N := funext fun _ => funext fun _ => funext fun _ => funext fun _ => funext fun _ => funext fun _ => funext fun _ => funext fun _ => funext fun _ => funext fun _ => funext fun _ => funext fun _ => funext fun _ => funext fun _ => funext fun _ => funext fun _ => funext fun _ => funext fun _ => funext fun _ => funext fun _ => funext fun _ => funext fun _ => funext fun _ => funext fun _ => funext fun _ => funext fun _ => funext fun _ => funext fun _ => funext fun _ => funext fun _ => funext fun _ => funext fun _ => funext fun _ => subL_I w48ui0 _ _ _ _
noncomputable def w48h0 [Alg] (_ : Nat) : Hint := .d
theorem w48hk0 (N : Nat) : HintOk (w48c N) Tryd.f48.ntmps (w48h0 N) w48b0 := hk_of _ _ trivial
theorem w48q0 [Alg] (N : Nat) (K : Exit → Sg → O) (x : (List (List UInt8)) × Bool × (List (List UInt8)) × Int × Int × Bool × Int × (List UInt8) × (List UInt8) × Int × (List UInt8) × (List UInt8) × Int × Bool × (List UInt8) × UInt8 × UInt8 × Int × Bool × Int × Bool × Int × Bool × Int × Bool × Bool × Bool × Int × Int × Int × Int × Int) : w48F0 N   (fun y0 y1 y2 y3 y4 y5 y6 y7 y8 y9 y10 y11 y12 y13 y14 y15 y16 y17 y18 y19 y20 y21 y22 y23 y24 y25 y26 y27 y28 y29 y30 y31 y32 y33 => K (w48X0_0 (y0, y1, y2, y3, y4, y5, y6, y7, y8, y9, y10, y11, y12, y13, y14, y15, y16, y17, y18, y19, y20, y21, y22, y23, y24, y25, y26, y27, y28, y29, y30, y31, y32, y33)).1 (w48X0_0 (y0, y1, y2, y3, y4, y5, y6, y7, y8, y9, y10, y11, y12, y13, y14, y15, y16, y17, y18, y19, y20, y21, y22, y23, y24, y25, y26, y27, y28, y29, y30, y31, y32, y33)).2) x.1 x.2.1 x.2.2.1 x.2.2.2.1 x.2.2.2.2.1 x.2.2.2.2.2.1 x.2.2.2.2.2.2.1 x.2.2.2.2.2.2.2.1 x.2.2.2.2.2.2.2.2.1 x.2.2.2.2.2.2.2.2.2.1 x.2.2.2.2.2.2.2.2.2.2.1 x.2.2.2.2.2.2.2.2.2.2.2.1 x.2.2.2.2.2.2.2.2.2.2.2.2.1 x.2.2.2.2.2.2.2.2.2.2.2.2.2.1 x.2.2.2.2.2.2.2.2.2.2.2.2.2.2.1 x.2.2.2.2.2.2.2.2.2.2.2.2.2.2.2.1 x.2.2.2.2.2.2.2.2.2.2.2.2.2.2.2.2.1 x.2.2.2.2.2.2.2.2.2.2.2.2.2.2.2.2.2.1 x.2.2.2.2.2.2.2.2.2.2.2.2.2.2.2.2.2.2.1 x.2.2.2.2.2.2.2.2.2.2.2.2.2.2.2.2.2.2.2.1 x.2.2.2.2.2.2.2.2.2.2.2.2.2.2.2.2.2.2.2.2.1 x.2.2.2.2.2.2.2.2.2.2.2.2.2.2.2.2.2.2.2.2.2.1 x.2.2.2.2.2.2.2.2.2.2.2.2.2.2.2.2.2.2.2.2.2.2.1 x.2.2.2.2.2.2.2.2.2.2.2.2.2.2.2.2.2.2.2.2.2.2.2.1 x.2.2.2.2.2.2.2.2.2.2.2.2.2.2.2.2.2.2.2.2.2.2.2.2.1 x.2.2.2.2.2.2.2.2.2.2.2.2.2.2.2.2.2.2.2.2.2.2.2.2.2.1 x.2.2.2.2.2.2.2.2.2.2.2.2.2.2.2.2.2.2.2.2.2.2.2.2.2.2.1 x.2.2.2.2.2.2.2.2.2.2.2.2.2.2.2.2.2.2.2.2.2.2.2.2.2.2.2.1 x.2.2.2.2.2.2.2.2.2.2.2.2.2.2.2.2.2.2.2.2.2.2.2.2.2.2.2.2.1 x.2.2.2.2.2.2.2.2.2.2.2.2.2.2.2.2.2.2.2.2.2.2.2.2.2.2.2.2.2.1 x.2.2.2.2.2.2.2.2.2.2.2.2.2.2.2.2.2.2.2.2.2.2.2.2.2.2.2.2.2.2.1 x.2.2.2.2.2.2.2.2.2.2.2.2.2.2.2.2.2.2.2.2.2.2.2.2.2.2.2.2.2.2.2 = exec (w48c N) Tryd.f48.ntmps (w48h0 N) w48b0 (w48I0 x) (partX w48w0 K) := by kernel_rfl
theorem w48S0 (N : Nat) (hc : CxOk (w48c N)) : SubOk (w48c N) Tryd.f48.ntmps w48b0 w48X0_0 (noX 1) (noX 2) (subL w48I0 w48u0 (w48l0 N N)) :=
  sub_part hc (w48hk0 N) w48o0 (fun x K => by
    have h : w48F0 N   (fun y0 y1 y2 y3 y4 y5 y6 y7 y8 y9 y10 y11 y12 y13 y14 y15 y16 y17 y18 y19 y20 y21 y22 y23 y24 y25 y26 y27 y28 y29 y30 y31 y32 y33 => K (w48X0_0 (y0, y1, y2, y3, y4, y5, y6, y7, y8, y9, y10, y11, y12, y13, y14, y15, y16, y17, y18, y19, y20, y21, y22, y23, y24, y25, y26, y27, y28, y29, y30, y31, y32, y33)).1 (w48X0_0 (y0, y1, y2, y3, y4, y5, y6, y7, y8, y9, y10, y11, y12, y13, y14, y15, y16, y17, y18, y19, y20, y21, y22, y23, y24, y25, y26, y27, y28, y29, y30, y31, y32, y33)).2) x.1 x.2.1 x.2.2.1 x.2.2.2.1 x.2.2.2.2.1 x.2.2.2.2.2.1 x.2.2.2.2.2.2.1 x.2.2.2.2.2.2.2.1 x.2.2.2.2.2.2.2.2.1 x.2.2.2.2.2.2.2.2.2.1 x.2.2.2.2.2.2.2.2.2.2.1 x.2.2.2.2.2.2.2.2.2.2.2.1 x.2.2.2.2.2.2.2.2.2.2.2.2.1 x.2.2.2.2.2.2.2.2.2.2.2.2.2.1 x.2.2.2.2.2.2.2.2.2.2.2.2.2.2.1 x.2.2.2.2.2.2.2.2.2.2.2.2.2.2.2.1 x.2.2.2.2.2.2.2.2.2.2.2.2.2.2.2.2.1 x.2.2.2.2.2.2.2.2.2.2.2.2.2.2.2.2.2.1 x.2.2.2.2.2.2.2.2.2.2.2.2.2.2.2.2.2.2.1 x.2.2.2.2.2.2.2.2.2.2.2.2.2.2.2.2.2.2.2.1 x.2.2.2.2.2.2.2.2.2.2.2.2.2.2.2.2.2.2.2.2.1 x.2.2.2.2.2.2.2.2.2.2.2.2.2.2.2.2.2.2.2.2.2.1 x.2.2.2.2.2.2.2.2.2.2.2.2.2.2.2.2.2.2.2.2.2.2.1 x.2.2.2.2.2.2.2.2.2.2.2.2.2.2.2.2.2.2.2.2.2.2.2.1 x.2.2.2.2.2.2.2.2.2.2.2.2.2.2.2.2.2.2.2.2.2.2.2.2.1 x.2.2.2.2.2.2.2.2.2.2.2.2.2.2.2.2.2.2.2.2.2.2.2.2.2.1 x.2.2.2.2.2.2.2.2.2.2.2.2.2.2.2.2.2.2.2.2.2.2.2.2.2.2.1 x.2.2.2.2.2.2.2.2.2.2.2.2.2.2.2.2.2.2.2.2.2.2.2.2.2.2.2.1 x.2.2.2.2.2.2.2.2.2.2.2.2.2.2.2.2.2.2.2.2.2.2.2.2.2.2.2.2.1 x.2.2.2.2.2.2.2.2.2.2.2.2.2.2.2.2.2.2.2.2.2.2.2.2.2.2.2.2.2.1 x.2.2.2.2.2.2.2.2.2.2.2.2.2.2.2.2.2.2.2.2.2.2.2.2.2.2.2.2.2.2.1 x.2.2.2.2.2.2.2.2.2.2.2.2.2.2.2.2.2.2.2.2.2.2.2.2.2.2.2.2.2.2.2 = w48F0 N   (fun y0 y1 y2 y3 y4 y5 y6 y7 y8 y9 y10 y11 y12 y13 y14 y15 y16 y17 y18 y19 y20 y21 y22 y23 y24 y25 y26 y27 y28 y29 y30 y31 y32 y33 => K (w48X0_0 (y0, y1, y2, y3, y4, y5, y6, y7, y8, y9, y10, y11, y12, y13, y14, y15, y16, y17, y18, y19, y20, y21, y22, y23, y24, y25, y26, y27, y28, y29, y30, y31, y32, y33)).1 (w48X0_0 (y0, y1, y2, y3, y4, y5, y6, y7, y8, y9, y10, y11, y12, y13, y14, y15, y16, y17, y18, y19, y20, y21, y22, y23, y24, y25, y26, y27, y28, y29, y30, y31, y32, y33)).2) x.1 x.2.1 x.2.2.1 x.2.2.2.1 x.2.2.2.2.1 x.2.2.2.2.2.1 x.2.2.2.2.2.2.1 x.2.2.2.2.2.2.2.1 x.2.2.2.2.2.2.2.2.1 x.2.2.2.2.2.2.2.2.2.1 x.2.2.2.2.2.2.2.2.2.2.1 x.2.2.2.2.2.2.2.2.2.2.2.1 x.2.2.2.2.2.2.2.2.2.2.2.2.1 x.2.2.2.2.2.2.2.2.2.2.2.2.2.1 x.2.2.2.2.2.2.2.2.2.2.2.2.2.2.1 x.2.2.2.2.2.2.2.2.2.2.2.2.2.2.2.1 x.2.2.2.2.2.2.2.2.2.2.2.2.2.2.2.2.1 x.2.2.2.2.2.2.2.2.2.2.2.2.2.2.2.2.2.1 x.2.2.2.2.2.2.2.2.2.2.2.2.2.2.2.2.2.2.1 x.2.2.2.2.2.2.2.2.2.2.2.2.2.2.2.2.2.2.2.1 x.2.2.2.2.2.2.2.2.2.2.2.2.2.2.2.2.2.2.2.2.1 x.2.2.2.2.2.2.2.2.2.2.2.2.2.2.2.2.2.2.2.2.2.1 x.2.2.2.2.2.2.2.2.2.2.2.2.2.2.2.2.2.2.2.2.2.2.1 x.2.2.2.2.2.2.2.2.2.2.2.2.2.2.2.2.2.2.2.2.2.2.2.1 x.2.2.2.2.2.2.2.2.2.2.2.2.2.2.2.2.2.2.2.2.2.2.2.2.1 x.2.2.2.2.2.2.2.2.2.2.2.2.2.2.2.2.2.2.2.2.2.2.2.2.2.1 x.2.2.2.2.2.2.2.2.2.2.2.2.2.2.2.2.2.2.2.2.2.2.2.2.2.2.1 x.2.2.2.2.2.2.2.2.2.2.2.2.2.2.2.2.2.2.2.2.2.2.2.2.2.2.2.1 x.2.2.2.2.2.2.2.2.2.2.2.2.2.2.2.2.2.2.2.2.2.2.2.2.2.2.2.2.1 x.2.2.2.2.2.2.2.2.2.2.2.2.2.2.2.2.2.2.2.2.2.2.2.2.2.2.2.2.2.1 x.2.2.2.2.2.2.2.2.2.2.2.2.2.2.2.2.2.2.2.2.2.2.2.2.2.2.2.2.2.2.1 x.2.2.2.2.2.2.2.2.2.2.2.2.2.2.2.2.2.2.2.2.2.2.2.2.2.2.2.2.2.2.2 := by rfl
    exact h.trans (w48q0 N K x))
def w48F1 [Alg] (N : Nat) (in0 : (List (List UInt8)) → Bool → (List (List UInt8)) → Int → Int → Bool → Int → (List UInt8) → (List UInt8) → Int → (List UInt8) → (List UInt8) → Int → Bool → (List UInt8) → UInt8 → UInt8 → Int → Bool → Int → Bool → Int → Bool → Int → Bool → Bool → Bool → Int → Int → Int → Int → Int → ((List (List UInt8)) → Bool → (List (List UInt8)) → Int → Int → Bool → Int → (List UInt8) → (List UInt8) → Int → (List UInt8) → (List UInt8) → Int → Bool → (List UInt8) → UInt8 → UInt8 → Int → Bool → Int → Bool → Int → Bool → Int → Bool → Bool → Bool → Int → Int → Bool → Int → Int → Int → Int → O) → O) (self : Int → O) (k0 : Bool → Int → (List Int) → O) (k1 : Bool → Int → O) (x3_0 : (List (List UInt8))) (x3_1 : Bool) (x3_2 : (List (List UInt8))) (x3_3 : Int) (x3_5 : Int) (x3_6 : Int) (x3_7 : Int) (x3_8 : Int) (x3_4 : Int) : O :=
  br (decide (x3_4 < x3_3))
    (gx x3_2 x3_4 fun y421 =>
    br (decide ((↑y421.length : Int) = (0 : Int)))
      (self (IntKind.i64.wrap (x3_4 + (1 : Int))))
      (gx y421 ((0 : Int)) fun y422 =>
      br (decide ((44 : UInt8) = y422))
        (br false
          (self (IntKind.i64.wrap (x3_4 + (1 : Int))))
          (in0 x3_0 x3_1 x3_2 x3_3 x3_4 (decide (x3_4 < x3_3)) x3_4 y421 y421 x3_4 y421 y421 ((↑y421.length : Int)) (decide ((↑y421.length : Int) = (0 : Int))) y421 y422 y422 x3_6 true x3_6 true x3_6 true x3_6 true true false ((1 : Int)) x3_5 x3_6 x3_7 x3_8
            (fun z424 _ _ _ _ _ _ _ _ z433 z434 _ _ _ _ _ _ _ _ _ _ _ _ z447 _ _ _ z451 _ _ _ _ _ _ =>
              br (decide (z433 < z451))
                (k0 false ((0 : Int)) [])
                (ck (slcOk z424.length (some z451) (some z433)) <|
                ck (w74p N (slc z424 (some z451) (some z433))) <|
                ck (slcOk z434.length (some (1 : Int)) none) <|
                ck (lim (slc z424 (some z451) (some z433) ++ [slc z434 (some (1 : Int)) none]).length (24 : Nat)) <|
                ck (w73p N (slc z424 (some z451) (some z433) ++ [slc z434 (some (1 : Int)) none])) <|
                k0 (w73y1 N (slc z424 (some z451) (some z433) ++ [slc z434 (some (1 : Int)) none])) z447 (w73y0 N (slc z424 (some z451) (some z433) ++ [slc z434 (some (1 : Int)) none]))))))
        (br (decide ((36 : UInt8) = y422))
          (br false
            (self (IntKind.i64.wrap (x3_4 + (1 : Int))))
            (in0 x3_0 x3_1 x3_2 x3_3 x3_4 (decide (x3_4 < x3_3)) x3_4 y421 y421 x3_4 y421 y421 ((↑y421.length : Int)) (decide ((↑y421.length : Int) = (0 : Int))) y421 y422 y422 x3_7 true x3_7 true x3_7 true x3_7 true true false ((1 : Int)) x3_5 x3_6 x3_7 x3_8
              (fun z458 _ _ _ _ _ _ _ _ z467 z468 _ _ _ _ _ _ _ _ _ _ _ _ z481 _ _ _ z485 _ _ _ _ _ _ =>
                br (decide (z467 < z485))
                  (k0 false ((0 : Int)) [])
                  (ck (slcOk z458.length (some z485) (some z467)) <|
                  ck (w74p N (slc z458 (some z485) (some z467))) <|
                  ck (slcOk z468.length (some (1 : Int)) none) <|
                  ck (lim (slc z458 (some z485) (some z467) ++ [slc z468 (some (1 : Int)) none]).length (24 : Nat)) <|
                  ck (w73p N (slc z458 (some z485) (some z467) ++ [slc z468 (some (1 : Int)) none])) <|
                  k0 (w73y1 N (slc z458 (some z485) (some z467) ++ [slc z468 (some (1 : Int)) none])) z481 (w73y0 N (slc z458 (some z485) (some z467) ++ [slc z468 (some (1 : Int)) none]))))))
          (br (decide ((33 : UInt8) = y422))
            (br false
              (self (IntKind.i64.wrap (x3_4 + (1 : Int))))
              (in0 x3_0 x3_1 x3_2 x3_3 x3_4 (decide (x3_4 < x3_3)) x3_4 y421 y421 x3_4 y421 y421 ((↑y421.length : Int)) (decide ((↑y421.length : Int) = (0 : Int))) y421 y422 y422 x3_8 true x3_8 true x3_8 true x3_8 true true false ((1 : Int)) x3_5 x3_6 x3_7 x3_8
                (fun z492 _ _ _ _ _ _ _ _ z501 z502 _ _ _ _ _ _ _ _ _ _ _ _ z515 _ _ _ z519 _ _ _ _ _ _ =>
                  br (decide (z501 < z519))
                    (k0 false ((0 : Int)) [])
                    (ck (slcOk z492.length (some z519) (some z501)) <|
                    ck (w74p N (slc z492 (some z519) (some z501))) <|
                    ck (slcOk z502.length (some (1 : Int)) none) <|
                    ck (lim (slc z492 (some z519) (some z501) ++ [slc z502 (some (1 : Int)) none]).length (24 : Nat)) <|
                    ck (w73p N (slc z492 (some z519) (some z501) ++ [slc z502 (some (1 : Int)) none])) <|
                    k0 (w73y1 N (slc z492 (some z519) (some z501) ++ [slc z502 (some (1 : Int)) none])) z515 (w73y0 N (slc z492 (some z519) (some z501) ++ [slc z502 (some (1 : Int)) none]))))))
            (br true
              (self (IntKind.i64.wrap (x3_4 + (1 : Int))))
              (in0 x3_0 x3_1 x3_2 x3_3 x3_4 (decide (x3_4 < x3_3)) x3_4 y421 y421 x3_4 y421 y421 ((↑y421.length : Int)) (decide ((↑y421.length : Int) = (0 : Int))) y421 y422 y422 ((0 : Int)) false ((0 : Int)) false ((0 : Int)) false ((0 : Int)) false false true ((1 : Int)) x3_5 x3_6 x3_7 x3_8
                (fun z526 _ _ _ _ _ _ _ _ z535 z536 _ _ _ _ _ _ _ _ _ _ _ _ z549 _ _ _ z553 _ _ _ _ _ _ =>
                  br (decide (z535 < z553))
                    (k0 false ((0 : Int)) [])
                    (ck (slcOk z526.length (some z553) (some z535)) <|
                    ck (w74p N (slc z526 (some z553) (some z535))) <|
                    ck (slcOk z536.length (some (1 : Int)) none) <|
                    ck (lim (slc z526 (some z553) (some z535) ++ [slc z536 (some (1 : Int)) none]).length (24 : Nat)) <|
                    ck (w73p N (slc z526 (some z553) (some z535) ++ [slc z536 (some (1 : Int)) none])) <|
                    k0 (w73y1 N (slc z526 (some z553) (some z535) ++ [slc z536 (some (1 : Int)) none])) z549 (w73y0 N (slc z526 (some z553) (some z535) ++ [slc z536 (some (1 : Int)) none]))))))))))
    (k1 x3_1 x3_5)
noncomputable def w48b1 : Code := atC [1, 1, 1, 1, 0, 1, 0, 0] w48b
def w48m1 : Nm := ⟨[0, 2, 3, 7, 46, 47, 48], [], []⟩
def w48I1 (x : (List (List UInt8)) × Bool × (List (List UInt8)) × Int × Int × Int × Int × Int × Int) : Sg := ⟨[(0, .e (.sl (.sl .u8)) x.1), (2, .ref 0 0), (3, .e .bo x.2.1), (7, .own 1), (46, .e (.sl (.sl .u8)) x.2.2.1), (47, .e (.i .i64) x.2.2.2.1), (48, .e (.i .i64) x.2.2.2.2.1)], [(0, .box 24 [.e (.i .i64) x.2.2.2.2.2.1, .nilS]), (1, .mp .u8 [((44 : UInt8), .e (.i .i64) x.2.2.2.2.2.2.1), ((36 : UInt8), .e (.i .i64) x.2.2.2.2.2.2.2.1), ((33 : UInt8), .e (.i .i64) x.2.2.2.2.2.2.2.2)])], 100⟩
def w48u1 (σ : Sg) : (List (List UInt8)) × Bool × (List (List UInt8)) × Int × Int × Int × Int × Int × Int := (lvT (.sl (.sl .u8)) 0 0 σ, lvT .bo 3 0 σ, lvT (.sl (.sl .u8)) 46 0 σ, lvT (.i .i64) 47 0 σ, lvT (.i .i64) 48 0 σ, lvH (.i .i64) 0 0 σ, lvM (.i .i64) .u8 1 0 σ, lvM (.i .i64) .u8 1 1 σ, lvM (.i .i64) .u8 1 2 σ)
theorem w48ui1 : ∀ x, w48u1 (w48I1 x) = x := fun _ => by kernel_rfl
def w48X1_0 (y : Bool × Int × (List Int)) : Exit × Sg := (.ret, ⟨[(2, .ref 0 0), (3, .e .bo y.1)], [(0, .box 24 [.e (.i .i64) y.2.1, .e (.sl (.i .i64)) y.2.2])], 100⟩)
def w48v1_0 (σ : Sg) : Bool × Int × (List Int) := (lvT .bo 3 0 σ, lvH (.i .i64) 0 0 σ, lvH (.sl (.i .i64)) 0 1 σ)
def w48X1_1 (y : Bool × Int) : Exit × Sg := ((.exit 0), ⟨[(2, .ref 0 0), (3, .e .bo y.1)], [(0, .box 24 [.e (.i .i64) y.2, .nilS])], 100⟩)
def w48v1_1 (σ : Sg) : Bool × Int := (lvT .bo 3 0 σ, lvH (.i .i64) 0 0 σ)
def w48w1 : List (Exit × Nm) := [(.ret, ⟨[2, 3], [], [.cv 2 1 (.sl (.i .i64))]⟩), ((.exit 0), ⟨[2, 3], [], []⟩)]
theorem w48o1 : Outs w48v1_0 w48v1_1 (fun _ => ()) w48X1_0 w48X1_1 (noX 2) .ret (.exit 0) (.goto 2) := ⟨fun _ => by kernel_rfl, fun _ => by kernel_rfl, fun _ => by kernel_rfl, fun _ => by kernel_rfl, fun _ => by kernel_rfl, fun _ => by kernel_rfl, exNe_ok (by kernel_rfl), exNe_ok (by kernel_rfl), exNe_ok (by kernel_rfl)⟩
def w48l1 [Alg] (N : Nat) : Nat → ((List (List UInt8)) × Bool × (List (List UInt8)) × Int × Int × Int × Int × Int × Int) → ((Bool × Int × (List Int)) → O) → ((Bool × Int) → O) → ((Unit) → O) → O
  | 0, _, _, _, _ => none
  | n + 1, x, k0, k1, k2 => w48F1 N (w48n0 N) (fun v0 => w48l1 N n (x.1, x.2.1, x.2.2.1, x.2.2.2.1, v0, x.2.2.2.2.2.1, x.2.2.2.2.2.2.1, x.2.2.2.2.2.2.2.1, x.2.2.2.2.2.2.2.2) k0 k1 k2) (fun y0 y1 y2 => k0 (y0, y1, y2)) (fun y0 y1 => k1 (y0, y1)) x.1 x.2.1 x.2.2.1 x.2.2.2.1 x.2.2.2.2.2.1 x.2.2.2.2.2.2.1 x.2.2.2.2.2.2.2.1 x.2.2.2.2.2.2.2.2 x.2.2.2.2.1
def w48n1 [Alg] (N : Nat) (a0 : (List (List UInt8))) (a1 : Bool) (a2 : (List (List UInt8))) (a3 : Int) (a4 : Int) (a5 : Int) (a6 : Int) (a7 : Int) (a8 : Int) (k0 : Bool → Int → (List Int) → O) (k1 : Bool → Int → O) : O := w48l1 N N (a0, a1, a2, a3, a4, a5, a6, a7, a8) (fun y => k0 y.1 y.2.1 y.2.2) (fun y => k1 y.1 y.2) (fun _ => none)
noncomputable def w48s1 [Alg] (N : Nat) (a0 : (List (List UInt8))) (a1 : Bool) (a2 : (List (List UInt8))) (a3 : Int) (a4 : Int) (a5 : Int) (a6 : Int) (a7 : Int) (a8 : Int) (k0 : Bool → Int → (List Int) → O) (k1 : Bool → Int → O) : O := subL w48I1 w48u1 (w48l1 N N) (w48I1 (a0, a1, a2, a3, a4, a5, a6, a7, a8)) (fun y => k0 y.1 y.2.1 y.2.2) (fun y => k1 y.1 y.2) (fun _ => none)
theorem w48e1 [Alg] (N : Nat) : w48s1 N = w48n1 N := funext fun _ => funext fun _ => funext fun _ => funext fun _ => funext fun _ => funext fun _ => funext fun _ => funext fun _ => funext fun _ => funext fun _ => funext fun _ => subL_I w48ui1 _ _ _ _
noncomputable def w48h1 [Alg] (N : Nat) : Hint := (.seq .d (.seq .d (.seq (.block (.seq .d (.seq .d (.seq .d (.seq .d (.seq .d (.seq (.sub w48m0 _ _ _ w48X0_0 (noX 1) (noX 2) (subL w48I0 w48u0 (w48l0 N N))) (.seq .d (.seq (.reg [] [] [[], [], [], [], [], [], [], [], [188, 156], []]) .d))))))))) .d)))
theorem w48hk1 (N : Nat) (hc : CxOk (w48c N)) : HintOk (w48c N) Tryd.f48.ntmps (w48h1 N) w48b1 := hk_of _ _ (And.intro trivial (And.intro trivial (And.intro (And.intro trivial (And.intro trivial (And.intro trivial (And.intro trivial (And.intro trivial (And.intro (w48S0 N hc) (And.intro trivial (And.intro trivial trivial)))))))) trivial)))
theorem w48q1 [Alg] (N : Nat) (self : Sg → O) (K : Exit → Sg → O) (x : (List (List UInt8)) × Bool × (List (List UInt8)) × Int × Int × Int × Int × Int × Int) : w48F1 N (w48s0 N) (fun v0 => self (w48I1 (x.1, x.2.1, x.2.2.1, x.2.2.2.1, v0, x.2.2.2.2.2.1, x.2.2.2.2.2.2.1, x.2.2.2.2.2.2.2.1, x.2.2.2.2.2.2.2.2))) (fun y0 y1 y2 => K (w48X1_0 (y0, y1, y2)).1 (w48X1_0 (y0, y1, y2)).2) (fun y0 y1 => K (w48X1_1 (y0, y1)).1 (w48X1_1 (y0, y1)).2) x.1 x.2.1 x.2.2.1 x.2.2.2.1 x.2.2.2.2.2.1 x.2.2.2.2.2.2.1 x.2.2.2.2.2.2.2.1 x.2.2.2.2.2.2.2.2 x.2.2.2.2.1 = exec (w48c N) Tryd.f48.ntmps (w48h1 N) w48b1 (w48I1 x) (roundX w48m1 w48w1 self K) := by kernel_rfl
theorem w48S1 (N : Nat) (hc : CxOk (w48c N)) : SubOk (w48c N) Tryd.f48.ntmps (.loop w48b1) w48X1_0 w48X1_1 (noX 2) (subL w48I1 w48u1 (w48l1 N N)) :=
  sub_loop hc (w48hk1 N hc) w48o1 (n := N) (fun x K => loop_ind (w48l1 N) (fun _ _ _ _ => rfl) (fun n K ih x => by
    have h : w48F1 N (w48n0 N) (fun v0 => w48l1 N n (x.1, x.2.1, x.2.2.1, x.2.2.2.1, v0, x.2.2.2.2.2.1, x.2.2.2.2.2.2.1, x.2.2.2.2.2.2.2.1, x.2.2.2.2.2.2.2.2) (fun y => K (w48X1_0 y).1 (w48X1_0 y).2) (fun y => K (w48X1_1 y).1 (w48X1_1 y).2) (fun y => K ((noX 2) y).1 ((noX 2) y).2)) (fun y0 y1 y2 => K (w48X1_0 (y0, y1, y2)).1 (w48X1_0 (y0, y1, y2)).2) (fun y0 y1 => K (w48X1_1 (y0, y1)).1 (w48X1_1 (y0, y1)).2) x.1 x.2.1 x.2.2.1 x.2.2.2.1 x.2.2.2.2.2.1 x.2.2.2.2.2.2.1 x.2.2.2.2.2.2.2.1 x.2.2.2.2.2.2.2.2 x.2.2.2.2.1 = w48F1 N (w48s0 N) (fun v0 => loopX (w48c N) Tryd.f48.ntmps (w48h1 N) w48b1 w48m1 w48w1 n (w48I1 (x.1, x.2.1, x.2.2.1, x.2.2.2.1, v0, x.2.2.2.2.2.1, x.2.2.2.2.2.2.1, x.2.2.2.2.2.2.2.1, x.2.2.2.2.2.2.2.2)) K) (fun y0 y1 y2 => K (w48X1_0 (y0, y1, y2)).1 (w48X1_0 (y0, y1, y2)).2) (fun y0 y1 => K (w48X1_1 (y0, y1)).1 (w48X1_1 (y0, y1)).2) x.1 x.2.1 x.2.2.1 x.2.2.2.1 x.2.2.2.2.2.1 x.2.2.2.2.2.2.1 x.2.2.2.2.2.2.2.1 x.2.2.2.2.2.2.2.2 x.2.2.2.2.1 := by rw [w48e0 N, show (fun v0 => w48l1 N n (x.1, x.2.1, x.2.2.1, x.2.2.2.1, v0, x.2.2.2.2.2.1, x.2.2.2.2.2.2.1, x.2.2.2.2.2.2.2.1, x.2.2.2.2.2.2.2.2) (fun y => K (w48X1_0 y).1 (w48X1_0 y).2) (fun y => K (w48X1_1 y).1 (w48X1_1 y).2) (fun y => K ((noX 2) y).1 ((noX 2) y).2)) = (fun v0 => loopX (w48c N) Tryd.f48.ntmps (w48h1 N) w48b1 w48m1 w48w1 n (w48I1 (x.1, x.2.1, x.2.2.1, x.2.2.2.1, v0, x.2.2.2.2.2.1, x.2.2.2.2.2.2.1, x.2.2.2.2.2.2.2.1, x.2.2.2.2.2.2.2.2)) K) from funext fun _ => ih _]
    exact h.trans (w48q1 N (fun σ => loopX (w48c N) Tryd.f48.ntmps (w48h1 N) w48b1 w48m1 w48w1 n σ K) K x)) N x K)
def w48G [Alg] (N : Nat) (_in0 : (List (List UInt8)) → Bool → (List (List UInt8)) → Int → Int → Bool → Int → (List UInt8) → (List UInt8) → Int → (List UInt8) → (List UInt8) → Int → Bool → (List UInt8) → UInt8 → UInt8 → Int → Bool → Int → Bool → Int → Bool → Int → Bool → Bool → Bool → Int → Int → Int → Int → Int → ((List (List UInt8)) → Bool → (List (List UInt8)) → Int → Int → Bool → Int → (List UInt8) → (List UInt8) → Int → (List UInt8) → (List UInt8) → Int → Bool → (List UInt8) → UInt8 → UInt8 → Int → Bool → Int → Bool → Int → Bool → Int → Bool → Bool → Bool → Int → Int → Bool → Int → Int → Int → Int → O) → O) (in1 : (List (List UInt8)) → Bool → (List (List UInt8)) → Int → Int → Int → Int → Int → Int → (Bool → Int → (List Int) → O) → (Bool → Int → O) → O) (p0 : (List (List UInt8))) : O :=
  br (decide ((↑p0.length : Int) < (2 : Int)))
    (some (w48r0 ((0 : Int)) [] false))
    (gx p0 ((1 : Int)) fun y0 =>
    ck (w72p N y0 (63 : UInt8)) <|
    br (decide ((0 : Int) ≤ w72y0 N y0 (63 : UInt8)))
      (gx p0 ((1 : Int)) fun y1 =>
      ck (slcOk y1.length (some (IntKind.i64.wrap (w72y0 N y0 (63 : UInt8) + (1 : Int)))) none) <|
      gx p0 ((1 : Int)) fun y2 =>
      ck (slcOk y2.length none (some (w72y0 N y0 (63 : UInt8)))) <|
      ck (w73p N [slc y1 (some (IntKind.i64.wrap (w72y0 N y0 (63 : UInt8) + (1 : Int)))) none, slc y2 none (some (w72y0 N y0 (63 : UInt8)))]) <|
      some (w48r0 ((6 : Int)) (w73y0 N [slc y1 (some (IntKind.i64.wrap (w72y0 N y0 (63 : UInt8) + (1 : Int)))) none, slc y2 none (some (w72y0 N y0 (63 : UInt8)))]) (w73y1 N [slc y1 (some (IntKind.i64.wrap (w72y0 N y0 (63 : UInt8) + (1 : Int)))) none, slc y2 none (some (w72y0 N y0 (63 : UInt8)))])))
      (ck true <|
      ck true <|
      ck true <|
      in1 p0 false p0 ((↑p0.length : Int)) ((0 : Int)) ((0 : Int)) ((3 : Int)) ((4 : Int)) ((5 : Int))
        (fun z560 z561 z562 =>
          some (w48r0 z561 z562 z560))
        (fun _ _ =>
          some (w48r0 ((0 : Int)) [] false))))
def w48 [Alg] (N : Nat) (p0 : (List (List UInt8))) : O := w48G N (w48n0 N) (w48n1 N) p0
noncomputable def w48h [Alg] (N : Nat) : Hint := (.seq .d (.seq .d (.seq .d (.seq .d (.seq (.seq .d (.block (.sub w48m1 _ _ _ w48X1_0 w48X1_1 (noX 2) (subL w48I1 w48u1 (w48l1 N N))))) .d)))))
theorem w48hk (N : Nat) (hc : CxOk (w48c N)) : HintOk (w48c N) Tryd.f48.ntmps (w48h N) w48b := hk_of _ _ (And.intro trivial (And.intro trivial (And.intro trivial (And.intro trivial (And.intro (And.intro trivial (w48S1 N hc)) trivial)))))
theorem w48q [Alg] (N : Nat) (p0 : (List (List UInt8))) : w48G N (w48s0 N) (w48s1 N) p0 = exec (w48c N) Tryd.f48.ntmps (w48h N) w48b ⟨argT 0 [.e (.sl (.sl .u8)) p0], [], 100⟩ (finX (w48c N) Tryd.f48 false) := by kernel_rfl
theorem w48does {N : Nat} (hc : CxOk (w48c N)) {p0 : (List (List UInt8))} {r : Res} (h : w48 N p0 = some r) : Does Tryd.prog 48 (([.e (.sl (.sl .u8)) p0] : List X).map X.D) (HA []) r.1.D (HA r.2) :=
  fun_ok hc (f := 48) (fn := Tryd.f48) (code := w48b) (by kernel_rfl) (by kernel_rfl) (w48hk N hc) (Nat.le_of_ble_eq_true (by kernel_rfl)) (ow := false) ((w48q N p0).symm.trans (by rw [w48e0 N, w48e1 N]; exact h))
def w48un (r : Res) : Option (Int × (List Int) × Bool) := match r with
  | (.tup [.agg [x0, x1], x2], []) => (match ue (.i .i64) x0, ue (.sl (.i .i64)) x1, ue .bo x2 with | some a0, some a1, some a2 => some (a0, a1, a2) | _, _, _ => none)
  | _ => none
theorem w48uo {r : Res} {d : Int × (List Int) × Bool} (h : w48un r = some d) : r = w48r0 (d.1) (d.2.1) (d.2.2) := by
  unfold w48un at h
  split at h
  · split at h
    · rename_i h0 h1 h2; cases h; rw [ue_some h0, ue_some h1, ue_some h2]; rfl
    · cases h
  · cases h
def w48z (N : Nat) (p0 : (List (List UInt8))) : Option (Int × (List Int) × Bool) := (w48 N p0).bind w48un
theorem w48fin {N : Nat} (hc : CxOk (w48c N)) {p0 : (List (List UInt8))} {d : Int × (List Int) × Bool} (hd : w48z N p0 = some d) : Does Tryd.prog 48 (([.e (.sl (.sl .u8)) p0] : List X).map X.D) (HA []) (w48r0 (d.1) (d.2.1) (d.2.2)).1.D (HA (w48r0 (d.1) (d.2.1) (d.2.2)).2) := by
  obtain ⟨r, hr, hu⟩ := Option.bind_eq_some_iff.1 hd
  have := w48does hc hr
  rw [w48uo hu] at this
  exact this
def w48p (N : Nat) (p0 : (List (List UInt8))) : Bool := (w48z N p0).isSome
def w48y0 (N : Nat) (p0 : (List (List UInt8))) : Int := ((w48z N p0).getD (0, [], false)).1
def w48y1 (N : Nat) (p0 : (List (List UInt8))) : (List Int) := ((w48z N p0).getD (0, [], false)).2.1
def w48y2 (N : Nat) (p0 : (List (List UInt8))) : Bool := ((w48z N p0).getD (0, [], false)).2.2
def w48e (N : Nat) : Ent' := E1 (.sl (.sl .u8))  (fun x0 => (w48p N x0, w48r0 (w48y0 N x0) (w48y1 N x0) (w48y2 N x0)))
theorem w48re {N : Nat} {p0 : (List (List UInt8))} {d : Int × (List Int) × Bool} (hd : w48z N p0 = some d) : w48r0 (w48y0 N p0) (w48y1 N p0) (w48y2 N p0) = w48r0 (d.1) (d.2.1) (d.2.2) := by unfold w48y0 w48y1 w48y2; rw [hd]; rfl
theorem w48ok (N : Nat) : EOk Tryd.prog 48 (w48e N) := EOk.e1 (fun x0 h => by
  have h : (w48z N x0).isSome = true := h
  obtain ⟨d, hd⟩ := Option.isSome_iff_exists.1 h
  have f := w48fin (w48cx N) hd
  rw [← w48re hd] at f
  exact f)
def w28r0 (a0 : Int) (a1 : (List Int)) (a2 : Int) : Res := (.tup [.agg [.e (.i .i64) a0, .e (.sl (.i .i64)) a1], .e (.i .i64) a2], [])
noncomputable def w28L (N : Nat) : List (Nat × Ent') := [(48, w48e N), (21, w21e N), (32, w32e N)]
noncomputable def w28c (N : Nat) : Cx := ⟨Tryd.prog, 99999, w28L N⟩
noncomputable def w28b : Code := Tryd.f28.body.getD .skip
theorem w28cx (N : Nat) : CxOk (w28c N) := ctx_ok (by kernel_rfl) (.cons (by kernel_rfl) (w48ok N) (.cons (by kernel_rfl) (w21ok N) (.cons (by kernel_rfl) (w32ok N) .nil)))
def w28G [Alg] (N : Nat)  (p0 : (List (List UInt8))) : O :=
  ck (w48p N p0) <|
  br (!w48y2 N p0)
    (some (w28r0 ((0 : Int)) [] ((2 : Int))))
    (ck (w21p N (w48y0 N p0) (w48y1 N p0)) <|
    ck (!!decide (w21y1 N (w48y0 N p0) (w48y1 N p0) ≠ (0 : Int)) || w32p N p0 (w21y0 N (w48y0 N p0) (w48y1 N p0))) <|
    br (decide (w21y1 N (w48y0 N p0) (w48y1 N p0) ≠ (0 : Int)) || !w32y0 N p0 (w21y0 N (w48y0 N p0) (w48y1 N p0)))
      (some (w28r0 ((0 : Int)) [] ((2 : Int))))
      (some (w28r0 (w48y0 N p0) (w48y1 N p0) ((0 : Int)))))
def w28 [Alg] (N : Nat) (p0 : (List (List UInt8))) : O := w28G N  p0
noncomputable def w28h [Alg] (_ : Nat) : Hint := .d
theorem w28hk (N : Nat) : HintOk (w28c N) Tryd.f28.ntmps (w28h N) w28b := hk_of _ _ trivial
theorem w28q [Alg] (N : Nat) (p0 : (List (List UInt8))) : w28G N  p0 = exec (w28c N) Tryd.f28.ntmps (w28h N) w28b ⟨argT 0 [.e (.sl (.sl .u8)) p0], [], 100⟩ (finX (w28c N) Tryd.f28 false) := by kernel_rfl
theorem w28does {N : Nat} (hc : CxOk (w28c N)) {p0 : (List (List UInt8))} {r : Res} (h : w28 N p0 = some r) : Does Tryd.prog 28 (([.e (.sl (.sl .u8)) p0] : List X).map X.D) (HA []) r.1.D (HA r.2) :=
  fun_ok hc (f := 28) (fn := Tryd.f28) (code := w28b) (by kernel_rfl) (by kernel_rfl) (w28hk N) (Nat.le_of_ble_eq_true (by kernel_rfl)) (ow := false) ((w28q N p0).symm.trans (by exact h))
def w28un (r : Res) : Option (Int × (List Int) × Int) := match r with
  | (.tup [.agg [x0, x1], x2], []) => (match ue (.i .i64) x0, ue (.sl (.i .i64)) x1, ue (.i .i64) x2 with | some a0, some a1, some a2 => some (a0, a1, a2) | _, _, _ => none)
  | _ => none
theorem w28uo {r : Res} {d : Int × (List Int) × Int} (h : w28un r = some d) : r = w28r0 (d.1) (d.2.1) (d.2.2) := by
  unfold w28un at h
  split at h
  · split at h
    · rename_i h0 h1 h2; cases h; rw [ue_some h0, ue_some h1, ue_some h2]; rfl
    · cases h
  · cases h
def w28z (N : Nat) (p0 : (List (List UInt8))) : Option (Int × (List Int) × Int) := (w28 N p0).bind w28un
theorem w28fin {N : Nat} (hc : CxOk (w28c N)) {p0 : (List (List UInt8))} {d : Int × (List Int) × Int} (hd : w28z N p0 = some d) : Does Tryd.prog 28 (([.e (.sl (.sl .u8)) p0] : List X).map X.D) (HA []) (w28r0 (d.1) (d.2.1) (d.2.2)).1.D (HA (w28r0 (d.1) (d.2.1) (d.2.2)).2) := by
  obtain ⟨r, hr, hu⟩ := Option.bind_eq_some_iff.1 hd
  have := w28does hc hr
  rw [w28uo hu] at this
  exact this
def w28p (N : Nat) (p0 : (List (List UInt8))) : Bool := (w28z N p0).isSome
def w28y0 (N : Nat) (p0 : (List (List UInt8))) : Int := ((w28z N p0).getD (0, [], 0)).1
def w28y1 (N : Nat) (p0 : (List (List UInt8))) : (List Int) := ((w28z N p0).getD (0, [], 0)).2.1
def w28y2 (N : Nat) (p0 : (List (List UInt8))) : Int := ((w28z N p0).getD (0, [], 0)).2.2
def w28e (N : Nat) : Ent' := E1 (.sl (.sl .u8))  (fun x0 => (w28p N x0, w28r0 (w28y0 N x0) (w28y1 N x0) (w28y2 N x0)))
theorem w28re {N : Nat} {p0 : (List (List UInt8))} {d : Int × (List Int) × Int} (hd : w28z N p0 = some d) : w28r0 (w28y0 N p0) (w28y1 N p0) (w28y2 N p0) = w28r0 (d.1) (d.2.1) (d.2.2) := by unfold w28y0 w28y1 w28y2; rw [hd]; rfl
theorem w28ok (N : Nat) : EOk Tryd.prog 28 (w28e N) := EOk.e1 (fun x0 h => by
  have h : (w28z N x0).isSome = true := h
  obtain ⟨d, hd⟩ := Option.isSome_iff_exists.1 h
  have f := w28fin (w28cx N) hd
  rw [← w28re hd] at f
  exact f)
def w8r0 (a0 : Bool) : Res := (.e .bo a0, [])
noncomputable def w8L (N : Nat) : List (Nat × Ent') := [(10, w10e N), (21, w21e N), (25, w25e N), (31, w31e N), (32, w32e N), (20, l20e N), (28, w28e N), (30, w30e N)]
noncomputable def w8c (N : Nat) : Cx := ⟨Tryd.prog, 99999, w8L N⟩
noncomputable def w8b : Code := Tryd.f8.body.getD .skip
theorem w8cx (N : Nat) : CxOk (w8c N) := ctx_ok (by kernel_rfl) (.cons (by kernel_rfl) (w10ok N) (.cons (by kernel_rfl) (w21ok N) (.cons (by kernel_rfl) (w25ok N) (.cons (by kernel_rfl) (w31ok N) (.cons (by kernel_rfl) (w32ok N) (.cons (by kernel_rfl) (l20ok N) (.cons (by kernel_rfl) (w28ok N) (.cons (by kernel_rfl) (w30ok N) .nil))))))))
def w8F0 [Alg] (_ : Nat)  (self : Int → (List (List UInt8)) → O) (k0 : Int → Bool → (List (List UInt8)) → Int → Int → Int → (List Int) → (List (List UInt8)) → O) (x2_0 : Int) (x2_1 : Bool) (x2_2 : (List (List UInt8))) (x2_3 : Int) (x2_4 : Int) (x2_6 : Int) (x2_7 : (List Int)) (x2_5 : Int) (x2_8 : (List (List UInt8))) : O :=
  br (decide (x2_5 < (↑x2_2.length : Int)))
    (gx x2_2 x2_5 fun y5 =>
    ck (lim ([] ++ y5).length (1 : Nat)) <|
    ck (lim (x2_8.length + [[] ++ y5].length) (24 : Nat)) <|
    self (IntKind.i64.wrap (x2_5 + (1 : Int))) (x2_8 ++ [[] ++ y5]))
    (k0 x2_0 x2_1 x2_2 x2_3 x2_4 x2_6 x2_7 x2_8)
noncomputable def w8b0 : Code := atC [1, 1, 1, 1, 1, 1, 1, 1, 0, 1, 0, 0] w8b
def w8m0 : Nm := ⟨[3, 8, 9, 10, 12, 13, 14, 15], [], []⟩
def w8I0 (x : Int × Bool × (List (List UInt8)) × Int × Int × Int × Int × (List Int) × (List (List UInt8))) : Sg := ⟨[(3, .e (.i .i64) x.1), (8, .e .bo x.2.1), (9, .ref 0 0), (10, .e (.sl (.sl .u8)) x.2.2.1), (12, .e (.i .i64) x.2.2.2.1), (13, .e (.i .i64) x.2.2.2.2.1), (14, .own 1), (15, .e (.i .i64) x.2.2.2.2.2.1)], [(0, .box 24 [.e (.i .i64) x.2.2.2.2.2.2.1, .e (.sl (.i .i64)) x.2.2.2.2.2.2.2.1]), (1, .nest 42 5 .u8 x.2.2.2.2.2.2.2.2)], 100⟩
def w8u0 (σ : Sg) : Int × Bool × (List (List UInt8)) × Int × Int × Int × Int × (List Int) × (List (List UInt8)) := (lvT (.i .i64) 3 0 σ, lvT .bo 8 0 σ, lvT (.sl (.sl .u8)) 10 0 σ, lvT (.i .i64) 12 0 σ, lvT (.i .i64) 13 0 σ, lvT (.i .i64) 15 0 σ, lvH (.i .i64) 0 0 σ, lvH (.sl (.i .i64)) 0 1 σ, lvN .u8 1 σ)
theorem w8ui0 : ∀ x, w8u0 (w8I0 x) = x := fun _ => by kernel_rfl
def w8X0_0 (y : Int × Bool × (List (List UInt8)) × Int × Int × Int × (List Int) × (List (List UInt8))) : Exit × Sg := ((.exit 0), ⟨[(3, .e (.i .i64) y.1), (8, .e .bo y.2.1), (9, .ref 0 0), (10, .e (.sl (.sl .u8)) y.2.2.1), (12, .e (.i .i64) y.2.2.2.1), (13, .e (.i .i64) y.2.2.2.2.1), (14, .own 1)], [(0, .box 24 [.e (.i .i64) y.2.2.2.2.2.1, .e (.sl (.i .i64)) y.2.2.2.2.2.2.1]), (1, .nest 42 5 .u8 y.2.2.2.2.2.2.2)], 100⟩)
def w8v0_0 (σ : Sg) : Int × Bool × (List (List UInt8)) × Int × Int × Int × (List Int) × (List (List UInt8)) := (lvT (.i .i64) 3 0 σ, lvT .bo 8 0 σ, lvT (.sl (.sl .u8)) 10 0 σ, lvT (.i .i64) 12 0 σ, lvT (.i .i64) 13 0 σ, lvH (.i .i64) 0 0 σ, lvH (.sl (.i .i64)) 0 1 σ, lvN .u8 1 σ)
def w8w0 : List (Exit × Nm) := [((.exit 0), ⟨[3, 8, 9, 10, 12, 13, 14], [], []⟩)]
theorem w8o0 : Outs w8v0_0 (fun _ => ()) (fun _ => ()) w8X0_0 (noX 1) (noX 2) (.exit 0) (.goto 1) (.goto 2) := ⟨fun _ => by kernel_rfl, fun _ => by kernel_rfl, fun _ => by kernel_rfl, fun _ => by kernel_rfl, fun _ => by kernel_rfl, fun _ => by kernel_rfl, exNe_ok (by kernel_rfl), exNe_ok (by kernel_rfl), exNe_ok (by kernel_rfl)⟩
def w8l0 [Alg] (N : Nat) : Nat → (Int × Bool × (List (List UInt8)) × Int × Int × Int × Int × (List Int) × (List (List UInt8))) → ((Int × Bool × (List (List UInt8)) × Int × Int × Int × (List Int) × (List (List UInt8))) → O) → ((Unit) → O) → ((Unit) → O) → O
  | 0, _, _, _, _ => none
  | n + 1, x, k0, k1, k2 => w8F0 N  (fun v0 v1 => w8l0 N n (x.1, x.2.1, x.2.2.1, x.2.2.2.1, x.2.2.2.2.1, v0, x.2.2.2.2.2.2.1, x.2.2.2.2.2.2.2.1, v1) k0 k1 k2) (fun y0 y1 y2 y3 y4 y5 y6 y7 => k0 (y0, y1, y2, y3, y4, y5, y6, y7)) x.1 x.2.1 x.2.2.1 x.2.2.2.1 x.2.2.2.2.1 x.2.2.2.2.2.2.1 x.2.2.2.2.2.2.2.1 x.2.2.2.2.2.1 x.2.2.2.2.2.2.2.2
def w8n0 [Alg] (N : Nat) (a0 : Int) (a1 : Bool) (a2 : (List (List UInt8))) (a3 : Int) (a4 : Int) (a5 : Int) (a6 : Int) (a7 : (List Int)) (a8 : (List (List UInt8))) (k0 : Int → Bool → (List (List UInt8)) → Int → Int → Int → (List Int) → (List (List UInt8)) → O) : O := w8l0 N N (a0, a1, a2, a3, a4, a5, a6, a7, a8) (fun y => k0 y.1 y.2.1 y.2.2.1 y.2.2.2.1 y.2.2.2.2.1 y.2.2.2.2.2.1 y.2.2.2.2.2.2.1 y.2.2.2.2.2.2.2) (fun _ => none) (fun _ => none)
noncomputable def w8s0 [Alg] (N : Nat) (a0 : Int) (a1 : Bool) (a2 : (List (List UInt8))) (a3 : Int) (a4 : Int) (a5 : Int) (a6 : Int) (a7 : (List Int)) (a8 : (List (List UInt8))) (k0 : Int → Bool → (List (List UInt8)) → Int → Int → Int → (List Int) → (List (List UInt8)) → O) : O := subL w8I0 w8u0 (w8l0 N N) (w8I0 (a0, a1, a2, a3, a4, a5, a6, a7, a8)) (fun y => k0 y.1 y.2.1 y.2.2.1 y.2.2.2.1 y.2.2.2.2.1 y.2.2.2.2.2.1 y.2.2.2.2.2.2.1 y.2.2.2.2.2.2.2) (fun _ => none) (fun _ => none)
theorem w8e0 [Alg] (N : Nat) : w8s0 N = w8n0 N := funext fun _ => funext fun _ => funext fun _ => funext fun _ => funext fun _ => funext fun _ => funext fun _ => funext fun _ => funext fun _ => funext fun _ => subL_I w8ui0 _ _ _ _
noncomputable def w8h0 [Alg] (_ : Nat) : Hint := (.seq .d (.seq (.block (.reg [1, 6, 7, 8] [] [])) .d))
theorem w8hk0 (N : Nat) : HintOk (w8c N) Tryd.f8.ntmps (w8h0 N) w8b0 := hk_of _ _ (And.intro trivial (And.intro trivial trivial))
theorem w8q0 [Alg] (N : Nat) (self : Sg → O) (K : Exit → Sg → O) (x : Int × Bool × (List (List UInt8)) × Int × Int × Int × Int × (List Int) × (List (List UInt8))) : w8F0 N  (fun v0 v1 => self (w8I0 (x.1, x.2.1, x.2.2.1, x.2.2.2.1, x.2.2.2.2.1, v0, x.2.2.2.2.2.2.1, x.2.2.2.2.2.2.2.1, v1))) (fun y0 y1 y2 y3 y4 y5 y6 y7 => K (w8X0_0 (y0, y1, y2, y3, y4, y5, y6, y7)).1 (w8X0_0 (y0, y1, y2, y3, y4, y5, y6, y7)).2) x.1 x.2.1 x.2.2.1 x.2.2.2.1 x.2.2.2.2.1 x.2.2.2.2.2.2.1 x.2.2.2.2.2.2.2.1 x.2.2.2.2.2.1 x.2.2.2.2.2.2.2.2 = exec (w8c N) Tryd.f8.ntmps (w8h0 N) w8b0 (w8I0 x) (roundX w8m0 w8w0 self K) := by kernel_rfl
theorem w8S0 (N : Nat) (hc : CxOk (w8c N)) : SubOk (w8c N) Tryd.f8.ntmps (.loop w8b0) w8X0_0 (noX 1) (noX 2) (subL w8I0 w8u0 (w8l0 N N)) :=
  sub_loop hc (w8hk0 N) w8o0 (n := N) (fun x K => loop_ind (w8l0 N) (fun _ _ _ _ => rfl) (fun n K ih x => by
    have h : w8F0 N  (fun v0 v1 => w8l0 N n (x.1, x.2.1, x.2.2.1, x.2.2.2.1, x.2.2.2.2.1, v0, x.2.2.2.2.2.2.1, x.2.2.2.2.2.2.2.1, v1) (fun y => K (w8X0_0 y).1 (w8X0_0 y).2) (fun y => K ((noX 1) y).1 ((noX 1) y).2) (fun y => K ((noX 2) y).1 ((noX 2) y).2)) (fun y0 y1 y2 y3 y4 y5 y6 y7 => K (w8X0_0 (y0, y1, y2, y3, y4, y5, y6, y7)).1 (w8X0_0 (y0, y1, y2, y3, y4, y5, y6, y7)).2) x.1 x.2.1 x.2.2.1 x.2.2.2.1 x.2.2.2.2.1 x.2.2.2.2.2.2.1 x.2.2.2.2.2.2.2.1 x.2.2.2.2.2.1 x.2.2.2.2.2.2.2.2 = w8F0 N  (fun v0 v1 => loopX (w8c N) Tryd.f8.ntmps (w8h0 N) w8b0 w8m0 w8w0 n (w8I0 (x.1, x.2.1, x.2.2.1, x.2.2.2.1, x.2.2.2.2.1, v0, x.2.2.2.2.2.2.1, x.2.2.2.2.2.2.2.1, v1)) K) (fun y0 y1 y2 y3 y4 y5 y6 y7 => K (w8X0_0 (y0, y1, y2, y3, y4, y5, y6, y7)).1 (w8X0_0 (y0, y1, y2, y3, y4, y5, y6, y7)).2) x.1 x.2.1 x.2.2.1 x.2.2.2.1 x.2.2.2.2.1 x.2.2.2.2.2.2.1 x.2.2.2.2.2.2.2.1 x.2.2.2.2.2.1 x.2.2.2.2.2.2.2.2 := by rw [ show (fun v0 v1 => w8l0 N n (x.1, x.2.1, x.2.2.1, x.2.2.2.1, x.2.2.2.2.1, v0, x.2.2.2.2.2.2.1, x.2.2.2.2.2.2.2.1, v1) (fun y => K (w8X0_0 y).1 (w8X0_0 y).2) (fun y => K ((noX 1) y).1 ((noX 1) y).2) (fun y => K ((noX 2) y).1 ((noX 2) y).2)) = (fun v0 v1 => loopX (w8c N) Tryd.f8.ntmps (w8h0 N) w8b0 w8m0 w8w0 n (w8I0 (x.1, x.2.1, x.2.2.1, x.2.2.2.1, x.2.2.2.2.1, v0, x.2.2.2.2.2.2.1, x.2.2.2.2.2.2.2.1, v1)) K) from funext fun _ => funext fun _ => ih _]
    exact h.trans (w8q0 N (fun σ => loopX (w8c N) Tryd.f8.ntmps (w8h0 N) w8b0 w8m0 w8w0 n σ K) K x)) N x K)
def w8F1 [Alg] (N : Nat)  (self : Int → Int → O) (k0 : Bool → Int → Int → (List Int) → O) (x25_0 : Bool) (x25_1 : Int) (x25_2 : Int) (x25_3 : UInt8) (x25_6 : Int) (x25_7 : (List Int)) (x25_8 : (List (List UInt8))) (x25_4 : Int) (x25_5 : Int) : O :=
  br (decide (x25_5 < (10 : Int)))
    (ck (w31p N (u8of (IntKind.i64.wrap ((48 : Int) + x25_5)))) <|
    br (decide (x25_3 = w31y0 N (u8of (IntKind.i64.wrap ((48 : Int) + x25_5)))))
      (gx x25_8 x25_1 fun y34 =>
      gx y34 x25_2 fun y35 =>
      br (decide (y35 = w31y0 N (u8of (IntKind.i64.wrap ((48 : Int) + x25_5)))))
        (self (IntKind.i64.wrap (IntKind.i64.wrap (x25_4 + (1 : Int)) + (1 : Int))) (IntKind.i64.wrap (x25_5 + (1 : Int))))
        (self (IntKind.i64.wrap (x25_4 + (1 : Int))) (IntKind.i64.wrap (x25_5 + (1 : Int)))))
      (gx x25_8 x25_1 fun y36 =>
      gx y36 x25_2 fun y37 =>
      br (decide (y37 = w31y0 N (u8of (IntKind.i64.wrap ((48 : Int) + x25_5)))))
        (self (IntKind.i64.wrap (x25_4 + (1 : Int))) (IntKind.i64.wrap (x25_5 + (1 : Int))))
        (self x25_4 (IntKind.i64.wrap (x25_5 + (1 : Int))))))
    (k0 x25_0 x25_4 x25_6 x25_7)
noncomputable def w8b1 : Code := atC [1, 1, 1, 1, 1, 1, 1, 1, 1, 1, 1, 1, 1, 1, 1, 1, 1, 0, 1, 0, 0] w8b
def w8m1 : Nm := ⟨[8, 9, 12, 13, 14, 16, 21, 22], [], []⟩
def w8I1 (x : Bool × Int × Int × UInt8 × Int × Int × Int × (List Int) × (List (List UInt8))) : Sg := ⟨[(8, .e .bo x.1), (9, .ref 0 0), (12, .e (.i .i64) x.2.1), (13, .e (.i .i64) x.2.2.1), (14, .own 1), (16, .e .u8 x.2.2.2.1), (21, .e (.i .i64) x.2.2.2.2.1), (22, .e (.i .i64) x.2.2.2.2.2.1)], [(0, .box 24 [.e (.i .i64) x.2.2.2.2.2.2.1, .e (.sl (.i .i64)) x.2.2.2.2.2.2.2.1]), (1, .row 42 (.sl .u8) x.2.2.2.2.2.2.2.2 true)], 100⟩
def w8u1 (σ : Sg) : Bool × Int × Int × UInt8 × Int × Int × Int × (List Int) × (List (List UInt8)) := (lvT .bo 8 0 σ, lvT (.i .i64) 12 0 σ, lvT (.i .i64) 13 0 σ, lvT .u8 16 0 σ, lvT (.i .i64) 21 0 σ, lvT (.i .i64) 22 0 σ, lvH (.i .i64) 0 0 σ, lvH (.sl (.i .i64)) 0 1 σ, lvR (.sl .u8) 1 σ)
theorem w8ui1 : ∀ x, w8u1 (w8I1 x) = x := fun _ => by kernel_rfl
def w8X1_0 (y : Bool × Int × Int × (List Int)) : Exit × Sg := ((.exit 2), ⟨[(8, .e .bo y.1), (9, .ref 0 0), (21, .e (.i .i64) y.2.1)], [(0, .box 24 [.e (.i .i64) y.2.2.1, .e (.sl (.i .i64)) y.2.2.2])], 100⟩)
def w8v1_0 (σ : Sg) : Bool × Int × Int × (List Int) := (lvT .bo 8 0 σ, lvT (.i .i64) 21 0 σ, lvH (.i .i64) 0 0 σ, lvH (.sl (.i .i64)) 0 1 σ)
def w8w1 : List (Exit × Nm) := [((.exit 2), ⟨[8, 9, 21], [], []⟩)]
theorem w8o1 : Outs w8v1_0 (fun _ => ()) (fun _ => ()) w8X1_0 (noX 1) (noX 2) (.exit 2) (.goto 1) (.goto 2) := ⟨fun _ => by kernel_rfl, fun _ => by kernel_rfl, fun _ => by kernel_rfl, fun _ => by kernel_rfl, fun _ => by kernel_rfl, fun _ => by kernel_rfl, exNe_ok (by kernel_rfl), exNe_ok (by kernel_rfl), exNe_ok (by kernel_rfl)⟩
def w8l1 [Alg] (N : Nat) : Nat → (Bool × Int × Int × UInt8 × Int × Int × Int × (List Int) × (List (List UInt8))) → ((Bool × Int × Int × (List Int)) → O) → ((Unit) → O) → ((Unit) → O) → O
  | 0, _, _, _, _ => none
  | n + 1, x, k0, k1, k2 => w8F1 N  (fun v0 v1 => w8l1 N n (x.1, x.2.1, x.2.2.1, x.2.2.2.1, v0, v1, x.2.2.2.2.2.2.1, x.2.2.2.2.2.2.2.1, x.2.2.2.2.2.2.2.2) k0 k1 k2) (fun y0 y1 y2 y3 => k0 (y0, y1, y2, y3)) x.1 x.2.1 x.2.2.1 x.2.2.2.1 x.2.2.2.2.2.2.1 x.2.2.2.2.2.2.2.1 x.2.2.2.2.2.2.2.2 x.2.2.2.2.1 x.2.2.2.2.2.1
def w8n1 [Alg] (N : Nat) (a0 : Bool) (a1 : Int) (a2 : Int) (a3 : UInt8) (a4 : Int) (a5 : Int) (a6 : Int) (a7 : (List Int)) (a8 : (List (List UInt8))) (k0 : Bool → Int → Int → (List Int) → O) : O := w8l1 N N (a0, a1, a2, a3, a4, a5, a6, a7, a8) (fun y => k0 y.1 y.2.1 y.2.2.1 y.2.2.2) (fun _ => none) (fun _ => none)
noncomputable def w8s1 [Alg] (N : Nat) (a0 : Bool) (a1 : Int) (a2 : Int) (a3 : UInt8) (a4 : Int) (a5 : Int) (a6 : Int) (a7 : (List Int)) (a8 : (List (List UInt8))) (k0 : Bool → Int → Int → (List Int) → O) : O := subL w8I1 w8u1 (w8l1 N N) (w8I1 (a0, a1, a2, a3, a4, a5, a6, a7, a8)) (fun y => k0 y.1 y.2.1 y.2.2.1 y.2.2.2) (fun _ => none) (fun _ => none)
theorem w8e1 [Alg] (N : Nat) : w8s1 N = w8n1 N := funext fun _ => funext fun _ => funext fun _ => funext fun _ => funext fun _ => funext fun _ => funext fun _ => funext fun _ => funext fun _ => funext fun _ => subL_I w8ui1 _ _ _ _
noncomputable def w8h1 [Alg] (_ : Nat) : Hint := .d
theorem w8hk1 (N : Nat) : HintOk (w8c N) Tryd.f8.ntmps (w8h1 N) w8b1 := hk_of _ _ trivial
theorem w8q1 [Alg] (N : Nat) (self : Sg → O) (K : Exit → Sg → O) (x : Bool × Int × Int × UInt8 × Int × Int × Int × (List Int) × (List (List UInt8))) : w8F1 N  (fun v0 v1 => self (w8I1 (x.1, x.2.1, x.2.2.1, x.2.2.2.1, v0, v1, x.2.2.2.2.2.2.1, x.2.2.2.2.2.2.2.1, x.2.2.2.2.2.2.2.2))) (fun y0 y1 y2 y3 => K (w8X1_0 (y0, y1, y2, y3)).1 (w8X1_0 (y0, y1, y2, y3)).2) x.1 x.2.1 x.2.2.1 x.2.2.2.1 x.2.2.2.2.2.2.1 x.2.2.2.2.2.2.2.1 x.2.2.2.2.2.2.2.2 x.2.2.2.2.1 x.2.2.2.2.2.1 = exec (w8c N) Tryd.f8.ntmps (w8h1 N) w8b1 (w8I1 x) (roundX w8m1 w8w1 self K) := by kernel_rfl
theorem w8S1 (N : Nat) (hc : CxOk (w8c N)) : SubOk (w8c N) Tryd.f8.ntmps (.loop w8b1) w8X1_0 (noX 1) (noX 2) (subL w8I1 w8u1 (w8l1 N N)) :=
  sub_loop hc (w8hk1 N) w8o1 (n := N) (fun x K => loop_ind (w8l1 N) (fun _ _ _ _ => rfl) (fun n K ih x => by
    have h : w8F1 N  (fun v0 v1 => w8l1 N n (x.1, x.2.1, x.2.2.1, x.2.2.2.1, v0, v1, x.2.2.2.2.2.2.1, x.2.2.2.2.2.2.2.1, x.2.2.2.2.2.2.2.2) (fun y => K (w8X1_0 y).1 (w8X1_0 y).2) (fun y => K ((noX 1) y).1 ((noX 1) y).2) (fun y => K ((noX 2) y).1 ((noX 2) y).2)) (fun y0 y1 y2 y3 => K (w8X1_0 (y0, y1, y2, y3)).1 (w8X1_0 (y0, y1, y2, y3)).2) x.1 x.2.1 x.2.2.1 x.2.2.2.1 x.2.2.2.2.2.2.1 x.2.2.2.2.2.2.2.1 x.2.2.2.2.2.2.2.2 x.2.2.2.2.1 x.2.2.2.2.2.1 = w8F1 N  (fun v0 v1 => loopX (w8c N) Tryd.f8.ntmps (w8h1 N) w8b1 w8m1 w8w1 n (w8I1 (x.1, x.2.1, x.2.2.1, x.2.2.2.1, v0, v1, x.2.2.2.2.2.2.1, x.2.2.2.2.2.2.2.1, x.2.2.2.2.2.2.2.2)) K) (fun y0 y1 y2 y3 => K (w8X1_0 (y0, y1, y2, y3)).1 (w8X1_0 (y0, y1, y2, y3)).2) x.1 x.2.1 x.2.2.1 x.2.2.2.1 x.2.2.2.2.2.2.1 x.2.2.2.2.2.2.2.1 x.2.2.2.2.2.2.2.2 x.2.2.2.2.1 x.2.2.2.2.2.1 := by rw [ show (fun v0 v1 => w8l1 N n (x.1, x.2.1, x.2.2.1, x.2.2.2.1, v0, v1, x.2.2.2.2.2.2.1, x.2.2.2.2.2.2.2.1, x.2.2.2.2.2.2.2.2) (fun y => K (w8X1_0 y).1 (w8X1_0 y).2) (fun y => K ((noX 1) y).1 ((noX 1) y).2) (fun y => K ((noX 2) y).1 ((noX 2) y).2)) = (fun v0 v1 => loopX (w8c N) Tryd.f8.ntmps (w8h1 N) w8b1 w8m1 w8w1 n (w8I1 (x.1, x.2.1, x.2.2.1, x.2.2.2.1, v0, v1, x.2.2.2.2.2.2.1, x.2.2.2.2.2.2.2.1, x.2.2.2.2.2.2.2.2)) K) from funext fun _ => funext fun _ => ih _]
    exact h.trans (w8q1 N (fun σ => loopX (w8c N) Tryd.f8.ntmps (w8h1 N) w8b1 w8m1 w8w1 n σ K) K x)) N x K)
def w8G [Alg] (N : Nat) (in0 : Int → Bool → (List (List UInt8)) → Int → Int → Int → Int → (List Int) → (List (List UInt8)) → (Int → Bool → (List (List UInt8)) → Int → Int → Int → (List Int) → (List (List UInt8)) → O) → O) (in1 : Bool → Int → Int → UInt8 → Int → Int → Int → (List Int) → (List (List UInt8)) → (Bool → Int → Int → (List Int) → O) → O) (l0 : (List Int)) (line1 : Int) (at2 : Int) (to3 : Int) : O :=
  ck (w10p N l0) <|
  ck (w21p N (w10y0 N l0) (w10y1 N l0)) <|
  br (decide (w21y1 N (w10y0 N l0) (w10y1 N l0) ≠ (0 : Int)) || decide ((↑(w21y0 N (w10y0 N l0) (w10y1 N l0)).length : Int) = (0 : Int)))
    (some (w8r0 false))
    (ck (w25p N line1 (↑(w21y0 N (w10y0 N l0) (w10y1 N l0)).length : Int)) <|
    gx (w21y0 N (w10y0 N l0) (w10y1 N l0)) (w25y0 N line1 (↑(w21y0 N (w10y0 N l0) (w10y1 N l0)).length : Int)) fun y0 =>
    br (decide ((↑y0.length : Int) = (0 : Int)))
      (some (w8r0 false))
      (gx (w21y0 N (w10y0 N l0) (w10y1 N l0)) (w25y0 N line1 (↑(w21y0 N (w10y0 N l0) (w10y1 N l0)).length : Int)) fun y1 =>
      ck (w25p N at2 (↑y1.length : Int)) <|
      in0 to3 false (w21y0 N (w10y0 N l0) (w10y1 N l0)) (w25y0 N line1 (↑(w21y0 N (w10y0 N l0) (w10y1 N l0)).length : Int)) (w25y0 N at2 (↑y1.length : Int)) ((0 : Int)) (w10y0 N l0) (w10y1 N l0) []
        (fun z6 z7 z8 z9 z10 z11 z12 z13 =>
          ck (decide ((0 : Int) ≤ z9 ∧ z9 < (↑z13.length : Int))) <|
          gn z13 z9.toNat fun _ =>
          gn z13 z9.toNat fun y15 =>
          ck (decide ((0 : Int) ≤ z10 ∧ z10 < (↑y15.length : Int))) <|
          gn z13 z9.toNat fun y16 =>
          gn y16 z10.toNat fun y17 =>
          ck (decide ((0 : Int) ≤ z9 ∧ z9 < (↑z13.length : Int))) <|
          gn z13 z9.toNat fun _ =>
          ck (w25p N z6 (16 : Int)) <|
          gx [(48 : UInt8), (49 : UInt8), (50 : UInt8), (51 : UInt8), (52 : UInt8), (53 : UInt8), (54 : UInt8), (55 : UInt8), (56 : UInt8), (57 : UInt8), (95 : UInt8), (43 : UInt8), (45 : UInt8), (42 : UInt8), (61 : UInt8), (91 : UInt8)] (w25y0 N z6 (16 : Int)) fun y19 =>
          ck (w31p N y19) <|
          gn z13 z9.toNat fun y20 =>
          ck (decide ((0 : Int) ≤ z10 ∧ z10 < (↑y20.length : Int))) <|
          gn z13 z9.toNat fun y21 =>
          gn y21 z10.toNat fun _ =>
          ck (w32p N z8 (z13.set z9.toNat (y21.set z10.toNat (w31y0 N y19)))) <|
          br (w32y0 N z8 (z13.set z9.toNat (y21.set z10.toNat (w31y0 N y19))))
            (gx (z13.set z9.toNat (y21.set z10.toNat (w31y0 N y19))) z9 fun y23 =>
            gx y23 z10 fun y24 =>
            ck (!decide (y17 = y24) || true) <|
            some (w8r0 (decide (y17 = y24) && true)))
            (ck (w28p N (z13.set z9.toNat (y21.set z10.toNat (w31y0 N y19)))) <|
            br (decide (w28y2 N (z13.set z9.toNat (y21.set z10.toNat (w31y0 N y19))) ≠ (0 : Int)))
              (ck (!decide (w28y2 N (z13.set z9.toNat (y21.set z10.toNat (w31y0 N y19))) = (2 : Int)) || true) <|
              some (w8r0 (decide (w28y2 N (z13.set z9.toNat (y21.set z10.toNat (w31y0 N y19))) = (2 : Int)) && true)))
              (ck (w21p N (w28y0 N (z13.set z9.toNat (y21.set z10.toNat (w31y0 N y19)))) (w28y1 N (z13.set z9.toNat (y21.set z10.toNat (w31y0 N y19))))) <|
              ck (!!decide (w21y1 N (w28y0 N (z13.set z9.toNat (y21.set z10.toNat (w31y0 N y19)))) (w28y1 N (z13.set z9.toNat (y21.set z10.toNat (w31y0 N y19)))) ≠ (0 : Int)) || w32p N (w21y0 N (w28y0 N (z13.set z9.toNat (y21.set z10.toNat (w31y0 N y19)))) (w28y1 N (z13.set z9.toNat (y21.set z10.toNat (w31y0 N y19))))) (z13.set z9.toNat (y21.set z10.toNat (w31y0 N y19)))) <|
              ck (!!(decide (w21y1 N (w28y0 N (z13.set z9.toNat (y21.set z10.toNat (w31y0 N y19)))) (w28y1 N (z13.set z9.toNat (y21.set z10.toNat (w31y0 N y19)))) ≠ (0 : Int)) || !w32y0 N (w21y0 N (w28y0 N (z13.set z9.toNat (y21.set z10.toNat (w31y0 N y19)))) (w28y1 N (z13.set z9.toNat (y21.set z10.toNat (w31y0 N y19))))) (z13.set z9.toNat (y21.set z10.toNat (w31y0 N y19)))) || w30p N (w28y0 N (z13.set z9.toNat (y21.set z10.toNat (w31y0 N y19)))) (w28y1 N (z13.set z9.toNat (y21.set z10.toNat (w31y0 N y19)))) z11 z12) <|
              br (decide (w21y1 N (w28y0 N (z13.set z9.toNat (y21.set z10.toNat (w31y0 N y19)))) (w28y1 N (z13.set z9.toNat (y21.set z10.toNat (w31y0 N y19)))) ≠ (0 : Int)) || !w32y0 N (w21y0 N (w28y0 N (z13.set z9.toNat (y21.set z10.toNat (w31y0 N y19)))) (w28y1 N (z13.set z9.toNat (y21.set z10.toNat (w31y0 N y19))))) (z13.set z9.toNat (y21.set z10.toNat (w31y0 N y19))) || w30y0 N (w28y0 N (z13.set z9.toNat (y21.set z10.toNat (w31y0 N y19)))) (w28y1 N (z13.set z9.toNat (y21.set z10.toNat (w31y0 N y19)))) z11 z12)
                (some (w8r0 false))
                (in1 z7 z9 z10 y17 ((0 : Int)) ((0 : Int)) z11 z12 (z13.set z9.toNat (y21.set z10.toNat (w31y0 N y19)))
                  (fun _ z39 z40 _ =>
                    ck (!(decide (z39 < (2 : Int)) || decide (z40 ≠ (3 : Int)) && decide (z40 ≠ (4 : Int))) || true) <|
                    some (w8r0 ((decide (z39 < (2 : Int)) || decide (z40 ≠ (3 : Int)) && decide (z40 ≠ (4 : Int))) && true)))))))))
def w8 [Alg] (N : Nat) (l0 : (List Int)) (line1 : Int) (at2 : Int) (to3 : Int) : O := w8G N (w8n0 N) (w8n1 N) l0 line1 at2 to3
noncomputable def w8h [Alg] (N : Nat) : Hint := (.seq .d (.seq .d (.seq .d (.seq .d (.seq .d (.seq .d (.seq .d (.seq .d (.seq (.seq (.reg [] [.nilR 14 (.nest 42 5 .u8 [])] []) (.block (.sub w8m0 _ _ _ w8X0_0 (noX 1) (noX 2) (subL w8I0 w8u0 (w8l0 N N))))) (.seq .d (.seq (.reg [] [] [[], [], [], [], [], [], [], [], [], [], [1]]) (.seq (.seq (.reg [] [.slr 14] []) .d) (.seq .d (.seq .d (.seq .d (.seq .d (.seq .d (.seq (.seq .d (.block (.sub w8m1 _ _ _ w8X1_0 (noX 1) (noX 2) (subL w8I1 w8u1 (w8l1 N N))))) .d))))))))))))))))))
theorem w8hk (N : Nat) (hc : CxOk (w8c N)) : HintOk (w8c N) Tryd.f8.ntmps (w8h N) w8b := hk_of _ _ (And.intro trivial (And.intro trivial (And.intro trivial (And.intro trivial (And.intro trivial (And.intro trivial (And.intro trivial (And.intro trivial (And.intro (And.intro trivial (w8S0 N hc)) (And.intro trivial (And.intro trivial (And.intro (And.intro trivial trivial) (And.intro trivial (And.intro trivial (And.intro trivial (And.intro trivial (And.intro trivial (And.intro (And.intro trivial (w8S1 N hc)) trivial))))))))))))))))))
theorem w8q [Alg] (N : Nat) (l0 : (List Int)) (line1 : Int) (at2 : Int) (to3 : Int) : w8G N (w8s0 N) (w8s1 N) l0 line1 at2 to3 = exec (w8c N) Tryd.f8.ntmps (w8h N) w8b ⟨argT 0 [.e (.sl (.i .i64)) l0, .e (.i .i64) line1, .e (.i .i64) at2, .e (.i .i64) to3], [], 100⟩ (finX (w8c N) Tryd.f8 false) := by kernel_rfl
theorem w8does {N : Nat} (hc : CxOk (w8c N)) {l0 : (List Int)} {line1 : Int} {at2 : Int} {to3 : Int} {r : Res} (h : w8 N l0 line1 at2 to3 = some r) : Does Tryd.prog 8 (([.e (.sl (.i .i64)) l0, .e (.i .i64) line1, .e (.i .i64) at2, .e (.i .i64) to3] : List X).map X.D) (HA []) r.1.D (HA r.2) :=
  fun_ok hc (f := 8) (fn := Tryd.f8) (code := w8b) (by kernel_rfl) (by kernel_rfl) (w8hk N hc) (Nat.le_of_ble_eq_true (by kernel_rfl)) (ow := false) ((w8q N l0 line1 at2 to3).symm.trans (by rw [w8e0 N, w8e1 N]; exact h))
def w8un (r : Res) : Option (Bool) := match r with
  | (x0, []) => (match ue .bo x0 with | some a0 => some a0 | _ => none)
  | _ => none
theorem w8uo {r : Res} {d : Bool} (h : w8un r = some d) : r = w8r0 (d) := by
  unfold w8un at h
  split at h
  · split at h
    · rename_i h0; cases h; rw [ue_some h0]; rfl
    · cases h
  · cases h
def w8z (N : Nat) (l0 : (List Int)) (line1 : Int) (at2 : Int) (to3 : Int) : Option (Bool) := (w8 N l0 line1 at2 to3).bind w8un
theorem w8fin {N : Nat} (hc : CxOk (w8c N)) {l0 : (List Int)} {line1 : Int} {at2 : Int} {to3 : Int} {d : Bool} (hd : w8z N l0 line1 at2 to3 = some d) : Does Tryd.prog 8 (([.e (.sl (.i .i64)) l0, .e (.i .i64) line1, .e (.i .i64) at2, .e (.i .i64) to3] : List X).map X.D) (HA []) (w8r0 (d)).1.D (HA (w8r0 (d)).2) := by
  obtain ⟨r, hr, hu⟩ := Option.bind_eq_some_iff.1 hd
  have := w8does hc hr
  rw [w8uo hu] at this
  exact this
end
end Go.Proofs
