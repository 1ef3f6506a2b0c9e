/- What functions do. Conditions are in the theorems. -/
import Derived.Test.YtpmhkjnnolpknaaDoorE7
import Derived.Test.YtpmhkjnnolpknaaDoorF0
import Derived.Test.YtpmhkjnnolpknaaDoorProg
import Derived.KernelRfl
/- What functions do. -/
namespace Go.Proofs
noncomputable section
open Go.Ax Go.Ax.Alg Go.RowKit Go.Ab
open Go
def w40r0 (a0 : Bool) : Res := (.e .bo a0, [])
noncomputable def w40L (_ : Nat) : List (Nat × Ent') := []
noncomputable def w40c (N : Nat) : Cx := ⟨Tryd.prog, 99999, w40L N⟩
noncomputable def w40b : Code := Tryd.f40.body.getD .skip
theorem w40cx (N : Nat) : CxOk (w40c N) := ctx_ok (by kernel_rfl) .nil
def w40G [Alg] (_ : Nat)  (a0 : Int) : O :=
  some (w40r0 (decide (a0 < (0 : Int)) || decide ((999999 : Int) < a0)))
def w40 [Alg] (N : Nat) (a0 : Int) : O := w40G N  a0
noncomputable def w40h [Alg] (_ : Nat) : Hint := .d
theorem w40hk (N : Nat) : HintOk (w40c N) Tryd.f40.ntmps (w40h N) w40b := hk_of _ _ trivial
theorem w40q [Alg] (N : Nat) (a0 : Int) : w40G N  a0 = exec (w40c N) Tryd.f40.ntmps (w40h N) w40b ⟨argT 0 [.e (.i .i64) a0], [], 100⟩ (finX (w40c N) Tryd.f40 false) := by kernel_rfl
theorem w40does {N : Nat} (hc : CxOk (w40c N)) {a0 : Int} {r : Res} (h : w40 N a0 = some r) : Does Tryd.prog 40 (([.e (.i .i64) a0] : List X).map X.D) (HA []) r.1.D (HA r.2) :=
  fun_ok hc (f := 40) (fn := Tryd.f40) (code := w40b) (by kernel_rfl) (by kernel_rfl) (w40hk N) (Nat.le_of_ble_eq_true (by kernel_rfl)) (ow := false) ((w40q N a0).symm.trans (by exact h))
def w40un (r : Res) : Option (Bool) := match r with
  | (x0, []) => (match ue .bo x0 with | some a0 => some a0 | _ => none)
  | _ => none
theorem w40uo {r : Res} {d : Bool} (h : w40un r = some d) : r = w40r0 (d) := by
  unfold w40un at h
  split at h
  · split at h
    · rename_i h0; cases h; rw [ue_some h0]; rfl
    · cases h
  · cases h
def w40z (N : Nat) (a0 : Int) : Option (Bool) := (w40 N a0).bind w40un
theorem w40fin {N : Nat} (hc : CxOk (w40c N)) {a0 : Int} {d : Bool} (hd : w40z N a0 = some d) : Does Tryd.prog 40 (([.e (.i .i64) a0] : List X).map X.D) (HA []) (w40r0 (d)).1.D (HA (w40r0 (d)).2) := by
  obtain ⟨r, hr, hu⟩ := Option.bind_eq_some_iff.1 hd
  have := w40does hc hr
  rw [w40uo hu] at this
  exact this
def w40p (N : Nat) (a0 : Int) : Bool := (w40z N a0).isSome
def w40y0 (N : Nat) (a0 : Int) : Bool := ((w40z N a0).getD false)
def w40e (N : Nat) : Ent' := E1 (.i .i64)  (fun x0 => (w40p N x0, w40r0 (w40y0 N x0)))
theorem w40re {N : Nat} {a0 : Int} {d : Bool} (hd : w40z N a0 = some d) : w40r0 (w40y0 N a0) = w40r0 (d) := by unfold w40y0; rw [hd]; rfl
theorem w40ok (N : Nat) : EOk Tryd.prog 40 (w40e N) := EOk.e1 (fun x0 h => by
  have h : (w40z N x0).isSome = true := h
  obtain ⟨d, hd⟩ := Option.isSome_iff_exists.1 h
  have f := w40fin (w40cx N) hd
  rw [← w40re hd] at f
  exact f)
def w25r0 (a0 : Int) : Res := (.e (.i .i64) a0, [])
noncomputable def w25L (_ : Nat) : List (Nat × Ent') := []
noncomputable def w25c (N : Nat) : Cx := ⟨Tryd.prog, 99999, w25L N⟩
noncomputable def w25b : Code := Tryd.f25.body.getD .skip
theorem w25cx (N : Nat) : CxOk (w25c N) := ctx_ok (by kernel_rfl) .nil
def w25G [Alg] (_ : Nat)  (n0 : Int) (most1 : Int) : O :=
  br (decide (n0 < (0 : Int)))
    (br (decide (most1 < (1 : Int)))
      (some (w25r0 ((0 : Int))))
      (ck (decide (most1 ≠ (0 : Int))) <|
      some (w25r0 ((IntKind.i64.wrap (-IntKind.i64.wrap (n0 + (1 : Int)))).tmod most1))))
    (br (decide (most1 < (1 : Int)))
      (some (w25r0 ((0 : Int))))
      (ck (decide (most1 ≠ (0 : Int))) <|
      some (w25r0 (n0.tmod most1))))
def w25 [Alg] (N : Nat) (n0 : Int) (most1 : Int) : O := w25G N  n0 most1
noncomputable def w25h [Alg] (_ : Nat) : Hint := .d
theorem w25hk (N : Nat) : HintOk (w25c N) Tryd.f25.ntmps (w25h N) w25b := hk_of _ _ trivial
theorem w25q [Alg] (N : Nat) (n0 : Int) (most1 : Int) : w25G N  n0 most1 = exec (w25c N) Tryd.f25.ntmps (w25h N) w25b ⟨argT 0 [.e (.i .i64) n0, .e (.i .i64) most1], [], 100⟩ (finX (w25c N) Tryd.f25 false) := by kernel_rfl
theorem w25does {N : Nat} (hc : CxOk (w25c N)) {n0 : Int} {most1 : Int} {r : Res} (h : w25 N n0 most1 = some r) : Does Tryd.prog 25 (([.e (.i .i64) n0, .e (.i .i64) most1] : List X).map X.D) (HA []) r.1.D (HA r.2) :=
  fun_ok hc (f := 25) (fn := Tryd.f25) (code := w25b) (by kernel_rfl) (by kernel_rfl) (w25hk N) (Nat.le_of_ble_eq_true (by kernel_rfl)) (ow := false) ((w25q N n0 most1).symm.trans (by exact h))
def w25un (r : Res) : Option (Int) := match r with
  | (x0, []) => (match ue (.i .i64) x0 with | some a0 => some a0 | _ => none)
  | _ => none
theorem w25uo {r : Res} {d : Int} (h : w25un r = some d) : r = w25r0 (d) := by
  unfold w25un at h
  split at h
  · split at h
    · rename_i h0; cases h; rw [ue_some h0]; rfl
    · cases h
  · cases h
def w25z (N : Nat) (n0 : Int) (most1 : Int) : Option (Int) := (w25 N n0 most1).bind w25un
theorem w25fin {N : Nat} (hc : CxOk (w25c N)) {n0 : Int} {most1 : Int} {d : Int} (hd : w25z N n0 most1 = some d) : Does Tryd.prog 25 (([.e (.i .i64) n0, .e (.i .i64) most1] : List X).map X.D) (HA []) (w25r0 (d)).1.D (HA (w25r0 (d)).2) := by
  obtain ⟨r, hr, hu⟩ := Option.bind_eq_some_iff.1 hd
  have := w25does hc hr
  rw [w25uo hu] at this
  exact this
def w25p (N : Nat) (n0 : Int) (most1 : Int) : Bool := (w25z N n0 most1).isSome
def w25y0 (N : Nat) (n0 : Int) (most1 : Int) : Int := ((w25z N n0 most1).getD 0)
def w25e (N : Nat) : Ent' := E2 (.i .i64) (.i .i64)  (fun x0 x1 => (w25p N x0 x1, w25r0 (w25y0 N x0 x1)))
theorem w25re {N : Nat} {n0 : Int} {most1 : Int} {d : Int} (hd : w25z N n0 most1 = some d) : w25r0 (w25y0 N n0 most1) = w25r0 (d) := by unfold w25y0; rw [hd]; rfl
theorem w25ok (N : Nat) : EOk Tryd.prog 25 (w25e N) := EOk.e2 (fun x0 x1 h => by
  have h : (w25z N x0 x1).isSome = true := h
  obtain ⟨d, hd⟩ := Option.isSome_iff_exists.1 h
  have f := w25fin (w25cx N) hd
  rw [← w25re hd] at f
  exact f)
def w34r0 (a0 : Int) : Res := (.e (.i .i64) a0, [])
noncomputable def w34L (N : Nat) : List (Nat × Ent') := [(25, w25e N)]
noncomputable def w34c (N : Nat) : Cx := ⟨Tryd.prog, 99999, w34L N⟩
noncomputable def w34b : Code := Tryd.f34.body.getD .skip
theorem w34cx (N : Nat) : CxOk (w34c N) := ctx_ok (by kernel_rfl) (.cons (by kernel_rfl) (w25ok N) .nil)
def w34G [Alg] (N : Nat)  (l0 : (List Int)) (i1 : Int) (most2 : Int) : O :=
  br (decide (i1 < (0 : Int)) || decide ((↑l0.length : Int) ≤ i1))
    (some (w34r0 ((0 : Int))))
    (gx l0 i1 fun y0 =>
    ck (w25p N y0 most2) <|
    some (w34r0 (w25y0 N y0 most2)))
def w34 [Alg] (N : Nat) (l0 : (List Int)) (i1 : Int) (most2 : Int) : O := w34G N  l0 i1 most2
noncomputable def w34h [Alg] (_ : Nat) : Hint := .d
theorem w34hk (N : Nat) : HintOk (w34c N) Tryd.f34.ntmps (w34h N) w34b := hk_of _ _ trivial
theorem w34q [Alg] (N : Nat) (l0 : (List Int)) (i1 : Int) (most2 : Int) : w34G N  l0 i1 most2 = exec (w34c N) Tryd.f34.ntmps (w34h N) w34b ⟨argT 0 [.e (.sl (.i .i64)) l0, .e (.i .i64) i1, .e (.i .i64) most2], [], 100⟩ (finX (w34c N) Tryd.f34 false) := by kernel_rfl
theorem w34does {N : Nat} (hc : CxOk (w34c N)) {l0 : (List Int)} {i1 : Int} {most2 : Int} {r : Res} (h : w34 N l0 i1 most2 = some r) : Does Tryd.prog 34 (([.e (.sl (.i .i64)) l0, .e (.i .i64) i1, .e (.i .i64) most2] : List X).map X.D) (HA []) r.1.D (HA r.2) :=
  fun_ok hc (f := 34) (fn := Tryd.f34) (code := w34b) (by kernel_rfl) (by kernel_rfl) (w34hk N) (Nat.le_of_ble_eq_true (by kernel_rfl)) (ow := false) ((w34q N l0 i1 most2).symm.trans (by exact h))
def w34un (r : Res) : Option (Int) := match r with
  | (x0, []) => (match ue (.i .i64) x0 with | some a0 => some a0 | _ => none)
  | _ => none
theorem w34uo {r : Res} {d : Int} (h : w34un r = some d) : r = w34r0 (d) := by
  unfold w34un at h
  split at h
  · split at h
    · rename_i h0; cases h; rw [ue_some h0]; rfl
    · cases h
  · cases h
def w34z (N : Nat) (l0 : (List Int)) (i1 : Int) (most2 : Int) : Option (Int) := (w34 N l0 i1 most2).bind w34un
theorem w34fin {N : Nat} (hc : CxOk (w34c N)) {l0 : (List Int)} {i1 : Int} {most2 : Int} {d : Int} (hd : w34z N l0 i1 most2 = some d) : Does Tryd.prog 34 (([.e (.sl (.i .i64)) l0, .e (.i .i64) i1, .e (.i .i64) most2] : List X).map X.D) (HA []) (w34r0 (d)).1.D (HA (w34r0 (d)).2) := by
  obtain ⟨r, hr, hu⟩ := Option.bind_eq_some_iff.1 hd
  have := w34does hc hr
  rw [w34uo hu] at this
  exact this
def w34p (N : Nat) (l0 : (List Int)) (i1 : Int) (most2 : Int) : Bool := (w34z N l0 i1 most2).isSome
def w34y0 (N : Nat) (l0 : (List Int)) (i1 : Int) (most2 : Int) : Int := ((w34z N l0 i1 most2).getD 0)
def w34e (N : Nat) : Ent' := E3 (.sl (.i .i64)) (.i .i64) (.i .i64)  (fun x0 x1 x2 => (w34p N x0 x1 x2, w34r0 (w34y0 N x0 x1 x2)))
theorem w34re {N : Nat} {l0 : (List Int)} {i1 : Int} {most2 : Int} {d : Int} (hd : w34z N l0 i1 most2 = some d) : w34r0 (w34y0 N l0 i1 most2) = w34r0 (d) := by unfold w34y0; rw [hd]; rfl
theorem w34ok (N : Nat) : EOk Tryd.prog 34 (w34e N) := EOk.e3 (fun x0 x1 x2 h => by
  have h : (w34z N x0 x1 x2).isSome = true := h
  obtain ⟨d, hd⟩ := Option.isSome_iff_exists.1 h
  have f := w34fin (w34cx N) hd
  rw [← w34re hd] at f
  exact f)
def w35r0 (a0 : Int) : Res := (.e (.i .i64) a0, [])
noncomputable def w35L (N : Nat) : List (Nat × Ent') := [(25, w25e N)]
noncomputable def w35c (N : Nat) : Cx := ⟨Tryd.prog, 99999, w35L N⟩
noncomputable def w35b : Code := Tryd.f35.body.getD .skip
theorem w35cx (N : Nat) : CxOk (w35c N) := ctx_ok (by kernel_rfl) (.cons (by kernel_rfl) (w25ok N) .nil)
def w35G [Alg] (N : Nat)  (n0 : Int) : O :=
  ck (w25p N n0 (6000000 : Int)) <|
  ck true <|
  ck true <|
  gx [(10 : Int), (100 : Int), (1000 : Int), (100 : Int), (10000 : Int), (1000000 : Int)] ((w25y0 N n0 (6000000 : Int)).tmod (6 : Int)) fun y0 =>
  ck (decide (y0 ≠ (0 : Int))) <|
  some (w35r0 ((IntKind.i64.wrap ((w25y0 N n0 (6000000 : Int)).tdiv (6 : Int))).tmod y0))
def w35 [Alg] (N : Nat) (n0 : Int) : O := w35G N  n0
noncomputable def w35h [Alg] (_ : Nat) : Hint := .d
theorem w35hk (N : Nat) : HintOk (w35c N) Tryd.f35.ntmps (w35h N) w35b := hk_of _ _ trivial
theorem w35q [Alg] (N : Nat) (n0 : Int) : w35G N  n0 = exec (w35c N) Tryd.f35.ntmps (w35h N) w35b ⟨argT 0 [.e (.i .i64) n0], [], 100⟩ (finX (w35c N) Tryd.f35 false) := by kernel_rfl
theorem w35does {N : Nat} (hc : CxOk (w35c N)) {n0 : Int} {r : Res} (h : w35 N n0 = some r) : Does Tryd.prog 35 (([.e (.i .i64) n0] : List X).map X.D) (HA []) r.1.D (HA r.2) :=
  fun_ok hc (f := 35) (fn := Tryd.f35) (code := w35b) (by kernel_rfl) (by kernel_rfl) (w35hk N) (Nat.le_of_ble_eq_true (by kernel_rfl)) (ow := false) ((w35q N n0).symm.trans (by exact h))
def w35un (r : Res) : Option (Int) := match r with
  | (x0, []) => (match ue (.i .i64) x0 with | some a0 => some a0 | _ => none)
  | _ => none
theorem w35uo {r : Res} {d : Int} (h : w35un r = some d) : r = w35r0 (d) := by
  unfold w35un at h
  split at h
  · split at h
    · rename_i h0; cases h; rw [ue_some h0]; rfl
    · cases h
  · cases h
def w35z (N : Nat) (n0 : Int) : Option (Int) := (w35 N n0).bind w35un
theorem w35fin {N : Nat} (hc : CxOk (w35c N)) {n0 : Int} {d : Int} (hd : w35z N n0 = some d) : Does Tryd.prog 35 (([.e (.i .i64) n0] : List X).map X.D) (HA []) (w35r0 (d)).1.D (HA (w35r0 (d)).2) := by
  obtain ⟨r, hr, hu⟩ := Option.bind_eq_some_iff.1 hd
  have := w35does hc hr
  rw [w35uo hu] at this
  exact this
def w35p (N : Nat) (n0 : Int) : Bool := (w35z N n0).isSome
def w35y0 (N : Nat) (n0 : Int) : Int := ((w35z N n0).getD 0)
def w35e (N : Nat) : Ent' := E1 (.i .i64)  (fun x0 => (w35p N x0, w35r0 (w35y0 N x0)))
theorem w35re {N : Nat} {n0 : Int} {d : Int} (hd : w35z N n0 = some d) : w35r0 (w35y0 N n0) = w35r0 (d) := by unfold w35y0; rw [hd]; rfl
theorem w35ok (N : Nat) : EOk Tryd.prog 35 (w35e N) := EOk.e1 (fun x0 h => by
  have h : (w35z N x0).isSome = true := h
  obtain ⟨d, hd⟩ := Option.isSome_iff_exists.1 h
  have f := w35fin (w35cx N) hd
  rw [← w35re hd] at f
  exact f)
def w10r0 (a0 : Int) (a1 : (List Int)) : Res := (.agg [.e (.i .i64) a0, .e (.sl (.i .i64)) a1], [])
noncomputable def w10L (N : Nat) : List (Nat × Ent') := [(34, w34e N), (35, w35e N)]
noncomputable def w10c (N : Nat) : Cx := ⟨Tryd.prog, 99999, w10L N⟩
noncomputable def w10b : Code := Tryd.f10.body.getD .skip
theorem w10cx (N : Nat) : CxOk (w10c N) := ctx_ok (by kernel_rfl) (.cons (by kernel_rfl) (w34ok N) (.cons (by kernel_rfl) (w35ok N) .nil))
def w10F0 [Alg] (N : Nat)   (k0 : (List Int) → Int → Int → Int → O) (x1_0 : (List Int)) (x1_1 : Int) (x1_2 : Int) (x1_3 : Int) : O :=
  br (decide (x1_3 = (3 : Int)))
    (ck (w34p N x1_0 (1 : Int) (5 : Int)) <|
    k0 x1_0 (IntKind.i64.wrap ((2 : Int) + w34y0 N x1_0 (1 : Int) (5 : Int))) x1_2 x1_3)
    (k0 x1_0 x1_1 x1_2 x1_3)
noncomputable def w10b0 : Code := atC [1, 1, 1, 0] w10b
def w10m0 : Nm := ⟨[0, 2, 3, 4], [], []⟩
def w10I0 (x : (List Int) × Int × Int × Int) : Sg := ⟨[(0, .e (.sl (.i .i64)) x.1), (2, .ref 0 0), (3, .ref 1 0), (4, .e (.i .i64) x.2.1)], [(0, .box 24 [.e (.i .i64) x.2.2.1, .nilS]), (1, .box 24 [.e (.i .i64) x.2.2.2, .nilS])], 100⟩
def w10u0 (σ : Sg) : (List Int) × Int × Int × Int := (lvT (.sl (.i .i64)) 0 0 σ, lvT (.i .i64) 4 0 σ, lvH (.i .i64) 0 0 σ, lvH (.i .i64) 1 0 σ)
theorem w10ui0 : ∀ x, w10u0 (w10I0 x) = x := fun _ => by kernel_rfl
def w10X0_0 (y : (List Int) × Int × Int × Int) : Exit × Sg := (.normal, ⟨[(0, .e (.sl (.i .i64)) y.1), (2, .ref 0 0), (3, .ref 1 0), (4, .e (.i .i64) y.2.1)], [(0, .box 24 [.e (.i .i64) y.2.2.1, .nilS]), (1, .box 24 [.e (.i .i64) y.2.2.2, .nilS])], 100⟩)
def w10v0_0 (σ : Sg) : (List Int) × Int × Int × Int := (lvT (.sl (.i .i64)) 0 0 σ, lvT (.i .i64) 4 0 σ, lvH (.i .i64) 0 0 σ, lvH (.i .i64) 1 0 σ)
def w10w0 : List (Exit × Nm) := [(.normal, ⟨[0, 2, 3, 4], [], []⟩)]
theorem w10o0 : Outs w10v0_0 (fun _ => ()) (fun _ => ()) w10X0_0 (noX 1) (noX 2) .normal (.goto 1) (.goto 2) := ⟨fun _ => by kernel_rfl, fun _ => by kernel_rfl, fun _ => by kernel_rfl, fun _ => by kernel_rfl, fun _ => by kernel_rfl, fun _ => by kernel_rfl, exNe_ok (by kernel_rfl), exNe_ok (by kernel_rfl), exNe_ok (by kernel_rfl)⟩
def w10l0 [Alg] (N : Nat) (_ : Nat) (x : (List Int) × Int × Int × Int) (k0 : ((List Int) × Int × Int × Int) → O) (_ : (Unit) → O) (_ : (Unit) → O) : O := w10F0 N   (fun y0 y1 y2 y3 => k0 (y0, y1, y2, y3)) x.1 x.2.1 x.2.2.1 x.2.2.2
def w10n0 [Alg] (N : Nat) (a0 : (List Int)) (a1 : Int) (a2 : Int) (a3 : Int) (k0 : (List Int) → Int → Int → Int → O) : O := w10l0 N N (a0, a1, a2, a3) (fun y => k0 y.1 y.2.1 y.2.2.1 y.2.2.2) (fun _ => none) (fun _ => none)
noncomputable def w10s0 [Alg] (N : Nat) (a0 : (List Int)) (a1 : Int) (a2 : Int) (a3 : Int) (k0 : (List Int) → Int → Int → Int → O) : O := subL w10I0 w10u0 (w10l0 N N) (w10I0 (a0, a1, a2, a3)) (fun y => k0 y.1 y.2.1 y.2.2.1 y.2.2.2) (fun _ => none) (fun _ => none)
theorem w10e0 [Alg] (N : Nat) : w10s0 N = w10n0 N := funext fun _ => funext fun _ => funext fun _ => funext fun _ => funext fun _ => subL_I w10ui0 _ _ _ _
noncomputable def w10h0 [Alg] (_ : Nat) : Hint := .d
theorem w10hk0 (N : Nat) : HintOk (w10c N) Tryd.f10.ntmps (w10h0 N) w10b0 := hk_of _ _ trivial
theorem w10q0 [Alg] (N : Nat) (K : Exit → Sg → O) (x : (List Int) × Int × Int × Int) : w10F0 N   (fun y0 y1 y2 y3 => K (w10X0_0 (y0, y1, y2, y3)).1 (w10X0_0 (y0, y1, y2, y3)).2) x.1 x.2.1 x.2.2.1 x.2.2.2 = exec (w10c N) Tryd.f10.ntmps (w10h0 N) w10b0 (w10I0 x) (partX w10w0 K) := by kernel_rfl
theorem w10S0 (N : Nat) (hc : CxOk (w10c N)) : SubOk (w10c N) Tryd.f10.ntmps w10b0 w10X0_0 (noX 1) (noX 2) (subL w10I0 w10u0 (w10l0 N N)) :=
  sub_part hc (w10hk0 N) w10o0 (fun x K => by
    have h : w10F0 N   (fun y0 y1 y2 y3 => K (w10X0_0 (y0, y1, y2, y3)).1 (w10X0_0 (y0, y1, y2, y3)).2) x.1 x.2.1 x.2.2.1 x.2.2.2 = w10F0 N   (fun y0 y1 y2 y3 => K (w10X0_0 (y0, y1, y2, y3)).1 (w10X0_0 (y0, y1, y2, y3)).2) x.1 x.2.1 x.2.2.1 x.2.2.2 := by rfl
    exact h.trans (w10q0 N K x))
def w10F1 [Alg] (N : Nat)  (self : Int → (List Int) → O) (k0 : Int → Int → (List Int) → O) (x6_0 : (List Int)) (x6_1 : Int) (x6_3 : Int) (x6_4 : Int) (x6_2 : Int) (x6_5 : (List Int)) : O :=
  br (decide (x6_2 < x6_1))
    (ck (w34p N x6_0 (IntKind.i64.wrap ((2 : Int) + x6_2)) (6000000 : Int)) <|
    ck (w35p N (w34y0 N x6_0 (IntKind.i64.wrap ((2 : Int) + x6_2)) (6000000 : Int))) <|
    ck (lim (x6_5 ++ [w35y0 N (w34y0 N x6_0 (IntKind.i64.wrap ((2 : Int) + x6_2)) (6000000 : Int))]).length (8 : Nat)) <|
    self (IntKind.i64.wrap (x6_2 + (1 : Int))) (x6_5 ++ [w35y0 N (w34y0 N x6_0 (IntKind.i64.wrap ((2 : Int) + x6_2)) (6000000 : Int))]))
    (k0 x6_3 x6_4 x6_5)
noncomputable def w10b1 : Code := atC [1, 1, 1, 1, 0, 1, 0, 0] w10b
def w10m1 : Nm := ⟨[0, 2, 3, 4, 5], [], [.nilC 3 1 (.row 3 (.i .i64) [] false)]⟩
def w10I1 (x : (List Int) × Int × Int × Int × Int × (List Int)) : Sg := ⟨[(0, .e (.sl (.i .i64)) x.1), (2, .ref 0 0), (3, .ref 1 0), (4, .e (.i .i64) x.2.1), (5, .e (.i .i64) x.2.2.1)], [(0, .box 24 [.e (.i .i64) x.2.2.2.1, .nilS]), (1, .box 24 [.e (.i .i64) x.2.2.2.2.1, .own 2]), (2, .row 3 (.i .i64) x.2.2.2.2.2 false)], 100⟩
def w10u1 (σ : Sg) : (List Int) × Int × Int × Int × Int × (List Int) := (lvT (.sl (.i .i64)) 0 0 σ, lvT (.i .i64) 4 0 σ, lvT (.i .i64) 5 0 σ, lvH (.i .i64) 0 0 σ, lvH (.i .i64) 1 0 σ, lvR (.i .i64) 2 σ)
theorem w10ui1 : ∀ x, w10u1 (w10I1 x) = x := fun _ => by kernel_rfl
def w10X1_0 (y : Int × Int × (List Int)) : Exit × Sg := ((.exit 0), ⟨[(2, .ref 0 0), (3, .ref 1 0)], [(0, .box 24 [.e (.i .i64) y.1, .nilS]), (1, .box 24 [.e (.i .i64) y.2.1, .own 2]), (2, .row 3 (.i .i64) y.2.2 false)], 100⟩)
def w10v1_0 (σ : Sg) : Int × Int × (List Int) := (lvH (.i .i64) 0 0 σ, lvH (.i .i64) 1 0 σ, lvR (.i .i64) 2 σ)
def w10w1 : List (Exit × Nm) := [((.exit 0), ⟨[2, 3], [], []⟩)]
theorem w10o1 : Outs w10v1_0 (fun _ => ()) (fun _ => ()) w10X1_0 (noX 1) (noX 2) (.exit 0) (.goto 1) (.goto 2) := ⟨fun _ => by kernel_rfl, fun _ => by kernel_rfl, fun _ => by kernel_rfl, fun _ => by kernel_rfl, fun _ => by kernel_rfl, fun _ => by kernel_rfl, exNe_ok (by kernel_rfl), exNe_ok (by kernel_rfl), exNe_ok (by kernel_rfl)⟩
def w10l1 [Alg] (N : Nat) : Nat → ((List Int) × Int × Int × Int × Int × (List Int)) → ((Int × Int × (List Int)) → O) → ((Unit) → O) → ((Unit) → O) → O
  | 0, _, _, _, _ => none
  | n + 1, x, k0, k1, k2 => w10F1 N  (fun v0 v1 => w10l1 N n (x.1, x.2.1, v0, x.2.2.2.1, x.2.2.2.2.1, v1) k0 k1 k2) (fun y0 y1 y2 => k0 (y0, y1, y2)) x.1 x.2.1 x.2.2.2.1 x.2.2.2.2.1 x.2.2.1 x.2.2.2.2.2
def w10n1 [Alg] (N : Nat) (a0 : (List Int)) (a1 : Int) (a2 : Int) (a3 : Int) (a4 : Int) (a5 : (List Int)) (k0 : Int → Int → (List Int) → O) : O := w10l1 N N (a0, a1, a2, a3, a4, a5) (fun y => k0 y.1 y.2.1 y.2.2) (fun _ => none) (fun _ => none)
noncomputable def w10s1 [Alg] (N : Nat) (a0 : (List Int)) (a1 : Int) (a2 : Int) (a3 : Int) (a4 : Int) (a5 : (List Int)) (k0 : Int → Int → (List Int) → O) : O := subL w10I1 w10u1 (w10l1 N N) (w10I1 (a0, a1, a2, a3, a4, a5)) (fun y => k0 y.1 y.2.1 y.2.2) (fun _ => none) (fun _ => none)
theorem w10e1 [Alg] (N : Nat) : w10s1 N = w10n1 N := funext fun _ => funext fun _ => funext fun _ => funext fun _ => funext fun _ => funext fun _ => funext fun _ => subL_I w10ui1 _ _ _ _
noncomputable def w10h1 [Alg] (_ : Nat) : Hint := (.seq .d (.seq (.block (.reg [7, 8] [] [[], [], [], [], [], [], [], [], [188, 2], [], [1]])) .d))
theorem w10hk1 (N : Nat) : HintOk (w10c N) Tryd.f10.ntmps (w10h1 N) w10b1 := hk_of _ _ (And.intro trivial (And.intro trivial trivial))
theorem w10q1 [Alg] (N : Nat) (self : Sg → O) (K : Exit → Sg → O) (x : (List Int) × Int × Int × Int × Int × (List Int)) : w10F1 N  (fun v0 v1 => self (w10I1 (x.1, x.2.1, v0, x.2.2.2.1, x.2.2.2.2.1, v1))) (fun y0 y1 y2 => K (w10X1_0 (y0, y1, y2)).1 (w10X1_0 (y0, y1, y2)).2) x.1 x.2.1 x.2.2.2.1 x.2.2.2.2.1 x.2.2.1 x.2.2.2.2.2 = exec (w10c N) Tryd.f10.ntmps (w10h1 N) w10b1 (w10I1 x) (roundX w10m1 w10w1 self K) := by kernel_rfl
theorem w10S1 (N : Nat) (hc : CxOk (w10c N)) : SubOk (w10c N) Tryd.f10.ntmps (.loop w10b1) w10X1_0 (noX 1) (noX 2) (subL w10I1 w10u1 (w10l1 N N)) :=
  sub_loop hc (w10hk1 N) w10o1 (n := N) (fun x K => loop_ind (w10l1 N) (fun _ _ _ _ => rfl) (fun n K ih x => by
    have h : w10F1 N  (fun v0 v1 => w10l1 N n (x.1, x.2.1, v0, x.2.2.2.1, x.2.2.2.2.1, v1) (fun y => K (w10X1_0 y).1 (w10X1_0 y).2) (fun y => K ((noX 1) y).1 ((noX 1) y).2) (fun y => K ((noX 2) y).1 ((noX 2) y).2)) (fun y0 y1 y2 => K (w10X1_0 (y0, y1, y2)).1 (w10X1_0 (y0, y1, y2)).2) x.1 x.2.1 x.2.2.2.1 x.2.2.2.2.1 x.2.2.1 x.2.2.2.2.2 = w10F1 N  (fun v0 v1 => loopX (w10c N) Tryd.f10.ntmps (w10h1 N) w10b1 w10m1 w10w1 n (w10I1 (x.1, x.2.1, v0, x.2.2.2.1, x.2.2.2.2.1, v1)) K) (fun y0 y1 y2 => K (w10X1_0 (y0, y1, y2)).1 (w10X1_0 (y0, y1, y2)).2) x.1 x.2.1 x.2.2.2.1 x.2.2.2.2.1 x.2.2.1 x.2.2.2.2.2 := by rw [ show (fun v0 v1 => w10l1 N n (x.1, x.2.1, v0, x.2.2.2.1, x.2.2.2.2.1, v1) (fun y => K (w10X1_0 y).1 (w10X1_0 y).2) (fun y => K ((noX 1) y).1 ((noX 1) y).2) (fun y => K ((noX 2) y).1 ((noX 2) y).2)) = (fun v0 v1 => loopX (w10c N) Tryd.f10.ntmps (w10h1 N) w10b1 w10m1 w10w1 n (w10I1 (x.1, x.2.1, v0, x.2.2.2.1, x.2.2.2.2.1, v1)) K) from funext fun _ => funext fun _ => ih _]
    exact h.trans (w10q1 N (fun σ => loopX (w10c N) Tryd.f10.ntmps (w10h1 N) w10b1 w10m1 w10w1 n σ K) K x)) N x K)
def w10F2 [Alg] (_ : Nat)   (k0 : Int → Int → (List Int) → O) (x10_0 : Int) (x10_1 : Int) (x10_2 : (List Int)) : O :=
  ck (!decide (x10_1 = (4 : Int)) || decide ((0 : Int) ≤ (0 : Int) ∧ (0 : Int) < (↑x10_2.length : Int))) <|
  gn x10_2 ((0 : Nat)) fun y19 =>
  ck (!decide (x10_1 = (4 : Int)) || decide ((0 : Int) ≤ (1 : Int) ∧ (1 : Int) < (↑x10_2.length : Int))) <|
  gn x10_2 ((1 : Nat)) fun y20 =>
  br (decide (x10_1 = (4 : Int)) && decide (y19 < y20))
    (ck (decide ((0 : Int) ≤ (1 : Int) ∧ (1 : Int) < (↑x10_2.length : Int))) <|
    gn x10_2 ((1 : Nat)) fun y21 =>
    ck (decide ((0 : Int) ≤ (0 : Int) ∧ (0 : Int) < (↑x10_2.length : Int))) <|
    gn x10_2 ((0 : Nat)) fun y22 =>
    k0 x10_0 x10_1 [y21, y22])
    (k0 x10_0 x10_1 x10_2)
noncomputable def w10b2 : Code := atC [1, 1, 1, 1, 1, 0] w10b
def w10m2 : Nm := ⟨[2, 3], [], []⟩
def w10I2 (x : Int × Int × (List Int)) : Sg := ⟨[(2, .ref 0 0), (3, .ref 1 0)], [(0, .box 24 [.e (.i .i64) x.1, .nilS]), (1, .box 24 [.e (.i .i64) x.2.1, .own 2]), (2, .row 3 (.i .i64) x.2.2 false)], 100⟩
def w10u2 (σ : Sg) : Int × Int × (List Int) := (lvH (.i .i64) 0 0 σ, lvH (.i .i64) 1 0 σ, lvR (.i .i64) 2 σ)
theorem w10ui2 : ∀ x, w10u2 (w10I2 x) = x := fun _ => by kernel_rfl
def w10X2_0 (y : Int × Int × (List Int)) : Exit × Sg := (.normal, ⟨[(2, .ref 0 0), (3, .ref 1 0)], [(0, .box 24 [.e (.i .i64) y.1, .nilS]), (1, .box 24 [.e (.i .i64) y.2.1, .own 2]), (2, .row 3 (.i .i64) y.2.2 false)], 100⟩)
def w10v2_0 (σ : Sg) : Int × Int × (List Int) := (lvH (.i .i64) 0 0 σ, lvH (.i .i64) 1 0 σ, lvR (.i .i64) 2 σ)
def w10w2 : List (Exit × Nm) := [(.normal, ⟨[2, 3], [], []⟩)]
theorem w10o2 : Outs w10v2_0 (fun _ => ()) (fun _ => ()) w10X2_0 (noX 1) (noX 2) .normal (.goto 1) (.goto 2) := ⟨fun _ => by kernel_rfl, fun _ => by kernel_rfl, fun _ => by kernel_rfl, fun _ => by kernel_rfl, fun _ => by kernel_rfl, fun _ => by kernel_rfl, exNe_ok (by kernel_rfl), exNe_ok (by kernel_rfl), exNe_ok (by kernel_rfl)⟩
def w10l2 [Alg] (N : Nat) (_ : Nat) (x : Int × Int × (List Int)) (k0 : (Int × Int × (List Int)) → O) (_ : (Unit) → O) (_ : (Unit) → O) : O := w10F2 N   (fun y0 y1 y2 => k0 (y0, y1, y2)) x.1 x.2.1 x.2.2
def w10n2 [Alg] (N : Nat) (a0 : Int) (a1 : Int) (a2 : (List Int)) (k0 : Int → Int → (List Int) → O) : O := w10l2 N N (a0, a1, a2) (fun y => k0 y.1 y.2.1 y.2.2) (fun _ => none) (fun _ => none)
noncomputable def w10s2 [Alg] (N : Nat) (a0 : Int) (a1 : Int) (a2 : (List Int)) (k0 : Int → Int → (List Int) → O) : O := subL w10I2 w10u2 (w10l2 N N) (w10I2 (a0, a1, a2)) (fun y => k0 y.1 y.2.1 y.2.2) (fun _ => none) (fun _ => none)
theorem w10e2 [Alg] (N : Nat) : w10s2 N = w10n2 N := funext fun _ => funext fun _ => funext fun _ => funext fun _ => subL_I w10ui2 _ _ _ _
noncomputable def w10h2 [Alg] (_ : Nat) : Hint := (.seq .d (.cond (.reg [8] [] [[], [], [], [], [], [], [], [], [], [], [1]]) .d))
theorem w10hk2 (N : Nat) : HintOk (w10c N) Tryd.f10.ntmps (w10h2 N) w10b2 := hk_of _ _ (And.intro trivial (And.intro trivial trivial))
theorem w10q2 [Alg] (N : Nat) (K : Exit → Sg → O) (x : Int × Int × (List Int)) : w10F2 N   (fun y0 y1 y2 => K (w10X2_0 (y0, y1, y2)).1 (w10X2_0 (y0, y1, y2)).2) x.1 x.2.1 x.2.2 = exec (w10c N) Tryd.f10.ntmps (w10h2 N) w10b2 (w10I2 x) (partX w10w2 K) := by kernel_rfl
theorem w10S2 (N : Nat) (hc : CxOk (w10c N)) : SubOk (w10c N) Tryd.f10.ntmps w10b2 w10X2_0 (noX 1) (noX 2) (subL w10I2 w10u2 (w10l2 N N)) :=
  sub_part hc (w10hk2 N) w10o2 (fun x K => by
    have h : w10F2 N   (fun y0 y1 y2 => K (w10X2_0 (y0, y1, y2)).1 (w10X2_0 (y0, y1, y2)).2) x.1 x.2.1 x.2.2 = w10F2 N   (fun y0 y1 y2 => K (w10X2_0 (y0, y1, y2)).1 (w10X2_0 (y0, y1, y2)).2) x.1 x.2.1 x.2.2 := by rfl
    exact h.trans (w10q2 N K x))
def w10G [Alg] (N : Nat) (in0 : (List Int) → Int → Int → Int → ((List Int) → Int → Int → Int → O) → O) (in1 : (List Int) → Int → Int → Int → Int → (List Int) → (Int → Int → (List Int) → O) → O) (in2 : Int → Int → (List Int) → (Int → Int → (List Int) → O) → O) (l0 : (List Int)) : O :=
  ck (w34p N l0 (0 : Int) (4 : Int)) <|
  ck (decide ((0 : Int) ≤ w34y0 N l0 (0 : Int) (4 : Int) ∧ w34y0 N l0 (0 : Int) (4 : Int) < (4 : Int))) <|
  gn [(3 : Int), (4 : Int), (5 : Int), (6 : Int)] ((w34y0 N l0 (0 : Int) (4 : Int)).toNat) fun y0 =>
  in0 l0 ((2 : Int)) ((0 : Int)) y0
    (fun z2 z3 z4 z5 =>
      in1 z2 z3 ((0 : Int)) z4 z5 []
        (fun z7 z8 z9 =>
          in2 z7 z8 z9
            (fun _ z24 z25 =>
              ck (!decide (z24 = (6 : Int)) || decide ((0 : Int) ≤ (1 : Int) ∧ (1 : Int) < (↑z25.length : Int))) <|
              gn z25 ((1 : Nat)) fun y26 =>
              br (decide (z24 = (6 : Int)) && decide (y26 = (0 : Int)))
                (ck (decide ((0 : Int) ≤ (1 : Int) ∧ (1 : Int) < (↑z25.length : Int))) <|
                gn z25 ((1 : Nat)) fun _ =>
                some (w10r0 z24 (z25.set (1 : Nat) (7 : Int))))
                (some (w10r0 z24 z25)))))
def w10 [Alg] (N : Nat) (l0 : (List Int)) : O := w10G N (w10n0 N) (w10n1 N) (w10n2 N) l0
noncomputable def w10h [Alg] (N : Nat) : Hint := (.seq .d (.seq (.reg [0] [] []) (.seq .d (.seq (.sub w10m0 _ _ _ w10X0_0 (noX 1) (noX 2) (subL w10I0 w10u0 (w10l0 N N))) (.seq (.seq .d (.block (.sub w10m1 _ _ _ w10X1_0 (noX 1) (noX 2) (subL w10I1 w10u1 (w10l1 N N))))) (.seq (.sub w10m2 _ _ _ w10X2_0 (noX 1) (noX 2) (subL w10I2 w10u2 (w10l2 N N))) .d))))))
theorem w10hk (N : Nat) (hc : CxOk (w10c N)) : HintOk (w10c N) Tryd.f10.ntmps (w10h N) w10b := hk_of _ _ (And.intro trivial (And.intro trivial (And.intro trivial (And.intro (w10S0 N hc) (And.intro (And.intro trivial (w10S1 N hc)) (And.intro (w10S2 N hc) trivial))))))
theorem w10q [Alg] (N : Nat) (l0 : (List Int)) : w10G N (w10s0 N) (w10s1 N) (w10s2 N) l0 = exec (w10c N) Tryd.f10.ntmps (w10h N) w10b ⟨argT 0 [.e (.sl (.i .i64)) l0], [], 100⟩ (finX (w10c N) Tryd.f10 false) := by kernel_rfl
theorem w10does {N : Nat} (hc : CxOk (w10c N)) {l0 : (List Int)} {r : Res} (h : w10 N l0 = some r) : Does Tryd.prog 10 (([.e (.sl (.i .i64)) l0] : List X).map X.D) (HA []) r.1.D (HA r.2) :=
  fun_ok hc (f := 10) (fn := Tryd.f10) (code := w10b) (by kernel_rfl) (by kernel_rfl) (w10hk N hc) (Nat.le_of_ble_eq_true (by kernel_rfl)) (ow := false) ((w10q N l0).symm.trans (by rw [w10e0 N, w10e1 N, w10e2 N]; exact h))
def w10un (r : Res) : Option (Int × (List Int)) := match r with
  | (.agg [x0, x1], []) => (match ue (.i .i64) x0, ue (.sl (.i .i64)) x1 with | some a0, some a1 => some (a0, a1) | _, _ => none)
  | _ => none
theorem w10uo {r : Res} {d : Int × (List Int)} (h : w10un r = some d) : r = w10r0 (d.1) (d.2) := by
  unfold w10un at h
  split at h
  · split at h
    · rename_i h0 h1; cases h; rw [ue_some h0, ue_some h1]; rfl
    · cases h
  · cases h
def w10z (N : Nat) (l0 : (List Int)) : Option (Int × (List Int)) := (w10 N l0).bind w10un
theorem w10fin {N : Nat} (hc : CxOk (w10c N)) {l0 : (List Int)} {d : Int × (List Int)} (hd : w10z N l0 = some d) : Does Tryd.prog 10 (([.e (.sl (.i .i64)) l0] : List X).map X.D) (HA []) (w10r0 (d.1) (d.2)).1.D (HA (w10r0 (d.1) (d.2)).2) := by
  obtain ⟨r, hr, hu⟩ := Option.bind_eq_some_iff.1 hd
  have := w10does hc hr
  rw [w10uo hu] at this
  exact this
def w10p (N : Nat) (l0 : (List Int)) : Bool := (w10z N l0).isSome
def w10y0 (N : Nat) (l0 : (List Int)) : Int := ((w10z N l0).getD (0, [])).1
def w10y1 (N : Nat) (l0 : (List Int)) : (List Int) := ((w10z N l0).getD (0, [])).2
def w10e (N : Nat) : Ent' := E1 (.sl (.i .i64))  (fun x0 => (w10p N x0, w10r0 (w10y0 N x0) (w10y1 N x0)))
theorem w10re {N : Nat} {l0 : (List Int)} {d : Int × (List Int)} (hd : w10z N l0 = some d) : w10r0 (w10y0 N l0) (w10y1 N l0) = w10r0 (d.1) (d.2) := by unfold w10y0 w10y1; rw [hd]; rfl
theorem w10ok (N : Nat) : EOk Tryd.prog 10 (w10e N) := EOk.e1 (fun x0 h => by
  have h : (w10z N x0).isSome = true := h
  obtain ⟨d, hd⟩ := Option.isSome_iff_exists.1 h
  have f := w10fin (w10cx N) hd
  rw [← w10re hd] at f
  exact f)
def w61r0 (a0 : Int) : Res := (.e (.i .i64) a0, [])
noncomputable def w61L (N : Nat) : List (Nat × Ent') := [(40, w40e N)]
noncomputable def w61c (N : Nat) : Cx := ⟨Tryd.prog, 99999, w61L N⟩
noncomputable def w61b : Code := Tryd.f61.body.getD .skip
theorem w61cx (N : Nat) : CxOk (w61c N) := ctx_ok (by kernel_rfl) (.cons (by kernel_rfl) (w40ok N) .nil)
def w61F0 [Alg] (N : Nat)  (self : Int → O) (k0 : Int → O) (k1 : Int → O) (x0_0 : (List Int)) (x0_1 : Int) (x0_2 : Int) (x0_3 : Int) : O :=
  br (decide (x0_3 < x0_2))
    (gx x0_0 x0_3 fun y3 =>
    ck (w40p N y3) <|
    br (w40y0 N y3)
      (k0 x0_3)
      (self (IntKind.i64.wrap (x0_3 + (1 : Int)))))
    (k1 x0_1)
noncomputable def w61b0 : Code := atC [1, 0, 1, 0, 0] w61b
def w61m0 : Nm := ⟨[0, 1, 4, 7, 8], [], []⟩
def w61I0 (x : (List Int) × Int × Int × Int) : Sg := ⟨[(0, .e (.sl (.i .i64)) x.1), (1, .fn 40 []), (4, .e (.i .i64) x.2.1), (7, .e (.i .i64) x.2.2.1), (8, .e (.i .i64) x.2.2.2)], [], 100⟩
def w61u0 (σ : Sg) : (List Int) × Int × Int × Int := (lvT (.sl (.i .i64)) 0 0 σ, lvT (.i .i64) 4 0 σ, lvT (.i .i64) 7 0 σ, lvT (.i .i64) 8 0 σ)
theorem w61ui0 : ∀ x, w61u0 (w61I0 x) = x := fun _ => by kernel_rfl
def w61X0_0 (y : Int) : Exit × Sg := (.ret, ⟨[(4, .e (.i .i64) y)], [], 100⟩)
def w61v0_0 (σ : Sg) : Int := lvT (.i .i64) 4 0 σ
def w61X0_1 (y : Int) : Exit × Sg := ((.exit 0), ⟨[(4, .e (.i .i64) y)], [], 100⟩)
def w61v0_1 (σ : Sg) : Int := lvT (.i .i64) 4 0 σ
def w61w0 : List (Exit × Nm) := [(.ret, ⟨[4], [], []⟩), ((.exit 0), ⟨[4], [], []⟩)]
theorem w61o0 : Outs w61v0_0 w61v0_1 (fun _ => ()) w61X0_0 w61X0_1 (noX 2) .ret (.exit 0) (.goto 2) := ⟨fun _ => by kernel_rfl, fun _ => by kernel_rfl, fun _ => by kernel_rfl, fun _ => by kernel_rfl, fun _ => by kernel_rfl, fun _ => by kernel_rfl, exNe_ok (by kernel_rfl), exNe_ok (by kernel_rfl), exNe_ok (by kernel_rfl)⟩
def w61l0 [Alg] (N : Nat) : Nat → ((List Int) × Int × Int × Int) → ((Int) → O) → ((Int) → O) → ((Unit) → O) → O
  | 0, _, _, _, _ => none
  | n + 1, x, k0, k1, k2 => w61F0 N  (fun v0 => w61l0 N n (x.1, x.2.1, x.2.2.1, v0) k0 k1 k2) (fun y0 => k0 y0) (fun y0 => k1 y0) x.1 x.2.1 x.2.2.1 x.2.2.2
def w61n0 [Alg] (N : Nat) (a0 : (List Int)) (a1 : Int) (a2 : Int) (a3 : Int) (k0 : Int → O) (k1 : Int → O) : O := w61l0 N N (a0, a1, a2, a3) (fun y => k0 y) (fun y => k1 y) (fun _ => none)
noncomputable def w61s0 [Alg] (N : Nat) (a0 : (List Int)) (a1 : Int) (a2 : Int) (a3 : Int) (k0 : Int → O) (k1 : Int → O) : O := subL w61I0 w61u0 (w61l0 N N) (w61I0 (a0, a1, a2, a3)) (fun y => k0 y) (fun y => k1 y) (fun _ => none)
theorem w61e0 [Alg] (N : Nat) : w61s0 N = w61n0 N := funext fun _ => funext fun _ => funext fun _ => funext fun _ => funext fun _ => funext fun _ => subL_I w61ui0 _ _ _ _
noncomputable def w61h0 [Alg] (_ : Nat) : Hint := .d
theorem w61hk0 (N : Nat) : HintOk (w61c N) Tryd.f61.ntmps (w61h0 N) w61b0 := hk_of _ _ trivial
theorem w61q0 [Alg] (N : Nat) (self : Sg → O) (K : Exit → Sg → O) (x : (List Int) × Int × Int × Int) : w61F0 N  (fun v0 => self (w61I0 (x.1, x.2.1, x.2.2.1, v0))) (fun y0 => K (w61X0_0 y0).1 (w61X0_0 y0).2) (fun y0 => K (w61X0_1 y0).1 (w61X0_1 y0).2) x.1 x.2.1 x.2.2.1 x.2.2.2 = exec (w61c N) Tryd.f61.ntmps (w61h0 N) w61b0 (w61I0 x) (roundX w61m0 w61w0 self K) := by kernel_rfl
theorem w61S0 (N : Nat) (hc : CxOk (w61c N)) : SubOk (w61c N) Tryd.f61.ntmps (.loop w61b0) w61X0_0 w61X0_1 (noX 2) (subL w61I0 w61u0 (w61l0 N N)) :=
  sub_loop hc (w61hk0 N) w61o0 (n := N) (fun x K => loop_ind (w61l0 N) (fun _ _ _ _ => rfl) (fun n K ih x => by
    have h : w61F0 N  (fun v0 => w61l0 N n (x.1, x.2.1, x.2.2.1, v0) (fun y => K (w61X0_0 y).1 (w61X0_0 y).2) (fun y => K (w61X0_1 y).1 (w61X0_1 y).2) (fun y => K ((noX 2) y).1 ((noX 2) y).2)) (fun y0 => K (w61X0_0 y0).1 (w61X0_0 y0).2) (fun y0 => K (w61X0_1 y0).1 (w61X0_1 y0).2) x.1 x.2.1 x.2.2.1 x.2.2.2 = w61F0 N  (fun v0 => loopX (w61c N) Tryd.f61.ntmps (w61h0 N) w61b0 w61m0 w61w0 n (w61I0 (x.1, x.2.1, x.2.2.1, v0)) K) (fun y0 => K (w61X0_0 y0).1 (w61X0_0 y0).2) (fun y0 => K (w61X0_1 y0).1 (w61X0_1 y0).2) x.1 x.2.1 x.2.2.1 x.2.2.2 := by rw [ show (fun v0 => w61l0 N n (x.1, x.2.1, x.2.2.1, v0) (fun y => K (w61X0_0 y).1 (w61X0_0 y).2) (fun y => K (w61X0_1 y).1 (w61X0_1 y).2) (fun y => K ((noX 2) y).1 ((noX 2) y).2)) = (fun v0 => loopX (w61c N) Tryd.f61.ntmps (w61h0 N) w61b0 w61m0 w61w0 n (w61I0 (x.1, x.2.1, x.2.2.1, v0)) K) from funext fun _ => ih _]
    exact h.trans (w61q0 N (fun σ => loopX (w61c N) Tryd.f61.ntmps (w61h0 N) w61b0 w61m0 w61w0 n σ K) K x)) N x K)
def w61G [Alg] (_ : Nat) (in0 : (List Int) → Int → Int → Int → (Int → O) → (Int → O) → O) (s0 : (List Int)) : O :=
  in0 s0 ((0 : Int)) ((↑s0.length : Int)) ((0 : Int))
    (fun z4 =>
      some (w61r0 z4))
    (fun _ =>
      some (w61r0 ((-1 : Int))))
def w61 [Alg] (N : Nat) (s0 : (List Int)) : O := w61G N (w61n0 N) s0
noncomputable def w61h [Alg] (N : Nat) : Hint := (.seq .d (.seq (.seq .d (.block (.sub w61m0 _ _ _ w61X0_0 w61X0_1 (noX 2) (subL w61I0 w61u0 (w61l0 N N))))) .d))
theorem w61hk (N : Nat) (hc : CxOk (w61c N)) : HintOk (w61c N) Tryd.f61.ntmps (w61h N) w61b := hk_of _ _ (And.intro trivial (And.intro (And.intro trivial (w61S0 N hc)) trivial))
theorem w61q [Alg] (N : Nat) (s0 : (List Int)) : w61G N (w61s0 N) s0 = exec (w61c N) Tryd.f61.ntmps (w61h N) w61b ⟨argT 0 [.e (.sl (.i .i64)) s0, .fn 40 []], [], 100⟩ (finX (w61c N) Tryd.f61 false) := by kernel_rfl
theorem w61does {N : Nat} (hc : CxOk (w61c N)) {s0 : (List Int)} {r : Res} (h : w61 N s0 = some r) : Does Tryd.prog 61 (([.e (.sl (.i .i64)) s0, .fn 40 []] : List X).map X.D) (HA []) r.1.D (HA r.2) :=
  fun_ok hc (f := 61) (fn := Tryd.f61) (code := w61b) (by kernel_rfl) (by kernel_rfl) (w61hk N hc) (Nat.le_of_ble_eq_true (by kernel_rfl)) (ow := false) ((w61q N s0).symm.trans (by rw [w61e0 N]; exact h))
def w61un (r : Res) : Option (Int) := match r with
  | (x0, []) => (match ue (.i .i64) x0 with | some a0 => some a0 | _ => none)
  | _ => none
theorem w61uo {r : Res} {d : Int} (h : w61un r = some d) : r = w61r0 (d) := by
  unfold w61un at h
  split at h
  · split at h
    · rename_i h0; cases h; rw [ue_some h0]; rfl
    · cases h
  · cases h
def w61z (N : Nat) (s0 : (List Int)) : Option (Int) := (w61 N s0).bind w61un
theorem w61fin {N : Nat} (hc : CxOk (w61c N)) {s0 : (List Int)} {d : Int} (hd : w61z N s0 = some d) : Does Tryd.prog 61 (([.e (.sl (.i .i64)) s0, .fn 40 []] : List X).map X.D) (HA []) (w61r0 (d)).1.D (HA (w61r0 (d)).2) := by
  obtain ⟨r, hr, hu⟩ := Option.bind_eq_some_iff.1 hd
  have := w61does hc hr
  rw [w61uo hu] at this
  exact this
def w61p (N : Nat) (s0 : (List Int)) : Bool := (w61z N s0).isSome
def w61y0 (N : Nat) (s0 : (List Int)) : Int := ((w61z N s0).getD 0)
def w61e (N : Nat) : Ent' := Ef1 (.sl (.i .i64)) 40 (fun x0 => (w61p N x0, w61r0 (w61y0 N x0)))
theorem w61re {N : Nat} {s0 : (List Int)} {d : Int} (hd : w61z N s0 = some d) : w61r0 (w61y0 N s0) = w61r0 (d) := by unfold w61y0; rw [hd]; rfl
theorem w61ok (N : Nat) : EOk Tryd.prog 61 (w61e N) := EOk.f1 (fun x0 h => by
  have h : (w61z N x0).isSome = true := h
  obtain ⟨d, hd⟩ := Option.isSome_iff_exists.1 h
  have f := w61fin (w61cx N) hd
  rw [← w61re hd] at f
  exact f)
def w39r0 (a0 : Bool) : Res := (.e .bo a0, [])
noncomputable def w39L (N : Nat) : List (Nat × Ent') := [(61, w61e N)]
noncomputable def w39c (N : Nat) : Cx := ⟨Tryd.prog, 99999, w39L N⟩
noncomputable def w39b : Code := Tryd.f39.body.getD .skip
theorem w39cx (N : Nat) : CxOk (w39c N) := ctx_ok (by kernel_rfl) (.cons (by kernel_rfl) (w61ok N) .nil)
def w39G [Alg] (N : Nat)  (s0 : (List Int)) : O :=
  ck (w61p N s0) <|
  some (w39r0 (decide ((0 : Int) ≤ w61y0 N s0)))
def w39 [Alg] (N : Nat) (s0 : (List Int)) : O := w39G N  s0
noncomputable def w39h [Alg] (_ : Nat) : Hint := .d
theorem w39hk (N : Nat) : HintOk (w39c N) Tryd.f39.ntmps (w39h N) w39b := hk_of _ _ trivial
theorem w39q [Alg] (N : Nat) (s0 : (List Int)) : w39G N  s0 = exec (w39c N) Tryd.f39.ntmps (w39h N) w39b ⟨argT 0 [.e (.sl (.i .i64)) s0, .fn 40 []], [], 100⟩ (finX (w39c N) Tryd.f39 false) := by kernel_rfl
theorem w39does {N : Nat} (hc : CxOk (w39c N)) {s0 : (List Int)} {r : Res} (h : w39 N s0 = some r) : Does Tryd.prog 39 (([.e (.sl (.i .i64)) s0, .fn 40 []] : List X).map X.D) (HA []) r.1.D (HA r.2) :=
  fun_ok hc (f := 39) (fn := Tryd.f39) (code := w39b) (by kernel_rfl) (by kernel_rfl) (w39hk N) (Nat.le_of_ble_eq_true (by kernel_rfl)) (ow := false) ((w39q N s0).symm.trans (by exact h))
def w39un (r : Res) : Option (Bool) := match r with
  | (x0, []) => (match ue .bo x0 with | some a0 => some a0 | _ => none)
  | _ => none
theorem w39uo {r : Res} {d : Bool} (h : w39un r = some d) : r = w39r0 (d) := by
  unfold w39un at h
  split at h
  · split at h
    · rename_i h0; cases h; rw [ue_some h0]; rfl
    · cases h
  · cases h
def w39z (N : Nat) (s0 : (List Int)) : Option (Bool) := (w39 N s0).bind w39un
theorem w39fin {N : Nat} (hc : CxOk (w39c N)) {s0 : (List Int)} {d : Bool} (hd : w39z N s0 = some d) : Does Tryd.prog 39 (([.e (.sl (.i .i64)) s0, .fn 40 []] : List X).map X.D) (HA []) (w39r0 (d)).1.D (HA (w39r0 (d)).2) := by
  obtain ⟨r, hr, hu⟩ := Option.bind_eq_some_iff.1 hd
  have := w39does hc hr
  rw [w39uo hu] at this
  exact this
def w39p (N : Nat) (s0 : (List Int)) : Bool := (w39z N s0).isSome
def w39y0 (N : Nat) (s0 : (List Int)) : Bool := ((w39z N s0).getD false)
def w39e (N : Nat) : Ent' := Ef1 (.sl (.i .i64)) 40 (fun x0 => (w39p N x0, w39r0 (w39y0 N x0)))
theorem w39re {N : Nat} {s0 : (List Int)} {d : Bool} (hd : w39z N s0 = some d) : w39r0 (w39y0 N s0) = w39r0 (d) := by unfold w39y0; rw [hd]; rfl
theorem w39ok (N : Nat) : EOk Tryd.prog 39 (w39e N) := EOk.f1 (fun x0 h => by
  have h : (w39z N x0).isSome = true := h
  obtain ⟨d, hd⟩ := Option.isSome_iff_exists.1 h
  have f := w39fin (w39cx N) hd
  rw [← w39re hd] at f
  exact f)
def w17r0 (a0 : Int) : Res := (.e (.i .i64) a0, [])
noncomputable def w17L (N : Nat) : List (Nat × Ent') := [(39, w39e N), (40, w40e N)]
noncomputable def w17c (N : Nat) : Cx := ⟨Tryd.prog, 99999, w17L N⟩
noncomputable def w17b : Code := Tryd.f17.body.getD .skip
theorem w17cx (N : Nat) : CxOk (w17c N) := ctx_ok (by kernel_rfl) (.cons (by kernel_rfl) (w39ok N) (.cons (by kernel_rfl) (w40ok N) .nil))
def w17F0 [Alg] (_ : Nat)   (k0 : Int → Int → Bool → Int → (List Int) → O) (x13_0 : Int) (x13_1 : Int) (x13_2 : Int) (x13_3 : Int) (x13_4 : (List Int)) : O :=
  br (decide (x13_2 = (4 : Int)))
    (k0 x13_0 x13_1 (decide (x13_2 = (4 : Int))) x13_3 x13_4)
    (br (decide (x13_2 = (5 : Int)))
      (k0 x13_0 x13_1 (decide (x13_2 = (5 : Int))) x13_3 x13_4)
      (k0 x13_0 x13_1 (decide (x13_2 = (6 : Int))) x13_3 x13_4))
noncomputable def w17b0 : Code := atC [1, 1, 0, 1, 0, 1, 1, 0] w17b
def w17m0 : Nm := ⟨[1, 2, 3, 8], [], []⟩
def w17I0 (x : Int × Int × Int × Int × (List Int)) : Sg := ⟨[(1, .ref 0 0), (2, .e (.i .i64) x.1), (3, .e (.i .i64) x.2.1), (8, .e (.i .i64) x.2.2.1)], [(0, .box 24 [.e (.i .i64) x.2.2.2.1, .e (.sl (.i .i64)) x.2.2.2.2])], 100⟩
def w17u0 (σ : Sg) : Int × Int × Int × Int × (List Int) := (lvT (.i .i64) 2 0 σ, lvT (.i .i64) 3 0 σ, lvT (.i .i64) 8 0 σ, lvH (.i .i64) 0 0 σ, lvH (.sl (.i .i64)) 0 1 σ)
theorem w17ui0 : ∀ x, w17u0 (w17I0 x) = x := fun _ => by kernel_rfl
def w17X0_0 (y : Int × Int × Bool × Int × (List Int)) : Exit × Sg := (.normal, ⟨[(1, .ref 0 0), (2, .e (.i .i64) y.1), (3, .e (.i .i64) y.2.1), (17, .e .bo y.2.2.1)], [(0, .box 24 [.e (.i .i64) y.2.2.2.1, .e (.sl (.i .i64)) y.2.2.2.2])], 100⟩)
def w17v0_0 (σ : Sg) : Int × Int × Bool × Int × (List Int) := (lvT (.i .i64) 2 0 σ, lvT (.i .i64) 3 0 σ, lvT .bo 17 0 σ, lvH (.i .i64) 0 0 σ, lvH (.sl (.i .i64)) 0 1 σ)
def w17w0 : List (Exit × Nm) := [(.normal, ⟨[1, 2, 3, 17], [], []⟩)]
theorem w17o0 : Outs w17v0_0 (fun _ => ()) (fun _ => ()) w17X0_0 (noX 1) (noX 2) .normal (.goto 1) (.goto 2) := ⟨fun _ => by kernel_rfl, fun _ => by kernel_rfl, fun _ => by kernel_rfl, fun _ => by kernel_rfl, fun _ => by kernel_rfl, fun _ => by kernel_rfl, exNe_ok (by kernel_rfl), exNe_ok (by kernel_rfl), exNe_ok (by kernel_rfl)⟩
def w17l0 [Alg] (N : Nat) (_ : Nat) (x : Int × Int × Int × Int × (List Int)) (k0 : (Int × Int × Bool × Int × (List Int)) → O) (_ : (Unit) → O) (_ : (Unit) → O) : O := w17F0 N   (fun y0 y1 y2 y3 y4 => k0 (y0, y1, y2, y3, y4)) x.1 x.2.1 x.2.2.1 x.2.2.2.1 x.2.2.2.2
def w17n0 [Alg] (N : Nat) (a0 : Int) (a1 : Int) (a2 : Int) (a3 : Int) (a4 : (List Int)) (k0 : Int → Int → Bool → Int → (List Int) → O) : O := w17l0 N N (a0, a1, a2, a3, a4) (fun y => k0 y.1 y.2.1 y.2.2.1 y.2.2.2.1 y.2.2.2.2) (fun _ => none) (fun _ => none)
noncomputable def w17s0 [Alg] (N : Nat) (a0 : Int) (a1 : Int) (a2 : Int) (a3 : Int) (a4 : (List Int)) (k0 : Int → Int → Bool → Int → (List Int) → O) : O := subL w17I0 w17u0 (w17l0 N N) (w17I0 (a0, a1, a2, a3, a4)) (fun y => k0 y.1 y.2.1 y.2.2.1 y.2.2.2.1 y.2.2.2.2) (fun _ => none) (fun _ => none)
theorem w17e0 [Alg] (N : Nat) : w17s0 N = w17n0 N := funext fun _ => funext fun _ => funext fun _ => funext fun _ => funext fun _ => funext fun _ => subL_I w17ui0 _ _ _ _
noncomputable def w17h0 [Alg] (_ : Nat) : Hint := .d
theorem w17hk0 (N : Nat) : HintOk (w17c N) Tryd.f17.ntmps (w17h0 N) w17b0 := hk_of _ _ trivial
theorem w17q0 [Alg] (N : Nat) (K : Exit → Sg → O) (x : Int × Int × Int × Int × (List Int)) : w17F0 N   (fun y0 y1 y2 y3 y4 => K (w17X0_0 (y0, y1, y2, y3, y4)).1 (w17X0_0 (y0, y1, y2, y3, y4)).2) x.1 x.2.1 x.2.2.1 x.2.2.2.1 x.2.2.2.2 = exec (w17c N) Tryd.f17.ntmps (w17h0 N) w17b0 (w17I0 x) (partX w17w0 K) := by kernel_rfl
theorem w17S0 (N : Nat) (hc : CxOk (w17c N)) : SubOk (w17c N) Tryd.f17.ntmps w17b0 w17X0_0 (noX 1) (noX 2) (subL w17I0 w17u0 (w17l0 N N)) :=
  sub_part hc (w17hk0 N) w17o0 (fun x K => by
    have h : w17F0 N   (fun y0 y1 y2 y3 y4 => K (w17X0_0 (y0, y1, y2, y3, y4)).1 (w17X0_0 (y0, y1, y2, y3, y4)).2) x.1 x.2.1 x.2.2.1 x.2.2.2.1 x.2.2.2.2 = w17F0 N   (fun y0 y1 y2 y3 y4 => K (w17X0_0 (y0, y1, y2, y3, y4)).1 (w17X0_0 (y0, y1, y2, y3, y4)).2) x.1 x.2.1 x.2.2.1 x.2.2.2.1 x.2.2.2.2 := by rfl
    exact h.trans (w17q0 N K x))
def w17F1 [Alg] (_ : Nat) (in0 : Int → Int → Int → Int → (List Int) → (Int → Int → Bool → Int → (List Int) → O) → O)  (k0 : Int → O) (k1 : Int → Int → (List Int) → O) (x0_0 : Int) (x0_1 : Int) (x0_2 : Int) (x0_3 : (List Int)) : O :=
  br (decide (x0_2 = (3 : Int)))
    (br (decide (x0_1 < (2 : Int)) || decide ((8 : Int) < x0_1))
      (k0 ((1 : Int)))
      (k1 x0_0 x0_2 x0_3))
    (in0 x0_0 x0_1 x0_2 x0_2 x0_3
      (fun z14 z15 z16 z17 z18 =>
        br z16
          (br (decide (z15 ≠ (2 : Int)))
            (k0 ((1 : Int)))
            (k1 z14 z17 z18))
          (k0 ((1 : Int)))))
noncomputable def w17b1 : Code := atC [1, 1, 0] w17b
def w17m1 : Nm := ⟨[1, 2, 3], [], []⟩
def w17I1 (x : Int × Int × Int × (List Int)) : Sg := ⟨[(1, .ref 0 0), (2, .e (.i .i64) x.1), (3, .e (.i .i64) x.2.1)], [(0, .box 24 [.e (.i .i64) x.2.2.1, .e (.sl (.i .i64)) x.2.2.2])], 100⟩
def w17u1 (σ : Sg) : Int × Int × Int × (List Int) := (lvT (.i .i64) 2 0 σ, lvT (.i .i64) 3 0 σ, lvH (.i .i64) 0 0 σ, lvH (.sl (.i .i64)) 0 1 σ)
theorem w17ui1 : ∀ x, w17u1 (w17I1 x) = x := fun _ => by kernel_rfl
def w17X1_0 (y : Int) : Exit × Sg := (.ret, ⟨[(2, .e (.i .i64) y)], [], 100⟩)
def w17v1_0 (σ : Sg) : Int := lvT (.i .i64) 2 0 σ
def w17X1_1 (y : Int × Int × (List Int)) : Exit × Sg := (.normal, ⟨[(1, .ref 0 0), (2, .e (.i .i64) y.1)], [(0, .box 24 [.e (.i .i64) y.2.1, .e (.sl (.i .i64)) y.2.2])], 100⟩)
def w17v1_1 (σ : Sg) : Int × Int × (List Int) := (lvT (.i .i64) 2 0 σ, lvH (.i .i64) 0 0 σ, lvH (.sl (.i .i64)) 0 1 σ)
def w17w1 : List (Exit × Nm) := [(.ret, ⟨[2], [], []⟩), (.normal, ⟨[1, 2], [], []⟩)]
theorem w17o1 : Outs w17v1_0 w17v1_1 (fun _ => ()) w17X1_0 w17X1_1 (noX 2) .ret .normal (.goto 2) := ⟨fun _ => by kernel_rfl, fun _ => by kernel_rfl, fun _ => by kernel_rfl, fun _ => by kernel_rfl, fun _ => by kernel_rfl, fun _ => by kernel_rfl, exNe_ok (by kernel_rfl), exNe_ok (by kernel_rfl), exNe_ok (by kernel_rfl)⟩
def w17l1 [Alg] (N : Nat) (_ : Nat) (x : Int × Int × Int × (List Int)) (k0 : (Int) → O) (k1 : (Int × Int × (List Int)) → O) (_ : (Unit) → O) : O := w17F1 N (w17n0 N)  (fun y0 => k0 y0) (fun y0 y1 y2 => k1 (y0, y1, y2)) x.1 x.2.1 x.2.2.1 x.2.2.2
def w17n1 [Alg] (N : Nat) (a0 : Int) (a1 : Int) (a2 : Int) (a3 : (List Int)) (k0 : Int → O) (k1 : Int → Int → (List Int) → O) : O := w17l1 N N (a0, a1, a2, a3) (fun y => k0 y) (fun y => k1 y.1 y.2.1 y.2.2) (fun _ => none)
noncomputable def w17s1 [Alg] (N : Nat) (a0 : Int) (a1 : Int) (a2 : Int) (a3 : (List Int)) (k0 : Int → O) (k1 : Int → Int → (List Int) → O) : O := subL w17I1 w17u1 (w17l1 N N) (w17I1 (a0, a1, a2, a3)) (fun y => k0 y) (fun y => k1 y.1 y.2.1 y.2.2) (fun _ => none)
theorem w17e1 [Alg] (N : Nat) : w17s1 N = w17n1 N := funext fun _ => funext fun _ => funext fun _ => funext fun _ => funext fun _ => funext fun _ => subL_I w17ui1 _ _ _ _
noncomputable def w17h1 [Alg] (N : Nat) : Hint := (.seq .d (.block (.seq .d (.cond .d (.seq (.sub w17m0 _ _ _ w17X0_0 (noX 1) (noX 2) (subL w17I0 w17u0 (w17l0 N N))) .d)))))
theorem w17hk1 (N : Nat) (hc : CxOk (w17c N)) : HintOk (w17c N) Tryd.f17.ntmps (w17h1 N) w17b1 := hk_of _ _ (And.intro trivial (And.intro trivial (And.intro trivial (And.intro (w17S0 N hc) trivial))))
theorem w17q1 [Alg] (N : Nat) (K : Exit → Sg → O) (x : Int × Int × Int × (List Int)) : w17F1 N (w17s0 N)  (fun y0 => K (w17X1_0 y0).1 (w17X1_0 y0).2) (fun y0 y1 y2 => K (w17X1_1 (y0, y1, y2)).1 (w17X1_1 (y0, y1, y2)).2) x.1 x.2.1 x.2.2.1 x.2.2.2 = exec (w17c N) Tryd.f17.ntmps (w17h1 N) w17b1 (w17I1 x) (partX w17w1 K) := by kernel_rfl
theorem w17S1 (N : Nat) (hc : CxOk (w17c N)) : SubOk (w17c N) Tryd.f17.ntmps w17b1 w17X1_0 w17X1_1 (noX 2) (subL w17I1 w17u1 (w17l1 N N)) :=
  sub_part hc (w17hk1 N hc) w17o1 (fun x K => by
    have h : w17F1 N (w17n0 N)  (fun y0 => K (w17X1_0 y0).1 (w17X1_0 y0).2) (fun y0 y1 y2 => K (w17X1_1 (y0, y1, y2)).1 (w17X1_1 (y0, y1, y2)).2) x.1 x.2.1 x.2.2.1 x.2.2.2 = w17F1 N (w17s0 N)  (fun y0 => K (w17X1_0 y0).1 (w17X1_0 y0).2) (fun y0 y1 y2 => K (w17X1_1 (y0, y1, y2)).1 (w17X1_1 (y0, y1, y2)).2) x.1 x.2.1 x.2.2.1 x.2.2.2 := by rw [w17e0 N]
    exact h.trans (w17q1 N K x))
def w17G [Alg] (N : Nat) (_in0 : Int → Int → Int → Int → (List Int) → (Int → Int → Bool → Int → (List Int) → O) → O) (in1 : Int → Int → Int → (List Int) → (Int → O) → (Int → Int → (List Int) → O) → O) (s0_0 : Int) (s0_1 : (List Int)) : O :=
  in1 ((0 : Int)) ((↑s0_1.length : Int)) s0_0 s0_1
    (fun z19 =>
      some (w17r0 z19))
    (fun _ z21 z22 =>
      ck (w39p N z22) <|
      gc (!w39y0 N z22 && decide (z21 = (4 : Int))) ((0 : Int)) z22 ((0 : Int)) fun y23 =>
      gc (!w39y0 N z22 && decide (z21 = (4 : Int))) ((0 : Int)) z22 ((1 : Int)) fun y24 =>
      gc (!(w39y0 N z22 || decide (z21 = (4 : Int)) && decide (y23 < y24)) && decide (z21 = (6 : Int))) ((0 : Int)) z22 ((1 : Int)) fun y25 =>
      br (w39y0 N z22 || decide (z21 = (4 : Int)) && decide (y23 < y24) || decide (z21 = (6 : Int)) && decide (y25 = (0 : Int)))
        (some (w17r0 ((5 : Int))))
        (some (w17r0 ((0 : Int)))))
def w17 [Alg] (N : Nat) (s0_0 : Int) (s0_1 : (List Int)) : O := w17G N (w17n0 N) (w17n1 N) s0_0 s0_1
noncomputable def w17h [Alg] (N : Nat) : Hint := (.seq .d (.seq .d (.seq (.sub w17m1 _ _ _ w17X1_0 w17X1_1 (noX 2) (subL w17I1 w17u1 (w17l1 N N))) .d)))
theorem w17hk (N : Nat) (hc : CxOk (w17c N)) : HintOk (w17c N) Tryd.f17.ntmps (w17h N) w17b := hk_of _ _ (And.intro trivial (And.intro trivial (And.intro (w17S1 N hc) trivial)))
theorem w17q [Alg] (N : Nat) (s0_0 : Int) (s0_1 : (List Int)) : w17G N (w17s0 N) (w17s1 N) s0_0 s0_1 = exec (w17c N) Tryd.f17.ntmps (w17h N) w17b ⟨argT 0 [.agg [.e (.i .i64) s0_0, .e (.sl (.i .i64)) s0_1]], [], 100⟩ (finX (w17c N) Tryd.f17 false) := by kernel_rfl
theorem w17does {N : Nat} (hc : CxOk (w17c N)) {s0_0 : Int} {s0_1 : (List Int)} {r : Res} (h : w17 N s0_0 s0_1 = some r) : Does Tryd.prog 17 (([.agg [.e (.i .i64) s0_0, .e (.sl (.i .i64)) s0_1]] : List X).map X.D) (HA []) r.1.D (HA r.2) :=
  fun_ok hc (f := 17) (fn := Tryd.f17) (code := w17b) (by kernel_rfl) (by kernel_rfl) (w17hk N hc) (Nat.le_of_ble_eq_true (by kernel_rfl)) (ow := false) ((w17q N s0_0 s0_1).symm.trans (by rw [w17e0 N, w17e1 N]; exact h))
def w17un (r : Res) : Option (Int) := match r with
  | (x0, []) => (match ue (.i .i64) x0 with | some a0 => some a0 | _ => none)
  | _ => none
theorem w17uo {r : Res} {d : Int} (h : w17un r = some d) : r = w17r0 (d) := by
  unfold w17un at h
  split at h
  · split at h
    · rename_i h0; cases h; rw [ue_some h0]; rfl
    · cases h
  · cases h
def w17z (N : Nat) (s0_0 : Int) (s0_1 : (List Int)) : Option (Int) := (w17 N s0_0 s0_1).bind w17un
theorem w17fin {N : Nat} (hc : CxOk (w17c N)) {s0_0 : Int} {s0_1 : (List Int)} {d : Int} (hd : w17z N s0_0 s0_1 = some d) : Does Tryd.prog 17 (([.agg [.e (.i .i64) s0_0, .e (.sl (.i .i64)) s0_1]] : List X).map X.D) (HA []) (w17r0 (d)).1.D (HA (w17r0 (d)).2) := by
  obtain ⟨r, hr, hu⟩ := Option.bind_eq_some_iff.1 hd
  have := w17does hc hr
  rw [w17uo hu] at this
  exact this
def w17p (N : Nat) (s0_0 : Int) (s0_1 : (List Int)) : Bool := (w17z N s0_0 s0_1).isSome
def w17y0 (N : Nat) (s0_0 : Int) (s0_1 : (List Int)) : Int := ((w17z N s0_0 s0_1).getD 0)
def w17e (N : Nat) : Ent' := E1 (.pr (.i .i64) (.sl (.i .i64)))  (fun x0 => (w17p N x0.1 x0.2, w17r0 (w17y0 N x0.1 x0.2)))
theorem w17re {N : Nat} {s0_0 : Int} {s0_1 : (List Int)} {d : Int} (hd : w17z N s0_0 s0_1 = some d) : w17r0 (w17y0 N s0_0 s0_1) = w17r0 (d) := by unfold w17y0; rw [hd]; rfl
theorem w17ok (N : Nat) : EOk Tryd.prog 17 (w17e N) := EOk.e1 (fun x0 h => by
  have h : (w17z N x0.1 x0.2).isSome = true := h
  obtain ⟨d, hd⟩ := Option.isSome_iff_exists.1 h
  have f := w17fin (w17cx N) hd
  rw [← w17re hd] at f
  exact f)
def w58r0 (a0 : Int) : Res := (.e (.i .i64) a0, [])
noncomputable def w58L (_ : Nat) : List (Nat × Ent') := []
noncomputable def w58c (N : Nat) : Cx := ⟨Tryd.prog, 99999, w58L N⟩
noncomputable def w58b : Code := Tryd.f58.body.getD .skip
theorem w58cx (N : Nat) : CxOk (w58c N) := ctx_ok (by kernel_rfl) .nil
def w58F0 [Alg] (_ : Nat)   (k0 : (List Int) → Int → O) (x0_0 : (List Int)) (x0_1 : Int) : O :=
  br (decide ((↑x0_0.length : Int) < (1 : Int)))
    (none)
    (k0 x0_0 x0_1)
noncomputable def w58b0 : Code := atC [1, 0] w58b
def w58m0 : Nm := ⟨[0, 2], [], []⟩
def w58I0 (x : (List Int) × Int) : Sg := ⟨[(0, .e (.sl (.i .i64)) x.1), (2, .e (.i .i64) x.2)], [], 100⟩
def w58u0 (σ : Sg) : (List Int) × Int := (lvT (.sl (.i .i64)) 0 0 σ, lvT (.i .i64) 2 0 σ)
theorem w58ui0 : ∀ x, w58u0 (w58I0 x) = x := fun _ => by kernel_rfl
def w58X0_0 (y : (List Int) × Int) : Exit × Sg := (.normal, ⟨[(0, .e (.sl (.i .i64)) y.1), (2, .e (.i .i64) y.2)], [], 100⟩)
def w58v0_0 (σ : Sg) : (List Int) × Int := (lvT (.sl (.i .i64)) 0 0 σ, lvT (.i .i64) 2 0 σ)
def w58w0 : List (Exit × Nm) := [(.normal, ⟨[0, 2], [], []⟩)]
theorem w58o0 : Outs w58v0_0 (fun _ => ()) (fun _ => ()) w58X0_0 (noX 1) (noX 2) .normal (.goto 1) (.goto 2) := ⟨fun _ => by kernel_rfl, fun _ => by kernel_rfl, fun _ => by kernel_rfl, fun _ => by kernel_rfl, fun _ => by kernel_rfl, fun _ => by kernel_rfl, exNe_ok (by kernel_rfl), exNe_ok (by kernel_rfl), exNe_ok (by kernel_rfl)⟩
def w58l0 [Alg] (N : Nat) (_ : Nat) (x : (List Int) × Int) (k0 : ((List Int) × Int) → O) (_ : (Unit) → O) (_ : (Unit) → O) : O := w58F0 N   (fun y0 y1 => k0 (y0, y1)) x.1 x.2
def w58n0 [Alg] (N : Nat) (a0 : (List Int)) (a1 : Int) (k0 : (List Int) → Int → O) : O := w58l0 N N (a0, a1) (fun y => k0 y.1 y.2) (fun _ => none) (fun _ => none)
noncomputable def w58s0 [Alg] (N : Nat) (a0 : (List Int)) (a1 : Int) (k0 : (List Int) → Int → O) : O := subL w58I0 w58u0 (w58l0 N N) (w58I0 (a0, a1)) (fun y => k0 y.1 y.2) (fun _ => none) (fun _ => none)
theorem w58e0 [Alg] (N : Nat) : w58s0 N = w58n0 N := funext fun _ => funext fun _ => funext fun _ => subL_I w58ui0 _ _ _ _
noncomputable def w58h0 [Alg] (_ : Nat) : Hint := .d
theorem w58hk0 (N : Nat) : HintOk (w58c N) Tryd.f58.ntmps (w58h0 N) w58b0 := hk_of _ _ trivial
theorem w58q0 [Alg] (N : Nat) (K : Exit → Sg → O) (x : (List Int) × Int) : w58F0 N   (fun y0 y1 => K (w58X0_0 (y0, y1)).1 (w58X0_0 (y0, y1)).2) x.1 x.2 = exec (w58c N) Tryd.f58.ntmps (w58h0 N) w58b0 (w58I0 x) (partX w58w0 K) := by kernel_rfl
theorem w58S0 (N : Nat) (hc : CxOk (w58c N)) : SubOk (w58c N) Tryd.f58.ntmps w58b0 w58X0_0 (noX 1) (noX 2) (subL w58I0 w58u0 (w58l0 N N)) :=
  sub_part hc (w58hk0 N) w58o0 (fun x K => by
    have h : w58F0 N   (fun y0 y1 => K (w58X0_0 (y0, y1)).1 (w58X0_0 (y0, y1)).2) x.1 x.2 = w58F0 N   (fun y0 y1 => K (w58X0_0 (y0, y1)).1 (w58X0_0 (y0, y1)).2) x.1 x.2 := by rfl
    exact h.trans (w58q0 N K x))
def w58F1 [Alg] (_ : Nat)  (self : Int → Int → O) (k0 : Int → Int → O) (x4_0 : (List Int)) (x4_1 : Int) (x4_2 : Int) (x4_3 : Int) : O :=
  br (decide (x4_3 < (↑x4_0.length : Int)))
    (gx x4_0 x4_3 fun y7 =>
    self (max x4_2 y7) (IntKind.i64.wrap (x4_3 + (1 : Int))))
    (k0 x4_1 x4_2)
noncomputable def w58b1 : Code := atC [1, 1, 1, 0, 1, 0, 0] w58b
def w58m1 : Nm := ⟨[0, 2, 3, 4], [], []⟩
def w58I1 (x : (List Int) × Int × Int × Int) : Sg := ⟨[(0, .e (.sl (.i .i64)) x.1), (2, .e (.i .i64) x.2.1), (3, .e (.i .i64) x.2.2.1), (4, .e (.i .i64) x.2.2.2)], [], 100⟩
def w58u1 (σ : Sg) : (List Int) × Int × Int × Int := (lvT (.sl (.i .i64)) 0 0 σ, lvT (.i .i64) 2 0 σ, lvT (.i .i64) 3 0 σ, lvT (.i .i64) 4 0 σ)
theorem w58ui1 : ∀ x, w58u1 (w58I1 x) = x := fun _ => by kernel_rfl
def w58X1_0 (y : Int × Int) : Exit × Sg := ((.exit 0), ⟨[(2, .e (.i .i64) y.1), (3, .e (.i .i64) y.2)], [], 100⟩)
def w58v1_0 (σ : Sg) : Int × Int := (lvT (.i .i64) 2 0 σ, lvT (.i .i64) 3 0 σ)
def w58w1 : List (Exit × Nm) := [((.exit 0), ⟨[2, 3], [], []⟩)]
theorem w58o1 : Outs w58v1_0 (fun _ => ()) (fun _ => ()) w58X1_0 (noX 1) (noX 2) (.exit 0) (.goto 1) (.goto 2) := ⟨fun _ => by kernel_rfl, fun _ => by kernel_rfl, fun _ => by kernel_rfl, fun _ => by kernel_rfl, fun _ => by kernel_rfl, fun _ => by kernel_rfl, exNe_ok (by kernel_rfl), exNe_ok (by kernel_rfl), exNe_ok (by kernel_rfl)⟩
def w58l1 [Alg] (N : Nat) : Nat → ((List Int) × Int × Int × Int) → ((Int × Int) → O) → ((Unit) → O) → ((Unit) → O) → O
  | 0, _, _, _, _ => none
  | n + 1, x, k0, k1, k2 => w58F1 N  (fun v0 v1 => w58l1 N n (x.1, x.2.1, v0, v1) k0 k1 k2) (fun y0 y1 => k0 (y0, y1)) x.1 x.2.1 x.2.2.1 x.2.2.2
def w58n1 [Alg] (N : Nat) (a0 : (List Int)) (a1 : Int) (a2 : Int) (a3 : Int) (k0 : Int → Int → O) : O := w58l1 N N (a0, a1, a2, a3) (fun y => k0 y.1 y.2) (fun _ => none) (fun _ => none)
noncomputable def w58s1 [Alg] (N : Nat) (a0 : (List Int)) (a1 : Int) (a2 : Int) (a3 : Int) (k0 : Int → Int → O) : O := subL w58I1 w58u1 (w58l1 N N) (w58I1 (a0, a1, a2, a3)) (fun y => k0 y.1 y.2) (fun _ => none) (fun _ => none)
theorem w58e1 [Alg] (N : Nat) : w58s1 N = w58n1 N := funext fun _ => funext fun _ => funext fun _ => funext fun _ => funext fun _ => subL_I w58ui1 _ _ _ _
noncomputable def w58h1 [Alg] (_ : Nat) : Hint := .d
theorem w58hk1 (N : Nat) : HintOk (w58c N) Tryd.f58.ntmps (w58h1 N) w58b1 := hk_of _ _ trivial
theorem w58q1 [Alg] (N : Nat) (self : Sg → O) (K : Exit → Sg → O) (x : (List Int) × Int × Int × Int) : w58F1 N  (fun v0 v1 => self (w58I1 (x.1, x.2.1, v0, v1))) (fun y0 y1 => K (w58X1_0 (y0, y1)).1 (w58X1_0 (y0, y1)).2) x.1 x.2.1 x.2.2.1 x.2.2.2 = exec (w58c N) Tryd.f58.ntmps (w58h1 N) w58b1 (w58I1 x) (roundX w58m1 w58w1 self K) := by kernel_rfl
theorem w58S1 (N : Nat) (hc : CxOk (w58c N)) : SubOk (w58c N) Tryd.f58.ntmps (.loop w58b1) w58X1_0 (noX 1) (noX 2) (subL w58I1 w58u1 (w58l1 N N)) :=
  sub_loop hc (w58hk1 N) w58o1 (n := N) (fun x K => loop_ind (w58l1 N) (fun _ _ _ _ => rfl) (fun n K ih x => by
    have h : w58F1 N  (fun v0 v1 => w58l1 N n (x.1, x.2.1, v0, v1) (fun y => K (w58X1_0 y).1 (w58X1_0 y).2) (fun y => K ((noX 1) y).1 ((noX 1) y).2) (fun y => K ((noX 2) y).1 ((noX 2) y).2)) (fun y0 y1 => K (w58X1_0 (y0, y1)).1 (w58X1_0 (y0, y1)).2) x.1 x.2.1 x.2.2.1 x.2.2.2 = w58F1 N  (fun v0 v1 => loopX (w58c N) Tryd.f58.ntmps (w58h1 N) w58b1 w58m1 w58w1 n (w58I1 (x.1, x.2.1, v0, v1)) K) (fun y0 y1 => K (w58X1_0 (y0, y1)).1 (w58X1_0 (y0, y1)).2) x.1 x.2.1 x.2.2.1 x.2.2.2 := by rw [ show (fun v0 v1 => w58l1 N n (x.1, x.2.1, v0, v1) (fun y => K (w58X1_0 y).1 (w58X1_0 y).2) (fun y => K ((noX 1) y).1 ((noX 1) y).2) (fun y => K ((noX 2) y).1 ((noX 2) y).2)) = (fun v0 v1 => loopX (w58c N) Tryd.f58.ntmps (w58h1 N) w58b1 w58m1 w58w1 n (w58I1 (x.1, x.2.1, v0, v1)) K) from funext fun _ => funext fun _ => ih _]
    exact h.trans (w58q1 N (fun σ => loopX (w58c N) Tryd.f58.ntmps (w58h1 N) w58b1 w58m1 w58w1 n σ K) K x)) N x K)
def w58G [Alg] (_ : Nat) (in0 : (List Int) → Int → ((List Int) → Int → O) → O) (in1 : (List Int) → Int → Int → Int → (Int → Int → O) → O) (x0 : (List Int)) : O :=
  in0 x0 ((0 : Int))
    (fun z1 z2 =>
      gx z1 ((0 : Int)) fun y3 =>
      in1 z1 z2 y3 ((1 : Int))
        (fun _ z9 =>
          some (w58r0 z9)))
def w58 [Alg] (N : Nat) (x0 : (List Int)) : O := w58G N (w58n0 N) (w58n1 N) x0
noncomputable def w58h [Alg] (N : Nat) : Hint := (.seq .d (.seq (.sub w58m0 _ _ _ w58X0_0 (noX 1) (noX 2) (subL w58I0 w58u0 (w58l0 N N))) (.seq .d (.seq (.seq .d (.block (.sub w58m1 _ _ _ w58X1_0 (noX 1) (noX 2) (subL w58I1 w58u1 (w58l1 N N))))) .d))))
theorem w58hk (N : Nat) (hc : CxOk (w58c N)) : HintOk (w58c N) Tryd.f58.ntmps (w58h N) w58b := hk_of _ _ (And.intro trivial (And.intro (w58S0 N hc) (And.intro trivial (And.intro (And.intro trivial (w58S1 N hc)) trivial))))
theorem w58q [Alg] (N : Nat) (x0 : (List Int)) : w58G N (w58s0 N) (w58s1 N) x0 = exec (w58c N) Tryd.f58.ntmps (w58h N) w58b ⟨argT 0 [.e (.sl (.i .i64)) x0], [], 100⟩ (finX (w58c N) Tryd.f58 false) := by kernel_rfl
theorem w58does {N : Nat} (hc : CxOk (w58c N)) {x0 : (List Int)} {r : Res} (h : w58 N x0 = some r) : Does Tryd.prog 58 (([.e (.sl (.i .i64)) x0] : List X).map X.D) (HA []) r.1.D (HA r.2) :=
  fun_ok hc (f := 58) (fn := Tryd.f58) (code := w58b) (by kernel_rfl) (by kernel_rfl) (w58hk N hc) (Nat.le_of_ble_eq_true (by kernel_rfl)) (ow := false) ((w58q N x0).symm.trans (by rw [w58e0 N, w58e1 N]; exact h))
def w58un (r : Res) : Option (Int) := match r with
  | (x0, []) => (match ue (.i .i64) x0 with | some a0 => some a0 | _ => none)
  | _ => none
theorem w58uo {r : Res} {d : Int} (h : w58un r = some d) : r = w58r0 (d) := by
  unfold w58un at h
  split at h
  · split at h
    · rename_i h0; cases h; rw [ue_some h0]; rfl
    · cases h
  · cases h
def w58z (N : Nat) (x0 : (List Int)) : Option (Int) := (w58 N x0).bind w58un
theorem w58fin {N : Nat} (hc : CxOk (w58c N)) {x0 : (List Int)} {d : Int} (hd : w58z N x0 = some d) : Does Tryd.prog 58 (([.e (.sl (.i .i64)) x0] : List X).map X.D) (HA []) (w58r0 (d)).1.D (HA (w58r0 (d)).2) := by
  obtain ⟨r, hr, hu⟩ := Option.bind_eq_some_iff.1 hd
  have := w58does hc hr
  rw [w58uo hu] at this
  exact this
def w58p (N : Nat) (x0 : (List Int)) : Bool := (w58z N x0).isSome
def w58y0 (N : Nat) (x0 : (List Int)) : Int := ((w58z N x0).getD 0)
def w58e (N : Nat) : Ent' := E1 (.sl (.i .i64))  (fun x0 => (w58p N x0, w58r0 (w58y0 N x0)))
theorem w58re {N : Nat} {x0 : (List Int)} {d : Int} (hd : w58z N x0 = some d) : w58r0 (w58y0 N x0) = w58r0 (d) := by unfold w58y0; rw [hd]; rfl
theorem w58ok (N : Nat) : EOk Tryd.prog 58 (w58e N) := EOk.e1 (fun x0 h => by
  have h : (w58z N x0).isSome = true := h
  obtain ⟨d, hd⟩ := Option.isSome_iff_exists.1 h
  have f := w58fin (w58cx N) hd
  rw [← w58re hd] at f
  exact f)
def w57r0 (a0 : Int) : Res := (.e (.i .i64) a0, [])
noncomputable def w57L (N : Nat) : List (Nat × Ent') := [(67, w67e N)]
noncomputable def w57c (N : Nat) : Cx := ⟨Tryd.prog, 99999, w57L N⟩
noncomputable def w57b : Code := Tryd.f57.body.getD .skip
theorem w57cx (N : Nat) : CxOk (w57c N) := ctx_ok (by kernel_rfl) (.cons (by kernel_rfl) (w67ok N) .nil)
def w57G [Alg] (N : Nat)  (n0 : Int) : O :=
  ck (w67p N n0) <|
  some (w57r0 ((↑(w67y0 N n0).length : Int)))
def w57 [Alg] (N : Nat) (n0 : Int) : O := w57G N  n0
noncomputable def w57h [Alg] (_ : Nat) : Hint := .d
theorem w57hk (N : Nat) : HintOk (w57c N) Tryd.f57.ntmps (w57h N) w57b := hk_of _ _ trivial
theorem w57q [Alg] (N : Nat) (n0 : Int) : w57G N  n0 = exec (w57c N) Tryd.f57.ntmps (w57h N) w57b ⟨argT 0 [.e (.i .i64) n0], [], 100⟩ (finX (w57c N) Tryd.f57 false) := by kernel_rfl
theorem w57does {N : Nat} (hc : CxOk (w57c N)) {n0 : Int} {r : Res} (h : w57 N n0 = some r) : Does Tryd.prog 57 (([.e (.i .i64) n0] : List X).map X.D) (HA []) r.1.D (HA r.2) :=
  fun_ok hc (f := 57) (fn := Tryd.f57) (code := w57b) (by kernel_rfl) (by kernel_rfl) (w57hk N) (Nat.le_of_ble_eq_true (by kernel_rfl)) (ow := false) ((w57q N n0).symm.trans (by exact h))
def w57un (r : Res) : Option (Int) := match r with
  | (x0, []) => (match ue (.i .i64) x0 with | some a0 => some a0 | _ => none)
  | _ => none
theorem w57uo {r : Res} {d : Int} (h : w57un r = some d) : r = w57r0 (d) := by
  unfold w57un at h
  split at h
  · split at h
    · rename_i h0; cases h; rw [ue_some h0]; rfl
    · cases h
  · cases h
def w57z (N : Nat) (n0 : Int) : Option (Int) := (w57 N n0).bind w57un
theorem w57fin {N : Nat} (hc : CxOk (w57c N)) {n0 : Int} {d : Int} (hd : w57z N n0 = some d) : Does Tryd.prog 57 (([.e (.i .i64) n0] : List X).map X.D) (HA []) (w57r0 (d)).1.D (HA (w57r0 (d)).2) := by
  obtain ⟨r, hr, hu⟩ := Option.bind_eq_some_iff.1 hd
  have := w57does hc hr
  rw [w57uo hu] at this
  exact this
def w57p (N : Nat) (n0 : Int) : Bool := (w57z N n0).isSome
def w57y0 (N : Nat) (n0 : Int) : Int := ((w57z N n0).getD 0)
def w57e (N : Nat) : Ent' := E1 (.i .i64)  (fun x0 => (w57p N x0, w57r0 (w57y0 N x0)))
theorem w57re {N : Nat} {n0 : Int} {d : Int} (hd : w57z N n0 = some d) : w57r0 (w57y0 N n0) = w57r0 (d) := by unfold w57y0; rw [hd]; rfl
theorem w57ok (N : Nat) : EOk Tryd.prog 57 (w57e N) := EOk.e1 (fun x0 h => by
  have h : (w57z N x0).isSome = true := h
  obtain ⟨d, hd⟩ := Option.isSome_iff_exists.1 h
  have f := w57fin (w57cx N) hd
  rw [← w57re hd] at f
  exact f)
def w36r0 (a0 : (List Int)) : Res := (.e (.sl (.i .i64)) a0, [])
noncomputable def w36L (N : Nat) : List (Nat × Ent') := [(58, w58e N), (57, w57e N)]
noncomputable def w36c (N : Nat) : Cx := ⟨Tryd.prog, 99999, w36L N⟩
noncomputable def w36b : Code := Tryd.f36.body.getD .skip
theorem w36cx (N : Nat) : CxOk (w36c N) := ctx_ok (by kernel_rfl) (.cons (by kernel_rfl) (w58ok N) (.cons (by kernel_rfl) (w57ok N) .nil))
def w36F0 [Alg] (_ : Nat)  (self : Int → Int → O) (k0 : Int → Int → Int → Int → Bool → Int → Int → (List Int) → Int → Int → Bool → Int → (List Int) → (List Int) → O) (x54_0 : Int) (x54_1 : Int) (x54_2 : Int) (x54_3 : Int) (x54_4 : Bool) (x54_5 : Int) (x54_7 : (List Int)) (x54_8 : Int) (x54_10 : Int) (x54_11 : (List Int)) (x54_12 : (List Int)) (x54_6 : Int) (x54_9 : Int) : O :=
  br (decide (x54_9 < x54_8))
    (gx x54_7 x54_9 fun y57 =>
    ck (decide (x54_1 ≠ (0 : Int))) <|
    ck true <|
    br (decide (x54_10 = (4 : Int)) && decide (x54_9 = (0 : Int)))
      (self (IntKind.i64.wrap (x54_6 - (IntKind.i64.wrap (y57.tdiv x54_1)).tmod (10 : Int))) (IntKind.i64.wrap (x54_9 + (1 : Int))))
      (self (IntKind.i64.wrap (x54_6 + (IntKind.i64.wrap (y57.tdiv x54_1)).tmod (10 : Int))) (IntKind.i64.wrap (x54_9 + (1 : Int)))))
    (k0 x54_0 x54_1 x54_2 x54_3 x54_4 x54_5 x54_6 x54_7 x54_8 x54_9 (decide (x54_9 < x54_8)) x54_10 x54_11 x54_12)
noncomputable def w36b0 : Code := atC [1, 1, 1, 0, 1, 0, 0, 1, 1, 0, 0, 1, 0, 1, 0, 0] w36b
def w36m0 : Nm := ⟨[1, 2, 3, 4, 5, 13, 14, 15, 16, 6, 17, 18, 19, 20], [], []⟩
def w36I0 (x : Int × Int × Int × Int × Bool × Int × Int × (List Int) × Int × Int × Int × (List Int) × (List Int)) : Sg := ⟨[(1, .ref 0 0), (2, .nilS), (3, .own 1), (4, .e (.i .i64) x.1), (5, .e (.i .i64) x.2.1), (13, .e (.i .i64) x.2.2.1), (14, .e (.i .i64) x.2.2.2.1), (15, .e .bo x.2.2.2.2.1), (16, .e (.i .i64) x.2.2.2.2.2.1), (6, .e (.i .i64) x.2.2.2.2.2.2.1), (17, .ref 0 1), (18, .e (.sl (.i .i64)) x.2.2.2.2.2.2.2.1), (19, .e (.i .i64) x.2.2.2.2.2.2.2.2.1), (20, .e (.i .i64) x.2.2.2.2.2.2.2.2.2.1)], [(0, .box 24 [.e (.i .i64) x.2.2.2.2.2.2.2.2.2.2.1, .e (.sl (.i .i64)) x.2.2.2.2.2.2.2.2.2.2.2.1]), (1, .row 3 (.i .i64) x.2.2.2.2.2.2.2.2.2.2.2.2 true)], 100⟩
def w36u0 (σ : Sg) : Int × Int × Int × Int × Bool × Int × Int × (List Int) × Int × Int × Int × (List Int) × (List Int) := (lvT (.i .i64) 4 0 σ, lvT (.i .i64) 5 0 σ, lvT (.i .i64) 13 0 σ, lvT (.i .i64) 14 0 σ, lvT .bo 15 0 σ, lvT (.i .i64) 16 0 σ, lvT (.i .i64) 6 0 σ, lvT (.sl (.i .i64)) 18 0 σ, lvT (.i .i64) 19 0 σ, lvT (.i .i64) 20 0 σ, lvH (.i .i64) 0 0 σ, lvH (.sl (.i .i64)) 0 1 σ, lvR (.i .i64) 1 σ)
theorem w36ui0 : ∀ x, w36u0 (w36I0 x) = x := fun _ => by kernel_rfl
def w36X0_0 (y : Int × Int × Int × Int × Bool × Int × Int × (List Int) × Int × Int × Bool × Int × (List Int) × (List Int)) : Exit × Sg := ((.exit 2), ⟨[(1, .ref 0 0), (2, .nilS), (3, .own 1), (4, .e (.i .i64) y.1), (5, .e (.i .i64) y.2.1), (13, .e (.i .i64) y.2.2.1), (14, .e (.i .i64) y.2.2.2.1), (15, .e .bo y.2.2.2.2.1), (16, .e (.i .i64) y.2.2.2.2.2.1), (6, .e (.i .i64) y.2.2.2.2.2.2.1), (17, .ref 0 1), (18, .e (.sl (.i .i64)) y.2.2.2.2.2.2.2.1), (19, .e (.i .i64) y.2.2.2.2.2.2.2.2.1), (20, .e (.i .i64) y.2.2.2.2.2.2.2.2.2.1), (21, .e .bo y.2.2.2.2.2.2.2.2.2.2.1)], [(0, .box 24 [.e (.i .i64) y.2.2.2.2.2.2.2.2.2.2.2.1, .e (.sl (.i .i64)) y.2.2.2.2.2.2.2.2.2.2.2.2.1]), (1, .row 3 (.i .i64) y.2.2.2.2.2.2.2.2.2.2.2.2.2 true)], 100⟩)
def w36v0_0 (σ : Sg) : Int × Int × Int × Int × Bool × Int × Int × (List Int) × Int × Int × Bool × Int × (List Int) × (List Int) := (lvT (.i .i64) 4 0 σ, lvT (.i .i64) 5 0 σ, lvT (.i .i64) 13 0 σ, lvT (.i .i64) 14 0 σ, lvT .bo 15 0 σ, lvT (.i .i64) 16 0 σ, lvT (.i .i64) 6 0 σ, lvT (.sl (.i .i64)) 18 0 σ, lvT (.i .i64) 19 0 σ, lvT (.i .i64) 20 0 σ, lvT .bo 21 0 σ, lvH (.i .i64) 0 0 σ, lvH (.sl (.i .i64)) 0 1 σ, lvR (.i .i64) 1 σ)
def w36w0 : List (Exit × Nm) := [((.exit 2), ⟨[1, 2, 3, 4, 5, 13, 14, 15, 16, 6, 17, 18, 19, 20, 21], [], []⟩)]
theorem w36o0 : Outs w36v0_0 (fun _ => ()) (fun _ => ()) w36X0_0 (noX 1) (noX 2) (.exit 2) (.goto 1) (.goto 2) := ⟨fun _ => by kernel_rfl, fun _ => by kernel_rfl, fun _ => by kernel_rfl, fun _ => by kernel_rfl, fun _ => by kernel_rfl, fun _ => by kernel_rfl, exNe_ok (by kernel_rfl), exNe_ok (by kernel_rfl), exNe_ok (by kernel_rfl)⟩
def w36l0 [Alg] (N : Nat) : Nat → (Int × Int × Int × Int × Bool × Int × Int × (List Int) × Int × Int × Int × (List Int) × (List Int)) → ((Int × Int × Int × Int × Bool × Int × Int × (List Int) × Int × Int × Bool × Int × (List Int) × (List Int)) → O) → ((Unit) → O) → ((Unit) → O) → O
  | 0, _, _, _, _ => none
  | n + 1, x, k0, k1, k2 => w36F0 N  (fun v0 v1 => w36l0 N n (x.1, x.2.1, x.2.2.1, x.2.2.2.1, x.2.2.2.2.1, x.2.2.2.2.2.1, v0, x.2.2.2.2.2.2.2.1, x.2.2.2.2.2.2.2.2.1, v1, x.2.2.2.2.2.2.2.2.2.2.1, x.2.2.2.2.2.2.2.2.2.2.2.1, x.2.2.2.2.2.2.2.2.2.2.2.2) k0 k1 k2) (fun y0 y1 y2 y3 y4 y5 y6 y7 y8 y9 y10 y11 y12 y13 => k0 (y0, y1, y2, y3, y4, y5, y6, y7, y8, y9, y10, y11, y12, y13)) x.1 x.2.1 x.2.2.1 x.2.2.2.1 x.2.2.2.2.1 x.2.2.2.2.2.1 x.2.2.2.2.2.2.2.1 x.2.2.2.2.2.2.2.2.1 x.2.2.2.2.2.2.2.2.2.2.1 x.2.2.2.2.2.2.2.2.2.2.2.1 x.2.2.2.2.2.2.2.2.2.2.2.2 x.2.2.2.2.2.2.1 x.2.2.2.2.2.2.2.2.2.1
def w36n0 [Alg] (N : Nat) (a0 : Int) (a1 : Int) (a2 : Int) (a3 : Int) (a4 : Bool) (a5 : Int) (a6 : Int) (a7 : (List Int)) (a8 : Int) (a9 : Int) (a10 : Int) (a11 : (List Int)) (a12 : (List Int)) (k0 : Int → Int → Int → Int → Bool → Int → Int → (List Int) → Int → Int → Bool → Int → (List Int) → (List Int) → O) : O := w36l0 N N (a0, a1, a2, a3, a4, a5, a6, a7, a8, a9, a10, a11, a12) (fun y => k0 y.1 y.2.1 y.2.2.1 y.2.2.2.1 y.2.2.2.2.1 y.2.2.2.2.2.1 y.2.2.2.2.2.2.1 y.2.2.2.2.2.2.2.1 y.2.2.2.2.2.2.2.2.1 y.2.2.2.2.2.2.2.2.2.1 y.2.2.2.2.2.2.2.2.2.2.1 y.2.2.2.2.2.2.2.2.2.2.2.1 y.2.2.2.2.2.2.2.2.2.2.2.2.1 y.2.2.2.2.2.2.2.2.2.2.2.2.2) (fun _ => none) (fun _ => none)
noncomputable def w36s0 [Alg] (N : Nat) (a0 : Int) (a1 : Int) (a2 : Int) (a3 : Int) (a4 : Bool) (a5 : Int) (a6 : Int) (a7 : (List Int)) (a8 : Int) (a9 : Int) (a10 : Int) (a11 : (List Int)) (a12 : (List Int)) (k0 : Int → Int → Int → Int → Bool → Int → Int → (List Int) → Int → Int → Bool → Int → (List Int) → (List Int) → O) : O := subL w36I0 w36u0 (w36l0 N N) (w36I0 (a0, a1, a2, a3, a4, a5, a6, a7, a8, a9, a10, a11, a12)) (fun y => k0 y.1 y.2.1 y.2.2.1 y.2.2.2.1 y.2.2.2.2.1 y.2.2.2.2.2.1 y.2.2.2.2.2.2.1 y.2.2.2.2.2.2.2.1 y.2.2.2.2.2.2.2.2.1 y.2.2.2.2.2.2.2.2.2.1 y.2.2.2.2.2.2.2.2.2.2.1 y.2.2.2.2.2.2.2.2.2.2.2.1 y.2.2.2.2.2.2.2.2.2.2.2.2.1 y.2.2.2.2.2.2.2.2.2.2.2.2.2) (fun _ => none) (fun _ => none)
theorem w36e0 [Alg] (N : Nat) : w36s0 N = w36n0 N := funext fun _ => funext fun _ => funext fun _ => funext fun _ => funext fun _ => funext fun _ => funext fun _ => funext fun _ => funext fun _ => funext fun _ => funext fun _ => funext fun _ => funext fun _ => funext fun _ => subL_I w36ui0 _ _ _ _
noncomputable def w36h0 [Alg] (_ : Nat) : Hint := .d
theorem w36hk0 (N : Nat) : HintOk (w36c N) Tryd.f36.ntmps (w36h0 N) w36b0 := hk_of _ _ trivial
theorem w36q0 [Alg] (N : Nat) (self : Sg → O) (K : Exit → Sg → O) (x : Int × Int × Int × Int × Bool × Int × Int × (List Int) × Int × Int × Int × (List Int) × (List Int)) : w36F0 N  (fun v0 v1 => self (w36I0 (x.1, x.2.1, x.2.2.1, x.2.2.2.1, x.2.2.2.2.1, x.2.2.2.2.2.1, v0, x.2.2.2.2.2.2.2.1, x.2.2.2.2.2.2.2.2.1, v1, x.2.2.2.2.2.2.2.2.2.2.1, x.2.2.2.2.2.2.2.2.2.2.2.1, x.2.2.2.2.2.2.2.2.2.2.2.2))) (fun y0 y1 y2 y3 y4 y5 y6 y7 y8 y9 y10 y11 y12 y13 => K (w36X0_0 (y0, y1, y2, y3, y4, y5, y6, y7, y8, y9, y10, y11, y12, y13)).1 (w36X0_0 (y0, y1, y2, y3, y4, y5, y6, y7, y8, y9, y10, y11, y12, y13)).2) x.1 x.2.1 x.2.2.1 x.2.2.2.1 x.2.2.2.2.1 x.2.2.2.2.2.1 x.2.2.2.2.2.2.2.1 x.2.2.2.2.2.2.2.2.1 x.2.2.2.2.2.2.2.2.2.2.1 x.2.2.2.2.2.2.2.2.2.2.2.1 x.2.2.2.2.2.2.2.2.2.2.2.2 x.2.2.2.2.2.2.1 x.2.2.2.2.2.2.2.2.2.1 = exec (w36c N) Tryd.f36.ntmps (w36h0 N) w36b0 (w36I0 x) (roundX w36m0 w36w0 self K) := by kernel_rfl
theorem w36S0 (N : Nat) (hc : CxOk (w36c N)) : SubOk (w36c N) Tryd.f36.ntmps (.loop w36b0) w36X0_0 (noX 1) (noX 2) (subL w36I0 w36u0 (w36l0 N N)) :=
  sub_loop hc (w36hk0 N) w36o0 (n := N) (fun x K => loop_ind (w36l0 N) (fun _ _ _ _ => rfl) (fun n K ih x => by
    have h : w36F0 N  (fun v0 v1 => w36l0 N n (x.1, x.2.1, x.2.2.1, x.2.2.2.1, x.2.2.2.2.1, x.2.2.2.2.2.1, v0, x.2.2.2.2.2.2.2.1, x.2.2.2.2.2.2.2.2.1, v1, x.2.2.2.2.2.2.2.2.2.2.1, x.2.2.2.2.2.2.2.2.2.2.2.1, x.2.2.2.2.2.2.2.2.2.2.2.2) (fun y => K (w36X0_0 y).1 (w36X0_0 y).2) (fun y => K ((noX 1) y).1 ((noX 1) y).2) (fun y => K ((noX 2) y).1 ((noX 2) y).2)) (fun y0 y1 y2 y3 y4 y5 y6 y7 y8 y9 y10 y11 y12 y13 => K (w36X0_0 (y0, y1, y2, y3, y4, y5, y6, y7, y8, y9, y10, y11, y12, y13)).1 (w36X0_0 (y0, y1, y2, y3, y4, y5, y6, y7, y8, y9, y10, y11, y12, y13)).2) x.1 x.2.1 x.2.2.1 x.2.2.2.1 x.2.2.2.2.1 x.2.2.2.2.2.1 x.2.2.2.2.2.2.2.1 x.2.2.2.2.2.2.2.2.1 x.2.2.2.2.2.2.2.2.2.2.1 x.2.2.2.2.2.2.2.2.2.2.2.1 x.2.2.2.2.2.2.2.2.2.2.2.2 x.2.2.2.2.2.2.1 x.2.2.2.2.2.2.2.2.2.1 = w36F0 N  (fun v0 v1 => loopX (w36c N) Tryd.f36.ntmps (w36h0 N) w36b0 w36m0 w36w0 n (w36I0 (x.1, x.2.1, x.2.2.1, x.2.2.2.1, x.2.2.2.2.1, x.2.2.2.2.2.1, v0, x.2.2.2.2.2.2.2.1, x.2.2.2.2.2.2.2.2.1, v1, x.2.2.2.2.2.2.2.2.2.2.1, x.2.2.2.2.2.2.2.2.2.2.2.1, x.2.2.2.2.2.2.2.2.2.2.2.2)) K) (fun y0 y1 y2 y3 y4 y5 y6 y7 y8 y9 y10 y11 y12 y13 => K (w36X0_0 (y0, y1, y2, y3, y4, y5, y6, y7, y8, y9, y10, y11, y12, y13)).1 (w36X0_0 (y0, y1, y2, y3, y4, y5, y6, y7, y8, y9, y10, y11, y12, y13)).2) x.1 x.2.1 x.2.2.1 x.2.2.2.1 x.2.2.2.2.1 x.2.2.2.2.2.1 x.2.2.2.2.2.2.2.1 x.2.2.2.2.2.2.2.2.1 x.2.2.2.2.2.2.2.2.2.2.1 x.2.2.2.2.2.2.2.2.2.2.2.1 x.2.2.2.2.2.2.2.2.2.2.2.2 x.2.2.2.2.2.2.1 x.2.2.2.2.2.2.2.2.2.1 := by rw [ show (fun v0 v1 => w36l0 N n (x.1, x.2.1, x.2.2.1, x.2.2.2.1, x.2.2.2.2.1, x.2.2.2.2.2.1, v0, x.2.2.2.2.2.2.2.1, x.2.2.2.2.2.2.2.2.1, v1, x.2.2.2.2.2.2.2.2.2.2.1, x.2.2.2.2.2.2.2.2.2.2.2.1, x.2.2.2.2.2.2.2.2.2.2.2.2) (fun y => K (w36X0_0 y).1 (w36X0_0 y).2) (fun y => K ((noX 1) y).1 ((noX 1) y).2) (fun y => K ((noX 2) y).1 ((noX 2) y).2)) = (fun v0 v1 => loopX (w36c N) Tryd.f36.ntmps (w36h0 N) w36b0 w36m0 w36w0 n (w36I0 (x.1, x.2.1, x.2.2.1, x.2.2.2.1, x.2.2.2.2.1, x.2.2.2.2.2.1, v0, x.2.2.2.2.2.2.2.1, x.2.2.2.2.2.2.2.2.1, v1, x.2.2.2.2.2.2.2.2.2.2.1, x.2.2.2.2.2.2.2.2.2.2.2.1, x.2.2.2.2.2.2.2.2.2.2.2.2)) K) from funext fun _ => funext fun _ => ih _]
    exact h.trans (w36q0 N (fun σ => loopX (w36c N) Tryd.f36.ntmps (w36h0 N) w36b0 w36m0 w36w0 n σ K) K x)) N x K)
def w36F1 [Alg] (_ : Nat) (in0 : Int → Int → Int → Int → Bool → Int → Int → (List Int) → Int → Int → Int → (List Int) → (List Int) → (Int → Int → Int → Int → Bool → Int → Int → (List Int) → Int → Int → Bool → Int → (List Int) → (List Int) → O) → O) (self : Int → Int → Int → Int → Int → (List Int) → (List Int) → O) (k0 : (List Int) → O) (x0_0 : Int) (x0_1 : Int) (x0_2 : Int) (x0_3 : Int) (x0_4 : Int) (x0_5 : (List Int)) (x0_6 : (List Int)) : O :=
  br (decide (x0_3 < x0_2))
    (in0 x0_0 x0_1 x0_2 x0_3 (decide (x0_3 < x0_2)) x0_0 x0_0 x0_5 ((↑x0_5.length : Int)) ((0 : Int)) x0_4 x0_5 x0_6
      (fun _ z59 z60 z61 _ _ z64 _ _ _ _ z69 z70 z71 =>
        br (decide (z69 = (3 : Int)))
          (ck true <|
          ck (lim (z71 ++ [IntKind.i64.wrap (z64.tdiv (10 : Int))]).length (8 : Nat)) <|
          self (IntKind.i64.wrap (z64.tdiv (10 : Int))) (IntKind.i64.wrap (z59 * (10 : Int))) z60 (IntKind.i64.wrap (z61 + (1 : Int))) z69 z70 (z71 ++ [IntKind.i64.wrap (z64.tdiv (10 : Int))]))
          (ck (lim (z71 ++ [min (max z64 (0 : Int)) (1 : Int)]).length (8 : Nat)) <|
          self (min (max z64 (0 : Int)) (1 : Int)) (IntKind.i64.wrap (z59 * (10 : Int))) z60 (IntKind.i64.wrap (z61 + (1 : Int))) z69 z70 (z71 ++ [min (max z64 (0 : Int)) (1 : Int)]))))
    (k0 x0_6)
noncomputable def w36b1 : Code := atC [1, 1, 1, 0, 1, 0, 0] w36b
def w36m1 : Nm := ⟨[1, 2, 3, 4, 5, 13, 14], [], [.nilR 3 (.row 3 (.i .i64) [] true)]⟩
def w36I1 (x : Int × Int × Int × Int × Int × (List Int) × (List Int)) : Sg := ⟨[(1, .ref 0 0), (2, .nilS), (3, .own 1), (4, .e (.i .i64) x.1), (5, .e (.i .i64) x.2.1), (13, .e (.i .i64) x.2.2.1), (14, .e (.i .i64) x.2.2.2.1)], [(0, .box 24 [.e (.i .i64) x.2.2.2.2.1, .e (.sl (.i .i64)) x.2.2.2.2.2.1]), (1, .row 3 (.i .i64) x.2.2.2.2.2.2 true)], 100⟩
def w36u1 (σ : Sg) : Int × Int × Int × Int × Int × (List Int) × (List Int) := (lvT (.i .i64) 4 0 σ, lvT (.i .i64) 5 0 σ, lvT (.i .i64) 13 0 σ, lvT (.i .i64) 14 0 σ, lvH (.i .i64) 0 0 σ, lvH (.sl (.i .i64)) 0 1 σ, lvR (.i .i64) 1 σ)
theorem w36ui1 : ∀ x, w36u1 (w36I1 x) = x := fun _ => by kernel_rfl
def w36X1_0 (y : (List Int)) : Exit × Sg := ((.exit 0), ⟨[(2, .nilS), (3, .own 0)], [(0, .row 3 (.i .i64) y true)], 100⟩)
def w36v1_0 (σ : Sg) : (List Int) := lvR (.i .i64) 0 σ
def w36w1 : List (Exit × Nm) := [((.exit 0), ⟨[2, 3], [], []⟩)]
theorem w36o1 : Outs w36v1_0 (fun _ => ()) (fun _ => ()) w36X1_0 (noX 1) (noX 2) (.exit 0) (.goto 1) (.goto 2) := ⟨fun _ => by kernel_rfl, fun _ => by kernel_rfl, fun _ => by kernel_rfl, fun _ => by kernel_rfl, fun _ => by kernel_rfl, fun _ => by kernel_rfl, exNe_ok (by kernel_rfl), exNe_ok (by kernel_rfl), exNe_ok (by kernel_rfl)⟩
def w36l1 [Alg] (N : Nat) : Nat → (Int × Int × Int × Int × Int × (List Int) × (List Int)) → (((List Int)) → O) → ((Unit) → O) → ((Unit) → O) → O
  | 0, _, _, _, _ => none
  | n + 1, x, k0, k1, k2 => w36F1 N (w36n0 N) (fun v0 v1 v2 v3 v4 v5 v6 => w36l1 N n (v0, v1, v2, v3, v4, v5, v6) k0 k1 k2) (fun y0 => k0 y0) x.1 x.2.1 x.2.2.1 x.2.2.2.1 x.2.2.2.2.1 x.2.2.2.2.2.1 x.2.2.2.2.2.2
def w36n1 [Alg] (N : Nat) (a0 : Int) (a1 : Int) (a2 : Int) (a3 : Int) (a4 : Int) (a5 : (List Int)) (a6 : (List Int)) (k0 : (List Int) → O) : O := w36l1 N N (a0, a1, a2, a3, a4, a5, a6) (fun y => k0 y) (fun _ => none) (fun _ => none)
noncomputable def w36s1 [Alg] (N : Nat) (a0 : Int) (a1 : Int) (a2 : Int) (a3 : Int) (a4 : Int) (a5 : (List Int)) (a6 : (List Int)) (k0 : (List Int) → O) : O := subL w36I1 w36u1 (w36l1 N N) (w36I1 (a0, a1, a2, a3, a4, a5, a6)) (fun y => k0 y) (fun _ => none) (fun _ => none)
theorem w36e1 [Alg] (N : Nat) : w36s1 N = w36n1 N := funext fun _ => funext fun _ => funext fun _ => funext fun _ => funext fun _ => funext fun _ => funext fun _ => funext fun _ => subL_I w36ui1 _ _ _ _
noncomputable def w36h1 [Alg] (N : Nat) : Hint := (.seq .d (.seq .d (.seq (.block (.seq .d (.seq (.seq .d (.block (.sub w36m0 _ _ _ w36X0_0 (noX 1) (noX 2) (subL w36I0 w36u0 (w36l0 N N))))) .d))) .d)))
theorem w36hk1 (N : Nat) (hc : CxOk (w36c N)) : HintOk (w36c N) Tryd.f36.ntmps (w36h1 N) w36b1 := hk_of _ _ (And.intro trivial (And.intro trivial (And.intro (And.intro trivial (And.intro (And.intro trivial (w36S0 N hc)) trivial)) trivial)))
theorem w36q1 [Alg] (N : Nat) (self : Sg → O) (K : Exit → Sg → O) (x : Int × Int × Int × Int × Int × (List Int) × (List Int)) : w36F1 N (w36s0 N) (fun v0 v1 v2 v3 v4 v5 v6 => self (w36I1 (v0, v1, v2, v3, v4, v5, v6))) (fun y0 => K (w36X1_0 y0).1 (w36X1_0 y0).2) x.1 x.2.1 x.2.2.1 x.2.2.2.1 x.2.2.2.2.1 x.2.2.2.2.2.1 x.2.2.2.2.2.2 = exec (w36c N) Tryd.f36.ntmps (w36h1 N) w36b1 (w36I1 x) (roundX w36m1 w36w1 self K) := by kernel_rfl
theorem w36S1 (N : Nat) (hc : CxOk (w36c N)) : SubOk (w36c N) Tryd.f36.ntmps (.loop w36b1) w36X1_0 (noX 1) (noX 2) (subL w36I1 w36u1 (w36l1 N N)) :=
  sub_loop hc (w36hk1 N hc) w36o1 (n := N) (fun x K => loop_ind (w36l1 N) (fun _ _ _ _ => rfl) (fun n K ih x => by
    have h : w36F1 N (w36n0 N) (fun v0 v1 v2 v3 v4 v5 v6 => w36l1 N n (v0, v1, v2, v3, v4, v5, v6) (fun y => K (w36X1_0 y).1 (w36X1_0 y).2) (fun y => K ((noX 1) y).1 ((noX 1) y).2) (fun y => K ((noX 2) y).1 ((noX 2) y).2)) (fun y0 => K (w36X1_0 y0).1 (w36X1_0 y0).2) x.1 x.2.1 x.2.2.1 x.2.2.2.1 x.2.2.2.2.1 x.2.2.2.2.2.1 x.2.2.2.2.2.2 = w36F1 N (w36s0 N) (fun v0 v1 v2 v3 v4 v5 v6 => loopX (w36c N) Tryd.f36.ntmps (w36h1 N) w36b1 w36m1 w36w1 n (w36I1 (v0, v1, v2, v3, v4, v5, v6)) K) (fun y0 => K (w36X1_0 y0).1 (w36X1_0 y0).2) x.1 x.2.1 x.2.2.1 x.2.2.2.1 x.2.2.2.2.1 x.2.2.2.2.2.1 x.2.2.2.2.2.2 := by rw [w36e0 N, show (fun v0 v1 v2 v3 v4 v5 v6 => w36l1 N n (v0, v1, v2, v3, v4, v5, v6) (fun y => K (w36X1_0 y).1 (w36X1_0 y).2) (fun y => K ((noX 1) y).1 ((noX 1) y).2) (fun y => K ((noX 2) y).1 ((noX 2) y).2)) = (fun v0 v1 v2 v3 v4 v5 v6 => loopX (w36c N) Tryd.f36.ntmps (w36h1 N) w36b1 w36m1 w36w1 n (w36I1 (v0, v1, v2, v3, v4, v5, v6)) K) from funext fun _ => funext fun _ => funext fun _ => funext fun _ => funext fun _ => funext fun _ => funext fun _ => ih _]
    exact h.trans (w36q1 N (fun σ => loopX (w36c N) Tryd.f36.ntmps (w36h1 N) w36b1 w36m1 w36w1 n σ K) K x)) N x K)
def w36G [Alg] (N : Nat) (_in0 : Int → Int → Int → Int → Bool → Int → Int → (List Int) → Int → Int → Int → (List Int) → (List Int) → (Int → Int → Int → Int → Bool → Int → Int → (List Int) → Int → Int → Bool → Int → (List Int) → (List Int) → O) → O) (in1 : Int → Int → Int → Int → Int → (List Int) → (List Int) → ((List Int) → O) → O) (s0_0 : Int) (s0_1 : (List Int)) : O :=
  ck (w58p N s0_1) <|
  ck (w57p N (w58y0 N s0_1)) <|
  in1 ((0 : Int)) ((1 : Int)) (w57y0 N (w58y0 N s0_1)) ((0 : Int)) s0_0 s0_1 []
    (fun z72 =>
      some (w36r0 z72))
def w36 [Alg] (N : Nat) (s0_0 : Int) (s0_1 : (List Int)) : O := w36G N (w36n0 N) (w36n1 N) s0_0 s0_1
noncomputable def w36h [Alg] (N : Nat) : Hint := (.seq .d (.seq .d (.seq .d (.seq (.seq .d (.block (.sub w36m1 _ _ _ w36X1_0 (noX 1) (noX 2) (subL w36I1 w36u1 (w36l1 N N))))) .d))))
theorem w36hk (N : Nat) (hc : CxOk (w36c N)) : HintOk (w36c N) Tryd.f36.ntmps (w36h N) w36b := hk_of _ _ (And.intro trivial (And.intro trivial (And.intro trivial (And.intro (And.intro trivial (w36S1 N hc)) trivial))))
theorem w36q [Alg] (N : Nat) (s0_0 : Int) (s0_1 : (List Int)) : w36G N (w36s0 N) (w36s1 N) s0_0 s0_1 = exec (w36c N) Tryd.f36.ntmps (w36h N) w36b ⟨argT 0 [.agg [.e (.i .i64) s0_0, .e (.sl (.i .i64)) s0_1]], [], 100⟩ (finX (w36c N) Tryd.f36 false) := by kernel_rfl
theorem w36does {N : Nat} (hc : CxOk (w36c N)) {s0_0 : Int} {s0_1 : (List Int)} {r : Res} (h : w36 N s0_0 s0_1 = some r) : Does Tryd.prog 36 (([.agg [.e (.i .i64) s0_0, .e (.sl (.i .i64)) s0_1]] : List X).map X.D) (HA []) r.1.D (HA r.2) :=
  fun_ok hc (f := 36) (fn := Tryd.f36) (code := w36b) (by kernel_rfl) (by kernel_rfl) (w36hk N hc) (Nat.le_of_ble_eq_true (by kernel_rfl)) (ow := false) ((w36q N s0_0 s0_1).symm.trans (by rw [w36e0 N, w36e1 N]; exact h))
def w36un (r : Res) : Option ((List Int)) := match r with
  | (x0, []) => (match ue (.sl (.i .i64)) x0 with | some a0 => some a0 | _ => none)
  | _ => none
theorem w36uo {r : Res} {d : (List Int)} (h : w36un r = some d) : r = w36r0 (d) := by
  unfold w36un at h
  split at h
  · split at h
    · rename_i h0; cases h; rw [ue_some h0]; rfl
    · cases h
  · cases h
def w36z (N : Nat) (s0_0 : Int) (s0_1 : (List Int)) : Option ((List Int)) := (w36 N s0_0 s0_1).bind w36un
theorem w36fin {N : Nat} (hc : CxOk (w36c N)) {s0_0 : Int} {s0_1 : (List Int)} {d : (List Int)} (hd : w36z N s0_0 s0_1 = some d) : Does Tryd.prog 36 (([.agg [.e (.i .i64) s0_0, .e (.sl (.i .i64)) s0_1]] : List X).map X.D) (HA []) (w36r0 (d)).1.D (HA (w36r0 (d)).2) := by
  obtain ⟨r, hr, hu⟩ := Option.bind_eq_some_iff.1 hd
  have := w36does hc hr
  rw [w36uo hu] at this
  exact this
def w36p (N : Nat) (s0_0 : Int) (s0_1 : (List Int)) : Bool := (w36z N s0_0 s0_1).isSome
def w36y0 (N : Nat) (s0_0 : Int) (s0_1 : (List Int)) : (List Int) := ((w36z N s0_0 s0_1).getD [])
def w36e (N : Nat) : Ent' := E1 (.pr (.i .i64) (.sl (.i .i64)))  (fun x0 => (w36p N x0.1 x0.2, w36r0 (w36y0 N x0.1 x0.2)))
theorem w36re {N : Nat} {s0_0 : Int} {s0_1 : (List Int)} {d : (List Int)} (hd : w36z N s0_0 s0_1 = some d) : w36r0 (w36y0 N s0_0 s0_1) = w36r0 (d) := by unfold w36y0; rw [hd]; rfl
theorem w36ok (N : Nat) : EOk Tryd.prog 36 (w36e N) := EOk.e1 (fun x0 h => by
  have h : (w36z N x0.1 x0.2).isSome = true := h
  obtain ⟨d, hd⟩ := Option.isSome_iff_exists.1 h
  have f := w36fin (w36cx N) hd
  rw [← w36re hd] at f
  exact f)
def w15r0 (a0 : (List Int)) (a1 : Int) : Res := (.tup [.e (.sl (.i .i64)) a0, .e (.i .i64) a1], [])
noncomputable def w15L (N : Nat) : List (Nat × Ent') := [(17, w17e N), (36, w36e N)]
noncomputable def w15c (N : Nat) : Cx := ⟨Tryd.prog, 99999, w15L N⟩
noncomputable def w15b : Code := Tryd.f15.body.getD .skip
theorem w15cx (N : Nat) : CxOk (w15c N) := ctx_ok (by kernel_rfl) (.cons (by kernel_rfl) (w17ok N) (.cons (by kernel_rfl) (w36ok N) .nil))
def w15G [Alg] (N : Nat)  (s0_0 : Int) (s0_1 : (List Int)) : O :=
  ck (w17p N s0_0 s0_1) <|
  br (decide (w17y0 N s0_0 s0_1 ≠ (0 : Int)))
    (some (w15r0 [] (w17y0 N s0_0 s0_1)))
    (br (decide (s0_0 ≠ (3 : Int)) && decide (s0_0 ≠ (4 : Int)))
      (some (w15r0 [] ((1 : Int))))
      (ck (w36p N s0_0 s0_1) <|
      some (w15r0 (w36y0 N s0_0 s0_1) ((0 : Int)))))
def w15 [Alg] (N : Nat) (s0_0 : Int) (s0_1 : (List Int)) : O := w15G N  s0_0 s0_1
noncomputable def w15h [Alg] (_ : Nat) : Hint := .d
theorem w15hk (N : Nat) : HintOk (w15c N) Tryd.f15.ntmps (w15h N) w15b := hk_of _ _ trivial
theorem w15q [Alg] (N : Nat) (s0_0 : Int) (s0_1 : (List Int)) : w15G N  s0_0 s0_1 = exec (w15c N) Tryd.f15.ntmps (w15h N) w15b ⟨argT 0 [.agg [.e (.i .i64) s0_0, .e (.sl (.i .i64)) s0_1]], [], 100⟩ (finX (w15c N) Tryd.f15 false) := by kernel_rfl
theorem w15does {N : Nat} (hc : CxOk (w15c N)) {s0_0 : Int} {s0_1 : (List Int)} {r : Res} (h : w15 N s0_0 s0_1 = some r) : Does Tryd.prog 15 (([.agg [.e (.i .i64) s0_0, .e (.sl (.i .i64)) s0_1]] : List X).map X.D) (HA []) r.1.D (HA r.2) :=
  fun_ok hc (f := 15) (fn := Tryd.f15) (code := w15b) (by kernel_rfl) (by kernel_rfl) (w15hk N) (Nat.le_of_ble_eq_true (by kernel_rfl)) (ow := false) ((w15q N s0_0 s0_1).symm.trans (by exact h))
def w15un (r : Res) : Option ((List Int) × Int) := match r with
  | (.tup [x0, x1], []) => (match ue (.sl (.i .i64)) x0, ue (.i .i64) x1 with | some a0, some a1 => some (a0, a1) | _, _ => none)
  | _ => none
theorem w15uo {r : Res} {d : (List Int) × Int} (h : w15un r = some d) : r = w15r0 (d.1) (d.2) := by
  unfold w15un at h
  split at h
  · split at h
    · rename_i h0 h1; cases h; rw [ue_some h0, ue_some h1]; rfl
    · cases h
  · cases h
def w15z (N : Nat) (s0_0 : Int) (s0_1 : (List Int)) : Option ((List Int) × Int) := (w15 N s0_0 s0_1).bind w15un
theorem w15fin {N : Nat} (hc : CxOk (w15c N)) {s0_0 : Int} {s0_1 : (List Int)} {d : (List Int) × Int} (hd : w15z N s0_0 s0_1 = some d) : Does Tryd.prog 15 (([.agg [.e (.i .i64) s0_0, .e (.sl (.i .i64)) s0_1]] : List X).map X.D) (HA []) (w15r0 (d.1) (d.2)).1.D (HA (w15r0 (d.1) (d.2)).2) := by
  obtain ⟨r, hr, hu⟩ := Option.bind_eq_some_iff.1 hd
  have := w15does hc hr
  rw [w15uo hu] at this
  exact this
def w15p (N : Nat) (s0_0 : Int) (s0_1 : (List Int)) : Bool := (w15z N s0_0 s0_1).isSome
def w15y0 (N : Nat) (s0_0 : Int) (s0_1 : (List Int)) : (List Int) := ((w15z N s0_0 s0_1).getD ([], 0)).1
def w15y1 (N : Nat) (s0_0 : Int) (s0_1 : (List Int)) : Int := ((w15z N s0_0 s0_1).getD ([], 0)).2
def w15e (N : Nat) : Ent' := E1 (.pr (.i .i64) (.sl (.i .i64)))  (fun x0 => (w15p N x0.1 x0.2, w15r0 (w15y0 N x0.1 x0.2) (w15y1 N x0.1 x0.2)))
theorem w15re {N : Nat} {s0_0 : Int} {s0_1 : (List Int)} {d : (List Int) × Int} (hd : w15z N s0_0 s0_1 = some d) : w15r0 (w15y0 N s0_0 s0_1) (w15y1 N s0_0 s0_1) = w15r0 (d.1) (d.2) := by unfold w15y0 w15y1; rw [hd]; rfl
theorem w15ok (N : Nat) : EOk Tryd.prog 15 (w15e N) := EOk.e1 (fun x0 h => by
  have h : (w15z N x0.1 x0.2).isSome = true := h
  obtain ⟨d, hd⟩ := Option.isSome_iff_exists.1 h
  have f := w15fin (w15cx N) hd
  rw [← w15re hd] at f
  exact f)
def w59r0 (a0 : (List UInt8)) : Res := (.e .tx a0, [])
def w59G [Alg] (N : (Nat × (Int → Option ((List UInt8)))))  (n0 : Int) : O :=
  br (decide (n0 < (10 : Int)))
    (some (w59r0 [u8of (IntKind.i64.wrap ((48 : Int) + n0))]))
    (ck true <|
    ck ((N.2 (IntKind.i64.wrap (n0.tdiv (10 : Int)))).isSome) <|
    ck true <|
    ck (decide ((↑((N.2 (IntKind.i64.wrap (n0.tdiv (10 : Int)))).getD []).length : Int) + (↑[u8of (IntKind.i64.wrap ((48 : Int) + n0.tmod (10 : Int)))].length : Int) ≤ (9223372036854775807 : Int))) <|
    some (w59r0 ((N.2 (IntKind.i64.wrap (n0.tdiv (10 : Int)))).getD [] ++ [u8of (IntKind.i64.wrap ((48 : Int) + n0.tmod (10 : Int)))])))
def w59 [Alg] (N : (Nat × (Int → Option ((List UInt8))))) (n0 : Int) : O := w59G N  n0
def w59un (r : Res) : Option ((List UInt8)) := match r with
  | (x0, []) => (match ue .tx x0 with | some a0 => some a0 | _ => none)
  | _ => none
def w59z (N : (Nat × (Int → Option ((List UInt8))))) (n0 : Int) : Option ((List UInt8)) := (w59 N n0).bind w59un
def w59Y (N : Nat) : Nat → Int → Option ((List UInt8))
  | 0, _ => none
  | n + 1, n0 => w59z (N, w59Y N n) n0
def w59p (N : Nat) (n0 : Int) : Bool := (w59Y N N n0).isSome
def w59y0 (N : Nat) (n0 : Int) : (List UInt8) := ((w59Y N N n0).getD [])
def w60r0 (a0 : Int) : Res := (.e (.i .i64) a0, [])
def w60F0 [Alg] (_ : Nat)  (self : Int → Int → O) (k0 : Int → Int → O) (x0_1 : Int) (x0_2 : Int) (x0_0 : Int) (x0_3 : Int) : O :=
  br (decide (x0_3 < x0_1))
    (ck true <|
    self (IntKind.i64.wrap (x0_0.tdiv (10 : Int))) (IntKind.i64.wrap (x0_3 + (1 : Int))))
    (k0 x0_0 x0_2)
def w60l0 [Alg] (N : Nat) : Nat → (Int × Int × Int × Int) → ((Int × Int) → O) → ((Unit) → O) → ((Unit) → O) → O
  | 0, _, _, _, _ => none
  | n + 1, x, k0, k1, k2 => w60F0 N  (fun v0 v1 => w60l0 N n (v0, x.2.1, x.2.2.1, v1) k0 k1 k2) (fun y0 y1 => k0 (y0, y1)) x.2.1 x.2.2.1 x.1 x.2.2.2
def w60n0 [Alg] (N : Nat) (a0 : Int) (a1 : Int) (a2 : Int) (a3 : Int) (k0 : Int → Int → O) : O := w60l0 N N (a0, a1, a2, a3) (fun y => k0 y.1 y.2) (fun _ => none) (fun _ => none)
def w60G [Alg] (_ : Nat) (in0 : Int → Int → Int → Int → (Int → Int → O) → O) (n0 : Int) (column1 : Int) : O :=
  in0 n0 column1 ((0 : Int)) ((0 : Int))
    (fun z1 _ =>
      ck true <|
      some (w60r0 (z1.tmod (10 : Int))))
def w60 [Alg] (N : Nat) (n0 : Int) (column1 : Int) : O := w60G N (w60n0 N) n0 column1
def w60un (r : Res) : Option (Int) := match r with
  | (x0, []) => (match ue (.i .i64) x0 with | some a0 => some a0 | _ => none)
  | _ => none
def w60z (N : Nat) (n0 : Int) (column1 : Int) : Option (Int) := (w60 N n0 column1).bind w60un
def w60p (N : Nat) (n0 : Int) (column1 : Int) : Bool := (w60z N n0 column1).isSome
def w60y0 (N : Nat) (n0 : Int) (column1 : Int) : Int := ((w60z N n0 column1).getD 0)
def w38r0 (a0 : Int) : Res := (.e (.i .i64) a0, [])
def w38F0 [Alg] (N : (Nat × (Int → (List Int) → Int → Option (Int))))  (self : Int → Int → O) (k0 : Int → Int → O) (x2_0 : Int) (x2_1 : Int) (_x2_4 : Int) (x2_5 : (List Int)) (x2_2 : Int) (x2_3 : Int) : O :=
  br (decide (x2_3 < (↑x2_5.length : Int)))
    (gx x2_5 x2_3 fun y5 =>
    ck (w60p N.1 y5 x2_0) <|
    self (IntKind.i64.wrap (x2_2 + w60y0 N.1 y5 x2_0)) (IntKind.i64.wrap (x2_3 + (1 : Int))))
    (k0 x2_1 x2_2)
def w38l0 [Alg] (N : (Nat × (Int → (List Int) → Int → Option (Int)))) : Nat → (Int × Int × Int × Int × Int × (List Int)) → ((Int × Int) → O) → ((Unit) → O) → ((Unit) → O) → O
  | 0, _, _, _, _ => none
  | n + 1, x, k0, k1, k2 => w38F0 N  (fun v0 v1 => w38l0 N n (x.1, x.2.1, v0, v1, x.2.2.2.2.1, x.2.2.2.2.2) k0 k1 k2) (fun y0 y1 => k0 (y0, y1)) x.1 x.2.1 x.2.2.2.2.1 x.2.2.2.2.2 x.2.2.1 x.2.2.2.1
def w38n0 [Alg] (N : (Nat × (Int → (List Int) → Int → Option (Int)))) (a0 : Int) (a1 : Int) (a2 : Int) (a3 : Int) (a4 : Int) (a5 : (List Int)) (k0 : Int → Int → O) : O := w38l0 N N.1 (a0, a1, a2, a3, a4, a5) (fun y => k0 y.1 y.2) (fun _ => none) (fun _ => none)
def w38G [Alg] (N : (Nat × (Int → (List Int) → Int → Option (Int)))) (in0 : Int → Int → Int → Int → Int → (List Int) → (Int → Int → O) → O) (s0_0 : Int) (s0_1 : (List Int)) (column1 : Int) : O :=
  br (decide (column1 < (0 : Int)))
    (some (w38r0 ((0 : Int))))
    (ck ((N.2 s0_0 s0_1 (IntKind.i64.wrap (column1 - (1 : Int)))).isSome) <|
    br (decide (s0_0 = (4 : Int)))
      (gx s0_1 ((0 : Int)) fun y0 =>
      ck (w60p N.1 y0 column1) <|
      gx s0_1 ((1 : Int)) fun y1 =>
      ck (w60p N.1 y1 column1) <|
      br (decide (w60y0 N.1 y0 column1 < IntKind.i64.wrap (w60y0 N.1 y1 column1 + (N.2 s0_0 s0_1 (IntKind.i64.wrap (column1 - (1 : Int)))).getD (0 : Int))))
        (some (w38r0 ((1 : Int))))
        (some (w38r0 ((0 : Int)))))
      (in0 column1 ((0 : Int)) ((N.2 s0_0 s0_1 (IntKind.i64.wrap (column1 - (1 : Int)))).getD (0 : Int)) ((0 : Int)) s0_0 s0_1
        (fun _ z7 =>
          ck true <|
          some (w38r0 (IntKind.i64.wrap (z7.tdiv (10 : Int)))))))
def w38 [Alg] (N : (Nat × (Int → (List Int) → Int → Option (Int)))) (s0_0 : Int) (s0_1 : (List Int)) (column1 : Int) : O := w38G N (w38n0 N) s0_0 s0_1 column1
def w38un (r : Res) : Option (Int) := match r with
  | (x0, []) => (match ue (.i .i64) x0 with | some a0 => some a0 | _ => none)
  | _ => none
def w38z (N : (Nat × (Int → (List Int) → Int → Option (Int)))) (s0_0 : Int) (s0_1 : (List Int)) (column1 : Int) : Option (Int) := (w38 N s0_0 s0_1 column1).bind w38un
def w38Y (N : Nat) : Nat → Int → (List Int) → Int → Option (Int)
  | 0, _, _, _ => none
  | n + 1, s0_0, s0_1, column1 => w38z (N, w38Y N n) s0_0 s0_1 column1
def w38p (N : Nat) (s0_0 : Int) (s0_1 : (List Int)) (column1 : Int) : Bool := (w38Y N N s0_0 s0_1 column1).isSome
def w38y0 (N : Nat) (s0_0 : Int) (s0_1 : (List Int)) (column1 : Int) : Int := ((w38Y N N s0_0 s0_1 column1).getD 0)
def w19r0 (a0 : Bool) : Res := (.e .bo a0, [])
noncomputable def w19L (_ : Nat) : List (Nat × Ent') := []
noncomputable def w19c (N : Nat) : Cx := ⟨Tryd.prog, 99999, w19L N⟩
noncomputable def w19b : Code := Tryd.f19.body.getD .skip
theorem w19cx (N : Nat) : CxOk (w19c N) := ctx_ok (by kernel_rfl) .nil
def w19F0 [Alg] (_ : Nat)  (self : Int → O) (k0 : Bool → O) (k1 : Bool → O) (x0_0 : (List Int)) (x0_1 : (List Int)) (x0_2 : Bool) (x0_3 : Int) : O :=
  br (decide (x0_3 < (↑x0_0.length : Int)))
    (gx x0_0 x0_3 fun y5 =>
    gx x0_1 x0_3 fun y6 =>
    br (decide (y5 ≠ y6))
      (k0 false)
      (self (IntKind.i64.wrap (x0_3 + (1 : Int)))))
    (k1 x0_2)
noncomputable def w19b0 : Code := atC [1, 1, 0, 1, 0, 0] w19b
def w19m0 : Nm := ⟨[0, 1, 4, 5], [], []⟩
def w19I0 (x : (List Int) × (List Int) × Bool × Int) : Sg := ⟨[(0, .e (.sl (.i .i64)) x.1), (1, .e (.sl (.i .i64)) x.2.1), (4, .e .bo x.2.2.1), (5, .e (.i .i64) x.2.2.2)], [], 100⟩
def w19u0 (σ : Sg) : (List Int) × (List Int) × Bool × Int := (lvT (.sl (.i .i64)) 0 0 σ, lvT (.sl (.i .i64)) 1 0 σ, lvT .bo 4 0 σ, lvT (.i .i64) 5 0 σ)
theorem w19ui0 : ∀ x, w19u0 (w19I0 x) = x := fun _ => by kernel_rfl
def w19X0_0 (y : Bool) : Exit × Sg := (.ret, ⟨[(4, .e .bo y)], [], 100⟩)
def w19v0_0 (σ : Sg) : Bool := lvT .bo 4 0 σ
def w19X0_1 (y : Bool) : Exit × Sg := ((.exit 0), ⟨[(4, .e .bo y)], [], 100⟩)
def w19v0_1 (σ : Sg) : Bool := lvT .bo 4 0 σ
def w19w0 : List (Exit × Nm) := [(.ret, ⟨[4], [], []⟩), ((.exit 0), ⟨[4], [], []⟩)]
theorem w19o0 : Outs w19v0_0 w19v0_1 (fun _ => ()) w19X0_0 w19X0_1 (noX 2) .ret (.exit 0) (.goto 2) := ⟨fun _ => by kernel_rfl, fun _ => by kernel_rfl, fun _ => by kernel_rfl, fun _ => by kernel_rfl, fun _ => by kernel_rfl, fun _ => by kernel_rfl, exNe_ok (by kernel_rfl), exNe_ok (by kernel_rfl), exNe_ok (by kernel_rfl)⟩
def w19l0 [Alg] (N : Nat) : Nat → ((List Int) × (List Int) × Bool × Int) → ((Bool) → O) → ((Bool) → O) → ((Unit) → O) → O
  | 0, _, _, _, _ => none
  | n + 1, x, k0, k1, k2 => w19F0 N  (fun v0 => w19l0 N n (x.1, x.2.1, x.2.2.1, v0) k0 k1 k2) (fun y0 => k0 y0) (fun y0 => k1 y0) x.1 x.2.1 x.2.2.1 x.2.2.2
def w19n0 [Alg] (N : Nat) (a0 : (List Int)) (a1 : (List Int)) (a2 : Bool) (a3 : Int) (k0 : Bool → O) (k1 : Bool → O) : O := w19l0 N N (a0, a1, a2, a3) (fun y => k0 y) (fun y => k1 y) (fun _ => none)
noncomputable def w19s0 [Alg] (N : Nat) (a0 : (List Int)) (a1 : (List Int)) (a2 : Bool) (a3 : Int) (k0 : Bool → O) (k1 : Bool → O) : O := subL w19I0 w19u0 (w19l0 N N) (w19I0 (a0, a1, a2, a3)) (fun y => k0 y) (fun y => k1 y) (fun _ => none)
theorem w19e0 [Alg] (N : Nat) : w19s0 N = w19n0 N := funext fun _ => funext fun _ => funext fun _ => funext fun _ => funext fun _ => funext fun _ => subL_I w19ui0 _ _ _ _
noncomputable def w19h0 [Alg] (_ : Nat) : Hint := .d
theorem w19hk0 (N : Nat) : HintOk (w19c N) Tryd.f19.ntmps (w19h0 N) w19b0 := hk_of _ _ trivial
theorem w19q0 [Alg] (N : Nat) (self : Sg → O) (K : Exit → Sg → O) (x : (List Int) × (List Int) × Bool × Int) : w19F0 N  (fun v0 => self (w19I0 (x.1, x.2.1, x.2.2.1, v0))) (fun y0 => K (w19X0_0 y0).1 (w19X0_0 y0).2) (fun y0 => K (w19X0_1 y0).1 (w19X0_1 y0).2) x.1 x.2.1 x.2.2.1 x.2.2.2 = exec (w19c N) Tryd.f19.ntmps (w19h0 N) w19b0 (w19I0 x) (roundX w19m0 w19w0 self K) := by kernel_rfl
theorem w19S0 (N : Nat) (hc : CxOk (w19c N)) : SubOk (w19c N) Tryd.f19.ntmps (.loop w19b0) w19X0_0 w19X0_1 (noX 2) (subL w19I0 w19u0 (w19l0 N N)) :=
  sub_loop hc (w19hk0 N) w19o0 (n := N) (fun x K => loop_ind (w19l0 N) (fun _ _ _ _ => rfl) (fun n K ih x => by
    have h : w19F0 N  (fun v0 => w19l0 N n (x.1, x.2.1, x.2.2.1, v0) (fun y => K (w19X0_0 y).1 (w19X0_0 y).2) (fun y => K (w19X0_1 y).1 (w19X0_1 y).2) (fun y => K ((noX 2) y).1 ((noX 2) y).2)) (fun y0 => K (w19X0_0 y0).1 (w19X0_0 y0).2) (fun y0 => K (w19X0_1 y0).1 (w19X0_1 y0).2) x.1 x.2.1 x.2.2.1 x.2.2.2 = w19F0 N  (fun v0 => loopX (w19c N) Tryd.f19.ntmps (w19h0 N) w19b0 w19m0 w19w0 n (w19I0 (x.1, x.2.1, x.2.2.1, v0)) K) (fun y0 => K (w19X0_0 y0).1 (w19X0_0 y0).2) (fun y0 => K (w19X0_1 y0).1 (w19X0_1 y0).2) x.1 x.2.1 x.2.2.1 x.2.2.2 := by rw [ show (fun v0 => w19l0 N n (x.1, x.2.1, x.2.2.1, v0) (fun y => K (w19X0_0 y).1 (w19X0_0 y).2) (fun y => K (w19X0_1 y).1 (w19X0_1 y).2) (fun y => K ((noX 2) y).1 ((noX 2) y).2)) = (fun v0 => loopX (w19c N) Tryd.f19.ntmps (w19h0 N) w19b0 w19m0 w19w0 n (w19I0 (x.1, x.2.1, x.2.2.1, v0)) K) from funext fun _ => ih _]
    exact h.trans (w19q0 N (fun σ => loopX (w19c N) Tryd.f19.ntmps (w19h0 N) w19b0 w19m0 w19w0 n σ K) K x)) N x K)
def w19G [Alg] (_ : Nat) (in0 : (List Int) → (List Int) → Bool → Int → (Bool → O) → (Bool → O) → O) (a0 : (List Int)) (b1 : (List Int)) : O :=
  br (decide ((↑a0.length : Int) ≠ (↑b1.length : Int)))
    (some (w19r0 false))
    (in0 a0 b1 false ((0 : Int))
      (fun z7 =>
        some (w19r0 z7))
      (fun _ =>
        some (w19r0 true)))
def w19 [Alg] (N : Nat) (a0 : (List Int)) (b1 : (List Int)) : O := w19G N (w19n0 N) a0 b1
noncomputable def w19h [Alg] (N : Nat) : Hint := (.seq .d (.seq .d (.seq (.seq .d (.block (.sub w19m0 _ _ _ w19X0_0 w19X0_1 (noX 2) (subL w19I0 w19u0 (w19l0 N N))))) .d)))
theorem w19hk (N : Nat) (hc : CxOk (w19c N)) : HintOk (w19c N) Tryd.f19.ntmps (w19h N) w19b := hk_of _ _ (And.intro trivial (And.intro trivial (And.intro (And.intro trivial (w19S0 N hc)) trivial)))
theorem w19q [Alg] (N : Nat) (a0 : (List Int)) (b1 : (List Int)) : w19G N (w19s0 N) a0 b1 = exec (w19c N) Tryd.f19.ntmps (w19h N) w19b ⟨argT 0 [.e (.sl (.i .i64)) a0, .e (.sl (.i .i64)) b1], [], 100⟩ (finX (w19c N) Tryd.f19 false) := by kernel_rfl
theorem w19does {N : Nat} (hc : CxOk (w19c N)) {a0 : (List Int)} {b1 : (List Int)} {r : Res} (h : w19 N a0 b1 = some r) : Does Tryd.prog 19 (([.e (.sl (.i .i64)) a0, .e (.sl (.i .i64)) b1] : List X).map X.D) (HA []) r.1.D (HA r.2) :=
  fun_ok hc (f := 19) (fn := Tryd.f19) (code := w19b) (by kernel_rfl) (by kernel_rfl) (w19hk N hc) (Nat.le_of_ble_eq_true (by kernel_rfl)) (ow := false) ((w19q N a0 b1).symm.trans (by rw [w19e0 N]; exact h))
def w19un (r : Res) : Option (Bool) := match r with
  | (x0, []) => (match ue .bo x0 with | some a0 => some a0 | _ => none)
  | _ => none
theorem w19uo {r : Res} {d : Bool} (h : w19un r = some d) : r = w19r0 (d) := by
  unfold w19un at h
  split at h
  · split at h
    · rename_i h0; cases h; rw [ue_some h0]; rfl
    · cases h
  · cases h
def w19z (N : Nat) (a0 : (List Int)) (b1 : (List Int)) : Option (Bool) := (w19 N a0 b1).bind w19un
theorem w19fin {N : Nat} (hc : CxOk (w19c N)) {a0 : (List Int)} {b1 : (List Int)} {d : Bool} (hd : w19z N a0 b1 = some d) : Does Tryd.prog 19 (([.e (.sl (.i .i64)) a0, .e (.sl (.i .i64)) b1] : List X).map X.D) (HA []) (w19r0 (d)).1.D (HA (w19r0 (d)).2) := by
  obtain ⟨r, hr, hu⟩ := Option.bind_eq_some_iff.1 hd
  have := w19does hc hr
  rw [w19uo hu] at this
  exact this
def w19p (N : Nat) (a0 : (List Int)) (b1 : (List Int)) : Bool := (w19z N a0 b1).isSome
def w19y0 (N : Nat) (a0 : (List Int)) (b1 : (List Int)) : Bool := ((w19z N a0 b1).getD false)
def w19e (N : Nat) : Ent' := E2 (.sl (.i .i64)) (.sl (.i .i64))  (fun x0 x1 => (w19p N x0 x1, w19r0 (w19y0 N x0 x1)))
theorem w19re {N : Nat} {a0 : (List Int)} {b1 : (List Int)} {d : Bool} (hd : w19z N a0 b1 = some d) : w19r0 (w19y0 N a0 b1) = w19r0 (d) := by unfold w19y0; rw [hd]; rfl
theorem w19ok (N : Nat) : EOk Tryd.prog 19 (w19e N) := EOk.e2 (fun x0 x1 h => by
  have h : (w19z N x0 x1).isSome = true := h
  obtain ⟨d, hd⟩ := Option.isSome_iff_exists.1 h
  have f := w19fin (w19cx N) hd
  rw [← w19re hd] at f
  exact f)
def w13r0 (a0 : (List Int)) (a1 : Int) : Res := (.tup [.e (.sl (.i .i64)) a0, .e (.i .i64) a1], [])
noncomputable def w13L (N : Nat) : List (Nat × Ent') := [(17, w17e N)]
noncomputable def w13c (N : Nat) : Cx := ⟨Tryd.prog, 99999, w13L N⟩
noncomputable def w13b : Code := Tryd.f13.body.getD .skip
theorem w13cx (N : Nat) : CxOk (w13c N) := ctx_ok (by kernel_rfl) (.cons (by kernel_rfl) (w17ok N) .nil)
def w13F0 [Alg] (_ : Nat)  (self : Int → Int → O) (k0 : Int → (List Int) → O) (k1 : Int → Int → O) (x1_0 : Int) (x1_2 : (List Int)) (x1_3 : Int) (x1_5 : Int) (_x1_6 : (List Int)) (x1_1 : Int) (x1_4 : Int) : O :=
  br (decide (x1_4 < x1_3))
    (gx x1_2 x1_4 fun y4 =>
    br (decide (x1_5 = (3 : Int)))
      (self (IntKind.i64.wrap (x1_1 + y4)) (IntKind.i64.wrap (x1_4 + (1 : Int))))
      (br (decide (x1_5 = (4 : Int)))
        (self (IntKind.i64.wrap (x1_1 - y4)) (IntKind.i64.wrap (x1_4 + (1 : Int))))
        (br (decide (x1_5 = (5 : Int)))
          (self (IntKind.i64.wrap (x1_1 * y4)) (IntKind.i64.wrap (x1_4 + (1 : Int))))
          (ck (decide (y4 ≠ (0 : Int))) <|
          ck (decide (y4 ≠ (0 : Int))) <|
          k0 ((0 : Int)) [IntKind.i64.wrap (x1_1.tdiv y4), x1_1.tmod y4]))))
    (k1 x1_0 x1_1)
noncomputable def w13b0 : Code := atC [1, 1, 1, 0, 1, 0, 0] w13b
def w13m0 : Nm := ⟨[1, 2, 3, 5, 19, 20, 21], [], []⟩
def w13I0 (x : Int × Int × (List Int) × Int × Int × Int × (List Int)) : Sg := ⟨[(1, .ref 0 0), (2, .nilS), (3, .e (.i .i64) x.1), (5, .e (.i .i64) x.2.1), (19, .e (.sl (.i .i64)) x.2.2.1), (20, .e (.i .i64) x.2.2.2.1), (21, .e (.i .i64) x.2.2.2.2.1)], [(0, .box 24 [.e (.i .i64) x.2.2.2.2.2.1, .e (.sl (.i .i64)) x.2.2.2.2.2.2])], 100⟩
def w13u0 (σ : Sg) : Int × Int × (List Int) × Int × Int × Int × (List Int) := (lvT (.i .i64) 3 0 σ, lvT (.i .i64) 5 0 σ, lvT (.sl (.i .i64)) 19 0 σ, lvT (.i .i64) 20 0 σ, lvT (.i .i64) 21 0 σ, lvH (.i .i64) 0 0 σ, lvH (.sl (.i .i64)) 0 1 σ)
theorem w13ui0 : ∀ x, w13u0 (w13I0 x) = x := fun _ => by kernel_rfl
def w13X0_0 (y : Int × (List Int)) : Exit × Sg := (.ret, ⟨[(2, .own 0), (3, .e (.i .i64) y.1)], [(0, .row 3 (.i .i64) y.2 true)], 100⟩)
def w13v0_0 (σ : Sg) : Int × (List Int) := (lvT (.i .i64) 3 0 σ, lvR (.i .i64) 0 σ)
def w13X0_1 (y : Int × Int) : Exit × Sg := ((.exit 0), ⟨[(2, .nilS), (3, .e (.i .i64) y.1), (5, .e (.i .i64) y.2)], [], 100⟩)
def w13v0_1 (σ : Sg) : Int × Int := (lvT (.i .i64) 3 0 σ, lvT (.i .i64) 5 0 σ)
def w13w0 : List (Exit × Nm) := [(.ret, ⟨[2, 3], [], []⟩), ((.exit 0), ⟨[2, 3, 5], [], []⟩)]
theorem w13o0 : Outs w13v0_0 w13v0_1 (fun _ => ()) w13X0_0 w13X0_1 (noX 2) .ret (.exit 0) (.goto 2) := ⟨fun _ => by kernel_rfl, fun _ => by kernel_rfl, fun _ => by kernel_rfl, fun _ => by kernel_rfl, fun _ => by kernel_rfl, fun _ => by kernel_rfl, exNe_ok (by kernel_rfl), exNe_ok (by kernel_rfl), exNe_ok (by kernel_rfl)⟩
def w13l0 [Alg] (N : Nat) : Nat → (Int × Int × (List Int) × Int × Int × Int × (List Int)) → ((Int × (List Int)) → O) → ((Int × Int) → O) → ((Unit) → O) → O
  | 0, _, _, _, _ => none
  | n + 1, x, k0, k1, k2 => w13F0 N  (fun v0 v1 => w13l0 N n (x.1, v0, x.2.2.1, x.2.2.2.1, v1, x.2.2.2.2.2.1, x.2.2.2.2.2.2) k0 k1 k2) (fun y0 y1 => k0 (y0, y1)) (fun y0 y1 => k1 (y0, y1)) x.1 x.2.2.1 x.2.2.2.1 x.2.2.2.2.2.1 x.2.2.2.2.2.2 x.2.1 x.2.2.2.2.1
def w13n0 [Alg] (N : Nat) (a0 : Int) (a1 : Int) (a2 : (List Int)) (a3 : Int) (a4 : Int) (a5 : Int) (a6 : (List Int)) (k0 : Int → (List Int) → O) (k1 : Int → Int → O) : O := w13l0 N N (a0, a1, a2, a3, a4, a5, a6) (fun y => k0 y.1 y.2) (fun y => k1 y.1 y.2) (fun _ => none)
noncomputable def w13s0 [Alg] (N : Nat) (a0 : Int) (a1 : Int) (a2 : (List Int)) (a3 : Int) (a4 : Int) (a5 : Int) (a6 : (List Int)) (k0 : Int → (List Int) → O) (k1 : Int → Int → O) : O := subL w13I0 w13u0 (w13l0 N N) (w13I0 (a0, a1, a2, a3, a4, a5, a6)) (fun y => k0 y.1 y.2) (fun y => k1 y.1 y.2) (fun _ => none)
theorem w13e0 [Alg] (N : Nat) : w13s0 N = w13n0 N := funext fun _ => funext fun _ => funext fun _ => funext fun _ => funext fun _ => funext fun _ => funext fun _ => funext fun _ => funext fun _ => subL_I w13ui0 _ _ _ _
noncomputable def w13h0 [Alg] (_ : Nat) : Hint := .d
theorem w13hk0 (N : Nat) : HintOk (w13c N) Tryd.f13.ntmps (w13h0 N) w13b0 := hk_of _ _ trivial
theorem w13q0 [Alg] (N : Nat) (self : Sg → O) (K : Exit → Sg → O) (x : Int × Int × (List Int) × Int × Int × Int × (List Int)) : w13F0 N  (fun v0 v1 => self (w13I0 (x.1, v0, x.2.2.1, x.2.2.2.1, v1, x.2.2.2.2.2.1, x.2.2.2.2.2.2))) (fun y0 y1 => K (w13X0_0 (y0, y1)).1 (w13X0_0 (y0, y1)).2) (fun y0 y1 => K (w13X0_1 (y0, y1)).1 (w13X0_1 (y0, y1)).2) x.1 x.2.2.1 x.2.2.2.1 x.2.2.2.2.2.1 x.2.2.2.2.2.2 x.2.1 x.2.2.2.2.1 = exec (w13c N) Tryd.f13.ntmps (w13h0 N) w13b0 (w13I0 x) (roundX w13m0 w13w0 self K) := by kernel_rfl
theorem w13S0 (N : Nat) (hc : CxOk (w13c N)) : SubOk (w13c N) Tryd.f13.ntmps (.loop w13b0) w13X0_0 w13X0_1 (noX 2) (subL w13I0 w13u0 (w13l0 N N)) :=
  sub_loop hc (w13hk0 N) w13o0 (n := N) (fun x K => loop_ind (w13l0 N) (fun _ _ _ _ => rfl) (fun n K ih x => by
    have h : w13F0 N  (fun v0 v1 => w13l0 N n (x.1, v0, x.2.2.1, x.2.2.2.1, v1, x.2.2.2.2.2.1, x.2.2.2.2.2.2) (fun y => K (w13X0_0 y).1 (w13X0_0 y).2) (fun y => K (w13X0_1 y).1 (w13X0_1 y).2) (fun y => K ((noX 2) y).1 ((noX 2) y).2)) (fun y0 y1 => K (w13X0_0 (y0, y1)).1 (w13X0_0 (y0, y1)).2) (fun y0 y1 => K (w13X0_1 (y0, y1)).1 (w13X0_1 (y0, y1)).2) x.1 x.2.2.1 x.2.2.2.1 x.2.2.2.2.2.1 x.2.2.2.2.2.2 x.2.1 x.2.2.2.2.1 = w13F0 N  (fun v0 v1 => loopX (w13c N) Tryd.f13.ntmps (w13h0 N) w13b0 w13m0 w13w0 n (w13I0 (x.1, v0, x.2.2.1, x.2.2.2.1, v1, x.2.2.2.2.2.1, x.2.2.2.2.2.2)) K) (fun y0 y1 => K (w13X0_0 (y0, y1)).1 (w13X0_0 (y0, y1)).2) (fun y0 y1 => K (w13X0_1 (y0, y1)).1 (w13X0_1 (y0, y1)).2) x.1 x.2.2.1 x.2.2.2.1 x.2.2.2.2.2.1 x.2.2.2.2.2.2 x.2.1 x.2.2.2.2.1 := by rw [ show (fun v0 v1 => w13l0 N n (x.1, v0, x.2.2.1, x.2.2.2.1, v1, x.2.2.2.2.2.1, x.2.2.2.2.2.2) (fun y => K (w13X0_0 y).1 (w13X0_0 y).2) (fun y => K (w13X0_1 y).1 (w13X0_1 y).2) (fun y => K ((noX 2) y).1 ((noX 2) y).2)) = (fun v0 v1 => loopX (w13c N) Tryd.f13.ntmps (w13h0 N) w13b0 w13m0 w13w0 n (w13I0 (x.1, v0, x.2.2.1, x.2.2.2.1, v1, x.2.2.2.2.2.1, x.2.2.2.2.2.2)) K) from funext fun _ => funext fun _ => ih _]
    exact h.trans (w13q0 N (fun σ => loopX (w13c N) Tryd.f13.ntmps (w13h0 N) w13b0 w13m0 w13w0 n σ K) K x)) N x K)
def w13G [Alg] (N : Nat) (in0 : Int → Int → (List Int) → Int → Int → Int → (List Int) → (Int → (List Int) → O) → (Int → Int → O) → O) (s0_0 : Int) (s0_1 : (List Int)) : O :=
  ck (w17p N s0_0 s0_1) <|
  br (decide (w17y0 N s0_0 s0_1 ≠ (0 : Int)))
    (some (w13r0 [] (w17y0 N s0_0 s0_1)))
    (gx s0_1 ((0 : Int)) fun y0 =>
    ck (slcOk s0_1.length (some (1 : Int)) none) <|
    in0 ((0 : Int)) y0 (slc s0_1 (some (1 : Int)) none) ((↑(slc s0_1 (some (1 : Int)) none).length : Int)) ((0 : Int)) s0_0 s0_1
      (fun z5 z6 =>
        some (w13r0 z6 z5))
      (fun _ z8 =>
        some (w13r0 [z8] ((0 : Int)))))
def w13 [Alg] (N : Nat) (s0_0 : Int) (s0_1 : (List Int)) : O := w13G N (w13n0 N) s0_0 s0_1
noncomputable def w13h [Alg] (N : Nat) : Hint := (.seq .d (.seq .d (.seq .d (.seq (.seq .d (.block (.sub w13m0 _ _ _ w13X0_0 w13X0_1 (noX 2) (subL w13I0 w13u0 (w13l0 N N))))) .d))))
theorem w13hk (N : Nat) (hc : CxOk (w13c N)) : HintOk (w13c N) Tryd.f13.ntmps (w13h N) w13b := hk_of _ _ (And.intro trivial (And.intro trivial (And.intro trivial (And.intro (And.intro trivial (w13S0 N hc)) trivial))))
theorem w13q [Alg] (N : Nat) (s0_0 : Int) (s0_1 : (List Int)) : w13G N (w13s0 N) s0_0 s0_1 = exec (w13c N) Tryd.f13.ntmps (w13h N) w13b ⟨argT 0 [.agg [.e (.i .i64) s0_0, .e (.sl (.i .i64)) s0_1]], [], 100⟩ (finX (w13c N) Tryd.f13 false) := by kernel_rfl
theorem w13does {N : Nat} (hc : CxOk (w13c N)) {s0_0 : Int} {s0_1 : (List Int)} {r : Res} (h : w13 N s0_0 s0_1 = some r) : Does Tryd.prog 13 (([.agg [.e (.i .i64) s0_0, .e (.sl (.i .i64)) s0_1]] : List X).map X.D) (HA []) r.1.D (HA r.2) :=
  fun_ok hc (f := 13) (fn := Tryd.f13) (code := w13b) (by kernel_rfl) (by kernel_rfl) (w13hk N hc) (Nat.le_of_ble_eq_true (by kernel_rfl)) (ow := false) ((w13q N s0_0 s0_1).symm.trans (by rw [w13e0 N]; exact h))
def w13un (r : Res) : Option ((List Int) × Int) := match r with
  | (.tup [x0, x1], []) => (match ue (.sl (.i .i64)) x0, ue (.i .i64) x1 with | some a0, some a1 => some (a0, a1) | _, _ => none)
  | _ => none
theorem w13uo {r : Res} {d : (List Int) × Int} (h : w13un r = some d) : r = w13r0 (d.1) (d.2) := by
  unfold w13un at h
  split at h
  · split at h
    · rename_i h0 h1; cases h; rw [ue_some h0, ue_some h1]; rfl
    · cases h
  · cases h
def w13z (N : Nat) (s0_0 : Int) (s0_1 : (List Int)) : Option ((List Int) × Int) := (w13 N s0_0 s0_1).bind w13un
theorem w13fin {N : Nat} (hc : CxOk (w13c N)) {s0_0 : Int} {s0_1 : (List Int)} {d : (List Int) × Int} (hd : w13z N s0_0 s0_1 = some d) : Does Tryd.prog 13 (([.agg [.e (.i .i64) s0_0, .e (.sl (.i .i64)) s0_1]] : List X).map X.D) (HA []) (w13r0 (d.1) (d.2)).1.D (HA (w13r0 (d.1) (d.2)).2) := by
  obtain ⟨r, hr, hu⟩ := Option.bind_eq_some_iff.1 hd
  have := w13does hc hr
  rw [w13uo hu] at this
  exact this
def w13p (N : Nat) (s0_0 : Int) (s0_1 : (List Int)) : Bool := (w13z N s0_0 s0_1).isSome
def w13y0 (N : Nat) (s0_0 : Int) (s0_1 : (List Int)) : (List Int) := ((w13z N s0_0 s0_1).getD ([], 0)).1
def w13y1 (N : Nat) (s0_0 : Int) (s0_1 : (List Int)) : Int := ((w13z N s0_0 s0_1).getD ([], 0)).2
def w13e (N : Nat) : Ent' := E1 (.pr (.i .i64) (.sl (.i .i64)))  (fun x0 => (w13p N x0.1 x0.2, w13r0 (w13y0 N x0.1 x0.2) (w13y1 N x0.1 x0.2)))
theorem w13re {N : Nat} {s0_0 : Int} {s0_1 : (List Int)} {d : (List Int) × Int} (hd : w13z N s0_0 s0_1 = some d) : w13r0 (w13y0 N s0_0 s0_1) (w13y1 N s0_0 s0_1) = w13r0 (d.1) (d.2) := by unfold w13y0 w13y1; rw [hd]; rfl
theorem w13ok (N : Nat) : EOk Tryd.prog 13 (w13e N) := EOk.e1 (fun x0 h => by
  have h : (w13z N x0.1 x0.2).isSome = true := h
  obtain ⟨d, hd⟩ := Option.isSome_iff_exists.1 h
  have f := w13fin (w13cx N) hd
  rw [← w13re hd] at f
  exact f)
def w62r0 (a0 : Int) (a1 : (List (List UInt8))) : Res := (.tup [], [(50, .box 82 [.own 100, .e (.i .i64) a0]), (100, .nest 42 5 .u8 a1)])
noncomputable def w62L (_ : Nat) : List (Nat × Ent') := []
noncomputable def w62c (N : Nat) : Cx := ⟨Tryd.prog, 99999, w62L N⟩
noncomputable def w62b : Code := Tryd.f62.body.getD .skip
theorem w62cx (N : Nat) : CxOk (w62c N) := ctx_ok (by kernel_rfl) .nil
def w62G [Alg] (_ : Nat)  (h50_0 : Int) (h51_0 : (List (List UInt8))) : O :=
  ck (decide ((0 : Int) ≤ h50_0)) <|
  ck (lim h50_0.toNat (1 : Nat)) <|
  ck (lim (h51_0.length + [List.replicate h50_0.toNat (0 : UInt8)].length) (24 : Nat)) <|
  some (w62r0 h50_0 (h51_0 ++ [List.replicate h50_0.toNat (0 : UInt8)]))
def w62 [Alg] (N : Nat) (h50_0 : Int) (h51_0 : (List (List UInt8))) : O := w62G N  h50_0 h51_0
noncomputable def w62h [Alg] (_ : Nat) : Hint := (.reg [] [] [[], [], [], [], [], [], [], [], [], [], [180, 172], [188, 51, 180], [], [], [50]])
theorem w62hk (N : Nat) : HintOk (w62c N) Tryd.f62.ntmps (w62h N) w62b := hk_of _ _ trivial
theorem w62q [Alg] (N : Nat) (h50_0 : Int) (h51_0 : (List (List UInt8))) : w62G N  h50_0 h51_0 = exec (w62c N) Tryd.f62.ntmps (w62h N) w62b ⟨argT 0 [.ref 50 0], [(50, .box 82 [.own 51, .e (.i .i64) h50_0]), (51, .nest 42 5 .u8 h51_0)], 100⟩ (finX (w62c N) Tryd.f62 true) := by kernel_rfl
theorem w62does {N : Nat} (hc : CxOk (w62c N)) {h50_0 : Int} {h51_0 : (List (List UInt8))} {r : Res} (h : w62 N h50_0 h51_0 = some r) : Does Tryd.prog 62 (([.ref 50 0] : List X).map X.D) (HA [(50, .box 82 [.own 51, .e (.i .i64) h50_0]), (51, .nest 42 5 .u8 h51_0)]) r.1.D (HA r.2) :=
  fun_ok hc (f := 62) (fn := Tryd.f62) (code := w62b) (by kernel_rfl) (by kernel_rfl) (w62hk N) (Nat.le_of_ble_eq_true (by kernel_rfl)) (ow := true) ((w62q N h50_0 h51_0).symm.trans (by exact h))
def w62un (r : Res) : Option (Int × (List (List UInt8))) := match r with
  | (.tup [], [(50, .box 82 [.own 100, x0]), (100, x1)]) => (match ue (.i .i64) x0, uq 42 5 .u8 x1 with | some a0, some a1 => some (a0, a1) | _, _ => none)
  | _ => none
theorem w62uo {r : Res} {d : Int × (List (List UInt8))} (h : w62un r = some d) : r = w62r0 (d.1) (d.2) := by
  unfold w62un at h
  split at h
  · split at h
    · rename_i h0 h1; cases h; rw [ue_some h0, uq_some h1]; rfl
    · cases h
  · cases h
def w62z (N : Nat) (h50_0 : Int) (h51_0 : (List (List UInt8))) : Option (Int × (List (List UInt8))) := (w62 N h50_0 h51_0).bind w62un
theorem w62fin {N : Nat} (hc : CxOk (w62c N)) {h50_0 : Int} {h51_0 : (List (List UInt8))} {d : Int × (List (List UInt8))} (hd : w62z N h50_0 h51_0 = some d) : Does Tryd.prog 62 (([.ref 50 0] : List X).map X.D) (HA [(50, .box 82 [.own 51, .e (.i .i64) h50_0]), (51, .nest 42 5 .u8 h51_0)]) (w62r0 (d.1) (d.2)).1.D (HA (w62r0 (d.1) (d.2)).2) := by
  obtain ⟨r, hr, hu⟩ := Option.bind_eq_some_iff.1 hd
  have := w62does hc hr
  rw [w62uo hu] at this
  exact this
def w62p (N : Nat) (h50_0 : Int) (h51_0 : (List (List UInt8))) : Bool := (w62z N h50_0 h51_0).isSome
def w62y0 (N : Nat) (h50_0 : Int) (h51_0 : (List (List UInt8))) : Int := ((w62z N h50_0 h51_0).getD (0, [])).1
def w62y1 (N : Nat) (h50_0 : Int) (h51_0 : (List (List UInt8))) : (List (List UInt8)) := ((w62z N h50_0 h51_0).getD (0, [])).2
def w62in (xs : List X) (H : XH) : Option (Int × (List (List UInt8))) := match xs, H with
  | [.ref 50 0], [(50, .box 82 [.own 51, x0]), (51, x1)] => (match ue (.i .i64) x0, uq 42 5 .u8 x1 with | some a0, some a1 => some (a0, a1) | _, _ => none)
  | _, _ => none
theorem w62io {xs : List X} {H : XH} {d : Int × (List (List UInt8))} (h : w62in xs H = some d) : xs = [.ref 50 0] ∧ H = [(50, .box 82 [.own 51, .e (.i .i64) (d.1)]), (51, .nest 42 5 .u8 (d.2))] := by
  unfold w62in at h
  split at h
  · split at h
    · rename_i h0 h1; cases h; rw [ue_some h0, uq_some h1]; exact ⟨rfl, rfl⟩
    · cases h
  · cases h
def w62e (N : Nat) : Ent' := fun xs H => match w62in xs H with | some d => some (w62p N (d.1) (d.2), w62r0 (w62y0 N (d.1) (d.2)) (w62y1 N (d.1) (d.2))) | none => none
theorem w62re {N : Nat} {h50_0 : Int} {h51_0 : (List (List UInt8))} {d : Int × (List (List UInt8))} (hd : w62z N h50_0 h51_0 = some d) : w62r0 (w62y0 N h50_0 h51_0) (w62y1 N h50_0 h51_0) = w62r0 (d.1) (d.2) := by unfold w62y0 w62y1; rw [hd]; rfl
theorem w62ok (N : Nat) : EOk Tryd.prog 62 (w62e N) := fun xs H pre r he hp => by
  unfold w62e at he
  split at he
  · rename_i d hd
    have he := Option.some.inj he
    have h1 := congrArg Prod.fst he
    have h2 := congrArg Prod.snd he
    simp only at h1 h2
    obtain ⟨e1, e2⟩ := w62io hd
    rw [e1, e2, ← h2]
    have h : (w62z N (d.1) (d.2)).isSome = true := h1.trans hp
    obtain ⟨d', hd'⟩ := Option.isSome_iff_exists.1 h
    have f := w62fin (w62cx N) hd'
    rw [← w62re hd'] at f
    exact f
  · cases he
def w80r0 (a0 : Int) (a1 : Int) (a2 : (List (List UInt8))) : Res := (.tup [], [(50, .box 80 [.ref 52 0]), (51, .box 3 [.e (.i .i64) a0]), (52, .box 82 [.own 53, .e (.i .i64) a1]), (53, .nest 42 5 .u8 a2)])
noncomputable def w80L (_ : Nat) : List (Nat × Ent') := []
noncomputable def w80c (N : Nat) : Cx := ⟨Tryd.prog, 99999, w80L N⟩
noncomputable def w80b : Code := Tryd.f80.body.getD .skip
theorem w80cx (N : Nat) : CxOk (w80c N) := ctx_ok (by kernel_rfl) .nil
def w80G [Alg] (_ : Nat)  (k0 : Int) (c1 : UInt8) (h51_0 : Int) (h52_0 : Int) (h53_0 : (List (List UInt8))) : O :=
  ck (decide ((0 : Int) ≤ IntKind.i64.wrap ((↑h53_0.length : Int) - (1 : Int)) ∧ IntKind.i64.wrap ((↑h53_0.length : Int) - (1 : Int)) < (↑h53_0.length : Int))) <|
  gn h53_0 ((IntKind.i64.wrap ((↑h53_0.length : Int) - (1 : Int))).toNat) fun _ =>
  gn h53_0 ((IntKind.i64.wrap ((↑h53_0.length : Int) - (1 : Int))).toNat) fun y1 =>
  ck (decide ((0 : Int) ≤ IntKind.i64.wrap (IntKind.i64.wrap (IntKind.i64.wrap (h52_0 - (1 : Int)) - h51_0) - k0) ∧ IntKind.i64.wrap (IntKind.i64.wrap (IntKind.i64.wrap (h52_0 - (1 : Int)) - h51_0) - k0) < (↑y1.length : Int))) <|
  gn h53_0 ((IntKind.i64.wrap ((↑h53_0.length : Int) - (1 : Int))).toNat) fun y2 =>
  gn y2 ((IntKind.i64.wrap (IntKind.i64.wrap (IntKind.i64.wrap (h52_0 - (1 : Int)) - h51_0) - k0)).toNat) fun _ =>
  some (w80r0 h51_0 h52_0 (h53_0.set (IntKind.i64.wrap ((↑h53_0.length : Int) - (1 : Int))).toNat (y2.set (IntKind.i64.wrap (IntKind.i64.wrap (IntKind.i64.wrap (h52_0 - (1 : Int)) - h51_0) - k0)).toNat c1)))
def w80 [Alg] (N : Nat) (k0 : Int) (c1 : UInt8) (h51_0 : Int) (h52_0 : Int) (h53_0 : (List (List UInt8))) : O := w80G N  k0 c1 h51_0 h52_0 h53_0
noncomputable def w80h [Alg] (_ : Nat) : Hint := (.reg [] [] [[], [], [], [], [], [], [], [], [], [], [], [], [], [], [], [], [], [], [], [], [], [], [], [53]])
theorem w80hk (N : Nat) : HintOk (w80c N) Tryd.f80.ntmps (w80h N) w80b := hk_of _ _ trivial
theorem w80q [Alg] (N : Nat) (k0 : Int) (c1 : UInt8) (h51_0 : Int) (h52_0 : Int) (h53_0 : (List (List UInt8))) : w80G N  k0 c1 h51_0 h52_0 h53_0 = exec (w80c N) Tryd.f80.ntmps (w80h N) w80b ⟨argT 0 [.e (.i .i64) k0, .e .u8 c1, .ref 50 0, .ref 51 0], [(50, .box 80 [.ref 52 0]), (51, .box 3 [.e (.i .i64) h51_0]), (52, .box 82 [.own 53, .e (.i .i64) h52_0]), (53, .nest 42 5 .u8 h53_0)], 100⟩ (finX (w80c N) Tryd.f80 true) := by kernel_rfl
theorem w80does {N : Nat} (hc : CxOk (w80c N)) {k0 : Int} {c1 : UInt8} {h51_0 : Int} {h52_0 : Int} {h53_0 : (List (List UInt8))} {r : Res} (h : w80 N k0 c1 h51_0 h52_0 h53_0 = some r) : Does Tryd.prog 80 (([.e (.i .i64) k0, .e .u8 c1, .ref 50 0, .ref 51 0] : List X).map X.D) (HA [(50, .box 80 [.ref 52 0]), (51, .box 3 [.e (.i .i64) h51_0]), (52, .box 82 [.own 53, .e (.i .i64) h52_0]), (53, .nest 42 5 .u8 h53_0)]) r.1.D (HA r.2) :=
  fun_ok hc (f := 80) (fn := Tryd.f80) (code := w80b) (by kernel_rfl) (by kernel_rfl) (w80hk N) (Nat.le_of_ble_eq_true (by kernel_rfl)) (ow := true) ((w80q N k0 c1 h51_0 h52_0 h53_0).symm.trans (by exact h))
def w80un (r : Res) : Option (Int × Int × (List (List UInt8))) := match r with
  | (.tup [], [(50, .box 80 [.ref 52 0]), (51, .box 3 [x0]), (52, .box 82 [.own 53, x1]), (53, x2)]) => (match ue (.i .i64) x0, ue (.i .i64) x1, uq 42 5 .u8 x2 with | some a0, some a1, some a2 => some (a0, a1, a2) | _, _, _ => none)
  | _ => none
theorem w80uo {r : Res} {d : Int × Int × (List (List UInt8))} (h : w80un r = some d) : r = w80r0 (d.1) (d.2.1) (d.2.2) := by
  unfold w80un at h
  split at h
  · split at h
    · rename_i h0 h1 h2; cases h; rw [ue_some h0, ue_some h1, uq_some h2]; rfl
    · cases h
  · cases h
def w80z (N : Nat) (k0 : Int) (c1 : UInt8) (h51_0 : Int) (h52_0 : Int) (h53_0 : (List (List UInt8))) : Option (Int × Int × (List (List UInt8))) := (w80 N k0 c1 h51_0 h52_0 h53_0).bind w80un
theorem w80fin {N : Nat} (hc : CxOk (w80c N)) {k0 : Int} {c1 : UInt8} {h51_0 : Int} {h52_0 : Int} {h53_0 : (List (List UInt8))} {d : Int × Int × (List (List UInt8))} (hd : w80z N k0 c1 h51_0 h52_0 h53_0 = some d) : Does Tryd.prog 80 (([.e (.i .i64) k0, .e .u8 c1, .ref 50 0, .ref 51 0] : List X).map X.D) (HA [(50, .box 80 [.ref 52 0]), (51, .box 3 [.e (.i .i64) h51_0]), (52, .box 82 [.own 53, .e (.i .i64) h52_0]), (53, .nest 42 5 .u8 h53_0)]) (w80r0 (d.1) (d.2.1) (d.2.2)).1.D (HA (w80r0 (d.1) (d.2.1) (d.2.2)).2) := by
  obtain ⟨r, hr, hu⟩ := Option.bind_eq_some_iff.1 hd
  have := w80does hc hr
  rw [w80uo hu] at this
  exact this
def w80p (N : Nat) (k0 : Int) (c1 : UInt8) (h51_0 : Int) (h52_0 : Int) (h53_0 : (List (List UInt8))) : Bool := (w80z N k0 c1 h51_0 h52_0 h53_0).isSome
def w80y0 (N : Nat) (k0 : Int) (c1 : UInt8) (h51_0 : Int) (h52_0 : Int) (h53_0 : (List (List UInt8))) : Int := ((w80z N k0 c1 h51_0 h52_0 h53_0).getD (0, 0, [])).1
def w80y1 (N : Nat) (k0 : Int) (c1 : UInt8) (h51_0 : Int) (h52_0 : Int) (h53_0 : (List (List UInt8))) : Int := ((w80z N k0 c1 h51_0 h52_0 h53_0).getD (0, 0, [])).2.1
def w80y2 (N : Nat) (k0 : Int) (c1 : UInt8) (h51_0 : Int) (h52_0 : Int) (h53_0 : (List (List UInt8))) : (List (List UInt8)) := ((w80z N k0 c1 h51_0 h52_0 h53_0).getD (0, 0, [])).2.2
def w80in (xs : List X) (H : XH) : Option (Int × UInt8 × Int × Int × (List (List UInt8))) := match xs, H with
  | [x0, x1, .ref 50 0, .ref 51 0], [(50, .box 80 [.ref 52 0]), (51, .box 3 [x2]), (52, .box 82 [.own 53, x3]), (53, x4)] => (match ue (.i .i64) x0, ue .u8 x1, ue (.i .i64) x2, ue (.i .i64) x3, uq 42 5 .u8 x4 with | some a0, some a1, some a2, some a3, some a4 => some (a0, a1, a2, a3, a4) | _, _, _, _, _ => none)
  | _, _ => none
theorem w80io {xs : List X} {H : XH} {d : Int × UInt8 × Int × Int × (List (List UInt8))} (h : w80in xs H = some d) : xs = [.e (.i .i64) (d.1), .e .u8 (d.2.1), .ref 50 0, .ref 51 0] ∧ H = [(50, .box 80 [.ref 52 0]), (51, .box 3 [.e (.i .i64) (d.2.2.1)]), (52, .box 82 [.own 53, .e (.i .i64) (d.2.2.2.1)]), (53, .nest 42 5 .u8 (d.2.2.2.2))] := by
  unfold w80in at h
  split at h
  · split at h
    · rename_i h0 h1 h2 h3 h4; cases h; rw [ue_some h0, ue_some h1, ue_some h2, ue_some h3, uq_some h4]; exact ⟨rfl, rfl⟩
    · cases h
  · cases h
def w80e (N : Nat) : Ent' := fun xs H => match w80in xs H with | some d => some (w80p N (d.1) (d.2.1) (d.2.2.1) (d.2.2.2.1) (d.2.2.2.2), w80r0 (w80y0 N (d.1) (d.2.1) (d.2.2.1) (d.2.2.2.1) (d.2.2.2.2)) (w80y1 N (d.1) (d.2.1) (d.2.2.1) (d.2.2.2.1) (d.2.2.2.2)) (w80y2 N (d.1) (d.2.1) (d.2.2.1) (d.2.2.2.1) (d.2.2.2.2))) | none => none
theorem w80re {N : Nat} {k0 : Int} {c1 : UInt8} {h51_0 : Int} {h52_0 : Int} {h53_0 : (List (List UInt8))} {d : Int × Int × (List (List UInt8))} (hd : w80z N k0 c1 h51_0 h52_0 h53_0 = some d) : w80r0 (w80y0 N k0 c1 h51_0 h52_0 h53_0) (w80y1 N k0 c1 h51_0 h52_0 h53_0) (w80y2 N k0 c1 h51_0 h52_0 h53_0) = w80r0 (d.1) (d.2.1) (d.2.2) := by unfold w80y0 w80y1 w80y2; rw [hd]; rfl
theorem w80ok (N : Nat) : EOk Tryd.prog 80 (w80e N) := fun xs H pre r he hp => by
  unfold w80e at he
  split at he
  · rename_i d hd
    have he := Option.some.inj he
    have h1 := congrArg Prod.fst he
    have h2 := congrArg Prod.snd he
    simp only at h1 h2
    obtain ⟨e1, e2⟩ := w80io hd
    rw [e1, e2, ← h2]
    have h : (w80z N (d.1) (d.2.1) (d.2.2.1) (d.2.2.2.1) (d.2.2.2.2)).isSome = true := h1.trans hp
    obtain ⟨d', hd'⟩ := Option.isSome_iff_exists.1 h
    have f := w80fin (w80cx N) hd'
    rw [← w80re hd'] at f
    exact f
  · cases he
def w81r0 (a0 : UInt8) (a1 : UInt8) (a2 : UInt8) (a3 : UInt8) (a4 : UInt8) (a5 : UInt8) (a6 : UInt8) (a7 : UInt8) (a8 : UInt8) (a9 : UInt8) : Res := (.agg [.e .u8 a0, .e .u8 a1, .e .u8 a2, .e .u8 a3, .e .u8 a4, .e .u8 a5, .e .u8 a6, .e .u8 a7, .e .u8 a8, .e .u8 a9], [])
noncomputable def w81L (_ : Nat) : List (Nat × Ent') := []
noncomputable def w81c (N : Nat) : Cx := ⟨Tryd.prog, 99999, w81L N⟩
noncomputable def w81b : Code := Tryd.f81.body.getD .skip
theorem w81cx (N : Nat) : CxOk (w81c N) := ctx_ok (by kernel_rfl) .nil
def w81G [Alg] (_ : Nat)   : O :=
  some (w81r0 ((26 : UInt8)) ((1 : UInt8)) ((3 : UInt8)) ((9 : UInt8)) ((25 : UInt8)) ((17 : UInt8)) ((11 : UInt8)) ((27 : UInt8)) ((19 : UInt8)) ((10 : UInt8)))
def w81 [Alg] (N : Nat)  : O := w81G N  
noncomputable def w81h [Alg] (_ : Nat) : Hint := .d
theorem w81hk (N : Nat) : HintOk (w81c N) Tryd.f81.ntmps (w81h N) w81b := hk_of _ _ trivial
theorem w81q [Alg] (N : Nat)  : w81G N   = exec (w81c N) Tryd.f81.ntmps (w81h N) w81b ⟨argT 0 [], [], 100⟩ (finX (w81c N) Tryd.f81 false) := by kernel_rfl
theorem w81does {N : Nat} (hc : CxOk (w81c N))  {r : Res} (h : w81 N  = some r) : Does Tryd.prog 81 (([] : List X).map X.D) (HA []) r.1.D (HA r.2) :=
  fun_ok hc (f := 81) (fn := Tryd.f81) (code := w81b) (by kernel_rfl) (by kernel_rfl) (w81hk N) (Nat.le_of_ble_eq_true (by kernel_rfl)) (ow := false) ((w81q N ).symm.trans (by exact h))
def w81un (r : Res) : Option (UInt8 × UInt8 × UInt8 × UInt8 × UInt8 × UInt8 × UInt8 × UInt8 × UInt8 × UInt8) := match r with
  | (.agg [x0, x1, x2, x3, x4, x5, x6, x7, x8, x9], []) => (match ue .u8 x0, ue .u8 x1, ue .u8 x2, ue .u8 x3, ue .u8 x4, ue .u8 x5, ue .u8 x6, ue .u8 x7, ue .u8 x8, ue .u8 x9 with | some a0, some a1, some a2, some a3, some a4, some a5, some a6, some a7, some a8, some a9 => some (a0, a1, a2, a3, a4, a5, a6, a7, a8, a9) | _, _, _, _, _, _, _, _, _, _ => none)
  | _ => none
theorem w81uo {r : Res} {d : UInt8 × UInt8 × UInt8 × UInt8 × UInt8 × UInt8 × UInt8 × UInt8 × UInt8 × UInt8} (h : w81un r = some d) : r = w81r0 (d.1) (d.2.1) (d.2.2.1) (d.2.2.2.1) (d.2.2.2.2.1) (d.2.2.2.2.2.1) (d.2.2.2.2.2.2.1) (d.2.2.2.2.2.2.2.1) (d.2.2.2.2.2.2.2.2.1) (d.2.2.2.2.2.2.2.2.2) := by
  unfold w81un at h
  split at h
  · split at h
    · rename_i h0 h1 h2 h3 h4 h5 h6 h7 h8 h9; cases h; rw [ue_some h0, ue_some h1, ue_some h2, ue_some h3, ue_some h4, ue_some h5, ue_some h6, ue_some h7, ue_some h8, ue_some h9]; rfl
    · cases h
  · cases h
def w81z (N : Nat)  : Option (UInt8 × UInt8 × UInt8 × UInt8 × UInt8 × UInt8 × UInt8 × UInt8 × UInt8 × UInt8) := (w81 N ).bind w81un
theorem w81fin {N : Nat} (hc : CxOk (w81c N))  {d : UInt8 × UInt8 × UInt8 × UInt8 × UInt8 × UInt8 × UInt8 × UInt8 × UInt8 × UInt8} (hd : w81z N  = some d) : Does Tryd.prog 81 (([] : List X).map X.D) (HA []) (w81r0 (d.1) (d.2.1) (d.2.2.1) (d.2.2.2.1) (d.2.2.2.2.1) (d.2.2.2.2.2.1) (d.2.2.2.2.2.2.1) (d.2.2.2.2.2.2.2.1) (d.2.2.2.2.2.2.2.2.1) (d.2.2.2.2.2.2.2.2.2)).1.D (HA (w81r0 (d.1) (d.2.1) (d.2.2.1) (d.2.2.2.1) (d.2.2.2.2.1) (d.2.2.2.2.2.1) (d.2.2.2.2.2.2.1) (d.2.2.2.2.2.2.2.1) (d.2.2.2.2.2.2.2.2.1) (d.2.2.2.2.2.2.2.2.2)).2) := by
  obtain ⟨r, hr, hu⟩ := Option.bind_eq_some_iff.1 hd
  have := w81does hc hr
  rw [w81uo hu] at this
  exact this
def w81p (N : Nat)  : Bool := (w81z N ).isSome
def w81y0 (N : Nat)  : UInt8 := ((w81z N ).getD (0, 0, 0, 0, 0, 0, 0, 0, 0, 0)).1
def w81y1 (N : Nat)  : UInt8 := ((w81z N ).getD (0, 0, 0, 0, 0, 0, 0, 0, 0, 0)).2.1
def w81y2 (N : Nat)  : UInt8 := ((w81z N ).getD (0, 0, 0, 0, 0, 0, 0, 0, 0, 0)).2.2.1
def w81y3 (N : Nat)  : UInt8 := ((w81z N ).getD (0, 0, 0, 0, 0, 0, 0, 0, 0, 0)).2.2.2.1
def w81y4 (N : Nat)  : UInt8 := ((w81z N ).getD (0, 0, 0, 0, 0, 0, 0, 0, 0, 0)).2.2.2.2.1
def w81y5 (N : Nat)  : UInt8 := ((w81z N ).getD (0, 0, 0, 0, 0, 0, 0, 0, 0, 0)).2.2.2.2.2.1
def w81y6 (N : Nat)  : UInt8 := ((w81z N ).getD (0, 0, 0, 0, 0, 0, 0, 0, 0, 0)).2.2.2.2.2.2.1
def w81y7 (N : Nat)  : UInt8 := ((w81z N ).getD (0, 0, 0, 0, 0, 0, 0, 0, 0, 0)).2.2.2.2.2.2.2.1
def w81y8 (N : Nat)  : UInt8 := ((w81z N ).getD (0, 0, 0, 0, 0, 0, 0, 0, 0, 0)).2.2.2.2.2.2.2.2.1
def w81y9 (N : Nat)  : UInt8 := ((w81z N ).getD (0, 0, 0, 0, 0, 0, 0, 0, 0, 0)).2.2.2.2.2.2.2.2.2
def w81e (N : Nat) : Ent' := E0   (w81p N , w81r0 (w81y0 N ) (w81y1 N ) (w81y2 N ) (w81y3 N ) (w81y4 N ) (w81y5 N ) (w81y6 N ) (w81y7 N ) (w81y8 N ) (w81y9 N ))
theorem w81re {N : Nat}  {d : UInt8 × UInt8 × UInt8 × UInt8 × UInt8 × UInt8 × UInt8 × UInt8 × UInt8 × UInt8} (hd : w81z N  = some d) : w81r0 (w81y0 N ) (w81y1 N ) (w81y2 N ) (w81y3 N ) (w81y4 N ) (w81y5 N ) (w81y6 N ) (w81y7 N ) (w81y8 N ) (w81y9 N ) = w81r0 (d.1) (d.2.1) (d.2.2.1) (d.2.2.2.1) (d.2.2.2.2.1) (d.2.2.2.2.2.1) (d.2.2.2.2.2.2.1) (d.2.2.2.2.2.2.2.1) (d.2.2.2.2.2.2.2.2.1) (d.2.2.2.2.2.2.2.2.2) := by unfold w81y0 w81y1 w81y2 w81y3 w81y4 w81y5 w81y6 w81y7 w81y8 w81y9; rw [hd]; rfl
theorem w81ok (N : Nat) : EOk Tryd.prog 81 (w81e N) := EOk.e0 (fun h => by
  have h : (w81z N ).isSome = true := h
  obtain ⟨d, hd⟩ := Option.isSome_iff_exists.1 h
  have f := w81fin (w81cx N) hd
  rw [← w81re hd] at f
  exact f)
def w63r0 (a0 : Int) (a1 : (List (List UInt8))) : Res := (.tup [], [(50, .box 82 [.own 51, .e (.i .i64) a0]), (51, .nest 42 5 .u8 a1)])
noncomputable def w63L (N : Nat) : List (Nat × Ent') := [(80, w80e N), (81, w81e N)]
noncomputable def w63c (N : Nat) : Cx := ⟨Tryd.prog, 99999, w63L N⟩
noncomputable def w63b : Code := Tryd.f63.body.getD .skip
theorem w63cx (N : Nat) : CxOk (w63c N) := ctx_ok (by kernel_rfl) (.cons (by kernel_rfl) (w80ok N) (.cons (by kernel_rfl) (w81ok N) .nil))
def w63F0 [Alg] (N : Nat)  (self : Int → Int → Int → (List (List UInt8)) → Int → O) (k0 : Int → (List (List UInt8)) → O) (x0_0 : Int) (x0_1 : Int) (x0_2 : Int) (x0_3 : (List (List UInt8))) (x0_4 : Int) : O :=
  br (decide (x0_1 = (0 : Int)) || decide ((0 : Int) < x0_0))
    (ck (w81p N) <|
    ck true <|
    gx [w81y0 N, w81y1 N, w81y2 N, w81y3 N, w81y4 N, w81y5 N, w81y6 N, w81y7 N, w81y8 N, w81y9 N] (x0_0.tmod (10 : Int)) fun y3 =>
    ck (w80p N x0_1 y3 x0_4 x0_2 x0_3) <|
    ck true <|
    self (IntKind.i64.wrap (x0_0.tdiv (10 : Int))) (IntKind.i64.wrap (x0_1 + (1 : Int))) (w80y1 N x0_1 y3 x0_4 x0_2 x0_3) (w80y2 N x0_1 y3 x0_4 x0_2 x0_3) (w80y0 N x0_1 y3 x0_4 x0_2 x0_3))
    (k0 x0_2 x0_3)
noncomputable def w63b0 : Code := atC [1, 1, 1, 0, 0] w63b
def w63m0 : Nm := ⟨[1, 6, 7], [], []⟩
def w63I0 (x : Int × Int × Int × (List (List UInt8)) × Int) : Sg := ⟨[(1, .e (.i .i64) x.1), (6, .fn 80 [.ref 0 0, .ref 1 0]), (7, .e (.i .i64) x.2.1)], [(50, .box 82 [.own 51, .e (.i .i64) x.2.2.1]), (51, .nest 42 5 .u8 x.2.2.2.1), (0, .box 80 [.ref 50 0]), (1, .box 3 [.e (.i .i64) x.2.2.2.2])], 100⟩
def w63u0 (σ : Sg) : Int × Int × Int × (List (List UInt8)) × Int := (lvT (.i .i64) 1 0 σ, lvT (.i .i64) 7 0 σ, lvH (.i .i64) 50 1 σ, lvN .u8 51 σ, lvH (.i .i64) 1 0 σ)
theorem w63ui0 : ∀ x, w63u0 (w63I0 x) = x := fun _ => by kernel_rfl
def w63X0_0 (y : Int × (List (List UInt8))) : Exit × Sg := ((.exit 0), ⟨[], [(50, .box 82 [.own 51, .e (.i .i64) y.1]), (51, .nest 42 5 .u8 y.2)], 100⟩)
def w63v0_0 (σ : Sg) : Int × (List (List UInt8)) := (lvH (.i .i64) 50 1 σ, lvN .u8 51 σ)
def w63w0 : List (Exit × Nm) := [((.exit 0), ⟨[], [], []⟩)]
theorem w63o0 : Outs w63v0_0 (fun _ => ()) (fun _ => ()) w63X0_0 (noX 1) (noX 2) (.exit 0) (.goto 1) (.goto 2) := ⟨fun _ => by kernel_rfl, fun _ => by kernel_rfl, fun _ => by kernel_rfl, fun _ => by kernel_rfl, fun _ => by kernel_rfl, fun _ => by kernel_rfl, exNe_ok (by kernel_rfl), exNe_ok (by kernel_rfl), exNe_ok (by kernel_rfl)⟩
def w63l0 [Alg] (N : Nat) : Nat → (Int × Int × Int × (List (List UInt8)) × Int) → ((Int × (List (List UInt8))) → O) → ((Unit) → O) → ((Unit) → O) → O
  | 0, _, _, _, _ => none
  | n + 1, x, k0, k1, k2 => w63F0 N  (fun v0 v1 v2 v3 v4 => w63l0 N n (v0, v1, v2, v3, v4) k0 k1 k2) (fun y0 y1 => k0 (y0, y1)) x.1 x.2.1 x.2.2.1 x.2.2.2.1 x.2.2.2.2
def w63n0 [Alg] (N : Nat) (a0 : Int) (a1 : Int) (a2 : Int) (a3 : (List (List UInt8))) (a4 : Int) (k0 : Int → (List (List UInt8)) → O) : O := w63l0 N N (a0, a1, a2, a3, a4) (fun y => k0 y.1 y.2) (fun _ => none) (fun _ => none)
noncomputable def w63s0 [Alg] (N : Nat) (a0 : Int) (a1 : Int) (a2 : Int) (a3 : (List (List UInt8))) (a4 : Int) (k0 : Int → (List (List UInt8)) → O) : O := subL w63I0 w63u0 (w63l0 N N) (w63I0 (a0, a1, a2, a3, a4)) (fun y => k0 y.1 y.2) (fun _ => none) (fun _ => none)
theorem w63e0 [Alg] (N : Nat) : w63s0 N = w63n0 N := funext fun _ => funext fun _ => funext fun _ => funext fun _ => funext fun _ => funext fun _ => subL_I w63ui0 _ _ _ _
noncomputable def w63h0 [Alg] (_ : Nat) : Hint := .d
theorem w63hk0 (N : Nat) : HintOk (w63c N) Tryd.f63.ntmps (w63h0 N) w63b0 := hk_of _ _ trivial
theorem w63q0 [Alg] (N : Nat) (self : Sg → O) (K : Exit → Sg → O) (x : Int × Int × Int × (List (List UInt8)) × Int) : w63F0 N  (fun v0 v1 v2 v3 v4 => self (w63I0 (v0, v1, v2, v3, v4))) (fun y0 y1 => K (w63X0_0 (y0, y1)).1 (w63X0_0 (y0, y1)).2) x.1 x.2.1 x.2.2.1 x.2.2.2.1 x.2.2.2.2 = exec (w63c N) Tryd.f63.ntmps (w63h0 N) w63b0 (w63I0 x) (roundX w63m0 w63w0 self K) := by kernel_rfl
theorem w63S0 (N : Nat) (hc : CxOk (w63c N)) : SubOk (w63c N) Tryd.f63.ntmps (.loop w63b0) w63X0_0 (noX 1) (noX 2) (subL w63I0 w63u0 (w63l0 N N)) :=
  sub_loop hc (w63hk0 N) w63o0 (n := N) (fun x K => loop_ind (w63l0 N) (fun _ _ _ _ => rfl) (fun n K ih x => by
    have h : w63F0 N  (fun v0 v1 v2 v3 v4 => w63l0 N n (v0, v1, v2, v3, v4) (fun y => K (w63X0_0 y).1 (w63X0_0 y).2) (fun y => K ((noX 1) y).1 ((noX 1) y).2) (fun y => K ((noX 2) y).1 ((noX 2) y).2)) (fun y0 y1 => K (w63X0_0 (y0, y1)).1 (w63X0_0 (y0, y1)).2) x.1 x.2.1 x.2.2.1 x.2.2.2.1 x.2.2.2.2 = w63F0 N  (fun v0 v1 v2 v3 v4 => loopX (w63c N) Tryd.f63.ntmps (w63h0 N) w63b0 w63m0 w63w0 n (w63I0 (v0, v1, v2, v3, v4)) K) (fun y0 y1 => K (w63X0_0 (y0, y1)).1 (w63X0_0 (y0, y1)).2) x.1 x.2.1 x.2.2.1 x.2.2.2.1 x.2.2.2.2 := by rw [ show (fun v0 v1 v2 v3 v4 => w63l0 N n (v0, v1, v2, v3, v4) (fun y => K (w63X0_0 y).1 (w63X0_0 y).2) (fun y => K ((noX 1) y).1 ((noX 1) y).2) (fun y => K ((noX 2) y).1 ((noX 2) y).2)) = (fun v0 v1 v2 v3 v4 => loopX (w63c N) Tryd.f63.ntmps (w63h0 N) w63b0 w63m0 w63w0 n (w63I0 (v0, v1, v2, v3, v4)) K) from funext fun _ => funext fun _ => funext fun _ => funext fun _ => funext fun _ => ih _]
    exact h.trans (w63q0 N (fun σ => loopX (w63c N) Tryd.f63.ntmps (w63h0 N) w63b0 w63m0 w63w0 n σ K) K x)) N x K)
def w63G [Alg] (_ : Nat) (in0 : Int → Int → Int → (List (List UInt8)) → Int → (Int → (List (List UInt8)) → O) → O) (n1 : Int) (left2 : Int) (h50_0 : Int) (h51_0 : (List (List UInt8))) : O :=
  in0 n1 ((0 : Int)) h50_0 h51_0 left2
    (fun z4 z5 =>
      some (w63r0 z4 z5))
def w63 [Alg] (N : Nat) (n1 : Int) (left2 : Int) (h50_0 : Int) (h51_0 : (List (List UInt8))) : O := w63G N (w63n0 N) n1 left2 h50_0 h51_0
noncomputable def w63h [Alg] (N : Nat) : Hint := (.seq .d (.seq .d (.seq .d (.block (.sub w63m0 _ _ _ w63X0_0 (noX 1) (noX 2) (subL w63I0 w63u0 (w63l0 N N)))))))
theorem w63hk (N : Nat) (hc : CxOk (w63c N)) : HintOk (w63c N) Tryd.f63.ntmps (w63h N) w63b := hk_of _ _ (And.intro trivial (And.intro trivial (And.intro trivial (w63S0 N hc))))
theorem w63q [Alg] (N : Nat) (n1 : Int) (left2 : Int) (h50_0 : Int) (h51_0 : (List (List UInt8))) : w63G N (w63s0 N) n1 left2 h50_0 h51_0 = exec (w63c N) Tryd.f63.ntmps (w63h N) w63b ⟨argT 0 [.ref 50 0, .e (.i .i64) n1, .e (.i .i64) left2], [(50, .box 82 [.own 51, .e (.i .i64) h50_0]), (51, .nest 42 5 .u8 h51_0)], 100⟩ (finX (w63c N) Tryd.f63 true) := by kernel_rfl
theorem w63does {N : Nat} (hc : CxOk (w63c N)) {n1 : Int} {left2 : Int} {h50_0 : Int} {h51_0 : (List (List UInt8))} {r : Res} (h : w63 N n1 left2 h50_0 h51_0 = some r) : Does Tryd.prog 63 (([.ref 50 0, .e (.i .i64) n1, .e (.i .i64) left2] : List X).map X.D) (HA [(50, .box 82 [.own 51, .e (.i .i64) h50_0]), (51, .nest 42 5 .u8 h51_0)]) r.1.D (HA r.2) :=
  fun_ok hc (f := 63) (fn := Tryd.f63) (code := w63b) (by kernel_rfl) (by kernel_rfl) (w63hk N hc) (Nat.le_of_ble_eq_true (by kernel_rfl)) (ow := true) ((w63q N n1 left2 h50_0 h51_0).symm.trans (by rw [w63e0 N]; exact h))
def w63un (r : Res) : Option (Int × (List (List UInt8))) := match r with
  | (.tup [], [(50, .box 82 [.own 51, x0]), (51, x1)]) => (match ue (.i .i64) x0, uq 42 5 .u8 x1 with | some a0, some a1 => some (a0, a1) | _, _ => none)
  | _ => none
theorem w63uo {r : Res} {d : Int × (List (List UInt8))} (h : w63un r = some d) : r = w63r0 (d.1) (d.2) := by
  unfold w63un at h
  split at h
  · split at h
    · rename_i h0 h1; cases h; rw [ue_some h0, uq_some h1]; rfl
    · cases h
  · cases h
def w63z (N : Nat) (n1 : Int) (left2 : Int) (h50_0 : Int) (h51_0 : (List (List UInt8))) : Option (Int × (List (List UInt8))) := (w63 N n1 left2 h50_0 h51_0).bind w63un
theorem w63fin {N : Nat} (hc : CxOk (w63c N)) {n1 : Int} {left2 : Int} {h50_0 : Int} {h51_0 : (List (List UInt8))} {d : Int × (List (List UInt8))} (hd : w63z N n1 left2 h50_0 h51_0 = some d) : Does Tryd.prog 63 (([.ref 50 0, .e (.i .i64) n1, .e (.i .i64) left2] : List X).map X.D) (HA [(50, .box 82 [.own 51, .e (.i .i64) h50_0]), (51, .nest 42 5 .u8 h51_0)]) (w63r0 (d.1) (d.2)).1.D (HA (w63r0 (d.1) (d.2)).2) := by
  obtain ⟨r, hr, hu⟩ := Option.bind_eq_some_iff.1 hd
  have := w63does hc hr
  rw [w63uo hu] at this
  exact this
def w63p (N : Nat) (n1 : Int) (left2 : Int) (h50_0 : Int) (h51_0 : (List (List UInt8))) : Bool := (w63z N n1 left2 h50_0 h51_0).isSome
def w63y0 (N : Nat) (n1 : Int) (left2 : Int) (h50_0 : Int) (h51_0 : (List (List UInt8))) : Int := ((w63z N n1 left2 h50_0 h51_0).getD (0, [])).1
def w63y1 (N : Nat) (n1 : Int) (left2 : Int) (h50_0 : Int) (h51_0 : (List (List UInt8))) : (List (List UInt8)) := ((w63z N n1 left2 h50_0 h51_0).getD (0, [])).2
def w63in (xs : List X) (H : XH) : Option (Int × Int × Int × (List (List UInt8))) := match xs, H with
  | [.ref 50 0, x0, x1], [(50, .box 82 [.own 51, x2]), (51, x3)] => (match ue (.i .i64) x0, ue (.i .i64) x1, ue (.i .i64) x2, uq 42 5 .u8 x3 with | some a0, some a1, some a2, some a3 => some (a0, a1, a2, a3) | _, _, _, _ => none)
  | _, _ => none
theorem w63io {xs : List X} {H : XH} {d : Int × Int × Int × (List (List UInt8))} (h : w63in xs H = some d) : xs = [.ref 50 0, .e (.i .i64) (d.1), .e (.i .i64) (d.2.1)] ∧ H = [(50, .box 82 [.own 51, .e (.i .i64) (d.2.2.1)]), (51, .nest 42 5 .u8 (d.2.2.2))] := by
  unfold w63in at h
  split at h
  · split at h
    · rename_i h0 h1 h2 h3; cases h; rw [ue_some h0, ue_some h1, ue_some h2, uq_some h3]; exact ⟨rfl, rfl⟩
    · cases h
  · cases h
def w63e (N : Nat) : Ent' := fun xs H => match w63in xs H with | some d => some (w63p N (d.1) (d.2.1) (d.2.2.1) (d.2.2.2), w63r0 (w63y0 N (d.1) (d.2.1) (d.2.2.1) (d.2.2.2)) (w63y1 N (d.1) (d.2.1) (d.2.2.1) (d.2.2.2))) | none => none
theorem w63re {N : Nat} {n1 : Int} {left2 : Int} {h50_0 : Int} {h51_0 : (List (List UInt8))} {d : Int × (List (List UInt8))} (hd : w63z N n1 left2 h50_0 h51_0 = some d) : w63r0 (w63y0 N n1 left2 h50_0 h51_0) (w63y1 N n1 left2 h50_0 h51_0) = w63r0 (d.1) (d.2) := by unfold w63y0 w63y1; rw [hd]; rfl
theorem w63ok (N : Nat) : EOk Tryd.prog 63 (w63e N) := fun xs H pre r he hp => by
  unfold w63e at he
  split at he
  · rename_i d hd
    have he := Option.some.inj he
    have h1 := congrArg Prod.fst he
    have h2 := congrArg Prod.snd he
    simp only at h1 h2
    obtain ⟨e1, e2⟩ := w63io hd
    rw [e1, e2, ← h2]
    have h : (w63z N (d.1) (d.2.1) (d.2.2.1) (d.2.2.2)).isSome = true := h1.trans hp
    obtain ⟨d', hd'⟩ := Option.isSome_iff_exists.1 h
    have f := w63fin (w63cx N) hd'
    rw [← w63re hd'] at f
    exact f
  · cases he
def w64r0 (a0 : Int) (a1 : (List (List UInt8))) : Res := (.tup [], [(50, .box 82 [.own 100, .e (.i .i64) a0]), (100, .nest 42 5 .u8 a1)])
noncomputable def w64L (N : Nat) : List (Nat × Ent') := [(62, w62e N), (63, w63e N)]
noncomputable def w64c (N : Nat) : Cx := ⟨Tryd.prog, 99999, w64L N⟩
noncomputable def w64b : Code := Tryd.f64.body.getD .skip
theorem w64cx (N : Nat) : CxOk (w64c N) := ctx_ok (by kernel_rfl) (.cons (by kernel_rfl) (w62ok N) (.cons (by kernel_rfl) (w63ok N) .nil))
def w64G [Alg] (N : Nat)  (n1 : Int) (left2 : Int) (h50_0 : Int) (h51_0 : (List (List UInt8))) : O :=
  ck (w62p N h50_0 h51_0) <|
  ck (w63p N n1 left2 (w62y0 N h50_0 h51_0) (w62y1 N h50_0 h51_0)) <|
  some (w64r0 (w63y0 N n1 left2 (w62y0 N h50_0 h51_0) (w62y1 N h50_0 h51_0)) (w63y1 N n1 left2 (w62y0 N h50_0 h51_0) (w62y1 N h50_0 h51_0)))
def w64 [Alg] (N : Nat) (n1 : Int) (left2 : Int) (h50_0 : Int) (h51_0 : (List (List UInt8))) : O := w64G N  n1 left2 h50_0 h51_0
noncomputable def w64h [Alg] (_ : Nat) : Hint := .d
theorem w64hk (N : Nat) : HintOk (w64c N) Tryd.f64.ntmps (w64h N) w64b := hk_of _ _ trivial
theorem w64q [Alg] (N : Nat) (n1 : Int) (left2 : Int) (h50_0 : Int) (h51_0 : (List (List UInt8))) : w64G N  n1 left2 h50_0 h51_0 = exec (w64c N) Tryd.f64.ntmps (w64h N) w64b ⟨argT 0 [.ref 50 0, .e (.i .i64) n1, .e (.i .i64) left2], [(50, .box 82 [.own 51, .e (.i .i64) h50_0]), (51, .nest 42 5 .u8 h51_0)], 100⟩ (finX (w64c N) Tryd.f64 true) := by kernel_rfl
theorem w64does {N : Nat} (hc : CxOk (w64c N)) {n1 : Int} {left2 : Int} {h50_0 : Int} {h51_0 : (List (List UInt8))} {r : Res} (h : w64 N n1 left2 h50_0 h51_0 = some r) : Does Tryd.prog 64 (([.ref 50 0, .e (.i .i64) n1, .e (.i .i64) left2] : List X).map X.D) (HA [(50, .box 82 [.own 51, .e (.i .i64) h50_0]), (51, .nest 42 5 .u8 h51_0)]) r.1.D (HA r.2) :=
  fun_ok hc (f := 64) (fn := Tryd.f64) (code := w64b) (by kernel_rfl) (by kernel_rfl) (w64hk N) (Nat.le_of_ble_eq_true (by kernel_rfl)) (ow := true) ((w64q N n1 left2 h50_0 h51_0).symm.trans (by exact h))
def w64un (r : Res) : Option (Int × (List (List UInt8))) := match r with
  | (.tup [], [(50, .box 82 [.own 100, x0]), (100, x1)]) => (match ue (.i .i64) x0, uq 42 5 .u8 x1 with | some a0, some a1 => some (a0, a1) | _, _ => none)
  | _ => none
theorem w64uo {r : Res} {d : Int × (List (List UInt8))} (h : w64un r = some d) : r = w64r0 (d.1) (d.2) := by
  unfold w64un at h
  split at h
  · split at h
    · rename_i h0 h1; cases h; rw [ue_some h0, uq_some h1]; rfl
    · cases h
  · cases h
def w64z (N : Nat) (n1 : Int) (left2 : Int) (h50_0 : Int) (h51_0 : (List (List UInt8))) : Option (Int × (List (List UInt8))) := (w64 N n1 left2 h50_0 h51_0).bind w64un
theorem w64fin {N : Nat} (hc : CxOk (w64c N)) {n1 : Int} {left2 : Int} {h50_0 : Int} {h51_0 : (List (List UInt8))} {d : Int × (List (List UInt8))} (hd : w64z N n1 left2 h50_0 h51_0 = some d) : Does Tryd.prog 64 (([.ref 50 0, .e (.i .i64) n1, .e (.i .i64) left2] : List X).map X.D) (HA [(50, .box 82 [.own 51, .e (.i .i64) h50_0]), (51, .nest 42 5 .u8 h51_0)]) (w64r0 (d.1) (d.2)).1.D (HA (w64r0 (d.1) (d.2)).2) := by
  obtain ⟨r, hr, hu⟩ := Option.bind_eq_some_iff.1 hd
  have := w64does hc hr
  rw [w64uo hu] at this
  exact this
def w64p (N : Nat) (n1 : Int) (left2 : Int) (h50_0 : Int) (h51_0 : (List (List UInt8))) : Bool := (w64z N n1 left2 h50_0 h51_0).isSome
def w64y0 (N : Nat) (n1 : Int) (left2 : Int) (h50_0 : Int) (h51_0 : (List (List UInt8))) : Int := ((w64z N n1 left2 h50_0 h51_0).getD (0, [])).1
def w64y1 (N : Nat) (n1 : Int) (left2 : Int) (h50_0 : Int) (h51_0 : (List (List UInt8))) : (List (List UInt8)) := ((w64z N n1 left2 h50_0 h51_0).getD (0, [])).2
def w64in (xs : List X) (H : XH) : Option (Int × Int × Int × (List (List UInt8))) := match xs, H with
  | [.ref 50 0, x0, x1], [(50, .box 82 [.own 51, x2]), (51, x3)] => (match ue (.i .i64) x0, ue (.i .i64) x1, ue (.i .i64) x2, uq 42 5 .u8 x3 with | some a0, some a1, some a2, some a3 => some (a0, a1, a2, a3) | _, _, _, _ => none)
  | _, _ => none
theorem w64io {xs : List X} {H : XH} {d : Int × Int × Int × (List (List UInt8))} (h : w64in xs H = some d) : xs = [.ref 50 0, .e (.i .i64) (d.1), .e (.i .i64) (d.2.1)] ∧ H = [(50, .box 82 [.own 51, .e (.i .i64) (d.2.2.1)]), (51, .nest 42 5 .u8 (d.2.2.2))] := by
  unfold w64in at h
  split at h
  · split at h
    · rename_i h0 h1 h2 h3; cases h; rw [ue_some h0, ue_some h1, ue_some h2, uq_some h3]; exact ⟨rfl, rfl⟩
    · cases h
  · cases h
def w64e (N : Nat) : Ent' := fun xs H => match w64in xs H with | some d => some (w64p N (d.1) (d.2.1) (d.2.2.1) (d.2.2.2), w64r0 (w64y0 N (d.1) (d.2.1) (d.2.2.1) (d.2.2.2)) (w64y1 N (d.1) (d.2.1) (d.2.2.1) (d.2.2.2))) | none => none
theorem w64re {N : Nat} {n1 : Int} {left2 : Int} {h50_0 : Int} {h51_0 : (List (List UInt8))} {d : Int × (List (List UInt8))} (hd : w64z N n1 left2 h50_0 h51_0 = some d) : w64r0 (w64y0 N n1 left2 h50_0 h51_0) (w64y1 N n1 left2 h50_0 h51_0) = w64r0 (d.1) (d.2) := by unfold w64y0 w64y1; rw [hd]; rfl
theorem w64ok (N : Nat) : EOk Tryd.prog 64 (w64e N) := fun xs H pre r he hp => by
  unfold w64e at he
  split at he
  · rename_i d hd
    have he := Option.some.inj he
    have h1 := congrArg Prod.fst he
    have h2 := congrArg Prod.snd he
    simp only at h1 h2
    obtain ⟨e1, e2⟩ := w64io hd
    rw [e1, e2, ← h2]
    have h : (w64z N (d.1) (d.2.1) (d.2.2.1) (d.2.2.2)).isSome = true := h1.trans hp
    obtain ⟨d', hd'⟩ := Option.isSome_iff_exists.1 h
    have f := w64fin (w64cx N) hd'
    rw [← w64re hd'] at f
    exact f
  · cases he
def w65r0 (a0 : Int) (a1 : (List (List UInt8))) : Res := (.tup [], [(50, .box 82 [.own 51, .e (.i .i64) a0]), (51, .nest 42 5 .u8 a1)])
noncomputable def w65L (_ : Nat) : List (Nat × Ent') := []
noncomputable def w65c (N : Nat) : Cx := ⟨Tryd.prog, 99999, w65L N⟩
noncomputable def w65b : Code := Tryd.f65.body.getD .skip
theorem w65cx (N : Nat) : CxOk (w65c N) := ctx_ok (by kernel_rfl) .nil
def w65G [Alg] (_ : Nat)  (c1 : UInt8) (h50_0 : Int) (h51_0 : (List (List UInt8))) : O :=
  ck (decide ((0 : Int) ≤ IntKind.i64.wrap ((↑h51_0.length : Int) - (1 : Int)) ∧ IntKind.i64.wrap ((↑h51_0.length : Int) - (1 : Int)) < (↑h51_0.length : Int))) <|
  gn h51_0 ((IntKind.i64.wrap ((↑h51_0.length : Int) - (1 : Int))).toNat) fun _ =>
  gn h51_0 ((IntKind.i64.wrap ((↑h51_0.length : Int) - (1 : Int))).toNat) fun y1 =>
  ck (decide ((0 : Int) ≤ (0 : Int) ∧ (0 : Int) < (↑y1.length : Int))) <|
  gn h51_0 ((IntKind.i64.wrap ((↑h51_0.length : Int) - (1 : Int))).toNat) fun y2 =>
  gn y2 ((0 : Nat)) fun _ =>
  some (w65r0 h50_0 (h51_0.set (IntKind.i64.wrap ((↑h51_0.length : Int) - (1 : Int))).toNat (y2.set (0 : Nat) c1)))
def w65 [Alg] (N : Nat) (c1 : UInt8) (h50_0 : Int) (h51_0 : (List (List UInt8))) : O := w65G N  c1 h50_0 h51_0
noncomputable def w65h [Alg] (_ : Nat) : Hint := (.reg [] [] [[], [], [], [], [], [], [], [], [], [], [], [], [], [], [51]])
theorem w65hk (N : Nat) : HintOk (w65c N) Tryd.f65.ntmps (w65h N) w65b := hk_of _ _ trivial
theorem w65q [Alg] (N : Nat) (c1 : UInt8) (h50_0 : Int) (h51_0 : (List (List UInt8))) : w65G N  c1 h50_0 h51_0 = exec (w65c N) Tryd.f65.ntmps (w65h N) w65b ⟨argT 0 [.ref 50 0, .e .u8 c1], [(50, .box 82 [.own 51, .e (.i .i64) h50_0]), (51, .nest 42 5 .u8 h51_0)], 100⟩ (finX (w65c N) Tryd.f65 true) := by kernel_rfl
theorem w65does {N : Nat} (hc : CxOk (w65c N)) {c1 : UInt8} {h50_0 : Int} {h51_0 : (List (List UInt8))} {r : Res} (h : w65 N c1 h50_0 h51_0 = some r) : Does Tryd.prog 65 (([.ref 50 0, .e .u8 c1] : List X).map X.D) (HA [(50, .box 82 [.own 51, .e (.i .i64) h50_0]), (51, .nest 42 5 .u8 h51_0)]) r.1.D (HA r.2) :=
  fun_ok hc (f := 65) (fn := Tryd.f65) (code := w65b) (by kernel_rfl) (by kernel_rfl) (w65hk N) (Nat.le_of_ble_eq_true (by kernel_rfl)) (ow := true) ((w65q N c1 h50_0 h51_0).symm.trans (by exact h))
def w65un (r : Res) : Option (Int × (List (List UInt8))) := match r with
  | (.tup [], [(50, .box 82 [.own 51, x0]), (51, x1)]) => (match ue (.i .i64) x0, uq 42 5 .u8 x1 with | some a0, some a1 => some (a0, a1) | _, _ => none)
  | _ => none
theorem w65uo {r : Res} {d : Int × (List (List UInt8))} (h : w65un r = some d) : r = w65r0 (d.1) (d.2) := by
  unfold w65un at h
  split at h
  · split at h
    · rename_i h0 h1; cases h; rw [ue_some h0, uq_some h1]; rfl
    · cases h
  · cases h
def w65z (N : Nat) (c1 : UInt8) (h50_0 : Int) (h51_0 : (List (List UInt8))) : Option (Int × (List (List UInt8))) := (w65 N c1 h50_0 h51_0).bind w65un
theorem w65fin {N : Nat} (hc : CxOk (w65c N)) {c1 : UInt8} {h50_0 : Int} {h51_0 : (List (List UInt8))} {d : Int × (List (List UInt8))} (hd : w65z N c1 h50_0 h51_0 = some d) : Does Tryd.prog 65 (([.ref 50 0, .e .u8 c1] : List X).map X.D) (HA [(50, .box 82 [.own 51, .e (.i .i64) h50_0]), (51, .nest 42 5 .u8 h51_0)]) (w65r0 (d.1) (d.2)).1.D (HA (w65r0 (d.1) (d.2)).2) := by
  obtain ⟨r, hr, hu⟩ := Option.bind_eq_some_iff.1 hd
  have := w65does hc hr
  rw [w65uo hu] at this
  exact this
def w65p (N : Nat) (c1 : UInt8) (h50_0 : Int) (h51_0 : (List (List UInt8))) : Bool := (w65z N c1 h50_0 h51_0).isSome
def w65y0 (N : Nat) (c1 : UInt8) (h50_0 : Int) (h51_0 : (List (List UInt8))) : Int := ((w65z N c1 h50_0 h51_0).getD (0, [])).1
def w65y1 (N : Nat) (c1 : UInt8) (h50_0 : Int) (h51_0 : (List (List UInt8))) : (List (List UInt8)) := ((w65z N c1 h50_0 h51_0).getD (0, [])).2
def w65in (xs : List X) (H : XH) : Option (UInt8 × Int × (List (List UInt8))) := match xs, H with
  | [.ref 50 0, x0], [(50, .box 82 [.own 51, x1]), (51, x2)] => (match ue .u8 x0, ue (.i .i64) x1, uq 42 5 .u8 x2 with | some a0, some a1, some a2 => some (a0, a1, a2) | _, _, _ => none)
  | _, _ => none
theorem w65io {xs : List X} {H : XH} {d : UInt8 × Int × (List (List UInt8))} (h : w65in xs H = some d) : xs = [.ref 50 0, .e .u8 (d.1)] ∧ H = [(50, .box 82 [.own 51, .e (.i .i64) (d.2.1)]), (51, .nest 42 5 .u8 (d.2.2))] := by
  unfold w65in at h
  split at h
  · split at h
    · rename_i h0 h1 h2; cases h; rw [ue_some h0, ue_some h1, uq_some h2]; exact ⟨rfl, rfl⟩
    · cases h
  · cases h
def w65e (N : Nat) : Ent' := fun xs H => match w65in xs H with | some d => some (w65p N (d.1) (d.2.1) (d.2.2), w65r0 (w65y0 N (d.1) (d.2.1) (d.2.2)) (w65y1 N (d.1) (d.2.1) (d.2.2))) | none => none
theorem w65re {N : Nat} {c1 : UInt8} {h50_0 : Int} {h51_0 : (List (List UInt8))} {d : Int × (List (List UInt8))} (hd : w65z N c1 h50_0 h51_0 = some d) : w65r0 (w65y0 N c1 h50_0 h51_0) (w65y1 N c1 h50_0 h51_0) = w65r0 (d.1) (d.2) := by unfold w65y0 w65y1; rw [hd]; rfl
theorem w65ok (N : Nat) : EOk Tryd.prog 65 (w65e N) := fun xs H pre r he hp => by
  unfold w65e at he
  split at he
  · rename_i d hd
    have he := Option.some.inj he
    have h1 := congrArg Prod.fst he
    have h2 := congrArg Prod.snd he
    simp only at h1 h2
    obtain ⟨e1, e2⟩ := w65io hd
    rw [e1, e2, ← h2]
    have h : (w65z N (d.1) (d.2.1) (d.2.2)).isSome = true := h1.trans hp
    obtain ⟨d', hd'⟩ := Option.isSome_iff_exists.1 h
    have f := w65fin (w65cx N) hd'
    rw [← w65re hd'] at f
    exact f
  · cases he
def w82r0 (a0 : (List UInt8)) : Res := (.own 100, [(100, .row 5 .u8 a0 false)])
noncomputable def w82L (N : Nat) : List (Nat × Ent') := [(91, w91e N)]
noncomputable def w82c (N : Nat) : Cx := ⟨Tryd.prog, 99999, w82L N⟩
noncomputable def w82b : Code := Tryd.f82.body.getD .skip
theorem w82cx (N : Nat) : CxOk (w82c N) := ctx_ok (by kernel_rfl) (.cons (by kernel_rfl) (w91ok N) .nil)
def w82F0 [Alg] (_ : Nat)   (k0 : (List UInt8) → Int → O) (x0_0 : (List UInt8)) (x0_1 : Int) : O :=
  br (decide (x0_1 < (0 : Int)))
    (none)
    (k0 x0_0 x0_1)
noncomputable def w82b0 : Code := atC [1, 0] w82b
def w82m0 : Nm := ⟨[0, 1, 4], [], []⟩
def w82I0 (x : (List UInt8) × Int) : Sg := ⟨[(0, .e (.sl .u8) x.1), (1, .e (.i .i64) x.2), (4, .nilS)], [], 100⟩
def w82u0 (σ : Sg) : (List UInt8) × Int := (lvT (.sl .u8) 0 0 σ, lvT (.i .i64) 1 0 σ)
theorem w82ui0 : ∀ x, w82u0 (w82I0 x) = x := fun _ => by kernel_rfl
def w82X0_0 (y : (List UInt8) × Int) : Exit × Sg := (.normal, ⟨[(0, .e (.sl .u8) y.1), (1, .e (.i .i64) y.2), (4, .nilS)], [], 100⟩)
def w82v0_0 (σ : Sg) : (List UInt8) × Int := (lvT (.sl .u8) 0 0 σ, lvT (.i .i64) 1 0 σ)
def w82w0 : List (Exit × Nm) := [(.normal, ⟨[0, 1, 4], [], []⟩)]
theorem w82o0 : Outs w82v0_0 (fun _ => ()) (fun _ => ()) w82X0_0 (noX 1) (noX 2) .normal (.goto 1) (.goto 2) := ⟨fun _ => by kernel_rfl, fun _ => by kernel_rfl, fun _ => by kernel_rfl, fun _ => by kernel_rfl, fun _ => by kernel_rfl, fun _ => by kernel_rfl, exNe_ok (by kernel_rfl), exNe_ok (by kernel_rfl), exNe_ok (by kernel_rfl)⟩
def w82l0 [Alg] (N : Nat) (_ : Nat) (x : (List UInt8) × Int) (k0 : ((List UInt8) × Int) → O) (_ : (Unit) → O) (_ : (Unit) → O) : O := w82F0 N   (fun y0 y1 => k0 (y0, y1)) x.1 x.2
def w82n0 [Alg] (N : Nat) (a0 : (List UInt8)) (a1 : Int) (k0 : (List UInt8) → Int → O) : O := w82l0 N N (a0, a1) (fun y => k0 y.1 y.2) (fun _ => none) (fun _ => none)
noncomputable def w82s0 [Alg] (N : Nat) (a0 : (List UInt8)) (a1 : Int) (k0 : (List UInt8) → Int → O) : O := subL w82I0 w82u0 (w82l0 N N) (w82I0 (a0, a1)) (fun y => k0 y.1 y.2) (fun _ => none) (fun _ => none)
theorem w82e0 [Alg] (N : Nat) : w82s0 N = w82n0 N := funext fun _ => funext fun _ => funext fun _ => subL_I w82ui0 _ _ _ _
noncomputable def w82h0 [Alg] (_ : Nat) : Hint := .d
theorem w82hk0 (N : Nat) : HintOk (w82c N) Tryd.f82.ntmps (w82h0 N) w82b0 := hk_of _ _ trivial
theorem w82q0 [Alg] (N : Nat) (K : Exit → Sg → O) (x : (List UInt8) × Int) : w82F0 N   (fun y0 y1 => K (w82X0_0 (y0, y1)).1 (w82X0_0 (y0, y1)).2) x.1 x.2 = exec (w82c N) Tryd.f82.ntmps (w82h0 N) w82b0 (w82I0 x) (partX w82w0 K) := by kernel_rfl
theorem w82S0 (N : Nat) (hc : CxOk (w82c N)) : SubOk (w82c N) Tryd.f82.ntmps w82b0 w82X0_0 (noX 1) (noX 2) (subL w82I0 w82u0 (w82l0 N N)) :=
  sub_part hc (w82hk0 N) w82o0 (fun x K => by
    have h : w82F0 N   (fun y0 y1 => K (w82X0_0 (y0, y1)).1 (w82X0_0 (y0, y1)).2) x.1 x.2 = w82F0 N   (fun y0 y1 => K (w82X0_0 (y0, y1)).1 (w82X0_0 (y0, y1)).2) x.1 x.2 := by rfl
    exact h.trans (w82q0 N K x))
def w82F1 [Alg] (_ : Nat)   (k0 : (List UInt8) → Int → O) (x3_0 : (List UInt8)) (x3_1 : Int) (x3_2 : Int) : O :=
  br (decide ((0 : Int) < x3_1) || decide ((9223372036854775807 : Int) < x3_2))
    (none)
    (k0 x3_0 x3_2)
noncomputable def w82b1 : Code := atC [1, 1, 1, 0] w82b
def w82m1 : Nm := ⟨[0, 4, 5, 6], [], []⟩
def w82I1 (x : (List UInt8) × Int × Int) : Sg := ⟨[(0, .e (.sl .u8) x.1), (4, .nilS), (5, .e (.i .u64) x.2.1), (6, .e (.i .u64) x.2.2)], [], 100⟩
def w82u1 (σ : Sg) : (List UInt8) × Int × Int := (lvT (.sl .u8) 0 0 σ, lvT (.i .u64) 5 0 σ, lvT (.i .u64) 6 0 σ)
theorem w82ui1 : ∀ x, w82u1 (w82I1 x) = x := fun _ => by kernel_rfl
def w82X1_0 (y : (List UInt8) × Int) : Exit × Sg := (.normal, ⟨[(0, .e (.sl .u8) y.1), (4, .nilS), (6, .e (.i .u64) y.2)], [], 100⟩)
def w82v1_0 (σ : Sg) : (List UInt8) × Int := (lvT (.sl .u8) 0 0 σ, lvT (.i .u64) 6 0 σ)
def w82w1 : List (Exit × Nm) := [(.normal, ⟨[0, 4, 6], [], []⟩)]
theorem w82o1 : Outs w82v1_0 (fun _ => ()) (fun _ => ()) w82X1_0 (noX 1) (noX 2) .normal (.goto 1) (.goto 2) := ⟨fun _ => by kernel_rfl, fun _ => by kernel_rfl, fun _ => by kernel_rfl, fun _ => by kernel_rfl, fun _ => by kernel_rfl, fun _ => by kernel_rfl, exNe_ok (by kernel_rfl), exNe_ok (by kernel_rfl), exNe_ok (by kernel_rfl)⟩
def w82l1 [Alg] (N : Nat) (_ : Nat) (x : (List UInt8) × Int × Int) (k0 : ((List UInt8) × Int) → O) (_ : (Unit) → O) (_ : (Unit) → O) : O := w82F1 N   (fun y0 y1 => k0 (y0, y1)) x.1 x.2.1 x.2.2
def w82n1 [Alg] (N : Nat) (a0 : (List UInt8)) (a1 : Int) (a2 : Int) (k0 : (List UInt8) → Int → O) : O := w82l1 N N (a0, a1, a2) (fun y => k0 y.1 y.2) (fun _ => none) (fun _ => none)
noncomputable def w82s1 [Alg] (N : Nat) (a0 : (List UInt8)) (a1 : Int) (a2 : Int) (k0 : (List UInt8) → Int → O) : O := subL w82I1 w82u1 (w82l1 N N) (w82I1 (a0, a1, a2)) (fun y => k0 y.1 y.2) (fun _ => none) (fun _ => none)
theorem w82e1 [Alg] (N : Nat) : w82s1 N = w82n1 N := funext fun _ => funext fun _ => funext fun _ => funext fun _ => subL_I w82ui1 _ _ _ _
noncomputable def w82h1 [Alg] (_ : Nat) : Hint := .d
theorem w82hk1 (N : Nat) : HintOk (w82c N) Tryd.f82.ntmps (w82h1 N) w82b1 := hk_of _ _ trivial
theorem w82q1 [Alg] (N : Nat) (K : Exit → Sg → O) (x : (List UInt8) × Int × Int) : w82F1 N   (fun y0 y1 => K (w82X1_0 (y0, y1)).1 (w82X1_0 (y0, y1)).2) x.1 x.2.1 x.2.2 = exec (w82c N) Tryd.f82.ntmps (w82h1 N) w82b1 (w82I1 x) (partX w82w1 K) := by kernel_rfl
theorem w82S1 (N : Nat) (hc : CxOk (w82c N)) : SubOk (w82c N) Tryd.f82.ntmps w82b1 w82X1_0 (noX 1) (noX 2) (subL w82I1 w82u1 (w82l1 N N)) :=
  sub_part hc (w82hk1 N) w82o1 (fun x K => by
    have h : w82F1 N   (fun y0 y1 => K (w82X1_0 (y0, y1)).1 (w82X1_0 (y0, y1)).2) x.1 x.2.1 x.2.2 = w82F1 N   (fun y0 y1 => K (w82X1_0 (y0, y1)).1 (w82X1_0 (y0, y1)).2) x.1 x.2.1 x.2.2 := by rfl
    exact h.trans (w82q1 N K x))
def w82F2 [Alg] (_ : Nat)  (self : Int → (List UInt8) → O) (k0 : (List UInt8) → O) (x6_0 : Int) (x6_1 : (List UInt8)) : O :=
  br (decide (x6_0 < (↑x6_1.length : Int)))
    (ck (slcOk x6_1.length (some x6_0) none) <|
    ck (slcOk x6_1.length none (some x6_0)) <|
    ck (decide ((0 : Nat) + (hiV x6_1.length (some x6_0) - (0 : Nat)) ≤ x6_1.length)) <|
    ck (decide (loV (some x6_0) + (hiV x6_1.length none - loV (some x6_0)) ≤ x6_1.length)) <|
    self (IntKind.i64.wrap (x6_0 + (↑(min (List.take (hiV x6_1.length (some x6_0) - (0 : Nat)) (List.drop (0 : Nat) x6_1)).length (hiV x6_1.length none - loV (some x6_0))) : Int))) (List.take (loV (some x6_0)) x6_1 ++ List.take (hiV x6_1.length none - loV (some x6_0)) (List.take (hiV x6_1.length (some x6_0) - (0 : Nat)) (List.drop (0 : Nat) x6_1)) ++ List.drop (loV (some x6_0) + min (List.take (hiV x6_1.length (some x6_0) - (0 : Nat)) (List.drop (0 : Nat) x6_1)).length (hiV x6_1.length none - loV (some x6_0))) x6_1))
    (k0 x6_1)
noncomputable def w82b2 : Code := atC [1, 1, 1, 1, 1, 1, 0, 0, 0] w82b
def w82m2 : Nm := ⟨[4, 7, 8], [], []⟩
def w82I2 (x : Int × (List UInt8)) : Sg := ⟨[(4, .nilS), (7, .own 0), (8, .e (.i .i64) x.1)], [(0, .row 5 .u8 x.2 false)], 100⟩
def w82u2 (σ : Sg) : Int × (List UInt8) := (lvT (.i .i64) 8 0 σ, lvR .u8 0 σ)
theorem w82ui2 : ∀ x, w82u2 (w82I2 x) = x := fun _ => by kernel_rfl
def w82X2_0 (y : (List UInt8)) : Exit × Sg := ((.exit 0), ⟨[(4, .nilS), (7, .own 0)], [(0, .row 5 .u8 y false)], 100⟩)
def w82v2_0 (σ : Sg) : (List UInt8) := lvR .u8 0 σ
def w82w2 : List (Exit × Nm) := [((.exit 0), ⟨[4, 7], [], []⟩)]
theorem w82o2 : Outs w82v2_0 (fun _ => ()) (fun _ => ()) w82X2_0 (noX 1) (noX 2) (.exit 0) (.goto 1) (.goto 2) := ⟨fun _ => by kernel_rfl, fun _ => by kernel_rfl, fun _ => by kernel_rfl, fun _ => by kernel_rfl, fun _ => by kernel_rfl, fun _ => by kernel_rfl, exNe_ok (by kernel_rfl), exNe_ok (by kernel_rfl), exNe_ok (by kernel_rfl)⟩
def w82l2 [Alg] (N : Nat) : Nat → (Int × (List UInt8)) → (((List UInt8)) → O) → ((Unit) → O) → ((Unit) → O) → O
  | 0, _, _, _, _ => none
  | n + 1, x, k0, k1, k2 => w82F2 N  (fun v0 v1 => w82l2 N n (v0, v1) k0 k1 k2) (fun y0 => k0 y0) x.1 x.2
def w82n2 [Alg] (N : Nat) (a0 : Int) (a1 : (List UInt8)) (k0 : (List UInt8) → O) : O := w82l2 N N (a0, a1) (fun y => k0 y) (fun _ => none) (fun _ => none)
noncomputable def w82s2 [Alg] (N : Nat) (a0 : Int) (a1 : (List UInt8)) (k0 : (List UInt8) → O) : O := subL w82I2 w82u2 (w82l2 N N) (w82I2 (a0, a1)) (fun y => k0 y) (fun _ => none) (fun _ => none)
theorem w82e2 [Alg] (N : Nat) : w82s2 N = w82n2 N := funext fun _ => funext fun _ => funext fun _ => subL_I w82ui2 _ _ _ _
noncomputable def w82h2 [Alg] (_ : Nat) : Hint := (.seq .d (.block (.reg [] [] [[], [], [], [], [], [], [], [0], [], []])))
theorem w82hk2 (N : Nat) : HintOk (w82c N) Tryd.f82.ntmps (w82h2 N) w82b2 := hk_of _ _ (And.intro trivial trivial)
theorem w82q2 [Alg] (N : Nat) (self : Sg → O) (K : Exit → Sg → O) (x : Int × (List UInt8)) : w82F2 N  (fun v0 v1 => self (w82I2 (v0, v1))) (fun y0 => K (w82X2_0 y0).1 (w82X2_0 y0).2) x.1 x.2 = exec (w82c N) Tryd.f82.ntmps (w82h2 N) w82b2 (w82I2 x) (roundX w82m2 w82w2 self K) := by kernel_rfl
theorem w82S2 (N : Nat) (hc : CxOk (w82c N)) : SubOk (w82c N) Tryd.f82.ntmps (.loop w82b2) w82X2_0 (noX 1) (noX 2) (subL w82I2 w82u2 (w82l2 N N)) :=
  sub_loop hc (w82hk2 N) w82o2 (n := N) (fun x K => loop_ind (w82l2 N) (fun _ _ _ _ => rfl) (fun n K ih x => by
    have h : w82F2 N  (fun v0 v1 => w82l2 N n (v0, v1) (fun y => K (w82X2_0 y).1 (w82X2_0 y).2) (fun y => K ((noX 1) y).1 ((noX 1) y).2) (fun y => K ((noX 2) y).1 ((noX 2) y).2)) (fun y0 => K (w82X2_0 y0).1 (w82X2_0 y0).2) x.1 x.2 = w82F2 N  (fun v0 v1 => loopX (w82c N) Tryd.f82.ntmps (w82h2 N) w82b2 w82m2 w82w2 n (w82I2 (v0, v1)) K) (fun y0 => K (w82X2_0 y0).1 (w82X2_0 y0).2) x.1 x.2 := by rw [ show (fun v0 v1 => w82l2 N n (v0, v1) (fun y => K (w82X2_0 y).1 (w82X2_0 y).2) (fun y => K ((noX 1) y).1 ((noX 1) y).2) (fun y => K ((noX 2) y).1 ((noX 2) y).2)) = (fun v0 v1 => loopX (w82c N) Tryd.f82.ntmps (w82h2 N) w82b2 w82m2 w82w2 n (w82I2 (v0, v1)) K) from funext fun _ => funext fun _ => ih _]
    exact h.trans (w82q2 N (fun σ => loopX (w82c N) Tryd.f82.ntmps (w82h2 N) w82b2 w82m2 w82w2 n σ K) K x)) N x K)
def w82G [Alg] (N : Nat) (in0 : (List UInt8) → Int → ((List UInt8) → Int → O) → O) (in1 : (List UInt8) → Int → Int → ((List UInt8) → Int → O) → O) (in2 : Int → (List UInt8) → ((List UInt8) → O) → O) (x0 : (List UInt8)) (count1 : Int) : O :=
  in0 x0 count1
    (fun z1 z2 =>
      ck (w91p N (IntKind.u64.wrap (↑z1.length : Int)) (IntKind.u64.wrap z2)) <|
      in1 z1 (w91y0 N (IntKind.u64.wrap (↑z1.length : Int)) (IntKind.u64.wrap z2)) (w91y1 N (IntKind.u64.wrap (↑z1.length : Int)) (IntKind.u64.wrap z2))
        (fun z4 z5 =>
          ck (decide ((0 : Int) ≤ IntKind.i64.wrap z5)) <|
          ck (lim (IntKind.i64.wrap z5).toNat (1 : Nat)) <|
          ck (decide ((0 : Nat) + (List.replicate (IntKind.i64.wrap z5).toNat (0 : UInt8)).length ≤ (List.replicate (IntKind.i64.wrap z5).toNat (0 : UInt8)).length)) <|
          in2 ((↑(min z4.length (List.replicate (IntKind.i64.wrap z5).toNat (0 : UInt8)).length) : Int)) (List.take (0 : Nat) (List.replicate (IntKind.i64.wrap z5).toNat (0 : UInt8)) ++ List.take (List.replicate (IntKind.i64.wrap z5).toNat (0 : UInt8)).length z4 ++ List.drop ((0 : Nat) + min z4.length (List.replicate (IntKind.i64.wrap z5).toNat (0 : UInt8)).length) (List.replicate (IntKind.i64.wrap z5).toNat (0 : UInt8)))
            (fun z7 =>
              some (w82r0 z7))))
def w82 [Alg] (N : Nat) (x0 : (List UInt8)) (count1 : Int) : O := w82G N (w82n0 N) (w82n1 N) (w82n2 N) x0 count1
noncomputable def w82h [Alg] (N : Nat) : Hint := (.seq .d (.seq (.sub w82m0 _ _ _ w82X0_0 (noX 1) (noX 2) (subL w82I0 w82u0 (w82l0 N N))) (.seq .d (.seq (.sub w82m1 _ _ _ w82X1_0 (noX 1) (noX 2) (subL w82I1 w82u1 (w82l1 N N))) (.seq .d (.seq .d (.seq (.block (.sub w82m2 _ _ _ w82X2_0 (noX 1) (noX 2) (subL w82I2 w82u2 (w82l2 N N)))) .d)))))))
theorem w82hk (N : Nat) (hc : CxOk (w82c N)) : HintOk (w82c N) Tryd.f82.ntmps (w82h N) w82b := hk_of _ _ (And.intro trivial (And.intro (w82S0 N hc) (And.intro trivial (And.intro (w82S1 N hc) (And.intro trivial (And.intro trivial (And.intro (w82S2 N hc) trivial)))))))
theorem w82q [Alg] (N : Nat) (x0 : (List UInt8)) (count1 : Int) : w82G N (w82s0 N) (w82s1 N) (w82s2 N) x0 count1 = exec (w82c N) Tryd.f82.ntmps (w82h N) w82b ⟨argT 0 [.e (.sl .u8) x0, .e (.i .i64) count1], [], 100⟩ (finX (w82c N) Tryd.f82 true) := by kernel_rfl
theorem w82does {N : Nat} (hc : CxOk (w82c N)) {x0 : (List UInt8)} {count1 : Int} {r : Res} (h : w82 N x0 count1 = some r) : Does Tryd.prog 82 (([.e (.sl .u8) x0, .e (.i .i64) count1] : List X).map X.D) (HA []) r.1.D (HA r.2) :=
  fun_ok hc (f := 82) (fn := Tryd.f82) (code := w82b) (by kernel_rfl) (by kernel_rfl) (w82hk N hc) (Nat.le_of_ble_eq_true (by kernel_rfl)) (ow := true) ((w82q N x0 count1).symm.trans (by rw [w82e0 N, w82e1 N, w82e2 N]; exact h))
def w82un (r : Res) : Option ((List UInt8)) := match r with
  | (.own 100, [(100, x0)]) => (match ur 5 .u8 false x0 with | some a0 => some a0 | _ => none)
  | _ => none
theorem w82uo {r : Res} {d : (List UInt8)} (h : w82un r = some d) : r = w82r0 (d) := by
  unfold w82un at h
  split at h
  · split at h
    · rename_i h0; cases h; rw [ur_some h0]; rfl
    · cases h
  · cases h
def w82z (N : Nat) (x0 : (List UInt8)) (count1 : Int) : Option ((List UInt8)) := (w82 N x0 count1).bind w82un
theorem w82fin {N : Nat} (hc : CxOk (w82c N)) {x0 : (List UInt8)} {count1 : Int} {d : (List UInt8)} (hd : w82z N x0 count1 = some d) : Does Tryd.prog 82 (([.e (.sl .u8) x0, .e (.i .i64) count1] : List X).map X.D) (HA []) (w82r0 (d)).1.D (HA (w82r0 (d)).2) := by
  obtain ⟨r, hr, hu⟩ := Option.bind_eq_some_iff.1 hd
  have := w82does hc hr
  rw [w82uo hu] at this
  exact this
def w82p (N : Nat) (x0 : (List UInt8)) (count1 : Int) : Bool := (w82z N x0 count1).isSome
def w82y0 (N : Nat) (x0 : (List UInt8)) (count1 : Int) : (List UInt8) := ((w82z N x0 count1).getD [])
def w82e (N : Nat) : Ent' := E2 (.sl .u8) (.i .i64)  (fun x0 x1 => (w82p N x0 x1, w82r0 (w82y0 N x0 x1)))
theorem w82re {N : Nat} {x0 : (List UInt8)} {count1 : Int} {d : (List UInt8)} (hd : w82z N x0 count1 = some d) : w82r0 (w82y0 N x0 count1) = w82r0 (d) := by unfold w82y0; rw [hd]; rfl
theorem w82ok (N : Nat) : EOk Tryd.prog 82 (w82e N) := EOk.e2 (fun x0 x1 h => by
  have h : (w82z N x0 x1).isSome = true := h
  obtain ⟨d, hd⟩ := Option.isSome_iff_exists.1 h
  have f := w82fin (w82cx N) hd
  rw [← w82re hd] at f
  exact f)
def w66r0 (a0 : Int) (a1 : (List (List UInt8))) : Res := (.tup [], [(50, .box 82 [.own 100, .e (.i .i64) a0]), (100, .nest 42 5 .u8 a1)])
noncomputable def w66L (N : Nat) : List (Nat × Ent') := [(82, w82e N)]
noncomputable def w66c (N : Nat) : Cx := ⟨Tryd.prog, 99999, w66L N⟩
noncomputable def w66b : Code := Tryd.f66.body.getD .skip
theorem w66cx (N : Nat) : CxOk (w66c N) := ctx_ok (by kernel_rfl) (.cons (by kernel_rfl) (w82ok N) .nil)
def w66G [Alg] (N : Nat)  (h50_0 : Int) (h51_0 : (List (List UInt8))) : O :=
  ck (w82p N [(18 : UInt8)] h50_0) <|
  ck (lim (h51_0.length + [w82y0 N [(18 : UInt8)] h50_0].length) (24 : Nat)) <|
  some (w66r0 h50_0 (h51_0 ++ [w82y0 N [(18 : UInt8)] h50_0]))
def w66 [Alg] (N : Nat) (h50_0 : Int) (h51_0 : (List (List UInt8))) : O := w66G N  h50_0 h51_0
noncomputable def w66h [Alg] (_ : Nat) : Hint := (.reg [] [] [[], [], [], [], [], [], [], [], [], [], [], [188, 180], [196, 51, 188], [], [], [50]])
theorem w66hk (N : Nat) : HintOk (w66c N) Tryd.f66.ntmps (w66h N) w66b := hk_of _ _ trivial
theorem w66q [Alg] (N : Nat) (h50_0 : Int) (h51_0 : (List (List UInt8))) : w66G N  h50_0 h51_0 = exec (w66c N) Tryd.f66.ntmps (w66h N) w66b ⟨argT 0 [.ref 50 0], [(50, .box 82 [.own 51, .e (.i .i64) h50_0]), (51, .nest 42 5 .u8 h51_0)], 100⟩ (finX (w66c N) Tryd.f66 true) := by kernel_rfl
theorem w66does {N : Nat} (hc : CxOk (w66c N)) {h50_0 : Int} {h51_0 : (List (List UInt8))} {r : Res} (h : w66 N h50_0 h51_0 = some r) : Does Tryd.prog 66 (([.ref 50 0] : List X).map X.D) (HA [(50, .box 82 [.own 51, .e (.i .i64) h50_0]), (51, .nest 42 5 .u8 h51_0)]) r.1.D (HA r.2) :=
  fun_ok hc (f := 66) (fn := Tryd.f66) (code := w66b) (by kernel_rfl) (by kernel_rfl) (w66hk N) (Nat.le_of_ble_eq_true (by kernel_rfl)) (ow := true) ((w66q N h50_0 h51_0).symm.trans (by exact h))
def w66un (r : Res) : Option (Int × (List (List UInt8))) := match r with
  | (.tup [], [(50, .box 82 [.own 100, x0]), (100, x1)]) => (match ue (.i .i64) x0, uq 42 5 .u8 x1 with | some a0, some a1 => some (a0, a1) | _, _ => none)
  | _ => none
theorem w66uo {r : Res} {d : Int × (List (List UInt8))} (h : w66un r = some d) : r = w66r0 (d.1) (d.2) := by
  unfold w66un at h
  split at h
  · split at h
    · rename_i h0 h1; cases h; rw [ue_some h0, uq_some h1]; rfl
    · cases h
  · cases h
def w66z (N : Nat) (h50_0 : Int) (h51_0 : (List (List UInt8))) : Option (Int × (List (List UInt8))) := (w66 N h50_0 h51_0).bind w66un
theorem w66fin {N : Nat} (hc : CxOk (w66c N)) {h50_0 : Int} {h51_0 : (List (List UInt8))} {d : Int × (List (List UInt8))} (hd : w66z N h50_0 h51_0 = some d) : Does Tryd.prog 66 (([.ref 50 0] : List X).map X.D) (HA [(50, .box 82 [.own 51, .e (.i .i64) h50_0]), (51, .nest 42 5 .u8 h51_0)]) (w66r0 (d.1) (d.2)).1.D (HA (w66r0 (d.1) (d.2)).2) := by
  obtain ⟨r, hr, hu⟩ := Option.bind_eq_some_iff.1 hd
  have := w66does hc hr
  rw [w66uo hu] at this
  exact this
def w66p (N : Nat) (h50_0 : Int) (h51_0 : (List (List UInt8))) : Bool := (w66z N h50_0 h51_0).isSome
def w66y0 (N : Nat) (h50_0 : Int) (h51_0 : (List (List UInt8))) : Int := ((w66z N h50_0 h51_0).getD (0, [])).1
def w66y1 (N : Nat) (h50_0 : Int) (h51_0 : (List (List UInt8))) : (List (List UInt8)) := ((w66z N h50_0 h51_0).getD (0, [])).2
def w66in (xs : List X) (H : XH) : Option (Int × (List (List UInt8))) := match xs, H with
  | [.ref 50 0], [(50, .box 82 [.own 51, x0]), (51, x1)] => (match ue (.i .i64) x0, uq 42 5 .u8 x1 with | some a0, some a1 => some (a0, a1) | _, _ => none)
  | _, _ => none
theorem w66io {xs : List X} {H : XH} {d : Int × (List (List UInt8))} (h : w66in xs H = some d) : xs = [.ref 50 0] ∧ H = [(50, .box 82 [.own 51, .e (.i .i64) (d.1)]), (51, .nest 42 5 .u8 (d.2))] := by
  unfold w66in at h
  split at h
  · split at h
    · rename_i h0 h1; cases h; rw [ue_some h0, uq_some h1]; exact ⟨rfl, rfl⟩
    · cases h
  · cases h
def w66e (N : Nat) : Ent' := fun xs H => match w66in xs H with | some d => some (w66p N (d.1) (d.2), w66r0 (w66y0 N (d.1) (d.2)) (w66y1 N (d.1) (d.2))) | none => none
theorem w66re {N : Nat} {h50_0 : Int} {h51_0 : (List (List UInt8))} {d : Int × (List (List UInt8))} (hd : w66z N h50_0 h51_0 = some d) : w66r0 (w66y0 N h50_0 h51_0) (w66y1 N h50_0 h51_0) = w66r0 (d.1) (d.2) := by unfold w66y0 w66y1; rw [hd]; rfl
theorem w66ok (N : Nat) : EOk Tryd.prog 66 (w66e N) := fun xs H pre r he hp => by
  unfold w66e at he
  split at he
  · rename_i d hd
    have he := Option.some.inj he
    have h1 := congrArg Prod.fst he
    have h2 := congrArg Prod.snd he
    simp only at h1 h2
    obtain ⟨e1, e2⟩ := w66io hd
    rw [e1, e2, ← h2]
    have h : (w66z N (d.1) (d.2)).isSome = true := h1.trans hp
    obtain ⟨d', hd'⟩ := Option.isSome_iff_exists.1 h
    have f := w66fin (w66cx N) hd'
    rw [← w66re hd'] at f
    exact f
  · cases he
end
end Go.Proofs
